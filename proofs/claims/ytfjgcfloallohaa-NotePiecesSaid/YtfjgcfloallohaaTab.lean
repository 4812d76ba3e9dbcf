/- The table of the functions. -/
import Derived.KernelRfl
import Derived.Test.YtfjgcfloallohaaIr0
namespace Go.EnvOf
open Go Go.Eng
set_option maxRecDepth 100000
def tab : List (Nat × IFn) := [(3, ir3), (4, ir4), (5, ir5), (17, ir17), (18, ir18), (19, ir19), (20, ir20), (21, ir21), (22, ir22), (23, ir23), (24, ir24), (25, ir25), (26, ir26), (27, ir27), (28, ir28), (29, ir29), (30, ir30), (31, ir31), (32, ir32), (33, ir33), (84, ir84), (85, ir85), (86, ir86), (87, ir87), (88, ir88), (89, ir89)]
def fnsT (f : FuncId) : Option IFn := (tab.find? fun p => p.1 == f).map (·.2)
def EE : Env := ⟨fnsT, fun _ => none⟩
theorem noP (f : FuncId) : EE.prims f = none := rfl
theorem fn3 : EE.fns 3 = some ir3 := by kernel_rfl
theorem fn4 : EE.fns 4 = some ir4 := by kernel_rfl
theorem fn5 : EE.fns 5 = some ir5 := by kernel_rfl
theorem fn17 : EE.fns 17 = some ir17 := by kernel_rfl
theorem fn18 : EE.fns 18 = some ir18 := by kernel_rfl
theorem fn19 : EE.fns 19 = some ir19 := by kernel_rfl
theorem fn20 : EE.fns 20 = some ir20 := by kernel_rfl
theorem fn21 : EE.fns 21 = some ir21 := by kernel_rfl
theorem fn22 : EE.fns 22 = some ir22 := by kernel_rfl
theorem fn23 : EE.fns 23 = some ir23 := by kernel_rfl
theorem fn24 : EE.fns 24 = some ir24 := by kernel_rfl
theorem fn25 : EE.fns 25 = some ir25 := by kernel_rfl
theorem fn26 : EE.fns 26 = some ir26 := by kernel_rfl
theorem fn27 : EE.fns 27 = some ir27 := by kernel_rfl
theorem fn28 : EE.fns 28 = some ir28 := by kernel_rfl
theorem fn29 : EE.fns 29 = some ir29 := by kernel_rfl
theorem fn30 : EE.fns 30 = some ir30 := by kernel_rfl
theorem fn31 : EE.fns 31 = some ir31 := by kernel_rfl
theorem fn32 : EE.fns 32 = some ir32 := by kernel_rfl
theorem fn33 : EE.fns 33 = some ir33 := by kernel_rfl
theorem fn84 : EE.fns 84 = some ir84 := by kernel_rfl
theorem fn85 : EE.fns 85 = some ir85 := by kernel_rfl
theorem fn86 : EE.fns 86 = some ir86 := by kernel_rfl
theorem fn87 : EE.fns 87 = some ir87 := by kernel_rfl
theorem fn88 : EE.fns 88 = some ir88 := by kernel_rfl
theorem fn89 : EE.fns 89 = some ir89 := by kernel_rfl
end Go.EnvOf
