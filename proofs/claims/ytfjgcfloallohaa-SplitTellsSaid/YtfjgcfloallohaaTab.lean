/- The table of the functions. -/
import Derived.KernelRfl
import Derived.Test.YtfjgcfloallohaaIr0
namespace Go.EnvOf
open Go Go.Eng
set_option maxRecDepth 100000
def tab : List (Nat × IFn) := [(4, ir4), (6, ir6), (17, ir17), (18, ir18), (20, ir20), (22, ir22), (25, ir25), (27, ir27), (29, ir29), (30, ir30), (34, ir34), (35, ir35), (36, ir36), (37, ir37), (38, ir38), (39, ir39), (40, ir40), (41, ir41), (42, ir42), (43, ir43), (84, ir84), (86, ir86), (87, ir87), (90, ir90), (91, ir91), (92, ir92), (137, ir137), (138, ir138), (173, ir173), (174, ir174), (175, ir175), (176, ir176)]
def fnsT (f : FuncId) : Option IFn := (tab.find? fun p => p.1 == f).map (·.2)
def EE : Env := ⟨fnsT, fun _ => none⟩
theorem noP (f : FuncId) : EE.prims f = none := rfl
theorem fn4 : EE.fns 4 = some ir4 := by kernel_rfl
theorem fn6 : EE.fns 6 = some ir6 := by kernel_rfl
theorem fn17 : EE.fns 17 = some ir17 := by kernel_rfl
theorem fn18 : EE.fns 18 = some ir18 := by kernel_rfl
theorem fn20 : EE.fns 20 = some ir20 := by kernel_rfl
theorem fn22 : EE.fns 22 = some ir22 := by kernel_rfl
theorem fn25 : EE.fns 25 = some ir25 := by kernel_rfl
theorem fn27 : EE.fns 27 = some ir27 := by kernel_rfl
theorem fn29 : EE.fns 29 = some ir29 := by kernel_rfl
theorem fn30 : EE.fns 30 = some ir30 := by kernel_rfl
theorem fn34 : EE.fns 34 = some ir34 := by kernel_rfl
theorem fn35 : EE.fns 35 = some ir35 := by kernel_rfl
theorem fn36 : EE.fns 36 = some ir36 := by kernel_rfl
theorem fn37 : EE.fns 37 = some ir37 := by kernel_rfl
theorem fn38 : EE.fns 38 = some ir38 := by kernel_rfl
theorem fn39 : EE.fns 39 = some ir39 := by kernel_rfl
theorem fn40 : EE.fns 40 = some ir40 := by kernel_rfl
theorem fn41 : EE.fns 41 = some ir41 := by kernel_rfl
theorem fn42 : EE.fns 42 = some ir42 := by kernel_rfl
theorem fn43 : EE.fns 43 = some ir43 := by kernel_rfl
theorem fn84 : EE.fns 84 = some ir84 := by kernel_rfl
theorem fn86 : EE.fns 86 = some ir86 := by kernel_rfl
theorem fn87 : EE.fns 87 = some ir87 := by kernel_rfl
theorem fn90 : EE.fns 90 = some ir90 := by kernel_rfl
theorem fn91 : EE.fns 91 = some ir91 := by kernel_rfl
theorem fn92 : EE.fns 92 = some ir92 := by kernel_rfl
theorem fn137 : EE.fns 137 = some ir137 := by kernel_rfl
theorem fn138 : EE.fns 138 = some ir138 := by kernel_rfl
theorem fn173 : EE.fns 173 = some ir173 := by kernel_rfl
theorem fn174 : EE.fns 174 = some ir174 := by kernel_rfl
theorem fn175 : EE.fns 175 = some ir175 := by kernel_rfl
theorem fn176 : EE.fns 176 = some ir176 := by kernel_rfl
end Go.EnvOf
