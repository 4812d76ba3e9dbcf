/- The table of the functions. -/
import Derived.KernelRfl
import Derived.Test.YtfjgcfloallohaaEngAll7
import Derived.Test.YtfjgcfloallohaaIr0
namespace Go.EnvOf
open Go Go.Eng
set_option maxRecDepth 100000
def tab : List (Nat × IFn) := [(14, ir14), (15, ir15), (24, ir24), (67, ir67), (68, ir68), (69, ir69), (70, ir70), (71, ir71), (72, ir72), (73, ir73), (74, ir74), (75, ir75), (76, ir76), (77, ir77), (78, ir78), (79, ir79), (80, ir80), (89, ir89), (121, ir121), (123, ir123), (124, ir124), (125, ir125), (126, ir126), (127, ir127), (128, ir128), (129, ir129)]
def fnsT (f : FuncId) : Option IFn := (tab.find? fun p => p.1 == f).map (·.2)
def primT (f : FuncId) : Option (List V → Heap → Option CR) := if f = 122 then some sortP else none
def EE : Env := ⟨fnsT, primT⟩
theorem noP (f : FuncId) (h : f ≠ 122 := by decide) : EE.prims f = none := if_neg h
theorem sortP_fn : EE.prims 122 = some sortP := rfl
theorem fn14 : EE.fns 14 = some ir14 := by kernel_rfl
theorem fn15 : EE.fns 15 = some ir15 := by kernel_rfl
theorem fn24 : EE.fns 24 = some ir24 := by kernel_rfl
theorem fn67 : EE.fns 67 = some ir67 := by kernel_rfl
theorem fn68 : EE.fns 68 = some ir68 := by kernel_rfl
theorem fn69 : EE.fns 69 = some ir69 := by kernel_rfl
theorem fn70 : EE.fns 70 = some ir70 := by kernel_rfl
theorem fn71 : EE.fns 71 = some ir71 := by kernel_rfl
theorem fn72 : EE.fns 72 = some ir72 := by kernel_rfl
theorem fn73 : EE.fns 73 = some ir73 := by kernel_rfl
theorem fn74 : EE.fns 74 = some ir74 := by kernel_rfl
theorem fn75 : EE.fns 75 = some ir75 := by kernel_rfl
theorem fn76 : EE.fns 76 = some ir76 := by kernel_rfl
theorem fn77 : EE.fns 77 = some ir77 := by kernel_rfl
theorem fn78 : EE.fns 78 = some ir78 := by kernel_rfl
theorem fn79 : EE.fns 79 = some ir79 := by kernel_rfl
theorem fn80 : EE.fns 80 = some ir80 := by kernel_rfl
theorem fn89 : EE.fns 89 = some ir89 := by kernel_rfl
theorem fn121 : EE.fns 121 = some ir121 := by kernel_rfl
theorem fn123 : EE.fns 123 = some ir123 := by kernel_rfl
theorem fn124 : EE.fns 124 = some ir124 := by kernel_rfl
theorem fn125 : EE.fns 125 = some ir125 := by kernel_rfl
theorem fn126 : EE.fns 126 = some ir126 := by kernel_rfl
theorem fn127 : EE.fns 127 = some ir127 := by kernel_rfl
theorem fn128 : EE.fns 128 = some ir128 := by kernel_rfl
theorem fn129 : EE.fns 129 = some ir129 := by kernel_rfl
end Go.EnvOf
