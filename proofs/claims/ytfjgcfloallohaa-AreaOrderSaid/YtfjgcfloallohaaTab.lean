/- The table of the functions. -/
import Derived.KernelRfl
import Derived.Test.YtfjgcfloallohaaEngAll2
import Derived.Test.YtfjgcfloallohaaIr0
namespace Go.EnvOf
open Go Go.Eng
set_option maxRecDepth 100000
def tab : List (Nat × IFn) := [(14, ir14), (15, ir15), (16, ir16), (24, ir24), (67, ir67), (68, ir68), (69, ir69), (70, ir70), (71, ir71), (72, ir72), (73, ir73), (74, ir74), (75, ir75), (76, ir76), (77, ir77), (78, ir78), (79, ir79), (80, ir80), (81, ir81), (82, ir82), (83, ir83), (89, ir89), (121, ir121), (123, ir123), (124, ir124), (125, ir125), (126, ir126), (127, ir127), (128, ir128), (129, ir129), (130, ir130), (131, ir131), (132, ir132), (133, ir133), (134, ir134), (135, ir135), (136, ir136), (170, ir170), (171, ir171), (172, ir172), (216, ir216), (217, ir217), (218, ir218), (219, ir219)]
def fnsT (f : FuncId) : Option IFn := (tab.find? fun p => p.1 == f).map (·.2)
def primT (f : FuncId) : Option (List V → Heap → Option CR) := if f = 122 then some sortP else none
def EE : Env := ⟨fnsT, primT⟩
theorem noP (f : FuncId) (h : f ≠ 122 := by decide) : EE.prims f = none := if_neg h
theorem sortP_fn : EE.prims 122 = some sortP := rfl
theorem fn14 : EE.fns 14 = some ir14 := by kernel_rfl
theorem fn15 : EE.fns 15 = some ir15 := by kernel_rfl
theorem fn16 : EE.fns 16 = some ir16 := by kernel_rfl
theorem fn24 : EE.fns 24 = some ir24 := by kernel_rfl
theorem fn67 : EE.fns 67 = some ir67 := by kernel_rfl
theorem fn68 : EE.fns 68 = some ir68 := by kernel_rfl
theorem fn69 : EE.fns 69 = some ir69 := by kernel_rfl
theorem fn70 : EE.fns 70 = some ir70 := by kernel_rfl
theorem fn71 : EE.fns 71 = some ir71 := by kernel_rfl
theorem fn72 : EE.fns 72 = some ir72 := by kernel_rfl
theorem fn73 : EE.fns 73 = some ir73 := by kernel_rfl
theorem fn74 : EE.fns 74 = some ir74 := by kernel_rfl
theorem fn75 : EE.fns 75 = some ir75 := by kernel_rfl
theorem fn76 : EE.fns 76 = some ir76 := by kernel_rfl
theorem fn77 : EE.fns 77 = some ir77 := by kernel_rfl
theorem fn78 : EE.fns 78 = some ir78 := by kernel_rfl
theorem fn79 : EE.fns 79 = some ir79 := by kernel_rfl
theorem fn80 : EE.fns 80 = some ir80 := by kernel_rfl
theorem fn81 : EE.fns 81 = some ir81 := by kernel_rfl
theorem fn82 : EE.fns 82 = some ir82 := by kernel_rfl
theorem fn83 : EE.fns 83 = some ir83 := by kernel_rfl
theorem fn89 : EE.fns 89 = some ir89 := by kernel_rfl
theorem fn121 : EE.fns 121 = some ir121 := by kernel_rfl
theorem fn123 : EE.fns 123 = some ir123 := by kernel_rfl
theorem fn124 : EE.fns 124 = some ir124 := by kernel_rfl
theorem fn125 : EE.fns 125 = some ir125 := by kernel_rfl
theorem fn126 : EE.fns 126 = some ir126 := by kernel_rfl
theorem fn127 : EE.fns 127 = some ir127 := by kernel_rfl
theorem fn128 : EE.fns 128 = some ir128 := by kernel_rfl
theorem fn129 : EE.fns 129 = some ir129 := by kernel_rfl
theorem fn130 : EE.fns 130 = some ir130 := by kernel_rfl
theorem fn131 : EE.fns 131 = some ir131 := by kernel_rfl
theorem fn132 : EE.fns 132 = some ir132 := by kernel_rfl
theorem fn133 : EE.fns 133 = some ir133 := by kernel_rfl
theorem fn134 : EE.fns 134 = some ir134 := by kernel_rfl
theorem fn135 : EE.fns 135 = some ir135 := by kernel_rfl
theorem fn136 : EE.fns 136 = some ir136 := by kernel_rfl
theorem fn170 : EE.fns 170 = some ir170 := by kernel_rfl
theorem fn171 : EE.fns 171 = some ir171 := by kernel_rfl
theorem fn172 : EE.fns 172 = some ir172 := by kernel_rfl
theorem fn216 : EE.fns 216 = some ir216 := by kernel_rfl
theorem fn217 : EE.fns 217 = some ir217 := by kernel_rfl
theorem fn218 : EE.fns 218 = some ir218 := by kernel_rfl
theorem fn219 : EE.fns 219 = some ir219 := by kernel_rfl
end Go.EnvOf
