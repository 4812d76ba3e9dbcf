/- The table of the functions. -/
import Derived.KernelRfl
import Derived.Test.YtfjgcfloallohaaIr0
namespace Go.EnvOf
open Go Go.Eng
set_option maxRecDepth 100000
def tab : List (Nat × IFn) := [(3, ir3), (4, ir4), (7, ir7), (8, ir8), (17, ir17), (18, ir18), (19, ir19), (20, ir20), (21, ir21), (22, ir22), (23, ir23), (24, ir24), (25, ir25), (26, ir26), (27, ir27), (28, ir28), (29, ir29), (30, ir30), (31, ir31), (32, ir32), (33, ir33), (44, ir44), (45, ir45), (46, ir46), (47, ir47), (48, ir48), (49, ir49), (50, ir50), (51, ir51), (52, ir52), (84, ir84), (85, ir85), (86, ir86), (87, ir87), (88, ir88), (89, ir89), (93, ir93), (94, ir94), (95, ir95), (96, ir96), (97, ir97), (98, ir98), (99, ir99), (100, ir100), (101, ir101), (102, ir102), (103, ir103), (104, ir104), (105, ir105), (106, ir106), (107, ir107), (108, ir108), (109, ir109), (110, ir110), (111, ir111), (139, ir139), (140, ir140), (141, ir141), (142, ir142), (143, ir143), (144, ir144), (145, ir145), (146, ir146), (147, ir147), (148, ir148), (149, ir149), (177, ir177), (178, ir178), (179, ir179), (180, ir180), (181, ir181)]
def fnsT (f : FuncId) : Option IFn := (tab.find? fun p => p.1 == f).map (·.2)
def EE : Env := ⟨fnsT, fun _ => none⟩
theorem noP (f : FuncId) : EE.prims f = none := rfl
theorem fn3 : EE.fns 3 = some ir3 := by kernel_rfl
theorem fn4 : EE.fns 4 = some ir4 := by kernel_rfl
theorem fn7 : EE.fns 7 = some ir7 := by kernel_rfl
theorem fn8 : EE.fns 8 = some ir8 := by kernel_rfl
theorem fn17 : EE.fns 17 = some ir17 := by kernel_rfl
theorem fn18 : EE.fns 18 = some ir18 := by kernel_rfl
theorem fn19 : EE.fns 19 = some ir19 := by kernel_rfl
theorem fn20 : EE.fns 20 = some ir20 := by kernel_rfl
theorem fn21 : EE.fns 21 = some ir21 := by kernel_rfl
theorem fn22 : EE.fns 22 = some ir22 := by kernel_rfl
theorem fn23 : EE.fns 23 = some ir23 := by kernel_rfl
theorem fn24 : EE.fns 24 = some ir24 := by kernel_rfl
theorem fn25 : EE.fns 25 = some ir25 := by kernel_rfl
theorem fn26 : EE.fns 26 = some ir26 := by kernel_rfl
theorem fn27 : EE.fns 27 = some ir27 := by kernel_rfl
theorem fn28 : EE.fns 28 = some ir28 := by kernel_rfl
theorem fn29 : EE.fns 29 = some ir29 := by kernel_rfl
theorem fn30 : EE.fns 30 = some ir30 := by kernel_rfl
theorem fn31 : EE.fns 31 = some ir31 := by kernel_rfl
theorem fn32 : EE.fns 32 = some ir32 := by kernel_rfl
theorem fn33 : EE.fns 33 = some ir33 := by kernel_rfl
theorem fn44 : EE.fns 44 = some ir44 := by kernel_rfl
theorem fn45 : EE.fns 45 = some ir45 := by kernel_rfl
theorem fn46 : EE.fns 46 = some ir46 := by kernel_rfl
theorem fn47 : EE.fns 47 = some ir47 := by kernel_rfl
theorem fn48 : EE.fns 48 = some ir48 := by kernel_rfl
theorem fn49 : EE.fns 49 = some ir49 := by kernel_rfl
theorem fn50 : EE.fns 50 = some ir50 := by kernel_rfl
theorem fn51 : EE.fns 51 = some ir51 := by kernel_rfl
theorem fn52 : EE.fns 52 = some ir52 := by kernel_rfl
theorem fn84 : EE.fns 84 = some ir84 := by kernel_rfl
theorem fn85 : EE.fns 85 = some ir85 := by kernel_rfl
theorem fn86 : EE.fns 86 = some ir86 := by kernel_rfl
theorem fn87 : EE.fns 87 = some ir87 := by kernel_rfl
theorem fn88 : EE.fns 88 = some ir88 := by kernel_rfl
theorem fn89 : EE.fns 89 = some ir89 := by kernel_rfl
theorem fn93 : EE.fns 93 = some ir93 := by kernel_rfl
theorem fn94 : EE.fns 94 = some ir94 := by kernel_rfl
theorem fn95 : EE.fns 95 = some ir95 := by kernel_rfl
theorem fn96 : EE.fns 96 = some ir96 := by kernel_rfl
theorem fn97 : EE.fns 97 = some ir97 := by kernel_rfl
theorem fn98 : EE.fns 98 = some ir98 := by kernel_rfl
theorem fn99 : EE.fns 99 = some ir99 := by kernel_rfl
theorem fn100 : EE.fns 100 = some ir100 := by kernel_rfl
theorem fn101 : EE.fns 101 = some ir101 := by kernel_rfl
theorem fn102 : EE.fns 102 = some ir102 := by kernel_rfl
theorem fn103 : EE.fns 103 = some ir103 := by kernel_rfl
theorem fn104 : EE.fns 104 = some ir104 := by kernel_rfl
theorem fn105 : EE.fns 105 = some ir105 := by kernel_rfl
theorem fn106 : EE.fns 106 = some ir106 := by kernel_rfl
theorem fn107 : EE.fns 107 = some ir107 := by kernel_rfl
theorem fn108 : EE.fns 108 = some ir108 := by kernel_rfl
theorem fn109 : EE.fns 109 = some ir109 := by kernel_rfl
theorem fn110 : EE.fns 110 = some ir110 := by kernel_rfl
theorem fn111 : EE.fns 111 = some ir111 := by kernel_rfl
theorem fn139 : EE.fns 139 = some ir139 := by kernel_rfl
theorem fn140 : EE.fns 140 = some ir140 := by kernel_rfl
theorem fn141 : EE.fns 141 = some ir141 := by kernel_rfl
theorem fn142 : EE.fns 142 = some ir142 := by kernel_rfl
theorem fn143 : EE.fns 143 = some ir143 := by kernel_rfl
theorem fn144 : EE.fns 144 = some ir144 := by kernel_rfl
theorem fn145 : EE.fns 145 = some ir145 := by kernel_rfl
theorem fn146 : EE.fns 146 = some ir146 := by kernel_rfl
theorem fn147 : EE.fns 147 = some ir147 := by kernel_rfl
theorem fn148 : EE.fns 148 = some ir148 := by kernel_rfl
theorem fn149 : EE.fns 149 = some ir149 := by kernel_rfl
theorem fn177 : EE.fns 177 = some ir177 := by kernel_rfl
theorem fn178 : EE.fns 178 = some ir178 := by kernel_rfl
theorem fn179 : EE.fns 179 = some ir179 := by kernel_rfl
theorem fn180 : EE.fns 180 = some ir180 := by kernel_rfl
theorem fn181 : EE.fns 181 = some ir181 := by kernel_rfl
end Go.EnvOf
