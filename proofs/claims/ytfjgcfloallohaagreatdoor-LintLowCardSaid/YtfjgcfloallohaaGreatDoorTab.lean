/- The table of the functions. -/
import Derived.KernelRfl
import Derived.Test.YtfjgcfloallohaaGreatDoorEngAll2
import Derived.Test.YtfjgcfloallohaaGreatDoorIr0
import Derived.Test.YtfjgcfloallohaaGreatDoorIr1
namespace Go.EnvOf
open Go Go.Eng
set_option maxRecDepth 100000
def tab : List (Nat × IFn) := [(3, ir3), (4, ir4), (5, ir5), (6, ir6), (7, ir7), (8, ir8), (9, ir9), (10, ir10), (12, ir12), (13, ir13), (14, ir14), (15, ir15), (16, ir16), (17, ir17), (18, ir18), (19, ir19), (20, ir20), (21, ir21), (22, ir22), (23, ir23), (24, ir24), (25, ir25), (26, ir26), (27, ir27), (28, ir28), (29, ir29), (30, ir30), (31, ir31), (32, ir32), (33, ir33), (34, ir34), (35, ir35), (36, ir36), (37, ir37), (38, ir38), (39, ir39), (40, ir40), (41, ir41), (42, ir42), (43, ir43), (44, ir44), (45, ir45), (46, ir46), (47, ir47), (48, ir48), (49, ir49), (50, ir50), (51, ir51), (52, ir52), (53, ir53), (54, ir54), (55, ir55), (56, ir56), (57, ir57), (58, ir58), (59, ir59), (60, ir60), (61, ir61), (62, ir62), (63, ir63), (64, ir64), (65, ir65), (66, ir66), (67, ir67), (68, ir68), (69, ir69), (70, ir70), (71, ir71), (72, ir72), (73, ir73), (74, ir74), (75, ir75), (76, ir76), (77, ir77), (78, ir78), (79, ir79), (80, ir80), (81, ir81), (82, ir82), (83, ir83), (84, ir84), (85, ir85), (86, ir86), (87, ir87), (88, ir88), (89, ir89), (90, ir90), (91, ir91), (92, ir92), (93, ir93), (94, ir94), (95, ir95), (96, ir96), (97, ir97), (98, ir98), (99, ir99), (100, ir100), (101, ir101), (102, ir102), (103, ir103), (104, ir104), (105, ir105), (106, ir106), (107, ir107), (108, ir108), (109, ir109), (110, ir110), (111, ir111), (112, ir112), (113, ir113), (114, ir114), (115, ir115), (116, ir116), (117, ir117), (118, ir118), (119, ir119), (120, ir120), (121, ir121), (122, ir122), (123, ir123), (124, ir124), (125, ir125), (126, ir126), (127, ir127), (128, ir128), (129, ir129), (130, ir130), (131, ir131), (132, ir132), (133, ir133), (134, ir134), (135, ir135), (136, ir136)]
def fnsT (f : FuncId) : Option IFn := (tab.find? fun p => p.1 == f).map (·.2)
def primT (f : FuncId) : Option (List V → Heap → Option CR) := if f = 11 then some nameP else none
def EE : Env := ⟨fnsT, primT⟩
theorem noP (f : FuncId) (h : f ≠ 11 := by decide) : EE.prims f = none := if_neg h
theorem nameP_fn : EE.prims 11 = some nameP := rfl
theorem fn3 : EE.fns 3 = some ir3 := by kernel_rfl
theorem fn4 : EE.fns 4 = some ir4 := by kernel_rfl
theorem fn5 : EE.fns 5 = some ir5 := by kernel_rfl
theorem fn6 : EE.fns 6 = some ir6 := by kernel_rfl
theorem fn7 : EE.fns 7 = some ir7 := by kernel_rfl
theorem fn8 : EE.fns 8 = some ir8 := by kernel_rfl
theorem fn9 : EE.fns 9 = some ir9 := by kernel_rfl
theorem fn10 : EE.fns 10 = some ir10 := by kernel_rfl
theorem fn12 : EE.fns 12 = some ir12 := by kernel_rfl
theorem fn13 : EE.fns 13 = some ir13 := by kernel_rfl
theorem fn14 : EE.fns 14 = some ir14 := by kernel_rfl
theorem fn15 : EE.fns 15 = some ir15 := by kernel_rfl
theorem fn16 : EE.fns 16 = some ir16 := by kernel_rfl
theorem fn17 : EE.fns 17 = some ir17 := by kernel_rfl
theorem fn18 : EE.fns 18 = some ir18 := by kernel_rfl
theorem fn19 : EE.fns 19 = some ir19 := by kernel_rfl
theorem fn20 : EE.fns 20 = some ir20 := by kernel_rfl
theorem fn21 : EE.fns 21 = some ir21 := by kernel_rfl
theorem fn22 : EE.fns 22 = some ir22 := by kernel_rfl
theorem fn23 : EE.fns 23 = some ir23 := by kernel_rfl
theorem fn24 : EE.fns 24 = some ir24 := by kernel_rfl
theorem fn25 : EE.fns 25 = some ir25 := by kernel_rfl
theorem fn26 : EE.fns 26 = some ir26 := by kernel_rfl
theorem fn27 : EE.fns 27 = some ir27 := by kernel_rfl
theorem fn28 : EE.fns 28 = some ir28 := by kernel_rfl
theorem fn29 : EE.fns 29 = some ir29 := by kernel_rfl
theorem fn30 : EE.fns 30 = some ir30 := by kernel_rfl
theorem fn31 : EE.fns 31 = some ir31 := by kernel_rfl
theorem fn32 : EE.fns 32 = some ir32 := by kernel_rfl
theorem fn33 : EE.fns 33 = some ir33 := by kernel_rfl
theorem fn34 : EE.fns 34 = some ir34 := by kernel_rfl
theorem fn35 : EE.fns 35 = some ir35 := by kernel_rfl
theorem fn36 : EE.fns 36 = some ir36 := by kernel_rfl
theorem fn37 : EE.fns 37 = some ir37 := by kernel_rfl
theorem fn38 : EE.fns 38 = some ir38 := by kernel_rfl
theorem fn39 : EE.fns 39 = some ir39 := by kernel_rfl
theorem fn40 : EE.fns 40 = some ir40 := by kernel_rfl
theorem fn41 : EE.fns 41 = some ir41 := by kernel_rfl
theorem fn42 : EE.fns 42 = some ir42 := by kernel_rfl
theorem fn43 : EE.fns 43 = some ir43 := by kernel_rfl
theorem fn44 : EE.fns 44 = some ir44 := by kernel_rfl
theorem fn45 : EE.fns 45 = some ir45 := by kernel_rfl
theorem fn46 : EE.fns 46 = some ir46 := by kernel_rfl
theorem fn47 : EE.fns 47 = some ir47 := by kernel_rfl
theorem fn48 : EE.fns 48 = some ir48 := by kernel_rfl
theorem fn49 : EE.fns 49 = some ir49 := by kernel_rfl
theorem fn50 : EE.fns 50 = some ir50 := by kernel_rfl
theorem fn51 : EE.fns 51 = some ir51 := by kernel_rfl
theorem fn52 : EE.fns 52 = some ir52 := by kernel_rfl
theorem fn53 : EE.fns 53 = some ir53 := by kernel_rfl
theorem fn54 : EE.fns 54 = some ir54 := by kernel_rfl
theorem fn55 : EE.fns 55 = some ir55 := by kernel_rfl
theorem fn56 : EE.fns 56 = some ir56 := by kernel_rfl
theorem fn57 : EE.fns 57 = some ir57 := by kernel_rfl
theorem fn58 : EE.fns 58 = some ir58 := by kernel_rfl
theorem fn59 : EE.fns 59 = some ir59 := by kernel_rfl
theorem fn60 : EE.fns 60 = some ir60 := by kernel_rfl
theorem fn61 : EE.fns 61 = some ir61 := by kernel_rfl
theorem fn62 : EE.fns 62 = some ir62 := by kernel_rfl
theorem fn63 : EE.fns 63 = some ir63 := by kernel_rfl
theorem fn64 : EE.fns 64 = some ir64 := by kernel_rfl
theorem fn65 : EE.fns 65 = some ir65 := by kernel_rfl
theorem fn66 : EE.fns 66 = some ir66 := by kernel_rfl
theorem fn67 : EE.fns 67 = some ir67 := by kernel_rfl
theorem fn68 : EE.fns 68 = some ir68 := by kernel_rfl
theorem fn69 : EE.fns 69 = some ir69 := by kernel_rfl
theorem fn70 : EE.fns 70 = some ir70 := by kernel_rfl
theorem fn71 : EE.fns 71 = some ir71 := by kernel_rfl
theorem fn72 : EE.fns 72 = some ir72 := by kernel_rfl
theorem fn73 : EE.fns 73 = some ir73 := by kernel_rfl
theorem fn74 : EE.fns 74 = some ir74 := by kernel_rfl
theorem fn75 : EE.fns 75 = some ir75 := by kernel_rfl
theorem fn76 : EE.fns 76 = some ir76 := by kernel_rfl
theorem fn77 : EE.fns 77 = some ir77 := by kernel_rfl
theorem fn78 : EE.fns 78 = some ir78 := by kernel_rfl
theorem fn79 : EE.fns 79 = some ir79 := by kernel_rfl
theorem fn80 : EE.fns 80 = some ir80 := by kernel_rfl
theorem fn81 : EE.fns 81 = some ir81 := by kernel_rfl
theorem fn82 : EE.fns 82 = some ir82 := by kernel_rfl
theorem fn83 : EE.fns 83 = some ir83 := by kernel_rfl
theorem fn84 : EE.fns 84 = some ir84 := by kernel_rfl
theorem fn85 : EE.fns 85 = some ir85 := by kernel_rfl
theorem fn86 : EE.fns 86 = some ir86 := by kernel_rfl
theorem fn87 : EE.fns 87 = some ir87 := by kernel_rfl
theorem fn88 : EE.fns 88 = some ir88 := by kernel_rfl
theorem fn89 : EE.fns 89 = some ir89 := by kernel_rfl
theorem fn90 : EE.fns 90 = some ir90 := by kernel_rfl
theorem fn91 : EE.fns 91 = some ir91 := by kernel_rfl
theorem fn92 : EE.fns 92 = some ir92 := by kernel_rfl
theorem fn93 : EE.fns 93 = some ir93 := by kernel_rfl
theorem fn94 : EE.fns 94 = some ir94 := by kernel_rfl
theorem fn95 : EE.fns 95 = some ir95 := by kernel_rfl
theorem fn96 : EE.fns 96 = some ir96 := by kernel_rfl
theorem fn97 : EE.fns 97 = some ir97 := by kernel_rfl
theorem fn98 : EE.fns 98 = some ir98 := by kernel_rfl
theorem fn99 : EE.fns 99 = some ir99 := by kernel_rfl
theorem fn100 : EE.fns 100 = some ir100 := by kernel_rfl
theorem fn101 : EE.fns 101 = some ir101 := by kernel_rfl
theorem fn102 : EE.fns 102 = some ir102 := by kernel_rfl
theorem fn103 : EE.fns 103 = some ir103 := by kernel_rfl
theorem fn104 : EE.fns 104 = some ir104 := by kernel_rfl
theorem fn105 : EE.fns 105 = some ir105 := by kernel_rfl
theorem fn106 : EE.fns 106 = some ir106 := by kernel_rfl
theorem fn107 : EE.fns 107 = some ir107 := by kernel_rfl
theorem fn108 : EE.fns 108 = some ir108 := by kernel_rfl
theorem fn109 : EE.fns 109 = some ir109 := by kernel_rfl
theorem fn110 : EE.fns 110 = some ir110 := by kernel_rfl
theorem fn111 : EE.fns 111 = some ir111 := by kernel_rfl
theorem fn112 : EE.fns 112 = some ir112 := by kernel_rfl
theorem fn113 : EE.fns 113 = some ir113 := by kernel_rfl
theorem fn114 : EE.fns 114 = some ir114 := by kernel_rfl
theorem fn115 : EE.fns 115 = some ir115 := by kernel_rfl
theorem fn116 : EE.fns 116 = some ir116 := by kernel_rfl
theorem fn117 : EE.fns 117 = some ir117 := by kernel_rfl
theorem fn118 : EE.fns 118 = some ir118 := by kernel_rfl
theorem fn119 : EE.fns 119 = some ir119 := by kernel_rfl
theorem fn120 : EE.fns 120 = some ir120 := by kernel_rfl
theorem fn121 : EE.fns 121 = some ir121 := by kernel_rfl
theorem fn122 : EE.fns 122 = some ir122 := by kernel_rfl
theorem fn123 : EE.fns 123 = some ir123 := by kernel_rfl
theorem fn124 : EE.fns 124 = some ir124 := by kernel_rfl
theorem fn125 : EE.fns 125 = some ir125 := by kernel_rfl
theorem fn126 : EE.fns 126 = some ir126 := by kernel_rfl
theorem fn127 : EE.fns 127 = some ir127 := by kernel_rfl
theorem fn128 : EE.fns 128 = some ir128 := by kernel_rfl
theorem fn129 : EE.fns 129 = some ir129 := by kernel_rfl
theorem fn130 : EE.fns 130 = some ir130 := by kernel_rfl
theorem fn131 : EE.fns 131 = some ir131 := by kernel_rfl
theorem fn132 : EE.fns 132 = some ir132 := by kernel_rfl
theorem fn133 : EE.fns 133 = some ir133 := by kernel_rfl
theorem fn134 : EE.fns 134 = some ir134 := by kernel_rfl
theorem fn135 : EE.fns 135 = some ir135 := by kernel_rfl
theorem fn136 : EE.fns 136 = some ir136 := by kernel_rfl
end Go.EnvOf
