/- The table of the functions. -/
import Derived.KernelRfl
import Derived.Test.YtddnebpblclpfaaGreatIr0
import Derived.Test.YtddnebpblclpfaaGreatIr1
import Derived.Test.YtddnebpblclpfaaGreatIr2
namespace Go.EnvOf
open Go Go.Eng
set_option maxRecDepth 100000
def tab : List (Nat × IFn) := [(3, ir3), (5, ir5), (11, ir11), (12, ir12), (13, ir13), (14, ir14), (15, ir15), (16, ir16), (19, ir19), (20, ir20), (21, ir21), (22, ir22), (23, ir23), (24, ir24), (25, ir25), (26, ir26), (27, ir27), (28, ir28), (29, ir29), (30, ir30), (31, ir31), (32, ir32), (56, ir56), (57, ir57), (58, ir58), (59, ir59), (60, ir60), (61, ir61), (62, ir62), (63, ir63), (64, ir64), (65, ir65), (66, ir66), (67, ir67), (68, ir68), (69, ir69), (70, ir70), (71, ir71), (72, ir72), (73, ir73), (74, ir74), (78, ir78), (79, ir79), (80, ir80), (81, ir81), (82, ir82), (83, ir83), (84, ir84), (85, ir85), (86, ir86), (87, ir87), (88, ir88), (89, ir89), (90, ir90), (91, ir91), (92, ir92), (93, ir93), (118, ir118), (136, ir136), (138, ir138), (139, ir139), (141, ir141), (142, ir142), (143, ir143), (144, ir144), (145, ir145), (146, ir146), (147, ir147), (148, ir148), (149, ir149), (150, ir150), (151, ir151), (152, ir152), (153, ir153), (154, ir154), (155, ir155), (156, ir156), (157, ir157), (158, ir158), (159, ir159), (160, ir160), (161, ir161), (162, ir162), (163, ir163), (164, ir164), (165, ir165), (166, ir166), (167, ir167), (168, ir168), (169, ir169), (171, ir171), (172, ir172), (173, ir173), (174, ir174), (193, ir193), (198, ir198), (201, ir201), (213, ir213), (219, ir219), (220, ir220), (221, ir221), (222, ir222), (223, ir223), (224, ir224), (225, ir225), (226, ir226), (227, ir227), (228, ir228), (229, ir229), (230, ir230), (231, ir231), (232, ir232), (233, ir233), (234, ir234), (235, ir235), (236, ir236), (237, ir237), (238, ir238), (244, ir244), (256, ir256), (258, ir258), (262, ir262), (266, ir266), (267, ir267), (268, ir268), (269, ir269), (270, ir270), (271, ir271), (272, ir272), (273, ir273), (274, ir274), (275, ir275), (276, ir276), (277, ir277), (278, ir278), (279, ir279), (280, ir280), (281, ir281), (282, ir282), (283, ir283), (284, ir284), (285, ir285), (286, ir286), (298, ir298), (299, ir299), (300, ir300), (301, ir301), (302, ir302), (303, ir303), (304, ir304), (305, ir305), (306, ir306), (307, ir307), (308, ir308), (309, ir309), (310, ir310), (311, ir311), (312, ir312), (313, ir313), (314, ir314), (329, ir329), (330, ir330), (331, ir331), (332, ir332), (333, ir333), (334, ir334), (335, ir335), (336, ir336), (337, ir337), (338, ir338), (339, ir339), (340, ir340), (341, ir341), (342, ir342), (343, ir343), (344, ir344), (345, ir345), (346, ir346), (347, ir347), (354, ir354), (355, ir355)]
def fnsT (f : FuncId) : Option IFn := (tab.find? fun p => p.1 == f).map (·.2)
def EE0 : Env := ⟨fnsT, fun _ => none⟩
def sayK : List Nat := [12]
def primT (f : FuncId) : Option (List V → Heap → Option CR) := if f ∈ sayK then some sayP else none
def EE : Env := ⟨fnsT, primT⟩
theorem noP (f : FuncId) (h : f ∉ sayK := by decide) : EE.prims f = none := by
  show primT f = none
  unfold primT
  exact if_neg h
theorem say12 : EE.prims 12 = some sayP := rfl
theorem say12_ev (H : Heap) : clD EE (.p (.fn 12)) [] H = some (.p (.bool true), none) := by
  rw [clD_fn]; simp only [clStep.go, say12]; rfl
theorem fn3 : EE.fns 3 = some ir3 := by kernel_rfl
theorem fn5 : EE.fns 5 = some ir5 := by kernel_rfl
theorem fn11 : EE.fns 11 = some ir11 := by kernel_rfl
theorem fn12 : EE.fns 12 = some ir12 := by kernel_rfl
theorem fn13 : EE.fns 13 = some ir13 := by kernel_rfl
theorem fn14 : EE.fns 14 = some ir14 := by kernel_rfl
theorem fn15 : EE.fns 15 = some ir15 := by kernel_rfl
theorem fn16 : EE.fns 16 = some ir16 := by kernel_rfl
theorem fn19 : EE.fns 19 = some ir19 := by kernel_rfl
theorem fn20 : EE.fns 20 = some ir20 := by kernel_rfl
theorem fn21 : EE.fns 21 = some ir21 := by kernel_rfl
theorem fn22 : EE.fns 22 = some ir22 := by kernel_rfl
theorem fn23 : EE.fns 23 = some ir23 := by kernel_rfl
theorem fn24 : EE.fns 24 = some ir24 := by kernel_rfl
theorem fn25 : EE.fns 25 = some ir25 := by kernel_rfl
theorem fn26 : EE.fns 26 = some ir26 := by kernel_rfl
theorem fn27 : EE.fns 27 = some ir27 := by kernel_rfl
theorem fn28 : EE.fns 28 = some ir28 := by kernel_rfl
theorem fn29 : EE.fns 29 = some ir29 := by kernel_rfl
theorem fn30 : EE.fns 30 = some ir30 := by kernel_rfl
theorem fn31 : EE.fns 31 = some ir31 := by kernel_rfl
theorem fn32 : EE.fns 32 = some ir32 := by kernel_rfl
theorem fn56 : EE.fns 56 = some ir56 := by kernel_rfl
theorem fn57 : EE.fns 57 = some ir57 := by kernel_rfl
theorem fn58 : EE.fns 58 = some ir58 := by kernel_rfl
theorem fn59 : EE.fns 59 = some ir59 := by kernel_rfl
theorem fn60 : EE.fns 60 = some ir60 := by kernel_rfl
theorem fn61 : EE.fns 61 = some ir61 := by kernel_rfl
theorem fn62 : EE.fns 62 = some ir62 := by kernel_rfl
theorem fn63 : EE.fns 63 = some ir63 := by kernel_rfl
theorem fn64 : EE.fns 64 = some ir64 := by kernel_rfl
theorem fn65 : EE.fns 65 = some ir65 := by kernel_rfl
theorem fn66 : EE.fns 66 = some ir66 := by kernel_rfl
theorem fn67 : EE.fns 67 = some ir67 := by kernel_rfl
theorem fn68 : EE.fns 68 = some ir68 := by kernel_rfl
theorem fn69 : EE.fns 69 = some ir69 := by kernel_rfl
theorem fn70 : EE.fns 70 = some ir70 := by kernel_rfl
theorem fn71 : EE.fns 71 = some ir71 := by kernel_rfl
theorem fn72 : EE.fns 72 = some ir72 := by kernel_rfl
theorem fn73 : EE.fns 73 = some ir73 := by kernel_rfl
theorem fn74 : EE.fns 74 = some ir74 := by kernel_rfl
theorem fn78 : EE.fns 78 = some ir78 := by kernel_rfl
theorem fn79 : EE.fns 79 = some ir79 := by kernel_rfl
theorem fn80 : EE.fns 80 = some ir80 := by kernel_rfl
theorem fn81 : EE.fns 81 = some ir81 := by kernel_rfl
theorem fn82 : EE.fns 82 = some ir82 := by kernel_rfl
theorem fn83 : EE.fns 83 = some ir83 := by kernel_rfl
theorem fn84 : EE.fns 84 = some ir84 := by kernel_rfl
theorem fn85 : EE.fns 85 = some ir85 := by kernel_rfl
theorem fn86 : EE.fns 86 = some ir86 := by kernel_rfl
theorem fn87 : EE.fns 87 = some ir87 := by kernel_rfl
theorem fn88 : EE.fns 88 = some ir88 := by kernel_rfl
theorem fn89 : EE.fns 89 = some ir89 := by kernel_rfl
theorem fn90 : EE.fns 90 = some ir90 := by kernel_rfl
theorem fn91 : EE.fns 91 = some ir91 := by kernel_rfl
theorem fn92 : EE.fns 92 = some ir92 := by kernel_rfl
theorem fn93 : EE.fns 93 = some ir93 := by kernel_rfl
theorem fn118 : EE.fns 118 = some ir118 := by kernel_rfl
theorem fn136 : EE.fns 136 = some ir136 := by kernel_rfl
theorem fn138 : EE.fns 138 = some ir138 := by kernel_rfl
theorem fn139 : EE.fns 139 = some ir139 := by kernel_rfl
theorem fn141 : EE.fns 141 = some ir141 := by kernel_rfl
theorem fn142 : EE.fns 142 = some ir142 := by kernel_rfl
theorem fn143 : EE.fns 143 = some ir143 := by kernel_rfl
theorem fn144 : EE.fns 144 = some ir144 := by kernel_rfl
theorem fn145 : EE.fns 145 = some ir145 := by kernel_rfl
theorem fn146 : EE.fns 146 = some ir146 := by kernel_rfl
theorem fn147 : EE.fns 147 = some ir147 := by kernel_rfl
theorem fn148 : EE.fns 148 = some ir148 := by kernel_rfl
theorem fn149 : EE.fns 149 = some ir149 := by kernel_rfl
theorem fn150 : EE.fns 150 = some ir150 := by kernel_rfl
theorem fn151 : EE.fns 151 = some ir151 := by kernel_rfl
theorem fn152 : EE.fns 152 = some ir152 := by kernel_rfl
theorem fn153 : EE.fns 153 = some ir153 := by kernel_rfl
theorem fn154 : EE.fns 154 = some ir154 := by kernel_rfl
theorem fn155 : EE.fns 155 = some ir155 := by kernel_rfl
theorem fn156 : EE.fns 156 = some ir156 := by kernel_rfl
theorem fn157 : EE.fns 157 = some ir157 := by kernel_rfl
theorem fn158 : EE.fns 158 = some ir158 := by kernel_rfl
theorem fn159 : EE.fns 159 = some ir159 := by kernel_rfl
theorem fn160 : EE.fns 160 = some ir160 := by kernel_rfl
theorem fn161 : EE.fns 161 = some ir161 := by kernel_rfl
theorem fn162 : EE.fns 162 = some ir162 := by kernel_rfl
theorem fn163 : EE.fns 163 = some ir163 := by kernel_rfl
theorem fn164 : EE.fns 164 = some ir164 := by kernel_rfl
theorem fn165 : EE.fns 165 = some ir165 := by kernel_rfl
theorem fn166 : EE.fns 166 = some ir166 := by kernel_rfl
theorem fn167 : EE.fns 167 = some ir167 := by kernel_rfl
theorem fn168 : EE.fns 168 = some ir168 := by kernel_rfl
theorem fn169 : EE.fns 169 = some ir169 := by kernel_rfl
theorem fn171 : EE.fns 171 = some ir171 := by kernel_rfl
theorem fn172 : EE.fns 172 = some ir172 := by kernel_rfl
theorem fn173 : EE.fns 173 = some ir173 := by kernel_rfl
theorem fn174 : EE.fns 174 = some ir174 := by kernel_rfl
theorem fn193 : EE.fns 193 = some ir193 := by kernel_rfl
theorem fn198 : EE.fns 198 = some ir198 := by kernel_rfl
theorem fn201 : EE.fns 201 = some ir201 := by kernel_rfl
theorem fn213 : EE.fns 213 = some ir213 := by kernel_rfl
theorem fn219 : EE.fns 219 = some ir219 := by kernel_rfl
theorem fn220 : EE.fns 220 = some ir220 := by kernel_rfl
theorem fn221 : EE.fns 221 = some ir221 := by kernel_rfl
theorem fn222 : EE.fns 222 = some ir222 := by kernel_rfl
theorem fn223 : EE.fns 223 = some ir223 := by kernel_rfl
theorem fn224 : EE.fns 224 = some ir224 := by kernel_rfl
theorem fn225 : EE.fns 225 = some ir225 := by kernel_rfl
theorem fn226 : EE.fns 226 = some ir226 := by kernel_rfl
theorem fn227 : EE.fns 227 = some ir227 := by kernel_rfl
theorem fn228 : EE.fns 228 = some ir228 := by kernel_rfl
theorem fn229 : EE.fns 229 = some ir229 := by kernel_rfl
theorem fn230 : EE.fns 230 = some ir230 := by kernel_rfl
theorem fn231 : EE.fns 231 = some ir231 := by kernel_rfl
theorem fn232 : EE.fns 232 = some ir232 := by kernel_rfl
theorem fn233 : EE.fns 233 = some ir233 := by kernel_rfl
theorem fn234 : EE.fns 234 = some ir234 := by kernel_rfl
theorem fn235 : EE.fns 235 = some ir235 := by kernel_rfl
theorem fn236 : EE.fns 236 = some ir236 := by kernel_rfl
theorem fn237 : EE.fns 237 = some ir237 := by kernel_rfl
theorem fn238 : EE.fns 238 = some ir238 := by kernel_rfl
theorem fn244 : EE.fns 244 = some ir244 := by kernel_rfl
theorem fn256 : EE.fns 256 = some ir256 := by kernel_rfl
theorem fn258 : EE.fns 258 = some ir258 := by kernel_rfl
theorem fn262 : EE.fns 262 = some ir262 := by kernel_rfl
theorem fn266 : EE.fns 266 = some ir266 := by kernel_rfl
theorem fn267 : EE.fns 267 = some ir267 := by kernel_rfl
theorem fn268 : EE.fns 268 = some ir268 := by kernel_rfl
theorem fn269 : EE.fns 269 = some ir269 := by kernel_rfl
theorem fn270 : EE.fns 270 = some ir270 := by kernel_rfl
theorem fn271 : EE.fns 271 = some ir271 := by kernel_rfl
theorem fn272 : EE.fns 272 = some ir272 := by kernel_rfl
theorem fn273 : EE.fns 273 = some ir273 := by kernel_rfl
theorem fn274 : EE.fns 274 = some ir274 := by kernel_rfl
theorem fn275 : EE.fns 275 = some ir275 := by kernel_rfl
theorem fn276 : EE.fns 276 = some ir276 := by kernel_rfl
theorem fn277 : EE.fns 277 = some ir277 := by kernel_rfl
theorem fn278 : EE.fns 278 = some ir278 := by kernel_rfl
theorem fn279 : EE.fns 279 = some ir279 := by kernel_rfl
theorem fn280 : EE.fns 280 = some ir280 := by kernel_rfl
theorem fn281 : EE.fns 281 = some ir281 := by kernel_rfl
theorem fn282 : EE.fns 282 = some ir282 := by kernel_rfl
theorem fn283 : EE.fns 283 = some ir283 := by kernel_rfl
theorem fn284 : EE.fns 284 = some ir284 := by kernel_rfl
theorem fn285 : EE.fns 285 = some ir285 := by kernel_rfl
theorem fn286 : EE.fns 286 = some ir286 := by kernel_rfl
theorem fn298 : EE.fns 298 = some ir298 := by kernel_rfl
theorem fn299 : EE.fns 299 = some ir299 := by kernel_rfl
theorem fn300 : EE.fns 300 = some ir300 := by kernel_rfl
theorem fn301 : EE.fns 301 = some ir301 := by kernel_rfl
theorem fn302 : EE.fns 302 = some ir302 := by kernel_rfl
theorem fn303 : EE.fns 303 = some ir303 := by kernel_rfl
theorem fn304 : EE.fns 304 = some ir304 := by kernel_rfl
theorem fn305 : EE.fns 305 = some ir305 := by kernel_rfl
theorem fn306 : EE.fns 306 = some ir306 := by kernel_rfl
theorem fn307 : EE.fns 307 = some ir307 := by kernel_rfl
theorem fn308 : EE.fns 308 = some ir308 := by kernel_rfl
theorem fn309 : EE.fns 309 = some ir309 := by kernel_rfl
theorem fn310 : EE.fns 310 = some ir310 := by kernel_rfl
theorem fn311 : EE.fns 311 = some ir311 := by kernel_rfl
theorem fn312 : EE.fns 312 = some ir312 := by kernel_rfl
theorem fn313 : EE.fns 313 = some ir313 := by kernel_rfl
theorem fn314 : EE.fns 314 = some ir314 := by kernel_rfl
theorem fn329 : EE.fns 329 = some ir329 := by kernel_rfl
theorem fn330 : EE.fns 330 = some ir330 := by kernel_rfl
theorem fn331 : EE.fns 331 = some ir331 := by kernel_rfl
theorem fn332 : EE.fns 332 = some ir332 := by kernel_rfl
theorem fn333 : EE.fns 333 = some ir333 := by kernel_rfl
theorem fn334 : EE.fns 334 = some ir334 := by kernel_rfl
theorem fn335 : EE.fns 335 = some ir335 := by kernel_rfl
theorem fn336 : EE.fns 336 = some ir336 := by kernel_rfl
theorem fn337 : EE.fns 337 = some ir337 := by kernel_rfl
theorem fn338 : EE.fns 338 = some ir338 := by kernel_rfl
theorem fn339 : EE.fns 339 = some ir339 := by kernel_rfl
theorem fn340 : EE.fns 340 = some ir340 := by kernel_rfl
theorem fn341 : EE.fns 341 = some ir341 := by kernel_rfl
theorem fn342 : EE.fns 342 = some ir342 := by kernel_rfl
theorem fn343 : EE.fns 343 = some ir343 := by kernel_rfl
theorem fn344 : EE.fns 344 = some ir344 := by kernel_rfl
theorem fn345 : EE.fns 345 = some ir345 := by kernel_rfl
theorem fn346 : EE.fns 346 = some ir346 := by kernel_rfl
theorem fn347 : EE.fns 347 = some ir347 := by kernel_rfl
theorem fn354 : EE.fns 354 = some ir354 := by kernel_rfl
theorem fn355 : EE.fns 355 = some ir355 := by kernel_rfl
end Go.EnvOf
