/- The table of the functions. -/
import Derived.KernelRfl
import Derived.Test.YtddnebpblclpfaaGreatIr0
import Derived.Test.YtddnebpblclpfaaGreatIr1
namespace Go.EnvOf
open Go Go.Eng
set_option maxRecDepth 100000
def tab : List (Nat × IFn) := [(9, ir9), (13, ir13), (19, ir19), (22, ir22), (23, ir23), (26, ir26), (27, ir27), (30, ir30), (42, ir42), (44, ir44), (45, ir45), (46, ir46), (48, ir48), (49, ir49), (50, ir50), (51, ir51), (56, ir56), (57, ir57), (58, ir58), (59, ir59), (60, ir60), (61, ir61), (62, ir62), (63, ir63), (65, ir65), (67, ir67), (68, ir68), (78, ir78), (79, ir79), (80, ir80), (82, ir82), (83, ir83), (84, ir84), (85, ir85), (86, ir86), (88, ir88), (91, ir91), (118, ir118), (119, ir119), (120, ir120), (121, ir121), (122, ir122), (123, ir123), (124, ir124), (125, ir125), (126, ir126), (127, ir127), (128, ir128), (129, ir129), (139, ir139), (141, ir141), (142, ir142), (143, ir143), (144, ir144), (145, ir145), (146, ir146), (147, ir147), (148, ir148), (149, ir149), (150, ir150), (151, ir151), (152, ir152), (153, ir153), (154, ir154), (155, ir155), (156, ir156), (160, ir160), (161, ir161), (162, ir162), (163, ir163), (165, ir165), (169, ir169), (171, ir171), (172, ir172), (173, ir173), (193, ir193), (195, ir195), (198, ir198), (201, ir201), (202, ir202), (203, ir203), (204, ir204), (205, ir205), (206, ir206), (207, ir207), (208, ir208), (209, ir209), (210, ir210), (211, ir211), (212, ir212), (221, ir221), (222, ir222), (223, ir223), (224, ir224), (225, ir225), (226, ir226), (227, ir227), (228, ir228), (229, ir229), (230, ir230), (235, ir235), (237, ir237), (238, ir238), (256, ir256), (257, ir257), (258, ir258), (259, ir259), (260, ir260), (261, ir261), (262, ir262), (266, ir266), (267, ir267), (268, ir268), (269, ir269), (270, ir270), (271, ir271), (272, ir272), (273, ir273), (274, ir274), (275, ir275), (276, ir276), (277, ir277), (278, ir278), (279, ir279), (280, ir280), (281, ir281), (282, ir282), (283, ir283), (284, ir284), (285, ir285), (291, ir291), (292, ir292), (293, ir293), (294, ir294), (295, ir295), (298, ir298), (299, ir299), (300, ir300), (301, ir301), (302, ir302), (303, ir303), (304, ir304), (305, ir305), (306, ir306), (307, ir307), (308, ir308), (309, ir309), (310, ir310), (311, ir311), (312, ir312), (313, ir313), (314, ir314), (323, ir323), (324, ir324), (329, ir329), (330, ir330), (331, ir331), (332, ir332), (333, ir333), (334, ir334), (335, ir335), (336, ir336), (337, ir337), (338, ir338), (339, ir339), (340, ir340), (341, ir341), (342, ir342), (343, ir343), (344, ir344), (345, ir345), (346, ir346), (347, ir347), (354, ir354), (355, ir355)]
def fnsT (f : FuncId) : Option IFn := (tab.find? fun p => p.1 == f).map (·.2)
def EE0 : Env := ⟨fnsT, fun _ => none⟩
def sayK : List Nat := [44]
def primT (f : FuncId) : Option (List V → Heap → Option CR) := if f ∈ sayK then some sayP else none
def EE : Env := ⟨fnsT, primT⟩
theorem noP (f : FuncId) (h : f ∉ sayK := by decide) : EE.prims f = none := by
  show primT f = none
  unfold primT
  exact if_neg h
theorem say44 : EE.prims 44 = some sayP := rfl
theorem say44_ev (H : Heap) : clD EE (.p (.fn 44)) [] H = some (.p (.bool true), none) := by
  rw [clD_fn]; simp only [clStep.go, say44]; rfl
theorem fn9 : EE.fns 9 = some ir9 := by kernel_rfl
theorem fn13 : EE.fns 13 = some ir13 := by kernel_rfl
theorem fn19 : EE.fns 19 = some ir19 := by kernel_rfl
theorem fn22 : EE.fns 22 = some ir22 := by kernel_rfl
theorem fn23 : EE.fns 23 = some ir23 := by kernel_rfl
theorem fn26 : EE.fns 26 = some ir26 := by kernel_rfl
theorem fn27 : EE.fns 27 = some ir27 := by kernel_rfl
theorem fn30 : EE.fns 30 = some ir30 := by kernel_rfl
theorem fn42 : EE.fns 42 = some ir42 := by kernel_rfl
theorem fn44 : EE.fns 44 = some ir44 := by kernel_rfl
theorem fn45 : EE.fns 45 = some ir45 := by kernel_rfl
theorem fn46 : EE.fns 46 = some ir46 := by kernel_rfl
theorem fn48 : EE.fns 48 = some ir48 := by kernel_rfl
theorem fn49 : EE.fns 49 = some ir49 := by kernel_rfl
theorem fn50 : EE.fns 50 = some ir50 := by kernel_rfl
theorem fn51 : EE.fns 51 = some ir51 := by kernel_rfl
theorem fn56 : EE.fns 56 = some ir56 := by kernel_rfl
theorem fn57 : EE.fns 57 = some ir57 := by kernel_rfl
theorem fn58 : EE.fns 58 = some ir58 := by kernel_rfl
theorem fn59 : EE.fns 59 = some ir59 := by kernel_rfl
theorem fn60 : EE.fns 60 = some ir60 := by kernel_rfl
theorem fn61 : EE.fns 61 = some ir61 := by kernel_rfl
theorem fn62 : EE.fns 62 = some ir62 := by kernel_rfl
theorem fn63 : EE.fns 63 = some ir63 := by kernel_rfl
theorem fn65 : EE.fns 65 = some ir65 := by kernel_rfl
theorem fn67 : EE.fns 67 = some ir67 := by kernel_rfl
theorem fn68 : EE.fns 68 = some ir68 := by kernel_rfl
theorem fn78 : EE.fns 78 = some ir78 := by kernel_rfl
theorem fn79 : EE.fns 79 = some ir79 := by kernel_rfl
theorem fn80 : EE.fns 80 = some ir80 := by kernel_rfl
theorem fn82 : EE.fns 82 = some ir82 := by kernel_rfl
theorem fn83 : EE.fns 83 = some ir83 := by kernel_rfl
theorem fn84 : EE.fns 84 = some ir84 := by kernel_rfl
theorem fn85 : EE.fns 85 = some ir85 := by kernel_rfl
theorem fn86 : EE.fns 86 = some ir86 := by kernel_rfl
theorem fn88 : EE.fns 88 = some ir88 := by kernel_rfl
theorem fn91 : EE.fns 91 = some ir91 := by kernel_rfl
theorem fn118 : EE.fns 118 = some ir118 := by kernel_rfl
theorem fn119 : EE.fns 119 = some ir119 := by kernel_rfl
theorem fn120 : EE.fns 120 = some ir120 := by kernel_rfl
theorem fn121 : EE.fns 121 = some ir121 := by kernel_rfl
theorem fn122 : EE.fns 122 = some ir122 := by kernel_rfl
theorem fn123 : EE.fns 123 = some ir123 := by kernel_rfl
theorem fn124 : EE.fns 124 = some ir124 := by kernel_rfl
theorem fn125 : EE.fns 125 = some ir125 := by kernel_rfl
theorem fn126 : EE.fns 126 = some ir126 := by kernel_rfl
theorem fn127 : EE.fns 127 = some ir127 := by kernel_rfl
theorem fn128 : EE.fns 128 = some ir128 := by kernel_rfl
theorem fn129 : EE.fns 129 = some ir129 := by kernel_rfl
theorem fn139 : EE.fns 139 = some ir139 := by kernel_rfl
theorem fn141 : EE.fns 141 = some ir141 := by kernel_rfl
theorem fn142 : EE.fns 142 = some ir142 := by kernel_rfl
theorem fn143 : EE.fns 143 = some ir143 := by kernel_rfl
theorem fn144 : EE.fns 144 = some ir144 := by kernel_rfl
theorem fn145 : EE.fns 145 = some ir145 := by kernel_rfl
theorem fn146 : EE.fns 146 = some ir146 := by kernel_rfl
theorem fn147 : EE.fns 147 = some ir147 := by kernel_rfl
theorem fn148 : EE.fns 148 = some ir148 := by kernel_rfl
theorem fn149 : EE.fns 149 = some ir149 := by kernel_rfl
theorem fn150 : EE.fns 150 = some ir150 := by kernel_rfl
theorem fn151 : EE.fns 151 = some ir151 := by kernel_rfl
theorem fn152 : EE.fns 152 = some ir152 := by kernel_rfl
theorem fn153 : EE.fns 153 = some ir153 := by kernel_rfl
theorem fn154 : EE.fns 154 = some ir154 := by kernel_rfl
theorem fn155 : EE.fns 155 = some ir155 := by kernel_rfl
theorem fn156 : EE.fns 156 = some ir156 := by kernel_rfl
theorem fn160 : EE.fns 160 = some ir160 := by kernel_rfl
theorem fn161 : EE.fns 161 = some ir161 := by kernel_rfl
theorem fn162 : EE.fns 162 = some ir162 := by kernel_rfl
theorem fn163 : EE.fns 163 = some ir163 := by kernel_rfl
theorem fn165 : EE.fns 165 = some ir165 := by kernel_rfl
theorem fn169 : EE.fns 169 = some ir169 := by kernel_rfl
theorem fn171 : EE.fns 171 = some ir171 := by kernel_rfl
theorem fn172 : EE.fns 172 = some ir172 := by kernel_rfl
theorem fn173 : EE.fns 173 = some ir173 := by kernel_rfl
theorem fn193 : EE.fns 193 = some ir193 := by kernel_rfl
theorem fn195 : EE.fns 195 = some ir195 := by kernel_rfl
theorem fn198 : EE.fns 198 = some ir198 := by kernel_rfl
theorem fn201 : EE.fns 201 = some ir201 := by kernel_rfl
theorem fn202 : EE.fns 202 = some ir202 := by kernel_rfl
theorem fn203 : EE.fns 203 = some ir203 := by kernel_rfl
theorem fn204 : EE.fns 204 = some ir204 := by kernel_rfl
theorem fn205 : EE.fns 205 = some ir205 := by kernel_rfl
theorem fn206 : EE.fns 206 = some ir206 := by kernel_rfl
theorem fn207 : EE.fns 207 = some ir207 := by kernel_rfl
theorem fn208 : EE.fns 208 = some ir208 := by kernel_rfl
theorem fn209 : EE.fns 209 = some ir209 := by kernel_rfl
theorem fn210 : EE.fns 210 = some ir210 := by kernel_rfl
theorem fn211 : EE.fns 211 = some ir211 := by kernel_rfl
theorem fn212 : EE.fns 212 = some ir212 := by kernel_rfl
theorem fn221 : EE.fns 221 = some ir221 := by kernel_rfl
theorem fn222 : EE.fns 222 = some ir222 := by kernel_rfl
theorem fn223 : EE.fns 223 = some ir223 := by kernel_rfl
theorem fn224 : EE.fns 224 = some ir224 := by kernel_rfl
theorem fn225 : EE.fns 225 = some ir225 := by kernel_rfl
theorem fn226 : EE.fns 226 = some ir226 := by kernel_rfl
theorem fn227 : EE.fns 227 = some ir227 := by kernel_rfl
theorem fn228 : EE.fns 228 = some ir228 := by kernel_rfl
theorem fn229 : EE.fns 229 = some ir229 := by kernel_rfl
theorem fn230 : EE.fns 230 = some ir230 := by kernel_rfl
theorem fn235 : EE.fns 235 = some ir235 := by kernel_rfl
theorem fn237 : EE.fns 237 = some ir237 := by kernel_rfl
theorem fn238 : EE.fns 238 = some ir238 := by kernel_rfl
theorem fn256 : EE.fns 256 = some ir256 := by kernel_rfl
theorem fn257 : EE.fns 257 = some ir257 := by kernel_rfl
theorem fn258 : EE.fns 258 = some ir258 := by kernel_rfl
theorem fn259 : EE.fns 259 = some ir259 := by kernel_rfl
theorem fn260 : EE.fns 260 = some ir260 := by kernel_rfl
theorem fn261 : EE.fns 261 = some ir261 := by kernel_rfl
theorem fn262 : EE.fns 262 = some ir262 := by kernel_rfl
theorem fn266 : EE.fns 266 = some ir266 := by kernel_rfl
theorem fn267 : EE.fns 267 = some ir267 := by kernel_rfl
theorem fn268 : EE.fns 268 = some ir268 := by kernel_rfl
theorem fn269 : EE.fns 269 = some ir269 := by kernel_rfl
theorem fn270 : EE.fns 270 = some ir270 := by kernel_rfl
theorem fn271 : EE.fns 271 = some ir271 := by kernel_rfl
theorem fn272 : EE.fns 272 = some ir272 := by kernel_rfl
theorem fn273 : EE.fns 273 = some ir273 := by kernel_rfl
theorem fn274 : EE.fns 274 = some ir274 := by kernel_rfl
theorem fn275 : EE.fns 275 = some ir275 := by kernel_rfl
theorem fn276 : EE.fns 276 = some ir276 := by kernel_rfl
theorem fn277 : EE.fns 277 = some ir277 := by kernel_rfl
theorem fn278 : EE.fns 278 = some ir278 := by kernel_rfl
theorem fn279 : EE.fns 279 = some ir279 := by kernel_rfl
theorem fn280 : EE.fns 280 = some ir280 := by kernel_rfl
theorem fn281 : EE.fns 281 = some ir281 := by kernel_rfl
theorem fn282 : EE.fns 282 = some ir282 := by kernel_rfl
theorem fn283 : EE.fns 283 = some ir283 := by kernel_rfl
theorem fn284 : EE.fns 284 = some ir284 := by kernel_rfl
theorem fn285 : EE.fns 285 = some ir285 := by kernel_rfl
theorem fn291 : EE.fns 291 = some ir291 := by kernel_rfl
theorem fn292 : EE.fns 292 = some ir292 := by kernel_rfl
theorem fn293 : EE.fns 293 = some ir293 := by kernel_rfl
theorem fn294 : EE.fns 294 = some ir294 := by kernel_rfl
theorem fn295 : EE.fns 295 = some ir295 := by kernel_rfl
theorem fn298 : EE.fns 298 = some ir298 := by kernel_rfl
theorem fn299 : EE.fns 299 = some ir299 := by kernel_rfl
theorem fn300 : EE.fns 300 = some ir300 := by kernel_rfl
theorem fn301 : EE.fns 301 = some ir301 := by kernel_rfl
theorem fn302 : EE.fns 302 = some ir302 := by kernel_rfl
theorem fn303 : EE.fns 303 = some ir303 := by kernel_rfl
theorem fn304 : EE.fns 304 = some ir304 := by kernel_rfl
theorem fn305 : EE.fns 305 = some ir305 := by kernel_rfl
theorem fn306 : EE.fns 306 = some ir306 := by kernel_rfl
theorem fn307 : EE.fns 307 = some ir307 := by kernel_rfl
theorem fn308 : EE.fns 308 = some ir308 := by kernel_rfl
theorem fn309 : EE.fns 309 = some ir309 := by kernel_rfl
theorem fn310 : EE.fns 310 = some ir310 := by kernel_rfl
theorem fn311 : EE.fns 311 = some ir311 := by kernel_rfl
theorem fn312 : EE.fns 312 = some ir312 := by kernel_rfl
theorem fn313 : EE.fns 313 = some ir313 := by kernel_rfl
theorem fn314 : EE.fns 314 = some ir314 := by kernel_rfl
theorem fn323 : EE.fns 323 = some ir323 := by kernel_rfl
theorem fn324 : EE.fns 324 = some ir324 := by kernel_rfl
theorem fn329 : EE.fns 329 = some ir329 := by kernel_rfl
theorem fn330 : EE.fns 330 = some ir330 := by kernel_rfl
theorem fn331 : EE.fns 331 = some ir331 := by kernel_rfl
theorem fn332 : EE.fns 332 = some ir332 := by kernel_rfl
theorem fn333 : EE.fns 333 = some ir333 := by kernel_rfl
theorem fn334 : EE.fns 334 = some ir334 := by kernel_rfl
theorem fn335 : EE.fns 335 = some ir335 := by kernel_rfl
theorem fn336 : EE.fns 336 = some ir336 := by kernel_rfl
theorem fn337 : EE.fns 337 = some ir337 := by kernel_rfl
theorem fn338 : EE.fns 338 = some ir338 := by kernel_rfl
theorem fn339 : EE.fns 339 = some ir339 := by kernel_rfl
theorem fn340 : EE.fns 340 = some ir340 := by kernel_rfl
theorem fn341 : EE.fns 341 = some ir341 := by kernel_rfl
theorem fn342 : EE.fns 342 = some ir342 := by kernel_rfl
theorem fn343 : EE.fns 343 = some ir343 := by kernel_rfl
theorem fn344 : EE.fns 344 = some ir344 := by kernel_rfl
theorem fn345 : EE.fns 345 = some ir345 := by kernel_rfl
theorem fn346 : EE.fns 346 = some ir346 := by kernel_rfl
theorem fn347 : EE.fns 347 = some ir347 := by kernel_rfl
theorem fn354 : EE.fns 354 = some ir354 := by kernel_rfl
theorem fn355 : EE.fns 355 = some ir355 := by kernel_rfl
end Go.EnvOf
