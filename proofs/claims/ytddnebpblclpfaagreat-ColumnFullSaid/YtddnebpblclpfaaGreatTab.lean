/- The table of the functions. -/
import Derived.KernelRfl
import Derived.Test.YtddnebpblclpfaaGreatIr0
import Derived.Test.YtddnebpblclpfaaGreatIr1
import Derived.Test.YtddnebpblclpfaaGreatIr2
namespace Go.EnvOf
open Go Go.Eng
set_option maxRecDepth 100000
def tab : List (Nat × IFn) := [(7, ir7), (11, ir11), (13, ir13), (14, ir14), (15, ir15), (19, ir19), (22, ir22), (23, ir23), (25, ir25), (26, ir26), (27, ir27), (30, ir30), (31, ir31), (32, ir32), (39, ir39), (40, ir40), (41, ir41), (42, ir42), (56, ir56), (57, ir57), (58, ir58), (59, ir59), (60, ir60), (61, ir61), (62, ir62), (63, ir63), (64, ir64), (65, ir65), (66, ir66), (67, ir67), (68, ir68), (78, ir78), (79, ir79), (80, ir80), (82, ir82), (83, ir83), (84, ir84), (85, ir85), (86, ir86), (88, ir88), (89, ir89), (90, ir90), (91, ir91), (92, ir92), (93, ir93), (98, ir98), (109, ir109), (110, ir110), (111, ir111), (112, ir112), (113, ir113), (114, ir114), (115, ir115), (116, ir116), (117, ir117), (118, ir118), (119, ir119), (120, ir120), (121, ir121), (122, ir122), (123, ir123), (128, ir128), (142, ir142), (143, ir143), (144, ir144), (145, ir145), (146, ir146), (147, ir147), (148, ir148), (149, ir149), (150, ir150), (151, ir151), (152, ir152), (153, ir153), (154, ir154), (155, ir155), (156, ir156), (157, ir157), (158, ir158), (159, ir159), (160, ir160), (161, ir161), (162, ir162), (163, ir163), (171, ir171), (172, ir172), (173, ir173), (174, ir174), (177, ir177), (178, ir178), (192, ir192), (193, ir193), (194, ir194), (195, ir195), (196, ir196), (197, ir197), (198, ir198), (199, ir199), (200, ir200), (201, ir201), (202, ir202), (203, ir203), (204, ir204), (205, ir205), (208, ir208), (209, ir209), (212, ir212), (221, ir221), (222, ir222), (223, ir223), (224, ir224), (225, ir225), (226, ir226), (227, ir227), (228, ir228), (229, ir229), (230, ir230), (231, ir231), (232, ir232), (233, ir233), (234, ir234), (235, ir235), (238, ir238), (240, ir240), (241, ir241), (244, ir244), (250, ir250), (251, ir251), (252, ir252), (253, ir253), (254, ir254), (255, ir255), (256, ir256), (257, ir257), (258, ir258), (266, ir266), (267, ir267), (268, ir268), (269, ir269), (270, ir270), (271, ir271), (272, ir272), (273, ir273), (274, ir274), (275, ir275), (276, ir276), (277, ir277), (278, ir278), (279, ir279), (280, ir280), (281, ir281), (282, ir282), (283, ir283), (284, ir284), (285, ir285), (286, ir286), (288, ir288), (289, ir289), (290, ir290), (298, ir298), (299, ir299), (300, ir300), (301, ir301), (302, ir302), (303, ir303), (304, ir304), (305, ir305), (306, ir306), (307, ir307), (308, ir308), (309, ir309), (310, ir310), (311, ir311), (312, ir312), (313, ir313), (314, ir314), (315, ir315), (316, ir316), (317, ir317), (318, ir318), (319, ir319), (320, ir320), (321, ir321), (322, ir322), (329, ir329), (330, ir330), (331, ir331), (332, ir332), (333, ir333), (334, ir334), (335, ir335), (336, ir336), (337, ir337), (338, ir338), (339, ir339), (340, ir340), (341, ir341), (342, ir342), (343, ir343), (344, ir344), (345, ir345), (346, ir346), (347, ir347), (354, ir354), (355, ir355)]
def fnsT (f : FuncId) : Option IFn := (tab.find? fun p => p.1 == f).map (·.2)
def EE0 : Env := ⟨fnsT, fun _ => none⟩
def sayK : List Nat := [40]
def primT (f : FuncId) : Option (List V → Heap → Option CR) := if f ∈ sayK then some sayP else none
def EE : Env := ⟨fnsT, primT⟩
theorem noP (f : FuncId) (h : f ∉ sayK := by decide) : EE.prims f = none := by
  show primT f = none
  unfold primT
  exact if_neg h
theorem say40 : EE.prims 40 = some sayP := rfl
theorem say40_ev (H : Heap) : clD EE (.p (.fn 40)) [] H = some (.p (.bool true), none) := by
  rw [clD_fn]; simp only [clStep.go, say40]; rfl
theorem fn7 : EE.fns 7 = some ir7 := by kernel_rfl
theorem fn11 : EE.fns 11 = some ir11 := by kernel_rfl
theorem fn13 : EE.fns 13 = some ir13 := by kernel_rfl
theorem fn14 : EE.fns 14 = some ir14 := by kernel_rfl
theorem fn15 : EE.fns 15 = some ir15 := by kernel_rfl
theorem fn19 : EE.fns 19 = some ir19 := by kernel_rfl
theorem fn22 : EE.fns 22 = some ir22 := by kernel_rfl
theorem fn23 : EE.fns 23 = some ir23 := by kernel_rfl
theorem fn25 : EE.fns 25 = some ir25 := by kernel_rfl
theorem fn26 : EE.fns 26 = some ir26 := by kernel_rfl
theorem fn27 : EE.fns 27 = some ir27 := by kernel_rfl
theorem fn30 : EE.fns 30 = some ir30 := by kernel_rfl
theorem fn31 : EE.fns 31 = some ir31 := by kernel_rfl
theorem fn32 : EE.fns 32 = some ir32 := by kernel_rfl
theorem fn39 : EE.fns 39 = some ir39 := by kernel_rfl
theorem fn40 : EE.fns 40 = some ir40 := by kernel_rfl
theorem fn41 : EE.fns 41 = some ir41 := by kernel_rfl
theorem fn42 : EE.fns 42 = some ir42 := by kernel_rfl
theorem fn56 : EE.fns 56 = some ir56 := by kernel_rfl
theorem fn57 : EE.fns 57 = some ir57 := by kernel_rfl
theorem fn58 : EE.fns 58 = some ir58 := by kernel_rfl
theorem fn59 : EE.fns 59 = some ir59 := by kernel_rfl
theorem fn60 : EE.fns 60 = some ir60 := by kernel_rfl
theorem fn61 : EE.fns 61 = some ir61 := by kernel_rfl
theorem fn62 : EE.fns 62 = some ir62 := by kernel_rfl
theorem fn63 : EE.fns 63 = some ir63 := by kernel_rfl
theorem fn64 : EE.fns 64 = some ir64 := by kernel_rfl
theorem fn65 : EE.fns 65 = some ir65 := by kernel_rfl
theorem fn66 : EE.fns 66 = some ir66 := by kernel_rfl
theorem fn67 : EE.fns 67 = some ir67 := by kernel_rfl
theorem fn68 : EE.fns 68 = some ir68 := by kernel_rfl
theorem fn78 : EE.fns 78 = some ir78 := by kernel_rfl
theorem fn79 : EE.fns 79 = some ir79 := by kernel_rfl
theorem fn80 : EE.fns 80 = some ir80 := by kernel_rfl
theorem fn82 : EE.fns 82 = some ir82 := by kernel_rfl
theorem fn83 : EE.fns 83 = some ir83 := by kernel_rfl
theorem fn84 : EE.fns 84 = some ir84 := by kernel_rfl
theorem fn85 : EE.fns 85 = some ir85 := by kernel_rfl
theorem fn86 : EE.fns 86 = some ir86 := by kernel_rfl
theorem fn88 : EE.fns 88 = some ir88 := by kernel_rfl
theorem fn89 : EE.fns 89 = some ir89 := by kernel_rfl
theorem fn90 : EE.fns 90 = some ir90 := by kernel_rfl
theorem fn91 : EE.fns 91 = some ir91 := by kernel_rfl
theorem fn92 : EE.fns 92 = some ir92 := by kernel_rfl
theorem fn93 : EE.fns 93 = some ir93 := by kernel_rfl
theorem fn98 : EE.fns 98 = some ir98 := by kernel_rfl
theorem fn109 : EE.fns 109 = some ir109 := by kernel_rfl
theorem fn110 : EE.fns 110 = some ir110 := by kernel_rfl
theorem fn111 : EE.fns 111 = some ir111 := by kernel_rfl
theorem fn112 : EE.fns 112 = some ir112 := by kernel_rfl
theorem fn113 : EE.fns 113 = some ir113 := by kernel_rfl
theorem fn114 : EE.fns 114 = some ir114 := by kernel_rfl
theorem fn115 : EE.fns 115 = some ir115 := by kernel_rfl
theorem fn116 : EE.fns 116 = some ir116 := by kernel_rfl
theorem fn117 : EE.fns 117 = some ir117 := by kernel_rfl
theorem fn118 : EE.fns 118 = some ir118 := by kernel_rfl
theorem fn119 : EE.fns 119 = some ir119 := by kernel_rfl
theorem fn120 : EE.fns 120 = some ir120 := by kernel_rfl
theorem fn121 : EE.fns 121 = some ir121 := by kernel_rfl
theorem fn122 : EE.fns 122 = some ir122 := by kernel_rfl
theorem fn123 : EE.fns 123 = some ir123 := by kernel_rfl
theorem fn128 : EE.fns 128 = some ir128 := by kernel_rfl
theorem fn142 : EE.fns 142 = some ir142 := by kernel_rfl
theorem fn143 : EE.fns 143 = some ir143 := by kernel_rfl
theorem fn144 : EE.fns 144 = some ir144 := by kernel_rfl
theorem fn145 : EE.fns 145 = some ir145 := by kernel_rfl
theorem fn146 : EE.fns 146 = some ir146 := by kernel_rfl
theorem fn147 : EE.fns 147 = some ir147 := by kernel_rfl
theorem fn148 : EE.fns 148 = some ir148 := by kernel_rfl
theorem fn149 : EE.fns 149 = some ir149 := by kernel_rfl
theorem fn150 : EE.fns 150 = some ir150 := by kernel_rfl
theorem fn151 : EE.fns 151 = some ir151 := by kernel_rfl
theorem fn152 : EE.fns 152 = some ir152 := by kernel_rfl
theorem fn153 : EE.fns 153 = some ir153 := by kernel_rfl
theorem fn154 : EE.fns 154 = some ir154 := by kernel_rfl
theorem fn155 : EE.fns 155 = some ir155 := by kernel_rfl
theorem fn156 : EE.fns 156 = some ir156 := by kernel_rfl
theorem fn157 : EE.fns 157 = some ir157 := by kernel_rfl
theorem fn158 : EE.fns 158 = some ir158 := by kernel_rfl
theorem fn159 : EE.fns 159 = some ir159 := by kernel_rfl
theorem fn160 : EE.fns 160 = some ir160 := by kernel_rfl
theorem fn161 : EE.fns 161 = some ir161 := by kernel_rfl
theorem fn162 : EE.fns 162 = some ir162 := by kernel_rfl
theorem fn163 : EE.fns 163 = some ir163 := by kernel_rfl
theorem fn171 : EE.fns 171 = some ir171 := by kernel_rfl
theorem fn172 : EE.fns 172 = some ir172 := by kernel_rfl
theorem fn173 : EE.fns 173 = some ir173 := by kernel_rfl
theorem fn174 : EE.fns 174 = some ir174 := by kernel_rfl
theorem fn177 : EE.fns 177 = some ir177 := by kernel_rfl
theorem fn178 : EE.fns 178 = some ir178 := by kernel_rfl
theorem fn192 : EE.fns 192 = some ir192 := by kernel_rfl
theorem fn193 : EE.fns 193 = some ir193 := by kernel_rfl
theorem fn194 : EE.fns 194 = some ir194 := by kernel_rfl
theorem fn195 : EE.fns 195 = some ir195 := by kernel_rfl
theorem fn196 : EE.fns 196 = some ir196 := by kernel_rfl
theorem fn197 : EE.fns 197 = some ir197 := by kernel_rfl
theorem fn198 : EE.fns 198 = some ir198 := by kernel_rfl
theorem fn199 : EE.fns 199 = some ir199 := by kernel_rfl
theorem fn200 : EE.fns 200 = some ir200 := by kernel_rfl
theorem fn201 : EE.fns 201 = some ir201 := by kernel_rfl
theorem fn202 : EE.fns 202 = some ir202 := by kernel_rfl
theorem fn203 : EE.fns 203 = some ir203 := by kernel_rfl
theorem fn204 : EE.fns 204 = some ir204 := by kernel_rfl
theorem fn205 : EE.fns 205 = some ir205 := by kernel_rfl
theorem fn208 : EE.fns 208 = some ir208 := by kernel_rfl
theorem fn209 : EE.fns 209 = some ir209 := by kernel_rfl
theorem fn212 : EE.fns 212 = some ir212 := by kernel_rfl
theorem fn221 : EE.fns 221 = some ir221 := by kernel_rfl
theorem fn222 : EE.fns 222 = some ir222 := by kernel_rfl
theorem fn223 : EE.fns 223 = some ir223 := by kernel_rfl
theorem fn224 : EE.fns 224 = some ir224 := by kernel_rfl
theorem fn225 : EE.fns 225 = some ir225 := by kernel_rfl
theorem fn226 : EE.fns 226 = some ir226 := by kernel_rfl
theorem fn227 : EE.fns 227 = some ir227 := by kernel_rfl
theorem fn228 : EE.fns 228 = some ir228 := by kernel_rfl
theorem fn229 : EE.fns 229 = some ir229 := by kernel_rfl
theorem fn230 : EE.fns 230 = some ir230 := by kernel_rfl
theorem fn231 : EE.fns 231 = some ir231 := by kernel_rfl
theorem fn232 : EE.fns 232 = some ir232 := by kernel_rfl
theorem fn233 : EE.fns 233 = some ir233 := by kernel_rfl
theorem fn234 : EE.fns 234 = some ir234 := by kernel_rfl
theorem fn235 : EE.fns 235 = some ir235 := by kernel_rfl
theorem fn238 : EE.fns 238 = some ir238 := by kernel_rfl
theorem fn240 : EE.fns 240 = some ir240 := by kernel_rfl
theorem fn241 : EE.fns 241 = some ir241 := by kernel_rfl
theorem fn244 : EE.fns 244 = some ir244 := by kernel_rfl
theorem fn250 : EE.fns 250 = some ir250 := by kernel_rfl
theorem fn251 : EE.fns 251 = some ir251 := by kernel_rfl
theorem fn252 : EE.fns 252 = some ir252 := by kernel_rfl
theorem fn253 : EE.fns 253 = some ir253 := by kernel_rfl
theorem fn254 : EE.fns 254 = some ir254 := by kernel_rfl
theorem fn255 : EE.fns 255 = some ir255 := by kernel_rfl
theorem fn256 : EE.fns 256 = some ir256 := by kernel_rfl
theorem fn257 : EE.fns 257 = some ir257 := by kernel_rfl
theorem fn258 : EE.fns 258 = some ir258 := by kernel_rfl
theorem fn266 : EE.fns 266 = some ir266 := by kernel_rfl
theorem fn267 : EE.fns 267 = some ir267 := by kernel_rfl
theorem fn268 : EE.fns 268 = some ir268 := by kernel_rfl
theorem fn269 : EE.fns 269 = some ir269 := by kernel_rfl
theorem fn270 : EE.fns 270 = some ir270 := by kernel_rfl
theorem fn271 : EE.fns 271 = some ir271 := by kernel_rfl
theorem fn272 : EE.fns 272 = some ir272 := by kernel_rfl
theorem fn273 : EE.fns 273 = some ir273 := by kernel_rfl
theorem fn274 : EE.fns 274 = some ir274 := by kernel_rfl
theorem fn275 : EE.fns 275 = some ir275 := by kernel_rfl
theorem fn276 : EE.fns 276 = some ir276 := by kernel_rfl
theorem fn277 : EE.fns 277 = some ir277 := by kernel_rfl
theorem fn278 : EE.fns 278 = some ir278 := by kernel_rfl
theorem fn279 : EE.fns 279 = some ir279 := by kernel_rfl
theorem fn280 : EE.fns 280 = some ir280 := by kernel_rfl
theorem fn281 : EE.fns 281 = some ir281 := by kernel_rfl
theorem fn282 : EE.fns 282 = some ir282 := by kernel_rfl
theorem fn283 : EE.fns 283 = some ir283 := by kernel_rfl
theorem fn284 : EE.fns 284 = some ir284 := by kernel_rfl
theorem fn285 : EE.fns 285 = some ir285 := by kernel_rfl
theorem fn286 : EE.fns 286 = some ir286 := by kernel_rfl
theorem fn288 : EE.fns 288 = some ir288 := by kernel_rfl
theorem fn289 : EE.fns 289 = some ir289 := by kernel_rfl
theorem fn290 : EE.fns 290 = some ir290 := by kernel_rfl
theorem fn298 : EE.fns 298 = some ir298 := by kernel_rfl
theorem fn299 : EE.fns 299 = some ir299 := by kernel_rfl
theorem fn300 : EE.fns 300 = some ir300 := by kernel_rfl
theorem fn301 : EE.fns 301 = some ir301 := by kernel_rfl
theorem fn302 : EE.fns 302 = some ir302 := by kernel_rfl
theorem fn303 : EE.fns 303 = some ir303 := by kernel_rfl
theorem fn304 : EE.fns 304 = some ir304 := by kernel_rfl
theorem fn305 : EE.fns 305 = some ir305 := by kernel_rfl
theorem fn306 : EE.fns 306 = some ir306 := by kernel_rfl
theorem fn307 : EE.fns 307 = some ir307 := by kernel_rfl
theorem fn308 : EE.fns 308 = some ir308 := by kernel_rfl
theorem fn309 : EE.fns 309 = some ir309 := by kernel_rfl
theorem fn310 : EE.fns 310 = some ir310 := by kernel_rfl
theorem fn311 : EE.fns 311 = some ir311 := by kernel_rfl
theorem fn312 : EE.fns 312 = some ir312 := by kernel_rfl
theorem fn313 : EE.fns 313 = some ir313 := by kernel_rfl
theorem fn314 : EE.fns 314 = some ir314 := by kernel_rfl
theorem fn315 : EE.fns 315 = some ir315 := by kernel_rfl
theorem fn316 : EE.fns 316 = some ir316 := by kernel_rfl
theorem fn317 : EE.fns 317 = some ir317 := by kernel_rfl
theorem fn318 : EE.fns 318 = some ir318 := by kernel_rfl
theorem fn319 : EE.fns 319 = some ir319 := by kernel_rfl
theorem fn320 : EE.fns 320 = some ir320 := by kernel_rfl
theorem fn321 : EE.fns 321 = some ir321 := by kernel_rfl
theorem fn322 : EE.fns 322 = some ir322 := by kernel_rfl
theorem fn329 : EE.fns 329 = some ir329 := by kernel_rfl
theorem fn330 : EE.fns 330 = some ir330 := by kernel_rfl
theorem fn331 : EE.fns 331 = some ir331 := by kernel_rfl
theorem fn332 : EE.fns 332 = some ir332 := by kernel_rfl
theorem fn333 : EE.fns 333 = some ir333 := by kernel_rfl
theorem fn334 : EE.fns 334 = some ir334 := by kernel_rfl
theorem fn335 : EE.fns 335 = some ir335 := by kernel_rfl
theorem fn336 : EE.fns 336 = some ir336 := by kernel_rfl
theorem fn337 : EE.fns 337 = some ir337 := by kernel_rfl
theorem fn338 : EE.fns 338 = some ir338 := by kernel_rfl
theorem fn339 : EE.fns 339 = some ir339 := by kernel_rfl
theorem fn340 : EE.fns 340 = some ir340 := by kernel_rfl
theorem fn341 : EE.fns 341 = some ir341 := by kernel_rfl
theorem fn342 : EE.fns 342 = some ir342 := by kernel_rfl
theorem fn343 : EE.fns 343 = some ir343 := by kernel_rfl
theorem fn344 : EE.fns 344 = some ir344 := by kernel_rfl
theorem fn345 : EE.fns 345 = some ir345 := by kernel_rfl
theorem fn346 : EE.fns 346 = some ir346 := by kernel_rfl
theorem fn347 : EE.fns 347 = some ir347 := by kernel_rfl
theorem fn354 : EE.fns 354 = some ir354 := by kernel_rfl
theorem fn355 : EE.fns 355 = some ir355 := by kernel_rfl
end Go.EnvOf
