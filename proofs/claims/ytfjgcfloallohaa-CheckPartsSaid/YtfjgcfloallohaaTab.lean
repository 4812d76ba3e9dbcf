/- The table of the functions. -/
import Derived.KernelRfl
import Derived.Test.YtfjgcfloallohaaIr0
namespace Go.EnvOf
open Go Go.Eng
set_option maxRecDepth 100000
def tab : List (Nat × IFn) := [(13, ir13), (18, ir18), (46, ir46), (54, ir54), (56, ir56), (59, ir59), (61, ir61), (62, ir62), (63, ir63), (64, ir64), (65, ir65), (66, ir66), (93, ir93), (94, ir94), (95, ir95), (96, ir96), (97, ir97), (98, ir98), (99, ir99), (102, ir102), (112, ir112), (117, ir117), (118, ir118), (119, ir119), (120, ir120), (125, ir125), (139, ir139), (140, ir140), (141, ir141), (142, ir142), (143, ir143), (144, ir144), (145, ir145), (150, ir150), (151, ir151), (152, ir152), (153, ir153), (154, ir154), (155, ir155), (156, ir156), (157, ir157), (158, ir158), (159, ir159), (160, ir160), (161, ir161), (162, ir162), (163, ir163), (164, ir164), (165, ir165), (166, ir166), (167, ir167), (177, ir177), (178, ir178), (179, ir179), (182, ir182), (183, ir183), (184, ir184), (185, ir185), (186, ir186), (187, ir187), (188, ir188), (189, ir189), (190, ir190), (191, ir191), (192, ir192), (193, ir193), (194, ir194), (195, ir195), (196, ir196), (197, ir197), (198, ir198), (199, ir199), (200, ir200), (201, ir201), (202, ir202), (203, ir203), (204, ir204), (220, ir220), (221, ir221), (222, ir222), (223, ir223), (224, ir224), (225, ir225), (226, ir226), (227, ir227), (228, ir228), (229, ir229), (230, ir230), (231, ir231), (232, ir232), (233, ir233), (234, ir234), (235, ir235), (236, ir236), (237, ir237), (238, ir238), (239, ir239), (246, ir246), (247, ir247)]
def fnsT (f : FuncId) : Option IFn := (tab.find? fun p => p.1 == f).map (·.2)
def EE : Env := ⟨fnsT, fun _ => none⟩
theorem noP (f : FuncId) : EE.prims f = none := rfl
theorem fn13 : EE.fns 13 = some ir13 := by kernel_rfl
theorem fn18 : EE.fns 18 = some ir18 := by kernel_rfl
theorem fn46 : EE.fns 46 = some ir46 := by kernel_rfl
theorem fn54 : EE.fns 54 = some ir54 := by kernel_rfl
theorem fn56 : EE.fns 56 = some ir56 := by kernel_rfl
theorem fn59 : EE.fns 59 = some ir59 := by kernel_rfl
theorem fn61 : EE.fns 61 = some ir61 := by kernel_rfl
theorem fn62 : EE.fns 62 = some ir62 := by kernel_rfl
theorem fn63 : EE.fns 63 = some ir63 := by kernel_rfl
theorem fn64 : EE.fns 64 = some ir64 := by kernel_rfl
theorem fn65 : EE.fns 65 = some ir65 := by kernel_rfl
theorem fn66 : EE.fns 66 = some ir66 := by kernel_rfl
theorem fn93 : EE.fns 93 = some ir93 := by kernel_rfl
theorem fn94 : EE.fns 94 = some ir94 := by kernel_rfl
theorem fn95 : EE.fns 95 = some ir95 := by kernel_rfl
theorem fn96 : EE.fns 96 = some ir96 := by kernel_rfl
theorem fn97 : EE.fns 97 = some ir97 := by kernel_rfl
theorem fn98 : EE.fns 98 = some ir98 := by kernel_rfl
theorem fn99 : EE.fns 99 = some ir99 := by kernel_rfl
theorem fn102 : EE.fns 102 = some ir102 := by kernel_rfl
theorem fn112 : EE.fns 112 = some ir112 := by kernel_rfl
theorem fn117 : EE.fns 117 = some ir117 := by kernel_rfl
theorem fn118 : EE.fns 118 = some ir118 := by kernel_rfl
theorem fn119 : EE.fns 119 = some ir119 := by kernel_rfl
theorem fn120 : EE.fns 120 = some ir120 := by kernel_rfl
theorem fn125 : EE.fns 125 = some ir125 := by kernel_rfl
theorem fn139 : EE.fns 139 = some ir139 := by kernel_rfl
theorem fn140 : EE.fns 140 = some ir140 := by kernel_rfl
theorem fn141 : EE.fns 141 = some ir141 := by kernel_rfl
theorem fn142 : EE.fns 142 = some ir142 := by kernel_rfl
theorem fn143 : EE.fns 143 = some ir143 := by kernel_rfl
theorem fn144 : EE.fns 144 = some ir144 := by kernel_rfl
theorem fn145 : EE.fns 145 = some ir145 := by kernel_rfl
theorem fn150 : EE.fns 150 = some ir150 := by kernel_rfl
theorem fn151 : EE.fns 151 = some ir151 := by kernel_rfl
theorem fn152 : EE.fns 152 = some ir152 := by kernel_rfl
theorem fn153 : EE.fns 153 = some ir153 := by kernel_rfl
theorem fn154 : EE.fns 154 = some ir154 := by kernel_rfl
theorem fn155 : EE.fns 155 = some ir155 := by kernel_rfl
theorem fn156 : EE.fns 156 = some ir156 := by kernel_rfl
theorem fn157 : EE.fns 157 = some ir157 := by kernel_rfl
theorem fn158 : EE.fns 158 = some ir158 := by kernel_rfl
theorem fn159 : EE.fns 159 = some ir159 := by kernel_rfl
theorem fn160 : EE.fns 160 = some ir160 := by kernel_rfl
theorem fn161 : EE.fns 161 = some ir161 := by kernel_rfl
theorem fn162 : EE.fns 162 = some ir162 := by kernel_rfl
theorem fn163 : EE.fns 163 = some ir163 := by kernel_rfl
theorem fn164 : EE.fns 164 = some ir164 := by kernel_rfl
theorem fn165 : EE.fns 165 = some ir165 := by kernel_rfl
theorem fn166 : EE.fns 166 = some ir166 := by kernel_rfl
theorem fn167 : EE.fns 167 = some ir167 := by kernel_rfl
theorem fn177 : EE.fns 177 = some ir177 := by kernel_rfl
theorem fn178 : EE.fns 178 = some ir178 := by kernel_rfl
theorem fn179 : EE.fns 179 = some ir179 := by kernel_rfl
theorem fn182 : EE.fns 182 = some ir182 := by kernel_rfl
theorem fn183 : EE.fns 183 = some ir183 := by kernel_rfl
theorem fn184 : EE.fns 184 = some ir184 := by kernel_rfl
theorem fn185 : EE.fns 185 = some ir185 := by kernel_rfl
theorem fn186 : EE.fns 186 = some ir186 := by kernel_rfl
theorem fn187 : EE.fns 187 = some ir187 := by kernel_rfl
theorem fn188 : EE.fns 188 = some ir188 := by kernel_rfl
theorem fn189 : EE.fns 189 = some ir189 := by kernel_rfl
theorem fn190 : EE.fns 190 = some ir190 := by kernel_rfl
theorem fn191 : EE.fns 191 = some ir191 := by kernel_rfl
theorem fn192 : EE.fns 192 = some ir192 := by kernel_rfl
theorem fn193 : EE.fns 193 = some ir193 := by kernel_rfl
theorem fn194 : EE.fns 194 = some ir194 := by kernel_rfl
theorem fn195 : EE.fns 195 = some ir195 := by kernel_rfl
theorem fn196 : EE.fns 196 = some ir196 := by kernel_rfl
theorem fn197 : EE.fns 197 = some ir197 := by kernel_rfl
theorem fn198 : EE.fns 198 = some ir198 := by kernel_rfl
theorem fn199 : EE.fns 199 = some ir199 := by kernel_rfl
theorem fn200 : EE.fns 200 = some ir200 := by kernel_rfl
theorem fn201 : EE.fns 201 = some ir201 := by kernel_rfl
theorem fn202 : EE.fns 202 = some ir202 := by kernel_rfl
theorem fn203 : EE.fns 203 = some ir203 := by kernel_rfl
theorem fn204 : EE.fns 204 = some ir204 := by kernel_rfl
theorem fn220 : EE.fns 220 = some ir220 := by kernel_rfl
theorem fn221 : EE.fns 221 = some ir221 := by kernel_rfl
theorem fn222 : EE.fns 222 = some ir222 := by kernel_rfl
theorem fn223 : EE.fns 223 = some ir223 := by kernel_rfl
theorem fn224 : EE.fns 224 = some ir224 := by kernel_rfl
theorem fn225 : EE.fns 225 = some ir225 := by kernel_rfl
theorem fn226 : EE.fns 226 = some ir226 := by kernel_rfl
theorem fn227 : EE.fns 227 = some ir227 := by kernel_rfl
theorem fn228 : EE.fns 228 = some ir228 := by kernel_rfl
theorem fn229 : EE.fns 229 = some ir229 := by kernel_rfl
theorem fn230 : EE.fns 230 = some ir230 := by kernel_rfl
theorem fn231 : EE.fns 231 = some ir231 := by kernel_rfl
theorem fn232 : EE.fns 232 = some ir232 := by kernel_rfl
theorem fn233 : EE.fns 233 = some ir233 := by kernel_rfl
theorem fn234 : EE.fns 234 = some ir234 := by kernel_rfl
theorem fn235 : EE.fns 235 = some ir235 := by kernel_rfl
theorem fn236 : EE.fns 236 = some ir236 := by kernel_rfl
theorem fn237 : EE.fns 237 = some ir237 := by kernel_rfl
theorem fn238 : EE.fns 238 = some ir238 := by kernel_rfl
theorem fn239 : EE.fns 239 = some ir239 := by kernel_rfl
theorem fn246 : EE.fns 246 = some ir246 := by kernel_rfl
theorem fn247 : EE.fns 247 = some ir247 := by kernel_rfl
end Go.EnvOf
