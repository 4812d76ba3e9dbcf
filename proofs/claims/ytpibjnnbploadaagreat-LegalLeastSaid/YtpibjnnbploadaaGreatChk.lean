/- The functions of the table are the program's. -/
import Derived.Test.YtpibjnnbploadaaGreatProg
import Derived.Test.YtpibjnnbploadaaGreatEngAll7
import Derived.Test.YtpibjnnbploadaaGreatEngAll8
import Derived.Test.YtpibjnnbploadaaGreatAwk
import Derived.Test.YtpibjnnbploadaaGreatEngAll9
import Derived.Test.YtpibjnnbploadaaGreatSortLay
namespace Go.EnvOf
open Go Go.Eng
set_option maxRecDepth 100000
theorem ok7 : FnOK Go.Proofs.Tryz.prog 7 ir7 := ⟨_, _, Go.Proofs.Tryz.func7, by kernel_rfl, rfl, by kernel_rfl, by kernel_rfl⟩
theorem ok15 : FnOK Go.Proofs.Tryz.prog 15 ir15 := ⟨_, _, Go.Proofs.Tryz.func15, by kernel_rfl, rfl, by kernel_rfl, by kernel_rfl⟩
theorem ok17 : FnOK Go.Proofs.Tryz.prog 17 ir17 := ⟨_, _, Go.Proofs.Tryz.func17, by kernel_rfl, rfl, by kernel_rfl, by kernel_rfl⟩
theorem ok30 : FnOK Go.Proofs.Tryz.prog 30 ir30 := ⟨_, _, Go.Proofs.Tryz.func30, by kernel_rfl, rfl, by kernel_rfl, by kernel_rfl⟩
theorem ok31 : FnOK Go.Proofs.Tryz.prog 31 ir31 := ⟨_, _, Go.Proofs.Tryz.func31, by kernel_rfl, rfl, by kernel_rfl, by kernel_rfl⟩
theorem ok32 : FnOK Go.Proofs.Tryz.prog 32 ir32 := ⟨_, _, Go.Proofs.Tryz.func32, by kernel_rfl, rfl, by kernel_rfl, by kernel_rfl⟩
theorem ok34 : FnOK Go.Proofs.Tryz.prog 34 ir34 := ⟨_, _, Go.Proofs.Tryz.func34, by kernel_rfl, rfl, by kernel_rfl, by kernel_rfl⟩
theorem ok35 : FnOK Go.Proofs.Tryz.prog 35 ir35 := ⟨_, _, Go.Proofs.Tryz.func35, by kernel_rfl, rfl, by kernel_rfl, by kernel_rfl⟩
theorem ok37 : FnOK Go.Proofs.Tryz.prog 37 ir37 := ⟨_, _, Go.Proofs.Tryz.func37, by kernel_rfl, rfl, by kernel_rfl, by kernel_rfl⟩
theorem ok38 : FnOK Go.Proofs.Tryz.prog 38 ir38 := ⟨_, _, Go.Proofs.Tryz.func38, by kernel_rfl, rfl, by kernel_rfl, by kernel_rfl⟩
theorem ok39 : FnOK Go.Proofs.Tryz.prog 39 ir39 := ⟨_, _, Go.Proofs.Tryz.func39, by kernel_rfl, rfl, by kernel_rfl, by kernel_rfl⟩
theorem ok71 : FnOK Go.Proofs.Tryz.prog 71 ir71 := ⟨_, _, Go.Proofs.Tryz.func71, by kernel_rfl, rfl, by kernel_rfl, by kernel_rfl⟩
theorem ok72 : FnOK Go.Proofs.Tryz.prog 72 ir72 := ⟨_, _, Go.Proofs.Tryz.func72, by kernel_rfl, rfl, by kernel_rfl, by kernel_rfl⟩
theorem ok73 : FnOK Go.Proofs.Tryz.prog 73 ir73 := ⟨_, _, Go.Proofs.Tryz.func73, by kernel_rfl, rfl, by kernel_rfl, by kernel_rfl⟩
theorem ok74 : FnOK Go.Proofs.Tryz.prog 74 ir74 := ⟨_, _, Go.Proofs.Tryz.func74, by kernel_rfl, rfl, by kernel_rfl, by kernel_rfl⟩
theorem ok75 : FnOK Go.Proofs.Tryz.prog 75 ir75 := ⟨_, _, Go.Proofs.Tryz.func75, by kernel_rfl, rfl, by kernel_rfl, by kernel_rfl⟩
theorem ok76 : FnOK Go.Proofs.Tryz.prog 76 ir76 := ⟨_, _, Go.Proofs.Tryz.func76, by kernel_rfl, rfl, by kernel_rfl, by kernel_rfl⟩
theorem ok77 : FnOK Go.Proofs.Tryz.prog 77 ir77 := ⟨_, _, Go.Proofs.Tryz.func77, by kernel_rfl, rfl, by kernel_rfl, by kernel_rfl⟩
theorem ok78 : FnOK Go.Proofs.Tryz.prog 78 ir78 := ⟨_, _, Go.Proofs.Tryz.func78, by kernel_rfl, rfl, by kernel_rfl, by kernel_rfl⟩
theorem ok81 : FnOK Go.Proofs.Tryz.prog 81 ir81 := ⟨_, _, Go.Proofs.Tryz.func81, by kernel_rfl, rfl, by kernel_rfl, by kernel_rfl⟩
theorem ok82 : FnOK Go.Proofs.Tryz.prog 82 ir82 := ⟨_, _, Go.Proofs.Tryz.func82, by kernel_rfl, rfl, by kernel_rfl, by kernel_rfl⟩
theorem ok84 : FnOK Go.Proofs.Tryz.prog 84 ir84 := ⟨_, _, Go.Proofs.Tryz.func84, by kernel_rfl, rfl, by kernel_rfl, by kernel_rfl⟩
theorem ok86 : FnOK Go.Proofs.Tryz.prog 86 ir86 := ⟨_, _, Go.Proofs.Tryz.func86, by kernel_rfl, rfl, by kernel_rfl, by kernel_rfl⟩
theorem ok87 : FnOK Go.Proofs.Tryz.prog 87 ir87 := ⟨_, _, Go.Proofs.Tryz.func87, by kernel_rfl, rfl, by kernel_rfl, by kernel_rfl⟩
theorem ok89 : FnOK Go.Proofs.Tryz.prog 89 ir89 := ⟨_, _, Go.Proofs.Tryz.func89, by kernel_rfl, rfl, by kernel_rfl, by kernel_rfl⟩
theorem ok100 : FnOK Go.Proofs.Tryz.prog 100 ir100 := ⟨_, _, Go.Proofs.Tryz.func100, by kernel_rfl, rfl, by kernel_rfl, by kernel_rfl⟩
theorem ok101 : FnOK Go.Proofs.Tryz.prog 101 ir101 := ⟨_, _, Go.Proofs.Tryz.func101, by kernel_rfl, rfl, by kernel_rfl, by kernel_rfl⟩
theorem ok105 : FnOK Go.Proofs.Tryz.prog 105 ir105 := ⟨_, _, Go.Proofs.Tryz.func105, by kernel_rfl, rfl, by kernel_rfl, by kernel_rfl⟩
theorem ok107 : FnOK Go.Proofs.Tryz.prog 107 ir107 := ⟨_, _, Go.Proofs.Tryz.func107, by kernel_rfl, rfl, by kernel_rfl, by kernel_rfl⟩
theorem ok116 : FnOK Go.Proofs.Tryz.prog 116 ir116 := ⟨_, _, Go.Proofs.Tryz.func116, by kernel_rfl, rfl, by kernel_rfl, by kernel_rfl⟩
theorem ok117 : FnOK Go.Proofs.Tryz.prog 117 ir117 := ⟨_, _, Go.Proofs.Tryz.func117, by kernel_rfl, rfl, by kernel_rfl, by kernel_rfl⟩
theorem ok118 : FnOK Go.Proofs.Tryz.prog 118 ir118 := ⟨_, _, Go.Proofs.Tryz.func118, by kernel_rfl, rfl, by kernel_rfl, by kernel_rfl⟩
theorem ok119 : FnOK Go.Proofs.Tryz.prog 119 ir119 := ⟨_, _, Go.Proofs.Tryz.func119, by kernel_rfl, rfl, by kernel_rfl, by kernel_rfl⟩
theorem ok121 : FnOK Go.Proofs.Tryz.prog 121 ir121 := ⟨_, _, Go.Proofs.Tryz.func121, by kernel_rfl, rfl, by kernel_rfl, by kernel_rfl⟩
theorem ok122 : FnOK Go.Proofs.Tryz.prog 122 ir122 := ⟨_, _, Go.Proofs.Tryz.func122, by kernel_rfl, rfl, by kernel_rfl, by kernel_rfl⟩
theorem ok123 : FnOK Go.Proofs.Tryz.prog 123 ir123 := ⟨_, _, Go.Proofs.Tryz.func123, by kernel_rfl, rfl, by kernel_rfl, by kernel_rfl⟩
theorem ok124 : FnOK Go.Proofs.Tryz.prog 124 ir124 := ⟨_, _, Go.Proofs.Tryz.func124, by kernel_rfl, rfl, by kernel_rfl, by kernel_rfl⟩
theorem ok125 : FnOK Go.Proofs.Tryz.prog 125 ir125 := ⟨_, _, Go.Proofs.Tryz.func125, by kernel_rfl, rfl, by kernel_rfl, by kernel_rfl⟩
theorem ok126 : FnOK Go.Proofs.Tryz.prog 126 ir126 := ⟨_, _, Go.Proofs.Tryz.func126, by kernel_rfl, rfl, by kernel_rfl, by kernel_rfl⟩
theorem ok132 : FnOK Go.Proofs.Tryz.prog 132 ir132 := ⟨_, _, Go.Proofs.Tryz.func132, by kernel_rfl, rfl, by kernel_rfl, by kernel_rfl⟩
theorem ok133 : FnOK Go.Proofs.Tryz.prog 133 ir133 := ⟨_, _, Go.Proofs.Tryz.func133, by kernel_rfl, rfl, by kernel_rfl, by kernel_rfl⟩
theorem ok134 : FnOK Go.Proofs.Tryz.prog 134 ir134 := ⟨_, _, Go.Proofs.Tryz.func134, by kernel_rfl, rfl, by kernel_rfl, by kernel_rfl⟩
theorem ok135 : FnOK Go.Proofs.Tryz.prog 135 ir135 := ⟨_, _, Go.Proofs.Tryz.func135, by kernel_rfl, rfl, by kernel_rfl, by kernel_rfl⟩
theorem ok136 : FnOK Go.Proofs.Tryz.prog 136 ir136 := ⟨_, _, Go.Proofs.Tryz.func136, by kernel_rfl, rfl, by kernel_rfl, by kernel_rfl⟩
theorem ok137 : FnOK Go.Proofs.Tryz.prog 137 ir137 := ⟨_, _, Go.Proofs.Tryz.func137, by kernel_rfl, rfl, by kernel_rfl, by kernel_rfl⟩
theorem ok138 : FnOK Go.Proofs.Tryz.prog 138 ir138 := ⟨_, _, Go.Proofs.Tryz.func138, by kernel_rfl, rfl, by kernel_rfl, by kernel_rfl⟩
theorem ok139 : FnOK Go.Proofs.Tryz.prog 139 ir139 := ⟨_, _, Go.Proofs.Tryz.func139, by kernel_rfl, rfl, by kernel_rfl, by kernel_rfl⟩
theorem ok175 : FnOK Go.Proofs.Tryz.prog 175 ir175 := ⟨_, _, Go.Proofs.Tryz.func175, by kernel_rfl, rfl, by kernel_rfl, by kernel_rfl⟩
theorem ok188 : FnOK Go.Proofs.Tryz.prog 188 ir188 := ⟨_, _, Go.Proofs.Tryz.func188, by kernel_rfl, rfl, by kernel_rfl, by kernel_rfl⟩
theorem ok189 : FnOK Go.Proofs.Tryz.prog 189 ir189 := ⟨_, _, Go.Proofs.Tryz.func189, by kernel_rfl, rfl, by kernel_rfl, by kernel_rfl⟩
theorem ok190 : FnOK Go.Proofs.Tryz.prog 190 ir190 := ⟨_, _, Go.Proofs.Tryz.func190, by kernel_rfl, rfl, by kernel_rfl, by kernel_rfl⟩
theorem ok191 : FnOK Go.Proofs.Tryz.prog 191 ir191 := ⟨_, _, Go.Proofs.Tryz.func191, by kernel_rfl, rfl, by kernel_rfl, by kernel_rfl⟩
theorem ok192 : FnOK Go.Proofs.Tryz.prog 192 ir192 := ⟨_, _, Go.Proofs.Tryz.func192, by kernel_rfl, rfl, by kernel_rfl, by kernel_rfl⟩
theorem ok193 : FnOK Go.Proofs.Tryz.prog 193 ir193 := ⟨_, _, Go.Proofs.Tryz.func193, by kernel_rfl, rfl, by kernel_rfl, by kernel_rfl⟩
theorem ok194 : FnOK Go.Proofs.Tryz.prog 194 ir194 := ⟨_, _, Go.Proofs.Tryz.func194, by kernel_rfl, rfl, by kernel_rfl, by kernel_rfl⟩
theorem ok195 : FnOK Go.Proofs.Tryz.prog 195 ir195 := ⟨_, _, Go.Proofs.Tryz.func195, by kernel_rfl, rfl, by kernel_rfl, by kernel_rfl⟩
theorem ok196 : FnOK Go.Proofs.Tryz.prog 196 ir196 := ⟨_, _, Go.Proofs.Tryz.func196, by kernel_rfl, rfl, by kernel_rfl, by kernel_rfl⟩
theorem ok197 : FnOK Go.Proofs.Tryz.prog 197 ir197 := ⟨_, _, Go.Proofs.Tryz.func197, by kernel_rfl, rfl, by kernel_rfl, by kernel_rfl⟩
theorem ok198 : FnOK Go.Proofs.Tryz.prog 198 ir198 := ⟨_, _, Go.Proofs.Tryz.func198, by kernel_rfl, rfl, by kernel_rfl, by kernel_rfl⟩
theorem ok199 : FnOK Go.Proofs.Tryz.prog 199 ir199 := ⟨_, _, Go.Proofs.Tryz.func199, by kernel_rfl, rfl, by kernel_rfl, by kernel_rfl⟩
theorem ok200 : FnOK Go.Proofs.Tryz.prog 200 ir200 := ⟨_, _, Go.Proofs.Tryz.func200, by kernel_rfl, rfl, by kernel_rfl, by kernel_rfl⟩
theorem ok201 : FnOK Go.Proofs.Tryz.prog 201 ir201 := ⟨_, _, Go.Proofs.Tryz.func201, by kernel_rfl, rfl, by kernel_rfl, by kernel_rfl⟩
theorem ok202 : FnOK Go.Proofs.Tryz.prog 202 ir202 := ⟨_, _, Go.Proofs.Tryz.func202, by kernel_rfl, rfl, by kernel_rfl, by kernel_rfl⟩
theorem ok211 : FnOK Go.Proofs.Tryz.prog 211 ir211 := ⟨_, _, Go.Proofs.Tryz.func211, by kernel_rfl, rfl, by kernel_rfl, by kernel_rfl⟩
theorem ok212 : FnOK Go.Proofs.Tryz.prog 212 ir212 := ⟨_, _, Go.Proofs.Tryz.func212, by kernel_rfl, rfl, by kernel_rfl, by kernel_rfl⟩
theorem ok213 : FnOK Go.Proofs.Tryz.prog 213 ir213 := ⟨_, _, Go.Proofs.Tryz.func213, by kernel_rfl, rfl, by kernel_rfl, by kernel_rfl⟩
theorem ok214 : FnOK Go.Proofs.Tryz.prog 214 ir214 := ⟨_, _, Go.Proofs.Tryz.func214, by kernel_rfl, rfl, by kernel_rfl, by kernel_rfl⟩
theorem ok215 : FnOK Go.Proofs.Tryz.prog 215 ir215 := ⟨_, _, Go.Proofs.Tryz.func215, by kernel_rfl, rfl, by kernel_rfl, by kernel_rfl⟩
theorem ok216 : FnOK Go.Proofs.Tryz.prog 216 ir216 := ⟨_, _, Go.Proofs.Tryz.func216, by kernel_rfl, rfl, by kernel_rfl, by kernel_rfl⟩
theorem ok217 : FnOK Go.Proofs.Tryz.prog 217 ir217 := ⟨_, _, Go.Proofs.Tryz.func217, by kernel_rfl, rfl, by kernel_rfl, by kernel_rfl⟩
theorem ok218 : FnOK Go.Proofs.Tryz.prog 218 ir218 := ⟨_, _, Go.Proofs.Tryz.func218, by kernel_rfl, rfl, by kernel_rfl, by kernel_rfl⟩
theorem ok221 : FnOK Go.Proofs.Tryz.prog 221 ir221 := ⟨_, _, Go.Proofs.Tryz.func221, by kernel_rfl, rfl, by kernel_rfl, by kernel_rfl⟩
theorem ok231 : FnOK Go.Proofs.Tryz.prog 231 ir231 := ⟨_, _, Go.Proofs.Tryz.func231, by kernel_rfl, rfl, by kernel_rfl, by kernel_rfl⟩
theorem ok232 : FnOK Go.Proofs.Tryz.prog 232 ir232 := ⟨_, _, Go.Proofs.Tryz.func232, by kernel_rfl, rfl, by kernel_rfl, by kernel_rfl⟩
theorem ok235 : FnOK Go.Proofs.Tryz.prog 235 ir235 := ⟨_, _, Go.Proofs.Tryz.func235, by kernel_rfl, rfl, by kernel_rfl, by kernel_rfl⟩
theorem ok236 : FnOK Go.Proofs.Tryz.prog 236 ir236 := ⟨_, _, Go.Proofs.Tryz.func236, by kernel_rfl, rfl, by kernel_rfl, by kernel_rfl⟩
theorem ok237 : FnOK Go.Proofs.Tryz.prog 237 ir237 := ⟨_, _, Go.Proofs.Tryz.func237, by kernel_rfl, rfl, by kernel_rfl, by kernel_rfl⟩
theorem ok248 : FnOK Go.Proofs.Tryz.prog 248 ir248 := ⟨_, _, Go.Proofs.Tryz.func248, by kernel_rfl, rfl, by kernel_rfl, by kernel_rfl⟩
theorem ok249 : FnOK Go.Proofs.Tryz.prog 249 ir249 := ⟨_, _, Go.Proofs.Tryz.func249, by kernel_rfl, rfl, by kernel_rfl, by kernel_rfl⟩
theorem ok250 : FnOK Go.Proofs.Tryz.prog 250 ir250 := ⟨_, _, Go.Proofs.Tryz.func250, by kernel_rfl, rfl, by kernel_rfl, by kernel_rfl⟩
theorem ok251 : FnOK Go.Proofs.Tryz.prog 251 ir251 := ⟨_, _, Go.Proofs.Tryz.func251, by kernel_rfl, rfl, by kernel_rfl, by kernel_rfl⟩
theorem ok252 : FnOK Go.Proofs.Tryz.prog 252 ir252 := ⟨_, _, Go.Proofs.Tryz.func252, by kernel_rfl, rfl, by kernel_rfl, by kernel_rfl⟩
theorem ok253 : FnOK Go.Proofs.Tryz.prog 253 ir253 := ⟨_, _, Go.Proofs.Tryz.func253, by kernel_rfl, rfl, by kernel_rfl, by kernel_rfl⟩
theorem ok254 : FnOK Go.Proofs.Tryz.prog 254 ir254 := ⟨_, _, Go.Proofs.Tryz.func254, by kernel_rfl, rfl, by kernel_rfl, by kernel_rfl⟩
theorem ok255 : FnOK Go.Proofs.Tryz.prog 255 ir255 := ⟨_, _, Go.Proofs.Tryz.func255, by kernel_rfl, rfl, by kernel_rfl, by kernel_rfl⟩
theorem ok256 : FnOK Go.Proofs.Tryz.prog 256 ir256 := ⟨_, _, Go.Proofs.Tryz.func256, by kernel_rfl, rfl, by kernel_rfl, by kernel_rfl⟩
theorem ok257 : FnOK Go.Proofs.Tryz.prog 257 ir257 := ⟨_, _, Go.Proofs.Tryz.func257, by kernel_rfl, rfl, by kernel_rfl, by kernel_rfl⟩
theorem ok258 : FnOK Go.Proofs.Tryz.prog 258 ir258 := ⟨_, _, Go.Proofs.Tryz.func258, by kernel_rfl, rfl, by kernel_rfl, by kernel_rfl⟩
theorem ok259 : FnOK Go.Proofs.Tryz.prog 259 ir259 := ⟨_, _, Go.Proofs.Tryz.func259, by kernel_rfl, rfl, by kernel_rfl, by kernel_rfl⟩
theorem ok260 : FnOK Go.Proofs.Tryz.prog 260 ir260 := ⟨_, _, Go.Proofs.Tryz.func260, by kernel_rfl, rfl, by kernel_rfl, by kernel_rfl⟩
theorem ok261 : FnOK Go.Proofs.Tryz.prog 261 ir261 := ⟨_, _, Go.Proofs.Tryz.func261, by kernel_rfl, rfl, by kernel_rfl, by kernel_rfl⟩
theorem ok262 : FnOK Go.Proofs.Tryz.prog 262 ir262 := ⟨_, _, Go.Proofs.Tryz.func262, by kernel_rfl, rfl, by kernel_rfl, by kernel_rfl⟩
theorem ok263 : FnOK Go.Proofs.Tryz.prog 263 ir263 := ⟨_, _, Go.Proofs.Tryz.func263, by kernel_rfl, rfl, by kernel_rfl, by kernel_rfl⟩
theorem ok264 : FnOK Go.Proofs.Tryz.prog 264 ir264 := ⟨_, _, Go.Proofs.Tryz.func264, by kernel_rfl, rfl, by kernel_rfl, by kernel_rfl⟩
theorem ok265 : FnOK Go.Proofs.Tryz.prog 265 ir265 := ⟨_, _, Go.Proofs.Tryz.func265, by kernel_rfl, rfl, by kernel_rfl, by kernel_rfl⟩
theorem ok266 : FnOK Go.Proofs.Tryz.prog 266 ir266 := ⟨_, _, Go.Proofs.Tryz.func266, by kernel_rfl, rfl, by kernel_rfl, by kernel_rfl⟩
theorem ok267 : FnOK Go.Proofs.Tryz.prog 267 ir267 := ⟨_, _, Go.Proofs.Tryz.func267, by kernel_rfl, rfl, by kernel_rfl, by kernel_rfl⟩
theorem ok268 : FnOK Go.Proofs.Tryz.prog 268 ir268 := ⟨_, _, Go.Proofs.Tryz.func268, by kernel_rfl, rfl, by kernel_rfl, by kernel_rfl⟩
theorem ok269 : FnOK Go.Proofs.Tryz.prog 269 ir269 := ⟨_, _, Go.Proofs.Tryz.func269, by kernel_rfl, rfl, by kernel_rfl, by kernel_rfl⟩
theorem ok270 : FnOK Go.Proofs.Tryz.prog 270 ir270 := ⟨_, _, Go.Proofs.Tryz.func270, by kernel_rfl, rfl, by kernel_rfl, by kernel_rfl⟩
theorem ok271 : FnOK Go.Proofs.Tryz.prog 271 ir271 := ⟨_, _, Go.Proofs.Tryz.func271, by kernel_rfl, rfl, by kernel_rfl, by kernel_rfl⟩
theorem ok272 : FnOK Go.Proofs.Tryz.prog 272 ir272 := ⟨_, _, Go.Proofs.Tryz.func272, by kernel_rfl, rfl, by kernel_rfl, by kernel_rfl⟩
theorem ok273 : FnOK Go.Proofs.Tryz.prog 273 ir273 := ⟨_, _, Go.Proofs.Tryz.func273, by kernel_rfl, rfl, by kernel_rfl, by kernel_rfl⟩
theorem ok284 : FnOK Go.Proofs.Tryz.prog 284 ir284 := ⟨_, _, Go.Proofs.Tryz.func284, by kernel_rfl, rfl, by kernel_rfl, by kernel_rfl⟩
theorem ok285 : FnOK Go.Proofs.Tryz.prog 285 ir285 := ⟨_, _, Go.Proofs.Tryz.func285, by kernel_rfl, rfl, by kernel_rfl, by kernel_rfl⟩
theorem ok286 : FnOK Go.Proofs.Tryz.prog 286 ir286 := ⟨_, _, Go.Proofs.Tryz.func286, by kernel_rfl, rfl, by kernel_rfl, by kernel_rfl⟩
theorem ok287 : FnOK Go.Proofs.Tryz.prog 287 ir287 := ⟨_, _, Go.Proofs.Tryz.func287, by kernel_rfl, rfl, by kernel_rfl, by kernel_rfl⟩
theorem ok288 : FnOK Go.Proofs.Tryz.prog 288 ir288 := ⟨_, _, Go.Proofs.Tryz.func288, by kernel_rfl, rfl, by kernel_rfl, by kernel_rfl⟩
theorem ok289 : FnOK Go.Proofs.Tryz.prog 289 ir289 := ⟨_, _, Go.Proofs.Tryz.func289, by kernel_rfl, rfl, by kernel_rfl, by kernel_rfl⟩
theorem ok290 : FnOK Go.Proofs.Tryz.prog 290 ir290 := ⟨_, _, Go.Proofs.Tryz.func290, by kernel_rfl, rfl, by kernel_rfl, by kernel_rfl⟩
theorem ok291 : FnOK Go.Proofs.Tryz.prog 291 ir291 := ⟨_, _, Go.Proofs.Tryz.func291, by kernel_rfl, rfl, by kernel_rfl, by kernel_rfl⟩
theorem ok316 : FnOK Go.Proofs.Tryz.prog 316 ir316 := ⟨_, _, Go.Proofs.Tryz.func316, by kernel_rfl, rfl, by kernel_rfl, by kernel_rfl⟩
theorem ok329 : FnOK Go.Proofs.Tryz.prog 329 ir329 := ⟨_, _, Go.Proofs.Tryz.func329, by kernel_rfl, rfl, by kernel_rfl, by kernel_rfl⟩
theorem ok330 : FnOK Go.Proofs.Tryz.prog 330 ir330 := ⟨_, _, Go.Proofs.Tryz.func330, by kernel_rfl, rfl, by kernel_rfl, by kernel_rfl⟩
theorem ok331 : FnOK Go.Proofs.Tryz.prog 331 ir331 := ⟨_, _, Go.Proofs.Tryz.func331, by kernel_rfl, rfl, by kernel_rfl, by kernel_rfl⟩
theorem ok332 : FnOK Go.Proofs.Tryz.prog 332 ir332 := ⟨_, _, Go.Proofs.Tryz.func332, by kernel_rfl, rfl, by kernel_rfl, by kernel_rfl⟩
theorem ok333 : FnOK Go.Proofs.Tryz.prog 333 ir333 := ⟨_, _, Go.Proofs.Tryz.func333, by kernel_rfl, rfl, by kernel_rfl, by kernel_rfl⟩
theorem ok334 : FnOK Go.Proofs.Tryz.prog 334 ir334 := ⟨_, _, Go.Proofs.Tryz.func334, by kernel_rfl, rfl, by kernel_rfl, by kernel_rfl⟩
theorem ok335 : FnOK Go.Proofs.Tryz.prog 335 ir335 := ⟨_, _, Go.Proofs.Tryz.func335, by kernel_rfl, rfl, by kernel_rfl, by kernel_rfl⟩
theorem ok336 : FnOK Go.Proofs.Tryz.prog 336 ir336 := ⟨_, _, Go.Proofs.Tryz.func336, by kernel_rfl, rfl, by kernel_rfl, by kernel_rfl⟩
theorem ok337 : FnOK Go.Proofs.Tryz.prog 337 ir337 := ⟨_, _, Go.Proofs.Tryz.func337, by kernel_rfl, rfl, by kernel_rfl, by kernel_rfl⟩
theorem ok338 : FnOK Go.Proofs.Tryz.prog 338 ir338 := ⟨_, _, Go.Proofs.Tryz.func338, by kernel_rfl, rfl, by kernel_rfl, by kernel_rfl⟩
theorem ok344 : FnOK Go.Proofs.Tryz.prog 344 ir344 := ⟨_, _, Go.Proofs.Tryz.func344, by kernel_rfl, rfl, by kernel_rfl, by kernel_rfl⟩
theorem ok345 : FnOK Go.Proofs.Tryz.prog 345 ir345 := ⟨_, _, Go.Proofs.Tryz.func345, by kernel_rfl, rfl, by kernel_rfl, by kernel_rfl⟩
theorem ok346 : FnOK Go.Proofs.Tryz.prog 346 ir346 := ⟨_, _, Go.Proofs.Tryz.func346, by kernel_rfl, rfl, by kernel_rfl, by kernel_rfl⟩
theorem ok347 : FnOK Go.Proofs.Tryz.prog 347 ir347 := ⟨_, _, Go.Proofs.Tryz.func347, by kernel_rfl, rfl, by kernel_rfl, by kernel_rfl⟩
theorem ok359 : FnOK Go.Proofs.Tryz.prog 359 ir359 := ⟨_, _, Go.Proofs.Tryz.func359, by kernel_rfl, rfl, by kernel_rfl, by kernel_rfl⟩
theorem ok365 : FnOK Go.Proofs.Tryz.prog 365 ir365 := ⟨_, _, Go.Proofs.Tryz.func365, by kernel_rfl, rfl, by kernel_rfl, by kernel_rfl⟩
theorem ok366 : FnOK Go.Proofs.Tryz.prog 366 ir366 := ⟨_, _, Go.Proofs.Tryz.func366, by kernel_rfl, rfl, by kernel_rfl, by kernel_rfl⟩
theorem ok367 : FnOK Go.Proofs.Tryz.prog 367 ir367 := ⟨_, _, Go.Proofs.Tryz.func367, by kernel_rfl, rfl, by kernel_rfl, by kernel_rfl⟩
theorem ok368 : FnOK Go.Proofs.Tryz.prog 368 ir368 := ⟨_, _, Go.Proofs.Tryz.func368, by kernel_rfl, rfl, by kernel_rfl, by kernel_rfl⟩
theorem ok369 : FnOK Go.Proofs.Tryz.prog 369 ir369 := ⟨_, _, Go.Proofs.Tryz.func369, by kernel_rfl, rfl, by kernel_rfl, by kernel_rfl⟩
theorem ok370 : FnOK Go.Proofs.Tryz.prog 370 ir370 := ⟨_, _, Go.Proofs.Tryz.func370, by kernel_rfl, rfl, by kernel_rfl, by kernel_rfl⟩
theorem ok371 : FnOK Go.Proofs.Tryz.prog 371 ir371 := ⟨_, _, Go.Proofs.Tryz.func371, by kernel_rfl, rfl, by kernel_rfl, by kernel_rfl⟩
theorem ok372 : FnOK Go.Proofs.Tryz.prog 372 ir372 := ⟨_, _, Go.Proofs.Tryz.func372, by kernel_rfl, rfl, by kernel_rfl, by kernel_rfl⟩
theorem ok375 : FnOK Go.Proofs.Tryz.prog 375 ir375 := ⟨_, _, Go.Proofs.Tryz.func375, by kernel_rfl, rfl, by kernel_rfl, by kernel_rfl⟩
theorem ok376 : FnOK Go.Proofs.Tryz.prog 376 ir376 := ⟨_, _, Go.Proofs.Tryz.func376, by kernel_rfl, rfl, by kernel_rfl, by kernel_rfl⟩
theorem ok385 : FnOK Go.Proofs.Tryz.prog 385 ir385 := ⟨_, _, Go.Proofs.Tryz.func385, by kernel_rfl, rfl, by kernel_rfl, by kernel_rfl⟩
theorem ok389 : FnOK Go.Proofs.Tryz.prog 389 ir389 := ⟨_, _, Go.Proofs.Tryz.func389, by kernel_rfl, rfl, by kernel_rfl, by kernel_rfl⟩
theorem ok393 : FnOK Go.Proofs.Tryz.prog 393 ir393 := ⟨_, _, Go.Proofs.Tryz.func393, by kernel_rfl, rfl, by kernel_rfl, by kernel_rfl⟩
theorem ok394 : FnOK Go.Proofs.Tryz.prog 394 ir394 := ⟨_, _, Go.Proofs.Tryz.func394, by kernel_rfl, rfl, by kernel_rfl, by kernel_rfl⟩
theorem ok395 : FnOK Go.Proofs.Tryz.prog 395 ir395 := ⟨_, _, Go.Proofs.Tryz.func395, by kernel_rfl, rfl, by kernel_rfl, by kernel_rfl⟩
theorem ok396 : FnOK Go.Proofs.Tryz.prog 396 ir396 := ⟨_, _, Go.Proofs.Tryz.func396, by kernel_rfl, rfl, by kernel_rfl, by kernel_rfl⟩
theorem ok397 : FnOK Go.Proofs.Tryz.prog 397 ir397 := ⟨_, _, Go.Proofs.Tryz.func397, by kernel_rfl, rfl, by kernel_rfl, by kernel_rfl⟩
theorem ok398 : FnOK Go.Proofs.Tryz.prog 398 ir398 := ⟨_, _, Go.Proofs.Tryz.func398, by kernel_rfl, rfl, by kernel_rfl, by kernel_rfl⟩
theorem ok399 : FnOK Go.Proofs.Tryz.prog 399 ir399 := ⟨_, _, Go.Proofs.Tryz.func399, by kernel_rfl, rfl, by kernel_rfl, by kernel_rfl⟩
theorem ok400 : FnOK Go.Proofs.Tryz.prog 400 ir400 := ⟨_, _, Go.Proofs.Tryz.func400, by kernel_rfl, rfl, by kernel_rfl, by kernel_rfl⟩
theorem ok401 : FnOK Go.Proofs.Tryz.prog 401 ir401 := ⟨_, _, Go.Proofs.Tryz.func401, by kernel_rfl, rfl, by kernel_rfl, by kernel_rfl⟩
theorem ok402 : FnOK Go.Proofs.Tryz.prog 402 ir402 := ⟨_, _, Go.Proofs.Tryz.func402, by kernel_rfl, rfl, by kernel_rfl, by kernel_rfl⟩
theorem ok403 : FnOK Go.Proofs.Tryz.prog 403 ir403 := ⟨_, _, Go.Proofs.Tryz.func403, by kernel_rfl, rfl, by kernel_rfl, by kernel_rfl⟩
theorem ok404 : FnOK Go.Proofs.Tryz.prog 404 ir404 := ⟨_, _, Go.Proofs.Tryz.func404, by kernel_rfl, rfl, by kernel_rfl, by kernel_rfl⟩
theorem ok405 : FnOK Go.Proofs.Tryz.prog 405 ir405 := ⟨_, _, Go.Proofs.Tryz.func405, by kernel_rfl, rfl, by kernel_rfl, by kernel_rfl⟩
theorem ok406 : FnOK Go.Proofs.Tryz.prog 406 ir406 := ⟨_, _, Go.Proofs.Tryz.func406, by kernel_rfl, rfl, by kernel_rfl, by kernel_rfl⟩
theorem ok407 : FnOK Go.Proofs.Tryz.prog 407 ir407 := ⟨_, _, Go.Proofs.Tryz.func407, by kernel_rfl, rfl, by kernel_rfl, by kernel_rfl⟩
theorem ok408 : FnOK Go.Proofs.Tryz.prog 408 ir408 := ⟨_, _, Go.Proofs.Tryz.func408, by kernel_rfl, rfl, by kernel_rfl, by kernel_rfl⟩
theorem ok409 : FnOK Go.Proofs.Tryz.prog 409 ir409 := ⟨_, _, Go.Proofs.Tryz.func409, by kernel_rfl, rfl, by kernel_rfl, by kernel_rfl⟩
theorem ok410 : FnOK Go.Proofs.Tryz.prog 410 ir410 := ⟨_, _, Go.Proofs.Tryz.func410, by kernel_rfl, rfl, by kernel_rfl, by kernel_rfl⟩
theorem ok411 : FnOK Go.Proofs.Tryz.prog 411 ir411 := ⟨_, _, Go.Proofs.Tryz.func411, by kernel_rfl, rfl, by kernel_rfl, by kernel_rfl⟩
theorem ok412 : FnOK Go.Proofs.Tryz.prog 412 ir412 := ⟨_, _, Go.Proofs.Tryz.func412, by kernel_rfl, rfl, by kernel_rfl, by kernel_rfl⟩
theorem ok423 : FnOK Go.Proofs.Tryz.prog 423 ir423 := ⟨_, _, Go.Proofs.Tryz.func423, by kernel_rfl, rfl, by kernel_rfl, by kernel_rfl⟩
theorem ok424 : FnOK Go.Proofs.Tryz.prog 424 ir424 := ⟨_, _, Go.Proofs.Tryz.func424, by kernel_rfl, rfl, by kernel_rfl, by kernel_rfl⟩
theorem ok425 : FnOK Go.Proofs.Tryz.prog 425 ir425 := ⟨_, _, Go.Proofs.Tryz.func425, by kernel_rfl, rfl, by kernel_rfl, by kernel_rfl⟩
theorem ok426 : FnOK Go.Proofs.Tryz.prog 426 ir426 := ⟨_, _, Go.Proofs.Tryz.func426, by kernel_rfl, rfl, by kernel_rfl, by kernel_rfl⟩
theorem ok427 : FnOK Go.Proofs.Tryz.prog 427 ir427 := ⟨_, _, Go.Proofs.Tryz.func427, by kernel_rfl, rfl, by kernel_rfl, by kernel_rfl⟩
theorem ok429 : FnOK Go.Proofs.Tryz.prog 429 ir429 := ⟨_, _, Go.Proofs.Tryz.func429, by kernel_rfl, rfl, by kernel_rfl, by kernel_rfl⟩
theorem ok430 : FnOK Go.Proofs.Tryz.prog 430 ir430 := ⟨_, _, Go.Proofs.Tryz.func430, by kernel_rfl, rfl, by kernel_rfl, by kernel_rfl⟩
theorem ok436 : FnOK Go.Proofs.Tryz.prog 436 ir436 := ⟨_, _, Go.Proofs.Tryz.func436, by kernel_rfl, rfl, by kernel_rfl, by kernel_rfl⟩
theorem ok437 : FnOK Go.Proofs.Tryz.prog 437 ir437 := ⟨_, _, Go.Proofs.Tryz.func437, by kernel_rfl, rfl, by kernel_rfl, by kernel_rfl⟩
theorem ok438 : FnOK Go.Proofs.Tryz.prog 438 ir438 := ⟨_, _, Go.Proofs.Tryz.func438, by kernel_rfl, rfl, by kernel_rfl, by kernel_rfl⟩
theorem ok439 : FnOK Go.Proofs.Tryz.prog 439 ir439 := ⟨_, _, Go.Proofs.Tryz.func439, by kernel_rfl, rfl, by kernel_rfl, by kernel_rfl⟩
theorem ok440 : FnOK Go.Proofs.Tryz.prog 440 ir440 := ⟨_, _, Go.Proofs.Tryz.func440, by kernel_rfl, rfl, by kernel_rfl, by kernel_rfl⟩
theorem ok441 : FnOK Go.Proofs.Tryz.prog 441 ir441 := ⟨_, _, Go.Proofs.Tryz.func441, by kernel_rfl, rfl, by kernel_rfl, by kernel_rfl⟩
theorem ok442 : FnOK Go.Proofs.Tryz.prog 442 ir442 := ⟨_, _, Go.Proofs.Tryz.func442, by kernel_rfl, rfl, by kernel_rfl, by kernel_rfl⟩
theorem ok443 : FnOK Go.Proofs.Tryz.prog 443 ir443 := ⟨_, _, Go.Proofs.Tryz.func443, by kernel_rfl, rfl, by kernel_rfl, by kernel_rfl⟩
theorem ok444 : FnOK Go.Proofs.Tryz.prog 444 ir444 := ⟨_, _, Go.Proofs.Tryz.func444, by kernel_rfl, rfl, by kernel_rfl, by kernel_rfl⟩
theorem ok445 : FnOK Go.Proofs.Tryz.prog 445 ir445 := ⟨_, _, Go.Proofs.Tryz.func445, by kernel_rfl, rfl, by kernel_rfl, by kernel_rfl⟩
theorem ok446 : FnOK Go.Proofs.Tryz.prog 446 ir446 := ⟨_, _, Go.Proofs.Tryz.func446, by kernel_rfl, rfl, by kernel_rfl, by kernel_rfl⟩
theorem ok447 : FnOK Go.Proofs.Tryz.prog 447 ir447 := ⟨_, _, Go.Proofs.Tryz.func447, by kernel_rfl, rfl, by kernel_rfl, by kernel_rfl⟩
theorem ok448 : FnOK Go.Proofs.Tryz.prog 448 ir448 := ⟨_, _, Go.Proofs.Tryz.func448, by kernel_rfl, rfl, by kernel_rfl, by kernel_rfl⟩
theorem ok449 : FnOK Go.Proofs.Tryz.prog 449 ir449 := ⟨_, _, Go.Proofs.Tryz.func449, by kernel_rfl, rfl, by kernel_rfl, by kernel_rfl⟩
theorem ok450 : FnOK Go.Proofs.Tryz.prog 450 ir450 := ⟨_, _, Go.Proofs.Tryz.func450, by kernel_rfl, rfl, by kernel_rfl, by kernel_rfl⟩
theorem ok451 : FnOK Go.Proofs.Tryz.prog 451 ir451 := ⟨_, _, Go.Proofs.Tryz.func451, by kernel_rfl, rfl, by kernel_rfl, by kernel_rfl⟩
theorem ok452 : FnOK Go.Proofs.Tryz.prog 452 ir452 := ⟨_, _, Go.Proofs.Tryz.func452, by kernel_rfl, rfl, by kernel_rfl, by kernel_rfl⟩
theorem ok459 : FnOK Go.Proofs.Tryz.prog 459 ir459 := ⟨_, _, Go.Proofs.Tryz.func459, by kernel_rfl, rfl, by kernel_rfl, by kernel_rfl⟩
theorem ok462 : FnOK Go.Proofs.Tryz.prog 462 ir462 := ⟨_, _, Go.Proofs.Tryz.func462, by kernel_rfl, rfl, by kernel_rfl, by kernel_rfl⟩
theorem ok463 : FnOK Go.Proofs.Tryz.prog 463 ir463 := ⟨_, _, Go.Proofs.Tryz.func463, by kernel_rfl, rfl, by kernel_rfl, by kernel_rfl⟩
theorem ok464 : FnOK Go.Proofs.Tryz.prog 464 ir464 := ⟨_, _, Go.Proofs.Tryz.func464, by kernel_rfl, rfl, by kernel_rfl, by kernel_rfl⟩
theorem ok473 : FnOK Go.Proofs.Tryz.prog 473 ir473 := ⟨_, _, Go.Proofs.Tryz.func473, by kernel_rfl, rfl, by kernel_rfl, by kernel_rfl⟩
theorem ok474 : FnOK Go.Proofs.Tryz.prog 474 ir474 := ⟨_, _, Go.Proofs.Tryz.func474, by kernel_rfl, rfl, by kernel_rfl, by kernel_rfl⟩
theorem ok475 : FnOK Go.Proofs.Tryz.prog 475 ir475 := ⟨_, _, Go.Proofs.Tryz.func475, by kernel_rfl, rfl, by kernel_rfl, by kernel_rfl⟩
theorem ok476 : FnOK Go.Proofs.Tryz.prog 476 ir476 := ⟨_, _, Go.Proofs.Tryz.func476, by kernel_rfl, rfl, by kernel_rfl, by kernel_rfl⟩
theorem ok477 : FnOK Go.Proofs.Tryz.prog 477 ir477 := ⟨_, _, Go.Proofs.Tryz.func477, by kernel_rfl, rfl, by kernel_rfl, by kernel_rfl⟩
theorem ok478 : FnOK Go.Proofs.Tryz.prog 478 ir478 := ⟨_, _, Go.Proofs.Tryz.func478, by kernel_rfl, rfl, by kernel_rfl, by kernel_rfl⟩
theorem ok479 : FnOK Go.Proofs.Tryz.prog 479 ir479 := ⟨_, _, Go.Proofs.Tryz.func479, by kernel_rfl, rfl, by kernel_rfl, by kernel_rfl⟩
theorem ok480 : FnOK Go.Proofs.Tryz.prog 480 ir480 := ⟨_, _, Go.Proofs.Tryz.func480, by kernel_rfl, rfl, by kernel_rfl, by kernel_rfl⟩
theorem ok481 : FnOK Go.Proofs.Tryz.prog 481 ir481 := ⟨_, _, Go.Proofs.Tryz.func481, by kernel_rfl, rfl, by kernel_rfl, by kernel_rfl⟩
theorem ok482 : FnOK Go.Proofs.Tryz.prog 482 ir482 := ⟨_, _, Go.Proofs.Tryz.func482, by kernel_rfl, rfl, by kernel_rfl, by kernel_rfl⟩
theorem ok483 : FnOK Go.Proofs.Tryz.prog 483 ir483 := ⟨_, _, Go.Proofs.Tryz.func483, by kernel_rfl, rfl, by kernel_rfl, by kernel_rfl⟩
theorem ok484 : FnOK Go.Proofs.Tryz.prog 484 ir484 := ⟨_, _, Go.Proofs.Tryz.func484, by kernel_rfl, rfl, by kernel_rfl, by kernel_rfl⟩
theorem ok485 : FnOK Go.Proofs.Tryz.prog 485 ir485 := ⟨_, _, Go.Proofs.Tryz.func485, by kernel_rfl, rfl, by kernel_rfl, by kernel_rfl⟩
theorem ok486 : FnOK Go.Proofs.Tryz.prog 486 ir486 := ⟨_, _, Go.Proofs.Tryz.func486, by kernel_rfl, rfl, by kernel_rfl, by kernel_rfl⟩
theorem ok487 : FnOK Go.Proofs.Tryz.prog 487 ir487 := ⟨_, _, Go.Proofs.Tryz.func487, by kernel_rfl, rfl, by kernel_rfl, by kernel_rfl⟩
theorem ok488 : FnOK Go.Proofs.Tryz.prog 488 ir488 := ⟨_, _, Go.Proofs.Tryz.func488, by kernel_rfl, rfl, by kernel_rfl, by kernel_rfl⟩
theorem ok489 : FnOK Go.Proofs.Tryz.prog 489 ir489 := ⟨_, _, Go.Proofs.Tryz.func489, by kernel_rfl, rfl, by kernel_rfl, by kernel_rfl⟩
theorem ok490 : FnOK Go.Proofs.Tryz.prog 490 ir490 := ⟨_, _, Go.Proofs.Tryz.func490, by kernel_rfl, rfl, by kernel_rfl, by kernel_rfl⟩
theorem ok491 : FnOK Go.Proofs.Tryz.prog 491 ir491 := ⟨_, _, Go.Proofs.Tryz.func491, by kernel_rfl, rfl, by kernel_rfl, by kernel_rfl⟩
theorem ok509 : FnOK Go.Proofs.Tryz.prog 509 ir509 := ⟨_, _, Go.Proofs.Tryz.func509, by kernel_rfl, rfl, by kernel_rfl, by kernel_rfl⟩
theorem ok510 : FnOK Go.Proofs.Tryz.prog 510 ir510 := ⟨_, _, Go.Proofs.Tryz.func510, by kernel_rfl, rfl, by kernel_rfl, by kernel_rfl⟩
theorem ok : ∀ p ∈ tab, FnOK Go.Proofs.Tryz.prog p.1 p.2 := by
 unfold tab
 exact all_cons ok7 (all_cons ok15 (all_cons ok17 (all_cons ok30 (all_cons ok31 (all_cons ok32 (all_cons ok34 (all_cons ok35 (all_cons ok37 (all_cons ok38 (all_cons ok39 (all_cons ok71 (all_cons ok72 (all_cons ok73 (all_cons ok74 (all_cons ok75 (all_cons ok76 (all_cons ok77 (all_cons ok78 (all_cons ok81 (all_cons ok82 (all_cons ok84 (all_cons ok86 (all_cons ok87 (all_cons ok89 (all_cons ok100 (all_cons ok101 (all_cons ok105 (all_cons ok107 (all_cons ok116 (all_cons ok117 (all_cons ok118 (all_cons ok119 (all_cons ok121 (all_cons ok122 (all_cons ok123 (all_cons ok124 (all_cons ok125 (all_cons ok126 (all_cons ok132 (all_cons ok133 (all_cons ok134 (all_cons ok135 (all_cons ok136 (all_cons ok137 (all_cons ok138 (all_cons ok139 (all_cons ok175 (all_cons ok188 (all_cons ok189 (all_cons ok190 (all_cons ok191 (all_cons ok192 (all_cons ok193 (all_cons ok194 (all_cons ok195 (all_cons ok196 (all_cons ok197 (all_cons ok198 (all_cons ok199 (all_cons ok200 (all_cons ok201 (all_cons ok202 (all_cons ok211 (all_cons ok212 (all_cons ok213 (all_cons ok214 (all_cons ok215 (all_cons ok216 (all_cons ok217 (all_cons ok218 (all_cons ok221 (all_cons ok231 (all_cons ok232 (all_cons ok235 (all_cons ok236 (all_cons ok237 (all_cons ok248 (all_cons ok249 (all_cons ok250 (all_cons ok251 (all_cons ok252 (all_cons ok253 (all_cons ok254 (all_cons ok255 (all_cons ok256 (all_cons ok257 (all_cons ok258 (all_cons ok259 (all_cons ok260 (all_cons ok261 (all_cons ok262 (all_cons ok263 (all_cons ok264 (all_cons ok265 (all_cons ok266 (all_cons ok267 (all_cons ok268 (all_cons ok269 (all_cons ok270 (all_cons ok271 (all_cons ok272 (all_cons ok273 (all_cons ok284 (all_cons ok285 (all_cons ok286 (all_cons ok287 (all_cons ok288 (all_cons ok289 (all_cons ok290 (all_cons ok291 (all_cons ok316 (all_cons ok329 (all_cons ok330 (all_cons ok331 (all_cons ok332 (all_cons ok333 (all_cons ok334 (all_cons ok335 (all_cons ok336 (all_cons ok337 (all_cons ok338 (all_cons ok344 (all_cons ok345 (all_cons ok346 (all_cons ok347 (all_cons ok359 (all_cons ok365 (all_cons ok366 (all_cons ok367 (all_cons ok368 (all_cons ok369 (all_cons ok370 (all_cons ok371 (all_cons ok372 (all_cons ok375 (all_cons ok376 (all_cons ok385 (all_cons ok389 (all_cons ok393 (all_cons ok394 (all_cons ok395 (all_cons ok396 (all_cons ok397 (all_cons ok398 (all_cons ok399 (all_cons ok400 (all_cons ok401 (all_cons ok402 (all_cons ok403 (all_cons ok404 (all_cons ok405 (all_cons ok406 (all_cons ok407 (all_cons ok408 (all_cons ok409 (all_cons ok410 (all_cons ok411 (all_cons ok412 (all_cons ok423 (all_cons ok424 (all_cons ok425 (all_cons ok426 (all_cons ok427 (all_cons ok429 (all_cons ok430 (all_cons ok436 (all_cons ok437 (all_cons ok438 (all_cons ok439 (all_cons ok440 (all_cons ok441 (all_cons ok442 (all_cons ok443 (all_cons ok444 (all_cons ok445 (all_cons ok446 (all_cons ok447 (all_cons ok448 (all_cons ok449 (all_cons ok450 (all_cons ok451 (all_cons ok452 (all_cons ok459 (all_cons ok462 (all_cons ok463 (all_cons ok464 (all_cons ok473 (all_cons ok474 (all_cons ok475 (all_cons ok476 (all_cons ok477 (all_cons ok478 (all_cons ok479 (all_cons ok480 (all_cons ok481 (all_cons ok482 (all_cons ok483 (all_cons ok484 (all_cons ok485 (all_cons ok486 (all_cons ok487 (all_cons ok488 (all_cons ok489 (all_cons ok490 (all_cons ok491 (all_cons ok509 (all_cons ok510 (q0qx))))))))))))))))))))))))))))))))))))))))))))))))))))))))))))))))))))))))))))))))))))))))))))))))))))))))))))))))))))))))))))))))))))))))))))))))))))))))))))))))))))))))))))))))))))))))))))))))))))))))))))))))
theorem envOK0 : EnvOK Go.Proofs.Tryz.prog EE0 where
 mix := by kernel_rfl
 still := fun _ _ _ _ => trivial
 fns f fn h := q0ak ok h
 prims f g h := by
  have h' : (if f = 428 then some sortP else none) = some g := h
  split at h'
  ·rename_i e; subst e; cases h'
   exact fun vs H r hr G own w args hK ha h0 hw _ => q0k6 Go.Proofs.Tryz.lays189 (fun xs w1 => q03z Go.Proofs.Tryz.func428 rfl rfl xs w1) hr ha h0 hw
  ·cases h'
theorem awk : ∀ f ∈ sayK, clD EE0 (.p (.fn f)) [] [] = some (.p (.bool true), none) := by
 intro f hf
 simp only [sayK, List.mem_cons, List.not_mem_nil, or_false] at hf
 subst hf
 ·exact awk34
theorem envOK : EnvOK Go.Proofs.Tryz.prog EE where
 mix := by kernel_rfl
 still := fun _ _ _ _ => trivial
 fns f fn h := q0ak ok h
 prims f g h := by
  have h0 : (if f ∈ sayK then some sayP else EE0.prims f) = some g := h
  split at h0
  ·rename_i e; cases h0
   exact fun vs H r hr G own w args _ ha _ hw _ => q0n2 envOK0 (awk f e) hr ha hw
  ·exact envOK0.prims f g h0
end Go.EnvOf
