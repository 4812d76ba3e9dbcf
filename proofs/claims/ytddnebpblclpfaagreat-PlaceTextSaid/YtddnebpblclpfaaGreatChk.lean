/- The functions of the table are the program's. -/
import Derived.Test.YtddnebpblclpfaaGreatProg
import Derived.Test.YtddnebpblclpfaaGreatEngAll7
import Derived.Test.YtddnebpblclpfaaGreatEngAll8
import Derived.Test.YtddnebpblclpfaaGreatAwk
namespace Go.EnvOf
open Go Go.Eng
set_option maxRecDepth 100000
theorem ok9 : FnOK Go.Proofs.Tryz.prog 9 ir9 := ⟨_, _, Go.Proofs.Tryz.func9, by kernel_rfl, rfl, by kernel_rfl, by kernel_rfl⟩
theorem ok13 : FnOK Go.Proofs.Tryz.prog 13 ir13 := ⟨_, _, Go.Proofs.Tryz.func13, by kernel_rfl, rfl, by kernel_rfl, by kernel_rfl⟩
theorem ok19 : FnOK Go.Proofs.Tryz.prog 19 ir19 := ⟨_, _, Go.Proofs.Tryz.func19, by kernel_rfl, rfl, by kernel_rfl, by kernel_rfl⟩
theorem ok22 : FnOK Go.Proofs.Tryz.prog 22 ir22 := ⟨_, _, Go.Proofs.Tryz.func22, by kernel_rfl, rfl, by kernel_rfl, by kernel_rfl⟩
theorem ok23 : FnOK Go.Proofs.Tryz.prog 23 ir23 := ⟨_, _, Go.Proofs.Tryz.func23, by kernel_rfl, rfl, by kernel_rfl, by kernel_rfl⟩
theorem ok26 : FnOK Go.Proofs.Tryz.prog 26 ir26 := ⟨_, _, Go.Proofs.Tryz.func26, by kernel_rfl, rfl, by kernel_rfl, by kernel_rfl⟩
theorem ok27 : FnOK Go.Proofs.Tryz.prog 27 ir27 := ⟨_, _, Go.Proofs.Tryz.func27, by kernel_rfl, rfl, by kernel_rfl, by kernel_rfl⟩
theorem ok30 : FnOK Go.Proofs.Tryz.prog 30 ir30 := ⟨_, _, Go.Proofs.Tryz.func30, by kernel_rfl, rfl, by kernel_rfl, by kernel_rfl⟩
theorem ok42 : FnOK Go.Proofs.Tryz.prog 42 ir42 := ⟨_, _, Go.Proofs.Tryz.func42, by kernel_rfl, rfl, by kernel_rfl, by kernel_rfl⟩
theorem ok44 : FnOK Go.Proofs.Tryz.prog 44 ir44 := ⟨_, _, Go.Proofs.Tryz.func44, by kernel_rfl, rfl, by kernel_rfl, by kernel_rfl⟩
theorem ok45 : FnOK Go.Proofs.Tryz.prog 45 ir45 := ⟨_, _, Go.Proofs.Tryz.func45, by kernel_rfl, rfl, by kernel_rfl, by kernel_rfl⟩
theorem ok46 : FnOK Go.Proofs.Tryz.prog 46 ir46 := ⟨_, _, Go.Proofs.Tryz.func46, by kernel_rfl, rfl, by kernel_rfl, by kernel_rfl⟩
theorem ok48 : FnOK Go.Proofs.Tryz.prog 48 ir48 := ⟨_, _, Go.Proofs.Tryz.func48, by kernel_rfl, rfl, by kernel_rfl, by kernel_rfl⟩
theorem ok49 : FnOK Go.Proofs.Tryz.prog 49 ir49 := ⟨_, _, Go.Proofs.Tryz.func49, by kernel_rfl, rfl, by kernel_rfl, by kernel_rfl⟩
theorem ok50 : FnOK Go.Proofs.Tryz.prog 50 ir50 := ⟨_, _, Go.Proofs.Tryz.func50, by kernel_rfl, rfl, by kernel_rfl, by kernel_rfl⟩
theorem ok51 : FnOK Go.Proofs.Tryz.prog 51 ir51 := ⟨_, _, Go.Proofs.Tryz.func51, by kernel_rfl, rfl, by kernel_rfl, by kernel_rfl⟩
theorem ok56 : FnOK Go.Proofs.Tryz.prog 56 ir56 := ⟨_, _, Go.Proofs.Tryz.func56, by kernel_rfl, rfl, by kernel_rfl, by kernel_rfl⟩
theorem ok57 : FnOK Go.Proofs.Tryz.prog 57 ir57 := ⟨_, _, Go.Proofs.Tryz.func57, by kernel_rfl, rfl, by kernel_rfl, by kernel_rfl⟩
theorem ok58 : FnOK Go.Proofs.Tryz.prog 58 ir58 := ⟨_, _, Go.Proofs.Tryz.func58, by kernel_rfl, rfl, by kernel_rfl, by kernel_rfl⟩
theorem ok59 : FnOK Go.Proofs.Tryz.prog 59 ir59 := ⟨_, _, Go.Proofs.Tryz.func59, by kernel_rfl, rfl, by kernel_rfl, by kernel_rfl⟩
theorem ok60 : FnOK Go.Proofs.Tryz.prog 60 ir60 := ⟨_, _, Go.Proofs.Tryz.func60, by kernel_rfl, rfl, by kernel_rfl, by kernel_rfl⟩
theorem ok61 : FnOK Go.Proofs.Tryz.prog 61 ir61 := ⟨_, _, Go.Proofs.Tryz.func61, by kernel_rfl, rfl, by kernel_rfl, by kernel_rfl⟩
theorem ok62 : FnOK Go.Proofs.Tryz.prog 62 ir62 := ⟨_, _, Go.Proofs.Tryz.func62, by kernel_rfl, rfl, by kernel_rfl, by kernel_rfl⟩
theorem ok63 : FnOK Go.Proofs.Tryz.prog 63 ir63 := ⟨_, _, Go.Proofs.Tryz.func63, by kernel_rfl, rfl, by kernel_rfl, by kernel_rfl⟩
theorem ok65 : FnOK Go.Proofs.Tryz.prog 65 ir65 := ⟨_, _, Go.Proofs.Tryz.func65, by kernel_rfl, rfl, by kernel_rfl, by kernel_rfl⟩
theorem ok67 : FnOK Go.Proofs.Tryz.prog 67 ir67 := ⟨_, _, Go.Proofs.Tryz.func67, by kernel_rfl, rfl, by kernel_rfl, by kernel_rfl⟩
theorem ok68 : FnOK Go.Proofs.Tryz.prog 68 ir68 := ⟨_, _, Go.Proofs.Tryz.func68, by kernel_rfl, rfl, by kernel_rfl, by kernel_rfl⟩
theorem ok78 : FnOK Go.Proofs.Tryz.prog 78 ir78 := ⟨_, _, Go.Proofs.Tryz.func78, by kernel_rfl, rfl, by kernel_rfl, by kernel_rfl⟩
theorem ok79 : FnOK Go.Proofs.Tryz.prog 79 ir79 := ⟨_, _, Go.Proofs.Tryz.func79, by kernel_rfl, rfl, by kernel_rfl, by kernel_rfl⟩
theorem ok80 : FnOK Go.Proofs.Tryz.prog 80 ir80 := ⟨_, _, Go.Proofs.Tryz.func80, by kernel_rfl, rfl, by kernel_rfl, by kernel_rfl⟩
theorem ok82 : FnOK Go.Proofs.Tryz.prog 82 ir82 := ⟨_, _, Go.Proofs.Tryz.func82, by kernel_rfl, rfl, by kernel_rfl, by kernel_rfl⟩
theorem ok83 : FnOK Go.Proofs.Tryz.prog 83 ir83 := ⟨_, _, Go.Proofs.Tryz.func83, by kernel_rfl, rfl, by kernel_rfl, by kernel_rfl⟩
theorem ok84 : FnOK Go.Proofs.Tryz.prog 84 ir84 := ⟨_, _, Go.Proofs.Tryz.func84, by kernel_rfl, rfl, by kernel_rfl, by kernel_rfl⟩
theorem ok85 : FnOK Go.Proofs.Tryz.prog 85 ir85 := ⟨_, _, Go.Proofs.Tryz.func85, by kernel_rfl, rfl, by kernel_rfl, by kernel_rfl⟩
theorem ok86 : FnOK Go.Proofs.Tryz.prog 86 ir86 := ⟨_, _, Go.Proofs.Tryz.func86, by kernel_rfl, rfl, by kernel_rfl, by kernel_rfl⟩
theorem ok88 : FnOK Go.Proofs.Tryz.prog 88 ir88 := ⟨_, _, Go.Proofs.Tryz.func88, by kernel_rfl, rfl, by kernel_rfl, by kernel_rfl⟩
theorem ok91 : FnOK Go.Proofs.Tryz.prog 91 ir91 := ⟨_, _, Go.Proofs.Tryz.func91, by kernel_rfl, rfl, by kernel_rfl, by kernel_rfl⟩
theorem ok118 : FnOK Go.Proofs.Tryz.prog 118 ir118 := ⟨_, _, Go.Proofs.Tryz.func118, by kernel_rfl, rfl, by kernel_rfl, by kernel_rfl⟩
theorem ok119 : FnOK Go.Proofs.Tryz.prog 119 ir119 := ⟨_, _, Go.Proofs.Tryz.func119, by kernel_rfl, rfl, by kernel_rfl, by kernel_rfl⟩
theorem ok120 : FnOK Go.Proofs.Tryz.prog 120 ir120 := ⟨_, _, Go.Proofs.Tryz.func120, by kernel_rfl, rfl, by kernel_rfl, by kernel_rfl⟩
theorem ok121 : FnOK Go.Proofs.Tryz.prog 121 ir121 := ⟨_, _, Go.Proofs.Tryz.func121, by kernel_rfl, rfl, by kernel_rfl, by kernel_rfl⟩
theorem ok122 : FnOK Go.Proofs.Tryz.prog 122 ir122 := ⟨_, _, Go.Proofs.Tryz.func122, by kernel_rfl, rfl, by kernel_rfl, by kernel_rfl⟩
theorem ok123 : FnOK Go.Proofs.Tryz.prog 123 ir123 := ⟨_, _, Go.Proofs.Tryz.func123, by kernel_rfl, rfl, by kernel_rfl, by kernel_rfl⟩
theorem ok124 : FnOK Go.Proofs.Tryz.prog 124 ir124 := ⟨_, _, Go.Proofs.Tryz.func124, by kernel_rfl, rfl, by kernel_rfl, by kernel_rfl⟩
theorem ok125 : FnOK Go.Proofs.Tryz.prog 125 ir125 := ⟨_, _, Go.Proofs.Tryz.func125, by kernel_rfl, rfl, by kernel_rfl, by kernel_rfl⟩
theorem ok126 : FnOK Go.Proofs.Tryz.prog 126 ir126 := ⟨_, _, Go.Proofs.Tryz.func126, by kernel_rfl, rfl, by kernel_rfl, by kernel_rfl⟩
theorem ok127 : FnOK Go.Proofs.Tryz.prog 127 ir127 := ⟨_, _, Go.Proofs.Tryz.func127, by kernel_rfl, rfl, by kernel_rfl, by kernel_rfl⟩
theorem ok128 : FnOK Go.Proofs.Tryz.prog 128 ir128 := ⟨_, _, Go.Proofs.Tryz.func128, by kernel_rfl, rfl, by kernel_rfl, by kernel_rfl⟩
theorem ok129 : FnOK Go.Proofs.Tryz.prog 129 ir129 := ⟨_, _, Go.Proofs.Tryz.func129, by kernel_rfl, rfl, by kernel_rfl, by kernel_rfl⟩
theorem ok139 : FnOK Go.Proofs.Tryz.prog 139 ir139 := ⟨_, _, Go.Proofs.Tryz.func139, by kernel_rfl, rfl, by kernel_rfl, by kernel_rfl⟩
theorem ok141 : FnOK Go.Proofs.Tryz.prog 141 ir141 := ⟨_, _, Go.Proofs.Tryz.func141, by kernel_rfl, rfl, by kernel_rfl, by kernel_rfl⟩
theorem ok142 : FnOK Go.Proofs.Tryz.prog 142 ir142 := ⟨_, _, Go.Proofs.Tryz.func142, by kernel_rfl, rfl, by kernel_rfl, by kernel_rfl⟩
theorem ok143 : FnOK Go.Proofs.Tryz.prog 143 ir143 := ⟨_, _, Go.Proofs.Tryz.func143, by kernel_rfl, rfl, by kernel_rfl, by kernel_rfl⟩
theorem ok144 : FnOK Go.Proofs.Tryz.prog 144 ir144 := ⟨_, _, Go.Proofs.Tryz.func144, by kernel_rfl, rfl, by kernel_rfl, by kernel_rfl⟩
theorem ok145 : FnOK Go.Proofs.Tryz.prog 145 ir145 := ⟨_, _, Go.Proofs.Tryz.func145, by kernel_rfl, rfl, by kernel_rfl, by kernel_rfl⟩
theorem ok146 : FnOK Go.Proofs.Tryz.prog 146 ir146 := ⟨_, _, Go.Proofs.Tryz.func146, by kernel_rfl, rfl, by kernel_rfl, by kernel_rfl⟩
theorem ok147 : FnOK Go.Proofs.Tryz.prog 147 ir147 := ⟨_, _, Go.Proofs.Tryz.func147, by kernel_rfl, rfl, by kernel_rfl, by kernel_rfl⟩
theorem ok148 : FnOK Go.Proofs.Tryz.prog 148 ir148 := ⟨_, _, Go.Proofs.Tryz.func148, by kernel_rfl, rfl, by kernel_rfl, by kernel_rfl⟩
theorem ok149 : FnOK Go.Proofs.Tryz.prog 149 ir149 := ⟨_, _, Go.Proofs.Tryz.func149, by kernel_rfl, rfl, by kernel_rfl, by kernel_rfl⟩
theorem ok150 : FnOK Go.Proofs.Tryz.prog 150 ir150 := ⟨_, _, Go.Proofs.Tryz.func150, by kernel_rfl, rfl, by kernel_rfl, by kernel_rfl⟩
theorem ok151 : FnOK Go.Proofs.Tryz.prog 151 ir151 := ⟨_, _, Go.Proofs.Tryz.func151, by kernel_rfl, rfl, by kernel_rfl, by kernel_rfl⟩
theorem ok152 : FnOK Go.Proofs.Tryz.prog 152 ir152 := ⟨_, _, Go.Proofs.Tryz.func152, by kernel_rfl, rfl, by kernel_rfl, by kernel_rfl⟩
theorem ok153 : FnOK Go.Proofs.Tryz.prog 153 ir153 := ⟨_, _, Go.Proofs.Tryz.func153, by kernel_rfl, rfl, by kernel_rfl, by kernel_rfl⟩
theorem ok154 : FnOK Go.Proofs.Tryz.prog 154 ir154 := ⟨_, _, Go.Proofs.Tryz.func154, by kernel_rfl, rfl, by kernel_rfl, by kernel_rfl⟩
theorem ok155 : FnOK Go.Proofs.Tryz.prog 155 ir155 := ⟨_, _, Go.Proofs.Tryz.func155, by kernel_rfl, rfl, by kernel_rfl, by kernel_rfl⟩
theorem ok156 : FnOK Go.Proofs.Tryz.prog 156 ir156 := ⟨_, _, Go.Proofs.Tryz.func156, by kernel_rfl, rfl, by kernel_rfl, by kernel_rfl⟩
theorem ok160 : FnOK Go.Proofs.Tryz.prog 160 ir160 := ⟨_, _, Go.Proofs.Tryz.func160, by kernel_rfl, rfl, by kernel_rfl, by kernel_rfl⟩
theorem ok161 : FnOK Go.Proofs.Tryz.prog 161 ir161 := ⟨_, _, Go.Proofs.Tryz.func161, by kernel_rfl, rfl, by kernel_rfl, by kernel_rfl⟩
theorem ok162 : FnOK Go.Proofs.Tryz.prog 162 ir162 := ⟨_, _, Go.Proofs.Tryz.func162, by kernel_rfl, rfl, by kernel_rfl, by kernel_rfl⟩
theorem ok163 : FnOK Go.Proofs.Tryz.prog 163 ir163 := ⟨_, _, Go.Proofs.Tryz.func163, by kernel_rfl, rfl, by kernel_rfl, by kernel_rfl⟩
theorem ok165 : FnOK Go.Proofs.Tryz.prog 165 ir165 := ⟨_, _, Go.Proofs.Tryz.func165, by kernel_rfl, rfl, by kernel_rfl, by kernel_rfl⟩
theorem ok169 : FnOK Go.Proofs.Tryz.prog 169 ir169 := ⟨_, _, Go.Proofs.Tryz.func169, by kernel_rfl, rfl, by kernel_rfl, by kernel_rfl⟩
theorem ok171 : FnOK Go.Proofs.Tryz.prog 171 ir171 := ⟨_, _, Go.Proofs.Tryz.func171, by kernel_rfl, rfl, by kernel_rfl, by kernel_rfl⟩
theorem ok172 : FnOK Go.Proofs.Tryz.prog 172 ir172 := ⟨_, _, Go.Proofs.Tryz.func172, by kernel_rfl, rfl, by kernel_rfl, by kernel_rfl⟩
theorem ok173 : FnOK Go.Proofs.Tryz.prog 173 ir173 := ⟨_, _, Go.Proofs.Tryz.func173, by kernel_rfl, rfl, by kernel_rfl, by kernel_rfl⟩
theorem ok193 : FnOK Go.Proofs.Tryz.prog 193 ir193 := ⟨_, _, Go.Proofs.Tryz.func193, by kernel_rfl, rfl, by kernel_rfl, by kernel_rfl⟩
theorem ok195 : FnOK Go.Proofs.Tryz.prog 195 ir195 := ⟨_, _, Go.Proofs.Tryz.func195, by kernel_rfl, rfl, by kernel_rfl, by kernel_rfl⟩
theorem ok198 : FnOK Go.Proofs.Tryz.prog 198 ir198 := ⟨_, _, Go.Proofs.Tryz.func198, by kernel_rfl, rfl, by kernel_rfl, by kernel_rfl⟩
theorem ok201 : FnOK Go.Proofs.Tryz.prog 201 ir201 := ⟨_, _, Go.Proofs.Tryz.func201, by kernel_rfl, rfl, by kernel_rfl, by kernel_rfl⟩
theorem ok202 : FnOK Go.Proofs.Tryz.prog 202 ir202 := ⟨_, _, Go.Proofs.Tryz.func202, by kernel_rfl, rfl, by kernel_rfl, by kernel_rfl⟩
theorem ok203 : FnOK Go.Proofs.Tryz.prog 203 ir203 := ⟨_, _, Go.Proofs.Tryz.func203, by kernel_rfl, rfl, by kernel_rfl, by kernel_rfl⟩
theorem ok204 : FnOK Go.Proofs.Tryz.prog 204 ir204 := ⟨_, _, Go.Proofs.Tryz.func204, by kernel_rfl, rfl, by kernel_rfl, by kernel_rfl⟩
theorem ok205 : FnOK Go.Proofs.Tryz.prog 205 ir205 := ⟨_, _, Go.Proofs.Tryz.func205, by kernel_rfl, rfl, by kernel_rfl, by kernel_rfl⟩
theorem ok206 : FnOK Go.Proofs.Tryz.prog 206 ir206 := ⟨_, _, Go.Proofs.Tryz.func206, by kernel_rfl, rfl, by kernel_rfl, by kernel_rfl⟩
theorem ok207 : FnOK Go.Proofs.Tryz.prog 207 ir207 := ⟨_, _, Go.Proofs.Tryz.func207, by kernel_rfl, rfl, by kernel_rfl, by kernel_rfl⟩
theorem ok208 : FnOK Go.Proofs.Tryz.prog 208 ir208 := ⟨_, _, Go.Proofs.Tryz.func208, by kernel_rfl, rfl, by kernel_rfl, by kernel_rfl⟩
theorem ok209 : FnOK Go.Proofs.Tryz.prog 209 ir209 := ⟨_, _, Go.Proofs.Tryz.func209, by kernel_rfl, rfl, by kernel_rfl, by kernel_rfl⟩
theorem ok210 : FnOK Go.Proofs.Tryz.prog 210 ir210 := ⟨_, _, Go.Proofs.Tryz.func210, by kernel_rfl, rfl, by kernel_rfl, by kernel_rfl⟩
theorem ok211 : FnOK Go.Proofs.Tryz.prog 211 ir211 := ⟨_, _, Go.Proofs.Tryz.func211, by kernel_rfl, rfl, by kernel_rfl, by kernel_rfl⟩
theorem ok212 : FnOK Go.Proofs.Tryz.prog 212 ir212 := ⟨_, _, Go.Proofs.Tryz.func212, by kernel_rfl, rfl, by kernel_rfl, by kernel_rfl⟩
theorem ok221 : FnOK Go.Proofs.Tryz.prog 221 ir221 := ⟨_, _, Go.Proofs.Tryz.func221, by kernel_rfl, rfl, by kernel_rfl, by kernel_rfl⟩
theorem ok222 : FnOK Go.Proofs.Tryz.prog 222 ir222 := ⟨_, _, Go.Proofs.Tryz.func222, by kernel_rfl, rfl, by kernel_rfl, by kernel_rfl⟩
theorem ok223 : FnOK Go.Proofs.Tryz.prog 223 ir223 := ⟨_, _, Go.Proofs.Tryz.func223, by kernel_rfl, rfl, by kernel_rfl, by kernel_rfl⟩
theorem ok224 : FnOK Go.Proofs.Tryz.prog 224 ir224 := ⟨_, _, Go.Proofs.Tryz.func224, by kernel_rfl, rfl, by kernel_rfl, by kernel_rfl⟩
theorem ok225 : FnOK Go.Proofs.Tryz.prog 225 ir225 := ⟨_, _, Go.Proofs.Tryz.func225, by kernel_rfl, rfl, by kernel_rfl, by kernel_rfl⟩
theorem ok226 : FnOK Go.Proofs.Tryz.prog 226 ir226 := ⟨_, _, Go.Proofs.Tryz.func226, by kernel_rfl, rfl, by kernel_rfl, by kernel_rfl⟩
theorem ok227 : FnOK Go.Proofs.Tryz.prog 227 ir227 := ⟨_, _, Go.Proofs.Tryz.func227, by kernel_rfl, rfl, by kernel_rfl, by kernel_rfl⟩
theorem ok228 : FnOK Go.Proofs.Tryz.prog 228 ir228 := ⟨_, _, Go.Proofs.Tryz.func228, by kernel_rfl, rfl, by kernel_rfl, by kernel_rfl⟩
theorem ok229 : FnOK Go.Proofs.Tryz.prog 229 ir229 := ⟨_, _, Go.Proofs.Tryz.func229, by kernel_rfl, rfl, by kernel_rfl, by kernel_rfl⟩
theorem ok230 : FnOK Go.Proofs.Tryz.prog 230 ir230 := ⟨_, _, Go.Proofs.Tryz.func230, by kernel_rfl, rfl, by kernel_rfl, by kernel_rfl⟩
theorem ok235 : FnOK Go.Proofs.Tryz.prog 235 ir235 := ⟨_, _, Go.Proofs.Tryz.func235, by kernel_rfl, rfl, by kernel_rfl, by kernel_rfl⟩
theorem ok237 : FnOK Go.Proofs.Tryz.prog 237 ir237 := ⟨_, _, Go.Proofs.Tryz.func237, by kernel_rfl, rfl, by kernel_rfl, by kernel_rfl⟩
theorem ok238 : FnOK Go.Proofs.Tryz.prog 238 ir238 := ⟨_, _, Go.Proofs.Tryz.func238, by kernel_rfl, rfl, by kernel_rfl, by kernel_rfl⟩
theorem ok256 : FnOK Go.Proofs.Tryz.prog 256 ir256 := ⟨_, _, Go.Proofs.Tryz.func256, by kernel_rfl, rfl, by kernel_rfl, by kernel_rfl⟩
theorem ok257 : FnOK Go.Proofs.Tryz.prog 257 ir257 := ⟨_, _, Go.Proofs.Tryz.func257, by kernel_rfl, rfl, by kernel_rfl, by kernel_rfl⟩
theorem ok258 : FnOK Go.Proofs.Tryz.prog 258 ir258 := ⟨_, _, Go.Proofs.Tryz.func258, by kernel_rfl, rfl, by kernel_rfl, by kernel_rfl⟩
theorem ok259 : FnOK Go.Proofs.Tryz.prog 259 ir259 := ⟨_, _, Go.Proofs.Tryz.func259, by kernel_rfl, rfl, by kernel_rfl, by kernel_rfl⟩
theorem ok260 : FnOK Go.Proofs.Tryz.prog 260 ir260 := ⟨_, _, Go.Proofs.Tryz.func260, by kernel_rfl, rfl, by kernel_rfl, by kernel_rfl⟩
theorem ok261 : FnOK Go.Proofs.Tryz.prog 261 ir261 := ⟨_, _, Go.Proofs.Tryz.func261, by kernel_rfl, rfl, by kernel_rfl, by kernel_rfl⟩
theorem ok262 : FnOK Go.Proofs.Tryz.prog 262 ir262 := ⟨_, _, Go.Proofs.Tryz.func262, by kernel_rfl, rfl, by kernel_rfl, by kernel_rfl⟩
theorem ok266 : FnOK Go.Proofs.Tryz.prog 266 ir266 := ⟨_, _, Go.Proofs.Tryz.func266, by kernel_rfl, rfl, by kernel_rfl, by kernel_rfl⟩
theorem ok267 : FnOK Go.Proofs.Tryz.prog 267 ir267 := ⟨_, _, Go.Proofs.Tryz.func267, by kernel_rfl, rfl, by kernel_rfl, by kernel_rfl⟩
theorem ok268 : FnOK Go.Proofs.Tryz.prog 268 ir268 := ⟨_, _, Go.Proofs.Tryz.func268, by kernel_rfl, rfl, by kernel_rfl, by kernel_rfl⟩
theorem ok269 : FnOK Go.Proofs.Tryz.prog 269 ir269 := ⟨_, _, Go.Proofs.Tryz.func269, by kernel_rfl, rfl, by kernel_rfl, by kernel_rfl⟩
theorem ok270 : FnOK Go.Proofs.Tryz.prog 270 ir270 := ⟨_, _, Go.Proofs.Tryz.func270, by kernel_rfl, rfl, by kernel_rfl, by kernel_rfl⟩
theorem ok271 : FnOK Go.Proofs.Tryz.prog 271 ir271 := ⟨_, _, Go.Proofs.Tryz.func271, by kernel_rfl, rfl, by kernel_rfl, by kernel_rfl⟩
theorem ok272 : FnOK Go.Proofs.Tryz.prog 272 ir272 := ⟨_, _, Go.Proofs.Tryz.func272, by kernel_rfl, rfl, by kernel_rfl, by kernel_rfl⟩
theorem ok273 : FnOK Go.Proofs.Tryz.prog 273 ir273 := ⟨_, _, Go.Proofs.Tryz.func273, by kernel_rfl, rfl, by kernel_rfl, by kernel_rfl⟩
theorem ok274 : FnOK Go.Proofs.Tryz.prog 274 ir274 := ⟨_, _, Go.Proofs.Tryz.func274, by kernel_rfl, rfl, by kernel_rfl, by kernel_rfl⟩
theorem ok275 : FnOK Go.Proofs.Tryz.prog 275 ir275 := ⟨_, _, Go.Proofs.Tryz.func275, by kernel_rfl, rfl, by kernel_rfl, by kernel_rfl⟩
theorem ok276 : FnOK Go.Proofs.Tryz.prog 276 ir276 := ⟨_, _, Go.Proofs.Tryz.func276, by kernel_rfl, rfl, by kernel_rfl, by kernel_rfl⟩
theorem ok277 : FnOK Go.Proofs.Tryz.prog 277 ir277 := ⟨_, _, Go.Proofs.Tryz.func277, by kernel_rfl, rfl, by kernel_rfl, by kernel_rfl⟩
theorem ok278 : FnOK Go.Proofs.Tryz.prog 278 ir278 := ⟨_, _, Go.Proofs.Tryz.func278, by kernel_rfl, rfl, by kernel_rfl, by kernel_rfl⟩
theorem ok279 : FnOK Go.Proofs.Tryz.prog 279 ir279 := ⟨_, _, Go.Proofs.Tryz.func279, by kernel_rfl, rfl, by kernel_rfl, by kernel_rfl⟩
theorem ok280 : FnOK Go.Proofs.Tryz.prog 280 ir280 := ⟨_, _, Go.Proofs.Tryz.func280, by kernel_rfl, rfl, by kernel_rfl, by kernel_rfl⟩
theorem ok281 : FnOK Go.Proofs.Tryz.prog 281 ir281 := ⟨_, _, Go.Proofs.Tryz.func281, by kernel_rfl, rfl, by kernel_rfl, by kernel_rfl⟩
theorem ok282 : FnOK Go.Proofs.Tryz.prog 282 ir282 := ⟨_, _, Go.Proofs.Tryz.func282, by kernel_rfl, rfl, by kernel_rfl, by kernel_rfl⟩
theorem ok283 : FnOK Go.Proofs.Tryz.prog 283 ir283 := ⟨_, _, Go.Proofs.Tryz.func283, by kernel_rfl, rfl, by kernel_rfl, by kernel_rfl⟩
theorem ok284 : FnOK Go.Proofs.Tryz.prog 284 ir284 := ⟨_, _, Go.Proofs.Tryz.func284, by kernel_rfl, rfl, by kernel_rfl, by kernel_rfl⟩
theorem ok285 : FnOK Go.Proofs.Tryz.prog 285 ir285 := ⟨_, _, Go.Proofs.Tryz.func285, by kernel_rfl, rfl, by kernel_rfl, by kernel_rfl⟩
theorem ok291 : FnOK Go.Proofs.Tryz.prog 291 ir291 := ⟨_, _, Go.Proofs.Tryz.func291, by kernel_rfl, rfl, by kernel_rfl, by kernel_rfl⟩
theorem ok292 : FnOK Go.Proofs.Tryz.prog 292 ir292 := ⟨_, _, Go.Proofs.Tryz.func292, by kernel_rfl, rfl, by kernel_rfl, by kernel_rfl⟩
theorem ok293 : FnOK Go.Proofs.Tryz.prog 293 ir293 := ⟨_, _, Go.Proofs.Tryz.func293, by kernel_rfl, rfl, by kernel_rfl, by kernel_rfl⟩
theorem ok294 : FnOK Go.Proofs.Tryz.prog 294 ir294 := ⟨_, _, Go.Proofs.Tryz.func294, by kernel_rfl, rfl, by kernel_rfl, by kernel_rfl⟩
theorem ok295 : FnOK Go.Proofs.Tryz.prog 295 ir295 := ⟨_, _, Go.Proofs.Tryz.func295, by kernel_rfl, rfl, by kernel_rfl, by kernel_rfl⟩
theorem ok298 : FnOK Go.Proofs.Tryz.prog 298 ir298 := ⟨_, _, Go.Proofs.Tryz.func298, by kernel_rfl, rfl, by kernel_rfl, by kernel_rfl⟩
theorem ok299 : FnOK Go.Proofs.Tryz.prog 299 ir299 := ⟨_, _, Go.Proofs.Tryz.func299, by kernel_rfl, rfl, by kernel_rfl, by kernel_rfl⟩
theorem ok300 : FnOK Go.Proofs.Tryz.prog 300 ir300 := ⟨_, _, Go.Proofs.Tryz.func300, by kernel_rfl, rfl, by kernel_rfl, by kernel_rfl⟩
theorem ok301 : FnOK Go.Proofs.Tryz.prog 301 ir301 := ⟨_, _, Go.Proofs.Tryz.func301, by kernel_rfl, rfl, by kernel_rfl, by kernel_rfl⟩
theorem ok302 : FnOK Go.Proofs.Tryz.prog 302 ir302 := ⟨_, _, Go.Proofs.Tryz.func302, by kernel_rfl, rfl, by kernel_rfl, by kernel_rfl⟩
theorem ok303 : FnOK Go.Proofs.Tryz.prog 303 ir303 := ⟨_, _, Go.Proofs.Tryz.func303, by kernel_rfl, rfl, by kernel_rfl, by kernel_rfl⟩
theorem ok304 : FnOK Go.Proofs.Tryz.prog 304 ir304 := ⟨_, _, Go.Proofs.Tryz.func304, by kernel_rfl, rfl, by kernel_rfl, by kernel_rfl⟩
theorem ok305 : FnOK Go.Proofs.Tryz.prog 305 ir305 := ⟨_, _, Go.Proofs.Tryz.func305, by kernel_rfl, rfl, by kernel_rfl, by kernel_rfl⟩
theorem ok306 : FnOK Go.Proofs.Tryz.prog 306 ir306 := ⟨_, _, Go.Proofs.Tryz.func306, by kernel_rfl, rfl, by kernel_rfl, by kernel_rfl⟩
theorem ok307 : FnOK Go.Proofs.Tryz.prog 307 ir307 := ⟨_, _, Go.Proofs.Tryz.func307, by kernel_rfl, rfl, by kernel_rfl, by kernel_rfl⟩
theorem ok308 : FnOK Go.Proofs.Tryz.prog 308 ir308 := ⟨_, _, Go.Proofs.Tryz.func308, by kernel_rfl, rfl, by kernel_rfl, by kernel_rfl⟩
theorem ok309 : FnOK Go.Proofs.Tryz.prog 309 ir309 := ⟨_, _, Go.Proofs.Tryz.func309, by kernel_rfl, rfl, by kernel_rfl, by kernel_rfl⟩
theorem ok310 : FnOK Go.Proofs.Tryz.prog 310 ir310 := ⟨_, _, Go.Proofs.Tryz.func310, by kernel_rfl, rfl, by kernel_rfl, by kernel_rfl⟩
theorem ok311 : FnOK Go.Proofs.Tryz.prog 311 ir311 := ⟨_, _, Go.Proofs.Tryz.func311, by kernel_rfl, rfl, by kernel_rfl, by kernel_rfl⟩
theorem ok312 : FnOK Go.Proofs.Tryz.prog 312 ir312 := ⟨_, _, Go.Proofs.Tryz.func312, by kernel_rfl, rfl, by kernel_rfl, by kernel_rfl⟩
theorem ok313 : FnOK Go.Proofs.Tryz.prog 313 ir313 := ⟨_, _, Go.Proofs.Tryz.func313, by kernel_rfl, rfl, by kernel_rfl, by kernel_rfl⟩
theorem ok314 : FnOK Go.Proofs.Tryz.prog 314 ir314 := ⟨_, _, Go.Proofs.Tryz.func314, by kernel_rfl, rfl, by kernel_rfl, by kernel_rfl⟩
theorem ok323 : FnOK Go.Proofs.Tryz.prog 323 ir323 := ⟨_, _, Go.Proofs.Tryz.func323, by kernel_rfl, rfl, by kernel_rfl, by kernel_rfl⟩
theorem ok324 : FnOK Go.Proofs.Tryz.prog 324 ir324 := ⟨_, _, Go.Proofs.Tryz.func324, by kernel_rfl, rfl, by kernel_rfl, by kernel_rfl⟩
theorem ok329 : FnOK Go.Proofs.Tryz.prog 329 ir329 := ⟨_, _, Go.Proofs.Tryz.func329, by kernel_rfl, rfl, by kernel_rfl, by kernel_rfl⟩
theorem ok330 : FnOK Go.Proofs.Tryz.prog 330 ir330 := ⟨_, _, Go.Proofs.Tryz.func330, by kernel_rfl, rfl, by kernel_rfl, by kernel_rfl⟩
theorem ok331 : FnOK Go.Proofs.Tryz.prog 331 ir331 := ⟨_, _, Go.Proofs.Tryz.func331, by kernel_rfl, rfl, by kernel_rfl, by kernel_rfl⟩
theorem ok332 : FnOK Go.Proofs.Tryz.prog 332 ir332 := ⟨_, _, Go.Proofs.Tryz.func332, by kernel_rfl, rfl, by kernel_rfl, by kernel_rfl⟩
theorem ok333 : FnOK Go.Proofs.Tryz.prog 333 ir333 := ⟨_, _, Go.Proofs.Tryz.func333, by kernel_rfl, rfl, by kernel_rfl, by kernel_rfl⟩
theorem ok334 : FnOK Go.Proofs.Tryz.prog 334 ir334 := ⟨_, _, Go.Proofs.Tryz.func334, by kernel_rfl, rfl, by kernel_rfl, by kernel_rfl⟩
theorem ok335 : FnOK Go.Proofs.Tryz.prog 335 ir335 := ⟨_, _, Go.Proofs.Tryz.func335, by kernel_rfl, rfl, by kernel_rfl, by kernel_rfl⟩
theorem ok336 : FnOK Go.Proofs.Tryz.prog 336 ir336 := ⟨_, _, Go.Proofs.Tryz.func336, by kernel_rfl, rfl, by kernel_rfl, by kernel_rfl⟩
theorem ok337 : FnOK Go.Proofs.Tryz.prog 337 ir337 := ⟨_, _, Go.Proofs.Tryz.func337, by kernel_rfl, rfl, by kernel_rfl, by kernel_rfl⟩
theorem ok338 : FnOK Go.Proofs.Tryz.prog 338 ir338 := ⟨_, _, Go.Proofs.Tryz.func338, by kernel_rfl, rfl, by kernel_rfl, by kernel_rfl⟩
theorem ok339 : FnOK Go.Proofs.Tryz.prog 339 ir339 := ⟨_, _, Go.Proofs.Tryz.func339, by kernel_rfl, rfl, by kernel_rfl, by kernel_rfl⟩
theorem ok340 : FnOK Go.Proofs.Tryz.prog 340 ir340 := ⟨_, _, Go.Proofs.Tryz.func340, by kernel_rfl, rfl, by kernel_rfl, by kernel_rfl⟩
theorem ok341 : FnOK Go.Proofs.Tryz.prog 341 ir341 := ⟨_, _, Go.Proofs.Tryz.func341, by kernel_rfl, rfl, by kernel_rfl, by kernel_rfl⟩
theorem ok342 : FnOK Go.Proofs.Tryz.prog 342 ir342 := ⟨_, _, Go.Proofs.Tryz.func342, by kernel_rfl, rfl, by kernel_rfl, by kernel_rfl⟩
theorem ok343 : FnOK Go.Proofs.Tryz.prog 343 ir343 := ⟨_, _, Go.Proofs.Tryz.func343, by kernel_rfl, rfl, by kernel_rfl, by kernel_rfl⟩
theorem ok344 : FnOK Go.Proofs.Tryz.prog 344 ir344 := ⟨_, _, Go.Proofs.Tryz.func344, by kernel_rfl, rfl, by kernel_rfl, by kernel_rfl⟩
theorem ok345 : FnOK Go.Proofs.Tryz.prog 345 ir345 := ⟨_, _, Go.Proofs.Tryz.func345, by kernel_rfl, rfl, by kernel_rfl, by kernel_rfl⟩
theorem ok346 : FnOK Go.Proofs.Tryz.prog 346 ir346 := ⟨_, _, Go.Proofs.Tryz.func346, by kernel_rfl, rfl, by kernel_rfl, by kernel_rfl⟩
theorem ok347 : FnOK Go.Proofs.Tryz.prog 347 ir347 := ⟨_, _, Go.Proofs.Tryz.func347, by kernel_rfl, rfl, by kernel_rfl, by kernel_rfl⟩
theorem ok354 : FnOK Go.Proofs.Tryz.prog 354 ir354 := ⟨_, _, Go.Proofs.Tryz.func354, by kernel_rfl, rfl, by kernel_rfl, by kernel_rfl⟩
theorem ok355 : FnOK Go.Proofs.Tryz.prog 355 ir355 := ⟨_, _, Go.Proofs.Tryz.func355, by kernel_rfl, rfl, by kernel_rfl, by kernel_rfl⟩
theorem ok : ∀ p ∈ tab, FnOK Go.Proofs.Tryz.prog p.1 p.2 := by
  unfold tab
  exact all_cons ok9 (all_cons ok13 (all_cons ok19 (all_cons ok22 (all_cons ok23 (all_cons ok26 (all_cons ok27 (all_cons ok30 (all_cons ok42 (all_cons ok44 (all_cons ok45 (all_cons ok46 (all_cons ok48 (all_cons ok49 (all_cons ok50 (all_cons ok51 (all_cons ok56 (all_cons ok57 (all_cons ok58 (all_cons ok59 (all_cons ok60 (all_cons ok61 (all_cons ok62 (all_cons ok63 (all_cons ok65 (all_cons ok67 (all_cons ok68 (all_cons ok78 (all_cons ok79 (all_cons ok80 (all_cons ok82 (all_cons ok83 (all_cons ok84 (all_cons ok85 (all_cons ok86 (all_cons ok88 (all_cons ok91 (all_cons ok118 (all_cons ok119 (all_cons ok120 (all_cons ok121 (all_cons ok122 (all_cons ok123 (all_cons ok124 (all_cons ok125 (all_cons ok126 (all_cons ok127 (all_cons ok128 (all_cons ok129 (all_cons ok139 (all_cons ok141 (all_cons ok142 (all_cons ok143 (all_cons ok144 (all_cons ok145 (all_cons ok146 (all_cons ok147 (all_cons ok148 (all_cons ok149 (all_cons ok150 (all_cons ok151 (all_cons ok152 (all_cons ok153 (all_cons ok154 (all_cons ok155 (all_cons ok156 (all_cons ok160 (all_cons ok161 (all_cons ok162 (all_cons ok163 (all_cons ok165 (all_cons ok169 (all_cons ok171 (all_cons ok172 (all_cons ok173 (all_cons ok193 (all_cons ok195 (all_cons ok198 (all_cons ok201 (all_cons ok202 (all_cons ok203 (all_cons ok204 (all_cons ok205 (all_cons ok206 (all_cons ok207 (all_cons ok208 (all_cons ok209 (all_cons ok210 (all_cons ok211 (all_cons ok212 (all_cons ok221 (all_cons ok222 (all_cons ok223 (all_cons ok224 (all_cons ok225 (all_cons ok226 (all_cons ok227 (all_cons ok228 (all_cons ok229 (all_cons ok230 (all_cons ok235 (all_cons ok237 (all_cons ok238 (all_cons ok256 (all_cons ok257 (all_cons ok258 (all_cons ok259 (all_cons ok260 (all_cons ok261 (all_cons ok262 (all_cons ok266 (all_cons ok267 (all_cons ok268 (all_cons ok269 (all_cons ok270 (all_cons ok271 (all_cons ok272 (all_cons ok273 (all_cons ok274 (all_cons ok275 (all_cons ok276 (all_cons ok277 (all_cons ok278 (all_cons ok279 (all_cons ok280 (all_cons ok281 (all_cons ok282 (all_cons ok283 (all_cons ok284 (all_cons ok285 (all_cons ok291 (all_cons ok292 (all_cons ok293 (all_cons ok294 (all_cons ok295 (all_cons ok298 (all_cons ok299 (all_cons ok300 (all_cons ok301 (all_cons ok302 (all_cons ok303 (all_cons ok304 (all_cons ok305 (all_cons ok306 (all_cons ok307 (all_cons ok308 (all_cons ok309 (all_cons ok310 (all_cons ok311 (all_cons ok312 (all_cons ok313 (all_cons ok314 (all_cons ok323 (all_cons ok324 (all_cons ok329 (all_cons ok330 (all_cons ok331 (all_cons ok332 (all_cons ok333 (all_cons ok334 (all_cons ok335 (all_cons ok336 (all_cons ok337 (all_cons ok338 (all_cons ok339 (all_cons ok340 (all_cons ok341 (all_cons ok342 (all_cons ok343 (all_cons ok344 (all_cons ok345 (all_cons ok346 (all_cons ok347 (all_cons ok354 (all_cons ok355 (all_nil)))))))))))))))))))))))))))))))))))))))))))))))))))))))))))))))))))))))))))))))))))))))))))))))))))))))))))))))))))))))))))))))))))))))))))))))))))))))))))))))))))))))))))))))
theorem envOK0 : EnvOK Go.Proofs.Tryz.prog EE0 where
  mix := by kernel_rfl
  still := fun _ _ _ _ => trivial
  fns f fn h := fnOK_find ok h
  prims f g h := by cases h
theorem awk : ∀ f ∈ sayK, clD EE0 (.p (.fn f)) [] [] = some (.p (.bool true), none) := by
  intro f hf
  simp only [sayK, List.mem_cons, List.not_mem_nil, or_false] at hf
  subst hf
  · exact awk44
theorem envOK : EnvOK Go.Proofs.Tryz.prog EE where
  mix := by kernel_rfl
  still := fun _ _ _ _ => trivial
  fns f fn h := fnOK_find ok h
  prims f g h := by
    have h0 : (if f ∈ sayK then some sayP else EE0.prims f) = some g := h
    split at h0
    · rename_i e; cases h0
      exact fun vs H r hr G own w args _ ha _ hw _ => say_prim envOK0 (awk f e) hr ha hw
    · exact envOK0.prims f g h0
end Go.EnvOf
