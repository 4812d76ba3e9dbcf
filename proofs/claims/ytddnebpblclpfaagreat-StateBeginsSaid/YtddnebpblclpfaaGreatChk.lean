/- The functions of the table are the program's. -/
import Derived.Test.YtddnebpblclpfaaGreatProg
import Derived.Test.YtddnebpblclpfaaGreatEngAll7
import Derived.Test.YtddnebpblclpfaaGreatEngAll8
import Derived.Test.YtddnebpblclpfaaGreatAwk
namespace Go.EnvOf
open Go Go.Eng
set_option maxRecDepth 100000
theorem ok3 : FnOK Go.Proofs.Tryz.prog 3 ir3 := ⟨_, _, Go.Proofs.Tryz.func3, by kernel_rfl, rfl, by kernel_rfl, by kernel_rfl⟩
theorem ok5 : FnOK Go.Proofs.Tryz.prog 5 ir5 := ⟨_, _, Go.Proofs.Tryz.func5, by kernel_rfl, rfl, by kernel_rfl, by kernel_rfl⟩
theorem ok11 : FnOK Go.Proofs.Tryz.prog 11 ir11 := ⟨_, _, Go.Proofs.Tryz.func11, by kernel_rfl, rfl, by kernel_rfl, by kernel_rfl⟩
theorem ok12 : FnOK Go.Proofs.Tryz.prog 12 ir12 := ⟨_, _, Go.Proofs.Tryz.func12, by kernel_rfl, rfl, by kernel_rfl, by kernel_rfl⟩
theorem ok13 : FnOK Go.Proofs.Tryz.prog 13 ir13 := ⟨_, _, Go.Proofs.Tryz.func13, by kernel_rfl, rfl, by kernel_rfl, by kernel_rfl⟩
theorem ok14 : FnOK Go.Proofs.Tryz.prog 14 ir14 := ⟨_, _, Go.Proofs.Tryz.func14, by kernel_rfl, rfl, by kernel_rfl, by kernel_rfl⟩
theorem ok15 : FnOK Go.Proofs.Tryz.prog 15 ir15 := ⟨_, _, Go.Proofs.Tryz.func15, by kernel_rfl, rfl, by kernel_rfl, by kernel_rfl⟩
theorem ok16 : FnOK Go.Proofs.Tryz.prog 16 ir16 := ⟨_, _, Go.Proofs.Tryz.func16, by kernel_rfl, rfl, by kernel_rfl, by kernel_rfl⟩
theorem ok19 : FnOK Go.Proofs.Tryz.prog 19 ir19 := ⟨_, _, Go.Proofs.Tryz.func19, by kernel_rfl, rfl, by kernel_rfl, by kernel_rfl⟩
theorem ok20 : FnOK Go.Proofs.Tryz.prog 20 ir20 := ⟨_, _, Go.Proofs.Tryz.func20, by kernel_rfl, rfl, by kernel_rfl, by kernel_rfl⟩
theorem ok21 : FnOK Go.Proofs.Tryz.prog 21 ir21 := ⟨_, _, Go.Proofs.Tryz.func21, by kernel_rfl, rfl, by kernel_rfl, by kernel_rfl⟩
theorem ok22 : FnOK Go.Proofs.Tryz.prog 22 ir22 := ⟨_, _, Go.Proofs.Tryz.func22, by kernel_rfl, rfl, by kernel_rfl, by kernel_rfl⟩
theorem ok23 : FnOK Go.Proofs.Tryz.prog 23 ir23 := ⟨_, _, Go.Proofs.Tryz.func23, by kernel_rfl, rfl, by kernel_rfl, by kernel_rfl⟩
theorem ok24 : FnOK Go.Proofs.Tryz.prog 24 ir24 := ⟨_, _, Go.Proofs.Tryz.func24, by kernel_rfl, rfl, by kernel_rfl, by kernel_rfl⟩
theorem ok25 : FnOK Go.Proofs.Tryz.prog 25 ir25 := ⟨_, _, Go.Proofs.Tryz.func25, by kernel_rfl, rfl, by kernel_rfl, by kernel_rfl⟩
theorem ok26 : FnOK Go.Proofs.Tryz.prog 26 ir26 := ⟨_, _, Go.Proofs.Tryz.func26, by kernel_rfl, rfl, by kernel_rfl, by kernel_rfl⟩
theorem ok27 : FnOK Go.Proofs.Tryz.prog 27 ir27 := ⟨_, _, Go.Proofs.Tryz.func27, by kernel_rfl, rfl, by kernel_rfl, by kernel_rfl⟩
theorem ok28 : FnOK Go.Proofs.Tryz.prog 28 ir28 := ⟨_, _, Go.Proofs.Tryz.func28, by kernel_rfl, rfl, by kernel_rfl, by kernel_rfl⟩
theorem ok29 : FnOK Go.Proofs.Tryz.prog 29 ir29 := ⟨_, _, Go.Proofs.Tryz.func29, by kernel_rfl, rfl, by kernel_rfl, by kernel_rfl⟩
theorem ok30 : FnOK Go.Proofs.Tryz.prog 30 ir30 := ⟨_, _, Go.Proofs.Tryz.func30, by kernel_rfl, rfl, by kernel_rfl, by kernel_rfl⟩
theorem ok31 : FnOK Go.Proofs.Tryz.prog 31 ir31 := ⟨_, _, Go.Proofs.Tryz.func31, by kernel_rfl, rfl, by kernel_rfl, by kernel_rfl⟩
theorem ok32 : FnOK Go.Proofs.Tryz.prog 32 ir32 := ⟨_, _, Go.Proofs.Tryz.func32, by kernel_rfl, rfl, by kernel_rfl, by kernel_rfl⟩
theorem ok56 : FnOK Go.Proofs.Tryz.prog 56 ir56 := ⟨_, _, Go.Proofs.Tryz.func56, by kernel_rfl, rfl, by kernel_rfl, by kernel_rfl⟩
theorem ok57 : FnOK Go.Proofs.Tryz.prog 57 ir57 := ⟨_, _, Go.Proofs.Tryz.func57, by kernel_rfl, rfl, by kernel_rfl, by kernel_rfl⟩
theorem ok58 : FnOK Go.Proofs.Tryz.prog 58 ir58 := ⟨_, _, Go.Proofs.Tryz.func58, by kernel_rfl, rfl, by kernel_rfl, by kernel_rfl⟩
theorem ok59 : FnOK Go.Proofs.Tryz.prog 59 ir59 := ⟨_, _, Go.Proofs.Tryz.func59, by kernel_rfl, rfl, by kernel_rfl, by kernel_rfl⟩
theorem ok60 : FnOK Go.Proofs.Tryz.prog 60 ir60 := ⟨_, _, Go.Proofs.Tryz.func60, by kernel_rfl, rfl, by kernel_rfl, by kernel_rfl⟩
theorem ok61 : FnOK Go.Proofs.Tryz.prog 61 ir61 := ⟨_, _, Go.Proofs.Tryz.func61, by kernel_rfl, rfl, by kernel_rfl, by kernel_rfl⟩
theorem ok62 : FnOK Go.Proofs.Tryz.prog 62 ir62 := ⟨_, _, Go.Proofs.Tryz.func62, by kernel_rfl, rfl, by kernel_rfl, by kernel_rfl⟩
theorem ok63 : FnOK Go.Proofs.Tryz.prog 63 ir63 := ⟨_, _, Go.Proofs.Tryz.func63, by kernel_rfl, rfl, by kernel_rfl, by kernel_rfl⟩
theorem ok64 : FnOK Go.Proofs.Tryz.prog 64 ir64 := ⟨_, _, Go.Proofs.Tryz.func64, by kernel_rfl, rfl, by kernel_rfl, by kernel_rfl⟩
theorem ok65 : FnOK Go.Proofs.Tryz.prog 65 ir65 := ⟨_, _, Go.Proofs.Tryz.func65, by kernel_rfl, rfl, by kernel_rfl, by kernel_rfl⟩
theorem ok66 : FnOK Go.Proofs.Tryz.prog 66 ir66 := ⟨_, _, Go.Proofs.Tryz.func66, by kernel_rfl, rfl, by kernel_rfl, by kernel_rfl⟩
theorem ok67 : FnOK Go.Proofs.Tryz.prog 67 ir67 := ⟨_, _, Go.Proofs.Tryz.func67, by kernel_rfl, rfl, by kernel_rfl, by kernel_rfl⟩
theorem ok68 : FnOK Go.Proofs.Tryz.prog 68 ir68 := ⟨_, _, Go.Proofs.Tryz.func68, by kernel_rfl, rfl, by kernel_rfl, by kernel_rfl⟩
theorem ok69 : FnOK Go.Proofs.Tryz.prog 69 ir69 := ⟨_, _, Go.Proofs.Tryz.func69, by kernel_rfl, rfl, by kernel_rfl, by kernel_rfl⟩
theorem ok70 : FnOK Go.Proofs.Tryz.prog 70 ir70 := ⟨_, _, Go.Proofs.Tryz.func70, by kernel_rfl, rfl, by kernel_rfl, by kernel_rfl⟩
theorem ok71 : FnOK Go.Proofs.Tryz.prog 71 ir71 := ⟨_, _, Go.Proofs.Tryz.func71, by kernel_rfl, rfl, by kernel_rfl, by kernel_rfl⟩
theorem ok72 : FnOK Go.Proofs.Tryz.prog 72 ir72 := ⟨_, _, Go.Proofs.Tryz.func72, by kernel_rfl, rfl, by kernel_rfl, by kernel_rfl⟩
theorem ok73 : FnOK Go.Proofs.Tryz.prog 73 ir73 := ⟨_, _, Go.Proofs.Tryz.func73, by kernel_rfl, rfl, by kernel_rfl, by kernel_rfl⟩
theorem ok74 : FnOK Go.Proofs.Tryz.prog 74 ir74 := ⟨_, _, Go.Proofs.Tryz.func74, by kernel_rfl, rfl, by kernel_rfl, by kernel_rfl⟩
theorem ok78 : FnOK Go.Proofs.Tryz.prog 78 ir78 := ⟨_, _, Go.Proofs.Tryz.func78, by kernel_rfl, rfl, by kernel_rfl, by kernel_rfl⟩
theorem ok79 : FnOK Go.Proofs.Tryz.prog 79 ir79 := ⟨_, _, Go.Proofs.Tryz.func79, by kernel_rfl, rfl, by kernel_rfl, by kernel_rfl⟩
theorem ok80 : FnOK Go.Proofs.Tryz.prog 80 ir80 := ⟨_, _, Go.Proofs.Tryz.func80, by kernel_rfl, rfl, by kernel_rfl, by kernel_rfl⟩
theorem ok81 : FnOK Go.Proofs.Tryz.prog 81 ir81 := ⟨_, _, Go.Proofs.Tryz.func81, by kernel_rfl, rfl, by kernel_rfl, by kernel_rfl⟩
theorem ok82 : FnOK Go.Proofs.Tryz.prog 82 ir82 := ⟨_, _, Go.Proofs.Tryz.func82, by kernel_rfl, rfl, by kernel_rfl, by kernel_rfl⟩
theorem ok83 : FnOK Go.Proofs.Tryz.prog 83 ir83 := ⟨_, _, Go.Proofs.Tryz.func83, by kernel_rfl, rfl, by kernel_rfl, by kernel_rfl⟩
theorem ok84 : FnOK Go.Proofs.Tryz.prog 84 ir84 := ⟨_, _, Go.Proofs.Tryz.func84, by kernel_rfl, rfl, by kernel_rfl, by kernel_rfl⟩
theorem ok85 : FnOK Go.Proofs.Tryz.prog 85 ir85 := ⟨_, _, Go.Proofs.Tryz.func85, by kernel_rfl, rfl, by kernel_rfl, by kernel_rfl⟩
theorem ok86 : FnOK Go.Proofs.Tryz.prog 86 ir86 := ⟨_, _, Go.Proofs.Tryz.func86, by kernel_rfl, rfl, by kernel_rfl, by kernel_rfl⟩
theorem ok87 : FnOK Go.Proofs.Tryz.prog 87 ir87 := ⟨_, _, Go.Proofs.Tryz.func87, by kernel_rfl, rfl, by kernel_rfl, by kernel_rfl⟩
theorem ok88 : FnOK Go.Proofs.Tryz.prog 88 ir88 := ⟨_, _, Go.Proofs.Tryz.func88, by kernel_rfl, rfl, by kernel_rfl, by kernel_rfl⟩
theorem ok89 : FnOK Go.Proofs.Tryz.prog 89 ir89 := ⟨_, _, Go.Proofs.Tryz.func89, by kernel_rfl, rfl, by kernel_rfl, by kernel_rfl⟩
theorem ok90 : FnOK Go.Proofs.Tryz.prog 90 ir90 := ⟨_, _, Go.Proofs.Tryz.func90, by kernel_rfl, rfl, by kernel_rfl, by kernel_rfl⟩
theorem ok91 : FnOK Go.Proofs.Tryz.prog 91 ir91 := ⟨_, _, Go.Proofs.Tryz.func91, by kernel_rfl, rfl, by kernel_rfl, by kernel_rfl⟩
theorem ok92 : FnOK Go.Proofs.Tryz.prog 92 ir92 := ⟨_, _, Go.Proofs.Tryz.func92, by kernel_rfl, rfl, by kernel_rfl, by kernel_rfl⟩
theorem ok93 : FnOK Go.Proofs.Tryz.prog 93 ir93 := ⟨_, _, Go.Proofs.Tryz.func93, by kernel_rfl, rfl, by kernel_rfl, by kernel_rfl⟩
theorem ok118 : FnOK Go.Proofs.Tryz.prog 118 ir118 := ⟨_, _, Go.Proofs.Tryz.func118, by kernel_rfl, rfl, by kernel_rfl, by kernel_rfl⟩
theorem ok136 : FnOK Go.Proofs.Tryz.prog 136 ir136 := ⟨_, _, Go.Proofs.Tryz.func136, by kernel_rfl, rfl, by kernel_rfl, by kernel_rfl⟩
theorem ok138 : FnOK Go.Proofs.Tryz.prog 138 ir138 := ⟨_, _, Go.Proofs.Tryz.func138, by kernel_rfl, rfl, by kernel_rfl, by kernel_rfl⟩
theorem ok139 : FnOK Go.Proofs.Tryz.prog 139 ir139 := ⟨_, _, Go.Proofs.Tryz.func139, by kernel_rfl, rfl, by kernel_rfl, by kernel_rfl⟩
theorem ok141 : FnOK Go.Proofs.Tryz.prog 141 ir141 := ⟨_, _, Go.Proofs.Tryz.func141, by kernel_rfl, rfl, by kernel_rfl, by kernel_rfl⟩
theorem ok142 : FnOK Go.Proofs.Tryz.prog 142 ir142 := ⟨_, _, Go.Proofs.Tryz.func142, by kernel_rfl, rfl, by kernel_rfl, by kernel_rfl⟩
theorem ok143 : FnOK Go.Proofs.Tryz.prog 143 ir143 := ⟨_, _, Go.Proofs.Tryz.func143, by kernel_rfl, rfl, by kernel_rfl, by kernel_rfl⟩
theorem ok144 : FnOK Go.Proofs.Tryz.prog 144 ir144 := ⟨_, _, Go.Proofs.Tryz.func144, by kernel_rfl, rfl, by kernel_rfl, by kernel_rfl⟩
theorem ok145 : FnOK Go.Proofs.Tryz.prog 145 ir145 := ⟨_, _, Go.Proofs.Tryz.func145, by kernel_rfl, rfl, by kernel_rfl, by kernel_rfl⟩
theorem ok146 : FnOK Go.Proofs.Tryz.prog 146 ir146 := ⟨_, _, Go.Proofs.Tryz.func146, by kernel_rfl, rfl, by kernel_rfl, by kernel_rfl⟩
theorem ok147 : FnOK Go.Proofs.Tryz.prog 147 ir147 := ⟨_, _, Go.Proofs.Tryz.func147, by kernel_rfl, rfl, by kernel_rfl, by kernel_rfl⟩
theorem ok148 : FnOK Go.Proofs.Tryz.prog 148 ir148 := ⟨_, _, Go.Proofs.Tryz.func148, by kernel_rfl, rfl, by kernel_rfl, by kernel_rfl⟩
theorem ok149 : FnOK Go.Proofs.Tryz.prog 149 ir149 := ⟨_, _, Go.Proofs.Tryz.func149, by kernel_rfl, rfl, by kernel_rfl, by kernel_rfl⟩
theorem ok150 : FnOK Go.Proofs.Tryz.prog 150 ir150 := ⟨_, _, Go.Proofs.Tryz.func150, by kernel_rfl, rfl, by kernel_rfl, by kernel_rfl⟩
theorem ok151 : FnOK Go.Proofs.Tryz.prog 151 ir151 := ⟨_, _, Go.Proofs.Tryz.func151, by kernel_rfl, rfl, by kernel_rfl, by kernel_rfl⟩
theorem ok152 : FnOK Go.Proofs.Tryz.prog 152 ir152 := ⟨_, _, Go.Proofs.Tryz.func152, by kernel_rfl, rfl, by kernel_rfl, by kernel_rfl⟩
theorem ok153 : FnOK Go.Proofs.Tryz.prog 153 ir153 := ⟨_, _, Go.Proofs.Tryz.func153, by kernel_rfl, rfl, by kernel_rfl, by kernel_rfl⟩
theorem ok154 : FnOK Go.Proofs.Tryz.prog 154 ir154 := ⟨_, _, Go.Proofs.Tryz.func154, by kernel_rfl, rfl, by kernel_rfl, by kernel_rfl⟩
theorem ok155 : FnOK Go.Proofs.Tryz.prog 155 ir155 := ⟨_, _, Go.Proofs.Tryz.func155, by kernel_rfl, rfl, by kernel_rfl, by kernel_rfl⟩
theorem ok156 : FnOK Go.Proofs.Tryz.prog 156 ir156 := ⟨_, _, Go.Proofs.Tryz.func156, by kernel_rfl, rfl, by kernel_rfl, by kernel_rfl⟩
theorem ok157 : FnOK Go.Proofs.Tryz.prog 157 ir157 := ⟨_, _, Go.Proofs.Tryz.func157, by kernel_rfl, rfl, by kernel_rfl, by kernel_rfl⟩
theorem ok158 : FnOK Go.Proofs.Tryz.prog 158 ir158 := ⟨_, _, Go.Proofs.Tryz.func158, by kernel_rfl, rfl, by kernel_rfl, by kernel_rfl⟩
theorem ok159 : FnOK Go.Proofs.Tryz.prog 159 ir159 := ⟨_, _, Go.Proofs.Tryz.func159, by kernel_rfl, rfl, by kernel_rfl, by kernel_rfl⟩
theorem ok160 : FnOK Go.Proofs.Tryz.prog 160 ir160 := ⟨_, _, Go.Proofs.Tryz.func160, by kernel_rfl, rfl, by kernel_rfl, by kernel_rfl⟩
theorem ok161 : FnOK Go.Proofs.Tryz.prog 161 ir161 := ⟨_, _, Go.Proofs.Tryz.func161, by kernel_rfl, rfl, by kernel_rfl, by kernel_rfl⟩
theorem ok162 : FnOK Go.Proofs.Tryz.prog 162 ir162 := ⟨_, _, Go.Proofs.Tryz.func162, by kernel_rfl, rfl, by kernel_rfl, by kernel_rfl⟩
theorem ok163 : FnOK Go.Proofs.Tryz.prog 163 ir163 := ⟨_, _, Go.Proofs.Tryz.func163, by kernel_rfl, rfl, by kernel_rfl, by kernel_rfl⟩
theorem ok164 : FnOK Go.Proofs.Tryz.prog 164 ir164 := ⟨_, _, Go.Proofs.Tryz.func164, by kernel_rfl, rfl, by kernel_rfl, by kernel_rfl⟩
theorem ok165 : FnOK Go.Proofs.Tryz.prog 165 ir165 := ⟨_, _, Go.Proofs.Tryz.func165, by kernel_rfl, rfl, by kernel_rfl, by kernel_rfl⟩
theorem ok166 : FnOK Go.Proofs.Tryz.prog 166 ir166 := ⟨_, _, Go.Proofs.Tryz.func166, by kernel_rfl, rfl, by kernel_rfl, by kernel_rfl⟩
theorem ok167 : FnOK Go.Proofs.Tryz.prog 167 ir167 := ⟨_, _, Go.Proofs.Tryz.func167, by kernel_rfl, rfl, by kernel_rfl, by kernel_rfl⟩
theorem ok168 : FnOK Go.Proofs.Tryz.prog 168 ir168 := ⟨_, _, Go.Proofs.Tryz.func168, by kernel_rfl, rfl, by kernel_rfl, by kernel_rfl⟩
theorem ok169 : FnOK Go.Proofs.Tryz.prog 169 ir169 := ⟨_, _, Go.Proofs.Tryz.func169, by kernel_rfl, rfl, by kernel_rfl, by kernel_rfl⟩
theorem ok171 : FnOK Go.Proofs.Tryz.prog 171 ir171 := ⟨_, _, Go.Proofs.Tryz.func171, by kernel_rfl, rfl, by kernel_rfl, by kernel_rfl⟩
theorem ok172 : FnOK Go.Proofs.Tryz.prog 172 ir172 := ⟨_, _, Go.Proofs.Tryz.func172, by kernel_rfl, rfl, by kernel_rfl, by kernel_rfl⟩
theorem ok173 : FnOK Go.Proofs.Tryz.prog 173 ir173 := ⟨_, _, Go.Proofs.Tryz.func173, by kernel_rfl, rfl, by kernel_rfl, by kernel_rfl⟩
theorem ok174 : FnOK Go.Proofs.Tryz.prog 174 ir174 := ⟨_, _, Go.Proofs.Tryz.func174, by kernel_rfl, rfl, by kernel_rfl, by kernel_rfl⟩
theorem ok193 : FnOK Go.Proofs.Tryz.prog 193 ir193 := ⟨_, _, Go.Proofs.Tryz.func193, by kernel_rfl, rfl, by kernel_rfl, by kernel_rfl⟩
theorem ok198 : FnOK Go.Proofs.Tryz.prog 198 ir198 := ⟨_, _, Go.Proofs.Tryz.func198, by kernel_rfl, rfl, by kernel_rfl, by kernel_rfl⟩
theorem ok201 : FnOK Go.Proofs.Tryz.prog 201 ir201 := ⟨_, _, Go.Proofs.Tryz.func201, by kernel_rfl, rfl, by kernel_rfl, by kernel_rfl⟩
theorem ok213 : FnOK Go.Proofs.Tryz.prog 213 ir213 := ⟨_, _, Go.Proofs.Tryz.func213, by kernel_rfl, rfl, by kernel_rfl, by kernel_rfl⟩
theorem ok219 : FnOK Go.Proofs.Tryz.prog 219 ir219 := ⟨_, _, Go.Proofs.Tryz.func219, by kernel_rfl, rfl, by kernel_rfl, by kernel_rfl⟩
theorem ok220 : FnOK Go.Proofs.Tryz.prog 220 ir220 := ⟨_, _, Go.Proofs.Tryz.func220, by kernel_rfl, rfl, by kernel_rfl, by kernel_rfl⟩
theorem ok221 : FnOK Go.Proofs.Tryz.prog 221 ir221 := ⟨_, _, Go.Proofs.Tryz.func221, by kernel_rfl, rfl, by kernel_rfl, by kernel_rfl⟩
theorem ok222 : FnOK Go.Proofs.Tryz.prog 222 ir222 := ⟨_, _, Go.Proofs.Tryz.func222, by kernel_rfl, rfl, by kernel_rfl, by kernel_rfl⟩
theorem ok223 : FnOK Go.Proofs.Tryz.prog 223 ir223 := ⟨_, _, Go.Proofs.Tryz.func223, by kernel_rfl, rfl, by kernel_rfl, by kernel_rfl⟩
theorem ok224 : FnOK Go.Proofs.Tryz.prog 224 ir224 := ⟨_, _, Go.Proofs.Tryz.func224, by kernel_rfl, rfl, by kernel_rfl, by kernel_rfl⟩
theorem ok225 : FnOK Go.Proofs.Tryz.prog 225 ir225 := ⟨_, _, Go.Proofs.Tryz.func225, by kernel_rfl, rfl, by kernel_rfl, by kernel_rfl⟩
theorem ok226 : FnOK Go.Proofs.Tryz.prog 226 ir226 := ⟨_, _, Go.Proofs.Tryz.func226, by kernel_rfl, rfl, by kernel_rfl, by kernel_rfl⟩
theorem ok227 : FnOK Go.Proofs.Tryz.prog 227 ir227 := ⟨_, _, Go.Proofs.Tryz.func227, by kernel_rfl, rfl, by kernel_rfl, by kernel_rfl⟩
theorem ok228 : FnOK Go.Proofs.Tryz.prog 228 ir228 := ⟨_, _, Go.Proofs.Tryz.func228, by kernel_rfl, rfl, by kernel_rfl, by kernel_rfl⟩
theorem ok229 : FnOK Go.Proofs.Tryz.prog 229 ir229 := ⟨_, _, Go.Proofs.Tryz.func229, by kernel_rfl, rfl, by kernel_rfl, by kernel_rfl⟩
theorem ok230 : FnOK Go.Proofs.Tryz.prog 230 ir230 := ⟨_, _, Go.Proofs.Tryz.func230, by kernel_rfl, rfl, by kernel_rfl, by kernel_rfl⟩
theorem ok231 : FnOK Go.Proofs.Tryz.prog 231 ir231 := ⟨_, _, Go.Proofs.Tryz.func231, by kernel_rfl, rfl, by kernel_rfl, by kernel_rfl⟩
theorem ok232 : FnOK Go.Proofs.Tryz.prog 232 ir232 := ⟨_, _, Go.Proofs.Tryz.func232, by kernel_rfl, rfl, by kernel_rfl, by kernel_rfl⟩
theorem ok233 : FnOK Go.Proofs.Tryz.prog 233 ir233 := ⟨_, _, Go.Proofs.Tryz.func233, by kernel_rfl, rfl, by kernel_rfl, by kernel_rfl⟩
theorem ok234 : FnOK Go.Proofs.Tryz.prog 234 ir234 := ⟨_, _, Go.Proofs.Tryz.func234, by kernel_rfl, rfl, by kernel_rfl, by kernel_rfl⟩
theorem ok235 : FnOK Go.Proofs.Tryz.prog 235 ir235 := ⟨_, _, Go.Proofs.Tryz.func235, by kernel_rfl, rfl, by kernel_rfl, by kernel_rfl⟩
theorem ok236 : FnOK Go.Proofs.Tryz.prog 236 ir236 := ⟨_, _, Go.Proofs.Tryz.func236, by kernel_rfl, rfl, by kernel_rfl, by kernel_rfl⟩
theorem ok237 : FnOK Go.Proofs.Tryz.prog 237 ir237 := ⟨_, _, Go.Proofs.Tryz.func237, by kernel_rfl, rfl, by kernel_rfl, by kernel_rfl⟩
theorem ok238 : FnOK Go.Proofs.Tryz.prog 238 ir238 := ⟨_, _, Go.Proofs.Tryz.func238, by kernel_rfl, rfl, by kernel_rfl, by kernel_rfl⟩
theorem ok244 : FnOK Go.Proofs.Tryz.prog 244 ir244 := ⟨_, _, Go.Proofs.Tryz.func244, by kernel_rfl, rfl, by kernel_rfl, by kernel_rfl⟩
theorem ok256 : FnOK Go.Proofs.Tryz.prog 256 ir256 := ⟨_, _, Go.Proofs.Tryz.func256, by kernel_rfl, rfl, by kernel_rfl, by kernel_rfl⟩
theorem ok258 : FnOK Go.Proofs.Tryz.prog 258 ir258 := ⟨_, _, Go.Proofs.Tryz.func258, by kernel_rfl, rfl, by kernel_rfl, by kernel_rfl⟩
theorem ok262 : FnOK Go.Proofs.Tryz.prog 262 ir262 := ⟨_, _, Go.Proofs.Tryz.func262, by kernel_rfl, rfl, by kernel_rfl, by kernel_rfl⟩
theorem ok266 : FnOK Go.Proofs.Tryz.prog 266 ir266 := ⟨_, _, Go.Proofs.Tryz.func266, by kernel_rfl, rfl, by kernel_rfl, by kernel_rfl⟩
theorem ok267 : FnOK Go.Proofs.Tryz.prog 267 ir267 := ⟨_, _, Go.Proofs.Tryz.func267, by kernel_rfl, rfl, by kernel_rfl, by kernel_rfl⟩
theorem ok268 : FnOK Go.Proofs.Tryz.prog 268 ir268 := ⟨_, _, Go.Proofs.Tryz.func268, by kernel_rfl, rfl, by kernel_rfl, by kernel_rfl⟩
theorem ok269 : FnOK Go.Proofs.Tryz.prog 269 ir269 := ⟨_, _, Go.Proofs.Tryz.func269, by kernel_rfl, rfl, by kernel_rfl, by kernel_rfl⟩
theorem ok270 : FnOK Go.Proofs.Tryz.prog 270 ir270 := ⟨_, _, Go.Proofs.Tryz.func270, by kernel_rfl, rfl, by kernel_rfl, by kernel_rfl⟩
theorem ok271 : FnOK Go.Proofs.Tryz.prog 271 ir271 := ⟨_, _, Go.Proofs.Tryz.func271, by kernel_rfl, rfl, by kernel_rfl, by kernel_rfl⟩
theorem ok272 : FnOK Go.Proofs.Tryz.prog 272 ir272 := ⟨_, _, Go.Proofs.Tryz.func272, by kernel_rfl, rfl, by kernel_rfl, by kernel_rfl⟩
theorem ok273 : FnOK Go.Proofs.Tryz.prog 273 ir273 := ⟨_, _, Go.Proofs.Tryz.func273, by kernel_rfl, rfl, by kernel_rfl, by kernel_rfl⟩
theorem ok274 : FnOK Go.Proofs.Tryz.prog 274 ir274 := ⟨_, _, Go.Proofs.Tryz.func274, by kernel_rfl, rfl, by kernel_rfl, by kernel_rfl⟩
theorem ok275 : FnOK Go.Proofs.Tryz.prog 275 ir275 := ⟨_, _, Go.Proofs.Tryz.func275, by kernel_rfl, rfl, by kernel_rfl, by kernel_rfl⟩
theorem ok276 : FnOK Go.Proofs.Tryz.prog 276 ir276 := ⟨_, _, Go.Proofs.Tryz.func276, by kernel_rfl, rfl, by kernel_rfl, by kernel_rfl⟩
theorem ok277 : FnOK Go.Proofs.Tryz.prog 277 ir277 := ⟨_, _, Go.Proofs.Tryz.func277, by kernel_rfl, rfl, by kernel_rfl, by kernel_rfl⟩
theorem ok278 : FnOK Go.Proofs.Tryz.prog 278 ir278 := ⟨_, _, Go.Proofs.Tryz.func278, by kernel_rfl, rfl, by kernel_rfl, by kernel_rfl⟩
theorem ok279 : FnOK Go.Proofs.Tryz.prog 279 ir279 := ⟨_, _, Go.Proofs.Tryz.func279, by kernel_rfl, rfl, by kernel_rfl, by kernel_rfl⟩
theorem ok280 : FnOK Go.Proofs.Tryz.prog 280 ir280 := ⟨_, _, Go.Proofs.Tryz.func280, by kernel_rfl, rfl, by kernel_rfl, by kernel_rfl⟩
theorem ok281 : FnOK Go.Proofs.Tryz.prog 281 ir281 := ⟨_, _, Go.Proofs.Tryz.func281, by kernel_rfl, rfl, by kernel_rfl, by kernel_rfl⟩
theorem ok282 : FnOK Go.Proofs.Tryz.prog 282 ir282 := ⟨_, _, Go.Proofs.Tryz.func282, by kernel_rfl, rfl, by kernel_rfl, by kernel_rfl⟩
theorem ok283 : FnOK Go.Proofs.Tryz.prog 283 ir283 := ⟨_, _, Go.Proofs.Tryz.func283, by kernel_rfl, rfl, by kernel_rfl, by kernel_rfl⟩
theorem ok284 : FnOK Go.Proofs.Tryz.prog 284 ir284 := ⟨_, _, Go.Proofs.Tryz.func284, by kernel_rfl, rfl, by kernel_rfl, by kernel_rfl⟩
theorem ok285 : FnOK Go.Proofs.Tryz.prog 285 ir285 := ⟨_, _, Go.Proofs.Tryz.func285, by kernel_rfl, rfl, by kernel_rfl, by kernel_rfl⟩
theorem ok286 : FnOK Go.Proofs.Tryz.prog 286 ir286 := ⟨_, _, Go.Proofs.Tryz.func286, by kernel_rfl, rfl, by kernel_rfl, by kernel_rfl⟩
theorem ok298 : FnOK Go.Proofs.Tryz.prog 298 ir298 := ⟨_, _, Go.Proofs.Tryz.func298, by kernel_rfl, rfl, by kernel_rfl, by kernel_rfl⟩
theorem ok299 : FnOK Go.Proofs.Tryz.prog 299 ir299 := ⟨_, _, Go.Proofs.Tryz.func299, by kernel_rfl, rfl, by kernel_rfl, by kernel_rfl⟩
theorem ok300 : FnOK Go.Proofs.Tryz.prog 300 ir300 := ⟨_, _, Go.Proofs.Tryz.func300, by kernel_rfl, rfl, by kernel_rfl, by kernel_rfl⟩
theorem ok301 : FnOK Go.Proofs.Tryz.prog 301 ir301 := ⟨_, _, Go.Proofs.Tryz.func301, by kernel_rfl, rfl, by kernel_rfl, by kernel_rfl⟩
theorem ok302 : FnOK Go.Proofs.Tryz.prog 302 ir302 := ⟨_, _, Go.Proofs.Tryz.func302, by kernel_rfl, rfl, by kernel_rfl, by kernel_rfl⟩
theorem ok303 : FnOK Go.Proofs.Tryz.prog 303 ir303 := ⟨_, _, Go.Proofs.Tryz.func303, by kernel_rfl, rfl, by kernel_rfl, by kernel_rfl⟩
theorem ok304 : FnOK Go.Proofs.Tryz.prog 304 ir304 := ⟨_, _, Go.Proofs.Tryz.func304, by kernel_rfl, rfl, by kernel_rfl, by kernel_rfl⟩
theorem ok305 : FnOK Go.Proofs.Tryz.prog 305 ir305 := ⟨_, _, Go.Proofs.Tryz.func305, by kernel_rfl, rfl, by kernel_rfl, by kernel_rfl⟩
theorem ok306 : FnOK Go.Proofs.Tryz.prog 306 ir306 := ⟨_, _, Go.Proofs.Tryz.func306, by kernel_rfl, rfl, by kernel_rfl, by kernel_rfl⟩
theorem ok307 : FnOK Go.Proofs.Tryz.prog 307 ir307 := ⟨_, _, Go.Proofs.Tryz.func307, by kernel_rfl, rfl, by kernel_rfl, by kernel_rfl⟩
theorem ok308 : FnOK Go.Proofs.Tryz.prog 308 ir308 := ⟨_, _, Go.Proofs.Tryz.func308, by kernel_rfl, rfl, by kernel_rfl, by kernel_rfl⟩
theorem ok309 : FnOK Go.Proofs.Tryz.prog 309 ir309 := ⟨_, _, Go.Proofs.Tryz.func309, by kernel_rfl, rfl, by kernel_rfl, by kernel_rfl⟩
theorem ok310 : FnOK Go.Proofs.Tryz.prog 310 ir310 := ⟨_, _, Go.Proofs.Tryz.func310, by kernel_rfl, rfl, by kernel_rfl, by kernel_rfl⟩
theorem ok311 : FnOK Go.Proofs.Tryz.prog 311 ir311 := ⟨_, _, Go.Proofs.Tryz.func311, by kernel_rfl, rfl, by kernel_rfl, by kernel_rfl⟩
theorem ok312 : FnOK Go.Proofs.Tryz.prog 312 ir312 := ⟨_, _, Go.Proofs.Tryz.func312, by kernel_rfl, rfl, by kernel_rfl, by kernel_rfl⟩
theorem ok313 : FnOK Go.Proofs.Tryz.prog 313 ir313 := ⟨_, _, Go.Proofs.Tryz.func313, by kernel_rfl, rfl, by kernel_rfl, by kernel_rfl⟩
theorem ok314 : FnOK Go.Proofs.Tryz.prog 314 ir314 := ⟨_, _, Go.Proofs.Tryz.func314, by kernel_rfl, rfl, by kernel_rfl, by kernel_rfl⟩
theorem ok329 : FnOK Go.Proofs.Tryz.prog 329 ir329 := ⟨_, _, Go.Proofs.Tryz.func329, by kernel_rfl, rfl, by kernel_rfl, by kernel_rfl⟩
theorem ok330 : FnOK Go.Proofs.Tryz.prog 330 ir330 := ⟨_, _, Go.Proofs.Tryz.func330, by kernel_rfl, rfl, by kernel_rfl, by kernel_rfl⟩
theorem ok331 : FnOK Go.Proofs.Tryz.prog 331 ir331 := ⟨_, _, Go.Proofs.Tryz.func331, by kernel_rfl, rfl, by kernel_rfl, by kernel_rfl⟩
theorem ok332 : FnOK Go.Proofs.Tryz.prog 332 ir332 := ⟨_, _, Go.Proofs.Tryz.func332, by kernel_rfl, rfl, by kernel_rfl, by kernel_rfl⟩
theorem ok333 : FnOK Go.Proofs.Tryz.prog 333 ir333 := ⟨_, _, Go.Proofs.Tryz.func333, by kernel_rfl, rfl, by kernel_rfl, by kernel_rfl⟩
theorem ok334 : FnOK Go.Proofs.Tryz.prog 334 ir334 := ⟨_, _, Go.Proofs.Tryz.func334, by kernel_rfl, rfl, by kernel_rfl, by kernel_rfl⟩
theorem ok335 : FnOK Go.Proofs.Tryz.prog 335 ir335 := ⟨_, _, Go.Proofs.Tryz.func335, by kernel_rfl, rfl, by kernel_rfl, by kernel_rfl⟩
theorem ok336 : FnOK Go.Proofs.Tryz.prog 336 ir336 := ⟨_, _, Go.Proofs.Tryz.func336, by kernel_rfl, rfl, by kernel_rfl, by kernel_rfl⟩
theorem ok337 : FnOK Go.Proofs.Tryz.prog 337 ir337 := ⟨_, _, Go.Proofs.Tryz.func337, by kernel_rfl, rfl, by kernel_rfl, by kernel_rfl⟩
theorem ok338 : FnOK Go.Proofs.Tryz.prog 338 ir338 := ⟨_, _, Go.Proofs.Tryz.func338, by kernel_rfl, rfl, by kernel_rfl, by kernel_rfl⟩
theorem ok339 : FnOK Go.Proofs.Tryz.prog 339 ir339 := ⟨_, _, Go.Proofs.Tryz.func339, by kernel_rfl, rfl, by kernel_rfl, by kernel_rfl⟩
theorem ok340 : FnOK Go.Proofs.Tryz.prog 340 ir340 := ⟨_, _, Go.Proofs.Tryz.func340, by kernel_rfl, rfl, by kernel_rfl, by kernel_rfl⟩
theorem ok341 : FnOK Go.Proofs.Tryz.prog 341 ir341 := ⟨_, _, Go.Proofs.Tryz.func341, by kernel_rfl, rfl, by kernel_rfl, by kernel_rfl⟩
theorem ok342 : FnOK Go.Proofs.Tryz.prog 342 ir342 := ⟨_, _, Go.Proofs.Tryz.func342, by kernel_rfl, rfl, by kernel_rfl, by kernel_rfl⟩
theorem ok343 : FnOK Go.Proofs.Tryz.prog 343 ir343 := ⟨_, _, Go.Proofs.Tryz.func343, by kernel_rfl, rfl, by kernel_rfl, by kernel_rfl⟩
theorem ok344 : FnOK Go.Proofs.Tryz.prog 344 ir344 := ⟨_, _, Go.Proofs.Tryz.func344, by kernel_rfl, rfl, by kernel_rfl, by kernel_rfl⟩
theorem ok345 : FnOK Go.Proofs.Tryz.prog 345 ir345 := ⟨_, _, Go.Proofs.Tryz.func345, by kernel_rfl, rfl, by kernel_rfl, by kernel_rfl⟩
theorem ok346 : FnOK Go.Proofs.Tryz.prog 346 ir346 := ⟨_, _, Go.Proofs.Tryz.func346, by kernel_rfl, rfl, by kernel_rfl, by kernel_rfl⟩
theorem ok347 : FnOK Go.Proofs.Tryz.prog 347 ir347 := ⟨_, _, Go.Proofs.Tryz.func347, by kernel_rfl, rfl, by kernel_rfl, by kernel_rfl⟩
theorem ok354 : FnOK Go.Proofs.Tryz.prog 354 ir354 := ⟨_, _, Go.Proofs.Tryz.func354, by kernel_rfl, rfl, by kernel_rfl, by kernel_rfl⟩
theorem ok355 : FnOK Go.Proofs.Tryz.prog 355 ir355 := ⟨_, _, Go.Proofs.Tryz.func355, by kernel_rfl, rfl, by kernel_rfl, by kernel_rfl⟩
theorem ok : ∀ p ∈ tab, FnOK Go.Proofs.Tryz.prog p.1 p.2 := by
  unfold tab
  exact all_cons ok3 (all_cons ok5 (all_cons ok11 (all_cons ok12 (all_cons ok13 (all_cons ok14 (all_cons ok15 (all_cons ok16 (all_cons ok19 (all_cons ok20 (all_cons ok21 (all_cons ok22 (all_cons ok23 (all_cons ok24 (all_cons ok25 (all_cons ok26 (all_cons ok27 (all_cons ok28 (all_cons ok29 (all_cons ok30 (all_cons ok31 (all_cons ok32 (all_cons ok56 (all_cons ok57 (all_cons ok58 (all_cons ok59 (all_cons ok60 (all_cons ok61 (all_cons ok62 (all_cons ok63 (all_cons ok64 (all_cons ok65 (all_cons ok66 (all_cons ok67 (all_cons ok68 (all_cons ok69 (all_cons ok70 (all_cons ok71 (all_cons ok72 (all_cons ok73 (all_cons ok74 (all_cons ok78 (all_cons ok79 (all_cons ok80 (all_cons ok81 (all_cons ok82 (all_cons ok83 (all_cons ok84 (all_cons ok85 (all_cons ok86 (all_cons ok87 (all_cons ok88 (all_cons ok89 (all_cons ok90 (all_cons ok91 (all_cons ok92 (all_cons ok93 (all_cons ok118 (all_cons ok136 (all_cons ok138 (all_cons ok139 (all_cons ok141 (all_cons ok142 (all_cons ok143 (all_cons ok144 (all_cons ok145 (all_cons ok146 (all_cons ok147 (all_cons ok148 (all_cons ok149 (all_cons ok150 (all_cons ok151 (all_cons ok152 (all_cons ok153 (all_cons ok154 (all_cons ok155 (all_cons ok156 (all_cons ok157 (all_cons ok158 (all_cons ok159 (all_cons ok160 (all_cons ok161 (all_cons ok162 (all_cons ok163 (all_cons ok164 (all_cons ok165 (all_cons ok166 (all_cons ok167 (all_cons ok168 (all_cons ok169 (all_cons ok171 (all_cons ok172 (all_cons ok173 (all_cons ok174 (all_cons ok193 (all_cons ok198 (all_cons ok201 (all_cons ok213 (all_cons ok219 (all_cons ok220 (all_cons ok221 (all_cons ok222 (all_cons ok223 (all_cons ok224 (all_cons ok225 (all_cons ok226 (all_cons ok227 (all_cons ok228 (all_cons ok229 (all_cons ok230 (all_cons ok231 (all_cons ok232 (all_cons ok233 (all_cons ok234 (all_cons ok235 (all_cons ok236 (all_cons ok237 (all_cons ok238 (all_cons ok244 (all_cons ok256 (all_cons ok258 (all_cons ok262 (all_cons ok266 (all_cons ok267 (all_cons ok268 (all_cons ok269 (all_cons ok270 (all_cons ok271 (all_cons ok272 (all_cons ok273 (all_cons ok274 (all_cons ok275 (all_cons ok276 (all_cons ok277 (all_cons ok278 (all_cons ok279 (all_cons ok280 (all_cons ok281 (all_cons ok282 (all_cons ok283 (all_cons ok284 (all_cons ok285 (all_cons ok286 (all_cons ok298 (all_cons ok299 (all_cons ok300 (all_cons ok301 (all_cons ok302 (all_cons ok303 (all_cons ok304 (all_cons ok305 (all_cons ok306 (all_cons ok307 (all_cons ok308 (all_cons ok309 (all_cons ok310 (all_cons ok311 (all_cons ok312 (all_cons ok313 (all_cons ok314 (all_cons ok329 (all_cons ok330 (all_cons ok331 (all_cons ok332 (all_cons ok333 (all_cons ok334 (all_cons ok335 (all_cons ok336 (all_cons ok337 (all_cons ok338 (all_cons ok339 (all_cons ok340 (all_cons ok341 (all_cons ok342 (all_cons ok343 (all_cons ok344 (all_cons ok345 (all_cons ok346 (all_cons ok347 (all_cons ok354 (all_cons ok355 (all_nil)))))))))))))))))))))))))))))))))))))))))))))))))))))))))))))))))))))))))))))))))))))))))))))))))))))))))))))))))))))))))))))))))))))))))))))))))))))))))))))))))))))))))))))))))))))
theorem envOK0 : EnvOK Go.Proofs.Tryz.prog EE0 where
  mix := by kernel_rfl
  still := fun _ _ _ _ => trivial
  fns f fn h := fnOK_find ok h
  prims f g h := by cases h
theorem awk : ∀ f ∈ sayK, clD EE0 (.p (.fn f)) [] [] = some (.p (.bool true), none) := by
  intro f hf
  simp only [sayK, List.mem_cons, List.not_mem_nil, or_false] at hf
  subst hf
  · exact awk12
theorem envOK : EnvOK Go.Proofs.Tryz.prog EE where
  mix := by kernel_rfl
  still := fun _ _ _ _ => trivial
  fns f fn h := fnOK_find ok h
  prims f g h := by
    have h0 : (if f ∈ sayK then some sayP else EE0.prims f) = some g := h
    split at h0
    · rename_i e; cases h0
      exact fun vs H r hr G own w args _ ha _ hw _ => say_prim envOK0 (awk f e) hr ha hw
    · exact envOK0.prims f g h0
end Go.EnvOf
