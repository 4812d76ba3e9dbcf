/- The functions of the table are the program's. -/
import Derived.Test.YtddnebpblclpfaaGreatProg
import Derived.Test.YtddnebpblclpfaaGreatEngAll7
import Derived.Test.YtddnebpblclpfaaGreatEngAll8
import Derived.Test.YtddnebpblclpfaaGreatAwk
namespace Go.EnvOf
open Go Go.Eng
set_option maxRecDepth 100000
theorem ok7 : FnOK Go.Proofs.Tryz.prog 7 ir7 := ⟨_, _, Go.Proofs.Tryz.func7, by kernel_rfl, rfl, by kernel_rfl, by kernel_rfl⟩
theorem ok11 : FnOK Go.Proofs.Tryz.prog 11 ir11 := ⟨_, _, Go.Proofs.Tryz.func11, by kernel_rfl, rfl, by kernel_rfl, by kernel_rfl⟩
theorem ok13 : FnOK Go.Proofs.Tryz.prog 13 ir13 := ⟨_, _, Go.Proofs.Tryz.func13, by kernel_rfl, rfl, by kernel_rfl, by kernel_rfl⟩
theorem ok14 : FnOK Go.Proofs.Tryz.prog 14 ir14 := ⟨_, _, Go.Proofs.Tryz.func14, by kernel_rfl, rfl, by kernel_rfl, by kernel_rfl⟩
theorem ok15 : FnOK Go.Proofs.Tryz.prog 15 ir15 := ⟨_, _, Go.Proofs.Tryz.func15, by kernel_rfl, rfl, by kernel_rfl, by kernel_rfl⟩
theorem ok19 : FnOK Go.Proofs.Tryz.prog 19 ir19 := ⟨_, _, Go.Proofs.Tryz.func19, by kernel_rfl, rfl, by kernel_rfl, by kernel_rfl⟩
theorem ok22 : FnOK Go.Proofs.Tryz.prog 22 ir22 := ⟨_, _, Go.Proofs.Tryz.func22, by kernel_rfl, rfl, by kernel_rfl, by kernel_rfl⟩
theorem ok23 : FnOK Go.Proofs.Tryz.prog 23 ir23 := ⟨_, _, Go.Proofs.Tryz.func23, by kernel_rfl, rfl, by kernel_rfl, by kernel_rfl⟩
theorem ok25 : FnOK Go.Proofs.Tryz.prog 25 ir25 := ⟨_, _, Go.Proofs.Tryz.func25, by kernel_rfl, rfl, by kernel_rfl, by kernel_rfl⟩
theorem ok26 : FnOK Go.Proofs.Tryz.prog 26 ir26 := ⟨_, _, Go.Proofs.Tryz.func26, by kernel_rfl, rfl, by kernel_rfl, by kernel_rfl⟩
theorem ok27 : FnOK Go.Proofs.Tryz.prog 27 ir27 := ⟨_, _, Go.Proofs.Tryz.func27, by kernel_rfl, rfl, by kernel_rfl, by kernel_rfl⟩
theorem ok30 : FnOK Go.Proofs.Tryz.prog 30 ir30 := ⟨_, _, Go.Proofs.Tryz.func30, by kernel_rfl, rfl, by kernel_rfl, by kernel_rfl⟩
theorem ok31 : FnOK Go.Proofs.Tryz.prog 31 ir31 := ⟨_, _, Go.Proofs.Tryz.func31, by kernel_rfl, rfl, by kernel_rfl, by kernel_rfl⟩
theorem ok32 : FnOK Go.Proofs.Tryz.prog 32 ir32 := ⟨_, _, Go.Proofs.Tryz.func32, by kernel_rfl, rfl, by kernel_rfl, by kernel_rfl⟩
theorem ok39 : FnOK Go.Proofs.Tryz.prog 39 ir39 := ⟨_, _, Go.Proofs.Tryz.func39, by kernel_rfl, rfl, by kernel_rfl, by kernel_rfl⟩
theorem ok40 : FnOK Go.Proofs.Tryz.prog 40 ir40 := ⟨_, _, Go.Proofs.Tryz.func40, by kernel_rfl, rfl, by kernel_rfl, by kernel_rfl⟩
theorem ok41 : FnOK Go.Proofs.Tryz.prog 41 ir41 := ⟨_, _, Go.Proofs.Tryz.func41, by kernel_rfl, rfl, by kernel_rfl, by kernel_rfl⟩
theorem ok42 : FnOK Go.Proofs.Tryz.prog 42 ir42 := ⟨_, _, Go.Proofs.Tryz.func42, by kernel_rfl, rfl, by kernel_rfl, by kernel_rfl⟩
theorem ok56 : FnOK Go.Proofs.Tryz.prog 56 ir56 := ⟨_, _, Go.Proofs.Tryz.func56, by kernel_rfl, rfl, by kernel_rfl, by kernel_rfl⟩
theorem ok57 : FnOK Go.Proofs.Tryz.prog 57 ir57 := ⟨_, _, Go.Proofs.Tryz.func57, by kernel_rfl, rfl, by kernel_rfl, by kernel_rfl⟩
theorem ok58 : FnOK Go.Proofs.Tryz.prog 58 ir58 := ⟨_, _, Go.Proofs.Tryz.func58, by kernel_rfl, rfl, by kernel_rfl, by kernel_rfl⟩
theorem ok59 : FnOK Go.Proofs.Tryz.prog 59 ir59 := ⟨_, _, Go.Proofs.Tryz.func59, by kernel_rfl, rfl, by kernel_rfl, by kernel_rfl⟩
theorem ok60 : FnOK Go.Proofs.Tryz.prog 60 ir60 := ⟨_, _, Go.Proofs.Tryz.func60, by kernel_rfl, rfl, by kernel_rfl, by kernel_rfl⟩
theorem ok61 : FnOK Go.Proofs.Tryz.prog 61 ir61 := ⟨_, _, Go.Proofs.Tryz.func61, by kernel_rfl, rfl, by kernel_rfl, by kernel_rfl⟩
theorem ok62 : FnOK Go.Proofs.Tryz.prog 62 ir62 := ⟨_, _, Go.Proofs.Tryz.func62, by kernel_rfl, rfl, by kernel_rfl, by kernel_rfl⟩
theorem ok63 : FnOK Go.Proofs.Tryz.prog 63 ir63 := ⟨_, _, Go.Proofs.Tryz.func63, by kernel_rfl, rfl, by kernel_rfl, by kernel_rfl⟩
theorem ok64 : FnOK Go.Proofs.Tryz.prog 64 ir64 := ⟨_, _, Go.Proofs.Tryz.func64, by kernel_rfl, rfl, by kernel_rfl, by kernel_rfl⟩
theorem ok65 : FnOK Go.Proofs.Tryz.prog 65 ir65 := ⟨_, _, Go.Proofs.Tryz.func65, by kernel_rfl, rfl, by kernel_rfl, by kernel_rfl⟩
theorem ok66 : FnOK Go.Proofs.Tryz.prog 66 ir66 := ⟨_, _, Go.Proofs.Tryz.func66, by kernel_rfl, rfl, by kernel_rfl, by kernel_rfl⟩
theorem ok67 : FnOK Go.Proofs.Tryz.prog 67 ir67 := ⟨_, _, Go.Proofs.Tryz.func67, by kernel_rfl, rfl, by kernel_rfl, by kernel_rfl⟩
theorem ok68 : FnOK Go.Proofs.Tryz.prog 68 ir68 := ⟨_, _, Go.Proofs.Tryz.func68, by kernel_rfl, rfl, by kernel_rfl, by kernel_rfl⟩
theorem ok78 : FnOK Go.Proofs.Tryz.prog 78 ir78 := ⟨_, _, Go.Proofs.Tryz.func78, by kernel_rfl, rfl, by kernel_rfl, by kernel_rfl⟩
theorem ok79 : FnOK Go.Proofs.Tryz.prog 79 ir79 := ⟨_, _, Go.Proofs.Tryz.func79, by kernel_rfl, rfl, by kernel_rfl, by kernel_rfl⟩
theorem ok80 : FnOK Go.Proofs.Tryz.prog 80 ir80 := ⟨_, _, Go.Proofs.Tryz.func80, by kernel_rfl, rfl, by kernel_rfl, by kernel_rfl⟩
theorem ok82 : FnOK Go.Proofs.Tryz.prog 82 ir82 := ⟨_, _, Go.Proofs.Tryz.func82, by kernel_rfl, rfl, by kernel_rfl, by kernel_rfl⟩
theorem ok83 : FnOK Go.Proofs.Tryz.prog 83 ir83 := ⟨_, _, Go.Proofs.Tryz.func83, by kernel_rfl, rfl, by kernel_rfl, by kernel_rfl⟩
theorem ok84 : FnOK Go.Proofs.Tryz.prog 84 ir84 := ⟨_, _, Go.Proofs.Tryz.func84, by kernel_rfl, rfl, by kernel_rfl, by kernel_rfl⟩
theorem ok85 : FnOK Go.Proofs.Tryz.prog 85 ir85 := ⟨_, _, Go.Proofs.Tryz.func85, by kernel_rfl, rfl, by kernel_rfl, by kernel_rfl⟩
theorem ok86 : FnOK Go.Proofs.Tryz.prog 86 ir86 := ⟨_, _, Go.Proofs.Tryz.func86, by kernel_rfl, rfl, by kernel_rfl, by kernel_rfl⟩
theorem ok88 : FnOK Go.Proofs.Tryz.prog 88 ir88 := ⟨_, _, Go.Proofs.Tryz.func88, by kernel_rfl, rfl, by kernel_rfl, by kernel_rfl⟩
theorem ok89 : FnOK Go.Proofs.Tryz.prog 89 ir89 := ⟨_, _, Go.Proofs.Tryz.func89, by kernel_rfl, rfl, by kernel_rfl, by kernel_rfl⟩
theorem ok90 : FnOK Go.Proofs.Tryz.prog 90 ir90 := ⟨_, _, Go.Proofs.Tryz.func90, by kernel_rfl, rfl, by kernel_rfl, by kernel_rfl⟩
theorem ok91 : FnOK Go.Proofs.Tryz.prog 91 ir91 := ⟨_, _, Go.Proofs.Tryz.func91, by kernel_rfl, rfl, by kernel_rfl, by kernel_rfl⟩
theorem ok92 : FnOK Go.Proofs.Tryz.prog 92 ir92 := ⟨_, _, Go.Proofs.Tryz.func92, by kernel_rfl, rfl, by kernel_rfl, by kernel_rfl⟩
theorem ok93 : FnOK Go.Proofs.Tryz.prog 93 ir93 := ⟨_, _, Go.Proofs.Tryz.func93, by kernel_rfl, rfl, by kernel_rfl, by kernel_rfl⟩
theorem ok98 : FnOK Go.Proofs.Tryz.prog 98 ir98 := ⟨_, _, Go.Proofs.Tryz.func98, by kernel_rfl, rfl, by kernel_rfl, by kernel_rfl⟩
theorem ok109 : FnOK Go.Proofs.Tryz.prog 109 ir109 := ⟨_, _, Go.Proofs.Tryz.func109, by kernel_rfl, rfl, by kernel_rfl, by kernel_rfl⟩
theorem ok110 : FnOK Go.Proofs.Tryz.prog 110 ir110 := ⟨_, _, Go.Proofs.Tryz.func110, by kernel_rfl, rfl, by kernel_rfl, by kernel_rfl⟩
theorem ok111 : FnOK Go.Proofs.Tryz.prog 111 ir111 := ⟨_, _, Go.Proofs.Tryz.func111, by kernel_rfl, rfl, by kernel_rfl, by kernel_rfl⟩
theorem ok112 : FnOK Go.Proofs.Tryz.prog 112 ir112 := ⟨_, _, Go.Proofs.Tryz.func112, by kernel_rfl, rfl, by kernel_rfl, by kernel_rfl⟩
theorem ok113 : FnOK Go.Proofs.Tryz.prog 113 ir113 := ⟨_, _, Go.Proofs.Tryz.func113, by kernel_rfl, rfl, by kernel_rfl, by kernel_rfl⟩
theorem ok114 : FnOK Go.Proofs.Tryz.prog 114 ir114 := ⟨_, _, Go.Proofs.Tryz.func114, by kernel_rfl, rfl, by kernel_rfl, by kernel_rfl⟩
theorem ok115 : FnOK Go.Proofs.Tryz.prog 115 ir115 := ⟨_, _, Go.Proofs.Tryz.func115, by kernel_rfl, rfl, by kernel_rfl, by kernel_rfl⟩
theorem ok116 : FnOK Go.Proofs.Tryz.prog 116 ir116 := ⟨_, _, Go.Proofs.Tryz.func116, by kernel_rfl, rfl, by kernel_rfl, by kernel_rfl⟩
theorem ok117 : FnOK Go.Proofs.Tryz.prog 117 ir117 := ⟨_, _, Go.Proofs.Tryz.func117, by kernel_rfl, rfl, by kernel_rfl, by kernel_rfl⟩
theorem ok118 : FnOK Go.Proofs.Tryz.prog 118 ir118 := ⟨_, _, Go.Proofs.Tryz.func118, by kernel_rfl, rfl, by kernel_rfl, by kernel_rfl⟩
theorem ok119 : FnOK Go.Proofs.Tryz.prog 119 ir119 := ⟨_, _, Go.Proofs.Tryz.func119, by kernel_rfl, rfl, by kernel_rfl, by kernel_rfl⟩
theorem ok120 : FnOK Go.Proofs.Tryz.prog 120 ir120 := ⟨_, _, Go.Proofs.Tryz.func120, by kernel_rfl, rfl, by kernel_rfl, by kernel_rfl⟩
theorem ok121 : FnOK Go.Proofs.Tryz.prog 121 ir121 := ⟨_, _, Go.Proofs.Tryz.func121, by kernel_rfl, rfl, by kernel_rfl, by kernel_rfl⟩
theorem ok122 : FnOK Go.Proofs.Tryz.prog 122 ir122 := ⟨_, _, Go.Proofs.Tryz.func122, by kernel_rfl, rfl, by kernel_rfl, by kernel_rfl⟩
theorem ok123 : FnOK Go.Proofs.Tryz.prog 123 ir123 := ⟨_, _, Go.Proofs.Tryz.func123, by kernel_rfl, rfl, by kernel_rfl, by kernel_rfl⟩
theorem ok128 : FnOK Go.Proofs.Tryz.prog 128 ir128 := ⟨_, _, Go.Proofs.Tryz.func128, by kernel_rfl, rfl, by kernel_rfl, by kernel_rfl⟩
theorem ok142 : FnOK Go.Proofs.Tryz.prog 142 ir142 := ⟨_, _, Go.Proofs.Tryz.func142, by kernel_rfl, rfl, by kernel_rfl, by kernel_rfl⟩
theorem ok143 : FnOK Go.Proofs.Tryz.prog 143 ir143 := ⟨_, _, Go.Proofs.Tryz.func143, by kernel_rfl, rfl, by kernel_rfl, by kernel_rfl⟩
theorem ok144 : FnOK Go.Proofs.Tryz.prog 144 ir144 := ⟨_, _, Go.Proofs.Tryz.func144, by kernel_rfl, rfl, by kernel_rfl, by kernel_rfl⟩
theorem ok145 : FnOK Go.Proofs.Tryz.prog 145 ir145 := ⟨_, _, Go.Proofs.Tryz.func145, by kernel_rfl, rfl, by kernel_rfl, by kernel_rfl⟩
theorem ok146 : FnOK Go.Proofs.Tryz.prog 146 ir146 := ⟨_, _, Go.Proofs.Tryz.func146, by kernel_rfl, rfl, by kernel_rfl, by kernel_rfl⟩
theorem ok147 : FnOK Go.Proofs.Tryz.prog 147 ir147 := ⟨_, _, Go.Proofs.Tryz.func147, by kernel_rfl, rfl, by kernel_rfl, by kernel_rfl⟩
theorem ok148 : FnOK Go.Proofs.Tryz.prog 148 ir148 := ⟨_, _, Go.Proofs.Tryz.func148, by kernel_rfl, rfl, by kernel_rfl, by kernel_rfl⟩
theorem ok149 : FnOK Go.Proofs.Tryz.prog 149 ir149 := ⟨_, _, Go.Proofs.Tryz.func149, by kernel_rfl, rfl, by kernel_rfl, by kernel_rfl⟩
theorem ok150 : FnOK Go.Proofs.Tryz.prog 150 ir150 := ⟨_, _, Go.Proofs.Tryz.func150, by kernel_rfl, rfl, by kernel_rfl, by kernel_rfl⟩
theorem ok151 : FnOK Go.Proofs.Tryz.prog 151 ir151 := ⟨_, _, Go.Proofs.Tryz.func151, by kernel_rfl, rfl, by kernel_rfl, by kernel_rfl⟩
theorem ok152 : FnOK Go.Proofs.Tryz.prog 152 ir152 := ⟨_, _, Go.Proofs.Tryz.func152, by kernel_rfl, rfl, by kernel_rfl, by kernel_rfl⟩
theorem ok153 : FnOK Go.Proofs.Tryz.prog 153 ir153 := ⟨_, _, Go.Proofs.Tryz.func153, by kernel_rfl, rfl, by kernel_rfl, by kernel_rfl⟩
theorem ok154 : FnOK Go.Proofs.Tryz.prog 154 ir154 := ⟨_, _, Go.Proofs.Tryz.func154, by kernel_rfl, rfl, by kernel_rfl, by kernel_rfl⟩
theorem ok155 : FnOK Go.Proofs.Tryz.prog 155 ir155 := ⟨_, _, Go.Proofs.Tryz.func155, by kernel_rfl, rfl, by kernel_rfl, by kernel_rfl⟩
theorem ok156 : FnOK Go.Proofs.Tryz.prog 156 ir156 := ⟨_, _, Go.Proofs.Tryz.func156, by kernel_rfl, rfl, by kernel_rfl, by kernel_rfl⟩
theorem ok157 : FnOK Go.Proofs.Tryz.prog 157 ir157 := ⟨_, _, Go.Proofs.Tryz.func157, by kernel_rfl, rfl, by kernel_rfl, by kernel_rfl⟩
theorem ok158 : FnOK Go.Proofs.Tryz.prog 158 ir158 := ⟨_, _, Go.Proofs.Tryz.func158, by kernel_rfl, rfl, by kernel_rfl, by kernel_rfl⟩
theorem ok159 : FnOK Go.Proofs.Tryz.prog 159 ir159 := ⟨_, _, Go.Proofs.Tryz.func159, by kernel_rfl, rfl, by kernel_rfl, by kernel_rfl⟩
theorem ok160 : FnOK Go.Proofs.Tryz.prog 160 ir160 := ⟨_, _, Go.Proofs.Tryz.func160, by kernel_rfl, rfl, by kernel_rfl, by kernel_rfl⟩
theorem ok161 : FnOK Go.Proofs.Tryz.prog 161 ir161 := ⟨_, _, Go.Proofs.Tryz.func161, by kernel_rfl, rfl, by kernel_rfl, by kernel_rfl⟩
theorem ok162 : FnOK Go.Proofs.Tryz.prog 162 ir162 := ⟨_, _, Go.Proofs.Tryz.func162, by kernel_rfl, rfl, by kernel_rfl, by kernel_rfl⟩
theorem ok163 : FnOK Go.Proofs.Tryz.prog 163 ir163 := ⟨_, _, Go.Proofs.Tryz.func163, by kernel_rfl, rfl, by kernel_rfl, by kernel_rfl⟩
theorem ok171 : FnOK Go.Proofs.Tryz.prog 171 ir171 := ⟨_, _, Go.Proofs.Tryz.func171, by kernel_rfl, rfl, by kernel_rfl, by kernel_rfl⟩
theorem ok172 : FnOK Go.Proofs.Tryz.prog 172 ir172 := ⟨_, _, Go.Proofs.Tryz.func172, by kernel_rfl, rfl, by kernel_rfl, by kernel_rfl⟩
theorem ok173 : FnOK Go.Proofs.Tryz.prog 173 ir173 := ⟨_, _, Go.Proofs.Tryz.func173, by kernel_rfl, rfl, by kernel_rfl, by kernel_rfl⟩
theorem ok174 : FnOK Go.Proofs.Tryz.prog 174 ir174 := ⟨_, _, Go.Proofs.Tryz.func174, by kernel_rfl, rfl, by kernel_rfl, by kernel_rfl⟩
theorem ok177 : FnOK Go.Proofs.Tryz.prog 177 ir177 := ⟨_, _, Go.Proofs.Tryz.func177, by kernel_rfl, rfl, by kernel_rfl, by kernel_rfl⟩
theorem ok178 : FnOK Go.Proofs.Tryz.prog 178 ir178 := ⟨_, _, Go.Proofs.Tryz.func178, by kernel_rfl, rfl, by kernel_rfl, by kernel_rfl⟩
theorem ok192 : FnOK Go.Proofs.Tryz.prog 192 ir192 := ⟨_, _, Go.Proofs.Tryz.func192, by kernel_rfl, rfl, by kernel_rfl, by kernel_rfl⟩
theorem ok193 : FnOK Go.Proofs.Tryz.prog 193 ir193 := ⟨_, _, Go.Proofs.Tryz.func193, by kernel_rfl, rfl, by kernel_rfl, by kernel_rfl⟩
theorem ok194 : FnOK Go.Proofs.Tryz.prog 194 ir194 := ⟨_, _, Go.Proofs.Tryz.func194, by kernel_rfl, rfl, by kernel_rfl, by kernel_rfl⟩
theorem ok195 : FnOK Go.Proofs.Tryz.prog 195 ir195 := ⟨_, _, Go.Proofs.Tryz.func195, by kernel_rfl, rfl, by kernel_rfl, by kernel_rfl⟩
theorem ok196 : FnOK Go.Proofs.Tryz.prog 196 ir196 := ⟨_, _, Go.Proofs.Tryz.func196, by kernel_rfl, rfl, by kernel_rfl, by kernel_rfl⟩
theorem ok197 : FnOK Go.Proofs.Tryz.prog 197 ir197 := ⟨_, _, Go.Proofs.Tryz.func197, by kernel_rfl, rfl, by kernel_rfl, by kernel_rfl⟩
theorem ok198 : FnOK Go.Proofs.Tryz.prog 198 ir198 := ⟨_, _, Go.Proofs.Tryz.func198, by kernel_rfl, rfl, by kernel_rfl, by kernel_rfl⟩
theorem ok199 : FnOK Go.Proofs.Tryz.prog 199 ir199 := ⟨_, _, Go.Proofs.Tryz.func199, by kernel_rfl, rfl, by kernel_rfl, by kernel_rfl⟩
theorem ok200 : FnOK Go.Proofs.Tryz.prog 200 ir200 := ⟨_, _, Go.Proofs.Tryz.func200, by kernel_rfl, rfl, by kernel_rfl, by kernel_rfl⟩
theorem ok201 : FnOK Go.Proofs.Tryz.prog 201 ir201 := ⟨_, _, Go.Proofs.Tryz.func201, by kernel_rfl, rfl, by kernel_rfl, by kernel_rfl⟩
theorem ok202 : FnOK Go.Proofs.Tryz.prog 202 ir202 := ⟨_, _, Go.Proofs.Tryz.func202, by kernel_rfl, rfl, by kernel_rfl, by kernel_rfl⟩
theorem ok203 : FnOK Go.Proofs.Tryz.prog 203 ir203 := ⟨_, _, Go.Proofs.Tryz.func203, by kernel_rfl, rfl, by kernel_rfl, by kernel_rfl⟩
theorem ok204 : FnOK Go.Proofs.Tryz.prog 204 ir204 := ⟨_, _, Go.Proofs.Tryz.func204, by kernel_rfl, rfl, by kernel_rfl, by kernel_rfl⟩
theorem ok205 : FnOK Go.Proofs.Tryz.prog 205 ir205 := ⟨_, _, Go.Proofs.Tryz.func205, by kernel_rfl, rfl, by kernel_rfl, by kernel_rfl⟩
theorem ok208 : FnOK Go.Proofs.Tryz.prog 208 ir208 := ⟨_, _, Go.Proofs.Tryz.func208, by kernel_rfl, rfl, by kernel_rfl, by kernel_rfl⟩
theorem ok209 : FnOK Go.Proofs.Tryz.prog 209 ir209 := ⟨_, _, Go.Proofs.Tryz.func209, by kernel_rfl, rfl, by kernel_rfl, by kernel_rfl⟩
theorem ok212 : FnOK Go.Proofs.Tryz.prog 212 ir212 := ⟨_, _, Go.Proofs.Tryz.func212, by kernel_rfl, rfl, by kernel_rfl, by kernel_rfl⟩
theorem ok221 : FnOK Go.Proofs.Tryz.prog 221 ir221 := ⟨_, _, Go.Proofs.Tryz.func221, by kernel_rfl, rfl, by kernel_rfl, by kernel_rfl⟩
theorem ok222 : FnOK Go.Proofs.Tryz.prog 222 ir222 := ⟨_, _, Go.Proofs.Tryz.func222, by kernel_rfl, rfl, by kernel_rfl, by kernel_rfl⟩
theorem ok223 : FnOK Go.Proofs.Tryz.prog 223 ir223 := ⟨_, _, Go.Proofs.Tryz.func223, by kernel_rfl, rfl, by kernel_rfl, by kernel_rfl⟩
theorem ok224 : FnOK Go.Proofs.Tryz.prog 224 ir224 := ⟨_, _, Go.Proofs.Tryz.func224, by kernel_rfl, rfl, by kernel_rfl, by kernel_rfl⟩
theorem ok225 : FnOK Go.Proofs.Tryz.prog 225 ir225 := ⟨_, _, Go.Proofs.Tryz.func225, by kernel_rfl, rfl, by kernel_rfl, by kernel_rfl⟩
theorem ok226 : FnOK Go.Proofs.Tryz.prog 226 ir226 := ⟨_, _, Go.Proofs.Tryz.func226, by kernel_rfl, rfl, by kernel_rfl, by kernel_rfl⟩
theorem ok227 : FnOK Go.Proofs.Tryz.prog 227 ir227 := ⟨_, _, Go.Proofs.Tryz.func227, by kernel_rfl, rfl, by kernel_rfl, by kernel_rfl⟩
theorem ok228 : FnOK Go.Proofs.Tryz.prog 228 ir228 := ⟨_, _, Go.Proofs.Tryz.func228, by kernel_rfl, rfl, by kernel_rfl, by kernel_rfl⟩
theorem ok229 : FnOK Go.Proofs.Tryz.prog 229 ir229 := ⟨_, _, Go.Proofs.Tryz.func229, by kernel_rfl, rfl, by kernel_rfl, by kernel_rfl⟩
theorem ok230 : FnOK Go.Proofs.Tryz.prog 230 ir230 := ⟨_, _, Go.Proofs.Tryz.func230, by kernel_rfl, rfl, by kernel_rfl, by kernel_rfl⟩
theorem ok231 : FnOK Go.Proofs.Tryz.prog 231 ir231 := ⟨_, _, Go.Proofs.Tryz.func231, by kernel_rfl, rfl, by kernel_rfl, by kernel_rfl⟩
theorem ok232 : FnOK Go.Proofs.Tryz.prog 232 ir232 := ⟨_, _, Go.Proofs.Tryz.func232, by kernel_rfl, rfl, by kernel_rfl, by kernel_rfl⟩
theorem ok233 : FnOK Go.Proofs.Tryz.prog 233 ir233 := ⟨_, _, Go.Proofs.Tryz.func233, by kernel_rfl, rfl, by kernel_rfl, by kernel_rfl⟩
theorem ok234 : FnOK Go.Proofs.Tryz.prog 234 ir234 := ⟨_, _, Go.Proofs.Tryz.func234, by kernel_rfl, rfl, by kernel_rfl, by kernel_rfl⟩
theorem ok235 : FnOK Go.Proofs.Tryz.prog 235 ir235 := ⟨_, _, Go.Proofs.Tryz.func235, by kernel_rfl, rfl, by kernel_rfl, by kernel_rfl⟩
theorem ok238 : FnOK Go.Proofs.Tryz.prog 238 ir238 := ⟨_, _, Go.Proofs.Tryz.func238, by kernel_rfl, rfl, by kernel_rfl, by kernel_rfl⟩
theorem ok240 : FnOK Go.Proofs.Tryz.prog 240 ir240 := ⟨_, _, Go.Proofs.Tryz.func240, by kernel_rfl, rfl, by kernel_rfl, by kernel_rfl⟩
theorem ok241 : FnOK Go.Proofs.Tryz.prog 241 ir241 := ⟨_, _, Go.Proofs.Tryz.func241, by kernel_rfl, rfl, by kernel_rfl, by kernel_rfl⟩
theorem ok244 : FnOK Go.Proofs.Tryz.prog 244 ir244 := ⟨_, _, Go.Proofs.Tryz.func244, by kernel_rfl, rfl, by kernel_rfl, by kernel_rfl⟩
theorem ok250 : FnOK Go.Proofs.Tryz.prog 250 ir250 := ⟨_, _, Go.Proofs.Tryz.func250, by kernel_rfl, rfl, by kernel_rfl, by kernel_rfl⟩
theorem ok251 : FnOK Go.Proofs.Tryz.prog 251 ir251 := ⟨_, _, Go.Proofs.Tryz.func251, by kernel_rfl, rfl, by kernel_rfl, by kernel_rfl⟩
theorem ok252 : FnOK Go.Proofs.Tryz.prog 252 ir252 := ⟨_, _, Go.Proofs.Tryz.func252, by kernel_rfl, rfl, by kernel_rfl, by kernel_rfl⟩
theorem ok253 : FnOK Go.Proofs.Tryz.prog 253 ir253 := ⟨_, _, Go.Proofs.Tryz.func253, by kernel_rfl, rfl, by kernel_rfl, by kernel_rfl⟩
theorem ok254 : FnOK Go.Proofs.Tryz.prog 254 ir254 := ⟨_, _, Go.Proofs.Tryz.func254, by kernel_rfl, rfl, by kernel_rfl, by kernel_rfl⟩
theorem ok255 : FnOK Go.Proofs.Tryz.prog 255 ir255 := ⟨_, _, Go.Proofs.Tryz.func255, by kernel_rfl, rfl, by kernel_rfl, by kernel_rfl⟩
theorem ok256 : FnOK Go.Proofs.Tryz.prog 256 ir256 := ⟨_, _, Go.Proofs.Tryz.func256, by kernel_rfl, rfl, by kernel_rfl, by kernel_rfl⟩
theorem ok257 : FnOK Go.Proofs.Tryz.prog 257 ir257 := ⟨_, _, Go.Proofs.Tryz.func257, by kernel_rfl, rfl, by kernel_rfl, by kernel_rfl⟩
theorem ok258 : FnOK Go.Proofs.Tryz.prog 258 ir258 := ⟨_, _, Go.Proofs.Tryz.func258, by kernel_rfl, rfl, by kernel_rfl, by kernel_rfl⟩
theorem ok266 : FnOK Go.Proofs.Tryz.prog 266 ir266 := ⟨_, _, Go.Proofs.Tryz.func266, by kernel_rfl, rfl, by kernel_rfl, by kernel_rfl⟩
theorem ok267 : FnOK Go.Proofs.Tryz.prog 267 ir267 := ⟨_, _, Go.Proofs.Tryz.func267, by kernel_rfl, rfl, by kernel_rfl, by kernel_rfl⟩
theorem ok268 : FnOK Go.Proofs.Tryz.prog 268 ir268 := ⟨_, _, Go.Proofs.Tryz.func268, by kernel_rfl, rfl, by kernel_rfl, by kernel_rfl⟩
theorem ok269 : FnOK Go.Proofs.Tryz.prog 269 ir269 := ⟨_, _, Go.Proofs.Tryz.func269, by kernel_rfl, rfl, by kernel_rfl, by kernel_rfl⟩
theorem ok270 : FnOK Go.Proofs.Tryz.prog 270 ir270 := ⟨_, _, Go.Proofs.Tryz.func270, by kernel_rfl, rfl, by kernel_rfl, by kernel_rfl⟩
theorem ok271 : FnOK Go.Proofs.Tryz.prog 271 ir271 := ⟨_, _, Go.Proofs.Tryz.func271, by kernel_rfl, rfl, by kernel_rfl, by kernel_rfl⟩
theorem ok272 : FnOK Go.Proofs.Tryz.prog 272 ir272 := ⟨_, _, Go.Proofs.Tryz.func272, by kernel_rfl, rfl, by kernel_rfl, by kernel_rfl⟩
theorem ok273 : FnOK Go.Proofs.Tryz.prog 273 ir273 := ⟨_, _, Go.Proofs.Tryz.func273, by kernel_rfl, rfl, by kernel_rfl, by kernel_rfl⟩
theorem ok274 : FnOK Go.Proofs.Tryz.prog 274 ir274 := ⟨_, _, Go.Proofs.Tryz.func274, by kernel_rfl, rfl, by kernel_rfl, by kernel_rfl⟩
theorem ok275 : FnOK Go.Proofs.Tryz.prog 275 ir275 := ⟨_, _, Go.Proofs.Tryz.func275, by kernel_rfl, rfl, by kernel_rfl, by kernel_rfl⟩
theorem ok276 : FnOK Go.Proofs.Tryz.prog 276 ir276 := ⟨_, _, Go.Proofs.Tryz.func276, by kernel_rfl, rfl, by kernel_rfl, by kernel_rfl⟩
theorem ok277 : FnOK Go.Proofs.Tryz.prog 277 ir277 := ⟨_, _, Go.Proofs.Tryz.func277, by kernel_rfl, rfl, by kernel_rfl, by kernel_rfl⟩
theorem ok278 : FnOK Go.Proofs.Tryz.prog 278 ir278 := ⟨_, _, Go.Proofs.Tryz.func278, by kernel_rfl, rfl, by kernel_rfl, by kernel_rfl⟩
theorem ok279 : FnOK Go.Proofs.Tryz.prog 279 ir279 := ⟨_, _, Go.Proofs.Tryz.func279, by kernel_rfl, rfl, by kernel_rfl, by kernel_rfl⟩
theorem ok280 : FnOK Go.Proofs.Tryz.prog 280 ir280 := ⟨_, _, Go.Proofs.Tryz.func280, by kernel_rfl, rfl, by kernel_rfl, by kernel_rfl⟩
theorem ok281 : FnOK Go.Proofs.Tryz.prog 281 ir281 := ⟨_, _, Go.Proofs.Tryz.func281, by kernel_rfl, rfl, by kernel_rfl, by kernel_rfl⟩
theorem ok282 : FnOK Go.Proofs.Tryz.prog 282 ir282 := ⟨_, _, Go.Proofs.Tryz.func282, by kernel_rfl, rfl, by kernel_rfl, by kernel_rfl⟩
theorem ok283 : FnOK Go.Proofs.Tryz.prog 283 ir283 := ⟨_, _, Go.Proofs.Tryz.func283, by kernel_rfl, rfl, by kernel_rfl, by kernel_rfl⟩
theorem ok284 : FnOK Go.Proofs.Tryz.prog 284 ir284 := ⟨_, _, Go.Proofs.Tryz.func284, by kernel_rfl, rfl, by kernel_rfl, by kernel_rfl⟩
theorem ok285 : FnOK Go.Proofs.Tryz.prog 285 ir285 := ⟨_, _, Go.Proofs.Tryz.func285, by kernel_rfl, rfl, by kernel_rfl, by kernel_rfl⟩
theorem ok286 : FnOK Go.Proofs.Tryz.prog 286 ir286 := ⟨_, _, Go.Proofs.Tryz.func286, by kernel_rfl, rfl, by kernel_rfl, by kernel_rfl⟩
theorem ok288 : FnOK Go.Proofs.Tryz.prog 288 ir288 := ⟨_, _, Go.Proofs.Tryz.func288, by kernel_rfl, rfl, by kernel_rfl, by kernel_rfl⟩
theorem ok289 : FnOK Go.Proofs.Tryz.prog 289 ir289 := ⟨_, _, Go.Proofs.Tryz.func289, by kernel_rfl, rfl, by kernel_rfl, by kernel_rfl⟩
theorem ok290 : FnOK Go.Proofs.Tryz.prog 290 ir290 := ⟨_, _, Go.Proofs.Tryz.func290, by kernel_rfl, rfl, by kernel_rfl, by kernel_rfl⟩
theorem ok298 : FnOK Go.Proofs.Tryz.prog 298 ir298 := ⟨_, _, Go.Proofs.Tryz.func298, by kernel_rfl, rfl, by kernel_rfl, by kernel_rfl⟩
theorem ok299 : FnOK Go.Proofs.Tryz.prog 299 ir299 := ⟨_, _, Go.Proofs.Tryz.func299, by kernel_rfl, rfl, by kernel_rfl, by kernel_rfl⟩
theorem ok300 : FnOK Go.Proofs.Tryz.prog 300 ir300 := ⟨_, _, Go.Proofs.Tryz.func300, by kernel_rfl, rfl, by kernel_rfl, by kernel_rfl⟩
theorem ok301 : FnOK Go.Proofs.Tryz.prog 301 ir301 := ⟨_, _, Go.Proofs.Tryz.func301, by kernel_rfl, rfl, by kernel_rfl, by kernel_rfl⟩
theorem ok302 : FnOK Go.Proofs.Tryz.prog 302 ir302 := ⟨_, _, Go.Proofs.Tryz.func302, by kernel_rfl, rfl, by kernel_rfl, by kernel_rfl⟩
theorem ok303 : FnOK Go.Proofs.Tryz.prog 303 ir303 := ⟨_, _, Go.Proofs.Tryz.func303, by kernel_rfl, rfl, by kernel_rfl, by kernel_rfl⟩
theorem ok304 : FnOK Go.Proofs.Tryz.prog 304 ir304 := ⟨_, _, Go.Proofs.Tryz.func304, by kernel_rfl, rfl, by kernel_rfl, by kernel_rfl⟩
theorem ok305 : FnOK Go.Proofs.Tryz.prog 305 ir305 := ⟨_, _, Go.Proofs.Tryz.func305, by kernel_rfl, rfl, by kernel_rfl, by kernel_rfl⟩
theorem ok306 : FnOK Go.Proofs.Tryz.prog 306 ir306 := ⟨_, _, Go.Proofs.Tryz.func306, by kernel_rfl, rfl, by kernel_rfl, by kernel_rfl⟩
theorem ok307 : FnOK Go.Proofs.Tryz.prog 307 ir307 := ⟨_, _, Go.Proofs.Tryz.func307, by kernel_rfl, rfl, by kernel_rfl, by kernel_rfl⟩
theorem ok308 : FnOK Go.Proofs.Tryz.prog 308 ir308 := ⟨_, _, Go.Proofs.Tryz.func308, by kernel_rfl, rfl, by kernel_rfl, by kernel_rfl⟩
theorem ok309 : FnOK Go.Proofs.Tryz.prog 309 ir309 := ⟨_, _, Go.Proofs.Tryz.func309, by kernel_rfl, rfl, by kernel_rfl, by kernel_rfl⟩
theorem ok310 : FnOK Go.Proofs.Tryz.prog 310 ir310 := ⟨_, _, Go.Proofs.Tryz.func310, by kernel_rfl, rfl, by kernel_rfl, by kernel_rfl⟩
theorem ok311 : FnOK Go.Proofs.Tryz.prog 311 ir311 := ⟨_, _, Go.Proofs.Tryz.func311, by kernel_rfl, rfl, by kernel_rfl, by kernel_rfl⟩
theorem ok312 : FnOK Go.Proofs.Tryz.prog 312 ir312 := ⟨_, _, Go.Proofs.Tryz.func312, by kernel_rfl, rfl, by kernel_rfl, by kernel_rfl⟩
theorem ok313 : FnOK Go.Proofs.Tryz.prog 313 ir313 := ⟨_, _, Go.Proofs.Tryz.func313, by kernel_rfl, rfl, by kernel_rfl, by kernel_rfl⟩
theorem ok314 : FnOK Go.Proofs.Tryz.prog 314 ir314 := ⟨_, _, Go.Proofs.Tryz.func314, by kernel_rfl, rfl, by kernel_rfl, by kernel_rfl⟩
theorem ok315 : FnOK Go.Proofs.Tryz.prog 315 ir315 := ⟨_, _, Go.Proofs.Tryz.func315, by kernel_rfl, rfl, by kernel_rfl, by kernel_rfl⟩
theorem ok316 : FnOK Go.Proofs.Tryz.prog 316 ir316 := ⟨_, _, Go.Proofs.Tryz.func316, by kernel_rfl, rfl, by kernel_rfl, by kernel_rfl⟩
theorem ok317 : FnOK Go.Proofs.Tryz.prog 317 ir317 := ⟨_, _, Go.Proofs.Tryz.func317, by kernel_rfl, rfl, by kernel_rfl, by kernel_rfl⟩
theorem ok318 : FnOK Go.Proofs.Tryz.prog 318 ir318 := ⟨_, _, Go.Proofs.Tryz.func318, by kernel_rfl, rfl, by kernel_rfl, by kernel_rfl⟩
theorem ok319 : FnOK Go.Proofs.Tryz.prog 319 ir319 := ⟨_, _, Go.Proofs.Tryz.func319, by kernel_rfl, rfl, by kernel_rfl, by kernel_rfl⟩
theorem ok320 : FnOK Go.Proofs.Tryz.prog 320 ir320 := ⟨_, _, Go.Proofs.Tryz.func320, by kernel_rfl, rfl, by kernel_rfl, by kernel_rfl⟩
theorem ok321 : FnOK Go.Proofs.Tryz.prog 321 ir321 := ⟨_, _, Go.Proofs.Tryz.func321, by kernel_rfl, rfl, by kernel_rfl, by kernel_rfl⟩
theorem ok322 : FnOK Go.Proofs.Tryz.prog 322 ir322 := ⟨_, _, Go.Proofs.Tryz.func322, by kernel_rfl, rfl, by kernel_rfl, by kernel_rfl⟩
theorem ok329 : FnOK Go.Proofs.Tryz.prog 329 ir329 := ⟨_, _, Go.Proofs.Tryz.func329, by kernel_rfl, rfl, by kernel_rfl, by kernel_rfl⟩
theorem ok330 : FnOK Go.Proofs.Tryz.prog 330 ir330 := ⟨_, _, Go.Proofs.Tryz.func330, by kernel_rfl, rfl, by kernel_rfl, by kernel_rfl⟩
theorem ok331 : FnOK Go.Proofs.Tryz.prog 331 ir331 := ⟨_, _, Go.Proofs.Tryz.func331, by kernel_rfl, rfl, by kernel_rfl, by kernel_rfl⟩
theorem ok332 : FnOK Go.Proofs.Tryz.prog 332 ir332 := ⟨_, _, Go.Proofs.Tryz.func332, by kernel_rfl, rfl, by kernel_rfl, by kernel_rfl⟩
theorem ok333 : FnOK Go.Proofs.Tryz.prog 333 ir333 := ⟨_, _, Go.Proofs.Tryz.func333, by kernel_rfl, rfl, by kernel_rfl, by kernel_rfl⟩
theorem ok334 : FnOK Go.Proofs.Tryz.prog 334 ir334 := ⟨_, _, Go.Proofs.Tryz.func334, by kernel_rfl, rfl, by kernel_rfl, by kernel_rfl⟩
theorem ok335 : FnOK Go.Proofs.Tryz.prog 335 ir335 := ⟨_, _, Go.Proofs.Tryz.func335, by kernel_rfl, rfl, by kernel_rfl, by kernel_rfl⟩
theorem ok336 : FnOK Go.Proofs.Tryz.prog 336 ir336 := ⟨_, _, Go.Proofs.Tryz.func336, by kernel_rfl, rfl, by kernel_rfl, by kernel_rfl⟩
theorem ok337 : FnOK Go.Proofs.Tryz.prog 337 ir337 := ⟨_, _, Go.Proofs.Tryz.func337, by kernel_rfl, rfl, by kernel_rfl, by kernel_rfl⟩
theorem ok338 : FnOK Go.Proofs.Tryz.prog 338 ir338 := ⟨_, _, Go.Proofs.Tryz.func338, by kernel_rfl, rfl, by kernel_rfl, by kernel_rfl⟩
theorem ok339 : FnOK Go.Proofs.Tryz.prog 339 ir339 := ⟨_, _, Go.Proofs.Tryz.func339, by kernel_rfl, rfl, by kernel_rfl, by kernel_rfl⟩
theorem ok340 : FnOK Go.Proofs.Tryz.prog 340 ir340 := ⟨_, _, Go.Proofs.Tryz.func340, by kernel_rfl, rfl, by kernel_rfl, by kernel_rfl⟩
theorem ok341 : FnOK Go.Proofs.Tryz.prog 341 ir341 := ⟨_, _, Go.Proofs.Tryz.func341, by kernel_rfl, rfl, by kernel_rfl, by kernel_rfl⟩
theorem ok342 : FnOK Go.Proofs.Tryz.prog 342 ir342 := ⟨_, _, Go.Proofs.Tryz.func342, by kernel_rfl, rfl, by kernel_rfl, by kernel_rfl⟩
theorem ok343 : FnOK Go.Proofs.Tryz.prog 343 ir343 := ⟨_, _, Go.Proofs.Tryz.func343, by kernel_rfl, rfl, by kernel_rfl, by kernel_rfl⟩
theorem ok344 : FnOK Go.Proofs.Tryz.prog 344 ir344 := ⟨_, _, Go.Proofs.Tryz.func344, by kernel_rfl, rfl, by kernel_rfl, by kernel_rfl⟩
theorem ok345 : FnOK Go.Proofs.Tryz.prog 345 ir345 := ⟨_, _, Go.Proofs.Tryz.func345, by kernel_rfl, rfl, by kernel_rfl, by kernel_rfl⟩
theorem ok346 : FnOK Go.Proofs.Tryz.prog 346 ir346 := ⟨_, _, Go.Proofs.Tryz.func346, by kernel_rfl, rfl, by kernel_rfl, by kernel_rfl⟩
theorem ok347 : FnOK Go.Proofs.Tryz.prog 347 ir347 := ⟨_, _, Go.Proofs.Tryz.func347, by kernel_rfl, rfl, by kernel_rfl, by kernel_rfl⟩
theorem ok354 : FnOK Go.Proofs.Tryz.prog 354 ir354 := ⟨_, _, Go.Proofs.Tryz.func354, by kernel_rfl, rfl, by kernel_rfl, by kernel_rfl⟩
theorem ok355 : FnOK Go.Proofs.Tryz.prog 355 ir355 := ⟨_, _, Go.Proofs.Tryz.func355, by kernel_rfl, rfl, by kernel_rfl, by kernel_rfl⟩
theorem ok : ∀ p ∈ tab, FnOK Go.Proofs.Tryz.prog p.1 p.2 := by
  unfold tab
  exact all_cons ok7 (all_cons ok11 (all_cons ok13 (all_cons ok14 (all_cons ok15 (all_cons ok19 (all_cons ok22 (all_cons ok23 (all_cons ok25 (all_cons ok26 (all_cons ok27 (all_cons ok30 (all_cons ok31 (all_cons ok32 (all_cons ok39 (all_cons ok40 (all_cons ok41 (all_cons ok42 (all_cons ok56 (all_cons ok57 (all_cons ok58 (all_cons ok59 (all_cons ok60 (all_cons ok61 (all_cons ok62 (all_cons ok63 (all_cons ok64 (all_cons ok65 (all_cons ok66 (all_cons ok67 (all_cons ok68 (all_cons ok78 (all_cons ok79 (all_cons ok80 (all_cons ok82 (all_cons ok83 (all_cons ok84 (all_cons ok85 (all_cons ok86 (all_cons ok88 (all_cons ok89 (all_cons ok90 (all_cons ok91 (all_cons ok92 (all_cons ok93 (all_cons ok98 (all_cons ok109 (all_cons ok110 (all_cons ok111 (all_cons ok112 (all_cons ok113 (all_cons ok114 (all_cons ok115 (all_cons ok116 (all_cons ok117 (all_cons ok118 (all_cons ok119 (all_cons ok120 (all_cons ok121 (all_cons ok122 (all_cons ok123 (all_cons ok128 (all_cons ok142 (all_cons ok143 (all_cons ok144 (all_cons ok145 (all_cons ok146 (all_cons ok147 (all_cons ok148 (all_cons ok149 (all_cons ok150 (all_cons ok151 (all_cons ok152 (all_cons ok153 (all_cons ok154 (all_cons ok155 (all_cons ok156 (all_cons ok157 (all_cons ok158 (all_cons ok159 (all_cons ok160 (all_cons ok161 (all_cons ok162 (all_cons ok163 (all_cons ok171 (all_cons ok172 (all_cons ok173 (all_cons ok174 (all_cons ok177 (all_cons ok178 (all_cons ok192 (all_cons ok193 (all_cons ok194 (all_cons ok195 (all_cons ok196 (all_cons ok197 (all_cons ok198 (all_cons ok199 (all_cons ok200 (all_cons ok201 (all_cons ok202 (all_cons ok203 (all_cons ok204 (all_cons ok205 (all_cons ok208 (all_cons ok209 (all_cons ok212 (all_cons ok221 (all_cons ok222 (all_cons ok223 (all_cons ok224 (all_cons ok225 (all_cons ok226 (all_cons ok227 (all_cons ok228 (all_cons ok229 (all_cons ok230 (all_cons ok231 (all_cons ok232 (all_cons ok233 (all_cons ok234 (all_cons ok235 (all_cons ok238 (all_cons ok240 (all_cons ok241 (all_cons ok244 (all_cons ok250 (all_cons ok251 (all_cons ok252 (all_cons ok253 (all_cons ok254 (all_cons ok255 (all_cons ok256 (all_cons ok257 (all_cons ok258 (all_cons ok266 (all_cons ok267 (all_cons ok268 (all_cons ok269 (all_cons ok270 (all_cons ok271 (all_cons ok272 (all_cons ok273 (all_cons ok274 (all_cons ok275 (all_cons ok276 (all_cons ok277 (all_cons ok278 (all_cons ok279 (all_cons ok280 (all_cons ok281 (all_cons ok282 (all_cons ok283 (all_cons ok284 (all_cons ok285 (all_cons ok286 (all_cons ok288 (all_cons ok289 (all_cons ok290 (all_cons ok298 (all_cons ok299 (all_cons ok300 (all_cons ok301 (all_cons ok302 (all_cons ok303 (all_cons ok304 (all_cons ok305 (all_cons ok306 (all_cons ok307 (all_cons ok308 (all_cons ok309 (all_cons ok310 (all_cons ok311 (all_cons ok312 (all_cons ok313 (all_cons ok314 (all_cons ok315 (all_cons ok316 (all_cons ok317 (all_cons ok318 (all_cons ok319 (all_cons ok320 (all_cons ok321 (all_cons ok322 (all_cons ok329 (all_cons ok330 (all_cons ok331 (all_cons ok332 (all_cons ok333 (all_cons ok334 (all_cons ok335 (all_cons ok336 (all_cons ok337 (all_cons ok338 (all_cons ok339 (all_cons ok340 (all_cons ok341 (all_cons ok342 (all_cons ok343 (all_cons ok344 (all_cons ok345 (all_cons ok346 (all_cons ok347 (all_cons ok354 (all_cons ok355 (all_nil)))))))))))))))))))))))))))))))))))))))))))))))))))))))))))))))))))))))))))))))))))))))))))))))))))))))))))))))))))))))))))))))))))))))))))))))))))))))))))))))))))))))))))))))))))))))))))))))))))))))))))))
theorem envOK0 : EnvOK Go.Proofs.Tryz.prog EE0 where
  mix := by kernel_rfl
  still := fun _ _ _ _ => trivial
  fns f fn h := fnOK_find ok h
  prims f g h := by cases h
theorem awk : ∀ f ∈ sayK, clD EE0 (.p (.fn f)) [] [] = some (.p (.bool true), none) := by
  intro f hf
  simp only [sayK, List.mem_cons, List.not_mem_nil, or_false] at hf
  subst hf
  · exact awk40
theorem envOK : EnvOK Go.Proofs.Tryz.prog EE where
  mix := by kernel_rfl
  still := fun _ _ _ _ => trivial
  fns f fn h := fnOK_find ok h
  prims f g h := by
    have h0 : (if f ∈ sayK then some sayP else EE0.prims f) = some g := h
    split at h0
    · rename_i e; cases h0
      exact fun vs H r hr G own w args _ ha _ hw _ => say_prim envOK0 (awk f e) hr ha hw
    · exact envOK0.prims f g h0
end Go.EnvOf
