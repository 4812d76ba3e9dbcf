/- The functions of the table are the program's. -/
import Derived.Test.YtfjgcfloallohaaProg
import Derived.Test.YtfjgcfloallohaaEngAll7
import Derived.Test.YtfjgcfloallohaaTab
namespace Go.EnvOf
open Go Go.Eng
set_option maxRecDepth 100000
theorem ok13 : FnOK Go.Proofs.Try.prog 13 ir13 := ⟨_, _, Go.Proofs.Try.func13, by kernel_rfl, rfl, by kernel_rfl, by kernel_rfl⟩
theorem ok18 : FnOK Go.Proofs.Try.prog 18 ir18 := ⟨_, _, Go.Proofs.Try.func18, by kernel_rfl, rfl, by kernel_rfl, by kernel_rfl⟩
theorem ok46 : FnOK Go.Proofs.Try.prog 46 ir46 := ⟨_, _, Go.Proofs.Try.func46, by kernel_rfl, rfl, by kernel_rfl, by kernel_rfl⟩
theorem ok54 : FnOK Go.Proofs.Try.prog 54 ir54 := ⟨_, _, Go.Proofs.Try.func54, by kernel_rfl, rfl, by kernel_rfl, by kernel_rfl⟩
theorem ok56 : FnOK Go.Proofs.Try.prog 56 ir56 := ⟨_, _, Go.Proofs.Try.func56, by kernel_rfl, rfl, by kernel_rfl, by kernel_rfl⟩
theorem ok59 : FnOK Go.Proofs.Try.prog 59 ir59 := ⟨_, _, Go.Proofs.Try.func59, by kernel_rfl, rfl, by kernel_rfl, by kernel_rfl⟩
theorem ok61 : FnOK Go.Proofs.Try.prog 61 ir61 := ⟨_, _, Go.Proofs.Try.func61, by kernel_rfl, rfl, by kernel_rfl, by kernel_rfl⟩
theorem ok62 : FnOK Go.Proofs.Try.prog 62 ir62 := ⟨_, _, Go.Proofs.Try.func62, by kernel_rfl, rfl, by kernel_rfl, by kernel_rfl⟩
theorem ok63 : FnOK Go.Proofs.Try.prog 63 ir63 := ⟨_, _, Go.Proofs.Try.func63, by kernel_rfl, rfl, by kernel_rfl, by kernel_rfl⟩
theorem ok64 : FnOK Go.Proofs.Try.prog 64 ir64 := ⟨_, _, Go.Proofs.Try.func64, by kernel_rfl, rfl, by kernel_rfl, by kernel_rfl⟩
theorem ok65 : FnOK Go.Proofs.Try.prog 65 ir65 := ⟨_, _, Go.Proofs.Try.func65, by kernel_rfl, rfl, by kernel_rfl, by kernel_rfl⟩
theorem ok66 : FnOK Go.Proofs.Try.prog 66 ir66 := ⟨_, _, Go.Proofs.Try.func66, by kernel_rfl, rfl, by kernel_rfl, by kernel_rfl⟩
theorem ok93 : FnOK Go.Proofs.Try.prog 93 ir93 := ⟨_, _, Go.Proofs.Try.func93, by kernel_rfl, rfl, by kernel_rfl, by kernel_rfl⟩
theorem ok94 : FnOK Go.Proofs.Try.prog 94 ir94 := ⟨_, _, Go.Proofs.Try.func94, by kernel_rfl, rfl, by kernel_rfl, by kernel_rfl⟩
theorem ok95 : FnOK Go.Proofs.Try.prog 95 ir95 := ⟨_, _, Go.Proofs.Try.func95, by kernel_rfl, rfl, by kernel_rfl, by kernel_rfl⟩
theorem ok96 : FnOK Go.Proofs.Try.prog 96 ir96 := ⟨_, _, Go.Proofs.Try.func96, by kernel_rfl, rfl, by kernel_rfl, by kernel_rfl⟩
theorem ok97 : FnOK Go.Proofs.Try.prog 97 ir97 := ⟨_, _, Go.Proofs.Try.func97, by kernel_rfl, rfl, by kernel_rfl, by kernel_rfl⟩
theorem ok98 : FnOK Go.Proofs.Try.prog 98 ir98 := ⟨_, _, Go.Proofs.Try.func98, by kernel_rfl, rfl, by kernel_rfl, by kernel_rfl⟩
theorem ok99 : FnOK Go.Proofs.Try.prog 99 ir99 := ⟨_, _, Go.Proofs.Try.func99, by kernel_rfl, rfl, by kernel_rfl, by kernel_rfl⟩
theorem ok102 : FnOK Go.Proofs.Try.prog 102 ir102 := ⟨_, _, Go.Proofs.Try.func102, by kernel_rfl, rfl, by kernel_rfl, by kernel_rfl⟩
theorem ok112 : FnOK Go.Proofs.Try.prog 112 ir112 := ⟨_, _, Go.Proofs.Try.func112, by kernel_rfl, rfl, by kernel_rfl, by kernel_rfl⟩
theorem ok117 : FnOK Go.Proofs.Try.prog 117 ir117 := ⟨_, _, Go.Proofs.Try.func117, by kernel_rfl, rfl, by kernel_rfl, by kernel_rfl⟩
theorem ok118 : FnOK Go.Proofs.Try.prog 118 ir118 := ⟨_, _, Go.Proofs.Try.func118, by kernel_rfl, rfl, by kernel_rfl, by kernel_rfl⟩
theorem ok119 : FnOK Go.Proofs.Try.prog 119 ir119 := ⟨_, _, Go.Proofs.Try.func119, by kernel_rfl, rfl, by kernel_rfl, by kernel_rfl⟩
theorem ok120 : FnOK Go.Proofs.Try.prog 120 ir120 := ⟨_, _, Go.Proofs.Try.func120, by kernel_rfl, rfl, by kernel_rfl, by kernel_rfl⟩
theorem ok125 : FnOK Go.Proofs.Try.prog 125 ir125 := ⟨_, _, Go.Proofs.Try.func125, by kernel_rfl, rfl, by kernel_rfl, by kernel_rfl⟩
theorem ok139 : FnOK Go.Proofs.Try.prog 139 ir139 := ⟨_, _, Go.Proofs.Try.func139, by kernel_rfl, rfl, by kernel_rfl, by kernel_rfl⟩
theorem ok140 : FnOK Go.Proofs.Try.prog 140 ir140 := ⟨_, _, Go.Proofs.Try.func140, by kernel_rfl, rfl, by kernel_rfl, by kernel_rfl⟩
theorem ok141 : FnOK Go.Proofs.Try.prog 141 ir141 := ⟨_, _, Go.Proofs.Try.func141, by kernel_rfl, rfl, by kernel_rfl, by kernel_rfl⟩
theorem ok142 : FnOK Go.Proofs.Try.prog 142 ir142 := ⟨_, _, Go.Proofs.Try.func142, by kernel_rfl, rfl, by kernel_rfl, by kernel_rfl⟩
theorem ok143 : FnOK Go.Proofs.Try.prog 143 ir143 := ⟨_, _, Go.Proofs.Try.func143, by kernel_rfl, rfl, by kernel_rfl, by kernel_rfl⟩
theorem ok144 : FnOK Go.Proofs.Try.prog 144 ir144 := ⟨_, _, Go.Proofs.Try.func144, by kernel_rfl, rfl, by kernel_rfl, by kernel_rfl⟩
theorem ok145 : FnOK Go.Proofs.Try.prog 145 ir145 := ⟨_, _, Go.Proofs.Try.func145, by kernel_rfl, rfl, by kernel_rfl, by kernel_rfl⟩
theorem ok150 : FnOK Go.Proofs.Try.prog 150 ir150 := ⟨_, _, Go.Proofs.Try.func150, by kernel_rfl, rfl, by kernel_rfl, by kernel_rfl⟩
theorem ok151 : FnOK Go.Proofs.Try.prog 151 ir151 := ⟨_, _, Go.Proofs.Try.func151, by kernel_rfl, rfl, by kernel_rfl, by kernel_rfl⟩
theorem ok152 : FnOK Go.Proofs.Try.prog 152 ir152 := ⟨_, _, Go.Proofs.Try.func152, by kernel_rfl, rfl, by kernel_rfl, by kernel_rfl⟩
theorem ok153 : FnOK Go.Proofs.Try.prog 153 ir153 := ⟨_, _, Go.Proofs.Try.func153, by kernel_rfl, rfl, by kernel_rfl, by kernel_rfl⟩
theorem ok154 : FnOK Go.Proofs.Try.prog 154 ir154 := ⟨_, _, Go.Proofs.Try.func154, by kernel_rfl, rfl, by kernel_rfl, by kernel_rfl⟩
theorem ok155 : FnOK Go.Proofs.Try.prog 155 ir155 := ⟨_, _, Go.Proofs.Try.func155, by kernel_rfl, rfl, by kernel_rfl, by kernel_rfl⟩
theorem ok156 : FnOK Go.Proofs.Try.prog 156 ir156 := ⟨_, _, Go.Proofs.Try.func156, by kernel_rfl, rfl, by kernel_rfl, by kernel_rfl⟩
theorem ok157 : FnOK Go.Proofs.Try.prog 157 ir157 := ⟨_, _, Go.Proofs.Try.func157, by kernel_rfl, rfl, by kernel_rfl, by kernel_rfl⟩
theorem ok158 : FnOK Go.Proofs.Try.prog 158 ir158 := ⟨_, _, Go.Proofs.Try.func158, by kernel_rfl, rfl, by kernel_rfl, by kernel_rfl⟩
theorem ok159 : FnOK Go.Proofs.Try.prog 159 ir159 := ⟨_, _, Go.Proofs.Try.func159, by kernel_rfl, rfl, by kernel_rfl, by kernel_rfl⟩
theorem ok160 : FnOK Go.Proofs.Try.prog 160 ir160 := ⟨_, _, Go.Proofs.Try.func160, by kernel_rfl, rfl, by kernel_rfl, by kernel_rfl⟩
theorem ok161 : FnOK Go.Proofs.Try.prog 161 ir161 := ⟨_, _, Go.Proofs.Try.func161, by kernel_rfl, rfl, by kernel_rfl, by kernel_rfl⟩
theorem ok162 : FnOK Go.Proofs.Try.prog 162 ir162 := ⟨_, _, Go.Proofs.Try.func162, by kernel_rfl, rfl, by kernel_rfl, by kernel_rfl⟩
theorem ok163 : FnOK Go.Proofs.Try.prog 163 ir163 := ⟨_, _, Go.Proofs.Try.func163, by kernel_rfl, rfl, by kernel_rfl, by kernel_rfl⟩
theorem ok164 : FnOK Go.Proofs.Try.prog 164 ir164 := ⟨_, _, Go.Proofs.Try.func164, by kernel_rfl, rfl, by kernel_rfl, by kernel_rfl⟩
theorem ok165 : FnOK Go.Proofs.Try.prog 165 ir165 := ⟨_, _, Go.Proofs.Try.func165, by kernel_rfl, rfl, by kernel_rfl, by kernel_rfl⟩
theorem ok166 : FnOK Go.Proofs.Try.prog 166 ir166 := ⟨_, _, Go.Proofs.Try.func166, by kernel_rfl, rfl, by kernel_rfl, by kernel_rfl⟩
theorem ok167 : FnOK Go.Proofs.Try.prog 167 ir167 := ⟨_, _, Go.Proofs.Try.func167, by kernel_rfl, rfl, by kernel_rfl, by kernel_rfl⟩
theorem ok177 : FnOK Go.Proofs.Try.prog 177 ir177 := ⟨_, _, Go.Proofs.Try.func177, by kernel_rfl, rfl, by kernel_rfl, by kernel_rfl⟩
theorem ok178 : FnOK Go.Proofs.Try.prog 178 ir178 := ⟨_, _, Go.Proofs.Try.func178, by kernel_rfl, rfl, by kernel_rfl, by kernel_rfl⟩
theorem ok179 : FnOK Go.Proofs.Try.prog 179 ir179 := ⟨_, _, Go.Proofs.Try.func179, by kernel_rfl, rfl, by kernel_rfl, by kernel_rfl⟩
theorem ok182 : FnOK Go.Proofs.Try.prog 182 ir182 := ⟨_, _, Go.Proofs.Try.func182, by kernel_rfl, rfl, by kernel_rfl, by kernel_rfl⟩
theorem ok183 : FnOK Go.Proofs.Try.prog 183 ir183 := ⟨_, _, Go.Proofs.Try.func183, by kernel_rfl, rfl, by kernel_rfl, by kernel_rfl⟩
theorem ok184 : FnOK Go.Proofs.Try.prog 184 ir184 := ⟨_, _, Go.Proofs.Try.func184, by kernel_rfl, rfl, by kernel_rfl, by kernel_rfl⟩
theorem ok185 : FnOK Go.Proofs.Try.prog 185 ir185 := ⟨_, _, Go.Proofs.Try.func185, by kernel_rfl, rfl, by kernel_rfl, by kernel_rfl⟩
theorem ok186 : FnOK Go.Proofs.Try.prog 186 ir186 := ⟨_, _, Go.Proofs.Try.func186, by kernel_rfl, rfl, by kernel_rfl, by kernel_rfl⟩
theorem ok187 : FnOK Go.Proofs.Try.prog 187 ir187 := ⟨_, _, Go.Proofs.Try.func187, by kernel_rfl, rfl, by kernel_rfl, by kernel_rfl⟩
theorem ok188 : FnOK Go.Proofs.Try.prog 188 ir188 := ⟨_, _, Go.Proofs.Try.func188, by kernel_rfl, rfl, by kernel_rfl, by kernel_rfl⟩
theorem ok189 : FnOK Go.Proofs.Try.prog 189 ir189 := ⟨_, _, Go.Proofs.Try.func189, by kernel_rfl, rfl, by kernel_rfl, by kernel_rfl⟩
theorem ok190 : FnOK Go.Proofs.Try.prog 190 ir190 := ⟨_, _, Go.Proofs.Try.func190, by kernel_rfl, rfl, by kernel_rfl, by kernel_rfl⟩
theorem ok191 : FnOK Go.Proofs.Try.prog 191 ir191 := ⟨_, _, Go.Proofs.Try.func191, by kernel_rfl, rfl, by kernel_rfl, by kernel_rfl⟩
theorem ok192 : FnOK Go.Proofs.Try.prog 192 ir192 := ⟨_, _, Go.Proofs.Try.func192, by kernel_rfl, rfl, by kernel_rfl, by kernel_rfl⟩
theorem ok193 : FnOK Go.Proofs.Try.prog 193 ir193 := ⟨_, _, Go.Proofs.Try.func193, by kernel_rfl, rfl, by kernel_rfl, by kernel_rfl⟩
theorem ok194 : FnOK Go.Proofs.Try.prog 194 ir194 := ⟨_, _, Go.Proofs.Try.func194, by kernel_rfl, rfl, by kernel_rfl, by kernel_rfl⟩
theorem ok195 : FnOK Go.Proofs.Try.prog 195 ir195 := ⟨_, _, Go.Proofs.Try.func195, by kernel_rfl, rfl, by kernel_rfl, by kernel_rfl⟩
theorem ok196 : FnOK Go.Proofs.Try.prog 196 ir196 := ⟨_, _, Go.Proofs.Try.func196, by kernel_rfl, rfl, by kernel_rfl, by kernel_rfl⟩
theorem ok197 : FnOK Go.Proofs.Try.prog 197 ir197 := ⟨_, _, Go.Proofs.Try.func197, by kernel_rfl, rfl, by kernel_rfl, by kernel_rfl⟩
theorem ok198 : FnOK Go.Proofs.Try.prog 198 ir198 := ⟨_, _, Go.Proofs.Try.func198, by kernel_rfl, rfl, by kernel_rfl, by kernel_rfl⟩
theorem ok199 : FnOK Go.Proofs.Try.prog 199 ir199 := ⟨_, _, Go.Proofs.Try.func199, by kernel_rfl, rfl, by kernel_rfl, by kernel_rfl⟩
theorem ok200 : FnOK Go.Proofs.Try.prog 200 ir200 := ⟨_, _, Go.Proofs.Try.func200, by kernel_rfl, rfl, by kernel_rfl, by kernel_rfl⟩
theorem ok201 : FnOK Go.Proofs.Try.prog 201 ir201 := ⟨_, _, Go.Proofs.Try.func201, by kernel_rfl, rfl, by kernel_rfl, by kernel_rfl⟩
theorem ok202 : FnOK Go.Proofs.Try.prog 202 ir202 := ⟨_, _, Go.Proofs.Try.func202, by kernel_rfl, rfl, by kernel_rfl, by kernel_rfl⟩
theorem ok203 : FnOK Go.Proofs.Try.prog 203 ir203 := ⟨_, _, Go.Proofs.Try.func203, by kernel_rfl, rfl, by kernel_rfl, by kernel_rfl⟩
theorem ok204 : FnOK Go.Proofs.Try.prog 204 ir204 := ⟨_, _, Go.Proofs.Try.func204, by kernel_rfl, rfl, by kernel_rfl, by kernel_rfl⟩
theorem ok220 : FnOK Go.Proofs.Try.prog 220 ir220 := ⟨_, _, Go.Proofs.Try.func220, by kernel_rfl, rfl, by kernel_rfl, by kernel_rfl⟩
theorem ok221 : FnOK Go.Proofs.Try.prog 221 ir221 := ⟨_, _, Go.Proofs.Try.func221, by kernel_rfl, rfl, by kernel_rfl, by kernel_rfl⟩
theorem ok222 : FnOK Go.Proofs.Try.prog 222 ir222 := ⟨_, _, Go.Proofs.Try.func222, by kernel_rfl, rfl, by kernel_rfl, by kernel_rfl⟩
theorem ok223 : FnOK Go.Proofs.Try.prog 223 ir223 := ⟨_, _, Go.Proofs.Try.func223, by kernel_rfl, rfl, by kernel_rfl, by kernel_rfl⟩
theorem ok224 : FnOK Go.Proofs.Try.prog 224 ir224 := ⟨_, _, Go.Proofs.Try.func224, by kernel_rfl, rfl, by kernel_rfl, by kernel_rfl⟩
theorem ok225 : FnOK Go.Proofs.Try.prog 225 ir225 := ⟨_, _, Go.Proofs.Try.func225, by kernel_rfl, rfl, by kernel_rfl, by kernel_rfl⟩
theorem ok226 : FnOK Go.Proofs.Try.prog 226 ir226 := ⟨_, _, Go.Proofs.Try.func226, by kernel_rfl, rfl, by kernel_rfl, by kernel_rfl⟩
theorem ok227 : FnOK Go.Proofs.Try.prog 227 ir227 := ⟨_, _, Go.Proofs.Try.func227, by kernel_rfl, rfl, by kernel_rfl, by kernel_rfl⟩
theorem ok228 : FnOK Go.Proofs.Try.prog 228 ir228 := ⟨_, _, Go.Proofs.Try.func228, by kernel_rfl, rfl, by kernel_rfl, by kernel_rfl⟩
theorem ok229 : FnOK Go.Proofs.Try.prog 229 ir229 := ⟨_, _, Go.Proofs.Try.func229, by kernel_rfl, rfl, by kernel_rfl, by kernel_rfl⟩
theorem ok230 : FnOK Go.Proofs.Try.prog 230 ir230 := ⟨_, _, Go.Proofs.Try.func230, by kernel_rfl, rfl, by kernel_rfl, by kernel_rfl⟩
theorem ok231 : FnOK Go.Proofs.Try.prog 231 ir231 := ⟨_, _, Go.Proofs.Try.func231, by kernel_rfl, rfl, by kernel_rfl, by kernel_rfl⟩
theorem ok232 : FnOK Go.Proofs.Try.prog 232 ir232 := ⟨_, _, Go.Proofs.Try.func232, by kernel_rfl, rfl, by kernel_rfl, by kernel_rfl⟩
theorem ok233 : FnOK Go.Proofs.Try.prog 233 ir233 := ⟨_, _, Go.Proofs.Try.func233, by kernel_rfl, rfl, by kernel_rfl, by kernel_rfl⟩
theorem ok234 : FnOK Go.Proofs.Try.prog 234 ir234 := ⟨_, _, Go.Proofs.Try.func234, by kernel_rfl, rfl, by kernel_rfl, by kernel_rfl⟩
theorem ok235 : FnOK Go.Proofs.Try.prog 235 ir235 := ⟨_, _, Go.Proofs.Try.func235, by kernel_rfl, rfl, by kernel_rfl, by kernel_rfl⟩
theorem ok236 : FnOK Go.Proofs.Try.prog 236 ir236 := ⟨_, _, Go.Proofs.Try.func236, by kernel_rfl, rfl, by kernel_rfl, by kernel_rfl⟩
theorem ok237 : FnOK Go.Proofs.Try.prog 237 ir237 := ⟨_, _, Go.Proofs.Try.func237, by kernel_rfl, rfl, by kernel_rfl, by kernel_rfl⟩
theorem ok238 : FnOK Go.Proofs.Try.prog 238 ir238 := ⟨_, _, Go.Proofs.Try.func238, by kernel_rfl, rfl, by kernel_rfl, by kernel_rfl⟩
theorem ok239 : FnOK Go.Proofs.Try.prog 239 ir239 := ⟨_, _, Go.Proofs.Try.func239, by kernel_rfl, rfl, by kernel_rfl, by kernel_rfl⟩
theorem ok246 : FnOK Go.Proofs.Try.prog 246 ir246 := ⟨_, _, Go.Proofs.Try.func246, by kernel_rfl, rfl, by kernel_rfl, by kernel_rfl⟩
theorem ok247 : FnOK Go.Proofs.Try.prog 247 ir247 := ⟨_, _, Go.Proofs.Try.func247, by kernel_rfl, rfl, by kernel_rfl, by kernel_rfl⟩
theorem ok : ∀ p ∈ tab, FnOK Go.Proofs.Try.prog p.1 p.2 := by
  unfold tab
  exact all_cons ok13 (all_cons ok18 (all_cons ok46 (all_cons ok54 (all_cons ok56 (all_cons ok59 (all_cons ok61 (all_cons ok62 (all_cons ok63 (all_cons ok64 (all_cons ok65 (all_cons ok66 (all_cons ok93 (all_cons ok94 (all_cons ok95 (all_cons ok96 (all_cons ok97 (all_cons ok98 (all_cons ok99 (all_cons ok102 (all_cons ok112 (all_cons ok117 (all_cons ok118 (all_cons ok119 (all_cons ok120 (all_cons ok125 (all_cons ok139 (all_cons ok140 (all_cons ok141 (all_cons ok142 (all_cons ok143 (all_cons ok144 (all_cons ok145 (all_cons ok150 (all_cons ok151 (all_cons ok152 (all_cons ok153 (all_cons ok154 (all_cons ok155 (all_cons ok156 (all_cons ok157 (all_cons ok158 (all_cons ok159 (all_cons ok160 (all_cons ok161 (all_cons ok162 (all_cons ok163 (all_cons ok164 (all_cons ok165 (all_cons ok166 (all_cons ok167 (all_cons ok177 (all_cons ok178 (all_cons ok179 (all_cons ok182 (all_cons ok183 (all_cons ok184 (all_cons ok185 (all_cons ok186 (all_cons ok187 (all_cons ok188 (all_cons ok189 (all_cons ok190 (all_cons ok191 (all_cons ok192 (all_cons ok193 (all_cons ok194 (all_cons ok195 (all_cons ok196 (all_cons ok197 (all_cons ok198 (all_cons ok199 (all_cons ok200 (all_cons ok201 (all_cons ok202 (all_cons ok203 (all_cons ok204 (all_cons ok220 (all_cons ok221 (all_cons ok222 (all_cons ok223 (all_cons ok224 (all_cons ok225 (all_cons ok226 (all_cons ok227 (all_cons ok228 (all_cons ok229 (all_cons ok230 (all_cons ok231 (all_cons ok232 (all_cons ok233 (all_cons ok234 (all_cons ok235 (all_cons ok236 (all_cons ok237 (all_cons ok238 (all_cons ok239 (all_cons ok246 (all_cons ok247 (all_nil)))))))))))))))))))))))))))))))))))))))))))))))))))))))))))))))))))))))))))))))))))))))))))))))))))
theorem envOK : EnvOK Go.Proofs.Try.prog EE where
  mix := by kernel_rfl
  fns f fn h := fnOK_find ok h
  prims f g h := by cases h
end Go.EnvOf
