/- The functions of the table are the program's. -/
import Derived.Test.YtfjgcfloallohaaEng22
import Derived.Test.YtfjgcfloallohaaTab
import Derived.Test.YtfjgcfloallohaaProg
namespace Go.EnvOf
open Go Go.Eng
set_option maxRecDepth 100000
theorem ok3 : FnOK Go.Proofs.Try.prog 3 ir3 := ⟨_, _, Go.Proofs.Try.func3, by kernel_rfl, rfl, by kernel_rfl, by kernel_rfl⟩
theorem ok4 : FnOK Go.Proofs.Try.prog 4 ir4 := ⟨_, _, Go.Proofs.Try.func4, by kernel_rfl, rfl, by kernel_rfl, by kernel_rfl⟩
theorem ok7 : FnOK Go.Proofs.Try.prog 7 ir7 := ⟨_, _, Go.Proofs.Try.func7, by kernel_rfl, rfl, by kernel_rfl, by kernel_rfl⟩
theorem ok8 : FnOK Go.Proofs.Try.prog 8 ir8 := ⟨_, _, Go.Proofs.Try.func8, by kernel_rfl, rfl, by kernel_rfl, by kernel_rfl⟩
theorem ok17 : FnOK Go.Proofs.Try.prog 17 ir17 := ⟨_, _, Go.Proofs.Try.func17, by kernel_rfl, rfl, by kernel_rfl, by kernel_rfl⟩
theorem ok18 : FnOK Go.Proofs.Try.prog 18 ir18 := ⟨_, _, Go.Proofs.Try.func18, by kernel_rfl, rfl, by kernel_rfl, by kernel_rfl⟩
theorem ok19 : FnOK Go.Proofs.Try.prog 19 ir19 := ⟨_, _, Go.Proofs.Try.func19, by kernel_rfl, rfl, by kernel_rfl, by kernel_rfl⟩
theorem ok20 : FnOK Go.Proofs.Try.prog 20 ir20 := ⟨_, _, Go.Proofs.Try.func20, by kernel_rfl, rfl, by kernel_rfl, by kernel_rfl⟩
theorem ok21 : FnOK Go.Proofs.Try.prog 21 ir21 := ⟨_, _, Go.Proofs.Try.func21, by kernel_rfl, rfl, by kernel_rfl, by kernel_rfl⟩
theorem ok22 : FnOK Go.Proofs.Try.prog 22 ir22 := ⟨_, _, Go.Proofs.Try.func22, by kernel_rfl, rfl, by kernel_rfl, by kernel_rfl⟩
theorem ok23 : FnOK Go.Proofs.Try.prog 23 ir23 := ⟨_, _, Go.Proofs.Try.func23, by kernel_rfl, rfl, by kernel_rfl, by kernel_rfl⟩
theorem ok24 : FnOK Go.Proofs.Try.prog 24 ir24 := ⟨_, _, Go.Proofs.Try.func24, by kernel_rfl, rfl, by kernel_rfl, by kernel_rfl⟩
theorem ok25 : FnOK Go.Proofs.Try.prog 25 ir25 := ⟨_, _, Go.Proofs.Try.func25, by kernel_rfl, rfl, by kernel_rfl, by kernel_rfl⟩
theorem ok26 : FnOK Go.Proofs.Try.prog 26 ir26 := ⟨_, _, Go.Proofs.Try.func26, by kernel_rfl, rfl, by kernel_rfl, by kernel_rfl⟩
theorem ok27 : FnOK Go.Proofs.Try.prog 27 ir27 := ⟨_, _, Go.Proofs.Try.func27, by kernel_rfl, rfl, by kernel_rfl, by kernel_rfl⟩
theorem ok28 : FnOK Go.Proofs.Try.prog 28 ir28 := ⟨_, _, Go.Proofs.Try.func28, by kernel_rfl, rfl, by kernel_rfl, by kernel_rfl⟩
theorem ok29 : FnOK Go.Proofs.Try.prog 29 ir29 := ⟨_, _, Go.Proofs.Try.func29, by kernel_rfl, rfl, by kernel_rfl, by kernel_rfl⟩
theorem ok30 : FnOK Go.Proofs.Try.prog 30 ir30 := ⟨_, _, Go.Proofs.Try.func30, by kernel_rfl, rfl, by kernel_rfl, by kernel_rfl⟩
theorem ok31 : FnOK Go.Proofs.Try.prog 31 ir31 := ⟨_, _, Go.Proofs.Try.func31, by kernel_rfl, rfl, by kernel_rfl, by kernel_rfl⟩
theorem ok32 : FnOK Go.Proofs.Try.prog 32 ir32 := ⟨_, _, Go.Proofs.Try.func32, by kernel_rfl, rfl, by kernel_rfl, by kernel_rfl⟩
theorem ok33 : FnOK Go.Proofs.Try.prog 33 ir33 := ⟨_, _, Go.Proofs.Try.func33, by kernel_rfl, rfl, by kernel_rfl, by kernel_rfl⟩
theorem ok44 : FnOK Go.Proofs.Try.prog 44 ir44 := ⟨_, _, Go.Proofs.Try.func44, by kernel_rfl, rfl, by kernel_rfl, by kernel_rfl⟩
theorem ok45 : FnOK Go.Proofs.Try.prog 45 ir45 := ⟨_, _, Go.Proofs.Try.func45, by kernel_rfl, rfl, by kernel_rfl, by kernel_rfl⟩
theorem ok46 : FnOK Go.Proofs.Try.prog 46 ir46 := ⟨_, _, Go.Proofs.Try.func46, by kernel_rfl, rfl, by kernel_rfl, by kernel_rfl⟩
theorem ok47 : FnOK Go.Proofs.Try.prog 47 ir47 := ⟨_, _, Go.Proofs.Try.func47, by kernel_rfl, rfl, by kernel_rfl, by kernel_rfl⟩
theorem ok48 : FnOK Go.Proofs.Try.prog 48 ir48 := ⟨_, _, Go.Proofs.Try.func48, by kernel_rfl, rfl, by kernel_rfl, by kernel_rfl⟩
theorem ok49 : FnOK Go.Proofs.Try.prog 49 ir49 := ⟨_, _, Go.Proofs.Try.func49, by kernel_rfl, rfl, by kernel_rfl, by kernel_rfl⟩
theorem ok50 : FnOK Go.Proofs.Try.prog 50 ir50 := ⟨_, _, Go.Proofs.Try.func50, by kernel_rfl, rfl, by kernel_rfl, by kernel_rfl⟩
theorem ok51 : FnOK Go.Proofs.Try.prog 51 ir51 := ⟨_, _, Go.Proofs.Try.func51, by kernel_rfl, rfl, by kernel_rfl, by kernel_rfl⟩
theorem ok52 : FnOK Go.Proofs.Try.prog 52 ir52 := ⟨_, _, Go.Proofs.Try.func52, by kernel_rfl, rfl, by kernel_rfl, by kernel_rfl⟩
theorem ok84 : FnOK Go.Proofs.Try.prog 84 ir84 := ⟨_, _, Go.Proofs.Try.func84, by kernel_rfl, rfl, by kernel_rfl, by kernel_rfl⟩
theorem ok85 : FnOK Go.Proofs.Try.prog 85 ir85 := ⟨_, _, Go.Proofs.Try.func85, by kernel_rfl, rfl, by kernel_rfl, by kernel_rfl⟩
theorem ok86 : FnOK Go.Proofs.Try.prog 86 ir86 := ⟨_, _, Go.Proofs.Try.func86, by kernel_rfl, rfl, by kernel_rfl, by kernel_rfl⟩
theorem ok87 : FnOK Go.Proofs.Try.prog 87 ir87 := ⟨_, _, Go.Proofs.Try.func87, by kernel_rfl, rfl, by kernel_rfl, by kernel_rfl⟩
theorem ok88 : FnOK Go.Proofs.Try.prog 88 ir88 := ⟨_, _, Go.Proofs.Try.func88, by kernel_rfl, rfl, by kernel_rfl, by kernel_rfl⟩
theorem ok89 : FnOK Go.Proofs.Try.prog 89 ir89 := ⟨_, _, Go.Proofs.Try.func89, by kernel_rfl, rfl, by kernel_rfl, by kernel_rfl⟩
theorem ok93 : FnOK Go.Proofs.Try.prog 93 ir93 := ⟨_, _, Go.Proofs.Try.func93, by kernel_rfl, rfl, by kernel_rfl, by kernel_rfl⟩
theorem ok94 : FnOK Go.Proofs.Try.prog 94 ir94 := ⟨_, _, Go.Proofs.Try.func94, by kernel_rfl, rfl, by kernel_rfl, by kernel_rfl⟩
theorem ok95 : FnOK Go.Proofs.Try.prog 95 ir95 := ⟨_, _, Go.Proofs.Try.func95, by kernel_rfl, rfl, by kernel_rfl, by kernel_rfl⟩
theorem ok96 : FnOK Go.Proofs.Try.prog 96 ir96 := ⟨_, _, Go.Proofs.Try.func96, by kernel_rfl, rfl, by kernel_rfl, by kernel_rfl⟩
theorem ok97 : FnOK Go.Proofs.Try.prog 97 ir97 := ⟨_, _, Go.Proofs.Try.func97, by kernel_rfl, rfl, by kernel_rfl, by kernel_rfl⟩
theorem ok98 : FnOK Go.Proofs.Try.prog 98 ir98 := ⟨_, _, Go.Proofs.Try.func98, by kernel_rfl, rfl, by kernel_rfl, by kernel_rfl⟩
theorem ok99 : FnOK Go.Proofs.Try.prog 99 ir99 := ⟨_, _, Go.Proofs.Try.func99, by kernel_rfl, rfl, by kernel_rfl, by kernel_rfl⟩
theorem ok100 : FnOK Go.Proofs.Try.prog 100 ir100 := ⟨_, _, Go.Proofs.Try.func100, by kernel_rfl, rfl, by kernel_rfl, by kernel_rfl⟩
theorem ok101 : FnOK Go.Proofs.Try.prog 101 ir101 := ⟨_, _, Go.Proofs.Try.func101, by kernel_rfl, rfl, by kernel_rfl, by kernel_rfl⟩
theorem ok102 : FnOK Go.Proofs.Try.prog 102 ir102 := ⟨_, _, Go.Proofs.Try.func102, by kernel_rfl, rfl, by kernel_rfl, by kernel_rfl⟩
theorem ok103 : FnOK Go.Proofs.Try.prog 103 ir103 := ⟨_, _, Go.Proofs.Try.func103, by kernel_rfl, rfl, by kernel_rfl, by kernel_rfl⟩
theorem ok104 : FnOK Go.Proofs.Try.prog 104 ir104 := ⟨_, _, Go.Proofs.Try.func104, by kernel_rfl, rfl, by kernel_rfl, by kernel_rfl⟩
theorem ok105 : FnOK Go.Proofs.Try.prog 105 ir105 := ⟨_, _, Go.Proofs.Try.func105, by kernel_rfl, rfl, by kernel_rfl, by kernel_rfl⟩
theorem ok106 : FnOK Go.Proofs.Try.prog 106 ir106 := ⟨_, _, Go.Proofs.Try.func106, by kernel_rfl, rfl, by kernel_rfl, by kernel_rfl⟩
theorem ok107 : FnOK Go.Proofs.Try.prog 107 ir107 := ⟨_, _, Go.Proofs.Try.func107, by kernel_rfl, rfl, by kernel_rfl, by kernel_rfl⟩
theorem ok108 : FnOK Go.Proofs.Try.prog 108 ir108 := ⟨_, _, Go.Proofs.Try.func108, by kernel_rfl, rfl, by kernel_rfl, by kernel_rfl⟩
theorem ok109 : FnOK Go.Proofs.Try.prog 109 ir109 := ⟨_, _, Go.Proofs.Try.func109, by kernel_rfl, rfl, by kernel_rfl, by kernel_rfl⟩
theorem ok110 : FnOK Go.Proofs.Try.prog 110 ir110 := ⟨_, _, Go.Proofs.Try.func110, by kernel_rfl, rfl, by kernel_rfl, by kernel_rfl⟩
theorem ok111 : FnOK Go.Proofs.Try.prog 111 ir111 := ⟨_, _, Go.Proofs.Try.func111, by kernel_rfl, rfl, by kernel_rfl, by kernel_rfl⟩
theorem ok139 : FnOK Go.Proofs.Try.prog 139 ir139 := ⟨_, _, Go.Proofs.Try.func139, by kernel_rfl, rfl, by kernel_rfl, by kernel_rfl⟩
theorem ok140 : FnOK Go.Proofs.Try.prog 140 ir140 := ⟨_, _, Go.Proofs.Try.func140, by kernel_rfl, rfl, by kernel_rfl, by kernel_rfl⟩
theorem ok141 : FnOK Go.Proofs.Try.prog 141 ir141 := ⟨_, _, Go.Proofs.Try.func141, by kernel_rfl, rfl, by kernel_rfl, by kernel_rfl⟩
theorem ok142 : FnOK Go.Proofs.Try.prog 142 ir142 := ⟨_, _, Go.Proofs.Try.func142, by kernel_rfl, rfl, by kernel_rfl, by kernel_rfl⟩
theorem ok143 : FnOK Go.Proofs.Try.prog 143 ir143 := ⟨_, _, Go.Proofs.Try.func143, by kernel_rfl, rfl, by kernel_rfl, by kernel_rfl⟩
theorem ok144 : FnOK Go.Proofs.Try.prog 144 ir144 := ⟨_, _, Go.Proofs.Try.func144, by kernel_rfl, rfl, by kernel_rfl, by kernel_rfl⟩
theorem ok145 : FnOK Go.Proofs.Try.prog 145 ir145 := ⟨_, _, Go.Proofs.Try.func145, by kernel_rfl, rfl, by kernel_rfl, by kernel_rfl⟩
theorem ok146 : FnOK Go.Proofs.Try.prog 146 ir146 := ⟨_, _, Go.Proofs.Try.func146, by kernel_rfl, rfl, by kernel_rfl, by kernel_rfl⟩
theorem ok147 : FnOK Go.Proofs.Try.prog 147 ir147 := ⟨_, _, Go.Proofs.Try.func147, by kernel_rfl, rfl, by kernel_rfl, by kernel_rfl⟩
theorem ok148 : FnOK Go.Proofs.Try.prog 148 ir148 := ⟨_, _, Go.Proofs.Try.func148, by kernel_rfl, rfl, by kernel_rfl, by kernel_rfl⟩
theorem ok149 : FnOK Go.Proofs.Try.prog 149 ir149 := ⟨_, _, Go.Proofs.Try.func149, by kernel_rfl, rfl, by kernel_rfl, by kernel_rfl⟩
theorem ok177 : FnOK Go.Proofs.Try.prog 177 ir177 := ⟨_, _, Go.Proofs.Try.func177, by kernel_rfl, rfl, by kernel_rfl, by kernel_rfl⟩
theorem ok178 : FnOK Go.Proofs.Try.prog 178 ir178 := ⟨_, _, Go.Proofs.Try.func178, by kernel_rfl, rfl, by kernel_rfl, by kernel_rfl⟩
theorem ok179 : FnOK Go.Proofs.Try.prog 179 ir179 := ⟨_, _, Go.Proofs.Try.func179, by kernel_rfl, rfl, by kernel_rfl, by kernel_rfl⟩
theorem ok180 : FnOK Go.Proofs.Try.prog 180 ir180 := ⟨_, _, Go.Proofs.Try.func180, by kernel_rfl, rfl, by kernel_rfl, by kernel_rfl⟩
theorem ok181 : FnOK Go.Proofs.Try.prog 181 ir181 := ⟨_, _, Go.Proofs.Try.func181, by kernel_rfl, rfl, by kernel_rfl, by kernel_rfl⟩
theorem ok : ∀ p ∈ tab, FnOK Go.Proofs.Try.prog p.1 p.2 := by
  unfold tab
  exact all_cons ok3 (all_cons ok4 (all_cons ok7 (all_cons ok8 (all_cons ok17 (all_cons ok18 (all_cons ok19 (all_cons ok20 (all_cons ok21 (all_cons ok22 (all_cons ok23 (all_cons ok24 (all_cons ok25 (all_cons ok26 (all_cons ok27 (all_cons ok28 (all_cons ok29 (all_cons ok30 (all_cons ok31 (all_cons ok32 (all_cons ok33 (all_cons ok44 (all_cons ok45 (all_cons ok46 (all_cons ok47 (all_cons ok48 (all_cons ok49 (all_cons ok50 (all_cons ok51 (all_cons ok52 (all_cons ok84 (all_cons ok85 (all_cons ok86 (all_cons ok87 (all_cons ok88 (all_cons ok89 (all_cons ok93 (all_cons ok94 (all_cons ok95 (all_cons ok96 (all_cons ok97 (all_cons ok98 (all_cons ok99 (all_cons ok100 (all_cons ok101 (all_cons ok102 (all_cons ok103 (all_cons ok104 (all_cons ok105 (all_cons ok106 (all_cons ok107 (all_cons ok108 (all_cons ok109 (all_cons ok110 (all_cons ok111 (all_cons ok139 (all_cons ok140 (all_cons ok141 (all_cons ok142 (all_cons ok143 (all_cons ok144 (all_cons ok145 (all_cons ok146 (all_cons ok147 (all_cons ok148 (all_cons ok149 (all_cons ok177 (all_cons ok178 (all_cons ok179 (all_cons ok180 (all_cons ok181 (all_nil)))))))))))))))))))))))))))))))))))))))))))))))))))))))))))))))))))))))
theorem envOK : EnvOK Go.Proofs.Try.prog EE where
  mix := by kernel_rfl
  fns f fn h := fnOK_find ok h
  prims f g h := by cases h
end Go.EnvOf
