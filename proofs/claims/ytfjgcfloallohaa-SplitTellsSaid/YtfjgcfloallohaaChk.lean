/- The functions of the table are the program's. -/
import Derived.Test.YtfjgcfloallohaaProg
import Derived.Test.YtfjgcfloallohaaEngAll7
import Derived.Test.YtfjgcfloallohaaTab
namespace Go.EnvOf
open Go Go.Eng
set_option maxRecDepth 100000
theorem ok4 : FnOK Go.Proofs.Try.prog 4 ir4 := ⟨_, _, Go.Proofs.Try.func4, by kernel_rfl, rfl, by kernel_rfl, by kernel_rfl⟩
theorem ok6 : FnOK Go.Proofs.Try.prog 6 ir6 := ⟨_, _, Go.Proofs.Try.func6, by kernel_rfl, rfl, by kernel_rfl, by kernel_rfl⟩
theorem ok17 : FnOK Go.Proofs.Try.prog 17 ir17 := ⟨_, _, Go.Proofs.Try.func17, by kernel_rfl, rfl, by kernel_rfl, by kernel_rfl⟩
theorem ok18 : FnOK Go.Proofs.Try.prog 18 ir18 := ⟨_, _, Go.Proofs.Try.func18, by kernel_rfl, rfl, by kernel_rfl, by kernel_rfl⟩
theorem ok20 : FnOK Go.Proofs.Try.prog 20 ir20 := ⟨_, _, Go.Proofs.Try.func20, by kernel_rfl, rfl, by kernel_rfl, by kernel_rfl⟩
theorem ok22 : FnOK Go.Proofs.Try.prog 22 ir22 := ⟨_, _, Go.Proofs.Try.func22, by kernel_rfl, rfl, by kernel_rfl, by kernel_rfl⟩
theorem ok25 : FnOK Go.Proofs.Try.prog 25 ir25 := ⟨_, _, Go.Proofs.Try.func25, by kernel_rfl, rfl, by kernel_rfl, by kernel_rfl⟩
theorem ok27 : FnOK Go.Proofs.Try.prog 27 ir27 := ⟨_, _, Go.Proofs.Try.func27, by kernel_rfl, rfl, by kernel_rfl, by kernel_rfl⟩
theorem ok29 : FnOK Go.Proofs.Try.prog 29 ir29 := ⟨_, _, Go.Proofs.Try.func29, by kernel_rfl, rfl, by kernel_rfl, by kernel_rfl⟩
theorem ok30 : FnOK Go.Proofs.Try.prog 30 ir30 := ⟨_, _, Go.Proofs.Try.func30, by kernel_rfl, rfl, by kernel_rfl, by kernel_rfl⟩
theorem ok34 : FnOK Go.Proofs.Try.prog 34 ir34 := ⟨_, _, Go.Proofs.Try.func34, by kernel_rfl, rfl, by kernel_rfl, by kernel_rfl⟩
theorem ok35 : FnOK Go.Proofs.Try.prog 35 ir35 := ⟨_, _, Go.Proofs.Try.func35, by kernel_rfl, rfl, by kernel_rfl, by kernel_rfl⟩
theorem ok36 : FnOK Go.Proofs.Try.prog 36 ir36 := ⟨_, _, Go.Proofs.Try.func36, by kernel_rfl, rfl, by kernel_rfl, by kernel_rfl⟩
theorem ok37 : FnOK Go.Proofs.Try.prog 37 ir37 := ⟨_, _, Go.Proofs.Try.func37, by kernel_rfl, rfl, by kernel_rfl, by kernel_rfl⟩
theorem ok38 : FnOK Go.Proofs.Try.prog 38 ir38 := ⟨_, _, Go.Proofs.Try.func38, by kernel_rfl, rfl, by kernel_rfl, by kernel_rfl⟩
theorem ok39 : FnOK Go.Proofs.Try.prog 39 ir39 := ⟨_, _, Go.Proofs.Try.func39, by kernel_rfl, rfl, by kernel_rfl, by kernel_rfl⟩
theorem ok40 : FnOK Go.Proofs.Try.prog 40 ir40 := ⟨_, _, Go.Proofs.Try.func40, by kernel_rfl, rfl, by kernel_rfl, by kernel_rfl⟩
theorem ok41 : FnOK Go.Proofs.Try.prog 41 ir41 := ⟨_, _, Go.Proofs.Try.func41, by kernel_rfl, rfl, by kernel_rfl, by kernel_rfl⟩
theorem ok42 : FnOK Go.Proofs.Try.prog 42 ir42 := ⟨_, _, Go.Proofs.Try.func42, by kernel_rfl, rfl, by kernel_rfl, by kernel_rfl⟩
theorem ok43 : FnOK Go.Proofs.Try.prog 43 ir43 := ⟨_, _, Go.Proofs.Try.func43, by kernel_rfl, rfl, by kernel_rfl, by kernel_rfl⟩
theorem ok84 : FnOK Go.Proofs.Try.prog 84 ir84 := ⟨_, _, Go.Proofs.Try.func84, by kernel_rfl, rfl, by kernel_rfl, by kernel_rfl⟩
theorem ok86 : FnOK Go.Proofs.Try.prog 86 ir86 := ⟨_, _, Go.Proofs.Try.func86, by kernel_rfl, rfl, by kernel_rfl, by kernel_rfl⟩
theorem ok87 : FnOK Go.Proofs.Try.prog 87 ir87 := ⟨_, _, Go.Proofs.Try.func87, by kernel_rfl, rfl, by kernel_rfl, by kernel_rfl⟩
theorem ok90 : FnOK Go.Proofs.Try.prog 90 ir90 := ⟨_, _, Go.Proofs.Try.func90, by kernel_rfl, rfl, by kernel_rfl, by kernel_rfl⟩
theorem ok91 : FnOK Go.Proofs.Try.prog 91 ir91 := ⟨_, _, Go.Proofs.Try.func91, by kernel_rfl, rfl, by kernel_rfl, by kernel_rfl⟩
theorem ok92 : FnOK Go.Proofs.Try.prog 92 ir92 := ⟨_, _, Go.Proofs.Try.func92, by kernel_rfl, rfl, by kernel_rfl, by kernel_rfl⟩
theorem ok137 : FnOK Go.Proofs.Try.prog 137 ir137 := ⟨_, _, Go.Proofs.Try.func137, by kernel_rfl, rfl, by kernel_rfl, by kernel_rfl⟩
theorem ok138 : FnOK Go.Proofs.Try.prog 138 ir138 := ⟨_, _, Go.Proofs.Try.func138, by kernel_rfl, rfl, by kernel_rfl, by kernel_rfl⟩
theorem ok173 : FnOK Go.Proofs.Try.prog 173 ir173 := ⟨_, _, Go.Proofs.Try.func173, by kernel_rfl, rfl, by kernel_rfl, by kernel_rfl⟩
theorem ok174 : FnOK Go.Proofs.Try.prog 174 ir174 := ⟨_, _, Go.Proofs.Try.func174, by kernel_rfl, rfl, by kernel_rfl, by kernel_rfl⟩
theorem ok175 : FnOK Go.Proofs.Try.prog 175 ir175 := ⟨_, _, Go.Proofs.Try.func175, by kernel_rfl, rfl, by kernel_rfl, by kernel_rfl⟩
theorem ok176 : FnOK Go.Proofs.Try.prog 176 ir176 := ⟨_, _, Go.Proofs.Try.func176, by kernel_rfl, rfl, by kernel_rfl, by kernel_rfl⟩
theorem ok : ∀ p ∈ tab, FnOK Go.Proofs.Try.prog p.1 p.2 := by
  unfold tab
  exact all_cons ok4 (all_cons ok6 (all_cons ok17 (all_cons ok18 (all_cons ok20 (all_cons ok22 (all_cons ok25 (all_cons ok27 (all_cons ok29 (all_cons ok30 (all_cons ok34 (all_cons ok35 (all_cons ok36 (all_cons ok37 (all_cons ok38 (all_cons ok39 (all_cons ok40 (all_cons ok41 (all_cons ok42 (all_cons ok43 (all_cons ok84 (all_cons ok86 (all_cons ok87 (all_cons ok90 (all_cons ok91 (all_cons ok92 (all_cons ok137 (all_cons ok138 (all_cons ok173 (all_cons ok174 (all_cons ok175 (all_cons ok176 (all_nil))))))))))))))))))))))))))))))))
theorem envOK : EnvOK Go.Proofs.Try.prog EE where
  mix := by kernel_rfl
  fns f fn h := fnOK_find ok h
  prims f g h := by cases h
end Go.EnvOf
