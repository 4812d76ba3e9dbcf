/- The functions of the table are the program's. -/
import Derived.Test.YtfjgcfloallohaaEng22
import Derived.Test.YtfjgcfloallohaaTab
import Derived.Test.YtfjgcfloallohaaProg
namespace Go.EnvOf
open Go Go.Eng
set_option maxRecDepth 100000
theorem ok3 : FnOK Go.Proofs.Try.prog 3 ir3 := ⟨_, _, Go.Proofs.Try.func3, by kernel_rfl, rfl, by kernel_rfl, by kernel_rfl⟩
theorem ok4 : FnOK Go.Proofs.Try.prog 4 ir4 := ⟨_, _, Go.Proofs.Try.func4, by kernel_rfl, rfl, by kernel_rfl, by kernel_rfl⟩
theorem ok5 : FnOK Go.Proofs.Try.prog 5 ir5 := ⟨_, _, Go.Proofs.Try.func5, by kernel_rfl, rfl, by kernel_rfl, by kernel_rfl⟩
theorem ok17 : FnOK Go.Proofs.Try.prog 17 ir17 := ⟨_, _, Go.Proofs.Try.func17, by kernel_rfl, rfl, by kernel_rfl, by kernel_rfl⟩
theorem ok18 : FnOK Go.Proofs.Try.prog 18 ir18 := ⟨_, _, Go.Proofs.Try.func18, by kernel_rfl, rfl, by kernel_rfl, by kernel_rfl⟩
theorem ok19 : FnOK Go.Proofs.Try.prog 19 ir19 := ⟨_, _, Go.Proofs.Try.func19, by kernel_rfl, rfl, by kernel_rfl, by kernel_rfl⟩
theorem ok20 : FnOK Go.Proofs.Try.prog 20 ir20 := ⟨_, _, Go.Proofs.Try.func20, by kernel_rfl, rfl, by kernel_rfl, by kernel_rfl⟩
theorem ok21 : FnOK Go.Proofs.Try.prog 21 ir21 := ⟨_, _, Go.Proofs.Try.func21, by kernel_rfl, rfl, by kernel_rfl, by kernel_rfl⟩
theorem ok22 : FnOK Go.Proofs.Try.prog 22 ir22 := ⟨_, _, Go.Proofs.Try.func22, by kernel_rfl, rfl, by kernel_rfl, by kernel_rfl⟩
theorem ok23 : FnOK Go.Proofs.Try.prog 23 ir23 := ⟨_, _, Go.Proofs.Try.func23, by kernel_rfl, rfl, by kernel_rfl, by kernel_rfl⟩
theorem ok24 : FnOK Go.Proofs.Try.prog 24 ir24 := ⟨_, _, Go.Proofs.Try.func24, by kernel_rfl, rfl, by kernel_rfl, by kernel_rfl⟩
theorem ok25 : FnOK Go.Proofs.Try.prog 25 ir25 := ⟨_, _, Go.Proofs.Try.func25, by kernel_rfl, rfl, by kernel_rfl, by kernel_rfl⟩
theorem ok26 : FnOK Go.Proofs.Try.prog 26 ir26 := ⟨_, _, Go.Proofs.Try.func26, by kernel_rfl, rfl, by kernel_rfl, by kernel_rfl⟩
theorem ok27 : FnOK Go.Proofs.Try.prog 27 ir27 := ⟨_, _, Go.Proofs.Try.func27, by kernel_rfl, rfl, by kernel_rfl, by kernel_rfl⟩
theorem ok28 : FnOK Go.Proofs.Try.prog 28 ir28 := ⟨_, _, Go.Proofs.Try.func28, by kernel_rfl, rfl, by kernel_rfl, by kernel_rfl⟩
theorem ok29 : FnOK Go.Proofs.Try.prog 29 ir29 := ⟨_, _, Go.Proofs.Try.func29, by kernel_rfl, rfl, by kernel_rfl, by kernel_rfl⟩
theorem ok30 : FnOK Go.Proofs.Try.prog 30 ir30 := ⟨_, _, Go.Proofs.Try.func30, by kernel_rfl, rfl, by kernel_rfl, by kernel_rfl⟩
theorem ok31 : FnOK Go.Proofs.Try.prog 31 ir31 := ⟨_, _, Go.Proofs.Try.func31, by kernel_rfl, rfl, by kernel_rfl, by kernel_rfl⟩
theorem ok32 : FnOK Go.Proofs.Try.prog 32 ir32 := ⟨_, _, Go.Proofs.Try.func32, by kernel_rfl, rfl, by kernel_rfl, by kernel_rfl⟩
theorem ok33 : FnOK Go.Proofs.Try.prog 33 ir33 := ⟨_, _, Go.Proofs.Try.func33, by kernel_rfl, rfl, by kernel_rfl, by kernel_rfl⟩
theorem ok84 : FnOK Go.Proofs.Try.prog 84 ir84 := ⟨_, _, Go.Proofs.Try.func84, by kernel_rfl, rfl, by kernel_rfl, by kernel_rfl⟩
theorem ok85 : FnOK Go.Proofs.Try.prog 85 ir85 := ⟨_, _, Go.Proofs.Try.func85, by kernel_rfl, rfl, by kernel_rfl, by kernel_rfl⟩
theorem ok86 : FnOK Go.Proofs.Try.prog 86 ir86 := ⟨_, _, Go.Proofs.Try.func86, by kernel_rfl, rfl, by kernel_rfl, by kernel_rfl⟩
theorem ok87 : FnOK Go.Proofs.Try.prog 87 ir87 := ⟨_, _, Go.Proofs.Try.func87, by kernel_rfl, rfl, by kernel_rfl, by kernel_rfl⟩
theorem ok88 : FnOK Go.Proofs.Try.prog 88 ir88 := ⟨_, _, Go.Proofs.Try.func88, by kernel_rfl, rfl, by kernel_rfl, by kernel_rfl⟩
theorem ok89 : FnOK Go.Proofs.Try.prog 89 ir89 := ⟨_, _, Go.Proofs.Try.func89, by kernel_rfl, rfl, by kernel_rfl, by kernel_rfl⟩
theorem ok : ∀ p ∈ tab, FnOK Go.Proofs.Try.prog p.1 p.2 := by
  unfold tab
  exact all_cons ok3 (all_cons ok4 (all_cons ok5 (all_cons ok17 (all_cons ok18 (all_cons ok19 (all_cons ok20 (all_cons ok21 (all_cons ok22 (all_cons ok23 (all_cons ok24 (all_cons ok25 (all_cons ok26 (all_cons ok27 (all_cons ok28 (all_cons ok29 (all_cons ok30 (all_cons ok31 (all_cons ok32 (all_cons ok33 (all_cons ok84 (all_cons ok85 (all_cons ok86 (all_cons ok87 (all_cons ok88 (all_cons ok89 (all_nil))))))))))))))))))))))))))
theorem envOK : EnvOK Go.Proofs.Try.prog EE where
  mix := by kernel_rfl
  fns f fn h := fnOK_find ok h
  prims f g h := by cases h
end Go.EnvOf
