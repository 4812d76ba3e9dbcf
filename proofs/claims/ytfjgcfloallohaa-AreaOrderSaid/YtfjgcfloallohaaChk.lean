/- The functions of the table are the program's. -/
import Derived.Test.YtfjgcfloallohaaProg
import Derived.Test.YtfjgcfloallohaaEngAll7
import Derived.Test.YtfjgcfloallohaaTab
import Derived.Test.YtfjgcfloallohaaEngAll8
import Derived.Test.YtfjgcfloallohaaSortLay
namespace Go.EnvOf
open Go Go.Eng
set_option maxRecDepth 100000
theorem ok14 : FnOK Go.Proofs.Try.prog 14 ir14 := ⟨_, _, Go.Proofs.Try.func14, by kernel_rfl, rfl, by kernel_rfl, by kernel_rfl⟩
theorem ok15 : FnOK Go.Proofs.Try.prog 15 ir15 := ⟨_, _, Go.Proofs.Try.func15, by kernel_rfl, rfl, by kernel_rfl, by kernel_rfl⟩
theorem ok16 : FnOK Go.Proofs.Try.prog 16 ir16 := ⟨_, _, Go.Proofs.Try.func16, by kernel_rfl, rfl, by kernel_rfl, by kernel_rfl⟩
theorem ok24 : FnOK Go.Proofs.Try.prog 24 ir24 := ⟨_, _, Go.Proofs.Try.func24, by kernel_rfl, rfl, by kernel_rfl, by kernel_rfl⟩
theorem ok67 : FnOK Go.Proofs.Try.prog 67 ir67 := ⟨_, _, Go.Proofs.Try.func67, by kernel_rfl, rfl, by kernel_rfl, by kernel_rfl⟩
theorem ok68 : FnOK Go.Proofs.Try.prog 68 ir68 := ⟨_, _, Go.Proofs.Try.func68, by kernel_rfl, rfl, by kernel_rfl, by kernel_rfl⟩
theorem ok69 : FnOK Go.Proofs.Try.prog 69 ir69 := ⟨_, _, Go.Proofs.Try.func69, by kernel_rfl, rfl, by kernel_rfl, by kernel_rfl⟩
theorem ok70 : FnOK Go.Proofs.Try.prog 70 ir70 := ⟨_, _, Go.Proofs.Try.func70, by kernel_rfl, rfl, by kernel_rfl, by kernel_rfl⟩
theorem ok71 : FnOK Go.Proofs.Try.prog 71 ir71 := ⟨_, _, Go.Proofs.Try.func71, by kernel_rfl, rfl, by kernel_rfl, by kernel_rfl⟩
theorem ok72 : FnOK Go.Proofs.Try.prog 72 ir72 := ⟨_, _, Go.Proofs.Try.func72, by kernel_rfl, rfl, by kernel_rfl, by kernel_rfl⟩
theorem ok73 : FnOK Go.Proofs.Try.prog 73 ir73 := ⟨_, _, Go.Proofs.Try.func73, by kernel_rfl, rfl, by kernel_rfl, by kernel_rfl⟩
theorem ok74 : FnOK Go.Proofs.Try.prog 74 ir74 := ⟨_, _, Go.Proofs.Try.func74, by kernel_rfl, rfl, by kernel_rfl, by kernel_rfl⟩
theorem ok75 : FnOK Go.Proofs.Try.prog 75 ir75 := ⟨_, _, Go.Proofs.Try.func75, by kernel_rfl, rfl, by kernel_rfl, by kernel_rfl⟩
theorem ok76 : FnOK Go.Proofs.Try.prog 76 ir76 := ⟨_, _, Go.Proofs.Try.func76, by kernel_rfl, rfl, by kernel_rfl, by kernel_rfl⟩
theorem ok77 : FnOK Go.Proofs.Try.prog 77 ir77 := ⟨_, _, Go.Proofs.Try.func77, by kernel_rfl, rfl, by kernel_rfl, by kernel_rfl⟩
theorem ok78 : FnOK Go.Proofs.Try.prog 78 ir78 := ⟨_, _, Go.Proofs.Try.func78, by kernel_rfl, rfl, by kernel_rfl, by kernel_rfl⟩
theorem ok79 : FnOK Go.Proofs.Try.prog 79 ir79 := ⟨_, _, Go.Proofs.Try.func79, by kernel_rfl, rfl, by kernel_rfl, by kernel_rfl⟩
theorem ok80 : FnOK Go.Proofs.Try.prog 80 ir80 := ⟨_, _, Go.Proofs.Try.func80, by kernel_rfl, rfl, by kernel_rfl, by kernel_rfl⟩
theorem ok81 : FnOK Go.Proofs.Try.prog 81 ir81 := ⟨_, _, Go.Proofs.Try.func81, by kernel_rfl, rfl, by kernel_rfl, by kernel_rfl⟩
theorem ok82 : FnOK Go.Proofs.Try.prog 82 ir82 := ⟨_, _, Go.Proofs.Try.func82, by kernel_rfl, rfl, by kernel_rfl, by kernel_rfl⟩
theorem ok83 : FnOK Go.Proofs.Try.prog 83 ir83 := ⟨_, _, Go.Proofs.Try.func83, by kernel_rfl, rfl, by kernel_rfl, by kernel_rfl⟩
theorem ok89 : FnOK Go.Proofs.Try.prog 89 ir89 := ⟨_, _, Go.Proofs.Try.func89, by kernel_rfl, rfl, by kernel_rfl, by kernel_rfl⟩
theorem ok121 : FnOK Go.Proofs.Try.prog 121 ir121 := ⟨_, _, Go.Proofs.Try.func121, by kernel_rfl, rfl, by kernel_rfl, by kernel_rfl⟩
theorem ok123 : FnOK Go.Proofs.Try.prog 123 ir123 := ⟨_, _, Go.Proofs.Try.func123, by kernel_rfl, rfl, by kernel_rfl, by kernel_rfl⟩
theorem ok124 : FnOK Go.Proofs.Try.prog 124 ir124 := ⟨_, _, Go.Proofs.Try.func124, by kernel_rfl, rfl, by kernel_rfl, by kernel_rfl⟩
theorem ok125 : FnOK Go.Proofs.Try.prog 125 ir125 := ⟨_, _, Go.Proofs.Try.func125, by kernel_rfl, rfl, by kernel_rfl, by kernel_rfl⟩
theorem ok126 : FnOK Go.Proofs.Try.prog 126 ir126 := ⟨_, _, Go.Proofs.Try.func126, by kernel_rfl, rfl, by kernel_rfl, by kernel_rfl⟩
theorem ok127 : FnOK Go.Proofs.Try.prog 127 ir127 := ⟨_, _, Go.Proofs.Try.func127, by kernel_rfl, rfl, by kernel_rfl, by kernel_rfl⟩
theorem ok128 : FnOK Go.Proofs.Try.prog 128 ir128 := ⟨_, _, Go.Proofs.Try.func128, by kernel_rfl, rfl, by kernel_rfl, by kernel_rfl⟩
theorem ok129 : FnOK Go.Proofs.Try.prog 129 ir129 := ⟨_, _, Go.Proofs.Try.func129, by kernel_rfl, rfl, by kernel_rfl, by kernel_rfl⟩
theorem ok130 : FnOK Go.Proofs.Try.prog 130 ir130 := ⟨_, _, Go.Proofs.Try.func130, by kernel_rfl, rfl, by kernel_rfl, by kernel_rfl⟩
theorem ok131 : FnOK Go.Proofs.Try.prog 131 ir131 := ⟨_, _, Go.Proofs.Try.func131, by kernel_rfl, rfl, by kernel_rfl, by kernel_rfl⟩
theorem ok132 : FnOK Go.Proofs.Try.prog 132 ir132 := ⟨_, _, Go.Proofs.Try.func132, by kernel_rfl, rfl, by kernel_rfl, by kernel_rfl⟩
theorem ok133 : FnOK Go.Proofs.Try.prog 133 ir133 := ⟨_, _, Go.Proofs.Try.func133, by kernel_rfl, rfl, by kernel_rfl, by kernel_rfl⟩
theorem ok134 : FnOK Go.Proofs.Try.prog 134 ir134 := ⟨_, _, Go.Proofs.Try.func134, by kernel_rfl, rfl, by kernel_rfl, by kernel_rfl⟩
theorem ok135 : FnOK Go.Proofs.Try.prog 135 ir135 := ⟨_, _, Go.Proofs.Try.func135, by kernel_rfl, rfl, by kernel_rfl, by kernel_rfl⟩
theorem ok136 : FnOK Go.Proofs.Try.prog 136 ir136 := ⟨_, _, Go.Proofs.Try.func136, by kernel_rfl, rfl, by kernel_rfl, by kernel_rfl⟩
theorem ok170 : FnOK Go.Proofs.Try.prog 170 ir170 := ⟨_, _, Go.Proofs.Try.func170, by kernel_rfl, rfl, by kernel_rfl, by kernel_rfl⟩
theorem ok171 : FnOK Go.Proofs.Try.prog 171 ir171 := ⟨_, _, Go.Proofs.Try.func171, by kernel_rfl, rfl, by kernel_rfl, by kernel_rfl⟩
theorem ok172 : FnOK Go.Proofs.Try.prog 172 ir172 := ⟨_, _, Go.Proofs.Try.func172, by kernel_rfl, rfl, by kernel_rfl, by kernel_rfl⟩
theorem ok216 : FnOK Go.Proofs.Try.prog 216 ir216 := ⟨_, _, Go.Proofs.Try.func216, by kernel_rfl, rfl, by kernel_rfl, by kernel_rfl⟩
theorem ok217 : FnOK Go.Proofs.Try.prog 217 ir217 := ⟨_, _, Go.Proofs.Try.func217, by kernel_rfl, rfl, by kernel_rfl, by kernel_rfl⟩
theorem ok218 : FnOK Go.Proofs.Try.prog 218 ir218 := ⟨_, _, Go.Proofs.Try.func218, by kernel_rfl, rfl, by kernel_rfl, by kernel_rfl⟩
theorem ok219 : FnOK Go.Proofs.Try.prog 219 ir219 := ⟨_, _, Go.Proofs.Try.func219, by kernel_rfl, rfl, by kernel_rfl, by kernel_rfl⟩
theorem ok : ∀ p ∈ tab, FnOK Go.Proofs.Try.prog p.1 p.2 := by
  unfold tab
  exact all_cons ok14 (all_cons ok15 (all_cons ok16 (all_cons ok24 (all_cons ok67 (all_cons ok68 (all_cons ok69 (all_cons ok70 (all_cons ok71 (all_cons ok72 (all_cons ok73 (all_cons ok74 (all_cons ok75 (all_cons ok76 (all_cons ok77 (all_cons ok78 (all_cons ok79 (all_cons ok80 (all_cons ok81 (all_cons ok82 (all_cons ok83 (all_cons ok89 (all_cons ok121 (all_cons ok123 (all_cons ok124 (all_cons ok125 (all_cons ok126 (all_cons ok127 (all_cons ok128 (all_cons ok129 (all_cons ok130 (all_cons ok131 (all_cons ok132 (all_cons ok133 (all_cons ok134 (all_cons ok135 (all_cons ok136 (all_cons ok170 (all_cons ok171 (all_cons ok172 (all_cons ok216 (all_cons ok217 (all_cons ok218 (all_cons ok219 (all_nil))))))))))))))))))))))))))))))))))))))))))))
theorem envOK : EnvOK Go.Proofs.Try.prog EE where
  mix := by kernel_rfl
  fns f fn h := fnOK_find ok h
  prims f g h := by
    have h' : (if f = 122 then some sortP else none) = some g := h
    split at h'
    · rename_i e; subst e; cases h'
      exact fun vs H r hr G own w args _ ha h0 hw _ => sort_prim Go.Proofs.Try.lays189 (fun xs w1 => run_callFunc_fn Go.Proofs.Try.func122 rfl rfl xs w1) hr ha h0 hw
    · cases h'
end Go.EnvOf
