/- The law AreaOrder: whatever the geometry, the floats and the counts, it answers true, and they read as they did. -/
import Derived.Test.YtfjgcfloallohaaRows
import Derived.WalkKit
import Derived.ProofKit
import Derived.OpenShut
import Derived.ShutString
import Derived.ChangeOld
import Derived.Carry
import Derived.SizedLaws
import Derived.Test.YtfjgcfloallohaaShapes
import Derived.Test.YtfjgcfloallohaaText3
namespace Go.Proofs.Ytfjgcfloallohaa.areaOrder
open Go.ChangeShapes Go.WideShapes Go.ChangeAt Go.RowKit Go.Eng
set_option linter.unusedVariables false
set_option maxRecDepth 100000
theorem own : ownKnob Try.prog.godebug = none := by kernel_rfl
theorem laidOut : laidOutB Try.prog = true := by kernel_rfl
theorem params : Try.f16.params = #[55, 57, 107] := rfl
theorem lifted (os : Os) (started : os.Started) (H : Type) (enc : TypeId × Value → H) :
    ReturnsInHanded {} Try.checked os 16 .any (Rows.areaOrderSpec.pre6 enc Try.prog Try.f16 Rows.areaOrderRow.domain false) (Rows.areaOrderSpec.post enc Try.prog Try.f16 false true false false) := by
  refine returnsInHanded_of_change_sized (C := Try.checked) own started (by kernel_rfl) Try.func16
    (ChangeSpec.witness6 (enc := enc) (C := Try.checked) false ⟨#[], #[.agg #[.int .i64 0, .int .i64 0, .int .i64 0, .int .i64 0, .int .i64 0, .int .i64 0, .int .i64 0, .int .i64 0, .int .i64 0, .int .i64 0, .int .i64 0, .int .i64 0, .int .i64 0, .int .i64 0, .int .i64 0, .int .i64 0, .int .i64 0, .int .i64 0, .bool false], .slice none 0 0, .agg #[.int .i64 0, .int .i64 0, .int .i64 0, .int .i64 0, .int .i64 0, .int .i64 0]], []⟩ 8 (by kernel_rfl) (by kernel_rfl) (by kernel_rfl) (by kernel_rfl)) ?_
  intro W base args ds gs before hval hW hcnd hsz0 _
  have hW' := hW
  obtain ⟨p, q, hA, hV, rfl, hfz, hnd⟩ := hW
  rw [params] at hA hval
  obtain ⟨v0, vs0, d0, ds0, p0, q0, hargs, rfl, rfl, h0, r0⟩ := trodAll_cons hA
  obtain ⟨v1, vs1, d1, ds1, p1, q1, rfl, rfl, rfl, h1, r1⟩ := trodAll_cons r0
  obtain ⟨v2, vs2, d2, ds2, p2, q2, rfl, rfl, rfl, h2, r2⟩ := trodAll_cons r1
  obtain ⟨rfl, rfl, rfl⟩ := trodAll_nil r2
  obtain rfl : args = #[v0, v1, v2] := by cases args; simp_all
  obtain ⟨rfl, rfl⟩ := trodVars_none hV
  obtain ⟨y0, s0, e0⟩ := open_arg 5 (t := 55) (by kernel_rfl) (hval 0 55 v0 rfl rfl) h0
  obtain ⟨y1, s1, e1⟩ := open_arg 5 (t := 57) (by kernel_rfl) (hval 1 57 v1 rfl rfl) h1
  obtain ⟨y2, s2, e2⟩ := open_arg 5 (t := 107) (by kernel_rfl) (hval 2 107 v2 rfl rfl) h2
  obtain ⟨x0, a0, w0⟩ := EnvOf.arg_geom s0
  obtain ⟨x1, a1, w1⟩ := EnvOf.arg_floats s1
  obtain ⟨x2, a2, w2⟩ := EnvOf.arg_c23 s2
  have f0 : VRep (Gh0 Try.prog W) v0 (argV Try.prog 55 y0) := e0
  rw [a0] at f0
  have f1 : VRep (Gh0 Try.prog W) v1 (argV Try.prog 57 y1) := e1
  rw [a1] at f1
  have f2 : VRep (Gh0 Try.prog W) v2 (argV Try.prog 107 y2) := e2
  rw [a2] at f2
  have lt0 : ∀ x ∈ p0, x.block < W.heap.size := by obtain ⟨m, hm⟩ := h0; exact DataW.trod_lt m _ _ _ hm
  have lt1 : ∀ x ∈ p1, x.block < W.heap.size := by obtain ⟨m, hm⟩ := h1; exact DataW.trod_lt m _ _ _ hm
  have lt2 : ∀ x ∈ p2, x.block < W.heap.size := by obtain ⟨m, hm⟩ := h2; exact DataW.trod_lt m _ _ _ hm
  refine (calls_true EnvOf.envOK (EnvOf.areaOrder_ev x0 x1 x2.1 x2.2) (args := #[v0, v1, v2]) rfl (fun j hj => ?_)).mono fun e W' he => ?_
  · match j, hj with
    | 0, _ => exact f0
    | 1, _ => exact f1
    | 2, _ => exact f2
  · obtain ⟨rfl, bel⟩ := he
    exact ⟨_, rfl, _, _, _, [], _, [], hW', trodAll_mk1 (shut_bool (t := 4) (by kernel_rfl) _),
      trodAll_cons_mk (Below.trod laidOut (by kernel_rfl) (of_decide_eq_true (by kernel_rfl)) h0 bel lt0) (trodAll_cons_mk (Below.trod laidOut (by kernel_rfl) (of_decide_eq_true (by kernel_rfl)) h1 bel lt1) (trodAll_cons_mk (Below.trod laidOut (by kernel_rfl) (of_decide_eq_true (by kernel_rfl)) h2 bel lt2) (trodAll_mk0))), rfl, bel.frame _, fun h => by cases h⟩
theorem over : Rows.areaOrderRow.holds Try.pinned (OpenSpec.ofChange Rows.areaOrderSpec) :=
  OpenClaim.holds_of_wide 16 Try.f16 rfl rfl rfl rfl rfl rfl rfl ⟨rfl, rfl, rfl, rfl, rfl⟩ rfl rfl rfl rfl rfl (by kernel_rfl) Try.func16 (by kernel_rfl)
    (of_decide_eq_true (by kernel_rfl)) (by unfold Func.isWrapper; first | (rw [if_pos (by decide +kernel)]; kernel_rfl) | (rw [if_neg (by decide +kernel)]; exact ⟨rfl, rfl⟩))
    (fun os started H enc _ => lifted os started H enc)
theorem proved : Rows.AreaOrderSaid := over
#print axioms proved
end Go.Proofs.Ytfjgcfloallohaa.areaOrder
namespace Go.Proofs.Ytfjgcfloallohaa
/-- The row, under a short name, for the claim. -/
theorem areaOrder_holds : Rows.AreaOrderSaid := areaOrder.proved
end Go.Proofs.Ytfjgcfloallohaa
