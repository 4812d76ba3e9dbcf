/- Notes: the same by the document. -/
import Derived.Test.YtfjgcfloallohaaNtLines
namespace Go.EnvOf
open Go Go.Eng

theorem rsame_lp0 (A M B N : List Int) (H : Heap) (Bs : Nat) (hA : A.length ≤ 1000000) (hl : A.length = B.length) : ∀ (n : Nat) (i : Int), ((A.length : Int) - i).toNat = n → 0 ≤ i → i ≤ A.length → A.take i.toNat = B.take i.toNat →
    (evD EE lp33_0 ⟨[(2, .lptr 2 0), (3, .lptr 3 0), (5, .p (.int .i64 i))], [(2, [sli A, sli M]), (3, [sli B, sli N])], H, Bs, []⟩ = some (.exit 0, ⟨[(2, .lptr 2 0), (3, .lptr 3 0), (5, .p (.int .i64 A.length)), (27, .p (.bool false))], [(2, [sli A, sli M]), (3, [sli B, sli N])], H, Bs, []⟩) ∧ A = B) ∨
      (evD EE lp33_0 ⟨[(2, .lptr 2 0), (3, .lptr 3 0), (5, .p (.int .i64 i))], [(2, [sli A, sli M]), (3, [sli B, sli N])], H, Bs, []⟩ = some (.ret, ⟨[(4, .p (.bool false))], [], H, Bs, []⟩) ∧ A ≠ B) := by
  intro n
  induction n with
  | zero =>
    intro i hn h0 h1 ht
    have e : i = A.length := by omega
    have e' : i.toNat = A.length := by omega
    refine .inl ⟨?_, ?_⟩
    · subst e
      unfold lp33_0
      rw [evD_loop]
      simp [sli, subs]
    · rw [e', List.take_length, hl, List.take_length] at ht; exact ht
  | succ n ih =>
    intro i hn h0 h1 ht
    have c : i < (A.length : Int) := by omega
    have c2 : i < (B.length : Int) := by omega
    have w : IntKind.i64.wrap (i + 1) = i + 1 := wrap64_in _ (by omega) (by omega)
    by_cases ce : rd A i = rd B i
    · have ht' : A.take (i + 1).toNat = B.take (i + 1).toNat := by rw [take_succ A i h0 c, take_succ B i h0 c2, ht, ce]
      have key := ih (i + 1) (by omega) (by omega) (by omega) ht'
      have st : evD EE lp33_0 ⟨[(2, .lptr 2 0), (3, .lptr 3 0), (5, .p (.int .i64 i))], [(2, [sli A, sli M]), (3, [sli B, sli N])], H, Bs, []⟩ = evD EE lp33_0 ⟨[(2, .lptr 2 0), (3, .lptr 3 0), (5, .p (.int .i64 (i + 1)))], [(2, [sli A, sli M]), (3, [sli B, sli N])], H, Bs, []⟩ := by
        conv => lhs; unfold lp33_0
        rw [evD_loop]
        simp (disch := omega) [sli, c, ixs_sli, subs, ce, w]
        rfl
      rw [st]; exact key
    · refine .inr ⟨?_, ?_⟩
      · unfold lp33_0
        rw [evD_loop]
        simp (disch := omega) [sli, c, ixs_sli, subs, ce]
      · rintro rfl; exact ce rfl
theorem rsame_lp1 (A M B N : List Int) (H : Heap) (Bs : Nat) (hA : M.length ≤ 1000000) (hl : M.length = N.length) : ∀ (n : Nat) (i : Int), ((M.length : Int) - i).toNat = n → 0 ≤ i → i ≤ M.length → M.take i.toNat = N.take i.toNat →
    (evD EE lp33_1 ⟨[(2, .lptr 2 0), (3, .lptr 3 0), (6, .p (.int .i64 i))], [(2, [sli A, sli M]), (3, [sli B, sli N])], H, Bs, []⟩ = some (.exit 2, ⟨[(2, .lptr 2 0), (3, .lptr 3 0), (6, .p (.int .i64 M.length)), (45, .p (.bool false))], [(2, [sli A, sli M]), (3, [sli B, sli N])], H, Bs, []⟩) ∧ M = N) ∨
      (evD EE lp33_1 ⟨[(2, .lptr 2 0), (3, .lptr 3 0), (6, .p (.int .i64 i))], [(2, [sli A, sli M]), (3, [sli B, sli N])], H, Bs, []⟩ = some (.ret, ⟨[(4, .p (.bool false))], [], H, Bs, []⟩) ∧ M ≠ N) := by
  intro n
  induction n with
  | zero =>
    intro i hn h0 h1 ht
    have e : i = M.length := by omega
    have e' : i.toNat = M.length := by omega
    refine .inl ⟨?_, ?_⟩
    · subst e
      unfold lp33_1
      rw [evD_loop]
      simp [sli, subs]
    · rw [e', List.take_length, hl, List.take_length] at ht; exact ht
  | succ n ih =>
    intro i hn h0 h1 ht
    have c : i < (M.length : Int) := by omega
    have c2 : i < (N.length : Int) := by omega
    have w : IntKind.i64.wrap (i + 1) = i + 1 := wrap64_in _ (by omega) (by omega)
    by_cases ce : rd M i = rd N i
    · have ht' : M.take (i + 1).toNat = N.take (i + 1).toNat := by rw [take_succ M i h0 c, take_succ N i h0 c2, ht, ce]
      have key := ih (i + 1) (by omega) (by omega) (by omega) ht'
      have st : evD EE lp33_1 ⟨[(2, .lptr 2 0), (3, .lptr 3 0), (6, .p (.int .i64 i))], [(2, [sli A, sli M]), (3, [sli B, sli N])], H, Bs, []⟩ = evD EE lp33_1 ⟨[(2, .lptr 2 0), (3, .lptr 3 0), (6, .p (.int .i64 (i + 1)))], [(2, [sli A, sli M]), (3, [sli B, sli N])], H, Bs, []⟩ := by
        conv => lhs; unfold lp33_1
        rw [evD_loop]
        simp (disch := omega) [sli, c, ixs_sli, subs, ce, w]
        rfl
      rw [st]; exact key
    · refine .inr ⟨?_, ?_⟩
      · unfold lp33_1
        rw [evD_loop]
        simp (disch := omega) [sli, c, ixs_sli, subs, ce]
      · rintro rfl; exact ce rfl

theorem rsame_ev (A M B N : List Int) (H : Heap) (hA : A.length ≤ 1000000) (hM : M.length ≤ 1000000) : clD EE (.p (.fn 33)) [note A M, note B N] H = some (.p (.bool (sameF A M B N)), none) := by
  rw [clD_body _ _ _ _ _ _ (noP _) fn33]
  unfold sameF
  by_cases c1 : (A.length : Int) = B.length
  · by_cases c2 : (M.length : Int) = N.length
    · have k0 := rsame_lp0 A M B N H H.length hA (by omega) _ 0 rfl (by omega) (by omega) (by simp)
      have k1 := rsame_lp1 A M B N H H.length hM (by omega) _ 0 rfl (by omega) (by omega) (by simp)
      simp only [sli, c1, c2] at k0 k1
      rcases k0 with ⟨k0, e0⟩ | ⟨k0, e0⟩
      · rcases k1 with ⟨k1, e1⟩ | ⟨k1, e1⟩
        · have d : (decide (A = B) && decide (M = N)) = true := by simp [e0, e1]
          rw [d]
          simp [note, sli, St.enter, enumFrom, subs, c1, c2, k0, k1]
        · have d : (decide (A = B) && decide (M = N)) = false := by simp [e1]
          rw [d]
          simp [note, sli, St.enter, enumFrom, subs, c1, c2, k0, k1]
      · have d : (decide (A = B) && decide (M = N)) = false := by simp [e0]
        rw [d]
        simp [note, sli, St.enter, enumFrom, subs, c1, c2, k0]
    · have : M ≠ N := by rintro rfl; exact c2 rfl
      simp [note, sli, St.enter, enumFrom, subs, c1, c2, this]
  · have : A ≠ B := by rintro rfl; exact c1 rfl
    simp [note, sli, St.enter, enumFrom, subs, c1, this]
end Go.EnvOf
