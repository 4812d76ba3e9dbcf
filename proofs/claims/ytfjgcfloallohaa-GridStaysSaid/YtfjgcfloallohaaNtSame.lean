/- Notes: the same notes. -/
import Derived.Test.YtfjgcfloallohaaNtRCheck
namespace Go.EnvOf
open Go Go.Eng

theorem eq88_lp (A B : List Int) (H : Heap) (Bs : Nat) (hA : A.length ≤ 9223372036854775806) (hl : A.length = B.length) : ∀ (n : Nat) (i : Int), ((A.length : Int) - i).toNat = n → 0 ≤ i → i ≤ A.length → A.take i.toNat = B.take i.toNat →
    ∃ e, (evD EE lp88_0 ⟨[(0, sli A), (1, sli B), (12, .p (.int .i64 A.length)), (13, .p (.int .i64 i))], [], H, Bs, []⟩ = some (.exit 0, ⟨e, [], H, Bs, []⟩) ∧ A = B) ∨
      (evD EE lp88_0 ⟨[(0, sli A), (1, sli B), (12, .p (.int .i64 A.length)), (13, .p (.int .i64 i))], [], H, Bs, []⟩ = some (.ret, ⟨[(4, .p (.bool false))], [], H, Bs, []⟩) ∧ A ≠ B) := by
  intro n
  induction n with
  | zero =>
    intro i hn h0 h1 ht
    have e : i.toNat = A.length := by omega
    refine ⟨[(0, sli A), (1, sli B), (12, .p (.int .i64 A.length)), (13, .p (.int .i64 i)), (14, .p (.bool false))], .inl ⟨?_, ?_⟩⟩
    · unfold lp88_0
      rw [evD_loop]
      have c : ¬ i < (A.length : Int) := by omega
      simp [sli, c]
    · rw [e, List.take_length, hl, List.take_length] at ht; exact ht
  | succ n ih =>
    intro i hn h0 h1 ht
    have c : i < (A.length : Int) := by omega
    have c2 : i < (B.length : Int) := by omega
    have w : IntKind.i64.wrap (i + 1) = i + 1 := wrap64_in _ (by omega) (by omega)
    by_cases ce : rd A i = rd B i
    · have ht' : A.take (i + 1).toNat = B.take (i + 1).toNat := by rw [take_succ A i h0 c, take_succ B i h0 c2, ht, ce]
      obtain ⟨e, key⟩ := ih (i + 1) (by omega) (by omega) (by omega) ht'
      refine ⟨e, ?_⟩
      have st : evD EE lp88_0 ⟨[(0, sli A), (1, sli B), (12, .p (.int .i64 A.length)), (13, .p (.int .i64 i))], [], H, Bs, []⟩ = evD EE lp88_0 ⟨[(0, sli A), (1, sli B), (12, .p (.int .i64 A.length)), (13, .p (.int .i64 (i + 1)))], [], H, Bs, []⟩ := by
        conv => lhs; unfold lp88_0
        rw [evD_loop]
        simp (disch := omega) [sli, c, ixs_sli, subs, ce, w]
        rfl
      rw [st]; exact key
    · refine ⟨[], .inr ⟨?_, ?_⟩⟩
      · unfold lp88_0
        rw [evD_loop]
        simp (disch := omega) [sli, c, ixs_sli, subs, ce]
      · rintro rfl; exact ce rfl

theorem eq88_ev (A B : List Int) (H : Heap) (hA : A.length ≤ 9223372036854775806) : clD EE (.p (.fn 88)) [sli A, sli B] H = some (.p (.bool (decide (A = B))), none) := by
  rw [clD_body _ _ _ _ _ _ (noP _) fn88]
  by_cases c : (A.length : Int) = B.length
  · obtain ⟨e, key⟩ := eq88_lp A B H H.length hA (by omega) _ 0 rfl (by omega) (by omega) (by simp)
    rcases key with ⟨k1, k2⟩ | ⟨k1, k2⟩
    · have kd : decide (A = B) = true := by simpa using k2
      rw [kd]
      simp only [sli, c] at k1
      simp [sli, St.enter, enumFrom, c, k1]
    · simp only [sli, c] at k1
      simp [sli, St.enter, enumFrom, c, k1, k2]
  · have : A ≠ B := by rintro rfl; exact c rfl
    simp [sli, St.enter, enumFrom, c, this]

/-- The second is the first, of another type. -/
theorem lp89_eq : lp89_0 = lp88_0 := rfl
theorem eq89_ev (A B : List Int) (H : Heap) (hA : A.length ≤ 9223372036854775806) : clD EE (.p (.fn 89)) [sli A, sli B] H = some (.p (.bool (decide (A = B))), none) := by
  rw [← eq88_ev A B H hA, clD_body _ _ _ _ _ _ (noP _) fn89, clD_body _ _ _ _ _ _ (noP _) fn88]
  rfl

def sameF (A M B N : List Int) : Bool := decide (A = B) && decide (M = N)
theorem same_ev (A M B N : List Int) (H : Heap) (hA : A.length ≤ 1000000) (hM : M.length ≤ 1000000) : clD EE (.p (.fn 32)) [note A M, note B N] H = some (.p (.bool (sameF A M B N)), none) := by
  rw [clD_body _ _ _ _ _ _ (noP _) fn32]
  have h1 := eq88_ev A B H (by omega)
  have h2 := eq89_ev M N H (by omega)
  simp only [sli] at h1 h2
  unfold sameF
  by_cases c : A = B
  · subst c
    simp at h1
    simp [note, sli, St.enter, enumFrom, subs, h1, h2]
  · simp [c] at h1
    simp [note, sli, St.enter, enumFrom, subs, h1, c]
end Go.EnvOf
