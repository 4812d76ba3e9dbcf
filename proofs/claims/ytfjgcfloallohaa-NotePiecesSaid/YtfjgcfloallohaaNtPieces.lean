/- Notes: piece by piece. -/
import Derived.Test.YtfjgcfloallohaaNtRSame
namespace Go.EnvOf
open Go Go.Eng

def sumI (l : List Int) : Int := l.foldr (· + ·) 0
theorem sumI_append (a b : List Int) : sumI (a ++ b) = sumI a + sumI b := by
  induction a with
  | nil => simp [sumI]
  | cons x r ih => simp only [List.cons_append, sumI, List.foldr_cons] at ih ⊢; omega

/-- Lines that are no higher than may be: nothing is cut off. -/
theorem hsum_sum : ∀ (l : List Int) (s : Int), (∀ x ∈ l, 1 ≤ x ∧ x ≤ 1073741823) → 0 ≤ s → s + 1073741823 * l.length ≤ far → hsum s l = s + sumI l
  | [], s, _, _, _ => by simp [hsum, sumI]
  | x :: r, s, h, h0, h1 => by
    have hx := h x List.mem_cons_self
    simp only [List.length_cons] at h1
    have e : hstep s x = s + x := by unfold hstep; unfold far at h1 ⊢; omega
    have ih := hsum_sum r (s + x) (fun y hy => h y (List.mem_cons_of_mem _ hy)) (by omega) (by omega)
    simp only [hsum, List.foldl_cons, e] at ih ⊢
    rw [ih]
    simp only [sumI, List.foldr_cons]; omega
theorem highF_sum (L : List Int) (hg : ∀ x ∈ L, 1 ≤ x ∧ x ≤ 1073741823) (h64 : L.length ≤ 64) (a b : Int) (h0 : 0 ≤ a) (hb : b ≤ L.length) (hab : a ≤ b) : highF L a b = sumI ((L.take b.toNat).drop a.toNat) := by
  unfold highF
  have e1 : (max a 0) = a := by omega
  have e2 : (min b (L.length : Int)) = b := by omega
  rw [e1, e2, hsum_sum _ 0 (fun x hx => hg x (List.mem_of_mem_take (List.mem_of_mem_drop hx))) (Int.le_refl 0) ?_]
  · omega
  · simp only [List.length_drop, List.length_take]
    unfold far; omega

theorem sum_split (L : List Int) (a b : Int) (h0 : 0 ≤ a) (hab : a ≤ b) : sumI (L.take a.toNat) + sumI ((L.take b.toNat).drop a.toNat) = sumI (L.take b.toNat) := by
  have e : L.take b.toNat = (L.take b.toNat).take a.toNat ++ (L.take b.toNat).drop a.toNat := (List.take_append_drop _ _).symm
  have e2 : (L.take b.toNat).take a.toNat = L.take a.toNat := by rw [List.take_take]; congr 1; omega
  rw [e2] at e
  conv => rhs; rw [e]
  rw [sumI_append]
theorem sel_ge {p : Int → Bool} : ∀ (n : Nat) (a : Int), ∀ x ∈ sel p a n, a ≤ x ∧ x < a + n ∧ p x = true
  | 0, _, x, h => by simp [sel] at h
  | n + 1, a, x, h => by
    simp only [sel, List.mem_append] at h
    rcases h with h | h
    · split at h
      · simp at h; subst h; exact ⟨Int.le_refl _, by omega, by assumption⟩
      · cases h
    · have := sel_ge n (a + 1) x h
      exact ⟨by omega, by omega, this.2.2⟩

theorem sel_sorted {p : Int → Bool} : ∀ (n : Nat) (a : Int), (sel p a n).Pairwise (· < ·)
  | 0, _ => List.Pairwise.nil
  | n + 1, a => by
    simp only [sel]
    refine List.pairwise_append.2 ⟨by split <;> simp, sel_sorted n (a + 1), fun x hx y hy => ?_⟩
    have h1 := sel_ge n (a + 1) y hy
    split at hx
    · simp at hx; omega
    · cases hx
end Go.EnvOf
