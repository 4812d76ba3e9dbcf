/- Notes: piece by piece, the loop. -/
import Derived.Test.YtfjgcfloallohaaNtPieces
namespace Go.EnvOf
open Go Go.Eng

def prevF (S : List Int) (i : Int) : Int := if i ≤ 0 then 0 else rd S (i - 1)

theorem prev_lt {S : List Int} (hs : S.Pairwise (· < ·)) (h1 : ∀ x ∈ S, 1 ≤ x) (i : Int) (h0 : 0 ≤ i) (hi : i < S.length) : 0 ≤ prevF S i ∧ prevF S i < rd S i := by
  have key : ∀ k : Int, 0 ≤ k → ∀ hk : k < S.length, rd S k = S[k.toNat]'(by omega) := fun k h0 hk => by
    have hlt : k.toNat < S.length := by omega
    unfold rd; simp [List.getD_eq_getElem?_getD, hlt]
  unfold prevF
  split
  · have := h1 _ (List.getElem_mem (l := S) (n := i.toNat) (by omega))
    rw [key i h0 hi]; omega
  · rw [key i h0 hi, key (i - 1) (by omega) (by omega)]
    have hp := List.pairwise_iff_getElem.1 hs (i - 1).toNat i.toNat (by omega) (by omega) (by omega)
    have := h1 _ (List.getElem_mem (l := S) (n := (i - 1).toNat) (by omega))
    omega
theorem prev_succ (S : List Int) (i : Int) (h0 : 0 ≤ i) : prevF S (i + 1) = rd S i := by
  unfold prevF
  rw [if_neg (by omega)]; congr 1; omega

theorem rd_mem {S : List Int} {i : Int} (h0 : 0 ≤ i) (hi : i < S.length) : rd S i ∈ S := by
  have hlt : i.toNat < S.length := by omega
  unfold rd; simp [List.getD_eq_getElem?_getD, hlt]

theorem sumI_bd : ∀ (l : List Int), (∀ x ∈ l, 1 ≤ x ∧ x ≤ 1073741823) → 0 ≤ sumI l ∧ sumI l ≤ 1073741823 * l.length
  | [], _ => by simp [sumI]
  | x :: r, h => by
    have hx := h x List.mem_cons_self
    have ih := sumI_bd r fun y hy => h y (List.mem_cons_of_mem _ hy)
    simp only [sumI, List.foldr_cons, List.length_cons] at ih ⊢
    omega

theorem pieces_lp (L M A B S : List Int) (H : Heap) (Bs : Nat) (hg : ∀ x ∈ L, 1 ≤ x ∧ x ≤ 1073741823) (h64 : L.length ≤ 64) (hs : S.Pairwise (· < ·)) (h1 : ∀ x ∈ S, 1 ≤ x) (h2 : ∀ x ∈ S, x ≤ L.length) (hS : S.length ≤ 1000) :
    ∀ (n : Nat) (i : Int), ((S.length : Int) - i).toNat = n → 0 ≤ i → i ≤ S.length →
    evD EE lp5_0 ⟨[(2, .lptr 2 0), (3, .lptr 3 0), (5, sli S), (6, .p (.int .i64 (sumI (L.take (prevF S i).toNat)))), (7, .p (.int .i64 (prevF S i))), (8, .p (.int .i64 i))], [(2, [sli L, sli M]), (3, [sli A, sli B])], H, Bs, []⟩ =
      some (.exit 0, ⟨[(2, .lptr 2 0), (3, .lptr 3 0), (5, sli S), (6, .p (.int .i64 (sumI (L.take (prevF S S.length).toNat)))), (7, .p (.int .i64 (prevF S S.length))), (8, .p (.int .i64 S.length)), (30, .p (.bool false))], [(2, [sli L, sli M]), (3, [sli A, sli B])], H, Bs, []⟩) := by
  intro n
  induction n with
  | zero =>
    intro i hn h0 hi
    have e : i = S.length := by omega
    subst e
    unfold lp5_0
    rw [evD_loop]
    simp [sli]
  | succ n ih =>
    intro i hn h0 hi
    have c : i < (S.length : Int) := by omega
    have w : IntKind.i64.wrap (i + 1) = i + 1 := wrap64_in _ (by omega) (by omega)
    obtain ⟨p0, p1⟩ := prev_lt hs h1 i h0 c
    have p2 : rd S i ≤ L.length := h2 _ (rd_mem h0 c)
    have key := ih (i + 1) (by omega) (by omega) (by omega)
    rw [prev_succ S i h0] at key
    have hh := high_ev L M (prevF S i) (rd S i) H (by omega)
    rw [highF_sum L hg h64 _ _ p0 p2 (by omega)] at hh
    have hsp := sum_split L (prevF S i) (rd S i) p0 (by omega)
    have w2 : IntKind.i64.wrap (sumI (L.take (prevF S i).toNat) + sumI ((L.take (rd S i).toNat).drop (prevF S i).toNat)) = sumI (L.take (rd S i).toNat) := by
      rw [hsp]
      have hb := sumI_bd (L.take (rd S i).toNat) fun x hx => hg x (List.mem_of_mem_take hx)
      have hl : (L.take (rd S i).toNat).length ≤ 64 := by rw [List.length_take]; omega
      exact wrap64_in _ (by omega) (by omega)
    have c3 : ¬ rd S i ≤ prevF S i := by omega
    simp only [note, sli] at hh
    unfold lp5_0
    rw [evD_loop]
    simp (disch := omega) [sli, c, ixs_sli, subs, w, w2, c3, hh] at key ⊢
    exact key
end Go.EnvOf
