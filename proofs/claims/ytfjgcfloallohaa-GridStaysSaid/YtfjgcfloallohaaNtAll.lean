/- Notes: all places where they may end. -/
import Derived.Test.YtfjgcfloallohaaNtMay
namespace Go.EnvOf
open Go Go.Eng

/-- Of so many numbers from one on those that are wanted. -/
def sel (p : Int → Bool) (a : Int) : Nat → List Int
  | 0 => []
  | n + 1 => (if p a = true then [a] else []) ++ sel p (a + 1) n

theorem sel_len (p : Int → Bool) : ∀ (n : Nat) (a : Int), (sel p a n).length ≤ n
  | 0, _ => Nat.le_refl _
  | n + 1, a => by
    have := sel_len p n (a + 1)
    simp only [sel, List.length_append]
    split <;> simp <;> omega

theorem map_snoc {α β : Type} (f : α → β) (l : List α) (x : α) : l.map f ++ [f x] = (l ++ [x]).map f := by simp

/-- The loop: the row that is told so far stands first in what is new. -/
theorem all_lp (hv : V) (p : Int → Bool) (to_ : Int) (H : Heap) (hH : ∀ t : Int, t ≤ to_ → ∀ H', clD EE hv [.p (.int .i64 t)] H' = some (.p (.bool (p t)), none)) (hto : to_ < 2147483648) : ∀ (n : Nat) (i : Int) (out : List Int),
    (to_ - i + 1).toNat = n → -2 ≤ i → out.length + n ≤ 4294967290 →
    evD EE lp87_0 ⟨[(1, .p (.int .i64 to_)), (2, hv), (7, .row H.length out.length 0 out.length), (8, .p (.int .i64 i))], [], H ++ [.row 1 (upV (out.map encI))], H.length, []⟩ =
      some (.exit 0, ⟨[(1, .p (.int .i64 to_)), (2, hv), (7, .row H.length (out ++ sel p i n).length 0 (out ++ sel p i n).length), (8, .p (.int .i64 (max i (to_ + 1)))), (12, .p (.bool false))], [], H ++ [.row 1 (upV ((out ++ sel p i n).map encI))], H.length, []⟩) := by
  intro n
  induction n with
  | zero =>
    intro i out hn h0 ho
    have c : ¬ i ≤ to_ := by omega
    have e : max i (to_ + 1) = i := by omega
    unfold lp87_0
    rw [evD_loop]
    simp [c, e, sel]
  | succ n ih =>
    intro i out hn h0 ho
    have c : i ≤ to_ := by omega
    have w : IntKind.i64.wrap (i + 1) = i + 1 := wrap64_in _ (by omega) (by omega)
    have hp := hH i c (H ++ [.row 1 (upV (out.map encI))])
    have em : max (i + 1) (to_ + 1) = max i (to_ + 1) := by omega
    unfold lp87_0
    rw [evD_loop]
    by_cases cp : p i = true
    · have key := ih (i + 1) (out ++ [i]) (by omega) (by omega) (by simp; omega)
      rw [em] at key
      have hm : out.length + 1 < most := by unfold most; omega
      simp [c, hp, cp, w, hm]
      simp [sel, cp, encI, upV] at key ⊢
      exact key
    · have key := ih (i + 1) out (by omega) (by omega) (by omega)
      rw [em] at key
      simp only [Bool.not_eq_true] at cp
      simp [c, hp, cp, w, sel] at key ⊢
      exact key
/-- All numbers of which it holds. -/
theorem all_ev (hv : V) (p : Int → Bool) (frm to_ : Int) (H : Heap) (hH : ∀ t : Int, t ≤ to_ → ∀ H', clD EE hv [.p (.int .i64 t)] H' = some (.p (.bool (p t)), none)) (hto : to_ < 2147483648) (hf : -2 ≤ frm) :
    clD EE (.p (.fn 87)) [.p (.int .i64 frm), .p (.int .i64 to_), hv] H = some (.p (.sl ((sel p frm (to_ - frm + 1).toNat).map encI)), none) := by
  rw [clD_body _ _ _ _ _ _ (noP _) fn87]
  have key := all_lp hv p to_ H hH hto _ frm [] rfl hf (by simp; omega)
  simp at key
  simp [St.enter, enumFrom, key]

theorem stops_ev (L M : List Int) (frm : Int) (H : Heap) (hL : L.length ≤ 1000000) :
    clD EE (.p (.fn 25)) [note L M, .p (.int .i64 frm)] H = some (.p (.sl ((sel (mayF L M) (min (max frm (-1)) L.length + 1) (L.length - (min (max frm (-1)) L.length + 1) + 1 : Int).toNat).map encI)), none) := by
  rw [clD_body _ _ _ _ _ _ (noP _) fn25]
  have hst : ∀ (t : Int), ∀ H', clD EE (.fn (.func 84) [note L M] []) [.p (.int .i64 t)] H' = some (.p (.bool (mayF L M t)), none) := fun t H' => by
    rw [clD_clo]
    exact stop_ev L M t H' (by omega)
  have key := all_ev (.fn (.func 84) [note L M] []) (mayF L M) (min (max frm (-1)) L.length + 1) L.length H (fun t _ H' => hst t H') (by omega) (by omega)
  have w : IntKind.i64.wrap (min (max frm (-1)) L.length + 1) = min (max frm (-1)) L.length + 1 := wrap64_in _ (by omega) (by omega)
  simp only [note, sli] at key
  simp [note, sli, St.enter, enumFrom, subs, w, mkfV, key]
end Go.EnvOf
