/- Notes: where they may end, by the document; the same numbers. -/
import Derived.Test.YtfjgcfloallohaaNtAll
namespace Go.EnvOf
open Go Go.Eng

def rstopF (L M : List Int) (frm i : Int) : Bool := decide (frm < i) && mayF L M i

theorem rstops_lp (L M : List Int) (frm : Int) (H : Heap) (hL : L.length ≤ 1000000) : ∀ (n : Nat) (i : Int) (out : List Int),
    ((L.length : Int) - i + 1).toNat = n → 0 ≤ i → out.length + n ≤ 4294967290 →
    evD EE lp26_0 ⟨[(1, .p (.int .i64 frm)), (2, .lptr 2 0), (5, .row H.length out.length 0 out.length), (6, .p (.int .i64 i))], [(2, [sli L, sli M])], H ++ [.row 1 (upV (out.map encI))], H.length, []⟩ =
      some (.exit 0, ⟨[(1, .p (.int .i64 frm)), (2, .lptr 2 0), (5, .row H.length (out ++ sel (rstopF L M frm) i n).length 0 (out ++ sel (rstopF L M frm) i n).length), (6, .p (.int .i64 (max i (L.length + 1)))), (11, .p (.bool false))], [(2, [sli L, sli M])], H ++ [.row 1 (upV ((out ++ sel (rstopF L M frm) i n).map encI))], H.length, []⟩) := by
  intro n
  induction n with
  | zero =>
    intro i out hn h0 ho
    have c : ¬ i ≤ (L.length : Int) := by omega
    have e : max i ((L.length : Int) + 1) = i := by omega
    unfold lp26_0
    rw [evD_loop]
    simp [sli, subs, c, e, sel]
  | succ n ih =>
    intro i out hn h0 ho
    have c : i ≤ (L.length : Int) := by omega
    have w : IntKind.i64.wrap (i + 1) = i + 1 := wrap64_in _ (by omega) (by omega)
    have hp := rmay_ev L M i (H ++ [.row 1 (upV (out.map encI))]) (by omega)
    simp only [note, sli] at hp
    have em : max (i + 1) ((L.length : Int) + 1) = max i ((L.length : Int) + 1) := by omega
    unfold lp26_0
    rw [evD_loop]
    by_cases cf : frm < i
    · by_cases cp : mayF L M i = true
      · have key := ih (i + 1) (out ++ [i]) (by omega) (by omega) (by simp; omega)
        rw [em] at key
        have hm : out.length + 1 < most := by unfold most; omega
        have cs : rstopF L M frm i = true := by simp [rstopF, cf, cp]
        simp [sli, subs, c, cf, hp, cp, w, hm]
        simp [sel, cs, sli, encI, upV] at key ⊢
        exact key
      · have key := ih (i + 1) out (by omega) (by omega) (by omega)
        rw [em] at key
        simp only [Bool.not_eq_true] at cp
        have cs : rstopF L M frm i = false := by simp [rstopF, cp]
        simp [sli, subs, c, cf, hp, cp, w]
        simp [sel, cs, sli] at key ⊢
        exact key
    · have key := ih (i + 1) out (by omega) (by omega) (by omega)
      rw [em] at key
      have cs : rstopF L M frm i = false := by simp [rstopF, cf]
      simp [sli, subs, c, cf, w]
      simp [sel, cs, sli] at key ⊢
      exact key

theorem rstops_ev (L M : List Int) (frm : Int) (H : Heap) (hL : L.length ≤ 1000000) :
    clD EE (.p (.fn 26)) [note L M, .p (.int .i64 frm)] H = some (.p (.sl ((sel (rstopF L M frm) 0 (L.length + 1)).map encI)), none) := by
  rw [clD_body _ _ _ _ _ _ (noP _) fn26]
  have key := rstops_lp L M frm H hL (L.length + 1) 0 [] (by omega) (by omega) (by simp; omega)
  simp [sli] at key
  simp [note, sli, St.enter, enumFrom, subs, key]

/-- What does not count comes to nothing. -/
theorem sel_none {p : Int → Bool} : ∀ (n : Nat) (a : Int), (∀ i, a ≤ i → i < a + n → p i = false) → sel p a n = []
  | 0, _, _ => rfl
  | n + 1, a, h => by
    simp only [sel, h a (by omega) (by omega), Bool.false_eq_true, if_false, List.nil_append]
    exact sel_none n (a + 1) fun i h1 h2 => h i (by omega) (by omega)
theorem sel_congr {p q : Int → Bool} : ∀ (n : Nat) (a : Int), (∀ i, a ≤ i → i < a + n → p i = q i) → sel p a n = sel q a n
  | 0, _, _ => rfl
  | n + 1, a, h => by
    simp only [sel, h a (by omega) (by omega)]
    rw [sel_congr n (a + 1) fun i h1 h2 => h i (by omega) (by omega)]
theorem sel_add {p : Int → Bool} : ∀ (m n : Nat) (a : Int), sel p a (m + n) = sel p a m ++ sel p (a + m) n
  | 0, n, a => by simp [sel]
  | m + 1, n, a => by
    have e : m + 1 + n = (m + n) + 1 := by omega
    rw [e]
    simp only [sel]
    rw [sel_add m n (a + 1), List.append_assoc]
    congr 3; omega

/-- Both name the same stops. -/
theorem stops_same (L M : List Int) (frm : Int) :
    sel (mayF L M) (min (max frm (-1)) L.length + 1) (L.length - (min (max frm (-1)) L.length + 1) + 1 : Int).toNat = sel (rstopF L M frm) 0 (L.length + 1) := by
  generalize hb : min (max frm (-1)) (L.length : Int) + 1 = b
  have h1 : 0 ≤ b := by omega
  have h2 : b ≤ L.length + 1 := by omega
  have e : L.length + 1 = b.toNat + (L.length - b + 1 : Int).toNat := by omega
  rw [e, sel_add, sel_none b.toNat 0 (fun i h3 h4 => by
    have : ¬ frm < i := by omega
    simp [rstopF, this]), List.nil_append]
  have e2 : (0 : Int) + (b.toNat : Int) = b := by omega
  rw [e2]
  refine sel_congr _ _ fun i h3 h4 => ?_
  have : frm < i := by omega
  simp [rstopF, this]

theorem ints_lp (A B : List Int) (H : Heap) (Bs : Nat) (hA : A.length ≤ 9223372036854775806) (hl : A.length = B.length) : ∀ (n : Nat) (i : Int), ((A.length : Int) - i).toNat = n → 0 ≤ i → i ≤ A.length → A.take i.toNat = B.take i.toNat →
    ∃ e, (evD EE lp24_0 ⟨[(0, sli A), (1, sli B), (5, .p (.int .i64 i))], [], H, Bs, []⟩ = some (.exit 0, ⟨e, [], H, Bs, []⟩) ∧ A = B) ∨
      (∃ env, evD EE lp24_0 ⟨[(0, sli A), (1, sli B), (5, .p (.int .i64 i))], [], H, Bs, []⟩ = some (.ret, ⟨[(4, .p (.bool false))], env, H, Bs, []⟩) ∧ A ≠ B) := by
  intro n
  induction n with
  | zero =>
    intro i hn h0 h1 ht
    have e : i.toNat = A.length := by omega
    refine ⟨[(0, sli A), (1, sli B), (5, .p (.int .i64 i)), (14, .p (.bool false))], .inl ⟨?_, ?_⟩⟩
    · unfold lp24_0
      rw [evD_loop]
      have c : ¬ i < (A.length : Int) := by omega
      simp [sli, c]
    · rw [e, List.take_length, hl, List.take_length] at ht; exact ht
  | succ n ih =>
    intro i hn h0 h1 ht
    have c : i < (A.length : Int) := by omega
    have c2 : i < (B.length : Int) := by omega
    have w : IntKind.i64.wrap (i + 1) = i + 1 := wrap64_in _ (by omega) (by omega)
    by_cases ce : rd A i = rd B i
    · have ht' : A.take (i + 1).toNat = B.take (i + 1).toNat := by rw [take_succ A i h0 c, take_succ B i h0 c2, ht, ce]
      obtain ⟨S, key⟩ := ih (i + 1) (by omega) (by omega) (by omega) ht'
      refine ⟨S, ?_⟩
      have st : evD EE lp24_0 ⟨[(0, sli A), (1, sli B), (5, .p (.int .i64 i))], [], H, Bs, []⟩ = evD EE lp24_0 ⟨[(0, sli A), (1, sli B), (5, .p (.int .i64 (i + 1)))], [], H, Bs, []⟩ := by
        conv => lhs; unfold lp24_0
        rw [evD_loop]
        simp (disch := omega) [sli, c, ixs_sli, subs, ce, w]
        rfl
      rw [st]; exact key
    · refine ⟨default, .inr ⟨[], ?_, ?_⟩⟩
      · unfold lp24_0
        rw [evD_loop]
        simp (disch := omega) [sli, c, ixs_sli, subs, ce]
      · rintro rfl; exact ce rfl

theorem ints_ev (A B : List Int) (H : Heap) (hA : A.length ≤ 9223372036854775806) : clD EE (.p (.fn 24)) [sli A, sli B] H = some (.p (.bool (decide (A = B))), none) := by
  rw [clD_body _ _ _ _ _ _ (noP _) fn24]
  by_cases c : (A.length : Int) = B.length
  · obtain ⟨S, key⟩ := ints_lp A B H H.length hA (by omega) _ 0 rfl (by omega) (by omega) (by simp)
    rcases key with ⟨k1, k2⟩ | ⟨env, k1, k2⟩
    · simp only [sli] at k1
      have kd : decide (A = B) = true := by simpa using k2
      rw [kd]
      simp [sli, St.enter, enumFrom, c, k1]
    · simp only [sli] at k1
      simp [sli, St.enter, enumFrom, c, k1, k2]
  · have : A ≠ B := by rintro rfl; exact c rfl
    simp [sli, St.enter, enumFrom, c, this]
end Go.EnvOf
