/- The program's functions and the document's, evaluated. -/
import Derived.KernelRfl
import Derived.Test.YtfjgcfloallohaaText2
/- Notes: how high lines are. -/
namespace Go.EnvOf
open Go Go.Eng

def note (lines pens : List Int) : V := .agg [sli lines, sli pens]
theorem ixs_sli (H : Heap) (L : List Int) (k : IntKind) (i : Int) (h0 : 0 ≤ i) (h1 : i < L.length) : ixsI H (.p (.sl (L.map encI))) (.p (.int k i)) 1 = some (.eptr [.p (.int .i64 (rd L i))] 0) :=
  ixs_map H encI L k i 1 (fun _ => rfl) h0 h1

def far : Int := 1125899906842624
def hstep (s x : Int) : Int := min (s + min (max x 0) far) far
def hsum (s : Int) (l : List Int) : Int := l.foldl hstep s
theorem hstep_lo {s x : Int} (h : 0 ≤ s) : 0 ≤ hstep s x := by unfold hstep far; omega
theorem hstep_hi {s x : Int} : hstep s x ≤ far := by unfold hstep; omega

theorem drop_cons (L : List Int) (i : Int) (t : Nat) (h0 : 0 ≤ i) (h1 : i.toNat < t) (h2 : t ≤ L.length) : (L.take t).drop i.toNat = rd L i :: (L.take t).drop (i + 1).toNat := by
  have e : (i + 1).toNat = i.toNat + 1 := by omega
  rw [e, List.drop_eq_getElem_cons (by simp; omega)]
  congr 1
  unfold rd
  have : i.toNat < L.length := by omega
  simp [List.getD_eq_getElem?_getD, this]

theorem high_lp (L M : List Int) (H : Heap) (B : Nat) (D : List Nat) (hL : L.length ≤ 9223372036854775806) : ∀ (n : Nat) (i s to_ : Int), (to_ - i).toNat = n → 0 ≤ i → to_ ≤ L.length → 0 ≤ s → s ≤ far →
    evD EE lp29_0 ⟨[(2, .p (.int .i64 to_)), (3, .lptr 3 0), (7, .p (.int .i64 s)), (8, .p (.int .i64 i))], [(3, [sli L, sli M])], H, B, D⟩ =
      some (.exit 0, ⟨[(2, .p (.int .i64 to_)), (3, .lptr 3 0), (7, .p (.int .i64 (hsum s ((L.take to_.toNat).drop i.toNat)))), (8, .p (.int .i64 (max i to_))), (19, .p (.bool false))], [(3, [sli L, sli M])], H, B, D⟩) := by
  intro n
  induction n with
  | zero =>
    intro i s to_ hn h0 h1 h2 h3
    unfold lp29_0
    rw [evD_loop]
    have hlt : ¬ i < to_ := by omega
    have hd : (L.take to_.toNat).drop i.toNat = [] := by rw [List.drop_eq_nil_iff]; simp; omega
    have hm : max i to_ = i := by omega
    simp [sli, subs, hlt, hd, hm, hsum]
  | succ n ih =>
    intro i s to_ hn h0 h1 h2 h3
    have hlt : i < to_ := by omega
    have hi : i < L.length := by omega
    have key := ih (i + 1) (hstep s (rd L i)) to_ (by omega) (by omega) h1 (hstep_lo h2) hstep_hi
    have hd := drop_cons L i to_.toNat h0 (by omega) (by omega)
    have hm : max (i + 1) to_ = max i to_ := by omega
    rw [hd]
    rw [hm] at key
    unfold lp29_0
    rw [evD_loop]
    have w1 : IntKind.i64.wrap (i + 1) = i + 1 := wrap64_in _ (by omega) (by omega)
    have w2 : IntKind.i64.wrap (s + min (max (rd L i) 0) 1125899906842624) = s + min (max (rd L i) 0) 1125899906842624 := wrap64_in _ (by omega) (by unfold far at h3; omega)
    simp [sli, subs, hlt, ixs_sli, h0, hi, w1, w2]
    exact key

/-- How high lines are, whoever is asked. -/
def highF (L : List Int) (frm to_ : Int) : Int := hsum 0 ((L.take (min to_ L.length).toNat).drop (max frm 0).toNat)

theorem high_ev (L M : List Int) (frm to_ : Int) (H : Heap) (hL : L.length ≤ 9223372036854775806) :
    clD EE (.p (.fn 29)) [note L M, .p (.int .i64 frm), .p (.int .i64 to_)] H = some (.p (.int .i64 (highF L frm to_)), none) := by
  rw [clD_body _ _ _ _ _ _ (noP _) fn29]
  have key := high_lp L M H H.length [] hL _ (max frm 0) 0 (min to_ L.length) rfl (by omega) (by omega) (by omega) (by unfold far; omega)
  have e : (max frm 0) = max frm 0 := rfl
  simp [note, St.enter, enumFrom, subs, sli] at key ⊢
  rw [key]
  simp [highF]

theorem take_succ (L : List Int) (i : Int) (h0 : 0 ≤ i) (h1 : i < L.length) : L.take (i + 1).toNat = L.take i.toNat ++ [rd L i] := by
  have e : (i + 1).toNat = i.toNat + 1 := by omega
  have hlt : i.toNat < L.length := by omega
  rw [e, List.take_add_one]
  congr 1
  rw [rd_get L i h0 h1]; rfl

/-- The lines of so many that lie between. -/
def part (L : List Int) (frm to_ i : Int) : List Int := (L.take (min to_ i).toNat).drop (max frm 0).toNat
theorem part_in (L : List Int) (frm to_ i : Int) (h0 : 0 ≤ i) (h1 : i < L.length) (h2 : frm ≤ i) (h3 : i < to_) : part L frm to_ (i + 1) = part L frm to_ i ++ [rd L i] := by
  unfold part
  have e1 : (min to_ (i + 1)) = i + 1 := by omega
  have e2 : (min to_ i) = i := by omega
  rw [e1, e2, take_succ L i h0 h1, List.drop_append_of_le_length (by simp; omega)]
theorem part_out (L : List Int) (frm to_ i : Int) (h0 : 0 ≤ i) (h2 : ¬ (frm ≤ i ∧ i < to_)) : part L frm to_ (i + 1) = part L frm to_ i := by
  unfold part
  by_cases h : i < to_
  · have h3 : i < frm := by omega
    have e1 : (L.take (min to_ (i + 1)).toNat).drop (max frm 0).toNat = [] := by rw [List.drop_eq_nil_iff]; simp; omega
    have e2 : (L.take (min to_ i).toNat).drop (max frm 0).toNat = [] := by rw [List.drop_eq_nil_iff]; simp; omega
    rw [e1, e2]
  · have e1 : (min to_ (i + 1)).toNat = (min to_ i).toNat := by omega
    rw [e1]
theorem hsum_snoc (s : Int) (l : List Int) (x : Int) : hsum s (l ++ [x]) = hstep (hsum s l) x := by simp [hsum]
theorem hsum_lo : ∀ (l : List Int) {s : Int}, 0 ≤ s → 0 ≤ hsum s l
  | [], s, h => h
  | x :: r, s, h => hsum_lo r (hstep_lo h)
theorem hsum_hi : ∀ (l : List Int) {s : Int}, s ≤ far → hsum s l ≤ far
  | [], s, h => h
  | x :: r, s, h => hsum_hi r hstep_hi

theorem rhigh_lp (L M : List Int) (frm to_ : Int) (H : Heap) (B : Nat) (D : List Nat) (hL : L.length ≤ 9223372036854775806) : ∀ (n : Nat) (i : Int), ((L.length : Int) - i).toNat = n → 0 ≤ i → i ≤ L.length →
    evD EE lp30_0 ⟨[(1, .p (.int .i64 frm)), (2, .p (.int .i64 to_)), (3, .lptr 3 0), (7, .p (.int .i64 (hsum 0 (part L frm to_ i)))), (8, .p (.int .i64 i))], [(3, [sli L, sli M])], H, B, D⟩ =
      some (.exit 0, ⟨[(1, .p (.int .i64 frm)), (2, .p (.int .i64 to_)), (3, .lptr 3 0), (7, .p (.int .i64 (hsum 0 (part L frm to_ L.length)))), (8, .p (.int .i64 L.length)), (13, .p (.bool false))], [(3, [sli L, sli M])], H, B, D⟩) := by
  intro n
  induction n with
  | zero =>
    intro i hn h0 h1
    have hi : i = L.length := by omega
    subst hi
    unfold lp30_0
    rw [evD_loop]
    simp [sli, subs]
  | succ n ih =>
    intro i hn h0 h1
    have hi : i < L.length := by omega
    have key := ih (i + 1) (by omega) (by omega) (by omega)
    have w1 : IntKind.i64.wrap (i + 1) = i + 1 := wrap64_in _ (by omega) (by omega)
    have hlo := hsum_lo (part L frm to_ i) (Int.le_refl 0)
    have hhi := hsum_hi (part L frm to_ i) (show (0 : Int) ≤ far by unfold far; omega)
    have w2 : IntKind.i64.wrap (hsum 0 (part L frm to_ i) + max 0 (min (rd L i) 1125899906842624)) = hsum 0 (part L frm to_ i) + max 0 (min (rd L i) 1125899906842624) := wrap64_in _ (by omega) (by unfold far at hhi; omega)
    have e1 : min (hsum 0 (part L frm to_ i) + max 0 (min (rd L i) 1125899906842624)) 1125899906842624 = hstep (hsum 0 (part L frm to_ i)) (rd L i) := by unfold hstep far; omega
    unfold lp30_0
    rw [evD_loop]
    by_cases c1 : frm ≤ i
    · by_cases c2 : i < to_
      · rw [part_in L frm to_ i h0 hi c1 c2, hsum_snoc] at key
        simp [sli, subs, hi, c1, c2, ixs_sli, h0, w1, w2, e1]
        exact key
      · rw [part_out L frm to_ i h0 (by omega)] at key
        simp [sli, subs, hi, c1, c2, w1]
        exact key
    · rw [part_out L frm to_ i h0 (by omega)] at key
      simp [sli, subs, hi, c1, w1]
      exact key

theorem rhigh_ev (L M : List Int) (frm to_ : Int) (H : Heap) (hL : L.length ≤ 9223372036854775806) :
    clD EE (.p (.fn 30)) [note L M, .p (.int .i64 frm), .p (.int .i64 to_)] H = some (.p (.int .i64 (highF L frm to_)), none) := by
  rw [clD_body _ _ _ _ _ _ (noP _) fn30]
  have key := rhigh_lp L M frm to_ H H.length [] hL _ 0 rfl (by omega) (by omega)
  have e0 : hsum 0 (part L frm to_ 0) = 0 := by
    have : part L frm to_ 0 = [] := by unfold part; rw [List.drop_eq_nil_iff]; simp; omega
    rw [this]; rfl
  rw [e0] at key
  simp [note, St.enter, enumFrom, subs, sli] at key ⊢
  rw [key]
  simp [highF, part]

theorem awake17 : clD EE (.p (.fn 17)) [] [] = some (.p (.bool true), none) := by
  rw [clD_iff]
  exact ⟨60, by kernel_rfl⟩

theorem noteHigh_ev (L M : List Int) (frm to_ : Int) : clD EE (.p (.fn 4)) [note L M, .p (.int .i64 frm), .p (.int .i64 to_)] [] = some (.p (.bool true), none) := by
  rw [clD_body _ _ _ _ _ _ (noP _) fn4]
  by_cases c : (100 : Int) < L.length
  · simp [note, St.enter, enumFrom, subs, sli, c, awake17]
  · have h1 := high_ev L M frm to_ [] (by omega)
    have h2 := rhigh_ev L M frm to_ [] (by omega)
    simp [note, St.enter, enumFrom, subs, sli] at h1 h2 ⊢
    simp [c, h1, h2, awake17, subs]
end Go.EnvOf

/- Notes: where they may split, and end. -/
namespace Go.EnvOf
open Go Go.Eng

/-- May it be split there? -/
def splitF (L M : List Int) (at_ : Int) : Bool := decide (0 < at_ ∧ at_ < L.length ∧ at_ ≤ M.length ∧ rd M (at_ - 1) < 10000)
def mayF (L M : List Int) (at_ : Int) : Bool := decide (at_ = L.length) || splitF L M at_
def penF (L M : List Int) (at_ : Int) : Int := if splitF L M at_ = true then rd M (at_ - 1) else 0

theorem split_ev (L M : List Int) (at_ : Int) (H : Heap) (hL : L.length ≤ 9223372036854775806) :
    clD EE (.p (.fn 86)) [note L M, .p (.int .i64 at_)] H = some (.p (.bool (splitF L M at_)), none) := by
  rw [clD_body _ _ _ _ _ _ (noP _) fn86]
  unfold splitF
  by_cases c1 : 0 < at_
  · by_cases c2 : at_ < L.length
    · by_cases c3 : at_ ≤ M.length
      · have w : IntKind.i64.wrap (at_ - 1) = at_ - 1 := wrap64_in _ (by omega) (by omega)
        have i1 : 0 ≤ at_ - 1 := by omega
        have i2 : at_ - 1 < (M.length : Int) := by omega
        simp (disch := omega) [note, sli, St.enter, enumFrom, subs, c1, c2, c3, ixs_sli, w]
      · simp [note, sli, St.enter, enumFrom, subs, c1, c2, c3]
    · simp [note, sli, St.enter, enumFrom, subs, c1, c2]
  · simp [note, sli, St.enter, enumFrom, subs, c1]

theorem rsplit_ev (L M : List Int) (at_ : Int) (H : Heap) (hL : L.length ≤ 9223372036854775806) :
    clD EE (.p (.fn 85)) [note L M, .p (.int .i64 at_)] H = some (.p (.bool (splitF L M at_)), none) := by
  rw [clD_body _ _ _ _ _ _ (noP _) fn85]
  unfold splitF
  by_cases c1 : 0 < at_
  · have c1' : 1 ≤ at_ := by omega
    by_cases c2 : at_ < L.length
    · have w : IntKind.i64.wrap (at_ - 1) = at_ - 1 := wrap64_in _ (by omega) (by omega)
      by_cases c3 : at_ ≤ M.length
      · have i1 : 0 ≤ at_ - 1 := by omega
        have i2 : at_ - 1 < (M.length : Int) := by omega
        simp (disch := omega) [note, sli, St.enter, enumFrom, subs, c1, c1', c2, c3, ixs_sli, w, i2]
      · have i2 : ¬ at_ - 1 < (M.length : Int) := by omega
        simp [note, sli, St.enter, enumFrom, subs, c1, c1', c2, c3, w, i2]
    · simp [note, sli, St.enter, enumFrom, subs, c1, c1', c2]
  · have c1' : ¬ 1 ≤ at_ := by omega
    simp [note, sli, St.enter, enumFrom, subs, c1, c1']

theorem stop_ev (L M : List Int) (at_ : Int) (H : Heap) (hL : L.length ≤ 9223372036854775806) :
    clD EE (.p (.fn 84)) [note L M, .p (.int .i64 at_)] H = some (.p (.bool (mayF L M at_)), none) := by
  rw [clD_body _ _ _ _ _ _ (noP _) fn84]
  have h1 := split_ev L M at_ H hL
  unfold mayF
  simp only [note, sli] at h1
  by_cases c : at_ = L.length
  · simp [note, sli, St.enter, enumFrom, subs, c]
  · simp [note, sli, St.enter, enumFrom, subs, c, h1]

theorem may_ev (L M : List Int) (at_ : Int) (H : Heap) (hL : L.length ≤ 9223372036854775806) :
    clD EE (.p (.fn 20)) [note L M, .p (.int .i64 at_)] H = some (.p (.bool (mayF L M at_)), none) := by
  rw [clD_body _ _ _ _ _ _ (noP _) fn20]
  have h1 := stop_ev L M at_ H hL
  simp only [note, sli] at h1
  simp [note, sli, St.enter, enumFrom, subs, h1]

theorem rmay_ev (L M : List Int) (at_ : Int) (H : Heap) (hL : L.length ≤ 9223372036854775806) :
    clD EE (.p (.fn 21)) [note L M, .p (.int .i64 at_)] H = some (.p (.bool (mayF L M at_)), none) := by
  rw [clD_body _ _ _ _ _ _ (noP _) fn21]
  have h1 := rsplit_ev L M at_ H hL
  unfold mayF
  simp only [note, sli] at h1
  by_cases c : at_ = L.length
  · simp [note, sli, St.enter, enumFrom, subs, c]
  · simp [note, sli, St.enter, enumFrom, subs, c, h1]

theorem splitF_in {L M : List Int} {at_ : Int} (h : splitF L M at_ = true) : 0 < at_ ∧ at_ < L.length ∧ at_ ≤ M.length := by
  unfold splitF at h; simp at h; omega

theorem pen_ev (L M : List Int) (at_ : Int) (H : Heap) (hL : L.length ≤ 9223372036854775806) :
    clD EE (.p (.fn 22)) [note L M, .p (.int .i64 at_)] H = some (.p (.int .i64 (penF L M at_)), none) := by
  rw [clD_body _ _ _ _ _ _ (noP _) fn22]
  have h1 := split_ev L M at_ H hL
  unfold penF
  simp only [note, sli] at h1
  by_cases c : splitF L M at_ = true
  · obtain ⟨k1, k2, k3⟩ := splitF_in c
    have w : IntKind.i64.wrap (at_ - 1) = at_ - 1 := wrap64_in _ (by omega) (by omega)
    have i1 : 0 ≤ at_ - 1 := by omega
    have i2 : at_ - 1 < (M.length : Int) := by omega
    simp (disch := omega) [note, sli, St.enter, enumFrom, subs, c, h1, w, ixs_sli]
  · simp only [Bool.not_eq_true] at c
    simp [note, sli, St.enter, enumFrom, subs, c, h1]

theorem rpen_ev (L M : List Int) (at_ : Int) (H : Heap) (hL : L.length ≤ 9223372036854775806) :
    clD EE (.p (.fn 23)) [note L M, .p (.int .i64 at_)] H = some (.p (.int .i64 (penF L M at_)), none) := by
  rw [clD_body _ _ _ _ _ _ (noP _) fn23]
  have h1 := rsplit_ev L M at_ H hL
  unfold penF
  simp only [note, sli] at h1
  by_cases c : splitF L M at_ = true
  · obtain ⟨k1, k2, k3⟩ := splitF_in c
    have w : IntKind.i64.wrap (at_ - 1) = at_ - 1 := wrap64_in _ (by omega) (by omega)
    have i1 : 0 ≤ at_ - 1 := by omega
    have i2 : at_ - 1 < (M.length : Int) := by omega
    simp (disch := omega) [note, sli, St.enter, enumFrom, subs, c, h1, w, ixs_sli]
  · simp only [Bool.not_eq_true] at c
    simp [note, sli, St.enter, enumFrom, subs, c, h1]
end Go.EnvOf

/- Notes: all places where they may end. -/
namespace Go.EnvOf
open Go Go.Eng

/-- Of so many numbers from one on those that are wanted. -/
def sel (p : Int → Bool) (a : Int) : Nat → List Int
  | 0 => []
  | n + 1 => (if p a = true then [a] else []) ++ sel p (a + 1) n

theorem sel_len (p : Int → Bool) : ∀ (n : Nat) (a : Int), (sel p a n).length ≤ n
  | 0, _ => Nat.le_refl _
  | n + 1, a => by
    have := sel_len p n (a + 1)
    simp only [sel, List.length_append]
    split <;> simp <;> omega

theorem map_snoc {α β : Type} (f : α → β) (l : List α) (x : α) : l.map f ++ [f x] = (l ++ [x]).map f := by simp

/-- The loop: the row that is told so far stands first in what is new. -/
theorem all_lp (hv : V) (p : Int → Bool) (to_ : Int) (H : Heap) (hH : ∀ t : Int, t ≤ to_ → ∀ H', clD EE hv [.p (.int .i64 t)] H' = some (.p (.bool (p t)), none)) (hto : to_ < 2147483648) : ∀ (n : Nat) (i : Int) (out : List Int),
    (to_ - i + 1).toNat = n → -2 ≤ i → out.length + n ≤ 4294967290 →
    evD EE lp87_0 ⟨[(1, .p (.int .i64 to_)), (2, hv), (7, .row H.length out.length 0 out.length), (8, .p (.int .i64 i))], [], H ++ [.row 1 (upV (out.map encI))], H.length, []⟩ =
      some (.exit 0, ⟨[(1, .p (.int .i64 to_)), (2, hv), (7, .row H.length (out ++ sel p i n).length 0 (out ++ sel p i n).length), (8, .p (.int .i64 (max i (to_ + 1)))), (12, .p (.bool false))], [], H ++ [.row 1 (upV ((out ++ sel p i n).map encI))], H.length, []⟩) := by
  intro n
  induction n with
  | zero =>
    intro i out hn h0 ho
    have c : ¬ i ≤ to_ := by omega
    have e : max i (to_ + 1) = i := by omega
    unfold lp87_0
    rw [evD_loop]
    simp [c, e, sel]
  | succ n ih =>
    intro i out hn h0 ho
    have c : i ≤ to_ := by omega
    have w : IntKind.i64.wrap (i + 1) = i + 1 := wrap64_in _ (by omega) (by omega)
    have hp := hH i c (H ++ [.row 1 (upV (out.map encI))])
    have em : max (i + 1) (to_ + 1) = max i (to_ + 1) := by omega
    unfold lp87_0
    rw [evD_loop]
    by_cases cp : p i = true
    · have key := ih (i + 1) (out ++ [i]) (by omega) (by omega) (by simp; omega)
      rw [em] at key
      have hm : out.length + 1 < most := by unfold most; omega
      simp [c, hp, cp, w, hm]
      simp [sel, cp, encI, upV] at key ⊢
      exact key
    · have key := ih (i + 1) out (by omega) (by omega) (by omega)
      rw [em] at key
      simp only [Bool.not_eq_true] at cp
      simp [c, hp, cp, w, sel] at key ⊢
      exact key
/-- All numbers of which it holds. -/
theorem all_ev (hv : V) (p : Int → Bool) (frm to_ : Int) (H : Heap) (hH : ∀ t : Int, t ≤ to_ → ∀ H', clD EE hv [.p (.int .i64 t)] H' = some (.p (.bool (p t)), none)) (hto : to_ < 2147483648) (hf : -2 ≤ frm) :
    clD EE (.p (.fn 87)) [.p (.int .i64 frm), .p (.int .i64 to_), hv] H = some (.p (.sl ((sel p frm (to_ - frm + 1).toNat).map encI)), none) := by
  rw [clD_body _ _ _ _ _ _ (noP _) fn87]
  have key := all_lp hv p to_ H hH hto _ frm [] rfl hf (by simp; omega)
  simp at key
  simp [St.enter, enumFrom, key]

theorem stops_ev (L M : List Int) (frm : Int) (H : Heap) (hL : L.length ≤ 1000000) :
    clD EE (.p (.fn 25)) [note L M, .p (.int .i64 frm)] H = some (.p (.sl ((sel (mayF L M) (min (max frm (-1)) L.length + 1) (L.length - (min (max frm (-1)) L.length + 1) + 1 : Int).toNat).map encI)), none) := by
  rw [clD_body _ _ _ _ _ _ (noP _) fn25]
  have hst : ∀ (t : Int), ∀ H', clD EE (.fn (.func 84) [note L M] []) [.p (.int .i64 t)] H' = some (.p (.bool (mayF L M t)), none) := fun t H' => by
    rw [clD_clo]
    exact stop_ev L M t H' (by omega)
  have key := all_ev (.fn (.func 84) [note L M] []) (mayF L M) (min (max frm (-1)) L.length + 1) L.length H (fun t _ H' => hst t H') (by omega) (by omega)
  have w : IntKind.i64.wrap (min (max frm (-1)) L.length + 1) = min (max frm (-1)) L.length + 1 := wrap64_in _ (by omega) (by omega)
  simp only [note, sli] at key
  simp [note, sli, St.enter, enumFrom, subs, w, mkfV, key]
end Go.EnvOf

/- Notes: where they may end, by the document; the same numbers. -/
namespace Go.EnvOf
open Go Go.Eng

def rstopF (L M : List Int) (frm i : Int) : Bool := decide (frm < i) && mayF L M i

theorem rstops_lp (L M : List Int) (frm : Int) (H : Heap) (hL : L.length ≤ 1000000) : ∀ (n : Nat) (i : Int) (out : List Int),
    ((L.length : Int) - i + 1).toNat = n → 0 ≤ i → out.length + n ≤ 4294967290 →
    evD EE lp26_0 ⟨[(1, .p (.int .i64 frm)), (2, .lptr 2 0), (5, .row H.length out.length 0 out.length), (6, .p (.int .i64 i))], [(2, [sli L, sli M])], H ++ [.row 1 (upV (out.map encI))], H.length, []⟩ =
      some (.exit 0, ⟨[(1, .p (.int .i64 frm)), (2, .lptr 2 0), (5, .row H.length (out ++ sel (rstopF L M frm) i n).length 0 (out ++ sel (rstopF L M frm) i n).length), (6, .p (.int .i64 (max i (L.length + 1)))), (11, .p (.bool false))], [(2, [sli L, sli M])], H ++ [.row 1 (upV ((out ++ sel (rstopF L M frm) i n).map encI))], H.length, []⟩) := by
  intro n
  induction n with
  | zero =>
    intro i out hn h0 ho
    have c : ¬ i ≤ (L.length : Int) := by omega
    have e : max i ((L.length : Int) + 1) = i := by omega
    unfold lp26_0
    rw [evD_loop]
    simp [sli, subs, c, e, sel]
  | succ n ih =>
    intro i out hn h0 ho
    have c : i ≤ (L.length : Int) := by omega
    have w : IntKind.i64.wrap (i + 1) = i + 1 := wrap64_in _ (by omega) (by omega)
    have hp := rmay_ev L M i (H ++ [.row 1 (upV (out.map encI))]) (by omega)
    simp only [note, sli] at hp
    have em : max (i + 1) ((L.length : Int) + 1) = max i ((L.length : Int) + 1) := by omega
    unfold lp26_0
    rw [evD_loop]
    by_cases cf : frm < i
    · by_cases cp : mayF L M i = true
      · have key := ih (i + 1) (out ++ [i]) (by omega) (by omega) (by simp; omega)
        rw [em] at key
        have hm : out.length + 1 < most := by unfold most; omega
        have cs : rstopF L M frm i = true := by simp [rstopF, cf, cp]
        simp [sli, subs, c, cf, hp, cp, w, hm]
        simp [sel, cs, sli, encI, upV] at key ⊢
        exact key
      · have key := ih (i + 1) out (by omega) (by omega) (by omega)
        rw [em] at key
        simp only [Bool.not_eq_true] at cp
        have cs : rstopF L M frm i = false := by simp [rstopF, cp]
        simp [sli, subs, c, cf, hp, cp, w]
        simp [sel, cs, sli] at key ⊢
        exact key
    · have key := ih (i + 1) out (by omega) (by omega) (by omega)
      rw [em] at key
      have cs : rstopF L M frm i = false := by simp [rstopF, cf]
      simp [sli, subs, c, cf, w]
      simp [sel, cs, sli] at key ⊢
      exact key

theorem rstops_ev (L M : List Int) (frm : Int) (H : Heap) (hL : L.length ≤ 1000000) :
    clD EE (.p (.fn 26)) [note L M, .p (.int .i64 frm)] H = some (.p (.sl ((sel (rstopF L M frm) 0 (L.length + 1)).map encI)), none) := by
  rw [clD_body _ _ _ _ _ _ (noP _) fn26]
  have key := rstops_lp L M frm H hL (L.length + 1) 0 [] (by omega) (by omega) (by simp; omega)
  simp [sli] at key
  simp [note, sli, St.enter, enumFrom, subs, key]

/-- What does not count comes to nothing. -/
theorem sel_none {p : Int → Bool} : ∀ (n : Nat) (a : Int), (∀ i, a ≤ i → i < a + n → p i = false) → sel p a n = []
  | 0, _, _ => rfl
  | n + 1, a, h => by
    simp only [sel, h a (by omega) (by omega), Bool.false_eq_true, if_false, List.nil_append]
    exact sel_none n (a + 1) fun i h1 h2 => h i (by omega) (by omega)
theorem sel_congr {p q : Int → Bool} : ∀ (n : Nat) (a : Int), (∀ i, a ≤ i → i < a + n → p i = q i) → sel p a n = sel q a n
  | 0, _, _ => rfl
  | n + 1, a, h => by
    simp only [sel, h a (by omega) (by omega)]
    rw [sel_congr n (a + 1) fun i h1 h2 => h i (by omega) (by omega)]
theorem sel_add {p : Int → Bool} : ∀ (m n : Nat) (a : Int), sel p a (m + n) = sel p a m ++ sel p (a + m) n
  | 0, n, a => by simp [sel]
  | m + 1, n, a => by
    have e : m + 1 + n = (m + n) + 1 := by omega
    rw [e]
    simp only [sel]
    rw [sel_add m n (a + 1), List.append_assoc]
    congr 3; omega

/-- Both name the same stops. -/
theorem stops_same (L M : List Int) (frm : Int) :
    sel (mayF L M) (min (max frm (-1)) L.length + 1) (L.length - (min (max frm (-1)) L.length + 1) + 1 : Int).toNat = sel (rstopF L M frm) 0 (L.length + 1) := by
  generalize hb : min (max frm (-1)) (L.length : Int) + 1 = b
  have h1 : 0 ≤ b := by omega
  have h2 : b ≤ L.length + 1 := by omega
  have e : L.length + 1 = b.toNat + (L.length - b + 1 : Int).toNat := by omega
  rw [e, sel_add, sel_none b.toNat 0 (fun i h3 h4 => by
    have : ¬ frm < i := by omega
    simp [rstopF, this]), List.nil_append]
  have e2 : (0 : Int) + (b.toNat : Int) = b := by omega
  rw [e2]
  refine sel_congr _ _ fun i h3 h4 => ?_
  have : frm < i := by omega
  simp [rstopF, this]

theorem ints_lp (A B : List Int) (H : Heap) (Bs : Nat) (hA : A.length ≤ 9223372036854775806) (hl : A.length = B.length) : ∀ (n : Nat) (i : Int), ((A.length : Int) - i).toNat = n → 0 ≤ i → i ≤ A.length → A.take i.toNat = B.take i.toNat →
    ∃ e, (evD EE lp24_0 ⟨[(0, sli A), (1, sli B), (5, .p (.int .i64 i))], [], H, Bs, []⟩ = some (.exit 0, ⟨e, [], H, Bs, []⟩) ∧ A = B) ∨
      (∃ env, evD EE lp24_0 ⟨[(0, sli A), (1, sli B), (5, .p (.int .i64 i))], [], H, Bs, []⟩ = some (.ret, ⟨[(4, .p (.bool false))], env, H, Bs, []⟩) ∧ A ≠ B) := by
  intro n
  induction n with
  | zero =>
    intro i hn h0 h1 ht
    have e : i.toNat = A.length := by omega
    refine ⟨[(0, sli A), (1, sli B), (5, .p (.int .i64 i)), (14, .p (.bool false))], .inl ⟨?_, ?_⟩⟩
    · unfold lp24_0
      rw [evD_loop]
      have c : ¬ i < (A.length : Int) := by omega
      simp [sli, c]
    · rw [e, List.take_length, hl, List.take_length] at ht; exact ht
  | succ n ih =>
    intro i hn h0 h1 ht
    have c : i < (A.length : Int) := by omega
    have c2 : i < (B.length : Int) := by omega
    have w : IntKind.i64.wrap (i + 1) = i + 1 := wrap64_in _ (by omega) (by omega)
    by_cases ce : rd A i = rd B i
    · have ht' : A.take (i + 1).toNat = B.take (i + 1).toNat := by rw [take_succ A i h0 c, take_succ B i h0 c2, ht, ce]
      obtain ⟨S, key⟩ := ih (i + 1) (by omega) (by omega) (by omega) ht'
      refine ⟨S, ?_⟩
      have st : evD EE lp24_0 ⟨[(0, sli A), (1, sli B), (5, .p (.int .i64 i))], [], H, Bs, []⟩ = evD EE lp24_0 ⟨[(0, sli A), (1, sli B), (5, .p (.int .i64 (i + 1)))], [], H, Bs, []⟩ := by
        conv => lhs; unfold lp24_0
        rw [evD_loop]
        simp (disch := omega) [sli, c, ixs_sli, subs, ce, w]
        rfl
      rw [st]; exact key
    · refine ⟨default, .inr ⟨[], ?_, ?_⟩⟩
      · unfold lp24_0
        rw [evD_loop]
        simp (disch := omega) [sli, c, ixs_sli, subs, ce]
      · rintro rfl; exact ce rfl

theorem ints_ev (A B : List Int) (H : Heap) (hA : A.length ≤ 9223372036854775806) : clD EE (.p (.fn 24)) [sli A, sli B] H = some (.p (.bool (decide (A = B))), none) := by
  rw [clD_body _ _ _ _ _ _ (noP _) fn24]
  by_cases c : (A.length : Int) = B.length
  · obtain ⟨S, key⟩ := ints_lp A B H H.length hA (by omega) _ 0 rfl (by omega) (by omega) (by simp)
    rcases key with ⟨k1, k2⟩ | ⟨env, k1, k2⟩
    · simp only [sli] at k1
      have kd : decide (A = B) = true := by simpa using k2
      rw [kd]
      simp [sli, St.enter, enumFrom, c, k1]
    · simp only [sli] at k1
      simp [sli, St.enter, enumFrom, c, k1, k2]
  · have : A ≠ B := by rintro rfl; exact c rfl
    simp [sli, St.enter, enumFrom, c, this]
end Go.EnvOf

/- Notes: first stop, whether a note may be; the law NoteTells. -/
namespace Go.EnvOf
open Go Go.Eng

def stopsF (L M : List Int) (frm : Int) : List Int := sel (rstopF L M frm) 0 (L.length + 1)
def firstF (L M : List Int) (frm : Int) : Int := match stopsF L M frm with | [] => -1 | x :: _ => x

theorem stops_ev' (L M : List Int) (frm : Int) (H : Heap) (hL : L.length ≤ 1000000) : clD EE (.p (.fn 25)) [note L M, .p (.int .i64 frm)] H = some (.p (.sl ((stopsF L M frm).map encI)), none) := by
  rw [stops_ev L M frm H hL, stops_same]; rfl

theorem first_ev (L M : List Int) (frm : Int) (H : Heap) (hL : L.length ≤ 1000000) : clD EE (.p (.fn 27)) [note L M, .p (.int .i64 frm)] H = some (.p (.int .i64 (firstF L M frm)), none) := by
  rw [clD_body _ _ _ _ _ _ (noP _) fn27]
  have h1 := stops_ev' L M frm H hL
  unfold firstF
  simp only [note, sli] at h1
  cases hs : stopsF L M frm with
  | nil =>
    rw [hs] at h1
    simp at h1
    simp [note, sli, St.enter, enumFrom, subs, h1]
  | cons x r =>
    rw [hs] at h1
    have hx : ixsI H (.p (.sl ((x :: r).map encI))) (.p (.int .i64 0)) 1 = some (.eptr [.p (.int .i64 x)] 0) := by
      rw [ixs_sli H (x :: r) .i64 0 (by omega) (by simp)]; simp [rd]
    have c : ¬ ((r.length : Int) + 1 = 0) := by omega
    simp at h1 hx
    simp [note, sli, St.enter, enumFrom, subs, h1, c, hx]

theorem rfirst_ev (L M : List Int) (frm : Int) (H : Heap) (hL : L.length ≤ 1000000) : clD EE (.p (.fn 28)) [note L M, .p (.int .i64 frm)] H = some (.p (.int .i64 (firstF L M frm)), none) := by
  rw [clD_body _ _ _ _ _ _ (noP _) fn28]
  have h1 : clD EE (.p (.fn 26)) [note L M, .p (.int .i64 frm)] H = some (.p (.sl ((stopsF L M frm).map encI)), none) := rstops_ev L M frm H hL
  unfold firstF
  simp only [note, sli] at h1
  cases hs : stopsF L M frm with
  | nil =>
    rw [hs] at h1
    simp at h1
    simp [note, sli, St.enter, enumFrom, subs, h1]
  | cons x r =>
    rw [hs] at h1
    have hx : ixsI H (.p (.sl ((x :: r).map encI))) (.p (.int .i64 0)) 1 = some (.eptr [.p (.int .i64 x)] 0) := by
      rw [ixs_sli H (x :: r) .i64 0 (by omega) (by simp)]; simp [rd]
    have c : ¬ ((r.length : Int) + 1 = 0) := by omega
    simp at h1 hx
    simp [note, sli, St.enter, enumFrom, subs, h1, c, hx]

/-- Is something wrong with one of them? -/
def bad (lo hi : Int) (l : List Int) : Bool := l.any fun x => decide (x < lo) || decide (hi < x)

theorem drop_rd (L : List Int) (i : Int) (h0 : 0 ≤ i) (h1 : i < L.length) : L.drop i.toNat = rd L i :: L.drop (i + 1).toNat := by
  have := drop_cons L i L.length h0 (by omega) (Nat.le_refl _)
  rwa [List.take_length] at this

theorem chk_lp0 (L M : List Int) (H : Heap) (B : Nat) (hL : L.length ≤ 9223372036854775807) : ∀ (n : Nat) (i : Int) (wr : Bool), ((L.length : Int) - i).toNat = n → 0 ≤ i → i ≤ L.length →
    evD EE lp18_0 ⟨[(1, .lptr 1 0), (3, .p (.bool wr)), (29, sli L), (30, .p (.int .i64 L.length)), (31, .p (.int .i64 i))], [(1, [sli L, sli M])], H, B, []⟩ =
      some (.exit 0, ⟨[(1, .lptr 1 0), (3, .p (.bool (wr || bad 1 1073741823 (L.drop i.toNat)))), (29, sli L), (30, .p (.int .i64 L.length)), (31, .p (.int .i64 L.length)), (32, .p (.bool false))], [(1, [sli L, sli M])], H, B, []⟩) := by
  intro n
  induction n with
  | zero =>
    intro i wr hn h0 h1
    have e : i = L.length := by omega
    subst e
    unfold lp18_0
    rw [evD_loop]
    simp [sli, bad]
  | succ n ih =>
    intro i wr hn h0 h1
    have c : i < (L.length : Int) := by omega
    have w : IntKind.i64.wrap (i + 1) = i + 1 := wrap64_in _ (by omega) (by omega)
    have key := ih (i + 1) (wr || (decide (rd L i < 1) || decide (1073741823 < rd L i))) (by omega) (by omega) (by omega)
    have eb : bad 1 1073741823 (L.drop i.toNat) = ((decide (rd L i < 1) || decide (1073741823 < rd L i)) || bad 1 1073741823 (L.drop (i + 1).toNat)) := by rw [drop_rd L i h0 c]; simp [bad]
    rw [eb, ← Bool.or_assoc]
    unfold lp18_0
    rw [evD_loop]
    cases wr
    · by_cases c1 : rd L i < 1
      · simp (disch := omega) [sli, c, ixs_sli, subs, w, c1] at key ⊢
        exact key
      · simp (disch := omega) [sli, c, ixs_sli, subs, w, c1] at key ⊢
        exact key
    · simp (disch := omega) [sli, c, ixs_sli, subs, w] at key ⊢
      exact key
theorem chk_lp1 (M : List Int) (H : Heap) (B : Nat) (hM : M.length ≤ 9223372036854775807) : ∀ (n : Nat) (i : Int) (wr : Bool), ((M.length : Int) - i).toNat = n → 0 ≤ i → i ≤ M.length →
    evD EE lp18_1 ⟨[(3, .p (.bool wr)), (46, sli M), (47, .p (.int .i64 M.length)), (48, .p (.int .i64 i))], [], H, B, []⟩ =
      some (.exit 2, ⟨[(3, .p (.bool (wr || bad 0 10000 (M.drop i.toNat)))), (46, sli M), (47, .p (.int .i64 M.length)), (48, .p (.int .i64 M.length)), (49, .p (.bool false))], [], H, B, []⟩) := by
  intro n
  induction n with
  | zero =>
    intro i wr hn h0 h1
    have e : i = M.length := by omega
    subst e
    unfold lp18_1
    rw [evD_loop]
    simp [sli, bad]
  | succ n ih =>
    intro i wr hn h0 h1
    have c : i < (M.length : Int) := by omega
    have w : IntKind.i64.wrap (i + 1) = i + 1 := wrap64_in _ (by omega) (by omega)
    have key := ih (i + 1) (wr || (decide (rd M i < 0) || decide (10000 < rd M i))) (by omega) (by omega) (by omega)
    have eb : bad 0 10000 (M.drop i.toNat) = ((decide (rd M i < 0) || decide (10000 < rd M i)) || bad 0 10000 (M.drop (i + 1).toNat)) := by rw [drop_rd M i h0 c]; simp [bad]
    rw [eb, ← Bool.or_assoc]
    unfold lp18_1
    rw [evD_loop]
    cases wr
    · by_cases c1 : rd M i < 0
      · simp (disch := omega) [sli, c, ixs_sli, subs, w, c1] at key ⊢
        exact key
      · simp (disch := omega) [sli, c, ixs_sli, subs, w, c1] at key ⊢
        exact key
    · simp (disch := omega) [sli, c, ixs_sli, subs, w] at key ⊢
      exact key

/-- May it not be? -/
def wrongN (L M : List Int) : Bool := decide ((L.length : Int) < 1) || decide (64 < (L.length : Int)) || !decide ((M.length : Int) = L.length - 1)
def wrongF (L M : List Int) : Bool := wrongN L M || bad 1 1073741823 L || bad 0 10000 M

theorem check_ev (L M : List Int) (H : Heap) (hL : L.length ≤ 9223372036854775807) (hM : M.length ≤ 9223372036854775807) : clD EE (.p (.fn 18)) [note L M] H = some (.p (.int .i64 (if wrongF L M = true then 9 else 0)), none) := by
  rw [clD_body _ _ _ _ _ _ (noP _) fn18]
  have k0 := fun wr => chk_lp0 L M H H.length hL _ 0 wr rfl (by omega) (by omega)
  have k1 := fun wr => chk_lp1 M H H.length hM _ 0 wr rfl (by omega) (by omega)
  have w : IntKind.i64.wrap ((L.length : Int) - 1) = L.length - 1 := wrap64_in _ (by omega) (by omega)
  have go : ∀ b : Bool, wrongN L M = b → wrongF L M = (b || bad 1 1073741823 L || bad 0 10000 M) := fun b h => by unfold wrongF; rw [h]
  simp [sli] at k0 k1
  by_cases c1 : (L.length : Int) < 1
  · have hb := go true (by simp [wrongN, c1])
    simp [hb, note, sli, St.enter, enumFrom, subs, c1, k0, k1]
  · by_cases c2 : 64 < (L.length : Int)
    · have hb := go true (by simp [wrongN, c2])
      simp [hb, note, sli, St.enter, enumFrom, subs, c1, c2, k0, k1]
    · by_cases c3 : (M.length : Int) = L.length - 1
      · have hb := go false (by simp [wrongN, c1, c2, c3])
        rw [hb]
        simp only [c3] at k1
        cases h1 : bad 1 1073741823 L <;> cases h2 : bad 0 10000 M <;> simp [note, sli, St.enter, enumFrom, subs, c1, c2, c3, w, k0, k1, h1, h2]
      · have hb := go true (by simp [wrongN, c3])
        simp [hb, note, sli, St.enter, enumFrom, subs, c1, c2, c3, w, k0, k1]
end Go.EnvOf

/- Notes: whether a note may be, by the document. -/
namespace Go.EnvOf
open Go Go.Eng

theorem rchk_lp0 (L M : List Int) (H : Heap) (B : Nat) (hL : L.length ≤ 1000000) : ∀ (n : Nat) (i : Int), ((L.length : Int) - i).toNat = n → 0 ≤ i → i ≤ L.length →
    evD EE lp19_0 ⟨[(1, .lptr 1 0), (3, .p (.int .i64 i))], [(1, [sli L, sli M])], H, B, []⟩ =
      if bad 1 1073741823 (L.drop i.toNat) = true then some (.ret, ⟨[(2, .p (.bool false))], [], H, B, []⟩)
      else some (.exit 0, ⟨[(1, .lptr 1 0), (3, .p (.int .i64 L.length)), (29, .p (.bool false))], [(1, [sli L, sli M])], H, B, []⟩) := by
  intro n
  induction n with
  | zero =>
    intro i hn h0 h1
    have e : i = L.length := by omega
    subst e
    unfold lp19_0
    rw [evD_loop]
    simp [sli, bad, subs]
  | succ n ih =>
    intro i hn h0 h1
    have c : i < (L.length : Int) := by omega
    have w : IntKind.i64.wrap (i + 1) = i + 1 := wrap64_in _ (by omega) (by omega)
    have key := ih (i + 1) (by omega) (by omega) (by omega)
    have eb : bad 1 1073741823 (L.drop i.toNat) = ((decide (rd L i < 1) || decide (1073741823 < rd L i)) || bad 1 1073741823 (L.drop (i + 1).toNat)) := by rw [drop_rd L i h0 c]; simp [bad]
    rw [eb]
    unfold lp19_0
    rw [evD_loop]
    by_cases c1 : rd L i < 1
    · simp (disch := omega) [sli, c, ixs_sli, subs, c1]
    · by_cases c2 : 1073741823 < rd L i
      · simp (disch := omega) [sli, c, ixs_sli, subs, c1, c2]
      · simp (disch := omega) [sli, c, ixs_sli, subs, w, c1, c2] at key ⊢
        exact key

theorem rchk_lp1 (L M : List Int) (H : Heap) (B : Nat) (hM : M.length ≤ 1000000) : ∀ (n : Nat) (i : Int), ((M.length : Int) - i).toNat = n → 0 ≤ i → i ≤ M.length →
    evD EE lp19_1 ⟨[(1, .lptr 1 0), (4, .p (.int .i64 i))], [(1, [sli L, sli M])], H, B, []⟩ =
      if bad 0 10000 (M.drop i.toNat) = true then some (.ret, ⟨[(2, .p (.bool false))], [], H, B, []⟩)
      else some (.exit 2, ⟨[(1, .lptr 1 0), (4, .p (.int .i64 M.length)), (50, .p (.bool false))], [(1, [sli L, sli M])], H, B, []⟩) := by
  intro n
  induction n with
  | zero =>
    intro i hn h0 h1
    have e : i = M.length := by omega
    subst e
    unfold lp19_1
    rw [evD_loop]
    simp [sli, bad, subs]
  | succ n ih =>
    intro i hn h0 h1
    have c : i < (M.length : Int) := by omega
    have w : IntKind.i64.wrap (i + 1) = i + 1 := wrap64_in _ (by omega) (by omega)
    have key := ih (i + 1) (by omega) (by omega) (by omega)
    have eb : bad 0 10000 (M.drop i.toNat) = ((decide (rd M i < 0) || decide (10000 < rd M i)) || bad 0 10000 (M.drop (i + 1).toNat)) := by rw [drop_rd M i h0 c]; simp [bad]
    rw [eb]
    unfold lp19_1
    rw [evD_loop]
    by_cases c1 : rd M i < 0
    · simp (disch := omega) [sli, c, ixs_sli, subs, c1]
    · by_cases c2 : 10000 < rd M i
      · simp (disch := omega) [sli, c, ixs_sli, subs, c1, c2]
      · simp (disch := omega) [sli, c, ixs_sli, subs, w, c1, c2] at key ⊢
        exact key

theorem rcheck_ev (L M : List Int) (H : Heap) (hL : L.length ≤ 1000000) (hM : M.length ≤ 1000000) : clD EE (.p (.fn 19)) [note L M] H = some (.p (.bool (!wrongF L M)), none) := by
  rw [clD_body _ _ _ _ _ _ (noP _) fn19]
  have k0 := rchk_lp0 L M H H.length hL _ 0 rfl (by omega) (by omega)
  have k1 := rchk_lp1 L M H H.length hM _ 0 rfl (by omega) (by omega)
  have w : IntKind.i64.wrap ((L.length : Int) - 1) = L.length - 1 := wrap64_in _ (by omega) (by omega)
  have go : ∀ b : Bool, wrongN L M = b → wrongF L M = (b || bad 1 1073741823 L || bad 0 10000 M) := fun b h => by unfold wrongF; rw [h]
  simp [sli] at k0 k1
  by_cases c1 : (L.length : Int) < 1
  · have hb := go true (by simp [wrongN, c1])
    simp [hb, note, sli, St.enter, enumFrom, subs, c1]
  · by_cases c2 : 64 < (L.length : Int)
    · have hb := go true (by simp [wrongN, c2])
      simp [hb, note, sli, St.enter, enumFrom, subs, c1, c2]
    · by_cases c3 : (M.length : Int) = L.length - 1
      · have hb := go false (by simp [wrongN, c1, c2, c3])
        rw [hb]
        cases h1 : bad 1 1073741823 L <;> cases h2 : bad 0 10000 M <;> simp [h1, h2] at k0 k1 <;> simp [note, sli, St.enter, enumFrom, subs, c1, c2, c3, w, k0, k1]
      · have hb := go true (by simp [wrongN, c3])
        simp [hb, note, sli, St.enter, enumFrom, subs, c1, c2, c3, w]

theorem noteTells_ev (L M : List Int) (at_ : Int) : clD EE (.p (.fn 3)) [note L M, .p (.int .i64 at_)] [] = some (.p (.bool true), none) := by
  rw [clD_body _ _ _ _ _ _ (noP _) fn3]
  by_cases c : (100 : Int) < L.length
  · simp [note, St.enter, enumFrom, subs, sli, c, awake17]
  · by_cases c2 : (100 : Int) < M.length
    · simp [note, St.enter, enumFrom, subs, sli, c, c2, awake17]
    · have h1 := check_ev L M [] (by omega) (by omega)
      have h2 := rcheck_ev L M [] (by omega) (by omega)
      have h3 := may_ev L M at_ [] (by omega)
      have h4 := rmay_ev L M at_ [] (by omega)
      have h5 := pen_ev L M at_ [] (by omega)
      have h6 := rpen_ev L M at_ [] (by omega)
      have h7 := stops_ev' L M at_ [] (by omega)
      have h8 : clD EE (.p (.fn 26)) [note L M, .p (.int .i64 at_)] [] = some (.p (.sl ((stopsF L M at_).map encI)), none) := rstops_ev L M at_ [] (by omega)
      have h9 : clD EE (.p (.fn 24)) [sli (stopsF L M at_), sli (stopsF L M at_)] [] = some (.p (.bool true), none) := by
        rw [ints_ev _ _ [] (by
          have := sel_len (rstopF L M at_) (L.length + 1) 0
          unfold stopsF; omega)]
        simp
      have h10 := first_ev L M at_ [] (by omega)
      have h11 := rfirst_ev L M at_ [] (by omega)
      simp only [note, sli] at h1 h2 h3 h4 h5 h6 h7 h8 h9 h10 h11
      cases hw : wrongF L M <;> simp [hw] at h1 h2 <;> simp [note, St.enter, enumFrom, subs, sli, c, c2, h1, h2, h3, h4, h5, h6, h7, h8, h9, h10, h11, awake17]
end Go.EnvOf

/- Notes: the same notes. -/
namespace Go.EnvOf
open Go Go.Eng

theorem eq88_lp (A B : List Int) (H : Heap) (Bs : Nat) (hA : A.length ≤ 9223372036854775806) (hl : A.length = B.length) : ∀ (n : Nat) (i : Int), ((A.length : Int) - i).toNat = n → 0 ≤ i → i ≤ A.length → A.take i.toNat = B.take i.toNat →
    ∃ e, (evD EE lp88_0 ⟨[(0, sli A), (1, sli B), (12, .p (.int .i64 A.length)), (13, .p (.int .i64 i))], [], H, Bs, []⟩ = some (.exit 0, ⟨e, [], H, Bs, []⟩) ∧ A = B) ∨
      (evD EE lp88_0 ⟨[(0, sli A), (1, sli B), (12, .p (.int .i64 A.length)), (13, .p (.int .i64 i))], [], H, Bs, []⟩ = some (.ret, ⟨[(4, .p (.bool false))], [], H, Bs, []⟩) ∧ A ≠ B) := by
  intro n
  induction n with
  | zero =>
    intro i hn h0 h1 ht
    have e : i.toNat = A.length := by omega
    refine ⟨[(0, sli A), (1, sli B), (12, .p (.int .i64 A.length)), (13, .p (.int .i64 i)), (14, .p (.bool false))], .inl ⟨?_, ?_⟩⟩
    · unfold lp88_0
      rw [evD_loop]
      have c : ¬ i < (A.length : Int) := by omega
      simp [sli, c]
    · rw [e, List.take_length, hl, List.take_length] at ht; exact ht
  | succ n ih =>
    intro i hn h0 h1 ht
    have c : i < (A.length : Int) := by omega
    have c2 : i < (B.length : Int) := by omega
    have w : IntKind.i64.wrap (i + 1) = i + 1 := wrap64_in _ (by omega) (by omega)
    by_cases ce : rd A i = rd B i
    · have ht' : A.take (i + 1).toNat = B.take (i + 1).toNat := by rw [take_succ A i h0 c, take_succ B i h0 c2, ht, ce]
      obtain ⟨e, key⟩ := ih (i + 1) (by omega) (by omega) (by omega) ht'
      refine ⟨e, ?_⟩
      have st : evD EE lp88_0 ⟨[(0, sli A), (1, sli B), (12, .p (.int .i64 A.length)), (13, .p (.int .i64 i))], [], H, Bs, []⟩ = evD EE lp88_0 ⟨[(0, sli A), (1, sli B), (12, .p (.int .i64 A.length)), (13, .p (.int .i64 (i + 1)))], [], H, Bs, []⟩ := by
        conv => lhs; unfold lp88_0
        rw [evD_loop]
        simp (disch := omega) [sli, c, ixs_sli, subs, ce, w]
        rfl
      rw [st]; exact key
    · refine ⟨[], .inr ⟨?_, ?_⟩⟩
      · unfold lp88_0
        rw [evD_loop]
        simp (disch := omega) [sli, c, ixs_sli, subs, ce]
      · rintro rfl; exact ce rfl

theorem eq88_ev (A B : List Int) (H : Heap) (hA : A.length ≤ 9223372036854775806) : clD EE (.p (.fn 88)) [sli A, sli B] H = some (.p (.bool (decide (A = B))), none) := by
  rw [clD_body _ _ _ _ _ _ (noP _) fn88]
  by_cases c : (A.length : Int) = B.length
  · obtain ⟨e, key⟩ := eq88_lp A B H H.length hA (by omega) _ 0 rfl (by omega) (by omega) (by simp)
    rcases key with ⟨k1, k2⟩ | ⟨k1, k2⟩
    · have kd : decide (A = B) = true := by simpa using k2
      rw [kd]
      simp only [sli, c] at k1
      simp [sli, St.enter, enumFrom, c, k1]
    · simp only [sli, c] at k1
      simp [sli, St.enter, enumFrom, c, k1, k2]
  · have : A ≠ B := by rintro rfl; exact c rfl
    simp [sli, St.enter, enumFrom, c, this]

/-- The second is the first, of another type. -/
theorem lp89_eq : lp89_0 = lp88_0 := rfl
theorem eq89_ev (A B : List Int) (H : Heap) (hA : A.length ≤ 9223372036854775806) : clD EE (.p (.fn 89)) [sli A, sli B] H = some (.p (.bool (decide (A = B))), none) := by
  rw [← eq88_ev A B H hA, clD_body _ _ _ _ _ _ (noP _) fn89, clD_body _ _ _ _ _ _ (noP _) fn88]
  rfl

def sameF (A M B N : List Int) : Bool := decide (A = B) && decide (M = N)
theorem same_ev (A M B N : List Int) (H : Heap) (hA : A.length ≤ 1000000) (hM : M.length ≤ 1000000) : clD EE (.p (.fn 32)) [note A M, note B N] H = some (.p (.bool (sameF A M B N)), none) := by
  rw [clD_body _ _ _ _ _ _ (noP _) fn32]
  have h1 := eq88_ev A B H (by omega)
  have h2 := eq89_ev M N H (by omega)
  simp only [sli] at h1 h2
  unfold sameF
  by_cases c : A = B
  · subst c
    simp at h1
    simp [note, sli, St.enter, enumFrom, subs, h1, h2]
  · simp [c] at h1
    simp [note, sli, St.enter, enumFrom, subs, h1, c]
end Go.EnvOf

/- Notes: the same by the document; all lines of notes. -/
namespace Go.EnvOf
open Go Go.Eng

/-- A list of notes. -/
def encN (x : List Int × List Int) : List PV := [.sl (x.1.map encI), .sl (x.2.map encI)]
@[simp] theorem encN_len (x : List Int × List Int) : (encN x).length = 2 := rfl
def notes (l : List (List Int × List Int)) : V := .p (.sl (l.map encN))
theorem ixs_notes (H : Heap) (L : List (List Int × List Int)) (k : IntKind) (i : Int) (h0 : 0 ≤ i) (h1 : i < L.length) : ixsI H (.p (.sl (L.map encN))) (.p (.int k i)) 2 = some (.eptr [.p (.sl ((rd L i).1.map encI)), .p (.sl ((rd L i).2.map encI))] 0) :=
  ixs_map H encN L k i 2 (fun _ => rfl) h0 h1

def linesF (l : List (List Int × List Int)) : Int := l.foldr (fun x s => (x.1.length : Int) + s) 0

theorem drop_rd' {α : Type} [Inhabited α] (L : List α) (i : Int) (h0 : 0 ≤ i) (h1 : i < L.length) : L.drop i.toNat = rd L i :: L.drop (i + 1).toNat := by
  have e : (i + 1).toNat = i.toNat + 1 := by omega
  rw [e, List.drop_eq_getElem_cons (by omega)]
  congr 1
  unfold rd
  have : i.toNat < L.length := by omega
  simp [List.getD_eq_getElem?_getD, this]

theorem linesF_nonneg : ∀ l, 0 ≤ linesF l
  | [] => by simp [linesF]
  | x :: r => by have := linesF_nonneg r; simp only [linesF, List.foldr_cons] at this ⊢; omega

theorem lines_lp (l : List (List Int × List Int)) (H : Heap) (Bs : Nat) (hl : l.length ≤ 1000000) : ∀ (n : Nat) (i s : Int), ((l.length : Int) - i).toNat = n → 0 ≤ i → i ≤ l.length → 0 ≤ s → s + linesF (l.drop i.toNat) ≤ 9223372036854775807 →
    evD EE lp31_0 ⟨[(3, .p (.int .i64 s)), (6, notes l), (7, .p (.int .i64 l.length)), (8, .p (.int .i64 i))], [], H, Bs, []⟩ =
      some (.exit 0, ⟨[(3, .p (.int .i64 (s + linesF (l.drop i.toNat)))), (6, notes l), (7, .p (.int .i64 l.length)), (8, .p (.int .i64 l.length)), (9, .p (.bool false))], [], H, Bs, []⟩) := by
  intro n
  induction n with
  | zero =>
    intro i s hn h0 h1 h2 h3
    have e : i = l.length := by omega
    subst e
    unfold lp31_0
    rw [evD_loop]
    simp [notes, linesF]
  | succ n ih =>
    intro i s hn h0 h1 h2 h3
    have c : i < (l.length : Int) := by omega
    have w : IntKind.i64.wrap (i + 1) = i + 1 := wrap64_in _ (by omega) (by omega)
    have hd := drop_rd' l i h0 c
    have hs : linesF (l.drop i.toNat) = ((rd l i).1.length : Int) + linesF (l.drop (i + 1).toNat) := by rw [hd]; rfl
    have hnn := linesF_nonneg (l.drop (i + 1).toNat)
    have w2 : IntKind.i64.wrap (s + ((rd l i).1.length : Int)) = s + ((rd l i).1.length : Int) := wrap64_in _ (by omega) (by omega)
    have key := ih (i + 1) (s + ((rd l i).1.length : Int)) (by omega) (by omega) (by omega) (by omega) (by omega)
    have e2 : s + linesF (l.drop i.toNat) = s + ((rd l i).1.length : Int) + linesF (l.drop (i + 1).toNat) := by omega
    rw [e2]
    unfold lp31_0
    rw [evD_loop]
    simp (disch := omega) [notes, c, ixs_notes, subs, setSubs, w, w2] at key ⊢
    exact key

theorem lines_ev (l : List (List Int × List Int)) (H : Heap) (hl : l.length ≤ 1000000) (hs : linesF l ≤ 9223372036854775807) : clD EE (.p (.fn 31)) [notes l] H = some (.p (.int .i64 (linesF l)), none) := by
  rw [clD_body _ _ _ _ _ _ (noP _) fn31]
  have key := lines_lp l H H.length hl _ 0 0 rfl (by omega) (by omega) (by omega) (by simpa using hs)
  simp [notes] at key
  simp [notes, St.enter, enumFrom, key]
end Go.EnvOf

/- Notes: the same by the document. -/
namespace Go.EnvOf
open Go Go.Eng

theorem rsame_lp0 (A M B N : List Int) (H : Heap) (Bs : Nat) (hA : A.length ≤ 1000000) (hl : A.length = B.length) : ∀ (n : Nat) (i : Int), ((A.length : Int) - i).toNat = n → 0 ≤ i → i ≤ A.length → A.take i.toNat = B.take i.toNat →
    (evD EE lp33_0 ⟨[(2, .lptr 2 0), (3, .lptr 3 0), (5, .p (.int .i64 i))], [(2, [sli A, sli M]), (3, [sli B, sli N])], H, Bs, []⟩ = some (.exit 0, ⟨[(2, .lptr 2 0), (3, .lptr 3 0), (5, .p (.int .i64 A.length)), (27, .p (.bool false))], [(2, [sli A, sli M]), (3, [sli B, sli N])], H, Bs, []⟩) ∧ A = B) ∨
      (evD EE lp33_0 ⟨[(2, .lptr 2 0), (3, .lptr 3 0), (5, .p (.int .i64 i))], [(2, [sli A, sli M]), (3, [sli B, sli N])], H, Bs, []⟩ = some (.ret, ⟨[(4, .p (.bool false))], [], H, Bs, []⟩) ∧ A ≠ B) := by
  intro n
  induction n with
  | zero =>
    intro i hn h0 h1 ht
    have e : i = A.length := by omega
    have e' : i.toNat = A.length := by omega
    refine .inl ⟨?_, ?_⟩
    · subst e
      unfold lp33_0
      rw [evD_loop]
      simp [sli, subs]
    · rw [e', List.take_length, hl, List.take_length] at ht; exact ht
  | succ n ih =>
    intro i hn h0 h1 ht
    have c : i < (A.length : Int) := by omega
    have c2 : i < (B.length : Int) := by omega
    have w : IntKind.i64.wrap (i + 1) = i + 1 := wrap64_in _ (by omega) (by omega)
    by_cases ce : rd A i = rd B i
    · have ht' : A.take (i + 1).toNat = B.take (i + 1).toNat := by rw [take_succ A i h0 c, take_succ B i h0 c2, ht, ce]
      have key := ih (i + 1) (by omega) (by omega) (by omega) ht'
      have st : evD EE lp33_0 ⟨[(2, .lptr 2 0), (3, .lptr 3 0), (5, .p (.int .i64 i))], [(2, [sli A, sli M]), (3, [sli B, sli N])], H, Bs, []⟩ = evD EE lp33_0 ⟨[(2, .lptr 2 0), (3, .lptr 3 0), (5, .p (.int .i64 (i + 1)))], [(2, [sli A, sli M]), (3, [sli B, sli N])], H, Bs, []⟩ := by
        conv => lhs; unfold lp33_0
        rw [evD_loop]
        simp (disch := omega) [sli, c, ixs_sli, subs, ce, w]
        rfl
      rw [st]; exact key
    · refine .inr ⟨?_, ?_⟩
      · unfold lp33_0
        rw [evD_loop]
        simp (disch := omega) [sli, c, ixs_sli, subs, ce]
      · rintro rfl; exact ce rfl
theorem rsame_lp1 (A M B N : List Int) (H : Heap) (Bs : Nat) (hA : M.length ≤ 1000000) (hl : M.length = N.length) : ∀ (n : Nat) (i : Int), ((M.length : Int) - i).toNat = n → 0 ≤ i → i ≤ M.length → M.take i.toNat = N.take i.toNat →
    (evD EE lp33_1 ⟨[(2, .lptr 2 0), (3, .lptr 3 0), (6, .p (.int .i64 i))], [(2, [sli A, sli M]), (3, [sli B, sli N])], H, Bs, []⟩ = some (.exit 2, ⟨[(2, .lptr 2 0), (3, .lptr 3 0), (6, .p (.int .i64 M.length)), (45, .p (.bool false))], [(2, [sli A, sli M]), (3, [sli B, sli N])], H, Bs, []⟩) ∧ M = N) ∨
      (evD EE lp33_1 ⟨[(2, .lptr 2 0), (3, .lptr 3 0), (6, .p (.int .i64 i))], [(2, [sli A, sli M]), (3, [sli B, sli N])], H, Bs, []⟩ = some (.ret, ⟨[(4, .p (.bool false))], [], H, Bs, []⟩) ∧ M ≠ N) := by
  intro n
  induction n with
  | zero =>
    intro i hn h0 h1 ht
    have e : i = M.length := by omega
    have e' : i.toNat = M.length := by omega
    refine .inl ⟨?_, ?_⟩
    · subst e
      unfold lp33_1
      rw [evD_loop]
      simp [sli, subs]
    · rw [e', List.take_length, hl, List.take_length] at ht; exact ht
  | succ n ih =>
    intro i hn h0 h1 ht
    have c : i < (M.length : Int) := by omega
    have c2 : i < (N.length : Int) := by omega
    have w : IntKind.i64.wrap (i + 1) = i + 1 := wrap64_in _ (by omega) (by omega)
    by_cases ce : rd M i = rd N i
    · have ht' : M.take (i + 1).toNat = N.take (i + 1).toNat := by rw [take_succ M i h0 c, take_succ N i h0 c2, ht, ce]
      have key := ih (i + 1) (by omega) (by omega) (by omega) ht'
      have st : evD EE lp33_1 ⟨[(2, .lptr 2 0), (3, .lptr 3 0), (6, .p (.int .i64 i))], [(2, [sli A, sli M]), (3, [sli B, sli N])], H, Bs, []⟩ = evD EE lp33_1 ⟨[(2, .lptr 2 0), (3, .lptr 3 0), (6, .p (.int .i64 (i + 1)))], [(2, [sli A, sli M]), (3, [sli B, sli N])], H, Bs, []⟩ := by
        conv => lhs; unfold lp33_1
        rw [evD_loop]
        simp (disch := omega) [sli, c, ixs_sli, subs, ce, w]
        rfl
      rw [st]; exact key
    · refine .inr ⟨?_, ?_⟩
      · unfold lp33_1
        rw [evD_loop]
        simp (disch := omega) [sli, c, ixs_sli, subs, ce]
      · rintro rfl; exact ce rfl

theorem rsame_ev (A M B N : List Int) (H : Heap) (hA : A.length ≤ 1000000) (hM : M.length ≤ 1000000) : clD EE (.p (.fn 33)) [note A M, note B N] H = some (.p (.bool (sameF A M B N)), none) := by
  rw [clD_body _ _ _ _ _ _ (noP _) fn33]
  unfold sameF
  by_cases c1 : (A.length : Int) = B.length
  · by_cases c2 : (M.length : Int) = N.length
    · have k0 := rsame_lp0 A M B N H H.length hA (by omega) _ 0 rfl (by omega) (by omega) (by simp)
      have k1 := rsame_lp1 A M B N H H.length hM (by omega) _ 0 rfl (by omega) (by omega) (by simp)
      simp only [sli, c1, c2] at k0 k1
      rcases k0 with ⟨k0, e0⟩ | ⟨k0, e0⟩
      · rcases k1 with ⟨k1, e1⟩ | ⟨k1, e1⟩
        · have d : (decide (A = B) && decide (M = N)) = true := by simp [e0, e1]
          rw [d]
          simp [note, sli, St.enter, enumFrom, subs, c1, c2, k0, k1]
        · have d : (decide (A = B) && decide (M = N)) = false := by simp [e1]
          rw [d]
          simp [note, sli, St.enter, enumFrom, subs, c1, c2, k0, k1]
      · have d : (decide (A = B) && decide (M = N)) = false := by simp [e0]
        rw [d]
        simp [note, sli, St.enter, enumFrom, subs, c1, c2, k0]
    · have : M ≠ N := by rintro rfl; exact c2 rfl
      simp [note, sli, St.enter, enumFrom, subs, c1, c2, this]
  · have : A ≠ B := by rintro rfl; exact c1 rfl
    simp [note, sli, St.enter, enumFrom, subs, c1, this]
end Go.EnvOf

/- The same jobs. -/
namespace Go.EnvOf
open Go Go.Eng

theorem eqItems_fn : EE.fns 109 = some (eqI 7 [true, true, true, true, true, true, true]) := fn109
theorem eqFloats_fn : EE.fns 111 = some (eqI 3 [true, true, true]) := fn111
theorem item_cells (x y : Item) : eqCells [true, true, true, true, true, true, true] ((encItem x).map V.p) ((encItem y).map V.p) = some (decide (x = y)) := by
  obtain ⟨a, b, c, d, e, f, g⟩ := x
  obtain ⟨a', b', c', d', e', f', g'⟩ := y
  simp [encItem, Bool.decide_and]
theorem float_cells (x y : Float) : eqCells [true, true, true] ((encFloat x).map V.p) ((encFloat y).map V.p) = some (decide (x = y)) := by
  obtain ⟨a, b, c⟩ := x
  obtain ⟨a', b', c'⟩ := y
  simp [encFloat, Bool.decide_and]
theorem geom_cells (x y : Geom) : eqCells [true, true, true, true, true, true, true, true, true, true, true, true, true, true, true, true, true, true, false] (cGeom x) (cGeom y) = some (decide (x = y)) := by
  obtain ⟨a1, a2, a3, a4, a5, a6, a7, a8, a9, a10, a11, a12, a13, a14, a15, a16, a17, a18, a19⟩ := x
  obtain ⟨b1, b2, b3, b4, b5, b6, b7, b8, b9, b10, b11, b12, b13, b14, b15, b16, b17, b18, b19⟩ := y
  simp [Bool.decide_and]
  cases a19 <;> cases b19 <;> rfl
theorem eqItems_ev (a b : List Item) (hn : a.length ≤ 1000000) (H : Heap) : clD EE (.p (.fn 109)) [vItems a, vItems b] H = some (vB (decide (a = b)), none) :=
  eq_ev _ 7 _ encItem (noP _) eqItems_fn (fun _ => rfl) (fun _ => rfl) item_cells a b (by omega) H
theorem eqFloats_ev (a b : List Float) (hn : a.length ≤ 1000000) (H : Heap) : clD EE (.p (.fn 111)) [vFloats a, vFloats b] H = some (vB (decide (a = b)), none) :=
  eq_ev _ 3 _ encFloat (noP _) eqFloats_fn (fun _ => rfl) (fun _ => rfl) float_cells a b (by omega) H

/-! ### Notes, pair by pair -/
theorem same_notes (a b : Note) : sameF a.lines a.pens b.lines b.pens = decide (a = b) := by
  obtain ⟨x, y⟩ := a
  obtain ⟨u, v⟩ := b
  simp [sameF, Bool.decide_and]
def nfE (a b : V) (n : Nat) (H : Heap) (B : Nat) (i : Nat) : St := ⟨[(1, b), (2, .p (.fn 32)), (15, a), (16, vI n), (17, vI i)], [], H, B, []⟩
def nfX (a b : V) (n : Nat) (H : Heap) (B : Nat) : Ex × St := (.exit 0, ⟨[(1, b), (2, .p (.fn 32)), (15, a), (16, vI n), (17, vI n), (18, .p (.bool false))], [], H, B, []⟩)
def nfBad (H : Heap) (B : Nat) : Ex × St := (.ret, ⟨[(6, vB false)], [], H, B, []⟩)
abbrev okNoteL (n : Note) : Prop := n.lines.length ≤ 1000000 ∧ n.pens.length ≤ 1000000
theorem eqNotes_ev (a b : List Note) (hn : a.length ≤ 1000000) (ha : ∀ n ∈ a, okNoteL n) (H : Heap) : clD EE (.p (.fn 110)) [vNotes a, vNotes b, .p (.fn 32)] H = some (vB (decide (a = b)), none) := by
  rw [clD_body _ _ _ _ _ _ (noP _) fn110]
  by_cases hl : a.length = b.length
  · have key : evD EE lp110_0 (nfE (vNotes a) (vNotes b) a.length H H.length 0) = some (rng (step2 (fun x y => decide (x = y)) b (nfBad H H.length)) (fun _ => nfX (vNotes a) (vNotes b) a.length H H.length) () 0 a) := by
      unfold lp110_0
      refine evD_rng a (fun (_ : Unit) i => nfE (vNotes a) (vNotes b) a.length H H.length i) (fun _ _ => True) _ (fun _ => nfX (vNotes a) (vNotes b) a.length H H.length) (fun _ _ => rfl) ?_ ?_ () 0 trivial (Nat.zero_le _)
      · rintro _ i x - hx
        have hlt := (List.getElem?_eq_some_iff.1 hx).1
        have hy : b[i]? = some (b[i]'(by omega)) := List.getElem?_eq_getElem (by omega)
        generalize (b[i]'(by omega)) = y at hy
        have w : IntKind.i64.wrap ((i : Int) + 1) = ((i + 1 : Nat) : Int) := w64 (by omega) (by omega)
        have hix := fun H k => ixs_nat H encNote (k := k) (s := 2) hx rfl
        have hiy := fun H k => ixs_nat H encNote (k := k) (s := 2) hy rfl
        have ho := ha x (List.mem_of_getElem? hx)
        have hc := same_ev x.lines x.pens y.lines y.pens H ho.1 ho.2
        rw [same_notes] at hc
        rw [step2_some hy]
        simp only [encNote, note] at hix hiy hc
        by_cases hxy : x = y
        · simp [hxy] at hc hix
          simp [nfE, hlt, hix, hiy, subs, setSubs, hxy, w, hc]
        · simp [hxy] at hc
          simp [nfE, nfBad, hlt, hix, hiy, subs, setSubs, hxy, hc]
      · rintro _ -
        simp [nfE, nfX]
    rw [rng_all2 (fun x y => decide (x = y)) b (nfBad H H.length) (nfX (vNotes a) (vNotes b) a.length H H.length) a 0 (by omega), List.drop_zero, all2_eq a b hl] at key
    have hl' : (a.length : Int) = b.length := by omega
    by_cases h : a = b
    · rw [if_pos (by simpa using h)] at key
      subst h
      simp [nfE, nfX] at key
      simp [St.enter, enumFrom, key]
    · rw [if_neg (by simpa using h)] at key
      simp [nfE, nfBad, hl] at key
      simp [St.enter, enumFrom, hl', key, h]
  · have hl' : ¬ (a.length : Int) = b.length := by omega
    have h : a ≠ b := by rintro rfl; exact hl rfl
    simp [St.enter, enumFrom, hl', h]

theorem gsame_ev (j k : Job) (n1 : j.items.length ≤ 1000000) (n2 : j.notes.length ≤ 1000000) (n3 : j.floats.length ≤ 1000000) (hn : ∀ n ∈ j.notes, okNoteL n) (H : Heap) : clD EE (.p (.fn 52)) [vJob j, vJob k] H = some (vB (decide (j = k)), none) := by
  rw [clD_body _ _ _ _ _ _ (noP _) fn52]
  have hg := geom_cells j.g k.g
  have h1 := eqItems_ev j.items k.items n1 H
  have h2 := eqNotes_ev j.notes k.notes n2 hn H
  have h3 := eqFloats_ev j.floats k.floats n3 H
  have e : decide (j = k) = (decide (j.g = k.g) && decide (j.items = k.items) && decide (j.notes = k.notes) && decide (j.floats = k.floats)) := by
    obtain ⟨a, b, c, d⟩ := j
    obtain ⟨a', b', c', d'⟩ := k
    simp [Bool.decide_and, Bool.and_assoc]
  rw [e]
  cases e1 : decide (j.g = k.g) with
  | false =>
    rw [e1] at hg
    simp [-eqCells_cons, St.enter, enumFrom, subs, hg]
  | true =>
    rw [e1] at hg
    cases e2 : decide (j.items = k.items) with
    | false =>
      rw [e2] at h1
      simp [-eqCells_cons, St.enter, enumFrom, subs, hg, h1]
    | true =>
      rw [e2] at h1
      cases e3 : decide (j.notes = k.notes) with
      | false =>
        rw [e3] at h2
        simp [-eqCells_cons, St.enter, enumFrom, subs, hg, h1, h2]
      | true =>
        rw [e3] at h2
        simp [-eqCells_cons, St.enter, enumFrom, subs, hg, h1, h2, h3]

/-! ### By the document -/
def s2E (a b : V) (H : Heap) (B : Nat) (i : Nat) : St := ⟨[(0, a), (1, b), (5, vI i)], [], H, B, []⟩
def s2X (a b : V) (n : Nat) (H : Heap) (B : Nat) : Ex × St := (.exit 0, ⟨[(0, a), (1, b), (5, vI n), (14, .p (.bool false))], [], H, B, []⟩)
def s2Bad (H : Heap) (B : Nat) : Ex × St := (.ret, ⟨[(4, vB false)], [], H, B, []⟩)
theorem rall_ev (a b : List Note) (hn : a.length ≤ 1000000) (ha : ∀ n ∈ a, okNoteL n) (H : Heap) : clD EE (.p (.fn 104)) [vNotes a, vNotes b] H = some (vB (decide (a = b)), none) := by
  rw [clD_body _ _ _ _ _ _ (noP _) fn104]
  by_cases hl : a.length = b.length
  · have key : evD EE lp104_0 (s2E (vNotes a) (vNotes b) H H.length 0) = some (rng (step2 (fun x y => decide (x = y)) b (s2Bad H H.length)) (fun _ => s2X (vNotes a) (vNotes b) a.length H H.length) () 0 a) := by
      unfold lp104_0
      refine evD_rng a (fun (_ : Unit) i => s2E (vNotes a) (vNotes b) H H.length i) (fun _ _ => True) _ (fun _ => s2X (vNotes a) (vNotes b) a.length H H.length) (fun _ _ => rfl) ?_ ?_ () 0 trivial (Nat.zero_le _)
      · rintro _ i x - hx
        have hlt := (List.getElem?_eq_some_iff.1 hx).1
        have hy : b[i]? = some (b[i]'(by omega)) := List.getElem?_eq_getElem (by omega)
        generalize (b[i]'(by omega)) = y at hy
        have w : IntKind.i64.wrap ((i : Int) + 1) = ((i + 1 : Nat) : Int) := w64 (by omega) (by omega)
        have hix := fun H k => ixs_nat H encNote (k := k) (s := 2) hx rfl
        have hiy := fun H k => ixs_nat H encNote (k := k) (s := 2) hy rfl
        have ho := ha x (List.mem_of_getElem? hx)
        have hc := rsame_ev x.lines x.pens y.lines y.pens H ho.1 ho.2
        rw [same_notes] at hc
        rw [step2_some hy]
        simp only [encNote, note] at hix hiy hc
        by_cases hxy : x = y
        · simp [hxy] at hc hix
          simp [s2E, hlt, hix, hiy, subs, setSubs, hxy, w, hc]
        · simp [hxy] at hc
          simp [s2E, s2Bad, hlt, hix, hiy, subs, setSubs, hxy, hc]
      · rintro _ -
        simp [s2E, s2X]
    rw [rng_all2 (fun x y => decide (x = y)) b (s2Bad H H.length) (s2X (vNotes a) (vNotes b) a.length H H.length) a 0 (by omega), List.drop_zero, all2_eq a b hl] at key
    have hl' : (a.length : Int) = b.length := by omega
    by_cases h : a = b
    · rw [if_pos (by simpa using h)] at key
      subst h
      simp [s2E, s2X] at key
      simp [St.enter, enumFrom, key]
    · rw [if_neg (by simpa using h)] at key
      simp [s2E, s2Bad] at key
      simp [St.enter, enumFrom, hl', key, h]
  · have hl' : ¬ (a.length : Int) = b.length := by omega
    have h : a ≠ b := by rintro rfl; exact hl rfl
    simp [St.enter, enumFrom, hl', h]
theorem rsame12_ev (a b : List Float) (hn : a.length ≤ 1000000) (H : Heap) : clD EE (.p (.fn 105)) [vFloats a, vFloats b] H = some (vB (decide (a = b)), none) := by
  rw [clD_body _ _ _ _ _ _ (noP _) fn105]
  by_cases hl : a.length = b.length
  · have key : evD EE lp105_0 (s2E (vFloats a) (vFloats b) H H.length 0) = some (rng (step2 (fun x y => decide (x = y)) b (s2Bad H H.length)) (fun _ => s2X (vFloats a) (vFloats b) a.length H H.length) () 0 a) := by
      unfold lp105_0
      refine evD_rng a (fun (_ : Unit) i => s2E (vFloats a) (vFloats b) H H.length i) (fun _ _ => True) _ (fun _ => s2X (vFloats a) (vFloats b) a.length H H.length) (fun _ _ => rfl) ?_ ?_ () 0 trivial (Nat.zero_le _)
      · rintro _ i x - hx
        have hlt := (List.getElem?_eq_some_iff.1 hx).1
        have hy : b[i]? = some (b[i]'(by omega)) := List.getElem?_eq_getElem (by omega)
        generalize (b[i]'(by omega)) = y at hy
        have w : IntKind.i64.wrap ((i : Int) + 1) = ((i + 1 : Nat) : Int) := w64 (by omega) (by omega)
        have hix := fun H k => ixs_nat H encFloat (k := k) (s := 3) hx rfl
        have hiy := fun H k => ixs_nat H encFloat (k := k) (s := 3) hy rfl
        have hsub : ∀ x, subs ((encFloat x).map V.p) 0 3 = some ((encFloat x).map V.p) := fun x => rfl
        have hagg : ∀ x, aggOr true ((encFloat x).map V.p) = some (.agg ((encFloat x).map V.p)) := fun x => rfl
        have hc := float_cells x y
        rw [step2_some hy]
        by_cases hxy : x = y
        · simp [hxy] at hc
          simp [-eqCells_cons, s2E, hlt, hix, hiy, hsub, hagg, setSubs, hxy, w, hc]
        · simp [hxy] at hc
          simp [-eqCells_cons, s2E, s2Bad, hlt, hix, hiy, hsub, hagg, setSubs, hxy, hc]
      · rintro _ -
        simp [s2E, s2X]
    rw [rng_all2 (fun x y => decide (x = y)) b (s2Bad H H.length) (s2X (vFloats a) (vFloats b) a.length H H.length) a 0 (by omega), List.drop_zero, all2_eq a b hl] at key
    have hl' : (a.length : Int) = b.length := by omega
    by_cases h : a = b
    · rw [if_pos (by simpa using h)] at key
      subst h
      simp [s2E, s2X] at key
      simp [St.enter, enumFrom, key]
    · rw [if_neg (by simpa using h)] at key
      simp [s2E, s2Bad] at key
      simp [St.enter, enumFrom, hl', key, h]
  · have hl' : ¬ (a.length : Int) = b.length := by omega
    have h : a ≠ b := by rintro rfl; exact hl rfl
    simp [St.enter, enumFrom, hl', h]

abbrev cJob (j : Job) : List V := cGeom j.g ++ [vItems j.items, vNotes j.notes, vFloats j.floats]
def s14E (j k : Job) (H : Heap) (B : Nat) (i : Nat) : St := ⟨[(2, .lptr 2 0), (3, .lptr 3 0), (5, vI i)], [(2, cJob j), (3, cJob k)], H, B, []⟩
def s14X (j k : Job) (H : Heap) (B : Nat) : Ex × St := (.exit 0, ⟨[(2, .lptr 2 0), (3, .lptr 3 0), (5, vI j.items.length), (17, .p (.bool false))], [(2, cJob j), (3, cJob k)], H, B, []⟩)
theorem rsame14_ev (j k : Job) (n1 : j.items.length ≤ 1000000) (n2 : j.notes.length ≤ 1000000) (n3 : j.floats.length ≤ 1000000) (hn : ∀ n ∈ j.notes, okNoteL n) (H : Heap) : clD EE (.p (.fn 49)) [vJob j, vJob k] H = some (vB (decide (j = k)), none) := by
  rw [clD_body _ _ _ _ _ _ (noP _) fn49]
  have e : decide (j = k) = (decide (j.items = k.items) && decide (j.g = k.g) && decide (j.notes = k.notes) && decide (j.floats = k.floats)) := by
    obtain ⟨a, b, c, d⟩ := j
    obtain ⟨a', b', c', d'⟩ := k
    simp only [Job.mk.injEq, Bool.decide_and]
    cases decide (a = a') <;> cases decide (b = b') <;> rfl
  by_cases hl : j.items.length = k.items.length
  · have key : evD EE lp49_0 (s14E j k H H.length 0) = some (rng (step2 (fun x y => decide (x = y)) k.items (s2Bad H H.length)) (fun _ => s14X j k H H.length) () 0 j.items) := by
      unfold lp49_0
      refine evD_rng j.items (fun (_ : Unit) i => s14E j k H H.length i) (fun _ _ => True) _ (fun _ => s14X j k H H.length) (fun _ _ => rfl) ?_ ?_ () 0 trivial (Nat.zero_le _)
      · rintro _ i x - hx
        have hlt := (List.getElem?_eq_some_iff.1 hx).1
        have hy : k.items[i]? = some (k.items[i]'(by omega)) := List.getElem?_eq_getElem (by omega)
        generalize (k.items[i]'(by omega)) = y at hy
        have w : IntKind.i64.wrap ((i : Int) + 1) = ((i + 1 : Nat) : Int) := w64 (by omega) (by omega)
        have hix := fun H k => ixs_nat H encItem (k := k) (s := 7) hx rfl
        have hiy := fun H k => ixs_nat H encItem (k := k) (s := 7) hy rfl
        have hsub : ∀ x, subs ((encItem x).map V.p) 0 7 = some ((encItem x).map V.p) := fun x => rfl
        have hagg : ∀ x, aggOr true ((encItem x).map V.p) = some (.agg ((encItem x).map V.p)) := fun x => rfl
        have hs1 : ∀ (j : Job), subs (cJob j) 19 1 = some [vItems j.items] := fun _ => rfl
        have hs2 : ∀ (j : Job), ¬ cJob j = [] := fun _ => by simp
        have hc := item_cells x y
        rw [step2_some hy]
        unfold s14E
        generalize cJob = cj at *
        by_cases hxy : x = y
        · simp [hxy] at hc
          simp [-eqCells_cons, hlt, hix, hiy, hsub, hagg, hs1, hs2, hxy, w, hc]
        · simp [hxy] at hc
          simp [-eqCells_cons, s2Bad, hlt, hix, hiy, hsub, hagg, hs1, hs2, hxy, hc]
      · rintro _ -
        have hs1 : ∀ (j : Job), subs (cJob j) 19 1 = some [vItems j.items] := fun _ => rfl
        have hs2 : ∀ (j : Job), ¬ cJob j = [] := fun _ => by simp
        unfold s14E s14X
        generalize cJob = cj at *
        simp [hs1, hs2]
    rw [rng_all2 (fun x y => decide (x = y)) k.items (s2Bad H H.length) (s14X j k H H.length) j.items 0 (by omega), List.drop_zero, all2_eq j.items k.items hl] at key
    have hl' : (j.items.length : Int) = k.items.length := by omega
    rw [e]
    cases h : decide (j.items = k.items) with
    | true =>
      rw [h, if_pos rfl] at key
      simp [s14E, s14X] at key
      have hg := geom_cells j.g k.g
      have h2 := rall_ev j.notes k.notes n2 hn H
      have h3 := rsame12_ev j.floats k.floats n3 H
      cases e1 : decide (j.g = k.g) with
      | false =>
        rw [e1] at hg
        simp [-eqCells_cons, St.enter, enumFrom, subs, hl', key, hg]
      | true =>
        rw [e1] at hg
        cases e3 : decide (j.notes = k.notes) with
        | false =>
          rw [e3] at h2
          simp [-eqCells_cons, St.enter, enumFrom, subs, hl', key, hg, h2]
        | true =>
          rw [e3] at h2
          simp [-eqCells_cons, St.enter, enumFrom, subs, hl', key, hg, h2, h3]
    | false =>
      rw [h, if_neg (by simp)] at key
      simp [s14E, s2Bad] at key
      simp [St.enter, enumFrom, subs, hl', key]
  · have hl' : ¬ (j.items.length : Int) = k.items.length := by omega
    have h : j ≠ k := by rintro rfl; exact hl rfl
    simp [St.enter, enumFrom, subs, hl', h]
end Go.EnvOf

/- Jobs that are more than is gone through. -/
namespace Go.EnvOf
open Go Go.Eng

structure small (j : Job) : Prop where
  items : j.items.length ≤ 100
  notes : j.notes.length ≤ 100
  floats : j.floats.length ≤ 100
  each : ∀ n ∈ j.notes, n.lines.length ≤ 100 ∧ n.pens.length ≤ 100
def bigNote (n : Note) : Bool := decide (100 < (n.lines.length : Int)) || decide (100 < (n.pens.length : Int))
def largeF (j : Job) : Bool := (j.notes.take 100).any bigNote || decide (100 < (j.items.length : Int)) || decide (100 < (j.notes.length : Int)) || decide (100 < (j.floats.length : Int))
theorem small_of {j : Job} (h : largeF j = false) : small j := by
  unfold largeF at h
  simp only [Bool.or_eq_false_iff, decide_eq_false_iff_not] at h
  obtain ⟨⟨⟨h1, h2⟩, h3⟩, h4⟩ := h
  have hl : j.notes.length ≤ 100 := by omega
  rw [List.take_of_length_le hl] at h1
  refine ⟨by omega, hl, by omega, fun n hn => ?_⟩
  have := List.any_eq_false.1 h1 n hn
  simp [bigNote] at this
  omega
def lgE (j : Job) (H : Heap) (i : Nat) : St := ⟨[(1, .lptr 1 0), (3, vI i)], [(1, cGeom j.g ++ [vItems j.items, vNotes j.notes, vFloats j.floats])], H, H.length, []⟩
def lgX (j : Job) (H : Heap) (i : Nat) : Ex × St := (.exit 0, ⟨[(1, .lptr 1 0), (3, vI i), (12, vB false)], [(1, cGeom j.g ++ [vItems j.items, vNotes j.notes, vFloats j.floats])], H, H.length, []⟩)
def lgB (H : Heap) : Ex × St := (.ret, ⟨[(2, vB true)], [], H, H.length, []⟩)
theorem large_lp (j : Job) (H : Heap) : evD EE lp44_0 (lgE j H 0) = some (if (j.notes.take 100).any bigNote = true then lgB H else lgX j H (min 100 j.notes.length)) := by
  unfold lp44_0
  refine Eq.trans (evD_rng (j.notes.take 100) (fun (_ : Unit) i => lgE j H i) (fun _ _ => True) (stepB bigNote (lgB H)) (fun _ => lgX j H (min 100 j.notes.length)) (fun _ _ => rfl) ?_ ?_ () 0 trivial (Nat.zero_le _)) (by rw [rng_any]; rfl)
  · rintro _ i x - hx
    have hlt := (List.getElem?_eq_some_iff.1 hx).1
    rw [List.length_take] at hlt
    have hx' : j.notes[i]? = some x := by rw [List.getElem?_take] at hx; split at hx <;> simp_all
    have hl1 : i < j.notes.length := by omega
    have hl2 : (i : Int) < 100 := by omega
    have w1 : IntKind.i64.wrap ((i : Int) + 1) = ((i + 1 : Nat) : Int) := w64 (by omega) (by omega)
    have hix := fun H k => ixs_nat H encNote (k := k) (s := 2) hx' rfl
    simp only [encNote] at hix
    by_cases a : 100 < (x.lines.length : Int)
    · simp [stepB, bigNote, lgE, lgB, hl1, hl2, hix, subs, a]
    · by_cases b : 100 < (x.pens.length : Int)
      · simp [stepB, bigNote, lgE, lgB, hl1, hl2, hix, subs, a, b]
      · simp [stepB, bigNote, lgE, hl1, hl2, hix, subs, a, b, w1]
  · rintro _ -
    refine ⟨?_, by simp [lgX]⟩
    rw [List.length_take]
    by_cases h : j.notes.length ≤ 100
    · have e : min 100 j.notes.length = j.notes.length := by omega
      rw [e]
      simp [lgE, lgX, subs]
    · have e : min 100 j.notes.length = 100 := by omega
      have h2 : (100 : Int) < j.notes.length := by omega
      rw [e]
      simp [lgE, lgX, subs, h2]
theorem large_ev (j : Job) (H : Heap) : clD EE (.p (.fn 44)) [vJob j] H = some (vB (largeF j), none) := by
  rw [clD_body _ _ _ _ _ _ (noP _) fn44]
  have k0 := large_lp j H
  unfold largeF
  simp only [lgE, lgX, lgB] at k0
  cases b : (j.notes.take 100).any bigNote with
  | true =>
    rw [b, if_pos rfl] at k0
    simp at k0
    simp [St.enter, enumFrom, subs, k0]
  | false =>
    rw [b, if_neg (by simp)] at k0
    simp at k0
    by_cases a1 : 100 < (j.items.length : Int)
    · simp [St.enter, enumFrom, subs, k0, a1]
    · by_cases a2 : 100 < (j.notes.length : Int)
      · simp [St.enter, enumFrom, subs, k0, a1, a2]
      · simp [St.enter, enumFrom, subs, k0, a1, a2]
end Go.EnvOf

/- Jobs on a grid, by the document. -/
namespace Go.EnvOf
open Go Go.Eng

def rowsG {α : Type} (s : Nat) (enc : α → List PV) (l : List α) : Heap := if l = [] then [] else [.row s (upV (l.map enc))]
@[simp] theorem rowsG_nil {α : Type} (s : Nat) (enc : α → List PV) : rowsG s enc [] = [] := rfl
theorem rowsG_cons {α : Type} (s : Nat) (enc : α → List PV) (x : α) (r : List α) : rowsG s enc (x :: r) = [.row s (upV ((x :: r).map enc))] := rfl
theorem app_acc {α : Type} (env : List (Nat × V)) (loc : List (Nat × List V)) (H : Heap) (base : Nat) (dirty : List Nat) (s : Nat) (enc : α → List PV) (l : List α) (x : α) (hs : (enc x).length = s) (hm : l.length + 1 < most) (hb : base ≤ H.length) :
    appV ⟨env, loc, H ++ rowsG s enc l, base, dirty⟩ (cloneV H.length l) (.p (.sl [enc x])) s = some (cloneV H.length (l ++ [x]), ⟨env, loc, H ++ rowsG s enc (l ++ [x]), base, dirty⟩) := by
  cases l with
  | nil =>
    have hm' : 1 < most := by unfold most; omega
    simp [rowsG_cons, hs, hm']
  | cons y r =>
    have hm' : r.length + 1 + 1 < most := by simpa using hm
    have e : addD base H.length dirty = dirty := by unfold addD; rw [if_neg (by omega)]
    simp [rowsG_cons, hs, hm', hb, upV, okEl, List.all_map]

theorem ritem_ev (x : Item) (s : Int) (hx : okItem x) (hs : I64 s) (H : Heap) : clD EE (.p (.fn 108)) [vItem x, vI s] H = some (vItem (itemG s x), none) := by
  rw [clD_body _ _ _ _ _ _ (noP _) fn108]
  have h1 := rgup_ev x.h s H hx.2.1 hs
  have h2 := rgnear_ev x.h s H hx.2.1 hs
  by_cases k1 : x.k = 1
  · simp [St.enter, enumFrom, subs, setSubs, k1, h1, itemG]
  · by_cases k2 : x.k = 2
    · simp [St.enter, enumFrom, subs, setSubs, k1, k2, h2, itemG]
    · simp [St.enter, enumFrom, subs, setSubs, k1, k2, itemG]

/-! ### The items -/
def rsE (s : Int) (J Z : List V) (t : Nat) (g : Geom) (a b c : V) (H : Heap) (B : Nat) (i : Nat) : St :=
  ⟨[(1, .lptr 1 0), (2, .lptr 2 0), (3, vI s), (4, .lptr 4 0), (t, vI i)], [(1, J), (2, Z), (4, cGeom g ++ [a, b, c])], H, B, []⟩
def rsX (s : Int) (J Z : List V) (t u e : Nat) (g : Geom) (a b c : V) (H : Heap) (B : Nat) (i : Nat) : Ex × St :=
  (.exit e, ⟨[(1, .lptr 1 0), (2, .lptr 2 0), (3, vI s), (4, .lptr 4 0), (t, vI i), (u, .p (.bool false))], [(1, J), (2, Z), (4, cGeom g ++ [a, b, c])], H, B, []⟩)

theorem ritems_lp (j : Job) (ok : okJob j) (hs : I64 j.g.grid) (Z : List V) (g : Geom) (b c : V) (H : Heap) :
    evD EE lp50_0 (rsE j.g.grid (cGeom j.g ++ [vItems j.items, vNotes j.notes, vFloats j.floats]) Z 5 g .nils b c H H.length 0) =
      some (rsX j.g.grid (cGeom j.g ++ [vItems j.items, vNotes j.notes, vFloats j.floats]) Z 5 52 0 g (cloneV H.length (j.items.map (itemG j.g.grid))) b c (H ++ rowsG 7 encItem (j.items.map (itemG j.g.grid))) H.length j.items.length) := by
  unfold lp50_0
  rw [show ∀ a, rsE j.g.grid (cGeom j.g ++ [vItems j.items, vNotes j.notes, vFloats j.floats]) Z 5 g a b c H H.length 0 = rsE j.g.grid (cGeom j.g ++ [vItems j.items, vNotes j.notes, vFloats j.floats]) Z 5 g a b c (H ++ rowsG 7 encItem []) H.length 0 from fun a => by rw [rowsG_nil, List.append_nil]]
  refine Eq.trans (evD_fold j.items (fun (M : List Item) i => rsE j.g.grid (cGeom j.g ++ [vItems j.items, vNotes j.notes, vFloats j.floats]) Z 5 g (cloneV H.length M) b c (H ++ rowsG 7 encItem M) H.length i) (fun M i => M.length = i) (fun M _ x => M ++ [itemG j.g.grid x])
    (fun M => rsX j.g.grid (cGeom j.g ++ [vItems j.items, vNotes j.notes, vFloats j.floats]) Z 5 52 0 g (cloneV H.length M) b c (H ++ rowsG 7 encItem M) H.length j.items.length) (fun _ _ => rfl) ?_ ?_ [] 0 rfl (Nat.zero_le _)) ?_
  · rintro M i x hM hx
    refine ⟨?_, by simp [hM]⟩
    have hlt := (List.getElem?_eq_some_iff.1 hx).1
    have hn := ok.n1
    have w : IntKind.i64.wrap ((i : Int) + 1) = ((i + 1 : Nat) : Int) := w64 (by omega) (by omega)
    have ho := ok.items x (List.mem_of_getElem? hx)
    have hix := fun H k => ixs_nat H encItem (k := k) (s := 7) hx rfl
    have h1 := fun H' => ritem_ev x j.g.grid ho hs H'
    have ha := fun env loc => app_acc env loc H H.length [] 7 encItem M (itemG j.g.grid x) rfl (by unfold most; omega) (Nat.le_refl _)
    simp only [encItem] at ha hix
    simp [-appV_mk, rsE, hlt, hix, subs, setSubs, h1, ha, w]
  · rintro M hM
    simp [rsE, rsX, subs]
  · have : ∀ (l : List Item) (M : List Item) i, fold (fun (M : List Item) _ x => M ++ [itemG j.g.grid x]) M i l = M ++ l.map (itemG j.g.grid) := by
      intro l
      induction l with
      | nil => intro M i; simp [fold]
      | cons x r ih => intro M i; simp [fold, ih]
    simp [this]

theorem fold_snoc {α β : Type} (g : α → β) : ∀ (l : List α) (M : List β) i, fold (fun (M : List β) _ x => M ++ [g x]) M i l = M ++ l.map g
  | [], M, i => by simp [fold]
  | x :: r, M, i => by simp only [fold, fold_snoc g r, List.map_cons, List.append_assoc, List.cons_append, List.nil_append]

/-! ### The floats -/
theorem rfloats_lp (j : Job) (ok : okJob j) (hs : I64 j.g.grid) (Z : List V) (g : Geom) (a b : V) (H : Heap) (B : Nat) (hB : B ≤ H.length) :
    evD EE lp50_3 (rsE j.g.grid (cGeom j.g ++ [vItems j.items, vNotes j.notes, vFloats j.floats]) Z 9 g a b .nils H B 0) =
      some (rsX j.g.grid (cGeom j.g ++ [vItems j.items, vNotes j.notes, vFloats j.floats]) Z 9 118 6 g a b (cloneV H.length (j.floats.map (floatG j.g.grid))) (H ++ rowsG 3 encFloat (j.floats.map (floatG j.g.grid))) B j.floats.length) := by
  unfold lp50_3
  rw [show ∀ c, rsE j.g.grid (cGeom j.g ++ [vItems j.items, vNotes j.notes, vFloats j.floats]) Z 9 g a b c H B 0 = rsE j.g.grid (cGeom j.g ++ [vItems j.items, vNotes j.notes, vFloats j.floats]) Z 9 g a b c (H ++ rowsG 3 encFloat []) B 0 from fun a => by rw [rowsG_nil, List.append_nil]]
  refine Eq.trans (evD_fold j.floats (fun (M : List Float) i => rsE j.g.grid (cGeom j.g ++ [vItems j.items, vNotes j.notes, vFloats j.floats]) Z 9 g a b (cloneV H.length M) (H ++ rowsG 3 encFloat M) B i) (fun M i => M.length = i) (fun M _ x => M ++ [floatG j.g.grid x])
    (fun M => rsX j.g.grid (cGeom j.g ++ [vItems j.items, vNotes j.notes, vFloats j.floats]) Z 9 118 6 g a b (cloneV H.length M) (H ++ rowsG 3 encFloat M) B j.floats.length) (fun _ _ => rfl) ?_ ?_ [] 0 rfl (Nat.zero_le _)) ?_
  · rintro M i x hM hx
    refine ⟨?_, by simp [hM]⟩
    have hlt := (List.getElem?_eq_some_iff.1 hx).1
    have hn := ok.n3
    have w : IntKind.i64.wrap ((i : Int) + 1) = ((i + 1 : Nat) : Int) := w64 (by omega) (by omega)
    have ho := ok.floats x (List.mem_of_getElem? hx)
    have hix := fun H k => ixs_nat H encFloat (k := k) (s := 3) hx rfl
    have h1 := fun H' => rgup_ev x.h j.g.grid H' ho.2.1 hs
    have ha := fun env loc => app_acc env loc H B [] 3 encFloat M (floatG j.g.grid x) rfl (by unfold most; omega) hB
    simp only [encFloat, floatG] at ha hix
    simp [-appV_mk, rsE, hlt, hix, subs, setSubs, h1, ha, w, floatG]
  · rintro M hM
    simp [rsE, rsX, subs]
  · simp [fold_snoc]

/-! ### The notes -/
def rlE (s : Int) (J Z C : List V) (i : Nat) (v : V) (p : V) (H : Heap) (B : Nat) (k : Nat) : St :=
  ⟨[(1, .lptr 1 0), (2, .lptr 2 0), (3, vI s), (4, .lptr 4 0), (6, vI i), (7, .lptr 7 0), (8, vI k)], [(1, J), (2, Z), (4, C), (7, [v, p])], H, B, []⟩
def rlX (s : Int) (J Z C : List V) (i : Nat) (v : V) (p : V) (H : Heap) (B : Nat) (k : Nat) : Ex × St :=
  (.exit 4, ⟨[(1, .lptr 1 0), (2, .lptr 2 0), (3, vI s), (4, .lptr 4 0), (6, vI i), (7, .lptr 7 0), (8, vI k), (89, .p (.bool false))], [(1, J), (2, Z), (4, C), (7, [v, p])], H, B, []⟩)
theorem rlines_lp (j : Job) (ok : okJob j) (hs : I64 j.g.grid) (Z C : List V) (i : Nat) (n : Note) (hi : j.notes[i]? = some n) (p : V) (H : Heap) (B : Nat) (hB : B ≤ H.length) :
    evD EE lp50_1 (rlE j.g.grid (cGeom j.g ++ [vItems j.items, vNotes j.notes, vFloats j.floats]) Z C i .nils p H B 0) =
      some (rlX j.g.grid (cGeom j.g ++ [vItems j.items, vNotes j.notes, vFloats j.floats]) Z C i (cloneV H.length (n.lines.map fun x => upG x j.g.grid)) p (H ++ rowsG 1 encI (n.lines.map fun x => upG x j.g.grid)) B n.lines.length) := by
  unfold lp50_1
  rw [show ∀ v, rlE j.g.grid (cGeom j.g ++ [vItems j.items, vNotes j.notes, vFloats j.floats]) Z C i v p H B 0 = rlE j.g.grid (cGeom j.g ++ [vItems j.items, vNotes j.notes, vFloats j.floats]) Z C i v p (H ++ rowsG 1 encI []) B 0 from fun a => by rw [rowsG_nil, List.append_nil]]
  have hin := (List.getElem?_eq_some_iff.1 hi).1
  have hiy := fun H k => ixs_nat H encNote (k := k) (s := 2) hi rfl
  have on := ok.notes n (List.mem_of_getElem? hi)
  simp only [encNote] at hiy
  refine Eq.trans (evD_fold n.lines (fun (M : List Int) k => rlE j.g.grid (cGeom j.g ++ [vItems j.items, vNotes j.notes, vFloats j.floats]) Z C i (cloneV H.length M) p (H ++ rowsG 1 encI M) B k) (fun M i => M.length = i) (fun M _ x => M ++ [upG x j.g.grid])
    (fun M => rlX j.g.grid (cGeom j.g ++ [vItems j.items, vNotes j.notes, vFloats j.floats]) Z C i (cloneV H.length M) p (H ++ rowsG 1 encI M) B n.lines.length) (fun _ _ => rfl) ?_ ?_ [] 0 rfl (Nat.zero_le _)) ?_
  · rintro M k x hM hx
    refine ⟨?_, by simp [hM]⟩
    have hlt := (List.getElem?_eq_some_iff.1 hx).1
    have w : IntKind.i64.wrap ((k : Int) + 1) = ((k + 1 : Nat) : Int) := w64 (by have := on.2.1; omega) (by have := on.2.1; omega)
    have ho := on.1 x (List.mem_of_getElem? hx)
    have hix := fun H k => ixs_nat H encI (k := k) (s := 1) hx rfl
    have h1 := fun H' => rgup_ev x j.g.grid H' ho hs
    have ha := fun env loc => app_acc env loc H B [] 1 encI M (upG x j.g.grid) rfl (by have := on.2.1; unfold most; omega) hB
    simp only [encI] at ha
    simp only [show ∀ x, encI x = [PV.int .i64 x] from fun _ => rfl] at hix
    simp [-appV_mk, rlE, hlt, hix, hiy, subs, setSubs, h1, ha, w]
  · rintro M hM
    simp [rlE, rlX, subs, hiy]
  · simp [fold_snoc]

def rnH (s : Int) (n : Note) : Heap := rowsG 1 encI (n.lines.map fun x => upG x s)
def lineV {α : Type} (n : Nat) (l : List α) : V := if l = [] then .p (.sl []) else .row n l.length 0 l.length
def rnV (s : Int) (id : Nat) (n : Note) : List V := [lineV id (n.lines.map fun x => upG x s), sli n.pens]
def rnsH (s : Int) : List Note → Heap
  | [] => []
  | n :: r => rnH s n ++ rnsH s r
def rnsV (s : Int) : Nat → List Note → List (List V)
  | _, [] => []
  | id, n :: r => rnV s id n :: rnsV s (id + (rnH s n).length) r
theorem rnsH_app (s : Int) : ∀ a b, rnsH s (a ++ b) = rnsH s a ++ rnsH s b
  | [], b => rfl
  | n :: r, b => by simp only [List.cons_append, rnsH, rnsH_app s r b, List.append_assoc]
theorem rnsV_app (s : Int) : ∀ a id b, rnsV s id (a ++ b) = rnsV s id a ++ rnsV s (id + (rnsH s a).length) b
  | [], id, b => by simp [rnsV, rnsH]
  | n :: r, id, b => by simp only [List.cons_append, rnsV, rnsH, rnsV_app s r, List.length_append, Nat.add_assoc]
theorem rnsV_len (s : Int) : ∀ l id, (rnsV s id l).length = l.length
  | [], _ => rfl
  | n :: r, id => by simp only [rnsV, List.length_cons, rnsV_len s r]

def rnHp (s : Int) (n : Note) (r : List Note) (G : Heap) : Heap := G ++ (rnH s n ++ .row 2 (rnV s G.length n :: rnsV s (G.length + (rnH s n).length + 1) r) :: rnsH s r)
theorem rnotes_lp1 (j : Job) (ok : okJob j) (hs : I64 j.g.grid) (Z : List V) (g : Geom) (a c : V) (G : Heap) (B : Nat) (hB : B ≤ G.length) (n : Note) (r : List Note) (hj : j.notes = n :: r) :
    evD EE lp50_2 (rsE j.g.grid (cGeom j.g ++ [vItems j.items, vNotes j.notes, vFloats j.floats]) Z 6 g a (.row (G.length + (rnH j.g.grid n).length) 1 0 1) c (rnHp j.g.grid n [] G) B 1) =
      some (rsX j.g.grid (cGeom j.g ++ [vItems j.items, vNotes j.notes, vFloats j.floats]) Z 6 71 2 g a (.row (G.length + (rnH j.g.grid n).length) (r.length + 1) 0 (r.length + 1)) c (rnHp j.g.grid n r G) B (r.length + 1)) := by
  unfold lp50_2
  refine evD_fold r (fun (_ : Unit) i => rsE j.g.grid (cGeom j.g ++ [vItems j.items, vNotes j.notes, vFloats j.floats]) Z 6 g a (.row (G.length + (rnH j.g.grid n).length) (i + 1) 0 (i + 1)) c (rnHp j.g.grid n (r.take i) G) B (i + 1)) (fun _ _ => True) (fun _ _ _ => ())
    (fun _ => rsX j.g.grid (cGeom j.g ++ [vItems j.items, vNotes j.notes, vFloats j.floats]) Z 6 71 2 g a (.row (G.length + (rnH j.g.grid n).length) (r.length + 1) 0 (r.length + 1)) c (rnHp j.g.grid n r G) B (r.length + 1)) (fun _ _ => rfl) ?_ ?_ () 0 trivial (Nat.zero_le _)
  · rintro _ i x - hx
    refine ⟨?_, trivial⟩
    have hlt := (List.getElem?_eq_some_iff.1 hx).1
    have hx' : j.notes[i + 1]? = some x := by rw [hj]; simpa using hx
    have hn := ok.n2
    have hl : j.notes.length = r.length + 1 := by rw [hj]; rfl
    have hlt' : i + 1 < j.notes.length := by omega
    have w : IntKind.i64.wrap (((i + 1 : Nat) : Int) + 1) = ((i + 1 + 1 : Nat) : Int) := w64 (by omega) (by omega)
    have hix := fun H k => ixs_nat H encNote (k := k) (s := 2) hx' rfl
    have e : r.take (i + 1) = r.take i ++ [x] := by rw [List.take_add_one, hx]; rfl
    have hA := rnsV_len j.g.grid (r.take i) (G.length + (rnH j.g.grid n).length + 1)
    rw [List.length_take, Nat.min_eq_left (Nat.le_of_lt hlt)] at hA
    have key := fun C => rlines_lp j ok hs Z C (i + 1) x hx' (sli x.pens) (rnHp j.g.grid n (r.take i) G) B (by unfold rnHp; simp; omega)
    have hm : i + 1 + 1 < most := by unfold most; omega
    have e1 : rnHp j.g.grid n (r.take (i + 1)) G = G ++ (rnH j.g.grid n ++ .row 2 (rnV j.g.grid G.length n :: (rnsV j.g.grid (G.length + (rnH j.g.grid n).length + 1) (r.take i) ++ [rnV j.g.grid (G.length + (rnH j.g.grid n).length + 1 + (rnsH j.g.grid (r.take i)).length) x])) :: (rnsH j.g.grid (r.take i) ++ rnH j.g.grid x)) := by
      unfold rnHp; rw [e, rnsV_app, rnsH_app]; simp [rnsV, rnsH]
    rw [e1]
    unfold rnHp at key ⊢
    generalize rnsV j.g.grid (G.length + (rnH j.g.grid n).length + 1) (r.take i) = A at *
    generalize rnsH j.g.grid (r.take i) = T at *
    generalize rnH j.g.grid n = F at *
    generalize rnV j.g.grid G.length n = v0 at *
    have hrow : ∀ es U, Eng.rowAt (G ++ (F ++ DObj.row 2 es :: U)) (G.length + F.length) = some (2, es) := fun es U => by simp
    have hset : ∀ es fs U, (G ++ (F ++ DObj.row 2 es :: U)).set (G.length + F.length) (.row 2 fs) = G ++ (F ++ DObj.row 2 fs :: U) := fun es fs U => by simp
    have hbl : ¬ G.length + F.length < B := by omega
    have hlt2 : (i : Int) + 1 < j.notes.length := by omega
    simp only [encNote] at hix
    simp only [Int.natCast_add, Int.natCast_one] at hix w
    cases hL : x.lines with
    | nil =>
      have key' := key (cGeom g ++ [a, .row (G.length + F.length) (i + 1) 0 (i + 1), c])
      simp [rlE, rlX, hL] at key'
      simp [-rowAt_app, -set_app, rsE, hlt2, hix, subs, setSubs, key', hrow, hset, hA, hm, hbl, rnV, rnH, lineV, hL, w, upV, okEl]
    | cons y q =>
      have key' := key (cGeom g ++ [a, .row (G.length + F.length) (i + 1) 0 (i + 1), c])
      simp [rlE, rlX, hL, rowsG_cons] at key'
      simp [-rowAt_app, -set_app, rsE, hlt2, hix, subs, setSubs, key', hrow, hset, hA, hm, hbl, rnV, rnH, lineV, hL, w, upV, okEl, rowsG_cons]
      omega
  · rintro _ -
    have hl : j.notes.length = r.length + 1 := by rw [hj]; rfl
    refine ⟨?_, by simp [rsX]⟩
    simp [rsE, rsX, subs, hl]

def rnHq (s : Int) (l : List Note) (G : Heap) : Heap := match l with | [] => G | n :: r => rnHp s n r G
def rnVq (s : Int) (l : List Note) (G : Heap) : V := match l with | [] => .nils | n :: r => .row (G.length + (rnH s n).length) (r.length + 1) 0 (r.length + 1)
theorem rnotes_lp (j : Job) (ok : okJob j) (hs : I64 j.g.grid) (Z : List V) (g : Geom) (a c : V) (G : Heap) (B : Nat) (hB : B ≤ G.length) :
    evD EE lp50_2 (rsE j.g.grid (cGeom j.g ++ [vItems j.items, vNotes j.notes, vFloats j.floats]) Z 6 g a .nils c G B 0) =
      some (rsX j.g.grid (cGeom j.g ++ [vItems j.items, vNotes j.notes, vFloats j.floats]) Z 6 71 2 g a (rnVq j.g.grid j.notes G) c (rnHq j.g.grid j.notes G) B j.notes.length) := by
  cases hj : j.notes with
  | nil =>
    unfold lp50_2
    rw [evD_loop]
    simp [rsE, rsX, subs, rnHq, rnVq]
  | cons n r =>
    have k1 := rnotes_lp1 j ok hs Z g a c G B hB n r hj
    have hx' : j.notes[0]? = some n := by rw [hj]; rfl
    have hix := fun H k => ixs_nat H encNote (k := k) (s := 2) hx' rfl
    have key := rlines_lp j ok hs Z (cGeom g ++ [a, .nils, c]) 0 n hx' (sli n.pens) G B hB
    have w : IntKind.i64.wrap 1 = 1 := w64 (by omega) (by omega)
    have hm : 1 < most := by unfold most; omega
    have hlt : 0 < j.notes.length := by rw [hj]; exact Nat.zero_lt_succ _
    simp only [encNote, Int.natCast_zero] at hix
    rw [← hj]
    refine Eq.trans ?_ (k1.trans (by rw [hj]; rfl))
    conv => lhs; unfold lp50_2
    rw [evD_loop]
    cases hL : n.lines with
    | nil =>
      simp [rlE, rlX, hL] at key
      simp [rsE, rsX, hix, subs, setSubs, hlt, key, hm, rnHp, rnV, rnH, rnsV, rnsH, lineV, hL, w, upV, okEl]
      rfl
    | cons y q =>
      simp [rlE, rlX, hL, rowsG_cons] at key
      simp [rsE, rsX, hix, subs, setSubs, hlt, key, hm, rnHp, rnV, rnH, rnsV, rnsH, lineV, hL, w, upV, okEl, rowsG_cons]
      rfl

/-! ### All of it -/
theorem freeze_clone {α : Type} (env : List (Nat × V)) (loc : List (Nat × List V)) (hp : Heap) (base : Nat) (dirty : List Nat) (id s : Nat) (enc : α → List PV) (l : List α) (h : Eng.rowAt hp id = some (s, upV (l.map enc)) ∨ l = []) (hb : base ≤ id) :
    Eng.freeze ⟨env, loc, hp, base, dirty⟩ (cloneV id l) = some (.p (.sl (l.map enc))) := by
  rcases h with h | h
  · cases l with
    | nil => rfl
    | cons x r => rw [cloneV_cons]; simp [hb, h]
  · subst h; rfl
theorem rowsG_at {α : Type} (s : Nat) (enc : α → List PV) (H U : Heap) (l : List α) : Eng.rowAt (H ++ (rowsG s enc l ++ U)) H.length = some (s, upV (l.map enc)) ∨ l = [] := by
  cases l with
  | nil => exact .inr rfl
  | cons x r => left; simp [rowsG_cons]
theorem frz_line (base id : Nat) (G : Heap) (d : Nat) (L : List Int) (h : Eng.rowAt G id = some (1, upV (L.map encI)) ∨ L = []) (hb : base ≤ id) : frz base G (d + 1) (lineV id L) = some (.sl (L.map encI)) := by
  cases L with
  | nil => rfl
  | cons x r =>
    rcases h with h | h
    · unfold lineV; rw [if_neg (by simp), frz_row, if_pos hb, h, frzK_upV]; simp
    · cases h
theorem frz_rn (s : Int) (base : Nat) : ∀ (l : List Note) (H0 U : Heap), base ≤ H0.length → allO (allO (frz base (H0 ++ (rnsH s l ++ U)) 2)) (rnsV s H0.length l) = some (l.map fun n => encNote (noteG s n))
  | [], _, _, _ => rfl
  | n :: r, H0, U, hb => by
    have ih := frz_rn s base r (H0 ++ rnH s n) U (by simp; omega)
    rw [List.append_assoc, List.length_append] at ih
    have f1 := frz_line base H0.length (H0 ++ (rnH s n ++ (rnsH s r ++ U))) 1 (n.lines.map fun x => upG x s) (rowsG_at 1 encI H0 _ _) hb
    simp only [rnsH, rnsV, rnV, List.append_assoc, allO, f1, ih, List.map_cons]
    rfl
theorem freeze_rn (env : List (Nat × V)) (loc : List (Nat × List V)) (base : Nat) (dirty : List Nat) (s : Int) (l : List Note) (G U : Heap) (hb : base ≤ G.length) :
    Eng.freeze ⟨env, loc, rnHq s l G ++ U, base, dirty⟩ (rnVq s l G) = some (.p (.sl ((l.map (noteG s)).map encNote))) := by
  cases l with
  | nil => rfl
  | cons n r =>
    have h1 := frz_line base G.length (rnHq s (n :: r) G ++ U) 1 (n.lines.map fun x => upG x s) (by
      have := rowsG_at 1 encI G (DObj.row 2 (rnV s G.length n :: rnsV s (G.length + (rnH s n).length + 1) r) :: (rnsH s r ++ U)) (n.lines.map fun x => upG x s)
      simpa [rnHq, rnHp, rnH] using this) hb
    have h2 := frz_rn s base r (G ++ (rnH s n ++ [DObj.row 2 (rnV s G.length n :: rnsV s (G.length + (rnH s n).length + 1) r)])) U (by simp; omega)
    have e1 : rnHq s (n :: r) G ++ U = G ++ (rnH s n ++ [DObj.row 2 (rnV s G.length n :: rnsV s (G.length + (rnH s n).length + 1) r)]) ++ (rnsH s r ++ U) := by simp [rnHq, rnHp]
    have e2 : (G ++ (rnH s n ++ [DObj.row 2 (rnV s G.length n :: rnsV s (G.length + (rnH s n).length + 1) r)])).length = G.length + (rnH s n).length + 1 := by simp; omega
    rw [e2, ← e1] at h2
    have h3 : Eng.rowAt (rnHq s (n :: r) G ++ U) (G.length + (rnH s n).length) = some (2, rnV s G.length n :: rnsV s (G.length + (rnH s n).length + 1) r) := by simp [rnHq, rnHp]
    have hl := rnsV_len s r (G.length + (rnH s n).length + 1)
    have hb2 : base ≤ G.length + (rnH s n).length := by omega
    unfold rnVq
    simp only [freeze_rowK, h3, hb2, if_true, frzK, List.length_cons, hl, List.drop_zero]
    rw [List.take_of_length_le (by simp [hl])]
    simp only [allO, rnV] at h1 h2 ⊢
    rw [h1, h2]
    have e5 : (r.map (noteG s)).map encNote = r.map fun n => encNote (noteG s n) := by rw [List.map_map]; rfl
    rw [List.map_cons, List.map_cons, e5]
    rfl
@[simp] theorem oneB_rnVq (s : Int) (l : List Note) (G : Heap) : (rnVq s l G).oneB = true := by cases l <;> rfl
@[simp] theorem cells_rnVq (s : Int) (l : List Note) (G : Heap) : (rnVq s l G).cells = [rnVq s l G] := by cases l <;> rfl
theorem rnHq_len (s : Int) (l : List Note) (G : Heap) : G.length ≤ (rnHq s l G).length := by
  cases l with
  | nil => exact Nat.le_refl _
  | cons n r => simp [rnHq, rnHp]
theorem rnHq_at (s : Int) (l : List Note) (G U : Heap) (i : Nat) (h : i < G.length) : Eng.rowAt (rnHq s l G ++ U) i = Eng.rowAt G i := by
  cases l with
  | nil => exact rowAt_app_lt U h
  | cons n r => simp only [rnHq, rnHp, List.append_assoc]; exact rowAt_app_lt _ h
theorem rsnap_ev (j : Job) (ok : okJob j) (H : Heap) : clD EE (.p (.fn 50)) [vJob j] H = some (vJob (snapG j), none) := by
  rw [clD_body _ _ _ _ _ _ (noP _) fn50]
  have hg := ok.g
  simp only [okGeom] at hg
  by_cases c : j.g.grid < 1
  · simp [St.enter, enumFrom, subs, setSubs, c, snapG]
  · have i1 := fun H' => rgdown_ev j.g.high j.g.grid H' hg.2.2.2.1 hg.2.2.2.2.2.1
    have i2 := fun H' => rgdown_ev j.g.first j.g.grid H' hg.2.2.2.2.1 hg.2.2.2.2.2.1
    have i3 := fun H' => rgup_ev j.g.rule j.g.grid H' hg.2.2.2.2.2.2.1 hg.2.2.2.2.2.1
    have i4 := fun H' => rgup_ev j.g.sep j.g.grid H' hg.2.2.2.2.2.2.2.1 hg.2.2.2.2.2.1
    have k1 := fun Z => ritems_lp j ok hg.2.2.2.2.2.1 Z (geomG j.g) .nils .nils H
    have k2 := fun Z => rnotes_lp j ok hg.2.2.2.2.2.1 Z (geomG j.g) (cloneV H.length (j.items.map (itemG j.g.grid))) .nils (H ++ rowsG 7 encItem (j.items.map (itemG j.g.grid))) H.length (by simp)
    obtain ⟨G, hG⟩ : ∃ G, G = H ++ rowsG 7 encItem (j.items.map (itemG j.g.grid)) := ⟨_, rfl⟩
    rw [← hG] at k1 k2
    have k3 := fun Z => rfloats_lp j ok hg.2.2.2.2.2.1 Z (geomG j.g) (cloneV H.length (j.items.map (itemG j.g.grid))) (rnVq j.g.grid j.notes G) (rnHq j.g.grid j.notes G) H.length (by
      have := rnHq_len j.g.grid j.notes G
      have : H.length ≤ G.length := by rw [hG]; simp
      omega)
    have f1 := fun env loc => freeze_clone env loc (rnHq j.g.grid j.notes G ++ rowsG 3 encFloat (j.floats.map (floatG j.g.grid))) H.length [] H.length 7 encItem (j.items.map (itemG j.g.grid)) (by
      cases hI : j.items.map (itemG j.g.grid) with
      | nil => exact .inr rfl
      | cons x r => left; rw [rnHq_at _ _ _ _ _ (by rw [hG, hI]; simp [rowsG_cons]), hG, hI]; simp [rowsG_cons]) (Nat.le_refl _)
    have f2 := fun env loc => freeze_rn env loc H.length [] j.g.grid j.notes G (rowsG 3 encFloat (j.floats.map (floatG j.g.grid))) (by rw [hG]; simp)
    have f3 := fun env loc => freeze_clone env loc (rnHq j.g.grid j.notes G ++ rowsG 3 encFloat (j.floats.map (floatG j.g.grid))) H.length [] (rnHq j.g.grid j.notes G).length 3 encFloat (j.floats.map (floatG j.g.grid)) (by
      have := rowsG_at 3 encFloat (rnHq j.g.grid j.notes G) [] (j.floats.map (floatG j.g.grid))
      simpa using this) (by
      have := rnHq_len j.g.grid j.notes G
      have : H.length ≤ G.length := by rw [hG]; simp
      omega)
    have hj : snapG j = ⟨geomG j.g, j.items.map (itemG j.g.grid), j.notes.map (noteG j.g.grid), j.floats.map (floatG j.g.grid)⟩ := if_neg c
    rw [hj]
    simp only [rsE, rsX, geomG] at k1 k2 k3
    generalize hu1 : cloneV H.length (j.items.map (itemG j.g.grid)) = u1 at *
    generalize hu2 : rnVq j.g.grid j.notes G = u2 at *
    generalize hu3 : cloneV (rnHq j.g.grid j.notes G).length (j.floats.map (floatG j.g.grid)) = u3 at *
    have o1 : u1.oneB = true := by rw [← hu1]; simp
    have o2 : u2.oneB = true := by rw [← hu2]; simp
    have o3 : u3.oneB = true := by rw [← hu3]; simp
    have p1 : u1.cells = [u1] := by rw [← hu1]; simp
    have p2 : u2.cells = [u2] := by rw [← hu2]; simp
    have p3 : u3.cells = [u3] := by rw [← hu3]; simp
    clear hu1 hu2 hu3
    generalize rnHq j.g.grid j.notes G ++ rowsG 3 encFloat (j.floats.map (floatG j.g.grid)) = G3 at *
    simp at k1 k2 k3 f1 f2 f3
    simp [St.enter, enumFrom, subs, setSubs, c, i1, i2, i3, i4, k1, k2, k3, f1, f2, f3, o1, o2, o3, geomG]
end Go.EnvOf

/- The law GridSnaps, evaluated. -/
namespace Go.EnvOf
open Go Go.Eng
set_option maxRecDepth 100000

theorem awake14 : clD EE (.p (.fn 45)) [] [] = some (.p (.bool true), none) := by
  rw [clD_iff]
  exact ⟨100, by kernel_rfl⟩
structure jobI (j : Job) : Prop where
  g : okGeom j.g
  items : ∀ x ∈ j.items, okItem x
  notes : ∀ n ∈ j.notes, ∀ x ∈ n.lines, I64 x
  floats : ∀ x ∈ j.floats, okFloat x
theorem okJob_of {j : Job} (h : jobI j) (s : small j) : okJob j :=
  ⟨h.g, h.items, fun n hn => ⟨h.notes n hn, by have := s.each n hn; omega, by have := s.each n hn; omega⟩, h.floats, by have := s.items; omega, by have := s.notes; omega, by have := s.floats; omega⟩
theorem small_snap {j : Job} (s : small j) : small (snapG j) := by
  unfold snapG
  split
  · exact s
  · refine ⟨by simpa using s.items, by simpa using s.notes, by simpa using s.floats, fun n hn => ?_⟩
    simp only [List.mem_map] at hn
    obtain ⟨m, hm, rfl⟩ := hn
    have := s.each m hm
    simpa [noteG] using this
theorem gsame_small (j k : Job) (s : small j) (H : Heap) : clD EE (.p (.fn 52)) [vJob j, vJob k] H = some (vB (decide (j = k)), none) :=
  gsame_ev j k (by have := s.items; omega) (by have := s.notes; omega) (by have := s.floats; omega) (fun n hn => by have := s.each n hn; exact ⟨by omega, by omega⟩) H
theorem rsame_small (j k : Job) (s : small j) (H : Heap) : clD EE (.p (.fn 49)) [vJob j, vJob k] H = some (vB (decide (j = k)), none) :=
  rsame14_ev j k (by have := s.items; omega) (by have := s.notes; omega) (by have := s.floats; omega) (fun n hn => by have := s.each n hn; exact ⟨by omega, by omega⟩) H
theorem on_small (j : Job) (s : small j) (H : Heap) : clD EE (.p (.fn 48)) [vJob j] H = some (vB (onF j), none) :=
  on_ev j (by have := s.items; omega) (by have := s.notes; omega) (by have := s.floats; omega) (fun n hn => by have := s.each n hn; omega) H
theorem ron_small (j : Job) (s : small j) (H : Heap) : clD EE (.p (.fn 51)) [vJob j] H = some (vB (onF j), none) :=
  ron_ev j (by have := s.items; omega) (by have := s.notes; omega) (by have := s.floats; omega) (fun n hn => by have := s.each n hn; omega) H

/-- A job's cells, unnamed. -/
theorem job_cells (j : Job) : ∃ J, vJob j = .agg J ∧ J.length = 22 ∧ subs J 0 22 = some J ∧ ¬ J = [] ∧ J.all V.oneB = true ∧ J.map normC = J := ⟨_, rfl, rfl, rfl, by simp, rfl, rfl⟩

theorem gridSnaps_ev (j k : Job) (hj : jobI j) : clD EE (.p (.fn 8)) [vJob j, vJob k] [] = some (.p (.bool true), none) := by
  rw [clD_body _ _ _ _ _ _ (noP _) fn8]
  have l1 := large_ev j []
  have l2 := large_ev k []
  obtain ⟨J, hJ, q1, q2, q3, q4⟩ := job_cells j
  obtain ⟨K, hK, r1, r2, r3, r4⟩ := job_cells k
  obtain ⟨M, hM, m1, m2, m3, m4⟩ := job_cells (snapG j)
  cases b1 : largeF j with
  | true =>
    rw [hJ, b1] at l1
    rw [hJ, hK]
    simp [-List.all_eq_true, St.enter, enumFrom, q1, q2, q3, q4, r1, r2, r3, r4, l1, awake14]
  | false =>
    cases b2 : largeF k with
    | true =>
      rw [hJ, b1] at l1
      rw [hK, b2] at l2
      rw [hJ, hK]
      simp [-List.all_eq_true, St.enter, enumFrom, q1, q2, q3, q4, r1, r2, r3, r4, l1, l2, awake14]
    | false =>
      have s1 := small_of b1
      have ok := okJob_of hj s1
      have h1 := snap_ev j ok []
      have h2 := rsnap_ev j ok []
      have h3 := rsame_small (snapG j) (snapG j) (small_snap s1) []
      have h4 := on_small j s1 []
      have h5 := ron_small j s1 []
      have h6 := gsame_small j k s1 []
      have h7 := rsame_small j k s1 []
      have h8 := gsame_small j j s1 []
      rw [hJ, b1] at l1
      rw [hK, b2] at l2
      rw [hJ, hM] at h1 h2
      rw [hM] at h3
      rw [hJ] at h4 h5 h8
      rw [hJ, hK] at h6 h7
      rw [hJ, hK]
      simp only [decide_true] at h3 h8
      simp [-List.all_eq_true, St.enter, enumFrom, q1, q2, q3, q4, r1, r2, r3, r4, m4, l1, l2, h1, h2, h3, h4, h5, h6, h7, h8, awake14]
end Go.EnvOf

/- Jobs that may be: the clauses of the program. -/
namespace Go.EnvOf
open Go Go.Eng

/-! ### Floats -/
def floatOK (f : Float) : Bool := decide (0 ≤ f.c) && decide (f.c ≤ 2) && decide (1 ≤ f.h) && decide (f.h ≤ 1073741823) && decide (0 ≤ f.w) && decide (f.w ≤ 3)
theorem floatCheck_ev (f : Float) (H : Heap) : clD EE (.p (.fn 164)) [vFloat f] H = some (vI (if floatOK f = true then 0 else 10), none) := by
  rw [clD_body _ _ _ _ _ _ (noP _) fn164]
  unfold floatOK
  by_cases a1 : 0 ≤ f.c
  · have b1 : ¬ f.c < 0 := by omega
    by_cases a2 : f.c ≤ 2
    · have b2 : ¬ 3 ≤ f.c := by omega
      by_cases a3 : 1 ≤ f.h
      · have b3 : ¬ f.h < 1 := by omega
        by_cases a4 : f.h ≤ 1073741823
        · have b4 : ¬ 1073741823 < f.h := by omega
          by_cases a5 : 0 ≤ f.w
          · have b5 : ¬ f.w < 0 := by omega
            by_cases a6 : f.w ≤ 3
            · have b6 : ¬ 3 < f.w := by omega
              simp [St.enter, enumFrom, subs, a1, a2, a3, a4, a5, a6, b1, b2, b3, b4, b5, b6]
            · have b6 : 3 < f.w := by omega
              simp [St.enter, enumFrom, subs, a1, a2, a3, a4, a5, a6, b1, b2, b3, b4, b5, b6]
          · have b5 : f.w < 0 := by omega
            simp [St.enter, enumFrom, subs, a1, a2, a3, a4, a5, b1, b2, b3, b4, b5]
        · have b4 : 1073741823 < f.h := by omega
          simp [St.enter, enumFrom, subs, a1, a2, a3, a4, b1, b2, b3, b4]
      · have b3 : f.h < 1 := by omega
        simp [St.enter, enumFrom, subs, a1, a2, a3, b1, b2, b3]
    · have b2 : 3 ≤ f.c := by omega
      simp [St.enter, enumFrom, subs, a1, a2, b1, b2]
  · have b1 : f.c < 0 := by omega
    simp [St.enter, enumFrom, subs, a1, b1]
theorem rfloatRight_ev (f : Float) (H : Heap) : clD EE (.p (.fn 114)) [vFloat f] H = some (vB (floatOK f), none) := by
  rw [clD_body _ _ _ _ _ _ (noP _) fn114]
  unfold floatOK
  by_cases a1 : 0 ≤ f.c
  · by_cases a2 : f.c ≤ 2
    · by_cases a3 : 1 ≤ f.h
      · by_cases a4 : f.h ≤ 1073741823
        · by_cases a5 : 0 ≤ f.w
          · simp [St.enter, enumFrom, subs, a1, a2, a3, a4, a5]
          · simp [St.enter, enumFrom, subs, a1, a2, a3, a4, a5]
        · simp [St.enter, enumFrom, subs, a1, a2, a3, a4]
      · simp [St.enter, enumFrom, subs, a1, a2, a3]
    · simp [St.enter, enumFrom, subs, a1, a2]
  · simp [St.enter, enumFrom, subs, a1]

/-! ### The first of a list that may not be -/
theorem idxItem_fn : EE.fns 117 = some (idxI 7 true) := fn117
theorem idxNote_fn : EE.fns 191 = some (idxI 2 true) := fn191
theorem idxFloat_fn : EE.fns 194 = some (idxI 3 true) := fn194
/-- Fields: is a check's answer an error? -/
theorem badItem1_ev (x : Item) (p : Nat) (H : Heap) (hb : Eng.boxAt H p = some [.p (.fn 159)]) : clD EE (.fn (.func 186) [] [.ptr p 0]) [vItem x] H = some (vB (!rightF x), none) := by
  rw [clD_clo, clD_body _ _ _ _ _ _ (noP _) fn186]
  have h := itemCheck_ev x H
  cases e : rightF x <;> rw [e] at h <;> simp at h <;> simp [St.enter, enumFrom, subs, hb, h]
theorem badNote1_ev (x : Note) (hx : x.lines.length ≤ 1000000 ∧ x.pens.length ≤ 1000000) (p : Nat) (H : Heap) (hb : Eng.boxAt H p = some [.p (.fn 18)]) : clD EE (.fn (.func 192) [] [.ptr p 0]) [vNote x] H = some (vB (wrongF x.lines x.pens), none) := by
  rw [clD_clo, clD_body _ _ _ _ _ _ (noP _) fn192]
  have h := check_ev x.lines x.pens H (by omega) (by omega)
  simp only [note, sli] at h
  cases e : wrongF x.lines x.pens <;> rw [e] at h <;> simp at h <;> simp [St.enter, enumFrom, subs, hb, h]
theorem badFloat1_ev (x : Float) (p : Nat) (H : Heap) (hb : Eng.boxAt H p = some [.p (.fn 164)]) : clD EE (.fn (.func 195) [] [.ptr p 0]) [vFloat x] H = some (vB (!floatOK x), none) := by
  rw [clD_clo, clD_body _ _ _ _ _ _ (noP _) fn195]
  have h := floatCheck_ev x H
  cases e : floatOK x <;> rw [e] at h <;> simp at h <;> simp [St.enter, enumFrom, subs, hb, h]
theorem firstItem_ev (l : List Item) (hl : l.length ≤ 1000000) (p : Nat) (H : Heap) (hb : Eng.boxAt H p = some [.p (.fn 159)]) : clD EE (.p (.fn 185)) [vItems l, .ptr p 0] H = some (vI (idxF (fun x => !rightF x) 0 l), none) := by
  rw [clD_body _ _ _ _ _ _ (noP _) fn185]
  have h := idx_ev _ 7 true encItem (fun x => vItem x) (noP _) idxItem_fn (fun _ => rfl) (fun _ => rfl) (fun _ => rfl) (fun _ => rfl) l (by omega) (.fn (.func 186) [] [.ptr p 0]) (fun x => !rightF x) H (fun x _ => badItem1_ev x p H hb)
  simp [St.enter, enumFrom, h]
theorem firstNote_ev (l : List Note) (hl : l.length ≤ 1000000) (hx : ∀ x ∈ l, x.lines.length ≤ 1000000 ∧ x.pens.length ≤ 1000000) (p : Nat) (H : Heap) (hb : Eng.boxAt H p = some [.p (.fn 18)]) : clD EE (.p (.fn 190)) [vNotes l, .ptr p 0] H = some (vI (idxF (fun x => wrongF x.lines x.pens) 0 l), none) := by
  rw [clD_body _ _ _ _ _ _ (noP _) fn190]
  have h := idx_ev _ 2 true encNote (fun x => vNote x) (noP _) idxNote_fn (fun _ => rfl) (fun _ => rfl) (fun _ => rfl) (fun _ => rfl) l (by omega) (.fn (.func 192) [] [.ptr p 0]) (fun x => wrongF x.lines x.pens) H (fun x h => badNote1_ev x (hx x h) p H hb)
  simp [St.enter, enumFrom, h]
theorem firstFloat_ev (l : List Float) (hl : l.length ≤ 1000000) (p : Nat) (H : Heap) (hb : Eng.boxAt H p = some [.p (.fn 164)]) : clD EE (.p (.fn 193)) [vFloats l, .ptr p 0] H = some (vI (idxF (fun x => !floatOK x) 0 l), none) := by
  rw [clD_body _ _ _ _ _ _ (noP _) fn193]
  have h := idx_ev _ 3 true encFloat (fun x => vFloat x) (noP _) idxFloat_fn (fun _ => rfl) (fun _ => rfl) (fun _ => rfl) (fun _ => rfl) l (by omega) (.fn (.func 195) [] [.ptr p 0]) (fun x => !floatOK x) H (fun x _ => badFloat1_ev x p H hb)
  simp [St.enter, enumFrom, h]
end Go.EnvOf

/- Anchors of a kind, of so many things. -/
namespace Go.EnvOf
open Go Go.Eng

/-- The place of the first wrong anchor; the list's end, if some lack; -1: none. -/
def refF (k : Int) (most : Nat) : Nat → Nat → List Item → Int
  | i, n, [] => if n < most then i else -1
  | i, n, x :: r => if x.k = k then (if x.n = n ∧ n < most then refF k most (i + 1) (n + 1) r else i) else refF k most (i + 1) n r

/-! ### By the document -/
def raE (l : List Item) (k : Int) (most : Nat) (H : Heap) (n i : Nat) : St := ⟨[(0, vItems l), (1, vI k), (2, vI most), (7, vI n), (8, vI i)], [], H, H.length, []⟩
def raS (k : Int) (most : Nat) (H : Heap) (n i : Nat) (x : Item) : Nat ⊕ (Ex × St) := if x.k = k then (if x.n = n ∧ n < most then .inl (n + 1) else .inr (.ret, ⟨[(6, vI i)], [], H, H.length, []⟩)) else .inl n
def raX (l : List Item) (k : Int) (most : Nat) (H : Heap) (n : Nat) : Ex × St := (.exit 0, ⟨[(0, vItems l), (1, vI k), (2, vI most), (7, vI n), (8, vI l.length), (12, vB false)], [], H, H.length, []⟩)
theorem ra_lp (l : List Item) (k : Int) (most : Nat) (H : Heap) (hl : l.length ≤ 1000000) : evD EE lp115_0 (raE l k most H 0 0) = some (rng (raS k most H) (raX l k most H) 0 0 l) := by
  unfold lp115_0
  refine evD_rng l (raE l k most H) (fun n i => n ≤ i) (raS k most H) (raX l k most H) (fun _ _ => rfl) ?_ ?_ 0 0 (Nat.le_refl _) (Nat.zero_le _)
  · intro n i x hn hx
    have hlt := (List.getElem?_eq_some_iff.1 hx).1
    have hix := fun H k => ixs_nat H encItem (k := k) (s := 7) hx rfl
    have w : IntKind.i64.wrap ((i : Int) + 1) = ((i + 1 : Nat) : Int) := w64 (by omega) (by omega)
    have w2 : IntKind.i64.wrap ((n : Int) + 1) = ((n + 1 : Nat) : Int) := w64 (by omega) (by omega)
    simp only [encItem] at hix
    by_cases hk : x.k = k
    · by_cases hn : x.n = n
      · by_cases hm : n < most
        · have hm2 : ¬ (most : Int) ≤ n := by omega
          simp [raS, raE, hlt, hix, subs, hk, hn, hm, hm2, w, w2]; omega
        · have hm2 : (most : Int) ≤ n := by omega
          simp [raS, raE, hlt, hix, subs, hk, hn, hm, hm2]
      · simp [raS, raE, hlt, hix, subs, hk, hn]
    · simp [raS, raE, hlt, hix, subs, hk, w]; omega
  · intro n hn
    simp [raE, raX]
theorem ra_rng (l : List Item) (k : Int) (most : Nat) (H : Heap) : ∀ (r : List Item) (n i : Nat), (∃ n', rng (raS k most H) (raX l k most H) n i r = raX l k most H n' ∧ refF k most i n r = if n' < most then ((i + r.length : Nat) : Int) else -1) ∨
    ∃ j : Nat, rng (raS k most H) (raX l k most H) n i r = (.ret, ⟨[(6, vI j)], [], H, H.length, []⟩) ∧ refF k most i n r = j
  | [], n, i => .inl ⟨n, rfl, rfl⟩
  | x :: r, n, i => by
    have e : ∀ a : Nat, i + 1 + r.length = i + (x :: r).length := fun _ => by simp; omega
    by_cases hk : x.k = k
    · by_cases hn : x.n = n ∧ n < most
      · have := ra_rng l k most H r (n + 1) (i + 1)
        rw [e 0] at this
        simpa only [rng, raS, refF, hk, hn, if_true, and_self] using this
      · exact .inr ⟨i, by simp only [rng, raS, if_pos hk, if_neg hn], by simp only [refF, if_pos hk, if_neg hn]⟩
    · have := ra_rng l k most H r n (i + 1)
      rw [e 0] at this
      simpa only [rng, raS, refF, hk, if_false] using this
theorem ranchors_ev (l : List Item) (k : Int) (most : Nat) (H : Heap) (hl : l.length ≤ 1000000) : clD EE (.p (.fn 115)) [vItems l, vI k, vI most] H = some (vI (refF k most 0 0 l), none) := by
  rw [clD_body _ _ _ _ _ _ (noP _) fn115]
  have key := ra_lp l k most H hl
  rcases ra_rng l k most H l 0 0 with ⟨n', h1, h2⟩ | ⟨j, h1, h2⟩
  · rw [h1] at key
    simp only [Nat.zero_add] at h2
    by_cases c : n' < most
    · simp [raE, raX] at key
      simp [St.enter, enumFrom, key, h2, c]
    · simp [raE, raX] at key
      simp [St.enter, enumFrom, key, h2, c]
  · rw [h1] at key
    simp [raE] at key
    simp [St.enter, enumFrom, key, h2]

/-! ### By the program -/
theorem anchF_ge (k : Int) : ∀ (l : List Item) (i n : Nat), anchF k i n l = -1 ∨ (i : Int) ≤ anchF k i n l
  | [], _, _ => .inl rfl
  | x :: r, i, n => by
    simp only [anchF]
    split
    · split
      · rcases anchF_ge k r (i + 1) (n + 1) with h | h
        · exact .inl h
        · exact .inr (by omega)
      · exact .inr (Int.le_refl _)
    · rcases anchF_ge k r (i + 1) n with h | h
      · exact .inl h
      · exact .inr (by omega)
def rfE (l : List Item) (k : Int) (most : Nat) (at_ : Int) (H : Heap) (n i : Nat) : St := ⟨[(0, vItems l), (1, vI k), (2, vI most), (7, vI at_), (8, vI n), (14, vItems l), (15, vI l.length), (16, vI i)], [], H, H.length, []⟩
def rfS (k : Int) (most : Nat) (at_ : Int) (H : Heap) (n i : Nat) (x : Item) : Nat ⊕ (Ex × St) := if (i : Int) = at_ then .inr (.ret, ⟨[(6, vI i)], [], H, H.length, []⟩) else if x.k = k then (if n = most then .inr (.ret, ⟨[(6, vI i)], [], H, H.length, []⟩) else .inl (n + 1)) else .inl n
def rfX (l : List Item) (k : Int) (most : Nat) (at_ : Int) (H : Heap) (n : Nat) : Ex × St := (.exit 0, ⟨[(0, vItems l), (1, vI k), (2, vI most), (7, vI at_), (8, vI n), (14, vItems l), (15, vI l.length), (16, vI l.length), (17, vB false)], [], H, H.length, []⟩)
theorem rf_lp (l : List Item) (k : Int) (most : Nat) (at_ : Int) (H : Heap) (hl : l.length ≤ 1000000) : evD EE lp196_0 (rfE l k most at_ H 0 0) = some (rng (rfS k most at_ H) (rfX l k most at_ H) 0 0 l) := by
  unfold lp196_0
  refine evD_rng l (rfE l k most at_ H) (fun n i => n ≤ i) (rfS k most at_ H) (rfX l k most at_ H) (fun _ _ => rfl) ?_ ?_ 0 0 (Nat.le_refl _) (Nat.zero_le _)
  · intro n i x hn hx
    have hlt := (List.getElem?_eq_some_iff.1 hx).1
    have hix := fun H k => ixs_nat H encItem (k := k) (s := 7) hx rfl
    have w : IntKind.i64.wrap ((i : Int) + 1) = ((i + 1 : Nat) : Int) := w64 (by omega) (by omega)
    have w2 : IntKind.i64.wrap ((n : Int) + 1) = ((n + 1 : Nat) : Int) := w64 (by omega) (by omega)
    simp only [encItem] at hix
    by_cases ha : (i : Int) = at_
    · subst ha
      simp [rfS, rfE, hlt, hix, subs, setSubs]
    · by_cases hk : x.k = k
      · by_cases hm : n = most
        · simp [rfS, rfE, hlt, hix, subs, setSubs, ha, hk, hm]
        · have hm2 : ¬ (n : Int) = most := by omega
          simp [rfS, rfE, hlt, hix, subs, setSubs, ha, hk, hm, hm2, w, w2]; omega
      · simp [rfS, rfE, hlt, hix, subs, setSubs, ha, hk, w]; omega
  · intro n hn
    simp [rfE, rfX]
theorem rf_rng (l : List Item) (k : Int) (most : Nat) (at_ : Int) (H : Heap) : ∀ (r : List Item) (n i : Nat), n ≤ most → at_ = anchF k i n r → (∃ n', rng (rfS k most at_ H) (rfX l k most at_ H) n i r = rfX l k most at_ H n' ∧ refF k most i n r = if n' < most then ((i + r.length : Nat) : Int) else -1) ∨
    ∃ j : Nat, rng (rfS k most at_ H) (rfX l k most at_ H) n i r = (.ret, ⟨[(6, vI j)], [], H, H.length, []⟩) ∧ refF k most i n r = j
  | [], n, i, _, _ => .inl ⟨n, rfl, rfl⟩
  | x :: r, n, i, hm, ha => by
    have e : i + 1 + r.length = i + (x :: r).length := by simp; omega
    simp only [anchF] at ha
    by_cases hk : x.k = k
    · rw [if_pos hk] at ha
      by_cases hn : x.n = n
      · rw [if_pos hn] at ha
        have hne : ¬ (i : Int) = at_ := by
          rcases anchF_ge k r (i + 1) (n + 1) with h | h <;> omega
        by_cases hmm : n = most
        · refine .inr ⟨i, by simp only [rng, rfS, if_neg hne, if_pos hk, if_pos hmm], ?_⟩
          have : ¬ (x.n = n ∧ n < most) := by omega
          simp only [refF, if_pos hk, if_neg this]
        · have hlt : x.n = n ∧ n < most := ⟨hn, by omega⟩
          have := rf_rng l k most at_ H r (n + 1) (i + 1) (by omega) ha
          rw [e] at this
          simp only [rng, rfS, if_neg hne, if_pos hk, if_neg hmm, refF, if_pos hlt]
          exact this
      · rw [if_neg hn] at ha
        have : ¬ (x.n = n ∧ n < most) := fun h => hn h.1
        exact .inr ⟨i, by simp only [rng, rfS, if_pos ha.symm], by simp only [refF, if_pos hk, if_neg this]⟩
    · rw [if_neg hk] at ha
      have hne : ¬ (i : Int) = at_ := by
        rcases anchF_ge k r (i + 1) n with h | h <;> omega
      have := rf_rng l k most at_ H r n (i + 1) hm ha
      rw [e] at this
      simp only [rng, rfS, if_neg hne, if_neg hk, refF]
      exact this
theorem refs_ev (l : List Item) (k : Int) (most : Nat) (H : Heap) (hl : l.length ≤ 1000000) : clD EE (.p (.fn 196)) [vItems l, vI k, vI most] H = some (vI (refF k most 0 0 l), none) := by
  rw [clD_body _ _ _ _ _ _ (noP _) fn196]
  have h0 := anch_ev l k H hl
  have key := rf_lp l k most (anchF k 0 0 l) H hl
  rcases rf_rng l k most (anchF k 0 0 l) H l 0 0 (Nat.zero_le _) rfl with ⟨n', h1, h2⟩ | ⟨j, h1, h2⟩
  · rw [h1] at key
    simp only [Nat.zero_add] at h2
    by_cases c : n' < most
    · simp [rfE, rfX] at key
      simp [St.enter, enumFrom, h0, key, h2, c]
    · simp [rfE, rfX] at key
      simp [St.enter, enumFrom, h0, key, h2, c]
  · rw [h1] at key
    simp [rfE] at key
    simp [St.enter, enumFrom, h0, key, h2]
end Go.EnvOf

/- Jobs that may be: all clauses, in order. -/
namespace Go.EnvOf
open Go Go.Eng

def yes (b : Bool) : Int := if b = true then 0 else -1
def looseF (j : Job) : Int := let a := refF 5 j.notes.length 0 0 j.items; let b := refF 6 j.floats.length 0 0 j.items; if a < 0 ∨ b < 0 then max a b else min a b
def tallF (j : Job) : Int := idxF (fun f => decide ((snapG j).g.first < f.h)) 0 (snapG j).floats

section
variable (j : Job)
theorem c1_ev (H : Heap) : clD EE (.p (.fn 151)) [vJob j] H = some (vB (decide (4096 < (j.items.length : Int))), none) := by
  rw [clD_body _ _ _ _ _ _ (noP _) fn151]
  simp [St.enter, enumFrom, subs]
theorem c2_ev (H : Heap) : clD EE (.p (.fn 152)) [vJob j] H = some (vB (decide (256 < (j.floats.length : Int))), none) := by
  rw [clD_body _ _ _ _ _ _ (noP _) fn152]
  simp [St.enter, enumFrom, subs]
theorem c3_ev (H : Heap) : clD EE (.p (.fn 153)) [vJob j] H = some (vB (decide (512 < (j.notes.length : Int))), none) := by
  rw [clD_body _ _ _ _ _ _ (noP _) fn153]
  simp [St.enter, enumFrom, subs]
theorem c4_ev (H : Heap) : clD EE (.p (.fn 154)) [vJob j] H = some (vB (decide (geomF j.g = 6)), none) := by
  rw [clD_body _ _ _ _ _ _ (noP _) fn154]
  have h := geomCheck_ev j.g H
  simp [St.enter, enumFrom, subs, h]
theorem c5_ev (H : Heap) : clD EE (.p (.fn 156)) [vJob j] H = some (vB (decide (geomF j.g = 7)), none) := by
  rw [clD_body _ _ _ _ _ _ (noP _) fn156]
  have h := geomCheck_ev j.g H
  simp [St.enter, enumFrom, subs, h]
theorem when1_ev (f : FuncId) (b : Bool) (p : Nat) (H : Heap) (hb : Eng.boxAt H p = some [.p (.fn f)]) (hf : clD EE (.p (.fn f)) [vJob j] H = some (vB b, none)) : clD EE (.fn (.func 182) [] [.ptr p 0]) [vJob j] H = some (vI (yes b), none) := by
  rw [clD_clo, clD_body _ _ _ _ _ _ (noP _) fn182]
  obtain ⟨J, hJ, q1, q2, q3, q4⟩ := job_cells j
  rw [hJ] at hf ⊢
  have e : subs [V.p (.fn f)] 0 1 = some [.p (.fn f)] := rfl
  cases b <;> simp [-List.all_eq_true, St.enter, enumFrom, q1, q2, q3, q4, hb, e, hf, yes]
theorem firstI_ev (g : FuncId) (H : Heap) : clD EE (.p (.fn 158)) [.p (.fn g)] H = some (.fn (.func 185) [] [.ptr H.length 0], some (H ++ [.box [.p (.fn g)]], [])) := by
  rw [clD_body _ _ _ _ _ _ (noP _) fn158]
  simp [St.enter, enumFrom]
theorem firstN_ev (g : FuncId) (H : Heap) : clD EE (.p (.fn 161)) [.p (.fn g)] H = some (.fn (.func 190) [] [.ptr H.length 0], some (H ++ [.box [.p (.fn g)]], [])) := by
  rw [clD_body _ _ _ _ _ _ (noP _) fn161]
  simp [St.enter, enumFrom]
theorem firstF_ev (g : FuncId) (H : Heap) : clD EE (.p (.fn 163)) [.p (.fn g)] H = some (.fn (.func 193) [] [.ptr H.length 0], some (H ++ [.box [.p (.fn g)]], [])) := by
  rw [clD_body _ _ _ _ _ _ (noP _) fn163]
  simp [St.enter, enumFrom]
theorem c6_ev (ok : okJob j) (H : Heap) : clD EE (.p (.fn 157)) [vJob j] H = some (vI (idxF (fun x => !rightF x) 0 j.items), none) := by
  rw [clD_body _ _ _ _ _ _ (noP _) fn157]
  have h := firstItem_ev j.items ok.n1 H.length (H ++ [.box [.p (.fn 159)]]) (by simp)
  simp [St.enter, enumFrom, subs, firstI_ev, h]
theorem c7_ev (ok : okJob j) (H : Heap) : clD EE (.p (.fn 160)) [vJob j] H = some (vI (idxF (fun x => wrongF x.lines x.pens) 0 j.notes), none) := by
  rw [clD_body _ _ _ _ _ _ (noP _) fn160]
  have h := firstNote_ev j.notes ok.n2 (fun x hx => (ok.notes x hx).2) H.length (H ++ [.box [.p (.fn 18)]]) (by simp)
  simp [St.enter, enumFrom, subs, firstN_ev, h]
theorem c8_ev (ok : okJob j) (H : Heap) : clD EE (.p (.fn 162)) [vJob j] H = some (vI (idxF (fun x => !floatOK x) 0 j.floats), none) := by
  rw [clD_body _ _ _ _ _ _ (noP _) fn162]
  have h := firstFloat_ev j.floats ok.n3 H.length (H ++ [.box [.p (.fn 164)]]) (by simp)
  simp [St.enter, enumFrom, subs, firstF_ev, h]
theorem c9_ev (ok : okJob j) (H : Heap) : clD EE (.p (.fn 165)) [vJob j] H = some (vI (looseF j), none) := by
  rw [clD_body _ _ _ _ _ _ (noP _) fn165]
  have h1 := refs_ev j.items 5 j.notes.length H ok.n1
  have h2 := refs_ev j.items 6 j.floats.length H ok.n1
  unfold looseF
  generalize refF 5 j.notes.length 0 0 j.items = a at *
  generalize refF 6 j.floats.length 0 0 j.items = b at *
  by_cases c1 : a < 0
  · simp [St.enter, enumFrom, subs, h1, h2, c1]
  · by_cases c2 : b < 0
    · simp [St.enter, enumFrom, subs, h1, h2, c1, c2]
    · simp [St.enter, enumFrom, subs, h1, h2, c1, c2]
theorem tall1_ev (f : Float) (first : Int) (p : Nat) (H : Heap) (cs : List V) (hb : Eng.boxAt H p = some cs) (hc : subs cs 4 1 = some [vI first]) : clD EE (.fn (.func 197) [] [.ptr p 0]) [vFloat f] H = some (vB (decide (first < f.h)), none) := by
  rw [clD_clo, clD_body _ _ _ _ _ _ (noP _) fn197]
  have e : subs [vI f.c, vI f.h, vI f.w] 1 1 = some [vI f.h] := rfl
  simp [St.enter, enumFrom, hb, hc, e]
theorem tall_cells (j : Job) : ∃ J, vJob j = .agg J ∧ J.length = 22 ∧ subs J 0 22 = some J ∧ ¬ J = [] ∧ J.all V.oneB = true ∧ subs J 4 1 = some [vI j.g.first] ∧ subs J 21 1 = some [vFloats j.floats] ∧ J.map normC = J := ⟨_, rfl, rfl, rfl, by simp, rfl, rfl, rfl, rfl⟩
theorem c10_ev (ok : okJob j) (n3 : (snapG j).floats.length ≤ 1000000) (H : Heap) : clD EE (.p (.fn 166)) [vJob j] H = some (vI (tallF j), none) := by
  rw [clD_body _ _ _ _ _ _ (noP _) fn166]
  have h1 := snap_ev j ok H
  obtain ⟨J, hJ, q1, q2, q3, q4⟩ := job_cells j
  obtain ⟨M, hM, m1, m2, m3, m4, m5, m6⟩ := tall_cells (snapG j)
  have h2 := idx_ev _ 3 true encFloat (fun x => vFloat x) (noP _) idxFloat_fn (fun _ => rfl) (fun _ => rfl) (fun _ => rfl) (fun _ => rfl) (snapG j).floats (by omega) (.fn (.func 197) [] [.ptr H.length 0]) (fun f => decide ((snapG j).g.first < f.h)) (H ++ [.box M])
    (fun x _ => tall1_ev x (snapG j).g.first H.length (H ++ [.box M]) M (by simp) m5)
  unfold tallF
  rw [hJ, hM] at h1
  rw [hJ]
  have e : setSubs (α := V) [.p (.int .i64 0), .p (.int .i64 0), .p (.int .i64 0), .p (.int .i64 0), .p (.int .i64 0), .p (.int .i64 0), .p (.int .i64 0), .p (.int .i64 0), .p (.int .i64 0), .p (.int .i64 0), .p (.int .i64 0), .p (.int .i64 0), .p (.int .i64 0), .p (.int .i64 0), .p (.int .i64 0), .p (.int .i64 0), .p (.int .i64 0), .p (.int .i64 0), .p (.bool false), .nils, .nils, .nils] 0 M = some M := by simp [setSubs, m1]
  simp [-List.all_eq_true, St.enter, enumFrom, q1, q2, q3, q4, m1, m2, m3, m4, m6, e, h1, h2]

/-! ### All of them -/
def whenV (n : Nat) : V := .fn (.func 182) [] [.ptr n 0]
def clausesC (n : Nat) : List (Int × V × Int) :=
  [(3, whenV n, yes (decide (4096 < (j.items.length : Int)))), (4, whenV (n + 1), yes (decide (256 < (j.floats.length : Int)))), (5, whenV (n + 2), yes (decide (512 < (j.notes.length : Int)))),
   (6, whenV (n + 3), yes (decide (geomF j.g = 6))), (7, whenV (n + 4), yes (decide (geomF j.g = 7))),
   (8, .p (.fn 157), idxF (fun x => !rightF x) 0 j.items), (9, .p (.fn 160), idxF (fun x => wrongF x.lines x.pens) 0 j.notes), (10, .p (.fn 162), idxF (fun x => !floatOK x) 0 j.floats),
   (11, .p (.fn 165), looseF j), (12, .p (.fn 166), tallF j)]
def clauseEl (c : Int × V × Int) : List V := [vI c.1, c.2.1]
def clauseH : Heap := [.box [.p (.fn 151)], .box [.p (.fn 152)], .box [.p (.fn 153)], .box [.p (.fn 154)], .box [.p (.fn 156)]]
theorem when_ev (g : FuncId) (H : Heap) : clD EE (.p (.fn 150)) [.p (.fn g)] H = some (whenV H.length, some (H ++ [.box [.p (.fn g)]], [])) := by
  rw [clD_body _ _ _ _ _ _ (noP _) fn150]
  simp [St.enter, enumFrom, whenV]
theorem clausesV_ev (H : Heap) : clD EE (.p (.fn 112)) [] H = some (.vsl ((clausesC j H.length).map clauseEl), some (H ++ clauseH, [])) := by
  rw [clD_body _ _ _ _ _ _ (noP _) fn112]
  simp [St.enter, enumFrom, setSubs, when_ev, whenV, clausesC, clauseEl, clauseH]
theorem clauses_all (ok : okJob j) (n3 : (snapG j).floats.length ≤ 1000000) (H : Heap) : ∀ c ∈ clausesC j H.length, clD EE c.2.1 [vJob j] (H ++ clauseH) = some (vI c.2.2, none) ∧ c.2.1.oneB = true ∧ c.2.1.cells = [c.2.1] ∧ c.2.1.notL = true := by
  intro c hc
  have wh : ∀ (i : Nat) (f : FuncId) (b : Bool), clauseH[i]? = some (.box [.p (.fn f)]) → clD EE (.p (.fn f)) [vJob j] (H ++ clauseH) = some (vB b, none) → clD EE (whenV (H.length + i)) [vJob j] (H ++ clauseH) = some (vI (yes b), none) := fun i f b hi hf => by
    refine when1_ev j f b (H.length + i) _ ?_ hf
    rw [boxAt_app]; unfold Eng.boxAt; rw [hi]
  simp only [clausesC, List.mem_cons, List.not_mem_nil, or_false] at hc
  rcases hc with rfl | rfl | rfl | rfl | rfl | rfl | rfl | rfl | rfl | rfl
  · exact ⟨wh 0 _ _ rfl (c1_ev j _), rfl, rfl, rfl⟩
  · exact ⟨wh 1 _ _ rfl (c2_ev j _), rfl, rfl, rfl⟩
  · exact ⟨wh 2 _ _ rfl (c3_ev j _), rfl, rfl, rfl⟩
  · exact ⟨wh 3 _ _ rfl (c4_ev j _), rfl, rfl, rfl⟩
  · exact ⟨wh 4 _ _ rfl (c5_ev j _), rfl, rfl, rfl⟩
  · exact ⟨c6_ev j ok _, rfl, rfl, rfl⟩
  · exact ⟨c7_ev j ok _, rfl, rfl, rfl⟩
  · exact ⟨c8_ev j ok _, rfl, rfl, rfl⟩
  · exact ⟨c9_ev j ok _, rfl, rfl, rfl⟩
  · exact ⟨c10_ev j ok n3 _, rfl, rfl, rfl⟩
/-- The first clause that does not hold. -/
def firstOf : List (Int × V × Int) → Int × Int
  | [] => (0, 0)
  | c :: r => if 0 ≤ c.2.2 then (c.1, c.2.2) else firstOf r
def checkF : Int × Int := firstOf (clausesC j 0)
theorem firstOf_n (n : Nat) : firstOf (clausesC j n) = checkF j := by simp [firstOf, clausesC, checkF]
def ckE (J : List V) (L : List (Int × V × Int)) (H : Heap) (B : Nat) (i : Nat) : St := ⟨[(1, .lptr 1 0), (7, .vsl (L.map clauseEl)), (8, vI L.length), (9, vI i)], [(1, J)], H, B, []⟩
def ckX (J : List V) (L : List (Int × V × Int)) (H : Heap) (B : Nat) : Ex × St := (.exit 0, ⟨[(1, .lptr 1 0), (7, .vsl (L.map clauseEl)), (8, vI L.length), (9, vI L.length), (10, vB false)], [(1, J)], H, B, []⟩)
def ckS (H : Heap) (B : Nat) (_ : Unit) (_ : Nat) (c : Int × V × Int) : Unit ⊕ (Ex × St) := if 0 ≤ c.2.2 then .inr (.ret, ⟨[(2, vI c.1), (3, vI c.2.2)], [], H, B, []⟩) else .inl ()
theorem ck_rng (J : List V) (H : Heap) (B : Nat) (fin : Ex × St) : ∀ (l : List (Int × V × Int)) (i : Nat), (rng (ckS H B) (fun _ => fin) () i l = fin ∧ firstOf l = (0, 0)) ∨ (rng (ckS H B) (fun _ => fin) () i l = (.ret, ⟨[(2, vI (firstOf l).1), (3, vI (firstOf l).2)], [], H, B, []⟩))
  | [], _ => .inl ⟨rfl, rfl⟩
  | c :: r, i => by
    simp only [rng, ckS, firstOf]
    by_cases h : 0 ≤ c.2.2
    · rw [if_pos h, if_pos h]; exact .inr rfl
    · rw [if_neg h, if_neg h]
      exact ck_rng J H B fin r (i + 1)
theorem ck_lp (J : List V) (q1 : J.length = 22) (q2 : subs J 0 22 = some J) (q3 : ¬ J = []) (q4 : J.all V.oneB = true ∧ J.map normC = J) (L : List (Int × V × Int)) (hn : L.length ≤ 1000) (H : Heap) (B : Nat) (hL : ∀ c ∈ L, clD EE c.2.1 [.agg J] H = some (vI c.2.2, none) ∧ c.2.1.oneB = true ∧ c.2.1.cells = [c.2.1] ∧ c.2.1.notL = true) :
    evD EE lp54_0 (ckE J L H B 0) = some (rng (ckS H B) (fun _ => ckX J L H B) () 0 L) := by
  unfold lp54_0
  refine evD_rng L (fun (_ : Unit) i => ckE J L H B i) (fun _ _ => True) (ckS H B) (fun _ => ckX J L H B) (fun _ _ => rfl) ?_ ?_ () 0 trivial (Nat.zero_le _)
  · rintro _ i c - hc
    have hlt := (List.getElem?_eq_some_iff.1 hc).1
    have w : IntKind.i64.wrap ((i : Int) + 1) = ((i + 1 : Nat) : Int) := w64 (by omega) (by omega)
    obtain ⟨h1, h2, h3, h4⟩ := hL c (List.mem_of_getElem? hc)
    have q5 : J.take 22 = J := List.take_of_length_le (by omega)
    have hix : ixsI H (.vsl (L.map clauseEl)) (vI i) 2 = some (.eptr [vI c.1, c.2.1] 0) := by
      have : (L.map clauseEl)[i]? = some [vI c.1, c.2.1] := by simp [hc, clauseEl]
      simp [ixsI, ixsV, this]
    by_cases a : 0 ≤ c.2.2
    · have e : ckS H B () i c = .inr (.ret, ⟨[(2, vI c.1), (3, vI c.2.2)], [], H, B, []⟩) := if_pos a
      simp only [e]
      simp [-List.all_eq_true, ckE, hlt, hix, subs, setSubs, q1, q3, q4, q5, h1, h2, h3, h4, a]
    · have e : ckS H B () i c = .inl () := if_neg a
      simp only [e]
      simp [-List.all_eq_true, ckE, hlt, hix, subs, setSubs, q1, q3, q4, q5, h1, h2, h3, h4, a, w]
  · rintro _ -
    simp [ckE, ckX]
theorem validCheck_ev (ok : okJob j) (n3 : (snapG j).floats.length ≤ 1000000) (H : Heap) : clD EE (.p (.fn 54)) [vJob j] H = some (.tup [vI (checkF j).1, vI (checkF j).2], none) := by
  rw [clD_body _ _ _ _ _ _ (noP _) fn54]
  have h1 := clausesV_ev j H
  have h2 := clauses_all j ok n3 H
  have hf := firstOf_n j H.length
  obtain ⟨J, hJ, q1, q2, q3, q4⟩ := job_cells j
  rw [hJ] at h2 ⊢
  have key := ck_lp J q1 q2 q3 q4 (clausesC j H.length) (by simp [clausesC]) (H ++ clauseH) H.length h2
  have hl : (clausesC j H.length).length = 10 := rfl
  have hle : lenV (.vsl ((clausesC j H.length).map clauseEl)) = some 10 := rfl
  rcases ck_rng J (H ++ clauseH) H.length (ckX J (clausesC j H.length) (H ++ clauseH) H.length) (clausesC j H.length) 0 with ⟨k1, k2⟩ | k1
  · rw [k1] at key
    rw [hf] at k2
    simp only [ckE, ckX, hl] at key
    generalize (clausesC j H.length).map clauseEl = CL at *
    simp at key
    simp [-List.all_eq_true, St.enter, enumFrom, q1, q2, q3, q4, h1, hle, key, k2]
  · rw [k1, hf] at key
    simp only [ckE, hl] at key
    generalize (clausesC j H.length).map clauseEl = CL at *
    simp at key
    simp [-List.all_eq_true, St.enter, enumFrom, q1, q2, q3, q4, h1, hle, key]
theorem validRight_ev (ok : okJob j) (n3 : (snapG j).floats.length ≤ 1000000) (H : Heap) : clD EE (.p (.fn 56)) [vJob j] H = some (vB (decide ((checkF j).1 = 0)), none) := by
  rw [clD_body _ _ _ _ _ _ (noP _) fn56]
  have h1 := validCheck_ev j ok n3 H
  obtain ⟨J, hJ, q1, q2, q3, q4⟩ := job_cells j
  rw [hJ] at h1 ⊢
  simp [-List.all_eq_true, St.enter, enumFrom, q1, q2, q3, q4, h1]
end
end Go.EnvOf

/- Jobs that may be, by the document. -/
namespace Go.EnvOf
open Go Go.Eng

def vE (j : Job) (H : Heap) (t : Nat) (i : Nat) : St := ⟨[(1, .lptr 1 0), (2, .lptr 2 0), (t, vI i)], [(1, cGeom j.g ++ [vItems j.items, vNotes j.notes, vFloats j.floats]), (2, [vI 0, vI 0])], H, H.length, []⟩
def vX (j : Job) (H : Heap) (t x e : Nat) (n : Nat) : Ex × St := (.exit e, ⟨[(1, .lptr 1 0), (2, .lptr 2 0), (t, vI n), (x, vB false)], [(1, cGeom j.g ++ [vItems j.items, vNotes j.notes, vFloats j.floats]), (2, [vI 0, vI 0])], H, H.length, []⟩)
def vR (H : Heap) (e : Int) (i : Int) : Ex × St := (.ret, ⟨[(2, .lptr 2 0)], [(2, [vI e, vI i])], H, H.length, []⟩)
theorem v_lp0 (j : Job) (ok : okJob j) (H : Heap) : evD EE lp55_0 (vE j H 4 0) = some (if 0 ≤ idxF (fun x => !rightF x) 0 j.items then vR H 8 (idxF (fun x => !rightF x) 0 j.items) else vX j H 4 37 0 j.items.length) := by
  unfold lp55_0
  refine Eq.trans (evD_rng j.items (fun (_ : Unit) i => vE j H 4 i) (fun _ _ => True) (stepH (fun x => !rightF x) (vR H 8)) (fun _ => vX j H 4 37 0 j.items.length) (fun _ _ => rfl) ?_ ?_ () 0 trivial (Nat.zero_le _)) (by rw [rng_hit]; rfl)
  · rintro _ i x - hx
    have hlt := (List.getElem?_eq_some_iff.1 hx).1
    have hn := ok.n1
    have w : IntKind.i64.wrap ((i : Int) + 1) = ((i + 1 : Nat) : Int) := w64 (by omega) (by omega)
    have hix := fun H k => ixs_nat H encItem (k := k) (s := 7) hx rfl
    have h := rright_ev x H
    simp only [encItem] at hix
    cases e : rightF x with
    | true => rw [e] at h; simp [stepH, e, vE, hlt, hix, subs, setSubs, h, w]
    | false => rw [e] at h; simp [stepH, e, vE, vR, hlt, hix, subs, setSubs, h]
  · rintro _ -
    simp [vE, vX, subs]
theorem v_lp1 (j : Job) (ok : okJob j) (H : Heap) : evD EE lp55_1 (vE j H 5 0) = some (if 0 ≤ idxF (fun x => wrongF x.lines x.pens) 0 j.notes then vR H 9 (idxF (fun x => wrongF x.lines x.pens) 0 j.notes) else vX j H 5 53 2 j.notes.length) := by
  unfold lp55_1
  refine Eq.trans (evD_rng j.notes (fun (_ : Unit) i => vE j H 5 i) (fun _ _ => True) (stepH (fun (x : Note) => wrongF x.lines x.pens) (vR H 9)) (fun _ => vX j H 5 53 2 j.notes.length) (fun _ _ => rfl) ?_ ?_ () 0 trivial (Nat.zero_le _)) (by rw [rng_hit]; rfl)
  · rintro _ i x - hx
    have hlt := (List.getElem?_eq_some_iff.1 hx).1
    have hn := ok.n2
    have w : IntKind.i64.wrap ((i : Int) + 1) = ((i + 1 : Nat) : Int) := w64 (by omega) (by omega)
    have hix := fun H k => ixs_nat H encNote (k := k) (s := 2) hx rfl
    have hb := (ok.notes x (List.mem_of_getElem? hx)).2
    have h := rcheck_ev x.lines x.pens H hb.1 hb.2
    simp only [encNote] at hix
    simp only [note] at h
    cases e : wrongF x.lines x.pens with
    | false => rw [e] at h; simp at h; simp [stepH, e, vE, hlt, hix, subs, setSubs, h, w]
    | true => rw [e] at h; simp at h; simp [stepH, e, vE, vR, hlt, hix, subs, setSubs, h]
  · rintro _ -
    simp [vE, vX, subs]
theorem v_lp2 (j : Job) (ok : okJob j) (H : Heap) : evD EE lp55_2 (vE j H 6 0) = some (if 0 ≤ idxF (fun x => !floatOK x) 0 j.floats then vR H 10 (idxF (fun x => !floatOK x) 0 j.floats) else vX j H 6 69 4 j.floats.length) := by
  unfold lp55_2
  refine Eq.trans (evD_rng j.floats (fun (_ : Unit) i => vE j H 6 i) (fun _ _ => True) (stepH (fun x => !floatOK x) (vR H 10)) (fun _ => vX j H 6 69 4 j.floats.length) (fun _ _ => rfl) ?_ ?_ () 0 trivial (Nat.zero_le _)) (by rw [rng_hit]; rfl)
  · rintro _ i x - hx
    have hlt := (List.getElem?_eq_some_iff.1 hx).1
    have hn := ok.n3
    have w : IntKind.i64.wrap ((i : Int) + 1) = ((i + 1 : Nat) : Int) := w64 (by omega) (by omega)
    have hix := fun H k => ixs_nat H encFloat (k := k) (s := 3) hx rfl
    have h := rfloatRight_ev x H
    simp only [encFloat] at hix
    cases e : floatOK x with
    | true => rw [e] at h; simp [stepH, e, vE, hlt, hix, subs, setSubs, h, w]
    | false => rw [e] at h; simp [stepH, e, vE, vR, hlt, hix, subs, setSubs, h]
  · rintro _ -
    simp [vE, vX, subs]
def v9E (j : Job) (H : Heap) (i : Nat) : St := ⟨[(2, .lptr 2 0), (9, .lptr 9 0), (10, vI i)], [(2, [vI 0, vI 0]), (9, cGeom j.g ++ [vItems j.items, vNotes j.notes, vFloats j.floats])], H, H.length, []⟩
def v9X (j : Job) (H : Heap) (n : Nat) : Ex × St := (.exit 6, ⟨[(2, .lptr 2 0), (9, .lptr 9 0), (10, vI n), (116, vB false)], [(2, [vI 0, vI 0]), (9, cGeom j.g ++ [vItems j.items, vNotes j.notes, vFloats j.floats])], H, H.length, []⟩)
theorem v_lp3 (j : Job) (hn : j.floats.length ≤ 1000000) (H : Heap) : evD EE lp55_3 (v9E j H 0) = some (if 0 ≤ idxF (fun f => decide (j.g.first < f.h)) 0 j.floats then vR H 12 (idxF (fun f => decide (j.g.first < f.h)) 0 j.floats) else v9X j H j.floats.length) := by
  unfold lp55_3
  refine Eq.trans (evD_rng j.floats (fun (_ : Unit) i => v9E j H i) (fun _ _ => True) (stepH (fun f => decide (j.g.first < f.h)) (vR H 12)) (fun _ => v9X j H j.floats.length) (fun _ _ => rfl) ?_ ?_ () 0 trivial (Nat.zero_le _)) (by rw [rng_hit]; rfl)
  · rintro _ i x - hx
    have hlt := (List.getElem?_eq_some_iff.1 hx).1
    have w : IntKind.i64.wrap ((i : Int) + 1) = ((i + 1 : Nat) : Int) := w64 (by omega) (by omega)
    have hix := fun H k => ixs_nat H encFloat (k := k) (s := 3) hx rfl
    simp only [encFloat] at hix
    by_cases e : j.g.first < x.h
    · simp [stepH, e, v9E, vR, hlt, hix, subs, setSubs]
    · simp [stepH, e, v9E, hlt, hix, subs, setSubs, w]
  · rintro _ -
    simp [v9E, v9X, subs]

/-! ### All of it -/
theorem geom_vals (g : Geom) : geomF g = 0 ∨ geomF g = 6 ∨ geomF g = 7 := by
  unfold geomF
  repeat' split
  all_goals first | exact .inl rfl | exact .inr (.inl rfl) | exact .inr (.inr rfl)
def rcheckF (j : Job) : Int × Int :=
  if 4096 < (j.items.length : Int) then (3, 0) else if 256 < (j.floats.length : Int) then (4, 0) else if 512 < (j.notes.length : Int) then (5, 0)
  else if geomF j.g ≠ 0 then (geomF j.g, 0)
  else if 0 ≤ idxF (fun x => !rightF x) 0 j.items then (8, idxF (fun x => !rightF x) 0 j.items)
  else if 0 ≤ idxF (fun x => wrongF x.lines x.pens) 0 j.notes then (9, idxF (fun x => wrongF x.lines x.pens) 0 j.notes)
  else if 0 ≤ idxF (fun x => !floatOK x) 0 j.floats then (10, idxF (fun x => !floatOK x) 0 j.floats)
  else if 0 ≤ refF 5 j.notes.length 0 0 j.items ∧ (refF 6 j.floats.length 0 0 j.items < 0 ∨ refF 5 j.notes.length 0 0 j.items ≤ refF 6 j.floats.length 0 0 j.items) then (11, refF 5 j.notes.length 0 0 j.items)
  else if 0 ≤ refF 6 j.floats.length 0 0 j.items then (11, refF 6 j.floats.length 0 0 j.items)
  else if 0 ≤ tallF j then (12, tallF j) else (0, 0)
theorem loose_eq (a b : Int) (R : Int × Int) : (if 0 ≤ a ∧ (b < 0 ∨ a ≤ b) then ((11 : Int), a) else if 0 ≤ b then (11, b) else R) = if 0 ≤ (if a < 0 ∨ b < 0 then max a b else min a b) then (11, if a < 0 ∨ b < 0 then max a b else min a b) else R := by
  by_cases ha : a < 0
  · have h1 : ¬ (0 ≤ a ∧ (b < 0 ∨ a ≤ b)) := by omega
    have h2 : a < 0 ∨ b < 0 := .inl ha
    rw [if_neg h1]
    simp only [if_pos h2]
    by_cases hb : b < 0
    · have h3 : ¬ 0 ≤ b := by omega
      have h4 : ¬ 0 ≤ max a b := by omega
      rw [if_neg h3, if_neg h4]
    · have e : max a b = b := by omega
      rw [e]
  · by_cases hb : b < 0
    · have e : max a b = a := by omega
      have h2 : a < 0 ∨ b < 0 := .inr hb
      have h3 : 0 ≤ a ∧ (b < 0 ∨ a ≤ b) := ⟨by omega, .inl hb⟩
      rw [if_pos h3]
      simp only [if_pos h2, e, if_pos h3.1]
    · have h2 : ¬ (a < 0 ∨ b < 0) := by omega
      simp only [if_neg h2]
      by_cases hab : a ≤ b
      · have e : min a b = a := by omega
        have h3 : 0 ≤ a ∧ (b < 0 ∨ a ≤ b) := ⟨by omega, .inr hab⟩
        rw [if_pos h3]
        simp only [e, if_pos h3.1]
      · have e : min a b = b := by omega
        have h3 : ¬ (0 ≤ a ∧ (b < 0 ∨ a ≤ b)) := by omega
        rw [if_neg h3, e]
theorem rcheck_eq (j : Job) : rcheckF j = checkF j := by
  unfold rcheckF checkF clausesC
  rw [loose_eq]
  simp only [firstOf, yes, looseF]
  by_cases c1 : 4096 < (j.items.length : Int)
  · simp [c1]
  · by_cases c2 : 256 < (j.floats.length : Int)
    · simp [c1, c2]
    · by_cases c3 : 512 < (j.notes.length : Int)
      · simp [c1, c2, c3]
      · rcases geom_vals j.g with g | g | g
        · simp [c1, c2, c3, g]
          rfl
        · simp [c1, c2, c3, g]
        · simp [c1, c2, c3, g]

theorem rvalidCheck_ev (j : Job) (ok : okJob j) (n3 : (snapG j).floats.length ≤ 1000000) (H : Heap) : clD EE (.p (.fn 55)) [vJob j] H = some (.agg [vI (checkF j).1, vI (checkF j).2], none) := by
  rw [clD_body _ _ _ _ _ _ (noP _) fn55, ← rcheck_eq]
  unfold rcheckF
  have hg := rgeomCheck_ev j.g H
  have k0 := v_lp0 j ok H
  have k1 := v_lp1 j ok H
  have k2 := v_lp2 j ok H
  have ha := ranchors_ev j.items 5 j.notes.length H ok.n1
  have hb := ranchors_ev j.items 6 j.floats.length H ok.n1
  have hs := rsnap_ev j ok H
  have k3 := v_lp3 (snapG j) n3 H
  have et : idxF (fun f => decide ((snapG j).g.first < f.h)) 0 (snapG j).floats = tallF j := rfl
  rw [et] at k3
  generalize snapG j = s at *
  generalize idxF (fun x => !rightF x) 0 j.items = i1 at *
  generalize idxF (fun x => wrongF x.lines x.pens) 0 j.notes = i2 at *
  generalize idxF (fun x => !floatOK x) 0 j.floats = i3 at *
  generalize tallF j = t at *
  simp only [vE, vX, vR, v9E, v9X] at k0 k1 k2 k3
  simp only [vJob, cGeom, List.cons_append, List.nil_append] at hs
  by_cases c1 : 4096 < (j.items.length : Int)
  · simp [St.enter, enumFrom, subs, setSubs, c1]
  · by_cases c2 : 256 < (j.floats.length : Int)
    · simp [St.enter, enumFrom, subs, setSubs, c1, c2]
    · by_cases c3 : 512 < (j.notes.length : Int)
      · simp [St.enter, enumFrom, subs, setSubs, c1, c2, c3]
      · by_cases c4 : geomF j.g = 0
        · rw [c4] at hg
          by_cases d1 : 0 ≤ i1
          · rw [if_pos d1] at k0
            simp at k0
            simp [St.enter, enumFrom, subs, setSubs, c1, c2, c3, c4, hg, k0, d1]
          · rw [if_neg d1] at k0
            by_cases d2 : 0 ≤ i2
            · rw [if_pos d2] at k1
              simp at k0 k1
              simp [St.enter, enumFrom, subs, setSubs, c1, c2, c3, c4, hg, k0, k1, d1, d2]
            · rw [if_neg d2] at k1
              by_cases d3 : 0 ≤ i3
              · rw [if_pos d3] at k2
                simp at k0 k1 k2
                simp [St.enter, enumFrom, subs, setSubs, c1, c2, c3, c4, hg, k0, k1, k2, d1, d2, d3]
              · rw [if_neg d3] at k2
                simp at k0 k1 k2
                generalize refF 5 j.notes.length 0 0 j.items = a at *
                generalize refF 6 j.floats.length 0 0 j.items = b at *
                by_cases e1 : 0 ≤ a
                · by_cases e2 : b < 0
                  · simp [St.enter, enumFrom, subs, setSubs, c1, c2, c3, c4, hg, k0, k1, k2, d1, d2, d3, ha, hb, e1, e2]
                  · by_cases e3 : a ≤ b
                    · simp [St.enter, enumFrom, subs, setSubs, c1, c2, c3, c4, hg, k0, k1, k2, d1, d2, d3, ha, hb, e1, e2, e3]
                    · have e4 : 0 ≤ b := by omega
                      simp [St.enter, enumFrom, subs, setSubs, c1, c2, c3, c4, hg, k0, k1, k2, d1, d2, d3, ha, hb, e1, e2, e3, e4]
                · by_cases e4 : 0 ≤ b
                  · simp [St.enter, enumFrom, subs, setSubs, c1, c2, c3, c4, hg, k0, k1, k2, d1, d2, d3, ha, hb, e1, e4]
                  · by_cases d4 : 0 ≤ t
                    · rw [if_pos d4] at k3
                      simp at k3
                      simp [St.enter, enumFrom, subs, setSubs, c1, c2, c3, c4, hg, k0, k1, k2, d1, d2, d3, ha, hb, e1, e4, hs, k3, d4]
                    · rw [if_neg d4] at k3
                      simp at k3
                      simp [St.enter, enumFrom, subs, setSubs, c1, c2, c3, c4, hg, k0, k1, k2, d1, d2, d3, ha, hb, e1, e4, hs, k3, d4]
        · simp [St.enter, enumFrom, subs, setSubs, c1, c2, c3, c4, hg]
end Go.EnvOf

/- The law ValidAnchors, evaluated. -/
namespace Go.EnvOf
open Go Go.Eng
set_option maxRecDepth 100000

theorem awake15 : clD EE (.p (.fn 53)) [] [] = some (.p (.bool true), none) := by
  rw [clD_iff]
  exact ⟨100, by kernel_rfl⟩
def codes : List Int := [3, 4, 5, 6, 7, 8, 9, 10, 11, 12]
theorem clauses_ev : clD EE (.p (.fn 58)) [] [] = some (sli codes, none) := by
  rw [clD_iff]
  exact ⟨100, by kernel_rfl⟩
theorem codes_lp (u v : V) : evD EE lp12_0 ⟨[(0, u), (1, v), (5, sli codes), (6, .p (.int .i64 0))], [], [], 0, []⟩ =
    some (.exit 0, ⟨[(0, u), (1, v), (5, sli codes), (6, .p (.int .i64 10)), (15, .p (.bool false))], [], [], 0, []⟩) := by
  rw [evD_iff]
  exact ⟨100, by kernel_rfl⟩

theorem validAnchors_ev (l : List Item) (k : Int) : clD EE (.p (.fn 12)) [vItems l, .p (.int .i64 k)] [] = some (.p (.bool true), none) := by
  rw [clD_body _ _ _ _ _ _ (noP _) fn12]
  by_cases c : (200 : Int) < l.length
  · simp [St.enter, enumFrom, c, awake15]
  · have h1 := anch_ev l k [] (by omega)
    have h2 := ranch_ev l k [] (by omega)
    have h3 := codes_lp (vItems l) (.p (.int .i64 k))
    have h4 : codes.length = 10 := rfl
    simp [St.enter, enumFrom, c, clauses_ev, h1, h2, h3, h4, awake15]
end Go.EnvOf

/- The law ValidTells, evaluated. -/
namespace Go.EnvOf
open Go Go.Eng
set_option maxRecDepth 100000

theorem snap_floats {j : Job} (h : j.floats.length ≤ 1000000) : (snapG j).floats.length ≤ 1000000 := by
  unfold snapG; split
  · exact h
  · simpa using h
theorem validTells_ev (j : Job) (hj : jobI j) : clD EE (.p (.fn 9)) [vJob j] [] = some (.p (.bool true), none) := by
  rw [clD_body _ _ _ _ _ _ (noP _) fn9]
  have l1 := large_ev j []
  obtain ⟨J, hJ, q1, q2, q3, q4⟩ := job_cells j
  cases b1 : largeF j with
  | true =>
    rw [hJ, b1] at l1
    rw [hJ]
    simp [-List.all_eq_true, St.enter, enumFrom, q1, q2, q3, q4, l1, awake15]
  | false =>
    have ok := okJob_of hj (small_of b1)
    have n3 := snap_floats ok.n3
    have h1 := validCheck_ev j ok n3 []
    have h2 := rvalidCheck_ev j ok n3 []
    have h3 := validRight_ev j ok n3 []
    rw [hJ, b1] at l1
    rw [hJ] at h1 h2 h3 ⊢
    generalize (checkF j).1 = a at *
    generalize (checkF j).2 = b at *
    simp [-List.all_eq_true, St.enter, enumFrom, setSubs, q1, q2, q3, q4, l1, h1, h2, h3, awake15]
end Go.EnvOf

/- Fewer items: what remains of the anchors. -/
namespace Go.EnvOf
open Go Go.Eng

def cnt (k : Int) (l : List Item) : Nat := (l.filter fun x => decide (x.k = k)).length
theorem cnt_cons (k : Int) (x : Item) (r : List Item) : cnt k (x :: r) = (if x.k = k then 1 else 0) + cnt k r := by
  unfold cnt
  by_cases h : x.k = k
  · simp [h]; omega
  · simp [h]
theorem refF_all (k : Int) (most : Nat) : ∀ (l : List Item) (i n : Nat), n ≤ most → refF k most i n l < 0 → n + cnt k l = most
  | [], i, n, hn, h => by
    simp only [refF] at h
    by_cases c : n < most
    · rw [if_pos c] at h; omega
    · simp [cnt]; omega
  | x :: r, i, n, hn, h => by
    simp only [refF] at h
    rw [cnt_cons]
    by_cases hk : x.k = k
    · rw [if_pos hk] at h ⊢
      by_cases hx : x.n = n ∧ n < most
      · rw [if_pos hx] at h
        have := refF_all k most r (i + 1) (n + 1) (by omega) h
        omega
      · rw [if_neg hx] at h; omega
    · rw [if_neg hk] at h ⊢
      have := refF_all k most r (i + 1) n hn h
      omega
theorem refF_take (k : Int) (most : Nat) : ∀ (l : List Item) (i n m : Nat), refF k most i n l < 0 → refF k (n + cnt k (l.take m)) i n (l.take m) < 0
  | [], i, n, m, _ => by simp [refF, cnt]
  | x :: r, i, n, 0, _ => by simp [refF, cnt]
  | x :: r, i, n, m + 1, h => by
    simp only [refF] at h
    rw [List.take_succ_cons, cnt_cons]
    by_cases hk : x.k = k
    · rw [if_pos hk] at h
      by_cases hx : x.n = n ∧ n < most
      · rw [if_pos hx] at h
        have ih := refF_take k most r (i + 1) (n + 1) m h
        have h2 : x.n = n ∧ n < n + ((if x.k = k then 1 else 0) + cnt k (r.take m)) := ⟨hx.1, by rw [if_pos hk]; omega⟩
        simp only [refF]
        rw [if_pos hk, if_pos h2]
        rw [if_pos hk, show n + (1 + cnt k (r.take m)) = n + 1 + cnt k (r.take m) by omega]
        exact ih
      · rw [if_neg hx] at h; omega
    · rw [if_neg hk] at h
      have ih := refF_take k most r (i + 1) n m h
      simp only [refF]
      rw [if_neg hk, if_neg hk, Nat.zero_add]
      exact ih
theorem cnt_take_le (k : Int) (l : List Item) (m : Nat) : cnt k (l.take m) ≤ cnt k l := by
  unfold cnt
  conv => rhs; rw [← List.take_append_drop m l, List.filter_append, List.length_append]
  omega
theorem idxF_neg {α : Type} {p : α → Bool} {l : List α} (h : idxF p 0 l < 0) : ∀ x ∈ l, p x = false := by
  have := idxF_any p 0 l
  have h2 : l.any p = false := by rw [← this]; simp; omega
  intro x hx
  have := List.any_eq_false.1 h2 x hx
  simpa using this
theorem idxF_of {α : Type} {p : α → Bool} {l : List α} (h : ∀ x ∈ l, p x = false) : idxF p 0 l < 0 := by
  have := idxF_any p 0 l
  have h2 : l.any p = false := by rw [List.any_eq_false]; intro x hx; rw [h x hx]; simp
  rw [h2] at this
  simp at this; exact this

/-- What it means that a job may be. -/
structure Right (j : Job) : Prop where
  n1 : (j.items.length : Int) ≤ 4096
  n2 : (j.floats.length : Int) ≤ 256
  n3 : (j.notes.length : Int) ≤ 512
  g : geomF j.g = 0
  items : ∀ x ∈ j.items, rightF x = true
  notes : ∀ x ∈ j.notes, wrongF x.lines x.pens = false
  floats : ∀ x ∈ j.floats, floatOK x = true
  r5 : refF 5 j.notes.length 0 0 j.items < 0
  r6 : refF 6 j.floats.length 0 0 j.items < 0
  tall : ∀ f ∈ (snapG j).floats, ¬ (snapG j).g.first < f.h
theorem right_iff (j : Job) : (checkF j).1 = 0 ↔ Right j := by
  rw [← rcheck_eq]
  constructor
  · intro h
    unfold rcheckF at h
    split at h
    · cases h
    split at h
    · cases h
    split at h
    · cases h
    split at h
    · rename_i hg; exact absurd h hg
    split at h
    · cases h
    split at h
    · cases h
    split at h
    · cases h
    split at h
    · cases h
    split at h
    · cases h
    split at h
    · cases h
    rename_i a1 a2 a3 a4 a5 a6 a7 a8 a9 a10
    refine ⟨by omega, by omega, by omega, by omega, fun x hx => ?_, fun x hx => ?_, fun x hx => ?_, by omega, by omega, fun f hf => ?_⟩
    · simpa using idxF_neg (p := fun x => !rightF x) (by omega) x hx
    · exact idxF_neg (p := fun x : Note => wrongF x.lines x.pens) (by omega) x hx
    · simpa using idxF_neg (p := fun x => !floatOK x) (by omega) x hx
    · have : tallF j < 0 := by omega
      simpa using idxF_neg this f hf
  · intro r
    have i1 := idxF_of (p := fun x => !rightF x) (l := j.items) fun x hx => by rw [r.items x hx]; rfl
    have i2 := idxF_of (p := fun x : Note => wrongF x.lines x.pens) (l := j.notes) r.notes
    have i3 := idxF_of (p := fun x => !floatOK x) (l := j.floats) fun x hx => by rw [r.floats x hx]; rfl
    have i4 : tallF j < 0 := idxF_of fun f hf => by simpa using r.tall f hf
    have a1 := r.n1
    have a2 := r.n2
    have a3 := r.n3
    have a4 := r.g
    have a5 := r.r5
    have a6 := r.r6
    unfold rcheckF
    rw [if_neg (by omega), if_neg (by omega), if_neg (by omega), if_neg (by omega), if_neg (by omega), if_neg (by omega), if_neg (by omega), if_neg (by omega), if_neg (by omega), if_neg (by omega)]
/-- A job with fewer items. -/
def lessJ (j : Job) (n : Nat) : Job := ⟨j.g, j.items.take n, j.notes.take (cnt 5 (j.items.take n)), j.floats.take (cnt 6 (j.items.take n))⟩
theorem less_right {j : Job} (r : Right j) (n : Nat) : Right (lessJ j n) := by
  have c5 := refF_all 5 j.notes.length j.items 0 0 (Nat.zero_le _) r.r5
  have c6 := refF_all 6 j.floats.length j.items 0 0 (Nat.zero_le _) r.r6
  have t5 := cnt_take_le 5 j.items n
  have t6 := cnt_take_le 6 j.items n
  have l5 : (lessJ j n).notes.length = cnt 5 (j.items.take n) := by simp [lessJ]; omega
  have l6 : (lessJ j n).floats.length = cnt 6 (j.items.take n) := by simp [lessJ]; omega
  have k5 := refF_take 5 _ j.items 0 0 n r.r5
  have k6 := refF_take 6 _ j.items 0 0 n r.r6
  rw [Nat.zero_add] at k5 k6
  have h1 := r.n1
  have h2 := r.n2
  have h3 := r.n3
  refine ⟨?_, by rw [l6]; omega, by rw [l5]; omega, r.g, fun x hx => r.items x (List.mem_of_mem_take hx), fun x hx => r.notes x (List.mem_of_mem_take hx), fun x hx => r.floats x (List.mem_of_mem_take hx), ?_, ?_, ?_⟩
  · have : (lessJ j n).items.length ≤ j.items.length := by simp [lessJ]; omega
    omega
  · rw [l5]; exact k5
  · rw [l6]; exact k6
  · have ht := r.tall
    unfold snapG at ht ⊢
    by_cases c : j.g.grid < 1
    · have c' : (lessJ j n).g.grid < 1 := c
      rw [if_pos c] at ht
      rw [if_pos c']
      exact fun f hf => ht f (List.mem_of_mem_take hf)
    · have c' : ¬ (lessJ j n).g.grid < 1 := c
      rw [if_neg c] at ht
      rw [if_neg c']
      intro f hf
      obtain ⟨y, hy, rfl⟩ := List.mem_map.1 hf
      exact ht _ (List.mem_map.2 ⟨y, List.mem_of_mem_take hy, rfl⟩)
end Go.EnvOf

/- The law ValidLess, evaluated. -/
namespace Go.EnvOf
open Go Go.Eng
set_option maxRecDepth 100000

def cutV {α : Type} (enc : α → List PV) (l : List α) (p : Nat) : V := if p = 0 then .nils else .p (.sl ((l.take p).map enc))
section
variable {α : Type} (enc : α → List PV) (l : List α) (p : Nat)
theorem len_cut (h : p ≤ l.length) : lenV (cutV enc l p) = some p := by
  unfold cutV; split
  · rename_i h0; subst h0; rfl
  · simp; omega
@[simp] theorem oneB_cut : (cutV enc l p).oneB = true := by unfold cutV; split <;> rfl
@[simp] theorem cells_cut : (cutV enc l p).cells = [cutV enc l p] := by unfold cutV; split <;> rfl
@[simp] theorem notL_cut : (cutV enc l p).notL = true := by unfold cutV; split <;> rfl
@[simp] theorem normC_cut : normC (cutV enc l p) = .p (.sl ((l.take p).map enc)) := by
  unfold cutV; split
  · rename_i h0; subst h0; rfl
  · rfl
theorem slc_cut (s : Nat) (hs : ∀ x, (enc x).length = s) (H : Heap) (k : IntKind) (h : p ≤ l.length) (hp : p ≠ 0) : slcI H s (.p (.sl (l.map enc))) none (some (.p (.int k (p : Int)))) = some (cutV enc l p) := by
  have hh : headOK s (l.map enc) = true := by
    cases l with
    | nil => rfl
    | cons x r => simp [headOK, hs]
  have h2 : (p : Int) ≤ l.length := by omega
  simp [slcI, slcV, hh, h2, cutV, hp]
theorem slc_cut0 (s : Nat) (hs : ∀ x, (enc x).length = s) (H : Heap) (k : IntKind) (h : p ≤ l.length) : slcI H s (.p (.sl (l.map enc))) none (some (.p (.int k (p : Int)))) = some (.p (.sl ((l.take p).map enc))) := by
  have hh : headOK s (l.map enc) = true := by
    cases l with
    | nil => rfl
    | cons x r => simp [headOK, hs]
  have h2 : (p : Int) ≤ l.length := by omega
  simp [slcI, slcV, hh, h2]
end
theorem cnt_snoc (k : Int) (l : List Item) (x : Item) : cnt k (l ++ [x]) = cnt k l + (if x.k = k then 1 else 0) := by
  unfold cnt
  by_cases h : x.k = k <;> simp [h]

def lsE (j : Job) (n i : Nat) : St := ⟨[(1, vI n), (2, .lptr 2 0), (5, .lptr 5 0), (6, vI i)], [(2, cGeom j.g ++ [vItems j.items, vNotes j.notes, vFloats j.floats]), (5, cGeom j.g ++ [vItems (j.items.take n), cutV encNote j.notes (cnt 5 (j.items.take i)), cutV encFloat j.floats (cnt 6 (j.items.take i))])], [], 0, []⟩
def lsX (j : Job) (n : Nat) : Ex × St := (.exit 0, ⟨[(1, vI n), (2, .lptr 2 0), (5, .lptr 5 0), (6, vI n), (35, vB false)], [(2, cGeom j.g ++ [vItems j.items, vNotes j.notes, vFloats j.floats]), (5, cGeom j.g ++ [vItems (j.items.take n), cutV encNote j.notes (cnt 5 (j.items.take n)), cutV encFloat j.floats (cnt 6 (j.items.take n))])], [], 0, []⟩)
theorem less_lp (j : Job) (r : Right j) (n : Nat) (hn : n ≤ j.items.length) : evD EE lp11_0 (lsE j n 0) = some (lsX j n) := by
  unfold lp11_0
  have c5 := refF_all 5 j.notes.length j.items 0 0 (Nat.zero_le _) r.r5
  have c6 := refF_all 6 j.floats.length j.items 0 0 (Nat.zero_le _) r.r6
  have hl : (j.items.take n).length = n := by rw [List.length_take]; omega
  refine evD_fold (j.items.take n) (fun (_ : Unit) i => lsE j n i) (fun _ _ => True) (fun _ _ _ => ()) (fun _ => lsX j n) (fun _ _ => rfl) ?_ ?_ () 0 trivial (Nat.zero_le _)
  · rintro _ i x - hx
    refine ⟨?_, trivial⟩
    have hlt := (List.getElem?_eq_some_iff.1 hx).1
    rw [hl] at hlt
    have hx' : j.items[i]? = some x := by rw [List.getElem?_take] at hx; split at hx <;> simp_all
    have h1 := r.n1
    have w1 : IntKind.i64.wrap ((i : Int) + 1) = ((i + 1 : Nat) : Int) := w64 (by omega) (by omega)
    have hix := fun H k => ixs_nat H encItem (k := k) (s := 7) hx' rfl
    have hr := rright_ev x []
    rw [r.items x (List.mem_of_getElem? hx')] at hr
    have e : j.items.take (i + 1) = j.items.take i ++ [x] := by rw [List.take_add_one, hx']; rfl
    have t5 := cnt_take_le 5 j.items (i + 1)
    have t6 := cnt_take_le 6 j.items (i + 1)
    have s5 := cnt_snoc 5 (j.items.take i) x
    have s6 := cnt_snoc 6 (j.items.take i) x
    rw [← e] at s5 s6
    have h2 := r.n2
    have h3 := r.n3
    have l5 := len_cut encNote j.notes (cnt 5 (j.items.take i)) (by omega)
    have l6 := len_cut encFloat j.floats (cnt 6 (j.items.take i)) (by omega)
    simp only [encItem] at hix
    simp only [lsE]
    by_cases k5 : x.k = 5
    · have k6 : ¬ x.k = 6 := by omega
      rw [if_pos k5] at s5
      rw [if_neg k6] at s6
      rw [Nat.add_zero] at s6
      rw [s5, s6]
      generalize cnt 5 (j.items.take i) = p at *
      generalize cnt 6 (j.items.take i) = q at *
      have hp : (p : Int) < j.notes.length := by omega
      have w2 : IntKind.i64.wrap ((p : Int) + 1) = ((p + 1 : Nat) : Int) := w64 (by omega) (by omega)
      have sc := fun H k => slc_cut encNote j.notes (p + 1) 2 (fun _ => rfl) H k (by omega) (by omega)
      simp only [Int.natCast_add, Int.natCast_one] at sc w2
      simp only [vItem, k5] at hr
      simp [hlt, hix, subs, setSubs, hr, k5, l5, hp, w1, w2, sc]
    · by_cases k6 : x.k = 6
      · rw [if_neg k5] at s5
        rw [if_pos k6] at s6
        rw [Nat.add_zero] at s5
        rw [s5, s6]
        generalize cnt 5 (j.items.take i) = p at *
        generalize cnt 6 (j.items.take i) = q at *
        have hp : (q : Int) < j.floats.length := by omega
        have w2 : IntKind.i64.wrap ((q : Int) + 1) = ((q + 1 : Nat) : Int) := w64 (by omega) (by omega)
        have sc := fun H k => slc_cut encFloat j.floats (q + 1) 3 (fun _ => rfl) H k (by omega) (by omega)
        simp only [Int.natCast_add, Int.natCast_one] at sc w2
        simp only [vItem, k6] at hr
        simp [hlt, hix, subs, setSubs, hr, k6, l6, hp, w1, w2, sc]
      · rw [if_neg k5] at s5
        rw [if_neg k6] at s6
        rw [Nat.add_zero] at s5 s6
        rw [s5, s6]
        simp [hlt, hix, subs, setSubs, hr, k5, k6, w1]
  · rintro _ -
    rw [hl]
    simp [lsE, lsX]

theorem less_ok {j : Job} (h : okJob j) (n : Nat) : okJob (lessJ j n) := by
  refine ⟨h.g, fun x hx => h.items x (List.mem_of_mem_take hx), fun x hx => h.notes x (List.mem_of_mem_take hx), fun x hx => h.floats x (List.mem_of_mem_take hx), ?_, ?_, ?_⟩
  · have := h.n1; simp [lessJ]; omega
  · have := h.n2; simp [lessJ]; omega
  · have := h.n3; simp [lessJ]; omega
theorem less_cells (j : Job) : ∃ J, vJob j = .agg J ∧ J.length = 22 ∧ subs J 0 22 = some J ∧ ¬ J = [] ∧ J.all V.oneB = true ∧ J.map normC = J ∧ subs J 19 1 = some [vItems j.items] ∧ subs J 0 19 = some (cGeom j.g) ∧ (cGeom j.g ++ [vItems j.items, vNotes j.notes, vFloats j.floats]) = J := ⟨_, rfl, rfl, rfl, by simp, rfl, rfl, rfl, rfl, rfl⟩
theorem validLess_ev (j : Job) (hj : jobI j) (n : Int) : clD EE (.p (.fn 11)) [vJob j, vI n] [] = some (.p (.bool true), none) := by
  rw [clD_body _ _ _ _ _ _ (noP _) fn11]
  have l1 := large_ev j []
  obtain ⟨J, hJ, q1, q2, q3, q4, q5, q6, q7, q8⟩ := less_cells j
  cases b1 : largeF j with
  | true =>
    rw [hJ, b1] at l1
    rw [hJ]
    simp [-List.all_eq_true, St.enter, enumFrom, q1, q2, q3, q4, q5, l1, awake15]
  | false =>
    have ok := okJob_of hj (small_of b1)
    have hr := validRight_ev j ok (snap_floats ok.n3) []
    rw [hJ, b1] at l1
    rw [hJ] at hr ⊢
    by_cases c1 : n < 0
    · simp [-List.all_eq_true, St.enter, enumFrom, q1, q2, q3, q4, q5, l1, c1, awake15]
    · by_cases c2 : (j.items.length : Int) < n
      · simp [-List.all_eq_true, St.enter, enumFrom, q1, q2, q3, q4, q5, q6, l1, c1, c2, awake15]
      · by_cases c3 : (checkF j).1 = 0
        · obtain ⟨m, rfl⟩ := Int.eq_ofNat_of_zero_le (show 0 ≤ n by omega)
          have r := (right_iff j).1 c3
          have key := less_lp j r m (by omega)
          have ok2 := less_ok ok m
          have h2 := validRight_ev (lessJ j m) ok2 (snap_floats ok2.n3) []
          have h3 : (checkF (lessJ j m)).1 = 0 := (right_iff _).2 (less_right r m)
          have sc := fun H k => slc_cut0 encItem j.items m 7 (fun _ => rfl) H k (by omega)
          simp only [c3, h3, decide_true] at hr h2
          simp only [lsE, lsX, q8] at key
          simp only [lessJ, vJob, cGeom, List.cons_append, List.nil_append] at h2
          have e0 : cutV encNote j.notes (cnt 5 (j.items.take 0)) = .nils := rfl
          have e1 : cutV encFloat j.floats (cnt 6 (j.items.take 0)) = .nils := rfl
          simp only [e0, e1] at key
          have e22 : ∀ xs : List V, xs.length = 22 → subs xs 0 22 = some xs := fun xs hx => by simp [subs, hx, List.take_of_length_le]
          simp only [vItems, vNotes, vFloats, List.map_take] at h2 key
          simp at key
          simp [-List.all_eq_true, St.enter, enumFrom, setSubs, e22, q1, q3, q4, q5, q6, q7, l1, c1, c2, hr, sc, key, h2, awake15]
        · have hr' : decide ((checkF j).1 = 0) = false := by simpa using c3
          rw [hr'] at hr
          simp [-List.all_eq_true, St.enter, enumFrom, q1, q2, q3, q4, q5, q6, l1, c1, c2, hr, awake15]
end Go.EnvOf
