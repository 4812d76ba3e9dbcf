/- Notes: how high lines are. -/
import Derived.Test.YtfjgcfloallohaaTypes
import Derived.KernelRfl
namespace Go.EnvOf
open Go Go.Eng

def note (lines pens : List Int) : V := .agg [sli lines, sli pens]
theorem ixs_sli (H : Heap) (L : List Int) (k : IntKind) (i : Int) (h0 : 0 ≤ i) (h1 : i < L.length) : ixsI H (.p (.sl (L.map encI))) (.p (.int k i)) 1 = some (.eptr [.p (.int .i64 (rd L i))] 0) :=
  ixs_map H encI L k i 1 (fun _ => rfl) h0 h1

def far : Int := 1125899906842624
def hstep (s x : Int) : Int := min (s + min (max x 0) far) far
def hsum (s : Int) (l : List Int) : Int := l.foldl hstep s
theorem hstep_lo {s x : Int} (h : 0 ≤ s) : 0 ≤ hstep s x := by unfold hstep far; omega
theorem hstep_hi {s x : Int} : hstep s x ≤ far := by unfold hstep; omega

theorem drop_cons (L : List Int) (i : Int) (t : Nat) (h0 : 0 ≤ i) (h1 : i.toNat < t) (h2 : t ≤ L.length) : (L.take t).drop i.toNat = rd L i :: (L.take t).drop (i + 1).toNat := by
  have e : (i + 1).toNat = i.toNat + 1 := by omega
  rw [e, List.drop_eq_getElem_cons (by simp; omega)]
  congr 1
  unfold rd
  have : i.toNat < L.length := by omega
  simp [List.getD_eq_getElem?_getD, this]

theorem high_lp (L M : List Int) (H : Heap) (B : Nat) (D : List Nat) (hL : L.length ≤ 9223372036854775806) : ∀ (n : Nat) (i s to_ : Int), (to_ - i).toNat = n → 0 ≤ i → to_ ≤ L.length → 0 ≤ s → s ≤ far →
    evD EE lp29_0 ⟨[(2, .p (.int .i64 to_)), (3, .lptr 3 0), (7, .p (.int .i64 s)), (8, .p (.int .i64 i))], [(3, [sli L, sli M])], H, B, D⟩ =
      some (.exit 0, ⟨[(2, .p (.int .i64 to_)), (3, .lptr 3 0), (7, .p (.int .i64 (hsum s ((L.take to_.toNat).drop i.toNat)))), (8, .p (.int .i64 (max i to_))), (19, .p (.bool false))], [(3, [sli L, sli M])], H, B, D⟩) := by
  intro n
  induction n with
  | zero =>
    intro i s to_ hn h0 h1 h2 h3
    unfold lp29_0
    rw [evD_loop]
    have hlt : ¬ i < to_ := by omega
    have hd : (L.take to_.toNat).drop i.toNat = [] := by rw [List.drop_eq_nil_iff]; simp; omega
    have hm : max i to_ = i := by omega
    simp [sli, subs, hlt, hd, hm, hsum]
  | succ n ih =>
    intro i s to_ hn h0 h1 h2 h3
    have hlt : i < to_ := by omega
    have hi : i < L.length := by omega
    have key := ih (i + 1) (hstep s (rd L i)) to_ (by omega) (by omega) h1 (hstep_lo h2) hstep_hi
    have hd := drop_cons L i to_.toNat h0 (by omega) (by omega)
    have hm : max (i + 1) to_ = max i to_ := by omega
    rw [hd]
    rw [hm] at key
    unfold lp29_0
    rw [evD_loop]
    have w1 : IntKind.i64.wrap (i + 1) = i + 1 := wrap64_in _ (by omega) (by omega)
    have w2 : IntKind.i64.wrap (s + min (max (rd L i) 0) 1125899906842624) = s + min (max (rd L i) 0) 1125899906842624 := wrap64_in _ (by omega) (by unfold far at h3; omega)
    simp [sli, subs, hlt, ixs_sli, h0, hi, w1, w2]
    exact key

/-- How high lines are, whoever is asked. -/
def highF (L : List Int) (frm to_ : Int) : Int := hsum 0 ((L.take (min to_ L.length).toNat).drop (max frm 0).toNat)

theorem high_ev (L M : List Int) (frm to_ : Int) (H : Heap) (hL : L.length ≤ 9223372036854775806) :
    clD EE (.p (.fn 29)) [note L M, .p (.int .i64 frm), .p (.int .i64 to_)] H = some (.p (.int .i64 (highF L frm to_)), none) := by
  rw [clD_body _ _ _ _ _ _ (noP _) fn29]
  have key := high_lp L M H H.length [] hL _ (max frm 0) 0 (min to_ L.length) rfl (by omega) (by omega) (by omega) (by unfold far; omega)
  have e : (max frm 0) = max frm 0 := rfl
  simp [note, St.enter, enumFrom, subs, sli] at key ⊢
  rw [key]
  simp [highF]

theorem take_succ (L : List Int) (i : Int) (h0 : 0 ≤ i) (h1 : i < L.length) : L.take (i + 1).toNat = L.take i.toNat ++ [rd L i] := by
  have e : (i + 1).toNat = i.toNat + 1 := by omega
  have hlt : i.toNat < L.length := by omega
  rw [e, List.take_add_one]
  congr 1
  rw [rd_get L i h0 h1]; rfl

/-- The lines of so many that lie between. -/
def part (L : List Int) (frm to_ i : Int) : List Int := (L.take (min to_ i).toNat).drop (max frm 0).toNat
theorem part_in (L : List Int) (frm to_ i : Int) (h0 : 0 ≤ i) (h1 : i < L.length) (h2 : frm ≤ i) (h3 : i < to_) : part L frm to_ (i + 1) = part L frm to_ i ++ [rd L i] := by
  unfold part
  have e1 : (min to_ (i + 1)) = i + 1 := by omega
  have e2 : (min to_ i) = i := by omega
  rw [e1, e2, take_succ L i h0 h1, List.drop_append_of_le_length (by simp; omega)]
theorem part_out (L : List Int) (frm to_ i : Int) (h0 : 0 ≤ i) (h2 : ¬ (frm ≤ i ∧ i < to_)) : part L frm to_ (i + 1) = part L frm to_ i := by
  unfold part
  by_cases h : i < to_
  · have h3 : i < frm := by omega
    have e1 : (L.take (min to_ (i + 1)).toNat).drop (max frm 0).toNat = [] := by rw [List.drop_eq_nil_iff]; simp; omega
    have e2 : (L.take (min to_ i).toNat).drop (max frm 0).toNat = [] := by rw [List.drop_eq_nil_iff]; simp; omega
    rw [e1, e2]
  · have e1 : (min to_ (i + 1)).toNat = (min to_ i).toNat := by omega
    rw [e1]
theorem hsum_snoc (s : Int) (l : List Int) (x : Int) : hsum s (l ++ [x]) = hstep (hsum s l) x := by simp [hsum]
theorem hsum_lo : ∀ (l : List Int) {s : Int}, 0 ≤ s → 0 ≤ hsum s l
  | [], s, h => h
  | x :: r, s, h => hsum_lo r (hstep_lo h)
theorem hsum_hi : ∀ (l : List Int) {s : Int}, s ≤ far → hsum s l ≤ far
  | [], s, h => h
  | x :: r, s, h => hsum_hi r hstep_hi

theorem rhigh_lp (L M : List Int) (frm to_ : Int) (H : Heap) (B : Nat) (D : List Nat) (hL : L.length ≤ 9223372036854775806) : ∀ (n : Nat) (i : Int), ((L.length : Int) - i).toNat = n → 0 ≤ i → i ≤ L.length →
    evD EE lp30_0 ⟨[(1, .p (.int .i64 frm)), (2, .p (.int .i64 to_)), (3, .lptr 3 0), (7, .p (.int .i64 (hsum 0 (part L frm to_ i)))), (8, .p (.int .i64 i))], [(3, [sli L, sli M])], H, B, D⟩ =
      some (.exit 0, ⟨[(1, .p (.int .i64 frm)), (2, .p (.int .i64 to_)), (3, .lptr 3 0), (7, .p (.int .i64 (hsum 0 (part L frm to_ L.length)))), (8, .p (.int .i64 L.length)), (13, .p (.bool false))], [(3, [sli L, sli M])], H, B, D⟩) := by
  intro n
  induction n with
  | zero =>
    intro i hn h0 h1
    have hi : i = L.length := by omega
    subst hi
    unfold lp30_0
    rw [evD_loop]
    simp [sli, subs]
  | succ n ih =>
    intro i hn h0 h1
    have hi : i < L.length := by omega
    have key := ih (i + 1) (by omega) (by omega) (by omega)
    have w1 : IntKind.i64.wrap (i + 1) = i + 1 := wrap64_in _ (by omega) (by omega)
    have hlo := hsum_lo (part L frm to_ i) (Int.le_refl 0)
    have hhi := hsum_hi (part L frm to_ i) (show (0 : Int) ≤ far by unfold far; omega)
    have w2 : IntKind.i64.wrap (hsum 0 (part L frm to_ i) + max 0 (min (rd L i) 1125899906842624)) = hsum 0 (part L frm to_ i) + max 0 (min (rd L i) 1125899906842624) := wrap64_in _ (by omega) (by unfold far at hhi; omega)
    have e1 : min (hsum 0 (part L frm to_ i) + max 0 (min (rd L i) 1125899906842624)) 1125899906842624 = hstep (hsum 0 (part L frm to_ i)) (rd L i) := by unfold hstep far; omega
    unfold lp30_0
    rw [evD_loop]
    by_cases c1 : frm ≤ i
    · by_cases c2 : i < to_
      · rw [part_in L frm to_ i h0 hi c1 c2, hsum_snoc] at key
        simp [sli, subs, hi, c1, c2, ixs_sli, h0, w1, w2, e1]
        exact key
      · rw [part_out L frm to_ i h0 (by omega)] at key
        simp [sli, subs, hi, c1, c2, w1]
        exact key
    · rw [part_out L frm to_ i h0 (by omega)] at key
      simp [sli, subs, hi, c1, w1]
      exact key

theorem rhigh_ev (L M : List Int) (frm to_ : Int) (H : Heap) (hL : L.length ≤ 9223372036854775806) :
    clD EE (.p (.fn 30)) [note L M, .p (.int .i64 frm), .p (.int .i64 to_)] H = some (.p (.int .i64 (highF L frm to_)), none) := by
  rw [clD_body _ _ _ _ _ _ (noP _) fn30]
  have key := rhigh_lp L M frm to_ H H.length [] hL _ 0 rfl (by omega) (by omega)
  have e0 : hsum 0 (part L frm to_ 0) = 0 := by
    have : part L frm to_ 0 = [] := by unfold part; rw [List.drop_eq_nil_iff]; simp; omega
    rw [this]; rfl
  rw [e0] at key
  simp [note, St.enter, enumFrom, subs, sli] at key ⊢
  rw [key]
  simp [highF, part]

theorem awake17 : clD EE (.p (.fn 17)) [] [] = some (.p (.bool true), none) := by
  rw [clD_iff]
  exact ⟨60, by kernel_rfl⟩

theorem noteHigh_ev (L M : List Int) (frm to_ : Int) : clD EE (.p (.fn 4)) [note L M, .p (.int .i64 frm), .p (.int .i64 to_)] [] = some (.p (.bool true), none) := by
  rw [clD_body _ _ _ _ _ _ (noP _) fn4]
  by_cases c : (100 : Int) < L.length
  · simp [note, St.enter, enumFrom, subs, sli, c, awake17]
  · have h1 := high_ev L M frm to_ [] (by omega)
    have h2 := rhigh_ev L M frm to_ [] (by omega)
    simp [note, St.enter, enumFrom, subs, sli] at h1 h2 ⊢
    simp [c, h1, h2, awake17, subs]
end Go.EnvOf
