/- The program's functions and the document's, evaluated. -/
import Derived.KernelRfl
import Derived.Test.YtfjgcfloallohaaGreatDoorText2
import Derived.Test.YtfjgcfloallohaaGreatDoorText3
/- Notes: how high lines are. -/
namespace Go.EnvOf
open Go Go.Eng

def note (lines pens : List Int) : V := .agg [sli lines, sli pens]
theorem ixs_sli (H : Heap) (L : List Int) (k : IntKind) (i : Int) (h0 : 0 ≤ i) (h1 : i < L.length) : ixsI H (.p (.sl (L.map encI))) (.p (.int k i)) 1 = some (.eptr [.p (.int .i64 (rd L i))] 0) :=
  ixs_map H encI L k i 1 (fun _ => rfl) h0 h1

def far : Int := 1125899906842624
def hstep (s x : Int) : Int := min (s + min (max x 0) far) far
def hsum (s : Int) (l : List Int) : Int := l.foldl hstep s
theorem hstep_lo {s x : Int} (h : 0 ≤ s) : 0 ≤ hstep s x := by unfold hstep far; omega
theorem hstep_hi {s x : Int} : hstep s x ≤ far := by unfold hstep; omega

theorem drop_cons (L : List Int) (i : Int) (t : Nat) (h0 : 0 ≤ i) (h1 : i.toNat < t) (h2 : t ≤ L.length) : (L.take t).drop i.toNat = rd L i :: (L.take t).drop (i + 1).toNat := by
  have e : (i + 1).toNat = i.toNat + 1 := by omega
  rw [e, List.drop_eq_getElem_cons (by simp; omega)]
  congr 1
  unfold rd
  have : i.toNat < L.length := by omega
  simp [List.getD_eq_getElem?_getD, this]

/-- How high lines are, whoever is asked. -/
def highF (L : List Int) (frm to_ : Int) : Int := hsum 0 ((L.take (min to_ L.length).toNat).drop (max frm 0).toNat)

theorem take_succ (L : List Int) (i : Int) (h0 : 0 ≤ i) (h1 : i < L.length) : L.take (i + 1).toNat = L.take i.toNat ++ [rd L i] := by
  have e : (i + 1).toNat = i.toNat + 1 := by omega
  have hlt : i.toNat < L.length := by omega
  rw [e, List.take_add_one]
  congr 1
  rw [rd_get L i h0 h1]; rfl

/-- The lines of so many that lie between. -/
def part (L : List Int) (frm to_ i : Int) : List Int := (L.take (min to_ i).toNat).drop (max frm 0).toNat
theorem part_in (L : List Int) (frm to_ i : Int) (h0 : 0 ≤ i) (h1 : i < L.length) (h2 : frm ≤ i) (h3 : i < to_) : part L frm to_ (i + 1) = part L frm to_ i ++ [rd L i] := by
  unfold part
  have e1 : (min to_ (i + 1)) = i + 1 := by omega
  have e2 : (min to_ i) = i := by omega
  rw [e1, e2, take_succ L i h0 h1, List.drop_append_of_le_length (by simp; omega)]
theorem part_out (L : List Int) (frm to_ i : Int) (h0 : 0 ≤ i) (h2 : ¬ (frm ≤ i ∧ i < to_)) : part L frm to_ (i + 1) = part L frm to_ i := by
  unfold part
  by_cases h : i < to_
  · have h3 : i < frm := by omega
    have e1 : (L.take (min to_ (i + 1)).toNat).drop (max frm 0).toNat = [] := by rw [List.drop_eq_nil_iff]; simp; omega
    have e2 : (L.take (min to_ i).toNat).drop (max frm 0).toNat = [] := by rw [List.drop_eq_nil_iff]; simp; omega
    rw [e1, e2]
  · have e1 : (min to_ (i + 1)).toNat = (min to_ i).toNat := by omega
    rw [e1]
theorem hsum_snoc (s : Int) (l : List Int) (x : Int) : hsum s (l ++ [x]) = hstep (hsum s l) x := by simp [hsum]
theorem hsum_lo : ∀ (l : List Int) {s : Int}, 0 ≤ s → 0 ≤ hsum s l
  | [], s, h => h
  | x :: r, s, h => hsum_lo r (hstep_lo h)
theorem hsum_hi : ∀ (l : List Int) {s : Int}, s ≤ far → hsum s l ≤ far
  | [], s, h => h
  | x :: r, s, h => hsum_hi r hstep_hi

end Go.EnvOf

/- Notes: where they may split, and end. -/
namespace Go.EnvOf
open Go Go.Eng

/-- May it be split there? -/
def splitF (L M : List Int) (at_ : Int) : Bool := decide (0 < at_ ∧ at_ < L.length ∧ at_ ≤ M.length ∧ rd M (at_ - 1) < 10000)
def mayF (L M : List Int) (at_ : Int) : Bool := decide (at_ = L.length) || splitF L M at_
def penF (L M : List Int) (at_ : Int) : Int := if splitF L M at_ = true then rd M (at_ - 1) else 0

theorem splitF_in {L M : List Int} {at_ : Int} (h : splitF L M at_ = true) : 0 < at_ ∧ at_ < L.length ∧ at_ ≤ M.length := by
  unfold splitF at h; simp at h; omega

end Go.EnvOf

/- Notes: all places where they may end. -/
namespace Go.EnvOf
open Go Go.Eng

/-- Of so many numbers from one on those that are wanted. -/
def sel (p : Int → Bool) (a : Int) : Nat → List Int
  | 0 => []
  | n + 1 => (if p a = true then [a] else []) ++ sel p (a + 1) n

theorem sel_len (p : Int → Bool) : ∀ (n : Nat) (a : Int), (sel p a n).length ≤ n
  | 0, _ => Nat.le_refl _
  | n + 1, a => by
    have := sel_len p n (a + 1)
    simp only [sel, List.length_append]
    split <;> simp <;> omega

theorem map_snoc {α β : Type} (f : α → β) (l : List α) (x : α) : l.map f ++ [f x] = (l ++ [x]).map f := by simp

end Go.EnvOf

/- Notes: where they may end, by the document; the same numbers. -/
namespace Go.EnvOf
open Go Go.Eng

def rstopF (L M : List Int) (frm i : Int) : Bool := decide (frm < i) && mayF L M i

/-- What does not count comes to nothing. -/
theorem sel_none {p : Int → Bool} : ∀ (n : Nat) (a : Int), (∀ i, a ≤ i → i < a + n → p i = false) → sel p a n = []
  | 0, _, _ => rfl
  | n + 1, a, h => by
    simp only [sel, h a (by omega) (by omega), Bool.false_eq_true, if_false, List.nil_append]
    exact sel_none n (a + 1) fun i h1 h2 => h i (by omega) (by omega)
theorem sel_congr {p q : Int → Bool} : ∀ (n : Nat) (a : Int), (∀ i, a ≤ i → i < a + n → p i = q i) → sel p a n = sel q a n
  | 0, _, _ => rfl
  | n + 1, a, h => by
    simp only [sel, h a (by omega) (by omega)]
    rw [sel_congr n (a + 1) fun i h1 h2 => h i (by omega) (by omega)]
theorem sel_add {p : Int → Bool} : ∀ (m n : Nat) (a : Int), sel p a (m + n) = sel p a m ++ sel p (a + m) n
  | 0, n, a => by simp [sel]
  | m + 1, n, a => by
    have e : m + 1 + n = (m + n) + 1 := by omega
    rw [e]
    simp only [sel]
    rw [sel_add m n (a + 1), List.append_assoc]
    congr 3; omega

/-- Both name the same stops. -/
theorem stops_same (L M : List Int) (frm : Int) :
    sel (mayF L M) (min (max frm (-1)) L.length + 1) (L.length - (min (max frm (-1)) L.length + 1) + 1 : Int).toNat = sel (rstopF L M frm) 0 (L.length + 1) := by
  generalize hb : min (max frm (-1)) (L.length : Int) + 1 = b
  have h1 : 0 ≤ b := by omega
  have h2 : b ≤ L.length + 1 := by omega
  have e : L.length + 1 = b.toNat + (L.length - b + 1 : Int).toNat := by omega
  rw [e, sel_add, sel_none b.toNat 0 (fun i h3 h4 => by
    have : ¬ frm < i := by omega
    simp [rstopF, this]), List.nil_append]
  have e2 : (0 : Int) + (b.toNat : Int) = b := by omega
  rw [e2]
  refine sel_congr _ _ fun i h3 h4 => ?_
  have : frm < i := by omega
  simp [rstopF, this]

end Go.EnvOf

/- Notes: first stop, whether a note may be; the law NoteTells. -/
namespace Go.EnvOf
open Go Go.Eng

def stopsF (L M : List Int) (frm : Int) : List Int := sel (rstopF L M frm) 0 (L.length + 1)
def firstF (L M : List Int) (frm : Int) : Int := match stopsF L M frm with | [] => -1 | x :: _ => x

/-- Is something wrong with one of them? -/
def bad (lo hi : Int) (l : List Int) : Bool := l.any fun x => decide (x < lo) || decide (hi < x)

theorem drop_rd (L : List Int) (i : Int) (h0 : 0 ≤ i) (h1 : i < L.length) : L.drop i.toNat = rd L i :: L.drop (i + 1).toNat := by
  have := drop_cons L i L.length h0 (by omega) (Nat.le_refl _)
  rwa [List.take_length] at this

theorem chk_lp0 (L M : List Int) (H : Heap) (B : Nat) (hL : L.length ≤ 9223372036854775807) : ∀ (n : Nat) (i : Int) (wr : Bool), ((L.length : Int) - i).toNat = n → 0 ≤ i → i ≤ L.length →
    evD EE lp80_0 ⟨[(1, .lptr 1 0), (3, .p (.bool wr)), (29, sli L), (30, .p (.int .i64 L.length)), (31, .p (.int .i64 i))], [(1, [sli L, sli M])], H, B, []⟩ =
      some (.exit 0, ⟨[(1, .lptr 1 0), (3, .p (.bool (wr || bad 1 1073741823 (L.drop i.toNat)))), (29, sli L), (30, .p (.int .i64 L.length)), (31, .p (.int .i64 L.length)), (32, .p (.bool false))], [(1, [sli L, sli M])], H, B, []⟩) := by
  intro n
  induction n with
  | zero =>
    intro i wr hn h0 h1
    have e : i = L.length := by omega
    subst e
    unfold lp80_0
    rw [evD_loop]
    simp [sli, bad]
  | succ n ih =>
    intro i wr hn h0 h1
    have c : i < (L.length : Int) := by omega
    have w : IntKind.i64.wrap (i + 1) = i + 1 := wrap64_in _ (by omega) (by omega)
    have key := ih (i + 1) (wr || (decide (rd L i < 1) || decide (1073741823 < rd L i))) (by omega) (by omega) (by omega)
    have eb : bad 1 1073741823 (L.drop i.toNat) = ((decide (rd L i < 1) || decide (1073741823 < rd L i)) || bad 1 1073741823 (L.drop (i + 1).toNat)) := by rw [drop_rd L i h0 c]; simp [bad]
    rw [eb, ← Bool.or_assoc]
    unfold lp80_0
    rw [evD_loop]
    cases wr
    · by_cases c1 : rd L i < 1
      · simp (disch := omega) [sli, c, ixs_sli, subs, w, c1] at key ⊢
        exact key
      · simp (disch := omega) [sli, c, ixs_sli, subs, w, c1] at key ⊢
        exact key
    · simp (disch := omega) [sli, c, ixs_sli, subs, w] at key ⊢
      exact key
theorem chk_lp1 (M : List Int) (H : Heap) (B : Nat) (hM : M.length ≤ 9223372036854775807) : ∀ (n : Nat) (i : Int) (wr : Bool), ((M.length : Int) - i).toNat = n → 0 ≤ i → i ≤ M.length →
    evD EE lp80_1 ⟨[(3, .p (.bool wr)), (46, sli M), (47, .p (.int .i64 M.length)), (48, .p (.int .i64 i))], [], H, B, []⟩ =
      some (.exit 2, ⟨[(3, .p (.bool (wr || bad 0 10000 (M.drop i.toNat)))), (46, sli M), (47, .p (.int .i64 M.length)), (48, .p (.int .i64 M.length)), (49, .p (.bool false))], [], H, B, []⟩) := by
  intro n
  induction n with
  | zero =>
    intro i wr hn h0 h1
    have e : i = M.length := by omega
    subst e
    unfold lp80_1
    rw [evD_loop]
    simp [sli, bad]
  | succ n ih =>
    intro i wr hn h0 h1
    have c : i < (M.length : Int) := by omega
    have w : IntKind.i64.wrap (i + 1) = i + 1 := wrap64_in _ (by omega) (by omega)
    have key := ih (i + 1) (wr || (decide (rd M i < 0) || decide (10000 < rd M i))) (by omega) (by omega) (by omega)
    have eb : bad 0 10000 (M.drop i.toNat) = ((decide (rd M i < 0) || decide (10000 < rd M i)) || bad 0 10000 (M.drop (i + 1).toNat)) := by rw [drop_rd M i h0 c]; simp [bad]
    rw [eb, ← Bool.or_assoc]
    unfold lp80_1
    rw [evD_loop]
    cases wr
    · by_cases c1 : rd M i < 0
      · simp (disch := omega) [sli, c, ixs_sli, subs, w, c1] at key ⊢
        exact key
      · simp (disch := omega) [sli, c, ixs_sli, subs, w, c1] at key ⊢
        exact key
    · simp (disch := omega) [sli, c, ixs_sli, subs, w] at key ⊢
      exact key

/-- May it not be? -/
def wrongN (L M : List Int) : Bool := decide ((L.length : Int) < 1) || decide (64 < (L.length : Int)) || !decide ((M.length : Int) = L.length - 1)
def wrongF (L M : List Int) : Bool := wrongN L M || bad 1 1073741823 L || bad 0 10000 M

theorem check_ev (L M : List Int) (H : Heap) (hL : L.length ≤ 9223372036854775807) (hM : M.length ≤ 9223372036854775807) : clD EE (.p (.fn 80)) [note L M] H = some (.p (.int .i64 (if wrongF L M = true then 9 else 0)), none) := by
  rw [clD_body _ _ _ _ _ _ (noP _) fn80]
  have k0 := fun wr => chk_lp0 L M H H.length hL _ 0 wr rfl (by omega) (by omega)
  have k1 := fun wr => chk_lp1 M H H.length hM _ 0 wr rfl (by omega) (by omega)
  have w : IntKind.i64.wrap ((L.length : Int) - 1) = L.length - 1 := wrap64_in _ (by omega) (by omega)
  have go : ∀ b : Bool, wrongN L M = b → wrongF L M = (b || bad 1 1073741823 L || bad 0 10000 M) := fun b h => by unfold wrongF; rw [h]
  simp [sli] at k0 k1
  by_cases c1 : (L.length : Int) < 1
  · have hb := go true (by simp [wrongN, c1])
    simp [hb, note, sli, St.enter, enumFrom, subs, c1, k0, k1]
  · by_cases c2 : 64 < (L.length : Int)
    · have hb := go true (by simp [wrongN, c2])
      simp [hb, note, sli, St.enter, enumFrom, subs, c1, c2, k0, k1]
    · by_cases c3 : (M.length : Int) = L.length - 1
      · have hb := go false (by simp [wrongN, c1, c2, c3])
        rw [hb]
        simp only [c3] at k1
        cases h1 : bad 1 1073741823 L <;> cases h2 : bad 0 10000 M <;> simp [note, sli, St.enter, enumFrom, subs, c1, c2, c3, w, k0, k1, h1, h2]
      · have hb := go true (by simp [wrongN, c3])
        simp [hb, note, sli, St.enter, enumFrom, subs, c1, c2, c3, w, k0, k1]
end Go.EnvOf

/- Notes: whether a note may be, by the document. -/
namespace Go.EnvOf
open Go Go.Eng

theorem rchk_lp0 (L M : List Int) (H : Heap) (B : Nat) (hL : L.length ≤ 1000000) : ∀ (n : Nat) (i : Int), ((L.length : Int) - i).toNat = n → 0 ≤ i → i ≤ L.length →
    evD EE lp26_0 ⟨[(1, .lptr 1 0), (3, .p (.int .i64 i))], [(1, [sli L, sli M])], H, B, []⟩ =
      if bad 1 1073741823 (L.drop i.toNat) = true then some (.ret, ⟨[(2, .p (.bool false))], [], H, B, []⟩)
      else some (.exit 0, ⟨[(1, .lptr 1 0), (3, .p (.int .i64 L.length)), (29, .p (.bool false))], [(1, [sli L, sli M])], H, B, []⟩) := by
  intro n
  induction n with
  | zero =>
    intro i hn h0 h1
    have e : i = L.length := by omega
    subst e
    unfold lp26_0
    rw [evD_loop]
    simp [sli, bad, subs]
  | succ n ih =>
    intro i hn h0 h1
    have c : i < (L.length : Int) := by omega
    have w : IntKind.i64.wrap (i + 1) = i + 1 := wrap64_in _ (by omega) (by omega)
    have key := ih (i + 1) (by omega) (by omega) (by omega)
    have eb : bad 1 1073741823 (L.drop i.toNat) = ((decide (rd L i < 1) || decide (1073741823 < rd L i)) || bad 1 1073741823 (L.drop (i + 1).toNat)) := by rw [drop_rd L i h0 c]; simp [bad]
    rw [eb]
    unfold lp26_0
    rw [evD_loop]
    by_cases c1 : rd L i < 1
    · simp (disch := omega) [sli, c, ixs_sli, subs, c1]
    · by_cases c2 : 1073741823 < rd L i
      · simp (disch := omega) [sli, c, ixs_sli, subs, c1, c2]
      · simp (disch := omega) [sli, c, ixs_sli, subs, w, c1, c2] at key ⊢
        exact key

theorem rchk_lp1 (L M : List Int) (H : Heap) (B : Nat) (hM : M.length ≤ 1000000) : ∀ (n : Nat) (i : Int), ((M.length : Int) - i).toNat = n → 0 ≤ i → i ≤ M.length →
    evD EE lp26_1 ⟨[(1, .lptr 1 0), (4, .p (.int .i64 i))], [(1, [sli L, sli M])], H, B, []⟩ =
      if bad 0 10000 (M.drop i.toNat) = true then some (.ret, ⟨[(2, .p (.bool false))], [], H, B, []⟩)
      else some (.exit 2, ⟨[(1, .lptr 1 0), (4, .p (.int .i64 M.length)), (50, .p (.bool false))], [(1, [sli L, sli M])], H, B, []⟩) := by
  intro n
  induction n with
  | zero =>
    intro i hn h0 h1
    have e : i = M.length := by omega
    subst e
    unfold lp26_1
    rw [evD_loop]
    simp [sli, bad, subs]
  | succ n ih =>
    intro i hn h0 h1
    have c : i < (M.length : Int) := by omega
    have w : IntKind.i64.wrap (i + 1) = i + 1 := wrap64_in _ (by omega) (by omega)
    have key := ih (i + 1) (by omega) (by omega) (by omega)
    have eb : bad 0 10000 (M.drop i.toNat) = ((decide (rd M i < 0) || decide (10000 < rd M i)) || bad 0 10000 (M.drop (i + 1).toNat)) := by rw [drop_rd M i h0 c]; simp [bad]
    rw [eb]
    unfold lp26_1
    rw [evD_loop]
    by_cases c1 : rd M i < 0
    · simp (disch := omega) [sli, c, ixs_sli, subs, c1]
    · by_cases c2 : 10000 < rd M i
      · simp (disch := omega) [sli, c, ixs_sli, subs, c1, c2]
      · simp (disch := omega) [sli, c, ixs_sli, subs, w, c1, c2] at key ⊢
        exact key

theorem rcheck_ev (L M : List Int) (H : Heap) (hL : L.length ≤ 1000000) (hM : M.length ≤ 1000000) : clD EE (.p (.fn 26)) [note L M] H = some (.p (.bool (!wrongF L M)), none) := by
  rw [clD_body _ _ _ _ _ _ (noP _) fn26]
  have k0 := rchk_lp0 L M H H.length hL _ 0 rfl (by omega) (by omega)
  have k1 := rchk_lp1 L M H H.length hM _ 0 rfl (by omega) (by omega)
  have w : IntKind.i64.wrap ((L.length : Int) - 1) = L.length - 1 := wrap64_in _ (by omega) (by omega)
  have go : ∀ b : Bool, wrongN L M = b → wrongF L M = (b || bad 1 1073741823 L || bad 0 10000 M) := fun b h => by unfold wrongF; rw [h]
  simp [sli] at k0 k1
  by_cases c1 : (L.length : Int) < 1
  · have hb := go true (by simp [wrongN, c1])
    simp [hb, note, sli, St.enter, enumFrom, subs, c1]
  · by_cases c2 : 64 < (L.length : Int)
    · have hb := go true (by simp [wrongN, c2])
      simp [hb, note, sli, St.enter, enumFrom, subs, c1, c2]
    · by_cases c3 : (M.length : Int) = L.length - 1
      · have hb := go false (by simp [wrongN, c1, c2, c3])
        rw [hb]
        cases h1 : bad 1 1073741823 L <;> cases h2 : bad 0 10000 M <;> simp [h1, h2] at k0 k1 <;> simp [note, sli, St.enter, enumFrom, subs, c1, c2, c3, w, k0, k1]
      · have hb := go true (by simp [wrongN, c3])
        simp [hb, note, sli, St.enter, enumFrom, subs, c1, c2, c3, w]

end Go.EnvOf

/- Notes: the same notes. -/
namespace Go.EnvOf
open Go Go.Eng

def sameF (A M B N : List Int) : Bool := decide (A = B) && decide (M = N)
end Go.EnvOf

/- Notes: the same by the document; all lines of notes. -/
namespace Go.EnvOf
open Go Go.Eng

/-- A list of notes. -/
def encN (x : List Int × List Int) : List PV := [.sl (x.1.map encI), .sl (x.2.map encI)]
@[simp] theorem encN_len (x : List Int × List Int) : (encN x).length = 2 := rfl
def notes (l : List (List Int × List Int)) : V := .p (.sl (l.map encN))
theorem ixs_notes (H : Heap) (L : List (List Int × List Int)) (k : IntKind) (i : Int) (h0 : 0 ≤ i) (h1 : i < L.length) : ixsI H (.p (.sl (L.map encN))) (.p (.int k i)) 2 = some (.eptr [.p (.sl ((rd L i).1.map encI)), .p (.sl ((rd L i).2.map encI))] 0) :=
  ixs_map H encN L k i 2 (fun _ => rfl) h0 h1

def linesF (l : List (List Int × List Int)) : Int := l.foldr (fun x s => (x.1.length : Int) + s) 0

theorem drop_rd' {α : Type} [Inhabited α] (L : List α) (i : Int) (h0 : 0 ≤ i) (h1 : i < L.length) : L.drop i.toNat = rd L i :: L.drop (i + 1).toNat := by
  have e : (i + 1).toNat = i.toNat + 1 := by omega
  rw [e, List.drop_eq_getElem_cons (by omega)]
  congr 1
  unfold rd
  have : i.toNat < L.length := by omega
  simp [List.getD_eq_getElem?_getD, this]

theorem linesF_nonneg : ∀ l, 0 ≤ linesF l
  | [] => by simp [linesF]
  | x :: r => by have := linesF_nonneg r; simp only [linesF, List.foldr_cons] at this ⊢; omega

end Go.EnvOf

/- Notes: the same by the document. -/
namespace Go.EnvOf
open Go Go.Eng

end Go.EnvOf

/- The same jobs. -/
namespace Go.EnvOf
open Go Go.Eng

theorem item_cells (x y : Item) : eqCells [true, true, true, true, true, true, true] ((encItem x).map V.p) ((encItem y).map V.p) = some (decide (x = y)) := by
  obtain ⟨a, b, c, d, e, f, g⟩ := x
  obtain ⟨a', b', c', d', e', f', g'⟩ := y
  simp [encItem, Bool.decide_and]
theorem float_cells (x y : Float) : eqCells [true, true, true] ((encFloat x).map V.p) ((encFloat y).map V.p) = some (decide (x = y)) := by
  obtain ⟨a, b, c⟩ := x
  obtain ⟨a', b', c'⟩ := y
  simp [encFloat, Bool.decide_and]
theorem geom_cells (x y : Geom) : eqCells [true, true, true, true, true, true, true, true, true, true, true, true, true, true, true, true, true, true, false] (cGeom x) (cGeom y) = some (decide (x = y)) := by
  obtain ⟨a1, a2, a3, a4, a5, a6, a7, a8, a9, a10, a11, a12, a13, a14, a15, a16, a17, a18, a19⟩ := x
  obtain ⟨b1, b2, b3, b4, b5, b6, b7, b8, b9, b10, b11, b12, b13, b14, b15, b16, b17, b18, b19⟩ := y
  simp [Bool.decide_and]
  cases a19 <;> cases b19 <;> rfl
/-! ### Notes, pair by pair -/
theorem same_notes (a b : Note) : sameF a.lines a.pens b.lines b.pens = decide (a = b) := by
  obtain ⟨x, y⟩ := a
  obtain ⟨u, v⟩ := b
  simp [sameF, Bool.decide_and]
def nfBad (H : Heap) (B : Nat) : Ex × St := (.ret, ⟨[(6, vB false)], [], H, B, []⟩)
abbrev okNoteL (n : Note) : Prop := n.lines.length ≤ 1000000 ∧ n.pens.length ≤ 1000000
/-! ### By the document -/
def s2E (a b : V) (H : Heap) (B : Nat) (i : Nat) : St := ⟨[(0, a), (1, b), (5, vI i)], [], H, B, []⟩
def s2X (a b : V) (n : Nat) (H : Heap) (B : Nat) : Ex × St := (.exit 0, ⟨[(0, a), (1, b), (5, vI n), (14, .p (.bool false))], [], H, B, []⟩)
def s2Bad (H : Heap) (B : Nat) : Ex × St := (.ret, ⟨[(4, vB false)], [], H, B, []⟩)
abbrev cJob (j : Job) : List V := cGeom j.g ++ [vItems j.items, vNotes j.notes, vFloats j.floats]
def s14E (j k : Job) (H : Heap) (B : Nat) (i : Nat) : St := ⟨[(2, .lptr 2 0), (3, .lptr 3 0), (5, vI i)], [(2, cJob j), (3, cJob k)], H, B, []⟩
def s14X (j k : Job) (H : Heap) (B : Nat) : Ex × St := (.exit 0, ⟨[(2, .lptr 2 0), (3, .lptr 3 0), (5, vI j.items.length), (17, .p (.bool false))], [(2, cJob j), (3, cJob k)], H, B, []⟩)
end Go.EnvOf

/- Jobs that are more than is gone through. -/
namespace Go.EnvOf
open Go Go.Eng

structure small (j : Job) : Prop where
  items : j.items.length ≤ 100
  notes : j.notes.length ≤ 100
  floats : j.floats.length ≤ 100
  each : ∀ n ∈ j.notes, n.lines.length ≤ 100 ∧ n.pens.length ≤ 100
def bigNote (n : Note) : Bool := decide (100 < (n.lines.length : Int)) || decide (100 < (n.pens.length : Int))
def largeF (j : Job) : Bool := (j.notes.take 100).any bigNote || decide (100 < (j.items.length : Int)) || decide (100 < (j.notes.length : Int)) || decide (100 < (j.floats.length : Int))
theorem small_of {j : Job} (h : largeF j = false) : small j := by
  unfold largeF at h
  simp only [Bool.or_eq_false_iff, decide_eq_false_iff_not] at h
  obtain ⟨⟨⟨h1, h2⟩, h3⟩, h4⟩ := h
  have hl : j.notes.length ≤ 100 := by omega
  rw [List.take_of_length_le hl] at h1
  refine ⟨by omega, hl, by omega, fun n hn => ?_⟩
  have := List.any_eq_false.1 h1 n hn
  simp [bigNote] at this
  omega
def lgE (j : Job) (H : Heap) (i : Nat) : St := ⟨[(1, .lptr 1 0), (3, vI i)], [(1, cGeom j.g ++ [vItems j.items, vNotes j.notes, vFloats j.floats])], H, H.length, []⟩
def lgX (j : Job) (H : Heap) (i : Nat) : Ex × St := (.exit 0, ⟨[(1, .lptr 1 0), (3, vI i), (12, vB false)], [(1, cGeom j.g ++ [vItems j.items, vNotes j.notes, vFloats j.floats])], H, H.length, []⟩)
def lgB (H : Heap) : Ex × St := (.ret, ⟨[(2, vB true)], [], H, H.length, []⟩)
theorem large_lp (j : Job) (H : Heap) : evD EE lp6_0 (lgE j H 0) = some (if (j.notes.take 100).any bigNote = true then lgB H else lgX j H (min 100 j.notes.length)) := by
  unfold lp6_0
  refine Eq.trans (evD_rng (j.notes.take 100) (fun (_ : Unit) i => lgE j H i) (fun _ _ => True) (stepB bigNote (lgB H)) (fun _ => lgX j H (min 100 j.notes.length)) (fun _ _ => rfl) ?_ ?_ () 0 trivial (Nat.zero_le _)) (by rw [rng_any]; rfl)
  · rintro _ i x - hx
    have hlt := (List.getElem?_eq_some_iff.1 hx).1
    rw [List.length_take] at hlt
    have hx' : j.notes[i]? = some x := by rw [List.getElem?_take] at hx; split at hx <;> simp_all
    have hl1 : i < j.notes.length := by omega
    have hl2 : (i : Int) < 100 := by omega
    have w1 : IntKind.i64.wrap ((i : Int) + 1) = ((i + 1 : Nat) : Int) := w64 (by omega) (by omega)
    have hix := fun H k => ixs_nat H encNote (k := k) (s := 2) hx' rfl
    simp only [encNote] at hix
    by_cases a : 100 < (x.lines.length : Int)
    · simp [stepB, bigNote, lgE, lgB, hl1, hl2, hix, subs, a]
    · by_cases b : 100 < (x.pens.length : Int)
      · simp [stepB, bigNote, lgE, lgB, hl1, hl2, hix, subs, a, b]
      · simp [stepB, bigNote, lgE, hl1, hl2, hix, subs, a, b, w1]
  · rintro _ -
    refine ⟨?_, by simp [lgX]⟩
    rw [List.length_take]
    by_cases h : j.notes.length ≤ 100
    · have e : min 100 j.notes.length = j.notes.length := by omega
      rw [e]
      simp [lgE, lgX, subs]
    · have e : min 100 j.notes.length = 100 := by omega
      have h2 : (100 : Int) < j.notes.length := by omega
      rw [e]
      simp [lgE, lgX, subs, h2]
theorem large_ev (j : Job) (H : Heap) : clD EE (.p (.fn 6)) [vJob j] H = some (vB (largeF j), none) := by
  rw [clD_body _ _ _ _ _ _ (noP _) fn6]
  have k0 := large_lp j H
  unfold largeF
  simp only [lgE, lgX, lgB] at k0
  cases b : (j.notes.take 100).any bigNote with
  | true =>
    rw [b, if_pos rfl] at k0
    simp at k0
    simp [St.enter, enumFrom, subs, k0]
  | false =>
    rw [b, if_neg (by simp)] at k0
    simp at k0
    by_cases a1 : 100 < (j.items.length : Int)
    · simp [St.enter, enumFrom, subs, k0, a1]
    · by_cases a2 : 100 < (j.notes.length : Int)
      · simp [St.enter, enumFrom, subs, k0, a1, a2]
      · simp [St.enter, enumFrom, subs, k0, a1, a2]
end Go.EnvOf

/- The law of the kinds of warnings. -/
namespace Go.EnvOf
open Go Go.Eng
set_option maxRecDepth 100000
theorem awake50 : clD EE (.p (.fn 7)) [] [] = some (.p (.bool true), none) := by
  rw [clD_iff]; exact ⟨200, by kernel_rfl⟩
theorem awake50r (es : List (List V)) : clD EE (.p (.fn 7)) [] [.row 2 es] = some (.p (.bool true), none) := by
  rw [clD_iff]; exact ⟨200, by kernel_rfl⟩
structure Warn where
  k : Int
  n : Int
  deriving Inhabited, DecidableEq
def encW (x : Warn) : List PV := [.int .i64 x.k, .int .i64 x.n]
@[simp] theorem encW_len (x : Warn) : (encW x).length = 2 := rfl
abbrev vWs (l : List Warn) : V := .p (.sl (l.map encW))
abbrev rW (H : Heap) (o : List Warn) : V := .row H.length o.length 0 o.length
abbrev hW (H : Heap) (o : List Warn) : Heap := H ++ [.row 2 (upV (o.map encW))]
def ofK (k : Int) (l : List Warn) : List Warn := l.filter fun w => decide (w.k = k)
def kS (k : Int) (o : List Warn) (w : Warn) : List Warn := o ++ (if w.k = k then [w] else [])
theorem kS_fold (k : Int) : ∀ (l : List Warn) (o : List Warn) (i : Nat), fold (fun o _ w => kS k o w) o i l = o ++ ofK k l
  | [], o, i => by simp [fold, ofK]
  | w :: r, o, i => by
    simp only [fold]
    rw [kS_fold k r]
    simp only [ofK, List.filter_cons, kS]
    by_cases h : w.k = k <;> simp [h]
def loE (l : List Warn) (k : Int) (H : Heap) (o : List Warn) (i : Nat) : St := ⟨[(1, vI k), (5, rW H o), (8, vWs l), (9, vI l.length), (10, vI i)], [], hW H o, H.length, []⟩
def loX (l : List Warn) (k : Int) (H : Heap) (o : List Warn) : Ex × St := (.exit 0, ⟨[(1, vI k), (5, rW H o), (8, vWs l), (9, vI l.length), (10, vI l.length), (11, vB false)], [], hW H o, H.length, []⟩)
theorem only_lp (l : List Warn) (k : Int) (H : Heap) (hl : l.length ≤ 1000000000) : evD EE lp10_0 (loE l k H [] 0) = some (loX l k H (ofK k l)) := by
  unfold lp10_0
  refine Eq.trans (evD_fold l (loE l k H) (fun o i => o.length ≤ i) (fun o _ w => kS k o w) (loX l k H) (fun _ _ => rfl) ?_ ?_ [] 0 (by simp) (Nat.zero_le _)) (by rw [List.drop_zero, kS_fold, List.nil_append])
  · intro o i x hi hx
    have hlt := (List.getElem?_eq_some_iff.1 hx).1
    have hix := fun H k => ixs_nat H encW (k := k) (s := 2) hx rfl
    have w : IntKind.i64.wrap ((i : Int) + 1) = ((i + 1 : Nat) : Int) := w64 (by omega) (by omega)
    have hm : o.length + 1 < most := by unfold most; omega
    by_cases h : x.k = k
    · refine ⟨?_, by simp [kS, h]; omega⟩
      simp [loE, hlt, hix, encW, subs, setSubs, w, h, hm, kS]
    · refine ⟨?_, by simp [kS, h]; omega⟩
      simp [loE, hlt, hix, encW, subs, setSubs, w, h, kS]
  · intro o hi
    refine ⟨?_, by simp [loX]⟩
    simp [loE, loX]
theorem only_ev (l : List Warn) (k : Int) (H : Heap) (hl : l.length ≤ 1000000000) : clD EE (.p (.fn 10)) [vWs l, vI k] H = some (vWs (ofK k l), none) := by
  rw [clD_body _ _ _ _ _ _ (noP _) fn10]
  have key := only_lp l k H hl
  generalize ofK k l = O at *
  simp [loE, loX, rW, hW] at key
  simp [St.enter, enumFrom, key]

/-! ### The names -/
theorem name_ev (n : Int) (H : Heap) : clD EE (.p (.fn 11)) [vI n] H = some (.p (.str (nmS n)), none) := by
  rw [clD_prim _ _ _ _ _ nameP_fn]; rfl
theorem rname_ev (n : Int) (H : Heap) : clD EE (.p (.fn 12)) [vI n] H = some (.p (.str (nmS n)), none) := by
  rw [clD_body _ _ _ _ _ _ (noP _) fn12]
  by_cases h0 : n < 0
  · have e : nmS n = ⟨#[]⟩ := by unfold nmS; rw [if_neg (by omega), if_neg (by omega), if_neg (by omega), if_neg (by omega), if_neg (by omega), if_neg (by omega)]
    rw [e]
    simp [St.enter, enumFrom, h0]
  by_cases h5 : 5 < n
  · have e : nmS n = ⟨#[]⟩ := by unfold nmS; rw [if_neg (by omega), if_neg (by omega), if_neg (by omega), if_neg (by omega), if_neg (by omega), if_neg (by omega)]
    rw [e]
    simp [St.enter, enumFrom, h0, h5]
  have c : n = 0 ∨ n = 1 ∨ n = 2 ∨ n = 3 ∨ n = 4 ∨ n = 5 := by omega
  rcases c with rfl | rfl | rfl | rfl | rfl | rfl
  all_goals simp [St.enter, enumFrom, nmS, subs, setSubs, ixsI, ixsV]

/-! ### The law -/
def lkE (l : List Warn) (k : Int) (o : List Warn) (i : Nat) : St := ⟨[(0, vWs l), (1, vI k), (5, rW [] o), (6, vI i)], [], hW [] o, 0, []⟩
def lkX (l : List Warn) (k : Int) (o : List Warn) : Ex × St := (.exit 0, ⟨[(0, vWs l), (1, vI k), (5, rW [] o), (6, vI l.length), (16, vB false)], [], hW [] o, 0, []⟩)
theorem lk_lp (l : List Warn) (k : Int) (hl : l.length ≤ 60) : evD EE lp4_0 (lkE l k [] 0) = some (lkX l k (ofK k l)) := by
  unfold lp4_0
  refine Eq.trans (evD_fold l (lkE l k) (fun o i => o.length ≤ i) (fun o _ w => kS k o w) (lkX l k) (fun _ _ => rfl) ?_ ?_ [] 0 (by simp) (Nat.zero_le _)) (by rw [List.drop_zero, kS_fold, List.nil_append])
  · intro o i x hi hx
    have hlt := (List.getElem?_eq_some_iff.1 hx).1
    have hix := fun H k => ixs_nat H encW (k := k) (s := 2) hx rfl
    have w : IntKind.i64.wrap ((i : Int) + 1) = ((i + 1 : Nat) : Int) := w64 (by omega) (by omega)
    have hm : o.length + 1 < most := by unfold most; omega
    by_cases h : x.k = k
    · refine ⟨?_, by simp [kS, h]; omega⟩
      simp [lkE, hlt, hix, encW, subs, setSubs, w, h, hm, kS]
    · refine ⟨?_, by simp [kS, h]; omega⟩
      simp [lkE, hlt, hix, encW, subs, setSubs, w, h, kS]
  · intro o hi
    refine ⟨?_, by simp [lkX]⟩
    simp [lkE, lkX]
def lmE (k : Int) (o : List Warn) (i : Nat) : St := ⟨[(1, vI k), (5, rW [] o), (7, vWs o), (8, vI i)], [], hW [] o, 0, []⟩
def lmX (k : Int) (o : List Warn) : Ex × St := (.exit 2, ⟨[(1, vI k), (5, rW [] o), (7, vWs o), (8, vI o.length), (39, vB false)], [], hW [] o, 0, []⟩)
theorem lm_lp (o : List Warn) (k : Int) (hl : o.length ≤ 60) : evD EE lp4_1 (lmE k o 0) = some (lmX k o) := by
  unfold lp4_1
  refine Eq.trans (evD_fold o (fun (_ : Unit) i => lmE k o i) (fun _ _ => True) (fun _ _ _ => ()) (fun _ => lmX k o) (fun _ _ => rfl) ?_ ?_ () 0 trivial (Nat.zero_le _)) rfl
  · intro _ i x hi hx
    refine ⟨?_, trivial⟩
    have hlt := (List.getElem?_eq_some_iff.1 hx).1
    have hix := fun H k => ixs_nat H encW (k := k) (s := 2) hx rfl
    have w : IntKind.i64.wrap ((i : Int) + 1) = ((i + 1 : Nat) : Int) := w64 (by omega) (by omega)
    have hup : (upV (o.map encW))[i]? = some ((encW x).map .p) := by simp [upV, hx]
    have hup2 : ∀ h, (upV (o.map encW))[i]'h = (encW x).map .p := fun h => by rw [List.getElem?_eq_getElem h] at hup; exact Option.some.inj hup
    simp [lmE, hlt, hix, ixs_row, hup2, encW, subs, setSubs, w]
  · intro _ _
    refine ⟨?_, by simp [lmX]⟩
    simp [lmE, lmX]
theorem lintKinds_ev (l : List Warn) (k : Int) : clD EE (.p (.fn 4)) [vWs l, vI k] [] = some (.p (.bool true), none) := by
  rw [clD_body _ _ _ _ _ _ (noP _) fn4]
  by_cases h : 60 < (l.length : Int)
  · simp [St.enter, enumFrom, h, awake50]
  have h1 := lk_lp l k (by omega)
  have h2 := fun H => only_ev l k H (by omega)
  have hf : (ofK k l).length ≤ 60 := by
    have := List.length_filter_le (fun w : Warn => decide (w.k = k)) l
    unfold ofK; omega
  have h3 := lm_lp (ofK k l) k hf
  generalize ofK k l = O at *
  simp [lkE, lkX, rW, hW] at h1
  simp [lmE, lmX, rW, hW] at h3
  have hs : (nmS k == nmS k) = true := by first | exact beq_self_eq_true _ | exact decide_eq_true rfl | (show ((nmS k).data == (nmS k).data) = true; simp)
  simp [St.enter, enumFrom, h, awake50r, h1, h2, h3, name_ev, rname_ev, hs]
end Go.EnvOf

/- Areas: what fits, as the reference tells it. -/
namespace Go.EnvOf
open Go Go.Eng
set_option maxRecDepth 100000
theorem rheld_hz (n : Int) (H : Heap) : clD EE (.p (.fn 95)) [vI n] H = some (vI (hz n), none) := by
  rw [clD_body _ _ _ _ _ _ (noP _) fn95]
  have e : max 0 (min n 1125899906842624) = hz n := by simp only [hz, fz]; omega
  simp [St.enter, enumFrom, e]
def rqhE (l : List Float) (xs : List Int) (sep : Int) (H : Heap) (s : Int) (i : Nat) : St :=
  ⟨[(0, vFloats l), (1, sli xs), (2, vI sep), (7, vI s), (8, vI i)], [], H, H.length, []⟩
def rqhX (l : List Float) (xs : List Int) (sep : Int) (H : Heap) (s : Int) : Ex × St :=
  (.exit 0, ⟨[(0, vFloats l), (1, sli xs), (2, vI sep), (7, vI s), (8, vI xs.length), (12, vB false)], [], H, H.length, []⟩)
theorem rhigh12_lp (l : List Float) (xs : List Int) (sep : Int) (H : Heap) (hx : xs.length ≤ 1000000) : evD EE lp67_0 (rqhE l xs sep H 0 0) = some (rqhX l xs sep H (highQ l xs sep)) := by
  unfold lp67_0
  refine Eq.trans (evD_fold xs (rqhE l xs sep H) (fun s _ => 0 ≤ s ∧ s ≤ fz) (fun s _ x => hiS l sep s x) (rqhX l xs sep H) (fun _ _ => rfl) ?_ ?_ 0 0 (by simp) (Nat.zero_le _)) (by rw [List.drop_zero, foldG]; rfl)
  · intro s i x hi hp
    have hlt := (List.getElem?_eq_some_iff.1 hp).1
    have hix := fun H k => ixs_nat H encI (k := k) (s := 1) hp rfl
    have w : IntKind.i64.wrap ((i : Int) + 1) = ((i + 1 : Nat) : Int) := w64 (by omega) (by omega)
    unfold hiS atF
    by_cases h0 : 0 ≤ x
    · by_cases h1 : x < l.length
      · rw [if_pos ⟨h0, h1⟩]
        have hg := rd_get l x h0 h1
        have hiy := fun H k => ixs_int H encFloat (k := k) (s := 3) h0 hg rfl
        generalize rd l x = f at *
        refine ⟨?_, hz_in _⟩
        have b1 := hz_in f.h
        have b2 := hz_in sep
        simp only [fz] at b1 b2 hi
        have w1 : IntKind.i64.wrap (s + hz f.h) = s + hz f.h := w64 (by omega) (by omega)
        have w2 : IntKind.i64.wrap (s + hz f.h + hz sep) = s + hz f.h + hz sep := w64 (by omega) (by omega)
        simp [rqhE, hlt, hix, hiy, encI, encFloat, subs, setSubs, h0, h1, w, rheld_hz, w1, w2]
      · rw [if_neg (fun h => h1 h.2)]
        refine ⟨?_, hi⟩
        simp [rqhE, hlt, hix, encI, subs, setSubs, h0, h1, w]
    · rw [if_neg (fun h => h0 h.1)]
      refine ⟨?_, hi⟩
      simp [rqhE, hlt, hix, encI, subs, setSubs, h0, w]
  · intro s hi
    refine ⟨?_, by simp [rqhX]⟩
    simp [rqhE, rqhX]
theorem rhigh12_ev (l : List Float) (xs : List Int) (sep : Int) (H : Heap) (hx : xs.length ≤ 1000000) : clD EE (.p (.fn 67)) [vFloats l, sli xs, vI sep] H = some (vI (highQ l xs sep), none) := by
  rw [clD_body _ _ _ _ _ _ (noP _) fn67]
  have k := rhigh12_lp l xs sep H hx
  simp [rqhE, rqhX] at k
  simp [St.enter, enumFrom, k]
/-! ### Does it fit? -/
def rqE (g : Geom) (bit many maxH : Int) (l : List Float) (xs : List Int) (H : Heap) (i : Nat) : St :=
  ⟨[(1, vFloats l), (2, sli xs), (3, vI bit), (4, vI many), (5, vI maxH), (6, .lptr 6 0), (13, vI i)], [(6, cGeom g)], H, H.length, []⟩
def rqX (g : Geom) (bit many maxH : Int) (l : List Float) (xs : List Int) (H : Heap) : Ex × St :=
  (.exit 0, ⟨[(1, vFloats l), (2, sli xs), (3, vI bit), (4, vI many), (5, vI maxH), (6, .lptr 6 0), (13, vI xs.length), (17, vB false)], [(6, cGeom g)], H, H.length, []⟩)
def rqB (H : Heap) : Ex × St := (.ret, ⟨[(12, vB false)], [], H, H.length, []⟩)
theorem rq_lp (g : Geom) (bit many maxH : Int) (l : List Float) (xs : List Int) (H : Heap) (hx : xs.length ≤ 1000000) :
    evD EE lp50_0 (rqE g bit many maxH l xs H 0) = some (if xs.any (fun x => !mayAt (fun f => bitB bit f.w) l x) = true then rqB H else rqX g bit many maxH l xs H) := by
  unfold lp50_0
  refine Eq.trans (evD_rng xs (fun (_ : Unit) i => rqE g bit many maxH l xs H i) (fun _ _ => True) (stepB (fun x => !mayAt (fun f => bitB bit f.w) l x) (rqB H)) (fun _ => rqX g bit many maxH l xs H) (fun _ _ => rfl) ?_ ?_ () 0 trivial (Nat.zero_le _)) (by rw [List.drop_zero, rng_any])
  · rintro _ i x - hx2
    have hlt := (List.getElem?_eq_some_iff.1 hx2).1
    have hix := fun H k => ixs_nat H encI (k := k) (s := 1) hx2 rfl
    have w : IntKind.i64.wrap ((i : Int) + 1) = ((i + 1 : Nat) : Int) := w64 (by omega) (by omega)
    by_cases h0 : x < 0
    · have hm : mayAt (fun f => bitB bit f.w) l x = false := by unfold mayAt atF; rw [if_neg (by omega)]
      simp [stepB, hm, rqE, rqB, hlt, hix, encI, subs, setSubs, h0]
    · by_cases h1 : (l.length : Int) ≤ x
      · have hm : mayAt (fun f => bitB bit f.w) l x = false := by unfold mayAt atF; rw [if_neg (by omega)]
        simp [stepB, hm, rqE, rqB, hlt, hix, encI, subs, setSubs, h0, h1]
      · have hg := rd_get l x (by omega) (by omega)
        have hiy := fun H k => ixs_int H encFloat (k := k) (s := 3) (by omega) hg rfl
        have hm : mayAt (fun f => bitB bit f.w) l x = bitB bit (rd l x).w := by unfold mayAt atF; rw [if_pos ⟨by omega, by omega⟩]
        have ha := and_v (rd l x).w bit
        by_cases hb : bitV (rd l x).w bit = 0
        · have hm2 : bitB bit (rd l x).w = false := by simp [bitB, hb]
          simp [stepB, hm, hm2, rqE, rqB, hlt, hix, hiy, encI, encFloat, subs, setSubs, h0, h1, ha, hb]
        · have hm2 : bitB bit (rd l x).w = true := by simp [bitB, hb]
          simp [stepB, hm, hm2, rqE, rqB, hlt, hix, hiy, encI, encFloat, subs, setSubs, h0, h1, ha, hb, w]
  · rintro _ -
    refine ⟨?_, by simp [rqX]⟩
    simp [rqE, rqX]
theorem rfits1_ev (g : Geom) (bit many maxH : Int) (l : List Float) (xs : List Int) (H : Heap) (hx : xs.length ≤ 1000000) :
    clD EE (.p (.fn 50)) [vGeom g, vFloats l, sli xs, vI bit, vI many, vI maxH] H = some (vB (fitsF many maxH (fun f => bitB bit f.w) g.sep l xs), none) := by
  rw [clD_body _ _ _ _ _ _ (noP _) fn50]
  have key := rq_lp g bit many maxH l xs H hx
  have hh := fun H => rhigh12_ev l xs g.sep H hx
  unfold fitsF
  have hany : xs.any (fun x => !mayAt (fun f => bitB bit f.w) l x) = !xs.all (mayAt (fun f => bitB bit f.w) l) := by rw [List.any_eq_not_all_not]; simp only [Bool.not_not]
  rw [hany] at key
  cases hall : xs.all (mayAt (fun f => bitB bit f.w) l) with
  | false =>
    rw [hall] at key
    simp [rqE, rqB] at key
    simp [St.enter, enumFrom, subs, setSubs, key]
  | true =>
    rw [hall] at key
    simp [rqE, rqX] at key
    by_cases h1 : (xs.length : Int) ≤ many
    · simp [St.enter, enumFrom, subs, setSubs, h1, key, hh]
    · simp [St.enter, enumFrom, subs, setSubs, h1, key, hh]
theorem rafits_ev (g : Geom) (l : List Float) (p : Pr) (H : Heap) (h1 : p.1.length ≤ 1000000) (h2 : p.2.length ≤ 1000000) : clD EE (.p (.fn 23)) [vGeom g, vFloats l, vPair p] H = some (vB (fitT g l p.1 && fitB g l p.2), none) := by
  rw [clD_body _ _ _ _ _ _ (noP _) fn23]
  have f1 := fun H => rfits1_ev g 1 g.topMany g.topMost l p.1 H h1
  have f2 := fun H => rfits1_ev g 2 g.botMany g.botMost l p.2 H h2
  have e1 : fitsF g.topMany g.topMost (fun f => bitB 1 f.w) g.sep l p.1 = fitT g l p.1 := rfl
  have e2 : fitsF g.botMany g.botMost (fun f => bitB 2 f.w) g.sep l p.2 = fitB g l p.2 := rfl
  rw [e1] at f1
  rw [e2] at f2
  cases h : fitT g l p.1 with
  | true =>
    rw [h] at f1
    simp [St.enter, enumFrom, subs, setSubs, f1, f2]
  | false =>
    rw [h] at f1
    simp [St.enter, enumFrom, subs, setSubs, f1, f2]
end Go.EnvOf

/- A look at a job: telling a warning. -/
namespace Go.EnvOf
open Go Go.Eng
set_option maxRecDepth 100000
/-- At p lies the look: its job, and what it has told up to now. -/
structure Look (H : Heap) (p : Nat) (J : List V) (ws : List Warn) : Prop where
  out : ∃ o, Eng.boxAt H p = some (J ++ [o]) ∧ (o = .nils ∧ ws = [] ∨ ∃ id, id < H.length ∧ p < id ∧ o = .row id ws.length 0 ws.length ∧ Eng.rowAt H id = some (2, upV (ws.map encW)) ∧ ws ≠ [])
  lt : p < H.length
def hpOf (H : Heap) : Option (Heap × List Nat) → Heap
  | none => H
  | some x => x.1
def dsOf : Option (Heap × List Nat) → List Nat
  | none => []
  | some x => x.2
theorem callR_opt (env : List (Nat × V)) (loc : List (Nat × List V)) (hp : Heap) (base : Nat) (dirty : List Nat) (d : Option Nat) (v : V) (r : Option (Heap × List Nat)) (hv : v.notL = true) : callR ⟨env, loc, hp, base, dirty⟩ false d (some (v, r)) = some (St.put ⟨env, loc, hpOf hp r, base, (dsOf r).foldr (addD base) dirty⟩ d v) := by
  cases r with
  | none => simp only [callR, hpOf, dsOf, hv]; simp
  | some x => obtain ⟨H, ds⟩ := x; simp only [callR, hpOf, dsOf, hv]; simp
theorem boxAt_lt {H : Heap} {q : Nat} {cs : List V} (h : Eng.boxAt H q = some cs) : q < H.length := by
  unfold Eng.boxAt at h
  rcases Nat.lt_or_ge q H.length with g | g
  · exact g
  · rw [List.getElem?_eq_none g] at h; cases h
theorem addD_mem {B i x : Nat} {d : List Nat} (h : x ∈ d) : x ∈ addD B i d := by
  unfold addD
  split
  · exact List.mem_cons_of_mem _ h
  · exact h
theorem foldD_mem {B x : Nat} : ∀ {ds d : List Nat}, x ∈ d → x ∈ ds.foldr (addD B) d
  | [], _, h => h
  | _ :: ds, _, h => addD_mem (foldD_mem (ds := ds) h)
theorem addD_self {B x : Nat} {d : List Nat} (h : x < B) : x ∈ addD B x d := by
  unfold addD
  rw [if_pos h]
  exact List.mem_cons_self
theorem foldD_in {B x : Nat} : ∀ {ds d : List Nat}, x ∈ ds → x < B → x ∈ ds.foldr (addD B) d
  | y :: ds, d, h, hx => by
    rcases List.mem_cons.1 h with rfl | h
    · exact addD_self hx
    · exact addD_mem (foldD_in h hx)
theorem tell_no (p : Nat) (k n : Int) (H : Heap) : clD EE (.p (.fn 37)) [.ptr p 0, vI k, vI n, vB false] H = some (.tup [], none) := by
  rw [clD_body _ _ _ _ _ _ (noP _) fn37]
  simp [St.enter, enumFrom]
theorem tell_ev (p : Nat) (J : List V) (hJ : J.length = 22) (ws : List Warn) (k n : Int) (b : Bool) (H : Heap) (h : Look H p J ws) (hn : ws.length ≤ 1000000000) :
    ∃ r, clD EE (.p (.fn 37)) [.ptr p 0, vI k, vI n, vB b] H = some (.tup [], r) ∧ Look (hpOf H r) p J (ws ++ if b then [⟨k, n⟩] else []) ∧ (∀ q cs, q ≠ p → Eng.boxAt H q = some cs → Eng.boxAt (hpOf H r) q = some cs) ∧ (r = none ∧ b = false ∨ p ∈ dsOf r) := by
  cases b with
  | false =>
    exact ⟨none, tell_no p k n H, by simpa [hpOf] using h, fun _ _ _ h => h, .inl ⟨rfl, rfl⟩⟩
  | true =>
    obtain ⟨o, hb, ho⟩ := h.out
    have hlt := h.lt
    have hd : ∀ o : V, List.drop 23 (J ++ [o]) = [] := fun o => List.drop_eq_nil_of_le (by simp [hJ])
    have hm : ws.length + 1 < most := by unfold most; omega
    rcases ho with ⟨rfl, rfl⟩ | ⟨id, hid, hpi, rfl, hr, hw⟩
    · refine ⟨some ((H ++ [DObj.row 2 (upV [encW ⟨k, n⟩])]).set p (DObj.box (J ++ [V.row H.length 1 0 1])), [p]), ?_, ?_, ?_, .inr (by simp [dsOf])⟩
      · rw [clD_body _ _ _ _ _ _ (noP _) fn37]
        have h1 : 1 < most := by decide
        have hb2 := fun T => (boxAt_app_lt T hlt).trans hb
        simp [St.enter, enumFrom, hb, hb2, h1, subs, setSubs, hJ, hlt, encW, hd]
      · refine ⟨⟨V.row H.length 1 0 1, ?_, .inr ⟨H.length, ?_, ?_, rfl, ?_, by simp⟩⟩, ?_⟩
        · simp only [hpOf]; exact boxAt_set _ _ _ (by simp; omega)
        · simp [hpOf]
        · omega
        · simp only [hpOf]
          rw [Eng.rowAt, List.getElem?_set_ne (by omega)]
          simp
        · simp [hpOf]; omega
      · intro q cs hq hc
        simp only [hpOf]
        rw [boxAt_set_ne _ _ _ _ (Ne.symm hq), boxAt_app_lt _ (boxAt_lt hc)]
        exact hc
    · have hne : id ≠ p := by omega
      refine ⟨some ((H.set id (DObj.row 2 (upV ((ws ++ [(⟨k, n⟩ : Warn)]).map encW)))).set p (DObj.box (J ++ [V.row id (ws.length + 1) 0 (ws.length + 1)])), [p, id]), ?_, ?_, ?_, .inr (by simp [dsOf])⟩
      · rw [clD_body _ _ _ _ _ _ (noP _) fn37]
        have hb2 : ∀ es, Eng.boxAt (H.set id (.row 2 es)) p = some (J ++ [.row id ws.length 0 ws.length]) := fun es => (boxAt_set_ne H id p _ hne).trans hb
        simp [St.enter, enumFrom, hb, hb2, hr, hm, subs, setSubs, hJ, hlt, hid, encW, hd]
      · refine ⟨⟨V.row id (ws ++ [(⟨k, n⟩ : Warn)]).length 0 (ws ++ [(⟨k, n⟩ : Warn)]).length, ?_,   .inr ⟨id, ?_, hpi, rfl, ?_, by simp⟩⟩, ?_⟩
        · simp only [hpOf, List.length_append, List.length_cons, List.length_nil]; exact boxAt_set _ _ _ (by simp; omega)
        · simp [hpOf]; exact hid
        · simp only [hpOf]
          rw [Eng.rowAt, List.getElem?_set_ne (by omega), ← Eng.rowAt]
          exact rowAt_set _ _ _ _ hid
        · simp [hpOf]; omega
      · intro q cs hq hc
        simp only [hpOf]
        have hqi : id ≠ q := by
          rintro rfl
          unfold Eng.boxAt at hc
          unfold Eng.rowAt at hr
          cases e : H[id]? with
          | none => rw [e] at hc; cases hc
          | some o => rw [e] at hc hr; cases o <;> simp at hc hr
        rw [boxAt_set_ne _ _ _ _ (Ne.symm hq), boxAt_set_ne _ _ _ _ hqi]
        exact hc
end Go.EnvOf

/- A look at a job: its items. -/
namespace Go.EnvOf
open Go Go.Eng
set_option maxRecDepth 100000
/-- Going through a list, where the states are but related to what has come. -/
theorem evD_foldR {α : Type} {E : Env} {ks kl : List Nat} {c : IC} (L : List α) (R : Nat → St → Prop) (F : Ex × St → Prop)
    (hk : ∀ i S, R i S → S.keep ks kl = S)
    (hstep : ∀ i x S, R i S → L[i]? = some x → ∃ S', evD E c S = some (.normal, S') ∧ R (i + 1) S')
    (hend : ∀ S, R L.length S → ∃ r, evD E c S = some r ∧ r.1 ≠ .normal ∧ F r) :
    ∀ (n i : Nat) S, L.length - i = n → R i S → i ≤ L.length → ∃ r, evD E (.loop ks kl c) S = some r ∧ F r
  | 0, i, S, hn, hR, hi => by
    have e : i = L.length := by omega
    subst e
    obtain ⟨⟨x, S'⟩, h1, h2, h3⟩ := hend S hR
    refine ⟨(x, S'), ?_, h3⟩
    rw [evD_loop, hk _ _ hR, h1]
    cases x with
    | normal => exact absurd rfl h2
    | _ => rfl
  | n + 1, i, S, hn, hR, hi => by
    have hlt : i < L.length := by omega
    obtain ⟨S', h1, h2⟩ := hstep i _ S hR (List.getElem?_eq_getElem hlt)
    rw [evD_loop, hk _ _ hR, h1, seqK_normal]
    exact evD_foldR L R F hk hstep hend n (i + 1) S' (by omega) h2 hlt
def looseX (x : Item) : Bool := decide (x.k = 2) || decide (x.k = 3)
def forcesX (x : Item) : Bool := decide (x.k = 3) && decide (x.n ≤ -10000)
theorem loose_ev (x : Item) (H : Heap) : clD EE (.p (.fn 36)) [vItem x] H = some (vB (looseX x), none) := by
  rw [clD_body _ _ _ _ _ _ (noP _) fn36]
  unfold looseX
  by_cases h : x.k = 2 <;> simp [St.enter, enumFrom, subs, setSubs, h]
theorem forces_ev (x : Item) (H : Heap) : clD EE (.p (.fn 42)) [vItem x] H = some (vB (forcesX x), none) := by
  rw [clD_body _ _ _ _ _ _ (noP _) fn42]
  unfold forcesX
  by_cases h : x.k = 3 <;> simp [St.enter, enumFrom, subs, setSubs, h]
theorem items1_ev (x : Item) (H : Heap) : clD EE (.p (.fn 39)) [vItem x] H = some (vB (!looseX x), none) := by
  rw [clD_body _ _ _ _ _ _ (noP _) fn39]
  have h := fun H => loose_ev x H
  simp [St.enter, enumFrom, subs, setSubs, h]
theorem items2_ev (x : Item) (H : Heap) : clD EE (.p (.fn 40)) [vItem x] H = some (vB (decide (x.k = 2)), none) := by
  rw [clD_body _ _ _ _ _ _ (noP _) fn40]
  simp [St.enter, enumFrom, subs, setSubs]
abbrev cJb (j : Job) : List V := cGeom j.g ++ [vItems j.items, vNotes j.notes, vFloats j.floats]
def isF (I : List Item) (t : Int) (q : Item → Bool) : Bool := if 0 ≤ t ∧ t < I.length then q (rd I t) else false
theorem is_ev (j : Job) (p : Nat) (ws : List Warn) (t : Int) (k : Nat) (q : Item → Bool) (H : Heap) (h : Look H p (cJb j) ws) (hq : ∀ x H, clD EE (.p (.fn k)) [vItem x] H = some (vB (q x), none)) :
    clD EE (.p (.fn 38)) [.ptr p 0, vI t, .p (.fn k)] H = some (vB (isF j.items t q), none) := by
  obtain ⟨o, hb, -⟩ := h.out
  rw [clD_body _ _ _ _ _ _ (noP _) fn38]
  unfold isF
  by_cases h0 : 0 ≤ t
  · by_cases h1 : t < j.items.length
    · have hg := rd_get j.items t h0 h1
      have hiy := fun H k => ixs_int H encItem (k := k) (s := 7) h0 hg rfl
      rw [if_pos ⟨h0, h1⟩]
      generalize rd j.items t = x at *
      simp [St.enter, enumFrom, subs, setSubs, hb, h0, h1, hiy, encItem, hq]
    · rw [if_neg (fun h => h1 h.2)]
      simp [St.enter, enumFrom, subs, setSubs, hb, h0, h1]
  · rw [if_neg (fun h => h0 h.1)]
    simp [St.enter, enumFrom, subs, setSubs, hb, h0]
/-! ### One after the other -/
def bB (I : List Item) : Nat → Bool
  | 0 => true
  | n + 1 => (bB I n && looseX (rd I n)) || (decide (0 < n) && forcesX (rd I n))
abbrev pen0 : Item := ⟨3, 0, 0, 0, 0, 0, 0⟩
def tallB (g : Geom) (x : Item) : Bool := decide (x.k = 1) && decide (g.high < x.h)
def lostB (I : List Item) (i : Nat) : Bool := bB I i && looseX (rd I i)
def idleB (I : List Item) (i : Nat) : Bool := decide (rd I i = pen0) && (isF I (i - 1) (fun x => !looseX x) && isF I (i + 1) (fun x => decide (x.k = 2)))
def perW (g : Geom) (I : List Item) (i : Nat) : List Warn := (if tallB g (rd I i) = true then [⟨1, i⟩] else []) ++ (if lostB I i = true then [⟨4, i⟩] else []) ++ (if idleB I i = true then [⟨5, i⟩] else [])
def itemsW (g : Geom) (I : List Item) : Nat → List Warn
  | 0 => []
  | n + 1 => itemsW g I n ++ perW g I n
theorem itemsW_len (g : Geom) (I : List Item) : ∀ n, (itemsW g I n).length ≤ 3 * n
  | 0 => by simp [itemsW]
  | n + 1 => by
    have := itemsW_len g I n
    simp only [itemsW, perW, List.length_append]
    have e : ∀ (b : Bool) (w : Warn), (if b = true then [w] else []).length ≤ 1 := by intro b w; cases b <;> simp
    have e1 := e (tallB g (rd I n)) ⟨1, n⟩
    have e2 := e (lostB I n) ⟨4, n⟩
    have e3 := e (idleB I n) ⟨5, n⟩
    omega
def itE (j : Job) (p B : Nat) (H : Heap) (d : List Nat) (b : Bool) (i : Nat) : St := ⟨[(0, .ptr p 0), (2, vB b), (12, vItems j.items), (13, vI j.items.length), (14, vI i)], [], H, B, d⟩
def itR (j : Job) (p B : Nat) (H0 : Heap) (ws : List Warn) (i : Nat) (S : St) : Prop := ∃ H d, S = itE j p B H d (bB j.items i) i ∧ Look H p (cJb j) (ws ++ itemsW j.g j.items i) ∧ (d = [] → Look H0 p (cJb j) (ws ++ itemsW j.g j.items i))
def itF (j : Job) (p B : Nat) (H0 : Heap) (ws : List Warn) (r : Ex × St) : Prop := ∃ H d, r = (.exit 0, ⟨[(0, .ptr p 0), (2, vB (bB j.items j.items.length)), (12, vItems j.items), (13, vI j.items.length), (14, vI j.items.length), (15, vB false)], [], H, B, d⟩) ∧ Look H p (cJb j) (ws ++ itemsW j.g j.items j.items.length) ∧ (d = [] → Look H0 p (cJb j) (ws ++ itemsW j.g j.items j.items.length))
theorem rd_of {α : Type} [Inhabited α] {l : List α} {i : Nat} {x : α} (h : l[i]? = some x) : rd l i = x := by
  unfold rd
  simp [List.getD, h]
set_option maxHeartbeats 4000000 in
theorem ltItems_lp (j : Job) (p B : Nat) (hpB : p < B) (H0 : Heap) (ws : List Warn) (hl : j.items.length ≤ 1000000) (hw : ws.length ≤ 100000000) (S : St) (hS : itR j p B H0 ws 0 S) :
    ∃ r, evD EE lp16_0 S = some r ∧ itF j p B H0 ws r := by
  unfold lp16_0
  refine evD_foldR j.items (itR j p B H0 ws) (itF j p B H0 ws) (by rintro i S ⟨H, d, rfl, -, -⟩; rfl) ?_ ?_ _ 0 S rfl hS (Nat.zero_le _)
  · rintro i x S ⟨H, d, rfl, hL, hL0⟩ hx
    have hlt := (List.getElem?_eq_some_iff.1 hx).1
    have hix := fun H k => ixs_nat H encItem (k := k) (s := 7) hx rfl
    have hrd := rd_of hx
    have w : IntKind.i64.wrap ((i : Int) + 1) = ((i + 1 : Nat) : Int) := w64 (by omega) (by omega)
    have wm : IntKind.i64.wrap ((i : Int) - 1) = (i : Int) - 1 := w64 (by omega) (by omega)
    have hwl := itemsW_len j.g j.items i
    have lo := fun H => loose_ev x H
    have fo := fun H => forces_ev x H
    have pe := fun H => pen_item_ev 0 H
    obtain ⟨r1, h1, L1, -, m1⟩ := tell_ev p (cJb j) rfl (ws ++ itemsW j.g j.items i) 1 i (tallB j.g x) H hL (by simp; omega)
    have e : ∀ (l : List Warn) (b : Bool) (w : Warn), (l ++ if b = true then [w] else []).length ≤ l.length + 1 := by intro l b w; cases b <;> simp
    have q1 := e (ws ++ itemsW j.g j.items i) (tallB j.g x) ⟨1, i⟩
    obtain ⟨r2, h2, L2, -, m2⟩ := tell_ev p (cJb j) rfl _ 4 i (lostB j.items i) (hpOf H r1) L1 (by simp only [List.length_append] at q1 ⊢; omega)
    have q2 := Nat.le_trans (e (ws ++ itemsW j.g j.items i ++ if tallB j.g x = true then [⟨1, i⟩] else []) (lostB j.items i) ⟨4, i⟩) (Nat.add_le_add_right q1 1)
    obtain ⟨r3, h3, L3, -, m3⟩ := tell_ev p (cJb j) rfl _ 5 i (idleB j.items i) (hpOf (hpOf H r1) r2) L2 (by simp only [List.length_append] at q2 ⊢; omega)
    have s1 := is_ev j p _ ((i : Int) - 1) _ _ _ L2 items1_ev
    have s2 := is_ev j p _ ((i : Int) + 1) _ _ _ L2 items2_ev
    obtain ⟨o, hb, -⟩ := hL.out
    refine ⟨itE j p B (hpOf (hpOf (hpOf H r1) r2) r3) ((dsOf r3).foldr (addD B) ((dsOf r2).foldr (addD B) ((dsOf r1).foldr (addD B) d))) (bB j.items (i + 1)) (i + 1), ?_, _, _, rfl, ?_, ?_⟩
    · have eb : bB j.items (i + 1) = (lostB j.items i || (decide (0 < i) && forcesX x)) := by simp only [bB, lostB, hrd]
      have el : lostB j.items i = (bB j.items i && looseX x) := by simp only [lostB, hrd]
      have ei : idleB j.items i = (decide (x = pen0) && (isF j.items (i - 1) (fun x => !looseX x) && isF j.items (i + 1) (fun x => decide (x.k = 2)))) := by simp only [idleB, hrd]
      rw [eb]
      generalize isF j.items ((i : Int) - 1) (fun x => !looseX x) = a at *
      generalize isF j.items ((i : Int) + 1) (fun x => decide (x.k = 2)) = c at *
      generalize hta : tallB j.g x = ta at *
      generalize bB j.items i = bb at *
      generalize lostB j.items i = ll at *
      generalize idleB j.items i = ii at *
      have hpd : (decide (x.k = 3) && (decide (x.h = 0) && (decide (x.f = 0) && (decide (x.str = 0) && (decide (x.ord = 0) && (decide (x.shr = 0) && decide (x.n = 0))))))) = decide (x = pen0) := by
        cases x; simp
      have hpp : (x.k = 3 ∧ x.h = 0 ∧ x.f = 0 ∧ x.str = 0 ∧ x.ord = 0 ∧ x.shr = 0 ∧ x.n = 0) ↔ (decide (x = pen0) = true) := by
        cases x; simp
      have hp3 : decide (x = pen0) = true → x.k = 3 := fun h => (hpp.2 h).1
      generalize looseX x = lx at *
      generalize forcesX x = fx at *
      generalize decide (x = pen0) = pp at *
      subst el ei
      have goal1 : ∀ H1 : Heap, True := fun _ => trivial
      by_cases k1 : x.k = 1
      · have et : ta = decide (j.g.high < x.h) := by rw [← hta]; simp [tallB, k1]
        rw [et] at h1
        have pf : pp = false := by cases pp with | false => rfl | true => exact absurd (hp3 rfl) (by rw [k1]; decide)
        subst pf
        simp only [vItem, k1] at lo fo
        by_cases i0 : 0 < i <;> cases bb <;> cases lx <;> simp only [Bool.true_and, Bool.false_and, Bool.and_true, Bool.and_false] at h2 h3 <;>
          simp [itE, hlt, hix, encItem, subs, setSubs, w, wm, lo, fo, pe, hb, h1, h2, h3, s1, s2, k1, callR_opt, i0]
      · have et : ta = false := by rw [← hta]; simp [tallB, k1]
        rw [et] at h1
        by_cases i0 : 0 < i <;> cases bb <;> cases lx <;> cases pp <;> cases a <;> simp only [Bool.true_and, Bool.false_and, Bool.and_true, Bool.and_false] at h2 h3 <;>
          simp [itE, hlt, hix, encItem, subs, setSubs, w, wm, lo, fo, pe, hb, h1, h2, h3, s1, s2, k1, callR_opt, i0, hpd, hpp]
    · simp only [itemsW, perW, hrd, List.append_assoc] at L3 ⊢
      exact L3
    · intro hd
      rcases m3 with ⟨-, b3⟩ | m3
      · rcases m2 with ⟨-, b2⟩ | m2
        · rcases m1 with ⟨-, b1⟩ | m1
          · have hd0 : d = [] := by
              cases d with
              | nil => rfl
              | cons y d' =>
                have := foldD_mem (B := B) (ds := dsOf r3) (foldD_mem (B := B) (ds := dsOf r2) (foldD_mem (B := B) (ds := dsOf r1) (show y ∈ y :: d' from List.mem_cons_self)))
                rw [hd] at this; cases this
            have := hL0 hd0
            simp only [itemsW, perW, hrd, b1, b2, b3]
            simpa using this
          · have := foldD_mem (B := B) (ds := dsOf r3) (foldD_mem (B := B) (ds := dsOf r2) (foldD_in (d := d) m1 hpB))
            rw [hd] at this; cases this
        · have := foldD_mem (B := B) (ds := dsOf r3) (foldD_in (d := (dsOf r1).foldr (addD B) d) m2 hpB)
          rw [hd] at this; cases this
      · have := foldD_in (B := B) (d := (dsOf r2).foldr (addD B) ((dsOf r1).foldr (addD B) d)) m3 hpB
        rw [hd] at this; cases this
  · rintro S ⟨H, d, rfl, hL, hL0⟩
    refine ⟨_, ?_, ?_, H, d, rfl, hL, hL0⟩
    · simp [itE]
    · simp
theorem ltItems_ev (j : Job) (p : Nat) (ws : List Warn) (H : Heap) (hL : Look H p (cJb j) ws) (hl : j.items.length ≤ 1000000) (hw : ws.length ≤ 100000000) :
    ∃ r, clD EE (.p (.fn 16)) [.ptr p 0] H = some (.tup [], r) ∧ Look (hpOf H r) p (cJb j) (ws ++ itemsW j.g j.items j.items.length) := by
  obtain ⟨o, hb, -⟩ := hL.out
  obtain ⟨x, h1, H1, d, rfl, h2, h3⟩ := ltItems_lp j p H.length hL.lt H ws hl hw (itE j p H.length H [] true 0) ⟨H, [], rfl, by simpa [itemsW] using hL, fun _ => by simpa [itemsW] using hL⟩
  refine ⟨if d = [] then none else some (H1, d), ?_, ?_⟩
  · rw [clD_body _ _ _ _ _ _ (noP _) fn16]
    simp [itE] at h1
    simp [St.enter, enumFrom, subs, setSubs, hb, h1]
  · by_cases hd : d = []
    · rw [if_pos hd]; exact h3 hd
    · rw [if_neg hd]; exact h2
end Go.EnvOf

/- A look at a job: its notes and its floats. -/
namespace Go.EnvOf
open Go Go.Eng
set_option maxRecDepth 100000
def idxW (k : Int) (q : Nat → Bool) : Nat → List Warn
  | 0 => []
  | n + 1 => idxW k q n ++ (if q n = true then [⟨k, n⟩] else [])
theorem idxW_len (k : Int) (q : Nat → Bool) : ∀ n, (idxW k q n).length ≤ n
  | 0 => by simp [idxW]
  | n + 1 => by
    have := idxW_len k q n
    simp only [idxW, List.length_append]
    cases q n <;> simp <;> omega
/-- What one telling keeps true. -/
theorem keeps {B p : Nat} {J : List V} {H0 : Heap} {ws ws' : List Warn} {d : List Nat} {r : Option (Heap × List Nat)} {b : Bool} (hpB : p < B) (hL0 : d = [] → Look H0 p J ws) (hm : r = none ∧ b = false ∨ p ∈ dsOf r) (he : b = false → ws' = ws) (hd : (dsOf r).foldr (addD B) d = []) : Look H0 p J ws' := by
  rcases hm with ⟨hr, hb⟩ | hm
  · rw [he hb]
    apply hL0
    rw [hr] at hd
    exact hd
  · have := foldD_in (B := B) (d := d) hm hpB
    rw [hd] at this; cases this

/-! ### The notes -/
def limJ (g : Geom) : Int := IntKind.i64.wrap (min g.noteMost g.high - g.rule)
def longB (lim : Int) (n : Note) : Bool := n.lines.any fun h => decide (lim < h)
def nnE (j : Job) (p B : Nat) (H : Heap) (d : List Nat) (lim : Int) (i : Nat) (ls : List Int) (b : Bool) (k : Nat) : St :=
  ⟨[(0, .ptr p 0), (2, vI lim), (3, vI i), (5, vB b), (32, vNotes j.notes), (33, vI j.notes.length), (34, vI i), (40, sli ls), (41, vI ls.length), (42, vI k)], [], H, B, d⟩
def nnX (j : Job) (p B : Nat) (H : Heap) (d : List Nat) (lim : Int) (i : Nat) (ls : List Int) (b : Bool) : Ex × St :=
  (.exit 2, ⟨[(0, .ptr p 0), (2, vI lim), (3, vI i), (5, vB b), (32, vNotes j.notes), (33, vI j.notes.length), (34, vI i), (40, sli ls), (41, vI ls.length), (42, vI ls.length), (43, vB false)], [], H, B, d⟩)
theorem fold_orB {α : Type} (p : α → Bool) : ∀ (l : List α) (w : Bool) (i : Nat), fold (fun (w : Bool) _ x => w || p x) w i l = (w || l.any p)
  | [], w, i => by simp [fold]
  | x :: r, w, i => by simp only [fold, fold_orB p r, List.any_cons, Bool.or_assoc]
theorem nn_lp (j : Job) (p B : Nat) (H : Heap) (d : List Nat) (lim : Int) (i : Nat) (ls : List Int) (hl : ls.length ≤ 1000000) : evD EE lp17_0 (nnE j p B H d lim i ls false 0) = some (nnX j p B H d lim i ls (ls.any fun h => decide (lim < h))) := by
  unfold lp17_0
  refine Eq.trans (evD_fold ls (nnE j p B H d lim i ls) (fun _ _ => True) (fun (w : Bool) _ x => w || decide (lim < x)) (nnX j p B H d lim i ls) (fun _ _ => rfl) ?_ ?_ false 0 trivial (Nat.zero_le _)) (by rw [List.drop_zero, fold_orB]; rfl)
  · intro b k x _ hx
    refine ⟨?_, trivial⟩
    have hlt := (List.getElem?_eq_some_iff.1 hx).1
    have hix := fun H k => ixs_nat H encI (k := k) (s := 1) hx rfl
    have w : IntKind.i64.wrap ((k : Int) + 1) = ((k + 1 : Nat) : Int) := w64 (by omega) (by omega)
    cases b <;> simp [nnE, hlt, hix, encI, subs, w]
  · intro b _
    refine ⟨?_, by simp [nnX]⟩
    simp [nnE, nnX]
def noE (j : Job) (p B : Nat) (H : Heap) (d : List Nat) (lim : Int) (i : Nat) : St := ⟨[(0, .ptr p 0), (2, vI lim), (32, vNotes j.notes), (33, vI j.notes.length), (34, vI i)], [], H, B, d⟩
def notesW (lim : Int) (N : List Note) : Nat → List Warn := idxW 2 fun i => longB lim (rd N i)
def noR (j : Job) (p B : Nat) (H0 : Heap) (lim : Int) (ws : List Warn) (i : Nat) (S : St) : Prop := ∃ H d, S = noE j p B H d lim i ∧ Look H p (cJb j) (ws ++ notesW lim j.notes i) ∧ (d = [] → Look H0 p (cJb j) (ws ++ notesW lim j.notes i))
def noF (j : Job) (p B : Nat) (H0 : Heap) (lim : Int) (ws : List Warn) (r : Ex × St) : Prop := ∃ H d, r = (.exit 0, ⟨[(0, .ptr p 0), (2, vI lim), (32, vNotes j.notes), (33, vI j.notes.length), (34, vI j.notes.length), (35, vB false)], [], H, B, d⟩) ∧ Look H p (cJb j) (ws ++ notesW lim j.notes j.notes.length) ∧ (d = [] → Look H0 p (cJb j) (ws ++ notesW lim j.notes j.notes.length))
theorem no_lp (j : Job) (p B : Nat) (hpB : p < B) (H0 : Heap) (lim : Int) (ws : List Warn) (hl : j.notes.length ≤ 1000000) (hln : ∀ n ∈ j.notes, n.lines.length ≤ 1000000) (hw : ws.length ≤ 100000000) (S : St) (hS : noR j p B H0 lim ws 0 S) :
    ∃ r, evD EE lp17_1 S = some r ∧ noF j p B H0 lim ws r := by
  unfold lp17_1
  refine evD_foldR j.notes (noR j p B H0 lim ws) (noF j p B H0 lim ws) (by rintro i S ⟨H, d, rfl, -, -⟩; rfl) ?_ ?_ _ 0 S rfl hS (Nat.zero_le _)
  · rintro i x S ⟨H, d, rfl, hL, hL0⟩ hx
    have hlt := (List.getElem?_eq_some_iff.1 hx).1
    have hix := fun H k => ixs_nat H encNote (k := k) (s := 2) hx rfl
    have hrd := rd_of hx
    have w : IntKind.i64.wrap ((i : Int) + 1) = ((i + 1 : Nat) : Int) := w64 (by omega) (by omega)
    have hwl := idxW_len 2 (fun i => longB lim (rd j.notes i)) i
    have k0 := nn_lp j p B H d lim i x.lines (hln x (List.mem_of_getElem? hx))
    have ex : (x.lines.any fun h => decide (lim < h)) = longB lim x := rfl
    rw [ex] at k0
    obtain ⟨r1, h1, L1, -, m1⟩ := tell_ev p (cJb j) rfl (ws ++ notesW lim j.notes i) 2 i (longB lim x) H hL (by unfold notesW; simp; omega)
    obtain ⟨o, hb, -⟩ := hL.out
    have hs : notesW lim j.notes (i + 1) = notesW lim j.notes i ++ (if longB lim x = true then [⟨2, i⟩] else []) := by simp only [notesW, idxW, hrd]
    refine ⟨noE j p B (hpOf H r1) ((dsOf r1).foldr (addD B) d) lim (i + 1), ?_, _, _, rfl, ?_, ?_⟩
    · generalize longB lim x = lb at *
      simp [nnE, nnX] at k0
      simp [noE, hlt, hix, encNote, subs, setSubs, w, k0, h1, callR_opt]
    · rw [hs, ← List.append_assoc]; exact L1
    · intro hd
      refine keeps hpB hL0 m1 (fun hb => ?_) hd
      rw [hs, hb]; simp
  · rintro S ⟨H, d, rfl, hL, hL0⟩
    refine ⟨_, ?_, ?_, H, d, rfl, hL, hL0⟩
    · simp [noE]
    · simp
theorem ltNotes_ev (j : Job) (p : Nat) (ws : List Warn) (H : Heap) (hL : Look H p (cJb j) ws) (hl : j.notes.length ≤ 1000000) (hln : ∀ n ∈ j.notes, n.lines.length ≤ 1000000) (hw : ws.length ≤ 100000000) :
    ∃ r, clD EE (.p (.fn 17)) [.ptr p 0] H = some (.tup [], r) ∧ Look (hpOf H r) p (cJb j) (ws ++ notesW (limJ j.g) j.notes j.notes.length) := by
  obtain ⟨o, hb, -⟩ := hL.out
  obtain ⟨x, h1, H1, d, rfl, h2, h3⟩ := no_lp j p H.length hL.lt H (limJ j.g) ws hl hln hw (noE j p H.length H [] (limJ j.g) 0) ⟨H, [], rfl, by simpa [notesW, idxW] using hL, fun _ => by simpa [notesW, idxW] using hL⟩
  refine ⟨if d = [] then none else some (H1, d), ?_, ?_⟩
  · rw [clD_body _ _ _ _ _ _ (noP _) fn17]
    simp [noE, limJ] at h1
    simp [St.enter, enumFrom, subs, setSubs, hb, h1]
  · by_cases hd : d = []
    · rw [if_pos hd]; exact h3 hd
    · rw [if_neg hd]; exact h2
end Go.EnvOf

/- A look at a job: its floats. -/
namespace Go.EnvOf
open Go Go.Eng
set_option maxRecDepth 100000
def fitPr (g : Geom) (l : List Float) (p : Pr) : Bool := fitT g l p.1 && fitB g l p.2
theorem floats1_ev (j : Job) (p q : Nat) (ws : List Warn) (pr : Pr) (H : Heap) (hL : Look H p (cJb j) ws) (hq : Eng.boxAt H q = some [.ptr p 0]) (h1 : pr.1.length ≤ 1000000) (h2 : pr.2.length ≤ 1000000) :
    clD EE (.fn (.func 43) [] [.ptr q 0]) [vPair pr] H = some (vB (fitPr j.g j.floats pr), none) := by
  obtain ⟨o, hb, -⟩ := hL.out
  rw [clD_clo, clD_body _ _ _ _ _ _ (noP _) fn43]
  have f := fun H => afits_ev j.g j.floats pr H h1 h2
  simp [St.enter, enumFrom, subs, setSubs, hb, hq, f, fitPr]
def stuckB (g : Geom) (F : List Float) (i : Nat) : Bool := !fitPr g F ([(i : Int)], []) && !fitPr g F ([], [(i : Int)])
def floatsW (g : Geom) (F : List Float) : Nat → List Warn := idxW 3 (stuckB g F)
def clF (q : Nat) : V := .fn (.func 43) [] [.ptr q 0]
def foE (j : Job) (q B : Nat) (H : Heap) (d : List Nat) (i : Nat) : St := ⟨[(1, .ptr q 0), (2, clF q), (11, vI j.floats.length), (12, vI i)], [], H, B, d⟩
def foR (j : Job) (p q B : Nat) (H0 : Heap) (ws : List Warn) (i : Nat) (S : St) : Prop := ∃ H d, S = foE j q B H d i ∧ Look H p (cJb j) (ws ++ floatsW j.g j.floats i) ∧ (d = [] → Look H0 p (cJb j) (ws ++ floatsW j.g j.floats i)) ∧ Eng.boxAt H q = some [.ptr p 0]
def foF (j : Job) (p q B : Nat) (H0 : Heap) (ws : List Warn) (r : Ex × St) : Prop := ∃ H d, r = (.exit 0, ⟨[(1, .ptr q 0), (2, clF q), (11, vI j.floats.length), (12, vI j.floats.length), (13, vB false)], [], H, B, d⟩) ∧ Look H p (cJb j) (ws ++ floatsW j.g j.floats j.floats.length) ∧ (d = [] → Look H0 p (cJb j) (ws ++ floatsW j.g j.floats j.floats.length))
theorem fo_lp (j : Job) (p q B : Nat) (hpB : p < B) (hqp : q ≠ p) (H0 : Heap) (ws : List Warn) (hl : j.floats.length ≤ 1000000) (hw : ws.length ≤ 100000000) (S : St) (hS : foR j p q B H0 ws 0 S) :
    ∃ r, evD EE lp18_0 S = some r ∧ foF j p q B H0 ws r := by
  unfold lp18_0
  refine evD_foldR j.floats (foR j p q B H0 ws) (foF j p q B H0 ws) (by rintro i S ⟨H, d, rfl, -, -⟩; rfl) ?_ ?_ _ 0 S rfl hS (Nat.zero_le _)
  · rintro i x S ⟨H, d, rfl, hL, hL0, hq⟩ hx
    have hlt := (List.getElem?_eq_some_iff.1 hx).1
    have w : IntKind.i64.wrap ((i : Int) + 1) = ((i + 1 : Nat) : Int) := w64 (by omega) (by omega)
    have hwl := idxW_len 3 (stuckB j.g j.floats) i
    have f1 := floats1_ev j p q _ ([(i : Int)], []) H hL hq (by simp) (by simp)
    have f2 := floats1_ev j p q _ ([], [(i : Int)]) H hL hq (by simp) (by simp)
    obtain ⟨r1, h1, L1, hpres, m1⟩ := tell_ev p (cJb j) rfl (ws ++ floatsW j.g j.floats i) 3 i (stuckB j.g j.floats i) H hL (by unfold floatsW; simp; omega)
    obtain ⟨o, hb, -⟩ := hL.out
    have hs : floatsW j.g j.floats (i + 1) = floatsW j.g j.floats i ++ (if stuckB j.g j.floats i = true then [⟨3, i⟩] else []) := rfl
    refine ⟨foE j q B (hpOf H r1) ((dsOf r1).foldr (addD B) d) (i + 1), ?_, _, _, rfl, ?_, ?_, hpres q _ hqp hq⟩
    · unfold stuckB at h1
      simp only [vPair, sli, List.map_cons, List.map_nil, encI] at f1 f2
      simp at f1 f2
      cases ha : fitPr j.g j.floats ([(i : Int)], []) with
      | true =>
        rw [ha] at h1 f1
        simp at h1
        simp [foE, clF, hlt, encI, subs, setSubs, w, hq, f1, h1, callR_opt]
      | false =>
        rw [ha] at h1 f1
        simp at h1
        simp [foE, clF, hlt, encI, subs, setSubs, w, hq, f1, f2, h1, callR_opt]
    · rw [hs, ← List.append_assoc]; exact L1
    · intro hd
      refine keeps hpB hL0 m1 (fun hb => ?_) hd
      rw [hs, hb]; simp
  · rintro S ⟨H, d, rfl, hL, hL0, hq⟩
    refine ⟨_, ?_, ?_, H, d, rfl, hL, hL0⟩
    · simp [foE]
    · simp
theorem ltFloats_ev (j : Job) (p : Nat) (ws : List Warn) (H : Heap) (hL : Look H p (cJb j) ws) (hl : j.floats.length ≤ 1000000) (hw : ws.length ≤ 100000000) :
    ∃ r, clD EE (.p (.fn 18)) [.ptr p 0] H = some (.tup [], r) ∧ Look (hpOf H r) p (cJb j) (ws ++ floatsW j.g j.floats j.floats.length) := by
  obtain ⟨o, hb, ho⟩ := id hL.out
  have hlt := hL.lt
  have hL1 : Look (H ++ [.box [.ptr p 0]]) p (cJb j) ws := by
    refine ⟨⟨o, (boxAt_app_lt _ hlt).trans hb, ?_⟩, by simp; omega⟩
    rcases ho with ho | ⟨id, hid, hpi, rfl, hr, hw⟩
    · exact .inl ho
    · refine .inr ⟨id, by simp; omega, hpi, rfl, ?_, hw⟩
      rw [Eng.rowAt, List.getElem?_append_left hid]; exact hr
  obtain ⟨x, h1, H1, d, rfl, h2, h3⟩ := fo_lp j p H.length H.length hlt (by omega) H ws hl hw (foE j H.length H.length (H ++ [.box [.ptr p 0]]) [] 0) ⟨_, [], rfl, by simpa [floatsW, idxW] using hL1, fun _ => by simpa [floatsW, idxW] using hL, by simp⟩
  refine ⟨if d = [] then none else some (H1, d), ?_, ?_⟩
  · rw [clD_body _ _ _ _ _ _ (noP _) fn18]
    have hb2 := fun T => (boxAt_app_lt T hlt).trans hb
    simp [foE, clF] at h1
    simp [St.enter, enumFrom, subs, setSubs, hb, hb2, h1]
  · by_cases hd : d = []
    · rw [if_pos hd]; exact h3 hd
    · rw [if_neg hd]; exact h2
end Go.EnvOf
