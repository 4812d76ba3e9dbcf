/- The program's functions and the document's, evaluated. -/
import Derived.KernelRfl
import Derived.Test.YtfjgcfloallohaaGreatDoorText2
/- Notes: how high lines are. -/
namespace Go.EnvOf
open Go Go.Eng

def note (lines pens : List Int) : V := .agg [sli lines, sli pens]
theorem ixs_sli (H : Heap) (L : List Int) (k : IntKind) (i : Int) (h0 : 0 ≤ i) (h1 : i < L.length) : ixsI H (.p (.sl (L.map encI))) (.p (.int k i)) 1 = some (.eptr [.p (.int .i64 (rd L i))] 0) :=
  ixs_map H encI L k i 1 (fun _ => rfl) h0 h1

def far : Int := 1125899906842624
def hstep (s x : Int) : Int := min (s + min (max x 0) far) far
def hsum (s : Int) (l : List Int) : Int := l.foldl hstep s
theorem hstep_lo {s x : Int} (h : 0 ≤ s) : 0 ≤ hstep s x := by unfold hstep far; omega
theorem hstep_hi {s x : Int} : hstep s x ≤ far := by unfold hstep; omega

theorem drop_cons (L : List Int) (i : Int) (t : Nat) (h0 : 0 ≤ i) (h1 : i.toNat < t) (h2 : t ≤ L.length) : (L.take t).drop i.toNat = rd L i :: (L.take t).drop (i + 1).toNat := by
  have e : (i + 1).toNat = i.toNat + 1 := by omega
  rw [e, List.drop_eq_getElem_cons (by simp; omega)]
  congr 1
  unfold rd
  have : i.toNat < L.length := by omega
  simp [List.getD_eq_getElem?_getD, this]

/-- How high lines are, whoever is asked. -/
def highF (L : List Int) (frm to_ : Int) : Int := hsum 0 ((L.take (min to_ L.length).toNat).drop (max frm 0).toNat)

theorem take_succ (L : List Int) (i : Int) (h0 : 0 ≤ i) (h1 : i < L.length) : L.take (i + 1).toNat = L.take i.toNat ++ [rd L i] := by
  have e : (i + 1).toNat = i.toNat + 1 := by omega
  have hlt : i.toNat < L.length := by omega
  rw [e, List.take_add_one]
  congr 1
  rw [rd_get L i h0 h1]; rfl

/-- The lines of so many that lie between. -/
def part (L : List Int) (frm to_ i : Int) : List Int := (L.take (min to_ i).toNat).drop (max frm 0).toNat
theorem part_in (L : List Int) (frm to_ i : Int) (h0 : 0 ≤ i) (h1 : i < L.length) (h2 : frm ≤ i) (h3 : i < to_) : part L frm to_ (i + 1) = part L frm to_ i ++ [rd L i] := by
  unfold part
  have e1 : (min to_ (i + 1)) = i + 1 := by omega
  have e2 : (min to_ i) = i := by omega
  rw [e1, e2, take_succ L i h0 h1, List.drop_append_of_le_length (by simp; omega)]
theorem part_out (L : List Int) (frm to_ i : Int) (h0 : 0 ≤ i) (h2 : ¬ (frm ≤ i ∧ i < to_)) : part L frm to_ (i + 1) = part L frm to_ i := by
  unfold part
  by_cases h : i < to_
  · have h3 : i < frm := by omega
    have e1 : (L.take (min to_ (i + 1)).toNat).drop (max frm 0).toNat = [] := by rw [List.drop_eq_nil_iff]; simp; omega
    have e2 : (L.take (min to_ i).toNat).drop (max frm 0).toNat = [] := by rw [List.drop_eq_nil_iff]; simp; omega
    rw [e1, e2]
  · have e1 : (min to_ (i + 1)).toNat = (min to_ i).toNat := by omega
    rw [e1]
theorem hsum_snoc (s : Int) (l : List Int) (x : Int) : hsum s (l ++ [x]) = hstep (hsum s l) x := by simp [hsum]
theorem hsum_lo : ∀ (l : List Int) {s : Int}, 0 ≤ s → 0 ≤ hsum s l
  | [], s, h => h
  | x :: r, s, h => hsum_lo r (hstep_lo h)
theorem hsum_hi : ∀ (l : List Int) {s : Int}, s ≤ far → hsum s l ≤ far
  | [], s, h => h
  | x :: r, s, h => hsum_hi r hstep_hi

end Go.EnvOf

/- Notes: where they may split, and end. -/
namespace Go.EnvOf
open Go Go.Eng

/-- May it be split there? -/
def splitF (L M : List Int) (at_ : Int) : Bool := decide (0 < at_ ∧ at_ < L.length ∧ at_ ≤ M.length ∧ rd M (at_ - 1) < 10000)
def mayF (L M : List Int) (at_ : Int) : Bool := decide (at_ = L.length) || splitF L M at_
def penF (L M : List Int) (at_ : Int) : Int := if splitF L M at_ = true then rd M (at_ - 1) else 0

theorem splitF_in {L M : List Int} {at_ : Int} (h : splitF L M at_ = true) : 0 < at_ ∧ at_ < L.length ∧ at_ ≤ M.length := by
  unfold splitF at h; simp at h; omega

end Go.EnvOf

/- Notes: all places where they may end. -/
namespace Go.EnvOf
open Go Go.Eng

/-- Of so many numbers from one on those that are wanted. -/
def sel (p : Int → Bool) (a : Int) : Nat → List Int
  | 0 => []
  | n + 1 => (if p a = true then [a] else []) ++ sel p (a + 1) n

theorem sel_len (p : Int → Bool) : ∀ (n : Nat) (a : Int), (sel p a n).length ≤ n
  | 0, _ => Nat.le_refl _
  | n + 1, a => by
    have := sel_len p n (a + 1)
    simp only [sel, List.length_append]
    split <;> simp <;> omega

theorem map_snoc {α β : Type} (f : α → β) (l : List α) (x : α) : l.map f ++ [f x] = (l ++ [x]).map f := by simp

end Go.EnvOf

/- Notes: where they may end, by the document; the same numbers. -/
namespace Go.EnvOf
open Go Go.Eng

def rstopF (L M : List Int) (frm i : Int) : Bool := decide (frm < i) && mayF L M i

/-- What does not count comes to nothing. -/
theorem sel_none {p : Int → Bool} : ∀ (n : Nat) (a : Int), (∀ i, a ≤ i → i < a + n → p i = false) → sel p a n = []
  | 0, _, _ => rfl
  | n + 1, a, h => by
    simp only [sel, h a (by omega) (by omega), Bool.false_eq_true, if_false, List.nil_append]
    exact sel_none n (a + 1) fun i h1 h2 => h i (by omega) (by omega)
theorem sel_congr {p q : Int → Bool} : ∀ (n : Nat) (a : Int), (∀ i, a ≤ i → i < a + n → p i = q i) → sel p a n = sel q a n
  | 0, _, _ => rfl
  | n + 1, a, h => by
    simp only [sel, h a (by omega) (by omega)]
    rw [sel_congr n (a + 1) fun i h1 h2 => h i (by omega) (by omega)]
theorem sel_add {p : Int → Bool} : ∀ (m n : Nat) (a : Int), sel p a (m + n) = sel p a m ++ sel p (a + m) n
  | 0, n, a => by simp [sel]
  | m + 1, n, a => by
    have e : m + 1 + n = (m + n) + 1 := by omega
    rw [e]
    simp only [sel]
    rw [sel_add m n (a + 1), List.append_assoc]
    congr 3; omega

/-- Both name the same stops. -/
theorem stops_same (L M : List Int) (frm : Int) :
    sel (mayF L M) (min (max frm (-1)) L.length + 1) (L.length - (min (max frm (-1)) L.length + 1) + 1 : Int).toNat = sel (rstopF L M frm) 0 (L.length + 1) := by
  generalize hb : min (max frm (-1)) (L.length : Int) + 1 = b
  have h1 : 0 ≤ b := by omega
  have h2 : b ≤ L.length + 1 := by omega
  have e : L.length + 1 = b.toNat + (L.length - b + 1 : Int).toNat := by omega
  rw [e, sel_add, sel_none b.toNat 0 (fun i h3 h4 => by
    have : ¬ frm < i := by omega
    simp [rstopF, this]), List.nil_append]
  have e2 : (0 : Int) + (b.toNat : Int) = b := by omega
  rw [e2]
  refine sel_congr _ _ fun i h3 h4 => ?_
  have : frm < i := by omega
  simp [rstopF, this]

end Go.EnvOf

/- Notes: first stop, whether a note may be; the law NoteTells. -/
namespace Go.EnvOf
open Go Go.Eng

def stopsF (L M : List Int) (frm : Int) : List Int := sel (rstopF L M frm) 0 (L.length + 1)
def firstF (L M : List Int) (frm : Int) : Int := match stopsF L M frm with | [] => -1 | x :: _ => x

/-- Is something wrong with one of them? -/
def bad (lo hi : Int) (l : List Int) : Bool := l.any fun x => decide (x < lo) || decide (hi < x)

theorem drop_rd (L : List Int) (i : Int) (h0 : 0 ≤ i) (h1 : i < L.length) : L.drop i.toNat = rd L i :: L.drop (i + 1).toNat := by
  have := drop_cons L i L.length h0 (by omega) (Nat.le_refl _)
  rwa [List.take_length] at this

theorem chk_lp0 (L M : List Int) (H : Heap) (B : Nat) (hL : L.length ≤ 9223372036854775807) : ∀ (n : Nat) (i : Int) (wr : Bool), ((L.length : Int) - i).toNat = n → 0 ≤ i → i ≤ L.length →
    evD EE lp80_0 ⟨[(1, .lptr 1 0), (3, .p (.bool wr)), (29, sli L), (30, .p (.int .i64 L.length)), (31, .p (.int .i64 i))], [(1, [sli L, sli M])], H, B, []⟩ =
      some (.exit 0, ⟨[(1, .lptr 1 0), (3, .p (.bool (wr || bad 1 1073741823 (L.drop i.toNat)))), (29, sli L), (30, .p (.int .i64 L.length)), (31, .p (.int .i64 L.length)), (32, .p (.bool false))], [(1, [sli L, sli M])], H, B, []⟩) := by
  intro n
  induction n with
  | zero =>
    intro i wr hn h0 h1
    have e : i = L.length := by omega
    subst e
    unfold lp80_0
    rw [evD_loop]
    simp [sli, bad]
  | succ n ih =>
    intro i wr hn h0 h1
    have c : i < (L.length : Int) := by omega
    have w : IntKind.i64.wrap (i + 1) = i + 1 := wrap64_in _ (by omega) (by omega)
    have key := ih (i + 1) (wr || (decide (rd L i < 1) || decide (1073741823 < rd L i))) (by omega) (by omega) (by omega)
    have eb : bad 1 1073741823 (L.drop i.toNat) = ((decide (rd L i < 1) || decide (1073741823 < rd L i)) || bad 1 1073741823 (L.drop (i + 1).toNat)) := by rw [drop_rd L i h0 c]; simp [bad]
    rw [eb, ← Bool.or_assoc]
    unfold lp80_0
    rw [evD_loop]
    cases wr
    · by_cases c1 : rd L i < 1
      · simp (disch := omega) [sli, c, ixs_sli, subs, w, c1] at key ⊢
        exact key
      · simp (disch := omega) [sli, c, ixs_sli, subs, w, c1] at key ⊢
        exact key
    · simp (disch := omega) [sli, c, ixs_sli, subs, w] at key ⊢
      exact key
theorem chk_lp1 (M : List Int) (H : Heap) (B : Nat) (hM : M.length ≤ 9223372036854775807) : ∀ (n : Nat) (i : Int) (wr : Bool), ((M.length : Int) - i).toNat = n → 0 ≤ i → i ≤ M.length →
    evD EE lp80_1 ⟨[(3, .p (.bool wr)), (46, sli M), (47, .p (.int .i64 M.length)), (48, .p (.int .i64 i))], [], H, B, []⟩ =
      some (.exit 2, ⟨[(3, .p (.bool (wr || bad 0 10000 (M.drop i.toNat)))), (46, sli M), (47, .p (.int .i64 M.length)), (48, .p (.int .i64 M.length)), (49, .p (.bool false))], [], H, B, []⟩) := by
  intro n
  induction n with
  | zero =>
    intro i wr hn h0 h1
    have e : i = M.length := by omega
    subst e
    unfold lp80_1
    rw [evD_loop]
    simp [sli, bad]
  | succ n ih =>
    intro i wr hn h0 h1
    have c : i < (M.length : Int) := by omega
    have w : IntKind.i64.wrap (i + 1) = i + 1 := wrap64_in _ (by omega) (by omega)
    have key := ih (i + 1) (wr || (decide (rd M i < 0) || decide (10000 < rd M i))) (by omega) (by omega) (by omega)
    have eb : bad 0 10000 (M.drop i.toNat) = ((decide (rd M i < 0) || decide (10000 < rd M i)) || bad 0 10000 (M.drop (i + 1).toNat)) := by rw [drop_rd M i h0 c]; simp [bad]
    rw [eb, ← Bool.or_assoc]
    unfold lp80_1
    rw [evD_loop]
    cases wr
    · by_cases c1 : rd M i < 0
      · simp (disch := omega) [sli, c, ixs_sli, subs, w, c1] at key ⊢
        exact key
      · simp (disch := omega) [sli, c, ixs_sli, subs, w, c1] at key ⊢
        exact key
    · simp (disch := omega) [sli, c, ixs_sli, subs, w] at key ⊢
      exact key

/-- May it not be? -/
def wrongN (L M : List Int) : Bool := decide ((L.length : Int) < 1) || decide (64 < (L.length : Int)) || !decide ((M.length : Int) = L.length - 1)
def wrongF (L M : List Int) : Bool := wrongN L M || bad 1 1073741823 L || bad 0 10000 M

theorem check_ev (L M : List Int) (H : Heap) (hL : L.length ≤ 9223372036854775807) (hM : M.length ≤ 9223372036854775807) : clD EE (.p (.fn 80)) [note L M] H = some (.p (.int .i64 (if wrongF L M = true then 9 else 0)), none) := by
  rw [clD_body _ _ _ _ _ _ (noP _) fn80]
  have k0 := fun wr => chk_lp0 L M H H.length hL _ 0 wr rfl (by omega) (by omega)
  have k1 := fun wr => chk_lp1 M H H.length hM _ 0 wr rfl (by omega) (by omega)
  have w : IntKind.i64.wrap ((L.length : Int) - 1) = L.length - 1 := wrap64_in _ (by omega) (by omega)
  have go : ∀ b : Bool, wrongN L M = b → wrongF L M = (b || bad 1 1073741823 L || bad 0 10000 M) := fun b h => by unfold wrongF; rw [h]
  simp [sli] at k0 k1
  by_cases c1 : (L.length : Int) < 1
  · have hb := go true (by simp [wrongN, c1])
    simp [hb, note, sli, St.enter, enumFrom, subs, c1, k0, k1]
  · by_cases c2 : 64 < (L.length : Int)
    · have hb := go true (by simp [wrongN, c2])
      simp [hb, note, sli, St.enter, enumFrom, subs, c1, c2, k0, k1]
    · by_cases c3 : (M.length : Int) = L.length - 1
      · have hb := go false (by simp [wrongN, c1, c2, c3])
        rw [hb]
        simp only [c3] at k1
        cases h1 : bad 1 1073741823 L <;> cases h2 : bad 0 10000 M <;> simp [note, sli, St.enter, enumFrom, subs, c1, c2, c3, w, k0, k1, h1, h2]
      · have hb := go true (by simp [wrongN, c3])
        simp [hb, note, sli, St.enter, enumFrom, subs, c1, c2, c3, w, k0, k1]
end Go.EnvOf

/- Notes: whether a note may be, by the document. -/
namespace Go.EnvOf
open Go Go.Eng

theorem rchk_lp0 (L M : List Int) (H : Heap) (B : Nat) (hL : L.length ≤ 1000000) : ∀ (n : Nat) (i : Int), ((L.length : Int) - i).toNat = n → 0 ≤ i → i ≤ L.length →
    evD EE lp26_0 ⟨[(1, .lptr 1 0), (3, .p (.int .i64 i))], [(1, [sli L, sli M])], H, B, []⟩ =
      if bad 1 1073741823 (L.drop i.toNat) = true then some (.ret, ⟨[(2, .p (.bool false))], [], H, B, []⟩)
      else some (.exit 0, ⟨[(1, .lptr 1 0), (3, .p (.int .i64 L.length)), (29, .p (.bool false))], [(1, [sli L, sli M])], H, B, []⟩) := by
  intro n
  induction n with
  | zero =>
    intro i hn h0 h1
    have e : i = L.length := by omega
    subst e
    unfold lp26_0
    rw [evD_loop]
    simp [sli, bad, subs]
  | succ n ih =>
    intro i hn h0 h1
    have c : i < (L.length : Int) := by omega
    have w : IntKind.i64.wrap (i + 1) = i + 1 := wrap64_in _ (by omega) (by omega)
    have key := ih (i + 1) (by omega) (by omega) (by omega)
    have eb : bad 1 1073741823 (L.drop i.toNat) = ((decide (rd L i < 1) || decide (1073741823 < rd L i)) || bad 1 1073741823 (L.drop (i + 1).toNat)) := by rw [drop_rd L i h0 c]; simp [bad]
    rw [eb]
    unfold lp26_0
    rw [evD_loop]
    by_cases c1 : rd L i < 1
    · simp (disch := omega) [sli, c, ixs_sli, subs, c1]
    · by_cases c2 : 1073741823 < rd L i
      · simp (disch := omega) [sli, c, ixs_sli, subs, c1, c2]
      · simp (disch := omega) [sli, c, ixs_sli, subs, w, c1, c2] at key ⊢
        exact key

theorem rchk_lp1 (L M : List Int) (H : Heap) (B : Nat) (hM : M.length ≤ 1000000) : ∀ (n : Nat) (i : Int), ((M.length : Int) - i).toNat = n → 0 ≤ i → i ≤ M.length →
    evD EE lp26_1 ⟨[(1, .lptr 1 0), (4, .p (.int .i64 i))], [(1, [sli L, sli M])], H, B, []⟩ =
      if bad 0 10000 (M.drop i.toNat) = true then some (.ret, ⟨[(2, .p (.bool false))], [], H, B, []⟩)
      else some (.exit 2, ⟨[(1, .lptr 1 0), (4, .p (.int .i64 M.length)), (50, .p (.bool false))], [(1, [sli L, sli M])], H, B, []⟩) := by
  intro n
  induction n with
  | zero =>
    intro i hn h0 h1
    have e : i = M.length := by omega
    subst e
    unfold lp26_1
    rw [evD_loop]
    simp [sli, bad, subs]
  | succ n ih =>
    intro i hn h0 h1
    have c : i < (M.length : Int) := by omega
    have w : IntKind.i64.wrap (i + 1) = i + 1 := wrap64_in _ (by omega) (by omega)
    have key := ih (i + 1) (by omega) (by omega) (by omega)
    have eb : bad 0 10000 (M.drop i.toNat) = ((decide (rd M i < 0) || decide (10000 < rd M i)) || bad 0 10000 (M.drop (i + 1).toNat)) := by rw [drop_rd M i h0 c]; simp [bad]
    rw [eb]
    unfold lp26_1
    rw [evD_loop]
    by_cases c1 : rd M i < 0
    · simp (disch := omega) [sli, c, ixs_sli, subs, c1]
    · by_cases c2 : 10000 < rd M i
      · simp (disch := omega) [sli, c, ixs_sli, subs, c1, c2]
      · simp (disch := omega) [sli, c, ixs_sli, subs, w, c1, c2] at key ⊢
        exact key

theorem rcheck_ev (L M : List Int) (H : Heap) (hL : L.length ≤ 1000000) (hM : M.length ≤ 1000000) : clD EE (.p (.fn 26)) [note L M] H = some (.p (.bool (!wrongF L M)), none) := by
  rw [clD_body _ _ _ _ _ _ (noP _) fn26]
  have k0 := rchk_lp0 L M H H.length hL _ 0 rfl (by omega) (by omega)
  have k1 := rchk_lp1 L M H H.length hM _ 0 rfl (by omega) (by omega)
  have w : IntKind.i64.wrap ((L.length : Int) - 1) = L.length - 1 := wrap64_in _ (by omega) (by omega)
  have go : ∀ b : Bool, wrongN L M = b → wrongF L M = (b || bad 1 1073741823 L || bad 0 10000 M) := fun b h => by unfold wrongF; rw [h]
  simp [sli] at k0 k1
  by_cases c1 : (L.length : Int) < 1
  · have hb := go true (by simp [wrongN, c1])
    simp [hb, note, sli, St.enter, enumFrom, subs, c1]
  · by_cases c2 : 64 < (L.length : Int)
    · have hb := go true (by simp [wrongN, c2])
      simp [hb, note, sli, St.enter, enumFrom, subs, c1, c2]
    · by_cases c3 : (M.length : Int) = L.length - 1
      · have hb := go false (by simp [wrongN, c1, c2, c3])
        rw [hb]
        cases h1 : bad 1 1073741823 L <;> cases h2 : bad 0 10000 M <;> simp [h1, h2] at k0 k1 <;> simp [note, sli, St.enter, enumFrom, subs, c1, c2, c3, w, k0, k1]
      · have hb := go true (by simp [wrongN, c3])
        simp [hb, note, sli, St.enter, enumFrom, subs, c1, c2, c3, w]

end Go.EnvOf

/- Notes: the same notes. -/
namespace Go.EnvOf
open Go Go.Eng

def sameF (A M B N : List Int) : Bool := decide (A = B) && decide (M = N)
end Go.EnvOf

/- Notes: the same by the document; all lines of notes. -/
namespace Go.EnvOf
open Go Go.Eng

/-- A list of notes. -/
def encN (x : List Int × List Int) : List PV := [.sl (x.1.map encI), .sl (x.2.map encI)]
@[simp] theorem encN_len (x : List Int × List Int) : (encN x).length = 2 := rfl
def notes (l : List (List Int × List Int)) : V := .p (.sl (l.map encN))
theorem ixs_notes (H : Heap) (L : List (List Int × List Int)) (k : IntKind) (i : Int) (h0 : 0 ≤ i) (h1 : i < L.length) : ixsI H (.p (.sl (L.map encN))) (.p (.int k i)) 2 = some (.eptr [.p (.sl ((rd L i).1.map encI)), .p (.sl ((rd L i).2.map encI))] 0) :=
  ixs_map H encN L k i 2 (fun _ => rfl) h0 h1

def linesF (l : List (List Int × List Int)) : Int := l.foldr (fun x s => (x.1.length : Int) + s) 0

theorem drop_rd' {α : Type} [Inhabited α] (L : List α) (i : Int) (h0 : 0 ≤ i) (h1 : i < L.length) : L.drop i.toNat = rd L i :: L.drop (i + 1).toNat := by
  have e : (i + 1).toNat = i.toNat + 1 := by omega
  rw [e, List.drop_eq_getElem_cons (by omega)]
  congr 1
  unfold rd
  have : i.toNat < L.length := by omega
  simp [List.getD_eq_getElem?_getD, this]

theorem linesF_nonneg : ∀ l, 0 ≤ linesF l
  | [] => by simp [linesF]
  | x :: r => by have := linesF_nonneg r; simp only [linesF, List.foldr_cons] at this ⊢; omega

end Go.EnvOf

/- Notes: the same by the document. -/
namespace Go.EnvOf
open Go Go.Eng

end Go.EnvOf

/- The same jobs. -/
namespace Go.EnvOf
open Go Go.Eng

theorem item_cells (x y : Item) : eqCells [true, true, true, true, true, true, true] ((encItem x).map V.p) ((encItem y).map V.p) = some (decide (x = y)) := by
  obtain ⟨a, b, c, d, e, f, g⟩ := x
  obtain ⟨a', b', c', d', e', f', g'⟩ := y
  simp [encItem, Bool.decide_and]
theorem float_cells (x y : Float) : eqCells [true, true, true] ((encFloat x).map V.p) ((encFloat y).map V.p) = some (decide (x = y)) := by
  obtain ⟨a, b, c⟩ := x
  obtain ⟨a', b', c'⟩ := y
  simp [encFloat, Bool.decide_and]
theorem geom_cells (x y : Geom) : eqCells [true, true, true, true, true, true, true, true, true, true, true, true, true, true, true, true, true, true, false] (cGeom x) (cGeom y) = some (decide (x = y)) := by
  obtain ⟨a1, a2, a3, a4, a5, a6, a7, a8, a9, a10, a11, a12, a13, a14, a15, a16, a17, a18, a19⟩ := x
  obtain ⟨b1, b2, b3, b4, b5, b6, b7, b8, b9, b10, b11, b12, b13, b14, b15, b16, b17, b18, b19⟩ := y
  simp [Bool.decide_and]
  cases a19 <;> cases b19 <;> rfl
/-! ### Notes, pair by pair -/
theorem same_notes (a b : Note) : sameF a.lines a.pens b.lines b.pens = decide (a = b) := by
  obtain ⟨x, y⟩ := a
  obtain ⟨u, v⟩ := b
  simp [sameF, Bool.decide_and]
def nfBad (H : Heap) (B : Nat) : Ex × St := (.ret, ⟨[(6, vB false)], [], H, B, []⟩)
abbrev okNoteL (n : Note) : Prop := n.lines.length ≤ 1000000 ∧ n.pens.length ≤ 1000000
/-! ### By the document -/
def s2E (a b : V) (H : Heap) (B : Nat) (i : Nat) : St := ⟨[(0, a), (1, b), (5, vI i)], [], H, B, []⟩
def s2X (a b : V) (n : Nat) (H : Heap) (B : Nat) : Ex × St := (.exit 0, ⟨[(0, a), (1, b), (5, vI n), (14, .p (.bool false))], [], H, B, []⟩)
def s2Bad (H : Heap) (B : Nat) : Ex × St := (.ret, ⟨[(4, vB false)], [], H, B, []⟩)
abbrev cJob (j : Job) : List V := cGeom j.g ++ [vItems j.items, vNotes j.notes, vFloats j.floats]
def s14E (j k : Job) (H : Heap) (B : Nat) (i : Nat) : St := ⟨[(2, .lptr 2 0), (3, .lptr 3 0), (5, vI i)], [(2, cJob j), (3, cJob k)], H, B, []⟩
def s14X (j k : Job) (H : Heap) (B : Nat) : Ex × St := (.exit 0, ⟨[(2, .lptr 2 0), (3, .lptr 3 0), (5, vI j.items.length), (17, .p (.bool false))], [(2, cJob j), (3, cJob k)], H, B, []⟩)
end Go.EnvOf

/- Jobs that are more than is gone through. -/
namespace Go.EnvOf
open Go Go.Eng

structure small (j : Job) : Prop where
  items : j.items.length ≤ 100
  notes : j.notes.length ≤ 100
  floats : j.floats.length ≤ 100
  each : ∀ n ∈ j.notes, n.lines.length ≤ 100 ∧ n.pens.length ≤ 100
def bigNote (n : Note) : Bool := decide (100 < (n.lines.length : Int)) || decide (100 < (n.pens.length : Int))
def largeF (j : Job) : Bool := (j.notes.take 100).any bigNote || decide (100 < (j.items.length : Int)) || decide (100 < (j.notes.length : Int)) || decide (100 < (j.floats.length : Int))
theorem small_of {j : Job} (h : largeF j = false) : small j := by
  unfold largeF at h
  simp only [Bool.or_eq_false_iff, decide_eq_false_iff_not] at h
  obtain ⟨⟨⟨h1, h2⟩, h3⟩, h4⟩ := h
  have hl : j.notes.length ≤ 100 := by omega
  rw [List.take_of_length_le hl] at h1
  refine ⟨by omega, hl, by omega, fun n hn => ?_⟩
  have := List.any_eq_false.1 h1 n hn
  simp [bigNote] at this
  omega
def lgE (j : Job) (H : Heap) (i : Nat) : St := ⟨[(1, .lptr 1 0), (3, vI i)], [(1, cGeom j.g ++ [vItems j.items, vNotes j.notes, vFloats j.floats])], H, H.length, []⟩
def lgX (j : Job) (H : Heap) (i : Nat) : Ex × St := (.exit 0, ⟨[(1, .lptr 1 0), (3, vI i), (12, vB false)], [(1, cGeom j.g ++ [vItems j.items, vNotes j.notes, vFloats j.floats])], H, H.length, []⟩)
def lgB (H : Heap) : Ex × St := (.ret, ⟨[(2, vB true)], [], H, H.length, []⟩)
theorem large_lp (j : Job) (H : Heap) : evD EE lp6_0 (lgE j H 0) = some (if (j.notes.take 100).any bigNote = true then lgB H else lgX j H (min 100 j.notes.length)) := by
  unfold lp6_0
  refine Eq.trans (evD_rng (j.notes.take 100) (fun (_ : Unit) i => lgE j H i) (fun _ _ => True) (stepB bigNote (lgB H)) (fun _ => lgX j H (min 100 j.notes.length)) (fun _ _ => rfl) ?_ ?_ () 0 trivial (Nat.zero_le _)) (by rw [rng_any]; rfl)
  · rintro _ i x - hx
    have hlt := (List.getElem?_eq_some_iff.1 hx).1
    rw [List.length_take] at hlt
    have hx' : j.notes[i]? = some x := by rw [List.getElem?_take] at hx; split at hx <;> simp_all
    have hl1 : i < j.notes.length := by omega
    have hl2 : (i : Int) < 100 := by omega
    have w1 : IntKind.i64.wrap ((i : Int) + 1) = ((i + 1 : Nat) : Int) := w64 (by omega) (by omega)
    have hix := fun H k => ixs_nat H encNote (k := k) (s := 2) hx' rfl
    simp only [encNote] at hix
    by_cases a : 100 < (x.lines.length : Int)
    · simp [stepB, bigNote, lgE, lgB, hl1, hl2, hix, subs, a]
    · by_cases b : 100 < (x.pens.length : Int)
      · simp [stepB, bigNote, lgE, lgB, hl1, hl2, hix, subs, a, b]
      · simp [stepB, bigNote, lgE, hl1, hl2, hix, subs, a, b, w1]
  · rintro _ -
    refine ⟨?_, by simp [lgX]⟩
    rw [List.length_take]
    by_cases h : j.notes.length ≤ 100
    · have e : min 100 j.notes.length = j.notes.length := by omega
      rw [e]
      simp [lgE, lgX, subs]
    · have e : min 100 j.notes.length = 100 := by omega
      have h2 : (100 : Int) < j.notes.length := by omega
      rw [e]
      simp [lgE, lgX, subs, h2]
theorem large_ev (j : Job) (H : Heap) : clD EE (.p (.fn 6)) [vJob j] H = some (vB (largeF j), none) := by
  rw [clD_body _ _ _ _ _ _ (noP _) fn6]
  have k0 := large_lp j H
  unfold largeF
  simp only [lgE, lgX, lgB] at k0
  cases b : (j.notes.take 100).any bigNote with
  | true =>
    rw [b, if_pos rfl] at k0
    simp at k0
    simp [St.enter, enumFrom, subs, k0]
  | false =>
    rw [b, if_neg (by simp)] at k0
    simp at k0
    by_cases a1 : 100 < (j.items.length : Int)
    · simp [St.enter, enumFrom, subs, k0, a1]
    · by_cases a2 : 100 < (j.notes.length : Int)
      · simp [St.enter, enumFrom, subs, k0, a1, a2]
      · simp [St.enter, enumFrom, subs, k0, a1, a2]
end Go.EnvOf

/- The law of the kinds of warnings. -/
namespace Go.EnvOf
open Go Go.Eng
set_option maxRecDepth 100000
theorem awake50 : clD EE (.p (.fn 7)) [] [] = some (.p (.bool true), none) := by
  rw [clD_iff]; exact ⟨200, by kernel_rfl⟩
theorem awake50r (es : List (List V)) : clD EE (.p (.fn 7)) [] [.row 2 es] = some (.p (.bool true), none) := by
  rw [clD_iff]; exact ⟨200, by kernel_rfl⟩
structure Warn where
  k : Int
  n : Int
  deriving Inhabited, DecidableEq
def encW (x : Warn) : List PV := [.int .i64 x.k, .int .i64 x.n]
@[simp] theorem encW_len (x : Warn) : (encW x).length = 2 := rfl
abbrev vWs (l : List Warn) : V := .p (.sl (l.map encW))
abbrev rW (H : Heap) (o : List Warn) : V := .row H.length o.length 0 o.length
abbrev hW (H : Heap) (o : List Warn) : Heap := H ++ [.row 2 (upV (o.map encW))]
def ofK (k : Int) (l : List Warn) : List Warn := l.filter fun w => decide (w.k = k)
def kS (k : Int) (o : List Warn) (w : Warn) : List Warn := o ++ (if w.k = k then [w] else [])
theorem kS_fold (k : Int) : ∀ (l : List Warn) (o : List Warn) (i : Nat), fold (fun o _ w => kS k o w) o i l = o ++ ofK k l
  | [], o, i => by simp [fold, ofK]
  | w :: r, o, i => by
    simp only [fold]
    rw [kS_fold k r]
    simp only [ofK, List.filter_cons, kS]
    by_cases h : w.k = k <;> simp [h]
def loE (l : List Warn) (k : Int) (H : Heap) (o : List Warn) (i : Nat) : St := ⟨[(1, vI k), (5, rW H o), (8, vWs l), (9, vI l.length), (10, vI i)], [], hW H o, H.length, []⟩
def loX (l : List Warn) (k : Int) (H : Heap) (o : List Warn) : Ex × St := (.exit 0, ⟨[(1, vI k), (5, rW H o), (8, vWs l), (9, vI l.length), (10, vI l.length), (11, vB false)], [], hW H o, H.length, []⟩)
theorem only_lp (l : List Warn) (k : Int) (H : Heap) (hl : l.length ≤ 1000000000) : evD EE lp10_0 (loE l k H [] 0) = some (loX l k H (ofK k l)) := by
  unfold lp10_0
  refine Eq.trans (evD_fold l (loE l k H) (fun o i => o.length ≤ i) (fun o _ w => kS k o w) (loX l k H) (fun _ _ => rfl) ?_ ?_ [] 0 (by simp) (Nat.zero_le _)) (by rw [List.drop_zero, kS_fold, List.nil_append])
  · intro o i x hi hx
    have hlt := (List.getElem?_eq_some_iff.1 hx).1
    have hix := fun H k => ixs_nat H encW (k := k) (s := 2) hx rfl
    have w : IntKind.i64.wrap ((i : Int) + 1) = ((i + 1 : Nat) : Int) := w64 (by omega) (by omega)
    have hm : o.length + 1 < most := by unfold most; omega
    by_cases h : x.k = k
    · refine ⟨?_, by simp [kS, h]; omega⟩
      simp [loE, hlt, hix, encW, subs, setSubs, w, h, hm, kS]
    · refine ⟨?_, by simp [kS, h]; omega⟩
      simp [loE, hlt, hix, encW, subs, setSubs, w, h, kS]
  · intro o hi
    refine ⟨?_, by simp [loX]⟩
    simp [loE, loX]
theorem only_ev (l : List Warn) (k : Int) (H : Heap) (hl : l.length ≤ 1000000000) : clD EE (.p (.fn 10)) [vWs l, vI k] H = some (vWs (ofK k l), none) := by
  rw [clD_body _ _ _ _ _ _ (noP _) fn10]
  have key := only_lp l k H hl
  generalize ofK k l = O at *
  simp [loE, loX, rW, hW] at key
  simp [St.enter, enumFrom, key]

/-! ### The names -/
theorem name_ev (n : Int) (H : Heap) : clD EE (.p (.fn 11)) [vI n] H = some (.p (.str (nmS n)), none) := by
  rw [clD_prim _ _ _ _ _ nameP_fn]; rfl
theorem rname_ev (n : Int) (H : Heap) : clD EE (.p (.fn 12)) [vI n] H = some (.p (.str (nmS n)), none) := by
  rw [clD_body _ _ _ _ _ _ (noP _) fn12]
  by_cases h0 : n < 0
  · have e : nmS n = ⟨#[]⟩ := by unfold nmS; rw [if_neg (by omega), if_neg (by omega), if_neg (by omega), if_neg (by omega), if_neg (by omega), if_neg (by omega)]
    rw [e]
    simp [St.enter, enumFrom, h0]
  by_cases h5 : 5 < n
  · have e : nmS n = ⟨#[]⟩ := by unfold nmS; rw [if_neg (by omega), if_neg (by omega), if_neg (by omega), if_neg (by omega), if_neg (by omega), if_neg (by omega)]
    rw [e]
    simp [St.enter, enumFrom, h0, h5]
  have c : n = 0 ∨ n = 1 ∨ n = 2 ∨ n = 3 ∨ n = 4 ∨ n = 5 := by omega
  rcases c with rfl | rfl | rfl | rfl | rfl | rfl
  all_goals simp [St.enter, enumFrom, nmS, subs, setSubs, ixsI, ixsV]

/-! ### The law -/
def lkE (l : List Warn) (k : Int) (o : List Warn) (i : Nat) : St := ⟨[(0, vWs l), (1, vI k), (5, rW [] o), (6, vI i)], [], hW [] o, 0, []⟩
def lkX (l : List Warn) (k : Int) (o : List Warn) : Ex × St := (.exit 0, ⟨[(0, vWs l), (1, vI k), (5, rW [] o), (6, vI l.length), (16, vB false)], [], hW [] o, 0, []⟩)
theorem lk_lp (l : List Warn) (k : Int) (hl : l.length ≤ 60) : evD EE lp4_0 (lkE l k [] 0) = some (lkX l k (ofK k l)) := by
  unfold lp4_0
  refine Eq.trans (evD_fold l (lkE l k) (fun o i => o.length ≤ i) (fun o _ w => kS k o w) (lkX l k) (fun _ _ => rfl) ?_ ?_ [] 0 (by simp) (Nat.zero_le _)) (by rw [List.drop_zero, kS_fold, List.nil_append])
  · intro o i x hi hx
    have hlt := (List.getElem?_eq_some_iff.1 hx).1
    have hix := fun H k => ixs_nat H encW (k := k) (s := 2) hx rfl
    have w : IntKind.i64.wrap ((i : Int) + 1) = ((i + 1 : Nat) : Int) := w64 (by omega) (by omega)
    have hm : o.length + 1 < most := by unfold most; omega
    by_cases h : x.k = k
    · refine ⟨?_, by simp [kS, h]; omega⟩
      simp [lkE, hlt, hix, encW, subs, setSubs, w, h, hm, kS]
    · refine ⟨?_, by simp [kS, h]; omega⟩
      simp [lkE, hlt, hix, encW, subs, setSubs, w, h, kS]
  · intro o hi
    refine ⟨?_, by simp [lkX]⟩
    simp [lkE, lkX]
def lmE (k : Int) (o : List Warn) (i : Nat) : St := ⟨[(1, vI k), (5, rW [] o), (7, vWs o), (8, vI i)], [], hW [] o, 0, []⟩
def lmX (k : Int) (o : List Warn) : Ex × St := (.exit 2, ⟨[(1, vI k), (5, rW [] o), (7, vWs o), (8, vI o.length), (39, vB false)], [], hW [] o, 0, []⟩)
theorem lm_lp (o : List Warn) (k : Int) (hl : o.length ≤ 60) : evD EE lp4_1 (lmE k o 0) = some (lmX k o) := by
  unfold lp4_1
  refine Eq.trans (evD_fold o (fun (_ : Unit) i => lmE k o i) (fun _ _ => True) (fun _ _ _ => ()) (fun _ => lmX k o) (fun _ _ => rfl) ?_ ?_ () 0 trivial (Nat.zero_le _)) rfl
  · intro _ i x hi hx
    refine ⟨?_, trivial⟩
    have hlt := (List.getElem?_eq_some_iff.1 hx).1
    have hix := fun H k => ixs_nat H encW (k := k) (s := 2) hx rfl
    have w : IntKind.i64.wrap ((i : Int) + 1) = ((i + 1 : Nat) : Int) := w64 (by omega) (by omega)
    have hup : (upV (o.map encW))[i]? = some ((encW x).map .p) := by simp [upV, hx]
    have hup2 : ∀ h, (upV (o.map encW))[i]'h = (encW x).map .p := fun h => by rw [List.getElem?_eq_getElem h] at hup; exact Option.some.inj hup
    simp [lmE, hlt, hix, ixs_row, hup2, encW, subs, setSubs, w]
  · intro _ _
    refine ⟨?_, by simp [lmX]⟩
    simp [lmE, lmX]
theorem lintKinds_ev (l : List Warn) (k : Int) : clD EE (.p (.fn 4)) [vWs l, vI k] [] = some (.p (.bool true), none) := by
  rw [clD_body _ _ _ _ _ _ (noP _) fn4]
  by_cases h : 60 < (l.length : Int)
  · simp [St.enter, enumFrom, h, awake50]
  have h1 := lk_lp l k (by omega)
  have h2 := fun H => only_ev l k H (by omega)
  have hf : (ofK k l).length ≤ 60 := by
    have := List.length_filter_le (fun w : Warn => decide (w.k = k)) l
    unfold ofK; omega
  have h3 := lm_lp (ofK k l) k hf
  generalize ofK k l = O at *
  simp [lkE, lkX, rW, hW] at h1
  simp [lmE, lmX, rW, hW] at h3
  have hs : (nmS k == nmS k) = true := by first | exact beq_self_eq_true _ | exact decide_eq_true rfl | (show ((nmS k).data == (nmS k).data) = true; simp)
  simp [St.enter, enumFrom, h, awake50r, h1, h2, h3, name_ev, rname_ev, hs]
end Go.EnvOf

/- Areas: what fits, as the reference tells it. -/
namespace Go.EnvOf
open Go Go.Eng
set_option maxRecDepth 100000
theorem rheld_hz (n : Int) (H : Heap) : clD EE (.p (.fn 95)) [vI n] H = some (vI (hz n), none) := by
  rw [clD_body _ _ _ _ _ _ (noP _) fn95]
  have e : max 0 (min n 1125899906842624) = hz n := by simp only [hz, fz]; omega
  simp [St.enter, enumFrom, e]
def rqhE (l : List Float) (xs : List Int) (sep : Int) (H : Heap) (s : Int) (i : Nat) : St :=
  ⟨[(0, vFloats l), (1, sli xs), (2, vI sep), (7, vI s), (8, vI i)], [], H, H.length, []⟩
def rqhX (l : List Float) (xs : List Int) (sep : Int) (H : Heap) (s : Int) : Ex × St :=
  (.exit 0, ⟨[(0, vFloats l), (1, sli xs), (2, vI sep), (7, vI s), (8, vI xs.length), (12, vB false)], [], H, H.length, []⟩)
theorem rhigh12_lp (l : List Float) (xs : List Int) (sep : Int) (H : Heap) (hx : xs.length ≤ 1000000) : evD EE lp67_0 (rqhE l xs sep H 0 0) = some (rqhX l xs sep H (highQ l xs sep)) := by
  unfold lp67_0
  refine Eq.trans (evD_fold xs (rqhE l xs sep H) (fun s _ => 0 ≤ s ∧ s ≤ fz) (fun s _ x => hiS l sep s x) (rqhX l xs sep H) (fun _ _ => rfl) ?_ ?_ 0 0 (by simp) (Nat.zero_le _)) (by rw [List.drop_zero, foldG]; rfl)
  · intro s i x hi hp
    have hlt := (List.getElem?_eq_some_iff.1 hp).1
    have hix := fun H k => ixs_nat H encI (k := k) (s := 1) hp rfl
    have w : IntKind.i64.wrap ((i : Int) + 1) = ((i + 1 : Nat) : Int) := w64 (by omega) (by omega)
    unfold hiS atF
    by_cases h0 : 0 ≤ x
    · by_cases h1 : x < l.length
      · rw [if_pos ⟨h0, h1⟩]
        have hg := rd_get l x h0 h1
        have hiy := fun H k => ixs_int H encFloat (k := k) (s := 3) h0 hg rfl
        generalize rd l x = f at *
        refine ⟨?_, hz_in _⟩
        have b1 := hz_in f.h
        have b2 := hz_in sep
        simp only [fz] at b1 b2 hi
        have w1 : IntKind.i64.wrap (s + hz f.h) = s + hz f.h := w64 (by omega) (by omega)
        have w2 : IntKind.i64.wrap (s + hz f.h + hz sep) = s + hz f.h + hz sep := w64 (by omega) (by omega)
        simp [rqhE, hlt, hix, hiy, encI, encFloat, subs, setSubs, h0, h1, w, rheld_hz, w1, w2]
      · rw [if_neg (fun h => h1 h.2)]
        refine ⟨?_, hi⟩
        simp [rqhE, hlt, hix, encI, subs, setSubs, h0, h1, w]
    · rw [if_neg (fun h => h0 h.1)]
      refine ⟨?_, hi⟩
      simp [rqhE, hlt, hix, encI, subs, setSubs, h0, w]
  · intro s hi
    refine ⟨?_, by simp [rqhX]⟩
    simp [rqhE, rqhX]
theorem rhigh12_ev (l : List Float) (xs : List Int) (sep : Int) (H : Heap) (hx : xs.length ≤ 1000000) : clD EE (.p (.fn 67)) [vFloats l, sli xs, vI sep] H = some (vI (highQ l xs sep), none) := by
  rw [clD_body _ _ _ _ _ _ (noP _) fn67]
  have k := rhigh12_lp l xs sep H hx
  simp [rqhE, rqhX] at k
  simp [St.enter, enumFrom, k]
/-! ### Does it fit? -/
def rqE (g : Geom) (bit many maxH : Int) (l : List Float) (xs : List Int) (H : Heap) (i : Nat) : St :=
  ⟨[(1, vFloats l), (2, sli xs), (3, vI bit), (4, vI many), (5, vI maxH), (6, .lptr 6 0), (13, vI i)], [(6, cGeom g)], H, H.length, []⟩
def rqX (g : Geom) (bit many maxH : Int) (l : List Float) (xs : List Int) (H : Heap) : Ex × St :=
  (.exit 0, ⟨[(1, vFloats l), (2, sli xs), (3, vI bit), (4, vI many), (5, vI maxH), (6, .lptr 6 0), (13, vI xs.length), (17, vB false)], [(6, cGeom g)], H, H.length, []⟩)
def rqB (H : Heap) : Ex × St := (.ret, ⟨[(12, vB false)], [], H, H.length, []⟩)
theorem rq_lp (g : Geom) (bit many maxH : Int) (l : List Float) (xs : List Int) (H : Heap) (hx : xs.length ≤ 1000000) :
    evD EE lp50_0 (rqE g bit many maxH l xs H 0) = some (if xs.any (fun x => !mayAt (fun f => bitB bit f.w) l x) = true then rqB H else rqX g bit many maxH l xs H) := by
  unfold lp50_0
  refine Eq.trans (evD_rng xs (fun (_ : Unit) i => rqE g bit many maxH l xs H i) (fun _ _ => True) (stepB (fun x => !mayAt (fun f => bitB bit f.w) l x) (rqB H)) (fun _ => rqX g bit many maxH l xs H) (fun _ _ => rfl) ?_ ?_ () 0 trivial (Nat.zero_le _)) (by rw [List.drop_zero, rng_any])
  · rintro _ i x - hx2
    have hlt := (List.getElem?_eq_some_iff.1 hx2).1
    have hix := fun H k => ixs_nat H encI (k := k) (s := 1) hx2 rfl
    have w : IntKind.i64.wrap ((i : Int) + 1) = ((i + 1 : Nat) : Int) := w64 (by omega) (by omega)
    by_cases h0 : x < 0
    · have hm : mayAt (fun f => bitB bit f.w) l x = false := by unfold mayAt atF; rw [if_neg (by omega)]
      simp [stepB, hm, rqE, rqB, hlt, hix, encI, subs, setSubs, h0]
    · by_cases h1 : (l.length : Int) ≤ x
      · have hm : mayAt (fun f => bitB bit f.w) l x = false := by unfold mayAt atF; rw [if_neg (by omega)]
        simp [stepB, hm, rqE, rqB, hlt, hix, encI, subs, setSubs, h0, h1]
      · have hg := rd_get l x (by omega) (by omega)
        have hiy := fun H k => ixs_int H encFloat (k := k) (s := 3) (by omega) hg rfl
        have hm : mayAt (fun f => bitB bit f.w) l x = bitB bit (rd l x).w := by unfold mayAt atF; rw [if_pos ⟨by omega, by omega⟩]
        have ha := and_v (rd l x).w bit
        by_cases hb : bitV (rd l x).w bit = 0
        · have hm2 : bitB bit (rd l x).w = false := by simp [bitB, hb]
          simp [stepB, hm, hm2, rqE, rqB, hlt, hix, hiy, encI, encFloat, subs, setSubs, h0, h1, ha, hb]
        · have hm2 : bitB bit (rd l x).w = true := by simp [bitB, hb]
          simp [stepB, hm, hm2, rqE, rqB, hlt, hix, hiy, encI, encFloat, subs, setSubs, h0, h1, ha, hb, w]
  · rintro _ -
    refine ⟨?_, by simp [rqX]⟩
    simp [rqE, rqX]
theorem rfits1_ev (g : Geom) (bit many maxH : Int) (l : List Float) (xs : List Int) (H : Heap) (hx : xs.length ≤ 1000000) :
    clD EE (.p (.fn 50)) [vGeom g, vFloats l, sli xs, vI bit, vI many, vI maxH] H = some (vB (fitsF many maxH (fun f => bitB bit f.w) g.sep l xs), none) := by
  rw [clD_body _ _ _ _ _ _ (noP _) fn50]
  have key := rq_lp g bit many maxH l xs H hx
  have hh := fun H => rhigh12_ev l xs g.sep H hx
  unfold fitsF
  have hany : xs.any (fun x => !mayAt (fun f => bitB bit f.w) l x) = !xs.all (mayAt (fun f => bitB bit f.w) l) := by rw [List.any_eq_not_all_not]; simp only [Bool.not_not]
  rw [hany] at key
  cases hall : xs.all (mayAt (fun f => bitB bit f.w) l) with
  | false =>
    rw [hall] at key
    simp [rqE, rqB] at key
    simp [St.enter, enumFrom, subs, setSubs, key]
  | true =>
    rw [hall] at key
    simp [rqE, rqX] at key
    by_cases h1 : (xs.length : Int) ≤ many
    · simp [St.enter, enumFrom, subs, setSubs, h1, key, hh]
    · simp [St.enter, enumFrom, subs, setSubs, h1, key, hh]
theorem rafits_ev (g : Geom) (l : List Float) (p : Pr) (H : Heap) (h1 : p.1.length ≤ 1000000) (h2 : p.2.length ≤ 1000000) : clD EE (.p (.fn 23)) [vGeom g, vFloats l, vPair p] H = some (vB (fitT g l p.1 && fitB g l p.2), none) := by
  rw [clD_body _ _ _ _ _ _ (noP _) fn23]
  have f1 := fun H => rfits1_ev g 1 g.topMany g.topMost l p.1 H h1
  have f2 := fun H => rfits1_ev g 2 g.botMany g.botMost l p.2 H h2
  have e1 : fitsF g.topMany g.topMost (fun f => bitB 1 f.w) g.sep l p.1 = fitT g l p.1 := rfl
  have e2 : fitsF g.botMany g.botMost (fun f => bitB 2 f.w) g.sep l p.2 = fitB g l p.2 := rfl
  rw [e1] at f1
  rw [e2] at f2
  cases h : fitT g l p.1 with
  | true =>
    rw [h] at f1
    simp [St.enter, enumFrom, subs, setSubs, f1, f2]
  | false =>
    rw [h] at f1
    simp [St.enter, enumFrom, subs, setSubs, f1, f2]
end Go.EnvOf

/- A look at a job: telling a warning. -/
namespace Go.EnvOf
open Go Go.Eng
set_option maxRecDepth 100000
/-- At p lies the look: its job, and what it has told up to now. -/
structure Look (H : Heap) (p : Nat) (J : List V) (ws : List Warn) : Prop where
  out : ∃ o, Eng.boxAt H p = some (J ++ [o]) ∧ (o = .nils ∧ ws = [] ∨ ∃ id, id < H.length ∧ p < id ∧ o = .row id ws.length 0 ws.length ∧ Eng.rowAt H id = some (2, upV (ws.map encW)) ∧ ws ≠ [])
  lt : p < H.length
def hpOf (H : Heap) : Option (Heap × List Nat) → Heap
  | none => H
  | some x => x.1
def dsOf : Option (Heap × List Nat) → List Nat
  | none => []
  | some x => x.2
theorem callR_opt (env : List (Nat × V)) (loc : List (Nat × List V)) (hp : Heap) (base : Nat) (dirty : List Nat) (d : Option Nat) (v : V) (r : Option (Heap × List Nat)) (hv : v.notL = true) : callR ⟨env, loc, hp, base, dirty⟩ false d (some (v, r)) = some (St.put ⟨env, loc, hpOf hp r, base, (dsOf r).foldr (addD base) dirty⟩ d v) := by
  cases r with
  | none => simp only [callR, hpOf, dsOf, hv]; simp
  | some x => obtain ⟨H, ds⟩ := x; simp only [callR, hpOf, dsOf, hv]; simp
theorem boxAt_lt {H : Heap} {q : Nat} {cs : List V} (h : Eng.boxAt H q = some cs) : q < H.length := by
  unfold Eng.boxAt at h
  rcases Nat.lt_or_ge q H.length with g | g
  · exact g
  · rw [List.getElem?_eq_none g] at h; cases h
theorem addD_mem {B i x : Nat} {d : List Nat} (h : x ∈ d) : x ∈ addD B i d := by
  unfold addD
  split
  · exact List.mem_cons_of_mem _ h
  · exact h
theorem foldD_mem {B x : Nat} : ∀ {ds d : List Nat}, x ∈ d → x ∈ ds.foldr (addD B) d
  | [], _, h => h
  | _ :: ds, _, h => addD_mem (foldD_mem (ds := ds) h)
theorem addD_self {B x : Nat} {d : List Nat} (h : x < B) : x ∈ addD B x d := by
  unfold addD
  rw [if_pos h]
  exact List.mem_cons_self
theorem foldD_in {B x : Nat} : ∀ {ds d : List Nat}, x ∈ ds → x < B → x ∈ ds.foldr (addD B) d
  | y :: ds, d, h, hx => by
    rcases List.mem_cons.1 h with rfl | h
    · exact addD_self hx
    · exact addD_mem (foldD_in h hx)
theorem tell_no (p : Nat) (k n : Int) (H : Heap) : clD EE (.p (.fn 37)) [.ptr p 0, vI k, vI n, vB false] H = some (.tup [], none) := by
  rw [clD_body _ _ _ _ _ _ (noP _) fn37]
  simp [St.enter, enumFrom]
theorem tell_ev (p : Nat) (J : List V) (hJ : J.length = 22) (ws : List Warn) (k n : Int) (b : Bool) (H : Heap) (h : Look H p J ws) (hn : ws.length ≤ 1000000000) :
    ∃ r, clD EE (.p (.fn 37)) [.ptr p 0, vI k, vI n, vB b] H = some (.tup [], r) ∧ Look (hpOf H r) p J (ws ++ if b then [⟨k, n⟩] else []) ∧ (∀ q cs, q ≠ p → Eng.boxAt H q = some cs → Eng.boxAt (hpOf H r) q = some cs) ∧ (r = none ∧ b = false ∨ p ∈ dsOf r) := by
  cases b with
  | false =>
    exact ⟨none, tell_no p k n H, by simpa [hpOf] using h, fun _ _ _ h => h, .inl ⟨rfl, rfl⟩⟩
  | true =>
    obtain ⟨o, hb, ho⟩ := h.out
    have hlt := h.lt
    have hd : ∀ o : V, List.drop 23 (J ++ [o]) = [] := fun o => List.drop_eq_nil_of_le (by simp [hJ])
    have hm : ws.length + 1 < most := by unfold most; omega
    rcases ho with ⟨rfl, rfl⟩ | ⟨id, hid, hpi, rfl, hr, hw⟩
    · refine ⟨some ((H ++ [DObj.row 2 (upV [encW ⟨k, n⟩])]).set p (DObj.box (J ++ [V.row H.length 1 0 1])), [p]), ?_, ?_, ?_, .inr (by simp [dsOf])⟩
      · rw [clD_body _ _ _ _ _ _ (noP _) fn37]
        have h1 : 1 < most := by decide
        have hb2 := fun T => (boxAt_app_lt T hlt).trans hb
        simp [St.enter, enumFrom, hb, hb2, h1, subs, setSubs, hJ, hlt, encW, hd]
      · refine ⟨⟨V.row H.length 1 0 1, ?_, .inr ⟨H.length, ?_, ?_, rfl, ?_, by simp⟩⟩, ?_⟩
        · simp only [hpOf]; exact boxAt_set _ _ _ (by simp; omega)
        · simp [hpOf]
        · omega
        · simp only [hpOf]
          rw [Eng.rowAt, List.getElem?_set_ne (by omega)]
          simp
        · simp [hpOf]; omega
      · intro q cs hq hc
        simp only [hpOf]
        rw [boxAt_set_ne _ _ _ _ (Ne.symm hq), boxAt_app_lt _ (boxAt_lt hc)]
        exact hc
    · have hne : id ≠ p := by omega
      refine ⟨some ((H.set id (DObj.row 2 (upV ((ws ++ [(⟨k, n⟩ : Warn)]).map encW)))).set p (DObj.box (J ++ [V.row id (ws.length + 1) 0 (ws.length + 1)])), [p, id]), ?_, ?_, ?_, .inr (by simp [dsOf])⟩
      · rw [clD_body _ _ _ _ _ _ (noP _) fn37]
        have hb2 : ∀ es, Eng.boxAt (H.set id (.row 2 es)) p = some (J ++ [.row id ws.length 0 ws.length]) := fun es => (boxAt_set_ne H id p _ hne).trans hb
        simp [St.enter, enumFrom, hb, hb2, hr, hm, subs, setSubs, hJ, hlt, hid, encW, hd]
      · refine ⟨⟨V.row id (ws ++ [(⟨k, n⟩ : Warn)]).length 0 (ws ++ [(⟨k, n⟩ : Warn)]).length, ?_,   .inr ⟨id, ?_, hpi, rfl, ?_, by simp⟩⟩, ?_⟩
        · simp only [hpOf, List.length_append, List.length_cons, List.length_nil]; exact boxAt_set _ _ _ (by simp; omega)
        · simp [hpOf]; exact hid
        · simp only [hpOf]
          rw [Eng.rowAt, List.getElem?_set_ne (by omega), ← Eng.rowAt]
          exact rowAt_set _ _ _ _ hid
        · simp [hpOf]; omega
      · intro q cs hq hc
        simp only [hpOf]
        have hqi : id ≠ q := by
          rintro rfl
          unfold Eng.boxAt at hc
          unfold Eng.rowAt at hr
          cases e : H[id]? with
          | none => rw [e] at hc; cases hc
          | some o => rw [e] at hc hr; cases o <;> simp at hc hr
        rw [boxAt_set_ne _ _ _ _ (Ne.symm hq), boxAt_set_ne _ _ _ _ hqi]
        exact hc
end Go.EnvOf

/- A look at a job: its items. -/
namespace Go.EnvOf
open Go Go.Eng
set_option maxRecDepth 100000
/-- Going through a list, where the states are but related to what has come. -/
theorem evD_foldR {α : Type} {E : Env} {ks kl : List Nat} {c : IC} (L : List α) (R : Nat → St → Prop) (F : Ex × St → Prop)
    (hk : ∀ i S, R i S → S.keep ks kl = S)
    (hstep : ∀ i x S, R i S → L[i]? = some x → ∃ S', evD E c S = some (.normal, S') ∧ R (i + 1) S')
    (hend : ∀ S, R L.length S → ∃ r, evD E c S = some r ∧ r.1 ≠ .normal ∧ F r) :
    ∀ (n i : Nat) S, L.length - i = n → R i S → i ≤ L.length → ∃ r, evD E (.loop ks kl c) S = some r ∧ F r
  | 0, i, S, hn, hR, hi => by
    have e : i = L.length := by omega
    subst e
    obtain ⟨⟨x, S'⟩, h1, h2, h3⟩ := hend S hR
    refine ⟨(x, S'), ?_, h3⟩
    rw [evD_loop, hk _ _ hR, h1]
    cases x with
    | normal => exact absurd rfl h2
    | _ => rfl
  | n + 1, i, S, hn, hR, hi => by
    have hlt : i < L.length := by omega
    obtain ⟨S', h1, h2⟩ := hstep i _ S hR (List.getElem?_eq_getElem hlt)
    rw [evD_loop, hk _ _ hR, h1, seqK_normal]
    exact evD_foldR L R F hk hstep hend n (i + 1) S' (by omega) h2 hlt
def looseX (x : Item) : Bool := decide (x.k = 2) || decide (x.k = 3)
def forcesX (x : Item) : Bool := decide (x.k = 3) && decide (x.n ≤ -10000)
theorem loose_ev (x : Item) (H : Heap) : clD EE (.p (.fn 36)) [vItem x] H = some (vB (looseX x), none) := by
  rw [clD_body _ _ _ _ _ _ (noP _) fn36]
  unfold looseX
  by_cases h : x.k = 2 <;> simp [St.enter, enumFrom, subs, setSubs, h]
theorem forces_ev (x : Item) (H : Heap) : clD EE (.p (.fn 42)) [vItem x] H = some (vB (forcesX x), none) := by
  rw [clD_body _ _ _ _ _ _ (noP _) fn42]
  unfold forcesX
  by_cases h : x.k = 3 <;> simp [St.enter, enumFrom, subs, setSubs, h]
theorem items1_ev (x : Item) (H : Heap) : clD EE (.p (.fn 39)) [vItem x] H = some (vB (!looseX x), none) := by
  rw [clD_body _ _ _ _ _ _ (noP _) fn39]
  have h := fun H => loose_ev x H
  simp [St.enter, enumFrom, subs, setSubs, h]
theorem items2_ev (x : Item) (H : Heap) : clD EE (.p (.fn 40)) [vItem x] H = some (vB (decide (x.k = 2)), none) := by
  rw [clD_body _ _ _ _ _ _ (noP _) fn40]
  simp [St.enter, enumFrom, subs, setSubs]
abbrev cJb (j : Job) : List V := cGeom j.g ++ [vItems j.items, vNotes j.notes, vFloats j.floats]
def isF (I : List Item) (t : Int) (q : Item → Bool) : Bool := if 0 ≤ t ∧ t < I.length then q (rd I t) else false
theorem is_ev (j : Job) (p : Nat) (ws : List Warn) (t : Int) (k : Nat) (q : Item → Bool) (H : Heap) (h : Look H p (cJb j) ws) (hq : ∀ x H, clD EE (.p (.fn k)) [vItem x] H = some (vB (q x), none)) :
    clD EE (.p (.fn 38)) [.ptr p 0, vI t, .p (.fn k)] H = some (vB (isF j.items t q), none) := by
  obtain ⟨o, hb, -⟩ := h.out
  rw [clD_body _ _ _ _ _ _ (noP _) fn38]
  unfold isF
  by_cases h0 : 0 ≤ t
  · by_cases h1 : t < j.items.length
    · have hg := rd_get j.items t h0 h1
      have hiy := fun H k => ixs_int H encItem (k := k) (s := 7) h0 hg rfl
      rw [if_pos ⟨h0, h1⟩]
      generalize rd j.items t = x at *
      simp [St.enter, enumFrom, subs, setSubs, hb, h0, h1, hiy, encItem, hq]
    · rw [if_neg (fun h => h1 h.2)]
      simp [St.enter, enumFrom, subs, setSubs, hb, h0, h1]
  · rw [if_neg (fun h => h0 h.1)]
    simp [St.enter, enumFrom, subs, setSubs, hb, h0]
/-! ### One after the other -/
def bB (I : List Item) : Nat → Bool
  | 0 => true
  | n + 1 => (bB I n && looseX (rd I n)) || (decide (0 < n) && forcesX (rd I n))
abbrev pen0 : Item := ⟨3, 0, 0, 0, 0, 0, 0⟩
def tallB (g : Geom) (x : Item) : Bool := decide (x.k = 1) && decide (g.high < x.h)
def lostB (I : List Item) (i : Nat) : Bool := bB I i && looseX (rd I i)
def idleB (I : List Item) (i : Nat) : Bool := decide (rd I i = pen0) && (isF I (i - 1) (fun x => !looseX x) && isF I (i + 1) (fun x => decide (x.k = 2)))
def perW (g : Geom) (I : List Item) (i : Nat) : List Warn := (if tallB g (rd I i) = true then [⟨1, i⟩] else []) ++ (if lostB I i = true then [⟨4, i⟩] else []) ++ (if idleB I i = true then [⟨5, i⟩] else [])
def itemsW (g : Geom) (I : List Item) : Nat → List Warn
  | 0 => []
  | n + 1 => itemsW g I n ++ perW g I n
theorem itemsW_len (g : Geom) (I : List Item) : ∀ n, (itemsW g I n).length ≤ 3 * n
  | 0 => by simp [itemsW]
  | n + 1 => by
    have := itemsW_len g I n
    simp only [itemsW, perW, List.length_append]
    have e : ∀ (b : Bool) (w : Warn), (if b = true then [w] else []).length ≤ 1 := by intro b w; cases b <;> simp
    have e1 := e (tallB g (rd I n)) ⟨1, n⟩
    have e2 := e (lostB I n) ⟨4, n⟩
    have e3 := e (idleB I n) ⟨5, n⟩
    omega
def itE (j : Job) (p B : Nat) (H : Heap) (d : List Nat) (b : Bool) (i : Nat) : St := ⟨[(0, .ptr p 0), (2, vB b), (12, vItems j.items), (13, vI j.items.length), (14, vI i)], [], H, B, d⟩
def itR (j : Job) (p B : Nat) (H0 : Heap) (ws : List Warn) (i : Nat) (S : St) : Prop := ∃ H d, S = itE j p B H d (bB j.items i) i ∧ Look H p (cJb j) (ws ++ itemsW j.g j.items i) ∧ (d = [] → Look H0 p (cJb j) (ws ++ itemsW j.g j.items i))
def itF (j : Job) (p B : Nat) (H0 : Heap) (ws : List Warn) (r : Ex × St) : Prop := ∃ H d, r = (.exit 0, ⟨[(0, .ptr p 0), (2, vB (bB j.items j.items.length)), (12, vItems j.items), (13, vI j.items.length), (14, vI j.items.length), (15, vB false)], [], H, B, d⟩) ∧ Look H p (cJb j) (ws ++ itemsW j.g j.items j.items.length) ∧ (d = [] → Look H0 p (cJb j) (ws ++ itemsW j.g j.items j.items.length))
theorem rd_of {α : Type} [Inhabited α] {l : List α} {i : Nat} {x : α} (h : l[i]? = some x) : rd l i = x := by
  unfold rd
  simp [List.getD, h]
set_option maxHeartbeats 4000000 in
theorem ltItems_lp (j : Job) (p B : Nat) (hpB : p < B) (H0 : Heap) (ws : List Warn) (hl : j.items.length ≤ 1000000) (hw : ws.length ≤ 100000000) (S : St) (hS : itR j p B H0 ws 0 S) :
    ∃ r, evD EE lp16_0 S = some r ∧ itF j p B H0 ws r := by
  unfold lp16_0
  refine evD_foldR j.items (itR j p B H0 ws) (itF j p B H0 ws) (by rintro i S ⟨H, d, rfl, -, -⟩; rfl) ?_ ?_ _ 0 S rfl hS (Nat.zero_le _)
  · rintro i x S ⟨H, d, rfl, hL, hL0⟩ hx
    have hlt := (List.getElem?_eq_some_iff.1 hx).1
    have hix := fun H k => ixs_nat H encItem (k := k) (s := 7) hx rfl
    have hrd := rd_of hx
    have w : IntKind.i64.wrap ((i : Int) + 1) = ((i + 1 : Nat) : Int) := w64 (by omega) (by omega)
    have wm : IntKind.i64.wrap ((i : Int) - 1) = (i : Int) - 1 := w64 (by omega) (by omega)
    have hwl := itemsW_len j.g j.items i
    have lo := fun H => loose_ev x H
    have fo := fun H => forces_ev x H
    have pe := fun H => pen_item_ev 0 H
    obtain ⟨r1, h1, L1, -, m1⟩ := tell_ev p (cJb j) rfl (ws ++ itemsW j.g j.items i) 1 i (tallB j.g x) H hL (by simp; omega)
    have e : ∀ (l : List Warn) (b : Bool) (w : Warn), (l ++ if b = true then [w] else []).length ≤ l.length + 1 := by intro l b w; cases b <;> simp
    have q1 := e (ws ++ itemsW j.g j.items i) (tallB j.g x) ⟨1, i⟩
    obtain ⟨r2, h2, L2, -, m2⟩ := tell_ev p (cJb j) rfl _ 4 i (lostB j.items i) (hpOf H r1) L1 (by simp only [List.length_append] at q1 ⊢; omega)
    have q2 := Nat.le_trans (e (ws ++ itemsW j.g j.items i ++ if tallB j.g x = true then [⟨1, i⟩] else []) (lostB j.items i) ⟨4, i⟩) (Nat.add_le_add_right q1 1)
    obtain ⟨r3, h3, L3, -, m3⟩ := tell_ev p (cJb j) rfl _ 5 i (idleB j.items i) (hpOf (hpOf H r1) r2) L2 (by simp only [List.length_append] at q2 ⊢; omega)
    have s1 := is_ev j p _ ((i : Int) - 1) _ _ _ L2 items1_ev
    have s2 := is_ev j p _ ((i : Int) + 1) _ _ _ L2 items2_ev
    obtain ⟨o, hb, -⟩ := hL.out
    refine ⟨itE j p B (hpOf (hpOf (hpOf H r1) r2) r3) ((dsOf r3).foldr (addD B) ((dsOf r2).foldr (addD B) ((dsOf r1).foldr (addD B) d))) (bB j.items (i + 1)) (i + 1), ?_, _, _, rfl, ?_, ?_⟩
    · have eb : bB j.items (i + 1) = (lostB j.items i || (decide (0 < i) && forcesX x)) := by simp only [bB, lostB, hrd]
      have el : lostB j.items i = (bB j.items i && looseX x) := by simp only [lostB, hrd]
      have ei : idleB j.items i = (decide (x = pen0) && (isF j.items (i - 1) (fun x => !looseX x) && isF j.items (i + 1) (fun x => decide (x.k = 2)))) := by simp only [idleB, hrd]
      rw [eb]
      generalize isF j.items ((i : Int) - 1) (fun x => !looseX x) = a at *
      generalize isF j.items ((i : Int) + 1) (fun x => decide (x.k = 2)) = c at *
      generalize hta : tallB j.g x = ta at *
      generalize bB j.items i = bb at *
      generalize lostB j.items i = ll at *
      generalize idleB j.items i = ii at *
      have hpd : (decide (x.k = 3) && (decide (x.h = 0) && (decide (x.f = 0) && (decide (x.str = 0) && (decide (x.ord = 0) && (decide (x.shr = 0) && decide (x.n = 0))))))) = decide (x = pen0) := by
        cases x; simp
      have hpp : (x.k = 3 ∧ x.h = 0 ∧ x.f = 0 ∧ x.str = 0 ∧ x.ord = 0 ∧ x.shr = 0 ∧ x.n = 0) ↔ (decide (x = pen0) = true) := by
        cases x; simp
      have hp3 : decide (x = pen0) = true → x.k = 3 := fun h => (hpp.2 h).1
      generalize looseX x = lx at *
      generalize forcesX x = fx at *
      generalize decide (x = pen0) = pp at *
      subst el ei
      have goal1 : ∀ H1 : Heap, True := fun _ => trivial
      by_cases k1 : x.k = 1
      · have et : ta = decide (j.g.high < x.h) := by rw [← hta]; simp [tallB, k1]
        rw [et] at h1
        have pf : pp = false := by cases pp with | false => rfl | true => exact absurd (hp3 rfl) (by rw [k1]; decide)
        subst pf
        simp only [vItem, k1] at lo fo
        by_cases i0 : 0 < i <;> cases bb <;> cases lx <;> simp only [Bool.true_and, Bool.false_and, Bool.and_true, Bool.and_false] at h2 h3 <;>
          simp [itE, hlt, hix, encItem, subs, setSubs, w, wm, lo, fo, pe, hb, h1, h2, h3, s1, s2, k1, callR_opt, i0]
      · have et : ta = false := by rw [← hta]; simp [tallB, k1]
        rw [et] at h1
        by_cases i0 : 0 < i <;> cases bb <;> cases lx <;> cases pp <;> cases a <;> simp only [Bool.true_and, Bool.false_and, Bool.and_true, Bool.and_false] at h2 h3 <;>
          simp [itE, hlt, hix, encItem, subs, setSubs, w, wm, lo, fo, pe, hb, h1, h2, h3, s1, s2, k1, callR_opt, i0, hpd, hpp]
    · simp only [itemsW, perW, hrd, List.append_assoc] at L3 ⊢
      exact L3
    · intro hd
      rcases m3 with ⟨-, b3⟩ | m3
      · rcases m2 with ⟨-, b2⟩ | m2
        · rcases m1 with ⟨-, b1⟩ | m1
          · have hd0 : d = [] := by
              cases d with
              | nil => rfl
              | cons y d' =>
                have := foldD_mem (B := B) (ds := dsOf r3) (foldD_mem (B := B) (ds := dsOf r2) (foldD_mem (B := B) (ds := dsOf r1) (show y ∈ y :: d' from List.mem_cons_self)))
                rw [hd] at this; cases this
            have := hL0 hd0
            simp only [itemsW, perW, hrd, b1, b2, b3]
            simpa using this
          · have := foldD_mem (B := B) (ds := dsOf r3) (foldD_mem (B := B) (ds := dsOf r2) (foldD_in (d := d) m1 hpB))
            rw [hd] at this; cases this
        · have := foldD_mem (B := B) (ds := dsOf r3) (foldD_in (d := (dsOf r1).foldr (addD B) d) m2 hpB)
          rw [hd] at this; cases this
      · have := foldD_in (B := B) (d := (dsOf r2).foldr (addD B) ((dsOf r1).foldr (addD B) d)) m3 hpB
        rw [hd] at this; cases this
  · rintro S ⟨H, d, rfl, hL, hL0⟩
    refine ⟨_, ?_, ?_, H, d, rfl, hL, hL0⟩
    · simp [itE]
    · simp
theorem ltItems_ev (j : Job) (p : Nat) (ws : List Warn) (H : Heap) (hL : Look H p (cJb j) ws) (hl : j.items.length ≤ 1000000) (hw : ws.length ≤ 100000000) :
    ∃ r, clD EE (.p (.fn 16)) [.ptr p 0] H = some (.tup [], r) ∧ Look (hpOf H r) p (cJb j) (ws ++ itemsW j.g j.items j.items.length) := by
  obtain ⟨o, hb, -⟩ := hL.out
  obtain ⟨x, h1, H1, d, rfl, h2, h3⟩ := ltItems_lp j p H.length hL.lt H ws hl hw (itE j p H.length H [] true 0) ⟨H, [], rfl, by simpa [itemsW] using hL, fun _ => by simpa [itemsW] using hL⟩
  refine ⟨if d = [] then none else some (H1, d), ?_, ?_⟩
  · rw [clD_body _ _ _ _ _ _ (noP _) fn16]
    simp [itE] at h1
    simp [St.enter, enumFrom, subs, setSubs, hb, h1]
  · by_cases hd : d = []
    · rw [if_pos hd]; exact h3 hd
    · rw [if_neg hd]; exact h2
end Go.EnvOf

/- A look at a job: its notes and its floats. -/
namespace Go.EnvOf
open Go Go.Eng
set_option maxRecDepth 100000
def idxW (k : Int) (q : Nat → Bool) : Nat → List Warn
  | 0 => []
  | n + 1 => idxW k q n ++ (if q n = true then [⟨k, n⟩] else [])
theorem idxW_len (k : Int) (q : Nat → Bool) : ∀ n, (idxW k q n).length ≤ n
  | 0 => by simp [idxW]
  | n + 1 => by
    have := idxW_len k q n
    simp only [idxW, List.length_append]
    cases q n <;> simp <;> omega
/-- What one telling keeps true. -/
theorem keeps {B p : Nat} {J : List V} {H0 : Heap} {ws ws' : List Warn} {d : List Nat} {r : Option (Heap × List Nat)} {b : Bool} (hpB : p < B) (hL0 : d = [] → Look H0 p J ws) (hm : r = none ∧ b = false ∨ p ∈ dsOf r) (he : b = false → ws' = ws) (hd : (dsOf r).foldr (addD B) d = []) : Look H0 p J ws' := by
  rcases hm with ⟨hr, hb⟩ | hm
  · rw [he hb]
    apply hL0
    rw [hr] at hd
    exact hd
  · have := foldD_in (B := B) (d := d) hm hpB
    rw [hd] at this; cases this

/-! ### The notes -/
def limJ (g : Geom) : Int := IntKind.i64.wrap (min g.noteMost g.high - g.rule)
def longB (lim : Int) (n : Note) : Bool := n.lines.any fun h => decide (lim < h)
def nnE (j : Job) (p B : Nat) (H : Heap) (d : List Nat) (lim : Int) (i : Nat) (ls : List Int) (b : Bool) (k : Nat) : St :=
  ⟨[(0, .ptr p 0), (2, vI lim), (3, vI i), (5, vB b), (32, vNotes j.notes), (33, vI j.notes.length), (34, vI i), (40, sli ls), (41, vI ls.length), (42, vI k)], [], H, B, d⟩
def nnX (j : Job) (p B : Nat) (H : Heap) (d : List Nat) (lim : Int) (i : Nat) (ls : List Int) (b : Bool) : Ex × St :=
  (.exit 2, ⟨[(0, .ptr p 0), (2, vI lim), (3, vI i), (5, vB b), (32, vNotes j.notes), (33, vI j.notes.length), (34, vI i), (40, sli ls), (41, vI ls.length), (42, vI ls.length), (43, vB false)], [], H, B, d⟩)
theorem fold_orB {α : Type} (p : α → Bool) : ∀ (l : List α) (w : Bool) (i : Nat), fold (fun (w : Bool) _ x => w || p x) w i l = (w || l.any p)
  | [], w, i => by simp [fold]
  | x :: r, w, i => by simp only [fold, fold_orB p r, List.any_cons, Bool.or_assoc]
theorem nn_lp (j : Job) (p B : Nat) (H : Heap) (d : List Nat) (lim : Int) (i : Nat) (ls : List Int) (hl : ls.length ≤ 1000000) : evD EE lp17_0 (nnE j p B H d lim i ls false 0) = some (nnX j p B H d lim i ls (ls.any fun h => decide (lim < h))) := by
  unfold lp17_0
  refine Eq.trans (evD_fold ls (nnE j p B H d lim i ls) (fun _ _ => True) (fun (w : Bool) _ x => w || decide (lim < x)) (nnX j p B H d lim i ls) (fun _ _ => rfl) ?_ ?_ false 0 trivial (Nat.zero_le _)) (by rw [List.drop_zero, fold_orB]; rfl)
  · intro b k x _ hx
    refine ⟨?_, trivial⟩
    have hlt := (List.getElem?_eq_some_iff.1 hx).1
    have hix := fun H k => ixs_nat H encI (k := k) (s := 1) hx rfl
    have w : IntKind.i64.wrap ((k : Int) + 1) = ((k + 1 : Nat) : Int) := w64 (by omega) (by omega)
    cases b <;> simp [nnE, hlt, hix, encI, subs, w]
  · intro b _
    refine ⟨?_, by simp [nnX]⟩
    simp [nnE, nnX]
def noE (j : Job) (p B : Nat) (H : Heap) (d : List Nat) (lim : Int) (i : Nat) : St := ⟨[(0, .ptr p 0), (2, vI lim), (32, vNotes j.notes), (33, vI j.notes.length), (34, vI i)], [], H, B, d⟩
def notesW (lim : Int) (N : List Note) : Nat → List Warn := idxW 2 fun i => longB lim (rd N i)
def noR (j : Job) (p B : Nat) (H0 : Heap) (lim : Int) (ws : List Warn) (i : Nat) (S : St) : Prop := ∃ H d, S = noE j p B H d lim i ∧ Look H p (cJb j) (ws ++ notesW lim j.notes i) ∧ (d = [] → Look H0 p (cJb j) (ws ++ notesW lim j.notes i))
def noF (j : Job) (p B : Nat) (H0 : Heap) (lim : Int) (ws : List Warn) (r : Ex × St) : Prop := ∃ H d, r = (.exit 0, ⟨[(0, .ptr p 0), (2, vI lim), (32, vNotes j.notes), (33, vI j.notes.length), (34, vI j.notes.length), (35, vB false)], [], H, B, d⟩) ∧ Look H p (cJb j) (ws ++ notesW lim j.notes j.notes.length) ∧ (d = [] → Look H0 p (cJb j) (ws ++ notesW lim j.notes j.notes.length))
theorem no_lp (j : Job) (p B : Nat) (hpB : p < B) (H0 : Heap) (lim : Int) (ws : List Warn) (hl : j.notes.length ≤ 1000000) (hln : ∀ n ∈ j.notes, n.lines.length ≤ 1000000) (hw : ws.length ≤ 100000000) (S : St) (hS : noR j p B H0 lim ws 0 S) :
    ∃ r, evD EE lp17_1 S = some r ∧ noF j p B H0 lim ws r := by
  unfold lp17_1
  refine evD_foldR j.notes (noR j p B H0 lim ws) (noF j p B H0 lim ws) (by rintro i S ⟨H, d, rfl, -, -⟩; rfl) ?_ ?_ _ 0 S rfl hS (Nat.zero_le _)
  · rintro i x S ⟨H, d, rfl, hL, hL0⟩ hx
    have hlt := (List.getElem?_eq_some_iff.1 hx).1
    have hix := fun H k => ixs_nat H encNote (k := k) (s := 2) hx rfl
    have hrd := rd_of hx
    have w : IntKind.i64.wrap ((i : Int) + 1) = ((i + 1 : Nat) : Int) := w64 (by omega) (by omega)
    have hwl := idxW_len 2 (fun i => longB lim (rd j.notes i)) i
    have k0 := nn_lp j p B H d lim i x.lines (hln x (List.mem_of_getElem? hx))
    have ex : (x.lines.any fun h => decide (lim < h)) = longB lim x := rfl
    rw [ex] at k0
    obtain ⟨r1, h1, L1, -, m1⟩ := tell_ev p (cJb j) rfl (ws ++ notesW lim j.notes i) 2 i (longB lim x) H hL (by unfold notesW; simp; omega)
    obtain ⟨o, hb, -⟩ := hL.out
    have hs : notesW lim j.notes (i + 1) = notesW lim j.notes i ++ (if longB lim x = true then [⟨2, i⟩] else []) := by simp only [notesW, idxW, hrd]
    refine ⟨noE j p B (hpOf H r1) ((dsOf r1).foldr (addD B) d) lim (i + 1), ?_, _, _, rfl, ?_, ?_⟩
    · generalize longB lim x = lb at *
      simp [nnE, nnX] at k0
      simp [noE, hlt, hix, encNote, subs, setSubs, w, k0, h1, callR_opt]
    · rw [hs, ← List.append_assoc]; exact L1
    · intro hd
      refine keeps hpB hL0 m1 (fun hb => ?_) hd
      rw [hs, hb]; simp
  · rintro S ⟨H, d, rfl, hL, hL0⟩
    refine ⟨_, ?_, ?_, H, d, rfl, hL, hL0⟩
    · simp [noE]
    · simp
theorem ltNotes_ev (j : Job) (p : Nat) (ws : List Warn) (H : Heap) (hL : Look H p (cJb j) ws) (hl : j.notes.length ≤ 1000000) (hln : ∀ n ∈ j.notes, n.lines.length ≤ 1000000) (hw : ws.length ≤ 100000000) :
    ∃ r, clD EE (.p (.fn 17)) [.ptr p 0] H = some (.tup [], r) ∧ Look (hpOf H r) p (cJb j) (ws ++ notesW (limJ j.g) j.notes j.notes.length) := by
  obtain ⟨o, hb, -⟩ := hL.out
  obtain ⟨x, h1, H1, d, rfl, h2, h3⟩ := no_lp j p H.length hL.lt H (limJ j.g) ws hl hln hw (noE j p H.length H [] (limJ j.g) 0) ⟨H, [], rfl, by simpa [notesW, idxW] using hL, fun _ => by simpa [notesW, idxW] using hL⟩
  refine ⟨if d = [] then none else some (H1, d), ?_, ?_⟩
  · rw [clD_body _ _ _ _ _ _ (noP _) fn17]
    simp [noE, limJ] at h1
    simp [St.enter, enumFrom, subs, setSubs, hb, h1]
  · by_cases hd : d = []
    · rw [if_pos hd]; exact h3 hd
    · rw [if_neg hd]; exact h2
end Go.EnvOf

/- A look at a job: its floats. -/
namespace Go.EnvOf
open Go Go.Eng
set_option maxRecDepth 100000
def fitPr (g : Geom) (l : List Float) (p : Pr) : Bool := fitT g l p.1 && fitB g l p.2
theorem floats1_ev (j : Job) (p q : Nat) (ws : List Warn) (pr : Pr) (H : Heap) (hL : Look H p (cJb j) ws) (hq : Eng.boxAt H q = some [.ptr p 0]) (h1 : pr.1.length ≤ 1000000) (h2 : pr.2.length ≤ 1000000) :
    clD EE (.fn (.func 43) [] [.ptr q 0]) [vPair pr] H = some (vB (fitPr j.g j.floats pr), none) := by
  obtain ⟨o, hb, -⟩ := hL.out
  rw [clD_clo, clD_body _ _ _ _ _ _ (noP _) fn43]
  have f := fun H => afits_ev j.g j.floats pr H h1 h2
  simp [St.enter, enumFrom, subs, setSubs, hb, hq, f, fitPr]
def stuckB (g : Geom) (F : List Float) (i : Nat) : Bool := !fitPr g F ([(i : Int)], []) && !fitPr g F ([], [(i : Int)])
def floatsW (g : Geom) (F : List Float) : Nat → List Warn := idxW 3 (stuckB g F)
def clF (q : Nat) : V := .fn (.func 43) [] [.ptr q 0]
def foE (j : Job) (q B : Nat) (H : Heap) (d : List Nat) (i : Nat) : St := ⟨[(1, .ptr q 0), (2, clF q), (11, vI j.floats.length), (12, vI i)], [], H, B, d⟩
def foR (j : Job) (p q B : Nat) (H0 : Heap) (ws : List Warn) (i : Nat) (S : St) : Prop := ∃ H d, S = foE j q B H d i ∧ Look H p (cJb j) (ws ++ floatsW j.g j.floats i) ∧ (d = [] → Look H0 p (cJb j) (ws ++ floatsW j.g j.floats i)) ∧ Eng.boxAt H q = some [.ptr p 0]
def foF (j : Job) (p q B : Nat) (H0 : Heap) (ws : List Warn) (r : Ex × St) : Prop := ∃ H d, r = (.exit 0, ⟨[(1, .ptr q 0), (2, clF q), (11, vI j.floats.length), (12, vI j.floats.length), (13, vB false)], [], H, B, d⟩) ∧ Look H p (cJb j) (ws ++ floatsW j.g j.floats j.floats.length) ∧ (d = [] → Look H0 p (cJb j) (ws ++ floatsW j.g j.floats j.floats.length))
theorem fo_lp (j : Job) (p q B : Nat) (hpB : p < B) (hqp : q ≠ p) (H0 : Heap) (ws : List Warn) (hl : j.floats.length ≤ 1000000) (hw : ws.length ≤ 100000000) (S : St) (hS : foR j p q B H0 ws 0 S) :
    ∃ r, evD EE lp18_0 S = some r ∧ foF j p q B H0 ws r := by
  unfold lp18_0
  refine evD_foldR j.floats (foR j p q B H0 ws) (foF j p q B H0 ws) (by rintro i S ⟨H, d, rfl, -, -⟩; rfl) ?_ ?_ _ 0 S rfl hS (Nat.zero_le _)
  · rintro i x S ⟨H, d, rfl, hL, hL0, hq⟩ hx
    have hlt := (List.getElem?_eq_some_iff.1 hx).1
    have w : IntKind.i64.wrap ((i : Int) + 1) = ((i + 1 : Nat) : Int) := w64 (by omega) (by omega)
    have hwl := idxW_len 3 (stuckB j.g j.floats) i
    have f1 := floats1_ev j p q _ ([(i : Int)], []) H hL hq (by simp) (by simp)
    have f2 := floats1_ev j p q _ ([], [(i : Int)]) H hL hq (by simp) (by simp)
    obtain ⟨r1, h1, L1, hpres, m1⟩ := tell_ev p (cJb j) rfl (ws ++ floatsW j.g j.floats i) 3 i (stuckB j.g j.floats i) H hL (by unfold floatsW; simp; omega)
    obtain ⟨o, hb, -⟩ := hL.out
    have hs : floatsW j.g j.floats (i + 1) = floatsW j.g j.floats i ++ (if stuckB j.g j.floats i = true then [⟨3, i⟩] else []) := rfl
    refine ⟨foE j q B (hpOf H r1) ((dsOf r1).foldr (addD B) d) (i + 1), ?_, _, _, rfl, ?_, ?_, hpres q _ hqp hq⟩
    · unfold stuckB at h1
      simp only [vPair, sli, List.map_cons, List.map_nil, encI] at f1 f2
      simp at f1 f2
      cases ha : fitPr j.g j.floats ([(i : Int)], []) with
      | true =>
        rw [ha] at h1 f1
        simp at h1
        simp [foE, clF, hlt, encI, subs, setSubs, w, hq, f1, h1, callR_opt]
      | false =>
        rw [ha] at h1 f1
        simp at h1
        simp [foE, clF, hlt, encI, subs, setSubs, w, hq, f1, f2, h1, callR_opt]
    · rw [hs, ← List.append_assoc]; exact L1
    · intro hd
      refine keeps hpB hL0 m1 (fun hb => ?_) hd
      rw [hs, hb]; simp
  · rintro S ⟨H, d, rfl, hL, hL0, hq⟩
    refine ⟨_, ?_, ?_, H, d, rfl, hL, hL0⟩
    · simp [foE]
    · simp
theorem ltFloats_ev (j : Job) (p : Nat) (ws : List Warn) (H : Heap) (hL : Look H p (cJb j) ws) (hl : j.floats.length ≤ 1000000) (hw : ws.length ≤ 100000000) :
    ∃ r, clD EE (.p (.fn 18)) [.ptr p 0] H = some (.tup [], r) ∧ Look (hpOf H r) p (cJb j) (ws ++ floatsW j.g j.floats j.floats.length) := by
  obtain ⟨o, hb, ho⟩ := id hL.out
  have hlt := hL.lt
  have hL1 : Look (H ++ [.box [.ptr p 0]]) p (cJb j) ws := by
    refine ⟨⟨o, (boxAt_app_lt _ hlt).trans hb, ?_⟩, by simp; omega⟩
    rcases ho with ho | ⟨id, hid, hpi, rfl, hr, hw⟩
    · exact .inl ho
    · refine .inr ⟨id, by simp; omega, hpi, rfl, ?_, hw⟩
      rw [Eng.rowAt, List.getElem?_append_left hid]; exact hr
  obtain ⟨x, h1, H1, d, rfl, h2, h3⟩ := fo_lp j p H.length H.length hlt (by omega) H ws hl hw (foE j H.length H.length (H ++ [.box [.ptr p 0]]) [] 0) ⟨_, [], rfl, by simpa [floatsW, idxW] using hL1, fun _ => by simpa [floatsW, idxW] using hL, by simp⟩
  refine ⟨if d = [] then none else some (H1, d), ?_, ?_⟩
  · rw [clD_body _ _ _ _ _ _ (noP _) fn18]
    have hb2 := fun T => (boxAt_app_lt T hlt).trans hb
    simp [foE, clF] at h1
    simp [St.enter, enumFrom, subs, setSubs, hb, hb2, h1]
  · by_cases hd : d = []
    · rw [if_pos hd]; exact h3 hd
    · rw [if_neg hd]; exact h2
end Go.EnvOf

/- Jobs on a grid, by the document. -/
namespace Go.EnvOf
open Go Go.Eng

def rowsG {α : Type} (s : Nat) (enc : α → List PV) (l : List α) : Heap := if l = [] then [] else [.row s (upV (l.map enc))]
@[simp] theorem rowsG_nil {α : Type} (s : Nat) (enc : α → List PV) : rowsG s enc [] = [] := rfl
theorem rowsG_cons {α : Type} (s : Nat) (enc : α → List PV) (x : α) (r : List α) : rowsG s enc (x :: r) = [.row s (upV ((x :: r).map enc))] := rfl
theorem app_acc {α : Type} (env : List (Nat × V)) (loc : List (Nat × List V)) (H : Heap) (base : Nat) (dirty : List Nat) (s : Nat) (enc : α → List PV) (l : List α) (x : α) (hs : (enc x).length = s) (hm : l.length + 1 < most) (hb : base ≤ H.length) :
    appV ⟨env, loc, H ++ rowsG s enc l, base, dirty⟩ (cloneV H.length l) (.p (.sl [enc x])) s = some (cloneV H.length (l ++ [x]), ⟨env, loc, H ++ rowsG s enc (l ++ [x]), base, dirty⟩) := by
  cases l with
  | nil =>
    have hm' : 1 < most := by unfold most; omega
    simp [rowsG_cons, hs, hm']
  | cons y r =>
    have hm' : r.length + 1 + 1 < most := by simpa using hm
    have e : addD base H.length dirty = dirty := by unfold addD; rw [if_neg (by omega)]
    simp [rowsG_cons, hs, hm', hb, upV, okEl, List.all_map]

theorem ritem_ev (x : Item) (s : Int) (hx : okItem x) (hs : I64 s) (H : Heap) : clD EE (.p (.fn 47)) [vItem x, vI s] H = some (vItem (itemG s x), none) := by
  rw [clD_body _ _ _ _ _ _ (noP _) fn47]
  have h1 := rgup_ev x.h s H hx.2.1 hs
  have h2 := rgnear_ev x.h s H hx.2.1 hs
  by_cases k1 : x.k = 1
  · simp [St.enter, enumFrom, subs, setSubs, k1, h1, itemG]
  · by_cases k2 : x.k = 2
    · simp [St.enter, enumFrom, subs, setSubs, k1, k2, h2, itemG]
    · simp [St.enter, enumFrom, subs, setSubs, k1, k2, itemG]

/-! ### The items -/
def rsE (s : Int) (J Z : List V) (t : Nat) (g : Geom) (a b c : V) (H : Heap) (B : Nat) (i : Nat) : St :=
  ⟨[(1, .lptr 1 0), (2, .lptr 2 0), (3, vI s), (4, .lptr 4 0), (t, vI i)], [(1, J), (2, Z), (4, cGeom g ++ [a, b, c])], H, B, []⟩
def rsX (s : Int) (J Z : List V) (t u e : Nat) (g : Geom) (a b c : V) (H : Heap) (B : Nat) (i : Nat) : Ex × St :=
  (.exit e, ⟨[(1, .lptr 1 0), (2, .lptr 2 0), (3, vI s), (4, .lptr 4 0), (t, vI i), (u, .p (.bool false))], [(1, J), (2, Z), (4, cGeom g ++ [a, b, c])], H, B, []⟩)

theorem ritems_lp (j : Job) (ok : okJob j) (hs : I64 j.g.grid) (Z : List V) (g : Geom) (b c : V) (H : Heap) :
    evD EE lp19_0 (rsE j.g.grid (cGeom j.g ++ [vItems j.items, vNotes j.notes, vFloats j.floats]) Z 5 g .nils b c H H.length 0) =
      some (rsX j.g.grid (cGeom j.g ++ [vItems j.items, vNotes j.notes, vFloats j.floats]) Z 5 52 0 g (cloneV H.length (j.items.map (itemG j.g.grid))) b c (H ++ rowsG 7 encItem (j.items.map (itemG j.g.grid))) H.length j.items.length) := by
  unfold lp19_0
  rw [show ∀ a, rsE j.g.grid (cGeom j.g ++ [vItems j.items, vNotes j.notes, vFloats j.floats]) Z 5 g a b c H H.length 0 = rsE j.g.grid (cGeom j.g ++ [vItems j.items, vNotes j.notes, vFloats j.floats]) Z 5 g a b c (H ++ rowsG 7 encItem []) H.length 0 from fun a => by rw [rowsG_nil, List.append_nil]]
  refine Eq.trans (evD_fold j.items (fun (M : List Item) i => rsE j.g.grid (cGeom j.g ++ [vItems j.items, vNotes j.notes, vFloats j.floats]) Z 5 g (cloneV H.length M) b c (H ++ rowsG 7 encItem M) H.length i) (fun M i => M.length = i) (fun M _ x => M ++ [itemG j.g.grid x])
    (fun M => rsX j.g.grid (cGeom j.g ++ [vItems j.items, vNotes j.notes, vFloats j.floats]) Z 5 52 0 g (cloneV H.length M) b c (H ++ rowsG 7 encItem M) H.length j.items.length) (fun _ _ => rfl) ?_ ?_ [] 0 rfl (Nat.zero_le _)) ?_
  · rintro M i x hM hx
    refine ⟨?_, by simp [hM]⟩
    have hlt := (List.getElem?_eq_some_iff.1 hx).1
    have hn := ok.n1
    have w : IntKind.i64.wrap ((i : Int) + 1) = ((i + 1 : Nat) : Int) := w64 (by omega) (by omega)
    have ho := ok.items x (List.mem_of_getElem? hx)
    have hix := fun H k => ixs_nat H encItem (k := k) (s := 7) hx rfl
    have h1 := fun H' => ritem_ev x j.g.grid ho hs H'
    have ha := fun env loc => app_acc env loc H H.length [] 7 encItem M (itemG j.g.grid x) rfl (by unfold most; omega) (Nat.le_refl _)
    simp only [encItem] at ha hix
    simp [-appV_mk, rsE, hlt, hix, subs, setSubs, h1, ha, w]
  · rintro M hM
    simp [rsE, rsX, subs]
  · have : ∀ (l : List Item) (M : List Item) i, fold (fun (M : List Item) _ x => M ++ [itemG j.g.grid x]) M i l = M ++ l.map (itemG j.g.grid) := by
      intro l
      induction l with
      | nil => intro M i; simp [fold]
      | cons x r ih => intro M i; simp [fold, ih]
    simp [this]

theorem fold_snoc {α β : Type} (g : α → β) : ∀ (l : List α) (M : List β) i, fold (fun (M : List β) _ x => M ++ [g x]) M i l = M ++ l.map g
  | [], M, i => by simp [fold]
  | x :: r, M, i => by simp only [fold, fold_snoc g r, List.map_cons, List.append_assoc, List.cons_append, List.nil_append]

/-! ### The floats -/
theorem rfloats_lp (j : Job) (ok : okJob j) (hs : I64 j.g.grid) (Z : List V) (g : Geom) (a b : V) (H : Heap) (B : Nat) (hB : B ≤ H.length) :
    evD EE lp19_3 (rsE j.g.grid (cGeom j.g ++ [vItems j.items, vNotes j.notes, vFloats j.floats]) Z 9 g a b .nils H B 0) =
      some (rsX j.g.grid (cGeom j.g ++ [vItems j.items, vNotes j.notes, vFloats j.floats]) Z 9 118 6 g a b (cloneV H.length (j.floats.map (floatG j.g.grid))) (H ++ rowsG 3 encFloat (j.floats.map (floatG j.g.grid))) B j.floats.length) := by
  unfold lp19_3
  rw [show ∀ c, rsE j.g.grid (cGeom j.g ++ [vItems j.items, vNotes j.notes, vFloats j.floats]) Z 9 g a b c H B 0 = rsE j.g.grid (cGeom j.g ++ [vItems j.items, vNotes j.notes, vFloats j.floats]) Z 9 g a b c (H ++ rowsG 3 encFloat []) B 0 from fun a => by rw [rowsG_nil, List.append_nil]]
  refine Eq.trans (evD_fold j.floats (fun (M : List Float) i => rsE j.g.grid (cGeom j.g ++ [vItems j.items, vNotes j.notes, vFloats j.floats]) Z 9 g a b (cloneV H.length M) (H ++ rowsG 3 encFloat M) B i) (fun M i => M.length = i) (fun M _ x => M ++ [floatG j.g.grid x])
    (fun M => rsX j.g.grid (cGeom j.g ++ [vItems j.items, vNotes j.notes, vFloats j.floats]) Z 9 118 6 g a b (cloneV H.length M) (H ++ rowsG 3 encFloat M) B j.floats.length) (fun _ _ => rfl) ?_ ?_ [] 0 rfl (Nat.zero_le _)) ?_
  · rintro M i x hM hx
    refine ⟨?_, by simp [hM]⟩
    have hlt := (List.getElem?_eq_some_iff.1 hx).1
    have hn := ok.n3
    have w : IntKind.i64.wrap ((i : Int) + 1) = ((i + 1 : Nat) : Int) := w64 (by omega) (by omega)
    have ho := ok.floats x (List.mem_of_getElem? hx)
    have hix := fun H k => ixs_nat H encFloat (k := k) (s := 3) hx rfl
    have h1 := fun H' => rgup_ev x.h j.g.grid H' ho.2.1 hs
    have ha := fun env loc => app_acc env loc H B [] 3 encFloat M (floatG j.g.grid x) rfl (by unfold most; omega) hB
    simp only [encFloat, floatG] at ha hix
    simp [-appV_mk, rsE, hlt, hix, subs, setSubs, h1, ha, w, floatG]
  · rintro M hM
    simp [rsE, rsX, subs]
  · simp [fold_snoc]

/-! ### The notes -/
def rlE (s : Int) (J Z C : List V) (i : Nat) (v : V) (p : V) (H : Heap) (B : Nat) (k : Nat) : St :=
  ⟨[(1, .lptr 1 0), (2, .lptr 2 0), (3, vI s), (4, .lptr 4 0), (6, vI i), (7, .lptr 7 0), (8, vI k)], [(1, J), (2, Z), (4, C), (7, [v, p])], H, B, []⟩
def rlX (s : Int) (J Z C : List V) (i : Nat) (v : V) (p : V) (H : Heap) (B : Nat) (k : Nat) : Ex × St :=
  (.exit 4, ⟨[(1, .lptr 1 0), (2, .lptr 2 0), (3, vI s), (4, .lptr 4 0), (6, vI i), (7, .lptr 7 0), (8, vI k), (89, .p (.bool false))], [(1, J), (2, Z), (4, C), (7, [v, p])], H, B, []⟩)
theorem rlines_lp (j : Job) (ok : okJob j) (hs : I64 j.g.grid) (Z C : List V) (i : Nat) (n : Note) (hi : j.notes[i]? = some n) (p : V) (H : Heap) (B : Nat) (hB : B ≤ H.length) :
    evD EE lp19_1 (rlE j.g.grid (cGeom j.g ++ [vItems j.items, vNotes j.notes, vFloats j.floats]) Z C i .nils p H B 0) =
      some (rlX j.g.grid (cGeom j.g ++ [vItems j.items, vNotes j.notes, vFloats j.floats]) Z C i (cloneV H.length (n.lines.map fun x => upG x j.g.grid)) p (H ++ rowsG 1 encI (n.lines.map fun x => upG x j.g.grid)) B n.lines.length) := by
  unfold lp19_1
  rw [show ∀ v, rlE j.g.grid (cGeom j.g ++ [vItems j.items, vNotes j.notes, vFloats j.floats]) Z C i v p H B 0 = rlE j.g.grid (cGeom j.g ++ [vItems j.items, vNotes j.notes, vFloats j.floats]) Z C i v p (H ++ rowsG 1 encI []) B 0 from fun a => by rw [rowsG_nil, List.append_nil]]
  have hin := (List.getElem?_eq_some_iff.1 hi).1
  have hiy := fun H k => ixs_nat H encNote (k := k) (s := 2) hi rfl
  have on := ok.notes n (List.mem_of_getElem? hi)
  simp only [encNote] at hiy
  refine Eq.trans (evD_fold n.lines (fun (M : List Int) k => rlE j.g.grid (cGeom j.g ++ [vItems j.items, vNotes j.notes, vFloats j.floats]) Z C i (cloneV H.length M) p (H ++ rowsG 1 encI M) B k) (fun M i => M.length = i) (fun M _ x => M ++ [upG x j.g.grid])
    (fun M => rlX j.g.grid (cGeom j.g ++ [vItems j.items, vNotes j.notes, vFloats j.floats]) Z C i (cloneV H.length M) p (H ++ rowsG 1 encI M) B n.lines.length) (fun _ _ => rfl) ?_ ?_ [] 0 rfl (Nat.zero_le _)) ?_
  · rintro M k x hM hx
    refine ⟨?_, by simp [hM]⟩
    have hlt := (List.getElem?_eq_some_iff.1 hx).1
    have w : IntKind.i64.wrap ((k : Int) + 1) = ((k + 1 : Nat) : Int) := w64 (by have := on.2.1; omega) (by have := on.2.1; omega)
    have ho := on.1 x (List.mem_of_getElem? hx)
    have hix := fun H k => ixs_nat H encI (k := k) (s := 1) hx rfl
    have h1 := fun H' => rgup_ev x j.g.grid H' ho hs
    have ha := fun env loc => app_acc env loc H B [] 1 encI M (upG x j.g.grid) rfl (by have := on.2.1; unfold most; omega) hB
    simp only [encI] at ha
    simp only [show ∀ x, encI x = [PV.int .i64 x] from fun _ => rfl] at hix
    simp [-appV_mk, rlE, hlt, hix, hiy, subs, setSubs, h1, ha, w]
  · rintro M hM
    simp [rlE, rlX, subs, hiy]
  · simp [fold_snoc]

def rnH (s : Int) (n : Note) : Heap := rowsG 1 encI (n.lines.map fun x => upG x s)
def lineV {α : Type} (n : Nat) (l : List α) : V := if l = [] then .p (.sl []) else .row n l.length 0 l.length
def rnV (s : Int) (id : Nat) (n : Note) : List V := [lineV id (n.lines.map fun x => upG x s), sli n.pens]
def rnsH (s : Int) : List Note → Heap
  | [] => []
  | n :: r => rnH s n ++ rnsH s r
def rnsV (s : Int) : Nat → List Note → List (List V)
  | _, [] => []
  | id, n :: r => rnV s id n :: rnsV s (id + (rnH s n).length) r
theorem rnsH_app (s : Int) : ∀ a b, rnsH s (a ++ b) = rnsH s a ++ rnsH s b
  | [], b => rfl
  | n :: r, b => by simp only [List.cons_append, rnsH, rnsH_app s r b, List.append_assoc]
theorem rnsV_app (s : Int) : ∀ a id b, rnsV s id (a ++ b) = rnsV s id a ++ rnsV s (id + (rnsH s a).length) b
  | [], id, b => by simp [rnsV, rnsH]
  | n :: r, id, b => by simp only [List.cons_append, rnsV, rnsH, rnsV_app s r, List.length_append, Nat.add_assoc]
theorem rnsV_len (s : Int) : ∀ l id, (rnsV s id l).length = l.length
  | [], _ => rfl
  | n :: r, id => by simp only [rnsV, List.length_cons, rnsV_len s r]

def rnHp (s : Int) (n : Note) (r : List Note) (G : Heap) : Heap := G ++ (rnH s n ++ .row 2 (rnV s G.length n :: rnsV s (G.length + (rnH s n).length + 1) r) :: rnsH s r)
theorem rnotes_lp1 (j : Job) (ok : okJob j) (hs : I64 j.g.grid) (Z : List V) (g : Geom) (a c : V) (G : Heap) (B : Nat) (hB : B ≤ G.length) (n : Note) (r : List Note) (hj : j.notes = n :: r) :
    evD EE lp19_2 (rsE j.g.grid (cGeom j.g ++ [vItems j.items, vNotes j.notes, vFloats j.floats]) Z 6 g a (.row (G.length + (rnH j.g.grid n).length) 1 0 1) c (rnHp j.g.grid n [] G) B 1) =
      some (rsX j.g.grid (cGeom j.g ++ [vItems j.items, vNotes j.notes, vFloats j.floats]) Z 6 71 2 g a (.row (G.length + (rnH j.g.grid n).length) (r.length + 1) 0 (r.length + 1)) c (rnHp j.g.grid n r G) B (r.length + 1)) := by
  unfold lp19_2
  refine evD_fold r (fun (_ : Unit) i => rsE j.g.grid (cGeom j.g ++ [vItems j.items, vNotes j.notes, vFloats j.floats]) Z 6 g a (.row (G.length + (rnH j.g.grid n).length) (i + 1) 0 (i + 1)) c (rnHp j.g.grid n (r.take i) G) B (i + 1)) (fun _ _ => True) (fun _ _ _ => ())
    (fun _ => rsX j.g.grid (cGeom j.g ++ [vItems j.items, vNotes j.notes, vFloats j.floats]) Z 6 71 2 g a (.row (G.length + (rnH j.g.grid n).length) (r.length + 1) 0 (r.length + 1)) c (rnHp j.g.grid n r G) B (r.length + 1)) (fun _ _ => rfl) ?_ ?_ () 0 trivial (Nat.zero_le _)
  · rintro _ i x - hx
    refine ⟨?_, trivial⟩
    have hlt := (List.getElem?_eq_some_iff.1 hx).1
    have hx' : j.notes[i + 1]? = some x := by rw [hj]; simpa using hx
    have hn := ok.n2
    have hl : j.notes.length = r.length + 1 := by rw [hj]; rfl
    have hlt' : i + 1 < j.notes.length := by omega
    have w : IntKind.i64.wrap (((i + 1 : Nat) : Int) + 1) = ((i + 1 + 1 : Nat) : Int) := w64 (by omega) (by omega)
    have hix := fun H k => ixs_nat H encNote (k := k) (s := 2) hx' rfl
    have e : r.take (i + 1) = r.take i ++ [x] := by rw [List.take_add_one, hx]; rfl
    have hA := rnsV_len j.g.grid (r.take i) (G.length + (rnH j.g.grid n).length + 1)
    rw [List.length_take, Nat.min_eq_left (Nat.le_of_lt hlt)] at hA
    have key := fun C => rlines_lp j ok hs Z C (i + 1) x hx' (sli x.pens) (rnHp j.g.grid n (r.take i) G) B (by unfold rnHp; simp; omega)
    have hm : i + 1 + 1 < most := by unfold most; omega
    have e1 : rnHp j.g.grid n (r.take (i + 1)) G = G ++ (rnH j.g.grid n ++ .row 2 (rnV j.g.grid G.length n :: (rnsV j.g.grid (G.length + (rnH j.g.grid n).length + 1) (r.take i) ++ [rnV j.g.grid (G.length + (rnH j.g.grid n).length + 1 + (rnsH j.g.grid (r.take i)).length) x])) :: (rnsH j.g.grid (r.take i) ++ rnH j.g.grid x)) := by
      unfold rnHp; rw [e, rnsV_app, rnsH_app]; simp [rnsV, rnsH]
    rw [e1]
    unfold rnHp at key ⊢
    generalize rnsV j.g.grid (G.length + (rnH j.g.grid n).length + 1) (r.take i) = A at *
    generalize rnsH j.g.grid (r.take i) = T at *
    generalize rnH j.g.grid n = F at *
    generalize rnV j.g.grid G.length n = v0 at *
    have hrow : ∀ es U, Eng.rowAt (G ++ (F ++ DObj.row 2 es :: U)) (G.length + F.length) = some (2, es) := fun es U => by simp
    have hset : ∀ es fs U, (G ++ (F ++ DObj.row 2 es :: U)).set (G.length + F.length) (.row 2 fs) = G ++ (F ++ DObj.row 2 fs :: U) := fun es fs U => by simp
    have hbl : ¬ G.length + F.length < B := by omega
    have hlt2 : (i : Int) + 1 < j.notes.length := by omega
    simp only [encNote] at hix
    simp only [Int.natCast_add, Int.natCast_one] at hix w
    cases hL : x.lines with
    | nil =>
      have key' := key (cGeom g ++ [a, .row (G.length + F.length) (i + 1) 0 (i + 1), c])
      simp [rlE, rlX, hL] at key'
      simp [-rowAt_app, -set_app, rsE, hlt2, hix, subs, setSubs, key', hrow, hset, hA, hm, hbl, rnV, rnH, lineV, hL, w, upV, okEl]
    | cons y q =>
      have key' := key (cGeom g ++ [a, .row (G.length + F.length) (i + 1) 0 (i + 1), c])
      simp [rlE, rlX, hL, rowsG_cons] at key'
      simp [-rowAt_app, -set_app, rsE, hlt2, hix, subs, setSubs, key', hrow, hset, hA, hm, hbl, rnV, rnH, lineV, hL, w, upV, okEl, rowsG_cons]
      omega
  · rintro _ -
    have hl : j.notes.length = r.length + 1 := by rw [hj]; rfl
    refine ⟨?_, by simp [rsX]⟩
    simp [rsE, rsX, subs, hl]

def rnHq (s : Int) (l : List Note) (G : Heap) : Heap := match l with | [] => G | n :: r => rnHp s n r G
def rnVq (s : Int) (l : List Note) (G : Heap) : V := match l with | [] => .nils | n :: r => .row (G.length + (rnH s n).length) (r.length + 1) 0 (r.length + 1)
theorem rnotes_lp (j : Job) (ok : okJob j) (hs : I64 j.g.grid) (Z : List V) (g : Geom) (a c : V) (G : Heap) (B : Nat) (hB : B ≤ G.length) :
    evD EE lp19_2 (rsE j.g.grid (cGeom j.g ++ [vItems j.items, vNotes j.notes, vFloats j.floats]) Z 6 g a .nils c G B 0) =
      some (rsX j.g.grid (cGeom j.g ++ [vItems j.items, vNotes j.notes, vFloats j.floats]) Z 6 71 2 g a (rnVq j.g.grid j.notes G) c (rnHq j.g.grid j.notes G) B j.notes.length) := by
  cases hj : j.notes with
  | nil =>
    unfold lp19_2
    rw [evD_loop]
    simp [rsE, rsX, subs, rnHq, rnVq]
  | cons n r =>
    have k1 := rnotes_lp1 j ok hs Z g a c G B hB n r hj
    have hx' : j.notes[0]? = some n := by rw [hj]; rfl
    have hix := fun H k => ixs_nat H encNote (k := k) (s := 2) hx' rfl
    have key := rlines_lp j ok hs Z (cGeom g ++ [a, .nils, c]) 0 n hx' (sli n.pens) G B hB
    have w : IntKind.i64.wrap 1 = 1 := w64 (by omega) (by omega)
    have hm : 1 < most := by unfold most; omega
    have hlt : 0 < j.notes.length := by rw [hj]; exact Nat.zero_lt_succ _
    simp only [encNote, Int.natCast_zero] at hix
    rw [← hj]
    refine Eq.trans ?_ (k1.trans (by rw [hj]; rfl))
    conv => lhs; unfold lp19_2
    rw [evD_loop]
    cases hL : n.lines with
    | nil =>
      simp [rlE, rlX, hL] at key
      simp [rsE, rsX, hix, subs, setSubs, hlt, key, hm, rnHp, rnV, rnH, rnsV, rnsH, lineV, hL, w, upV, okEl]
      rfl
    | cons y q =>
      simp [rlE, rlX, hL, rowsG_cons] at key
      simp [rsE, rsX, hix, subs, setSubs, hlt, key, hm, rnHp, rnV, rnH, rnsV, rnsH, lineV, hL, w, upV, okEl, rowsG_cons]
      rfl

/-! ### All of it -/
theorem freeze_clone {α : Type} (env : List (Nat × V)) (loc : List (Nat × List V)) (hp : Heap) (base : Nat) (dirty : List Nat) (id s : Nat) (enc : α → List PV) (l : List α) (h : Eng.rowAt hp id = some (s, upV (l.map enc)) ∨ l = []) (hb : base ≤ id) :
    Eng.freeze ⟨env, loc, hp, base, dirty⟩ (cloneV id l) = some (.p (.sl (l.map enc))) := by
  rcases h with h | h
  · cases l with
    | nil => rfl
    | cons x r => rw [cloneV_cons]; simp [hb, h]
  · subst h; rfl
theorem rowsG_at {α : Type} (s : Nat) (enc : α → List PV) (H U : Heap) (l : List α) : Eng.rowAt (H ++ (rowsG s enc l ++ U)) H.length = some (s, upV (l.map enc)) ∨ l = [] := by
  cases l with
  | nil => exact .inr rfl
  | cons x r => left; simp [rowsG_cons]
theorem frz_line (base id : Nat) (G : Heap) (d : Nat) (L : List Int) (h : Eng.rowAt G id = some (1, upV (L.map encI)) ∨ L = []) (hb : base ≤ id) : frz base G (d + 1) (lineV id L) = some (.sl (L.map encI)) := by
  cases L with
  | nil => rfl
  | cons x r =>
    rcases h with h | h
    · unfold lineV; rw [if_neg (by simp), frz_row, if_pos hb, h, frzK_upV]; simp
    · cases h
theorem frz_rn (s : Int) (base : Nat) : ∀ (l : List Note) (H0 U : Heap), base ≤ H0.length → allO (allO (frz base (H0 ++ (rnsH s l ++ U)) 2)) (rnsV s H0.length l) = some (l.map fun n => encNote (noteG s n))
  | [], _, _, _ => rfl
  | n :: r, H0, U, hb => by
    have ih := frz_rn s base r (H0 ++ rnH s n) U (by simp; omega)
    rw [List.append_assoc, List.length_append] at ih
    have f1 := frz_line base H0.length (H0 ++ (rnH s n ++ (rnsH s r ++ U))) 1 (n.lines.map fun x => upG x s) (rowsG_at 1 encI H0 _ _) hb
    simp only [rnsH, rnsV, rnV, List.append_assoc, allO, f1, ih, List.map_cons]
    rfl
theorem freeze_rn (env : List (Nat × V)) (loc : List (Nat × List V)) (base : Nat) (dirty : List Nat) (s : Int) (l : List Note) (G U : Heap) (hb : base ≤ G.length) :
    Eng.freeze ⟨env, loc, rnHq s l G ++ U, base, dirty⟩ (rnVq s l G) = some (.p (.sl ((l.map (noteG s)).map encNote))) := by
  cases l with
  | nil => rfl
  | cons n r =>
    have h1 := frz_line base G.length (rnHq s (n :: r) G ++ U) 1 (n.lines.map fun x => upG x s) (by
      have := rowsG_at 1 encI G (DObj.row 2 (rnV s G.length n :: rnsV s (G.length + (rnH s n).length + 1) r) :: (rnsH s r ++ U)) (n.lines.map fun x => upG x s)
      simpa [rnHq, rnHp, rnH] using this) hb
    have h2 := frz_rn s base r (G ++ (rnH s n ++ [DObj.row 2 (rnV s G.length n :: rnsV s (G.length + (rnH s n).length + 1) r)])) U (by simp; omega)
    have e1 : rnHq s (n :: r) G ++ U = G ++ (rnH s n ++ [DObj.row 2 (rnV s G.length n :: rnsV s (G.length + (rnH s n).length + 1) r)]) ++ (rnsH s r ++ U) := by simp [rnHq, rnHp]
    have e2 : (G ++ (rnH s n ++ [DObj.row 2 (rnV s G.length n :: rnsV s (G.length + (rnH s n).length + 1) r)])).length = G.length + (rnH s n).length + 1 := by simp; omega
    rw [e2, ← e1] at h2
    have h3 : Eng.rowAt (rnHq s (n :: r) G ++ U) (G.length + (rnH s n).length) = some (2, rnV s G.length n :: rnsV s (G.length + (rnH s n).length + 1) r) := by simp [rnHq, rnHp]
    have hl := rnsV_len s r (G.length + (rnH s n).length + 1)
    have hb2 : base ≤ G.length + (rnH s n).length := by omega
    unfold rnVq
    simp only [freeze_rowK, h3, hb2, if_true, frzK, List.length_cons, hl, List.drop_zero]
    rw [List.take_of_length_le (by simp [hl])]
    simp only [allO, rnV] at h1 h2 ⊢
    rw [h1, h2]
    have e5 : (r.map (noteG s)).map encNote = r.map fun n => encNote (noteG s n) := by rw [List.map_map]; rfl
    rw [List.map_cons, List.map_cons, e5]
    rfl
@[simp] theorem oneB_rnVq (s : Int) (l : List Note) (G : Heap) : (rnVq s l G).oneB = true := by cases l <;> rfl
@[simp] theorem cells_rnVq (s : Int) (l : List Note) (G : Heap) : (rnVq s l G).cells = [rnVq s l G] := by cases l <;> rfl
theorem rnHq_len (s : Int) (l : List Note) (G : Heap) : G.length ≤ (rnHq s l G).length := by
  cases l with
  | nil => exact Nat.le_refl _
  | cons n r => simp [rnHq, rnHp]
theorem rnHq_at (s : Int) (l : List Note) (G U : Heap) (i : Nat) (h : i < G.length) : Eng.rowAt (rnHq s l G ++ U) i = Eng.rowAt G i := by
  cases l with
  | nil => exact rowAt_app_lt U h
  | cons n r => simp only [rnHq, rnHp, List.append_assoc]; exact rowAt_app_lt _ h
theorem rsnap_ev (j : Job) (ok : okJob j) (H : Heap) : clD EE (.p (.fn 19)) [vJob j] H = some (vJob (snapG j), none) := by
  rw [clD_body _ _ _ _ _ _ (noP _) fn19]
  have hg := ok.g
  simp only [okGeom] at hg
  by_cases c : j.g.grid < 1
  · simp [St.enter, enumFrom, subs, setSubs, c, snapG]
  · have i1 := fun H' => rgdown_ev j.g.high j.g.grid H' hg.2.2.2.1 hg.2.2.2.2.2.1
    have i2 := fun H' => rgdown_ev j.g.first j.g.grid H' hg.2.2.2.2.1 hg.2.2.2.2.2.1
    have i3 := fun H' => rgup_ev j.g.rule j.g.grid H' hg.2.2.2.2.2.2.1 hg.2.2.2.2.2.1
    have i4 := fun H' => rgup_ev j.g.sep j.g.grid H' hg.2.2.2.2.2.2.2.1 hg.2.2.2.2.2.1
    have k1 := fun Z => ritems_lp j ok hg.2.2.2.2.2.1 Z (geomG j.g) .nils .nils H
    have k2 := fun Z => rnotes_lp j ok hg.2.2.2.2.2.1 Z (geomG j.g) (cloneV H.length (j.items.map (itemG j.g.grid))) .nils (H ++ rowsG 7 encItem (j.items.map (itemG j.g.grid))) H.length (by simp)
    obtain ⟨G, hG⟩ : ∃ G, G = H ++ rowsG 7 encItem (j.items.map (itemG j.g.grid)) := ⟨_, rfl⟩
    rw [← hG] at k1 k2
    have k3 := fun Z => rfloats_lp j ok hg.2.2.2.2.2.1 Z (geomG j.g) (cloneV H.length (j.items.map (itemG j.g.grid))) (rnVq j.g.grid j.notes G) (rnHq j.g.grid j.notes G) H.length (by
      have := rnHq_len j.g.grid j.notes G
      have : H.length ≤ G.length := by rw [hG]; simp
      omega)
    have f1 := fun env loc => freeze_clone env loc (rnHq j.g.grid j.notes G ++ rowsG 3 encFloat (j.floats.map (floatG j.g.grid))) H.length [] H.length 7 encItem (j.items.map (itemG j.g.grid)) (by
      cases hI : j.items.map (itemG j.g.grid) with
      | nil => exact .inr rfl
      | cons x r => left; rw [rnHq_at _ _ _ _ _ (by rw [hG, hI]; simp [rowsG_cons]), hG, hI]; simp [rowsG_cons]) (Nat.le_refl _)
    have f2 := fun env loc => freeze_rn env loc H.length [] j.g.grid j.notes G (rowsG 3 encFloat (j.floats.map (floatG j.g.grid))) (by rw [hG]; simp)
    have f3 := fun env loc => freeze_clone env loc (rnHq j.g.grid j.notes G ++ rowsG 3 encFloat (j.floats.map (floatG j.g.grid))) H.length [] (rnHq j.g.grid j.notes G).length 3 encFloat (j.floats.map (floatG j.g.grid)) (by
      have := rowsG_at 3 encFloat (rnHq j.g.grid j.notes G) [] (j.floats.map (floatG j.g.grid))
      simpa using this) (by
      have := rnHq_len j.g.grid j.notes G
      have : H.length ≤ G.length := by rw [hG]; simp
      omega)
    have hj : snapG j = ⟨geomG j.g, j.items.map (itemG j.g.grid), j.notes.map (noteG j.g.grid), j.floats.map (floatG j.g.grid)⟩ := if_neg c
    rw [hj]
    simp only [rsE, rsX, geomG] at k1 k2 k3
    generalize hu1 : cloneV H.length (j.items.map (itemG j.g.grid)) = u1 at *
    generalize hu2 : rnVq j.g.grid j.notes G = u2 at *
    generalize hu3 : cloneV (rnHq j.g.grid j.notes G).length (j.floats.map (floatG j.g.grid)) = u3 at *
    have o1 : u1.oneB = true := by rw [← hu1]; simp
    have o2 : u2.oneB = true := by rw [← hu2]; simp
    have o3 : u3.oneB = true := by rw [← hu3]; simp
    have p1 : u1.cells = [u1] := by rw [← hu1]; simp
    have p2 : u2.cells = [u2] := by rw [← hu2]; simp
    have p3 : u3.cells = [u3] := by rw [← hu3]; simp
    clear hu1 hu2 hu3
    generalize rnHq j.g.grid j.notes G ++ rowsG 3 encFloat (j.floats.map (floatG j.g.grid)) = G3 at *
    simp at k1 k2 k3 f1 f2 f3
    simp [St.enter, enumFrom, subs, setSubs, c, i1, i2, i3, i4, k1, k2, k3, f1, f2, f3, o1, o2, o3, geomG]
end Go.EnvOf

/- The law GridSnaps, evaluated. -/
namespace Go.EnvOf
open Go Go.Eng
set_option maxRecDepth 100000

structure jobI (j : Job) : Prop where
  g : okGeom j.g
  items : ∀ x ∈ j.items, okItem x
  notes : ∀ n ∈ j.notes, ∀ x ∈ n.lines, I64 x
  floats : ∀ x ∈ j.floats, okFloat x
theorem okJob_of {j : Job} (h : jobI j) (s : small j) : okJob j :=
  ⟨h.g, h.items, fun n hn => ⟨h.notes n hn, by have := s.each n hn; omega, by have := s.each n hn; omega⟩, h.floats, by have := s.items; omega, by have := s.notes; omega, by have := s.floats; omega⟩
theorem small_snap {j : Job} (s : small j) : small (snapG j) := by
  unfold snapG
  split
  · exact s
  · refine ⟨by simpa using s.items, by simpa using s.notes, by simpa using s.floats, fun n hn => ?_⟩
    simp only [List.mem_map] at hn
    obtain ⟨m, hm, rfl⟩ := hn
    have := s.each m hm
    simpa [noteG] using this
/-- A job's cells, unnamed. -/
theorem job_cells (j : Job) : ∃ J, vJob j = .agg J ∧ J.length = 22 ∧ subs J 0 22 = some J ∧ ¬ J = [] ∧ J.all V.oneB = true ∧ J.map normC = J := ⟨_, rfl, rfl, rfl, by simp, rfl, rfl⟩

end Go.EnvOf

/- Jobs that may be: the clauses of the program. -/
namespace Go.EnvOf
open Go Go.Eng

/-! ### Floats -/
def floatOK (f : Float) : Bool := decide (0 ≤ f.c) && decide (f.c ≤ 2) && decide (1 ≤ f.h) && decide (f.h ≤ 1073741823) && decide (0 ≤ f.w) && decide (f.w ≤ 3)
theorem floatCheck_ev (f : Float) (H : Heap) : clD EE (.p (.fn 83)) [vFloat f] H = some (vI (if floatOK f = true then 0 else 10), none) := by
  rw [clD_body _ _ _ _ _ _ (noP _) fn83]
  unfold floatOK
  by_cases a1 : 0 ≤ f.c
  · have b1 : ¬ f.c < 0 := by omega
    by_cases a2 : f.c ≤ 2
    · have b2 : ¬ 3 ≤ f.c := by omega
      by_cases a3 : 1 ≤ f.h
      · have b3 : ¬ f.h < 1 := by omega
        by_cases a4 : f.h ≤ 1073741823
        · have b4 : ¬ 1073741823 < f.h := by omega
          by_cases a5 : 0 ≤ f.w
          · have b5 : ¬ f.w < 0 := by omega
            by_cases a6 : f.w ≤ 3
            · have b6 : ¬ 3 < f.w := by omega
              simp [St.enter, enumFrom, subs, a1, a2, a3, a4, a5, a6, b1, b2, b3, b4, b5, b6]
            · have b6 : 3 < f.w := by omega
              simp [St.enter, enumFrom, subs, a1, a2, a3, a4, a5, a6, b1, b2, b3, b4, b5, b6]
          · have b5 : f.w < 0 := by omega
            simp [St.enter, enumFrom, subs, a1, a2, a3, a4, a5, b1, b2, b3, b4, b5]
        · have b4 : 1073741823 < f.h := by omega
          simp [St.enter, enumFrom, subs, a1, a2, a3, a4, b1, b2, b3, b4]
      · have b3 : f.h < 1 := by omega
        simp [St.enter, enumFrom, subs, a1, a2, a3, b1, b2, b3]
    · have b2 : 3 ≤ f.c := by omega
      simp [St.enter, enumFrom, subs, a1, a2, b1, b2]
  · have b1 : f.c < 0 := by omega
    simp [St.enter, enumFrom, subs, a1, b1]
theorem rfloatRight_ev (f : Float) (H : Heap) : clD EE (.p (.fn 27)) [vFloat f] H = some (vB (floatOK f), none) := by
  rw [clD_body _ _ _ _ _ _ (noP _) fn27]
  unfold floatOK
  by_cases a1 : 0 ≤ f.c
  · by_cases a2 : f.c ≤ 2
    · by_cases a3 : 1 ≤ f.h
      · by_cases a4 : f.h ≤ 1073741823
        · by_cases a5 : 0 ≤ f.w
          · simp [St.enter, enumFrom, subs, a1, a2, a3, a4, a5]
          · simp [St.enter, enumFrom, subs, a1, a2, a3, a4, a5]
        · simp [St.enter, enumFrom, subs, a1, a2, a3, a4]
      · simp [St.enter, enumFrom, subs, a1, a2, a3]
    · simp [St.enter, enumFrom, subs, a1, a2]
  · simp [St.enter, enumFrom, subs, a1]

/-! ### The first of a list that may not be -/
theorem idxItem_fn : EE.fns 100 = some (idxI 7 true) := fn100
theorem idxNote_fn : EE.fns 106 = some (idxI 2 true) := fn106
theorem idxFloat_fn : EE.fns 109 = some (idxI 3 true) := fn109
/-- Fields: is a check's answer an error? -/
theorem badItem1_ev (x : Item) (p : Nat) (H : Heap) (hb : Eng.boxAt H p = some [.p (.fn 77)]) : clD EE (.fn (.func 101) [] [.ptr p 0]) [vItem x] H = some (vB (!rightF x), none) := by
  rw [clD_clo, clD_body _ _ _ _ _ _ (noP _) fn101]
  have h := itemCheck_ev x H
  cases e : rightF x <;> rw [e] at h <;> simp at h <;> simp [St.enter, enumFrom, subs, hb, h]
theorem badNote1_ev (x : Note) (hx : x.lines.length ≤ 1000000 ∧ x.pens.length ≤ 1000000) (p : Nat) (H : Heap) (hb : Eng.boxAt H p = some [.p (.fn 80)]) : clD EE (.fn (.func 107) [] [.ptr p 0]) [vNote x] H = some (vB (wrongF x.lines x.pens), none) := by
  rw [clD_clo, clD_body _ _ _ _ _ _ (noP _) fn107]
  have h := check_ev x.lines x.pens H (by omega) (by omega)
  simp only [note, sli] at h
  cases e : wrongF x.lines x.pens <;> rw [e] at h <;> simp at h <;> simp [St.enter, enumFrom, subs, hb, h]
theorem badFloat1_ev (x : Float) (p : Nat) (H : Heap) (hb : Eng.boxAt H p = some [.p (.fn 83)]) : clD EE (.fn (.func 110) [] [.ptr p 0]) [vFloat x] H = some (vB (!floatOK x), none) := by
  rw [clD_clo, clD_body _ _ _ _ _ _ (noP _) fn110]
  have h := floatCheck_ev x H
  cases e : floatOK x <;> rw [e] at h <;> simp at h <;> simp [St.enter, enumFrom, subs, hb, h]
theorem firstItem_ev (l : List Item) (hl : l.length ≤ 1000000) (p : Nat) (H : Heap) (hb : Eng.boxAt H p = some [.p (.fn 77)]) : clD EE (.p (.fn 99)) [vItems l, .ptr p 0] H = some (vI (idxF (fun x => !rightF x) 0 l), none) := by
  rw [clD_body _ _ _ _ _ _ (noP _) fn99]
  have h := idx_ev _ 7 true encItem (fun x => vItem x) (noP _) idxItem_fn (fun _ => rfl) (fun _ => rfl) (fun _ => rfl) (fun _ => rfl) l (by omega) (.fn (.func 101) [] [.ptr p 0]) (fun x => !rightF x) H (fun x _ => badItem1_ev x p H hb)
  simp [St.enter, enumFrom, h]
theorem firstNote_ev (l : List Note) (hl : l.length ≤ 1000000) (hx : ∀ x ∈ l, x.lines.length ≤ 1000000 ∧ x.pens.length ≤ 1000000) (p : Nat) (H : Heap) (hb : Eng.boxAt H p = some [.p (.fn 80)]) : clD EE (.p (.fn 105)) [vNotes l, .ptr p 0] H = some (vI (idxF (fun x => wrongF x.lines x.pens) 0 l), none) := by
  rw [clD_body _ _ _ _ _ _ (noP _) fn105]
  have h := idx_ev _ 2 true encNote (fun x => vNote x) (noP _) idxNote_fn (fun _ => rfl) (fun _ => rfl) (fun _ => rfl) (fun _ => rfl) l (by omega) (.fn (.func 107) [] [.ptr p 0]) (fun x => wrongF x.lines x.pens) H (fun x h => badNote1_ev x (hx x h) p H hb)
  simp [St.enter, enumFrom, h]
theorem firstFloat_ev (l : List Float) (hl : l.length ≤ 1000000) (p : Nat) (H : Heap) (hb : Eng.boxAt H p = some [.p (.fn 83)]) : clD EE (.p (.fn 108)) [vFloats l, .ptr p 0] H = some (vI (idxF (fun x => !floatOK x) 0 l), none) := by
  rw [clD_body _ _ _ _ _ _ (noP _) fn108]
  have h := idx_ev _ 3 true encFloat (fun x => vFloat x) (noP _) idxFloat_fn (fun _ => rfl) (fun _ => rfl) (fun _ => rfl) (fun _ => rfl) l (by omega) (.fn (.func 110) [] [.ptr p 0]) (fun x => !floatOK x) H (fun x _ => badFloat1_ev x p H hb)
  simp [St.enter, enumFrom, h]
end Go.EnvOf

/- Anchors of a kind, of so many things. -/
namespace Go.EnvOf
open Go Go.Eng

/-- The place of the first wrong anchor; the list's end, if some lack; -1: none. -/
def refF (k : Int) (most : Nat) : Nat → Nat → List Item → Int
  | i, n, [] => if n < most then i else -1
  | i, n, x :: r => if x.k = k then (if x.n = n ∧ n < most then refF k most (i + 1) (n + 1) r else i) else refF k most (i + 1) n r

/-! ### By the document -/
def raE (l : List Item) (k : Int) (most : Nat) (H : Heap) (n i : Nat) : St := ⟨[(0, vItems l), (1, vI k), (2, vI most), (7, vI n), (8, vI i)], [], H, H.length, []⟩
def raS (k : Int) (most : Nat) (H : Heap) (n i : Nat) (x : Item) : Nat ⊕ (Ex × St) := if x.k = k then (if x.n = n ∧ n < most then .inl (n + 1) else .inr (.ret, ⟨[(6, vI i)], [], H, H.length, []⟩)) else .inl n
def raX (l : List Item) (k : Int) (most : Nat) (H : Heap) (n : Nat) : Ex × St := (.exit 0, ⟨[(0, vItems l), (1, vI k), (2, vI most), (7, vI n), (8, vI l.length), (12, vB false)], [], H, H.length, []⟩)
theorem ra_lp (l : List Item) (k : Int) (most : Nat) (H : Heap) (hl : l.length ≤ 1000000) : evD EE lp28_0 (raE l k most H 0 0) = some (rng (raS k most H) (raX l k most H) 0 0 l) := by
  unfold lp28_0
  refine evD_rng l (raE l k most H) (fun n i => n ≤ i) (raS k most H) (raX l k most H) (fun _ _ => rfl) ?_ ?_ 0 0 (Nat.le_refl _) (Nat.zero_le _)
  · intro n i x hn hx
    have hlt := (List.getElem?_eq_some_iff.1 hx).1
    have hix := fun H k => ixs_nat H encItem (k := k) (s := 7) hx rfl
    have w : IntKind.i64.wrap ((i : Int) + 1) = ((i + 1 : Nat) : Int) := w64 (by omega) (by omega)
    have w2 : IntKind.i64.wrap ((n : Int) + 1) = ((n + 1 : Nat) : Int) := w64 (by omega) (by omega)
    simp only [encItem] at hix
    by_cases hk : x.k = k
    · by_cases hn : x.n = n
      · by_cases hm : n < most
        · have hm2 : ¬ (most : Int) ≤ n := by omega
          simp [raS, raE, hlt, hix, subs, hk, hn, hm, hm2, w, w2]; omega
        · have hm2 : (most : Int) ≤ n := by omega
          simp [raS, raE, hlt, hix, subs, hk, hn, hm, hm2]
      · simp [raS, raE, hlt, hix, subs, hk, hn]
    · simp [raS, raE, hlt, hix, subs, hk, w]; omega
  · intro n hn
    simp [raE, raX]
theorem ra_rng (l : List Item) (k : Int) (most : Nat) (H : Heap) : ∀ (r : List Item) (n i : Nat), (∃ n', rng (raS k most H) (raX l k most H) n i r = raX l k most H n' ∧ refF k most i n r = if n' < most then ((i + r.length : Nat) : Int) else -1) ∨
    ∃ j : Nat, rng (raS k most H) (raX l k most H) n i r = (.ret, ⟨[(6, vI j)], [], H, H.length, []⟩) ∧ refF k most i n r = j
  | [], n, i => .inl ⟨n, rfl, rfl⟩
  | x :: r, n, i => by
    have e : ∀ a : Nat, i + 1 + r.length = i + (x :: r).length := fun _ => by simp; omega
    by_cases hk : x.k = k
    · by_cases hn : x.n = n ∧ n < most
      · have := ra_rng l k most H r (n + 1) (i + 1)
        rw [e 0] at this
        simpa only [rng, raS, refF, hk, hn, if_true, and_self] using this
      · exact .inr ⟨i, by simp only [rng, raS, if_pos hk, if_neg hn], by simp only [refF, if_pos hk, if_neg hn]⟩
    · have := ra_rng l k most H r n (i + 1)
      rw [e 0] at this
      simpa only [rng, raS, refF, hk, if_false] using this
theorem ranchors_ev (l : List Item) (k : Int) (most : Nat) (H : Heap) (hl : l.length ≤ 1000000) : clD EE (.p (.fn 28)) [vItems l, vI k, vI most] H = some (vI (refF k most 0 0 l), none) := by
  rw [clD_body _ _ _ _ _ _ (noP _) fn28]
  have key := ra_lp l k most H hl
  rcases ra_rng l k most H l 0 0 with ⟨n', h1, h2⟩ | ⟨j, h1, h2⟩
  · rw [h1] at key
    simp only [Nat.zero_add] at h2
    by_cases c : n' < most
    · simp [raE, raX] at key
      simp [St.enter, enumFrom, key, h2, c]
    · simp [raE, raX] at key
      simp [St.enter, enumFrom, key, h2, c]
  · rw [h1] at key
    simp [raE] at key
    simp [St.enter, enumFrom, key, h2]

/-! ### By the program -/
theorem anchF_ge (k : Int) : ∀ (l : List Item) (i n : Nat), anchF k i n l = -1 ∨ (i : Int) ≤ anchF k i n l
  | [], _, _ => .inl rfl
  | x :: r, i, n => by
    simp only [anchF]
    split
    · split
      · rcases anchF_ge k r (i + 1) (n + 1) with h | h
        · exact .inl h
        · exact .inr (by omega)
      · exact .inr (Int.le_refl _)
    · rcases anchF_ge k r (i + 1) n with h | h
      · exact .inl h
      · exact .inr (by omega)
def rfE (l : List Item) (k : Int) (most : Nat) (at_ : Int) (H : Heap) (n i : Nat) : St := ⟨[(0, vItems l), (1, vI k), (2, vI most), (7, vI at_), (8, vI n), (14, vItems l), (15, vI l.length), (16, vI i)], [], H, H.length, []⟩
def rfS (k : Int) (most : Nat) (at_ : Int) (H : Heap) (n i : Nat) (x : Item) : Nat ⊕ (Ex × St) := if (i : Int) = at_ then .inr (.ret, ⟨[(6, vI i)], [], H, H.length, []⟩) else if x.k = k then (if n = most then .inr (.ret, ⟨[(6, vI i)], [], H, H.length, []⟩) else .inl (n + 1)) else .inl n
def rfX (l : List Item) (k : Int) (most : Nat) (at_ : Int) (H : Heap) (n : Nat) : Ex × St := (.exit 0, ⟨[(0, vItems l), (1, vI k), (2, vI most), (7, vI at_), (8, vI n), (14, vItems l), (15, vI l.length), (16, vI l.length), (17, vB false)], [], H, H.length, []⟩)
theorem rf_lp (l : List Item) (k : Int) (most : Nat) (at_ : Int) (H : Heap) (hl : l.length ≤ 1000000) : evD EE lp111_0 (rfE l k most at_ H 0 0) = some (rng (rfS k most at_ H) (rfX l k most at_ H) 0 0 l) := by
  unfold lp111_0
  refine evD_rng l (rfE l k most at_ H) (fun n i => n ≤ i) (rfS k most at_ H) (rfX l k most at_ H) (fun _ _ => rfl) ?_ ?_ 0 0 (Nat.le_refl _) (Nat.zero_le _)
  · intro n i x hn hx
    have hlt := (List.getElem?_eq_some_iff.1 hx).1
    have hix := fun H k => ixs_nat H encItem (k := k) (s := 7) hx rfl
    have w : IntKind.i64.wrap ((i : Int) + 1) = ((i + 1 : Nat) : Int) := w64 (by omega) (by omega)
    have w2 : IntKind.i64.wrap ((n : Int) + 1) = ((n + 1 : Nat) : Int) := w64 (by omega) (by omega)
    simp only [encItem] at hix
    by_cases ha : (i : Int) = at_
    · subst ha
      simp [rfS, rfE, hlt, hix, subs, setSubs]
    · by_cases hk : x.k = k
      · by_cases hm : n = most
        · simp [rfS, rfE, hlt, hix, subs, setSubs, ha, hk, hm]
        · have hm2 : ¬ (n : Int) = most := by omega
          simp [rfS, rfE, hlt, hix, subs, setSubs, ha, hk, hm, hm2, w, w2]; omega
      · simp [rfS, rfE, hlt, hix, subs, setSubs, ha, hk, w]; omega
  · intro n hn
    simp [rfE, rfX]
theorem rf_rng (l : List Item) (k : Int) (most : Nat) (at_ : Int) (H : Heap) : ∀ (r : List Item) (n i : Nat), n ≤ most → at_ = anchF k i n r → (∃ n', rng (rfS k most at_ H) (rfX l k most at_ H) n i r = rfX l k most at_ H n' ∧ refF k most i n r = if n' < most then ((i + r.length : Nat) : Int) else -1) ∨
    ∃ j : Nat, rng (rfS k most at_ H) (rfX l k most at_ H) n i r = (.ret, ⟨[(6, vI j)], [], H, H.length, []⟩) ∧ refF k most i n r = j
  | [], n, i, _, _ => .inl ⟨n, rfl, rfl⟩
  | x :: r, n, i, hm, ha => by
    have e : i + 1 + r.length = i + (x :: r).length := by simp; omega
    simp only [anchF] at ha
    by_cases hk : x.k = k
    · rw [if_pos hk] at ha
      by_cases hn : x.n = n
      · rw [if_pos hn] at ha
        have hne : ¬ (i : Int) = at_ := by
          rcases anchF_ge k r (i + 1) (n + 1) with h | h <;> omega
        by_cases hmm : n = most
        · refine .inr ⟨i, by simp only [rng, rfS, if_neg hne, if_pos hk, if_pos hmm], ?_⟩
          have : ¬ (x.n = n ∧ n < most) := by omega
          simp only [refF, if_pos hk, if_neg this]
        · have hlt : x.n = n ∧ n < most := ⟨hn, by omega⟩
          have := rf_rng l k most at_ H r (n + 1) (i + 1) (by omega) ha
          rw [e] at this
          simp only [rng, rfS, if_neg hne, if_pos hk, if_neg hmm, refF, if_pos hlt]
          exact this
      · rw [if_neg hn] at ha
        have : ¬ (x.n = n ∧ n < most) := fun h => hn h.1
        exact .inr ⟨i, by simp only [rng, rfS, if_pos ha.symm], by simp only [refF, if_pos hk, if_neg this]⟩
    · rw [if_neg hk] at ha
      have hne : ¬ (i : Int) = at_ := by
        rcases anchF_ge k r (i + 1) n with h | h <;> omega
      have := rf_rng l k most at_ H r n (i + 1) hm ha
      rw [e] at this
      simp only [rng, rfS, if_neg hne, if_neg hk, refF]
      exact this
theorem refs_ev (l : List Item) (k : Int) (most : Nat) (H : Heap) (hl : l.length ≤ 1000000) : clD EE (.p (.fn 111)) [vItems l, vI k, vI most] H = some (vI (refF k most 0 0 l), none) := by
  rw [clD_body _ _ _ _ _ _ (noP _) fn111]
  have h0 := anch_ev l k H hl
  have key := rf_lp l k most (anchF k 0 0 l) H hl
  rcases rf_rng l k most (anchF k 0 0 l) H l 0 0 (Nat.zero_le _) rfl with ⟨n', h1, h2⟩ | ⟨j, h1, h2⟩
  · rw [h1] at key
    simp only [Nat.zero_add] at h2
    by_cases c : n' < most
    · simp [rfE, rfX] at key
      simp [St.enter, enumFrom, h0, key, h2, c]
    · simp [rfE, rfX] at key
      simp [St.enter, enumFrom, h0, key, h2, c]
  · rw [h1] at key
    simp [rfE] at key
    simp [St.enter, enumFrom, h0, key, h2]
end Go.EnvOf

/- Jobs that may be: all clauses, in order. -/
namespace Go.EnvOf
open Go Go.Eng

def yes (b : Bool) : Int := if b = true then 0 else -1
def looseF (j : Job) : Int := let a := refF 5 j.notes.length 0 0 j.items; let b := refF 6 j.floats.length 0 0 j.items; if a < 0 ∨ b < 0 then max a b else min a b
def tallF (j : Job) : Int := idxF (fun f => decide ((snapG j).g.first < f.h)) 0 (snapG j).floats

section
variable (j : Job)
theorem c1_ev (H : Heap) : clD EE (.p (.fn 69)) [vJob j] H = some (vB (decide (4096 < (j.items.length : Int))), none) := by
  rw [clD_body _ _ _ _ _ _ (noP _) fn69]
  simp [St.enter, enumFrom, subs]
theorem c2_ev (H : Heap) : clD EE (.p (.fn 70)) [vJob j] H = some (vB (decide (256 < (j.floats.length : Int))), none) := by
  rw [clD_body _ _ _ _ _ _ (noP _) fn70]
  simp [St.enter, enumFrom, subs]
theorem c3_ev (H : Heap) : clD EE (.p (.fn 71)) [vJob j] H = some (vB (decide (512 < (j.notes.length : Int))), none) := by
  rw [clD_body _ _ _ _ _ _ (noP _) fn71]
  simp [St.enter, enumFrom, subs]
theorem c4_ev (H : Heap) : clD EE (.p (.fn 72)) [vJob j] H = some (vB (decide (geomF j.g = 6)), none) := by
  rw [clD_body _ _ _ _ _ _ (noP _) fn72]
  have h := geomCheck_ev j.g H
  simp [St.enter, enumFrom, subs, h]
theorem c5_ev (H : Heap) : clD EE (.p (.fn 74)) [vJob j] H = some (vB (decide (geomF j.g = 7)), none) := by
  rw [clD_body _ _ _ _ _ _ (noP _) fn74]
  have h := geomCheck_ev j.g H
  simp [St.enter, enumFrom, subs, h]
theorem when1_ev (f : FuncId) (b : Bool) (p : Nat) (H : Heap) (hb : Eng.boxAt H p = some [.p (.fn f)]) (hf : clD EE (.p (.fn f)) [vJob j] H = some (vB b, none)) : clD EE (.fn (.func 96) [] [.ptr p 0]) [vJob j] H = some (vI (yes b), none) := by
  rw [clD_clo, clD_body _ _ _ _ _ _ (noP _) fn96]
  obtain ⟨J, hJ, q1, q2, q3, q4⟩ := job_cells j
  rw [hJ] at hf ⊢
  have e : subs [V.p (.fn f)] 0 1 = some [.p (.fn f)] := rfl
  cases b <;> simp [-List.all_eq_true, St.enter, enumFrom, q1, q2, q3, q4, hb, e, hf, yes]
theorem firstI_ev (g : FuncId) (H : Heap) : clD EE (.p (.fn 76)) [.p (.fn g)] H = some (.fn (.func 99) [] [.ptr H.length 0], some (H ++ [.box [.p (.fn g)]], [])) := by
  rw [clD_body _ _ _ _ _ _ (noP _) fn76]
  simp [St.enter, enumFrom]
theorem firstN_ev (g : FuncId) (H : Heap) : clD EE (.p (.fn 79)) [.p (.fn g)] H = some (.fn (.func 105) [] [.ptr H.length 0], some (H ++ [.box [.p (.fn g)]], [])) := by
  rw [clD_body _ _ _ _ _ _ (noP _) fn79]
  simp [St.enter, enumFrom]
theorem firstF_ev (g : FuncId) (H : Heap) : clD EE (.p (.fn 82)) [.p (.fn g)] H = some (.fn (.func 108) [] [.ptr H.length 0], some (H ++ [.box [.p (.fn g)]], [])) := by
  rw [clD_body _ _ _ _ _ _ (noP _) fn82]
  simp [St.enter, enumFrom]
theorem c6_ev (ok : okJob j) (H : Heap) : clD EE (.p (.fn 75)) [vJob j] H = some (vI (idxF (fun x => !rightF x) 0 j.items), none) := by
  rw [clD_body _ _ _ _ _ _ (noP _) fn75]
  have h := firstItem_ev j.items ok.n1 H.length (H ++ [.box [.p (.fn 77)]]) (by simp)
  simp [St.enter, enumFrom, subs, firstI_ev, h]
theorem c7_ev (ok : okJob j) (H : Heap) : clD EE (.p (.fn 78)) [vJob j] H = some (vI (idxF (fun x => wrongF x.lines x.pens) 0 j.notes), none) := by
  rw [clD_body _ _ _ _ _ _ (noP _) fn78]
  have h := firstNote_ev j.notes ok.n2 (fun x hx => (ok.notes x hx).2) H.length (H ++ [.box [.p (.fn 80)]]) (by simp)
  simp [St.enter, enumFrom, subs, firstN_ev, h]
theorem c8_ev (ok : okJob j) (H : Heap) : clD EE (.p (.fn 81)) [vJob j] H = some (vI (idxF (fun x => !floatOK x) 0 j.floats), none) := by
  rw [clD_body _ _ _ _ _ _ (noP _) fn81]
  have h := firstFloat_ev j.floats ok.n3 H.length (H ++ [.box [.p (.fn 83)]]) (by simp)
  simp [St.enter, enumFrom, subs, firstF_ev, h]
theorem c9_ev (ok : okJob j) (H : Heap) : clD EE (.p (.fn 84)) [vJob j] H = some (vI (looseF j), none) := by
  rw [clD_body _ _ _ _ _ _ (noP _) fn84]
  have h1 := refs_ev j.items 5 j.notes.length H ok.n1
  have h2 := refs_ev j.items 6 j.floats.length H ok.n1
  unfold looseF
  generalize refF 5 j.notes.length 0 0 j.items = a at *
  generalize refF 6 j.floats.length 0 0 j.items = b at *
  by_cases c1 : a < 0
  · simp [St.enter, enumFrom, subs, h1, h2, c1]
  · by_cases c2 : b < 0
    · simp [St.enter, enumFrom, subs, h1, h2, c1, c2]
    · simp [St.enter, enumFrom, subs, h1, h2, c1, c2]
theorem tall1_ev (f : Float) (first : Int) (p : Nat) (H : Heap) (cs : List V) (hb : Eng.boxAt H p = some cs) (hc : subs cs 4 1 = some [vI first]) : clD EE (.fn (.func 112) [] [.ptr p 0]) [vFloat f] H = some (vB (decide (first < f.h)), none) := by
  rw [clD_clo, clD_body _ _ _ _ _ _ (noP _) fn112]
  have e : subs [vI f.c, vI f.h, vI f.w] 1 1 = some [vI f.h] := rfl
  simp [St.enter, enumFrom, hb, hc, e]
theorem tall_cells (j : Job) : ∃ J, vJob j = .agg J ∧ J.length = 22 ∧ subs J 0 22 = some J ∧ ¬ J = [] ∧ J.all V.oneB = true ∧ subs J 4 1 = some [vI j.g.first] ∧ subs J 21 1 = some [vFloats j.floats] ∧ J.map normC = J := ⟨_, rfl, rfl, rfl, by simp, rfl, rfl, rfl, rfl⟩
theorem c10_ev (ok : okJob j) (n3 : (snapG j).floats.length ≤ 1000000) (H : Heap) : clD EE (.p (.fn 85)) [vJob j] H = some (vI (tallF j), none) := by
  rw [clD_body _ _ _ _ _ _ (noP _) fn85]
  have h1 := snap_ev j ok H
  obtain ⟨J, hJ, q1, q2, q3, q4⟩ := job_cells j
  obtain ⟨M, hM, m1, m2, m3, m4, m5, m6⟩ := tall_cells (snapG j)
  have h2 := idx_ev _ 3 true encFloat (fun x => vFloat x) (noP _) idxFloat_fn (fun _ => rfl) (fun _ => rfl) (fun _ => rfl) (fun _ => rfl) (snapG j).floats (by omega) (.fn (.func 112) [] [.ptr H.length 0]) (fun f => decide ((snapG j).g.first < f.h)) (H ++ [.box M])
    (fun x _ => tall1_ev x (snapG j).g.first H.length (H ++ [.box M]) M (by simp) m5)
  unfold tallF
  rw [hJ, hM] at h1
  rw [hJ]
  have e : setSubs (α := V) [.p (.int .i64 0), .p (.int .i64 0), .p (.int .i64 0), .p (.int .i64 0), .p (.int .i64 0), .p (.int .i64 0), .p (.int .i64 0), .p (.int .i64 0), .p (.int .i64 0), .p (.int .i64 0), .p (.int .i64 0), .p (.int .i64 0), .p (.int .i64 0), .p (.int .i64 0), .p (.int .i64 0), .p (.int .i64 0), .p (.int .i64 0), .p (.int .i64 0), .p (.bool false), .nils, .nils, .nils] 0 M = some M := by simp [setSubs, m1]
  simp [-List.all_eq_true, St.enter, enumFrom, q1, q2, q3, q4, m1, m2, m3, m4, m6, e, h1, h2]

/-! ### All of them -/
def whenV (n : Nat) : V := .fn (.func 96) [] [.ptr n 0]
def clausesC (n : Nat) : List (Int × V × Int) :=
  [(3, whenV n, yes (decide (4096 < (j.items.length : Int)))), (4, whenV (n + 1), yes (decide (256 < (j.floats.length : Int)))), (5, whenV (n + 2), yes (decide (512 < (j.notes.length : Int)))),
   (6, whenV (n + 3), yes (decide (geomF j.g = 6))), (7, whenV (n + 4), yes (decide (geomF j.g = 7))),
   (8, .p (.fn 75), idxF (fun x => !rightF x) 0 j.items), (9, .p (.fn 78), idxF (fun x => wrongF x.lines x.pens) 0 j.notes), (10, .p (.fn 81), idxF (fun x => !floatOK x) 0 j.floats),
   (11, .p (.fn 84), looseF j), (12, .p (.fn 85), tallF j)]
def clauseEl (c : Int × V × Int) : List V := [vI c.1, c.2.1]
def clauseH : Heap := [.box [.p (.fn 69)], .box [.p (.fn 70)], .box [.p (.fn 71)], .box [.p (.fn 72)], .box [.p (.fn 74)]]
theorem when_ev (g : FuncId) (H : Heap) : clD EE (.p (.fn 68)) [.p (.fn g)] H = some (whenV H.length, some (H ++ [.box [.p (.fn g)]], [])) := by
  rw [clD_body _ _ _ _ _ _ (noP _) fn68]
  simp [St.enter, enumFrom, whenV]
theorem clausesV_ev (H : Heap) : clD EE (.p (.fn 52)) [] H = some (.vsl ((clausesC j H.length).map clauseEl), some (H ++ clauseH, [])) := by
  rw [clD_body _ _ _ _ _ _ (noP _) fn52]
  simp [St.enter, enumFrom, setSubs, when_ev, whenV, clausesC, clauseEl, clauseH]
theorem clauses_all (ok : okJob j) (n3 : (snapG j).floats.length ≤ 1000000) (H : Heap) : ∀ c ∈ clausesC j H.length, clD EE c.2.1 [vJob j] (H ++ clauseH) = some (vI c.2.2, none) ∧ c.2.1.oneB = true ∧ c.2.1.cells = [c.2.1] ∧ c.2.1.notL = true := by
  intro c hc
  have wh : ∀ (i : Nat) (f : FuncId) (b : Bool), clauseH[i]? = some (.box [.p (.fn f)]) → clD EE (.p (.fn f)) [vJob j] (H ++ clauseH) = some (vB b, none) → clD EE (whenV (H.length + i)) [vJob j] (H ++ clauseH) = some (vI (yes b), none) := fun i f b hi hf => by
    refine when1_ev j f b (H.length + i) _ ?_ hf
    rw [boxAt_app]; unfold Eng.boxAt; rw [hi]
  simp only [clausesC, List.mem_cons, List.not_mem_nil, or_false] at hc
  rcases hc with rfl | rfl | rfl | rfl | rfl | rfl | rfl | rfl | rfl | rfl
  · exact ⟨wh 0 _ _ rfl (c1_ev j _), rfl, rfl, rfl⟩
  · exact ⟨wh 1 _ _ rfl (c2_ev j _), rfl, rfl, rfl⟩
  · exact ⟨wh 2 _ _ rfl (c3_ev j _), rfl, rfl, rfl⟩
  · exact ⟨wh 3 _ _ rfl (c4_ev j _), rfl, rfl, rfl⟩
  · exact ⟨wh 4 _ _ rfl (c5_ev j _), rfl, rfl, rfl⟩
  · exact ⟨c6_ev j ok _, rfl, rfl, rfl⟩
  · exact ⟨c7_ev j ok _, rfl, rfl, rfl⟩
  · exact ⟨c8_ev j ok _, rfl, rfl, rfl⟩
  · exact ⟨c9_ev j ok _, rfl, rfl, rfl⟩
  · exact ⟨c10_ev j ok n3 _, rfl, rfl, rfl⟩
/-- The first clause that does not hold. -/
def firstOf : List (Int × V × Int) → Int × Int
  | [] => (0, 0)
  | c :: r => if 0 ≤ c.2.2 then (c.1, c.2.2) else firstOf r
def checkF : Int × Int := firstOf (clausesC j 0)
theorem firstOf_n (n : Nat) : firstOf (clausesC j n) = checkF j := by simp [firstOf, clausesC, checkF]
def ckE (J : List V) (L : List (Int × V × Int)) (H : Heap) (B : Nat) (i : Nat) : St := ⟨[(1, .lptr 1 0), (7, .vsl (L.map clauseEl)), (8, vI L.length), (9, vI i)], [(1, J)], H, B, []⟩
def ckX (J : List V) (L : List (Int × V × Int)) (H : Heap) (B : Nat) : Ex × St := (.exit 0, ⟨[(1, .lptr 1 0), (7, .vsl (L.map clauseEl)), (8, vI L.length), (9, vI L.length), (10, vB false)], [(1, J)], H, B, []⟩)
def ckS (H : Heap) (B : Nat) (_ : Unit) (_ : Nat) (c : Int × V × Int) : Unit ⊕ (Ex × St) := if 0 ≤ c.2.2 then .inr (.ret, ⟨[(2, vI c.1), (3, vI c.2.2)], [], H, B, []⟩) else .inl ()
theorem ck_rng (J : List V) (H : Heap) (B : Nat) (fin : Ex × St) : ∀ (l : List (Int × V × Int)) (i : Nat), (rng (ckS H B) (fun _ => fin) () i l = fin ∧ firstOf l = (0, 0)) ∨ (rng (ckS H B) (fun _ => fin) () i l = (.ret, ⟨[(2, vI (firstOf l).1), (3, vI (firstOf l).2)], [], H, B, []⟩))
  | [], _ => .inl ⟨rfl, rfl⟩
  | c :: r, i => by
    simp only [rng, ckS, firstOf]
    by_cases h : 0 ≤ c.2.2
    · rw [if_pos h, if_pos h]; exact .inr rfl
    · rw [if_neg h, if_neg h]
      exact ck_rng J H B fin r (i + 1)
theorem ck_lp (J : List V) (q1 : J.length = 22) (q2 : subs J 0 22 = some J) (q3 : ¬ J = []) (q4 : J.all V.oneB = true ∧ J.map normC = J) (L : List (Int × V × Int)) (hn : L.length ≤ 1000) (H : Heap) (B : Nat) (hL : ∀ c ∈ L, clD EE c.2.1 [.agg J] H = some (vI c.2.2, none) ∧ c.2.1.oneB = true ∧ c.2.1.cells = [c.2.1] ∧ c.2.1.notL = true) :
    evD EE lp29_0 (ckE J L H B 0) = some (rng (ckS H B) (fun _ => ckX J L H B) () 0 L) := by
  unfold lp29_0
  refine evD_rng L (fun (_ : Unit) i => ckE J L H B i) (fun _ _ => True) (ckS H B) (fun _ => ckX J L H B) (fun _ _ => rfl) ?_ ?_ () 0 trivial (Nat.zero_le _)
  · rintro _ i c - hc
    have hlt := (List.getElem?_eq_some_iff.1 hc).1
    have w : IntKind.i64.wrap ((i : Int) + 1) = ((i + 1 : Nat) : Int) := w64 (by omega) (by omega)
    obtain ⟨h1, h2, h3, h4⟩ := hL c (List.mem_of_getElem? hc)
    have q5 : J.take 22 = J := List.take_of_length_le (by omega)
    have hix : ixsI H (.vsl (L.map clauseEl)) (vI i) 2 = some (.eptr [vI c.1, c.2.1] 0) := by
      have : (L.map clauseEl)[i]? = some [vI c.1, c.2.1] := by simp [hc, clauseEl]
      simp [ixsI, ixsV, this]
    by_cases a : 0 ≤ c.2.2
    · have e : ckS H B () i c = .inr (.ret, ⟨[(2, vI c.1), (3, vI c.2.2)], [], H, B, []⟩) := if_pos a
      simp only [e]
      simp [-List.all_eq_true, ckE, hlt, hix, subs, setSubs, q1, q3, q4, q5, h1, h2, h3, h4, a]
    · have e : ckS H B () i c = .inl () := if_neg a
      simp only [e]
      simp [-List.all_eq_true, ckE, hlt, hix, subs, setSubs, q1, q3, q4, q5, h1, h2, h3, h4, a, w]
  · rintro _ -
    simp [ckE, ckX]
theorem validCheck_ev (ok : okJob j) (n3 : (snapG j).floats.length ≤ 1000000) (H : Heap) : clD EE (.p (.fn 29)) [vJob j] H = some (.tup [vI (checkF j).1, vI (checkF j).2], none) := by
  rw [clD_body _ _ _ _ _ _ (noP _) fn29]
  have h1 := clausesV_ev j H
  have h2 := clauses_all j ok n3 H
  have hf := firstOf_n j H.length
  obtain ⟨J, hJ, q1, q2, q3, q4⟩ := job_cells j
  rw [hJ] at h2 ⊢
  have key := ck_lp J q1 q2 q3 q4 (clausesC j H.length) (by simp [clausesC]) (H ++ clauseH) H.length h2
  have hl : (clausesC j H.length).length = 10 := rfl
  have hle : lenV (.vsl ((clausesC j H.length).map clauseEl)) = some 10 := rfl
  rcases ck_rng J (H ++ clauseH) H.length (ckX J (clausesC j H.length) (H ++ clauseH) H.length) (clausesC j H.length) 0 with ⟨k1, k2⟩ | k1
  · rw [k1] at key
    rw [hf] at k2
    simp only [ckE, ckX, hl] at key
    generalize (clausesC j H.length).map clauseEl = CL at *
    simp at key
    simp [-List.all_eq_true, St.enter, enumFrom, q1, q2, q3, q4, h1, hle, key, k2]
  · rw [k1, hf] at key
    simp only [ckE, hl] at key
    generalize (clausesC j H.length).map clauseEl = CL at *
    simp at key
    simp [-List.all_eq_true, St.enter, enumFrom, q1, q2, q3, q4, h1, hle, key]
theorem validRight_ev (ok : okJob j) (n3 : (snapG j).floats.length ≤ 1000000) (H : Heap) : clD EE (.p (.fn 14)) [vJob j] H = some (vB (decide ((checkF j).1 = 0)), none) := by
  rw [clD_body _ _ _ _ _ _ (noP _) fn14]
  have h1 := validCheck_ev j ok n3 H
  obtain ⟨J, hJ, q1, q2, q3, q4⟩ := job_cells j
  rw [hJ] at h1 ⊢
  simp [-List.all_eq_true, St.enter, enumFrom, q1, q2, q3, q4, h1]
end
end Go.EnvOf

/- The warnings about a job. -/
namespace Go.EnvOf
open Go Go.Eng
set_option maxRecDepth 100000
def allW (J : Job) : List Warn := itemsW J.g J.items J.items.length ++ notesW (limJ J.g) J.notes J.notes.length ++ floatsW J.g J.floats J.floats.length
def ofW (j : Job) : List Warn := if (checkF j).1 = 0 then allW (snapG j) else []
theorem ltOf_ev (j : Job) (ok : okJob j) (n1 : (snapG j).items.length ≤ 1000000) (n2 : (snapG j).notes.length ≤ 1000000) (n3 : (snapG j).floats.length ≤ 1000000) (n4 : ∀ n ∈ (snapG j).notes, n.lines.length ≤ 1000000) (H : Heap) :
    ∃ r, clD EE (.p (.fn 8)) [vJob j] H = some (vWs (ofW j), r) := by
  have hr := fun H => validRight_ev j ok n3 H
  have hs := fun H => snap_ev j ok H
  simp only [vJob, cGeom, List.cons_append, List.nil_append] at hr hs
  unfold ofW
  rw [clD_body _ _ _ _ _ _ (noP _) fn8]
  by_cases c : (checkF j).1 = 0
  · simp only [c, decide_true] at hr
    rw [if_pos c]
    generalize snapG j = J at *
    have L0 : Look (H ++ [.box (cJb J ++ [.nils])]) H.length (cJb J) [] := ⟨⟨.nils, by simp, .inl ⟨rfl, rfl⟩⟩, by simp⟩
    obtain ⟨r1, h1, L1⟩ := ltItems_ev J _ _ _ L0 n1 (by simp)
    have e1 := itemsW_len J.g J.items J.items.length
    obtain ⟨r2, h2, L2⟩ := ltNotes_ev J _ _ _ L1 n2 n4 (by simp; omega)
    have e2 := idxW_len 2 (fun i => longB (limJ J.g) (rd J.notes i)) J.notes.length
    obtain ⟨r3, h3, L3⟩ := ltFloats_ev J _ _ _ L2 n3 (by unfold notesW; simp; omega)
    have eW : [] ++ itemsW J.g J.items J.items.length ++ notesW (limJ J.g) J.notes J.notes.length ++ floatsW J.g J.floats J.floats.length = allW J := by simp [allW]
    rw [eW] at L3
    obtain ⟨o, hb, ho⟩ := L3.out
    generalize allW J = W at *
    have w1 : IntKind.i64.wrap 1 = 1 := by decide
    have w2 : IntKind.i64.wrap 2 = 2 := by decide
    have w3 : IntKind.i64.wrap 3 = 3 := by decide
    have q3 : ((0 : Nat) : Int) + 1 + 1 = 2 := by decide
    clear L0 L1 L2 L3
    simp at h1 h2 h3
    rcases ho with ⟨rfl, rfl⟩ | ⟨id, hid, hpi, rfl, hrow, hne⟩
    · simp at hb
      simp [St.enter, enumFrom, subs, setSubs, hr, hs, lp8_0, evD_loop, ixsI, ixsV, h1, h2, h3, callR_opt, w1, w2, w3, hb]
    · simp at hb hrow
      simp [St.enter, enumFrom, subs, setSubs, hr, hs, lp8_0, evD_loop, ixsI, ixsV, h1, h2, h3, callR_opt, w1, w2, w3, hb, hrow, show H.length ≤ id by omega]
  · simp only [c, decide_false] at hr
    rw [if_neg c]
    simp [St.enter, enumFrom, subs, setSubs, hr]
end Go.EnvOf

/- The warnings, as the reference tells them: its parts. -/
namespace Go.EnvOf
open Go Go.Eng
set_option maxRecDepth 100000
theorem rloose_ev (x : Item) (H : Heap) : clD EE (.p (.fn 49)) [vItem x] H = some (vB (looseX x), none) := by
  rw [clD_body _ _ _ _ _ _ (noP _) fn49]
  unfold looseX
  by_cases h : x.k = 2 <;> simp [St.enter, enumFrom, subs, setSubs, h]
theorem must_ev (I : List Item) (n : Nat) (x : Item) (hx : I[n]? = some x) (H : Heap) : clD EE (.p (.fn 48)) [vItems I, vI n] H = some (vB (decide (0 < n) && forcesX x), none) := by
  rw [clD_body _ _ _ _ _ _ (noP _) fn48]
  have hlt := (List.getElem?_eq_some_iff.1 hx).1
  have hix := fun H k => ixs_nat H encItem (k := k) (s := 7) hx rfl
  unfold forcesX
  by_cases h0 : 0 < n
  · have h1 : (1 : Int) ≤ (n : Int) := by omega
    by_cases h3 : x.k = 3
    · simp [St.enter, enumFrom, subs, setSubs, hlt, hix, encItem, h0, h1, h3]
    · simp [St.enter, enumFrom, subs, setSubs, hlt, hix, encItem, h0, h1, h3]
  · have h1 : ¬ (1 : Int) ≤ (n : Int) := by omega
    simp [St.enter, enumFrom, subs, setSubs, h0, h1]
/-! ### Lost -/
def lsE (I : List Item) (i : Nat) (H : Heap) (t : Int) : St := ⟨[(0, vItems I), (1, vI i), (5, vI t)], [], H, H.length, []⟩
def lsR (H : Heap) (b : Bool) : Ex × St := (.ret, ⟨[(4, vB b)], [], H, H.length, []⟩)
def lsX (I : List Item) (i : Nat) (H : Heap) : Ex × St := (.exit 0, ⟨[(0, vItems I), (1, vI i), (5, vI (-1)), (8, vB false)], [], H, H.length, []⟩)
def lsF (I : List Item) (i : Nat) (H : Heap) : Nat → Ex × St
  | 0 => lsX I i H
  | n + 1 => if (decide (n < i) && (decide (0 < n) && forcesX (rd I n))) = true then lsR H true else if looseX (rd I n) = true then lsF I i H n else lsR H false
theorem ls_lp (I : List Item) (i : Nat) (H : Heap) (hi : i < I.length) (hl : I.length ≤ 1000000) : evD EE lp20_0 (lsE I i H i) = some (lsF I i H (i + 1)) := by
  have key : ∀ m : Nat, m ≤ i + 1 → evD EE lp20_0 (lsE I i H ((m : Int) - 1)) = some (lsF I i H m) := by
    unfold lp20_0
    refine evD_while (fun m : Nat => lsE I i H ((m : Int) - 1)) (fun m => m ≤ i + 1) (fun m => m) (lsF I i H) (fun _ => rfl) ?_
    intro m hm
    cases m with
    | zero =>
      refine .inr ⟨?_, by simp [lsF, lsX]⟩
      simp [lsF, lsX, lsE]
    | succ n =>
      have hx : I[n]? = some (rd I n) := by
        have := rd_get I (n : Int) (by omega) (by omega)
        simpa using this
      have hix := fun H k => ixs_nat H encItem (k := k) (s := 7) hx rfl
      have lo := fun H => rloose_ev (rd I n) H
      have mu := fun H => must_ev I n (rd I n) hx H
      have e : ((n + 1 : Nat) : Int) - 1 = n := by omega
      rw [e]
      have w : IntKind.i64.wrap ((n : Int) - 1) = (n : Int) - 1 := w64 (by omega) (by omega)
      simp only [lsF]
      generalize rd I (n : Int) = x at *
      by_cases hni : n < i
      · generalize hmm : (decide (0 < n) && forcesX x) = mm at *
        cases mm with
        | true =>
          refine .inr ⟨?_, by simp [hni, lsR]⟩
          simp [lsE, lsR, hni, mu]
        | false =>
          cases hlx : looseX x with
          | true =>
            rw [hlx] at lo
            refine .inl ⟨n, ?_, by omega, by omega, by simp [hni]⟩
            simp [lsE, hni, mu, hix, encItem, subs, lo, w]
          | false =>
            rw [hlx] at lo
            refine .inr ⟨?_, by simp [hni, lsR]⟩
            simp [lsE, lsR, hni, mu, hix, encItem, subs, lo]
      · cases hlx : looseX x with
        | true =>
          rw [hlx] at lo
          refine .inl ⟨n, ?_, by omega, by omega, by simp [hni]⟩
          simp [lsE, hni, hix, encItem, subs, lo, w]
        | false =>
          rw [hlx] at lo
          refine .inr ⟨?_, by simp [hni, lsR]⟩
          simp [lsE, lsR, hni, hix, encItem, subs, lo]
  have := key (i + 1) (Nat.le_refl _)
  have e : ((i + 1 : Nat) : Int) - 1 = i := by omega
  rw [e] at this
  exact this
theorem lsF_is (I : List Item) (i : Nat) (H : Heap) : ∀ m, m ≤ i → (bB I m = true → lsF I i H m = lsR H true ∨ lsF I i H m = lsX I i H) ∧ (bB I m = false → lsF I i H m = lsR H false)
  | 0, _ => ⟨fun _ => .inr rfl, fun h => by cases h⟩
  | n + 1, h => by
    have ih := lsF_is I i H n (by omega)
    simp only [bB, lsF]
    have hn : n < i := by omega
    cases hm : (decide (0 < n) && forcesX (rd I n)) with
    | true => simp [hn]
    | false =>
      cases hl : looseX (rd I n) with
      | true => simpa [hn] using ih
      | false => simp [hn]
theorem lost_ev (I : List Item) (i : Nat) (hi : i < I.length) (hl : I.length ≤ 1000000) (H : Heap) : clD EE (.p (.fn 20)) [vItems I, vI i] H = some (vB (lostB I i), none) := by
  rw [clD_body _ _ _ _ _ _ (noP _) fn20]
  have k := ls_lp I i H hi hl
  have hF := lsF_is I i H i (Nat.le_refl _)
  have e : lsF I i H (i + 1) = if looseX (rd I i) = true then lsF I i H i else lsR H false := by simp [lsF]
  rw [e] at k
  unfold lostB
  cases hlx : looseX (rd I i) with
  | false =>
    rw [hlx] at k
    simp [lsE, lsR] at k
    simp [St.enter, enumFrom, k]
  | true =>
    rw [hlx] at k
    simp only [if_true] at k
    cases hb : bB I i with
    | false =>
      rw [hF.2 hb] at k
      simp [lsE, lsR] at k
      simp [St.enter, enumFrom, k]
    | true =>
      rcases hF.1 hb with h | h
      · rw [h] at k
        simp [lsE, lsR] at k
        simp [St.enter, enumFrom, k]
      · rw [h] at k
        simp [lsE, lsX] at k
        simp [St.enter, enumFrom, k]
end Go.EnvOf

/- The warnings, as the reference tells them: idle and long. -/
namespace Go.EnvOf
open Go Go.Eng
set_option maxRecDepth 100000
theorem idle_ev (I : List Item) (i : Nat) (hi : i < I.length) (hl : I.length ≤ 1000000) (hv : (rd I i).k = 3 → rd I i = ⟨3, 0, 0, 0, 0, 0, (rd I i).n⟩) (H : Heap) : clD EE (.p (.fn 21)) [vItems I, vI i] H = some (vB (idleB I i), none) := by
  rw [clD_body _ _ _ _ _ _ (noP _) fn21]
  have hx : I[i]? = some (rd I i) := by
    have := rd_get I (i : Int) (by omega) (by omega)
    simpa using this
  have hix := fun H k => ixs_nat H encItem (k := k) (s := 7) hx rfl
  have w : IntKind.i64.wrap ((i : Int) + 1) = (i : Int) + 1 := w64 (by omega) (by omega)
  have wm : IntKind.i64.wrap ((i : Int) - 1) = (i : Int) - 1 := w64 (by omega) (by omega)
  unfold idleB
  generalize rd I (i : Int) = x at *
  by_cases k3 : x.k = 3
  · by_cases n0 : x.n = 0
    · have hp : x = pen0 := by rw [hv k3, n0]
      have hd : decide (x = pen0) = true := by simp [hp]
      rw [hd]
      unfold isF
      by_cases i0 : 0 < i
      · have hy := rd_get I ((i : Int) - 1) (by omega) (by omega)
        have hiy := fun H k => ixs_int H encItem (k := k) (s := 7) (show 0 ≤ (i : Int) - 1 by omega) hy rfl
        have lo := fun H => rloose_ev (rd I ((i : Int) - 1)) H
        rw [if_pos (show 0 ≤ (i : Int) - 1 ∧ (i : Int) - 1 < I.length by omega)]
        generalize rd I ((i : Int) - 1) = y at *
        cases hly : looseX y with
        | true =>
          rw [hly] at lo
          simp [St.enter, enumFrom, subs, setSubs, hix, hiy, encItem, k3, n0, i0, wm, lo, hly]
        | false =>
          rw [hly] at lo
          by_cases i1 : (i : Int) + 1 < I.length
          · have hz := rd_get I ((i : Int) + 1) (by omega) i1
            have hiz := fun H k => ixs_int H encItem (k := k) (s := 7) (show 0 ≤ (i : Int) + 1 by omega) hz rfl
            rw [if_pos (show 0 ≤ (i : Int) + 1 ∧ (i : Int) + 1 < I.length by omega)]
            generalize rd I ((i : Int) + 1) = z at *
            simp [St.enter, enumFrom, subs, setSubs, hix, hiy, hiz, encItem, k3, n0, i0, i1, w, wm, lo, hly]
          · rw [if_neg (show ¬ (0 ≤ (i : Int) + 1 ∧ (i : Int) + 1 < I.length) by omega)]
            simp [St.enter, enumFrom, subs, setSubs, hix, hiy, encItem, k3, n0, i0, i1, w, wm, lo, hly]
      · rw [if_neg (show ¬ (0 ≤ (i : Int) - 1 ∧ (i : Int) - 1 < I.length) by omega)]
        simp [St.enter, enumFrom, subs, setSubs, hix, encItem, k3, n0, i0]
    · have hd : decide (x = pen0) = false := by
        apply decide_eq_false
        intro h; rw [h] at n0; exact n0 rfl
      rw [hd]
      simp [St.enter, enumFrom, subs, setSubs, hix, encItem, k3, n0]
  · have hd : decide (x = pen0) = false := by
      apply decide_eq_false
      intro h; rw [h] at k3; exact k3 rfl
    rw [hd]
    simp [St.enter, enumFrom, subs, setSubs, hix, encItem, k3]
/-! ### Long -/
def rlB (g : Geom) (h : Int) : Bool := decide (min g.noteMost g.high < IntKind.i64.wrap (h + g.rule))
def rnE (g : Geom) (n : Note) (H : Heap) (i : Nat) : St := ⟨[(2, .lptr 2 0), (3, .lptr 3 0), (5, vI i)], [(2, cGeom g), (3, [sli n.lines, sli n.pens])], H, H.length, []⟩
def rnX (g : Geom) (n : Note) (H : Heap) : Ex × St := (.exit 0, ⟨[(2, .lptr 2 0), (3, .lptr 3 0), (5, vI n.lines.length), (10, vB false)], [(2, cGeom g), (3, [sli n.lines, sli n.pens])], H, H.length, []⟩)
def rnR (H : Heap) : Ex × St := (.ret, ⟨[(4, vB true)], [], H, H.length, []⟩)
theorem rn_lp (g : Geom) (n : Note) (H : Heap) (hl : n.lines.length ≤ 1000000) : evD EE lp22_0 (rnE g n H 0) = some (if n.lines.any (rlB g) = true then rnR H else rnX g n H) := by
  unfold lp22_0
  refine Eq.trans (evD_rng n.lines (fun (_ : Unit) i => rnE g n H i) (fun _ _ => True) (stepB (rlB g) (rnR H)) (fun _ => rnX g n H) (fun _ _ => rfl) ?_ ?_ () 0 trivial (Nat.zero_le _)) (by rw [List.drop_zero, rng_any])
  · rintro _ i x - hx
    have hlt := (List.getElem?_eq_some_iff.1 hx).1
    have hix := fun H k => ixs_nat H encI (k := k) (s := 1) hx rfl
    have w : IntKind.i64.wrap ((i : Int) + 1) = ((i + 1 : Nat) : Int) := w64 (by omega) (by omega)
    unfold stepB rlB
    by_cases h : min g.noteMost g.high < IntKind.i64.wrap (x + g.rule)
    · simp only [h, decide_true, if_true]
      refine ⟨?_, by simp [rnR]⟩
      simp [rnE, rnR, hlt, hix, encI, subs, setSubs, h]
    · simp only [h, decide_false]
      refine ⟨?_, trivial⟩
      simp [rnE, rnR, hlt, hix, encI, subs, setSubs, w, h]
  · rintro _ -
    refine ⟨?_, by simp [rnX]⟩
    simp [rnE, rnX, subs]
theorem rlong_ev2 (g : Geom) (n : Note) (hl : n.lines.length ≤ 1000000) (H : Heap) : clD EE (.p (.fn 22)) [vGeom g, vNote n] H = some (vB (n.lines.any (rlB g)), none) := by
  rw [clD_body _ _ _ _ _ _ (noP _) fn22]
  have k := rn_lp g n H hl
  cases h : n.lines.any (rlB g) with
  | true =>
    rw [h] at k
    simp [rnE, rnR] at k
    simp [St.enter, enumFrom, subs, setSubs, k]
  | false =>
    rw [h] at k
    simp [rnE, rnX] at k
    simp [St.enter, enumFrom, subs, setSubs, k]
end Go.EnvOf

/- Jobs that may be, by the document. -/
namespace Go.EnvOf
open Go Go.Eng

def vE (j : Job) (H : Heap) (t : Nat) (i : Nat) : St := ⟨[(1, .lptr 1 0), (2, .lptr 2 0), (t, vI i)], [(1, cGeom j.g ++ [vItems j.items, vNotes j.notes, vFloats j.floats]), (2, [vI 0, vI 0])], H, H.length, []⟩
def vX (j : Job) (H : Heap) (t x e : Nat) (n : Nat) : Ex × St := (.exit e, ⟨[(1, .lptr 1 0), (2, .lptr 2 0), (t, vI n), (x, vB false)], [(1, cGeom j.g ++ [vItems j.items, vNotes j.notes, vFloats j.floats]), (2, [vI 0, vI 0])], H, H.length, []⟩)
def vR (H : Heap) (e : Int) (i : Int) : Ex × St := (.ret, ⟨[(2, .lptr 2 0)], [(2, [vI e, vI i])], H, H.length, []⟩)
theorem v_lp0 (j : Job) (ok : okJob j) (H : Heap) : evD EE lp13_0 (vE j H 4 0) = some (if 0 ≤ idxF (fun x => !rightF x) 0 j.items then vR H 8 (idxF (fun x => !rightF x) 0 j.items) else vX j H 4 37 0 j.items.length) := by
  unfold lp13_0
  refine Eq.trans (evD_rng j.items (fun (_ : Unit) i => vE j H 4 i) (fun _ _ => True) (stepH (fun x => !rightF x) (vR H 8)) (fun _ => vX j H 4 37 0 j.items.length) (fun _ _ => rfl) ?_ ?_ () 0 trivial (Nat.zero_le _)) (by rw [rng_hit]; rfl)
  · rintro _ i x - hx
    have hlt := (List.getElem?_eq_some_iff.1 hx).1
    have hn := ok.n1
    have w : IntKind.i64.wrap ((i : Int) + 1) = ((i + 1 : Nat) : Int) := w64 (by omega) (by omega)
    have hix := fun H k => ixs_nat H encItem (k := k) (s := 7) hx rfl
    have h := rright_ev x H
    simp only [encItem] at hix
    cases e : rightF x with
    | true => rw [e] at h; simp [stepH, e, vE, hlt, hix, subs, setSubs, h, w]
    | false => rw [e] at h; simp [stepH, e, vE, vR, hlt, hix, subs, setSubs, h]
  · rintro _ -
    simp [vE, vX, subs]
theorem v_lp1 (j : Job) (ok : okJob j) (H : Heap) : evD EE lp13_1 (vE j H 5 0) = some (if 0 ≤ idxF (fun x => wrongF x.lines x.pens) 0 j.notes then vR H 9 (idxF (fun x => wrongF x.lines x.pens) 0 j.notes) else vX j H 5 53 2 j.notes.length) := by
  unfold lp13_1
  refine Eq.trans (evD_rng j.notes (fun (_ : Unit) i => vE j H 5 i) (fun _ _ => True) (stepH (fun (x : Note) => wrongF x.lines x.pens) (vR H 9)) (fun _ => vX j H 5 53 2 j.notes.length) (fun _ _ => rfl) ?_ ?_ () 0 trivial (Nat.zero_le _)) (by rw [rng_hit]; rfl)
  · rintro _ i x - hx
    have hlt := (List.getElem?_eq_some_iff.1 hx).1
    have hn := ok.n2
    have w : IntKind.i64.wrap ((i : Int) + 1) = ((i + 1 : Nat) : Int) := w64 (by omega) (by omega)
    have hix := fun H k => ixs_nat H encNote (k := k) (s := 2) hx rfl
    have hb := (ok.notes x (List.mem_of_getElem? hx)).2
    have h := rcheck_ev x.lines x.pens H hb.1 hb.2
    simp only [encNote] at hix
    simp only [note] at h
    cases e : wrongF x.lines x.pens with
    | false => rw [e] at h; simp at h; simp [stepH, e, vE, hlt, hix, subs, setSubs, h, w]
    | true => rw [e] at h; simp at h; simp [stepH, e, vE, vR, hlt, hix, subs, setSubs, h]
  · rintro _ -
    simp [vE, vX, subs]
theorem v_lp2 (j : Job) (ok : okJob j) (H : Heap) : evD EE lp13_2 (vE j H 6 0) = some (if 0 ≤ idxF (fun x => !floatOK x) 0 j.floats then vR H 10 (idxF (fun x => !floatOK x) 0 j.floats) else vX j H 6 69 4 j.floats.length) := by
  unfold lp13_2
  refine Eq.trans (evD_rng j.floats (fun (_ : Unit) i => vE j H 6 i) (fun _ _ => True) (stepH (fun x => !floatOK x) (vR H 10)) (fun _ => vX j H 6 69 4 j.floats.length) (fun _ _ => rfl) ?_ ?_ () 0 trivial (Nat.zero_le _)) (by rw [rng_hit]; rfl)
  · rintro _ i x - hx
    have hlt := (List.getElem?_eq_some_iff.1 hx).1
    have hn := ok.n3
    have w : IntKind.i64.wrap ((i : Int) + 1) = ((i + 1 : Nat) : Int) := w64 (by omega) (by omega)
    have hix := fun H k => ixs_nat H encFloat (k := k) (s := 3) hx rfl
    have h := rfloatRight_ev x H
    simp only [encFloat] at hix
    cases e : floatOK x with
    | true => rw [e] at h; simp [stepH, e, vE, hlt, hix, subs, setSubs, h, w]
    | false => rw [e] at h; simp [stepH, e, vE, vR, hlt, hix, subs, setSubs, h]
  · rintro _ -
    simp [vE, vX, subs]
def v9E (j : Job) (H : Heap) (i : Nat) : St := ⟨[(2, .lptr 2 0), (9, .lptr 9 0), (10, vI i)], [(2, [vI 0, vI 0]), (9, cGeom j.g ++ [vItems j.items, vNotes j.notes, vFloats j.floats])], H, H.length, []⟩
def v9X (j : Job) (H : Heap) (n : Nat) : Ex × St := (.exit 6, ⟨[(2, .lptr 2 0), (9, .lptr 9 0), (10, vI n), (116, vB false)], [(2, [vI 0, vI 0]), (9, cGeom j.g ++ [vItems j.items, vNotes j.notes, vFloats j.floats])], H, H.length, []⟩)
theorem v_lp3 (j : Job) (hn : j.floats.length ≤ 1000000) (H : Heap) : evD EE lp13_3 (v9E j H 0) = some (if 0 ≤ idxF (fun f => decide (j.g.first < f.h)) 0 j.floats then vR H 12 (idxF (fun f => decide (j.g.first < f.h)) 0 j.floats) else v9X j H j.floats.length) := by
  unfold lp13_3
  refine Eq.trans (evD_rng j.floats (fun (_ : Unit) i => v9E j H i) (fun _ _ => True) (stepH (fun f => decide (j.g.first < f.h)) (vR H 12)) (fun _ => v9X j H j.floats.length) (fun _ _ => rfl) ?_ ?_ () 0 trivial (Nat.zero_le _)) (by rw [rng_hit]; rfl)
  · rintro _ i x - hx
    have hlt := (List.getElem?_eq_some_iff.1 hx).1
    have w : IntKind.i64.wrap ((i : Int) + 1) = ((i + 1 : Nat) : Int) := w64 (by omega) (by omega)
    have hix := fun H k => ixs_nat H encFloat (k := k) (s := 3) hx rfl
    simp only [encFloat] at hix
    by_cases e : j.g.first < x.h
    · simp [stepH, e, v9E, vR, hlt, hix, subs, setSubs]
    · simp [stepH, e, v9E, hlt, hix, subs, setSubs, w]
  · rintro _ -
    simp [v9E, v9X, subs]

/-! ### All of it -/
theorem geom_vals (g : Geom) : geomF g = 0 ∨ geomF g = 6 ∨ geomF g = 7 := by
  unfold geomF
  repeat' split
  all_goals first | exact .inl rfl | exact .inr (.inl rfl) | exact .inr (.inr rfl)
def rcheckF (j : Job) : Int × Int :=
  if 4096 < (j.items.length : Int) then (3, 0) else if 256 < (j.floats.length : Int) then (4, 0) else if 512 < (j.notes.length : Int) then (5, 0)
  else if geomF j.g ≠ 0 then (geomF j.g, 0)
  else if 0 ≤ idxF (fun x => !rightF x) 0 j.items then (8, idxF (fun x => !rightF x) 0 j.items)
  else if 0 ≤ idxF (fun x => wrongF x.lines x.pens) 0 j.notes then (9, idxF (fun x => wrongF x.lines x.pens) 0 j.notes)
  else if 0 ≤ idxF (fun x => !floatOK x) 0 j.floats then (10, idxF (fun x => !floatOK x) 0 j.floats)
  else if 0 ≤ refF 5 j.notes.length 0 0 j.items ∧ (refF 6 j.floats.length 0 0 j.items < 0 ∨ refF 5 j.notes.length 0 0 j.items ≤ refF 6 j.floats.length 0 0 j.items) then (11, refF 5 j.notes.length 0 0 j.items)
  else if 0 ≤ refF 6 j.floats.length 0 0 j.items then (11, refF 6 j.floats.length 0 0 j.items)
  else if 0 ≤ tallF j then (12, tallF j) else (0, 0)
theorem loose_eq (a b : Int) (R : Int × Int) : (if 0 ≤ a ∧ (b < 0 ∨ a ≤ b) then ((11 : Int), a) else if 0 ≤ b then (11, b) else R) = if 0 ≤ (if a < 0 ∨ b < 0 then max a b else min a b) then (11, if a < 0 ∨ b < 0 then max a b else min a b) else R := by
  by_cases ha : a < 0
  · have h1 : ¬ (0 ≤ a ∧ (b < 0 ∨ a ≤ b)) := by omega
    have h2 : a < 0 ∨ b < 0 := .inl ha
    rw [if_neg h1]
    simp only [if_pos h2]
    by_cases hb : b < 0
    · have h3 : ¬ 0 ≤ b := by omega
      have h4 : ¬ 0 ≤ max a b := by omega
      rw [if_neg h3, if_neg h4]
    · have e : max a b = b := by omega
      rw [e]
  · by_cases hb : b < 0
    · have e : max a b = a := by omega
      have h2 : a < 0 ∨ b < 0 := .inr hb
      have h3 : 0 ≤ a ∧ (b < 0 ∨ a ≤ b) := ⟨by omega, .inl hb⟩
      rw [if_pos h3]
      simp only [if_pos h2, e, if_pos h3.1]
    · have h2 : ¬ (a < 0 ∨ b < 0) := by omega
      simp only [if_neg h2]
      by_cases hab : a ≤ b
      · have e : min a b = a := by omega
        have h3 : 0 ≤ a ∧ (b < 0 ∨ a ≤ b) := ⟨by omega, .inr hab⟩
        rw [if_pos h3]
        simp only [e, if_pos h3.1]
      · have e : min a b = b := by omega
        have h3 : ¬ (0 ≤ a ∧ (b < 0 ∨ a ≤ b)) := by omega
        rw [if_neg h3, e]
theorem rcheck_eq (j : Job) : rcheckF j = checkF j := by
  unfold rcheckF checkF clausesC
  rw [loose_eq]
  simp only [firstOf, yes, looseF]
  by_cases c1 : 4096 < (j.items.length : Int)
  · simp [c1]
  · by_cases c2 : 256 < (j.floats.length : Int)
    · simp [c1, c2]
    · by_cases c3 : 512 < (j.notes.length : Int)
      · simp [c1, c2, c3]
      · rcases geom_vals j.g with g | g | g
        · simp [c1, c2, c3, g]
          rfl
        · simp [c1, c2, c3, g]
        · simp [c1, c2, c3, g]

theorem rvalidCheck_ev (j : Job) (ok : okJob j) (n3 : (snapG j).floats.length ≤ 1000000) (H : Heap) : clD EE (.p (.fn 13)) [vJob j] H = some (.agg [vI (checkF j).1, vI (checkF j).2], none) := by
  rw [clD_body _ _ _ _ _ _ (noP _) fn13, ← rcheck_eq]
  unfold rcheckF
  have hg := rgeomCheck_ev j.g H
  have k0 := v_lp0 j ok H
  have k1 := v_lp1 j ok H
  have k2 := v_lp2 j ok H
  have ha := ranchors_ev j.items 5 j.notes.length H ok.n1
  have hb := ranchors_ev j.items 6 j.floats.length H ok.n1
  have hs := rsnap_ev j ok H
  have k3 := v_lp3 (snapG j) n3 H
  have et : idxF (fun f => decide ((snapG j).g.first < f.h)) 0 (snapG j).floats = tallF j := rfl
  rw [et] at k3
  generalize snapG j = s at *
  generalize idxF (fun x => !rightF x) 0 j.items = i1 at *
  generalize idxF (fun x => wrongF x.lines x.pens) 0 j.notes = i2 at *
  generalize idxF (fun x => !floatOK x) 0 j.floats = i3 at *
  generalize tallF j = t at *
  simp only [vE, vX, vR, v9E, v9X] at k0 k1 k2 k3
  simp only [vJob, cGeom, List.cons_append, List.nil_append] at hs
  by_cases c1 : 4096 < (j.items.length : Int)
  · simp [St.enter, enumFrom, subs, setSubs, c1]
  · by_cases c2 : 256 < (j.floats.length : Int)
    · simp [St.enter, enumFrom, subs, setSubs, c1, c2]
    · by_cases c3 : 512 < (j.notes.length : Int)
      · simp [St.enter, enumFrom, subs, setSubs, c1, c2, c3]
      · by_cases c4 : geomF j.g = 0
        · rw [c4] at hg
          by_cases d1 : 0 ≤ i1
          · rw [if_pos d1] at k0
            simp at k0
            simp [St.enter, enumFrom, subs, setSubs, c1, c2, c3, c4, hg, k0, d1]
          · rw [if_neg d1] at k0
            by_cases d2 : 0 ≤ i2
            · rw [if_pos d2] at k1
              simp at k0 k1
              simp [St.enter, enumFrom, subs, setSubs, c1, c2, c3, c4, hg, k0, k1, d1, d2]
            · rw [if_neg d2] at k1
              by_cases d3 : 0 ≤ i3
              · rw [if_pos d3] at k2
                simp at k0 k1 k2
                simp [St.enter, enumFrom, subs, setSubs, c1, c2, c3, c4, hg, k0, k1, k2, d1, d2, d3]
              · rw [if_neg d3] at k2
                simp at k0 k1 k2
                generalize refF 5 j.notes.length 0 0 j.items = a at *
                generalize refF 6 j.floats.length 0 0 j.items = b at *
                by_cases e1 : 0 ≤ a
                · by_cases e2 : b < 0
                  · simp [St.enter, enumFrom, subs, setSubs, c1, c2, c3, c4, hg, k0, k1, k2, d1, d2, d3, ha, hb, e1, e2]
                  · by_cases e3 : a ≤ b
                    · simp [St.enter, enumFrom, subs, setSubs, c1, c2, c3, c4, hg, k0, k1, k2, d1, d2, d3, ha, hb, e1, e2, e3]
                    · have e4 : 0 ≤ b := by omega
                      simp [St.enter, enumFrom, subs, setSubs, c1, c2, c3, c4, hg, k0, k1, k2, d1, d2, d3, ha, hb, e1, e2, e3, e4]
                · by_cases e4 : 0 ≤ b
                  · simp [St.enter, enumFrom, subs, setSubs, c1, c2, c3, c4, hg, k0, k1, k2, d1, d2, d3, ha, hb, e1, e4]
                  · by_cases d4 : 0 ≤ t
                    · rw [if_pos d4] at k3
                      simp at k3
                      simp [St.enter, enumFrom, subs, setSubs, c1, c2, c3, c4, hg, k0, k1, k2, d1, d2, d3, ha, hb, e1, e4, hs, k3, d4]
                    · rw [if_neg d4] at k3
                      simp at k3
                      simp [St.enter, enumFrom, subs, setSubs, c1, c2, c3, c4, hg, k0, k1, k2, d1, d2, d3, ha, hb, e1, e4, hs, k3, d4]
        · simp [St.enter, enumFrom, subs, setSubs, c1, c2, c3, c4, hg]
end Go.EnvOf

/- The warnings, as the reference tells them. -/
namespace Go.EnvOf
open Go Go.Eng
set_option maxRecDepth 100000
/-- What a valid job's parts are like, once they are on its grid. -/
structure Fine (J : Job) : Prop where
  pens : ∀ x ∈ J.items, x.k = 3 → x = ⟨3, 0, 0, 0, 0, 0, x.n⟩
  lines : ∀ n ∈ J.notes, ∀ h ∈ n.lines, 0 ≤ h ∧ h ≤ 4294967296
  rule : 0 ≤ J.g.rule ∧ J.g.rule ≤ 4294967296
  high : 0 ≤ J.g.high ∧ J.g.high ≤ 4294967296
  most : 0 ≤ J.g.noteMost ∧ J.g.noteMost ≤ 4294967296
  n1 : J.items.length ≤ 1000000
  n2 : J.notes.length ≤ 1000000
  n3 : J.floats.length ≤ 1000000
  n4 : ∀ n ∈ J.notes, n.lines.length ≤ 1000000
theorem long_same {J : Job} (f : Fine J) {n : Note} (hn : n ∈ J.notes) : n.lines.any (rlB J.g) = longB (limJ J.g) n := by
  have a := f.rule
  have b := f.high
  have c := f.most
  have hl := f.lines n hn
  unfold longB
  have e : ∀ h ∈ n.lines, rlB J.g h = decide (limJ J.g < h) := by
    intro h hh
    have := hl h hh
    unfold rlB limJ
    rw [w64 (n := h + J.g.rule) (by omega) (by omega), w64 (n := min J.g.noteMost J.g.high - J.g.rule) (by omega) (by omega)]
    apply decide_eq_decide.2
    omega
  rw [Bool.eq_iff_iff, List.any_eq_true, List.any_eq_true]
  constructor
  · rintro ⟨h, h1, h2⟩; exact ⟨h, h1, by rw [← e h h1]; exact h2⟩
  · rintro ⟨h, h1, h2⟩; exact ⟨h, h1, by rw [e h h1]; exact h2⟩
def roS (J : Job) (H : Heap) (o : List Warn) (t : Nat) (i : Int) : St := ⟨[(3, .lptr 3 0), (4, rW H o), (t, vI i)], [(3, cJb J)], hW H o, H.length, []⟩
def roT (J : Job) (H : Heap) (o : List Warn) (t x e : Nat) (i : Int) : Ex × St := (.exit e, ⟨[(3, .lptr 3 0), (4, rW H o), (t, vI i), (x, vB false)], [(3, cJb J)], hW H o, H.length, []⟩)
theorem ro_lp0 (J : Job) (f : Fine J) (H : Heap) : evD EE lp9_0 (roS J H [] 5 0) = some (roT J H (itemsW J.g J.items J.items.length) 5 19 0 J.items.length) := by
  suffices key : ∃ r, evD EE lp9_0 (roS J H [] 5 0) = some r ∧ r = roT J H (itemsW J.g J.items J.items.length) 5 19 0 J.items.length by
    obtain ⟨r, h, rfl⟩ := key; exact h
  unfold lp9_0
  refine evD_foldR J.items (fun i S => S = roS J H (itemsW J.g J.items i) 5 i) (fun r => r = roT J H (itemsW J.g J.items J.items.length) 5 19 0 J.items.length) (by rintro i S rfl; rfl) ?_ ?_ _ 0 (roS J H [] 5 0) rfl rfl (Nat.zero_le _)
  · rintro i x S rfl hx
    refine ⟨_, ?_, rfl⟩
    have hlt := (List.getElem?_eq_some_iff.1 hx).1
    have hix := fun H k => ixs_nat H encItem (k := k) (s := 7) hx rfl
    have hrd := rd_of hx
    have n1 := f.n1
    have w : IntKind.i64.wrap ((i : Int) + 1) = ((i + 1 : Nat) : Int) := w64 (by omega) (by omega)
    have lo := fun H => lost_ev J.items i hlt f.n1 H
    have id := fun H => idle_ev J.items i hlt f.n1 (by rw [hrd]; exact f.pens x (List.mem_of_getElem? hx)) H
    have hw := itemsW_len J.g J.items i
    have m1 : (itemsW J.g J.items i).length + 1 < most := by unfold most; omega
    have m2 : (itemsW J.g J.items i).length + 1 + 1 < most := by unfold most; omega
    have m3 : (itemsW J.g J.items i).length + 1 + 1 + 1 < most := by unfold most; omega
    simp only [itemsW, perW, hrd]
    generalize lostB J.items i = ll at *
    generalize idleB J.items i = ii at *
    generalize itemsW J.g J.items i = o at *
    unfold tallB
    by_cases k1 : x.k = 1
    · by_cases hh : J.g.high < x.h
      · cases ll <;> cases ii <;> simp [roS, hlt, hix, encItem, encW, subs, setSubs, w, lo, id, k1, hh, m1, m2, m3] <;> rfl
      · cases ll <;> cases ii <;> simp [roS, hlt, hix, encItem, encW, subs, setSubs, w, lo, id, k1, hh, m1, m2, m3] <;> rfl
    · cases ll <;> cases ii <;> simp [roS, hlt, hix, encItem, encW, subs, setSubs, w, lo, id, k1, m1, m2, m3] <;> rfl
  · rintro S rfl
    refine ⟨_, ?_, ?_, rfl⟩
    · simp [roS, roT, subs]
    · simp [roT]
theorem ro_lp1 (J : Job) (f : Fine J) (H : Heap) (o0 : List Warn) (ho : o0.length ≤ 10000000) : evD EE lp9_1 (roS J H o0 6 0) = some (roT J H (o0 ++ notesW (limJ J.g) J.notes J.notes.length) 6 68 2 J.notes.length) := by
  suffices key : ∃ r, evD EE lp9_1 (roS J H o0 6 0) = some r ∧ r = roT J H (o0 ++ notesW (limJ J.g) J.notes J.notes.length) 6 68 2 J.notes.length by
    obtain ⟨r, h, rfl⟩ := key; exact h
  unfold lp9_1
  refine evD_foldR J.notes (fun i S => S = roS J H (o0 ++ notesW (limJ J.g) J.notes i) 6 i) (fun r => r = roT J H (o0 ++ notesW (limJ J.g) J.notes J.notes.length) 6 68 2 J.notes.length) (by rintro i S rfl; rfl) ?_ ?_ _ 0 (roS J H o0 6 0) rfl (by simp [notesW, idxW]) (Nat.zero_le _)
  · rintro i x S rfl hx
    refine ⟨_, ?_, rfl⟩
    have hlt := (List.getElem?_eq_some_iff.1 hx).1
    have hm := List.mem_of_getElem? hx
    have hix := fun H k => ixs_nat H encNote (k := k) (s := 2) hx rfl
    have hrd := rd_of hx
    have n1 := f.n2
    have w : IntKind.i64.wrap ((i : Int) + 1) = ((i + 1 : Nat) : Int) := w64 (by omega) (by omega)
    have lo := fun H => rlong_ev2 J.g x (f.n4 x hm) H
    rw [long_same f hm] at lo
    have hw := idxW_len 2 (fun i => longB (limJ J.g) (rd J.notes i)) i
    have hs : notesW (limJ J.g) J.notes (i + 1) = notesW (limJ J.g) J.notes i ++ (if longB (limJ J.g) x = true then [⟨2, i⟩] else []) := by simp only [notesW, idxW, hrd]
    have m1 : (o0 ++ notesW (limJ J.g) J.notes i).length + 1 < most := by unfold most notesW; rw [List.length_append]; omega
    rw [hs, ← List.append_assoc]
    generalize o0 ++ notesW (limJ J.g) J.notes i = o at *
    generalize longB (limJ J.g) x = lb at *
    cases lb <;> simp [roS, hlt, hix, encNote, encW, subs, setSubs, w, lo, m1]
  · rintro S rfl
    refine ⟨_, ?_, ?_, rfl⟩
    · simp [roS, roT, subs]
    · simp [roT]
theorem ro_lp2 (J : Job) (f : Fine J) (H : Heap) (o0 : List Warn) (ho : o0.length ≤ 20000000) : evD EE lp9_2 (roS J H o0 7 0) = some (roT J H (o0 ++ floatsW J.g J.floats J.floats.length) 7 88 4 J.floats.length) := by
  suffices key : ∃ r, evD EE lp9_2 (roS J H o0 7 0) = some r ∧ r = roT J H (o0 ++ floatsW J.g J.floats J.floats.length) 7 88 4 J.floats.length by
    obtain ⟨r, h, rfl⟩ := key; exact h
  unfold lp9_2
  refine evD_foldR J.floats (fun i S => S = roS J H (o0 ++ floatsW J.g J.floats i) 7 i) (fun r => r = roT J H (o0 ++ floatsW J.g J.floats J.floats.length) 7 88 4 J.floats.length) (by rintro i S rfl; rfl) ?_ ?_ _ 0 (roS J H o0 7 0) rfl (by simp [floatsW, idxW]) (Nat.zero_le _)
  · rintro i x S rfl hx
    refine ⟨_, ?_, rfl⟩
    have hlt := (List.getElem?_eq_some_iff.1 hx).1
    have n1 := f.n3
    have w : IntKind.i64.wrap ((i : Int) + 1) = ((i + 1 : Nat) : Int) := w64 (by omega) (by omega)
    have f1 := fun H => rafits_ev J.g J.floats ([(i : Int)], []) H (by simp) (by simp)
    have f2 := fun H => rafits_ev J.g J.floats ([], [(i : Int)]) H (by simp) (by simp)
    have e1 : (fitT J.g J.floats [(i : Int)] && fitB J.g J.floats []) = fitPr J.g J.floats ([(i : Int)], []) := rfl
    have e2 : (fitT J.g J.floats [] && fitB J.g J.floats [(i : Int)]) = fitPr J.g J.floats ([], [(i : Int)]) := rfl
    simp only [e1, e2] at f1 f2
    have hw := idxW_len 3 (stuckB J.g J.floats) i
    have hs : floatsW J.g J.floats (i + 1) = floatsW J.g J.floats i ++ (if stuckB J.g J.floats i = true then [⟨3, i⟩] else []) := rfl
    have m1 : (o0 ++ floatsW J.g J.floats i).length + 1 < most := by unfold most floatsW; rw [List.length_append]; omega
    rw [hs, ← List.append_assoc]
    generalize o0 ++ floatsW J.g J.floats i = o at *
    unfold stuckB
    simp only [vPair, sli, List.map_cons, List.map_nil, encI] at f1 f2
    generalize fitPr J.g J.floats ([(i : Int)], []) = a at *
    generalize fitPr J.g J.floats ([], [(i : Int)]) = b at *
    cases a <;> cases b <;> simp [roS, hlt, encI, encW, subs, setSubs, w, f1, f2, m1]
  · rintro S rfl
    refine ⟨_, ?_, ?_, rfl⟩
    · simp [roS, roT, subs]
    · simp [roT]
theorem rof_ev (j : Job) (ok : okJob j) (f : (checkF j).1 = 0 → Fine (snapG j)) (n3 : (snapG j).floats.length ≤ 1000000) (H : Heap) : clD EE (.p (.fn 9)) [vJob j] H = some (vWs (ofW j), none) := by
  have hr := fun H => rvalidCheck_ev j ok n3 H
  have hs := fun H => rsnap_ev j ok H
  simp only [vJob, cGeom, List.cons_append, List.nil_append] at hr hs
  unfold ofW
  rw [clD_body _ _ _ _ _ _ (noP _) fn9]
  by_cases c : (checkF j).1 = 0
  · have f := f c
    rw [if_pos c]
    rw [c] at hr
    generalize snapG j = J at *
    have k0 := ro_lp0 J f H
    have e0 := itemsW_len J.g J.items J.items.length
    have q1 := f.n1
    have q2 := f.n2
    have k1 := ro_lp1 J f H (itemsW J.g J.items J.items.length) (by omega)
    have e1 := idxW_len 2 (fun i => longB (limJ J.g) (rd J.notes i)) J.notes.length
    have k2 := ro_lp2 J f H (itemsW J.g J.items J.items.length ++ notesW (limJ J.g) J.notes J.notes.length) (by unfold notesW; rw [List.length_append]; omega)
    have e : itemsW J.g J.items J.items.length ++ notesW (limJ J.g) J.notes J.notes.length ++ floatsW J.g J.floats J.floats.length = allW J := rfl
    rw [e] at k2
    generalize itemsW J.g J.items J.items.length ++ notesW (limJ J.g) J.notes J.notes.length = W1 at *
    generalize itemsW J.g J.items J.items.length = W0 at *
    generalize allW J = W at *
    simp [roS, roT, rW, hW] at k0 k1 k2
    simp [St.enter, enumFrom, subs, setSubs, fldvV, hr, hs, k0, k1, k2]
  · rw [if_neg c]
    simp [St.enter, enumFrom, subs, setSubs, fldvV, hr, c]
end Go.EnvOf

/- What a valid job is like on its grid. -/
namespace Go.EnvOf
open Go Go.Eng
set_option maxRecDepth 100000
theorem up_bound {n s : Int} (h0 : 0 ≤ n) (h1 : n ≤ 1073741823) (hs : 1 ≤ s) (h2 : s ≤ 1073741823) : 0 ≤ upG n s ∧ upG n s ≤ 4294967296 := by
  have a := Int.emod_nonneg n (show s ≠ 0 by omega)
  have b := Int.emod_lt_of_pos n (show 0 < s by omega)
  unfold upG upF
  rw [if_neg (by omega)]
  split
  · simp only [orN]; omega
  · unfold addF
    split <;> simp only [orN] <;> omega
theorem down_bound {n s : Int} (h0 : 0 ≤ n) (h1 : n ≤ 1073741823) (hs : 1 ≤ s) (h2 : s ≤ 1073741823) : 0 ≤ downG n s ∧ downG n s ≤ 4294967296 := by
  have a := Int.emod_nonneg n (show s ≠ 0 by omega)
  have b := Int.emod_lt_of_pos n (show 0 < s by omega)
  have c1 : 0 ≤ s * (n / s) := Int.mul_nonneg (by omega) (Int.ediv_nonneg h0 (by omega))
  have c2 := Int.emod_add_mul_ediv n s
  unfold downG downF
  rw [if_neg (by omega)]
  unfold subF
  split <;> simp only [orN] <;> omega
theorem first_zero : ∀ (l : List (Int × V × Int)), (∀ c ∈ l, c.1 ≠ 0) → (firstOf l).1 = 0 → ∀ c ∈ l, c.2.2 < 0
  | [], _, _, _, h => by cases h
  | c :: r, hz, h, d, hd => by
    simp only [firstOf] at h
    split at h
    · exact absurd h (hz c List.mem_cons_self)
    · rename_i hc
      rcases List.mem_cons.1 hd with rfl | hd
      · omega
      · exact first_zero r (fun c h => hz c (List.mem_cons_of_mem _ h)) h d hd
theorem idx_none {α : Type} (p : α → Bool) (l : List α) (i : Nat) (h : idxF p i l < 0) : ∀ x ∈ l, p x = false := by
  have := idxF_any p i l
  rw [decide_eq_false (by omega)] at this
  exact fun x hx => by
    have := List.any_eq_false.1 this.symm x hx
    simpa using this
theorem inR_of {lo hi : Int} {l : List Int} (h : ¬ inR lo hi l = false) : ∀ x ∈ l, lo ≤ x ∧ x ≤ hi := by
  intro x hx
  have h1 : inR lo hi l = true := by simpa using h
  unfold inR at h1
  have h2 : (l.any fun x => decide (x < lo) || decide (hi < x)) = false := by simpa using h1
  have := List.any_eq_false.1 h2 x hx
  simp at this
  omega
theorem fine_of {j : Job} (ok : okJob j) (h : (checkF j).1 = 0) : Fine (snapG j) := by
  have hc := first_zero (clausesC j 0) (by intro c hc; simp only [clausesC, List.mem_cons, List.not_mem_nil, or_false] at hc; rcases hc with rfl | rfl | rfl | rfl | rfl | rfl | rfl | rfl | rfl | rfl <;> simp) h
  have c6 := hc (6, whenV 3, yes (decide (geomF j.g = 6))) (by simp [clausesC])
  have c7 := hc (7, whenV 4, yes (decide (geomF j.g = 7))) (by simp [clausesC])
  have c8 := idx_none _ _ _ (hc (8, .p (.fn 75), idxF (fun x => !rightF x) 0 j.items) (by simp [clausesC]))
  have c9 := idx_none _ _ _ (hc (9, .p (.fn 78), idxF (fun x => wrongF x.lines x.pens) 0 j.notes) (by simp [clausesC]))
  have g6 : geomF j.g ≠ 6 := by intro e; simp [e, yes] at c6
  have g7 : geomF j.g ≠ 7 := by intro e; simp [e, yes] at c7
  unfold geomF at g6 g7
  by_cases q1 : inR 1 8 [j.g.cols] = false
  · rw [if_pos q1] at g6; exact absurd rfl g6
  rw [if_neg q1] at g7
  by_cases q2 : inR 1 1073741823 [j.g.wide, j.g.high] = false
  · rw [if_pos q2] at g7; exact absurd rfl g7
  rw [if_neg q2] at g7
  by_cases q3 : inR 0 1073741823 [j.g.gap, j.g.noteMost, j.g.topMost, j.g.botMost] = false
  · rw [if_pos q3] at g7; exact absurd rfl g7
  rw [if_neg q3] at g7
  by_cases q4 : inR 0 536870912 [j.g.rule, j.g.sep, j.g.grid] = false
  · rw [if_pos q4] at g7; exact absurd rfl g7
  have hh := inR_of q2 j.g.high (by simp)
  have hm := inR_of q3 j.g.noteMost (by simp)
  have hr := inR_of q4 j.g.rule (by simp)
  have hg := inR_of q4 j.g.grid (by simp)
  have hpen : ∀ x ∈ j.items, x.k = 3 → x = ⟨3, 0, 0, 0, 0, 0, x.n⟩ := by
    intro x hx h3
    have := c8 x hx
    simp only [Bool.not_eq_false', rightF, Bool.and_eq_true, decide_eq_true_eq] at this
    have e := this.1.1.1.1.1.2
    rw [← e]
    simp [itemSame, h3]
  have hline : ∀ n ∈ j.notes, ∀ h ∈ n.lines, 1 ≤ h ∧ h ≤ 1073741823 := by
    intro n hn h hh
    have := c9 n hn
    simp only [wrongF, Bool.or_eq_false_iff, bad] at this
    have := List.any_eq_false.1 this.1.2 h hh
    simp at this
    omega
  have ln : ∀ n ∈ j.notes, n.lines.length ≤ 1000000 := fun n hn => by have := ok.notes n hn; exact this.2.1
  unfold snapG
  by_cases g0 : j.g.grid < 1
  · rw [if_pos g0]
    exact ⟨hpen, fun n hn h hh => by have := hline n hn h hh; omega, by omega, by omega, by omega, ok.n1, ok.n2, ok.n3, ln⟩
  · rw [if_neg g0]
    refine ⟨?_, ?_, up_bound (by omega) (by omega) (by omega) (by omega), down_bound (by omega) (by omega) (by omega) (by omega), ⟨by simp only [geomG]; omega, by simp only [geomG]; omega⟩, by simpa using ok.n1, by simpa using ok.n2, by simpa using ok.n3, ?_⟩
    · intro x hx h3
      obtain ⟨y, hy, rfl⟩ := List.mem_map.1 hx
      unfold itemG at h3 ⊢
      split at h3
      · rename_i h1; simp only at h3; omega
      · split at h3
        · rename_i h2; simp only at h3; omega
        · rename_i h1 h2
          rw [if_neg h1, if_neg h2]
          exact hpen y hy h3
    · intro n hn h hh
      obtain ⟨m, hm, rfl⟩ := List.mem_map.1 hn
      obtain ⟨x, hx, rfl⟩ := List.mem_map.1 hh
      have := hline m hm x hx
      exact up_bound (by omega) (by omega) (by omega) (by omega)
    · intro n hn
      obtain ⟨m, hm, rfl⟩ := List.mem_map.1 hn
      simpa [noteG] using ln m hm
end Go.EnvOf

/- The law of warnings. -/
namespace Go.EnvOf
open Go Go.Eng
set_option maxRecDepth 100000
def j0 : Job := ⟨⟨1, 1, 0, 9, 9, 0, 0, 0, 0, 0, 0, 0, 0, 0, 0, 0, 0, 0, false⟩, [⟨2, 0, 0, 0, 0, 0, 0⟩, ⟨1, 10, 0, 0, 0, 0, 0⟩, ⟨3, 0, 0, 0, 0, 0, 0⟩, ⟨2, 0, 0, 0, 0, 0, 0⟩], [], []⟩
theorem j0_ok : okJob j0 := ⟨by decide, by decide, by decide, by decide, by decide, by decide, by decide⟩
theorem j0_w : ofW j0 = [⟨4, 0⟩, ⟨1, 1⟩, ⟨5, 2⟩] := by kernel_rfl
theorem addD0 : ∀ ds : List Nat, ds.foldr (addD 0) [] = []
  | [] => rfl
  | x :: t => by simp [addD0 t, addD]
theorem awake50_ev (H : Heap) : ∃ r, clD EE (.p (.fn 7)) [] H = some (.p (.bool true), r) := by
  rw [clD_body _ _ _ _ _ _ (noP _) fn7]
  obtain ⟨r, h⟩ := ltOf_ev j0 j0_ok (by decide) (by decide) (by decide) (by decide) H
  rw [j0_w] at h
  simp only [j0, vJob, cGeom, vItems, vNotes, vFloats, vWs, List.map_cons, List.map_nil, encItem, encW, List.cons_append, List.nil_append] at h
  have hn := fun H => name_ev 3 H
  have e3 : nmS 3 = ⟨#[115, 116, 117, 99, 107]⟩ := by decide +kernel
  have hs : ((⟨#[115, 116, 117, 99, 107]⟩ : ByteArray) == ⟨#[115, 116, 117, 99, 107]⟩) = true := by decide +kernel
  rw [e3] at hn
  simp [St.enter, enumFrom, subs, setSubs, h, callR_opt, ixsI, ixsV, hn, hs]
def tlE (L : List Warn) (H : Heap) (i : Nat) : St := ⟨[(3, vWs L), (4, vWs L), (5, vI i)], [], H, 0, []⟩
def tlX (L : List Warn) (H : Heap) : Ex × St := (.exit 0, ⟨[(3, vWs L), (4, vWs L), (5, vI L.length), (16, vB false)], [], H, 0, []⟩)
theorem tl_lp (L : List Warn) (H : Heap) (hL : L.length ≤ 1000000000) : evD EE lp3_0 (tlE L H 0) = some (tlX L H) := by
  unfold lp3_0
  refine Eq.trans (evD_fold L (fun (_ : Unit) i => tlE L H i) (fun _ _ => True) (fun _ _ _ => ()) (fun _ => tlX L H) (fun _ _ => rfl) ?_ ?_ () 0 trivial (Nat.zero_le _)) rfl
  · intro _ i x hi hx
    refine ⟨?_, trivial⟩
    have hlt := (List.getElem?_eq_some_iff.1 hx).1
    have hix := fun H k => ixs_nat H encW (k := k) (s := 2) hx rfl
    have w : IntKind.i64.wrap ((i : Int) + 1) = ((i + 1 : Nat) : Int) := w64 (by omega) (by omega)
    simp [tlE, hlt, hix, encW, subs, setSubs, w]
  · intro _ _
    refine ⟨?_, by simp [tlX]⟩
    simp [tlE, tlX]
theorem ofW_len {j : Job} (ok : okJob j) : (ofW j).length ≤ 100000000 := by
  unfold ofW
  split
  · rename_i h
    have f := fine_of ok h
    have a := itemsW_len (snapG j).g (snapG j).items (snapG j).items.length
    have b := idxW_len 2 (fun i => longB (limJ (snapG j).g) (rd (snapG j).notes i)) (snapG j).notes.length
    have c := idxW_len 3 (stuckB (snapG j).g (snapG j).floats) (snapG j).floats.length
    have q1 := f.n1
    have q2 := f.n2
    have q3 := f.n3
    unfold allW notesW floatsW
    simp only [List.length_append]
    omega
  · simp
theorem snap_parts {j : Job} (ok : okJob j) : (snapG j).items.length ≤ 1000000 ∧ (snapG j).notes.length ≤ 1000000 ∧ (snapG j).floats.length ≤ 1000000 ∧ ∀ n ∈ (snapG j).notes, n.lines.length ≤ 1000000 := by
  have ln : ∀ n ∈ j.notes, n.lines.length ≤ 1000000 := fun n hn => by have := ok.notes n hn; exact this.2.1
  unfold snapG
  split
  · exact ⟨ok.n1, ok.n2, ok.n3, ln⟩
  · refine ⟨by simpa using ok.n1, by simpa using ok.n2, by simpa using ok.n3, ?_⟩
    intro n hn
    obtain ⟨m, hm, rfl⟩ := List.mem_map.1 hn
    simpa [noteG] using ln m hm
theorem lintTells_ev (j : Job) (hj : jobI j) : clD EE (.p (.fn 3)) [vJob j] [] = some (.p (.bool true), none) := by
  rw [clD_body _ _ _ _ _ _ (noP _) fn3]
  have l1 := large_ev j []
  cases b1 : largeF j with
  | true =>
    rw [b1] at l1
    simp only [vJob, cGeom, List.cons_append, List.nil_append] at l1
    obtain ⟨ra, ha⟩ := awake50_ev []
    have hda : (dsOf ra).foldr (addD 0) [] = [] := addD0 _
    simp [St.enter, enumFrom, subs, setSubs, l1, ha, callR_opt, hda]
  | false =>
    have ok := okJob_of hj (small_of b1)
    obtain ⟨p1, p2, p3, p4⟩ := snap_parts ok
    obtain ⟨r, h1⟩ := ltOf_ev j ok p1 p2 p3 p4 []
    have h2 := rof_ev j ok (fine_of ok) p3
    have hl := ofW_len ok
    have k := tl_lp (ofW j) (hpOf [] r) (by omega)
    rw [b1] at l1
    simp only [vJob, cGeom, List.cons_append, List.nil_append] at l1 h1 h2
    generalize ofW j = W at *
    simp [tlE, tlX] at k
    have hd : (dsOf r).foldr (addD 0) [] = [] := addD0 _
    obtain ⟨ra, ha⟩ := awake50_ev (hpOf [] r)
    have hda : (dsOf ra).foldr (addD 0) [] = [] := addD0 _
    simp [St.enter, enumFrom, subs, setSubs, l1, h1, h2, k, ha, callR_opt, hd, hda]
end Go.EnvOf
