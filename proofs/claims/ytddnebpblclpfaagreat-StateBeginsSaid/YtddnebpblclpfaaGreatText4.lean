/- The program's functions and the document's, evaluated. -/
import Derived.KernelRfl
import Derived.Test.YtddnebpblclpfaaGreatText2
set_option linter.unusedSimpArgs false
set_option linter.unusedVariables false
/- Notes: how high lines are. -/
namespace Go.EnvOf
open Go Go.Eng

def note (lines pens : List Int) : V := .agg [sli lines, sli pens]
theorem ixs_sli (H : Heap) (L : List Int) (k : IntKind) (i : Int) (h0 : 0 ≤ i) (h1 : i < L.length) : ixsI H (.p (.sl (L.map encI))) (.p (.int k i)) 1 = some (.eptr [.p (.int .i64 (rd L i))] 0) :=
  ixs_map H encI L k i 1 (fun _ => rfl) h0 h1

def far : Int := 1125899906842624
def hstep (s x : Int) : Int := min (s + min (max x 0) far) far
theorem drop_cons (L : List Int) (i : Int) (t : Nat) (h0 : 0 ≤ i) (h1 : i.toNat < t) (h2 : t ≤ L.length) : (L.take t).drop i.toNat = rd L i :: (L.take t).drop (i + 1).toNat := by
  have e : (i + 1).toNat = i.toNat + 1 := by omega
  rw [e, List.drop_eq_getElem_cons (by simp; omega)]
  congr 1
  unfold rd
  have : i.toNat < L.length := by omega
  simp [List.getD_eq_getElem?_getD, this]

/-- The lines of so many that lie between. -/
def part (L : List Int) (frm to_ i : Int) : List Int := (L.take (min to_ i).toNat).drop (max frm 0).toNat
end Go.EnvOf

/- Notes: where they may split, and end. -/
namespace Go.EnvOf
open Go Go.Eng

/-- May it be split there? -/
def splitF (L M : List Int) (at_ : Int) : Bool := decide (0 < at_ ∧ at_ < L.length ∧ at_ ≤ M.length ∧ rd M (at_ - 1) < 10000)
def mayF (L M : List Int) (at_ : Int) : Bool := decide (at_ = L.length) || splitF L M at_
theorem split_ev (L M : List Int) (at_ : Int) (H : Heap) (hL : L.length ≤ 9223372036854775806) :
    clD EE (.p (.fn 256)) [note L M, .p (.int .i64 at_)] H = some (.p (.bool (splitF L M at_)), none) := by
  rw [clD_body _ _ _ _ _ _ (noP _) fn256]
  unfold splitF
  by_cases c1 : 0 < at_
  · by_cases c2 : at_ < L.length
    · by_cases c3 : at_ ≤ M.length
      · have w : IntKind.i64.wrap (at_ - 1) = at_ - 1 := wrap64_in _ (by omega) (by omega)
        have i1 : 0 ≤ at_ - 1 := by omega
        have i2 : at_ - 1 < (M.length : Int) := by omega
        simp (disch := omega) [note, sli, St.enter, enumFrom, subs, c1, c2, c3, ixs_sli, w]
      · simp [note, sli, St.enter, enumFrom, subs, c1, c2, c3]
    · simp [note, sli, St.enter, enumFrom, subs, c1, c2]
  · simp [note, sli, St.enter, enumFrom, subs, c1]

theorem stop_ev (L M : List Int) (at_ : Int) (H : Heap) (hL : L.length ≤ 9223372036854775806) :
    clD EE (.p (.fn 238)) [note L M, .p (.int .i64 at_)] H = some (.p (.bool (mayF L M at_)), none) := by
  rw [clD_body _ _ _ _ _ _ (noP _) fn238]
  have h1 := split_ev L M at_ H hL
  unfold mayF
  simp only [note, sli] at h1
  by_cases c : at_ = L.length
  · simp [note, sli, St.enter, enumFrom, subs, c]
  · simp [note, sli, St.enter, enumFrom, subs, c, h1]

theorem may_ev (L M : List Int) (at_ : Int) (H : Heap) (hL : L.length ≤ 9223372036854775806) :
    clD EE (.p (.fn 171)) [note L M, .p (.int .i64 at_)] H = some (.p (.bool (mayF L M at_)), none) := by
  rw [clD_body _ _ _ _ _ _ (noP _) fn171]
  have h1 := stop_ev L M at_ H hL
  simp only [note, sli] at h1
  simp [note, sli, St.enter, enumFrom, subs, h1]

end Go.EnvOf

/- Notes: all places where they may end. -/
namespace Go.EnvOf
open Go Go.Eng

end Go.EnvOf

/- Notes: where they may end, by the document; the same numbers. -/
namespace Go.EnvOf
open Go Go.Eng

end Go.EnvOf

/- Notes: first stop, whether a note may be; the law NoteTells. -/
namespace Go.EnvOf
open Go Go.Eng

/-- Is something wrong with one of them? -/
def bad (lo hi : Int) (l : List Int) : Bool := l.any fun x => decide (x < lo) || decide (hi < x)

theorem drop_rd (L : List Int) (i : Int) (h0 : 0 ≤ i) (h1 : i < L.length) : L.drop i.toNat = rd L i :: L.drop (i + 1).toNat := by
  have := drop_cons L i L.length h0 (by omega) (Nat.le_refl _)
  rwa [List.take_length] at this

theorem chk_lp0 (L M : List Int) (H : Heap) (B : Nat) (hL : L.length ≤ 9223372036854775807) : ∀ (n : Nat) (i : Int) (wr : Bool), ((L.length : Int) - i).toNat = n → 0 ≤ i → i ≤ L.length →
    evD EE lp278_0 ⟨[(1, .lptr 1 0), (3, .p (.bool wr)), (29, sli L), (30, .p (.int .i64 L.length)), (31, .p (.int .i64 i))], [(1, [sli L, sli M])], H, B, []⟩ =
      some (.exit 0, ⟨[(1, .lptr 1 0), (3, .p (.bool (wr || bad 1 1073741823 (L.drop i.toNat)))), (29, sli L), (30, .p (.int .i64 L.length)), (31, .p (.int .i64 L.length)), (32, .p (.bool false))], [(1, [sli L, sli M])], H, B, []⟩) := by
  intro n
  induction n with
  | zero =>
    intro i wr hn h0 h1
    have e : i = L.length := by omega
    subst e
    unfold lp278_0
    rw [evD_loop]
    simp [sli, bad]
  | succ n ih =>
    intro i wr hn h0 h1
    have c : i < (L.length : Int) := by omega
    have w : IntKind.i64.wrap (i + 1) = i + 1 := wrap64_in _ (by omega) (by omega)
    have key := ih (i + 1) (wr || (decide (rd L i < 1) || decide (1073741823 < rd L i))) (by omega) (by omega) (by omega)
    have eb : bad 1 1073741823 (L.drop i.toNat) = ((decide (rd L i < 1) || decide (1073741823 < rd L i)) || bad 1 1073741823 (L.drop (i + 1).toNat)) := by rw [drop_rd L i h0 c]; simp [bad]
    rw [eb, ← Bool.or_assoc]
    unfold lp278_0
    rw [evD_loop]
    cases wr
    · by_cases c1 : rd L i < 1
      · simp (disch := omega) [sli, c, ixs_sli, subs, w, c1] at key ⊢
        exact key
      · simp (disch := omega) [sli, c, ixs_sli, subs, w, c1] at key ⊢
        exact key
    · simp (disch := omega) [sli, c, ixs_sli, subs, w] at key ⊢
      exact key
theorem chk_lp1 (M : List Int) (H : Heap) (B : Nat) (hM : M.length ≤ 9223372036854775807) : ∀ (n : Nat) (i : Int) (wr : Bool), ((M.length : Int) - i).toNat = n → 0 ≤ i → i ≤ M.length →
    evD EE lp278_1 ⟨[(3, .p (.bool wr)), (46, sli M), (47, .p (.int .i64 M.length)), (48, .p (.int .i64 i))], [], H, B, []⟩ =
      some (.exit 2, ⟨[(3, .p (.bool (wr || bad 0 10000 (M.drop i.toNat)))), (46, sli M), (47, .p (.int .i64 M.length)), (48, .p (.int .i64 M.length)), (49, .p (.bool false))], [], H, B, []⟩) := by
  intro n
  induction n with
  | zero =>
    intro i wr hn h0 h1
    have e : i = M.length := by omega
    subst e
    unfold lp278_1
    rw [evD_loop]
    simp [sli, bad]
  | succ n ih =>
    intro i wr hn h0 h1
    have c : i < (M.length : Int) := by omega
    have w : IntKind.i64.wrap (i + 1) = i + 1 := wrap64_in _ (by omega) (by omega)
    have key := ih (i + 1) (wr || (decide (rd M i < 0) || decide (10000 < rd M i))) (by omega) (by omega) (by omega)
    have eb : bad 0 10000 (M.drop i.toNat) = ((decide (rd M i < 0) || decide (10000 < rd M i)) || bad 0 10000 (M.drop (i + 1).toNat)) := by rw [drop_rd M i h0 c]; simp [bad]
    rw [eb, ← Bool.or_assoc]
    unfold lp278_1
    rw [evD_loop]
    cases wr
    · by_cases c1 : rd M i < 0
      · simp (disch := omega) [sli, c, ixs_sli, subs, w, c1] at key ⊢
        exact key
      · simp (disch := omega) [sli, c, ixs_sli, subs, w, c1] at key ⊢
        exact key
    · simp (disch := omega) [sli, c, ixs_sli, subs, w] at key ⊢
      exact key

/-- May it not be? -/
def wrongN (L M : List Int) : Bool := decide ((L.length : Int) < 1) || decide (64 < (L.length : Int)) || !decide ((M.length : Int) = L.length - 1)
def wrongF (L M : List Int) : Bool := wrongN L M || bad 1 1073741823 L || bad 0 10000 M

theorem check_ev (L M : List Int) (H : Heap) (hL : L.length ≤ 9223372036854775807) (hM : M.length ≤ 9223372036854775807) : clD EE (.p (.fn 278)) [note L M] H = some (.p (.int .i64 (if wrongF L M = true then 9 else 0)), none) := by
  rw [clD_body _ _ _ _ _ _ (noP _) fn278]
  have k0 := fun wr => chk_lp0 L M H H.length hL _ 0 wr rfl (by omega) (by omega)
  have k1 := fun wr => chk_lp1 M H H.length hM _ 0 wr rfl (by omega) (by omega)
  have w : IntKind.i64.wrap ((L.length : Int) - 1) = L.length - 1 := wrap64_in _ (by omega) (by omega)
  have go : ∀ b : Bool, wrongN L M = b → wrongF L M = (b || bad 1 1073741823 L || bad 0 10000 M) := fun b h => by unfold wrongF; rw [h]
  simp [sli] at k0 k1
  by_cases c1 : (L.length : Int) < 1
  · have hb := go true (by simp [wrongN, c1])
    simp [hb, note, sli, St.enter, enumFrom, subs, c1, k0, k1]
  · by_cases c2 : 64 < (L.length : Int)
    · have hb := go true (by simp [wrongN, c2])
      simp [hb, note, sli, St.enter, enumFrom, subs, c1, c2, k0, k1]
    · by_cases c3 : (M.length : Int) = L.length - 1
      · have hb := go false (by simp [wrongN, c1, c2, c3])
        rw [hb]
        simp only [c3] at k1
        cases h1 : bad 1 1073741823 L <;> cases h2 : bad 0 10000 M <;> simp [note, sli, St.enter, enumFrom, subs, c1, c2, c3, w, k0, k1, h1, h2]
      · have hb := go true (by simp [wrongN, c3])
        simp [hb, note, sli, St.enter, enumFrom, subs, c1, c2, c3, w, k0, k1]
end Go.EnvOf

/- Notes: whether a note may be, by the document. -/
namespace Go.EnvOf
open Go Go.Eng

theorem rchk_lp0 (L M : List Int) (H : Heap) (B : Nat) (hL : L.length ≤ 1000000) : ∀ (n : Nat) (i : Int), ((L.length : Int) - i).toNat = n → 0 ≤ i → i ≤ L.length →
    evD EE lp91_0 ⟨[(1, .lptr 1 0), (3, .p (.int .i64 i))], [(1, [sli L, sli M])], H, B, []⟩ =
      if bad 1 1073741823 (L.drop i.toNat) = true then some (.ret, ⟨[(2, .p (.bool false))], [], H, B, []⟩)
      else some (.exit 0, ⟨[(1, .lptr 1 0), (3, .p (.int .i64 L.length)), (29, .p (.bool false))], [(1, [sli L, sli M])], H, B, []⟩) := by
  intro n
  induction n with
  | zero =>
    intro i hn h0 h1
    have e : i = L.length := by omega
    subst e
    unfold lp91_0
    rw [evD_loop]
    simp [sli, bad, subs]
  | succ n ih =>
    intro i hn h0 h1
    have c : i < (L.length : Int) := by omega
    have w : IntKind.i64.wrap (i + 1) = i + 1 := wrap64_in _ (by omega) (by omega)
    have key := ih (i + 1) (by omega) (by omega) (by omega)
    have eb : bad 1 1073741823 (L.drop i.toNat) = ((decide (rd L i < 1) || decide (1073741823 < rd L i)) || bad 1 1073741823 (L.drop (i + 1).toNat)) := by rw [drop_rd L i h0 c]; simp [bad]
    rw [eb]
    unfold lp91_0
    rw [evD_loop]
    by_cases c1 : rd L i < 1
    · simp (disch := omega) [sli, c, ixs_sli, subs, c1]
    · by_cases c2 : 1073741823 < rd L i
      · simp (disch := omega) [sli, c, ixs_sli, subs, c1, c2]
      · simp (disch := omega) [sli, c, ixs_sli, subs, w, c1, c2] at key ⊢
        exact key

theorem rchk_lp1 (L M : List Int) (H : Heap) (B : Nat) (hM : M.length ≤ 1000000) : ∀ (n : Nat) (i : Int), ((M.length : Int) - i).toNat = n → 0 ≤ i → i ≤ M.length →
    evD EE lp91_1 ⟨[(1, .lptr 1 0), (4, .p (.int .i64 i))], [(1, [sli L, sli M])], H, B, []⟩ =
      if bad 0 10000 (M.drop i.toNat) = true then some (.ret, ⟨[(2, .p (.bool false))], [], H, B, []⟩)
      else some (.exit 2, ⟨[(1, .lptr 1 0), (4, .p (.int .i64 M.length)), (50, .p (.bool false))], [(1, [sli L, sli M])], H, B, []⟩) := by
  intro n
  induction n with
  | zero =>
    intro i hn h0 h1
    have e : i = M.length := by omega
    subst e
    unfold lp91_1
    rw [evD_loop]
    simp [sli, bad, subs]
  | succ n ih =>
    intro i hn h0 h1
    have c : i < (M.length : Int) := by omega
    have w : IntKind.i64.wrap (i + 1) = i + 1 := wrap64_in _ (by omega) (by omega)
    have key := ih (i + 1) (by omega) (by omega) (by omega)
    have eb : bad 0 10000 (M.drop i.toNat) = ((decide (rd M i < 0) || decide (10000 < rd M i)) || bad 0 10000 (M.drop (i + 1).toNat)) := by rw [drop_rd M i h0 c]; simp [bad]
    rw [eb]
    unfold lp91_1
    rw [evD_loop]
    by_cases c1 : rd M i < 0
    · simp (disch := omega) [sli, c, ixs_sli, subs, c1]
    · by_cases c2 : 10000 < rd M i
      · simp (disch := omega) [sli, c, ixs_sli, subs, c1, c2]
      · simp (disch := omega) [sli, c, ixs_sli, subs, w, c1, c2] at key ⊢
        exact key

theorem rcheck_ev (L M : List Int) (H : Heap) (hL : L.length ≤ 1000000) (hM : M.length ≤ 1000000) : clD EE (.p (.fn 91)) [note L M] H = some (.p (.bool (!wrongF L M)), none) := by
  rw [clD_body _ _ _ _ _ _ (noP _) fn91]
  have k0 := rchk_lp0 L M H H.length hL _ 0 rfl (by omega) (by omega)
  have k1 := rchk_lp1 L M H H.length hM _ 0 rfl (by omega) (by omega)
  have w : IntKind.i64.wrap ((L.length : Int) - 1) = L.length - 1 := wrap64_in _ (by omega) (by omega)
  have go : ∀ b : Bool, wrongN L M = b → wrongF L M = (b || bad 1 1073741823 L || bad 0 10000 M) := fun b h => by unfold wrongF; rw [h]
  simp [sli] at k0 k1
  by_cases c1 : (L.length : Int) < 1
  · have hb := go true (by simp [wrongN, c1])
    simp [hb, note, sli, St.enter, enumFrom, subs, c1]
  · by_cases c2 : 64 < (L.length : Int)
    · have hb := go true (by simp [wrongN, c2])
      simp [hb, note, sli, St.enter, enumFrom, subs, c1, c2]
    · by_cases c3 : (M.length : Int) = L.length - 1
      · have hb := go false (by simp [wrongN, c1, c2, c3])
        rw [hb]
        cases h1 : bad 1 1073741823 L <;> cases h2 : bad 0 10000 M <;> simp [h1, h2] at k0 k1 <;> simp [note, sli, St.enter, enumFrom, subs, c1, c2, c3, w, k0, k1]
      · have hb := go true (by simp [wrongN, c3])
        simp [hb, note, sli, St.enter, enumFrom, subs, c1, c2, c3, w]

end Go.EnvOf

/- Notes: the same notes. -/
namespace Go.EnvOf
open Go Go.Eng

end Go.EnvOf

/- Notes: the same by the document; all lines of notes. -/
namespace Go.EnvOf
open Go Go.Eng

/-- A list of notes. -/
def encN (x : List Int × List Int) : List PV := [.sl (x.1.map encI), .sl (x.2.map encI)]
@[simp] theorem encN_len (x : List Int × List Int) : (encN x).length = 2 := rfl
def notes (l : List (List Int × List Int)) : V := .p (.sl (l.map encN))
theorem ixs_notes (H : Heap) (L : List (List Int × List Int)) (k : IntKind) (i : Int) (h0 : 0 ≤ i) (h1 : i < L.length) : ixsI H (.p (.sl (L.map encN))) (.p (.int k i)) 2 = some (.eptr [.p (.sl ((rd L i).1.map encI)), .p (.sl ((rd L i).2.map encI))] 0) :=
  ixs_map H encN L k i 2 (fun _ => rfl) h0 h1

def linesF (l : List (List Int × List Int)) : Int := l.foldr (fun x s => (x.1.length : Int) + s) 0

theorem drop_rd' {α : Type} [Inhabited α] (L : List α) (i : Int) (h0 : 0 ≤ i) (h1 : i < L.length) : L.drop i.toNat = rd L i :: L.drop (i + 1).toNat := by
  have e : (i + 1).toNat = i.toNat + 1 := by omega
  rw [e, List.drop_eq_getElem_cons (by omega)]
  congr 1
  unfold rd
  have : i.toNat < L.length := by omega
  simp [List.getD_eq_getElem?_getD, this]

theorem linesF_nonneg : ∀ l, 0 ≤ linesF l
  | [] => by simp [linesF]
  | x :: r => by have := linesF_nonneg r; simp only [linesF, List.foldr_cons] at this ⊢; omega

theorem lines_lp (l : List (List Int × List Int)) (H : Heap) (Bs : Nat) (hl : l.length ≤ 1000000) : ∀ (n : Nat) (i s : Int), ((l.length : Int) - i).toNat = n → 0 ≤ i → i ≤ l.length → 0 ≤ s → s + linesF (l.drop i.toNat) ≤ 9223372036854775807 →
    evD EE lp63_0 ⟨[(3, .p (.int .i64 s)), (6, notes l), (7, .p (.int .i64 l.length)), (8, .p (.int .i64 i))], [], H, Bs, []⟩ =
      some (.exit 0, ⟨[(3, .p (.int .i64 (s + linesF (l.drop i.toNat)))), (6, notes l), (7, .p (.int .i64 l.length)), (8, .p (.int .i64 l.length)), (9, .p (.bool false))], [], H, Bs, []⟩) := by
  intro n
  induction n with
  | zero =>
    intro i s hn h0 h1 h2 h3
    have e : i = l.length := by omega
    subst e
    unfold lp63_0
    rw [evD_loop]
    simp [notes, linesF]
  | succ n ih =>
    intro i s hn h0 h1 h2 h3
    have c : i < (l.length : Int) := by omega
    have w : IntKind.i64.wrap (i + 1) = i + 1 := wrap64_in _ (by omega) (by omega)
    have hd := drop_rd' l i h0 c
    have hs : linesF (l.drop i.toNat) = ((rd l i).1.length : Int) + linesF (l.drop (i + 1).toNat) := by rw [hd]; rfl
    have hnn := linesF_nonneg (l.drop (i + 1).toNat)
    have w2 : IntKind.i64.wrap (s + ((rd l i).1.length : Int)) = s + ((rd l i).1.length : Int) := wrap64_in _ (by omega) (by omega)
    have key := ih (i + 1) (s + ((rd l i).1.length : Int)) (by omega) (by omega) (by omega) (by omega) (by omega)
    have e2 : s + linesF (l.drop i.toNat) = s + ((rd l i).1.length : Int) + linesF (l.drop (i + 1).toNat) := by omega
    rw [e2]
    unfold lp63_0
    rw [evD_loop]
    simp (disch := omega) [notes, c, ixs_notes, subs, setSubs, w, w2] at key ⊢
    exact key

theorem lines_ev (l : List (List Int × List Int)) (H : Heap) (hl : l.length ≤ 1000000) (hs : linesF l ≤ 9223372036854775807) : clD EE (.p (.fn 63)) [notes l] H = some (.p (.int .i64 (linesF l)), none) := by
  rw [clD_body _ _ _ _ _ _ (noP _) fn63]
  have key := lines_lp l H H.length hl _ 0 0 rfl (by omega) (by omega) (by omega) (by simpa using hs)
  simp [notes] at key
  simp [notes, St.enter, enumFrom, key]
end Go.EnvOf

/- Notes: the same by the document. -/
namespace Go.EnvOf
open Go Go.Eng

end Go.EnvOf

/- The same jobs. -/
namespace Go.EnvOf
open Go Go.Eng

/-! ### Notes, pair by pair -/
/-! ### By the document -/
end Go.EnvOf

/- States: their fields, and their order. -/
namespace Go.EnvOf
open Go Go.Eng
set_option maxRecDepth 100000
structure Stt where
  at_ : Int
  col : Int
  note : Int
  line : Int
  h : C3
  deriving Inhabited, DecidableEq
abbrev vStt (s : Stt) : V := .agg [vI s.at_, vI s.col, vI s.note, vI s.line, vI s.h.a, vI s.h.b, vI s.h.c]
end Go.EnvOf
