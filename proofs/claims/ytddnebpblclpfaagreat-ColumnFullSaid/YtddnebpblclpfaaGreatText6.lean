/- The program's functions and the document's, evaluated. -/
import Derived.KernelRfl
import Derived.Test.YtddnebpblclpfaaGreatText2
import Derived.Test.YtddnebpblclpfaaGreatText5
import Derived.Test.YtddnebpblclpfaaGreatText4
import Derived.Test.YtddnebpblclpfaaGreatText3
set_option linter.unusedSimpArgs false
set_option linter.unusedVariables false
/- The law ValidAnchors, evaluated. -/
namespace Go.EnvOf
open Go Go.Eng
set_option maxRecDepth 100000

end Go.EnvOf

/- The law ValidTells, evaluated. -/
namespace Go.EnvOf
open Go Go.Eng
set_option maxRecDepth 100000

theorem snap_floats {j : Job} (h : j.floats.length ≤ 1000000) : (snapG j).floats.length ≤ 1000000 := by
  unfold snapG; split
  · exact h
  · simpa using h
end Go.EnvOf

/- Fewer items: what remains of the anchors. -/
namespace Go.EnvOf
open Go Go.Eng

def cnt (k : Int) (l : List Item) : Nat := (l.filter fun x => decide (x.k = k)).length
theorem cnt_cons (k : Int) (x : Item) (r : List Item) : cnt k (x :: r) = (if x.k = k then 1 else 0) + cnt k r := by
  unfold cnt
  by_cases h : x.k = k
  · simp [h]; omega
  · simp [h]
theorem refF_all (k : Int) (most : Nat) : ∀ (l : List Item) (i n : Nat), n ≤ most → refF k most i n l < 0 → n + cnt k l = most
  | [], i, n, hn, h => by
    simp only [refF] at h
    by_cases c : n < most
    · rw [if_pos c] at h; omega
    · simp [cnt]; omega
  | x :: r, i, n, hn, h => by
    simp only [refF] at h
    rw [cnt_cons]
    by_cases hk : x.k = k
    · rw [if_pos hk] at h ⊢
      by_cases hx : x.n = n ∧ n < most
      · rw [if_pos hx] at h
        have := refF_all k most r (i + 1) (n + 1) (by omega) h
        omega
      · rw [if_neg hx] at h; omega
    · rw [if_neg hk] at h ⊢
      have := refF_all k most r (i + 1) n hn h
      omega
theorem cnt_take_le (k : Int) (l : List Item) (m : Nat) : cnt k (l.take m) ≤ cnt k l := by
  unfold cnt
  conv => rhs; rw [← List.take_append_drop m l, List.filter_append, List.length_append]
  omega
theorem idxF_neg {α : Type} {p : α → Bool} {l : List α} (h : idxF p 0 l < 0) : ∀ x ∈ l, p x = false := by
  have := idxF_any p 0 l
  have h2 : l.any p = false := by rw [← this]; simp; omega
  intro x hx
  have := List.any_eq_false.1 h2 x hx
  simpa using this
theorem idxF_of {α : Type} {p : α → Bool} {l : List α} (h : ∀ x ∈ l, p x = false) : idxF p 0 l < 0 := by
  have := idxF_any p 0 l
  have h2 : l.any p = false := by rw [List.any_eq_false]; intro x hx; rw [h x hx]; simp
  rw [h2] at this
  simp at this; exact this

/-- What it means that a job may be. -/
structure Right (j : Job) : Prop where
  n1 : (j.items.length : Int) ≤ 4096
  n2 : (j.floats.length : Int) ≤ 256
  n3 : (j.notes.length : Int) ≤ 512
  g : geomF j.g = 0
  items : ∀ x ∈ j.items, rightF x = true
  notes : ∀ x ∈ j.notes, wrongF x.lines x.pens = false
  floats : ∀ x ∈ j.floats, floatOK x = true
  r5 : refF 5 j.notes.length 0 0 j.items < 0
  r6 : refF 6 j.floats.length 0 0 j.items < 0
  tall : ∀ f ∈ (snapG j).floats, ¬ (snapG j).g.first < f.h
theorem right_iff (j : Job) : (checkF j).1 = 0 ↔ Right j := by
  rw [← rcheck_eq]
  constructor
  · intro h
    unfold rcheckF at h
    split at h
    · cases h
    split at h
    · cases h
    split at h
    · cases h
    split at h
    · rename_i hg; exact absurd h hg
    split at h
    · cases h
    split at h
    · cases h
    split at h
    · cases h
    split at h
    · cases h
    split at h
    · cases h
    split at h
    · cases h
    rename_i a1 a2 a3 a4 a5 a6 a7 a8 a9 a10
    refine ⟨by omega, by omega, by omega, by omega, fun x hx => ?_, fun x hx => ?_, fun x hx => ?_, by omega, by omega, fun f hf => ?_⟩
    · simpa using idxF_neg (p := fun x => !rightF x) (by omega) x hx
    · exact idxF_neg (p := fun x : Note => wrongF x.lines x.pens) (by omega) x hx
    · simpa using idxF_neg (p := fun x => !floatOK x) (by omega) x hx
    · have : tallF j < 0 := by omega
      simpa using idxF_neg this f hf
  · intro r
    have i1 := idxF_of (p := fun x => !rightF x) (l := j.items) fun x hx => by rw [r.items x hx]; rfl
    have i2 := idxF_of (p := fun x : Note => wrongF x.lines x.pens) (l := j.notes) r.notes
    have i3 := idxF_of (p := fun x => !floatOK x) (l := j.floats) fun x hx => by rw [r.floats x hx]; rfl
    have i4 : tallF j < 0 := idxF_of fun f hf => by simpa using r.tall f hf
    have a1 := r.n1
    have a2 := r.n2
    have a3 := r.n3
    have a4 := r.g
    have a5 := r.r5
    have a6 := r.r6
    unfold rcheckF
    rw [if_neg (by omega), if_neg (by omega), if_neg (by omega), if_neg (by omega), if_neg (by omega), if_neg (by omega), if_neg (by omega), if_neg (by omega), if_neg (by omega), if_neg (by omega)]
end Go.EnvOf

/- The layer split: what follows pieces of notes, how high they are, how many lines they have. -/
namespace Go.EnvOf
open Go Go.Eng
set_option maxRecDepth 100000

structure Piece where
  n : Int
  frm : Int
  to : Int
  deriving Inhabited, DecidableEq
def encPiece (x : Piece) : List PV := [.int .i64 x.n, .int .i64 x.frm, .int .i64 x.to]
@[simp] theorem encPiece_len (x : Piece) : (encPiece x).length = 3 := rfl
abbrev vPieces (l : List Piece) : V := .p (.sl (l.map encPiece))
structure Spot where
  note : Int
  line : Int
  begun : Int
  fresh : Bool
  deriving Inhabited, DecidableEq
abbrev vSpot (s : Spot) : V := .agg [vI s.note, vI s.line, vI s.begun, vB s.fresh]

/-! ### More than is gone through -/
def badPiece (x : Piece) : Bool := decide (x.frm < -1073741824) || decide (1073741824 < x.to) || decide (1073741824 < x.frm) || decide (x.to < -1073741824)
/-! ### What follows -/
def nextP (l : List Note) (x : Piece) : Int × Int := if 0 ≤ x.n ∧ x.n < l.length ∧ x.to = (rd l x.n).lines.length then (x.n + 1, 0) else (x.n, x.to)
def nextF (l : List Note) (s : Spot) (p : List Piece) : Int × Int := match p.getLast? with
  | none => (s.note, s.line)
  | some x => nextP l x
theorem last_ix {α : Type} (enc : α → List PV) (s : Nat) (hs : ∀ x, (enc x).length = s) {p : List α} {x : α} (h : p.getLast? = some x) (H : Heap) (k : IntKind) : ixsI H (.p (.sl (p.map enc))) (.p (.int k ((p.length : Int) - 1))) s = some (.eptr ((enc x).map .p) 0) := by
  have hp : p ≠ [] := fun e => by subst e; simp at h
  have hl : 0 < p.length := List.length_pos_iff.2 hp
  have e : ((p.length : Int) - 1).toNat = p.length - 1 := by omega
  refine ixs_int H enc (by omega) ?_ (hs x)
  rw [e, ← List.getLast?_eq_getElem?]; exact h
theorem splitNext_ev (l : List Note) (s : Spot) (p : List Piece) (hl : l.length ≤ 1000000) (hp : p.length ≤ 1000000) (H : Heap) : clD EE (.p (.fn 66)) [vNotes l, vSpot s, vPieces p] H = some (.tup [vI (nextF l s p).1, vI (nextF l s p).2], none) := by
  rw [clD_body _ _ _ _ _ _ (noP _) fn66]
  unfold nextF
  cases hx : p.getLast? with
  | none =>
    have : p = [] := by simpa using hx
    subst this
    simp [St.enter, enumFrom, subs]
  | some x =>
    have hp0 : p ≠ [] := fun e => by subst e; simp at hx
    have hlen : ¬ p.length = 0 := by simpa using hp0
    have hpos : 0 < p.length := by omega
    have w1 : IntKind.i64.wrap ((p.length : Int) - 1) = (p.length : Int) - 1 := w64 (by omega) (by omega)
    have hix := fun H k => last_ix encPiece 3 (fun _ => rfl) hx H k
    simp only [encPiece] at hix
    simp only [nextP]
    by_cases a : 0 ≤ x.n
    · by_cases b : x.n < (l.length : Int)
      · have hin := fun H k => ixs_map H encNote l k x.n 2 (fun _ => rfl) a b
        simp only [encNote] at hin
        have w2 : IntKind.i64.wrap (x.n + 1) = x.n + 1 := w64 (by omega) (by omega)
        by_cases c : x.to = ((rd l x.n).lines.length : Int)
        · simp [St.enter, enumFrom, subs, setSubs, hp0, w1, hix, a, b, hin, c, w2]
        · simp [St.enter, enumFrom, subs, setSubs, hp0, w1, hix, a, b, hin, c]
      · simp [St.enter, enumFrom, subs, setSubs, hp0, w1, hix, a, b]
    · simp [St.enter, enumFrom, subs, setSubs, hp0, w1, hix, a]
/-! ### How high -/
def hiStep (l : List Note) (s : Int) (x : Piece) : Int := if 0 ≤ x.n ∧ x.n < l.length then min (s + highF (rd l x.n).lines x.frm x.to) far else s
def highP (l : List Note) (p : List Piece) (rule : Int) : Int := if p = [] then 0 else p.foldl (hiStep l) (min (max rule 0) far)
theorem highF_lo (L : List Int) (a b : Int) : 0 ≤ highF L a b := hsum_lo _ (Int.le_refl _)
theorem highF_hi (L : List Int) (a b : Int) : highF L a b ≤ far := hsum_hi _ (by unfold far; omega)
theorem hiStep_in (l : List Note) {s : Int} (x : Piece) (h : 0 ≤ s ∧ s ≤ far) : 0 ≤ hiStep l s x ∧ hiStep l s x ≤ far := by
  unfold hiStep
  have h1 := highF_lo (rd l x.n).lines x.frm x.to
  have h2 := highF_hi (rd l x.n).lines x.frm x.to
  unfold far at *
  split <;> omega
def shE (l : List Note) (p : List Piece) (H : Heap) (s : Int) (i : Nat) : St := ⟨[(0, vNotes l), (7, vI s), (16, vPieces p), (17, vI p.length), (18, vI i)], [], H, H.length, []⟩
def shX (l : List Note) (p : List Piece) (H : Heap) (s : Int) : Ex × St := (.exit 0, ⟨[(0, vNotes l), (7, vI s), (16, vPieces p), (17, vI p.length), (18, vI p.length), (19, vB false)], [], H, H.length, []⟩)
theorem foldI {α : Type} (f : Int → α → Int) : ∀ (l : List α) (s : Int) (i : Nat), fold (fun s _ x => f s x) s i l = l.foldl f s
  | [], _, _ => rfl
  | x :: r, s, i => by simp only [fold, List.foldl_cons]; exact foldI f r _ _
abbrev linesOK (l : List Note) : Prop := ∀ n ∈ l, n.lines.length ≤ 1000000
theorem srd_mem {α : Type} [Inhabited α] {l : List α} {i : Int} (h0 : 0 ≤ i) (h1 : i < l.length) : rd l i ∈ l := List.mem_of_getElem? (rd_get l i h0 h1)
theorem splitHigh_lp (l : List Note) (p : List Piece) (hl : linesOK l) (hp : p.length ≤ 1000000) (H : Heap) (s : Int) (hs : 0 ≤ s ∧ s ≤ far) : evD EE lp118_0 (shE l p H s 0) = some (shX l p H (p.foldl (hiStep l) s)) := by
  unfold lp118_0
  refine Eq.trans (evD_fold (E := EE) p (fun s i => shE l p H s i) (fun s _ => 0 ≤ s ∧ s ≤ far) (fun s _ x => hiStep l s x) (fun s => shX l p H s) (fun _ _ => rfl) ?_ ?_ s 0 hs (Nat.zero_le _)) (by rw [List.drop_zero, foldI])
  · rintro s i x hs hx
    refine ⟨?_, hiStep_in l x hs⟩
    have hlt := (List.getElem?_eq_some_iff.1 hx).1
    have w1 : IntKind.i64.wrap ((i : Int) + 1) = ((i + 1 : Nat) : Int) := w64 (by omega) (by omega)
    have hix := fun H k => ixs_nat H encPiece (k := k) (s := 3) hx rfl
    simp only [encPiece] at hix
    unfold hiStep
    by_cases a : 0 ≤ x.n
    · by_cases b : x.n < (l.length : Int)
      · have hin := fun H k => ixs_map H encNote l k x.n 2 (fun _ => rfl) a b
        simp only [encNote] at hin
        have hh := high_ev (rd l x.n).lines (rd l x.n).pens x.frm x.to H (by have := hl _ (srd_mem a b); omega)
        simp only [note] at hh
        have h1 := highF_lo (rd l x.n).lines x.frm x.to
        have h2 := highF_hi (rd l x.n).lines x.frm x.to
        have w2 : IntKind.i64.wrap (s + highF (rd l x.n).lines x.frm x.to) = s + highF (rd l x.n).lines x.frm x.to := w64 (by unfold far at *; omega) (by unfold far at *; omega)
        simp [shE, hlt, hix, subs, setSubs, a, b, hin, hh, w1, w2, far]
      · simp [shE, hlt, hix, subs, setSubs, a, b, w1]
    · simp [shE, hlt, hix, subs, setSubs, a, w1]
  · rintro s -
    refine ⟨?_, by simp [shX]⟩
    simp [shE, shX]
theorem splitHigh_ev (l : List Note) (p : List Piece) (rule : Int) (hl : linesOK l) (hp : p.length ≤ 1000000) (H : Heap) : clD EE (.p (.fn 118)) [vNotes l, vPieces p, vI rule] H = some (vI (highP l p rule), none) := by
  rw [clD_body _ _ _ _ _ _ (noP _) fn118]
  have key := splitHigh_lp l p hl hp H (min (max rule 0) far) (by unfold far; omega)
  simp only [shE, shX, far] at key
  unfold highP
  by_cases h : p = []
  · subst h; simp [St.enter, enumFrom]
  · simp at key
    simp [St.enter, enumFrom, h, key, far]
/-! ### How many lines -/
/-! ### The same pieces -/
end Go.EnvOf

/- Worlds: the plain law (trimming, anchors). -/
namespace Go.EnvOf
open Go Go.Eng
set_option maxRecDepth 100000
def looseI (x : Item) : Bool := decide (x.k = 2) || decide (x.k = 3)
/-- Does the item stay, or does the list end? -/
def stayB (l : List Item) (n : Nat) : Bool := match l[n]? with | some x => !looseI x | none => true
/-- The first place from one on at which something holds, of so many. -/
def seekP (p : Nat → Bool) : Nat → Nat → Int
  | 0, _ => -1
  | k + 1, n => if p n = true then n else seekP p k (n + 1)
def trimN (l : List Item) (a : Nat) : Nat := a + ((l.drop a).takeWhile looseI).length
theorem trimN_loose {l : List Item} {a : Nat} {x : Item} (hx : l[a]? = some x) (h : looseI x = true) : trimN l a = trimN l (a + 1) := by
  obtain ⟨hl, rfl⟩ := List.getElem?_eq_some_iff.1 hx
  unfold trimN
  rw [List.drop_eq_getElem_cons hl, List.takeWhile_cons, if_pos h]
  simp only [List.length_cons]; omega
theorem trimN_stay {l : List Item} {a : Nat} (h : stayB l a = true) : trimN l a = a := by
  unfold trimN stayB at *
  cases hx : l[a]? with
  | none =>
    have : l.length ≤ a := by simpa using hx
    rw [List.drop_eq_nil_of_le this]; simp
  | some x =>
    rw [hx] at h
    obtain ⟨hl, rfl⟩ := List.getElem?_eq_some_iff.1 hx
    rw [List.drop_eq_getElem_cons hl, List.takeWhile_cons, if_neg (by simpa using h)]
    simp
theorem stay_not {l : List Item} {a : Nat} (h : stayB l a = false) : ∃ x, l[a]? = some x ∧ looseI x = true := by
  unfold stayB at h
  cases hx : l[a]? with
  | none => rw [hx] at h; simp at h
  | some x => rw [hx] at h; exact ⟨x, rfl, by simpa using h⟩
theorem seek_trim (l : List Item) : ∀ (k a : Nat), a ≤ l.length → l.length + 1 - a = k → seekP (stayB l) k a = trimN l a
  | 0, a, h, hk => by omega
  | k + 1, a, h, hk => by
    simp only [seekP]
    cases hs : stayB l a with
    | true => rw [if_pos rfl, trimN_stay hs]
    | false =>
      obtain ⟨x, hx, hl⟩ := stay_not hs
      have hlt := (List.getElem?_eq_some_iff.1 hx).1
      rw [if_neg (by simp), seek_trim l k (a + 1) (by omega) (by omega), trimN_loose hx hl]
/-- A number brought into a list. -/
def putN (l : List Item) (n : Int) : Nat := (min (max n 0) l.length).toNat
theorem putN_le (l : List Item) (n : Int) : putN l n ≤ l.length := by unfold putN; omega
theorem putN_of {l : List Item} {n : Nat} (h : n ≤ l.length) : putN l n = n := by unfold putN; omega
def trimF (l : List Item) (n : Int) : Nat := trimN l (putN l n)
/-! ### Anchors -/
def begunP (l : List Item) : Int := cnt 5 l
def addAt (fs : List Float) (c : C3) (x : Item) : C3 := if x.k = 6 then ofS fs c x.n else c
def aheadP (fs : List Float) (l : List Item) : C3 := l.foldl (addAt fs) ⟨0, 0, 0⟩
def dueS (fs : List Float) (s : C3 × C3) (x : Item) : C3 × C3 := (addAt fs s.1 x, if x.k = 7 then s.1 else s.2)
def dueP (fs : List Float) (l : List Item) : C3 := (l.foldl (dueS fs) (⟨0, 0, 0⟩, ⟨0, 0, 0⟩)).2
theorem due_fst (fs : List Float) (l : List Item) : ∀ s : C3 × C3, (l.foldl (dueS fs) s).1 = l.foldl (addAt fs) s.1 := by
  induction l with
  | nil => intro s; rfl
  | cons x r ih => intro s; simp only [List.foldl_cons, ih]; rfl
theorem take_snoc {α : Type} {l : List α} {i : Nat} {x : α} (h : l[i]? = some x) : l.take (i + 1) = l.take i ++ [x] := by rw [List.take_add_one, h]; rfl
theorem begunP_snoc (l : List Item) (x : Item) : begunP (l ++ [x]) = begunP l + if x.k = 5 then 1 else 0 := by
  unfold begunP cnt
  by_cases h : x.k = 5 <;> simp [List.filter_append, h]
theorem aheadP_snoc (fs : List Float) (l : List Item) (x : Item) : aheadP fs (l ++ [x]) = addAt fs (aheadP fs l) x := by simp [aheadP]
theorem dueP_snoc (fs : List Float) (l : List Item) (x : Item) : dueP fs (l ++ [x]) = if x.k = 7 then aheadP fs l else dueP fs l := by
  simp only [dueP, List.foldl_append, List.foldl_cons, List.foldl_nil, dueS, due_fst]; rfl
theorem begunP_bd (l : List Item) : 0 ≤ begunP l ∧ begunP l ≤ l.length := by
  unfold begunP cnt
  have := List.length_filter_le (fun x : Item => decide (x.k = 5)) l
  omega
theorem addAt_bd (fs : List Float) (c : C3) (x : Item) (m : Int) (h : 0 ≤ c.a ∧ 0 ≤ c.b ∧ 0 ≤ c.c ∧ c.a ≤ m ∧ c.b ≤ m ∧ c.c ≤ m) :
    0 ≤ (addAt fs c x).a ∧ 0 ≤ (addAt fs c x).b ∧ 0 ≤ (addAt fs c x).c ∧ (addAt fs c x).a ≤ m + 1 ∧ (addAt fs c x).b ≤ m + 1 ∧ (addAt fs c x).c ≤ m + 1 := by
  unfold addAt ofS bump
  (repeat' split) <;> (try simp only) <;> omega
theorem aheadP_bd (fs : List Float) (l : List Item) : 0 ≤ (aheadP fs l).a ∧ 0 ≤ (aheadP fs l).b ∧ 0 ≤ (aheadP fs l).c ∧ (aheadP fs l).a ≤ l.length ∧ (aheadP fs l).b ≤ l.length ∧ (aheadP fs l).c ≤ l.length := by
  have key : ∀ (l : List Item) (c : C3) (m : Int), (0 ≤ c.a ∧ 0 ≤ c.b ∧ 0 ≤ c.c ∧ c.a ≤ m ∧ c.b ≤ m ∧ c.c ≤ m) →
      0 ≤ (l.foldl (addAt fs) c).a ∧ 0 ≤ (l.foldl (addAt fs) c).b ∧ 0 ≤ (l.foldl (addAt fs) c).c ∧ (l.foldl (addAt fs) c).a ≤ m + l.length ∧ (l.foldl (addAt fs) c).b ≤ m + l.length ∧ (l.foldl (addAt fs) c).c ≤ m + l.length := by
    intro l
    induction l with
    | nil => intro c m h; simpa using h
    | cons x r ih =>
      intro c m h
      have h1 := ih (addAt fs c x) (m + 1) (addAt_bd fs c x m h)
      simp only [List.foldl_cons, List.length_cons]
      omega
  have := key l ⟨0, 0, 0⟩ 0 (by simp)
  simpa [aheadP] using this
/-- What belongs to each place of a list. -/
def preL {α : Type} (f : List Item → α) (l : List Item) (n : Nat) : List α := (List.range n).map fun k => f (l.take k)
theorem preL_len {α : Type} (f : List Item → α) (l : List Item) (n : Nat) : (preL f l n).length = n := by simp [preL]
theorem preL_succ {α : Type} (f : List Item → α) (l : List Item) (n : Nat) : preL f l (n + 1) = preL f l n ++ [f (l.take n)] := by simp [preL, List.range_succ]
theorem preL_get {α : Type} (f : List Item → α) (l : List Item) (n i : Nat) (h : i < n) : (preL f l n)[i]? = some (f (l.take i)) := by simp [preL, h]
/-! ### The numbers of notes' lines -/
def lineN (l : List Note) : Int := (l.map fun n => (n.lines.length : Int)).sum
/-! ### States -/
def begunF (j : Job) (n : Int) : Int := begunP (j.items.take (putN j.items n))
def aheadF (j : Job) (n : Int) : C3 := aheadP j.floats (j.items.take (putN j.items n))
def carriesF (j : Job) (s : Stt) : Bool :=
  if s.line = 0 then decide (s.note = begunF j s.at_) else
  if s.note ≠ begunF j s.at_ - 1 ∨ s.note < 0 ∨ s.line < 1 then false else
  decide (s.line < (rd j.notes s.note).lines.length) && mayF (rd j.notes s.note).lines (rd j.notes s.note).pens s.line
def zeroC : C3 := ⟨0, 0, 0⟩
def rightS (j : Job) (s : Stt) : Bool :=
  if s.at_ < 0 ∨ (j.items.length : Int) < s.at_ ∨ (trimF j.items s.at_ : Int) ≠ s.at_ ∨ s.col < 0 ∨ j.g.cols < s.col then false else
  carriesF j s && inC zeroC s.h && inC s.h (aheadF j s.at_)
def allS (j : Job) : C3 := aheadP j.floats j.items
def highS (j : Job) (s : Stt) : Int := if rightS j s = true then (if s.col < j.g.cols then j.g.first else j.g.high) else 0
def spotS (j : Job) (s : Stt) (to : Int) : Spot := if rightS j s = true then ⟨s.note, s.line, begunF j to, decide (begunF j s.at_ < begunF j to)⟩ else ⟨0, 0, 0, false⟩
def waitsS (j : Job) (s : Stt) : C3 := if rightS j s = true then readyC s.h (aheadF j s.at_) else zeroC
end Go.EnvOf

/- Totals of lists: the plain law. -/
namespace Go.EnvOf
open Go Go.Eng
set_option maxRecDepth 100000
structure Tot where
  nat : Int
  s0 : Int
  s1 : Int
  s2 : Int
  s3 : Int
  shr : Int
  deriving Inhabited, DecidableEq
def encTot (t : Tot) : List PV := [.int .i64 t.nat, .int .i64 t.s0, .int .i64 t.s1, .int .i64 t.s2, .int .i64 t.s3, .int .i64 t.shr]
@[simp] theorem encTot_len (t : Tot) : (encTot t).length = 6 := rfl
abbrev vTot (t : Tot) : V := .agg [vI t.nat, vI t.s0, vI t.s1, vI t.s2, vI t.s3, vI t.shr]
def zeroT : Tot := ⟨0, 0, 0, 0, 0, 0⟩
def addT (a b : Tot) : Tot := ⟨a.nat + b.nat, a.s0 + b.s0, a.s1 + b.s1, a.s2 + b.s2, a.s3 + b.s3, a.shr + b.shr⟩
def subT (a b : Tot) : Tot := ⟨a.nat - b.nat, a.s0 - b.s0, a.s1 - b.s1, a.s2 - b.s2, a.s3 - b.s3, a.shr - b.shr⟩
def glueT (h str ord shr : Int) : Tot := ⟨h, if ord = 0 then str else 0, if ord = 1 then str else 0, if ord = 2 then str else 0, if ord = 3 then str else 0, shr⟩
def totI (x : Item) : Tot := if x.k = 1 then ⟨x.h, 0, 0, 0, 0, 0⟩ else if x.k = 2 then glueT x.h x.str x.ord x.shr else zeroT
def totP (l : List Item) : Tot := l.foldl (fun t x => addT t (totI x)) zeroT
theorem totP_snoc (l : List Item) (x : Item) : totP (l ++ [x]) = addT (totP l) (totI x) := by simp [totP]
def boxI1 (x : Item) : Int := if x.k = 1 then x.h else 0
def boxP (l : List Item) : Int := l.foldl (fun t x => t + boxI1 x) 0
theorem boxP_snoc (l : List Item) (x : Item) : boxP (l ++ [x]) = boxP l + boxI1 x := by simp [boxP]
structure inT (m : Int) (t : Tot) : Prop where
  nat : 0 ≤ t.nat ∧ t.nat ≤ m
  s0 : 0 ≤ t.s0 ∧ t.s0 ≤ m
  s1 : 0 ≤ t.s1 ∧ t.s1 ≤ m
  s2 : 0 ≤ t.s2 ∧ t.s2 ≤ m
  s3 : 0 ≤ t.s3 ∧ t.s3 ≤ m
  shr : 0 ≤ t.shr ∧ t.shr ≤ m
theorem inT_zero : inT 0 zeroT := by constructor <;> simp [zeroT]
theorem inT_add {m k : Int} {a b : Tot} (ha : inT m a) (hb : inT k b) : inT (m + k) (addT a b) := by
  obtain ⟨⟨a1, a2⟩, ⟨a3, a4⟩, ⟨a5, a6⟩, ⟨a7, a8⟩, ⟨a9, b1⟩, ⟨b2, b3⟩⟩ := ha
  obtain ⟨⟨c1, c2⟩, ⟨c3, c4⟩, ⟨c5, c6⟩, ⟨c7, c8⟩, ⟨c9, d1⟩, ⟨d2, d3⟩⟩ := hb
  constructor <;> simp only [addT] <;> omega
/-- An item whose lengths may be, on a grid. -/
structure fairI (x : Item) : Prop where
  h : 0 ≤ x.h ∧ x.h ≤ 4294967296
  str : 0 ≤ x.str ∧ x.str ≤ 4294967296
  shr : 0 ≤ x.shr ∧ x.shr ≤ 4294967296
theorem totI_in {x : Item} (f : fairI x) : inT 4294967296 (totI x) := by
  have a := f.h
  have b := f.str
  have c := f.shr
  unfold totI
  split
  · constructor <;> simp only <;> omega
  · split
    · unfold glueT; constructor <;> simp only <;> first | omega | (split <;> omega)
    · constructor <;> simp [zeroT]
theorem totP_in : ∀ (l : List Item), (∀ x ∈ l, fairI x) → inT (4294967296 * l.length) (totP l) := by
  have key : ∀ (l : List Item) (t : Tot) (m : Int), inT m t → (∀ x ∈ l, fairI x) → inT (m + 4294967296 * l.length) (l.foldl (fun t x => addT t (totI x)) t) := by
    intro l
    induction l with
    | nil => intro t m h _; simpa using h
    | cons x r ih =>
      intro t m h hf
      have h1 := ih _ _ (inT_add h (totI_in (hf x List.mem_cons_self))) fun y hy => hf y (List.mem_cons_of_mem _ hy)
      simp only [List.foldl_cons, List.length_cons]
      have e : m + 4294967296 * ((r.length + 1 : Nat) : Int) = m + 4294967296 + 4294967296 * r.length := by simp only [Int.natCast_add, Int.natCast_one]; omega
      rw [e]; exact h1
  intro l hf
  have := key l zeroT 0 inT_zero hf
  simpa [totP] using this
theorem boxI1_in {x : Item} (f : fairI x) : 0 ≤ boxI1 x ∧ boxI1 x ≤ 4294967296 := by
  have := f.h
  unfold boxI1; split <;> omega
theorem boxP_in : ∀ (l : List Item), (∀ x ∈ l, fairI x) → 0 ≤ boxP l ∧ boxP l ≤ 4294967296 * l.length := by
  have key : ∀ (l : List Item) (t m : Int), 0 ≤ t → t ≤ m → (∀ x ∈ l, fairI x) → 0 ≤ l.foldl (fun t x => t + boxI1 x) t ∧ l.foldl (fun t x => t + boxI1 x) t ≤ m + 4294967296 * l.length := by
    intro l
    induction l with
    | nil => intro t m h h2 _; simp; omega
    | cons x r ih =>
      intro t m h h2 hf
      have hx := boxI1_in (hf x List.mem_cons_self)
      have h1 := ih (t + boxI1 x) (m + 4294967296) (by omega) (by omega) fun y hy => hf y (List.mem_cons_of_mem _ hy)
      simp only [List.foldl_cons, List.length_cons]
      have e : m + 4294967296 * ((r.length + 1 : Nat) : Int) = m + 4294967296 + 4294967296 * r.length := by simp only [Int.natCast_add, Int.natCast_one]; omega
      rw [e]; exact h1
  intro l hf
  have := key l 0 0 (by omega) (by omega) hf
  simpa [boxP] using this
theorem near_bound {n s : Int} (h0 : 0 ≤ n) (h1 : n ≤ 1073741823) (h2 : s ≤ 1073741823) : 0 ≤ nearG n s ∧ nearG n s ≤ 4294967296 := by
  unfold nearG
  split
  · omega
  · split
    · exact down_bound h0 h1 (by omega) h2
    · exact up_bound h0 h1 (by omega) h2
theorem wfair_item {x : Item} (h : rightF x = true) : fairI x := by
  simp [rightF, Bool.and_eq_true, lenOK, decide_eq_true_eq] at h
  constructor <;> omega
theorem fair_itemG {x : Item} {s : Int} (h : rightF x = true) (h1 : 1 ≤ s) (h2 : s ≤ 1073741823) : fairI (itemG s x) := by
  have f := wfair_item h
  simp [rightF, Bool.and_eq_true, lenOK, decide_eq_true_eq] at h
  unfold itemG
  split
  · exact ⟨up_bound (by omega) (by omega) h1 h2, f.str, f.shr⟩
  · split
    · exact ⟨near_bound (by omega) (by omega) h2, by simp, by simp⟩
    · exact f
theorem geom_grid {g : Geom} (h : geomF g = 0) : 0 ≤ g.grid ∧ g.grid ≤ 536870912 ∧ 1 ≤ g.cols ∧ g.cols ≤ 8 ∧ 1 ≤ g.high ∧ g.high ≤ 1073741823 ∧ 0 ≤ g.rule ∧ g.rule ≤ 536870912 ∧ 0 ≤ g.sep ∧ g.sep ≤ 536870912 := by
  unfold geomF at h
  by_cases q1 : inR 1 8 [g.cols] = false
  · rw [if_pos q1] at h; omega
  rw [if_neg q1] at h
  by_cases q2 : inR 1 1073741823 [g.wide, g.high] = false
  · rw [if_pos q2] at h; omega
  rw [if_neg q2] at h
  by_cases q3 : inR 0 1073741823 [g.gap, g.noteMost, g.topMost, g.botMost] = false
  · rw [if_pos q3] at h; omega
  rw [if_neg q3] at h
  by_cases q4 : inR 0 536870912 [g.rule, g.sep, g.grid] = false
  · rw [if_pos q4] at h; omega
  have a1 := inR_of q1 g.cols (by simp)
  have a2 := inR_of q2 g.high (by simp)
  have a3 := inR_of q4 g.grid (by simp)
  have a4 := inR_of q4 g.rule (by simp)
  have a5 := inR_of q4 g.sep (by simp)
  omega
theorem snap_fair {j : Job} (r : Right j) : ∀ x ∈ (snapG j).items, fairI x := by
  have hg := geom_grid r.g
  unfold snapG
  split
  · exact fun x hx => wfair_item (r.items x hx)
  · intro x hx
    obtain ⟨y, hy, rfl⟩ := List.mem_map.1 hx
    exact fair_itemG (r.items y hy) (by omega) (by omega)
end Go.EnvOf

/- Worlds: the start, the next state (the plain law). -/
namespace Go.EnvOf
open Go Go.Eng
set_option maxRecDepth 100000
structure Colm where
  k : Int
  frm : Int
  to : Int
  notes : List Piece
  top : List Int
  bot : List Int
  deriving Inhabited, DecidableEq
abbrev vColm (c : Colm) : V := .agg [vI c.k, vI c.frm, vI c.to, vPieces c.notes, sli c.top, sli c.bot]
def zeroS : Stt := ⟨0, 0, 0, 0, ⟨0, 0, 0⟩⟩
def nextS (j : Job) (s : Stt) (c : Colm) : Stt :=
  if rightS j s = true then ⟨if c.k = 1 then trimF j.items c.to else s.at_, min (s.col + 1) j.g.cols, (nextF j.notes (spotS j s c.to) c.notes).1, (nextF j.notes (spotS j s c.to) c.notes).2, addC (addC s.h (ofL j.floats c.top)) (ofL j.floats c.bot)⟩ else zeroS
/-! ### Snapping keeps the anchors -/
theorem witemG_k (s : Int) (x : Item) : (itemG s x).k = x.k := by unfold itemG; (repeat' split) <;> rfl
theorem itemG_n (s : Int) (x : Item) : (itemG s x).n = x.n := by unfold itemG; (repeat' split) <;> rfl
theorem snap_items (j : Job) : ∃ f : Item → Item, (snapG j).items = j.items.map f ∧ ∀ x, (f x).k = x.k ∧ (f x).n = x.n := by
  unfold snapG
  split
  · exact ⟨fun x => x, by simp, fun x => ⟨rfl, rfl⟩⟩
  · exact ⟨itemG j.g.grid, rfl, fun x => ⟨witemG_k _ x, itemG_n _ x⟩⟩
theorem snap_nlen (j : Job) : (snapG j).notes.length = j.notes.length := by unfold snapG; split <;> simp
theorem snap_ilen (j : Job) : (snapG j).items.length = j.items.length := by unfold snapG; split <;> simp
theorem snap_cols (j : Job) : (snapG j).g.cols = j.g.cols := by unfold snapG; split <;> rfl
theorem cnt_map (k : Int) (f : Item → Item) (hf : ∀ x, (f x).k = x.k) (l : List Item) : cnt k (l.map f) = cnt k l := by
  unfold cnt
  induction l with
  | nil => rfl
  | cons x r ih => simp only [List.map_cons, List.filter_cons, hf]; split <;> simp [ih]
/-! ### The start -/
end Go.EnvOf

/- Columns: what they are held against one another by (the plain law). -/
namespace Go.EnvOf
open Go Go.Eng
set_option maxRecDepth 100000
def badC (c : Colm) : Bool := (c.notes.take 50).any badPiece || decide (50 < (c.notes.length : Int)) || decide (50 < (c.top.length : Int)) || decide (50 < (c.bot.length : Int))
structure smCol (c : Colm) : Prop where
  n1 : c.notes.length ≤ 50
  n2 : c.top.length ≤ 50
  n3 : c.bot.length ≤ 50
  pieces : ∀ x ∈ c.notes, -1073741824 ≤ x.frm ∧ x.to ≤ 1073741824 ∧ x.frm ≤ 1073741824 ∧ -1073741824 ≤ x.to
theorem smCol_of {c : Colm} (h : badC c = false) : smCol c := by
  unfold badC at h
  simp only [Bool.or_eq_false_iff, decide_eq_false_iff_not] at h
  obtain ⟨⟨⟨h1, h2⟩, h3⟩, h4⟩ := h
  have hl : c.notes.length ≤ 50 := by omega
  rw [List.take_of_length_le hl] at h1
  refine ⟨hl, by omega, by omega, fun x hx => ?_⟩
  have := List.any_eq_false.1 h1 x hx
  simp [badPiece] at this; omega
end Go.EnvOf

/- Calls that may change memory; loops whose state is related to what has come. -/
namespace Go.EnvOf
open Go Go.Eng
set_option maxRecDepth 100000
theorem boxAt_lt {H : Heap} {q : Nat} {cs : List V} (h : Eng.boxAt H q = some cs) : q < H.length := by
  unfold Eng.boxAt at h
  rcases Nat.lt_or_ge q H.length with g | g
  · exact g
  · rw [List.getElem?_eq_none g] at h; cases h
theorem rd_of {α : Type} [Inhabited α] {l : List α} {i : Nat} {x : α} (h : l[i]? = some x) : rd l i = x := by
  unfold rd
  simp [List.getD, h]
end Go.EnvOf

/- Worlds as values that hold for good; the methods of lists and of anchors. -/
namespace Go.EnvOf
open Go Go.Eng
set_option maxRecDepth 100000
def encC3 (c : C3) : List PV := [.int .i64 c.a, .int .i64 c.b, .int .i64 c.c]
@[simp] theorem encC3_len (c : C3) : (encC3 c).length = 3 := rfl
def vListW (l : List Item) : V := .eptr [vItems l] 0
def vSumsW (l : List Item) : V := .eptr [vItems l, .p (.sl ((preL totP l (l.length + 1)).map encTot)), sli (preL boxP l (l.length + 1))] 0
def vMapW (l : List Item) (fs : List Float) : V := .eptr [vItems l, sli (preL begunP l (l.length + 1)), .p (.sl ((preL (aheadP fs) l (l.length + 1)).map encC3)), .p (.sl ((preL (dueP fs) l (l.length + 1)).map encC3))] 0
def vTextW (j : Job) : V := .eptr [vListW j.items, vSumsW j.items, vMapW j.items j.floats] 0
def preN (l : List Note) : List Int := (List.range (l.length + 1)).map fun k => lineN (l.take k)
abbrev cJobW (j : Job) : List V := cGeom j.g ++ [vItems j.items, vNotes j.notes, vFloats j.floats]
def vW (j : Job) : V := .eptr (vTextW j :: (cJobW j ++ [sli (preN j.notes), vI (allS j).a, vI (allS j).b, vI (allS j).c])) 0
section
variable (l : List Item)
@[simp] theorem vListW_stale (k : Nat) : staleB (vListW l) k = true := _root_.id rfl
@[simp] theorem vListW_esc (k i : Nat) : escV k i (vListW l) = (vListW l) := _root_.id rfl
@[simp] theorem vListW_outL : outL (vListW l) = (vListW l) := _root_.id rfl
@[simp] theorem vListW_notL : V.notL (vListW l) = true := _root_.id rfl
@[simp] theorem vListW_outB : V.outB (vListW l) = true := _root_.id rfl
@[simp] theorem vListW_oneB : V.oneB (vListW l) = true := _root_.id rfl
@[simp] theorem vListW_cells : V.cells (vListW l) = [(vListW l)] := _root_.id rfl
@[simp] theorem vListW_normA : normA (vListW l) = (vListW l) := _root_.id rfl
@[simp] theorem vListW_normC : normC (vListW l) = (vListW l) := _root_.id rfl
@[simp] theorem vListW_isNil : V.isNil .ptr (vListW l) = some false := _root_.id rfl
@[simp] theorem vListW_plainR : V.plainR (vListW l) = true := _root_.id rfl
@[simp] theorem vListW_plainB : V.plainB (vListW l) = true := _root_.id rfl
@[simp] theorem vListW_sol : solN sd (vListW l) = true := _root_.id rfl
@[simp] theorem vListW_ids (b d : Nat) (H : Heap) : rowIds b H d (vListW l) = [] := by cases d <;> rfl
@[simp] theorem vListW_idsR (S : St) : rowIdsR S (vListW l) = [] := vListW_ids _ _ _ _
@[simp] theorem vListW_fz (S : St) : Eng.freeze S (vListW l) = some (vListW l) := _root_.id rfl
@[simp] theorem vListW_fzR (S : St) : Eng.freezeR S (vListW l) = some (vListW l) := _root_.id rfl
end
section
variable (l : List Item)
@[simp] theorem vSumsW_stale (k : Nat) : staleB (vSumsW l) k = true := _root_.id rfl
@[simp] theorem vSumsW_esc (k i : Nat) : escV k i (vSumsW l) = (vSumsW l) := _root_.id rfl
@[simp] theorem vSumsW_outL : outL (vSumsW l) = (vSumsW l) := _root_.id rfl
@[simp] theorem vSumsW_notL : V.notL (vSumsW l) = true := _root_.id rfl
@[simp] theorem vSumsW_outB : V.outB (vSumsW l) = true := _root_.id rfl
@[simp] theorem vSumsW_oneB : V.oneB (vSumsW l) = true := _root_.id rfl
@[simp] theorem vSumsW_cells : V.cells (vSumsW l) = [(vSumsW l)] := _root_.id rfl
@[simp] theorem vSumsW_normA : normA (vSumsW l) = (vSumsW l) := _root_.id rfl
@[simp] theorem vSumsW_normC : normC (vSumsW l) = (vSumsW l) := _root_.id rfl
@[simp] theorem vSumsW_isNil : V.isNil .ptr (vSumsW l) = some false := _root_.id rfl
@[simp] theorem vSumsW_plainR : V.plainR (vSumsW l) = true := _root_.id rfl
@[simp] theorem vSumsW_plainB : V.plainB (vSumsW l) = true := _root_.id rfl
@[simp] theorem vSumsW_sol : solN sd (vSumsW l) = true := _root_.id rfl
@[simp] theorem vSumsW_ids (b d : Nat) (H : Heap) : rowIds b H d (vSumsW l) = [] := by cases d <;> rfl
@[simp] theorem vSumsW_idsR (S : St) : rowIdsR S (vSumsW l) = [] := vSumsW_ids _ _ _ _
@[simp] theorem vSumsW_fz (S : St) : Eng.freeze S (vSumsW l) = some (vSumsW l) := _root_.id rfl
@[simp] theorem vSumsW_fzR (S : St) : Eng.freezeR S (vSumsW l) = some (vSumsW l) := _root_.id rfl
end
section
variable (l : List Item) (fs : List Float)
@[simp] theorem vMapW_stale (k : Nat) : staleB (vMapW l fs) k = true := _root_.id rfl
@[simp] theorem vMapW_esc (k i : Nat) : escV k i (vMapW l fs) = (vMapW l fs) := _root_.id rfl
@[simp] theorem vMapW_outL : outL (vMapW l fs) = (vMapW l fs) := _root_.id rfl
@[simp] theorem vMapW_notL : V.notL (vMapW l fs) = true := _root_.id rfl
@[simp] theorem vMapW_outB : V.outB (vMapW l fs) = true := _root_.id rfl
@[simp] theorem vMapW_oneB : V.oneB (vMapW l fs) = true := _root_.id rfl
@[simp] theorem vMapW_cells : V.cells (vMapW l fs) = [(vMapW l fs)] := _root_.id rfl
@[simp] theorem vMapW_normA : normA (vMapW l fs) = (vMapW l fs) := _root_.id rfl
@[simp] theorem vMapW_normC : normC (vMapW l fs) = (vMapW l fs) := _root_.id rfl
@[simp] theorem vMapW_isNil : V.isNil .ptr (vMapW l fs) = some false := _root_.id rfl
@[simp] theorem vMapW_plainR : V.plainR (vMapW l fs) = true := _root_.id rfl
@[simp] theorem vMapW_plainB : V.plainB (vMapW l fs) = true := _root_.id rfl
@[simp] theorem vMapW_sol : solN sd (vMapW l fs) = true := _root_.id rfl
@[simp] theorem vMapW_ids (b d : Nat) (H : Heap) : rowIds b H d (vMapW l fs) = [] := by cases d <;> rfl
@[simp] theorem vMapW_idsR (S : St) : rowIdsR S (vMapW l fs) = [] := vMapW_ids _ _ _ _ _
@[simp] theorem vMapW_fz (S : St) : Eng.freeze S (vMapW l fs) = some (vMapW l fs) := _root_.id rfl
@[simp] theorem vMapW_fzR (S : St) : Eng.freezeR S (vMapW l fs) = some (vMapW l fs) := _root_.id rfl
end
section
variable (j : Job)
@[simp] theorem vTextW_stale (k : Nat) : staleB (vTextW j) k = true := _root_.id rfl
@[simp] theorem vTextW_esc (k i : Nat) : escV k i (vTextW j) = (vTextW j) := _root_.id rfl
@[simp] theorem vTextW_outL : outL (vTextW j) = (vTextW j) := _root_.id rfl
@[simp] theorem vTextW_notL : V.notL (vTextW j) = true := _root_.id rfl
@[simp] theorem vTextW_outB : V.outB (vTextW j) = true := _root_.id rfl
@[simp] theorem vTextW_oneB : V.oneB (vTextW j) = true := _root_.id rfl
@[simp] theorem vTextW_cells : V.cells (vTextW j) = [(vTextW j)] := _root_.id rfl
@[simp] theorem vTextW_normA : normA (vTextW j) = (vTextW j) := _root_.id rfl
@[simp] theorem vTextW_normC : normC (vTextW j) = (vTextW j) := _root_.id rfl
@[simp] theorem vTextW_isNil : V.isNil .ptr (vTextW j) = some false := _root_.id rfl
@[simp] theorem vTextW_plainR : V.plainR (vTextW j) = true := _root_.id rfl
@[simp] theorem vTextW_plainB : V.plainB (vTextW j) = true := _root_.id rfl
@[simp] theorem vTextW_sol : solN sd (vTextW j) = true := _root_.id rfl
@[simp] theorem vTextW_ids (b d : Nat) (H : Heap) : rowIds b H d (vTextW j) = [] := by cases d <;> rfl
@[simp] theorem vTextW_idsR (S : St) : rowIdsR S (vTextW j) = [] := vTextW_ids _ _ _ _
@[simp] theorem vTextW_fz (S : St) : Eng.freeze S (vTextW j) = some (vTextW j) := _root_.id rfl
@[simp] theorem vTextW_fzR (S : St) : Eng.freezeR S (vTextW j) = some (vTextW j) := _root_.id rfl
end
section
variable (j : Job)
@[simp] theorem vW_stale (k : Nat) : staleB (vW j) k = true := _root_.id rfl
@[simp] theorem vW_esc (k i : Nat) : escV k i (vW j) = (vW j) := _root_.id rfl
@[simp] theorem vW_outL : outL (vW j) = (vW j) := _root_.id rfl
@[simp] theorem vW_notL : V.notL (vW j) = true := _root_.id rfl
@[simp] theorem vW_outB : V.outB (vW j) = true := _root_.id rfl
@[simp] theorem vW_oneB : V.oneB (vW j) = true := _root_.id rfl
@[simp] theorem vW_cells : V.cells (vW j) = [(vW j)] := _root_.id rfl
@[simp] theorem vW_normA : normA (vW j) = (vW j) := _root_.id rfl
@[simp] theorem vW_normC : normC (vW j) = (vW j) := _root_.id rfl
@[simp] theorem vW_isNil : V.isNil .ptr (vW j) = some false := _root_.id rfl
@[simp] theorem vW_plainR : V.plainR (vW j) = true := _root_.id rfl
@[simp] theorem vW_plainB : V.plainB (vW j) = true := _root_.id rfl
@[simp] theorem vW_sol : solN sd (vW j) = true := _root_.id rfl
@[simp] theorem vW_ids (b d : Nat) (H : Heap) : rowIds b H d (vW j) = [] := by cases d <;> rfl
@[simp] theorem vW_idsR (S : St) : rowIdsR S (vW j) = [] := vW_ids _ _ _ _
@[simp] theorem vW_fz (S : St) : Eng.freeze S (vW j) = some (vW j) := _root_.id rfl
@[simp] theorem vW_fzR (S : St) : Eng.freezeR S (vW j) = some (vW j) := _root_.id rfl
end
def itemAt (l : List Item) (n : Int) : Option Item := if 0 ≤ n ∧ n < l.length then some (rd l n) else none
theorem itemAt_nat (l : List Item) (n : Nat) : itemAt l n = l[n]? := by
  unfold itemAt
  by_cases h : n < l.length
  · rw [if_pos ⟨by omega, by omega⟩, List.getElem?_eq_getElem h, rd_of (List.getElem?_eq_getElem h)]
  · rw [if_neg (by omega), List.getElem?_eq_none (by omega)]
theorem iloose_ev (x : Item) (H : Heap) : clD EE (.p (.fn 235)) [vItem x] H = some (vB (looseI x), none) := by
  rw [clD_body _ _ _ _ _ _ (noP _) fn235]
  unfold looseI
  by_cases h : x.k = 2 <;> simp [St.enter, enumFrom, subs, setSubs, h]
theorem listLen_ev (l : List Item) (H : Heap) : clD EE (.p (.fn 78)) [vListW l] H = some (vI l.length, none) := by
  rw [clD_body _ _ _ _ _ _ (noP _) fn78]
  simp [vListW, St.enter, enumFrom, subs, setSubs]
theorem listAt_ev (l : List Item) (n : Int) (H : Heap) : clD EE (.p (.fn 193)) [vListW l, vI n] H = some (.tup [match itemAt l n with | some x => vItem x | none => .agg [vI 0, vI 0, vI 0, vI 0, vI 0, vI 0, vI 0], vB (itemAt l n).isSome], none) := by
  rw [clD_body _ _ _ _ _ _ (noP _) fn193]
  have hl := fun H => listLen_ev l H
  unfold itemAt
  simp only [vListW] at hl ⊢
  by_cases h1 : n < 0
  · simp [St.enter, enumFrom, subs, setSubs, h1, show ¬ 0 ≤ n by omega]
  · by_cases h2 : (l.length : Int) ≤ n
    · simp [St.enter, enumFrom, subs, setSubs, h1, h2, hl, show ¬ n < l.length by omega]
    · have hx := rd_get l n (by omega) (by omega)
      have hix := fun H k => ixs_int H encItem (k := k) (s := 7) (by omega) hx rfl
      simp [St.enter, enumFrom, subs, setSubs, h1, h2, hl, show 0 ≤ n ∧ n < l.length by omega, hix, encItem]
theorem stays_ev (l : List Item) (n : Nat) (H : Heap) : clD EE (.p (.fn 161)) [vListW l, vI n] H = some (vB (stayB l n), none) := by
  rw [clD_body _ _ _ _ _ _ (noP _) fn161]
  have h := fun H => listAt_ev l n H
  rw [itemAt_nat] at h
  unfold stayB
  cases hx : l[n]? with
  | none =>
    simp only [hx] at h
    simp only [vListW] at h ⊢
    simp [St.enter, enumFrom, subs, setSubs, h]
  | some x =>
    simp only [hx] at h
    have lo := fun H => iloose_ev x H
    simp only [vListW] at h ⊢
    simp [St.enter, enumFrom, subs, setSubs, h, lo]
/-! ### The first place at which something holds -/
theorem seek_lp (l : List Item) (hv : V) (p : Nat → Bool) (hl : l.length ≤ 1000000) (H : Heap) (hH : ∀ n : Nat, n ≤ l.length → clD EE hv [vI n] H = some (vB (p n), none)) : ∀ (k n : Nat), n ≤ l.length + 1 → l.length + 1 - n = k →
    evD EE lp160_0 ⟨[(0, vListW l), (2, hv), (7, vI n)], [], H, H.length, []⟩ = some (if seekP p k n = -1 then (.exit 0, ⟨[(0, vListW l), (2, hv), (7, vI (l.length + 1)), (12, vB false)], [], H, H.length, []⟩) else (.ret, ⟨[(6, vI (seekP p k n))], [], H, H.length, []⟩)) := by
  intro k
  induction k with
  | zero =>
    intro n h1 h2
    have e : n = l.length + 1 := by omega
    subst e
    have hle := fun H => listLen_ev l H
    unfold lp160_0
    rw [evD_loop]
    simp only [vListW] at hle ⊢
    simp [seekP, hle, show ¬ (l.length : Int) + 1 ≤ l.length by omega]
  | succ k ih =>
    intro n h1 h2
    have hle := fun H => listLen_ev l H
    have c : (n : Int) ≤ l.length := by omega
    have w : IntKind.i64.wrap ((n : Int) + 1) = ((n + 1 : Nat) : Int) := w64 (by omega) (by omega)
    have hp := hH n (by omega)
    simp only [seekP]
    by_cases hb : p n = true
    · rw [hb] at hp
      have hne : ¬ (n : Int) = -1 := by omega
      simp only [if_pos hb, if_neg hne]
      unfold lp160_0
      rw [evD_loop]
      simp only [vListW] at hle ⊢
      simp [hle, c, hp]
    · have hb' : p n = false := by simpa using hb
      rw [hb'] at hp
      have key := ih (n + 1) (by omega) (by omega)
      simp only [if_neg hb]
      rw [← key]
      conv => lhs; unfold lp160_0
      rw [evD_loop]
      simp only [vListW] at hle ⊢
      simp [hle, c, hp, w]
      rfl
theorem seek_ev (l : List Item) (n : Nat) (hv : V) (p : Nat → Bool) (hl : l.length ≤ 1000000) (H : Heap) (hH : ∀ n : Nat, n ≤ l.length → clD EE hv [vI n] H = some (vB (p n), none)) (h1 : n ≤ l.length + 1) (ho : hv.outB = true) (hn : normA hv = hv) :
    clD EE (.p (.fn 160)) [vListW l, vI n, hv] H = some (vI (seekP p (l.length + 1 - n) n), none) := by
  rw [clD_body _ _ _ _ _ _ (noP _) fn160]
  have k := seek_lp l hv p hl H hH _ n h1 rfl
  by_cases h : seekP p (l.length + 1 - n) n = -1
  · rw [if_pos h] at k
    simp only [vListW] at k ⊢
    simp [St.enter, enumFrom, k, h]
  · rw [if_neg h] at k
    simp only [vListW] at k ⊢
    simp [St.enter, enumFrom, k]
theorem trim_ev (l : List Item) (n : Int) (hl : l.length ≤ 1000000) (H : Heap) : clD EE (.p (.fn 65)) [vListW l, vI n] H = some (vI (trimF l n), none) := by
  rw [clD_body _ _ _ _ _ _ (noP _) fn65]
  have hle := fun H => listLen_ev l H
  have hk : min (max n 0) (l.length : Int) = (putN l n : Int) := by unfold putN; omega
  have hp := putN_le l n
  have s := fun H => seek_ev l (putN l n) (.fn (.func 161) [vListW l] []) (stayB l) hl H (fun m _ => by rw [clD_clo]; exact stays_ev l m H) (by omega) rfl rfl
  have e := seek_trim l _ (putN l n) hp rfl
  rw [e] at s
  unfold trimF
  simp only [vListW] at hle s ⊢
  simp [St.enter, enumFrom, hle, hk, s]
/-! ### Anchors -/
section
variable (l : List Item) (fs : List Float) (hl : l.length ≤ 1000000)
theorem place_ev (n : Int) (H : Heap) : clD EE (.p (.fn 156)) [vMapW l fs, vI n] H = some (.tup [vI (putN l n), vB true], none) := by
  rw [clD_body _ _ _ _ _ _ (noP _) fn156]
  have hk : min (max n 0) (l.length : Int) = (putN l n : Int) := by unfold putN; omega
  simp only [vMapW]
  simp [St.enter, enumFrom, subs, setSubs, hk]
theorem begun_ev (n : Int) (H : Heap) : clD EE (.p (.fn 88)) [vMapW l fs, vI n] H = some (vI (begunP (l.take (putN l n))), none) := by
  rw [clD_body _ _ _ _ _ _ (noP _) fn88]
  have hp := fun H => place_ev l fs n H
  have hn := putN_le l n
  have hx := preL_get begunP l (l.length + 1) (putN l n) (by omega)
  have hix := fun H k => ixs_nat H encI (k := k) (s := 1) hx rfl
  simp only [vMapW] at hp ⊢
  simp [St.enter, enumFrom, subs, setSubs, hp, hix, encI]
theorem ahead_ev (n : Int) (H : Heap) : clD EE (.p (.fn 62)) [vMapW l fs, vI n] H = some (vC (aheadP fs (l.take (putN l n))), none) := by
  rw [clD_body _ _ _ _ _ _ (noP _) fn62]
  have hp := fun H => place_ev l fs n H
  have hn := putN_le l n
  have hx := preL_get (aheadP fs) l (l.length + 1) (putN l n) (by omega)
  have hix := fun H k => ixs_nat H encC3 (k := k) (s := 3) hx rfl
  simp only [vMapW] at hp ⊢
  simp [St.enter, enumFrom, subs, setSubs, hp, hix, encC3]
end
end Go.EnvOf

/- Calls of which only the arguments matter: what comes of their answers. -/
namespace Go.Eng
open Go
@[simp] theorem zR_pure (v : V) : zR (some (v, none)) = zV [] v := rfl
@[simp] theorem zR_heap (v : V) (H : Heap) : zR (some (v, some (H, []))) = zV H v := rfl
@[simp] theorem zR_nothing : zR none = none := rfl
@[simp] theorem zV_tup (H : Heap) (vs : List V) : zV H (.tup vs) = (allO (solV H sd) vs).map .tup := rfl
@[simp] theorem zV_p (H : Heap) (x : PV) : zV H (.p x) = some (.p x) := rfl
@[simp] theorem zV_nils (H : Heap) : zV H .nils = some (.p (.sl [])) := rfl
@[simp] theorem zV_row (H : Heap) (a b c d : Nat) : zV H (.row a b c d) = (frz 0 H deep (.row a b c d)).map .p := rfl
@[simp] theorem zV_ptr (H : Heap) (id off : Nat) : zV H (.ptr id off) = (Eng.boxAt H id).bind fun cs => (allO (solV H 5) cs).map fun cs' => .eptr cs' off := rfl
@[simp] theorem solV_p (H : Heap) (d : Nat) (x : PV) : solV H d (.p x) = some (.p x) := by cases d <;> rfl
@[simp] theorem solV_nils (H : Heap) (d : Nat) : solV H d .nils = some (.p (.sl [])) := by cases d <;> rfl
@[simp] theorem solV_row (H : Heap) (d a b c e : Nat) : solV H d (.row a b c e) = (frz 0 H deep (.row a b c e)).map .p := by cases d <;> rfl
@[simp] theorem solV_ptr6 (H : Heap) (id off : Nat) : solV H sd (.ptr id off) = (Eng.boxAt H id).bind fun cs => (allO (solV H 5) cs).map fun cs' => .eptr cs' off := rfl
@[simp] theorem solV_ptr66 (H : Heap) (id off : Nat) : solV H 6 (.ptr id off) = (Eng.boxAt H id).bind fun cs => (allO (solV H 5) cs).map fun cs' => .eptr cs' off := rfl
@[simp] theorem solV_ptr5 (H : Heap) (id off : Nat) : solV H 5 (.ptr id off) = (Eng.boxAt H id).bind fun cs => (allO (solV H 4) cs).map fun cs' => .eptr cs' off := rfl
@[simp] theorem plainB_ptr (a b : Nat) : V.plainB (.ptr a b) = false := rfl
@[simp] theorem plainT_ptr (a b : Nat) : plainT (.ptr a b) = false := rfl
theorem frz_plain {H : Heap} {id n s : Nat} {es : List (List PV)} (h : Eng.rowAt H id = some (s, upV es)) (hn : es.length = n) : frz 0 H deep (.row id n 0 n) = some (.sl es) := by
  unfold deep
  rw [frz_row, if_pos (Nat.zero_le _), h, frzK_upV, if_pos hn]
  simp [← hn]
end Go.Eng
namespace Go.EnvOf
open Go Go.Eng
set_option maxRecDepth 100000
@[simp] theorem plainT_vSumsW (l : List Item) : plainT (vSumsW l) = true := rfl
@[simp] theorem plainT_vW (j : Job) : plainT (vW j) = true := rfl
@[simp] theorem solV_vListW (H : Heap) (l : List Item) : solV H 5 (vListW l) = some (vListW l) := rfl
@[simp] theorem solV_vTextW (H : Heap) (j : Job) : solV H 5 (vTextW j) = some (vTextW j) := rfl
@[simp] theorem solV4_vListW (H : Heap) (l : List Item) : solV H 4 (vListW l) = some (vListW l) := rfl
@[simp] theorem solV4_vSumsW (H : Heap) (l : List Item) : solV H 4 (vSumsW l) = some (vSumsW l) := rfl
@[simp] theorem solV4_vMapW (H : Heap) (l : List Item) (fs : List Float) : solV H 4 (vMapW l fs) = some (vMapW l fs) := rfl
theorem clonez {α : Type} (f : FuncId) (s : Nat) (z : List V) (enc : α → List PV) (hs : ∀ x, (enc x).length = s) (hf : EE.fns f = some (cloneI s z)) (l : List α) (hm : l.length < most) (hp : EE.prims f = none := by exact noP _) :
    zR (clD EE (.p (.fn f)) [.p (.sl (l.map enc))] []) = some (.p (.sl (l.map enc))) := by
  rw [clone_list f s z [] enc hs hf l hm hp]
  cases l with
  | nil => rfl
  | cons x r =>
    have h : Eng.rowAt ([] ++ [DObj.row s (upV ((x :: r).map enc))]) 0 = some (s, upV ((x :: r).map enc)) := rfl
    show zV _ (.row 0 (x :: r).length 0 (x :: r).length) = _
    rw [zV_row, frz_plain h (by simp)]
    rfl
theorem cloneItems_z (l : List Item) (h : l.length ≤ 1000000) : zR (clD EE (.p (.fn 143)) [vItems l] []) = some (vItems l) := clonez _ 7 _ encItem (fun _ => rfl) fn143 l (by unfold most; omega)
theorem cloneFloats_z (l : List Float) (h : l.length ≤ 1000000) : zR (clD EE (.p (.fn 144)) [vFloats l] []) = some (vFloats l) := clonez _ 3 _ encFloat (fun _ => rfl) fn144 l (by unfold most; omega)
theorem cloneSps_z (l : List Int) (h : l.length ≤ 1000000) : zR (clD EE (.p (.fn 145)) [sli l] []) = some (sli l) := clonez _ 1 _ encI (fun _ => rfl) fn145 l (by unfold most; omega)
theorem cloneInts_z (l : List Int) (h : l.length ≤ 1000000) : zR (clD EE (.p (.fn 146)) [sli l] []) = some (sli l) := clonez _ 1 _ encI (fun _ => rfl) fn146 l (by unfold most; omega)
theorem vlistNew_z (l : List Item) (h : l.length ≤ 1000000) : zR (clD EE (.p (.fn 60)) [vItems l] []) = some (vListW l) := by
  rw [clD_body _ _ _ _ _ _ (noP _) fn60]
  have c := cloneItems_z l h
  simp [St.enter, enumFrom, subs, setSubs, solN, sd, c, allO, vListW]
end Go.EnvOf

/- Totals added up; the sums of a list, as the program lays them out. -/
namespace Go.EnvOf
open Go Go.Eng
set_option maxRecDepth 100000
theorem both1_ev (f : FuncId) (x y z : Int) (p q : Nat) (H : Heap) (hf : clD EE (.p (.fn f)) [vI x, vI y] H = some (resT (some z), none)) (h1 : Eng.boxAt H p = some [.p (.fn f)]) (h2 : Eng.boxAt H q = some [vB true]) :
    clD EE (.p (.fn 285)) [vI x, vI y, .ptr p 0, .ptr q 0] H = some (vI z, some (H, [q])) := by
  rw [clD_body _ _ _ _ _ _ (noP _) fn285]
  have hlt := boxAt_lt h2
  have e : H.set q (.box [vB true]) = H := by
    unfold Eng.boxAt at h2
    split at h2
    · rename_i cs h3
      cases h2
      obtain ⟨h4, h5⟩ := List.getElem?_eq_some_iff.1 h3
      rw [← h5]; exact List.set_getElem_self h4
    · cases h2
  have a1 : subs [V.p (PV.fn f)] 0 1 = some [V.p (PV.fn f)] := rfl
  have a2 : subs [vB true] 0 1 = some [vB true] := rfl
  have a3 : setSubs [vB true] 0 [vB true] = some [vB true] := rfl
  simp only [resT] at hf
  simp [St.enter, enumFrom, h1, h2, a1, a2, a3, hf, e, hlt]
theorem both_ev (f : FuncId) (a b c : Tot) (H : Heap) (hf : ∀ (x y z : Int) (H : Heap), (x, y, z) ∈ [(a.nat, b.nat, c.nat), (a.s0, b.s0, c.s0), (a.s1, b.s1, c.s1), (a.s2, b.s2, c.s2), (a.s3, b.s3, c.s3), (a.shr, b.shr, c.shr)] → clD EE (.p (.fn f)) [vI x, vI y] H = some (resT (some z), none)) :
    clD EE (.p (.fn 229)) [vTot a, vTot b, .p (.fn f)] H = some (.tup [vTot c, vB true], none) := by
  rw [clD_body _ _ _ _ _ _ (noP _) fn229]
  have k : ∀ x y z, (x, y, z) ∈ [(a.nat, b.nat, c.nat), (a.s0, b.s0, c.s0), (a.s1, b.s1, c.s1), (a.s2, b.s2, c.s2), (a.s3, b.s3, c.s3), (a.shr, b.shr, c.shr)] → clD EE (.fn (.func 285) [] [.ptr H.length 0, .ptr (H.length + 1) 0]) [vI x, vI y] (H ++ [.box [.p (.fn f)], .box [vB true]]) = some (vI z, some (H ++ [.box [.p (.fn f)], .box [vB true]], [H.length + 1])) := by
    intro x y z hm
    rw [clD_clo]
    exact both1_ev f x y z H.length (H.length + 1) _ (hf x y z _ hm) (by simp) (by simp)
  have k0 := k a.nat b.nat c.nat (by simp)
  have k1 := k a.s0 b.s0 c.s0 (by simp)
  have k2 := k a.s1 b.s1 c.s1 (by simp)
  have k3 := k a.s2 b.s2 c.s2 (by simp)
  have k4 := k a.s3 b.s3 c.s3 (by simp)
  have k5 := k a.shr b.shr c.shr (by simp)
  have w1 : IntKind.i64.wrap 1 = 1 := by decide
  have w2 : IntKind.i64.wrap 2 = 2 := by decide
  have w3 : IntKind.i64.wrap 3 = 3 := by decide
  have w4 : IntKind.i64.wrap 4 = 4 := by decide
  have ad : addD H.length (H.length + 1) [] = [] := by unfold addD; rw [if_neg (by omega)]
  simp [St.enter, enumFrom, subs, setSubs, k0, k1, k2, k3, k4, k5, lp229_0, evD_loop, ixaV, shiftV, w1, w2, w3, w4, ad]
structure inT64 (t : Tot) : Prop where
  nat : I64 t.nat
  s0 : I64 t.s0
  s1 : I64 t.s1
  s2 : I64 t.s2
  s3 : I64 t.s3
  shr : I64 t.shr
theorem inT64_of {m : Int} {t : Tot} (h : inT m t) (hm : m ≤ 9223372036854775807) : inT64 t := by
  obtain ⟨⟨a1, a2⟩, ⟨a3, a4⟩, ⟨a5, a6⟩, ⟨a7, a8⟩, ⟨a9, b1⟩, ⟨b2, b3⟩⟩ := h
  constructor <;> constructor <;> omega
theorem addF_in {a b : Int} (h : I64 (a + b)) : addF a b = some (a + b) := by unfold addF; rw [if_pos h]
theorem subF_in {a b : Int} (h : I64 (a - b)) : subF a b = some (a - b) := by unfold subF; rw [if_pos h]
theorem totAdd_ev (a b : Tot) (ha : inT64 a) (hb : inT64 b) (hc : inT64 (addT a b)) (H : Heap) : clD EE (.p (.fn 154)) [vTot a, vTot b] H = some (.tup [vTot (addT a b), vB true], none) := by
  rw [clD_body _ _ _ _ _ _ (noP _) fn154]
  have one : ∀ (x y : Int) (H : Heap), I64 x → I64 y → I64 (x + y) → clD EE (.p (.fn 230)) [vI x, vI y] H = some (resT (some (x + y)), none) := by
    intro x y H hx hy hz
    rw [add_ev x y H hx hy, addF_in hz]
  have h := fun H => both_ev 230 a b (addT a b) H (fun x y z H hm => by
    simp only [List.mem_cons, Prod.mk.injEq, List.not_mem_nil, or_false] at hm
    rcases hm with ⟨rfl, rfl, rfl⟩ | ⟨rfl, rfl, rfl⟩ | ⟨rfl, rfl, rfl⟩ | ⟨rfl, rfl, rfl⟩ | ⟨rfl, rfl, rfl⟩ | ⟨rfl, rfl, rfl⟩
    · exact one _ _ _ ha.nat hb.nat hc.nat
    · exact one _ _ _ ha.s0 hb.s0 hc.s0
    · exact one _ _ _ ha.s1 hb.s1 hc.s1
    · exact one _ _ _ ha.s2 hb.s2 hc.s2
    · exact one _ _ _ ha.s3 hb.s3 hc.s3
    · exact one _ _ _ ha.shr hb.shr hc.shr)
  generalize addT a b = c at *
  simp [St.enter, enumFrom, subs, setSubs, h]
theorem totBox_ev (h : Int) (H : Heap) : clD EE (.p (.fn 226)) [vI h] H = some (vTot ⟨h, 0, 0, 0, 0, 0⟩, none) := by
  rw [clD_body _ _ _ _ _ _ (noP _) fn226]
  simp [St.enter, enumFrom, subs, setSubs]
theorem totGlue_ev (h str ord shr : Int) (H : Heap) : clD EE (.p (.fn 227)) [vI h, vI str, vI ord, vI shr] H = some (vTot (glueT h str ord shr), none) := by
  rw [clD_body _ _ _ _ _ _ (noP _) fn227]
  unfold glueT
  by_cases c0 : ord = 0
  · simp [St.enter, enumFrom, subs, setSubs, c0, ixaV, shiftV]
  · by_cases c1 : ord = 1
    · simp [St.enter, enumFrom, subs, setSubs, c1, ixaV, shiftV]
    · by_cases c2 : ord = 2
      · simp [St.enter, enumFrom, subs, setSubs, c2, ixaV, shiftV]
      · by_cases c3 : ord = 3
        · simp [St.enter, enumFrom, subs, setSubs, c3, ixaV, shiftV]
        · by_cases c4 : ord < 0
          · simp [St.enter, enumFrom, subs, setSubs, c0, c1, c2, c3, show ¬ 0 ≤ ord by omega]
          · simp [St.enter, enumFrom, subs, setSubs, c0, c1, c2, c3, show 0 ≤ ord by omega, show ¬ ord < 4 by omega]
theorem itemTotal_ev (x : Item) (H : Heap) : clD EE (.p (.fn 152)) [vItem x] H = some (vTot (totI x), none) := by
  rw [clD_body _ _ _ _ _ _ (noP _) fn152]
  have b := fun H => totBox_ev x.h H
  have g := fun H => totGlue_ev x.h x.str x.ord x.shr H
  unfold totI
  by_cases k1 : x.k = 1
  · simp [St.enter, enumFrom, subs, setSubs, k1, b]
  · by_cases k2 : x.k = 2
    · simp only [k2, if_neg (show ¬ (2 : Int) = 1 by decide), if_true]
      generalize glueT x.h x.str x.ord x.shr = t at *
      simp [St.enter, enumFrom, subs, setSubs, k2, g]
    · simp [St.enter, enumFrom, subs, setSubs, k1, k2, zeroT]
theorem fair1_ev (n : Int) (H : Heap) (h : 0 ≤ n ∧ n ≤ 4294967296) : clD EE (.p (.fn 228)) [vI n] H = some (vB true, none) := by
  rw [clD_body _ _ _ _ _ _ (noP _) fn228]
  simp [St.enter, enumFrom, h.1, h.2]
theorem sfair_ev (t : Tot) (h : inT 4294967296 t) (H : Heap) : clD EE (.p (.fn 153)) [vTot t] H = some (vB true, none) := by
  rw [clD_body _ _ _ _ _ _ (noP _) fn153]
  have k0 := fun H => fair1_ev t.nat H h.nat
  have k1 := fun H => fair1_ev t.s0 H h.s0
  have k2 := fun H => fair1_ev t.s1 H h.s1
  have k3 := fun H => fair1_ev t.s2 H h.s2
  have k4 := fun H => fair1_ev t.s3 H h.s3
  have k5 := fun H => fair1_ev t.shr H h.shr
  have w1 : IntKind.i64.wrap 1 = 1 := by decide
  have w2 : IntKind.i64.wrap 2 = 2 := by decide
  have w3 : IntKind.i64.wrap 3 = 3 := by decide
  have w4 : IntKind.i64.wrap 4 = 4 := by decide
  simp [St.enter, enumFrom, subs, setSubs, k0, k1, k2, k3, k4, k5, lp153_0, evD_loop, ixaV, shiftV, w1, w2, w3, w4]
end Go.EnvOf

/- The sums of a list, as the program lays them out. -/
namespace Go.EnvOf
open Go Go.Eng
set_option maxRecDepth 100000
def sumL {α : Type} (f : List Item → α) (z : α) (l : List Item) (i : Nat) : List α := (List.range (l.length + 1)).map fun k => if k ≤ i then f (l.take k) else z
theorem sumL_len {α : Type} (f : List Item → α) (z : α) (l : List Item) (i : Nat) : (sumL f z l i).length = l.length + 1 := by simp [sumL]
theorem sumL_get {α : Type} (f : List Item → α) (z : α) (l : List Item) (i k : Nat) (h : k ≤ i) (hk : k ≤ l.length) : (sumL f z l i)[k]? = some (f (l.take k)) := by simp [sumL, h, show k < l.length + 1 by omega]
theorem sumL_new {α : Type} (f : List Item → α) (z : α) (l : List Item) (i : Nat) (h : i < l.length) : (sumL f z l i)[i + 1]? = some z := by simp [sumL, h]; omega
theorem sumL_set {α : Type} (f : List Item → α) (z : α) (l : List Item) (i : Nat) : (sumL f z l i).set (i + 1) (f (l.take (i + 1))) = sumL f z l (i + 1) := by
  apply List.ext_getElem?
  intro k
  rw [List.getElem?_set]
  by_cases hk : k < l.length + 1
  · by_cases e : i + 1 = k
    · subst e; simp [sumL, hk]
    · rw [if_neg e]
      simp only [sumL, List.getElem?_map, List.getElem?_range hk, Option.map_some]
      by_cases h : k ≤ i
      · rw [if_pos h, if_pos (by omega)]
      · rw [if_neg h, if_neg (by omega)]
  · have e1 : (sumL f z l (i + 1))[k]? = none := List.getElem?_eq_none (by rw [sumL_len]; omega)
    have e2 : (sumL f z l i)[k]? = none := List.getElem?_eq_none (by rw [sumL_len]; omega)
    rw [e1, e2]
    by_cases e : i + 1 = k
    · subst e; rw [if_pos rfl, if_neg (by rw [sumL_len]; omega)]
    · rw [if_neg e]
theorem sumL_all {α : Type} (f : List Item → α) (z : α) (l : List Item) : sumL f z l l.length = preL f l (l.length + 1) := by
  unfold sumL preL
  apply List.map_congr_left
  intro k hk
  have := List.mem_range.1 hk
  rw [if_pos (by omega)]
theorem sumL_zero {α : Type} (f : List Item → α) (z : α) (l : List Item) (h : f [] = z) : sumL f z l 0 = List.replicate (l.length + 1) z := by
  apply List.ext_getElem?
  intro k
  by_cases hk : k < l.length + 1
  · simp only [sumL, List.getElem?_map, List.getElem?_range hk, Option.map_some, List.getElem?_replicate, if_pos hk]
    by_cases e : k ≤ 0
    · have : k = 0 := by omega
      subst this; simp [h]
    · rw [if_neg e]
  · rw [List.getElem?_eq_none (by rw [sumL_len]; omega), List.getElem?_eq_none (by simp; omega)]
def suH (l : List Item) (i : Nat) : Heap := [DObj.row 6 (upV ((sumL totP zeroT l i).map encTot)), DObj.row 1 (upV ((sumL boxP 0 l i).map encI))]
def suE (l : List Item) (i : Nat) : St :=
  ⟨[(0, vItems l), (4, .lptr 21 0), (23, vI l.length), (24, vI i)], [(21, [vItems l, .row 0 (l.length + 1) 0 (l.length + 1), .row 1 (l.length + 1) 0 (l.length + 1)])], suH l i, 0, []⟩
def suX (l : List Item) : Ex × St :=
  (.exit 0, ⟨[(0, vItems l), (4, .lptr 21 0), (23, vI l.length), (24, vI l.length), (25, vB false)], [(21, [vItems l, .row 0 (l.length + 1) 0 (l.length + 1), .row 1 (l.length + 1) 0 (l.length + 1)])], suH l l.length, 0, []⟩)
set_option maxHeartbeats 1000000 in
theorem su_lp1 (l : List Item) (hl : l.length ≤ 4096) (hf : ∀ x ∈ l, fairI x) (i : Nat) (x : Item) (hx : l[i]? = some x) : ∃ c, lp59_0 = .loop [0, 4, 23, 24] [21] c ∧ evD EE c (suE l i) = some (.normal, suE l (i + 1)) := by
  refine ⟨_, rfl, ?_⟩
  have hlt := (List.getElem?_eq_some_iff.1 hx).1
  have w : IntKind.i64.wrap ((i : Int) + 1) = ((i + 1 : Nat) : Int) := w64 (by omega) (by omega)
  have hix := fun H k => ixs_nat H encItem (k := k) (s := 7) hx rfl
  have ts := take_snoc hx
  have fx := hf x (List.mem_of_getElem? hx)
  have ft : ∀ y ∈ l.take i, fairI y := fun y hy => hf y (List.mem_of_mem_take hy)
  have ft1 : ∀ y ∈ l.take (i + 1), fairI y := fun y hy => hf y (List.mem_of_mem_take hy)
  have hlen : (l.take i).length = i := by rw [List.length_take]; omega
  have hlen1 : (l.take (i + 1)).length = i + 1 := by rw [List.length_take]; omega
  have t1 := totP_snoc (l.take i) x
  have b1 := boxP_snoc (l.take i) x
  rw [← ts] at t1 b1
  have q1 := totP_in _ ft
  have q2 := totP_in _ ft1
  have q3 := boxP_in _ ft
  have q4 := boxP_in _ ft1
  rw [hlen] at q1 q3
  rw [hlen1] at q2 q4
  have it := fun H => itemTotal_ev x H
  have sf := fun H => sfair_ev (totI x) (totI_in fx) H
  have ta := fun H => totAdd_ev (totP (l.take i)) (totI x) (inT64_of q1 (by omega)) (inT64_of (totI_in fx) (by omega)) (by rw [← t1]; exact inT64_of q2 (by omega)) H
  rw [← t1] at ta
  have g1 : (upV ((sumL totP zeroT l i).map encTot))[i]? = some ((encTot (totP (l.take i))).map V.p) := by simp [upV_get, sumL_get totP zeroT l i i (Nat.le_refl _) (by omega)]
  have g2 : (upV ((sumL totP zeroT l i).map encTot))[i + 1]? = some ((encTot zeroT).map V.p) := by simp [upV_get, sumL_new totP zeroT l i hlt]
  have g3 : (upV ((sumL boxP 0 l i).map encI))[i]? = some [vI (boxP (l.take i))] := by simp [upV_get, sumL_get boxP 0 l i i (Nat.le_refl _) (by omega), encI]
  have g4 : (upV ((sumL boxP 0 l i).map encI))[i + 1]? = some [vI 0] := by simp [upV_get, sumL_new boxP 0 l i hlt, encI]
  have s1 : (upV ((sumL totP zeroT l i).map encTot)).set (i + 1) ((encTot (totP (l.take (i + 1)))).map V.p) = upV ((sumL totP zeroT l (i + 1)).map encTot) := by rw [upV_set, sumL_set]
  have s2 : (upV ((sumL boxP 0 l i).map encI)).set (i + 1) [vI (boxP (l.take (i + 1)))] = upV ((sumL boxP 0 l (i + 1)).map encI) := by
    have := upV_set encI (sumL boxP 0 l i) (i + 1) (boxP (l.take (i + 1)))
    rw [sumL_set] at this
    exact this
  have n1 : (upV ((sumL totP zeroT l i).map encTot)).length = l.length + 1 := by simp [sumL_len]
  have n2 : (upV ((sumL boxP 0 l i).map encI)).length = l.length + 1 := by simp [sumL_len]
  have hlt1 : i < l.length + 1 := by omega
  have hlt2 : i + 1 < l.length + 1 := by omega
  have x0 : ∀ a b : V, [a, b][0]? = some a := fun _ _ => rfl
  have x1 : ∀ a b : V, [a, b][1]? = some b := fun _ _ => rfl
  have wb : IntKind.i64.wrap (boxP (l.take i) + x.h) = boxP (l.take i) + x.h := w64 (by have := fx.h; omega) (by have := fx.h; omega)
  unfold suE suH
  generalize totP (l.take (i + 1)) = T1 at *
  generalize totP (l.take i) = T0 at *
  generalize totI x = TI at *
  generalize hB1 : boxP (l.take (i + 1)) = P1 at *
  generalize boxP (l.take i) = P0 at *
  generalize upV ((sumL totP zeroT l i).map encTot) = A1 at *
  generalize upV ((sumL totP zeroT l (i + 1)).map encTot) = A2 at *
  generalize upV ((sumL boxP 0 l i).map encI) = B1 at *
  generalize upV ((sumL boxP 0 l (i + 1)).map encI) = B2 at *
  simp only [encTot, zeroT, List.map_cons, List.map_nil] at g1 g2 s1
  have g5 : ∀ v : List V, (B1.set (i + 1) v)[i + 1]? = some v := fun v => by rw [List.getElem?_set_self (by omega)]
  unfold boxI1 at b1
  have ir := fun H id tot off len s => ixs_row H id tot off len s .i64 (i + 1)
  simp only [Int.natCast_add, Int.natCast_one] at ir
  by_cases k1 : x.k = 1
  · rw [if_pos k1] at b1
    subst b1
    simp only [vItem, k1] at it
    simp [-getElem?_pos, hlt, hix, encItem, subs, setSubs, w, it, sf, ta, g1, g2, g3, g4, g5, s1, s2, n1, n2, hlt1, hlt2, x0, x1, ixs_row, ir, k1, wb]
  · rw [if_neg k1, Int.add_zero] at b1
    subst b1
    simp [-getElem?_pos, hlt, hix, encItem, subs, setSubs, w, it, sf, ta, g1, g2, g3, g4, s1, s2, n1, n2, hlt1, hlt2, x0, x1, ixs_row, ir, k1]
theorem su_lp0 (l : List Item) (hl : l.length ≤ 4096) (hf : ∀ x ∈ l, fairI x) : evD EE lp59_0 (suE l 0) = some (suX l) := by
  unfold lp59_0
  refine Eq.trans (evD_fold l (fun (_ : Unit) i => suE l i) (fun _ _ => True) (fun _ _ _ => ()) (fun _ => suX l) (fun _ _ => rfl) ?_ ?_ () 0 trivial (Nat.zero_le _)) rfl
  · rintro _ i x - hx
    obtain ⟨c', h1, h2⟩ := su_lp1 l hl hf i x hx
    simp only [lp59_0, IC.loop.injEq] at h1
    obtain ⟨-, -, rfl⟩ := h1
    exact ⟨h2, trivial⟩
  · rintro _ -
    simp [suE, suX]
theorem sumsNew_z (l : List Item) (hl : l.length ≤ 4096) (hf : ∀ x ∈ l, fairI x) : zR (clD EE (.p (.fn 59)) [vItems l] []) = some (.tup [vSumsW l, vB true]) := by
  rw [clD_body _ _ _ _ _ _ (noP _) fn59]
  have c := cloneItems_z l (by omega)
  have k := su_lp0 l hl hf
  have w : IntKind.i64.wrap ((l.length : Int) + 1) = ((l.length + 1 : Nat) : Int) := w64 (by omega) (by omega)
  have hm : l.length + 1 < most := by unfold most; omega
  have h9 : ¬ (4096 : Int) < l.length := by omega
  have e1 : List.replicate (l.length + 1) [vI 0, vI 0, vI 0, vI 0, vI 0, vI 0] = upV ((sumL totP zeroT l 0).map encTot) := by rw [sumL_zero totP zeroT l rfl]; simp [upV, encTot, zeroT]
  have e2 : List.replicate (l.length + 1) [vI 0] = upV ((sumL boxP 0 l 0).map encI) := by rw [sumL_zero boxP 0 l rfl]; simp [upV, encI]
  have p0 : 0 < (l.length : Int) + 1 := by omega
  have pt : ((l.length : Int) + 1).toNat = l.length + 1 := by omega
  simp only [suE, suX, suH, sumL_all] at k
  have f1 := fun T => frz_plain (H := DObj.row 6 (upV ((preL totP l (l.length + 1)).map encTot)) :: T) (id := 0) (n := l.length + 1) rfl (by simp [preL_len])
  have f2 := fun R T => frz_plain (H := R :: DObj.row 1 (upV ((preL boxP l (l.length + 1)).map encI)) :: T) (id := 1) (n := l.length + 1) rfl (by simp [preL_len])
  generalize upV ((sumL totP zeroT l 0).map encTot) = A at *
  generalize upV ((sumL boxP 0 l 0).map encI) = B at *
  simp at k
  simp [St.enter, enumFrom, subs, setSubs, solN, sd, c, h9, w, hm, p0, pt, e1, e2, k, allO, vSumsW, f1, f2, plainT]
end Go.EnvOf

/- The anchors of a list, as the program lays them out. -/
namespace Go.EnvOf
open Go Go.Eng
set_option maxRecDepth 100000
def anH (l : List Item) (fs : List Float) (n : Nat) : Heap := [DObj.row 1 (upV ((preL begunP l n).map encI)), DObj.row 3 (upV ((preL (aheadP fs) l n).map encC3)), DObj.row 3 (upV ((preL (dueP fs) l n).map encC3))]
def anE (l : List Item) (fs : List Float) (i : Nat) : St :=
  ⟨[(1, vFloats fs), (5, .lptr 21 0), (22, vItems l), (23, vI l.length), (24, vI i)], [(21, [vItems l, .row 0 (i + 1) 0 (i + 1), .row 1 (i + 1) 0 (i + 1), .row 2 (i + 1) 0 (i + 1)])], anH l fs (i + 1), 0, []⟩
def anX (l : List Item) (fs : List Float) : Ex × St :=
  (.exit 0, ⟨[(1, vFloats fs), (5, .lptr 21 0), (22, vItems l), (23, vI l.length), (24, vI l.length), (25, vB false)], [(21, [vItems l, .row 0 (l.length + 1) 0 (l.length + 1), .row 1 (l.length + 1) 0 (l.length + 1), .row 2 (l.length + 1) 0 (l.length + 1)])], anH l fs (l.length + 1), 0, []⟩)
theorem anH_app {α : Type} (enc : α → List PV) (f : List Item → α) (l : List Item) (n : Nat) : upV ((preL f l n).map enc) ++ upV [enc (f (l.take n))] = upV ((preL f l (n + 1)).map enc) := by
  rw [preL_succ]; simp [upV]
theorem anch_lp1 (l : List Item) (fs : List Float) (hl : l.length ≤ 1000000) (i : Nat) (x : Item) (hx : l[i]? = some x) : ∃ c, lp61_0 = .loop [1, 5, 22, 23, 24] [21] c ∧ evD EE c (anE l fs i) = some (.normal, anE l fs (i + 1)) := by
  refine ⟨_, rfl, ?_⟩
  have hlt := (List.getElem?_eq_some_iff.1 hx).1
  have w : IntKind.i64.wrap ((i : Int) + 1) = ((i + 1 : Nat) : Int) := w64 (by omega) (by omega)
  have hix := fun H k => ixs_nat H encItem (k := k) (s := 7) hx rfl
  have ts := take_snoc hx
  have b1 := begunP_snoc (l.take i) x
  have a1 := aheadP_snoc fs (l.take i) x
  have d1 := dueP_snoc fs (l.take i) x
  rw [← ts] at b1 a1 d1
  have g1 : (upV ((preL begunP l (i + 1)).map encI))[i]? = some [vI (begunP (l.take i))] := by simp [upV_get, preL_get begunP l (i + 1) i (by omega), encI]
  have g2 : (upV ((preL (aheadP fs) l (i + 1)).map encC3))[i]? = some [vI (aheadP fs (l.take i)).a, vI (aheadP fs (l.take i)).b, vI (aheadP fs (l.take i)).c] := by simp [upV_get, preL_get (aheadP fs) l (i + 1) i (by omega), encC3]
  have g3 : (upV ((preL (dueP fs) l (i + 1)).map encC3))[i]? = some [vI (dueP fs (l.take i)).a, vI (dueP fs (l.take i)).b, vI (dueP fs (l.take i)).c] := by simp [upV_get, preL_get (dueP fs) l (i + 1) i (by omega), encC3]
  have p1 := anH_app encI begunP l (i + 1)
  have p2 := anH_app encC3 (aheadP fs) l (i + 1)
  have p3 := anH_app encC3 (dueP fs) l (i + 1)
  have n1 : (upV ((preL begunP l (i + 1)).map encI)).length = i + 1 := by simp [preL_len]
  have n2 : (upV ((preL (aheadP fs) l (i + 1)).map encC3)).length = i + 1 := by simp [preL_len]
  have n3 : (upV ((preL (dueP fs) l (i + 1)).map encC3)).length = i + 1 := by simp [preL_len]
  have bb := begunP_bd (l.take i)
  have ab := aheadP_bd fs (l.take i)
  have hlen : (l.take i).length = i := by rw [List.length_take]; omega
  rw [hlen] at bb ab
  have wb : IntKind.i64.wrap (begunP (l.take i) + 1) = begunP (l.take i) + 1 := w64 (by omega) (by omega)
  have wa : IntKind.i64.wrap ((aheadP fs (l.take i)).a + 1) = (aheadP fs (l.take i)).a + 1 := w64 (by omega) (by omega)
  have wb2 : IntKind.i64.wrap ((aheadP fs (l.take i)).b + 1) = (aheadP fs (l.take i)).b + 1 := w64 (by omega) (by omega)
  have wc : IntKind.i64.wrap ((aheadP fs (l.take i)).c + 1) = (aheadP fs (l.take i)).c + 1 := w64 (by omega) (by omega)
  have hm : i + 1 + 1 < most := by unfold most; omega
  have hat := fun H => at_ev fs x.n H
  have x0 : ∀ a b : V, [a, b][0]? = some a := fun _ _ => rfl
  have x1 : ∀ a b : V, [a, b][1]? = some b := fun _ _ => rfl
  simp only [encI, encC3, b1, a1, d1] at p1 p2 p3
  unfold anE anH
  generalize begunP (l.take i) = b at *
  generalize hA : aheadP fs (l.take i) = A at *
  generalize hD : dueP fs (l.take i) = D at *
  generalize upV ((preL begunP l (i + 1)).map encI) = B1 at *
  generalize upV ((preL (aheadP fs) l (i + 1)).map encC3) = A1 at *
  generalize upV ((preL (dueP fs) l (i + 1)).map encC3) = D1 at *
  generalize upV ((preL begunP l (i + 1 + 1)).map encI) = B2 at *
  generalize upV ((preL (aheadP fs) l (i + 1 + 1)).map encC3) = A2 at *
  generalize upV ((preL (dueP fs) l (i + 1 + 1)).map encC3) = D2 at *
  unfold addAt at p2
  by_cases k5 : x.k = 5
  · simp only [k5, if_true, show ¬ (5 : Int) = 6 by decide, show ¬ (5 : Int) = 7 by decide, if_false] at p1 p2 p3
    simp [-getElem?_pos, hlt, hix, encItem, subs, setSubs, g1, g2, g3, n1, n2, n3, w, hm, p1, p2, p3, apoB, okEl, ixs_row, x0, x1, k5, wb]
  · by_cases k6 : x.k = 6
    · simp only [k6, if_true, show ¬ (6 : Int) = 5 by decide, show ¬ (6 : Int) = 7 by decide, if_false, Int.add_zero] at p1 p2 p3
      unfold ofS at p2
      cases hf : atF fs x.n with
      | none =>
        simp only [hf] at p2 hat
        simp [-getElem?_pos, hlt, hix, encItem, subs, setSubs, g1, g2, g3, n1, n2, n3, w, hm, p1, p2, p3, apoB, okEl, ixs_row, x0, x1, k6, hat]
      | some f =>
        simp only [hf] at p2 hat
        unfold bump at p2
        by_cases d0 : f.c = 0
        · simp only [d0, if_true] at p2
          simp [-getElem?_pos, hlt, hix, encItem, subs, setSubs, g1, g2, g3, n1, n2, n3, w, hm, p1, p2, p3, apoB, okEl, ixs_row, x0, x1, k6, hat, d0, ixaV, shiftV, wa]
        · by_cases d1 : f.c = 1
          · simp only [d1, if_true, show ¬ (1 : Int) = 0 by decide, if_false] at p2
            simp [-getElem?_pos, hlt, hix, encItem, subs, setSubs, g1, g2, g3, n1, n2, n3, w, hm, p1, p2, p3, apoB, okEl, ixs_row, x0, x1, k6, hat, d1, ixaV, shiftV, wb2]
          · by_cases d2 : f.c = 2
            · simp only [d2, if_true, show ¬ (2 : Int) = 0 by decide, show ¬ (2 : Int) = 1 by decide, if_false] at p2
              simp [-getElem?_pos, hlt, hix, encItem, subs, setSubs, g1, g2, g3, n1, n2, n3, w, hm, p1, p2, p3, apoB, okEl, ixs_row, x0, x1, k6, hat, d2, ixaV, shiftV, wc]
            · simp only [d0, d1, d2, if_false] at p2
              by_cases d3 : f.c < 0
              · simp [-getElem?_pos, hlt, hix, encItem, subs, setSubs, g1, g2, g3, n1, n2, n3, w, hm, p1, p2, p3, apoB, okEl, ixs_row, x0, x1, k6, hat, show ¬ 0 ≤ f.c by omega]
              · simp [-getElem?_pos, hlt, hix, encItem, subs, setSubs, g1, g2, g3, n1, n2, n3, w, hm, p1, p2, p3, apoB, okEl, ixs_row, x0, x1, k6, hat, show 0 ≤ f.c by omega, show ¬ f.c < 3 by omega]
    · by_cases k7 : x.k = 7
      · simp only [k7, if_true, show ¬ (7 : Int) = 5 by decide, show ¬ (7 : Int) = 6 by decide, if_false, Int.add_zero] at p1 p2 p3
        by_cases q1 : D.a = A.a
        · by_cases q2 : D.b = A.b
          · by_cases q3 : D.c = A.c
            · simp [-getElem?_pos, hlt, hix, encItem, subs, setSubs, g1, g2, g3, n1, n2, n3, w, hm, p1, p2, p3, apoB, okEl, ixs_row, x0, x1, k7, q1, q2, q3]
            · simp [-getElem?_pos, hlt, hix, encItem, subs, setSubs, g1, g2, g3, n1, n2, n3, w, hm, p1, p2, p3, apoB, okEl, ixs_row, x0, x1, k7, q1, q2, q3]
          · simp [-getElem?_pos, hlt, hix, encItem, subs, setSubs, g1, g2, g3, n1, n2, n3, w, hm, p1, p2, p3, apoB, okEl, ixs_row, x0, x1, k7, q1, q2]
        · simp [-getElem?_pos, hlt, hix, encItem, subs, setSubs, g1, g2, g3, n1, n2, n3, w, hm, p1, p2, p3, apoB, okEl, ixs_row, x0, x1, k7, q1]
      · simp only [k5, k6, k7, if_false, Int.add_zero] at p1 p2 p3
        simp [-getElem?_pos, hlt, hix, encItem, subs, setSubs, g1, g2, g3, n1, n2, n3, w, hm, p1, p2, p3, apoB, okEl, ixs_row, x0, x1, k5, k6, k7]
theorem anch_lp0 (l : List Item) (fs : List Float) (hl : l.length ≤ 1000000) : evD EE lp61_0 (anE l fs 0) = some (anX l fs) := by
  unfold lp61_0
  refine Eq.trans (evD_fold l (fun (_ : Unit) i => anE l fs i) (fun _ _ => True) (fun _ _ _ => ()) (fun _ => anX l fs) (fun _ _ => rfl) ?_ ?_ () 0 trivial (Nat.zero_le _)) rfl
  · rintro _ i x - hx
    obtain ⟨c', h1, h2⟩ := anch_lp1 l fs hl i x hx
    simp only [lp61_0, IC.loop.injEq] at h1
    obtain ⟨-, -, rfl⟩ := h1
    exact ⟨h2, trivial⟩
  · rintro _ -
    simp [anE, anX]
theorem anchNew_z (l : List Item) (fs : List Float) (hl : l.length ≤ 1000000) : zR (clD EE (.p (.fn 61)) [vItems l, vFloats fs] []) = some (vMapW l fs) := by
  rw [clD_body _ _ _ _ _ _ (noP _) fn61]
  have c := cloneItems_z l hl
  have k := anch_lp0 l fs hl
  have e1 : upV ((preL begunP l 1).map encI) = [[vI 0]] := by simp [preL, upV, encI, begunP, cnt]
  have e2 : upV ((preL (aheadP fs) l 1).map encC3) = [[vI 0, vI 0, vI 0]] := by simp [preL, upV, encC3, aheadP]
  have e3 : upV ((preL (dueP fs) l 1).map encC3) = [[vI 0, vI 0, vI 0]] := by simp [preL, upV, encC3, dueP]
  simp only [anE, anX, anH, Nat.zero_add, e1, e2, e3] at k
  simp at k
  have f1 := fun T => frz_plain (H := DObj.row 1 (upV ((preL begunP l (l.length + 1)).map encI)) :: T) (id := 0) (n := l.length + 1) rfl (by simp [preL_len])
  have f2 := fun R T => frz_plain (H := R :: DObj.row 3 (upV ((preL (aheadP fs) l (l.length + 1)).map encC3)) :: T) (id := 1) (n := l.length + 1) rfl (by simp [preL_len])
  have f3 := fun R R' T => frz_plain (H := R :: R' :: DObj.row 3 (upV ((preL (dueP fs) l (l.length + 1)).map encC3)) :: T) (id := 2) (n := l.length + 1) rfl (by simp [preL_len])
  simp [St.enter, enumFrom, subs, setSubs, solN, sd, c, k, allO, vMapW, f1, f2, f3, rowI, okEl]
end Go.EnvOf

/- A job that shares nothing; the world of a job. -/
namespace Go.EnvOf
open Go Go.Eng
set_option maxRecDepth 100000
/-! ### A job that shares nothing -/
theorem note_acc (env : List (Nat × V)) (loc : List (Nat × List V)) (H : Heap) (l : List Note) (x : Note) (hm : l.length + 1 < most) :
    appV ⟨env, loc, H ++ rowsG 2 encNote l, H.length, []⟩ (cloneV H.length l) (.p (.sl [encNote x])) 2 = some (cloneV H.length (l ++ [x]), ⟨env, loc, H ++ rowsG 2 encNote (l ++ [x]), H.length, []⟩) :=
  app_acc env loc H H.length [] 2 encNote l x rfl hm (Nat.le_refl _)
def cpE (j : Job) (H : Heap) (M : List Note) (i : Nat) : St :=
  ⟨[(2, .lptr 2 0), (3, .lptr 3 0), (16, vNotes j.notes), (17, vI j.notes.length), (18, vI i)], [(2, zJobC0), (3, cGeom j.g ++ [vItems j.items, cloneV H.length M, vFloats j.floats])], H ++ rowsG 2 encNote M, H.length, []⟩
where zJobC0 : List V := [vI 0, vI 0, vI 0, vI 0, vI 0, vI 0, vI 0, vI 0, vI 0, vI 0, vI 0, vI 0, vI 0, vI 0, vI 0, vI 0, vI 0, vI 0, vB false, .nils, .nils, .nils]
def cpX (j : Job) (H : Heap) : Ex × St :=
  (.exit 0, ⟨[(2, .lptr 2 0), (3, .lptr 3 0), (16, vNotes j.notes), (17, vI j.notes.length), (18, vI j.notes.length), (19, vB false)], [(2, cpE.zJobC0), (3, cGeom j.g ++ [vItems j.items, cloneV H.length j.notes, vFloats j.floats])], H ++ rowsG 2 encNote j.notes, H.length, []⟩)
theorem cp_lp (j : Job) (n2 : j.notes.length ≤ 1000000) (hn : ∀ n ∈ j.notes, n.lines.length ≤ 1000000 ∧ n.pens.length ≤ 1000000) (H : Heap) : evD EE lp57_0 (cpE j H [] 0) = some (cpX j H) := by
  unfold lp57_0
  refine Eq.trans (evD_fold j.notes (fun (_ : Unit) i => cpE j H (j.notes.take i) i) (fun _ _ => True) (fun _ _ _ => ()) (fun _ => cpX j H) (fun _ _ => rfl) ?_ ?_ () 0 trivial (Nat.zero_le _)) rfl
  · rintro _ i x - hx
    refine ⟨?_, trivial⟩
    have hlt := (List.getElem?_eq_some_iff.1 hx).1
    have w : IntKind.i64.wrap ((i : Int) + 1) = ((i + 1 : Nat) : Int) := w64 (by omega) (by omega)
    have hix := fun H k => ixs_nat H encNote (k := k) (s := 2) hx rfl
    obtain ⟨l1, l2⟩ := hn x (List.mem_of_getElem? hx)
    have c1 := cloneSps_z x.lines l1
    have c2 := cloneInts_z x.pens l2
    have hlen : (j.notes.take i).length = i := by rw [List.length_take]; omega
    have ha := fun env loc => note_acc env loc H (j.notes.take i) x (by rw [hlen]; unfold most; omega)
    rw [take_snoc hx]
    generalize j.notes.take i = M at *
    simp only [encNote] at hix ha
    simp only [cpE, cGeom, List.cons_append, List.nil_append]
    simp [-appV_mk, hlt, hix, subs, setSubs, solN, sd, w, c1, c2, ha]
  · rintro _ -
    simp only [cpE, cpX, List.take_length]
    simp [subs]
theorem copied_ev (j : Job) (n1 : j.items.length ≤ 1000000) (n2 : j.notes.length ≤ 1000000) (n3 : j.floats.length ≤ 1000000) (hn : ∀ n ∈ j.notes, n.lines.length ≤ 1000000 ∧ n.pens.length ≤ 1000000) (H : Heap) : clD EE (.p (.fn 57)) [vJob j] H = some (vJob j, none) := by
  rw [clD_body _ _ _ _ _ _ (noP _) fn57]
  have c1 := cloneItems_z j.items n1
  have c2 := cloneFloats_z j.floats n3
  have k := cp_lp j n2 hn H
  have f2 := fun env loc => freeze_clone env loc (H ++ rowsG 2 encNote j.notes) H.length [] H.length 2 encNote j.notes (by
    have := rowsG_at 2 encNote H [] j.notes
    simpa using this) (Nat.le_refl _)
  simp only [cpE, cpX, cpE.zJobC0, cGeom, List.cons_append, List.nil_append] at k
  simp only [vJob, cGeom, List.cons_append, List.nil_append]
  generalize hu : cloneV H.length j.notes = u at *
  have o : u.oneB = true := by rw [← hu]; simp
  have p : u.cells = [u] := by rw [← hu]; simp
  clear hu
  generalize H ++ rowsG 2 encNote j.notes = G at *
  simp at k
  simp [St.enter, enumFrom, subs, setSubs, solN, sd, c1, c2, k, f2, o, p]
/-! ### The lines ahead of each note -/
def encNp (n : Note) : List Int × List Int := (n.lines, n.pens)
theorem lines_np (l : List Note) : linesF (l.map encNp) = lineN l := by
  induction l with
  | nil => rfl
  | cons n r ih => simp only [List.map_cons, linesF, List.foldr_cons, lineN, List.sum_cons] at ih ⊢; rw [ih]; rfl
theorem noteLines_ev (l : List Note) (H : Heap) (hl : l.length ≤ 1000000) (hs : lineN l ≤ 9223372036854775807) : clD EE (.p (.fn 63)) [vNotes l] H = some (vI (lineN l), none) := by
  have h := lines_ev (l.map encNp) H (by simpa using hl) (by rw [lines_np]; exact hs)
  rw [lines_np] at h
  unfold notes at h
  rw [List.map_map] at h
  exact h
theorem lineN_le (l : List Note) (h : ∀ n ∈ l, n.lines.length ≤ 1000000) : 0 ≤ lineN l ∧ lineN l ≤ 1000000 * l.length := by
  induction l with
  | nil => simp [lineN]
  | cons n r ih =>
    have h1 := h n List.mem_cons_self
    have h2 := ih fun m hm => h m (List.mem_cons_of_mem _ hm)
    simp only [lineN, List.map_cons, List.sum_cons, List.length_cons] at h2 ⊢
    omega
end Go.EnvOf
