/- The program's functions and the document's, evaluated. -/
import Derived.Test.YtfjgcfloallohaaGreatDoorText1
import Derived.Test.YtfjgcfloallohaaGreatDoorTab
/- The program's plain data: items, notes, floats, geometries, jobs. -/
namespace Go.EnvOf
open Go Go.Eng

/-- A number that is there. -/
abbrev I64 (n : Int) : Prop := -9223372036854775808 ≤ n ∧ n ≤ 9223372036854775807

structure Item where
  k : Int
  h : Int
  f : Int
  str : Int
  ord : Int
  shr : Int
  n : Int
  deriving Inhabited, DecidableEq
def encItem (x : Item) : List PV := [.int .i64 x.k, .int .i64 x.h, .int .i64 x.f, .int .i64 x.str, .int .i64 x.ord, .int .i64 x.shr, .int .i64 x.n]
@[simp] theorem encItem_len (x : Item) : (encItem x).length = 7 := rfl
abbrev vItems (l : List Item) : V := .p (.sl (l.map encItem))
abbrev vItem (x : Item) : V := .agg [.p (.int .i64 x.k), .p (.int .i64 x.h), .p (.int .i64 x.f), .p (.int .i64 x.str), .p (.int .i64 x.ord), .p (.int .i64 x.shr), .p (.int .i64 x.n)]

structure Note where
  lines : List Int
  pens : List Int
  deriving Inhabited, DecidableEq
def encNote (n : Note) : List PV := [.sl (n.lines.map encI), .sl (n.pens.map encI)]
@[simp] theorem encNote_len (n : Note) : (encNote n).length = 2 := rfl
abbrev vNotes (l : List Note) : V := .p (.sl (l.map encNote))
abbrev vNote (n : Note) : V := .agg [sli n.lines, sli n.pens]

structure Float where
  c : Int
  h : Int
  w : Int
  deriving Inhabited, DecidableEq
def encFloat (f : Float) : List PV := [.int .i64 f.c, .int .i64 f.h, .int .i64 f.w]
@[simp] theorem encFloat_len (f : Float) : (encFloat f).length = 3 := rfl
abbrev vFloats (l : List Float) : V := .p (.sl (l.map encFloat))
abbrev vFloat (f : Float) : V := .agg [.p (.int .i64 f.c), .p (.int .i64 f.h), .p (.int .i64 f.w)]

structure Geom where
  cols : Int
  wide : Int
  gap : Int
  high : Int
  first : Int
  grid : Int
  rule : Int
  sep : Int
  noteMost : Int
  topMost : Int
  botMost : Int
  topMany : Int
  botMany : Int
  club : Int
  widow : Int
  split : Int
  defer : Int
  spare : Int
  balance : Bool
  deriving Inhabited, DecidableEq
abbrev cGeom (g : Geom) : List V := [.p (.int .i64 g.cols), .p (.int .i64 g.wide), .p (.int .i64 g.gap), .p (.int .i64 g.high), .p (.int .i64 g.first), .p (.int .i64 g.grid), .p (.int .i64 g.rule), .p (.int .i64 g.sep), .p (.int .i64 g.noteMost), .p (.int .i64 g.topMost),
  .p (.int .i64 g.botMost), .p (.int .i64 g.topMany), .p (.int .i64 g.botMany), .p (.int .i64 g.club), .p (.int .i64 g.widow), .p (.int .i64 g.split), .p (.int .i64 g.defer), .p (.int .i64 g.spare), .p (.bool g.balance)]
abbrev vGeom (g : Geom) : V := .agg (cGeom g)

structure Job where
  g : Geom
  items : List Item
  notes : List Note
  floats : List Float
  deriving Inhabited, DecidableEq
abbrev vJob (j : Job) : V := .agg (cGeom j.g ++ [vItems j.items, vNotes j.notes, vFloats j.floats])
end Go.EnvOf

/- The law of the kinds of warnings. -/
namespace Go.EnvOf
open Go Go.Eng
set_option maxRecDepth 100000
theorem awake50 : clD EE (.p (.fn 7)) [] [] = some (.p (.bool true), none) := by
  rw [clD_iff]; exact ⟨200, by kernel_rfl⟩
theorem awake50r (es : List (List V)) : clD EE (.p (.fn 7)) [] [.row 2 es] = some (.p (.bool true), none) := by
  rw [clD_iff]; exact ⟨200, by kernel_rfl⟩
structure Warn where
  k : Int
  n : Int
  deriving Inhabited, DecidableEq
def encW (x : Warn) : List PV := [.int .i64 x.k, .int .i64 x.n]
@[simp] theorem encW_len (x : Warn) : (encW x).length = 2 := rfl
abbrev vWs (l : List Warn) : V := .p (.sl (l.map encW))
abbrev rW (H : Heap) (o : List Warn) : V := .row H.length o.length 0 o.length
abbrev hW (H : Heap) (o : List Warn) : Heap := H ++ [.row 2 (upV (o.map encW))]
def ofK (k : Int) (l : List Warn) : List Warn := l.filter fun w => decide (w.k = k)
def kS (k : Int) (o : List Warn) (w : Warn) : List Warn := o ++ (if w.k = k then [w] else [])
theorem kS_fold (k : Int) : ∀ (l : List Warn) (o : List Warn) (i : Nat), fold (fun o _ w => kS k o w) o i l = o ++ ofK k l
  | [], o, i => by simp [fold, ofK]
  | w :: r, o, i => by
    simp only [fold]
    rw [kS_fold k r]
    simp only [ofK, List.filter_cons, kS]
    by_cases h : w.k = k <;> simp [h]
def loE (l : List Warn) (k : Int) (H : Heap) (o : List Warn) (i : Nat) : St := ⟨[(1, vI k), (5, rW H o), (8, vWs l), (9, vI l.length), (10, vI i)], [], hW H o, H.length, []⟩
def loX (l : List Warn) (k : Int) (H : Heap) (o : List Warn) : Ex × St := (.exit 0, ⟨[(1, vI k), (5, rW H o), (8, vWs l), (9, vI l.length), (10, vI l.length), (11, vB false)], [], hW H o, H.length, []⟩)
theorem only_lp (l : List Warn) (k : Int) (H : Heap) (hl : l.length ≤ 1000000000) : evD EE lp10_0 (loE l k H [] 0) = some (loX l k H (ofK k l)) := by
  unfold lp10_0
  refine Eq.trans (evD_fold l (loE l k H) (fun o i => o.length ≤ i) (fun o _ w => kS k o w) (loX l k H) (fun _ _ => rfl) ?_ ?_ [] 0 (by simp) (Nat.zero_le _)) (by rw [List.drop_zero, kS_fold, List.nil_append])
  · intro o i x hi hx
    have hlt := (List.getElem?_eq_some_iff.1 hx).1
    have hix := fun H k => ixs_nat H encW (k := k) (s := 2) hx rfl
    have w : IntKind.i64.wrap ((i : Int) + 1) = ((i + 1 : Nat) : Int) := w64 (by omega) (by omega)
    have hm : o.length + 1 < most := by unfold most; omega
    by_cases h : x.k = k
    · refine ⟨?_, by simp [kS, h]; omega⟩
      simp [loE, hlt, hix, encW, subs, setSubs, w, h, hm, kS]
    · refine ⟨?_, by simp [kS, h]; omega⟩
      simp [loE, hlt, hix, encW, subs, setSubs, w, h, kS]
  · intro o hi
    refine ⟨?_, by simp [loX]⟩
    simp [loE, loX]
theorem only_ev (l : List Warn) (k : Int) (H : Heap) (hl : l.length ≤ 1000000000) : clD EE (.p (.fn 10)) [vWs l, vI k] H = some (vWs (ofK k l), none) := by
  rw [clD_body _ _ _ _ _ _ (noP _) fn10]
  have key := only_lp l k H hl
  generalize ofK k l = O at *
  simp [loE, loX, rW, hW] at key
  simp [St.enter, enumFrom, key]

/-! ### The names -/
theorem name_ev (n : Int) (H : Heap) : clD EE (.p (.fn 11)) [vI n] H = some (.p (.str (nmS n)), none) := by
  rw [clD_prim _ _ _ _ _ nameP_fn]; rfl
theorem rname_ev (n : Int) (H : Heap) : clD EE (.p (.fn 12)) [vI n] H = some (.p (.str (nmS n)), none) := by
  rw [clD_body _ _ _ _ _ _ (noP _) fn12]
  by_cases h0 : n < 0
  · have e : nmS n = ⟨#[]⟩ := by unfold nmS; rw [if_neg (by omega), if_neg (by omega), if_neg (by omega), if_neg (by omega), if_neg (by omega), if_neg (by omega)]
    rw [e]
    simp [St.enter, enumFrom, h0]
  by_cases h5 : 5 < n
  · have e : nmS n = ⟨#[]⟩ := by unfold nmS; rw [if_neg (by omega), if_neg (by omega), if_neg (by omega), if_neg (by omega), if_neg (by omega), if_neg (by omega)]
    rw [e]
    simp [St.enter, enumFrom, h0, h5]
  have c : n = 0 ∨ n = 1 ∨ n = 2 ∨ n = 3 ∨ n = 4 ∨ n = 5 := by omega
  rcases c with rfl | rfl | rfl | rfl | rfl | rfl
  all_goals simp [St.enter, enumFrom, nmS, subs, setSubs, ixsI, ixsV]

/-! ### The law -/
def lkE (l : List Warn) (k : Int) (o : List Warn) (i : Nat) : St := ⟨[(0, vWs l), (1, vI k), (5, rW [] o), (6, vI i)], [], hW [] o, 0, []⟩
def lkX (l : List Warn) (k : Int) (o : List Warn) : Ex × St := (.exit 0, ⟨[(0, vWs l), (1, vI k), (5, rW [] o), (6, vI l.length), (16, vB false)], [], hW [] o, 0, []⟩)
theorem lk_lp (l : List Warn) (k : Int) (hl : l.length ≤ 60) : evD EE lp4_0 (lkE l k [] 0) = some (lkX l k (ofK k l)) := by
  unfold lp4_0
  refine Eq.trans (evD_fold l (lkE l k) (fun o i => o.length ≤ i) (fun o _ w => kS k o w) (lkX l k) (fun _ _ => rfl) ?_ ?_ [] 0 (by simp) (Nat.zero_le _)) (by rw [List.drop_zero, kS_fold, List.nil_append])
  · intro o i x hi hx
    have hlt := (List.getElem?_eq_some_iff.1 hx).1
    have hix := fun H k => ixs_nat H encW (k := k) (s := 2) hx rfl
    have w : IntKind.i64.wrap ((i : Int) + 1) = ((i + 1 : Nat) : Int) := w64 (by omega) (by omega)
    have hm : o.length + 1 < most := by unfold most; omega
    by_cases h : x.k = k
    · refine ⟨?_, by simp [kS, h]; omega⟩
      simp [lkE, hlt, hix, encW, subs, setSubs, w, h, hm, kS]
    · refine ⟨?_, by simp [kS, h]; omega⟩
      simp [lkE, hlt, hix, encW, subs, setSubs, w, h, kS]
  · intro o hi
    refine ⟨?_, by simp [lkX]⟩
    simp [lkE, lkX]
def lmE (k : Int) (o : List Warn) (i : Nat) : St := ⟨[(1, vI k), (5, rW [] o), (7, vWs o), (8, vI i)], [], hW [] o, 0, []⟩
def lmX (k : Int) (o : List Warn) : Ex × St := (.exit 2, ⟨[(1, vI k), (5, rW [] o), (7, vWs o), (8, vI o.length), (39, vB false)], [], hW [] o, 0, []⟩)
theorem lm_lp (o : List Warn) (k : Int) (hl : o.length ≤ 60) : evD EE lp4_1 (lmE k o 0) = some (lmX k o) := by
  unfold lp4_1
  refine Eq.trans (evD_fold o (fun (_ : Unit) i => lmE k o i) (fun _ _ => True) (fun _ _ _ => ()) (fun _ => lmX k o) (fun _ _ => rfl) ?_ ?_ () 0 trivial (Nat.zero_le _)) rfl
  · intro _ i x hi hx
    refine ⟨?_, trivial⟩
    have hlt := (List.getElem?_eq_some_iff.1 hx).1
    have hix := fun H k => ixs_nat H encW (k := k) (s := 2) hx rfl
    have w : IntKind.i64.wrap ((i : Int) + 1) = ((i + 1 : Nat) : Int) := w64 (by omega) (by omega)
    have hup : (upV (o.map encW))[i]? = some ((encW x).map .p) := by simp [upV, hx]
    have hup2 : ∀ h, (upV (o.map encW))[i]'h = (encW x).map .p := fun h => by rw [List.getElem?_eq_getElem h] at hup; exact Option.some.inj hup
    simp [lmE, hlt, hix, ixs_row, hup2, encW, subs, setSubs, w]
  · intro _ _
    refine ⟨?_, by simp [lmX]⟩
    simp [lmE, lmX]
theorem lintKinds_ev (l : List Warn) (k : Int) : clD EE (.p (.fn 4)) [vWs l, vI k] [] = some (.p (.bool true), none) := by
  rw [clD_body _ _ _ _ _ _ (noP _) fn4]
  by_cases h : 60 < (l.length : Int)
  · simp [St.enter, enumFrom, h, awake50]
  have h1 := lk_lp l k (by omega)
  have h2 := fun H => only_ev l k H (by omega)
  have hf : (ofK k l).length ≤ 60 := by
    have := List.length_filter_le (fun w : Warn => decide (w.k = k)) l
    unfold ofK; omega
  have h3 := lm_lp (ofK k l) k hf
  generalize ofK k l = O at *
  simp [lkE, lkX, rW, hW] at h1
  simp [lmE, lmX, rW, hW] at h3
  have hs : (nmS k == nmS k) = true := by first | exact beq_self_eq_true _ | exact decide_eq_true rfl | (show ((nmS k).data == (nmS k).data) = true; simp)
  simp [St.enter, enumFrom, h, awake50r, h1, h2, h3, name_ev, rname_ev, hs]
end Go.EnvOf
