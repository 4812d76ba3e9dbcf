/- The program's functions and the document's, evaluated. -/
import Derived.Test.YtfjgcfloallohaaGreatDoorText1
import Derived.Test.YtfjgcfloallohaaGreatDoorTab
/- The program's plain data: items, notes, floats, geometries, jobs. -/
namespace Go.EnvOf
open Go Go.Eng

/-- A number that is there. -/
abbrev I64 (n : Int) : Prop := -9223372036854775808 ≤ n ∧ n ≤ 9223372036854775807

structure Item where
  k : Int
  h : Int
  f : Int
  str : Int
  ord : Int
  shr : Int
  n : Int
  deriving Inhabited, DecidableEq
def encItem (x : Item) : List PV := [.int .i64 x.k, .int .i64 x.h, .int .i64 x.f, .int .i64 x.str, .int .i64 x.ord, .int .i64 x.shr, .int .i64 x.n]
@[simp] theorem encItem_len (x : Item) : (encItem x).length = 7 := rfl
abbrev vItems (l : List Item) : V := .p (.sl (l.map encItem))
abbrev vItem (x : Item) : V := .agg [.p (.int .i64 x.k), .p (.int .i64 x.h), .p (.int .i64 x.f), .p (.int .i64 x.str), .p (.int .i64 x.ord), .p (.int .i64 x.shr), .p (.int .i64 x.n)]

structure Note where
  lines : List Int
  pens : List Int
  deriving Inhabited, DecidableEq
def encNote (n : Note) : List PV := [.sl (n.lines.map encI), .sl (n.pens.map encI)]
@[simp] theorem encNote_len (n : Note) : (encNote n).length = 2 := rfl
abbrev vNotes (l : List Note) : V := .p (.sl (l.map encNote))
abbrev vNote (n : Note) : V := .agg [sli n.lines, sli n.pens]

structure Float where
  c : Int
  h : Int
  w : Int
  deriving Inhabited, DecidableEq
def encFloat (f : Float) : List PV := [.int .i64 f.c, .int .i64 f.h, .int .i64 f.w]
@[simp] theorem encFloat_len (f : Float) : (encFloat f).length = 3 := rfl
abbrev vFloats (l : List Float) : V := .p (.sl (l.map encFloat))
abbrev vFloat (f : Float) : V := .agg [.p (.int .i64 f.c), .p (.int .i64 f.h), .p (.int .i64 f.w)]

structure Geom where
  cols : Int
  wide : Int
  gap : Int
  high : Int
  first : Int
  grid : Int
  rule : Int
  sep : Int
  noteMost : Int
  topMost : Int
  botMost : Int
  topMany : Int
  botMany : Int
  club : Int
  widow : Int
  split : Int
  defer : Int
  spare : Int
  balance : Bool
  deriving Inhabited, DecidableEq
abbrev cGeom (g : Geom) : List V := [.p (.int .i64 g.cols), .p (.int .i64 g.wide), .p (.int .i64 g.gap), .p (.int .i64 g.high), .p (.int .i64 g.first), .p (.int .i64 g.grid), .p (.int .i64 g.rule), .p (.int .i64 g.sep), .p (.int .i64 g.noteMost), .p (.int .i64 g.topMost),
  .p (.int .i64 g.botMost), .p (.int .i64 g.topMany), .p (.int .i64 g.botMany), .p (.int .i64 g.club), .p (.int .i64 g.widow), .p (.int .i64 g.split), .p (.int .i64 g.defer), .p (.int .i64 g.spare), .p (.bool g.balance)]
abbrev vGeom (g : Geom) : V := .agg (cGeom g)

structure Job where
  g : Geom
  items : List Item
  notes : List Note
  floats : List Float
  deriving Inhabited, DecidableEq
abbrev vJob (j : Job) : V := .agg (cGeom j.g ++ [vItems j.items, vNotes j.notes, vFloats j.floats])
end Go.EnvOf

/- Anchors: the first one that is out of order. -/
namespace Go.EnvOf
open Go Go.Eng

/-- The place of the first anchor of a kind that is out of order; -1: none. -/
def anchF (k : Int) : Nat → Nat → List Item → Int
  | _, _, [] => -1
  | i, n, x :: r => if x.k = k then (if x.n = n then anchF k (i + 1) (n + 1) r else i) else anchF k (i + 1) n r

/-! ### By the document -/
def ranchE (l : List Item) (k : Int) (H : Heap) (B : Nat) (p : Nat) (i : Nat) : St := ⟨[(0, vItems l), (1, .p (.int .i64 k)), (5, .p (.int .i64 p)), (6, .p (.int .i64 i))], [], H, B, []⟩

def ranchF (k : Int) (H : Heap) (B : Nat) (p i : Nat) (x : Item) : Nat ⊕ (Ex × St) := if x.k = k then (if x.n = p then .inl (p + 1) else .inr (.ret, ⟨[(4, .p (.int .i64 i))], [], H, B, []⟩)) else .inl p
def ranchX (l : List Item) (k : Int) (H : Heap) (B : Nat) (p : Nat) : Ex × St := (.exit 0, ⟨[(0, vItems l), (1, .p (.int .i64 k)), (5, .p (.int .i64 p)), (6, .p (.int .i64 l.length)), (10, .p (.bool false))], [], H, B, []⟩)
theorem ranch_rng (l : List Item) (k : Int) (H : Heap) (B : Nat) : ∀ (r : List Item) (p i : Nat), (∃ p', rng (ranchF k H B) (ranchX l k H B) p i r = ranchX l k H B p' ∧ anchF k i p r = -1) ∨
    ∃ j : Nat, rng (ranchF k H B) (ranchX l k H B) p i r = (.ret, ⟨[(4, .p (.int .i64 j))], [], H, B, []⟩) ∧ anchF k i p r = j
  | [], p, i => .inl ⟨p, rfl, rfl⟩
  | x :: r, p, i => by
    by_cases hk : x.k = k
    · by_cases hn : x.n = p
      · have := ranch_rng l k H B r (p + 1) (i + 1)
        simpa [rng, ranchF, anchF, hk, hn] using this
      · exact .inr ⟨i, by simp [rng, ranchF, hk, hn], by simp [anchF, hk, hn]⟩
    · have := ranch_rng l k H B r p (i + 1)
      simpa [rng, ranchF, anchF, hk] using this

/-! ### By the program -/
def anchE (l : List Item) (k : Int) (H : Heap) (n i : Nat) : St :=
  ⟨[(0, vItems l), (1, .fn (.func 136) [] [.ptr H.length 0, .ptr (H.length + 1) 0]), (7, .p (.int .i64 l.length)), (8, .p (.int .i64 i))], [], H ++ [.box [.p (.int .i64 k)], .box [.p (.int .i64 n)]], H.length + 2, List.replicate n (H.length + 1)⟩
def anchS (k : Int) (H : Heap) (n i : Nat) (x : Item) : Nat ⊕ (Ex × St) :=
  if x.k = k then (if x.n = n then .inl (n + 1) else .inr (.ret, ⟨[(4, .p (.int .i64 i))], [], H ++ [.box [.p (.int .i64 k)], .box [.p (.int .i64 ((n + 1 : Nat) : Int))]], H.length + 2, List.replicate (n + 1) (H.length + 1)⟩)) else .inl n
def anchX (l : List Item) (k : Int) (H : Heap) (n : Nat) : Ex × St :=
  (.exit 0, ⟨[(0, vItems l), (1, .fn (.func 136) [] [.ptr H.length 0, .ptr (H.length + 1) 0]), (7, .p (.int .i64 l.length)), (8, .p (.int .i64 l.length)), (9, .p (.bool false))], [], H ++ [.box [.p (.int .i64 k)], .box [.p (.int .i64 n)]], H.length + 2, List.replicate n (H.length + 1)⟩)

/-- The closure: an anchor that is out of order? -/
theorem anch1_ev (x : Item) (k : Int) (H : Heap) (n : Nat) (hn : n ≤ 1000000) : clD EE (.p (.fn 136)) [vItem x, .ptr H.length 0, .ptr (H.length + 1) 0] (H ++ [.box [.p (.int .i64 k)], .box [.p (.int .i64 n)]]) =
    if x.k = k then some (.p (.bool (!decide (x.n = n))), some (H ++ [.box [.p (.int .i64 k)], .box [.p (.int .i64 ((n + 1 : Nat) : Int))]], [H.length + 1])) else some (.p (.bool false), none) := by
  rw [clD_body _ _ _ _ _ _ (noP _) fn136]
  have w : IntKind.i64.wrap ((n : Int) + 1) = ((n + 1 : Nat) : Int) := w64 (by omega) (by omega)
  have w2 : IntKind.i64.wrap (n : Int) = (n : Int) := w64 (by omega) (by omega)
  by_cases hk : x.k = k
  · simp [vItem, St.enter, enumFrom, subs, setSubs, hk, w, w2]
  · simp [vItem, St.enter, enumFrom, subs, hk]

theorem anch_lp (l : List Item) (k : Int) (H : Heap) (hl : l.length ≤ 1000000) : ∀ (n i : Nat), n ≤ i → i ≤ l.length →
    evD EE lp100_0 (anchE l k H n i) = some (rng (anchS k H) (anchX l k H) n i (l.drop i)) := by
  unfold lp100_0
  refine evD_rng l (anchE l k H) (fun p i => p ≤ i) (anchS k H) (anchX l k H) (fun _ _ => rfl) ?_ ?_
  · intro n i x hp hx
    have hlt := (List.getElem?_eq_some_iff.1 hx).1
    have hix := fun H k => ixs_nat H encItem (k := k) (s := 7) hx rfl
    have w : IntKind.i64.wrap ((i : Int) + 1) = ((i + 1 : Nat) : Int) := w64 (by omega) (by omega)
    have hc := anch1_ev x k H n (by omega)
    simp only [vItem] at hc
    by_cases hk : x.k = k
    · by_cases hn : x.n = n
      · simp [hk, hn] at hc
        simp [anchS, anchE, vItems, hlt, hix, encItem, subs, hk, hn, w, hc, List.replicate_succ]
        omega
      · simp [hk, hn] at hc
        simp [anchS, anchE, vItems, hlt, hix, encItem, subs, hk, hn, hc, List.replicate_succ]
    · simp [hk] at hc
      simp [anchS, anchE, vItems, hlt, hix, encItem, subs, hk, w, hc]
      omega
  · intro n hn
    simp [anchE, anchX, vItems]

theorem anch_rng (l : List Item) (k : Int) (H : Heap) : ∀ (r : List Item) (n i : Nat), (∃ n', rng (anchS k H) (anchX l k H) n i r = anchX l k H n' ∧ anchF k i n r = -1) ∨
    ∃ j m : Nat, rng (anchS k H) (anchX l k H) n i r = (.ret, ⟨[(4, .p (.int .i64 j))], [], H ++ [.box [.p (.int .i64 k)], .box [.p (.int .i64 ((m + 1 : Nat) : Int))]], H.length + 2, List.replicate (m + 1) (H.length + 1)⟩) ∧ anchF k i n r = j
  | [], n, i => .inl ⟨n, rfl, rfl⟩
  | x :: r, n, i => by
    by_cases hk : x.k = k
    · by_cases hn : x.n = n
      · have := anch_rng l k H r (n + 1) (i + 1)
        simpa [rng, anchS, anchF, hk, hn] using this
      · exact .inr ⟨i, n, by simp [rng, anchS, hk, hn], by simp [anchF, hk, hn]⟩
    · have := anch_rng l k H r n (i + 1)
      simpa [rng, anchS, anchF, hk] using this

theorem addDs_own (B : Nat) (id : Nat) (h : ¬ id < B) : ∀ n, (List.replicate n id).foldr (addD B) [] = []
  | 0 => rfl
  | n + 1 => by simp [List.replicate_succ, addDs_own B id h n, h]

theorem index_ev (l : List Item) (k : Int) (H : Heap) (hl : l.length ≤ 1000000) : ∃ n : Nat, clD EE (.p (.fn 100)) [vItems l, .fn (.func 136) [] [.ptr H.length 0, .ptr (H.length + 1) 0]] (H ++ [.box [.p (.int .i64 k)], .box [.p (.int .i64 0)]]) =
    some (.p (.int .i64 (anchF k 0 0 l)), if n = 0 then none else some (H ++ [.box [.p (.int .i64 k)], .box [.p (.int .i64 n)]], List.replicate n (H.length + 1))) := by
  rw [clD_body _ _ _ _ _ _ (noP _) fn100]
  have key := anch_lp l k H hl 0 0 (by simp) (by simp)
  rcases anch_rng l k H l 0 0 with ⟨n', h1, h2⟩ | ⟨j, m, h1, h2⟩
  · refine ⟨n', ?_⟩
    simp [h1, anchE, anchX] at key
    by_cases hz : n' = 0
    · subst hz; simp at key; simp [St.enter, enumFrom, key, h2]
    · simp [St.enter, enumFrom, key, h2, hz]
  · refine ⟨m + 1, ?_⟩
    simp [h1, anchE] at key
    simp [St.enter, enumFrom, key, h2, List.replicate_succ]

theorem anch_ev (l : List Item) (k : Int) (H : Heap) (hl : l.length ≤ 1000000) : clD EE (.p (.fn 134)) [vItems l, .p (.int .i64 k)] H = some (.p (.int .i64 (anchF k 0 0 l)), none) := by
  rw [clD_body _ _ _ _ _ _ (noP _) fn134]
  obtain ⟨n, hn⟩ := index_ev l k H hl
  simp only [vItems] at hn
  by_cases hz : n = 0
  · simp [hz] at hn
    simp [St.enter, enumFrom, vItems, setSubs, hn]
  · simp [hz] at hn
    simp [St.enter, enumFrom, vItems, setSubs, hn, addDs_own]
end Go.EnvOf

/- Floats: the one at a place. -/
namespace Go.EnvOf
open Go Go.Eng
set_option maxRecDepth 100000
/-! ### The float at a place -/
def atF (l : List Float) (i : Int) : Option Float := if 0 ≤ i ∧ i < l.length then some (rd l i) else none
theorem at_ev (l : List Float) (i : Int) (H : Heap) : clD EE (.p (.fn 90)) [vFloats l, vI i] H = some (.tup [match atF l i with | some f => vFloat f | none => .agg [vI 0, vI 0, vI 0], vB (atF l i).isSome], none) := by
  rw [clD_body _ _ _ _ _ _ (noP _) fn90]
  unfold atF
  by_cases h1 : i < 0
  · simp [St.enter, enumFrom, subs, setSubs, h1, show ¬ 0 ≤ i by omega]
  by_cases h2 : (l.length : Int) ≤ i
  · simp [St.enter, enumFrom, subs, setSubs, h1, h2, show ¬ i < l.length by omega]
  have hx := rd_get l i (by omega) (by omega)
  have hix := fun H k => ixs_int H encFloat (k := k) (s := 3) (by omega) hx rfl
  simp [St.enter, enumFrom, subs, setSubs, h1, h2, show 0 ≤ i ∧ i < l.length by omega, hix, encFloat]
end Go.EnvOf

/- Searching and comparing lists: the library's functions, whatever the elements are. -/
namespace Go.Eng
open Go

/-- The place of the first one of which it holds; -1: of none. -/
def idxF {α : Type} (p : α → Bool) : Nat → List α → Int
  | _, [] => -1
  | i, x :: r => if p x = true then i else idxF p (i + 1) r
theorem idxF_any {α : Type} (p : α → Bool) : ∀ (i : Nat) (l : List α), decide (0 ≤ idxF p i l) = l.any p
  | _, [] => rfl
  | i, x :: r => by
    simp only [idxF, List.any_cons]
    by_cases h : p x = true
    · simp [h]
    · simp [h, idxF_any p (i + 1) r]
theorem idxF_lo {α : Type} (p : α → Bool) : ∀ (i : Nat) (l : List α), -1 ≤ idxF p i l
  | _, [] => by simp [idxF]
  | i, x :: r => by
    simp only [idxF]
    split
    · omega
    · exact idxF_lo p (i + 1) r
theorem idxF_hi {α : Type} (p : α → Bool) : ∀ (i : Nat) (l : List α), idxF p i l ≤ i + l.length
  | _, [] => by simp [idxF]
  | i, x :: r => by
    simp only [idxF, List.length_cons]
    split
    · omega
    · have := idxF_hi p (i + 1) r; omega

/-- A loop that ends as soon as something holds. -/
theorem rng_first {α ρ : Type} (p : α → Bool) (hit : Nat → α → ρ) (fin : ρ) : ∀ (l : List α) (i : Nat),
    rng (fun (_ : Unit) i x => if p x = true then .inr (hit i x) else .inl ()) (fun _ => fin) () i l = (match l.findIdx? p with | some k => (match l[k]? with | some x => hit (i + k) x | none => fin) | none => fin)
  | [], _ => rfl
  | x :: r, i => by
    simp only [rng, List.findIdx?_cons]
    cases h : p x with
    | true => simp
    | false =>
      simp only [Bool.false_eq_true, if_false]
      rw [rng_first p hit fin r (i + 1)]
      cases r.findIdx? p with
      | none => rfl
      | some k => simp only [Option.map_some, List.getElem?_cons_succ]; rw [show i + 1 + k = i + (k + 1) by omega]
theorem idxF_find {α : Type} (p : α → Bool) : ∀ (l : List α) (i : Nat), idxF p i l = (match l.findIdx? p with | some k => ((i + k : Nat) : Int) | none => -1)
  | [], _ => rfl
  | x :: r, i => by
    simp only [idxF, List.findIdx?_cons]
    cases h : p x with
    | true => simp
    | false =>
      simp only [Bool.false_eq_true, if_false]
      rw [idxF_find p r (i + 1)]
      cases r.findIdx? p with
      | none => rfl
      | some k => simp only [Option.map_some]; congr 1; omega
theorem findIdx_get {α : Type} {p : α → Bool} : ∀ {l : List α} {k : Nat}, l.findIdx? p = some k → ∃ x, l[k]? = some x
  | [], k, h => by simp at h
  | x :: r, k, h => by
    rw [List.findIdx?_cons] at h
    cases hp : p x with
    | true => rw [hp] at h; simp at h; subst h; exact ⟨x, rfl⟩
    | false =>
      rw [hp] at h
      simp only [Bool.false_eq_true, if_false] at h
      cases hk : r.findIdx? p with
      | none => rw [hk] at h; simp at h
      | some m =>
        rw [hk] at h; simp at h; subst h
        obtain ⟨y, hy⟩ := findIdx_get hk
        exact ⟨y, by simpa using hy⟩

/-- A loop that ends as soon as something holds, always alike. -/
def stepB {α ρ : Type} (p : α → Bool) (bad : ρ) (_ : Unit) (_ : Nat) (x : α) : Unit ⊕ ρ := if p x = true then .inr bad else .inl ()
theorem rng_any {α ρ : Type} (p : α → Bool) (bad fin : ρ) : ∀ (l : List α) (i : Nat), rng (stepB p bad) (fun _ => fin) () i l = if l.any p = true then bad else fin
  | [], _ => rfl
  | x :: r, i => by
    simp only [rng, List.any_cons, stepB]
    by_cases h : p x = true
    · simp [h]
    · have ih := rng_any p bad fin r (i + 1)
      simp only [h, Bool.false_eq_true, if_false, Bool.false_or]
      exact ih

/-- The same, whatever the place is. -/
def stepI {α ρ : Type} (p : Nat → α → Bool) (bad : ρ) (_ : Unit) (i : Nat) (x : α) : Unit ⊕ ρ := if p i x = true then .inr bad else .inl ()
def anyI {α : Type} (p : Nat → α → Bool) : Nat → List α → Bool
  | _, [] => false
  | i, x :: r => p i x || anyI p (i + 1) r
theorem rng_anyI {α ρ : Type} (p : Nat → α → Bool) (bad fin : ρ) : ∀ (l : List α) (i : Nat), rng (stepI p bad) (fun _ => fin) () i l = if anyI p i l = true then bad else fin
  | [], _ => rfl
  | x :: r, i => by
    simp only [rng, anyI, stepI]
    by_cases h : p i x = true
    · simp [h]
    · have ih := rng_anyI p bad fin r (i + 1)
      simp only [h, Bool.false_eq_true, if_false, Bool.false_or]
      exact ih

/-- A loop that ends with the place of the first one of which something holds. -/
def stepH {α ρ : Type} (p : α → Bool) (hit : Int → ρ) (_ : Unit) (i : Nat) (x : α) : Unit ⊕ ρ := if p x = true then .inr (hit i) else .inl ()
theorem rng_hit {α ρ : Type} (p : α → Bool) (hit : Int → ρ) (fin : ρ) : ∀ (l : List α) (i : Nat), rng (stepH p hit) (fun _ => fin) () i l = if 0 ≤ idxF p i l then hit (idxF p i l) else fin
  | [], _ => rfl
  | x :: r, i => by
    simp only [rng, stepH, idxF]
    by_cases h : p x = true
    · simp [h]
    · simp only [h, Bool.false_eq_true, if_false]
      exact rng_hit p hit fin r (i + 1)

/-! ### IndexFunc -/
def idxL (s : Nat) (agg : Bool) : IC :=
  (.loop [0, 1, 7, 8] [] (.seq (.reg false [⟨some 9, none, .bin .lss (.t 8) (.t 7)⟩] [0, 1, 7, 8, 9] [])
      (.seq (.cond (.t 9) .skip (.exit 0))
      (.seq (.block 1 (.seq (.reg false [⟨some 10, none, .mov (.t 8)⟩, ⟨some 5, none, .mov (.t 10)⟩] [0, 1, 5, 7, 8] [])
        (.seq (.reg false [⟨some 11, none, .mov (.t 1)⟩, ⟨some 12, none, .mov (.t 0)⟩, ⟨some 13, none, .mov (.t 5)⟩, ⟨some 14, none, .ixs (.t 12) (.t 13) s⟩, ⟨some 15, none, .ld (.t 14) s agg⟩, ⟨some 16, none, .callv (.t 11) [.t 15] false⟩] [0, 1, 5, 7, 8, 16] [])
        (.cond (.t 16) (.seq (.reg false [⟨some 17, none, .mov (.t 5)⟩, ⟨some 4, none, .mov (.t 17)⟩] [4] []) .ret) .skip))))
      (.reg false [⟨some 18, none, .bin .add (.t 8) (.c (.p (.int .i64 1)))⟩, ⟨some 8, none, .mov (.t 18)⟩] [0, 1, 7, 8] [])))))
def idxI (s : Nat) (agg : Bool) : IFn := ⟨(.seq (.reg false [⟨some 4, none, .mov (.c (.p (.int .i64 0)))⟩] [0, 1] [])
  (.seq (.seq (.reg false [⟨some 6, none, .mov (.t 0)⟩, ⟨some 7, none, .len (.t 6)⟩, ⟨some 8, none, .mov (.c (.p (.int .i64 0)))⟩] [0, 1, 7, 8] []) (.block 0 (idxL s agg)))
  (.seq (.reg false [⟨some 4, none, .mov (.c (.p (.int .i64 (-1))))⟩] [4] []) .ret))), [.tmp 4], false⟩

section
variable {α : Type} {E : Env} (f : FuncId) (s : Nat) (agg : Bool) (enc : α → List PV) (val : α → V)
def idxE (l : List α) (hv : V) (H : Heap) (B : Nat) (i : Nat) : St := ⟨[(0, .p (.sl (l.map enc))), (1, hv), (7, vI l.length), (8, vI i)], [], H, B, []⟩
def idxX (l : List α) (hv : V) (H : Heap) (B : Nat) : Ex × St := (.exit 0, ⟨[(0, .p (.sl (l.map enc))), (1, hv), (7, vI l.length), (8, vI l.length), (9, .p (.bool false))], [], H, B, []⟩)
def idxR (H : Heap) (B : Nat) (i : Nat) : Ex × St := (.ret, ⟨[(4, vI i)], [], H, B, []⟩)
theorem idx_lp (hs : ∀ x, (enc x).length = s) (hval : ∀ x, aggOr agg ((enc x).map .p) = some (val x)) (hout : ∀ x, (normA (val x)).outB = true) (hnorm : ∀ x, normA (val x) = val x) (l : List α) (hn : l.length ≤ 9223372036854775806) (hv : V) (p : α → Bool) (H : Heap) (B : Nat)
    (hH : ∀ x ∈ l, clD E hv [val x] H = some (vB (p x), none)) :
    evD E (idxL s agg) (idxE enc l hv H B 0) = some (rng (fun (_ : Unit) i x => if p x = true then .inr (idxR H B i) else .inl ()) (fun _ => idxX enc l hv H B) () 0 l) := by
  unfold idxL
  refine evD_rng l (fun (_ : Unit) i => idxE enc l hv H B i) (fun _ _ => True) (fun (_ : Unit) i x => if p x = true then .inr (idxR H B i) else .inl ()) (fun _ => idxX enc l hv H B) (fun _ _ => rfl) ?_ ?_ () 0 trivial (Nat.zero_le _)
  · rintro _ i x - hx
    have hlt := (List.getElem?_eq_some_iff.1 hx).1
    have w : IntKind.i64.wrap ((i : Int) + 1) = ((i + 1 : Nat) : Int) := w64 (by omega) (by omega)
    have hc := hH x (List.mem_of_getElem? hx)
    have hix := fun H k => ixs_nat H enc (k := k) (s := s) hx (hs x)
    have hsub : subs ((enc x).map V.p) 0 s = some ((enc x).map V.p) := by simp [subs, hs x, List.take_of_length_le]
    have ho := hout x
    cases hp : p x with
    | true =>
      rw [hp] at hc
      simp [idxE, idxR, hlt, hix, hsub, hval, hnorm, hc]
      rw [hnorm] at ho
      simp [ho]
    | false =>
      rw [hp] at hc
      rw [hnorm] at ho
      simp [idxE, hlt, hix, hsub, hval, hnorm, ho, hc, w]
  · rintro _ -
    simp [idxE, idxX]
theorem idx_ev (hp : E.prims f = none) (hf : E.fns f = some (idxI s agg)) (hs : ∀ x, (enc x).length = s) (hval : ∀ x, aggOr agg ((enc x).map .p) = some (val x)) (hout : ∀ x, (normA (val x)).outB = true) (hnorm : ∀ x, normA (val x) = val x)
    (l : List α) (hn : l.length ≤ 9223372036854775806) (hv : V) (p : α → Bool) (H : Heap) (hH : ∀ x ∈ l, clD E hv [val x] H = some (vB (p x), none)) :
    clD E (.p (.fn f)) [.p (.sl (l.map enc)), hv] H = some (vI (idxF p 0 l), none) := by
  rw [clD_body E f _ _ _ _ hp hf]
  have key := idx_lp s agg enc val hs hval hout hnorm l hn hv p H H.length hH
  rw [rng_first p (fun i _ => idxR H H.length i)] at key
  rw [idxF_find]
  cases hk : l.findIdx? p with
  | none =>
    rw [hk] at key
    simp [idxE, idxX] at key
    simp [St.enter, enumFrom, key]
  | some k =>
    obtain ⟨x, hx⟩ := findIdx_get hk
    rw [hk] at key
    simp only [hx] at key
    simp [idxE, idxR] at key
    simp [St.enter, enumFrom, key]
end

/-! ### ContainsFunc -/
def conI (g : FuncId) : IFn := ⟨(.seq (.reg false [⟨some 4, none, .mov (.c (.p (.bool false)))⟩] [0, 1] [])
  (.seq (.reg false [⟨some 5, none, .mov (.t 0)⟩, ⟨some 6, none, .mov (.t 1)⟩, ⟨some 7, none, .call g [.t 5, .t 6] false⟩, ⟨some 8, none, .bin .geq (.t 7) (.c (.p (.int .i64 0)))⟩, ⟨some 4, none, .mov (.t 8)⟩] [4] []) .ret)), [.tmp 4], false⟩
theorem con_ev {α : Type} {E : Env} (f g : FuncId) (hp : E.prims f = none) (hf : E.fns f = some (conI g)) (x hv : V) (p : α → Bool) (l : List α) (H : Heap) (hx : (normA x).outB = true) (hx2 : normA x = x) (ho : (normA hv).outB = true) (ho2 : normA hv = hv)
    (h : clD E (.p (.fn g)) [x, hv] H = some (vI (idxF p 0 l), none)) : clD E (.p (.fn f)) [x, hv] H = some (vB (l.any p), none) := by
  rw [clD_body E f _ _ _ _ hp hf, ← idxF_any p 0 l]
  rw [hx2] at hx
  rw [ho2] at ho
  simp [St.enter, enumFrom, hx2, hx, ho2, ho, h]

/-! ### Two lists, side by side -/
/-- Whether all pairs are such, up to the shorter one. -/
def all2 {α β : Type} (p : α → β → Bool) : List α → List β → Bool
  | x :: r, y :: s => p x y && all2 p r s
  | _, _ => true
theorem all2_eq {α : Type} [DecidableEq α] : ∀ (a b : List α), a.length = b.length → all2 (fun x y => decide (x = y)) a b = decide (a = b)
  | [], [], _ => rfl
  | x :: r, y :: s, h => by
    have ih := all2_eq r s (by simpa using h)
    simp only [all2, ih]
    by_cases hx : x = y <;> simp [hx]
/-- A loop through two lists at once: its step. -/
def step2 {α β ρ : Type} (p : α → β → Bool) (b : List β) (bad : ρ) (_ : Unit) (i : Nat) (x : α) : Unit ⊕ ρ := match b[i]? with | some y => (if p x y = true then .inl () else .inr bad) | none => .inr bad
theorem step2_some {α β ρ : Type} {p : α → β → Bool} {b : List β} {bad : ρ} {u : Unit} {i : Nat} {x : α} {y : β} (h : b[i]? = some y) : step2 p b bad u i x = if p x y = true then .inl () else .inr bad := by unfold step2; rw [h]
theorem rng_all2 {α β ρ : Type} (p : α → β → Bool) (b : List β) (bad fin : ρ) : ∀ (l : List α) (i : Nat), i + l.length ≤ b.length →
    rng (step2 p b bad) (fun _ => fin) () i l = if all2 p l (b.drop i) = true then fin else bad
  | [], i, _ => by simp [rng, all2]
  | x :: r, i, h => by
    simp only [List.length_cons] at h
    have hi : i < b.length := by omega
    rw [List.drop_eq_getElem_cons hi]
    simp only [rng, all2, step2_some (List.getElem?_eq_getElem hi)]
    by_cases hp : p x b[i] = true
    · have ih := rng_all2 p b bad fin r (i + 1) (by omega)
      simp only [hp, if_true, Bool.true_and]
      exact ih
    · simp [hp]

/-! ### slices.Equal -/
def eqL (s : Nat) (sh : List Bool) : IC := (.loop [0, 1, 12, 13] [] (.seq (.reg false [⟨some 14, none, .bin .lss (.t 13) (.t 12)⟩] [0, 1, 12, 13, 14] [])
      (.seq (.cond (.t 14) .skip (.exit 0))
      (.seq (.block 1 (.seq (.reg false [⟨some 15, none, .mov (.t 13)⟩, ⟨some 5, none, .mov (.t 15)⟩] [0, 1, 5, 12, 13] [])
        (.seq (.reg true [⟨some 16, none, .mov (.t 0)⟩, ⟨some 17, none, .mov (.t 5)⟩, ⟨some 18, none, .ixs (.t 16) (.t 17) s⟩, ⟨some 19, none, .ld (.t 18) s true⟩, ⟨some 20, none, .mov (.t 1)⟩, ⟨some 21, none, .mov (.t 5)⟩,
          ⟨some 22, none, .ixs (.t 20) (.t 21) s⟩, ⟨some 23, none, .ld (.t 22) s true⟩, ⟨some 24, none, .eqa true sh (.t 19) (.t 23)⟩] [0, 1, 12, 13, 24] [])
        (.cond (.t 24) (.seq (.reg false [⟨some 4, none, .mov (.c (.p (.bool false)))⟩] [4] []) .ret) .skip))))
      (.reg false [⟨some 25, none, .bin .add (.t 13) (.c (.p (.int .i64 1)))⟩, ⟨some 13, none, .mov (.t 25)⟩] [0, 1, 12, 13] [])))))
def eqI (s : Nat) (sh : List Bool) : IFn := ⟨(.seq (.reg false [⟨some 4, none, .mov (.c (.p (.bool false)))⟩] [0, 1] [])
  (.seq (.seq (.reg false [⟨some 6, none, .mov (.t 0)⟩, ⟨some 7, none, .len (.t 6)⟩, ⟨some 8, none, .mov (.t 1)⟩, ⟨some 9, none, .len (.t 8)⟩, ⟨some 10, none, .bin .neq (.t 7) (.t 9)⟩] [0, 1, 10] [])
  (.cond (.t 10) (.seq (.reg false [⟨some 4, none, .mov (.c (.p (.bool false)))⟩] [4] []) .ret) .skip))
  (.seq (.seq (.reg false [⟨some 11, none, .mov (.t 0)⟩, ⟨some 12, none, .len (.t 11)⟩, ⟨some 13, none, .mov (.c (.p (.int .i64 0)))⟩] [0, 1, 12, 13] []) (.block 0 (eqL s sh)))
  (.seq (.reg false [⟨some 4, none, .mov (.c (.p (.bool true)))⟩] [4] []) .ret)))), [.tmp 4], false⟩

section
variable {α : Type} [DecidableEq α] {E : Env} (f : FuncId) (s : Nat) (sh : List Bool) (enc : α → List PV)
def eqE (a b : V) (n : Nat) (H : Heap) (B : Nat) (i : Nat) : St := ⟨[(0, a), (1, b), (12, vI n), (13, vI i)], [], H, B, []⟩
def eqX (a b : V) (n : Nat) (H : Heap) (B : Nat) : Ex × St := (.exit 0, ⟨[(0, a), (1, b), (12, vI n), (13, vI n), (14, .p (.bool false))], [], H, B, []⟩)
def eqBad (H : Heap) (B : Nat) : Ex × St := (.ret, ⟨[(4, vB false)], [], H, B, []⟩)
theorem eq_ev (hp : E.prims f = none) (hf : E.fns f = some (eqI s sh)) (hs : ∀ x, (enc x).length = s) (hagg : ∀ x, aggOr true ((enc x).map .p) = some (.agg ((enc x).map .p))) (heq : ∀ x y, eqCells sh ((enc x).map .p) ((enc y).map .p) = some (decide (x = y)))
    (a b : List α) (hn : a.length ≤ 9223372036854775806) (H : Heap) : clD E (.p (.fn f)) [.p (.sl (a.map enc)), .p (.sl (b.map enc))] H = some (vB (decide (a = b)), none) := by
  rw [clD_body E f _ _ _ _ hp hf]
  by_cases hl : a.length = b.length
  · have key : evD E (eqL s sh) (eqE (.p (.sl (a.map enc))) (.p (.sl (b.map enc))) a.length H H.length 0) = some (rng (step2 (fun x y => decide (x = y)) b (eqBad H H.length)) (fun _ => eqX (.p (.sl (a.map enc))) (.p (.sl (b.map enc))) a.length H H.length) () 0 a) := by
      unfold eqL
      refine evD_rng a (fun (_ : Unit) i => eqE (.p (.sl (a.map enc))) (.p (.sl (b.map enc))) a.length H H.length i) (fun _ _ => True) _ (fun _ => eqX (.p (.sl (a.map enc))) (.p (.sl (b.map enc))) a.length H H.length) (fun _ _ => rfl) ?_ ?_ () 0 trivial (Nat.zero_le _)
      · rintro _ i x - hx
        have hlt := (List.getElem?_eq_some_iff.1 hx).1
        have hy : b[i]? = some (b[i]'(by omega)) := List.getElem?_eq_getElem (by omega)
        generalize (b[i]'(by omega)) = y at hy
        have w : IntKind.i64.wrap ((i : Int) + 1) = ((i + 1 : Nat) : Int) := w64 (by omega) (by omega)
        have hix := fun H k => ixs_nat H enc (k := k) (s := s) hx (hs x)
        have hiy := fun H k => ixs_nat H enc (k := k) (s := s) hy (hs y)
        have hsub : ∀ x, subs ((enc x).map V.p) 0 s = some ((enc x).map V.p) := fun x => by simp [subs, hs x, List.take_of_length_le]
        rw [step2_some hy]
        by_cases hxy : x = y
        · simp [eqE, hlt, hix, hiy, hsub, hagg, heq, hxy, w]
        · simp [eqE, eqBad, hlt, hix, hiy, hsub, hagg, heq, hxy]
      · rintro _ -
        simp [eqE, eqX]
    rw [rng_all2 (fun x y => decide (x = y)) b (eqBad H H.length) (eqX (.p (.sl (a.map enc))) (.p (.sl (b.map enc))) a.length H H.length) a 0 (by omega), List.drop_zero, all2_eq a b hl] at key
    have hl' : (a.length : Int) = b.length := by omega
    by_cases h : a = b
    · rw [if_pos (by simpa using h)] at key
      subst h
      simp [eqE, eqX] at key
      simp [St.enter, enumFrom, key]
    · rw [if_neg (by simpa using h)] at key
      simp [eqE, eqBad, hl] at key
      simp [St.enter, enumFrom, hl', key, h]
  · have hl' : ¬ (a.length : Int) = b.length := by omega
    have h : a ≠ b := by rintro rfl; exact hl rfl
    simp [St.enter, enumFrom, hl', h]
end
end Go.Eng

/- Areas: what fits. -/
namespace Go.EnvOf
open Go Go.Eng
set_option maxRecDepth 100000
/-! ### Where may it go? -/
def bitV (n m : Int) : Int := IntKind.i64.wrap (BitVec.ofInt 64 n &&& BitVec.ofInt 64 m).toNat
theorem and_v (n m : Int) : binV .and (vI n) (vI m) = some (vI (bitV n m)) := rfl
def bitB (m n : Int) : Bool := !decide (bitV n m = 0)
theorem btop_ev (n : Int) (H : Heap) : clD EE (.p (.fn 114)) [vI n] H = some (vB (bitB 1 n), none) := by
  rw [clD_body _ _ _ _ _ _ (noP _) fn114]
  have h := and_v n 1
  simp [St.enter, enumFrom, h, bitB]
theorem bbot_ev (n : Int) (H : Heap) : clD EE (.p (.fn 116)) [vI n] H = some (vB (bitB 2 n), none) := by
  rw [clD_body _ _ _ _ _ _ (noP _) fn116]
  have h := and_v n 2
  simp [St.enter, enumFrom, h, bitB]
theorem fmay_ev (x : Float) (k : Nat) (p : Int → Bool) (h : ∀ n H, clD EE (.p (.fn k)) [vI n] H = some (vB (p n), none)) (H : Heap) : clD EE (.p (.fn 113)) [vFloat x, .p (.fn k)] H = some (vB (p x.w), none) := by
  rw [clD_body _ _ _ _ _ _ (noP _) fn113]
  simp [St.enter, enumFrom, subs, h]
def topB (x : Float) : Bool := bitB 1 x.w
def botB (x : Float) : Bool := bitB 2 x.w
theorem top_ev (x : Float) (H : Heap) : clD EE (.p (.fn 89)) [vFloat x] H = some (vB (topB x), none) := by
  rw [clD_body _ _ _ _ _ _ (noP _) fn89]
  have h := fun H => fmay_ev x _ _ btop_ev H
  simp [St.enter, enumFrom, subs, h, topB]
theorem bot_ev (x : Float) (H : Heap) : clD EE (.p (.fn 92)) [vFloat x] H = some (vB (botB x), none) := by
  rw [clD_body _ _ _ _ _ _ (noP _) fn92]
  have h := fun H => fmay_ev x _ _ bbot_ev H
  simp [St.enter, enumFrom, subs, h, botB]

/-! ### How high are these? -/
abbrev fz : Int := 1125899906842624
def hz (n : Int) : Int := min (max n 0) fz
theorem hz_ev (n : Int) (H : Heap) : clD EE (.p (.fn 115)) [vI n] H = some (vI (hz n), none) := by
  rw [clD_body _ _ _ _ _ _ (noP _) fn115]
  simp [St.enter, enumFrom, hz]
theorem hz_in (n : Int) : 0 ≤ hz n ∧ hz n ≤ fz := by unfold hz fz; omega
def hiS (l : List Float) (sep : Int) (s : Int) (x : Int) : Int := match atF l x with | some f => hz (s + hz f.h + hz sep) | none => s
def highQ (l : List Float) (xs : List Int) (sep : Int) : Int := xs.foldl (hiS l sep) 0
def fhE (l : List Float) (xs : List Int) (sep : Int) (H : Heap) (s : Int) (i : Nat) : St :=
  ⟨[(0, vFloats l), (2, vI sep), (7, .p (.fn 115)), (8, vI s), (13, sli xs), (14, vI xs.length), (15, vI i)], [], H, H.length, []⟩
def fhX (l : List Float) (xs : List Int) (sep : Int) (H : Heap) (s : Int) : Ex × St :=
  (.exit 0, ⟨[(0, vFloats l), (2, vI sep), (7, .p (.fn 115)), (8, vI s), (13, sli xs), (14, vI xs.length), (15, vI xs.length), (16, vB false)], [], H, H.length, []⟩)
theorem foldG {σ α : Type} (f : σ → α → σ) : ∀ (l : List α) (s : σ) (i : Nat), fold (fun s _ x => f s x) s i l = l.foldl f s
  | [], _, _ => rfl
  | x :: r, s, i => by simp only [fold, List.foldl_cons, foldG f r]
theorem fh_lp (l : List Float) (xs : List Int) (sep : Int) (H : Heap) (hx : xs.length ≤ 1000000) : evD EE lp91_0 (fhE l xs sep H 0 0) = some (fhX l xs sep H (highQ l xs sep)) := by
  unfold lp91_0
  refine Eq.trans (evD_fold xs (fhE l xs sep H) (fun s _ => 0 ≤ s ∧ s ≤ fz) (fun s _ x => hiS l sep s x) (fhX l xs sep H) (fun _ _ => rfl) ?_ ?_ 0 0 (by simp) (Nat.zero_le _)) (by rw [List.drop_zero, foldG]; rfl)
  · intro s i x hi hp
    have hlt := (List.getElem?_eq_some_iff.1 hp).1
    have hix := fun H k => ixs_nat H encI (k := k) (s := 1) hp rfl
    have ha := fun H => at_ev l x H
    have w : IntKind.i64.wrap ((i : Int) + 1) = ((i + 1 : Nat) : Int) := w64 (by omega) (by omega)
    unfold hiS
    cases hat : atF l x with
    | none =>
      rw [hat] at ha
      refine ⟨?_, hi⟩
      simp [fhE, hlt, hix, encI, subs, setSubs, ha, w]
    | some f =>
      rw [hat] at ha
      simp only at ha ⊢
      refine ⟨?_, hz_in _⟩
      have h1 := hz_in f.h
      have h2 := hz_in sep
      simp only [fz] at h1 h2 hi
      have w1 : IntKind.i64.wrap (s + hz f.h) = s + hz f.h := w64 (by omega) (by omega)
      have w2 : IntKind.i64.wrap (s + hz f.h + hz sep) = s + hz f.h + hz sep := w64 (by omega) (by omega)
      simp [fhE, hlt, hix, encI, subs, setSubs, ha, w, hz_ev, w1, w2]
  · intro s hi
    refine ⟨?_, by simp [fhX]⟩
    simp [fhE, fhX]
theorem fhigh_ev (l : List Float) (xs : List Int) (sep : Int) (H : Heap) (hx : xs.length ≤ 1000000) : clD EE (.p (.fn 91)) [vFloats l, sli xs, vI sep] H = some (vI (highQ l xs sep), none) := by
  rw [clD_body _ _ _ _ _ _ (noP _) fn91]
  have k := fh_lp l xs sep H hx
  simp [fhE, fhX] at k
  simp [St.enter, enumFrom, k]

/-! ### Does it fit? -/
def mayAt (p : Float → Bool) (l : List Float) (x : Int) : Bool := match atF l x with | some f => p f | none => false
def fitsF (many maxH : Int) (p : Float → Bool) (sep : Int) (l : List Float) (xs : List Int) : Bool :=
  decide ((xs.length : Int) ≤ many) && (xs.all (mayAt p l) && decide (highQ l xs sep ≤ maxH))
abbrev cPlace (many maxH : Int) (k : Nat) : List V := [vI many, vI maxH, .p (.fn k)]
def ftE (g : Geom) (many maxH : Int) (k : Nat) (l : List Float) (xs : List Int) (H : Heap) (i : Nat) : St :=
  ⟨[(2, vFloats l), (3, sli xs), (4, .lptr 4 0), (5, .lptr 5 0), (18, sli xs), (19, vI xs.length), (20, vI i)], [(4, cPlace many maxH k), (5, cGeom g)], H, H.length, []⟩
def ftX (g : Geom) (many maxH : Int) (k : Nat) (l : List Float) (xs : List Int) (H : Heap) : Ex × St :=
  (.exit 0, ⟨[(2, vFloats l), (3, sli xs), (4, .lptr 4 0), (5, .lptr 5 0), (18, sli xs), (19, vI xs.length), (20, vI xs.length), (21, vB false)], [(4, cPlace many maxH k), (5, cGeom g)], H, H.length, []⟩)
def ftB (H : Heap) : Ex × St := (.ret, ⟨[(8, vB false)], [], H, H.length, []⟩)
theorem ft_lp (g : Geom) (many maxH : Int) (k : Nat) (p : Float → Bool) (hp : ∀ x H, clD EE (.p (.fn k)) [vFloat x] H = some (vB (p x), none)) (l : List Float) (xs : List Int) (H : Heap) (hx : xs.length ≤ 1000000) :
    evD EE lp61_0 (ftE g many maxH k l xs H 0) = some (if xs.any (fun x => !mayAt p l x) = true then ftB H else ftX g many maxH k l xs H) := by
  unfold lp61_0
  refine Eq.trans (evD_rng xs (fun (_ : Unit) i => ftE g many maxH k l xs H i) (fun _ _ => True) (stepB (fun x => !mayAt p l x) (ftB H)) (fun _ => ftX g many maxH k l xs H) (fun _ _ => rfl) ?_ ?_ () 0 trivial (Nat.zero_le _)) (by rw [List.drop_zero, rng_any])
  · rintro _ i x - hx2
    have hlt := (List.getElem?_eq_some_iff.1 hx2).1
    have hix := fun H k => ixs_nat H encI (k := k) (s := 1) hx2 rfl
    have ha := fun H => at_ev l x H
    have w : IntKind.i64.wrap ((i : Int) + 1) = ((i + 1 : Nat) : Int) := w64 (by omega) (by omega)
    cases hat : atF l x with
    | none =>
      rw [hat] at ha
      have hm : mayAt p l x = false := by unfold mayAt; rw [hat]
      simp [stepB, hm, ftE, ftB, hlt, hix, encI, subs, setSubs, ha, w]
    | some f =>
      rw [hat] at ha
      have hm : mayAt p l x = p f := by unfold mayAt; rw [hat]
      simp only at ha
      have hpf := fun H => hp f H
      cases hb : p f with
      | true =>
        rw [hb] at hpf hm
        simp [stepB, hm, ftE, ftB, hlt, hix, encI, subs, setSubs, ha, w, hpf]
      | false =>
        rw [hb] at hpf hm
        simp [stepB, hm, ftE, ftB, hlt, hix, encI, subs, setSubs, ha, w, hpf]
  · rintro _ -
    refine ⟨?_, by simp [ftX]⟩
    simp [ftE, ftX]
theorem fits_ev (g : Geom) (many maxH : Int) (k : Nat) (p : Float → Bool) (hp : ∀ x H, clD EE (.p (.fn k)) [vFloat x] H = some (vB (p x), none)) (l : List Float) (xs : List Int) (H : Heap) (hx : xs.length ≤ 1000000) :
    clD EE (.p (.fn 61)) [.agg (cPlace many maxH k), vGeom g, vFloats l, sli xs] H = some (vB (fitsF many maxH p g.sep l xs), none) := by
  rw [clD_body _ _ _ _ _ _ (noP _) fn61]
  have key := ft_lp g many maxH k p hp l xs H hx
  have hh := fun H => fhigh_ev l xs g.sep H hx
  unfold fitsF
  have hany : xs.any (fun x => !mayAt p l x) = !xs.all (mayAt p l) := by rw [List.any_eq_not_all_not]; simp only [Bool.not_not]
  rw [hany] at key
  by_cases h1 : many < (xs.length : Int)
  · simp [St.enter, enumFrom, subs, setSubs, h1, show ¬ (xs.length : Int) ≤ many by omega]
  cases hall : xs.all (mayAt p l) with
  | false =>
    rw [hall] at key
    simp [ftE, ftB] at key
    simp [St.enter, enumFrom, subs, setSubs, h1, key]
  | true =>
    rw [hall] at key
    simp [ftE, ftX] at key
    simp [St.enter, enumFrom, subs, setSubs, h1, key, hh, show (xs.length : Int) ≤ many by omega]

abbrev topP (g : Geom) : List V := cPlace g.topMany g.topMost 89
abbrev botP (g : Geom) : List V := cPlace g.botMany g.botMost 92
theorem atop_ev (g : Geom) (H : Heap) : clD EE (.p (.fn 60)) [vGeom g] H = some (.agg (topP g), none) := by
  rw [clD_body _ _ _ _ _ _ (noP _) fn60]
  simp [St.enter, enumFrom, subs, setSubs]
theorem abot_ev (g : Geom) (H : Heap) : clD EE (.p (.fn 62)) [vGeom g] H = some (.agg (botP g), none) := by
  rw [clD_body _ _ _ _ _ _ (noP _) fn62]
  simp [St.enter, enumFrom, subs, setSubs]
def fitT (g : Geom) (l : List Float) (xs : List Int) : Bool := fitsF g.topMany g.topMost topB g.sep l xs
def fitB (g : Geom) (l : List Float) (xs : List Int) : Bool := fitsF g.botMany g.botMost botB g.sep l xs

abbrev Pr : Type := List Int × List Int
def encP (p : Pr) : List PV := [.sl (p.1.map encI), .sl (p.2.map encI)]
@[simp] theorem encP_len (x : Pr) : (encP x).length = 2 := rfl
abbrev vPs (l : List Pr) : V := .p (.sl (l.map encP))
abbrev vPair (p : Pr) : V := .agg [sli p.1, sli p.2]
theorem afits_ev (g : Geom) (l : List Float) (p : Pr) (H : Heap) (h1 : p.1.length ≤ 1000000) (h2 : p.2.length ≤ 1000000) : clD EE (.p (.fn 44)) [vGeom g, vFloats l, vPair p] H = some (vB (fitT g l p.1 && fitB g l p.2), none) := by
  rw [clD_body _ _ _ _ _ _ (noP _) fn44]
  have a := fun H => atop_ev g H
  have b := fun H => abot_ev g H
  have f1 := fun H => fits_ev g g.topMany g.topMost _ topB top_ev l p.1 H h1
  have f2 := fun H => fits_ev g g.botMany g.botMost _ botB bot_ev l p.2 H h2
  have e1 : fitsF g.topMany g.topMost topB g.sep l p.1 = fitT g l p.1 := rfl
  have e2 : fitsF g.botMany g.botMost botB g.sep l p.2 = fitB g l p.2 := rfl
  rw [e1] at f1
  rw [e2] at f2
  cases h : fitT g l p.1 with
  | true =>
    rw [h] at f1
    simp [St.enter, enumFrom, subs, setSubs, a, b, f1, f2]
  | false =>
    rw [h] at f1
    simp [St.enter, enumFrom, subs, setSubs, a, b, f1, f2]

end Go.EnvOf

/- Geometries that may be. -/
namespace Go.EnvOf
open Go Go.Eng

def inR (lo hi : Int) (l : List Int) : Bool := !l.any fun x => decide (x < lo) || decide (hi < x)
def wiE (x : V) (H : Heap) (p q : Nat) (n : Nat) (i : Nat) : St := ⟨[(1, .ptr p 0), (2, .ptr q 0), (7, x), (8, vI n), (9, vI i)], [], H, H.length, []⟩
def wiX (x : V) (H : Heap) (p q : Nat) (n : Nat) : Ex × St := (.exit 0, ⟨[(1, .ptr p 0), (2, .ptr q 0), (7, x), (8, vI n), (9, vI n), (10, vB false)], [], H, H.length, []⟩)
def wiB (H : Heap) : Ex × St := (.ret, ⟨[(4, vB false)], [], H, H.length, []⟩)
/-- A slice of numbers, as it is read. -/
structure Reads (H : Heap) (x : V) (l : List Int) : Prop where
  len : lenV x = some l.length
  at_ : ∀ (i : Nat) (v : Int), l[i]? = some v → ∃ a, ixsI H x (.p (.int .i64 (i : Int))) 1 = some a ∧ ∀ env loc base dirty, ldCells ⟨env, loc, H, base, dirty⟩ a 1 = some [vI v]
theorem reads_sl (H : Heap) (l : List Int) : Reads H (sli l) l := ⟨by simp, fun i v h => ⟨_, ixs_nat H encI h rfl, fun _ _ _ _ => rfl⟩⟩
theorem within_lp (l : List Int) (hn : l.length ≤ 1000000) (x : V) (H : Heap) (hx : Reads H x l) (p q : Nat) (lo hi : Int) (hp : Eng.boxAt H p = some [vI lo]) (hq : Eng.boxAt H q = some [vI hi]) :
    evD EE lp117_0 (wiE x H p q l.length 0) = some (if (l.any fun x => decide (x < lo) || decide (hi < x)) = true then wiB H else wiX x H p q l.length) := by
  unfold lp117_0
  refine Eq.trans (evD_rng l (fun (_ : Unit) i => wiE x H p q l.length i) (fun _ _ => True) (stepB (fun x => decide (x < lo) || decide (hi < x)) (wiB H)) (fun _ => wiX x H p q l.length) (fun _ _ => rfl) ?_ ?_ () 0 trivial (Nat.zero_le _)) (by rw [rng_any]; rfl)
  · rintro _ i v - hv
    have hlt := (List.getElem?_eq_some_iff.1 hv).1
    have w1 : IntKind.i64.wrap ((i : Int) + 1) = ((i + 1 : Nat) : Int) := w64 (by omega) (by omega)
    obtain ⟨a, ha, hl⟩ := hx.at_ i v hv
    have e1 : subs [vI lo] 0 1 = some [vI lo] := rfl
    have e2 : subs [vI hi] 0 1 = some [vI hi] := rfl
    by_cases c1 : v < lo
    · simp [stepB, wiE, wiB, hlt, ha, hl, hp, hq, e1, e2, c1]
    · by_cases c2 : hi < v
      · simp [stepB, wiE, wiB, hlt, ha, hl, hp, hq, e1, e2, c1, c2]
      · simp [stepB, wiE, hlt, ha, hl, hp, hq, e1, e2, c1, c2, w1]
  · rintro _ -
    simp [wiE, wiX]
theorem within1_ev (l : List Int) (hn : l.length ≤ 1000000) (x : V) (H : Heap) (hx : Reads H x l) (p q : Nat) (lo hi : Int) (hp : Eng.boxAt H p = some [vI lo]) (hq : Eng.boxAt H q = some [vI hi]) :
    clD EE (.p (.fn 117)) [x, .ptr p 0, .ptr q 0] H = some (vB (inR lo hi l), none) := by
  rw [clD_body _ _ _ _ _ _ (noP _) fn117]
  have key := within_lp l hn x H hx p q lo hi hp hq
  have hl := hx.len
  unfold inR
  cases b : l.any fun x => decide (x < lo) || decide (hi < x) with
  | true =>
    rw [b, if_pos rfl] at key
    simp [wiE, wiB] at key
    simp [St.enter, enumFrom, hl, key]
  | false =>
    rw [b, if_neg (by simp)] at key
    simp [wiE, wiX] at key
    simp [St.enter, enumFrom, hl, key]
/-- The other one is the same, of another type. -/
theorem within1s_ev (l : List Int) (hn : l.length ≤ 1000000) (x : V) (H : Heap) (hx : Reads H x l) (p q : Nat) (lo hi : Int) (hp : Eng.boxAt H p = some [vI lo]) (hq : Eng.boxAt H q = some [vI hi]) :
    clD EE (.p (.fn 118)) [x, .ptr p 0, .ptr q 0] H = some (vB (inR lo hi l), none) := by
  rw [← within1_ev l hn x H hx p q lo hi hp hq, clD_body _ _ _ _ _ _ (noP _) fn117, clD_body _ _ _ _ _ _ (noP _) fn118]
  rfl
theorem within_ev (a b : Int) (H : Heap) : clD EE (.p (.fn 97)) [vI a, vI b] H = some (.fn (.func 117) [] [.ptr H.length 0, .ptr (H.length + 1) 0], some (H ++ [.box [vI a], .box [vI b]], [])) := by
  rw [clD_body _ _ _ _ _ _ (noP _) fn97]
  simp [St.enter, enumFrom]
theorem withinS_ev (a b : Int) (H : Heap) : clD EE (.p (.fn 98)) [vI a, vI b] H = some (.fn (.func 118) [] [.ptr H.length 0, .ptr (H.length + 1) 0], some (H ++ [.box [vI a], .box [vI b]], [])) := by
  rw [clD_body _ _ _ _ _ _ (noP _) fn98]
  simp [St.enter, enumFrom]

def geomF (g : Geom) : Int :=
  if inR 1 8 [g.cols] = false then 6
  else if inR 1 1073741823 [g.wide, g.high] = false then 7
  else if inR 0 1073741823 [g.gap, g.noteMost, g.topMost, g.botMost] = false then 7
  else if inR 0 536870912 [g.rule, g.sep, g.grid] = false then 7
  else if inR 1 g.high [g.first] = false then 7
  else if inR 0 g.first [g.grid] = false then 7
  else if inR 0 4 [g.topMany, g.botMany] = false then 7
  else if inR 0 1048576 [g.club, g.widow, g.split, g.defer, g.spare] = false then 7
  else 0

theorem reads_bvs (H : Heap) (id : Nat) (l : List Int) (hb : Eng.boxAt H id = some (l.map vI)) : Reads H (.bvs id 0 l.length 1) l := by
  refine ⟨rfl, fun i v h => ?_⟩
  have hlt := (List.getElem?_eq_some_iff.1 h).1
  refine ⟨.ptr id i, by simp [ixsI, ixsV, hlt], fun env loc base dirty => ?_⟩
  have h2 : (l.map vI)[i]? = some (vI v) := by simp [h]
  obtain ⟨h3, h4⟩ := List.getElem?_eq_some_iff.1 h2
  have h5 : i + 1 ≤ (l.map vI).length := h3
  simp only [ld_ptr, hb, Option.bind_some, subs, h5, if_true]
  rw [List.drop_eq_getElem_cons h3, h4]; rfl
theorem slca_all (id n s : Nat) (h : n ≠ 0) : slcaV s n (.ptr id 0) none = some (.bvs id 0 n s) := by simp [slcaV, h]
theorem geomCheck_ev (g : Geom) (H : Heap) : clD EE (.p (.fn 73)) [vGeom g] H = some (vI (geomF g), none) := by
  rw [clD_body _ _ _ _ _ _ (noP _) fn73]
  have f1 := within1_ev [g.cols] (by simp) (sli [g.cols]) (H ++ [.box [vI 1], .box [vI 8]]) (reads_sl _ _) H.length (H.length + 1) 1 8 (by simp) (by simp)
  have f2 := within1s_ev [g.wide, g.high] (by simp) (sli [g.wide, g.high]) (H ++ [.box [vI 1], .box [vI 8], .box [vI 1], .box [vI 1073741823], .box [vI 0], .box [vI 1073741823], .box [vI 0], .box [vI 536870912], .box [vI g.gap, vI g.noteMost, vI g.topMost, vI g.botMost], .box [vI g.club, vI g.widow, vI g.split, vI g.defer, vI g.spare]]) (reads_sl _ _) (H.length + 2) (H.length + 3) 1 1073741823 (by simp) (by simp)
  have f3 := within1s_ev [g.gap, g.noteMost, g.topMost, g.botMost] (by simp) (.bvs (H.length + 8) 0 4 1) (H ++ [.box [vI 1], .box [vI 8], .box [vI 1], .box [vI 1073741823], .box [vI 0], .box [vI 1073741823], .box [vI 0], .box [vI 536870912], .box [vI g.gap, vI g.noteMost, vI g.topMost, vI g.botMost], .box [vI g.club, vI g.widow, vI g.split, vI g.defer, vI g.spare]]) (reads_bvs _ _ [g.gap, g.noteMost, g.topMost, g.botMost] (by simp)) (H.length + 4) (H.length + 5) 0 1073741823 (by simp) (by simp)
  have f4 := within1s_ev [g.rule, g.sep, g.grid] (by simp) (sli [g.rule, g.sep, g.grid]) (H ++ [.box [vI 1], .box [vI 8], .box [vI 1], .box [vI 1073741823], .box [vI 0], .box [vI 1073741823], .box [vI 0], .box [vI 536870912], .box [vI g.gap, vI g.noteMost, vI g.topMost, vI g.botMost], .box [vI g.club, vI g.widow, vI g.split, vI g.defer, vI g.spare]]) (reads_sl _ _) (H.length + 6) (H.length + 7) 0 536870912 (by simp) (by simp)
  have f5 := within1s_ev [g.first] (by simp) (sli [g.first]) (H ++ [.box [vI 1], .box [vI 8], .box [vI 1], .box [vI 1073741823], .box [vI 0], .box [vI 1073741823], .box [vI 0], .box [vI 536870912], .box [vI g.gap, vI g.noteMost, vI g.topMost, vI g.botMost], .box [vI g.club, vI g.widow, vI g.split, vI g.defer, vI g.spare], .box [vI 1], .box [vI g.high]]) (reads_sl _ _) (H.length + 10) (H.length + 11) 1 g.high (by simp) (by simp)
  have f6 := within1s_ev [g.grid] (by simp) (sli [g.grid]) (H ++ [.box [vI 1], .box [vI 8], .box [vI 1], .box [vI 1073741823], .box [vI 0], .box [vI 1073741823], .box [vI 0], .box [vI 536870912], .box [vI g.gap, vI g.noteMost, vI g.topMost, vI g.botMost], .box [vI g.club, vI g.widow, vI g.split, vI g.defer, vI g.spare], .box [vI 1], .box [vI g.high], .box [vI 0], .box [vI g.first]]) (reads_sl _ _) (H.length + 12) (H.length + 13) 0 g.first (by simp) (by simp)
  have f7 := within1_ev [g.topMany, g.botMany] (by simp) (sli [g.topMany, g.botMany]) (H ++ [.box [vI 1], .box [vI 8], .box [vI 1], .box [vI 1073741823], .box [vI 0], .box [vI 1073741823], .box [vI 0], .box [vI 536870912], .box [vI g.gap, vI g.noteMost, vI g.topMost, vI g.botMost], .box [vI g.club, vI g.widow, vI g.split, vI g.defer, vI g.spare], .box [vI 1], .box [vI g.high], .box [vI 0], .box [vI g.first], .box [vI 0], .box [vI 4]]) (reads_sl _ _) (H.length + 14) (H.length + 15) 0 4 (by simp) (by simp)
  have f8 := within1_ev [g.club, g.widow, g.split, g.defer, g.spare] (by simp) (.bvs (H.length + 9) 0 5 1) (H ++ [.box [vI 1], .box [vI 8], .box [vI 1], .box [vI 1073741823], .box [vI 0], .box [vI 1073741823], .box [vI 0], .box [vI 536870912], .box [vI g.gap, vI g.noteMost, vI g.topMost, vI g.botMost], .box [vI g.club, vI g.widow, vI g.split, vI g.defer, vI g.spare], .box [vI 1], .box [vI g.high], .box [vI 0], .box [vI g.first], .box [vI 0], .box [vI 4], .box [vI 0], .box [vI 1048576]]) (reads_bvs _ _ [g.club, g.widow, g.split, g.defer, g.spare] (by simp)) (H.length + 16) (H.length + 17) 0 1048576 (by simp) (by simp)
  have s1 := fun id => slca_all id 4 1 (by simp)
  have s2 := fun id => slca_all id 5 1 (by simp)
  simp only [sli, List.map_cons, List.map_nil, encI] at f1 f2 f3 f4 f5 f6 f7 f8
  unfold geomF
  cases e1 : inR 1 8 [g.cols] with
  | false => rw [e1] at f1; simp [St.enter, enumFrom, subs, setSubs, within_ev, withinS_ev, f1]
  | true =>
    rw [e1] at f1
    cases e2 : inR 1 1073741823 [g.wide, g.high] with
    | false => rw [e2] at f2; simp [St.enter, enumFrom, subs, setSubs, within_ev, withinS_ev, f1, f2]
    | true =>
      rw [e2] at f2
      cases e3 : inR 0 1073741823 [g.gap, g.noteMost, g.topMost, g.botMost] with
      | false => rw [e3] at f3; simp [St.enter, enumFrom, subs, setSubs, within_ev, withinS_ev, f1, f2, f3, s1, s2]
      | true =>
        rw [e3] at f3
        cases e4 : inR 0 536870912 [g.rule, g.sep, g.grid] with
        | false => rw [e4] at f4; simp [St.enter, enumFrom, subs, setSubs, within_ev, withinS_ev, f1, f2, f3, f4, s1, s2]
        | true =>
          rw [e4] at f4
          cases e5 : inR 1 g.high [g.first] with
          | false => rw [e5] at f5; simp [St.enter, enumFrom, subs, setSubs, within_ev, withinS_ev, f1, f2, f3, f4, f5, s1, s2]
          | true =>
            rw [e5] at f5
            cases e6 : inR 0 g.first [g.grid] with
            | false => rw [e6] at f6; simp [St.enter, enumFrom, subs, setSubs, within_ev, withinS_ev, f1, f2, f3, f4, f5, f6, s1, s2]
            | true =>
              rw [e6] at f6
              cases e7 : inR 0 4 [g.topMany, g.botMany] with
              | false => rw [e7] at f7; simp [St.enter, enumFrom, subs, setSubs, within_ev, withinS_ev, f1, f2, f3, f4, f5, f6, f7, s1, s2]
              | true =>
                rw [e7] at f7
                cases e8 : inR 0 1048576 [g.club, g.widow, g.split, g.defer, g.spare] with
                | false => rw [e8] at f8; simp [St.enter, enumFrom, subs, setSubs, within_ev, withinS_ev, f1, f2, f3, f4, f5, f6, f7, f8, s1, s2]
                | true => rw [e8] at f8; simp [St.enter, enumFrom, subs, setSubs, within_ev, withinS_ev, f1, f2, f3, f4, f5, f6, f7, f8, s1, s2]

/-! ### By the document -/
def out_ (lo hi : Int) (x : Int) : Bool := decide (x < lo) || decide (hi < x)
def gE (g : Geom) (a t : Nat) (l : List Int) (H : Heap) (i : Nat) : St := ⟨[(1, .lptr 1 0), (a, .lptr a 0), (t, vI i)], [(1, cGeom g), (a, l.map vI)], H, H.length, []⟩
def gX (g : Geom) (a t x e : Nat) (l : List Int) (H : Heap) : Ex × St := (.exit e, ⟨[(1, .lptr 1 0), (a, .lptr a 0), (t, vI l.length), (x, vB false)], [(1, cGeom g), (a, l.map vI)], H, H.length, []⟩)
def gB (H : Heap) : Ex × St := (.ret, ⟨[(2, vI 7)], [], H, H.length, []⟩)
theorem subs_map {l : List Int} {i : Nat} {v : Int} (h : l[i]? = some v) : subs (l.map vI) i 1 = some [vI v] := by
  have h2 : (l.map vI)[i]? = some (vI v) := by simp [h]
  obtain ⟨h3, h4⟩ := List.getElem?_eq_some_iff.1 h2
  have h5 : i + 1 ≤ (l.map vI).length := h3
  simp only [subs, h5, if_true]
  rw [List.drop_eq_getElem_cons h3, h4]; rfl
theorem ixa_nat (i s n j : Nat) (k : IntKind) (h : i < n) : ixaV (.lptr j 0) (.p (.int k (i : Int))) s n = some (.lptr j (i * s)) := by simp [ixaV, shiftV, h]
theorem rgeom_lp0 (g : Geom) (l : List Int) (hl : l.length = 3) (H : Heap) : evD EE lp24_0 (gE g 3 4 l H 0) = some (if l.any (out_ 1 1073741823) = true then gB H else gX g 3 4 25 0 l H) := by
  unfold lp24_0
  refine Eq.trans (evD_rng l (fun (_ : Unit) i => gE g 3 4 l H i) (fun _ _ => True) (stepB (out_ 1 1073741823) (gB H)) (fun _ => gX g 3 4 25 0 l H) (fun _ _ => rfl) ?_ ?_ () 0 trivial (Nat.zero_le _)) (by rw [rng_any]; rfl)
  · rintro _ i v - hv
    have hlt := (List.getElem?_eq_some_iff.1 hv).1
    have hne : ¬ l = [] := by rintro rfl; simp at hlt
    have h3 : (i : Int) < 3 := by omega
    have h3' : i < 3 := by omega
    have w1 : IntKind.i64.wrap ((i : Int) + 1) = ((i + 1 : Nat) : Int) := w64 (by omega) (by omega)
    have hs := subs_map hv
    have hi := fun k => ixa_nat i 1 3 3 k h3'
    by_cases c1 : v < 1
    · simp [stepB, out_, gE, gB, h3, hi, hs, hne, c1]
    · by_cases c2 : 1073741823 < v
      · simp [stepB, out_, gE, gB, h3, hi, hs, hne, c1, c2]
      · simp [stepB, out_, gE, h3, hi, hs, hne, c1, c2, w1]
  · rintro _ -
    simp [gE, gX, hl]
theorem rgeom_lp1 (g : Geom) (l : List Int) (hl : l.length = 7) (H : Heap) : evD EE lp24_1 (gE g 5 6 l H 0) = some (if l.any (out_ 0 1073741823) = true then gB H else gX g 5 6 54 2 l H) := by
  unfold lp24_1
  refine Eq.trans (evD_rng l (fun (_ : Unit) i => gE g 5 6 l H i) (fun _ _ => True) (stepB (out_ 0 1073741823) (gB H)) (fun _ => gX g 5 6 54 2 l H) (fun _ _ => rfl) ?_ ?_ () 0 trivial (Nat.zero_le _)) (by rw [rng_any]; rfl)
  · rintro _ i v - hv
    have hlt := (List.getElem?_eq_some_iff.1 hv).1
    have hne : ¬ l = [] := by rintro rfl; simp at hlt
    have h3 : (i : Int) < 7 := by omega
    have h3' : i < 7 := by omega
    have w1 : IntKind.i64.wrap ((i : Int) + 1) = ((i + 1 : Nat) : Int) := w64 (by omega) (by omega)
    have hs := subs_map hv
    have hi := fun k => ixa_nat i 1 7 5 k h3'
    by_cases c1 : v < 0
    · simp [stepB, out_, gE, gB, h3, hi, hs, hne, c1]
    · by_cases c2 : 1073741823 < v
      · simp [stepB, out_, gE, gB, h3, hi, hs, hne, c1, c2]
      · simp [stepB, out_, gE, h3, hi, hs, hne, c1, c2, w1]
  · rintro _ -
    simp [gE, gX, hl]
def out2 (i : Nat) (v : Int) : Bool := out_ 0 1048576 v || (decide ((i : Int) < 2) && decide (4 < v))
theorem rgeom_lp2 (g : Geom) (l : List Int) (hl : l.length = 7) (H : Heap) : evD EE lp24_2 (gE g 7 8 l H 0) = some (if anyI out2 0 l = true then gB H else gX g 7 8 83 4 l H) := by
  unfold lp24_2
  refine Eq.trans (evD_rng l (fun (_ : Unit) i => gE g 7 8 l H i) (fun _ _ => True) (stepI out2 (gB H)) (fun _ => gX g 7 8 83 4 l H) (fun _ _ => rfl) ?_ ?_ () 0 trivial (Nat.zero_le _)) (by rw [rng_anyI]; rfl)
  · rintro _ i v - hv
    have hlt := (List.getElem?_eq_some_iff.1 hv).1
    have hne : ¬ l = [] := by rintro rfl; simp at hlt
    have h3 : (i : Int) < 7 := by omega
    have h3' : i < 7 := by omega
    have w1 : IntKind.i64.wrap ((i : Int) + 1) = ((i + 1 : Nat) : Int) := w64 (by omega) (by omega)
    have hs := subs_map hv
    have hi := fun k => ixa_nat i 1 7 7 k h3'
    by_cases c1 : v < 0
    · simp [stepI, out2, out_, gE, gB, h3, hi, hs, hne, c1]
    · by_cases c2 : 1048576 < v
      · simp [stepI, out2, out_, gE, gB, h3, hi, hs, hne, c1, c2]
      · by_cases c3 : (i : Int) < 2
        · by_cases c4 : 4 < v
          · simp [stepI, out2, out_, gE, gB, h3, hi, hs, hne, c1, c2, c3, c4]
          · simp [stepI, out2, out_, gE, h3, hi, hs, hne, c1, c2, c3, c4, w1]
        · simp [stepI, out2, out_, gE, h3, hi, hs, hne, c1, c2, c3, w1]
  · rintro _ -
    simp [gE, gX, hl]

def rgeomF (g : Geom) : Int :=
  if out_ 1 8 g.cols = true then 6
  else if [g.wide, g.high, g.first].any (out_ 1 1073741823) = true then 7
  else if [g.gap, g.rule, g.sep, g.noteMost, g.topMost, g.botMost, g.grid].any (out_ 0 1073741823) = true then 7
  else if anyI out2 0 [g.topMany, g.botMany, g.club, g.widow, g.split, g.defer, g.spare] = true then 7
  else if g.high < g.first ∨ g.first < g.grid ∨ 536870912 < g.grid ∨ 536870912 < g.rule ∨ 536870912 < g.sep then 7
  else 0
theorem rgeom_eq (g : Geom) : rgeomF g = geomF g := by
  unfold rgeomF geomF
  have e1 : (inR 1 8 [g.cols] = false) ↔ out_ 1 8 g.cols = true := by simp [inR, out_]; omega
  simp only [e1]
  split
  · rfl
  · simp only [inR, out_, out2, anyI, List.any_cons, List.any_nil, Bool.or_false, Bool.not_eq_false', Bool.or_eq_true, Bool.and_eq_true, decide_eq_true_eq]
    repeat' split
    all_goals first | rfl | (exfalso; omega)

theorem rgeomCheck_ev (g : Geom) (H : Heap) : clD EE (.p (.fn 24)) [vGeom g] H = some (vI (geomF g), none) := by
  rw [clD_body _ _ _ _ _ _ (noP _) fn24, ← rgeom_eq]
  have k0 := rgeom_lp0 g [g.wide, g.high, g.first] rfl H
  have k1 := rgeom_lp1 g [g.gap, g.rule, g.sep, g.noteMost, g.topMost, g.botMost, g.grid] rfl H
  have k2 := rgeom_lp2 g [g.topMany, g.botMany, g.club, g.widow, g.split, g.defer, g.spare] rfl H
  simp only [gE, gX, gB] at k0 k1 k2
  unfold rgeomF
  by_cases c1 : g.cols < 1
  · simp [St.enter, enumFrom, subs, out_, c1]
  · by_cases c2 : 8 < g.cols
    · simp [St.enter, enumFrom, subs, out_, c1, c2]
    · have e1 : out_ 1 8 g.cols = false := by simp [out_]; omega
      rw [e1]
      cases b0 : [g.wide, g.high, g.first].any (out_ 1 1073741823) with
      | true =>
        rw [b0, if_pos rfl] at k0
        simp at k0
        simp [St.enter, enumFrom, subs, setSubs, c1, c2, k0]
      | false =>
        rw [b0, if_neg (by simp)] at k0
        cases b1 : [g.gap, g.rule, g.sep, g.noteMost, g.topMost, g.botMost, g.grid].any (out_ 0 1073741823) with
        | true =>
          rw [b1, if_pos rfl] at k1
          simp at k0 k1
          simp [St.enter, enumFrom, subs, setSubs, c1, c2, k0, k1]
        | false =>
          rw [b1, if_neg (by simp)] at k1
          cases b2 : anyI out2 0 [g.topMany, g.botMany, g.club, g.widow, g.split, g.defer, g.spare] with
          | true =>
            rw [b2, if_pos rfl] at k2
            simp at k0 k1 k2
            simp [St.enter, enumFrom, subs, setSubs, c1, c2, k0, k1, k2]
          | false =>
            rw [b2, if_neg (by simp)] at k2
            simp at k0 k1 k2
            by_cases d1 : g.high < g.first
            · simp [St.enter, enumFrom, subs, setSubs, c1, c2, k0, k1, k2, d1]
            · by_cases d2 : g.first < g.grid
              · simp [St.enter, enumFrom, subs, setSubs, c1, c2, k0, k1, k2, d1, d2]
              · by_cases d3 : 536870912 < g.grid
                · simp [St.enter, enumFrom, subs, setSubs, c1, c2, k0, k1, k2, d1, d2, d3]
                · by_cases d4 : 536870912 < g.rule
                  · simp [St.enter, enumFrom, subs, setSubs, c1, c2, k0, k1, k2, d1, d2, d3, d4]
                  · by_cases d5 : 536870912 < g.sep
                    · simp [St.enter, enumFrom, subs, setSubs, c1, c2, k0, k1, k2, d1, d2, d3, d4, d5]
                    · simp [St.enter, enumFrom, subs, setSubs, c1, c2, k0, k1, k2, d1, d2, d3, d4, d5]
end Go.EnvOf

/- Reckoning with scaled points: sums, differences, multiples; by the program and by the document. -/
namespace Go.EnvOf
open Go Go.Eng

def addF (a b : Int) : Option Int := if -9223372036854775808 ≤ a + b ∧ a + b ≤ 9223372036854775807 then some (a + b) else none
def subF (a b : Int) : Option Int := if -9223372036854775808 ≤ a - b ∧ a - b ≤ 9223372036854775807 then some (a - b) else none
def upF (a s : Int) : Option Int := if s < 1 then none else if a % s = 0 then some a else addF a (s - a % s)
def downF (a s : Int) : Option Int := if s < 1 then none else subF a (a % s)
def resV : Option Int → V
  | some a => .agg [vI a, vB true]
  | none => .agg [vI 0, vB false]

def resT : Option Int → V
  | some a => .tup [vI a, vB true]
  | none => .tup [vI 0, vB false]

theorem wrap_hi {n : Int} (h0 : 9223372036854775808 ≤ n) (h1 : n ≤ 27670116110564327423) : IntKind.wrap .i64 n = n - 18446744073709551616 := by
  unfold IntKind.wrap; simp [IntKind.bits, IntKind.signed]; omega
theorem wrap_lo {n : Int} (h0 : n ≤ -9223372036854775809) (h1 : -27670116110564327424 ≤ n) : IntKind.wrap .i64 n = n + 18446744073709551616 := by
  unfold IntKind.wrap; simp [IntKind.bits, IntKind.signed]; omega

theorem over_eq (a s : Int) (hs : 1 ≤ s) : (if a.tmod s < 0 then a.tmod s + s else a.tmod s) = a % s := by
  have h1 := Int.emod_nonneg a (show s ≠ 0 by omega)
  have h2 := Int.emod_lt_of_pos a (show 0 < s by omega)
  have := Int.tmod_eq_emod (a := a) (b := s)
  rw [this]
  split <;> split <;> omega

theorem add_ev (a b : Int) (H : Heap) (ha : I64 a) (hb : I64 b) : clD EE (.p (.fn 88)) [vI a, vI b] H = some (resT (addF a b), none) := by
  rw [clD_body _ _ _ _ _ _ (noP _) fn88]
  unfold addF
  by_cases h1 : 9223372036854775807 < a + b
  · have w := wrap_hi (n := a + b) (by omega) (by omega)
    have c1 : ¬ a < a + b - 18446744073709551616 := by omega
    have c2 : 0 < b := by omega
    have c3 : b ≠ 0 := by omega
    have c4 : ¬ (-9223372036854775808 ≤ a + b ∧ a + b ≤ 9223372036854775807) := by omega
    simp [St.enter, enumFrom, resT, w, c1, c2, c3, c4]
  · by_cases h2 : a + b < -9223372036854775808
    · have w := wrap_lo (n := a + b) (by omega) (by omega)
      have c1 : a < a + b + 18446744073709551616 := by omega
      have c2 : ¬ 0 < b := by omega
      have c3 : b ≠ 0 := by omega
      have c4 : ¬ (-9223372036854775808 ≤ a + b ∧ a + b ≤ 9223372036854775807) := by omega
      simp [St.enter, enumFrom, resT, w, c1, c2, c3, c4]
    · have w := w64 (n := a + b) (by omega) (by omega)
      have c1 : (a < a + b) = (0 < b) := by rw [eq_iff_iff]; omega
      have c4 : -9223372036854775808 ≤ a + b ∧ a + b ≤ 9223372036854775807 := by omega
      simp [St.enter, enumFrom, resT, w, c1, c4]
theorem sub_ev (a b : Int) (H : Heap) (ha : I64 a) (hb : I64 b) : clD EE (.p (.fn 86)) [vI a, vI b] H = some (resT (subF a b), none) := by
  rw [clD_body _ _ _ _ _ _ (noP _) fn86]
  unfold subF
  by_cases h1 : 9223372036854775807 < a - b
  · have w := wrap_hi (n := a - b) (by omega) (by omega)
    have c1 : a - b - 18446744073709551616 < a := by omega
    have c2 : ¬ 0 < b := by omega
    have c3 : b ≠ 0 := by omega
    have c4 : ¬ (-9223372036854775808 ≤ a - b ∧ a - b ≤ 9223372036854775807) := by omega
    simp [St.enter, enumFrom, resT, w, c1, c2, c3, c4]
  · by_cases h2 : a - b < -9223372036854775808
    · have w := wrap_lo (n := a - b) (by omega) (by omega)
      have c1 : ¬ a - b + 18446744073709551616 < a := by omega
      have c2 : 0 < b := by omega
      have c3 : b ≠ 0 := by omega
      have c4 : ¬ (-9223372036854775808 ≤ a - b ∧ a - b ≤ 9223372036854775807) := by omega
      simp [St.enter, enumFrom, resT, w, c1, c2, c3, c4]
    · have w := w64 (n := a - b) (by omega) (by omega)
      have c1 : (a - b < a) = (0 < b) := by rw [eq_iff_iff]; omega
      have c4 : -9223372036854775808 ≤ a - b ∧ a - b ≤ 9223372036854775807 := by omega
      simp [St.enter, enumFrom, resT, w, c1, c4]
theorem radd_ev (a b : Int) (H : Heap) (ha : I64 a) (hb : I64 b) : clD EE (.p (.fn 94)) [vI a, vI b] H = some (resV (addF a b), none) := by
  rw [clD_body _ _ _ _ _ _ (noP _) fn94]
  unfold addF
  by_cases c : 0 < b
  · have w := w64 (n := 9223372036854775807 - b) (by omega) (by omega)
    have c2 : ¬ b < 0 := by omega
    by_cases h1 : 9223372036854775807 - b < a
    · have c4 : ¬ (-9223372036854775808 ≤ a + b ∧ a + b ≤ 9223372036854775807) := by omega
      simp [St.enter, enumFrom, resV, subs, setSubs, w, c, c2, h1, c4]
    · have c4 : -9223372036854775808 ≤ a + b ∧ a + b ≤ 9223372036854775807 := by omega
      have w2 := w64 (n := a + b) (by omega) (by omega)
      simp [St.enter, enumFrom, resV, subs, setSubs, w, w2, c, c2, h1, c4]
  · by_cases c2 : b < 0
    · have w := w64 (n := -9223372036854775808 - b) (by omega) (by omega)
      by_cases h1 : a < -9223372036854775808 - b
      · have c4 : ¬ (-9223372036854775808 ≤ a + b ∧ a + b ≤ 9223372036854775807) := by omega
        simp [St.enter, enumFrom, resV, subs, setSubs, w, c, c2, h1, c4]
      · have c4 : -9223372036854775808 ≤ a + b ∧ a + b ≤ 9223372036854775807 := by omega
        have w2 := w64 (n := a + b) (by omega) (by omega)
        simp [St.enter, enumFrom, resV, subs, setSubs, w, w2, c, c2, h1, c4]
    · have e : b = 0 := by omega
      subst e
      have w2 := w64 (n := a) (by omega) (by omega)
      simp [St.enter, enumFrom, resV, subs, setSubs, w2, ha.1, ha.2]
theorem rsub_ev (a b : Int) (H : Heap) (ha : I64 a) (hb : I64 b) : clD EE (.p (.fn 93)) [vI a, vI b] H = some (resV (subF a b), none) := by
  rw [clD_body _ _ _ _ _ _ (noP _) fn93]
  unfold subF
  by_cases c : 0 < b
  · have w := w64 (n := -9223372036854775808 + b) (by omega) (by omega)
    have c2 : ¬ b < 0 := by omega
    by_cases h1 : a < -9223372036854775808 + b
    · have c4 : ¬ (-9223372036854775808 ≤ a - b ∧ a - b ≤ 9223372036854775807) := by omega
      simp [St.enter, enumFrom, resV, subs, setSubs, w, c, c2, h1, c4]
    · have c4 : -9223372036854775808 ≤ a - b ∧ a - b ≤ 9223372036854775807 := by omega
      have w2 := w64 (n := a - b) (by omega) (by omega)
      simp [St.enter, enumFrom, resV, subs, setSubs, w, w2, c, c2, h1, c4]
  · by_cases c2 : b < 0
    · have w := w64 (n := 9223372036854775807 + b) (by omega) (by omega)
      by_cases h1 : 9223372036854775807 + b < a
      · have c4 : ¬ (-9223372036854775808 ≤ a - b ∧ a - b ≤ 9223372036854775807) := by omega
        simp [St.enter, enumFrom, resV, subs, setSubs, w, c, c2, h1, c4]
      · have c4 : -9223372036854775808 ≤ a - b ∧ a - b ≤ 9223372036854775807 := by omega
        have w2 := w64 (n := a - b) (by omega) (by omega)
        simp [St.enter, enumFrom, resV, subs, setSubs, w, w2, c, c2, h1, c4]
    · have e : b = 0 := by omega
      subst e
      have w2 := w64 (n := a) (by omega) (by omega)
      simp [St.enter, enumFrom, resV, subs, setSubs, w2, ha.1, ha.2]

theorem mod_bd (a s : Int) (hs : 1 ≤ s) : 0 ≤ a % s ∧ a % s < s := ⟨Int.emod_nonneg a (by omega), Int.emod_lt_of_pos a (by omega)⟩
theorem tmod_bd (a s : Int) (hs : 1 ≤ s) : -s ≤ a.tmod s ∧ a.tmod s < s := by
  have h := over_eq a s hs
  have h2 := mod_bd a s hs
  split at h <;> omega

theorem above_ev (a s : Int) (H : Heap) (hs : 1 ≤ s) (h2 : I64 s) : clD EE (.p (.fn 87)) [vI a, vI s] H = some (vI (a % s), none) := by
  rw [clD_body _ _ _ _ _ _ (noP _) fn87]
  have h := over_eq a s hs
  have hb := tmod_bd a s hs
  have h0 : s ≠ 0 := by omega
  by_cases c : a.tmod s < 0
  · rw [if_pos c] at h
    have w := w64 (n := a % s) (by omega) (by omega)
    simp [St.enter, enumFrom, h0, c, w, h]
  · rw [if_neg c] at h
    rw [h] at c
    simp [St.enter, enumFrom, h0, c, h]
theorem down_ev (a s : Int) (H : Heap) (ha : I64 a) (hs : I64 s) : clD EE (.p (.fn 58)) [vI a, vI s] H = some (resT (downF a s), none) := by
  rw [clD_body _ _ _ _ _ _ (noP _) fn58]
  unfold downF
  by_cases c : s < 1
  · simp [St.enter, enumFrom, c, resT]
  · have h1 := above_ev a s H (by omega) hs
    have hb := mod_bd a s (by omega)
    have h2 := sub_ev a (a % s) H ha ⟨by omega, by omega⟩
    cases h3 : subF a (a % s) <;> simp [h3, resT] at h2 <;> simp [St.enter, enumFrom, c, resT, h1, h2, h3]
theorem up_ev (a s : Int) (H : Heap) (ha : I64 a) (hs : I64 s) : clD EE (.p (.fn 59)) [vI a, vI s] H = some (resT (upF a s), none) := by
  rw [clD_body _ _ _ _ _ _ (noP _) fn59]
  unfold upF
  by_cases c : s < 1
  · simp [St.enter, enumFrom, c, resT]
  · have h1 := above_ev a s H (by omega) hs
    have hb := mod_bd a s (by omega)
    by_cases c2 : a % s = 0
    · simp [St.enter, enumFrom, c, resT, h1, c2]
    · have w := w64 (n := s - a % s) (by omega) (by omega)
      have c3 : 0 < a % s := by omega
      have h2 := add_ev a (s - a % s) H ha ⟨by omega, by omega⟩
      cases h3 : addF a (s - a % s) <;> simp [h3, resT] at h2 <;> simp [St.enter, enumFrom, c, c2, c3, w, resT, h1, h2, h3]
theorem rdown_ev (a s : Int) (H : Heap) (ha : I64 a) (hs : I64 s) : clD EE (.p (.fn 64)) [vI a, vI s] H = some (resV (downF a s), none) := by
  rw [clD_body _ _ _ _ _ _ (noP _) fn64]
  unfold downF
  by_cases c : s < 1
  · simp [St.enter, enumFrom, c, resV, subs, setSubs]
  · have h := over_eq a s (by omega)
    have hb := tmod_bd a s (by omega)
    have hb2 := mod_bd a s (by omega)
    have h0 : s ≠ 0 := by omega
    have h2 := rsub_ev a (a % s) H ha ⟨by omega, by omega⟩
    by_cases c2 : a.tmod s < 0
    · rw [if_pos c2] at h
      have w := w64 (n := a % s) (by omega) (by omega)
      cases h3 : subF a (a % s) <;> simp [h3, resV] at h2 <;> simp [St.enter, enumFrom, c, resV, subs, setSubs, h0, c2, w, h, h2, h3]
    · rw [if_neg c2] at h
      rw [h] at c2
      cases h3 : subF a (a % s) <;> simp [h3, resV] at h2 <;> simp [St.enter, enumFrom, c, resV, subs, setSubs, h0, c2, h, h2, h3]
theorem rup_ev (a s : Int) (H : Heap) (ha : I64 a) (hs : I64 s) : clD EE (.p (.fn 65)) [vI a, vI s] H = some (resV (upF a s), none) := by
  rw [clD_body _ _ _ _ _ _ (noP _) fn65]
  unfold upF
  by_cases c : s < 1
  · simp [St.enter, enumFrom, c, resV, subs, setSubs]
  · have h := over_eq a s (by omega)
    have hb := tmod_bd a s (by omega)
    have hb2 := mod_bd a s (by omega)
    have h0 : s ≠ 0 := by omega
    have w := w64 (n := s - a % s) (by omega) (by omega)
    have h2 := radd_ev a (s - a % s) H ha ⟨by omega, by omega⟩
    by_cases c3 : a % s = 0
    · by_cases c2 : a.tmod s < 0
      · rw [if_pos c2] at h
        have w : IntKind.i64.wrap 0 = 0 := w64 (by omega) (by omega)
        simp [St.enter, enumFrom, c, resV, subs, setSubs, h0, c2, w, h, c3]
      · rw [if_neg c2] at h
        rw [h] at c2
        simp [St.enter, enumFrom, c, resV, subs, setSubs, h0, c2, h, c3]
    · by_cases c2 : a.tmod s < 0
      · rw [if_pos c2] at h
        have w3 := w64 (n := a % s) (by omega) (by omega)
        cases h3 : addF a (s - a % s) <;> simp [h3, resV] at h2 <;> simp [St.enter, enumFrom, c, resV, subs, setSubs, h0, c2, w, w3, h, h2, h3, c3]
      · rw [if_neg c2] at h
        rw [h] at c2
        cases h3 : addF a (s - a % s) <;> simp [h3, resV] at h2 <;> simp [St.enter, enumFrom, c, resV, subs, setSubs, h0, c2, w, h, h2, h3, c3]

/-! ### On a grid -/
def orN (o : Option Int) (n : Int) : Int := match o with | some a => a | none => n
def upG (n s : Int) : Int := orN (upF n s) n
def downG (n s : Int) : Int := orN (downF n s) n
def nearG (n s : Int) : Int := if s < 1 then n else if n % s < s - n % s then downG n s else upG n s

theorem or_ev (f : FuncId) (o : Option Int) (n s : Int) (H : Heap) (h : clD EE (.p (.fn f)) [vI n, vI s] H = some (resT o, none)) : clD EE (.p (.fn 57)) [vI n, vI s, .p (.fn f)] H = some (vI (orN o n), none) := by
  rw [clD_body _ _ _ _ _ _ (noP _) fn57]
  cases o <;> simp [resT] at h <;> simp [St.enter, enumFrom, h, orN]
theorem gdown_ev (n s : Int) (H : Heap) (hn : I64 n) (hs : I64 s) : clD EE (.p (.fn 34)) [vI n, vI s] H = some (vI (downG n s), none) := by
  rw [clD_body _ _ _ _ _ _ (noP _) fn34]
  have h := or_ev _ _ n s H (down_ev n s H hn hs)
  simp [St.enter, enumFrom, h, downG]
theorem gup_ev (n s : Int) (H : Heap) (hn : I64 n) (hs : I64 s) : clD EE (.p (.fn 35)) [vI n, vI s] H = some (vI (upG n s), none) := by
  rw [clD_body _ _ _ _ _ _ (noP _) fn35]
  have h := or_ev _ _ n s H (up_ev n s H hn hs)
  simp [St.enter, enumFrom, h, upG]
theorem gnear_ev (n s : Int) (H : Heap) (hn : I64 n) (hs : I64 s) : clD EE (.p (.fn 54)) [vI n, vI s] H = some (vI (nearG n s), none) := by
  rw [clD_body _ _ _ _ _ _ (noP _) fn54]
  unfold nearG
  by_cases c : s < 1
  · simp [St.enter, enumFrom, c]
  · have h := over_eq n s (by omega)
    have hb := tmod_bd n s (by omega)
    have hb2 := mod_bd n s (by omega)
    have h0 : s ≠ 0 := by omega
    have w := w64 (n := s - n % s) (by omega) (by omega)
    have h1 := gdown_ev n s H hn hs
    have h2 := gup_ev n s H hn hs
    by_cases c2 : n.tmod s < 0
    · rw [if_pos c2] at h
      have w3 := w64 (n := n % s) (by omega) (by omega)
      by_cases c3 : n % s < s - n % s <;> simp [St.enter, enumFrom, c, c2, c3, h0, w, w3, h, h1, h2]
    · rw [if_neg c2] at h
      rw [h] at c2
      by_cases c3 : n % s < s - n % s <;> simp [St.enter, enumFrom, c, c2, c3, h0, w, h, h1, h2]

theorem got_ev (o : Option Int) (n : Int) (H : Heap) : clD EE (.p (.fn 63)) [resV o, vI n] H = some (vI (orN o n), none) := by
  rw [clD_body _ _ _ _ _ _ (noP _) fn63]
  cases o <;> simp [resV, St.enter, enumFrom, subs, orN]
theorem rgdown_ev (n s : Int) (H : Heap) (hn : I64 n) (hs : I64 s) : clD EE (.p (.fn 45)) [vI n, vI s] H = some (vI (downG n s), none) := by
  rw [clD_body _ _ _ _ _ _ (noP _) fn45]
  have h := rdown_ev n s H hn hs
  have h2 := got_ev (downF n s) n H
  cases ho : downF n s <;> simp only [ho, resV] at h h2 <;> simp [St.enter, enumFrom, h, h2, downG, ho]
theorem rgup_ev (n s : Int) (H : Heap) (hn : I64 n) (hs : I64 s) : clD EE (.p (.fn 46)) [vI n, vI s] H = some (vI (upG n s), none) := by
  rw [clD_body _ _ _ _ _ _ (noP _) fn46]
  have h := rup_ev n s H hn hs
  have h2 := got_ev (upF n s) n H
  cases ho : upF n s <;> simp only [ho, resV] at h h2 <;> simp [St.enter, enumFrom, h, h2, upG, ho]
theorem resV_cells (o : Option Int) : ∃ a b, resV o = .agg [vI a, vB b] := by cases o <;> exact ⟨_, _, rfl⟩
theorem rgnear_ev (n s : Int) (H : Heap) (hn : I64 n) (hs : I64 s) : clD EE (.p (.fn 66)) [vI n, vI s] H = some (vI (nearG n s), none) := by
  rw [clD_body _ _ _ _ _ _ (noP _) fn66]
  unfold nearG
  by_cases c : s < 1
  · simp [St.enter, enumFrom, c]
  · have h := over_eq n s (by omega)
    have hb := tmod_bd n s (by omega)
    have hb2 := mod_bd n s (by omega)
    have h0 : s ≠ 0 := by omega
    have w := w64 (n := s - n % s) (by omega) (by omega)
    have h1 := rdown_ev n s H hn hs
    have h2 := rup_ev n s H hn hs
    have g1 := got_ev (downF n s) n H
    have g2 := got_ev (upF n s) n H
    obtain ⟨a1, b1, e1⟩ := resV_cells (downF n s)
    obtain ⟨a2, b2, e2⟩ := resV_cells (upF n s)
    rw [e1] at h1 g1
    rw [e2] at h2 g2
    by_cases c2 : n.tmod s < 0
    · rw [if_pos c2] at h
      have w3 := w64 (n := n % s) (by omega) (by omega)
      by_cases c3 : n % s < s - n % s
      · simp [St.enter, enumFrom, subs, setSubs, c, c2, c3, h0, w, w3, h, h1, h2, g1, downG]
      · have c4 : n % s ≠ 0 := by omega
        simp [St.enter, enumFrom, subs, setSubs, c, c2, c3, c4, h0, w, w3, h, h1, h2, g2, upG]
    · rw [if_neg c2] at h
      rw [h] at c2
      by_cases c3 : n % s < s - n % s
      · simp [St.enter, enumFrom, subs, setSubs, c, c2, c3, h0, w, h, h1, h2, g1, downG]
      · have c4 : n % s ≠ 0 := by omega
        simp [St.enter, enumFrom, subs, setSubs, c, c2, c3, c4, h0, w, h, h1, h2, g2, upG]

theorem orN_i64 {o : Option Int} {n : Int} (hn : I64 n) (h : ∀ a, o = some a → I64 a) : I64 (orN o n) := by
  cases o with
  | none => exact hn
  | some a => exact h a rfl
theorem addF_i64 {a b c : Int} (h : addF a b = some c) : I64 c := by unfold addF at h; split at h <;> simp at h; subst h; assumption
theorem subF_i64 {a b c : Int} (h : subF a b = some c) : I64 c := by unfold subF at h; split at h <;> simp at h; subst h; assumption
theorem upG_i64 {n s : Int} (hn : I64 n) : I64 (upG n s) := orN_i64 hn fun a h => by
  unfold upF at h; split at h
  · cases h
  · split at h
    · simp at h; subst h; exact hn
    · exact addF_i64 h
theorem downG_i64 {n s : Int} (hn : I64 n) : I64 (downG n s) := orN_i64 hn fun a h => by
  unfold downF at h; split at h
  · cases h
  · exact subF_i64 h
theorem nearG_i64 {n s : Int} (hn : I64 n) : I64 (nearG n s) := by
  unfold nearG; split
  · exact hn
  · split
    · exact downG_i64 hn
    · exact upG_i64 hn
end Go.EnvOf

/- Jobs on a grid: lengths turned in place. -/
namespace Go.EnvOf
open Go Go.Eng

theorem subs_one {e : List V} {j : Nat} {v : V} (h : e[j]? = some v) : subs e j 1 = some [v] := by
  obtain ⟨h1, h2⟩ := List.getElem?_eq_some_iff.1 h
  have h3 : j + 1 ≤ e.length := h1
  simp [subs, h3, List.drop_eq_getElem_cons h1, h2]
theorem setSubs_one {e : List V} {j : Nat} {v u : V} (h : e[j]? = some v) : setSubs e j [u] = some (e.set j u) := by
  obtain ⟨h1, h2⟩ := List.getElem?_eq_some_iff.1 h
  have h3 : j + 1 ≤ e.length := h1
  simp [setSubs, h1, h3, List.set_eq_take_append_cons_drop]

theorem turn_row (f : FuncId) (g : Int → Int) (n s : Int) (H : Heap) (id tot i j sz : Nat) (es : List (List V)) (e : List V) (hr : Eng.rowAt H id = some (sz, es)) (ht : es.length = tot) (he : es[i]? = some e) (hj : e[j]? = some (vI n)) (hlt : id < H.length)
    (hg : ∀ H', clD EE (.p (.fn f)) [vI n, vI s] H' = some (vI (g n), none)) :
    clD EE (.p (.fn 33)) [.agg [vI s], .p (.fn f), .vsl [[.rptr id tot i j]]] H = some (.tup [], some (H.set id (.row sz (es.set i (e.set j (vI (g n))))), [id])) := by
  rw [clD_body _ _ _ _ _ _ (noP _) fn33]
  have key : evD EE lp33_0 ⟨[(1, .p (.fn f)), (3, .lptr 3 0), (8, .vsl [[.rptr id tot i j]]), (9, .p (.int .i64 1)), (10, .p (.int .i64 0))], [(3, [vI s])], H, H.length, []⟩ =
      some (.exit 0, ⟨[(1, .p (.fn f)), (3, .lptr 3 0), (8, .vsl [[.rptr id tot i j]]), (9, .p (.int .i64 1)), (10, .p (.int .i64 1)), (11, .p (.bool false))], [(3, [vI s])], H.set id (.row sz (es.set i (e.set j (vI (g n))))), H.length, [id]⟩) := by
    unfold lp33_0
    have w : IntKind.i64.wrap 1 = 1 := w64 (by omega) (by omega)
    rw [evD_loop]
    have e3 : subs [vI s] 0 1 = some [vI s] := rfl
    have e4 : subs [V.rptr id tot i j] 0 1 = some [V.rptr id tot i j] := rfl
    simp [subs_one hj, setSubs_one hj, hr, ht, he, hg, hlt, w, ixsI, ixsV, e3, e4]
    rw [evD_loop]
    simp
  simp [St.enter, enumFrom, key]

theorem turn_box2 (f : FuncId) (g : Int → Int) (n m s : Int) (H : Heap) (id a b : Nat) (cs : List V) (hr : Eng.boxAt H id = some cs) (ha : cs[a]? = some (vI n)) (hb : cs[b]? = some (vI m)) (hab : a ≠ b) (hlt : id < H.length)
    (hg : ∀ H', clD EE (.p (.fn f)) [vI n, vI s] H' = some (vI (g n), none)) (hg2 : ∀ H', clD EE (.p (.fn f)) [vI m, vI s] H' = some (vI (g m), none)) :
    clD EE (.p (.fn 33)) [.agg [vI s], .p (.fn f), .vsl [[.ptr id a], [.ptr id b]]] H = some (.tup [], some (H.set id (.box ((cs.set a (vI (g n))).set b (vI (g m)))), [id, id])) := by
  rw [clD_body _ _ _ _ _ _ (noP _) fn33]
  have key : evD EE lp33_0 ⟨[(1, .p (.fn f)), (3, .lptr 3 0), (8, .vsl [[.ptr id a], [.ptr id b]]), (9, .p (.int .i64 2)), (10, .p (.int .i64 0))], [(3, [vI s])], H, H.length, []⟩ =
      some (.exit 0, ⟨[(1, .p (.fn f)), (3, .lptr 3 0), (8, .vsl [[.ptr id a], [.ptr id b]]), (9, .p (.int .i64 2)), (10, .p (.int .i64 2)), (11, .p (.bool false))], [(3, [vI s])], H.set id (.box ((cs.set a (vI (g n))).set b (vI (g m)))), H.length, [id, id]⟩) := by
    unfold lp33_0
    have w : IntKind.i64.wrap 1 = 1 := w64 (by omega) (by omega)
    have w2 : IntKind.i64.wrap 2 = 2 := w64 (by omega) (by omega)
    have e3 : subs [vI s] 0 1 = some [vI s] := rfl
    have e4 : ∀ x : V, subs [x] 0 1 = some [x] := fun _ => rfl
    have hb2 : (cs.set a (vI (g n)))[b]? = some (vI m) := by rw [List.getElem?_set_ne hab]; exact hb
    have hset : Eng.boxAt (H.set id (.box (cs.set a (vI (g n))))) id = some (cs.set a (vI (g n))) := by simp [Eng.boxAt, List.getElem?_set, hlt]
    rw [evD_loop]
    simp [subs_one ha, setSubs_one ha, hr, hg, hlt, w, ixsI, ixsV, e3, e4]
    rw [evD_loop]
    simp [subs_one hb2, setSubs_one hb2, hset, hg2, hlt, w2, ixsI, ixsV, e3, e4]
    rw [evD_loop]
    simp
  simp [St.enter, enumFrom, key]

def itemG (s : Int) (x : Item) : Item := if x.k = 1 then { x with h := upG x.h s } else if x.k = 2 then { x with h := nearG x.h s, str := 0, ord := 0, shr := 0 } else x
def noteG (s : Int) (n : Note) : Note := { n with lines := n.lines.map fun x => upG x s }
def floatG (s : Int) (f : Float) : Float := { f with h := upG f.h s }
def geomG (g : Geom) : Geom := { g with high := downG g.high g.grid, first := downG g.first g.grid, rule := upG g.rule g.grid, sep := upG g.sep g.grid }
def snapG (j : Job) : Job := if j.g.grid < 1 then j else ⟨geomG j.g, j.items.map (itemG j.g.grid), j.notes.map (noteG j.g.grid), j.floats.map (floatG j.g.grid)⟩
abbrev okItem (x : Item) : Prop := I64 x.k ∧ I64 x.h ∧ I64 x.f ∧ I64 x.str ∧ I64 x.ord ∧ I64 x.shr ∧ I64 x.n
abbrev okFloat (f : Float) : Prop := I64 f.c ∧ I64 f.h ∧ I64 f.w

/-! ### The items -/
def itemsE (s : Int) (l : List Item) (H : Heap) (M : List Item) (i : Nat) : St :=
  ⟨[(2, .lptr 2 0), (5, .row H.length l.length 0 l.length), (11, vI l.length), (12, vI i)], [(2, [vI s])], H ++ [.row 7 (upV (M.map encItem))], H.length, []⟩
def itemsX (s : Int) (l : List Item) (H : Heap) (M : List Item) : Ex × St :=
  (.exit 0, ⟨[(2, .lptr 2 0), (5, .row H.length l.length 0 l.length), (11, vI l.length), (12, vI l.length), (13, .p (.bool false))], [(2, [vI s])], H ++ [.row 7 (upV (M.map encItem))], H.length, []⟩)
theorem items_lp (s : Int) (hs : I64 s) (l : List Item) (hl : ∀ x ∈ l, okItem x) (hn : l.length ≤ 1000000) (H : Heap) :
    evD EE lp30_0 (itemsE s l H l 0) = some (itemsX s l H (l.map (itemG s))) := by
  unfold lp30_0
  refine (evD_fold l (itemsE s l H) (fun M i => M.length = l.length ∧ M.drop i = l.drop i) (fun M i x => M.set i (itemG s x)) (itemsX s l H) (fun _ _ => rfl) ?_ ?_ l 0 ⟨rfl, rfl⟩ (Nat.zero_le _)).trans ?_
  · rintro M i x ⟨hM, hd⟩ hx
    have hlt := (List.getElem?_eq_some_iff.1 hx).1
    have hMx : M[i]? = some x := by
      have := congrArg (·[0]?) hd
      simpa [List.getElem?_drop, hx] using this
    have w : IntKind.i64.wrap ((i : Int) + 1) = ((i + 1 : Nat) : Int) := w64 (by omega) (by omega)
    have ho := hl x (List.mem_of_getElem? hx)
    have hu : (upV (M.map encItem))[i]? = some ((encItem x).map .p) := by simp [upV, hMx]
    have hset : M.set i (itemG s x) = M.set i (itemG s x) := rfl
    have inv : (M.set i (itemG s x)).length = l.length ∧ (M.set i (itemG s x)).drop (i + 1) = l.drop (i + 1) := by
      refine ⟨by simp [hM], ?_⟩
      rw [List.drop_set_of_lt (Nat.lt_succ_self i)]
      have := congrArg (List.drop 1) hd
      simpa [List.drop_drop, Nat.add_comm] using this
    refine ⟨?_, inv⟩
    have hrow : Eng.rowAt (H ++ [DObj.row 7 (upV (M.map encItem))]) H.length = some (7, upV (M.map encItem)) := by simp
    have hlen : (upV (M.map encItem)).length = l.length := by simp [hM]
    have hj : ((encItem x).map V.p)[1]? = some (vI x.h) := rfl
    have t1 := turn_row 35 (fun n => upG n s) x.h s (H ++ [DObj.row 7 (upV (M.map encItem))]) H.length l.length i 1 7 _ _ hrow hlen hu hj (by simp) (fun H' => gup_ev x.h s H' ho.2.1 hs)
    have t2 := turn_row 54 (fun n => nearG n s) x.h s (H ++ [DObj.row 7 (upV (M.map encItem))]) H.length l.length i 1 7 _ _ hrow hlen hu hj (by simp) (fun H' => gnear_ev x.h s H' ho.2.1 hs)
    by_cases k1 : x.k = 1
    · have e : (upV (M.map encItem)).set i (((encItem x).map V.p).set 1 (vI (upG x.h s))) = upV ((M.set i (itemG s x)).map encItem) := by
        rw [← upV_set]; simp [itemG, k1, encItem]
      rw [e] at t1
      simp [-getElem?_pos, itemsE, hlt, ixs_row, hM, hu, encItem, subs, k1, t1, w]
    · by_cases k2 : x.k = 2
      · have g : ∀ a, ((upV (M.map encItem)).set i a)[i]? = some a := fun a => by rw [List.getElem?_set_self (by simp [hM, hlt])]
        have e : (upV (M.map encItem)).set i [vI x.k, vI (nearG x.h s), vI x.f, vI 0, vI 0, vI 0, vI x.n] = upV ((M.set i (itemG s x)).map encItem) := by
          rw [← upV_set]; simp [itemG, k2, encItem]
        rw [k2] at e
        simp [-getElem?_pos, itemsE, hlt, ixs_row, hM, hu, encItem, subs, setSubs, k1, k2, t2, w, g]
        simp [encItem, upV] at e ⊢
        exact e
      · have e : M.set i (itemG s x) = M := by
          have : itemG s x = x := by simp [itemG, k1, k2]
          rw [this]
          refine List.ext_getElem? fun j => ?_
          rw [List.getElem?_set]
          split
          · rename_i h; subst h; rw [if_pos (by omega), hMx]
          · rfl
        rw [e]
        simp [-getElem?_pos, itemsE, hlt, ixs_row, hM, hu, encItem, subs, setSubs, k1, k2, w]
  · rintro M ⟨hM, hd⟩
    simp [itemsE, itemsX]
  · have := fold_set (itemG s) l []
    simp at this
    simp [this]

theorem cloneItems_fn : EE.fns 53 = some (cloneI 7 [vI 0, vI 0, vI 0, vI 0, vI 0, vI 0, vI 0]) := fn53
theorem cloneFloats_fn : EE.fns 32 = some (cloneI 3 [vI 0, vI 0, vI 0]) := fn32
theorem cloneSps_fn : EE.fns 55 = some (cloneI 1 [vI 0]) := fn55
theorem cloneInts_fn : EE.fns 56 = some (cloneI 1 [vI 0]) := fn56

/-- The copy of a list. -/
def cloneV {α : Type} (n : Nat) (l : List α) : V := if l = [] then .nils else .row n l.length 0 l.length
def cloneH {α : Type} (enc : α → List PV) (s : Nat) (H : Heap) (l : List α) : Option (Heap × List Nat) := if l = [] then none else some (H ++ [.row s (upV (l.map enc))], [])
theorem clone_list {α : Type} (f : FuncId) (s : Nat) (z : List V) (H : Heap) (enc : α → List PV) (hs : ∀ x, (enc x).length = s) (hf : EE.fns f = some (cloneI s z)) (l : List α) (hm : l.length < most) (hp : EE.prims f = none := by exact noP _) :
    clD EE (.p (.fn f)) [.p (.sl (l.map enc))] H = some (cloneV H.length l, cloneH enc s H l) := by
  cases l with
  | nil => exact clone_nils EE f s z H _ hp hf rfl
  | cons x r =>
    have := clone_ev EE f s z H (enc x) (r.map enc) hp hf (by simp [hs]) (by simpa using hm)
    simpa [cloneV, cloneH] using this

theorem items_ev (s : Int) (hs : I64 s) (l : List Item) (hl : ∀ x ∈ l, okItem x) (hn : l.length ≤ 1000000) (H : Heap) :
    clD EE (.p (.fn 30)) [.agg [vI s], vItems l] H = some (vItems (l.map (itemG s)), none) := by
  rw [clD_body _ _ _ _ _ _ (noP _) fn30]
  have hc := clone_list _ 7 _ H encItem (fun _ => rfl) cloneItems_fn l (by unfold most; omega)
  cases l with
  | nil =>
    simp [cloneV, cloneH] at hc
    have key : evD EE lp30_0 ⟨[(2, .lptr 2 0), (5, .nils), (11, vI 0), (12, vI 0)], [(2, [vI s])], H, H.length, []⟩ = some (.exit 0, ⟨[(2, .lptr 2 0), (5, .nils), (11, vI 0), (12, vI 0), (13, .p (.bool false))], [(2, [vI s])], H, H.length, []⟩) := by
      unfold lp30_0
      rw [evD_loop]
      simp
    simp [St.enter, enumFrom, subs, hc, key]
  | cons x r =>
    have key := items_lp s hs (x :: r) hl hn H
    simp [cloneV, cloneH] at hc
    simp [itemsE, itemsX] at key
    simp [St.enter, enumFrom, subs, hc, key]

/-! ### The notes -/
def linesE (s : Int) (w : V) (n i : Nat) (L : List Int) (H0 : Nat) (id : Nat) (G : Heap) (B : Nat) (K : List Int) (k : Nat) : St :=
  ⟨[(2, .lptr 2 0), (5, .row H0 n 0 n), (6, vI i), (12, w), (13, vI n), (14, vI i), (34, vI L.length), (35, vI k)], [(2, [vI s])], G.set id (.row 1 (upV (K.map encI))), B, []⟩
def linesX (s : Int) (w : V) (n i : Nat) (L : List Int) (H0 : Nat) (id : Nat) (G : Heap) (B : Nat) (K : List Int) : Ex × St :=
  (.exit 2, ⟨[(2, .lptr 2 0), (5, .row H0 n 0 n), (6, vI i), (12, w), (13, vI n), (14, vI i), (34, vI L.length), (35, vI L.length), (36, .p (.bool false))], [(2, [vI s])], G.set id (.row 1 (upV (K.map encI))), B, []⟩)
theorem set_id {α : Type} {M : List α} {i : Nat} {x : α} (h : M[i]? = some x) : M.set i x = M := by
  obtain ⟨h1, h2⟩ := List.getElem?_eq_some_iff.1 h
  rw [← h2]; exact List.set_getElem_self h1
theorem gsnap_lines_lp (s : Int) (hs : I64 s) (w : V) (n i : Nat) (hi : i < n) (L : List Int) (hL : ∀ x ∈ L, I64 x) (hn : L.length ≤ 1000000) (H0 id : Nat) (G : Heap) (B : Nat) (es : List (List V)) (v2 : V)
    (h0 : Eng.rowAt G H0 = some (2, es)) (he : es.length = n) (hei : es[i]? = some [.row id L.length 0 L.length, v2]) (hid : id < G.length) (hne : id ≠ H0) (hB : B ≤ id) :
    evD EE lp31_0 (linesE s w n i L H0 id G B L 0) = some (linesX s w n i L H0 id G B (L.map fun x => upG x s)) := by
  unfold lp31_0
  refine (evD_fold L (linesE s w n i L H0 id G B) (fun M k => M.length = L.length ∧ M.drop k = L.drop k) (fun M k x => M.set k (upG x s)) (linesX s w n i L H0 id G B) (fun _ _ => rfl) ?_ ?_ L 0 ⟨rfl, rfl⟩ (Nat.zero_le _)).trans ?_
  · rintro M k x ⟨hM, hd⟩ hx
    have hlt := (List.getElem?_eq_some_iff.1 hx).1
    have hMx : M[k]? = some x := by
      have := congrArg (·[0]?) hd
      simpa [List.getElem?_drop, hx] using this
    have w1 : IntKind.i64.wrap ((k : Int) + 1) = ((k + 1 : Nat) : Int) := w64 (by omega) (by omega)
    have ho := hL x (List.mem_of_getElem? hx)
    have hu : (upV (M.map encI))[k]? = some [vI x] := by simp [upV, hMx, encI]
    have inv : (M.set k (upG x s)).length = L.length ∧ (M.set k (upG x s)).drop (k + 1) = L.drop (k + 1) := by
      refine ⟨by simp [hM], ?_⟩
      rw [List.drop_set_of_lt (Nat.lt_succ_self k)]
      have := congrArg (List.drop 1) hd
      simpa [List.drop_drop, Nat.add_comm] using this
    refine ⟨?_, inv⟩
    have hrow := rowAt_set G id 1 (upV (M.map encI)) hid
    have hrow0 : Eng.rowAt (G.set id (.row 1 (upV (M.map encI)))) H0 = some (2, es) := by rw [rowAt_set_ne _ _ _ _ hne, h0]
    have hlen : (upV (M.map encI)).length = L.length := by simp [hM]
    have t1 := turn_row 35 (fun n => upG n s) x s (G.set id (.row 1 (upV (M.map encI)))) id L.length k 0 1 _ _ hrow hlen hu rfl (by simpa using hid) (fun H' => gup_ev x s H' ho hs)
    have e : (upV (M.map encI)).set k [vI (upG x s)] = upV ((M.set k (upG x s)).map encI) := by
      rw [← upV_set]; rfl
    simp only [List.set_cons_zero, e, List.set_set] at t1
    simp [-getElem?_pos, linesE, hlt, hi, he, hei, ixs_row, hM, hrow, hrow0, hu, subs, t1, w1, hB]
  · rintro M ⟨hM, hd⟩
    simp [linesE, linesX]
  · have := fold_set (fun x => upG x s) L []
    simp at this
    simp [this]

abbrev okNote (n : Note) : Prop := (∀ x ∈ n.lines, I64 x) ∧ n.lines.length ≤ 1000000 ∧ n.pens.length ≤ 1000000
def rowsH (l : List Int) : Heap := if l = [] then [] else [.row 1 (upV (l.map encI))]
def noteH (s : Int) (n : Note) : Heap := rowsH (n.lines.map fun x => upG x s) ++ rowsH n.pens
def noteV (id : Nat) (n : Note) : List V := [cloneV id n.lines, cloneV (id + (if n.lines = [] then 0 else 1)) n.pens]
def notesH (s : Int) : List Note → Heap
  | [] => []
  | n :: r => noteH s n ++ notesH s r
def notesV (s : Int) : Nat → List Note → List (List V)
  | _, [] => []
  | id, n :: r => noteV id n :: notesV s (id + (noteH s n).length) r
theorem notesH_app (s : Int) : ∀ a b, notesH s (a ++ b) = notesH s a ++ notesH s b
  | [], b => rfl
  | n :: r, b => by simp only [List.cons_append, notesH, notesH_app s r b, List.append_assoc]
theorem notesV_app (s : Int) : ∀ a id b, notesV s id (a ++ b) = notesV s id a ++ notesV s (id + (notesH s a).length) b
  | [], id, b => by simp [notesV, notesH]
  | n :: r, id, b => by simp only [List.cons_append, notesV, notesH, notesV_app s r, List.length_append, Nat.add_assoc]
theorem notesV_len (s : Int) : ∀ l id, (notesV s id l).length = l.length
  | [], _ => rfl
  | n :: r, id => by simp only [notesV, List.length_cons, notesV_len s r]

def notesHp (s : Int) (l : List Note) (H : Heap) (i : Nat) : Heap :=
  H ++ [.row 2 (notesV s (H.length + 1) (l.take i) ++ List.replicate (l.length - i) [.nils, .nils])] ++ notesH s (l.take i)
def notesE (s : Int) (l : List Note) (H : Heap) (i : Nat) : St :=
  ⟨[(2, .lptr 2 0), (5, .row H.length l.length 0 l.length), (12, vNotes l), (13, vI l.length), (14, vI i)], [(2, [vI s])], notesHp s l H i, H.length, []⟩
def notesX (s : Int) (l : List Note) (H : Heap) : Ex × St :=
  (.exit 0, ⟨[(2, .lptr 2 0), (5, .row H.length l.length 0 l.length), (12, vNotes l), (13, vI l.length), (14, vI l.length), (15, .p (.bool false))], [(2, [vI s])], notesHp s l H l.length, H.length, []⟩)

theorem len_cloneV {α : Type} (n : Nat) (l : List α) : lenV (cloneV n l) = some l.length := by
  unfold cloneV; split
  · rename_i h; subst h; rfl
  · rfl
theorem notesHp_succ (s : Int) (l : List Note) (H : Heap) (i : Nat) (n : Note) (hx : l[i]? = some n) :
    notesHp s l H (i + 1) = H ++ [.row 2 (notesV s (H.length + 1) (l.take i) ++ noteV (H.length + 1 + (notesH s (l.take i)).length) n :: List.replicate (l.length - i - 1) [.nils, .nils])] ++ notesH s (l.take i) ++ noteH s n := by
  have e : l.take (i + 1) = l.take i ++ [n] := by rw [List.take_add_one, hx]; rfl
  unfold notesHp
  rw [e, notesV_app, notesH_app]
  simp [notesV, notesH, Nat.sub_sub]
theorem cloneSps (H : Heap) (l : List Int) (hm : l.length ≤ 1000000) : clD EE (.p (.fn 55)) [sli l] H = some (cloneV H.length l, cloneH encI 1 H l) := clone_list _ 1 _ H encI (fun _ => rfl) cloneSps_fn l (by unfold most; omega)
theorem cloneInts (H : Heap) (l : List Int) (hm : l.length ≤ 1000000) : clD EE (.p (.fn 56)) [sli l] H = some (cloneV H.length l, cloneH encI 1 H l) := clone_list _ 1 _ H encI (fun _ => rfl) cloneInts_fn l (by unfold most; omega)

theorem nolines_lp (a b c d e f : V) (u : List V) (H : Heap) (B : Nat) : evD EE lp31_0 ⟨[(2, a), (5, b), (6, c), (12, d), (13, e), (14, f), (34, vI 0), (35, vI 0)], [(2, u)], H, B, []⟩ =
    some (.exit 2, ⟨[(2, a), (5, b), (6, c), (12, d), (13, e), (14, f), (34, vI 0), (35, vI 0), (36, .p (.bool false))], [(2, u)], H, B, []⟩) := by
  unfold lp31_0
  rw [evD_loop]
  simp
theorem mid_get {α : Type} {A : List α} {i : Nat} (h : A.length = i) (x : α) (r : List α) : (A ++ x :: r)[i]? = some x := by subst h; simp
theorem mid_set {α : Type} {A : List α} {i : Nat} (h : A.length = i) (x y : α) (r : List α) : (A ++ x :: r).set i y = A ++ y :: r := by subst h; simp

@[simp] theorem cells_cloneV {α : Type} (n : Nat) (l : List α) : (cloneV n l).cells = [cloneV n l] := by unfold cloneV; split <;> rfl
@[simp] theorem oneB_cloneV {α : Type} (n : Nat) (l : List α) : (cloneV n l).oneB = true := by unfold cloneV; split <;> rfl
@[simp] theorem outB_cloneV {α : Type} (n : Nat) (l : List α) : (cloneV n l).outB = true := by unfold cloneV; split <;> rfl
@[simp] theorem notL_cloneV {α : Type} (n : Nat) (l : List α) : (cloneV n l).notL = true := by unfold cloneV; split <;> rfl
@[simp] theorem cloneV_nil {α : Type} (n : Nat) : cloneV n ([] : List α) = .nils := rfl
@[simp] theorem rowsH_nil : rowsH [] = [] := rfl
@[simp] theorem cloneV_cons {α : Type} (n : Nat) (x : α) (r : List α) : cloneV n (x :: r) = .row n (x :: r).length 0 (x :: r).length := rfl
@[simp] theorem rowsH_cons (x : Int) (r : List Int) : rowsH (x :: r) = [.row 1 (upV ((x :: r).map encI))] := rfl
theorem callR_cloneI (env : List (Nat × V)) (loc : List (Nat × List V)) (hp : Heap) (base : Nat) (dirty : List Nat) (n : Nat) (d : Option Nat) (l : List Int) :
    callR ⟨env, loc, hp, base, dirty⟩ false d (some (cloneV n l, cloneH encI 1 hp l)) = some (St.put ⟨env, loc, hp ++ rowsH l, base, dirty⟩ d (cloneV n l)) := by
  unfold cloneV cloneH rowsH
  split
  · rename_i h; subst h; simp
  · simp

theorem gsnap_notes_lp (s : Int) (hs : I64 s) (l : List Note) (hl : ∀ x ∈ l, okNote x) (hn : l.length ≤ 1000000) (H : Heap) :
    evD EE lp31_1 (notesE s l H 0) = some (notesX s l H) := by
  unfold lp31_1
  refine (evD_fold l (fun (_ : Unit) i => notesE s l H i) (fun _ _ => True) (fun _ _ _ => ()) (fun _ => notesX s l H) (fun _ _ => rfl) ?_ ?_ () 0 trivial (Nat.zero_le _))
  · rintro _ i n - hx
    refine ⟨?_, trivial⟩
    have hlt := (List.getElem?_eq_some_iff.1 hx).1
    have w1 : IntKind.i64.wrap ((i : Int) + 1) = ((i + 1 : Nat) : Int) := w64 (by omega) (by omega)
    obtain ⟨h1, h2, h3⟩ := hl n (List.mem_of_getElem? hx)
    have hix := fun H k => ixs_nat H encNote (k := k) (s := 2) hx rfl
    obtain ⟨k, hk⟩ : ∃ k, l.length - i = k + 1 := ⟨l.length - i - 1, by omega⟩
    have hk2 : l.length - i - 1 = k := by omega
    have hsucc := notesHp_succ s l H i n hx
    rw [hk2] at hsucc
    have hA := notesV_len s (l.take i) (H.length + 1)
    rw [List.length_take, Nat.min_eq_left (Nat.le_of_lt hlt)] at hA
    have e0 : notesHp s l H i = H ++ [.row 2 (notesV s (H.length + 1) (l.take i) ++ List.replicate (k + 1) [.nils, .nils])] ++ notesH s (l.take i) := by unfold notesHp; rw [hk]
    simp only [notesE]
    generalize notesHp s l H (i + 1) = R at hsucc ⊢
    rw [e0]
    generalize notesV s (H.length + 1) (l.take i) = A at *
    generalize notesH s (l.take i) = T at *
    have hrow : ∀ (v : List V) (U : Heap), Eng.rowAt (H ++ DObj.row 2 (A ++ v :: List.replicate k [.nils, .nils]) :: U) H.length = some (2, A ++ v :: List.replicate k [.nils, .nils]) := fun v U => by simp
    have hes : ∀ (v : List V), (A ++ v :: List.replicate k [.nils, .nils]).length = l.length := fun v => by simp; omega
    have mg := fun x r => mid_get (α := List V) hA x r
    have ms := fun x y r => mid_set (α := List V) hA x y r
    simp only [List.replicate_succ, List.append_assoc, List.cons_append, List.nil_append] at hsucc ⊢
    have c1 := cloneSps (H ++ DObj.row 2 (A ++ [.nils, .nils] :: List.replicate k [.nils, .nils]) :: T) n.lines h2
    have c2 := cloneInts (H ++ DObj.row 2 (A ++ [.nils, .nils] :: List.replicate k [.nils, .nils]) :: (T ++ rowsH n.lines)) n.pens h3
    simp only [sli] at c1 c2
    cases hL : n.lines with
    | nil =>
      simp only [hL, List.map_nil, rowsH_nil, List.append_nil] at c1 c2
      simp only [cloneV_nil] at c1
      rw [show cloneH encI 1 (H ++ DObj.row 2 (A ++ [.nils, .nils] :: List.replicate k [.nils, .nils]) :: T) [] = none from rfl] at c1
      have nl := fun v U => nolines_lp (.lptr 2 0) (.row H.length l.length 0 l.length) (vI i) (vNotes l) (vI l.length) (vI i) [vI s] (H ++ DObj.row 2 (A ++ v :: List.replicate k [.nils, .nils]) :: (T ++ U)) H.length
      simp only [noteV, noteH, hL, List.map_nil, rowsH_nil, cloneV_nil, if_pos, Nat.add_zero, Nat.add_assoc, Nat.add_comm 1, List.nil_append] at hsucc
      simp only [List.length_append, List.length_cons] at c1 c2
      rw [hsucc]
      simp [-getElem?_pos, hlt, hix, encNote, subs, setSubs, ixs_row, hrow, hes, mg, ms, hL, c1, c2, callR_cloneI, nl, w1]
    | cons x r =>
      simp only [hL, rowsH_cons, cloneV_cons] at c1 c2
      rw [show ∀ G, cloneH encI 1 G (x :: r) = some (G ++ [.row 1 (upV ((x :: r).map encI))], []) from fun _ => rfl] at c1
      simp only [noteV, noteH, hL, List.map_cons, rowsH_cons, cloneV_cons, List.cons_ne_nil, if_false, reduceCtorEq, Nat.add_assoc, Nat.add_comm 1, List.nil_append] at hsucc
      simp only [List.length_append, List.length_cons, List.length_nil, Nat.zero_add, List.append_assoc, List.cons_append, List.nil_append] at c1 c2
      have hset : ∀ v K, (H ++ DObj.row 2 (A ++ v :: List.replicate k [.nils, .nils]) :: (T ++ DObj.row 1 (upV ((x :: r).map encI)) :: rowsH n.pens)).set (H.length + (T.length + 1)) (.row 1 K) =
          H ++ DObj.row 2 (A ++ v :: List.replicate k [.nils, .nils]) :: (T ++ DObj.row 1 K :: rowsH n.pens) := fun v K => by simp
      have key := gsnap_lines_lp s hs (vNotes l) l.length i hlt (x :: r) (fun y hy => h1 y (hL ▸ hy)) (by rw [← hL]; exact h2) H.length (H.length + (T.length + 1))
        (H ++ DObj.row 2 (A ++ [.row (H.length + (T.length + 1)) (x :: r).length 0 (x :: r).length, cloneV (H.length + (T.length + 2)) n.pens] :: List.replicate k [.nils, .nils]) :: (T ++ DObj.row 1 (upV ((x :: r).map encI)) :: rowsH n.pens)) H.length _ (cloneV (H.length + (T.length + 2)) n.pens)
        (hrow _ _) (hes _) (mg _ _) (by simp) (by omega) (by omega)
      simp only [linesE, linesX, hset] at key
      rw [hsucc]
      simp at c1 c2 key
      simp [-getElem?_pos, hlt, hix, encNote, subs, setSubs, ixs_row, hrow, hes, mg, ms, hL, c1, c2, callR_cloneI, key, w1]
  · rintro _ -
    refine ⟨?_, by simp [notesX]⟩
    simp [notesE, notesX]

theorem frz_clone (base id : Nat) (G : Heap) (d : Nat) (L K : List Int) (h : Eng.rowAt G id = some (1, upV (K.map encI)) ∨ L = []) (hb : base ≤ id) (hl : K.length = L.length) : frz base G (d + 1) (cloneV id L) = some (.sl (K.map encI)) := by
  cases L with
  | nil =>
    have : K = [] := by simpa using hl
    subst this; rfl
  | cons x r =>
    rcases h with h | h
    · rw [cloneV_cons, frz_row, if_pos hb, h, frzK_upV]; simp [hl]
      rw [← List.length_cons (a := x) (as := r), ← hl]; simp
    · cases h
theorem notesH_row1 (s : Int) (n : Note) (H0 : Heap) (U : Heap) : Eng.rowAt (H0 ++ (noteH s n ++ U)) H0.length = some (1, upV ((n.lines.map fun x => upG x s).map encI)) ∨ n.lines = [] := by
  unfold noteH
  cases h : n.lines with
  | nil => exact .inr rfl
  | cons x r => left; simp
theorem notesH_row2 (s : Int) (n : Note) (H0 : Heap) (U : Heap) : Eng.rowAt (H0 ++ (noteH s n ++ U)) (H0.length + (if n.lines = [] then 0 else 1)) = some (1, upV (n.pens.map encI)) ∨ n.pens = [] := by
  unfold noteH
  cases h : n.pens with
  | nil => exact .inr rfl
  | cons x r =>
    left
    cases h2 : n.lines with
    | nil => simp
    | cons y q => simp
theorem noteH_len (s : Int) (n : Note) : (noteH s n).length = (if n.lines = [] then 0 else 1) + (if n.pens = [] then 0 else 1) := by
  unfold noteH rowsH
  cases n.lines <;> cases n.pens <;> rfl
theorem frz_notes (s : Int) (base : Nat) : ∀ (l : List Note) (H0 : Heap), base ≤ H0.length → allO (allO (frz base (H0 ++ notesH s l) 2)) (notesV s H0.length l) = some (l.map fun n => encNote (noteG s n))
  | [], _, _ => rfl
  | n :: r, H0, hb => by
    have ih := frz_notes s base r (H0 ++ noteH s n) (by simp; omega)
    rw [List.append_assoc, List.length_append] at ih
    have f1 := frz_clone base H0.length (H0 ++ (noteH s n ++ notesH s r)) 1 n.lines (n.lines.map fun x => upG x s) (notesH_row1 s n H0 _) hb (by simp)
    have f2 := frz_clone base (H0.length + (if n.lines = [] then 0 else 1)) (H0 ++ (noteH s n ++ notesH s r)) 1 n.pens n.pens (notesH_row2 s n H0 _) (by omega) rfl
    simp only [notesH, notesV, noteV, allO, f1, f2, ih, List.map_cons]
    rfl
theorem gnotes_ev (s : Int) (hs : I64 s) (l : List Note) (hl : ∀ x ∈ l, okNote x) (hn : l.length ≤ 1000000) (H : Heap) :
    clD EE (.p (.fn 31)) [.agg [vI s], vNotes l] H = some (vNotes (l.map (noteG s)), none) := by
  rw [clD_body _ _ _ _ _ _ (noP _) fn31]
  have key := gsnap_notes_lp s hs l hl hn H
  have hm : l.length < most := by unfold most; omega
  have fz := frz_notes s H.length l (H ++ [.row 2 (notesV s (H.length + 1) l)]) (by simp)
  have hl2 := notesV_len s l (H.length + 1)
  simp [notesE, notesX, notesHp, notesH, notesV] at key fz
  have ht : List.take l.length (notesV s (H.length + 1) l) = notesV s (H.length + 1) l := List.take_of_length_le (by omega)
  simp [St.enter, enumFrom, mksI_nat, hm, key, subs, frzK, hl2, ht, fz]

/-! ### The job -/
abbrev okGeom (g : Geom) : Prop := I64 g.cols ∧ I64 g.wide ∧ I64 g.gap ∧ I64 g.high ∧ I64 g.first ∧ I64 g.grid ∧ I64 g.rule ∧ I64 g.sep ∧ I64 g.noteMost ∧ I64 g.topMost ∧ I64 g.botMost ∧ I64 g.topMany ∧ I64 g.botMany ∧ I64 g.club ∧ I64 g.widow ∧ I64 g.split ∧ I64 g.defer ∧ I64 g.spare
structure okJob (j : Job) : Prop where
  g : okGeom j.g
  items : ∀ x ∈ j.items, okItem x
  notes : ∀ x ∈ j.notes, okNote x
  floats : ∀ x ∈ j.floats, okFloat x
  n1 : j.items.length ≤ 1000000
  n2 : j.notes.length ≤ 1000000
  n3 : j.floats.length ≤ 1000000
def floatsE (s : Int) (l : List Float) (u : List V) (g : Geom) (a b : V) (H : Heap) (M : List Float) (i : Nat) : St :=
  ⟨[(2, .lptr 2 0), (3, .lptr 3 0), (4, .ptr (H.length + 1) 0), (44, vI l.length), (45, vI i)], [(2, u), (3, [vI s])], H ++ [.row 3 (upV (M.map encFloat)), .box (cGeom g ++ [a, b, .row H.length l.length 0 l.length])], H.length, []⟩
def floatsX (s : Int) (l : List Float) (u : List V) (g : Geom) (a b : V) (H : Heap) (M : List Float) : Ex × St :=
  (.exit 0, ⟨[(2, .lptr 2 0), (3, .lptr 3 0), (4, .ptr (H.length + 1) 0), (44, vI l.length), (45, vI l.length), (46, .p (.bool false))], [(2, u), (3, [vI s])], H ++ [.row 3 (upV (M.map encFloat)), .box (cGeom g ++ [a, b, .row H.length l.length 0 l.length])], H.length, []⟩)
theorem gsnap_floats_lp (s : Int) (hs : I64 s) (l : List Float) (hl : ∀ x ∈ l, okFloat x) (hn : l.length ≤ 1000000) (u : List V) (g : Geom) (a b : V) (H : Heap) :
    evD EE lp15_0 (floatsE s l u g a b H l 0) = some (floatsX s l u g a b H (l.map (floatG s))) := by
  unfold lp15_0
  refine (evD_fold l (floatsE s l u g a b H) (fun M k => M.length = l.length ∧ M.drop k = l.drop k) (fun M k x => M.set k (floatG s x)) (floatsX s l u g a b H) (fun _ _ => rfl) ?_ ?_ l 0 ⟨rfl, rfl⟩ (Nat.zero_le _)).trans ?_
  · rintro M i x ⟨hM, hd⟩ hx
    have hlt := (List.getElem?_eq_some_iff.1 hx).1
    have hMx : M[i]? = some x := by
      have := congrArg (·[0]?) hd
      simpa [List.getElem?_drop, hx] using this
    have w : IntKind.i64.wrap ((i : Int) + 1) = ((i + 1 : Nat) : Int) := w64 (by omega) (by omega)
    have ho := hl x (List.mem_of_getElem? hx)
    have hu : (upV (M.map encFloat))[i]? = some ((encFloat x).map .p) := by simp [upV, hMx]
    have inv : (M.set i (floatG s x)).length = l.length ∧ (M.set i (floatG s x)).drop (i + 1) = l.drop (i + 1) := by
      refine ⟨by simp [hM], ?_⟩
      rw [List.drop_set_of_lt (Nat.lt_succ_self i)]
      have := congrArg (List.drop 1) hd
      simpa [List.drop_drop, Nat.add_comm] using this
    refine ⟨?_, inv⟩
    have hrow : ∀ U : Heap, Eng.rowAt (H ++ DObj.row 3 (upV (M.map encFloat)) :: U) H.length = some (3, upV (M.map encFloat)) := fun U => by simp
    have hlen : (upV (M.map encFloat)).length = l.length := by simp [hM]
    have hj : ((encFloat x).map V.p)[1]? = some (vI x.h) := rfl
    have t1 := fun U : Heap => turn_row 35 (fun n => upG n s) x.h s (H ++ DObj.row 3 (upV (M.map encFloat)) :: U) H.length l.length i 1 3 _ _ (hrow U) hlen hu hj (by simp) (fun H' => gup_ev x.h s H' ho.2.1 hs)
    have e : (upV (M.map encFloat)).set i (((encFloat x).map V.p).set 1 (vI (upG x.h s))) = upV ((M.set i (floatG s x)).map encFloat) := by
      rw [← upV_set]; rfl
    simp only [e] at t1
    simp [-getElem?_pos, floatsE, hlt, ixs_row, hM, hu, encFloat, subs, t1, w]
  · rintro M ⟨hM, hd⟩
    simp [floatsE, floatsX]
  · have := fold_set (floatG s) l []
    simp at this
    simp [this]

theorem snap_ev (j : Job) (ok : okJob j) (H : Heap) : clD EE (.p (.fn 15)) [vJob j] H = some (vJob (snapG j), none) := by
  rw [clD_body _ _ _ _ _ _ (noP _) fn15]
  obtain ⟨g, items, notes, floats⟩ := j
  have hg := ok.g
  simp only [okGeom] at hg
  by_cases c : g.grid < 1
  · simp [St.enter, enumFrom, subs, setSubs, c, snapG]
  · have h1 := items_ev g.grid hg.2.2.2.2.2.1 items ok.items ok.n1 H
    have h2 := gnotes_ev g.grid hg.2.2.2.2.2.1 notes ok.notes ok.n2 H
    have hc := clone_list _ 3 _ H encFloat (fun _ => rfl) cloneFloats_fn floats (by have := ok.n3; simp only at this; unfold most; omega)
    have i1 := fun H' => gdown_ev g.high g.grid H' hg.2.2.2.1 hg.2.2.2.2.2.1
    have i2 := fun H' => gdown_ev g.first g.grid H' hg.2.2.2.2.1 hg.2.2.2.2.2.1
    have i3 := fun H' => gup_ev g.rule g.grid H' hg.2.2.2.2.2.2.1 hg.2.2.2.2.2.1
    have i4 := fun H' => gup_ev g.sep g.grid H' hg.2.2.2.2.2.2.2.1 hg.2.2.2.2.2.1
    obtain ⟨I, hI⟩ : ∃ I, (items.map (itemG g.grid)).map encItem = I := ⟨_, rfl⟩
    obtain ⟨N, hN⟩ : ∃ I, (notes.map (noteG g.grid)).map encNote = I := ⟨_, rfl⟩
    have hj : snapG ⟨g, items, notes, floats⟩ = ⟨geomG g, items.map (itemG g.grid), notes.map (noteG g.grid), floats.map (floatG g.grid)⟩ := if_neg c
    rw [hj]
    show _ = some (V.agg (cGeom (geomG g) ++ [.p (.sl ((items.map (itemG g.grid)).map encItem)), .p (.sl ((notes.map (noteG g.grid)).map encNote)), vFloats (floats.map (floatG g.grid))]), none)
    simp only [vItems, vNotes, hI, hN] at h1 h2 ⊢
    clear hj hI hN
    cases floats with
    | nil =>
      have b1 := turn_box2 34 (fun n => downG n g.grid) g.high g.first g.grid (H ++ [.box (cGeom g ++ [.p (.sl I), .p (.sl N), .nils])])
        H.length 3 4 _ (by simp; rfl) rfl rfl (by decide) (by simp) i1 i2
      have b2 := turn_box2 35 (fun n => upG n g.grid) g.rule g.sep g.grid (H ++ [.box (cGeom { g with high := downG g.high g.grid, first := downG g.first g.grid } ++ [.p (.sl I), .p (.sl N), .nils])])
        H.length 6 7 _ (by simp; rfl) rfl rfl (by decide) (by simp) i3 i4
      have key : ∀ u cs, evD EE lp15_0 ⟨[(2, .lptr 2 0), (3, .lptr 3 0), (4, .ptr H.length 0), (44, vI 0), (45, vI 0)], [(2, u), (3, [vI g.grid])], H ++ [.box cs], H.length, []⟩ =
          some (.exit 0, ⟨[(2, .lptr 2 0), (3, .lptr 3 0), (4, .ptr H.length 0), (44, vI 0), (45, vI 0), (46, .p (.bool false))], [(2, u), (3, [vI g.grid])], H ++ [.box cs], H.length, []⟩) := by
        intro u cs
        unfold lp15_0
        rw [evD_loop]
        simp
      simp [cloneV, cloneH] at hc
      simp at b1 b2
      simp [St.enter, enumFrom, subs, setSubs, c, h1, h2, hc, b1, b2, key, geomG]
    | cons x r =>
      have b1 := turn_box2 34 (fun n => downG n g.grid) g.high g.first g.grid (H ++ [.row 3 (upV ((x :: r).map encFloat)), .box (cGeom g ++ [.p (.sl I), .p (.sl N), .row H.length (x :: r).length 0 (x :: r).length])])
        (H.length + 1) 3 4 _ (by simp; rfl) rfl rfl (by decide) (by simp) i1 i2
      have b2 := turn_box2 35 (fun n => upG n g.grid) g.rule g.sep g.grid (H ++ [.row 3 (upV ((x :: r).map encFloat)), .box (cGeom { g with high := downG g.high g.grid, first := downG g.first g.grid } ++ [.p (.sl I), .p (.sl N), .row H.length (x :: r).length 0 (x :: r).length])])
        (H.length + 1) 6 7 _ (by simp; rfl) rfl rfl (by decide) (by simp) i3 i4
      have key := fun u => gsnap_floats_lp g.grid hg.2.2.2.2.2.1 (x :: r) ok.floats ok.n3 u (geomG g) (.p (.sl I)) (.p (.sl N)) H
      simp [cloneV, cloneH] at hc
      simp at b1 b2
      simp [floatsE, floatsX, geomG] at key
      simp [St.enter, enumFrom, subs, setSubs, c, h1, h2, hc, b1, b2, key, geomG]
end Go.EnvOf

/- Jobs: whether all is on the grid. -/
namespace Go.EnvOf
open Go Go.Eng

def off (s n : Int) : Bool := !decide (n.tmod s = 0)
def badItem (s : Int) (x : Item) : Bool := (decide (x.k = 2) && (!decide (x.str = 0) || !decide (x.ord = 0) || !decide (x.shr = 0))) || ((decide (x.k = 1) || decide (x.k = 2)) && off s x.h)
def badJob (j : Job) : Bool := [j.g.high, j.g.first, j.g.rule, j.g.sep].any (off j.g.grid) || j.items.any (badItem j.g.grid) || j.notes.any (fun n => n.lines.any (off j.g.grid)) || j.floats.any (fun f => off j.g.grid f.h)
def onF (j : Job) : Bool := decide (j.g.grid < 1) || !badJob j

theorem idxSp_fn : EE.fns 135 = some (idxI 1 false) := fn135
theorem conSp_fn : EE.fns 132 = some (conI 135) := fn132
theorem conSp_ev (hv : V) (p : Int → Bool) (l : List Int) (H : Heap) (ho : (normA hv).outB = true) (ho2 : normA hv = hv) (hn : l.length ≤ 1000000) (hH : ∀ x ∈ l, clD EE hv [vI x] H = some (vB (p x), none)) :
    clD EE (.p (.fn 132)) [sli l, hv] H = some (vB (l.any p), none) :=
  con_ev _ _ (noP _) conSp_fn (sli l) hv p l H rfl rfl ho ho2 (idx_ev _ 1 false encI (fun x => vI x) (noP _) idxSp_fn (fun _ => rfl) (fun _ => rfl) (fun _ => rfl) (fun _ => rfl) l (by omega) hv p H hH)
def onHp (s : Int) (H : Heap) : Heap := H ++ [.box [vI s]]
theorem fold_or {α : Type} (p : α → Bool) : ∀ (l : List α) (w : Bool) (i : Nat), fold (fun (w : Bool) _ x => w || p x) w i l = (w || l.any p)
  | [], w, i => by simp [fold]
  | x :: r, w, i => by simp only [fold, fold_or p r, List.any_cons, Bool.or_assoc]

/-! ### By the document -/
abbrev cJ (j : Job) : List V := cGeom j.g ++ [vItems j.items, vNotes j.notes, vFloats j.floats]
def roE (j : Job) (H : Heap) (t : Nat) (i : Nat) : St := ⟨[(1, .lptr 1 0), (3, vI j.g.grid), (t, vI i)], [(1, cJ j)], H, H.length, []⟩
def roX (j : Job) (H : Heap) (t x e : Nat) (n : Nat) : Ex × St := (.exit e, ⟨[(1, .lptr 1 0), (3, vI j.g.grid), (t, vI n), (x, vB false)], [(1, cJ j)], H, H.length, []⟩)
def roB (H : Heap) : Ex × St := (.ret, ⟨[(2, vB false)], [], H, H.length, []⟩)
def rolE (j : Job) (H : Heap) (i : Nat) (k : Nat) : St := ⟨[(1, .lptr 1 0), (3, vI j.g.grid), (6, vI i), (7, vI k)], [(1, cJ j)], H, H.length, []⟩
def rolX (j : Job) (H : Heap) (i : Nat) (n : Nat) : Ex × St := (.exit 4, ⟨[(1, .lptr 1 0), (3, vI j.g.grid), (6, vI i), (7, vI n), (106, vB false)], [(1, cJ j)], H, H.length, []⟩)
end Go.EnvOf

/- Items that may be. -/
namespace Go.EnvOf
open Go Go.Eng

def lenOK (n : Int) : Bool := !(decide (n < 0) || decide (1073741823 < n))
def itemSame (x : Item) : Item := if x.k = 1 then ⟨1, x.h, x.f, 0, 0, 0, 0⟩ else if x.k = 2 then ⟨2, x.h, 0, x.str, x.ord, x.shr, 0⟩ else if x.k = 7 then ⟨7, 0, 0, 0, 0, 0, 0⟩ else ⟨x.k, 0, 0, 0, 0, 0, x.n⟩
def upTo (m n : Int) : Bool := decide (0 ≤ n) && decide (n ≤ m)
def nOk (x : Item) : Bool := if x.k = 3 then decide (x.n = -10000) || upTo 10000 x.n else if x.k = 4 then upTo 1048576 x.n else if x.k = 5 then upTo 511 x.n else if x.k = 6 then upTo 255 x.n else upTo 0 x.n
def rightF (x : Item) : Bool := decide (1 ≤ x.k) && decide (x.k ≤ 7) && decide (itemSame x = x) && nOk x && (lenOK x.h && lenOK x.str && lenOK x.shr) && upTo 3 x.f && upTo 3 x.ord && !(decide (x.k = 2) && decide (x.h < x.shr))

theorem upTo1_ev (m n : Int) (p : Nat) (H : Heap) (hb : Eng.boxAt H p = some [vI m]) : clD EE (.p (.fn 131)) [vI n, .ptr p 0] H = some (vB (upTo m n), none) := by
  rw [clD_body _ _ _ _ _ _ (noP _) fn131]
  have e : subs [vI m] 0 1 = some [vI m] := rfl
  by_cases c : 0 ≤ n
  · simp [St.enter, enumFrom, hb, e, upTo, c]
  · simp [St.enter, enumFrom, upTo, c]
theorem upTo_ev (m : Int) (H : Heap) : clD EE (.p (.fn 103)) [vI m] H = some (.fn (.func 131) [] [.ptr H.length 0], some (H ++ [.box [vI m]], [])) := by
  rw [clD_body _ _ _ _ _ _ (noP _) fn103]
  simp [St.enter, enumFrom]
theorem numbered_ev (f : FuncId) (H : Heap) : clD EE (.p (.fn 119)) [.p (.fn f)] H = some (.fn (.func 120) [] [.ptr H.length 0], some (H ++ [.box [.p (.fn f)]], [])) := by
  rw [clD_body _ _ _ _ _ _ (noP _) fn119]
  simp [St.enter, enumFrom]
theorem numbered1_ev (f : FuncId) (g : Int → Item) (x : Item) (p : Nat) (H : Heap) (hb : Eng.boxAt H p = some [.p (.fn f)]) (hg : ∀ H', clD EE (.p (.fn f)) [vI x.n] H' = some (vItem (g x.n), none)) :
    clD EE (.p (.fn 120)) [vItem x, .ptr p 0] H = some (vItem (g x.n), none) := by
  rw [clD_body _ _ _ _ _ _ (noP _) fn120]
  have h := hg H
  simp [St.enter, enumFrom, hb, subs, h, setSubs]
theorem box_ev (h f : Int) (H : Heap) : clD EE (.p (.fn 122)) [vI h, vI f] H = some (vItem ⟨1, h, f, 0, 0, 0, 0⟩, none) := by
  rw [clD_body _ _ _ _ _ _ (noP _) fn122]
  simp [St.enter, enumFrom, subs, setSubs]
theorem glue_ev (h s o r : Int) (H : Heap) : clD EE (.p (.fn 124)) [vI h, vI s, vI o, vI r] H = some (vItem ⟨2, h, 0, s, o, r, 0⟩, none) := by
  rw [clD_body _ _ _ _ _ _ (noP _) fn124]
  simp [St.enter, enumFrom, subs, setSubs]
theorem pen_item_ev (n : Int) (H : Heap) : clD EE (.p (.fn 41)) [vI n] H = some (vItem ⟨3, 0, 0, 0, 0, 0, n⟩, none) := by
  rw [clD_body _ _ _ _ _ _ (noP _) fn41]
  simp [St.enter, enumFrom, subs, setSubs]
theorem mark_ev (n : Int) (H : Heap) : clD EE (.p (.fn 126)) [vI n] H = some (vItem ⟨4, 0, 0, 0, 0, 0, n⟩, none) := by
  rw [clD_body _ _ _ _ _ _ (noP _) fn126]
  simp [St.enter, enumFrom, subs, setSubs]
theorem note_item_ev (n : Int) (H : Heap) : clD EE (.p (.fn 127)) [vI n] H = some (vItem ⟨5, 0, 0, 0, 0, 0, n⟩, none) := by
  rw [clD_body _ _ _ _ _ _ (noP _) fn127]
  simp [St.enter, enumFrom, subs, setSubs]
theorem float_item_ev (n : Int) (H : Heap) : clD EE (.p (.fn 128)) [vI n] H = some (vItem ⟨6, 0, 0, 0, 0, 0, n⟩, none) := by
  rw [clD_body _ _ _ _ _ _ (noP _) fn128]
  simp [St.enter, enumFrom, subs, setSubs]
theorem barrier_ev (H : Heap) : clD EE (.p (.fn 130)) [] H = some (vItem ⟨7, 0, 0, 0, 0, 0, 0⟩, none) := by
  rw [clD_body _ _ _ _ _ _ (noP _) fn130]
  simp [St.enter, enumFrom, subs, setSubs]
theorem form1_ev (x : Item) (H : Heap) : clD EE (.p (.fn 121)) [vItem x] H = some (vItem ⟨1, x.h, x.f, 0, 0, 0, 0⟩, none) := by
  rw [clD_body _ _ _ _ _ _ (noP _) fn121]
  simp [St.enter, enumFrom, subs, setSubs, box_ev]
theorem form2_ev (x : Item) (H : Heap) : clD EE (.p (.fn 123)) [vItem x] H = some (vItem ⟨2, x.h, 0, x.str, x.ord, x.shr, 0⟩, none) := by
  rw [clD_body _ _ _ _ _ _ (noP _) fn123]
  simp [St.enter, enumFrom, subs, setSubs, glue_ev]
theorem form7_ev (x : Item) (H : Heap) : clD EE (.p (.fn 129)) [vItem x] H = some (vItem ⟨7, 0, 0, 0, 0, 0, 0⟩, none) := by
  rw [clD_body _ _ _ _ _ _ (noP _) fn129]
  simp [St.enter, enumFrom, subs, setSubs, barrier_ev]
theorem form3n_ev (n : Int) (H : Heap) : clD EE (.p (.fn 125)) [vI n] H = some (vB (decide (n = -10000) || upTo 10000 n), none) := by
  rw [clD_body _ _ _ _ _ _ (noP _) fn125]
  have h := upTo1_ev 10000 n H.length (H ++ [.box [vI 10000]]) (by simp)
  by_cases c : n = -10000
  · simp [St.enter, enumFrom, c]
  · simp [St.enter, enumFrom, c, upTo_ev, h]

/-! ### The forms -/
def formH : Heap := [.box [vI 0], .box [vI 0], .box [.p (.fn 41)], .box [.p (.fn 126)], .box [vI 1048576], .box [.p (.fn 127)], .box [vI 511], .box [.p (.fn 128)], .box [vI 255], .box [vI 0]]
def up1 (n : Nat) : V := .fn (.func 131) [] [.ptr n 0]
def num1 (n : Nat) : V := .fn (.func 120) [] [.ptr n 0]
def formV (n : Nat) : List (List V) := [[.p (.fn 121), up1 n], [.p (.fn 123), up1 (n + 1)], [num1 (n + 2), .p (.fn 125)], [num1 (n + 3), up1 (n + 4)], [num1 (n + 5), up1 (n + 6)], [num1 (n + 7), up1 (n + 8)], [.p (.fn 129), up1 (n + 9)]]
theorem forms_ev (H : Heap) : clD EE (.p (.fn 102)) [] H = some (.vsl (formV H.length), some (H ++ formH, [])) := by
  rw [clD_body _ _ _ _ _ _ (noP _) fn102]
  simp [St.enter, enumFrom, setSubs, upTo_ev, numbered_ev, formV, formH, up1, num1]

theorem forms_at (x : Item) (h1 : 1 ≤ x.k) (h7 : x.k ≤ 7) (H : Heap) : ∃ sv nv, (∀ H', ixsI H' (.vsl (formV H.length)) (.p (.int .i64 (x.k - 1))) 2 = some (.eptr [sv, nv] 0)) ∧ sv.oneB = true ∧ nv.oneB = true ∧ sv.cells = [sv] ∧ nv.cells = [nv] ∧ sv.notL = true ∧ nv.notL = true ∧
    (∀ T, clD EE sv [vItem x] (H ++ (formH ++ T)) = some (vItem (itemSame x), none)) ∧ (∀ T, clD EE nv [vI x.n] (H ++ (formH ++ T)) = some (vB (nOk x), none)) := by
  have hk : x.k = 1 ∨ x.k = 2 ∨ x.k = 3 ∨ x.k = 4 ∨ x.k = 5 ∨ x.k = 6 ∨ x.k = 7 := by omega
  have up : ∀ (i : Nat) (m : Int) T, formH[i]? = some (.box [vI m]) → clD EE (up1 (H.length + i)) [vI x.n] (H ++ (formH ++ T)) = some (vB (upTo m x.n), none) := fun i m T hi => by
    unfold up1
    rw [clD_clo]
    refine upTo1_ev m x.n (H.length + i) _ ?_
    have hlt := (List.getElem?_eq_some_iff.1 hi).1
    rw [boxAt_app]; unfold Eng.boxAt; rw [List.getElem?_append_left hlt, hi]
  have nm : ∀ (i : Nat) (f : FuncId) (g : Int → Item) T, formH[i]? = some (.box [.p (.fn f)]) → (∀ H', clD EE (.p (.fn f)) [vI x.n] H' = some (vItem (g x.n), none)) → clD EE (num1 (H.length + i)) [vItem x] (H ++ (formH ++ T)) = some (vItem (g x.n), none) := fun i f g T hi hg => by
    unfold num1
    rw [clD_clo]
    refine numbered1_ev f g x (H.length + i) _ ?_ hg
    have hlt := (List.getElem?_eq_some_iff.1 hi).1
    rw [boxAt_app]; unfold Eng.boxAt; rw [List.getElem?_append_left hlt, hi]
  rcases hk with k | k | k | k | k | k | k
  · refine ⟨.p (.fn 121), up1 H.length, fun H' => by simp [k, ixsI, ixsV, formV], rfl, rfl, rfl, rfl, rfl, rfl, fun T => ?_, fun T => ?_⟩
    · rw [form1_ev]; simp [itemSame, k]
    · rw [show up1 H.length = up1 (H.length + 0) from rfl, up 0 0 T rfl]; simp [nOk, k]
  · refine ⟨.p (.fn 123), up1 (H.length + 1), fun H' => by simp [k, ixsI, ixsV, formV], rfl, rfl, rfl, rfl, rfl, rfl, fun T => ?_, fun T => ?_⟩
    · rw [form2_ev]; simp [itemSame, k]
    · rw [up 1 0 T rfl]; simp [nOk, k]
  · refine ⟨num1 (H.length + 2), .p (.fn 125), fun H' => by simp [k, ixsI, ixsV, formV], rfl, rfl, rfl, rfl, rfl, rfl, fun T => ?_, fun T => ?_⟩
    · rw [nm 2 41 (fun n => ⟨3, 0, 0, 0, 0, 0, n⟩) T rfl (fun H' => pen_item_ev x.n H')]; simp [itemSame, k]
    · rw [form3n_ev]; simp [nOk, k]
  · refine ⟨num1 (H.length + 3), up1 (H.length + 4), fun H' => by simp [k, ixsI, ixsV, formV], rfl, rfl, rfl, rfl, rfl, rfl, fun T => ?_, fun T => ?_⟩
    · rw [nm 3 126 (fun n => ⟨4, 0, 0, 0, 0, 0, n⟩) T rfl (fun H' => mark_ev x.n H')]; simp [itemSame, k]
    · rw [up 4 1048576 T rfl]; simp [nOk, k]
  · refine ⟨num1 (H.length + 5), up1 (H.length + 6), fun H' => by simp [k, ixsI, ixsV, formV], rfl, rfl, rfl, rfl, rfl, rfl, fun T => ?_, fun T => ?_⟩
    · rw [nm 5 127 (fun n => ⟨5, 0, 0, 0, 0, 0, n⟩) T rfl (fun H' => note_item_ev x.n H')]; simp [itemSame, k]
    · rw [up 6 511 T rfl]; simp [nOk, k]
  · refine ⟨num1 (H.length + 7), up1 (H.length + 8), fun H' => by simp [k, ixsI, ixsV, formV], rfl, rfl, rfl, rfl, rfl, rfl, fun T => ?_, fun T => ?_⟩
    · rw [nm 7 128 (fun n => ⟨6, 0, 0, 0, 0, 0, n⟩) T rfl (fun H' => float_item_ev x.n H')]; simp [itemSame, k]
    · rw [up 8 255 T rfl]; simp [nOk, k]
  · refine ⟨.p (.fn 129), up1 (H.length + 9), fun H' => by simp [k, ixsI, ixsV, formV], rfl, rfl, rfl, rfl, rfl, rfl, fun T => ?_, fun T => ?_⟩
    · rw [form7_ev]; simp [itemSame, k]
    · rw [up 9 0 T rfl]; simp [nOk, k]

/-! ### The check -/
theorem long1_ev (n : Int) (H : Heap) : clD EE (.p (.fn 133)) [vI n] H = some (vB (!lenOK n), none) := by
  rw [clD_body _ _ _ _ _ _ (noP _) fn133]
  by_cases c : n < 0
  · simp [St.enter, enumFrom, lenOK, c]
  · simp [St.enter, enumFrom, lenOK, c]
theorem long_ev (a b c : Int) (H : Heap) : clD EE (.p (.fn 104)) [.p (.sl [[.int .i64 a], [.int .i64 b], [.int .i64 c]])] H = some (vB (lenOK a && lenOK b && lenOK c), none) := by
  rw [clD_body _ _ _ _ _ _ (noP _) fn104]
  have h := conSp_ev (.p (.fn 133)) (fun n => !lenOK n) [a, b, c] H rfl rfl (by simp) (fun x _ => long1_ev x H)
  simp only [sli, List.map_cons, List.map_nil, encI] at h
  simp [St.enter, enumFrom, h]
  cases lenOK a <;> cases lenOK b <;> cases lenOK c <;> rfl
theorem item_cells' (x y : Item) : eqCells [true, true, true, true, true, true, true] [vI x.k, vI x.h, vI x.f, vI x.str, vI x.ord, vI x.shr, vI x.n] [vI y.k, vI y.h, vI y.f, vI y.str, vI y.ord, vI y.shr, vI y.n] = some (decide (x = y)) := by
  obtain ⟨a, b, c, d, e, f, g⟩ := x
  obtain ⟨a', b', c', d', e', f', g'⟩ := y
  simp [Bool.decide_and]
theorem itemCheck_ev (x : Item) (H : Heap) : clD EE (.p (.fn 77)) [vItem x] H = some (vI (if rightF x = true then 0 else 8), none) := by
  rw [clD_body _ _ _ _ _ _ (noP _) fn77]
  by_cases c1 : x.k < 1
  · have e : rightF x = false := by
      have : ¬ 1 ≤ x.k := by omega
      simp [rightF, this]
    simp [St.enter, enumFrom, subs, c1, e]
  · by_cases c7 : 7 < x.k
    · have e : rightF x = false := by
        have : ¬ x.k ≤ 7 := by omega
        simp [rightF, this]
      simp [St.enter, enumFrom, subs, c1, c7, e]
    · obtain ⟨sv, nv, f1, f2, f3, f4, f5, f8, f9, f6, f7⟩ := forms_at x (by omega) (by omega) H
      have w : IntKind.i64.wrap (x.k - 1) = x.k - 1 := w64 (by omega) (by omega)
      have g6 := f6 [.box [vI 3]]
      have g7 := f7 [.box [vI 3]]
      have hb : Eng.boxAt (H ++ (formH ++ [.box [vI 3]])) (H.length + formH.length) = some [vI 3] := by simp
      have t1 := upTo1_ev 3 x.f (H.length + formH.length) _ hb
      have t2 := upTo1_ev 3 x.ord (H.length + formH.length) _ hb
      have hl := long_ev x.h x.str x.shr (H ++ (formH ++ [.box [vI 3]]))
      have he := item_cells' (itemSame x) x
      have hf := forms_ev H
      have a1 : (1 : Int) ≤ x.k := by omega
      have a7 : x.k ≤ 7 := by omega
      unfold rightF
      simp only [a1, a7, decide_true, Bool.true_and]
      generalize formV H.length = fv at *
      generalize formH = FH at *
      generalize itemSame x = y at *
      cases e1 : decide (y = x) with
      | false =>
        rw [e1] at he
        simp [-eqCells_cons, St.enter, enumFrom, subs, setSubs, c1, c7, hf, f1, f2, f3, f4, f5, f8, f9, w, upTo_ev, g6, he]
      | true =>
        rw [e1] at he
        cases e2 : nOk x with
        | false =>
          rw [e2] at g7
          simp [-eqCells_cons, St.enter, enumFrom, subs, setSubs, c1, c7, hf, f1, f2, f3, f4, f5, f8, f9, w, upTo_ev, g6, g7, he]
        | true =>
          rw [e2] at g7
          cases e3 : (lenOK x.h && lenOK x.str && lenOK x.shr) with
          | false =>
            rw [e3] at hl
            simp [-eqCells_cons, St.enter, enumFrom, subs, setSubs, c1, c7, hf, f1, f2, f3, f4, f5, f8, f9, w, upTo_ev, g6, g7, he, hl]
          | true =>
            rw [e3] at hl
            cases e4 : upTo 3 x.f with
            | false =>
              rw [e4] at t1
              simp [-eqCells_cons, St.enter, enumFrom, subs, setSubs, c1, c7, hf, f1, f2, f3, f4, f5, f8, f9, w, upTo_ev, g6, g7, he, hl, t1]
            | true =>
              rw [e4] at t1
              cases e5 : upTo 3 x.ord with
              | false =>
                rw [e5] at t2
                simp [-eqCells_cons, St.enter, enumFrom, subs, setSubs, c1, c7, hf, f1, f2, f3, f4, f5, f8, f9, w, upTo_ev, g6, g7, he, hl, t1, t2]
              | true =>
                rw [e5] at t2
                by_cases k2 : x.k = 2
                · have w1 : IntKind.i64.wrap 1 = 1 := w64 (by omega) (by omega)
                  have e21 : (2 : Int) - 1 = 1 := rfl
                  rw [k2] at he
                  simp only [vItem, k2, e21] at f1 g6
                  by_cases k3 : x.h < x.shr
                  · simp [-eqCells_cons, St.enter, enumFrom, subs, setSubs, c1, c7, hf, f1, f2, f3, f4, f5, f8, f9, w1, upTo_ev, g6, g7, he, hl, t1, t2, k2, k3]
                  · simp [-eqCells_cons, St.enter, enumFrom, subs, setSubs, c1, c7, hf, f1, f2, f3, f4, f5, f8, f9, w1, upTo_ev, g6, g7, he, hl, t1, t2, k2, k3]
                · simp [-eqCells_cons, St.enter, enumFrom, subs, setSubs, c1, c7, hf, f1, f2, f3, f4, f5, f8, f9, w, upTo_ev, g6, g7, he, hl, t1, t2, k2]
end Go.EnvOf

/- Items that may be, by the document. -/
namespace Go.EnvOf
open Go Go.Eng

def sndIC : IC → IC
  | .seq _ b => b
  | c => c
def fstIC : IC → IC
  | .seq a _ => a
  | c => c
/-- What is common to all kinds. -/
def rTail : IC := sndIC (sndIC (sndIC ir25.body))
theorem rlong_ev (n : Int) (H : Heap) : clD EE (.p (.fn 51)) [vI n] H = some (vB (lenOK n), none) := by
  rw [clD_body _ _ _ _ _ _ (noP _) fn51]
  by_cases c : n < 0
  · have c2 : ¬ 0 ≤ n := by omega
    simp [St.enter, enumFrom, lenOK, c, c2]
  · have c2 : 0 ≤ n := by omega
    by_cases d : n ≤ 1073741823
    · have d2 : ¬ 1073741823 < n := by omega
      simp [St.enter, enumFrom, lenOK, c, c2, d, d2]
    · have d2 : 1073741823 < n := by omega
      simp [St.enter, enumFrom, lenOK, c, c2, d, d2]
def tailF (x y : Item) : Bool := decide (x = y) && lenOK x.h && lenOK x.str && lenOK x.shr && decide (0 ≤ x.f) && decide (x.f ≤ 3) && decide (0 ≤ x.ord) && decide (x.ord ≤ 3) && (!decide (x.k = 2) || decide (x.shr ≤ x.h))
abbrev cItem (x : Item) : List V := [vI x.k, vI x.h, vI x.f, vI x.str, vI x.ord, vI x.shr, vI x.n]
theorem tail_ev (x y : Item) (H : Heap) (e : List (Nat × V)) : evD EE rTail ⟨(1, .lptr 1 0) :: (3, .lptr 3 0) :: e, [(1, cItem x), (3, cItem y)], H, H.length, []⟩ = some (.ret, ⟨[(2, vB (tailF x y))], [], H, H.length, []⟩) := by
  simp only [rTail, ir25, sndIC]
  have he := item_cells' x y
  have l1 := rlong_ev x.h H
  have l2 := rlong_ev x.str H
  have l3 := rlong_ev x.shr H
  unfold tailF
  cases e1 : decide (x = y) with
  | false => rw [e1] at he; simp [-eqCells_cons, subs, he]
  | true =>
    rw [e1] at he
    cases e2 : lenOK x.h with
    | false => rw [e2] at l1; simp [-eqCells_cons, subs, he, l1]
    | true =>
      rw [e2] at l1
      cases e3 : lenOK x.str with
      | false => rw [e3] at l2; simp [-eqCells_cons, subs, he, l1, l2]
      | true =>
        rw [e3] at l2
        cases e4 : lenOK x.shr with
        | false => rw [e4] at l3; simp [-eqCells_cons, subs, he, l1, l2, l3]
        | true =>
          rw [e4] at l3
          by_cases a1 : 0 ≤ x.f
          · by_cases a2 : x.f ≤ 3
            · by_cases a3 : 0 ≤ x.ord
              · by_cases a4 : x.ord ≤ 3
                · generalize hk : decide (x.k = 2) = k2
                  cases k2 with
                  | true =>
                    have k2 : x.k = 2 := by simpa using hk
                    rw [k2] at he
                    simp [-eqCells_cons, subs, he, l1, l2, l3, a1, a2, a3, a4, k2]
                  | false =>
                    have k2 : ¬ x.k = 2 := by simpa using hk
                    simp [-eqCells_cons, subs, he, l1, l2, l3, a1, a2, a3, a4, k2]
                · simp [-eqCells_cons, subs, he, l1, l2, l3, a1, a2, a3, a4]
              · simp [-eqCells_cons, subs, he, l1, l2, l3, a1, a2, a3]
            · simp [-eqCells_cons, subs, he, l1, l2, l3, a1, a2]
          · simp [-eqCells_cons, subs, he, l1, l2, l3, a1]
theorem right_of (x : Item) (h1 : 1 ≤ x.k) (h7 : x.k ≤ 7) : rightF x = (nOk x && tailF x (itemSame x)) := by
  unfold rightF tailF upTo
  have e : decide (itemSame x = x) = decide (x = itemSame x) := by
    by_cases h : x = itemSame x
    · simp [← h]
    · have : ¬ itemSame x = x := fun e => h e.symm
      simp [h, this]
  rw [e]
  have e2 : (!(decide (x.k = 2) && decide (x.h < x.shr))) = (!decide (x.k = 2) || decide (x.shr ≤ x.h)) := by
    by_cases a : x.k = 2 <;> by_cases b : x.h < x.shr
    · have : ¬ x.shr ≤ x.h := by omega
      simp [a, b, this]
    · have : x.shr ≤ x.h := by omega
      simp [a, b, this]
    · simp [a]
    · simp [a]
  rw [e2]
  simp only [h1, h7, decide_true, Bool.true_and]
  generalize nOk x = b1
  generalize decide (x = itemSame x) = b2
  cases b1 <;> cases b2 <;> simp [Bool.and_assoc]
theorem rright_ev (x : Item) (H : Heap) : clD EE (.p (.fn 25)) [vItem x] H = some (vB (rightF x), none) := by
  rw [clD_body _ _ _ _ _ _ (noP _) fn25]
  have key := tail_ev x (itemSame x) H
  show finK false [.tmp 2] (evD EE (.seq (fstIC ir25.body) (.seq (fstIC (sndIC ir25.body)) (.seq (fstIC (sndIC (sndIC ir25.body))) rTail))) (St.enter [vItem x] H)) = _
  simp only [ir25, sndIC, fstIC]
  by_cases c : 1 ≤ x.k ∧ x.k ≤ 7
  · rw [right_of x c.1 c.2]
    have hk : x.k = 1 ∨ x.k = 2 ∨ x.k = 3 ∨ x.k = 4 ∨ x.k = 5 ∨ x.k = 6 ∨ x.k = 7 := by omega
    obtain ⟨k, h, f, str, ord, shr, n⟩ := x
    simp only at hk
    rcases hk with rfl | rfl | rfl | rfl | rfl | rfl | rfl
    · have e : (nOk ⟨1, h, f, str, ord, shr, n⟩ && tailF ⟨1, h, f, str, ord, shr, n⟩ (itemSame ⟨1, h, f, str, ord, shr, n⟩)) = tailF ⟨1, h, f, str, ord, shr, n⟩ (itemSame ⟨1, h, f, str, ord, shr, n⟩) := by
        by_cases z : n = 0
        · simp [nOk, upTo, z]
        · simp [tailF, itemSame, z]
      rw [e]
      generalize tailF ⟨1, h, f, str, ord, shr, n⟩ (itemSame ⟨1, h, f, str, ord, shr, n⟩) = T at key ⊢
      simp [itemSame] at key
      simp [St.enter, enumFrom, subs, setSubs, key]
    · have e : (nOk ⟨2, h, f, str, ord, shr, n⟩ && tailF ⟨2, h, f, str, ord, shr, n⟩ (itemSame ⟨2, h, f, str, ord, shr, n⟩)) = tailF ⟨2, h, f, str, ord, shr, n⟩ (itemSame ⟨2, h, f, str, ord, shr, n⟩) := by
        by_cases z : n = 0
        · simp [nOk, upTo, z]
        · simp [tailF, itemSame, z]
      rw [e]
      generalize tailF ⟨2, h, f, str, ord, shr, n⟩ (itemSame ⟨2, h, f, str, ord, shr, n⟩) = T at key ⊢
      simp [itemSame] at key
      simp [St.enter, enumFrom, subs, setSubs, key]
    · generalize tailF ⟨3, h, f, str, ord, shr, n⟩ (itemSame ⟨3, h, f, str, ord, shr, n⟩) = T at key ⊢
      simp [itemSame] at key
      by_cases z : n = -10000
      · subst z
        simp [St.enter, enumFrom, subs, setSubs, key, nOk]
      · by_cases a1 : n < 0
        · have a2 : ¬ 0 ≤ n := by omega
          simp [St.enter, enumFrom, subs, setSubs, nOk, upTo, z, a1, a2]
        · have a2 : 0 ≤ n := by omega
          by_cases b1 : 10000 < n
          · have b2 : ¬ n ≤ 10000 := by omega
            simp [St.enter, enumFrom, subs, setSubs, nOk, upTo, z, a1, a2, b1, b2]
          · have b2 : n ≤ 10000 := by omega
            simp [St.enter, enumFrom, subs, setSubs, key, nOk, upTo, z, a1, a2, b1, b2]
    · generalize tailF ⟨4, h, f, str, ord, shr, n⟩ (itemSame ⟨4, h, f, str, ord, shr, n⟩) = T at key ⊢
      simp [itemSame] at key
      by_cases a1 : n < 0
      · have a2 : ¬ 0 ≤ n := by omega
        simp [St.enter, enumFrom, subs, setSubs, nOk, upTo, a1, a2]
      · have a2 : 0 ≤ n := by omega
        by_cases b1 : 1048576 < n
        · have b2 : ¬ n ≤ 1048576 := by omega
          simp [St.enter, enumFrom, subs, setSubs, nOk, upTo, a1, a2, b1, b2]
        · have b2 : n ≤ 1048576 := by omega
          simp [St.enter, enumFrom, subs, setSubs, key, nOk, upTo, a1, a2, b1, b2]
    · generalize tailF ⟨5, h, f, str, ord, shr, n⟩ (itemSame ⟨5, h, f, str, ord, shr, n⟩) = T at key ⊢
      simp [itemSame] at key
      by_cases a1 : n < 0
      · have a2 : ¬ 0 ≤ n := by omega
        simp [St.enter, enumFrom, subs, setSubs, nOk, upTo, a1, a2]
      · have a2 : 0 ≤ n := by omega
        by_cases b1 : 511 < n
        · have b2 : ¬ n ≤ 511 := by omega
          simp [St.enter, enumFrom, subs, setSubs, nOk, upTo, a1, a2, b1, b2]
        · have b2 : n ≤ 511 := by omega
          simp [St.enter, enumFrom, subs, setSubs, key, nOk, upTo, a1, a2, b1, b2]
    · generalize tailF ⟨6, h, f, str, ord, shr, n⟩ (itemSame ⟨6, h, f, str, ord, shr, n⟩) = T at key ⊢
      simp [itemSame] at key
      by_cases a1 : n < 0
      · have a2 : ¬ 0 ≤ n := by omega
        simp [St.enter, enumFrom, subs, setSubs, nOk, upTo, a1, a2]
      · have a2 : 0 ≤ n := by omega
        by_cases b1 : 255 < n
        · have b2 : ¬ n ≤ 255 := by omega
          simp [St.enter, enumFrom, subs, setSubs, nOk, upTo, a1, a2, b1, b2]
        · have b2 : n ≤ 255 := by omega
          simp [St.enter, enumFrom, subs, setSubs, key, nOk, upTo, a1, a2, b1, b2]
    · have e : (nOk ⟨7, h, f, str, ord, shr, n⟩ && tailF ⟨7, h, f, str, ord, shr, n⟩ (itemSame ⟨7, h, f, str, ord, shr, n⟩)) = tailF ⟨7, h, f, str, ord, shr, n⟩ (itemSame ⟨7, h, f, str, ord, shr, n⟩) := by
        by_cases z : n = 0
        · simp [nOk, upTo, z]
        · simp [tailF, itemSame, z]
      rw [e]
      generalize tailF ⟨7, h, f, str, ord, shr, n⟩ (itemSame ⟨7, h, f, str, ord, shr, n⟩) = T at key ⊢
      simp [itemSame] at key
      simp [St.enter, enumFrom, subs, setSubs, key]
  · have e : rightF x = false := by
      unfold rightF
      by_cases a : 1 ≤ x.k
      · have : ¬ x.k ≤ 7 := fun h => c ⟨a, h⟩
        simp [this]
      · simp [a]
    have n1 : ¬ x.k = 1 := by omega
    have n2 : ¬ x.k = 2 := by omega
    have n3 : ¬ x.k = 3 := by omega
    have n4 : ¬ x.k = 4 := by omega
    have n5 : ¬ x.k = 5 := by omega
    have n6 : ¬ x.k = 6 := by omega
    have n7 : ¬ x.k = 7 := by omega
    rw [e]
    simp [St.enter, enumFrom, subs, setSubs, n1, n2, n3, n4, n5, n6, n7]
end Go.EnvOf
