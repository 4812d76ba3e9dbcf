/- The program's functions and the document's, evaluated. -/
import Derived.Test.YtfjgcfloallohaaText1
import Derived.Test.YtfjgcfloallohaaTab
/- The program's plain data: items, notes, floats, geometries, jobs. -/
namespace Go.EnvOf
open Go Go.Eng

/-- A number that is there. -/
abbrev I64 (n : Int) : Prop := -9223372036854775808 ≤ n ∧ n ≤ 9223372036854775807

structure Item where
  k : Int
  h : Int
  f : Int
  str : Int
  ord : Int
  shr : Int
  n : Int
  deriving Inhabited, DecidableEq
def encItem (x : Item) : List PV := [.int .i64 x.k, .int .i64 x.h, .int .i64 x.f, .int .i64 x.str, .int .i64 x.ord, .int .i64 x.shr, .int .i64 x.n]
@[simp] theorem encItem_len (x : Item) : (encItem x).length = 7 := rfl
abbrev vItems (l : List Item) : V := .p (.sl (l.map encItem))
abbrev vItem (x : Item) : V := .agg [.p (.int .i64 x.k), .p (.int .i64 x.h), .p (.int .i64 x.f), .p (.int .i64 x.str), .p (.int .i64 x.ord), .p (.int .i64 x.shr), .p (.int .i64 x.n)]

structure Note where
  lines : List Int
  pens : List Int
  deriving Inhabited, DecidableEq
def encNote (n : Note) : List PV := [.sl (n.lines.map encI), .sl (n.pens.map encI)]
@[simp] theorem encNote_len (n : Note) : (encNote n).length = 2 := rfl
abbrev vNotes (l : List Note) : V := .p (.sl (l.map encNote))
abbrev vNote (n : Note) : V := .agg [sli n.lines, sli n.pens]

structure Float where
  c : Int
  h : Int
  w : Int
  deriving Inhabited, DecidableEq
def encFloat (f : Float) : List PV := [.int .i64 f.c, .int .i64 f.h, .int .i64 f.w]
@[simp] theorem encFloat_len (f : Float) : (encFloat f).length = 3 := rfl
abbrev vFloats (l : List Float) : V := .p (.sl (l.map encFloat))
abbrev vFloat (f : Float) : V := .agg [.p (.int .i64 f.c), .p (.int .i64 f.h), .p (.int .i64 f.w)]

structure Geom where
  cols : Int
  wide : Int
  gap : Int
  high : Int
  first : Int
  grid : Int
  rule : Int
  sep : Int
  noteMost : Int
  topMost : Int
  botMost : Int
  topMany : Int
  botMany : Int
  club : Int
  widow : Int
  split : Int
  defer : Int
  spare : Int
  balance : Bool
  deriving Inhabited, DecidableEq
abbrev cGeom (g : Geom) : List V := [.p (.int .i64 g.cols), .p (.int .i64 g.wide), .p (.int .i64 g.gap), .p (.int .i64 g.high), .p (.int .i64 g.first), .p (.int .i64 g.grid), .p (.int .i64 g.rule), .p (.int .i64 g.sep), .p (.int .i64 g.noteMost), .p (.int .i64 g.topMost),
  .p (.int .i64 g.botMost), .p (.int .i64 g.topMany), .p (.int .i64 g.botMany), .p (.int .i64 g.club), .p (.int .i64 g.widow), .p (.int .i64 g.split), .p (.int .i64 g.defer), .p (.int .i64 g.spare), .p (.bool g.balance)]
abbrev vGeom (g : Geom) : V := .agg (cGeom g)

structure Job where
  g : Geom
  items : List Item
  notes : List Note
  floats : List Float
  deriving Inhabited, DecidableEq
abbrev vJob (j : Job) : V := .agg (cGeom j.g ++ [vItems j.items, vNotes j.notes, vFloats j.floats])
end Go.EnvOf

/- Floats: those of a class. -/
namespace Go.EnvOf
open Go Go.Eng

/-- The places, from i on, of the floats of a class. -/
def figOf (c : Int) : Nat → List Float → List Int
  | _, [] => []
  | i, f :: r => (if f.c = c then [(i : Int)] else []) ++ figOf c (i + 1) r

def figS (c : Int) (out : List Int) (i : Nat) (x : Float) : List Int := if x.c = c then out ++ [(i : Int)] else out
theorem figS_fold (c : Int) : ∀ (l : List Float) (out : List Int) (i : Nat), fold (figS c) out i l = out ++ figOf c i l
  | [], out, i => by simp [fold, figOf]
  | x :: r, out, i => by
    simp only [fold, figOf, figS_fold c r]
    unfold figS
    split <;> simp

def figE (l : List Float) (c : Int) (H : Heap) (out : List Int) (i : Nat) : St :=
  ⟨[(1, .p (.int .i64 c)), (5, .row H.length out.length 0 out.length), (8, vFloats l), (9, .p (.int .i64 l.length)), (10, .p (.int .i64 i))], [], H ++ [.row 1 (upV (out.map encI))], H.length, []⟩
def figX (l : List Float) (c : Int) (H : Heap) (out : List Int) : Ex × St :=
  (.exit 0, ⟨[(1, .p (.int .i64 c)), (5, .row H.length out.length 0 out.length), (8, vFloats l), (9, .p (.int .i64 l.length)), (10, .p (.int .i64 l.length)), (11, .p (.bool false))], [], H ++ [.row 1 (upV (out.map encI))], H.length, []⟩)
theorem figOf_lp (l : List Float) (c : Int) (H : Heap) (hl : l.length ≤ 1000000) : ∀ (out : List Int) (i : Nat), out.length ≤ i → i ≤ l.length →
    evD EE lp121_0 (figE l c H out i) = some (figX l c H (fold (figS c) out i (l.drop i))) := by
  unfold lp121_0
  refine evD_fold l (figE l c H) (fun out i => out.length ≤ i) (figS c) (figX l c H) (fun _ _ => rfl) ?_ ?_
  · intro out i x hi hx
    have hlt := (List.getElem?_eq_some_iff.1 hx).1
    have hix := fun H k => ixs_nat H encFloat (k := k) (s := 3) hx rfl
    have w : IntKind.i64.wrap ((i : Int) + 1) = ((i + 1 : Nat) : Int) := w64 (by omega) (by omega)
    have hm : out.length + 1 < most := by simp [most]; omega
    by_cases hc : x.c = c
    · refine ⟨?_, by simp [figS, hc]; omega⟩
      simp [figE, vFloats, hlt, hix, encFloat, subs, setSubs, hc, w, hm, encI, figS]
    · refine ⟨?_, by simp [figS, hc]; omega⟩
      simp [figE, vFloats, hlt, hix, encFloat, subs, setSubs, hc, w, figS]
  · intro out hi
    refine ⟨?_, by simp [figX]⟩
    simp [figE, figX, vFloats]

theorem figOf_ev (l : List Float) (c : Int) (H : Heap) (hl : l.length ≤ 1000000) : clD EE (.p (.fn 121)) [vFloats l, .p (.int .i64 c)] H = some (sli (figOf c 0 l), none) := by
  rw [clD_body _ _ _ _ _ _ (noP _) fn121]
  have key := figOf_lp l c H hl [] 0 (by simp) (by simp)
  rw [figS_fold] at key
  simp [figE, figX, vFloats] at key
  simp [St.enter, enumFrom, vFloats, key, sli]
end Go.EnvOf

/- Searching and comparing lists: the library's functions, whatever the elements are. -/
namespace Go.Eng
open Go

/-- The place of the first one of which it holds; -1: of none. -/
def idxF {α : Type} (p : α → Bool) : Nat → List α → Int
  | _, [] => -1
  | i, x :: r => if p x = true then i else idxF p (i + 1) r
theorem idxF_any {α : Type} (p : α → Bool) : ∀ (i : Nat) (l : List α), decide (0 ≤ idxF p i l) = l.any p
  | _, [] => rfl
  | i, x :: r => by
    simp only [idxF, List.any_cons]
    by_cases h : p x = true
    · simp [h]
    · simp [h, idxF_any p (i + 1) r]
theorem idxF_lo {α : Type} (p : α → Bool) : ∀ (i : Nat) (l : List α), -1 ≤ idxF p i l
  | _, [] => by simp [idxF]
  | i, x :: r => by
    simp only [idxF]
    split
    · omega
    · exact idxF_lo p (i + 1) r
theorem idxF_hi {α : Type} (p : α → Bool) : ∀ (i : Nat) (l : List α), idxF p i l ≤ i + l.length
  | _, [] => by simp [idxF]
  | i, x :: r => by
    simp only [idxF, List.length_cons]
    split
    · omega
    · have := idxF_hi p (i + 1) r; omega

/-- A loop that ends as soon as something holds. -/
theorem rng_first {α ρ : Type} (p : α → Bool) (hit : Nat → α → ρ) (fin : ρ) : ∀ (l : List α) (i : Nat),
    rng (fun (_ : Unit) i x => if p x = true then .inr (hit i x) else .inl ()) (fun _ => fin) () i l = (match l.findIdx? p with | some k => (match l[k]? with | some x => hit (i + k) x | none => fin) | none => fin)
  | [], _ => rfl
  | x :: r, i => by
    simp only [rng, List.findIdx?_cons]
    cases h : p x with
    | true => simp
    | false =>
      simp only [Bool.false_eq_true, if_false]
      rw [rng_first p hit fin r (i + 1)]
      cases r.findIdx? p with
      | none => rfl
      | some k => simp only [Option.map_some, List.getElem?_cons_succ]; rw [show i + 1 + k = i + (k + 1) by omega]
theorem idxF_find {α : Type} (p : α → Bool) : ∀ (l : List α) (i : Nat), idxF p i l = (match l.findIdx? p with | some k => ((i + k : Nat) : Int) | none => -1)
  | [], _ => rfl
  | x :: r, i => by
    simp only [idxF, List.findIdx?_cons]
    cases h : p x with
    | true => simp
    | false =>
      simp only [Bool.false_eq_true, if_false]
      rw [idxF_find p r (i + 1)]
      cases r.findIdx? p with
      | none => rfl
      | some k => simp only [Option.map_some]; congr 1; omega
theorem findIdx_get {α : Type} {p : α → Bool} : ∀ {l : List α} {k : Nat}, l.findIdx? p = some k → ∃ x, l[k]? = some x
  | [], k, h => by simp at h
  | x :: r, k, h => by
    rw [List.findIdx?_cons] at h
    cases hp : p x with
    | true => rw [hp] at h; simp at h; subst h; exact ⟨x, rfl⟩
    | false =>
      rw [hp] at h
      simp only [Bool.false_eq_true, if_false] at h
      cases hk : r.findIdx? p with
      | none => rw [hk] at h; simp at h
      | some m =>
        rw [hk] at h; simp at h; subst h
        obtain ⟨y, hy⟩ := findIdx_get hk
        exact ⟨y, by simpa using hy⟩

/-- A loop that ends as soon as something holds, always alike. -/
def stepB {α ρ : Type} (p : α → Bool) (bad : ρ) (_ : Unit) (_ : Nat) (x : α) : Unit ⊕ ρ := if p x = true then .inr bad else .inl ()
theorem rng_any {α ρ : Type} (p : α → Bool) (bad fin : ρ) : ∀ (l : List α) (i : Nat), rng (stepB p bad) (fun _ => fin) () i l = if l.any p = true then bad else fin
  | [], _ => rfl
  | x :: r, i => by
    simp only [rng, List.any_cons, stepB]
    by_cases h : p x = true
    · simp [h]
    · have ih := rng_any p bad fin r (i + 1)
      simp only [h, Bool.false_eq_true, if_false, Bool.false_or]
      exact ih

/-- The same, whatever the place is. -/
def stepI {α ρ : Type} (p : Nat → α → Bool) (bad : ρ) (_ : Unit) (i : Nat) (x : α) : Unit ⊕ ρ := if p i x = true then .inr bad else .inl ()
def anyI {α : Type} (p : Nat → α → Bool) : Nat → List α → Bool
  | _, [] => false
  | i, x :: r => p i x || anyI p (i + 1) r
theorem rng_anyI {α ρ : Type} (p : Nat → α → Bool) (bad fin : ρ) : ∀ (l : List α) (i : Nat), rng (stepI p bad) (fun _ => fin) () i l = if anyI p i l = true then bad else fin
  | [], _ => rfl
  | x :: r, i => by
    simp only [rng, anyI, stepI]
    by_cases h : p i x = true
    · simp [h]
    · have ih := rng_anyI p bad fin r (i + 1)
      simp only [h, Bool.false_eq_true, if_false, Bool.false_or]
      exact ih

/-- A loop that ends with the place of the first one of which something holds. -/
def stepH {α ρ : Type} (p : α → Bool) (hit : Int → ρ) (_ : Unit) (i : Nat) (x : α) : Unit ⊕ ρ := if p x = true then .inr (hit i) else .inl ()
theorem rng_hit {α ρ : Type} (p : α → Bool) (hit : Int → ρ) (fin : ρ) : ∀ (l : List α) (i : Nat), rng (stepH p hit) (fun _ => fin) () i l = if 0 ≤ idxF p i l then hit (idxF p i l) else fin
  | [], _ => rfl
  | x :: r, i => by
    simp only [rng, stepH, idxF]
    by_cases h : p x = true
    · simp [h]
    · simp only [h, Bool.false_eq_true, if_false]
      exact rng_hit p hit fin r (i + 1)

/-! ### IndexFunc -/
def idxL (s : Nat) (agg : Bool) : IC :=
  (.loop [0, 1, 7, 8] [] (.seq (.reg false [⟨some 9, none, .bin .lss (.t 8) (.t 7)⟩] [0, 1, 7, 8, 9] [])
      (.seq (.cond (.t 9) .skip (.exit 0))
      (.seq (.block 1 (.seq (.reg false [⟨some 10, none, .mov (.t 8)⟩, ⟨some 5, none, .mov (.t 10)⟩] [0, 1, 5, 7, 8] [])
        (.seq (.reg false [⟨some 11, none, .mov (.t 1)⟩, ⟨some 12, none, .mov (.t 0)⟩, ⟨some 13, none, .mov (.t 5)⟩, ⟨some 14, none, .ixs (.t 12) (.t 13) s⟩, ⟨some 15, none, .ld (.t 14) s agg⟩, ⟨some 16, none, .callv (.t 11) [.t 15] false⟩] [0, 1, 5, 7, 8, 16] [])
        (.cond (.t 16) (.seq (.reg false [⟨some 17, none, .mov (.t 5)⟩, ⟨some 4, none, .mov (.t 17)⟩] [4] []) .ret) .skip))))
      (.reg false [⟨some 18, none, .bin .add (.t 8) (.c (.p (.int .i64 1)))⟩, ⟨some 8, none, .mov (.t 18)⟩] [0, 1, 7, 8] [])))))
def idxI (s : Nat) (agg : Bool) : IFn := ⟨(.seq (.reg false [⟨some 4, none, .mov (.c (.p (.int .i64 0)))⟩] [0, 1] [])
  (.seq (.seq (.reg false [⟨some 6, none, .mov (.t 0)⟩, ⟨some 7, none, .len (.t 6)⟩, ⟨some 8, none, .mov (.c (.p (.int .i64 0)))⟩] [0, 1, 7, 8] []) (.block 0 (idxL s agg)))
  (.seq (.reg false [⟨some 4, none, .mov (.c (.p (.int .i64 (-1))))⟩] [4] []) .ret))), [.tmp 4], false⟩

section
variable {α : Type} {E : Env} (f : FuncId) (s : Nat) (agg : Bool) (enc : α → List PV) (val : α → V)
def idxE (l : List α) (hv : V) (H : Heap) (B : Nat) (i : Nat) : St := ⟨[(0, .p (.sl (l.map enc))), (1, hv), (7, vI l.length), (8, vI i)], [], H, B, []⟩
def idxX (l : List α) (hv : V) (H : Heap) (B : Nat) : Ex × St := (.exit 0, ⟨[(0, .p (.sl (l.map enc))), (1, hv), (7, vI l.length), (8, vI l.length), (9, .p (.bool false))], [], H, B, []⟩)
def idxR (H : Heap) (B : Nat) (i : Nat) : Ex × St := (.ret, ⟨[(4, vI i)], [], H, B, []⟩)
theorem idx_lp (hs : ∀ x, (enc x).length = s) (hval : ∀ x, aggOr agg ((enc x).map .p) = some (val x)) (hout : ∀ x, (normA (val x)).outB = true) (hnorm : ∀ x, normA (val x) = val x) (l : List α) (hn : l.length ≤ 9223372036854775806) (hv : V) (p : α → Bool) (H : Heap) (B : Nat)
    (hH : ∀ x ∈ l, clD E hv [val x] H = some (vB (p x), none)) :
    evD E (idxL s agg) (idxE enc l hv H B 0) = some (rng (fun (_ : Unit) i x => if p x = true then .inr (idxR H B i) else .inl ()) (fun _ => idxX enc l hv H B) () 0 l) := by
  unfold idxL
  refine evD_rng l (fun (_ : Unit) i => idxE enc l hv H B i) (fun _ _ => True) (fun (_ : Unit) i x => if p x = true then .inr (idxR H B i) else .inl ()) (fun _ => idxX enc l hv H B) (fun _ _ => rfl) ?_ ?_ () 0 trivial (Nat.zero_le _)
  · rintro _ i x - hx
    have hlt := (List.getElem?_eq_some_iff.1 hx).1
    have w : IntKind.i64.wrap ((i : Int) + 1) = ((i + 1 : Nat) : Int) := w64 (by omega) (by omega)
    have hc := hH x (List.mem_of_getElem? hx)
    have hix := fun H k => ixs_nat H enc (k := k) (s := s) hx (hs x)
    have hsub : subs ((enc x).map V.p) 0 s = some ((enc x).map V.p) := by simp [subs, hs x, List.take_of_length_le]
    have ho := hout x
    cases hp : p x with
    | true =>
      rw [hp] at hc
      simp [idxE, idxR, hlt, hix, hsub, hval, hnorm, hc]
      rw [hnorm] at ho
      simp [ho]
    | false =>
      rw [hp] at hc
      rw [hnorm] at ho
      simp [idxE, hlt, hix, hsub, hval, hnorm, ho, hc, w]
  · rintro _ -
    simp [idxE, idxX]
theorem idx_ev (hp : E.prims f = none) (hf : E.fns f = some (idxI s agg)) (hs : ∀ x, (enc x).length = s) (hval : ∀ x, aggOr agg ((enc x).map .p) = some (val x)) (hout : ∀ x, (normA (val x)).outB = true) (hnorm : ∀ x, normA (val x) = val x)
    (l : List α) (hn : l.length ≤ 9223372036854775806) (hv : V) (p : α → Bool) (H : Heap) (hH : ∀ x ∈ l, clD E hv [val x] H = some (vB (p x), none)) :
    clD E (.p (.fn f)) [.p (.sl (l.map enc)), hv] H = some (vI (idxF p 0 l), none) := by
  rw [clD_body E f _ _ _ _ hp hf]
  have key := idx_lp s agg enc val hs hval hout hnorm l hn hv p H H.length hH
  rw [rng_first p (fun i _ => idxR H H.length i)] at key
  rw [idxF_find]
  cases hk : l.findIdx? p with
  | none =>
    rw [hk] at key
    simp [idxE, idxX] at key
    simp [St.enter, enumFrom, key]
  | some k =>
    obtain ⟨x, hx⟩ := findIdx_get hk
    rw [hk] at key
    simp only [hx] at key
    simp [idxE, idxR] at key
    simp [St.enter, enumFrom, key]
end

/-! ### ContainsFunc -/
def conI (g : FuncId) : IFn := ⟨(.seq (.reg false [⟨some 4, none, .mov (.c (.p (.bool false)))⟩] [0, 1] [])
  (.seq (.reg false [⟨some 5, none, .mov (.t 0)⟩, ⟨some 6, none, .mov (.t 1)⟩, ⟨some 7, none, .call g [.t 5, .t 6] false⟩, ⟨some 8, none, .bin .geq (.t 7) (.c (.p (.int .i64 0)))⟩, ⟨some 4, none, .mov (.t 8)⟩] [4] []) .ret)), [.tmp 4], false⟩
theorem con_ev {α : Type} {E : Env} (f g : FuncId) (hp : E.prims f = none) (hf : E.fns f = some (conI g)) (x hv : V) (p : α → Bool) (l : List α) (H : Heap) (hx : (normA x).outB = true) (hx2 : normA x = x) (ho : (normA hv).outB = true) (ho2 : normA hv = hv)
    (h : clD E (.p (.fn g)) [x, hv] H = some (vI (idxF p 0 l), none)) : clD E (.p (.fn f)) [x, hv] H = some (vB (l.any p), none) := by
  rw [clD_body E f _ _ _ _ hp hf, ← idxF_any p 0 l]
  rw [hx2] at hx
  rw [ho2] at ho
  simp [St.enter, enumFrom, hx2, hx, ho2, ho, h]

/-! ### Two lists, side by side -/
/-- Whether all pairs are such, up to the shorter one. -/
def all2 {α β : Type} (p : α → β → Bool) : List α → List β → Bool
  | x :: r, y :: s => p x y && all2 p r s
  | _, _ => true
theorem all2_eq {α : Type} [DecidableEq α] : ∀ (a b : List α), a.length = b.length → all2 (fun x y => decide (x = y)) a b = decide (a = b)
  | [], [], _ => rfl
  | x :: r, y :: s, h => by
    have ih := all2_eq r s (by simpa using h)
    simp only [all2, ih]
    by_cases hx : x = y <;> simp [hx]
/-- A loop through two lists at once: its step. -/
def step2 {α β ρ : Type} (p : α → β → Bool) (b : List β) (bad : ρ) (_ : Unit) (i : Nat) (x : α) : Unit ⊕ ρ := match b[i]? with | some y => (if p x y = true then .inl () else .inr bad) | none => .inr bad
theorem step2_some {α β ρ : Type} {p : α → β → Bool} {b : List β} {bad : ρ} {u : Unit} {i : Nat} {x : α} {y : β} (h : b[i]? = some y) : step2 p b bad u i x = if p x y = true then .inl () else .inr bad := by unfold step2; rw [h]
theorem rng_all2 {α β ρ : Type} (p : α → β → Bool) (b : List β) (bad fin : ρ) : ∀ (l : List α) (i : Nat), i + l.length ≤ b.length →
    rng (step2 p b bad) (fun _ => fin) () i l = if all2 p l (b.drop i) = true then fin else bad
  | [], i, _ => by simp [rng, all2]
  | x :: r, i, h => by
    simp only [List.length_cons] at h
    have hi : i < b.length := by omega
    rw [List.drop_eq_getElem_cons hi]
    simp only [rng, all2, step2_some (List.getElem?_eq_getElem hi)]
    by_cases hp : p x b[i] = true
    · have ih := rng_all2 p b bad fin r (i + 1) (by omega)
      simp only [hp, if_true, Bool.true_and]
      exact ih
    · simp [hp]

/-! ### slices.Equal -/
def eqL (s : Nat) (sh : List Bool) : IC := (.loop [0, 1, 12, 13] [] (.seq (.reg false [⟨some 14, none, .bin .lss (.t 13) (.t 12)⟩] [0, 1, 12, 13, 14] [])
      (.seq (.cond (.t 14) .skip (.exit 0))
      (.seq (.block 1 (.seq (.reg false [⟨some 15, none, .mov (.t 13)⟩, ⟨some 5, none, .mov (.t 15)⟩] [0, 1, 5, 12, 13] [])
        (.seq (.reg true [⟨some 16, none, .mov (.t 0)⟩, ⟨some 17, none, .mov (.t 5)⟩, ⟨some 18, none, .ixs (.t 16) (.t 17) s⟩, ⟨some 19, none, .ld (.t 18) s true⟩, ⟨some 20, none, .mov (.t 1)⟩, ⟨some 21, none, .mov (.t 5)⟩,
          ⟨some 22, none, .ixs (.t 20) (.t 21) s⟩, ⟨some 23, none, .ld (.t 22) s true⟩, ⟨some 24, none, .eqa true sh (.t 19) (.t 23)⟩] [0, 1, 12, 13, 24] [])
        (.cond (.t 24) (.seq (.reg false [⟨some 4, none, .mov (.c (.p (.bool false)))⟩] [4] []) .ret) .skip))))
      (.reg false [⟨some 25, none, .bin .add (.t 13) (.c (.p (.int .i64 1)))⟩, ⟨some 13, none, .mov (.t 25)⟩] [0, 1, 12, 13] [])))))
def eqI (s : Nat) (sh : List Bool) : IFn := ⟨(.seq (.reg false [⟨some 4, none, .mov (.c (.p (.bool false)))⟩] [0, 1] [])
  (.seq (.seq (.reg false [⟨some 6, none, .mov (.t 0)⟩, ⟨some 7, none, .len (.t 6)⟩, ⟨some 8, none, .mov (.t 1)⟩, ⟨some 9, none, .len (.t 8)⟩, ⟨some 10, none, .bin .neq (.t 7) (.t 9)⟩] [0, 1, 10] [])
  (.cond (.t 10) (.seq (.reg false [⟨some 4, none, .mov (.c (.p (.bool false)))⟩] [4] []) .ret) .skip))
  (.seq (.seq (.reg false [⟨some 11, none, .mov (.t 0)⟩, ⟨some 12, none, .len (.t 11)⟩, ⟨some 13, none, .mov (.c (.p (.int .i64 0)))⟩] [0, 1, 12, 13] []) (.block 0 (eqL s sh)))
  (.seq (.reg false [⟨some 4, none, .mov (.c (.p (.bool true)))⟩] [4] []) .ret)))), [.tmp 4], false⟩

section
variable {α : Type} [DecidableEq α] {E : Env} (f : FuncId) (s : Nat) (sh : List Bool) (enc : α → List PV)
def eqE (a b : V) (n : Nat) (H : Heap) (B : Nat) (i : Nat) : St := ⟨[(0, a), (1, b), (12, vI n), (13, vI i)], [], H, B, []⟩
def eqX (a b : V) (n : Nat) (H : Heap) (B : Nat) : Ex × St := (.exit 0, ⟨[(0, a), (1, b), (12, vI n), (13, vI n), (14, .p (.bool false))], [], H, B, []⟩)
def eqBad (H : Heap) (B : Nat) : Ex × St := (.ret, ⟨[(4, vB false)], [], H, B, []⟩)
theorem eq_ev (hp : E.prims f = none) (hf : E.fns f = some (eqI s sh)) (hs : ∀ x, (enc x).length = s) (hagg : ∀ x, aggOr true ((enc x).map .p) = some (.agg ((enc x).map .p))) (heq : ∀ x y, eqCells sh ((enc x).map .p) ((enc y).map .p) = some (decide (x = y)))
    (a b : List α) (hn : a.length ≤ 9223372036854775806) (H : Heap) : clD E (.p (.fn f)) [.p (.sl (a.map enc)), .p (.sl (b.map enc))] H = some (vB (decide (a = b)), none) := by
  rw [clD_body E f _ _ _ _ hp hf]
  by_cases hl : a.length = b.length
  · have key : evD E (eqL s sh) (eqE (.p (.sl (a.map enc))) (.p (.sl (b.map enc))) a.length H H.length 0) = some (rng (step2 (fun x y => decide (x = y)) b (eqBad H H.length)) (fun _ => eqX (.p (.sl (a.map enc))) (.p (.sl (b.map enc))) a.length H H.length) () 0 a) := by
      unfold eqL
      refine evD_rng a (fun (_ : Unit) i => eqE (.p (.sl (a.map enc))) (.p (.sl (b.map enc))) a.length H H.length i) (fun _ _ => True) _ (fun _ => eqX (.p (.sl (a.map enc))) (.p (.sl (b.map enc))) a.length H H.length) (fun _ _ => rfl) ?_ ?_ () 0 trivial (Nat.zero_le _)
      · rintro _ i x - hx
        have hlt := (List.getElem?_eq_some_iff.1 hx).1
        have hy : b[i]? = some (b[i]'(by omega)) := List.getElem?_eq_getElem (by omega)
        generalize (b[i]'(by omega)) = y at hy
        have w : IntKind.i64.wrap ((i : Int) + 1) = ((i + 1 : Nat) : Int) := w64 (by omega) (by omega)
        have hix := fun H k => ixs_nat H enc (k := k) (s := s) hx (hs x)
        have hiy := fun H k => ixs_nat H enc (k := k) (s := s) hy (hs y)
        have hsub : ∀ x, subs ((enc x).map V.p) 0 s = some ((enc x).map V.p) := fun x => by simp [subs, hs x, List.take_of_length_le]
        rw [step2_some hy]
        by_cases hxy : x = y
        · simp [eqE, hlt, hix, hiy, hsub, hagg, heq, hxy, w]
        · simp [eqE, eqBad, hlt, hix, hiy, hsub, hagg, heq, hxy]
      · rintro _ -
        simp [eqE, eqX]
    rw [rng_all2 (fun x y => decide (x = y)) b (eqBad H H.length) (eqX (.p (.sl (a.map enc))) (.p (.sl (b.map enc))) a.length H H.length) a 0 (by omega), List.drop_zero, all2_eq a b hl] at key
    have hl' : (a.length : Int) = b.length := by omega
    by_cases h : a = b
    · rw [if_pos (by simpa using h)] at key
      subst h
      simp [eqE, eqX] at key
      simp [St.enter, enumFrom, key]
    · rw [if_neg (by simpa using h)] at key
      simp [eqE, eqBad, hl] at key
      simp [St.enter, enumFrom, hl', key, h]
  · have hl' : ¬ (a.length : Int) = b.length := by omega
    have h : a ≠ b := by rintro rfl; exact hl rfl
    simp [St.enter, enumFrom, hl', h]
end
end Go.Eng

/- The layer queue: counts of classes. -/
namespace Go.EnvOf
open Go Go.Eng
set_option maxRecDepth 100000

structure C3 where
  a : Int
  b : Int
  c : Int
  deriving Inhabited, DecidableEq
abbrev vC (x : C3) : V := .agg [vI x.a, vI x.b, vI x.c]
abbrev okC3 (x : C3) : Prop := I64 x.a ∧ I64 x.b ∧ I64 x.c
abbrev big : Int := 1073741824
def held (n lo hi : Int) : Int := min (max n lo) hi
theorem held_lo {n lo hi : Int} (h : lo ≤ hi) : lo ≤ held n lo hi := by unfold held; omega
theorem held_hi {n lo hi : Int} : held n lo hi ≤ hi := by unfold held; omega

theorem awake23 : clD EE (.p (.fn 67)) [] [] = some (.p (.bool true), none) := by
  rw [clD_iff]; exact ⟨200, by kernel_rfl⟩

theorem held_ev (n lo hi : Int) (H : Heap) : clD EE (.p (.fn 127)) [vI n, vI lo, vI hi] H = some (vI (held n lo hi), none) := by
  rw [clD_body _ _ _ _ _ _ (noP _) fn127]
  simp [St.enter, enumFrom, held]
theorem rheld_ev (n lo hi : Int) (h : lo ≤ hi) (H : Heap) : clD EE (.p (.fn 126)) [vI n, vI lo, vI hi] H = some (vI (held n lo hi), none) := by
  rw [clD_body _ _ _ _ _ _ (noP _) fn126]
  have e : max lo (min n hi) = held n lo hi := by unfold held; omega
  simp [St.enter, enumFrom, e]

/-! ### Through two counts, class by class -/
def zipF (lo : Int) (f : Int → Int → Int) (x y : C3) : C3 :=
  ⟨held (f (held x.a lo big) (held y.a lo big)) lo big, held (f (held x.b lo big) (held y.b lo big)) lo big, held (f (held x.c lo big) (held y.c lo big)) lo big⟩
theorem zip_ev (x y : C3) (lo : Int) (k : Nat) (f : Int → Int → Int) (hl : lo ≤ big) (H : Heap)
    (h : ∀ a b, lo ≤ a → a ≤ big → lo ≤ b → b ≤ big → clD EE (.p (.fn k)) [vI a, vI b] H = some (vI (f a b), none)) :
    clD EE (.p (.fn 123)) [vC x, vC y, vI lo, .p (.fn k)] H = some (vC (zipF lo f x y), none) := by
  rw [clD_body _ _ _ _ _ _ (noP _) fn123]
  have w1 : IntKind.i64.wrap 1 = 1 := by decide
  have w2 : IntKind.i64.wrap 2 = 2 := by decide
  have w3 : IntKind.i64.wrap 3 = 3 := by decide
  have hh := fun n => held_ev n lo big H
  have hf := fun a b => h (held a lo big) (held b lo big) (held_lo hl) held_hi (held_lo hl) held_hi
  simp only [big] at hh hf
  simp [St.enter, enumFrom, lp123_0, evD_loop, ixaV, subs, setSubs, hh, hf, w1, w2, w3, zipF]
def addC (x y : C3) : C3 := zipF (-big) (· + ·) x y
theorem add_ev (x y : C3) (H : Heap) : clD EE (.p (.fn 69)) [vC x, vC y] H = some (vC (addC x y), none) := by
  rw [clD_body _ _ _ _ _ _ (noP _) fn69]
  have hf : ∀ a b : Int, -big ≤ a → a ≤ big → -big ≤ b → b ≤ big → clD EE (.p (.fn 124)) [vI a, vI b] H = some (vI (a + b), none) := by
    intro a b h1 h2 h3 h4
    rw [clD_body _ _ _ _ _ _ (noP _) fn124]
    simp only [big] at h1 h2 h3 h4
    have w : IntKind.i64.wrap (a + b) = a + b := w64 (by omega) (by omega)
    simp [St.enter, enumFrom, w]
  have key := zip_ev x y (-big) _ (· + ·) (by decide) H hf
  simp only [big] at key
  simp [St.enter, enumFrom, subs, setSubs, key, addC]
def readyC (x y : C3) : C3 := zipF 0 (fun a b => b - a) x y
theorem ready_ev (x y : C3) (H : Heap) : clD EE (.p (.fn 77)) [vC x, vC y] H = some (vC (readyC x y), none) := by
  rw [clD_body _ _ _ _ _ _ (noP _) fn77]
  have hf : ∀ a b : Int, 0 ≤ a → a ≤ big → 0 ≤ b → b ≤ big → clD EE (.p (.fn 128)) [vI a, vI b] H = some (vI (b - a), none) := by
    intro a b h1 h2 h3 h4
    rw [clD_body _ _ _ _ _ _ (noP _) fn128]
    simp only [big] at h1 h2 h3 h4
    have w : IntKind.i64.wrap (b - a) = b - a := w64 (by omega) (by omega)
    simp [St.enter, enumFrom, w]
  have key := zip_ev x y 0 _ (fun a b => b - a) (by decide) H hf
  simp [St.enter, enumFrom, subs, setSubs, key, readyC]
def sumC (x : C3) : Int := held x.a (-big) big + held x.b (-big) big + held x.c (-big) big
theorem sum_ev (x : C3) (H : Heap) : clD EE (.p (.fn 73)) [vC x] H = some (vI (sumC x), none) := by
  rw [clD_body _ _ _ _ _ _ (noP _) fn73]
  have w1 : IntKind.i64.wrap 1 = 1 := by decide
  have w2 : IntKind.i64.wrap 2 = 2 := by decide
  have w3 : IntKind.i64.wrap 3 = 3 := by decide
  have hh := fun n => held_ev n (-big) big H
  have b := fun n => And.intro (held_lo (n := n) (lo := -big) (hi := big) (by decide)) (held_hi (n := n) (lo := -big) (hi := big))
  have b1 := b x.a
  have b2 := b x.b
  have b3 := b x.c
  unfold sumC
  simp only [big] at hh b1 b2 b3 ⊢
  have w4 : IntKind.i64.wrap (held x.a (-1073741824) 1073741824 + held x.b (-1073741824) 1073741824) = held x.a (-1073741824) 1073741824 + held x.b (-1073741824) 1073741824 := w64 (by omega) (by omega)
  have w5 : IntKind.i64.wrap (held x.a (-1073741824) 1073741824 + held x.b (-1073741824) 1073741824 + held x.c (-1073741824) 1073741824) = held x.a (-1073741824) 1073741824 + held x.b (-1073741824) 1073741824 + held x.c (-1073741824) 1073741824 := w64 (by omega) (by omega)
  have w0 : IntKind.i64.wrap (held x.a (-1073741824) 1073741824) = held x.a (-1073741824) 1073741824 := w64 (by omega) (by omega)
  simp [St.enter, enumFrom, lp73_0, evD_loop, ixvV, subs, setSubs, hh, w0, w1, w2, w3, w4, w5]
/-! ### Within -/
def inC (x y : C3) : Bool := decide (x.a ≤ y.a) && decide (x.b ≤ y.b) && decide (x.c ≤ y.c)
theorem in_ev (x y : C3) (H : Heap) : clD EE (.p (.fn 75)) [vC x, vC y] H = some (.p (.bool (inC x y)), none) := by
  rw [clD_body _ _ _ _ _ _ (noP _) fn75]
  have w1 : IntKind.i64.wrap 1 = 1 := by decide
  have w2 : IntKind.i64.wrap 2 = 2 := by decide
  have w3 : IntKind.i64.wrap 3 = 3 := by decide
  by_cases h1 : y.a < x.a
  · simp [St.enter, enumFrom, lp75_0, evD_loop, ixvV, ixaV, subs, setSubs, w1, w2, w3, inC, h1, show ¬ x.a ≤ y.a by omega]
  by_cases h2 : y.b < x.b
  · simp [St.enter, enumFrom, lp75_0, evD_loop, ixvV, ixaV, subs, setSubs, w1, w2, w3, inC, h1, h2, show ¬ x.b ≤ y.b by omega]
  by_cases h3 : y.c < x.c
  · simp [St.enter, enumFrom, lp75_0, evD_loop, ixvV, ixaV, subs, setSubs, w1, w2, w3, inC, h1, h2, h3, show ¬ x.c ≤ y.c by omega]
  simp [St.enter, enumFrom, lp75_0, evD_loop, ixvV, ixaV, subs, setSubs, w1, w2, w3, inC, h1, h2, h3]
  omega
end Go.EnvOf

/- The layer queue: the counts up to given ones. -/
namespace Go.EnvOf
open Go Go.Eng
set_option maxRecDepth 100000
def growC (s : C3) (i : Nat) : C3 := match i with | 0 => ⟨s.a + 1, 0, 0⟩ | 1 => ⟨s.a, s.b + 1, 0⟩ | _ => ⟨s.a, s.b, s.c + 1⟩
theorem grow_ev (s : C3) (i : Nat) (hi : i < 3) (ha : 0 ≤ s.a ∧ s.a ≤ 32) (hb : 0 ≤ s.b ∧ s.b ≤ 32) (hc : 0 ≤ s.c ∧ s.c ≤ 32) (H : Heap) : clD EE (.p (.fn 129)) [vC s, vI i] H = some (vC (growC s i), none) := by
  rw [clD_body _ _ _ _ _ _ (noP _) fn129]
  have wa : IntKind.i64.wrap (s.a + 1) = s.a + 1 := w64 (by omega) (by omega)
  have wb : IntKind.i64.wrap (s.b + 1) = s.b + 1 := w64 (by omega) (by omega)
  have wc : IntKind.i64.wrap (s.c + 1) = s.c + 1 := w64 (by omega) (by omega)
  have w1 : IntKind.i64.wrap 1 = 1 := by decide
  have w2 : IntKind.i64.wrap 2 = 2 := by decide
  have w3 : IntKind.i64.wrap 3 = 3 := by decide
  match i, hi with
  | 0, _ => simp [St.enter, enumFrom, subs, setSubs, ixaV, slcaV, clrI, growC, wa, w1]
  | 1, _ => simp [St.enter, enumFrom, subs, setSubs, ixaV, slcaV, clrI, growC, wb, w2]
  | 2, _ => simp [St.enter, enumFrom, subs, setSubs, ixaV, slcaV, clrI, growC, wc, w3]
end Go.EnvOf

/- The layer queue: the counts up to given ones, as the reference lists them. -/
namespace Go.EnvOf
open Go Go.Eng
set_option maxRecDepth 100000

/-! ### Numbers from one to another; the counts in their order -/
def upI (lo hi : Int) : List Int := (List.range (hi + 1 - lo).toNat).map (fun k : Nat => lo + k)
theorem upI_nil {lo hi : Int} (h : hi < lo) : upI lo hi = [] := by
  unfold upI
  have : (hi + 1 - lo).toNat = 0 := by omega
  rw [this]; rfl
theorem upI_cons {lo hi : Int} (h : lo ≤ hi) : upI lo hi = lo :: upI (lo + 1) hi := by
  unfold upI
  have : (hi + 1 - lo).toNat = (hi + 1 - (lo + 1)).toNat + 1 := by omega
  rw [this, List.range_succ_eq_map, List.map_cons, List.map_map]
  congr 1
  · omega
  · apply List.map_congr_left
    intro k _
    simp only [Function.comp_apply]
    omega
theorem upI_len (lo hi : Int) : (upI lo hi).length = (hi + 1 - lo).toNat := by simp [upI]
def R3 (m : C3) (a b c : Int) : List C3 := (upI c m.c).map fun c => ⟨a, b, c⟩
def R2 (m : C3) (a b : Int) : List C3 := (upI b m.b).flatMap fun b => R3 m a b 0
def R1 (m : C3) (a : Int) : List C3 := (upI a m.a).flatMap fun a => R2 m a 0
def smallC (n : Int) (s : C3) : Bool := decide (s.a + s.b + s.c ≤ n)
def capC (x : C3) : C3 := ⟨min x.a 32, min x.b 32, min x.c 32⟩
def upL (x : C3) (n : Int) : List C3 := (R1 (capC x) 0).filter (smallC n)
theorem flat_len {α β : Type} (f : α → List β) (k : Nat) (h : ∀ x, (f x).length ≤ k) : ∀ l : List α, (l.flatMap f).length ≤ k * l.length
  | [] => by simp
  | x :: r => by
    have h1 := h x
    have h2 := flat_len f k h r
    simp only [List.flatMap_cons, List.length_append, List.length_cons, Nat.mul_add]
    omega
theorem R3_len {m : C3} (hm : m.c ≤ 32) (a b : Int) {c : Int} (hc : 0 ≤ c) : (R3 m a b c).length ≤ 33 := by
  unfold R3; rw [List.length_map, upI_len]; omega
theorem R2_len {m : C3} (hb : m.b ≤ 32) (hm : m.c ≤ 32) (a : Int) {b : Int} (h : 0 ≤ b) : (R2 m a b).length ≤ 1089 := by
  have h1 := flat_len (fun b => R3 m a b 0) 33 (fun b => R3_len hm a b (Int.le_refl 0)) (upI b m.b)
  unfold R2
  rw [upI_len] at h1
  omega
theorem R1_len {m : C3} (ha : m.a ≤ 32) (hb : m.b ≤ 32) (hm : m.c ≤ 32) {a : Int} (h : 0 ≤ a) : (R1 m a).length ≤ 35937 := by
  have h1 := flat_len (fun a => R2 m a 0) 1089 (fun a => R2_len hb hm a (Int.le_refl 0)) (upI a m.a)
  unfold R1
  rw [upI_len] at h1
  omega

/-! ### The reference -/
def encC (x : C3) : List PV := [.int .i64 x.a, .int .i64 x.b, .int .i64 x.c]
@[simp] theorem encC_len (x : C3) : (encC x).length = 3 := rfl
abbrev vCs (l : List C3) : V := .p (.sl (l.map encC))
abbrev hC (H : Heap) (o : List C3) : Heap := H ++ [.row 3 (upV (o.map encC))]
abbrev rC (H : Heap) (o : List C3) : V := .row H.length o.length 0 o.length
abbrev lC (x : C3) : List V := [vI x.a, vI x.b, vI x.c]
def r0E (x : C3) (n : Int) (H : Heap) (a b : Int) (s : Int × List C3) : St := ⟨[(1, vI n), (2, .lptr 2 0), (5, rC H s.2), (6, vI a), (7, vI b), (8, vI s.1)], [(2, lC x)], hC H s.2, H.length, []⟩
def r0X (x : C3) (n : Int) (H : Heap) (a b c : Int) (o : List C3) : Ex × St := (.exit 4, ⟨[(1, vI n), (2, .lptr 2 0), (5, rC H o), (6, vI a), (7, vI b), (8, vI c), (27, vB false)], [(2, lC x)], hC H o, H.length, []⟩)
theorem r0_lp (x : C3) (n : Int) (H : Heap) (a b : Int) (ha : 0 ≤ a ∧ a ≤ 33) (hb : 0 ≤ b ∧ b ≤ 33) (o : List C3) (ho : o.length ≤ 100000) :
    evD EE lp80_0 (r0E x n H a b (0, o)) = some (r0X x n H a b (max 0 (min x.c 32 + 1)) (o ++ (R3 (capC x) a b 0).filter (smallC n))) := by
  unfold lp80_0
  refine evD_while (r0E x n H a b) (fun s => 0 ≤ s.1 ∧ s.1 ≤ 33 ∧ s.2.length ≤ 100000 + s.1.toNat) (fun s => (40 - s.1).toNat) (fun s => r0X x n H a b (max s.1 (min x.c 32 + 1)) (s.2 ++ (R3 (capC x) a b s.1).filter (smallC n))) (fun _ => rfl) ?_ (0, o) (by simp; exact ho)
  rintro ⟨c, o⟩ ⟨h0, h1, h2⟩
  simp only at h0 h1 h2 ⊢
  have w : IntKind.i64.wrap (c + 1) = c + 1 := w64 (by omega) (by omega)
  have w2 : IntKind.i64.wrap (a + b) = a + b := w64 (by omega) (by omega)
  have w3 : IntKind.i64.wrap (a + b + c) = a + b + c := w64 (by omega) (by omega)
  have hm : o.length + 1 < most := by unfold most; omega
  by_cases hc : c ≤ min x.c 32
  · refine .inl ⟨(c + 1, if a + b + c ≤ n then o ++ [⟨a, b, c⟩] else o), ?_, ?_, ?_, ?_⟩
    · have hc1 : c ≤ x.c := by omega
      have hc2 : c ≤ 32 := by omega
      by_cases hn : a + b + c ≤ n
      · simp [r0E, ixaV, subs, setSubs, hc, hc1, hc2, w, w2, w3, hn, hm, encC]
      · simp [r0E, ixaV, subs, hc, hc1, hc2, w, w2, w3, hn]
    · split <;> simp <;> omega
    · simp only; omega
    · have e : R3 (capC x) a b c = ⟨a, b, c⟩ :: R3 (capC x) a b (c + 1) := by unfold R3; rw [upI_cons (show c ≤ (capC x).c from hc)]; rfl
      have e2 : max (c + 1) (min x.c 32 + 1) = max c (min x.c 32 + 1) := by omega
      simp only [e, e2, List.filter_cons]
      by_cases hn : a + b + c ≤ n
      · simp [smallC, hn]
      · simp [smallC, hn]
  · have e : R3 (capC x) a b c = [] := by unfold R3; rw [upI_nil (show (capC x).c < c by unfold capC; simp only; omega)]; rfl
    have e2 : max c (min x.c 32 + 1) = c := by omega
    refine .inr ⟨?_, by simp [r0X]⟩
    simp only [e, e2, List.filter_nil, List.append_nil]
    by_cases q : c ≤ x.c
    · have q2 : ¬ c ≤ 32 := by omega
      simp [r0E, r0X, ixaV, subs, hc, q, q2]
    · simp [r0E, r0X, ixaV, subs, hc, q]
def r1E (x : C3) (n : Int) (H : Heap) (a : Int) (s : Int × List C3) : St := ⟨[(1, vI n), (2, .lptr 2 0), (5, rC H s.2), (6, vI a), (7, vI s.1)], [(2, lC x)], hC H s.2, H.length, []⟩
def r1X (x : C3) (n : Int) (H : Heap) (a b : Int) (o : List C3) : Ex × St := (.exit 2, ⟨[(1, vI n), (2, .lptr 2 0), (5, rC H o), (6, vI a), (7, vI b), (20, vB false)], [(2, lC x)], hC H o, H.length, []⟩)
theorem r1_lp (x : C3) (n : Int) (H : Heap) (a : Int) (ha : 0 ≤ a ∧ a ≤ 33) (o : List C3) (ho : o.length ≤ 80000) :
    evD EE lp80_1 (r1E x n H a (0, o)) = some (r1X x n H a (max 0 (min x.b 32 + 1)) (o ++ (R2 (capC x) a 0).filter (smallC n))) := by
  unfold lp80_1
  refine evD_while (r1E x n H a) (fun s => 0 ≤ s.1 ∧ s.1 ≤ 33 ∧ s.2.length ≤ 80000 + 40 * s.1.toNat) (fun s => (40 - s.1).toNat) (fun s => r1X x n H a (max s.1 (min x.b 32 + 1)) (s.2 ++ (R2 (capC x) a s.1).filter (smallC n))) (fun _ => rfl) ?_ (0, o) (by simp; exact ho)
  rintro ⟨b, o⟩ ⟨h0, h1, h2⟩
  simp only at h0 h1 h2 ⊢
  have w : IntKind.i64.wrap (b + 1) = b + 1 := w64 (by omega) (by omega)
  by_cases hc : b ≤ min x.b 32
  · have k := r0_lp x n H a b ha ⟨h0, by omega⟩ o (by omega)
    have hR := R3_len (m := capC x) (by unfold capC; simp only; omega) a b (Int.le_refl 0)
    have hF := List.length_filter_le (smallC n) (R3 (capC x) a b 0)
    have hc1 : b ≤ x.b := by omega
    have hc2 : b ≤ 32 := by omega
    refine .inl ⟨(b + 1, o ++ (R3 (capC x) a b 0).filter (smallC n)), ?_, ?_, ?_, ?_⟩
    · generalize (R3 (capC x) a b 0).filter (smallC n) = F at *
      generalize o ++ F = O at *
      simp [r0E, r0X] at k
      simp [r1E, ixaV, subs, hc, hc1, hc2, w, k]
    · simp only [List.length_append]; omega
    · simp only; omega
    · have e : R2 (capC x) a b = R3 (capC x) a b 0 ++ R2 (capC x) a (b + 1) := by unfold R2; rw [upI_cons (show b ≤ (capC x).b from hc)]; rfl
      have e2 : max (b + 1) (min x.b 32 + 1) = max b (min x.b 32 + 1) := by omega
      simp only [e, e2, List.filter_append, List.append_assoc]
  · have e : R2 (capC x) a b = [] := by unfold R2; rw [upI_nil (show (capC x).b < b by unfold capC; simp only; omega)]; rfl
    have e2 : max b (min x.b 32 + 1) = b := by omega
    refine .inr ⟨?_, by simp [r1X]⟩
    simp only [e, e2, List.filter_nil, List.append_nil]
    by_cases q : b ≤ x.b
    · have q2 : ¬ b ≤ 32 := by omega
      simp [r1E, r1X, ixaV, subs, hc, q, q2]
    · simp [r1E, r1X, ixaV, subs, hc, q]
def r2E (x : C3) (n : Int) (H : Heap) (s : Int × List C3) : St := ⟨[(1, vI n), (2, .lptr 2 0), (5, rC H s.2), (6, vI s.1)], [(2, lC x)], hC H s.2, H.length, []⟩
def r2X (x : C3) (n : Int) (H : Heap) (a : Int) (o : List C3) : Ex × St := (.exit 0, ⟨[(1, vI n), (2, .lptr 2 0), (5, rC H o), (6, vI a), (13, vB false)], [(2, lC x)], hC H o, H.length, []⟩)
theorem r2_lp (x : C3) (n : Int) (H : Heap) :
    evD EE lp80_2 (r2E x n H (0, [])) = some (r2X x n H (max 0 (min x.a 32 + 1)) (upL x n)) := by
  unfold lp80_2
  refine evD_while (r2E x n H) (fun s => 0 ≤ s.1 ∧ s.1 ≤ 33 ∧ s.2.length ≤ 1600 * s.1.toNat) (fun s => (40 - s.1).toNat) (fun s => r2X x n H (max s.1 (min x.a 32 + 1)) (s.2 ++ (R1 (capC x) s.1).filter (smallC n))) (fun _ => rfl) ?_ (0, []) (by simp)
  rintro ⟨a, o⟩ ⟨h0, h1, h2⟩
  simp only at h0 h1 h2 ⊢
  have w : IntKind.i64.wrap (a + 1) = a + 1 := w64 (by omega) (by omega)
  by_cases hc : a ≤ min x.a 32
  · have k := r1_lp x n H a ⟨h0, by omega⟩ o (by omega)
    have hR := R2_len (m := capC x) (by unfold capC; simp only; omega) (by unfold capC; simp only; omega) a (Int.le_refl 0)
    have hF := List.length_filter_le (smallC n) (R2 (capC x) a 0)
    have hc1 : a ≤ x.a := by omega
    have hc2 : a ≤ 32 := by omega
    refine .inl ⟨(a + 1, o ++ (R2 (capC x) a 0).filter (smallC n)), ?_, ?_, ?_, ?_⟩
    · generalize (R2 (capC x) a 0).filter (smallC n) = F at *
      generalize o ++ F = O at *
      simp [r1E, r1X] at k
      simp [r2E, ixaV, subs, hc, hc1, hc2, w, k]
    · simp only [List.length_append]; omega
    · simp only; omega
    · have e : R1 (capC x) a = R2 (capC x) a 0 ++ R1 (capC x) (a + 1) := by unfold R1; rw [upI_cons (show a ≤ (capC x).a from hc)]; rfl
      have e2 : max (a + 1) (min x.a 32 + 1) = max a (min x.a 32 + 1) := by omega
      simp only [e, e2, List.filter_append, List.append_assoc]
  · have e : R1 (capC x) a = [] := by unfold R1; rw [upI_nil (show (capC x).a < a by unfold capC; simp only; omega)]; rfl
    have e2 : max a (min x.a 32 + 1) = a := by omega
    refine .inr ⟨?_, by simp [r2X]⟩
    simp only [e, e2, List.filter_nil, List.append_nil]
    by_cases q : a ≤ x.a
    · have q2 : ¬ a ≤ 32 := by omega
      simp [r2E, r2X, ixaV, subs, hc, q, q2]
    · simp [r2E, r2X, ixaV, subs, hc, q]
theorem rup_ev (x : C3) (n : Int) (H : Heap) : clD EE (.p (.fn 80)) [vC x, vI n] H = some (vCs (upL x n), none) := by
  rw [clD_body _ _ _ _ _ _ (noP _) fn80]
  have k := r2_lp x n H
  generalize upL x n = O at *
  simp [r2E, r2X, rC, hC, lC] at k
  simp [St.enter, enumFrom, subs, setSubs, k]
end Go.EnvOf

/- The layer queue: the counts up to given ones, one after the other. -/
namespace Go.EnvOf
open Go Go.Eng
set_option maxRecDepth 100000

/-! ### From counts on -/
def rest (m s : C3) : List C3 := R3 m s.a s.b s.c ++ R2 m s.a (s.b + 1) ++ R1 m (s.a + 1)
theorem rest_c {m s : C3} (h : s.c < m.c) : rest m s = s :: rest m ⟨s.a, s.b, s.c + 1⟩ := by
  unfold rest
  have e : R3 m s.a s.b s.c = s :: R3 m s.a s.b (s.c + 1) := by unfold R3; rw [upI_cons (Int.le_of_lt h)]; rfl
  simp only [e, List.cons_append]
theorem R3_one {m s : C3} (h : s.c = m.c) : R3 m s.a s.b s.c = [s] := by
  unfold R3; rw [upI_cons (by omega), upI_nil (by omega)]; rfl
theorem rest_b {m s : C3} (h : s.c = m.c) (g : s.b < m.b) : rest m s = s :: rest m ⟨s.a, s.b + 1, 0⟩ := by
  unfold rest
  have e2 : R2 m s.a (s.b + 1) = R3 m s.a (s.b + 1) 0 ++ R2 m s.a (s.b + 1 + 1) := by unfold R2; rw [upI_cons (show s.b + 1 ≤ m.b by omega)]; rfl
  simp only [R3_one h, e2, List.cons_append, List.nil_append, List.append_assoc]
theorem rest_a {m s : C3} (h : s.c = m.c) (g : s.b = m.b) (k : s.a < m.a) (hb : 0 ≤ m.b) : rest m s = s :: rest m ⟨s.a + 1, 0, 0⟩ := by
  unfold rest
  have e2 : R2 m s.a (s.b + 1) = [] := by unfold R2; rw [upI_nil (by omega)]; rfl
  have e1 : R1 m (s.a + 1) = R2 m (s.a + 1) 0 ++ R1 m (s.a + 1 + 1) := by unfold R1; rw [upI_cons (show s.a + 1 ≤ m.a by omega)]; rfl
  have e3 : R2 m (s.a + 1) 0 = R3 m (s.a + 1) 0 0 ++ R2 m (s.a + 1) (0 + 1) := by unfold R2; rw [upI_cons hb]; rfl
  simp only [R3_one h, e2, e1, e3, List.cons_append, List.nil_append, List.append_assoc]
theorem rest_end {m s : C3} (h : s.c = m.c) (g : s.b = m.b) (k : s.a = m.a) : rest m s = [s] := by
  unfold rest
  have e2 : R2 m s.a (s.b + 1) = [] := by unfold R2; rw [upI_nil (by omega)]; rfl
  have e1 : R1 m (s.a + 1) = [] := by unfold R1; rw [upI_nil (by omega)]; rfl
  simp only [R3_one h, e2, e1, List.append_nil]
theorem rest_zero {m : C3} (ha : 0 ≤ m.a) (hb : 0 ≤ m.b) : rest m ⟨0, 0, 0⟩ = R1 m 0 := by
  unfold rest
  have e1 : R1 m 0 = R2 m 0 0 ++ R1 m (0 + 1) := by unfold R1; rw [upI_cons ha]; rfl
  have e3 : R2 m 0 0 = R3 m 0 0 0 ++ R2 m 0 (0 + 1) := by unfold R2; rw [upI_cons hb]; rfl
  simp only [e1, e3]
theorem R1_none {m : C3} (h : m.a < 0 ∨ m.b < 0 ∨ m.c < 0) : R1 m 0 = [] := by
  unfold R1
  rcases h with h | h | h
  · rw [upI_nil h]; rfl
  · apply List.flatMap_eq_nil_iff.2
    intro a _
    unfold R2
    rw [upI_nil h]; rfl
  · apply List.flatMap_eq_nil_iff.2
    intro a _
    unfold R2
    apply List.flatMap_eq_nil_iff.2
    intro b _
    unfold R3
    rw [upI_nil h]; rfl

/-! ### The largest place that still can grow -/
def u1E (m s : C3) (n : Int) (H : Heap) (o : List C3) (i : Int) : St := ⟨[(1, vI n), (2, .lptr 2 0), (7, .p (.fn 75)), (8, .lptr 8 0), (9, rC H o), (10, vI i)], [(2, lC m), (8, lC s)], hC H o, H.length, []⟩
def u1X (m s : C3) (n : Int) (H : Heap) (o : List C3) (i : Int) : Ex × St := (.exit 4, ⟨[(1, vI n), (2, .lptr 2 0), (7, .p (.fn 75)), (8, .lptr 8 0), (9, rC H o), (10, vI i), (53, vB false)], [(2, lC m), (8, lC s)], hC H o, H.length, []⟩)
structure upto (m s : C3) : Prop where
  a : 0 ≤ s.a ∧ s.a ≤ m.a
  b : 0 ≤ s.b ∧ s.b ≤ m.b
  c : 0 ≤ s.c ∧ s.c ≤ m.c
structure m32 (m : C3) : Prop where
  a : m.a ≤ 32
  b : m.b ≤ 32
  c : m.c ≤ 32
def place (m s : C3) : Int := if s.c < m.c then 2 else if s.b < m.b then 1 else if s.a < m.a then 0 else -1
theorem u1_lp (m s : C3) (n : Int) (H : Heap) (o : List C3) (hs : upto m s) (hm : m32 m) : evD EE lp79_1 (u1E m s n H o 2) = some (u1X m s n H o (place m s)) := by
  obtain ⟨a1, a2⟩ := hs.a
  obtain ⟨b1, b2⟩ := hs.b
  obtain ⟨c1, c2⟩ := hs.c
  obtain ⟨ma, mb, mc⟩ := hm
  have g2 := fun H => grow_ev s 2 (by decide) (by omega) (by omega) (by omega) H
  have g1 := fun H => grow_ev s 1 (by decide) (by omega) (by omega) (by omega) H
  have g0 := fun H => grow_ev s 0 (by decide) (by omega) (by omega) (by omega) H
  have i2 := fun H => in_ev (growC s 2) m H
  have i1 := fun H => in_ev (growC s 1) m H
  have i0 := fun H => in_ev (growC s 0) m H
  have e2 : inC (growC s 2) m = decide (s.c < m.c) := by simp [growC, inC, a2, b2]; omega
  have e1 : inC (growC s 1) m = decide (s.b < m.b) := by simp [growC, inC, a2, show 0 ≤ m.c by omega]; omega
  have e0 : inC (growC s 0) m = decide (s.a < m.a) := by simp [growC, inC, show 0 ≤ m.b by omega, show 0 ≤ m.c by omega]; omega
  rw [e2] at i2
  rw [e1] at i1
  rw [e0] at i0
  simp only [growC] at g2 g1 g0 i2 i1 i0
  have w1 : IntKind.i64.wrap 1 = 1 := by decide
  have w0 : IntKind.i64.wrap 0 = 0 := by decide
  have wm : IntKind.i64.wrap (-1) = -1 := by decide
  simp at g2 g1 g0
  unfold place
  by_cases h2 : s.c < m.c
  · rw [if_pos h2]
    simp [u1E, u1X, lp79_1, evD_loop, subs, setSubs, g2, i2, h2]
  by_cases h1 : s.b < m.b
  · rw [if_neg h2, if_pos h1]
    simp [u1E, u1X, lp79_1, evD_loop, subs, setSubs, g2, i2, h2, g1, i1, h1, w1]
  by_cases h0 : s.a < m.a
  · rw [if_neg h2, if_neg h1, if_pos h0]
    simp [u1E, u1X, lp79_1, evD_loop, subs, setSubs, g2, i2, h2, g1, i1, h1, g0, i0, h0, w1, w0]
  · rw [if_neg h2, if_neg h1, if_neg h0]
    simp [u1E, u1X, lp79_1, evD_loop, subs, setSubs, g2, i2, h2, g1, i1, h1, g0, i0, h0, w1, w0, wm]

/-! ### One after the other -/
def u2E (m : C3) (n : Int) (H : Heap) (s : C3 × List C3) : St := ⟨[(1, vI n), (2, .lptr 2 0), (7, .p (.fn 75)), (8, .lptr 8 0), (9, rC H s.2)], [(2, lC m), (8, lC s.1)], hC H s.2, H.length, []⟩
def u2X (H : Heap) (o : List C3) : Ex × St := (.ret, ⟨[(4, rC H o)], [], hC H o, H.length, []⟩)
def bodyOf : IC → IC | .loop _ _ c => c | c => c
def left (m s : C3) : Int := 1600 * (m.a - s.a) + 40 * (m.b - s.b) + (m.c - s.c)
theorem u2_lp (m : C3) (n : Int) (H : Heap) (h0 : 0 ≤ m.a ∧ 0 ≤ m.b ∧ 0 ≤ m.c) (hm : m32 m) :
    evD EE lp79_2 (u2E m n H (⟨0, 0, 0⟩, [])) = some (u2X H ((R1 m 0).filter (smallC n))) := by
  have key : ∀ s : C3 × List C3, (upto m s.1 ∧ s.2.length + (left m s.1).toNat ≤ 60000) → evD EE lp79_2 (u2E m n H s) = some (u2X H (s.2 ++ (rest m s.1).filter (smallC n))) := by
    unfold lp79_2
    refine evD_while (u2E m n H) (fun s => upto m s.1 ∧ s.2.length + (left m s.1).toNat ≤ 60000) (fun s => (left m s.1).toNat) (fun s => u2X H (s.2 ++ (rest m s.1).filter (smallC n))) (fun _ => rfl) ?_
    rintro ⟨s, o⟩ ⟨hs, ho⟩
    simp only at hs ho ⊢
    obtain ⟨a1, a2⟩ := id hs.a
    obtain ⟨b1, b2⟩ := id hs.b
    obtain ⟨c1, c2⟩ := id hs.c
    obtain ⟨ma, mb, mc⟩ := id hm
    have hsum := fun H => sum_ev s H
    have es : sumC s = s.a + s.b + s.c := by unfold sumC held big; omega
    rw [es] at hsum
    have u1 := fun o => u1_lp m s n H o hs hm
    have hmo : o.length + 1 < most := by unfold most; omega
    let o' := if s.a + s.b + s.c ≤ n then o ++ [s] else o
    have ho' : o'.length ≤ o.length + 1 := by simp only [o']; split <;> simp
    have hf : ∀ r : List C3, o ++ (s :: r).filter (smallC n) = o' ++ r.filter (smallC n) := by
      intro r
      simp only [o', List.filter_cons, smallC, decide_eq_true_eq]
      split <;> simp
    have step : ∀ i : Nat, i < 3 → place m s = i → evD EE (bodyOf lp79_2) (u2E m n H (s, o)) = some (.normal, u2E m n H (growC s i, o')) := by
      intro i hi hp
      have g := fun H => grow_ev s i hi ⟨by omega, by omega⟩ ⟨by omega, by omega⟩ ⟨by omega, by omega⟩ H
      have hi0 : ¬ ((i : Nat) : Int) < 0 := by omega
      rw [hp] at u1
      have v1 := u1 (o ++ [s])
      have v0 := u1 o
      simp [u1E, u1X, rC, hC, lC, encC] at v1 v0
      by_cases hn : s.a + s.b + s.c ≤ n
      · simp [bodyOf, lp79_2, u2E, rC, hC, lC, o', subs, setSubs, hsum, hn, hmo, encC, v1, g, hi0]
      · simp [bodyOf, lp79_2, u2E, rC, hC, lC, o', subs, setSubs, hsum, hn, v0, g, hi0]
    have hpl : place m s = 2 ∧ s.c < m.c ∨ place m s = 1 ∧ ¬ s.c < m.c ∧ s.b < m.b ∨ place m s = 0 ∧ ¬ s.c < m.c ∧ ¬ s.b < m.b ∧ s.a < m.a ∨ place m s = -1 ∧ ¬ s.c < m.c ∧ ¬ s.b < m.b ∧ ¬ s.a < m.a := by
      unfold place
      by_cases h2 : s.c < m.c
      · simp [h2]
      by_cases h1 : s.b < m.b
      · simp [h2, h1]
      by_cases h0 : s.a < m.a <;> simp [h2, h1, h0]
    rcases hpl with ⟨hp, q2⟩ | ⟨hp, q2, q1⟩ | ⟨hp, q2, q1, q0⟩ | ⟨hp, q2, q1, q0⟩
    · refine .inl ⟨(growC s 2, o'), step 2 (by decide) hp, ⟨⟨?_, ?_, ?_⟩, ?_⟩, ?_, ?_⟩
      all_goals simp only [growC, left] at *
      · omega
      · omega
      · omega
      · omega
      · omega
      · rw [rest_c q2, hf]
    · refine .inl ⟨(growC s 1, o'), step 1 (by decide) hp, ⟨⟨?_, ?_, ?_⟩, ?_⟩, ?_, ?_⟩
      all_goals simp only [growC, left] at *
      · omega
      · omega
      · omega
      · omega
      · omega
      · rw [rest_b (by omega) q1, hf]
    · refine .inl ⟨(growC s 0, o'), step 0 (by decide) hp, ⟨⟨?_, ?_, ?_⟩, ?_⟩, ?_, ?_⟩
      all_goals simp only [growC, left] at *
      · omega
      · omega
      · omega
      · omega
      · omega
      · rw [rest_a (by omega) (by omega) q0 (by omega), hf]
    · rw [rest_end (by omega) (by omega) (by omega), hf]
      refine .inr ⟨?_, by simp [u2X]⟩
      rw [hp] at u1
      have v1 := u1 (o ++ [s])
      have v0 := u1 o
      simp [u1E, u1X, rC, hC, lC, encC] at v1 v0
      by_cases hn : s.a + s.b + s.c ≤ n
      · simp [u2E, u2X, rC, hC, lC, o', subs, setSubs, hsum, hn, hmo, encC, v1]
      · simp [u2E, u2X, rC, hC, lC, o', subs, setSubs, hsum, hn, v0]
  obtain ⟨ma, mb, mc⟩ := hm
  have := key (⟨0, 0, 0⟩, []) ⟨⟨by simp; omega, by simp; omega, by simp; omega⟩, by simp [left]; omega⟩
  rw [rest_zero h0.1 h0.2.1] at this
  exact this
end Go.EnvOf

/- The law of counts. -/
namespace Go.EnvOf
open Go Go.Eng
set_option maxRecDepth 100000

def u0E (x : C3) (s : C3) (n : Int) (H : Heap) (i : Int) : St := ⟨[(1, vI n), (2, .lptr 2 0), (11, vC x), (12, vI i)], [(2, lC s)], H, H.length, []⟩
theorem u0_lp (x : C3) (n : Int) (H : Heap) : evD EE lp79_0 (u0E x x n H 0) = some (.exit 0, ⟨[(1, vI n), (2, .lptr 2 0), (11, vC x), (12, vI 3), (13, vB false)], [(2, lC (capC x))], H, H.length, []⟩) := by
  have w1 : IntKind.i64.wrap 1 = 1 := by decide
  have w2 : IntKind.i64.wrap 2 = 2 := by decide
  have w3 : IntKind.i64.wrap 3 = 3 := by decide
  simp [u0E, lp79_0, evD_loop, ixvV, ixaV, subs, setSubs, w1, w2, w3, capC]
theorem up_ev (x : C3) (n : Int) (H : Heap) : clD EE (.p (.fn 79)) [vC x, vI n] H = some (vCs (upL x n), none) := by
  have k0 := u0_lp x n H
  have hm : m32 (capC x) := ⟨by unfold capC; simp only; omega, by unfold capC; simp only; omega, by unfold capC; simp only; omega⟩
  have hin := fun H => in_ev ⟨0, 0, 0⟩ (capC x) H
  have hup : upL x n = (R1 (capC x) 0).filter (smallC n) := rfl
  rw [hup]
  generalize capC x = m at *
  simp [u0E] at k0
  have main : (m ≠ ⟨0, 0, 0⟩ ∨ ¬ 0 ≤ n) → clD EE (.p (.fn 79)) [vC x, vI n] H = some (vCs ((R1 m 0).filter (smallC n)), none) := by
    intro hc
    rw [clD_body _ _ _ _ _ _ (noP _) fn79]
    obtain ⟨a, b, c⟩ := m
    have hd' : ¬ (a = 0 ∧ b = 0 ∧ c = 0 ∧ 0 ≤ n) := by
      simp at hc
      omega
    try simp only at k0 hin hm ⊢
    by_cases h0 : 0 ≤ a ∧ 0 ≤ b ∧ 0 ≤ c
    · have k2 := u2_lp ⟨a, b, c⟩ n H h0 hm
      have ei : inC ⟨0, 0, 0⟩ ⟨a, b, c⟩ = true := by simp [inC, h0]
      rw [ei] at hin
      generalize (R1 ⟨a, b, c⟩ 0).filter (smallC n) = O at *
      simp [u2E, u2X, rC, hC, lC] at k2
      by_cases z1 : a = 0
      · subst z1
        by_cases z2 : b = 0
        · subst z2
          by_cases z3 : c = 0
          · subst z3
            have hn : ¬ 0 ≤ n := by omega
            simp [St.enter, enumFrom, subs, setSubs, k0, k2, hin, hn]
          · simp [St.enter, enumFrom, subs, setSubs, k0, k2, hin, z3]
        · simp [St.enter, enumFrom, subs, setSubs, k0, k2, hin, z2]
      · simp [St.enter, enumFrom, subs, setSubs, k0, k2, hin, z1]
    · have hR : R1 ⟨a, b, c⟩ 0 = [] := R1_none (by simp only; omega)
      have ei : inC ⟨0, 0, 0⟩ ⟨a, b, c⟩ = false := by
        unfold inC
        simp only [Bool.and_eq_false_iff, decide_eq_false_iff_not]
        omega
      rw [ei] at hin
      rw [hR]
      by_cases z1 : a = 0
      · subst z1
        by_cases z2 : b = 0
        · subst z2
          have z3 : ¬ c = 0 := by omega
          simp [St.enter, enumFrom, subs, setSubs, k0, hin, z3]
        · simp [St.enter, enumFrom, subs, setSubs, k0, hin, z2]
      · simp [St.enter, enumFrom, subs, setSubs, k0, hin, z1]
  by_cases hz : m = ⟨0, 0, 0⟩
  · by_cases hn : 0 ≤ n
    · have hR : R1 m 0 = [⟨0, 0, 0⟩] := by subst hz; rfl
      subst hz
      rw [clD_body _ _ _ _ _ _ (noP _) fn79, hR]
      simp [St.enter, enumFrom, subs, setSubs, k0, hn, smallC, encC]
    · exact main (.inr hn)
  · exact main (.inl hz)

/-! ### The reference's ways -/
theorem radd_ev (x y : C3) (H : Heap) : clD EE (.p (.fn 72)) [vC x, vC y] H = some (vC (addC x y), none) := by
  rw [clD_body _ _ _ _ _ _ (noP _) fn72]
  have w1 : IntKind.i64.wrap 1 = 1 := by decide
  have w2 : IntKind.i64.wrap 2 = 2 := by decide
  have w3 : IntKind.i64.wrap 3 = 3 := by decide
  have hh := fun n => rheld_ev n (-big) big (by decide) H
  have b := fun n => And.intro (held_lo (n := n) (lo := -big) (hi := big) (by decide)) (held_hi (n := n) (lo := -big) (hi := big))
  have wp : ∀ n m, IntKind.i64.wrap (held n (-big) big + held m (-big) big) = held n (-big) big + held m (-big) big := by
    intro n m
    have b1 := b n
    have b2 := b m
    simp only [big] at b1 b2 ⊢
    exact w64 (by omega) (by omega)
  simp only [big] at hh wp
  simp [St.enter, enumFrom, lp72_0, evD_loop, ixaV, subs, setSubs, hh, wp, w1, w2, w3, addC, zipF]
theorem rready_ev (x y : C3) (H : Heap) : clD EE (.p (.fn 78)) [vC x, vC y] H = some (vC (readyC x y), none) := by
  rw [clD_body _ _ _ _ _ _ (noP _) fn78]
  have w1 : IntKind.i64.wrap 1 = 1 := by decide
  have w2 : IntKind.i64.wrap 2 = 2 := by decide
  have w3 : IntKind.i64.wrap 3 = 3 := by decide
  have hh := fun n => rheld_ev n 0 big (by decide) H
  have b := fun n => And.intro (held_lo (n := n) (lo := 0) (hi := big) (by decide)) (held_hi (n := n) (lo := 0) (hi := big))
  have wp : ∀ n m, IntKind.i64.wrap (held n 0 big - held m 0 big) = held n 0 big - held m 0 big := by
    intro n m
    have b1 := b n
    have b2 := b m
    simp only [big] at b1 b2 ⊢
    exact w64 (by omega) (by omega)
  have he : ∀ n m, held (held n 0 big - held m 0 big) 0 big = max 0 (held n 0 big - held m 0 big) := by
    intro n m
    have b1 := b n
    have b2 := b m
    generalize held n 0 big = p at *
    generalize held m 0 big = q at *
    unfold held
    omega
  unfold readyC zipF
  simp only [he]
  simp only [big] at hh wp ⊢
  simp [St.enter, enumFrom, lp78_0, evD_loop, ixaV, subs, setSubs, hh, wp, w1, w2, w3]
theorem rsum_ev (x : C3) (H : Heap) : clD EE (.p (.fn 74)) [vC x] H = some (vI (sumC x), none) := by
  rw [clD_body _ _ _ _ _ _ (noP _) fn74]
  have hh := fun n => rheld_ev n (-big) big (by decide) H
  have b := fun n => And.intro (held_lo (n := n) (lo := -big) (hi := big) (by decide)) (held_hi (n := n) (lo := -big) (hi := big))
  have b1 := b x.a
  have b2 := b x.b
  have b3 := b x.c
  unfold sumC
  simp only [big] at hh b1 b2 b3 ⊢
  have w4 : IntKind.i64.wrap (held x.a (-1073741824) 1073741824 + held x.b (-1073741824) 1073741824) = held x.a (-1073741824) 1073741824 + held x.b (-1073741824) 1073741824 := w64 (by omega) (by omega)
  have w5 : IntKind.i64.wrap (held x.a (-1073741824) 1073741824 + held x.b (-1073741824) 1073741824 + held x.c (-1073741824) 1073741824) = held x.a (-1073741824) 1073741824 + held x.b (-1073741824) 1073741824 + held x.c (-1073741824) 1073741824 := w64 (by omega) (by omega)
  simp [St.enter, enumFrom, ixaV, subs, setSubs, hh, w4, w5]
theorem rin_ev (x y : C3) (H : Heap) : clD EE (.p (.fn 76)) [vC x, vC y] H = some (.p (.bool (inC x y)), none) := by
  rw [clD_body _ _ _ _ _ _ (noP _) fn76]
  by_cases h1 : x.a ≤ y.a
  · by_cases h2 : x.b ≤ y.b
    · simp [St.enter, enumFrom, ixaV, subs, setSubs, inC, h1, h2]
    · simp [St.enter, enumFrom, ixaV, subs, setSubs, inC, h1, h2]
  · simp [St.enter, enumFrom, ixaV, subs, setSubs, inC, h1]

/-! ### The law -/
def qcE (L : List C3) (H : Heap) (i : Nat) : St := ⟨[(9, vCs L), (10, vCs L), (11, vI i)], [], H, H.length, []⟩
def qcX (L : List C3) (H : Heap) : Ex × St := (.exit 0, ⟨[(9, vCs L), (10, vCs L), (11, vI L.length), (69, vB false)], [], H, H.length, []⟩)
theorem qc_lp (L : List C3) (H : Heap) (hL : L.length ≤ 100000) : evD EE lp15_0 (qcE L H 0) = some (qcX L H) := by
  unfold lp15_0
  refine Eq.trans (evD_fold L (fun (_ : Unit) i => qcE L H i) (fun _ _ => True) (fun _ _ _ => ()) (fun _ => qcX L H) (fun _ _ => rfl) ?_ ?_ () 0 trivial (Nat.zero_le _)) rfl
  · intro _ i z _ hz
    refine ⟨?_, trivial⟩
    have hlt := (List.getElem?_eq_some_iff.1 hz).1
    have hiz := fun H k => ixs_nat H encC (k := k) (s := 3) hz rfl
    have w : IntKind.i64.wrap ((i : Int) + 1) = ((i + 1 : Nat) : Int) := w64 (by omega) (by omega)
    simp [qcE, hlt, subs, hiz, w, encC]
  · intro _ _
    refine ⟨?_, by simp [qcX]⟩
    simp [qcE, qcX]
theorem queueCounts_ev (x y : C3) (n : Int) : clD EE (.p (.fn 15)) [vC x, vC y, vI n] [] = some (.p (.bool true), none) := by
  rw [clD_body _ _ _ _ _ _ (noP _) fn15]
  have a1 := fun H => add_ev x y H
  have a2 := fun H => radd_ev x y H
  have b1 := fun H => sum_ev x H
  have b2 := fun H => rsum_ev x H
  have c1 := fun H => in_ev x y H
  have c2 := fun H => rin_ev x y H
  have d1 := fun H => ready_ev x y H
  have d2 := fun H => rready_ev x y H
  have e1 := fun H => up_ev x n H
  have e2 := fun H => rup_ev x n H
  have hl : (upL x n).length ≤ 100000 := by
    have h1 := List.length_filter_le (smallC n) (R1 (capC x) 0)
    have h2 := R1_len (m := capC x) (by unfold capC; simp only; omega) (by unfold capC; simp only; omega) (by unfold capC; simp only; omega) (Int.le_refl 0)
    unfold upL
    omega
  have k := qc_lp (upL x n) [] hl
  generalize upL x n = L at *
  generalize addC x y = A at *
  generalize readyC x y = R at *
  simp [qcE, qcX] at k
  by_cases h1 : 6 < x.a
  · simp [St.enter, enumFrom, ixaV, subs, setSubs, awake23, a1, a2, b1, b2, c1, c2, d1, d2, h1]
  by_cases h2 : 6 < x.b
  · simp [St.enter, enumFrom, ixaV, subs, setSubs, awake23, a1, a2, b1, b2, c1, c2, d1, d2, h1, h2]
  by_cases h3 : 6 < x.c
  · simp [St.enter, enumFrom, ixaV, subs, setSubs, awake23, a1, a2, b1, b2, c1, c2, d1, d2, h1, h2, h3]
  simp [St.enter, enumFrom, ixaV, subs, setSubs, awake23, a1, a2, b1, b2, c1, c2, d1, d2, h1, h2, h3, e1, e2, k]
end Go.EnvOf

/- The layer queue: taking the next floats of each class. -/
namespace Go.EnvOf
open Go Go.Eng
set_option maxRecDepth 100000

theorem okEl_upV : ∀ (es : List Int), (upV (es.map encI)).all (okEl 1) = true
  | [] => rfl
  | x :: r => by simp only [List.map_cons, upV_cons, List.all_cons, okEl_upV r, Bool.and_true]; rfl
theorem readI_up : ∀ (l : List Int), readI (upV (l.map encI)) = some l
  | [] => rfl
  | x :: r => by
    have := readI_up r
    simp only [List.map_cons, upV_cons] at this ⊢
    simp only [encI, List.map_cons, List.map_nil, readI, this]
theorem insI_len (x : Int) : ∀ l, (insI x l).length = l.length + 1
  | [] => rfl
  | y :: r => by unfold insI; split <;> simp [insI_len x r]
theorem isort_len : ∀ l, (isort l).length = l.length
  | [] => rfl
  | x :: r => by simp [isort, insI_len, isort_len r]
theorem intEl_up (l : List Int) : l.map intEl = upV (l.map encI) := by simp [upV, intEl, encI]

theorem clD_prim (E : Env) (f : FuncId) (args : List V) (H : Heap) (g : List V → Heap → Option CR) (h : E.prims f = some g) : clD E (.p (.fn f)) args H = g args H := by
  rw [clD_fn]; simp only [clStep.go, h]
theorem sort_none (H : Heap) (id tot off : Nat) : clD EE (.p (.fn 122)) [.row id tot off 0] H = some (.tup [], none) := by
  rw [clD_prim _ _ _ _ _ sortP_fn]; rfl
theorem sort_row (H : Heap) (l : List Int) (hl : l.length < most) (hne : l ≠ []) (id : Nat) (h : Go.Eng.rowAt H id = some (1, upV (l.map encI))) : clD EE (.p (.fn 122)) [.row id l.length 0 l.length] H = some (.tup [], some (H.set id (.row 1 (upV ((isort l).map encI))), [id])) := by
  obtain ⟨n, hn⟩ : ∃ n, l.length = n + 1 := ⟨l.length - 1, by cases l; exact absurd rfl hne; simp⟩
  rw [clD_prim _ _ _ _ _ sortP_fn, hn]
  simp [sortP, sortR, h, readI_up, hn, hn ▸ hl, intEl_up]

/-! ### A class's share -/
theorem figOf_len (c : Int) : ∀ (l : List Float) (i : Nat), (figOf c i l).length ≤ l.length
  | [], _ => by simp [figOf]
  | x :: r, i => by
    have := figOf_len c r (i + 1)
    simp only [figOf, List.length_append, List.length_cons]
    split <;> simp <;> omega
def okU (n : Nat) (u w : Int) : Prop := 0 ≤ u ∧ 0 ≤ w ∧ u ≤ n ∧ w ≤ n - u
instance (n : Nat) (u w : Int) : Decidable (okU n u w) := inferInstanceAs (Decidable (_ ∧ _))
def seg (F : List Int) (u w : Int) : List Int := (F.drop u.toNat).take w.toNat
theorem seg_len {F : List Int} {u w : Int} (h : okU F.length u w) : (seg F u w).length = w.toNat := by
  unfold okU at h; unfold seg; rw [List.length_take, List.length_drop]; omega
theorem slc_seg (F : List Int) (u w : Int) (h : okU F.length u w) (H : Heap) : slcI H 1 (sli F) (some (vI u)) (some (vI (u + w))) = some (sli (seg F u w)) := by
  unfold okU at h
  have e : (u + w - u).toNat = w.toNat := by omega
  have c : 0 ≤ u ∧ u ≤ u + w ∧ u + w ≤ F.length := by omega
  have hh : headOK 1 (F.map encI) = true := by cases F <;> rfl
  have g : (u : Int) ≤ u + w := by omega
  have g2 : u + w ≤ (F.length : Int) := by omega
  simp [slcI, slcV, seg, e, hh, h.1, g, g2, h.2.1, List.map_take, List.map_drop]
def tkE (l : List Float) (x y : C3) (H : Heap) (d : List Nat) (out : List Int) (i : Nat) : St :=
  ⟨[(0, vFloats l), (4, .lptr 4 0), (5, .lptr 5 0), (8, .row H.length out.length 0 out.length), (11, vI i)], [(4, [vI x.a, vI x.b, vI x.c]), (5, [vI y.a, vI y.b, vI y.c])], H ++ [.row 1 (upV (out.map encI))], H.length, d⟩
def tkB (H : Heap) (d : List Nat) (out : List Int) : Ex × St := (.ret, ⟨[(6, .nils), (7, vB false)], [], H ++ [.row 1 (upV (out.map encI))], H.length, d⟩)
def tkX (l : List Float) (x y : C3) (H : Heap) (d : List Nat) (out : List Int) : Ex × St :=
  (.exit 0, ⟨[(0, vFloats l), (4, .lptr 4 0), (5, .lptr 5 0), (8, .row H.length out.length 0 out.length), (11, vI 3), (12, vB false)], [(4, [vI x.a, vI x.b, vI x.c]), (5, [vI y.a, vI y.b, vI y.c])], H ++ [.row 1 (upV (out.map encI))], H.length, d⟩)
def tkS (l : List Float) (bad : List Int → Ex × St) (out : List Int) (i : Nat) (p : Int × Int) : List Int ⊕ (Ex × St) := if okU (figOf i 0 l).length p.1 p.2 then .inl (out ++ seg (figOf i 0 l) p.1 p.2) else .inr (bad out)
set_option maxHeartbeats 2000000 in
theorem take_lp (l : List Float) (x y : C3) (H : Heap) (d : List Nat) (hl : l.length ≤ 100000) :
    evD EE lp68_0 (tkE l x y H d [] 0) = some (rng (tkS l (tkB H d)) (tkX l x y H d) [] 0 [(x.a, y.a), (x.b, y.b), (x.c, y.c)]) := by
  unfold lp68_0
  refine evD_rng [(x.a, y.a), (x.b, y.b), (x.c, y.c)] (tkE l x y H d) (fun out i => out.length ≤ 100000 * i) (tkS l (tkB H d)) (tkX l x y H d) (fun _ _ => rfl) ?_ ?_ [] 0 (by simp) (Nat.zero_le _)
  · intro out i p hi hp
    have hlt : i < 3 := (List.getElem?_eq_some_iff.1 hp).1
    have hF := figOf_len i l 0
    have hm : out.length + 100000 < most := by unfold most; omega
    unfold tkS
    have hf := fun H => figOf_ev l i H (by omega)
    generalize figOf i 0 l = F at *
    obtain ⟨u, w⟩ := p
    simp only
    have w1 : IntKind.i64.wrap 1 = 1 := by decide
    have w2 : IntKind.i64.wrap 2 = 2 := by decide
    have w3 : IntKind.i64.wrap 3 = 3 := by decide
    by_cases hok : okU F.length u w
    · rw [if_pos hok]
      have hs := slc_seg F u w hok
      have hsl := seg_len hok
      obtain ⟨a1, a2, a3, a4⟩ := id hok
      have wu : IntKind.i64.wrap (u + w) = u + w := w64 (by omega) (by omega)
      have wn : IntKind.i64.wrap ((F.length : Int) - u) = (F.length : Int) - u := w64 (by omega) (by omega)
      have b1 : ¬ u < 0 := by omega
      have b2 : ¬ w < 0 := by omega
      have b3 : ¬ (F.length : Int) < u := by omega
      have b4 : ¬ (F.length : Int) - u < w := by omega
      have hmm : out.length + (seg F u w).length < most := by omega
      refine ⟨?_, by rw [List.length_append]; omega⟩
      match i, hlt with
      | 0, _ | 1, _ | 2, _ =>
        simp at hp hf
        obtain ⟨rfl, rfl⟩ := hp
        simp (config := {maxSteps := 2000000}) [tkE, ixaV, subs, hf, hs, wu, wn, w1, w2, w3, b1, b2, b3, b4, okEl_upV, hmm]
    · rw [if_neg hok]
      refine ⟨?_, by simp [tkB]⟩
      have wn : 0 ≤ u → u ≤ F.length → IntKind.i64.wrap ((F.length : Int) - u) = (F.length : Int) - u := fun _ _ => w64 (by omega) (by omega)
      match i, hlt with
      | 0, _ | 1, _ | 2, _ =>
        simp at hp hf
        obtain ⟨e1, e2⟩ := hp
        by_cases c1 : u < 0
        · simp [tkE, tkB, ixaV, subs, hf, wn, e1, e2, c1]
        by_cases c2 : w < 0
        · simp [tkE, tkB, ixaV, subs, hf, wn, e1, e2, c1, c2]
        by_cases c3 : (F.length : Int) < u
        · simp [tkE, tkB, ixaV, subs, hf, wn, e1, e2, c1, c2, c3]
        have wn := wn (by omega) (by omega)
        have c4 : (F.length : Int) - u < w := by unfold okU at hok; omega
        simp [tkE, tkB, ixaV, subs, hf, wn, e1, e2, c1, c2, c3, c4]
  · intro out hi
    refine ⟨?_, by simp [tkX]⟩
    simp [tkE, tkX]
/-! ### Taking -/
def okT (l : List Float) (x y : C3) : Prop := okU (figOf 0 0 l).length x.a y.a ∧ okU (figOf 1 0 l).length x.b y.b ∧ okU (figOf 2 0 l).length x.c y.c
instance (l : List Float) (x y : C3) : Decidable (okT l x y) := inferInstanceAs (Decidable (_ ∧ _))
def raw (l : List Float) (x y : C3) : List Int := seg (figOf 0 0 l) x.a y.a ++ seg (figOf 1 0 l) x.b y.b ++ seg (figOf 2 0 l) x.c y.c
def takeL (l : List Float) (x y : C3) : List Int := isort (raw l x y)
theorem seg_hi (F : List Int) (u w : Int) : (seg F u w).length ≤ F.length := by unfold seg; rw [List.length_take, List.length_drop]; omega
theorem raw_len (l : List Float) (x y : C3) : (raw l x y).length ≤ 3 * l.length := by
  have h0 := seg_hi (figOf 0 0 l) x.a y.a
  have h1 := seg_hi (figOf 1 0 l) x.b y.b
  have h2 := seg_hi (figOf 2 0 l) x.c y.c
  have g0 := figOf_len 0 l 0
  have g1 := figOf_len 1 l 0
  have g2 := figOf_len 2 l 0
  unfold raw
  simp only [List.length_append]
  omega
def vTake (l : List Float) (x y : C3) : V := if okT l x y then .tup [sli (takeL l x y), vB true] else .tup [sli [], vB false]
theorem isort_nil {l : List Int} (h : isort l = []) : l = [] := by
  have := isort_len l
  rw [h] at this
  cases l <;> simp_all
theorem take_ev (l : List Float) (x y : C3) (H : Heap) (hl : l.length ≤ 100000) : clD EE (.p (.fn 68)) [vFloats l, vC x, vC y] H = some (vTake l x y, none) := by
  rw [clD_body _ _ _ _ _ _ (noP _) fn68]
  have key := take_lp l x y H [] hl
  simp only [rng, tkS, List.nil_append] at key
  unfold vTake takeL
  have w0 : ((0 : Nat) : Int) = 0 := rfl
  have w1 : ((0 + 1 : Nat) : Int) = 1 := rfl
  have w2 : ((0 + 1 + 1 : Nat) : Int) = 2 := rfl
  rw [w0, w1, w2] at key
  have hr := raw_len l x y
  by_cases h : okT l x y
  · obtain ⟨h0, h1, h2⟩ := id h
    simp only [if_pos h0, if_pos h1, if_pos h2] at key
    have e : seg (figOf 0 0 l) x.a y.a ++ seg (figOf 1 0 l) x.b y.b ++ seg (figOf 2 0 l) x.c y.c = raw l x y := rfl
    rw [e] at key
    rw [if_pos h]
    generalize raw l x y = R at *
    simp [tkE, tkX] at key
    by_cases hne : R = []
    · subst hne
      have hn := fun H id tot off => sort_none H id tot off
      simp at key
      simp [St.enter, enumFrom, subs, setSubs, key, hn, isort, idsK, frzK, allO]
    · have hn := fun H => sort_row H R (by unfold most; omega) hne
      have hl := isort_len R
      simp [St.enter, enumFrom, subs, setSubs, key, hn, hl, List.take_of_length_le]
  · rw [if_neg h]
    have kb : ∃ out : List Int, evD EE lp68_0 (tkE l x y H [] [] 0) = some (tkB H [] out) := by
      rw [key]
      by_cases h0 : okU (figOf 0 0 l).length x.a y.a
      · by_cases h1 : okU (figOf 1 0 l).length x.b y.b
        · have h2 : ¬ okU (figOf 2 0 l).length x.c y.c := fun h2 => h ⟨h0, h1, h2⟩
          simp only [if_pos h0, if_pos h1, if_neg h2]
          exact ⟨_, rfl⟩
        · simp only [if_pos h0, if_neg h1]
          exact ⟨_, rfl⟩
      · simp only [if_neg h0]
        exact ⟨_, rfl⟩
    obtain ⟨out, kb⟩ := kb
    clear key
    simp [tkE, tkB] at kb
    simp [St.enter, enumFrom, subs, setSubs, kb]
end Go.EnvOf

/- The layer queue: counting what was taken; the next ones. -/
namespace Go.EnvOf
open Go Go.Eng
set_option maxRecDepth 100000
/-! ### The float at a place -/
def atF (l : List Float) (i : Int) : Option Float := if 0 ≤ i ∧ i < l.length then some (rd l i) else none
theorem at_ev (l : List Float) (i : Int) (H : Heap) : clD EE (.p (.fn 125)) [vFloats l, vI i] H = some (.tup [match atF l i with | some f => vFloat f | none => .agg [vI 0, vI 0, vI 0], vB (atF l i).isSome], none) := by
  rw [clD_body _ _ _ _ _ _ (noP _) fn125]
  unfold atF
  by_cases h1 : i < 0
  · simp [St.enter, enumFrom, subs, setSubs, h1, show ¬ 0 ≤ i by omega]
  by_cases h2 : (l.length : Int) ≤ i
  · simp [St.enter, enumFrom, subs, setSubs, h1, h2, show ¬ i < l.length by omega]
  have hx := rd_get l i (by omega) (by omega)
  have hix := fun H k => ixs_int H encFloat (k := k) (s := 3) (by omega) hx rfl
  simp [St.enter, enumFrom, subs, setSubs, h1, h2, show 0 ≤ i ∧ i < l.length by omega, hix, encFloat]
def bump (s : C3) (c : Int) : C3 := if c = 0 then ⟨s.a + 1, s.b, s.c⟩ else if c = 1 then ⟨s.a, s.b + 1, s.c⟩ else if c = 2 then ⟨s.a, s.b, s.c + 1⟩ else s
def ofS (l : List Float) (s : C3) (x : Int) : C3 := match atF l x with | some f => bump s f.c | none => s
def ofL (l : List Float) (xs : List Int) : C3 := xs.foldl (ofS l) ⟨0, 0, 0⟩
def ofE (l : List Float) (xs : List Int) (H : Heap) (s : C3) (i : Nat) : St :=
  ⟨[(0, vFloats l), (4, .lptr 4 0), (5, .lptr 5 0), (10, sli xs), (11, vI xs.length), (12, vI i)], [(4, [vI 0, vI 0, vI 0]), (5, [vI s.a, vI s.b, vI s.c])], H, H.length, []⟩
def ofX (l : List Float) (xs : List Int) (H : Heap) (s : C3) : Ex × St :=
  (.exit 0, ⟨[(0, vFloats l), (4, .lptr 4 0), (5, .lptr 5 0), (10, sli xs), (11, vI xs.length), (12, vI xs.length), (13, vB false)], [(4, [vI 0, vI 0, vI 0]), (5, [vI s.a, vI s.b, vI s.c])], H, H.length, []⟩)
theorem of_lp (l : List Float) (xs : List Int) (H : Heap) (hl : l.length ≤ 100000) (hx : xs.length ≤ 1000000) :
    evD EE lp71_0 (ofE l xs H ⟨0, 0, 0⟩ 0) = some (ofX l xs H (ofL l xs)) := by
  have hf : ∀ (xs : List Int) (s : C3) (i : Nat), fold (fun s _ x => ofS l s x) s i xs = xs.foldl (ofS l) s := by
    intro xs
    induction xs with
    | nil => intro s i; rfl
    | cons x r ih => intro s i; simp only [fold, List.foldl_cons, ih]
  unfold ofL
  rw [← hf xs ⟨0, 0, 0⟩ 0]
  unfold lp71_0
  refine Eq.trans (evD_fold xs (ofE l xs H) (fun s i => (0 ≤ s.a ∧ s.a ≤ i) ∧ (0 ≤ s.b ∧ s.b ≤ i) ∧ (0 ≤ s.c ∧ s.c ≤ i)) (fun s _ x => ofS l s x) (ofX l xs H) (fun _ _ => rfl) ?_ ?_ ⟨0, 0, 0⟩ 0 (by simp) (Nat.zero_le _)) (by rw [List.drop_zero])
  · intro s i x hi hp
    have hlt := (List.getElem?_eq_some_iff.1 hp).1
    have hix := fun H k => ixs_nat H encI (k := k) (s := 1) hp rfl
    have ha := fun H => at_ev l x H
    have w : IntKind.i64.wrap ((i : Int) + 1) = ((i + 1 : Nat) : Int) := w64 (by omega) (by omega)
    have wa : IntKind.i64.wrap (s.a + 1) = s.a + 1 := w64 (by omega) (by omega)
    have wb : IntKind.i64.wrap (s.b + 1) = s.b + 1 := w64 (by omega) (by omega)
    have wc : IntKind.i64.wrap (s.c + 1) = s.c + 1 := w64 (by omega) (by omega)
    unfold ofS
    cases hat : atF l x with
    | none =>
      rw [hat] at ha
      refine ⟨?_, by simp only; omega⟩
      simp [ofE, hlt, hix, encI, subs, setSubs, ha, w]
    | some f =>
      rw [hat] at ha
      obtain ⟨f1, f2, f3⟩ := f
      simp only at ha ⊢
      unfold bump
      by_cases c1 : f1 < 0
      · rw [if_neg (by omega), if_neg (by omega), if_neg (by omega)]
        refine ⟨?_, by omega⟩
        simp [ofE, hlt, hix, encI, subs, setSubs, ha, w, show ¬ 0 ≤ f1 by omega]
      by_cases c2 : 3 ≤ f1
      · rw [if_neg (by omega), if_neg (by omega), if_neg (by omega)]
        refine ⟨?_, by omega⟩
        simp [ofE, hlt, hix, encI, subs, setSubs, ha, w, show 0 ≤ f1 by omega, show ¬ f1 < 3 by omega]
      have c : f1 = 0 ∨ f1 = 1 ∨ f1 = 2 := by omega
      rcases c with rfl | rfl | rfl
      · refine ⟨?_, by simp; omega⟩
        simp [ofE, hlt, hix, encI, subs, setSubs, ixaV, ha, w, wa]
      · refine ⟨?_, by simp; omega⟩
        simp [ofE, hlt, hix, encI, subs, setSubs, ixaV, ha, w, wb]
      · refine ⟨?_, by simp; omega⟩
        simp [ofE, hlt, hix, encI, subs, setSubs, ixaV, ha, w, wc]
  · intro s hi
    refine ⟨?_, by simp [ofX]⟩
    simp [ofE, ofX]
theorem of_ev (l : List Float) (xs : List Int) (H : Heap) (hl : l.length ≤ 100000) (hx : xs.length ≤ 1000000) : clD EE (.p (.fn 71)) [vFloats l, sli xs] H = some (vC (ofL l xs), none) := by
  rw [clD_body _ _ _ _ _ _ (noP _) fn71]
  have key := of_lp l xs H hl hx
  simp [ofE, ofX] at key
  simp [St.enter, enumFrom, subs, setSubs, key]

/-! ### Equal lists of numbers -/
def qB (H : Heap) : Ex × St := (.ret, ⟨[(4, vB false)], [], H, H.length, []⟩)
def qE (a b : List Int) (H : Heap) (i : Nat) : St := ⟨[(0, sli a), (1, sli b), (12, vI a.length), (13, vI i)], [], H, H.length, []⟩
def qX (a b : List Int) (H : Heap) : Ex × St := (.exit 0, ⟨[(0, sli a), (1, sli b), (12, vI a.length), (13, vI a.length), (14, vB false)], [], H, H.length, []⟩)
theorem eqInts_lp (a b : List Int) (H : Heap) (hl : a.length = b.length) (ha : a.length ≤ 1000000) : evD EE lp89_0 (qE a b H 0) = some (rng (step2 (fun x y => decide (x = y)) b (qB H)) (fun _ => qX a b H) () 0 a) := by
  unfold lp89_0
  refine evD_rng a (fun (_ : Unit) i => qE a b H i) (fun _ _ => True) _ (fun _ => qX a b H) (fun _ _ => rfl) ?_ ?_ () 0 trivial (Nat.zero_le _)
  · rintro _ i x - hx
    have hlt := (List.getElem?_eq_some_iff.1 hx).1
    have hy : b[i]? = some (b[i]'(by omega)) := List.getElem?_eq_getElem (by omega)
    generalize (b[i]'(by omega)) = y at hy
    have w : IntKind.i64.wrap ((i : Int) + 1) = ((i + 1 : Nat) : Int) := w64 (by omega) (by omega)
    have hix := fun H k => ixs_nat H encI (k := k) (s := 1) hx rfl
    have hiy := fun H k => ixs_nat H encI (k := k) (s := 1) hy rfl
    rw [step2_some hy]
    by_cases hxy : x = y
    · simp [qE, hlt, hix, hiy, hxy, w, encI, subs]
    · simp [qE, qB, hlt, hix, hiy, hxy, encI, subs]
  · rintro _ -
    simp [qE, qX]
theorem eqInts_ev (a b : List Int) (H : Heap) (ha : a.length ≤ 1000000) : clD EE (.p (.fn 89)) [sli a, sli b] H = some (vB (decide (a = b)), none) := by
  rw [clD_body _ _ _ _ _ _ (noP _) fn89]
  by_cases hl : a.length = b.length
  · have key := eqInts_lp a b H hl ha
    rw [rng_all2 (fun x y => decide (x = y)) b (qB H) (qX a b H) a 0 (by omega), List.drop_zero, all2_eq a b hl] at key
    have hl' : (a.length : Int) = b.length := by omega
    by_cases h : a = b
    · rw [if_pos (by simpa using h)] at key
      subst h
      simp [qE, qX] at key
      simp [St.enter, enumFrom, key]
    · rw [if_neg (by simpa using h)] at key
      simp [qE, qB, hl] at key
      simp [St.enter, enumFrom, hl', key, h]
  · have hl' : ¬ (a.length : Int) = b.length := by omega
    have h : a ≠ b := by rintro rfl; exact hl rfl
    simp [St.enter, enumFrom, hl', h]

/-! ### Are these the next ones? -/
def nextQ (l : List Float) (x : C3) (p : List Int) : Bool := decide (okT l x (ofL l p)) && decide (takeL l x (ofL l p) = p)
theorem next_ev (l : List Float) (x : C3) (p : List Int) (H : Heap) (hl : l.length ≤ 100000) (hp : p.length ≤ 1000000) : clD EE (.p (.fn 70)) [vFloats l, vC x, sli p] H = some (vB (nextQ l x p), none) := by
  rw [clD_body _ _ _ _ _ _ (noP _) fn70]
  have h1 := fun H => of_ev l p H hl hp
  have h2 := fun H => take_ev l x (ofL l p) H hl
  have hr := raw_len l x (ofL l p)
  have h3 := fun H => eqInts_ev (takeL l x (ofL l p)) p H (by unfold takeL; rw [isort_len]; omega)
  unfold nextQ
  generalize ofL l p = y at *
  unfold vTake at h2
  by_cases h : okT l x y
  · rw [if_pos h] at h2
    simp [St.enter, enumFrom, subs, setSubs, h1, h2, h3, h]
  · rw [if_neg h] at h2
    simp [St.enter, enumFrom, subs, setSubs, h1, h2, h3, h]
end Go.EnvOf

/- The layer queue: the law of taking twice, in plain terms. -/
namespace Go.EnvOf
open Go Go.Eng

/-! ### The sort -/
theorem insI_cnt (p : Int → Bool) (x : Int) : ∀ l, (insI x l).countP p = (x :: l).countP p
  | [] => rfl
  | y :: r => by
    unfold insI
    split
    · rfl
    · have := insI_cnt p x r
      simp only [List.countP_cons] at this ⊢
      omega
theorem isort_cnt (p : Int → Bool) : ∀ l, (isort l).countP p = l.countP p
  | [] => rfl
  | x :: r => by
    simp only [isort, insI_cnt, List.countP_cons, isort_cnt p r]
theorem isort_count (z : Int) (l : List Int) : (isort l).count z = l.count z := isort_cnt _ l
theorem insI_mem {x y : Int} : ∀ {l : List Int}, y ∈ insI x l → y = x ∨ y ∈ l
  | [], h => by simp [insI] at h; exact .inl h
  | z :: r, h => by
    unfold insI at h
    split at h
    · simpa using h
    · simp only [List.mem_cons] at h ⊢
      rcases h with h | h
      · exact .inr (.inl h)
      · rcases insI_mem h with h | h
        · exact .inl h
        · exact .inr (.inr h)
theorem insI_sorted (x : Int) : ∀ l : List Int, l.Pairwise (· ≤ ·) → (insI x l).Pairwise (· ≤ ·)
  | [], _ => by simp [insI]
  | y :: r, h => by
    unfold insI
    obtain ⟨h1, h2⟩ := List.pairwise_cons.1 h
    split
    · rename_i hxy
      refine List.pairwise_cons.2 ⟨fun z hz => ?_, h⟩
      rcases List.mem_cons.1 hz with rfl | hz
      · exact hxy
      · have := h1 z hz; omega
    · rename_i hxy
      refine List.pairwise_cons.2 ⟨fun z hz => ?_, insI_sorted x r h2⟩
      rcases insI_mem hz with rfl | hz
      · omega
      · exact h1 z hz
theorem isort_sorted : ∀ l : List Int, (isort l).Pairwise (· ≤ ·)
  | [] => .nil
  | x :: r => insI_sorted x _ (isort_sorted r)
theorem strict : ∀ {l : List Int}, l.Pairwise (· ≤ ·) → (∀ z, l.count z ≤ 1) → l.Pairwise (· < ·)
  | [], _, _ => .nil
  | x :: r, h, hc => by
    obtain ⟨h1, h2⟩ := List.pairwise_cons.1 h
    refine List.pairwise_cons.2 ⟨fun z hz => ?_, strict h2 fun z => ?_⟩
    · have h3 := h1 z hz
      have h4 : x ≠ z := by
        rintro rfl
        have h5 := hc x
        have h6 := List.count_pos_iff.2 hz
        rw [List.count_cons_self] at h5
        omega
      omega
    · have := hc z
      rw [List.count_cons] at this
      omega

/-! ### Which places are of a class -/
def hitC (c : Int) (i : Nat) (l : List Float) (z : Int) : Bool := decide ((i : Int) ≤ z) && decide (z < i + l.length) && decide ((rd l (z - i)).c = c)
theorem rd_cons {α : Type} [Inhabited α] (x : α) (r : List α) (k : Int) (h : 0 < k) : rd (x :: r) k = rd r (k - 1) := by
  unfold rd
  have e : k.toNat = (k - 1).toNat + 1 := by omega
  rw [e]; simp
theorem rd_zero {α : Type} [Inhabited α] (x : α) (r : List α) : rd (x :: r) 0 = x := rfl
theorem figOf_cnt (c z : Int) : ∀ (l : List Float) (i : Nat), (figOf c i l).count z = if hitC c i l z = true then 1 else 0
  | [], i => by
    have : hitC c i [] z = false := by unfold hitC; simp; intros; omega
    simp [figOf, this]
  | x :: r, i => by
    have ih := figOf_cnt c z r (i + 1)
    simp only [figOf, List.count_append, ih]
    by_cases hz : z = i
    · subst hz
      have e : hitC c (i + 1) r i = false := by unfold hitC; simp; intros; omega
      have e2 : hitC c i (x :: r) i = decide (x.c = c) := by
        unfold hitC
        rw [Int.sub_self, rd_zero]
        simp; intros; omega
      rw [e, e2]
      by_cases hc : x.c = c <;> simp [hc]
    · have e2 : hitC c i (x :: r) z = hitC c (i + 1) r z := by
        unfold hitC
        by_cases h1 : (i : Int) < z
        · rw [rd_cons x r (z - i) (by omega)]
          have a1 : z - (i : Int) - 1 = z - ((i + 1 : Nat) : Int) := by omega
          rw [a1]
          congr 2
          · simp; constructor <;> intros <;> omega
          · simp only [List.length_cons]; congr 1; apply propext; constructor <;> intros <;> omega
        · have a1 : ¬ (i : Int) ≤ z := by omega
          have a2 : ¬ ((i + 1 : Nat) : Int) ≤ z := by omega
          simp only [a1, a2, decide_false, Bool.false_and]
      rw [e2]
      have : ((if x.c = c then [(i : Int)] else []) : List Int).count z = 0 := by
        split
        · simp [List.count_cons]; omega
        · rfl
      omega
theorem hitC_one {c d i z} {l : List Float} (h1 : hitC c i l z = true) (h2 : hitC d i l z = true) : c = d := by
  unfold hitC at h1 h2; simp at h1 h2; omega
theorem seg_sub (F : List Int) (u w : Int) : (seg F u w).Sublist F := (List.take_sublist _ _).trans (List.drop_sublist _ _)
theorem seg_hit {c : Int} {l : List Float} {u w x : Int} (h : x ∈ seg (figOf c 0 l) u w) : hitC c 0 l x = true := by
  have h1 := List.count_pos_iff.2 ((seg_sub _ _ _).mem h)
  rw [figOf_cnt] at h1
  split at h1
  · assumption
  · omega
theorem raw_one (l : List Float) (x y : C3) (z : Int) : (raw l x y).count z ≤ 1 := by
  unfold raw
  simp only [List.count_append]
  have h0 := (seg_sub (figOf 0 0 l) x.a y.a).count_le z
  have h1 := (seg_sub (figOf 1 0 l) x.b y.b).count_le z
  have h2 := (seg_sub (figOf 2 0 l) x.c y.c).count_le z
  rw [figOf_cnt] at h0 h1 h2
  have c01 := @hitC_one 0 1 0 z l
  have c02 := @hitC_one 0 2 0 z l
  have c12 := @hitC_one 1 2 0 z l
  cases e0 : hitC 0 0 l z <;> cases e1 : hitC 1 0 l z <;> cases e2 : hitC 2 0 l z <;> simp [e0, e1, e2] at h0 h1 h2 c01 c02 c12 <;> omega
theorem takeL_strict (l : List Float) (x y : C3) : (takeL l x y).Pairwise (· < ·) :=
  strict (isort_sorted _) fun z => by unfold takeL; rw [isort_count]; exact raw_one l x y z

/-! ### Counting what was taken -/
theorem ofL_fold (l : List Float) : ∀ (xs : List Int) (s : C3), xs.foldl (ofS l) s = ⟨s.a + xs.countP (hitC 0 0 l), s.b + xs.countP (hitC 1 0 l), s.c + xs.countP (hitC 2 0 l)⟩
  | [], s => by simp
  | x :: r, s => by
    rw [List.foldl_cons, ofL_fold l r]
    simp only [List.countP_cons]
    unfold ofS atF hitC bump
    by_cases h : 0 ≤ x ∧ x < l.length
    · rw [if_pos h]
      have h1 : decide (((0 : Nat) : Int) ≤ x) = true := by simpa using h.1
      have h2 : decide (x < ((0 : Nat) : Int) + l.length) = true := by simpa using h.2
      have h3 : x - ((0 : Nat) : Int) = x := by omega
      simp only [h1, h2, h3, Bool.true_and, decide_eq_true_eq]
      generalize (rd l x).c = c
      by_cases c0 : c = 0
      · subst c0; simp; omega
      by_cases c1 : c = 1
      · subst c1; simp; omega
      by_cases c2 : c = 2
      · subst c2; simp; omega
      simp [c0, c1, c2]
    · rw [if_neg h]
      have h' : (0 ≤ x ∧ x < (l.length : Int)) = False := eq_false h
      simp [h']
theorem seg_same (c : Int) (l : List Float) (u w : Int) : (seg (figOf c 0 l) u w).countP (hitC c 0 l) = (seg (figOf c 0 l) u w).length := List.countP_eq_length.2 fun _ h => seg_hit h
theorem seg_other {c d : Int} (l : List Float) (u w : Int) (h : c ≠ d) : (seg (figOf c 0 l) u w).countP (hitC d 0 l) = 0 := List.countP_eq_zero.2 fun _ hx hd => h (hitC_one (seg_hit hx) hd)
theorem ofL_take (l : List Float) (x y : C3) (h : okT l x y) : ofL l (takeL l x y) = y := by
  obtain ⟨h0, h1, h2⟩ := h
  have s0 := seg_len h0
  have s1 := seg_len h1
  have s2 := seg_len h2
  unfold okU at h0 h1 h2
  obtain ⟨a, b, c⟩ := y
  simp only at *
  unfold ofL takeL
  rw [ofL_fold]
  simp only [isort_cnt]
  unfold raw
  simp only [List.countP_append, seg_same, seg_other l _ _ (show (0 : Int) ≠ 1 by decide), seg_other l _ _ (show (0 : Int) ≠ 2 by decide), seg_other l _ _ (show (1 : Int) ≠ 0 by decide), seg_other l _ _ (show (1 : Int) ≠ 2 by decide), seg_other l _ _ (show (2 : Int) ≠ 0 by decide), seg_other l _ _ (show (2 : Int) ≠ 1 by decide), s0, s1, s2]
  simp only [C3.mk.injEq]
  omega
theorem next_take (l : List Float) (x y : C3) (h : okT l x y) : nextQ l x (takeL l x y) = true := by
  unfold nextQ
  rw [ofL_take l x y h]
  simp [h]

/-! ### Twice -/
def plus (x y : C3) : C3 := ⟨x.a + y.a, x.b + y.b, x.c + y.c⟩
theorem held_id {n lo hi : Int} (h1 : lo ≤ n) (h2 : n ≤ hi) : held n lo hi = n := by unfold held; omega
theorem addC_eq {x y : C3} (ha : 0 ≤ x.a ∧ x.a ≤ 100000) (hb : 0 ≤ x.b ∧ x.b ≤ 100000) (hc : 0 ≤ x.c ∧ x.c ≤ 100000) (ya : 0 ≤ y.a ∧ y.a ≤ 100000) (yb : 0 ≤ y.b ∧ y.b ≤ 100000) (yc : 0 ≤ y.c ∧ y.c ≤ 100000) : addC x y = plus x y := by
  unfold addC zipF plus
  simp only [held, big, C3.mk.injEq]
  omega
theorem okT_small {l : List Float} {x y : C3} (hl : l.length ≤ 100000) (h : okT l x y) : addC x y = plus x y := by
  obtain ⟨h0, h1, h2⟩ := h
  unfold okU at h0 h1 h2
  have g0 := figOf_len 0 l 0
  have g1 := figOf_len 1 l 0
  have g2 := figOf_len 2 l 0
  exact addC_eq (by omega) (by omega) (by omega) (by omega) (by omega) (by omega)
theorem okT_plus {l : List Float} {x y z : C3} (h : okT l x y) (g : okT l (plus x y) z) : okT l x (plus y z) := by
  unfold okT okU plus at *
  simp only at *
  omega
theorem plus_small {l : List Float} {x y z : C3} (hl : l.length ≤ 100000) (h : okT l x y) (g : okT l (plus x y) z) : addC y z = plus y z := by
  have g0 := figOf_len 0 l 0
  have g1 := figOf_len 1 l 0
  have g2 := figOf_len 2 l 0
  unfold okT okU plus at *
  simp only at *
  exact addC_eq (by omega) (by omega) (by omega) (by omega) (by omega) (by omega)
theorem seg_plus (F : List Int) {u v w : Int} (hu : 0 ≤ u) (hv : 0 ≤ v) (hw : 0 ≤ w) : seg F u (v + w) = seg F u v ++ seg F (u + v) w := by
  unfold seg
  have e1 : (v + w).toNat = v.toNat + w.toNat := by omega
  have e2 : (u + v).toNat = u.toNat + v.toNat := by omega
  rw [e1, e2, List.take_add, List.drop_drop]
theorem twice_count {l : List Float} {x y z : C3} (h : okT l x y) (g : okT l (plus x y) z) (p : Int → Bool) : (takeL l x (plus y z)).countP p = (takeL l x y).countP p + (takeL l (plus x y) z).countP p := by
  unfold okT okU plus at *
  simp only at h g
  unfold takeL
  simp only [isort_cnt]
  unfold raw
  simp only [seg_plus _ h.1.1 h.1.2.1 g.1.2.1, seg_plus _ h.2.1.1 h.2.1.2.1 g.2.1.2.1, seg_plus _ h.2.2.1 h.2.2.2.1 g.2.2.2.1, List.countP_append]
  omega
theorem twice_len {l : List Float} {x y z : C3} (h : okT l x y) (g : okT l (plus x y) z) : (takeL l x (plus y z)).length = (takeL l x y).length + (takeL l (plus x y) z).length := by
  have := twice_count h g (fun _ => true)
  simpa using this
theorem twice_one {l : List Float} {x y z : C3} (h : okT l x y) (g : okT l (plus x y) z) {n : Int} (hn : n ∈ takeL l x (plus y z)) : (takeL l x y).count n + (takeL l (plus x y) z).count n = 1 := by
  have h1 := twice_count h g (· == n)
  have h2 : (takeL l x (plus y z)).count n ≤ 1 := by unfold takeL; rw [isort_count]; exact raw_one l x _ n
  have h3 := List.count_pos_iff.2 hn
  unfold List.count at h2 h3 ⊢
  omega
end Go.EnvOf

/- Areas: what fits. -/
namespace Go.EnvOf
open Go Go.Eng
set_option maxRecDepth 100000
theorem awake24 : clD EE (.p (.fn 81)) [] [] = some (.p (.bool true), none) := by
  rw [clD_iff]; exact ⟨200, by kernel_rfl⟩

/-! ### Where may it go? -/
def bitV (n m : Int) : Int := IntKind.i64.wrap (BitVec.ofInt 64 n &&& BitVec.ofInt 64 m).toNat
theorem and_v (n m : Int) : binV .and (vI n) (vI m) = some (vI (bitV n m)) := rfl
def bitB (m n : Int) : Bool := !decide (bitV n m = 0)
theorem btop_ev (n : Int) (H : Heap) : clD EE (.p (.fn 218)) [vI n] H = some (vB (bitB 1 n), none) := by
  rw [clD_body _ _ _ _ _ _ (noP _) fn218]
  have h := and_v n 1
  simp [St.enter, enumFrom, h, bitB]
theorem bbot_ev (n : Int) (H : Heap) : clD EE (.p (.fn 219)) [vI n] H = some (vB (bitB 2 n), none) := by
  rw [clD_body _ _ _ _ _ _ (noP _) fn219]
  have h := and_v n 2
  simp [St.enter, enumFrom, h, bitB]
theorem may_ev (x : Float) (k : Nat) (p : Int → Bool) (h : ∀ n H, clD EE (.p (.fn k)) [vI n] H = some (vB (p n), none)) (H : Heap) : clD EE (.p (.fn 217)) [vFloat x, .p (.fn k)] H = some (vB (p x.w), none) := by
  rw [clD_body _ _ _ _ _ _ (noP _) fn217]
  simp [St.enter, enumFrom, subs, h]
def topB (x : Float) : Bool := bitB 1 x.w
def botB (x : Float) : Bool := bitB 2 x.w
theorem top_ev (x : Float) (H : Heap) : clD EE (.p (.fn 171)) [vFloat x] H = some (vB (topB x), none) := by
  rw [clD_body _ _ _ _ _ _ (noP _) fn171]
  have h := fun H => may_ev x _ _ btop_ev H
  simp [St.enter, enumFrom, subs, h, topB]
theorem bot_ev (x : Float) (H : Heap) : clD EE (.p (.fn 172)) [vFloat x] H = some (vB (botB x), none) := by
  rw [clD_body _ _ _ _ _ _ (noP _) fn172]
  have h := fun H => may_ev x _ _ bbot_ev H
  simp [St.enter, enumFrom, subs, h, botB]

/-! ### How high are these? -/
abbrev fz : Int := 1125899906842624
def hz (n : Int) : Int := min (max n 0) fz
theorem hz_ev (n : Int) (H : Heap) : clD EE (.p (.fn 216)) [vI n] H = some (vI (hz n), none) := by
  rw [clD_body _ _ _ _ _ _ (noP _) fn216]
  simp [St.enter, enumFrom, hz]
theorem hz_in (n : Int) : 0 ≤ hz n ∧ hz n ≤ fz := by unfold hz fz; omega
def hiS (l : List Float) (sep : Int) (s : Int) (x : Int) : Int := match atF l x with | some f => hz (s + hz f.h + hz sep) | none => s
def highQ (l : List Float) (xs : List Int) (sep : Int) : Int := xs.foldl (hiS l sep) 0
def fhE (l : List Float) (xs : List Int) (sep : Int) (H : Heap) (s : Int) (i : Nat) : St :=
  ⟨[(0, vFloats l), (2, vI sep), (7, .p (.fn 216)), (8, vI s), (13, sli xs), (14, vI xs.length), (15, vI i)], [], H, H.length, []⟩
def fhX (l : List Float) (xs : List Int) (sep : Int) (H : Heap) (s : Int) : Ex × St :=
  (.exit 0, ⟨[(0, vFloats l), (2, vI sep), (7, .p (.fn 216)), (8, vI s), (13, sli xs), (14, vI xs.length), (15, vI xs.length), (16, vB false)], [], H, H.length, []⟩)
theorem foldG {σ α : Type} (f : σ → α → σ) : ∀ (l : List α) (s : σ) (i : Nat), fold (fun s _ x => f s x) s i l = l.foldl f s
  | [], _, _ => rfl
  | x :: r, s, i => by simp only [fold, List.foldl_cons, foldG f r]
theorem fh_lp (l : List Float) (xs : List Int) (sep : Int) (H : Heap) (hx : xs.length ≤ 1000000) : evD EE lp170_0 (fhE l xs sep H 0 0) = some (fhX l xs sep H (highQ l xs sep)) := by
  unfold lp170_0
  refine Eq.trans (evD_fold xs (fhE l xs sep H) (fun s _ => 0 ≤ s ∧ s ≤ fz) (fun s _ x => hiS l sep s x) (fhX l xs sep H) (fun _ _ => rfl) ?_ ?_ 0 0 (by simp) (Nat.zero_le _)) (by rw [List.drop_zero, foldG]; rfl)
  · intro s i x hi hp
    have hlt := (List.getElem?_eq_some_iff.1 hp).1
    have hix := fun H k => ixs_nat H encI (k := k) (s := 1) hp rfl
    have ha := fun H => at_ev l x H
    have w : IntKind.i64.wrap ((i : Int) + 1) = ((i + 1 : Nat) : Int) := w64 (by omega) (by omega)
    unfold hiS
    cases hat : atF l x with
    | none =>
      rw [hat] at ha
      refine ⟨?_, hi⟩
      simp [fhE, hlt, hix, encI, subs, setSubs, ha, w]
    | some f =>
      rw [hat] at ha
      simp only at ha ⊢
      refine ⟨?_, hz_in _⟩
      have h1 := hz_in f.h
      have h2 := hz_in sep
      simp only [fz] at h1 h2 hi
      have w1 : IntKind.i64.wrap (s + hz f.h) = s + hz f.h := w64 (by omega) (by omega)
      have w2 : IntKind.i64.wrap (s + hz f.h + hz sep) = s + hz f.h + hz sep := w64 (by omega) (by omega)
      simp [fhE, hlt, hix, encI, subs, setSubs, ha, w, hz_ev, w1, w2]
  · intro s hi
    refine ⟨?_, by simp [fhX]⟩
    simp [fhE, fhX]
theorem fhigh_ev (l : List Float) (xs : List Int) (sep : Int) (H : Heap) (hx : xs.length ≤ 1000000) : clD EE (.p (.fn 170)) [vFloats l, sli xs, vI sep] H = some (vI (highQ l xs sep), none) := by
  rw [clD_body _ _ _ _ _ _ (noP _) fn170]
  have k := fh_lp l xs sep H hx
  simp [fhE, fhX] at k
  simp [St.enter, enumFrom, k]

/-! ### Does it fit? -/
def mayAt (p : Float → Bool) (l : List Float) (x : Int) : Bool := match atF l x with | some f => p f | none => false
def fitsF (many maxH : Int) (p : Float → Bool) (sep : Int) (l : List Float) (xs : List Int) : Bool :=
  decide ((xs.length : Int) ≤ many) && (xs.all (mayAt p l) && decide (highQ l xs sep ≤ maxH))
abbrev cPlace (many maxH : Int) (k : Nat) : List V := [vI many, vI maxH, .p (.fn k)]
def ftE (g : Geom) (many maxH : Int) (k : Nat) (l : List Float) (xs : List Int) (H : Heap) (i : Nat) : St :=
  ⟨[(2, vFloats l), (3, sli xs), (4, .lptr 4 0), (5, .lptr 5 0), (18, sli xs), (19, vI xs.length), (20, vI i)], [(4, cPlace many maxH k), (5, cGeom g)], H, H.length, []⟩
def ftX (g : Geom) (many maxH : Int) (k : Nat) (l : List Float) (xs : List Int) (H : Heap) : Ex × St :=
  (.exit 0, ⟨[(2, vFloats l), (3, sli xs), (4, .lptr 4 0), (5, .lptr 5 0), (18, sli xs), (19, vI xs.length), (20, vI xs.length), (21, vB false)], [(4, cPlace many maxH k), (5, cGeom g)], H, H.length, []⟩)
def ftB (H : Heap) : Ex × St := (.ret, ⟨[(8, vB false)], [], H, H.length, []⟩)
theorem ft_lp (g : Geom) (many maxH : Int) (k : Nat) (p : Float → Bool) (hp : ∀ x H, clD EE (.p (.fn k)) [vFloat x] H = some (vB (p x), none)) (l : List Float) (xs : List Int) (H : Heap) (hx : xs.length ≤ 1000000) :
    evD EE lp136_0 (ftE g many maxH k l xs H 0) = some (if xs.any (fun x => !mayAt p l x) = true then ftB H else ftX g many maxH k l xs H) := by
  unfold lp136_0
  refine Eq.trans (evD_rng xs (fun (_ : Unit) i => ftE g many maxH k l xs H i) (fun _ _ => True) (stepB (fun x => !mayAt p l x) (ftB H)) (fun _ => ftX g many maxH k l xs H) (fun _ _ => rfl) ?_ ?_ () 0 trivial (Nat.zero_le _)) (by rw [List.drop_zero, rng_any])
  · rintro _ i x - hx2
    have hlt := (List.getElem?_eq_some_iff.1 hx2).1
    have hix := fun H k => ixs_nat H encI (k := k) (s := 1) hx2 rfl
    have ha := fun H => at_ev l x H
    have w : IntKind.i64.wrap ((i : Int) + 1) = ((i + 1 : Nat) : Int) := w64 (by omega) (by omega)
    cases hat : atF l x with
    | none =>
      rw [hat] at ha
      have hm : mayAt p l x = false := by unfold mayAt; rw [hat]
      simp [stepB, hm, ftE, ftB, hlt, hix, encI, subs, setSubs, ha, w]
    | some f =>
      rw [hat] at ha
      have hm : mayAt p l x = p f := by unfold mayAt; rw [hat]
      simp only at ha
      have hpf := fun H => hp f H
      cases hb : p f with
      | true =>
        rw [hb] at hpf hm
        simp [stepB, hm, ftE, ftB, hlt, hix, encI, subs, setSubs, ha, w, hpf]
      | false =>
        rw [hb] at hpf hm
        simp [stepB, hm, ftE, ftB, hlt, hix, encI, subs, setSubs, ha, w, hpf]
  · rintro _ -
    refine ⟨?_, by simp [ftX]⟩
    simp [ftE, ftX]
theorem fits_ev (g : Geom) (many maxH : Int) (k : Nat) (p : Float → Bool) (hp : ∀ x H, clD EE (.p (.fn k)) [vFloat x] H = some (vB (p x), none)) (l : List Float) (xs : List Int) (H : Heap) (hx : xs.length ≤ 1000000) :
    clD EE (.p (.fn 136)) [.agg (cPlace many maxH k), vGeom g, vFloats l, sli xs] H = some (vB (fitsF many maxH p g.sep l xs), none) := by
  rw [clD_body _ _ _ _ _ _ (noP _) fn136]
  have key := ft_lp g many maxH k p hp l xs H hx
  have hh := fun H => fhigh_ev l xs g.sep H hx
  unfold fitsF
  have hany : xs.any (fun x => !mayAt p l x) = !xs.all (mayAt p l) := by rw [List.any_eq_not_all_not]; simp only [Bool.not_not]
  rw [hany] at key
  by_cases h1 : many < (xs.length : Int)
  · simp [St.enter, enumFrom, subs, setSubs, h1, show ¬ (xs.length : Int) ≤ many by omega]
  cases hall : xs.all (mayAt p l) with
  | false =>
    rw [hall] at key
    simp [ftE, ftB] at key
    simp [St.enter, enumFrom, subs, setSubs, h1, key]
  | true =>
    rw [hall] at key
    simp [ftE, ftX] at key
    simp [St.enter, enumFrom, subs, setSubs, h1, key, hh, show (xs.length : Int) ≤ many by omega]
end Go.EnvOf

/- Areas: all pairs. -/
namespace Go.EnvOf
open Go Go.Eng
set_option maxRecDepth 100000
def someC (m : C3) : C3 := ⟨min m.a 16, min m.b 16, min m.c 16⟩
theorem some_ev (m : C3) (H : Heap) : clD EE (.p (.fn 133)) [vC m] H = some (vC (someC m), none) := by
  rw [clD_body _ _ _ _ _ _ (noP _) fn133]
  have w1 : IntKind.i64.wrap 1 = 1 := by decide
  have w2 : IntKind.i64.wrap 2 = 2 := by decide
  have w3 : IntKind.i64.wrap 3 = 3 := by decide
  simp [St.enter, enumFrom, lp133_0, evD_loop, ixaV, subs, setSubs, w1, w2, w3, someC]
abbrev topP (g : Geom) : List V := cPlace g.topMany g.topMost 171
abbrev botP (g : Geom) : List V := cPlace g.botMany g.botMost 172
theorem atop_ev (g : Geom) (H : Heap) : clD EE (.p (.fn 134)) [vGeom g] H = some (.agg (topP g), none) := by
  rw [clD_body _ _ _ _ _ _ (noP _) fn134]
  simp [St.enter, enumFrom, subs, setSubs]
theorem abot_ev (g : Geom) (H : Heap) : clD EE (.p (.fn 135)) [vGeom g] H = some (.agg (botP g), none) := by
  rw [clD_body _ _ _ _ _ _ (noP _) fn135]
  simp [St.enter, enumFrom, subs, setSubs]
def fitT (g : Geom) (l : List Float) (xs : List Int) : Bool := fitsF g.topMany g.topMost topB g.sep l xs
def fitB (g : Geom) (l : List Float) (xs : List Int) : Bool := fitsF g.botMany g.botMost botB g.sep l xs

abbrev Pr : Type := List Int × List Int
def encP (p : Pr) : List PV := [.sl (p.1.map encI), .sl (p.2.map encI)]
@[simp] theorem encP_len (x : Pr) : (encP x).length = 2 := rfl
abbrev vPs (l : List Pr) : V := .p (.sl (l.map encP))
abbrev vPair (p : Pr) : V := .agg [sli p.1, sli p.2]
theorem afits_ev (g : Geom) (l : List Float) (p : Pr) (H : Heap) (h1 : p.1.length ≤ 1000000) (h2 : p.2.length ≤ 1000000) : clD EE (.p (.fn 83)) [vGeom g, vFloats l, vPair p] H = some (vB (fitT g l p.1 && fitB g l p.2), none) := by
  rw [clD_body _ _ _ _ _ _ (noP _) fn83]
  have a := fun H => atop_ev g H
  have b := fun H => abot_ev g H
  have f1 := fun H => fits_ev g g.topMany g.topMost _ topB top_ev l p.1 H h1
  have f2 := fun H => fits_ev g g.botMany g.botMost _ botB bot_ev l p.2 H h2
  have e1 : fitsF g.topMany g.topMost topB g.sep l p.1 = fitT g l p.1 := rfl
  have e2 : fitsF g.botMany g.botMost botB g.sep l p.2 = fitB g l p.2 := rfl
  rw [e1] at f1
  rw [e2] at f2
  cases h : fitT g l p.1 with
  | true =>
    rw [h] at f1
    simp [St.enter, enumFrom, subs, setSubs, a, b, f1, f2]
  | false =>
    rw [h] at f1
    simp [St.enter, enumFrom, subs, setSubs, a, b, f1, f2]

/-! ### All pairs -/
def inner (g : Geom) (l : List Float) (h c d : C3) : List Pr := if okT l (addC h c) d ∧ fitB g l (takeL l (addC h c) d) = true then [(takeL l h c, takeL l (addC h c) d)] else []
def outer (g : Geom) (l : List Float) (h m c : C3) : List Pr := if okT l h c ∧ fitT g l (takeL l h c) = true then (upL (readyC c m) (max (min g.botMany 48) 0)).flatMap (inner g l h c) else []
def allP (g : Geom) (l : List Float) (h m : C3) : List Pr := (upL (someC m) (max (min g.topMany 48) 0)).flatMap (outer g l h (someC m))
theorem upL_len (x : C3) (n : Int) : (upL x n).length ≤ 35937 := by
  have h1 := List.length_filter_le (smallC n) (R1 (capC x) 0)
  have h2 := R1_len (m := capC x) (by unfold capC; simp only; omega) (by unfold capC; simp only; omega) (by unfold capC; simp only; omega) (Int.le_refl 0)
  unfold upL
  omega
theorem fold_app {α β : Type} (f : α → List β) : ∀ (l : List α) (o : List β) (i : Nat), fold (fun o _ x => o ++ f x) o i l = o ++ l.flatMap f
  | [], o, i => by simp [fold]
  | x :: r, o, i => by simp only [fold, fold_app f r, List.flatMap_cons, List.append_assoc]
abbrev rP (H : Heap) (o : List Pr) : V := .row H.length o.length 0 o.length
abbrev hP (H : Heap) (o : List Pr) : Heap := H ++ [.row 2 (upV (o.map encP))]
def aiE (g : Geom) (l : List Float) (h m c : C3) (A : List Int) (ks ds : List C3) (i : Nat) (H : Heap) (o : List Pr) (j : Nat) : St :=
  ⟨[(1, vFloats l), (4, .lptr 4 0), (6, .lptr 6 0), (7, .lptr 7 0), (9, rP H o), (10, .lptr 10 0), (11, .lptr 11 0), (13, .lptr 13 0), (14, sli A), (31, vCs ks), (32, vI ks.length), (33, vI i), (61, vCs ds), (62, vI ds.length), (63, vI j)],
    [(4, cGeom g), (6, lC h), (7, lC m), (10, topP g), (11, botP g), (13, lC c)], hP H o, H.length, []⟩
def aiX (g : Geom) (l : List Float) (h m c : C3) (A : List Int) (ks ds : List C3) (i : Nat) (H : Heap) (o : List Pr) : Ex × St :=
  (.exit 2, ⟨[(1, vFloats l), (4, .lptr 4 0), (6, .lptr 6 0), (7, .lptr 7 0), (9, rP H o), (10, .lptr 10 0), (11, .lptr 11 0), (13, .lptr 13 0), (14, sli A), (31, vCs ks), (32, vI ks.length), (33, vI i), (61, vCs ds), (62, vI ds.length), (63, vI ds.length), (64, vB false)],
    [(4, cGeom g), (6, lC h), (7, lC m), (10, topP g), (11, botP g), (13, lC c)], hP H o, H.length, []⟩)
theorem ai_lp (g : Geom) (l : List Float) (h m c : C3) (ks ds : List C3) (i : Nat) (H : Heap) (o : List Pr) (hl : l.length ≤ 100000) (hd : ds.length ≤ 100000) (ho : o.length ≤ 2000000000) :
    evD EE lp82_0 (aiE g l h m c (takeL l h c) ks ds i H o 0) = some (aiX g l h m c (takeL l h c) ks ds i H (o ++ ds.flatMap (inner g l h c))) := by
  unfold lp82_0
  refine Eq.trans (evD_fold ds (aiE g l h m c (takeL l h c) ks ds i H) (fun o j => o.length ≤ 2000000000 + j) (fun o _ d => o ++ inner g l h c d) (aiX g l h m c (takeL l h c) ks ds i H) (fun _ _ => rfl) ?_ ?_ o 0 (by omega) (Nat.zero_le _)) (by rw [List.drop_zero, fold_app])
  · intro o j d hi hp
    have hlt := (List.getElem?_eq_some_iff.1 hp).1
    have hix := fun H k => ixs_nat H encC (k := k) (s := 3) hp rfl
    have w : IntKind.i64.wrap ((j : Int) + 1) = ((j + 1 : Nat) : Int) := w64 (by omega) (by omega)
    have ha := fun H => add_ev h c H
    have ht := fun H => take_ev l (addC h c) d H hl
    have hr := raw_len l (addC h c) d
    have hf := fun H => fits_ev g g.botMany g.botMost _ botB bot_ev l (takeL l (addC h c) d) H (by unfold takeL; rw [isort_len]; omega)
    have e2 : fitsF g.botMany g.botMost botB g.sep l (takeL l (addC h c) d) = fitB g l (takeL l (addC h c) d) := rfl
    have hm : o.length + 1 < most := by unfold most; omega
    rw [e2] at hf
    unfold inner
    unfold vTake at ht
    generalize takeL l h c = A
    by_cases o1 : okT l (addC h c) d
    · rw [if_pos o1] at ht
      generalize takeL l (addC h c) d = B at *
      cases hb : fitB g l B with
      | true =>
        rw [hb] at hf
        rw [if_pos ⟨o1, rfl⟩]
        refine ⟨?_, by simp; omega⟩
        simp [aiE, hlt, hix, encC, encP, subs, setSubs, ha, ht, hf, w, hm]
      | false =>
        rw [hb] at hf
        rw [if_neg (by simp)]
        refine ⟨?_, by simp; omega⟩
        simp [aiE, hlt, hix, encC, subs, setSubs, ha, ht, hf, w]
    · rw [if_neg o1] at ht
      rw [if_neg (fun h => o1 h.1)]
      refine ⟨?_, by simp; omega⟩
      simp [aiE, hlt, hix, encC, subs, setSubs, ha, ht, w]
  · intro o hi
    refine ⟨?_, by simp [aiX]⟩
    simp [aiE, aiX]
end Go.EnvOf

/- Areas: all pairs; the law of their order. -/
namespace Go.EnvOf
open Go Go.Eng
set_option maxRecDepth 100000
theorem inner_len (g : Geom) (l : List Float) (h c d : C3) : (inner g l h c d).length ≤ 1 := by unfold inner; split <;> simp
theorem outer_len (g : Geom) (l : List Float) (h m c : C3) : (outer g l h m c).length ≤ 35937 := by
  unfold outer
  split
  · have h1 := flat_len (inner g l h c) 1 (fun d => inner_len g l h c d) (upL (readyC c m) (max (min g.botMany 48) 0))
    have h2 := upL_len (readyC c m) (max (min g.botMany 48) 0)
    omega
  · simp
def aoE (g : Geom) (l : List Float) (h m : C3) (ks : List C3) (H : Heap) (o : List Pr) (i : Nat) : St :=
  ⟨[(1, vFloats l), (4, .lptr 4 0), (6, .lptr 6 0), (7, .lptr 7 0), (9, rP H o), (10, .lptr 10 0), (11, .lptr 11 0), (31, vCs ks), (32, vI ks.length), (33, vI i)],
    [(4, cGeom g), (6, lC h), (7, lC m), (10, topP g), (11, botP g)], hP H o, H.length, []⟩
def aoX (g : Geom) (l : List Float) (h m : C3) (ks : List C3) (H : Heap) (o : List Pr) : Ex × St :=
  (.exit 0, ⟨[(1, vFloats l), (4, .lptr 4 0), (6, .lptr 6 0), (7, .lptr 7 0), (9, rP H o), (10, .lptr 10 0), (11, .lptr 11 0), (31, vCs ks), (32, vI ks.length), (33, vI ks.length), (34, vB false)],
    [(4, cGeom g), (6, lC h), (7, lC m), (10, topP g), (11, botP g)], hP H o, H.length, []⟩)
theorem ao_lp (g : Geom) (l : List Float) (h m : C3) (ks : List C3) (H : Heap) (hl : l.length ≤ 100000) (hk : ks.length ≤ 35937) :
    evD EE lp82_1 (aoE g l h m ks H [] 0) = some (aoX g l h m ks H (ks.flatMap (outer g l h m))) := by
  unfold lp82_1
  refine Eq.trans (evD_fold ks (aoE g l h m ks H) (fun o i => o.length ≤ 40000 * i) (fun o _ c => o ++ outer g l h m c) (aoX g l h m ks H) (fun _ _ => rfl) ?_ ?_ [] 0 (by simp) (Nat.zero_le _)) (by rw [List.drop_zero, fold_app, List.nil_append])
  · intro o i c hi hp
    have hlt := (List.getElem?_eq_some_iff.1 hp).1
    have hix := fun H k => ixs_nat H encC (k := k) (s := 3) hp rfl
    have w : IntKind.i64.wrap ((i : Int) + 1) = ((i + 1 : Nat) : Int) := w64 (by omega) (by omega)
    have hol := outer_len g l h m c
    have ht := fun H => take_ev l h c H hl
    have hr := raw_len l h c
    have hf := fun H => fits_ev g g.topMany g.topMost _ topB top_ev l (takeL l h c) H (by unfold takeL; rw [isort_len]; omega)
    have e2 : fitsF g.topMany g.topMost topB g.sep l (takeL l h c) = fitT g l (takeL l h c) := rfl
    rw [e2] at hf
    have hrd := fun H => ready_ev c m H
    have hup := fun H => up_ev (readyC c m) (max (min g.botMany 48) 0) H
    have hul := upL_len (readyC c m) (max (min g.botMany 48) 0)
    have key := ai_lp g l h m c ks (upL (readyC c m) (max (min g.botMany 48) 0)) i H o hl (by omega) (by omega)
    refine ⟨?_, by rw [List.length_append]; omega⟩
    clear hol
    unfold outer
    unfold vTake at ht
    by_cases o1 : okT l h c
    · rw [if_pos o1] at ht
      cases hb : fitT g l (takeL l h c) with
      | true =>
        rw [hb] at hf
        rw [if_pos ⟨o1, rfl⟩]
        generalize upL (readyC c m) (max (min g.botMany 48) 0) = ds at *
        generalize ds.flatMap (inner g l h c) = P at *
        generalize takeL l h c = A at *
        generalize hO : o ++ P = O at *
        simp [aiE, aiX] at key
        simp [aoE, hlt, hix, encC, subs, setSubs, ht, hf, w, hrd, hup, key]
      | false =>
        rw [hb] at hf
        rw [if_neg (by simp)]
        simp [aoE, hlt, hix, encC, subs, setSubs, ht, hf, w]
    · rw [if_neg o1] at ht
      rw [if_neg (fun h => o1 h.1)]
      simp [aoE, hlt, hix, encC, subs, setSubs, ht, w]
  · intro o hi
    refine ⟨?_, by simp [aoX]⟩
    simp [aoE, aoX]
theorem all_ev (g : Geom) (l : List Float) (h m : C3) (H : Heap) (hl : l.length ≤ 100000) : clD EE (.p (.fn 82)) [vGeom g, vFloats l, vC h, vC m] H = some (vPs (allP g l h m), none) := by
  rw [clD_body _ _ _ _ _ _ (noP _) fn82]
  have hs := fun H => some_ev m H
  have a := fun H => atop_ev g H
  have b := fun H => abot_ev g H
  have hup := fun H => up_ev (someC m) (max (min g.topMany 48) 0) H
  have key := ao_lp g l h (someC m) (upL (someC m) (max (min g.topMany 48) 0)) H hl (upL_len _ _)
  have e : (upL (someC m) (max (min g.topMany 48) 0)).flatMap (outer g l h (someC m)) = allP g l h m := rfl
  rw [e] at key
  generalize upL (someC m) (max (min g.topMany 48) 0) = ks at *
  generalize allP g l h m = P at *
  simp [aoE, aoX, rP, hP] at key
  simp [St.enter, enumFrom, subs, setSubs, hs, a, b, hup, key]

/-! ### What the pairs are -/
theorem pair_is {g : Geom} {l : List Float} {h m : C3} {p : Pr} (hp : p ∈ allP g l h m) : ∃ c d, okT l h c ∧ fitT g l (takeL l h c) = true ∧ okT l (addC h c) d ∧ fitB g l (takeL l (addC h c) d) = true ∧ p = (takeL l h c, takeL l (addC h c) d) := by
  unfold allP at hp
  obtain ⟨c, _, hc⟩ := List.mem_flatMap.1 hp
  unfold outer at hc
  split at hc
  · rename_i h1
    obtain ⟨d, _, hd⟩ := List.mem_flatMap.1 hc
    unfold inner at hd
    split at hd
    · rename_i h2
      exact ⟨c, d, h1.1, h1.2, h2.1, h2.2, by simpa using hd⟩
    · cases hd
  · cases hc
abbrev zC : C3 := ⟨0, 0, 0⟩
theorem upL_zero {x : C3} {n : Int} (ha : 0 ≤ x.a) (hb : 0 ≤ x.b) (hc : 0 ≤ x.c) (hn : 0 ≤ n) : ∃ r, upL x n = zC :: r := by
  have a0 : 0 ≤ (capC x).a := by unfold capC; simp only; omega
  have b0 : 0 ≤ (capC x).b := by unfold capC; simp only; omega
  have c0 : 0 ≤ (capC x).c := by unfold capC; simp only; omega
  have e1 : R3 (capC x) 0 0 0 = zC :: R3 (capC x) 0 0 (0 + 1) := by unfold R3; rw [upI_cons c0]; rfl
  have e : R1 (capC x) 0 = zC :: (R3 (capC x) 0 0 (0 + 1) ++ R2 (capC x) 0 (0 + 1) ++ R1 (capC x) (0 + 1)) := by
    rw [← rest_zero a0 b0]
    unfold rest
    rw [e1]
    rfl
  unfold upL
  rw [e, List.filter_cons, if_pos (by simp [smallC, hn])]
  exact ⟨_, rfl⟩
theorem takeL_zero (l : List Float) (h : C3) : takeL l h zC = [] := by
  unfold takeL raw seg
  simp [isort]
theorem addC_zero {l : List Float} {h : C3} (hl : l.length ≤ 100000) (o : okT l h zC) : addC h zC = h := by
  rw [okT_small hl o]
  simp [plus]
theorem first_pair {g : Geom} {l : List Float} {h m : C3} (hl : l.length ≤ 100000) (o : okT l h zC) (ma : 0 ≤ m.a) (mb : 0 ≤ m.b) (mc : 0 ≤ m.c) (g1 : 0 ≤ g.topMany) (g2 : 0 ≤ g.botMany) (g3 : 0 ≤ g.topMost) (g4 : 0 ≤ g.botMost) :
    ∃ r, allP g l h m = ([], []) :: r := by
  have e1 : ∃ r, upL (someC m) (max (min g.topMany 48) 0) = zC :: r := upL_zero (by unfold someC; simp only; omega) (by unfold someC; simp only; omega) (by unfold someC; simp only; omega) (by omega)
  have e2 : ∃ r, upL (readyC zC (someC m)) (max (min g.botMany 48) 0) = zC :: r := upL_zero (by simp only [readyC, zipF, held, big, someC]; omega) (by simp only [readyC, zipF, held, big, someC]; omega) (by simp only [readyC, zipF, held, big, someC]; omega) (by omega)
  obtain ⟨r1, e1⟩ := e1
  obtain ⟨r2, e2⟩ := e2
  have f1 : fitT g l [] = true := by simp [fitT, fitsF, highQ, g1, g3]
  have f2 : fitB g l [] = true := by simp [fitB, fitsF, highQ, g2, g4]
  have i1 : inner g l h zC zC = [([], [])] := by
    unfold inner
    rw [addC_zero hl o, takeL_zero, if_pos ⟨o, f2⟩]
  have o1 : outer g l h (someC m) zC = ([], []) :: r2.flatMap (inner g l h zC) := by
    unfold outer
    rw [takeL_zero, if_pos ⟨o, f1⟩, e2, List.flatMap_cons, i1]
    rfl
  unfold allP
  rw [e1, List.flatMap_cons, o1]
  exact ⟨_, rfl⟩

/-! ### The law -/
def aqE (g : Geom) (l : List Float) (h m : C3) (b : Bool) (L : List Pr) (H : Heap) (i : Nat) : St :=
  ⟨[(1, vFloats l), (3, .lptr 3 0), (5, .lptr 5 0), (7, .lptr 7 0), (8, sli []), (9, vB b), (10, vPs L), (11, vI i)], [(3, cGeom g), (5, [vI h.a, vI h.b, vI h.c, vI m.a, vI m.b, vI m.c]), (7, lC h)], H, H.length, []⟩
def aqX (g : Geom) (l : List Float) (h m : C3) (b : Bool) (L : List Pr) (H : Heap) : Ex × St :=
  (.exit 0, ⟨[(1, vFloats l), (3, .lptr 3 0), (5, .lptr 5 0), (7, .lptr 7 0), (8, sli []), (9, vB b), (10, vPs L), (11, vI L.length), (73, vB false)], [(3, cGeom g), (5, [vI h.a, vI h.b, vI h.c, vI m.a, vI m.b, vI m.c]), (7, lC h)], H, H.length, []⟩)
theorem aq_lp (g : Geom) (l : List Float) (h m : C3) (b : Bool) (L : List Pr) (H : Heap) (hl : l.length ≤ 100000) (hL : L.length ≤ 2000000000) (hp : ∀ p ∈ L, ∃ c d, okT l h c ∧ fitT g l (takeL l h c) = true ∧ okT l (addC h c) d ∧ fitB g l (takeL l (addC h c) d) = true ∧ p = (takeL l h c, takeL l (addC h c) d)) :
    evD EE lp16_0 (aqE g l h m b L H 0) = some (aqX g l h m b L H) := by
  unfold lp16_0
  refine Eq.trans (evD_fold L (fun (_ : Unit) i => aqE g l h m b L H i) (fun _ _ => True) (fun _ _ _ => ()) (fun _ => aqX g l h m b L H) (fun _ _ => rfl) ?_ ?_ () 0 trivial (Nat.zero_le _)) rfl
  · intro _ i p _ hx
    refine ⟨?_, trivial⟩
    have hlt := (List.getElem?_eq_some_iff.1 hx).1
    have hix := fun H k => ixs_nat H encP (k := k) (s := 2) hx rfl
    have w : IntKind.i64.wrap ((i : Int) + 1) = ((i + 1 : Nat) : Int) := w64 (by omega) (by omega)
    obtain ⟨c, d, o1, f1, o2, f2, rfl⟩ := hp p (List.mem_of_getElem? hx)
    have r1 := raw_len l h c
    have r2 := raw_len l (addC h c) d
    have k1 : (takeL l h c).length ≤ 1000000 := by unfold takeL; rw [isort_len]; omega
    have k2 : (takeL l (addC h c) d).length ≤ 1000000 := by unfold takeL; rw [isort_len]; omega
    have n1 := fun H => next_ev l h (takeL l h c) H hl k1
    have n2 := fun H => next_ev l (addC h c) (takeL l (addC h c) d) H hl k2
    have q := fun H => of_ev l (takeL l h c) H hl k1
    have ad := fun H => add_ev h c H
    have ff := fun H => afits_ev g l (takeL l h c, takeL l (addC h c) d) H k1 k2
    rw [next_take l h c o1] at n1
    rw [next_take l _ d o2] at n2
    rw [ofL_take l h c o1] at q
    simp only [f1, f2] at ff
    generalize takeL l h c = A at *
    generalize takeL l (addC h c) d = B at *
    simp [aqE, hlt, hix, encP, subs, setSubs, w, n1, n2, q, ad, ff]
  · intro _ _
    refine ⟨?_, by simp [aqX]⟩
    simp [aqE, aqX]
theorem areaOrder_ev (g : Geom) (l : List Float) (h m : C3) : clD EE (.p (.fn 16)) [vGeom g, vFloats l, .agg [vI h.a, vI h.b, vI h.c, vI m.a, vI m.b, vI m.c]] [] = some (.p (.bool true), none) := by
  rw [clD_body _ _ _ _ _ _ (noP _) fn16]
  by_cases c0 : 8 < (l.length : Int)
  · simp [St.enter, enumFrom, ixaV, subs, setSubs, awake24, c0]
  by_cases c1 : 4 < m.a
  · simp [St.enter, enumFrom, ixaV, subs, setSubs, awake24, c0, c1]
  by_cases c2 : 4 < m.b
  · simp [St.enter, enumFrom, ixaV, subs, setSubs, awake24, c0, c1, c2]
  by_cases c3 : 4 < m.c
  · simp [St.enter, enumFrom, ixaV, subs, setSubs, awake24, c0, c1, c2, c3]
  by_cases c4 : g.topMany < 0
  · simp [St.enter, enumFrom, ixaV, subs, setSubs, awake24, c0, c1, c2, c3, c4]
  by_cases c5 : g.botMany < 0
  · simp [St.enter, enumFrom, ixaV, subs, setSubs, awake24, c0, c1, c2, c3, c4, c5]
  by_cases c6 : g.topMost < 0
  · simp [St.enter, enumFrom, ixaV, subs, setSubs, awake24, c0, c1, c2, c3, c4, c5, c6]
  by_cases c7 : g.botMost < 0
  · simp [St.enter, enumFrom, ixaV, subs, setSubs, awake24, c0, c1, c2, c3, c4, c5, c6, c7]
  have hl : l.length ≤ 100000 := by omega
  have ht := fun H => take_ev l h zC H hl
  have hall := fun H => all_ev g l h m H hl
  have hL : (allP g l h m).length ≤ 2000000000 := by
    have h1 := flat_len (outer g l h (someC m)) 35937 (fun c => outer_len g l h (someC m) c) (upL (someC m) (max (min g.topMany 48) 0))
    have h2 := upL_len (someC m) (max (min g.topMany 48) 0)
    unfold allP
    omega
  have hv : vTake l h zC = .tup [sli [], vB (decide (okT l h zC))] := by
    unfold vTake
    by_cases o : okT l h zC
    · rw [if_pos o, takeL_zero]; simp [o]
    · rw [if_neg o]; simp [o]
  rw [hv] at ht
  have key := aq_lp g l h m (decide (okT l h zC)) (allP g l h m) [] hl hL (fun p hp => pair_is hp)
  have hfst : okT l h zC → 0 ≤ m.a → 0 ≤ m.b → 0 ≤ m.c → ∃ r, allP g l h m = ([], []) :: r := fun o a b c => first_pair hl o a b c (by omega) (by omega) (by omega) (by omega)
  by_cases o : okT l h zC
  · simp only [o, decide_true] at key ht
    by_cases ma : 0 ≤ m.a
    · by_cases mb : 0 ≤ m.b
      · by_cases mc : 0 ≤ m.c
        · obtain ⟨r, hr⟩ := hfst o ma mb mc
          have h0 : (allP g l h m)[0]? = some ([], []) := by rw [hr]; rfl
          have hix := fun H k => ixs_nat H encP (k := k) (s := 2) h0 rfl
          have hn : ¬ (allP g l h m).length = 0 := by rw [hr]; simp
          have hn2 : ¬ allP g l h m = [] := by rw [hr]; simp
          clear hr h0
          generalize allP g l h m = L at *
          simp [aqE, aqX] at key
          simp [encP] at hix
          simp [St.enter, enumFrom, ixaV, subs, setSubs, awake24, c0, c1, c2, c3, c4, c5, c6, c7, ht, hall, key, ma, mb, mc, hix, hn, hn2, show IntKind.i64.wrap 0 = 0 by decide]
        · simp [aqE, aqX] at key
          simp [St.enter, enumFrom, ixaV, subs, setSubs, awake24, c0, c1, c2, c3, c4, c5, c6, c7, ht, hall, key, ma, mb, mc]
      · simp [aqE, aqX] at key
        simp [St.enter, enumFrom, ixaV, subs, setSubs, awake24, c0, c1, c2, c3, c4, c5, c6, c7, ht, hall, key, ma, mb]
    · simp [aqE, aqX] at key
      simp [St.enter, enumFrom, ixaV, subs, setSubs, awake24, c0, c1, c2, c3, c4, c5, c6, c7, ht, hall, key, ma]
  · simp only [o, decide_false] at key ht
    simp [aqE, aqX] at key
    simp [St.enter, enumFrom, ixaV, subs, setSubs, awake24, c0, c1, c2, c3, c4, c5, c6, c7, ht, hall, key]
end Go.EnvOf

/- The law of taking twice, evaluated. -/
namespace Go.EnvOf
open Go Go.Eng
set_option maxRecDepth 100000

/-! ### Counting a number in a list -/
def cntF (z : Int) (l : List Int) (s : Int) : Int := fold (fun s _ x => if x = z then s + 1 else s) s 0 l
theorem cnt_fold (z : Int) : ∀ (l : List Int) (s : Int) (i : Nat), fold (fun s _ x => if x = z then s + 1 else s) s i l = s + (l.count z : Int)
  | [], s, i => by simp [fold]
  | x :: r, s, i => by
    simp only [fold, cnt_fold z r, List.count_cons]
    by_cases h : x = z
    · simp [h]; omega
    · simp [h]
def tcE (A B L : List Int) (i : Nat) (H : Heap) (s : Int) (k : Nat) : St := ⟨[(8, sli A), (10, sli B), (12, sli L), (14, vI i), (15, vI s), (16, vI k)], [], H, H.length, []⟩
def tcX (A B L : List Int) (i : Nat) (H : Heap) (s : Int) : Ex × St := (.exit 2, ⟨[(8, sli A), (10, sli B), (12, sli L), (14, vI i), (15, vI s), (16, vI A.length), (97, vB false)], [], H, H.length, []⟩)
def tdE (A B L : List Int) (i : Nat) (H : Heap) (s : Int) (k : Nat) : St := ⟨[(8, sli A), (10, sli B), (12, sli L), (14, vI i), (15, vI s), (17, vI k)], [], H, H.length, []⟩
def tdX (A B L : List Int) (i : Nat) (H : Heap) (s : Int) : Ex × St := (.exit 4, ⟨[(8, sli A), (10, sli B), (12, sli L), (14, vI i), (15, vI s), (17, vI B.length), (114, vB false)], [], H, H.length, []⟩)
theorem tc_lp (A B L : List Int) (i : Nat) (z : Int) (H : Heap) (hz : L[i]? = some z) (hA : A.length ≤ 1000) : evD EE lp14_0 (tcE A B L i H 0 0) = some (tcX A B L i H (A.count z)) := by
  unfold lp14_0
  refine Eq.trans (evD_fold A (tcE A B L i H) (fun s k => 0 ≤ s ∧ s ≤ k) (fun s _ x => if x = z then s + 1 else s) (tcX A B L i H) (fun _ _ => rfl) ?_ ?_ 0 0 (by simp) (Nat.zero_le _)) (by rw [List.drop_zero, cnt_fold, Int.zero_add])
  · intro s k x hi hx
    have hlt := (List.getElem?_eq_some_iff.1 hx).1
    have hix := fun H k => ixs_nat H encI (k := k) (s := 1) hx rfl
    have hiz := fun H k => ixs_nat H encI (k := k) (s := 1) hz rfl
    have w : IntKind.i64.wrap ((k : Int) + 1) = ((k + 1 : Nat) : Int) := w64 (by omega) (by omega)
    have ws : IntKind.i64.wrap (s + 1) = s + 1 := w64 (by omega) (by omega)
    by_cases h : x = z
    · rw [if_pos h]
      refine ⟨?_, by omega⟩
      simp [tcE, hlt, hix, hiz, subs, encI, h, w, ws]
    · rw [if_neg h]
      refine ⟨?_, by omega⟩
      simp [tcE, hlt, hix, hiz, subs, encI, h, w]
  · intro s hi
    refine ⟨?_, by simp [tcX]⟩
    simp [tcE, tcX]
theorem td_lp (A B L : List Int) (i : Nat) (z : Int) (H : Heap) (hz : L[i]? = some z) (t : Int) (ht : 0 ≤ t ∧ t ≤ 1000) (hA : B.length ≤ 1000) : evD EE lp14_1 (tdE A B L i H t 0) = some (tdX A B L i H (t + B.count z)) := by
  unfold lp14_1
  refine Eq.trans (evD_fold B (tdE A B L i H) (fun s k => 0 ≤ s ∧ s ≤ 1000 + k) (fun s _ x => if x = z then s + 1 else s) (tdX A B L i H) (fun _ _ => rfl) ?_ ?_ t 0 (by omega) (Nat.zero_le _)) (by rw [List.drop_zero, cnt_fold])
  · intro s k x hi hx
    have hlt := (List.getElem?_eq_some_iff.1 hx).1
    have hix := fun H k => ixs_nat H encI (k := k) (s := 1) hx rfl
    have hiz := fun H k => ixs_nat H encI (k := k) (s := 1) hz rfl
    have w : IntKind.i64.wrap ((k : Int) + 1) = ((k + 1 : Nat) : Int) := w64 (by omega) (by omega)
    have ws : IntKind.i64.wrap (s + 1) = s + 1 := w64 (by omega) (by omega)
    by_cases h : x = z
    · rw [if_pos h]
      refine ⟨?_, by omega⟩
      simp [tdE, hlt, hix, hiz, subs, encI, h, w, ws]
    · rw [if_neg h]
      refine ⟨?_, by omega⟩
      simp [tdE, hlt, hix, hiz, subs, encI, h, w]
  · intro s hi
    refine ⟨?_, by simp [tdX]⟩
    simp [tdE, tdX]
def toE (A B L : List Int) (H : Heap) (i : Nat) : St := ⟨[(8, sli A), (10, sli B), (12, sli L), (14, vI i)], [], H, H.length, []⟩
def toX (A B L : List Int) (H : Heap) : Ex × St := (.exit 0, ⟨[(8, sli A), (10, sli B), (12, sli L), (14, vI L.length), (91, vB false)], [], H, H.length, []⟩)
theorem to_lp (A B L : List Int) (H : Heap) (hA : A.length ≤ 1000) (hB : B.length ≤ 1000) (hL : L.length ≤ 1000) (hs : L.Pairwise (· < ·)) (hc : ∀ z ∈ L, A.count z + B.count z = 1) :
    evD EE lp14_2 (toE A B L H 0) = some (toX A B L H) := by
  unfold lp14_2
  refine Eq.trans (evD_fold L (fun (_ : Unit) i => toE A B L H i) (fun _ _ => True) (fun _ _ _ => ()) (fun _ => toX A B L H) (fun _ _ => rfl) ?_ ?_ () 0 trivial (Nat.zero_le _)) rfl
  · intro _ i z _ hz
    refine ⟨?_, trivial⟩
    have hlt := (List.getElem?_eq_some_iff.1 hz).1
    have hiz := fun H k => ixs_nat H encI (k := k) (s := 1) hz rfl
    have w : IntKind.i64.wrap ((i : Int) + 1) = ((i + 1 : Nat) : Int) := w64 (by omega) (by omega)
    have h1 := tc_lp A B L i z H hz hA
    have c := hc z (List.mem_of_getElem? hz)
    have h2 := td_lp A B L i z H hz (A.count z) (by omega) hB
    have e : ((A.count z : Nat) : Int) + (B.count z : Nat) = 1 := by omega
    rw [e] at h2
    simp [tcE, tcX] at h1
    simp [tdE, tdX] at h2
    by_cases i0 : i = 0
    · subst i0
      simp at h1 h2 hiz w
      simp [toE, hlt, subs, encI, h1, h2, w]
    · have hy : L[i - 1]? = some (L[i - 1]'(by omega)) := List.getElem?_eq_getElem (by omega)
      have hlt2 : L[i - 1]'(by omega) < z := by
        have := List.pairwise_iff_getElem.1 hs (i - 1) i (by omega) hlt (by omega)
        rw [List.getElem?_eq_getElem hlt] at hz
        have e : L[i] = z := by simpa using hz
        omega
      generalize (L[i - 1]'(by omega)) = y at hy hlt2
      have hiy := fun H k => ixs_nat H encI (k := k) (s := 1) hy rfl
      have ei : ((i - 1 : Nat) : Int) = (i : Int) - 1 := by omega
      rw [ei] at hiy
      have wi : IntKind.i64.wrap ((i : Int) - 1) = (i : Int) - 1 := w64 (by omega) (by omega)
      simp [toE, hlt, subs, encI, h1, h2, w, hiz, hiy, wi, show 0 < i by omega, show ¬ z ≤ y by omega]
  · intro _ _
    refine ⟨?_, by simp [toX]⟩
    simp [toE, toX]

/-! ### The law -/
theorem queueTwice_ev (l : List Float) (x y z : C3) : clD EE (.p (.fn 14)) [vFloats l, .agg [vI x.a, vI x.b, vI x.c, vI y.a, vI y.b, vI y.c, vI z.a, vI z.b, vI z.c]] [] = some (.p (.bool true), none) := by
  rw [clD_body _ _ _ _ _ _ (noP _) fn14]
  by_cases h : 60 < (l.length : Int)
  · simp [St.enter, enumFrom, h, awake23]
  have hl : l.length ≤ 60 := by omega
  have t1 := fun H => take_ev l x y H (by omega)
  have a1 := fun H => add_ev x y H
  have t2 := fun H => take_ev l (addC x y) z H (by omega)
  have a2 := fun H => add_ev y z H
  have t3 := fun H => take_ev l x (addC y z) H (by omega)
  by_cases o1 : okT l x y
  · have p1 := okT_small (by omega) o1
    rw [p1] at t2 a1
    by_cases o2 : okT l (plus x y) z
    · have p2 := plus_small (by omega) o1 o2
      have o3 := okT_plus o1 o2
      rw [p2] at t3 a2
      unfold vTake at t1 t2 t3
      rw [if_pos o1] at t1
      rw [if_pos o2] at t2
      rw [if_pos o3] at t3
      have k := to_lp (takeL l x y) (takeL l (plus x y) z) (takeL l x (plus y z)) []
      have n := fun H => next_ev l x (takeL l x y) H (by omega)
      have q := fun H => of_ev l (takeL l x (plus y z)) H (by omega)
      rw [next_take l x y o1] at n
      rw [ofL_take l x _ o3] at q
      have r1 := raw_len l x y
      have r2 := raw_len l (plus x y) z
      have r3 := raw_len l x (plus y z)
      rw [← isort_len] at r1 r2 r3
      have e1 : isort (raw l x y) = takeL l x y := rfl
      have e2 : isort (raw l (plus x y) z) = takeL l (plus x y) z := rfl
      have e3 : isort (raw l x (plus y z)) = takeL l x (plus y z) := rfl
      rw [e1] at r1
      rw [e2] at r2
      rw [e3] at r3
      have k := k (by omega) (by omega) (by omega) (takeL_strict _ _ _) fun n hn => twice_one o1 o2 hn
      have n := fun H => n H (by omega)
      have q := fun H => q H (by omega)
      have e := twice_len o1 o2
      generalize takeL l x y = A at *
      generalize takeL l (plus x y) z = B at *
      generalize takeL l x (plus y z) = L at *
      have w : IntKind.i64.wrap ((A.length : Int) + B.length) = (A.length : Int) + B.length := w64 (by omega) (by omega)
      have eL : (L.length : Int) = A.length + B.length := by omega
      simp [toE, toX] at k
      simp [St.enter, enumFrom, h, awake23, subs, setSubs, ixaV, t1, t2, t3, a1, a2, n, q, w, eL, k]
    · unfold vTake at t1 t2
      rw [if_pos o1] at t1
      rw [if_neg o2] at t2
      have t3 : ∃ v b, ∀ H, clD EE (.p (.fn 68)) [vFloats l, vC x, vC (addC y z)] H = some (.tup [sli v, vB b], none) := by
        unfold vTake at t3
        by_cases o3 : okT l x (addC y z)
        · rw [if_pos o3] at t3; exact ⟨_, _, t3⟩
        · rw [if_neg o3] at t3; exact ⟨_, _, t3⟩
      obtain ⟨v, b, t3⟩ := t3
      simp [St.enter, enumFrom, h, awake23, subs, setSubs, ixaV, t1, t2, t3, a1, a2]
  · unfold vTake at t1
    rw [if_neg o1] at t1
    have t2 : ∃ v b, ∀ H, clD EE (.p (.fn 68)) [vFloats l, vC (addC x y), vC z] H = some (.tup [sli v, vB b], none) := by
      unfold vTake at t2
      by_cases o3 : okT l (addC x y) z
      · rw [if_pos o3] at t2; exact ⟨_, _, t2⟩
      · rw [if_neg o3] at t2; exact ⟨_, _, t2⟩
    have t3 : ∃ v b, ∀ H, clD EE (.p (.fn 68)) [vFloats l, vC x, vC (addC y z)] H = some (.tup [sli v, vB b], none) := by
      unfold vTake at t3
      by_cases o3 : okT l x (addC y z)
      · rw [if_pos o3] at t3; exact ⟨_, _, t3⟩
      · rw [if_neg o3] at t3; exact ⟨_, _, t3⟩
    obtain ⟨u, c, t2⟩ := t2
    obtain ⟨v, b, t3⟩ := t3
    simp [St.enter, enumFrom, h, awake23, subs, setSubs, ixaV, t1, t2, t3, a1, a2]
end Go.EnvOf
