/- The program's functions and the document's, evaluated. -/
import Derived.Test.YtfjgcfloallohaaText1
import Derived.Test.YtfjgcfloallohaaTab
/- The program's plain data: items, notes, floats, geometries, jobs. -/
namespace Go.EnvOf
open Go Go.Eng

/-- A number that is there. -/
abbrev I64 (n : Int) : Prop := -9223372036854775808 ≤ n ∧ n ≤ 9223372036854775807

structure Item where
  k : Int
  h : Int
  f : Int
  str : Int
  ord : Int
  shr : Int
  n : Int
  deriving Inhabited, DecidableEq
def encItem (x : Item) : List PV := [.int .i64 x.k, .int .i64 x.h, .int .i64 x.f, .int .i64 x.str, .int .i64 x.ord, .int .i64 x.shr, .int .i64 x.n]
@[simp] theorem encItem_len (x : Item) : (encItem x).length = 7 := rfl
abbrev vItems (l : List Item) : V := .p (.sl (l.map encItem))
abbrev vItem (x : Item) : V := .agg [.p (.int .i64 x.k), .p (.int .i64 x.h), .p (.int .i64 x.f), .p (.int .i64 x.str), .p (.int .i64 x.ord), .p (.int .i64 x.shr), .p (.int .i64 x.n)]

structure Note where
  lines : List Int
  pens : List Int
  deriving Inhabited, DecidableEq
def encNote (n : Note) : List PV := [.sl (n.lines.map encI), .sl (n.pens.map encI)]
@[simp] theorem encNote_len (n : Note) : (encNote n).length = 2 := rfl
abbrev vNotes (l : List Note) : V := .p (.sl (l.map encNote))
abbrev vNote (n : Note) : V := .agg [sli n.lines, sli n.pens]

structure Float where
  c : Int
  h : Int
  w : Int
  deriving Inhabited, DecidableEq
def encFloat (f : Float) : List PV := [.int .i64 f.c, .int .i64 f.h, .int .i64 f.w]
@[simp] theorem encFloat_len (f : Float) : (encFloat f).length = 3 := rfl
abbrev vFloats (l : List Float) : V := .p (.sl (l.map encFloat))
abbrev vFloat (f : Float) : V := .agg [.p (.int .i64 f.c), .p (.int .i64 f.h), .p (.int .i64 f.w)]

structure Geom where
  cols : Int
  wide : Int
  gap : Int
  high : Int
  first : Int
  grid : Int
  rule : Int
  sep : Int
  noteMost : Int
  topMost : Int
  botMost : Int
  topMany : Int
  botMany : Int
  club : Int
  widow : Int
  split : Int
  defer : Int
  spare : Int
  balance : Bool
  deriving Inhabited, DecidableEq
abbrev cGeom (g : Geom) : List V := [.p (.int .i64 g.cols), .p (.int .i64 g.wide), .p (.int .i64 g.gap), .p (.int .i64 g.high), .p (.int .i64 g.first), .p (.int .i64 g.grid), .p (.int .i64 g.rule), .p (.int .i64 g.sep), .p (.int .i64 g.noteMost), .p (.int .i64 g.topMost),
  .p (.int .i64 g.botMost), .p (.int .i64 g.topMany), .p (.int .i64 g.botMany), .p (.int .i64 g.club), .p (.int .i64 g.widow), .p (.int .i64 g.split), .p (.int .i64 g.defer), .p (.int .i64 g.spare), .p (.bool g.balance)]
abbrev vGeom (g : Geom) : V := .agg (cGeom g)

structure Job where
  g : Geom
  items : List Item
  notes : List Note
  floats : List Float
  deriving Inhabited, DecidableEq
abbrev vJob (j : Job) : V := .agg (cGeom j.g ++ [vItems j.items, vNotes j.notes, vFloats j.floats])
end Go.EnvOf

/- Floats: those of a class. -/
namespace Go.EnvOf
open Go Go.Eng

/-- The places, from i on, of the floats of a class. -/
def figOf (c : Int) : Nat → List Float → List Int
  | _, [] => []
  | i, f :: r => (if f.c = c then [(i : Int)] else []) ++ figOf c (i + 1) r

def figS (c : Int) (out : List Int) (i : Nat) (x : Float) : List Int := if x.c = c then out ++ [(i : Int)] else out
theorem figS_fold (c : Int) : ∀ (l : List Float) (out : List Int) (i : Nat), fold (figS c) out i l = out ++ figOf c i l
  | [], out, i => by simp [fold, figOf]
  | x :: r, out, i => by
    simp only [fold, figOf, figS_fold c r]
    unfold figS
    split <;> simp

def figE (l : List Float) (c : Int) (H : Heap) (out : List Int) (i : Nat) : St :=
  ⟨[(1, .p (.int .i64 c)), (5, .row H.length out.length 0 out.length), (8, vFloats l), (9, .p (.int .i64 l.length)), (10, .p (.int .i64 i))], [], H ++ [.row 1 (upV (out.map encI))], H.length, []⟩
def figX (l : List Float) (c : Int) (H : Heap) (out : List Int) : Ex × St :=
  (.exit 0, ⟨[(1, .p (.int .i64 c)), (5, .row H.length out.length 0 out.length), (8, vFloats l), (9, .p (.int .i64 l.length)), (10, .p (.int .i64 l.length)), (11, .p (.bool false))], [], H ++ [.row 1 (upV (out.map encI))], H.length, []⟩)
theorem figOf_lp (l : List Float) (c : Int) (H : Heap) (hl : l.length ≤ 1000000) : ∀ (out : List Int) (i : Nat), out.length ≤ i → i ≤ l.length →
    evD EE lp121_0 (figE l c H out i) = some (figX l c H (fold (figS c) out i (l.drop i))) := by
  unfold lp121_0
  refine evD_fold l (figE l c H) (fun out i => out.length ≤ i) (figS c) (figX l c H) (fun _ _ => rfl) ?_ ?_
  · intro out i x hi hx
    have hlt := (List.getElem?_eq_some_iff.1 hx).1
    have hix := fun H k => ixs_nat H encFloat (k := k) (s := 3) hx rfl
    have w : IntKind.i64.wrap ((i : Int) + 1) = ((i + 1 : Nat) : Int) := w64 (by omega) (by omega)
    have hm : out.length + 1 < most := by simp [most]; omega
    by_cases hc : x.c = c
    · refine ⟨?_, by simp [figS, hc]; omega⟩
      simp [figE, vFloats, hlt, hix, encFloat, subs, setSubs, hc, w, hm, encI, figS]
    · refine ⟨?_, by simp [figS, hc]; omega⟩
      simp [figE, vFloats, hlt, hix, encFloat, subs, setSubs, hc, w, figS]
  · intro out hi
    refine ⟨?_, by simp [figX]⟩
    simp [figE, figX, vFloats]

theorem figOf_ev (l : List Float) (c : Int) (H : Heap) (hl : l.length ≤ 1000000) : clD EE (.p (.fn 121)) [vFloats l, .p (.int .i64 c)] H = some (sli (figOf c 0 l), none) := by
  rw [clD_body _ _ _ _ _ _ (noP _) fn121]
  have key := figOf_lp l c H hl [] 0 (by simp) (by simp)
  rw [figS_fold] at key
  simp [figE, figX, vFloats] at key
  simp [St.enter, enumFrom, vFloats, key, sli]
end Go.EnvOf

/- Searching and comparing lists: the library's functions, whatever the elements are. -/
namespace Go.Eng
open Go

/-- The place of the first one of which it holds; -1: of none. -/
def idxF {α : Type} (p : α → Bool) : Nat → List α → Int
  | _, [] => -1
  | i, x :: r => if p x = true then i else idxF p (i + 1) r
theorem idxF_any {α : Type} (p : α → Bool) : ∀ (i : Nat) (l : List α), decide (0 ≤ idxF p i l) = l.any p
  | _, [] => rfl
  | i, x :: r => by
    simp only [idxF, List.any_cons]
    by_cases h : p x = true
    · simp [h]
    · simp [h, idxF_any p (i + 1) r]
theorem idxF_lo {α : Type} (p : α → Bool) : ∀ (i : Nat) (l : List α), -1 ≤ idxF p i l
  | _, [] => by simp [idxF]
  | i, x :: r => by
    simp only [idxF]
    split
    · omega
    · exact idxF_lo p (i + 1) r
theorem idxF_hi {α : Type} (p : α → Bool) : ∀ (i : Nat) (l : List α), idxF p i l ≤ i + l.length
  | _, [] => by simp [idxF]
  | i, x :: r => by
    simp only [idxF, List.length_cons]
    split
    · omega
    · have := idxF_hi p (i + 1) r; omega

/-- A loop that ends as soon as something holds. -/
theorem rng_first {α ρ : Type} (p : α → Bool) (hit : Nat → α → ρ) (fin : ρ) : ∀ (l : List α) (i : Nat),
    rng (fun (_ : Unit) i x => if p x = true then .inr (hit i x) else .inl ()) (fun _ => fin) () i l = (match l.findIdx? p with | some k => (match l[k]? with | some x => hit (i + k) x | none => fin) | none => fin)
  | [], _ => rfl
  | x :: r, i => by
    simp only [rng, List.findIdx?_cons]
    cases h : p x with
    | true => simp
    | false =>
      simp only [Bool.false_eq_true, if_false]
      rw [rng_first p hit fin r (i + 1)]
      cases r.findIdx? p with
      | none => rfl
      | some k => simp only [Option.map_some, List.getElem?_cons_succ]; rw [show i + 1 + k = i + (k + 1) by omega]
theorem idxF_find {α : Type} (p : α → Bool) : ∀ (l : List α) (i : Nat), idxF p i l = (match l.findIdx? p with | some k => ((i + k : Nat) : Int) | none => -1)
  | [], _ => rfl
  | x :: r, i => by
    simp only [idxF, List.findIdx?_cons]
    cases h : p x with
    | true => simp
    | false =>
      simp only [Bool.false_eq_true, if_false]
      rw [idxF_find p r (i + 1)]
      cases r.findIdx? p with
      | none => rfl
      | some k => simp only [Option.map_some]; congr 1; omega
theorem findIdx_get {α : Type} {p : α → Bool} : ∀ {l : List α} {k : Nat}, l.findIdx? p = some k → ∃ x, l[k]? = some x
  | [], k, h => by simp at h
  | x :: r, k, h => by
    rw [List.findIdx?_cons] at h
    cases hp : p x with
    | true => rw [hp] at h; simp at h; subst h; exact ⟨x, rfl⟩
    | false =>
      rw [hp] at h
      simp only [Bool.false_eq_true, if_false] at h
      cases hk : r.findIdx? p with
      | none => rw [hk] at h; simp at h
      | some m =>
        rw [hk] at h; simp at h; subst h
        obtain ⟨y, hy⟩ := findIdx_get hk
        exact ⟨y, by simpa using hy⟩

/-- A loop that ends as soon as something holds, always alike. -/
def stepB {α ρ : Type} (p : α → Bool) (bad : ρ) (_ : Unit) (_ : Nat) (x : α) : Unit ⊕ ρ := if p x = true then .inr bad else .inl ()
theorem rng_any {α ρ : Type} (p : α → Bool) (bad fin : ρ) : ∀ (l : List α) (i : Nat), rng (stepB p bad) (fun _ => fin) () i l = if l.any p = true then bad else fin
  | [], _ => rfl
  | x :: r, i => by
    simp only [rng, List.any_cons, stepB]
    by_cases h : p x = true
    · simp [h]
    · have ih := rng_any p bad fin r (i + 1)
      simp only [h, Bool.false_eq_true, if_false, Bool.false_or]
      exact ih

/-- The same, whatever the place is. -/
def stepI {α ρ : Type} (p : Nat → α → Bool) (bad : ρ) (_ : Unit) (i : Nat) (x : α) : Unit ⊕ ρ := if p i x = true then .inr bad else .inl ()
def anyI {α : Type} (p : Nat → α → Bool) : Nat → List α → Bool
  | _, [] => false
  | i, x :: r => p i x || anyI p (i + 1) r
theorem rng_anyI {α ρ : Type} (p : Nat → α → Bool) (bad fin : ρ) : ∀ (l : List α) (i : Nat), rng (stepI p bad) (fun _ => fin) () i l = if anyI p i l = true then bad else fin
  | [], _ => rfl
  | x :: r, i => by
    simp only [rng, anyI, stepI]
    by_cases h : p i x = true
    · simp [h]
    · have ih := rng_anyI p bad fin r (i + 1)
      simp only [h, Bool.false_eq_true, if_false, Bool.false_or]
      exact ih

/-- A loop that ends with the place of the first one of which something holds. -/
def stepH {α ρ : Type} (p : α → Bool) (hit : Int → ρ) (_ : Unit) (i : Nat) (x : α) : Unit ⊕ ρ := if p x = true then .inr (hit i) else .inl ()
theorem rng_hit {α ρ : Type} (p : α → Bool) (hit : Int → ρ) (fin : ρ) : ∀ (l : List α) (i : Nat), rng (stepH p hit) (fun _ => fin) () i l = if 0 ≤ idxF p i l then hit (idxF p i l) else fin
  | [], _ => rfl
  | x :: r, i => by
    simp only [rng, stepH, idxF]
    by_cases h : p x = true
    · simp [h]
    · simp only [h, Bool.false_eq_true, if_false]
      exact rng_hit p hit fin r (i + 1)

/-! ### IndexFunc -/
def idxL (s : Nat) (agg : Bool) : IC :=
  (.loop [0, 1, 7, 8] [] (.seq (.reg false [⟨some 9, none, .bin .lss (.t 8) (.t 7)⟩] [0, 1, 7, 8, 9] [])
      (.seq (.cond (.t 9) .skip (.exit 0))
      (.seq (.block 1 (.seq (.reg false [⟨some 10, none, .mov (.t 8)⟩, ⟨some 5, none, .mov (.t 10)⟩] [0, 1, 5, 7, 8] [])
        (.seq (.reg false [⟨some 11, none, .mov (.t 1)⟩, ⟨some 12, none, .mov (.t 0)⟩, ⟨some 13, none, .mov (.t 5)⟩, ⟨some 14, none, .ixs (.t 12) (.t 13) s⟩, ⟨some 15, none, .ld (.t 14) s agg⟩, ⟨some 16, none, .callv (.t 11) [.t 15] false⟩] [0, 1, 5, 7, 8, 16] [])
        (.cond (.t 16) (.seq (.reg false [⟨some 17, none, .mov (.t 5)⟩, ⟨some 4, none, .mov (.t 17)⟩] [4] []) .ret) .skip))))
      (.reg false [⟨some 18, none, .bin .add (.t 8) (.c (.p (.int .i64 1)))⟩, ⟨some 8, none, .mov (.t 18)⟩] [0, 1, 7, 8] [])))))
def idxI (s : Nat) (agg : Bool) : IFn := ⟨(.seq (.reg false [⟨some 4, none, .mov (.c (.p (.int .i64 0)))⟩] [0, 1] [])
  (.seq (.seq (.reg false [⟨some 6, none, .mov (.t 0)⟩, ⟨some 7, none, .len (.t 6)⟩, ⟨some 8, none, .mov (.c (.p (.int .i64 0)))⟩] [0, 1, 7, 8] []) (.block 0 (idxL s agg)))
  (.seq (.reg false [⟨some 4, none, .mov (.c (.p (.int .i64 (-1))))⟩] [4] []) .ret))), [.tmp 4], false⟩

section
variable {α : Type} {E : Env} (f : FuncId) (s : Nat) (agg : Bool) (enc : α → List PV) (val : α → V)
def idxE (l : List α) (hv : V) (H : Heap) (B : Nat) (i : Nat) : St := ⟨[(0, .p (.sl (l.map enc))), (1, hv), (7, vI l.length), (8, vI i)], [], H, B, []⟩
def idxX (l : List α) (hv : V) (H : Heap) (B : Nat) : Ex × St := (.exit 0, ⟨[(0, .p (.sl (l.map enc))), (1, hv), (7, vI l.length), (8, vI l.length), (9, .p (.bool false))], [], H, B, []⟩)
def idxR (H : Heap) (B : Nat) (i : Nat) : Ex × St := (.ret, ⟨[(4, vI i)], [], H, B, []⟩)
theorem idx_lp (hs : ∀ x, (enc x).length = s) (hval : ∀ x, aggOr agg ((enc x).map .p) = some (val x)) (hout : ∀ x, (normA (val x)).outB = true) (hnorm : ∀ x, normA (val x) = val x) (l : List α) (hn : l.length ≤ 9223372036854775806) (hv : V) (p : α → Bool) (H : Heap) (B : Nat)
    (hH : ∀ x ∈ l, clD E hv [val x] H = some (vB (p x), none)) :
    evD E (idxL s agg) (idxE enc l hv H B 0) = some (rng (fun (_ : Unit) i x => if p x = true then .inr (idxR H B i) else .inl ()) (fun _ => idxX enc l hv H B) () 0 l) := by
  unfold idxL
  refine evD_rng l (fun (_ : Unit) i => idxE enc l hv H B i) (fun _ _ => True) (fun (_ : Unit) i x => if p x = true then .inr (idxR H B i) else .inl ()) (fun _ => idxX enc l hv H B) (fun _ _ => rfl) ?_ ?_ () 0 trivial (Nat.zero_le _)
  · rintro _ i x - hx
    have hlt := (List.getElem?_eq_some_iff.1 hx).1
    have w : IntKind.i64.wrap ((i : Int) + 1) = ((i + 1 : Nat) : Int) := w64 (by omega) (by omega)
    have hc := hH x (List.mem_of_getElem? hx)
    have hix := fun H k => ixs_nat H enc (k := k) (s := s) hx (hs x)
    have hsub : subs ((enc x).map V.p) 0 s = some ((enc x).map V.p) := by simp [subs, hs x, List.take_of_length_le]
    have ho := hout x
    cases hp : p x with
    | true =>
      rw [hp] at hc
      simp [idxE, idxR, hlt, hix, hsub, hval, hnorm, hc]
      rw [hnorm] at ho
      simp [ho]
    | false =>
      rw [hp] at hc
      rw [hnorm] at ho
      simp [idxE, hlt, hix, hsub, hval, hnorm, ho, hc, w]
  · rintro _ -
    simp [idxE, idxX]
theorem idx_ev (hp : E.prims f = none) (hf : E.fns f = some (idxI s agg)) (hs : ∀ x, (enc x).length = s) (hval : ∀ x, aggOr agg ((enc x).map .p) = some (val x)) (hout : ∀ x, (normA (val x)).outB = true) (hnorm : ∀ x, normA (val x) = val x)
    (l : List α) (hn : l.length ≤ 9223372036854775806) (hv : V) (p : α → Bool) (H : Heap) (hH : ∀ x ∈ l, clD E hv [val x] H = some (vB (p x), none)) :
    clD E (.p (.fn f)) [.p (.sl (l.map enc)), hv] H = some (vI (idxF p 0 l), none) := by
  rw [clD_body E f _ _ _ _ hp hf]
  have key := idx_lp s agg enc val hs hval hout hnorm l hn hv p H H.length hH
  rw [rng_first p (fun i _ => idxR H H.length i)] at key
  rw [idxF_find]
  cases hk : l.findIdx? p with
  | none =>
    rw [hk] at key
    simp [idxE, idxX] at key
    simp [St.enter, enumFrom, key]
  | some k =>
    obtain ⟨x, hx⟩ := findIdx_get hk
    rw [hk] at key
    simp only [hx] at key
    simp [idxE, idxR] at key
    simp [St.enter, enumFrom, key]
end

/-! ### ContainsFunc -/
def conI (g : FuncId) : IFn := ⟨(.seq (.reg false [⟨some 4, none, .mov (.c (.p (.bool false)))⟩] [0, 1] [])
  (.seq (.reg false [⟨some 5, none, .mov (.t 0)⟩, ⟨some 6, none, .mov (.t 1)⟩, ⟨some 7, none, .call g [.t 5, .t 6] false⟩, ⟨some 8, none, .bin .geq (.t 7) (.c (.p (.int .i64 0)))⟩, ⟨some 4, none, .mov (.t 8)⟩] [4] []) .ret)), [.tmp 4], false⟩
theorem con_ev {α : Type} {E : Env} (f g : FuncId) (hp : E.prims f = none) (hf : E.fns f = some (conI g)) (x hv : V) (p : α → Bool) (l : List α) (H : Heap) (hx : (normA x).outB = true) (hx2 : normA x = x) (ho : (normA hv).outB = true) (ho2 : normA hv = hv)
    (h : clD E (.p (.fn g)) [x, hv] H = some (vI (idxF p 0 l), none)) : clD E (.p (.fn f)) [x, hv] H = some (vB (l.any p), none) := by
  rw [clD_body E f _ _ _ _ hp hf, ← idxF_any p 0 l]
  rw [hx2] at hx
  rw [ho2] at ho
  simp [St.enter, enumFrom, hx2, hx, ho2, ho, h]

/-! ### Two lists, side by side -/
/-- Whether all pairs are such, up to the shorter one. -/
def all2 {α β : Type} (p : α → β → Bool) : List α → List β → Bool
  | x :: r, y :: s => p x y && all2 p r s
  | _, _ => true
theorem all2_eq {α : Type} [DecidableEq α] : ∀ (a b : List α), a.length = b.length → all2 (fun x y => decide (x = y)) a b = decide (a = b)
  | [], [], _ => rfl
  | x :: r, y :: s, h => by
    have ih := all2_eq r s (by simpa using h)
    simp only [all2, ih]
    by_cases hx : x = y <;> simp [hx]
/-- A loop through two lists at once: its step. -/
def step2 {α β ρ : Type} (p : α → β → Bool) (b : List β) (bad : ρ) (_ : Unit) (i : Nat) (x : α) : Unit ⊕ ρ := match b[i]? with | some y => (if p x y = true then .inl () else .inr bad) | none => .inr bad
theorem step2_some {α β ρ : Type} {p : α → β → Bool} {b : List β} {bad : ρ} {u : Unit} {i : Nat} {x : α} {y : β} (h : b[i]? = some y) : step2 p b bad u i x = if p x y = true then .inl () else .inr bad := by unfold step2; rw [h]
theorem rng_all2 {α β ρ : Type} (p : α → β → Bool) (b : List β) (bad fin : ρ) : ∀ (l : List α) (i : Nat), i + l.length ≤ b.length →
    rng (step2 p b bad) (fun _ => fin) () i l = if all2 p l (b.drop i) = true then fin else bad
  | [], i, _ => by simp [rng, all2]
  | x :: r, i, h => by
    simp only [List.length_cons] at h
    have hi : i < b.length := by omega
    rw [List.drop_eq_getElem_cons hi]
    simp only [rng, all2, step2_some (List.getElem?_eq_getElem hi)]
    by_cases hp : p x b[i] = true
    · have ih := rng_all2 p b bad fin r (i + 1) (by omega)
      simp only [hp, if_true, Bool.true_and]
      exact ih
    · simp [hp]

/-! ### slices.Equal -/
def eqL (s : Nat) (sh : List Bool) : IC := (.loop [0, 1, 12, 13] [] (.seq (.reg false [⟨some 14, none, .bin .lss (.t 13) (.t 12)⟩] [0, 1, 12, 13, 14] [])
      (.seq (.cond (.t 14) .skip (.exit 0))
      (.seq (.block 1 (.seq (.reg false [⟨some 15, none, .mov (.t 13)⟩, ⟨some 5, none, .mov (.t 15)⟩] [0, 1, 5, 12, 13] [])
        (.seq (.reg true [⟨some 16, none, .mov (.t 0)⟩, ⟨some 17, none, .mov (.t 5)⟩, ⟨some 18, none, .ixs (.t 16) (.t 17) s⟩, ⟨some 19, none, .ld (.t 18) s true⟩, ⟨some 20, none, .mov (.t 1)⟩, ⟨some 21, none, .mov (.t 5)⟩,
          ⟨some 22, none, .ixs (.t 20) (.t 21) s⟩, ⟨some 23, none, .ld (.t 22) s true⟩, ⟨some 24, none, .eqa true sh (.t 19) (.t 23)⟩] [0, 1, 12, 13, 24] [])
        (.cond (.t 24) (.seq (.reg false [⟨some 4, none, .mov (.c (.p (.bool false)))⟩] [4] []) .ret) .skip))))
      (.reg false [⟨some 25, none, .bin .add (.t 13) (.c (.p (.int .i64 1)))⟩, ⟨some 13, none, .mov (.t 25)⟩] [0, 1, 12, 13] [])))))
def eqI (s : Nat) (sh : List Bool) : IFn := ⟨(.seq (.reg false [⟨some 4, none, .mov (.c (.p (.bool false)))⟩] [0, 1] [])
  (.seq (.seq (.reg false [⟨some 6, none, .mov (.t 0)⟩, ⟨some 7, none, .len (.t 6)⟩, ⟨some 8, none, .mov (.t 1)⟩, ⟨some 9, none, .len (.t 8)⟩, ⟨some 10, none, .bin .neq (.t 7) (.t 9)⟩] [0, 1, 10] [])
  (.cond (.t 10) (.seq (.reg false [⟨some 4, none, .mov (.c (.p (.bool false)))⟩] [4] []) .ret) .skip))
  (.seq (.seq (.reg false [⟨some 11, none, .mov (.t 0)⟩, ⟨some 12, none, .len (.t 11)⟩, ⟨some 13, none, .mov (.c (.p (.int .i64 0)))⟩] [0, 1, 12, 13] []) (.block 0 (eqL s sh)))
  (.seq (.reg false [⟨some 4, none, .mov (.c (.p (.bool true)))⟩] [4] []) .ret)))), [.tmp 4], false⟩

section
variable {α : Type} [DecidableEq α] {E : Env} (f : FuncId) (s : Nat) (sh : List Bool) (enc : α → List PV)
def eqE (a b : V) (n : Nat) (H : Heap) (B : Nat) (i : Nat) : St := ⟨[(0, a), (1, b), (12, vI n), (13, vI i)], [], H, B, []⟩
def eqX (a b : V) (n : Nat) (H : Heap) (B : Nat) : Ex × St := (.exit 0, ⟨[(0, a), (1, b), (12, vI n), (13, vI n), (14, .p (.bool false))], [], H, B, []⟩)
def eqBad (H : Heap) (B : Nat) : Ex × St := (.ret, ⟨[(4, vB false)], [], H, B, []⟩)
theorem eq_ev (hp : E.prims f = none) (hf : E.fns f = some (eqI s sh)) (hs : ∀ x, (enc x).length = s) (hagg : ∀ x, aggOr true ((enc x).map .p) = some (.agg ((enc x).map .p))) (heq : ∀ x y, eqCells sh ((enc x).map .p) ((enc y).map .p) = some (decide (x = y)))
    (a b : List α) (hn : a.length ≤ 9223372036854775806) (H : Heap) : clD E (.p (.fn f)) [.p (.sl (a.map enc)), .p (.sl (b.map enc))] H = some (vB (decide (a = b)), none) := by
  rw [clD_body E f _ _ _ _ hp hf]
  by_cases hl : a.length = b.length
  · have key : evD E (eqL s sh) (eqE (.p (.sl (a.map enc))) (.p (.sl (b.map enc))) a.length H H.length 0) = some (rng (step2 (fun x y => decide (x = y)) b (eqBad H H.length)) (fun _ => eqX (.p (.sl (a.map enc))) (.p (.sl (b.map enc))) a.length H H.length) () 0 a) := by
      unfold eqL
      refine evD_rng a (fun (_ : Unit) i => eqE (.p (.sl (a.map enc))) (.p (.sl (b.map enc))) a.length H H.length i) (fun _ _ => True) _ (fun _ => eqX (.p (.sl (a.map enc))) (.p (.sl (b.map enc))) a.length H H.length) (fun _ _ => rfl) ?_ ?_ () 0 trivial (Nat.zero_le _)
      · rintro _ i x - hx
        have hlt := (List.getElem?_eq_some_iff.1 hx).1
        have hy : b[i]? = some (b[i]'(by omega)) := List.getElem?_eq_getElem (by omega)
        generalize (b[i]'(by omega)) = y at hy
        have w : IntKind.i64.wrap ((i : Int) + 1) = ((i + 1 : Nat) : Int) := w64 (by omega) (by omega)
        have hix := fun H k => ixs_nat H enc (k := k) (s := s) hx (hs x)
        have hiy := fun H k => ixs_nat H enc (k := k) (s := s) hy (hs y)
        have hsub : ∀ x, subs ((enc x).map V.p) 0 s = some ((enc x).map V.p) := fun x => by simp [subs, hs x, List.take_of_length_le]
        rw [step2_some hy]
        by_cases hxy : x = y
        · simp [eqE, hlt, hix, hiy, hsub, hagg, heq, hxy, w]
        · simp [eqE, eqBad, hlt, hix, hiy, hsub, hagg, heq, hxy]
      · rintro _ -
        simp [eqE, eqX]
    rw [rng_all2 (fun x y => decide (x = y)) b (eqBad H H.length) (eqX (.p (.sl (a.map enc))) (.p (.sl (b.map enc))) a.length H H.length) a 0 (by omega), List.drop_zero, all2_eq a b hl] at key
    have hl' : (a.length : Int) = b.length := by omega
    by_cases h : a = b
    · rw [if_pos (by simpa using h)] at key
      subst h
      simp [eqE, eqX] at key
      simp [St.enter, enumFrom, key]
    · rw [if_neg (by simpa using h)] at key
      simp [eqE, eqBad, hl] at key
      simp [St.enter, enumFrom, hl', key, h]
  · have hl' : ¬ (a.length : Int) = b.length := by omega
    have h : a ≠ b := by rintro rfl; exact hl rfl
    simp [St.enter, enumFrom, hl', h]
end
end Go.Eng

/- The layer queue: counts of classes. -/
namespace Go.EnvOf
open Go Go.Eng
set_option maxRecDepth 100000

structure C3 where
  a : Int
  b : Int
  c : Int
  deriving Inhabited, DecidableEq
abbrev vC (x : C3) : V := .agg [vI x.a, vI x.b, vI x.c]
abbrev okC3 (x : C3) : Prop := I64 x.a ∧ I64 x.b ∧ I64 x.c
abbrev big : Int := 1073741824
def held (n lo hi : Int) : Int := min (max n lo) hi
theorem held_lo {n lo hi : Int} (h : lo ≤ hi) : lo ≤ held n lo hi := by unfold held; omega
theorem held_hi {n lo hi : Int} : held n lo hi ≤ hi := by unfold held; omega

theorem awake23 : clD EE (.p (.fn 67)) [] [] = some (.p (.bool true), none) := by
  rw [clD_iff]; exact ⟨200, by kernel_rfl⟩

theorem held_ev (n lo hi : Int) (H : Heap) : clD EE (.p (.fn 127)) [vI n, vI lo, vI hi] H = some (vI (held n lo hi), none) := by
  rw [clD_body _ _ _ _ _ _ (noP _) fn127]
  simp [St.enter, enumFrom, held]
theorem rheld_ev (n lo hi : Int) (h : lo ≤ hi) (H : Heap) : clD EE (.p (.fn 126)) [vI n, vI lo, vI hi] H = some (vI (held n lo hi), none) := by
  rw [clD_body _ _ _ _ _ _ (noP _) fn126]
  have e : max lo (min n hi) = held n lo hi := by unfold held; omega
  simp [St.enter, enumFrom, e]

/-! ### Through two counts, class by class -/
def zipF (lo : Int) (f : Int → Int → Int) (x y : C3) : C3 :=
  ⟨held (f (held x.a lo big) (held y.a lo big)) lo big, held (f (held x.b lo big) (held y.b lo big)) lo big, held (f (held x.c lo big) (held y.c lo big)) lo big⟩
theorem zip_ev (x y : C3) (lo : Int) (k : Nat) (f : Int → Int → Int) (hl : lo ≤ big) (H : Heap)
    (h : ∀ a b, lo ≤ a → a ≤ big → lo ≤ b → b ≤ big → clD EE (.p (.fn k)) [vI a, vI b] H = some (vI (f a b), none)) :
    clD EE (.p (.fn 123)) [vC x, vC y, vI lo, .p (.fn k)] H = some (vC (zipF lo f x y), none) := by
  rw [clD_body _ _ _ _ _ _ (noP _) fn123]
  have w1 : IntKind.i64.wrap 1 = 1 := by decide
  have w2 : IntKind.i64.wrap 2 = 2 := by decide
  have w3 : IntKind.i64.wrap 3 = 3 := by decide
  have hh := fun n => held_ev n lo big H
  have hf := fun a b => h (held a lo big) (held b lo big) (held_lo hl) held_hi (held_lo hl) held_hi
  simp only [big] at hh hf
  simp [St.enter, enumFrom, lp123_0, evD_loop, ixaV, subs, setSubs, hh, hf, w1, w2, w3, zipF]
def addC (x y : C3) : C3 := zipF (-big) (· + ·) x y
theorem add_ev (x y : C3) (H : Heap) : clD EE (.p (.fn 69)) [vC x, vC y] H = some (vC (addC x y), none) := by
  rw [clD_body _ _ _ _ _ _ (noP _) fn69]
  have hf : ∀ a b : Int, -big ≤ a → a ≤ big → -big ≤ b → b ≤ big → clD EE (.p (.fn 124)) [vI a, vI b] H = some (vI (a + b), none) := by
    intro a b h1 h2 h3 h4
    rw [clD_body _ _ _ _ _ _ (noP _) fn124]
    simp only [big] at h1 h2 h3 h4
    have w : IntKind.i64.wrap (a + b) = a + b := w64 (by omega) (by omega)
    simp [St.enter, enumFrom, w]
  have key := zip_ev x y (-big) _ (· + ·) (by decide) H hf
  simp only [big] at key
  simp [St.enter, enumFrom, subs, setSubs, key, addC]
def readyC (x y : C3) : C3 := zipF 0 (fun a b => b - a) x y
theorem ready_ev (x y : C3) (H : Heap) : clD EE (.p (.fn 77)) [vC x, vC y] H = some (vC (readyC x y), none) := by
  rw [clD_body _ _ _ _ _ _ (noP _) fn77]
  have hf : ∀ a b : Int, 0 ≤ a → a ≤ big → 0 ≤ b → b ≤ big → clD EE (.p (.fn 128)) [vI a, vI b] H = some (vI (b - a), none) := by
    intro a b h1 h2 h3 h4
    rw [clD_body _ _ _ _ _ _ (noP _) fn128]
    simp only [big] at h1 h2 h3 h4
    have w : IntKind.i64.wrap (b - a) = b - a := w64 (by omega) (by omega)
    simp [St.enter, enumFrom, w]
  have key := zip_ev x y 0 _ (fun a b => b - a) (by decide) H hf
  simp [St.enter, enumFrom, subs, setSubs, key, readyC]
def sumC (x : C3) : Int := held x.a (-big) big + held x.b (-big) big + held x.c (-big) big
theorem sum_ev (x : C3) (H : Heap) : clD EE (.p (.fn 73)) [vC x] H = some (vI (sumC x), none) := by
  rw [clD_body _ _ _ _ _ _ (noP _) fn73]
  have w1 : IntKind.i64.wrap 1 = 1 := by decide
  have w2 : IntKind.i64.wrap 2 = 2 := by decide
  have w3 : IntKind.i64.wrap 3 = 3 := by decide
  have hh := fun n => held_ev n (-big) big H
  have b := fun n => And.intro (held_lo (n := n) (lo := -big) (hi := big) (by decide)) (held_hi (n := n) (lo := -big) (hi := big))
  have b1 := b x.a
  have b2 := b x.b
  have b3 := b x.c
  unfold sumC
  simp only [big] at hh b1 b2 b3 ⊢
  have w4 : IntKind.i64.wrap (held x.a (-1073741824) 1073741824 + held x.b (-1073741824) 1073741824) = held x.a (-1073741824) 1073741824 + held x.b (-1073741824) 1073741824 := w64 (by omega) (by omega)
  have w5 : IntKind.i64.wrap (held x.a (-1073741824) 1073741824 + held x.b (-1073741824) 1073741824 + held x.c (-1073741824) 1073741824) = held x.a (-1073741824) 1073741824 + held x.b (-1073741824) 1073741824 + held x.c (-1073741824) 1073741824 := w64 (by omega) (by omega)
  have w0 : IntKind.i64.wrap (held x.a (-1073741824) 1073741824) = held x.a (-1073741824) 1073741824 := w64 (by omega) (by omega)
  simp [St.enter, enumFrom, lp73_0, evD_loop, ixvV, subs, setSubs, hh, w0, w1, w2, w3, w4, w5]
/-! ### Within -/
def inC (x y : C3) : Bool := decide (x.a ≤ y.a) && decide (x.b ≤ y.b) && decide (x.c ≤ y.c)
theorem in_ev (x y : C3) (H : Heap) : clD EE (.p (.fn 75)) [vC x, vC y] H = some (.p (.bool (inC x y)), none) := by
  rw [clD_body _ _ _ _ _ _ (noP _) fn75]
  have w1 : IntKind.i64.wrap 1 = 1 := by decide
  have w2 : IntKind.i64.wrap 2 = 2 := by decide
  have w3 : IntKind.i64.wrap 3 = 3 := by decide
  by_cases h1 : y.a < x.a
  · simp [St.enter, enumFrom, lp75_0, evD_loop, ixvV, ixaV, subs, setSubs, w1, w2, w3, inC, h1, show ¬ x.a ≤ y.a by omega]
  by_cases h2 : y.b < x.b
  · simp [St.enter, enumFrom, lp75_0, evD_loop, ixvV, ixaV, subs, setSubs, w1, w2, w3, inC, h1, h2, show ¬ x.b ≤ y.b by omega]
  by_cases h3 : y.c < x.c
  · simp [St.enter, enumFrom, lp75_0, evD_loop, ixvV, ixaV, subs, setSubs, w1, w2, w3, inC, h1, h2, h3, show ¬ x.c ≤ y.c by omega]
  simp [St.enter, enumFrom, lp75_0, evD_loop, ixvV, ixaV, subs, setSubs, w1, w2, w3, inC, h1, h2, h3]
  omega
end Go.EnvOf

/- The layer queue: the counts up to given ones. -/
namespace Go.EnvOf
open Go Go.Eng
set_option maxRecDepth 100000
def growC (s : C3) (i : Nat) : C3 := match i with | 0 => ⟨s.a + 1, 0, 0⟩ | 1 => ⟨s.a, s.b + 1, 0⟩ | _ => ⟨s.a, s.b, s.c + 1⟩
theorem grow_ev (s : C3) (i : Nat) (hi : i < 3) (ha : 0 ≤ s.a ∧ s.a ≤ 32) (hb : 0 ≤ s.b ∧ s.b ≤ 32) (hc : 0 ≤ s.c ∧ s.c ≤ 32) (H : Heap) : clD EE (.p (.fn 129)) [vC s, vI i] H = some (vC (growC s i), none) := by
  rw [clD_body _ _ _ _ _ _ (noP _) fn129]
  have wa : IntKind.i64.wrap (s.a + 1) = s.a + 1 := w64 (by omega) (by omega)
  have wb : IntKind.i64.wrap (s.b + 1) = s.b + 1 := w64 (by omega) (by omega)
  have wc : IntKind.i64.wrap (s.c + 1) = s.c + 1 := w64 (by omega) (by omega)
  have w1 : IntKind.i64.wrap 1 = 1 := by decide
  have w2 : IntKind.i64.wrap 2 = 2 := by decide
  have w3 : IntKind.i64.wrap 3 = 3 := by decide
  match i, hi with
  | 0, _ => simp [St.enter, enumFrom, subs, setSubs, ixaV, slcaV, clrI, growC, wa, w1]
  | 1, _ => simp [St.enter, enumFrom, subs, setSubs, ixaV, slcaV, clrI, growC, wb, w2]
  | 2, _ => simp [St.enter, enumFrom, subs, setSubs, ixaV, slcaV, clrI, growC, wc, w3]
end Go.EnvOf

/- The layer queue: taking the next floats of each class. -/
namespace Go.EnvOf
open Go Go.Eng
set_option maxRecDepth 100000

theorem okEl_upV : ∀ (es : List Int), (upV (es.map encI)).all (okEl 1) = true
  | [] => rfl
  | x :: r => by simp only [List.map_cons, upV_cons, List.all_cons, okEl_upV r, Bool.and_true]; rfl
theorem readI_up : ∀ (l : List Int), readI (upV (l.map encI)) = some l
  | [] => rfl
  | x :: r => by
    have := readI_up r
    simp only [List.map_cons, upV_cons] at this ⊢
    simp only [encI, List.map_cons, List.map_nil, readI, this]
theorem insI_len (x : Int) : ∀ l, (insI x l).length = l.length + 1
  | [] => rfl
  | y :: r => by unfold insI; split <;> simp [insI_len x r]
theorem isort_len : ∀ l, (isort l).length = l.length
  | [] => rfl
  | x :: r => by simp [isort, insI_len, isort_len r]
theorem intEl_up (l : List Int) : l.map intEl = upV (l.map encI) := by simp [upV, intEl, encI]

theorem clD_prim (E : Env) (f : FuncId) (args : List V) (H : Heap) (g : List V → Heap → Option CR) (h : E.prims f = some g) : clD E (.p (.fn f)) args H = g args H := by
  rw [clD_fn]; simp only [clStep.go, h]
theorem sort_none (H : Heap) (id tot off : Nat) : clD EE (.p (.fn 122)) [.row id tot off 0] H = some (.tup [], none) := by
  rw [clD_prim _ _ _ _ _ sortP_fn]; rfl
theorem sort_row (H : Heap) (l : List Int) (hl : l.length < most) (hne : l ≠ []) (id : Nat) (h : Go.Eng.rowAt H id = some (1, upV (l.map encI))) : clD EE (.p (.fn 122)) [.row id l.length 0 l.length] H = some (.tup [], some (H.set id (.row 1 (upV ((isort l).map encI))), [id])) := by
  obtain ⟨n, hn⟩ : ∃ n, l.length = n + 1 := ⟨l.length - 1, by cases l; exact absurd rfl hne; simp⟩
  rw [clD_prim _ _ _ _ _ sortP_fn, hn]
  simp [sortP, sortR, h, readI_up, hn, hn ▸ hl, intEl_up]

/-! ### A class's share -/
theorem figOf_len (c : Int) : ∀ (l : List Float) (i : Nat), (figOf c i l).length ≤ l.length
  | [], _ => by simp [figOf]
  | x :: r, i => by
    have := figOf_len c r (i + 1)
    simp only [figOf, List.length_append, List.length_cons]
    split <;> simp <;> omega
def okU (n : Nat) (u w : Int) : Prop := 0 ≤ u ∧ 0 ≤ w ∧ u ≤ n ∧ w ≤ n - u
instance (n : Nat) (u w : Int) : Decidable (okU n u w) := inferInstanceAs (Decidable (_ ∧ _))
def seg (F : List Int) (u w : Int) : List Int := (F.drop u.toNat).take w.toNat
theorem seg_len {F : List Int} {u w : Int} (h : okU F.length u w) : (seg F u w).length = w.toNat := by
  unfold okU at h; unfold seg; rw [List.length_take, List.length_drop]; omega
theorem slc_seg (F : List Int) (u w : Int) (h : okU F.length u w) (H : Heap) : slcI H 1 (sli F) (some (vI u)) (some (vI (u + w))) = some (sli (seg F u w)) := by
  unfold okU at h
  have e : (u + w - u).toNat = w.toNat := by omega
  have c : 0 ≤ u ∧ u ≤ u + w ∧ u + w ≤ F.length := by omega
  have hh : headOK 1 (F.map encI) = true := by cases F <;> rfl
  have g : (u : Int) ≤ u + w := by omega
  have g2 : u + w ≤ (F.length : Int) := by omega
  simp [slcI, slcV, seg, e, hh, h.1, g, g2, h.2.1, List.map_take, List.map_drop]
def tkE (l : List Float) (x y : C3) (H : Heap) (d : List Nat) (out : List Int) (i : Nat) : St :=
  ⟨[(0, vFloats l), (4, .lptr 4 0), (5, .lptr 5 0), (8, .row H.length out.length 0 out.length), (11, vI i)], [(4, [vI x.a, vI x.b, vI x.c]), (5, [vI y.a, vI y.b, vI y.c])], H ++ [.row 1 (upV (out.map encI))], H.length, d⟩
def tkB (H : Heap) (d : List Nat) (out : List Int) : Ex × St := (.ret, ⟨[(6, .nils), (7, vB false)], [], H ++ [.row 1 (upV (out.map encI))], H.length, d⟩)
def tkX (l : List Float) (x y : C3) (H : Heap) (d : List Nat) (out : List Int) : Ex × St :=
  (.exit 0, ⟨[(0, vFloats l), (4, .lptr 4 0), (5, .lptr 5 0), (8, .row H.length out.length 0 out.length), (11, vI 3), (12, vB false)], [(4, [vI x.a, vI x.b, vI x.c]), (5, [vI y.a, vI y.b, vI y.c])], H ++ [.row 1 (upV (out.map encI))], H.length, d⟩)
def tkS (l : List Float) (bad : List Int → Ex × St) (out : List Int) (i : Nat) (p : Int × Int) : List Int ⊕ (Ex × St) := if okU (figOf i 0 l).length p.1 p.2 then .inl (out ++ seg (figOf i 0 l) p.1 p.2) else .inr (bad out)
set_option maxHeartbeats 2000000 in
theorem take_lp (l : List Float) (x y : C3) (H : Heap) (d : List Nat) (hl : l.length ≤ 100000) :
    evD EE lp68_0 (tkE l x y H d [] 0) = some (rng (tkS l (tkB H d)) (tkX l x y H d) [] 0 [(x.a, y.a), (x.b, y.b), (x.c, y.c)]) := by
  unfold lp68_0
  refine evD_rng [(x.a, y.a), (x.b, y.b), (x.c, y.c)] (tkE l x y H d) (fun out i => out.length ≤ 100000 * i) (tkS l (tkB H d)) (tkX l x y H d) (fun _ _ => rfl) ?_ ?_ [] 0 (by simp) (Nat.zero_le _)
  · intro out i p hi hp
    have hlt : i < 3 := (List.getElem?_eq_some_iff.1 hp).1
    have hF := figOf_len i l 0
    have hm : out.length + 100000 < most := by unfold most; omega
    unfold tkS
    have hf := fun H => figOf_ev l i H (by omega)
    generalize figOf i 0 l = F at *
    obtain ⟨u, w⟩ := p
    simp only
    have w1 : IntKind.i64.wrap 1 = 1 := by decide
    have w2 : IntKind.i64.wrap 2 = 2 := by decide
    have w3 : IntKind.i64.wrap 3 = 3 := by decide
    by_cases hok : okU F.length u w
    · rw [if_pos hok]
      have hs := slc_seg F u w hok
      have hsl := seg_len hok
      obtain ⟨a1, a2, a3, a4⟩ := id hok
      have wu : IntKind.i64.wrap (u + w) = u + w := w64 (by omega) (by omega)
      have wn : IntKind.i64.wrap ((F.length : Int) - u) = (F.length : Int) - u := w64 (by omega) (by omega)
      have b1 : ¬ u < 0 := by omega
      have b2 : ¬ w < 0 := by omega
      have b3 : ¬ (F.length : Int) < u := by omega
      have b4 : ¬ (F.length : Int) - u < w := by omega
      have hmm : out.length + (seg F u w).length < most := by omega
      refine ⟨?_, by rw [List.length_append]; omega⟩
      match i, hlt with
      | 0, _ | 1, _ | 2, _ =>
        simp at hp hf
        obtain ⟨rfl, rfl⟩ := hp
        simp (config := {maxSteps := 2000000}) [tkE, ixaV, subs, hf, hs, wu, wn, w1, w2, w3, b1, b2, b3, b4, okEl_upV, hmm]
    · rw [if_neg hok]
      refine ⟨?_, by simp [tkB]⟩
      have wn : 0 ≤ u → u ≤ F.length → IntKind.i64.wrap ((F.length : Int) - u) = (F.length : Int) - u := fun _ _ => w64 (by omega) (by omega)
      match i, hlt with
      | 0, _ | 1, _ | 2, _ =>
        simp at hp hf
        obtain ⟨e1, e2⟩ := hp
        by_cases c1 : u < 0
        · simp [tkE, tkB, ixaV, subs, hf, wn, e1, e2, c1]
        by_cases c2 : w < 0
        · simp [tkE, tkB, ixaV, subs, hf, wn, e1, e2, c1, c2]
        by_cases c3 : (F.length : Int) < u
        · simp [tkE, tkB, ixaV, subs, hf, wn, e1, e2, c1, c2, c3]
        have wn := wn (by omega) (by omega)
        have c4 : (F.length : Int) - u < w := by unfold okU at hok; omega
        simp [tkE, tkB, ixaV, subs, hf, wn, e1, e2, c1, c2, c3, c4]
  · intro out hi
    refine ⟨?_, by simp [tkX]⟩
    simp [tkE, tkX]
/-! ### Taking -/
def okT (l : List Float) (x y : C3) : Prop := okU (figOf 0 0 l).length x.a y.a ∧ okU (figOf 1 0 l).length x.b y.b ∧ okU (figOf 2 0 l).length x.c y.c
instance (l : List Float) (x y : C3) : Decidable (okT l x y) := inferInstanceAs (Decidable (_ ∧ _))
def raw (l : List Float) (x y : C3) : List Int := seg (figOf 0 0 l) x.a y.a ++ seg (figOf 1 0 l) x.b y.b ++ seg (figOf 2 0 l) x.c y.c
def takeL (l : List Float) (x y : C3) : List Int := isort (raw l x y)
theorem seg_hi (F : List Int) (u w : Int) : (seg F u w).length ≤ F.length := by unfold seg; rw [List.length_take, List.length_drop]; omega
theorem raw_len (l : List Float) (x y : C3) : (raw l x y).length ≤ 3 * l.length := by
  have h0 := seg_hi (figOf 0 0 l) x.a y.a
  have h1 := seg_hi (figOf 1 0 l) x.b y.b
  have h2 := seg_hi (figOf 2 0 l) x.c y.c
  have g0 := figOf_len 0 l 0
  have g1 := figOf_len 1 l 0
  have g2 := figOf_len 2 l 0
  unfold raw
  simp only [List.length_append]
  omega
def vTake (l : List Float) (x y : C3) : V := if okT l x y then .tup [sli (takeL l x y), vB true] else .tup [sli [], vB false]
theorem isort_nil {l : List Int} (h : isort l = []) : l = [] := by
  have := isort_len l
  rw [h] at this
  cases l <;> simp_all
theorem take_ev (l : List Float) (x y : C3) (H : Heap) (hl : l.length ≤ 100000) : clD EE (.p (.fn 68)) [vFloats l, vC x, vC y] H = some (vTake l x y, none) := by
  rw [clD_body _ _ _ _ _ _ (noP _) fn68]
  have key := take_lp l x y H [] hl
  simp only [rng, tkS, List.nil_append] at key
  unfold vTake takeL
  have w0 : ((0 : Nat) : Int) = 0 := rfl
  have w1 : ((0 + 1 : Nat) : Int) = 1 := rfl
  have w2 : ((0 + 1 + 1 : Nat) : Int) = 2 := rfl
  rw [w0, w1, w2] at key
  have hr := raw_len l x y
  by_cases h : okT l x y
  · obtain ⟨h0, h1, h2⟩ := id h
    simp only [if_pos h0, if_pos h1, if_pos h2] at key
    have e : seg (figOf 0 0 l) x.a y.a ++ seg (figOf 1 0 l) x.b y.b ++ seg (figOf 2 0 l) x.c y.c = raw l x y := rfl
    rw [e] at key
    rw [if_pos h]
    generalize raw l x y = R at *
    simp [tkE, tkX] at key
    by_cases hne : R = []
    · subst hne
      have hn := fun H id tot off => sort_none H id tot off
      simp at key
      simp [St.enter, enumFrom, subs, setSubs, key, hn, isort, idsK, frzK, allO]
    · have hn := fun H => sort_row H R (by unfold most; omega) hne
      have hl := isort_len R
      simp [St.enter, enumFrom, subs, setSubs, key, hn, hl, List.take_of_length_le]
  · rw [if_neg h]
    have kb : ∃ out : List Int, evD EE lp68_0 (tkE l x y H [] [] 0) = some (tkB H [] out) := by
      rw [key]
      by_cases h0 : okU (figOf 0 0 l).length x.a y.a
      · by_cases h1 : okU (figOf 1 0 l).length x.b y.b
        · have h2 : ¬ okU (figOf 2 0 l).length x.c y.c := fun h2 => h ⟨h0, h1, h2⟩
          simp only [if_pos h0, if_pos h1, if_neg h2]
          exact ⟨_, rfl⟩
        · simp only [if_pos h0, if_neg h1]
          exact ⟨_, rfl⟩
      · simp only [if_neg h0]
        exact ⟨_, rfl⟩
    obtain ⟨out, kb⟩ := kb
    clear key
    simp [tkE, tkB] at kb
    simp [St.enter, enumFrom, subs, setSubs, kb]
end Go.EnvOf

/- The layer queue: counting what was taken; the next ones. -/
namespace Go.EnvOf
open Go Go.Eng
set_option maxRecDepth 100000
/-! ### The float at a place -/
def atF (l : List Float) (i : Int) : Option Float := if 0 ≤ i ∧ i < l.length then some (rd l i) else none
theorem at_ev (l : List Float) (i : Int) (H : Heap) : clD EE (.p (.fn 125)) [vFloats l, vI i] H = some (.tup [match atF l i with | some f => vFloat f | none => .agg [vI 0, vI 0, vI 0], vB (atF l i).isSome], none) := by
  rw [clD_body _ _ _ _ _ _ (noP _) fn125]
  unfold atF
  by_cases h1 : i < 0
  · simp [St.enter, enumFrom, subs, setSubs, h1, show ¬ 0 ≤ i by omega]
  by_cases h2 : (l.length : Int) ≤ i
  · simp [St.enter, enumFrom, subs, setSubs, h1, h2, show ¬ i < l.length by omega]
  have hx := rd_get l i (by omega) (by omega)
  have hix := fun H k => ixs_int H encFloat (k := k) (s := 3) (by omega) hx rfl
  simp [St.enter, enumFrom, subs, setSubs, h1, h2, show 0 ≤ i ∧ i < l.length by omega, hix, encFloat]
def bump (s : C3) (c : Int) : C3 := if c = 0 then ⟨s.a + 1, s.b, s.c⟩ else if c = 1 then ⟨s.a, s.b + 1, s.c⟩ else if c = 2 then ⟨s.a, s.b, s.c + 1⟩ else s
def ofS (l : List Float) (s : C3) (x : Int) : C3 := match atF l x with | some f => bump s f.c | none => s
def ofL (l : List Float) (xs : List Int) : C3 := xs.foldl (ofS l) ⟨0, 0, 0⟩
def ofE (l : List Float) (xs : List Int) (H : Heap) (s : C3) (i : Nat) : St :=
  ⟨[(0, vFloats l), (4, .lptr 4 0), (5, .lptr 5 0), (10, sli xs), (11, vI xs.length), (12, vI i)], [(4, [vI 0, vI 0, vI 0]), (5, [vI s.a, vI s.b, vI s.c])], H, H.length, []⟩
def ofX (l : List Float) (xs : List Int) (H : Heap) (s : C3) : Ex × St :=
  (.exit 0, ⟨[(0, vFloats l), (4, .lptr 4 0), (5, .lptr 5 0), (10, sli xs), (11, vI xs.length), (12, vI xs.length), (13, vB false)], [(4, [vI 0, vI 0, vI 0]), (5, [vI s.a, vI s.b, vI s.c])], H, H.length, []⟩)
theorem of_lp (l : List Float) (xs : List Int) (H : Heap) (hl : l.length ≤ 100000) (hx : xs.length ≤ 1000000) :
    evD EE lp71_0 (ofE l xs H ⟨0, 0, 0⟩ 0) = some (ofX l xs H (ofL l xs)) := by
  have hf : ∀ (xs : List Int) (s : C3) (i : Nat), fold (fun s _ x => ofS l s x) s i xs = xs.foldl (ofS l) s := by
    intro xs
    induction xs with
    | nil => intro s i; rfl
    | cons x r ih => intro s i; simp only [fold, List.foldl_cons, ih]
  unfold ofL
  rw [← hf xs ⟨0, 0, 0⟩ 0]
  unfold lp71_0
  refine Eq.trans (evD_fold xs (ofE l xs H) (fun s i => (0 ≤ s.a ∧ s.a ≤ i) ∧ (0 ≤ s.b ∧ s.b ≤ i) ∧ (0 ≤ s.c ∧ s.c ≤ i)) (fun s _ x => ofS l s x) (ofX l xs H) (fun _ _ => rfl) ?_ ?_ ⟨0, 0, 0⟩ 0 (by simp) (Nat.zero_le _)) (by rw [List.drop_zero])
  · intro s i x hi hp
    have hlt := (List.getElem?_eq_some_iff.1 hp).1
    have hix := fun H k => ixs_nat H encI (k := k) (s := 1) hp rfl
    have ha := fun H => at_ev l x H
    have w : IntKind.i64.wrap ((i : Int) + 1) = ((i + 1 : Nat) : Int) := w64 (by omega) (by omega)
    have wa : IntKind.i64.wrap (s.a + 1) = s.a + 1 := w64 (by omega) (by omega)
    have wb : IntKind.i64.wrap (s.b + 1) = s.b + 1 := w64 (by omega) (by omega)
    have wc : IntKind.i64.wrap (s.c + 1) = s.c + 1 := w64 (by omega) (by omega)
    unfold ofS
    cases hat : atF l x with
    | none =>
      rw [hat] at ha
      refine ⟨?_, by simp only; omega⟩
      simp [ofE, hlt, hix, encI, subs, setSubs, ha, w]
    | some f =>
      rw [hat] at ha
      obtain ⟨f1, f2, f3⟩ := f
      simp only at ha ⊢
      unfold bump
      by_cases c1 : f1 < 0
      · rw [if_neg (by omega), if_neg (by omega), if_neg (by omega)]
        refine ⟨?_, by omega⟩
        simp [ofE, hlt, hix, encI, subs, setSubs, ha, w, show ¬ 0 ≤ f1 by omega]
      by_cases c2 : 3 ≤ f1
      · rw [if_neg (by omega), if_neg (by omega), if_neg (by omega)]
        refine ⟨?_, by omega⟩
        simp [ofE, hlt, hix, encI, subs, setSubs, ha, w, show 0 ≤ f1 by omega, show ¬ f1 < 3 by omega]
      have c : f1 = 0 ∨ f1 = 1 ∨ f1 = 2 := by omega
      rcases c with rfl | rfl | rfl
      · refine ⟨?_, by simp; omega⟩
        simp [ofE, hlt, hix, encI, subs, setSubs, ixaV, ha, w, wa]
      · refine ⟨?_, by simp; omega⟩
        simp [ofE, hlt, hix, encI, subs, setSubs, ixaV, ha, w, wb]
      · refine ⟨?_, by simp; omega⟩
        simp [ofE, hlt, hix, encI, subs, setSubs, ixaV, ha, w, wc]
  · intro s hi
    refine ⟨?_, by simp [ofX]⟩
    simp [ofE, ofX]
theorem of_ev (l : List Float) (xs : List Int) (H : Heap) (hl : l.length ≤ 100000) (hx : xs.length ≤ 1000000) : clD EE (.p (.fn 71)) [vFloats l, sli xs] H = some (vC (ofL l xs), none) := by
  rw [clD_body _ _ _ _ _ _ (noP _) fn71]
  have key := of_lp l xs H hl hx
  simp [ofE, ofX] at key
  simp [St.enter, enumFrom, subs, setSubs, key]

/-! ### Equal lists of numbers -/
def qB (H : Heap) : Ex × St := (.ret, ⟨[(4, vB false)], [], H, H.length, []⟩)
def qE (a b : List Int) (H : Heap) (i : Nat) : St := ⟨[(0, sli a), (1, sli b), (12, vI a.length), (13, vI i)], [], H, H.length, []⟩
def qX (a b : List Int) (H : Heap) : Ex × St := (.exit 0, ⟨[(0, sli a), (1, sli b), (12, vI a.length), (13, vI a.length), (14, vB false)], [], H, H.length, []⟩)
theorem eqInts_lp (a b : List Int) (H : Heap) (hl : a.length = b.length) (ha : a.length ≤ 1000000) : evD EE lp89_0 (qE a b H 0) = some (rng (step2 (fun x y => decide (x = y)) b (qB H)) (fun _ => qX a b H) () 0 a) := by
  unfold lp89_0
  refine evD_rng a (fun (_ : Unit) i => qE a b H i) (fun _ _ => True) _ (fun _ => qX a b H) (fun _ _ => rfl) ?_ ?_ () 0 trivial (Nat.zero_le _)
  · rintro _ i x - hx
    have hlt := (List.getElem?_eq_some_iff.1 hx).1
    have hy : b[i]? = some (b[i]'(by omega)) := List.getElem?_eq_getElem (by omega)
    generalize (b[i]'(by omega)) = y at hy
    have w : IntKind.i64.wrap ((i : Int) + 1) = ((i + 1 : Nat) : Int) := w64 (by omega) (by omega)
    have hix := fun H k => ixs_nat H encI (k := k) (s := 1) hx rfl
    have hiy := fun H k => ixs_nat H encI (k := k) (s := 1) hy rfl
    rw [step2_some hy]
    by_cases hxy : x = y
    · simp [qE, hlt, hix, hiy, hxy, w, encI, subs]
    · simp [qE, qB, hlt, hix, hiy, hxy, encI, subs]
  · rintro _ -
    simp [qE, qX]
theorem eqInts_ev (a b : List Int) (H : Heap) (ha : a.length ≤ 1000000) : clD EE (.p (.fn 89)) [sli a, sli b] H = some (vB (decide (a = b)), none) := by
  rw [clD_body _ _ _ _ _ _ (noP _) fn89]
  by_cases hl : a.length = b.length
  · have key := eqInts_lp a b H hl ha
    rw [rng_all2 (fun x y => decide (x = y)) b (qB H) (qX a b H) a 0 (by omega), List.drop_zero, all2_eq a b hl] at key
    have hl' : (a.length : Int) = b.length := by omega
    by_cases h : a = b
    · rw [if_pos (by simpa using h)] at key
      subst h
      simp [qE, qX] at key
      simp [St.enter, enumFrom, key]
    · rw [if_neg (by simpa using h)] at key
      simp [qE, qB, hl] at key
      simp [St.enter, enumFrom, hl', key, h]
  · have hl' : ¬ (a.length : Int) = b.length := by omega
    have h : a ≠ b := by rintro rfl; exact hl rfl
    simp [St.enter, enumFrom, hl', h]

/-! ### Are these the next ones? -/
def nextQ (l : List Float) (x : C3) (p : List Int) : Bool := decide (okT l x (ofL l p)) && decide (takeL l x (ofL l p) = p)
theorem next_ev (l : List Float) (x : C3) (p : List Int) (H : Heap) (hl : l.length ≤ 100000) (hp : p.length ≤ 1000000) : clD EE (.p (.fn 70)) [vFloats l, vC x, sli p] H = some (vB (nextQ l x p), none) := by
  rw [clD_body _ _ _ _ _ _ (noP _) fn70]
  have h1 := fun H => of_ev l p H hl hp
  have h2 := fun H => take_ev l x (ofL l p) H hl
  have hr := raw_len l x (ofL l p)
  have h3 := fun H => eqInts_ev (takeL l x (ofL l p)) p H (by unfold takeL; rw [isort_len]; omega)
  unfold nextQ
  generalize ofL l p = y at *
  unfold vTake at h2
  by_cases h : okT l x y
  · rw [if_pos h] at h2
    simp [St.enter, enumFrom, subs, setSubs, h1, h2, h3, h]
  · rw [if_neg h] at h2
    simp [St.enter, enumFrom, subs, setSubs, h1, h2, h3, h]
end Go.EnvOf

/- The layer queue: the law of taking twice, in plain terms. -/
namespace Go.EnvOf
open Go Go.Eng

/-! ### The sort -/
theorem insI_cnt (p : Int → Bool) (x : Int) : ∀ l, (insI x l).countP p = (x :: l).countP p
  | [] => rfl
  | y :: r => by
    unfold insI
    split
    · rfl
    · have := insI_cnt p x r
      simp only [List.countP_cons] at this ⊢
      omega
theorem isort_cnt (p : Int → Bool) : ∀ l, (isort l).countP p = l.countP p
  | [] => rfl
  | x :: r => by
    simp only [isort, insI_cnt, List.countP_cons, isort_cnt p r]
theorem isort_count (z : Int) (l : List Int) : (isort l).count z = l.count z := isort_cnt _ l
theorem insI_mem {x y : Int} : ∀ {l : List Int}, y ∈ insI x l → y = x ∨ y ∈ l
  | [], h => by simp [insI] at h; exact .inl h
  | z :: r, h => by
    unfold insI at h
    split at h
    · simpa using h
    · simp only [List.mem_cons] at h ⊢
      rcases h with h | h
      · exact .inr (.inl h)
      · rcases insI_mem h with h | h
        · exact .inl h
        · exact .inr (.inr h)
theorem insI_sorted (x : Int) : ∀ l : List Int, l.Pairwise (· ≤ ·) → (insI x l).Pairwise (· ≤ ·)
  | [], _ => by simp [insI]
  | y :: r, h => by
    unfold insI
    obtain ⟨h1, h2⟩ := List.pairwise_cons.1 h
    split
    · rename_i hxy
      refine List.pairwise_cons.2 ⟨fun z hz => ?_, h⟩
      rcases List.mem_cons.1 hz with rfl | hz
      · exact hxy
      · have := h1 z hz; omega
    · rename_i hxy
      refine List.pairwise_cons.2 ⟨fun z hz => ?_, insI_sorted x r h2⟩
      rcases insI_mem hz with rfl | hz
      · omega
      · exact h1 z hz
theorem isort_sorted : ∀ l : List Int, (isort l).Pairwise (· ≤ ·)
  | [] => .nil
  | x :: r => insI_sorted x _ (isort_sorted r)
theorem strict : ∀ {l : List Int}, l.Pairwise (· ≤ ·) → (∀ z, l.count z ≤ 1) → l.Pairwise (· < ·)
  | [], _, _ => .nil
  | x :: r, h, hc => by
    obtain ⟨h1, h2⟩ := List.pairwise_cons.1 h
    refine List.pairwise_cons.2 ⟨fun z hz => ?_, strict h2 fun z => ?_⟩
    · have h3 := h1 z hz
      have h4 : x ≠ z := by
        rintro rfl
        have h5 := hc x
        have h6 := List.count_pos_iff.2 hz
        rw [List.count_cons_self] at h5
        omega
      omega
    · have := hc z
      rw [List.count_cons] at this
      omega

/-! ### Which places are of a class -/
def hitC (c : Int) (i : Nat) (l : List Float) (z : Int) : Bool := decide ((i : Int) ≤ z) && decide (z < i + l.length) && decide ((rd l (z - i)).c = c)
theorem rd_cons {α : Type} [Inhabited α] (x : α) (r : List α) (k : Int) (h : 0 < k) : rd (x :: r) k = rd r (k - 1) := by
  unfold rd
  have e : k.toNat = (k - 1).toNat + 1 := by omega
  rw [e]; simp
theorem rd_zero {α : Type} [Inhabited α] (x : α) (r : List α) : rd (x :: r) 0 = x := rfl
theorem figOf_cnt (c z : Int) : ∀ (l : List Float) (i : Nat), (figOf c i l).count z = if hitC c i l z = true then 1 else 0
  | [], i => by
    have : hitC c i [] z = false := by unfold hitC; simp; intros; omega
    simp [figOf, this]
  | x :: r, i => by
    have ih := figOf_cnt c z r (i + 1)
    simp only [figOf, List.count_append, ih]
    by_cases hz : z = i
    · subst hz
      have e : hitC c (i + 1) r i = false := by unfold hitC; simp; intros; omega
      have e2 : hitC c i (x :: r) i = decide (x.c = c) := by
        unfold hitC
        rw [Int.sub_self, rd_zero]
        simp; intros; omega
      rw [e, e2]
      by_cases hc : x.c = c <;> simp [hc]
    · have e2 : hitC c i (x :: r) z = hitC c (i + 1) r z := by
        unfold hitC
        by_cases h1 : (i : Int) < z
        · rw [rd_cons x r (z - i) (by omega)]
          have a1 : z - (i : Int) - 1 = z - ((i + 1 : Nat) : Int) := by omega
          rw [a1]
          congr 2
          · simp; constructor <;> intros <;> omega
          · simp only [List.length_cons]; congr 1; apply propext; constructor <;> intros <;> omega
        · have a1 : ¬ (i : Int) ≤ z := by omega
          have a2 : ¬ ((i + 1 : Nat) : Int) ≤ z := by omega
          simp only [a1, a2, decide_false, Bool.false_and]
      rw [e2]
      have : ((if x.c = c then [(i : Int)] else []) : List Int).count z = 0 := by
        split
        · simp [List.count_cons]; omega
        · rfl
      omega
theorem hitC_one {c d i z} {l : List Float} (h1 : hitC c i l z = true) (h2 : hitC d i l z = true) : c = d := by
  unfold hitC at h1 h2; simp at h1 h2; omega
theorem seg_sub (F : List Int) (u w : Int) : (seg F u w).Sublist F := (List.take_sublist _ _).trans (List.drop_sublist _ _)
theorem seg_hit {c : Int} {l : List Float} {u w x : Int} (h : x ∈ seg (figOf c 0 l) u w) : hitC c 0 l x = true := by
  have h1 := List.count_pos_iff.2 ((seg_sub _ _ _).mem h)
  rw [figOf_cnt] at h1
  split at h1
  · assumption
  · omega
theorem raw_one (l : List Float) (x y : C3) (z : Int) : (raw l x y).count z ≤ 1 := by
  unfold raw
  simp only [List.count_append]
  have h0 := (seg_sub (figOf 0 0 l) x.a y.a).count_le z
  have h1 := (seg_sub (figOf 1 0 l) x.b y.b).count_le z
  have h2 := (seg_sub (figOf 2 0 l) x.c y.c).count_le z
  rw [figOf_cnt] at h0 h1 h2
  have c01 := @hitC_one 0 1 0 z l
  have c02 := @hitC_one 0 2 0 z l
  have c12 := @hitC_one 1 2 0 z l
  cases e0 : hitC 0 0 l z <;> cases e1 : hitC 1 0 l z <;> cases e2 : hitC 2 0 l z <;> simp [e0, e1, e2] at h0 h1 h2 c01 c02 c12 <;> omega
theorem takeL_strict (l : List Float) (x y : C3) : (takeL l x y).Pairwise (· < ·) :=
  strict (isort_sorted _) fun z => by unfold takeL; rw [isort_count]; exact raw_one l x y z

/-! ### Counting what was taken -/
theorem ofL_fold (l : List Float) : ∀ (xs : List Int) (s : C3), xs.foldl (ofS l) s = ⟨s.a + xs.countP (hitC 0 0 l), s.b + xs.countP (hitC 1 0 l), s.c + xs.countP (hitC 2 0 l)⟩
  | [], s => by simp
  | x :: r, s => by
    rw [List.foldl_cons, ofL_fold l r]
    simp only [List.countP_cons]
    unfold ofS atF hitC bump
    by_cases h : 0 ≤ x ∧ x < l.length
    · rw [if_pos h]
      have h1 : decide (((0 : Nat) : Int) ≤ x) = true := by simpa using h.1
      have h2 : decide (x < ((0 : Nat) : Int) + l.length) = true := by simpa using h.2
      have h3 : x - ((0 : Nat) : Int) = x := by omega
      simp only [h1, h2, h3, Bool.true_and, decide_eq_true_eq]
      generalize (rd l x).c = c
      by_cases c0 : c = 0
      · subst c0; simp; omega
      by_cases c1 : c = 1
      · subst c1; simp; omega
      by_cases c2 : c = 2
      · subst c2; simp; omega
      simp [c0, c1, c2]
    · rw [if_neg h]
      have h' : (0 ≤ x ∧ x < (l.length : Int)) = False := eq_false h
      simp [h']
theorem seg_same (c : Int) (l : List Float) (u w : Int) : (seg (figOf c 0 l) u w).countP (hitC c 0 l) = (seg (figOf c 0 l) u w).length := List.countP_eq_length.2 fun _ h => seg_hit h
theorem seg_other {c d : Int} (l : List Float) (u w : Int) (h : c ≠ d) : (seg (figOf c 0 l) u w).countP (hitC d 0 l) = 0 := List.countP_eq_zero.2 fun _ hx hd => h (hitC_one (seg_hit hx) hd)
theorem ofL_take (l : List Float) (x y : C3) (h : okT l x y) : ofL l (takeL l x y) = y := by
  obtain ⟨h0, h1, h2⟩ := h
  have s0 := seg_len h0
  have s1 := seg_len h1
  have s2 := seg_len h2
  unfold okU at h0 h1 h2
  obtain ⟨a, b, c⟩ := y
  simp only at *
  unfold ofL takeL
  rw [ofL_fold]
  simp only [isort_cnt]
  unfold raw
  simp only [List.countP_append, seg_same, seg_other l _ _ (show (0 : Int) ≠ 1 by decide), seg_other l _ _ (show (0 : Int) ≠ 2 by decide), seg_other l _ _ (show (1 : Int) ≠ 0 by decide), seg_other l _ _ (show (1 : Int) ≠ 2 by decide), seg_other l _ _ (show (2 : Int) ≠ 0 by decide), seg_other l _ _ (show (2 : Int) ≠ 1 by decide), s0, s1, s2]
  simp only [C3.mk.injEq]
  omega
theorem next_take (l : List Float) (x y : C3) (h : okT l x y) : nextQ l x (takeL l x y) = true := by
  unfold nextQ
  rw [ofL_take l x y h]
  simp [h]

/-! ### Twice -/
def plus (x y : C3) : C3 := ⟨x.a + y.a, x.b + y.b, x.c + y.c⟩
theorem held_id {n lo hi : Int} (h1 : lo ≤ n) (h2 : n ≤ hi) : held n lo hi = n := by unfold held; omega
theorem addC_eq {x y : C3} (ha : 0 ≤ x.a ∧ x.a ≤ 100000) (hb : 0 ≤ x.b ∧ x.b ≤ 100000) (hc : 0 ≤ x.c ∧ x.c ≤ 100000) (ya : 0 ≤ y.a ∧ y.a ≤ 100000) (yb : 0 ≤ y.b ∧ y.b ≤ 100000) (yc : 0 ≤ y.c ∧ y.c ≤ 100000) : addC x y = plus x y := by
  unfold addC zipF plus
  simp only [held, big, C3.mk.injEq]
  omega
theorem okT_small {l : List Float} {x y : C3} (hl : l.length ≤ 100000) (h : okT l x y) : addC x y = plus x y := by
  obtain ⟨h0, h1, h2⟩ := h
  unfold okU at h0 h1 h2
  have g0 := figOf_len 0 l 0
  have g1 := figOf_len 1 l 0
  have g2 := figOf_len 2 l 0
  exact addC_eq (by omega) (by omega) (by omega) (by omega) (by omega) (by omega)
theorem okT_plus {l : List Float} {x y z : C3} (h : okT l x y) (g : okT l (plus x y) z) : okT l x (plus y z) := by
  unfold okT okU plus at *
  simp only at *
  omega
theorem plus_small {l : List Float} {x y z : C3} (hl : l.length ≤ 100000) (h : okT l x y) (g : okT l (plus x y) z) : addC y z = plus y z := by
  have g0 := figOf_len 0 l 0
  have g1 := figOf_len 1 l 0
  have g2 := figOf_len 2 l 0
  unfold okT okU plus at *
  simp only at *
  exact addC_eq (by omega) (by omega) (by omega) (by omega) (by omega) (by omega)
theorem seg_plus (F : List Int) {u v w : Int} (hu : 0 ≤ u) (hv : 0 ≤ v) (hw : 0 ≤ w) : seg F u (v + w) = seg F u v ++ seg F (u + v) w := by
  unfold seg
  have e1 : (v + w).toNat = v.toNat + w.toNat := by omega
  have e2 : (u + v).toNat = u.toNat + v.toNat := by omega
  rw [e1, e2, List.take_add, List.drop_drop]
theorem twice_count {l : List Float} {x y z : C3} (h : okT l x y) (g : okT l (plus x y) z) (p : Int → Bool) : (takeL l x (plus y z)).countP p = (takeL l x y).countP p + (takeL l (plus x y) z).countP p := by
  unfold okT okU plus at *
  simp only at h g
  unfold takeL
  simp only [isort_cnt]
  unfold raw
  simp only [seg_plus _ h.1.1 h.1.2.1 g.1.2.1, seg_plus _ h.2.1.1 h.2.1.2.1 g.2.1.2.1, seg_plus _ h.2.2.1 h.2.2.2.1 g.2.2.2.1, List.countP_append]
  omega
theorem twice_len {l : List Float} {x y z : C3} (h : okT l x y) (g : okT l (plus x y) z) : (takeL l x (plus y z)).length = (takeL l x y).length + (takeL l (plus x y) z).length := by
  have := twice_count h g (fun _ => true)
  simpa using this
theorem twice_one {l : List Float} {x y z : C3} (h : okT l x y) (g : okT l (plus x y) z) {n : Int} (hn : n ∈ takeL l x (plus y z)) : (takeL l x y).count n + (takeL l (plus x y) z).count n = 1 := by
  have h1 := twice_count h g (· == n)
  have h2 : (takeL l x (plus y z)).count n ≤ 1 := by unfold takeL; rw [isort_count]; exact raw_one l x _ n
  have h3 := List.count_pos_iff.2 hn
  unfold List.count at h2 h3 ⊢
  omega
end Go.EnvOf

/- The law of taking twice, evaluated. -/
namespace Go.EnvOf
open Go Go.Eng
set_option maxRecDepth 100000

/-! ### Counting a number in a list -/
def cntF (z : Int) (l : List Int) (s : Int) : Int := fold (fun s _ x => if x = z then s + 1 else s) s 0 l
theorem cnt_fold (z : Int) : ∀ (l : List Int) (s : Int) (i : Nat), fold (fun s _ x => if x = z then s + 1 else s) s i l = s + (l.count z : Int)
  | [], s, i => by simp [fold]
  | x :: r, s, i => by
    simp only [fold, cnt_fold z r, List.count_cons]
    by_cases h : x = z
    · simp [h]; omega
    · simp [h]
def tcE (A B L : List Int) (i : Nat) (H : Heap) (s : Int) (k : Nat) : St := ⟨[(8, sli A), (10, sli B), (12, sli L), (14, vI i), (15, vI s), (16, vI k)], [], H, H.length, []⟩
def tcX (A B L : List Int) (i : Nat) (H : Heap) (s : Int) : Ex × St := (.exit 2, ⟨[(8, sli A), (10, sli B), (12, sli L), (14, vI i), (15, vI s), (16, vI A.length), (97, vB false)], [], H, H.length, []⟩)
def tdE (A B L : List Int) (i : Nat) (H : Heap) (s : Int) (k : Nat) : St := ⟨[(8, sli A), (10, sli B), (12, sli L), (14, vI i), (15, vI s), (17, vI k)], [], H, H.length, []⟩
def tdX (A B L : List Int) (i : Nat) (H : Heap) (s : Int) : Ex × St := (.exit 4, ⟨[(8, sli A), (10, sli B), (12, sli L), (14, vI i), (15, vI s), (17, vI B.length), (114, vB false)], [], H, H.length, []⟩)
theorem tc_lp (A B L : List Int) (i : Nat) (z : Int) (H : Heap) (hz : L[i]? = some z) (hA : A.length ≤ 1000) : evD EE lp14_0 (tcE A B L i H 0 0) = some (tcX A B L i H (A.count z)) := by
  unfold lp14_0
  refine Eq.trans (evD_fold A (tcE A B L i H) (fun s k => 0 ≤ s ∧ s ≤ k) (fun s _ x => if x = z then s + 1 else s) (tcX A B L i H) (fun _ _ => rfl) ?_ ?_ 0 0 (by simp) (Nat.zero_le _)) (by rw [List.drop_zero, cnt_fold, Int.zero_add])
  · intro s k x hi hx
    have hlt := (List.getElem?_eq_some_iff.1 hx).1
    have hix := fun H k => ixs_nat H encI (k := k) (s := 1) hx rfl
    have hiz := fun H k => ixs_nat H encI (k := k) (s := 1) hz rfl
    have w : IntKind.i64.wrap ((k : Int) + 1) = ((k + 1 : Nat) : Int) := w64 (by omega) (by omega)
    have ws : IntKind.i64.wrap (s + 1) = s + 1 := w64 (by omega) (by omega)
    by_cases h : x = z
    · rw [if_pos h]
      refine ⟨?_, by omega⟩
      simp [tcE, hlt, hix, hiz, subs, encI, h, w, ws]
    · rw [if_neg h]
      refine ⟨?_, by omega⟩
      simp [tcE, hlt, hix, hiz, subs, encI, h, w]
  · intro s hi
    refine ⟨?_, by simp [tcX]⟩
    simp [tcE, tcX]
theorem td_lp (A B L : List Int) (i : Nat) (z : Int) (H : Heap) (hz : L[i]? = some z) (t : Int) (ht : 0 ≤ t ∧ t ≤ 1000) (hA : B.length ≤ 1000) : evD EE lp14_1 (tdE A B L i H t 0) = some (tdX A B L i H (t + B.count z)) := by
  unfold lp14_1
  refine Eq.trans (evD_fold B (tdE A B L i H) (fun s k => 0 ≤ s ∧ s ≤ 1000 + k) (fun s _ x => if x = z then s + 1 else s) (tdX A B L i H) (fun _ _ => rfl) ?_ ?_ t 0 (by omega) (Nat.zero_le _)) (by rw [List.drop_zero, cnt_fold])
  · intro s k x hi hx
    have hlt := (List.getElem?_eq_some_iff.1 hx).1
    have hix := fun H k => ixs_nat H encI (k := k) (s := 1) hx rfl
    have hiz := fun H k => ixs_nat H encI (k := k) (s := 1) hz rfl
    have w : IntKind.i64.wrap ((k : Int) + 1) = ((k + 1 : Nat) : Int) := w64 (by omega) (by omega)
    have ws : IntKind.i64.wrap (s + 1) = s + 1 := w64 (by omega) (by omega)
    by_cases h : x = z
    · rw [if_pos h]
      refine ⟨?_, by omega⟩
      simp [tdE, hlt, hix, hiz, subs, encI, h, w, ws]
    · rw [if_neg h]
      refine ⟨?_, by omega⟩
      simp [tdE, hlt, hix, hiz, subs, encI, h, w]
  · intro s hi
    refine ⟨?_, by simp [tdX]⟩
    simp [tdE, tdX]
def toE (A B L : List Int) (H : Heap) (i : Nat) : St := ⟨[(8, sli A), (10, sli B), (12, sli L), (14, vI i)], [], H, H.length, []⟩
def toX (A B L : List Int) (H : Heap) : Ex × St := (.exit 0, ⟨[(8, sli A), (10, sli B), (12, sli L), (14, vI L.length), (91, vB false)], [], H, H.length, []⟩)
theorem to_lp (A B L : List Int) (H : Heap) (hA : A.length ≤ 1000) (hB : B.length ≤ 1000) (hL : L.length ≤ 1000) (hs : L.Pairwise (· < ·)) (hc : ∀ z ∈ L, A.count z + B.count z = 1) :
    evD EE lp14_2 (toE A B L H 0) = some (toX A B L H) := by
  unfold lp14_2
  refine Eq.trans (evD_fold L (fun (_ : Unit) i => toE A B L H i) (fun _ _ => True) (fun _ _ _ => ()) (fun _ => toX A B L H) (fun _ _ => rfl) ?_ ?_ () 0 trivial (Nat.zero_le _)) rfl
  · intro _ i z _ hz
    refine ⟨?_, trivial⟩
    have hlt := (List.getElem?_eq_some_iff.1 hz).1
    have hiz := fun H k => ixs_nat H encI (k := k) (s := 1) hz rfl
    have w : IntKind.i64.wrap ((i : Int) + 1) = ((i + 1 : Nat) : Int) := w64 (by omega) (by omega)
    have h1 := tc_lp A B L i z H hz hA
    have c := hc z (List.mem_of_getElem? hz)
    have h2 := td_lp A B L i z H hz (A.count z) (by omega) hB
    have e : ((A.count z : Nat) : Int) + (B.count z : Nat) = 1 := by omega
    rw [e] at h2
    simp [tcE, tcX] at h1
    simp [tdE, tdX] at h2
    by_cases i0 : i = 0
    · subst i0
      simp at h1 h2 hiz w
      simp [toE, hlt, subs, encI, h1, h2, w]
    · have hy : L[i - 1]? = some (L[i - 1]'(by omega)) := List.getElem?_eq_getElem (by omega)
      have hlt2 : L[i - 1]'(by omega) < z := by
        have := List.pairwise_iff_getElem.1 hs (i - 1) i (by omega) hlt (by omega)
        rw [List.getElem?_eq_getElem hlt] at hz
        have e : L[i] = z := by simpa using hz
        omega
      generalize (L[i - 1]'(by omega)) = y at hy hlt2
      have hiy := fun H k => ixs_nat H encI (k := k) (s := 1) hy rfl
      have ei : ((i - 1 : Nat) : Int) = (i : Int) - 1 := by omega
      rw [ei] at hiy
      have wi : IntKind.i64.wrap ((i : Int) - 1) = (i : Int) - 1 := w64 (by omega) (by omega)
      simp [toE, hlt, subs, encI, h1, h2, w, hiz, hiy, wi, show 0 < i by omega, show ¬ z ≤ y by omega]
  · intro _ _
    refine ⟨?_, by simp [toX]⟩
    simp [toE, toX]

/-! ### The law -/
theorem queueTwice_ev (l : List Float) (x y z : C3) : clD EE (.p (.fn 14)) [vFloats l, .agg [vI x.a, vI x.b, vI x.c, vI y.a, vI y.b, vI y.c, vI z.a, vI z.b, vI z.c]] [] = some (.p (.bool true), none) := by
  rw [clD_body _ _ _ _ _ _ (noP _) fn14]
  by_cases h : 60 < (l.length : Int)
  · simp [St.enter, enumFrom, h, awake23]
  have hl : l.length ≤ 60 := by omega
  have t1 := fun H => take_ev l x y H (by omega)
  have a1 := fun H => add_ev x y H
  have t2 := fun H => take_ev l (addC x y) z H (by omega)
  have a2 := fun H => add_ev y z H
  have t3 := fun H => take_ev l x (addC y z) H (by omega)
  by_cases o1 : okT l x y
  · have p1 := okT_small (by omega) o1
    rw [p1] at t2 a1
    by_cases o2 : okT l (plus x y) z
    · have p2 := plus_small (by omega) o1 o2
      have o3 := okT_plus o1 o2
      rw [p2] at t3 a2
      unfold vTake at t1 t2 t3
      rw [if_pos o1] at t1
      rw [if_pos o2] at t2
      rw [if_pos o3] at t3
      have k := to_lp (takeL l x y) (takeL l (plus x y) z) (takeL l x (plus y z)) []
      have n := fun H => next_ev l x (takeL l x y) H (by omega)
      have q := fun H => of_ev l (takeL l x (plus y z)) H (by omega)
      rw [next_take l x y o1] at n
      rw [ofL_take l x _ o3] at q
      have r1 := raw_len l x y
      have r2 := raw_len l (plus x y) z
      have r3 := raw_len l x (plus y z)
      rw [← isort_len] at r1 r2 r3
      have e1 : isort (raw l x y) = takeL l x y := rfl
      have e2 : isort (raw l (plus x y) z) = takeL l (plus x y) z := rfl
      have e3 : isort (raw l x (plus y z)) = takeL l x (plus y z) := rfl
      rw [e1] at r1
      rw [e2] at r2
      rw [e3] at r3
      have k := k (by omega) (by omega) (by omega) (takeL_strict _ _ _) fun n hn => twice_one o1 o2 hn
      have n := fun H => n H (by omega)
      have q := fun H => q H (by omega)
      have e := twice_len o1 o2
      generalize takeL l x y = A at *
      generalize takeL l (plus x y) z = B at *
      generalize takeL l x (plus y z) = L at *
      have w : IntKind.i64.wrap ((A.length : Int) + B.length) = (A.length : Int) + B.length := w64 (by omega) (by omega)
      have eL : (L.length : Int) = A.length + B.length := by omega
      simp [toE, toX] at k
      simp [St.enter, enumFrom, h, awake23, subs, setSubs, ixaV, t1, t2, t3, a1, a2, n, q, w, eL, k]
    · unfold vTake at t1 t2
      rw [if_pos o1] at t1
      rw [if_neg o2] at t2
      have t3 : ∃ v b, ∀ H, clD EE (.p (.fn 68)) [vFloats l, vC x, vC (addC y z)] H = some (.tup [sli v, vB b], none) := by
        unfold vTake at t3
        by_cases o3 : okT l x (addC y z)
        · rw [if_pos o3] at t3; exact ⟨_, _, t3⟩
        · rw [if_neg o3] at t3; exact ⟨_, _, t3⟩
      obtain ⟨v, b, t3⟩ := t3
      simp [St.enter, enumFrom, h, awake23, subs, setSubs, ixaV, t1, t2, t3, a1, a2]
  · unfold vTake at t1
    rw [if_neg o1] at t1
    have t2 : ∃ v b, ∀ H, clD EE (.p (.fn 68)) [vFloats l, vC (addC x y), vC z] H = some (.tup [sli v, vB b], none) := by
      unfold vTake at t2
      by_cases o3 : okT l (addC x y) z
      · rw [if_pos o3] at t2; exact ⟨_, _, t2⟩
      · rw [if_neg o3] at t2; exact ⟨_, _, t2⟩
    have t3 : ∃ v b, ∀ H, clD EE (.p (.fn 68)) [vFloats l, vC x, vC (addC y z)] H = some (.tup [sli v, vB b], none) := by
      unfold vTake at t3
      by_cases o3 : okT l x (addC y z)
      · rw [if_pos o3] at t3; exact ⟨_, _, t3⟩
      · rw [if_neg o3] at t3; exact ⟨_, _, t3⟩
    obtain ⟨u, c, t2⟩ := t2
    obtain ⟨v, b, t3⟩ := t3
    simp [St.enter, enumFrom, h, awake23, subs, setSubs, ixaV, t1, t2, t3, a1, a2]
end Go.EnvOf
