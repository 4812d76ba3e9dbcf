/- The program's functions and the document's, evaluated. -/
import Derived.Test.YtfjgcfloallohaaText1
import Derived.Test.YtfjgcfloallohaaTab
/- The program's plain data: items, notes, floats, geometries, jobs. -/
namespace Go.EnvOf
open Go Go.Eng

/-- A number that is there. -/
abbrev I64 (n : Int) : Prop := -9223372036854775808 ≤ n ∧ n ≤ 9223372036854775807

structure Item where
  k : Int
  h : Int
  f : Int
  str : Int
  ord : Int
  shr : Int
  n : Int
  deriving Inhabited, DecidableEq
def encItem (x : Item) : List PV := [.int .i64 x.k, .int .i64 x.h, .int .i64 x.f, .int .i64 x.str, .int .i64 x.ord, .int .i64 x.shr, .int .i64 x.n]
@[simp] theorem encItem_len (x : Item) : (encItem x).length = 7 := rfl
abbrev vItems (l : List Item) : V := .p (.sl (l.map encItem))
abbrev vItem (x : Item) : V := .agg [.p (.int .i64 x.k), .p (.int .i64 x.h), .p (.int .i64 x.f), .p (.int .i64 x.str), .p (.int .i64 x.ord), .p (.int .i64 x.shr), .p (.int .i64 x.n)]

structure Note where
  lines : List Int
  pens : List Int
  deriving Inhabited, DecidableEq
def encNote (n : Note) : List PV := [.sl (n.lines.map encI), .sl (n.pens.map encI)]
@[simp] theorem encNote_len (n : Note) : (encNote n).length = 2 := rfl
abbrev vNotes (l : List Note) : V := .p (.sl (l.map encNote))
abbrev vNote (n : Note) : V := .agg [sli n.lines, sli n.pens]

structure Float where
  c : Int
  h : Int
  w : Int
  deriving Inhabited, DecidableEq
def encFloat (f : Float) : List PV := [.int .i64 f.c, .int .i64 f.h, .int .i64 f.w]
@[simp] theorem encFloat_len (f : Float) : (encFloat f).length = 3 := rfl
abbrev vFloats (l : List Float) : V := .p (.sl (l.map encFloat))
abbrev vFloat (f : Float) : V := .agg [.p (.int .i64 f.c), .p (.int .i64 f.h), .p (.int .i64 f.w)]

structure Geom where
  cols : Int
  wide : Int
  gap : Int
  high : Int
  first : Int
  grid : Int
  rule : Int
  sep : Int
  noteMost : Int
  topMost : Int
  botMost : Int
  topMany : Int
  botMany : Int
  club : Int
  widow : Int
  split : Int
  defer : Int
  spare : Int
  balance : Bool
  deriving Inhabited, DecidableEq
abbrev cGeom (g : Geom) : List V := [.p (.int .i64 g.cols), .p (.int .i64 g.wide), .p (.int .i64 g.gap), .p (.int .i64 g.high), .p (.int .i64 g.first), .p (.int .i64 g.grid), .p (.int .i64 g.rule), .p (.int .i64 g.sep), .p (.int .i64 g.noteMost), .p (.int .i64 g.topMost),
  .p (.int .i64 g.botMost), .p (.int .i64 g.topMany), .p (.int .i64 g.botMany), .p (.int .i64 g.club), .p (.int .i64 g.widow), .p (.int .i64 g.split), .p (.int .i64 g.defer), .p (.int .i64 g.spare), .p (.bool g.balance)]
abbrev vGeom (g : Geom) : V := .agg (cGeom g)

structure Job where
  g : Geom
  items : List Item
  notes : List Note
  floats : List Float
  deriving Inhabited, DecidableEq
abbrev vJob (j : Job) : V := .agg (cGeom j.g ++ [vItems j.items, vNotes j.notes, vFloats j.floats])
end Go.EnvOf

/- The layer check: lanes that stand, marks that hang together. -/
namespace Go.EnvOf
open Go Go.Eng
set_option maxRecDepth 100000

structure Put where
  k : Int
  n : Int
  l : Int
  y : Int
  h : Int
  deriving Inhabited, DecidableEq
def encPut (x : Put) : List PV := [.int .i64 x.k, .int .i64 x.n, .int .i64 x.l, .int .i64 x.y, .int .i64 x.h]
@[simp] theorem encPut_len (x : Put) : (encPut x).length = 5 := rfl
abbrev vPuts (l : List Put) : V := .p (.sl (l.map encPut))
structure Lane where
  x : Int
  puts : List Put
  deriving Inhabited, DecidableEq
def encLane (x : Lane) : List PV := [.int .i64 x.x, .sl (x.puts.map encPut)]
@[simp] theorem encLane_len (x : Lane) : (encLane x).length = 2 := rfl
abbrev vLane (x : Lane) : V := .agg [vI x.x, vPuts x.puts]
structure Page where
  lanes : List Lane
  top : Int
  first : Int
  last : Int
  deriving Inhabited, DecidableEq
def encPage (x : Page) : List PV := [.sl (x.lanes.map encLane), .int .i64 x.top, .int .i64 x.first, .int .i64 x.last]
@[simp] theorem encPage_len (x : Page) : (encPage x).length = 4 := rfl
abbrev vPages (l : List Page) : V := .p (.sl (l.map encPage))

theorem awake41 : clD EE (.p (.fn 62)) [] [] = some (.p (.bool true), none) := by
  rw [clD_iff]; exact ⟨200, by kernel_rfl⟩

/-! ### More than is gone through -/
def bigLane (x : Lane) : Bool := decide (100 < (x.puts.length : Int))
def bigPage (x : Page) : Bool := decide (20 < (x.lanes.length : Int)) || x.lanes.any bigLane
def large38 (l : List Page) : Bool := (l.take 40).any bigPage || decide (40 < (l.length : Int))
def p38E (l : List Page) (k : Nat) (H : Heap) (i : Nat) : St := ⟨[(0, vPages l), (3, vI k), (4, vI i)], [], H, H.length, []⟩
def p38X (l : List Page) (k : Nat) (H : Heap) (n : Nat) : Ex × St := (.exit 2, ⟨[(0, vPages l), (3, vI k), (4, vI n), (29, vB false)], [], H, H.length, []⟩)
def p38B (H : Heap) : Ex × St := (.ret, ⟨[(2, vB true)], [], H, H.length, []⟩)
theorem large38_lq (l : List Page) (k : Nat) (x : Page) (hx : l[k]? = some x) (hl : x.lanes.length ≤ 20) (H : Heap) : evD EE lp61_0 (p38E l k H 0) = some (if x.lanes.any bigLane = true then p38B H else p38X l k H x.lanes.length) := by
  unfold lp61_0
  have hix := fun H q => ixs_nat H encPage (k := q) (s := 4) hx rfl
  simp only [encPage] at hix
  refine Eq.trans (evD_rng x.lanes (fun (_ : Unit) i => p38E l k H i) (fun _ _ => True) (stepB bigLane (p38B H)) (fun _ => p38X l k H x.lanes.length) (fun _ _ => rfl) ?_ ?_ () 0 trivial (Nat.zero_le _)) (by rw [List.drop_zero, rng_any])
  · rintro _ i y - hy
    have hlt := (List.getElem?_eq_some_iff.1 hy).1
    have w1 : IntKind.i64.wrap ((i : Int) + 1) = ((i + 1 : Nat) : Int) := w64 (by omega) (by omega)
    have hiy := fun H q => ixs_nat H encLane (k := q) (s := 2) hy rfl
    simp only [encLane] at hiy
    by_cases a : 100 < (y.puts.length : Int)
    · simp [stepB, bigLane, p38E, p38B, hlt, hix, hiy, subs, a]
    · simp [stepB, bigLane, p38E, hlt, hix, hiy, subs, a, w1]
  · rintro _ -
    refine ⟨?_, by simp [p38X]⟩
    simp [p38E, p38X, hix, subs]
def q38E (l : List Page) (H : Heap) (i : Nat) : St := ⟨[(0, vPages l), (3, vI i)], [], H, H.length, []⟩
def q38X (l : List Page) (H : Heap) (i : Nat) : Ex × St := (.exit 0, ⟨[(0, vPages l), (3, vI i), (12, vB false)], [], H, H.length, []⟩)
theorem large38_lp (l : List Page) (H : Heap) : evD EE lp61_1 (q38E l H 0) = some (if (l.take 40).any bigPage = true then p38B H else q38X l H (min 40 l.length)) := by
  unfold lp61_1
  refine Eq.trans (evD_rng (l.take 40) (fun (_ : Unit) i => q38E l H i) (fun _ _ => True) (stepB bigPage (p38B H)) (fun _ => q38X l H (min 40 l.length)) (fun _ _ => rfl) ?_ ?_ () 0 trivial (Nat.zero_le _)) (by rw [List.drop_zero, rng_any])
  · rintro _ i x - hx
    have hlt := (List.getElem?_eq_some_iff.1 hx).1
    rw [List.length_take] at hlt
    have hx' : l[i]? = some x := by rw [List.getElem?_take] at hx; split at hx <;> simp_all
    have hl1 : i < l.length := by omega
    have hl2 : (i : Int) < 40 := by omega
    have w1 : IntKind.i64.wrap ((i : Int) + 1) = ((i + 1 : Nat) : Int) := w64 (by omega) (by omega)
    have hix := fun H k => ixs_nat H encPage (k := k) (s := 4) hx' rfl
    simp only [encPage] at hix
    by_cases a : 20 < (x.lanes.length : Int)
    · simp [stepB, bigPage, q38E, p38B, hl1, hl2, hix, subs, a]
    · have key := large38_lq l i x hx' (by omega) H
      simp only [p38E, p38X, p38B] at key
      cases b : x.lanes.any bigLane with
      | true => simp [b] at key; simp [stepB, bigPage, q38E, p38B, hl1, hl2, hix, subs, a, b, key]
      | false => simp [b] at key; simp [stepB, bigPage, q38E, hl1, hl2, hix, subs, a, b, key, w1]
  · rintro _ -
    refine ⟨?_, by simp [q38X]⟩
    rw [List.length_take]
    by_cases h : l.length ≤ 40
    · have e : min 40 l.length = l.length := by omega
      rw [e]; simp [q38E, q38X]
    · have e : min 40 l.length = 40 := by omega
      have h2 : (40 : Int) < l.length := by omega
      rw [e]; simp [q38E, q38X, h2]
theorem large38_ev (l : List Page) (H : Heap) : clD EE (.p (.fn 61)) [vPages l] H = some (vB (large38 l), none) := by
  rw [clD_body _ _ _ _ _ _ (noP _) fn61]
  have k0 := large38_lp l H
  unfold large38
  simp only [q38E, q38X, p38B] at k0
  cases b : (l.take 40).any bigPage with
  | true => simp [b] at k0; simp [St.enter, enumFrom, k0]
  | false => simp [b] at k0; simp [St.enter, enumFrom, k0]

/-! ### Lanes -/
abbrev far50 : Int := 1125899906842624
def badPut (s : Int) (x : Put) : Bool := decide (x.y < s) || decide (far50 < x.y) || decide (x.h < 0) || decide (far50 < x.h)
def laneS {ρ : Type} (bad : ρ) (s : Int) (_ : Nat) (x : Put) : Int ⊕ ρ := if badPut s x = true then .inr bad else .inl (x.y + x.h)
def laneF (l : List Put) : Bool := rng (laneS false) (fun _ => true) 0 0 l
theorem rng_lane {ρ : Type} (bad good : ρ) : ∀ (l : List Put) (s : Int) (i : Nat), rng (laneS bad) (fun _ => good) s i l = if rng (laneS false) (fun _ => true) s i l = true then good else bad
  | [], _, _ => by simp [rng]
  | x :: r, s, i => by
    simp only [rng, laneS]
    by_cases h : badPut s x = true
    · simp [h]
    · simp only [h, Bool.false_eq_true, if_false]
      exact rng_lane bad good r _ _
/-- What comes out of a loop is turned. -/
theorem rng_map {α τ ρ σ : Type} (g : ρ → σ) (f : τ → Nat → α → τ ⊕ ρ) (fin : τ → ρ) : ∀ (l : List α) (s : τ) (i : Nat), g (rng f fin s i l) = rng (fun s i x => match f s i x with | .inl t => .inl t | .inr r => .inr (g r)) (fun s => g (fin s)) s i l
  | [], _, _ => rfl
  | x :: r, s, i => by
    simp only [rng]
    cases f s i x with
    | inl t => exact rng_map g f fin r _ _
    | inr e => rfl
def laE (x : Lane) (H : Heap) (s : Int) (i : Nat) : St := ⟨[(3, vI s), (7, vPuts x.puts), (8, vI x.puts.length), (9, vI i)], [], H, H.length, []⟩
def laX (x : Lane) (H : Heap) (s : Int) : Ex × St := (.exit 0, ⟨[(3, vI s), (7, vPuts x.puts), (8, vI x.puts.length), (9, vI x.puts.length), (10, vB false)], [], H, H.length, []⟩)
def laB (H : Heap) : Ex × St := (.ret, ⟨[(2, vB false)], [], H, H.length, []⟩)
theorem lane_lp (x : Lane) (hn : x.puts.length ≤ 1000000) (H : Heap) : evD EE lp63_0 (laE x H 0 0) = some (rng (laneS (laB H)) (laX x H) 0 0 x.puts) := by
  unfold lp63_0
  refine Eq.trans (evD_rng x.puts (fun s i => laE x H s i) (fun s _ => 0 ≤ s ∧ s ≤ 2251799813685248) (laneS (laB H)) (laX x H) (fun _ _ => rfl) ?_ ?_ 0 0 (by omega) (Nat.zero_le _)) (by rw [List.drop_zero])
  · rintro s i p hs hx
    have hlt := (List.getElem?_eq_some_iff.1 hx).1
    have w1 : IntKind.i64.wrap ((i : Int) + 1) = ((i + 1 : Nat) : Int) := w64 (by omega) (by omega)
    have hix := fun H k => ixs_nat H encPut (k := k) (s := 5) hx rfl
    simp only [encPut] at hix
    unfold laneS badPut far50
    by_cases a : p.y < s
    · simp [laE, laB, hlt, hix, subs, setSubs, a]
    · by_cases b : 1125899906842624 < p.y
      · simp [laE, laB, hlt, hix, subs, setSubs, a, b]
      · by_cases c : p.h < 0
        · simp [laE, laB, hlt, hix, subs, setSubs, a, b, c]
        · by_cases d : 1125899906842624 < p.h
          · simp [laE, laB, hlt, hix, subs, setSubs, a, b, c, d]
          · have w2 : IntKind.i64.wrap (p.y + p.h) = p.y + p.h := w64 (by omega) (by omega)
            have hb : 0 ≤ p.y + p.h ∧ p.y + p.h ≤ 2251799813685248 := by omega
            simp [laE, hlt, hix, subs, setSubs, a, b, c, d, w1, w2, hb]
  · rintro s -
    refine ⟨?_, by simp [laX]⟩
    simp [laE, laX]
theorem lane_ev (x : Lane) (hn : x.puts.length ≤ 1000000) (H : Heap) : clD EE (.p (.fn 63)) [vLane x] H = some (vB (laneF x.puts), none) := by
  rw [clD_body _ _ _ _ _ _ (noP _) fn63]
  have key := lane_lp x hn H
  have hb : ∃ b s, (b = laneF x.puts) ∧ rng (laneS (laB H)) (laX x H) 0 0 x.puts = if b = true then laX x H s else laB H := by
    have gen : ∀ (l : List Put) (s : Int) (i : Nat), ∃ t, rng (laneS (laB H)) (laX x H) s i l = if rng (laneS false) (fun _ => true) s i l = true then laX x H t else laB H := by
      intro l
      induction l with
      | nil => intro s i; exact ⟨s, by simp [rng]⟩
      | cons p r ih =>
        intro s i
        simp only [rng, laneS]
        by_cases h : badPut s p = true
        · exact ⟨0, by simp [h]⟩
        · simp only [h, Bool.false_eq_true, if_false]; exact ih _ _
    obtain ⟨t, ht⟩ := gen x.puts 0 0
    exact ⟨_, t, rfl, ht⟩
  obtain ⟨b, s, rfl, hb⟩ := hb
  rw [hb] at key
  simp only [laE, laX, laB] at key
  cases hl : laneF x.puts with
  | true => rw [hl] at key; simp at key; simp [St.enter, enumFrom, subs, key]
  | false => rw [hl] at key; simp at key; simp [St.enter, enumFrom, subs, key]
def rlaE (x : Lane) (H : Heap) (i : Nat) : St := ⟨[(1, .lptr 1 0), (3, vI i)], [(1, [vI x.x, vPuts x.puts])], H, H.length, []⟩
def rlaX (x : Lane) (H : Heap) : Ex × St := (.exit 0, ⟨[(1, .lptr 1 0), (3, vI x.puts.length), (9, vB false)], [(1, [vI x.x, vPuts x.puts])], H, H.length, []⟩)
theorem rlane_lp (x : Lane) (hn : x.puts.length ≤ 1000000) (H : Heap) : evD EE lp64_0 (rlaE x H 0) = some (rng (laneS (laB H)) (fun _ => rlaX x H) 0 0 x.puts) := by
  unfold lp64_0
  refine Eq.trans (evD_rng x.puts (fun (_ : Int) i => rlaE x H i) (fun s i => 0 ≤ s ∧ s ≤ 2251799813685248 ∧ (i = 0 → s = 0) ∧ (∀ k, i = k + 1 → ∃ p, x.puts[k]? = some p ∧ s = p.y + p.h)) (laneS (laB H)) (fun _ => rlaX x H) (fun _ _ => rfl) ?_ ?_ 0 0 ⟨by omega, by omega, fun _ => rfl, fun k hk => by omega⟩ (Nat.zero_le _)) (by rw [List.drop_zero])
  · rintro s i p ⟨h0, h1, h2, h3⟩ hx
    have hlt := (List.getElem?_eq_some_iff.1 hx).1
    have w1 : IntKind.i64.wrap ((i : Int) + 1) = ((i + 1 : Nat) : Int) := w64 (by omega) (by omega)
    have hix := fun H k => ixs_nat H encPut (k := k) (s := 5) hx rfl
    simp only [encPut] at hix
    cases i with
    | zero =>
      obtain rfl := h2 rfl
      simp only [Int.natCast_zero] at hix w1
      by_cases a : p.y < 0
      · simp [laneS, badPut, far50, rlaE, laB, hlt, hix, subs, setSubs, a]
      · by_cases c : p.h < 0
        · by_cases b : 1125899906842624 < p.y <;> simp [laneS, badPut, far50, rlaE, laB, hlt, hix, subs, setSubs, a, b, c]
        · by_cases b : 1125899906842624 < p.y
          · simp [laneS, badPut, far50, rlaE, laB, hlt, hix, subs, setSubs, a, b, c]
          · by_cases d : 1125899906842624 < p.h
            · simp [laneS, badPut, far50, rlaE, laB, hlt, hix, subs, setSubs, a, b, c, d]
            · have w0 : IntKind.i64.wrap 1 = 1 := by decide
              have hs : laneS (laB H) 0 0 p = .inl (p.y + p.h) := by simp [laneS, badPut, far50, a, b, c, d]
              rw [hs]
              refine ⟨?_, by omega, by omega, fun h => by omega, fun k hk => ?_⟩
              · simp [rlaE, hlt, hix, subs, setSubs, a, b, c, d, w0]
              · obtain rfl : k = 0 := by omega
                exact ⟨p, hx, rfl⟩
    | succ i =>
      obtain ⟨q, hq, rfl⟩ := h3 i rfl
      have hlq := (List.getElem?_eq_some_iff.1 hq).1
      have hiq := fun H k => ixs_nat H encPut (k := k) (s := 5) hq rfl
      simp only [encPut] at hiq
      have w3 : IntKind.i64.wrap (i : Int) = (i : Int) := w64 (by omega) (by omega)
      have w4 : IntKind.i64.wrap (q.y + q.h) = q.y + q.h := w64 (by omega) (by omega)
      have hp : (0 : Int) < ((i + 1 : Nat) : Int) := by omega
      simp only [Int.natCast_add, Int.natCast_one] at hix hp w1
      have hlI : (i : Int) + 1 < x.puts.length := by omega
      by_cases a0 : p.y < 0
      · have a : p.y < q.y + q.h := by omega
        simp [laneS, badPut, far50, rlaE, laB, hlI, hix, subs, setSubs, a0, a]
      · by_cases c : p.h < 0
        · by_cases a : p.y < q.y + q.h <;> by_cases b : 1125899906842624 < p.y <;> simp [laneS, badPut, far50, rlaE, laB, hlI, hix, subs, setSubs, a0, a, b, c]
        · by_cases b : 1125899906842624 < p.y
          · by_cases a : p.y < q.y + q.h <;> simp [laneS, badPut, far50, rlaE, laB, hlI, hix, subs, setSubs, a0, a, b, c]
          · by_cases d : 1125899906842624 < p.h
            · by_cases a : p.y < q.y + q.h <;> simp [laneS, badPut, far50, rlaE, laB, hlI, hix, subs, setSubs, a0, a, b, c, d]
            · by_cases a : p.y < q.y + q.h
              · simp [laneS, badPut, far50, rlaE, laB, hlI, hix, hiq, subs, setSubs, a0, a, b, c, d, w3, w4, hp]
              · have hs : laneS (laB H) (q.y + q.h) (i + 1) p = .inl (p.y + p.h) := by simp [laneS, badPut, far50, a, b, c, d]
                rw [hs]
                refine ⟨?_, by omega, by omega, fun h => by omega, fun k hk => ?_⟩
                · simp [rlaE, hlI, hix, hiq, subs, setSubs, a0, a, b, c, d, w1, w3, w4, hp]
                · obtain rfl : k = i + 1 := by omega
                  exact ⟨p, hx, rfl⟩
  · rintro s -
    refine ⟨?_, by simp [rlaX]⟩
    simp [rlaE, rlaX, subs]
theorem rlane_ev (x : Lane) (hn : x.puts.length ≤ 1000000) (H : Heap) : clD EE (.p (.fn 64)) [vLane x] H = some (vB (laneF x.puts), none) := by
  rw [clD_body _ _ _ _ _ _ (noP _) fn64]
  have key := rlane_lp x hn H
  rw [rng_lane] at key
  simp only [rlaE, rlaX, laB] at key
  change _ = some (if laneF x.puts = true then _ else _) at key
  cases hl : laneF x.puts with
  | true => rw [hl] at key; simp at key; simp [St.enter, enumFrom, subs, key]
  | false => rw [hl] at key; simp at key; simp [St.enter, enumFrom, subs, key]

/-! ### Marks -/
def markS {ρ : Type} (hit : Int → ρ) (s : Int) (i : Nat) (x : Page) : Int ⊕ ρ := if x.top = s then .inl x.last else .inr (hit i)
def marksF (l : List Page) : Int := rng (markS id) (fun _ => -1) (-1) 0 l
theorem rng_marks {ρ : Type} (hit : Int → ρ) (fin : Int → ρ) : ∀ (l : List Page) (s : Int) (i : Nat), ∃ t, rng (markS hit) fin s i l = if 0 ≤ rng (markS id) (fun _ => -1) s i l then hit (rng (markS id) (fun _ => -1) s i l) else fin t
  | [], s, _ => ⟨s, by simp [rng]⟩
  | x :: r, s, i => by
    simp only [rng, markS]
    by_cases h : x.top = s
    · simp only [h, if_true]; exact rng_marks hit fin r _ _
    · exact ⟨0, by simp [h]⟩
theorem marks_neg : ∀ (l : List Page) (s : Int) (i : Nat), ¬ 0 ≤ rng (markS id) (fun _ => -1) s i l → rng (markS id) (fun _ => (-1 : Int)) s i l = -1
  | [], s, _, _ => rfl
  | x :: r, s, i, h => by
    simp only [rng, markS] at h ⊢
    by_cases c : x.top = s
    · simp only [c, if_true] at h ⊢; exact marks_neg r _ _ h
    · simp [c] at h
def mkE (l : List Page) (H : Heap) (s : Int) (i : Nat) : St := ⟨[(3, vI s), (6, vPages l), (7, vI l.length), (8, vI i)], [], H, H.length, []⟩
def mkX (l : List Page) (H : Heap) (s : Int) : Ex × St := (.exit 0, ⟨[(3, vI s), (6, vPages l), (7, vI l.length), (8, vI l.length), (9, vB false)], [], H, H.length, []⟩)
def mkH (H : Heap) (i : Int) : Ex × St := (.ret, ⟨[(2, vI i)], [], H, H.length, []⟩)
theorem marks_ev (l : List Page) (hn : l.length ≤ 1000000) (H : Heap) : clD EE (.p (.fn 65)) [vPages l] H = some (vI (marksF l), none) := by
  rw [clD_body _ _ _ _ _ _ (noP _) fn65]
  have key : evD EE lp65_0 (mkE l H (-1) 0) = some (rng (markS (mkH H)) (mkX l H) (-1) 0 l) := by
    unfold lp65_0
    refine Eq.trans (evD_rng l (fun s i => mkE l H s i) (fun _ _ => True) (markS (mkH H)) (mkX l H) (fun _ _ => rfl) ?_ ?_ (-1) 0 trivial (Nat.zero_le _)) (by rw [List.drop_zero])
    · rintro s i x - hx
      have hlt := (List.getElem?_eq_some_iff.1 hx).1
      have w1 : IntKind.i64.wrap ((i : Int) + 1) = ((i + 1 : Nat) : Int) := w64 (by omega) (by omega)
      have hix := fun H k => ixs_nat H encPage (k := k) (s := 4) hx rfl
      simp only [encPage] at hix
      by_cases a : x.top = s
      · simp [markS, mkE, hlt, hix, subs, setSubs, a, w1]
      · simp [markS, mkE, mkH, hlt, hix, subs, setSubs, a]
    · rintro s -
      refine ⟨?_, by simp [mkX]⟩
      simp [mkE, mkX]
  obtain ⟨t, ht⟩ := rng_marks (mkH H) (mkX l H) l (-1) 0
  rw [ht] at key
  simp only [mkE, mkX, mkH] at key
  unfold marksF
  by_cases h : 0 ≤ rng (markS id) (fun _ => (-1 : Int)) (-1) 0 l
  · rw [if_pos h] at key; simp at key; simp [St.enter, enumFrom, key]
  · rw [if_neg h] at key; rw [marks_neg l _ _ h]; simp at key; simp [St.enter, enumFrom, key]
def rmkE (l : List Page) (H : Heap) (s : Int) (i : Nat) : St := ⟨[(0, vPages l), (3, vI s), (4, vI i)], [], H, H.length, []⟩
def rmkX (l : List Page) (H : Heap) (s : Int) : Ex × St := (.exit 0, ⟨[(0, vPages l), (3, vI s), (4, vI l.length), (8, vB false)], [], H, H.length, []⟩)
theorem rmarks_ev (l : List Page) (hn : l.length ≤ 1000000) (H : Heap) : clD EE (.p (.fn 66)) [vPages l] H = some (vI (marksF l), none) := by
  rw [clD_body _ _ _ _ _ _ (noP _) fn66]
  have key : evD EE lp66_0 (rmkE l H (-1) 0) = some (rng (markS (mkH H)) (rmkX l H) (-1) 0 l) := by
    unfold lp66_0
    refine Eq.trans (evD_rng l (fun s i => rmkE l H s i) (fun _ _ => True) (markS (mkH H)) (rmkX l H) (fun _ _ => rfl) ?_ ?_ (-1) 0 trivial (Nat.zero_le _)) (by rw [List.drop_zero])
    · rintro s i x - hx
      have hlt := (List.getElem?_eq_some_iff.1 hx).1
      have w1 : IntKind.i64.wrap ((i : Int) + 1) = ((i + 1 : Nat) : Int) := w64 (by omega) (by omega)
      have hix := fun H k => ixs_nat H encPage (k := k) (s := 4) hx rfl
      simp only [encPage] at hix
      by_cases a : x.top = s
      · simp [markS, rmkE, hlt, hix, subs, a, w1]
      · simp [markS, rmkE, mkH, hlt, hix, subs, a]
    · rintro s -
      refine ⟨?_, by simp [rmkX]⟩
      simp [rmkE, rmkX]
  obtain ⟨t, ht⟩ := rng_marks (mkH H) (rmkX l H) l (-1) 0
  rw [ht] at key
  simp only [rmkE, rmkX, mkH] at key
  unfold marksF
  by_cases h : 0 ≤ rng (markS id) (fun _ => (-1 : Int)) (-1) 0 l
  · rw [if_pos h] at key; simp at key; simp [St.enter, enumFrom, key]
  · rw [if_neg h] at key; rw [marks_neg l _ _ h]; simp at key; simp [St.enter, enumFrom, key]

theorem checkParts_ev (x : Lane) (l : List Page) : clD EE (.p (.fn 13)) [vLane x, vPages l] [] = some (.p (.bool true), none) := by
  rw [clD_body _ _ _ _ _ _ (noP _) fn13]
  have hg := large38_ev l []
  cases b : large38 l with
  | true => rw [b] at hg; simp [St.enter, enumFrom, subs, hg, awake41]
  | false =>
    rw [b] at hg
    by_cases c : 100 < (x.puts.length : Int)
    · simp [St.enter, enumFrom, subs, hg, c, awake41]
    · have hl : l.length ≤ 40 := by
        unfold large38 at b
        simp only [Bool.or_eq_false_iff, decide_eq_false_iff_not] at b
        omega
      have e1 := lane_ev x (by omega) []
      have e2 := rlane_ev x (by omega) []
      have e3 := marks_ev l (by omega) []
      have e4 := rmarks_ev l (by omega) []
      simp [St.enter, enumFrom, subs, hg, c, e1, e2, e3, e4, awake41]
end Go.EnvOf
