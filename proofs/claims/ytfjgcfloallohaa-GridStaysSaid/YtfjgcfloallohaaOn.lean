/- Jobs: whether all is on the grid. -/
import Derived.Test.YtfjgcfloallohaaGen
import Derived.Test.YtfjgcfloallohaaSnap
namespace Go.EnvOf
open Go Go.Eng

def off (s n : Int) : Bool := !decide (n.tmod s = 0)
def badItem (s : Int) (x : Item) : Bool := (decide (x.k = 2) && (!decide (x.str = 0) || !decide (x.ord = 0) || !decide (x.shr = 0))) || ((decide (x.k = 1) || decide (x.k = 2)) && off s x.h)
def badJob (j : Job) : Bool := [j.g.high, j.g.first, j.g.rule, j.g.sep].any (off j.g.grid) || j.items.any (badItem j.g.grid) || j.notes.any (fun n => n.lines.any (off j.g.grid)) || j.floats.any (fun f => off j.g.grid f.h)
def onF (j : Job) : Bool := decide (j.g.grid < 1) || !badJob j

theorem on11_ev (x s : Int) (p : Nat) (H : Heap) (hb : Eng.boxAt H p = some [vI s]) (hs : 1 ≤ s) : clD EE (.fn (.func 103) [] [.ptr p 0]) [vI x] H = some (vB (off s x), none) := by
  rw [clD_clo, clD_body _ _ _ _ _ _ (noP _) fn103]
  have h0 : s ≠ 0 := by omega
  have e : subs [vI s] 0 1 = some [vI s] := rfl
  simp [St.enter, enumFrom, hb, e, h0, off]
theorem idxSp_fn : EE.fns 145 = some (idxI 1 false) := fn145
theorem conSp_fn : EE.fns 102 = some (conI 145) := fn102
theorem conSp_ev (hv : V) (p : Int → Bool) (l : List Int) (H : Heap) (ho : (normA hv).outB = true) (ho2 : normA hv = hv) (hn : l.length ≤ 1000000) (hH : ∀ x ∈ l, clD EE hv [vI x] H = some (vB (p x), none)) :
    clD EE (.p (.fn 102)) [sli l, hv] H = some (vB (l.any p), none) :=
  con_ev _ _ (noP _) conSp_fn (sli l) hv p l H rfl rfl ho ho2 (idx_ev _ 1 false encI (fun x => vI x) (noP _) idxSp_fn (fun _ => rfl) (fun _ => rfl) (fun _ => rfl) (fun _ => rfl) l (by omega) hv p H hH)
theorem on1_ev (l : List Int) (s : Int) (p : Nat) (H : Heap) (hb : Eng.boxAt H p = some [vI s]) (hs : 1 ≤ s) (hn : l.length ≤ 1000000) : clD EE (.fn (.func 101) [] [.ptr p 0]) [sli l] H = some (vB (l.any (off s)), none) := by
  rw [clD_clo, clD_body _ _ _ _ _ _ (noP _) fn101]
  have h := conSp_ev (.fn (.func 103) [] [.ptr p 0]) (off s) l H rfl rfl hn (fun x _ => on11_ev x s p H hb hs)
  simp [St.enter, enumFrom, h]

def onHp (s : Int) (H : Heap) : Heap := H ++ [.box [vI s]]
def onFn (H : Heap) : V := .fn (.func 101) [] [.ptr H.length 0]
def onE (s : Int) (J : List V) (H : Heap) (t u v : Nat) (l : V) (n : Nat) (wr : Bool) (i : Nat) : St :=
  ⟨[(1, .lptr 1 0), (4, onFn H), (5, vB wr), (t, l), (u, vI n), (v, vI i)], [(1, J)], onHp s H, H.length, []⟩
def onX (s : Int) (J : List V) (H : Heap) (t u v x e : Nat) (l : V) (n : Nat) (wr : Bool) : Ex × St :=
  (.exit e, ⟨[(1, .lptr 1 0), (4, onFn H), (5, vB wr), (t, l), (u, vI n), (v, vI n), (x, vB false)], [(1, J)], onHp s H, H.length, []⟩)
theorem fold_or {α : Type} (p : α → Bool) : ∀ (l : List α) (w : Bool) (i : Nat), fold (fun (w : Bool) _ x => w || p x) w i l = (w || l.any p)
  | [], w, i => by simp [fold]
  | x :: r, w, i => by simp only [fold, fold_or p r, List.any_cons, Bool.or_assoc]

theorem on_lp0 (s : Int) (hs : 1 ≤ s) (l : List Item) (hn : l.length ≤ 1000000) (J : List V) (H : Heap) (wr : Bool) :
    evD EE lp48_0 (onE s J H 34 35 36 (vItems l) l.length wr 0) = some (onX s J H 34 35 36 37 0 (vItems l) l.length (wr || l.any (badItem s))) := by
  unfold lp48_0
  refine Eq.trans (evD_fold l (fun (w : Bool) i => onE s J H 34 35 36 (vItems l) l.length w i) (fun _ _ => True) (fun w _ x => w || badItem s x) (fun w => onX s J H 34 35 36 37 0 (vItems l) l.length w) (fun _ _ => rfl) ?_ ?_ wr 0 trivial (Nat.zero_le _)) ?_
  · rintro w i x - hx
    refine ⟨?_, trivial⟩
    have hlt := (List.getElem?_eq_some_iff.1 hx).1
    have w1 : IntKind.i64.wrap ((i : Int) + 1) = ((i + 1 : Nat) : Int) := w64 (by omega) (by omega)
    have hix := fun H k => ixs_nat H encItem (k := k) (s := 7) hx rfl
    have hb : Eng.boxAt (onHp s H) H.length = some [vI s] := by simp [onHp]
    have h1 := on1_ev [x.h] s H.length (onHp s H) hb hs (by simp)
    have h2 : normA (onFn H) = onFn H := rfl
    simp [sli, encI] at h1
    simp only [encItem] at hix
    cases w with
    | true =>
      by_cases k2 : x.k = 2
      · simp [onE, onFn, hlt, hix, subs, setSubs, k2, w1]
      · by_cases k1 : x.k = 1
        · simp [onE, onFn, hlt, hix, subs, setSubs, k2, k1, w1]
        · simp [onE, onFn, hlt, hix, subs, setSubs, k2, k1, w1]
    | false =>
      by_cases k2 : x.k = 2
      · by_cases a1 : x.str = 0
        · by_cases a2 : x.ord = 0
          · by_cases a3 : x.shr = 0
            · simp [onE, onFn, hlt, hix, subs, setSubs, k2, w1, a1, a2, a3, h1, badItem]
            · simp [onE, onFn, hlt, hix, subs, setSubs, k2, w1, a1, a2, a3, h1, badItem]
          · simp [onE, onFn, hlt, hix, subs, setSubs, k2, w1, a1, a2, h1, badItem]
        · simp [onE, onFn, hlt, hix, subs, setSubs, k2, w1, a1, h1, badItem]
      · by_cases k1 : x.k = 1
        · simp [onE, onFn, hlt, hix, subs, setSubs, k2, k1, w1, h1, badItem]
        · simp [onE, onFn, hlt, hix, subs, setSubs, k2, k1, w1, badItem]
  · rintro w -
    simp [onE, onX]
  · rw [fold_or]; rfl

theorem on_lp1 (s : Int) (hs : 1 ≤ s) (l : List Note) (hl : ∀ n ∈ l, n.lines.length ≤ 1000000) (hn : l.length ≤ 1000000) (J : List V) (H : Heap) (wr : Bool) :
    evD EE lp48_1 (onE s J H 72 73 74 (vNotes l) l.length wr 0) = some (onX s J H 72 73 74 75 5 (vNotes l) l.length (wr || l.any (fun n => n.lines.any (off s)))) := by
  unfold lp48_1
  refine Eq.trans (evD_fold l (fun (w : Bool) i => onE s J H 72 73 74 (vNotes l) l.length w i) (fun _ _ => True) (fun w _ (n : Note) => w || n.lines.any (off s)) (fun w => onX s J H 72 73 74 75 5 (vNotes l) l.length w) (fun _ _ => rfl) ?_ ?_ wr 0 trivial (Nat.zero_le _)) ?_
  · rintro w i x - hx
    refine ⟨?_, trivial⟩
    have hlt := (List.getElem?_eq_some_iff.1 hx).1
    have w1 : IntKind.i64.wrap ((i : Int) + 1) = ((i + 1 : Nat) : Int) := w64 (by omega) (by omega)
    have hix := fun H k => ixs_nat H encNote (k := k) (s := 2) hx rfl
    have hb : Eng.boxAt (onHp s H) H.length = some [vI s] := by simp [onHp]
    have h1 := on1_ev x.lines s H.length (onHp s H) hb hs (hl x (List.mem_of_getElem? hx))
    simp [sli] at h1
    simp only [encNote] at hix
    cases w with
    | true => simp [onE, onFn, hlt, hix, subs, setSubs, w1]
    | false => simp [onE, onFn, hlt, hix, subs, setSubs, w1, h1]
  · rintro w -
    simp [onE, onX, onFn]
  · rw [fold_or]; rfl
def on2E (s : Int) (H : Heap) (l : V) (n : Nat) (wr : Bool) (i : Nat) : St :=
  ⟨[(4, onFn H), (5, vB wr), (87, l), (88, vI n), (89, vI i)], [], onHp s H, H.length, []⟩
def on2X (s : Int) (H : Heap) (l : V) (n : Nat) (wr : Bool) : Ex × St :=
  (.exit 7, ⟨[(4, onFn H), (5, vB wr), (87, l), (88, vI n), (89, vI n), (90, vB false)], [], onHp s H, H.length, []⟩)
theorem on_lp2 (s : Int) (hs : 1 ≤ s) (l : List Float) (hn : l.length ≤ 1000000) (H : Heap) (wr : Bool) :
    evD EE lp48_2 (on2E s H (vFloats l) l.length wr 0) = some (on2X s H (vFloats l) l.length (wr || l.any (fun f => off s f.h))) := by
  unfold lp48_2
  refine Eq.trans (evD_fold l (fun (w : Bool) i => on2E s H (vFloats l) l.length w i) (fun _ _ => True) (fun w _ (f : Float) => w || off s f.h) (fun w => on2X s H (vFloats l) l.length w) (fun _ _ => rfl) ?_ ?_ wr 0 trivial (Nat.zero_le _)) ?_
  · rintro w i x - hx
    refine ⟨?_, trivial⟩
    have hlt := (List.getElem?_eq_some_iff.1 hx).1
    have w1 : IntKind.i64.wrap ((i : Int) + 1) = ((i + 1 : Nat) : Int) := w64 (by omega) (by omega)
    have hix := fun H k => ixs_nat H encFloat (k := k) (s := 3) hx rfl
    have hb : Eng.boxAt (onHp s H) H.length = some [vI s] := by simp [onHp]
    have h1 := on1_ev [x.h] s H.length (onHp s H) hb hs (by simp)
    simp [sli, encI] at h1
    simp only [encFloat] at hix
    cases w with
    | true => simp [on2E, onFn, hlt, hix, subs, setSubs, w1]
    | false => simp [on2E, onFn, hlt, hix, subs, setSubs, w1, h1]
  · rintro w -
    simp [on2E, on2X, onFn]
  · rw [fold_or]; rfl
theorem on_ev (j : Job) (n1 : j.items.length ≤ 1000000) (n2 : j.notes.length ≤ 1000000) (n3 : j.floats.length ≤ 1000000) (hn : ∀ n ∈ j.notes, n.lines.length ≤ 1000000) (H : Heap) : clD EE (.p (.fn 48)) [vJob j] H = some (vB (onF j), none) := by
  rw [clD_body _ _ _ _ _ _ (noP _) fn48]
  by_cases c : j.g.grid < 1
  · simp [St.enter, enumFrom, subs, setSubs, c, onF]
  · have hs : 1 ≤ j.g.grid := by omega
    have hb : Eng.boxAt (onHp j.g.grid H) H.length = some [vI j.g.grid] := by simp [onHp]
    have h0 := on1_ev [j.g.high, j.g.first, j.g.rule, j.g.sep] j.g.grid H.length (onHp j.g.grid H) hb hs (by simp)
    simp [sli, encI, onHp] at h0
    have k0 := fun J wr => on_lp0 j.g.grid hs j.items n1 J H wr
    have k1 := fun J wr => on_lp1 j.g.grid hs j.notes hn n2 J H wr
    have k2 := fun wr => on_lp2 j.g.grid hs j.floats n3 H wr
    have e : onF j = !badJob j := by simp [onF, c]
    rw [e]
    unfold badJob
    simp only [List.any_cons, List.any_nil, Bool.or_false]
    simp only [← Bool.or_assoc] at h0 ⊢
    generalize (off j.g.grid j.g.high || off j.g.grid j.g.first || off j.g.grid j.g.rule || off j.g.grid j.g.sep) = b0 at *
    generalize j.items.any (badItem j.g.grid) = b1 at *
    generalize j.notes.any (fun n => n.lines.any (off j.g.grid)) = b2 at *
    generalize j.floats.any (fun f => off j.g.grid f.h) = b3 at *
    simp only [onE, onX, on2E, on2X, onHp, onFn] at k0 k1 k2
    simp [-Bool.forall_bool] at k0 k1 k2
    simp [St.enter, enumFrom, subs, setSubs, c, h0, k0, k1, k2]

/-! ### By the document -/
abbrev cJ (j : Job) : List V := cGeom j.g ++ [vItems j.items, vNotes j.notes, vFloats j.floats]
def roE (j : Job) (H : Heap) (t : Nat) (i : Nat) : St := ⟨[(1, .lptr 1 0), (3, vI j.g.grid), (t, vI i)], [(1, cJ j)], H, H.length, []⟩
def roX (j : Job) (H : Heap) (t x e : Nat) (n : Nat) : Ex × St := (.exit e, ⟨[(1, .lptr 1 0), (3, vI j.g.grid), (t, vI n), (x, vB false)], [(1, cJ j)], H, H.length, []⟩)
def roB (H : Heap) : Ex × St := (.ret, ⟨[(2, vB false)], [], H, H.length, []⟩)
theorem ron_lp0 (j : Job) (hs : 1 ≤ j.g.grid) (hn : j.items.length ≤ 1000000) (H : Heap) :
    evD EE lp51_0 (roE j H 4 0) = some (if j.items.any (badItem j.g.grid) = true then roB H else roX j H 4 48 0 j.items.length) := by
  unfold lp51_0
  refine Eq.trans (evD_rng j.items (fun (_ : Unit) i => roE j H 4 i) (fun _ _ => True) (stepB (badItem j.g.grid) (roB H)) (fun _ => roX j H 4 48 0 j.items.length) (fun _ _ => rfl) ?_ ?_ () 0 trivial (Nat.zero_le _)) (by rw [rng_any]; rfl)
  · rintro _ i x - hx
    have hlt := (List.getElem?_eq_some_iff.1 hx).1
    have w1 : IntKind.i64.wrap ((i : Int) + 1) = ((i + 1 : Nat) : Int) := w64 (by omega) (by omega)
    have hix := fun H k => ixs_nat H encItem (k := k) (s := 7) hx rfl
    have h0 : j.g.grid ≠ 0 := by omega
    simp only [encItem] at hix
    by_cases k1 : x.k = 1
    · have k2 : x.k ≠ 2 := by omega
      by_cases o : x.h.tmod j.g.grid = 0
      · simp [stepB, badItem, off, k1, o, roE, hlt, hix, subs, setSubs, w1, h0]
      · simp [stepB, badItem, off, k1, o, roE, roB, hlt, hix, subs, setSubs, h0]
    · by_cases k2 : x.k = 2
      · by_cases o : x.h.tmod j.g.grid = 0
        · by_cases a1 : x.str = 0
          · by_cases a2 : x.ord = 0
            · by_cases a3 : x.shr = 0
              · simp [stepB, badItem, off, k2, o, a1, a2, a3, roE, hlt, hix, subs, setSubs, w1, h0]
              · simp [stepB, badItem, off, k2, o, a1, a2, a3, roE, roB, hlt, hix, subs, setSubs, h0]
            · simp [stepB, badItem, off, k2, o, a1, a2, roE, roB, hlt, hix, subs, setSubs, h0]
          · simp [stepB, badItem, off, k2, o, a1, roE, roB, hlt, hix, subs, setSubs, h0]
        · simp [stepB, badItem, off, k2, o, roE, roB, hlt, hix, subs, setSubs, h0]
      · simp [stepB, badItem, off, k1, k2, roE, hlt, hix, subs, setSubs, w1]
  · rintro _ -
    simp [roE, roX, subs]

def rolE (j : Job) (H : Heap) (i : Nat) (k : Nat) : St := ⟨[(1, .lptr 1 0), (3, vI j.g.grid), (6, vI i), (7, vI k)], [(1, cJ j)], H, H.length, []⟩
def rolX (j : Job) (H : Heap) (i : Nat) (n : Nat) : Ex × St := (.exit 4, ⟨[(1, .lptr 1 0), (3, vI j.g.grid), (6, vI i), (7, vI n), (106, vB false)], [(1, cJ j)], H, H.length, []⟩)
theorem ron_lp1 (j : Job) (hs : 1 ≤ j.g.grid) (i : Nat) (n : Note) (hi : j.notes[i]? = some n) (hn : n.lines.length ≤ 1000000) (H : Heap) :
    evD EE lp51_1 (rolE j H i 0) = some (if n.lines.any (off j.g.grid) = true then roB H else rolX j H i n.lines.length) := by
  unfold lp51_1
  have hiy := fun H k => ixs_nat H encNote (k := k) (s := 2) hi rfl
  have hlt0 := (List.getElem?_eq_some_iff.1 hi).1
  simp only [encNote] at hiy
  refine Eq.trans (evD_rng n.lines (fun (_ : Unit) k => rolE j H i k) (fun _ _ => True) (stepB (off j.g.grid) (roB H)) (fun _ => rolX j H i n.lines.length) (fun _ _ => rfl) ?_ ?_ () 0 trivial (Nat.zero_le _)) (by rw [rng_any]; rfl)
  · rintro _ k x - hx
    have hlt := (List.getElem?_eq_some_iff.1 hx).1
    have w1 : IntKind.i64.wrap ((k : Int) + 1) = ((k + 1 : Nat) : Int) := w64 (by omega) (by omega)
    have hix := fun H k => ixs_nat H encI (k := k) (s := 1) hx rfl
    have h0 : j.g.grid ≠ 0 := by omega
    simp only [show ∀ x, encI x = [PV.int .i64 x] from fun _ => rfl] at hix
    by_cases o : x.tmod j.g.grid = 0
    · simp [stepB, off, o, rolE, hlt, hiy, hix, subs, w1, h0]
    · simp [stepB, off, o, rolE, roB, hlt, hiy, hix, subs, h0]
  · rintro _ -
    simp [rolE, rolX, hiy, subs]
theorem ron_lp2 (j : Job) (hs : 1 ≤ j.g.grid) (hn : j.notes.length ≤ 1000000) (hl : ∀ n ∈ j.notes, n.lines.length ≤ 1000000) (H : Heap) :
    evD EE lp51_2 (roE j H 6 0) = some (if j.notes.any (fun n => n.lines.any (off j.g.grid)) = true then roB H else roX j H 6 95 2 j.notes.length) := by
  unfold lp51_2
  refine Eq.trans (evD_rng j.notes (fun (_ : Unit) i => roE j H 6 i) (fun _ _ => True) (stepB (fun (n : Note) => n.lines.any (off j.g.grid)) (roB H)) (fun _ => roX j H 6 95 2 j.notes.length) (fun _ _ => rfl) ?_ ?_ () 0 trivial (Nat.zero_le _)) (by rw [rng_any]; rfl)
  · rintro _ i x - hx
    have hlt := (List.getElem?_eq_some_iff.1 hx).1
    have w1 : IntKind.i64.wrap ((i : Int) + 1) = ((i + 1 : Nat) : Int) := w64 (by omega) (by omega)
    have key := ron_lp1 j hs i x hx (hl x (List.mem_of_getElem? hx)) H
    cases o : x.lines.any (off j.g.grid) with
    | false =>
      rw [o, if_neg (by simp)] at key
      simp only [rolE, rolX] at key
      simp at key
      simp only [stepB, o, roE]
      simp [hlt, subs, key, w1]
    | true =>
      rw [o, if_pos rfl] at key
      simp only [rolE, roB] at key
      simp at key
      simp only [stepB, o, roE, roB]
      simp [hlt, subs, key]
  · rintro _ -
    simp [roE, roX, subs]
theorem ron_lp3 (j : Job) (hs : 1 ≤ j.g.grid) (hn : j.floats.length ≤ 1000000) (H : Heap) :
    evD EE lp51_3 (roE j H 8 0) = some (if j.floats.any (fun f => off j.g.grid f.h) = true then roB H else roX j H 8 125 6 j.floats.length) := by
  unfold lp51_3
  refine Eq.trans (evD_rng j.floats (fun (_ : Unit) i => roE j H 8 i) (fun _ _ => True) (stepB (fun (f : Float) => off j.g.grid f.h) (roB H)) (fun _ => roX j H 8 125 6 j.floats.length) (fun _ _ => rfl) ?_ ?_ () 0 trivial (Nat.zero_le _)) (by rw [rng_any]; rfl)
  · rintro _ i x - hx
    have hlt := (List.getElem?_eq_some_iff.1 hx).1
    have w1 : IntKind.i64.wrap ((i : Int) + 1) = ((i + 1 : Nat) : Int) := w64 (by omega) (by omega)
    have hix := fun H k => ixs_nat H encFloat (k := k) (s := 3) hx rfl
    have h0 : j.g.grid ≠ 0 := by omega
    simp only [encFloat] at hix
    by_cases o : x.h.tmod j.g.grid = 0
    · simp [stepB, off, o, roE, hlt, hix, subs, w1, h0]
    · simp [stepB, off, o, roE, roB, hlt, hix, subs, h0]
  · rintro _ -
    simp [roE, roX, subs]
theorem ron_ev (j : Job) (n1 : j.items.length ≤ 1000000) (n2 : j.notes.length ≤ 1000000) (n3 : j.floats.length ≤ 1000000) (hn : ∀ n ∈ j.notes, n.lines.length ≤ 1000000) (H : Heap) : clD EE (.p (.fn 51)) [vJob j] H = some (vB (onF j), none) := by
  rw [clD_body _ _ _ _ _ _ (noP _) fn51]
  by_cases c : j.g.grid < 1
  · simp [St.enter, enumFrom, subs, setSubs, c, onF]
  · have hs : 1 ≤ j.g.grid := by omega
    have h0 : j.g.grid ≠ 0 := by omega
    have k0 := ron_lp0 j hs n1 H
    have k1 := ron_lp2 j hs n2 hn H
    have k2 := ron_lp3 j hs n3 H
    have e : onF j = !badJob j := by simp [onF, c]
    rw [e]
    unfold badJob
    simp only [List.any_cons, List.any_nil, Bool.or_false]
    simp only [roE, roX, roB] at k0 k1 k2
    by_cases o1 : j.g.high.tmod j.g.grid = 0
    · by_cases o2 : j.g.first.tmod j.g.grid = 0
      · by_cases o3 : j.g.rule.tmod j.g.grid = 0
        · by_cases o4 : j.g.sep.tmod j.g.grid = 0
          · cases b1 : j.items.any (badItem j.g.grid) with
            | true =>
              rw [b1, if_pos rfl] at k0
              simp at k0
              simp [-List.any_eq_true, -List.any_eq_false, St.enter, enumFrom, subs, c, h0, off, o1, o2, o3, o4, k0]
            | false =>
              rw [b1, if_neg (by simp)] at k0
              cases b2 : j.notes.any (fun n => n.lines.any (off j.g.grid)) with
              | true =>
                rw [b2, if_pos rfl] at k1
                simp at k0 k1
                simp [-List.any_eq_true, -List.any_eq_false, St.enter, enumFrom, subs, c, h0, off, o1, o2, o3, o4, k0, k1]
              | false =>
                rw [b2, if_neg (by simp)] at k1
                cases b3 : j.floats.any (fun f => off j.g.grid f.h) with
                | true =>
                  rw [b3, if_pos rfl] at k2
                  simp at k0 k1 k2
                  simp [-List.any_eq_true, -List.any_eq_false, St.enter, enumFrom, subs, c, h0, off, o1, o2, o3, o4, k0, k1, k2]
                | false =>
                  rw [b3, if_neg (by simp)] at k2
                  simp at k0 k1 k2
                  simp [-List.any_eq_true, -List.any_eq_false, St.enter, enumFrom, subs, c, h0, off, o1, o2, o3, o4, k0, k1, k2]
          · simp [St.enter, enumFrom, subs, c, h0, off, o1, o2, o3, o4]
        · simp [St.enter, enumFrom, subs, c, h0, off, o1, o2, o3]
      · simp [St.enter, enumFrom, subs, c, h0, off, o1, o2]
    · simp [St.enter, enumFrom, subs, c, h0, off, o1]
end Go.EnvOf
