/- The same jobs. -/
import Derived.Test.YtfjgcfloallohaaGen
import Derived.Test.YtfjgcfloallohaaNtRSame
import Derived.Test.YtfjgcfloallohaaSp
namespace Go.EnvOf
open Go Go.Eng

theorem eqItems_fn : EE.fns 109 = some (eqI 7 [true, true, true, true, true, true, true]) := fn109
theorem eqFloats_fn : EE.fns 111 = some (eqI 3 [true, true, true]) := fn111
theorem item_cells (x y : Item) : eqCells [true, true, true, true, true, true, true] ((encItem x).map V.p) ((encItem y).map V.p) = some (decide (x = y)) := by
  obtain ⟨a, b, c, d, e, f, g⟩ := x
  obtain ⟨a', b', c', d', e', f', g'⟩ := y
  simp [encItem, Bool.decide_and]
theorem float_cells (x y : Float) : eqCells [true, true, true] ((encFloat x).map V.p) ((encFloat y).map V.p) = some (decide (x = y)) := by
  obtain ⟨a, b, c⟩ := x
  obtain ⟨a', b', c'⟩ := y
  simp [encFloat, Bool.decide_and]
theorem geom_cells (x y : Geom) : eqCells [true, true, true, true, true, true, true, true, true, true, true, true, true, true, true, true, true, true, false] (cGeom x) (cGeom y) = some (decide (x = y)) := by
  obtain ⟨a1, a2, a3, a4, a5, a6, a7, a8, a9, a10, a11, a12, a13, a14, a15, a16, a17, a18, a19⟩ := x
  obtain ⟨b1, b2, b3, b4, b5, b6, b7, b8, b9, b10, b11, b12, b13, b14, b15, b16, b17, b18, b19⟩ := y
  simp [Bool.decide_and]
  cases a19 <;> cases b19 <;> rfl
theorem eqItems_ev (a b : List Item) (hn : a.length ≤ 1000000) (H : Heap) : clD EE (.p (.fn 109)) [vItems a, vItems b] H = some (vB (decide (a = b)), none) :=
  eq_ev _ 7 _ encItem (noP _) eqItems_fn (fun _ => rfl) (fun _ => rfl) item_cells a b (by omega) H
theorem eqFloats_ev (a b : List Float) (hn : a.length ≤ 1000000) (H : Heap) : clD EE (.p (.fn 111)) [vFloats a, vFloats b] H = some (vB (decide (a = b)), none) :=
  eq_ev _ 3 _ encFloat (noP _) eqFloats_fn (fun _ => rfl) (fun _ => rfl) float_cells a b (by omega) H

/-! ### Notes, pair by pair -/
theorem same_notes (a b : Note) : sameF a.lines a.pens b.lines b.pens = decide (a = b) := by
  obtain ⟨x, y⟩ := a
  obtain ⟨u, v⟩ := b
  simp [sameF, Bool.decide_and]
def nfE (a b : V) (n : Nat) (H : Heap) (B : Nat) (i : Nat) : St := ⟨[(1, b), (2, .p (.fn 32)), (15, a), (16, vI n), (17, vI i)], [], H, B, []⟩
def nfX (a b : V) (n : Nat) (H : Heap) (B : Nat) : Ex × St := (.exit 0, ⟨[(1, b), (2, .p (.fn 32)), (15, a), (16, vI n), (17, vI n), (18, .p (.bool false))], [], H, B, []⟩)
def nfBad (H : Heap) (B : Nat) : Ex × St := (.ret, ⟨[(6, vB false)], [], H, B, []⟩)
abbrev okNoteL (n : Note) : Prop := n.lines.length ≤ 1000000 ∧ n.pens.length ≤ 1000000
theorem eqNotes_ev (a b : List Note) (hn : a.length ≤ 1000000) (ha : ∀ n ∈ a, okNoteL n) (H : Heap) : clD EE (.p (.fn 110)) [vNotes a, vNotes b, .p (.fn 32)] H = some (vB (decide (a = b)), none) := by
  rw [clD_body _ _ _ _ _ _ (noP _) fn110]
  by_cases hl : a.length = b.length
  · have key : evD EE lp110_0 (nfE (vNotes a) (vNotes b) a.length H H.length 0) = some (rng (step2 (fun x y => decide (x = y)) b (nfBad H H.length)) (fun _ => nfX (vNotes a) (vNotes b) a.length H H.length) () 0 a) := by
      unfold lp110_0
      refine evD_rng a (fun (_ : Unit) i => nfE (vNotes a) (vNotes b) a.length H H.length i) (fun _ _ => True) _ (fun _ => nfX (vNotes a) (vNotes b) a.length H H.length) (fun _ _ => rfl) ?_ ?_ () 0 trivial (Nat.zero_le _)
      · rintro _ i x - hx
        have hlt := (List.getElem?_eq_some_iff.1 hx).1
        have hy : b[i]? = some (b[i]'(by omega)) := List.getElem?_eq_getElem (by omega)
        generalize (b[i]'(by omega)) = y at hy
        have w : IntKind.i64.wrap ((i : Int) + 1) = ((i + 1 : Nat) : Int) := w64 (by omega) (by omega)
        have hix := fun H k => ixs_nat H encNote (k := k) (s := 2) hx rfl
        have hiy := fun H k => ixs_nat H encNote (k := k) (s := 2) hy rfl
        have ho := ha x (List.mem_of_getElem? hx)
        have hc := same_ev x.lines x.pens y.lines y.pens H ho.1 ho.2
        rw [same_notes] at hc
        rw [step2_some hy]
        simp only [encNote, note] at hix hiy hc
        by_cases hxy : x = y
        · simp [hxy] at hc hix
          simp [nfE, hlt, hix, hiy, subs, setSubs, hxy, w, hc]
        · simp [hxy] at hc
          simp [nfE, nfBad, hlt, hix, hiy, subs, setSubs, hxy, hc]
      · rintro _ -
        simp [nfE, nfX]
    rw [rng_all2 (fun x y => decide (x = y)) b (nfBad H H.length) (nfX (vNotes a) (vNotes b) a.length H H.length) a 0 (by omega), List.drop_zero, all2_eq a b hl] at key
    have hl' : (a.length : Int) = b.length := by omega
    by_cases h : a = b
    · rw [if_pos (by simpa using h)] at key
      subst h
      simp [nfE, nfX] at key
      simp [St.enter, enumFrom, key]
    · rw [if_neg (by simpa using h)] at key
      simp [nfE, nfBad, hl] at key
      simp [St.enter, enumFrom, hl', key, h]
  · have hl' : ¬ (a.length : Int) = b.length := by omega
    have h : a ≠ b := by rintro rfl; exact hl rfl
    simp [St.enter, enumFrom, hl', h]

theorem gsame_ev (j k : Job) (n1 : j.items.length ≤ 1000000) (n2 : j.notes.length ≤ 1000000) (n3 : j.floats.length ≤ 1000000) (hn : ∀ n ∈ j.notes, okNoteL n) (H : Heap) : clD EE (.p (.fn 52)) [vJob j, vJob k] H = some (vB (decide (j = k)), none) := by
  rw [clD_body _ _ _ _ _ _ (noP _) fn52]
  have hg := geom_cells j.g k.g
  have h1 := eqItems_ev j.items k.items n1 H
  have h2 := eqNotes_ev j.notes k.notes n2 hn H
  have h3 := eqFloats_ev j.floats k.floats n3 H
  have e : decide (j = k) = (decide (j.g = k.g) && decide (j.items = k.items) && decide (j.notes = k.notes) && decide (j.floats = k.floats)) := by
    obtain ⟨a, b, c, d⟩ := j
    obtain ⟨a', b', c', d'⟩ := k
    simp [Bool.decide_and, Bool.and_assoc]
  rw [e]
  cases e1 : decide (j.g = k.g) with
  | false =>
    rw [e1] at hg
    simp [-eqCells_cons, St.enter, enumFrom, subs, hg]
  | true =>
    rw [e1] at hg
    cases e2 : decide (j.items = k.items) with
    | false =>
      rw [e2] at h1
      simp [-eqCells_cons, St.enter, enumFrom, subs, hg, h1]
    | true =>
      rw [e2] at h1
      cases e3 : decide (j.notes = k.notes) with
      | false =>
        rw [e3] at h2
        simp [-eqCells_cons, St.enter, enumFrom, subs, hg, h1, h2]
      | true =>
        rw [e3] at h2
        simp [-eqCells_cons, St.enter, enumFrom, subs, hg, h1, h2, h3]

/-! ### By the document -/
def s2E (a b : V) (H : Heap) (B : Nat) (i : Nat) : St := ⟨[(0, a), (1, b), (5, vI i)], [], H, B, []⟩
def s2X (a b : V) (n : Nat) (H : Heap) (B : Nat) : Ex × St := (.exit 0, ⟨[(0, a), (1, b), (5, vI n), (14, .p (.bool false))], [], H, B, []⟩)
def s2Bad (H : Heap) (B : Nat) : Ex × St := (.ret, ⟨[(4, vB false)], [], H, B, []⟩)
theorem rall_ev (a b : List Note) (hn : a.length ≤ 1000000) (ha : ∀ n ∈ a, okNoteL n) (H : Heap) : clD EE (.p (.fn 104)) [vNotes a, vNotes b] H = some (vB (decide (a = b)), none) := by
  rw [clD_body _ _ _ _ _ _ (noP _) fn104]
  by_cases hl : a.length = b.length
  · have key : evD EE lp104_0 (s2E (vNotes a) (vNotes b) H H.length 0) = some (rng (step2 (fun x y => decide (x = y)) b (s2Bad H H.length)) (fun _ => s2X (vNotes a) (vNotes b) a.length H H.length) () 0 a) := by
      unfold lp104_0
      refine evD_rng a (fun (_ : Unit) i => s2E (vNotes a) (vNotes b) H H.length i) (fun _ _ => True) _ (fun _ => s2X (vNotes a) (vNotes b) a.length H H.length) (fun _ _ => rfl) ?_ ?_ () 0 trivial (Nat.zero_le _)
      · rintro _ i x - hx
        have hlt := (List.getElem?_eq_some_iff.1 hx).1
        have hy : b[i]? = some (b[i]'(by omega)) := List.getElem?_eq_getElem (by omega)
        generalize (b[i]'(by omega)) = y at hy
        have w : IntKind.i64.wrap ((i : Int) + 1) = ((i + 1 : Nat) : Int) := w64 (by omega) (by omega)
        have hix := fun H k => ixs_nat H encNote (k := k) (s := 2) hx rfl
        have hiy := fun H k => ixs_nat H encNote (k := k) (s := 2) hy rfl
        have ho := ha x (List.mem_of_getElem? hx)
        have hc := rsame_ev x.lines x.pens y.lines y.pens H ho.1 ho.2
        rw [same_notes] at hc
        rw [step2_some hy]
        simp only [encNote, note] at hix hiy hc
        by_cases hxy : x = y
        · simp [hxy] at hc hix
          simp [s2E, hlt, hix, hiy, subs, setSubs, hxy, w, hc]
        · simp [hxy] at hc
          simp [s2E, s2Bad, hlt, hix, hiy, subs, setSubs, hxy, hc]
      · rintro _ -
        simp [s2E, s2X]
    rw [rng_all2 (fun x y => decide (x = y)) b (s2Bad H H.length) (s2X (vNotes a) (vNotes b) a.length H H.length) a 0 (by omega), List.drop_zero, all2_eq a b hl] at key
    have hl' : (a.length : Int) = b.length := by omega
    by_cases h : a = b
    · rw [if_pos (by simpa using h)] at key
      subst h
      simp [s2E, s2X] at key
      simp [St.enter, enumFrom, key]
    · rw [if_neg (by simpa using h)] at key
      simp [s2E, s2Bad] at key
      simp [St.enter, enumFrom, hl', key, h]
  · have hl' : ¬ (a.length : Int) = b.length := by omega
    have h : a ≠ b := by rintro rfl; exact hl rfl
    simp [St.enter, enumFrom, hl', h]
theorem rsame12_ev (a b : List Float) (hn : a.length ≤ 1000000) (H : Heap) : clD EE (.p (.fn 105)) [vFloats a, vFloats b] H = some (vB (decide (a = b)), none) := by
  rw [clD_body _ _ _ _ _ _ (noP _) fn105]
  by_cases hl : a.length = b.length
  · have key : evD EE lp105_0 (s2E (vFloats a) (vFloats b) H H.length 0) = some (rng (step2 (fun x y => decide (x = y)) b (s2Bad H H.length)) (fun _ => s2X (vFloats a) (vFloats b) a.length H H.length) () 0 a) := by
      unfold lp105_0
      refine evD_rng a (fun (_ : Unit) i => s2E (vFloats a) (vFloats b) H H.length i) (fun _ _ => True) _ (fun _ => s2X (vFloats a) (vFloats b) a.length H H.length) (fun _ _ => rfl) ?_ ?_ () 0 trivial (Nat.zero_le _)
      · rintro _ i x - hx
        have hlt := (List.getElem?_eq_some_iff.1 hx).1
        have hy : b[i]? = some (b[i]'(by omega)) := List.getElem?_eq_getElem (by omega)
        generalize (b[i]'(by omega)) = y at hy
        have w : IntKind.i64.wrap ((i : Int) + 1) = ((i + 1 : Nat) : Int) := w64 (by omega) (by omega)
        have hix := fun H k => ixs_nat H encFloat (k := k) (s := 3) hx rfl
        have hiy := fun H k => ixs_nat H encFloat (k := k) (s := 3) hy rfl
        have hsub : ∀ x, subs ((encFloat x).map V.p) 0 3 = some ((encFloat x).map V.p) := fun x => rfl
        have hagg : ∀ x, aggOr true ((encFloat x).map V.p) = some (.agg ((encFloat x).map V.p)) := fun x => rfl
        have hc := float_cells x y
        rw [step2_some hy]
        by_cases hxy : x = y
        · simp [hxy] at hc
          simp [-eqCells_cons, s2E, hlt, hix, hiy, hsub, hagg, setSubs, hxy, w, hc]
        · simp [hxy] at hc
          simp [-eqCells_cons, s2E, s2Bad, hlt, hix, hiy, hsub, hagg, setSubs, hxy, hc]
      · rintro _ -
        simp [s2E, s2X]
    rw [rng_all2 (fun x y => decide (x = y)) b (s2Bad H H.length) (s2X (vFloats a) (vFloats b) a.length H H.length) a 0 (by omega), List.drop_zero, all2_eq a b hl] at key
    have hl' : (a.length : Int) = b.length := by omega
    by_cases h : a = b
    · rw [if_pos (by simpa using h)] at key
      subst h
      simp [s2E, s2X] at key
      simp [St.enter, enumFrom, key]
    · rw [if_neg (by simpa using h)] at key
      simp [s2E, s2Bad] at key
      simp [St.enter, enumFrom, hl', key, h]
  · have hl' : ¬ (a.length : Int) = b.length := by omega
    have h : a ≠ b := by rintro rfl; exact hl rfl
    simp [St.enter, enumFrom, hl', h]

abbrev cJob (j : Job) : List V := cGeom j.g ++ [vItems j.items, vNotes j.notes, vFloats j.floats]
def s14E (j k : Job) (H : Heap) (B : Nat) (i : Nat) : St := ⟨[(2, .lptr 2 0), (3, .lptr 3 0), (5, vI i)], [(2, cJob j), (3, cJob k)], H, B, []⟩
def s14X (j k : Job) (H : Heap) (B : Nat) : Ex × St := (.exit 0, ⟨[(2, .lptr 2 0), (3, .lptr 3 0), (5, vI j.items.length), (17, .p (.bool false))], [(2, cJob j), (3, cJob k)], H, B, []⟩)
theorem rsame14_ev (j k : Job) (n1 : j.items.length ≤ 1000000) (n2 : j.notes.length ≤ 1000000) (n3 : j.floats.length ≤ 1000000) (hn : ∀ n ∈ j.notes, okNoteL n) (H : Heap) : clD EE (.p (.fn 49)) [vJob j, vJob k] H = some (vB (decide (j = k)), none) := by
  rw [clD_body _ _ _ _ _ _ (noP _) fn49]
  have e : decide (j = k) = (decide (j.items = k.items) && decide (j.g = k.g) && decide (j.notes = k.notes) && decide (j.floats = k.floats)) := by
    obtain ⟨a, b, c, d⟩ := j
    obtain ⟨a', b', c', d'⟩ := k
    simp only [Job.mk.injEq, Bool.decide_and]
    cases decide (a = a') <;> cases decide (b = b') <;> rfl
  by_cases hl : j.items.length = k.items.length
  · have key : evD EE lp49_0 (s14E j k H H.length 0) = some (rng (step2 (fun x y => decide (x = y)) k.items (s2Bad H H.length)) (fun _ => s14X j k H H.length) () 0 j.items) := by
      unfold lp49_0
      refine evD_rng j.items (fun (_ : Unit) i => s14E j k H H.length i) (fun _ _ => True) _ (fun _ => s14X j k H H.length) (fun _ _ => rfl) ?_ ?_ () 0 trivial (Nat.zero_le _)
      · rintro _ i x - hx
        have hlt := (List.getElem?_eq_some_iff.1 hx).1
        have hy : k.items[i]? = some (k.items[i]'(by omega)) := List.getElem?_eq_getElem (by omega)
        generalize (k.items[i]'(by omega)) = y at hy
        have w : IntKind.i64.wrap ((i : Int) + 1) = ((i + 1 : Nat) : Int) := w64 (by omega) (by omega)
        have hix := fun H k => ixs_nat H encItem (k := k) (s := 7) hx rfl
        have hiy := fun H k => ixs_nat H encItem (k := k) (s := 7) hy rfl
        have hsub : ∀ x, subs ((encItem x).map V.p) 0 7 = some ((encItem x).map V.p) := fun x => rfl
        have hagg : ∀ x, aggOr true ((encItem x).map V.p) = some (.agg ((encItem x).map V.p)) := fun x => rfl
        have hs1 : ∀ (j : Job), subs (cJob j) 19 1 = some [vItems j.items] := fun _ => rfl
        have hs2 : ∀ (j : Job), ¬ cJob j = [] := fun _ => by simp
        have hc := item_cells x y
        rw [step2_some hy]
        unfold s14E
        generalize cJob = cj at *
        by_cases hxy : x = y
        · simp [hxy] at hc
          simp [-eqCells_cons, hlt, hix, hiy, hsub, hagg, hs1, hs2, hxy, w, hc]
        · simp [hxy] at hc
          simp [-eqCells_cons, s2Bad, hlt, hix, hiy, hsub, hagg, hs1, hs2, hxy, hc]
      · rintro _ -
        have hs1 : ∀ (j : Job), subs (cJob j) 19 1 = some [vItems j.items] := fun _ => rfl
        have hs2 : ∀ (j : Job), ¬ cJob j = [] := fun _ => by simp
        unfold s14E s14X
        generalize cJob = cj at *
        simp [hs1, hs2]
    rw [rng_all2 (fun x y => decide (x = y)) k.items (s2Bad H H.length) (s14X j k H H.length) j.items 0 (by omega), List.drop_zero, all2_eq j.items k.items hl] at key
    have hl' : (j.items.length : Int) = k.items.length := by omega
    rw [e]
    cases h : decide (j.items = k.items) with
    | true =>
      rw [h, if_pos rfl] at key
      simp [s14E, s14X] at key
      have hg := geom_cells j.g k.g
      have h2 := rall_ev j.notes k.notes n2 hn H
      have h3 := rsame12_ev j.floats k.floats n3 H
      cases e1 : decide (j.g = k.g) with
      | false =>
        rw [e1] at hg
        simp [-eqCells_cons, St.enter, enumFrom, subs, hl', key, hg]
      | true =>
        rw [e1] at hg
        cases e3 : decide (j.notes = k.notes) with
        | false =>
          rw [e3] at h2
          simp [-eqCells_cons, St.enter, enumFrom, subs, hl', key, hg, h2]
        | true =>
          rw [e3] at h2
          simp [-eqCells_cons, St.enter, enumFrom, subs, hl', key, hg, h2, h3]
    | false =>
      rw [h, if_neg (by simp)] at key
      simp [s14E, s2Bad] at key
      simp [St.enter, enumFrom, subs, hl', key]
  · have hl' : ¬ (j.items.length : Int) = k.items.length := by omega
    have h : j ≠ k := by rintro rfl; exact hl rfl
    simp [St.enter, enumFrom, subs, hl', h]
end Go.EnvOf
