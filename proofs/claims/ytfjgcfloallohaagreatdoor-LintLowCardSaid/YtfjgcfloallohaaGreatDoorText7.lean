/- The law of jobs without warnings. -/
import Derived.Test.YtfjgcfloallohaaGreatDoorText6
namespace Go.EnvOf
open Go Go.Eng
set_option maxRecDepth 100000
theorem rd_inL {α : Type} [Inhabited α] {l : List α} {i : Int} (h0 : 0 ≤ i) (h1 : i < l.length) : rd l i ∈ l := List.mem_of_getElem? (rd_get l i h0 h1)
theorem ofK_app (k : Int) (a b : List Warn) : ofK k (a ++ b) = ofK k a ++ ofK k b := List.filter_append ..
theorem ofK_items {k : Int} {g : Geom} {I : List Item} : ∀ n, (∀ i, i < n → ofK k (perW g I i) = []) → ofK k (itemsW g I n) = []
  | 0, _ => rfl
  | n + 1, h => by
    simp only [itemsW, ofK_app]
    rw [ofK_items n (fun i hi => h i (by omega)), h n (by omega)]
    rfl
theorem ofK_idx {k m : Int} (q : Nat → Bool) (hk : m ≠ k) : ∀ n, ofK k (idxW m q n) = []
  | 0 => rfl
  | n + 1 => by
    simp only [idxW, ofK_app, ofK_idx q hk n]
    cases q n <;> simp [ofK, hk]
theorem ofK_per2 {k : Int} (hk : k = 2 ∨ k = 3) (g : Geom) (I : List Item) (i : Nat) : ofK k (perW g I i) = [] := by
  unfold perW
  cases tallB g (rd I i) <;> cases lostB I i <;> cases idleB I i <;> rcases hk with rfl | rfl <;> simp [ofK]
theorem low_tall {j : Job} (hg : j.g.grid = 0) (h : ∀ x ∈ j.items, (!decide (x.k = 1) || decide (x.h ≤ j.g.high)) = true) : ofK 1 (allW (snapG j)) = [] := by
  have e : snapG j = j := by unfold snapG; rw [if_pos (by omega)]
  rw [e]
  unfold allW notesW floatsW
  rw [ofK_app, ofK_app, ofK_idx _ (by decide), ofK_idx _ (by decide), ofK_items]
  · rfl
  · intro i hi
    have hx : rd j.items i ∈ j.items := rd_inL (by omega) (by omega)
    have hh := h _ hx
    have ht : tallB j.g (rd j.items i) = false := by
      unfold tallB
      simp only [Bool.or_eq_true, Bool.not_eq_true', decide_eq_false_iff_not, decide_eq_true_eq] at hh
      simp only [Bool.and_eq_false_iff, decide_eq_false_iff_not]
      omega
    unfold perW
    rw [ht]
    cases lostB j.items i <;> cases idleB j.items i <;> simp [ofK]
theorem itemG_k (s : Int) (x : Item) : (itemG s x).k = x.k := by 
  unfold itemG
  split
  · rfl
  · split <;> rfl
theorem low_lost {j : Job} (h0 : ∃ x r, j.items = x :: r ∧ x.k = 1) (h : ∀ x ∈ j.items, (!decide (x.k = 3)) = true) : ofK 4 (allW (snapG j)) = [] ∧ ofK 5 (allW (snapG j)) = [] := by
  have h3 : ∀ x ∈ (snapG j).items, x.k ≠ 3 := by
    unfold snapG
    split
    · intro x hx; simpa using h x hx
    · intro x hx
      obtain ⟨y, hy, rfl⟩ := List.mem_map.1 hx
      rw [itemG_k]; simpa using h y hy
  have hz : ∃ x r, (snapG j).items = x :: r ∧ x.k = 1 := by
    obtain ⟨x, r, e, k⟩ := h0
    unfold snapG
    split
    · exact ⟨x, r, e, k⟩
    · exact ⟨itemG j.g.grid x, r.map (itemG j.g.grid), by simp [e], by rw [itemG_k]; exact k⟩
  generalize snapG j = J at *
  obtain ⟨x, r, e, k⟩ := hz
  have r0 : rd J.items 0 = x := by rw [e]; rfl
  have hB : ∀ n, n < J.items.length → bB J.items (n + 1) = false := by
    intro n hn
    induction n with
    | zero =>
      have r0' : rd J.items ((0 : Nat) : Int) = x := r0
      simp [bB, r0, looseX, k]
    | succ n ih =>
      have ih := ih (by omega)
      have hx : rd J.items ((n + 1 : Nat) : Int) ∈ J.items := rd_inL (by omega) (by omega)
      have := h3 _ hx
      rw [bB, ih]
      simp only [Bool.false_and, Bool.false_or, forcesX, this, decide_false, Bool.and_false]
  have hL : ∀ i, i < J.items.length → lostB J.items i = false := by
    intro i hi
    unfold lostB
    cases i with
    | zero =>
      have r0' : rd J.items ((0 : Nat) : Int) = x := r0
      simp [r0, looseX, k]
    | succ n => rw [hB n (by omega)]; rfl
  have hI : ∀ i, i < J.items.length → idleB J.items i = false := by
    intro i hi
    have hx : rd J.items (i : Int) ∈ J.items := rd_inL (by omega) (by omega)
    have := h3 _ hx
    unfold idleB
    have : decide (rd J.items (i : Int) = pen0) = false := by
      apply decide_eq_false
      intro e; rw [e] at this; exact this rfl
    rw [this]; rfl
  unfold allW notesW floatsW
  constructor
  · rw [ofK_app, ofK_app, ofK_idx _ (by decide), ofK_idx _ (by decide), ofK_items]
    · rfl
    · intro i hi
      unfold perW
      rw [hL i hi, hI i hi]
      cases tallB J.g (rd J.items i) <;> simp [ofK]
  · rw [ofK_app, ofK_app, ofK_idx _ (by decide), ofK_idx _ (by decide), ofK_items]
    · rfl
    · intro i hi
      unfold perW
      rw [hL i hi, hI i hi]
      cases tallB J.g (rd J.items i) <;> simp [ofK]
theorem low_floats {j : Job} (h : j.floats.length = 0) : ofK 3 (allW (snapG j)) = [] := by
  have e : (snapG j).floats.length = 0 := by
    unfold snapG; split
    · exact h
    · simpa using h
  unfold allW notesW floatsW
  rw [e, ofK_app, ofK_app, ofK_idx _ (by decide), ofK_items _ (fun i _ => ofK_per2 (.inr rfl) _ _ i)]
  rfl
theorem low_notes {j : Job} (h : j.notes.length = 0) : ofK 2 (allW (snapG j)) = [] := by
  have e : (snapG j).notes.length = 0 := by
    unfold snapG; split
    · exact h
    · simpa using h
  unfold allW notesW floatsW
  rw [e, ofK_app, ofK_app, ofK_idx (m := 3) _ (by decide), ofK_items _ (fun i _ => ofK_per2 (.inl rfl) _ _ i)]
  rfl
/-! ### The loop -/
def lwE (j : Job) (W : List Warn) (H : Heap) (s : Bool × Bool) (i : Nat) : St := ⟨[(1, .lptr 1 0), (3, vWs W), (4, vB s.1), (5, vB s.2), (6, vI i)], [(1, cJb j)], H, 0, []⟩
def lwX (j : Job) (W : List Warn) (H : Heap) (s : Bool × Bool) : Ex × St := (.exit 0, ⟨[(1, .lptr 1 0), (3, vWs W), (4, vB s.1), (5, vB s.2), (6, vI j.items.length), (48, vB false)], [(1, cJb j)], H, 0, []⟩)
theorem fold_and2 {α : Type} (p q : α → Bool) : ∀ (l : List α) (s : Bool × Bool) (i : Nat), fold (fun (s : Bool × Bool) _ x => (s.1 && p x, s.2 && q x)) s i l = (s.1 && l.all p, s.2 && l.all q)
  | [], s, i => by simp [fold]
  | x :: r, s, i => by simp only [fold, fold_and2 p q r, List.all_cons, Bool.and_assoc]
theorem lw_lp (j : Job) (W : List Warn) (H : Heap) (hl : j.items.length ≤ 1000000) (s : Bool × Bool) : evD EE lp5_0 (lwE j W H s 0) = some (lwX j W H (s.1 && j.items.all (fun x => !decide (x.k = 1) || decide (x.h ≤ j.g.high)), s.2 && j.items.all (fun x => !decide (x.k = 3)))) := by
  unfold lp5_0
  refine Eq.trans (evD_fold j.items (lwE j W H) (fun _ _ => True) (fun (s : Bool × Bool) _ x => (s.1 && (!decide (x.k = 1) || decide (x.h ≤ j.g.high)), s.2 && !decide (x.k = 3))) (lwX j W H) (fun _ _ => rfl) ?_ ?_ s 0 trivial (Nat.zero_le _)) (by rw [List.drop_zero, fold_and2])
  · rintro ⟨a, b⟩ i x _ hx
    refine ⟨?_, trivial⟩
    have hlt := (List.getElem?_eq_some_iff.1 hx).1
    have hix := fun H k => ixs_nat H encItem (k := k) (s := 7) hx rfl
    have w : IntKind.i64.wrap ((i : Int) + 1) = ((i + 1 : Nat) : Int) := w64 (by omega) (by omega)
    by_cases k1 : x.k = 1
    · cases a <;> cases b <;> simp [lwE, hlt, hix, encItem, subs, setSubs, w, k1]
    · cases a <;> cases b <;> simp [lwE, hlt, hix, encItem, subs, setSubs, w, k1]
  · intro s _
    refine ⟨?_, by simp [lwX]⟩
    simp [lwE, lwX, subs]
set_option maxHeartbeats 2000000 in
theorem lintLow_ev (j : Job) (hj : jobI j) : clD EE (.p (.fn 5)) [vJob j] [] = some (.p (.bool true), none) := by
  rw [clD_body _ _ _ _ _ _ (noP _) fn5]
  have l1 := fun H => large_ev j H
  cases b1 : largeF j with
  | true =>
    rw [b1] at l1
    simp only [vJob, cGeom, List.cons_append, List.nil_append] at l1
    obtain ⟨ra, ha⟩ := awake50_ev []
    have hda : (dsOf ra).foldr (addD 0) [] = [] := addD0 _
    simp [St.enter, enumFrom, subs, setSubs, l1, ha, callR_opt, hda]
  | false =>
    have ok := okJob_of hj (small_of b1)
    obtain ⟨p1, p2, p3, p4⟩ := snap_parts ok
    obtain ⟨r, h1⟩ := ltOf_ev j ok p1 p2 p3 p4 []
    have h2 := fun H => rvalidCheck_ev j ok p3 H
    have hl := ofW_len ok
    have hd : (dsOf r).foldr (addD 0) [] = [] := addD0 _
    obtain ⟨ra, ha⟩ := awake50_ev (hpOf [] r)
    have hda : (dsOf ra).foldr (addD 0) [] = [] := addD0 _
    rw [b1] at l1
    by_cases c : (checkF j).1 = 0
    · have eW : ofW j = allW (snapG j) := by unfold ofW; rw [if_pos c]
      have on := fun k H => only_ev (ofW j) k H (by omega)
      have t1 := fun hg h => low_tall (j := j) hg h
      have t2 := fun h0 h => low_lost (j := j) h0 h
      have t3 := low_floats (j := j)
      have t4 := low_notes (j := j)
      have lw := fun s => lw_lp j (ofW j) (hpOf [] r) ok.n1 s
      rw [← eW] at t1 t2 t3 t4
      rw [c] at h2
      simp only [vJob, cGeom, List.cons_append, List.nil_append] at l1 h1 h2
      generalize ofW j = W at *
      have w0 : IntKind.i64.wrap 0 = 0 := by decide
      have tA : (decide (j.g.grid = 0) && j.items.all (fun x => !decide (x.k = 1) || decide (x.h ≤ j.g.high))) = true → ofK 1 W = [] := by
        intro h
        simp only [Bool.and_eq_true, decide_eq_true_eq] at h
        exact t1 h.1 (List.all_eq_true.1 h.2)
      have tF : ¬ 0 < j.floats.length → ofK 3 W = [] := fun h => t3 (by omega)
      have tN : ¬ 0 < j.notes.length → ofK 2 W = [] := fun h => t4 (by omega)
      by_cases hn : 0 < j.items.length
      · obtain ⟨x, rr, ex⟩ : ∃ x rr, j.items = x :: rr := by
          cases e : j.items with
          | nil => rw [e] at hn; simp at hn
          | cons x rr => exact ⟨x, rr, rfl⟩
        have h0 : j.items[0]? = some x := by rw [ex]; rfl
        have hix := fun H k => ixs_nat H encItem (k := k) (s := 7) h0 rfl
        have tB : (decide (x.k = 1) && j.items.all (fun x => !decide (x.k = 3))) = true → ofK 4 W = [] ∧ ofK 5 W = [] := by
          intro h
          simp only [Bool.and_eq_true, decide_eq_true_eq] at h
          exact t2 ⟨x, rr, ex, h.1⟩ (List.all_eq_true.1 h.2)
        have key := lw (decide (j.g.grid = 0), decide (x.k = 1))
        clear ex t1 t2 t3 t4 lw
        simp only at key
        generalize hA : (decide (j.g.grid = 0) && j.items.all (fun x => !decide (x.k = 1) || decide (x.h ≤ j.g.high))) = A at *
        generalize hB : (decide (x.k = 1) && j.items.all (fun x => !decide (x.k = 3))) = B at *
        clear hA hB
        simp [lwE, lwX] at key hix
        cases A with
        | true =>
          cases B with
          | true =>
            by_cases nf : 0 < j.floats.length
            · by_cases nn : 0 < j.notes.length
              · simp [St.enter, enumFrom, subs, setSubs, fldvV, encItem, callR_opt, l1, h1, h2, on, w0, ha, hd, hda, key, hix, hn, nf, nn, tA rfl, (tB rfl).1, (tB rfl).2]
              · simp [St.enter, enumFrom, subs, setSubs, fldvV, encItem, callR_opt, l1, h1, h2, on, w0, ha, hd, hda, key, hix, hn, nf, nn, tN nn, tA rfl, (tB rfl).1, (tB rfl).2]
            · by_cases nn : 0 < j.notes.length
              · simp [St.enter, enumFrom, subs, setSubs, fldvV, encItem, callR_opt, l1, h1, h2, on, w0, ha, hd, hda, key, hix, hn, nf, tF nf, nn, tA rfl, (tB rfl).1, (tB rfl).2]
              · simp [St.enter, enumFrom, subs, setSubs, fldvV, encItem, callR_opt, l1, h1, h2, on, w0, ha, hd, hda, key, hix, hn, nf, tF nf, nn, tN nn, tA rfl, (tB rfl).1, (tB rfl).2]
          | false =>
            by_cases nf : 0 < j.floats.length
            · by_cases nn : 0 < j.notes.length
              · simp [St.enter, enumFrom, subs, setSubs, fldvV, encItem, callR_opt, l1, h1, h2, on, w0, ha, hd, hda, key, hix, hn, nf, nn, tA rfl]
              · simp [St.enter, enumFrom, subs, setSubs, fldvV, encItem, callR_opt, l1, h1, h2, on, w0, ha, hd, hda, key, hix, hn, nf, nn, tN nn, tA rfl]
            · by_cases nn : 0 < j.notes.length
              · simp [St.enter, enumFrom, subs, setSubs, fldvV, encItem, callR_opt, l1, h1, h2, on, w0, ha, hd, hda, key, hix, hn, nf, tF nf, nn, tA rfl]
              · simp [St.enter, enumFrom, subs, setSubs, fldvV, encItem, callR_opt, l1, h1, h2, on, w0, ha, hd, hda, key, hix, hn, nf, tF nf, nn, tN nn, tA rfl]
        | false =>
          cases B with
          | true =>
            by_cases nf : 0 < j.floats.length
            · by_cases nn : 0 < j.notes.length
              · simp [St.enter, enumFrom, subs, setSubs, fldvV, encItem, callR_opt, l1, h1, h2, on, w0, ha, hd, hda, key, hix, hn, nf, nn, (tB rfl).1, (tB rfl).2]
              · simp [St.enter, enumFrom, subs, setSubs, fldvV, encItem, callR_opt, l1, h1, h2, on, w0, ha, hd, hda, key, hix, hn, nf, nn, tN nn, (tB rfl).1, (tB rfl).2]
            · by_cases nn : 0 < j.notes.length
              · simp [St.enter, enumFrom, subs, setSubs, fldvV, encItem, callR_opt, l1, h1, h2, on, w0, ha, hd, hda, key, hix, hn, nf, tF nf, nn, (tB rfl).1, (tB rfl).2]
              · simp [St.enter, enumFrom, subs, setSubs, fldvV, encItem, callR_opt, l1, h1, h2, on, w0, ha, hd, hda, key, hix, hn, nf, tF nf, nn, tN nn, (tB rfl).1, (tB rfl).2]
          | false =>
            by_cases nf : 0 < j.floats.length
            · by_cases nn : 0 < j.notes.length
              · simp [St.enter, enumFrom, subs, setSubs, fldvV, encItem, callR_opt, l1, h1, h2, on, w0, ha, hd, hda, key, hix, hn, nf, nn]
              · simp [St.enter, enumFrom, subs, setSubs, fldvV, encItem, callR_opt, l1, h1, h2, on, w0, ha, hd, hda, key, hix, hn, nf, nn, tN nn]
            · by_cases nn : 0 < j.notes.length
              · simp [St.enter, enumFrom, subs, setSubs, fldvV, encItem, callR_opt, l1, h1, h2, on, w0, ha, hd, hda, key, hix, hn, nf, tF nf, nn]
              · simp [St.enter, enumFrom, subs, setSubs, fldvV, encItem, callR_opt, l1, h1, h2, on, w0, ha, hd, hda, key, hix, hn, nf, tF nf, nn, tN nn]
      · have key := lw (decide (j.g.grid = 0), false)
        clear t1 t2 t3 t4 lw
        simp only [Bool.false_and] at key
        generalize hA : (decide (j.g.grid = 0) && j.items.all (fun x => !decide (x.k = 1) || decide (x.h ≤ j.g.high))) = A at *
        clear hA
        simp [lwE, lwX] at key
        cases A with
        | true =>
          by_cases nf : 0 < j.floats.length
          · by_cases nn : 0 < j.notes.length
            · simp [St.enter, enumFrom, subs, setSubs, fldvV, encItem, callR_opt, l1, h1, h2, on, w0, ha, hd, hda, key, hn, nf, nn, tA rfl]
            · simp [St.enter, enumFrom, subs, setSubs, fldvV, encItem, callR_opt, l1, h1, h2, on, w0, ha, hd, hda, key, hn, nf, nn, tN nn, tA rfl]
          · by_cases nn : 0 < j.notes.length
            · simp [St.enter, enumFrom, subs, setSubs, fldvV, encItem, callR_opt, l1, h1, h2, on, w0, ha, hd, hda, key, hn, nf, tF nf, nn, tA rfl]
            · simp [St.enter, enumFrom, subs, setSubs, fldvV, encItem, callR_opt, l1, h1, h2, on, w0, ha, hd, hda, key, hn, nf, tF nf, nn, tN nn, tA rfl]
        | false =>
          by_cases nf : 0 < j.floats.length
          · by_cases nn : 0 < j.notes.length
            · simp [St.enter, enumFrom, subs, setSubs, fldvV, encItem, callR_opt, l1, h1, h2, on, w0, ha, hd, hda, key, hn, nf, nn]
            · simp [St.enter, enumFrom, subs, setSubs, fldvV, encItem, callR_opt, l1, h1, h2, on, w0, ha, hd, hda, key, hn, nf, nn, tN nn]
          · by_cases nn : 0 < j.notes.length
            · simp [St.enter, enumFrom, subs, setSubs, fldvV, encItem, callR_opt, l1, h1, h2, on, w0, ha, hd, hda, key, hn, nf, tF nf, nn]
            · simp [St.enter, enumFrom, subs, setSubs, fldvV, encItem, callR_opt, l1, h1, h2, on, w0, ha, hd, hda, key, hn, nf, tF nf, nn, tN nn]
    · have eW : ofW j = [] := by unfold ofW; rw [if_neg c]
      rw [eW] at h1
      simp only [vJob, cGeom, List.cons_append, List.nil_append] at l1 h1 h2
      simp [St.enter, enumFrom, subs, setSubs, fldvV, l1, h1, h2, c, ha, callR_opt, hd, hda]
end Go.EnvOf
