/- The program's functions and the document's, evaluated. -/
import Derived.Test.YtddnebpblclpfaaGreatEngAll8
import Derived.Test.YtddnebpblclpfaaGreatText2
set_option linter.unusedSimpArgs false
set_option linter.unusedVariables false
/- The layer queue: taking the next floats of each class. -/
namespace Go.EnvOf
open Go Go.Eng
set_option maxRecDepth 100000

theorem okEl_upV : ∀ (es : List Int), (upV (es.map encI)).all (okEl 1) = true
  | [] => rfl
  | x :: r => by simp only [List.map_cons, upV_cons, List.all_cons, okEl_upV r, Bool.and_true]; rfl
/-! ### A class's share -/
def okU (n : Nat) (u w : Int) : Prop := 0 ≤ u ∧ 0 ≤ w ∧ u ≤ n ∧ w ≤ n - u
instance (n : Nat) (u w : Int) : Decidable (okU n u w) := inferInstanceAs (Decidable (_ ∧ _))
/-! ### Taking -/
def okT (l : List Float) (x y : C3) : Prop := okU (figOf 0 0 l).length x.a y.a ∧ okU (figOf 1 0 l).length x.b y.b ∧ okU (figOf 2 0 l).length x.c y.c
instance (l : List Float) (x y : C3) : Decidable (okT l x y) := inferInstanceAs (Decidable (_ ∧ _))
end Go.EnvOf

/- Floats: the one at a place. -/
namespace Go.EnvOf
open Go Go.Eng
set_option maxRecDepth 100000
/-! ### The float at a place -/
def atF (l : List Float) (i : Int) : Option Float := if 0 ≤ i ∧ i < l.length then some (rd l i) else none
theorem at_ev (l : List Float) (i : Int) (H : Heap) : clD EE (.p (.fn 155)) [vFloats l, vI i] H = some (.tup [match atF l i with | some f => vFloat f | none => .agg [vI 0, vI 0, vI 0], vB (atF l i).isSome], none) := by
  rw [clD_body _ _ _ _ _ _ (noP _) fn155]
  unfold atF
  by_cases h1 : i < 0
  · simp [St.enter, enumFrom, subs, setSubs, h1, show ¬ 0 ≤ i by omega]
  by_cases h2 : (l.length : Int) ≤ i
  · simp [St.enter, enumFrom, subs, setSubs, h1, h2, show ¬ i < l.length by omega]
  have hx := rd_get l i (by omega) (by omega)
  have hix := fun H k => ixs_int H encFloat (k := k) (s := 3) (by omega) hx rfl
  simp [St.enter, enumFrom, subs, setSubs, h1, h2, show 0 ≤ i ∧ i < l.length by omega, hix, encFloat]
end Go.EnvOf

/- The layer queue: counting what was taken; the next ones. -/
namespace Go.EnvOf
open Go Go.Eng
set_option maxRecDepth 100000
def bump (s : C3) (c : Int) : C3 := if c = 0 then ⟨s.a + 1, s.b, s.c⟩ else if c = 1 then ⟨s.a, s.b + 1, s.c⟩ else if c = 2 then ⟨s.a, s.b, s.c + 1⟩ else s
def ofS (l : List Float) (s : C3) (x : Int) : C3 := match atF l x with | some f => bump s f.c | none => s
def ofL (l : List Float) (xs : List Int) : C3 := xs.foldl (ofS l) ⟨0, 0, 0⟩
def ofE (l : List Float) (xs : List Int) (H : Heap) (s : C3) (i : Nat) : St :=
  ⟨[(0, vFloats l), (4, .lptr 4 0), (5, .lptr 5 0), (10, sli xs), (11, vI xs.length), (12, vI i)], [(4, [vI 0, vI 0, vI 0]), (5, [vI s.a, vI s.b, vI s.c])], H, H.length, []⟩
def ofX (l : List Float) (xs : List Int) (H : Heap) (s : C3) : Ex × St :=
  (.exit 0, ⟨[(0, vFloats l), (4, .lptr 4 0), (5, .lptr 5 0), (10, sli xs), (11, vI xs.length), (12, vI xs.length), (13, vB false)], [(4, [vI 0, vI 0, vI 0]), (5, [vI s.a, vI s.b, vI s.c])], H, H.length, []⟩)
theorem of_lp (l : List Float) (xs : List Int) (H : Heap) (hl : l.length ≤ 100000) (hx : xs.length ≤ 1000000) :
    evD EE lp68_0 (ofE l xs H ⟨0, 0, 0⟩ 0) = some (ofX l xs H (ofL l xs)) := by
  have hf : ∀ (xs : List Int) (s : C3) (i : Nat), fold (fun s _ x => ofS l s x) s i xs = xs.foldl (ofS l) s := by
    intro xs
    induction xs with
    | nil => intro s i; rfl
    | cons x r ih => intro s i; simp only [fold, List.foldl_cons, ih]
  unfold ofL
  rw [← hf xs ⟨0, 0, 0⟩ 0]
  unfold lp68_0
  refine Eq.trans (evD_fold xs (ofE l xs H) (fun s i => (0 ≤ s.a ∧ s.a ≤ i) ∧ (0 ≤ s.b ∧ s.b ≤ i) ∧ (0 ≤ s.c ∧ s.c ≤ i)) (fun s _ x => ofS l s x) (ofX l xs H) (fun _ _ => rfl) ?_ ?_ ⟨0, 0, 0⟩ 0 (by simp) (Nat.zero_le _)) (by rw [List.drop_zero])
  · intro s i x hi hp
    have hlt := (List.getElem?_eq_some_iff.1 hp).1
    have hix := fun H k => ixs_nat H encI (k := k) (s := 1) hp rfl
    have ha := fun H => at_ev l x H
    have w : IntKind.i64.wrap ((i : Int) + 1) = ((i + 1 : Nat) : Int) := w64 (by omega) (by omega)
    have wa : IntKind.i64.wrap (s.a + 1) = s.a + 1 := w64 (by omega) (by omega)
    have wb : IntKind.i64.wrap (s.b + 1) = s.b + 1 := w64 (by omega) (by omega)
    have wc : IntKind.i64.wrap (s.c + 1) = s.c + 1 := w64 (by omega) (by omega)
    unfold ofS
    cases hat : atF l x with
    | none =>
      rw [hat] at ha
      refine ⟨?_, by simp only; omega⟩
      simp [ofE, hlt, hix, encI, subs, setSubs, ha, w]
    | some f =>
      rw [hat] at ha
      obtain ⟨f1, f2, f3⟩ := f
      simp only at ha ⊢
      unfold bump
      by_cases c1 : f1 < 0
      · rw [if_neg (by omega), if_neg (by omega), if_neg (by omega)]
        refine ⟨?_, by omega⟩
        simp [ofE, hlt, hix, encI, subs, setSubs, ha, w, show ¬ 0 ≤ f1 by omega]
      by_cases c2 : 3 ≤ f1
      · rw [if_neg (by omega), if_neg (by omega), if_neg (by omega)]
        refine ⟨?_, by omega⟩
        simp [ofE, hlt, hix, encI, subs, setSubs, ha, w, show 0 ≤ f1 by omega, show ¬ f1 < 3 by omega]
      have c : f1 = 0 ∨ f1 = 1 ∨ f1 = 2 := by omega
      rcases c with rfl | rfl | rfl
      · refine ⟨?_, by simp; omega⟩
        simp [ofE, hlt, hix, encI, subs, setSubs, ixaV, ha, w, wa]
      · refine ⟨?_, by simp; omega⟩
        simp [ofE, hlt, hix, encI, subs, setSubs, ixaV, ha, w, wb]
      · refine ⟨?_, by simp; omega⟩
        simp [ofE, hlt, hix, encI, subs, setSubs, ixaV, ha, w, wc]
  · intro s hi
    refine ⟨?_, by simp [ofX]⟩
    simp [ofE, ofX]
theorem of_ev (l : List Float) (xs : List Int) (H : Heap) (hl : l.length ≤ 100000) (hx : xs.length ≤ 1000000) : clD EE (.p (.fn 68)) [vFloats l, sli xs] H = some (vC (ofL l xs), none) := by
  rw [clD_body _ _ _ _ _ _ (noP _) fn68]
  have key := of_lp l xs H hl hx
  simp [ofE, ofX] at key
  simp [St.enter, enumFrom, subs, setSubs, key]

/-! ### Equal lists of numbers -/
/-! ### Are these the next ones? -/
end Go.EnvOf

/- Jobs on a grid: lengths turned in place. -/
namespace Go.EnvOf
open Go Go.Eng

theorem subs_one {e : List V} {j : Nat} {v : V} (h : e[j]? = some v) : subs e j 1 = some [v] := by
  obtain ⟨h1, h2⟩ := List.getElem?_eq_some_iff.1 h
  have h3 : j + 1 ≤ e.length := h1
  simp [subs, h3, List.drop_eq_getElem_cons h1, h2]
theorem setSubs_one {e : List V} {j : Nat} {v u : V} (h : e[j]? = some v) : setSubs e j [u] = some (e.set j u) := by
  obtain ⟨h1, h2⟩ := List.getElem?_eq_some_iff.1 h
  have h3 : j + 1 ≤ e.length := h1
  simp [setSubs, h1, h3, List.set_eq_take_append_cons_drop]

theorem turn_row (f : FuncId) (g : Int → Int) (n s : Int) (H : Heap) (id tot i j sz : Nat) (es : List (List V)) (e : List V) (hr : Eng.rowAt H id = some (sz, es)) (ht : es.length = tot) (he : es[i]? = some e) (hj : e[j]? = some (vI n)) (hlt : id < H.length)
    (hg : ∀ H', clD EE (.p (.fn f)) [vI n, vI s] H' = some (vI (g n), none)) :
    clD EE (.p (.fn 149)) [.agg [vI s], .p (.fn f), .vsl [[.rptr id tot i j]]] H = some (.tup [], some (H.set id (.row sz (es.set i (e.set j (vI (g n))))), [id])) := by
  rw [clD_body _ _ _ _ _ _ (noP _) fn149]
  have key : evD EE lp149_0 ⟨[(1, .p (.fn f)), (3, .lptr 3 0), (8, .vsl [[.rptr id tot i j]]), (9, .p (.int .i64 1)), (10, .p (.int .i64 0))], [(3, [vI s])], H, H.length, []⟩ =
      some (.exit 0, ⟨[(1, .p (.fn f)), (3, .lptr 3 0), (8, .vsl [[.rptr id tot i j]]), (9, .p (.int .i64 1)), (10, .p (.int .i64 1)), (11, .p (.bool false))], [(3, [vI s])], H.set id (.row sz (es.set i (e.set j (vI (g n))))), H.length, [id]⟩) := by
    unfold lp149_0
    have w : IntKind.i64.wrap 1 = 1 := w64 (by omega) (by omega)
    rw [evD_loop]
    have e3 : subs [vI s] 0 1 = some [vI s] := rfl
    have e4 : subs [V.rptr id tot i j] 0 1 = some [V.rptr id tot i j] := rfl
    simp [subs_one hj, setSubs_one hj, hr, ht, he, hg, hlt, w, ixsI, ixsV, e3, e4]
    rw [evD_loop]
    simp
  simp [St.enter, enumFrom, key]

theorem turn_box2 (f : FuncId) (g : Int → Int) (n m s : Int) (H : Heap) (id a b : Nat) (cs : List V) (hr : Eng.boxAt H id = some cs) (ha : cs[a]? = some (vI n)) (hb : cs[b]? = some (vI m)) (hab : a ≠ b) (hlt : id < H.length)
    (hg : ∀ H', clD EE (.p (.fn f)) [vI n, vI s] H' = some (vI (g n), none)) (hg2 : ∀ H', clD EE (.p (.fn f)) [vI m, vI s] H' = some (vI (g m), none)) :
    clD EE (.p (.fn 149)) [.agg [vI s], .p (.fn f), .vsl [[.ptr id a], [.ptr id b]]] H = some (.tup [], some (H.set id (.box ((cs.set a (vI (g n))).set b (vI (g m)))), [id, id])) := by
  rw [clD_body _ _ _ _ _ _ (noP _) fn149]
  have key : evD EE lp149_0 ⟨[(1, .p (.fn f)), (3, .lptr 3 0), (8, .vsl [[.ptr id a], [.ptr id b]]), (9, .p (.int .i64 2)), (10, .p (.int .i64 0))], [(3, [vI s])], H, H.length, []⟩ =
      some (.exit 0, ⟨[(1, .p (.fn f)), (3, .lptr 3 0), (8, .vsl [[.ptr id a], [.ptr id b]]), (9, .p (.int .i64 2)), (10, .p (.int .i64 2)), (11, .p (.bool false))], [(3, [vI s])], H.set id (.box ((cs.set a (vI (g n))).set b (vI (g m)))), H.length, [id, id]⟩) := by
    unfold lp149_0
    have w : IntKind.i64.wrap 1 = 1 := w64 (by omega) (by omega)
    have w2 : IntKind.i64.wrap 2 = 2 := w64 (by omega) (by omega)
    have e3 : subs [vI s] 0 1 = some [vI s] := rfl
    have e4 : ∀ x : V, subs [x] 0 1 = some [x] := fun _ => rfl
    have hb2 : (cs.set a (vI (g n)))[b]? = some (vI m) := by rw [List.getElem?_set_ne hab]; exact hb
    have hset : Eng.boxAt (H.set id (.box (cs.set a (vI (g n))))) id = some (cs.set a (vI (g n))) := by simp [Eng.boxAt, List.getElem?_set, hlt]
    rw [evD_loop]
    simp [subs_one ha, setSubs_one ha, hr, hg, hlt, w, ixsI, ixsV, e3, e4]
    rw [evD_loop]
    simp [subs_one hb2, setSubs_one hb2, hset, hg2, hlt, w2, ixsI, ixsV, e3, e4]
    rw [evD_loop]
    simp
  simp [St.enter, enumFrom, key]

def itemG (s : Int) (x : Item) : Item := if x.k = 1 then { x with h := upG x.h s } else if x.k = 2 then { x with h := nearG x.h s, str := 0, ord := 0, shr := 0 } else x
def noteG (s : Int) (n : Note) : Note := { n with lines := n.lines.map fun x => upG x s }
def floatG (s : Int) (f : Float) : Float := { f with h := upG f.h s }
def geomG (g : Geom) : Geom := { g with high := downG g.high g.grid, first := downG g.first g.grid, rule := upG g.rule g.grid, sep := upG g.sep g.grid }
def snapG (j : Job) : Job := if j.g.grid < 1 then j else ⟨geomG j.g, j.items.map (itemG j.g.grid), j.notes.map (noteG j.g.grid), j.floats.map (floatG j.g.grid)⟩
abbrev okItem (x : Item) : Prop := I64 x.k ∧ I64 x.h ∧ I64 x.f ∧ I64 x.str ∧ I64 x.ord ∧ I64 x.shr ∧ I64 x.n
abbrev okFloat (f : Float) : Prop := I64 f.c ∧ I64 f.h ∧ I64 f.w

/-! ### The items -/
def itemsE (s : Int) (l : List Item) (H : Heap) (M : List Item) (i : Nat) : St :=
  ⟨[(2, .lptr 2 0), (5, .row H.length l.length 0 l.length), (11, vI l.length), (12, vI i)], [(2, [vI s])], H ++ [.row 7 (upV (M.map encItem))], H.length, []⟩
def itemsX (s : Int) (l : List Item) (H : Heap) (M : List Item) : Ex × St :=
  (.exit 0, ⟨[(2, .lptr 2 0), (5, .row H.length l.length 0 l.length), (11, vI l.length), (12, vI l.length), (13, .p (.bool false))], [(2, [vI s])], H ++ [.row 7 (upV (M.map encItem))], H.length, []⟩)
theorem items_lp (s : Int) (hs : I64 s) (l : List Item) (hl : ∀ x ∈ l, okItem x) (hn : l.length ≤ 1000000) (H : Heap) :
    evD EE lp147_0 (itemsE s l H l 0) = some (itemsX s l H (l.map (itemG s))) := by
  unfold lp147_0
  refine (evD_fold l (itemsE s l H) (fun M i => M.length = l.length ∧ M.drop i = l.drop i) (fun M i x => M.set i (itemG s x)) (itemsX s l H) (fun _ _ => rfl) ?_ ?_ l 0 ⟨rfl, rfl⟩ (Nat.zero_le _)).trans ?_
  · rintro M i x ⟨hM, hd⟩ hx
    have hlt := (List.getElem?_eq_some_iff.1 hx).1
    have hMx : M[i]? = some x := by
      have := congrArg (·[0]?) hd
      simpa [List.getElem?_drop, hx] using this
    have w : IntKind.i64.wrap ((i : Int) + 1) = ((i + 1 : Nat) : Int) := w64 (by omega) (by omega)
    have ho := hl x (List.mem_of_getElem? hx)
    have hu : (upV (M.map encItem))[i]? = some ((encItem x).map .p) := by simp [upV, hMx]
    have hset : M.set i (itemG s x) = M.set i (itemG s x) := rfl
    have inv : (M.set i (itemG s x)).length = l.length ∧ (M.set i (itemG s x)).drop (i + 1) = l.drop (i + 1) := by
      refine ⟨by simp [hM], ?_⟩
      rw [List.drop_set_of_lt (Nat.lt_succ_self i)]
      have := congrArg (List.drop 1) hd
      simpa [List.drop_drop, Nat.add_comm] using this
    refine ⟨?_, inv⟩
    have hrow : Eng.rowAt (H ++ [DObj.row 7 (upV (M.map encItem))]) H.length = some (7, upV (M.map encItem)) := by simp
    have hlen : (upV (M.map encItem)).length = l.length := by simp [hM]
    have hj : ((encItem x).map V.p)[1]? = some (vI x.h) := rfl
    have t1 := turn_row 151 (fun n => upG n s) x.h s (H ++ [DObj.row 7 (upV (M.map encItem))]) H.length l.length i 1 7 _ _ hrow hlen hu hj (by simp) (fun H' => gup_ev x.h s H' ho.2.1 hs)
    have t2 := turn_row 222 (fun n => nearG n s) x.h s (H ++ [DObj.row 7 (upV (M.map encItem))]) H.length l.length i 1 7 _ _ hrow hlen hu hj (by simp) (fun H' => gnear_ev x.h s H' ho.2.1 hs)
    by_cases k1 : x.k = 1
    · have e : (upV (M.map encItem)).set i (((encItem x).map V.p).set 1 (vI (upG x.h s))) = upV ((M.set i (itemG s x)).map encItem) := by
        rw [← upV_set]; simp [itemG, k1, encItem]
      rw [e] at t1
      simp [-getElem?_pos, itemsE, hlt, ixs_row, hM, hu, encItem, subs, k1, t1, w]
    · by_cases k2 : x.k = 2
      · have g : ∀ a, ((upV (M.map encItem)).set i a)[i]? = some a := fun a => by rw [List.getElem?_set_self (by simp [hM, hlt])]
        have e : (upV (M.map encItem)).set i [vI x.k, vI (nearG x.h s), vI x.f, vI 0, vI 0, vI 0, vI x.n] = upV ((M.set i (itemG s x)).map encItem) := by
          rw [← upV_set]; simp [itemG, k2, encItem]
        rw [k2] at e
        simp [-getElem?_pos, itemsE, hlt, ixs_row, hM, hu, encItem, subs, setSubs, k1, k2, t2, w, g]
        simp [encItem, upV] at e ⊢
        exact e
      · have e : M.set i (itemG s x) = M := by
          have : itemG s x = x := by simp [itemG, k1, k2]
          rw [this]
          refine List.ext_getElem? fun j => ?_
          rw [List.getElem?_set]
          split
          · rename_i h; subst h; rw [if_pos (by omega), hMx]
          · rfl
        rw [e]
        simp [-getElem?_pos, itemsE, hlt, ixs_row, hM, hu, encItem, subs, setSubs, k1, k2, w]
  · rintro M ⟨hM, hd⟩
    simp [itemsE, itemsX]
  · have := fold_set (itemG s) l []
    simp at this
    simp [this]

theorem cloneItems_fn : EE.fns 143 = some (cloneI 7 [vI 0, vI 0, vI 0, vI 0, vI 0, vI 0, vI 0]) := fn143
theorem cloneFloats_fn : EE.fns 144 = some (cloneI 3 [vI 0, vI 0, vI 0]) := fn144
theorem cloneSps_fn : EE.fns 145 = some (cloneI 1 [vI 0]) := fn145
theorem cloneInts_fn : EE.fns 146 = some (cloneI 1 [vI 0]) := fn146

/-- The copy of a list. -/
def cloneV {α : Type} (n : Nat) (l : List α) : V := if l = [] then .nils else .row n l.length 0 l.length
def cloneH {α : Type} (enc : α → List PV) (s : Nat) (H : Heap) (l : List α) : Option (Heap × List Nat) := if l = [] then none else some (H ++ [.row s (upV (l.map enc))], [])
theorem clone_list {α : Type} (f : FuncId) (s : Nat) (z : List V) (H : Heap) (enc : α → List PV) (hs : ∀ x, (enc x).length = s) (hf : EE.fns f = some (cloneI s z)) (l : List α) (hm : l.length < most) (hp : EE.prims f = none := by exact noP _) :
    clD EE (.p (.fn f)) [.p (.sl (l.map enc))] H = some (cloneV H.length l, cloneH enc s H l) := by
  cases l with
  | nil => exact clone_nils EE f s z H _ hp hf rfl
  | cons x r =>
    have := clone_ev EE f s z H (enc x) (r.map enc) hp hf (by simp [hs]) (by simpa using hm)
    simpa [cloneV, cloneH] using this

theorem items_ev (s : Int) (hs : I64 s) (l : List Item) (hl : ∀ x ∈ l, okItem x) (hn : l.length ≤ 1000000) (H : Heap) :
    clD EE (.p (.fn 147)) [.agg [vI s], vItems l] H = some (vItems (l.map (itemG s)), none) := by
  rw [clD_body _ _ _ _ _ _ (noP _) fn147]
  have hc := clone_list _ 7 _ H encItem (fun _ => rfl) cloneItems_fn l (by unfold most; omega)
  cases l with
  | nil =>
    simp [cloneV, cloneH] at hc
    have key : evD EE lp147_0 ⟨[(2, .lptr 2 0), (5, .nils), (11, vI 0), (12, vI 0)], [(2, [vI s])], H, H.length, []⟩ = some (.exit 0, ⟨[(2, .lptr 2 0), (5, .nils), (11, vI 0), (12, vI 0), (13, .p (.bool false))], [(2, [vI s])], H, H.length, []⟩) := by
      unfold lp147_0
      rw [evD_loop]
      simp
    simp [St.enter, enumFrom, subs, hc, key]
  | cons x r =>
    have key := items_lp s hs (x :: r) hl hn H
    simp [cloneV, cloneH] at hc
    simp [itemsE, itemsX] at key
    simp [St.enter, enumFrom, subs, hc, key]

/-! ### The notes -/
def linesE (s : Int) (w : V) (n i : Nat) (L : List Int) (H0 : Nat) (id : Nat) (G : Heap) (B : Nat) (K : List Int) (k : Nat) : St :=
  ⟨[(2, .lptr 2 0), (5, .row H0 n 0 n), (6, vI i), (12, w), (13, vI n), (14, vI i), (34, vI L.length), (35, vI k)], [(2, [vI s])], G.set id (.row 1 (upV (K.map encI))), B, []⟩
def linesX (s : Int) (w : V) (n i : Nat) (L : List Int) (H0 : Nat) (id : Nat) (G : Heap) (B : Nat) (K : List Int) : Ex × St :=
  (.exit 2, ⟨[(2, .lptr 2 0), (5, .row H0 n 0 n), (6, vI i), (12, w), (13, vI n), (14, vI i), (34, vI L.length), (35, vI L.length), (36, .p (.bool false))], [(2, [vI s])], G.set id (.row 1 (upV (K.map encI))), B, []⟩)
theorem gsnap_lines_lp (s : Int) (hs : I64 s) (w : V) (n i : Nat) (hi : i < n) (L : List Int) (hL : ∀ x ∈ L, I64 x) (hn : L.length ≤ 1000000) (H0 id : Nat) (G : Heap) (B : Nat) (es : List (List V)) (v2 : V)
    (h0 : Eng.rowAt G H0 = some (2, es)) (he : es.length = n) (hei : es[i]? = some [.row id L.length 0 L.length, v2]) (hid : id < G.length) (hne : id ≠ H0) (hB : B ≤ id) :
    evD EE lp148_0 (linesE s w n i L H0 id G B L 0) = some (linesX s w n i L H0 id G B (L.map fun x => upG x s)) := by
  unfold lp148_0
  refine (evD_fold L (linesE s w n i L H0 id G B) (fun M k => M.length = L.length ∧ M.drop k = L.drop k) (fun M k x => M.set k (upG x s)) (linesX s w n i L H0 id G B) (fun _ _ => rfl) ?_ ?_ L 0 ⟨rfl, rfl⟩ (Nat.zero_le _)).trans ?_
  · rintro M k x ⟨hM, hd⟩ hx
    have hlt := (List.getElem?_eq_some_iff.1 hx).1
    have hMx : M[k]? = some x := by
      have := congrArg (·[0]?) hd
      simpa [List.getElem?_drop, hx] using this
    have w1 : IntKind.i64.wrap ((k : Int) + 1) = ((k + 1 : Nat) : Int) := w64 (by omega) (by omega)
    have ho := hL x (List.mem_of_getElem? hx)
    have hu : (upV (M.map encI))[k]? = some [vI x] := by simp [upV, hMx, encI]
    have inv : (M.set k (upG x s)).length = L.length ∧ (M.set k (upG x s)).drop (k + 1) = L.drop (k + 1) := by
      refine ⟨by simp [hM], ?_⟩
      rw [List.drop_set_of_lt (Nat.lt_succ_self k)]
      have := congrArg (List.drop 1) hd
      simpa [List.drop_drop, Nat.add_comm] using this
    refine ⟨?_, inv⟩
    have hrow := rowAt_set G id 1 (upV (M.map encI)) hid
    have hrow0 : Eng.rowAt (G.set id (.row 1 (upV (M.map encI)))) H0 = some (2, es) := by rw [rowAt_set_ne _ _ _ _ hne, h0]
    have hlen : (upV (M.map encI)).length = L.length := by simp [hM]
    have t1 := turn_row 151 (fun n => upG n s) x s (G.set id (.row 1 (upV (M.map encI)))) id L.length k 0 1 _ _ hrow hlen hu rfl (by simpa using hid) (fun H' => gup_ev x s H' ho hs)
    have e : (upV (M.map encI)).set k [vI (upG x s)] = upV ((M.set k (upG x s)).map encI) := by
      rw [← upV_set]; rfl
    simp only [List.set_cons_zero, e, List.set_set] at t1
    simp [-getElem?_pos, linesE, hlt, hi, he, hei, ixs_row, hM, hrow, hrow0, hu, subs, t1, w1, hB]
  · rintro M ⟨hM, hd⟩
    simp [linesE, linesX]
  · have := fold_set (fun x => upG x s) L []
    simp at this
    simp [this]

abbrev okNote (n : Note) : Prop := (∀ x ∈ n.lines, I64 x) ∧ n.lines.length ≤ 1000000 ∧ n.pens.length ≤ 1000000
def rowsH (l : List Int) : Heap := if l = [] then [] else [.row 1 (upV (l.map encI))]
def noteH (s : Int) (n : Note) : Heap := rowsH (n.lines.map fun x => upG x s) ++ rowsH n.pens
def noteV (id : Nat) (n : Note) : List V := [cloneV id n.lines, cloneV (id + (if n.lines = [] then 0 else 1)) n.pens]
def notesH (s : Int) : List Note → Heap
  | [] => []
  | n :: r => noteH s n ++ notesH s r
def notesV (s : Int) : Nat → List Note → List (List V)
  | _, [] => []
  | id, n :: r => noteV id n :: notesV s (id + (noteH s n).length) r
theorem notesH_app (s : Int) : ∀ a b, notesH s (a ++ b) = notesH s a ++ notesH s b
  | [], b => rfl
  | n :: r, b => by simp only [List.cons_append, notesH, notesH_app s r b, List.append_assoc]
theorem notesV_app (s : Int) : ∀ a id b, notesV s id (a ++ b) = notesV s id a ++ notesV s (id + (notesH s a).length) b
  | [], id, b => by simp [notesV, notesH]
  | n :: r, id, b => by simp only [List.cons_append, notesV, notesH, notesV_app s r, List.length_append, Nat.add_assoc]
theorem notesV_len (s : Int) : ∀ l id, (notesV s id l).length = l.length
  | [], _ => rfl
  | n :: r, id => by simp only [notesV, List.length_cons, notesV_len s r]

def notesHp (s : Int) (l : List Note) (H : Heap) (i : Nat) : Heap :=
  H ++ [.row 2 (notesV s (H.length + 1) (l.take i) ++ List.replicate (l.length - i) [.nils, .nils])] ++ notesH s (l.take i)
def notesE (s : Int) (l : List Note) (H : Heap) (i : Nat) : St :=
  ⟨[(2, .lptr 2 0), (5, .row H.length l.length 0 l.length), (12, vNotes l), (13, vI l.length), (14, vI i)], [(2, [vI s])], notesHp s l H i, H.length, []⟩
def notesX (s : Int) (l : List Note) (H : Heap) : Ex × St :=
  (.exit 0, ⟨[(2, .lptr 2 0), (5, .row H.length l.length 0 l.length), (12, vNotes l), (13, vI l.length), (14, vI l.length), (15, .p (.bool false))], [(2, [vI s])], notesHp s l H l.length, H.length, []⟩)

theorem notesHp_succ (s : Int) (l : List Note) (H : Heap) (i : Nat) (n : Note) (hx : l[i]? = some n) :
    notesHp s l H (i + 1) = H ++ [.row 2 (notesV s (H.length + 1) (l.take i) ++ noteV (H.length + 1 + (notesH s (l.take i)).length) n :: List.replicate (l.length - i - 1) [.nils, .nils])] ++ notesH s (l.take i) ++ noteH s n := by
  have e : l.take (i + 1) = l.take i ++ [n] := by rw [List.take_add_one, hx]; rfl
  unfold notesHp
  rw [e, notesV_app, notesH_app]
  simp [notesV, notesH, Nat.sub_sub]
theorem cloneSps (H : Heap) (l : List Int) (hm : l.length ≤ 1000000) : clD EE (.p (.fn 145)) [sli l] H = some (cloneV H.length l, cloneH encI 1 H l) := clone_list _ 1 _ H encI (fun _ => rfl) cloneSps_fn l (by unfold most; omega)
theorem cloneInts (H : Heap) (l : List Int) (hm : l.length ≤ 1000000) : clD EE (.p (.fn 146)) [sli l] H = some (cloneV H.length l, cloneH encI 1 H l) := clone_list _ 1 _ H encI (fun _ => rfl) cloneInts_fn l (by unfold most; omega)

theorem nolines_lp (a b c d e f : V) (u : List V) (H : Heap) (B : Nat) : evD EE lp148_0 ⟨[(2, a), (5, b), (6, c), (12, d), (13, e), (14, f), (34, vI 0), (35, vI 0)], [(2, u)], H, B, []⟩ =
    some (.exit 2, ⟨[(2, a), (5, b), (6, c), (12, d), (13, e), (14, f), (34, vI 0), (35, vI 0), (36, .p (.bool false))], [(2, u)], H, B, []⟩) := by
  unfold lp148_0
  rw [evD_loop]
  simp
theorem mid_get {α : Type} {A : List α} {i : Nat} (h : A.length = i) (x : α) (r : List α) : (A ++ x :: r)[i]? = some x := by subst h; simp
theorem mid_set {α : Type} {A : List α} {i : Nat} (h : A.length = i) (x y : α) (r : List α) : (A ++ x :: r).set i y = A ++ y :: r := by subst h; simp

@[simp] theorem cells_cloneV {α : Type} (n : Nat) (l : List α) : (cloneV n l).cells = [cloneV n l] := by unfold cloneV; split <;> rfl
@[simp] theorem oneB_cloneV {α : Type} (n : Nat) (l : List α) : (cloneV n l).oneB = true := by unfold cloneV; split <;> rfl
@[simp] theorem outB_cloneV {α : Type} (n : Nat) (l : List α) : (cloneV n l).outB = true := by unfold cloneV; split <;> rfl
@[simp] theorem notL_cloneV {α : Type} (n : Nat) (l : List α) : (cloneV n l).notL = true := by unfold cloneV; split <;> rfl
@[simp] theorem cloneV_nil {α : Type} (n : Nat) : cloneV n ([] : List α) = .nils := rfl
@[simp] theorem rowsH_nil : rowsH [] = [] := rfl
@[simp] theorem cloneV_cons {α : Type} (n : Nat) (x : α) (r : List α) : cloneV n (x :: r) = .row n (x :: r).length 0 (x :: r).length := rfl
@[simp] theorem rowsH_cons (x : Int) (r : List Int) : rowsH (x :: r) = [.row 1 (upV ((x :: r).map encI))] := rfl
theorem callR_cloneI (env : List (Nat × V)) (loc : List (Nat × List V)) (hp : Heap) (base : Nat) (dirty : List Nat) (n : Nat) (d : Option Nat) (l : List Int) :
    callR ⟨env, loc, hp, base, dirty⟩ false d (some (cloneV n l, cloneH encI 1 hp l)) = some (St.put ⟨env, loc, hp ++ rowsH l, base, dirty⟩ d (cloneV n l)) := by
  unfold cloneV cloneH rowsH
  split
  · rename_i h; subst h; simp
  · simp

theorem gsnap_notes_lp (s : Int) (hs : I64 s) (l : List Note) (hl : ∀ x ∈ l, okNote x) (hn : l.length ≤ 1000000) (H : Heap) :
    evD EE lp148_1 (notesE s l H 0) = some (notesX s l H) := by
  unfold lp148_1
  refine (evD_fold l (fun (_ : Unit) i => notesE s l H i) (fun _ _ => True) (fun _ _ _ => ()) (fun _ => notesX s l H) (fun _ _ => rfl) ?_ ?_ () 0 trivial (Nat.zero_le _))
  · rintro _ i n - hx
    refine ⟨?_, trivial⟩
    have hlt := (List.getElem?_eq_some_iff.1 hx).1
    have w1 : IntKind.i64.wrap ((i : Int) + 1) = ((i + 1 : Nat) : Int) := w64 (by omega) (by omega)
    obtain ⟨h1, h2, h3⟩ := hl n (List.mem_of_getElem? hx)
    have hix := fun H k => ixs_nat H encNote (k := k) (s := 2) hx rfl
    obtain ⟨k, hk⟩ : ∃ k, l.length - i = k + 1 := ⟨l.length - i - 1, by omega⟩
    have hk2 : l.length - i - 1 = k := by omega
    have hsucc := notesHp_succ s l H i n hx
    rw [hk2] at hsucc
    have hA := notesV_len s (l.take i) (H.length + 1)
    rw [List.length_take, Nat.min_eq_left (Nat.le_of_lt hlt)] at hA
    have e0 : notesHp s l H i = H ++ [.row 2 (notesV s (H.length + 1) (l.take i) ++ List.replicate (k + 1) [.nils, .nils])] ++ notesH s (l.take i) := by unfold notesHp; rw [hk]
    simp only [notesE]
    generalize notesHp s l H (i + 1) = R at hsucc ⊢
    rw [e0]
    generalize notesV s (H.length + 1) (l.take i) = A at *
    generalize notesH s (l.take i) = T at *
    have hrow : ∀ (v : List V) (U : Heap), Eng.rowAt (H ++ DObj.row 2 (A ++ v :: List.replicate k [.nils, .nils]) :: U) H.length = some (2, A ++ v :: List.replicate k [.nils, .nils]) := fun v U => by simp
    have hes : ∀ (v : List V), (A ++ v :: List.replicate k [.nils, .nils]).length = l.length := fun v => by simp; omega
    have mg := fun x r => mid_get (α := List V) hA x r
    have ms := fun x y r => mid_set (α := List V) hA x y r
    simp only [List.replicate_succ, List.append_assoc, List.cons_append, List.nil_append] at hsucc ⊢
    have c1 := cloneSps (H ++ DObj.row 2 (A ++ [.nils, .nils] :: List.replicate k [.nils, .nils]) :: T) n.lines h2
    have c2 := cloneInts (H ++ DObj.row 2 (A ++ [.nils, .nils] :: List.replicate k [.nils, .nils]) :: (T ++ rowsH n.lines)) n.pens h3
    simp only [sli] at c1 c2
    cases hL : n.lines with
    | nil =>
      simp only [hL, List.map_nil, rowsH_nil, List.append_nil] at c1 c2
      simp only [cloneV_nil] at c1
      rw [show cloneH encI 1 (H ++ DObj.row 2 (A ++ [.nils, .nils] :: List.replicate k [.nils, .nils]) :: T) [] = none from rfl] at c1
      have nl := fun v U => nolines_lp (.lptr 2 0) (.row H.length l.length 0 l.length) (vI i) (vNotes l) (vI l.length) (vI i) [vI s] (H ++ DObj.row 2 (A ++ v :: List.replicate k [.nils, .nils]) :: (T ++ U)) H.length
      simp only [noteV, noteH, hL, List.map_nil, rowsH_nil, cloneV_nil, if_pos, Nat.add_zero, Nat.add_assoc, Nat.add_comm 1, List.nil_append] at hsucc
      simp only [List.length_append, List.length_cons] at c1 c2
      rw [hsucc]
      simp [-getElem?_pos, hlt, hix, encNote, subs, setSubs, ixs_row, hrow, hes, mg, ms, hL, c1, c2, callR_cloneI, nl, w1]
    | cons x r =>
      simp only [hL, rowsH_cons, cloneV_cons] at c1 c2
      rw [show ∀ G, cloneH encI 1 G (x :: r) = some (G ++ [.row 1 (upV ((x :: r).map encI))], []) from fun _ => rfl] at c1
      simp only [noteV, noteH, hL, List.map_cons, rowsH_cons, cloneV_cons, List.cons_ne_nil, if_false, reduceCtorEq, Nat.add_assoc, Nat.add_comm 1, List.nil_append] at hsucc
      simp only [List.length_append, List.length_cons, List.length_nil, Nat.zero_add, List.append_assoc, List.cons_append, List.nil_append] at c1 c2
      have hset : ∀ v K, (H ++ DObj.row 2 (A ++ v :: List.replicate k [.nils, .nils]) :: (T ++ DObj.row 1 (upV ((x :: r).map encI)) :: rowsH n.pens)).set (H.length + (T.length + 1)) (.row 1 K) =
          H ++ DObj.row 2 (A ++ v :: List.replicate k [.nils, .nils]) :: (T ++ DObj.row 1 K :: rowsH n.pens) := fun v K => by simp
      have key := gsnap_lines_lp s hs (vNotes l) l.length i hlt (x :: r) (fun y hy => h1 y (hL ▸ hy)) (by rw [← hL]; exact h2) H.length (H.length + (T.length + 1))
        (H ++ DObj.row 2 (A ++ [.row (H.length + (T.length + 1)) (x :: r).length 0 (x :: r).length, cloneV (H.length + (T.length + 2)) n.pens] :: List.replicate k [.nils, .nils]) :: (T ++ DObj.row 1 (upV ((x :: r).map encI)) :: rowsH n.pens)) H.length _ (cloneV (H.length + (T.length + 2)) n.pens)
        (hrow _ _) (hes _) (mg _ _) (by simp) (by omega) (by omega)
      simp only [linesE, linesX, hset] at key
      rw [hsucc]
      simp at c1 c2 key
      simp [-getElem?_pos, hlt, hix, encNote, subs, setSubs, ixs_row, hrow, hes, mg, ms, hL, c1, c2, callR_cloneI, key, w1]
  · rintro _ -
    refine ⟨?_, by simp [notesX]⟩
    simp [notesE, notesX]

theorem frz_clone (base id : Nat) (G : Heap) (d : Nat) (L K : List Int) (h : Eng.rowAt G id = some (1, upV (K.map encI)) ∨ L = []) (hb : base ≤ id) (hl : K.length = L.length) : frz base G (d + 1) (cloneV id L) = some (.sl (K.map encI)) := by
  cases L with
  | nil =>
    have : K = [] := by simpa using hl
    subst this; rfl
  | cons x r =>
    rcases h with h | h
    · rw [cloneV_cons, frz_row, if_pos hb, h, frzK_upV]; simp [hl]
      rw [← List.length_cons (a := x) (as := r), ← hl]; simp
    · cases h
theorem notesH_row1 (s : Int) (n : Note) (H0 : Heap) (U : Heap) : Eng.rowAt (H0 ++ (noteH s n ++ U)) H0.length = some (1, upV ((n.lines.map fun x => upG x s).map encI)) ∨ n.lines = [] := by
  unfold noteH
  cases h : n.lines with
  | nil => exact .inr rfl
  | cons x r => left; simp
theorem notesH_row2 (s : Int) (n : Note) (H0 : Heap) (U : Heap) : Eng.rowAt (H0 ++ (noteH s n ++ U)) (H0.length + (if n.lines = [] then 0 else 1)) = some (1, upV (n.pens.map encI)) ∨ n.pens = [] := by
  unfold noteH
  cases h : n.pens with
  | nil => exact .inr rfl
  | cons x r =>
    left
    cases h2 : n.lines with
    | nil => simp
    | cons y q => simp
theorem frz_notes (s : Int) (base : Nat) : ∀ (l : List Note) (H0 : Heap), base ≤ H0.length → allO (allO (frz base (H0 ++ notesH s l) 2)) (notesV s H0.length l) = some (l.map fun n => encNote (noteG s n))
  | [], _, _ => rfl
  | n :: r, H0, hb => by
    have ih := frz_notes s base r (H0 ++ noteH s n) (by simp; omega)
    rw [List.append_assoc, List.length_append] at ih
    have f1 := frz_clone base H0.length (H0 ++ (noteH s n ++ notesH s r)) 1 n.lines (n.lines.map fun x => upG x s) (notesH_row1 s n H0 _) hb (by simp)
    have f2 := frz_clone base (H0.length + (if n.lines = [] then 0 else 1)) (H0 ++ (noteH s n ++ notesH s r)) 1 n.pens n.pens (notesH_row2 s n H0 _) (by omega) rfl
    simp only [notesH, notesV, noteV, allO, f1, f2, ih, List.map_cons]
    rfl
theorem gnotes_ev (s : Int) (hs : I64 s) (l : List Note) (hl : ∀ x ∈ l, okNote x) (hn : l.length ≤ 1000000) (H : Heap) :
    clD EE (.p (.fn 148)) [.agg [vI s], vNotes l] H = some (vNotes (l.map (noteG s)), none) := by
  rw [clD_body _ _ _ _ _ _ (noP _) fn148]
  have key := gsnap_notes_lp s hs l hl hn H
  have hm : l.length < most := by unfold most; omega
  have fz := frz_notes s H.length l (H ++ [.row 2 (notesV s (H.length + 1) l)]) (by simp)
  have hl2 := notesV_len s l (H.length + 1)
  simp [notesE, notesX, notesHp, notesH, notesV] at key fz
  have ht : List.take l.length (notesV s (H.length + 1) l) = notesV s (H.length + 1) l := List.take_of_length_le (by omega)
  simp [St.enter, enumFrom, mksI_nat, hm, key, subs, frzK, hl2, ht, fz]

/-! ### The job -/
abbrev okGeom (g : Geom) : Prop := I64 g.cols ∧ I64 g.wide ∧ I64 g.gap ∧ I64 g.high ∧ I64 g.first ∧ I64 g.grid ∧ I64 g.rule ∧ I64 g.sep ∧ I64 g.noteMost ∧ I64 g.topMost ∧ I64 g.botMost ∧ I64 g.topMany ∧ I64 g.botMany ∧ I64 g.club ∧ I64 g.widow ∧ I64 g.split ∧ I64 g.defer ∧ I64 g.spare
structure okJob (j : Job) : Prop where
  g : okGeom j.g
  items : ∀ x ∈ j.items, okItem x
  notes : ∀ x ∈ j.notes, okNote x
  floats : ∀ x ∈ j.floats, okFloat x
  n1 : j.items.length ≤ 1000000
  n2 : j.notes.length ≤ 1000000
  n3 : j.floats.length ≤ 1000000
def floatsE (s : Int) (l : List Float) (u : List V) (g : Geom) (a b : V) (H : Heap) (M : List Float) (i : Nat) : St :=
  ⟨[(2, .lptr 2 0), (3, .lptr 3 0), (4, .ptr (H.length + 1) 0), (44, vI l.length), (45, vI i)], [(2, u), (3, [vI s])], H ++ [.row 3 (upV (M.map encFloat)), .box (cGeom g ++ [a, b, .row H.length l.length 0 l.length])], H.length, []⟩
def floatsX (s : Int) (l : List Float) (u : List V) (g : Geom) (a b : V) (H : Heap) (M : List Float) : Ex × St :=
  (.exit 0, ⟨[(2, .lptr 2 0), (3, .lptr 3 0), (4, .ptr (H.length + 1) 0), (44, vI l.length), (45, vI l.length), (46, .p (.bool false))], [(2, u), (3, [vI s])], H ++ [.row 3 (upV (M.map encFloat)), .box (cGeom g ++ [a, b, .row H.length l.length 0 l.length])], H.length, []⟩)
theorem gsnap_floats_lp (s : Int) (hs : I64 s) (l : List Float) (hl : ∀ x ∈ l, okFloat x) (hn : l.length ≤ 1000000) (u : List V) (g : Geom) (a b : V) (H : Heap) :
    evD EE lp58_0 (floatsE s l u g a b H l 0) = some (floatsX s l u g a b H (l.map (floatG s))) := by
  unfold lp58_0
  refine (evD_fold l (floatsE s l u g a b H) (fun M k => M.length = l.length ∧ M.drop k = l.drop k) (fun M k x => M.set k (floatG s x)) (floatsX s l u g a b H) (fun _ _ => rfl) ?_ ?_ l 0 ⟨rfl, rfl⟩ (Nat.zero_le _)).trans ?_
  · rintro M i x ⟨hM, hd⟩ hx
    have hlt := (List.getElem?_eq_some_iff.1 hx).1
    have hMx : M[i]? = some x := by
      have := congrArg (·[0]?) hd
      simpa [List.getElem?_drop, hx] using this
    have w : IntKind.i64.wrap ((i : Int) + 1) = ((i + 1 : Nat) : Int) := w64 (by omega) (by omega)
    have ho := hl x (List.mem_of_getElem? hx)
    have hu : (upV (M.map encFloat))[i]? = some ((encFloat x).map .p) := by simp [upV, hMx]
    have inv : (M.set i (floatG s x)).length = l.length ∧ (M.set i (floatG s x)).drop (i + 1) = l.drop (i + 1) := by
      refine ⟨by simp [hM], ?_⟩
      rw [List.drop_set_of_lt (Nat.lt_succ_self i)]
      have := congrArg (List.drop 1) hd
      simpa [List.drop_drop, Nat.add_comm] using this
    refine ⟨?_, inv⟩
    have hrow : ∀ U : Heap, Eng.rowAt (H ++ DObj.row 3 (upV (M.map encFloat)) :: U) H.length = some (3, upV (M.map encFloat)) := fun U => by simp
    have hlen : (upV (M.map encFloat)).length = l.length := by simp [hM]
    have hj : ((encFloat x).map V.p)[1]? = some (vI x.h) := rfl
    have t1 := fun U : Heap => turn_row 151 (fun n => upG n s) x.h s (H ++ DObj.row 3 (upV (M.map encFloat)) :: U) H.length l.length i 1 3 _ _ (hrow U) hlen hu hj (by simp) (fun H' => gup_ev x.h s H' ho.2.1 hs)
    have e : (upV (M.map encFloat)).set i (((encFloat x).map V.p).set 1 (vI (upG x.h s))) = upV ((M.set i (floatG s x)).map encFloat) := by
      rw [← upV_set]; rfl
    simp only [e] at t1
    simp [-getElem?_pos, floatsE, hlt, ixs_row, hM, hu, encFloat, subs, t1, w]
  · rintro M ⟨hM, hd⟩
    simp [floatsE, floatsX]
  · have := fold_set (floatG s) l []
    simp at this
    simp [this]

theorem snap_ev (j : Job) (ok : okJob j) (H : Heap) : clD EE (.p (.fn 58)) [vJob j] H = some (vJob (snapG j), none) := by
  rw [clD_body _ _ _ _ _ _ (noP _) fn58]
  obtain ⟨g, items, notes, floats⟩ := j
  have hg := ok.g
  simp only [okGeom] at hg
  by_cases c : g.grid < 1
  · simp [St.enter, enumFrom, subs, setSubs, c, snapG]
  · have h1 := items_ev g.grid hg.2.2.2.2.2.1 items ok.items ok.n1 H
    have h2 := gnotes_ev g.grid hg.2.2.2.2.2.1 notes ok.notes ok.n2 H
    have hc := clone_list _ 3 _ H encFloat (fun _ => rfl) cloneFloats_fn floats (by have := ok.n3; simp only at this; unfold most; omega)
    have i1 := fun H' => gdown_ev g.high g.grid H' hg.2.2.2.1 hg.2.2.2.2.2.1
    have i2 := fun H' => gdown_ev g.first g.grid H' hg.2.2.2.2.1 hg.2.2.2.2.2.1
    have i3 := fun H' => gup_ev g.rule g.grid H' hg.2.2.2.2.2.2.1 hg.2.2.2.2.2.1
    have i4 := fun H' => gup_ev g.sep g.grid H' hg.2.2.2.2.2.2.2.1 hg.2.2.2.2.2.1
    obtain ⟨I, hI⟩ : ∃ I, (items.map (itemG g.grid)).map encItem = I := ⟨_, rfl⟩
    obtain ⟨N, hN⟩ : ∃ I, (notes.map (noteG g.grid)).map encNote = I := ⟨_, rfl⟩
    have hj : snapG ⟨g, items, notes, floats⟩ = ⟨geomG g, items.map (itemG g.grid), notes.map (noteG g.grid), floats.map (floatG g.grid)⟩ := if_neg c
    rw [hj]
    show _ = some (V.agg (cGeom (geomG g) ++ [.p (.sl ((items.map (itemG g.grid)).map encItem)), .p (.sl ((notes.map (noteG g.grid)).map encNote)), vFloats (floats.map (floatG g.grid))]), none)
    simp only [vItems, vNotes, hI, hN] at h1 h2 ⊢
    clear hj hI hN
    cases floats with
    | nil =>
      have b1 := turn_box2 150 (fun n => downG n g.grid) g.high g.first g.grid (H ++ [.box (cGeom g ++ [.p (.sl I), .p (.sl N), .nils])])
        H.length 3 4 _ (by simp; rfl) rfl rfl (by decide) (by simp) i1 i2
      have b2 := turn_box2 151 (fun n => upG n g.grid) g.rule g.sep g.grid (H ++ [.box (cGeom { g with high := downG g.high g.grid, first := downG g.first g.grid } ++ [.p (.sl I), .p (.sl N), .nils])])
        H.length 6 7 _ (by simp; rfl) rfl rfl (by decide) (by simp) i3 i4
      have key : ∀ u cs, evD EE lp58_0 ⟨[(2, .lptr 2 0), (3, .lptr 3 0), (4, .ptr H.length 0), (44, vI 0), (45, vI 0)], [(2, u), (3, [vI g.grid])], H ++ [.box cs], H.length, []⟩ =
          some (.exit 0, ⟨[(2, .lptr 2 0), (3, .lptr 3 0), (4, .ptr H.length 0), (44, vI 0), (45, vI 0), (46, .p (.bool false))], [(2, u), (3, [vI g.grid])], H ++ [.box cs], H.length, []⟩) := by
        intro u cs
        unfold lp58_0
        rw [evD_loop]
        simp
      simp [cloneV, cloneH] at hc
      simp at b1 b2
      simp [St.enter, enumFrom, subs, setSubs, c, h1, h2, hc, b1, b2, key, geomG]
    | cons x r =>
      have b1 := turn_box2 150 (fun n => downG n g.grid) g.high g.first g.grid (H ++ [.row 3 (upV ((x :: r).map encFloat)), .box (cGeom g ++ [.p (.sl I), .p (.sl N), .row H.length (x :: r).length 0 (x :: r).length])])
        (H.length + 1) 3 4 _ (by simp; rfl) rfl rfl (by decide) (by simp) i1 i2
      have b2 := turn_box2 151 (fun n => upG n g.grid) g.rule g.sep g.grid (H ++ [.row 3 (upV ((x :: r).map encFloat)), .box (cGeom { g with high := downG g.high g.grid, first := downG g.first g.grid } ++ [.p (.sl I), .p (.sl N), .row H.length (x :: r).length 0 (x :: r).length])])
        (H.length + 1) 6 7 _ (by simp; rfl) rfl rfl (by decide) (by simp) i3 i4
      have key := fun u => gsnap_floats_lp g.grid hg.2.2.2.2.2.1 (x :: r) ok.floats ok.n3 u (geomG g) (.p (.sl I)) (.p (.sl N)) H
      simp [cloneV, cloneH] at hc
      simp at b1 b2
      simp [floatsE, floatsX, geomG] at key
      simp [St.enter, enumFrom, subs, setSubs, c, h1, h2, hc, b1, b2, key, geomG]
end Go.EnvOf

/- Jobs: whether all is on the grid. -/
namespace Go.EnvOf
open Go Go.Eng

def off (s n : Int) : Bool := !decide (n.tmod s = 0)
theorem idxSp_fn : EE.fns 354 = some (idxI 1 false) := fn354
theorem conSp_fn : EE.fns 345 = some (conI 354) := fn345
theorem conSp_ev (hv : V) (p : Int → Bool) (l : List Int) (H : Heap) (ho : (normA hv).outB = true) (ho2 : normA hv = hv) (hn : l.length ≤ 1000000) (hH : ∀ x ∈ l, clD EE hv [vI x] H = some (vB (p x), none)) :
    clD EE (.p (.fn 345)) [sli l, hv] H = some (vB (l.any p), none) :=
  con_ev _ _ (noP _) conSp_fn (sli l) hv p l H rfl rfl ho ho2 (idx_ev _ 1 false encI (fun x => vI x) (noP _) idxSp_fn (fun _ => rfl) (fun _ => rfl) (fun _ => rfl) (fun _ => rfl) l (by omega) hv p H hH)
/-! ### By the document -/
end Go.EnvOf

/- Items that may be. -/
namespace Go.EnvOf
open Go Go.Eng

def lenOK (n : Int) : Bool := !(decide (n < 0) || decide (1073741823 < n))
def itemSame (x : Item) : Item := if x.k = 1 then ⟨1, x.h, x.f, 0, 0, 0, 0⟩ else if x.k = 2 then ⟨2, x.h, 0, x.str, x.ord, x.shr, 0⟩ else if x.k = 7 then ⟨7, 0, 0, 0, 0, 0, 0⟩ else ⟨x.k, 0, 0, 0, 0, 0, x.n⟩
def upTo (m n : Int) : Bool := decide (0 ≤ n) && decide (n ≤ m)
def nOk (x : Item) : Bool := if x.k = 3 then decide (x.n = -10000) || upTo 10000 x.n else if x.k = 4 then upTo 1048576 x.n else if x.k = 5 then upTo 511 x.n else if x.k = 6 then upTo 255 x.n else upTo 0 x.n
def rightF (x : Item) : Bool := decide (1 ≤ x.k) && decide (x.k ≤ 7) && decide (itemSame x = x) && nOk x && (lenOK x.h && lenOK x.str && lenOK x.shr) && upTo 3 x.f && upTo 3 x.ord && !(decide (x.k = 2) && decide (x.h < x.shr))

theorem upTo1_ev (m n : Int) (p : Nat) (H : Heap) (hb : Eng.boxAt H p = some [vI m]) : clD EE (.p (.fn 344)) [vI n, .ptr p 0] H = some (vB (upTo m n), none) := by
  rw [clD_body _ _ _ _ _ _ (noP _) fn344]
  have e : subs [vI m] 0 1 = some [vI m] := rfl
  by_cases c : 0 ≤ n
  · simp [St.enter, enumFrom, hb, e, upTo, c]
  · simp [St.enter, enumFrom, upTo, c]
theorem upTo_ev (m : Int) (H : Heap) : clD EE (.p (.fn 305)) [vI m] H = some (.fn (.func 344) [] [.ptr H.length 0], some (H ++ [.box [vI m]], [])) := by
  rw [clD_body _ _ _ _ _ _ (noP _) fn305]
  simp [St.enter, enumFrom]
theorem numbered_ev (f : FuncId) (H : Heap) : clD EE (.p (.fn 331)) [.p (.fn f)] H = some (.fn (.func 332) [] [.ptr H.length 0], some (H ++ [.box [.p (.fn f)]], [])) := by
  rw [clD_body _ _ _ _ _ _ (noP _) fn331]
  simp [St.enter, enumFrom]
theorem numbered1_ev (f : FuncId) (g : Int → Item) (x : Item) (p : Nat) (H : Heap) (hb : Eng.boxAt H p = some [.p (.fn f)]) (hg : ∀ H', clD EE (.p (.fn f)) [vI x.n] H' = some (vItem (g x.n), none)) :
    clD EE (.p (.fn 332)) [vItem x, .ptr p 0] H = some (vItem (g x.n), none) := by
  rw [clD_body _ _ _ _ _ _ (noP _) fn332]
  have h := hg H
  simp [St.enter, enumFrom, hb, subs, h, setSubs]
theorem box_ev (h f : Int) (H : Heap) : clD EE (.p (.fn 334)) [vI h, vI f] H = some (vItem ⟨1, h, f, 0, 0, 0, 0⟩, none) := by
  rw [clD_body _ _ _ _ _ _ (noP _) fn334]
  simp [St.enter, enumFrom, subs, setSubs]
theorem glue_ev (h s o r : Int) (H : Heap) : clD EE (.p (.fn 336)) [vI h, vI s, vI o, vI r] H = some (vItem ⟨2, h, 0, s, o, r, 0⟩, none) := by
  rw [clD_body _ _ _ _ _ _ (noP _) fn336]
  simp [St.enter, enumFrom, subs, setSubs]
theorem pen_item_ev (n : Int) (H : Heap) : clD EE (.p (.fn 337)) [vI n] H = some (vItem ⟨3, 0, 0, 0, 0, 0, n⟩, none) := by
  rw [clD_body _ _ _ _ _ _ (noP _) fn337]
  simp [St.enter, enumFrom, subs, setSubs]
theorem mark_ev (n : Int) (H : Heap) : clD EE (.p (.fn 339)) [vI n] H = some (vItem ⟨4, 0, 0, 0, 0, 0, n⟩, none) := by
  rw [clD_body _ _ _ _ _ _ (noP _) fn339]
  simp [St.enter, enumFrom, subs, setSubs]
theorem note_item_ev (n : Int) (H : Heap) : clD EE (.p (.fn 340)) [vI n] H = some (vItem ⟨5, 0, 0, 0, 0, 0, n⟩, none) := by
  rw [clD_body _ _ _ _ _ _ (noP _) fn340]
  simp [St.enter, enumFrom, subs, setSubs]
theorem float_item_ev (n : Int) (H : Heap) : clD EE (.p (.fn 341)) [vI n] H = some (vItem ⟨6, 0, 0, 0, 0, 0, n⟩, none) := by
  rw [clD_body _ _ _ _ _ _ (noP _) fn341]
  simp [St.enter, enumFrom, subs, setSubs]
theorem barrier_ev (H : Heap) : clD EE (.p (.fn 343)) [] H = some (vItem ⟨7, 0, 0, 0, 0, 0, 0⟩, none) := by
  rw [clD_body _ _ _ _ _ _ (noP _) fn343]
  simp [St.enter, enumFrom, subs, setSubs]
theorem form1_ev (x : Item) (H : Heap) : clD EE (.p (.fn 333)) [vItem x] H = some (vItem ⟨1, x.h, x.f, 0, 0, 0, 0⟩, none) := by
  rw [clD_body _ _ _ _ _ _ (noP _) fn333]
  simp [St.enter, enumFrom, subs, setSubs, box_ev]
theorem form2_ev (x : Item) (H : Heap) : clD EE (.p (.fn 335)) [vItem x] H = some (vItem ⟨2, x.h, 0, x.str, x.ord, x.shr, 0⟩, none) := by
  rw [clD_body _ _ _ _ _ _ (noP _) fn335]
  simp [St.enter, enumFrom, subs, setSubs, glue_ev]
theorem form7_ev (x : Item) (H : Heap) : clD EE (.p (.fn 342)) [vItem x] H = some (vItem ⟨7, 0, 0, 0, 0, 0, 0⟩, none) := by
  rw [clD_body _ _ _ _ _ _ (noP _) fn342]
  simp [St.enter, enumFrom, subs, setSubs, barrier_ev]
theorem form3n_ev (n : Int) (H : Heap) : clD EE (.p (.fn 338)) [vI n] H = some (vB (decide (n = -10000) || upTo 10000 n), none) := by
  rw [clD_body _ _ _ _ _ _ (noP _) fn338]
  have h := upTo1_ev 10000 n H.length (H ++ [.box [vI 10000]]) (by simp)
  by_cases c : n = -10000
  · simp [St.enter, enumFrom, c]
  · simp [St.enter, enumFrom, c, upTo_ev, h]

/-! ### The forms -/
def formH : Heap := [.box [vI 0], .box [vI 0], .box [.p (.fn 337)], .box [.p (.fn 339)], .box [vI 1048576], .box [.p (.fn 340)], .box [vI 511], .box [.p (.fn 341)], .box [vI 255], .box [vI 0]]
def up1 (n : Nat) : V := .fn (.func 344) [] [.ptr n 0]
def num1 (n : Nat) : V := .fn (.func 332) [] [.ptr n 0]
def formV (n : Nat) : List (List V) := [[.p (.fn 333), up1 n], [.p (.fn 335), up1 (n + 1)], [num1 (n + 2), .p (.fn 338)], [num1 (n + 3), up1 (n + 4)], [num1 (n + 5), up1 (n + 6)], [num1 (n + 7), up1 (n + 8)], [.p (.fn 342), up1 (n + 9)]]
theorem forms_ev (H : Heap) : clD EE (.p (.fn 304)) [] H = some (.vsl (formV H.length), some (H ++ formH, [])) := by
  rw [clD_body _ _ _ _ _ _ (noP _) fn304]
  simp [St.enter, enumFrom, setSubs, upTo_ev, numbered_ev, formV, formH, up1, num1]

theorem forms_at (x : Item) (h1 : 1 ≤ x.k) (h7 : x.k ≤ 7) (H : Heap) : ∃ sv nv, (∀ H', ixsI H' (.vsl (formV H.length)) (.p (.int .i64 (x.k - 1))) 2 = some (.eptr [sv, nv] 0)) ∧ sv.oneB = true ∧ nv.oneB = true ∧ sv.cells = [sv] ∧ nv.cells = [nv] ∧ sv.notL = true ∧ nv.notL = true ∧
    (∀ T, clD EE sv [vItem x] (H ++ (formH ++ T)) = some (vItem (itemSame x), none)) ∧ (∀ T, clD EE nv [vI x.n] (H ++ (formH ++ T)) = some (vB (nOk x), none)) := by
  have hk : x.k = 1 ∨ x.k = 2 ∨ x.k = 3 ∨ x.k = 4 ∨ x.k = 5 ∨ x.k = 6 ∨ x.k = 7 := by omega
  have up : ∀ (i : Nat) (m : Int) T, formH[i]? = some (.box [vI m]) → clD EE (up1 (H.length + i)) [vI x.n] (H ++ (formH ++ T)) = some (vB (upTo m x.n), none) := fun i m T hi => by
    unfold up1
    rw [clD_clo]
    refine upTo1_ev m x.n (H.length + i) _ ?_
    have hlt := (List.getElem?_eq_some_iff.1 hi).1
    rw [boxAt_app]; unfold Eng.boxAt; rw [List.getElem?_append_left hlt, hi]
  have nm : ∀ (i : Nat) (f : FuncId) (g : Int → Item) T, formH[i]? = some (.box [.p (.fn f)]) → (∀ H', clD EE (.p (.fn f)) [vI x.n] H' = some (vItem (g x.n), none)) → clD EE (num1 (H.length + i)) [vItem x] (H ++ (formH ++ T)) = some (vItem (g x.n), none) := fun i f g T hi hg => by
    unfold num1
    rw [clD_clo]
    refine numbered1_ev f g x (H.length + i) _ ?_ hg
    have hlt := (List.getElem?_eq_some_iff.1 hi).1
    rw [boxAt_app]; unfold Eng.boxAt; rw [List.getElem?_append_left hlt, hi]
  rcases hk with k | k | k | k | k | k | k
  · refine ⟨.p (.fn 333), up1 H.length, fun H' => by simp [k, ixsI, ixsV, formV], rfl, rfl, rfl, rfl, rfl, rfl, fun T => ?_, fun T => ?_⟩
    · rw [form1_ev]; simp [itemSame, k]
    · rw [show up1 H.length = up1 (H.length + 0) from rfl, up 0 0 T rfl]; simp [nOk, k]
  · refine ⟨.p (.fn 335), up1 (H.length + 1), fun H' => by simp [k, ixsI, ixsV, formV], rfl, rfl, rfl, rfl, rfl, rfl, fun T => ?_, fun T => ?_⟩
    · rw [form2_ev]; simp [itemSame, k]
    · rw [up 1 0 T rfl]; simp [nOk, k]
  · refine ⟨num1 (H.length + 2), .p (.fn 338), fun H' => by simp [k, ixsI, ixsV, formV], rfl, rfl, rfl, rfl, rfl, rfl, fun T => ?_, fun T => ?_⟩
    · rw [nm 2 337 (fun n => ⟨3, 0, 0, 0, 0, 0, n⟩) T rfl (fun H' => pen_item_ev x.n H')]; simp [itemSame, k]
    · rw [form3n_ev]; simp [nOk, k]
  · refine ⟨num1 (H.length + 3), up1 (H.length + 4), fun H' => by simp [k, ixsI, ixsV, formV], rfl, rfl, rfl, rfl, rfl, rfl, fun T => ?_, fun T => ?_⟩
    · rw [nm 3 339 (fun n => ⟨4, 0, 0, 0, 0, 0, n⟩) T rfl (fun H' => mark_ev x.n H')]; simp [itemSame, k]
    · rw [up 4 1048576 T rfl]; simp [nOk, k]
  · refine ⟨num1 (H.length + 5), up1 (H.length + 6), fun H' => by simp [k, ixsI, ixsV, formV], rfl, rfl, rfl, rfl, rfl, rfl, fun T => ?_, fun T => ?_⟩
    · rw [nm 5 340 (fun n => ⟨5, 0, 0, 0, 0, 0, n⟩) T rfl (fun H' => note_item_ev x.n H')]; simp [itemSame, k]
    · rw [up 6 511 T rfl]; simp [nOk, k]
  · refine ⟨num1 (H.length + 7), up1 (H.length + 8), fun H' => by simp [k, ixsI, ixsV, formV], rfl, rfl, rfl, rfl, rfl, rfl, fun T => ?_, fun T => ?_⟩
    · rw [nm 7 341 (fun n => ⟨6, 0, 0, 0, 0, 0, n⟩) T rfl (fun H' => float_item_ev x.n H')]; simp [itemSame, k]
    · rw [up 8 255 T rfl]; simp [nOk, k]
  · refine ⟨.p (.fn 342), up1 (H.length + 9), fun H' => by simp [k, ixsI, ixsV, formV], rfl, rfl, rfl, rfl, rfl, rfl, fun T => ?_, fun T => ?_⟩
    · rw [form7_ev]; simp [itemSame, k]
    · rw [up 9 0 T rfl]; simp [nOk, k]

/-! ### The check -/
theorem long1_ev (n : Int) (H : Heap) : clD EE (.p (.fn 346)) [vI n] H = some (vB (!lenOK n), none) := by
  rw [clD_body _ _ _ _ _ _ (noP _) fn346]
  by_cases c : n < 0
  · simp [St.enter, enumFrom, lenOK, c]
  · simp [St.enter, enumFrom, lenOK, c]
theorem long_ev (a b c : Int) (H : Heap) : clD EE (.p (.fn 306)) [.p (.sl [[.int .i64 a], [.int .i64 b], [.int .i64 c]])] H = some (vB (lenOK a && lenOK b && lenOK c), none) := by
  rw [clD_body _ _ _ _ _ _ (noP _) fn306]
  have h := conSp_ev (.p (.fn 346)) (fun n => !lenOK n) [a, b, c] H rfl rfl (by simp) (fun x _ => long1_ev x H)
  simp only [sli, List.map_cons, List.map_nil, encI] at h
  simp [St.enter, enumFrom, h]
  cases lenOK a <;> cases lenOK b <;> cases lenOK c <;> rfl
theorem item_cells' (x y : Item) : eqCells [true, true, true, true, true, true, true] [vI x.k, vI x.h, vI x.f, vI x.str, vI x.ord, vI x.shr, vI x.n] [vI y.k, vI y.h, vI y.f, vI y.str, vI y.ord, vI y.shr, vI y.n] = some (decide (x = y)) := by
  obtain ⟨a, b, c, d, e, f, g⟩ := x
  obtain ⟨a', b', c', d', e', f', g'⟩ := y
  simp [Bool.decide_and]
theorem itemCheck_ev (x : Item) (H : Heap) : clD EE (.p (.fn 275)) [vItem x] H = some (vI (if rightF x = true then 0 else 8), none) := by
  rw [clD_body _ _ _ _ _ _ (noP _) fn275]
  by_cases c1 : x.k < 1
  · have e : rightF x = false := by
      have : ¬ 1 ≤ x.k := by omega
      simp [rightF, this]
    simp [St.enter, enumFrom, subs, c1, e]
  · by_cases c7 : 7 < x.k
    · have e : rightF x = false := by
        have : ¬ x.k ≤ 7 := by omega
        simp [rightF, this]
      simp [St.enter, enumFrom, subs, c1, c7, e]
    · obtain ⟨sv, nv, f1, f2, f3, f4, f5, f8, f9, f6, f7⟩ := forms_at x (by omega) (by omega) H
      have w : IntKind.i64.wrap (x.k - 1) = x.k - 1 := w64 (by omega) (by omega)
      have g6 := f6 [.box [vI 3]]
      have g7 := f7 [.box [vI 3]]
      have hb : Eng.boxAt (H ++ (formH ++ [.box [vI 3]])) (H.length + formH.length) = some [vI 3] := by simp
      have t1 := upTo1_ev 3 x.f (H.length + formH.length) _ hb
      have t2 := upTo1_ev 3 x.ord (H.length + formH.length) _ hb
      have hl := long_ev x.h x.str x.shr (H ++ (formH ++ [.box [vI 3]]))
      have he := item_cells' (itemSame x) x
      have hf := forms_ev H
      have a1 : (1 : Int) ≤ x.k := by omega
      have a7 : x.k ≤ 7 := by omega
      unfold rightF
      simp only [a1, a7, decide_true, Bool.true_and]
      generalize formV H.length = fv at *
      generalize formH = FH at *
      generalize itemSame x = y at *
      cases e1 : decide (y = x) with
      | false =>
        rw [e1] at he
        simp [-eqCells_cons, St.enter, enumFrom, subs, setSubs, c1, c7, hf, f1, f2, f3, f4, f5, f8, f9, w, upTo_ev, g6, he]
      | true =>
        rw [e1] at he
        cases e2 : nOk x with
        | false =>
          rw [e2] at g7
          simp [-eqCells_cons, St.enter, enumFrom, subs, setSubs, c1, c7, hf, f1, f2, f3, f4, f5, f8, f9, w, upTo_ev, g6, g7, he]
        | true =>
          rw [e2] at g7
          cases e3 : (lenOK x.h && lenOK x.str && lenOK x.shr) with
          | false =>
            rw [e3] at hl
            simp [-eqCells_cons, St.enter, enumFrom, subs, setSubs, c1, c7, hf, f1, f2, f3, f4, f5, f8, f9, w, upTo_ev, g6, g7, he, hl]
          | true =>
            rw [e3] at hl
            cases e4 : upTo 3 x.f with
            | false =>
              rw [e4] at t1
              simp [-eqCells_cons, St.enter, enumFrom, subs, setSubs, c1, c7, hf, f1, f2, f3, f4, f5, f8, f9, w, upTo_ev, g6, g7, he, hl, t1]
            | true =>
              rw [e4] at t1
              cases e5 : upTo 3 x.ord with
              | false =>
                rw [e5] at t2
                simp [-eqCells_cons, St.enter, enumFrom, subs, setSubs, c1, c7, hf, f1, f2, f3, f4, f5, f8, f9, w, upTo_ev, g6, g7, he, hl, t1, t2]
              | true =>
                rw [e5] at t2
                by_cases k2 : x.k = 2
                · have w1 : IntKind.i64.wrap 1 = 1 := w64 (by omega) (by omega)
                  have e21 : (2 : Int) - 1 = 1 := rfl
                  rw [k2] at he
                  simp only [vItem, k2, e21] at f1 g6
                  by_cases k3 : x.h < x.shr
                  · simp [-eqCells_cons, St.enter, enumFrom, subs, setSubs, c1, c7, hf, f1, f2, f3, f4, f5, f8, f9, w1, upTo_ev, g6, g7, he, hl, t1, t2, k2, k3]
                  · simp [-eqCells_cons, St.enter, enumFrom, subs, setSubs, c1, c7, hf, f1, f2, f3, f4, f5, f8, f9, w1, upTo_ev, g6, g7, he, hl, t1, t2, k2, k3]
                · simp [-eqCells_cons, St.enter, enumFrom, subs, setSubs, c1, c7, hf, f1, f2, f3, f4, f5, f8, f9, w, upTo_ev, g6, g7, he, hl, t1, t2, k2]
end Go.EnvOf

/- Items that may be, by the document. -/
namespace Go.EnvOf
open Go Go.Eng

def sndIC : IC → IC
  | .seq _ b => b
  | c => c
def fstIC : IC → IC
  | .seq a _ => a
  | c => c
/-- What is common to all kinds. -/
def rTail : IC := sndIC (sndIC (sndIC ir90.body))
theorem rlong_ev (n : Int) (H : Heap) : clD EE (.p (.fn 174)) [vI n] H = some (vB (lenOK n), none) := by
  rw [clD_body _ _ _ _ _ _ (noP _) fn174]
  by_cases c : n < 0
  · have c2 : ¬ 0 ≤ n := by omega
    simp [St.enter, enumFrom, lenOK, c, c2]
  · have c2 : 0 ≤ n := by omega
    by_cases d : n ≤ 1073741823
    · have d2 : ¬ 1073741823 < n := by omega
      simp [St.enter, enumFrom, lenOK, c, c2, d, d2]
    · have d2 : 1073741823 < n := by omega
      simp [St.enter, enumFrom, lenOK, c, c2, d, d2]
def tailF (x y : Item) : Bool := decide (x = y) && lenOK x.h && lenOK x.str && lenOK x.shr && decide (0 ≤ x.f) && decide (x.f ≤ 3) && decide (0 ≤ x.ord) && decide (x.ord ≤ 3) && (!decide (x.k = 2) || decide (x.shr ≤ x.h))
abbrev cItem (x : Item) : List V := [vI x.k, vI x.h, vI x.f, vI x.str, vI x.ord, vI x.shr, vI x.n]
theorem tail_ev (x y : Item) (H : Heap) (e : List (Nat × V)) : evD EE rTail ⟨(1, .lptr 1 0) :: (3, .lptr 3 0) :: e, [(1, cItem x), (3, cItem y)], H, H.length, []⟩ = some (.ret, ⟨[(2, vB (tailF x y))], [], H, H.length, []⟩) := by
  simp only [rTail, ir90, sndIC]
  have he := item_cells' x y
  have l1 := rlong_ev x.h H
  have l2 := rlong_ev x.str H
  have l3 := rlong_ev x.shr H
  unfold tailF
  cases e1 : decide (x = y) with
  | false => rw [e1] at he; simp [-eqCells_cons, subs, he]
  | true =>
    rw [e1] at he
    cases e2 : lenOK x.h with
    | false => rw [e2] at l1; simp [-eqCells_cons, subs, he, l1]
    | true =>
      rw [e2] at l1
      cases e3 : lenOK x.str with
      | false => rw [e3] at l2; simp [-eqCells_cons, subs, he, l1, l2]
      | true =>
        rw [e3] at l2
        cases e4 : lenOK x.shr with
        | false => rw [e4] at l3; simp [-eqCells_cons, subs, he, l1, l2, l3]
        | true =>
          rw [e4] at l3
          by_cases a1 : 0 ≤ x.f
          · by_cases a2 : x.f ≤ 3
            · by_cases a3 : 0 ≤ x.ord
              · by_cases a4 : x.ord ≤ 3
                · generalize hk : decide (x.k = 2) = k2
                  cases k2 with
                  | true =>
                    have k2 : x.k = 2 := by simpa using hk
                    rw [k2] at he
                    simp [-eqCells_cons, subs, he, l1, l2, l3, a1, a2, a3, a4, k2]
                  | false =>
                    have k2 : ¬ x.k = 2 := by simpa using hk
                    simp [-eqCells_cons, subs, he, l1, l2, l3, a1, a2, a3, a4, k2]
                · simp [-eqCells_cons, subs, he, l1, l2, l3, a1, a2, a3, a4]
              · simp [-eqCells_cons, subs, he, l1, l2, l3, a1, a2, a3]
            · simp [-eqCells_cons, subs, he, l1, l2, l3, a1, a2]
          · simp [-eqCells_cons, subs, he, l1, l2, l3, a1]
theorem right_of (x : Item) (h1 : 1 ≤ x.k) (h7 : x.k ≤ 7) : rightF x = (nOk x && tailF x (itemSame x)) := by
  unfold rightF tailF upTo
  have e : decide (itemSame x = x) = decide (x = itemSame x) := by
    by_cases h : x = itemSame x
    · simp [← h]
    · have : ¬ itemSame x = x := fun e => h e.symm
      simp [h, this]
  rw [e]
  have e2 : (!(decide (x.k = 2) && decide (x.h < x.shr))) = (!decide (x.k = 2) || decide (x.shr ≤ x.h)) := by
    by_cases a : x.k = 2 <;> by_cases b : x.h < x.shr
    · have : ¬ x.shr ≤ x.h := by omega
      simp [a, b, this]
    · have : x.shr ≤ x.h := by omega
      simp [a, b, this]
    · simp [a]
    · simp [a]
  rw [e2]
  simp only [h1, h7, decide_true, Bool.true_and]
  generalize nOk x = b1
  generalize decide (x = itemSame x) = b2
  cases b1 <;> cases b2 <;> simp [Bool.and_assoc]
theorem rright_ev (x : Item) (H : Heap) : clD EE (.p (.fn 90)) [vItem x] H = some (vB (rightF x), none) := by
  rw [clD_body _ _ _ _ _ _ (noP _) fn90]
  have key := tail_ev x (itemSame x) H
  show finK false [.tmp 2] (evD EE (.seq (fstIC ir90.body) (.seq (fstIC (sndIC ir90.body)) (.seq (fstIC (sndIC (sndIC ir90.body))) rTail))) (St.enter [vItem x] H)) = _
  simp only [ir90, sndIC, fstIC]
  by_cases c : 1 ≤ x.k ∧ x.k ≤ 7
  · rw [right_of x c.1 c.2]
    have hk : x.k = 1 ∨ x.k = 2 ∨ x.k = 3 ∨ x.k = 4 ∨ x.k = 5 ∨ x.k = 6 ∨ x.k = 7 := by omega
    obtain ⟨k, h, f, str, ord, shr, n⟩ := x
    simp only at hk
    rcases hk with rfl | rfl | rfl | rfl | rfl | rfl | rfl
    · have e : (nOk ⟨1, h, f, str, ord, shr, n⟩ && tailF ⟨1, h, f, str, ord, shr, n⟩ (itemSame ⟨1, h, f, str, ord, shr, n⟩)) = tailF ⟨1, h, f, str, ord, shr, n⟩ (itemSame ⟨1, h, f, str, ord, shr, n⟩) := by
        by_cases z : n = 0
        · simp [nOk, upTo, z]
        · simp [tailF, itemSame, z]
      rw [e]
      generalize tailF ⟨1, h, f, str, ord, shr, n⟩ (itemSame ⟨1, h, f, str, ord, shr, n⟩) = T at key ⊢
      simp [itemSame] at key
      simp [St.enter, enumFrom, subs, setSubs, key]
    · have e : (nOk ⟨2, h, f, str, ord, shr, n⟩ && tailF ⟨2, h, f, str, ord, shr, n⟩ (itemSame ⟨2, h, f, str, ord, shr, n⟩)) = tailF ⟨2, h, f, str, ord, shr, n⟩ (itemSame ⟨2, h, f, str, ord, shr, n⟩) := by
        by_cases z : n = 0
        · simp [nOk, upTo, z]
        · simp [tailF, itemSame, z]
      rw [e]
      generalize tailF ⟨2, h, f, str, ord, shr, n⟩ (itemSame ⟨2, h, f, str, ord, shr, n⟩) = T at key ⊢
      simp [itemSame] at key
      simp [St.enter, enumFrom, subs, setSubs, key]
    · generalize tailF ⟨3, h, f, str, ord, shr, n⟩ (itemSame ⟨3, h, f, str, ord, shr, n⟩) = T at key ⊢
      simp [itemSame] at key
      by_cases z : n = -10000
      · subst z
        simp [St.enter, enumFrom, subs, setSubs, key, nOk]
      · by_cases a1 : n < 0
        · have a2 : ¬ 0 ≤ n := by omega
          simp [St.enter, enumFrom, subs, setSubs, nOk, upTo, z, a1, a2]
        · have a2 : 0 ≤ n := by omega
          by_cases b1 : 10000 < n
          · have b2 : ¬ n ≤ 10000 := by omega
            simp [St.enter, enumFrom, subs, setSubs, nOk, upTo, z, a1, a2, b1, b2]
          · have b2 : n ≤ 10000 := by omega
            simp [St.enter, enumFrom, subs, setSubs, key, nOk, upTo, z, a1, a2, b1, b2]
    · generalize tailF ⟨4, h, f, str, ord, shr, n⟩ (itemSame ⟨4, h, f, str, ord, shr, n⟩) = T at key ⊢
      simp [itemSame] at key
      by_cases a1 : n < 0
      · have a2 : ¬ 0 ≤ n := by omega
        simp [St.enter, enumFrom, subs, setSubs, nOk, upTo, a1, a2]
      · have a2 : 0 ≤ n := by omega
        by_cases b1 : 1048576 < n
        · have b2 : ¬ n ≤ 1048576 := by omega
          simp [St.enter, enumFrom, subs, setSubs, nOk, upTo, a1, a2, b1, b2]
        · have b2 : n ≤ 1048576 := by omega
          simp [St.enter, enumFrom, subs, setSubs, key, nOk, upTo, a1, a2, b1, b2]
    · generalize tailF ⟨5, h, f, str, ord, shr, n⟩ (itemSame ⟨5, h, f, str, ord, shr, n⟩) = T at key ⊢
      simp [itemSame] at key
      by_cases a1 : n < 0
      · have a2 : ¬ 0 ≤ n := by omega
        simp [St.enter, enumFrom, subs, setSubs, nOk, upTo, a1, a2]
      · have a2 : 0 ≤ n := by omega
        by_cases b1 : 511 < n
        · have b2 : ¬ n ≤ 511 := by omega
          simp [St.enter, enumFrom, subs, setSubs, nOk, upTo, a1, a2, b1, b2]
        · have b2 : n ≤ 511 := by omega
          simp [St.enter, enumFrom, subs, setSubs, key, nOk, upTo, a1, a2, b1, b2]
    · generalize tailF ⟨6, h, f, str, ord, shr, n⟩ (itemSame ⟨6, h, f, str, ord, shr, n⟩) = T at key ⊢
      simp [itemSame] at key
      by_cases a1 : n < 0
      · have a2 : ¬ 0 ≤ n := by omega
        simp [St.enter, enumFrom, subs, setSubs, nOk, upTo, a1, a2]
      · have a2 : 0 ≤ n := by omega
        by_cases b1 : 255 < n
        · have b2 : ¬ n ≤ 255 := by omega
          simp [St.enter, enumFrom, subs, setSubs, nOk, upTo, a1, a2, b1, b2]
        · have b2 : n ≤ 255 := by omega
          simp [St.enter, enumFrom, subs, setSubs, key, nOk, upTo, a1, a2, b1, b2]
    · have e : (nOk ⟨7, h, f, str, ord, shr, n⟩ && tailF ⟨7, h, f, str, ord, shr, n⟩ (itemSame ⟨7, h, f, str, ord, shr, n⟩)) = tailF ⟨7, h, f, str, ord, shr, n⟩ (itemSame ⟨7, h, f, str, ord, shr, n⟩) := by
        by_cases z : n = 0
        · simp [nOk, upTo, z]
        · simp [tailF, itemSame, z]
      rw [e]
      generalize tailF ⟨7, h, f, str, ord, shr, n⟩ (itemSame ⟨7, h, f, str, ord, shr, n⟩) = T at key ⊢
      simp [itemSame] at key
      simp [St.enter, enumFrom, subs, setSubs, key]
  · have e : rightF x = false := by
      unfold rightF
      by_cases a : 1 ≤ x.k
      · have : ¬ x.k ≤ 7 := fun h => c ⟨a, h⟩
        simp [this]
      · simp [a]
    have n1 : ¬ x.k = 1 := by omega
    have n2 : ¬ x.k = 2 := by omega
    have n3 : ¬ x.k = 3 := by omega
    have n4 : ¬ x.k = 4 := by omega
    have n5 : ¬ x.k = 5 := by omega
    have n6 : ¬ x.k = 6 := by omega
    have n7 : ¬ x.k = 7 := by omega
    rw [e]
    simp [St.enter, enumFrom, subs, setSubs, n1, n2, n3, n4, n5, n6, n7]
end Go.EnvOf
