/- The program's functions and the document's, evaluated. -/
import Derived.Test.YtpibjnnbploadaaGreatText3
import Derived.Test.YtpibjnnbploadaaGreatText2
set_option linter.unusedSimpArgs false
set_option linter.unusedVariables false
namespace Go.EnvOf
open Go Go.Eng
theorem q089 {e : List V} {j : Nat} {v : V} (h : e[j]? = some v) : subs e j 1 = some [v] := by
 obtain ⟨h1, h2⟩ := List.getElem?_eq_some_iff.1 h
 have h3 : j + 1 ≤ e.length := h1
 simp [subs, h3, List.drop_eq_getElem_cons h1, h2]
theorem q04e {e : List V} {j : Nat} {v u : V} (h : e[j]? = some v) : setSubs e j [u] = some (e.set j u) := by
 obtain ⟨h1, h2⟩ := List.getElem?_eq_some_iff.1 h
 have h3 : j + 1 ≤ e.length := h1
 simp [setSubs, h1, h3, List.set_eq_take_append_cons_drop]
theorem q054 (f : FuncId) (g : Int → Int) (n s : Int) (H : Heap) (id tot i j sz : Nat) (es : List (List V)) (e : List V) (hr : Eng.rowAt H id = some (sz, es)) (ht : es.length = tot) (he : es[i]? = some e) (hj : e[j]? = some (vI n)) (hlt : id < H.length)
  (hg : ∀ H', clD EE (.p (.fn f)) [vI n, vI s] H' = some (vI (g n), none)) :
  clD EE (.p (.fn 195)) [.agg [vI s], .p (.fn f), .vsl [[.rptr id tot i j]]] H = some (.tup [], some (H.set id (.row sz (es.set i (e.set j (vI (g n))))), [id])) := by
 rw [q000 _ _ _ _ _ _ (noP _) fn195]
 have key : evD EE lp195_0 ⟨[(1, .p (.fn f)), (3, .lptr 3 0), (8, .vsl [[.rptr id tot i j]]), (9, .p (.int .i64 1)), (10, .p (.int .i64 0))], [(3, [vI s])], H, H.length, []⟩ =
   some (.exit 0, ⟨[(1, .p (.fn f)), (3, .lptr 3 0), (8, .vsl [[.rptr id tot i j]]), (9, .p (.int .i64 1)), (10, .p (.int .i64 1)), (11, .p (.bool false))], [(3, [vI s])], H.set id (.row sz (es.set i (e.set j (vI (g n))))), H.length, [id]⟩) := by
  unfold lp195_0
  have w : IntKind.i64.wrap 1 = 1 := w64 (by omega) (by omega)
  rw [q003]
  have e3 : subs [vI s] 0 1 = some [vI s] := rfl
  have e4 : subs [V.rptr id tot i j] 0 1 = some [V.rptr id tot i j] := rfl
  simp [q089 hj, q04e hj, hr, ht, he, hg, hlt, w, ixsI, ixsV, e3, e4]
  rw [q003]
  simp
 simp [St.enter, enumFrom, key]
theorem q041 (f : FuncId) (g : Int → Int) (n m s : Int) (H : Heap) (id a b : Nat) (cs : List V) (hr : Eng.boxAt H id = some cs) (ha : cs[a]? = some (vI n)) (hb : cs[b]? = some (vI m)) (hab : a ≠ b) (hlt : id < H.length)
  (hg : ∀ H', clD EE (.p (.fn f)) [vI n, vI s] H' = some (vI (g n), none)) (hg2 : ∀ H', clD EE (.p (.fn f)) [vI m, vI s] H' = some (vI (g m), none)) :
  clD EE (.p (.fn 195)) [.agg [vI s], .p (.fn f), .vsl [[.ptr id a], [.ptr id b]]] H = some (.tup [], some (H.set id (.box ((cs.set a (vI (g n))).set b (vI (g m)))), [id, id])) := by
 rw [q000 _ _ _ _ _ _ (noP _) fn195]
 have key : evD EE lp195_0 ⟨[(1, .p (.fn f)), (3, .lptr 3 0), (8, .vsl [[.ptr id a], [.ptr id b]]), (9, .p (.int .i64 2)), (10, .p (.int .i64 0))], [(3, [vI s])], H, H.length, []⟩ =
   some (.exit 0, ⟨[(1, .p (.fn f)), (3, .lptr 3 0), (8, .vsl [[.ptr id a], [.ptr id b]]), (9, .p (.int .i64 2)), (10, .p (.int .i64 2)), (11, .p (.bool false))], [(3, [vI s])], H.set id (.box ((cs.set a (vI (g n))).set b (vI (g m)))), H.length, [id, id]⟩) := by
  unfold lp195_0
  have w : IntKind.i64.wrap 1 = 1 := w64 (by omega) (by omega)
  have w2 : IntKind.i64.wrap 2 = 2 := w64 (by omega) (by omega)
  have e3 : subs [vI s] 0 1 = some [vI s] := rfl
  have e4 : ∀ x : V, subs [x] 0 1 = some [x] := fun _ => rfl
  have hb2 : (cs.set a (vI (g n)))[b]? = some (vI m) := by rw [List.getElem?_set_ne hab]; exact hb
  have hset : Eng.boxAt (H.set id (.box (cs.set a (vI (g n))))) id = some (cs.set a (vI (g n))) := by simp [Eng.boxAt, List.getElem?_set, hlt]
  rw [q003]
  simp [q089 ha, q04e ha, hr, hg, hlt, w, ixsI, ixsV, e3, e4]
  rw [q003]
  simp [q089 hb2, q04e hb2, hset, hg2, hlt, w2, ixsI, ixsV, e3, e4]
  rw [q003]
  simp
 simp [St.enter, enumFrom, key]
def itemG (s : Int) (x : Item) : Item := if x.k = 1 then { x with h := upG x.h s } else if x.k = 2 then { x with h := nearG x.h s, str := 0, ord := 0, shr := 0 } else x
def noteG (s : Int) (n : Note) : Note := { n with lines := n.lines.map fun x => upG x s }
def floatG (s : Int) (f : Float) : Float := { f with h := upG f.h s }
def geomG (g : Geom) : Geom := { g with high := downG g.high g.grid, first := downG g.first g.grid, rule := upG g.rule g.grid, sep := upG g.sep g.grid }
def snapG (j : Job) : Job := if j.g.grid < 1 then j else ⟨geomG j.g, j.items.map (itemG j.g.grid), j.notes.map (noteG j.g.grid), j.floats.map (floatG j.g.grid)⟩
abbrev okItem (x : Item) : Prop := I64 x.k ∧ I64 x.h ∧ I64 x.f ∧ I64 x.str ∧ I64 x.ord ∧ I64 x.shr ∧ I64 x.n
abbrev okFloat (f : Float) : Prop := I64 f.c ∧ I64 f.h ∧ I64 f.w
def itemsE (s : Int) (l : List Item) (H : Heap) (M : List Item) (i : Nat) : St :=
 ⟨[(2, .lptr 2 0), (5, .row H.length l.length 0 l.length), (11, vI l.length), (12, vI i)], [(2, [vI s])], H ++ [.row 7 (upV (M.map encItem))], H.length, []⟩
def itemsX (s : Int) (l : List Item) (H : Heap) (M : List Item) : Ex × St :=
 (.exit 0, ⟨[(2, .lptr 2 0), (5, .row H.length l.length 0 l.length), (11, vI l.length), (12, vI l.length), (13, .p (.bool false))], [(2, [vI s])], H ++ [.row 7 (upV (M.map encItem))], H.length, []⟩)
theorem q0nm (s : Int) (hs : I64 s) (l : List Item) (hl : ∀ x ∈ l, okItem x) (hn : l.length ≤ 1000000) (H : Heap) :
  evD EE lp193_0 (itemsE s l H l 0) = some (itemsX s l H (l.map (itemG s))) := by
 unfold lp193_0
 refine (q00s l (itemsE s l H) (fun M i => M.length = l.length ∧ M.drop i = l.drop i) (fun M i x => M.set i (itemG s x)) (itemsX s l H) (fun _ _ => rfl) ?_ ?_ l 0 ⟨rfl, rfl⟩ (Nat.zero_le _)).trans ?_
 ·rintro M i x ⟨hM, hd⟩ hx
  have hlt := (List.getElem?_eq_some_iff.1 hx).1
  have hMx : M[i]? = some x := by
   have := congrArg (·[0]?) hd
   simpa [List.getElem?_drop, hx] using this
  have w : IntKind.i64.wrap ((i : Int) + 1) = ((i + 1 : Nat) : Int) := w64 (by omega) (by omega)
  have ho := hl x (List.mem_of_getElem? hx)
  have hu : (upV (M.map encItem))[i]? = some ((encItem x).map .p) := by simp [upV, hMx]
  have hset : M.set i (itemG s x) = M.set i (itemG s x) := rfl
  have inv : (M.set i (itemG s x)).length = l.length ∧ (M.set i (itemG s x)).drop (i + 1) = l.drop (i + 1) := by
   refine ⟨by simp [hM], ?_⟩
   rw [List.drop_set_of_lt (Nat.lt_succ_self i)]
   have := congrArg (List.drop 1) hd
   simpa [List.drop_drop, Nat.add_comm] using this
  refine ⟨?_, inv⟩
  have hrow : Eng.rowAt (H ++ [DObj.row 7 (upV (M.map encItem))]) H.length = some (7, upV (M.map encItem)) := by simp
  have hlen : (upV (M.map encItem)).length = l.length := by simp [hM]
  have hj : ((encItem x).map V.p)[1]? = some (vI x.h) := rfl
  have t1 := q054 197 (fun n => upG n s) x.h s (H ++ [DObj.row 7 (upV (M.map encItem))]) H.length l.length i 1 7 _ _ hrow hlen hu hj (by simp) (fun H' => q04j x.h s H' ho.2.1 hs)
  have t2 := q054 330 (fun n => nearG n s) x.h s (H ++ [DObj.row 7 (upV (M.map encItem))]) H.length l.length i 1 7 _ _ hrow hlen hu hj (by simp) (fun H' => q0nj x.h s H' ho.2.1 hs)
  by_cases k1 : x.k = 1
  ·have e : (upV (M.map encItem)).set i (((encItem x).map V.p).set 1 (vI (upG x.h s))) = upV ((M.set i (itemG s x)).map encItem) := by
    rw [← q03e]; simp [itemG, k1, encItem]
   rw [e] at t1
   simp [-getElem?_pos, itemsE, hlt, q00e, hM, hu, encItem, subs, k1, t1, w]
  ·by_cases k2 : x.k = 2
   ·have g : ∀ a, ((upV (M.map encItem)).set i a)[i]? = some a := fun a => by rw [List.getElem?_set_self (by simp [hM, hlt])]
    have e : (upV (M.map encItem)).set i [vI x.k, vI (nearG x.h s), vI x.f, vI 0, vI 0, vI 0, vI x.n] = upV ((M.set i (itemG s x)).map encItem) := by
     rw [← q03e]; simp [itemG, k2, encItem]
    rw [k2] at e
    simp [-getElem?_pos, itemsE, hlt, q00e, hM, hu, encItem, subs, setSubs, k1, k2, t2, w, g]
    simp [encItem, upV] at e ⊢
    exact e
   ·have e : M.set i (itemG s x) = M := by
     have : itemG s x = x := by simp [itemG, k1, k2]
     rw [this]
     refine List.ext_getElem? fun j => ?_
     rw [List.getElem?_set]
     split
     ·rename_i h; subst h; rw [if_pos (by omega), hMx]
     ·rfl
    rw [e]
    simp [-getElem?_pos, itemsE, hlt, q00e, hM, hu, encItem, subs, setSubs, k1, k2, w]
 ·rintro M ⟨hM, hd⟩
  simp [itemsE, itemsX]
 ·have := q04y (itemG s) l []
  simp at this
  simp [this]
theorem q0bv : EE.fns 189 = some (cloneI 7 [vI 0, vI 0, vI 0, vI 0, vI 0, vI 0, vI 0]) := fn189
theorem q09t : EE.fns 190 = some (cloneI 3 [vI 0, vI 0, vI 0]) := fn190
theorem q0fc : EE.fns 191 = some (cloneI 1 [vI 0]) := fn191
theorem q0dr : EE.fns 192 = some (cloneI 1 [vI 0]) := fn192
def cloneV {α : Type} (n : Nat) (l : List α) : V := if l = [] then .nils else .row n l.length 0 l.length
def cloneH {α : Type} (enc : α → List PV) (s : Nat) (H : Heap) (l : List α) : Option (Heap × List Nat) := if l = [] then none else some (H ++ [.row s (upV (l.map enc))], [])
theorem q02l {α : Type} (f : FuncId) (s : Nat) (z : List V) (H : Heap) (enc : α → List PV) (hs : ∀ x, (enc x).length = s) (hf : EE.fns f = some (cloneI s z)) (l : List α) (hm : l.length < most) (hp : EE.prims f = none := by exact noP _) :
  clD EE (.p (.fn f)) [.p (.sl (l.map enc))] H = some (cloneV H.length l, cloneH enc s H l) := by
 cases l with
 | nil => exact q093 EE f s z H _ hp hf rfl
 | cons x r =>
   have := q0n9 EE f s z H (enc x) (r.map enc) hp hf (by simp [hs]) (by simpa using hm)
   simpa [cloneV, cloneH] using this
theorem q0nn (s : Int) (hs : I64 s) (l : List Item) (hl : ∀ x ∈ l, okItem x) (hn : l.length ≤ 1000000) (H : Heap) :
  clD EE (.p (.fn 193)) [.agg [vI s], vItems l] H = some (vItems (l.map (itemG s)), none) := by
 rw [q000 _ _ _ _ _ _ (noP _) fn193]
 have hc := q02l _ 7 _ H encItem (fun _ => rfl) q0bv l (by unfold most; omega)
 cases l with
 | nil =>
   simp [cloneV, cloneH] at hc
   have key : evD EE lp193_0 ⟨[(2, .lptr 2 0), (5, .nils), (11, vI 0), (12, vI 0)], [(2, [vI s])], H, H.length, []⟩ = some (.exit 0, ⟨[(2, .lptr 2 0), (5, .nils), (11, vI 0), (12, vI 0), (13, .p (.bool false))], [(2, [vI s])], H, H.length, []⟩) := by
    unfold lp193_0
    rw [q003]
    simp
   simp [St.enter, enumFrom, subs, hc, key]
 | cons x r =>
   have key := q0nm s hs (x :: r) hl hn H
   simp [cloneV, cloneH] at hc
   simp [itemsE, itemsX] at key
   simp [St.enter, enumFrom, subs, hc, key]
def linesE (s : Int) (w : V) (n i : Nat) (L : List Int) (H0 : Nat) (id : Nat) (G : Heap) (B : Nat) (K : List Int) (k : Nat) : St :=
 ⟨[(2, .lptr 2 0), (5, .row H0 n 0 n), (6, vI i), (12, w), (13, vI n), (14, vI i), (34, vI L.length), (35, vI k)], [(2, [vI s])], G.set id (.row 1 (upV (K.map encI))), B, []⟩
def linesX (s : Int) (w : V) (n i : Nat) (L : List Int) (H0 : Nat) (id : Nat) (G : Heap) (B : Nat) (K : List Int) : Ex × St :=
 (.exit 2, ⟨[(2, .lptr 2 0), (5, .row H0 n 0 n), (6, vI i), (12, w), (13, vI n), (14, vI i), (34, vI L.length), (35, vI L.length), (36, .p (.bool false))], [(2, [vI s])], G.set id (.row 1 (upV (K.map encI))), B, []⟩)
theorem q09u (s : Int) (hs : I64 s) (w : V) (n i : Nat) (hi : i < n) (L : List Int) (hL : ∀ x ∈ L, I64 x) (hn : L.length ≤ 1000000) (H0 id : Nat) (G : Heap) (B : Nat) (es : List (List V)) (v2 : V)
  (h0 : Eng.rowAt G H0 = some (2, es)) (he : es.length = n) (hei : es[i]? = some [.row id L.length 0 L.length, v2]) (hid : id < G.length) (hne : id ≠ H0) (hB : B ≤ id) :
  evD EE lp194_0 (linesE s w n i L H0 id G B L 0) = some (linesX s w n i L H0 id G B (L.map fun x => upG x s)) := by
 unfold lp194_0
 refine (q00s L (linesE s w n i L H0 id G B) (fun M k => M.length = L.length ∧ M.drop k = L.drop k) (fun M k x => M.set k (upG x s)) (linesX s w n i L H0 id G B) (fun _ _ => rfl) ?_ ?_ L 0 ⟨rfl, rfl⟩ (Nat.zero_le _)).trans ?_
 ·rintro M k x ⟨hM, hd⟩ hx
  have hlt := (List.getElem?_eq_some_iff.1 hx).1
  have hMx : M[k]? = some x := by
   have := congrArg (·[0]?) hd
   simpa [List.getElem?_drop, hx] using this
  have w1 : IntKind.i64.wrap ((k : Int) + 1) = ((k + 1 : Nat) : Int) := w64 (by omega) (by omega)
  have ho := hL x (List.mem_of_getElem? hx)
  have hu : (upV (M.map encI))[k]? = some [vI x] := by simp [upV, hMx, encI]
  have inv : (M.set k (upG x s)).length = L.length ∧ (M.set k (upG x s)).drop (k + 1) = L.drop (k + 1) := by
   refine ⟨by simp [hM], ?_⟩
   rw [List.drop_set_of_lt (Nat.lt_succ_self k)]
   have := congrArg (List.drop 1) hd
   simpa [List.drop_drop, Nat.add_comm] using this
  refine ⟨?_, inv⟩
  have hrow := q0ka G id 1 (upV (M.map encI)) hid
  have hrow0 : Eng.rowAt (G.set id (.row 1 (upV (M.map encI)))) H0 = some (2, es) := by rw [q06b _ _ _ _ hne, h0]
  have hlen : (upV (M.map encI)).length = L.length := by simp [hM]
  have t1 := q054 197 (fun n => upG n s) x s (G.set id (.row 1 (upV (M.map encI)))) id L.length k 0 1 _ _ hrow hlen hu rfl (by simpa using hid) (fun H' => q04j x s H' ho hs)
  have e : (upV (M.map encI)).set k [vI (upG x s)] = upV ((M.set k (upG x s)).map encI) := by
   rw [← q03e]; rfl
  simp only [List.set_cons_zero, e, List.set_set] at t1
  simp [-getElem?_pos, linesE, hlt, hi, he, hei, q00e, hM, hrow, hrow0, hu, subs, t1, w1, hB]
 ·rintro M ⟨hM, hd⟩
  simp [linesE, linesX]
 ·have := q04y (fun x => upG x s) L []
  simp at this
  simp [this]
abbrev okNote (n : Note) : Prop := (∀ x ∈ n.lines, I64 x) ∧ n.lines.length ≤ 1000000 ∧ n.pens.length ≤ 1000000
def rowsH (l : List Int) : Heap := if l = [] then [] else [.row 1 (upV (l.map encI))]
def noteH (s : Int) (n : Note) : Heap := rowsH (n.lines.map fun x => upG x s) ++ rowsH n.pens
def noteV (id : Nat) (n : Note) : List V := [cloneV id n.lines, cloneV (id + (if n.lines = [] then 0 else 1)) n.pens]
def notesH (s : Int) : List Note → Heap
 | [] => []
 | n :: r => noteH s n ++ notesH s r
def notesV (s : Int) : Nat → List Note → List (List V)
 | _, [] => []
 | id, n :: r => noteV id n :: notesV s (id + (noteH s n).length) r
theorem q096 (s : Int) : ∀ a b, notesH s (a ++ b) = notesH s a ++ notesH s b
 | [], b => rfl
 | n :: r, b => by simp only [List.cons_append, notesH, q096 s r b, List.append_assoc]
theorem q097 (s : Int) : ∀ a id b, notesV s id (a ++ b) = notesV s id a ++ notesV s (id + (notesH s a).length) b
 | [], id, b => by simp [notesV, notesH]
 | n :: r, id, b => by simp only [List.cons_append, notesV, notesH, q097 s r, List.length_append, Nat.add_assoc]
theorem q055 (s : Int) : ∀ l id, (notesV s id l).length = l.length
 | [], _ => rfl
 | n :: r, id => by simp only [notesV, List.length_cons, q055 s r]
def notesHp (s : Int) (l : List Note) (H : Heap) (i : Nat) : Heap :=
 H ++ [.row 2 (notesV s (H.length + 1) (l.take i) ++ List.replicate (l.length - i) [.nils, .nils])] ++ notesH s (l.take i)
def notesE (s : Int) (l : List Note) (H : Heap) (i : Nat) : St :=
 ⟨[(2, .lptr 2 0), (5, .row H.length l.length 0 l.length), (12, vNotes l), (13, vI l.length), (14, vI i)], [(2, [vI s])], notesHp s l H i, H.length, []⟩
def notesX (s : Int) (l : List Note) (H : Heap) : Ex × St :=
 (.exit 0, ⟨[(2, .lptr 2 0), (5, .row H.length l.length 0 l.length), (12, vNotes l), (13, vI l.length), (14, vI l.length), (15, .p (.bool false))], [(2, [vI s])], notesHp s l H l.length, H.length, []⟩)
theorem q0ds (s : Int) (l : List Note) (H : Heap) (i : Nat) (n : Note) (hx : l[i]? = some n) :
  notesHp s l H (i + 1) = H ++ [.row 2 (notesV s (H.length + 1) (l.take i) ++ noteV (H.length + 1 + (notesH s (l.take i)).length) n :: List.replicate (l.length - i - 1) [.nils, .nils])] ++ notesH s (l.take i) ++ noteH s n := by
 have e : l.take (i + 1) = l.take i ++ [n] := by rw [List.take_add_one, hx]; rfl
 unfold notesHp
 rw [e, q097, q096]
 simp [notesV, notesH, Nat.sub_sub]
theorem q0no (H : Heap) (l : List Int) (hm : l.length ≤ 1000000) : clD EE (.p (.fn 191)) [sli l] H = some (cloneV H.length l, cloneH encI 1 H l) := q02l _ 1 _ H encI (fun _ => rfl) q0fc l (by unfold most; omega)
theorem q0kj (H : Heap) (l : List Int) (hm : l.length ≤ 1000000) : clD EE (.p (.fn 192)) [sli l] H = some (cloneV H.length l, cloneH encI 1 H l) := q02l _ 1 _ H encI (fun _ => rfl) q0dr l (by unfold most; omega)
theorem q0i1 (a b c d e f : V) (u : List V) (H : Heap) (B : Nat) : evD EE lp194_0 ⟨[(2, a), (5, b), (6, c), (12, d), (13, e), (14, f), (34, vI 0), (35, vI 0)], [(2, u)], H, B, []⟩ =
  some (.exit 2, ⟨[(2, a), (5, b), (6, c), (12, d), (13, e), (14, f), (34, vI 0), (35, vI 0), (36, .p (.bool false))], [(2, u)], H, B, []⟩) := by
 unfold lp194_0
 rw [q003]
 simp
theorem q0rf {α : Type} {A : List α} {i : Nat} (h : A.length = i) (x : α) (r : List α) : (A ++ x :: r)[i]? = some x := by subst h; simp
theorem q0rg {α : Type} {A : List α} {i : Nat} (h : A.length = i) (x y : α) (r : List α) : (A ++ x :: r).set i y = A ++ y :: r := by subst h; simp
@[simp] theorem q0tc {α : Type} (n : Nat) (l : List α) : (cloneV n l).cells = [cloneV n l] := by unfold cloneV; split <;> rfl
@[simp] theorem q0vf {α : Type} (n : Nat) (l : List α) : (cloneV n l).oneB = true := by unfold cloneV; split <;> rfl
@[simp] theorem q0vg {α : Type} (n : Nat) (l : List α) : (cloneV n l).outB = true := by unfold cloneV; split <;> rfl
@[simp] theorem q0vh {α : Type} (n : Nat) (l : List α) : (cloneV n l).notL = true := by unfold cloneV; split <;> rfl
@[simp] theorem q098 {α : Type} (n : Nat) : cloneV n ([] : List α) = .nils := rfl
@[simp] theorem q0at : rowsH [] = [] := rfl
@[simp] theorem q030 {α : Type} (n : Nat) (x : α) (r : List α) : cloneV n (x :: r) = .row n (x :: r).length 0 (x :: r).length := rfl
@[simp] theorem q099 (x : Int) (r : List Int) : rowsH (x :: r) = [.row 1 (upV ((x :: r).map encI))] := rfl
theorem q06g (env : List (Nat × V)) (loc : List (Nat × List V)) (hp : Heap) (base : Nat) (dirty : List Nat) (n : Nat) (d : Option Nat) (l : List Int) :
  callR ⟨env, loc, hp, base, dirty⟩ false d (some (cloneV n l, cloneH encI 1 hp l)) = some (St.put ⟨env, loc, hp ++ rowsH l, base, dirty⟩ d (cloneV n l)) := by
 unfold cloneV cloneH rowsH
 split
 ·rename_i h; subst h; simp
 ·simp
theorem q09v (s : Int) (hs : I64 s) (l : List Note) (hl : ∀ x ∈ l, okNote x) (hn : l.length ≤ 1000000) (H : Heap) :
  evD EE lp194_1 (notesE s l H 0) = some (notesX s l H) := by
 unfold lp194_1
 refine (q00s l (fun (_ : Unit) i => notesE s l H i) (fun _ _ => True) (fun _ _ _ => ()) (fun _ => notesX s l H) (fun _ _ => rfl) ?_ ?_ () 0 trivial (Nat.zero_le _))
 ·rintro _ i n - hx
  refine ⟨?_, trivial⟩
  have hlt := (List.getElem?_eq_some_iff.1 hx).1
  have w1 : IntKind.i64.wrap ((i : Int) + 1) = ((i + 1 : Nat) : Int) := w64 (by omega) (by omega)
  obtain ⟨h1, h2, h3⟩ := hl n (List.mem_of_getElem? hx)
  have hix := fun H k => q00a H encNote (k := k) (s := 2) hx rfl
  obtain ⟨k, hk⟩ : ∃ k, l.length - i = k + 1 := ⟨l.length - i - 1, by omega⟩
  have hk2 : l.length - i - 1 = k := by omega
  have hsucc := q0ds s l H i n hx
  rw [hk2] at hsucc
  have hA := q055 s (l.take i) (H.length + 1)
  rw [List.length_take, Nat.min_eq_left (Nat.le_of_lt hlt)] at hA
  have e0 : notesHp s l H i = H ++ [.row 2 (notesV s (H.length + 1) (l.take i) ++ List.replicate (k + 1) [.nils, .nils])] ++ notesH s (l.take i) := by unfold notesHp; rw [hk]
  simp only [notesE]
  generalize notesHp s l H (i + 1) = R at hsucc ⊢
  rw [e0]
  generalize notesV s (H.length + 1) (l.take i) = A at *
  generalize notesH s (l.take i) = T at *
  have hrow : ∀ (v : List V) (U : Heap), Eng.rowAt (H ++ DObj.row 2 (A ++ v :: List.replicate k [.nils, .nils]) :: U) H.length = some (2, A ++ v :: List.replicate k [.nils, .nils]) := fun v U => by simp
  have hes : ∀ (v : List V), (A ++ v :: List.replicate k [.nils, .nils]).length = l.length := fun v => by simp; omega
  have mg := fun x r => q0rf (α := List V) hA x r
  have ms := fun x y r => q0rg (α := List V) hA x y r
  simp only [List.replicate_succ, List.append_assoc, List.cons_append, List.nil_append] at hsucc ⊢
  have c1 := q0no (H ++ DObj.row 2 (A ++ [.nils, .nils] :: List.replicate k [.nils, .nils]) :: T) n.lines h2
  have c2 := q0kj (H ++ DObj.row 2 (A ++ [.nils, .nils] :: List.replicate k [.nils, .nils]) :: (T ++ rowsH n.lines)) n.pens h3
  simp only [sli] at c1 c2
  cases hL : n.lines with
  | nil =>
    simp only [hL, List.map_nil, q0at, List.append_nil] at c1 c2
    simp only [q098] at c1
    rw [show cloneH encI 1 (H ++ DObj.row 2 (A ++ [.nils, .nils] :: List.replicate k [.nils, .nils]) :: T) [] = none from rfl] at c1
    have nl := fun v U => q0i1 (.lptr 2 0) (.row H.length l.length 0 l.length) (vI i) (vNotes l) (vI l.length) (vI i) [vI s] (H ++ DObj.row 2 (A ++ v :: List.replicate k [.nils, .nils]) :: (T ++ U)) H.length
    simp only [noteV, noteH, hL, List.map_nil, q0at, q098, if_pos, Nat.add_zero, Nat.add_assoc, Nat.add_comm 1, List.nil_append] at hsucc
    simp only [List.length_append, List.length_cons] at c1 c2
    rw [hsucc]
    simp [-getElem?_pos, hlt, hix, encNote, subs, setSubs, q00e, hrow, hes, mg, ms, hL, c1, c2, q06g, nl, w1]
  | cons x r =>
    simp only [hL, q099, q030] at c1 c2
    rw [show ∀ G, cloneH encI 1 G (x :: r) = some (G ++ [.row 1 (upV ((x :: r).map encI))], []) from fun _ => rfl] at c1
    simp only [noteV, noteH, hL, List.map_cons, q099, q030, List.cons_ne_nil, if_false, reduceCtorEq, Nat.add_assoc, Nat.add_comm 1, List.nil_append] at hsucc
    simp only [List.length_append, List.length_cons, List.length_nil, Nat.zero_add, List.append_assoc, List.cons_append, List.nil_append] at c1 c2
    have hset : ∀ v K, (H ++ DObj.row 2 (A ++ v :: List.replicate k [.nils, .nils]) :: (T ++ DObj.row 1 (upV ((x :: r).map encI)) :: rowsH n.pens)).set (H.length + (T.length + 1)) (.row 1 K) =
      H ++ DObj.row 2 (A ++ v :: List.replicate k [.nils, .nils]) :: (T ++ DObj.row 1 K :: rowsH n.pens) := fun v K => by simp
    have key := q09u s hs (vNotes l) l.length i hlt (x :: r) (fun y hy => h1 y (hL ▸ hy)) (by rw [← hL]; exact h2) H.length (H.length + (T.length + 1))
     (H ++ DObj.row 2 (A ++ [.row (H.length + (T.length + 1)) (x :: r).length 0 (x :: r).length, cloneV (H.length + (T.length + 2)) n.pens] :: List.replicate k [.nils, .nils]) :: (T ++ DObj.row 1 (upV ((x :: r).map encI)) :: rowsH n.pens)) H.length _ (cloneV (H.length + (T.length + 2)) n.pens)
     (hrow _ _) (hes _) (mg _ _) (by simp) (by omega) (by omega)
    simp only [linesE, linesX, hset] at key
    rw [hsucc]
    simp at c1 c2 key
    simp [-getElem?_pos, hlt, hix, encNote, subs, setSubs, q00e, hrow, hes, mg, ms, hL, c1, c2, q06g, key, w1]
 ·rintro _ -
  refine ⟨?_, by simp [notesX]⟩
  simp [notesE, notesX]
theorem q0au (base id : Nat) (G : Heap) (d : Nat) (L K : List Int) (h : Eng.rowAt G id = some (1, upV (K.map encI)) ∨ L = []) (hb : base ≤ id) (hl : K.length = L.length) : frz base G (d + 1) (cloneV id L) = some (.sl (K.map encI)) := by
 cases L with
 | nil =>
   have : K = [] := by simpa using hl
   subst this; rfl
 | cons x r =>
   rcases h with h | h
   ·rw [q030, q09q, if_pos hb, h, q0df]; simp [hl]
    rw [← List.length_cons (a := x) (as := r), ← hl]; simp
   ·cases h
theorem q0fd (s : Int) (n : Note) (H0 : Heap) (U : Heap) : Eng.rowAt (H0 ++ (noteH s n ++ U)) H0.length = some (1, upV ((n.lines.map fun x => upG x s).map encI)) ∨ n.lines = [] := by
 unfold noteH
 cases h : n.lines with
 | nil => exact .inr rfl
 | cons x r => left; simp
theorem q0fe (s : Int) (n : Note) (H0 : Heap) (U : Heap) : Eng.rowAt (H0 ++ (noteH s n ++ U)) (H0.length + (if n.lines = [] then 0 else 1)) = some (1, upV (n.pens.map encI)) ∨ n.pens = [] := by
 unfold noteH
 cases h : n.pens with
 | nil => exact .inr rfl
 | cons x r =>
   left
   cases h2 : n.lines with
   | nil => simp
   | cons y q => simp
theorem q0av (s : Int) (base : Nat) : ∀ (l : List Note) (H0 : Heap), base ≤ H0.length → allO (allO (frz base (H0 ++ notesH s l) 2)) (notesV s H0.length l) = some (l.map fun n => encNote (noteG s n))
 | [], _, _ => rfl
 | n :: r, H0, hb => by
   have ih := q0av s base r (H0 ++ noteH s n) (by simp; omega)
   rw [List.append_assoc, List.length_append] at ih
   have f1 := q0au base H0.length (H0 ++ (noteH s n ++ notesH s r)) 1 n.lines (n.lines.map fun x => upG x s) (q0fd s n H0 _) hb (by simp)
   have f2 := q0au base (H0.length + (if n.lines = [] then 0 else 1)) (H0 ++ (noteH s n ++ notesH s r)) 1 n.pens n.pens (q0fe s n H0 _) (by omega) rfl
   simp only [notesH, notesV, noteV, allO, f1, f2, ih, List.map_cons]
   rfl
theorem q0kk (s : Int) (hs : I64 s) (l : List Note) (hl : ∀ x ∈ l, okNote x) (hn : l.length ≤ 1000000) (H : Heap) :
  clD EE (.p (.fn 194)) [.agg [vI s], vNotes l] H = some (vNotes (l.map (noteG s)), none) := by
 rw [q000 _ _ _ _ _ _ (noP _) fn194]
 have key := q09v s hs l hl hn H
 have hm : l.length < most := by unfold most; omega
 have fz := q0av s H.length l (H ++ [.row 2 (notesV s (H.length + 1) l)]) (by simp)
 have hl2 := q055 s l (H.length + 1)
 simp [notesE, notesX, notesHp, notesH, notesV] at key fz
 have ht : List.take l.length (notesV s (H.length + 1) l) = notesV s (H.length + 1) l := List.take_of_length_le (by omega)
 simp [St.enter, enumFrom, q0n8, hm, key, subs, frzK, hl2, ht, fz]
abbrev okGeom (g : Geom) : Prop := I64 g.cols ∧ I64 g.wide ∧ I64 g.gap ∧ I64 g.high ∧ I64 g.first ∧ I64 g.grid ∧ I64 g.rule ∧ I64 g.sep ∧ I64 g.noteMost ∧ I64 g.topMost ∧ I64 g.botMost ∧ I64 g.topMany ∧ I64 g.botMany ∧ I64 g.club ∧ I64 g.widow ∧ I64 g.split ∧ I64 g.defer ∧ I64 g.spare
structure okJob (j : Job) : Prop where
 g : okGeom j.g
 items : ∀ x ∈ j.items, okItem x
 notes : ∀ x ∈ j.notes, okNote x
 floats : ∀ x ∈ j.floats, okFloat x
 n1 : j.items.length ≤ 1000000
 n2 : j.notes.length ≤ 1000000
 n3 : j.floats.length ≤ 1000000
def floatsE (s : Int) (l : List Float) (u : List V) (g : Geom) (a b : V) (H : Heap) (M : List Float) (i : Nat) : St :=
 ⟨[(2, .lptr 2 0), (3, .lptr 3 0), (4, .ptr (H.length + 1) 0), (44, vI l.length), (45, vI i)], [(2, u), (3, [vI s])], H ++ [.row 3 (upV (M.map encFloat)), .box (cGeom g ++ [a, b, .row H.length l.length 0 l.length])], H.length, []⟩
def floatsX (s : Int) (l : List Float) (u : List V) (g : Geom) (a b : V) (H : Heap) (M : List Float) : Ex × St :=
 (.exit 0, ⟨[(2, .lptr 2 0), (3, .lptr 3 0), (4, .ptr (H.length + 1) 0), (44, vI l.length), (45, vI l.length), (46, .p (.bool false))], [(2, u), (3, [vI s])], H ++ [.row 3 (upV (M.map encFloat)), .box (cGeom g ++ [a, b, .row H.length l.length 0 l.length])], H.length, []⟩)
theorem q09a (s : Int) (hs : I64 s) (l : List Float) (hl : ∀ x ∈ l, okFloat x) (hn : l.length ≤ 1000000) (u : List V) (g : Geom) (a b : V) (H : Heap) :
  evD EE lp73_0 (floatsE s l u g a b H l 0) = some (floatsX s l u g a b H (l.map (floatG s))) := by
 unfold lp73_0
 refine (q00s l (floatsE s l u g a b H) (fun M k => M.length = l.length ∧ M.drop k = l.drop k) (fun M k x => M.set k (floatG s x)) (floatsX s l u g a b H) (fun _ _ => rfl) ?_ ?_ l 0 ⟨rfl, rfl⟩ (Nat.zero_le _)).trans ?_
 ·rintro M i x ⟨hM, hd⟩ hx
  have hlt := (List.getElem?_eq_some_iff.1 hx).1
  have hMx : M[i]? = some x := by
   have := congrArg (·[0]?) hd
   simpa [List.getElem?_drop, hx] using this
  have w : IntKind.i64.wrap ((i : Int) + 1) = ((i + 1 : Nat) : Int) := w64 (by omega) (by omega)
  have ho := hl x (List.mem_of_getElem? hx)
  have hu : (upV (M.map encFloat))[i]? = some ((encFloat x).map .p) := by simp [upV, hMx]
  have inv : (M.set i (floatG s x)).length = l.length ∧ (M.set i (floatG s x)).drop (i + 1) = l.drop (i + 1) := by
   refine ⟨by simp [hM], ?_⟩
   rw [List.drop_set_of_lt (Nat.lt_succ_self i)]
   have := congrArg (List.drop 1) hd
   simpa [List.drop_drop, Nat.add_comm] using this
  refine ⟨?_, inv⟩
  have hrow : ∀ U : Heap, Eng.rowAt (H ++ DObj.row 3 (upV (M.map encFloat)) :: U) H.length = some (3, upV (M.map encFloat)) := fun U => by simp
  have hlen : (upV (M.map encFloat)).length = l.length := by simp [hM]
  have hj : ((encFloat x).map V.p)[1]? = some (vI x.h) := rfl
  have t1 := fun U : Heap => q054 197 (fun n => upG n s) x.h s (H ++ DObj.row 3 (upV (M.map encFloat)) :: U) H.length l.length i 1 3 _ _ (hrow U) hlen hu hj (by simp) (fun H' => q04j x.h s H' ho.2.1 hs)
  have e : (upV (M.map encFloat)).set i (((encFloat x).map V.p).set 1 (vI (upG x.h s))) = upV ((M.set i (floatG s x)).map encFloat) := by
   rw [← q03e]; rfl
  simp only [e] at t1
  simp [-getElem?_pos, floatsE, hlt, q00e, hM, hu, encFloat, subs, t1, w]
 ·rintro M ⟨hM, hd⟩
  simp [floatsE, floatsX]
 ·have := q04y (floatG s) l []
  simp at this
  simp [this]
theorem q0gt (j : Job) (ok : okJob j) (H : Heap) : clD EE (.p (.fn 73)) [vJob j] H = some (vJob (snapG j), none) := by
 rw [q000 _ _ _ _ _ _ (noP _) fn73]
 obtain ⟨g, items, notes, floats⟩ := j
 have hg := ok.g
 simp only [okGeom] at hg
 by_cases c : g.grid < 1
 ·simp [St.enter, enumFrom, subs, setSubs, c, snapG]
 ·have h1 := q0nn g.grid hg.2.2.2.2.2.1 items ok.items ok.n1 H
  have h2 := q0kk g.grid hg.2.2.2.2.2.1 notes ok.notes ok.n2 H
  have hc := q02l _ 3 _ H encFloat (fun _ => rfl) q09t floats (by have := ok.n3; simp only at this; unfold most; omega)
  have i1 := fun H' => q088 g.high g.grid H' hg.2.2.2.1 hg.2.2.2.2.2.1
  have i2 := fun H' => q088 g.first g.grid H' hg.2.2.2.2.1 hg.2.2.2.2.2.1
  have i3 := fun H' => q04j g.rule g.grid H' hg.2.2.2.2.2.2.1 hg.2.2.2.2.2.1
  have i4 := fun H' => q04j g.sep g.grid H' hg.2.2.2.2.2.2.2.1 hg.2.2.2.2.2.1
  obtain ⟨I, hI⟩ : ∃ I, (items.map (itemG g.grid)).map encItem = I := ⟨_, rfl⟩
  obtain ⟨N, hN⟩ : ∃ I, (notes.map (noteG g.grid)).map encNote = I := ⟨_, rfl⟩
  have hj : snapG ⟨g, items, notes, floats⟩ = ⟨geomG g, items.map (itemG g.grid), notes.map (noteG g.grid), floats.map (floatG g.grid)⟩ := if_neg c
  rw [hj]
  show _ = some (V.agg (cGeom (geomG g) ++ [.p (.sl ((items.map (itemG g.grid)).map encItem)), .p (.sl ((notes.map (noteG g.grid)).map encNote)), vFloats (floats.map (floatG g.grid))]), none)
  simp only [vItems, vNotes, hI, hN] at h1 h2 ⊢
  clear hj hI hN
  cases floats with
  | nil =>
    have b1 := q041 196 (fun n => downG n g.grid) g.high g.first g.grid (H ++ [.box (cGeom g ++ [.p (.sl I), .p (.sl N), .nils])])
     H.length 3 4 _ (by simp; rfl) rfl rfl (by decide) (by simp) i1 i2
    have b2 := q041 197 (fun n => upG n g.grid) g.rule g.sep g.grid (H ++ [.box (cGeom { g with high := downG g.high g.grid, first := downG g.first g.grid } ++ [.p (.sl I), .p (.sl N), .nils])])
     H.length 6 7 _ (by simp; rfl) rfl rfl (by decide) (by simp) i3 i4
    have key : ∀ u cs, evD EE lp73_0 ⟨[(2, .lptr 2 0), (3, .lptr 3 0), (4, .ptr H.length 0), (44, vI 0), (45, vI 0)], [(2, u), (3, [vI g.grid])], H ++ [.box cs], H.length, []⟩ =
      some (.exit 0, ⟨[(2, .lptr 2 0), (3, .lptr 3 0), (4, .ptr H.length 0), (44, vI 0), (45, vI 0), (46, .p (.bool false))], [(2, u), (3, [vI g.grid])], H ++ [.box cs], H.length, []⟩) := by
     intro u cs
     unfold lp73_0
     rw [q003]
     simp
    simp [cloneV, cloneH] at hc
    simp at b1 b2
    simp [St.enter, enumFrom, subs, setSubs, c, h1, h2, hc, b1, b2, key, geomG]
  | cons x r =>
    have b1 := q041 196 (fun n => downG n g.grid) g.high g.first g.grid (H ++ [.row 3 (upV ((x :: r).map encFloat)), .box (cGeom g ++ [.p (.sl I), .p (.sl N), .row H.length (x :: r).length 0 (x :: r).length])])
     (H.length + 1) 3 4 _ (by simp; rfl) rfl rfl (by decide) (by simp) i1 i2
    have b2 := q041 197 (fun n => upG n g.grid) g.rule g.sep g.grid (H ++ [.row 3 (upV ((x :: r).map encFloat)), .box (cGeom { g with high := downG g.high g.grid, first := downG g.first g.grid } ++ [.p (.sl I), .p (.sl N), .row H.length (x :: r).length 0 (x :: r).length])])
     (H.length + 1) 6 7 _ (by simp; rfl) rfl rfl (by decide) (by simp) i3 i4
    have key := fun u => q09a g.grid hg.2.2.2.2.2.1 (x :: r) ok.floats ok.n3 u (geomG g) (.p (.sl I)) (.p (.sl N)) H
    simp [cloneV, cloneH] at hc
    simp at b1 b2
    simp [floatsE, floatsX, geomG] at key
    simp [St.enter, enumFrom, subs, setSubs, c, h1, h2, hc, b1, b2, key, geomG]
end Go.EnvOf
namespace Go.EnvOf
open Go Go.Eng
def off (s n : Int) : Bool := !decide (n.tmod s = 0)
theorem q0np : EE.fns 509 = some (idxI 1 false) := fn509
theorem q0nq : EE.fns 489 = some (conI 509) := fn489
theorem q0nr (hv : V) (p : Int → Bool) (l : List Int) (H : Heap) (ho : (normA hv).outB = true) (ho2 : normA hv = hv) (hn : l.length ≤ 1000000) (hH : ∀ x ∈ l, clD EE hv [vI x] H = some (vB (p x), none)) :
  clD EE (.p (.fn 489)) [sli l, hv] H = some (vB (l.any p), none) :=
 q0t8 _ _ (noP _) q0nq (sli l) hv p l H rfl rfl ho ho2 (q06c _ 1 false encI (fun x => vI x) (noP _) q0np (fun _ => rfl) (fun _ => rfl) (fun _ => rfl) (fun _ => rfl) l (by omega) hv p H hH)
end Go.EnvOf
namespace Go.EnvOf
open Go Go.Eng
def lenOK (n : Int) : Bool := !(decide (n < 0) || decide (1073741823 < n))
def itemSame (x : Item) : Item := if x.k = 1 then ⟨1, x.h, x.f, 0, 0, 0, 0⟩ else if x.k = 2 then ⟨2, x.h, 0, x.str, x.ord, x.shr, 0⟩ else if x.k = 7 then ⟨7, 0, 0, 0, 0, 0, 0⟩ else ⟨x.k, 0, 0, 0, 0, 0, x.n⟩
def upTo (m n : Int) : Bool := decide (0 ≤ n) && decide (n ≤ m)
def nOk (x : Item) : Bool := if x.k = 3 then decide (x.n = -10000) || upTo 10000 x.n else if x.k = 4 then upTo 1048576 x.n else if x.k = 5 then upTo 511 x.n else if x.k = 6 then upTo 255 x.n else upTo 0 x.n
def rightF (x : Item) : Bool := decide (1 ≤ x.k) && decide (x.k ≤ 7) && decide (itemSame x = x) && nOk x && (lenOK x.h && lenOK x.str && lenOK x.shr) && upTo 3 x.f && upTo 3 x.ord && !(decide (x.k = 2) && decide (x.h < x.shr))
theorem q056 (m n : Int) (p : Nat) (H : Heap) (hb : Eng.boxAt H p = some [vI m]) : clD EE (.p (.fn 488)) [vI n, .ptr p 0] H = some (vB (upTo m n), none) := by
 rw [q000 _ _ _ _ _ _ (noP _) fn488]
 have e : subs [vI m] 0 1 = some [vI m] := rfl
 by_cases c : 0 ≤ n
 ·simp [St.enter, enumFrom, hb, e, upTo, c]
 ·simp [St.enter, enumFrom, upTo, c]
theorem q01p (m : Int) (H : Heap) : clD EE (.p (.fn 443)) [vI m] H = some (.fn (.func 488) [] [.ptr H.length 0], some (H ++ [.box [vI m]], [])) := by
 rw [q000 _ _ _ _ _ _ (noP _) fn443]
 simp [St.enter, enumFrom]
theorem q0ff (f : FuncId) (H : Heap) : clD EE (.p (.fn 475)) [.p (.fn f)] H = some (.fn (.func 476) [] [.ptr H.length 0], some (H ++ [.box [.p (.fn f)]], [])) := by
 rw [q000 _ _ _ _ _ _ (noP _) fn475]
 simp [St.enter, enumFrom]
theorem q0dt (f : FuncId) (g : Int → Item) (x : Item) (p : Nat) (H : Heap) (hb : Eng.boxAt H p = some [.p (.fn f)]) (hg : ∀ H', clD EE (.p (.fn f)) [vI x.n] H' = some (vItem (g x.n), none)) :
  clD EE (.p (.fn 476)) [vItem x, .ptr p 0] H = some (vItem (g x.n), none) := by
 rw [q000 _ _ _ _ _ _ (noP _) fn476]
 have h := hg H
 simp [St.enter, enumFrom, hb, subs, h, setSubs]
theorem q0td (h f : Int) (H : Heap) : clD EE (.p (.fn 478)) [vI h, vI f] H = some (vItem ⟨1, h, f, 0, 0, 0, 0⟩, none) := by
 rw [q000 _ _ _ _ _ _ (noP _) fn478]
 simp [St.enter, enumFrom, subs, setSubs]
theorem q0rh (h s o r : Int) (H : Heap) : clD EE (.p (.fn 480)) [vI h, vI s, vI o, vI r] H = some (vItem ⟨2, h, 0, s, o, r, 0⟩, none) := by
 rw [q000 _ _ _ _ _ _ (noP _) fn480]
 simp [St.enter, enumFrom, subs, setSubs]
theorem q0fg (n : Int) (H : Heap) : clD EE (.p (.fn 481)) [vI n] H = some (vItem ⟨3, 0, 0, 0, 0, 0, n⟩, none) := by
 rw [q000 _ _ _ _ _ _ (noP _) fn481]
 simp [St.enter, enumFrom, subs, setSubs]
theorem q0ri (n : Int) (H : Heap) : clD EE (.p (.fn 483)) [vI n] H = some (vItem ⟨4, 0, 0, 0, 0, 0, n⟩, none) := by
 rw [q000 _ _ _ _ _ _ (noP _) fn483]
 simp [St.enter, enumFrom, subs, setSubs]
theorem q0du (n : Int) (H : Heap) : clD EE (.p (.fn 484)) [vI n] H = some (vItem ⟨5, 0, 0, 0, 0, 0, n⟩, none) := by
 rw [q000 _ _ _ _ _ _ (noP _) fn484]
 simp [St.enter, enumFrom, subs, setSubs]
theorem q0bw (n : Int) (H : Heap) : clD EE (.p (.fn 485)) [vI n] H = some (vItem ⟨6, 0, 0, 0, 0, 0, n⟩, none) := by
 rw [q000 _ _ _ _ _ _ (noP _) fn485]
 simp [St.enter, enumFrom, subs, setSubs]
theorem q0i2 (H : Heap) : clD EE (.p (.fn 487)) [] H = some (vItem ⟨7, 0, 0, 0, 0, 0, 0⟩, none) := by
 rw [q000 _ _ _ _ _ _ (noP _) fn487]
 simp [St.enter, enumFrom, subs, setSubs]
theorem q0ns (x : Item) (H : Heap) : clD EE (.p (.fn 477)) [vItem x] H = some (vItem ⟨1, x.h, x.f, 0, 0, 0, 0⟩, none) := by
 rw [q000 _ _ _ _ _ _ (noP _) fn477]
 simp [St.enter, enumFrom, subs, setSubs, q0td]
theorem q0nt (x : Item) (H : Heap) : clD EE (.p (.fn 479)) [vItem x] H = some (vItem ⟨2, x.h, 0, x.str, x.ord, x.shr, 0⟩, none) := by
 rw [q000 _ _ _ _ _ _ (noP _) fn479]
 simp [St.enter, enumFrom, subs, setSubs, q0rh]
theorem q0nu (x : Item) (H : Heap) : clD EE (.p (.fn 486)) [vItem x] H = some (vItem ⟨7, 0, 0, 0, 0, 0, 0⟩, none) := by
 rw [q000 _ _ _ _ _ _ (noP _) fn486]
 simp [St.enter, enumFrom, subs, setSubs, q0i2]
theorem q0kl (n : Int) (H : Heap) : clD EE (.p (.fn 482)) [vI n] H = some (vB (decide (n = -10000) || upTo 10000 n), none) := by
 rw [q000 _ _ _ _ _ _ (noP _) fn482]
 have h := q056 10000 n H.length (H ++ [.box [vI 10000]]) (by simp)
 by_cases c : n = -10000
 ·simp [St.enter, enumFrom, c]
 ·simp [St.enter, enumFrom, c, q01p, h]
def formH : Heap := [.box [vI 0], .box [vI 0], .box [.p (.fn 481)], .box [.p (.fn 483)], .box [vI 1048576], .box [.p (.fn 484)], .box [vI 511], .box [.p (.fn 485)], .box [vI 255], .box [vI 0]]
def up1 (n : Nat) : V := .fn (.func 488) [] [.ptr n 0]
def num1 (n : Nat) : V := .fn (.func 476) [] [.ptr n 0]
def formV (n : Nat) : List (List V) := [[.p (.fn 477), up1 n], [.p (.fn 479), up1 (n + 1)], [num1 (n + 2), .p (.fn 482)], [num1 (n + 3), up1 (n + 4)], [num1 (n + 5), up1 (n + 6)], [num1 (n + 7), up1 (n + 8)], [.p (.fn 486), up1 (n + 9)]]
theorem q0nv (H : Heap) : clD EE (.p (.fn 442)) [] H = some (.vsl (formV H.length), some (H ++ formH, [])) := by
 rw [q000 _ _ _ _ _ _ (noP _) fn442]
 simp [St.enter, enumFrom, setSubs, q01p, q0ff, formV, formH, up1, num1]
theorem q0nw (x : Item) (h1 : 1 ≤ x.k) (h7 : x.k ≤ 7) (H : Heap) : ∃ sv nv, (∀ H', ixsI H' (.vsl (formV H.length)) (.p (.int .i64 (x.k - 1))) 2 = some (.eptr [sv, nv] 0)) ∧ sv.oneB = true ∧ nv.oneB = true ∧ sv.cells = [sv] ∧ nv.cells = [nv] ∧ sv.notL = true ∧ nv.notL = true ∧
  (∀ T, clD EE sv [vItem x] (H ++ (formH ++ T)) = some (vItem (itemSame x), none)) ∧ (∀ T, clD EE nv [vI x.n] (H ++ (formH ++ T)) = some (vB (nOk x), none)) := by
 have hk : x.k = 1 ∨ x.k = 2 ∨ x.k = 3 ∨ x.k = 4 ∨ x.k = 5 ∨ x.k = 6 ∨ x.k = 7 := by omega
 have up : ∀ (i : Nat) (m : Int) T, formH[i]? = some (.box [vI m]) → clD EE (up1 (H.length + i)) [vI x.n] (H ++ (formH ++ T)) = some (vB (upTo m x.n), none) := fun i m T hi => by
  unfold up1
  rw [q00v]
  refine q056 m x.n (H.length + i) _ ?_
  have hlt := (List.getElem?_eq_some_iff.1 hi).1
  rw [q06a]; unfold Eng.boxAt; rw [List.getElem?_append_left hlt, hi]
 have nm : ∀ (i : Nat) (f : FuncId) (g : Int → Item) T, formH[i]? = some (.box [.p (.fn f)]) → (∀ H', clD EE (.p (.fn f)) [vI x.n] H' = some (vItem (g x.n), none)) → clD EE (num1 (H.length + i)) [vItem x] (H ++ (formH ++ T)) = some (vItem (g x.n), none) := fun i f g T hi hg => by
  unfold num1
  rw [q00v]
  refine q0dt f g x (H.length + i) _ ?_ hg
  have hlt := (List.getElem?_eq_some_iff.1 hi).1
  rw [q06a]; unfold Eng.boxAt; rw [List.getElem?_append_left hlt, hi]
 rcases hk with k | k | k | k | k | k | k
 ·refine ⟨.p (.fn 477), up1 H.length, fun H' => by simp [k, ixsI, ixsV, formV], rfl, rfl, rfl, rfl, rfl, rfl, fun T => ?_, fun T => ?_⟩
  ·rw [q0ns]; simp [itemSame, k]
  ·rw [show up1 H.length = up1 (H.length + 0) from rfl, up 0 0 T rfl]; simp [nOk, k]
 ·refine ⟨.p (.fn 479), up1 (H.length + 1), fun H' => by simp [k, ixsI, ixsV, formV], rfl, rfl, rfl, rfl, rfl, rfl, fun T => ?_, fun T => ?_⟩
  ·rw [q0nt]; simp [itemSame, k]
  ·rw [up 1 0 T rfl]; simp [nOk, k]
 ·refine ⟨num1 (H.length + 2), .p (.fn 482), fun H' => by simp [k, ixsI, ixsV, formV], rfl, rfl, rfl, rfl, rfl, rfl, fun T => ?_, fun T => ?_⟩
  ·rw [nm 2 481 (fun n => ⟨3, 0, 0, 0, 0, 0, n⟩) T rfl (fun H' => q0fg x.n H')]; simp [itemSame, k]
  ·rw [q0kl]; simp [nOk, k]
 ·refine ⟨num1 (H.length + 3), up1 (H.length + 4), fun H' => by simp [k, ixsI, ixsV, formV], rfl, rfl, rfl, rfl, rfl, rfl, fun T => ?_, fun T => ?_⟩
  ·rw [nm 3 483 (fun n => ⟨4, 0, 0, 0, 0, 0, n⟩) T rfl (fun H' => q0ri x.n H')]; simp [itemSame, k]
  ·rw [up 4 1048576 T rfl]; simp [nOk, k]
 ·refine ⟨num1 (H.length + 5), up1 (H.length + 6), fun H' => by simp [k, ixsI, ixsV, formV], rfl, rfl, rfl, rfl, rfl, rfl, fun T => ?_, fun T => ?_⟩
  ·rw [nm 5 484 (fun n => ⟨5, 0, 0, 0, 0, 0, n⟩) T rfl (fun H' => q0du x.n H')]; simp [itemSame, k]
  ·rw [up 6 511 T rfl]; simp [nOk, k]
 ·refine ⟨num1 (H.length + 7), up1 (H.length + 8), fun H' => by simp [k, ixsI, ixsV, formV], rfl, rfl, rfl, rfl, rfl, rfl, fun T => ?_, fun T => ?_⟩
  ·rw [nm 7 485 (fun n => ⟨6, 0, 0, 0, 0, 0, n⟩) T rfl (fun H' => q0bw x.n H')]; simp [itemSame, k]
  ·rw [up 8 255 T rfl]; simp [nOk, k]
 ·refine ⟨.p (.fn 486), up1 (H.length + 9), fun H' => by simp [k, ixsI, ixsV, formV], rfl, rfl, rfl, rfl, rfl, rfl, fun T => ?_, fun T => ?_⟩
  ·rw [q0nu]; simp [itemSame, k]
  ·rw [up 9 0 T rfl]; simp [nOk, k]
theorem q0nx (n : Int) (H : Heap) : clD EE (.p (.fn 490)) [vI n] H = some (vB (!lenOK n), none) := by
 rw [q000 _ _ _ _ _ _ (noP _) fn490]
 by_cases c : n < 0
 ·simp [St.enter, enumFrom, lenOK, c]
 ·simp [St.enter, enumFrom, lenOK, c]
theorem q0rj (a b c : Int) (H : Heap) : clD EE (.p (.fn 444)) [.p (.sl [[.int .i64 a], [.int .i64 b], [.int .i64 c]])] H = some (vB (lenOK a && lenOK b && lenOK c), none) := by
 rw [q000 _ _ _ _ _ _ (noP _) fn444]
 have h := q0nr (.p (.fn 490)) (fun n => !lenOK n) [a, b, c] H rfl rfl (by simp) (fun x _ => q0nx x H)
 simp only [sli, List.map_cons, List.map_nil, encI] at h
 simp [St.enter, enumFrom, h]
 cases lenOK a <;> cases lenOK b <;> cases lenOK c <;> rfl
theorem q0fh (x y : Item) : eqCells [true, true, true, true, true, true, true] [vI x.k, vI x.h, vI x.f, vI x.str, vI x.ord, vI x.shr, vI x.n] [vI y.k, vI y.h, vI y.f, vI y.str, vI y.ord, vI y.shr, vI y.n] = some (decide (x = y)) := by
 obtain ⟨a, b, c, d, e, f, g⟩ := x
 obtain ⟨a', b', c', d', e', f', g'⟩ := y
 simp [Bool.decide_and]
theorem q0dv (x : Item) (H : Heap) : clD EE (.p (.fn 402)) [vItem x] H = some (vI (if rightF x = true then 0 else 8), none) := by
 rw [q000 _ _ _ _ _ _ (noP _) fn402]
 by_cases c1 : x.k < 1
 ·have e : rightF x = false := by
   have : ¬ 1 ≤ x.k := by omega
   simp [rightF, this]
  simp [St.enter, enumFrom, subs, c1, e]
 ·by_cases c7 : 7 < x.k
  ·have e : rightF x = false := by
    have : ¬ x.k ≤ 7 := by omega
    simp [rightF, this]
   simp [St.enter, enumFrom, subs, c1, c7, e]
  ·obtain ⟨sv, nv, f1, f2, f3, f4, f5, f8, f9, f6, f7⟩ := q0nw x (by omega) (by omega) H
   have w : IntKind.i64.wrap (x.k - 1) = x.k - 1 := w64 (by omega) (by omega)
   have g6 := f6 [.box [vI 3]]
   have g7 := f7 [.box [vI 3]]
   have hb : Eng.boxAt (H ++ (formH ++ [.box [vI 3]])) (H.length + formH.length) = some [vI 3] := by simp
   have t1 := q056 3 x.f (H.length + formH.length) _ hb
   have t2 := q056 3 x.ord (H.length + formH.length) _ hb
   have hl := q0rj x.h x.str x.shr (H ++ (formH ++ [.box [vI 3]]))
   have he := q0fh (itemSame x) x
   have hf := q0nv H
   have a1 : (1 : Int) ≤ x.k := by omega
   have a7 : x.k ≤ 7 := by omega
   unfold rightF
   simp only [a1, a7, decide_true, Bool.true_and]
   generalize formV H.length = fv at *
   generalize formH = FH at *
   generalize itemSame x = y at *
   cases e1 : decide (y = x) with
   | false =>
     rw [e1] at he
     simp [-q00t, St.enter, enumFrom, subs, setSubs, c1, c7, hf, f1, f2, f3, f4, f5, f8, f9, w, q01p, g6, he]
   | true =>
     rw [e1] at he
     cases e2 : nOk x with
     | false =>
       rw [e2] at g7
       simp [-q00t, St.enter, enumFrom, subs, setSubs, c1, c7, hf, f1, f2, f3, f4, f5, f8, f9, w, q01p, g6, g7, he]
     | true =>
       rw [e2] at g7
       cases e3 : (lenOK x.h && lenOK x.str && lenOK x.shr) with
       | false =>
         rw [e3] at hl
         simp [-q00t, St.enter, enumFrom, subs, setSubs, c1, c7, hf, f1, f2, f3, f4, f5, f8, f9, w, q01p, g6, g7, he, hl]
       | true =>
         rw [e3] at hl
         cases e4 : upTo 3 x.f with
         | false =>
           rw [e4] at t1
           simp [-q00t, St.enter, enumFrom, subs, setSubs, c1, c7, hf, f1, f2, f3, f4, f5, f8, f9, w, q01p, g6, g7, he, hl, t1]
         | true =>
           rw [e4] at t1
           cases e5 : upTo 3 x.ord with
           | false =>
             rw [e5] at t2
             simp [-q00t, St.enter, enumFrom, subs, setSubs, c1, c7, hf, f1, f2, f3, f4, f5, f8, f9, w, q01p, g6, g7, he, hl, t1, t2]
           | true =>
             rw [e5] at t2
             by_cases k2 : x.k = 2
             ·have w1 : IntKind.i64.wrap 1 = 1 := w64 (by omega) (by omega)
              have e21 : (2 : Int) - 1 = 1 := rfl
              rw [k2] at he
              simp only [vItem, k2, e21] at f1 g6
              by_cases k3 : x.h < x.shr
              ·simp [-q00t, St.enter, enumFrom, subs, setSubs, c1, c7, hf, f1, f2, f3, f4, f5, f8, f9, w1, q01p, g6, g7, he, hl, t1, t2, k2, k3]
              ·simp [-q00t, St.enter, enumFrom, subs, setSubs, c1, c7, hf, f1, f2, f3, f4, f5, f8, f9, w1, q01p, g6, g7, he, hl, t1, t2, k2, k3]
             ·simp [-q00t, St.enter, enumFrom, subs, setSubs, c1, c7, hf, f1, f2, f3, f4, f5, f8, f9, w, q01p, g6, g7, he, hl, t1, t2, k2]
end Go.EnvOf
namespace Go.EnvOf
open Go Go.Eng
end Go.EnvOf
