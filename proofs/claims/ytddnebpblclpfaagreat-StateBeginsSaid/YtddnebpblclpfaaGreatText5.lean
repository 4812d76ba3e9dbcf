/- The program's functions and the document's, evaluated. -/
import Derived.Test.YtddnebpblclpfaaGreatEngAll8
import Derived.Test.YtddnebpblclpfaaGreatText2
import Derived.Test.YtddnebpblclpfaaGreatText3
set_option linter.unusedSimpArgs false
set_option linter.unusedVariables false
/- The layer queue: taking the next floats of each class. -/
namespace Go.EnvOf
open Go Go.Eng
set_option maxRecDepth 100000

theorem okEl_upV : ∀ (es : List Int), (upV (es.map encI)).all (okEl 1) = true
  | [] => rfl
  | x :: r => by simp only [List.map_cons, upV_cons, List.all_cons, okEl_upV r, Bool.and_true]; rfl
/-! ### A class's share -/
def okU (n : Nat) (u w : Int) : Prop := 0 ≤ u ∧ 0 ≤ w ∧ u ≤ n ∧ w ≤ n - u
instance (n : Nat) (u w : Int) : Decidable (okU n u w) := inferInstanceAs (Decidable (_ ∧ _))
/-! ### Taking -/
def okT (l : List Float) (x y : C3) : Prop := okU (figOf 0 0 l).length x.a y.a ∧ okU (figOf 1 0 l).length x.b y.b ∧ okU (figOf 2 0 l).length x.c y.c
instance (l : List Float) (x y : C3) : Decidable (okT l x y) := inferInstanceAs (Decidable (_ ∧ _))
end Go.EnvOf

/- The layer queue: counting what was taken; the next ones. -/
namespace Go.EnvOf
open Go Go.Eng
set_option maxRecDepth 100000
def bump (s : C3) (c : Int) : C3 := if c = 0 then ⟨s.a + 1, s.b, s.c⟩ else if c = 1 then ⟨s.a, s.b + 1, s.c⟩ else if c = 2 then ⟨s.a, s.b, s.c + 1⟩ else s
def ofS (l : List Float) (s : C3) (x : Int) : C3 := match atF l x with | some f => bump s f.c | none => s
/-! ### Equal lists of numbers -/
/-! ### Are these the next ones? -/
end Go.EnvOf

/- Jobs on a grid, by the document. -/
namespace Go.EnvOf
open Go Go.Eng

def rowsG {α : Type} (s : Nat) (enc : α → List PV) (l : List α) : Heap := if l = [] then [] else [.row s (upV (l.map enc))]
@[simp] theorem rowsG_nil {α : Type} (s : Nat) (enc : α → List PV) : rowsG s enc [] = [] := rfl
theorem rowsG_cons {α : Type} (s : Nat) (enc : α → List PV) (x : α) (r : List α) : rowsG s enc (x :: r) = [.row s (upV ((x :: r).map enc))] := rfl
theorem app_acc {α : Type} (env : List (Nat × V)) (loc : List (Nat × List V)) (H : Heap) (base : Nat) (dirty : List Nat) (s : Nat) (enc : α → List PV) (l : List α) (x : α) (hs : (enc x).length = s) (hm : l.length + 1 < most) (hb : base ≤ H.length) :
    appV ⟨env, loc, H ++ rowsG s enc l, base, dirty⟩ (cloneV H.length l) (.p (.sl [enc x])) s = some (cloneV H.length (l ++ [x]), ⟨env, loc, H ++ rowsG s enc (l ++ [x]), base, dirty⟩) := by
  cases l with
  | nil =>
    have hm' : 1 < most := by unfold most; omega
    simp [rowsG_cons, hs, hm']
  | cons y r =>
    have hm' : r.length + 1 + 1 < most := by simpa using hm
    have e : addD base H.length dirty = dirty := by unfold addD; rw [if_neg (by omega)]
    simp [rowsG_cons, hs, hm', hb, upV, okEl, List.all_map]

theorem ritem_ev (x : Item) (s : Int) (hx : okItem x) (hs : I64 s) (H : Heap) : clD EE (.p (.fn 159)) [vItem x, vI s] H = some (vItem (itemG s x), none) := by
  rw [clD_body _ _ _ _ _ _ (noP _) fn159]
  have h1 := rgup_ev x.h s H hx.2.1 hs
  have h2 := rgnear_ev x.h s H hx.2.1 hs
  by_cases k1 : x.k = 1
  · simp [St.enter, enumFrom, subs, setSubs, k1, h1, itemG]
  · by_cases k2 : x.k = 2
    · simp [St.enter, enumFrom, subs, setSubs, k1, k2, h2, itemG]
    · simp [St.enter, enumFrom, subs, setSubs, k1, k2, itemG]

/-! ### The items -/
def rsE (s : Int) (J Z : List V) (t : Nat) (g : Geom) (a b c : V) (H : Heap) (B : Nat) (i : Nat) : St :=
  ⟨[(1, .lptr 1 0), (2, .lptr 2 0), (3, vI s), (4, .lptr 4 0), (t, vI i)], [(1, J), (2, Z), (4, cGeom g ++ [a, b, c])], H, B, []⟩
def rsX (s : Int) (J Z : List V) (t u e : Nat) (g : Geom) (a b c : V) (H : Heap) (B : Nat) (i : Nat) : Ex × St :=
  (.exit e, ⟨[(1, .lptr 1 0), (2, .lptr 2 0), (3, vI s), (4, .lptr 4 0), (t, vI i), (u, .p (.bool false))], [(1, J), (2, Z), (4, cGeom g ++ [a, b, c])], H, B, []⟩)

theorem ritems_lp (j : Job) (ok : okJob j) (hs : I64 j.g.grid) (Z : List V) (g : Geom) (b c : V) (H : Heap) :
    evD EE lp64_0 (rsE j.g.grid (cGeom j.g ++ [vItems j.items, vNotes j.notes, vFloats j.floats]) Z 5 g .nils b c H H.length 0) =
      some (rsX j.g.grid (cGeom j.g ++ [vItems j.items, vNotes j.notes, vFloats j.floats]) Z 5 52 0 g (cloneV H.length (j.items.map (itemG j.g.grid))) b c (H ++ rowsG 7 encItem (j.items.map (itemG j.g.grid))) H.length j.items.length) := by
  unfold lp64_0
  rw [show ∀ a, rsE j.g.grid (cGeom j.g ++ [vItems j.items, vNotes j.notes, vFloats j.floats]) Z 5 g a b c H H.length 0 = rsE j.g.grid (cGeom j.g ++ [vItems j.items, vNotes j.notes, vFloats j.floats]) Z 5 g a b c (H ++ rowsG 7 encItem []) H.length 0 from fun a => by rw [rowsG_nil, List.append_nil]]
  refine Eq.trans (evD_fold j.items (fun (M : List Item) i => rsE j.g.grid (cGeom j.g ++ [vItems j.items, vNotes j.notes, vFloats j.floats]) Z 5 g (cloneV H.length M) b c (H ++ rowsG 7 encItem M) H.length i) (fun M i => M.length = i) (fun M _ x => M ++ [itemG j.g.grid x])
    (fun M => rsX j.g.grid (cGeom j.g ++ [vItems j.items, vNotes j.notes, vFloats j.floats]) Z 5 52 0 g (cloneV H.length M) b c (H ++ rowsG 7 encItem M) H.length j.items.length) (fun _ _ => rfl) ?_ ?_ [] 0 rfl (Nat.zero_le _)) ?_
  · rintro M i x hM hx
    refine ⟨?_, by simp [hM]⟩
    have hlt := (List.getElem?_eq_some_iff.1 hx).1
    have hn := ok.n1
    have w : IntKind.i64.wrap ((i : Int) + 1) = ((i + 1 : Nat) : Int) := w64 (by omega) (by omega)
    have ho := ok.items x (List.mem_of_getElem? hx)
    have hix := fun H k => ixs_nat H encItem (k := k) (s := 7) hx rfl
    have h1 := fun H' => ritem_ev x j.g.grid ho hs H'
    have ha := fun env loc => app_acc env loc H H.length [] 7 encItem M (itemG j.g.grid x) rfl (by unfold most; omega) (Nat.le_refl _)
    simp only [encItem] at ha hix
    simp [-appV_mk, rsE, hlt, hix, subs, setSubs, h1, ha, w]
  · rintro M hM
    simp [rsE, rsX, subs]
  · have : ∀ (l : List Item) (M : List Item) i, fold (fun (M : List Item) _ x => M ++ [itemG j.g.grid x]) M i l = M ++ l.map (itemG j.g.grid) := by
      intro l
      induction l with
      | nil => intro M i; simp [fold]
      | cons x r ih => intro M i; simp [fold, ih]
    simp [this]

theorem fold_snoc {α β : Type} (g : α → β) : ∀ (l : List α) (M : List β) i, fold (fun (M : List β) _ x => M ++ [g x]) M i l = M ++ l.map g
  | [], M, i => by simp [fold]
  | x :: r, M, i => by simp only [fold, fold_snoc g r, List.map_cons, List.append_assoc, List.cons_append, List.nil_append]

/-! ### The floats -/
theorem rfloats_lp (j : Job) (ok : okJob j) (hs : I64 j.g.grid) (Z : List V) (g : Geom) (a b : V) (H : Heap) (B : Nat) (hB : B ≤ H.length) :
    evD EE lp64_3 (rsE j.g.grid (cGeom j.g ++ [vItems j.items, vNotes j.notes, vFloats j.floats]) Z 9 g a b .nils H B 0) =
      some (rsX j.g.grid (cGeom j.g ++ [vItems j.items, vNotes j.notes, vFloats j.floats]) Z 9 118 6 g a b (cloneV H.length (j.floats.map (floatG j.g.grid))) (H ++ rowsG 3 encFloat (j.floats.map (floatG j.g.grid))) B j.floats.length) := by
  unfold lp64_3
  rw [show ∀ c, rsE j.g.grid (cGeom j.g ++ [vItems j.items, vNotes j.notes, vFloats j.floats]) Z 9 g a b c H B 0 = rsE j.g.grid (cGeom j.g ++ [vItems j.items, vNotes j.notes, vFloats j.floats]) Z 9 g a b c (H ++ rowsG 3 encFloat []) B 0 from fun a => by rw [rowsG_nil, List.append_nil]]
  refine Eq.trans (evD_fold j.floats (fun (M : List Float) i => rsE j.g.grid (cGeom j.g ++ [vItems j.items, vNotes j.notes, vFloats j.floats]) Z 9 g a b (cloneV H.length M) (H ++ rowsG 3 encFloat M) B i) (fun M i => M.length = i) (fun M _ x => M ++ [floatG j.g.grid x])
    (fun M => rsX j.g.grid (cGeom j.g ++ [vItems j.items, vNotes j.notes, vFloats j.floats]) Z 9 118 6 g a b (cloneV H.length M) (H ++ rowsG 3 encFloat M) B j.floats.length) (fun _ _ => rfl) ?_ ?_ [] 0 rfl (Nat.zero_le _)) ?_
  · rintro M i x hM hx
    refine ⟨?_, by simp [hM]⟩
    have hlt := (List.getElem?_eq_some_iff.1 hx).1
    have hn := ok.n3
    have w : IntKind.i64.wrap ((i : Int) + 1) = ((i + 1 : Nat) : Int) := w64 (by omega) (by omega)
    have ho := ok.floats x (List.mem_of_getElem? hx)
    have hix := fun H k => ixs_nat H encFloat (k := k) (s := 3) hx rfl
    have h1 := fun H' => rgup_ev x.h j.g.grid H' ho.2.1 hs
    have ha := fun env loc => app_acc env loc H B [] 3 encFloat M (floatG j.g.grid x) rfl (by unfold most; omega) hB
    simp only [encFloat, floatG] at ha hix
    simp [-appV_mk, rsE, hlt, hix, subs, setSubs, h1, ha, w, floatG]
  · rintro M hM
    simp [rsE, rsX, subs]
  · simp [fold_snoc]

/-! ### The notes -/
def rlE (s : Int) (J Z C : List V) (i : Nat) (v : V) (p : V) (H : Heap) (B : Nat) (k : Nat) : St :=
  ⟨[(1, .lptr 1 0), (2, .lptr 2 0), (3, vI s), (4, .lptr 4 0), (6, vI i), (7, .lptr 7 0), (8, vI k)], [(1, J), (2, Z), (4, C), (7, [v, p])], H, B, []⟩
def rlX (s : Int) (J Z C : List V) (i : Nat) (v : V) (p : V) (H : Heap) (B : Nat) (k : Nat) : Ex × St :=
  (.exit 4, ⟨[(1, .lptr 1 0), (2, .lptr 2 0), (3, vI s), (4, .lptr 4 0), (6, vI i), (7, .lptr 7 0), (8, vI k), (89, .p (.bool false))], [(1, J), (2, Z), (4, C), (7, [v, p])], H, B, []⟩)
theorem rlines_lp (j : Job) (ok : okJob j) (hs : I64 j.g.grid) (Z C : List V) (i : Nat) (n : Note) (hi : j.notes[i]? = some n) (p : V) (H : Heap) (B : Nat) (hB : B ≤ H.length) :
    evD EE lp64_1 (rlE j.g.grid (cGeom j.g ++ [vItems j.items, vNotes j.notes, vFloats j.floats]) Z C i .nils p H B 0) =
      some (rlX j.g.grid (cGeom j.g ++ [vItems j.items, vNotes j.notes, vFloats j.floats]) Z C i (cloneV H.length (n.lines.map fun x => upG x j.g.grid)) p (H ++ rowsG 1 encI (n.lines.map fun x => upG x j.g.grid)) B n.lines.length) := by
  unfold lp64_1
  rw [show ∀ v, rlE j.g.grid (cGeom j.g ++ [vItems j.items, vNotes j.notes, vFloats j.floats]) Z C i v p H B 0 = rlE j.g.grid (cGeom j.g ++ [vItems j.items, vNotes j.notes, vFloats j.floats]) Z C i v p (H ++ rowsG 1 encI []) B 0 from fun a => by rw [rowsG_nil, List.append_nil]]
  have hin := (List.getElem?_eq_some_iff.1 hi).1
  have hiy := fun H k => ixs_nat H encNote (k := k) (s := 2) hi rfl
  have on := ok.notes n (List.mem_of_getElem? hi)
  simp only [encNote] at hiy
  refine Eq.trans (evD_fold n.lines (fun (M : List Int) k => rlE j.g.grid (cGeom j.g ++ [vItems j.items, vNotes j.notes, vFloats j.floats]) Z C i (cloneV H.length M) p (H ++ rowsG 1 encI M) B k) (fun M i => M.length = i) (fun M _ x => M ++ [upG x j.g.grid])
    (fun M => rlX j.g.grid (cGeom j.g ++ [vItems j.items, vNotes j.notes, vFloats j.floats]) Z C i (cloneV H.length M) p (H ++ rowsG 1 encI M) B n.lines.length) (fun _ _ => rfl) ?_ ?_ [] 0 rfl (Nat.zero_le _)) ?_
  · rintro M k x hM hx
    refine ⟨?_, by simp [hM]⟩
    have hlt := (List.getElem?_eq_some_iff.1 hx).1
    have w : IntKind.i64.wrap ((k : Int) + 1) = ((k + 1 : Nat) : Int) := w64 (by have := on.2.1; omega) (by have := on.2.1; omega)
    have ho := on.1 x (List.mem_of_getElem? hx)
    have hix := fun H k => ixs_nat H encI (k := k) (s := 1) hx rfl
    have h1 := fun H' => rgup_ev x j.g.grid H' ho hs
    have ha := fun env loc => app_acc env loc H B [] 1 encI M (upG x j.g.grid) rfl (by have := on.2.1; unfold most; omega) hB
    simp only [encI] at ha
    simp only [show ∀ x, encI x = [PV.int .i64 x] from fun _ => rfl] at hix
    simp [-appV_mk, rlE, hlt, hix, hiy, subs, setSubs, h1, ha, w]
  · rintro M hM
    simp [rlE, rlX, subs, hiy]
  · simp [fold_snoc]

def rnH (s : Int) (n : Note) : Heap := rowsG 1 encI (n.lines.map fun x => upG x s)
def lineV {α : Type} (n : Nat) (l : List α) : V := if l = [] then .p (.sl []) else .row n l.length 0 l.length
def rnV (s : Int) (id : Nat) (n : Note) : List V := [lineV id (n.lines.map fun x => upG x s), sli n.pens]
def rnsH (s : Int) : List Note → Heap
  | [] => []
  | n :: r => rnH s n ++ rnsH s r
def rnsV (s : Int) : Nat → List Note → List (List V)
  | _, [] => []
  | id, n :: r => rnV s id n :: rnsV s (id + (rnH s n).length) r
theorem rnsH_app (s : Int) : ∀ a b, rnsH s (a ++ b) = rnsH s a ++ rnsH s b
  | [], b => rfl
  | n :: r, b => by simp only [List.cons_append, rnsH, rnsH_app s r b, List.append_assoc]
theorem rnsV_app (s : Int) : ∀ a id b, rnsV s id (a ++ b) = rnsV s id a ++ rnsV s (id + (rnsH s a).length) b
  | [], id, b => by simp [rnsV, rnsH]
  | n :: r, id, b => by simp only [List.cons_append, rnsV, rnsH, rnsV_app s r, List.length_append, Nat.add_assoc]
theorem rnsV_len (s : Int) : ∀ l id, (rnsV s id l).length = l.length
  | [], _ => rfl
  | n :: r, id => by simp only [rnsV, List.length_cons, rnsV_len s r]

def rnHp (s : Int) (n : Note) (r : List Note) (G : Heap) : Heap := G ++ (rnH s n ++ .row 2 (rnV s G.length n :: rnsV s (G.length + (rnH s n).length + 1) r) :: rnsH s r)
theorem rnotes_lp1 (j : Job) (ok : okJob j) (hs : I64 j.g.grid) (Z : List V) (g : Geom) (a c : V) (G : Heap) (B : Nat) (hB : B ≤ G.length) (n : Note) (r : List Note) (hj : j.notes = n :: r) :
    evD EE lp64_2 (rsE j.g.grid (cGeom j.g ++ [vItems j.items, vNotes j.notes, vFloats j.floats]) Z 6 g a (.row (G.length + (rnH j.g.grid n).length) 1 0 1) c (rnHp j.g.grid n [] G) B 1) =
      some (rsX j.g.grid (cGeom j.g ++ [vItems j.items, vNotes j.notes, vFloats j.floats]) Z 6 71 2 g a (.row (G.length + (rnH j.g.grid n).length) (r.length + 1) 0 (r.length + 1)) c (rnHp j.g.grid n r G) B (r.length + 1)) := by
  unfold lp64_2
  refine evD_fold r (fun (_ : Unit) i => rsE j.g.grid (cGeom j.g ++ [vItems j.items, vNotes j.notes, vFloats j.floats]) Z 6 g a (.row (G.length + (rnH j.g.grid n).length) (i + 1) 0 (i + 1)) c (rnHp j.g.grid n (r.take i) G) B (i + 1)) (fun _ _ => True) (fun _ _ _ => ())
    (fun _ => rsX j.g.grid (cGeom j.g ++ [vItems j.items, vNotes j.notes, vFloats j.floats]) Z 6 71 2 g a (.row (G.length + (rnH j.g.grid n).length) (r.length + 1) 0 (r.length + 1)) c (rnHp j.g.grid n r G) B (r.length + 1)) (fun _ _ => rfl) ?_ ?_ () 0 trivial (Nat.zero_le _)
  · rintro _ i x - hx
    refine ⟨?_, trivial⟩
    have hlt := (List.getElem?_eq_some_iff.1 hx).1
    have hx' : j.notes[i + 1]? = some x := by rw [hj]; simpa using hx
    have hn := ok.n2
    have hl : j.notes.length = r.length + 1 := by rw [hj]; rfl
    have hlt' : i + 1 < j.notes.length := by omega
    have w : IntKind.i64.wrap (((i + 1 : Nat) : Int) + 1) = ((i + 1 + 1 : Nat) : Int) := w64 (by omega) (by omega)
    have hix := fun H k => ixs_nat H encNote (k := k) (s := 2) hx' rfl
    have e : r.take (i + 1) = r.take i ++ [x] := by rw [List.take_add_one, hx]; rfl
    have hA := rnsV_len j.g.grid (r.take i) (G.length + (rnH j.g.grid n).length + 1)
    rw [List.length_take, Nat.min_eq_left (Nat.le_of_lt hlt)] at hA
    have key := fun C => rlines_lp j ok hs Z C (i + 1) x hx' (sli x.pens) (rnHp j.g.grid n (r.take i) G) B (by unfold rnHp; simp; omega)
    have hm : i + 1 + 1 < most := by unfold most; omega
    have e1 : rnHp j.g.grid n (r.take (i + 1)) G = G ++ (rnH j.g.grid n ++ .row 2 (rnV j.g.grid G.length n :: (rnsV j.g.grid (G.length + (rnH j.g.grid n).length + 1) (r.take i) ++ [rnV j.g.grid (G.length + (rnH j.g.grid n).length + 1 + (rnsH j.g.grid (r.take i)).length) x])) :: (rnsH j.g.grid (r.take i) ++ rnH j.g.grid x)) := by
      unfold rnHp; rw [e, rnsV_app, rnsH_app]; simp [rnsV, rnsH]
    rw [e1]
    unfold rnHp at key ⊢
    generalize rnsV j.g.grid (G.length + (rnH j.g.grid n).length + 1) (r.take i) = A at *
    generalize rnsH j.g.grid (r.take i) = T at *
    generalize rnH j.g.grid n = F at *
    generalize rnV j.g.grid G.length n = v0 at *
    have hrow : ∀ es U, Eng.rowAt (G ++ (F ++ DObj.row 2 es :: U)) (G.length + F.length) = some (2, es) := fun es U => by simp
    have hset : ∀ es fs U, (G ++ (F ++ DObj.row 2 es :: U)).set (G.length + F.length) (.row 2 fs) = G ++ (F ++ DObj.row 2 fs :: U) := fun es fs U => by simp
    have hbl : ¬ G.length + F.length < B := by omega
    have hlt2 : (i : Int) + 1 < j.notes.length := by omega
    simp only [encNote] at hix
    simp only [Int.natCast_add, Int.natCast_one] at hix w
    cases hL : x.lines with
    | nil =>
      have key' := key (cGeom g ++ [a, .row (G.length + F.length) (i + 1) 0 (i + 1), c])
      simp [rlE, rlX, hL] at key'
      simp [-rowAt_app, -set_app, rsE, hlt2, hix, subs, setSubs, key', hrow, hset, hA, hm, hbl, rnV, rnH, lineV, hL, w, upV, okEl]
    | cons y q =>
      have key' := key (cGeom g ++ [a, .row (G.length + F.length) (i + 1) 0 (i + 1), c])
      simp [rlE, rlX, hL, rowsG_cons] at key'
      simp [-rowAt_app, -set_app, rsE, hlt2, hix, subs, setSubs, key', hrow, hset, hA, hm, hbl, rnV, rnH, lineV, hL, w, upV, okEl, rowsG_cons]
      omega
  · rintro _ -
    have hl : j.notes.length = r.length + 1 := by rw [hj]; rfl
    refine ⟨?_, by simp [rsX]⟩
    simp [rsE, rsX, subs, hl]

def rnHq (s : Int) (l : List Note) (G : Heap) : Heap := match l with | [] => G | n :: r => rnHp s n r G
def rnVq (s : Int) (l : List Note) (G : Heap) : V := match l with | [] => .nils | n :: r => .row (G.length + (rnH s n).length) (r.length + 1) 0 (r.length + 1)
theorem rnotes_lp (j : Job) (ok : okJob j) (hs : I64 j.g.grid) (Z : List V) (g : Geom) (a c : V) (G : Heap) (B : Nat) (hB : B ≤ G.length) :
    evD EE lp64_2 (rsE j.g.grid (cGeom j.g ++ [vItems j.items, vNotes j.notes, vFloats j.floats]) Z 6 g a .nils c G B 0) =
      some (rsX j.g.grid (cGeom j.g ++ [vItems j.items, vNotes j.notes, vFloats j.floats]) Z 6 71 2 g a (rnVq j.g.grid j.notes G) c (rnHq j.g.grid j.notes G) B j.notes.length) := by
  cases hj : j.notes with
  | nil =>
    unfold lp64_2
    rw [evD_loop]
    simp [rsE, rsX, subs, rnHq, rnVq]
  | cons n r =>
    have k1 := rnotes_lp1 j ok hs Z g a c G B hB n r hj
    have hx' : j.notes[0]? = some n := by rw [hj]; rfl
    have hix := fun H k => ixs_nat H encNote (k := k) (s := 2) hx' rfl
    have key := rlines_lp j ok hs Z (cGeom g ++ [a, .nils, c]) 0 n hx' (sli n.pens) G B hB
    have w : IntKind.i64.wrap 1 = 1 := w64 (by omega) (by omega)
    have hm : 1 < most := by unfold most; omega
    have hlt : 0 < j.notes.length := by rw [hj]; exact Nat.zero_lt_succ _
    simp only [encNote, Int.natCast_zero] at hix
    rw [← hj]
    refine Eq.trans ?_ (k1.trans (by rw [hj]; rfl))
    conv => lhs; unfold lp64_2
    rw [evD_loop]
    cases hL : n.lines with
    | nil =>
      simp [rlE, rlX, hL] at key
      simp [rsE, rsX, hix, subs, setSubs, hlt, key, hm, rnHp, rnV, rnH, rnsV, rnsH, lineV, hL, w, upV, okEl]
      rfl
    | cons y q =>
      simp [rlE, rlX, hL, rowsG_cons] at key
      simp [rsE, rsX, hix, subs, setSubs, hlt, key, hm, rnHp, rnV, rnH, rnsV, rnsH, lineV, hL, w, upV, okEl, rowsG_cons]
      rfl

/-! ### All of it -/
theorem freeze_clone {α : Type} (env : List (Nat × V)) (loc : List (Nat × List V)) (hp : Heap) (base : Nat) (dirty : List Nat) (id s : Nat) (enc : α → List PV) (l : List α) (h : Eng.rowAt hp id = some (s, upV (l.map enc)) ∨ l = []) (hb : base ≤ id) :
    Eng.freeze ⟨env, loc, hp, base, dirty⟩ (cloneV id l) = some (.p (.sl (l.map enc))) := by
  rcases h with h | h
  · cases l with
    | nil => rfl
    | cons x r => rw [cloneV_cons]; simp [hb, h]
  · subst h; rfl
theorem rowsG_at {α : Type} (s : Nat) (enc : α → List PV) (H U : Heap) (l : List α) : Eng.rowAt (H ++ (rowsG s enc l ++ U)) H.length = some (s, upV (l.map enc)) ∨ l = [] := by
  cases l with
  | nil => exact .inr rfl
  | cons x r => left; simp [rowsG_cons]
theorem frz_line (base id : Nat) (G : Heap) (d : Nat) (L : List Int) (h : Eng.rowAt G id = some (1, upV (L.map encI)) ∨ L = []) (hb : base ≤ id) : frz base G (d + 1) (lineV id L) = some (.sl (L.map encI)) := by
  cases L with
  | nil => rfl
  | cons x r =>
    rcases h with h | h
    · unfold lineV; rw [if_neg (by simp), frz_row, if_pos hb, h, frzK_upV]; simp
    · cases h
theorem frz_rn (s : Int) (base : Nat) : ∀ (l : List Note) (H0 U : Heap), base ≤ H0.length → allO (allO (frz base (H0 ++ (rnsH s l ++ U)) 2)) (rnsV s H0.length l) = some (l.map fun n => encNote (noteG s n))
  | [], _, _, _ => rfl
  | n :: r, H0, U, hb => by
    have ih := frz_rn s base r (H0 ++ rnH s n) U (by simp; omega)
    rw [List.append_assoc, List.length_append] at ih
    have f1 := frz_line base H0.length (H0 ++ (rnH s n ++ (rnsH s r ++ U))) 1 (n.lines.map fun x => upG x s) (rowsG_at 1 encI H0 _ _) hb
    simp only [rnsH, rnsV, rnV, List.append_assoc, allO, f1, ih, List.map_cons]
    rfl
theorem freeze_rn (env : List (Nat × V)) (loc : List (Nat × List V)) (base : Nat) (dirty : List Nat) (s : Int) (l : List Note) (G U : Heap) (hb : base ≤ G.length) :
    Eng.freeze ⟨env, loc, rnHq s l G ++ U, base, dirty⟩ (rnVq s l G) = some (.p (.sl ((l.map (noteG s)).map encNote))) := by
  cases l with
  | nil => rfl
  | cons n r =>
    have h1 := frz_line base G.length (rnHq s (n :: r) G ++ U) 1 (n.lines.map fun x => upG x s) (by
      have := rowsG_at 1 encI G (DObj.row 2 (rnV s G.length n :: rnsV s (G.length + (rnH s n).length + 1) r) :: (rnsH s r ++ U)) (n.lines.map fun x => upG x s)
      simpa [rnHq, rnHp, rnH] using this) hb
    have h2 := frz_rn s base r (G ++ (rnH s n ++ [DObj.row 2 (rnV s G.length n :: rnsV s (G.length + (rnH s n).length + 1) r)])) U (by simp; omega)
    have e1 : rnHq s (n :: r) G ++ U = G ++ (rnH s n ++ [DObj.row 2 (rnV s G.length n :: rnsV s (G.length + (rnH s n).length + 1) r)]) ++ (rnsH s r ++ U) := by simp [rnHq, rnHp]
    have e2 : (G ++ (rnH s n ++ [DObj.row 2 (rnV s G.length n :: rnsV s (G.length + (rnH s n).length + 1) r)])).length = G.length + (rnH s n).length + 1 := by simp; omega
    rw [e2, ← e1] at h2
    have h3 : Eng.rowAt (rnHq s (n :: r) G ++ U) (G.length + (rnH s n).length) = some (2, rnV s G.length n :: rnsV s (G.length + (rnH s n).length + 1) r) := by simp [rnHq, rnHp]
    have hl := rnsV_len s r (G.length + (rnH s n).length + 1)
    have hb2 : base ≤ G.length + (rnH s n).length := by omega
    unfold rnVq
    simp only [freeze_rowK, h3, hb2, if_true, frzK, List.length_cons, hl, List.drop_zero]
    rw [List.take_of_length_le (by simp [hl])]
    simp only [allO, rnV] at h1 h2 ⊢
    rw [h1, h2]
    have e5 : (r.map (noteG s)).map encNote = r.map fun n => encNote (noteG s n) := by rw [List.map_map]; rfl
    rw [List.map_cons, List.map_cons, e5]
    rfl
@[simp] theorem oneB_rnVq (s : Int) (l : List Note) (G : Heap) : (rnVq s l G).oneB = true := by cases l <;> rfl
@[simp] theorem cells_rnVq (s : Int) (l : List Note) (G : Heap) : (rnVq s l G).cells = [rnVq s l G] := by cases l <;> rfl
theorem rnHq_len (s : Int) (l : List Note) (G : Heap) : G.length ≤ (rnHq s l G).length := by
  cases l with
  | nil => exact Nat.le_refl _
  | cons n r => simp [rnHq, rnHp]
theorem rnHq_at (s : Int) (l : List Note) (G U : Heap) (i : Nat) (h : i < G.length) : Eng.rowAt (rnHq s l G ++ U) i = Eng.rowAt G i := by
  cases l with
  | nil => exact rowAt_app_lt U h
  | cons n r => simp only [rnHq, rnHp, List.append_assoc]; exact rowAt_app_lt _ h
theorem rsnap_ev (j : Job) (ok : okJob j) (H : Heap) : clD EE (.p (.fn 64)) [vJob j] H = some (vJob (snapG j), none) := by
  rw [clD_body _ _ _ _ _ _ (noP _) fn64]
  have hg := ok.g
  simp only [okGeom] at hg
  by_cases c : j.g.grid < 1
  · simp [St.enter, enumFrom, subs, setSubs, c, snapG]
  · have i1 := fun H' => rgdown_ev j.g.high j.g.grid H' hg.2.2.2.1 hg.2.2.2.2.2.1
    have i2 := fun H' => rgdown_ev j.g.first j.g.grid H' hg.2.2.2.2.1 hg.2.2.2.2.2.1
    have i3 := fun H' => rgup_ev j.g.rule j.g.grid H' hg.2.2.2.2.2.2.1 hg.2.2.2.2.2.1
    have i4 := fun H' => rgup_ev j.g.sep j.g.grid H' hg.2.2.2.2.2.2.2.1 hg.2.2.2.2.2.1
    have k1 := fun Z => ritems_lp j ok hg.2.2.2.2.2.1 Z (geomG j.g) .nils .nils H
    have k2 := fun Z => rnotes_lp j ok hg.2.2.2.2.2.1 Z (geomG j.g) (cloneV H.length (j.items.map (itemG j.g.grid))) .nils (H ++ rowsG 7 encItem (j.items.map (itemG j.g.grid))) H.length (by simp)
    obtain ⟨G, hG⟩ : ∃ G, G = H ++ rowsG 7 encItem (j.items.map (itemG j.g.grid)) := ⟨_, rfl⟩
    rw [← hG] at k1 k2
    have k3 := fun Z => rfloats_lp j ok hg.2.2.2.2.2.1 Z (geomG j.g) (cloneV H.length (j.items.map (itemG j.g.grid))) (rnVq j.g.grid j.notes G) (rnHq j.g.grid j.notes G) H.length (by
      have := rnHq_len j.g.grid j.notes G
      have : H.length ≤ G.length := by rw [hG]; simp
      omega)
    have f1 := fun env loc => freeze_clone env loc (rnHq j.g.grid j.notes G ++ rowsG 3 encFloat (j.floats.map (floatG j.g.grid))) H.length [] H.length 7 encItem (j.items.map (itemG j.g.grid)) (by
      cases hI : j.items.map (itemG j.g.grid) with
      | nil => exact .inr rfl
      | cons x r => left; rw [rnHq_at _ _ _ _ _ (by rw [hG, hI]; simp [rowsG_cons]), hG, hI]; simp [rowsG_cons]) (Nat.le_refl _)
    have f2 := fun env loc => freeze_rn env loc H.length [] j.g.grid j.notes G (rowsG 3 encFloat (j.floats.map (floatG j.g.grid))) (by rw [hG]; simp)
    have f3 := fun env loc => freeze_clone env loc (rnHq j.g.grid j.notes G ++ rowsG 3 encFloat (j.floats.map (floatG j.g.grid))) H.length [] (rnHq j.g.grid j.notes G).length 3 encFloat (j.floats.map (floatG j.g.grid)) (by
      have := rowsG_at 3 encFloat (rnHq j.g.grid j.notes G) [] (j.floats.map (floatG j.g.grid))
      simpa using this) (by
      have := rnHq_len j.g.grid j.notes G
      have : H.length ≤ G.length := by rw [hG]; simp
      omega)
    have hj : snapG j = ⟨geomG j.g, j.items.map (itemG j.g.grid), j.notes.map (noteG j.g.grid), j.floats.map (floatG j.g.grid)⟩ := if_neg c
    rw [hj]
    simp only [rsE, rsX, geomG] at k1 k2 k3
    generalize hu1 : cloneV H.length (j.items.map (itemG j.g.grid)) = u1 at *
    generalize hu2 : rnVq j.g.grid j.notes G = u2 at *
    generalize hu3 : cloneV (rnHq j.g.grid j.notes G).length (j.floats.map (floatG j.g.grid)) = u3 at *
    have o1 : u1.oneB = true := by rw [← hu1]; simp
    have o2 : u2.oneB = true := by rw [← hu2]; simp
    have o3 : u3.oneB = true := by rw [← hu3]; simp
    have p1 : u1.cells = [u1] := by rw [← hu1]; simp
    have p2 : u2.cells = [u2] := by rw [← hu2]; simp
    have p3 : u3.cells = [u3] := by rw [← hu3]; simp
    clear hu1 hu2 hu3
    generalize rnHq j.g.grid j.notes G ++ rowsG 3 encFloat (j.floats.map (floatG j.g.grid)) = G3 at *
    simp at k1 k2 k3 f1 f2 f3
    simp [St.enter, enumFrom, subs, setSubs, c, i1, i2, i3, i4, k1, k2, k3, f1, f2, f3, o1, o2, o3, geomG]
end Go.EnvOf
