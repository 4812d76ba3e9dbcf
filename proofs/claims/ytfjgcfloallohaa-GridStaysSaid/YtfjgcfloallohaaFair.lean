/- Jobs whose lengths may be. -/
import Derived.Test.YtfjgcfloallohaaLarge
import Derived.Test.YtfjgcfloallohaaSp
namespace Go.EnvOf
open Go Go.Eng

def fairN (x : Int) : Bool := decide (0 ≤ x) && decide (x ≤ 1073741823)
def lensOf (j : Job) : List Int := [j.g.grid, j.g.high, j.g.first, j.g.rule, j.g.sep] ++ j.items.map (·.h) ++ j.notes.flatMap (·.lines) ++ j.floats.map (·.h)
def fairF (j : Job) : Bool := !((lensOf j).any fun x => !fairN x)

def faE (v : V) (H : Heap) (i : Nat) : St := ⟨[(0, v), (3, vI i)], [], H, H.length, []⟩
def faX (v : V) (H : Heap) (n : Nat) : Ex × St := (.exit 0, ⟨[(0, v), (3, vI n), (7, vB false)], [], H, H.length, []⟩)
def faB (H : Heap) : Ex × St := (.ret, ⟨[(2, vB false)], [], H, H.length, []⟩)
theorem fair_ev (l : List Int) (hn : l.length ≤ 1000000) (id : Nat) (H : Heap) (hr : Eng.rowAt H id = some (1, upV (l.map encI))) : clD EE (.p (.fn 100)) [.row id l.length 0 l.length] H = some (vB (!(l.any fun x => !fairN x)), none) := by
  rw [clD_body _ _ _ _ _ _ (noP _) fn100]
  have key : evD EE lp100_0 (faE (.row id l.length 0 l.length) H 0) = some (if (l.any fun x => !fairN x) = true then faB H else faX (.row id l.length 0 l.length) H l.length) := by
    unfold lp100_0
    refine Eq.trans (evD_rng l (fun (_ : Unit) i => faE (.row id l.length 0 l.length) H i) (fun _ _ => True) (stepB (fun x => !fairN x) (faB H)) (fun _ => faX (.row id l.length 0 l.length) H l.length) (fun _ _ => rfl) ?_ ?_ () 0 trivial (Nat.zero_le _)) (by rw [rng_any]; rfl)
    · rintro _ i x - hx
      have hlt := (List.getElem?_eq_some_iff.1 hx).1
      have w1 : IntKind.i64.wrap ((i : Int) + 1) = ((i + 1 : Nat) : Int) := w64 (by omega) (by omega)
      have hu : (upV (l.map encI))[i]? = some [vI x] := by simp [upV, hx, encI]
      by_cases a : x < 0
      · have e : fairN x = false := by simp [fairN]; omega
        simp [-getElem?_pos, stepB, e, faE, faB, hlt, ixs_row, hr, hu, subs, a]
      · by_cases b : 1073741823 < x
        · have e : fairN x = false := by simp [fairN]; omega
          simp [-getElem?_pos, stepB, e, faE, faB, hlt, ixs_row, hr, hu, subs, a, b]
        · have e : fairN x = true := by simp [fairN]; omega
          simp [-getElem?_pos, stepB, e, faE, hlt, ixs_row, hr, hu, subs, a, b, w1]
    · rintro _ -
      simp [faE, faX]
  cases b : l.any fun x => !fairN x with
  | true =>
    rw [b, if_pos rfl] at key
    simp [faE, faB] at key
    simp [St.enter, enumFrom, key]
  | false =>
    rw [b, if_neg (by simp)] at key
    simp [faE, faX] at key
    simp [St.enter, enumFrom, key]

def frE (j : Job) (H : Heap) (t : Nat) (M : List Int) (i : Nat) : St := ⟨[(1, .lptr 1 0), (3, .row H.length M.length 0 M.length), (t, vI i)], [(1, cGeom j.g ++ [vItems j.items, vNotes j.notes, vFloats j.floats])], H ++ [.row 1 (upV (M.map encI))], H.length, []⟩
def frX (j : Job) (H : Heap) (t x e : Nat) (n : Nat) (M : List Int) : Ex × St := (.exit e, ⟨[(1, .lptr 1 0), (3, .row H.length M.length 0 M.length), (t, vI n), (x, vB false)], [(1, cGeom j.g ++ [vItems j.items, vNotes j.notes, vFloats j.floats])], H ++ [.row 1 (upV (M.map encI))], H.length, []⟩)
theorem fold_snocI {α : Type} (g : α → Int) : ∀ (l : List α) (M : List Int) i, fold (fun (M : List Int) _ x => M ++ [g x]) M i l = M ++ l.map g
  | [], M, i => by simp [fold]
  | x :: r, M, i => by simp only [fold, fold_snocI g r, List.map_cons, List.append_assoc, List.cons_append, List.nil_append]
theorem fold_flat {α : Type} (g : α → List Int) : ∀ (l : List α) (M : List Int) i, fold (fun (M : List Int) _ x => M ++ g x) M i l = M ++ l.flatMap g
  | [], M, i => by simp [fold]
  | x :: r, M, i => by simp only [fold, fold_flat g r, List.flatMap_cons, List.append_assoc]
theorem fr_lp0 (j : Job) (s : small j) (H : Heap) (M : List Int) (hM : M.length ≤ 100000) : evD EE lp47_0 (frE j H 4 M 0) = some (frX j H 4 27 0 j.items.length (M ++ j.items.map (·.h))) := by
  unfold lp47_0
  refine Eq.trans (evD_fold j.items (frE j H 4) (fun M i => M.length ≤ 100000 + i) (fun (M : List Int) _ x => M ++ [x.h]) (frX j H 4 27 0 j.items.length) (fun _ _ => rfl) ?_ ?_ M 0 (by omega) (Nat.zero_le _)) (by rw [fold_snocI]; rfl)
  · rintro M i x hM hx
    refine ⟨?_, by simp; omega⟩
    have hlt := (List.getElem?_eq_some_iff.1 hx).1
    have := s.items
    have w1 : IntKind.i64.wrap ((i : Int) + 1) = ((i + 1 : Nat) : Int) := w64 (by omega) (by omega)
    have hix := fun H k => ixs_nat H encItem (k := k) (s := 7) hx rfl
    have hm : M.length + 1 < most := by unfold most; omega
    simp only [encItem] at hix
    simp [frE, hlt, hix, subs, hm, w1, encI, upV, okEl]
  · rintro M hM
    simp [frE, frX, subs]
theorem fr_lp1 (j : Job) (s : small j) (H : Heap) (M : List Int) (hM : M.length ≤ 200000) : evD EE lp47_1 (frE j H 5 M 0) = some (frX j H 5 43 2 j.notes.length (M ++ j.notes.flatMap (·.lines))) := by
  unfold lp47_1
  refine Eq.trans (evD_fold j.notes (frE j H 5) (fun M i => M.length ≤ 200000 + 100 * i) (fun (M : List Int) _ x => M ++ x.lines) (frX j H 5 43 2 j.notes.length) (fun _ _ => rfl) ?_ ?_ M 0 (by omega) (Nat.zero_le _)) (by rw [fold_flat]; rfl)
  · rintro M i x hM hx
    have := s.notes
    have hs := s.each x (List.mem_of_getElem? hx)
    refine ⟨?_, by simp; omega⟩
    have hlt := (List.getElem?_eq_some_iff.1 hx).1
    have w1 : IntKind.i64.wrap ((i : Int) + 1) = ((i + 1 : Nat) : Int) := w64 (by omega) (by omega)
    have hix := fun H k => ixs_nat H encNote (k := k) (s := 2) hx rfl
    have hm : M.length + x.lines.length < most := by unfold most; omega
    have ho : (x.lines.map encI).all (fun e => e.length == 1) = true := by simp
    simp only [encNote] at hix
    simp [-List.all_eq_true, frE, hlt, hix, subs, hm, w1, ho]
  · rintro M hM
    simp [frE, frX, subs]
theorem fr_lp2 (j : Job) (s : small j) (H : Heap) (M : List Int) (hM : M.length ≤ 300000) : evD EE lp47_2 (frE j H 6 M 0) = some (frX j H 6 58 4 j.floats.length (M ++ j.floats.map (·.h))) := by
  unfold lp47_2
  refine Eq.trans (evD_fold j.floats (frE j H 6) (fun M i => M.length ≤ 300000 + i) (fun (M : List Int) _ x => M ++ [x.h]) (frX j H 6 58 4 j.floats.length) (fun _ _ => rfl) ?_ ?_ M 0 (by omega) (Nat.zero_le _)) (by rw [fold_snocI]; rfl)
  · rintro M i x hM hx
    refine ⟨?_, by simp; omega⟩
    have hlt := (List.getElem?_eq_some_iff.1 hx).1
    have := s.floats
    have w1 : IntKind.i64.wrap ((i : Int) + 1) = ((i + 1 : Nat) : Int) := w64 (by omega) (by omega)
    have hix := fun H k => ixs_nat H encFloat (k := k) (s := 3) hx rfl
    have hm : M.length + 1 < most := by unfold most; omega
    simp only [encFloat] at hix
    simp [frE, hlt, hix, subs, hm, w1, encI, upV, okEl]
  · rintro M hM
    simp [frE, frX, subs]
theorem flat_len (l : List Note) (h : ∀ n ∈ l, n.lines.length ≤ 100) : (l.flatMap (·.lines)).length ≤ 100 * l.length := by
  induction l with
  | nil => simp
  | cons n r ih =>
    have h1 := h n List.mem_cons_self
    have h2 := ih fun m hm => h m (List.mem_cons_of_mem _ hm)
    simp only [List.flatMap_cons, List.length_append, List.length_cons]; omega
theorem fairJ_ev (j : Job) (s : small j) (H : Heap) : clD EE (.p (.fn 47)) [vJob j] H = some (vB (fairF j), none) := by
  rw [clD_body _ _ _ _ _ _ (noP _) fn47]
  have hf := flat_len j.notes (fun n hn => (s.each n hn).1)
  have h1 := s.items
  have h2 := s.notes
  have h3 := s.floats
  have k0 := fr_lp0 j s H [j.g.grid, j.g.high, j.g.first, j.g.rule, j.g.sep] (by simp)
  have k1 := fr_lp1 j s H ([j.g.grid, j.g.high, j.g.first, j.g.rule, j.g.sep] ++ j.items.map (·.h)) (by simp; omega)
  have k2 := fr_lp2 j s H ([j.g.grid, j.g.high, j.g.first, j.g.rule, j.g.sep] ++ j.items.map (·.h) ++ j.notes.flatMap (·.lines)) (by simp only [List.length_append, List.length_cons, List.length_nil, List.length_map]; omega)
  have e : [j.g.grid, j.g.high, j.g.first, j.g.rule, j.g.sep] ++ j.items.map (·.h) ++ j.notes.flatMap (·.lines) ++ j.floats.map (·.h) = lensOf j := rfl
  have e5 : ([j.g.grid, j.g.high, j.g.first, j.g.rule, j.g.sep] : List Int).length = 5 := rfl
  have hl : (lensOf j).length ≤ 1000000 := by
    rw [← e]; simp only [List.length_append, List.length_cons, List.length_nil, List.length_map]; omega
  rw [e] at k2
  have k3 := fair_ev (lensOf j) hl H.length (H ++ [.row 1 (upV ((lensOf j).map encI))]) (by simp)
  unfold fairF
  generalize lensOf j = L at *
  generalize [j.g.grid, j.g.high, j.g.first, j.g.rule, j.g.sep] ++ j.items.map (·.h) ++ j.notes.flatMap (·.lines) = L2 at *
  simp only [frE, frX, e5] at k0 k1 k2
  generalize hL1 : [j.g.grid, j.g.high, j.g.first, j.g.rule, j.g.sep] ++ j.items.map (·.h) = L1 at *
  have hu0 : upV ([j.g.grid, j.g.high, j.g.first, j.g.rule, j.g.sep].map encI) = [[vI j.g.grid], [vI j.g.high], [vI j.g.first], [vI j.g.rule], [vI j.g.sep]] := rfl
  simp only [hu0] at k0
  simp at k0 k1 k2 k3
  simp [St.enter, enumFrom, subs, rowI, okEl, k0, k1, k2, k3]
end Go.EnvOf
