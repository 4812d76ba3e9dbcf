/- Jobs that are more than is gone through. -/
import Derived.Test.YtfjgcfloallohaaGen
import Derived.Test.YtfjgcfloallohaaTypes
namespace Go.EnvOf
open Go Go.Eng

structure small (j : Job) : Prop where
  items : j.items.length ≤ 100
  notes : j.notes.length ≤ 100
  floats : j.floats.length ≤ 100
  each : ∀ n ∈ j.notes, n.lines.length ≤ 100 ∧ n.pens.length ≤ 100
def bigNote (n : Note) : Bool := decide (100 < (n.lines.length : Int)) || decide (100 < (n.pens.length : Int))
def largeF (j : Job) : Bool := (j.notes.take 100).any bigNote || decide (100 < (j.items.length : Int)) || decide (100 < (j.notes.length : Int)) || decide (100 < (j.floats.length : Int))
theorem small_of {j : Job} (h : largeF j = false) : small j := by
  unfold largeF at h
  simp only [Bool.or_eq_false_iff, decide_eq_false_iff_not] at h
  obtain ⟨⟨⟨h1, h2⟩, h3⟩, h4⟩ := h
  have hl : j.notes.length ≤ 100 := by omega
  rw [List.take_of_length_le hl] at h1
  refine ⟨by omega, hl, by omega, fun n hn => ?_⟩
  have := List.any_eq_false.1 h1 n hn
  simp [bigNote] at this
  omega
def lgE (j : Job) (H : Heap) (i : Nat) : St := ⟨[(1, .lptr 1 0), (3, vI i)], [(1, cGeom j.g ++ [vItems j.items, vNotes j.notes, vFloats j.floats])], H, H.length, []⟩
def lgX (j : Job) (H : Heap) (i : Nat) : Ex × St := (.exit 0, ⟨[(1, .lptr 1 0), (3, vI i), (12, vB false)], [(1, cGeom j.g ++ [vItems j.items, vNotes j.notes, vFloats j.floats])], H, H.length, []⟩)
def lgB (H : Heap) : Ex × St := (.ret, ⟨[(2, vB true)], [], H, H.length, []⟩)
theorem large_lp (j : Job) (H : Heap) : evD EE lp44_0 (lgE j H 0) = some (if (j.notes.take 100).any bigNote = true then lgB H else lgX j H (min 100 j.notes.length)) := by
  unfold lp44_0
  refine Eq.trans (evD_rng (j.notes.take 100) (fun (_ : Unit) i => lgE j H i) (fun _ _ => True) (stepB bigNote (lgB H)) (fun _ => lgX j H (min 100 j.notes.length)) (fun _ _ => rfl) ?_ ?_ () 0 trivial (Nat.zero_le _)) (by rw [rng_any]; rfl)
  · rintro _ i x - hx
    have hlt := (List.getElem?_eq_some_iff.1 hx).1
    rw [List.length_take] at hlt
    have hx' : j.notes[i]? = some x := by rw [List.getElem?_take] at hx; split at hx <;> simp_all
    have hl1 : i < j.notes.length := by omega
    have hl2 : (i : Int) < 100 := by omega
    have w1 : IntKind.i64.wrap ((i : Int) + 1) = ((i + 1 : Nat) : Int) := w64 (by omega) (by omega)
    have hix := fun H k => ixs_nat H encNote (k := k) (s := 2) hx' rfl
    simp only [encNote] at hix
    by_cases a : 100 < (x.lines.length : Int)
    · simp [stepB, bigNote, lgE, lgB, hl1, hl2, hix, subs, a]
    · by_cases b : 100 < (x.pens.length : Int)
      · simp [stepB, bigNote, lgE, lgB, hl1, hl2, hix, subs, a, b]
      · simp [stepB, bigNote, lgE, hl1, hl2, hix, subs, a, b, w1]
  · rintro _ -
    refine ⟨?_, by simp [lgX]⟩
    rw [List.length_take]
    by_cases h : j.notes.length ≤ 100
    · have e : min 100 j.notes.length = j.notes.length := by omega
      rw [e]
      simp [lgE, lgX, subs]
    · have e : min 100 j.notes.length = 100 := by omega
      have h2 : (100 : Int) < j.notes.length := by omega
      rw [e]
      simp [lgE, lgX, subs, h2]
theorem large_ev (j : Job) (H : Heap) : clD EE (.p (.fn 44)) [vJob j] H = some (vB (largeF j), none) := by
  rw [clD_body _ _ _ _ _ _ (noP _) fn44]
  have k0 := large_lp j H
  unfold largeF
  simp only [lgE, lgX, lgB] at k0
  cases b : (j.notes.take 100).any bigNote with
  | true =>
    rw [b, if_pos rfl] at k0
    simp at k0
    simp [St.enter, enumFrom, subs, k0]
  | false =>
    rw [b, if_neg (by simp)] at k0
    simp at k0
    by_cases a1 : 100 < (j.items.length : Int)
    · simp [St.enter, enumFrom, subs, k0, a1]
    · by_cases a2 : 100 < (j.notes.length : Int)
      · simp [St.enter, enumFrom, subs, k0, a1, a2]
      · simp [St.enter, enumFrom, subs, k0, a1, a2]
end Go.EnvOf
