/- The law GridSnaps, evaluated. -/
import Derived.Test.YtfjgcfloallohaaRSnap
import Derived.Test.YtfjgcfloallohaaOn
import Derived.Test.YtfjgcfloallohaaJobSame
import Derived.Test.YtfjgcfloallohaaLarge
import Derived.KernelRfl
namespace Go.EnvOf
open Go Go.Eng
set_option maxRecDepth 100000

theorem awake14 : clD EE (.p (.fn 45)) [] [] = some (.p (.bool true), none) := by
  rw [clD_iff]
  exact ⟨100, by kernel_rfl⟩
structure jobI (j : Job) : Prop where
  g : okGeom j.g
  items : ∀ x ∈ j.items, okItem x
  notes : ∀ n ∈ j.notes, ∀ x ∈ n.lines, I64 x
  floats : ∀ x ∈ j.floats, okFloat x
theorem okJob_of {j : Job} (h : jobI j) (s : small j) : okJob j :=
  ⟨h.g, h.items, fun n hn => ⟨h.notes n hn, by have := s.each n hn; omega, by have := s.each n hn; omega⟩, h.floats, by have := s.items; omega, by have := s.notes; omega, by have := s.floats; omega⟩
theorem small_snap {j : Job} (s : small j) : small (snapG j) := by
  unfold snapG
  split
  · exact s
  · refine ⟨by simpa using s.items, by simpa using s.notes, by simpa using s.floats, fun n hn => ?_⟩
    simp only [List.mem_map] at hn
    obtain ⟨m, hm, rfl⟩ := hn
    have := s.each m hm
    simpa [noteG] using this
theorem gsame_small (j k : Job) (s : small j) (H : Heap) : clD EE (.p (.fn 52)) [vJob j, vJob k] H = some (vB (decide (j = k)), none) :=
  gsame_ev j k (by have := s.items; omega) (by have := s.notes; omega) (by have := s.floats; omega) (fun n hn => by have := s.each n hn; exact ⟨by omega, by omega⟩) H
theorem rsame_small (j k : Job) (s : small j) (H : Heap) : clD EE (.p (.fn 49)) [vJob j, vJob k] H = some (vB (decide (j = k)), none) :=
  rsame14_ev j k (by have := s.items; omega) (by have := s.notes; omega) (by have := s.floats; omega) (fun n hn => by have := s.each n hn; exact ⟨by omega, by omega⟩) H
theorem on_small (j : Job) (s : small j) (H : Heap) : clD EE (.p (.fn 48)) [vJob j] H = some (vB (onF j), none) :=
  on_ev j (by have := s.items; omega) (by have := s.notes; omega) (by have := s.floats; omega) (fun n hn => by have := s.each n hn; omega) H
theorem ron_small (j : Job) (s : small j) (H : Heap) : clD EE (.p (.fn 51)) [vJob j] H = some (vB (onF j), none) :=
  ron_ev j (by have := s.items; omega) (by have := s.notes; omega) (by have := s.floats; omega) (fun n hn => by have := s.each n hn; omega) H

/-- A job's cells, unnamed. -/
theorem job_cells (j : Job) : ∃ J, vJob j = .agg J ∧ J.length = 22 ∧ subs J 0 22 = some J ∧ ¬ J = [] ∧ J.all V.oneB = true := ⟨_, rfl, rfl, rfl, by simp, rfl⟩

theorem gridSnaps_ev (j k : Job) (hj : jobI j) : clD EE (.p (.fn 8)) [vJob j, vJob k] [] = some (.p (.bool true), none) := by
  rw [clD_body _ _ _ _ _ _ (noP _) fn8]
  have l1 := large_ev j []
  have l2 := large_ev k []
  obtain ⟨J, hJ, q1, q2, q3, q4⟩ := job_cells j
  obtain ⟨K, hK, r1, r2, r3, r4⟩ := job_cells k
  obtain ⟨M, hM, m1, m2, m3, m4⟩ := job_cells (snapG j)
  cases b1 : largeF j with
  | true =>
    rw [hJ, b1] at l1
    rw [hJ, hK]
    simp [-List.all_eq_true, St.enter, enumFrom, q1, q2, q3, q4, r1, r2, r3, r4, l1, awake14]
  | false =>
    cases b2 : largeF k with
    | true =>
      rw [hJ, b1] at l1
      rw [hK, b2] at l2
      rw [hJ, hK]
      simp [-List.all_eq_true, St.enter, enumFrom, q1, q2, q3, q4, r1, r2, r3, r4, l1, l2, awake14]
    | false =>
      have s1 := small_of b1
      have ok := okJob_of hj s1
      have h1 := snap_ev j ok []
      have h2 := rsnap_ev j ok []
      have h3 := rsame_small (snapG j) (snapG j) (small_snap s1) []
      have h4 := on_small j s1 []
      have h5 := ron_small j s1 []
      have h6 := gsame_small j k s1 []
      have h7 := rsame_small j k s1 []
      have h8 := gsame_small j j s1 []
      rw [hJ, b1] at l1
      rw [hK, b2] at l2
      rw [hJ, hM] at h1 h2
      rw [hM] at h3
      rw [hJ] at h4 h5 h8
      rw [hJ, hK] at h6 h7
      rw [hJ, hK]
      simp only [decide_true] at h3 h8
      simp [-List.all_eq_true, St.enter, enumFrom, q1, q2, q3, q4, r1, r2, r3, r4, l1, l2, h1, h2, h3, h4, h5, h6, h7, h8, awake14]
end Go.EnvOf
