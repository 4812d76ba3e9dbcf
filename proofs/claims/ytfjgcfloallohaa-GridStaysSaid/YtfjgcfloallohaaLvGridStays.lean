/- The law GridStays, evaluated: what is snapped is on the grid, and stays. -/
import Derived.Test.YtfjgcfloallohaaLvGrid
import Derived.Test.YtfjgcfloallohaaFair
namespace Go.EnvOf
open Go Go.Eng
set_option maxRecDepth 100000

/-! ### Numbers -/
theorem off_of_mod {n s : Int} (h : n % s = 0) : off s n = false := by
  have : n.tmod s = 0 := Int.tmod_eq_zero_of_dvd (Int.dvd_of_emod_eq_zero h)
  simp [off, this]
theorem add_mod0 (n s : Int) : (n + (s - n % s)) % s = 0 := by
  have h : n + (s - n % s) = s * (n / s + 1) := by
    have := Int.emod_add_mul_ediv n s
    rw [Int.mul_add, Int.mul_one]; omega
  rw [h]; exact Int.mul_emod_right _ _
theorem sub_mod0 (n s : Int) : (n - n % s) % s = 0 := by
  have h : n - n % s = s * (n / s) := by
    have := Int.emod_add_mul_ediv n s
    omega
  rw [h]; exact Int.mul_emod_right _ _
theorem up_eq {n s : Int} (h0 : 0 ≤ n) (h1 : n ≤ 1073741823) (hs : 1 ≤ s) (h2 : s ≤ 1073741823) : upG n s % s = 0 ∧ n ≤ upG n s := by
  have hb := mod_bd n s hs
  unfold upG upF
  rw [if_neg (by omega)]
  split
  · rename_i h; exact ⟨by simpa [orN] using h, by simp [orN]⟩
  · unfold addF
    rw [if_pos (by omega)]
    refine ⟨add_mod0 n s, ?_⟩
    simp only [orN]; omega
theorem down_eq {n s : Int} (h0 : 0 ≤ n) (h1 : n ≤ 1073741823) (hs : 1 ≤ s) (h2 : s ≤ 1073741823) : downG n s % s = 0 ∧ downG n s ≤ n := by
  have hb := mod_bd n s hs
  have hle : n % s ≤ n := by
    have := Int.emod_add_mul_ediv n s
    have h3 : 0 ≤ n / s := Int.ediv_nonneg h0 (by omega)
    have h4 : 0 ≤ s * (n / s) := Int.mul_nonneg (by omega) h3
    omega
  unfold downG downF subF
  rw [if_neg (by omega), if_pos (by omega)]
  refine ⟨sub_mod0 n s, ?_⟩
  simp only [orN]; omega
theorem near_eq {n s : Int} (h0 : 0 ≤ n) (h1 : n ≤ 1073741823) (hs : 1 ≤ s) (h2 : s ≤ 1073741823) : nearG n s % s = 0 := by
  unfold nearG
  rw [if_neg (by omega)]
  split
  · exact (down_eq h0 h1 hs h2).1
  · exact (up_eq h0 h1 hs h2).1
theorem up_fix {n s : Int} (hs : 1 ≤ s) (h : n % s = 0) : upG n s = n := by
  unfold upG upF; rw [if_neg (by omega), if_pos h]; rfl
theorem down_fix {n s : Int} (hn : I64 n) (hs : 1 ≤ s) (h : n % s = 0) : downG n s = n := by
  unfold downG downF subF; rw [if_neg (by omega), h, if_pos (by omega)]; simp [orN]
theorem near_fix {n s : Int} (hn : I64 n) (hs : 1 ≤ s) (h : n % s = 0) : nearG n s = n := by
  unfold nearG; rw [if_neg (by omega), if_pos (by omega)]; exact down_fix hn hs h

/-! ### Jobs -/
theorem fair_of {j : Job} (h : fairF j = true) : ∀ x ∈ lensOf j, 0 ≤ x ∧ x ≤ 1073741823 := by
  intro x hx
  unfold fairF at h
  simp only [Bool.not_eq_true', List.any_eq_false] at h
  have := h x hx
  simp [fairN] at this
  exact this
theorem okItemG {x : Item} (s : Int) (h : okItem x) : okItem (itemG s x) := by
  have z : I64 0 := ⟨by omega, by omega⟩
  unfold itemG
  split
  · exact ⟨h.1, upG_i64 h.2.1, h.2.2⟩
  · split
    · exact ⟨h.1, nearG_i64 h.2.1, h.2.2.1, z, z, z, h.2.2.2.2.2.2⟩
    · exact h
theorem jobI_snap {j : Job} (h : jobI j) : jobI (snapG j) := by
  unfold snapG
  split
  · exact h
  · have hg := h.g
    simp only [okGeom] at hg
    refine ⟨⟨hg.1, hg.2.1, hg.2.2.1, downG_i64 hg.2.2.2.1, downG_i64 hg.2.2.2.2.1, hg.2.2.2.2.2.1, upG_i64 hg.2.2.2.2.2.2.1, upG_i64 hg.2.2.2.2.2.2.2.1, hg.2.2.2.2.2.2.2.2⟩, ?_, ?_, ?_⟩
    · intro x hx
      obtain ⟨y, hy, rfl⟩ := List.mem_map.1 hx
      exact okItemG _ (h.items y hy)
    · intro n hn x hx
      obtain ⟨m, hm, rfl⟩ := List.mem_map.1 hn
      obtain ⟨y, hy, rfl⟩ := List.mem_map.1 hx
      exact upG_i64 (h.notes m hm y hy)
    · intro x hx
      obtain ⟨y, hy, rfl⟩ := List.mem_map.1 hx
      exact ⟨(h.floats y hy).1, upG_i64 (h.floats y hy).2.1, (h.floats y hy).2.2⟩
theorem any_map_false {α : Type} {p : α → Bool} {l : List α} (h : ∀ x ∈ l, p x = false) : l.any p = false := by
  rw [List.any_eq_false]; intro x hx; rw [h x hx]; simp
section
variable {j : Job} (hf : fairF j = true)
include hf
theorem fair_g : (0 ≤ j.g.grid ∧ j.g.grid ≤ 1073741823) ∧ (0 ≤ j.g.high ∧ j.g.high ≤ 1073741823) ∧ (0 ≤ j.g.first ∧ j.g.first ≤ 1073741823) ∧ (0 ≤ j.g.rule ∧ j.g.rule ≤ 1073741823) ∧ (0 ≤ j.g.sep ∧ j.g.sep ≤ 1073741823) :=
  ⟨fair_of hf _ (by simp [lensOf]), fair_of hf _ (by simp [lensOf]), fair_of hf _ (by simp [lensOf]), fair_of hf _ (by simp [lensOf]), fair_of hf _ (by simp [lensOf])⟩
theorem fair_item {x : Item} (hx : x ∈ j.items) : 0 ≤ x.h ∧ x.h ≤ 1073741823 := fair_of hf _ (by
  simp only [lensOf, List.mem_append, List.mem_map]; exact .inl (.inl (.inr ⟨x, hx, rfl⟩)))
theorem fair_line {n : Note} (hn : n ∈ j.notes) {x : Int} (hx : x ∈ n.lines) : 0 ≤ x ∧ x ≤ 1073741823 := fair_of hf _ (by
  simp only [lensOf, List.mem_append, List.mem_flatMap]; exact .inl (.inr ⟨n, hn, hx⟩))
theorem fair_float {x : Float} (hx : x ∈ j.floats) : 0 ≤ x.h ∧ x.h ≤ 1073741823 := fair_of hf _ (by
  simp only [lensOf, List.mem_append, List.mem_map]; exact .inr ⟨x, hx, rfl⟩)
theorem on_snap : onF (snapG j) = true := by
  by_cases c : j.g.grid < 1
  · simp [onF, snapG, c]
  · have hs : 1 ≤ j.g.grid := by omega
    obtain ⟨⟨g0, g1⟩, ⟨a0, a1⟩, ⟨b0, b1⟩, ⟨c0, c1⟩, ⟨d0, d1⟩⟩ := fair_g hf
    have e : snapG j = ⟨geomG j.g, j.items.map (itemG j.g.grid), j.notes.map (noteG j.g.grid), j.floats.map (floatG j.g.grid)⟩ := if_neg c
    have hgrid : (geomG j.g).grid = j.g.grid := rfl
    have e1 : [downG j.g.high j.g.grid, downG j.g.first j.g.grid, upG j.g.rule j.g.grid, upG j.g.sep j.g.grid].any (off j.g.grid) = false := by
      simp [off_of_mod (down_eq a0 a1 hs g1).1, off_of_mod (down_eq b0 b1 hs g1).1, off_of_mod (up_eq c0 c1 hs g1).1, off_of_mod (up_eq d0 d1 hs g1).1]
    have e2 : (j.items.map (itemG j.g.grid)).any (badItem j.g.grid) = false := any_map_false fun x hx => by
      obtain ⟨y, hy, rfl⟩ := List.mem_map.1 hx
      obtain ⟨y0, y1⟩ := fair_item hf hy
      by_cases k1 : y.k = 1
      · simp [badItem, itemG, k1, off_of_mod (up_eq y0 y1 hs g1).1]
      · by_cases k2 : y.k = 2
        · simp [badItem, itemG, k2, off_of_mod (near_eq y0 y1 hs g1)]
        · simp [badItem, itemG, k1, k2]
    have e3 : (j.notes.map (noteG j.g.grid)).any (fun n => n.lines.any (off j.g.grid)) = false := any_map_false fun n hn => by
      obtain ⟨m, hm, rfl⟩ := List.mem_map.1 hn
      exact any_map_false fun x hx => by
        obtain ⟨y, hy, rfl⟩ := List.mem_map.1 hx
        obtain ⟨y0, y1⟩ := fair_line hf hm hy
        exact off_of_mod (up_eq y0 y1 hs g1).1
    have e4 : (j.floats.map (floatG j.g.grid)).any (fun f => off j.g.grid f.h) = false := any_map_false fun x hx => by
      obtain ⟨y, hy, rfl⟩ := List.mem_map.1 hx
      obtain ⟨y0, y1⟩ := fair_float hf hy
      exact off_of_mod (up_eq y0 y1 hs g1).1
    have e5 : badJob (snapG j) = false := by
      rw [e]; unfold badJob
      simp only [hgrid, e2, e3, e4, Bool.or_false]
      exact e1
    simp [onF, e5]
theorem snap_snap (hi : jobI j) : snapG (snapG j) = snapG j := by
  by_cases c : j.g.grid < 1
  · have e : snapG j = j := if_pos c
    rw [e, e]
  · have hs : 1 ≤ j.g.grid := by omega
    obtain ⟨⟨g0, g1⟩, ⟨a0, a1⟩, ⟨b0, b1⟩, ⟨c0, c1⟩, ⟨d0, d1⟩⟩ := fair_g hf
    have hg := hi.g
    simp only [okGeom] at hg
    have e : ∀ k : Job, ¬ k.g.grid < 1 → snapG k = ⟨geomG k.g, k.items.map (itemG k.g.grid), k.notes.map (noteG k.g.grid), k.floats.map (floatG k.g.grid)⟩ := fun k hk => if_neg hk
    rw [e j c, e ⟨geomG j.g, j.items.map (itemG j.g.grid), j.notes.map (noteG j.g.grid), j.floats.map (floatG j.g.grid)⟩ c]
    have eg : geomG (geomG j.g) = geomG j.g := by
      simp only [geomG]
      rw [down_fix (downG_i64 hg.2.2.2.1) hs (down_eq a0 a1 hs g1).1, down_fix (downG_i64 hg.2.2.2.2.1) hs (down_eq b0 b1 hs g1).1, up_fix hs (up_eq c0 c1 hs g1).1, up_fix hs (up_eq d0 d1 hs g1).1]
    have hgrid : (geomG j.g).grid = j.g.grid := rfl
    simp only [hgrid, eg, List.map_map]
    congr 1
    · refine List.map_congr_left fun x hx => ?_
      obtain ⟨y0, y1⟩ := fair_item hf hx
      have ho := hi.items x hx
      by_cases k1 : x.k = 1
      · simp [itemG, k1, up_fix hs (up_eq y0 y1 hs g1).1]
      · by_cases k2 : x.k = 2
        · simp [itemG, k2, near_fix (nearG_i64 ho.2.1) hs (near_eq y0 y1 hs g1)]
        · simp [itemG, k1, k2]
    · refine List.map_congr_left fun n hn => ?_
      simp only [Function.comp, noteG, List.map_map]
      congr 1
      refine List.map_congr_left fun x hx => ?_
      obtain ⟨y0, y1⟩ := fair_line hf hn hx
      exact up_fix hs (up_eq y0 y1 hs g1).1
    · refine List.map_congr_left fun x hx => ?_
      obtain ⟨y0, y1⟩ := fair_float hf hx
      simp only [Function.comp, floatG]
      rw [up_fix hs (up_eq y0 y1 hs g1).1]
theorem snap_high : (snapG j).g.high ≤ j.g.high := by
  by_cases c : j.g.grid < 1
  · rw [show snapG j = j from if_pos c]; exact Int.le_refl _
  · obtain ⟨⟨g0, g1⟩, ⟨a0, a1⟩, -⟩ := fair_g hf
    rw [show snapG j = _ from if_neg c]
    exact (down_eq a0 a1 (by omega) g1).2
end

theorem high_cell (j : Job) : ∃ J, vJob j = .agg J ∧ J.length = 22 ∧ subs J 0 22 = some J ∧ ¬ J = [] ∧ J.all V.oneB = true ∧ subs J 3 1 = some [vI j.g.high] := ⟨_, rfl, rfl, rfl, by simp, rfl, rfl⟩
theorem gridStays_ev (j : Job) (hj : jobI j) : clD EE (.p (.fn 7)) [vJob j] [] = some (.p (.bool true), none) := by
  rw [clD_body _ _ _ _ _ _ (noP _) fn7]
  have l1 := large_ev j []
  obtain ⟨J, hJ, q1, q2, q3, q4, q5⟩ := high_cell j
  obtain ⟨M, hM, m1, m2, m3, m4, m5⟩ := high_cell (snapG j)
  cases b1 : largeF j with
  | true =>
    rw [hJ, b1] at l1
    rw [hJ]
    simp [-List.all_eq_true, St.enter, enumFrom, q1, q2, q3, q4, l1, awake14]
  | false =>
    have s1 := small_of b1
    have h1 := snap_ev j (okJob_of hj s1) []
    have h2 := fairJ_ev j s1 []
    rw [hJ, b1] at l1
    rw [hJ, hM] at h1
    cases b2 : fairF j with
    | false =>
      rw [hJ, b2] at h2
      rw [hJ]
      have e : setSubs (α := V) [.p (.int .i64 0), .p (.int .i64 0), .p (.int .i64 0), .p (.int .i64 0), .p (.int .i64 0), .p (.int .i64 0), .p (.int .i64 0), .p (.int .i64 0), .p (.int .i64 0), .p (.int .i64 0), .p (.int .i64 0), .p (.int .i64 0), .p (.int .i64 0), .p (.int .i64 0), .p (.int .i64 0), .p (.int .i64 0), .p (.int .i64 0), .p (.int .i64 0), .p (.bool false), .nils, .nils, .nils] 0 M = some M := by simp [setSubs, m1]
      simp [-List.all_eq_true, St.enter, enumFrom, q1, q2, q3, q4, m1, m2, m3, m4, e, l1, h1, h2, awake14]
    | true =>
      have h3 := on_small (snapG j) (small_snap s1) []
      have h4 := snap_ev (snapG j) (okJob_of (jobI_snap hj) (small_snap s1)) []
      have h5 := rsame_small (snapG j) (snapG j) (small_snap s1) []
      have h6 := snap_high b2
      rw [snap_snap b2 hj] at h4
      rw [on_snap b2, hM] at h3
      rw [hM] at h4 h5
      simp only [decide_true] at h5
      rw [hJ, b2] at h2
      rw [hJ]
      have e : setSubs (α := V) [.p (.int .i64 0), .p (.int .i64 0), .p (.int .i64 0), .p (.int .i64 0), .p (.int .i64 0), .p (.int .i64 0), .p (.int .i64 0), .p (.int .i64 0), .p (.int .i64 0), .p (.int .i64 0), .p (.int .i64 0), .p (.int .i64 0), .p (.int .i64 0), .p (.int .i64 0), .p (.int .i64 0), .p (.int .i64 0), .p (.int .i64 0), .p (.int .i64 0), .p (.bool false), .nils, .nils, .nils] 0 M = some M := by simp [setSubs, m1]
      simp [-List.all_eq_true, St.enter, enumFrom, q1, q2, q3, q4, q5, m1, m2, m3, m4, m5, e, l1, h1, h2, h3, h4, h5, h6, awake14]
end Go.EnvOf
