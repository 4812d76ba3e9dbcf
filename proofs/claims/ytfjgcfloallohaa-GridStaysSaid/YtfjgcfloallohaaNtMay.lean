/- Notes: where they may split, and end. -/
import Derived.Test.YtfjgcfloallohaaNtHigh
namespace Go.EnvOf
open Go Go.Eng

/-- May it be split there? -/
def splitF (L M : List Int) (at_ : Int) : Bool := decide (0 < at_ ∧ at_ < L.length ∧ at_ ≤ M.length ∧ rd M (at_ - 1) < 10000)
def mayF (L M : List Int) (at_ : Int) : Bool := decide (at_ = L.length) || splitF L M at_
def penF (L M : List Int) (at_ : Int) : Int := if splitF L M at_ = true then rd M (at_ - 1) else 0

theorem split_ev (L M : List Int) (at_ : Int) (H : Heap) (hL : L.length ≤ 9223372036854775806) :
    clD EE (.p (.fn 86)) [note L M, .p (.int .i64 at_)] H = some (.p (.bool (splitF L M at_)), none) := by
  rw [clD_body _ _ _ _ _ _ (noP _) fn86]
  unfold splitF
  by_cases c1 : 0 < at_
  · by_cases c2 : at_ < L.length
    · by_cases c3 : at_ ≤ M.length
      · have w : IntKind.i64.wrap (at_ - 1) = at_ - 1 := wrap64_in _ (by omega) (by omega)
        have i1 : 0 ≤ at_ - 1 := by omega
        have i2 : at_ - 1 < (M.length : Int) := by omega
        simp (disch := omega) [note, sli, St.enter, enumFrom, subs, c1, c2, c3, ixs_sli, w]
      · simp [note, sli, St.enter, enumFrom, subs, c1, c2, c3]
    · simp [note, sli, St.enter, enumFrom, subs, c1, c2]
  · simp [note, sli, St.enter, enumFrom, subs, c1]

theorem rsplit_ev (L M : List Int) (at_ : Int) (H : Heap) (hL : L.length ≤ 9223372036854775806) :
    clD EE (.p (.fn 85)) [note L M, .p (.int .i64 at_)] H = some (.p (.bool (splitF L M at_)), none) := by
  rw [clD_body _ _ _ _ _ _ (noP _) fn85]
  unfold splitF
  by_cases c1 : 0 < at_
  · have c1' : 1 ≤ at_ := by omega
    by_cases c2 : at_ < L.length
    · have w : IntKind.i64.wrap (at_ - 1) = at_ - 1 := wrap64_in _ (by omega) (by omega)
      by_cases c3 : at_ ≤ M.length
      · have i1 : 0 ≤ at_ - 1 := by omega
        have i2 : at_ - 1 < (M.length : Int) := by omega
        simp (disch := omega) [note, sli, St.enter, enumFrom, subs, c1, c1', c2, c3, ixs_sli, w, i2]
      · have i2 : ¬ at_ - 1 < (M.length : Int) := by omega
        simp [note, sli, St.enter, enumFrom, subs, c1, c1', c2, c3, w, i2]
    · simp [note, sli, St.enter, enumFrom, subs, c1, c1', c2]
  · have c1' : ¬ 1 ≤ at_ := by omega
    simp [note, sli, St.enter, enumFrom, subs, c1, c1']

theorem stop_ev (L M : List Int) (at_ : Int) (H : Heap) (hL : L.length ≤ 9223372036854775806) :
    clD EE (.p (.fn 84)) [note L M, .p (.int .i64 at_)] H = some (.p (.bool (mayF L M at_)), none) := by
  rw [clD_body _ _ _ _ _ _ (noP _) fn84]
  have h1 := split_ev L M at_ H hL
  unfold mayF
  simp only [note, sli] at h1
  by_cases c : at_ = L.length
  · simp [note, sli, St.enter, enumFrom, subs, c]
  · simp [note, sli, St.enter, enumFrom, subs, c, h1]

theorem may_ev (L M : List Int) (at_ : Int) (H : Heap) (hL : L.length ≤ 9223372036854775806) :
    clD EE (.p (.fn 20)) [note L M, .p (.int .i64 at_)] H = some (.p (.bool (mayF L M at_)), none) := by
  rw [clD_body _ _ _ _ _ _ (noP _) fn20]
  have h1 := stop_ev L M at_ H hL
  simp only [note, sli] at h1
  simp [note, sli, St.enter, enumFrom, subs, h1]

theorem rmay_ev (L M : List Int) (at_ : Int) (H : Heap) (hL : L.length ≤ 9223372036854775806) :
    clD EE (.p (.fn 21)) [note L M, .p (.int .i64 at_)] H = some (.p (.bool (mayF L M at_)), none) := by
  rw [clD_body _ _ _ _ _ _ (noP _) fn21]
  have h1 := rsplit_ev L M at_ H hL
  unfold mayF
  simp only [note, sli] at h1
  by_cases c : at_ = L.length
  · simp [note, sli, St.enter, enumFrom, subs, c]
  · simp [note, sli, St.enter, enumFrom, subs, c, h1]

theorem splitF_in {L M : List Int} {at_ : Int} (h : splitF L M at_ = true) : 0 < at_ ∧ at_ < L.length ∧ at_ ≤ M.length := by
  unfold splitF at h; simp at h; omega

theorem pen_ev (L M : List Int) (at_ : Int) (H : Heap) (hL : L.length ≤ 9223372036854775806) :
    clD EE (.p (.fn 22)) [note L M, .p (.int .i64 at_)] H = some (.p (.int .i64 (penF L M at_)), none) := by
  rw [clD_body _ _ _ _ _ _ (noP _) fn22]
  have h1 := split_ev L M at_ H hL
  unfold penF
  simp only [note, sli] at h1
  by_cases c : splitF L M at_ = true
  · obtain ⟨k1, k2, k3⟩ := splitF_in c
    have w : IntKind.i64.wrap (at_ - 1) = at_ - 1 := wrap64_in _ (by omega) (by omega)
    have i1 : 0 ≤ at_ - 1 := by omega
    have i2 : at_ - 1 < (M.length : Int) := by omega
    simp (disch := omega) [note, sli, St.enter, enumFrom, subs, c, h1, w, ixs_sli]
  · simp only [Bool.not_eq_true] at c
    simp [note, sli, St.enter, enumFrom, subs, c, h1]

theorem rpen_ev (L M : List Int) (at_ : Int) (H : Heap) (hL : L.length ≤ 9223372036854775806) :
    clD EE (.p (.fn 23)) [note L M, .p (.int .i64 at_)] H = some (.p (.int .i64 (penF L M at_)), none) := by
  rw [clD_body _ _ _ _ _ _ (noP _) fn23]
  have h1 := rsplit_ev L M at_ H hL
  unfold penF
  simp only [note, sli] at h1
  by_cases c : splitF L M at_ = true
  · obtain ⟨k1, k2, k3⟩ := splitF_in c
    have w : IntKind.i64.wrap (at_ - 1) = at_ - 1 := wrap64_in _ (by omega) (by omega)
    have i1 : 0 ≤ at_ - 1 := by omega
    have i2 : at_ - 1 < (M.length : Int) := by omega
    simp (disch := omega) [note, sli, St.enter, enumFrom, subs, c, h1, w, ixs_sli]
  · simp only [Bool.not_eq_true] at c
    simp [note, sli, St.enter, enumFrom, subs, c, h1]
end Go.EnvOf
