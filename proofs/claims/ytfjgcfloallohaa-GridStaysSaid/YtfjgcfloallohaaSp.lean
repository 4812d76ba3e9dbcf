/- Reckoning with scaled points: sums, differences, multiples; by the program and by the document. -/
import Derived.Test.YtfjgcfloallohaaTypes
namespace Go.EnvOf
open Go Go.Eng

def addF (a b : Int) : Option Int := if -9223372036854775808 ≤ a + b ∧ a + b ≤ 9223372036854775807 then some (a + b) else none
def subF (a b : Int) : Option Int := if -9223372036854775808 ≤ a - b ∧ a - b ≤ 9223372036854775807 then some (a - b) else none
def upF (a s : Int) : Option Int := if s < 1 then none else if a % s = 0 then some a else addF a (s - a % s)
def downF (a s : Int) : Option Int := if s < 1 then none else subF a (a % s)
def resV : Option Int → V
  | some a => .agg [vI a, vB true]
  | none => .agg [vI 0, vB false]

def resT : Option Int → V
  | some a => .tup [vI a, vB true]
  | none => .tup [vI 0, vB false]

theorem wrap_hi {n : Int} (h0 : 9223372036854775808 ≤ n) (h1 : n ≤ 27670116110564327423) : IntKind.wrap .i64 n = n - 18446744073709551616 := by
  unfold IntKind.wrap; simp [IntKind.bits, IntKind.signed]; omega
theorem wrap_lo {n : Int} (h0 : n ≤ -9223372036854775809) (h1 : -27670116110564327424 ≤ n) : IntKind.wrap .i64 n = n + 18446744073709551616 := by
  unfold IntKind.wrap; simp [IntKind.bits, IntKind.signed]; omega

theorem over_eq (a s : Int) (hs : 1 ≤ s) : (if a.tmod s < 0 then a.tmod s + s else a.tmod s) = a % s := by
  have h1 := Int.emod_nonneg a (show s ≠ 0 by omega)
  have h2 := Int.emod_lt_of_pos a (show 0 < s by omega)
  have := Int.tmod_eq_emod (a := a) (b := s)
  rw [this]
  split <;> split <;> omega

theorem add_ev (a b : Int) (H : Heap) (ha : I64 a) (hb : I64 b) : clD EE (.p (.fn 179)) [vI a, vI b] H = some (resT (addF a b), none) := by
  rw [clD_body _ _ _ _ _ _ (noP _) fn179]
  unfold addF
  by_cases h1 : 9223372036854775807 < a + b
  · have w := wrap_hi (n := a + b) (by omega) (by omega)
    have c1 : ¬ a < a + b - 18446744073709551616 := by omega
    have c2 : 0 < b := by omega
    have c3 : b ≠ 0 := by omega
    have c4 : ¬ (-9223372036854775808 ≤ a + b ∧ a + b ≤ 9223372036854775807) := by omega
    simp [St.enter, enumFrom, resT, w, c1, c2, c3, c4]
  · by_cases h2 : a + b < -9223372036854775808
    · have w := wrap_lo (n := a + b) (by omega) (by omega)
      have c1 : a < a + b + 18446744073709551616 := by omega
      have c2 : ¬ 0 < b := by omega
      have c3 : b ≠ 0 := by omega
      have c4 : ¬ (-9223372036854775808 ≤ a + b ∧ a + b ≤ 9223372036854775807) := by omega
      simp [St.enter, enumFrom, resT, w, c1, c2, c3, c4]
    · have w := w64 (n := a + b) (by omega) (by omega)
      have c1 : (a < a + b) = (0 < b) := by rw [eq_iff_iff]; omega
      have c4 : -9223372036854775808 ≤ a + b ∧ a + b ≤ 9223372036854775807 := by omega
      simp [St.enter, enumFrom, resT, w, c1, c4]
theorem sub_ev (a b : Int) (H : Heap) (ha : I64 a) (hb : I64 b) : clD EE (.p (.fn 177)) [vI a, vI b] H = some (resT (subF a b), none) := by
  rw [clD_body _ _ _ _ _ _ (noP _) fn177]
  unfold subF
  by_cases h1 : 9223372036854775807 < a - b
  · have w := wrap_hi (n := a - b) (by omega) (by omega)
    have c1 : a - b - 18446744073709551616 < a := by omega
    have c2 : ¬ 0 < b := by omega
    have c3 : b ≠ 0 := by omega
    have c4 : ¬ (-9223372036854775808 ≤ a - b ∧ a - b ≤ 9223372036854775807) := by omega
    simp [St.enter, enumFrom, resT, w, c1, c2, c3, c4]
  · by_cases h2 : a - b < -9223372036854775808
    · have w := wrap_lo (n := a - b) (by omega) (by omega)
      have c1 : ¬ a - b + 18446744073709551616 < a := by omega
      have c2 : 0 < b := by omega
      have c3 : b ≠ 0 := by omega
      have c4 : ¬ (-9223372036854775808 ≤ a - b ∧ a - b ≤ 9223372036854775807) := by omega
      simp [St.enter, enumFrom, resT, w, c1, c2, c3, c4]
    · have w := w64 (n := a - b) (by omega) (by omega)
      have c1 : (a - b < a) = (0 < b) := by rw [eq_iff_iff]; omega
      have c4 : -9223372036854775808 ≤ a - b ∧ a - b ≤ 9223372036854775807 := by omega
      simp [St.enter, enumFrom, resT, w, c1, c4]
theorem radd_ev (a b : Int) (H : Heap) (ha : I64 a) (hb : I64 b) : clD EE (.p (.fn 181)) [vI a, vI b] H = some (resV (addF a b), none) := by
  rw [clD_body _ _ _ _ _ _ (noP _) fn181]
  unfold addF
  by_cases c : 0 < b
  · have w := w64 (n := 9223372036854775807 - b) (by omega) (by omega)
    have c2 : ¬ b < 0 := by omega
    by_cases h1 : 9223372036854775807 - b < a
    · have c4 : ¬ (-9223372036854775808 ≤ a + b ∧ a + b ≤ 9223372036854775807) := by omega
      simp [St.enter, enumFrom, resV, subs, setSubs, w, c, c2, h1, c4]
    · have c4 : -9223372036854775808 ≤ a + b ∧ a + b ≤ 9223372036854775807 := by omega
      have w2 := w64 (n := a + b) (by omega) (by omega)
      simp [St.enter, enumFrom, resV, subs, setSubs, w, w2, c, c2, h1, c4]
  · by_cases c2 : b < 0
    · have w := w64 (n := -9223372036854775808 - b) (by omega) (by omega)
      by_cases h1 : a < -9223372036854775808 - b
      · have c4 : ¬ (-9223372036854775808 ≤ a + b ∧ a + b ≤ 9223372036854775807) := by omega
        simp [St.enter, enumFrom, resV, subs, setSubs, w, c, c2, h1, c4]
      · have c4 : -9223372036854775808 ≤ a + b ∧ a + b ≤ 9223372036854775807 := by omega
        have w2 := w64 (n := a + b) (by omega) (by omega)
        simp [St.enter, enumFrom, resV, subs, setSubs, w, w2, c, c2, h1, c4]
    · have e : b = 0 := by omega
      subst e
      have w2 := w64 (n := a) (by omega) (by omega)
      simp [St.enter, enumFrom, resV, subs, setSubs, w2, ha.1, ha.2]
theorem rsub_ev (a b : Int) (H : Heap) (ha : I64 a) (hb : I64 b) : clD EE (.p (.fn 180)) [vI a, vI b] H = some (resV (subF a b), none) := by
  rw [clD_body _ _ _ _ _ _ (noP _) fn180]
  unfold subF
  by_cases c : 0 < b
  · have w := w64 (n := -9223372036854775808 + b) (by omega) (by omega)
    have c2 : ¬ b < 0 := by omega
    by_cases h1 : a < -9223372036854775808 + b
    · have c4 : ¬ (-9223372036854775808 ≤ a - b ∧ a - b ≤ 9223372036854775807) := by omega
      simp [St.enter, enumFrom, resV, subs, setSubs, w, c, c2, h1, c4]
    · have c4 : -9223372036854775808 ≤ a - b ∧ a - b ≤ 9223372036854775807 := by omega
      have w2 := w64 (n := a - b) (by omega) (by omega)
      simp [St.enter, enumFrom, resV, subs, setSubs, w, w2, c, c2, h1, c4]
  · by_cases c2 : b < 0
    · have w := w64 (n := 9223372036854775807 + b) (by omega) (by omega)
      by_cases h1 : 9223372036854775807 + b < a
      · have c4 : ¬ (-9223372036854775808 ≤ a - b ∧ a - b ≤ 9223372036854775807) := by omega
        simp [St.enter, enumFrom, resV, subs, setSubs, w, c, c2, h1, c4]
      · have c4 : -9223372036854775808 ≤ a - b ∧ a - b ≤ 9223372036854775807 := by omega
        have w2 := w64 (n := a - b) (by omega) (by omega)
        simp [St.enter, enumFrom, resV, subs, setSubs, w, w2, c, c2, h1, c4]
    · have e : b = 0 := by omega
      subst e
      have w2 := w64 (n := a) (by omega) (by omega)
      simp [St.enter, enumFrom, resV, subs, setSubs, w2, ha.1, ha.2]

theorem mod_bd (a s : Int) (hs : 1 ≤ s) : 0 ≤ a % s ∧ a % s < s := ⟨Int.emod_nonneg a (by omega), Int.emod_lt_of_pos a (by omega)⟩
theorem tmod_bd (a s : Int) (hs : 1 ≤ s) : -s ≤ a.tmod s ∧ a.tmod s < s := by
  have h := over_eq a s hs
  have h2 := mod_bd a s hs
  split at h <;> omega

theorem above_ev (a s : Int) (H : Heap) (hs : 1 ≤ s) (h2 : I64 s) : clD EE (.p (.fn 178)) [vI a, vI s] H = some (vI (a % s), none) := by
  rw [clD_body _ _ _ _ _ _ (noP _) fn178]
  have h := over_eq a s hs
  have hb := tmod_bd a s hs
  have h0 : s ≠ 0 := by omega
  by_cases c : a.tmod s < 0
  · rw [if_pos c] at h
    have w := w64 (n := a % s) (by omega) (by omega)
    simp [St.enter, enumFrom, h0, c, w, h]
  · rw [if_neg c] at h
    rw [h] at c
    simp [St.enter, enumFrom, h0, c, h]
theorem down_ev (a s : Int) (H : Heap) (ha : I64 a) (hs : I64 s) : clD EE (.p (.fn 143)) [vI a, vI s] H = some (resT (downF a s), none) := by
  rw [clD_body _ _ _ _ _ _ (noP _) fn143]
  unfold downF
  by_cases c : s < 1
  · simp [St.enter, enumFrom, c, resT]
  · have h1 := above_ev a s H (by omega) hs
    have hb := mod_bd a s (by omega)
    have h2 := sub_ev a (a % s) H ha ⟨by omega, by omega⟩
    cases h3 : subF a (a % s) <;> simp [h3, resT] at h2 <;> simp [St.enter, enumFrom, c, resT, h1, h2, h3]
theorem up_ev (a s : Int) (H : Heap) (ha : I64 a) (hs : I64 s) : clD EE (.p (.fn 144)) [vI a, vI s] H = some (resT (upF a s), none) := by
  rw [clD_body _ _ _ _ _ _ (noP _) fn144]
  unfold upF
  by_cases c : s < 1
  · simp [St.enter, enumFrom, c, resT]
  · have h1 := above_ev a s H (by omega) hs
    have hb := mod_bd a s (by omega)
    by_cases c2 : a % s = 0
    · simp [St.enter, enumFrom, c, resT, h1, c2]
    · have w := w64 (n := s - a % s) (by omega) (by omega)
      have c3 : 0 < a % s := by omega
      have h2 := add_ev a (s - a % s) H ha ⟨by omega, by omega⟩
      cases h3 : addF a (s - a % s) <;> simp [h3, resT] at h2 <;> simp [St.enter, enumFrom, c, c2, c3, w, resT, h1, h2, h3]
theorem rdown_ev (a s : Int) (H : Heap) (ha : I64 a) (hs : I64 s) : clD EE (.p (.fn 147)) [vI a, vI s] H = some (resV (downF a s), none) := by
  rw [clD_body _ _ _ _ _ _ (noP _) fn147]
  unfold downF
  by_cases c : s < 1
  · simp [St.enter, enumFrom, c, resV, subs, setSubs]
  · have h := over_eq a s (by omega)
    have hb := tmod_bd a s (by omega)
    have hb2 := mod_bd a s (by omega)
    have h0 : s ≠ 0 := by omega
    have h2 := rsub_ev a (a % s) H ha ⟨by omega, by omega⟩
    by_cases c2 : a.tmod s < 0
    · rw [if_pos c2] at h
      have w := w64 (n := a % s) (by omega) (by omega)
      cases h3 : subF a (a % s) <;> simp [h3, resV] at h2 <;> simp [St.enter, enumFrom, c, resV, subs, setSubs, h0, c2, w, h, h2, h3]
    · rw [if_neg c2] at h
      rw [h] at c2
      cases h3 : subF a (a % s) <;> simp [h3, resV] at h2 <;> simp [St.enter, enumFrom, c, resV, subs, setSubs, h0, c2, h, h2, h3]
theorem rup_ev (a s : Int) (H : Heap) (ha : I64 a) (hs : I64 s) : clD EE (.p (.fn 148)) [vI a, vI s] H = some (resV (upF a s), none) := by
  rw [clD_body _ _ _ _ _ _ (noP _) fn148]
  unfold upF
  by_cases c : s < 1
  · simp [St.enter, enumFrom, c, resV, subs, setSubs]
  · have h := over_eq a s (by omega)
    have hb := tmod_bd a s (by omega)
    have hb2 := mod_bd a s (by omega)
    have h0 : s ≠ 0 := by omega
    have w := w64 (n := s - a % s) (by omega) (by omega)
    have h2 := radd_ev a (s - a % s) H ha ⟨by omega, by omega⟩
    by_cases c3 : a % s = 0
    · by_cases c2 : a.tmod s < 0
      · rw [if_pos c2] at h
        have w : IntKind.i64.wrap 0 = 0 := w64 (by omega) (by omega)
        simp [St.enter, enumFrom, c, resV, subs, setSubs, h0, c2, w, h, c3]
      · rw [if_neg c2] at h
        rw [h] at c2
        simp [St.enter, enumFrom, c, resV, subs, setSubs, h0, c2, h, c3]
    · by_cases c2 : a.tmod s < 0
      · rw [if_pos c2] at h
        have w3 := w64 (n := a % s) (by omega) (by omega)
        cases h3 : addF a (s - a % s) <;> simp [h3, resV] at h2 <;> simp [St.enter, enumFrom, c, resV, subs, setSubs, h0, c2, w, w3, h, h2, h3, c3]
      · rw [if_neg c2] at h
        rw [h] at c2
        cases h3 : addF a (s - a % s) <;> simp [h3, resV] at h2 <;> simp [St.enter, enumFrom, c, resV, subs, setSubs, h0, c2, w, h, h2, h3, c3]

/-! ### On a grid -/
def orN (o : Option Int) (n : Int) : Int := match o with | some a => a | none => n
def upG (n s : Int) : Int := orN (upF n s) n
def downG (n s : Int) : Int := orN (downF n s) n
def nearG (n s : Int) : Int := if s < 1 then n else if n % s < s - n % s then downG n s else upG n s

theorem or_ev (f : FuncId) (o : Option Int) (n s : Int) (H : Heap) (h : clD EE (.p (.fn f)) [vI n, vI s] H = some (resT o, none)) : clD EE (.p (.fn 142)) [vI n, vI s, .p (.fn f)] H = some (vI (orN o n), none) := by
  rw [clD_body _ _ _ _ _ _ (noP _) fn142]
  cases o <;> simp [resT] at h <;> simp [St.enter, enumFrom, h, orN]
theorem gdown_ev (n s : Int) (H : Heap) (hn : I64 n) (hs : I64 s) : clD EE (.p (.fn 98)) [vI n, vI s] H = some (vI (downG n s), none) := by
  rw [clD_body _ _ _ _ _ _ (noP _) fn98]
  have h := or_ev _ _ n s H (down_ev n s H hn hs)
  simp [St.enter, enumFrom, h, downG]
theorem gup_ev (n s : Int) (H : Heap) (hn : I64 n) (hs : I64 s) : clD EE (.p (.fn 99)) [vI n, vI s] H = some (vI (upG n s), none) := by
  rw [clD_body _ _ _ _ _ _ (noP _) fn99]
  have h := or_ev _ _ n s H (up_ev n s H hn hs)
  simp [St.enter, enumFrom, h, upG]
theorem gnear_ev (n s : Int) (H : Heap) (hn : I64 n) (hs : I64 s) : clD EE (.p (.fn 93)) [vI n, vI s] H = some (vI (nearG n s), none) := by
  rw [clD_body _ _ _ _ _ _ (noP _) fn93]
  unfold nearG
  by_cases c : s < 1
  · simp [St.enter, enumFrom, c]
  · have h := over_eq n s (by omega)
    have hb := tmod_bd n s (by omega)
    have hb2 := mod_bd n s (by omega)
    have h0 : s ≠ 0 := by omega
    have w := w64 (n := s - n % s) (by omega) (by omega)
    have h1 := gdown_ev n s H hn hs
    have h2 := gup_ev n s H hn hs
    by_cases c2 : n.tmod s < 0
    · rw [if_pos c2] at h
      have w3 := w64 (n := n % s) (by omega) (by omega)
      by_cases c3 : n % s < s - n % s <;> simp [St.enter, enumFrom, c, c2, c3, h0, w, w3, h, h1, h2]
    · rw [if_neg c2] at h
      rw [h] at c2
      by_cases c3 : n % s < s - n % s <;> simp [St.enter, enumFrom, c, c2, c3, h0, w, h, h1, h2]

theorem got_ev (o : Option Int) (n : Int) (H : Heap) : clD EE (.p (.fn 146)) [resV o, vI n] H = some (vI (orN o n), none) := by
  rw [clD_body _ _ _ _ _ _ (noP _) fn146]
  cases o <;> simp [resV, St.enter, enumFrom, subs, orN]
theorem rgdown_ev (n s : Int) (H : Heap) (hn : I64 n) (hs : I64 s) : clD EE (.p (.fn 106)) [vI n, vI s] H = some (vI (downG n s), none) := by
  rw [clD_body _ _ _ _ _ _ (noP _) fn106]
  have h := rdown_ev n s H hn hs
  have h2 := got_ev (downF n s) n H
  cases ho : downF n s <;> simp only [ho, resV] at h h2 <;> simp [St.enter, enumFrom, h, h2, downG, ho]
theorem rgup_ev (n s : Int) (H : Heap) (hn : I64 n) (hs : I64 s) : clD EE (.p (.fn 107)) [vI n, vI s] H = some (vI (upG n s), none) := by
  rw [clD_body _ _ _ _ _ _ (noP _) fn107]
  have h := rup_ev n s H hn hs
  have h2 := got_ev (upF n s) n H
  cases ho : upF n s <;> simp only [ho, resV] at h h2 <;> simp [St.enter, enumFrom, h, h2, upG, ho]
theorem resV_cells (o : Option Int) : ∃ a b, resV o = .agg [vI a, vB b] := by cases o <;> exact ⟨_, _, rfl⟩
theorem rgnear_ev (n s : Int) (H : Heap) (hn : I64 n) (hs : I64 s) : clD EE (.p (.fn 149)) [vI n, vI s] H = some (vI (nearG n s), none) := by
  rw [clD_body _ _ _ _ _ _ (noP _) fn149]
  unfold nearG
  by_cases c : s < 1
  · simp [St.enter, enumFrom, c]
  · have h := over_eq n s (by omega)
    have hb := tmod_bd n s (by omega)
    have hb2 := mod_bd n s (by omega)
    have h0 : s ≠ 0 := by omega
    have w := w64 (n := s - n % s) (by omega) (by omega)
    have h1 := rdown_ev n s H hn hs
    have h2 := rup_ev n s H hn hs
    have g1 := got_ev (downF n s) n H
    have g2 := got_ev (upF n s) n H
    obtain ⟨a1, b1, e1⟩ := resV_cells (downF n s)
    obtain ⟨a2, b2, e2⟩ := resV_cells (upF n s)
    rw [e1] at h1 g1
    rw [e2] at h2 g2
    by_cases c2 : n.tmod s < 0
    · rw [if_pos c2] at h
      have w3 := w64 (n := n % s) (by omega) (by omega)
      by_cases c3 : n % s < s - n % s
      · simp [St.enter, enumFrom, subs, setSubs, c, c2, c3, h0, w, w3, h, h1, h2, g1, downG]
      · have c4 : n % s ≠ 0 := by omega
        simp [St.enter, enumFrom, subs, setSubs, c, c2, c3, c4, h0, w, w3, h, h1, h2, g2, upG]
    · rw [if_neg c2] at h
      rw [h] at c2
      by_cases c3 : n % s < s - n % s
      · simp [St.enter, enumFrom, subs, setSubs, c, c2, c3, h0, w, h, h1, h2, g1, downG]
      · have c4 : n % s ≠ 0 := by omega
        simp [St.enter, enumFrom, subs, setSubs, c, c2, c3, c4, h0, w, h, h1, h2, g2, upG]

theorem orN_i64 {o : Option Int} {n : Int} (hn : I64 n) (h : ∀ a, o = some a → I64 a) : I64 (orN o n) := by
  cases o with
  | none => exact hn
  | some a => exact h a rfl
theorem addF_i64 {a b c : Int} (h : addF a b = some c) : I64 c := by unfold addF at h; split at h <;> simp at h; subst h; assumption
theorem subF_i64 {a b c : Int} (h : subF a b = some c) : I64 c := by unfold subF at h; split at h <;> simp at h; subst h; assumption
theorem upG_i64 {n s : Int} (hn : I64 n) : I64 (upG n s) := orN_i64 hn fun a h => by
  unfold upF at h; split at h
  · cases h
  · split at h
    · simp at h; subst h; exact hn
    · exact addF_i64 h
theorem downG_i64 {n s : Int} (hn : I64 n) : I64 (downG n s) := orN_i64 hn fun a h => by
  unfold downF at h; split at h
  · cases h
  · exact subF_i64 h
theorem nearG_i64 {n s : Int} (hn : I64 n) : I64 (nearG n s) := by
  unfold nearG; split
  · exact hn
  · split
    · exact downG_i64 hn
    · exact upG_i64 hn
end Go.EnvOf
