/- Notes: first stop, whether a note may be; the law NoteTells. -/
import Derived.Test.YtfjgcfloallohaaNtStops
namespace Go.EnvOf
open Go Go.Eng

def stopsF (L M : List Int) (frm : Int) : List Int := sel (rstopF L M frm) 0 (L.length + 1)
def firstF (L M : List Int) (frm : Int) : Int := match stopsF L M frm with | [] => -1 | x :: _ => x

theorem stops_ev' (L M : List Int) (frm : Int) (H : Heap) (hL : L.length ≤ 1000000) : clD EE (.p (.fn 25)) [note L M, .p (.int .i64 frm)] H = some (.p (.sl ((stopsF L M frm).map encI)), none) := by
  rw [stops_ev L M frm H hL, stops_same]; rfl

theorem first_ev (L M : List Int) (frm : Int) (H : Heap) (hL : L.length ≤ 1000000) : clD EE (.p (.fn 27)) [note L M, .p (.int .i64 frm)] H = some (.p (.int .i64 (firstF L M frm)), none) := by
  rw [clD_body _ _ _ _ _ _ (noP _) fn27]
  have h1 := stops_ev' L M frm H hL
  unfold firstF
  simp only [note, sli] at h1
  cases hs : stopsF L M frm with
  | nil =>
    rw [hs] at h1
    simp at h1
    simp [note, sli, St.enter, enumFrom, subs, h1]
  | cons x r =>
    rw [hs] at h1
    have hx : ixsI H (.p (.sl ((x :: r).map encI))) (.p (.int .i64 0)) 1 = some (.eptr [.p (.int .i64 x)] 0) := by
      rw [ixs_sli H (x :: r) .i64 0 (by omega) (by simp)]; simp [rd]
    have c : ¬ ((r.length : Int) + 1 = 0) := by omega
    simp at h1 hx
    simp [note, sli, St.enter, enumFrom, subs, h1, c, hx]

theorem rfirst_ev (L M : List Int) (frm : Int) (H : Heap) (hL : L.length ≤ 1000000) : clD EE (.p (.fn 28)) [note L M, .p (.int .i64 frm)] H = some (.p (.int .i64 (firstF L M frm)), none) := by
  rw [clD_body _ _ _ _ _ _ (noP _) fn28]
  have h1 : clD EE (.p (.fn 26)) [note L M, .p (.int .i64 frm)] H = some (.p (.sl ((stopsF L M frm).map encI)), none) := rstops_ev L M frm H hL
  unfold firstF
  simp only [note, sli] at h1
  cases hs : stopsF L M frm with
  | nil =>
    rw [hs] at h1
    simp at h1
    simp [note, sli, St.enter, enumFrom, subs, h1]
  | cons x r =>
    rw [hs] at h1
    have hx : ixsI H (.p (.sl ((x :: r).map encI))) (.p (.int .i64 0)) 1 = some (.eptr [.p (.int .i64 x)] 0) := by
      rw [ixs_sli H (x :: r) .i64 0 (by omega) (by simp)]; simp [rd]
    have c : ¬ ((r.length : Int) + 1 = 0) := by omega
    simp at h1 hx
    simp [note, sli, St.enter, enumFrom, subs, h1, c, hx]

/-- Is something wrong with one of them? -/
def bad (lo hi : Int) (l : List Int) : Bool := l.any fun x => decide (x < lo) || decide (hi < x)

theorem drop_rd (L : List Int) (i : Int) (h0 : 0 ≤ i) (h1 : i < L.length) : L.drop i.toNat = rd L i :: L.drop (i + 1).toNat := by
  have := drop_cons L i L.length h0 (by omega) (Nat.le_refl _)
  rwa [List.take_length] at this

theorem chk_lp0 (L M : List Int) (H : Heap) (B : Nat) (hL : L.length ≤ 9223372036854775807) : ∀ (n : Nat) (i : Int) (wr : Bool), ((L.length : Int) - i).toNat = n → 0 ≤ i → i ≤ L.length →
    evD EE lp18_0 ⟨[(1, .lptr 1 0), (3, .p (.bool wr)), (29, sli L), (30, .p (.int .i64 L.length)), (31, .p (.int .i64 i))], [(1, [sli L, sli M])], H, B, []⟩ =
      some (.exit 0, ⟨[(1, .lptr 1 0), (3, .p (.bool (wr || bad 1 1073741823 (L.drop i.toNat)))), (29, sli L), (30, .p (.int .i64 L.length)), (31, .p (.int .i64 L.length)), (32, .p (.bool false))], [(1, [sli L, sli M])], H, B, []⟩) := by
  intro n
  induction n with
  | zero =>
    intro i wr hn h0 h1
    have e : i = L.length := by omega
    subst e
    unfold lp18_0
    rw [evD_loop]
    simp [sli, bad]
  | succ n ih =>
    intro i wr hn h0 h1
    have c : i < (L.length : Int) := by omega
    have w : IntKind.i64.wrap (i + 1) = i + 1 := wrap64_in _ (by omega) (by omega)
    have key := ih (i + 1) (wr || (decide (rd L i < 1) || decide (1073741823 < rd L i))) (by omega) (by omega) (by omega)
    have eb : bad 1 1073741823 (L.drop i.toNat) = ((decide (rd L i < 1) || decide (1073741823 < rd L i)) || bad 1 1073741823 (L.drop (i + 1).toNat)) := by rw [drop_rd L i h0 c]; simp [bad]
    rw [eb, ← Bool.or_assoc]
    unfold lp18_0
    rw [evD_loop]
    cases wr
    · by_cases c1 : rd L i < 1
      · simp (disch := omega) [sli, c, ixs_sli, subs, w, c1] at key ⊢
        exact key
      · simp (disch := omega) [sli, c, ixs_sli, subs, w, c1] at key ⊢
        exact key
    · simp (disch := omega) [sli, c, ixs_sli, subs, w] at key ⊢
      exact key
theorem chk_lp1 (M : List Int) (H : Heap) (B : Nat) (hM : M.length ≤ 9223372036854775807) : ∀ (n : Nat) (i : Int) (wr : Bool), ((M.length : Int) - i).toNat = n → 0 ≤ i → i ≤ M.length →
    evD EE lp18_1 ⟨[(3, .p (.bool wr)), (46, sli M), (47, .p (.int .i64 M.length)), (48, .p (.int .i64 i))], [], H, B, []⟩ =
      some (.exit 2, ⟨[(3, .p (.bool (wr || bad 0 10000 (M.drop i.toNat)))), (46, sli M), (47, .p (.int .i64 M.length)), (48, .p (.int .i64 M.length)), (49, .p (.bool false))], [], H, B, []⟩) := by
  intro n
  induction n with
  | zero =>
    intro i wr hn h0 h1
    have e : i = M.length := by omega
    subst e
    unfold lp18_1
    rw [evD_loop]
    simp [sli, bad]
  | succ n ih =>
    intro i wr hn h0 h1
    have c : i < (M.length : Int) := by omega
    have w : IntKind.i64.wrap (i + 1) = i + 1 := wrap64_in _ (by omega) (by omega)
    have key := ih (i + 1) (wr || (decide (rd M i < 0) || decide (10000 < rd M i))) (by omega) (by omega) (by omega)
    have eb : bad 0 10000 (M.drop i.toNat) = ((decide (rd M i < 0) || decide (10000 < rd M i)) || bad 0 10000 (M.drop (i + 1).toNat)) := by rw [drop_rd M i h0 c]; simp [bad]
    rw [eb, ← Bool.or_assoc]
    unfold lp18_1
    rw [evD_loop]
    cases wr
    · by_cases c1 : rd M i < 0
      · simp (disch := omega) [sli, c, ixs_sli, subs, w, c1] at key ⊢
        exact key
      · simp (disch := omega) [sli, c, ixs_sli, subs, w, c1] at key ⊢
        exact key
    · simp (disch := omega) [sli, c, ixs_sli, subs, w] at key ⊢
      exact key

/-- May it not be? -/
def wrongN (L M : List Int) : Bool := decide ((L.length : Int) < 1) || decide (64 < (L.length : Int)) || !decide ((M.length : Int) = L.length - 1)
def wrongF (L M : List Int) : Bool := wrongN L M || bad 1 1073741823 L || bad 0 10000 M

theorem check_ev (L M : List Int) (H : Heap) (hL : L.length ≤ 9223372036854775807) (hM : M.length ≤ 9223372036854775807) : clD EE (.p (.fn 18)) [note L M] H = some (.p (.int .i64 (if wrongF L M = true then 9 else 0)), none) := by
  rw [clD_body _ _ _ _ _ _ (noP _) fn18]
  have k0 := fun wr => chk_lp0 L M H H.length hL _ 0 wr rfl (by omega) (by omega)
  have k1 := fun wr => chk_lp1 M H H.length hM _ 0 wr rfl (by omega) (by omega)
  have w : IntKind.i64.wrap ((L.length : Int) - 1) = L.length - 1 := wrap64_in _ (by omega) (by omega)
  have go : ∀ b : Bool, wrongN L M = b → wrongF L M = (b || bad 1 1073741823 L || bad 0 10000 M) := fun b h => by unfold wrongF; rw [h]
  simp [sli] at k0 k1
  by_cases c1 : (L.length : Int) < 1
  · have hb := go true (by simp [wrongN, c1])
    simp [hb, note, sli, St.enter, enumFrom, subs, c1, k0, k1]
  · by_cases c2 : 64 < (L.length : Int)
    · have hb := go true (by simp [wrongN, c2])
      simp [hb, note, sli, St.enter, enumFrom, subs, c1, c2, k0, k1]
    · by_cases c3 : (M.length : Int) = L.length - 1
      · have hb := go false (by simp [wrongN, c1, c2, c3])
        rw [hb]
        simp only [c3] at k1
        cases h1 : bad 1 1073741823 L <;> cases h2 : bad 0 10000 M <;> simp [note, sli, St.enter, enumFrom, subs, c1, c2, c3, w, k0, k1, h1, h2]
      · have hb := go true (by simp [wrongN, c3])
        simp [hb, note, sli, St.enter, enumFrom, subs, c1, c2, c3, w, k0, k1]
end Go.EnvOf
