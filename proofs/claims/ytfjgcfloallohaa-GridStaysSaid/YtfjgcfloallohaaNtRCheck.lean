/- Notes: whether a note may be, by the document. -/
import Derived.Test.YtfjgcfloallohaaNtTells
namespace Go.EnvOf
open Go Go.Eng

theorem rchk_lp0 (L M : List Int) (H : Heap) (B : Nat) (hL : L.length ≤ 1000000) : ∀ (n : Nat) (i : Int), ((L.length : Int) - i).toNat = n → 0 ≤ i → i ≤ L.length →
    evD EE lp19_0 ⟨[(1, .lptr 1 0), (3, .p (.int .i64 i))], [(1, [sli L, sli M])], H, B, []⟩ =
      if bad 1 1073741823 (L.drop i.toNat) = true then some (.ret, ⟨[(2, .p (.bool false))], [], H, B, []⟩)
      else some (.exit 0, ⟨[(1, .lptr 1 0), (3, .p (.int .i64 L.length)), (29, .p (.bool false))], [(1, [sli L, sli M])], H, B, []⟩) := by
  intro n
  induction n with
  | zero =>
    intro i hn h0 h1
    have e : i = L.length := by omega
    subst e
    unfold lp19_0
    rw [evD_loop]
    simp [sli, bad, subs]
  | succ n ih =>
    intro i hn h0 h1
    have c : i < (L.length : Int) := by omega
    have w : IntKind.i64.wrap (i + 1) = i + 1 := wrap64_in _ (by omega) (by omega)
    have key := ih (i + 1) (by omega) (by omega) (by omega)
    have eb : bad 1 1073741823 (L.drop i.toNat) = ((decide (rd L i < 1) || decide (1073741823 < rd L i)) || bad 1 1073741823 (L.drop (i + 1).toNat)) := by rw [drop_rd L i h0 c]; simp [bad]
    rw [eb]
    unfold lp19_0
    rw [evD_loop]
    by_cases c1 : rd L i < 1
    · simp (disch := omega) [sli, c, ixs_sli, subs, c1]
    · by_cases c2 : 1073741823 < rd L i
      · simp (disch := omega) [sli, c, ixs_sli, subs, c1, c2]
      · simp (disch := omega) [sli, c, ixs_sli, subs, w, c1, c2] at key ⊢
        exact key

theorem rchk_lp1 (L M : List Int) (H : Heap) (B : Nat) (hM : M.length ≤ 1000000) : ∀ (n : Nat) (i : Int), ((M.length : Int) - i).toNat = n → 0 ≤ i → i ≤ M.length →
    evD EE lp19_1 ⟨[(1, .lptr 1 0), (4, .p (.int .i64 i))], [(1, [sli L, sli M])], H, B, []⟩ =
      if bad 0 10000 (M.drop i.toNat) = true then some (.ret, ⟨[(2, .p (.bool false))], [], H, B, []⟩)
      else some (.exit 2, ⟨[(1, .lptr 1 0), (4, .p (.int .i64 M.length)), (50, .p (.bool false))], [(1, [sli L, sli M])], H, B, []⟩) := by
  intro n
  induction n with
  | zero =>
    intro i hn h0 h1
    have e : i = M.length := by omega
    subst e
    unfold lp19_1
    rw [evD_loop]
    simp [sli, bad, subs]
  | succ n ih =>
    intro i hn h0 h1
    have c : i < (M.length : Int) := by omega
    have w : IntKind.i64.wrap (i + 1) = i + 1 := wrap64_in _ (by omega) (by omega)
    have key := ih (i + 1) (by omega) (by omega) (by omega)
    have eb : bad 0 10000 (M.drop i.toNat) = ((decide (rd M i < 0) || decide (10000 < rd M i)) || bad 0 10000 (M.drop (i + 1).toNat)) := by rw [drop_rd M i h0 c]; simp [bad]
    rw [eb]
    unfold lp19_1
    rw [evD_loop]
    by_cases c1 : rd M i < 0
    · simp (disch := omega) [sli, c, ixs_sli, subs, c1]
    · by_cases c2 : 10000 < rd M i
      · simp (disch := omega) [sli, c, ixs_sli, subs, c1, c2]
      · simp (disch := omega) [sli, c, ixs_sli, subs, w, c1, c2] at key ⊢
        exact key

theorem rcheck_ev (L M : List Int) (H : Heap) (hL : L.length ≤ 1000000) (hM : M.length ≤ 1000000) : clD EE (.p (.fn 19)) [note L M] H = some (.p (.bool (!wrongF L M)), none) := by
  rw [clD_body _ _ _ _ _ _ (noP _) fn19]
  have k0 := rchk_lp0 L M H H.length hL _ 0 rfl (by omega) (by omega)
  have k1 := rchk_lp1 L M H H.length hM _ 0 rfl (by omega) (by omega)
  have w : IntKind.i64.wrap ((L.length : Int) - 1) = L.length - 1 := wrap64_in _ (by omega) (by omega)
  have go : ∀ b : Bool, wrongN L M = b → wrongF L M = (b || bad 1 1073741823 L || bad 0 10000 M) := fun b h => by unfold wrongF; rw [h]
  simp [sli] at k0 k1
  by_cases c1 : (L.length : Int) < 1
  · have hb := go true (by simp [wrongN, c1])
    simp [hb, note, sli, St.enter, enumFrom, subs, c1]
  · by_cases c2 : 64 < (L.length : Int)
    · have hb := go true (by simp [wrongN, c2])
      simp [hb, note, sli, St.enter, enumFrom, subs, c1, c2]
    · by_cases c3 : (M.length : Int) = L.length - 1
      · have hb := go false (by simp [wrongN, c1, c2, c3])
        rw [hb]
        cases h1 : bad 1 1073741823 L <;> cases h2 : bad 0 10000 M <;> simp [h1, h2] at k0 k1 <;> simp [note, sli, St.enter, enumFrom, subs, c1, c2, c3, w, k0, k1]
      · have hb := go true (by simp [wrongN, c3])
        simp [hb, note, sli, St.enter, enumFrom, subs, c1, c2, c3, w]

theorem noteTells_ev (L M : List Int) (at_ : Int) : clD EE (.p (.fn 3)) [note L M, .p (.int .i64 at_)] [] = some (.p (.bool true), none) := by
  rw [clD_body _ _ _ _ _ _ (noP _) fn3]
  by_cases c : (100 : Int) < L.length
  · simp [note, St.enter, enumFrom, subs, sli, c, awake17]
  · by_cases c2 : (100 : Int) < M.length
    · simp [note, St.enter, enumFrom, subs, sli, c, c2, awake17]
    · have h1 := check_ev L M [] (by omega) (by omega)
      have h2 := rcheck_ev L M [] (by omega) (by omega)
      have h3 := may_ev L M at_ [] (by omega)
      have h4 := rmay_ev L M at_ [] (by omega)
      have h5 := pen_ev L M at_ [] (by omega)
      have h6 := rpen_ev L M at_ [] (by omega)
      have h7 := stops_ev' L M at_ [] (by omega)
      have h8 : clD EE (.p (.fn 26)) [note L M, .p (.int .i64 at_)] [] = some (.p (.sl ((stopsF L M at_).map encI)), none) := rstops_ev L M at_ [] (by omega)
      have h9 : clD EE (.p (.fn 24)) [sli (stopsF L M at_), sli (stopsF L M at_)] [] = some (.p (.bool true), none) := by
        rw [ints_ev _ _ [] (by
          have := sel_len (rstopF L M at_) (L.length + 1) 0
          unfold stopsF; omega)]
        simp
      have h10 := first_ev L M at_ [] (by omega)
      have h11 := rfirst_ev L M at_ [] (by omega)
      simp only [note, sli] at h1 h2 h3 h4 h5 h6 h7 h8 h9 h10 h11
      cases hw : wrongF L M <;> simp [hw] at h1 h2 <;> simp [note, St.enter, enumFrom, subs, sli, c, c2, h1, h2, h3, h4, h5, h6, h7, h8, h9, h10, h11, awake17]
end Go.EnvOf
