/- The law NotePieces, evaluated. -/
import Derived.Test.YtfjgcfloallohaaNtPieces2
namespace Go.EnvOf
open Go Go.Eng

theorem prev_last {S : List Int} {m : Int} (hs : S.Pairwise (· < ·)) (hm : m ∈ S) (h2 : ∀ x ∈ S, x ≤ m) : prevF S S.length = m := by
  obtain ⟨k, hk, rfl⟩ := List.mem_iff_getElem.1 hm
  unfold prevF
  rw [if_neg (by omega)]
  have hlt : ((S.length : Int) - 1).toNat < S.length := by omega
  have e : rd S ((S.length : Int) - 1) = S[((S.length : Int) - 1).toNat] := by unfold rd; rw [List.getD_eq_getElem?_getD, List.getElem?_eq_getElem hlt]; rfl
  rw [e]
  rcases Nat.lt_or_ge k ((S.length : Int) - 1).toNat with h | h
  · have h3 := List.pairwise_iff_getElem.1 hs k _ hk hlt h
    have h4 := h2 _ (List.getElem_mem hlt)
    omega
  · congr 1; omega

theorem mem_sel {p : Int → Bool} {x : Int} (hp : p x = true) : ∀ (n : Nat) (a : Int), a ≤ x → x < a + n → x ∈ sel p a n
  | 0, a, h1, h2 => by omega
  | n + 1, a, h1, h2 => by
    simp only [sel, List.mem_append]
    by_cases e : a = x
    · subst e; simp [hp]
    · exact .inr (mem_sel hp n (a + 1) (by omega) (by omega))

theorem good_of {L M : List Int} (h : wrongF L M = false) : 1 ≤ L.length ∧ L.length ≤ 64 ∧ ∀ x ∈ L, 1 ≤ x ∧ x ≤ 1073741823 := by
  unfold wrongF wrongN bad at h
  simp at h
  obtain ⟨⟨⟨⟨h1, h2⟩, h3⟩, h4⟩, h5⟩ := h
  exact ⟨by omega, by omega, fun x hx => h4 x hx⟩

theorem notePieces_ev (L M A B : List Int) (hL : L.length ≤ 9223372036854775807) (hM : M.length ≤ 9223372036854775807) : clD EE (.p (.fn 5)) [note L M, note A B] [] = some (.p (.bool true), none) := by
  rw [clD_body _ _ _ _ _ _ _ (noP _) fn5]
  have hc := check_ev L M [] (by omega) (by omega)
  cases hw : wrongF L M with
  | true =>
    simp only [hw, if_true, note, sli] at hc
    simp [note, sli, St.enter, enumFrom, subs, hc, awake17]
  | false =>
    simp [hw, note, sli] at hc
    by_cases c1 : 100 < (A.length : Int)
    · simp [note, sli, St.enter, enumFrom, subs, hc, c1, awake17]
    · by_cases c2 : 100 < (B.length : Int)
      · simp [note, sli, St.enter, enumFrom, subs, hc, c1, c2, awake17]
      · obtain ⟨g1, g2, g3⟩ := good_of hw
        have gM : M.length ≤ 64 := by
          unfold wrongF wrongN at hw; simp at hw; omega
        have hs := stops_ev' L M 0 [] (by omega)
        have q1 : (stopsF L M 0).Pairwise (· < ·) := sel_sorted _ _
        have q2 : ∀ x ∈ stopsF L M 0, 1 ≤ x := fun x hx => by
          have := (sel_ge _ _ x hx).2.2
          simp [rstopF] at this; omega
        have q3 : ∀ x ∈ stopsF L M 0, x ≤ L.length := fun x hx => by have := (sel_ge _ _ x hx).2.1; omega
        have q4 : (L.length : Int) ∈ stopsF L M 0 := mem_sel (by simp [rstopF, mayF]; omega) _ _ (by omega) (by omega)
        have q5 : (stopsF L M 0).length ≤ 1000 := by have := sel_len (rstopF L M 0) (L.length + 1) 0; unfold stopsF; omega
        have hp := prev_last q1 q4 q3
        have key := pieces_lp L M A B (stopsF L M 0) [] 0 g3 g2 q1 q2 q3 q5 _ 0 rfl (by omega) (by omega)
        have hh := high_ev L M 0 L.length [] (by omega)
        rw [highF_sum L g3 g2 0 L.length (by omega) (by omega) (by omega)] at hh
        have hm := may_ev L M L.length [] (by omega)
        have hl := lines_ev [(L, M), (A, B), (L, M)] [] (by simp) (by simp [linesF]; omega)
        have h1 := same_ev L M A B [] (by omega) (by omega)
        have h2 := rsame_ev L M A B [] (by omega) (by omega)
        have h3 := same_ev L M L M [] (by omega) (by omega)
        have e0 : prevF (stopsF L M 0) 0 = 0 := rfl
        have em : mayF L M L.length = true := by simp [mayF]
        have es : sameF L M L M = true := by simp [sameF]
        have w1 : IntKind.i64.wrap (2 * (L.length : Int)) = 2 * L.length := wrap64_in _ (by omega) (by omega)
        have w2 : IntKind.i64.wrap (2 * (L.length : Int) + A.length) = 2 * L.length + A.length := wrap64_in _ (by omega) (by omega)
        have el : linesF [(L, M), (A, B), (L, M)] = 2 * L.length + A.length := by simp [linesF]; omega
        have e1 : sumI [] = 0 := rfl
        have e2 : L.take (L.length : Int).toNat = L := by simp
        rw [el] at hl
        rw [em] at hm
        rw [es] at h3
        simp [e0, e1, hp, note, notes, sli, encN] at hs key hh hm hl h1 h2 h3
        simp [note, sli, St.enter, enumFrom, subs, hc, c1, c2, hs, key, hh, hm, hl, h1, h2, h3, w1, w2, awake17]
end Go.EnvOf
