/- The program's functions and the document's, evaluated. -/
import Derived.Test.YtddnebpblclpfaaGreatText7
import Derived.Test.YtddnebpblclpfaaGreatText6
import Derived.Test.YtddnebpblclpfaaGreatText2
set_option linter.unusedSimpArgs false
set_option linter.unusedVariables false
/- Worlds, as the document tells them. -/
namespace Go.EnvOf
open Go Go.Eng
set_option maxRecDepth 100000
theorem rloose_ev (x : Item) (H : Heap) : clD EE (.p (.fn 168)) [vItem x] H = some (vB (looseI x), none) := by
  rw [clD_body _ _ _ _ _ _ (noP _) fn168]
  unfold looseI
  by_cases h : x.k = 2 <;> simp [St.enter, enumFrom, subs, setSubs, h]
theorem rtrim_lp (l : List Item) (hl : l.length ≤ 1000000) (H : Heap) (B : Nat) : ∀ (k a : Nat), a ≤ l.length → l.length - a = k →
    evD EE lp72_0 ⟨[(0, vItems l), (5, vI a)], [], H, B, []⟩ = some (.exit 0, ⟨[(0, vItems l), (5, vI (trimN l a)), (21, vB false)], [], H, B, []⟩) := by
  intro k
  induction k with
  | zero =>
    intro a h1 h2
    have e : a = l.length := by omega
    subst e
    have ht : trimN l l.length = l.length := trimN_stay (by unfold stayB; rw [List.getElem?_eq_none (Nat.le_refl _)])
    unfold lp72_0
    rw [evD_loop]
    simp [ht]
  | succ k ih =>
    intro a h1 h2
    have hlt : a < l.length := by omega
    have hx : l[a]? = some l[a] := List.getElem?_eq_getElem hlt
    have hix := fun H k => ixs_nat H encItem (k := k) (s := 7) hx rfl
    have w : IntKind.i64.wrap ((a : Int) + 1) = ((a + 1 : Nat) : Int) := w64 (by omega) (by omega)
    have lo := fun H => rloose_ev l[a] H
    generalize l[a] = x at *
    by_cases hb : looseI x = true
    · have ht := trimN_loose hx hb
      have key := ih (a + 1) (by omega) (by omega)
      rw [ht, ← key]
      conv => lhs; unfold lp72_0
      rw [evD_loop]
      simp [hlt, hix, encItem, subs, lo, hb, w]
      rfl
    · have ht : trimN l a = a := trimN_stay (by unfold stayB; rw [hx]; simpa using hb)
      have hb' : looseI x = false := by simpa using hb
      rw [ht]
      unfold lp72_0
      rw [evD_loop]
      simp [hlt, hix, encItem, subs, lo, hb']
theorem rtrim_ev (l : List Item) (n : Int) (hl : l.length ≤ 1000000) (H : Heap) : clD EE (.p (.fn 72)) [vItems l, vI n] H = some (vI (trimF l n), none) := by
  rw [clD_body _ _ _ _ _ _ (noP _) fn72]
  have hk : max 0 (min n (l.length : Int)) = (putN l n : Int) := by unfold putN; omega
  have k := rtrim_lp l hl H H.length _ (putN l n) (putN_le l n) rfl
  unfold trimF
  simp [St.enter, enumFrom, hk, k]
/-! ### Anchors -/
def numsL (k a b : Int) : Nat → List Item → List Int
  | _, [] => []
  | i, x :: r => (if a ≤ i ∧ (i : Int) < b ∧ x.k = k then [x.n] else []) ++ numsL k a b (i + 1) r
theorem numsL_len (k : Int) (b : Int) : ∀ (l : List Item) (i : Nat), (numsL k 0 b i l).length = cnt k (l.take (b.toNat - i))
  | [], i => by simp [numsL, cnt]
  | x :: r, i => by
    have ih := numsL_len k b r (i + 1)
    simp only [numsL, List.length_append, ih]
    by_cases h : (i : Int) < b
    · have e : b.toNat - i = (b.toNat - (i + 1)) + 1 := by omega
      rw [e, List.take_succ_cons, cnt_cons]
      by_cases hk : x.k = k
      · rw [if_pos ⟨by omega, h, hk⟩, if_pos hk]; simp
      · rw [if_neg (fun hh => hk hh.2.2), if_neg hk]; simp
    · have e : b.toNat - i = 0 := by omega
      have e2 : b.toNat - (i + 1) = 0 := by omega
      rw [if_neg (fun hh => h hh.2.1), e, e2]; simp [cnt]
theorem numsL_snoc (k a b : Int) : ∀ (l : List Item) (i : Nat) (x : Item), numsL k a b i (l ++ [x]) = numsL k a b i l ++ (if a ≤ ((i + l.length : Nat) : Int) ∧ ((i + l.length : Nat) : Int) < b ∧ x.k = k then [x.n] else [])
  | [], i, x => by simp [numsL]
  | y :: r, i, x => by
    simp only [List.cons_append, numsL, numsL_snoc k a b r (i + 1) x, List.append_assoc, List.length_cons]
    rw [show i + 1 + r.length = i + (r.length + 1) by omega]
def nuE (l : List Item) (k a b : Int) (H : Heap) (M : List Int) (i : Nat) : St := ⟨[(0, vItems l), (1, vI k), (2, vI a), (3, vI b), (9, .row H.length M.length 0 M.length), (10, vI i)], [], H ++ [DObj.row 1 (upV (M.map encI))], H.length, []⟩
def nuX (l : List Item) (k a b : Int) (H : Heap) (M : List Int) : Ex × St := (.exit 0, ⟨[(0, vItems l), (1, vI k), (2, vI a), (3, vI b), (9, .row H.length M.length 0 M.length), (10, vI l.length), (14, vB false)], [], H ++ [DObj.row 1 (upV (M.map encI))], H.length, []⟩)
theorem nums_lp (l : List Item) (k a b : Int) (hl : l.length ≤ 1000000) (H : Heap) : evD EE lp236_0 (nuE l k a b H [] 0) = some (nuX l k a b H (numsL k a b 0 l)) := by
  unfold lp236_0
  refine Eq.trans (evD_fold l (fun (_ : Unit) i => nuE l k a b H (numsL k a b 0 (l.take i)) i) (fun _ _ => True) (fun _ _ _ => ()) (fun _ => nuX l k a b H (numsL k a b 0 l)) (fun _ _ => rfl) ?_ ?_ () 0 trivial (Nat.zero_le _)) rfl
  · rintro _ i x - hx
    refine ⟨?_, trivial⟩
    have hlt := (List.getElem?_eq_some_iff.1 hx).1
    have w : IntKind.i64.wrap ((i : Int) + 1) = ((i + 1 : Nat) : Int) := w64 (by omega) (by omega)
    have hix := fun H k => ixs_nat H encItem (k := k) (s := 7) hx rfl
    have e := numsL_snoc k a b (l.take i) 0 x
    have hlen : (l.take i).length = i := by rw [List.length_take]; omega
    rw [hlen, Nat.zero_add] at e
    have hM : (numsL k a b 0 (l.take i)).length ≤ 1000000 := by
      have : ∀ (l : List Item) (i : Nat), (numsL k a b i l).length ≤ l.length := by
        intro l
        induction l with
        | nil => intro i; simp [numsL]
        | cons y r ih => intro i; simp only [numsL, List.length_append, List.length_cons]; have := ih (i + 1); split <;> simp <;> omega
      have := this (l.take i) 0
      omega
    rw [take_snoc hx]
    simp only [e]
    generalize numsL k a b 0 (l.take i) = M at *
    have hm : M.length + 1 < most := by unfold most; omega
    have e3 : upV (M.map encI) ++ [[V.p (.int .i64 x.n)]] = upV ((M ++ [x.n]).map encI) := by simp [upV, encI]
    by_cases c1 : a ≤ (i : Int)
    · by_cases c2 : (i : Int) < b
      · by_cases c3 : x.k = k
        · simp [nuE, hlt, hix, encItem, subs, setSubs, w, c1, c2, c3, hm, e3, encI, upV, okEl]
        · simp [nuE, hlt, hix, encItem, subs, setSubs, w, c1, c2, c3]
      · simp [nuE, hlt, hix, encItem, subs, setSubs, w, c1, c2]
    · simp [nuE, hlt, hix, encItem, subs, setSubs, w, c1]
  · rintro _ -
    simp [nuE, nuX]
theorem nums_ev (l : List Item) (k a b : Int) (hl : l.length ≤ 1000000) (H : Heap) : clD EE (.p (.fn 236)) [vItems l, vI k, vI a, vI b] H = some (sli (numsL k a b 0 l), none) := by
  rw [clD_body _ _ _ _ _ _ (noP _) fn236]
  have key := nums_lp l k a b hl H
  generalize numsL k a b 0 l = M at *
  simp [nuE, nuX] at key
  simp [St.enter, enumFrom, key]
theorem rbegun_ev (j : Job) (n : Int) (hl : j.items.length ≤ 1000000) (H : Heap) : clD EE (.p (.fn 164)) [vJob j, vI n] H = some (vI (begunF j n), none) := by
  rw [clD_body _ _ _ _ _ _ (noP _) fn164]
  have h := fun H => nums_ev j.items 5 0 n hl H
  have e : ((numsL 5 0 n 0 j.items).length : Int) = begunF j n := by
    rw [numsL_len]
    unfold begunF begunP putN
    have e2 : j.items.take (n.toNat - 0) = j.items.take (min (max n 0) j.items.length).toNat := by
      rcases Nat.le_total n.toNat j.items.length with h | h
      · congr 1; omega
      · rw [List.take_of_length_le (by omega), List.take_of_length_le (by omega)]
    rw [e2]
  simp only [vJob, cGeom, List.cons_append, List.nil_append]
  simp [St.enter, enumFrom, subs, setSubs, h, e]
def rwS (fs : List Float) (n : Int) (c : C3) (i : Nat) (x : Item) : C3 := if (i : Int) < n then addAt fs c x else c
def rwE (l : List Item) (fs : List Float) (n : Int) (H : Heap) (c : C3) (i : Nat) : St := ⟨[(0, vItems l), (1, vFloats fs), (2, vI n), (6, .lptr 6 0), (7, .lptr 7 0), (8, vI i)], [(6, [vI 0, vI 0, vI 0]), (7, [vI c.a, vI c.b, vI c.c])], H, H.length, []⟩
def rwX (l : List Item) (fs : List Float) (n : Int) (H : Heap) (c : C3) : Ex × St := (.exit 0, ⟨[(0, vItems l), (1, vFloats fs), (2, vI n), (6, .lptr 6 0), (7, .lptr 7 0), (8, vI l.length), (13, vB false)], [(6, [vI 0, vI 0, vI 0]), (7, [vI c.a, vI c.b, vI c.c])], H, H.length, []⟩)
theorem rw_fold (fs : List Float) (n : Int) : ∀ (l : List Item) (c : C3) (i : Nat), fold (rwS fs n) c i l = (l.take (n.toNat - i)).foldl (addAt fs) c
  | [], c, i => by simp [fold]
  | x :: r, c, i => by
    simp only [fold, rw_fold fs n r]
    unfold rwS
    by_cases h : (i : Int) < n
    · rw [if_pos h, show n.toNat - i = (n.toNat - (i + 1)) + 1 by omega, List.take_succ_cons, List.foldl_cons]
    · rw [if_neg h, show n.toNat - i = 0 by omega, show n.toNat - (i + 1) = 0 by omega]; simp
theorem rahead_lp (l : List Item) (fs : List Float) (n : Int) (hl : l.length ≤ 1000000) (H : Heap) : evD EE lp166_0 (rwE l fs n H ⟨0, 0, 0⟩ 0) = some (rwX l fs n H (fold (rwS fs n) ⟨0, 0, 0⟩ 0 l)) := by
  unfold lp166_0
  refine Eq.trans (evD_fold l (rwE l fs n H) (fun c i => 0 ≤ c.a ∧ 0 ≤ c.b ∧ 0 ≤ c.c ∧ c.a ≤ i ∧ c.b ≤ i ∧ c.c ≤ i) (rwS fs n) (rwX l fs n H) (fun _ _ => rfl) ?_ ?_ ⟨0, 0, 0⟩ 0 (by simp) (Nat.zero_le _)) (by rw [List.drop_zero])
  · intro c i x hc hx
    have hlt := (List.getElem?_eq_some_iff.1 hx).1
    refine ⟨?_, ?_⟩
    · have w : IntKind.i64.wrap ((i : Int) + 1) = ((i + 1 : Nat) : Int) := w64 (by omega) (by omega)
      have wa : IntKind.i64.wrap (c.a + 1) = c.a + 1 := w64 (by omega) (by omega)
      have wb : IntKind.i64.wrap (c.b + 1) = c.b + 1 := w64 (by omega) (by omega)
      have wc : IntKind.i64.wrap (c.c + 1) = c.c + 1 := w64 (by omega) (by omega)
      have hix := fun H k => ixs_nat H encItem (k := k) (s := 7) hx rfl
      unfold rwS addAt ofS atF bump
      by_cases c1 : (i : Int) < n
      · by_cases c2 : x.k = 6
        · by_cases c3 : 0 ≤ x.n
          · by_cases c4 : x.n < (fs.length : Int)
            · have hf := rd_get fs x.n (by omega) (by omega)
              have hif := fun H k => ixs_int H encFloat (k := k) (s := 3) (by omega) hf rfl
              generalize rd fs x.n = f at *
              by_cases d0 : f.c = 0
              · simp [rwE, hlt, hix, encItem, subs, setSubs, w, c1, c2, c3, c4, hif, encFloat, d0, ixaV, shiftV, wa]
              · by_cases d1 : f.c = 1
                · simp [rwE, hlt, hix, encItem, subs, setSubs, w, c1, c2, c3, c4, hif, encFloat, d1, ixaV, shiftV, wb]
                · by_cases d2 : f.c = 2
                  · simp [rwE, hlt, hix, encItem, subs, setSubs, w, c1, c2, c3, c4, hif, encFloat, d2, ixaV, shiftV, wc]
                  · by_cases d3 : f.c < 0
                    · simp [rwE, hlt, hix, encItem, subs, setSubs, w, c1, c2, c3, c4, hif, encFloat, d0, d1, d2, show ¬ 0 ≤ f.c by omega]
                    · simp [rwE, hlt, hix, encItem, subs, setSubs, w, c1, c2, c3, c4, hif, encFloat, d0, d1, d2, show 0 ≤ f.c by omega, show ¬ f.c < 3 by omega]
            · simp [rwE, hlt, hix, encItem, subs, setSubs, w, c1, c2, c3, c4]
          · simp [rwE, hlt, hix, encItem, subs, setSubs, w, c1, c2, c3]
        · simp [rwE, hlt, hix, encItem, subs, setSubs, w, c1, c2]
      · simp [rwE, hlt, hix, encItem, subs, setSubs, w, c1]
    · unfold rwS
      split
      · have := addAt_bd fs c x i (by omega)
        simpa using this
      · simp only [Int.natCast_add, Int.natCast_one]; omega
  · intro c _
    simp [rwE, rwX]
theorem rahead_ev (l : List Item) (fs : List Float) (n : Int) (hl : l.length ≤ 1000000) (H : Heap) : clD EE (.p (.fn 166)) [vItems l, vFloats fs, vI n] H = some (vC (aheadP fs (l.take (putN l n))), none) := by
  rw [clD_body _ _ _ _ _ _ (noP _) fn166]
  have key := rahead_lp l fs n hl H
  have e : fold (rwS fs n) ⟨0, 0, 0⟩ 0 l = aheadP fs (l.take (putN l n)) := by
    rw [rw_fold]
    unfold aheadP putN
    congr 1
    rcases Nat.le_total n.toNat l.length with h | h
    · congr 1; omega
    · rw [List.take_of_length_le (by omega), List.take_of_length_le (by omega)]
  rw [e] at key
  simp [rwE, rwX] at key
  simp [St.enter, enumFrom, subs, setSubs, key]
def rqE (fs : List Float) (xs : List Int) (H : Heap) (c : C3) (i : Nat) : St := ⟨[(0, vFloats fs), (1, sli xs), (4, .lptr 4 0), (5, .lptr 5 0), (6, vI i)], [(4, [vI 0, vI 0, vI 0]), (5, [vI c.a, vI c.b, vI c.c])], H, H.length, []⟩
def rqX (fs : List Float) (xs : List Int) (H : Heap) (c : C3) : Ex × St := (.exit 0, ⟨[(0, vFloats fs), (1, sli xs), (4, .lptr 4 0), (5, .lptr 5 0), (6, vI xs.length), (11, vB false)], [(4, [vI 0, vI 0, vI 0]), (5, [vI c.a, vI c.b, vI c.c])], H, H.length, []⟩)
theorem rof_lp (fs : List Float) (xs : List Int) (hl : xs.length ≤ 1000000) (H : Heap) : evD EE lp74_0 (rqE fs xs H ⟨0, 0, 0⟩ 0) = some (rqX fs xs H (ofL fs xs)) := by
  have hf : ∀ (xs : List Int) (s : C3) (i : Nat), fold (fun s _ x => ofS fs s x) s i xs = xs.foldl (ofS fs) s := by
    intro xs
    induction xs with
    | nil => intro s i; rfl
    | cons x r ih => intro s i; simp only [fold, List.foldl_cons, ih]
  unfold ofL
  rw [← hf xs ⟨0, 0, 0⟩ 0]
  unfold lp74_0
  refine Eq.trans (evD_fold xs (rqE fs xs H) (fun c i => 0 ≤ c.a ∧ 0 ≤ c.b ∧ 0 ≤ c.c ∧ c.a ≤ i ∧ c.b ≤ i ∧ c.c ≤ i) (fun s _ x => ofS fs s x) (rqX fs xs H) (fun _ _ => rfl) ?_ ?_ ⟨0, 0, 0⟩ 0 (by simp) (Nat.zero_le _)) (by rw [List.drop_zero])
  · intro c i x hc hx
    have hlt := (List.getElem?_eq_some_iff.1 hx).1
    refine ⟨?_, ?_⟩
    · have w : IntKind.i64.wrap ((i : Int) + 1) = ((i + 1 : Nat) : Int) := w64 (by omega) (by omega)
      have wa : IntKind.i64.wrap (c.a + 1) = c.a + 1 := w64 (by omega) (by omega)
      have wb : IntKind.i64.wrap (c.b + 1) = c.b + 1 := w64 (by omega) (by omega)
      have wc : IntKind.i64.wrap (c.c + 1) = c.c + 1 := w64 (by omega) (by omega)
      have hix := fun H k => ixs_nat H encI (k := k) (s := 1) hx rfl
      unfold ofS atF bump
      by_cases c3 : 0 ≤ x
      · by_cases c4 : x < (fs.length : Int)
        · have hf := rd_get fs x (by omega) (by omega)
          have hif := fun H k => ixs_int H encFloat (k := k) (s := 3) (by omega) hf rfl
          generalize rd fs x = f at *
          by_cases d0 : f.c = 0
          · simp [rqE, hlt, hix, encI, subs, setSubs, w, c3, c4, hif, encFloat, d0, ixaV, shiftV, wa]
          · by_cases d1 : f.c = 1
            · simp [rqE, hlt, hix, encI, subs, setSubs, w, c3, c4, hif, encFloat, d1, ixaV, shiftV, wb]
            · by_cases d2 : f.c = 2
              · simp [rqE, hlt, hix, encI, subs, setSubs, w, c3, c4, hif, encFloat, d2, ixaV, shiftV, wc]
              · by_cases d3 : f.c < 0
                · simp [rqE, hlt, hix, encI, subs, setSubs, w, c3, c4, hif, encFloat, d0, d1, d2, show ¬ 0 ≤ f.c by omega]
                · simp [rqE, hlt, hix, encI, subs, setSubs, w, c3, c4, hif, encFloat, d0, d1, d2, show 0 ≤ f.c by omega, show ¬ f.c < 3 by omega]
        · simp [rqE, hlt, hix, encI, subs, setSubs, w, c3, c4]
      · simp [rqE, hlt, hix, encI, subs, setSubs, w, c3]
    · have := addAt_bd fs c ⟨6, 0, 0, 0, 0, 0, x⟩ i (by omega)
      simpa [addAt] using this
  · intro c _
    simp [rqE, rqX]
theorem rof_ev (fs : List Float) (xs : List Int) (hl : xs.length ≤ 1000000) (H : Heap) : clD EE (.p (.fn 74)) [vFloats fs, sli xs] H = some (vC (ofL fs xs), none) := by
  rw [clD_body _ _ _ _ _ _ (noP _) fn74]
  have key := rof_lp fs xs hl H
  simp [rqE, rqX] at key
  simp [St.enter, enumFrom, subs, setSubs, key]
/-! ### States -/
theorem open_carries (j : Job) (s : Stt) (hr : begunF j s.at_ ≤ j.notes.length) :
    ((decide (s.note = begunF j s.at_) && decide (s.line = 0)) || (decide (s.note = begunF j s.at_ - 1) && decide (0 ≤ s.note) && decide (1 ≤ s.line) && (decide (s.line < (rd j.notes s.note).lines.length) && mayF (rd j.notes s.note).lines (rd j.notes s.note).pens s.line))) = carriesF j s := by
  unfold carriesF
  by_cases h0 : s.line = 0
  · simp [h0]
  · rw [if_neg h0]
    by_cases h1 : s.note ≠ begunF j s.at_ - 1 ∨ s.note < 0 ∨ s.line < 1
    · rw [if_pos h1]
      rcases h1 with h1 | h1 | h1
      · simp [h0, h1]
      · simp [h0, show ¬ 0 ≤ s.note by omega]
      · simp [h0, show ¬ 1 ≤ s.line by omega]
    · rw [if_neg h1]
      have q1 : s.note = begunF j s.at_ - 1 := by omega
      have q2 : 0 ≤ s.note := by omega
      have q3 : 1 ≤ s.line := by omega
      simp [h0, q1, show 0 ≤ begunF j s.at_ - 1 by omega, show 1 ≤ begunF j s.at_ by omega, q3]
section
variable (j : Job) (w : okW j)
include w in
theorem rstRight_ev (s : Stt) (H : Heap) : clD EE (.p (.fn 69)) [vJob j, vStt s] H = some (vB (rightS j s), none) := by
  rw [clD_body _ _ _ _ _ _ (noP _) fn69]
  have ht := fun H => rtrim_ev j.items s.at_ w.n1 H
  have hb := fun H => rbegun_ev j s.at_ w.n1 H
  have ha := fun H => rahead_ev j.items j.floats s.at_ w.n1 H
  change ∀ H, clD EE _ _ H = some (vC (aheadF j s.at_), none) at ha
  have i1 := fun H => rin_ev zeroC s.h H
  have i2 := fun H => rin_ev s.h (aheadF j s.at_) H
  have hle := begunF_le w s.at_
  have hge := begunF_ge j s.at_
  have hoc := open_carries j s hle
  have w1 : IntKind.i64.wrap (begunF j s.at_ - 1) = begunF j s.at_ - 1 := w64 (by have := w.n2; omega) (by have := w.n2; omega)
  unfold rightS
  simp only [vJob, cGeom, List.cons_append, List.nil_append, zeroC] at hb i1 ⊢
  by_cases h1 : s.at_ < 0
  · simp [St.enter, enumFrom, subs, setSubs, h1]
  · by_cases h2 : (j.items.length : Int) < s.at_
    · simp [St.enter, enumFrom, subs, setSubs, h1, h2]
    · by_cases h3 : (trimF j.items s.at_ : Int) = s.at_
      · by_cases h4 : s.col < 0
        · simp [St.enter, enumFrom, subs, setSubs, h1, h2, ht, h3, h4]
        · by_cases h5 : j.g.cols < s.col
          · simp [St.enter, enumFrom, subs, setSubs, h1, h2, ht, h3, h4, h5]
          · simp only [h1, h2, h3, h4, h5, not_true_eq_false, or_false, if_false, ne_eq]
            rw [← hoc]
            generalize begunF j s.at_ = b at *
            by_cases n0 : s.note = b - 1 ∧ 0 ≤ s.note ∧ 1 ≤ s.line
            · obtain ⟨n1, n2, n3⟩ := n0
              have hx := rd_get j.notes s.note (by omega) (by omega)
              have hix := fun H k => ixs_int H encNote (k := k) (s := 2) (by omega) hx rfl
              have hl := w.lines _ (List.mem_of_getElem? hx)
              have hm := fun H => rmay_ev (rd j.notes s.note).lines (rd j.notes s.note).pens s.line H (by omega)
              simp only [encNote] at hix
              simp only [note, sli] at hm
              have n4 : ¬ s.note = b := by omega
              have n5 : decide (s.note = b - 1) = true := by simpa using n1
              generalize rd j.notes s.note = nt at *
              by_cases h6 : s.line < (nt.lines.length : Int)
              · cases c1 : mayF nt.lines nt.pens s.line with
                | false => simp [St.enter, enumFrom, subs, setSubs, h1, h2, ht, h3, h4, h5, hb, w1, n4, n5, n2, n3, hix, h6, hm, c1, ha]
                | true =>
                  cases c2 : inC ⟨0, 0, 0⟩ s.h with
                  | false => simp [St.enter, enumFrom, subs, setSubs, h1, h2, ht, h3, h4, h5, hb, w1, n4, n5, n2, n3, hix, h6, hm, c1, ha, i1, c2]
                  | true => simp [St.enter, enumFrom, subs, setSubs, h1, h2, ht, h3, h4, h5, hb, w1, n4, n5, n2, n3, hix, h6, hm, c1, ha, i1, c2, i2]
              · simp [St.enter, enumFrom, subs, setSubs, h1, h2, ht, h3, h4, h5, hb, w1, n4, n5, n2, n3, hix, h6, ha]
            · by_cases a1 : s.note = b - 1
              · have a4 : decide (s.note = b - 1) = true := by simpa using a1
                have a5 : ¬ s.note = b := by omega
                by_cases a2 : 0 ≤ s.note
                · have a3 : ¬ 1 ≤ s.line := by omega
                  simp [St.enter, enumFrom, subs, setSubs, h1, h2, ht, h3, h4, h5, hb, w1, a4, a5, a2, a3, ha]
                · simp [St.enter, enumFrom, subs, setSubs, h1, h2, ht, h3, h4, h5, hb, w1, a4, a5, a2, ha]
              · by_cases m1 : s.note = b
                · have m3 : decide (s.note = b) = true := by simpa using m1
                  by_cases m2 : s.line = 0
                  · have m4 : decide (s.line = 0) = true := by simpa using m2
                    cases c2 : inC ⟨0, 0, 0⟩ s.h with
                    | false => simp [St.enter, enumFrom, subs, setSubs, h1, h2, ht, h3, h4, h5, hb, w1, a1, m3, m4, ha, i1, c2]
                    | true => simp [St.enter, enumFrom, subs, setSubs, h1, h2, ht, h3, h4, h5, hb, w1, a1, m3, m4, ha, i1, c2, i2]
                  · simp [St.enter, enumFrom, subs, setSubs, h1, h2, ht, h3, h4, h5, hb, w1, a1, m3, m2, ha]
                · simp [St.enter, enumFrom, subs, setSubs, h1, h2, ht, h3, h4, h5, hb, w1, a1, m1, ha]
      · simp [St.enter, enumFrom, subs, setSubs, h1, h2, ht, h3]
end
end Go.EnvOf

/- Worlds: where notes stand, what follows a column, the start, the end; nil worlds. -/
namespace Go.EnvOf
open Go Go.Eng
set_option maxRecDepth 100000
section
variable (j : Job) (w : okW j)
include w in
theorem stSpot_ev (s : Stt) (to : Int) (H : Heap) : clD EE (.p (.fn 31)) [vW j, vStt s, vI to] H = some (vSpot (spotS j s to), none) := by
  rw [clD_body _ _ _ _ _ _ (noP _) fn31]
  have hr := fun H => stRight_ev j w s H
  have b1 := fun H => begun_ev j.items j.floats to H
  have b2 := fun H => begun_ev j.items j.floats s.at_ H
  change ∀ H, clD EE _ _ H = some (vI (begunF j to), none) at b1
  change ∀ H, clD EE _ _ H = some (vI (begunF j s.at_), none) at b2
  unfold spotS
  cases c : rightS j s with
  | false =>
    rw [c] at hr
    simp [St.enter, enumFrom, subs, setSubs, hr]
  | true =>
    rw [c] at hr
    simp only [vW, vTextW, cJobW, cGeom, List.cons_append, List.nil_append] at hr ⊢
    simp [St.enter, enumFrom, subs, setSubs, hr, b1, b2]
include w in
include w in
include w in
include w in
include w in
theorem stNext_ev (s : Stt) (c : Colm) (c1 : c.notes.length ≤ 1000000) (c2 : c.top.length ≤ 1000000) (c3 : c.bot.length ≤ 1000000) (H : Heap) : clD EE (.p (.fn 15)) [vW j, vStt s, vColm c] H = some (vStt (nextS j s c), none) := by
  rw [clD_body _ _ _ _ _ _ (noP _) fn15]
  have hr := fun H => stRight_ev j w s H
  have hs := fun H => stSpot_ev j w s c.to H
  have ht := fun H => trim_ev j.items c.to w.n1 H
  have hn := fun H => splitNext_ev j.notes (spotS j s c.to) c.notes w.n2 c1 H
  have o1 := fun H => of_ev j.floats c.top H w.n3 c2
  have o2 := fun H => of_ev j.floats c.bot H w.n3 c3
  have a1 := fun x y H => qadd_ev x y H
  have k1 : IntKind.i64.wrap 1 = 1 := by decide
  have k2 : IntKind.i64.wrap 2 = 2 := by decide
  unfold nextS
  cases cr : rightS j s with
  | false =>
    rw [cr] at hr
    simp [St.enter, enumFrom, subs, setSubs, hr, zeroS]
  | true =>
    rw [cr] at hr
    have hcol : 0 ≤ s.col ∧ s.col ≤ j.g.cols := by
      unfold rightS at cr
      split at cr
      · cases cr
      · rename_i h; omega
    have hw := w.cols
    have w1 : IntKind.i64.wrap (s.col + 1) = s.col + 1 := w64 (by omega) (by omega)
    generalize spotS j s c.to = sp at *
    generalize nextF j.notes sp c.notes = nx at *
    simp only [vW, vTextW, cJobW, cGeom, List.cons_append, List.nil_append] at hr hs ⊢
    by_cases h1 : c.k = 1
    · simp [St.enter, enumFrom, subs, setSubs, hr, hs, ht, hn, w1, h1, lp15_0, evD_loop, ixsI, ixsV, k1, k2, o1, o2, a1]
    · simp [St.enter, enumFrom, subs, setSubs, hr, hs, ht, hn, w1, h1, lp15_0, evD_loop, ixsI, ixsV, k1, k2, o1, o2, a1]
end
end Go.EnvOf

/- Worlds by the document: where notes stand, what follows a column, whether there is one. -/
namespace Go.EnvOf
open Go Go.Eng
set_option maxRecDepth 100000
section
variable (j : Job) (w : okW j)
include w in
theorem rstSpot_ev (s : Stt) (to : Int) (H : Heap) : clD EE (.p (.fn 71)) [vJob j, vStt s, vI to] H = some (vSpot (spotS j s to), none) := by
  rw [clD_body _ _ _ _ _ _ (noP _) fn71]
  have hr := fun H => rstRight_ev j w s H
  have b1 := fun H => rbegun_ev j to w.n1 H
  have b2 := fun H => rbegun_ev j s.at_ w.n1 H
  unfold spotS
  simp only [vJob, cGeom, List.cons_append, List.nil_append] at hr b1 b2 ⊢
  cases c : rightS j s with
  | false =>
    rw [c] at hr
    simp [St.enter, enumFrom, subs, setSubs, hr]
  | true =>
    rw [c] at hr
    simp [St.enter, enumFrom, subs, setSubs, hr, b1, b2]
include w in
theorem rstNext_ev (s : Stt) (c : Colm) (c1 : c.notes.length ≤ 1000000) (c2 : c.top.length ≤ 1000000) (c3 : c.bot.length ≤ 1000000) (H : Heap) : clD EE (.p (.fn 16)) [vJob j, vStt s, vColm c] H = some (vStt (nextS j s c), none) := by
  rw [clD_body _ _ _ _ _ _ (noP _) fn16]
  have hr := fun H => rstRight_ev j w s H
  have hs := fun H => rstSpot_ev j w s c.to H
  have ht := fun H => rtrim_ev j.items c.to w.n1 H
  have hn := fun H => rnext_ev j.notes (spotS j s c.to) c.notes w.n2 c1 H
  have o1 := fun H => rof_ev j.floats c.top c2 H
  have o2 := fun H => rof_ev j.floats c.bot c3 H
  have a1 := fun x y H => qradd_ev x y H
  unfold nextS
  cases cr : rightS j s with
  | false =>
    rw [cr] at hr
    simp only [vJob, cGeom, List.cons_append, List.nil_append] at hr ⊢
    simp [St.enter, enumFrom, subs, setSubs, hr, zeroS]
  | true =>
    rw [cr] at hr
    have hcol : 0 ≤ s.col ∧ s.col ≤ j.g.cols := by
      unfold rightS at cr
      split at cr
      · cases cr
      · rename_i h; omega
    have hw := w.cols
    have w1 : IntKind.i64.wrap (s.col + 1) = s.col + 1 := w64 (by omega) (by omega)
    generalize spotS j s c.to = sp at *
    generalize nextF j.notes sp c.notes = nx at *
    simp only [vJob, cGeom, List.cons_append, List.nil_append] at hr hs ⊢
    by_cases h1 : c.k = 1
    · simp [St.enter, enumFrom, subs, setSubs, hr, hs, ht, hn, w1, h1, o1, o2, a1, ixvV, ixaV, shiftV]
    · simp [St.enter, enumFrom, subs, setSubs, hr, hs, ht, hn, w1, h1, o1, o2, a1, ixvV, ixaV, shiftV]
end
/-- The zero job. -/
abbrev zJobC : List V := [vI 0, vI 0, vI 0, vI 0, vI 0, vI 0, vI 0, vI 0, vI 0, vI 0, vI 0, vI 0, vI 0, vI 0, vI 0, vI 0, vI 0, vI 0, vB false, .p (.sl []), .p (.sl []), .p (.sl [])]
theorem rstNew_ev (j : Job) (ok : okJob j) (H : Heap) : clD EE (.p (.fn 14)) [vJob j] H = some (if (checkF j).1 = 0 then .agg (cJobW (snapG j) ++ [vB true]) else .agg (zJobC ++ [vB false]), none) := by
  rw [clD_body _ _ _ _ _ _ (noP _) fn14]
  have hc := fun H => rvalidCheck_ev j ok (snap_floats ok.n3) H
  have hs := fun H => rsnap_ev j ok H
  simp only [vJob, cGeom, List.cons_append, List.nil_append] at hc hs ⊢
  by_cases h : (checkF j).1 = 0
  · simp [St.enter, enumFrom, subs, setSubs, fldvV, hc, hs, h]
  · simp [St.enter, enumFrom, subs, setSubs, fldvV, hc, h]
end Go.EnvOf

/- The law GridStays, evaluated: what is snapped is on the grid, and stays. -/
namespace Go.EnvOf
open Go Go.Eng
set_option maxRecDepth 100000

/-! ### Numbers -/
/-! ### Jobs -/
theorem okItemG {x : Item} (s : Int) (h : okItem x) : okItem (itemG s x) := by
  have z : I64 0 := ⟨by omega, by omega⟩
  unfold itemG
  split
  · exact ⟨h.1, upG_i64 h.2.1, h.2.2⟩
  · split
    · exact ⟨h.1, nearG_i64 h.2.1, h.2.2.1, z, z, z, h.2.2.2.2.2.2⟩
    · exact h
theorem jobI_snap {j : Job} (h : jobI j) : jobI (snapG j) := by
  unfold snapG
  split
  · exact h
  · have hg := h.g
    simp only [okGeom] at hg
    refine ⟨⟨hg.1, hg.2.1, hg.2.2.1, downG_i64 hg.2.2.2.1, downG_i64 hg.2.2.2.2.1, hg.2.2.2.2.2.1, upG_i64 hg.2.2.2.2.2.2.1, upG_i64 hg.2.2.2.2.2.2.2.1, hg.2.2.2.2.2.2.2.2⟩, ?_, ?_, ?_⟩
    · intro x hx
      obtain ⟨y, hy, rfl⟩ := List.mem_map.1 hx
      exact okItemG _ (h.items y hy)
    · intro n hn x hx
      obtain ⟨m, hm, rfl⟩ := List.mem_map.1 hn
      obtain ⟨y, hy, rfl⟩ := List.mem_map.1 hx
      exact upG_i64 (h.notes m hm y hy)
    · intro x hx
      obtain ⟨y, hy, rfl⟩ := List.mem_map.1 hx
      exact ⟨(h.floats y hy).1, upG_i64 (h.floats y hy).2.1, (h.floats y hy).2.2⟩
section
variable {j : Job} (hf : fairF j = true)
include hf
end

end Go.EnvOf

/- The laws of states: what follows a column; the start. -/
namespace Go.EnvOf
open Go Go.Eng
set_option maxRecDepth 100000
theorem okW_of {j : Job} (r : Right j) (sm : small (snapG j)) : okW (snapG j) := by
  obtain ⟨f, hf, hk⟩ := snap_items j
  have hg := geom_grid r.g
  have hn := refF_all 5 j.notes.length j.items 0 0 (Nat.zero_le _) r.r5
  have h5 : cnt 5 (snapG j).items = cnt 5 j.items := by rw [hf]; exact cnt_map 5 f (fun x => (hk x).1) _
  refine ⟨by have := sm.items; omega, by have := sm.notes; omega, by have := sm.floats; omega, fun n hn => by have := sm.each n hn; omega, ?_, ?_⟩
  · rw [snap_cols]; exact ⟨⟨by omega, by omega⟩, by omega⟩
  · rw [snap_nlen]; unfold begunP; omega
theorem stateNext_ev (j : Job) (hj : jobI j) (s : Stt) (c : Colm) : clD EE (.p (.fn 3)) [vJob j, vStt s, vColm c] [] = some (.p (.bool true), none) := by
  rw [clD_body _ _ _ _ _ _ (noP _) fn3]
  have l1 := large_ev j []
  have aw := fun H => say12_ev H
  cases b1 : largeF j with
  | true =>
    rw [b1] at l1
    simp only [vJob, cGeom, List.cons_append, List.nil_append] at l1
    simp [St.enter, enumFrom, subs, setSubs, l1, aw]
  | false =>
    rw [b1] at l1
    have sm := small_of b1
    have ok := okJob_of hj sm
    have sms := small_snap sm
    by_cases c1 : (50 : Int) < c.notes.length
    · simp only [vJob, cGeom, List.cons_append, List.nil_append] at l1
      simp [St.enter, enumFrom, subs, setSubs, l1, c1, aw]
    by_cases c2 : (50 : Int) < c.top.length
    · simp only [vJob, cGeom, List.cons_append, List.nil_append] at l1
      simp [St.enter, enumFrom, subs, setSubs, l1, c1, c2, aw]
    by_cases c3 : (50 : Int) < c.bot.length
    · simp only [vJob, cGeom, List.cons_append, List.nil_append] at l1
      simp [St.enter, enumFrom, subs, setSubs, l1, c1, c2, c3, aw]
    have okS := okJob_of (jobI_snap hj) sms
    have hw := stNew_z j ok okS (fun n hn => by have := sms.each n hn; omega)
    have hx := fun H => rstNew_ev j ok H
    by_cases h : (checkF j).1 = 0
    · have r := (right_iff j).1 h
      have w := okW_of r sms
      have n1 := fun H => stNext_ev (snapG j) w s c (by omega) (by omega) (by omega) H
      have n2 := fun H => rstNext_ev (snapG j) w s c (by omega) (by omega) (by omega) H
      simp only [if_pos h] at hw hx
      generalize nextS (snapG j) s c = q at *
      generalize snapG j = J at *
      simp only [vJob, cJobW, cGeom, List.cons_append, List.nil_append] at l1 hw hx n2
      simp [St.enter, enumFrom, subs, setSubs, solN, sd, l1, c1, c2, c3, aw, hw, hx, n1, n2]
    · simp only [if_neg h] at hw hx
      simp only [vJob, cGeom, List.cons_append, List.nil_append] at l1 hw hx
      simp [St.enter, enumFrom, subs, setSubs, solN, sd, l1, c1, c2, c3, aw, hw, hx]
end Go.EnvOf
