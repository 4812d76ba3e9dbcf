/- The program's functions and the document's, evaluated. -/
import Derived.Test.YtddnebpblclpfaaGreatEngAll8
import Derived.Test.YtddnebpblclpfaaGreatText3
import Derived.Test.YtddnebpblclpfaaGreatText2
set_option linter.unusedSimpArgs false
set_option linter.unusedVariables false
/- The layer queue: taking the next floats of each class. -/
namespace Go.EnvOf
open Go Go.Eng
set_option maxRecDepth 100000

theorem okEl_upV : ∀ (es : List Int), (upV (es.map encI)).all (okEl 1) = true
  | [] => rfl
  | x :: r => by simp only [List.map_cons, upV_cons, List.all_cons, okEl_upV r, Bool.and_true]; rfl
/-! ### A class's share -/
def okU (n : Nat) (u w : Int) : Prop := 0 ≤ u ∧ 0 ≤ w ∧ u ≤ n ∧ w ≤ n - u
instance (n : Nat) (u w : Int) : Decidable (okU n u w) := inferInstanceAs (Decidable (_ ∧ _))
/-! ### Taking -/
def okT (l : List Float) (x y : C3) : Prop := okU (figOf 0 0 l).length x.a y.a ∧ okU (figOf 1 0 l).length x.b y.b ∧ okU (figOf 2 0 l).length x.c y.c
instance (l : List Float) (x y : C3) : Decidable (okT l x y) := inferInstanceAs (Decidable (_ ∧ _))
end Go.EnvOf

/- The layer queue: counting what was taken; the next ones. -/
namespace Go.EnvOf
open Go Go.Eng
set_option maxRecDepth 100000
/-! ### Equal lists of numbers -/
def qB (H : Heap) : Ex × St := (.ret, ⟨[(4, vB false)], [], H, H.length, []⟩)
/-! ### Are these the next ones? -/
end Go.EnvOf

/- What stands in a column: the document's text; the lowest foot; the same things. -/
namespace Go.EnvOf
open Go Go.Eng
set_option maxRecDepth 100000
def rowO (H : Heap) : List Put → V
  | [] => .nils
  | x :: r => .row H.length (x :: r).length 0 (x :: r).length
def rowH (H : Heap) : List Put → Heap
  | [] => H
  | x :: r => H ++ [.row 5 (upV ((x :: r).map encPut))]
def rxE (l : List Item) (frm to : Int) (sz : List Int) (H : Heap) (st : Pn × Nat) (i : Nat) : St :=
  ⟨[(0, vItems l), (1, vI frm), (2, vI to), (4, sli sz), (10, .lptr 10 0), (11, .lptr 11 0), (12, vI st.2), (13, vI i)], [(10, [.nils, vI 0]), (11, [rowO H st.1.ps, vI st.1.y])], rowH H st.1.ps, H.length, []⟩
def rxX (l : List Item) (frm to : Int) (sz : List Int) (H : Heap) (st : Pn × Nat) : Ex × St :=
  (.exit 0, ⟨[(0, vItems l), (1, vI frm), (2, vI to), (4, sli sz), (10, .lptr 10 0), (11, .lptr 11 0), (12, vI st.2), (13, vI l.length), (19, vB false)], [(10, [.nils, vI 0]), (11, [rowO H st.1.ps, vI st.1.y])], rowH H st.1.ps, H.length, []⟩)
theorem rText_lp (l : List Item) (hl : l.length ≤ 1000000) (frm to : Int) (sz : List Int) (hz : sz.length ≤ 1000000) (H : Heap) (y : Int) :
    evD EE lp49_0 (rxE l frm to sz H (⟨y, []⟩, 0) 0) = some (rxX l frm to sz H (fold (txR frm to sz) (⟨y, []⟩, 0) 0 l)) := by
  unfold lp49_0
  refine evD_fold l (fun st i => rxE l frm to sz H st i) (fun st i => st.1.ps.length ≤ i ∧ st.2 ≤ i ∧ i ≤ l.length) (txR frm to sz) (fun st => rxX l frm to sz H st) (fun _ _ => rfl) ?_ ?_ (⟨y, []⟩, 0) 0 ⟨Nat.le_refl _, Nat.le_refl _, Nat.zero_le _⟩ (Nat.zero_le _)
  · rintro ⟨⟨y, ps⟩, n⟩ i x ⟨hn1, hn2, -⟩ hx
    simp only at hn1 hn2
    have hlt := (List.getElem?_eq_some_iff.1 hx).1
    have w : IntKind.i64.wrap ((i : Int) + 1) = ((i + 1 : Nat) : Int) := w64 (by omega) (by omega)
    have w2 : IntKind.i64.wrap ((n : Int) + 1) = ((n + 1 : Nat) : Int) := w64 (by omega) (by omega)
    have hix := fun H k => ixs_nat H encItem (k := k) (s := 7) hx rfl
    simp only [encItem] at hix
    have hm : ps.length + 1 < most := by unfold most; omega
    refine ⟨?_, ?_⟩
    · simp only [txR]
      by_cases h1 : frm ≤ i
      · by_cases h2 : (i : Int) < to
        · rw [if_pos ⟨h1, h2⟩]
          by_cases k1 : x.k = 1
          · rw [if_pos k1]
            cases ps with
            | nil =>
              have h1' : 1 < most := by decide
              simp [rxE, rowO, rowH, putP, addY, hlt, hix, subs, setSubs, h1, h2, k1, w, h1', encPut]
            | cons a t =>
              simp only [List.length_cons] at hm
              simp [rxE, rowO, rowH, putP, addY, hlt, hix, subs, setSubs, h1, h2, k1, w, hm, encPut]; simp [upV]
          · rw [if_neg k1]
            by_cases k2 : x.k = 2
            · rw [if_pos k2]
              by_cases c : n < sz.length
              · have hz0 : sz[n]? = some (rd sz n) := by rw [List.getElem?_eq_getElem c, rd_of (List.getElem?_eq_getElem c)]
                have hiz := fun H k => ixs_nat H encI (k := k) (s := 1) hz0 rfl
                rw [if_pos c]
                simp [rxE, movP, addY, hlt, hix, hiz, encI, subs, setSubs, h1, h2, k1, k2, w, w2, c]
              · rw [if_neg c]
                simp [rxE, movP, addY, hlt, hix, subs, setSubs, h1, h2, k1, k2, w, w2, c]
            · rw [if_neg k2]
              simp [rxE, hlt, hix, subs, setSubs, h1, h2, k1, k2, w]
        · rw [if_neg (fun h => h2 h.2)]
          simp [rxE, hlt, hix, subs, setSubs, h1, h2, w]
      · rw [if_neg (fun h => h1 h.1)]
        simp [rxE, hlt, hix, subs, setSubs, h1, w]
    · simp only [txR]
      (repeat' split) <;> refine ⟨?_, ?_, hlt⟩ <;> simp only [putP, movP, List.length_append, List.length_cons, List.length_nil] <;> omega
  · rintro st -
    refine ⟨?_, by simp [rxX]⟩
    simp [rxE, rxX]
theorem rText_ev (l : List Item) (hl : l.length ≤ 1000000) (frm to y : Int) (sz : List Int) (hz : sz.length ≤ 1000000) (H : Heap) :
    clD EE (.p (.fn 49)) [vItems l, vI frm, vI to, vI y, sli sz] H = some (.agg [vPuts (textP l frm to ⟨y, []⟩ sz).ps, vI (textP l frm to ⟨y, []⟩ sz).y], none) := by
  rw [clD_body _ _ _ _ _ _ (noP _) fn49]
  have k := rText_lp l hl frm to sz hz H y
  have e := txR_text l frm to ⟨y, []⟩ sz
  generalize fold (txR frm to sz) (⟨y, []⟩, 0) 0 l = q at *
  rw [← e]
  clear e
  obtain ⟨⟨y', ps⟩, n⟩ := q
  simp only [rxE, rxX, rowO, rowH] at k
  cases ps with
  | nil =>
    simp at k
    simp [St.enter, enumFrom, subs, setSubs, k]
  | cons a t =>
    simp at k
    simp [St.enter, enumFrom, subs, setSubs, k]
/-! ### The lowest foot -/
def footS (y : Int) (_ : Nat) (p : Put) : Int := max y (addY p.y p.h)
theorem fold_foot : ∀ (l : List Put) (y : Int) (i : Nat), fold footS y i l = l.foldl (fun y p => max y (addY p.y p.h)) y
  | [], _, _ => rfl
  | x :: r, y, i => by simp only [fold, List.foldl_cons, fold_foot r]; rfl
def foE1 (l : List Put) (H : Heap) (y : Int) (i : Nat) : St := ⟨[(3, vI y), (6, vPuts l), (7, vI l.length), (8, vI i)], [], H, H.length, []⟩
def foX1 (l : List Put) (H : Heap) (y : Int) : Ex × St := (.exit 0, ⟨[(3, vI y), (6, vPuts l), (7, vI l.length), (8, vI l.length), (9, vB false)], [], H, H.length, []⟩)
theorem plFoot_ev (l : List Put) (hl : l.length ≤ 100000000) (H : Heap) : clD EE (.p (.fn 50)) [vPuts l] H = some (vI (footP l), none) := by
  rw [clD_body _ _ _ _ _ _ (noP _) fn50]
  have k : evD EE lp50_0 (foE1 l H 0 0) = some (foX1 l H (footP l)) := by
    unfold lp50_0
    refine Eq.trans (evD_fold l (fun y i => foE1 l H y i) (fun _ _ => True) footS (fun y => foX1 l H y) (fun _ _ => rfl) ?_ ?_ 0 0 trivial (Nat.zero_le _)) (by rw [List.drop_zero, fold_foot]; rfl)
    · rintro y i x - hx
      refine ⟨?_, trivial⟩
      have hlt := (List.getElem?_eq_some_iff.1 hx).1
      have w : IntKind.i64.wrap ((i : Int) + 1) = ((i + 1 : Nat) : Int) := w64 (by omega) (by omega)
      have hix := fun H k => ixs_nat H encPut (k := k) (s := 5) hx rfl
      simp only [encPut] at hix
      simp [foE1, footS, addY, hlt, hix, subs, setSubs, w]
    · rintro y -
      simp [foE1, foX1]
  simp [foE1, foX1] at k
  simp [St.enter, enumFrom, k]
def foE2 (l : List Put) (H : Heap) (y : Int) (i : Nat) : St := ⟨[(0, vPuts l), (3, vI y), (4, vI i)], [], H, H.length, []⟩
def foX2 (l : List Put) (H : Heap) (y : Int) : Ex × St := (.exit 0, ⟨[(0, vPuts l), (3, vI y), (4, vI l.length), (8, vB false)], [], H, H.length, []⟩)
theorem rFoot_ev (l : List Put) (hl : l.length ≤ 100000000) (H : Heap) : clD EE (.p (.fn 51)) [vPuts l] H = some (vI (footP l), none) := by
  rw [clD_body _ _ _ _ _ _ (noP _) fn51]
  have k : evD EE lp51_0 (foE2 l H 0 0) = some (foX2 l H (footP l)) := by
    unfold lp51_0
    refine Eq.trans (evD_fold l (fun y i => foE2 l H y i) (fun _ _ => True) footS (fun y => foX2 l H y) (fun _ _ => rfl) ?_ ?_ 0 0 trivial (Nat.zero_le _)) (by rw [List.drop_zero, fold_foot]; rfl)
    · rintro y i x - hx
      refine ⟨?_, trivial⟩
      have hlt := (List.getElem?_eq_some_iff.1 hx).1
      have w : IntKind.i64.wrap ((i : Int) + 1) = ((i + 1 : Nat) : Int) := w64 (by omega) (by omega)
      have hix := fun H k => ixs_nat H encPut (k := k) (s := 5) hx rfl
      simp only [encPut] at hix
      simp [foE2, footS, addY, hlt, hix, subs, setSubs, w]
    · rintro y -
      simp [foE2, foX2]
  simp [foE2, foX2] at k
  simp [St.enter, enumFrom, k]
/-! ### The same things -/
theorem put_cells (x y : Put) : eqCells [true, true, true, true, true] ((encPut x).map .p) ((encPut y).map .p) = some (decide (x = y)) := by
  obtain ⟨a, b, c, d, e⟩ := x
  obtain ⟨a', b', c', d', e'⟩ := y
  simp [encPut, Bool.decide_and]
def r37E (a b : List Put) (H : Heap) (i : Nat) : St := ⟨[(0, vPuts a), (1, vPuts b), (5, vI i)], [], H, H.length, []⟩
def r37X (a b : List Put) (H : Heap) : Ex × St := (.exit 0, ⟨[(0, vPuts a), (1, vPuts b), (5, vI a.length), (14, vB false)], [], H, H.length, []⟩)
theorem rsame37_lp (a b : List Put) (H : Heap) (hl : a.length = b.length) (ha : a.length ≤ 100000000) : evD EE lp46_0 (r37E a b H 0) = some (rng (step2 (fun x y => decide (x = y)) b (qB H)) (fun _ => r37X a b H) () 0 a) := by
  unfold lp46_0
  refine evD_rng a (fun (_ : Unit) i => r37E a b H i) (fun _ _ => True) _ (fun _ => r37X a b H) (fun _ _ => rfl) ?_ ?_ () 0 trivial (Nat.zero_le _)
  · rintro _ i x - hx
    have hlt := (List.getElem?_eq_some_iff.1 hx).1
    have hy : b[i]? = some (b[i]'(by omega)) := List.getElem?_eq_getElem (by omega)
    generalize (b[i]'(by omega)) = y at hy
    have w : IntKind.i64.wrap ((i : Int) + 1) = ((i + 1 : Nat) : Int) := w64 (by omega) (by omega)
    have hix := fun H k => ixs_nat H encPut (k := k) (s := 5) hx rfl
    have hiy := fun H k => ixs_nat H encPut (k := k) (s := 5) hy rfl
    have hc := put_cells x y
    rw [step2_some hy]
    simp only [encPut, List.map_cons, List.map_nil] at hix hiy hc
    by_cases hxy : x = y
    · subst hxy
      simp [r37E, hlt, hix, hiy, w, subs]
    · simp [hxy, -eqCells_cons] at hc
      simp [-eqCells_cons, r37E, qB, hlt, hix, hiy, hxy, subs, hc]
  · rintro _ -
    simp [r37E, r37X]
theorem rsame37_ev (a b : List Put) (H : Heap) (ha : a.length ≤ 100000000) : clD EE (.p (.fn 46)) [vPuts a, vPuts b] H = some (vB (decide (a = b)), none) := by
  rw [clD_body _ _ _ _ _ _ (noP _) fn46]
  by_cases hl : a.length = b.length
  · have key := rsame37_lp a b H hl ha
    rw [rng_all2 (fun x y => decide (x = y)) b (qB H) (r37X a b H) a 0 (by omega), List.drop_zero, all2_eq a b hl] at key
    have hl' : (a.length : Int) = b.length := by omega
    by_cases h : a = b
    · rw [if_pos (by simpa using h)] at key
      subst h
      simp [r37E, r37X] at key
      simp [St.enter, enumFrom, key]
    · rw [if_neg (by simpa using h)] at key
      simp [r37E, qB, hl] at key
      simp [St.enter, enumFrom, hl', key, h]
  · have hl' : ¬ (a.length : Int) = b.length := by omega
    have h : a ≠ b := by rintro rfl; exact hl rfl
    simp [St.enter, enumFrom, hl', h]
theorem textP_len (l : List Item) (frm to : Int) (s : Pn) (sz : List Int) : (textP l frm to s sz).ps.length ≤ s.ps.length + l.length := by
  have : ∀ (L : List Item) (st : Pn × List Int) (i : Nat), (fold txS st i L).1.ps.length ≤ st.1.ps.length + L.length := by
    intro L
    induction L with
    | nil => intro st i; simp [fold]
    | cons x r ih =>
      intro st i
      simp only [fold]
      refine Nat.le_trans (ih _ _) ?_
      have : (txS st i x).1.ps.length ≤ st.1.ps.length + 1 := by unfold txS; (repeat' split) <;> simp [putP, movP]
      simp only [List.length_cons]; omega
  unfold textP
  refine Nat.le_trans (this _ _ _) ?_
  simp only [List.length_drop, txL, List.length_take]; omega
end Go.EnvOf

/- The law of text. -/
namespace Go.EnvOf
open Go Go.Eng
set_option maxRecDepth 100000
def farH (x : Item) : Bool := decide (x.h < -1099511627776) || decide (1099511627776 < x.h)
def farI (x : Int) : Bool := decide (x < -1099511627776) || decide (1099511627776 < x)
def p7E (l : List Item) (a b : Int) (sz : List Int) (i : Nat) : St := ⟨[(0, vItems l), (2, sli sz), (4, .lptr 4 0), (7, vI i)], [(4, [vI a, vI b])], [], 0, []⟩
def p7X (l : List Item) (a b : Int) (sz : List Int) : Ex × St := (.exit 0, ⟨[(0, vItems l), (2, sli sz), (4, .lptr 4 0), (7, vI l.length), (24, vB false)], [(4, [vI a, vI b])], [], 0, []⟩)
def p8E (l : List Item) (a b : Int) (sz : List Int) (i : Nat) : St := ⟨[(0, vItems l), (2, sli sz), (4, .lptr 4 0), (8, vI i)], [(4, [vI a, vI b])], [], 0, []⟩
def p8X (l : List Item) (a b : Int) (sz : List Int) : Ex × St := (.exit 2, ⟨[(0, vItems l), (2, sli sz), (4, .lptr 4 0), (8, vI sz.length), (45, vB false)], [(4, [vI a, vI b])], [], 0, []⟩)
def pB : Ex × St := (.ret, ⟨[(6, vB true)], [], [], 0, []⟩)
theorem p7_lp (l : List Item) (hl : l.length ≤ 1000000) (a b : Int) (sz : List Int) : evD EE lp9_0 (p7E l a b sz 0) = some (if l.any farH = true then pB else p7X l a b sz) := by
  have aw := fun H => say44_ev H
  unfold lp9_0
  refine Eq.trans (evD_rng l (fun (_ : Unit) i => p7E l a b sz i) (fun _ _ => True) (stepB farH pB) (fun _ => p7X l a b sz) (fun _ _ => rfl) ?_ ?_ () 0 trivial (Nat.zero_le _)) (by rw [List.drop_zero, rng_any])
  · rintro _ i x - hx
    have hlt := (List.getElem?_eq_some_iff.1 hx).1
    have w1 : IntKind.i64.wrap ((i : Int) + 1) = ((i + 1 : Nat) : Int) := w64 (by omega) (by omega)
    have hix := fun H k => ixs_nat H encItem (k := k) (s := 7) hx rfl
    simp only [encItem] at hix
    by_cases c : x.h < -1099511627776
    · simp [stepB, farH, p7E, pB, hlt, hix, subs, c, aw]
    · by_cases d : 1099511627776 < x.h
      · simp [stepB, farH, p7E, pB, hlt, hix, subs, c, d, aw]
      · simp [stepB, farH, p7E, hlt, hix, subs, c, d, w1]
  · rintro _ -
    simp [p7E, p7X]
theorem p8_lp (l : List Item) (a b : Int) (sz : List Int) (hz : sz.length ≤ 1000000) : evD EE lp9_1 (p8E l a b sz 0) = some (if sz.any farI = true then pB else p8X l a b sz) := by
  have aw := fun H => say44_ev H
  unfold lp9_1
  refine Eq.trans (evD_rng sz (fun (_ : Unit) i => p8E l a b sz i) (fun _ _ => True) (stepB farI pB) (fun _ => p8X l a b sz) (fun _ _ => rfl) ?_ ?_ () 0 trivial (Nat.zero_le _)) (by rw [List.drop_zero, rng_any])
  · rintro _ i x - hx
    have hlt := (List.getElem?_eq_some_iff.1 hx).1
    have w1 : IntKind.i64.wrap ((i : Int) + 1) = ((i + 1 : Nat) : Int) := w64 (by omega) (by omega)
    have hix := fun H k => ixs_nat H encI (k := k) (s := 1) hx rfl
    simp only [encI] at hix
    by_cases c : x < -1099511627776
    · simp [stepB, farI, p8E, pB, hlt, hix, subs, c, aw]
    · by_cases d : 1099511627776 < x
      · simp [stepB, farI, p8E, pB, hlt, hix, subs, c, d, aw]
      · simp [stepB, farI, p8E, hlt, hix, subs, c, d, w1]
  · rintro _ -
    simp [p8E, p8X]
theorem placeText_ev (l : List Item) (a b : Int) (sz : List Int) : clD EE (.p (.fn 9)) [vItems l, .agg [vI a, vI b], sli sz] [] = some (.p (.bool true), none) := by
  rw [clD_body _ _ _ _ _ _ (noP _) fn9]
  have aw := fun H => say44_ev H
  by_cases c1 : (100 : Int) < l.length
  · simp [St.enter, enumFrom, subs, setSubs, c1, aw]
  by_cases c2 : (100 : Int) < sz.length
  · simp [St.enter, enumFrom, subs, setSubs, c1, c2, aw]
  have k7 := p7_lp l (by omega) a b sz
  have k8 := p8_lp l a b sz (by omega)
  simp only [p7E, p7X, p8E, p8X, pB] at k7 k8
  cases b7 : l.any farH with
  | true => simp [b7] at k7; simp [St.enter, enumFrom, subs, setSubs, c1, c2, k7]
  | false =>
    simp [b7] at k7
    cases b8 : sz.any farI with
    | true => simp [b8] at k8; simp [St.enter, enumFrom, subs, setSubs, c1, c2, k7, k8]
    | false =>
      simp [b8] at k8
      have t1 := fun H => plText_ev l (by omega) a b 7 sz H
      have t2 := fun H => rText_ev l (by omega) a b 7 sz (by omega) H
      have hl := textP_len l a b ⟨7, []⟩ sz
      generalize textP l a b ⟨7, []⟩ sz = q at *
      have hl' : q.ps.length ≤ 100000000 := by simp at hl; omega
      have s := fun H => rsame37_ev q.ps q.ps H hl'
      have f1 := fun H => plFoot_ev q.ps hl' H
      have f2 := fun H => rFoot_ev q.ps hl' H
      simp [St.enter, enumFrom, subs, setSubs, ixaV, shiftV, c1, c2, k7, k8, t1, t2, s, f1, f2, aw]
end Go.EnvOf
