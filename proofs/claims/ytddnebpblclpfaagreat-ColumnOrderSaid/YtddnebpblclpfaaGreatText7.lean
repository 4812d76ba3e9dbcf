/- The program's functions and the document's, evaluated. -/
import Derived.Test.YtddnebpblclpfaaGreatText4
import Derived.Test.YtddnebpblclpfaaGreatText2
import Derived.Test.YtddnebpblclpfaaGreatText6
set_option linter.unusedSimpArgs false
set_option linter.unusedVariables false
/- Jobs whose lengths may be. -/
namespace Go.EnvOf
open Go Go.Eng

def fairN (x : Int) : Bool := decide (0 ≤ x) && decide (x ≤ 1073741823)
def lensOf (j : Job) : List Int := [j.g.grid, j.g.high, j.g.first, j.g.rule, j.g.sep] ++ j.items.map (·.h) ++ j.notes.flatMap (·.lines) ++ j.floats.map (·.h)
def fairF (j : Job) : Bool := !((lensOf j).any fun x => !fairN x)

end Go.EnvOf

/- The law GridStays, evaluated: what is snapped is on the grid, and stays. -/
namespace Go.EnvOf
open Go Go.Eng
set_option maxRecDepth 100000

/-! ### Numbers -/
/-! ### Jobs -/
theorem okItemG {x : Item} (s : Int) (h : okItem x) : okItem (itemG s x) := by
  have z : I64 0 := ⟨by omega, by omega⟩
  unfold itemG
  split
  · exact ⟨h.1, upG_i64 h.2.1, h.2.2⟩
  · split
    · exact ⟨h.1, nearG_i64 h.2.1, h.2.2.1, z, z, z, h.2.2.2.2.2.2⟩
    · exact h
theorem jobI_snap {j : Job} (h : jobI j) : jobI (snapG j) := by
  unfold snapG
  split
  · exact h
  · have hg := h.g
    simp only [okGeom] at hg
    refine ⟨⟨hg.1, hg.2.1, hg.2.2.1, downG_i64 hg.2.2.2.1, downG_i64 hg.2.2.2.2.1, hg.2.2.2.2.2.1, upG_i64 hg.2.2.2.2.2.2.1, upG_i64 hg.2.2.2.2.2.2.2.1, hg.2.2.2.2.2.2.2.2⟩, ?_, ?_, ?_⟩
    · intro x hx
      obtain ⟨y, hy, rfl⟩ := List.mem_map.1 hx
      exact okItemG _ (h.items y hy)
    · intro n hn x hx
      obtain ⟨m, hm, rfl⟩ := List.mem_map.1 hn
      obtain ⟨y, hy, rfl⟩ := List.mem_map.1 hx
      exact upG_i64 (h.notes m hm y hy)
    · intro x hx
      obtain ⟨y, hy, rfl⟩ := List.mem_map.1 hx
      exact ⟨(h.floats y hy).1, upG_i64 (h.floats y hy).2.1, (h.floats y hy).2.2⟩
section
variable {j : Job} (hf : fairF j = true)
include hf
end

end Go.EnvOf

/- The laws of states: what follows a column; the start. -/
namespace Go.EnvOf
open Go Go.Eng
set_option maxRecDepth 100000
end Go.EnvOf

/- States: which comes first, as the program and the document tell it. -/
namespace Go.EnvOf
open Go Go.Eng
set_option maxRecDepth 100000
theorem nan_ev (a : Int) (H : Heap) : clD EE (.p (.fn 170)) [vI a] H = some (vB false, none) := by
  rw [clD_body _ _ _ _ _ _ (noP _) fn170]
  simp [St.enter, enumFrom]
theorem cmpI_ev (a b : Int) (H : Heap) : clD EE (.p (.fn 76)) [vI a, vI b] H = some (vI (cmp1 a b), none) := by
  rw [clD_body _ _ _ _ _ _ (noP _) fn76]
  have n1 := fun H => nan_ev a H
  have n2 := fun H => nan_ev b H
  unfold cmp1
  by_cases h1 : a < b
  · simp [St.enter, enumFrom, n1, n2, h1]
  · by_cases h2 : b < a
    · simp [St.enter, enumFrom, n1, n2, h1, h2]
    · simp [St.enter, enumFrom, n1, n2, h1, h2]
def orE (l : List Int) (H : Heap) (i : Nat) : St := ⟨[(3, vI 0), (6, sli l), (7, vI l.length), (8, vI i)], [], H, H.length, []⟩
def orX (l : List Int) (H : Heap) : Ex × St := (.exit 0, ⟨[(3, vI 0), (6, sli l), (7, vI l.length), (8, vI l.length), (9, vB false)], [], H, H.length, []⟩)
def orS (H : Heap) (_ : Unit) (_ : Nat) (x : Int) : Unit ⊕ (Ex × St) := if x = 0 then .inl () else .inr (.ret, ⟨[(2, vI x)], [], H, H.length, []⟩)
theorem or_lp (l : List Int) (H : Heap) (hl : l.length ≤ 1000000) : evD EE lp75_0 (orE l H 0) = some (rng (orS H) (fun _ => orX l H) () 0 l) := by
  unfold lp75_0
  refine evD_rng l (fun (_ : Unit) i => orE l H i) (fun _ _ => True) (orS H) (fun _ => orX l H) (fun _ _ => rfl) ?_ ?_ () 0 trivial (Nat.zero_le _)
  · rintro _ i x - hx
    have hlt := (List.getElem?_eq_some_iff.1 hx).1
    have w : IntKind.i64.wrap ((i : Int) + 1) = ((i + 1 : Nat) : Int) := w64 (by omega) (by omega)
    have hix := fun H k => ixs_nat H encI (k := k) (s := 1) hx rfl
    by_cases h : x = 0
    · simp only [orS, if_pos h]
      simp [orE, hlt, hix, encI, subs, w, h]
    · simp only [orS, if_neg h]
      simp [orE, hlt, hix, encI, subs, w, h]
  · rintro _ -
    simp [orE, orX]
theorem or_rng (H : Heap) (fin : Ex × St) : ∀ (l : List Int) (i : Nat), rng (orS H) (fun _ => fin) () i l = if orL l = 0 then fin else (.ret, ⟨[(2, vI (orL l))], [], H, H.length, []⟩)
  | [], _ => by simp [rng, orL]
  | x :: r, i => by
    simp only [rng, orS, orL]
    by_cases h : x = 0
    · simp only [if_pos h]; exact or_rng H fin r (i + 1)
    · simp only [if_neg h]
theorem cmpOr_ev (l : List Int) (H : Heap) (hl : l.length ≤ 1000000) : clD EE (.p (.fn 75)) [sli l] H = some (vI (orL l), none) := by
  rw [clD_body _ _ _ _ _ _ (noP _) fn75]
  have k := or_lp l H hl
  rw [or_rng] at k
  by_cases h : orL l = 0
  · rw [if_pos h] at k
    simp [orE, orX] at k
    simp [St.enter, enumFrom, k, h]
  · rw [if_neg h] at k
    simp [orE] at k
    simp [St.enter, enumFrom, k]
theorem lexC_bd : ∀ a b : List Int, -1 ≤ lexC a b ∧ lexC a b ≤ 1
  | [], [] => by simp [lexC]
  | [], _ :: _ => by simp [lexC]
  | _ :: _, [] => by simp [lexC]
  | x :: a, y :: b => by
    have := lexC_bd a b
    simp only [lexC]
    unfold cmp1
    (repeat' split) <;> omega
end Go.EnvOf

/- Columns: their order, and which are the same. -/
namespace Go.EnvOf
open Go Go.Eng
set_option maxRecDepth 100000
/-! ### Too large -/
def lcE (c : Colm) (H : Heap) (i : Nat) : St := ⟨[(1, .lptr 1 0), (3, vI i)], [(1, [vI c.k, vI c.frm, vI c.to, vPieces c.notes, sli c.top, sli c.bot])], H, H.length, []⟩
def lcX (c : Colm) (H : Heap) (i : Nat) : Ex × St := (.exit 0, ⟨[(1, .lptr 1 0), (3, vI i), (12, vB false)], [(1, [vI c.k, vI c.frm, vI c.to, vPieces c.notes, sli c.top, sli c.bot])], H, H.length, []⟩)
def lcB (H : Heap) : Ex × St := (.ret, ⟨[(2, vB true)], [], H, H.length, []⟩)
theorem largeC_lp (c : Colm) (H : Heap) : evD EE lp39_0 (lcE c H 0) = some (if (c.notes.take 50).any badPiece = true then lcB H else lcX c H (min 50 c.notes.length)) := by
  unfold lp39_0
  refine Eq.trans (evD_rng (c.notes.take 50) (fun (_ : Unit) i => lcE c H i) (fun _ _ => True) (stepB badPiece (lcB H)) (fun _ => lcX c H (min 50 c.notes.length)) (fun _ _ => rfl) ?_ ?_ () 0 trivial (Nat.zero_le _)) (by rw [List.drop_zero, rng_any])
  · rintro _ i x - hx
    have hlt := (List.getElem?_eq_some_iff.1 hx).1
    rw [List.length_take] at hlt
    have hx' : c.notes[i]? = some x := by rw [List.getElem?_take] at hx; split at hx <;> simp_all
    have hl1 : i < c.notes.length := by omega
    have hl2 : (i : Int) < 50 := by omega
    have w1 : IntKind.i64.wrap ((i : Int) + 1) = ((i + 1 : Nat) : Int) := w64 (by omega) (by omega)
    have hix := fun H k => ixs_nat H encPiece (k := k) (s := 3) hx' rfl
    simp only [encPiece] at hix
    by_cases a : x.frm < -1073741824
    · simp [stepB, badPiece, lcE, lcB, hl1, hl2, hix, subs, a]
    · by_cases b : 1073741824 < x.frm
      · simp [stepB, badPiece, lcE, lcB, hl1, hl2, hix, subs, a, b]
      · by_cases d : x.to < -1073741824
        · simp [stepB, badPiece, lcE, lcB, hl1, hl2, hix, subs, a, b, d]
        · by_cases e : 1073741824 < x.to
          · simp [stepB, badPiece, lcE, lcB, hl1, hl2, hix, subs, a, b, d, e]
          · simp [stepB, badPiece, lcE, hl1, hl2, hix, subs, a, b, d, e, w1]
  · rintro _ -
    refine ⟨?_, by simp [lcX]⟩
    rw [List.length_take]
    by_cases h : c.notes.length ≤ 50
    · have e : min 50 c.notes.length = c.notes.length := by omega
      rw [e]; simp [lcE, lcX, subs]
    · have e : min 50 c.notes.length = 50 := by omega
      have h2 : (50 : Int) < c.notes.length := by omega
      rw [e]; simp [lcE, lcX, subs, h2]
theorem largeC_ev (c : Colm) (H : Heap) : clD EE (.p (.fn 39)) [vColm c] H = some (vB (badC c), none) := by
  rw [clD_body _ _ _ _ _ _ (noP _) fn39]
  have k := largeC_lp c H
  unfold badC
  simp only [lcE, lcX, lcB] at k
  cases b : (c.notes.take 50).any badPiece with
  | true => simp [b] at k; simp [St.enter, enumFrom, subs, setSubs, k]
  | false =>
    simp [b] at k
    by_cases d : 50 < (c.notes.length : Int)
    · simp [St.enter, enumFrom, subs, setSubs, k, d]
    · by_cases e : 50 < (c.top.length : Int) <;> simp [St.enter, enumFrom, subs, setSubs, k, d, e]
/-! ### The same columns -/
def r22E (a b : List Piece) (H : Heap) (i : Nat) : St := ⟨[(0, vPieces a), (1, vPieces b), (5, vI i)], [], H, H.length, []⟩
def r22X (a b : List Piece) (H : Heap) : Ex × St := (.exit 0, ⟨[(0, vPieces a), (1, vPieces b), (5, vI a.length), (14, vB false)], [], H, H.length, []⟩)
theorem rsame22_lp (a b : List Piece) (H : Heap) (hl : a.length = b.length) (ha : a.length ≤ 1000000) : evD EE lp140_0 (r22E a b H 0) = some (rng (step2 (fun x y => decide (x = y)) b (qB H)) (fun _ => r22X a b H) () 0 a) := by
  unfold lp140_0
  refine evD_rng a (fun (_ : Unit) i => r22E a b H i) (fun _ _ => True) _ (fun _ => r22X a b H) (fun _ _ => rfl) ?_ ?_ () 0 trivial (Nat.zero_le _)
  · rintro _ i x - hx
    have hlt := (List.getElem?_eq_some_iff.1 hx).1
    have hy : b[i]? = some (b[i]'(by omega)) := List.getElem?_eq_getElem (by omega)
    generalize (b[i]'(by omega)) = y at hy
    have w : IntKind.i64.wrap ((i : Int) + 1) = ((i + 1 : Nat) : Int) := w64 (by omega) (by omega)
    have hix := fun H k => ixs_nat H encPiece (k := k) (s := 3) hx rfl
    have hiy := fun H k => ixs_nat H encPiece (k := k) (s := 3) hy rfl
    have hc := piece_cells x y
    rw [step2_some hy]
    simp only [encPiece, List.map_cons, List.map_nil] at hix hiy hc
    by_cases hxy : x = y
    · subst hxy
      simp [r22E, hlt, hix, hiy, w, subs]
    · simp [hxy, -eqCells_cons] at hc
      simp [-eqCells_cons, r22E, qB, hlt, hix, hiy, hxy, subs, hc]
  · rintro _ -
    simp [r22E, r22X]
theorem rsame22_ev (a b : List Piece) (H : Heap) (ha : a.length ≤ 1000000) : clD EE (.p (.fn 140)) [vPieces a, vPieces b] H = some (vB (decide (a = b)), none) := by
  rw [clD_body _ _ _ _ _ _ (noP _) fn140]
  by_cases hl : a.length = b.length
  · have key := rsame22_lp a b H hl ha
    rw [rng_all2 (fun x y => decide (x = y)) b (qB H) (r22X a b H) a 0 (by omega), List.drop_zero, all2_eq a b hl] at key
    have hl' : (a.length : Int) = b.length := by omega
    by_cases h : a = b
    · rw [if_pos (by simpa using h)] at key
      subst h
      simp [r22E, r22X] at key
      simp [St.enter, enumFrom, key]
    · rw [if_neg (by simpa using h)] at key
      simp [r22E, qB, hl] at key
      simp [St.enter, enumFrom, hl', key, h]
  · have hl' : ¬ (a.length : Int) = b.length := by omega
    have h : a ≠ b := by rintro rfl; exact hl rfl
    simp [St.enter, enumFrom, hl', h]
def sameC (a b : Colm) : Bool := decide (a.k = b.k) && decide (a.frm = b.frm) && decide (a.to = b.to) && decide (a.notes = b.notes) && decide (a.top = b.top) && decide (a.bot = b.bot)
theorem sameC_iff (a b : Colm) : sameC a b = true ↔ a = b := by
  obtain ⟨a1, a2, a3, a4, a5, a6⟩ := a
  obtain ⟨b1, b2, b3, b4, b5, b6⟩ := b
  simp [sameC, and_assoc]
theorem coSame_ev (a b : Colm) (h1 : a.notes.length ≤ 1000000) (h2 : a.top.length ≤ 1000000) (h3 : a.bot.length ≤ 1000000) (H : Heap) : clD EE (.p (.fn 54)) [vColm a, vColm b] H = some (vB (sameC a b), none) := by
  rw [clD_body _ _ _ _ _ _ (noP _) fn54]
  have s := fun H => splitSame_ev a.notes b.notes h1 H
  have t := fun H => eqInts_ev a.top b.top H h2
  have u := fun H => eqInts_ev a.bot b.bot H h3
  unfold sameC
  by_cases c1 : a.k = b.k
  · by_cases c2 : a.frm = b.frm
    · by_cases c3 : a.to = b.to
      · by_cases c4 : a.notes = b.notes
        · by_cases c5 : a.top = b.top
          · simp only [c4, c5] at s t; simp [St.enter, enumFrom, subs, setSubs, s, t, u, c1, c2, c3, c4, c5]
          · simp only [c4] at s; simp [St.enter, enumFrom, subs, setSubs, s, t, c1, c2, c3, c4, c5]
        · simp [St.enter, enumFrom, subs, setSubs, s, c1, c2, c3, c4]
      · simp [St.enter, enumFrom, subs, setSubs, c1, c2, c3]
    · simp [St.enter, enumFrom, subs, setSubs, c1, c2]
  · simp [St.enter, enumFrom, subs, setSubs, c1]
theorem rcoSame_ev (a b : Colm) (h1 : a.notes.length ≤ 1000000) (h2 : a.top.length ≤ 1000000) (h3 : a.bot.length ≤ 1000000) (H : Heap) : clD EE (.p (.fn 55)) [vColm a, vColm b] H = some (vB (sameC a b), none) := by
  rw [clD_body _ _ _ _ _ _ (noP _) fn55]
  have s := fun H => rsame22_ev a.notes b.notes H h1
  have t := fun H => ints_ev a.top b.top H (by omega)
  have u := fun H => ints_ev a.bot b.bot H (by omega)
  unfold sameC
  by_cases c1 : a.k = b.k
  · by_cases c2 : a.frm = b.frm
    · by_cases c3 : a.to = b.to
      · by_cases c4 : a.notes = b.notes
        · by_cases c5 : a.top = b.top
          · simp only [c4, c5] at s t; simp [St.enter, enumFrom, subs, setSubs, s, t, u, c1, c2, c3, c4, c5]
          · simp only [c4] at s; simp [St.enter, enumFrom, subs, setSubs, s, t, c1, c2, c3, c4, c5]
        · simp [St.enter, enumFrom, subs, setSubs, s, c1, c2, c3, c4]
      · simp [St.enter, enumFrom, subs, setSubs, c1, c2, c3]
    · simp [St.enter, enumFrom, subs, setSubs, c1, c2]
  · simp [St.enter, enumFrom, subs, setSubs, c1]
/-! ### Which comes first -/
theorem cmpSl0_ev (H : Heap) (p q : Nat) (a b : C3) (hp : Eng.boxAt H p = some [vI a.a, vI a.b, vI a.c]) (hq : Eng.boxAt H q = some [vI b.a, vI b.b, vI b.c]) :
    clD EE (.p (.fn 77)) [.bvs p 0 3 1, .bvs q 0 3 1] H = some (vI (lexC [a.a, a.b, a.c] [b.a, b.b, b.c]), none) := by
  rw [clD_body _ _ _ _ _ _ (noP _) fn77]
  have c := fun a b H => cmpI_ev a b H
  have w1 : IntKind.i64.wrap 1 = 1 := by decide
  have w2 : IntKind.i64.wrap 2 = 2 := by decide
  have w3 : IntKind.i64.wrap 3 = 3 := by decide
  simp only [lexC]
  by_cases h1 : cmp1 a.a b.a = 0
  · by_cases h2 : cmp1 a.b b.b = 0
    · by_cases h3 : cmp1 a.c b.c = 0
      · simp [St.enter, enumFrom, lp77_0, evD_loop, ixsI, ixsV, lenV, subs, hp, hq, c, w1, w2, w3, h1, h2, h3]
      · simp [St.enter, enumFrom, lp77_0, evD_loop, ixsI, ixsV, lenV, subs, hp, hq, c, w1, w2, w3, h1, h2, h3]
    · simp [St.enter, enumFrom, lp77_0, evD_loop, ixsI, ixsV, lenV, subs, hp, hq, c, w1, w2, w3, h1, h2]
  · simp [St.enter, enumFrom, lp77_0, evD_loop, ixsI, ixsV, lenV, subs, hp, hq, c, w1, w2, w3, h1]
theorem coCnt_ev (fs : List Float) (a b : List Int) (hf : fs.length ≤ 100000) (ha : a.length ≤ 1000000) (hb : b.length ≤ 1000000) (p : Nat) (H : Heap) (hp : Eng.boxAt H p = some [vFloats fs]) :
    clD EE (.fn (.func 135) [] [.ptr p 0]) [sli a, sli b] H = some (vI (lexC [(ofL fs a).a, (ofL fs a).b, (ofL fs a).c] [(ofL fs b).a, (ofL fs b).b, (ofL fs b).c]), none) := by
  rw [clD_clo, clD_body _ _ _ _ _ _ (noP _) fn135]
  have o1 := fun H => of_ev fs a H hf ha
  have o2 := fun H => of_ev fs b H hf hb
  generalize ofL fs a = x at *
  generalize ofL fs b = y at *
  have s := fun T => cmpSl0_ev (H ++ (DObj.box [vI x.a, vI x.b, vI x.c] :: DObj.box [vI y.a, vI y.b, vI y.c] :: T)) H.length (H.length + 1) x y (by simp) (by simp)
  have s0 := s []
  simp [St.enter, enumFrom, subs, setSubs, hp, o1, o2, slcaV, s0]
theorem or_lexN (fs : List Float) (a b : Colm) : orL [cmp1 a.k b.k, cmp1 a.to b.to, cmp1 (linesP a.notes) (linesP b.notes), lexC [(ofL fs a.top).a, (ofL fs a.top).b, (ofL fs a.top).c] [(ofL fs b.top).a, (ofL fs b.top).b, (ofL fs b.top).c], lexC [(ofL fs a.bot).a, (ofL fs a.bot).b, (ofL fs a.bot).c] [(ofL fs b.bot).a, (ofL fs b.bot).b, (ofL fs b.bot).c]] = cmpC fs a b := by
  unfold cmpC numsC
  generalize ofL fs a.top = x at *
  generalize ofL fs a.bot = y at *
  generalize ofL fs b.top = z at *
  generalize ofL fs b.bot = u at *
  simp only [orL, lexC]
  by_cases h1 : cmp1 a.k b.k = 0
  · by_cases h2 : cmp1 a.to b.to = 0
    · by_cases h3 : cmp1 (linesP a.notes) (linesP b.notes) = 0
      · by_cases h4 : cmp1 x.a z.a = 0
        · by_cases h5 : cmp1 x.b z.b = 0
          · by_cases h6 : cmp1 x.c z.c = 0
            · simp only [h1, h2, h3, h4, h5, h6, if_true]
              split <;> simp_all
            · simp [h1, h2, h3, h4, h5, h6]
          · simp [h1, h2, h3, h4, h5]
        · simp [h1, h2, h3, h4]
      · simp [h1, h2, h3]
    · simp [h1, h2]
  · simp [h1]
theorem coCmp_ev (j : Job) (hf : j.floats.length ≤ 100000) (a b : Colm) (sa : smCol a) (sb : smCol b) (H : Heap) : clD EE (.p (.fn 52)) [vW j, vColm a, vColm b] H = some (vI (cmpC j.floats a b), none) := by
  rw [clD_body _ _ _ _ _ _ (noP _) fn52]
  have pl := fun H => plain_ev j H
  have c := fun a b H => cmpI_ev a b H
  have la := fun H => splitLines_ev a.notes (by have := sa.n1; omega) sa.pieces H
  have lb := fun H => splitLines_ev b.notes (by have := sb.n1; omega) sb.pieces H
  have k1 := fun H p h => coCnt_ev j.floats a.top b.top hf (by have := sa.n2; omega) (by have := sb.n2; omega) p H h
  have k2 := fun H p h => coCnt_ev j.floats a.bot b.bot hf (by have := sa.n3; omega) (by have := sb.n3; omega) p H h
  have q1 := k1 (H ++ [DObj.box [vFloats j.floats]]) H.length (by simp)
  have q2 := k2 (H ++ [DObj.box [vFloats j.floats]]) H.length (by simp)
  have o := fun H => cmpOr_ev [cmp1 a.k b.k, cmp1 a.to b.to, cmp1 (linesP a.notes) (linesP b.notes), lexC [(ofL j.floats a.top).a, (ofL j.floats a.top).b, (ofL j.floats a.top).c] [(ofL j.floats b.top).a, (ofL j.floats b.top).b, (ofL j.floats b.top).c], lexC [(ofL j.floats a.bot).a, (ofL j.floats a.bot).b, (ofL j.floats a.bot).c] [(ofL j.floats b.bot).a, (ofL j.floats b.bot).b, (ofL j.floats b.bot).c]] H (by simp)
  rw [or_lexN] at o
  simp only [sli, List.map_cons, List.map_nil, encI] at o
  generalize lexC [(ofL j.floats a.top).a, (ofL j.floats a.top).b, (ofL j.floats a.top).c] [(ofL j.floats b.top).a, (ofL j.floats b.top).b, (ofL j.floats b.top).c] = u1 at *
  generalize lexC [(ofL j.floats a.bot).a, (ofL j.floats a.bot).b, (ofL j.floats a.bot).c] [(ofL j.floats b.bot).a, (ofL j.floats b.bot).b, (ofL j.floats b.bot).c] = u2 at *
  generalize cmpC j.floats a b = r at *
  simp only [vJob, cGeom, List.cons_append, List.nil_append] at pl
  simp [St.enter, enumFrom, subs, setSubs, fldvV, pl, c, la, lb, q1, q2, o]
theorem rnums_ev (j : Job) (a : Colm) (sa : smCol a) (H : Heap) : clD EE (.p (.fn 137)) [vJob j, vColm a] H = some (.agg ((numsC j.floats a).map vI), none) := by
  rw [clD_body _ _ _ _ _ _ (noP _) fn137]
  have la := fun H => rlines22_ev a.notes (by have := sa.n1; omega) sa.pieces H
  have k1 := fun H => rof_ev j.floats a.top (by have := sa.n2; omega) H
  have k2 := fun H => rof_ev j.floats a.bot (by have := sa.n3; omega) H
  unfold numsC
  generalize ofL j.floats a.top = u1 at *
  generalize ofL j.floats a.bot = u2 at *
  simp only [vJob, cGeom, List.cons_append, List.nil_append]
  simp [St.enter, enumFrom, subs, setSubs, la, k1, k2, ixaV, shiftV]
theorem rcoCmp_ev (j : Job) (a b : Colm) (sa : smCol a) (sb : smCol b) (H : Heap) : clD EE (.p (.fn 53)) [vJob j, vColm a, vColm b] H = some (vI (cmpC j.floats a b), none) := by
  rw [clD_body _ _ _ _ _ _ (noP _) fn53]
  have na := fun H => rnums_ev j a sa H
  have nb := fun H => rnums_ev j b sb H
  have w : ∀ k : Nat, k < 9 → IntKind.i64.wrap ((k : Int) + 1) = ((k + 1 : Nat) : Int) := fun k hk => w64 (by omega) (by omega)
  have lA : (numsC j.floats a).length = 9 := rfl
  have lB : (numsC j.floats b).length = 9 := rfl
  unfold cmpC
  have gA : ∃ x0 x1 x2 x3 x4 x5 x6 x7 x8, numsC j.floats a = [x0, x1, x2, x3, x4, x5, x6, x7, x8] := ⟨_, _, _, _, _, _, _, _, _, rfl⟩
  have gB : ∃ x0 x1 x2 x3 x4 x5 x6 x7 x8, numsC j.floats b = [x0, x1, x2, x3, x4, x5, x6, x7, x8] := ⟨_, _, _, _, _, _, _, _, _, rfl⟩
  generalize numsC j.floats a = A at *
  generalize numsC j.floats b = B at *
  have key : evD EE lp53_0 ⟨[(7, .lptr 7 0), (8, .lptr 8 0), (9, vI 0)], [(7, A.map vI), (8, B.map vI)], H, H.length, []⟩ =
      some (rng (fun (_ : Unit) (_ : Nat) (p : Int × Int) => if cmp1 p.1 p.2 = 0 then .inl () else .inr (.ret, ⟨[(6, vI (cmp1 p.1 p.2))], [], H, H.length, []⟩)) (fun _ => (.exit 0, ⟨[(7, .lptr 7 0), (8, .lptr 8 0), (9, vI 9), (17, vB false)], [(7, A.map vI), (8, B.map vI)], H, H.length, []⟩)) () 0 (A.zip B)) := by
    unfold lp53_0
    refine evD_rng (A.zip B) (fun (_ : Unit) i => ⟨[(7, .lptr 7 0), (8, .lptr 8 0), (9, vI i)], [(7, A.map vI), (8, B.map vI)], H, H.length, []⟩) (fun _ _ => True) _ _ (fun _ _ => rfl) ?_ ?_ () 0 trivial (Nat.zero_le _)
    · rintro _ i ⟨x, y⟩ - hx
      have hlt : i < 9 := by have := (List.getElem?_eq_some_iff.1 hx).1; rw [List.length_zip] at this; omega
      have wi := w i hlt
      have ex : subs (A.map vI) i 1 = some [vI x] ∧ subs (B.map vI) i 1 = some [vI y] := by
        obtain ⟨x0, x1, x2, x3, x4, x5, x6, x7, x8, rfl⟩ := gA
        obtain ⟨y0, y1, y2, y3, y4, y5, y6, y7, y8, rfl⟩ := gB
        have e : i = 0 ∨ i = 1 ∨ i = 2 ∨ i = 3 ∨ i = 4 ∨ i = 5 ∨ i = 6 ∨ i = 7 ∨ i = 8 := by omega
        rcases e with rfl | rfl | rfl | rfl | rfl | rfl | rfl | rfl | rfl <;> simp at hx <;> obtain ⟨rfl, rfl⟩ := hx <;> exact ⟨rfl, rfl⟩
      obtain ⟨e1, e2⟩ := ex
      have ha : ¬ A.map vI = [] := by intro h; have := congrArg List.length h; simp [lA] at this
      have hb : ¬ B.map vI = [] := by intro h; have := congrArg List.length h; simp [lB] at this
      generalize A.map vI = A' at *
      generalize B.map vI = B' at *
      have hi : (i : Int) < 9 := by omega
      unfold cmp1
      by_cases h1 : x < y
      · simp [hi, ixaV, shiftV, e1, e2, ha, hb, h1]
      · by_cases h2 : y < x
        · simp [hi, ixaV, shiftV, e1, e2, ha, hb, h1, h2]
        · simp [hi, ixaV, shiftV, e1, e2, ha, hb, h1, h2, wi]
    · rintro _ -
      rw [List.length_zip, lA, lB]
      simp
  have hr : ∀ (xs ys : List Int) (fin : Ex × St) (i : Nat), xs.length = ys.length → rng (fun (_ : Unit) (_ : Nat) (p : Int × Int) => if cmp1 p.1 p.2 = 0 then .inl () else .inr (.ret, (⟨[(6, vI (cmp1 p.1 p.2))], [], H, H.length, []⟩ : St))) (fun _ => fin) () i (xs.zip ys) = if lexC xs ys = 0 then fin else (.ret, ⟨[(6, vI (lexC xs ys))], [], H, H.length, []⟩) := by
    intro xs
    induction xs with
    | nil => intro ys fin i _; simp [rng, lexC]
    | cons x r ih =>
      intro ys fin i hl
      cases ys with
      | nil => simp at hl
      | cons y t =>
        simp only [List.zip_cons_cons, rng, lexC]
        by_cases h : cmp1 x y = 0
        · simp only [if_pos h]; exact ih t fin (i + 1) (by simpa using hl)
        · simp only [if_neg h]
  rw [hr A B _ _ (by rw [lA, lB])] at key
  simp only [vJob, cGeom, List.cons_append, List.nil_append] at na nb ⊢
  obtain ⟨x0, x1, x2, x3, x4, x5, x6, x7, x8, rfl⟩ := gA
  obtain ⟨y0, y1, y2, y3, y4, y5, y6, y7, y8, rfl⟩ := gB
  simp only [List.map_cons, List.map_nil] at key na nb
  generalize lexC _ _ = r at *
  by_cases h : r = 0
  · rw [if_pos h] at key
    simp [St.enter, enumFrom, subs, setSubs, na, nb, key, h]
  · rw [if_neg h] at key
    simp [St.enter, enumFrom, subs, setSubs, na, nb, key]
theorem cmpC_bd (fs : List Float) (a b : Colm) : -1 ≤ cmpC fs a b ∧ cmpC fs a b ≤ 1 := lexC_bd _ _
theorem columnOrder_ev (j : Job) (hj : jobI j) (a b : Colm) : clD EE (.p (.fn 10)) [vJob j, vColm a, vColm b] [] = some (.p (.bool true), none) := by
  rw [clD_body _ _ _ _ _ _ (noP _) fn10]
  have l1 := fun H => large_ev j H
  have l2 := fun H => largeC_ev a H
  have l3 := fun H => largeC_ev b H
  have aw := fun H => say40_ev H
  simp only [vJob, cGeom, List.cons_append, List.nil_append] at l1
  cases b1 : largeF j with
  | true => simp [St.enter, enumFrom, subs, setSubs, l1, b1, aw]
  | false =>
    cases b2 : badC a with
    | true => simp [St.enter, enumFrom, subs, setSubs, l1, b1, l2, b2, aw]
    | false =>
      cases b3 : badC b with
      | true => simp [St.enter, enumFrom, subs, setSubs, l1, b1, l2, b2, l3, b3, aw]
      | false =>
        have sm := small_of b1
        have ok := okJob_of hj sm
        have sms := small_snap sm
        have sa := smCol_of b2
        have sb := smCol_of b3
        have okS := okJob_of (jobI_snap hj) sms
        have hw := stNew_z j ok okS (fun n hn => by have := sms.each n hn; omega)
        have hx := fun H => rstNew_ev j ok H
        by_cases h : (checkF j).1 = 0
        · have n1 := fun H => coCmp_ev (snapG j) (by have := sms.floats; omega) a b sa sb H
          have n2 := fun H => coCmp_ev (snapG j) (by have := sms.floats; omega) b a sb sa H
          have n3 := fun H => rcoCmp_ev (snapG j) a b sa sb H
          have s1 := fun H => coSame_ev a b (by have := sa.n1; omega) (by have := sa.n2; omega) (by have := sa.n3; omega) H
          have s2 := fun H => rcoSame_ev a b (by have := sa.n1; omega) (by have := sa.n2; omega) (by have := sa.n3; omega) H
          simp only [if_pos h] at hw hx
          rw [cmpC_neg] at n2
          have bd := cmpC_bd (snapG j).floats a b
          have w : IntKind.i64.wrap (cmpC (snapG j).floats a b) = cmpC (snapG j).floats a b := w64 (by omega) (by omega)
          have z : sameC a b = true → cmpC (snapG j).floats a b = 0 := fun e => by rw [(sameC_iff a b).1 e]; exact cmpC_refl _ _
          generalize cmpC (snapG j).floats a b = r at *
          generalize snapG j = J at *
          simp only [vJob, cJobW, cGeom, List.cons_append, List.nil_append] at hw hx n3
          cases q : sameC a b with
          | true =>
            have r0 := z q
            have w0 : IntKind.i64.wrap 0 = 0 := by decide
            subst r0
            simp only [Int.neg_zero] at n2
            simp [w0, St.enter, enumFrom, subs, setSubs, solN, sd, l1, b1, l2, b2, l3, b3, aw, hw, hx, n1, n2, n3, s1, s2, q]
          | false => simp [St.enter, enumFrom, subs, setSubs, solN, sd, l1, b1, l2, b2, l3, b3, aw, hw, hx, n1, n2, n3, s1, s2, q, w]
        · simp only [if_neg h] at hw hx
          simp only [vJob, cGeom, List.cons_append, List.nil_append] at hw hx
          simp [St.enter, enumFrom, subs, setSubs, solN, sd, l1, b1, l2, b2, l3, b3, aw, hw, hx]
end Go.EnvOf
