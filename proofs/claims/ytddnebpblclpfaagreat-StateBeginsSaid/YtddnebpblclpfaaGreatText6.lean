/- The program's functions and the document's, evaluated. -/
import Derived.KernelRfl
import Derived.Test.YtddnebpblclpfaaGreatText5
import Derived.Test.YtddnebpblclpfaaGreatText3
import Derived.Test.YtddnebpblclpfaaGreatText4
import Derived.Test.YtddnebpblclpfaaGreatText2
set_option linter.unusedSimpArgs false
set_option linter.unusedVariables false
/- The law GridSnaps, evaluated. -/
namespace Go.EnvOf
open Go Go.Eng
set_option maxRecDepth 100000

structure jobI (j : Job) : Prop where
  g : okGeom j.g
  items : ∀ x ∈ j.items, okItem x
  notes : ∀ n ∈ j.notes, ∀ x ∈ n.lines, I64 x
  floats : ∀ x ∈ j.floats, okFloat x
theorem okJob_of {j : Job} (h : jobI j) (s : small j) : okJob j :=
  ⟨h.g, h.items, fun n hn => ⟨h.notes n hn, by have := s.each n hn; omega, by have := s.each n hn; omega⟩, h.floats, by have := s.items; omega, by have := s.notes; omega, by have := s.floats; omega⟩
theorem small_snap {j : Job} (s : small j) : small (snapG j) := by
  unfold snapG
  split
  · exact s
  · refine ⟨by simpa using s.items, by simpa using s.notes, by simpa using s.floats, fun n hn => ?_⟩
    simp only [List.mem_map] at hn
    obtain ⟨m, hm, rfl⟩ := hn
    have := s.each m hm
    simpa [noteG] using this
/-- A job's cells, unnamed. -/
theorem job_cells (j : Job) : ∃ J, vJob j = .agg J ∧ J.length = 22 ∧ subs J 0 22 = some J ∧ ¬ J = [] ∧ J.all V.oneB = true ∧ J.map normC = J := ⟨_, rfl, rfl, rfl, by simp, rfl, rfl⟩

end Go.EnvOf

/- Jobs that may be: the clauses of the program. -/
namespace Go.EnvOf
open Go Go.Eng

/-! ### Floats -/
def floatOK (f : Float) : Bool := decide (0 ≤ f.c) && decide (f.c ≤ 2) && decide (1 ≤ f.h) && decide (f.h ≤ 1073741823) && decide (0 ≤ f.w) && decide (f.w ≤ 3)
theorem floatCheck_ev (f : Float) (H : Heap) : clD EE (.p (.fn 281)) [vFloat f] H = some (vI (if floatOK f = true then 0 else 10), none) := by
  rw [clD_body _ _ _ _ _ _ (noP _) fn281]
  unfold floatOK
  by_cases a1 : 0 ≤ f.c
  · have b1 : ¬ f.c < 0 := by omega
    by_cases a2 : f.c ≤ 2
    · have b2 : ¬ 3 ≤ f.c := by omega
      by_cases a3 : 1 ≤ f.h
      · have b3 : ¬ f.h < 1 := by omega
        by_cases a4 : f.h ≤ 1073741823
        · have b4 : ¬ 1073741823 < f.h := by omega
          by_cases a5 : 0 ≤ f.w
          · have b5 : ¬ f.w < 0 := by omega
            by_cases a6 : f.w ≤ 3
            · have b6 : ¬ 3 < f.w := by omega
              simp [St.enter, enumFrom, subs, a1, a2, a3, a4, a5, a6, b1, b2, b3, b4, b5, b6]
            · have b6 : 3 < f.w := by omega
              simp [St.enter, enumFrom, subs, a1, a2, a3, a4, a5, a6, b1, b2, b3, b4, b5, b6]
          · have b5 : f.w < 0 := by omega
            simp [St.enter, enumFrom, subs, a1, a2, a3, a4, a5, b1, b2, b3, b4, b5]
        · have b4 : 1073741823 < f.h := by omega
          simp [St.enter, enumFrom, subs, a1, a2, a3, a4, b1, b2, b3, b4]
      · have b3 : f.h < 1 := by omega
        simp [St.enter, enumFrom, subs, a1, a2, a3, b1, b2, b3]
    · have b2 : 3 ≤ f.c := by omega
      simp [St.enter, enumFrom, subs, a1, a2, b1, b2]
  · have b1 : f.c < 0 := by omega
    simp [St.enter, enumFrom, subs, a1, b1]
theorem rfloatRight_ev (f : Float) (H : Heap) : clD EE (.p (.fn 92)) [vFloat f] H = some (vB (floatOK f), none) := by
  rw [clD_body _ _ _ _ _ _ (noP _) fn92]
  unfold floatOK
  by_cases a1 : 0 ≤ f.c
  · by_cases a2 : f.c ≤ 2
    · by_cases a3 : 1 ≤ f.h
      · by_cases a4 : f.h ≤ 1073741823
        · by_cases a5 : 0 ≤ f.w
          · simp [St.enter, enumFrom, subs, a1, a2, a3, a4, a5]
          · simp [St.enter, enumFrom, subs, a1, a2, a3, a4, a5]
        · simp [St.enter, enumFrom, subs, a1, a2, a3, a4]
      · simp [St.enter, enumFrom, subs, a1, a2, a3]
    · simp [St.enter, enumFrom, subs, a1, a2]
  · simp [St.enter, enumFrom, subs, a1]

/-! ### The first of a list that may not be -/
theorem idxItem_fn : EE.fns 302 = some (idxI 7 true) := fn302
theorem idxNote_fn : EE.fns 308 = some (idxI 2 true) := fn308
theorem idxFloat_fn : EE.fns 311 = some (idxI 3 true) := fn311
/-- Fields: is a check's answer an error? -/
theorem badItem1_ev (x : Item) (p : Nat) (H : Heap) (hb : Eng.boxAt H p = some [.p (.fn 275)]) : clD EE (.fn (.func 303) [] [.ptr p 0]) [vItem x] H = some (vB (!rightF x), none) := by
  rw [clD_clo, clD_body _ _ _ _ _ _ (noP _) fn303]
  have h := itemCheck_ev x H
  cases e : rightF x <;> rw [e] at h <;> simp at h <;> simp [St.enter, enumFrom, subs, hb, h]
theorem badNote1_ev (x : Note) (hx : x.lines.length ≤ 1000000 ∧ x.pens.length ≤ 1000000) (p : Nat) (H : Heap) (hb : Eng.boxAt H p = some [.p (.fn 278)]) : clD EE (.fn (.func 309) [] [.ptr p 0]) [vNote x] H = some (vB (wrongF x.lines x.pens), none) := by
  rw [clD_clo, clD_body _ _ _ _ _ _ (noP _) fn309]
  have h := check_ev x.lines x.pens H (by omega) (by omega)
  simp only [note, sli] at h
  cases e : wrongF x.lines x.pens <;> rw [e] at h <;> simp at h <;> simp [St.enter, enumFrom, subs, hb, h]
theorem badFloat1_ev (x : Float) (p : Nat) (H : Heap) (hb : Eng.boxAt H p = some [.p (.fn 281)]) : clD EE (.fn (.func 312) [] [.ptr p 0]) [vFloat x] H = some (vB (!floatOK x), none) := by
  rw [clD_clo, clD_body _ _ _ _ _ _ (noP _) fn312]
  have h := floatCheck_ev x H
  cases e : floatOK x <;> rw [e] at h <;> simp at h <;> simp [St.enter, enumFrom, subs, hb, h]
theorem firstItem_ev (l : List Item) (hl : l.length ≤ 1000000) (p : Nat) (H : Heap) (hb : Eng.boxAt H p = some [.p (.fn 275)]) : clD EE (.p (.fn 301)) [vItems l, .ptr p 0] H = some (vI (idxF (fun x => !rightF x) 0 l), none) := by
  rw [clD_body _ _ _ _ _ _ (noP _) fn301]
  have h := idx_ev _ 7 true encItem (fun x => vItem x) (noP _) idxItem_fn (fun _ => rfl) (fun _ => rfl) (fun _ => rfl) (fun _ => rfl) l (by omega) (.fn (.func 303) [] [.ptr p 0]) (fun x => !rightF x) H (fun x _ => badItem1_ev x p H hb)
  simp [St.enter, enumFrom, h]
theorem firstNote_ev (l : List Note) (hl : l.length ≤ 1000000) (hx : ∀ x ∈ l, x.lines.length ≤ 1000000 ∧ x.pens.length ≤ 1000000) (p : Nat) (H : Heap) (hb : Eng.boxAt H p = some [.p (.fn 278)]) : clD EE (.p (.fn 307)) [vNotes l, .ptr p 0] H = some (vI (idxF (fun x => wrongF x.lines x.pens) 0 l), none) := by
  rw [clD_body _ _ _ _ _ _ (noP _) fn307]
  have h := idx_ev _ 2 true encNote (fun x => vNote x) (noP _) idxNote_fn (fun _ => rfl) (fun _ => rfl) (fun _ => rfl) (fun _ => rfl) l (by omega) (.fn (.func 309) [] [.ptr p 0]) (fun x => wrongF x.lines x.pens) H (fun x h => badNote1_ev x (hx x h) p H hb)
  simp [St.enter, enumFrom, h]
theorem firstFloat_ev (l : List Float) (hl : l.length ≤ 1000000) (p : Nat) (H : Heap) (hb : Eng.boxAt H p = some [.p (.fn 281)]) : clD EE (.p (.fn 310)) [vFloats l, .ptr p 0] H = some (vI (idxF (fun x => !floatOK x) 0 l), none) := by
  rw [clD_body _ _ _ _ _ _ (noP _) fn310]
  have h := idx_ev _ 3 true encFloat (fun x => vFloat x) (noP _) idxFloat_fn (fun _ => rfl) (fun _ => rfl) (fun _ => rfl) (fun _ => rfl) l (by omega) (.fn (.func 312) [] [.ptr p 0]) (fun x => !floatOK x) H (fun x _ => badFloat1_ev x p H hb)
  simp [St.enter, enumFrom, h]
end Go.EnvOf

/- Anchors of a kind, of so many things. -/
namespace Go.EnvOf
open Go Go.Eng

/-- The place of the first wrong anchor; the list's end, if some lack; -1: none. -/
def refF (k : Int) (most : Nat) : Nat → Nat → List Item → Int
  | i, n, [] => if n < most then i else -1
  | i, n, x :: r => if x.k = k then (if x.n = n ∧ n < most then refF k most (i + 1) (n + 1) r else i) else refF k most (i + 1) n r

/-! ### By the document -/
def raE (l : List Item) (k : Int) (most : Nat) (H : Heap) (n i : Nat) : St := ⟨[(0, vItems l), (1, vI k), (2, vI most), (7, vI n), (8, vI i)], [], H, H.length, []⟩
def raS (k : Int) (most : Nat) (H : Heap) (n i : Nat) (x : Item) : Nat ⊕ (Ex × St) := if x.k = k then (if x.n = n ∧ n < most then .inl (n + 1) else .inr (.ret, ⟨[(6, vI i)], [], H, H.length, []⟩)) else .inl n
def raX (l : List Item) (k : Int) (most : Nat) (H : Heap) (n : Nat) : Ex × St := (.exit 0, ⟨[(0, vItems l), (1, vI k), (2, vI most), (7, vI n), (8, vI l.length), (12, vB false)], [], H, H.length, []⟩)
theorem ra_lp (l : List Item) (k : Int) (most : Nat) (H : Heap) (hl : l.length ≤ 1000000) : evD EE lp93_0 (raE l k most H 0 0) = some (rng (raS k most H) (raX l k most H) 0 0 l) := by
  unfold lp93_0
  refine evD_rng l (raE l k most H) (fun n i => n ≤ i) (raS k most H) (raX l k most H) (fun _ _ => rfl) ?_ ?_ 0 0 (Nat.le_refl _) (Nat.zero_le _)
  · intro n i x hn hx
    have hlt := (List.getElem?_eq_some_iff.1 hx).1
    have hix := fun H k => ixs_nat H encItem (k := k) (s := 7) hx rfl
    have w : IntKind.i64.wrap ((i : Int) + 1) = ((i + 1 : Nat) : Int) := w64 (by omega) (by omega)
    have w2 : IntKind.i64.wrap ((n : Int) + 1) = ((n + 1 : Nat) : Int) := w64 (by omega) (by omega)
    simp only [encItem] at hix
    by_cases hk : x.k = k
    · by_cases hn : x.n = n
      · by_cases hm : n < most
        · have hm2 : ¬ (most : Int) ≤ n := by omega
          simp [raS, raE, hlt, hix, subs, hk, hn, hm, hm2, w, w2]; omega
        · have hm2 : (most : Int) ≤ n := by omega
          simp [raS, raE, hlt, hix, subs, hk, hn, hm, hm2]
      · simp [raS, raE, hlt, hix, subs, hk, hn]
    · simp [raS, raE, hlt, hix, subs, hk, w]; omega
  · intro n hn
    simp [raE, raX]
theorem ra_rng (l : List Item) (k : Int) (most : Nat) (H : Heap) : ∀ (r : List Item) (n i : Nat), (∃ n', rng (raS k most H) (raX l k most H) n i r = raX l k most H n' ∧ refF k most i n r = if n' < most then ((i + r.length : Nat) : Int) else -1) ∨
    ∃ j : Nat, rng (raS k most H) (raX l k most H) n i r = (.ret, ⟨[(6, vI j)], [], H, H.length, []⟩) ∧ refF k most i n r = j
  | [], n, i => .inl ⟨n, rfl, rfl⟩
  | x :: r, n, i => by
    have e : ∀ a : Nat, i + 1 + r.length = i + (x :: r).length := fun _ => by simp; omega
    by_cases hk : x.k = k
    · by_cases hn : x.n = n ∧ n < most
      · have := ra_rng l k most H r (n + 1) (i + 1)
        rw [e 0] at this
        simpa only [rng, raS, refF, hk, hn, if_true, and_self] using this
      · exact .inr ⟨i, by simp only [rng, raS, if_pos hk, if_neg hn], by simp only [refF, if_pos hk, if_neg hn]⟩
    · have := ra_rng l k most H r n (i + 1)
      rw [e 0] at this
      simpa only [rng, raS, refF, hk, if_false] using this
theorem ranchors_ev (l : List Item) (k : Int) (most : Nat) (H : Heap) (hl : l.length ≤ 1000000) : clD EE (.p (.fn 93)) [vItems l, vI k, vI most] H = some (vI (refF k most 0 0 l), none) := by
  rw [clD_body _ _ _ _ _ _ (noP _) fn93]
  have key := ra_lp l k most H hl
  rcases ra_rng l k most H l 0 0 with ⟨n', h1, h2⟩ | ⟨j, h1, h2⟩
  · rw [h1] at key
    simp only [Nat.zero_add] at h2
    by_cases c : n' < most
    · simp [raE, raX] at key
      simp [St.enter, enumFrom, key, h2, c]
    · simp [raE, raX] at key
      simp [St.enter, enumFrom, key, h2, c]
  · rw [h1] at key
    simp [raE] at key
    simp [St.enter, enumFrom, key, h2]

/-! ### By the program -/
theorem anchF_ge (k : Int) : ∀ (l : List Item) (i n : Nat), anchF k i n l = -1 ∨ (i : Int) ≤ anchF k i n l
  | [], _, _ => .inl rfl
  | x :: r, i, n => by
    simp only [anchF]
    split
    · split
      · rcases anchF_ge k r (i + 1) (n + 1) with h | h
        · exact .inl h
        · exact .inr (by omega)
      · exact .inr (Int.le_refl _)
    · rcases anchF_ge k r (i + 1) n with h | h
      · exact .inl h
      · exact .inr (by omega)
def rfE (l : List Item) (k : Int) (most : Nat) (at_ : Int) (H : Heap) (n i : Nat) : St := ⟨[(0, vItems l), (1, vI k), (2, vI most), (7, vI at_), (8, vI n), (14, vItems l), (15, vI l.length), (16, vI i)], [], H, H.length, []⟩
def rfS (k : Int) (most : Nat) (at_ : Int) (H : Heap) (n i : Nat) (x : Item) : Nat ⊕ (Ex × St) := if (i : Int) = at_ then .inr (.ret, ⟨[(6, vI i)], [], H, H.length, []⟩) else if x.k = k then (if n = most then .inr (.ret, ⟨[(6, vI i)], [], H, H.length, []⟩) else .inl (n + 1)) else .inl n
def rfX (l : List Item) (k : Int) (most : Nat) (at_ : Int) (H : Heap) (n : Nat) : Ex × St := (.exit 0, ⟨[(0, vItems l), (1, vI k), (2, vI most), (7, vI at_), (8, vI n), (14, vItems l), (15, vI l.length), (16, vI l.length), (17, vB false)], [], H, H.length, []⟩)
theorem rf_lp (l : List Item) (k : Int) (most : Nat) (at_ : Int) (H : Heap) (hl : l.length ≤ 1000000) : evD EE lp313_0 (rfE l k most at_ H 0 0) = some (rng (rfS k most at_ H) (rfX l k most at_ H) 0 0 l) := by
  unfold lp313_0
  refine evD_rng l (rfE l k most at_ H) (fun n i => n ≤ i) (rfS k most at_ H) (rfX l k most at_ H) (fun _ _ => rfl) ?_ ?_ 0 0 (Nat.le_refl _) (Nat.zero_le _)
  · intro n i x hn hx
    have hlt := (List.getElem?_eq_some_iff.1 hx).1
    have hix := fun H k => ixs_nat H encItem (k := k) (s := 7) hx rfl
    have w : IntKind.i64.wrap ((i : Int) + 1) = ((i + 1 : Nat) : Int) := w64 (by omega) (by omega)
    have w2 : IntKind.i64.wrap ((n : Int) + 1) = ((n + 1 : Nat) : Int) := w64 (by omega) (by omega)
    simp only [encItem] at hix
    by_cases ha : (i : Int) = at_
    · subst ha
      simp [rfS, rfE, hlt, hix, subs, setSubs]
    · by_cases hk : x.k = k
      · by_cases hm : n = most
        · simp [rfS, rfE, hlt, hix, subs, setSubs, ha, hk, hm]
        · have hm2 : ¬ (n : Int) = most := by omega
          simp [rfS, rfE, hlt, hix, subs, setSubs, ha, hk, hm, hm2, w, w2]; omega
      · simp [rfS, rfE, hlt, hix, subs, setSubs, ha, hk, w]; omega
  · intro n hn
    simp [rfE, rfX]
theorem rf_rng (l : List Item) (k : Int) (most : Nat) (at_ : Int) (H : Heap) : ∀ (r : List Item) (n i : Nat), n ≤ most → at_ = anchF k i n r → (∃ n', rng (rfS k most at_ H) (rfX l k most at_ H) n i r = rfX l k most at_ H n' ∧ refF k most i n r = if n' < most then ((i + r.length : Nat) : Int) else -1) ∨
    ∃ j : Nat, rng (rfS k most at_ H) (rfX l k most at_ H) n i r = (.ret, ⟨[(6, vI j)], [], H, H.length, []⟩) ∧ refF k most i n r = j
  | [], n, i, _, _ => .inl ⟨n, rfl, rfl⟩
  | x :: r, n, i, hm, ha => by
    have e : i + 1 + r.length = i + (x :: r).length := by simp; omega
    simp only [anchF] at ha
    by_cases hk : x.k = k
    · rw [if_pos hk] at ha
      by_cases hn : x.n = n
      · rw [if_pos hn] at ha
        have hne : ¬ (i : Int) = at_ := by
          rcases anchF_ge k r (i + 1) (n + 1) with h | h <;> omega
        by_cases hmm : n = most
        · refine .inr ⟨i, by simp only [rng, rfS, if_neg hne, if_pos hk, if_pos hmm], ?_⟩
          have : ¬ (x.n = n ∧ n < most) := by omega
          simp only [refF, if_pos hk, if_neg this]
        · have hlt : x.n = n ∧ n < most := ⟨hn, by omega⟩
          have := rf_rng l k most at_ H r (n + 1) (i + 1) (by omega) ha
          rw [e] at this
          simp only [rng, rfS, if_neg hne, if_pos hk, if_neg hmm, refF, if_pos hlt]
          exact this
      · rw [if_neg hn] at ha
        have : ¬ (x.n = n ∧ n < most) := fun h => hn h.1
        exact .inr ⟨i, by simp only [rng, rfS, if_pos ha.symm], by simp only [refF, if_pos hk, if_neg this]⟩
    · rw [if_neg hk] at ha
      have hne : ¬ (i : Int) = at_ := by
        rcases anchF_ge k r (i + 1) n with h | h <;> omega
      have := rf_rng l k most at_ H r n (i + 1) hm ha
      rw [e] at this
      simp only [rng, rfS, if_neg hne, if_neg hk, refF]
      exact this
theorem refs_ev (l : List Item) (k : Int) (most : Nat) (H : Heap) (hl : l.length ≤ 1000000) : clD EE (.p (.fn 313)) [vItems l, vI k, vI most] H = some (vI (refF k most 0 0 l), none) := by
  rw [clD_body _ _ _ _ _ _ (noP _) fn313]
  have h0 := anch_ev l k H hl
  have key := rf_lp l k most (anchF k 0 0 l) H hl
  rcases rf_rng l k most (anchF k 0 0 l) H l 0 0 (Nat.zero_le _) rfl with ⟨n', h1, h2⟩ | ⟨j, h1, h2⟩
  · rw [h1] at key
    simp only [Nat.zero_add] at h2
    by_cases c : n' < most
    · simp [rfE, rfX] at key
      simp [St.enter, enumFrom, h0, key, h2, c]
    · simp [rfE, rfX] at key
      simp [St.enter, enumFrom, h0, key, h2, c]
  · rw [h1] at key
    simp [rfE] at key
    simp [St.enter, enumFrom, h0, key, h2]
end Go.EnvOf

/- Jobs that may be: all clauses, in order. -/
namespace Go.EnvOf
open Go Go.Eng

def yes (b : Bool) : Int := if b = true then 0 else -1
def looseF (j : Job) : Int := let a := refF 5 j.notes.length 0 0 j.items; let b := refF 6 j.floats.length 0 0 j.items; if a < 0 ∨ b < 0 then max a b else min a b
def tallF (j : Job) : Int := idxF (fun f => decide ((snapG j).g.first < f.h)) 0 (snapG j).floats

section
variable (j : Job)
theorem c1_ev (H : Heap) : clD EE (.p (.fn 267)) [vJob j] H = some (vB (decide (4096 < (j.items.length : Int))), none) := by
  rw [clD_body _ _ _ _ _ _ (noP _) fn267]
  simp [St.enter, enumFrom, subs]
theorem c2_ev (H : Heap) : clD EE (.p (.fn 268)) [vJob j] H = some (vB (decide (256 < (j.floats.length : Int))), none) := by
  rw [clD_body _ _ _ _ _ _ (noP _) fn268]
  simp [St.enter, enumFrom, subs]
theorem c3_ev (H : Heap) : clD EE (.p (.fn 269)) [vJob j] H = some (vB (decide (512 < (j.notes.length : Int))), none) := by
  rw [clD_body _ _ _ _ _ _ (noP _) fn269]
  simp [St.enter, enumFrom, subs]
theorem c4_ev (H : Heap) : clD EE (.p (.fn 270)) [vJob j] H = some (vB (decide (geomF j.g = 6)), none) := by
  rw [clD_body _ _ _ _ _ _ (noP _) fn270]
  have h := geomCheck_ev j.g H
  simp [St.enter, enumFrom, subs, h]
theorem c5_ev (H : Heap) : clD EE (.p (.fn 272)) [vJob j] H = some (vB (decide (geomF j.g = 7)), none) := by
  rw [clD_body _ _ _ _ _ _ (noP _) fn272]
  have h := geomCheck_ev j.g H
  simp [St.enter, enumFrom, subs, h]
theorem when1_ev (f : FuncId) (b : Bool) (p : Nat) (H : Heap) (hb : Eng.boxAt H p = some [.p (.fn f)]) (hf : clD EE (.p (.fn f)) [vJob j] H = some (vB b, none)) : clD EE (.fn (.func 298) [] [.ptr p 0]) [vJob j] H = some (vI (yes b), none) := by
  rw [clD_clo, clD_body _ _ _ _ _ _ (noP _) fn298]
  obtain ⟨J, hJ, q1, q2, q3, q4⟩ := job_cells j
  rw [hJ] at hf ⊢
  have e : subs [V.p (.fn f)] 0 1 = some [.p (.fn f)] := rfl
  cases b <;> simp [-List.all_eq_true, St.enter, enumFrom, q1, q2, q3, q4, hb, e, hf, yes]
theorem firstI_ev (g : FuncId) (H : Heap) : clD EE (.p (.fn 274)) [.p (.fn g)] H = some (.fn (.func 301) [] [.ptr H.length 0], some (H ++ [.box [.p (.fn g)]], [])) := by
  rw [clD_body _ _ _ _ _ _ (noP _) fn274]
  simp [St.enter, enumFrom]
theorem firstN_ev (g : FuncId) (H : Heap) : clD EE (.p (.fn 277)) [.p (.fn g)] H = some (.fn (.func 307) [] [.ptr H.length 0], some (H ++ [.box [.p (.fn g)]], [])) := by
  rw [clD_body _ _ _ _ _ _ (noP _) fn277]
  simp [St.enter, enumFrom]
theorem firstF_ev (g : FuncId) (H : Heap) : clD EE (.p (.fn 280)) [.p (.fn g)] H = some (.fn (.func 310) [] [.ptr H.length 0], some (H ++ [.box [.p (.fn g)]], [])) := by
  rw [clD_body _ _ _ _ _ _ (noP _) fn280]
  simp [St.enter, enumFrom]
theorem c6_ev (ok : okJob j) (H : Heap) : clD EE (.p (.fn 273)) [vJob j] H = some (vI (idxF (fun x => !rightF x) 0 j.items), none) := by
  rw [clD_body _ _ _ _ _ _ (noP _) fn273]
  have h := firstItem_ev j.items ok.n1 H.length (H ++ [.box [.p (.fn 275)]]) (by simp)
  simp [St.enter, enumFrom, subs, firstI_ev, h]
theorem c7_ev (ok : okJob j) (H : Heap) : clD EE (.p (.fn 276)) [vJob j] H = some (vI (idxF (fun x => wrongF x.lines x.pens) 0 j.notes), none) := by
  rw [clD_body _ _ _ _ _ _ (noP _) fn276]
  have h := firstNote_ev j.notes ok.n2 (fun x hx => (ok.notes x hx).2) H.length (H ++ [.box [.p (.fn 278)]]) (by simp)
  simp [St.enter, enumFrom, subs, firstN_ev, h]
theorem c8_ev (ok : okJob j) (H : Heap) : clD EE (.p (.fn 279)) [vJob j] H = some (vI (idxF (fun x => !floatOK x) 0 j.floats), none) := by
  rw [clD_body _ _ _ _ _ _ (noP _) fn279]
  have h := firstFloat_ev j.floats ok.n3 H.length (H ++ [.box [.p (.fn 281)]]) (by simp)
  simp [St.enter, enumFrom, subs, firstF_ev, h]
theorem c9_ev (ok : okJob j) (H : Heap) : clD EE (.p (.fn 282)) [vJob j] H = some (vI (looseF j), none) := by
  rw [clD_body _ _ _ _ _ _ (noP _) fn282]
  have h1 := refs_ev j.items 5 j.notes.length H ok.n1
  have h2 := refs_ev j.items 6 j.floats.length H ok.n1
  unfold looseF
  generalize refF 5 j.notes.length 0 0 j.items = a at *
  generalize refF 6 j.floats.length 0 0 j.items = b at *
  by_cases c1 : a < 0
  · simp [St.enter, enumFrom, subs, h1, h2, c1]
  · by_cases c2 : b < 0
    · simp [St.enter, enumFrom, subs, h1, h2, c1, c2]
    · simp [St.enter, enumFrom, subs, h1, h2, c1, c2]
theorem tall1_ev (f : Float) (first : Int) (p : Nat) (H : Heap) (cs : List V) (hb : Eng.boxAt H p = some cs) (hc : subs cs 4 1 = some [vI first]) : clD EE (.fn (.func 314) [] [.ptr p 0]) [vFloat f] H = some (vB (decide (first < f.h)), none) := by
  rw [clD_clo, clD_body _ _ _ _ _ _ (noP _) fn314]
  have e : subs [vI f.c, vI f.h, vI f.w] 1 1 = some [vI f.h] := rfl
  simp [St.enter, enumFrom, hb, hc, e]
theorem tall_cells (j : Job) : ∃ J, vJob j = .agg J ∧ J.length = 22 ∧ subs J 0 22 = some J ∧ ¬ J = [] ∧ J.all V.oneB = true ∧ subs J 4 1 = some [vI j.g.first] ∧ subs J 21 1 = some [vFloats j.floats] ∧ J.map normC = J := ⟨_, rfl, rfl, rfl, by simp, rfl, rfl, rfl, rfl⟩
theorem c10_ev (ok : okJob j) (n3 : (snapG j).floats.length ≤ 1000000) (H : Heap) : clD EE (.p (.fn 283)) [vJob j] H = some (vI (tallF j), none) := by
  rw [clD_body _ _ _ _ _ _ (noP _) fn283]
  have h1 := snap_ev j ok H
  obtain ⟨J, hJ, q1, q2, q3, q4⟩ := job_cells j
  obtain ⟨M, hM, m1, m2, m3, m4, m5, m6⟩ := tall_cells (snapG j)
  have h2 := idx_ev _ 3 true encFloat (fun x => vFloat x) (noP _) idxFloat_fn (fun _ => rfl) (fun _ => rfl) (fun _ => rfl) (fun _ => rfl) (snapG j).floats (by omega) (.fn (.func 314) [] [.ptr H.length 0]) (fun f => decide ((snapG j).g.first < f.h)) (H ++ [.box M])
    (fun x _ => tall1_ev x (snapG j).g.first H.length (H ++ [.box M]) M (by simp) m5)
  unfold tallF
  rw [hJ, hM] at h1
  rw [hJ]
  have e : setSubs (α := V) [.p (.int .i64 0), .p (.int .i64 0), .p (.int .i64 0), .p (.int .i64 0), .p (.int .i64 0), .p (.int .i64 0), .p (.int .i64 0), .p (.int .i64 0), .p (.int .i64 0), .p (.int .i64 0), .p (.int .i64 0), .p (.int .i64 0), .p (.int .i64 0), .p (.int .i64 0), .p (.int .i64 0), .p (.int .i64 0), .p (.int .i64 0), .p (.int .i64 0), .p (.bool false), .nils, .nils, .nils] 0 M = some M := by simp [setSubs, m1]
  simp [-List.all_eq_true, St.enter, enumFrom, q1, q2, q3, q4, m1, m2, m3, m4, m6, e, h1, h2]

/-! ### All of them -/
def whenV (n : Nat) : V := .fn (.func 298) [] [.ptr n 0]
def clausesC (n : Nat) : List (Int × V × Int) :=
  [(3, whenV n, yes (decide (4096 < (j.items.length : Int)))), (4, whenV (n + 1), yes (decide (256 < (j.floats.length : Int)))), (5, whenV (n + 2), yes (decide (512 < (j.notes.length : Int)))),
   (6, whenV (n + 3), yes (decide (geomF j.g = 6))), (7, whenV (n + 4), yes (decide (geomF j.g = 7))),
   (8, .p (.fn 273), idxF (fun x => !rightF x) 0 j.items), (9, .p (.fn 276), idxF (fun x => wrongF x.lines x.pens) 0 j.notes), (10, .p (.fn 279), idxF (fun x => !floatOK x) 0 j.floats),
   (11, .p (.fn 282), looseF j), (12, .p (.fn 283), tallF j)]
def clauseEl (c : Int × V × Int) : List V := [vI c.1, c.2.1]
def clauseH : Heap := [.box [.p (.fn 267)], .box [.p (.fn 268)], .box [.p (.fn 269)], .box [.p (.fn 270)], .box [.p (.fn 272)]]
theorem when_ev (g : FuncId) (H : Heap) : clD EE (.p (.fn 266)) [.p (.fn g)] H = some (whenV H.length, some (H ++ [.box [.p (.fn g)]], [])) := by
  rw [clD_body _ _ _ _ _ _ (noP _) fn266]
  simp [St.enter, enumFrom, whenV]
theorem clausesV_ev (H : Heap) : clD EE (.p (.fn 221)) [] H = some (.vsl ((clausesC j H.length).map clauseEl), some (H ++ clauseH, [])) := by
  rw [clD_body _ _ _ _ _ _ (noP _) fn221]
  simp [St.enter, enumFrom, setSubs, when_ev, whenV, clausesC, clauseEl, clauseH]
theorem clauses_all (ok : okJob j) (n3 : (snapG j).floats.length ≤ 1000000) (H : Heap) : ∀ c ∈ clausesC j H.length, clD EE c.2.1 [vJob j] (H ++ clauseH) = some (vI c.2.2, none) ∧ c.2.1.oneB = true ∧ c.2.1.cells = [c.2.1] ∧ c.2.1.notL = true := by
  intro c hc
  have wh : ∀ (i : Nat) (f : FuncId) (b : Bool), clauseH[i]? = some (.box [.p (.fn f)]) → clD EE (.p (.fn f)) [vJob j] (H ++ clauseH) = some (vB b, none) → clD EE (whenV (H.length + i)) [vJob j] (H ++ clauseH) = some (vI (yes b), none) := fun i f b hi hf => by
    refine when1_ev j f b (H.length + i) _ ?_ hf
    rw [boxAt_app]; unfold Eng.boxAt; rw [hi]
  simp only [clausesC, List.mem_cons, List.not_mem_nil, or_false] at hc
  rcases hc with rfl | rfl | rfl | rfl | rfl | rfl | rfl | rfl | rfl | rfl
  · exact ⟨wh 0 _ _ rfl (c1_ev j _), rfl, rfl, rfl⟩
  · exact ⟨wh 1 _ _ rfl (c2_ev j _), rfl, rfl, rfl⟩
  · exact ⟨wh 2 _ _ rfl (c3_ev j _), rfl, rfl, rfl⟩
  · exact ⟨wh 3 _ _ rfl (c4_ev j _), rfl, rfl, rfl⟩
  · exact ⟨wh 4 _ _ rfl (c5_ev j _), rfl, rfl, rfl⟩
  · exact ⟨c6_ev j ok _, rfl, rfl, rfl⟩
  · exact ⟨c7_ev j ok _, rfl, rfl, rfl⟩
  · exact ⟨c8_ev j ok _, rfl, rfl, rfl⟩
  · exact ⟨c9_ev j ok _, rfl, rfl, rfl⟩
  · exact ⟨c10_ev j ok n3 _, rfl, rfl, rfl⟩
/-- The first clause that does not hold. -/
def firstOf : List (Int × V × Int) → Int × Int
  | [] => (0, 0)
  | c :: r => if 0 ≤ c.2.2 then (c.1, c.2.2) else firstOf r
def checkF : Int × Int := firstOf (clausesC j 0)
theorem firstOf_n (n : Nat) : firstOf (clausesC j n) = checkF j := by simp [firstOf, clausesC, checkF]
def ckE (J : List V) (L : List (Int × V × Int)) (H : Heap) (B : Nat) (i : Nat) : St := ⟨[(1, .lptr 1 0), (7, .vsl (L.map clauseEl)), (8, vI L.length), (9, vI i)], [(1, J)], H, B, []⟩
def ckX (J : List V) (L : List (Int × V × Int)) (H : Heap) (B : Nat) : Ex × St := (.exit 0, ⟨[(1, .lptr 1 0), (7, .vsl (L.map clauseEl)), (8, vI L.length), (9, vI L.length), (10, vB false)], [(1, J)], H, B, []⟩)
def ckS (H : Heap) (B : Nat) (_ : Unit) (_ : Nat) (c : Int × V × Int) : Unit ⊕ (Ex × St) := if 0 ≤ c.2.2 then .inr (.ret, ⟨[(2, vI c.1), (3, vI c.2.2)], [], H, B, []⟩) else .inl ()
theorem ck_rng (J : List V) (H : Heap) (B : Nat) (fin : Ex × St) : ∀ (l : List (Int × V × Int)) (i : Nat), (rng (ckS H B) (fun _ => fin) () i l = fin ∧ firstOf l = (0, 0)) ∨ (rng (ckS H B) (fun _ => fin) () i l = (.ret, ⟨[(2, vI (firstOf l).1), (3, vI (firstOf l).2)], [], H, B, []⟩))
  | [], _ => .inl ⟨rfl, rfl⟩
  | c :: r, i => by
    simp only [rng, ckS, firstOf]
    by_cases h : 0 ≤ c.2.2
    · rw [if_pos h, if_pos h]; exact .inr rfl
    · rw [if_neg h, if_neg h]
      exact ck_rng J H B fin r (i + 1)
theorem ck_lp (J : List V) (q1 : J.length = 22) (q2 : subs J 0 22 = some J) (q3 : ¬ J = []) (q4 : J.all V.oneB = true ∧ J.map normC = J) (L : List (Int × V × Int)) (hn : L.length ≤ 1000) (H : Heap) (B : Nat) (hL : ∀ c ∈ L, clD EE c.2.1 [.agg J] H = some (vI c.2.2, none) ∧ c.2.1.oneB = true ∧ c.2.1.cells = [c.2.1] ∧ c.2.1.notL = true) :
    evD EE lp142_0 (ckE J L H B 0) = some (rng (ckS H B) (fun _ => ckX J L H B) () 0 L) := by
  unfold lp142_0
  refine evD_rng L (fun (_ : Unit) i => ckE J L H B i) (fun _ _ => True) (ckS H B) (fun _ => ckX J L H B) (fun _ _ => rfl) ?_ ?_ () 0 trivial (Nat.zero_le _)
  · rintro _ i c - hc
    have hlt := (List.getElem?_eq_some_iff.1 hc).1
    have w : IntKind.i64.wrap ((i : Int) + 1) = ((i + 1 : Nat) : Int) := w64 (by omega) (by omega)
    obtain ⟨h1, h2, h3, h4⟩ := hL c (List.mem_of_getElem? hc)
    have q5 : J.take 22 = J := List.take_of_length_le (by omega)
    have hix : ixsI H (.vsl (L.map clauseEl)) (vI i) 2 = some (.eptr [vI c.1, c.2.1] 0) := by
      have : (L.map clauseEl)[i]? = some [vI c.1, c.2.1] := by simp [hc, clauseEl]
      simp [ixsI, ixsV, this]
    by_cases a : 0 ≤ c.2.2
    · have e : ckS H B () i c = .inr (.ret, ⟨[(2, vI c.1), (3, vI c.2.2)], [], H, B, []⟩) := if_pos a
      simp only [e]
      simp [-List.all_eq_true, ckE, hlt, hix, subs, setSubs, q1, q3, q4, q5, h1, h2, h3, h4, a]
    · have e : ckS H B () i c = .inl () := if_neg a
      simp only [e]
      simp [-List.all_eq_true, ckE, hlt, hix, subs, setSubs, q1, q3, q4, q5, h1, h2, h3, h4, a, w]
  · rintro _ -
    simp [ckE, ckX]
theorem validCheck_ev (ok : okJob j) (n3 : (snapG j).floats.length ≤ 1000000) (H : Heap) : clD EE (.p (.fn 142)) [vJob j] H = some (.tup [vI (checkF j).1, vI (checkF j).2], none) := by
  rw [clD_body _ _ _ _ _ _ (noP _) fn142]
  have h1 := clausesV_ev j H
  have h2 := clauses_all j ok n3 H
  have hf := firstOf_n j H.length
  obtain ⟨J, hJ, q1, q2, q3, q4⟩ := job_cells j
  rw [hJ] at h2 ⊢
  have key := ck_lp J q1 q2 q3 q4 (clausesC j H.length) (by simp [clausesC]) (H ++ clauseH) H.length h2
  have hl : (clausesC j H.length).length = 10 := rfl
  have hle : lenV (.vsl ((clausesC j H.length).map clauseEl)) = some 10 := rfl
  rcases ck_rng J (H ++ clauseH) H.length (ckX J (clausesC j H.length) (H ++ clauseH) H.length) (clausesC j H.length) 0 with ⟨k1, k2⟩ | k1
  · rw [k1] at key
    rw [hf] at k2
    simp only [ckE, ckX, hl] at key
    generalize (clausesC j H.length).map clauseEl = CL at *
    simp at key
    simp [-List.all_eq_true, St.enter, enumFrom, q1, q2, q3, q4, h1, hle, key, k2]
  · rw [k1, hf] at key
    simp only [ckE, hl] at key
    generalize (clausesC j H.length).map clauseEl = CL at *
    simp at key
    simp [-List.all_eq_true, St.enter, enumFrom, q1, q2, q3, q4, h1, hle, key]
theorem validRight_ev (ok : okJob j) (n3 : (snapG j).floats.length ≤ 1000000) (H : Heap) : clD EE (.p (.fn 56)) [vJob j] H = some (vB (decide ((checkF j).1 = 0)), none) := by
  rw [clD_body _ _ _ _ _ _ (noP _) fn56]
  have h1 := validCheck_ev j ok n3 H
  obtain ⟨J, hJ, q1, q2, q3, q4⟩ := job_cells j
  rw [hJ] at h1 ⊢
  simp [-List.all_eq_true, St.enter, enumFrom, q1, q2, q3, q4, h1]
end
end Go.EnvOf

/- Jobs that may be, by the document. -/
namespace Go.EnvOf
open Go Go.Eng

def vE (j : Job) (H : Heap) (t : Nat) (i : Nat) : St := ⟨[(1, .lptr 1 0), (2, .lptr 2 0), (t, vI i)], [(1, cGeom j.g ++ [vItems j.items, vNotes j.notes, vFloats j.floats]), (2, [vI 0, vI 0])], H, H.length, []⟩
def vX (j : Job) (H : Heap) (t x e : Nat) (n : Nat) : Ex × St := (.exit e, ⟨[(1, .lptr 1 0), (2, .lptr 2 0), (t, vI n), (x, vB false)], [(1, cGeom j.g ++ [vItems j.items, vNotes j.notes, vFloats j.floats]), (2, [vI 0, vI 0])], H, H.length, []⟩)
def vR (H : Heap) (e : Int) (i : Int) : Ex × St := (.ret, ⟨[(2, .lptr 2 0)], [(2, [vI e, vI i])], H, H.length, []⟩)
theorem v_lp0 (j : Job) (ok : okJob j) (H : Heap) : evD EE lp32_0 (vE j H 4 0) = some (if 0 ≤ idxF (fun x => !rightF x) 0 j.items then vR H 8 (idxF (fun x => !rightF x) 0 j.items) else vX j H 4 37 0 j.items.length) := by
  unfold lp32_0
  refine Eq.trans (evD_rng j.items (fun (_ : Unit) i => vE j H 4 i) (fun _ _ => True) (stepH (fun x => !rightF x) (vR H 8)) (fun _ => vX j H 4 37 0 j.items.length) (fun _ _ => rfl) ?_ ?_ () 0 trivial (Nat.zero_le _)) (by rw [rng_hit]; rfl)
  · rintro _ i x - hx
    have hlt := (List.getElem?_eq_some_iff.1 hx).1
    have hn := ok.n1
    have w : IntKind.i64.wrap ((i : Int) + 1) = ((i + 1 : Nat) : Int) := w64 (by omega) (by omega)
    have hix := fun H k => ixs_nat H encItem (k := k) (s := 7) hx rfl
    have h := rright_ev x H
    simp only [encItem] at hix
    cases e : rightF x with
    | true => rw [e] at h; simp [stepH, e, vE, hlt, hix, subs, setSubs, h, w]
    | false => rw [e] at h; simp [stepH, e, vE, vR, hlt, hix, subs, setSubs, h]
  · rintro _ -
    simp [vE, vX, subs]
theorem v_lp1 (j : Job) (ok : okJob j) (H : Heap) : evD EE lp32_1 (vE j H 5 0) = some (if 0 ≤ idxF (fun x => wrongF x.lines x.pens) 0 j.notes then vR H 9 (idxF (fun x => wrongF x.lines x.pens) 0 j.notes) else vX j H 5 53 2 j.notes.length) := by
  unfold lp32_1
  refine Eq.trans (evD_rng j.notes (fun (_ : Unit) i => vE j H 5 i) (fun _ _ => True) (stepH (fun (x : Note) => wrongF x.lines x.pens) (vR H 9)) (fun _ => vX j H 5 53 2 j.notes.length) (fun _ _ => rfl) ?_ ?_ () 0 trivial (Nat.zero_le _)) (by rw [rng_hit]; rfl)
  · rintro _ i x - hx
    have hlt := (List.getElem?_eq_some_iff.1 hx).1
    have hn := ok.n2
    have w : IntKind.i64.wrap ((i : Int) + 1) = ((i + 1 : Nat) : Int) := w64 (by omega) (by omega)
    have hix := fun H k => ixs_nat H encNote (k := k) (s := 2) hx rfl
    have hb := (ok.notes x (List.mem_of_getElem? hx)).2
    have h := rcheck_ev x.lines x.pens H hb.1 hb.2
    simp only [encNote] at hix
    simp only [note] at h
    cases e : wrongF x.lines x.pens with
    | false => rw [e] at h; simp at h; simp [stepH, e, vE, hlt, hix, subs, setSubs, h, w]
    | true => rw [e] at h; simp at h; simp [stepH, e, vE, vR, hlt, hix, subs, setSubs, h]
  · rintro _ -
    simp [vE, vX, subs]
theorem v_lp2 (j : Job) (ok : okJob j) (H : Heap) : evD EE lp32_2 (vE j H 6 0) = some (if 0 ≤ idxF (fun x => !floatOK x) 0 j.floats then vR H 10 (idxF (fun x => !floatOK x) 0 j.floats) else vX j H 6 69 4 j.floats.length) := by
  unfold lp32_2
  refine Eq.trans (evD_rng j.floats (fun (_ : Unit) i => vE j H 6 i) (fun _ _ => True) (stepH (fun x => !floatOK x) (vR H 10)) (fun _ => vX j H 6 69 4 j.floats.length) (fun _ _ => rfl) ?_ ?_ () 0 trivial (Nat.zero_le _)) (by rw [rng_hit]; rfl)
  · rintro _ i x - hx
    have hlt := (List.getElem?_eq_some_iff.1 hx).1
    have hn := ok.n3
    have w : IntKind.i64.wrap ((i : Int) + 1) = ((i + 1 : Nat) : Int) := w64 (by omega) (by omega)
    have hix := fun H k => ixs_nat H encFloat (k := k) (s := 3) hx rfl
    have h := rfloatRight_ev x H
    simp only [encFloat] at hix
    cases e : floatOK x with
    | true => rw [e] at h; simp [stepH, e, vE, hlt, hix, subs, setSubs, h, w]
    | false => rw [e] at h; simp [stepH, e, vE, vR, hlt, hix, subs, setSubs, h]
  · rintro _ -
    simp [vE, vX, subs]
def v9E (j : Job) (H : Heap) (i : Nat) : St := ⟨[(2, .lptr 2 0), (9, .lptr 9 0), (10, vI i)], [(2, [vI 0, vI 0]), (9, cGeom j.g ++ [vItems j.items, vNotes j.notes, vFloats j.floats])], H, H.length, []⟩
def v9X (j : Job) (H : Heap) (n : Nat) : Ex × St := (.exit 6, ⟨[(2, .lptr 2 0), (9, .lptr 9 0), (10, vI n), (116, vB false)], [(2, [vI 0, vI 0]), (9, cGeom j.g ++ [vItems j.items, vNotes j.notes, vFloats j.floats])], H, H.length, []⟩)
theorem v_lp3 (j : Job) (hn : j.floats.length ≤ 1000000) (H : Heap) : evD EE lp32_3 (v9E j H 0) = some (if 0 ≤ idxF (fun f => decide (j.g.first < f.h)) 0 j.floats then vR H 12 (idxF (fun f => decide (j.g.first < f.h)) 0 j.floats) else v9X j H j.floats.length) := by
  unfold lp32_3
  refine Eq.trans (evD_rng j.floats (fun (_ : Unit) i => v9E j H i) (fun _ _ => True) (stepH (fun f => decide (j.g.first < f.h)) (vR H 12)) (fun _ => v9X j H j.floats.length) (fun _ _ => rfl) ?_ ?_ () 0 trivial (Nat.zero_le _)) (by rw [rng_hit]; rfl)
  · rintro _ i x - hx
    have hlt := (List.getElem?_eq_some_iff.1 hx).1
    have w : IntKind.i64.wrap ((i : Int) + 1) = ((i + 1 : Nat) : Int) := w64 (by omega) (by omega)
    have hix := fun H k => ixs_nat H encFloat (k := k) (s := 3) hx rfl
    simp only [encFloat] at hix
    by_cases e : j.g.first < x.h
    · simp [stepH, e, v9E, vR, hlt, hix, subs, setSubs]
    · simp [stepH, e, v9E, hlt, hix, subs, setSubs, w]
  · rintro _ -
    simp [v9E, v9X, subs]

/-! ### All of it -/
theorem geom_vals (g : Geom) : geomF g = 0 ∨ geomF g = 6 ∨ geomF g = 7 := by
  unfold geomF
  repeat' split
  all_goals first | exact .inl rfl | exact .inr (.inl rfl) | exact .inr (.inr rfl)
def rcheckF (j : Job) : Int × Int :=
  if 4096 < (j.items.length : Int) then (3, 0) else if 256 < (j.floats.length : Int) then (4, 0) else if 512 < (j.notes.length : Int) then (5, 0)
  else if geomF j.g ≠ 0 then (geomF j.g, 0)
  else if 0 ≤ idxF (fun x => !rightF x) 0 j.items then (8, idxF (fun x => !rightF x) 0 j.items)
  else if 0 ≤ idxF (fun x => wrongF x.lines x.pens) 0 j.notes then (9, idxF (fun x => wrongF x.lines x.pens) 0 j.notes)
  else if 0 ≤ idxF (fun x => !floatOK x) 0 j.floats then (10, idxF (fun x => !floatOK x) 0 j.floats)
  else if 0 ≤ refF 5 j.notes.length 0 0 j.items ∧ (refF 6 j.floats.length 0 0 j.items < 0 ∨ refF 5 j.notes.length 0 0 j.items ≤ refF 6 j.floats.length 0 0 j.items) then (11, refF 5 j.notes.length 0 0 j.items)
  else if 0 ≤ refF 6 j.floats.length 0 0 j.items then (11, refF 6 j.floats.length 0 0 j.items)
  else if 0 ≤ tallF j then (12, tallF j) else (0, 0)
theorem loose_eq (a b : Int) (R : Int × Int) : (if 0 ≤ a ∧ (b < 0 ∨ a ≤ b) then ((11 : Int), a) else if 0 ≤ b then (11, b) else R) = if 0 ≤ (if a < 0 ∨ b < 0 then max a b else min a b) then (11, if a < 0 ∨ b < 0 then max a b else min a b) else R := by
  by_cases ha : a < 0
  · have h1 : ¬ (0 ≤ a ∧ (b < 0 ∨ a ≤ b)) := by omega
    have h2 : a < 0 ∨ b < 0 := .inl ha
    rw [if_neg h1]
    simp only [if_pos h2]
    by_cases hb : b < 0
    · have h3 : ¬ 0 ≤ b := by omega
      have h4 : ¬ 0 ≤ max a b := by omega
      rw [if_neg h3, if_neg h4]
    · have e : max a b = b := by omega
      rw [e]
  · by_cases hb : b < 0
    · have e : max a b = a := by omega
      have h2 : a < 0 ∨ b < 0 := .inr hb
      have h3 : 0 ≤ a ∧ (b < 0 ∨ a ≤ b) := ⟨by omega, .inl hb⟩
      rw [if_pos h3]
      simp only [if_pos h2, e, if_pos h3.1]
    · have h2 : ¬ (a < 0 ∨ b < 0) := by omega
      simp only [if_neg h2]
      by_cases hab : a ≤ b
      · have e : min a b = a := by omega
        have h3 : 0 ≤ a ∧ (b < 0 ∨ a ≤ b) := ⟨by omega, .inr hab⟩
        rw [if_pos h3]
        simp only [e, if_pos h3.1]
      · have e : min a b = b := by omega
        have h3 : ¬ (0 ≤ a ∧ (b < 0 ∨ a ≤ b)) := by omega
        rw [if_neg h3, e]
theorem rcheck_eq (j : Job) : rcheckF j = checkF j := by
  unfold rcheckF checkF clausesC
  rw [loose_eq]
  simp only [firstOf, yes, looseF]
  by_cases c1 : 4096 < (j.items.length : Int)
  · simp [c1]
  · by_cases c2 : 256 < (j.floats.length : Int)
    · simp [c1, c2]
    · by_cases c3 : 512 < (j.notes.length : Int)
      · simp [c1, c2, c3]
      · rcases geom_vals j.g with g | g | g
        · simp [c1, c2, c3, g]
          rfl
        · simp [c1, c2, c3, g]
        · simp [c1, c2, c3, g]

theorem rvalidCheck_ev (j : Job) (ok : okJob j) (n3 : (snapG j).floats.length ≤ 1000000) (H : Heap) : clD EE (.p (.fn 32)) [vJob j] H = some (.agg [vI (checkF j).1, vI (checkF j).2], none) := by
  rw [clD_body _ _ _ _ _ _ (noP _) fn32, ← rcheck_eq]
  unfold rcheckF
  have hg := rgeomCheck_ev j.g H
  have k0 := v_lp0 j ok H
  have k1 := v_lp1 j ok H
  have k2 := v_lp2 j ok H
  have ha := ranchors_ev j.items 5 j.notes.length H ok.n1
  have hb := ranchors_ev j.items 6 j.floats.length H ok.n1
  have hs := rsnap_ev j ok H
  have k3 := v_lp3 (snapG j) n3 H
  have et : idxF (fun f => decide ((snapG j).g.first < f.h)) 0 (snapG j).floats = tallF j := rfl
  rw [et] at k3
  generalize snapG j = s at *
  generalize idxF (fun x => !rightF x) 0 j.items = i1 at *
  generalize idxF (fun x => wrongF x.lines x.pens) 0 j.notes = i2 at *
  generalize idxF (fun x => !floatOK x) 0 j.floats = i3 at *
  generalize tallF j = t at *
  simp only [vE, vX, vR, v9E, v9X] at k0 k1 k2 k3
  simp only [vJob, cGeom, List.cons_append, List.nil_append] at hs
  by_cases c1 : 4096 < (j.items.length : Int)
  · simp [St.enter, enumFrom, subs, setSubs, c1]
  · by_cases c2 : 256 < (j.floats.length : Int)
    · simp [St.enter, enumFrom, subs, setSubs, c1, c2]
    · by_cases c3 : 512 < (j.notes.length : Int)
      · simp [St.enter, enumFrom, subs, setSubs, c1, c2, c3]
      · by_cases c4 : geomF j.g = 0
        · rw [c4] at hg
          by_cases d1 : 0 ≤ i1
          · rw [if_pos d1] at k0
            simp at k0
            simp [St.enter, enumFrom, subs, setSubs, c1, c2, c3, c4, hg, k0, d1]
          · rw [if_neg d1] at k0
            by_cases d2 : 0 ≤ i2
            · rw [if_pos d2] at k1
              simp at k0 k1
              simp [St.enter, enumFrom, subs, setSubs, c1, c2, c3, c4, hg, k0, k1, d1, d2]
            · rw [if_neg d2] at k1
              by_cases d3 : 0 ≤ i3
              · rw [if_pos d3] at k2
                simp at k0 k1 k2
                simp [St.enter, enumFrom, subs, setSubs, c1, c2, c3, c4, hg, k0, k1, k2, d1, d2, d3]
              · rw [if_neg d3] at k2
                simp at k0 k1 k2
                generalize refF 5 j.notes.length 0 0 j.items = a at *
                generalize refF 6 j.floats.length 0 0 j.items = b at *
                by_cases e1 : 0 ≤ a
                · by_cases e2 : b < 0
                  · simp [St.enter, enumFrom, subs, setSubs, c1, c2, c3, c4, hg, k0, k1, k2, d1, d2, d3, ha, hb, e1, e2]
                  · by_cases e3 : a ≤ b
                    · simp [St.enter, enumFrom, subs, setSubs, c1, c2, c3, c4, hg, k0, k1, k2, d1, d2, d3, ha, hb, e1, e2, e3]
                    · have e4 : 0 ≤ b := by omega
                      simp [St.enter, enumFrom, subs, setSubs, c1, c2, c3, c4, hg, k0, k1, k2, d1, d2, d3, ha, hb, e1, e2, e3, e4]
                · by_cases e4 : 0 ≤ b
                  · simp [St.enter, enumFrom, subs, setSubs, c1, c2, c3, c4, hg, k0, k1, k2, d1, d2, d3, ha, hb, e1, e4]
                  · by_cases d4 : 0 ≤ t
                    · rw [if_pos d4] at k3
                      simp at k3
                      simp [St.enter, enumFrom, subs, setSubs, c1, c2, c3, c4, hg, k0, k1, k2, d1, d2, d3, ha, hb, e1, e4, hs, k3, d4]
                    · rw [if_neg d4] at k3
                      simp at k3
                      simp [St.enter, enumFrom, subs, setSubs, c1, c2, c3, c4, hg, k0, k1, k2, d1, d2, d3, ha, hb, e1, e4, hs, k3, d4]
        · simp [St.enter, enumFrom, subs, setSubs, c1, c2, c3, c4, hg]
end Go.EnvOf

/- The law ValidAnchors, evaluated. -/
namespace Go.EnvOf
open Go Go.Eng
set_option maxRecDepth 100000

end Go.EnvOf

/- The law ValidTells, evaluated. -/
namespace Go.EnvOf
open Go Go.Eng
set_option maxRecDepth 100000

theorem snap_floats {j : Job} (h : j.floats.length ≤ 1000000) : (snapG j).floats.length ≤ 1000000 := by
  unfold snapG; split
  · exact h
  · simpa using h
end Go.EnvOf

/- Fewer items: what remains of the anchors. -/
namespace Go.EnvOf
open Go Go.Eng

def cnt (k : Int) (l : List Item) : Nat := (l.filter fun x => decide (x.k = k)).length
theorem cnt_cons (k : Int) (x : Item) (r : List Item) : cnt k (x :: r) = (if x.k = k then 1 else 0) + cnt k r := by
  unfold cnt
  by_cases h : x.k = k
  · simp [h]; omega
  · simp [h]
theorem refF_all (k : Int) (most : Nat) : ∀ (l : List Item) (i n : Nat), n ≤ most → refF k most i n l < 0 → n + cnt k l = most
  | [], i, n, hn, h => by
    simp only [refF] at h
    by_cases c : n < most
    · rw [if_pos c] at h; omega
    · simp [cnt]; omega
  | x :: r, i, n, hn, h => by
    simp only [refF] at h
    rw [cnt_cons]
    by_cases hk : x.k = k
    · rw [if_pos hk] at h ⊢
      by_cases hx : x.n = n ∧ n < most
      · rw [if_pos hx] at h
        have := refF_all k most r (i + 1) (n + 1) (by omega) h
        omega
      · rw [if_neg hx] at h; omega
    · rw [if_neg hk] at h ⊢
      have := refF_all k most r (i + 1) n hn h
      omega
theorem cnt_take_le (k : Int) (l : List Item) (m : Nat) : cnt k (l.take m) ≤ cnt k l := by
  unfold cnt
  conv => rhs; rw [← List.take_append_drop m l, List.filter_append, List.length_append]
  omega
theorem idxF_neg {α : Type} {p : α → Bool} {l : List α} (h : idxF p 0 l < 0) : ∀ x ∈ l, p x = false := by
  have := idxF_any p 0 l
  have h2 : l.any p = false := by rw [← this]; simp; omega
  intro x hx
  have := List.any_eq_false.1 h2 x hx
  simpa using this
theorem idxF_of {α : Type} {p : α → Bool} {l : List α} (h : ∀ x ∈ l, p x = false) : idxF p 0 l < 0 := by
  have := idxF_any p 0 l
  have h2 : l.any p = false := by rw [List.any_eq_false]; intro x hx; rw [h x hx]; simp
  rw [h2] at this
  simp at this; exact this

/-- What it means that a job may be. -/
structure Right (j : Job) : Prop where
  n1 : (j.items.length : Int) ≤ 4096
  n2 : (j.floats.length : Int) ≤ 256
  n3 : (j.notes.length : Int) ≤ 512
  g : geomF j.g = 0
  items : ∀ x ∈ j.items, rightF x = true
  notes : ∀ x ∈ j.notes, wrongF x.lines x.pens = false
  floats : ∀ x ∈ j.floats, floatOK x = true
  r5 : refF 5 j.notes.length 0 0 j.items < 0
  r6 : refF 6 j.floats.length 0 0 j.items < 0
  tall : ∀ f ∈ (snapG j).floats, ¬ (snapG j).g.first < f.h
theorem right_iff (j : Job) : (checkF j).1 = 0 ↔ Right j := by
  rw [← rcheck_eq]
  constructor
  · intro h
    unfold rcheckF at h
    split at h
    · cases h
    split at h
    · cases h
    split at h
    · cases h
    split at h
    · rename_i hg; exact absurd h hg
    split at h
    · cases h
    split at h
    · cases h
    split at h
    · cases h
    split at h
    · cases h
    split at h
    · cases h
    split at h
    · cases h
    rename_i a1 a2 a3 a4 a5 a6 a7 a8 a9 a10
    refine ⟨by omega, by omega, by omega, by omega, fun x hx => ?_, fun x hx => ?_, fun x hx => ?_, by omega, by omega, fun f hf => ?_⟩
    · simpa using idxF_neg (p := fun x => !rightF x) (by omega) x hx
    · exact idxF_neg (p := fun x : Note => wrongF x.lines x.pens) (by omega) x hx
    · simpa using idxF_neg (p := fun x => !floatOK x) (by omega) x hx
    · have : tallF j < 0 := by omega
      simpa using idxF_neg this f hf
  · intro r
    have i1 := idxF_of (p := fun x => !rightF x) (l := j.items) fun x hx => by rw [r.items x hx]; rfl
    have i2 := idxF_of (p := fun x : Note => wrongF x.lines x.pens) (l := j.notes) r.notes
    have i3 := idxF_of (p := fun x => !floatOK x) (l := j.floats) fun x hx => by rw [r.floats x hx]; rfl
    have i4 : tallF j < 0 := idxF_of fun f hf => by simpa using r.tall f hf
    have a1 := r.n1
    have a2 := r.n2
    have a3 := r.n3
    have a4 := r.g
    have a5 := r.r5
    have a6 := r.r6
    unfold rcheckF
    rw [if_neg (by omega), if_neg (by omega), if_neg (by omega), if_neg (by omega), if_neg (by omega), if_neg (by omega), if_neg (by omega), if_neg (by omega), if_neg (by omega), if_neg (by omega)]
end Go.EnvOf

/- The layer split: what follows pieces of notes, how high they are, how many lines they have. -/
namespace Go.EnvOf
open Go Go.Eng
set_option maxRecDepth 100000

structure Piece where
  n : Int
  frm : Int
  to : Int
  deriving Inhabited, DecidableEq
def encPiece (x : Piece) : List PV := [.int .i64 x.n, .int .i64 x.frm, .int .i64 x.to]
@[simp] theorem encPiece_len (x : Piece) : (encPiece x).length = 3 := rfl
abbrev vPieces (l : List Piece) : V := .p (.sl (l.map encPiece))
structure Spot where
  note : Int
  line : Int
  begun : Int
  fresh : Bool
  deriving Inhabited, DecidableEq
abbrev vSpot (s : Spot) : V := .agg [vI s.note, vI s.line, vI s.begun, vB s.fresh]

/-! ### More than is gone through -/
/-! ### What follows -/
/-! ### How high -/
/-! ### How many lines -/
/-! ### The same pieces -/
end Go.EnvOf

/- Worlds: the plain law (trimming, anchors). -/
namespace Go.EnvOf
open Go Go.Eng
set_option maxRecDepth 100000
def looseI (x : Item) : Bool := decide (x.k = 2) || decide (x.k = 3)
/-- Does the item stay, or does the list end? -/
def stayB (l : List Item) (n : Nat) : Bool := match l[n]? with | some x => !looseI x | none => true
/-- The first place from one on at which something holds, of so many. -/
def seekP (p : Nat → Bool) : Nat → Nat → Int
  | 0, _ => -1
  | k + 1, n => if p n = true then n else seekP p k (n + 1)
def trimN (l : List Item) (a : Nat) : Nat := a + ((l.drop a).takeWhile looseI).length
theorem trimN_le (l : List Item) (a : Nat) (h : a ≤ l.length) : trimN l a ≤ l.length := by
  unfold trimN
  have h2 := (List.takeWhile_sublist (l := l.drop a) looseI).length_le
  simp only [List.length_drop] at h2
  omega
theorem trimN_loose {l : List Item} {a : Nat} {x : Item} (hx : l[a]? = some x) (h : looseI x = true) : trimN l a = trimN l (a + 1) := by
  obtain ⟨hl, rfl⟩ := List.getElem?_eq_some_iff.1 hx
  unfold trimN
  rw [List.drop_eq_getElem_cons hl, List.takeWhile_cons, if_pos h]
  simp only [List.length_cons]; omega
theorem trimN_stay {l : List Item} {a : Nat} (h : stayB l a = true) : trimN l a = a := by
  unfold trimN stayB at *
  cases hx : l[a]? with
  | none =>
    have : l.length ≤ a := by simpa using hx
    rw [List.drop_eq_nil_of_le this]; simp
  | some x =>
    rw [hx] at h
    obtain ⟨hl, rfl⟩ := List.getElem?_eq_some_iff.1 hx
    rw [List.drop_eq_getElem_cons hl, List.takeWhile_cons, if_neg (by simpa using h)]
    simp
theorem stay_not {l : List Item} {a : Nat} (h : stayB l a = false) : ∃ x, l[a]? = some x ∧ looseI x = true := by
  unfold stayB at h
  cases hx : l[a]? with
  | none => rw [hx] at h; simp at h
  | some x => rw [hx] at h; exact ⟨x, rfl, by simpa using h⟩
theorem trimN_step {l : List Item} {a : Nat} (h : stayB l a = false) : trimN l a = trimN l (a + 1) := by
  obtain ⟨x, hx, hl⟩ := stay_not h
  exact trimN_loose hx hl
theorem seek_trim (l : List Item) : ∀ (k a : Nat), a ≤ l.length → l.length + 1 - a = k → seekP (stayB l) k a = trimN l a
  | 0, a, h, hk => by omega
  | k + 1, a, h, hk => by
    simp only [seekP]
    cases hs : stayB l a with
    | true => rw [if_pos rfl, trimN_stay hs]
    | false =>
      obtain ⟨x, hx, hl⟩ := stay_not hs
      have hlt := (List.getElem?_eq_some_iff.1 hx).1
      rw [if_neg (by simp), seek_trim l k (a + 1) (by omega) (by omega), trimN_loose hx hl]
theorem stay_trim (l : List Item) (n a : Nat) (hn : l.length - a = n) : stayB l (trimN l a) = true := by
  induction n generalizing a with
  | zero =>
    have : stayB l a = true := by unfold stayB; rw [List.getElem?_eq_none (by omega)]
    rw [trimN_stay this]; exact this
  | succ n ih =>
    cases hs : stayB l a with
    | true => rw [trimN_stay hs]; exact hs
    | false => rw [trimN_step hs]; exact ih (a + 1) (by omega)
theorem trimN_idem (l : List Item) (a : Nat) : trimN l (trimN l a) = trimN l a := trimN_stay (stay_trim l _ a rfl)
/-- A number brought into a list. -/
def putN (l : List Item) (n : Int) : Nat := (min (max n 0) l.length).toNat
theorem putN_le (l : List Item) (n : Int) : putN l n ≤ l.length := by unfold putN; omega
theorem putN_of {l : List Item} {n : Nat} (h : n ≤ l.length) : putN l n = n := by unfold putN; omega
def trimF (l : List Item) (n : Int) : Nat := trimN l (putN l n)
theorem trimF_le (l : List Item) (n : Int) : trimF l n ≤ l.length := trimN_le _ _ (putN_le l n)
/-! ### Anchors -/
def begunP (l : List Item) : Int := cnt 5 l
def addAt (fs : List Float) (c : C3) (x : Item) : C3 := if x.k = 6 then ofS fs c x.n else c
def aheadP (fs : List Float) (l : List Item) : C3 := l.foldl (addAt fs) ⟨0, 0, 0⟩
def dueS (fs : List Float) (s : C3 × C3) (x : Item) : C3 × C3 := (addAt fs s.1 x, if x.k = 7 then s.1 else s.2)
def dueP (fs : List Float) (l : List Item) : C3 := (l.foldl (dueS fs) (⟨0, 0, 0⟩, ⟨0, 0, 0⟩)).2
theorem due_fst (fs : List Float) (l : List Item) : ∀ s : C3 × C3, (l.foldl (dueS fs) s).1 = l.foldl (addAt fs) s.1 := by
  induction l with
  | nil => intro s; rfl
  | cons x r ih => intro s; simp only [List.foldl_cons, ih]; rfl
theorem take_snoc {α : Type} {l : List α} {i : Nat} {x : α} (h : l[i]? = some x) : l.take (i + 1) = l.take i ++ [x] := by rw [List.take_add_one, h]; rfl
theorem begunP_snoc (l : List Item) (x : Item) : begunP (l ++ [x]) = begunP l + if x.k = 5 then 1 else 0 := by
  unfold begunP cnt
  by_cases h : x.k = 5 <;> simp [List.filter_append, h]
theorem aheadP_snoc (fs : List Float) (l : List Item) (x : Item) : aheadP fs (l ++ [x]) = addAt fs (aheadP fs l) x := by simp [aheadP]
theorem dueP_snoc (fs : List Float) (l : List Item) (x : Item) : dueP fs (l ++ [x]) = if x.k = 7 then aheadP fs l else dueP fs l := by
  simp only [dueP, List.foldl_append, List.foldl_cons, List.foldl_nil, dueS, due_fst]; rfl
theorem begunP_bd (l : List Item) : 0 ≤ begunP l ∧ begunP l ≤ l.length := by
  unfold begunP cnt
  have := List.length_filter_le (fun x : Item => decide (x.k = 5)) l
  omega
theorem addAt_bd (fs : List Float) (c : C3) (x : Item) (m : Int) (h : 0 ≤ c.a ∧ 0 ≤ c.b ∧ 0 ≤ c.c ∧ c.a ≤ m ∧ c.b ≤ m ∧ c.c ≤ m) :
    0 ≤ (addAt fs c x).a ∧ 0 ≤ (addAt fs c x).b ∧ 0 ≤ (addAt fs c x).c ∧ (addAt fs c x).a ≤ m + 1 ∧ (addAt fs c x).b ≤ m + 1 ∧ (addAt fs c x).c ≤ m + 1 := by
  unfold addAt ofS bump
  (repeat' split) <;> (try simp only) <;> omega
theorem aheadP_bd (fs : List Float) (l : List Item) : 0 ≤ (aheadP fs l).a ∧ 0 ≤ (aheadP fs l).b ∧ 0 ≤ (aheadP fs l).c ∧ (aheadP fs l).a ≤ l.length ∧ (aheadP fs l).b ≤ l.length ∧ (aheadP fs l).c ≤ l.length := by
  have key : ∀ (l : List Item) (c : C3) (m : Int), (0 ≤ c.a ∧ 0 ≤ c.b ∧ 0 ≤ c.c ∧ c.a ≤ m ∧ c.b ≤ m ∧ c.c ≤ m) →
      0 ≤ (l.foldl (addAt fs) c).a ∧ 0 ≤ (l.foldl (addAt fs) c).b ∧ 0 ≤ (l.foldl (addAt fs) c).c ∧ (l.foldl (addAt fs) c).a ≤ m + l.length ∧ (l.foldl (addAt fs) c).b ≤ m + l.length ∧ (l.foldl (addAt fs) c).c ≤ m + l.length := by
    intro l
    induction l with
    | nil => intro c m h; simpa using h
    | cons x r ih =>
      intro c m h
      have h1 := ih (addAt fs c x) (m + 1) (addAt_bd fs c x m h)
      simp only [List.foldl_cons, List.length_cons]
      omega
  have := key l ⟨0, 0, 0⟩ 0 (by simp)
  simpa [aheadP] using this
/-- What belongs to each place of a list. -/
def preL {α : Type} (f : List Item → α) (l : List Item) (n : Nat) : List α := (List.range n).map fun k => f (l.take k)
theorem preL_len {α : Type} (f : List Item → α) (l : List Item) (n : Nat) : (preL f l n).length = n := by simp [preL]
theorem preL_succ {α : Type} (f : List Item → α) (l : List Item) (n : Nat) : preL f l (n + 1) = preL f l n ++ [f (l.take n)] := by simp [preL, List.range_succ]
theorem preL_get {α : Type} (f : List Item → α) (l : List Item) (n i : Nat) (h : i < n) : (preL f l n)[i]? = some (f (l.take i)) := by simp [preL, h]
/-! ### The numbers of notes' lines -/
def lineN (l : List Note) : Int := (l.map fun n => (n.lines.length : Int)).sum
/-! ### States -/
def begunF (j : Job) (n : Int) : Int := begunP (j.items.take (putN j.items n))
def aheadF (j : Job) (n : Int) : C3 := aheadP j.floats (j.items.take (putN j.items n))
def carriesF (j : Job) (s : Stt) : Bool :=
  if s.line = 0 then decide (s.note = begunF j s.at_) else
  if s.note ≠ begunF j s.at_ - 1 ∨ s.note < 0 ∨ s.line < 1 then false else
  decide (s.line < (rd j.notes s.note).lines.length) && mayF (rd j.notes s.note).lines (rd j.notes s.note).pens s.line
def zeroC : C3 := ⟨0, 0, 0⟩
def rightS (j : Job) (s : Stt) : Bool :=
  if s.at_ < 0 ∨ (j.items.length : Int) < s.at_ ∨ (trimF j.items s.at_ : Int) ≠ s.at_ ∨ s.col < 0 ∨ j.g.cols < s.col then false else
  carriesF j s && inC zeroC s.h && inC s.h (aheadF j s.at_)
def startS (j : Job) : Stt := ⟨trimF j.items 0, 0, 0, 0, zeroC⟩
def allS (j : Job) : C3 := aheadP j.floats j.items
def doneS (j : Job) (s : Stt) : Bool := rightS j s && decide (s.at_ = j.items.length) && decide (s.line = 0) && decide (s.note = j.notes.length) && decide (s.h = allS j)
end Go.EnvOf

/- Totals of lists: the plain law. -/
namespace Go.EnvOf
open Go Go.Eng
set_option maxRecDepth 100000
structure Tot where
  nat : Int
  s0 : Int
  s1 : Int
  s2 : Int
  s3 : Int
  shr : Int
  deriving Inhabited, DecidableEq
def encTot (t : Tot) : List PV := [.int .i64 t.nat, .int .i64 t.s0, .int .i64 t.s1, .int .i64 t.s2, .int .i64 t.s3, .int .i64 t.shr]
@[simp] theorem encTot_len (t : Tot) : (encTot t).length = 6 := rfl
abbrev vTot (t : Tot) : V := .agg [vI t.nat, vI t.s0, vI t.s1, vI t.s2, vI t.s3, vI t.shr]
def zeroT : Tot := ⟨0, 0, 0, 0, 0, 0⟩
def addT (a b : Tot) : Tot := ⟨a.nat + b.nat, a.s0 + b.s0, a.s1 + b.s1, a.s2 + b.s2, a.s3 + b.s3, a.shr + b.shr⟩
def glueT (h str ord shr : Int) : Tot := ⟨h, if ord = 0 then str else 0, if ord = 1 then str else 0, if ord = 2 then str else 0, if ord = 3 then str else 0, shr⟩
def totI (x : Item) : Tot := if x.k = 1 then ⟨x.h, 0, 0, 0, 0, 0⟩ else if x.k = 2 then glueT x.h x.str x.ord x.shr else zeroT
def totP (l : List Item) : Tot := l.foldl (fun t x => addT t (totI x)) zeroT
theorem totP_snoc (l : List Item) (x : Item) : totP (l ++ [x]) = addT (totP l) (totI x) := by simp [totP]
def boxI1 (x : Item) : Int := if x.k = 1 then x.h else 0
def boxP (l : List Item) : Int := l.foldl (fun t x => t + boxI1 x) 0
theorem boxP_snoc (l : List Item) (x : Item) : boxP (l ++ [x]) = boxP l + boxI1 x := by simp [boxP]
structure inT (m : Int) (t : Tot) : Prop where
  nat : 0 ≤ t.nat ∧ t.nat ≤ m
  s0 : 0 ≤ t.s0 ∧ t.s0 ≤ m
  s1 : 0 ≤ t.s1 ∧ t.s1 ≤ m
  s2 : 0 ≤ t.s2 ∧ t.s2 ≤ m
  s3 : 0 ≤ t.s3 ∧ t.s3 ≤ m
  shr : 0 ≤ t.shr ∧ t.shr ≤ m
theorem inT_zero : inT 0 zeroT := by constructor <;> simp [zeroT]
theorem inT_add {m k : Int} {a b : Tot} (ha : inT m a) (hb : inT k b) : inT (m + k) (addT a b) := by
  obtain ⟨⟨a1, a2⟩, ⟨a3, a4⟩, ⟨a5, a6⟩, ⟨a7, a8⟩, ⟨a9, b1⟩, ⟨b2, b3⟩⟩ := ha
  obtain ⟨⟨c1, c2⟩, ⟨c3, c4⟩, ⟨c5, c6⟩, ⟨c7, c8⟩, ⟨c9, d1⟩, ⟨d2, d3⟩⟩ := hb
  constructor <;> simp only [addT] <;> omega
/-- An item whose lengths may be, on a grid. -/
structure fairI (x : Item) : Prop where
  h : 0 ≤ x.h ∧ x.h ≤ 4294967296
  str : 0 ≤ x.str ∧ x.str ≤ 4294967296
  shr : 0 ≤ x.shr ∧ x.shr ≤ 4294967296
theorem totI_in {x : Item} (f : fairI x) : inT 4294967296 (totI x) := by
  have a := f.h
  have b := f.str
  have c := f.shr
  unfold totI
  split
  · constructor <;> simp only <;> omega
  · split
    · unfold glueT; constructor <;> simp only <;> first | omega | (split <;> omega)
    · constructor <;> simp [zeroT]
theorem totP_in : ∀ (l : List Item), (∀ x ∈ l, fairI x) → inT (4294967296 * l.length) (totP l) := by
  have key : ∀ (l : List Item) (t : Tot) (m : Int), inT m t → (∀ x ∈ l, fairI x) → inT (m + 4294967296 * l.length) (l.foldl (fun t x => addT t (totI x)) t) := by
    intro l
    induction l with
    | nil => intro t m h _; simpa using h
    | cons x r ih =>
      intro t m h hf
      have h1 := ih _ _ (inT_add h (totI_in (hf x List.mem_cons_self))) fun y hy => hf y (List.mem_cons_of_mem _ hy)
      simp only [List.foldl_cons, List.length_cons]
      have e : m + 4294967296 * ((r.length + 1 : Nat) : Int) = m + 4294967296 + 4294967296 * r.length := by simp only [Int.natCast_add, Int.natCast_one]; omega
      rw [e]; exact h1
  intro l hf
  have := key l zeroT 0 inT_zero hf
  simpa [totP] using this
theorem boxI1_in {x : Item} (f : fairI x) : 0 ≤ boxI1 x ∧ boxI1 x ≤ 4294967296 := by
  have := f.h
  unfold boxI1; split <;> omega
theorem boxP_in : ∀ (l : List Item), (∀ x ∈ l, fairI x) → 0 ≤ boxP l ∧ boxP l ≤ 4294967296 * l.length := by
  have key : ∀ (l : List Item) (t m : Int), 0 ≤ t → t ≤ m → (∀ x ∈ l, fairI x) → 0 ≤ l.foldl (fun t x => t + boxI1 x) t ∧ l.foldl (fun t x => t + boxI1 x) t ≤ m + 4294967296 * l.length := by
    intro l
    induction l with
    | nil => intro t m h h2 _; simp; omega
    | cons x r ih =>
      intro t m h h2 hf
      have hx := boxI1_in (hf x List.mem_cons_self)
      have h1 := ih (t + boxI1 x) (m + 4294967296) (by omega) (by omega) fun y hy => hf y (List.mem_cons_of_mem _ hy)
      simp only [List.foldl_cons, List.length_cons]
      have e : m + 4294967296 * ((r.length + 1 : Nat) : Int) = m + 4294967296 + 4294967296 * r.length := by simp only [Int.natCast_add, Int.natCast_one]; omega
      rw [e]; exact h1
  intro l hf
  have := key l 0 0 (by omega) (by omega) hf
  simpa [boxP] using this
theorem near_bound {n s : Int} (h0 : 0 ≤ n) (h1 : n ≤ 1073741823) (h2 : s ≤ 1073741823) : 0 ≤ nearG n s ∧ nearG n s ≤ 4294967296 := by
  unfold nearG
  split
  · omega
  · split
    · exact down_bound h0 h1 (by omega) h2
    · exact up_bound h0 h1 (by omega) h2
theorem wfair_item {x : Item} (h : rightF x = true) : fairI x := by
  simp [rightF, Bool.and_eq_true, lenOK, decide_eq_true_eq] at h
  constructor <;> omega
theorem fair_itemG {x : Item} {s : Int} (h : rightF x = true) (h1 : 1 ≤ s) (h2 : s ≤ 1073741823) : fairI (itemG s x) := by
  have f := wfair_item h
  simp [rightF, Bool.and_eq_true, lenOK, decide_eq_true_eq] at h
  unfold itemG
  split
  · exact ⟨up_bound (by omega) (by omega) h1 h2, f.str, f.shr⟩
  · split
    · exact ⟨near_bound (by omega) (by omega) h2, by simp, by simp⟩
    · exact f
theorem geom_grid {g : Geom} (h : geomF g = 0) : 0 ≤ g.grid ∧ g.grid ≤ 536870912 ∧ 1 ≤ g.cols ∧ g.cols ≤ 8 ∧ 1 ≤ g.high ∧ g.high ≤ 1073741823 ∧ 0 ≤ g.rule ∧ g.rule ≤ 536870912 ∧ 0 ≤ g.sep ∧ g.sep ≤ 536870912 := by
  unfold geomF at h
  by_cases q1 : inR 1 8 [g.cols] = false
  · rw [if_pos q1] at h; omega
  rw [if_neg q1] at h
  by_cases q2 : inR 1 1073741823 [g.wide, g.high] = false
  · rw [if_pos q2] at h; omega
  rw [if_neg q2] at h
  by_cases q3 : inR 0 1073741823 [g.gap, g.noteMost, g.topMost, g.botMost] = false
  · rw [if_pos q3] at h; omega
  rw [if_neg q3] at h
  by_cases q4 : inR 0 536870912 [g.rule, g.sep, g.grid] = false
  · rw [if_pos q4] at h; omega
  have a1 := inR_of q1 g.cols (by simp)
  have a2 := inR_of q2 g.high (by simp)
  have a3 := inR_of q4 g.grid (by simp)
  have a4 := inR_of q4 g.rule (by simp)
  have a5 := inR_of q4 g.sep (by simp)
  omega
theorem snap_fair {j : Job} (r : Right j) : ∀ x ∈ (snapG j).items, fairI x := by
  have hg := geom_grid r.g
  unfold snapG
  split
  · exact fun x hx => wfair_item (r.items x hx)
  · intro x hx
    obtain ⟨y, hy, rfl⟩ := List.mem_map.1 hx
    exact fair_itemG (r.items y hy) (by omega) (by omega)
end Go.EnvOf

/- Worlds: the start, the next state (the plain law). -/
namespace Go.EnvOf
open Go Go.Eng
set_option maxRecDepth 100000
structure Colm where
  k : Int
  frm : Int
  to : Int
  notes : List Piece
  top : List Int
  bot : List Int
  deriving Inhabited, DecidableEq
abbrev vColm (c : Colm) : V := .agg [vI c.k, vI c.frm, vI c.to, vPieces c.notes, sli c.top, sli c.bot]
def zeroS : Stt := ⟨0, 0, 0, 0, ⟨0, 0, 0⟩⟩
/-! ### Snapping keeps the anchors -/
theorem witemG_k (s : Int) (x : Item) : (itemG s x).k = x.k := by unfold itemG; (repeat' split) <;> rfl
theorem itemG_n (s : Int) (x : Item) : (itemG s x).n = x.n := by unfold itemG; (repeat' split) <;> rfl
theorem snap_items (j : Job) : ∃ f : Item → Item, (snapG j).items = j.items.map f ∧ ∀ x, (f x).k = x.k ∧ (f x).n = x.n := by
  unfold snapG
  split
  · exact ⟨fun x => x, by simp, fun x => ⟨rfl, rfl⟩⟩
  · exact ⟨itemG j.g.grid, rfl, fun x => ⟨witemG_k _ x, itemG_n _ x⟩⟩
theorem snap_nlen (j : Job) : (snapG j).notes.length = j.notes.length := by unfold snapG; split <;> simp
theorem snap_ilen (j : Job) : (snapG j).items.length = j.items.length := by unfold snapG; split <;> simp
theorem snap_cols (j : Job) : (snapG j).g.cols = j.g.cols := by unfold snapG; split <;> rfl
theorem cnt_zero {k : Int} {l : List Item} (h : ∀ x ∈ l, x.k ≠ k) : cnt k l = 0 := by
  unfold cnt
  rw [List.length_eq_zero_iff, List.filter_eq_nil_iff]
  intro x hx; simpa using h x hx
theorem cnt_map (k : Int) (f : Item → Item) (hf : ∀ x, (f x).k = x.k) (l : List Item) : cnt k (l.map f) = cnt k l := by
  unfold cnt
  induction l with
  | nil => rfl
  | cons x r ih => simp only [List.map_cons, List.filter_cons, hf]; split <;> simp [ih]
theorem aheadP_zero {fs : List Float} : ∀ {l : List Item}, (∀ x ∈ l, x.k ≠ 6) → aheadP fs l = ⟨0, 0, 0⟩ := by
  have key : ∀ (l : List Item) (c : C3), (∀ x ∈ l, x.k ≠ 6) → l.foldl (addAt fs) c = c := by
    intro l
    induction l with
    | nil => intro c _; rfl
    | cons x r ih =>
      intro c h
      have h6 := h x List.mem_cons_self
      simp only [List.foldl_cons, addAt, if_neg h6]
      exact ih c fun y hy => h y (List.mem_cons_of_mem _ hy)
  intro l h; exact key l _ h
/-! ### The start -/
theorem takeWhile_take {α : Type} (p : α → Bool) (l : List α) : l.take (l.takeWhile p).length = l.takeWhile p := (List.prefix_iff_eq_take.1 (List.takeWhile_prefix p)).symm
theorem mem_takeWhile {α : Type} {p : α → Bool} : ∀ {l : List α} {x : α}, x ∈ l.takeWhile p → p x = true
  | y :: r, x, h => by
    rw [List.takeWhile_cons] at h
    split at h
    · rename_i hy
      rcases List.mem_cons.1 h with rfl | h
      · exact hy
      · exact mem_takeWhile h
    · cases h
theorem takeWhile_all {α : Type} (p : α → Bool) : ∀ l : List α, (l.takeWhile p).length = l.length ↔ l.all p = true
  | [] => by simp
  | y :: r => by
    rw [List.takeWhile_cons, List.all_cons]
    by_cases h : p y = true
    · rw [if_pos h, h, Bool.true_and, ← takeWhile_all p r]; simp
    · have h' : p y = false := by simpa using h
      rw [if_neg h, h']; simp
theorem putN_zero (l : List Item) : putN l 0 = 0 := by unfold putN; omega
theorem trimF_zero (l : List Item) : trimF l 0 = (l.takeWhile looseI).length := by unfold trimF; rw [putN_zero]; simp [trimN]
theorem trimF_nat {l : List Item} {n : Nat} (h : n ≤ l.length) : trimF l n = trimN l n := by unfold trimF; rw [putN_of h]
theorem inC_zero {c : C3} (h : 0 ≤ c.a ∧ 0 ≤ c.b ∧ 0 ≤ c.c) : inC zeroC c = true := by simp [inC, zeroC, h]
theorem loose_pre {l : List Item} {x : Item} (h : x ∈ l.take (l.takeWhile looseI).length) : x.k = 2 ∨ x.k = 3 := by
  rw [takeWhile_take] at h
  simpa [looseI] using mem_takeWhile h
theorem start_right {J : Job} (hc : 1 ≤ J.g.cols) : rightS J (startS J) = true := by
  have hle := trimF_le J.items 0
  have h1 : trimF J.items (trimF J.items 0 : Int) = trimF J.items 0 := by
    rw [trimF_nat hle]; exact trimN_idem _ _
  have hz := trimF_zero J.items
  have hb : begunF J (trimF J.items 0 : Int) = 0 := by
    unfold begunF begunP
    rw [putN_of hle, cnt_zero]; rfl
    intro x hx
    rw [hz] at hx
    have := loose_pre hx; omega
  have ha := aheadP_bd J.floats (J.items.take (putN J.items (trimF J.items 0)))
  have hin : inC zeroC (aheadF J (trimF J.items 0 : Int)) = true := inC_zero ⟨ha.1, ha.2.1, ha.2.2.1⟩
  have hin2 : inC zeroC zeroC = true := rfl
  unfold rightS startS
  rw [if_neg (by simp only [h1]; omega)]
  simp [carriesF, hb, hin, hin2]
theorem start_done {j : Job} (r : Right j) : doneS (snapG j) (startS (snapG j)) = j.items.all looseI := by
  obtain ⟨f, hf, hk⟩ := snap_items j
  have hc := geom_grid r.g
  have hr : rightS (snapG j) (startS (snapG j)) = true := start_right (by rw [snap_cols]; omega)
  have hall : (snapG j).items.all looseI = j.items.all looseI := by
    rw [hf, List.all_map]; congr 1; funext x; simp [looseI, hk]
  unfold doneS
  rw [hr, ← hall]
  cases ha : (snapG j).items.all looseI with
  | true =>
    have hat := (takeWhile_all looseI _).2 ha
    have hl : ∀ x ∈ (snapG j).items, x.k = 2 ∨ x.k = 3 := fun x hx => by have := List.all_eq_true.1 ha x hx; simpa [looseI] using this
    have h5 : cnt 5 j.items = 0 := by
      rw [← cnt_map 5 f (fun x => (hk x).1), ← hf]
      exact cnt_zero fun x hx => by have := hl x hx; omega
    have hn := refF_all 5 j.notes.length j.items 0 0 (Nat.zero_le _) r.r5
    have h6 : allS (snapG j) = zeroC := aheadP_zero fun x hx => by have := hl x hx; omega
    have hnl := snap_nlen j
    have e1 : ((startS (snapG j)).at_ : Int) = (snapG j).items.length := by simp only [startS, trimF_zero]; omega
    have e2 : ((startS (snapG j)).note : Int) = (snapG j).notes.length := by simp only [startS]; omega
    have e3 : (startS (snapG j)).h = allS (snapG j) := by rw [h6]; rfl
    have e4 : (startS (snapG j)).line = 0 := rfl
    simp [e1, e2, e3, e4]
  | false =>
    have hne : ¬ ((snapG j).items.takeWhile looseI).length = (snapG j).items.length := fun e => by
      have := (takeWhile_all looseI _).1 e; rw [ha] at this; cases this
    have e1 : ¬ ((startS (snapG j)).at_ : Int) = (snapG j).items.length := by simp only [startS, trimF_zero]; omega
    simp [e1]
end Go.EnvOf

/- Calls that may change memory; loops whose state is related to what has come. -/
namespace Go.EnvOf
open Go Go.Eng
set_option maxRecDepth 100000
theorem boxAt_lt {H : Heap} {q : Nat} {cs : List V} (h : Eng.boxAt H q = some cs) : q < H.length := by
  unfold Eng.boxAt at h
  rcases Nat.lt_or_ge q H.length with g | g
  · exact g
  · rw [List.getElem?_eq_none g] at h; cases h
theorem rd_of {α : Type} [Inhabited α] {l : List α} {i : Nat} {x : α} (h : l[i]? = some x) : rd l i = x := by
  unfold rd
  simp [List.getD, h]
end Go.EnvOf
