/- The program's functions and the document's, evaluated. -/
import Derived.KernelRfl
import Derived.Test.YtfjgcfloallohaaGreatDoorText5
import Derived.Test.YtfjgcfloallohaaGreatDoorText3
import Derived.Test.YtfjgcfloallohaaGreatDoorText4
import Derived.Test.YtfjgcfloallohaaGreatDoorText2
/- The law GridSnaps, evaluated. -/
namespace Go.EnvOf
open Go Go.Eng
set_option maxRecDepth 100000

structure jobI (j : Job) : Prop where
  g : okGeom j.g
  items : ∀ x ∈ j.items, okItem x
  notes : ∀ n ∈ j.notes, ∀ x ∈ n.lines, I64 x
  floats : ∀ x ∈ j.floats, okFloat x
theorem okJob_of {j : Job} (h : jobI j) (s : small j) : okJob j :=
  ⟨h.g, h.items, fun n hn => ⟨h.notes n hn, by have := s.each n hn; omega, by have := s.each n hn; omega⟩, h.floats, by have := s.items; omega, by have := s.notes; omega, by have := s.floats; omega⟩
theorem small_snap {j : Job} (s : small j) : small (snapG j) := by
  unfold snapG
  split
  · exact s
  · refine ⟨by simpa using s.items, by simpa using s.notes, by simpa using s.floats, fun n hn => ?_⟩
    simp only [List.mem_map] at hn
    obtain ⟨m, hm, rfl⟩ := hn
    have := s.each m hm
    simpa [noteG] using this
/-- A job's cells, unnamed. -/
theorem job_cells (j : Job) : ∃ J, vJob j = .agg J ∧ J.length = 22 ∧ subs J 0 22 = some J ∧ ¬ J = [] ∧ J.all V.oneB = true ∧ J.map normC = J := ⟨_, rfl, rfl, rfl, by simp, rfl, rfl⟩

end Go.EnvOf

/- Jobs that may be: the clauses of the program. -/
namespace Go.EnvOf
open Go Go.Eng

/-! ### Floats -/
def floatOK (f : Float) : Bool := decide (0 ≤ f.c) && decide (f.c ≤ 2) && decide (1 ≤ f.h) && decide (f.h ≤ 1073741823) && decide (0 ≤ f.w) && decide (f.w ≤ 3)
theorem floatCheck_ev (f : Float) (H : Heap) : clD EE (.p (.fn 83)) [vFloat f] H = some (vI (if floatOK f = true then 0 else 10), none) := by
  rw [clD_body _ _ _ _ _ _ (noP _) fn83]
  unfold floatOK
  by_cases a1 : 0 ≤ f.c
  · have b1 : ¬ f.c < 0 := by omega
    by_cases a2 : f.c ≤ 2
    · have b2 : ¬ 3 ≤ f.c := by omega
      by_cases a3 : 1 ≤ f.h
      · have b3 : ¬ f.h < 1 := by omega
        by_cases a4 : f.h ≤ 1073741823
        · have b4 : ¬ 1073741823 < f.h := by omega
          by_cases a5 : 0 ≤ f.w
          · have b5 : ¬ f.w < 0 := by omega
            by_cases a6 : f.w ≤ 3
            · have b6 : ¬ 3 < f.w := by omega
              simp [St.enter, enumFrom, subs, a1, a2, a3, a4, a5, a6, b1, b2, b3, b4, b5, b6]
            · have b6 : 3 < f.w := by omega
              simp [St.enter, enumFrom, subs, a1, a2, a3, a4, a5, a6, b1, b2, b3, b4, b5, b6]
          · have b5 : f.w < 0 := by omega
            simp [St.enter, enumFrom, subs, a1, a2, a3, a4, a5, b1, b2, b3, b4, b5]
        · have b4 : 1073741823 < f.h := by omega
          simp [St.enter, enumFrom, subs, a1, a2, a3, a4, b1, b2, b3, b4]
      · have b3 : f.h < 1 := by omega
        simp [St.enter, enumFrom, subs, a1, a2, a3, b1, b2, b3]
    · have b2 : 3 ≤ f.c := by omega
      simp [St.enter, enumFrom, subs, a1, a2, b1, b2]
  · have b1 : f.c < 0 := by omega
    simp [St.enter, enumFrom, subs, a1, b1]
theorem rfloatRight_ev (f : Float) (H : Heap) : clD EE (.p (.fn 27)) [vFloat f] H = some (vB (floatOK f), none) := by
  rw [clD_body _ _ _ _ _ _ (noP _) fn27]
  unfold floatOK
  by_cases a1 : 0 ≤ f.c
  · by_cases a2 : f.c ≤ 2
    · by_cases a3 : 1 ≤ f.h
      · by_cases a4 : f.h ≤ 1073741823
        · by_cases a5 : 0 ≤ f.w
          · simp [St.enter, enumFrom, subs, a1, a2, a3, a4, a5]
          · simp [St.enter, enumFrom, subs, a1, a2, a3, a4, a5]
        · simp [St.enter, enumFrom, subs, a1, a2, a3, a4]
      · simp [St.enter, enumFrom, subs, a1, a2, a3]
    · simp [St.enter, enumFrom, subs, a1, a2]
  · simp [St.enter, enumFrom, subs, a1]

/-! ### The first of a list that may not be -/
theorem idxItem_fn : EE.fns 100 = some (idxI 7 true) := fn100
theorem idxNote_fn : EE.fns 106 = some (idxI 2 true) := fn106
theorem idxFloat_fn : EE.fns 109 = some (idxI 3 true) := fn109
/-- Fields: is a check's answer an error? -/
theorem badItem1_ev (x : Item) (p : Nat) (H : Heap) (hb : Eng.boxAt H p = some [.p (.fn 77)]) : clD EE (.fn (.func 101) [] [.ptr p 0]) [vItem x] H = some (vB (!rightF x), none) := by
  rw [clD_clo, clD_body _ _ _ _ _ _ (noP _) fn101]
  have h := itemCheck_ev x H
  cases e : rightF x <;> rw [e] at h <;> simp at h <;> simp [St.enter, enumFrom, subs, hb, h]
theorem badNote1_ev (x : Note) (hx : x.lines.length ≤ 1000000 ∧ x.pens.length ≤ 1000000) (p : Nat) (H : Heap) (hb : Eng.boxAt H p = some [.p (.fn 80)]) : clD EE (.fn (.func 107) [] [.ptr p 0]) [vNote x] H = some (vB (wrongF x.lines x.pens), none) := by
  rw [clD_clo, clD_body _ _ _ _ _ _ (noP _) fn107]
  have h := check_ev x.lines x.pens H (by omega) (by omega)
  simp only [note, sli] at h
  cases e : wrongF x.lines x.pens <;> rw [e] at h <;> simp at h <;> simp [St.enter, enumFrom, subs, hb, h]
theorem badFloat1_ev (x : Float) (p : Nat) (H : Heap) (hb : Eng.boxAt H p = some [.p (.fn 83)]) : clD EE (.fn (.func 110) [] [.ptr p 0]) [vFloat x] H = some (vB (!floatOK x), none) := by
  rw [clD_clo, clD_body _ _ _ _ _ _ (noP _) fn110]
  have h := floatCheck_ev x H
  cases e : floatOK x <;> rw [e] at h <;> simp at h <;> simp [St.enter, enumFrom, subs, hb, h]
theorem firstItem_ev (l : List Item) (hl : l.length ≤ 1000000) (p : Nat) (H : Heap) (hb : Eng.boxAt H p = some [.p (.fn 77)]) : clD EE (.p (.fn 99)) [vItems l, .ptr p 0] H = some (vI (idxF (fun x => !rightF x) 0 l), none) := by
  rw [clD_body _ _ _ _ _ _ (noP _) fn99]
  have h := idx_ev _ 7 true encItem (fun x => vItem x) (noP _) idxItem_fn (fun _ => rfl) (fun _ => rfl) (fun _ => rfl) (fun _ => rfl) l (by omega) (.fn (.func 101) [] [.ptr p 0]) (fun x => !rightF x) H (fun x _ => badItem1_ev x p H hb)
  simp [St.enter, enumFrom, h]
theorem firstNote_ev (l : List Note) (hl : l.length ≤ 1000000) (hx : ∀ x ∈ l, x.lines.length ≤ 1000000 ∧ x.pens.length ≤ 1000000) (p : Nat) (H : Heap) (hb : Eng.boxAt H p = some [.p (.fn 80)]) : clD EE (.p (.fn 105)) [vNotes l, .ptr p 0] H = some (vI (idxF (fun x => wrongF x.lines x.pens) 0 l), none) := by
  rw [clD_body _ _ _ _ _ _ (noP _) fn105]
  have h := idx_ev _ 2 true encNote (fun x => vNote x) (noP _) idxNote_fn (fun _ => rfl) (fun _ => rfl) (fun _ => rfl) (fun _ => rfl) l (by omega) (.fn (.func 107) [] [.ptr p 0]) (fun x => wrongF x.lines x.pens) H (fun x h => badNote1_ev x (hx x h) p H hb)
  simp [St.enter, enumFrom, h]
theorem firstFloat_ev (l : List Float) (hl : l.length ≤ 1000000) (p : Nat) (H : Heap) (hb : Eng.boxAt H p = some [.p (.fn 83)]) : clD EE (.p (.fn 108)) [vFloats l, .ptr p 0] H = some (vI (idxF (fun x => !floatOK x) 0 l), none) := by
  rw [clD_body _ _ _ _ _ _ (noP _) fn108]
  have h := idx_ev _ 3 true encFloat (fun x => vFloat x) (noP _) idxFloat_fn (fun _ => rfl) (fun _ => rfl) (fun _ => rfl) (fun _ => rfl) l (by omega) (.fn (.func 110) [] [.ptr p 0]) (fun x => !floatOK x) H (fun x _ => badFloat1_ev x p H hb)
  simp [St.enter, enumFrom, h]
end Go.EnvOf

/- Anchors of a kind, of so many things. -/
namespace Go.EnvOf
open Go Go.Eng

/-- The place of the first wrong anchor; the list's end, if some lack; -1: none. -/
def refF (k : Int) (most : Nat) : Nat → Nat → List Item → Int
  | i, n, [] => if n < most then i else -1
  | i, n, x :: r => if x.k = k then (if x.n = n ∧ n < most then refF k most (i + 1) (n + 1) r else i) else refF k most (i + 1) n r

/-! ### By the document -/
def raE (l : List Item) (k : Int) (most : Nat) (H : Heap) (n i : Nat) : St := ⟨[(0, vItems l), (1, vI k), (2, vI most), (7, vI n), (8, vI i)], [], H, H.length, []⟩
def raS (k : Int) (most : Nat) (H : Heap) (n i : Nat) (x : Item) : Nat ⊕ (Ex × St) := if x.k = k then (if x.n = n ∧ n < most then .inl (n + 1) else .inr (.ret, ⟨[(6, vI i)], [], H, H.length, []⟩)) else .inl n
def raX (l : List Item) (k : Int) (most : Nat) (H : Heap) (n : Nat) : Ex × St := (.exit 0, ⟨[(0, vItems l), (1, vI k), (2, vI most), (7, vI n), (8, vI l.length), (12, vB false)], [], H, H.length, []⟩)
theorem ra_lp (l : List Item) (k : Int) (most : Nat) (H : Heap) (hl : l.length ≤ 1000000) : evD EE lp28_0 (raE l k most H 0 0) = some (rng (raS k most H) (raX l k most H) 0 0 l) := by
  unfold lp28_0
  refine evD_rng l (raE l k most H) (fun n i => n ≤ i) (raS k most H) (raX l k most H) (fun _ _ => rfl) ?_ ?_ 0 0 (Nat.le_refl _) (Nat.zero_le _)
  · intro n i x hn hx
    have hlt := (List.getElem?_eq_some_iff.1 hx).1
    have hix := fun H k => ixs_nat H encItem (k := k) (s := 7) hx rfl
    have w : IntKind.i64.wrap ((i : Int) + 1) = ((i + 1 : Nat) : Int) := w64 (by omega) (by omega)
    have w2 : IntKind.i64.wrap ((n : Int) + 1) = ((n + 1 : Nat) : Int) := w64 (by omega) (by omega)
    simp only [encItem] at hix
    by_cases hk : x.k = k
    · by_cases hn : x.n = n
      · by_cases hm : n < most
        · have hm2 : ¬ (most : Int) ≤ n := by omega
          simp [raS, raE, hlt, hix, subs, hk, hn, hm, hm2, w, w2]; omega
        · have hm2 : (most : Int) ≤ n := by omega
          simp [raS, raE, hlt, hix, subs, hk, hn, hm, hm2]
      · simp [raS, raE, hlt, hix, subs, hk, hn]
    · simp [raS, raE, hlt, hix, subs, hk, w]; omega
  · intro n hn
    simp [raE, raX]
theorem ra_rng (l : List Item) (k : Int) (most : Nat) (H : Heap) : ∀ (r : List Item) (n i : Nat), (∃ n', rng (raS k most H) (raX l k most H) n i r = raX l k most H n' ∧ refF k most i n r = if n' < most then ((i + r.length : Nat) : Int) else -1) ∨
    ∃ j : Nat, rng (raS k most H) (raX l k most H) n i r = (.ret, ⟨[(6, vI j)], [], H, H.length, []⟩) ∧ refF k most i n r = j
  | [], n, i => .inl ⟨n, rfl, rfl⟩
  | x :: r, n, i => by
    have e : ∀ a : Nat, i + 1 + r.length = i + (x :: r).length := fun _ => by simp; omega
    by_cases hk : x.k = k
    · by_cases hn : x.n = n ∧ n < most
      · have := ra_rng l k most H r (n + 1) (i + 1)
        rw [e 0] at this
        simpa only [rng, raS, refF, hk, hn, if_true, and_self] using this
      · exact .inr ⟨i, by simp only [rng, raS, if_pos hk, if_neg hn], by simp only [refF, if_pos hk, if_neg hn]⟩
    · have := ra_rng l k most H r n (i + 1)
      rw [e 0] at this
      simpa only [rng, raS, refF, hk, if_false] using this
theorem ranchors_ev (l : List Item) (k : Int) (most : Nat) (H : Heap) (hl : l.length ≤ 1000000) : clD EE (.p (.fn 28)) [vItems l, vI k, vI most] H = some (vI (refF k most 0 0 l), none) := by
  rw [clD_body _ _ _ _ _ _ (noP _) fn28]
  have key := ra_lp l k most H hl
  rcases ra_rng l k most H l 0 0 with ⟨n', h1, h2⟩ | ⟨j, h1, h2⟩
  · rw [h1] at key
    simp only [Nat.zero_add] at h2
    by_cases c : n' < most
    · simp [raE, raX] at key
      simp [St.enter, enumFrom, key, h2, c]
    · simp [raE, raX] at key
      simp [St.enter, enumFrom, key, h2, c]
  · rw [h1] at key
    simp [raE] at key
    simp [St.enter, enumFrom, key, h2]

/-! ### By the program -/
theorem anchF_ge (k : Int) : ∀ (l : List Item) (i n : Nat), anchF k i n l = -1 ∨ (i : Int) ≤ anchF k i n l
  | [], _, _ => .inl rfl
  | x :: r, i, n => by
    simp only [anchF]
    split
    · split
      · rcases anchF_ge k r (i + 1) (n + 1) with h | h
        · exact .inl h
        · exact .inr (by omega)
      · exact .inr (Int.le_refl _)
    · rcases anchF_ge k r (i + 1) n with h | h
      · exact .inl h
      · exact .inr (by omega)
def rfE (l : List Item) (k : Int) (most : Nat) (at_ : Int) (H : Heap) (n i : Nat) : St := ⟨[(0, vItems l), (1, vI k), (2, vI most), (7, vI at_), (8, vI n), (14, vItems l), (15, vI l.length), (16, vI i)], [], H, H.length, []⟩
def rfS (k : Int) (most : Nat) (at_ : Int) (H : Heap) (n i : Nat) (x : Item) : Nat ⊕ (Ex × St) := if (i : Int) = at_ then .inr (.ret, ⟨[(6, vI i)], [], H, H.length, []⟩) else if x.k = k then (if n = most then .inr (.ret, ⟨[(6, vI i)], [], H, H.length, []⟩) else .inl (n + 1)) else .inl n
def rfX (l : List Item) (k : Int) (most : Nat) (at_ : Int) (H : Heap) (n : Nat) : Ex × St := (.exit 0, ⟨[(0, vItems l), (1, vI k), (2, vI most), (7, vI at_), (8, vI n), (14, vItems l), (15, vI l.length), (16, vI l.length), (17, vB false)], [], H, H.length, []⟩)
theorem rf_lp (l : List Item) (k : Int) (most : Nat) (at_ : Int) (H : Heap) (hl : l.length ≤ 1000000) : evD EE lp111_0 (rfE l k most at_ H 0 0) = some (rng (rfS k most at_ H) (rfX l k most at_ H) 0 0 l) := by
  unfold lp111_0
  refine evD_rng l (rfE l k most at_ H) (fun n i => n ≤ i) (rfS k most at_ H) (rfX l k most at_ H) (fun _ _ => rfl) ?_ ?_ 0 0 (Nat.le_refl _) (Nat.zero_le _)
  · intro n i x hn hx
    have hlt := (List.getElem?_eq_some_iff.1 hx).1
    have hix := fun H k => ixs_nat H encItem (k := k) (s := 7) hx rfl
    have w : IntKind.i64.wrap ((i : Int) + 1) = ((i + 1 : Nat) : Int) := w64 (by omega) (by omega)
    have w2 : IntKind.i64.wrap ((n : Int) + 1) = ((n + 1 : Nat) : Int) := w64 (by omega) (by omega)
    simp only [encItem] at hix
    by_cases ha : (i : Int) = at_
    · subst ha
      simp [rfS, rfE, hlt, hix, subs, setSubs]
    · by_cases hk : x.k = k
      · by_cases hm : n = most
        · simp [rfS, rfE, hlt, hix, subs, setSubs, ha, hk, hm]
        · have hm2 : ¬ (n : Int) = most := by omega
          simp [rfS, rfE, hlt, hix, subs, setSubs, ha, hk, hm, hm2, w, w2]; omega
      · simp [rfS, rfE, hlt, hix, subs, setSubs, ha, hk, w]; omega
  · intro n hn
    simp [rfE, rfX]
theorem rf_rng (l : List Item) (k : Int) (most : Nat) (at_ : Int) (H : Heap) : ∀ (r : List Item) (n i : Nat), n ≤ most → at_ = anchF k i n r → (∃ n', rng (rfS k most at_ H) (rfX l k most at_ H) n i r = rfX l k most at_ H n' ∧ refF k most i n r = if n' < most then ((i + r.length : Nat) : Int) else -1) ∨
    ∃ j : Nat, rng (rfS k most at_ H) (rfX l k most at_ H) n i r = (.ret, ⟨[(6, vI j)], [], H, H.length, []⟩) ∧ refF k most i n r = j
  | [], n, i, _, _ => .inl ⟨n, rfl, rfl⟩
  | x :: r, n, i, hm, ha => by
    have e : i + 1 + r.length = i + (x :: r).length := by simp; omega
    simp only [anchF] at ha
    by_cases hk : x.k = k
    · rw [if_pos hk] at ha
      by_cases hn : x.n = n
      · rw [if_pos hn] at ha
        have hne : ¬ (i : Int) = at_ := by
          rcases anchF_ge k r (i + 1) (n + 1) with h | h <;> omega
        by_cases hmm : n = most
        · refine .inr ⟨i, by simp only [rng, rfS, if_neg hne, if_pos hk, if_pos hmm], ?_⟩
          have : ¬ (x.n = n ∧ n < most) := by omega
          simp only [refF, if_pos hk, if_neg this]
        · have hlt : x.n = n ∧ n < most := ⟨hn, by omega⟩
          have := rf_rng l k most at_ H r (n + 1) (i + 1) (by omega) ha
          rw [e] at this
          simp only [rng, rfS, if_neg hne, if_pos hk, if_neg hmm, refF, if_pos hlt]
          exact this
      · rw [if_neg hn] at ha
        have : ¬ (x.n = n ∧ n < most) := fun h => hn h.1
        exact .inr ⟨i, by simp only [rng, rfS, if_pos ha.symm], by simp only [refF, if_pos hk, if_neg this]⟩
    · rw [if_neg hk] at ha
      have hne : ¬ (i : Int) = at_ := by
        rcases anchF_ge k r (i + 1) n with h | h <;> omega
      have := rf_rng l k most at_ H r n (i + 1) hm ha
      rw [e] at this
      simp only [rng, rfS, if_neg hne, if_neg hk, refF]
      exact this
theorem refs_ev (l : List Item) (k : Int) (most : Nat) (H : Heap) (hl : l.length ≤ 1000000) : clD EE (.p (.fn 111)) [vItems l, vI k, vI most] H = some (vI (refF k most 0 0 l), none) := by
  rw [clD_body _ _ _ _ _ _ (noP _) fn111]
  have h0 := anch_ev l k H hl
  have key := rf_lp l k most (anchF k 0 0 l) H hl
  rcases rf_rng l k most (anchF k 0 0 l) H l 0 0 (Nat.zero_le _) rfl with ⟨n', h1, h2⟩ | ⟨j, h1, h2⟩
  · rw [h1] at key
    simp only [Nat.zero_add] at h2
    by_cases c : n' < most
    · simp [rfE, rfX] at key
      simp [St.enter, enumFrom, h0, key, h2, c]
    · simp [rfE, rfX] at key
      simp [St.enter, enumFrom, h0, key, h2, c]
  · rw [h1] at key
    simp [rfE] at key
    simp [St.enter, enumFrom, h0, key, h2]
end Go.EnvOf

/- Jobs that may be: all clauses, in order. -/
namespace Go.EnvOf
open Go Go.Eng

def yes (b : Bool) : Int := if b = true then 0 else -1
def looseF (j : Job) : Int := let a := refF 5 j.notes.length 0 0 j.items; let b := refF 6 j.floats.length 0 0 j.items; if a < 0 ∨ b < 0 then max a b else min a b
def tallF (j : Job) : Int := idxF (fun f => decide ((snapG j).g.first < f.h)) 0 (snapG j).floats

section
variable (j : Job)
theorem c1_ev (H : Heap) : clD EE (.p (.fn 69)) [vJob j] H = some (vB (decide (4096 < (j.items.length : Int))), none) := by
  rw [clD_body _ _ _ _ _ _ (noP _) fn69]
  simp [St.enter, enumFrom, subs]
theorem c2_ev (H : Heap) : clD EE (.p (.fn 70)) [vJob j] H = some (vB (decide (256 < (j.floats.length : Int))), none) := by
  rw [clD_body _ _ _ _ _ _ (noP _) fn70]
  simp [St.enter, enumFrom, subs]
theorem c3_ev (H : Heap) : clD EE (.p (.fn 71)) [vJob j] H = some (vB (decide (512 < (j.notes.length : Int))), none) := by
  rw [clD_body _ _ _ _ _ _ (noP _) fn71]
  simp [St.enter, enumFrom, subs]
theorem c4_ev (H : Heap) : clD EE (.p (.fn 72)) [vJob j] H = some (vB (decide (geomF j.g = 6)), none) := by
  rw [clD_body _ _ _ _ _ _ (noP _) fn72]
  have h := geomCheck_ev j.g H
  simp [St.enter, enumFrom, subs, h]
theorem c5_ev (H : Heap) : clD EE (.p (.fn 74)) [vJob j] H = some (vB (decide (geomF j.g = 7)), none) := by
  rw [clD_body _ _ _ _ _ _ (noP _) fn74]
  have h := geomCheck_ev j.g H
  simp [St.enter, enumFrom, subs, h]
theorem when1_ev (f : FuncId) (b : Bool) (p : Nat) (H : Heap) (hb : Eng.boxAt H p = some [.p (.fn f)]) (hf : clD EE (.p (.fn f)) [vJob j] H = some (vB b, none)) : clD EE (.fn (.func 96) [] [.ptr p 0]) [vJob j] H = some (vI (yes b), none) := by
  rw [clD_clo, clD_body _ _ _ _ _ _ (noP _) fn96]
  obtain ⟨J, hJ, q1, q2, q3, q4⟩ := job_cells j
  rw [hJ] at hf ⊢
  have e : subs [V.p (.fn f)] 0 1 = some [.p (.fn f)] := rfl
  cases b <;> simp [-List.all_eq_true, St.enter, enumFrom, q1, q2, q3, q4, hb, e, hf, yes]
theorem firstI_ev (g : FuncId) (H : Heap) : clD EE (.p (.fn 76)) [.p (.fn g)] H = some (.fn (.func 99) [] [.ptr H.length 0], some (H ++ [.box [.p (.fn g)]], [])) := by
  rw [clD_body _ _ _ _ _ _ (noP _) fn76]
  simp [St.enter, enumFrom]
theorem firstN_ev (g : FuncId) (H : Heap) : clD EE (.p (.fn 79)) [.p (.fn g)] H = some (.fn (.func 105) [] [.ptr H.length 0], some (H ++ [.box [.p (.fn g)]], [])) := by
  rw [clD_body _ _ _ _ _ _ (noP _) fn79]
  simp [St.enter, enumFrom]
theorem firstF_ev (g : FuncId) (H : Heap) : clD EE (.p (.fn 82)) [.p (.fn g)] H = some (.fn (.func 108) [] [.ptr H.length 0], some (H ++ [.box [.p (.fn g)]], [])) := by
  rw [clD_body _ _ _ _ _ _ (noP _) fn82]
  simp [St.enter, enumFrom]
theorem c6_ev (ok : okJob j) (H : Heap) : clD EE (.p (.fn 75)) [vJob j] H = some (vI (idxF (fun x => !rightF x) 0 j.items), none) := by
  rw [clD_body _ _ _ _ _ _ (noP _) fn75]
  have h := firstItem_ev j.items ok.n1 H.length (H ++ [.box [.p (.fn 77)]]) (by simp)
  simp [St.enter, enumFrom, subs, firstI_ev, h]
theorem c7_ev (ok : okJob j) (H : Heap) : clD EE (.p (.fn 78)) [vJob j] H = some (vI (idxF (fun x => wrongF x.lines x.pens) 0 j.notes), none) := by
  rw [clD_body _ _ _ _ _ _ (noP _) fn78]
  have h := firstNote_ev j.notes ok.n2 (fun x hx => (ok.notes x hx).2) H.length (H ++ [.box [.p (.fn 80)]]) (by simp)
  simp [St.enter, enumFrom, subs, firstN_ev, h]
theorem c8_ev (ok : okJob j) (H : Heap) : clD EE (.p (.fn 81)) [vJob j] H = some (vI (idxF (fun x => !floatOK x) 0 j.floats), none) := by
  rw [clD_body _ _ _ _ _ _ (noP _) fn81]
  have h := firstFloat_ev j.floats ok.n3 H.length (H ++ [.box [.p (.fn 83)]]) (by simp)
  simp [St.enter, enumFrom, subs, firstF_ev, h]
theorem c9_ev (ok : okJob j) (H : Heap) : clD EE (.p (.fn 84)) [vJob j] H = some (vI (looseF j), none) := by
  rw [clD_body _ _ _ _ _ _ (noP _) fn84]
  have h1 := refs_ev j.items 5 j.notes.length H ok.n1
  have h2 := refs_ev j.items 6 j.floats.length H ok.n1
  unfold looseF
  generalize refF 5 j.notes.length 0 0 j.items = a at *
  generalize refF 6 j.floats.length 0 0 j.items = b at *
  by_cases c1 : a < 0
  · simp [St.enter, enumFrom, subs, h1, h2, c1]
  · by_cases c2 : b < 0
    · simp [St.enter, enumFrom, subs, h1, h2, c1, c2]
    · simp [St.enter, enumFrom, subs, h1, h2, c1, c2]
theorem tall1_ev (f : Float) (first : Int) (p : Nat) (H : Heap) (cs : List V) (hb : Eng.boxAt H p = some cs) (hc : subs cs 4 1 = some [vI first]) : clD EE (.fn (.func 112) [] [.ptr p 0]) [vFloat f] H = some (vB (decide (first < f.h)), none) := by
  rw [clD_clo, clD_body _ _ _ _ _ _ (noP _) fn112]
  have e : subs [vI f.c, vI f.h, vI f.w] 1 1 = some [vI f.h] := rfl
  simp [St.enter, enumFrom, hb, hc, e]
theorem tall_cells (j : Job) : ∃ J, vJob j = .agg J ∧ J.length = 22 ∧ subs J 0 22 = some J ∧ ¬ J = [] ∧ J.all V.oneB = true ∧ subs J 4 1 = some [vI j.g.first] ∧ subs J 21 1 = some [vFloats j.floats] ∧ J.map normC = J := ⟨_, rfl, rfl, rfl, by simp, rfl, rfl, rfl, rfl⟩
theorem c10_ev (ok : okJob j) (n3 : (snapG j).floats.length ≤ 1000000) (H : Heap) : clD EE (.p (.fn 85)) [vJob j] H = some (vI (tallF j), none) := by
  rw [clD_body _ _ _ _ _ _ (noP _) fn85]
  have h1 := snap_ev j ok H
  obtain ⟨J, hJ, q1, q2, q3, q4⟩ := job_cells j
  obtain ⟨M, hM, m1, m2, m3, m4, m5, m6⟩ := tall_cells (snapG j)
  have h2 := idx_ev _ 3 true encFloat (fun x => vFloat x) (noP _) idxFloat_fn (fun _ => rfl) (fun _ => rfl) (fun _ => rfl) (fun _ => rfl) (snapG j).floats (by omega) (.fn (.func 112) [] [.ptr H.length 0]) (fun f => decide ((snapG j).g.first < f.h)) (H ++ [.box M])
    (fun x _ => tall1_ev x (snapG j).g.first H.length (H ++ [.box M]) M (by simp) m5)
  unfold tallF
  rw [hJ, hM] at h1
  rw [hJ]
  have e : setSubs (α := V) [.p (.int .i64 0), .p (.int .i64 0), .p (.int .i64 0), .p (.int .i64 0), .p (.int .i64 0), .p (.int .i64 0), .p (.int .i64 0), .p (.int .i64 0), .p (.int .i64 0), .p (.int .i64 0), .p (.int .i64 0), .p (.int .i64 0), .p (.int .i64 0), .p (.int .i64 0), .p (.int .i64 0), .p (.int .i64 0), .p (.int .i64 0), .p (.int .i64 0), .p (.bool false), .nils, .nils, .nils] 0 M = some M := by simp [setSubs, m1]
  simp [-List.all_eq_true, St.enter, enumFrom, q1, q2, q3, q4, m1, m2, m3, m4, m6, e, h1, h2]

/-! ### All of them -/
def whenV (n : Nat) : V := .fn (.func 96) [] [.ptr n 0]
def clausesC (n : Nat) : List (Int × V × Int) :=
  [(3, whenV n, yes (decide (4096 < (j.items.length : Int)))), (4, whenV (n + 1), yes (decide (256 < (j.floats.length : Int)))), (5, whenV (n + 2), yes (decide (512 < (j.notes.length : Int)))),
   (6, whenV (n + 3), yes (decide (geomF j.g = 6))), (7, whenV (n + 4), yes (decide (geomF j.g = 7))),
   (8, .p (.fn 75), idxF (fun x => !rightF x) 0 j.items), (9, .p (.fn 78), idxF (fun x => wrongF x.lines x.pens) 0 j.notes), (10, .p (.fn 81), idxF (fun x => !floatOK x) 0 j.floats),
   (11, .p (.fn 84), looseF j), (12, .p (.fn 85), tallF j)]
def clauseEl (c : Int × V × Int) : List V := [vI c.1, c.2.1]
def clauseH : Heap := [.box [.p (.fn 69)], .box [.p (.fn 70)], .box [.p (.fn 71)], .box [.p (.fn 72)], .box [.p (.fn 74)]]
theorem when_ev (g : FuncId) (H : Heap) : clD EE (.p (.fn 68)) [.p (.fn g)] H = some (whenV H.length, some (H ++ [.box [.p (.fn g)]], [])) := by
  rw [clD_body _ _ _ _ _ _ (noP _) fn68]
  simp [St.enter, enumFrom, whenV]
theorem clausesV_ev (H : Heap) : clD EE (.p (.fn 52)) [] H = some (.vsl ((clausesC j H.length).map clauseEl), some (H ++ clauseH, [])) := by
  rw [clD_body _ _ _ _ _ _ (noP _) fn52]
  simp [St.enter, enumFrom, setSubs, when_ev, whenV, clausesC, clauseEl, clauseH]
theorem clauses_all (ok : okJob j) (n3 : (snapG j).floats.length ≤ 1000000) (H : Heap) : ∀ c ∈ clausesC j H.length, clD EE c.2.1 [vJob j] (H ++ clauseH) = some (vI c.2.2, none) ∧ c.2.1.oneB = true ∧ c.2.1.cells = [c.2.1] ∧ c.2.1.notL = true := by
  intro c hc
  have wh : ∀ (i : Nat) (f : FuncId) (b : Bool), clauseH[i]? = some (.box [.p (.fn f)]) → clD EE (.p (.fn f)) [vJob j] (H ++ clauseH) = some (vB b, none) → clD EE (whenV (H.length + i)) [vJob j] (H ++ clauseH) = some (vI (yes b), none) := fun i f b hi hf => by
    refine when1_ev j f b (H.length + i) _ ?_ hf
    rw [boxAt_app]; unfold Eng.boxAt; rw [hi]
  simp only [clausesC, List.mem_cons, List.not_mem_nil, or_false] at hc
  rcases hc with rfl | rfl | rfl | rfl | rfl | rfl | rfl | rfl | rfl | rfl
  · exact ⟨wh 0 _ _ rfl (c1_ev j _), rfl, rfl, rfl⟩
  · exact ⟨wh 1 _ _ rfl (c2_ev j _), rfl, rfl, rfl⟩
  · exact ⟨wh 2 _ _ rfl (c3_ev j _), rfl, rfl, rfl⟩
  · exact ⟨wh 3 _ _ rfl (c4_ev j _), rfl, rfl, rfl⟩
  · exact ⟨wh 4 _ _ rfl (c5_ev j _), rfl, rfl, rfl⟩
  · exact ⟨c6_ev j ok _, rfl, rfl, rfl⟩
  · exact ⟨c7_ev j ok _, rfl, rfl, rfl⟩
  · exact ⟨c8_ev j ok _, rfl, rfl, rfl⟩
  · exact ⟨c9_ev j ok _, rfl, rfl, rfl⟩
  · exact ⟨c10_ev j ok n3 _, rfl, rfl, rfl⟩
/-- The first clause that does not hold. -/
def firstOf : List (Int × V × Int) → Int × Int
  | [] => (0, 0)
  | c :: r => if 0 ≤ c.2.2 then (c.1, c.2.2) else firstOf r
def checkF : Int × Int := firstOf (clausesC j 0)
theorem firstOf_n (n : Nat) : firstOf (clausesC j n) = checkF j := by simp [firstOf, clausesC, checkF]
def ckE (J : List V) (L : List (Int × V × Int)) (H : Heap) (B : Nat) (i : Nat) : St := ⟨[(1, .lptr 1 0), (7, .vsl (L.map clauseEl)), (8, vI L.length), (9, vI i)], [(1, J)], H, B, []⟩
def ckX (J : List V) (L : List (Int × V × Int)) (H : Heap) (B : Nat) : Ex × St := (.exit 0, ⟨[(1, .lptr 1 0), (7, .vsl (L.map clauseEl)), (8, vI L.length), (9, vI L.length), (10, vB false)], [(1, J)], H, B, []⟩)
def ckS (H : Heap) (B : Nat) (_ : Unit) (_ : Nat) (c : Int × V × Int) : Unit ⊕ (Ex × St) := if 0 ≤ c.2.2 then .inr (.ret, ⟨[(2, vI c.1), (3, vI c.2.2)], [], H, B, []⟩) else .inl ()
theorem ck_rng (J : List V) (H : Heap) (B : Nat) (fin : Ex × St) : ∀ (l : List (Int × V × Int)) (i : Nat), (rng (ckS H B) (fun _ => fin) () i l = fin ∧ firstOf l = (0, 0)) ∨ (rng (ckS H B) (fun _ => fin) () i l = (.ret, ⟨[(2, vI (firstOf l).1), (3, vI (firstOf l).2)], [], H, B, []⟩))
  | [], _ => .inl ⟨rfl, rfl⟩
  | c :: r, i => by
    simp only [rng, ckS, firstOf]
    by_cases h : 0 ≤ c.2.2
    · rw [if_pos h, if_pos h]; exact .inr rfl
    · rw [if_neg h, if_neg h]
      exact ck_rng J H B fin r (i + 1)
theorem ck_lp (J : List V) (q1 : J.length = 22) (q2 : subs J 0 22 = some J) (q3 : ¬ J = []) (q4 : J.all V.oneB = true ∧ J.map normC = J) (L : List (Int × V × Int)) (hn : L.length ≤ 1000) (H : Heap) (B : Nat) (hL : ∀ c ∈ L, clD EE c.2.1 [.agg J] H = some (vI c.2.2, none) ∧ c.2.1.oneB = true ∧ c.2.1.cells = [c.2.1] ∧ c.2.1.notL = true) :
    evD EE lp29_0 (ckE J L H B 0) = some (rng (ckS H B) (fun _ => ckX J L H B) () 0 L) := by
  unfold lp29_0
  refine evD_rng L (fun (_ : Unit) i => ckE J L H B i) (fun _ _ => True) (ckS H B) (fun _ => ckX J L H B) (fun _ _ => rfl) ?_ ?_ () 0 trivial (Nat.zero_le _)
  · rintro _ i c - hc
    have hlt := (List.getElem?_eq_some_iff.1 hc).1
    have w : IntKind.i64.wrap ((i : Int) + 1) = ((i + 1 : Nat) : Int) := w64 (by omega) (by omega)
    obtain ⟨h1, h2, h3, h4⟩ := hL c (List.mem_of_getElem? hc)
    have q5 : J.take 22 = J := List.take_of_length_le (by omega)
    have hix : ixsI H (.vsl (L.map clauseEl)) (vI i) 2 = some (.eptr [vI c.1, c.2.1] 0) := by
      have : (L.map clauseEl)[i]? = some [vI c.1, c.2.1] := by simp [hc, clauseEl]
      simp [ixsI, ixsV, this]
    by_cases a : 0 ≤ c.2.2
    · have e : ckS H B () i c = .inr (.ret, ⟨[(2, vI c.1), (3, vI c.2.2)], [], H, B, []⟩) := if_pos a
      simp only [e]
      simp [-List.all_eq_true, ckE, hlt, hix, subs, setSubs, q1, q3, q4, q5, h1, h2, h3, h4, a]
    · have e : ckS H B () i c = .inl () := if_neg a
      simp only [e]
      simp [-List.all_eq_true, ckE, hlt, hix, subs, setSubs, q1, q3, q4, q5, h1, h2, h3, h4, a, w]
  · rintro _ -
    simp [ckE, ckX]
theorem validCheck_ev (ok : okJob j) (n3 : (snapG j).floats.length ≤ 1000000) (H : Heap) : clD EE (.p (.fn 29)) [vJob j] H = some (.tup [vI (checkF j).1, vI (checkF j).2], none) := by
  rw [clD_body _ _ _ _ _ _ (noP _) fn29]
  have h1 := clausesV_ev j H
  have h2 := clauses_all j ok n3 H
  have hf := firstOf_n j H.length
  obtain ⟨J, hJ, q1, q2, q3, q4⟩ := job_cells j
  rw [hJ] at h2 ⊢
  have key := ck_lp J q1 q2 q3 q4 (clausesC j H.length) (by simp [clausesC]) (H ++ clauseH) H.length h2
  have hl : (clausesC j H.length).length = 10 := rfl
  have hle : lenV (.vsl ((clausesC j H.length).map clauseEl)) = some 10 := rfl
  rcases ck_rng J (H ++ clauseH) H.length (ckX J (clausesC j H.length) (H ++ clauseH) H.length) (clausesC j H.length) 0 with ⟨k1, k2⟩ | k1
  · rw [k1] at key
    rw [hf] at k2
    simp only [ckE, ckX, hl] at key
    generalize (clausesC j H.length).map clauseEl = CL at *
    simp at key
    simp [-List.all_eq_true, St.enter, enumFrom, q1, q2, q3, q4, h1, hle, key, k2]
  · rw [k1, hf] at key
    simp only [ckE, hl] at key
    generalize (clausesC j H.length).map clauseEl = CL at *
    simp at key
    simp [-List.all_eq_true, St.enter, enumFrom, q1, q2, q3, q4, h1, hle, key]
theorem validRight_ev (ok : okJob j) (n3 : (snapG j).floats.length ≤ 1000000) (H : Heap) : clD EE (.p (.fn 14)) [vJob j] H = some (vB (decide ((checkF j).1 = 0)), none) := by
  rw [clD_body _ _ _ _ _ _ (noP _) fn14]
  have h1 := validCheck_ev j ok n3 H
  obtain ⟨J, hJ, q1, q2, q3, q4⟩ := job_cells j
  rw [hJ] at h1 ⊢
  simp [-List.all_eq_true, St.enter, enumFrom, q1, q2, q3, q4, h1]
end
end Go.EnvOf

/- The warnings about a job. -/
namespace Go.EnvOf
open Go Go.Eng
set_option maxRecDepth 100000
def allW (J : Job) : List Warn := itemsW J.g J.items J.items.length ++ notesW (limJ J.g) J.notes J.notes.length ++ floatsW J.g J.floats J.floats.length
def ofW (j : Job) : List Warn := if (checkF j).1 = 0 then allW (snapG j) else []
theorem ltOf_ev (j : Job) (ok : okJob j) (n1 : (snapG j).items.length ≤ 1000000) (n2 : (snapG j).notes.length ≤ 1000000) (n3 : (snapG j).floats.length ≤ 1000000) (n4 : ∀ n ∈ (snapG j).notes, n.lines.length ≤ 1000000) (H : Heap) :
    ∃ r, clD EE (.p (.fn 8)) [vJob j] H = some (vWs (ofW j), r) := by
  have hr := fun H => validRight_ev j ok n3 H
  have hs := fun H => snap_ev j ok H
  simp only [vJob, cGeom, List.cons_append, List.nil_append] at hr hs
  unfold ofW
  rw [clD_body _ _ _ _ _ _ (noP _) fn8]
  by_cases c : (checkF j).1 = 0
  · simp only [c, decide_true] at hr
    rw [if_pos c]
    generalize snapG j = J at *
    have L0 : Look (H ++ [.box (cJb J ++ [.nils])]) H.length (cJb J) [] := ⟨⟨.nils, by simp, .inl ⟨rfl, rfl⟩⟩, by simp⟩
    obtain ⟨r1, h1, L1⟩ := ltItems_ev J _ _ _ L0 n1 (by simp)
    have e1 := itemsW_len J.g J.items J.items.length
    obtain ⟨r2, h2, L2⟩ := ltNotes_ev J _ _ _ L1 n2 n4 (by simp; omega)
    have e2 := idxW_len 2 (fun i => longB (limJ J.g) (rd J.notes i)) J.notes.length
    obtain ⟨r3, h3, L3⟩ := ltFloats_ev J _ _ _ L2 n3 (by unfold notesW; simp; omega)
    have eW : [] ++ itemsW J.g J.items J.items.length ++ notesW (limJ J.g) J.notes J.notes.length ++ floatsW J.g J.floats J.floats.length = allW J := by simp [allW]
    rw [eW] at L3
    obtain ⟨o, hb, ho⟩ := L3.out
    generalize allW J = W at *
    have w1 : IntKind.i64.wrap 1 = 1 := by decide
    have w2 : IntKind.i64.wrap 2 = 2 := by decide
    have w3 : IntKind.i64.wrap 3 = 3 := by decide
    have q3 : ((0 : Nat) : Int) + 1 + 1 = 2 := by decide
    clear L0 L1 L2 L3
    simp at h1 h2 h3
    rcases ho with ⟨rfl, rfl⟩ | ⟨id, hid, hpi, rfl, hrow, hne⟩
    · simp at hb
      simp [St.enter, enumFrom, subs, setSubs, hr, hs, lp8_0, evD_loop, ixsI, ixsV, h1, h2, h3, callR_opt, w1, w2, w3, hb]
    · simp at hb hrow
      simp [St.enter, enumFrom, subs, setSubs, hr, hs, lp8_0, evD_loop, ixsI, ixsV, h1, h2, h3, callR_opt, w1, w2, w3, hb, hrow, show H.length ≤ id by omega]
  · simp only [c, decide_false] at hr
    rw [if_neg c]
    simp [St.enter, enumFrom, subs, setSubs, hr]
end Go.EnvOf

/- The warnings, as the reference tells them: its parts. -/
namespace Go.EnvOf
open Go Go.Eng
set_option maxRecDepth 100000
theorem rloose_ev (x : Item) (H : Heap) : clD EE (.p (.fn 49)) [vItem x] H = some (vB (looseX x), none) := by
  rw [clD_body _ _ _ _ _ _ (noP _) fn49]
  unfold looseX
  by_cases h : x.k = 2 <;> simp [St.enter, enumFrom, subs, setSubs, h]
theorem must_ev (I : List Item) (n : Nat) (x : Item) (hx : I[n]? = some x) (H : Heap) : clD EE (.p (.fn 48)) [vItems I, vI n] H = some (vB (decide (0 < n) && forcesX x), none) := by
  rw [clD_body _ _ _ _ _ _ (noP _) fn48]
  have hlt := (List.getElem?_eq_some_iff.1 hx).1
  have hix := fun H k => ixs_nat H encItem (k := k) (s := 7) hx rfl
  unfold forcesX
  by_cases h0 : 0 < n
  · have h1 : (1 : Int) ≤ (n : Int) := by omega
    by_cases h3 : x.k = 3
    · simp [St.enter, enumFrom, subs, setSubs, hlt, hix, encItem, h0, h1, h3]
    · simp [St.enter, enumFrom, subs, setSubs, hlt, hix, encItem, h0, h1, h3]
  · have h1 : ¬ (1 : Int) ≤ (n : Int) := by omega
    simp [St.enter, enumFrom, subs, setSubs, h0, h1]
/-! ### Lost -/
def lsE (I : List Item) (i : Nat) (H : Heap) (t : Int) : St := ⟨[(0, vItems I), (1, vI i), (5, vI t)], [], H, H.length, []⟩
def lsR (H : Heap) (b : Bool) : Ex × St := (.ret, ⟨[(4, vB b)], [], H, H.length, []⟩)
def lsX (I : List Item) (i : Nat) (H : Heap) : Ex × St := (.exit 0, ⟨[(0, vItems I), (1, vI i), (5, vI (-1)), (8, vB false)], [], H, H.length, []⟩)
def lsF (I : List Item) (i : Nat) (H : Heap) : Nat → Ex × St
  | 0 => lsX I i H
  | n + 1 => if (decide (n < i) && (decide (0 < n) && forcesX (rd I n))) = true then lsR H true else if looseX (rd I n) = true then lsF I i H n else lsR H false
theorem ls_lp (I : List Item) (i : Nat) (H : Heap) (hi : i < I.length) (hl : I.length ≤ 1000000) : evD EE lp20_0 (lsE I i H i) = some (lsF I i H (i + 1)) := by
  have key : ∀ m : Nat, m ≤ i + 1 → evD EE lp20_0 (lsE I i H ((m : Int) - 1)) = some (lsF I i H m) := by
    unfold lp20_0
    refine evD_while (fun m : Nat => lsE I i H ((m : Int) - 1)) (fun m => m ≤ i + 1) (fun m => m) (lsF I i H) (fun _ => rfl) ?_
    intro m hm
    cases m with
    | zero =>
      refine .inr ⟨?_, by simp [lsF, lsX]⟩
      simp [lsF, lsX, lsE]
    | succ n =>
      have hx : I[n]? = some (rd I n) := by
        have := rd_get I (n : Int) (by omega) (by omega)
        simpa using this
      have hix := fun H k => ixs_nat H encItem (k := k) (s := 7) hx rfl
      have lo := fun H => rloose_ev (rd I n) H
      have mu := fun H => must_ev I n (rd I n) hx H
      have e : ((n + 1 : Nat) : Int) - 1 = n := by omega
      rw [e]
      have w : IntKind.i64.wrap ((n : Int) - 1) = (n : Int) - 1 := w64 (by omega) (by omega)
      simp only [lsF]
      generalize rd I (n : Int) = x at *
      by_cases hni : n < i
      · generalize hmm : (decide (0 < n) && forcesX x) = mm at *
        cases mm with
        | true =>
          refine .inr ⟨?_, by simp [hni, lsR]⟩
          simp [lsE, lsR, hni, mu]
        | false =>
          cases hlx : looseX x with
          | true =>
            rw [hlx] at lo
            refine .inl ⟨n, ?_, by omega, by omega, by simp [hni]⟩
            simp [lsE, hni, mu, hix, encItem, subs, lo, w]
          | false =>
            rw [hlx] at lo
            refine .inr ⟨?_, by simp [hni, lsR]⟩
            simp [lsE, lsR, hni, mu, hix, encItem, subs, lo]
      · cases hlx : looseX x with
        | true =>
          rw [hlx] at lo
          refine .inl ⟨n, ?_, by omega, by omega, by simp [hni]⟩
          simp [lsE, hni, hix, encItem, subs, lo, w]
        | false =>
          rw [hlx] at lo
          refine .inr ⟨?_, by simp [hni, lsR]⟩
          simp [lsE, lsR, hni, hix, encItem, subs, lo]
  have := key (i + 1) (Nat.le_refl _)
  have e : ((i + 1 : Nat) : Int) - 1 = i := by omega
  rw [e] at this
  exact this
theorem lsF_is (I : List Item) (i : Nat) (H : Heap) : ∀ m, m ≤ i → (bB I m = true → lsF I i H m = lsR H true ∨ lsF I i H m = lsX I i H) ∧ (bB I m = false → lsF I i H m = lsR H false)
  | 0, _ => ⟨fun _ => .inr rfl, fun h => by cases h⟩
  | n + 1, h => by
    have ih := lsF_is I i H n (by omega)
    simp only [bB, lsF]
    have hn : n < i := by omega
    cases hm : (decide (0 < n) && forcesX (rd I n)) with
    | true => simp [hn]
    | false =>
      cases hl : looseX (rd I n) with
      | true => simpa [hn] using ih
      | false => simp [hn]
theorem lost_ev (I : List Item) (i : Nat) (hi : i < I.length) (hl : I.length ≤ 1000000) (H : Heap) : clD EE (.p (.fn 20)) [vItems I, vI i] H = some (vB (lostB I i), none) := by
  rw [clD_body _ _ _ _ _ _ (noP _) fn20]
  have k := ls_lp I i H hi hl
  have hF := lsF_is I i H i (Nat.le_refl _)
  have e : lsF I i H (i + 1) = if looseX (rd I i) = true then lsF I i H i else lsR H false := by simp [lsF]
  rw [e] at k
  unfold lostB
  cases hlx : looseX (rd I i) with
  | false =>
    rw [hlx] at k
    simp [lsE, lsR] at k
    simp [St.enter, enumFrom, k]
  | true =>
    rw [hlx] at k
    simp only [if_true] at k
    cases hb : bB I i with
    | false =>
      rw [hF.2 hb] at k
      simp [lsE, lsR] at k
      simp [St.enter, enumFrom, k]
    | true =>
      rcases hF.1 hb with h | h
      · rw [h] at k
        simp [lsE, lsR] at k
        simp [St.enter, enumFrom, k]
      · rw [h] at k
        simp [lsE, lsX] at k
        simp [St.enter, enumFrom, k]
end Go.EnvOf

/- The warnings, as the reference tells them: idle and long. -/
namespace Go.EnvOf
open Go Go.Eng
set_option maxRecDepth 100000
theorem idle_ev (I : List Item) (i : Nat) (hi : i < I.length) (hl : I.length ≤ 1000000) (hv : (rd I i).k = 3 → rd I i = ⟨3, 0, 0, 0, 0, 0, (rd I i).n⟩) (H : Heap) : clD EE (.p (.fn 21)) [vItems I, vI i] H = some (vB (idleB I i), none) := by
  rw [clD_body _ _ _ _ _ _ (noP _) fn21]
  have hx : I[i]? = some (rd I i) := by
    have := rd_get I (i : Int) (by omega) (by omega)
    simpa using this
  have hix := fun H k => ixs_nat H encItem (k := k) (s := 7) hx rfl
  have w : IntKind.i64.wrap ((i : Int) + 1) = (i : Int) + 1 := w64 (by omega) (by omega)
  have wm : IntKind.i64.wrap ((i : Int) - 1) = (i : Int) - 1 := w64 (by omega) (by omega)
  unfold idleB
  generalize rd I (i : Int) = x at *
  by_cases k3 : x.k = 3
  · by_cases n0 : x.n = 0
    · have hp : x = pen0 := by rw [hv k3, n0]
      have hd : decide (x = pen0) = true := by simp [hp]
      rw [hd]
      unfold isF
      by_cases i0 : 0 < i
      · have hy := rd_get I ((i : Int) - 1) (by omega) (by omega)
        have hiy := fun H k => ixs_int H encItem (k := k) (s := 7) (show 0 ≤ (i : Int) - 1 by omega) hy rfl
        have lo := fun H => rloose_ev (rd I ((i : Int) - 1)) H
        rw [if_pos (show 0 ≤ (i : Int) - 1 ∧ (i : Int) - 1 < I.length by omega)]
        generalize rd I ((i : Int) - 1) = y at *
        cases hly : looseX y with
        | true =>
          rw [hly] at lo
          simp [St.enter, enumFrom, subs, setSubs, hix, hiy, encItem, k3, n0, i0, wm, lo, hly]
        | false =>
          rw [hly] at lo
          by_cases i1 : (i : Int) + 1 < I.length
          · have hz := rd_get I ((i : Int) + 1) (by omega) i1
            have hiz := fun H k => ixs_int H encItem (k := k) (s := 7) (show 0 ≤ (i : Int) + 1 by omega) hz rfl
            rw [if_pos (show 0 ≤ (i : Int) + 1 ∧ (i : Int) + 1 < I.length by omega)]
            generalize rd I ((i : Int) + 1) = z at *
            simp [St.enter, enumFrom, subs, setSubs, hix, hiy, hiz, encItem, k3, n0, i0, i1, w, wm, lo, hly]
          · rw [if_neg (show ¬ (0 ≤ (i : Int) + 1 ∧ (i : Int) + 1 < I.length) by omega)]
            simp [St.enter, enumFrom, subs, setSubs, hix, hiy, encItem, k3, n0, i0, i1, w, wm, lo, hly]
      · rw [if_neg (show ¬ (0 ≤ (i : Int) - 1 ∧ (i : Int) - 1 < I.length) by omega)]
        simp [St.enter, enumFrom, subs, setSubs, hix, encItem, k3, n0, i0]
    · have hd : decide (x = pen0) = false := by
        apply decide_eq_false
        intro h; rw [h] at n0; exact n0 rfl
      rw [hd]
      simp [St.enter, enumFrom, subs, setSubs, hix, encItem, k3, n0]
  · have hd : decide (x = pen0) = false := by
      apply decide_eq_false
      intro h; rw [h] at k3; exact k3 rfl
    rw [hd]
    simp [St.enter, enumFrom, subs, setSubs, hix, encItem, k3]
/-! ### Long -/
def rlB (g : Geom) (h : Int) : Bool := decide (min g.noteMost g.high < IntKind.i64.wrap (h + g.rule))
def rnE (g : Geom) (n : Note) (H : Heap) (i : Nat) : St := ⟨[(2, .lptr 2 0), (3, .lptr 3 0), (5, vI i)], [(2, cGeom g), (3, [sli n.lines, sli n.pens])], H, H.length, []⟩
def rnX (g : Geom) (n : Note) (H : Heap) : Ex × St := (.exit 0, ⟨[(2, .lptr 2 0), (3, .lptr 3 0), (5, vI n.lines.length), (10, vB false)], [(2, cGeom g), (3, [sli n.lines, sli n.pens])], H, H.length, []⟩)
def rnR (H : Heap) : Ex × St := (.ret, ⟨[(4, vB true)], [], H, H.length, []⟩)
theorem rn_lp (g : Geom) (n : Note) (H : Heap) (hl : n.lines.length ≤ 1000000) : evD EE lp22_0 (rnE g n H 0) = some (if n.lines.any (rlB g) = true then rnR H else rnX g n H) := by
  unfold lp22_0
  refine Eq.trans (evD_rng n.lines (fun (_ : Unit) i => rnE g n H i) (fun _ _ => True) (stepB (rlB g) (rnR H)) (fun _ => rnX g n H) (fun _ _ => rfl) ?_ ?_ () 0 trivial (Nat.zero_le _)) (by rw [List.drop_zero, rng_any])
  · rintro _ i x - hx
    have hlt := (List.getElem?_eq_some_iff.1 hx).1
    have hix := fun H k => ixs_nat H encI (k := k) (s := 1) hx rfl
    have w : IntKind.i64.wrap ((i : Int) + 1) = ((i + 1 : Nat) : Int) := w64 (by omega) (by omega)
    unfold stepB rlB
    by_cases h : min g.noteMost g.high < IntKind.i64.wrap (x + g.rule)
    · simp only [h, decide_true, if_true]
      refine ⟨?_, by simp [rnR]⟩
      simp [rnE, rnR, hlt, hix, encI, subs, setSubs, h]
    · simp only [h, decide_false]
      refine ⟨?_, trivial⟩
      simp [rnE, rnR, hlt, hix, encI, subs, setSubs, w, h]
  · rintro _ -
    refine ⟨?_, by simp [rnX]⟩
    simp [rnE, rnX, subs]
theorem rlong_ev2 (g : Geom) (n : Note) (hl : n.lines.length ≤ 1000000) (H : Heap) : clD EE (.p (.fn 22)) [vGeom g, vNote n] H = some (vB (n.lines.any (rlB g)), none) := by
  rw [clD_body _ _ _ _ _ _ (noP _) fn22]
  have k := rn_lp g n H hl
  cases h : n.lines.any (rlB g) with
  | true =>
    rw [h] at k
    simp [rnE, rnR] at k
    simp [St.enter, enumFrom, subs, setSubs, k]
  | false =>
    rw [h] at k
    simp [rnE, rnX] at k
    simp [St.enter, enumFrom, subs, setSubs, k]
end Go.EnvOf

/- Jobs that may be, by the document. -/
namespace Go.EnvOf
open Go Go.Eng

def vE (j : Job) (H : Heap) (t : Nat) (i : Nat) : St := ⟨[(1, .lptr 1 0), (2, .lptr 2 0), (t, vI i)], [(1, cGeom j.g ++ [vItems j.items, vNotes j.notes, vFloats j.floats]), (2, [vI 0, vI 0])], H, H.length, []⟩
def vX (j : Job) (H : Heap) (t x e : Nat) (n : Nat) : Ex × St := (.exit e, ⟨[(1, .lptr 1 0), (2, .lptr 2 0), (t, vI n), (x, vB false)], [(1, cGeom j.g ++ [vItems j.items, vNotes j.notes, vFloats j.floats]), (2, [vI 0, vI 0])], H, H.length, []⟩)
def vR (H : Heap) (e : Int) (i : Int) : Ex × St := (.ret, ⟨[(2, .lptr 2 0)], [(2, [vI e, vI i])], H, H.length, []⟩)
theorem v_lp0 (j : Job) (ok : okJob j) (H : Heap) : evD EE lp13_0 (vE j H 4 0) = some (if 0 ≤ idxF (fun x => !rightF x) 0 j.items then vR H 8 (idxF (fun x => !rightF x) 0 j.items) else vX j H 4 37 0 j.items.length) := by
  unfold lp13_0
  refine Eq.trans (evD_rng j.items (fun (_ : Unit) i => vE j H 4 i) (fun _ _ => True) (stepH (fun x => !rightF x) (vR H 8)) (fun _ => vX j H 4 37 0 j.items.length) (fun _ _ => rfl) ?_ ?_ () 0 trivial (Nat.zero_le _)) (by rw [rng_hit]; rfl)
  · rintro _ i x - hx
    have hlt := (List.getElem?_eq_some_iff.1 hx).1
    have hn := ok.n1
    have w : IntKind.i64.wrap ((i : Int) + 1) = ((i + 1 : Nat) : Int) := w64 (by omega) (by omega)
    have hix := fun H k => ixs_nat H encItem (k := k) (s := 7) hx rfl
    have h := rright_ev x H
    simp only [encItem] at hix
    cases e : rightF x with
    | true => rw [e] at h; simp [stepH, e, vE, hlt, hix, subs, setSubs, h, w]
    | false => rw [e] at h; simp [stepH, e, vE, vR, hlt, hix, subs, setSubs, h]
  · rintro _ -
    simp [vE, vX, subs]
theorem v_lp1 (j : Job) (ok : okJob j) (H : Heap) : evD EE lp13_1 (vE j H 5 0) = some (if 0 ≤ idxF (fun x => wrongF x.lines x.pens) 0 j.notes then vR H 9 (idxF (fun x => wrongF x.lines x.pens) 0 j.notes) else vX j H 5 53 2 j.notes.length) := by
  unfold lp13_1
  refine Eq.trans (evD_rng j.notes (fun (_ : Unit) i => vE j H 5 i) (fun _ _ => True) (stepH (fun (x : Note) => wrongF x.lines x.pens) (vR H 9)) (fun _ => vX j H 5 53 2 j.notes.length) (fun _ _ => rfl) ?_ ?_ () 0 trivial (Nat.zero_le _)) (by rw [rng_hit]; rfl)
  · rintro _ i x - hx
    have hlt := (List.getElem?_eq_some_iff.1 hx).1
    have hn := ok.n2
    have w : IntKind.i64.wrap ((i : Int) + 1) = ((i + 1 : Nat) : Int) := w64 (by omega) (by omega)
    have hix := fun H k => ixs_nat H encNote (k := k) (s := 2) hx rfl
    have hb := (ok.notes x (List.mem_of_getElem? hx)).2
    have h := rcheck_ev x.lines x.pens H hb.1 hb.2
    simp only [encNote] at hix
    simp only [note] at h
    cases e : wrongF x.lines x.pens with
    | false => rw [e] at h; simp at h; simp [stepH, e, vE, hlt, hix, subs, setSubs, h, w]
    | true => rw [e] at h; simp at h; simp [stepH, e, vE, vR, hlt, hix, subs, setSubs, h]
  · rintro _ -
    simp [vE, vX, subs]
theorem v_lp2 (j : Job) (ok : okJob j) (H : Heap) : evD EE lp13_2 (vE j H 6 0) = some (if 0 ≤ idxF (fun x => !floatOK x) 0 j.floats then vR H 10 (idxF (fun x => !floatOK x) 0 j.floats) else vX j H 6 69 4 j.floats.length) := by
  unfold lp13_2
  refine Eq.trans (evD_rng j.floats (fun (_ : Unit) i => vE j H 6 i) (fun _ _ => True) (stepH (fun x => !floatOK x) (vR H 10)) (fun _ => vX j H 6 69 4 j.floats.length) (fun _ _ => rfl) ?_ ?_ () 0 trivial (Nat.zero_le _)) (by rw [rng_hit]; rfl)
  · rintro _ i x - hx
    have hlt := (List.getElem?_eq_some_iff.1 hx).1
    have hn := ok.n3
    have w : IntKind.i64.wrap ((i : Int) + 1) = ((i + 1 : Nat) : Int) := w64 (by omega) (by omega)
    have hix := fun H k => ixs_nat H encFloat (k := k) (s := 3) hx rfl
    have h := rfloatRight_ev x H
    simp only [encFloat] at hix
    cases e : floatOK x with
    | true => rw [e] at h; simp [stepH, e, vE, hlt, hix, subs, setSubs, h, w]
    | false => rw [e] at h; simp [stepH, e, vE, vR, hlt, hix, subs, setSubs, h]
  · rintro _ -
    simp [vE, vX, subs]
def v9E (j : Job) (H : Heap) (i : Nat) : St := ⟨[(2, .lptr 2 0), (9, .lptr 9 0), (10, vI i)], [(2, [vI 0, vI 0]), (9, cGeom j.g ++ [vItems j.items, vNotes j.notes, vFloats j.floats])], H, H.length, []⟩
def v9X (j : Job) (H : Heap) (n : Nat) : Ex × St := (.exit 6, ⟨[(2, .lptr 2 0), (9, .lptr 9 0), (10, vI n), (116, vB false)], [(2, [vI 0, vI 0]), (9, cGeom j.g ++ [vItems j.items, vNotes j.notes, vFloats j.floats])], H, H.length, []⟩)
theorem v_lp3 (j : Job) (hn : j.floats.length ≤ 1000000) (H : Heap) : evD EE lp13_3 (v9E j H 0) = some (if 0 ≤ idxF (fun f => decide (j.g.first < f.h)) 0 j.floats then vR H 12 (idxF (fun f => decide (j.g.first < f.h)) 0 j.floats) else v9X j H j.floats.length) := by
  unfold lp13_3
  refine Eq.trans (evD_rng j.floats (fun (_ : Unit) i => v9E j H i) (fun _ _ => True) (stepH (fun f => decide (j.g.first < f.h)) (vR H 12)) (fun _ => v9X j H j.floats.length) (fun _ _ => rfl) ?_ ?_ () 0 trivial (Nat.zero_le _)) (by rw [rng_hit]; rfl)
  · rintro _ i x - hx
    have hlt := (List.getElem?_eq_some_iff.1 hx).1
    have w : IntKind.i64.wrap ((i : Int) + 1) = ((i + 1 : Nat) : Int) := w64 (by omega) (by omega)
    have hix := fun H k => ixs_nat H encFloat (k := k) (s := 3) hx rfl
    simp only [encFloat] at hix
    by_cases e : j.g.first < x.h
    · simp [stepH, e, v9E, vR, hlt, hix, subs, setSubs]
    · simp [stepH, e, v9E, hlt, hix, subs, setSubs, w]
  · rintro _ -
    simp [v9E, v9X, subs]

/-! ### All of it -/
theorem geom_vals (g : Geom) : geomF g = 0 ∨ geomF g = 6 ∨ geomF g = 7 := by
  unfold geomF
  repeat' split
  all_goals first | exact .inl rfl | exact .inr (.inl rfl) | exact .inr (.inr rfl)
def rcheckF (j : Job) : Int × Int :=
  if 4096 < (j.items.length : Int) then (3, 0) else if 256 < (j.floats.length : Int) then (4, 0) else if 512 < (j.notes.length : Int) then (5, 0)
  else if geomF j.g ≠ 0 then (geomF j.g, 0)
  else if 0 ≤ idxF (fun x => !rightF x) 0 j.items then (8, idxF (fun x => !rightF x) 0 j.items)
  else if 0 ≤ idxF (fun x => wrongF x.lines x.pens) 0 j.notes then (9, idxF (fun x => wrongF x.lines x.pens) 0 j.notes)
  else if 0 ≤ idxF (fun x => !floatOK x) 0 j.floats then (10, idxF (fun x => !floatOK x) 0 j.floats)
  else if 0 ≤ refF 5 j.notes.length 0 0 j.items ∧ (refF 6 j.floats.length 0 0 j.items < 0 ∨ refF 5 j.notes.length 0 0 j.items ≤ refF 6 j.floats.length 0 0 j.items) then (11, refF 5 j.notes.length 0 0 j.items)
  else if 0 ≤ refF 6 j.floats.length 0 0 j.items then (11, refF 6 j.floats.length 0 0 j.items)
  else if 0 ≤ tallF j then (12, tallF j) else (0, 0)
theorem loose_eq (a b : Int) (R : Int × Int) : (if 0 ≤ a ∧ (b < 0 ∨ a ≤ b) then ((11 : Int), a) else if 0 ≤ b then (11, b) else R) = if 0 ≤ (if a < 0 ∨ b < 0 then max a b else min a b) then (11, if a < 0 ∨ b < 0 then max a b else min a b) else R := by
  by_cases ha : a < 0
  · have h1 : ¬ (0 ≤ a ∧ (b < 0 ∨ a ≤ b)) := by omega
    have h2 : a < 0 ∨ b < 0 := .inl ha
    rw [if_neg h1]
    simp only [if_pos h2]
    by_cases hb : b < 0
    · have h3 : ¬ 0 ≤ b := by omega
      have h4 : ¬ 0 ≤ max a b := by omega
      rw [if_neg h3, if_neg h4]
    · have e : max a b = b := by omega
      rw [e]
  · by_cases hb : b < 0
    · have e : max a b = a := by omega
      have h2 : a < 0 ∨ b < 0 := .inr hb
      have h3 : 0 ≤ a ∧ (b < 0 ∨ a ≤ b) := ⟨by omega, .inl hb⟩
      rw [if_pos h3]
      simp only [if_pos h2, e, if_pos h3.1]
    · have h2 : ¬ (a < 0 ∨ b < 0) := by omega
      simp only [if_neg h2]
      by_cases hab : a ≤ b
      · have e : min a b = a := by omega
        have h3 : 0 ≤ a ∧ (b < 0 ∨ a ≤ b) := ⟨by omega, .inr hab⟩
        rw [if_pos h3]
        simp only [e, if_pos h3.1]
      · have e : min a b = b := by omega
        have h3 : ¬ (0 ≤ a ∧ (b < 0 ∨ a ≤ b)) := by omega
        rw [if_neg h3, e]
theorem rcheck_eq (j : Job) : rcheckF j = checkF j := by
  unfold rcheckF checkF clausesC
  rw [loose_eq]
  simp only [firstOf, yes, looseF]
  by_cases c1 : 4096 < (j.items.length : Int)
  · simp [c1]
  · by_cases c2 : 256 < (j.floats.length : Int)
    · simp [c1, c2]
    · by_cases c3 : 512 < (j.notes.length : Int)
      · simp [c1, c2, c3]
      · rcases geom_vals j.g with g | g | g
        · simp [c1, c2, c3, g]
          rfl
        · simp [c1, c2, c3, g]
        · simp [c1, c2, c3, g]

theorem rvalidCheck_ev (j : Job) (ok : okJob j) (n3 : (snapG j).floats.length ≤ 1000000) (H : Heap) : clD EE (.p (.fn 13)) [vJob j] H = some (.agg [vI (checkF j).1, vI (checkF j).2], none) := by
  rw [clD_body _ _ _ _ _ _ (noP _) fn13, ← rcheck_eq]
  unfold rcheckF
  have hg := rgeomCheck_ev j.g H
  have k0 := v_lp0 j ok H
  have k1 := v_lp1 j ok H
  have k2 := v_lp2 j ok H
  have ha := ranchors_ev j.items 5 j.notes.length H ok.n1
  have hb := ranchors_ev j.items 6 j.floats.length H ok.n1
  have hs := rsnap_ev j ok H
  have k3 := v_lp3 (snapG j) n3 H
  have et : idxF (fun f => decide ((snapG j).g.first < f.h)) 0 (snapG j).floats = tallF j := rfl
  rw [et] at k3
  generalize snapG j = s at *
  generalize idxF (fun x => !rightF x) 0 j.items = i1 at *
  generalize idxF (fun x => wrongF x.lines x.pens) 0 j.notes = i2 at *
  generalize idxF (fun x => !floatOK x) 0 j.floats = i3 at *
  generalize tallF j = t at *
  simp only [vE, vX, vR, v9E, v9X] at k0 k1 k2 k3
  simp only [vJob, cGeom, List.cons_append, List.nil_append] at hs
  by_cases c1 : 4096 < (j.items.length : Int)
  · simp [St.enter, enumFrom, subs, setSubs, c1]
  · by_cases c2 : 256 < (j.floats.length : Int)
    · simp [St.enter, enumFrom, subs, setSubs, c1, c2]
    · by_cases c3 : 512 < (j.notes.length : Int)
      · simp [St.enter, enumFrom, subs, setSubs, c1, c2, c3]
      · by_cases c4 : geomF j.g = 0
        · rw [c4] at hg
          by_cases d1 : 0 ≤ i1
          · rw [if_pos d1] at k0
            simp at k0
            simp [St.enter, enumFrom, subs, setSubs, c1, c2, c3, c4, hg, k0, d1]
          · rw [if_neg d1] at k0
            by_cases d2 : 0 ≤ i2
            · rw [if_pos d2] at k1
              simp at k0 k1
              simp [St.enter, enumFrom, subs, setSubs, c1, c2, c3, c4, hg, k0, k1, d1, d2]
            · rw [if_neg d2] at k1
              by_cases d3 : 0 ≤ i3
              · rw [if_pos d3] at k2
                simp at k0 k1 k2
                simp [St.enter, enumFrom, subs, setSubs, c1, c2, c3, c4, hg, k0, k1, k2, d1, d2, d3]
              · rw [if_neg d3] at k2
                simp at k0 k1 k2
                generalize refF 5 j.notes.length 0 0 j.items = a at *
                generalize refF 6 j.floats.length 0 0 j.items = b at *
                by_cases e1 : 0 ≤ a
                · by_cases e2 : b < 0
                  · simp [St.enter, enumFrom, subs, setSubs, c1, c2, c3, c4, hg, k0, k1, k2, d1, d2, d3, ha, hb, e1, e2]
                  · by_cases e3 : a ≤ b
                    · simp [St.enter, enumFrom, subs, setSubs, c1, c2, c3, c4, hg, k0, k1, k2, d1, d2, d3, ha, hb, e1, e2, e3]
                    · have e4 : 0 ≤ b := by omega
                      simp [St.enter, enumFrom, subs, setSubs, c1, c2, c3, c4, hg, k0, k1, k2, d1, d2, d3, ha, hb, e1, e2, e3, e4]
                · by_cases e4 : 0 ≤ b
                  · simp [St.enter, enumFrom, subs, setSubs, c1, c2, c3, c4, hg, k0, k1, k2, d1, d2, d3, ha, hb, e1, e4]
                  · by_cases d4 : 0 ≤ t
                    · rw [if_pos d4] at k3
                      simp at k3
                      simp [St.enter, enumFrom, subs, setSubs, c1, c2, c3, c4, hg, k0, k1, k2, d1, d2, d3, ha, hb, e1, e4, hs, k3, d4]
                    · rw [if_neg d4] at k3
                      simp at k3
                      simp [St.enter, enumFrom, subs, setSubs, c1, c2, c3, c4, hg, k0, k1, k2, d1, d2, d3, ha, hb, e1, e4, hs, k3, d4]
        · simp [St.enter, enumFrom, subs, setSubs, c1, c2, c3, c4, hg]
end Go.EnvOf

/- The warnings, as the reference tells them. -/
namespace Go.EnvOf
open Go Go.Eng
set_option maxRecDepth 100000
/-- What a valid job's parts are like, once they are on its grid. -/
structure Fine (J : Job) : Prop where
  pens : ∀ x ∈ J.items, x.k = 3 → x = ⟨3, 0, 0, 0, 0, 0, x.n⟩
  lines : ∀ n ∈ J.notes, ∀ h ∈ n.lines, 0 ≤ h ∧ h ≤ 4294967296
  rule : 0 ≤ J.g.rule ∧ J.g.rule ≤ 4294967296
  high : 0 ≤ J.g.high ∧ J.g.high ≤ 4294967296
  most : 0 ≤ J.g.noteMost ∧ J.g.noteMost ≤ 4294967296
  n1 : J.items.length ≤ 1000000
  n2 : J.notes.length ≤ 1000000
  n3 : J.floats.length ≤ 1000000
  n4 : ∀ n ∈ J.notes, n.lines.length ≤ 1000000
theorem long_same {J : Job} (f : Fine J) {n : Note} (hn : n ∈ J.notes) : n.lines.any (rlB J.g) = longB (limJ J.g) n := by
  have a := f.rule
  have b := f.high
  have c := f.most
  have hl := f.lines n hn
  unfold longB
  have e : ∀ h ∈ n.lines, rlB J.g h = decide (limJ J.g < h) := by
    intro h hh
    have := hl h hh
    unfold rlB limJ
    rw [w64 (n := h + J.g.rule) (by omega) (by omega), w64 (n := min J.g.noteMost J.g.high - J.g.rule) (by omega) (by omega)]
    apply decide_eq_decide.2
    omega
  rw [Bool.eq_iff_iff, List.any_eq_true, List.any_eq_true]
  constructor
  · rintro ⟨h, h1, h2⟩; exact ⟨h, h1, by rw [← e h h1]; exact h2⟩
  · rintro ⟨h, h1, h2⟩; exact ⟨h, h1, by rw [e h h1]; exact h2⟩
def roS (J : Job) (H : Heap) (o : List Warn) (t : Nat) (i : Int) : St := ⟨[(3, .lptr 3 0), (4, rW H o), (t, vI i)], [(3, cJb J)], hW H o, H.length, []⟩
def roT (J : Job) (H : Heap) (o : List Warn) (t x e : Nat) (i : Int) : Ex × St := (.exit e, ⟨[(3, .lptr 3 0), (4, rW H o), (t, vI i), (x, vB false)], [(3, cJb J)], hW H o, H.length, []⟩)
theorem ro_lp0 (J : Job) (f : Fine J) (H : Heap) : evD EE lp9_0 (roS J H [] 5 0) = some (roT J H (itemsW J.g J.items J.items.length) 5 19 0 J.items.length) := by
  suffices key : ∃ r, evD EE lp9_0 (roS J H [] 5 0) = some r ∧ r = roT J H (itemsW J.g J.items J.items.length) 5 19 0 J.items.length by
    obtain ⟨r, h, rfl⟩ := key; exact h
  unfold lp9_0
  refine evD_foldR J.items (fun i S => S = roS J H (itemsW J.g J.items i) 5 i) (fun r => r = roT J H (itemsW J.g J.items J.items.length) 5 19 0 J.items.length) (by rintro i S rfl; rfl) ?_ ?_ _ 0 (roS J H [] 5 0) rfl rfl (Nat.zero_le _)
  · rintro i x S rfl hx
    refine ⟨_, ?_, rfl⟩
    have hlt := (List.getElem?_eq_some_iff.1 hx).1
    have hix := fun H k => ixs_nat H encItem (k := k) (s := 7) hx rfl
    have hrd := rd_of hx
    have n1 := f.n1
    have w : IntKind.i64.wrap ((i : Int) + 1) = ((i + 1 : Nat) : Int) := w64 (by omega) (by omega)
    have lo := fun H => lost_ev J.items i hlt f.n1 H
    have id := fun H => idle_ev J.items i hlt f.n1 (by rw [hrd]; exact f.pens x (List.mem_of_getElem? hx)) H
    have hw := itemsW_len J.g J.items i
    have m1 : (itemsW J.g J.items i).length + 1 < most := by unfold most; omega
    have m2 : (itemsW J.g J.items i).length + 1 + 1 < most := by unfold most; omega
    have m3 : (itemsW J.g J.items i).length + 1 + 1 + 1 < most := by unfold most; omega
    simp only [itemsW, perW, hrd]
    generalize lostB J.items i = ll at *
    generalize idleB J.items i = ii at *
    generalize itemsW J.g J.items i = o at *
    unfold tallB
    by_cases k1 : x.k = 1
    · by_cases hh : J.g.high < x.h
      · cases ll <;> cases ii <;> simp [roS, hlt, hix, encItem, encW, subs, setSubs, w, lo, id, k1, hh, m1, m2, m3] <;> rfl
      · cases ll <;> cases ii <;> simp [roS, hlt, hix, encItem, encW, subs, setSubs, w, lo, id, k1, hh, m1, m2, m3] <;> rfl
    · cases ll <;> cases ii <;> simp [roS, hlt, hix, encItem, encW, subs, setSubs, w, lo, id, k1, m1, m2, m3] <;> rfl
  · rintro S rfl
    refine ⟨_, ?_, ?_, rfl⟩
    · simp [roS, roT, subs]
    · simp [roT]
theorem ro_lp1 (J : Job) (f : Fine J) (H : Heap) (o0 : List Warn) (ho : o0.length ≤ 10000000) : evD EE lp9_1 (roS J H o0 6 0) = some (roT J H (o0 ++ notesW (limJ J.g) J.notes J.notes.length) 6 68 2 J.notes.length) := by
  suffices key : ∃ r, evD EE lp9_1 (roS J H o0 6 0) = some r ∧ r = roT J H (o0 ++ notesW (limJ J.g) J.notes J.notes.length) 6 68 2 J.notes.length by
    obtain ⟨r, h, rfl⟩ := key; exact h
  unfold lp9_1
  refine evD_foldR J.notes (fun i S => S = roS J H (o0 ++ notesW (limJ J.g) J.notes i) 6 i) (fun r => r = roT J H (o0 ++ notesW (limJ J.g) J.notes J.notes.length) 6 68 2 J.notes.length) (by rintro i S rfl; rfl) ?_ ?_ _ 0 (roS J H o0 6 0) rfl (by simp [notesW, idxW]) (Nat.zero_le _)
  · rintro i x S rfl hx
    refine ⟨_, ?_, rfl⟩
    have hlt := (List.getElem?_eq_some_iff.1 hx).1
    have hm := List.mem_of_getElem? hx
    have hix := fun H k => ixs_nat H encNote (k := k) (s := 2) hx rfl
    have hrd := rd_of hx
    have n1 := f.n2
    have w : IntKind.i64.wrap ((i : Int) + 1) = ((i + 1 : Nat) : Int) := w64 (by omega) (by omega)
    have lo := fun H => rlong_ev2 J.g x (f.n4 x hm) H
    rw [long_same f hm] at lo
    have hw := idxW_len 2 (fun i => longB (limJ J.g) (rd J.notes i)) i
    have hs : notesW (limJ J.g) J.notes (i + 1) = notesW (limJ J.g) J.notes i ++ (if longB (limJ J.g) x = true then [⟨2, i⟩] else []) := by simp only [notesW, idxW, hrd]
    have m1 : (o0 ++ notesW (limJ J.g) J.notes i).length + 1 < most := by unfold most notesW; rw [List.length_append]; omega
    rw [hs, ← List.append_assoc]
    generalize o0 ++ notesW (limJ J.g) J.notes i = o at *
    generalize longB (limJ J.g) x = lb at *
    cases lb <;> simp [roS, hlt, hix, encNote, encW, subs, setSubs, w, lo, m1]
  · rintro S rfl
    refine ⟨_, ?_, ?_, rfl⟩
    · simp [roS, roT, subs]
    · simp [roT]
theorem ro_lp2 (J : Job) (f : Fine J) (H : Heap) (o0 : List Warn) (ho : o0.length ≤ 20000000) : evD EE lp9_2 (roS J H o0 7 0) = some (roT J H (o0 ++ floatsW J.g J.floats J.floats.length) 7 88 4 J.floats.length) := by
  suffices key : ∃ r, evD EE lp9_2 (roS J H o0 7 0) = some r ∧ r = roT J H (o0 ++ floatsW J.g J.floats J.floats.length) 7 88 4 J.floats.length by
    obtain ⟨r, h, rfl⟩ := key; exact h
  unfold lp9_2
  refine evD_foldR J.floats (fun i S => S = roS J H (o0 ++ floatsW J.g J.floats i) 7 i) (fun r => r = roT J H (o0 ++ floatsW J.g J.floats J.floats.length) 7 88 4 J.floats.length) (by rintro i S rfl; rfl) ?_ ?_ _ 0 (roS J H o0 7 0) rfl (by simp [floatsW, idxW]) (Nat.zero_le _)
  · rintro i x S rfl hx
    refine ⟨_, ?_, rfl⟩
    have hlt := (List.getElem?_eq_some_iff.1 hx).1
    have n1 := f.n3
    have w : IntKind.i64.wrap ((i : Int) + 1) = ((i + 1 : Nat) : Int) := w64 (by omega) (by omega)
    have f1 := fun H => rafits_ev J.g J.floats ([(i : Int)], []) H (by simp) (by simp)
    have f2 := fun H => rafits_ev J.g J.floats ([], [(i : Int)]) H (by simp) (by simp)
    have e1 : (fitT J.g J.floats [(i : Int)] && fitB J.g J.floats []) = fitPr J.g J.floats ([(i : Int)], []) := rfl
    have e2 : (fitT J.g J.floats [] && fitB J.g J.floats [(i : Int)]) = fitPr J.g J.floats ([], [(i : Int)]) := rfl
    simp only [e1, e2] at f1 f2
    have hw := idxW_len 3 (stuckB J.g J.floats) i
    have hs : floatsW J.g J.floats (i + 1) = floatsW J.g J.floats i ++ (if stuckB J.g J.floats i = true then [⟨3, i⟩] else []) := rfl
    have m1 : (o0 ++ floatsW J.g J.floats i).length + 1 < most := by unfold most floatsW; rw [List.length_append]; omega
    rw [hs, ← List.append_assoc]
    generalize o0 ++ floatsW J.g J.floats i = o at *
    unfold stuckB
    simp only [vPair, sli, List.map_cons, List.map_nil, encI] at f1 f2
    generalize fitPr J.g J.floats ([(i : Int)], []) = a at *
    generalize fitPr J.g J.floats ([], [(i : Int)]) = b at *
    cases a <;> cases b <;> simp [roS, hlt, encI, encW, subs, setSubs, w, f1, f2, m1]
  · rintro S rfl
    refine ⟨_, ?_, ?_, rfl⟩
    · simp [roS, roT, subs]
    · simp [roT]
theorem rof_ev (j : Job) (ok : okJob j) (f : (checkF j).1 = 0 → Fine (snapG j)) (n3 : (snapG j).floats.length ≤ 1000000) (H : Heap) : clD EE (.p (.fn 9)) [vJob j] H = some (vWs (ofW j), none) := by
  have hr := fun H => rvalidCheck_ev j ok n3 H
  have hs := fun H => rsnap_ev j ok H
  simp only [vJob, cGeom, List.cons_append, List.nil_append] at hr hs
  unfold ofW
  rw [clD_body _ _ _ _ _ _ (noP _) fn9]
  by_cases c : (checkF j).1 = 0
  · have f := f c
    rw [if_pos c]
    rw [c] at hr
    generalize snapG j = J at *
    have k0 := ro_lp0 J f H
    have e0 := itemsW_len J.g J.items J.items.length
    have q1 := f.n1
    have q2 := f.n2
    have k1 := ro_lp1 J f H (itemsW J.g J.items J.items.length) (by omega)
    have e1 := idxW_len 2 (fun i => longB (limJ J.g) (rd J.notes i)) J.notes.length
    have k2 := ro_lp2 J f H (itemsW J.g J.items J.items.length ++ notesW (limJ J.g) J.notes J.notes.length) (by unfold notesW; rw [List.length_append]; omega)
    have e : itemsW J.g J.items J.items.length ++ notesW (limJ J.g) J.notes J.notes.length ++ floatsW J.g J.floats J.floats.length = allW J := rfl
    rw [e] at k2
    generalize itemsW J.g J.items J.items.length ++ notesW (limJ J.g) J.notes J.notes.length = W1 at *
    generalize itemsW J.g J.items J.items.length = W0 at *
    generalize allW J = W at *
    simp [roS, roT, rW, hW] at k0 k1 k2
    simp [St.enter, enumFrom, subs, setSubs, fldvV, hr, hs, k0, k1, k2]
  · rw [if_neg c]
    simp [St.enter, enumFrom, subs, setSubs, fldvV, hr, c]
end Go.EnvOf

/- What a valid job is like on its grid. -/
namespace Go.EnvOf
open Go Go.Eng
set_option maxRecDepth 100000
theorem up_bound {n s : Int} (h0 : 0 ≤ n) (h1 : n ≤ 1073741823) (hs : 1 ≤ s) (h2 : s ≤ 1073741823) : 0 ≤ upG n s ∧ upG n s ≤ 4294967296 := by
  have a := Int.emod_nonneg n (show s ≠ 0 by omega)
  have b := Int.emod_lt_of_pos n (show 0 < s by omega)
  unfold upG upF
  rw [if_neg (by omega)]
  split
  · simp only [orN]; omega
  · unfold addF
    split <;> simp only [orN] <;> omega
theorem down_bound {n s : Int} (h0 : 0 ≤ n) (h1 : n ≤ 1073741823) (hs : 1 ≤ s) (h2 : s ≤ 1073741823) : 0 ≤ downG n s ∧ downG n s ≤ 4294967296 := by
  have a := Int.emod_nonneg n (show s ≠ 0 by omega)
  have b := Int.emod_lt_of_pos n (show 0 < s by omega)
  have c1 : 0 ≤ s * (n / s) := Int.mul_nonneg (by omega) (Int.ediv_nonneg h0 (by omega))
  have c2 := Int.emod_add_mul_ediv n s
  unfold downG downF
  rw [if_neg (by omega)]
  unfold subF
  split <;> simp only [orN] <;> omega
theorem first_zero : ∀ (l : List (Int × V × Int)), (∀ c ∈ l, c.1 ≠ 0) → (firstOf l).1 = 0 → ∀ c ∈ l, c.2.2 < 0
  | [], _, _, _, h => by cases h
  | c :: r, hz, h, d, hd => by
    simp only [firstOf] at h
    split at h
    · exact absurd h (hz c List.mem_cons_self)
    · rename_i hc
      rcases List.mem_cons.1 hd with rfl | hd
      · omega
      · exact first_zero r (fun c h => hz c (List.mem_cons_of_mem _ h)) h d hd
theorem idx_none {α : Type} (p : α → Bool) (l : List α) (i : Nat) (h : idxF p i l < 0) : ∀ x ∈ l, p x = false := by
  have := idxF_any p i l
  rw [decide_eq_false (by omega)] at this
  exact fun x hx => by
    have := List.any_eq_false.1 this.symm x hx
    simpa using this
theorem inR_of {lo hi : Int} {l : List Int} (h : ¬ inR lo hi l = false) : ∀ x ∈ l, lo ≤ x ∧ x ≤ hi := by
  intro x hx
  have h1 : inR lo hi l = true := by simpa using h
  unfold inR at h1
  have h2 : (l.any fun x => decide (x < lo) || decide (hi < x)) = false := by simpa using h1
  have := List.any_eq_false.1 h2 x hx
  simp at this
  omega
theorem fine_of {j : Job} (ok : okJob j) (h : (checkF j).1 = 0) : Fine (snapG j) := by
  have hc := first_zero (clausesC j 0) (by intro c hc; simp only [clausesC, List.mem_cons, List.not_mem_nil, or_false] at hc; rcases hc with rfl | rfl | rfl | rfl | rfl | rfl | rfl | rfl | rfl | rfl <;> simp) h
  have c6 := hc (6, whenV 3, yes (decide (geomF j.g = 6))) (by simp [clausesC])
  have c7 := hc (7, whenV 4, yes (decide (geomF j.g = 7))) (by simp [clausesC])
  have c8 := idx_none _ _ _ (hc (8, .p (.fn 75), idxF (fun x => !rightF x) 0 j.items) (by simp [clausesC]))
  have c9 := idx_none _ _ _ (hc (9, .p (.fn 78), idxF (fun x => wrongF x.lines x.pens) 0 j.notes) (by simp [clausesC]))
  have g6 : geomF j.g ≠ 6 := by intro e; simp [e, yes] at c6
  have g7 : geomF j.g ≠ 7 := by intro e; simp [e, yes] at c7
  unfold geomF at g6 g7
  by_cases q1 : inR 1 8 [j.g.cols] = false
  · rw [if_pos q1] at g6; exact absurd rfl g6
  rw [if_neg q1] at g7
  by_cases q2 : inR 1 1073741823 [j.g.wide, j.g.high] = false
  · rw [if_pos q2] at g7; exact absurd rfl g7
  rw [if_neg q2] at g7
  by_cases q3 : inR 0 1073741823 [j.g.gap, j.g.noteMost, j.g.topMost, j.g.botMost] = false
  · rw [if_pos q3] at g7; exact absurd rfl g7
  rw [if_neg q3] at g7
  by_cases q4 : inR 0 536870912 [j.g.rule, j.g.sep, j.g.grid] = false
  · rw [if_pos q4] at g7; exact absurd rfl g7
  have hh := inR_of q2 j.g.high (by simp)
  have hm := inR_of q3 j.g.noteMost (by simp)
  have hr := inR_of q4 j.g.rule (by simp)
  have hg := inR_of q4 j.g.grid (by simp)
  have hpen : ∀ x ∈ j.items, x.k = 3 → x = ⟨3, 0, 0, 0, 0, 0, x.n⟩ := by
    intro x hx h3
    have := c8 x hx
    simp only [Bool.not_eq_false', rightF, Bool.and_eq_true, decide_eq_true_eq] at this
    have e := this.1.1.1.1.1.2
    rw [← e]
    simp [itemSame, h3]
  have hline : ∀ n ∈ j.notes, ∀ h ∈ n.lines, 1 ≤ h ∧ h ≤ 1073741823 := by
    intro n hn h hh
    have := c9 n hn
    simp only [wrongF, Bool.or_eq_false_iff, bad] at this
    have := List.any_eq_false.1 this.1.2 h hh
    simp at this
    omega
  have ln : ∀ n ∈ j.notes, n.lines.length ≤ 1000000 := fun n hn => by have := ok.notes n hn; exact this.2.1
  unfold snapG
  by_cases g0 : j.g.grid < 1
  · rw [if_pos g0]
    exact ⟨hpen, fun n hn h hh => by have := hline n hn h hh; omega, by omega, by omega, by omega, ok.n1, ok.n2, ok.n3, ln⟩
  · rw [if_neg g0]
    refine ⟨?_, ?_, up_bound (by omega) (by omega) (by omega) (by omega), down_bound (by omega) (by omega) (by omega) (by omega), ⟨by simp only [geomG]; omega, by simp only [geomG]; omega⟩, by simpa using ok.n1, by simpa using ok.n2, by simpa using ok.n3, ?_⟩
    · intro x hx h3
      obtain ⟨y, hy, rfl⟩ := List.mem_map.1 hx
      unfold itemG at h3 ⊢
      split at h3
      · rename_i h1; simp only at h3; omega
      · split at h3
        · rename_i h2; simp only at h3; omega
        · rename_i h1 h2
          rw [if_neg h1, if_neg h2]
          exact hpen y hy h3
    · intro n hn h hh
      obtain ⟨m, hm, rfl⟩ := List.mem_map.1 hn
      obtain ⟨x, hx, rfl⟩ := List.mem_map.1 hh
      have := hline m hm x hx
      exact up_bound (by omega) (by omega) (by omega) (by omega)
    · intro n hn
      obtain ⟨m, hm, rfl⟩ := List.mem_map.1 hn
      simpa [noteG] using ln m hm
end Go.EnvOf

/- The law of warnings. -/
namespace Go.EnvOf
open Go Go.Eng
set_option maxRecDepth 100000
def j0 : Job := ⟨⟨1, 1, 0, 9, 9, 0, 0, 0, 0, 0, 0, 0, 0, 0, 0, 0, 0, 0, false⟩, [⟨2, 0, 0, 0, 0, 0, 0⟩, ⟨1, 10, 0, 0, 0, 0, 0⟩, ⟨3, 0, 0, 0, 0, 0, 0⟩, ⟨2, 0, 0, 0, 0, 0, 0⟩], [], []⟩
theorem j0_ok : okJob j0 := ⟨by decide, by decide, by decide, by decide, by decide, by decide, by decide⟩
theorem j0_w : ofW j0 = [⟨4, 0⟩, ⟨1, 1⟩, ⟨5, 2⟩] := by kernel_rfl
theorem addD0 : ∀ ds : List Nat, ds.foldr (addD 0) [] = []
  | [] => rfl
  | x :: t => by simp [addD0 t, addD]
theorem awake50_ev (H : Heap) : ∃ r, clD EE (.p (.fn 7)) [] H = some (.p (.bool true), r) := by
  rw [clD_body _ _ _ _ _ _ (noP _) fn7]
  obtain ⟨r, h⟩ := ltOf_ev j0 j0_ok (by decide) (by decide) (by decide) (by decide) H
  rw [j0_w] at h
  simp only [j0, vJob, cGeom, vItems, vNotes, vFloats, vWs, List.map_cons, List.map_nil, encItem, encW, List.cons_append, List.nil_append] at h
  have hn := fun H => name_ev 3 H
  have e3 : nmS 3 = ⟨#[115, 116, 117, 99, 107]⟩ := by decide +kernel
  have hs : ((⟨#[115, 116, 117, 99, 107]⟩ : ByteArray) == ⟨#[115, 116, 117, 99, 107]⟩) = true := by decide +kernel
  rw [e3] at hn
  simp [St.enter, enumFrom, subs, setSubs, h, callR_opt, ixsI, ixsV, hn, hs]
def tlE (L : List Warn) (H : Heap) (i : Nat) : St := ⟨[(3, vWs L), (4, vWs L), (5, vI i)], [], H, 0, []⟩
def tlX (L : List Warn) (H : Heap) : Ex × St := (.exit 0, ⟨[(3, vWs L), (4, vWs L), (5, vI L.length), (16, vB false)], [], H, 0, []⟩)
theorem tl_lp (L : List Warn) (H : Heap) (hL : L.length ≤ 1000000000) : evD EE lp3_0 (tlE L H 0) = some (tlX L H) := by
  unfold lp3_0
  refine Eq.trans (evD_fold L (fun (_ : Unit) i => tlE L H i) (fun _ _ => True) (fun _ _ _ => ()) (fun _ => tlX L H) (fun _ _ => rfl) ?_ ?_ () 0 trivial (Nat.zero_le _)) rfl
  · intro _ i x hi hx
    refine ⟨?_, trivial⟩
    have hlt := (List.getElem?_eq_some_iff.1 hx).1
    have hix := fun H k => ixs_nat H encW (k := k) (s := 2) hx rfl
    have w : IntKind.i64.wrap ((i : Int) + 1) = ((i + 1 : Nat) : Int) := w64 (by omega) (by omega)
    simp [tlE, hlt, hix, encW, subs, setSubs, w]
  · intro _ _
    refine ⟨?_, by simp [tlX]⟩
    simp [tlE, tlX]
theorem ofW_len {j : Job} (ok : okJob j) : (ofW j).length ≤ 100000000 := by
  unfold ofW
  split
  · rename_i h
    have f := fine_of ok h
    have a := itemsW_len (snapG j).g (snapG j).items (snapG j).items.length
    have b := idxW_len 2 (fun i => longB (limJ (snapG j).g) (rd (snapG j).notes i)) (snapG j).notes.length
    have c := idxW_len 3 (stuckB (snapG j).g (snapG j).floats) (snapG j).floats.length
    have q1 := f.n1
    have q2 := f.n2
    have q3 := f.n3
    unfold allW notesW floatsW
    simp only [List.length_append]
    omega
  · simp
theorem snap_parts {j : Job} (ok : okJob j) : (snapG j).items.length ≤ 1000000 ∧ (snapG j).notes.length ≤ 1000000 ∧ (snapG j).floats.length ≤ 1000000 ∧ ∀ n ∈ (snapG j).notes, n.lines.length ≤ 1000000 := by
  have ln : ∀ n ∈ j.notes, n.lines.length ≤ 1000000 := fun n hn => by have := ok.notes n hn; exact this.2.1
  unfold snapG
  split
  · exact ⟨ok.n1, ok.n2, ok.n3, ln⟩
  · refine ⟨by simpa using ok.n1, by simpa using ok.n2, by simpa using ok.n3, ?_⟩
    intro n hn
    obtain ⟨m, hm, rfl⟩ := List.mem_map.1 hn
    simpa [noteG] using ln m hm
theorem lintTells_ev (j : Job) (hj : jobI j) : clD EE (.p (.fn 3)) [vJob j] [] = some (.p (.bool true), none) := by
  rw [clD_body _ _ _ _ _ _ (noP _) fn3]
  have l1 := large_ev j []
  cases b1 : largeF j with
  | true =>
    rw [b1] at l1
    simp only [vJob, cGeom, List.cons_append, List.nil_append] at l1
    obtain ⟨ra, ha⟩ := awake50_ev []
    have hda : (dsOf ra).foldr (addD 0) [] = [] := addD0 _
    simp [St.enter, enumFrom, subs, setSubs, l1, ha, callR_opt, hda]
  | false =>
    have ok := okJob_of hj (small_of b1)
    obtain ⟨p1, p2, p3, p4⟩ := snap_parts ok
    obtain ⟨r, h1⟩ := ltOf_ev j ok p1 p2 p3 p4 []
    have h2 := rof_ev j ok (fine_of ok) p3
    have hl := ofW_len ok
    have k := tl_lp (ofW j) (hpOf [] r) (by omega)
    rw [b1] at l1
    simp only [vJob, cGeom, List.cons_append, List.nil_append] at l1 h1 h2
    generalize ofW j = W at *
    simp [tlE, tlX] at k
    have hd : (dsOf r).foldr (addD 0) [] = [] := addD0 _
    obtain ⟨ra, ha⟩ := awake50_ev (hpOf [] r)
    have hda : (dsOf ra).foldr (addD 0) [] = [] := addD0 _
    simp [St.enter, enumFrom, subs, setSubs, l1, h1, h2, k, ha, callR_opt, hd, hda]
end Go.EnvOf
