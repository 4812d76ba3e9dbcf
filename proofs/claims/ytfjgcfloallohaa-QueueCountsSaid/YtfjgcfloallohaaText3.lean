/- The program's functions and the document's, evaluated. -/
import Derived.Test.YtfjgcfloallohaaShapes
import Derived.Test.YtfjgcfloallohaaText2
/- Floats and counts as arguments. -/
namespace Go.EnvOf
open Go Go.Eng
set_option maxRecDepth 100000
open Go.Proofs in
theorem arg_floats {xs : List PV} (h : Shp Try.prog 5 57 xs) : ∃ l : List Float, argV Try.prog 57 xs = vFloats l ∧ l.length ≤ maxLen := by
  obtain ⟨l, rfl, h1, -⟩ := shp_slice (e := 123) (by kernel_rfl) (fun x hx => shp_float hx) h
  exact ⟨l, argV_one (by kernel_rfl), h1⟩
open Go.Proofs in
theorem arg_c3 {xs : List PV} (h : Shp Try.prog 5 87 xs) : ∃ x : C3, argV Try.prog 87 xs = vC x ∧ (I64 x.a ∧ I64 x.b ∧ I64 x.c) := by
  have hk : flatK Try.prog 5 87 = some [.i .i64, .i .i64, .i .i64] := by kernel_rfl
  obtain ⟨a, _, rfl, wa, h1⟩ := flat_6 (flat_ok _ _ _ _ hk h)
  obtain ⟨b, _, rfl, wb, h2⟩ := flat_6 h1
  obtain ⟨c, _, rfl, wc, h3⟩ := flat_6 h2
  obtain rfl := flat_e h3
  exact ⟨⟨a, b, c⟩, argV_agg (by kernel_rfl), wa, wb, wc⟩
open Go.Proofs in
theorem arg_c33 {xs : List PV} (h : Shp Try.prog 5 88 xs) : ∃ x : C3 × C3 × C3, argV Try.prog 88 xs = .agg [vI x.1.a, vI x.1.b, vI x.1.c, vI x.2.1.a, vI x.2.1.b, vI x.2.1.c, vI x.2.2.a, vI x.2.2.b, vI x.2.2.c] ∧ True := by
  have hk : flatK Try.prog 5 88 = some [.i .i64, .i .i64, .i .i64, .i .i64, .i .i64, .i .i64, .i .i64, .i .i64, .i .i64] := by kernel_rfl
  obtain ⟨a, _, rfl, wa, h1⟩ := flat_6 (flat_ok _ _ _ _ hk h)
  obtain ⟨b, _, rfl, wb, h2⟩ := flat_6 h1
  obtain ⟨c, _, rfl, wc, h3⟩ := flat_6 h2
  obtain ⟨d, _, rfl, wd, h4⟩ := flat_6 h3
  obtain ⟨e, _, rfl, we, h5⟩ := flat_6 h4
  obtain ⟨f, _, rfl, wf, h6⟩ := flat_6 h5
  obtain ⟨g, _, rfl, wg, h7⟩ := flat_6 h6
  obtain ⟨i, _, rfl, wi, h8⟩ := flat_6 h7
  obtain ⟨j, _, rfl, wj, h9⟩ := flat_6 h8
  obtain rfl := flat_e h9
  exact ⟨⟨⟨a, b, c⟩, ⟨d, e, f⟩, ⟨g, i, j⟩⟩, argV_agg (by kernel_rfl), trivial⟩
end Go.EnvOf

/- The layer queue: the counts up to given ones, as the reference lists them. -/
namespace Go.EnvOf
open Go Go.Eng
set_option maxRecDepth 100000

/-! ### Numbers from one to another; the counts in their order -/
def upI (lo hi : Int) : List Int := (List.range (hi + 1 - lo).toNat).map (fun k : Nat => lo + k)
theorem upI_nil {lo hi : Int} (h : hi < lo) : upI lo hi = [] := by
  unfold upI
  have : (hi + 1 - lo).toNat = 0 := by omega
  rw [this]; rfl
theorem upI_cons {lo hi : Int} (h : lo ≤ hi) : upI lo hi = lo :: upI (lo + 1) hi := by
  unfold upI
  have : (hi + 1 - lo).toNat = (hi + 1 - (lo + 1)).toNat + 1 := by omega
  rw [this, List.range_succ_eq_map, List.map_cons, List.map_map]
  congr 1
  · omega
  · apply List.map_congr_left
    intro k _
    simp only [Function.comp_apply]
    omega
theorem upI_len (lo hi : Int) : (upI lo hi).length = (hi + 1 - lo).toNat := by simp [upI]
def R3 (m : C3) (a b c : Int) : List C3 := (upI c m.c).map fun c => ⟨a, b, c⟩
def R2 (m : C3) (a b : Int) : List C3 := (upI b m.b).flatMap fun b => R3 m a b 0
def R1 (m : C3) (a : Int) : List C3 := (upI a m.a).flatMap fun a => R2 m a 0
def smallC (n : Int) (s : C3) : Bool := decide (s.a + s.b + s.c ≤ n)
def capC (x : C3) : C3 := ⟨min x.a 32, min x.b 32, min x.c 32⟩
def upL (x : C3) (n : Int) : List C3 := (R1 (capC x) 0).filter (smallC n)
theorem flat_len {α β : Type} (f : α → List β) (k : Nat) (h : ∀ x, (f x).length ≤ k) : ∀ l : List α, (l.flatMap f).length ≤ k * l.length
  | [] => by simp
  | x :: r => by
    have h1 := h x
    have h2 := flat_len f k h r
    simp only [List.flatMap_cons, List.length_append, List.length_cons, Nat.mul_add]
    omega
theorem R3_len {m : C3} (hm : m.c ≤ 32) (a b : Int) {c : Int} (hc : 0 ≤ c) : (R3 m a b c).length ≤ 33 := by
  unfold R3; rw [List.length_map, upI_len]; omega
theorem R2_len {m : C3} (hb : m.b ≤ 32) (hm : m.c ≤ 32) (a : Int) {b : Int} (h : 0 ≤ b) : (R2 m a b).length ≤ 1089 := by
  have h1 := flat_len (fun b => R3 m a b 0) 33 (fun b => R3_len hm a b (Int.le_refl 0)) (upI b m.b)
  unfold R2
  rw [upI_len] at h1
  omega
theorem R1_len {m : C3} (ha : m.a ≤ 32) (hb : m.b ≤ 32) (hm : m.c ≤ 32) {a : Int} (h : 0 ≤ a) : (R1 m a).length ≤ 35937 := by
  have h1 := flat_len (fun a => R2 m a 0) 1089 (fun a => R2_len hb hm a (Int.le_refl 0)) (upI a m.a)
  unfold R1
  rw [upI_len] at h1
  omega

/-! ### The reference -/
def encC (x : C3) : List PV := [.int .i64 x.a, .int .i64 x.b, .int .i64 x.c]
@[simp] theorem encC_len (x : C3) : (encC x).length = 3 := rfl
abbrev vCs (l : List C3) : V := .p (.sl (l.map encC))
abbrev hC (H : Heap) (o : List C3) : Heap := H ++ [.row 3 (upV (o.map encC))]
abbrev rC (H : Heap) (o : List C3) : V := .row H.length o.length 0 o.length
abbrev lC (x : C3) : List V := [vI x.a, vI x.b, vI x.c]
def r0E (x : C3) (n : Int) (H : Heap) (a b : Int) (s : Int × List C3) : St := ⟨[(1, vI n), (2, .lptr 2 0), (5, rC H s.2), (6, vI a), (7, vI b), (8, vI s.1)], [(2, lC x)], hC H s.2, H.length, []⟩
def r0X (x : C3) (n : Int) (H : Heap) (a b c : Int) (o : List C3) : Ex × St := (.exit 4, ⟨[(1, vI n), (2, .lptr 2 0), (5, rC H o), (6, vI a), (7, vI b), (8, vI c), (27, vB false)], [(2, lC x)], hC H o, H.length, []⟩)
theorem r0_lp (x : C3) (n : Int) (H : Heap) (a b : Int) (ha : 0 ≤ a ∧ a ≤ 33) (hb : 0 ≤ b ∧ b ≤ 33) (o : List C3) (ho : o.length ≤ 100000) :
    evD EE lp80_0 (r0E x n H a b (0, o)) = some (r0X x n H a b (max 0 (min x.c 32 + 1)) (o ++ (R3 (capC x) a b 0).filter (smallC n))) := by
  unfold lp80_0
  refine evD_while (r0E x n H a b) (fun s => 0 ≤ s.1 ∧ s.1 ≤ 33 ∧ s.2.length ≤ 100000 + s.1.toNat) (fun s => (40 - s.1).toNat) (fun s => r0X x n H a b (max s.1 (min x.c 32 + 1)) (s.2 ++ (R3 (capC x) a b s.1).filter (smallC n))) (fun _ => rfl) ?_ (0, o) (by simp; exact ho)
  rintro ⟨c, o⟩ ⟨h0, h1, h2⟩
  simp only at h0 h1 h2 ⊢
  have w : IntKind.i64.wrap (c + 1) = c + 1 := w64 (by omega) (by omega)
  have w2 : IntKind.i64.wrap (a + b) = a + b := w64 (by omega) (by omega)
  have w3 : IntKind.i64.wrap (a + b + c) = a + b + c := w64 (by omega) (by omega)
  have hm : o.length + 1 < most := by unfold most; omega
  by_cases hc : c ≤ min x.c 32
  · refine .inl ⟨(c + 1, if a + b + c ≤ n then o ++ [⟨a, b, c⟩] else o), ?_, ?_, ?_, ?_⟩
    · have hc1 : c ≤ x.c := by omega
      have hc2 : c ≤ 32 := by omega
      by_cases hn : a + b + c ≤ n
      · simp [r0E, ixaV, subs, setSubs, hc, hc1, hc2, w, w2, w3, hn, hm, encC]
      · simp [r0E, ixaV, subs, hc, hc1, hc2, w, w2, w3, hn]
    · split <;> simp <;> omega
    · simp only; omega
    · have e : R3 (capC x) a b c = ⟨a, b, c⟩ :: R3 (capC x) a b (c + 1) := by unfold R3; rw [upI_cons (show c ≤ (capC x).c from hc)]; rfl
      have e2 : max (c + 1) (min x.c 32 + 1) = max c (min x.c 32 + 1) := by omega
      simp only [e, e2, List.filter_cons]
      by_cases hn : a + b + c ≤ n
      · simp [smallC, hn]
      · simp [smallC, hn]
  · have e : R3 (capC x) a b c = [] := by unfold R3; rw [upI_nil (show (capC x).c < c by unfold capC; simp only; omega)]; rfl
    have e2 : max c (min x.c 32 + 1) = c := by omega
    refine .inr ⟨?_, by simp [r0X]⟩
    simp only [e, e2, List.filter_nil, List.append_nil]
    by_cases q : c ≤ x.c
    · have q2 : ¬ c ≤ 32 := by omega
      simp [r0E, r0X, ixaV, subs, hc, q, q2]
    · simp [r0E, r0X, ixaV, subs, hc, q]
def r1E (x : C3) (n : Int) (H : Heap) (a : Int) (s : Int × List C3) : St := ⟨[(1, vI n), (2, .lptr 2 0), (5, rC H s.2), (6, vI a), (7, vI s.1)], [(2, lC x)], hC H s.2, H.length, []⟩
def r1X (x : C3) (n : Int) (H : Heap) (a b : Int) (o : List C3) : Ex × St := (.exit 2, ⟨[(1, vI n), (2, .lptr 2 0), (5, rC H o), (6, vI a), (7, vI b), (20, vB false)], [(2, lC x)], hC H o, H.length, []⟩)
theorem r1_lp (x : C3) (n : Int) (H : Heap) (a : Int) (ha : 0 ≤ a ∧ a ≤ 33) (o : List C3) (ho : o.length ≤ 80000) :
    evD EE lp80_1 (r1E x n H a (0, o)) = some (r1X x n H a (max 0 (min x.b 32 + 1)) (o ++ (R2 (capC x) a 0).filter (smallC n))) := by
  unfold lp80_1
  refine evD_while (r1E x n H a) (fun s => 0 ≤ s.1 ∧ s.1 ≤ 33 ∧ s.2.length ≤ 80000 + 40 * s.1.toNat) (fun s => (40 - s.1).toNat) (fun s => r1X x n H a (max s.1 (min x.b 32 + 1)) (s.2 ++ (R2 (capC x) a s.1).filter (smallC n))) (fun _ => rfl) ?_ (0, o) (by simp; exact ho)
  rintro ⟨b, o⟩ ⟨h0, h1, h2⟩
  simp only at h0 h1 h2 ⊢
  have w : IntKind.i64.wrap (b + 1) = b + 1 := w64 (by omega) (by omega)
  by_cases hc : b ≤ min x.b 32
  · have k := r0_lp x n H a b ha ⟨h0, by omega⟩ o (by omega)
    have hR := R3_len (m := capC x) (by unfold capC; simp only; omega) a b (Int.le_refl 0)
    have hF := List.length_filter_le (smallC n) (R3 (capC x) a b 0)
    have hc1 : b ≤ x.b := by omega
    have hc2 : b ≤ 32 := by omega
    refine .inl ⟨(b + 1, o ++ (R3 (capC x) a b 0).filter (smallC n)), ?_, ?_, ?_, ?_⟩
    · generalize (R3 (capC x) a b 0).filter (smallC n) = F at *
      generalize o ++ F = O at *
      simp [r0E, r0X] at k
      simp [r1E, ixaV, subs, hc, hc1, hc2, w, k]
    · simp only [List.length_append]; omega
    · simp only; omega
    · have e : R2 (capC x) a b = R3 (capC x) a b 0 ++ R2 (capC x) a (b + 1) := by unfold R2; rw [upI_cons (show b ≤ (capC x).b from hc)]; rfl
      have e2 : max (b + 1) (min x.b 32 + 1) = max b (min x.b 32 + 1) := by omega
      simp only [e, e2, List.filter_append, List.append_assoc]
  · have e : R2 (capC x) a b = [] := by unfold R2; rw [upI_nil (show (capC x).b < b by unfold capC; simp only; omega)]; rfl
    have e2 : max b (min x.b 32 + 1) = b := by omega
    refine .inr ⟨?_, by simp [r1X]⟩
    simp only [e, e2, List.filter_nil, List.append_nil]
    by_cases q : b ≤ x.b
    · have q2 : ¬ b ≤ 32 := by omega
      simp [r1E, r1X, ixaV, subs, hc, q, q2]
    · simp [r1E, r1X, ixaV, subs, hc, q]
def r2E (x : C3) (n : Int) (H : Heap) (s : Int × List C3) : St := ⟨[(1, vI n), (2, .lptr 2 0), (5, rC H s.2), (6, vI s.1)], [(2, lC x)], hC H s.2, H.length, []⟩
def r2X (x : C3) (n : Int) (H : Heap) (a : Int) (o : List C3) : Ex × St := (.exit 0, ⟨[(1, vI n), (2, .lptr 2 0), (5, rC H o), (6, vI a), (13, vB false)], [(2, lC x)], hC H o, H.length, []⟩)
theorem r2_lp (x : C3) (n : Int) (H : Heap) :
    evD EE lp80_2 (r2E x n H (0, [])) = some (r2X x n H (max 0 (min x.a 32 + 1)) (upL x n)) := by
  unfold lp80_2
  refine evD_while (r2E x n H) (fun s => 0 ≤ s.1 ∧ s.1 ≤ 33 ∧ s.2.length ≤ 1600 * s.1.toNat) (fun s => (40 - s.1).toNat) (fun s => r2X x n H (max s.1 (min x.a 32 + 1)) (s.2 ++ (R1 (capC x) s.1).filter (smallC n))) (fun _ => rfl) ?_ (0, []) (by simp)
  rintro ⟨a, o⟩ ⟨h0, h1, h2⟩
  simp only at h0 h1 h2 ⊢
  have w : IntKind.i64.wrap (a + 1) = a + 1 := w64 (by omega) (by omega)
  by_cases hc : a ≤ min x.a 32
  · have k := r1_lp x n H a ⟨h0, by omega⟩ o (by omega)
    have hR := R2_len (m := capC x) (by unfold capC; simp only; omega) (by unfold capC; simp only; omega) a (Int.le_refl 0)
    have hF := List.length_filter_le (smallC n) (R2 (capC x) a 0)
    have hc1 : a ≤ x.a := by omega
    have hc2 : a ≤ 32 := by omega
    refine .inl ⟨(a + 1, o ++ (R2 (capC x) a 0).filter (smallC n)), ?_, ?_, ?_, ?_⟩
    · generalize (R2 (capC x) a 0).filter (smallC n) = F at *
      generalize o ++ F = O at *
      simp [r1E, r1X] at k
      simp [r2E, ixaV, subs, hc, hc1, hc2, w, k]
    · simp only [List.length_append]; omega
    · simp only; omega
    · have e : R1 (capC x) a = R2 (capC x) a 0 ++ R1 (capC x) (a + 1) := by unfold R1; rw [upI_cons (show a ≤ (capC x).a from hc)]; rfl
      have e2 : max (a + 1) (min x.a 32 + 1) = max a (min x.a 32 + 1) := by omega
      simp only [e, e2, List.filter_append, List.append_assoc]
  · have e : R1 (capC x) a = [] := by unfold R1; rw [upI_nil (show (capC x).a < a by unfold capC; simp only; omega)]; rfl
    have e2 : max a (min x.a 32 + 1) = a := by omega
    refine .inr ⟨?_, by simp [r2X]⟩
    simp only [e, e2, List.filter_nil, List.append_nil]
    by_cases q : a ≤ x.a
    · have q2 : ¬ a ≤ 32 := by omega
      simp [r2E, r2X, ixaV, subs, hc, q, q2]
    · simp [r2E, r2X, ixaV, subs, hc, q]
theorem rup_ev (x : C3) (n : Int) (H : Heap) : clD EE (.p (.fn 80)) [vC x, vI n] H = some (vCs (upL x n), none) := by
  rw [clD_body _ _ _ _ _ _ (noP _) fn80]
  have k := r2_lp x n H
  generalize upL x n = O at *
  simp [r2E, r2X, rC, hC, lC] at k
  simp [St.enter, enumFrom, subs, setSubs, k]
end Go.EnvOf

/- The layer queue: the counts up to given ones, one after the other. -/
namespace Go.EnvOf
open Go Go.Eng
set_option maxRecDepth 100000

/-! ### From counts on -/
def rest (m s : C3) : List C3 := R3 m s.a s.b s.c ++ R2 m s.a (s.b + 1) ++ R1 m (s.a + 1)
theorem rest_c {m s : C3} (h : s.c < m.c) : rest m s = s :: rest m ⟨s.a, s.b, s.c + 1⟩ := by
  unfold rest
  have e : R3 m s.a s.b s.c = s :: R3 m s.a s.b (s.c + 1) := by unfold R3; rw [upI_cons (Int.le_of_lt h)]; rfl
  simp only [e, List.cons_append]
theorem R3_one {m s : C3} (h : s.c = m.c) : R3 m s.a s.b s.c = [s] := by
  unfold R3; rw [upI_cons (by omega), upI_nil (by omega)]; rfl
theorem rest_b {m s : C3} (h : s.c = m.c) (g : s.b < m.b) : rest m s = s :: rest m ⟨s.a, s.b + 1, 0⟩ := by
  unfold rest
  have e2 : R2 m s.a (s.b + 1) = R3 m s.a (s.b + 1) 0 ++ R2 m s.a (s.b + 1 + 1) := by unfold R2; rw [upI_cons (show s.b + 1 ≤ m.b by omega)]; rfl
  simp only [R3_one h, e2, List.cons_append, List.nil_append, List.append_assoc]
theorem rest_a {m s : C3} (h : s.c = m.c) (g : s.b = m.b) (k : s.a < m.a) (hb : 0 ≤ m.b) : rest m s = s :: rest m ⟨s.a + 1, 0, 0⟩ := by
  unfold rest
  have e2 : R2 m s.a (s.b + 1) = [] := by unfold R2; rw [upI_nil (by omega)]; rfl
  have e1 : R1 m (s.a + 1) = R2 m (s.a + 1) 0 ++ R1 m (s.a + 1 + 1) := by unfold R1; rw [upI_cons (show s.a + 1 ≤ m.a by omega)]; rfl
  have e3 : R2 m (s.a + 1) 0 = R3 m (s.a + 1) 0 0 ++ R2 m (s.a + 1) (0 + 1) := by unfold R2; rw [upI_cons hb]; rfl
  simp only [R3_one h, e2, e1, e3, List.cons_append, List.nil_append, List.append_assoc]
theorem rest_end {m s : C3} (h : s.c = m.c) (g : s.b = m.b) (k : s.a = m.a) : rest m s = [s] := by
  unfold rest
  have e2 : R2 m s.a (s.b + 1) = [] := by unfold R2; rw [upI_nil (by omega)]; rfl
  have e1 : R1 m (s.a + 1) = [] := by unfold R1; rw [upI_nil (by omega)]; rfl
  simp only [R3_one h, e2, e1, List.append_nil]
theorem rest_zero {m : C3} (ha : 0 ≤ m.a) (hb : 0 ≤ m.b) : rest m ⟨0, 0, 0⟩ = R1 m 0 := by
  unfold rest
  have e1 : R1 m 0 = R2 m 0 0 ++ R1 m (0 + 1) := by unfold R1; rw [upI_cons ha]; rfl
  have e3 : R2 m 0 0 = R3 m 0 0 0 ++ R2 m 0 (0 + 1) := by unfold R2; rw [upI_cons hb]; rfl
  simp only [e1, e3]
theorem R1_none {m : C3} (h : m.a < 0 ∨ m.b < 0 ∨ m.c < 0) : R1 m 0 = [] := by
  unfold R1
  rcases h with h | h | h
  · rw [upI_nil h]; rfl
  · apply List.flatMap_eq_nil_iff.2
    intro a _
    unfold R2
    rw [upI_nil h]; rfl
  · apply List.flatMap_eq_nil_iff.2
    intro a _
    unfold R2
    apply List.flatMap_eq_nil_iff.2
    intro b _
    unfold R3
    rw [upI_nil h]; rfl

/-! ### The largest place that still can grow -/
def u1E (m s : C3) (n : Int) (H : Heap) (o : List C3) (i : Int) : St := ⟨[(1, vI n), (2, .lptr 2 0), (7, .p (.fn 75)), (8, .lptr 8 0), (9, rC H o), (10, vI i)], [(2, lC m), (8, lC s)], hC H o, H.length, []⟩
def u1X (m s : C3) (n : Int) (H : Heap) (o : List C3) (i : Int) : Ex × St := (.exit 4, ⟨[(1, vI n), (2, .lptr 2 0), (7, .p (.fn 75)), (8, .lptr 8 0), (9, rC H o), (10, vI i), (53, vB false)], [(2, lC m), (8, lC s)], hC H o, H.length, []⟩)
structure upto (m s : C3) : Prop where
  a : 0 ≤ s.a ∧ s.a ≤ m.a
  b : 0 ≤ s.b ∧ s.b ≤ m.b
  c : 0 ≤ s.c ∧ s.c ≤ m.c
structure m32 (m : C3) : Prop where
  a : m.a ≤ 32
  b : m.b ≤ 32
  c : m.c ≤ 32
def place (m s : C3) : Int := if s.c < m.c then 2 else if s.b < m.b then 1 else if s.a < m.a then 0 else -1
theorem u1_lp (m s : C3) (n : Int) (H : Heap) (o : List C3) (hs : upto m s) (hm : m32 m) : evD EE lp79_1 (u1E m s n H o 2) = some (u1X m s n H o (place m s)) := by
  obtain ⟨a1, a2⟩ := hs.a
  obtain ⟨b1, b2⟩ := hs.b
  obtain ⟨c1, c2⟩ := hs.c
  obtain ⟨ma, mb, mc⟩ := hm
  have g2 := fun H => grow_ev s 2 (by decide) (by omega) (by omega) (by omega) H
  have g1 := fun H => grow_ev s 1 (by decide) (by omega) (by omega) (by omega) H
  have g0 := fun H => grow_ev s 0 (by decide) (by omega) (by omega) (by omega) H
  have i2 := fun H => in_ev (growC s 2) m H
  have i1 := fun H => in_ev (growC s 1) m H
  have i0 := fun H => in_ev (growC s 0) m H
  have e2 : inC (growC s 2) m = decide (s.c < m.c) := by simp [growC, inC, a2, b2]; omega
  have e1 : inC (growC s 1) m = decide (s.b < m.b) := by simp [growC, inC, a2, show 0 ≤ m.c by omega]; omega
  have e0 : inC (growC s 0) m = decide (s.a < m.a) := by simp [growC, inC, show 0 ≤ m.b by omega, show 0 ≤ m.c by omega]; omega
  rw [e2] at i2
  rw [e1] at i1
  rw [e0] at i0
  simp only [growC] at g2 g1 g0 i2 i1 i0
  have w1 : IntKind.i64.wrap 1 = 1 := by decide
  have w0 : IntKind.i64.wrap 0 = 0 := by decide
  have wm : IntKind.i64.wrap (-1) = -1 := by decide
  simp at g2 g1 g0
  unfold place
  by_cases h2 : s.c < m.c
  · rw [if_pos h2]
    simp [u1E, u1X, lp79_1, evD_loop, subs, setSubs, g2, i2, h2]
  by_cases h1 : s.b < m.b
  · rw [if_neg h2, if_pos h1]
    simp [u1E, u1X, lp79_1, evD_loop, subs, setSubs, g2, i2, h2, g1, i1, h1, w1]
  by_cases h0 : s.a < m.a
  · rw [if_neg h2, if_neg h1, if_pos h0]
    simp [u1E, u1X, lp79_1, evD_loop, subs, setSubs, g2, i2, h2, g1, i1, h1, g0, i0, h0, w1, w0]
  · rw [if_neg h2, if_neg h1, if_neg h0]
    simp [u1E, u1X, lp79_1, evD_loop, subs, setSubs, g2, i2, h2, g1, i1, h1, g0, i0, h0, w1, w0, wm]

/-! ### One after the other -/
def u2E (m : C3) (n : Int) (H : Heap) (s : C3 × List C3) : St := ⟨[(1, vI n), (2, .lptr 2 0), (7, .p (.fn 75)), (8, .lptr 8 0), (9, rC H s.2)], [(2, lC m), (8, lC s.1)], hC H s.2, H.length, []⟩
def u2X (H : Heap) (o : List C3) : Ex × St := (.ret, ⟨[(4, rC H o)], [], hC H o, H.length, []⟩)
def bodyOf : IC → IC | .loop _ _ c => c | c => c
def left (m s : C3) : Int := 1600 * (m.a - s.a) + 40 * (m.b - s.b) + (m.c - s.c)
theorem u2_lp (m : C3) (n : Int) (H : Heap) (h0 : 0 ≤ m.a ∧ 0 ≤ m.b ∧ 0 ≤ m.c) (hm : m32 m) :
    evD EE lp79_2 (u2E m n H (⟨0, 0, 0⟩, [])) = some (u2X H ((R1 m 0).filter (smallC n))) := by
  have key : ∀ s : C3 × List C3, (upto m s.1 ∧ s.2.length + (left m s.1).toNat ≤ 60000) → evD EE lp79_2 (u2E m n H s) = some (u2X H (s.2 ++ (rest m s.1).filter (smallC n))) := by
    unfold lp79_2
    refine evD_while (u2E m n H) (fun s => upto m s.1 ∧ s.2.length + (left m s.1).toNat ≤ 60000) (fun s => (left m s.1).toNat) (fun s => u2X H (s.2 ++ (rest m s.1).filter (smallC n))) (fun _ => rfl) ?_
    rintro ⟨s, o⟩ ⟨hs, ho⟩
    simp only at hs ho ⊢
    obtain ⟨a1, a2⟩ := id hs.a
    obtain ⟨b1, b2⟩ := id hs.b
    obtain ⟨c1, c2⟩ := id hs.c
    obtain ⟨ma, mb, mc⟩ := id hm
    have hsum := fun H => sum_ev s H
    have es : sumC s = s.a + s.b + s.c := by unfold sumC held big; omega
    rw [es] at hsum
    have u1 := fun o => u1_lp m s n H o hs hm
    have hmo : o.length + 1 < most := by unfold most; omega
    let o' := if s.a + s.b + s.c ≤ n then o ++ [s] else o
    have ho' : o'.length ≤ o.length + 1 := by simp only [o']; split <;> simp
    have hf : ∀ r : List C3, o ++ (s :: r).filter (smallC n) = o' ++ r.filter (smallC n) := by
      intro r
      simp only [o', List.filter_cons, smallC, decide_eq_true_eq]
      split <;> simp
    have step : ∀ i : Nat, i < 3 → place m s = i → evD EE (bodyOf lp79_2) (u2E m n H (s, o)) = some (.normal, u2E m n H (growC s i, o')) := by
      intro i hi hp
      have g := fun H => grow_ev s i hi ⟨by omega, by omega⟩ ⟨by omega, by omega⟩ ⟨by omega, by omega⟩ H
      have hi0 : ¬ ((i : Nat) : Int) < 0 := by omega
      rw [hp] at u1
      have v1 := u1 (o ++ [s])
      have v0 := u1 o
      simp [u1E, u1X, rC, hC, lC, encC] at v1 v0
      by_cases hn : s.a + s.b + s.c ≤ n
      · simp [bodyOf, lp79_2, u2E, rC, hC, lC, o', subs, setSubs, hsum, hn, hmo, encC, v1, g, hi0]
      · simp [bodyOf, lp79_2, u2E, rC, hC, lC, o', subs, setSubs, hsum, hn, v0, g, hi0]
    have hpl : place m s = 2 ∧ s.c < m.c ∨ place m s = 1 ∧ ¬ s.c < m.c ∧ s.b < m.b ∨ place m s = 0 ∧ ¬ s.c < m.c ∧ ¬ s.b < m.b ∧ s.a < m.a ∨ place m s = -1 ∧ ¬ s.c < m.c ∧ ¬ s.b < m.b ∧ ¬ s.a < m.a := by
      unfold place
      by_cases h2 : s.c < m.c
      · simp [h2]
      by_cases h1 : s.b < m.b
      · simp [h2, h1]
      by_cases h0 : s.a < m.a <;> simp [h2, h1, h0]
    rcases hpl with ⟨hp, q2⟩ | ⟨hp, q2, q1⟩ | ⟨hp, q2, q1, q0⟩ | ⟨hp, q2, q1, q0⟩
    · refine .inl ⟨(growC s 2, o'), step 2 (by decide) hp, ⟨⟨?_, ?_, ?_⟩, ?_⟩, ?_, ?_⟩
      all_goals simp only [growC, left] at *
      · omega
      · omega
      · omega
      · omega
      · omega
      · rw [rest_c q2, hf]
    · refine .inl ⟨(growC s 1, o'), step 1 (by decide) hp, ⟨⟨?_, ?_, ?_⟩, ?_⟩, ?_, ?_⟩
      all_goals simp only [growC, left] at *
      · omega
      · omega
      · omega
      · omega
      · omega
      · rw [rest_b (by omega) q1, hf]
    · refine .inl ⟨(growC s 0, o'), step 0 (by decide) hp, ⟨⟨?_, ?_, ?_⟩, ?_⟩, ?_, ?_⟩
      all_goals simp only [growC, left] at *
      · omega
      · omega
      · omega
      · omega
      · omega
      · rw [rest_a (by omega) (by omega) q0 (by omega), hf]
    · rw [rest_end (by omega) (by omega) (by omega), hf]
      refine .inr ⟨?_, by simp [u2X]⟩
      rw [hp] at u1
      have v1 := u1 (o ++ [s])
      have v0 := u1 o
      simp [u1E, u1X, rC, hC, lC, encC] at v1 v0
      by_cases hn : s.a + s.b + s.c ≤ n
      · simp [u2E, u2X, rC, hC, lC, o', subs, setSubs, hsum, hn, hmo, encC, v1]
      · simp [u2E, u2X, rC, hC, lC, o', subs, setSubs, hsum, hn, v0]
  obtain ⟨ma, mb, mc⟩ := hm
  have := key (⟨0, 0, 0⟩, []) ⟨⟨by simp; omega, by simp; omega, by simp; omega⟩, by simp [left]; omega⟩
  rw [rest_zero h0.1 h0.2.1] at this
  exact this
end Go.EnvOf

/- The law of counts. -/
namespace Go.EnvOf
open Go Go.Eng
set_option maxRecDepth 100000

def u0E (x : C3) (s : C3) (n : Int) (H : Heap) (i : Int) : St := ⟨[(1, vI n), (2, .lptr 2 0), (11, vC x), (12, vI i)], [(2, lC s)], H, H.length, []⟩
theorem u0_lp (x : C3) (n : Int) (H : Heap) : evD EE lp79_0 (u0E x x n H 0) = some (.exit 0, ⟨[(1, vI n), (2, .lptr 2 0), (11, vC x), (12, vI 3), (13, vB false)], [(2, lC (capC x))], H, H.length, []⟩) := by
  have w1 : IntKind.i64.wrap 1 = 1 := by decide
  have w2 : IntKind.i64.wrap 2 = 2 := by decide
  have w3 : IntKind.i64.wrap 3 = 3 := by decide
  simp [u0E, lp79_0, evD_loop, ixvV, ixaV, subs, setSubs, w1, w2, w3, capC]
theorem up_ev (x : C3) (n : Int) (H : Heap) : clD EE (.p (.fn 79)) [vC x, vI n] H = some (vCs (upL x n), none) := by
  have k0 := u0_lp x n H
  have hm : m32 (capC x) := ⟨by unfold capC; simp only; omega, by unfold capC; simp only; omega, by unfold capC; simp only; omega⟩
  have hin := fun H => in_ev ⟨0, 0, 0⟩ (capC x) H
  have hup : upL x n = (R1 (capC x) 0).filter (smallC n) := rfl
  rw [hup]
  generalize capC x = m at *
  simp [u0E] at k0
  have main : (m ≠ ⟨0, 0, 0⟩ ∨ ¬ 0 ≤ n) → clD EE (.p (.fn 79)) [vC x, vI n] H = some (vCs ((R1 m 0).filter (smallC n)), none) := by
    intro hc
    rw [clD_body _ _ _ _ _ _ (noP _) fn79]
    obtain ⟨a, b, c⟩ := m
    have hd' : ¬ (a = 0 ∧ b = 0 ∧ c = 0 ∧ 0 ≤ n) := by
      simp at hc
      omega
    try simp only at k0 hin hm ⊢
    by_cases h0 : 0 ≤ a ∧ 0 ≤ b ∧ 0 ≤ c
    · have k2 := u2_lp ⟨a, b, c⟩ n H h0 hm
      have ei : inC ⟨0, 0, 0⟩ ⟨a, b, c⟩ = true := by simp [inC, h0]
      rw [ei] at hin
      generalize (R1 ⟨a, b, c⟩ 0).filter (smallC n) = O at *
      simp [u2E, u2X, rC, hC, lC] at k2
      by_cases z1 : a = 0
      · subst z1
        by_cases z2 : b = 0
        · subst z2
          by_cases z3 : c = 0
          · subst z3
            have hn : ¬ 0 ≤ n := by omega
            simp [St.enter, enumFrom, subs, setSubs, k0, k2, hin, hn]
          · simp [St.enter, enumFrom, subs, setSubs, k0, k2, hin, z3]
        · simp [St.enter, enumFrom, subs, setSubs, k0, k2, hin, z2]
      · simp [St.enter, enumFrom, subs, setSubs, k0, k2, hin, z1]
    · have hR : R1 ⟨a, b, c⟩ 0 = [] := R1_none (by simp only; omega)
      have ei : inC ⟨0, 0, 0⟩ ⟨a, b, c⟩ = false := by
        unfold inC
        simp only [Bool.and_eq_false_iff, decide_eq_false_iff_not]
        omega
      rw [ei] at hin
      rw [hR]
      by_cases z1 : a = 0
      · subst z1
        by_cases z2 : b = 0
        · subst z2
          have z3 : ¬ c = 0 := by omega
          simp [St.enter, enumFrom, subs, setSubs, k0, hin, z3]
        · simp [St.enter, enumFrom, subs, setSubs, k0, hin, z2]
      · simp [St.enter, enumFrom, subs, setSubs, k0, hin, z1]
  by_cases hz : m = ⟨0, 0, 0⟩
  · by_cases hn : 0 ≤ n
    · have hR : R1 m 0 = [⟨0, 0, 0⟩] := by subst hz; rfl
      subst hz
      rw [clD_body _ _ _ _ _ _ (noP _) fn79, hR]
      simp [St.enter, enumFrom, subs, setSubs, k0, hn, smallC, encC]
    · exact main (.inr hn)
  · exact main (.inl hz)

/-! ### The reference's ways -/
theorem radd_ev (x y : C3) (H : Heap) : clD EE (.p (.fn 72)) [vC x, vC y] H = some (vC (addC x y), none) := by
  rw [clD_body _ _ _ _ _ _ (noP _) fn72]
  have w1 : IntKind.i64.wrap 1 = 1 := by decide
  have w2 : IntKind.i64.wrap 2 = 2 := by decide
  have w3 : IntKind.i64.wrap 3 = 3 := by decide
  have hh := fun n => rheld_ev n (-big) big (by decide) H
  have b := fun n => And.intro (held_lo (n := n) (lo := -big) (hi := big) (by decide)) (held_hi (n := n) (lo := -big) (hi := big))
  have wp : ∀ n m, IntKind.i64.wrap (held n (-big) big + held m (-big) big) = held n (-big) big + held m (-big) big := by
    intro n m
    have b1 := b n
    have b2 := b m
    simp only [big] at b1 b2 ⊢
    exact w64 (by omega) (by omega)
  simp only [big] at hh wp
  simp [St.enter, enumFrom, lp72_0, evD_loop, ixaV, subs, setSubs, hh, wp, w1, w2, w3, addC, zipF]
theorem rready_ev (x y : C3) (H : Heap) : clD EE (.p (.fn 78)) [vC x, vC y] H = some (vC (readyC x y), none) := by
  rw [clD_body _ _ _ _ _ _ (noP _) fn78]
  have w1 : IntKind.i64.wrap 1 = 1 := by decide
  have w2 : IntKind.i64.wrap 2 = 2 := by decide
  have w3 : IntKind.i64.wrap 3 = 3 := by decide
  have hh := fun n => rheld_ev n 0 big (by decide) H
  have b := fun n => And.intro (held_lo (n := n) (lo := 0) (hi := big) (by decide)) (held_hi (n := n) (lo := 0) (hi := big))
  have wp : ∀ n m, IntKind.i64.wrap (held n 0 big - held m 0 big) = held n 0 big - held m 0 big := by
    intro n m
    have b1 := b n
    have b2 := b m
    simp only [big] at b1 b2 ⊢
    exact w64 (by omega) (by omega)
  have he : ∀ n m, held (held n 0 big - held m 0 big) 0 big = max 0 (held n 0 big - held m 0 big) := by
    intro n m
    have b1 := b n
    have b2 := b m
    generalize held n 0 big = p at *
    generalize held m 0 big = q at *
    unfold held
    omega
  unfold readyC zipF
  simp only [he]
  simp only [big] at hh wp ⊢
  simp [St.enter, enumFrom, lp78_0, evD_loop, ixaV, subs, setSubs, hh, wp, w1, w2, w3]
theorem rsum_ev (x : C3) (H : Heap) : clD EE (.p (.fn 74)) [vC x] H = some (vI (sumC x), none) := by
  rw [clD_body _ _ _ _ _ _ (noP _) fn74]
  have hh := fun n => rheld_ev n (-big) big (by decide) H
  have b := fun n => And.intro (held_lo (n := n) (lo := -big) (hi := big) (by decide)) (held_hi (n := n) (lo := -big) (hi := big))
  have b1 := b x.a
  have b2 := b x.b
  have b3 := b x.c
  unfold sumC
  simp only [big] at hh b1 b2 b3 ⊢
  have w4 : IntKind.i64.wrap (held x.a (-1073741824) 1073741824 + held x.b (-1073741824) 1073741824) = held x.a (-1073741824) 1073741824 + held x.b (-1073741824) 1073741824 := w64 (by omega) (by omega)
  have w5 : IntKind.i64.wrap (held x.a (-1073741824) 1073741824 + held x.b (-1073741824) 1073741824 + held x.c (-1073741824) 1073741824) = held x.a (-1073741824) 1073741824 + held x.b (-1073741824) 1073741824 + held x.c (-1073741824) 1073741824 := w64 (by omega) (by omega)
  simp [St.enter, enumFrom, ixaV, subs, setSubs, hh, w4, w5]
theorem rin_ev (x y : C3) (H : Heap) : clD EE (.p (.fn 76)) [vC x, vC y] H = some (.p (.bool (inC x y)), none) := by
  rw [clD_body _ _ _ _ _ _ (noP _) fn76]
  by_cases h1 : x.a ≤ y.a
  · by_cases h2 : x.b ≤ y.b
    · simp [St.enter, enumFrom, ixaV, subs, setSubs, inC, h1, h2]
    · simp [St.enter, enumFrom, ixaV, subs, setSubs, inC, h1, h2]
  · simp [St.enter, enumFrom, ixaV, subs, setSubs, inC, h1]

/-! ### The law -/
def qcE (L : List C3) (H : Heap) (i : Nat) : St := ⟨[(9, vCs L), (10, vCs L), (11, vI i)], [], H, H.length, []⟩
def qcX (L : List C3) (H : Heap) : Ex × St := (.exit 0, ⟨[(9, vCs L), (10, vCs L), (11, vI L.length), (69, vB false)], [], H, H.length, []⟩)
theorem qc_lp (L : List C3) (H : Heap) (hL : L.length ≤ 100000) : evD EE lp15_0 (qcE L H 0) = some (qcX L H) := by
  unfold lp15_0
  refine Eq.trans (evD_fold L (fun (_ : Unit) i => qcE L H i) (fun _ _ => True) (fun _ _ _ => ()) (fun _ => qcX L H) (fun _ _ => rfl) ?_ ?_ () 0 trivial (Nat.zero_le _)) rfl
  · intro _ i z _ hz
    refine ⟨?_, trivial⟩
    have hlt := (List.getElem?_eq_some_iff.1 hz).1
    have hiz := fun H k => ixs_nat H encC (k := k) (s := 3) hz rfl
    have w : IntKind.i64.wrap ((i : Int) + 1) = ((i + 1 : Nat) : Int) := w64 (by omega) (by omega)
    simp [qcE, hlt, subs, hiz, w, encC]
  · intro _ _
    refine ⟨?_, by simp [qcX]⟩
    simp [qcE, qcX]
theorem queueCounts_ev (x y : C3) (n : Int) : clD EE (.p (.fn 15)) [vC x, vC y, vI n] [] = some (.p (.bool true), none) := by
  rw [clD_body _ _ _ _ _ _ (noP _) fn15]
  have a1 := fun H => add_ev x y H
  have a2 := fun H => radd_ev x y H
  have b1 := fun H => sum_ev x H
  have b2 := fun H => rsum_ev x H
  have c1 := fun H => in_ev x y H
  have c2 := fun H => rin_ev x y H
  have d1 := fun H => ready_ev x y H
  have d2 := fun H => rready_ev x y H
  have e1 := fun H => up_ev x n H
  have e2 := fun H => rup_ev x n H
  have hl : (upL x n).length ≤ 100000 := by
    have h1 := List.length_filter_le (smallC n) (R1 (capC x) 0)
    have h2 := R1_len (m := capC x) (by unfold capC; simp only; omega) (by unfold capC; simp only; omega) (by unfold capC; simp only; omega) (Int.le_refl 0)
    unfold upL
    omega
  have k := qc_lp (upL x n) [] hl
  generalize upL x n = L at *
  generalize addC x y = A at *
  generalize readyC x y = R at *
  simp [qcE, qcX] at k
  by_cases h1 : 6 < x.a
  · simp [St.enter, enumFrom, ixaV, subs, setSubs, awake23, a1, a2, b1, b2, c1, c2, d1, d2, h1]
  by_cases h2 : 6 < x.b
  · simp [St.enter, enumFrom, ixaV, subs, setSubs, awake23, a1, a2, b1, b2, c1, c2, d1, d2, h1, h2]
  by_cases h3 : 6 < x.c
  · simp [St.enter, enumFrom, ixaV, subs, setSubs, awake23, a1, a2, b1, b2, c1, c2, d1, d2, h1, h2, h3]
  simp [St.enter, enumFrom, ixaV, subs, setSubs, awake23, a1, a2, b1, b2, c1, c2, d1, d2, h1, h2, h3, e1, e2, k]
end Go.EnvOf

/- Counts: their law's arguments. -/
