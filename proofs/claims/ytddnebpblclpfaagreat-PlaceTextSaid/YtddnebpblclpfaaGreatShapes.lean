/- Arguments of whatever plain type, as the laws take them. -/
import Derived.Test.YtddnebpblclpfaaGreatChecked
import Derived.Test.YtddnebpblclpfaaGreatEngAll8
import Derived.Test.YtddnebpblclpfaaGreatChk
import Derived.Test.YtddnebpblclpfaaGreatText2
namespace Go.EnvOf
open Go Go.Eng
set_option maxRecDepth 100000

theorem I64.of {n : Int} (h : (Lit.int .i64 n).wf = true) : I64 n := by
  simp [Lit.wf, IntKind.min, IntKind.max, IntKind.signed, IntKind.bits] at h
  unfold I64; omega

theorem shp_map {α : Type} {enc : α → List PV} {good : α → Prop} : ∀ {es : List (List PV)}, (∀ x ∈ es, ∃ a, x = enc a ∧ good a) → ∃ L : List α, es = L.map enc ∧ ∀ a ∈ L, good a
  | [], _ => ⟨[], rfl, fun a h => by cases h⟩
  | x :: r, h => by
    obtain ⟨a, rfl, ha⟩ := h x List.mem_cons_self
    obtain ⟨L, rfl, hL⟩ := shp_map (es := r) fun y hy => h y (List.mem_cons_of_mem _ hy)
    exact ⟨a :: L, rfl, fun b hb => by
      rcases List.mem_cons.1 hb with rfl | hb
      · exact ha
      · exact hL b hb⟩

section
variable {P : Program} {d : Nat} {t e : TypeId} {k : IntKind} {xs : List PV}
theorem shp_int (ht : P.underlying t = some (.int k)) (h : Shp P (d + 1) t xs) : ∃ n, xs = [.int k n] ∧ (Lit.int k n).wf = true := by
  simp only [Shp, ht] at h; exact h
theorem shp_i64 (ht : P.underlying t = some (.int .i64)) (h : Shp P (d + 1) t xs) : ∃ n, xs = [.int .i64 n] ∧ I64 n := by
  obtain ⟨n, h1, h2⟩ := shp_int ht h; exact ⟨n, h1, .of h2⟩
theorem shp_bool (ht : P.underlying t = some .bool) (h : Shp P (d + 1) t xs) : ∃ b, xs = [.bool b] := by
  simp only [Shp, ht] at h; exact h
theorem shp_sl (ht : P.underlying t = some (.slice e)) (h : Shp P (d + 1) t xs) : ∃ es, xs = [.sl es] ∧ es.length ≤ maxLen ∧ ∀ x ∈ es, Shp P d e x := by
  simp only [Shp, ht] at h; exact h
theorem shp_slice {α : Type} {enc : α → List PV} {good : α → Prop} (ht : P.underlying t = some (.slice e)) (he : ∀ x, Shp P d e x → ∃ a, x = enc a ∧ good a) (h : Shp P (d + 1) t xs) :
    ∃ L : List α, xs = [.sl (L.map enc)] ∧ L.length ≤ maxLen ∧ ∀ a ∈ L, good a := by
  obtain ⟨es, rfl, h1, h2⟩ := shp_sl ht h
  obtain ⟨L, rfl, hL⟩ := shp_map (enc := enc) (good := good) fun x hx => he x (h2 x hx)
  exact ⟨L, rfl, by simpa using h1, hL⟩
def structB (P : Program) (t : TypeId) : Bool := match P.underlying t with | some (.struct _) => true | some (.array _ _) => true | _ => false
theorem shp_parts (ht : structB P t = true) (h : Shp P (d + 1) t xs) : xs.length = P.cellsOf t ∧ ∀ c ∈ comps P t, Shp P d c.2 ((xs.drop c.1).take (P.cellsOf c.2)) := by
  unfold structB at ht
  split at ht
  · rename_i fs hu; simp only [Shp, hu] at h; exact h
  · rename_i n e hu; simp only [Shp, hu] at h; exact h
  · cases ht
theorem argV_agg (ht : structB P t = true) : argV P t xs = .agg (xs.map .p) := by
  unfold structB at ht
  split at ht
  · rename_i fs hu; simp only [argV, hu]
  · rename_i n e hu; simp only [argV, hu]
  · cases ht
theorem argV_one (ht : structB P t = false) {x : PV} : argV P t [x] = .p x := by
  unfold structB at ht
  unfold argV
  split <;> simp_all
end

/-! ### Types of numbers and bools alone -/
inductive PK where
  | i (k : IntKind)
  | b
  deriving DecidableEq
def kOK : PK → PV → Prop
  | .i k, x => ∃ n, x = .int k n ∧ (Lit.int k n).wf = true
  | .b, x => ∃ b, x = .bool b
def FlatOK : List PK → List PV → Prop
  | [], [] => True
  | k :: ks, x :: xs => kOK k x ∧ FlatOK ks xs
  | _, _ => False
def flatC (P : Program) (rec : TypeId → Option (List PK)) : Nat → List (Nat × TypeId) → Option (List PK)
  | _, [] => some []
  | off, (o, t) :: r => if o = off then (match rec t, flatC P rec (off + P.cellsOf t) r with | some a, some b => if a.length = P.cellsOf t then some (a ++ b) else none | _, _ => none) else none
def flatK (P : Program) : Nat → TypeId → Option (List PK)
  | 0, _ => none
  | d + 1, t => match P.underlying t with
    | some (.int k) => some [.i k]
    | some .bool => some [.b]
    | some (.struct _) | some (.array _ _) => match flatC P (flatK P d) 0 (comps P t) with | some ks => if ks.length = P.cellsOf t then some ks else none | none => none
    | _ => none
theorem flat_i {k : IntKind} {ks : List PK} {xs : List PV} (h : FlatOK (.i k :: ks) xs) : ∃ n r, xs = .int k n :: r ∧ (Lit.int k n).wf = true ∧ FlatOK ks r := by
  cases xs with
  | nil => exact h.elim
  | cons x r => obtain ⟨⟨n, rfl, hn⟩, h2⟩ := h; exact ⟨n, r, rfl, hn, h2⟩
theorem flat_6 {ks : List PK} {xs : List PV} (h : FlatOK (.i .i64 :: ks) xs) : ∃ n r, xs = .int .i64 n :: r ∧ I64 n ∧ FlatOK ks r := by
  obtain ⟨n, r, h1, h2, h3⟩ := flat_i h; exact ⟨n, r, h1, .of h2, h3⟩
theorem flat_e {xs : List PV} (h : FlatOK [] xs) : xs = [] := by
  cases xs with
  | nil => rfl
  | cons x r => exact h.elim
theorem flatOK_app : ∀ {a b : List PK} {xs ys : List PV}, FlatOK a xs → FlatOK b ys → FlatOK (a ++ b) (xs ++ ys)
  | [], _, [], _, _, h => h
  | _ :: _, _, _ :: _, _, h, h' => ⟨h.1, flatOK_app h.2 h'⟩
  | [], _, _ :: _, _, h, _ => h.elim
  | _ :: _, _, [], _, h, _ => h.elim
section
variable {P : Program}
theorem flatC_ok {d : Nat} (IH : ∀ t ks xs, flatK P d t = some ks → Shp P d t xs → FlatOK ks xs) : ∀ (cs : List (Nat × TypeId)) (off : Nat) (ks : List PK) (xs : List PV), flatC P (flatK P d) off cs = some ks →
    xs.length = off + ks.length → (∀ c ∈ cs, Shp P d c.2 ((xs.drop c.1).take (P.cellsOf c.2))) → FlatOK ks (xs.drop off)
  | [], off, ks, xs, h, hl, _ => by
    cases h
    have : xs.drop off = [] := by rw [List.drop_eq_nil_iff]; simp at hl; omega
    rw [this]; trivial
  | (o, t) :: r, off, ks, xs, h, hl, hc => by
    simp only [flatC] at h
    split at h
    · rename_i ho
      subst ho
      split at h
      · rename_i a b ha hb
        split at h
        · rename_i hla
          cases h
          have h0 := hc (o, t) List.mem_cons_self
          have h1 := IH t a _ ha h0
          have h2 := flatC_ok IH r (o + P.cellsOf t) b xs hb (by simp at hl; omega) (fun c hc' => hc c (List.mem_cons_of_mem _ hc'))
          have e : xs.drop o = (xs.drop o).take (P.cellsOf t) ++ xs.drop (o + P.cellsOf t) := by rw [← List.drop_drop]; exact (List.take_append_drop _ _).symm
          rw [e]
          exact flatOK_app h1 h2
        · cases h
      · cases h
    · cases h
theorem flat_ok : ∀ (d : Nat) (t : TypeId) (ks : List PK) (xs : List PV), flatK P d t = some ks → Shp P d t xs → FlatOK ks xs
  | 0, _, _, _, h, _ => by simp [flatK] at h
  | d + 1, t, ks, xs, h, hs => by
    have parts : structB P t = true → (match flatC P (flatK P d) 0 (comps P t) with | some ks => if ks.length = P.cellsOf t then some ks else none | none => none) = some ks → FlatOK ks xs := by
      intro hb h
      obtain ⟨h1, h2⟩ := shp_parts hb hs
      split at h
      · rename_i ks' hk
        split at h
        · rename_i hl
          cases h
          have := flatC_ok (fun t ks xs => flat_ok d t ks xs) (comps P t) 0 ks xs hk (by omega) h2
          simpa using this
        · cases h
      · cases h
    unfold flatK at h
    split at h
    · rename_i k hu
      cases h
      obtain ⟨n, rfl, hw⟩ := shp_int hu hs
      exact ⟨⟨n, rfl, hw⟩, trivial⟩
    · rename_i hu
      cases h
      obtain ⟨b, rfl⟩ := shp_bool hu hs
      exact ⟨⟨b, rfl⟩, trivial⟩
    · rename_i hu; exact parts (by unfold structB; rw [hu]) h
    · rename_i hu; exact parts (by unfold structB; rw [hu]) h
    · cases h
end

open Go.Proofs in
theorem shp_item {d : Nat} {xs : List PV} (h : Shp Tryz.prog (d + 2) 72 xs) : ∃ x : Item, xs = encItem x ∧ (I64 x.k ∧ I64 x.h ∧ I64 x.f ∧ I64 x.str ∧ I64 x.ord ∧ I64 x.shr ∧ I64 x.n) := by
  obtain ⟨h1, h2⟩ := shp_parts (by kernel_rfl) h
  have hc : comps Tryz.prog 72 = [(0, 3), (1, 22), (2, 3), (3, 22), (4, 3), (5, 22), (6, 3)] := by kernel_rfl
  have hn : Tryz.prog.cellsOf 72 = 7 := by kernel_rfl
  have c1 : Tryz.prog.cellsOf 22 = 1 := by kernel_rfl
  have c2 : Tryz.prog.cellsOf 3 = 1 := by kernel_rfl
  rw [hn] at h1
  rw [hc] at h2
  obtain ⟨a, b, c, d, e, f, g, rfl⟩ : ∃ a b c d e f g, xs = [a, b, c, d, e, f, g] := by
    match xs, h1 with
    | [a, b, c, d, e, f, g], _ => exact ⟨a, b, c, d, e, f, g, rfl⟩
  have q0 := h2 (0, 3) (by simp)
  have q1 := h2 (1, 22) (by simp)
  have q2 := h2 (2, 3) (by simp)
  have q3 := h2 (3, 22) (by simp)
  have q4 := h2 (4, 3) (by simp)
  have q5 := h2 (5, 22) (by simp)
  have q6 := h2 (6, 3) (by simp)
  simp only [c1, c2, List.drop_zero, List.take_succ_cons, List.take_zero, List.drop_succ_cons] at q0 q1 q2 q3 q4 q5 q6
  obtain ⟨n0, e0, w0⟩ := shp_i64 (by kernel_rfl) q0
  obtain ⟨n1, e1, w1⟩ := shp_i64 (by kernel_rfl) q1
  obtain ⟨n2, e2, w2⟩ := shp_i64 (by kernel_rfl) q2
  obtain ⟨n3, e3, w3⟩ := shp_i64 (by kernel_rfl) q3
  obtain ⟨n4, e4, w4⟩ := shp_i64 (by kernel_rfl) q4
  obtain ⟨n5, e5, w5⟩ := shp_i64 (by kernel_rfl) q5
  obtain ⟨n6, e6, w6⟩ := shp_i64 (by kernel_rfl) q6
  cases e0; cases e1; cases e2; cases e3; cases e4; cases e5; cases e6
  exact ⟨⟨n0, n1, n2, n3, n4, n5, n6⟩, rfl, w0, w1, w2, w3, w4, w5, w6⟩

/-! ### As arguments -/
open Go.Proofs in
theorem arg_items {xs : List PV} (h : Shp Tryz.prog 5 25 xs) : ∃ l : List Item, argV Tryz.prog 25 xs = vItems l ∧ l.length ≤ maxLen ∧ ∀ x ∈ l, (I64 x.k ∧ I64 x.h ∧ I64 x.f ∧ I64 x.str ∧ I64 x.ord ∧ I64 x.shr ∧ I64 x.n) := by
  obtain ⟨l, rfl, h1, h2⟩ := shp_slice (e := 72) (by kernel_rfl) (fun x hx => shp_item hx) h
  exact ⟨l, argV_one (by kernel_rfl), h1, h2⟩
end Go.EnvOf
