/- Arguments of whatever plain type, as the laws take them. -/
import Derived.Test.YtfjgcfloallohaaEng23
import Derived.Test.YtfjgcfloallohaaChk
import Derived.Test.YtfjgcfloallohaaTypes
import Derived.Test.YtfjgcfloallohaaChecked
namespace Go.EnvOf
open Go Go.Eng
set_option maxRecDepth 100000

def I64 (n : Int) : Prop := -9223372036854775808 ≤ n ∧ n ≤ 9223372036854775807
theorem I64.of {n : Int} (h : (Lit.int .i64 n).wf = true) : I64 n := by
  simp [Lit.wf, IntKind.min, IntKind.max, IntKind.signed, IntKind.bits] at h
  unfold I64; omega

theorem shp_map {α : Type} {enc : α → List PV} {good : α → Prop} : ∀ {es : List (List PV)}, (∀ x ∈ es, ∃ a, x = enc a ∧ good a) → ∃ L : List α, es = L.map enc ∧ ∀ a ∈ L, good a
  | [], _ => ⟨[], rfl, fun a h => by cases h⟩
  | x :: r, h => by
    obtain ⟨a, rfl, ha⟩ := h x List.mem_cons_self
    obtain ⟨L, rfl, hL⟩ := shp_map (es := r) fun y hy => h y (List.mem_cons_of_mem _ hy)
    exact ⟨a :: L, rfl, fun b hb => by
      rcases List.mem_cons.1 hb with rfl | hb
      · exact ha
      · exact hL b hb⟩

section
variable {P : Program} {d : Nat} {t e : TypeId} {k : IntKind} {xs : List PV}
theorem shp_int (ht : P.underlying t = some (.int k)) (h : Shp P (d + 1) t xs) : ∃ n, xs = [.int k n] ∧ (Lit.int k n).wf = true := by
  simp only [Shp, ht] at h; exact h
theorem shp_i64 (ht : P.underlying t = some (.int .i64)) (h : Shp P (d + 1) t xs) : ∃ n, xs = [.int .i64 n] ∧ I64 n := by
  obtain ⟨n, h1, h2⟩ := shp_int ht h; exact ⟨n, h1, .of h2⟩
theorem shp_bool (ht : P.underlying t = some .bool) (h : Shp P (d + 1) t xs) : ∃ b, xs = [.bool b] := by
  simp only [Shp, ht] at h; exact h
theorem shp_sl (ht : P.underlying t = some (.slice e)) (h : Shp P (d + 1) t xs) : ∃ es, xs = [.sl es] ∧ es.length ≤ maxLen ∧ ∀ x ∈ es, Shp P d e x := by
  simp only [Shp, ht] at h; exact h
theorem shp_slice {α : Type} {enc : α → List PV} {good : α → Prop} (ht : P.underlying t = some (.slice e)) (he : ∀ x, Shp P d e x → ∃ a, x = enc a ∧ good a) (h : Shp P (d + 1) t xs) :
    ∃ L : List α, xs = [.sl (L.map enc)] ∧ L.length ≤ maxLen ∧ ∀ a ∈ L, good a := by
  obtain ⟨es, rfl, h1, h2⟩ := shp_sl ht h
  obtain ⟨L, rfl, hL⟩ := shp_map (enc := enc) (good := good) fun x hx => he x (h2 x hx)
  exact ⟨L, rfl, by simpa using h1, hL⟩
def structB (P : Program) (t : TypeId) : Bool := match P.underlying t with | some (.struct _) => true | some (.array _ _) => true | _ => false
theorem shp_parts (ht : structB P t = true) (h : Shp P (d + 1) t xs) : xs.length = P.cellsOf t ∧ ∀ c ∈ comps P t, Shp P d c.2 ((xs.drop c.1).take (P.cellsOf c.2)) := by
  unfold structB at ht
  split at ht
  · rename_i fs hu; simp only [Shp, hu] at h; exact h
  · rename_i n e hu; simp only [Shp, hu] at h; exact h
  · cases ht
theorem argV_agg (ht : structB P t = true) : argV P t xs = .agg (xs.map .p) := by
  unfold structB at ht
  split at ht
  · rename_i fs hu; simp only [argV, hu]
  · rename_i n e hu; simp only [argV, hu]
  · cases ht
theorem argV_one (ht : structB P t = false) {x : PV} : argV P t [x] = .p x := by
  unfold structB at ht
  unfold argV
  split <;> simp_all
end

open Go.Proofs in
theorem shp_note {d : Nat} {xs : List PV} (h : Shp Try.prog (d + 3) 25 xs) : ∃ n : Note, xs = encNote n ∧ (n.lines.length ≤ maxLen ∧ n.pens.length ≤ maxLen ∧ (∀ x ∈ n.lines, I64 x) ∧ ∀ x ∈ n.pens, I64 x) := by
  obtain ⟨h1, h2⟩ := shp_parts (by kernel_rfl) h
  have hc : comps Try.prog 25 = [(0, 22), (1, 23)] := by kernel_rfl
  have hn : Try.prog.cellsOf 25 = 2 := by kernel_rfl
  have c1 : Try.prog.cellsOf 22 = 1 := by kernel_rfl
  have c2 : Try.prog.cellsOf 23 = 1 := by kernel_rfl
  rw [hn] at h1
  rw [hc] at h2
  obtain ⟨a, b, rfl⟩ : ∃ a b, xs = [a, b] := by
    match xs, h1 with
    | [a, b], _ => exact ⟨a, b, rfl⟩
  have ha := h2 (0, 22) (by simp)
  have hb := h2 (1, 23) (by simp)
  simp only [c1, c2, List.drop_zero, List.take_succ_cons, List.take_zero, List.drop_succ_cons] at ha hb
  obtain ⟨L, hL, l1, l2⟩ := shp_slice (e := 34) (enc := encI) (good := I64) (by kernel_rfl) (fun x hx => shp_i64 (by kernel_rfl) hx) ha
  obtain ⟨M, hM, m1, m2⟩ := shp_slice (e := 3) (enc := encI) (good := I64) (by kernel_rfl) (fun x hx => shp_i64 (by kernel_rfl) hx) hb
  cases hL; cases hM
  exact ⟨⟨L, M⟩, rfl, l1, m1, l2, m2⟩

open Go.Proofs in
theorem shp_item {d : Nat} {xs : List PV} (h : Shp Try.prog (d + 2) 73 xs) : ∃ x : Item, xs = encItem x ∧ (I64 x.k ∧ I64 x.h ∧ I64 x.f ∧ I64 x.str ∧ I64 x.ord ∧ I64 x.shr ∧ I64 x.n) := by
  obtain ⟨h1, h2⟩ := shp_parts (by kernel_rfl) h
  have hc : comps Try.prog 73 = [(0, 3), (1, 34), (2, 3), (3, 34), (4, 3), (5, 34), (6, 3)] := by kernel_rfl
  have hn : Try.prog.cellsOf 73 = 7 := by kernel_rfl
  have c1 : Try.prog.cellsOf 34 = 1 := by kernel_rfl
  have c2 : Try.prog.cellsOf 3 = 1 := by kernel_rfl
  rw [hn] at h1
  rw [hc] at h2
  obtain ⟨a, b, c, d, e, f, g, rfl⟩ : ∃ a b c d e f g, xs = [a, b, c, d, e, f, g] := by
    match xs, h1 with
    | [a, b, c, d, e, f, g], _ => exact ⟨a, b, c, d, e, f, g, rfl⟩
  have q0 := h2 (0, 3) (by simp)
  have q1 := h2 (1, 34) (by simp)
  have q2 := h2 (2, 3) (by simp)
  have q3 := h2 (3, 34) (by simp)
  have q4 := h2 (4, 3) (by simp)
  have q5 := h2 (5, 34) (by simp)
  have q6 := h2 (6, 3) (by simp)
  simp only [c1, c2, List.drop_zero, List.take_succ_cons, List.take_zero, List.drop_succ_cons] at q0 q1 q2 q3 q4 q5 q6
  obtain ⟨n0, e0, w0⟩ := shp_i64 (by kernel_rfl) q0
  obtain ⟨n1, e1, w1⟩ := shp_i64 (by kernel_rfl) q1
  obtain ⟨n2, e2, w2⟩ := shp_i64 (by kernel_rfl) q2
  obtain ⟨n3, e3, w3⟩ := shp_i64 (by kernel_rfl) q3
  obtain ⟨n4, e4, w4⟩ := shp_i64 (by kernel_rfl) q4
  obtain ⟨n5, e5, w5⟩ := shp_i64 (by kernel_rfl) q5
  obtain ⟨n6, e6, w6⟩ := shp_i64 (by kernel_rfl) q6
  cases e0; cases e1; cases e2; cases e3; cases e4; cases e5; cases e6
  exact ⟨⟨n0, n1, n2, n3, n4, n5, n6⟩, rfl, w0, w1, w2, w3, w4, w5, w6⟩

/-! ### As arguments -/
open Go.Proofs in
theorem arg_int {xs : List PV} (h : Shp Try.prog 5 3 xs) : ∃ n : Int, argV Try.prog 3 xs = .p (.int .i64 n) ∧ I64 n := by
  obtain ⟨n, rfl, hn⟩ := shp_i64 (by kernel_rfl) h
  exact ⟨n, argV_one (by kernel_rfl), hn⟩
open Go.Proofs in
theorem arg_items {xs : List PV} (h : Shp Try.prog 5 56 xs) : ∃ l : List Item, argV Try.prog 56 xs = vItems l ∧ l.length ≤ maxLen ∧ ∀ x ∈ l, (I64 x.k ∧ I64 x.h ∧ I64 x.f ∧ I64 x.str ∧ I64 x.ord ∧ I64 x.shr ∧ I64 x.n) := by
  obtain ⟨l, rfl, h1, h2⟩ := shp_slice (e := 73) (by kernel_rfl) (fun x hx => shp_item hx) h
  exact ⟨l, argV_one (by kernel_rfl), h1, h2⟩
open Go.Proofs in
theorem arg_note {xs : List PV} (h : Shp Try.prog 5 25 xs) : ∃ n : Note, argV Try.prog 25 xs = vNote n ∧ (n.lines.length ≤ maxLen ∧ n.pens.length ≤ maxLen ∧ (∀ x ∈ n.lines, I64 x) ∧ ∀ x ∈ n.pens, I64 x) := by
  obtain ⟨n, rfl, hn⟩ := shp_note h
  exact ⟨n, argV_agg (by kernel_rfl), hn⟩
end Go.EnvOf
