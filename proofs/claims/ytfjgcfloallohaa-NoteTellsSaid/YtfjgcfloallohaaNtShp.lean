/- Notes as arguments. -/
import Derived.Test.YtfjgcfloallohaaEng23
import Derived.Test.YtfjgcfloallohaaChk
import Derived.Test.YtfjgcfloallohaaNtHigh
import Derived.Test.YtfjgcfloallohaaChecked
namespace Go.EnvOf
open Go Go.Eng
set_option maxRecDepth 100000

theorem shp_map {α : Type} {enc : α → List PV} {good : α → Prop} : ∀ {es : List (List PV)}, (∀ x ∈ es, ∃ a, x = enc a ∧ good a) → ∃ L : List α, es = L.map enc ∧ ∀ a ∈ L, good a
  | [], _ => ⟨[], rfl, fun a h => by cases h⟩
  | x :: r, h => by
    obtain ⟨a, rfl, ha⟩ := h x List.mem_cons_self
    obtain ⟨L, rfl, hL⟩ := shp_map (es := r) fun y hy => h y (List.mem_cons_of_mem _ hy)
    exact ⟨a :: L, rfl, fun b hb => by
      rcases List.mem_cons.1 hb with rfl | hb
      · exact ha
      · exact hL b hb⟩

section
variable {P : Program} {d : Nat} {t e : TypeId} {k : IntKind} {xs : List PV}
theorem shp_int (ht : P.underlying t = some (.int k)) (h : Shp P (d + 1) t xs) : ∃ n, xs = [.int k n] ∧ (Lit.int k n).wf = true := by
  simp only [Shp, ht] at h; exact h
theorem shp_sl (ht : P.underlying t = some (.slice e)) (h : Shp P (d + 1) t xs) : ∃ es, xs = [.sl es] ∧ es.length ≤ maxLen ∧ ∀ x ∈ es, Shp P d e x := by
  simp only [Shp, ht] at h; exact h
def structB (P : Program) (t : TypeId) : Bool := match P.underlying t with | some (.struct _) => true | _ => false
theorem shp_struct (ht : structB P t = true) (h : Shp P (d + 1) t xs) : argV P t xs = .agg (xs.map .p) ∧ xs.length = P.cellsOf t ∧ ∀ c ∈ comps P t, Shp P d c.2 ((xs.drop c.1).take (P.cellsOf c.2)) := by
  unfold structB at ht
  split at ht
  · rename_i fs hu
    simp only [Shp, hu] at h; exact ⟨by simp only [argV, hu], h⟩
  · cases ht
theorem shp_sli (ht : P.underlying t = some (.slice e)) (he : P.underlying e = some (.int .i64)) (h : Shp P (d + 2) t xs) : ∃ L : List Int, xs = [.sl (L.map encI)] ∧ L.length ≤ maxLen ∧ ∀ n ∈ L, (Lit.int .i64 n).wf = true := by
  obtain ⟨es, rfl, h1, h2⟩ := shp_sl ht h
  obtain ⟨L, rfl, hL⟩ := shp_map (enc := encI) (good := fun n => (Lit.int .i64 n).wf = true) fun x hx => by
    obtain ⟨n, rfl, hn⟩ := shp_int he (h2 x hx); exact ⟨n, rfl, hn⟩
  exact ⟨L, rfl, by simpa using h1, hL⟩
end

open Go.Proofs in
theorem shp_note {xs : List PV} (h : Shp Try.prog 5 25 xs) : ∃ L M : List Int, argV Try.prog 25 xs = note L M ∧ L.length ≤ maxLen ∧ M.length ≤ maxLen ∧ (∀ n ∈ L, (Lit.int .i64 n).wf = true) ∧ ∀ n ∈ M, (Lit.int .i64 n).wf = true := by
  obtain ⟨h0, h1, h2⟩ := shp_struct (by kernel_rfl) h
  have hc : comps Try.prog 25 = [(0, 22), (1, 23)] := by kernel_rfl
  have hn : Try.prog.cellsOf 25 = 2 := by kernel_rfl
  have c22 : Try.prog.cellsOf 22 = 1 := by kernel_rfl
  have c23 : Try.prog.cellsOf 23 = 1 := by kernel_rfl
  rw [hn] at h1
  rw [hc] at h2
  obtain ⟨a, b, rfl⟩ : ∃ a b, xs = [a, b] := by
    match xs, h1 with
    | [a, b], _ => exact ⟨a, b, rfl⟩
  have ha := h2 (0, 22) (by simp)
  have hb := h2 (1, 23) (by simp)
  simp only [c22, c23, List.drop_zero, List.take_succ_cons, List.take_zero, List.drop_succ_cons] at ha hb
  obtain ⟨L, hL, l1, l2⟩ := shp_sli (e := 34) (by kernel_rfl) (by kernel_rfl) ha
  obtain ⟨M, hM, m1, m2⟩ := shp_sli (e := 3) (by kernel_rfl) (by kernel_rfl) hb
  cases hL; cases hM
  refine ⟨L, M, ?_, l1, m1, l2, m2⟩
  rw [h0]; rfl

open Go.Proofs in
theorem shp_int3 {xs : List PV} (h : Shp Try.prog 5 3 xs) : ∃ n : Int, argV Try.prog 3 xs = .p (.int .i64 n) ∧ (Lit.int .i64 n).wf = true := by
  have hu : Try.prog.underlying 3 = some (.int .i64) := by kernel_rfl
  obtain ⟨n, rfl, hn⟩ := shp_int hu h
  exact ⟨n, by simp only [argV, hu], hn⟩
end Go.EnvOf
