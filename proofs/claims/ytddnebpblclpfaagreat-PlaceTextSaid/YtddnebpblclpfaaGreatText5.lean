/- Text's law's arguments. -/
import Derived.Test.YtddnebpblclpfaaGreatShapes
set_option linter.unusedSimpArgs false
set_option linter.unusedVariables false
namespace Go.EnvOf
open Go Go.Eng
set_option maxRecDepth 100000
open Go.Proofs in
theorem arg_c2 {xs : List PV} (h : Shp Tryz.prog 5 97 xs) : ∃ x : Int × Int, argV Tryz.prog 97 xs = .agg [vI x.1, vI x.2] ∧ (I64 x.1 ∧ I64 x.2) := by
  have hk : flatK Tryz.prog 5 97 = some [.i .i64, .i .i64] := by kernel_rfl
  obtain ⟨a, _, rfl, wa, h1⟩ := flat_6 (flat_ok _ _ _ _ hk h)
  obtain ⟨b, _, rfl, wb, h2⟩ := flat_6 h1
  obtain rfl := flat_e h2
  exact ⟨⟨a, b⟩, argV_agg (by kernel_rfl), wa, wb⟩
open Go.Proofs in
theorem arg_sps {xs : List PV} (h : Shp Tryz.prog 5 98 xs) : ∃ l : List Int, argV Tryz.prog 98 xs = sli l ∧ (l.length ≤ maxLen ∧ ∀ x ∈ l, I64 x) := by
  have one : ∀ x, Shp Tryz.prog 4 22 x → ∃ a, x = encI a ∧ I64 a := fun x hx => shp_i64 (by kernel_rfl) hx
  obtain ⟨l, rfl, h1, h2⟩ := shp_slice (e := 22) (enc := encI) (good := fun x => I64 x) (by kernel_rfl) one h
  exact ⟨l, argV_one (by kernel_rfl), h1, h2⟩
end Go.EnvOf
