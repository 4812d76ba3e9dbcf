/- The program's functions and the document's, evaluated. -/
import Derived.Test.YtddnebpblclpfaaGreatShapes
import Derived.Test.YtddnebpblclpfaaGreatText6
set_option linter.unusedSimpArgs false
set_option linter.unusedVariables false
/- Notes, spots, pieces as arguments. -/
namespace Go.EnvOf
open Go Go.Eng
set_option maxRecDepth 100000
end Go.EnvOf

/- States and columns as arguments. -/
namespace Go.EnvOf
open Go Go.Eng
set_option maxRecDepth 100000
open Go.Proofs in
theorem arg_stt {xs : List PV} (h : Shp Tryz.prog 5 32 xs) : ∃ s : Stt, argV Tryz.prog 32 xs = vStt s ∧ (I64 s.at_ ∧ I64 s.col ∧ I64 s.note ∧ I64 s.line ∧ okC3 s.h) := by
  have hk : flatK Tryz.prog 5 32 = some [.i .i64, .i .i64, .i .i64, .i .i64, .i .i64, .i .i64, .i .i64] := by kernel_rfl
  obtain ⟨a, _, rfl, wa, h1⟩ := flat_6 (flat_ok _ _ _ _ hk h)
  obtain ⟨b, _, rfl, wb, h2⟩ := flat_6 h1
  obtain ⟨c, _, rfl, wc, h3⟩ := flat_6 h2
  obtain ⟨d, _, rfl, wd, h4⟩ := flat_6 h3
  obtain ⟨e, _, rfl, we, h5⟩ := flat_6 h4
  obtain ⟨f, _, rfl, wf, h6⟩ := flat_6 h5
  obtain ⟨g, _, rfl, wg, h7⟩ := flat_6 h6
  obtain rfl := flat_e h7
  exact ⟨⟨a, b, c, d, ⟨e, f, g⟩⟩, argV_agg (by kernel_rfl), wa, wb, wc, wd, we, wf, wg⟩
end Go.EnvOf
