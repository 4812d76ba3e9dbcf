/- The law ValidAnchors, evaluated. -/
import Derived.Test.YtfjgcfloallohaaAnch
import Derived.KernelRfl
namespace Go.EnvOf
open Go Go.Eng
set_option maxRecDepth 100000

theorem awake15 : clD EE (.p (.fn 53)) [] [] = some (.p (.bool true), none) := by
  rw [clD_iff]
  exact ⟨100, by kernel_rfl⟩
def codes : List Int := [3, 4, 5, 6, 7, 8, 9, 10, 11, 12]
theorem clauses_ev : clD EE (.p (.fn 58)) [] [] = some (sli codes, none) := by
  rw [clD_iff]
  exact ⟨100, by kernel_rfl⟩
theorem codes_lp (u v : V) : evD EE lp12_0 ⟨[(0, u), (1, v), (5, sli codes), (6, .p (.int .i64 0))], [], [], 0, []⟩ =
    some (.exit 0, ⟨[(0, u), (1, v), (5, sli codes), (6, .p (.int .i64 10)), (15, .p (.bool false))], [], [], 0, []⟩) := by
  rw [evD_iff]
  exact ⟨100, by kernel_rfl⟩

theorem validAnchors_ev (l : List Item) (k : Int) : clD EE (.p (.fn 12)) [vItems l, .p (.int .i64 k)] [] = some (.p (.bool true), none) := by
  rw [clD_body _ _ _ _ _ _ _ (noP _) fn12]
  by_cases c : (200 : Int) < l.length
  · simp [St.enter, enumFrom, c, awake15]
  · have h1 := anch_ev l k [] (by omega)
    have h2 := ranch_ev l k [] (by omega)
    have h3 := codes_lp (vItems l) (.p (.int .i64 k))
    have h4 : codes.length = 10 := rfl
    simp [St.enter, enumFrom, c, clauses_ev, h1, h2, h3, h4, awake15]
end Go.EnvOf
