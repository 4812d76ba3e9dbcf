/- Warnings as arguments. -/
import Derived.Test.YtfjgcfloallohaaGreatDoorShapes
import Derived.Test.YtfjgcfloallohaaGreatDoorText2
namespace Go.EnvOf
open Go Go.Eng
set_option maxRecDepth 100000
open Go.Proofs in
theorem shp_warn {xs : List PV} (h : Shp Tryz.prog 4 38 xs) : ∃ s : Warn, xs = encW s ∧ True := by
  have hk : flatK Tryz.prog 4 38 = some [.i .i64, .i .i64] := by kernel_rfl
  obtain ⟨a, _, rfl, wa, h1⟩ := flat_6 (flat_ok _ _ _ _ hk h)
  obtain ⟨b, _, rfl, wb, h2⟩ := flat_6 h1
  obtain rfl := flat_e h2
  exact ⟨⟨a, b⟩, rfl, trivial⟩
open Go.Proofs in
theorem arg_warns {xs : List PV} (h : Shp Tryz.prog 5 32 xs) : ∃ l : List Warn, argV Tryz.prog 32 xs = vWs l ∧ l.length ≤ maxLen := by
  obtain ⟨l, rfl, h1, -⟩ := shp_slice (e := 38) (by kernel_rfl) (fun x hx => shp_warn hx) h
  exact ⟨l, argV_one (by kernel_rfl), h1⟩
end Go.EnvOf
