/- The program's functions and the document's, evaluated. -/
import Derived.Test.YtfjgcfloallohaaShapes
import Derived.Test.YtfjgcfloallohaaText2
/- Floats and counts as arguments. -/
namespace Go.EnvOf
open Go Go.Eng
set_option maxRecDepth 100000
open Go.Proofs in
theorem arg_floats {xs : List PV} (h : Shp Try.prog 5 57 xs) : ∃ l : List Float, argV Try.prog 57 xs = vFloats l ∧ l.length ≤ maxLen := by
  obtain ⟨l, rfl, h1, -⟩ := shp_slice (e := 123) (by kernel_rfl) (fun x hx => shp_float hx) h
  exact ⟨l, argV_one (by kernel_rfl), h1⟩
open Go.Proofs in
theorem arg_c3 {xs : List PV} (h : Shp Try.prog 5 87 xs) : ∃ x : C3, argV Try.prog 87 xs = vC x ∧ (I64 x.a ∧ I64 x.b ∧ I64 x.c) := by
  have hk : flatK Try.prog 5 87 = some [.i .i64, .i .i64, .i .i64] := by kernel_rfl
  obtain ⟨a, _, rfl, wa, h1⟩ := flat_6 (flat_ok _ _ _ _ hk h)
  obtain ⟨b, _, rfl, wb, h2⟩ := flat_6 h1
  obtain ⟨c, _, rfl, wc, h3⟩ := flat_6 h2
  obtain rfl := flat_e h3
  exact ⟨⟨a, b, c⟩, argV_agg (by kernel_rfl), wa, wb, wc⟩
open Go.Proofs in
theorem arg_c33 {xs : List PV} (h : Shp Try.prog 5 88 xs) : ∃ x : C3 × C3 × C3, argV Try.prog 88 xs = .agg [vI x.1.a, vI x.1.b, vI x.1.c, vI x.2.1.a, vI x.2.1.b, vI x.2.1.c, vI x.2.2.a, vI x.2.2.b, vI x.2.2.c] ∧ True := by
  have hk : flatK Try.prog 5 88 = some [.i .i64, .i .i64, .i .i64, .i .i64, .i .i64, .i .i64, .i .i64, .i .i64, .i .i64] := by kernel_rfl
  obtain ⟨a, _, rfl, wa, h1⟩ := flat_6 (flat_ok _ _ _ _ hk h)
  obtain ⟨b, _, rfl, wb, h2⟩ := flat_6 h1
  obtain ⟨c, _, rfl, wc, h3⟩ := flat_6 h2
  obtain ⟨d, _, rfl, wd, h4⟩ := flat_6 h3
  obtain ⟨e, _, rfl, we, h5⟩ := flat_6 h4
  obtain ⟨f, _, rfl, wf, h6⟩ := flat_6 h5
  obtain ⟨g, _, rfl, wg, h7⟩ := flat_6 h6
  obtain ⟨i, _, rfl, wi, h8⟩ := flat_6 h7
  obtain ⟨j, _, rfl, wj, h9⟩ := flat_6 h8
  obtain rfl := flat_e h9
  exact ⟨⟨⟨a, b, c⟩, ⟨d, e, f⟩, ⟨g, i, j⟩⟩, argV_agg (by kernel_rfl), trivial⟩
end Go.EnvOf

/- Geometries and pairs of counts as arguments. -/
namespace Go.EnvOf
open Go Go.Eng
set_option maxRecDepth 100000
open Go.Proofs in
theorem arg_geom {xs : List PV} (h : Shp Try.prog 5 55 xs) : ∃ g : Geom, argV Try.prog 55 xs = vGeom g ∧ True := by
  obtain ⟨g, rfl, -⟩ := shp_geom h
  exact ⟨g, argV_agg (by kernel_rfl), trivial⟩
open Go.Proofs in
theorem arg_c23 {xs : List PV} (h : Shp Try.prog 5 107 xs) : ∃ x : C3 × C3, argV Try.prog 107 xs = .agg [vI x.1.a, vI x.1.b, vI x.1.c, vI x.2.a, vI x.2.b, vI x.2.c] ∧ True := by
  have hk : flatK Try.prog 5 107 = some [.i .i64, .i .i64, .i .i64, .i .i64, .i .i64, .i .i64] := by kernel_rfl
  obtain ⟨a, _, rfl, wa, h1⟩ := flat_6 (flat_ok _ _ _ _ hk h)
  obtain ⟨b, _, rfl, wb, h2⟩ := flat_6 h1
  obtain ⟨c, _, rfl, wc, h3⟩ := flat_6 h2
  obtain ⟨d, _, rfl, wd, h4⟩ := flat_6 h3
  obtain ⟨e, _, rfl, we, h5⟩ := flat_6 h4
  obtain ⟨f, _, rfl, wf, h6⟩ := flat_6 h5
  obtain rfl := flat_e h6
  exact ⟨⟨⟨a, b, c⟩, ⟨d, e, f⟩⟩, argV_agg (by kernel_rfl), trivial⟩
end Go.EnvOf
