/- Notes, spots, pieces as arguments. -/
import Derived.Test.YtfjgcfloallohaaShapes
import Derived.Test.YtfjgcfloallohaaText3
namespace Go.EnvOf
open Go Go.Eng
set_option maxRecDepth 100000
open Go.Proofs in
theorem arg_notes {xs : List PV} (h : Shp Try.prog 5 38 xs) : ∃ l : List Note, argV Try.prog 38 xs = vNotes l ∧ l.length ≤ maxLen := by
  obtain ⟨l, rfl, h1, -⟩ := shp_slice (e := 25) (by kernel_rfl) (fun x hx => shp_note hx) h
  exact ⟨l, argV_one (by kernel_rfl), h1⟩
open Go.Proofs in
theorem arg_spot {xs : List PV} (h : Shp Try.prog 5 41 xs) : ∃ s : Spot, argV Try.prog 41 xs = vSpot s ∧ (I64 s.note ∧ I64 s.line ∧ I64 s.begun) := by
  have hk : flatK Try.prog 5 41 = some [.i .i64, .i .i64, .i .i64, .b] := by kernel_rfl
  obtain ⟨a, _, rfl, wa, h1⟩ := flat_6 (flat_ok _ _ _ _ hk h)
  obtain ⟨b, _, rfl, wb, h2⟩ := flat_6 h1
  obtain ⟨c, _, rfl, wc, h3⟩ := flat_6 h2
  obtain ⟨d, _, rfl, h4⟩ := flat_b h3
  obtain rfl := flat_e h4
  exact ⟨⟨a, b, c, d⟩, argV_agg (by kernel_rfl), wa, wb, wc⟩
open Go.Proofs in
theorem shp_piece {xs : List PV} (h : Shp Try.prog 4 119 xs) : ∃ s : Piece, xs = encPiece s ∧ (I64 s.n ∧ I64 s.frm ∧ I64 s.to) := by
  have hk : flatK Try.prog 4 119 = some [.i .i64, .i .i64, .i .i64] := by kernel_rfl
  obtain ⟨a, _, rfl, wa, h1⟩ := flat_6 (flat_ok _ _ _ _ hk h)
  obtain ⟨b, _, rfl, wb, h2⟩ := flat_6 h1
  obtain ⟨c, _, rfl, wc, h3⟩ := flat_6 h2
  obtain rfl := flat_e h3
  exact ⟨⟨a, b, c⟩, rfl, wa, wb, wc⟩
open Go.Proofs in
theorem arg_pieces {xs : List PV} (h : Shp Try.prog 5 42 xs) : ∃ l : List Piece, argV Try.prog 42 xs = vPieces l ∧ (l.length ≤ maxLen ∧ ∀ x ∈ l, (I64 x.n ∧ I64 x.frm ∧ I64 x.to)) := by
  obtain ⟨l, rfl, h1, h2⟩ := shp_slice (e := 119) (by kernel_rfl) (fun x hx => shp_piece hx) h
  exact ⟨l, argV_one (by kernel_rfl), h1, h2⟩
end Go.EnvOf
