/- What the row says of the table, as the engine wants it; and a start where it holds. -/
import Derived.Test.YtfjgcfloallohaaGreatDoorRows
import Derived.ProofKit
import Derived.LaidMore
import Derived.OpenShut
import Derived.Stop.Joined
import Derived.Test.YtfjgcfloallohaaGreatDoorNameW
import Derived.Test.YtfjgcfloallohaaGreatDoorEngAll8
namespace Go.Proofs.YtfjgcfloallohaaGreatDoor
open Go Go.Eng Go.ChangeShapes Go.WideShapes Go.ChangeAt Go.WideMaps Go.WideElems Go.RowKit
set_option maxRecDepth 100000
abbrev laidN : List (String × DataW Unit) := [("tympan/lint.names", Rows.laid_tympan_lint_names)]
theorem gNames : Tryz.prog.globalNamed "tympan/lint.names" = some 0 := by kernel_rfl
theorem tNames : (Tryz.prog.globals[0]?).map (·.type) = some 65 := by kernel_rfl
theorem door_met (os : Os) (args : Array Value) : laidMetH Tryz.prog laidN ((World.doorLaid Tryz.prog 400 os).forCall (fun _ _ => 0) ⟨#[], args, []⟩).memory :=
  laidMetH_of_parts3 (fuel := 8) (laidMet_of_run' 8 (by kernel_rfl) (by kernel_rfl)) (by kernel_rfl) (by kernel_rfl)
theorem six {α : Type} {xs : List α} (h : xs.length = 6) : ∃ a b c d e f, xs = [a, b, c, d, e, f] := by
  match xs, h with
  | [a, b, c, d, e, f], _ => exact ⟨a, b, c, d, e, f, rfl⟩
theorem bytes_eq {s : ByteArray} {a : Array UInt8} (h : s.data.toList = a.toList) : s = ⟨a⟩ := by
  cases s with
  | mk d => simp only [ByteArray.mk.injEq]; exact Array.toList_inj.1 h
theorem cells_of_laid {W : World} (h : laidMetH Tryz.prog laidN W) : ∀ i : Nat, i < 6 → W.cell? ⟨0, i, none⟩ = some (.string (nmS i)) := by
  rw [MakeChecks.laidMetH_plain _ _ _ (by kernel_rfl)] at h
  obtain ⟨ps, ⟨g0, t0, cs0, f0, p0, q0, hg0, ht0, hv0, hd0, _, _⟩, _, _⟩ := h
  obtain rfl := Option.some.inj (gNames.symm.trans hg0)
  obtain rfl := Option.some.inj (tNames.symm.trans ht0)
  obtain ⟨xs, m1, rfl, hx1, hlen, hn6, hel⟩ := DataW.trod_array (n := 6) (e := 9) (by kernel_rfl) hd0
  have c1 : Tryz.prog.cellsOf 9 = 1 := by kernel_rfl
  have c6 : Tryz.prog.cellsOf 65 = 6 := by kernel_rfl
  rw [c6] at hlen
  rw [c1] at hel
  obtain ⟨x0, x1, x2, x3, x4, x5, rfl⟩ := six hn6
  obtain ⟨l0, l1, l2, l3, l4, l5, e⟩ := six hlen
  have hcell := World.var?_cell hg0 hv0
  simp only [Prod.mk.injEq, Rows.laid_tympan_lint_names, DataW.agg.injEq, List.map_cons, List.map_nil, List.cons.injEq] at hx1
  obtain ⟨⟨y0, y1, y2, y3, y4, y5, -⟩, -⟩ := hx1
  have one : ∀ (i : Nat) (x : DataW Unit × List MemPlace) (c : Value) (a : Array UInt8), i < 6 → [x0, x1, x2, x3, x4, x5][i]? = some x → (cs0.toList.drop (i * 1)).take 1 = [c] → x.1 = .lit (.string a.toList) → c = .string ⟨a⟩ := by
    intro i x c a hi hx hc he
    have := hel i hi
    rw [hx, hc] at this
    obtain ⟨s, e1, e2, -⟩ := DataW.trod_string (by kernel_rfl) this
    rw [e2] at he
    simp only [List.cons.injEq, and_true] at e1
    have hb : s.data.toList = a.toList := by simpa using he
    have hs : s = ⟨a⟩ := bytes_eq hb
    rw [e1, hs]
  have d0 := one 0 x0 l0 #[110, 111, 110, 101] (by decide) rfl (by rw [e]; rfl) y0.symm
  have d1 := one 1 x1 l1 #[116, 97, 108, 108] (by decide) rfl (by rw [e]; rfl) y1.symm
  have d2 := one 2 x2 l2 #[108, 111, 110, 103] (by decide) rfl (by rw [e]; rfl) y2.symm
  have d3 := one 3 x3 l3 #[115, 116, 117, 99, 107] (by decide) rfl (by rw [e]; rfl) y3.symm
  have d4 := one 4 x4 l4 #[108, 111, 115, 116] (by decide) rfl (by rw [e]; rfl) y4.symm
  have d5 := one 5 x5 l5 #[105, 100, 108, 101] (by decide) rfl (by rw [e]; rfl) y5.symm
  intro i hi
  have hc := hcell i
  have hcs : cs0[i]? = [l0, l1, l2, l3, l4, l5][i]? := by rw [← e]; simp
  match i, hi with
  | 0, _ => rw [hc, hcs, d0]; rfl
  | 1, _ => rw [hc, hcs, d1]; rfl
  | 2, _ => rw [hc, hcs, d2]; rfl
  | 3, _ => rw [hc, hcs, d3]; rfl
  | 4, _ => rw [hc, hcs, d4]; rfl
  | 5, _ => rw [hc, hcs, d5]; rfl
theorem known_of_laid {W : World} (h : laidMetH Tryz.prog laidN W) (G : Gh) (hG : (Gh0 Tryz.prog W).Le G) : namesX G := fun i hi => hG.I _ _ _ (cells_of_laid h i hi)
end Go.Proofs.YtfjgcfloallohaaGreatDoor
