/- The names of the kinds of warnings: a table that is a package's variable. -/
import Derived.Test.YtfjgcfloallohaaGreatDoorProg
import Derived.Tactics
import Derived.Tactics2
import Derived.StillTactics
import Derived.Laws.Pointers
import Derived.RegionTactic
import Derived.LoopTactic
import Derived.ChangeAlike
import Derived.KernelRfl
import Derived.Test.YtfjgcfloallohaaGreatDoorEngAll7
import Derived.Test.YtfjgcfloallohaaGreatDoorEngAll2
namespace Go.Proofs.YtfjgcfloallohaaGreatDoor
open Go Go.Eng
theorem name_lo (n : Int) (h : n < 0) (w : World) : Calls Tryz.prog 11 #[.int .i64 n] w fun e w' => e = .returned (.string ⟨#[]⟩) ∧ w' = w := by
  go_enter Tryz.func11, Tryz.ntmps11
  go_wp2
  go_ret
  exact ⟨rfl, rfl⟩
theorem name_hi (n : Int) (h0 : ¬ n < 0) (h : 5 < n) (w : World) : Calls Tryz.prog 11 #[.int .i64 n] w fun e w' => e = .returned (.string ⟨#[]⟩) ∧ w' = w := by
  go_enter Tryz.func11, Tryz.ntmps11
  go_wp2
  go_ret
  exact ⟨rfl, rfl⟩
theorem name_at (i : Nat) (hi : i < 6) (w : World) (hc : w.cell? ⟨0, i, none⟩ = some (.string (nmS i))) : Calls Tryz.prog 11 #[.int .i64 i] w fun e w' => e = .returned (.string (nmS i)) ∧ w' = w := by
  generalize nmS i = s at *
  match i, hi with
  | 0, _ | 1, _ | 2, _ | 3, _ | 4, _ | 5, _ =>
    go_enter Tryz.func11, Tryz.ntmps11
    go_wp2
    go_ret
    exact ⟨rfl, rfl⟩
theorem name_calls (n : Int) (w : World) (hc : ∀ i, i < 6 → w.cell? ⟨0, i, none⟩ = some (.string (nmS i))) : Calls Tryz.prog 11 #[.int .i64 n] w fun e w' => e = .returned (.string (nmS n)) ∧ w' = w := by
  by_cases h0 : n < 0
  · have e : nmS n = ⟨#[]⟩ := by unfold nmS; rw [if_neg (by omega), if_neg (by omega), if_neg (by omega), if_neg (by omega), if_neg (by omega), if_neg (by omega)]
    rw [e]; exact name_lo n h0 w
  by_cases h5 : 5 < n
  · have e : nmS n = ⟨#[]⟩ := by unfold nmS; rw [if_neg (by omega), if_neg (by omega), if_neg (by omega), if_neg (by omega), if_neg (by omega), if_neg (by omega)]
    rw [e]; exact name_hi n h0 h5 w
  obtain ⟨i, rfl⟩ : ∃ i : Nat, n = i := ⟨n.toNat, by omega⟩
  exact name_at i (by omega) w (hc i (by omega))

/-- What is known for good: the table's cells. -/
def namesX (G : Gh) : Prop := ∀ i : Nat, i < 6 → G.I 0 i (.string (nmS i))
theorem name_prim {vs : List V} {H : Heap} {r : CR} (h : nameP vs H = some r) {G : Gh} {own : Own} {w : World} {args : Array Value} (hX : namesX G)
    (ha : args.size = vs.length) (hr : ∀ j (hj : j < vs.length), VRep G (args.getD j undef) (vs[j])) (hw : WOK G own H (fun _ => none) [] w) :
    (∀ xs w1, (callFunc 11 xs).run Tryz.prog w1 = .ok (.enter 11 xs) w1) ∧ CallR Tryz.prog w G own H r 11 args := by
  refine ⟨fun xs w1 => run_callFunc_fn Tryz.func11 rfl rfl xs w1, fun m => ?_⟩
  unfold nameP at h
  split at h
  · rename_i n
    cases h
    obtain ⟨v, rfl, hv⟩ := args1 ha hr
    cases hv with
    | p hp => cases hp with
      | int k n =>
        refine callsIn_wide.2 (Calls.mono (name_calls n w (fun i hi => hw.imm _ _ _ (hX i hi))) ?_)
        rintro e w' ⟨rfl, rfl⟩
        exact ⟨_, rfl, fun _ _ _ => rfl, G, own, .refl .., .p (.str _), hw⟩
  · cases h
end Go.Proofs.YtfjgcfloallohaaGreatDoor
