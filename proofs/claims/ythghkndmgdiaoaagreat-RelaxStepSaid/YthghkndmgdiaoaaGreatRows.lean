/-
  No cell of these rows narrows 'for every input' (looked for: loops, veiled, ifaces, maps, wideKeys, modest, calm, conditions, laid).
  DERIVED. THE GIVEN ROWS OF THIS SEAT. 6 by the template 'for every input the law returns true; each argument reads behind the call as it read before'; 0 by the template 'total and deterministic' (their statements: YthghkndmgdiaoaaGreatTotals.lean).
  GIVEN WITH THE SEED: the statements are not yours to turn. If you find one false, say at which input.
  Laid BY PROGRAM, IN A SANDBOX (cutbox-rows.mjs): the forced cells as the released guide's own fill.sh prints them over the translation caedcf2f0318ea75… (all of the seat's roots in one cut). By AI agents, Wed Nov 11 2026. No macro, syntax, notation, axiom, sorry.
-/
import Derived.Test.YthghkndmgdiaoaaGreatChecked
import GoSem.Claim
import GoSem.ClaimJoined
import GoSem.ClaimMapViews
import Derived.JoinedTies
import Derived.KernelRfl
namespace Go.Proofs.YthghkndmgdiaoaaGreat
/- THE CELL 'sum', in the pinned program and in every row, IS THE sha256 OF THE DUMP (.gsa) THAT YthghkndmgdiaoaaGreatProg.lean LOADS. Nothing in Lean hashes anything: it is a label: what it is worth is what the hold of that sum in a sandbox is worth. -/
noncomputable def Tryz.pinned : Pinned := { name := "ythghkndmgdiaoaagreat", sum := "caedcf2f0318ea7587dcfad99adc5bbb02f9cde3b8595677080ee3d2b9566780", checked := Tryz.checked }
namespace Rows
def none {H : Type} : Left H := { results := [], args := [] }

/-- 'tympanlaw29.OptionAll': WHATEVER THE INPUT: true; the input reads as it did. -/
def optionAllSpec : ChangeSpec := { name := "optionAll", fn := fun _ => fun
  | [d1, d2] => { results := [.lit (.bool true)], args := [d1, d2] }
  | _ => none }
def optionAllRow : OpenClaim := { program := "ythghkndmgdiaoaagreat", sum := "caedcf2f0318ea7587dcfad99adc5bbb02f9cde3b8595677080ee3d2b9566780", func := "tympan/tympanlaw29.OptionAll", spec := "optionAll", unfollowed := true, recurses := true, apart := false }
def OptionAllSaid : Prop := optionAllRow.holds Tryz.pinned (OpenSpec.ofChange optionAllSpec)

/-- ITS FALSE NEIGHBOUR: 'it returns false'. Refute it at one input. -/
def optionAllWrong : ChangeSpec := { name := "optionAll", fn := fun _ => fun
  | [d1, d2] => { results := [.lit (.bool false)], args := [d1, d2] }
  | _ => none }
def OptionAllWrongFalsely : Prop := optionAllRow.holds Tryz.pinned (OpenSpec.ofChange optionAllWrong)

/-- 'tympanlaw29.OptionOrder': WHATEVER THE INPUT: true; the input reads as it did. -/
def optionOrderSpec : ChangeSpec := { name := "optionOrder", fn := fun _ => fun
  | [d1, d2, d3] => { results := [.lit (.bool true)], args := [d1, d2, d3] }
  | _ => none }
def optionOrderRow : OpenClaim := { program := "ythghkndmgdiaoaagreat", sum := "caedcf2f0318ea7587dcfad99adc5bbb02f9cde3b8595677080ee3d2b9566780", func := "tympan/tympanlaw29.OptionOrder", spec := "optionOrder", unfollowed := true, recurses := true, apart := false }
def OptionOrderSaid : Prop := optionOrderRow.holds Tryz.pinned (OpenSpec.ofChange optionOrderSpec)

/-- ITS FALSE NEIGHBOUR: 'it returns false'. Refute it at one input. -/
def optionOrderWrong : ChangeSpec := { name := "optionOrder", fn := fun _ => fun
  | [d1, d2, d3] => { results := [.lit (.bool false)], args := [d1, d2, d3] }
  | _ => none }
def OptionOrderWrongFalsely : Prop := optionOrderRow.holds Tryz.pinned (OpenSpec.ofChange optionOrderWrong)

/-- 'tympanlaw45.RelaxStep': WHATEVER THE INPUT: true; the input reads as it did. -/
def relaxStepSpec : ChangeSpec := { name := "relaxStep", fn := fun _ => fun
  | [d1, d2] => { results := [.lit (.bool true)], args := [d1, d2] }
  | _ => none }
def relaxStepRow : OpenClaim := { program := "ythghkndmgdiaoaagreat", sum := "caedcf2f0318ea7587dcfad99adc5bbb02f9cde3b8595677080ee3d2b9566780", func := "tympan/tympanlaw45.RelaxStep", spec := "relaxStep", unfollowed := true, recurses := true, apart := false }
def RelaxStepSaid : Prop := relaxStepRow.holds Tryz.pinned (OpenSpec.ofChange relaxStepSpec)

/-- ITS FALSE NEIGHBOUR: 'it returns false'. Refute it at one input. -/
def relaxStepWrong : ChangeSpec := { name := "relaxStep", fn := fun _ => fun
  | [d1, d2] => { results := [.lit (.bool false)], args := [d1, d2] }
  | _ => none }
def RelaxStepWrongFalsely : Prop := relaxStepRow.holds Tryz.pinned (OpenSpec.ofChange relaxStepWrong)

/-- 'tympanlaw48.TallyTells': WHATEVER THE INPUT: true; the input reads as it did. -/
def tallyTellsSpec : ChangeSpec := { name := "tallyTells", fn := fun _ => fun
  | [d1, d2] => { results := [.lit (.bool true)], args := [d1, d2] }
  | _ => none }
def tallyTellsRow : OpenClaim := { program := "ythghkndmgdiaoaagreat", sum := "caedcf2f0318ea7587dcfad99adc5bbb02f9cde3b8595677080ee3d2b9566780", func := "tympan/tympanlaw48.TallyTells", spec := "tallyTells", unfollowed := true, recurses := true, apart := false }
def TallyTellsSaid : Prop := tallyTellsRow.holds Tryz.pinned (OpenSpec.ofChange tallyTellsSpec)

/-- ITS FALSE NEIGHBOUR: 'it returns false'. Refute it at one input. -/
def tallyTellsWrong : ChangeSpec := { name := "tallyTells", fn := fun _ => fun
  | [d1, d2] => { results := [.lit (.bool false)], args := [d1, d2] }
  | _ => none }
def TallyTellsWrongFalsely : Prop := tallyTellsRow.holds Tryz.pinned (OpenSpec.ofChange tallyTellsWrong)

/-- 'tympanlaw48.TallyWhole': WHATEVER THE INPUT: true; the input reads as it did. -/
def tallyWholeSpec : ChangeSpec := { name := "tallyWhole", fn := fun _ => fun
  | [d1, d2] => { results := [.lit (.bool true)], args := [d1, d2] }
  | _ => none }
def tallyWholeRow : OpenClaim := { program := "ythghkndmgdiaoaagreat", sum := "caedcf2f0318ea7587dcfad99adc5bbb02f9cde3b8595677080ee3d2b9566780", func := "tympan/tympanlaw48.TallyWhole", spec := "tallyWhole", unfollowed := true, recurses := true, apart := false }
def TallyWholeSaid : Prop := tallyWholeRow.holds Tryz.pinned (OpenSpec.ofChange tallyWholeSpec)

/-- ITS FALSE NEIGHBOUR: 'it returns false'. Refute it at one input. -/
def tallyWholeWrong : ChangeSpec := { name := "tallyWhole", fn := fun _ => fun
  | [d1, d2] => { results := [.lit (.bool false)], args := [d1, d2] }
  | _ => none }
def TallyWholeWrongFalsely : Prop := tallyWholeRow.holds Tryz.pinned (OpenSpec.ofChange tallyWholeWrong)

/-- 'tympanlaw47.BillAdds': WHATEVER THE INPUT: true; the input reads as it did. -/
def billAddsSpec : ChangeSpec := { name := "billAdds", fn := fun _ => fun
  | [d1, d2] => { results := [.lit (.bool true)], args := [d1, d2] }
  | _ => none }
def billAddsRow : OpenClaim := { program := "ythghkndmgdiaoaagreat", sum := "caedcf2f0318ea7587dcfad99adc5bbb02f9cde3b8595677080ee3d2b9566780", func := "tympan/tympanlaw47.BillAdds", spec := "billAdds", unfollowed := true, recurses := true, apart := false }
def BillAddsSaid : Prop := billAddsRow.holds Tryz.pinned (OpenSpec.ofChange billAddsSpec)

/-- ITS FALSE NEIGHBOUR: 'it returns false'. Refute it at one input. -/
def billAddsWrong : ChangeSpec := { name := "billAdds", fn := fun _ => fun
  | [d1, d2] => { results := [.lit (.bool false)], args := [d1, d2] }
  | _ => none }
def BillAddsWrongFalsely : Prop := billAddsRow.holds Tryz.pinned (OpenSpec.ofChange billAddsWrong)

/- THE SECOND FORM. 'bulk': how many values and letters a reading holds, each counted each time it is reached (what is shared counts as often as it is met; a slice's spare places count too). A statement '..UptoSaid' is the law's where the arguments, and the package variables that the reading takes, are together of bulk at most 1048576: NARROWER than '..Said'. Prove '..Said' where nothing that the law and all that it calls make is longer than what came in: it says more and counts as full. Else prove '..UptoSaid'. A law counts once. -/
mutual
def uptoBulk {H : Type} : DataW H → Nat
  | .lit (.string bytes) => bytes.length + 1
  | .lit _ => 1
  | .nil => 1
  | .ptr d => uptoBulk d + 1
  | .slice elems spare => uptoBulkAll elems + uptoBulkAll spare + 1
  | .agg parts => uptoBulkAll parts + 1
  | .iface _ d => uptoBulk d + 1
  | .map entries => uptoBulkEntries entries + 1
  | .held _ => 1
def uptoBulkAll {H : Type} : List (DataW H) → Nat
  | [] => 0
  | d :: r => uptoBulk d + uptoBulkAll r
def uptoBulkEntries {H : Type} : List (Lit × DataW H) → Nat
  | [] => 0
  | x :: r => uptoBulkEntry x + uptoBulkEntries r
def uptoBulkEntry {H : Type} : Lit × DataW H → Nat
  | (.string bytes, d) => bytes.length + uptoBulk d + 1
  | (_, d) => uptoBulk d + 1
 end
def uptoSmall : (H : Type) → List (DataW H) → Bool := fun _ ds => decide (uptoBulkAll ds ≤ 1048576)
def OpenSpec.upto (s : _root_.Go.ChangeSpec) : _root_.Go.OpenSpec := { _root_.Go.OpenSpec.ofChange s with cond := some uptoSmall }

/-- 'tympanlaw29.OptionAll', WHERE WHAT IT READS IS OF BULK AT MOST 1048576: true; the input reads as it did. -/
def optionAllUptoRow : OpenClaim := { program := "ythghkndmgdiaoaagreat", sum := "caedcf2f0318ea7587dcfad99adc5bbb02f9cde3b8595677080ee3d2b9566780", func := "tympan/tympanlaw29.OptionAll", spec := "optionAll", unfollowed := true, recurses := true, apart := false, narrowed := true }
def OptionAllUptoSaid : Prop := optionAllUptoRow.holds Tryz.pinned (OpenSpec.upto optionAllSpec)

/-- 'tympanlaw29.OptionOrder', WHERE WHAT IT READS IS OF BULK AT MOST 1048576: true; the input reads as it did. -/
def optionOrderUptoRow : OpenClaim := { program := "ythghkndmgdiaoaagreat", sum := "caedcf2f0318ea7587dcfad99adc5bbb02f9cde3b8595677080ee3d2b9566780", func := "tympan/tympanlaw29.OptionOrder", spec := "optionOrder", unfollowed := true, recurses := true, apart := false, narrowed := true }
def OptionOrderUptoSaid : Prop := optionOrderUptoRow.holds Tryz.pinned (OpenSpec.upto optionOrderSpec)

/-- 'tympanlaw45.RelaxStep', WHERE WHAT IT READS IS OF BULK AT MOST 1048576: true; the input reads as it did. -/
def relaxStepUptoRow : OpenClaim := { program := "ythghkndmgdiaoaagreat", sum := "caedcf2f0318ea7587dcfad99adc5bbb02f9cde3b8595677080ee3d2b9566780", func := "tympan/tympanlaw45.RelaxStep", spec := "relaxStep", unfollowed := true, recurses := true, apart := false, narrowed := true }
def RelaxStepUptoSaid : Prop := relaxStepUptoRow.holds Tryz.pinned (OpenSpec.upto relaxStepSpec)

/-- 'tympanlaw48.TallyTells', WHERE WHAT IT READS IS OF BULK AT MOST 1048576: true; the input reads as it did. -/
def tallyTellsUptoRow : OpenClaim := { program := "ythghkndmgdiaoaagreat", sum := "caedcf2f0318ea7587dcfad99adc5bbb02f9cde3b8595677080ee3d2b9566780", func := "tympan/tympanlaw48.TallyTells", spec := "tallyTells", unfollowed := true, recurses := true, apart := false, narrowed := true }
def TallyTellsUptoSaid : Prop := tallyTellsUptoRow.holds Tryz.pinned (OpenSpec.upto tallyTellsSpec)

/-- 'tympanlaw48.TallyWhole', WHERE WHAT IT READS IS OF BULK AT MOST 1048576: true; the input reads as it did. -/
def tallyWholeUptoRow : OpenClaim := { program := "ythghkndmgdiaoaagreat", sum := "caedcf2f0318ea7587dcfad99adc5bbb02f9cde3b8595677080ee3d2b9566780", func := "tympan/tympanlaw48.TallyWhole", spec := "tallyWhole", unfollowed := true, recurses := true, apart := false, narrowed := true }
def TallyWholeUptoSaid : Prop := tallyWholeUptoRow.holds Tryz.pinned (OpenSpec.upto tallyWholeSpec)

/-- 'tympanlaw47.BillAdds', WHERE WHAT IT READS IS OF BULK AT MOST 1048576: true; the input reads as it did. -/
def billAddsUptoRow : OpenClaim := { program := "ythghkndmgdiaoaagreat", sum := "caedcf2f0318ea7587dcfad99adc5bbb02f9cde3b8595677080ee3d2b9566780", func := "tympan/tympanlaw47.BillAdds", spec := "billAdds", unfollowed := true, recurses := true, apart := false, narrowed := true }
def BillAddsUptoSaid : Prop := billAddsUptoRow.holds Tryz.pinned (OpenSpec.upto billAddsSpec)

end Rows
end Go.Proofs.YthghkndmgdiaoaaGreat
