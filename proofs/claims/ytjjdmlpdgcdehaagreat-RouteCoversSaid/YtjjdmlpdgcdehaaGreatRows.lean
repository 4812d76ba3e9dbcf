/-
  No cell of these rows narrows 'for every input' (looked for: loops, veiled, ifaces, maps, wideKeys, modest, calm, conditions, laid).
  DERIVED. THE GIVEN ROWS OF THIS SEAT. 8 by the template 'for every input the law returns true; each argument reads behind the call as it read before'; 0 by the template 'total and deterministic' (their statements: YtjjdmlpdgcdehaaGreatTotals.lean).
  GIVEN WITH THE SEED: the statements are not yours to turn. If you find one false, say at which input.
  Laid BY PROGRAM, IN A SANDBOX (cutbox-rows.mjs): the forced cells as the released guide's own fill.sh prints them over the translation b6aca074e38dbc77… (all of the seat's roots in one cut). By AI agents, Wed Nov 11 2026. No macro, syntax, notation, axiom, sorry.
-/
import Derived.Test.YtjjdmlpdgcdehaaGreatChecked
import GoSem.Claim
import GoSem.ClaimJoined
import GoSem.ClaimMapViews
import Derived.JoinedTies
import Derived.KernelRfl
namespace Go.Proofs.YtjjdmlpdgcdehaaGreat
/- THE CELL 'sum', in the pinned program and in every row, IS THE sha256 OF THE DUMP (.gsa) THAT YtjjdmlpdgcdehaaGreatProg.lean LOADS. Nothing in Lean hashes anything: it is a label: what it is worth is what the hold of that sum in a sandbox is worth. -/
noncomputable def Tryz.pinned : Pinned := { name := "ytjjdmlpdgcdehaagreat", sum := "b6aca074e38dbc77135df4da98e5787a7936446cb0591a384c1975fd945e31d5", checked := Tryz.checked }
namespace Rows
def none {H : Type} : Left H := { results := [], args := [] }

/-- 'tympanlaw30.RouteCovers': WHATEVER THE INPUT: true; the input reads as it did. -/
def routeCoversSpec : ChangeSpec := { name := "routeCovers", fn := fun _ => fun
  | [d1, d2, d3] => { results := [.lit (.bool true)], args := [d1, d2, d3] }
  | _ => none }
def routeCoversRow : OpenClaim := { program := "ytjjdmlpdgcdehaagreat", sum := "b6aca074e38dbc77135df4da98e5787a7936446cb0591a384c1975fd945e31d5", func := "tympan/tympanlaw30.RouteCovers", spec := "routeCovers", unfollowed := true, recurses := true, apart := false }
def RouteCoversSaid : Prop := routeCoversRow.holds Tryz.pinned (OpenSpec.ofChange routeCoversSpec)

/-- ITS FALSE NEIGHBOUR: 'it returns false'. Refute it at one input. -/
def routeCoversWrong : ChangeSpec := { name := "routeCovers", fn := fun _ => fun
  | [d1, d2, d3] => { results := [.lit (.bool false)], args := [d1, d2, d3] }
  | _ => none }
def RouteCoversWrongFalsely : Prop := routeCoversRow.holds Tryz.pinned (OpenSpec.ofChange routeCoversWrong)

/-- 'tympanlaw31.WitnessTells': WHATEVER THE INPUT: true; the input reads as it did. -/
def witnessTellsSpec : ChangeSpec := { name := "witnessTells", fn := fun _ => fun
  | [d1, d2] => { results := [.lit (.bool true)], args := [d1, d2] }
  | _ => none }
def witnessTellsRow : OpenClaim := { program := "ytjjdmlpdgcdehaagreat", sum := "b6aca074e38dbc77135df4da98e5787a7936446cb0591a384c1975fd945e31d5", func := "tympan/tympanlaw31.WitnessTells", spec := "witnessTells", unfollowed := true, recurses := true, apart := false }
def WitnessTellsSaid : Prop := witnessTellsRow.holds Tryz.pinned (OpenSpec.ofChange witnessTellsSpec)

/-- ITS FALSE NEIGHBOUR: 'it returns false'. Refute it at one input. -/
def witnessTellsWrong : ChangeSpec := { name := "witnessTells", fn := fun _ => fun
  | [d1, d2] => { results := [.lit (.bool false)], args := [d1, d2] }
  | _ => none }
def WitnessTellsWrongFalsely : Prop := witnessTellsRow.holds Tryz.pinned (OpenSpec.ofChange witnessTellsWrong)

/-- 'tympanlaw31.WitnessIs': WHATEVER THE INPUT: true; the input reads as it did. -/
def witnessIsSpec : ChangeSpec := { name := "witnessIs", fn := fun _ => fun
  | [d] => { results := [.lit (.bool true)], args := [d] }
  | _ => none }
def witnessIsRow : OpenClaim := { program := "ytjjdmlpdgcdehaagreat", sum := "b6aca074e38dbc77135df4da98e5787a7936446cb0591a384c1975fd945e31d5", func := "tympan/tympanlaw31.WitnessIs", spec := "witnessIs", unfollowed := true, recurses := true, apart := false }
def WitnessIsSaid : Prop := witnessIsRow.holds Tryz.pinned (OpenSpec.ofChange witnessIsSpec)

/-- ITS FALSE NEIGHBOUR: 'it returns false'. Refute it at one input. -/
def witnessIsWrong : ChangeSpec := { name := "witnessIs", fn := fun _ => fun
  | [d] => { results := [.lit (.bool false)], args := [d] }
  | _ => none }
def WitnessIsWrongFalsely : Prop := witnessIsRow.holds Tryz.pinned (OpenSpec.ofChange witnessIsWrong)

/-- 'tympanlaw31.WitnessBound': WHATEVER THE INPUT: true; the input reads as it did. -/
def witnessBoundSpec : ChangeSpec := { name := "witnessBound", fn := fun _ => fun
  | [d1, d2] => { results := [.lit (.bool true)], args := [d1, d2] }
  | _ => none }
def witnessBoundRow : OpenClaim := { program := "ytjjdmlpdgcdehaagreat", sum := "b6aca074e38dbc77135df4da98e5787a7936446cb0591a384c1975fd945e31d5", func := "tympan/tympanlaw31.WitnessBound", spec := "witnessBound", unfollowed := true, recurses := true, apart := false }
def WitnessBoundSaid : Prop := witnessBoundRow.holds Tryz.pinned (OpenSpec.ofChange witnessBoundSpec)

/-- ITS FALSE NEIGHBOUR: 'it returns false'. Refute it at one input. -/
def witnessBoundWrong : ChangeSpec := { name := "witnessBound", fn := fun _ => fun
  | [d1, d2] => { results := [.lit (.bool false)], args := [d1, d2] }
  | _ => none }
def WitnessBoundWrongFalsely : Prop := witnessBoundRow.holds Tryz.pinned (OpenSpec.ofChange witnessBoundWrong)

/-- 'tympanlaw28.LegalTells': WHATEVER THE INPUT: true; the input reads as it did. -/
def legalTellsSpec : ChangeSpec := { name := "legalTells", fn := fun _ => fun
  | [d1, d2, d3] => { results := [.lit (.bool true)], args := [d1, d2, d3] }
  | _ => none }
def legalTellsRow : OpenClaim := { program := "ytjjdmlpdgcdehaagreat", sum := "b6aca074e38dbc77135df4da98e5787a7936446cb0591a384c1975fd945e31d5", func := "tympan/tympanlaw28.LegalTells", spec := "legalTells", unfollowed := true, recurses := true, apart := false }
def LegalTellsSaid : Prop := legalTellsRow.holds Tryz.pinned (OpenSpec.ofChange legalTellsSpec)

/-- ITS FALSE NEIGHBOUR: 'it returns false'. Refute it at one input. -/
def legalTellsWrong : ChangeSpec := { name := "legalTells", fn := fun _ => fun
  | [d1, d2, d3] => { results := [.lit (.bool false)], args := [d1, d2, d3] }
  | _ => none }
def LegalTellsWrongFalsely : Prop := legalTellsRow.holds Tryz.pinned (OpenSpec.ofChange legalTellsWrong)

/-- 'tympanlaw48.TallyAdds': WHATEVER THE INPUT: true; the input reads as it did. -/
def tallyAddsSpec : ChangeSpec := { name := "tallyAdds", fn := fun _ => fun
  | [d1, d2] => { results := [.lit (.bool true)], args := [d1, d2] }
  | _ => none }
def tallyAddsRow : OpenClaim := { program := "ytjjdmlpdgcdehaagreat", sum := "b6aca074e38dbc77135df4da98e5787a7936446cb0591a384c1975fd945e31d5", func := "tympan/tympanlaw48.TallyAdds", spec := "tallyAdds", unfollowed := true, recurses := true, apart := false }
def TallyAddsSaid : Prop := tallyAddsRow.holds Tryz.pinned (OpenSpec.ofChange tallyAddsSpec)

/-- ITS FALSE NEIGHBOUR: 'it returns false'. Refute it at one input. -/
def tallyAddsWrong : ChangeSpec := { name := "tallyAdds", fn := fun _ => fun
  | [d1, d2] => { results := [.lit (.bool false)], args := [d1, d2] }
  | _ => none }
def TallyAddsWrongFalsely : Prop := tallyAddsRow.holds Tryz.pinned (OpenSpec.ofChange tallyAddsWrong)

/-- 'tympanlaw47.BillTells': WHATEVER THE INPUT: true; the input reads as it did. -/
def billTellsSpec : ChangeSpec := { name := "billTells", fn := fun _ => fun
  | [d1, d2, d3] => { results := [.lit (.bool true)], args := [d1, d2, d3] }
  | _ => none }
def billTellsRow : OpenClaim := { program := "ytjjdmlpdgcdehaagreat", sum := "b6aca074e38dbc77135df4da98e5787a7936446cb0591a384c1975fd945e31d5", func := "tympan/tympanlaw47.BillTells", spec := "billTells", unfollowed := true, recurses := true, apart := false }
def BillTellsSaid : Prop := billTellsRow.holds Tryz.pinned (OpenSpec.ofChange billTellsSpec)

/-- ITS FALSE NEIGHBOUR: 'it returns false'. Refute it at one input. -/
def billTellsWrong : ChangeSpec := { name := "billTells", fn := fun _ => fun
  | [d1, d2, d3] => { results := [.lit (.bool false)], args := [d1, d2, d3] }
  | _ => none }
def BillTellsWrongFalsely : Prop := billTellsRow.holds Tryz.pinned (OpenSpec.ofChange billTellsWrong)

/-- 'tympanlaw47.BillSums': WHATEVER THE INPUT: true; the input reads as it did. -/
def billSumsSpec : ChangeSpec := { name := "billSums", fn := fun _ => fun
  | [d] => { results := [.lit (.bool true)], args := [d] }
  | _ => none }
def billSumsRow : OpenClaim := { program := "ytjjdmlpdgcdehaagreat", sum := "b6aca074e38dbc77135df4da98e5787a7936446cb0591a384c1975fd945e31d5", func := "tympan/tympanlaw47.BillSums", spec := "billSums", unfollowed := true, recurses := true, apart := false }
def BillSumsSaid : Prop := billSumsRow.holds Tryz.pinned (OpenSpec.ofChange billSumsSpec)

/-- ITS FALSE NEIGHBOUR: 'it returns false'. Refute it at one input. -/
def billSumsWrong : ChangeSpec := { name := "billSums", fn := fun _ => fun
  | [d] => { results := [.lit (.bool false)], args := [d] }
  | _ => none }
def BillSumsWrongFalsely : Prop := billSumsRow.holds Tryz.pinned (OpenSpec.ofChange billSumsWrong)

/- THE SECOND FORM. 'bulk': how many values and letters a reading holds, each counted each time it is reached (what is shared counts as often as it is met; a slice's spare places count too). A statement '..UptoSaid' is the law's where the arguments, and the package variables that the reading takes, are together of bulk at most 1048576: NARROWER than '..Said'. Prove '..Said' where nothing that the law and all that it calls make is longer than what came in: it says more and counts as full. Else prove '..UptoSaid'. A law counts once. -/
mutual
def uptoBulk {H : Type} : DataW H → Nat
  | .lit (.string bytes) => bytes.length + 1
  | .lit _ => 1
  | .nil => 1
  | .ptr d => uptoBulk d + 1
  | .slice elems spare => uptoBulkAll elems + uptoBulkAll spare + 1
  | .agg parts => uptoBulkAll parts + 1
  | .iface _ d => uptoBulk d + 1
  | .map entries => uptoBulkEntries entries + 1
  | .held _ => 1
def uptoBulkAll {H : Type} : List (DataW H) → Nat
  | [] => 0
  | d :: r => uptoBulk d + uptoBulkAll r
def uptoBulkEntries {H : Type} : List (Lit × DataW H) → Nat
  | [] => 0
  | x :: r => uptoBulkEntry x + uptoBulkEntries r
def uptoBulkEntry {H : Type} : Lit × DataW H → Nat
  | (.string bytes, d) => bytes.length + uptoBulk d + 1
  | (_, d) => uptoBulk d + 1
 end
def uptoSmall : (H : Type) → List (DataW H) → Bool := fun _ ds => decide (uptoBulkAll ds ≤ 1048576)
def OpenSpec.upto (s : _root_.Go.ChangeSpec) : _root_.Go.OpenSpec := { _root_.Go.OpenSpec.ofChange s with cond := some uptoSmall }

/-- 'tympanlaw30.RouteCovers', WHERE WHAT IT READS IS OF BULK AT MOST 1048576: true; the input reads as it did. -/
def routeCoversUptoRow : OpenClaim := { program := "ytjjdmlpdgcdehaagreat", sum := "b6aca074e38dbc77135df4da98e5787a7936446cb0591a384c1975fd945e31d5", func := "tympan/tympanlaw30.RouteCovers", spec := "routeCovers", unfollowed := true, recurses := true, apart := false, narrowed := true }
def RouteCoversUptoSaid : Prop := routeCoversUptoRow.holds Tryz.pinned (OpenSpec.upto routeCoversSpec)

/-- 'tympanlaw31.WitnessTells', WHERE WHAT IT READS IS OF BULK AT MOST 1048576: true; the input reads as it did. -/
def witnessTellsUptoRow : OpenClaim := { program := "ytjjdmlpdgcdehaagreat", sum := "b6aca074e38dbc77135df4da98e5787a7936446cb0591a384c1975fd945e31d5", func := "tympan/tympanlaw31.WitnessTells", spec := "witnessTells", unfollowed := true, recurses := true, apart := false, narrowed := true }
def WitnessTellsUptoSaid : Prop := witnessTellsUptoRow.holds Tryz.pinned (OpenSpec.upto witnessTellsSpec)

/-- 'tympanlaw31.WitnessIs', WHERE WHAT IT READS IS OF BULK AT MOST 1048576: true; the input reads as it did. -/
def witnessIsUptoRow : OpenClaim := { program := "ytjjdmlpdgcdehaagreat", sum := "b6aca074e38dbc77135df4da98e5787a7936446cb0591a384c1975fd945e31d5", func := "tympan/tympanlaw31.WitnessIs", spec := "witnessIs", unfollowed := true, recurses := true, apart := false, narrowed := true }
def WitnessIsUptoSaid : Prop := witnessIsUptoRow.holds Tryz.pinned (OpenSpec.upto witnessIsSpec)

/-- 'tympanlaw31.WitnessBound', WHERE WHAT IT READS IS OF BULK AT MOST 1048576: true; the input reads as it did. -/
def witnessBoundUptoRow : OpenClaim := { program := "ytjjdmlpdgcdehaagreat", sum := "b6aca074e38dbc77135df4da98e5787a7936446cb0591a384c1975fd945e31d5", func := "tympan/tympanlaw31.WitnessBound", spec := "witnessBound", unfollowed := true, recurses := true, apart := false, narrowed := true }
def WitnessBoundUptoSaid : Prop := witnessBoundUptoRow.holds Tryz.pinned (OpenSpec.upto witnessBoundSpec)

/-- 'tympanlaw28.LegalTells', WHERE WHAT IT READS IS OF BULK AT MOST 1048576: true; the input reads as it did. -/
def legalTellsUptoRow : OpenClaim := { program := "ytjjdmlpdgcdehaagreat", sum := "b6aca074e38dbc77135df4da98e5787a7936446cb0591a384c1975fd945e31d5", func := "tympan/tympanlaw28.LegalTells", spec := "legalTells", unfollowed := true, recurses := true, apart := false, narrowed := true }
def LegalTellsUptoSaid : Prop := legalTellsUptoRow.holds Tryz.pinned (OpenSpec.upto legalTellsSpec)

/-- 'tympanlaw48.TallyAdds', WHERE WHAT IT READS IS OF BULK AT MOST 1048576: true; the input reads as it did. -/
def tallyAddsUptoRow : OpenClaim := { program := "ytjjdmlpdgcdehaagreat", sum := "b6aca074e38dbc77135df4da98e5787a7936446cb0591a384c1975fd945e31d5", func := "tympan/tympanlaw48.TallyAdds", spec := "tallyAdds", unfollowed := true, recurses := true, apart := false, narrowed := true }
def TallyAddsUptoSaid : Prop := tallyAddsUptoRow.holds Tryz.pinned (OpenSpec.upto tallyAddsSpec)

/-- 'tympanlaw47.BillTells', WHERE WHAT IT READS IS OF BULK AT MOST 1048576: true; the input reads as it did. -/
def billTellsUptoRow : OpenClaim := { program := "ytjjdmlpdgcdehaagreat", sum := "b6aca074e38dbc77135df4da98e5787a7936446cb0591a384c1975fd945e31d5", func := "tympan/tympanlaw47.BillTells", spec := "billTells", unfollowed := true, recurses := true, apart := false, narrowed := true }
def BillTellsUptoSaid : Prop := billTellsUptoRow.holds Tryz.pinned (OpenSpec.upto billTellsSpec)

/-- 'tympanlaw47.BillSums', WHERE WHAT IT READS IS OF BULK AT MOST 1048576: true; the input reads as it did. -/
def billSumsUptoRow : OpenClaim := { program := "ytjjdmlpdgcdehaagreat", sum := "b6aca074e38dbc77135df4da98e5787a7936446cb0591a384c1975fd945e31d5", func := "tympan/tympanlaw47.BillSums", spec := "billSums", unfollowed := true, recurses := true, apart := false, narrowed := true }
def BillSumsUptoSaid : Prop := billSumsUptoRow.holds Tryz.pinned (OpenSpec.upto billSumsSpec)

end Rows
end Go.Proofs.YtjjdmlpdgcdehaaGreat
