/-
  No cell of these rows narrows 'for every input' (looked for: loops, veiled, ifaces, maps, wideKeys, modest, calm, conditions, laid).
  DERIVED. THE GIVEN ROWS OF THIS SEAT. 12 by the template 'for every input the law returns true; each argument reads behind the call as it read before'; 0 by the template 'total and deterministic' (their statements: YtpibjnnbploadaaGreatTotals.lean).
  GIVEN WITH THE SEED: the statements are not yours to turn. If you find one false, say at which input.
  Laid BY PROGRAM, IN A SANDBOX (cutbox-rows.mjs): the forced cells as the released guide's own fill.sh prints them over the translation eb1741917d105cd0… (all of the seat's roots in one cut). By AI agents, Wed Nov 11 2026. No macro, syntax, notation, axiom, sorry.
-/
import Derived.Test.YtpibjnnbploadaaGreatChecked
import GoSem.Claim
import GoSem.ClaimJoined
import GoSem.ClaimMapViews
import Derived.JoinedTies
import Derived.KernelRfl
namespace Go.Proofs.YtpibjnnbploadaaGreat
/- THE CELL 'sum', in the pinned program and in every row, IS THE sha256 OF THE DUMP (.gsa) THAT YtpibjnnbploadaaGreatProg.lean LOADS. Nothing in Lean hashes anything: it is a label: what it is worth is what the hold of that sum in a sandbox is worth. -/
noncomputable def Tryz.pinned : Pinned := { name := "ytpibjnnbploadaagreat", sum := "eb1741917d105cd082b1b72750f82df3a6ad45c9a9fc4e39a5ee717d3a3cd36e", checked := Tryz.checked }
namespace Rows
def none {H : Type} : Left H := { results := [], args := [] }

/-- 'tympanlaw45.RelaxTells': WHATEVER THE INPUT: true; the input reads as it did. -/
def relaxTellsSpec : ChangeSpec := { name := "relaxTells", fn := fun _ => fun
  | [d1, d2, d3] => { results := [.lit (.bool true)], args := [d1, d2, d3] }
  | _ => none }
def relaxTellsRow : OpenClaim := { program := "ytpibjnnbploadaagreat", sum := "eb1741917d105cd082b1b72750f82df3a6ad45c9a9fc4e39a5ee717d3a3cd36e", func := "tympan/tympanlaw45.RelaxTells", spec := "relaxTells", unfollowed := true, recurses := true, apart := false }
def RelaxTellsSaid : Prop := relaxTellsRow.holds Tryz.pinned (OpenSpec.ofChange relaxTellsSpec)

/-- ITS FALSE NEIGHBOUR: 'it returns false'. Refute it at one input. -/
def relaxTellsWrong : ChangeSpec := { name := "relaxTells", fn := fun _ => fun
  | [d1, d2, d3] => { results := [.lit (.bool false)], args := [d1, d2, d3] }
  | _ => none }
def RelaxTellsWrongFalsely : Prop := relaxTellsRow.holds Tryz.pinned (OpenSpec.ofChange relaxTellsWrong)

/-- 'tympanlaw37.PlaceTells': WHATEVER THE INPUT: true; the input reads as it did. -/
def placeTellsSpec : ChangeSpec := { name := "placeTells", fn := fun _ => fun
  | [d1, d2, d3] => { results := [.lit (.bool true)], args := [d1, d2, d3] }
  | _ => none }
def placeTellsRow : OpenClaim := { program := "ytpibjnnbploadaagreat", sum := "eb1741917d105cd082b1b72750f82df3a6ad45c9a9fc4e39a5ee717d3a3cd36e", func := "tympan/tympanlaw37.PlaceTells", spec := "placeTells", unfollowed := true, recurses := true, named := ["math/bits.divideError", "math/bits.overflowError"], apart := false }
def PlaceTellsSaid : Prop := placeTellsRow.holds Tryz.pinned (OpenSpec.ofChange placeTellsSpec)

/-- ITS FALSE NEIGHBOUR: 'it returns false'. Refute it at one input. -/
def placeTellsWrong : ChangeSpec := { name := "placeTells", fn := fun _ => fun
  | [d1, d2, d3] => { results := [.lit (.bool false)], args := [d1, d2, d3] }
  | _ => none }
def PlaceTellsWrongFalsely : Prop := placeTellsRow.holds Tryz.pinned (OpenSpec.ofChange placeTellsWrong)

/-- 'tympanlaw27.LeastEnds': WHATEVER THE INPUT: true; the input reads as it did. -/
def leastEndsSpec : ChangeSpec := { name := "leastEnds", fn := fun _ => fun
  | [d] => { results := [.lit (.bool true)], args := [d] }
  | _ => none }
def leastEndsRow : OpenClaim := { program := "ytpibjnnbploadaagreat", sum := "eb1741917d105cd082b1b72750f82df3a6ad45c9a9fc4e39a5ee717d3a3cd36e", func := "tympan/tympanlaw27.LeastEnds", spec := "leastEnds", unfollowed := true, recurses := true, apart := false }
def LeastEndsSaid : Prop := leastEndsRow.holds Tryz.pinned (OpenSpec.ofChange leastEndsSpec)

/-- ITS FALSE NEIGHBOUR: 'it returns false'. Refute it at one input. -/
def leastEndsWrong : ChangeSpec := { name := "leastEnds", fn := fun _ => fun
  | [d] => { results := [.lit (.bool false)], args := [d] }
  | _ => none }
def LeastEndsWrongFalsely : Prop := leastEndsRow.holds Tryz.pinned (OpenSpec.ofChange leastEndsWrong)

/-- 'tympanlaw28.LegalTells': WHATEVER THE INPUT: true; the input reads as it did. -/
def legalTellsSpec : ChangeSpec := { name := "legalTells", fn := fun _ => fun
  | [d1, d2, d3] => { results := [.lit (.bool true)], args := [d1, d2, d3] }
  | _ => none }
def legalTellsRow : OpenClaim := { program := "ytpibjnnbploadaagreat", sum := "eb1741917d105cd082b1b72750f82df3a6ad45c9a9fc4e39a5ee717d3a3cd36e", func := "tympan/tympanlaw28.LegalTells", spec := "legalTells", unfollowed := true, recurses := true, apart := false }
def LegalTellsSaid : Prop := legalTellsRow.holds Tryz.pinned (OpenSpec.ofChange legalTellsSpec)

/-- ITS FALSE NEIGHBOUR: 'it returns false'. Refute it at one input. -/
def legalTellsWrong : ChangeSpec := { name := "legalTells", fn := fun _ => fun
  | [d1, d2, d3] => { results := [.lit (.bool false)], args := [d1, d2, d3] }
  | _ => none }
def LegalTellsWrongFalsely : Prop := legalTellsRow.holds Tryz.pinned (OpenSpec.ofChange legalTellsWrong)

/-- 'tympanlaw28.LegalLeast': WHATEVER THE INPUT: true; the input reads as it did. -/
def legalLeastSpec : ChangeSpec := { name := "legalLeast", fn := fun _ => fun
  | [d1, d2] => { results := [.lit (.bool true)], args := [d1, d2] }
  | _ => none }
def legalLeastRow : OpenClaim := { program := "ytpibjnnbploadaagreat", sum := "eb1741917d105cd082b1b72750f82df3a6ad45c9a9fc4e39a5ee717d3a3cd36e", func := "tympan/tympanlaw28.LegalLeast", spec := "legalLeast", unfollowed := true, recurses := true, apart := false }
def LegalLeastSaid : Prop := legalLeastRow.holds Tryz.pinned (OpenSpec.ofChange legalLeastSpec)

/-- ITS FALSE NEIGHBOUR: 'it returns false'. Refute it at one input. -/
def legalLeastWrong : ChangeSpec := { name := "legalLeast", fn := fun _ => fun
  | [d1, d2] => { results := [.lit (.bool false)], args := [d1, d2] }
  | _ => none }
def LegalLeastWrongFalsely : Prop := legalLeastRow.holds Tryz.pinned (OpenSpec.ofChange legalLeastWrong)

/-- 'tympanlaw28.LegalGoes': WHATEVER THE INPUT: true; the input reads as it did. -/
def legalGoesSpec : ChangeSpec := { name := "legalGoes", fn := fun _ => fun
  | [d1, d2, d3] => { results := [.lit (.bool true)], args := [d1, d2, d3] }
  | _ => none }
def legalGoesRow : OpenClaim := { program := "ytpibjnnbploadaagreat", sum := "eb1741917d105cd082b1b72750f82df3a6ad45c9a9fc4e39a5ee717d3a3cd36e", func := "tympan/tympanlaw28.LegalGoes", spec := "legalGoes", unfollowed := true, recurses := true, apart := false }
def LegalGoesSaid : Prop := legalGoesRow.holds Tryz.pinned (OpenSpec.ofChange legalGoesSpec)

/-- ITS FALSE NEIGHBOUR: 'it returns false'. Refute it at one input. -/
def legalGoesWrong : ChangeSpec := { name := "legalGoes", fn := fun _ => fun
  | [d1, d2, d3] => { results := [.lit (.bool false)], args := [d1, d2, d3] }
  | _ => none }
def LegalGoesWrongFalsely : Prop := legalGoesRow.holds Tryz.pinned (OpenSpec.ofChange legalGoesWrong)

/-- 'tympanlaw29.OptionAll': WHATEVER THE INPUT: true; the input reads as it did. -/
def optionAllSpec : ChangeSpec := { name := "optionAll", fn := fun _ => fun
  | [d1, d2] => { results := [.lit (.bool true)], args := [d1, d2] }
  | _ => none }
def optionAllRow : OpenClaim := { program := "ytpibjnnbploadaagreat", sum := "eb1741917d105cd082b1b72750f82df3a6ad45c9a9fc4e39a5ee717d3a3cd36e", func := "tympan/tympanlaw29.OptionAll", spec := "optionAll", unfollowed := true, recurses := true, apart := false }
def OptionAllSaid : Prop := optionAllRow.holds Tryz.pinned (OpenSpec.ofChange optionAllSpec)

/-- ITS FALSE NEIGHBOUR: 'it returns false'. Refute it at one input. -/
def optionAllWrong : ChangeSpec := { name := "optionAll", fn := fun _ => fun
  | [d1, d2] => { results := [.lit (.bool false)], args := [d1, d2] }
  | _ => none }
def OptionAllWrongFalsely : Prop := optionAllRow.holds Tryz.pinned (OpenSpec.ofChange optionAllWrong)

/-- 'tympanlaw29.OptionOrder': WHATEVER THE INPUT: true; the input reads as it did. -/
def optionOrderSpec : ChangeSpec := { name := "optionOrder", fn := fun _ => fun
  | [d1, d2, d3] => { results := [.lit (.bool true)], args := [d1, d2, d3] }
  | _ => none }
def optionOrderRow : OpenClaim := { program := "ytpibjnnbploadaagreat", sum := "eb1741917d105cd082b1b72750f82df3a6ad45c9a9fc4e39a5ee717d3a3cd36e", func := "tympan/tympanlaw29.OptionOrder", spec := "optionOrder", unfollowed := true, recurses := true, apart := false }
def OptionOrderSaid : Prop := optionOrderRow.holds Tryz.pinned (OpenSpec.ofChange optionOrderSpec)

/-- ITS FALSE NEIGHBOUR: 'it returns false'. Refute it at one input. -/
def optionOrderWrong : ChangeSpec := { name := "optionOrder", fn := fun _ => fun
  | [d1, d2, d3] => { results := [.lit (.bool false)], args := [d1, d2, d3] }
  | _ => none }
def OptionOrderWrongFalsely : Prop := optionOrderRow.holds Tryz.pinned (OpenSpec.ofChange optionOrderWrong)

/-- 'tympanlaw48.TallyTells': WHATEVER THE INPUT: true; the input reads as it did. -/
def tallyTellsSpec : ChangeSpec := { name := "tallyTells", fn := fun _ => fun
  | [d1, d2] => { results := [.lit (.bool true)], args := [d1, d2] }
  | _ => none }
def tallyTellsRow : OpenClaim := { program := "ytpibjnnbploadaagreat", sum := "eb1741917d105cd082b1b72750f82df3a6ad45c9a9fc4e39a5ee717d3a3cd36e", func := "tympan/tympanlaw48.TallyTells", spec := "tallyTells", unfollowed := true, recurses := true, apart := false }
def TallyTellsSaid : Prop := tallyTellsRow.holds Tryz.pinned (OpenSpec.ofChange tallyTellsSpec)

/-- ITS FALSE NEIGHBOUR: 'it returns false'. Refute it at one input. -/
def tallyTellsWrong : ChangeSpec := { name := "tallyTells", fn := fun _ => fun
  | [d1, d2] => { results := [.lit (.bool false)], args := [d1, d2] }
  | _ => none }
def TallyTellsWrongFalsely : Prop := tallyTellsRow.holds Tryz.pinned (OpenSpec.ofChange tallyTellsWrong)

/-- 'tympanlaw48.TallyAdds': WHATEVER THE INPUT: true; the input reads as it did. -/
def tallyAddsSpec : ChangeSpec := { name := "tallyAdds", fn := fun _ => fun
  | [d1, d2] => { results := [.lit (.bool true)], args := [d1, d2] }
  | _ => none }
def tallyAddsRow : OpenClaim := { program := "ytpibjnnbploadaagreat", sum := "eb1741917d105cd082b1b72750f82df3a6ad45c9a9fc4e39a5ee717d3a3cd36e", func := "tympan/tympanlaw48.TallyAdds", spec := "tallyAdds", unfollowed := true, recurses := true, apart := false }
def TallyAddsSaid : Prop := tallyAddsRow.holds Tryz.pinned (OpenSpec.ofChange tallyAddsSpec)

/-- ITS FALSE NEIGHBOUR: 'it returns false'. Refute it at one input. -/
def tallyAddsWrong : ChangeSpec := { name := "tallyAdds", fn := fun _ => fun
  | [d1, d2] => { results := [.lit (.bool false)], args := [d1, d2] }
  | _ => none }
def TallyAddsWrongFalsely : Prop := tallyAddsRow.holds Tryz.pinned (OpenSpec.ofChange tallyAddsWrong)

/-- 'tympanlaw47.BillTells': WHATEVER THE INPUT: true; the input reads as it did. -/
def billTellsSpec : ChangeSpec := { name := "billTells", fn := fun _ => fun
  | [d1, d2, d3] => { results := [.lit (.bool true)], args := [d1, d2, d3] }
  | _ => none }
def billTellsRow : OpenClaim := { program := "ytpibjnnbploadaagreat", sum := "eb1741917d105cd082b1b72750f82df3a6ad45c9a9fc4e39a5ee717d3a3cd36e", func := "tympan/tympanlaw47.BillTells", spec := "billTells", unfollowed := true, recurses := true, apart := false }
def BillTellsSaid : Prop := billTellsRow.holds Tryz.pinned (OpenSpec.ofChange billTellsSpec)

/-- ITS FALSE NEIGHBOUR: 'it returns false'. Refute it at one input. -/
def billTellsWrong : ChangeSpec := { name := "billTells", fn := fun _ => fun
  | [d1, d2, d3] => { results := [.lit (.bool false)], args := [d1, d2, d3] }
  | _ => none }
def BillTellsWrongFalsely : Prop := billTellsRow.holds Tryz.pinned (OpenSpec.ofChange billTellsWrong)

/-- 'tympanlaw47.BillSums': WHATEVER THE INPUT: true; the input reads as it did. -/
def billSumsSpec : ChangeSpec := { name := "billSums", fn := fun _ => fun
  | [d] => { results := [.lit (.bool true)], args := [d] }
  | _ => none }
def billSumsRow : OpenClaim := { program := "ytpibjnnbploadaagreat", sum := "eb1741917d105cd082b1b72750f82df3a6ad45c9a9fc4e39a5ee717d3a3cd36e", func := "tympan/tympanlaw47.BillSums", spec := "billSums", unfollowed := true, recurses := true, apart := false }
def BillSumsSaid : Prop := billSumsRow.holds Tryz.pinned (OpenSpec.ofChange billSumsSpec)

/-- ITS FALSE NEIGHBOUR: 'it returns false'. Refute it at one input. -/
def billSumsWrong : ChangeSpec := { name := "billSums", fn := fun _ => fun
  | [d] => { results := [.lit (.bool false)], args := [d] }
  | _ => none }
def BillSumsWrongFalsely : Prop := billSumsRow.holds Tryz.pinned (OpenSpec.ofChange billSumsWrong)

/- THE SECOND FORM. 'bulk': how many values and letters a reading holds, each counted each time it is reached (what is shared counts as often as it is met; a slice's spare places count too). A statement '..UptoSaid' is the law's where the arguments, and the package variables that the reading takes, are together of bulk at most 1048576: NARROWER than '..Said'. Prove '..Said' where nothing that the law and all that it calls make is longer than what came in: it says more and counts as full. Else prove '..UptoSaid'. A law counts once. -/
mutual
def uptoBulk {H : Type} : DataW H → Nat
  | .lit (.string bytes) => bytes.length + 1
  | .lit _ => 1
  | .nil => 1
  | .ptr d => uptoBulk d + 1
  | .slice elems spare => uptoBulkAll elems + uptoBulkAll spare + 1
  | .agg parts => uptoBulkAll parts + 1
  | .iface _ d => uptoBulk d + 1
  | .map entries => uptoBulkEntries entries + 1
  | .held _ => 1
def uptoBulkAll {H : Type} : List (DataW H) → Nat
  | [] => 0
  | d :: r => uptoBulk d + uptoBulkAll r
def uptoBulkEntries {H : Type} : List (Lit × DataW H) → Nat
  | [] => 0
  | x :: r => uptoBulkEntry x + uptoBulkEntries r
def uptoBulkEntry {H : Type} : Lit × DataW H → Nat
  | (.string bytes, d) => bytes.length + uptoBulk d + 1
  | (_, d) => uptoBulk d + 1
 end
def uptoSmall : (H : Type) → List (DataW H) → Bool := fun _ ds => decide (uptoBulkAll ds ≤ 1048576)
def OpenSpec.upto (s : _root_.Go.ChangeSpec) : _root_.Go.OpenSpec := { _root_.Go.OpenSpec.ofChange s with cond := some uptoSmall }

/-- 'tympanlaw45.RelaxTells', WHERE WHAT IT READS IS OF BULK AT MOST 1048576: true; the input reads as it did. -/
def relaxTellsUptoRow : OpenClaim := { program := "ytpibjnnbploadaagreat", sum := "eb1741917d105cd082b1b72750f82df3a6ad45c9a9fc4e39a5ee717d3a3cd36e", func := "tympan/tympanlaw45.RelaxTells", spec := "relaxTells", unfollowed := true, recurses := true, apart := false, narrowed := true }
def RelaxTellsUptoSaid : Prop := relaxTellsUptoRow.holds Tryz.pinned (OpenSpec.upto relaxTellsSpec)

/-- 'tympanlaw37.PlaceTells', WHERE WHAT IT READS IS OF BULK AT MOST 1048576: true; the input reads as it did. -/
def placeTellsUptoRow : OpenClaim := { program := "ytpibjnnbploadaagreat", sum := "eb1741917d105cd082b1b72750f82df3a6ad45c9a9fc4e39a5ee717d3a3cd36e", func := "tympan/tympanlaw37.PlaceTells", spec := "placeTells", unfollowed := true, recurses := true, named := ["math/bits.divideError", "math/bits.overflowError"], apart := false, narrowed := true }
def PlaceTellsUptoSaid : Prop := placeTellsUptoRow.holds Tryz.pinned (OpenSpec.upto placeTellsSpec)

/-- 'tympanlaw27.LeastEnds', WHERE WHAT IT READS IS OF BULK AT MOST 1048576: true; the input reads as it did. -/
def leastEndsUptoRow : OpenClaim := { program := "ytpibjnnbploadaagreat", sum := "eb1741917d105cd082b1b72750f82df3a6ad45c9a9fc4e39a5ee717d3a3cd36e", func := "tympan/tympanlaw27.LeastEnds", spec := "leastEnds", unfollowed := true, recurses := true, apart := false, narrowed := true }
def LeastEndsUptoSaid : Prop := leastEndsUptoRow.holds Tryz.pinned (OpenSpec.upto leastEndsSpec)

/-- 'tympanlaw28.LegalTells', WHERE WHAT IT READS IS OF BULK AT MOST 1048576: true; the input reads as it did. -/
def legalTellsUptoRow : OpenClaim := { program := "ytpibjnnbploadaagreat", sum := "eb1741917d105cd082b1b72750f82df3a6ad45c9a9fc4e39a5ee717d3a3cd36e", func := "tympan/tympanlaw28.LegalTells", spec := "legalTells", unfollowed := true, recurses := true, apart := false, narrowed := true }
def LegalTellsUptoSaid : Prop := legalTellsUptoRow.holds Tryz.pinned (OpenSpec.upto legalTellsSpec)

/-- 'tympanlaw28.LegalLeast', WHERE WHAT IT READS IS OF BULK AT MOST 1048576: true; the input reads as it did. -/
def legalLeastUptoRow : OpenClaim := { program := "ytpibjnnbploadaagreat", sum := "eb1741917d105cd082b1b72750f82df3a6ad45c9a9fc4e39a5ee717d3a3cd36e", func := "tympan/tympanlaw28.LegalLeast", spec := "legalLeast", unfollowed := true, recurses := true, apart := false, narrowed := true }
def LegalLeastUptoSaid : Prop := legalLeastUptoRow.holds Tryz.pinned (OpenSpec.upto legalLeastSpec)

/-- 'tympanlaw28.LegalGoes', WHERE WHAT IT READS IS OF BULK AT MOST 1048576: true; the input reads as it did. -/
def legalGoesUptoRow : OpenClaim := { program := "ytpibjnnbploadaagreat", sum := "eb1741917d105cd082b1b72750f82df3a6ad45c9a9fc4e39a5ee717d3a3cd36e", func := "tympan/tympanlaw28.LegalGoes", spec := "legalGoes", unfollowed := true, recurses := true, apart := false, narrowed := true }
def LegalGoesUptoSaid : Prop := legalGoesUptoRow.holds Tryz.pinned (OpenSpec.upto legalGoesSpec)

/-- 'tympanlaw29.OptionAll', WHERE WHAT IT READS IS OF BULK AT MOST 1048576: true; the input reads as it did. -/
def optionAllUptoRow : OpenClaim := { program := "ytpibjnnbploadaagreat", sum := "eb1741917d105cd082b1b72750f82df3a6ad45c9a9fc4e39a5ee717d3a3cd36e", func := "tympan/tympanlaw29.OptionAll", spec := "optionAll", unfollowed := true, recurses := true, apart := false, narrowed := true }
def OptionAllUptoSaid : Prop := optionAllUptoRow.holds Tryz.pinned (OpenSpec.upto optionAllSpec)

/-- 'tympanlaw29.OptionOrder', WHERE WHAT IT READS IS OF BULK AT MOST 1048576: true; the input reads as it did. -/
def optionOrderUptoRow : OpenClaim := { program := "ytpibjnnbploadaagreat", sum := "eb1741917d105cd082b1b72750f82df3a6ad45c9a9fc4e39a5ee717d3a3cd36e", func := "tympan/tympanlaw29.OptionOrder", spec := "optionOrder", unfollowed := true, recurses := true, apart := false, narrowed := true }
def OptionOrderUptoSaid : Prop := optionOrderUptoRow.holds Tryz.pinned (OpenSpec.upto optionOrderSpec)

/-- 'tympanlaw48.TallyTells', WHERE WHAT IT READS IS OF BULK AT MOST 1048576: true; the input reads as it did. -/
def tallyTellsUptoRow : OpenClaim := { program := "ytpibjnnbploadaagreat", sum := "eb1741917d105cd082b1b72750f82df3a6ad45c9a9fc4e39a5ee717d3a3cd36e", func := "tympan/tympanlaw48.TallyTells", spec := "tallyTells", unfollowed := true, recurses := true, apart := false, narrowed := true }
def TallyTellsUptoSaid : Prop := tallyTellsUptoRow.holds Tryz.pinned (OpenSpec.upto tallyTellsSpec)

/-- 'tympanlaw48.TallyAdds', WHERE WHAT IT READS IS OF BULK AT MOST 1048576: true; the input reads as it did. -/
def tallyAddsUptoRow : OpenClaim := { program := "ytpibjnnbploadaagreat", sum := "eb1741917d105cd082b1b72750f82df3a6ad45c9a9fc4e39a5ee717d3a3cd36e", func := "tympan/tympanlaw48.TallyAdds", spec := "tallyAdds", unfollowed := true, recurses := true, apart := false, narrowed := true }
def TallyAddsUptoSaid : Prop := tallyAddsUptoRow.holds Tryz.pinned (OpenSpec.upto tallyAddsSpec)

/-- 'tympanlaw47.BillTells', WHERE WHAT IT READS IS OF BULK AT MOST 1048576: true; the input reads as it did. -/
def billTellsUptoRow : OpenClaim := { program := "ytpibjnnbploadaagreat", sum := "eb1741917d105cd082b1b72750f82df3a6ad45c9a9fc4e39a5ee717d3a3cd36e", func := "tympan/tympanlaw47.BillTells", spec := "billTells", unfollowed := true, recurses := true, apart := false, narrowed := true }
def BillTellsUptoSaid : Prop := billTellsUptoRow.holds Tryz.pinned (OpenSpec.upto billTellsSpec)

/-- 'tympanlaw47.BillSums', WHERE WHAT IT READS IS OF BULK AT MOST 1048576: true; the input reads as it did. -/
def billSumsUptoRow : OpenClaim := { program := "ytpibjnnbploadaagreat", sum := "eb1741917d105cd082b1b72750f82df3a6ad45c9a9fc4e39a5ee717d3a3cd36e", func := "tympan/tympanlaw47.BillSums", spec := "billSums", unfollowed := true, recurses := true, apart := false, narrowed := true }
def BillSumsUptoSaid : Prop := billSumsUptoRow.holds Tryz.pinned (OpenSpec.upto billSumsSpec)

end Rows
end Go.Proofs.YtpibjnnbploadaaGreat
