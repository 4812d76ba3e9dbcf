/-
  No cell of these rows narrows 'for every input' (looked for: loops, veiled, ifaces, maps, wideKeys, modest, calm, conditions, laid).
  DERIVED. THE GIVEN ROWS OF THIS SEAT. 8 by the template 'for every input the law returns true; each argument reads behind the call as it read before'; 0 by the template 'total and deterministic' (their statements: YtddnebpblclpfaaGreatTotals.lean).
  GIVEN WITH THE SEED: the statements are not yours to turn. If you find one false, say at which input.
  Laid BY PROGRAM, IN A SANDBOX (cutbox-rows.mjs): the forced cells as the released guide's own fill.sh prints them over the translation 2bacbbe8336bd9b3… (all of the seat's roots in one cut). By AI agents, Wed Nov 11 2026. No macro, syntax, notation, axiom, sorry.
-/
import Derived.Test.YtddnebpblclpfaaGreatChecked
import GoSem.Claim
import GoSem.ClaimJoined
import GoSem.ClaimMapViews
import Derived.JoinedTies
import Derived.KernelRfl
namespace Go.Proofs.YtddnebpblclpfaaGreat
/- THE CELL 'sum', in the pinned program and in every row, IS THE sha256 OF THE DUMP (.gsa) THAT YtddnebpblclpfaaGreatProg.lean LOADS. Nothing in Lean hashes anything: it is a label: what it is worth is what the hold of that sum in a sandbox is worth. -/
noncomputable def Tryz.pinned : Pinned := { name := "ytddnebpblclpfaagreat", sum := "2bacbbe8336bd9b3394db371325f497597d9e6e0dd490bea57c8281540ac5e82", checked := Tryz.checked }
namespace Rows
def none {H : Type} : Left H := { results := [], args := [] }

/-- 'tympanlaw25.StateNext': WHATEVER THE INPUT: true; the input reads as it did. -/
def stateNextSpec : ChangeSpec := { name := "stateNext", fn := fun _ => fun
  | [d1, d2, d3] => { results := [.lit (.bool true)], args := [d1, d2, d3] }
  | _ => none }
def stateNextRow : OpenClaim := { program := "ytddnebpblclpfaagreat", sum := "2bacbbe8336bd9b3394db371325f497597d9e6e0dd490bea57c8281540ac5e82", func := "tympan/tympanlaw25.StateNext", spec := "stateNext", unfollowed := true, recurses := true, apart := false }
def StateNextSaid : Prop := stateNextRow.holds Tryz.pinned (OpenSpec.ofChange stateNextSpec)

/-- ITS FALSE NEIGHBOUR: 'it returns false'. Refute it at one input. -/
def stateNextWrong : ChangeSpec := { name := "stateNext", fn := fun _ => fun
  | [d1, d2, d3] => { results := [.lit (.bool false)], args := [d1, d2, d3] }
  | _ => none }
def StateNextWrongFalsely : Prop := stateNextRow.holds Tryz.pinned (OpenSpec.ofChange stateNextWrong)

/-- 'tympanlaw25.StateOrder': WHATEVER THE INPUT: true; the input reads as it did. -/
def stateOrderSpec : ChangeSpec := { name := "stateOrder", fn := fun _ => fun
  | [d1, d2, d3] => { results := [.lit (.bool true)], args := [d1, d2, d3] }
  | _ => none }
def stateOrderRow : OpenClaim := { program := "ytddnebpblclpfaagreat", sum := "2bacbbe8336bd9b3394db371325f497597d9e6e0dd490bea57c8281540ac5e82", func := "tympan/tympanlaw25.StateOrder", spec := "stateOrder", unfollowed := true, recurses := true, apart := false }
def StateOrderSaid : Prop := stateOrderRow.holds Tryz.pinned (OpenSpec.ofChange stateOrderSpec)

/-- ITS FALSE NEIGHBOUR: 'it returns false'. Refute it at one input. -/
def stateOrderWrong : ChangeSpec := { name := "stateOrder", fn := fun _ => fun
  | [d1, d2, d3] => { results := [.lit (.bool false)], args := [d1, d2, d3] }
  | _ => none }
def StateOrderWrongFalsely : Prop := stateOrderRow.holds Tryz.pinned (OpenSpec.ofChange stateOrderWrong)

/-- 'tympanlaw25.StateBegins': WHATEVER THE INPUT: true; the input reads as it did. -/
def stateBeginsSpec : ChangeSpec := { name := "stateBegins", fn := fun _ => fun
  | [d1, d2] => { results := [.lit (.bool true)], args := [d1, d2] }
  | _ => none }
def stateBeginsRow : OpenClaim := { program := "ytddnebpblclpfaagreat", sum := "2bacbbe8336bd9b3394db371325f497597d9e6e0dd490bea57c8281540ac5e82", func := "tympan/tympanlaw25.StateBegins", spec := "stateBegins", unfollowed := true, recurses := true, apart := false }
def StateBeginsSaid : Prop := stateBeginsRow.holds Tryz.pinned (OpenSpec.ofChange stateBeginsSpec)

/-- ITS FALSE NEIGHBOUR: 'it returns false'. Refute it at one input. -/
def stateBeginsWrong : ChangeSpec := { name := "stateBegins", fn := fun _ => fun
  | [d1, d2] => { results := [.lit (.bool false)], args := [d1, d2] }
  | _ => none }
def StateBeginsWrongFalsely : Prop := stateBeginsRow.holds Tryz.pinned (OpenSpec.ofChange stateBeginsWrong)

/-- 'tympanlaw45.RelaxTells': WHATEVER THE INPUT: true; the input reads as it did. -/
def relaxTellsSpec : ChangeSpec := { name := "relaxTells", fn := fun _ => fun
  | [d1, d2, d3] => { results := [.lit (.bool true)], args := [d1, d2, d3] }
  | _ => none }
def relaxTellsRow : OpenClaim := { program := "ytddnebpblclpfaagreat", sum := "2bacbbe8336bd9b3394db371325f497597d9e6e0dd490bea57c8281540ac5e82", func := "tympan/tympanlaw45.RelaxTells", spec := "relaxTells", unfollowed := true, recurses := true, apart := false }
def RelaxTellsSaid : Prop := relaxTellsRow.holds Tryz.pinned (OpenSpec.ofChange relaxTellsSpec)

/-- ITS FALSE NEIGHBOUR: 'it returns false'. Refute it at one input. -/
def relaxTellsWrong : ChangeSpec := { name := "relaxTells", fn := fun _ => fun
  | [d1, d2, d3] => { results := [.lit (.bool false)], args := [d1, d2, d3] }
  | _ => none }
def RelaxTellsWrongFalsely : Prop := relaxTellsRow.holds Tryz.pinned (OpenSpec.ofChange relaxTellsWrong)

/-- 'tympanlaw26.ColumnFull': WHATEVER THE INPUT: true; the input reads as it did. -/
def columnFullSpec : ChangeSpec := { name := "columnFull", fn := fun _ => fun
  | [d1, d2, d3] => { results := [.lit (.bool true)], args := [d1, d2, d3] }
  | _ => none }
def columnFullRow : OpenClaim := { program := "ytddnebpblclpfaagreat", sum := "2bacbbe8336bd9b3394db371325f497597d9e6e0dd490bea57c8281540ac5e82", func := "tympan/tympanlaw26.ColumnFull", spec := "columnFull", unfollowed := true, recurses := true, apart := false }
def ColumnFullSaid : Prop := columnFullRow.holds Tryz.pinned (OpenSpec.ofChange columnFullSpec)

/-- ITS FALSE NEIGHBOUR: 'it returns false'. Refute it at one input. -/
def columnFullWrong : ChangeSpec := { name := "columnFull", fn := fun _ => fun
  | [d1, d2, d3] => { results := [.lit (.bool false)], args := [d1, d2, d3] }
  | _ => none }
def ColumnFullWrongFalsely : Prop := columnFullRow.holds Tryz.pinned (OpenSpec.ofChange columnFullWrong)

/-- 'tympanlaw37.PlaceTells': WHATEVER THE INPUT: true; the input reads as it did. -/
def placeTellsSpec : ChangeSpec := { name := "placeTells", fn := fun _ => fun
  | [d1, d2, d3] => { results := [.lit (.bool true)], args := [d1, d2, d3] }
  | _ => none }
def placeTellsRow : OpenClaim := { program := "ytddnebpblclpfaagreat", sum := "2bacbbe8336bd9b3394db371325f497597d9e6e0dd490bea57c8281540ac5e82", func := "tympan/tympanlaw37.PlaceTells", spec := "placeTells", unfollowed := true, recurses := true, named := ["math/bits.divideError", "math/bits.overflowError"], apart := false }
def PlaceTellsSaid : Prop := placeTellsRow.holds Tryz.pinned (OpenSpec.ofChange placeTellsSpec)

/-- ITS FALSE NEIGHBOUR: 'it returns false'. Refute it at one input. -/
def placeTellsWrong : ChangeSpec := { name := "placeTells", fn := fun _ => fun
  | [d1, d2, d3] => { results := [.lit (.bool false)], args := [d1, d2, d3] }
  | _ => none }
def PlaceTellsWrongFalsely : Prop := placeTellsRow.holds Tryz.pinned (OpenSpec.ofChange placeTellsWrong)

/-- 'tympanlaw37.PlaceText': WHATEVER THE INPUT: true; the input reads as it did. -/
def placeTextSpec : ChangeSpec := { name := "placeText", fn := fun _ => fun
  | [d1, d2, d3] => { results := [.lit (.bool true)], args := [d1, d2, d3] }
  | _ => none }
def placeTextRow : OpenClaim := { program := "ytddnebpblclpfaagreat", sum := "2bacbbe8336bd9b3394db371325f497597d9e6e0dd490bea57c8281540ac5e82", func := "tympan/tympanlaw37.PlaceText", spec := "placeText", unfollowed := true, recurses := true, named := ["math/bits.divideError", "math/bits.overflowError"], apart := false }
def PlaceTextSaid : Prop := placeTextRow.holds Tryz.pinned (OpenSpec.ofChange placeTextSpec)

/-- ITS FALSE NEIGHBOUR: 'it returns false'. Refute it at one input. -/
def placeTextWrong : ChangeSpec := { name := "placeText", fn := fun _ => fun
  | [d1, d2, d3] => { results := [.lit (.bool false)], args := [d1, d2, d3] }
  | _ => none }
def PlaceTextWrongFalsely : Prop := placeTextRow.holds Tryz.pinned (OpenSpec.ofChange placeTextWrong)

/-- 'tympanlaw26.ColumnOrder': WHATEVER THE INPUT: true; the input reads as it did. -/
def columnOrderSpec : ChangeSpec := { name := "columnOrder", fn := fun _ => fun
  | [d1, d2, d3] => { results := [.lit (.bool true)], args := [d1, d2, d3] }
  | _ => none }
def columnOrderRow : OpenClaim := { program := "ytddnebpblclpfaagreat", sum := "2bacbbe8336bd9b3394db371325f497597d9e6e0dd490bea57c8281540ac5e82", func := "tympan/tympanlaw26.ColumnOrder", spec := "columnOrder", unfollowed := true, recurses := true, apart := false }
def ColumnOrderSaid : Prop := columnOrderRow.holds Tryz.pinned (OpenSpec.ofChange columnOrderSpec)

/-- ITS FALSE NEIGHBOUR: 'it returns false'. Refute it at one input. -/
def columnOrderWrong : ChangeSpec := { name := "columnOrder", fn := fun _ => fun
  | [d1, d2, d3] => { results := [.lit (.bool false)], args := [d1, d2, d3] }
  | _ => none }
def ColumnOrderWrongFalsely : Prop := columnOrderRow.holds Tryz.pinned (OpenSpec.ofChange columnOrderWrong)

/- THE SECOND FORM. 'bulk': how many values and letters a reading holds, each counted each time it is reached (what is shared counts as often as it is met; a slice's spare places count too). A statement '..UptoSaid' is the law's where the arguments, and the package variables that the reading takes, are together of bulk at most 1048576: NARROWER than '..Said'. Prove '..Said' where nothing that the law and all that it calls make is longer than what came in: it says more and counts as full. Else prove '..UptoSaid'. A law counts once. -/
mutual
def uptoBulk {H : Type} : DataW H → Nat
  | .lit (.string bytes) => bytes.length + 1
  | .lit _ => 1
  | .nil => 1
  | .ptr d => uptoBulk d + 1
  | .slice elems spare => uptoBulkAll elems + uptoBulkAll spare + 1
  | .agg parts => uptoBulkAll parts + 1
  | .iface _ d => uptoBulk d + 1
  | .map entries => uptoBulkEntries entries + 1
  | .held _ => 1
def uptoBulkAll {H : Type} : List (DataW H) → Nat
  | [] => 0
  | d :: r => uptoBulk d + uptoBulkAll r
def uptoBulkEntries {H : Type} : List (Lit × DataW H) → Nat
  | [] => 0
  | x :: r => uptoBulkEntry x + uptoBulkEntries r
def uptoBulkEntry {H : Type} : Lit × DataW H → Nat
  | (.string bytes, d) => bytes.length + uptoBulk d + 1
  | (_, d) => uptoBulk d + 1
 end
def uptoSmall : (H : Type) → List (DataW H) → Bool := fun _ ds => decide (uptoBulkAll ds ≤ 1048576)
def OpenSpec.upto (s : _root_.Go.ChangeSpec) : _root_.Go.OpenSpec := { _root_.Go.OpenSpec.ofChange s with cond := some uptoSmall }

/-- 'tympanlaw25.StateNext', WHERE WHAT IT READS IS OF BULK AT MOST 1048576: true; the input reads as it did. -/
def stateNextUptoRow : OpenClaim := { program := "ytddnebpblclpfaagreat", sum := "2bacbbe8336bd9b3394db371325f497597d9e6e0dd490bea57c8281540ac5e82", func := "tympan/tympanlaw25.StateNext", spec := "stateNext", unfollowed := true, recurses := true, apart := false, narrowed := true }
def StateNextUptoSaid : Prop := stateNextUptoRow.holds Tryz.pinned (OpenSpec.upto stateNextSpec)

/-- 'tympanlaw25.StateOrder', WHERE WHAT IT READS IS OF BULK AT MOST 1048576: true; the input reads as it did. -/
def stateOrderUptoRow : OpenClaim := { program := "ytddnebpblclpfaagreat", sum := "2bacbbe8336bd9b3394db371325f497597d9e6e0dd490bea57c8281540ac5e82", func := "tympan/tympanlaw25.StateOrder", spec := "stateOrder", unfollowed := true, recurses := true, apart := false, narrowed := true }
def StateOrderUptoSaid : Prop := stateOrderUptoRow.holds Tryz.pinned (OpenSpec.upto stateOrderSpec)

/-- 'tympanlaw25.StateBegins', WHERE WHAT IT READS IS OF BULK AT MOST 1048576: true; the input reads as it did. -/
def stateBeginsUptoRow : OpenClaim := { program := "ytddnebpblclpfaagreat", sum := "2bacbbe8336bd9b3394db371325f497597d9e6e0dd490bea57c8281540ac5e82", func := "tympan/tympanlaw25.StateBegins", spec := "stateBegins", unfollowed := true, recurses := true, apart := false, narrowed := true }
def StateBeginsUptoSaid : Prop := stateBeginsUptoRow.holds Tryz.pinned (OpenSpec.upto stateBeginsSpec)

/-- 'tympanlaw45.RelaxTells', WHERE WHAT IT READS IS OF BULK AT MOST 1048576: true; the input reads as it did. -/
def relaxTellsUptoRow : OpenClaim := { program := "ytddnebpblclpfaagreat", sum := "2bacbbe8336bd9b3394db371325f497597d9e6e0dd490bea57c8281540ac5e82", func := "tympan/tympanlaw45.RelaxTells", spec := "relaxTells", unfollowed := true, recurses := true, apart := false, narrowed := true }
def RelaxTellsUptoSaid : Prop := relaxTellsUptoRow.holds Tryz.pinned (OpenSpec.upto relaxTellsSpec)

/-- 'tympanlaw26.ColumnFull', WHERE WHAT IT READS IS OF BULK AT MOST 1048576: true; the input reads as it did. -/
def columnFullUptoRow : OpenClaim := { program := "ytddnebpblclpfaagreat", sum := "2bacbbe8336bd9b3394db371325f497597d9e6e0dd490bea57c8281540ac5e82", func := "tympan/tympanlaw26.ColumnFull", spec := "columnFull", unfollowed := true, recurses := true, apart := false, narrowed := true }
def ColumnFullUptoSaid : Prop := columnFullUptoRow.holds Tryz.pinned (OpenSpec.upto columnFullSpec)

/-- 'tympanlaw37.PlaceTells', WHERE WHAT IT READS IS OF BULK AT MOST 1048576: true; the input reads as it did. -/
def placeTellsUptoRow : OpenClaim := { program := "ytddnebpblclpfaagreat", sum := "2bacbbe8336bd9b3394db371325f497597d9e6e0dd490bea57c8281540ac5e82", func := "tympan/tympanlaw37.PlaceTells", spec := "placeTells", unfollowed := true, recurses := true, named := ["math/bits.divideError", "math/bits.overflowError"], apart := false, narrowed := true }
def PlaceTellsUptoSaid : Prop := placeTellsUptoRow.holds Tryz.pinned (OpenSpec.upto placeTellsSpec)

/-- 'tympanlaw37.PlaceText', WHERE WHAT IT READS IS OF BULK AT MOST 1048576: true; the input reads as it did. -/
def placeTextUptoRow : OpenClaim := { program := "ytddnebpblclpfaagreat", sum := "2bacbbe8336bd9b3394db371325f497597d9e6e0dd490bea57c8281540ac5e82", func := "tympan/tympanlaw37.PlaceText", spec := "placeText", unfollowed := true, recurses := true, named := ["math/bits.divideError", "math/bits.overflowError"], apart := false, narrowed := true }
def PlaceTextUptoSaid : Prop := placeTextUptoRow.holds Tryz.pinned (OpenSpec.upto placeTextSpec)

/-- 'tympanlaw26.ColumnOrder', WHERE WHAT IT READS IS OF BULK AT MOST 1048576: true; the input reads as it did. -/
def columnOrderUptoRow : OpenClaim := { program := "ytddnebpblclpfaagreat", sum := "2bacbbe8336bd9b3394db371325f497597d9e6e0dd490bea57c8281540ac5e82", func := "tympan/tympanlaw26.ColumnOrder", spec := "columnOrder", unfollowed := true, recurses := true, apart := false, narrowed := true }
def ColumnOrderUptoSaid : Prop := columnOrderUptoRow.holds Tryz.pinned (OpenSpec.upto columnOrderSpec)

end Rows
end Go.Proofs.YtddnebpblclpfaaGreat
