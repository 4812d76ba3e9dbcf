/-
  No cell of these rows narrows 'for every input' (looked for: loops, veiled, ifaces, maps, wideKeys, modest, calm, conditions, laid).
  DERIVED. THE GIVEN ROWS OF THIS SEAT. 14 by the template 'for every input the law returns true; each argument reads behind the call as it read before'; 0 by the template 'total and deterministic' (their statements: YtfjgcfloallohaaTotals.lean).
  GIVEN WITH THE SEED: the statements are not yours to turn. If you find one false, say at which input.
  Laid BY PROGRAM, IN A SANDBOX (cutbox-rows.mjs): the forced cells as the released guide's own fill.sh prints them over the translation 7b5b046bc079d64c… (all of the seat's roots in one cut). By AI agents, Wed Nov 11 2026. No macro, syntax, notation, axiom, sorry.
-/
import Derived.Test.YtfjgcfloallohaaChecked
import GoSem.Claim
import GoSem.ClaimJoined
import GoSem.ClaimMapViews
import Derived.JoinedTies
import Derived.KernelRfl
namespace Go.Proofs.Ytfjgcfloallohaa
/- THE CELL 'sum', in the pinned program and in every row, IS THE sha256 OF THE DUMP (.gsa) THAT YtfjgcfloallohaaProg.lean LOADS. Nothing in Lean hashes anything: it is a label: what it is worth is what the hold of that sum in a sandbox is worth. -/
noncomputable def Try.pinned : Pinned := { name := "ytfjgcfloallohaa", sum := "7b5b046bc079d64c8e2c6dc4ffa881fa201ccd6194c9ac77a60e1e9d79a25c52", checked := Try.checked }
namespace Rows
def none {H : Type} : Left H := { results := [], args := [] }

/-- 'tympanlaw11.NoteTells': WHATEVER THE INPUT: true; the input reads as it did. -/
def noteTellsSpec : ChangeSpec := { name := "noteTells", fn := fun _ => fun
  | [d1, d2] => { results := [.lit (.bool true)], args := [d1, d2] }
  | _ => none }
def noteTellsRow : OpenClaim := { program := "ytfjgcfloallohaa", sum := "7b5b046bc079d64c8e2c6dc4ffa881fa201ccd6194c9ac77a60e1e9d79a25c52", func := "tympan/tympanlaw11.NoteTells", spec := "noteTells", unfollowed := true, recurses := true, apart := false }
def NoteTellsSaid : Prop := noteTellsRow.holds Try.pinned (OpenSpec.ofChange noteTellsSpec)

/-- ITS FALSE NEIGHBOUR: 'it returns false'. Refute it at one input. -/
def noteTellsWrong : ChangeSpec := { name := "noteTells", fn := fun _ => fun
  | [d1, d2] => { results := [.lit (.bool false)], args := [d1, d2] }
  | _ => none }
def NoteTellsWrongFalsely : Prop := noteTellsRow.holds Try.pinned (OpenSpec.ofChange noteTellsWrong)

/-- 'tympanlaw11.NoteHigh': WHATEVER THE INPUT: true; the input reads as it did. -/
def noteHighSpec : ChangeSpec := { name := "noteHigh", fn := fun _ => fun
  | [d1, d2, d3] => { results := [.lit (.bool true)], args := [d1, d2, d3] }
  | _ => none }
def noteHighRow : OpenClaim := { program := "ytfjgcfloallohaa", sum := "7b5b046bc079d64c8e2c6dc4ffa881fa201ccd6194c9ac77a60e1e9d79a25c52", func := "tympan/tympanlaw11.NoteHigh", spec := "noteHigh", unfollowed := true, recurses := true, apart := false }
def NoteHighSaid : Prop := noteHighRow.holds Try.pinned (OpenSpec.ofChange noteHighSpec)

/-- ITS FALSE NEIGHBOUR: 'it returns false'. Refute it at one input. -/
def noteHighWrong : ChangeSpec := { name := "noteHigh", fn := fun _ => fun
  | [d1, d2, d3] => { results := [.lit (.bool false)], args := [d1, d2, d3] }
  | _ => none }
def NoteHighWrongFalsely : Prop := noteHighRow.holds Try.pinned (OpenSpec.ofChange noteHighWrong)

/-- 'tympanlaw11.NotePieces': WHATEVER THE INPUT: true; the input reads as it did. -/
def notePiecesSpec : ChangeSpec := { name := "notePieces", fn := fun _ => fun
  | [d1, d2] => { results := [.lit (.bool true)], args := [d1, d2] }
  | _ => none }
def notePiecesRow : OpenClaim := { program := "ytfjgcfloallohaa", sum := "7b5b046bc079d64c8e2c6dc4ffa881fa201ccd6194c9ac77a60e1e9d79a25c52", func := "tympan/tympanlaw11.NotePieces", spec := "notePieces", unfollowed := true, recurses := true, apart := false }
def NotePiecesSaid : Prop := notePiecesRow.holds Try.pinned (OpenSpec.ofChange notePiecesSpec)

/-- ITS FALSE NEIGHBOUR: 'it returns false'. Refute it at one input. -/
def notePiecesWrong : ChangeSpec := { name := "notePieces", fn := fun _ => fun
  | [d1, d2] => { results := [.lit (.bool false)], args := [d1, d2] }
  | _ => none }
def NotePiecesWrongFalsely : Prop := notePiecesRow.holds Try.pinned (OpenSpec.ofChange notePiecesWrong)

/-- 'tympanlaw22.SplitTells': WHATEVER THE INPUT: true; the input reads as it did. -/
def splitTellsSpec : ChangeSpec := { name := "splitTells", fn := fun _ => fun
  | [d1, d2, d3] => { results := [.lit (.bool true)], args := [d1, d2, d3] }
  | _ => none }
def splitTellsRow : OpenClaim := { program := "ytfjgcfloallohaa", sum := "7b5b046bc079d64c8e2c6dc4ffa881fa201ccd6194c9ac77a60e1e9d79a25c52", func := "tympan/tympanlaw22.SplitTells", spec := "splitTells", unfollowed := true, recurses := true, apart := false }
def SplitTellsSaid : Prop := splitTellsRow.holds Try.pinned (OpenSpec.ofChange splitTellsSpec)

/-- ITS FALSE NEIGHBOUR: 'it returns false'. Refute it at one input. -/
def splitTellsWrong : ChangeSpec := { name := "splitTells", fn := fun _ => fun
  | [d1, d2, d3] => { results := [.lit (.bool false)], args := [d1, d2, d3] }
  | _ => none }
def SplitTellsWrongFalsely : Prop := splitTellsRow.holds Try.pinned (OpenSpec.ofChange splitTellsWrong)

/-- 'tympanlaw14.GridStays': WHATEVER THE INPUT: true; the input reads as it did. -/
def gridStaysSpec : ChangeSpec := { name := "gridStays", fn := fun _ => fun
  | [d] => { results := [.lit (.bool true)], args := [d] }
  | _ => none }
def gridStaysRow : OpenClaim := { program := "ytfjgcfloallohaa", sum := "7b5b046bc079d64c8e2c6dc4ffa881fa201ccd6194c9ac77a60e1e9d79a25c52", func := "tympan/tympanlaw14.GridStays", spec := "gridStays", unfollowed := true, recurses := true, apart := false }
def GridStaysSaid : Prop := gridStaysRow.holds Try.pinned (OpenSpec.ofChange gridStaysSpec)

/-- ITS FALSE NEIGHBOUR: 'it returns false'. Refute it at one input. -/
def gridStaysWrong : ChangeSpec := { name := "gridStays", fn := fun _ => fun
  | [d] => { results := [.lit (.bool false)], args := [d] }
  | _ => none }
def GridStaysWrongFalsely : Prop := gridStaysRow.holds Try.pinned (OpenSpec.ofChange gridStaysWrong)

/-- 'tympanlaw14.GridSnaps': WHATEVER THE INPUT: true; the input reads as it did. -/
def gridSnapsSpec : ChangeSpec := { name := "gridSnaps", fn := fun _ => fun
  | [d1, d2] => { results := [.lit (.bool true)], args := [d1, d2] }
  | _ => none }
def gridSnapsRow : OpenClaim := { program := "ytfjgcfloallohaa", sum := "7b5b046bc079d64c8e2c6dc4ffa881fa201ccd6194c9ac77a60e1e9d79a25c52", func := "tympan/tympanlaw14.GridSnaps", spec := "gridSnaps", unfollowed := true, recurses := true, apart := false }
def GridSnapsSaid : Prop := gridSnapsRow.holds Try.pinned (OpenSpec.ofChange gridSnapsSpec)

/-- ITS FALSE NEIGHBOUR: 'it returns false'. Refute it at one input. -/
def gridSnapsWrong : ChangeSpec := { name := "gridSnaps", fn := fun _ => fun
  | [d1, d2] => { results := [.lit (.bool false)], args := [d1, d2] }
  | _ => none }
def GridSnapsWrongFalsely : Prop := gridSnapsRow.holds Try.pinned (OpenSpec.ofChange gridSnapsWrong)

/-- 'tympanlaw15.ValidTells': WHATEVER THE INPUT: true; the input reads as it did. -/
def validTellsSpec : ChangeSpec := { name := "validTells", fn := fun _ => fun
  | [d] => { results := [.lit (.bool true)], args := [d] }
  | _ => none }
def validTellsRow : OpenClaim := { program := "ytfjgcfloallohaa", sum := "7b5b046bc079d64c8e2c6dc4ffa881fa201ccd6194c9ac77a60e1e9d79a25c52", func := "tympan/tympanlaw15.ValidTells", spec := "validTells", unfollowed := true, recurses := true, apart := false }
def ValidTellsSaid : Prop := validTellsRow.holds Try.pinned (OpenSpec.ofChange validTellsSpec)

/-- ITS FALSE NEIGHBOUR: 'it returns false'. Refute it at one input. -/
def validTellsWrong : ChangeSpec := { name := "validTells", fn := fun _ => fun
  | [d] => { results := [.lit (.bool false)], args := [d] }
  | _ => none }
def ValidTellsWrongFalsely : Prop := validTellsRow.holds Try.pinned (OpenSpec.ofChange validTellsWrong)

/-- 'tympanlaw15.ValidMany': WHATEVER THE INPUT: true; the input reads as it did. -/
def validManySpec : ChangeSpec := { name := "validMany", fn := fun _ => fun
  | [d1, d2] => { results := [.lit (.bool true)], args := [d1, d2] }
  | _ => none }
def validManyRow : OpenClaim := { program := "ytfjgcfloallohaa", sum := "7b5b046bc079d64c8e2c6dc4ffa881fa201ccd6194c9ac77a60e1e9d79a25c52", func := "tympan/tympanlaw15.ValidMany", spec := "validMany", unfollowed := true, recurses := true, apart := false }
def ValidManySaid : Prop := validManyRow.holds Try.pinned (OpenSpec.ofChange validManySpec)

/-- ITS FALSE NEIGHBOUR: 'it returns false'. Refute it at one input. -/
def validManyWrong : ChangeSpec := { name := "validMany", fn := fun _ => fun
  | [d1, d2] => { results := [.lit (.bool false)], args := [d1, d2] }
  | _ => none }
def ValidManyWrongFalsely : Prop := validManyRow.holds Try.pinned (OpenSpec.ofChange validManyWrong)

/-- 'tympanlaw15.ValidLess': WHATEVER THE INPUT: true; the input reads as it did. -/
def validLessSpec : ChangeSpec := { name := "validLess", fn := fun _ => fun
  | [d1, d2] => { results := [.lit (.bool true)], args := [d1, d2] }
  | _ => none }
def validLessRow : OpenClaim := { program := "ytfjgcfloallohaa", sum := "7b5b046bc079d64c8e2c6dc4ffa881fa201ccd6194c9ac77a60e1e9d79a25c52", func := "tympan/tympanlaw15.ValidLess", spec := "validLess", unfollowed := true, recurses := true, apart := false }
def ValidLessSaid : Prop := validLessRow.holds Try.pinned (OpenSpec.ofChange validLessSpec)

/-- ITS FALSE NEIGHBOUR: 'it returns false'. Refute it at one input. -/
def validLessWrong : ChangeSpec := { name := "validLess", fn := fun _ => fun
  | [d1, d2] => { results := [.lit (.bool false)], args := [d1, d2] }
  | _ => none }
def ValidLessWrongFalsely : Prop := validLessRow.holds Try.pinned (OpenSpec.ofChange validLessWrong)

/-- 'tympanlaw15.ValidAnchors': WHATEVER THE INPUT: true; the input reads as it did. -/
def validAnchorsSpec : ChangeSpec := { name := "validAnchors", fn := fun _ => fun
  | [d1, d2] => { results := [.lit (.bool true)], args := [d1, d2] }
  | _ => none }
def validAnchorsRow : OpenClaim := { program := "ytfjgcfloallohaa", sum := "7b5b046bc079d64c8e2c6dc4ffa881fa201ccd6194c9ac77a60e1e9d79a25c52", func := "tympan/tympanlaw15.ValidAnchors", spec := "validAnchors", unfollowed := true, recurses := true, apart := false }
def ValidAnchorsSaid : Prop := validAnchorsRow.holds Try.pinned (OpenSpec.ofChange validAnchorsSpec)

/-- ITS FALSE NEIGHBOUR: 'it returns false'. Refute it at one input. -/
def validAnchorsWrong : ChangeSpec := { name := "validAnchors", fn := fun _ => fun
  | [d1, d2] => { results := [.lit (.bool false)], args := [d1, d2] }
  | _ => none }
def ValidAnchorsWrongFalsely : Prop := validAnchorsRow.holds Try.pinned (OpenSpec.ofChange validAnchorsWrong)

/-- 'tympanlaw41.CheckParts': WHATEVER THE INPUT: true; the input reads as it did. -/
def checkPartsSpec : ChangeSpec := { name := "checkParts", fn := fun _ => fun
  | [d1, d2] => { results := [.lit (.bool true)], args := [d1, d2] }
  | _ => none }
def checkPartsRow : OpenClaim := { program := "ytfjgcfloallohaa", sum := "7b5b046bc079d64c8e2c6dc4ffa881fa201ccd6194c9ac77a60e1e9d79a25c52", func := "tympan/tympanlaw41.CheckParts", spec := "checkParts", unfollowed := true, recurses := true, apart := false }
def CheckPartsSaid : Prop := checkPartsRow.holds Try.pinned (OpenSpec.ofChange checkPartsSpec)

/-- ITS FALSE NEIGHBOUR: 'it returns false'. Refute it at one input. -/
def checkPartsWrong : ChangeSpec := { name := "checkParts", fn := fun _ => fun
  | [d1, d2] => { results := [.lit (.bool false)], args := [d1, d2] }
  | _ => none }
def CheckPartsWrongFalsely : Prop := checkPartsRow.holds Try.pinned (OpenSpec.ofChange checkPartsWrong)

/-- 'tympanlaw23.QueueTwice': WHATEVER THE INPUT: true; the input reads as it did. -/
def queueTwiceSpec : ChangeSpec := { name := "queueTwice", fn := fun _ => fun
  | [d1, d2] => { results := [.lit (.bool true)], args := [d1, d2] }
  | _ => none }
def queueTwiceRow : OpenClaim := { program := "ytfjgcfloallohaa", sum := "7b5b046bc079d64c8e2c6dc4ffa881fa201ccd6194c9ac77a60e1e9d79a25c52", func := "tympan/tympanlaw23.QueueTwice", spec := "queueTwice", unfollowed := true, recurses := true, apart := false }
def QueueTwiceSaid : Prop := queueTwiceRow.holds Try.pinned (OpenSpec.ofChange queueTwiceSpec)

/-- ITS FALSE NEIGHBOUR: 'it returns false'. Refute it at one input. -/
def queueTwiceWrong : ChangeSpec := { name := "queueTwice", fn := fun _ => fun
  | [d1, d2] => { results := [.lit (.bool false)], args := [d1, d2] }
  | _ => none }
def QueueTwiceWrongFalsely : Prop := queueTwiceRow.holds Try.pinned (OpenSpec.ofChange queueTwiceWrong)

/-- 'tympanlaw23.QueueCounts': WHATEVER THE INPUT: true; the input reads as it did. -/
def queueCountsSpec : ChangeSpec := { name := "queueCounts", fn := fun _ => fun
  | [d1, d2, d3] => { results := [.lit (.bool true)], args := [d1, d2, d3] }
  | _ => none }
def queueCountsRow : OpenClaim := { program := "ytfjgcfloallohaa", sum := "7b5b046bc079d64c8e2c6dc4ffa881fa201ccd6194c9ac77a60e1e9d79a25c52", func := "tympan/tympanlaw23.QueueCounts", spec := "queueCounts", unfollowed := true, recurses := true, apart := false }
def QueueCountsSaid : Prop := queueCountsRow.holds Try.pinned (OpenSpec.ofChange queueCountsSpec)

/-- ITS FALSE NEIGHBOUR: 'it returns false'. Refute it at one input. -/
def queueCountsWrong : ChangeSpec := { name := "queueCounts", fn := fun _ => fun
  | [d1, d2, d3] => { results := [.lit (.bool false)], args := [d1, d2, d3] }
  | _ => none }
def QueueCountsWrongFalsely : Prop := queueCountsRow.holds Try.pinned (OpenSpec.ofChange queueCountsWrong)

/-- 'tympanlaw24.AreaOrder': WHATEVER THE INPUT: true; the input reads as it did. -/
def areaOrderSpec : ChangeSpec := { name := "areaOrder", fn := fun _ => fun
  | [d1, d2, d3] => { results := [.lit (.bool true)], args := [d1, d2, d3] }
  | _ => none }
def areaOrderRow : OpenClaim := { program := "ytfjgcfloallohaa", sum := "7b5b046bc079d64c8e2c6dc4ffa881fa201ccd6194c9ac77a60e1e9d79a25c52", func := "tympan/tympanlaw24.AreaOrder", spec := "areaOrder", unfollowed := true, recurses := true, apart := false }
def AreaOrderSaid : Prop := areaOrderRow.holds Try.pinned (OpenSpec.ofChange areaOrderSpec)

/-- ITS FALSE NEIGHBOUR: 'it returns false'. Refute it at one input. -/
def areaOrderWrong : ChangeSpec := { name := "areaOrder", fn := fun _ => fun
  | [d1, d2, d3] => { results := [.lit (.bool false)], args := [d1, d2, d3] }
  | _ => none }
def AreaOrderWrongFalsely : Prop := areaOrderRow.holds Try.pinned (OpenSpec.ofChange areaOrderWrong)

/- THE SECOND FORM. 'bulk': how many values and letters a reading holds, each counted each time it is reached (what is shared counts as often as it is met; a slice's spare places count too). A statement '..UptoSaid' is the law's where the arguments, and the package variables that the reading takes, are together of bulk at most 1048576: NARROWER than '..Said'. Prove '..Said' where nothing that the law and all that it calls make is longer than what came in: it says more and counts as full. Else prove '..UptoSaid'. A law counts once. -/
mutual
def uptoBulk {H : Type} : DataW H → Nat
  | .lit (.string bytes) => bytes.length + 1
  | .lit _ => 1
  | .nil => 1
  | .ptr d => uptoBulk d + 1
  | .slice elems spare => uptoBulkAll elems + uptoBulkAll spare + 1
  | .agg parts => uptoBulkAll parts + 1
  | .iface _ d => uptoBulk d + 1
  | .map entries => uptoBulkEntries entries + 1
  | .held _ => 1
def uptoBulkAll {H : Type} : List (DataW H) → Nat
  | [] => 0
  | d :: r => uptoBulk d + uptoBulkAll r
def uptoBulkEntries {H : Type} : List (Lit × DataW H) → Nat
  | [] => 0
  | x :: r => uptoBulkEntry x + uptoBulkEntries r
def uptoBulkEntry {H : Type} : Lit × DataW H → Nat
  | (.string bytes, d) => bytes.length + uptoBulk d + 1
  | (_, d) => uptoBulk d + 1
 end
def uptoSmall : (H : Type) → List (DataW H) → Bool := fun _ ds => decide (uptoBulkAll ds ≤ 1048576)
def OpenSpec.upto (s : _root_.Go.ChangeSpec) : _root_.Go.OpenSpec := { _root_.Go.OpenSpec.ofChange s with cond := some uptoSmall }

/-- 'tympanlaw11.NoteTells', WHERE WHAT IT READS IS OF BULK AT MOST 1048576: true; the input reads as it did. -/
def noteTellsUptoRow : OpenClaim := { program := "ytfjgcfloallohaa", sum := "7b5b046bc079d64c8e2c6dc4ffa881fa201ccd6194c9ac77a60e1e9d79a25c52", func := "tympan/tympanlaw11.NoteTells", spec := "noteTells", unfollowed := true, recurses := true, apart := false, narrowed := true }
def NoteTellsUptoSaid : Prop := noteTellsUptoRow.holds Try.pinned (OpenSpec.upto noteTellsSpec)

/-- 'tympanlaw11.NoteHigh', WHERE WHAT IT READS IS OF BULK AT MOST 1048576: true; the input reads as it did. -/
def noteHighUptoRow : OpenClaim := { program := "ytfjgcfloallohaa", sum := "7b5b046bc079d64c8e2c6dc4ffa881fa201ccd6194c9ac77a60e1e9d79a25c52", func := "tympan/tympanlaw11.NoteHigh", spec := "noteHigh", unfollowed := true, recurses := true, apart := false, narrowed := true }
def NoteHighUptoSaid : Prop := noteHighUptoRow.holds Try.pinned (OpenSpec.upto noteHighSpec)

/-- 'tympanlaw11.NotePieces', WHERE WHAT IT READS IS OF BULK AT MOST 1048576: true; the input reads as it did. -/
def notePiecesUptoRow : OpenClaim := { program := "ytfjgcfloallohaa", sum := "7b5b046bc079d64c8e2c6dc4ffa881fa201ccd6194c9ac77a60e1e9d79a25c52", func := "tympan/tympanlaw11.NotePieces", spec := "notePieces", unfollowed := true, recurses := true, apart := false, narrowed := true }
def NotePiecesUptoSaid : Prop := notePiecesUptoRow.holds Try.pinned (OpenSpec.upto notePiecesSpec)

/-- 'tympanlaw22.SplitTells', WHERE WHAT IT READS IS OF BULK AT MOST 1048576: true; the input reads as it did. -/
def splitTellsUptoRow : OpenClaim := { program := "ytfjgcfloallohaa", sum := "7b5b046bc079d64c8e2c6dc4ffa881fa201ccd6194c9ac77a60e1e9d79a25c52", func := "tympan/tympanlaw22.SplitTells", spec := "splitTells", unfollowed := true, recurses := true, apart := false, narrowed := true }
def SplitTellsUptoSaid : Prop := splitTellsUptoRow.holds Try.pinned (OpenSpec.upto splitTellsSpec)

/-- 'tympanlaw14.GridStays', WHERE WHAT IT READS IS OF BULK AT MOST 1048576: true; the input reads as it did. -/
def gridStaysUptoRow : OpenClaim := { program := "ytfjgcfloallohaa", sum := "7b5b046bc079d64c8e2c6dc4ffa881fa201ccd6194c9ac77a60e1e9d79a25c52", func := "tympan/tympanlaw14.GridStays", spec := "gridStays", unfollowed := true, recurses := true, apart := false, narrowed := true }
def GridStaysUptoSaid : Prop := gridStaysUptoRow.holds Try.pinned (OpenSpec.upto gridStaysSpec)

/-- 'tympanlaw14.GridSnaps', WHERE WHAT IT READS IS OF BULK AT MOST 1048576: true; the input reads as it did. -/
def gridSnapsUptoRow : OpenClaim := { program := "ytfjgcfloallohaa", sum := "7b5b046bc079d64c8e2c6dc4ffa881fa201ccd6194c9ac77a60e1e9d79a25c52", func := "tympan/tympanlaw14.GridSnaps", spec := "gridSnaps", unfollowed := true, recurses := true, apart := false, narrowed := true }
def GridSnapsUptoSaid : Prop := gridSnapsUptoRow.holds Try.pinned (OpenSpec.upto gridSnapsSpec)

/-- 'tympanlaw15.ValidTells', WHERE WHAT IT READS IS OF BULK AT MOST 1048576: true; the input reads as it did. -/
def validTellsUptoRow : OpenClaim := { program := "ytfjgcfloallohaa", sum := "7b5b046bc079d64c8e2c6dc4ffa881fa201ccd6194c9ac77a60e1e9d79a25c52", func := "tympan/tympanlaw15.ValidTells", spec := "validTells", unfollowed := true, recurses := true, apart := false, narrowed := true }
def ValidTellsUptoSaid : Prop := validTellsUptoRow.holds Try.pinned (OpenSpec.upto validTellsSpec)

/-- 'tympanlaw15.ValidMany', WHERE WHAT IT READS IS OF BULK AT MOST 1048576: true; the input reads as it did. -/
def validManyUptoRow : OpenClaim := { program := "ytfjgcfloallohaa", sum := "7b5b046bc079d64c8e2c6dc4ffa881fa201ccd6194c9ac77a60e1e9d79a25c52", func := "tympan/tympanlaw15.ValidMany", spec := "validMany", unfollowed := true, recurses := true, apart := false, narrowed := true }
def ValidManyUptoSaid : Prop := validManyUptoRow.holds Try.pinned (OpenSpec.upto validManySpec)

/-- 'tympanlaw15.ValidLess', WHERE WHAT IT READS IS OF BULK AT MOST 1048576: true; the input reads as it did. -/
def validLessUptoRow : OpenClaim := { program := "ytfjgcfloallohaa", sum := "7b5b046bc079d64c8e2c6dc4ffa881fa201ccd6194c9ac77a60e1e9d79a25c52", func := "tympan/tympanlaw15.ValidLess", spec := "validLess", unfollowed := true, recurses := true, apart := false, narrowed := true }
def ValidLessUptoSaid : Prop := validLessUptoRow.holds Try.pinned (OpenSpec.upto validLessSpec)

/-- 'tympanlaw15.ValidAnchors', WHERE WHAT IT READS IS OF BULK AT MOST 1048576: true; the input reads as it did. -/
def validAnchorsUptoRow : OpenClaim := { program := "ytfjgcfloallohaa", sum := "7b5b046bc079d64c8e2c6dc4ffa881fa201ccd6194c9ac77a60e1e9d79a25c52", func := "tympan/tympanlaw15.ValidAnchors", spec := "validAnchors", unfollowed := true, recurses := true, apart := false, narrowed := true }
def ValidAnchorsUptoSaid : Prop := validAnchorsUptoRow.holds Try.pinned (OpenSpec.upto validAnchorsSpec)

/-- 'tympanlaw41.CheckParts', WHERE WHAT IT READS IS OF BULK AT MOST 1048576: true; the input reads as it did. -/
def checkPartsUptoRow : OpenClaim := { program := "ytfjgcfloallohaa", sum := "7b5b046bc079d64c8e2c6dc4ffa881fa201ccd6194c9ac77a60e1e9d79a25c52", func := "tympan/tympanlaw41.CheckParts", spec := "checkParts", unfollowed := true, recurses := true, apart := false, narrowed := true }
def CheckPartsUptoSaid : Prop := checkPartsUptoRow.holds Try.pinned (OpenSpec.upto checkPartsSpec)

/-- 'tympanlaw23.QueueTwice', WHERE WHAT IT READS IS OF BULK AT MOST 1048576: true; the input reads as it did. -/
def queueTwiceUptoRow : OpenClaim := { program := "ytfjgcfloallohaa", sum := "7b5b046bc079d64c8e2c6dc4ffa881fa201ccd6194c9ac77a60e1e9d79a25c52", func := "tympan/tympanlaw23.QueueTwice", spec := "queueTwice", unfollowed := true, recurses := true, apart := false, narrowed := true }
def QueueTwiceUptoSaid : Prop := queueTwiceUptoRow.holds Try.pinned (OpenSpec.upto queueTwiceSpec)

/-- 'tympanlaw23.QueueCounts', WHERE WHAT IT READS IS OF BULK AT MOST 1048576: true; the input reads as it did. -/
def queueCountsUptoRow : OpenClaim := { program := "ytfjgcfloallohaa", sum := "7b5b046bc079d64c8e2c6dc4ffa881fa201ccd6194c9ac77a60e1e9d79a25c52", func := "tympan/tympanlaw23.QueueCounts", spec := "queueCounts", unfollowed := true, recurses := true, apart := false, narrowed := true }
def QueueCountsUptoSaid : Prop := queueCountsUptoRow.holds Try.pinned (OpenSpec.upto queueCountsSpec)

/-- 'tympanlaw24.AreaOrder', WHERE WHAT IT READS IS OF BULK AT MOST 1048576: true; the input reads as it did. -/
def areaOrderUptoRow : OpenClaim := { program := "ytfjgcfloallohaa", sum := "7b5b046bc079d64c8e2c6dc4ffa881fa201ccd6194c9ac77a60e1e9d79a25c52", func := "tympan/tympanlaw24.AreaOrder", spec := "areaOrder", unfollowed := true, recurses := true, apart := false, narrowed := true }
def AreaOrderUptoSaid : Prop := areaOrderUptoRow.holds Try.pinned (OpenSpec.upto areaOrderSpec)

end Rows
end Go.Proofs.Ytfjgcfloallohaa
