/-
  NARROWER THAN 'FOR EVERY INPUT', by the rows' own cells (each row's printed sentence says how): LintTells: laid · LintKinds: laid · LintLow: laid.
  DERIVED. THE GIVEN ROWS OF THIS SEAT. 3 by the template 'for every input the law returns true; each argument reads behind the call as it read before'; 0 by the template 'total and deterministic' (their statements: YtfjgcfloallohaaGreatDoorTotals.lean).
  GIVEN WITH THE SEED: the statements are not yours to turn. If you find one false, say at which input.
  Laid BY PROGRAM, IN A SANDBOX (cutbox-rows.mjs): the forced cells as the released guide's own fill.sh prints them over the translation fd4e77fa2b590ac9… (all of the seat's roots in one cut). By AI agents, Wed Nov 11 2026. No macro, syntax, notation, axiom, sorry.
-/
import Derived.Test.YtfjgcfloallohaaGreatDoorChecked
import GoSem.Claim
import GoSem.ClaimJoined
import GoSem.ClaimMapViews
import Derived.JoinedTies
import Derived.KernelRfl
namespace Go.Proofs.YtfjgcfloallohaaGreatDoor
/- THE CELL 'sum', in the pinned program and in every row, IS THE sha256 OF THE DUMP (.gsa) THAT YtfjgcfloallohaaGreatDoorProg.lean LOADS. Nothing in Lean hashes anything: it is a label: what it is worth is what the hold of that sum in a sandbox is worth. -/
noncomputable def Tryz.pinned : Pinned := { name := "ytfjgcfloallohaagreatdoor", sum := "fd4e77fa2b590ac96f8bce7f5ceec6cd89e209b74717837ba589d24442dad79c", checked := Tryz.checked }
namespace Rows
def none {H : Type} : Left H := { results := [], args := [] }

/- WHAT THE LISTED PACKAGE-LEVEL VARIABLES READ AS WHEN THE CALL BEGINS. Each datum BY PROGRAM (the guide's laid-datum.mjs) off the statement by which the dump's own 'gosem.cut.vars' lays the variable. In a bare row this is a premise. The card (YtfjgcfloallohaaGreatDoorCards.lean) ties it to the program's text. -/
def laid_tympan_lint_names {H : Type} : DataW H := .agg [.lit (.string [110, 111, 110, 101]), .lit (.string [116, 97, 108, 108]), .lit (.string [108, 111, 110, 103]), .lit (.string [115, 116, 117, 99, 107]), .lit (.string [108, 111, 115, 116]), .lit (.string [105, 100, 108, 101])]

/-- 'tympanlaw50.LintTells': WHATEVER THE INPUT: true; the input reads as it did. -/
def lintTellsSpec : ChangeSpec := { name := "lintTells", fn := fun _ => fun
  | [d] => { results := [.lit (.bool true)], args := [d] }
  | _ => none }
def lintTellsRow : OpenClaim := { program := "ytfjgcfloallohaagreatdoor", sum := "fd4e77fa2b590ac96f8bce7f5ceec6cd89e209b74717837ba589d24442dad79c", func := "tympan/tympanlaw50.LintTells", spec := "lintTells", unfollowed := true, recurses := true, named := ["tympan/lint.names"], apart := false, laid := [("tympan/lint.names", laid_tympan_lint_names)] }
def LintTellsSaid : Prop := lintTellsRow.holds Tryz.pinned (OpenSpec.ofChange lintTellsSpec)

/-- ITS FALSE NEIGHBOUR: 'it returns false'. Refute it at one input. -/
def lintTellsWrong : ChangeSpec := { name := "lintTells", fn := fun _ => fun
  | [d] => { results := [.lit (.bool false)], args := [d] }
  | _ => none }
def LintTellsWrongFalsely : Prop := lintTellsRow.holds Tryz.pinned (OpenSpec.ofChange lintTellsWrong)

/-- 'tympanlaw50.LintKinds': WHATEVER THE INPUT: true; the input reads as it did. -/
def lintKindsSpec : ChangeSpec := { name := "lintKinds", fn := fun _ => fun
  | [d1, d2] => { results := [.lit (.bool true)], args := [d1, d2] }
  | _ => none }
def lintKindsRow : OpenClaim := { program := "ytfjgcfloallohaagreatdoor", sum := "fd4e77fa2b590ac96f8bce7f5ceec6cd89e209b74717837ba589d24442dad79c", func := "tympan/tympanlaw50.LintKinds", spec := "lintKinds", unfollowed := true, recurses := true, named := ["tympan/lint.names"], apart := false, laid := [("tympan/lint.names", laid_tympan_lint_names)] }
def LintKindsSaid : Prop := lintKindsRow.holds Tryz.pinned (OpenSpec.ofChange lintKindsSpec)

/-- ITS FALSE NEIGHBOUR: 'it returns false'. Refute it at one input. -/
def lintKindsWrong : ChangeSpec := { name := "lintKinds", fn := fun _ => fun
  | [d1, d2] => { results := [.lit (.bool false)], args := [d1, d2] }
  | _ => none }
def LintKindsWrongFalsely : Prop := lintKindsRow.holds Tryz.pinned (OpenSpec.ofChange lintKindsWrong)

/-- 'tympanlaw50.LintLow': WHATEVER THE INPUT: true; the input reads as it did. -/
def lintLowSpec : ChangeSpec := { name := "lintLow", fn := fun _ => fun
  | [d] => { results := [.lit (.bool true)], args := [d] }
  | _ => none }
def lintLowRow : OpenClaim := { program := "ytfjgcfloallohaagreatdoor", sum := "fd4e77fa2b590ac96f8bce7f5ceec6cd89e209b74717837ba589d24442dad79c", func := "tympan/tympanlaw50.LintLow", spec := "lintLow", unfollowed := true, recurses := true, named := ["tympan/lint.names"], apart := false, laid := [("tympan/lint.names", laid_tympan_lint_names)] }
def LintLowSaid : Prop := lintLowRow.holds Tryz.pinned (OpenSpec.ofChange lintLowSpec)

/-- ITS FALSE NEIGHBOUR: 'it returns false'. Refute it at one input. -/
def lintLowWrong : ChangeSpec := { name := "lintLow", fn := fun _ => fun
  | [d] => { results := [.lit (.bool false)], args := [d] }
  | _ => none }
def LintLowWrongFalsely : Prop := lintLowRow.holds Tryz.pinned (OpenSpec.ofChange lintLowWrong)

/- THE SECOND FORM. 'bulk': how many values and letters a reading holds, each counted each time it is reached (what is shared counts as often as it is met; a slice's spare places count too). A statement '..UptoSaid' is the law's where the arguments, and the package variables that the reading takes, are together of bulk at most 1048576: NARROWER than '..Said'. Prove '..Said' where nothing that the law and all that it calls make is longer than what came in: it says more and counts as full. Else prove '..UptoSaid'. A law counts once. -/
mutual
def uptoBulk {H : Type} : DataW H → Nat
  | .lit (.string bytes) => bytes.length + 1
  | .lit _ => 1
  | .nil => 1
  | .ptr d => uptoBulk d + 1
  | .slice elems spare => uptoBulkAll elems + uptoBulkAll spare + 1
  | .agg parts => uptoBulkAll parts + 1
  | .iface _ d => uptoBulk d + 1
  | .map entries => uptoBulkEntries entries + 1
  | .held _ => 1
def uptoBulkAll {H : Type} : List (DataW H) → Nat
  | [] => 0
  | d :: r => uptoBulk d + uptoBulkAll r
def uptoBulkEntries {H : Type} : List (Lit × DataW H) → Nat
  | [] => 0
  | x :: r => uptoBulkEntry x + uptoBulkEntries r
def uptoBulkEntry {H : Type} : Lit × DataW H → Nat
  | (.string bytes, d) => bytes.length + uptoBulk d + 1
  | (_, d) => uptoBulk d + 1
 end
def uptoSmall : (H : Type) → List (DataW H) → Bool := fun _ ds => decide (uptoBulkAll ds ≤ 1048576)
def OpenSpec.upto (s : _root_.Go.ChangeSpec) : _root_.Go.OpenSpec := { _root_.Go.OpenSpec.ofChange s with cond := some uptoSmall }

/-- 'tympanlaw50.LintTells', WHERE WHAT IT READS IS OF BULK AT MOST 1048576: true; the input reads as it did. -/
def lintTellsUptoRow : OpenClaim := { program := "ytfjgcfloallohaagreatdoor", sum := "fd4e77fa2b590ac96f8bce7f5ceec6cd89e209b74717837ba589d24442dad79c", func := "tympan/tympanlaw50.LintTells", spec := "lintTells", unfollowed := true, recurses := true, named := ["tympan/lint.names"], apart := false, laid := [("tympan/lint.names", laid_tympan_lint_names)], narrowed := true }
def LintTellsUptoSaid : Prop := lintTellsUptoRow.holds Tryz.pinned (OpenSpec.upto lintTellsSpec)

/-- 'tympanlaw50.LintKinds', WHERE WHAT IT READS IS OF BULK AT MOST 1048576: true; the input reads as it did. -/
def lintKindsUptoRow : OpenClaim := { program := "ytfjgcfloallohaagreatdoor", sum := "fd4e77fa2b590ac96f8bce7f5ceec6cd89e209b74717837ba589d24442dad79c", func := "tympan/tympanlaw50.LintKinds", spec := "lintKinds", unfollowed := true, recurses := true, named := ["tympan/lint.names"], apart := false, laid := [("tympan/lint.names", laid_tympan_lint_names)], narrowed := true }
def LintKindsUptoSaid : Prop := lintKindsUptoRow.holds Tryz.pinned (OpenSpec.upto lintKindsSpec)

/-- 'tympanlaw50.LintLow', WHERE WHAT IT READS IS OF BULK AT MOST 1048576: true; the input reads as it did. -/
def lintLowUptoRow : OpenClaim := { program := "ytfjgcfloallohaagreatdoor", sum := "fd4e77fa2b590ac96f8bce7f5ceec6cd89e209b74717837ba589d24442dad79c", func := "tympan/tympanlaw50.LintLow", spec := "lintLow", unfollowed := true, recurses := true, named := ["tympan/lint.names"], apart := false, laid := [("tympan/lint.names", laid_tympan_lint_names)], narrowed := true }
def LintLowUptoSaid : Prop := lintLowUptoRow.holds Tryz.pinned (OpenSpec.upto lintLowSpec)

end Rows
end Go.Proofs.YtfjgcfloallohaaGreatDoor
