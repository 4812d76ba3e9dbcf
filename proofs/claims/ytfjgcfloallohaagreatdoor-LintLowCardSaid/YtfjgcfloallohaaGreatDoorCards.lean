/-
  DERIVED. GIVEN WITH THE SEED: THE CARDS: each row of YtfjgcfloallohaaGreatDoorRows.lean that lists a variable, with what it lists TIED to the program's text (the seventh form; the later family's looks); each row that meets fmt, with fmt's text TOLD by the authors' own Lean function (tested against real Go, not proved from fmt's source: count such statements apart). THE CARD IS WHAT COUNTS. Prove the row's statement (the work); the ties are given (YtfjgcfloallohaaGreatDoorTie.lean); close each card by the builder's one call (the guide's Derived/Test/ToyasCard.lean, 'card_holds'). Laid BY PROGRAM, IN A SANDBOX (cutbox-door.mjs). By AI agents, Wed Nov 11 2026. No macro, syntax, notation, axiom, sorry.
-/
import Derived.Test.YtfjgcfloallohaaGreatDoorRows
import GoSem.ClaimSeven
namespace Go.Proofs.YtfjgcfloallohaaGreatDoor
namespace Rows

/-- THE TIED CARD OF 'tympanlaw50.LintTells'. -/
def lintTellsCard : Claim7 := { stood := { row := lintTellsRow, standIns := [], harness := (true, "0b6a31517bb49aff18fe52be0754ab9619ca360edc93f86839a6848b36d5d9e0"), looks := false }, kinds := [], alts := [], laidByText := true, laidKinds := [.data], laidTests := true, laidLooks := .later }
def LintTellsCardSaid : Prop := Claim7.holds Tryz.pinned (.plain (OpenSpec.ofChange lintTellsSpec)) lintTellsCard

/-- THE TIED CARD OF 'tympanlaw50.LintKinds'. -/
def lintKindsCard : Claim7 := { stood := { row := lintKindsRow, standIns := [], harness := (true, "0b6a31517bb49aff18fe52be0754ab9619ca360edc93f86839a6848b36d5d9e0"), looks := false }, kinds := [], alts := [], laidByText := true, laidKinds := [.data], laidTests := true, laidLooks := .later }
def LintKindsCardSaid : Prop := Claim7.holds Tryz.pinned (.plain (OpenSpec.ofChange lintKindsSpec)) lintKindsCard

/-- THE TIED CARD OF 'tympanlaw50.LintLow'. -/
def lintLowCard : Claim7 := { stood := { row := lintLowRow, standIns := [], harness := (true, "0b6a31517bb49aff18fe52be0754ab9619ca360edc93f86839a6848b36d5d9e0"), looks := false }, kinds := [], alts := [], laidByText := true, laidKinds := [.data], laidTests := true, laidLooks := .later }
def LintLowCardSaid : Prop := Claim7.holds Tryz.pinned (.plain (OpenSpec.ofChange lintLowSpec)) lintLowCard

/-- THE SECOND FORM's CARD OF 'tympanlaw50.LintTells'. -/
def lintTellsUptoCard : Claim7 := { stood := { row := lintTellsUptoRow, standIns := [], harness := (true, "0b6a31517bb49aff18fe52be0754ab9619ca360edc93f86839a6848b36d5d9e0"), looks := false }, kinds := [], alts := [], laidByText := true, laidKinds := [.data], laidTests := true, laidLooks := .later }
def LintTellsUptoCardSaid : Prop := Claim7.holds Tryz.pinned (.plain (OpenSpec.upto lintTellsSpec)) lintTellsUptoCard

/-- THE SECOND FORM's CARD OF 'tympanlaw50.LintKinds'. -/
def lintKindsUptoCard : Claim7 := { stood := { row := lintKindsUptoRow, standIns := [], harness := (true, "0b6a31517bb49aff18fe52be0754ab9619ca360edc93f86839a6848b36d5d9e0"), looks := false }, kinds := [], alts := [], laidByText := true, laidKinds := [.data], laidTests := true, laidLooks := .later }
def LintKindsUptoCardSaid : Prop := Claim7.holds Tryz.pinned (.plain (OpenSpec.upto lintKindsSpec)) lintKindsUptoCard

/-- THE SECOND FORM's CARD OF 'tympanlaw50.LintLow'. -/
def lintLowUptoCard : Claim7 := { stood := { row := lintLowUptoRow, standIns := [], harness := (true, "0b6a31517bb49aff18fe52be0754ab9619ca360edc93f86839a6848b36d5d9e0"), looks := false }, kinds := [], alts := [], laidByText := true, laidKinds := [.data], laidTests := true, laidLooks := .later }
def LintLowUptoCardSaid : Prop := Claim7.holds Tryz.pinned (.plain (OpenSpec.upto lintLowSpec)) lintLowUptoCard
end Rows
end Go.Proofs.YtfjgcfloallohaaGreatDoor
