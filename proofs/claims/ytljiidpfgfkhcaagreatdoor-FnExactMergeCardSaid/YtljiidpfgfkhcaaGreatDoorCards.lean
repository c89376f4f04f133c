/-
  DERIVED. GIVEN WITH THE SEED: THE CARDS: each row of YtljiidpfgfkhcaaGreatDoorRows.lean that lists a variable, with what it lists TIED to the program's text (the seventh form; the later family's looks); each row that meets fmt, with fmt's text TOLD by the authors' own Lean function (tested against real Go, not proved from fmt's source: count such statements apart). THE CARD IS WHAT COUNTS. Prove the row's statement (the work); the ties are given (YtljiidpfgfkhcaaGreatDoorTie.lean); close each card by the builder's one call (the guide's Derived/Test/ToyasCard.lean, 'card_holds'). Laid BY PROGRAM, IN A SANDBOX (cutbox-door.mjs). By AI agents, Wed Nov 11 2026. No macro, syntax, notation, axiom, sorry.
-/
import Derived.Test.YtljiidpfgfkhcaaGreatDoorRows
import GoSem.ClaimSeven
namespace Go.Proofs.YtljiidpfgfkhcaaGreatDoor
namespace Rows

/-- THE TIED CARD OF 'laws.FnExactDump'. -/
def fnExactDumpCard : Claim7 := { stood := { row := fnExactDumpRow, standIns := [], harness := (true, "e098bcd572112fa9cf3aa600d39bbeef566960079e1cafe5b4692c6963d0c269"), looks := false }, kinds := [], alts := [], laidByText := true, laidKinds := [.data, .data, .data], laidTests := true, laidLooks := .later }
def FnExactDumpCardSaid : Prop := Claim7.holds Tryz.pinned (.plain (OpenSpec.ofChange fnExactDumpSpec)) fnExactDumpCard

/-- THE TIED CARD OF 'laws.FnExactRotate'. -/
def fnExactRotateCard : Claim7 := { stood := { row := fnExactRotateRow, standIns := [], harness := (true, "e098bcd572112fa9cf3aa600d39bbeef566960079e1cafe5b4692c6963d0c269"), looks := false }, kinds := [], alts := [], laidByText := true, laidKinds := [.data, .data, .data], laidTests := true, laidLooks := .later }
def FnExactRotateCardSaid : Prop := Claim7.holds Tryz.pinned (.plain (OpenSpec.ofChange fnExactRotateSpec)) fnExactRotateCard

/-- THE TIED CARD OF 'laws.FnExactCommit'. -/
def fnExactCommitCard : Claim7 := { stood := { row := fnExactCommitRow, standIns := [], harness := (true, "e098bcd572112fa9cf3aa600d39bbeef566960079e1cafe5b4692c6963d0c269"), looks := false }, kinds := [], alts := [], laidByText := true, laidKinds := [.data, .data, .data], laidTests := true, laidLooks := .later }
def FnExactCommitCardSaid : Prop := Claim7.holds Tryz.pinned (.plain (OpenSpec.ofChange fnExactCommitSpec)) fnExactCommitCard

/-- THE TIED CARD OF 'laws.FnExactMerge'. -/
def fnExactMergeCard : Claim7 := { stood := { row := fnExactMergeRow, standIns := [], harness := (true, "e098bcd572112fa9cf3aa600d39bbeef566960079e1cafe5b4692c6963d0c269"), looks := false }, kinds := [], alts := [], laidByText := true, laidKinds := [.data, .data, .data], laidTests := true, laidLooks := .later }
def FnExactMergeCardSaid : Prop := Claim7.holds Tryz.pinned (.plain (OpenSpec.ofChange fnExactMergeSpec)) fnExactMergeCard

/-- THE SECOND FORM's CARD OF 'laws.FnExactDump'. -/
def fnExactDumpUptoCard : Claim7 := { stood := { row := fnExactDumpUptoRow, standIns := [], harness := (true, "e098bcd572112fa9cf3aa600d39bbeef566960079e1cafe5b4692c6963d0c269"), looks := false }, kinds := [], alts := [], laidByText := true, laidKinds := [.data, .data, .data], laidTests := true, laidLooks := .later }
def FnExactDumpUptoCardSaid : Prop := Claim7.holds Tryz.pinned (.plain (OpenSpec.upto fnExactDumpSpec)) fnExactDumpUptoCard

/-- THE SECOND FORM's CARD OF 'laws.FnExactRotate'. -/
def fnExactRotateUptoCard : Claim7 := { stood := { row := fnExactRotateUptoRow, standIns := [], harness := (true, "e098bcd572112fa9cf3aa600d39bbeef566960079e1cafe5b4692c6963d0c269"), looks := false }, kinds := [], alts := [], laidByText := true, laidKinds := [.data, .data, .data], laidTests := true, laidLooks := .later }
def FnExactRotateUptoCardSaid : Prop := Claim7.holds Tryz.pinned (.plain (OpenSpec.upto fnExactRotateSpec)) fnExactRotateUptoCard

/-- THE SECOND FORM's CARD OF 'laws.FnExactCommit'. -/
def fnExactCommitUptoCard : Claim7 := { stood := { row := fnExactCommitUptoRow, standIns := [], harness := (true, "e098bcd572112fa9cf3aa600d39bbeef566960079e1cafe5b4692c6963d0c269"), looks := false }, kinds := [], alts := [], laidByText := true, laidKinds := [.data, .data, .data], laidTests := true, laidLooks := .later }
def FnExactCommitUptoCardSaid : Prop := Claim7.holds Tryz.pinned (.plain (OpenSpec.upto fnExactCommitSpec)) fnExactCommitUptoCard

/-- THE SECOND FORM's CARD OF 'laws.FnExactMerge'. -/
def fnExactMergeUptoCard : Claim7 := { stood := { row := fnExactMergeUptoRow, standIns := [], harness := (true, "e098bcd572112fa9cf3aa600d39bbeef566960079e1cafe5b4692c6963d0c269"), looks := false }, kinds := [], alts := [], laidByText := true, laidKinds := [.data, .data, .data], laidTests := true, laidLooks := .later }
def FnExactMergeUptoCardSaid : Prop := Claim7.holds Tryz.pinned (.plain (OpenSpec.upto fnExactMergeSpec)) fnExactMergeUptoCard
end Rows
end Go.Proofs.YtljiidpfgfkhcaaGreatDoor
