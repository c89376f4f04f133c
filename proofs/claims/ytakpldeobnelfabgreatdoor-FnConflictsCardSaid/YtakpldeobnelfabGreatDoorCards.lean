/-
  DERIVED. GIVEN WITH THE SEED: THE CARDS: each row of YtakpldeobnelfabGreatDoorRows.lean that lists a variable, with what it lists TIED to the program's text (the seventh form; the later family's looks); each row that meets fmt, with fmt's text TOLD by the authors' own Lean function (tested against real Go, not proved from fmt's source: count such statements apart). THE CARD IS WHAT COUNTS. Prove the row's statement (the work); the ties are given (YtakpldeobnelfabGreatDoorTie.lean); close each card by the builder's one call (the guide's Derived/Test/ToyasCard.lean, 'card_holds'). Laid BY PROGRAM, IN A SANDBOX (cutbox-door.mjs). By AI agents, Wed Nov 11 2026. No macro, syntax, notation, axiom, sorry.
-/
import Derived.Test.YtakpldeobnelfabGreatDoorRows
import GoSem.ClaimSeven
namespace Go.Proofs.YtakpldeobnelfabGreatDoor
namespace Rows

/-- THE TIED CARD OF 'laws.FnSessions'. -/
def fnSessionsCard : Claim7 := { stood := { row := fnSessionsRow, standIns := [], harness := (true, "2c27ac1e7c505c84da14d35efedcab4e55f84ebef3743c9d3f8582aa842d20ad"), looks := true }, kinds := [], alts := [], laidByText := true, laidKinds := [.data, .data, .data, .sentinel, .sentinel], laidTests := true, laidLooks := .later }
def FnSessionsCardSaid : Prop := Claim7.holds Tryz.pinned (.plain (OpenSpec.ofChange fnSessionsSpec)) fnSessionsCard

/-- THE TIED CARD OF 'laws.FnConflicts'. -/
def fnConflictsCard : Claim7 := { stood := { row := fnConflictsRow, standIns := [], harness := (true, "2c27ac1e7c505c84da14d35efedcab4e55f84ebef3743c9d3f8582aa842d20ad"), looks := true }, kinds := [], alts := [], laidByText := true, laidKinds := [.data, .data, .data, .sentinel, .sentinel], laidTests := true, laidLooks := .later }
def FnConflictsCardSaid : Prop := Claim7.holds Tryz.pinned (.plain (OpenSpec.ofChange fnConflictsSpec)) fnConflictsCard

/-- THE SECOND FORM's CARD OF 'laws.FnSessions'. -/
def fnSessionsUptoCard : Claim7 := { stood := { row := fnSessionsUptoRow, standIns := [], harness := (true, "2c27ac1e7c505c84da14d35efedcab4e55f84ebef3743c9d3f8582aa842d20ad"), looks := true }, kinds := [], alts := [], laidByText := true, laidKinds := [.data, .data, .data, .sentinel, .sentinel], laidTests := true, laidLooks := .later }
def FnSessionsUptoCardSaid : Prop := Claim7.holds Tryz.pinned (.plain (OpenSpec.upto fnSessionsSpec)) fnSessionsUptoCard

/-- THE SECOND FORM's CARD OF 'laws.FnConflicts'. -/
def fnConflictsUptoCard : Claim7 := { stood := { row := fnConflictsUptoRow, standIns := [], harness := (true, "2c27ac1e7c505c84da14d35efedcab4e55f84ebef3743c9d3f8582aa842d20ad"), looks := true }, kinds := [], alts := [], laidByText := true, laidKinds := [.data, .data, .data, .sentinel, .sentinel], laidTests := true, laidLooks := .later }
def FnConflictsUptoCardSaid : Prop := Claim7.holds Tryz.pinned (.plain (OpenSpec.upto fnConflictsSpec)) fnConflictsUptoCard
end Rows
end Go.Proofs.YtakpldeobnelfabGreatDoor
