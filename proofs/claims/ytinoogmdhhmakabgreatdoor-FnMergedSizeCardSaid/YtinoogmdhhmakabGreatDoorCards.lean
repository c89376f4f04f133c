/-
  DERIVED. GIVEN WITH THE SEED: THE CARDS: each row of YtinoogmdhhmakabGreatDoorRows.lean that lists a variable, with what it lists TIED to the program's text (the seventh form; the later family's looks); each row that meets fmt, with fmt's text TOLD by the authors' own Lean function (tested against real Go, not proved from fmt's source: count such statements apart). THE CARD IS WHAT COUNTS. Prove the row's statement (the work); the ties are given (YtinoogmdhhmakabGreatDoorTie.lean); close each card by the builder's one call (the guide's Derived/Test/ToyasCard.lean, 'card_holds'). Laid BY PROGRAM, IN A SANDBOX (cutbox-door.mjs). By AI agents, Wed Nov 11 2026. No macro, syntax, notation, axiom, sorry.
-/
import Derived.Test.YtinoogmdhhmakabGreatDoorRows
import GoSem.ClaimSeven
namespace Go.Proofs.YtinoogmdhhmakabGreatDoor
namespace Rows

/-- THE TIED CARD OF 'laws.FnMergedSize'. -/
def fnMergedSizeCard : Claim7 := { stood := { row := fnMergedSizeRow, standIns := [], harness := (true, "5c3ddc7e8c6e95f2867d5d9df9e395a7ba6de8351a456afef0c04a8a647f6c7d"), looks := false }, kinds := [], alts := [], laidByText := true, laidKinds := [.data, .data, .data], laidTests := true, laidLooks := .later }
def FnMergedSizeCardSaid : Prop := Claim7.holds Tryz.pinned (.plain (OpenSpec.ofChange fnMergedSizeSpec)) fnMergedSizeCard

/-- THE SECOND FORM's CARD OF 'laws.FnMergedSize'. -/
def fnMergedSizeUptoCard : Claim7 := { stood := { row := fnMergedSizeUptoRow, standIns := [], harness := (true, "5c3ddc7e8c6e95f2867d5d9df9e395a7ba6de8351a456afef0c04a8a647f6c7d"), looks := false }, kinds := [], alts := [], laidByText := true, laidKinds := [.data, .data, .data], laidTests := true, laidLooks := .later }
def FnMergedSizeUptoCardSaid : Prop := Claim7.holds Tryz.pinned (.plain (OpenSpec.upto fnMergedSizeSpec)) fnMergedSizeUptoCard
end Rows
end Go.Proofs.YtinoogmdhhmakabGreatDoor
