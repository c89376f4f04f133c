/-
  DERIVED. GIVEN WITH THE SEED: THE CARDS: each row of YtakpldeobnelfaaGreatDoorRows.lean that lists a variable, with what it lists TIED to the program's text (the seventh form; the later family's looks); each row that meets fmt, with fmt's text TOLD by the authors' own Lean function (tested against real Go, not proved from fmt's source: count such statements apart). THE CARD IS WHAT COUNTS. Prove the row's statement (the work); the ties are given (YtakpldeobnelfaaGreatDoorTie.lean); close each card by the builder's one call (the guide's Derived/Test/ToyasCard.lean, 'card_holds'). Laid BY PROGRAM, IN A SANDBOX (cutbox-door.mjs). By AI agents, Wed Nov 11 2026. No macro, syntax, notation, axiom, sorry.
-/
import Derived.Test.YtakpldeobnelfaaGreatDoorRows
import GoSem.ClaimSeven
namespace Go.Proofs.YtakpldeobnelfaaGreatDoor
namespace Rows

/-- THE TIED CARD OF 'laws.FnHintsUnseen'. -/
def fnHintsUnseenCard : Claim7 := { stood := { row := fnHintsUnseenRow, standIns := [], harness := (true, "4afaf6a8daa9c931c647878e5f662e395be20edb4c526170ac484b2db4657b0d"), looks := true }, kinds := [], alts := [], laidByText := true, laidKinds := [.data, .data, .data, .sentinel, .sentinel], laidTests := true, laidLooks := .later }
def FnHintsUnseenCardSaid : Prop := Claim7.holds Tryz.pinned (.plain (OpenSpec.ofChange fnHintsUnseenSpec)) fnHintsUnseenCard

/-- THE TIED CARD OF 'laws.FnHinted'. -/
def fnHintedCard : Claim7 := { stood := { row := fnHintedRow, standIns := [], harness := (true, "4afaf6a8daa9c931c647878e5f662e395be20edb4c526170ac484b2db4657b0d"), looks := true }, kinds := [], alts := [], laidByText := true, laidKinds := [.data, .data, .data, .sentinel, .sentinel], laidTests := true, laidLooks := .later }
def FnHintedCardSaid : Prop := Claim7.holds Tryz.pinned (.plain (OpenSpec.ofChange fnHintedSpec)) fnHintedCard

/-- THE SECOND FORM's CARD OF 'laws.FnHintsUnseen'. -/
def fnHintsUnseenUptoCard : Claim7 := { stood := { row := fnHintsUnseenUptoRow, standIns := [], harness := (true, "4afaf6a8daa9c931c647878e5f662e395be20edb4c526170ac484b2db4657b0d"), looks := true }, kinds := [], alts := [], laidByText := true, laidKinds := [.data, .data, .data, .sentinel, .sentinel], laidTests := true, laidLooks := .later }
def FnHintsUnseenUptoCardSaid : Prop := Claim7.holds Tryz.pinned (.plain (OpenSpec.upto fnHintsUnseenSpec)) fnHintsUnseenUptoCard

/-- THE SECOND FORM's CARD OF 'laws.FnHinted'. -/
def fnHintedUptoCard : Claim7 := { stood := { row := fnHintedUptoRow, standIns := [], harness := (true, "4afaf6a8daa9c931c647878e5f662e395be20edb4c526170ac484b2db4657b0d"), looks := true }, kinds := [], alts := [], laidByText := true, laidKinds := [.data, .data, .data, .sentinel, .sentinel], laidTests := true, laidLooks := .later }
def FnHintedUptoCardSaid : Prop := Claim7.holds Tryz.pinned (.plain (OpenSpec.upto fnHintedSpec)) fnHintedUptoCard
end Rows
end Go.Proofs.YtakpldeobnelfaaGreatDoor
