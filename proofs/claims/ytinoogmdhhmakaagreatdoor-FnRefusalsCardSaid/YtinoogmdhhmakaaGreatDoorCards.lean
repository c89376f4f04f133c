/-
  DERIVED. GIVEN WITH THE SEED: THE CARDS: each row of YtinoogmdhhmakaaGreatDoorRows.lean that lists a variable, with what it lists TIED to the program's text (the seventh form; the later family's looks); each row that meets fmt, with fmt's text TOLD by the authors' own Lean function (tested against real Go, not proved from fmt's source: count such statements apart). THE CARD IS WHAT COUNTS. Prove the row's statement (the work); the ties are given (YtinoogmdhhmakaaGreatDoorTie.lean); close each card by the builder's one call (the guide's Derived/Test/ToyasCard.lean, 'card_holds'). Laid BY PROGRAM, IN A SANDBOX (cutbox-door.mjs). By AI agents, Wed Nov 11 2026. No macro, syntax, notation, axiom, sorry.
-/
import Derived.Test.YtinoogmdhhmakaaGreatDoorRows
import GoSem.ClaimSeven
namespace Go.Proofs.YtinoogmdhhmakaaGreatDoor
namespace Rows

/-- THE TIED CARD OF 'laws.FnParted'. -/
def fnPartedCard : Claim7 := { stood := { row := fnPartedRow, standIns := [], harness := (true, "c1375fbed62db29bd3699c93c3f0c52ceb85a508226fe5315e2ce7757b6a3c13"), looks := false }, kinds := [], alts := [], laidByText := true, laidKinds := [.data, .data, .data], laidTests := true, laidLooks := .later }
def FnPartedCardSaid : Prop := Claim7.holds Tryz.pinned (.plain (OpenSpec.ofChange fnPartedSpec)) fnPartedCard

/-- THE TIED CARD OF 'laws.FnRefusals'. -/
def fnRefusalsCard : Claim7 := { stood := { row := fnRefusalsRow, standIns := [], harness := (true, "c1375fbed62db29bd3699c93c3f0c52ceb85a508226fe5315e2ce7757b6a3c13"), looks := false }, kinds := [], alts := [], laidByText := true, laidKinds := [.data, .data, .data], laidTests := true, laidLooks := .later }
def FnRefusalsCardSaid : Prop := Claim7.holds Tryz.pinned (.plain (OpenSpec.ofChange fnRefusalsSpec)) fnRefusalsCard

/-- THE SECOND FORM's CARD OF 'laws.FnParted'. -/
def fnPartedUptoCard : Claim7 := { stood := { row := fnPartedUptoRow, standIns := [], harness := (true, "c1375fbed62db29bd3699c93c3f0c52ceb85a508226fe5315e2ce7757b6a3c13"), looks := false }, kinds := [], alts := [], laidByText := true, laidKinds := [.data, .data, .data], laidTests := true, laidLooks := .later }
def FnPartedUptoCardSaid : Prop := Claim7.holds Tryz.pinned (.plain (OpenSpec.upto fnPartedSpec)) fnPartedUptoCard

/-- THE SECOND FORM's CARD OF 'laws.FnRefusals'. -/
def fnRefusalsUptoCard : Claim7 := { stood := { row := fnRefusalsUptoRow, standIns := [], harness := (true, "c1375fbed62db29bd3699c93c3f0c52ceb85a508226fe5315e2ce7757b6a3c13"), looks := false }, kinds := [], alts := [], laidByText := true, laidKinds := [.data, .data, .data], laidTests := true, laidLooks := .later }
def FnRefusalsUptoCardSaid : Prop := Claim7.holds Tryz.pinned (.plain (OpenSpec.upto fnRefusalsSpec)) fnRefusalsUptoCard
end Rows
end Go.Proofs.YtinoogmdhhmakaaGreatDoor
