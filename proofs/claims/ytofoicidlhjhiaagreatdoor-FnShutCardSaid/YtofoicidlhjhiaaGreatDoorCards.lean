/-
  DERIVED. GIVEN WITH THE SEED: THE CARDS: each row of YtofoicidlhjhiaaGreatDoorRows.lean that lists a variable, with what it lists TIED to the program's text (the seventh form; the later family's looks); each row that meets fmt, with fmt's text TOLD by the authors' own Lean function (tested against real Go, not proved from fmt's source: count such statements apart). THE CARD IS WHAT COUNTS. Prove the row's statement (the work); the ties are given (YtofoicidlhjhiaaGreatDoorTie.lean); close each card by the builder's one call (the guide's Derived/Test/ToyasCard.lean, 'card_holds'). Laid BY PROGRAM, IN A SANDBOX (cutbox-door.mjs). By AI agents, Wed Nov 11 2026. No macro, syntax, notation, axiom, sorry.
-/
import Derived.Test.YtofoicidlhjhiaaGreatDoorRows
import GoSem.ClaimSeven
namespace Go.Proofs.YtofoicidlhjhiaaGreatDoor
namespace Rows

/-- THE TIED CARD OF 'laws.FnShut'. -/
def fnShutCard : Claim7 := { stood := { row := fnShutRow, standIns := [], harness := (true, "447e980fe675da1e9d42a3ecea1787fbba24935a81a87627f676f572f138b145"), looks := true }, kinds := [], alts := [], laidByText := true, laidKinds := [.data, .data, .data, .sentinel, .sentinel], laidTests := true, laidLooks := .later }
def FnShutCardSaid : Prop := Claim7.holds Tryz.pinned (.plain (OpenSpec.ofChange fnShutSpec)) fnShutCard

/-- THE SECOND FORM's CARD OF 'laws.FnShut'. -/
def fnShutUptoCard : Claim7 := { stood := { row := fnShutUptoRow, standIns := [], harness := (true, "447e980fe675da1e9d42a3ecea1787fbba24935a81a87627f676f572f138b145"), looks := true }, kinds := [], alts := [], laidByText := true, laidKinds := [.data, .data, .data, .sentinel, .sentinel], laidTests := true, laidLooks := .later }
def FnShutUptoCardSaid : Prop := Claim7.holds Tryz.pinned (.plain (OpenSpec.upto fnShutSpec)) fnShutUptoCard
end Rows
end Go.Proofs.YtofoicidlhjhiaaGreatDoor
