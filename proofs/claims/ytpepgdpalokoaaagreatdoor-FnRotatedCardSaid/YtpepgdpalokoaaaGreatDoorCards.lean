/-
  DERIVED. GIVEN WITH THE SEED: THE CARDS: each row of YtpepgdpalokoaaaGreatDoorRows.lean that lists a variable, with what it lists TIED to the program's text (the seventh form; the later family's looks); each row that meets fmt, with fmt's text TOLD by the authors' own Lean function (tested against real Go, not proved from fmt's source: count such statements apart). THE CARD IS WHAT COUNTS. Prove the row's statement (the work); the ties are given (YtpepgdpalokoaaaGreatDoorTie.lean); close each card by the builder's one call (the guide's Derived/Test/ToyasCard.lean, 'card_holds'). Laid BY PROGRAM, IN A SANDBOX (cutbox-door.mjs). By AI agents, Wed Nov 11 2026. No macro, syntax, notation, axiom, sorry.
-/
import Derived.Test.YtpepgdpalokoaaaGreatDoorRows
import GoSem.ClaimSeven
namespace Go.Proofs.YtpepgdpalokoaaaGreatDoor
namespace Rows

/-- THE TIED CARD OF 'laws.FnRotated'. -/
def fnRotatedCard : Claim7 := { stood := { row := fnRotatedRow, standIns := [], harness := (true, "ccb0fcdb9f0343787adaa7ae62fdbf4e69f597ca7341eafbb934893a2c4178e6"), looks := false }, kinds := [], alts := [], laidByText := true, laidKinds := [.data, .data, .data], laidTests := true, laidLooks := .later }
def FnRotatedCardSaid : Prop := Claim7.holds Tryz.pinned (.plain (OpenSpec.ofChange fnRotatedSpec)) fnRotatedCard

/-- THE SECOND FORM's CARD OF 'laws.FnRotated'. -/
def fnRotatedUptoCard : Claim7 := { stood := { row := fnRotatedUptoRow, standIns := [], harness := (true, "ccb0fcdb9f0343787adaa7ae62fdbf4e69f597ca7341eafbb934893a2c4178e6"), looks := false }, kinds := [], alts := [], laidByText := true, laidKinds := [.data, .data, .data], laidTests := true, laidLooks := .later }
def FnRotatedUptoCardSaid : Prop := Claim7.holds Tryz.pinned (.plain (OpenSpec.upto fnRotatedSpec)) fnRotatedUptoCard
end Rows
end Go.Proofs.YtpepgdpalokoaaaGreatDoor
