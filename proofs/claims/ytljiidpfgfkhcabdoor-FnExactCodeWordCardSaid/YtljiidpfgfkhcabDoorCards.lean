/-
  DERIVED. GIVEN WITH THE SEED: THE CARDS: each row of YtljiidpfgfkhcabDoorRows.lean that lists a variable, with what it lists TIED to the program's text (the seventh form; the later family's looks); each row that meets fmt, with fmt's text TOLD by the authors' own Lean function (tested against real Go, not proved from fmt's source: count such statements apart). THE CARD IS WHAT COUNTS. Prove the row's statement (the work); the ties are given (YtljiidpfgfkhcabDoorTie.lean); close each card by the builder's one call (the guide's Derived/Test/ToyasCard.lean, 'card_holds'). Laid BY PROGRAM, IN A SANDBOX (cutbox-door.mjs). By AI agents, Wed Nov 11 2026. No macro, syntax, notation, axiom, sorry.
-/
import Derived.Test.YtljiidpfgfkhcabDoorRows
import GoSem.ClaimSeven
namespace Go.Proofs.YtljiidpfgfkhcabDoor
namespace Rows

/-- THE TIED CARD OF 'laws.FnExactCodeWord'. -/
def fnExactCodeWordCard : Claim7 := { stood := { row := fnExactCodeWordRow, standIns := [], harness := (true, "adf057cb10aa41f2564f4bad890631d71669482701736f439662d877ad6fa8b1"), looks := false }, kinds := [], alts := [], laidByText := true, laidKinds := [.data, .pinned], laidTests := true, laidLooks := .later }
def FnExactCodeWordCardSaid : Prop := Claim7.holds Tryd.pinned (.plain (OpenSpec.ofChange fnExactCodeWordSpec)) fnExactCodeWordCard

/-- THE SECOND FORM's CARD OF 'laws.FnExactCodeWord'. -/
def fnExactCodeWordUptoCard : Claim7 := { stood := { row := fnExactCodeWordUptoRow, standIns := [], harness := (true, "adf057cb10aa41f2564f4bad890631d71669482701736f439662d877ad6fa8b1"), looks := false }, kinds := [], alts := [], laidByText := true, laidKinds := [.data, .pinned], laidTests := true, laidLooks := .later }
def FnExactCodeWordUptoCardSaid : Prop := Claim7.holds Tryd.pinned (.plain (OpenSpec.upto fnExactCodeWordSpec)) fnExactCodeWordUptoCard
end Rows
end Go.Proofs.YtljiidpfgfkhcabDoor
