/-
  DERIVED. GIVEN WITH THE SEED: THE CARDS: each row of YtaeddficnnnpeaaDoorRows.lean that lists a variable, with what it lists TIED to the program's text (the seventh form; the later family's looks); each row that meets fmt, with fmt's text TOLD by the authors' own Lean function (tested against real Go, not proved from fmt's source: count such statements apart). THE CARD IS WHAT COUNTS. Prove the row's statement (the work); the ties are given (YtaeddficnnnpeaaDoorTie.lean); close each card by the builder's one call (the guide's Derived/Test/ToyasCard.lean, 'card_holds'). Laid BY PROGRAM, IN A SANDBOX (cutbox-door.mjs). By AI agents, Wed Nov 11 2026. No macro, syntax, notation, axiom, sorry.
-/
import Derived.Test.YtaeddficnnnpeaaDoorRows
import GoSem.ClaimSeven
namespace Go.Proofs.YtaeddficnnnpeaaDoor
namespace Rows

/-- THE TIED CARD OF 'laws.FnExactSegBytes'. -/
def fnExactSegBytesCard : Claim7 := { stood := { row := fnExactSegBytesRow, standIns := [], harness := (true, "86982e6a64289960ddbbca87c204b06adebf8b177ac2f18e2c00752dd2ec4045"), looks := false }, kinds := [], alts := [], laidByText := true, laidKinds := [.data, .data, .data], laidTests := true, laidLooks := .later }
def FnExactSegBytesCardSaid : Prop := Claim7.holds Tryd.pinned (.plain (OpenSpec.ofChange fnExactSegBytesSpec)) fnExactSegBytesCard

/-- THE TIED CARD OF 'laws.FnExactGet'. -/
def fnExactGetCard : Claim7 := { stood := { row := fnExactGetRow, standIns := [], harness := (true, "86982e6a64289960ddbbca87c204b06adebf8b177ac2f18e2c00752dd2ec4045"), looks := false }, kinds := [], alts := [], laidByText := true, laidKinds := [.data, .data, .data], laidTests := true, laidLooks := .later }
def FnExactGetCardSaid : Prop := Claim7.holds Tryd.pinned (.plain (OpenSpec.ofChange fnExactGetSpec)) fnExactGetCard

/-- THE SECOND FORM's CARD OF 'laws.FnExactSegBytes'. -/
def fnExactSegBytesUptoCard : Claim7 := { stood := { row := fnExactSegBytesUptoRow, standIns := [], harness := (true, "86982e6a64289960ddbbca87c204b06adebf8b177ac2f18e2c00752dd2ec4045"), looks := false }, kinds := [], alts := [], laidByText := true, laidKinds := [.data, .data, .data], laidTests := true, laidLooks := .later }
def FnExactSegBytesUptoCardSaid : Prop := Claim7.holds Tryd.pinned (.plain (OpenSpec.upto fnExactSegBytesSpec)) fnExactSegBytesUptoCard

/-- THE SECOND FORM's CARD OF 'laws.FnExactGet'. -/
def fnExactGetUptoCard : Claim7 := { stood := { row := fnExactGetUptoRow, standIns := [], harness := (true, "86982e6a64289960ddbbca87c204b06adebf8b177ac2f18e2c00752dd2ec4045"), looks := false }, kinds := [], alts := [], laidByText := true, laidKinds := [.data, .data, .data], laidTests := true, laidLooks := .later }
def FnExactGetUptoCardSaid : Prop := Claim7.holds Tryd.pinned (.plain (OpenSpec.upto fnExactGetSpec)) fnExactGetUptoCard
end Rows
end Go.Proofs.YtaeddficnnnpeaaDoor
