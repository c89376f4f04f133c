/-
  DERIVED. GIVEN WITH THE SEED: THE CARDS: each row of YtaijadchooalpaaGreatDoorRows.lean that lists a variable, with what it lists TIED to the program's text (the seventh form; the later family's looks); each row that meets fmt, with fmt's text TOLD by the authors' own Lean function (tested against real Go, not proved from fmt's source: count such statements apart). THE CARD IS WHAT COUNTS. Prove the row's statement (the work); the ties are given (YtaijadchooalpaaGreatDoorTie.lean); close each card by the builder's one call (the guide's Derived/Test/ToyasCard.lean, 'card_holds'). Laid BY PROGRAM, IN A SANDBOX (cutbox-door.mjs). By AI agents, Wed Nov 11 2026. No macro, syntax, notation, axiom, sorry.
-/
import Derived.Test.YtaijadchooalpaaGreatDoorRows
import GoSem.ClaimSeven
namespace Go.Proofs.YtaijadchooalpaaGreatDoor
namespace Rows

/-- THE TIED CARD OF 'laws.FnExactEngineMap'. -/
def fnExactEngineMapCard : Claim7 := { stood := { row := fnExactEngineMapRow, standIns := [], harness := (true, "221e5e9cf29855327c2356e007760844ea03b1692346c943730c5a2686e44352"), looks := true }, kinds := [], alts := [], laidByText := true, laidKinds := [.data, .data, .data], laidTests := true, laidLooks := .later }
def FnExactEngineMapCardSaid : Prop := Claim7.holds Tryz.pinned (.plain (OpenSpec.ofChange fnExactEngineMapSpec)) fnExactEngineMapCard

/-- THE TIED CARD OF 'laws.FnExactEngineNew'. -/
def fnExactEngineNewCard : Claim7 := { stood := { row := fnExactEngineNewRow, standIns := [], harness := (true, "221e5e9cf29855327c2356e007760844ea03b1692346c943730c5a2686e44352"), looks := true }, kinds := [], alts := [], laidByText := true, laidKinds := [.data, .data, .data, .sentinel, .sentinel], laidTests := true, laidLooks := .later }
def FnExactEngineNewCardSaid : Prop := Claim7.holds Tryz.pinned (.plain (OpenSpec.ofChange fnExactEngineNewSpec)) fnExactEngineNewCard

/-- THE SECOND FORM's CARD OF 'laws.FnExactEngineMap'. -/
def fnExactEngineMapUptoCard : Claim7 := { stood := { row := fnExactEngineMapUptoRow, standIns := [], harness := (true, "221e5e9cf29855327c2356e007760844ea03b1692346c943730c5a2686e44352"), looks := true }, kinds := [], alts := [], laidByText := true, laidKinds := [.data, .data, .data], laidTests := true, laidLooks := .later }
def FnExactEngineMapUptoCardSaid : Prop := Claim7.holds Tryz.pinned (.plain (OpenSpec.upto fnExactEngineMapSpec)) fnExactEngineMapUptoCard

/-- THE SECOND FORM's CARD OF 'laws.FnExactEngineNew'. -/
def fnExactEngineNewUptoCard : Claim7 := { stood := { row := fnExactEngineNewUptoRow, standIns := [], harness := (true, "221e5e9cf29855327c2356e007760844ea03b1692346c943730c5a2686e44352"), looks := true }, kinds := [], alts := [], laidByText := true, laidKinds := [.data, .data, .data, .sentinel, .sentinel], laidTests := true, laidLooks := .later }
def FnExactEngineNewUptoCardSaid : Prop := Claim7.holds Tryz.pinned (.plain (OpenSpec.upto fnExactEngineNewSpec)) fnExactEngineNewUptoCard
end Rows
end Go.Proofs.YtaijadchooalpaaGreatDoor
