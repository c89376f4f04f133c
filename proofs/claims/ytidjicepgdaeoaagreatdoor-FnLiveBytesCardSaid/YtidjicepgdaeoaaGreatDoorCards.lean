/-
  DERIVED. GIVEN WITH THE SEED: THE CARDS: each row of YtidjicepgdaeoaaGreatDoorRows.lean that lists a variable, with what it lists TIED to the program's text (the seventh form; the later family's looks); each row that meets fmt, with fmt's text TOLD by the authors' own Lean function (tested against real Go, not proved from fmt's source: count such statements apart). THE CARD IS WHAT COUNTS. Prove the row's statement (the work); the ties are given (YtidjicepgdaeoaaGreatDoorTie.lean); close each card by the builder's one call (the guide's Derived/Test/ToyasCard.lean, 'card_holds'). Laid BY PROGRAM, IN A SANDBOX (cutbox-door.mjs). By AI agents, Wed Nov 11 2026. No macro, syntax, notation, axiom, sorry.
-/
import Derived.Test.YtidjicepgdaeoaaGreatDoorRows
import GoSem.ClaimSeven
namespace Go.Proofs.YtidjicepgdaeoaaGreatDoor
namespace Rows

/-- THE TIED CARD OF 'laws.FnExactOpen'. -/
def fnExactOpenCard : Claim7 := { stood := { row := fnExactOpenRow, standIns := [], harness := (true, "81fd5aed26d5daddb8c7d84a079086904ffa340d00d67a74f232671fbf5f5b64"), looks := true }, kinds := [], alts := [], laidByText := true, laidKinds := [.data, .data, .data, .sentinel, .sentinel], laidTests := true, laidLooks := .later }
def FnExactOpenCardSaid : Prop := Claim7.holds Tryz.pinned (.plain (OpenSpec.ofChange fnExactOpenSpec)) fnExactOpenCard

/-- THE TIED CARD OF 'laws.FnNew'. -/
def fnNewCard : Claim7 := { stood := { row := fnNewRow, standIns := [], harness := (true, "81fd5aed26d5daddb8c7d84a079086904ffa340d00d67a74f232671fbf5f5b64"), looks := true }, kinds := [], alts := [], laidByText := true, laidKinds := [.data, .data, .data, .sentinel, .sentinel], laidTests := true, laidLooks := .later }
def FnNewCardSaid : Prop := Claim7.holds Tryz.pinned (.plain (OpenSpec.ofChange fnNewSpec)) fnNewCard

/-- THE TIED CARD OF 'laws.FnLiveBytes'. -/
def fnLiveBytesCard : Claim7 := { stood := { row := fnLiveBytesRow, standIns := [], harness := (true, "81fd5aed26d5daddb8c7d84a079086904ffa340d00d67a74f232671fbf5f5b64"), looks := true }, kinds := [], alts := [], laidByText := true, laidKinds := [.data, .data, .data, .sentinel, .sentinel], laidTests := true, laidLooks := .later }
def FnLiveBytesCardSaid : Prop := Claim7.holds Tryz.pinned (.plain (OpenSpec.ofChange fnLiveBytesSpec)) fnLiveBytesCard

/-- THE TIED CARD OF 'laws.FnStrays'. -/
def fnStraysCard : Claim7 := { stood := { row := fnStraysRow, standIns := [], harness := (true, "81fd5aed26d5daddb8c7d84a079086904ffa340d00d67a74f232671fbf5f5b64"), looks := true }, kinds := [], alts := [], laidByText := true, laidKinds := [.data, .data, .data, .sentinel, .sentinel], laidTests := true, laidLooks := .later }
def FnStraysCardSaid : Prop := Claim7.holds Tryz.pinned (.plain (OpenSpec.ofChange fnStraysSpec)) fnStraysCard

/-- THE SECOND FORM's CARD OF 'laws.FnExactOpen'. -/
def fnExactOpenUptoCard : Claim7 := { stood := { row := fnExactOpenUptoRow, standIns := [], harness := (true, "81fd5aed26d5daddb8c7d84a079086904ffa340d00d67a74f232671fbf5f5b64"), looks := true }, kinds := [], alts := [], laidByText := true, laidKinds := [.data, .data, .data, .sentinel, .sentinel], laidTests := true, laidLooks := .later }
def FnExactOpenUptoCardSaid : Prop := Claim7.holds Tryz.pinned (.plain (OpenSpec.upto fnExactOpenSpec)) fnExactOpenUptoCard

/-- THE SECOND FORM's CARD OF 'laws.FnNew'. -/
def fnNewUptoCard : Claim7 := { stood := { row := fnNewUptoRow, standIns := [], harness := (true, "81fd5aed26d5daddb8c7d84a079086904ffa340d00d67a74f232671fbf5f5b64"), looks := true }, kinds := [], alts := [], laidByText := true, laidKinds := [.data, .data, .data, .sentinel, .sentinel], laidTests := true, laidLooks := .later }
def FnNewUptoCardSaid : Prop := Claim7.holds Tryz.pinned (.plain (OpenSpec.upto fnNewSpec)) fnNewUptoCard

/-- THE SECOND FORM's CARD OF 'laws.FnLiveBytes'. -/
def fnLiveBytesUptoCard : Claim7 := { stood := { row := fnLiveBytesUptoRow, standIns := [], harness := (true, "81fd5aed26d5daddb8c7d84a079086904ffa340d00d67a74f232671fbf5f5b64"), looks := true }, kinds := [], alts := [], laidByText := true, laidKinds := [.data, .data, .data, .sentinel, .sentinel], laidTests := true, laidLooks := .later }
def FnLiveBytesUptoCardSaid : Prop := Claim7.holds Tryz.pinned (.plain (OpenSpec.upto fnLiveBytesSpec)) fnLiveBytesUptoCard

/-- THE SECOND FORM's CARD OF 'laws.FnStrays'. -/
def fnStraysUptoCard : Claim7 := { stood := { row := fnStraysUptoRow, standIns := [], harness := (true, "81fd5aed26d5daddb8c7d84a079086904ffa340d00d67a74f232671fbf5f5b64"), looks := true }, kinds := [], alts := [], laidByText := true, laidKinds := [.data, .data, .data, .sentinel, .sentinel], laidTests := true, laidLooks := .later }
def FnStraysUptoCardSaid : Prop := Claim7.holds Tryz.pinned (.plain (OpenSpec.upto fnStraysSpec)) fnStraysUptoCard
end Rows
end Go.Proofs.YtidjicepgdaeoaaGreatDoor
