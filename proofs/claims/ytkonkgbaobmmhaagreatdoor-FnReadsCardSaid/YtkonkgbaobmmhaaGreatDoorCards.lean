/-
  DERIVED. GIVEN WITH THE SEED: THE CARDS: each row of YtkonkgbaobmmhaaGreatDoorRows.lean that lists a variable, with what it lists TIED to the program's text (the seventh form; the later family's looks); each row that meets fmt, with fmt's text TOLD by the authors' own Lean function (tested against real Go, not proved from fmt's source: count such statements apart). THE CARD IS WHAT COUNTS. Prove the row's statement (the work); the ties are given (YtkonkgbaobmmhaaGreatDoorTie.lean); close each card by the builder's one call (the guide's Derived/Test/ToyasCard.lean, 'card_holds'). Laid BY PROGRAM, IN A SANDBOX (cutbox-door.mjs). By AI agents, Wed Nov 11 2026. No macro, syntax, notation, axiom, sorry.
-/
import Derived.Test.YtkonkgbaobmmhaaGreatDoorRows
import GoSem.ClaimSeven
namespace Go.Proofs.YtkonkgbaobmmhaaGreatDoor
namespace Rows

/-- THE TIED CARD OF 'laws.FnExactOpen'. -/
def fnExactOpenCard : Claim7 := { stood := { row := fnExactOpenRow, standIns := [], harness := (true, "7c3f8add39cbba5d0e0bcf4ba47b0ef2022bb18aadca8f2735b2b67fd9450ac9"), looks := true }, kinds := [], alts := [], laidByText := true, laidKinds := [.data, .data, .data, .sentinel, .sentinel], laidTests := true, laidLooks := .later }
def FnExactOpenCardSaid : Prop := Claim7.holds Tryz.pinned (.plain (OpenSpec.ofChange fnExactOpenSpec)) fnExactOpenCard

/-- THE TIED CARD OF 'laws.FnNew'. -/
def fnNewCard : Claim7 := { stood := { row := fnNewRow, standIns := [], harness := (true, "7c3f8add39cbba5d0e0bcf4ba47b0ef2022bb18aadca8f2735b2b67fd9450ac9"), looks := true }, kinds := [], alts := [], laidByText := true, laidKinds := [.data, .data, .data, .sentinel, .sentinel], laidTests := true, laidLooks := .later }
def FnNewCardSaid : Prop := Claim7.holds Tryz.pinned (.plain (OpenSpec.ofChange fnNewSpec)) fnNewCard

/-- THE TIED CARD OF 'laws.FnReads'. -/
def fnReadsCard : Claim7 := { stood := { row := fnReadsRow, standIns := [], harness := (true, "7c3f8add39cbba5d0e0bcf4ba47b0ef2022bb18aadca8f2735b2b67fd9450ac9"), looks := true }, kinds := [], alts := [], laidByText := true, laidKinds := [.data, .data, .data], laidTests := true, laidLooks := .later }
def FnReadsCardSaid : Prop := Claim7.holds Tryz.pinned (.plain (OpenSpec.ofChange fnReadsSpec)) fnReadsCard

/-- THE SECOND FORM's CARD OF 'laws.FnExactOpen'. -/
def fnExactOpenUptoCard : Claim7 := { stood := { row := fnExactOpenUptoRow, standIns := [], harness := (true, "7c3f8add39cbba5d0e0bcf4ba47b0ef2022bb18aadca8f2735b2b67fd9450ac9"), looks := true }, kinds := [], alts := [], laidByText := true, laidKinds := [.data, .data, .data, .sentinel, .sentinel], laidTests := true, laidLooks := .later }
def FnExactOpenUptoCardSaid : Prop := Claim7.holds Tryz.pinned (.plain (OpenSpec.upto fnExactOpenSpec)) fnExactOpenUptoCard

/-- THE SECOND FORM's CARD OF 'laws.FnNew'. -/
def fnNewUptoCard : Claim7 := { stood := { row := fnNewUptoRow, standIns := [], harness := (true, "7c3f8add39cbba5d0e0bcf4ba47b0ef2022bb18aadca8f2735b2b67fd9450ac9"), looks := true }, kinds := [], alts := [], laidByText := true, laidKinds := [.data, .data, .data, .sentinel, .sentinel], laidTests := true, laidLooks := .later }
def FnNewUptoCardSaid : Prop := Claim7.holds Tryz.pinned (.plain (OpenSpec.upto fnNewSpec)) fnNewUptoCard

/-- THE SECOND FORM's CARD OF 'laws.FnReads'. -/
def fnReadsUptoCard : Claim7 := { stood := { row := fnReadsUptoRow, standIns := [], harness := (true, "7c3f8add39cbba5d0e0bcf4ba47b0ef2022bb18aadca8f2735b2b67fd9450ac9"), looks := true }, kinds := [], alts := [], laidByText := true, laidKinds := [.data, .data, .data], laidTests := true, laidLooks := .later }
def FnReadsUptoCardSaid : Prop := Claim7.holds Tryz.pinned (.plain (OpenSpec.upto fnReadsSpec)) fnReadsUptoCard
end Rows
end Go.Proofs.YtkonkgbaobmmhaaGreatDoor
