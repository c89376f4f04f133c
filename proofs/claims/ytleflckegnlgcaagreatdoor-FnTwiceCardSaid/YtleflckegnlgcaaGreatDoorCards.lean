/-
  DERIVED. GIVEN WITH THE SEED: THE CARDS: each row of YtleflckegnlgcaaGreatDoorRows.lean that lists a variable, with what it lists TIED to the program's text (the seventh form; the later family's looks); each row that meets fmt, with fmt's text TOLD by the authors' own Lean function (tested against real Go, not proved from fmt's source: count such statements apart). THE CARD IS WHAT COUNTS. Prove the row's statement (the work); the ties are given (YtleflckegnlgcaaGreatDoorTie.lean); close each card by the builder's one call (the guide's Derived/Test/ToyasCard.lean, 'card_holds'). Laid BY PROGRAM, IN A SANDBOX (cutbox-door.mjs). By AI agents, Wed Nov 11 2026. No macro, syntax, notation, axiom, sorry.
-/
import Derived.Test.YtleflckegnlgcaaGreatDoorRows
import GoSem.ClaimSeven
namespace Go.Proofs.YtleflckegnlgcaaGreatDoor
namespace Rows

/-- THE TIED CARD OF 'laws.FnMergeUnseen'. -/
def fnMergeUnseenCard : Claim7 := { stood := { row := fnMergeUnseenRow, standIns := [], harness := (true, "7d351a68fd2f3d8c687e9f2d2d2bb8a4b9838128ccced001fff731eb26d67f87"), looks := true }, kinds := [], alts := [], laidByText := true, laidKinds := [.data, .data, .data, .sentinel, .sentinel], laidTests := true, laidLooks := .later }
def FnMergeUnseenCardSaid : Prop := Claim7.holds Tryz.pinned (.plain (OpenSpec.ofChange fnMergeUnseenSpec)) fnMergeUnseenCard

/-- THE TIED CARD OF 'laws.FnNoRoom'. -/
def fnNoRoomCard : Claim7 := { stood := { row := fnNoRoomRow, standIns := [], harness := (true, "7d351a68fd2f3d8c687e9f2d2d2bb8a4b9838128ccced001fff731eb26d67f87"), looks := true }, kinds := [], alts := [], laidByText := true, laidKinds := [.data, .data, .data, .sentinel, .sentinel], laidTests := true, laidLooks := .later }
def FnNoRoomCardSaid : Prop := Claim7.holds Tryz.pinned (.plain (OpenSpec.ofChange fnNoRoomSpec)) fnNoRoomCard

/-- THE TIED CARD OF 'laws.FnSessions'. -/
def fnSessionsCard : Claim7 := { stood := { row := fnSessionsRow, standIns := [], harness := (true, "7d351a68fd2f3d8c687e9f2d2d2bb8a4b9838128ccced001fff731eb26d67f87"), looks := true }, kinds := [], alts := [], laidByText := true, laidKinds := [.data, .data, .data, .sentinel, .sentinel], laidTests := true, laidLooks := .later }
def FnSessionsCardSaid : Prop := Claim7.holds Tryz.pinned (.plain (OpenSpec.ofChange fnSessionsSpec)) fnSessionsCard

/-- THE TIED CARD OF 'laws.FnTwice'. -/
def fnTwiceCard : Claim7 := { stood := { row := fnTwiceRow, standIns := [], harness := (true, "7d351a68fd2f3d8c687e9f2d2d2bb8a4b9838128ccced001fff731eb26d67f87"), looks := true }, kinds := [], alts := [], laidByText := true, laidKinds := [.data, .data, .data, .sentinel, .sentinel], laidTests := true, laidLooks := .later }
def FnTwiceCardSaid : Prop := Claim7.holds Tryz.pinned (.plain (OpenSpec.ofChange fnTwiceSpec)) fnTwiceCard

/-- THE TIED CARD OF 'laws.FnTop'. -/
def fnTopCard : Claim7 := { stood := { row := fnTopRow, standIns := [], harness := (true, "7d351a68fd2f3d8c687e9f2d2d2bb8a4b9838128ccced001fff731eb26d67f87"), looks := true }, kinds := [], alts := [], laidByText := true, laidKinds := [.data, .data, .data, .sentinel, .sentinel], laidTests := true, laidLooks := .later }
def FnTopCardSaid : Prop := Claim7.holds Tryz.pinned (.plain (OpenSpec.ofChange fnTopSpec)) fnTopCard

/-- THE SECOND FORM's CARD OF 'laws.FnMergeUnseen'. -/
def fnMergeUnseenUptoCard : Claim7 := { stood := { row := fnMergeUnseenUptoRow, standIns := [], harness := (true, "7d351a68fd2f3d8c687e9f2d2d2bb8a4b9838128ccced001fff731eb26d67f87"), looks := true }, kinds := [], alts := [], laidByText := true, laidKinds := [.data, .data, .data, .sentinel, .sentinel], laidTests := true, laidLooks := .later }
def FnMergeUnseenUptoCardSaid : Prop := Claim7.holds Tryz.pinned (.plain (OpenSpec.upto fnMergeUnseenSpec)) fnMergeUnseenUptoCard

/-- THE SECOND FORM's CARD OF 'laws.FnNoRoom'. -/
def fnNoRoomUptoCard : Claim7 := { stood := { row := fnNoRoomUptoRow, standIns := [], harness := (true, "7d351a68fd2f3d8c687e9f2d2d2bb8a4b9838128ccced001fff731eb26d67f87"), looks := true }, kinds := [], alts := [], laidByText := true, laidKinds := [.data, .data, .data, .sentinel, .sentinel], laidTests := true, laidLooks := .later }
def FnNoRoomUptoCardSaid : Prop := Claim7.holds Tryz.pinned (.plain (OpenSpec.upto fnNoRoomSpec)) fnNoRoomUptoCard

/-- THE SECOND FORM's CARD OF 'laws.FnSessions'. -/
def fnSessionsUptoCard : Claim7 := { stood := { row := fnSessionsUptoRow, standIns := [], harness := (true, "7d351a68fd2f3d8c687e9f2d2d2bb8a4b9838128ccced001fff731eb26d67f87"), looks := true }, kinds := [], alts := [], laidByText := true, laidKinds := [.data, .data, .data, .sentinel, .sentinel], laidTests := true, laidLooks := .later }
def FnSessionsUptoCardSaid : Prop := Claim7.holds Tryz.pinned (.plain (OpenSpec.upto fnSessionsSpec)) fnSessionsUptoCard

/-- THE SECOND FORM's CARD OF 'laws.FnTwice'. -/
def fnTwiceUptoCard : Claim7 := { stood := { row := fnTwiceUptoRow, standIns := [], harness := (true, "7d351a68fd2f3d8c687e9f2d2d2bb8a4b9838128ccced001fff731eb26d67f87"), looks := true }, kinds := [], alts := [], laidByText := true, laidKinds := [.data, .data, .data, .sentinel, .sentinel], laidTests := true, laidLooks := .later }
def FnTwiceUptoCardSaid : Prop := Claim7.holds Tryz.pinned (.plain (OpenSpec.upto fnTwiceSpec)) fnTwiceUptoCard

/-- THE SECOND FORM's CARD OF 'laws.FnTop'. -/
def fnTopUptoCard : Claim7 := { stood := { row := fnTopUptoRow, standIns := [], harness := (true, "7d351a68fd2f3d8c687e9f2d2d2bb8a4b9838128ccced001fff731eb26d67f87"), looks := true }, kinds := [], alts := [], laidByText := true, laidKinds := [.data, .data, .data, .sentinel, .sentinel], laidTests := true, laidLooks := .later }
def FnTopUptoCardSaid : Prop := Claim7.holds Tryz.pinned (.plain (OpenSpec.upto fnTopSpec)) fnTopUptoCard
end Rows
end Go.Proofs.YtleflckegnlgcaaGreatDoor
