/-
  DERIVED. GIVEN WITH THE SEED: THE CARDS: each row of YtlfnddmncbkjaabGreatDoorRows.lean that lists a variable, with what it lists TIED to the program's text (the seventh form; the later family's looks); each row that meets fmt, with fmt's text TOLD by the authors' own Lean function (tested against real Go, not proved from fmt's source: count such statements apart). THE CARD IS WHAT COUNTS. Prove the row's statement (the work); the ties are given (YtlfnddmncbkjaabGreatDoorTie.lean); close each card by the builder's one call (the guide's Derived/Test/ToyasCard.lean, 'card_holds'). Laid BY PROGRAM, IN A SANDBOX (cutbox-door.mjs). By AI agents, Wed Nov 11 2026. No macro, syntax, notation, axiom, sorry.
-/
import Derived.Test.YtlfnddmncbkjaabGreatDoorRows
import GoSem.ClaimSeven
namespace Go.Proofs.YtlfnddmncbkjaabGreatDoor
namespace Rows

/-- THE TIED CARD OF 'ferrybridgekeep.DriveOn'. -/
def driveOnCard : Claim7 := { stood := { row := driveOnRow, standIns := [], harness := (true, "87c377a858c9e0b09764c8703a14ffde3259f267cd1edd2243b98e7c81df95e8"), looks := true }, kinds := [], alts := [], laidByText := true, laidKinds := [.data, .data, .data, .data, .sentinel, .sentinel, .listed, .data, .pinned], laidTests := true, laidLooks := .later }
def DriveOnCardSaid : Prop := Claim7.holds Tryz.pinned (.plain (OpenSpec.ofChange driveOnSpec)) driveOnCard

/-- THE SECOND FORM's CARD OF 'ferrybridgekeep.DriveOn'. -/
def driveOnUptoCard : Claim7 := { stood := { row := driveOnUptoRow, standIns := [], harness := (true, "87c377a858c9e0b09764c8703a14ffde3259f267cd1edd2243b98e7c81df95e8"), looks := true }, kinds := [], alts := [], laidByText := true, laidKinds := [.data, .data, .data, .data, .sentinel, .sentinel, .listed, .data, .pinned], laidTests := true, laidLooks := .later }
def DriveOnUptoCardSaid : Prop := Claim7.holds Tryz.pinned (.plain (OpenSpec.upto driveOnSpec)) driveOnUptoCard
end Rows
end Go.Proofs.YtlfnddmncbkjaabGreatDoor
