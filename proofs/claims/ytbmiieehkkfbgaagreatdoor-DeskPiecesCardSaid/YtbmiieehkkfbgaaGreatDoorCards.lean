/-
  DERIVED. GIVEN WITH THE SEED: THE CARDS: each row of YtbmiieehkkfbgaaGreatDoorRows.lean that lists a variable, with what it lists TIED to the program's text (the seventh form; the later family's looks); each row that meets fmt, with fmt's text TOLD by the authors' own Lean function (tested against real Go, not proved from fmt's source: count such statements apart). THE CARD IS WHAT COUNTS. Prove the row's statement (the work); the ties are given (YtbmiieehkkfbgaaGreatDoorTie.lean); close each card by the builder's one call (the guide's Derived/Test/ToyasCard.lean, 'card_holds'). Laid BY PROGRAM, IN A SANDBOX (cutbox-door.mjs). By AI agents, Wed Nov 11 2026. No macro, syntax, notation, axiom, sorry.
-/
import Derived.Test.YtbmiieehkkfbgaaGreatDoorRows
import GoSem.ClaimSeven
namespace Go.Proofs.YtbmiieehkkfbgaaGreatDoor
namespace Rows

/-- THE TIED CARD OF 'openbellkeep.DeskPieces'. -/
def deskPiecesCard : Claim7 := { stood := { row := deskPiecesRow, standIns := [], harness := (true, "123b5c7763ee305887a313d432eb978ec5dc9e3d3ded21a19d19f4bc25be70c0"), looks := true }, kinds := [], alts := [], laidByText := true, laidKinds := [.data, .data, .data, .data, .handle, .sentinel, .sentinel, .pinned], laidTests := true, laidLooks := .later }
def DeskPiecesCardSaid : Prop := Claim7.holds Tryz.pinned (.plain (OpenSpec.ofChange deskPiecesSpec)) deskPiecesCard

/-- THE SECOND FORM's CARD OF 'openbellkeep.DeskPieces'. -/
def deskPiecesUptoCard : Claim7 := { stood := { row := deskPiecesUptoRow, standIns := [], harness := (true, "123b5c7763ee305887a313d432eb978ec5dc9e3d3ded21a19d19f4bc25be70c0"), looks := true }, kinds := [], alts := [], laidByText := true, laidKinds := [.data, .data, .data, .data, .handle, .sentinel, .sentinel, .pinned], laidTests := true, laidLooks := .later }
def DeskPiecesUptoCardSaid : Prop := Claim7.holds Tryz.pinned (.plain (OpenSpec.upto deskPiecesSpec)) deskPiecesUptoCard
end Rows
end Go.Proofs.YtbmiieehkkfbgaaGreatDoor
