/-
  DERIVED. GIVEN WITH THE SEED: THE CARDS: each row of YtnlngicnfegjgaaGreatDoorRows.lean that lists a variable, with what it lists TIED to the program's text (the seventh form; the later family's looks); each row that meets fmt, with fmt's text TOLD by the authors' own Lean function (tested against real Go, not proved from fmt's source: count such statements apart). THE CARD IS WHAT COUNTS. Prove the row's statement (the work); the ties are given (YtnlngicnfegjgaaGreatDoorTie.lean); close each card by the builder's one call (the guide's Derived/Test/ToyasCard.lean, 'card_holds'). Laid BY PROGRAM, IN A SANDBOX (cutbox-door.mjs). By AI agents, Wed Nov 11 2026. No macro, syntax, notation, axiom, sorry.
-/
import Derived.Test.YtnlngicnfegjgaaGreatDoorRows
import GoSem.ClaimSeven
namespace Go.Proofs.YtnlngicnfegjgaaGreatDoor
namespace Rows

/-- THE TIED CARD OF 'openbellkeep.EngineDay'. -/
def engineDayCard : Claim7 := { stood := { row := engineDayRow, standIns := [], harness := (true, "f6b1d19a733bb328d13d10fa86fa0b66e1d72acca64c438412a25e8515521499"), looks := true }, kinds := [], alts := [], laidByText := true, laidKinds := [.handle], laidTests := true, laidLooks := .later }
def EngineDayCardSaid : Prop := Claim7.holds Tryz.pinned (.plain (OpenSpec.ofChange engineDaySpec)) engineDayCard

/-- THE TIED CARD OF 'openbelllaw.EnginePlays'. -/
def enginePlaysCard : Claim7 := { stood := { row := enginePlaysRow, standIns := [], harness := (true, "f6b1d19a733bb328d13d10fa86fa0b66e1d72acca64c438412a25e8515521499"), looks := true }, kinds := [], alts := [], laidByText := true, laidKinds := [.handle], laidTests := true, laidLooks := .later }
def EnginePlaysCardSaid : Prop := Claim7.holds Tryz.pinned (.plain (OpenSpec.ofChange enginePlaysSpec)) enginePlaysCard

/-- THE SECOND FORM's CARD OF 'openbellkeep.EngineDay'. -/
def engineDayUptoCard : Claim7 := { stood := { row := engineDayUptoRow, standIns := [], harness := (true, "f6b1d19a733bb328d13d10fa86fa0b66e1d72acca64c438412a25e8515521499"), looks := true }, kinds := [], alts := [], laidByText := true, laidKinds := [.handle], laidTests := true, laidLooks := .later }
def EngineDayUptoCardSaid : Prop := Claim7.holds Tryz.pinned (.plain (OpenSpec.upto engineDaySpec)) engineDayUptoCard

/-- THE SECOND FORM's CARD OF 'openbelllaw.EnginePlays'. -/
def enginePlaysUptoCard : Claim7 := { stood := { row := enginePlaysUptoRow, standIns := [], harness := (true, "f6b1d19a733bb328d13d10fa86fa0b66e1d72acca64c438412a25e8515521499"), looks := true }, kinds := [], alts := [], laidByText := true, laidKinds := [.handle], laidTests := true, laidLooks := .later }
def EnginePlaysUptoCardSaid : Prop := Claim7.holds Tryz.pinned (.plain (OpenSpec.upto enginePlaysSpec)) enginePlaysUptoCard
end Rows
end Go.Proofs.YtnlngicnfegjgaaGreatDoor
