/-
  DERIVED. GIVEN WITH THE SEED: THE CARDS: each row of YtkcgchpbjegneaaGreatDoorRows.lean that lists a variable, with what it lists TIED to the program's text (the seventh form; the later family's looks); each row that meets fmt, with fmt's text TOLD by the authors' own Lean function (tested against real Go, not proved from fmt's source: count such statements apart). THE CARD IS WHAT COUNTS. Prove the row's statement (the work); the ties are given (YtkcgchpbjegneaaGreatDoorTie.lean); close each card by the builder's one call (the guide's Derived/Test/ToyasCard.lean, 'card_holds'). Laid BY PROGRAM, IN A SANDBOX (cutbox-door.mjs). By AI agents, Wed Nov 11 2026. No macro, syntax, notation, axiom, sorry.
-/
import Derived.Test.YtkcgchpbjegneaaGreatDoorRows
import GoSem.ClaimSeven
namespace Go.Proofs.YtkcgchpbjegneaaGreatDoor
namespace Rows

/-- THE TIED CARD OF 'openbelllaw.CrossMeets'. -/
def crossMeetsCard : Claim7 := { stood := { row := crossMeetsRow, standIns := [], harness := (true, "a8abfd57afbfec8357aa1d9c9a179e024689dcd30eb89620aed480c588f36416"), looks := true }, kinds := [], alts := [], laidByText := true, laidKinds := [.handle], laidTests := true, laidLooks := .later }
def CrossMeetsCardSaid : Prop := Claim7.holds Tryz.pinned (.plain (OpenSpec.ofChange crossMeetsSpec)) crossMeetsCard

/-- THE TIED CARD OF 'openbelllaw.CrossFills'. -/
def crossFillsCard : Claim7 := { stood := { row := crossFillsRow, standIns := [], harness := (true, "a8abfd57afbfec8357aa1d9c9a179e024689dcd30eb89620aed480c588f36416"), looks := true }, kinds := [], alts := [], laidByText := true, laidKinds := [.handle], laidTests := true, laidLooks := .later }
def CrossFillsCardSaid : Prop := Claim7.holds Tryz.pinned (.plain (OpenSpec.ofChange crossFillsSpec)) crossFillsCard

/-- THE TIED CARD OF 'openbelllaw.EnginePlays'. -/
def enginePlaysCard : Claim7 := { stood := { row := enginePlaysRow, standIns := [], harness := (true, "a8abfd57afbfec8357aa1d9c9a179e024689dcd30eb89620aed480c588f36416"), looks := true }, kinds := [], alts := [], laidByText := true, laidKinds := [.handle], laidTests := true, laidLooks := .later }
def EnginePlaysCardSaid : Prop := Claim7.holds Tryz.pinned (.plain (OpenSpec.ofChange enginePlaysSpec)) enginePlaysCard

/-- THE SECOND FORM's CARD OF 'openbelllaw.CrossMeets'. -/
def crossMeetsUptoCard : Claim7 := { stood := { row := crossMeetsUptoRow, standIns := [], harness := (true, "a8abfd57afbfec8357aa1d9c9a179e024689dcd30eb89620aed480c588f36416"), looks := true }, kinds := [], alts := [], laidByText := true, laidKinds := [.handle], laidTests := true, laidLooks := .later }
def CrossMeetsUptoCardSaid : Prop := Claim7.holds Tryz.pinned (.plain (OpenSpec.upto crossMeetsSpec)) crossMeetsUptoCard

/-- THE SECOND FORM's CARD OF 'openbelllaw.CrossFills'. -/
def crossFillsUptoCard : Claim7 := { stood := { row := crossFillsUptoRow, standIns := [], harness := (true, "a8abfd57afbfec8357aa1d9c9a179e024689dcd30eb89620aed480c588f36416"), looks := true }, kinds := [], alts := [], laidByText := true, laidKinds := [.handle], laidTests := true, laidLooks := .later }
def CrossFillsUptoCardSaid : Prop := Claim7.holds Tryz.pinned (.plain (OpenSpec.upto crossFillsSpec)) crossFillsUptoCard

/-- THE SECOND FORM's CARD OF 'openbelllaw.EnginePlays'. -/
def enginePlaysUptoCard : Claim7 := { stood := { row := enginePlaysUptoRow, standIns := [], harness := (true, "a8abfd57afbfec8357aa1d9c9a179e024689dcd30eb89620aed480c588f36416"), looks := true }, kinds := [], alts := [], laidByText := true, laidKinds := [.handle], laidTests := true, laidLooks := .later }
def EnginePlaysUptoCardSaid : Prop := Claim7.holds Tryz.pinned (.plain (OpenSpec.upto enginePlaysSpec)) enginePlaysUptoCard
end Rows
end Go.Proofs.YtkcgchpbjegneaaGreatDoor
