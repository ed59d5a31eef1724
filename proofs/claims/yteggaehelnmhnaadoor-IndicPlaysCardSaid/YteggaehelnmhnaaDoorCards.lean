/-
  DERIVED. GIVEN WITH THE SEED: THE CARDS: each row of YteggaehelnmhnaaDoorRows.lean that lists a variable, with what it lists TIED to the program's text (the seventh form; the later family's looks); each row that meets fmt, with fmt's text TOLD by the authors' own Lean function (tested against real Go, not proved from fmt's source: count such statements apart). THE CARD IS WHAT COUNTS. Prove the row's statement (the work); the ties are given (YteggaehelnmhnaaDoorTie.lean); close each card by the builder's one call (the guide's Derived/Test/ToyasCard.lean, 'card_holds'). Laid BY PROGRAM, IN A SANDBOX (cutbox-door.mjs). By AI agents, Wed Nov 11 2026. No macro, syntax, notation, axiom, sorry.
-/
import Derived.Test.YteggaehelnmhnaaDoorRows
import GoSem.ClaimSeven
namespace Go.Proofs.YteggaehelnmhnaaDoor
namespace Rows

/-- THE TIED CARD OF 'openbelllaw.IndicPlays'. -/
def indicPlaysCard : Claim7 := { stood := { row := indicPlaysRow, standIns := [], harness := (true, "e5a7625dcc3f9abb0b583d02b423a109b7f18e94b5f47faa099a785e31224092"), looks := true }, kinds := [], alts := [], laidByText := true, laidKinds := [.handle], laidTests := true, laidLooks := .later }
def IndicPlaysCardSaid : Prop := Claim7.holds Tryd.pinned (.plain (OpenSpec.ofChange indicPlaysSpec)) indicPlaysCard

/-- THE SECOND FORM's CARD OF 'openbelllaw.IndicPlays'. -/
def indicPlaysUptoCard : Claim7 := { stood := { row := indicPlaysUptoRow, standIns := [], harness := (true, "e5a7625dcc3f9abb0b583d02b423a109b7f18e94b5f47faa099a785e31224092"), looks := true }, kinds := [], alts := [], laidByText := true, laidKinds := [.handle], laidTests := true, laidLooks := .later }
def IndicPlaysUptoCardSaid : Prop := Claim7.holds Tryd.pinned (.plain (OpenSpec.upto indicPlaysSpec)) indicPlaysUptoCard
end Rows
end Go.Proofs.YteggaehelnmhnaaDoor
