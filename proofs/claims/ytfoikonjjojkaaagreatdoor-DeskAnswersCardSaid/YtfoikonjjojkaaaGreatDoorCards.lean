/-
  DERIVED. GIVEN WITH THE SEED: THE CARDS: each row of YtfoikonjjojkaaaGreatDoorRows.lean that lists a variable, with what it lists TIED to the program's text (the seventh form; the later family's looks); each row that meets fmt, with fmt's text TOLD by the authors' own Lean function (tested against real Go, not proved from fmt's source: count such statements apart). THE CARD IS WHAT COUNTS. Prove the row's statement (the work); the ties are given (YtfoikonjjojkaaaGreatDoorTie.lean); close each card by the builder's one call (the guide's Derived/Test/ToyasCard.lean, 'card_holds'). Laid BY PROGRAM, IN A SANDBOX (cutbox-door.mjs). By AI agents, Wed Nov 11 2026. No macro, syntax, notation, axiom, sorry.
-/
import Derived.Test.YtfoikonjjojkaaaGreatDoorRows
import GoSem.ClaimSeven
namespace Go.Proofs.YtfoikonjjojkaaaGreatDoor
namespace Rows

/-- THE TIED CARD OF 'openbelllaw.DeskAnswers'. -/
def deskAnswersCard : Claim7 := { stood := { row := deskAnswersRow, standIns := [], harness := (true, "04921193e94cfe270568d6ab883b1225953b139f17afec079d7bc61144e1e301"), looks := true }, kinds := [], alts := [], laidByText := true, laidKinds := [.data, .data, .data, .data, .handle, .sentinel, .sentinel, .listed, .data, .pinned], laidTests := true, laidLooks := .later }
def DeskAnswersCardSaid : Prop := Claim7.holds Tryz.pinned (.plain (OpenSpec.ofChange deskAnswersSpec)) deskAnswersCard

/-- THE SECOND FORM's CARD OF 'openbelllaw.DeskAnswers'. -/
def deskAnswersUptoCard : Claim7 := { stood := { row := deskAnswersUptoRow, standIns := [], harness := (true, "04921193e94cfe270568d6ab883b1225953b139f17afec079d7bc61144e1e301"), looks := true }, kinds := [], alts := [], laidByText := true, laidKinds := [.data, .data, .data, .data, .handle, .sentinel, .sentinel, .listed, .data, .pinned], laidTests := true, laidLooks := .later }
def DeskAnswersUptoCardSaid : Prop := Claim7.holds Tryz.pinned (.plain (OpenSpec.upto deskAnswersSpec)) deskAnswersUptoCard
end Rows
end Go.Proofs.YtfoikonjjojkaaaGreatDoor
