/-
  DERIVED. GIVEN WITH THE SEED: THE CARDS: each row of YtakbedckjaammaaDoorRows.lean that lists a variable, with what it lists TIED to the program's text (the seventh form; the later family's looks); each row that meets fmt, with fmt's text TOLD by the authors' own Lean function (tested against real Go, not proved from fmt's source: count such statements apart). THE CARD IS WHAT COUNTS. Prove the row's statement (the work); the ties are given (YtakbedckjaammaaDoorTie.lean); close each card by the builder's one call (the guide's Derived/Test/ToyasCard.lean, 'card_holds'). Laid BY PROGRAM, IN A SANDBOX (cutbox-door.mjs). By AI agents, Wed Nov 11 2026. No macro, syntax, notation, axiom, sorry.
-/
import Derived.Test.YtakbedckjaammaaDoorRows
import GoSem.ClaimSeven
namespace Go.Proofs.YtakbedckjaammaaDoor
namespace Rows

/-- THE TIED CARD OF 'openbelllaw.NumBands'. -/
def numBandsCard : Claim7 := { stood := { row := numBandsRow, standIns := [], harness := (true, "682f985f8cac3fdc146ae880842e895b7f99345c10ccbb4e8b9575a177519514"), looks := true }, kinds := [], alts := [], laidByText := true, laidKinds := [.handle], laidTests := true, laidLooks := .later }
def NumBandsCardSaid : Prop := Claim7.holds Tryd.pinned (.plain (OpenSpec.ofChange numBandsSpec)) numBandsCard

/-- THE TIED CARD OF 'openbellkeep.ArenaStale'. -/
def arenaStaleCard : Claim7 := { stood := { row := arenaStaleRow, standIns := [], harness := (true, "682f985f8cac3fdc146ae880842e895b7f99345c10ccbb4e8b9575a177519514"), looks := true }, kinds := [], alts := [], laidByText := true, laidKinds := [.handle], laidTests := true, laidLooks := .later }
def ArenaStaleCardSaid : Prop := Claim7.holds Tryd.pinned (.plain (OpenSpec.ofChange arenaStaleSpec)) arenaStaleCard

/-- THE TIED CARD OF 'openbelllaw.CalendarTables'. -/
def calendarTablesCard : Claim7 := { stood := { row := calendarTablesRow, standIns := [], harness := (true, "682f985f8cac3fdc146ae880842e895b7f99345c10ccbb4e8b9575a177519514"), looks := true }, kinds := [], alts := [], laidByText := true, laidKinds := [.handle], laidTests := true, laidLooks := .later }
def CalendarTablesCardSaid : Prop := Claim7.holds Tryd.pinned (.plain (OpenSpec.ofChange calendarTablesSpec)) calendarTablesCard

/-- THE TIED CARD OF 'openbelllaw.BandsPlay'. -/
def bandsPlayCard : Claim7 := { stood := { row := bandsPlayRow, standIns := [], harness := (true, "682f985f8cac3fdc146ae880842e895b7f99345c10ccbb4e8b9575a177519514"), looks := true }, kinds := [], alts := [], laidByText := true, laidKinds := [.handle], laidTests := true, laidLooks := .later }
def BandsPlayCardSaid : Prop := Claim7.holds Tryd.pinned (.plain (OpenSpec.ofChange bandsPlaySpec)) bandsPlayCard

/-- THE TIED CARD OF 'openbelllaw.ArenaPlays'. -/
def arenaPlaysCard : Claim7 := { stood := { row := arenaPlaysRow, standIns := [], harness := (true, "682f985f8cac3fdc146ae880842e895b7f99345c10ccbb4e8b9575a177519514"), looks := true }, kinds := [], alts := [], laidByText := true, laidKinds := [.handle], laidTests := true, laidLooks := .later }
def ArenaPlaysCardSaid : Prop := Claim7.holds Tryd.pinned (.plain (OpenSpec.ofChange arenaPlaysSpec)) arenaPlaysCard

/-- THE SECOND FORM's CARD OF 'openbelllaw.NumBands'. -/
def numBandsUptoCard : Claim7 := { stood := { row := numBandsUptoRow, standIns := [], harness := (true, "682f985f8cac3fdc146ae880842e895b7f99345c10ccbb4e8b9575a177519514"), looks := true }, kinds := [], alts := [], laidByText := true, laidKinds := [.handle], laidTests := true, laidLooks := .later }
def NumBandsUptoCardSaid : Prop := Claim7.holds Tryd.pinned (.plain (OpenSpec.upto numBandsSpec)) numBandsUptoCard

/-- THE SECOND FORM's CARD OF 'openbellkeep.ArenaStale'. -/
def arenaStaleUptoCard : Claim7 := { stood := { row := arenaStaleUptoRow, standIns := [], harness := (true, "682f985f8cac3fdc146ae880842e895b7f99345c10ccbb4e8b9575a177519514"), looks := true }, kinds := [], alts := [], laidByText := true, laidKinds := [.handle], laidTests := true, laidLooks := .later }
def ArenaStaleUptoCardSaid : Prop := Claim7.holds Tryd.pinned (.plain (OpenSpec.upto arenaStaleSpec)) arenaStaleUptoCard

/-- THE SECOND FORM's CARD OF 'openbelllaw.CalendarTables'. -/
def calendarTablesUptoCard : Claim7 := { stood := { row := calendarTablesUptoRow, standIns := [], harness := (true, "682f985f8cac3fdc146ae880842e895b7f99345c10ccbb4e8b9575a177519514"), looks := true }, kinds := [], alts := [], laidByText := true, laidKinds := [.handle], laidTests := true, laidLooks := .later }
def CalendarTablesUptoCardSaid : Prop := Claim7.holds Tryd.pinned (.plain (OpenSpec.upto calendarTablesSpec)) calendarTablesUptoCard

/-- THE SECOND FORM's CARD OF 'openbelllaw.BandsPlay'. -/
def bandsPlayUptoCard : Claim7 := { stood := { row := bandsPlayUptoRow, standIns := [], harness := (true, "682f985f8cac3fdc146ae880842e895b7f99345c10ccbb4e8b9575a177519514"), looks := true }, kinds := [], alts := [], laidByText := true, laidKinds := [.handle], laidTests := true, laidLooks := .later }
def BandsPlayUptoCardSaid : Prop := Claim7.holds Tryd.pinned (.plain (OpenSpec.upto bandsPlaySpec)) bandsPlayUptoCard

/-- THE SECOND FORM's CARD OF 'openbelllaw.ArenaPlays'. -/
def arenaPlaysUptoCard : Claim7 := { stood := { row := arenaPlaysUptoRow, standIns := [], harness := (true, "682f985f8cac3fdc146ae880842e895b7f99345c10ccbb4e8b9575a177519514"), looks := true }, kinds := [], alts := [], laidByText := true, laidKinds := [.handle], laidTests := true, laidLooks := .later }
def ArenaPlaysUptoCardSaid : Prop := Claim7.holds Tryd.pinned (.plain (OpenSpec.upto arenaPlaysSpec)) arenaPlaysUptoCard
end Rows
end Go.Proofs.YtakbedckjaammaaDoor
