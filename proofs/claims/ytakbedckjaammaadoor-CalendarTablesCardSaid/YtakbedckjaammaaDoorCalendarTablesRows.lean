/-
  openbelllaw.CalendarTables over a slice of rows as it comes in.
-/
import Derived.Test.YtakbedckjaammaaDoorCalendarTablesWalk
namespace Go.Proofs.YtakbedckjaammaaDoor
open Go.RowKit

theorem calendarTables_rows {W : World} {A : Option Addr} {len cap : Nat} {rows : List (List Int)} (h : RowsAt W 2 A len cap rows) (now : Int) (hE : ErrType W) :
    Calls Tryd.prog 5 #[.slice A len cap, .int .i64 now] W fun e w' => e = .returned (.bool true) ∧ Below W.heap.size W w' :=
  calendarTables_any now A len cap (pairsOf rows) W (pairs_of_rows h) (by obtain ⟨_, h1, h2, _⟩ := h; unfold maxLen at h2; omega) hE
end Go.Proofs.YtakbedckjaammaaDoor
