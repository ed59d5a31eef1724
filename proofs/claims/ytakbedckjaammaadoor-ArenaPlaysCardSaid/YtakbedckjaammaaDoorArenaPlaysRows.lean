/-
  openbelllaw.ArenaPlays over a slice of slots as it comes in.
-/
import Derived.Test.YtakbedckjaammaaDoorArenaPlaysWalk
namespace Go.Proofs.YtakbedckjaammaaDoor
open Go.RowKit

theorem arenaPlays_rows (most : Int) {W : World} {A : Option Addr} {len cap : Nat} {rows : List (List Int)} (h : RowsAt W 4 A len cap rows) (hE : ErrType W) :
    Calls Tryd.prog 7 #[.int .i64 most, .slice A len cap] W fun e w' => e = .returned (.bool true) ∧ Below W.heap.size W w' :=
  arenaPlays_any most A len cap (quadsOf rows) W (quads_of_rows h) (by obtain ⟨_, h1, h2, _⟩ := h; unfold maxLen at h2; omega) hE
end Go.Proofs.YtakbedckjaammaaDoor
