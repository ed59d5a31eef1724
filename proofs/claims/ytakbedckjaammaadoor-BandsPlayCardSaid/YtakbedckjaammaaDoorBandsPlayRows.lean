/-
  openbelllaw.BandsPlay over a slice of prices as it comes in.
-/
import Derived.Test.YtakbedckjaammaaDoorBandsPlayWalk
namespace Go.Proofs.YtakbedckjaammaaDoor
open Go.RowKit

theorem bandsPlay_rows (st dy p : Int) {W : World} {A : Option Addr} {len cap : Nat} {rows : List (List Int)} (h : RowsAt W 2 A len cap rows) (hE : ErrType W) :
    Calls Tryd.prog 6 #[.int .i64 st, .int .i64 dy, .int .i64 p, .slice A len cap] W fun e w' => e = .returned (.bool true) ∧ Below W.heap.size W w' :=
  bandsPlay_any st dy p A len cap (pairsOf rows) W (pairs_of_rows h) (by obtain ⟨_, h1, h2, _⟩ := h; unfold maxLen at h2; omega) hE
end Go.Proofs.YtakbedckjaammaaDoor
