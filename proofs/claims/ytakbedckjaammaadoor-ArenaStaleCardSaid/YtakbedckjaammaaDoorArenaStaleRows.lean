/-
  openbellkeep.ArenaStale over a slice of ints as it comes in.
-/
import Derived.Test.YtakbedckjaammaaDoorArenaStaleWalk
namespace Go.Proofs.YtakbedckjaammaaDoor
open Go.RowKit

def intsOf (rows : List (List Int)) : List Int := rows.map fun r => r.getD 0 0
theorem ints_of_rows {w : World} {A : Option Addr} {len cap : Nat} {rows : List (List Int)} (h : RowsAt w 1 A len cap rows) : ElemsAt w encI 1 A len (intsOf rows) := by
  obtain ⟨h1, _, _, h4, _, h6⟩ := h
  refine ⟨by simp [intsOf, h1], fun hl => ?_⟩
  obtain ⟨b, off, hA, hb, hc⟩ := h6 hl
  refine ⟨b, off, hA, hb, fun i hi j u hu => ?_⟩
  have hi' : i < rows.length := by simpa [intsOf] using hi
  have hr := (h4 rows[i] (List.getElem_mem _)).1
  have e : (intsOf rows)[i] = rows[i].getD 0 0 := by simp [intsOf]
  rw [e] at hu
  match j, hu with
  | 0, hu =>
    cases hu
    rw [hc i hi' 0 (by omega)]
    simp [List.getD_eq_getElem?_getD, List.getElem?_eq_getElem (show 0 < rows[i].length by omega)]

theorem arenaStale_rows (most : Int) {W : World} {A : Option Addr} {len cap : Nat} {rows : List (List Int)} (h : RowsAt W 1 A len cap rows) (hE : ErrType W) :
    Calls Tryd.prog 4 #[.int .i64 most, .slice A len cap] W fun e w' => e = .returned (.bool true) ∧ Below W.heap.size W w' :=
  arenaStale_any most A len cap (intsOf rows) W (ints_of_rows h) (by obtain ⟨_, h1, h2, _⟩ := h; unfold maxLen at h2; omega) hE
end Go.Proofs.YtakbedckjaammaaDoor
