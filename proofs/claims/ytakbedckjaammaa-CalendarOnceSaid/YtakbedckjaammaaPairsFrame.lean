/-
  From rows of two ints to pairs.
-/
import Derived.WalkKit
import Derived.WalkLawsBesides
import Derived.WalkSpells
import Derived.Test.YtakbedckjaammaaTable
import Derived.Test.YtakbedckjaammaaFrame
namespace Go.Proofs.Ytakbedckjaammaa
open Go.RowKit

def pairsOf (rows : List (List Int)) : List (Int × Int) := rows.map fun r => (r.getD 0 0, r.getD 1 0)
theorem pairs_of_rows {w : World} {A : Option Addr} {len cap : Nat} {rows : List (List Int)} (h : RowsAt w 2 A len cap rows) : Pairs w A len cap (pairsOf rows) := by
  obtain ⟨h1, _, _, h4, _, h6⟩ := h
  refine ⟨by simp [pairsOf, h1], fun hl => ?_⟩
  obtain ⟨b, off, hA, hb, hc⟩ := h6 hl
  refine ⟨b, off, hA, hb, fun i hi => ?_⟩
  have hi' : i < rows.length := by omega
  have hr := (h4 rows[i] (List.getElem_mem _)).1
  have e : (pairsOf rows).getD i (0, 0) = (rows[i].getD 0 0, rows[i].getD 1 0) := by
    simp [pairsOf, List.getD_eq_getElem?_getD, hi']
  rw [e]
  have c0 := hc i hi' 0 (by omega)
  have c1 := hc i hi' 1 (by omega)
  refine ⟨?_, ?_⟩
  · show w.cell? ⟨b, off + i * 2, none⟩ = _
    rw [show off + i * 2 = off + i * 2 + 0 from rfl, c0]
    simp [List.getD_eq_getElem?_getD, List.getElem?_eq_getElem (show 0 < rows[i].length by omega)]
  · rw [c1]
    simp [List.getD_eq_getElem?_getD, List.getElem?_eq_getElem (show 1 < rows[i].length by omega)]
end Go.Proofs.Ytakbedckjaammaa
