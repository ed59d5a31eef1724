/-
  openbelllaw.BookPlays over a slice of lies as it comes in.
-/
import Derived.Test.YtkcgchpbjegneaaDoorBookPlaysWalk
namespace Go.Proofs.YtkcgchpbjegneaaDoor
open Go.RowKit

def liesOf (rows : List (List Int)) : List LieT := rows.map fun r => (r.getD 0 0, r.getD 1 0, ⟨r.getD 2 0, r.getD 3 0, r.getD 4 0, r.getD 5 0, r.getD 6 0⟩)
theorem lies_of_rows {w : World} {A : Option Addr} {len cap : Nat} {rows : List (List Int)} (h : RowsAt w 7 A len cap rows) : ElemsAt w encLie 7 A len (liesOf rows) := by
  obtain ⟨h1, _, _, h4, _, h6⟩ := h
  refine ⟨by simp [liesOf, h1], fun hl => ?_⟩
  obtain ⟨b, off, hA, hb, hc⟩ := h6 hl
  refine ⟨b, off, hA, hb, fun i hi j u hu => ?_⟩
  have hi' : i < rows.length := by simpa [liesOf] using hi
  have hr := (h4 rows[i] (List.getElem_mem _)).1
  have e : (liesOf rows)[i] = (rows[i].getD 0 0, rows[i].getD 1 0, ⟨rows[i].getD 2 0, rows[i].getD 3 0, rows[i].getD 4 0, rows[i].getD 5 0, rows[i].getD 6 0⟩) := by simp [liesOf]
  rw [e] at hu
  have key : ∀ j (hj : j < rows[i].length), w.cell? ⟨b, off + i * 7 + j, none⟩ = some (.int .i64 (rows[i].getD j 0)) := by
    intro j hj
    rw [hc i hi' j hj]
    simp [List.getD_eq_getElem?_getD, hj]
  match j, hu with
  | 0, hu => cases hu; exact key 0 (by omega)
  | 1, hu => cases hu; exact key 1 (by omega)
  | 2, hu => cases hu; exact key 2 (by omega)
  | 3, hu => cases hu; exact key 3 (by omega)
  | 4, hu => cases hu; exact key 4 (by omega)
  | 5, hu => cases hu; exact key 5 (by omega)
  | 6, hu => cases hu; exact key 6 (by omega)
theorem lies_fit {w : World} {A : Option Addr} {len cap : Nat} {rows : List (List Int)} (h : RowsAt w 7 A len cap rows) : ∀ x ∈ liesOf rows, Fit64 x.2.1 ∧ FitO x.2.2 := by
  intro o ho
  obtain ⟨r, hr, rfl⟩ := List.mem_map.1 ho
  have hl := (h.2.2.2.1 r hr).1
  have hb := (h.2.2.2.1 r hr).2
  have key : ∀ j, j < 7 → Fit64 (r.getD j 0) := by
    intro j hj
    have hj' : j < r.length := by omega
    have : r.getD j 0 = r[j] := by simp [List.getD_eq_getElem?_getD, hj']
    unfold Fit64
    rw [this]
    exact hb _ (List.getElem_mem _)
  exact ⟨key 1 (by omega), key 2 (by omega), key 3 (by omega), key 4 (by omega), key 5 (by omega), key 6 (by omega)⟩

theorem bookPlays_rows {W : World} {A : Option Addr} {len cap : Nat} {rows : List (List Int)} (h : RowsAt W 7 A len cap rows) (side : Int) (hE : ErrType W) :
    Calls Tryd.prog 3 #[.slice A len cap, .int .i64 side] W fun e w' => e = .returned (.bool true) ∧ Below W.heap.size W w' :=
  bookPlays_any side A len cap (liesOf rows) W (lies_of_rows h) (by obtain ⟨_, h1, h2, _⟩ := h; unfold maxLen at h2; omega) (lies_fit h) hE
end Go.Proofs.YtkcgchpbjegneaaDoor
