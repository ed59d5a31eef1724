/-
  A slice of structs of four ints, as a list of quadruples. No program of the set in sight.
-/
import Derived.WalkKit
import Derived.Below
import Derived.Test.YtakbedckjaammaaDoorFrame
namespace Go.Proofs.YtakbedckjaammaaDoor
open Go.RowKit

abbrev Quad := Int × Int × Int × Int
/-- a slice of structs of four ints: its cells lie where they are read -/
def Quads (w : World) (A : Option Addr) (len : Nat) (ps : List Quad) : Prop :=
  ps.length = len ∧ (0 < len → ∃ b off, A = some ⟨b, off, none⟩ ∧ b < w.heap.size ∧
    ∀ i, i < len → w.cell? ⟨b, off + i * 4, none⟩ = some (.int .i64 (ps.getD i (0, 0, 0, 0)).1) ∧ w.cell? ⟨b, off + i * 4 + 1, none⟩ = some (.int .i64 (ps.getD i (0, 0, 0, 0)).2.1) ∧
      w.cell? ⟨b, off + i * 4 + 2, none⟩ = some (.int .i64 (ps.getD i (0, 0, 0, 0)).2.2.1) ∧ w.cell? ⟨b, off + i * 4 + 3, none⟩ = some (.int .i64 (ps.getD i (0, 0, 0, 0)).2.2.2))

theorem Quads.below {w w' : World} {A : Option Addr} {len B : Nat} {ps : List Quad} (h : Quads w A len ps) (hb : Below B w w') (hB : w.heap.size ≤ B) : Quads w' A len ps := by
  refine ⟨h.1, fun hl => ?_⟩
  obtain ⟨b, off, hA, hlt, hc⟩ := h.2 hl
  have hs := hb.size
  refine ⟨b, off, hA, by omega, fun i hi => ?_⟩
  obtain ⟨c0, c1, c2, c3⟩ := hc i hi
  have hbB : b < B := by omega
  exact ⟨(hb.cell (p := ⟨b, _, none⟩) hbB).trans c0, (hb.cell (p := ⟨b, _, none⟩) hbB).trans c1, (hb.cell (p := ⟨b, _, none⟩) hbB).trans c2, (hb.cell (p := ⟨b, _, none⟩) hbB).trans c3⟩
theorem Quads.at_ {w : World} {b off len : Nat} {ps : List Quad} (h : Quads w (some ⟨b, off, none⟩) len ps) {i : Nat} (hi : i < len) :
    w.cell? ⟨b, off + i * 4, none⟩ = some (.int .i64 (ps.getD i (0, 0, 0, 0)).1) ∧ w.cell? ⟨b, off + i * 4 + 1, none⟩ = some (.int .i64 (ps.getD i (0, 0, 0, 0)).2.1) ∧
      w.cell? ⟨b, off + i * 4 + 2, none⟩ = some (.int .i64 (ps.getD i (0, 0, 0, 0)).2.2.1) ∧ w.cell? ⟨b, off + i * 4 + 3, none⟩ = some (.int .i64 (ps.getD i (0, 0, 0, 0)).2.2.2) := by
  obtain ⟨b', off', hA, _, hc⟩ := h.2 (by omega)
  cases hA
  exact hc i hi

def quadsOf (rows : List (List Int)) : List Quad := rows.map fun r => (r.getD 0 0, r.getD 1 0, r.getD 2 0, r.getD 3 0)
theorem quads_of_rows {w : World} {A : Option Addr} {len cap : Nat} {rows : List (List Int)} (h : RowsAt w 4 A len cap rows) : Quads w A len (quadsOf rows) := by
  obtain ⟨h1, _, _, h4, _, h6⟩ := h
  refine ⟨by simp [quadsOf, h1], fun hl => ?_⟩
  obtain ⟨b, off, hA, hb, hc⟩ := h6 hl
  refine ⟨b, off, hA, hb, fun i hi => ?_⟩
  have hi' : i < rows.length := by omega
  have hr := (h4 rows[i] (List.getElem_mem _)).1
  have e : (quadsOf rows).getD i (0, 0, 0, 0) = (rows[i].getD 0 0, rows[i].getD 1 0, rows[i].getD 2 0, rows[i].getD 3 0) := by
    simp [quadsOf, List.getD_eq_getElem?_getD, hi']
  rw [e]
  have key : ∀ j (hj : j < rows[i].length), w.cell? ⟨b, off + i * 4 + j, none⟩ = some (.int .i64 (rows[i].getD j 0)) := by
    intro j hj
    rw [hc i hi' j hj]
    simp [List.getD_eq_getElem?_getD, hj]
  exact ⟨key 0 (by omega), key 1 (by omega), key 2 (by omega), key 3 (by omega)⟩
end Go.Proofs.YtakbedckjaammaaDoor
