/-
  A slice of structs of two ints, as a list of pairs. No program of the set in sight.
-/
import Derived.WalkKit
import Derived.Below
import Derived.Deep.AppendLies
import Derived.Test.YtakbedckjaammaaDoorFrame
namespace Go.Proofs.YtakbedckjaammaaDoor
open Go.RowKit

/-- a slice of pairs of ints: its cells lie where they are read -/
def Pairs (w : World) (A : Option Addr) (len _cap : Nat) (ps : List (Int × Int)) : Prop :=
  ps.length = len ∧ (0 < len → ∃ b off, A = some ⟨b, off, none⟩ ∧ b < w.heap.size ∧
    ∀ i, i < len → w.cell? ⟨b, off + i * 2, none⟩ = some (.int .i64 (ps.getD i (0, 0)).1) ∧ w.cell? ⟨b, off + i * 2 + 1, none⟩ = some (.int .i64 (ps.getD i (0, 0)).2))

theorem Pairs.below {w w' : World} {A : Option Addr} {len cap B : Nat} {ps : List (Int × Int)} (h : Pairs w A len cap ps) (hb : Below B w w') (hB : w.heap.size ≤ B) : Pairs w' A len cap ps := by
  refine ⟨h.1, fun hl => ?_⟩
  obtain ⟨b, off, hA, hlt, hc⟩ := h.2 hl
  exact ⟨b, off, hA, by have := hb.size; omega, fun i hi => ⟨(hb.cell (p := ⟨b, _, none⟩) (by show b < B; omega)).trans (hc i hi).1, (hb.cell (p := ⟨b, _, none⟩) (by show b < B; omega)).trans (hc i hi).2⟩⟩

theorem Pairs.at_ {w : World} {b off len cap : Nat} {ps : List (Int × Int)} (h : Pairs w (some ⟨b, off, none⟩) len cap ps) {i : Nat} (hi : i < len) :
    w.cell? ⟨b, off + i * 2, none⟩ = some (.int .i64 (ps.getD i (0, 0)).1) ∧ w.cell? ⟨b, off + i * 2 + 1, none⟩ = some (.int .i64 (ps.getD i (0, 0)).2) := by
  obtain ⟨b', off', hA, _, hc⟩ := h.2 (by omega)
  cases hA
  exact hc i hi

/-- the cells of a list of pairs -/
def pairCells (ps : List (Int × Int)) : List Value := ps.flatMap fun p => [.int .i64 p.1, .int .i64 p.2]
theorem pairCells_length (ps : List (Int × Int)) : (pairCells ps).length = ps.length * 2 := by
  induction ps with
  | nil => rfl
  | cons p ps ih => simp [pairCells] at ih ⊢; omega
theorem pairCells_one (ps : List (Int × Int)) : ∀ u ∈ pairCells ps, u.oneCell' = true := by
  intro u hu
  obtain ⟨p, _, h⟩ := List.mem_flatMap.1 hu
  simp at h
  rcases h with rfl | rfl <;> rfl
theorem pairCells_get (ps : List (Int × Int)) : ∀ i, i < ps.length → (pairCells ps)[i * 2]? = some (.int .i64 (ps.getD i (0, 0)).1) ∧ (pairCells ps)[i * 2 + 1]? = some (.int .i64 (ps.getD i (0, 0)).2) := by
  induction ps with
  | nil => intro i hi; simp at hi
  | cons p ps ih =>
    intro i hi
    cases i with
    | zero => simp [pairCells]
    | succ k =>
      have h := ih k (by simpa using hi)
      have e1 : (k + 1) * 2 = k * 2 + 1 + 1 := by omega
      simp only [pairCells, List.flatMap_cons, List.cons_append, List.nil_append, e1, List.getElem?_cons_succ, List.getD_cons_succ] at h ⊢
      exact h
theorem Pairs.news {w : World} {b off len cap : Nat} {ps : List (Int × Int)} (h : Pairs w (some ⟨b, off, none⟩) len cap ps) : ∀ j u, (pairCells ps)[j]? = some u → w.cell? ((⟨b, off, none⟩ : Addr).add j) = some u := by
  intro j u hu
  have hj : j < ps.length * 2 := by
    rw [← pairCells_length]
    rcases Nat.lt_or_ge j (pairCells ps).length with h | h
    · exact h
    · rw [List.getElem?_eq_none h] at hu; cases hu
  have hl := h.1
  obtain ⟨b', off', hA, _, hc⟩ := h.2 (by omega)
  cases hA
  have hadd : (⟨b, off, none⟩ : Addr).add j = ⟨b, off + j, none⟩ := by
    unfold Addr.add
    split
    · rename_i h; subst h; rfl
    · rfl
  rw [hadd]
  have hg := pairCells_get ps (j / 2) (by omega)
  have hcj := hc (j / 2) (by omega)
  rcases Nat.mod_two_eq_zero_or_one j with hm | hm
  · have e : j / 2 * 2 = j := by omega
    rw [e] at hg hcj
    rw [hcj.1, ← hu, hg.1]
  · have e : j / 2 * 2 + 1 = j := by omega
    rw [e] at hg
    rw [show off + j = off + j / 2 * 2 + 1 from by omega, hcj.2, ← hu, hg.2]
theorem Pairs.of_own {w : World} {base g n cap : Nat} {e : TypeId} {ps : List (Int × Int)} (h : w.ownsRow base e 2 (.slice (some ⟨g, 0, none⟩) n cap) n (pairCells ps)) : Pairs w (some ⟨g, 0, none⟩) n cap ps := by
  have hl : ps.length = n := by have := h.1; rw [pairCells_length] at this; omega
  refine ⟨hl, fun hn => ⟨g, 0, rfl, (h.lt g rfl).2, fun i hi => ?_⟩⟩
  have hg := pairCells_get ps i (by omega)
  have c1 := h.cells (g := g) rfl _ _ hg.1
  have c2 := h.cells (g := g) rfl _ _ hg.2
  have hadd : ∀ j, (⟨g, 0, none⟩ : Addr).add j = ⟨g, 0 + j, none⟩ := by
    intro j
    unfold Addr.add
    split
    · rename_i h; subst h; rfl
    · rfl
  rw [hadd] at c1 c2
  exact ⟨c1, by rw [← c2]; congr 1⟩

def pairsOf (rows : List (List Int)) : List (Int × Int) := rows.map fun r => (r.getD 0 0, r.getD 1 0)
theorem pairs_of_rows {w : World} {A : Option Addr} {len cap : Nat} {rows : List (List Int)} (h : RowsAt w 2 A len cap rows) : Pairs w A len cap (pairsOf rows) := by
  obtain ⟨h1, _, _, h4, _, h6⟩ := h
  refine ⟨by simp [pairsOf, h1], fun hl => ?_⟩
  obtain ⟨b, off, hA, hb, hc⟩ := h6 hl
  refine ⟨b, off, hA, hb, fun i hi => ?_⟩
  have hi' : i < rows.length := by omega
  have hr := (h4 rows[i] (List.getElem_mem _)).1
  have e : (pairsOf rows).getD i (0, 0) = (rows[i].getD 0 0, rows[i].getD 1 0) := by
    simp [pairsOf, List.getD_eq_getElem?_getD, hi']
  rw [e]
  have c0 := hc i hi' 0 (by omega)
  have c1 := hc i hi' 1 (by omega)
  refine ⟨?_, ?_⟩
  · show w.cell? ⟨b, off + i * 2, none⟩ = _
    rw [show off + i * 2 = off + i * 2 + 0 from rfl, c0]
    simp [List.getD_eq_getElem?_getD, List.getElem?_eq_getElem (show 0 < rows[i].length by omega)]
  · rw [c1]
    simp [List.getD_eq_getElem?_getD, List.getElem?_eq_getElem (show 1 < rows[i].length by omega)]
end Go.Proofs.YtakbedckjaammaaDoor
