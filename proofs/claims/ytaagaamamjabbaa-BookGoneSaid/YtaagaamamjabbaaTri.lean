/-
  Structs of three ints. No program of the set in sight.
-/
import Derived.Test.YtaagaamamjabbaaFlat
namespace Go.Proofs.Ytaagaamamjabbaa
open Go.RowKit
set_option linter.unusedVariables false

abbrev Tri := Int × Int × Int
def encT (p : Tri) : List Value := [.int .i64 p.1, .int .i64 p.2.1, .int .i64 p.2.2]
def aggT (p : Tri) : Value := .agg #[.int .i64 p.1, .int .i64 p.2.1, .int .i64 p.2.2]
theorem encT_length (p : Tri) : (encT p).length = 3 := rfl
theorem encT_one (p : Tri) : ∀ u ∈ encT p, u.oneCell' = true := by
  intro u hu
  simp [encT] at hu
  rcases hu with rfl | rfl | rfl <;> rfl
section
variable {w : World} {A : Option Addr} {len : Nat} {ps : List Tri}
theorem tri_at {b off : Nat} (h : ElemsAt w encT 3 (some ⟨b, off, none⟩) len ps) {i : Nat} (hi : i < ps.length) :
    w.cell? ⟨b, off + i * 3, none⟩ = some (.int .i64 ps[i].1) ∧ w.cell? ⟨b, off + i * 3 + 1, none⟩ = some (.int .i64 ps[i].2.1) ∧ w.cell? ⟨b, off + i * 3 + 2, none⟩ = some (.int .i64 ps[i].2.2) :=
  ⟨h.at_ hi (j := 0) rfl, h.at_ hi (j := 1) rfl, h.at_ hi (j := 2) rfl⟩
theorem tri_own {g n c : Nat} {t : TypeId} (h : RowAt w (some ⟨g, 0, none⟩) n c t 3 (flat encT ps)) {i : Nat} (hi : i < ps.length) :
    w.cell? ⟨g, i * 3, none⟩ = some (.int .i64 ps[i].1) ∧ w.cell? ⟨g, i * 3 + 1, none⟩ = some (.int .i64 ps[i].2.1) ∧ w.cell? ⟨g, i * 3 + 2, none⟩ = some (.int .i64 ps[i].2.2) := by
  obtain ⟨g', hg, hc⟩ := h.elem encT_length (by omega) hi
  cases hg
  exact ⟨hc 0 _ rfl, hc 1 _ rfl, hc 2 _ rfl⟩
theorem row_length {α : Type} {enc : α → List Value} {k : Nat} (hk : ∀ x, (enc x).length = k) (hk0 : 0 < k) {n c : Nat} {t : TypeId} {xs : List α} (h : RowAt w A n c t k (flat enc xs)) : xs.length = n := by
  have := h.1
  rw [flat_length hk] at this
  exact Nat.eq_of_mul_eq_mul_right hk0 this

def trisOf (rows : List (List Int)) : List Tri := rows.map fun r => (r.getD 0 0, r.getD 1 0, r.getD 2 0)
theorem tris_of_rows {cap : Nat} {rows : List (List Int)} (h : RowsAt w 3 A len cap rows) : ElemsAt w encT 3 A len (trisOf rows) := by
  obtain ⟨h1, _, _, h4, _, h6⟩ := h
  refine ⟨by simp [trisOf, h1], fun hl => ?_⟩
  obtain ⟨b, off, hA, hb, hc⟩ := h6 hl
  refine ⟨b, off, hA, hb, fun i hi j u hu => ?_⟩
  have hi' : i < rows.length := by simpa [trisOf] using hi
  have hr := (h4 rows[i] (List.getElem_mem _)).1
  have e : (trisOf rows)[i] = (rows[i].getD 0 0, rows[i].getD 1 0, rows[i].getD 2 0) := by simp [trisOf]
  rw [e] at hu
  have key : ∀ j (hj : j < rows[i].length), w.cell? ⟨b, off + i * 3 + j, none⟩ = some (.int .i64 (rows[i].getD j 0)) := by
    intro j hj
    rw [hc i hi' j hj]
    simp [List.getD_eq_getElem?_getD, hj]
  match j, hu with
  | 0, hu => cases hu; exact key 0 (by omega)
  | 1, hu => cases hu; exact key 1 (by omega)
  | 2, hu => cases hu; exact key 2 (by omega)
theorem tris_bound {cap : Nat} {rows : List (List Int)} (h : RowsAt w 3 A len cap rows) : ∀ p ∈ trisOf rows, (-9223372036854775808 ≤ p.1 ∧ p.1 ≤ 9223372036854775807) ∧ (-9223372036854775808 ≤ p.2.1 ∧ p.2.1 ≤ 9223372036854775807) ∧ (-9223372036854775808 ≤ p.2.2 ∧ p.2.2 ≤ 9223372036854775807) := by
  intro p hp
  obtain ⟨r, hr, rfl⟩ := List.mem_map.1 hp
  have hl := (h.2.2.2.1 r hr).1
  have hb := (h.2.2.2.1 r hr).2
  have key : ∀ j, j < 3 → -9223372036854775808 ≤ r.getD j 0 ∧ r.getD j 0 ≤ 9223372036854775807 := by
    intro j hj
    have hj' : j < r.length := by omega
    have : r.getD j 0 = r[j] := by simp [List.getD_eq_getElem?_getD, hj']
    rw [this]
    exact hb _ (List.getElem_mem _)
  exact ⟨key 0 (by omega), key 1 (by omega), key 2 (by omega)⟩
end
end Go.Proofs.Ytaagaamamjabbaa
