/-
  Orders: structs of five ints. No program of the set in sight.
-/
import Derived.Test.YtaagaamamjabbaaFlat
namespace Go.Proofs.Ytaagaamamjabbaa
open Go.RowKit
set_option linter.unusedVariables false

/-- an order: its number, side, kind, price, lots -/
structure Ord5 where
  id : Int
  side : Int
  kind : Int
  price : Int
  qty : Int

def encO (o : Ord5) : List Value := [.int .i64 o.id, .int .i64 o.side, .int .i64 o.kind, .int .i64 o.price, .int .i64 o.qty]
def aggO (o : Ord5) : Value := .agg #[.int .i64 o.id, .int .i64 o.side, .int .i64 o.kind, .int .i64 o.price, .int .i64 o.qty]
def boxO (o : Ord5) : Array Value := #[.int .i64 o.id, .int .i64 o.side, .int .i64 o.kind, .int .i64 o.price, .int .i64 o.qty]
theorem encO_length (o : Ord5) : (encO o).length = 5 := rfl
theorem encO_one (o : Ord5) : ∀ u ∈ encO o, u.oneCell' = true := by
  intro u hu
  simp [encO] at hu
  rcases hu with rfl | rfl | rfl | rfl | rfl <;> rfl
section
variable {w : World} {A : Option Addr} {len : Nat} {ps : List Ord5}
theorem ord_at {b off : Nat} (h : ElemsAt w encO 5 (some ⟨b, off, none⟩) len ps) {i : Nat} (hi : i < ps.length) :
    w.cell? ⟨b, off + i * 5, none⟩ = some (.int .i64 ps[i].id) ∧ w.cell? ⟨b, off + i * 5 + 1, none⟩ = some (.int .i64 ps[i].side) ∧ w.cell? ⟨b, off + i * 5 + 2, none⟩ = some (.int .i64 ps[i].kind) ∧
      w.cell? ⟨b, off + i * 5 + 3, none⟩ = some (.int .i64 ps[i].price) ∧ w.cell? ⟨b, off + i * 5 + 4, none⟩ = some (.int .i64 ps[i].qty) :=
  ⟨h.at_ hi (j := 0) rfl, h.at_ hi (j := 1) rfl, h.at_ hi (j := 2) rfl, h.at_ hi (j := 3) rfl, h.at_ hi (j := 4) rfl⟩
theorem ord_own {g n c : Nat} {t : TypeId} (h : RowAt w (some ⟨g, 0, none⟩) n c t 5 (flat encO ps)) {i : Nat} (hi : i < ps.length) :
    w.cell? ⟨g, i * 5, none⟩ = some (.int .i64 ps[i].id) ∧ w.cell? ⟨g, i * 5 + 1, none⟩ = some (.int .i64 ps[i].side) ∧ w.cell? ⟨g, i * 5 + 2, none⟩ = some (.int .i64 ps[i].kind) ∧
      w.cell? ⟨g, i * 5 + 3, none⟩ = some (.int .i64 ps[i].price) ∧ w.cell? ⟨g, i * 5 + 4, none⟩ = some (.int .i64 ps[i].qty) := by
  obtain ⟨g', hg, hc⟩ := h.elem encO_length (by omega) hi
  cases hg
  exact ⟨hc 0 _ rfl, hc 1 _ rfl, hc 2 _ rfl, hc 3 _ rfl, hc 4 _ rfl⟩
theorem ord_box {g : Nat} {t : TypeId} {o : Ord5} (h : Blk w g t (boxO o)) :
    w.cell? ⟨g, 0, none⟩ = some (.int .i64 o.id) ∧ w.cell? ⟨g, 1, none⟩ = some (.int .i64 o.side) ∧ w.cell? ⟨g, 2, none⟩ = some (.int .i64 o.kind) ∧ w.cell? ⟨g, 3, none⟩ = some (.int .i64 o.price) ∧ w.cell? ⟨g, 4, none⟩ = some (.int .i64 o.qty) :=
  ⟨by rw [Blk.cell h]; rfl, by rw [Blk.cell h]; rfl, by rw [Blk.cell h]; rfl, by rw [Blk.cell h]; rfl, by rw [Blk.cell h]; rfl⟩
def ordOf (r : List Int) : Ord5 := ⟨r.getD 0 0, r.getD 1 0, r.getD 2 0, r.getD 3 0, r.getD 4 0⟩
def ordsOf (rows : List (List Int)) : List Ord5 := rows.map ordOf
theorem ords_of_rows {cap : Nat} {rows : List (List Int)} (h : RowsAt w 5 A len cap rows) : ElemsAt w encO 5 A len (ordsOf rows) := by
  obtain ⟨h1, _, _, h4, _, h6⟩ := h
  refine ⟨by simp [ordsOf, h1], fun hl => ?_⟩
  obtain ⟨b, off, hA, hb, hc⟩ := h6 hl
  refine ⟨b, off, hA, hb, fun i hi j u hu => ?_⟩
  have hi' : i < rows.length := by simpa [ordsOf] using hi
  have hr := (h4 rows[i] (List.getElem_mem _)).1
  have e : (ordsOf rows)[i] = ordOf rows[i] := by simp [ordsOf]
  rw [e] at hu
  have key : ∀ j (hj : j < rows[i].length), w.cell? ⟨b, off + i * 5 + j, none⟩ = some (.int .i64 (rows[i].getD j 0)) := by
    intro j hj
    rw [hc i hi' j hj]
    simp [List.getD_eq_getElem?_getD, hj]
  match j, hu with
  | 0, hu => cases hu; exact key 0 (by omega)
  | 1, hu => cases hu; exact key 1 (by omega)
  | 2, hu => cases hu; exact key 2 (by omega)
  | 3, hu => cases hu; exact key 3 (by omega)
  | 4, hu => cases hu; exact key 4 (by omega)
/-- its numbers are Go's ints -/
def Fit64 (x : Int) : Prop := -9223372036854775808 ≤ x ∧ x ≤ 9223372036854775807
def FitO (o : Ord5) : Prop := Fit64 o.id ∧ Fit64 o.side ∧ Fit64 o.kind ∧ Fit64 o.price ∧ Fit64 o.qty
theorem ords_fit {cap : Nat} {rows : List (List Int)} (h : RowsAt w 5 A len cap rows) : ∀ o ∈ ordsOf rows, FitO o := by
  intro o ho
  obtain ⟨r, hr, rfl⟩ := List.mem_map.1 ho
  have hl := (h.2.2.2.1 r hr).1
  have hb := (h.2.2.2.1 r hr).2
  have key : ∀ j, j < 5 → Fit64 (r.getD j 0) := by
    intro j hj
    have hj' : j < r.length := by omega
    have : r.getD j 0 = r[j] := by simp [List.getD_eq_getElem?_getD, hj']
    unfold Fit64
    rw [this]
    exact hb _ (List.getElem_mem _)
  exact ⟨key 0 (by omega), key 1 (by omega), key 2 (by omega), key 3 (by omega), key 4 (by omega)⟩
end
end Go.Proofs.Ytaagaamamjabbaa
