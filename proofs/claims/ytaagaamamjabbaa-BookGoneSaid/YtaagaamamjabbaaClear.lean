/-
  The builtin clear on a slice of structs; an own row behind stores past its end. No program of the set in sight.
-/
import Derived.Test.YtaagaamamjabbaaFlat
import Derived.Lib.SliceRun
namespace Go.Proofs.Ytaagaamamjabbaa
open Go.RowKit
set_option linter.unusedVariables false

theorem run_clear_any {P : Program} (w : World) (t e ty : TypeId) (z : Value) (k : Nat) (ht : P.underlying t = some (.slice e)) (hv : ∀ w, (zeroValue e).run P w = .ok z w) (hk : z.cells.size = k) (hk0 : 0 < k) (h1 : ∀ v ∈ z.cells, v.oneCell' = true) (b o n c : Nat) (hn : 0 < n)
    (hc : ∀ j, j < n * k → (w.cell? ⟨b, o + j, none⟩).isSome = true) (hf : ∀ j, j < n * k → w.frozen? ⟨b, o + j, none⟩ = false) :
    ∃ vs : List Value, vs.length = n * k ∧ (Builtin.clear_ #[t] ty #[.slice (some ⟨b, o, none⟩) n c]).run P w = .ok (.tuple #[]) (w.setCells b o vs) := by
  refine ⟨(Builtin.zeroCells z.cells n).toList, by simp [Builtin.zeroCells, hk], ?_⟩
  have hone : ∀ v ∈ (Builtin.zeroCells z.cells n).toList, v.oneCell' = true := by
    intro v hv'
    simp [Builtin.zeroCells] at hv'
    obtain ⟨i, _, rfl⟩ := hv'
    have hlt : i % z.cells.size < z.cells.size := Nat.mod_lt _ (by omega)
    rw [getElem!_pos z.cells _ hlt]
    exact h1 _ (Array.getElem_mem hlt)
  have hst := run_storeCells_cells (P := P) b o (Builtin.zeroCells z.cells n).toList 0 w (by simpa [Builtin.zeroCells, hk] using hc) (by simpa [Builtin.zeroCells, hk] using hf) hone
  simp only [Nat.add_zero] at hst
  obtain ⟨m, rfl⟩ : ∃ m, n = m + 1 := ⟨n - 1, by omega⟩
  simp [Builtin.clear_, run_underlying ht, hv, hst]

section
variable {w w' : World} {n c sz g : Nat} {t : TypeId} {xs : List Value}
theorem RowAt.set_past (h : RowAt w (some ⟨g, 0, none⟩) n c t sz xs) (j : Nat) (u : Value) (hj : n * sz ≤ j) : RowAt (w.setCell ⟨g, j, none⟩ u) (some ⟨g, 0, none⟩) n c t sz xs := by
  have h1 := h.set j u
  rwa [List.set_eq_of_length_le (by rw [h.1]; exact hj)] at h1
theorem RowAt.sets_past (vs : List Value) : ∀ (w : World) (j : Nat), RowAt w (some ⟨g, 0, none⟩) n c t sz xs → n * sz ≤ j → RowAt (w.setCells g j vs) (some ⟨g, 0, none⟩) n c t sz xs := by
  induction vs with
  | nil => intro w j h _; exact h
  | cons v vs ih => intro w j h hj; exact ih _ (j + 1) (h.set_past j v hj) (by omega)
theorem RowAt.cap (h : RowAt w (some ⟨g, 0, none⟩) n c t sz xs) : n ≤ c ∧ c ≤ 9223372036854775807 := by
  rcases h.2 with ⟨h1, _⟩ | ⟨g', cap, cur, hv, h1, h2, h3, h4, _⟩
  · cases h1
  · cases hv
    unfold maxLen at h4
    exact ⟨h3, h4⟩
theorem Keeps.setCells (vs : List Value) (b : Nat) : ∀ (w : World) (j : Nat), Keeps (fun i => i = b) w (w.setCells b j vs) := by
  induction vs with
  | nil => intro w j; exact Keeps.refl _ _
  | cons v vs ih => intro w j; exact (Keeps.set_ w ⟨b, j, none⟩ v).trans (ih _ (j + 1)) (fun i h => .inl h)
theorem RowAt.some_ (h : RowAt w (some ⟨g, 0, none⟩) n c t sz xs) {j : Nat} (hj : j < n * sz) : (w.cell? ⟨g, j, none⟩).isSome = true := by
  have hl : j < xs.length := by rw [h.1]; exact hj
  obtain ⟨g', hg, hc⟩ := h.cell (List.getElem?_eq_getElem hl)
  cases hg
  rw [hc]; rfl
end
end Go.Proofs.Ytaagaamamjabbaa
