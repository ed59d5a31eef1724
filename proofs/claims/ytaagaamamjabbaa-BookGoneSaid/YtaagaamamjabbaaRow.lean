/-
  An own slice by its cells, and what stores, appends and reslices make of it. No program of the set in sight.
-/
import Derived.WalkKit
import Derived.Below
import Derived.Laws.OwnMore
import Derived.Deep.AppendLies
import Derived.Test.YtaagaamamjabbaaBlk
namespace Go.Proofs.Ytaagaamamjabbaa
open Go.RowKit

/-- an own slice -/
def RowAt (w : World) (A : Option Addr) (n c : Nat) (t : TypeId) (sz : Nat) (xs : List Value) : Prop := w.ownsRow 0 t sz (.slice A n c) n xs
/-- the block of an own slice -/
def blkOf (A : Option Addr) : Option Nat := A.map (·.block)
theorem own_slice (A : Option Addr) (n c : Nat) : (Value.slice A n c).ownBlock = blkOf A := by cases A <;> rfl

theorem own_base0 {w : World} {base : Nat} {e : TypeId} {size : Nat} {v : Value} {n : Nat} {xs : List Value} (h : w.ownsRow base e size v n xs) : w.ownsRow 0 e size v n xs := by
  refine ⟨h.1, ?_⟩
  rcases h.2 with h1 | ⟨g, cap, cur, h1, h2, h3⟩
  · exact .inl h1
  · exact .inr ⟨g, cap, cur, h1, Nat.zero_le _, h3⟩

theorem RowAt.cell {w : World} {A : Option Addr} {n c sz : Nat} {t : TypeId} {xs : List Value} (h : RowAt w A n c t sz xs) {j : Nat} {u : Value} (hu : xs[j]? = some u) :
    ∃ g, A = some ⟨g, 0, none⟩ ∧ w.cell? ⟨g, j, none⟩ = some u := by
  rcases h.2 with ⟨_, h0⟩ | ⟨g, cap, cur, hv, _⟩
  · have hl := h.1
    rw [h0] at hl
    rw [List.getElem?_eq_none (by omega)] at hu
    cases hu
  · cases hv
    refine ⟨g, rfl, ?_⟩
    have := World.ownsRow.cells h (g := g) rfl j u hu
    have hadd : (⟨g, 0, none⟩ : Addr).add j = ⟨g, j, none⟩ := by unfold Addr.add; split <;> simp_all
    rw [hadd] at this
    exact this

section
variable {w w' : World} {A : Option Addr} {n c sz : Nat} {t : TypeId} {xs : List Value}
theorem RowAt.lt (h : RowAt w A n c t sz xs) {g : Nat} (hg : blkOf A = some g) : g < w.heap.size := (World.ownsRow.lt h g (by rw [own_slice]; exact hg)).2
theorem RowAt.of_block (h : RowAt w A n c t sz xs) (hb : ∀ g, blkOf A = some g → w'.heap[g]? = w.heap[g]?) : RowAt w' A n c t sz xs := by
  refine ⟨h.1, ?_⟩
  rcases h.2 with h1 | ⟨g, cap, cur, hv, h1, h2, h3⟩
  · exact .inl h1
  · cases hv
    exact .inr ⟨g, c, cur, rfl, h1, (hb g rfl).trans h2, h3⟩
theorem RowAt.keeps {S : Nat → Prop} (h : RowAt w A n c t sz xs) (hk : Keeps S w w') (hn : ∀ g, blkOf A = some g → ¬ S g) : RowAt w' A n c t sz xs :=
  h.of_block fun g hg => hk.block g (h.lt hg) (hn g hg)
theorem RowAt.below (h : RowAt w A n c t sz xs) (hb : Below w.heap.size w w') : RowAt w' A n c t sz xs := h.of_block fun g hg => hb.block g (h.lt hg)
theorem RowAt.set {g : Nat} (h : RowAt w (some ⟨g, 0, none⟩) n c t sz xs) (j : Nat) (u : Value) : RowAt (w.setCell ⟨g, j, none⟩ u) (some ⟨g, 0, none⟩) n c t sz (xs.set j u) := (World.ownsRow.stored h j u).1
theorem RowAt.frozen {g : Nat} (h : RowAt w (some ⟨g, 0, none⟩) n c t sz xs) (j : Nat) : w.frozen? ⟨g, j, none⟩ = false := World.ownsRow.frozenAt h j
theorem RowAt.pop {g : Nat} (h : RowAt w (some ⟨g, 0, none⟩) n c t sz xs) (m : Nat) (hm : m ≤ n) : RowAt w (some ⟨g, 0, none⟩) m c t sz (xs.take (m * sz)) := by
  have hl := h.1
  have hle : m * sz ≤ n * sz := Nat.mul_le_mul_right _ hm
  refine ⟨by simp; omega, ?_⟩
  rcases h.2 with ⟨h1, _⟩ | ⟨g', cap, cur, hv, h1, h2, h3, h4, h5, h6⟩
  · cases h1
  · cases hv
    exact .inr ⟨g, c, cur, rfl, h1, h2, by omega, h4, h5, by rw [← h6, List.take_take, Nat.min_eq_left hle]⟩
end
end Go.Proofs.Ytaagaamamjabbaa
