/-
  sort.Ints on an own slice.
-/
import Derived.WalkKit
import Derived.WalkLawsBesides
import Derived.WalkSpells
import Derived.Sort.OwnSortedInts
import Derived.Test.YteggaehelnmhnaaDoorRows
import Derived.Test.YteggaehelnmhnaaDoorKeysLaid
import Derived.Test.YteggaehelnmhnaaDoorMem
namespace Go.Proofs.YteggaehelnmhnaaDoor
open Go.RowKit Go.Sort Go.Shelf Go.Proofs
set_option linter.unusedVariables false

theorem Keeps.of_grown {w w' : World} {row : Option Nat} (h : w.grownBy w' row) : Keeps (fun i => row = some i) w w' := ⟨h.os, h.tape, h.output, h.size, fun k hk hn => h.block k hk (fun e => hn e.symm)⟩

theorem sliceSort_any (A : Option Addr) (n c : Nat) (S : List Int) (w : World) (h : RowAt w A n c 3 1 (S.map (Value.int .i64))) (hn : n ≤ 1000000) :
    Calls Tryd.prog 30 #[.slice A n c] w fun e w' => e = .returned (.tuple #[]) ∧ RowAt w' A n c 3 1 ((S.mergeSort fun x y => decide (x ≤ y)).map (Value.int .i64)) ∧ Keeps (fun i => blkOf A = some i) w w' := by
  have hl : S.length = n := by have := h.1; simpa using this
  rcases h.2 with ⟨hv, h0⟩ | ⟨g, cap, cur, hv, h1, h2, h3, h4, h5, h6⟩
  · subst h0
    obtain rfl : S = [] := List.eq_nil_of_length_eq_zero hl
    refine (AnyM.slices_Sort_int_none sortA A c w).mono ?_
    rintro e w' ⟨rfl, rfl⟩
    exact ⟨rfl, by simpa using h, Keeps.refl _ _⟩
  · cases hv
    have hH : Holds (Value.int .i64) w g 0 S.toArray := holds_of_blockI h2 (by rw [hl]; simpa using h6)
    have hg : g < w.heap.size := by
      rcases Nat.lt_or_ge g w.heap.size with h | h
      · exact h
      · rw [Array.getElem?_eq_none h] at h2; cases h2
    have hc := AnyM.slices_Sort_int sortA g 0 c S w hH hg (by omega)
    rw [hl] at hc
    refine hc.mono ?_
    rintro e w' ⟨rfl, q, os, rfl⟩
    refine ⟨rfl, ?_, Keeps.of_grown (grownBy_sortedI _)⟩
    have := ownsRow_sortedI (n := q) (os := os) (ss := S) (ts := S.mergeSort fun x y => decide (x ≤ y)) (by simp) (Nat.zero_le _) h2 (by omega) h4 (by omega)
    rw [hl] at this
    exact this

theorem sortInts_any (A : Option Addr) (n c : Nat) (S : List Int) (w : World) (h : RowAt w A n c 3 1 (S.map (Value.int .i64))) (hn : n ≤ 1000000) :
    Calls Tryd.prog 20 #[.slice A n c] w fun e w' => e = .returned (.tuple #[]) ∧ RowAt w' A n c 3 1 ((S.mergeSort fun x y => decide (x ≤ y)).map (Value.int .i64)) ∧ Keeps (fun i => blkOf A = some i) w w' := by
  have HC := hid (sliceSort_any A n c S w h hn)
  clear h
  go_enter Tryd.func20, Tryd.ntmps20
  go_wp2_with fail
  refine HC.out.mono ?_
  rintro e w' ⟨rfl, h1, h2⟩
  have H1 := hid h1
  clear h1
  go_wp2_with fail
  go_end0
  exact ⟨rfl, H1.out, h2⟩
end Go.Proofs.YteggaehelnmhnaaDoor
