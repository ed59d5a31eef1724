/-
  The walk of openbelllaw.NumBands: it returns true, whatever the input.
-/
import Derived.WalkKit
import Derived.WalkLawsBesides
import Derived.WalkSpells
import Derived.Test.YtakbedckjaammaaDoorRefNum
import Derived.Test.YtakbedckjaammaaDoorIs
namespace Go.Proofs.YtakbedckjaammaaDoor
open Go.RowKit

theorem within_two (lo hi x y : Int) (n : Nat) (w : World) (hn : n = w.heap.size) :
    Calls Tryd.prog 43 #[.int .i64 lo, .int .i64 hi, .slice (some ⟨n, 0, none⟩) 2 2] (w.alloc (.cells #[.int .i64 x, .int .i64 y] 3)) fun e w' =>
      e = .returned (.bool (allIn lo hi [x, y])) ∧ w.alloc (.cells #[.int .i64 x, .int .i64 y] 3) = w' := by
  subst hn
  refine (within_any lo hi _ 2 [x, y] _ (by simp) ?_).mono ?_
  · intro j h
    match j, h with
    | 0, _ => simp
    | 1, _ => simp
  · rintro e w' ⟨rfl, rfl⟩; exact ⟨rfl, rfl⟩

def midOk (a b : Int) : Bool := allIn 1 1000000 [a, b]
theorem midOk_iff {a b : Int} : midOk a b = true ↔ 1 ≤ a ∧ a ≤ 1000000 ∧ 1 ≤ b ∧ b ≤ 1000000 := by simp [midOk, allIn, and_assoc]
theorem midOk_eq {a b : Int} : midOk a b = (rightB a 1 && rightB b 1) := by rw [right_one, right_one]; simp [midOk, allIn]
def midV (a b : Int) : Int := if midOk a b = true then (a + b) / 2 else 0
def midE (a b : Int) : Int := if midOk a b = true then 0 else 2

set_option maxHeartbeats 400000 in
theorem mid_any (a b : Int) (w : World) : Calls Tryd.prog 10 #[.int .i64 a, .int .i64 b] w fun e w' =>
    e = .returned (.tuple #[.int .i64 (midV a b), errV (midE a b)]) ∧ Below w.heap.size w w' := by
  by_cases h : midOk a b = true
  · obtain ⟨h1, h2, h3, h4⟩ := midOk_iff.1 h
    rw [midV, midE, if_pos h, if_pos h, errV_zero]
    have H := hid (show allIn 1 1000000 [a, b] = true from h)
    clear h
    go_enter Tryd.func10, Tryd.ntmps10
    go_wp2_with fail
    refine (within_two _ _ _ _ _ _ (by simp)).mono ?_
    rintro e w' ⟨rfl, rfl⟩
    rw [H.out]
    go_wp2
    go_ret2
    exact ⟨rfl, (Below.refl _ w).alloc (Nat.le_refl _) _⟩
  · rw [midV, midE, if_neg h, if_neg h, errV_two]
    have H := hid (show allIn 1 1000000 [a, b] = false by simpa [midOk] using h)
    clear h
    go_enter Tryd.func10, Tryd.ntmps10
    go_wp2_with fail
    refine (within_two _ _ _ _ _ _ (by simp)).mono ?_
    rintro e w' ⟨rfl, rfl⟩
    rw [H.out]
    go_wp2
    go_ret2
    exact ⟨rfl, (Below.refl _ w).alloc (Nat.le_refl _) _⟩

theorem errIs_errV (w : World) (e : Int) : ErrIs w (errV e) e (-1) := by
  unfold errV
  by_cases h : e = 0
  · rw [if_pos h]; exact .inl ⟨rfl, h, rfl⟩
  · rw [if_neg h]; exact .inr (.inl ⟨rfl, rfl⟩)

set_option maxRecDepth 100000 in
set_option maxHeartbeats 1000000 in
theorem numBands_any (p s : Int) (w : World) (hE : ErrType w) :
    Calls Tryd.prog 3 #[.int .i64 p, .int .i64 s] w fun e w' => e = .returned (.bool true) ∧ Below w.heap.size w w' := by
  have hi1 := fun w => errIs_errV w (bandE p s)
  have hi2 := fun w => errIs_errV w (midE p s)
  have hI1 := hid hi1
  have hI2 := hid hi2
  clear hi1 hi2
  have hm := midOk_eq (a := p) (b := s)
  rcases (show (midOk p s = true ∧ 1 ≤ p ∧ p ≤ 1000000 ∧ 1 ≤ s ∧ s ≤ 1000000 ∧ rightB p 1 = true ∧ rightB s 1 = true) ∨ (midOk p s = false ∧ rightB p 1 = true ∧ rightB s 1 = false) ∨ (midOk p s = false ∧ rightB p 1 = false) from by
    cases h1 : rightB p 1 <;> cases h2 : rightB s 1 <;> simp [h1, h2] at hm <;> simp [hm]
    simpa [and_assoc] using midOk_iff.1 hm) with ⟨k1, b1, b2, b3, b4, k2, k3⟩ | ⟨k1, k2, k3⟩ | ⟨k1, k2⟩
  · have hv : midV p s = (p + s) / 2 := by rw [midV, if_pos k1]
    have he : midE p s = 0 := by rw [midE, if_pos k1]
    have Hv := hid hv
    have He := hid he
    have K2 := hid k2
    have K3 := hid k3
    clear hm k1 k2 k3 hv he
    go_enter Tryd.func3, Tryd.ntmps3
    go_wp2_with fail
    refine (rband_any _ _ _).mono ?_
    rintro e w' ⟨rfl, rfl⟩
    go_wp2_with fail
    refine (band_any _ _ _).mono ?_
    rintro e w1 ⟨rfl, hB1⟩
    go_wp2_with fail
    refine (mid_any _ _ _).mono ?_
    rintro e w2 ⟨rfl, hB2⟩
    rw [Hv.out]
    rw [He.out] at hI2 ⊢
    go_wp2_with fail
    refine (rright_any _ _ _).mono ?_
    rintro e w' ⟨rfl, rfl⟩
    rw [K2.out]
    go_wp2_with fail
    refine (rright_any _ _ _).mono ?_
    rintro e w' ⟨rfl, rfl⟩
    rw [K3.out]
    go_wp2_with fail
    have hB12 : Below w.heap.size w w2 := hB1.trans (hB2.mono hB1.size)
    refine (bare_any _ (bandE p s) (-1) _ _ (hE.below hB12 (Nat.le_refl _)) (hI1.out _)).mono ?_
    rintro e w3 ⟨rfl, hB3⟩
    rw [show (bandE p s == bandE p s && (-1 : Int) == -1) = true by simp]
    have hB13 : Below w.heap.size w w3 := hB12.trans (hB3.mono hB12.size)
    go_wp2_with fail
    refine (bare_any _ 0 (-1) _ _ (hE.below hB13 (Nat.le_refl _)) (hI2.out _)).mono ?_
    rintro e w4 ⟨rfl, hB4⟩
    rw [show ((0 : Int) == 0 && (-1 : Int) == -1) = true by rfl]
    have hB14 : Below w.heap.size w w4 := hB13.trans (hB4.mono hB13.size)
    go_wp2_with fail
    refine (right_any _ _ _).mono ?_
    rintro e w5 ⟨rfl, hB5⟩
    go_wp2_with fail
    refine (rright_any _ _ _).mono ?_
    rintro e w' ⟨rfl, rfl⟩
    go_wp2
    go_ret
    exact ⟨rfl, hB14.trans (hB5.mono hB14.size)⟩
  · have hv : midV p s = 0 := by rw [midV, if_neg (by rw [k1]; decide)]
    have he : midE p s = 2 := by rw [midE, if_neg (by rw [k1]; decide)]
    have Hv := hid hv
    have He := hid he
    have K2 := hid k2
    have K3 := hid k3
    clear hm k1 k2 k3 hv he
    go_enter Tryd.func3, Tryd.ntmps3
    go_wp2_with fail
    refine (rband_any _ _ _).mono ?_
    rintro e w' ⟨rfl, rfl⟩
    go_wp2_with fail
    refine (band_any _ _ _).mono ?_
    rintro e w1 ⟨rfl, hB1⟩
    go_wp2_with fail
    refine (mid_any _ _ _).mono ?_
    rintro e w2 ⟨rfl, hB2⟩
    rw [Hv.out]
    rw [He.out] at hI2 ⊢
    go_wp2_with fail
    refine (rright_any _ _ _).mono ?_
    rintro e w' ⟨rfl, rfl⟩
    rw [K2.out]
    go_wp2_with fail
    refine (rright_any _ _ _).mono ?_
    rintro e w' ⟨rfl, rfl⟩
    rw [K3.out]
    go_wp2_with fail
    have hB12 : Below w.heap.size w w2 := hB1.trans (hB2.mono hB1.size)
    refine (bare_any _ (bandE p s) (-1) _ _ (hE.below hB12 (Nat.le_refl _)) (hI1.out _)).mono ?_
    rintro e w3 ⟨rfl, hB3⟩
    rw [show (bandE p s == bandE p s && (-1 : Int) == -1) = true by simp]
    have hB13 : Below w.heap.size w w3 := hB12.trans (hB3.mono hB12.size)
    go_wp2_with fail
    refine (bare_any _ 2 (-1) _ _ (hE.below hB13 (Nat.le_refl _)) (hI2.out _)).mono ?_
    rintro e w4 ⟨rfl, hB4⟩
    rw [show ((2 : Int) == 2 && (-1 : Int) == -1) = true by rfl]
    have hB14 : Below w.heap.size w w4 := hB13.trans (hB4.mono hB13.size)
    go_wp2_with fail
    refine (right_any _ _ _).mono ?_
    rintro e w5 ⟨rfl, hB5⟩
    go_wp2_with fail
    refine (rright_any _ _ _).mono ?_
    rintro e w' ⟨rfl, rfl⟩
    go_wp2
    go_ret
    exact ⟨rfl, hB14.trans (hB5.mono hB14.size)⟩
  · have hv : midV p s = 0 := by rw [midV, if_neg (by rw [k1]; decide)]
    have he : midE p s = 2 := by rw [midE, if_neg (by rw [k1]; decide)]
    have Hv := hid hv
    have He := hid he
    have K2 := hid k2
    clear hm k1 k2 hv he
    go_enter Tryd.func3, Tryd.ntmps3
    go_wp2_with fail
    refine (rband_any _ _ _).mono ?_
    rintro e w' ⟨rfl, rfl⟩
    go_wp2_with fail
    refine (band_any _ _ _).mono ?_
    rintro e w1 ⟨rfl, hB1⟩
    go_wp2_with fail
    refine (mid_any _ _ _).mono ?_
    rintro e w2 ⟨rfl, hB2⟩
    rw [Hv.out]
    rw [He.out] at hI2 ⊢
    go_wp2_with fail
    refine (rright_any _ _ _).mono ?_
    rintro e w' ⟨rfl, rfl⟩
    rw [K2.out]
    go_wp2_with fail
    have hB12 : Below w.heap.size w w2 := hB1.trans (hB2.mono hB1.size)
    refine (bare_any _ (bandE p s) (-1) _ _ (hE.below hB12 (Nat.le_refl _)) (hI1.out _)).mono ?_
    rintro e w3 ⟨rfl, hB3⟩
    rw [show (bandE p s == bandE p s && (-1 : Int) == -1) = true by simp]
    have hB13 : Below w.heap.size w w3 := hB12.trans (hB3.mono hB12.size)
    go_wp2_with fail
    refine (bare_any _ 2 (-1) _ _ (hE.below hB13 (Nat.le_refl _)) (hI2.out _)).mono ?_
    rintro e w4 ⟨rfl, hB4⟩
    rw [show ((2 : Int) == 2 && (-1 : Int) == -1) = true by rfl]
    have hB14 : Below w.heap.size w w4 := hB13.trans (hB4.mono hB13.size)
    go_wp2_with fail
    refine (right_any _ _ _).mono ?_
    rintro e w5 ⟨rfl, hB5⟩
    go_wp2_with fail
    refine (rright_any _ _ _).mono ?_
    rintro e w' ⟨rfl, rfl⟩
    go_wp2
    go_ret
    exact ⟨rfl, hB14.trans (hB5.mono hB14.size)⟩
end Go.Proofs.YtakbedckjaammaaDoor
