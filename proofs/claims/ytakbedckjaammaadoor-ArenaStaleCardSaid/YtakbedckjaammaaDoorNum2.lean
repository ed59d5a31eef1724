/-
  Walks of num.Right, Band (both outcomes at once), Mid, and of the document's in, Right, Band.
-/
import Derived.WalkKit
import Derived.WalkLawsBesides
import Derived.WalkSpells
import Derived.Test.YtakbedckjaammaaDoorNum
namespace Go.Proofs.YtakbedckjaammaaDoor
open Go.RowKit

/-- an error by its number: 0: none -/
def errV (e : Int) : Value := if e = 0 then .nilIface else .iface 22 (.int .i64 e)
theorem errV_zero : errV 0 = .nilIface := rfl
theorem errV_two : errV 2 = .iface 22 (.int .i64 2) := rfl

/-- a price, and a number of lots, that may be -/
def rightB (p q : Int) : Bool := (decide (1 ≤ p) && decide (p ≤ 1000000)) && (decide (1 ≤ q) && decide (q ≤ 1000000))
/-- a price and a share that may be -/
def bandOk (p s : Int) : Bool := (decide (1 ≤ p) && decide (p ≤ 1000000)) && (decide (0 ≤ s) && decide (s ≤ 10000))
theorem bandOk_iff {p s : Int} : bandOk p s = true ↔ 1 ≤ p ∧ p ≤ 1000000 ∧ 0 ≤ s ∧ s ≤ 10000 := by simp [bandOk, and_assoc]
theorem rightB_iff {p s : Int} : rightB p s = true ↔ 1 ≤ p ∧ p ≤ 1000000 ∧ 1 ≤ s ∧ s ≤ 1000000 := by simp [rightB, and_assoc]
def bandLo (p s : Int) : Int := if bandOk p s = true then lowOf p s else 0
def bandHi (p s : Int) : Int := if bandOk p s = true then highOf p s else 0
def bandE (p s : Int) : Int := if bandOk p s = true then 0 else 2

theorem band_any (p s : Int) (w : World) : Calls Tryd.prog 9 #[.int .i64 p, .int .i64 s] w fun e w' =>
    e = .returned (.tuple #[.int .i64 (bandLo p s), .int .i64 (bandHi p s), errV (bandE p s)]) ∧ Below w.heap.size w w' := by
  by_cases h : bandOk p s = true
  · obtain ⟨h1, h2, h3, h4⟩ := bandOk_iff.1 h
    refine (band_ok p s w h1 h2 h3 h4).mono ?_
    rintro e w' ⟨rfl, hb⟩
    exact ⟨by rw [bandLo, bandHi, bandE, if_pos h, if_pos h, if_pos h]; rfl, hb⟩
  · refine (band_err p s w (fun h' => h (bandOk_iff.2 h'))).mono ?_
    rintro e w' ⟨rfl, hb⟩
    exact ⟨by rw [bandLo, bandHi, bandE, if_neg h, if_neg h, if_neg h]; rfl, hb⟩

set_option maxHeartbeats 400000 in
theorem right_any (p q : Int) (w : World) : Calls Tryd.prog 13 #[.int .i64 p, .int .i64 q] w fun e w' =>
    e = .returned (.bool (rightB p q)) ∧ Below w.heap.size w w' := by
  by_cases h1 : (decide (1 ≤ p) && decide (p ≤ 1000000)) = true
  · have e1 : rightB p q = (decide (1 ≤ q) && decide (q ≤ 1000000)) := by rw [rightB, h1]; rfl
    rw [e1]
    have H1 := hid h1
    clear h1 e1
    go_enter Tryd.func13, Tryd.ntmps13
    go_wp2_with fail
    refine (within_new _ _ _ _ _ (by simp)).mono ?_
    rintro e w' ⟨rfl, rfl⟩
    rw [H1.out]
    go_wp2_with fail
    refine (within_new _ _ _ _ _ (by simp)).mono ?_
    rintro e w' ⟨rfl, rfl⟩
    go_wp2
    go_ret
    exact ⟨rfl, ((Below.refl _ w).alloc (Nat.le_refl _) _).alloc (by simp) _⟩
  · have h1' : (decide (1 ≤ p) && decide (p ≤ 1000000)) = false := by simpa using h1
    have e1 : rightB p q = false := by rw [rightB, h1']; rfl
    rw [e1]
    have H1 := hid h1'
    clear h1 h1' e1
    go_enter Tryd.func13, Tryd.ntmps13
    go_wp2_with fail
    refine (within_new _ _ _ _ _ (by simp)).mono ?_
    rintro e w' ⟨rfl, rfl⟩
    rw [H1.out]
    go_wp2
    go_ret
    exact ⟨rfl, (Below.refl _ w).alloc (Nat.le_refl _) _⟩

theorem in_any (n lo hi : Int) (w : World) : Calls Tryd.prog 42 #[.int .i64 n, .int .i64 lo, .int .i64 hi] w fun e w' => e = .returned (.bool (decide (lo ≤ n) && decide (n ≤ hi))) ∧ w = w' := by
  by_cases h : lo ≤ n
  · go_enter Tryd.func42, Tryd.ntmps42
    go_wp2
    go_ret
    exact ⟨ret_bool (by simp [h]), rfl⟩
  · have hd : decide (lo ≤ n) = false := by simpa using h
    go_enter Tryd.func42, Tryd.ntmps42
    go_wp2
    go_ret
    exact ⟨ret_bool (by simp), rfl⟩

set_option maxHeartbeats 400000 in
theorem rright_any (p q : Int) (w : World) : Calls Tryd.prog 11 #[.int .i64 p, .int .i64 q] w fun e w' => e = .returned (.bool (rightB p q)) ∧ w = w' := by
  by_cases h1 : (decide (1 ≤ p) && decide (p ≤ 1000000)) = true
  · have e1 : rightB p q = (decide (1 ≤ q) && decide (q ≤ 1000000)) := by rw [rightB, h1]; rfl
    rw [e1]
    have H1 := hid h1
    clear h1 e1
    go_enter Tryd.func11, Tryd.ntmps11
    go_wp2_with fail
    refine (in_any _ _ _ _).mono ?_
    rintro e w' ⟨rfl, rfl⟩
    rw [H1.out]
    go_wp2_with fail
    refine (in_any _ _ _ _).mono ?_
    rintro e w' ⟨rfl, rfl⟩
    go_wp2
    go_ret
    exact ⟨rfl, rfl⟩
  · have h1' : (decide (1 ≤ p) && decide (p ≤ 1000000)) = false := by simpa using h1
    have e1 : rightB p q = false := by rw [rightB, h1']; rfl
    rw [e1]
    have H1 := hid h1'
    clear h1 h1' e1
    go_enter Tryd.func11, Tryd.ntmps11
    go_wp2_with fail
    refine (in_any _ _ _ _).mono ?_
    rintro e w' ⟨rfl, rfl⟩
    rw [H1.out]
    go_wp2
    go_ret
    exact ⟨rfl, rfl⟩
end Go.Proofs.YtakbedckjaammaaDoor
