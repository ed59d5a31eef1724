/-
  Walks of calendar.Takes and Auctions, and of the document's: which kind of order may come in which phase.
-/
import Derived.WalkKit
import Derived.WalkLawsBesides
import Derived.WalkSpells
import Derived.Test.YtakbedckjaammaaRows
import Derived.Test.YtakbedckjaammaaBase
namespace Go.Proofs.Ytakbedckjaammaa
open Go.RowKit

/-- which kind may come in which phase -/
def takesB (p k : Int) : Bool :=
  if p = 1 then decide (k = 1 ∨ k = 3 ∨ k = 4)
  else if p = 2 ∨ p = 4 ∨ p = 5 then decide (k = 1 ∨ k = 2 ∨ k = 3 ∨ k = 4)
  else if p = 3 then decide (k = 1 ∨ k = 2 ∨ k = 4) else false
def auctionsB (p : Int) : Bool := decide (p = 1 ∨ p = 2 ∨ p = 4 ∨ p = 5)

theorem five (p : Int) : p = 1 ∨ p = 2 ∨ p = 3 ∨ p = 4 ∨ p = 5 ∨ (¬ (p = 1 ∨ p = 2 ∨ p = 3 ∨ p = 4 ∨ p = 5)) := by omega
theorem four (k : Int) : k = 1 ∨ k = 2 ∨ k = 3 ∨ k = 4 ∨ (¬ (k = 1 ∨ k = 2 ∨ k = 3 ∨ k = 4)) := by omega

set_option maxHeartbeats 1000000 in
theorem takes_any (p k : Int) (w : World) : Calls Try.prog 11 #[.int .i64 p, .int .i64 k] w fun e w' => e = .returned (.bool (takesB p k)) ∧ w = w' := by
  rcases five p with rfl | rfl | rfl | rfl | rfl | hp
  case inr.inr.inr.inr.inr =>
    have hf : takesB p k = false := by unfold takesB; rw [if_neg (by omega), if_neg (by omega), if_neg (by omega)]
    have p1 := beqF (a := p) (b := 1) (by omega)
    have p2 := beqF (a := p) (b := 2) (by omega)
    have p3 := beqF (a := p) (b := 3) (by omega)
    have p4 := beqF (a := p) (b := 4) (by omega)
    have p5 := beqF (a := p) (b := 5) (by omega)
    rw [hf]; clear hf hp
    go_enter Try.func11, Try.ntmps11
    go_wp2
    go_ret
    exact ⟨rfl, rfl⟩
  all_goals
    rcases four k with rfl | rfl | rfl | rfl | hk
    case inr.inr.inr.inr =>
      have k1 := beqF (a := k) (b := 1) (by omega)
      have k2 := beqF (a := k) (b := 2) (by omega)
      have k3 := beqF (a := k) (b := 3) (by omega)
      have k4 := beqF (a := k) (b := 4) (by omega)
      rw [show takesB _ k = false by simp [takesB]; omega]
      clear hk
      go_enter Try.func11, Try.ntmps11
      go_wp2
      go_ret
      exact ⟨rfl, rfl⟩
    all_goals
      go_enter Try.func11, Try.ntmps11
      go_wp2
      go_ret
      exact ⟨rfl, rfl⟩

theorem in_any (n lo hi : Int) (w : World) : Calls Try.prog 27 #[.int .i64 n, .int .i64 lo, .int .i64 hi] w fun e w' => e = .returned (.bool (decide (lo ≤ n) && decide (n ≤ hi))) ∧ w = w' := by
  by_cases h : lo ≤ n
  · go_enter Try.func27, Try.ntmps27
    go_wp2
    go_ret
    exact ⟨ret_bool (by simp [h]), rfl⟩
  · have hd : decide (lo ≤ n) = false := by simpa using h
    go_enter Try.func27, Try.ntmps27
    go_wp2
    go_ret
    exact ⟨ret_bool (by simp), rfl⟩

set_option maxHeartbeats 1000000 in
theorem rtakes_any (p k : Int) (w : World) : Calls Try.prog 12 #[.int .i64 p, .int .i64 k] w fun e w' => e = .returned (.bool (takesB p k)) ∧ w = w' := by
  rcases five p with rfl | rfl | rfl | rfl | rfl | hp
  case inr.inr.inr.inr.inr =>
    have hf : takesB p k = false := by unfold takesB; rw [if_neg (by omega), if_neg (by omega), if_neg (by omega)]
    have p1 := beqF (a := p) (b := 1) (by omega)
    have p2 := beqF (a := p) (b := 2) (by omega)
    have p3 := beqF (a := p) (b := 3) (by omega)
    have p4 := beqF (a := p) (b := 4) (by omega)
    have p5 := beqF (a := p) (b := 5) (by omega)
    rw [hf]; clear hf hp
    go_enter Try.func12, Try.ntmps12
    go_wp2
    go_ret
    exact ⟨rfl, rfl⟩
  all_goals
    rcases four k with rfl | rfl | rfl | rfl | hk
    case inr.inr.inr.inr =>
      have k1 := beqF (a := k) (b := 1) (by omega)
      have k2 := beqF (a := k) (b := 2) (by omega)
      have k3 := beqF (a := k) (b := 3) (by omega)
      have k4 := beqF (a := k) (b := 4) (by omega)
      have kk : (decide (1 ≤ k) && decide (k ≤ 4)) = false := by simp; omega
      have Kk : Hid ((decide (1 ≤ k) && decide (k ≤ 4)) = false) := kk
      rw [show takesB _ k = false by simp [takesB]; omega]
      clear hk kk
      go_enter Try.func12, Try.ntmps12
      go_wp2_with (go_at_call 27; refine (in_any _ _ _ _).mono ?_; rintro e w' ⟨rfl, rfl⟩)
      go_ret
      exact ⟨ret_bool (by first | rfl | exact Kk.out), rfl⟩
    all_goals
      go_enter Try.func12, Try.ntmps12
      go_wp2_with (go_at_call 27; refine (in_any _ _ _ _).mono ?_; rintro e w' ⟨rfl, rfl⟩)
      go_ret
      exact ⟨rfl, rfl⟩

set_option maxHeartbeats 1000000 in
theorem auctions_any (p : Int) (w : World) : Calls Try.prog 13 #[.int .i64 p] w fun e w' => e = .returned (.bool (auctionsB p)) ∧ w = w' := by
  rcases five p with rfl | rfl | rfl | rfl | rfl | hp
  case inr.inr.inr.inr.inr =>
    have hf : auctionsB p = false := by simp [auctionsB]; omega
    have p1 := beqF (a := p) (b := 1) (by omega)
    have p2 := beqF (a := p) (b := 2) (by omega)
    have p4 := beqF (a := p) (b := 4) (by omega)
    have p5 := beqF (a := p) (b := 5) (by omega)
    rw [hf]; clear hf hp
    go_enter Try.func13, Try.ntmps13
    go_wp2
    go_ret
    exact ⟨rfl, rfl⟩
  all_goals
    go_enter Try.func13, Try.ntmps13
    go_wp2
    go_ret
    exact ⟨rfl, rfl⟩

set_option maxHeartbeats 1000000 in
theorem rauctions_any (p : Int) (w : World) : Calls Try.prog 14 #[.int .i64 p] w fun e w' => e = .returned (.bool (auctionsB p)) ∧ w = w' := by
  rcases five p with rfl | rfl | rfl | rfl | rfl | hp
  case inr.inr.inr.inr.inr =>
    have hf : auctionsB p = false := by simp [auctionsB]; omega
    have p1 := beqF (a := p) (b := 1) (by omega)
    have p2 := beqF (a := p) (b := 2) (by omega)
    have p4 := beqF (a := p) (b := 4) (by omega)
    have p5 := beqF (a := p) (b := 5) (by omega)
    rw [hf]; clear hf hp
    go_enter Try.func14, Try.ntmps14
    go_wp2
    go_ret
    exact ⟨rfl, rfl⟩
  all_goals
    go_enter Try.func14, Try.ntmps14
    go_wp2
    go_ret
    exact ⟨rfl, rfl⟩


end Go.Proofs.Ytakbedckjaammaa
