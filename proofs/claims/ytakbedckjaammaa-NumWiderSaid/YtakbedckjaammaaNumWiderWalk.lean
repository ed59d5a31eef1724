/-
  The walk of openbellkeep.NumWider: it returns true, whatever the input.
-/
import Derived.WalkKit
import Derived.WalkLawsBesides
import Derived.WalkSpells
import Derived.Test.YtakbedckjaammaaNum
import Derived.Test.YtakbedckjaammaaPick
namespace Go.Proofs.Ytakbedckjaammaa
open Go.RowKit

set_option maxHeartbeats 400000 in
theorem banded_any (w : World) : Calls Try.prog 8 #[] w fun e w' => e = .returned (.bool true) ∧ Below w.heap.size w w' := by
  go_enter Try.func8, Try.ntmps8
  go_wp2_with (go_at_call 10; refine (band_ok _ _ _ (by omega) (by omega) (by omega) (by omega)).mono ?_; rintro e w' ⟨rfl, hb⟩)
  go_ret
  exact ⟨rfl, hb⟩

theorem share_le (p s t : Int) (h1 : 1 ≤ p) (h3 : 0 ≤ s) (h4 : s ≤ t) : 0 ≤ p * s / 10000 ∧ p * s / 10000 ≤ p * t / 10000 := by
  have := Int.mul_nonneg (a := p) (b := s) (by omega) h3
  have := Int.mul_le_mul_of_nonneg_left h4 (show 0 ≤ p by omega)
  omega

theorem low_facts (p s t : Int) (h1 : 1 ≤ p) (h2 : p ≤ 1000000) (h3 : 0 ≤ s) (h4 : s ≤ t) :
    1 ≤ lowOf p t ∧ lowOf p t ≤ lowOf p s ∧ lowOf p s ≤ p ∧ p ≤ highOf p s ∧ highOf p s ≤ highOf p t ∧ highOf p t ≤ 1000000 := by
  have := share_le p s t h1 h3 h4
  unfold lowOf highOf
  omega

set_option maxHeartbeats 400000 in
theorem numWider_any (p a b : Int) (w : World) :
    Calls Try.prog 3 #[.int .i64 p, .int .i64 a, .int .i64 b] w fun e w' => e = .returned (.bool true) ∧ Below w.heap.size w w' := by
  have q1 := pk_nonneg p 1000000 (by omega)
  have q2 := pk_lt p 1000000 (by omega)
  have q3 := pk_nonneg a 10001 (by omega)
  have q4 := pk_lt a 10001 (by omega)
  have q5 := pk_nonneg b 10001 (by omega)
  have q6 := pk_lt b 10001 (by omega)
  go_enter Try.func3, Try.ntmps3
  go_wp2_with fail
  refine (banded_any _).mono ?_
  rintro e w' ⟨rfl, hb⟩
  go_wp2_with fail
  refine (pick_any p _ _ (by omega) (by omega)).mono ?_
  rintro e w' ⟨rfl, rfl⟩
  generalize hP : pk p 1000000 = P at *
  clear hP
  go_wp2_with fail
  refine (pick_any a _ _ (by omega) (by omega)).mono ?_
  rintro e w' ⟨rfl, rfl⟩
  generalize hA : pk a 10001 = A at *
  clear hA
  go_wp2_with fail
  refine (pick_any b _ _ (by omega) (by omega)).mono ?_
  rintro e w' ⟨rfl, rfl⟩
  generalize hB : pk b 10001 = B at *
  clear hB
  rcases Int.lt_trichotomy A B with hAB | hAB | hAB
  · have hf := low_facts (1 + P) A B (by omega) (by omega) q3 (by omega)
    go_wp2_with fail
    refine (band_ok _ _ _ (by omega) (by omega) (by omega) (by omega)).mono ?_
    rintro e w1 ⟨rfl, hb1⟩
    generalize lowOf (1 + P) A = l1 at *
    generalize highOf (1 + P) A = h1 at *
    obtain ⟨f1, f2, f3, f4, f5, f6⟩ := hf
    go_wp2_with fail
    refine (band_ok _ _ _ (by omega) (by omega) (by omega) (by omega)).mono ?_
    rintro e w2 ⟨rfl, hb2⟩
    generalize lowOf (1 + P) B = l2 at *
    generalize highOf (1 + P) B = h2 at *
    go_wp2_with fail
    go_ret
    exact ⟨rfl, (hb.trans (hb1.mono hb.size)).trans (hb2.mono (Nat.le_trans hb.size hb1.size))⟩
  · subst hAB
    have hf := low_facts (1 + P) A A (by omega) (by omega) q3 (by omega)
    obtain ⟨f1, f2, f3, f4, f5, f6⟩ := hf
    go_wp2_with fail
    refine (band_ok _ _ _ (by omega) (by omega) (by omega) (by omega)).mono ?_
    rintro e w1 ⟨rfl, hb1⟩
    go_wp2_with fail
    refine (band_ok _ _ _ (by omega) (by omega) (by omega) (by omega)).mono ?_
    rintro e w2 ⟨rfl, hb2⟩
    generalize lowOf (1 + P) A = l1 at *
    generalize highOf (1 + P) A = h1 at *
    go_wp2_with fail
    go_ret
    exact ⟨rfl, (hb.trans (hb1.mono hb.size)).trans (hb2.mono (Nat.le_trans hb.size hb1.size))⟩
  · have hf := low_facts (1 + P) B A (by omega) (by omega) q5 (by omega)
    go_wp2_with fail
    refine (band_ok _ _ _ (by omega) (by omega) (by omega) (by omega)).mono ?_
    rintro e w1 ⟨rfl, hb1⟩
    generalize lowOf (1 + P) B = l1 at *
    generalize highOf (1 + P) B = h1 at *
    obtain ⟨f1, f2, f3, f4, f5, f6⟩ := hf
    go_wp2_with fail
    refine (band_ok _ _ _ (by omega) (by omega) (by omega) (by omega)).mono ?_
    rintro e w2 ⟨rfl, hb2⟩
    generalize lowOf (1 + P) A = l2 at *
    generalize highOf (1 + P) A = h2 at *
    go_wp2_with fail
    go_ret
    exact ⟨rfl, (hb.trans (hb1.mono hb.size)).trans (hb2.mono (Nat.le_trans hb.size hb1.size))⟩

end Go.Proofs.Ytakbedckjaammaa
