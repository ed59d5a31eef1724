/-
  The walk of the document's Band.
-/
import Derived.WalkKit
import Derived.WalkLawsBesides
import Derived.WalkSpells
import Derived.Test.YtakbedckjaammaaDoorNum2
namespace Go.Proofs.YtakbedckjaammaaDoor
open Go.RowKit

theorem right_one {p : Int} : rightB p 1 = (decide (1 ≤ p) && decide (p ≤ 1000000)) := by simp [rightB]

set_option maxHeartbeats 1000000 in
theorem rband_any (p s : Int) (w : World) : Calls Tryd.prog 8 #[.int .i64 p, .int .i64 s] w fun e w' =>
    e = .returned (.tuple #[.int .i64 (bandLo p s), .int .i64 (bandHi p s), .int .i64 (bandE p s)]) ∧ w = w' := by
  by_cases h1 : rightB p 1 = true
  · by_cases h2 : (decide (0 ≤ s) && decide (s ≤ 10000)) = true
    · have hok : bandOk p s = true := by rw [bandOk, ← right_one, h1, h2]; rfl
      obtain ⟨a1, a2, a3, a4⟩ := bandOk_iff.1 hok
      rw [bandLo, bandHi, bandE, if_pos hok, if_pos hok, if_pos hok]
      have H1 := hid h1
      have H2 := hid h2
      clear h1 h2 hok
      have hm : 0 ≤ p * s := Int.mul_nonneg (by omega) a3
      have hm2 : p * s ≤ 10000000000 := Int.le_trans (Int.mul_le_mul a2 a4 a3 (by omega)) (by omega)
      go_enter Tryd.func8, Tryd.ntmps8
      go_wp2_with fail
      refine (rright_any _ _ _).mono ?_
      rintro e w' ⟨rfl, rfl⟩
      rw [H1.out]
      go_wp2_with fail
      refine (in_any _ _ _ _).mono ?_
      rintro e w' ⟨rfl, rfl⟩
      rw [H2.out]
      go_wp2
      all_goals
        go_ret3
        exact ⟨ret_iie (by unfold lowOf; omega) (by unfold highOf; omega), rfl⟩
    · have h2' : (decide (0 ≤ s) && decide (s ≤ 10000)) = false := by simpa using h2
      have hok : ¬ bandOk p s = true := by rw [bandOk, h2']; simp
      rw [bandLo, bandHi, bandE, if_neg hok, if_neg hok, if_neg hok]
      have H1 := hid h1
      have H2 := hid h2'
      clear h1 h2 h2' hok
      go_enter Tryd.func8, Tryd.ntmps8
      go_wp2_with fail
      refine (rright_any _ _ _).mono ?_
      rintro e w' ⟨rfl, rfl⟩
      rw [H1.out]
      go_wp2_with fail
      refine (in_any _ _ _ _).mono ?_
      rintro e w' ⟨rfl, rfl⟩
      rw [H2.out]
      go_wp2
      go_ret3
      exact ⟨rfl, rfl⟩
  · have h1' : rightB p 1 = false := by simpa using h1
    have hok : ¬ bandOk p s = true := by rw [bandOk, ← right_one, h1']; simp
    rw [bandLo, bandHi, bandE, if_neg hok, if_neg hok, if_neg hok]
    have H1 := hid h1'
    clear h1 h1' hok
    go_enter Tryd.func8, Tryd.ntmps8
    go_wp2_with fail
    refine (rright_any _ _ _).mono ?_
    rintro e w' ⟨rfl, rfl⟩
    rw [H1.out]
    go_wp2
    go_ret3
    exact ⟨rfl, rfl⟩
end Go.Proofs.YtakbedckjaammaaDoor
