/-
  The walk of openbellkeep.laid: who came first.
-/
import Derived.WalkKit
import Derived.WalkLawsBesides
import Derived.WalkSpells
import Derived.Deep.DeepCutAuto
import Derived.Deep.CutBlock
import Derived.Test.YtaagaamamjabbaaBookAddP
import Derived.Test.YtaagaamamjabbaaBookLook
import Derived.Test.YtaagaamamjabbaaBookNew
namespace Go.Proofs.Ytaagaamamjabbaa
open Go.RowKit
set_option linter.unusedVariables false

theorem laid_1 : addS [] [] ⟨1, 1, 1, 5, 3⟩ = ([⟨1, 1, 1, 5, 3⟩], []) := rfl
theorem laid_2 : addS [⟨1, 1, 1, 5, 3⟩] [] ⟨2, 1, 1, 7, 3⟩ = ([⟨2, 1, 1, 7, 3⟩, ⟨1, 1, 1, 5, 3⟩], []) := rfl
theorem laid_e1 : addE [] [] ⟨1, 1, 1, 5, 3⟩ = 0 := rfl
theorem laid_e2 : addE [⟨1, 1, 1, 5, 3⟩] [] ⟨2, 1, 1, 7, 3⟩ = 0 := rfl

theorem laid_3 : aggO (bestO (sideL 1 [⟨2, 1, 1, 7, 3⟩, ⟨1, 1, 1, 5, 3⟩] [])) = .agg #[.int .i64 2, .int .i64 1, .int .i64 1, .int .i64 7, .int .i64 3] := rfl
theorem laid_4 : errV (bestE (sideL 1 [⟨2, 1, 1, 7, 3⟩, ⟨1, 1, 1, 5, 3⟩] [])) = .nilIface := rfl

set_option maxRecDepth 100000 in
set_option maxHeartbeats 2000000 in
theorem laidBook_any (hadd : AddSaid) (w : World) : Calls Try.prog 10 #[] w fun e w' => e = .returned (.bool true) ∧ Below w.heap.size w w' := by
  have HADD := hid hadd
  clear hadd
  go_enter Try.func10, Try.ntmps10
  go_wp2_with fail
  refine (bookNew_any _).mono ?_
  rintro e w1 ⟨hB1, b, G, hG, rfl, hAt⟩
  have h2 := HADD.out w1 b G [] [] hAt ⟨1, 1, 1, 5, 3⟩ (by unfold FitO Fit64; decide)
  have HAt := hid hAt
  have HB1 := hid hB1
  have HG := hid hG
  have HA1 := hid h2
  clear hB1 hG hAt h2
  go_wp2_with fail
  refine HA1.out.mono ?_
  rintro e w2 hp
  obtain ⟨rfl, G2, hAt2, hS2⟩ := hp.to HAt.out
  rw [laid_1] at hAt2
  have h2 := HADD.out w2 b G2 _ _ hAt2 ⟨2, 1, 1, 7, 3⟩ (by unfold FitO Fit64; decide)
  rw [laid_e1, errV_zero]
  have HAt2 := hid hAt2
  have HS2 := hid hS2
  have HA2 := hid h2
  clear hp hAt2 hS2 h2 HA1
  dsimp only at HAt2 HA2
  go_wp2_with fail
  refine HA2.out.mono ?_
  rintro e w3 hp
  obtain ⟨rfl, G3, hAt3, hS3⟩ := hp.to HAt2.out
  rw [laid_2] at hAt3
  rw [laid_e2, errV_zero]
  have HB3 := hid (step_fresh HB1.out HG.out (HS2.out.trans hS3))
  have hb4 := bookBest_any w3 b G3 _ _ hAt3 1 (.inl rfl)
  have HAt3 := hid hAt3
  have HBe := hid hb4
  clear hp hAt3 hS3 hb4 HA2 HAt2 HS2 HB1 HG HAt HADD
  dsimp only at HAt3 HBe
  go_wp2_with fail
  refine HBe.out.mono ?_
  rintro e w4 ⟨hB4, rfl⟩
  rw [laid_3, laid_4]
  have hbx := (Below.refl _ w4).alloc (Nat.le_refl _) (.cells #[.int .i64 2, .int .i64 1, .int .i64 1, .int .i64 7, .int .i64 3] 41)
  have hm := bookMany_any _ b G3 _ _ ((HAt3.out.below hB4).below hbx)
  have HB5 := hid (HB3.out.1.trans ((hB4.trans (hbx.mono hB4.size)).mono HB3.out.1.size))
  have HMa := hid hm
  clear hm hbx hB4 HBe HAt3 HB3
  go_wp2_with fail
  refine HMa.out.mono ?_
  rintro e w5 ⟨rfl, rfl⟩
  go_wp2_with fail
  go_ret
  exact ⟨rfl, HB5.out⟩
end Go.Proofs.Ytaagaamamjabbaa
