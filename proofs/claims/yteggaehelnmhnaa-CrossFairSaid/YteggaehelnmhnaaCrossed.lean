/-
  The walk of openbellkeep.crossed: a fact: two orders that cross are traded.
-/
import Derived.WalkKit
import Derived.WalkLawsBesides
import Derived.WalkSpells
import Derived.Deep.DeepCutAuto
import Derived.Deep.CutBlock
import Derived.Test.YteggaehelnmhnaaBookNew
import Derived.Test.YteggaehelnmhnaaCrossFills
namespace Go.Proofs.Yteggaehelnmhnaa
open Go.RowKit
set_option linter.unusedVariables false

theorem crossed_1 : addS [] [] ⟨1, 1, 1, 10, 5⟩ = ([⟨1, 1, 1, 10, 5⟩], []) := rfl
theorem crossed_2 : addS [⟨1, 1, 1, 10, 5⟩] [] ⟨2, 2, 1, 8, 3⟩ = ([⟨1, 1, 1, 10, 5⟩], [⟨2, 2, 1, 8, 3⟩]) := rfl
theorem crossed_e1 : addE [] [] ⟨1, 1, 1, 10, 5⟩ = 0 := rfl
theorem crossed_e2 : addE [⟨1, 1, 1, 10, 5⟩] [] ⟨2, 2, 1, 8, 3⟩ = 0 := rfl
theorem crossed_w1 : wantL 1 9 [⟨1, 1, 1, 10, 5⟩] = 5 := rfl
theorem crossed_w2 : wantL 2 9 [⟨2, 2, 1, 8, 3⟩] = 3 := rfl
theorem crossed_d1 : dropQ [⟨1, 1, 1, 10, 5⟩] 3 = [⟨1, 1, 1, 10, 2⟩] := rfl
theorem crossed_d2 : dropQ [⟨2, 2, 1, 8, 3⟩] 3 = [] := rfl
theorem sumN_pos {F : List Fill4} (h : ∀ z ∈ F, 1 ≤ z.n) (hs : sumN (·.n) F = 0) : F = [] := by
  cases F with
  | nil => rfl
  | cons a l =>
    have h1 := h a (by simp)
    have h2 : ∀ l : List Fill4, (∀ z ∈ l, 1 ≤ z.n) → 0 ≤ sumN (·.n) l := by
      intro l
      induction l with
      | nil => intro _; simp [sumN]
      | cons b l ih =>
        intro hl
        have h3 := hl b (by simp)
        have h4 := ih (fun z hz => hl z (by simp [hz]))
        simp only [sumN]
        omega
    have h3 := h2 l (fun z hz => h z (by simp [hz]))
    simp only [sumN] at hs
    omega
theorem crossed_fill {F : List Fill4} (h : FillsOk [⟨1, 1, 1, 10, 5⟩] [⟨2, 2, 1, 8, 3⟩] 9 3 F) (hx : FillsMax 3 [⟨1, 1, 1, 10, 5⟩] [⟨2, 2, 1, 8, 3⟩] F) : F = [⟨1, 2, 9, 3⟩] := by
  cases F with
  | nil =>
    have := h.sum
    simp [sumN] at this
  | cons f l =>
    have h1 := hx [] f l rfl
    have h2 : f.n = 3 := h1
    obtain ⟨h3, -, ⟨o, ho, h4⟩, y, hy, h5⟩ := h.one f (by simp)
    rw [List.mem_singleton] at ho hy
    subst ho
    subst hy
    have h6 := h.sum
    simp only [sumN] at h6
    have h7 : l = [] := sumN_pos (fun z hz => (h.one z (by simp [hz])).2.1) (by omega)
    subst h7
    obtain ⟨fb, fs, fp, fn⟩ := f
    dsimp only at h2 h3 h4 h5
    subst h2
    subst h3
    subst h4
    subst h5
    rfl

set_option maxRecDepth 100000 in
set_option maxHeartbeats 2000000 in
theorem crossed_any (hadd : AddSaid) (hcut : CutSaid) (w : World) : Calls Try.prog 4 #[] w fun e w' => e = .returned (.bool true) ∧ Below w.heap.size w w' := by
  have HADD := hid hadd
  have HCUT := hid hcut
  clear hadd hcut
  go_enter Try.func4, Try.ntmps4
  go_wp2_with fail
  refine (bookNew_any _).mono ?_
  rintro e w1 ⟨hB1, b, G, hG, rfl, hAt⟩
  have h2 := HADD.out w1 b G [] [] hAt ⟨1, 1, 1, 10, 5⟩ (by unfold FitO Fit64; decide)
  have HAt := hid hAt
  have HB1 := hid hB1
  have HG := hid hG
  have HA1 := hid h2
  clear hB1 hG hAt h2
  go_wp2_with fail
  refine HA1.out.mono ?_
  rintro e w2 hp
  obtain ⟨rfl, G2, hAt2, hS2⟩ := hp.to HAt.out
  rw [crossed_1] at hAt2
  have h2 := HADD.out w2 b G2 _ _ hAt2 ⟨2, 2, 1, 8, 3⟩ (by unfold FitO Fit64; decide)
  rw [crossed_e1, errV_zero]
  have HAt2 := hid hAt2
  have HS2 := hid hS2
  have HA2 := hid h2
  clear hp hAt2 hS2 h2 HA1
  dsimp only at HAt2 HA2
  go_wp2_with fail
  refine HA2.out.mono ?_
  rintro e w3 hp
  obtain ⟨rfl, G3, hAt3, hS3⟩ := hp.to HAt2.out
  rw [crossed_2] at hAt3
  rw [crossed_e2, errV_zero]
  have hf := step_fresh HB1.out HG.out (HS2.out.trans hS3)
  dsimp only at hAt3
  have hc := crossFills_any HCUT.out w3 b G3 _ _ hAt3 9 3 (by omega) (by rw [crossed_w1]; omega) (by rw [crossed_w2]; omega)
  have HC := hid hc
  have HFr := hid hf
  clear hp hAt3 hS3 hc hf HA2 HAt2 HS2 HB1 HG HAt HADD HCUT
  go_wp2_with fail
  refine HC.out.mono ?_
  rintro e w4 ⟨F, A, c, G4, rfl, hF, hX, hcr⟩
  obtain rfl := crossed_fill hF hX
  obtain ⟨gA, rfl⟩ := row_addr' hcr.row (by simp)
  have hel := hcr.row.cell (j := 0) (u := .int .i64 1) rfl
  have hel1 := hcr.row.cell (j := 1) (u := .int .i64 2) rfl
  have hel2 := hcr.row.cell (j := 2) (u := .int .i64 9) rfl
  have hel3 := hcr.row.cell (j := 3) (u := .int .i64 3) rfl
  obtain ⟨g, e, z0⟩ := hel
  cases e
  obtain ⟨g, e, z1⟩ := hel1
  cases e
  obtain ⟨g, e, z2⟩ := hel2
  cases e
  obtain ⟨g, e, z3⟩ := hel3
  cases e
  have hb4 := hcr.book
  rw [crossed_d1, crossed_d2] at hb4
  have HMa := hid (bookMany_any w4 b G4 _ _ hb4)
  have HB4 := hid (HFr.out.1.trans (hcr.step.1.below HFr.out.2 HFr.out.1.size))
  clear hF hX hcr hb4 HC HFr
  go_wp2_with fail
  refine HMa.out.mono ?_
  rintro e w5 ⟨rfl, rfl⟩
  go_wp2_with fail
  go_ret
  exact ⟨rfl, HB4.out⟩
end Go.Proofs.Yteggaehelnmhnaa
