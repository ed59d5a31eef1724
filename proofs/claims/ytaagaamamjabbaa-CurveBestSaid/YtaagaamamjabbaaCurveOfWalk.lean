/-
  The walks of openbelllaw.samePoints (at the same points) and of openbelllaw.CurveOf: it returns true, whatever the input.
-/
import Derived.WalkKit
import Derived.WalkLawsBesides
import Derived.WalkSpells
import Derived.Deep.QuietTactic
import Derived.BigQuiet
import Derived.Deep.LoopGhost
import Derived.Deep.DeepCutAuto
import Derived.Deep.CutBlock
import Derived.Test.YtaagaamamjabbaaSortedKeys
import Derived.Test.YtaagaamamjabbaaRefCurve
namespace Go.Proofs.Ytaagaamamjabbaa
open Go.RowKit
set_option linter.unusedVariables false

theorem dd_len (l : List Int) : ∀ s : List Int × Option Int, (l.foldl ddF s).1.length ≤ s.1.length + l.length := by
  induction l with
  | nil => intro s; simp
  | cons a l ih =>
    intro s
    rw [List.foldl_cons]
    refine Nat.le_trans (ih _) ?_
    unfold ddF
    split <;> simp <;> omega
theorem curveP_len (l : List Ord5) (more : Int) : (curveP l more).length ≤ l.length + 1 := by
  unfold curveP
  rw [List.length_map]
  have h1 := dd_len ((pricesL l more).mergeSort fun x y => decide (x ≤ y)) ([], none)
  rw [List.length_mergeSort] at h1
  have h2 : (pricesL l more).length ≤ l.length + 1 := by
    unfold pricesL
    rw [List.length_append, List.length_map]
    have h3 := List.length_filter_le (fun o : Ord5 => !(o.kind == 2)) (goodL l)
    have h4 : (goodL l).length ≤ l.length := List.length_filter_le okO l
    have h5 : (if 1 ≤ more then [more] else []).length ≤ 1 := by split <;> simp
    omega
  simp only [List.length_nil, Nat.zero_add] at h1
  exact Nat.le_trans h1 h2

set_option maxRecDepth 100000 in
set_option maxHeartbeats 4000000 in
theorem samePoints_any (A A2 : Option Addr) (n c c2 : Nat) (ps : List Tri) (w : World) (h : ElemsAt w encT 3 A n ps) (h2 : ElemsAt w encT 3 A2 n ps) (hm : n ≤ 1000000) :
    Calls Try.prog 16 #[.slice A n c, .slice A2 n c2] w fun e w' => e = .returned (.bool true) ∧ Below w.heap.size w w' := by
  have HH := hid h
  have HH2 := hid h2
  have hl := h.1
  have HL := hid hl
  have e0 : ((n : Int) != (n : Int)) = false := bneF rfl
  clear h h2 hl
  go_enter Try.func16, Try.ntmps16
  go_wp2_with fail
  go_loopg [5] n (fun gg s5 wx => ∃ k : Nat, k ≤ n ∧ gg = n - k ∧ s5 = .int .i64 k ∧ Below w.heap.size w wx)
  case atStart => exact ⟨0, Nat.zero_le _, rfl, rfl, Below.refl _ _⟩
  case round =>
    obtain ⟨k, hk, rfl, rfl, hB⟩ := hrel
    by_cases hlt : k < n
    · have hkl : k < ps.length := by have := HL.out; omega
      obtain ⟨b, off, hA⟩ : ∃ b off, A = some ⟨b, off, none⟩ := by obtain ⟨b, off, h1, _⟩ := HH.out.2 (by omega); exact ⟨b, off, h1⟩
      obtain ⟨b2, off2, hA2⟩ : ∃ b off, A2 = some ⟨b, off, none⟩ := by obtain ⟨b, off, h1, _⟩ := HH2.out.2 (by omega); exact ⟨b, off, h1⟩
      subst hA hA2
      obtain ⟨x0, x1, x2⟩ := tri_at (HH.out.below hB (Nat.le_refl _)) hkl
      obtain ⟨y0, y1, y2⟩ := tri_at (HH2.out.below hB (Nat.le_refl _)) hkl
      have hltz : (k : Int) < (n : Int) := by omega
      have hi7 : (0 : Int) ≤ (k : Int) := by omega
      generalize ps[k].1 = p0 at x0 y0
      generalize ps[k].2.1 = p1 at x1 y1
      generalize ps[k].2.2 = p2 at x2 y2
      have e1 : (p0 != p0) = false := bneF rfl
      have e2 : (p1 != p1) = false := bneF rfl
      have e3 : (p2 != p2) = false := bneF rfl
      go_wp2_with fail
      go_quiet (fail)
      go_wp2_with fail
      go_roundg (n - (k + 1))
      case measure => omega
      case rel => exact ⟨k + 1, by omega, rfl, by go_num, drewN_below hB _⟩
    · obtain rfl : k = n := by omega
      have hltz : ¬ (k : Int) < (k : Int) := by omega
      go_wp2
      go_ret
      exact ⟨rfl, hB⟩

set_option maxRecDepth 100000 in
set_option maxHeartbeats 4000000 in
theorem curveOf_any (A : Option Addr) (len cap : Nat) (l : List Ord5) (more : Int) (w : World) (h : ElemsAt w encO 5 A len l) (hF : ∀ o ∈ l, FitO o) (hmore : Fit64 more) (hm : len ≤ 9223372036854775807) :
    Calls Try.prog 5 #[.slice A len cap, .int .i64 more] w fun e w' => e = .returned (.bool true) ∧ Below w.heap.size w w' := by
  by_cases h60 : 100 < len
  · have d60 : decide (100 < (len : Int)) = true := decT (by omega)
    go_enter Try.func5, Try.ntmps5
    go_wp2
    go_ret
    exact ⟨rfl, Below.refl _ _⟩
  · have d60 : decide (100 < (len : Int)) = false := decF (by omega)
    have hlc : (curveP l more).length ≤ 1000000 := by
      have h1 := curveP_len l more
      have h2 := h.1
      omega
    have HC1 := hid (of_any keys_said sorted_said A len cap l more w h hF hmore (by omega))
    have HH := hid h
    clear h
    go_enter Try.func5, Try.ntmps5
    go_wp2_with fail
    refine HC1.out.mono ?_
    rintro e w1 ⟨hB1, A1, c1, rfl, hR1⟩
    have HC2 := hid (rcurve_any A len cap l more w1 (HH.out.below hB1 (Nat.le_refl _)) (by omega))
    have HR1 := hid hR1
    clear hR1
    go_wp2_with fail
    refine HC2.out.mono ?_
    rintro e w2 ⟨hB2, A2, c2, rfl, hR2⟩
    have HC3 := hid (samePoints_any A1 A2 _ c1 c2 (curveP l more) w2 (ElemsAt.of_row encT_length (by omega) (HR1.out.below hB2)) (ElemsAt.of_row encT_length (by omega) hR2) hlc)
    clear hR2
    go_wp2_with fail
    refine HC3.out.mono ?_
    rintro e w3 ⟨rfl, hB3⟩
    go_wp2_with fail
    go_ret
    have hs1 := hB1.size
    have hs2 := hB2.size
    exact ⟨rfl, (hB1.trans (hB2.mono hs1)).trans (hB3.mono (by omega))⟩
end Go.Proofs.Ytaagaamamjabbaa
