/-
  The walk of openbelllaw.samePoints, at the same points.
-/
import Derived.WalkKit
import Derived.WalkLawsBesides
import Derived.WalkSpells
import Derived.Deep.QuietTactic
import Derived.BigQuiet
import Derived.Deep.LoopGhost
import Derived.Deep.DeepCutAuto
import Derived.Deep.CutBlock
import Derived.Test.YteggaehelnmhnaaDoorMem
namespace Go.Proofs.YteggaehelnmhnaaDoor
open Go.RowKit
set_option linter.unusedVariables false

set_option maxRecDepth 100000 in
set_option maxHeartbeats 4000000 in
theorem samePoints_any (A A2 : Option Addr) (n c c2 : Nat) (ps : List Tri) (w : World) (h : ElemsAt w encT 3 A n ps) (h2 : ElemsAt w encT 3 A2 n ps) (hm : n ≤ 1000000) :
    Calls Tryd.prog 8 #[.slice A n c, .slice A2 n c2] w fun e w' => e = .returned (.bool true) ∧ Below w.heap.size w w' := by
  have HH := hid h
  have HH2 := hid h2
  have hl := h.1
  have HL := hid hl
  have e0 : ((n : Int) != (n : Int)) = false := bneF rfl
  clear h h2 hl
  go_enter Tryd.func8, Tryd.ntmps8
  go_wp2_with fail
  go_loopg [5] n (fun gg s5 wx => ∃ k : Nat, k ≤ n ∧ gg = n - k ∧ s5 = .int .i64 k ∧ Below w.heap.size w wx)
  case atStart => exact ⟨0, Nat.zero_le _, rfl, rfl, Below.refl _ _⟩
  case round =>
    obtain ⟨k, hk, rfl, rfl, hB⟩ := hrel
    by_cases hlt : k < n
    · have hkl : k < ps.length := by have := HL.out; omega
      obtain ⟨b, off, hA⟩ : ∃ b off, A = some ⟨b, off, none⟩ := by obtain ⟨b, off, h1, _⟩ := HH.out.2 (by omega); exact ⟨b, off, h1⟩
      obtain ⟨b2, off2, hA2⟩ : ∃ b off, A2 = some ⟨b, off, none⟩ := by obtain ⟨b, off, h1, _⟩ := HH2.out.2 (by omega); exact ⟨b, off, h1⟩
      subst hA hA2
      obtain ⟨x0, x1, x2⟩ := tri_at (HH.out.below hB (Nat.le_refl _)) hkl
      obtain ⟨y0, y1, y2⟩ := tri_at (HH2.out.below hB (Nat.le_refl _)) hkl
      have hltz : (k : Int) < (n : Int) := by omega
      have hi7 : (0 : Int) ≤ (k : Int) := by omega
      generalize ps[k].1 = p0 at x0 y0
      generalize ps[k].2.1 = p1 at x1 y1
      generalize ps[k].2.2 = p2 at x2 y2
      have e1 : (p0 != p0) = false := bneF rfl
      have e2 : (p1 != p1) = false := bneF rfl
      have e3 : (p2 != p2) = false := bneF rfl
      go_wp2_with fail
      go_quiet (fail)
      go_wp2_with fail
      go_roundg (n - (k + 1))
      case measure => omega
      case rel => exact ⟨k + 1, by omega, rfl, by go_num, drewN_below hB _⟩
    · obtain rfl : k = n := by omega
      have hltz : ¬ (k : Int) < (k : Int) := by omega
      go_wp2
      go_ret
      exact ⟨rfl, hB⟩

end Go.Proofs.YteggaehelnmhnaaDoor
