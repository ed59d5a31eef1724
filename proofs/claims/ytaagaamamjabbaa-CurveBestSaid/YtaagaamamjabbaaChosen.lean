/-
  The walk of openbellkeep.chosen.
-/
import Derived.WalkKit
import Derived.WalkLawsBesides
import Derived.WalkSpells
import Derived.Deep.QuietTactic
import Derived.BigQuiet
import Derived.Deep.LoopGhost
import Derived.Deep.DeepCutAuto
import Derived.Deep.CutBlock
import Derived.Deep.RegionWith
import Derived.Test.YtaagaamamjabbaaBestPlain
import Derived.Test.YtaagaamamjabbaaKeepAt
namespace Go.Proofs.Ytaagaamamjabbaa
open Go.RowKit
set_option linter.unusedVariables false

theorem bquote_eq (a b c : Int) (w : World) : (binOp .eql 29 (.agg #[.int .i64 a, .int .i64 b, .int .i64 c]) (.agg #[.int .i64 a, .int .i64 b, .int .i64 c])).run Try.prog w = .ok (.bool true) w := by
  have hf : Try.prog.underlying 29 = some (.struct (Try.prog.fieldsOf 29)) := by kernel_rfl
  have hs : Try.prog.stoodInHeld 29 = false := by kernel_rfl
  have hi : Try.prog.underlying 3 = some (.int .i64) := Try.underlying3
  rw [run_eql_struct, run_equalIn_agg _ _ _ _ _ hf hs]
  simp [Program.fieldsOf, Try.underlying29, Op.eqFields, go_sem, hi]

theorem blk_elems {α : Type} {enc : α → List Value} {k : Nat} {w : World} {g : Nat} {t : TypeId} {cs : Array Value} (xs : List α) (h : Blk w g t cs) (hk : ∀ x, (enc x).length = k) (hc : cs.toList = flat enc xs) : ElemsAt w enc k (some ⟨g, 0, none⟩) xs.length xs := by
  refine ⟨rfl, fun _ => ⟨g, 0, rfl, h.lt, fun i hi j u hu => ?_⟩⟩
  have hj : j < k := by
    have := (List.getElem?_eq_some_iff.1 hu).1
    rwa [hk] at this
  rw [Blk.cell h, Nat.zero_add, ← Array.getElem?_toList, hc, flat_get hk xs i hi j hj]
  exact hu

set_option maxRecDepth 100000 in
set_option maxHeartbeats 400000 in
theorem chosen_any (w : World) : Calls Try.prog 19 #[] w fun e w' => e = .returned (.bool true) ∧ Below w.heap.size w w' := by
  have hq := fun W => bquote_eq 10 3 2 W
  have hb := Blk.new w 41 #[.int .i64 1, .int .i64 1, .int .i64 1, .int .i64 10, .int .i64 5, .int .i64 2, .int .i64 2, .int .i64 1, .int .i64 8, .int .i64 3]
  have hc1 := of_any keys_said sorted_said (some ⟨w.heap.size, 0, none⟩) 2 2 chosenL 0 _ (blk_elems chosenL hb encO_length rfl) chosen_fit (by unfold Fit64; omega) (by omega)
  have hl : (curveP chosenL 0).length = 2 := by rw [chosen_curve]; rfl
  have hnear := chosen_near
  have hchoice := chosen_choice
  generalize curveP chosenL 0 = L at hc1 hl hnear hchoice
  have HC1 := hid hc1
  have HNE := hid hnear
  have HCH := hid hchoice
  clear hc1 hnear hchoice
  have HB0 := hid (show Below w.heap.size w (w.alloc (.cells #[.int .i64 1, .int .i64 1, .int .i64 1, .int .i64 10, .int .i64 5, .int .i64 2, .int .i64 2, .int .i64 1, .int .i64 8, .int .i64 3] 41)) from (Below.refl _ _).alloc (Nat.le_refl _) _)
  clear hb
  go_enter Try.func19, Try.ntmps19
  go_wp2_with fail
  refine HC1.out.mono ?_
  rintro e w1 ⟨hB1, A1, c1, rfl, hR1⟩
  have hC2 := choose_any A1 _ c1 9 (by omega) L w1 (ElemsAt.of_row encT_length (by omega) hR1) HNE.out (by omega)
  rw [HCH.out] at hC2
  unfold aggT at hC2
  dsimp only at hC2
  rw [hl] at hC2
  have HC2 := hid hC2
  have HB1 := hid (HB0.out.trans (hB1.mono (by simp)))
  clear hC2 hR1 hB1
  go_wp2_with fail
  refine HC2.out.mono ?_
  rintro e w2 ⟨rfl, hB2⟩
  go_wp2_with fail
  go_ret
  have hs := HB1.out.size
  have hs2 := hB2.size
  exact ⟨rfl, (HB1.out.trans (hB2.mono hs)).alloc (by omega) _⟩

end Go.Proofs.Ytaagaamamjabbaa
