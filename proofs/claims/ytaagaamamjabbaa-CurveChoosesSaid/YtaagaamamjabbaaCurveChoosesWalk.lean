/-
  The walk of openbelllaw.CurveChooses: it returns true, whatever the input.
-/
import Derived.WalkKit
import Derived.WalkLawsBesides
import Derived.WalkSpells
import Derived.Deep.QuietTactic
import Derived.BigQuiet
import Derived.Deep.LoopGhost
import Derived.Deep.DeepCutAuto
import Derived.Deep.CutBlock
import Derived.Deep.AppendLies
import Derived.Laws.StructEq
import Derived.Test.YtaagaamamjabbaaRefChoose
namespace Go.Proofs.Ytaagaamamjabbaa
open Go.RowKit
set_option linter.unusedVariables false

theorem quote_eq (a b c : Int) (w : World) : (binOp .eql 29 (.agg #[.int .i64 a, .int .i64 b, .int .i64 c]) (.agg #[.int .i64 a, .int .i64 b, .int .i64 c])).run Try.prog w = .ok (.bool true) w := by
  have hf : Try.prog.underlying 29 = some (.struct (Try.prog.fieldsOf 29)) := by kernel_rfl
  have hs : Try.prog.stoodInHeld 29 = false := by kernel_rfl
  have hi : Try.prog.underlying 3 = some (.int .i64) := Try.underlying3
  rw [run_eql_struct, run_equalIn_agg _ _ _ _ _ hf hs]
  simp [Program.fieldsOf, Try.underlying29, Op.eqFields, go_sem, hi]

set_option maxRecDepth 100000 in
set_option maxHeartbeats 4000000 in
theorem curveChooses_any (A : Option Addr) (len cap : Nat) (r : Int) (ps : List Tri) (w : World) (h : ElemsAt w encT 3 A len ps) (hm : len ≤ 9223372036854775807) :
    Calls Try.prog 3 #[.slice A len cap, .int .i64 r] w fun e w' => e = .returned (.bool true) ∧ Below w.heap.size w w' := by
  by_cases h60 : 60 < len
  · have d60 : decide (60 < (len : Int)) = true := decT (by omega)
    go_enter Try.func3, Try.ntmps3
    go_wp2
    go_ret
    exact ⟨rfl, Below.refl _ _⟩
  · have d60 : decide (60 < (len : Int)) = false := decF (by omega)
    by_cases hr1 : 1099511627776 < r
    · have d1 := decT hr1
      go_enter Try.func3, Try.ntmps3
      go_wp2
      go_ret
      exact ⟨rfl, Below.refl _ _⟩
    · have d1 := decF hr1
      by_cases hr2 : r < -1099511627776
      · have d2 := decT hr2
        go_enter Try.func3, Try.ntmps3
        go_wp2
        go_ret
        exact ⟨rfl, Below.refl _ _⟩
      · have d2 := decF hr2
        have HH := hid h
        have hl := h.1
        have HL := hid hl
        have HR : Hid (-1099511627776 ≤ r ∧ r ≤ 1099511627776) := hid (by omega)
        clear h hl hr1 hr2
        go_enter Try.func3, Try.ntmps3
        go_wp2_with fail
        go_loopg [5, 6] len (fun gg s5 s6 wx => ∃ (k : Nat) (A5 : Option Addr) (c5 : Nat), k ≤ len ∧ gg = len - k ∧ s6 = .int .i64 k ∧ s5 = .slice A5 k c5 ∧ Below w.heap.size w wx ∧ RowAt wx A5 k c5 27 3 (flat encT (ps.take k)) ∧ (∀ g, blkOf A5 = some g → w.heap.size ≤ g) ∧ Hid (∀ p ∈ ps.take k, Near p))
        case atStart => exact ⟨0, none, 0, Nat.zero_le _, rfl, rfl, rfl, Below.refl _ _, World.ownsRow_nil _ _ _ _, by simp [blkOf], hid (fun p hp => by simp at hp)⟩
        case round =>
          obtain ⟨k, A5, c5, hk, rfl, rfl, rfl, hB, hR5, hup, HN⟩ := hrel
          by_cases hlt : k < len
          · have hkl : k < ps.length := by have := HL.out; omega
            obtain ⟨b, off, hA⟩ : ∃ b off, A = some ⟨b, off, none⟩ := by obtain ⟨b, off, h1, _⟩ := HH.out.2 (by omega); exact ⟨b, off, h1⟩
            subst hA
            obtain ⟨x0, x1, x2⟩ := tri_at (HH.out.below hB (Nat.le_refl _)) hkl
            have hltz : (k : Int) < (len : Int) := by omega
            have hi7 : (0 : Int) ≤ (k : Int) := by omega
            have HT := hid (take_snoc' hkl)
            obtain ⟨p, E⟩ : ∃ p, Hid (ps[k] = p) := ⟨_, hid rfl⟩
            rw [E.out] at x0 x1 x2 HT
            obtain ⟨p0, p1, p2⟩ := p
            dsimp only at x0 x1 x2
            have HB := hid hB
            have HR5 := hid hR5
            have HUP := hid hup
            have hsz := hB.size
            obtain ⟨wo, rfl⟩ : ∃ wo : World, wo = wr := ⟨_, rfl⟩
            clear hB hR5 hup
            go_wp2_with fail
            go_loopg [39] 3 (fun gg s39 wx => ∃ j : Nat, j ≤ 3 ∧ gg = 3 - j ∧ s39 = .int .i64 j ∧ Below wo.heap.size wo wx ∧ Blk wx wo.heap.size 25 #[.int .i64 p0, .int .i64 p1, .int .i64 p2] ∧ Blk wx (wo.heap.size + 1) 3 #[.int .i64 p0, .int .i64 p1, .int .i64 p2] ∧
              Hid ((0 < j → -1099511627776 ≤ p0 ∧ p0 ≤ 1099511627776) ∧ (1 < j → -1099511627776 ≤ p1 ∧ p1 ≤ 1099511627776) ∧ (2 < j → -1099511627776 ≤ p2 ∧ p2 ≤ 1099511627776)))
            case atStart => exact ⟨0, by omega, rfl, rfl, ((Below.refl _ _).alloc (Nat.le_refl _) _).alloc (by simp) _, Blk.alloc (Blk.new _ _ _) _, by have := Blk.new (wo.alloc (.cells #[.int .i64 p0, .int .i64 p1, .int .i64 p2] 25)) 3 #[.int .i64 p0, .int .i64 p1, .int .i64 p2]; simpa using this, hid ⟨fun h => by omega, fun h => by omega, fun h => by omega⟩⟩
            case round =>
              obtain ⟨j, hj, rfl, rfl, hB1, hX, hY, HJ⟩ := hrel
              have HX := hid hX
              have HY := hid hY
              have HB1 := hid hB1
              by_cases hj3 : j < 3
              · obtain ⟨v, hv, hc⟩ : ∃ v : Int, wr.cell? ⟨wo.heap.size + 1, j, none⟩ = some (.int .i64 v) ∧ Hid ((-1099511627776 ≤ v ∧ v ≤ 1099511627776) → (0 < j + 1 → -1099511627776 ≤ p0 ∧ p0 ≤ 1099511627776) ∧ (1 < j + 1 → -1099511627776 ≤ p1 ∧ p1 ≤ 1099511627776) ∧ (2 < j + 1 → -1099511627776 ≤ p2 ∧ p2 ≤ 1099511627776)) := by
                  obtain ⟨g0, g1, g2⟩ := HJ.out
                  rcases (show j = 0 ∨ j = 1 ∨ j = 2 by omega) with rfl | rfl | rfl
                  · exact ⟨p0, by rw [Blk.cell hY]; rfl, hid fun hv => ⟨fun _ => hv, fun h => by omega, fun h => by omega⟩⟩
                  · exact ⟨p1, by rw [Blk.cell hY]; rfl, hid fun hv => ⟨fun _ => g0 (by omega), fun _ => hv, fun h => by omega⟩⟩
                  · exact ⟨p2, by rw [Blk.cell hY]; rfl, hid fun hv => ⟨fun _ => g0 (by omega), fun _ => g1 (by omega), fun _ => hv⟩⟩
                have hj1 : (j : Int) < 3 := by omega
                have hj2 : (0 : Int) ≤ (j : Int) := by omega
                clear hB1 hX hY
                by_cases hv1 : 1099511627776 < v
                · have t1 := decT hv1
                  go_wp2_with fail
                  go_ret
                  exact ⟨rfl, HB.out.trans (HB1.out.mono hsz)⟩
                · have t1 := decF hv1
                  by_cases hv2 : v < -1099511627776
                  · have t2 := decT hv2
                    go_wp2_with fail
                    go_ret
                    exact ⟨rfl, HB.out.trans (HB1.out.mono hsz)⟩
                  · have t2 := decF hv2
                    go_wp2_with fail
                    go_roundg (3 - (j + 1))
                    case measure => omega
                    case rel => exact ⟨j + 1, by omega, rfl, by go_num, HB1.out, HX.out, HY.out, hid (hc.out ⟨by omega, by omega⟩)⟩
              · obtain rfl : j = 3 := by omega
                have z0 : wr.cell? ⟨wo.heap.size, 0, none⟩ = some (.int .i64 p0) := by rw [Blk.cell hX]; rfl
                have z1 : wr.cell? ⟨wo.heap.size, 1, none⟩ = some (.int .i64 p1) := by rw [Blk.cell hX]; rfl
                have z2 : wr.cell? ⟨wo.heap.size, 2, none⟩ = some (.int .i64 p2) := by rw [Blk.cell hX]; rfl
                obtain ⟨i0, hi0, hz0, hz1, hz2⟩ := info_parts rpt_info
                have HR6 := hid (HR5.out.below hB1)
                have hs2 := hB1.size
                clear hB1 hX hY
                go_wp2_with (at_builtin; refine wpList_append_lies _ rfl _ _ 23 rfl 0 27 i0 _ 3 24 Try.underlying23 hi0 hz0 hz1 hz2 rfl (by omega) (.slice A5 k c5) k _ rfl (HR6.out.alloc _) ⟨wr.heap.size, 0, none⟩ 1 1 [.int .i64 p0, .int .i64 p1, .int .i64 p2] rfl rfl (World.news_of_block (cs := #[.int .i64 p0, .int .i64 p1, .int .i64 p2]) (t := 27) (fr := (0, 0)) (heap_alloc_new wr _)) (by simp [Value.oneCell']) (by omega) (by unfold maxLen; omega) (by omega) (by simp) (wr.heap.size + 1) (by simp) ?_; intro gg cap w3 hown hgrow hat hlt3)
                go_roundg (len - (k + 1))
                case measure => omega
                case rel =>
                  have hBx := (HB.out.trans (HB1.out.mono hsz))
                  have hs3 := hBx.size
                  refine ⟨k + 1, some ⟨gg, 0, none⟩, cap, by omega, rfl, by go_num, rfl, (hBx.alloc hs3 _).grown hgrow (by simp; omega) (fun x hx => HUP.out x (by rw [← own_slice A5 k c5]; exact hx)), ?_, ?_, hid ?_⟩
                  · rw [HT.out, flat_snoc]; exact hown
                  · intro x hx
                    cases hx
                    rw [own_slice] at hat
                    rcases hat with h1 | h1
                    · exact HUP.out _ h1
                    · show w.heap.size ≤ gg; omega
                  · intro q hq
                    rw [HT.out] at hq
                    rcases List.mem_append.1 hq with hq | hq
                    · exact HN.out q hq
                    · simp at hq
                      subst hq
                      obtain ⟨g0, g1, g2⟩ := HJ.out
                      exact ⟨g0 (by omega), g1 (by omega), g2 (by omega)⟩
          · obtain rfl : k = len := by omega
            have hltz : ¬ (k : Int) < (k : Int) := by omega
            have hNA : ∀ p ∈ ps, Near p := by have := HN.out; rwa [List.take_of_length_le (by rw [HL.out]; exact Nat.le_refl _)] at this
            have hR6 := hR5
            rw [List.take_of_length_le (by rw [HL.out]; exact Nat.le_refl _)] at hR6
            have HE := hid (ElemsAt.of_row encT_length (by omega) hR6)
            have HNA := hid hNA
            have HB := hid hB
            have hq := quote_eq (rchooseP ps r).1 (rchooseP ps r).2.1 (rchooseP ps r).2.2
            have hC := choose_any A k cap r HR.out ps wr (HH.out.below hB (Nat.le_refl _)) hNA (by omega)
            rw [choose_same] at hC
            unfold aggT at hC
            have hC2 := fun W hE => rchoose_any A5 k c5 r HR.out ps W hE hNA (by omega)
            unfold aggT at hC2
            generalize (rchooseP ps r).1 = t0 at hC hC2 hq
            generalize (rchooseP ps r).2.1 = t1 at hC hC2 hq
            generalize (rchooseP ps r).2.2 = t2 at hC hC2 hq
            have HC := hid hC
            have HC2 := hid hC2
            have HQ := hid hq
            clear hNA hR6 hR5 hB hC hC2 hq
            go_wp2_with fail
            refine HC.out.mono ?_
            rintro e w2 ⟨rfl, hB2⟩
            have hq := HQ.out
            go_wp2_with fail
            refine (HC2.out _ (HE.out.below hB2 (Nat.le_refl _))).mono ?_
            rintro e w3 ⟨rfl, hB3⟩
            go_wp2_with fail
            go_ret
            have hs1 := HB.out.size
            have hs2 := hB2.size
            exact ⟨rfl, (HB.out.trans (hB2.mono hs1)).trans (hB3.mono (by omega))⟩
end Go.Proofs.Ytaagaamamjabbaa
