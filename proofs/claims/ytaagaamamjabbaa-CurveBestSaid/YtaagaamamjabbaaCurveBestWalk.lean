/-
  The walks of openbellkeep.chosen and of openbellkeep.CurveBest: it returns true, whatever the input.
-/
import Derived.WalkKit
import Derived.WalkLawsBesides
import Derived.WalkSpells
import Derived.Deep.QuietTactic
import Derived.BigQuiet
import Derived.Deep.LoopGhost
import Derived.Deep.DeepCutAuto
import Derived.Deep.CutBlock
import Derived.Deep.RegionWith
import Derived.Test.YtaagaamamjabbaaBestPlain
import Derived.Test.YtaagaamamjabbaaKeepAt
namespace Go.Proofs.Ytaagaamamjabbaa
open Go.RowKit
set_option linter.unusedVariables false

set_option maxRecDepth 100000 in
set_option maxHeartbeats 1000000 in
theorem curveBest_any (hch : ∀ w, Calls Try.prog 19 #[] w fun e w' => e = .returned (.bool true) ∧ Below w.heap.size w w') (A : Option Addr) (len cap : Nat) (l : List Ord5) (around : Int) (w : World) (h : ElemsAt w encO 5 A len l) (hm : len ≤ 9223372036854775807) :
    Calls Try.prog 6 #[.slice A len cap, .int .i64 around] w fun e w' => e = .returned (.bool true) ∧ Below w.heap.size w w' := by
  have HH := hid h
  clear h
  go_enter Try.func6, Try.ntmps6
  go_wp2_with fail
  refine (hch _).mono ?_
  rintro e w1 ⟨rfl, hB1⟩
  have HC2 := hid (some_any A len cap l w1 (HH.out.below hB1 (Nat.le_refl _)) hm)
  go_wp2_with fail
  refine HC2.out.mono ?_
  rintro e w2 ⟨hB2, A2, c2, rfl, hR2⟩
  have hs1 := hB1.size
  have HB2 := hid (hB1.trans (hB2.mono hs1))
  have HE2 := hid (ElemsAt.of_row encO_length (by omega) hR2)
  clear hB1 hB2 hR2 HC2 hs1
  go_wp2_with fail
  refine (pick_any _ 70 _ (by omega) (by omega)).mono ?_
  rintro e w3 ⟨rfl, rfl⟩
  have hp0 := pk_nonneg around 70 (by omega)
  have hp1 := pk_lt around 70 (by omega)
  obtain ⟨pa, EP⟩ : ∃ x, Hid (pk around 70 = x) := ⟨_, hid rfl⟩
  rw [EP.out] at hp0 hp1 ⊢
  obtain ⟨x, EX⟩ : ∃ x, Hid (someL l = x) := ⟨_, hid rfl⟩
  rw [EX.out] at HE2 ⊢
  have hxl : x.length ≤ 60 := by have := someL_len l; rwa [EX.out] at this
  have hxok : AllOk x := by have := someL_ok l; rwa [EX.out] at this
  have hxfit : ∀ o ∈ x, FitO o := by have := someL_fit l; rwa [EX.out] at this
  have hxp : ∀ o ∈ x, 1 ≤ o.price ∧ o.price ≤ 60 := by have := someL_price l; rwa [EX.out] at this
  have hnear := points_near (l := x) (more := 1 + pa) hxl hxp (by omega)
  have hcl := curveP_len x (1 + pa)
  obtain ⟨hbest, hqty⟩ := best_spec (l := x) (more := 1 + pa) hxok (by omega) (1 + pa)
  have HC3 := hid (of_any keys_said sorted_said A2 x.length c2 x (1 + pa) w2 HE2.out hxfit (by unfold Fit64; omega) (by omega))
  have HC4 := hid (fun (W : World) (A : Option Addr) (c : Nat) (hR : RowAt W A (curveP x (1 + pa)).length c 25 3 (flat encT (curveP x (1 + pa)))) => choose_any A _ c (1 + pa) (by omega) (curveP x (1 + pa)) W (ElemsAt.of_row encT_length (by omega) hR) hnear (by omega))
  have HC5 := hid (fun (W : World) (p : Int) (hE : ElemsAt W encO 5 A2 x.length x) => keepAt_any A2 x.length c2 x p W hE hxok (by omega))
  have HDB := hid (fun p : Int => And.intro (demL_bound (p := p) hxok) (supL_bound (p := p) hxok))
  obtain ⟨t0, t1, t2, ET⟩ : ∃ t0 t1 t2, Hid (chooseP (curveP x (1 + pa)) (1 + pa) = (t0, t1, t2)) := ⟨_, _, _, hid rfl⟩
  rw [ET.out] at hbest hqty
  dsimp only at hbest hqty
  have HBEST := hid hbest
  have HQTY := hid hqty
  have HL := hid hxl
  clear hxl hxok hxfit hxp hnear hcl hbest hqty
  go_wp2_with fail
  refine HC3.out.mono ?_
  rintro e w4 ⟨hB4, A4, c4, rfl, hR4⟩
  have hC4 := HC4.out w4 A4 c4 hR4
  rw [ET.out] at hC4
  unfold aggT at hC4
  dsimp only at hC4
  have HC6 := hid hC4
  have HB4 := hid hB4
  clear hC4 hB4 hR4 HC3 HC4
  go_wp2_with fail
  refine HC6.out.mono ?_
  rintro e w5 ⟨rfl, hB5⟩
  have hs4 := HB4.out.size
  have hbl := Blk.new w5 29 #[.int .i64 t0, .int .i64 t1, .int .i64 t2]
  have HB5 := hid ((HB4.out.trans (hB5.mono hs4)).alloc (Nat.le_trans hs4 hB5.size) (.cells #[.int .i64 t0, .int .i64 t1, .int .i64 t2] 29))
  have hg5 := Nat.le_trans hs4 hB5.size
  have HBL := hid hbl
  clear hB5 hs4 HC6 hbl
  obtain ⟨d0, s0, EDS⟩ : ∃ d0 s0, Hid (demL t0 x = d0 ∧ supL t0 x = s0) := ⟨_, _, hid ⟨rfl, rfl⟩⟩
  go_wp2_with fail
  refine (HC5.out _ t0 (HE2.out.below HB5.out (Nat.le_refl _))).mono ?_
  rintro e w6 ⟨rfl, hB6⟩
  have hdb := HDB.out t0
  have hqt := HQTY.out
  rw [EDS.out.1, EDS.out.2] at hdb hqt ⊢
  have hbl6 : Blk w6 w5.heap.size 29 #[.int .i64 t0, .int .i64 t1, .int .i64 t2] := Blk.below HBL.out hB6 (by simp)
  have z1 : w6.cell? ⟨w5.heap.size, 1, none⟩ = some (.int .i64 t1) := by rw [Blk.cell hbl6]; rfl
  have z2 : w6.cell? ⟨w5.heap.size, 2, none⟩ = some (.int .i64 t2) := by rw [Blk.cell hbl6]; rfl
  have HB6 := hid (HB5.out.trans (hB6.mono (by simp; omega)))
  have hg6 : w2.heap.size ≤ w6.heap.size := HB6.out.size
  have HBL6 := hid hbl6
  obtain ⟨⟨hd0, hd1⟩, hs0, hs1⟩ := hdb
  have hxl := HL.out
  have hd2 : d0 ≤ 60000000 := by omega
  have hs2 : s0 ≤ 60000000 := by omega
  clear hd1 hs1 hxl hbl6 hB6
  go_upto_region 7 with fail
  go_cut [49] (fun s wx => s = .bool false ∧ wx = w6)
  case first =>
    have hqt := HQTY.out
    rw [EDS.out.1, EDS.out.2] at hqt
    by_cases h0 : 0 < t1
    · obtain ⟨e1, e2⟩ := hqt h0
      have n1 : (t1 != min d0 s0) = false := bneF e1
      have n2 : (t2 != d0 - s0) = false := bneF e2
      have d1 : decide (0 < t1) = true := decT h0
      clear e1 e2 hqt
      go_wp2_with fail
      go_meet
      exact ⟨rfl, rfl⟩
    · have d1 : decide (0 < t1) = false := decF h0
      clear hqt
      go_wp2_with fail
      go_meet
      exact ⟨rfl, rfl⟩
  case rest =>
    obtain ⟨rfl, rfl⟩ := hcut
    clear z1 z2
    go_wp2_with fail
    go_loopg [9] 80 (fun gg s9 wx => ∃ k : Nat, 1 ≤ k ∧ k ≤ 81 ∧ gg = 81 - k ∧ s9 = .int .i64 k ∧ Below w.heap.size w wx ∧ Below w2.heap.size w2 wx ∧ Blk wx w5.heap.size 29 #[.int .i64 t0, .int .i64 t1, .int .i64 t2])
    case atStart => exact ⟨1, by omega, by omega, rfl, rfl, (HB2.out.trans (HB6.out.mono HB2.out.size)), HB6.out, HBL6.out⟩
    case round =>
      obtain ⟨k, hk0, hk, rfl, rfl, hBw, hB2w, hblw⟩ := hrel
      have hgw := hB2w.size
      have hgt := hBw.size
      by_cases hlt : k ≤ 80
      · have hltz : (k : Int) ≤ 80 := by omega
        have HW := hid hBw
        have HW2 := hid hB2w
        have HBW := hid hblw
        have hglw := Blk.lt hblw
        clear hBw hB2w hblw
        go_wp2_with fail
        refine (HC5.out _ (k : Int) (HE2.out.below HW2.out (Nat.le_refl _))).mono ?_
        rintro e w7 ⟨rfl, hB7⟩
        have hbest := HBEST.out (k : Int)
        have hdb := HDB.out (k : Int)
        generalize demL (k : Int) x = d7 at hbest hdb ⊢
        generalize supL (k : Int) x = s7 at hbest hdb ⊢
        have nb : ¬ t1 < min d7 s7 := by omega
        have hbl7 : Blk w7 w5.heap.size 29 #[.int .i64 t0, .int .i64 t1, .int .i64 t2] := Blk.below HBW.out hB7 hglw
        have z1 : w7.cell? ⟨w5.heap.size, 1, none⟩ = some (.int .i64 t1) := by rw [Blk.cell hbl7]; rfl
        have HBL7 := hid hbl7
        have HW7 := hid (HW.out.trans (hB7.mono hgt))
        have HW8 := hid (HW2.out.trans (hB7.mono hgw))
        clear hbl7 hB7 hbest hdb
        go_wp2_with fail
        go_roundg (81 - (k + 1))
        case measure => omega
        case rel => exact ⟨k + 1, by omega, by omega, rfl, by go_num, HW7.out, HW8.out, HBL7.out⟩
      · have hltz : ¬ (k : Int) ≤ 80 := by omega
        have HW := hid hBw
        clear hBw hB2w hblw
        go_wp2_with fail
        go_ret
        exact ⟨rfl, HW.out⟩
end Go.Proofs.Ytaagaamamjabbaa
