/-
  The walk of openbellkeep.ArenaStale: it returns true, whatever the input.
-/
import Derived.WalkKit
import Derived.WalkLawsBesides
import Derived.WalkSpells
import Derived.Deep.QuietTactic
import Derived.BigQuiet
import Derived.Deep.LoopGhost
import Derived.Deep.DeepCutAuto
import Derived.Deep.CutBlock
import Derived.Deep.AppendLies
import Derived.Test.YtakbedckjaammaaDoorStaleAt
import Derived.Test.YtakbedckjaammaaDoorPick
import Derived.Test.YtakbedckjaammaaDoorFlat
namespace Go.Proofs.YtakbedckjaammaaDoor
open Go.RowKit
set_option linter.unusedVariables false

def encI (x : Int) : List Value := [.int .i64 x]
theorem handle_info : (Tryd.prog.info? 42).map (fun i => (i.zero, i.size, i.bytes)) = some (some (.agg #[.int .i64 0, .int .i64 0]), 2, 16) := by kernel_rfl
theorem bool_info : (Tryd.prog.info? 4).map (fun i => (i.zero, i.size, i.bytes)) = some (some (.bool false), 1, 1) := by kernel_rfl
theorem pair_own {w : World} {g n c : Nat} {t : TypeId} {hs : List (Int × Int)} (h : RowAt w (some ⟨g, 0, none⟩) n c t 2 (pairCells hs)) {i : Nat} (hi : i < hs.length) :
    w.cell? ⟨g, i * 2, none⟩ = some (.int .i64 hs[i].1) ∧ w.cell? ⟨g, i * 2 + 1, none⟩ = some (.int .i64 hs[i].2) := by
  obtain ⟨e0, e1⟩ := pairCells_get hs i hi
  have e : hs.getD i (0, 0) = hs[i] := by simp [List.getD_eq_getElem?_getD, hi]
  rw [e] at e0 e1
  obtain ⟨g0, h0, c0⟩ := h.cell e0
  obtain ⟨g1, h1, c1⟩ := h.cell e1
  cases h0
  cases h1
  exact ⟨c0, c1⟩
theorem bool_own {w : World} {g n c : Nat} {t : TypeId} {th : List Bool} (h : RowAt w (some ⟨g, 0, none⟩) n c t 1 (boolCells th)) {i : Nat} (hi : i < th.length) : w.cell? ⟨g, i, none⟩ = some (.bool th[i]) := by
  obtain ⟨g0, h0, c0⟩ := h.cell (j := i) (u := .bool th[i]) (by simp [boolCells, hi])
  cases h0
  exact c0
theorem row_some {w : World} {A : Option Addr} {n c sz : Nat} {t : TypeId} {xs : List Value} (h : RowAt w A n c t sz xs) (hn : 0 < n) : ∃ g, A = some ⟨g, 0, none⟩ := by
  rcases h.2 with ⟨_, h0⟩ | ⟨g, cap, cur, hv, _⟩
  · omega
  · cases hv; exact ⟨g, rfl⟩

/-- where a round begins -/
def StaleR (w0 w : World) (a : Nat) (most : Int) (k : Nat) (s7 s8 : Value) : Prop :=
  ∃ (A1 : Option Addr) (c : Nat) (B : Option Addr) (d : Nat) (P : Option Addr) (pc : Nat) (Q : Option Addr) (qc : Nat) (ss : List SlotT) (fr : List Int) (hs : List (Int × Int)) (th : List Bool),
    s7 = .slice P hs.length pc ∧ s8 = .slice Q th.length qc ∧ StaleAt w0 w a A1 c B d P pc Q qc ss fr most (liveS ss : Nat) hs th ∧ SlotInv ss fr ∧ StaleInv ss hs th k ∧ (liveS ss : Nat) ≤ most ∧ ss.length ≤ k ∧ fr.length ≤ k ∧ hs.length ≤ k

set_option maxRecDepth 100000 in
set_option maxHeartbeats 4000000 in
theorem arenaStale_any (most : Int) (A : Option Addr) (len cap : Nat) (zs : List Int) (w : World) (hZ : ElemsAt w encI 1 A len zs) (hm : len ≤ 9223372036854775807) (hE : ErrType w) :
    Calls Tryd.prog 4 #[.int .i64 most, .slice A len cap] w fun e w' => e = .returned (.bool true) ∧ Below w.heap.size w w' := by
  by_cases h60 : 150 < len
  · have d60 : decide (150 < (len : Int)) = true := decT (by omega)
    go_enter Tryd.func4, Tryd.ntmps4
    go_wp2
    go_ret
    exact ⟨rfl, Below.refl _ _⟩
  · have d60 : decide (150 < (len : Int)) = false := decF (by omega)
    have HZ := hid hZ
    have hzl := hZ.1
    have HZL := hid hzl
    clear hZ hzl
    go_enter Tryd.func4, Tryd.ntmps4
    go_wp2_with fail
    refine (pick_any most 20 _ (by omega) (by omega)).mono ?_
    rintro e w' ⟨rfl, rfl⟩
    have hp0 := pk_nonneg most 20 (by omega)
    have hp1 := pk_lt most 20 (by omega)
    generalize pk most 20 = p at hp0 hp1 ⊢
    have i1 : RowKit.wrap64 (1 + p) = 1 + p := by unfold RowKit.wrap64; omega
    go_wp2_with fail
    refine (arenaNew_any _ _).mono ?_
    rintro e w1 ⟨hB1, ⟨hb, rfl⟩ | ⟨hb, a, ha, rfl, hA⟩⟩
    · exfalso
      first | omega | (rw [i1] at hb; omega)
    · have HU := hid (Up.new_ hB1 ha hA)
      clear hA
      go_wp2_with fail
      refine (given_any _ (hE.below hB1 (Nat.le_refl _))).mono ?_
      rintro e w2 ⟨rfl, hB2⟩
      have HU2 := hid (HU.out.keep hB2)
      go_wp2_with fail
      go_loopg [7, 8, 9] len (fun g s7 s8 s9 wx => ∃ k : Nat, k ≤ len ∧ g = len - k ∧ s9 = .int .i64 k ∧ Hid (StaleR w wx a (1 + p) k s7 s8))
      case atStart =>
        have hU := HU2.out
        exact ⟨0, Nat.zero_le _, rfl, rfl, hid ⟨none, 0, none, 0, none, 0, none, 0, [], [], [], [], rfl, rfl, ⟨hU, World.ownsRow_nil _ _ _ _, World.ownsRow_nil _ _ _ _, by simp [blkOf], by simp [blkOf], by simp [blkOf], by simp [blkOf], by simp [blkOf]⟩, SlotInv.empty, StaleInv.empty, by simp [liveS]; omega, by simp, by simp, by simp⟩⟩
      case round =>
        obtain ⟨k, hk, rfl, rfl, HR⟩ := hrel
        obtain ⟨A1, c, B, d, P, pc, Q, qc, ss, fr, hs, th, rfl, rfl, hS, hI, hST, hlm, hsl, hfl, hhl⟩ := HR.out
        clear HR
        have HS := hid hS
        have HI := hid hI
        have HST := hid hST
        have hsz := hS.up.below.size
        have HBE := hid hS.up.below
        have htl : th.length = hs.length := hST.len.symm
        have HTL := hid htl
        clear hS hI hST htl
        by_cases hlt : k < len
        · have hkz : k < zs.length := by have := HZL.out; omega
          obtain ⟨b, off, hA⟩ : ∃ b off, A = some ⟨b, off, none⟩ := by obtain ⟨b, off, h1, _⟩ := HZ.out.2 (by omega); exact ⟨b, off, h1⟩
          subst hA
          have x0 := (HZ.out.below HBE.out (Nat.le_refl _)).at_ hkz (j := 0) (u := .int .i64 zs[k]) rfl
          simp only [Nat.mul_one, Nat.add_zero] at x0
          have hltz : (k : Int) < (len : Int) := by omega
          have hi7 : (0 : Int) ≤ (k : Int) := by omega
          generalize zs[k] = z at x0
          go_wp2_with fail
          refine (pick_any z 3 _ (by omega) (by omega)).mono ?_
          rintro e w' ⟨rfl, rfl⟩
          have hq0 := pk_nonneg z 3 (by omega)
          have hq1 := pk_lt z 3 (by omega)
          generalize pk z 3 = q at hq0 hq1 ⊢
          have H0 : ∀ g, blkOf P = some g → g < wr.heap.size := fun g hg => HS.out.hrow.lt hg
          obtain ⟨ih, hih0, hih1, hih2, hih3⟩ := info_parts handle_info
          obtain ⟨ib, hib0, hib1, hib2, hib3⟩ := info_parts bool_info
          have hll := liveS_le ss
          go_upto_region 12 with fail
          obtain ⟨bb, HBB⟩ : ∃ bb : Bool, Hid (bb = (decide (q < 2) || decide (hs.length = 0))) := ⟨_, hid rfl⟩
          go_cut [57] (fun s57 wx => s57 = .bool bb ∧ wx = wr)
          case first =>
            by_cases hq2 : q < 2
            · have d2 := decT hq2
              have e1 : bb = true := by rw [HBB.out]; simp [hq2]
              subst e1
              go_wp2_with fail
              go_meet
              exact ⟨rfl, rfl⟩
            · have d2 := decF hq2
              by_cases hl0 : hs.length = 0
              · have d3 : (((hs.length : Nat) : Int) == 0) = true := beqT (by omega)
                have e1 : bb = true := by rw [HBB.out]; simp [hl0]
                subst e1
                clear hl0
                go_wp2_with fail
                go_meet
                exact ⟨rfl, rfl⟩
              · have d3 : (((hs.length : Nat) : Int) == 0) = false := beqF (by omega)
                have e1 : bb = false := by rw [HBB.out]; simp [hq2, hl0]
                subst e1
                go_wp2_with fail
                go_meet
                exact ⟨rfl, rfl⟩
          case rest =>
           obtain ⟨rfl, rfl⟩ := hcut
           go_upto_if 57 with (fail)
           go_cut [7, 8] (fun s7 s8 wx => Hid (StaleR w wx a (1 + p) (k + 1) s7 s8))
           case first =>
            cases bb with
            | true =>
              have hP0 := StaleInv.put_ (most := 1 + p) HST.out HI.out (by omega)
              obtain ⟨v1, v2, v3, v4, v5⟩ := putR_inv (x := (hs.length : Int)) HI.out (by omega) hlm
              have hcall := arenaPut_any wc a A1 c B d ss fr (1 + p) (hs.length : Int) HS.out.up.ar HI.out (by omega) hlm (by omega) (by omega)
              generalize putR ss fr (1 + p) (hs.length : Int) = PP at v1 v2 v3 v4 v5 hP0 hcall
              obtain ⟨ss', fr', sl, ag, er⟩ := PP
              dsimp only at v1 v2 v3 v4 v5 hP0 hcall
              have HP0 := hid hP0
              have V1 := hid v1
              have V5 := hid v5
              have HC := hid hcall
              clear hP0 v1 v5 hcall
              go_wp2_with fail
              refine HC.out.mono ?_
              rintro e w3 ⟨rfl, hT⟩
              obtain ⟨A2, c2, B2, d2', hS3, _⟩ := HS.out.arena hT
              have HS3 := hid hS3
              clear hT hS3
              rcases V5.out with ⟨rfl, hl⟩ | ⟨rfl, hl⟩
              · have HF : Hid (ss' = ss ∧ fr' = fr) := hid (by
                  rcases HP0.out with ⟨_, h⟩ | ⟨h, _⟩
                  · exact h
                  · omega)
                clear hl
                rw [show errV 12 = .iface 22 (.int .i64 12) from rfl]
                go_wp2_with fail
                go_meet
                obtain ⟨e1, e2⟩ := HF.out
                have HS4 := HS3.out.keep ((Below.refl _ w3).alloc (Nat.le_refl _) (.cells #[.int .i64 sl, .int .i64 ag] 42))
                exact hid ⟨A2, c2, B2, d2', P, pc, Q, qc, ss', fr', hs, th, rfl, rfl, HS4, V1.out, (by rw [e1]; exact HST.out.more (by omega)), v2, by omega, by omega, by omega⟩
              · have HF : Hid (StaleInv ss' (hs ++ [(sl, ag)]) (th ++ [true]) k) := hid (by
                  rcases HP0.out with ⟨h, _⟩ | ⟨_, h⟩
                  · omega
                  · exact h)
                clear hl
                rw [errV_zero]
                have hS4 := HS3.out.keep ((Below.refl _ w3).alloc (Nat.le_refl _) (.cells #[.int .i64 sl, .int .i64 ag] 42))
                have HS4 := hid hS4
                have hnw1 : ((w3.alloc (.cells #[.int .i64 sl, .int .i64 ag] 42)).alloc (.cells #[.int .i64 sl, .int .i64 ag] 42)).heap[w3.heap.size + 1]? = some (.cells #[.int .i64 sl, .int .i64 ag] 42 (0, 0)) := by
                  have := heap_alloc_new (w3.alloc (.cells #[.int .i64 sl, .int .i64 ag] 42)) (.cells #[.int .i64 sl, .int .i64 ag] 42)
                  simpa using this
                have HNW := hid hnw1
                have HO1 : Hid (World.ownsRow ((w3.alloc (.cells #[.int .i64 sl, .int .i64 ag] 42)).alloc (.cells #[.int .i64 sl, .int .i64 ag] 42)) 0 42 2 (.slice P hs.length pc) hs.length (pairCells hs)) := hid (hS4.hrow.alloc _)
                have hthl : th.length ≤ 200 := by have := HTL.out; omega
                clear hS4 hnw1
                go_wp2_with (first
                  | (at_builtin
                     (with_reducible refine wpList_append_lies _ (by with_unfolding_all rfl) _ _ 39 (by with_unfolding_all rfl) 0 42 ih _ 2 16 Tryd.underlying39 hih0 hih1 hih2 hih3 (by with_unfolding_all rfl) (by omega) (.slice P hs.length pc) hs.length (pairCells hs) (by with_unfolding_all rfl) HO1.out ⟨w3.heap.size + 1, 0, none⟩ 1 1 [.int .i64 sl, .int .i64 ag] (by with_unfolding_all rfl) (by with_unfolding_all rfl) (World.news_of_block (cs := #[.int .i64 sl, .int .i64 ag]) (t := 42) (fr := (0, 0)) HNW.out) (by simp [Value.oneCell']) (by omega) (by unfold maxLen; omega) (by omega) (by simp) (w3.heap.size + 1 + 1) (by simp) ?_)
                     intro g1 cap1 w5 hown1 hgrow1 hat1 hlt1
                     have HS5 := hid (StaleAt.moreH HS4.out hown1 hgrow1 (by simpa using hat1))
                     have HO2 : Hid (World.ownsRow (w5.alloc (.cells #[.bool true] 4)) 0 4 1 (.slice Q th.length qc) th.length (boolCells th)) := hid (HS5.out.trow.alloc _)
                     clear hown1 hgrow1 hat1)
                  | (at_builtin
                     (with_reducible refine wpList_append_lies _ (by with_unfolding_all rfl) _ _ 40 (by with_unfolding_all rfl) 0 4 ib _ 1 1 Tryd.underlying40 hib0 hib1 hib2 hib3 (by with_unfolding_all rfl) (by omega) (.slice Q th.length qc) th.length (boolCells th) (by with_unfolding_all rfl) HO2.out ⟨w5.heap.size, 0, none⟩ 1 1 [.bool true] (by with_unfolding_all rfl) (by with_unfolding_all rfl) (World.news_of_block (cs := #[.bool true]) (t := 4) (fr := (0, 0)) (heap_alloc_new w5 _)) (by simp [Value.oneCell']) (by omega) (by unfold maxLen; omega) (by omega) (by simp) (w5.heap.size + 1) (by simp) ?_)
                     intro g2 cap2 w6 hown2 hgrow2 hat2 hlt2
                     have HS6 := hid (StaleAt.moreT HS5.out hown2 hgrow2 hat2)
                     clear hown2 hgrow2 hat2))
                go_meet
                exact hid ⟨A2, c2, B2, d2', some ⟨g1, 0, none⟩, cap1, some ⟨g2, 0, none⟩, cap2, ss', fr', hs ++ [(sl, ag)], th ++ [true], by simp, by simp, HS6.out, V1.out, HF.out.more (by omega), v2, by omega, by omega, by simp; omega⟩
            | false =>
              have hbb := HBB.out
              rw [eq_comm, Bool.or_eq_false_iff, decide_eq_false_iff_not, decide_eq_false_iff_not] at hbb
              obtain ⟨hq2, hne⟩ := hbb
              have hne' : (1 : Int) ≤ (hs.length : Int) := by omega
              obtain ⟨gp, rfl⟩ := row_some HS.out.hrow (by omega)
              obtain ⟨gq, rfl⟩ := row_some HS.out.trow (by have := HTL.out; omega)
              go_wp2_with fail
              refine (pick_any _ _ _ hne' (by omega)).mono ?_
              rintro e w' ⟨rfl, rfl⟩
              obtain ⟨j, hjl, hje⟩ : ∃ j : Nat, j < hs.length ∧ Hid (pk (RowKit.wrap64 (z.tdiv 3)) hs.length = j) := by
                have h1 := pk_nonneg (RowKit.wrap64 (z.tdiv 3)) hs.length hne'
                have h2 := pk_lt (RowKit.wrap64 (z.tdiv 3)) hs.length hne'
                exact ⟨(pk (RowKit.wrap64 (z.tdiv 3)) hs.length).toNat, by omega, hid (by omega)⟩
              rw [hje.out]
              have hj1 : (0 : Int) ≤ (j : Int) := by omega
              have hj2 : (j : Int) < (hs.length : Int) := by omega
              have hjt : j < th.length := by have := HTL.out; omega
              have hj3 : (j : Int) < (th.length : Int) := by omega
              obtain ⟨y0, y1⟩ := pair_own HS.out.hrow hjl
              obtain ⟨hh1, hh2⟩ := HST.out.has hjl hjt
              have hcall := arenaTake_any wc a A1 c B d ss fr (1 + p) (liveS ss : Nat) hs[j].1 hs[j].2 HS.out.up.ar (by omega)
              have htk := fun (ht : th[j] = true) => HST.out.take_ hjl hjt ht (by omega)
              have htk2 := fun (ht : hasS ss hs[j].1 hs[j].2 = true) => HI.out.take_ (s := hs[j].1) (g := hs[j].2) ht
              obtain ⟨sj, E1⟩ : ∃ x, Hid (hs[j].1 = x) := ⟨_, hid rfl⟩
              obtain ⟨gj, E2⟩ : ∃ x, Hid (hs[j].2 = x) := ⟨_, hid rfl⟩
              obtain ⟨tj, E3⟩ : ∃ x, Hid (th[j] = x) := ⟨_, hid rfl⟩
              rw [E1.out] at y0 hh1 hh2 hcall htk htk2
              rw [E2.out] at y1 hh1 hcall htk2
              rw [E3.out] at hh1 hh2 htk
              have HTK := hid htk
              have HTK2 := hid htk2
              have HC := hid hcall
              have HH1 := hid hh1
              have HH2 := hid hh2
              clear htk htk2 hcall hh1 hh2 hne
              go_wp2_with fail
              refine HC.out.mono ?_
              rintro e w3 ⟨rfl, hT⟩
              cases tj with
              | true =>
                have e1 := HH1.out
                have e2 := HH2.out rfl
                rw [getS_yes e1, hasE_yes e1, e2, errV_zero]
                rcases hT with ⟨h, _⟩ | ⟨_, hT⟩
                · rw [e1] at h; cases h
                · obtain ⟨A2, c2, B2, d2', hS3, _⟩ := HS.out.arena hT
                  obtain ⟨u1, u2, u3⟩ := HTK2.out e1
                  have hw : RowKit.wrap64 ((liveS ss : Nat) - 1 : Int) = ((liveS (takeS ss sj) : Nat) : Int) := by unfold RowKit.wrap64; omega
                  rw [hw] at hS3
                  have ht0 := bool_own hS3.trow hjt
                  rw [E3.out] at ht0
                  have f0 := hS3.trow.frozen j
                  have HS3 := hid hS3
                  have U1 := hid u1
                  have U2 := hid u2
                  have U3 := hid u3
                  have HT3 := hid (HTK.out rfl)
                  have bj := bneF (show (j : Int) = (j : Int) from rfl)
                  clear hT hS3 u1 u2 u3 e1 e2 hw y0 y1
                  go_wp2_with fail
                  go_quiet (fail)
                  go_wp2_with fail
                  go_meet
                  have hle2 := U2.out
                  have hle3 := U3.out
                  exact hid ⟨A2, c2, B2, d2', _, pc, _, qc, takeS ss sj, fr ++ [sj], hs, th.set j false, rfl, by simp, StaleAt.unthere (HS3.out.keep (drewN_below (Below.refl _ _) _)) j, U1.out, HT3.out, by omega, by omega, by simp; omega, by omega⟩
              | false =>
                have e1 := HH1.out
                rw [getS_no e1, hasE_no e1, show errV 7 = .iface 22 (.int .i64 7) from rfl]
                rcases hT with ⟨_, hB3⟩ | ⟨h, _⟩
                · have hS3 := HS.out.keep hB3
                  have ht0 := bool_own hS3.trow hjt
                  rw [E3.out] at ht0
                  have f0 := hS3.trow.frozen j
                  have HS3 := hid hS3
                  clear hS3 e1 y0 y1
                  go_wp2_with fail
                  go_quiet (fail)
                  go_wp2_with fail
                  go_meet
                  have e5 : th.set j false = th := by rw [← E3.out, List.set_getElem_self]
                  exact hid ⟨A1, c, B, d, _, pc, _, qc, ss, fr, hs, th.set j false, rfl, by simp, StaleAt.unthere (HS3.out.keep (drewN_below (Below.refl _ _) _)) j, HI.out, by rw [e5]; exact HST.out.more (by omega), hlm, by omega, by omega, by omega⟩
                · rw [e1] at h; cases h
           case rest =>
            obtain ⟨A2, c2, B2, d2, P2, pc2, Q2, qc2, ss2, fr2, hs2, th2, rfl, rfl, hS2, hI2, hST2, hlm2, hsl2, hfl2, hhl2⟩ := hcut.out
            have HS2 := hid hS2
            have HI2 := hid hI2
            have HST2 := hid hST2
            have hll2 := liveS_le ss2
            have HTL2 := hid hST2.len
            clear hS2 hI2 hST2 HS HI HST HBE HTL x0 H0
            go_wp2_with fail
            go_loopg [16, 17] hs2.length (fun g s16 s17 wx => ∃ i : Nat, i ≤ hs2.length ∧ g = hs2.length - i ∧ s17 = .int .i64 i ∧ s16 = .int .i64 (((th2.take i).filter id).length : Nat) ∧ Hid (StaleAt w wx a A2 c2 B2 d2 P2 pc2 Q2 qc2 ss2 fr2 (1 + p) (liveS ss2 : Nat) hs2 th2))
            case atStart => exact ⟨0, Nat.zero_le _, rfl, rfl, rfl, HS2⟩
            case round =>
              clear HS2
              obtain ⟨i, hi, rfl, rfl, rfl, HS2⟩ := hrel
              by_cases hil : i < hs2.length
              · have hit : i < th2.length := by have := HTL2.out; omega
                obtain ⟨gp, rfl⟩ := row_some HS2.out.hrow (by omega)
                obtain ⟨gq, rfl⟩ := row_some HS2.out.trow (by have := HTL2.out; omega)
                obtain ⟨y0, y1⟩ := pair_own HS2.out.hrow hil
                obtain ⟨hh1, hh2⟩ := HST2.out.has hil hit
                have hcall := arenaGet_any wr a A2 c2 B2 d2 ss2 fr2 (1 + p) (liveS ss2 : Nat) hs2[i].1 hs2[i].2 HS2.out.up.ar
                have hfl : (th2.take (i + 1)).filter id = (th2.take i).filter id ++ (if th2[i] = true then [true] else []) := by
                  rw [List.take_succ_eq_append_getElem hit, List.filter_append]
                  cases th2[i] <;> simp
                obtain ⟨sj, E1⟩ : ∃ x, Hid (hs2[i].1 = x) := ⟨_, hid rfl⟩
                obtain ⟨gj, E2⟩ : ∃ x, Hid (hs2[i].2 = x) := ⟨_, hid rfl⟩
                obtain ⟨tj, E3⟩ : ∃ x, Hid (th2[i] = x) := ⟨_, hid rfl⟩
                rw [E1.out] at y0 hh1 hh2 hcall
                rw [E2.out] at y1 hh1 hcall
                rw [E3.out] at hh1 hh2 hfl
                have HC := hid hcall
                have HH1 := hid hh1
                have HH2 := hid hh2
                have HFL := hid hfl
                have hj1 : (0 : Int) ≤ (i : Int) := by omega
                have hj2 : (i : Int) < (hs2.length : Int) := by omega
                have hj3 : (i : Int) < (th2.length : Int) := by omega
                have hlen : ((th2.take i).filter id).length ≤ 200 := by
                  have h1 := List.length_filter_le id (th2.take i)
                  have h2 := List.length_take_le i th2
                  omega
                generalize hn : ((th2.take i).filter id).length = n at hlen
                have HN := hid hn
                clear hcall hh1 hh2 hfl hn
                go_wp2_with fail
                refine HC.out.mono ?_
                rintro e w3 ⟨rfl, hB3⟩
                have hS3 := HS2.out.keep hB3
                have ht0 := bool_own hS3.trow hit
                rw [E3.out] at ht0
                have HS3 := hid hS3
                clear hS3 y0 y1
                cases tj with
                | true =>
                  have e1 := HH1.out
                  have e2 := HH2.out rfl
                  rw [getS_yes e1, hasE_yes e1, e2, errV_zero]
                  have bj := bneF (show (i : Int) = (i : Int) from rfl)
                  clear e1 e2
                  go_wp2_with fail
                  go_quiet (fail)
                  go_wp2_with fail
                  go_roundg (hs2.length - (i + 1))
                  case measure => omega
                  case rel => exact ⟨i + 1, by omega, rfl, by go_num, by rw [HFL.out]; simp [HN.out], hid (HS3.out.keep (drewN_below (Below.refl _ _) _))⟩
                | false =>
                  have e1 := HH1.out
                  rw [getS_no e1, hasE_no e1, show errV 7 = .iface 22 (.int .i64 7) from rfl]
                  clear e1
                  go_wp2_with fail
                  go_quiet (fail)
                  go_wp2_with fail
                  go_roundg (hs2.length - (i + 1))
                  case measure => omega
                  case rel => exact ⟨i + 1, by omega, rfl, by go_num, by rw [HFL.out]; simp [HN.out], hid (HS3.out.keep (drewN_below (Below.refl _ _) _))⟩
              · obtain rfl : i = hs2.length := by omega
                have HCT : Hid (((th2.take hs2.length).filter id).length = liveS ss2) := hid (by rw [List.take_of_length_le (by rw [HTL2.out]; exact Nat.le_refl _)]; exact HST2.out.count.symm)
                rw [HCT.out]
                have bj := bneF (show ((liveS ss2 : Nat) : Int) = ((liveS ss2 : Nat) : Int) from rfl)
                go_wp2_with fail
                refine (arenaMany_any _ a A2 c2 B2 d2 ss2 fr2 (1 + p) (liveS ss2 : Nat) HS2.out.up.ar).mono ?_
                rintro e w3 ⟨rfl, rfl⟩
                go_wp2_with fail
                go_roundg (len - (k + 1))
                case measure => omega
                case rel => exact ⟨k + 1, by omega, rfl, by go_num, hid ⟨A2, c2, B2, d2, P2, pc2, Q2, qc2, ss2, fr2, hs2, th2, rfl, rfl, HS2.out, HI2.out, HST2.out, hlm2, hsl2, hfl2, hhl2⟩⟩
        · obtain rfl : k = len := by omega
          have hltz : ¬ (k : Int) < (k : Int) := by omega
          go_wp2
          go_ret
          exact ⟨rfl, HBE.out⟩
end Go.Proofs.YtakbedckjaammaaDoor
