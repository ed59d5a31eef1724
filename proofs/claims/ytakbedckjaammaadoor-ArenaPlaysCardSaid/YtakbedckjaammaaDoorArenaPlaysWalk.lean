/-
  The walk of openbelllaw.ArenaPlays: it returns true, whatever the input.
-/
import Derived.WalkKit
import Derived.WalkLawsBesides
import Derived.WalkSpells
import Derived.Deep.QuietTactic
import Derived.BigQuiet
import Derived.Deep.LoopGhost
import Derived.Deep.DeepCutAuto
import Derived.Deep.CutBlock
import Derived.Test.YtakbedckjaammaaDoorBoth
import Derived.Test.YtakbedckjaammaaDoorRPut
import Derived.Test.YtakbedckjaammaaDoorQuads
import Derived.Test.YtakbedckjaammaaDoorIs
namespace Go.Proofs.YtakbedckjaammaaDoor
open Go.RowKit

theorem errIs_errV (w : World) (e : Int) : ErrIs w (errV e) e (-1) := by
  unfold errV
  by_cases h : e = 0
  · rw [if_pos h]; exact .inl ⟨rfl, h, rfl⟩
  · rw [if_neg h]; exact .inr (.inl ⟨rfl, rfl⟩)

theorem thing_nonneg (q : Int) : 0 ≤ RowKit.wrap64 ((IntKind.u64.wrap q).tmod 1000) := by
  have h1 : 0 ≤ IntKind.u64.wrap q := by
    rw [IntKind.wrap_u64]
    exact Int.emod_nonneg _ (by decide)
  have h2 : 0 ≤ (IntKind.u64.wrap q).tmod 1000 := Int.tmod_nonneg _ h1
  have h3 : (IntKind.u64.wrap q).tmod 1000 < 1000 := Int.tmod_lt_of_pos _ (by decide)
  unfold RowKit.wrap64
  omega
theorem rset {w : World} {r c e d k : Nat} {T G F : Option Addr} {ss : List SlotT} {fr : List Int} {most : Int} (H : RefAt w r T c G e F d ss fr most) (hk : k < ss.length) (hf : ss[k].2.2 = true) (x : Int) :
    ∀ t, T = some ⟨t, 0, none⟩ → RefTo w (w.setCell ⟨t, k, none⟩ (.int .i64 x)) r T G F (setS ss (k : Int) x) fr most := by
  rintro t rfl
  have k1 := Keeps.set_ w ⟨t, k, none⟩ (.int .i64 x)
  have u1 : t ≠ r := fun e => H.nt (by rw [← e]; rfl)
  have ht := H.things.set k (.int .i64 x)
  have e1 : (intCells (thingsOf ss)).set k (.int .i64 x) = intCells (thingsOf (ss.set k (x, ss[k].2.1, ss[k].2.2))) := by simp [intCells, thingsOf, List.map_set, hf]
  have e2 : intCells (agesOf ss) = intCells (agesOf (ss.set k (x, ss[k].2.1, ss[k].2.2))) := by
    have e3 : (agesOf ss)[k]'(by simpa [agesOf] using hk) = ss[k].2.1 := by simp [agesOf]
    have e4 : agesOf (ss.set k (x, ss[k].2.1, ss[k].2.2)) = (agesOf ss).set k ss[k].2.1 := by simp [agesOf, List.map_set]
    rw [e4, ← e3, List.set_getElem_self]
  rw [e1] at ht
  have hg := H.ages.keeps k1 (fun y hy e => H.ntg t rfl (by rw [hy, e]))
  rw [e2] at hg
  rw [setS_at x hk]
  refine ⟨_, c, _, e, _, d, ⟨?_, ?_, ?_, H.free.keeps k1 (fun y hy e => H.ntf t rfl (by rw [hy, e])), H.nt, H.ng, H.nf, H.ntg, H.ntf, H.ngf⟩, k1.mono (fun i h => .inr (.inl (by rw [h]; rfl))), fun i hi => .inl hi⟩
  · rw [List.length_set]; exact Blk.keeps H.blk k1 (fun e => u1 e.symm)
  · rw [List.length_set]; exact ht
  · rw [List.length_set]; exact hg

/-- where a round begins -/
def AtRound (w0 w : World) (a r : Nat) (most : Int) (k n : Nat) : Prop :=
  ∃ A c B d T tc G gc F fc ss fr, Both w0 w a A c B d r T tc G gc F fc ss fr most (liveS ss : Nat) ss fr ∧ SlotInv ss fr ∧ (liveS ss : Nat) ≤ most ∧ ss.length ≤ k ∧ fr.length ≤ k ∧ n = liveS ss

theorem fpA_none {a i : Nat} (h : FpA a none none i) : i = a := by
  rcases h with h | h | h
  · exact h
  · simp [blkOf] at h
  · simp [blkOf] at h
theorem fpR_none {r i : Nat} (h : FpR r none none none i) : i = r := by
  rcases h with h | h | h | h
  · exact h
  · simp [blkOf] at h
  · simp [blkOf] at h
  · simp [blkOf] at h
theorem atRound_start {w w1 : World} {a : Nat} {most : Int} (hm : 1 ≤ most) (hB : Below w.heap.size w w1) (ha : w.heap.size ≤ a) (h : ArenaAt w1 a none 0 none 0 [] [] most 0) :
    AtRound w (w1.alloc (.cells #[.slice none 0 0, .slice none 0 0, .slice none 0 0, .int .i64 most] 81)) a w1.heap.size most 0 0 := by
  have hsz := hB.size
  have hal := Blk.lt h.blk
  refine ⟨none, 0, none, 0, none, 0, none, 0, none, 0, [], [], ⟨h.below ((Below.refl _ w1).alloc (Nat.le_refl _) _), ⟨Blk.new _ _ _, World.ownsRow_nil _ _ _ _, World.ownsRow_nil _ _ _ _, World.ownsRow_nil _ _ _ _, by simp [blkOf], by simp [blkOf], by simp [blkOf], by simp [blkOf], by simp [blkOf], by simp [blkOf]⟩, ?_, ?_, ?_, hB.alloc hsz _⟩, SlotInv.empty, by simp [liveS]; omega, by simp, by simp, by simp [liveS]⟩
  · intro i hi hr
    have h1 := fpA_none hi
    have h2 := fpR_none hr
    omega
  · intro i hi
    have h1 := fpA_none hi
    omega
  · intro i hi
    have h1 := fpR_none hi
    omega

set_option maxRecDepth 100000 in
set_option maxHeartbeats 4000000 in
theorem arenaPlays_any (most : Int) (A : Option Addr) (len cap : Nat) (qs : List Quad) (w : World) (h : Quads w A len qs) (hm : len ≤ 9223372036854775807) (hE : ErrType w) :
    Calls Tryd.prog 7 #[.int .i64 most, .slice A len cap] w fun e w' => e = .returned (.bool true) ∧ Below w.heap.size w w' := by
  by_cases h60 : 150 < len
  · have d60 : decide (150 < (len : Int)) = true := decT (by omega)
    go_enter Tryd.func7, Tryd.ntmps7
    go_wp2
    go_ret
    exact ⟨rfl, Below.refl _ _⟩
  · have d60 : decide (150 < (len : Int)) = false := decF (by omega)
    go_enter Tryd.func7, Tryd.ntmps7
    go_wp2_with fail
    refine (arenaNew_any most w).mono ?_
    rintro e w1 ⟨hB1, ⟨hb, rfl⟩ | ⟨⟨hm1, hm2⟩, a, ha, rfl, hA⟩⟩
    · by_cases hl : most < 1
      · have d1 := decT hl
        clear hb hl
        go_wp2_with fail
        refine (bare_any _ 2 (-1) _ _ (hE.below hB1 (Nat.le_refl _)) (.inr (.inl ⟨rfl, rfl⟩))).mono ?_
        rintro e w4 ⟨rfl, hB4⟩
        go_wp2
        go_ret
        exact ⟨rfl, hB1.trans (hB4.mono hB1.size)⟩
      · have d1 := decF hl
        have d2 : decide (1000 < most) = true := decT (by omega)
        clear hb hl
        go_wp2_with fail
        refine (bare_any _ 2 (-1) _ _ (hE.below hB1 (Nat.le_refl _)) (.inr (.inl ⟨rfl, rfl⟩))).mono ?_
        rintro e w4 ⟨rfl, hB4⟩
        go_wp2
        go_ret
        exact ⟨rfl, hB1.trans (hB4.mono hB1.size)⟩
    · have d1 : decide (most < 1) = false := decF (by omega)
      have d2 : decide (1000 < most) = false := decF (by omega)
      have HS := hid (atRound_start hm1 hB1 ha hA)
      clear hA
      have hsz := hB1.size
      go_wp2
      go_loopg [8, 9] len (fun g s8 s9 wx => ∃ k n : Nat, k ≤ len ∧ g = len - k ∧ s9 = .int .i64 k ∧ s8 = .int .i64 n ∧ AtRound w wx a w1.heap.size most k n)
      case atStart => exact ⟨0, 0, Nat.zero_le _, rfl, rfl, rfl, HS.out⟩
      case round =>
        obtain ⟨k, n, hk, rfl, rfl, rfl, A1, c1, B1, dd, T, tc, G, gc, F, fc, ss, fr, hBo, hI, hlm, hsl, hfl, rfl⟩ := hrel
        clear HS
        by_cases hkl : k < len
        · have e1 : decide ((k : Int) < (len : Int)) = true := decT (by omega)
          obtain ⟨b, off, rfl, hblt, hq⟩ := h.2 (by omega)
          clear hq
          obtain ⟨x0, x1, x2, x3⟩ := (h.below hBo.below (Nat.le_refl _)).at_ hkl
          generalize (qs.getD k (0, 0, 0, 0)).1 = q0 at x0
          generalize (qs.getD k (0, 0, 0, 0)).2.1 = q1 at x1
          generalize (qs.getD k (0, 0, 0, 0)).2.2.1 = q2 at x2
          generalize (qs.getD k (0, 0, 0, 0)).2.2.2 = q3 at x3
          have hsr := hBo.below.size
          have hX : Blk ((wr.alloc (.cells #[.int .i64 q0, .int .i64 q1, .int .i64 q2, .int .i64 q3] 83)).alloc (.cells #[.int .i64 q1, .int .i64 q2] 42)) wr.heap.size 83 #[.int .i64 q0, .int .i64 q1, .int .i64 q2, .int .i64 q3] := Blk.alloc (Blk.new _ _ _) _
          have hH : Blk ((wr.alloc (.cells #[.int .i64 q0, .int .i64 q1, .int .i64 q2, .int .i64 q3] 83)).alloc (.cells #[.int .i64 q1, .int .i64 q2] 42)) (wr.heap.size + 1) 42 #[.int .i64 q1, .int .i64 q2] := heap_alloc2_new wr _ _
          have hB2 := hBo.keep (((Below.refl _ wr).alloc (Nat.le_refl _) (.cells #[.int .i64 q0, .int .i64 q1, .int .i64 q2, .int .i64 q3] 83)).alloc (by simp) (.cells #[.int .i64 q1, .int .i64 q2] 42))
          have HfpR := hid (fun i (hi : FpR w1.heap.size T G F i) => hBo.rf.fp hi)
          have HB2 := hid hB2
          have HX := hid hX
          have HH := hid hH
          have HI := hid hI
          clear hBo hB2 hX hH hI h
          go_wp2_with fail
          refine (rhas_any _ w1.heap.size T tc G gc F fc ss fr most q1 q2 HB2.out.rf HI.out.things (by omega)).mono ?_
          rintro e w' ⟨rfl, rfl⟩
          go_upto_if 75 with fail
          go_cut [12, 13, 14] (fun s12 s13 s14 wx => s12 = .int .i64 (hasE ss q1 q2) ∧ s13 = .int .i64 (getS ss q1 q2) ∧ s14 = .bool (hasS ss q1 q2) ∧ Both w wx a A1 c1 B1 dd w1.heap.size T tc G gc F fc ss fr most (liveS ss : Nat) ss fr ∧ Blk wx wr.heap.size 83 #[.int .i64 q0, .int .i64 q1, .int .i64 q2, .int .i64 q3] ∧ Blk wx (wr.heap.size + 1) 42 #[.int .i64 q1, .int .i64 q2])
          case first =>
            cases hf : hasS ss q1 q2
            · have Hf := hid hf
              clear hf
              go_wp2_with fail
              go_meet
              exact ⟨by rw [hasE_no Hf.out], by rw [getS_no Hf.out], by rw [Hf.out], HB2.out, HX.out, HH.out⟩
            · have Hf := hid hf
              obtain ⟨k', rfl, hk', hfull⟩ := has_slot hf
              obtain ⟨t, g', rfl, rfl, y0, y1⟩ := HB2.out.rf.slot hk'
              rw [hfull] at y0
              simp only [if_true] at y0
              have TH := hid (theS_at hk')
              have j1 : (0 : Int) ≤ (k' : Int) := by omega
              have j2 : (k' : Int) < (ss.length : Int) := by omega
              obtain ⟨p0, _, _, _⟩ := HB2.out.rf.cells
              generalize ss[k'].1 = y at y0 TH
              clear hf hfull y1
              go_wp2_with fail
              go_quiet (fail)
              go_wp2_with fail
              go_meet
              exact ⟨by rw [hasE_yes Hf.out], by rw [getS_yes Hf.out, TH.out], by rw [Hf.out], HB2.out.keep (drewN_below (Below.refl _ _) _), Blk.drewN HX.out _, Blk.drewN HH.out _⟩
          case rest =>
            obtain ⟨rfl, rfl, rfl, hB3, hX3, hH3⟩ := hcut
            have xc0 : wc.cell? ⟨wr.heap.size, 0, none⟩ = some (.int .i64 q0) := by rw [Blk.cell hX3]; rfl
            have xc1 : wc.cell? ⟨wr.heap.size, 1, none⟩ = some (.int .i64 q1) := by rw [Blk.cell hX3]; rfl
            have xc3 : wc.cell? ⟨wr.heap.size, 3, none⟩ = some (.int .i64 q3) := by rw [Blk.cell hX3]; rfl
            have hc0 : wc.cell? ⟨wr.heap.size + 1, 0, none⟩ = some (.int .i64 q1) := by rw [Blk.cell hH3]; rfl
            have hc1 : wc.cell? ⟨wr.heap.size + 1, 1, none⟩ = some (.int .i64 q2) := by rw [Blk.cell hH3]; rfl
            have HB3 := hid hB3
            have HX3 := hid hX3
            have HH3 := hid hH3
            clear HB2 HX HH hB3 hX3 hH3
            go_upto_block 2 with fail
            have hth := thing_nonneg q3
            generalize RowKit.wrap64 ((IntKind.u64.wrap q3).tmod 1000) = th at hth ⊢
            go_cut [8, 14, 16, 17, 18, 19, 20, 21, 22, 23, 24] (fun s8 s14 s16 s17 s18 s19 s20 s21 s22 s23 s24 wx => ∃ n : Nat, s8 = .int .i64 n ∧ AtRound w wx a w1.heap.size most (k + 1) n)
            case first =>
              by_cases z1 : q0 = 1
              · have t0 := beqF (show ¬ q0 = 0 by omega)
                have t1 := beqT z1
                clear z1
                go_wp2_with fail
                refine (arenaGet_any wc a A1 c1 B1 dd ss fr most _ q1 q2 HB3.out.ar).mono ?_
                rintro e w2 ⟨rfl, hB2⟩
                go_wp2_with fail
                refine (bare_any _ (hasE ss q1 q2) (-1) _ _ (hE.below (HB3.out.keep hB2).below (Nat.le_refl _)) (errIs_errV _ _)).mono ?_
                rintro e w4 ⟨rfl, hB4⟩
                rw [show ((hasE ss q1 q2 == hasE ss q1 q2) && ((-1 : Int) == -1)) = true by simp]
                go_wp2_with fail
                go_meet
                exact ⟨_, rfl, _, _, _, _, _, _, _, _, _, _, _, _, (HB3.out.keep hB2).keep hB4, HI.out, hlm, by omega, by omega, rfl⟩
              · by_cases z0 : q0 = 0
                · have t0 := beqT z0
                  clear z0 z1
                  go_wp2_with fail
                  refine (rput_any wc w1.heap.size T tc G gc F fc ss fr most th HB3.out.rf HI.out hth (by omega) (by omega)).mono ?_
                  rintro e w2 ⟨rfl, hT⟩
                  obtain ⟨T2, tc2, G2, gc2, F2, fc2, hB5, _⟩ := HB3.out.ref hT
                  clear hT
                  go_wp2_with fail
                  refine (arenaPut_any w2 a A1 c1 B1 dd ss fr most th hB5.ar HI.out hth hlm (by omega) (by omega)).mono ?_
                  rintro e w3 ⟨rfl, hT⟩
                  obtain ⟨A2, c2, B2, d3, hB6, _⟩ := hB5.arena hT
                  obtain ⟨v1, v2, v3, v4, v5⟩ := putR_inv HI.out hth hlm
                  clear hT hB5
                  generalize putR ss fr most th = P at v1 v2 v3 v4 v5 hB6 ⊢
                  obtain ⟨ss', fr', sl, ag, er⟩ := P
                  dsimp only at v1 v2 v3 v4 v5 hB6 ⊢
                  have hll := liveS_le ss
                  have HB6 := hid hB6
                  have HB7 := hid (hB6.keep ((Below.refl _ w3).alloc (Nat.le_refl _) (.cells #[.int .i64 sl, .int .i64 ag] 42)))
                  have hv := hid v1
                  clear hB6 v1
                  rcases v5 with ⟨rfl, hl⟩ | ⟨rfl, hl⟩
                  · have Hl := hid hl
                    clear hl
                    go_wp2_with fail
                    refine (bare_any _ 12 (-1) _ _ (hE.below HB7.out.below (Nat.le_refl _)) (errIs_errV _ _)).mono ?_
                    rintro e w4 ⟨rfl, hB4⟩
                    rw [show (((12 : Int) == 12) && ((-1 : Int) == -1)) = true from rfl]
                    have hh0 : w4.cell? ⟨w3.heap.size, 0, none⟩ = some (.int .i64 sl) := (hB4.cell (p := ⟨w3.heap.size, 0, none⟩) (by simp)).trans (by simp)
                    have hh1 : w4.cell? ⟨w3.heap.size, 1, none⟩ = some (.int .i64 ag) := (hB4.cell (p := ⟨w3.heap.size, 1, none⟩) (by simp)).trans (by simp)
                    go_wp2_with fail
                    go_meet
                    exact ⟨_, rfl, _, _, _, _, _, _, _, _, _, _, _, _, HB7.out.keep hB4, hv.out, v2, by omega, by omega, Hl.out.symm⟩
                  · have Hl := hid hl
                    clear hl
                    go_wp2_with fail
                    refine (bare_any _ 0 (-1) _ _ (hE.below HB7.out.below (Nat.le_refl _)) (errIs_errV _ _)).mono ?_
                    rintro e w4 ⟨rfl, hB4⟩
                    rw [show (((0 : Int) == 0) && ((-1 : Int) == -1)) = true from rfl]
                    have hh0 : w4.cell? ⟨w3.heap.size, 0, none⟩ = some (.int .i64 sl) := (hB4.cell (p := ⟨w3.heap.size, 0, none⟩) (by simp)).trans (by simp)
                    have hh1 : w4.cell? ⟨w3.heap.size, 1, none⟩ = some (.int .i64 ag) := (hB4.cell (p := ⟨w3.heap.size, 1, none⟩) (by simp)).trans (by simp)
                    go_wp2_with fail
                    go_meet
                    exact ⟨liveS ss + 1, by go_num, _, _, _, _, _, _, _, _, _, _, _, _, HB7.out.keep hB4, hv.out, v2, by omega, by omega, Hl.out.symm⟩
                · have n0 := beqF z0
                  have n1 := beqF z1
                  by_cases z2 : q0 = 2
                  · have t0 := beqT z2
                    clear z0 z1 z2
                    cases hf : hasS ss q1 q2
                    · have Hf := hid hf
                      clear hf
                      go_wp2_with fail
                      refine (arenaSet_any wc a A1 c1 B1 dd ss fr most _ q1 q2 th HB3.out.ar).mono ?_
                      rintro e w2 ⟨rfl, hT⟩
                      rw [setTo_no Hf.out] at hT
                      obtain ⟨A2, c2, B2, d3, hB6, _⟩ := HB3.out.arena hT
                      clear hT
                      have HB6 := hid hB6
                      clear hB6
                      go_wp2_with fail
                      refine (bare_any _ (hasE ss q1 q2) (-1) _ _ (hE.below HB6.out.below (Nat.le_refl _)) (errIs_errV _ _)).mono ?_
                      rintro e w4 ⟨rfl, hB4⟩
                      rw [show ((hasE ss q1 q2 == hasE ss q1 q2) && ((-1 : Int) == -1)) = true by simp]
                      go_wp2_with fail
                      go_meet
                      exact ⟨_, rfl, _, _, _, _, _, _, _, _, _, _, _, _, HB6.out.keep hB4, HI.out, hlm, by omega, by omega, rfl⟩
                    · have Hf := hid hf
                      obtain ⟨k', rfl, hk', hfull⟩ := has_slot hf
                      have hset := rset HB3.out.rf hk' hfull th
                      obtain ⟨t, g', rfl, rfl, y0, y1⟩ := HB3.out.rf.slot hk'
                      have ff := HB3.out.rf.things.frozen k'
                      have j1 : (0 : Int) ≤ (k' : Int) := by omega
                      have j2 : (k' : Int) < (ss.length : Int) := by omega
                      obtain ⟨p0, _, _, _⟩ := HB3.out.rf.cells
                      generalize (if ss[k'].2.2 = true then ss[k'].1 else -1) = y at y0
                      have HSet := hid (hset t rfl)
                      have u1 : t ≠ wr.heap.size + 1 := by
                        have h1 : t < wr.heap.size := HfpR.out t (.inr (.inl rfl))
                        omega
                      clear hf hfull y1 hset
                      go_wp2_with fail
                      go_region
                      go_wp2_with fail
                      obtain ⟨T2, tc2, G2, gc2, F2, fc2, hB5, _⟩ := HB3.out.ref HSet.out
                      replace hB5 := hB5.keep ((Below.refl _ _).drew)
                      refine (arenaSet_any _ a A1 c1 B1 dd ss fr most _ k' q2 th hB5.ar).mono ?_
                      rintro e w2 ⟨rfl, hT⟩
                      rw [setTo_yes Hf.out] at hT
                      obtain ⟨A2, c2, B2, d3, hB6, _⟩ := hB5.arena hT
                      obtain ⟨v1, v2, v3⟩ := HI.out.set_ Hf.out hth
                      have HB6 := hid hB6
                      have V1 := hid v1
                      have V2 := hid v2
                      have V3 := hid v3
                      clear hT hB5 hB6 v1 v2 v3
                      go_wp2_with fail
                      refine (bare_any _ (hasE ss k' q2) (-1) _ _ (hE.below HB6.out.below (Nat.le_refl _)) (errIs_errV _ _)).mono ?_
                      rintro e w4 ⟨rfl, hB4⟩
                      rw [show ((hasE ss (k' : Int) q2 == hasE ss (k' : Int) q2) && ((-1 : Int) == -1)) = true by simp]
                      go_wp2_with fail
                      go_meet
                      exact ⟨_, rfl, A2, c2, B2, d3, T2, tc2, G2, gc2, F2, fc2, setS ss k' th, fr, by rw [V2.out]; exact HB6.out.keep hB4, V1.out, by rw [V2.out]; exact hlm, by rw [V3.out]; omega, by omega, V2.out.symm⟩
                  · have n2 := beqF z2
                    by_cases z3 : q0 = 3
                    · have t0 := beqT z3
                      clear z0 z1 z2 z3
                      cases hf : hasS ss q1 q2
                      · have Hf := hid hf
                        clear hf
                        go_wp2_with fail
                        refine (arenaTake_any wc a A1 c1 B1 dd ss fr most _ q1 q2 HB3.out.ar (by omega)).mono ?_
                        rintro e w2 ⟨rfl, ⟨_, hB2⟩ | ⟨hn, _⟩⟩
                        · have HB6 := hid (HB3.out.keep hB2)
                          go_wp2_with fail
                          refine (bare_any _ (hasE ss q1 q2) (-1) _ _ (hE.below HB6.out.below (Nat.le_refl _)) (errIs_errV _ _)).mono ?_
                          rintro e w4 ⟨rfl, hB4⟩
                          rw [show ((hasE ss q1 q2 == hasE ss q1 q2) && ((-1 : Int) == -1)) = true by simp]
                          go_wp2_with fail
                          go_meet
                          exact ⟨_, rfl, _, _, _, _, _, _, _, _, _, _, _, _, HB6.out.keep hB4, HI.out, hlm, by omega, by omega, rfl⟩
                        · rw [Hf.out] at hn
                          cases hn
                      · have Hf := hid hf
                        obtain ⟨k', rfl, hk', hfull⟩ := has_slot hf
                        have hll := liveS_le ss
                        have HXN : ¬ FpR w1.heap.size T G F (wr.heap.size + 1) := fun hi => by
                          have h1 := HfpR.out _ hi
                          omega
                        clear hf hfull
                        go_wp2_with fail
                        refine (rfree_any wc w1.heap.size T tc G gc F fc ss fr most k' HB3.out.rf hk' (by omega)).mono ?_
                        rintro e w2 ⟨⟨x, rfl⟩, hT⟩
                        obtain ⟨T2, tc2, G2, gc2, F2, fc2, hB5, hK5⟩ := HB3.out.ref hT
                        have hbox := Blk.keeps HH3.out hK5 HXN
                        have hd0 : w2.cell? ⟨wr.heap.size + 1, 0, none⟩ = some (.int .i64 (k' : Int)) := by rw [Blk.cell hbox]; rfl
                        have hd1 : w2.cell? ⟨wr.heap.size + 1, 1, none⟩ = some (.int .i64 q2) := by rw [Blk.cell hbox]; rfl
                        have HB5 := hid hB5
                        clear hT hB5 hK5 hbox HXN
                        go_wp2_with fail
                        refine (arenaTake_any w2 a A1 c1 B1 dd ss fr most _ k' q2 HB5.out.ar (by omega)).mono ?_
                        rintro e w3 ⟨rfl, ⟨hn, _⟩ | ⟨_, hT⟩⟩
                        · rw [Hf.out] at hn
                          cases hn
                        · obtain ⟨A2, c2, B2, d3, hB6, _⟩ := HB5.out.arena hT
                          obtain ⟨v1, v2, v3⟩ := HI.out.take_ Hf.out
                          have hw : RowKit.wrap64 ((liveS ss : Nat) - 1 : Int) = ((liveS (takeS ss k') : Nat) : Int) := by unfold RowKit.wrap64; omega
                          have Hw := hid hw
                          have HB6 := hid hB6
                          have V1 := hid v1
                          have V2 := hid v2
                          have V3 := hid v3
                          clear hT hB6 v1 v2 v3 hw
                          go_wp2_with fail
                          refine (bare_any _ (hasE ss k' q2) (-1) _ _ (hE.below HB6.out.below (Nat.le_refl _)) (errIs_errV _ _)).mono ?_
                          rintro e w4 ⟨rfl, hB4⟩
                          rw [show ((hasE ss (k' : Int) q2 == hasE ss (k' : Int) q2) && ((-1 : Int) == -1)) = true by simp]
                          go_wp2_with fail
                          go_meet
                          exact ⟨liveS (takeS ss k'), congrArg (Value.int .i64) (by have := V2.out; omega), A2, c2, B2, d3, T2, tc2, G2, gc2, F2, fc2, takeS ss k', fr ++ [(k' : Int)], by rw [← Hw.out]; exact HB6.out.keep hB4, V1.out, by have := V2.out; omega, by rw [V3.out]; omega, by rw [List.length_append]; simp; omega, rfl⟩
                    · have n3 := beqF z3
                      clear z0 z1 z2 z3
                      go_wp2_with fail
                      go_meet
                      exact ⟨_, rfl, _, _, _, _, _, _, _, _, _, _, _, _, HB3.out, HI.out, hlm, by omega, by omega, rfl⟩
            case rest =>
              obtain ⟨n, rfl, A2, c2, B2, d2', T2, tc2, G2, gc2, F2, fc2, ss2, fr2, hBo, hI2, hlm2, hsl2, hfl2, rfl⟩ := hcut
              have HBo := hid hBo
              have HI2 := hid hI2
              clear hBo hI2 xc0 xc1 xc3 hc0 hc1
              go_wp2_with fail
              refine (arenaMany_any _ a A2 c2 B2 d2' ss2 fr2 most _ HBo.out.ar).mono ?_
              rintro e w' ⟨rfl, rfl⟩
              go_wp2_with fail
              go_roundg (len - (k + 1))
              case measure => omega
              case rel => exact ⟨k + 1, _, by omega, rfl, by go_num, rfl, _, _, _, _, _, _, _, _, _, _, _, _, HBo.out, HI2.out, hlm2, hsl2, hfl2, rfl⟩
        · obtain rfl : k = len := by omega
          have hBb := hBo.below
          go_wp2
          go_ret
          exact ⟨rfl, hBb⟩
end Go.Proofs.YtakbedckjaammaaDoor
