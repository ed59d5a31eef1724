/-
  The walk of openbellkeep.CrossFair: it returns true, whatever the input.
-/
import Derived.WalkKit
import Derived.WalkLawsBesides
import Derived.WalkSpells
import Derived.Deep.QuietTactic
import Derived.BigQuiet
import Derived.Deep.LoopGhost
import Derived.Deep.DeepCutAuto
import Derived.Deep.CutBlock
import Derived.Test.YteggaehelnmhnaaFairRun
import Derived.Test.YteggaehelnmhnaaCrossed
import Derived.Test.YteggaehelnmhnaaBestPlain
import Derived.Test.YteggaehelnmhnaaSortedKeys
import Derived.Test.YteggaehelnmhnaaHeldT
namespace Go.Proofs.Yteggaehelnmhnaa
open Go.RowKit
set_option linter.unusedVariables false

theorem numOk_some (l : List Ord5) : NumOk (someL l) := by
  refine ⟨fun i h => ?_, someL_ok l, someL_price l, someL_len l⟩
  have e : (someL l)[i]? = ((l.take 60).mapIdx someO)[i]? := rfl
  rw [List.getElem?_mapIdx, List.getElem?_eq_getElem h] at e
  cases hl : (l.take 60)[i]? with
  | none => rw [hl] at e; cases e
  | some o =>
    rw [hl] at e
    have e2 : (someL l)[i] = someO i o := Option.some.inj e
    rw [e2]
    rfl

theorem fint_info : (Try.prog.info? 3).map (fun i => (i.zero, i.size, i.bytes)) = some (some (.int .i64 0), 1, 8) := by kernel_rfl
theorem made_zero (n : Nat) : (madeCells (Value.int .i64 0).cells ((n + 1) * 1)).toList = flat encN (trL n (lotsOf [])) := by
  have e : (Value.int .i64 0).cells = #[Value.int .i64 0] := rfl
  rw [e, toList_madeCells_one, Nat.mul_one]
  have h0 : lotsOf [] = fun _ => 0 := by funext i; rfl
  rw [h0]
  have h1 : trL n (fun _ => 0) = List.replicate (n + 1) 0 := by
    unfold trL
    rw [List.map_const']
    simp
  rw [h1]
  have h2 : ∀ m : Nat, flat encN (List.replicate m 0) = List.replicate m (Value.int .i64 0) := by
    intro m
    induction m with
    | zero => rfl
    | succ m ih => rw [List.replicate_succ, flat_cons, ih]; rfl
  rw [h2]

set_option maxRecDepth 100000 in
set_option maxHeartbeats 16000000 in
theorem crossFair_any (hadd : AddSaid) (hcut : CutSaid) (A : Option Addr) (len cap : Nat) (l : List Ord5) (around : Int) (w : World) (h : ElemsAt w encO 5 A len l) (hm : len ≤ 9223372036854775807) :
    Calls Try.prog 3 #[.slice A len cap, .int .i64 around] w fun e w' => e = .returned (.bool true) ∧ Below w.heap.size w w' := by
  have HH := hid h
  have HADD := hid hadd
  have HCUT := hid hcut
  clear h hadd hcut
  go_enter Try.func3, Try.ntmps3
  go_wp2_with fail
  refine (crossed_any HADD.out HCUT.out _).mono ?_
  rintro e w1 ⟨rfl, hB1⟩
  have HC2 := hid (some_any A len cap l w1 (HH.out.below hB1 (Nat.le_refl _)) hm)
  go_wp2_with fail
  refine HC2.out.mono ?_
  rintro e w2 ⟨hB2, A2, c2, rfl, hR2⟩
  have hs1 := hB1.size
  have HB2 := hid (hB1.trans (hB2.mono hs1))
  have HE2 := hid (ElemsAt.of_row encO_length (by omega) hR2)
  have HR2 := hid hR2
  clear hB1 hB2 hR2 HC2 hs1 HH
  go_wp2_with fail
  refine (pick_any _ 70 _ (by omega) (by omega)).mono ?_
  rintro e w3 ⟨rfl, rfl⟩
  have hp0 := pk_nonneg around 70 (by omega)
  have hp1 := pk_lt around 70 (by omega)
  obtain ⟨pa, EP⟩ : ∃ x, Hid (pk around 70 = x) := ⟨_, hid rfl⟩
  rw [EP.out] at hp0 hp1 ⊢
  have HNO := hid (numOk_some l)
  obtain ⟨x, EX⟩ : ∃ x, Hid (someL l = x) := ⟨_, hid rfl⟩
  rw [EX.out] at HE2 HR2 HNO ⊢
  have hxfit : ∀ o ∈ x, FitO o := by have := someL_fit l; rwa [EX.out] at this
  have hxl := HNO.out.len
  have hxok : AllOk x := HNO.out.ok
  have hnear := points_near (l := x) (more := 1 + pa) hxl HNO.out.price (by omega)
  have hcl := curveP_len x (1 + pa)
  obtain ⟨hbest, hqty⟩ := best_spec (l := x) (more := 1 + pa) hxok (by omega) (1 + pa)
  have HC3 := hid (of_any keys_said sorted_said A2 x.length c2 x (1 + pa) w2 HE2.out hxfit (by unfold Fit64; omega) (by omega))
  have HC4 := hid (fun (W : World) (A : Option Addr) (c : Nat) (hR : RowAt W A (curveP x (1 + pa)).length c 52 3 (flat encT (curveP x (1 + pa)))) => choose_any A _ c (1 + pa) (by omega) (curveP x (1 + pa)) W (ElemsAt.of_row encT_length (by omega) hR) hnear (by omega))
  obtain ⟨t0, t1, t2, ET⟩ : ∃ t0 t1 t2, Hid (chooseP (curveP x (1 + pa)) (1 + pa) = (t0, t1, t2)) := ⟨_, _, _, hid rfl⟩
  rw [ET.out] at hbest hqty
  dsimp only at hbest hqty
  have ht0 : 0 ≤ t1 := by
    have h1 := hbest 0
    have h2 := (demL_bound (p := 0) hxok).1
    have h3 := (supL_bound (p := 0) hxok).1
    omega
  have HBEST := hid hbest
  have HQTY := hid hqty
  have HFit := hid hxfit
  clear hxfit hxok hnear hcl hbest hqty
  go_wp2_with fail
  refine HC3.out.mono ?_
  rintro e w4 ⟨hB4, A4, c4, rfl, hR4⟩
  have hC4 := HC4.out w4 A4 c4 hR4
  rw [ET.out] at hC4
  unfold aggT at hC4
  dsimp only at hC4
  have HC6 := hid hC4
  have HB4 := hid hB4
  clear hC4 hB4 hR4 HC3 HC4
  go_wp2_with fail
  refine HC6.out.mono ?_
  rintro e w5 ⟨rfl, hB5⟩
  have hbl := Blk.new w5 27 #[.int .i64 t0, .int .i64 t1, .int .i64 t2]
  have hs4 := HB4.out.size
  have hB25 := (HB4.out.trans (hB5.mono hs4)).alloc (Nat.le_trans hs4 hB5.size) (.cells #[.int .i64 t0, .int .i64 t1, .int .i64 t2] 27)
  have HR5 := hid (HR2.out.below hB25)
  have hQ5 : ∀ i, blkOf A2 = some i → i ≠ w5.heap.size := fun i hi e => by
    have h1 := HR2.out.lt hi
    have h2 := hB5.size
    omega
  have HQ5 := hid hQ5
  have HB5 := hid (HB2.out.trans (hB25.mono HB2.out.size))
  have HBL := hid hbl
  clear hB5 hs4 HC6 hbl hB25 hQ5 HE2 HR2 HB2 HB4
  by_cases hz : t1 = 0
  · have b0 := beqT hz
    clear hz
    go_wp2_with fail
    go_ret
    exact ⟨rfl, HB5.out⟩
  have b0 := beqF hz
  have ht1 : 1 ≤ t1 := by omega
  clear hz ht0
  go_wp2_with fail
  refine (bookNew_any _).mono ?_
  rintro e w6 ⟨hB6, b, G, hG, rfl, hAt⟩
  obtain ⟨Q, hQ⟩ : ∃ Q, w5.heap.size = Q := ⟨_, rfl⟩
  have hGQ : ∀ i, G i → Q + 1 ≤ i := fun i hi => by have h1 := hG i hi; simp at h1; omega
  rw [hQ] at HQ5 HBL ⊢
  have hfa : FairA w w6 G Q t0 t1 t2 A2 c2 x := ⟨Blk.keep HBL.out hB6, HR5.out.below hB6, fun hg => by have := hGQ Q hg; omega, fun i hi hg => by
    have h1 := HR5.out.lt hi
    have h2 := hG i hg
    omega, HQ5.out⟩
  have hfr : Below w.heap.size w w6 ∧ ∀ i, G i → w.heap.size ≤ i := ⟨HB5.out.trans (hB6.mono HB5.out.size), fun i hi => Nat.le_trans HB5.out.size (hG i hi)⟩
  have HFA := hid hfa
  have HFr := hid hfr
  have HAt := hid hAt
  clear hfa hfr hAt hB6 hG hGQ hQ HBL HR5 HQ5 HB5
  obtain ⟨n, hn⟩ : ∃ n, x.length = n := ⟨_, rfl⟩
  rw [hn]
  have Hn := hid hn
  have hn60 : n ≤ 60 := by omega
  clear hn
  go_wp2_with fail
  go_loopg [8] n (fun g s8 wr => ∃ k G L1 L2, k ≤ n ∧ g = n - k ∧ s8 = .int .i64 k ∧ Hid (BookAt wr b G L1 L2) ∧ Hid (Built (x.take k) L1 L2) ∧ Hid (FairA w wr G Q t0 t1 t2 A2 c2 x) ∧ Hid (Below w.heap.size w wr ∧ ∀ i, G i → w.heap.size ≤ i))
  case atStart => exact ⟨0, G, [], [], Nat.zero_le _, rfl, rfl, HAt, hid Built.nil, HFA, HFr⟩
  case round =>
    obtain ⟨k, G1, L1, L2, hk, rfl, rfl, HA, HBu, HFa, HFr2⟩ := hrel
    clear HAt HFA HFr
    by_cases hlt : k < n
    · have hkl : k < x.length := by rw [Hn.out]; exact hlt
      obtain ⟨g, hg⟩ := row_addr' HFa.out.row (by omega)
      subst hg
      obtain ⟨x0, x1, x2, x3, x4⟩ := ord_own HFa.out.row hkl
      obtain ⟨o, ho⟩ : ∃ o, x[k] = o := ⟨_, rfl⟩
      have hfit := HFit.out o (by rw [← ho]; exact List.getElem_mem _)
      have he := HNO.out.add HBu.out hkl
      have hbu := HBu.out.snoc HNO.out hkl
      rw [ho] at x0 x1 x2 x3 x4 he hbu
      have hcall := HADD.out wr b G1 L1 L2 HA.out o hfit
      unfold aggO at hcall
      have HC := hid hcall
      have He := hid he
      have HBu2 := hid hbu
      have hltz : (k : Int) < (n : Int) := by omega
      have hi7 : (0 : Int) ≤ (k : Int) := by omega
      clear hcall ho hfit he hbu
      go_wp2_with fail
      refine HC.out.mono ?_
      rintro e w7 hp
      obtain ⟨rfl, G3, hA3, hS3⟩ := hp.to HA.out
      rw [He.out, errV_zero]
      have HA3 := hid hA3
      have HB3 := hid (step_fresh HFr2.out.1 HFr2.out.2 hS3)
      have HF3 := hid (HFa.out.turn hS3)
      clear hp hA3 hS3 x0 x1 x2 x3 x4 HC HA HBu HFa HFr2
      go_wp2_with fail
      go_roundg (n - (k + 1))
      case measure => omega
      case rel => exact ⟨k + 1, G3, _, _, by omega, rfl, by go_num, HA3, HBu2, HF3, HB3⟩
    · obtain rfl : k = n := by omega
      have hltz : ¬ (k : Int) < (k : Int) := by omega
      have hfull : x.take k = x := List.take_of_length_le (by rw [Hn.out]; exact Nat.le_refl _)
      rw [hfull] at HBu
      go_wp2_with fail
      obtain ⟨bl, hbl⟩ : ∃ bl, wr.heap.size = bl := ⟨_, rfl⟩
      have HT := hid (Told.start HA.out HFr2.out.1 HFr2.out.2)
      have HFb0 := hid (HFa.out.below ((Below.refl _ wr).alloc (Nat.le_refl _) (.cells #[.slice none 0 0, .slice none 0 0] 38)))
      have HneQ := hid (show ¬ Q = wr.heap.size from fun e => by have := Blk.lt HFa.out.q; omega)
      have HneX := hid (show ∀ i, blkOf A2 = some i → ¬ i = wr.heap.size from fun i hi e => by have := HFa.out.row.lt hi; omega)
      rw [hbl] at HT HneQ HneX ⊢
      obtain ⟨wq, hwq⟩ : ∃ wq, wr.alloc (.cells #[.slice none 0 0, .slice none 0 0] 38) = wq := ⟨_, rfl⟩
      rw [hwq] at HT HFb0 ⊢
      clear HA HFr2 HFa hbl hwq hlt hltz hk hfull HFit
      go_loopg [10] 2 (fun g s10 wr => ∃ k A1 n1 c1 A2r n2 c2r, g = 2 - k ∧ ((k = 0 ∧ s10 = .int .i64 0) ∨ (k = 1 ∧ s10 = .int .i64 1) ∨ (k = 2 ∧ s10 = .int .i64 2)) ∧ Hid (Told w wr b G1 L1 L2 bl k A1 n1 c1 A2r n2 c2r) ∧ Hid (FairA w wr G1 Q t0 t1 t2 A2 c2 x))
      case atStart => exact ⟨0, none, 0, 0, none, 0, 0, rfl, .inl ⟨rfl, rfl⟩, HT, HFb0⟩
      case round =>
        obtain ⟨k2, A1, n1, c1, A2r, n2, c2r, rfl, hc, HR, HFb⟩ := hrel
        clear HT HFb0
        rcases hc with ⟨rfl, rfl⟩ | ⟨rfl, rfl⟩ | ⟨rfl, rfl⟩
        · have hcall := bookSide_any wr b G1 L1 L2 HR.out.book 1 Is12_1
          have e1 : sideL 1 L1 L2 = L1 := rfl
          rw [e1] at hcall
          have HC := hid hcall
          clear hcall e1
          go_wp2_with fail
          refine HC.out.mono ?_
          rintro e w3 ⟨hb3, A3, c3, rfl, hr3, hf3⟩
          have hw3 := Blk.keep HR.out.was hb3
          have y0 : w3.cell? ⟨bl, 0, none⟩ = some (.slice A1 n1 c1) := by rw [Blk.cell hw3]; rfl
          have f0 := Blk.frozen hw3 0
          have HF3 := hid ((HFb.out.below hb3).keeps (Keeps.set_ w3 ⟨bl, 0, none⟩ (.slice A3 L1.length c3)) HneQ.out HneX.out)
          have HR3 := hid (HR.out.first hb3 hr3 hf3)
          clear hw3 hb3 hr3 hf3 HC HR HFb
          go_wp2_with fail
          go_roundg 1
          case measure => omega
          case rel => exact ⟨1, _, _, _, _, _, _, rfl, .inr (.inl ⟨rfl, by go_num⟩), HR3, HF3⟩
        · have hcall := bookSide_any wr b G1 L1 L2 HR.out.book 2 Is12_2
          have e1 : sideL 2 L1 L2 = L2 := rfl
          rw [e1] at hcall
          have HC := hid hcall
          clear hcall e1
          go_wp2_with fail
          refine HC.out.mono ?_
          rintro e w3 ⟨hb3, A3, c3, rfl, hr3, hf3⟩
          have hw3 := Blk.keep HR.out.was hb3
          have y0 : w3.cell? ⟨bl, 1, none⟩ = some (.slice A2r n2 c2r) := by rw [Blk.cell hw3]; rfl
          have f0 := Blk.frozen hw3 1
          have HF3 := hid ((HFb.out.below hb3).keeps (Keeps.set_ w3 ⟨bl, 1, none⟩ (.slice A3 L2.length c3)) HneQ.out HneX.out)
          have HR3 := hid (HR.out.second hb3 hr3 hf3)
          clear hw3 hb3 hr3 hf3 HC HR HFb
          go_wp2_with fail
          go_roundg 0
          case measure => omega
          case rel => exact ⟨2, _, _, _, _, _, _, rfl, .inr (.inr ⟨rfl, by go_num⟩), HR3, HF3⟩
        · obtain ⟨rfl, rfl, hrun⟩ := HR.out.run
          have HRun := hid hrun
          have hd : t1 = min (demL t0 x) (supL t0 x) := (HQTY.out (by omega)).1
          obtain ⟨q0, -⟩ := HFb.out.cells
          have q1 := HFb.out.cells.2
          have hw1 : t1 ≤ wantL 1 t0 L1 := by rw [← HBu.out.dem]; omega
          have hw2 : t1 ≤ wantL 2 t0 L2 := by rw [← HBu.out.sup]; omega
          have HLs := hid hrun.book.lists
          have Hw1 := hid hw1
          have Hw2 := hid hw2
          have HC := hid (crossFills_any HCUT.out wr b G1 L1 L2 hrun.book t0 t1 ht1 hw1 hw2)
          clear hrun HR hd hw1 hw2 HneQ HneX
          go_wp2_with fail
          refine HC.out.mono ?_
          rintro e w3 ⟨F, AF, cf, G2, rfl, hF, hX, hcr⟩
          have HF := hid hF
          have HCr := hid hcr
          obtain ⟨i0, hi0, hz0, hz1, hz2⟩ := info_parts fint_info
          obtain ⟨wt, hmk, hrow, hgr⟩ := run_make_full (P := Try.prog) w3 0 44 3 i0 (.int .i64 0) 1 Try.underlying44 hi0 hz0 hz1 .i64 .i64 (k + 1) (by rw [hz2]; omega) (by unfold maxLen; omega) (by omega)
          have ek : ((k + 1 : Nat) : Int) = (k : Int) + 1 := by omega
          rw [ek] at hmk
          rw [made_zero] at hrow
          have hbt : Below w3.heap.size w3 wt := (Below.refl _ w3).grown hgr (Nat.le_refl _) (fun j e => by cases e)
          obtain ⟨T, hT⟩ : ∃ T, w3.heap.size = T := ⟨_, rfl⟩
          have hE := FairE.start HRun.out HFb.out hcr hbt hT.symm
          rw [hT] at hmk hrow
          have HE := hid hE
          have HTr := hid (show RowAt wt (some ⟨T, 0, none⟩) (k + 1) (k + 1) 3 1 (flat encN (trL k (lotsOf (F.take 0)))) from hrow)
          obtain ⟨nF, hnF⟩ : ∃ nF, F.length = nF := ⟨_, rfl⟩
          have hnF1 : nF ≤ 1000000000 := by
            have h1 := hF.len
            have h2 := (HNO.out.ok)
            have h3 := HBEST.out 0
            have h4 := Hw1.out
            have h5 := wantL_bound (s := 1) (p := t0) (L := L1) (fun o ho => (HRun.out.book.lists.ok o (List.mem_append_left _ ho)).2.2.2)
            have h6 := HRun.out.book.lists.cnt
            rw [List.length_append] at h6
            omega
          have Ht1b := hid (show t1 ≤ 1000000000 by
            have h4 := Hw1.out
            have h5 := wantL_bound (s := 1) (p := t0) (L := L1) (fun o ho => (HRun.out.book.lists.ok o (List.mem_append_left _ ho)).2.2.2)
            have h6 := HRun.out.book.lists.cnt
            rw [List.length_append] at h6
            omega)
          have HnF := hid hnF
          rw [hnF]
          clear hF hX hcr HC q0 q1 HQTY hrow hgr hbt hT hE hi0 hz0 hz1 hz2 HCr HRun HFb hnF ek
          go_wp2_with fail
          clear hmk
          have HE0 := HE
          go_loopg [14, 15] nF (fun g s14 s15 wr => ∃ i : Nat, i ≤ nF ∧ g = nF - i ∧ s15 = .int .i64 i ∧ s14 = .int .i64 (sumN (·.n) (F.take i)) ∧ Hid (FairE w wr b G2 (dropQ L1 t1) (dropQ L2 t1) bl A1 c1 A2r c2r L1 L2 Q t0 t1 t2 A2 c2 x AF cf F T) ∧ Hid (RowAt wr (some ⟨T, 0, none⟩) (k + 1) (k + 1) 3 1 (flat encN (trL k (lotsOf (F.take i))))))
          case atStart => exact ⟨0, Nat.zero_le _, rfl, rfl, rfl, HE, HTr⟩
          case round =>
            clear HE0
            obtain ⟨i, hi, rfl, rfl, rfl, HR, HTr2⟩ := hrel
            clear HE HTr
            by_cases hlt : i < nF
            · have hil : i < F.length := by rw [HnF.out]; exact hlt
              obtain ⟨gf, hgf⟩ := row_addr' HR.out.rf (by omega)
              obtain ⟨gx, hgx⟩ := row_addr' HR.out.fa.row (by rw [Hn.out]; have := fill_ok HBu.out HNO.out HF.out (List.getElem_mem hil); obtain ⟨_, _, _, ⟨kb, hkb, _⟩, _⟩ := this; rw [Hn.out] at hkb; omega)
              subst hgf
              subst hgx
              obtain ⟨f1, f2, f3, ⟨kb, hkb, f4, f5⟩, ks, hks, f6, f7⟩ := fill_ok HBu.out HNO.out HF.out (List.getElem_mem hil)
              obtain ⟨fl, hfl⟩ : ∃ fl, F[i] = fl := ⟨_, rfl⟩
              rw [hfl] at f1 f2 f3 f4 f6
              obtain ⟨fb, fs, fp, fn⟩ := fl
              dsimp only at f1 f2 f3 f4 f6
              obtain ⟨bk, hbk⟩ : ∃ bk, kb + 1 = bk := ⟨_, rfl⟩
              obtain ⟨sk, hsk⟩ : ∃ sk, ks + 1 = sk := ⟨_, rfl⟩
              obtain rfl : fp = t0 := f1
              obtain rfl : fb = (bk : Int) := by omega
              obtain rfl : fs = (sk : Int) := by omega
              have hne : bk ≠ sk := fun e => by
                have e2 : kb = ks := by omega
                subst e2
                omega
              have hbx : Below wr.heap.size wr (wr.alloc (.cells #[.int .i64 bk, .int .i64 sk, .int .i64 fp, .int .i64 fn] 46)) := (Below.refl _ _).alloc (Nat.le_refl _) _
              obtain ⟨y0, y1, y2, y3⟩ := fill_cells HR.out.rf hil
              rw [hfl] at y0 y1 y2 y3
              dsimp only at y0 y1 y2 y3
              have hE2 := HR.out.below hbx
              have hT2 := HTr2.out.below hbx
              have hX2 := Blk.new wr 46 #[.int .i64 bk, .int .i64 sk, .int .i64 fp, .int .i64 fn]
              have hTl := HTr2.out.lt (g := T) rfl
              rw [Hn.out] at hkb hks
              have x1 := (ord_own hE2.fa.row (i := kb) (by rw [Hn.out]; exact hkb)).2.1
              have x2 := (ord_own hE2.fa.row (i := ks) (by rw [Hn.out]; exact hks)).2.1
              rw [f5] at x1
              rw [f7] at x2
              have q0 := hE2.fa.cells.1
              obtain ⟨z0, z1, z2, z3⟩ : (wr.alloc (.cells #[.int .i64 bk, .int .i64 sk, .int .i64 fp, .int .i64 fn] 46)).cell? ⟨wr.heap.size, 0, none⟩ = some (.int .i64 bk) ∧ (wr.alloc (.cells #[.int .i64 bk, .int .i64 sk, .int .i64 fp, .int .i64 fn] 46)).cell? ⟨wr.heap.size, 1, none⟩ = some (.int .i64 sk) ∧ (wr.alloc (.cells #[.int .i64 bk, .int .i64 sk, .int .i64 fp, .int .i64 fn] 46)).cell? ⟨wr.heap.size, 2, none⟩ = some (.int .i64 fp) ∧ (wr.alloc (.cells #[.int .i64 bk, .int .i64 sk, .int .i64 fp, .int .i64 fn] 46)).cell? ⟨wr.heap.size, 3, none⟩ = some (.int .i64 fn) := ⟨by rw [Blk.cell hX2]; rfl, by rw [Blk.cell hX2]; rfl, by rw [Blk.cell hX2]; rfl, by rw [Blk.cell hX2]; rfl⟩
              have HE2 := hid hE2
              have HT2 := hid hT2
              have HX2 := hid hX2
              have Hfl := hid hfl
              have hltz : (i : Int) < (nF : Int) := by omega
              have hi7 : (0 : Int) ≤ (i : Int) := by omega
              have n0 : (fp != fp) = false := bneF rfl
              have n1 : decide (fn < 1) = false := decF (by omega)
              have n2 : decide ((bk : Int) < 1) = false := decF (by omega)
              have n3 : decide ((k : Int) < (bk : Int)) = false := decF (by omega)
              have n4 : decide ((sk : Int) < 1) = false := decF (by omega)
              have n5 : decide ((k : Int) < (sk : Int)) = false := decF (by omega)
              have m1 : (bk : Int) - 1 = (kb : Int) := by omega
              have m2 : (sk : Int) - 1 = (ks : Int) := by omega
              have k1 : (kb : Int) < (k : Int) := by omega
              have k2 : (ks : Int) < (k : Int) := by omega
              have k3 : (0 : Int) ≤ (kb : Int) := by omega
              have k4 : (0 : Int) ≤ (ks : Int) := by omega
              clear hE2 hT2 hX2 hbx hfl f4 f5 f6 f7 HR HTr2
              go_upto_region 30 with fail
              obtain ⟨wb, hwb⟩ : ∃ wb, wr.alloc (.cells #[.int .i64 bk, .int .i64 sk, .int .i64 fp, .int .i64 fn] 46) = wb := ⟨_, rfl⟩
              obtain ⟨Bx, hBx⟩ : ∃ Bx, wr.heap.size = Bx := ⟨_, rfl⟩
              rw [hwb] at z0 z1 z2 z3 HE2 HT2 HX2 ⊢
              rw [hBx] at z0 z1 z2 z3 HX2 hTl ⊢
              have Hne := hid hne
              have HTl := hid hTl
              have HA : Hid (1 ≤ fn ∧ fn ≤ t1 ∧ ∀ z ∈ F, 1 ≤ z.n) := hid ⟨f2, f3, fun z hz => (HF.out.one z hz).2.1⟩
              have hsum := HF.out.sum
              have hb1 := sumN_take_le HA.out.2.2 i
              have hb2 := lotsOf_bound (F := F.take i) (t := t1) (fun z hz => HA.out.2.2 z (List.mem_of_mem_take hz)) (by omega) (bk : Int)
              have hb3 := lotsOf_bound (F := F.take i) (t := t1) (fun z hz => HA.out.2.2 z (List.mem_of_mem_take hz)) (by omega) (sk : Int)
              have ht1b : t1 ≤ 1000000000 := Ht1b.out
              have tc1 := tr_cell HT2.out (j := bk) (by omega)
              have tf1 := HT2.out.frozen bk
              obtain ⟨v1, hv1⟩ : ∃ v1, lotsOf (F.take i) bk = v1 := ⟨_, rfl⟩
              obtain ⟨v2, hv2⟩ : ∃ v2, lotsOf (F.take i) sk = v2 := ⟨_, rfl⟩
              rw [hv1] at tc1 hb2
              rw [hv2] at hb3
              have Hv1 := hid hv1
              have Hv2 := hid hv2
              have i1 : IntKind.i64.wrap (v1 + fn) = v1 + fn := by rw [IntKind.wrap_i64]; omega
              have i2 : IntKind.i64.wrap (v2 + fn) = v2 + fn := by rw [IntKind.wrap_i64]; omega
              have bk0 : (0 : Int) ≤ (bk : Int) := by omega
              have bk1 : (bk : Int) < ((k + 1 : Nat) : Int) := by omega
              have bk2 : (bk : Int) < (k : Int) + 1 := by omega
              have sk0 : (0 : Int) ≤ (sk : Int) := by omega
              have sk1 : (sk : Int) < ((k + 1 : Nat) : Int) := by omega
              have sk2 : (sk : Int) < (k : Int) + 1 := by omega
              clear x1 x2 q0 y0 y1 y2 y3 n0 n1 n2 n3 n4 n5 m1 m2 k1 k2 k3 k4 hwb hBx hne hTl f2 f3 hsum hv1 hv2
              refine wp_region_heldT_drew 9 (fun W => W.cell? ⟨T, bk, none⟩ = some (.int .i64 v1) ∧ W.cell? ⟨Bx, 0, none⟩ = some (.int .i64 bk) ∧ W.cell? ⟨Bx, 3, none⟩ = some (.int .i64 fn)) (by kernel_rfl) ⟨tc1, z0, z3⟩ (fun hS => ?_)
              refine takeT 0 151 (.slice (some ⟨T, 0, none⟩) (k + 1) (k + 1)) rfl rfl rfl (by kernel_rfl) (by kernel_rfl) (by kernel_rfl) (by kernel_rfl) (fun _ _ _ h => h) (by rfl) ?_ (by assumption) ?_
              · intro W hSw; go_simp <;> first | exact i1 | exact i2
              simp only [Act.put, List.setIfInBounds_toArray, List.set_cons_zero, List.set_cons_succ]
              refine takeT 1 152 (.pointer (some ⟨Bx, 0, none⟩)) rfl rfl rfl (by kernel_rfl) (by kernel_rfl) (by kernel_rfl) (by kernel_rfl) (fun _ _ _ h => h) (by rfl) ?_ (by assumption) ?_
              · intro W hSw; go_simp <;> first | exact i1 | exact i2
              simp only [Act.put, List.setIfInBounds_toArray, List.set_cons_zero, List.set_cons_succ]
              refine takeT 2 153 (.int .i64 bk) rfl rfl rfl (by kernel_rfl) (by kernel_rfl) (by kernel_rfl) (by kernel_rfl) (fun _ _ _ h => h) (by rfl) ?_ (by assumption) ?_
              · intro W hSw; go_simp <;> first | exact i1 | exact i2
              simp only [Act.put, List.setIfInBounds_toArray, List.set_cons_zero, List.set_cons_succ]
              refine takeT 3 154 (.pointer (some ⟨T, bk, none⟩)) rfl rfl rfl (by kernel_rfl) (by kernel_rfl) (by kernel_rfl) (by kernel_rfl) (fun _ _ _ h => h) (by rfl) ?_ (by assumption) ?_
              · intro W hSw; go_simp <;> first | exact i1 | exact i2
              simp only [Act.put, List.setIfInBounds_toArray, List.set_cons_zero, List.set_cons_succ]
              refine takeT 4 155 (.int .i64 v1) rfl rfl rfl (by kernel_rfl) (by kernel_rfl) (by kernel_rfl) (by kernel_rfl) (fun _ _ _ h => h) (by rfl) ?_ (by assumption) ?_
              · intro W hSw; go_simp <;> first | exact i1 | exact i2
              simp only [Act.put, List.setIfInBounds_toArray, List.set_cons_zero, List.set_cons_succ]
              refine takeT 5 156 (.pointer (some ⟨Bx, 3, none⟩)) rfl rfl rfl (by kernel_rfl) (by kernel_rfl) (by kernel_rfl) (by kernel_rfl) (fun _ _ _ h => h) (by rfl) ?_ (by assumption) ?_
              · intro W hSw; go_simp <;> first | exact i1 | exact i2
              simp only [Act.put, List.setIfInBounds_toArray, List.set_cons_zero, List.set_cons_succ]
              refine takeT 6 157 (.int .i64 fn) rfl rfl rfl (by kernel_rfl) (by kernel_rfl) (by kernel_rfl) (by kernel_rfl) (fun _ _ _ h => h) (by rfl) ?_ (by assumption) ?_
              · intro W hSw; go_simp <;> first | exact i1 | exact i2
              simp only [Act.put, List.setIfInBounds_toArray, List.set_cons_zero, List.set_cons_succ]
              refine takeT 7 158 (.int .i64 (v1 + fn)) rfl rfl rfl (by kernel_rfl) (by kernel_rfl) (by kernel_rfl) (by kernel_rfl) (fun _ _ _ h => h) (by rfl) ?_ (by assumption) ?_
              · intro W hSw; go_simp <;> first | exact i1 | exact i2
              simp only [Act.put, List.setIfInBounds_toArray, List.set_cons_zero, List.set_cons_succ]
              refine takeT 8 159 (.pointer (some ⟨T, bk, none⟩)) rfl rfl rfl (by kernel_rfl) (by kernel_rfl) (by kernel_rfl) (by kernel_rfl) (fun _ _ _ h => h) (by rfl) ?_ (by assumption) ?_
              · intro W hSw; go_simp <;> first | exact i1 | exact i2
              simp only [Act.put, List.setIfInBounds_toArray, List.set_cons_zero, List.set_cons_succ]
              refine wpAnyT_last (by kernel_rfl) rfl (fun K1 hK1 => ?_)
              go_simp
              refine hK1 _ _ (wpAnyT_done (by kernel_rfl) ?_ _)
              clear hK1
              have hKT : Keeps (fun j => j = T) wb (wb.setCell ⟨T, bk, none⟩ (.int .i64 (v1 + fn))).drew := (Keeps.set_ wb ⟨T, bk, none⟩ (.int .i64 (v1 + fn))).then_ (Below.drew (Below.refl _ _))
              have hT3 := (tr_set HT2.out bk (v1 + fn)).below (Below.drew (Below.refl _ _))
              have HE3 := hid (HE2.out.keeps hKT)
              have HX3 := hid (Blk.keeps HX2.out hKT (fun e => by have h1 := HTl.out; have e' : Bx = T := e; omega))
              obtain ⟨wc1, hwc1⟩ : ∃ wc1, (wb.setCell ⟨T, bk, none⟩ (.int .i64 (v1 + fn))).drew = wc1 := ⟨_, rfl⟩
              rw [hwc1] at hT3 HE3 HX3 ⊢
              have HT3 := hid hT3
              clear hKT hT3 hwc1 HE2 HT2 HX2 z0 z1 z2 z3 tc1 tf1 hS
              have z1 : wc1.cell? ⟨Bx, 1, none⟩ = some (.int .i64 sk) := by rw [Blk.cell HX3.out]; rfl
              have z3 : wc1.cell? ⟨Bx, 3, none⟩ = some (.int .i64 fn) := by rw [Blk.cell HX3.out]; rfl
              have tc2 := tr_cell HT3.out (j := sk) (by omega)
              have tf2 := HT3.out.frozen sk
              rw [if_neg (show ¬ (sk : Int) = (bk : Nat) by have := Hne.out; omega), Hv2.out] at tc2
              go_upto_region 31 with fail
              refine wp_region_heldT_drew 9 (fun W => W.cell? ⟨T, sk, none⟩ = some (.int .i64 v2) ∧ W.cell? ⟨Bx, 1, none⟩ = some (.int .i64 sk) ∧ W.cell? ⟨Bx, 3, none⟩ = some (.int .i64 fn)) (by kernel_rfl) ⟨tc2, z1, z3⟩ (fun hS => ?_)
              refine takeT 0 160 (.slice (some ⟨T, 0, none⟩) (k + 1) (k + 1)) rfl rfl rfl (by kernel_rfl) (by kernel_rfl) (by kernel_rfl) (by kernel_rfl) (fun _ _ _ h => h) (by rfl) ?_ (by assumption) ?_
              · intro W hSw; go_simp <;> first | exact i1 | exact i2
              simp only [Act.put, List.setIfInBounds_toArray, List.set_cons_zero, List.set_cons_succ]
              refine takeT 1 161 (.pointer (some ⟨Bx, 1, none⟩)) rfl rfl rfl (by kernel_rfl) (by kernel_rfl) (by kernel_rfl) (by kernel_rfl) (fun _ _ _ h => h) (by rfl) ?_ (by assumption) ?_
              · intro W hSw; go_simp <;> first | exact i1 | exact i2
              simp only [Act.put, List.setIfInBounds_toArray, List.set_cons_zero, List.set_cons_succ]
              refine takeT 2 162 (.int .i64 sk) rfl rfl rfl (by kernel_rfl) (by kernel_rfl) (by kernel_rfl) (by kernel_rfl) (fun _ _ _ h => h) (by rfl) ?_ (by assumption) ?_
              · intro W hSw; go_simp <;> first | exact i1 | exact i2
              simp only [Act.put, List.setIfInBounds_toArray, List.set_cons_zero, List.set_cons_succ]
              refine takeT 3 163 (.pointer (some ⟨T, sk, none⟩)) rfl rfl rfl (by kernel_rfl) (by kernel_rfl) (by kernel_rfl) (by kernel_rfl) (fun _ _ _ h => h) (by rfl) ?_ (by assumption) ?_
              · intro W hSw; go_simp <;> first | exact i1 | exact i2
              simp only [Act.put, List.setIfInBounds_toArray, List.set_cons_zero, List.set_cons_succ]
              refine takeT 4 164 (.int .i64 v2) rfl rfl rfl (by kernel_rfl) (by kernel_rfl) (by kernel_rfl) (by kernel_rfl) (fun _ _ _ h => h) (by rfl) ?_ (by assumption) ?_
              · intro W hSw; go_simp <;> first | exact i1 | exact i2
              simp only [Act.put, List.setIfInBounds_toArray, List.set_cons_zero, List.set_cons_succ]
              refine takeT 5 165 (.pointer (some ⟨Bx, 3, none⟩)) rfl rfl rfl (by kernel_rfl) (by kernel_rfl) (by kernel_rfl) (by kernel_rfl) (fun _ _ _ h => h) (by rfl) ?_ (by assumption) ?_
              · intro W hSw; go_simp <;> first | exact i1 | exact i2
              simp only [Act.put, List.setIfInBounds_toArray, List.set_cons_zero, List.set_cons_succ]
              refine takeT 6 166 (.int .i64 fn) rfl rfl rfl (by kernel_rfl) (by kernel_rfl) (by kernel_rfl) (by kernel_rfl) (fun _ _ _ h => h) (by rfl) ?_ (by assumption) ?_
              · intro W hSw; go_simp <;> first | exact i1 | exact i2
              simp only [Act.put, List.setIfInBounds_toArray, List.set_cons_zero, List.set_cons_succ]
              refine takeT 7 167 (.int .i64 (v2 + fn)) rfl rfl rfl (by kernel_rfl) (by kernel_rfl) (by kernel_rfl) (by kernel_rfl) (fun _ _ _ h => h) (by rfl) ?_ (by assumption) ?_
              · intro W hSw; go_simp <;> first | exact i1 | exact i2
              simp only [Act.put, List.setIfInBounds_toArray, List.set_cons_zero, List.set_cons_succ]
              refine takeT 8 168 (.pointer (some ⟨T, sk, none⟩)) rfl rfl rfl (by kernel_rfl) (by kernel_rfl) (by kernel_rfl) (by kernel_rfl) (fun _ _ _ h => h) (by rfl) ?_ (by assumption) ?_
              · intro W hSw; go_simp <;> first | exact i1 | exact i2
              simp only [Act.put, List.setIfInBounds_toArray, List.set_cons_zero, List.set_cons_succ]
              refine wpAnyT_last (by kernel_rfl) rfl (fun K1 hK1 => ?_)
              go_simp
              refine hK1 _ _ (wpAnyT_done (by kernel_rfl) ?_ _)
              clear hK1
              have hKT : Keeps (fun j => j = T) wc1 (wc1.setCell ⟨T, sk, none⟩ (.int .i64 (v2 + fn))).drew := (Keeps.set_ wc1 ⟨T, sk, none⟩ (.int .i64 (v2 + fn))).then_ (Below.drew (Below.refl _ _))
              have hT4 := (tr_set HT3.out sk (v2 + fn)).below (Below.drew (Below.refl _ _))
              have HE4 := hid (HE3.out.keeps hKT)
              have HX4 := hid (Blk.keeps HX3.out hKT (fun e => by have h1 := HTl.out; have e' : Bx = T := e; omega))
              obtain ⟨wc2, hwc2⟩ : ∃ wc2, (wc1.setCell ⟨T, sk, none⟩ (.int .i64 (v2 + fn))).drew = wc2 := ⟨_, rfl⟩
              rw [hwc2] at hT4 HE4 HX4 ⊢
              have hstep := lots_step hil Hfl.out Hne.out
              rw [if_neg (show ¬ (sk : Int) = (bk : Nat) by have := Hne.out; omega), Hv1.out, Hv2.out] at hstep
              rw [hstep] at hT4
              have HT4 := hid hT4
              have z3 : wc2.cell? ⟨Bx, 3, none⟩ = some (.int .i64 fn) := by rw [Blk.cell HX4.out]; rfl
              have hsn : sumN (·.n) (F.take i) + fn = sumN (·.n) (F.take (i + 1)) := by rw [List.take_succ_eq_append_getElem hil, sumN_snoc, Hfl.out]
              obtain ⟨sa, hsa⟩ : ∃ sa, sumN (·.n) (F.take i) = sa := ⟨_, rfl⟩
              rw [hsa] at hsn hb1 ⊢
              have i3 : RowKit.wrap64 (sa + fn) = sa + fn := by
                have h1 := HA.out.1
                have h2 := HA.out.2.1
                have h3 := HF.out.sum
                unfold RowKit.wrap64
                omega
              have Hsn := hid hsn
              have Hfe := hid hstep
              clear hKT hT4 hwc2 HE3 HT3 HX3 z1 tc2 tf2 hS hstep hsn hsa i1 i2
              go_wp2_with fail
              go_roundg (nF - (i + 1))
              case measure => omega
              case rel => exact ⟨i + 1, by omega, rfl, by go_num, by rw [← Hsn.out, i3], HE4, HT4⟩
            · obtain rfl : i = nF := by omega
              have hltz : ¬ (i : Int) < (i : Int) := by omega
              have hfull : F.take i = F := List.take_of_length_le (by rw [HnF.out]; exact Nat.le_refl _)
              rw [hfull] at HTr2 ⊢
              rw [HF.out.sum]
              have q1 := HR.out.fa.cells.2
              have n0 : (t1 != t1) = false := bneF rfl
              go_wp2_with fail
              have HR2' := HR
              have HTr2' := HTr2
              clear HTr2 HR hltz hfull q1 n0 hlt hi
              go_loopg [17] 2 (fun g s17 wr => ∃ k4 : Nat, g = 2 - k4 ∧ ((k4 = 0 ∧ s17 = .int .i64 0) ∨ (k4 = 1 ∧ s17 = .int .i64 1) ∨ (k4 = 2 ∧ s17 = .int .i64 2)) ∧ Hid (FairE w wr b G2 (dropQ L1 t1) (dropQ L2 t1) bl A1 c1 A2r c2r L1 L2 Q t0 t1 t2 A2 c2 x AF cf F T) ∧ Hid (RowAt wr (some ⟨T, 0, none⟩) (k + 1) (k + 1) 3 1 (flat encN (trL k (lotsOf F)))))
              case atStart => exact ⟨0, rfl, .inl ⟨rfl, rfl⟩, HR2', HTr2'⟩
              case round =>
                obtain ⟨k4, rfl, hc, HR, HTr3⟩ := hrel
                clear HR2' HTr2'
                rcases hc with ⟨rfl, rfl⟩ | ⟨rfl, rfl⟩ | ⟨rfl, rfl⟩
                · obtain ⟨nl, hnl⟩ : ∃ nl, L1.length = nl := ⟨_, rfl⟩
                  have hnb : nl ≤ 100 := by
                    have h1 := HLs.out.cnt
                    rw [List.length_append] at h1
                    omega
                  have Hnl := hid hnl
                  clear hnl
                  have HR0 := HR
                  have HTr0 := HTr3
                  go_wp2_with fail
                  go_loopg [18, 19] nl (fun g s18 s19 wr => ∃ i : Nat, i ≤ nl ∧ g = nl - i ∧ s19 = .int .i64 i ∧ s18 = .bool (decide (t1 - allQ (L1.take i) < 0)) ∧ Hid (FairE w wr b G2 (dropQ L1 t1) (dropQ L2 t1) bl A1 c1 A2r c2r L1 L2 Q t0 t1 t2 A2 c2 x AF cf F T) ∧ Hid (RowAt wr (some ⟨T, 0, none⟩) (k + 1) (k + 1) 3 1 (flat encN (trL k (lotsOf F)))))
                  case atStart => exact ⟨0, Nat.zero_le _, rfl, rfl, by rw [decF (show ¬ t1 - allQ (L1.take 0) < 0 by show ¬ t1 - 0 < 0; omega)], HR0, HTr0⟩
                  case round =>
                    clear HR HTr3 HR0 HTr0
                    obtain ⟨i, hi, rfl, rfl, rfl, HR, HTr3⟩ := hrel
                    have y0 : wr.cell? ⟨bl, 0, none⟩ = some (.slice A1 nl c1) := by rw [Blk.cell HR.out.run.was, ← Hnl.out]; rfl
                    by_cases hlt : i < nl
                    · have hil : i < L1.length := by rw [Hnl.out]; exact hlt
                      obtain ⟨⟨bk, hbk1, hbk2, hbk3, hbk4⟩, hoq, hwl, hall, hsd⟩ := rank_1 HBu.out HNO.out HLs.out HF.out Hw1.out hil
                      obtain ⟨ga, hga⟩ := row_addr' HR.out.run.r1 (by omega)
                      subst hga
                      obtain ⟨x0, x1, x2, x3, x4⟩ := ord_own HR.out.run.r1 hil
                      obtain ⟨o, ho⟩ : ∃ o, L1[i] = o := ⟨_, rfl⟩
                      rw [ho] at x0 x1 x2 x3 x4 hbk3 hbk4 hoq hwl hall hsd
                      rw [hbk3] at x0
                      rw [Hn.out] at hbk2
                      have hbx : Below wr.heap.size wr (wr.alloc (.cells #[.int .i64 bk, .int .i64 o.side, .int .i64 o.kind, .int .i64 o.price, .int .i64 o.qty] 37)) := (Below.refl _ _).alloc (Nat.le_refl _) _
                      have hE2 := HR.out.below hbx
                      have hT2 := HTr3.out.below hbx
                      have hX2 := Blk.new wr 37 #[.int .i64 bk, .int .i64 o.side, .int .i64 o.kind, .int .i64 o.price, .int .i64 o.qty]
                      have tc := tr_cell hT2 (j := bk) (by omega)
                      rw [hbk4] at tc
                      have q0 := hE2.fa.cells.1
                      have HCw := hid (willing_any o t0 (wr.alloc (.cells #[.int .i64 bk, .int .i64 o.side, .int .i64 o.kind, .int .i64 o.price, .int .i64 o.qty] 37)) hsd)
                      unfold aggO at HCw
                      rw [hbk3] at HCw
                      obtain ⟨a, ha⟩ : ∃ a, t1 - allQ (L1.take i) = a := ⟨_, rfl⟩
                      rw [ha] at tc hwl ⊢
                      obtain ⟨z0, z4⟩ : (wr.alloc (.cells #[.int .i64 bk, .int .i64 o.side, .int .i64 o.kind, .int .i64 o.price, .int .i64 o.qty] 37)).cell? ⟨wr.heap.size, 0, none⟩ = some (.int .i64 bk) ∧ (wr.alloc (.cells #[.int .i64 bk, .int .i64 o.side, .int .i64 o.kind, .int .i64 o.price, .int .i64 o.qty] 37)).cell? ⟨wr.heap.size, 4, none⟩ = some (.int .i64 o.qty) := ⟨by rw [Blk.cell hX2]; rfl, by rw [Blk.cell hX2]; rfl⟩
                      have Ha2 := hid (show t1 - allQ (L1.take (i + 1)) = a - o.qty by omega)
                      have HE2 := hid hE2
                      have HT2 := hid hT2
                      have HX2 := hid hX2
                      have hltz : (i : Int) < (nl : Int) := by omega
                      have hi7 : (0 : Int) ≤ (i : Int) := by omega
                      have bk0 : (0 : Int) ≤ (bk : Int) := by omega
                      have bk1 : (bk : Int) < ((k + 1 : Nat) : Int) := by omega
                      have bk2 : (bk : Int) < (k : Int) + 1 := by omega
                      clear hE2 hT2 hX2 hbx ho HR HTr3 hbk4 hbk3 hall ha hsd
                      by_cases ca : 0 < a
                      · have hv : clampQ a o.qty = (if a < o.qty then a else o.qty) := by unfold clampQ; rw [if_neg (by omega)]
                        obtain ⟨v, hvv⟩ : ∃ v, clampQ a o.qty = v := ⟨_, rfl⟩
                        rw [hvv] at tc hv
                        have hv1 : 1 ≤ v := by rw [hv]; split <;> omega
                        have hv2 : v ≤ o.qty := by rw [hv]; split <;> omega
                        have hv3 : decide (v < o.qty) = decide (a - o.qty < 0) := by
                          by_cases e : a < o.qty
                          · rw [if_pos e] at hv; rw [decT (by omega), decT (by omega)]
                          · rw [if_neg e] at hv; rw [decF (by omega), decF (by omega)]
                        have d1 : decide (o.qty < v) = false := decF (by omega)
                        have d2 : decide (0 < v) = true := decT (by omega)
                        have d3 : decide (a < 0) = false := decF (by omega)
                        have hwt := hwl ca
                        rw [hwt] at HCw
                        rw [d3]
                        obtain ⟨bd, hbd⟩ : ∃ bd, decide (v < o.qty) = bd := ⟨_, rfl⟩
                        have Hbd := hid (show bd = decide (a - o.qty < 0) by rw [← hbd]; exact hv3)
                        clear hv hvv hv1 hv2 hv3 ca hwl hwt d3
                        go_wp2_with fail
                        refine HCw.out.mono ?_
                        rintro e w5 ⟨rfl, hb5⟩
                        have hX5 := Blk.keep HX2.out hb5
                        have z4 : w5.cell? ⟨wr.heap.size, 4, none⟩ = some (.int .i64 o.qty) := by rw [Blk.cell hX5]; rfl
                        have HE5 := hid (HE2.out.below hb5)
                        have HT5 := hid (HT2.out.below hb5)
                        clear hX5 hb5 HCw HX2 HE2 HT2
                        go_wp2_with fail
                        go_roundg (nl - (i + 1))
                        case measure => omega
                        case rel => exact ⟨i + 1, by omega, rfl, by go_num, by rw [Ha2.out, ← Hbd.out], HE5, HT5⟩
                      · have hv : clampQ a o.qty = 0 := by unfold clampQ; rw [if_pos (by omega)]
                        rw [hv] at tc
                        have d1 : decide (o.qty < 0) = false := decF (by omega)
                        have d2 : decide (0 < o.qty) = true := decT (by omega)
                        have Hbd := hid (show true = decide (a - o.qty < 0) by rw [decT (by omega)])
                        obtain ⟨bd, hbd⟩ : ∃ bd, decide (a < 0) = bd := ⟨_, rfl⟩
                        rw [hbd]
                        clear hv ca hwl HCw HX2 hbd
                        cases bd
                        all_goals
                          go_wp2_with fail
                          go_roundg (nl - (i + 1))
                          case measure => omega
                          case rel => exact ⟨i + 1, by omega, rfl, by go_num, by rw [Ha2.out, ← Hbd.out], HE2, HT2⟩
                    · obtain rfl : i = nl := by omega
                      have hltz : ¬ (i : Int) < (i : Int) := by omega
                      go_wp2_with fail
                      go_roundg 1
                      case measure => omega
                      case rel => exact ⟨1, rfl, .inr (.inl ⟨rfl, by go_num⟩), HR, HTr3⟩
                · obtain ⟨nl, hnl⟩ : ∃ nl, L2.length = nl := ⟨_, rfl⟩
                  have hnb : nl ≤ 100 := by
                    have h1 := HLs.out.cnt
                    rw [List.length_append] at h1
                    omega
                  have Hnl := hid hnl
                  clear hnl
                  have HR0 := HR
                  have HTr0 := HTr3
                  go_wp2_with fail
                  go_loopg [18, 19] nl (fun g s18 s19 wr => ∃ i : Nat, i ≤ nl ∧ g = nl - i ∧ s19 = .int .i64 i ∧ s18 = .bool (decide (t1 - allQ (L2.take i) < 0)) ∧ Hid (FairE w wr b G2 (dropQ L1 t1) (dropQ L2 t1) bl A1 c1 A2r c2r L1 L2 Q t0 t1 t2 A2 c2 x AF cf F T) ∧ Hid (RowAt wr (some ⟨T, 0, none⟩) (k + 1) (k + 1) 3 1 (flat encN (trL k (lotsOf F)))))
                  case atStart => exact ⟨0, Nat.zero_le _, rfl, rfl, by rw [decF (show ¬ t1 - allQ (L2.take 0) < 0 by show ¬ t1 - 0 < 0; omega)], HR0, HTr0⟩
                  case round =>
                    clear HR HTr3 HR0 HTr0
                    obtain ⟨i, hi, rfl, rfl, rfl, HR, HTr3⟩ := hrel
                    have y0 : wr.cell? ⟨bl, 1, none⟩ = some (.slice A2r nl c2r) := by rw [Blk.cell HR.out.run.was, ← Hnl.out]; rfl
                    by_cases hlt : i < nl
                    · have hil : i < L2.length := by rw [Hnl.out]; exact hlt
                      obtain ⟨⟨bk, hbk1, hbk2, hbk3, hbk4⟩, hoq, hwl, hall, hsd⟩ := rank_2 HBu.out HNO.out HLs.out HF.out Hw2.out hil
                      obtain ⟨ga, hga⟩ := row_addr' HR.out.run.r2 (by omega)
                      subst hga
                      obtain ⟨x0, x1, x2, x3, x4⟩ := ord_own HR.out.run.r2 hil
                      obtain ⟨o, ho⟩ : ∃ o, L2[i] = o := ⟨_, rfl⟩
                      rw [ho] at x0 x1 x2 x3 x4 hbk3 hbk4 hoq hwl hall hsd
                      rw [hbk3] at x0
                      rw [Hn.out] at hbk2
                      have hbx : Below wr.heap.size wr (wr.alloc (.cells #[.int .i64 bk, .int .i64 o.side, .int .i64 o.kind, .int .i64 o.price, .int .i64 o.qty] 37)) := (Below.refl _ _).alloc (Nat.le_refl _) _
                      have hE2 := HR.out.below hbx
                      have hT2 := HTr3.out.below hbx
                      have hX2 := Blk.new wr 37 #[.int .i64 bk, .int .i64 o.side, .int .i64 o.kind, .int .i64 o.price, .int .i64 o.qty]
                      have tc := tr_cell hT2 (j := bk) (by omega)
                      rw [hbk4] at tc
                      have q0 := hE2.fa.cells.1
                      have HCw := hid (willing_any o t0 (wr.alloc (.cells #[.int .i64 bk, .int .i64 o.side, .int .i64 o.kind, .int .i64 o.price, .int .i64 o.qty] 37)) hsd)
                      unfold aggO at HCw
                      rw [hbk3] at HCw
                      obtain ⟨a, ha⟩ : ∃ a, t1 - allQ (L2.take i) = a := ⟨_, rfl⟩
                      rw [ha] at tc hwl ⊢
                      obtain ⟨z0, z4⟩ : (wr.alloc (.cells #[.int .i64 bk, .int .i64 o.side, .int .i64 o.kind, .int .i64 o.price, .int .i64 o.qty] 37)).cell? ⟨wr.heap.size, 0, none⟩ = some (.int .i64 bk) ∧ (wr.alloc (.cells #[.int .i64 bk, .int .i64 o.side, .int .i64 o.kind, .int .i64 o.price, .int .i64 o.qty] 37)).cell? ⟨wr.heap.size, 4, none⟩ = some (.int .i64 o.qty) := ⟨by rw [Blk.cell hX2]; rfl, by rw [Blk.cell hX2]; rfl⟩
                      have Ha2 := hid (show t1 - allQ (L2.take (i + 1)) = a - o.qty by omega)
                      have HE2 := hid hE2
                      have HT2 := hid hT2
                      have HX2 := hid hX2
                      have hltz : (i : Int) < (nl : Int) := by omega
                      have hi7 : (0 : Int) ≤ (i : Int) := by omega
                      have bk0 : (0 : Int) ≤ (bk : Int) := by omega
                      have bk1 : (bk : Int) < ((k + 1 : Nat) : Int) := by omega
                      have bk2 : (bk : Int) < (k : Int) + 1 := by omega
                      clear hE2 hT2 hX2 hbx ho HR HTr3 hbk4 hbk3 hall ha hsd
                      by_cases ca : 0 < a
                      · have hv : clampQ a o.qty = (if a < o.qty then a else o.qty) := by unfold clampQ; rw [if_neg (by omega)]
                        obtain ⟨v, hvv⟩ : ∃ v, clampQ a o.qty = v := ⟨_, rfl⟩
                        rw [hvv] at tc hv
                        have hv1 : 1 ≤ v := by rw [hv]; split <;> omega
                        have hv2 : v ≤ o.qty := by rw [hv]; split <;> omega
                        have hv3 : decide (v < o.qty) = decide (a - o.qty < 0) := by
                          by_cases e : a < o.qty
                          · rw [if_pos e] at hv; rw [decT (by omega), decT (by omega)]
                          · rw [if_neg e] at hv; rw [decF (by omega), decF (by omega)]
                        have d1 : decide (o.qty < v) = false := decF (by omega)
                        have d2 : decide (0 < v) = true := decT (by omega)
                        have d3 : decide (a < 0) = false := decF (by omega)
                        have hwt := hwl ca
                        rw [hwt] at HCw
                        rw [d3]
                        obtain ⟨bd, hbd⟩ : ∃ bd, decide (v < o.qty) = bd := ⟨_, rfl⟩
                        have Hbd := hid (show bd = decide (a - o.qty < 0) by rw [← hbd]; exact hv3)
                        clear hv hvv hv1 hv2 hv3 ca hwl hwt d3
                        go_wp2_with fail
                        refine HCw.out.mono ?_
                        rintro e w5 ⟨rfl, hb5⟩
                        have hX5 := Blk.keep HX2.out hb5
                        have z4 : w5.cell? ⟨wr.heap.size, 4, none⟩ = some (.int .i64 o.qty) := by rw [Blk.cell hX5]; rfl
                        have HE5 := hid (HE2.out.below hb5)
                        have HT5 := hid (HT2.out.below hb5)
                        clear hX5 hb5 HCw HX2 HE2 HT2
                        go_wp2_with fail
                        go_roundg (nl - (i + 1))
                        case measure => omega
                        case rel => exact ⟨i + 1, by omega, rfl, by go_num, by rw [Ha2.out, ← Hbd.out], HE5, HT5⟩
                      · have hv : clampQ a o.qty = 0 := by unfold clampQ; rw [if_pos (by omega)]
                        rw [hv] at tc
                        have d1 : decide (o.qty < 0) = false := decF (by omega)
                        have d2 : decide (0 < o.qty) = true := decT (by omega)
                        have Hbd := hid (show true = decide (a - o.qty < 0) by rw [decT (by omega)])
                        obtain ⟨bd, hbd⟩ : ∃ bd, decide (a < 0) = bd := ⟨_, rfl⟩
                        rw [hbd]
                        clear hv ca hwl HCw HX2 hbd
                        cases bd
                        all_goals
                          go_wp2_with fail
                          go_roundg (nl - (i + 1))
                          case measure => omega
                          case rel => exact ⟨i + 1, by omega, rfl, by go_num, by rw [Ha2.out, ← Hbd.out], HE2, HT2⟩
                    · obtain rfl : i = nl := by omega
                      have hltz : ¬ (i : Int) < (i : Int) := by omega
                      go_wp2_with fail
                      go_roundg 0
                      case measure => omega
                      case rel => exact ⟨2, rfl, .inr (.inr ⟨rfl, by go_num⟩), HR, HTr3⟩
                · obtain ⟨R1, hR1⟩ : ∃ R1, dropQ L1 t1 = R1 := ⟨_, rfl⟩
                  obtain ⟨R2, hR2⟩ : ∃ R2, dropQ L2 t1 = R2 := ⟨_, rfl⟩
                  have HNL := hid (fun (o y : Ord5) (ho : o ∈ R1) (hy : y ∈ R2) => none_left HBu.out (fun o ho => (HLs.out.ok o (List.mem_append_left _ ho)).2.2.2.1) (fun o ho => (HLs.out.ok o (List.mem_append_right _ ho)).2.2.2.1) HBEST.out (by rw [hR1]; exact ho) (by rw [hR2]; exact hy))
                  have hbk := HR.out.run.book
                  rw [hR1, hR2] at hbk
                  have hold := HR.out.run.old
                  have hll := hbk.lists.cnt
                  rw [List.length_append] at hll
                  obtain ⟨m1, hm1⟩ : ∃ m1, R1.length = m1 := ⟨_, rfl⟩
                  obtain ⟨m2, hm2⟩ : ∃ m2, R2.length = m2 := ⟨_, rfl⟩
                  have hm1b : m1 ≤ 100 := by omega
                  have hm2b : m2 ≤ 100 := by omega
                  have Hm1 := hid hm1
                  have Hm2 := hid hm2
                  have hca := bookSide_any wr b G2 R1 R2 hbk 1 Is12_1
                  rw [show sideL 1 R1 R2 = R1 from rfl, hm1] at hca
                  have HCa := hid hca
                  have Hbk := hid hbk
                  have Hold := hid hold
                  clear hR1 hR2 hbk hold hll hm1 hm2 hca HR HTr3
                  go_wp2_with fail
                  refine HCa.out.mono ?_
                  rintro e w5 ⟨hb5, A5, c5, rfl, hr5, -⟩
                  have hca := bookSide_any w5 b G2 R1 R2 (Hbk.out.below hb5) 2 Is12_2
                  rw [show sideL 2 R1 R2 = R2 from rfl, Hm2.out] at hca
                  have HCb := hid hca
                  have Hr5 := hid hr5
                  have Ho5 := hid (Hold.out.trans (hb5.mono Hold.out.size))
                  clear hca hb5 hr5 HCa Hold Hbk
                  go_wp2_with fail
                  refine HCb.out.mono ?_
                  rintro e w7 ⟨hb7, A7, c7, rfl, hr7, -⟩
                  have Hr57 := hid (Hr5.out.below hb7)
                  have Hr7 := hid hr7
                  have Ho7 := hid (Ho5.out.trans (hb7.mono Ho5.out.size))
                  clear hb7 hr7 HCb Ho5 Hr5
                  go_wp2_with fail
                  go_loopg [247] m1 (fun g s247 wr => ∃ i : Nat, i ≤ m1 ∧ g = m1 - i ∧ s247 = .int .i64 i ∧ Hid (RowAt wr A5 m1 c5 37 5 (flat encO R1)) ∧ Hid (RowAt wr A7 m2 c7 37 5 (flat encO R2)) ∧ Hid (Below w.heap.size w wr))
                  case atStart => exact ⟨0, Nat.zero_le _, rfl, rfl, Hr57, Hr7, Ho7⟩
                  case round =>
                    clear Hr57 Hr7 Ho7
                    obtain ⟨i, hi, rfl, rfl, Ha, Hb, Ho⟩ := hrel
                    by_cases hlt : i < m1
                    · have hil : i < R1.length := by rw [Hm1.out]; exact hlt
                      obtain ⟨ga, hga⟩ := row_addr' Ha.out (by omega)
                      subst hga
                      obtain ⟨x0, x1, x2, x3, x4⟩ := ord_own Ha.out hil
                      obtain ⟨o, ho⟩ : ∃ o, R1[i] = o := ⟨_, rfl⟩
                      have Hom := hid (show o ∈ R1 by rw [← ho]; exact List.getElem_mem _)
                      rw [ho] at x0 x1 x2 x3 x4
                      have hltz : (i : Int) < (m1 : Int) := by omega
                      have hi7 : (0 : Int) ≤ (i : Int) := by omega
                      have hbx : Below wr.heap.size wr (wr.alloc (.cells #[.int .i64 o.id, .int .i64 o.side, .int .i64 o.kind, .int .i64 o.price, .int .i64 o.qty] 37)) := (Below.refl _ _).alloc (Nat.le_refl _) _
                      have HX := hid (Blk.new wr 37 #[.int .i64 o.id, .int .i64 o.side, .int .i64 o.kind, .int .i64 o.price, .int .i64 o.qty])
                      have Ha2 := hid (Ha.out.below hbx)
                      have Hb2 := hid (Hb.out.below hbx)
                      have Ho2 := hid (Ho.out.trans (hbx.mono Ho.out.size))
                      obtain ⟨Bo, hBo⟩ : ∃ Bo, wr.heap.size = Bo := ⟨_, rfl⟩
                      rw [hBo] at HX
                      clear Ha Hb Ho hbx ho
                      go_wp2_with fail
                      obtain ⟨wb, hwb⟩ : ∃ wb, wr.alloc (.cells #[.int .i64 o.id, .int .i64 o.side, .int .i64 o.kind, .int .i64 o.price, .int .i64 o.qty] 37) = wb := ⟨_, rfl⟩
                      rw [hwb] at HX Ha2 Hb2 Ho2 ⊢
                      clear x0 x1 x2 x3 x4 hwb hBo
                      go_loopg [253] m2 (fun g s253 wr => ∃ j : Nat, j ≤ m2 ∧ g = m2 - j ∧ s253 = .int .i64 j ∧ Hid (RowAt wr (some ⟨ga, 0, none⟩) m1 c5 37 5 (flat encO R1)) ∧ Hid (RowAt wr A7 m2 c7 37 5 (flat encO R2)) ∧ Hid (Below w.heap.size w wr) ∧ Hid (Blk wr Bo 37 #[.int .i64 o.id, .int .i64 o.side, .int .i64 o.kind, .int .i64 o.price, .int .i64 o.qty]))
                      case atStart => exact ⟨0, Nat.zero_le _, rfl, rfl, Ha2, Hb2, Ho2, HX⟩
                      case round =>
                        clear Ha2 Hb2 Ho2 HX
                        obtain ⟨j, hj, rfl, rfl, Ha, Hb, Ho, HX⟩ := hrel
                        by_cases hlt2 : j < m2
                        · have hjl : j < R2.length := by rw [Hm2.out]; exact hlt2
                          obtain ⟨gb, hgb⟩ := row_addr' Hb.out (by omega)
                          subst hgb
                          obtain ⟨x0, x1, x2, x3, x4⟩ := ord_own Hb.out hjl
                          obtain ⟨y, hy⟩ : ∃ y, R2[j] = y := ⟨_, rfl⟩
                          have hnl := HNL.out o y Hom.out (by rw [← hy]; exact List.getElem_mem _)
                          rw [hy] at x0 x1 x2 x3 x4
                          have hltz2 : (j : Int) < (m2 : Int) := by omega
                          have hj7 : (0 : Int) ≤ (j : Int) := by omega
                          have hbx : Below wr.heap.size wr (wr.alloc (.cells #[.int .i64 y.id, .int .i64 y.side, .int .i64 y.kind, .int .i64 y.price, .int .i64 y.qty] 37)) := (Below.refl _ _).alloc (Nat.le_refl _) _
                          have hXo := Blk.keep HX.out hbx
                          have hXy := Blk.new wr 37 #[.int .i64 y.id, .int .i64 y.side, .int .i64 y.kind, .int .i64 y.price, .int .i64 y.qty]
                          obtain ⟨-, -, z2, z3, -⟩ := blk5' hXo
                          obtain ⟨-, -, v2, v3, -⟩ := blk5' hXy
                          have Ha2 := hid (Ha.out.below hbx)
                          have Hb2 := hid (Hb.out.below hbx)
                          have Ho2 := hid (Ho.out.trans (hbx.mono Ho.out.size))
                          have HX2 := hid hXo
                          have n1 : (o.kind == 2) = false := beqF (fun e => hnl (.inl e))
                          have n2 : (y.kind == 2) = false := beqF (fun e => hnl (.inr (.inl e)))
                          have n3 : decide (y.price ≤ o.price) = false := decF (fun e => hnl (.inr (.inr e)))
                          clear Ha Hb Ho HX hbx hXo hXy hnl hy
                          go_wp2_with fail
                          go_roundg (m2 - (j + 1))
                          case measure => omega
                          case rel => exact ⟨j + 1, by omega, rfl, by go_num, Ha2, Hb2, Ho2, HX2⟩
                        · obtain rfl : j = m2 := by omega
                          have hltz2 : ¬ (j : Int) < (j : Int) := by omega
                          go_wp2_with fail
                          go_roundg (m1 - (i + 1))
                          case measure => omega
                          case rel => exact ⟨i + 1, by omega, rfl, by go_num, Ha, Hb, Ho⟩
                    · obtain rfl : i = m1 := by omega
                      have hltz : ¬ (i : Int) < (i : Int) := by omega
                      go_wp2_with fail
                      go_ret
                      exact ⟨rfl, Ho.out⟩
end Go.Proofs.Yteggaehelnmhnaa
