/-
  The walk of Book.Add, where the order lies then: an order of side 2Q.
-/
import Derived.Test.YtkcgchpbjegneaaGreatDoorBookAddL
import Derived.Test.YtkcgchpbjegneaaGreatDoorHeldT
namespace Go.Proofs.YtkcgchpbjegneaaGreatDoor
open Go.RowKit
set_option linter.unusedVariables false

set_option maxRecDepth 100000 in
set_option maxHeartbeats 20000000 in
theorem add_lies2Q (w : World) (b : Nat) (o : Ord5) (a : Nat) (F : Nat → Prop) (M : Int → Int → Option Ord5) (n r : Nat) (f : Int → Option Value) (H : Int → HS) (reg : Nat → Int) (hM : BookM w b a F M n r f H reg)
    (hS : BookS M n f H) (hfit : FitO o)
    (h : argB o = true) (hr : rngB o = true) (hf : f o.id = none) (hn : n < 100) (hsd : o.side = 2) (hkd : (o.kind == 2) = false) :
    Calls Tryz.prog 42 #[.pointer (some ⟨b, 0, none⟩), aggO o] w fun e w' => e = .returned (errV 0) ∧ AddDone w w' b a r F n H (pricedO o) := by
  obtain ⟨hs, hi⟩ := argB_iff.1 h
  obtain ⟨mk, hmk, hmkv⟩ : ∃ mk, (o.kind == 2) = mk ∧ mk = false := ⟨_, rfl, hkd⟩
  have HMkv := hid hmkv
  clear hmkv hkd
  obtain ⟨o', ho'⟩ : ∃ o', pricedO o = o' := ⟨_, rfl⟩
  have HSide := hid hsd
  have HM := hid hM
  clear hsd
  have HR := hid (show rightB o'.price o.qty = true by rw [← ho']; exact hr)
  have HF := hid hf
  have HK := hid hmk
  have HN := hid hn
  have HSd := hid hs
  have HO := hid ho'
  have HI := hid hi
  have HSm := hid hS
  have HOk := hid (show OkO o' by
    have hp := rightB_iff.1 (show rightB o'.price o.qty = true by rw [← ho']; exact hr)
    rw [← ho'] at hp ⊢
    obtain ⟨f1, f2, f3, f4, f5⟩ := hfit
    exact ⟨⟨f1, f2, f3, by unfold Fit64; omega, f5⟩, hi, ⟨hp.1, hp.2.1⟩, ⟨hp.2.2.1, hp.2.2.2⟩⟩)
  have B0 := Blk.new w 24 (boxO o)
  have hB0 : Below w.heap.size w (w.alloc (.cells (boxO o) 24)) := (Below.refl _ w).alloc (Nat.le_refl _) _
  have HX0 := hid B0
  have HB0 := hid hB0
  unfold aggO
  clear h hi hr hM hf hn hs hS hfit ho' hmk B0 hB0
  go_enter Tryz.func42, Tryz.ntmps42
  go_upto_region 1 with fail
  go_cut [25] (fun s25 wx => s25 = .bool false ∧ Add8 w wx b a F M n r f H reg o)
  case first =>
    obtain ⟨id, side, kind, price, qty⟩ := o
    have d1 : decide (id < 1) = false := decF (by have := HI.out; dsimp only at this; omega)
    rcases HSd.out with h1 | h1
    · dsimp only at h1
      subst h1
      go_wp2_with fail
      go_meet
      exact ⟨rfl, HB0.out, HM.out.below HB0.out, HX0.out⟩
    · dsimp only at h1
      subst h1
      go_wp2_with fail
      go_meet
      exact ⟨rfl, HB0.out, HM.out.below HB0.out, HX0.out⟩
  case rest =>
    obtain ⟨rfl, h8⟩ := hcut
    have H8 := hid h8
    obtain ⟨x0, x1, x2, x3, x4⟩ := ord_box h8.2.2
    have xf := Blk.frozen h8.2.2 3
    have t1 := HK.out
    clear h8
    go_upto_if 30 with fail
    go_cut [31] (fun s31 wx => Add8 w wx b a F M n r f H reg o')
    case first =>
      cases mk with
      | true =>
        have t2 := hid t1
        clear t1
        go_wp2_with fail
        go_meet
        rw [← HO.out]
        exact add8_price HM.out H8.out t2.out
      | false =>
        have t2 := hid t1
        clear t1
        go_wp2_with fail
        go_meet
        rw [← HO.out, priced_no t2.out]
        exact H8.out
    case rest =>
      clear x0 x1 x2 x3 x4 xf H8 HX0 HB0
      have e4 : o'.qty = o.qty := by rw [← HO.out]; rfl
      have e0 : o'.id = o.id := by rw [← HO.out]; rfl
      have e1 : o'.side = o.side := by rw [← HO.out]; rfl
      have e2 : o'.kind = o.kind := by rw [← HO.out]; rfl
      have H8 := hid hcut
      obtain ⟨x0, x1, x2, x3, x4⟩ := ord_box hcut.2.2
      rw [e4] at x4
      rw [e0] at x0
      rw [e1] at x1
      rw [e2] at x2
      clear t1 hcut
      have E4 := hid e4
      have E0 := hid e0
      have E1 := hid e1
      have E2 := hid e2
      clear e4 e0 e1 e2
      go_wp2_with fail
      refine (right_any _ _ _).mono ?_
      rintro e w1 ⟨rfl, hb⟩
      rw [HR.out]
      clear x0 x1 x2 x3 x4
      have h8 := add8_of H8.out hb
      clear H8 HR
      have H8 := hid h8
      have hl1 := Blk.lt h8.2.2
      have hl2 := Blk.lt h8.2.1.blk
      obtain ⟨x0, x1, x2, x3, x4⟩ := ord_box h8.2.2
      obtain ⟨y0, y1, y2, y3, y4, y5⟩ := h8.2.1.cells
      rw [E4.out] at x4
      rw [E0.out] at x0
      rw [E1.out] at x1
      rw [E2.out] at x2
      have hlk := map_look_none (w := (w1.alloc (.cells #[.int .i64 0, .int .i64 0, .int .i64 0, .int .i64 0, .bool false] 157)).drew) (h8.2.1.mp.alloc _) HF.out
      have hlk2 := map_look_none (w := w1.drew) h8.2.1.mp HF.out
      clear h8 hb
      go_upto_region 8 with fail
      go_cut [7] (fun s7 wx => s7 = .bool false ∧ Add8 w wx b a F M n r f H reg o')
      case first =>
        clear y0 y2 y3 y4 y5 x1 x2 x3 x4
        as_aux_lemma =>
        go_region_law (fail)
        all_goals go_wp2_with fail
        all_goals go_meet
        all_goals exact ⟨rfl, add8_of H8.out (Below.drew ((Below.refl _ w1).alloc (Nat.le_refl _) _))⟩
      case rest =>
        clear x0 x1 x2 x3 x4 y0 y1 y2 y3 y4 y5 hlk hlk2 hl1 hl2 H8
        obtain ⟨rfl, h8⟩ := hcut
        have H8 := hid h8
        have hl1 := Blk.lt h8.2.2
        have hl2 := Blk.lt h8.2.1.blk
        have hao : aggO o' = .agg #[.int .i64 o.id, .int .i64 o.side, .int .i64 o.kind, .int .i64 o'.price, .int .i64 o.qty] := by unfold aggO; rw [E0.out, E1.out, E2.out, E4.out]
        have hput : ∀ W, Below wc.heap.size wc W → Calls Tryz.prog 97 #[.pointer (some ⟨a, 0, none⟩), .agg #[.int .i64 o.id, .int .i64 o.side, .int .i64 o.kind, .int .i64 o'.price, .int .i64 o.qty]] W (PutP W a F M n o') := by
          intro W hW
          rw [← hao]
          refine (oar_put (h8.2.1.ar.below hW) (by omega) o').mono ?_
          rintro e w' (⟨h1, _, _⟩ | ⟨_, sl, ag, h1, h2, h3⟩)
          · have := HN.out; omega
          · exact ⟨sl, ag, h1, h2, h3⟩
        have HPA := hid (hput ((wc.alloc (.cells #[.int .i64 0, .int .i64 0] 155)).drew) (Below.drew ((Below.refl _ _).alloc (Nat.le_refl _) _)))
        have HPB := hid (hput wc.drew (Below.drew (Below.refl _ _)))
        obtain ⟨x0, x1, x2, x3, x4⟩ := ord_box h8.2.2
        obtain ⟨y0, y1, y2, y3, y4, y5⟩ := h8.2.1.cells
        rw [E4.out] at x4
        rw [E0.out] at x0
        rw [E1.out] at x1
        rw [E2.out] at x2
        clear h8 hput hao
        go_upto_region 11 with fail
        go_cut [8, 9] (fun s8 s9 wx => s9 = .nilIface ∧ Add11 w wx b a F M n r f H o' s8)
        case first =>
          clear y1 y2 y3 y4 y5
          as_aux_lemma =>
          go_region_with (first | (go_at_call 97; refine HPA.out.mono ?_; rintro e w5 ⟨sl, ag, hno, rfl, hto⟩; have hb5 := put_box H8.out.2.1.ar hto; have z0 : w5.cell? ⟨wc.heap.size, 0, none⟩ = some (.int .i64 0) := (by rw [Blk.cell hb5]; rfl); have z1 : w5.cell? ⟨wc.heap.size, 1, none⟩ = some (.int .i64 0) := (by rw [Blk.cell hb5]; rfl); have f0 := Blk.frozen hb5 0; have f1 := Blk.frozen hb5 1; have HB5 := hid hb5; have HT5 := hid hto; have HNo := hid hno; clear hto hno hb5) | (go_at_call 97; refine HPB.out.mono ?_; rintro e w5 ⟨sl, ag, hno, rfl, hto⟩; have HT5 := hid hto; have HNo := hid hno; clear hto hno))
          all_goals go_wp2_with fail
          all_goals go_meet
          all_goals
            refine ⟨rfl, ?_⟩
            first
              | exact add11_of HM.out H8.out (Below.drew ((Below.refl _ _).alloc (Nat.le_refl _) _)) HNo.out HT5.out (keeps2h _ _ 0 1 _ _) (.inl (by simp)) (Nat.le_refl _) (Blk.set_ (Blk.set_ HB5.out 0 _) 1 _)
              | exact add11_of HM.out H8.out (Below.drew (Below.refl _ _)) HNo.out HT5.out (Keeps.of_below ((Below.refl _ _).alloc (Nat.le_refl _) _) _) (.inr (Nat.le_refl _)) (Nat.le_trans (Below.drew (Below.refl wc.heap.size wc)).size HT5.out.choose_spec.2.1.size) (Blk.new _ _ _)
        case rest =>
          obtain ⟨rfl, hd, pb, F', reg', rfl, hno, hPb, hX, hM3, hS3, hnp, hnx⟩ := hcut
          clear x0 x1 x2 x3 x4 y0 y1 y2 y3 y4 y5 hl1 hl2 H8 HPA HPB
          have hI0 : IMap wc.drew r f := hM3.mp.of_block rfl
          obtain ⟨w4, hup, hI4, hT4⟩ := hI0.update (P := Tryz.prog) (t := 146) Tryz.underlying146 Tryz.underlying3 o.id (.agg #[.int .i64 hd.1, .int .i64 hd.2, .int .i64 o.side, .int .i64 o'.price, .bool mk])
          have hB3 : Below wc.heap.size wc wc.drew := Below.drew (Below.refl _ _)
          obtain ⟨hM4, hS4⟩ := (hM3.below hB3).map_ hT4 hI4
          have hS34 := (hS3.trans (BStep.of_below hB3)).trans hS4
          have hPb4 : Blk w4 pb 155 #[.int .i64 hd.1, .int .i64 hd.2] := Blk.of_block (Blk.drew hPb) (hT4.block pb (fun e => hnp (.inr (.inl e))))
          have hX4 : Blk w4 w.heap.size 24 (boxO o') := Blk.of_block (Blk.drew hX) (hT4.block _ (fun e => hnx (.inr (.inl e))))
          obtain ⟨x0, x1, x2, x3, x4⟩ := ord_box hX
          rw [E0.out] at x0
          rw [E1.out] at x1
          have p0 : wc.cell? ⟨pb, 0, none⟩ = some (.int .i64 hd.1) := by rw [Blk.cell hPb]; rfl
          have p1 : wc.cell? ⟨pb, 1, none⟩ = some (.int .i64 hd.2) := by rw [Blk.cell hPb]; rfl
          have y1 := hM3.cells.2.1
          have HM4 := hid hM4
          have HS34 := hid hS34
          have HPb := hid hPb4
          have HX4 := hid hX4
          have HNo := hid hno
          have HNp := hid hnp
          have HNx := hid hnx
          clear hI0 hI4 hT4 hM4 hS4 hS34 hPb4 hX4 hPb hX hM3 hS3 hno hnp hnx hB3 x2 x4
          go_upto_region 14 with fail
          go_cut [75] (fun s75 wx => wx = w4)
          case first =>
            go_still_tail 13, (by kernel_rfl)
            change wpList _ _ _ _ _ wc.drew
            go_wp2_with fail
            go_meet
            rfl
          case rest =>
            subst hcut
            clear x0 x1 x3 p0 p1 y1 hup
            have hpv : Value.agg #[.int .i64 hd.1, .int .i64 hd.2, .int .i64 o.side, .int .i64 o'.price, .bool mk] = placeV (hd, o') := by
              unfold placeV
              dsimp only
              rw [E1.out, E2.out, HK.out]
            have HMp := hid (show BookM wc b a F' (withO M hd.1 hd.2 (some o')) (n + 1) r (updI f o'.id (some (placeV (hd, o')))) H reg' by rw [← hpv, E0.out]; exact HM4.out)
            clear hpv HM4
            have hs := HSide.out
            have hs' : o'.side = 2 := E1.out.trans hs
            have HSd1 := hid hs'
            obtain ⟨y0, y1, y2, y3, y4, y5⟩ := HMp.out.cells
            have x1 : wc.cell? ⟨w.heap.size, 1, none⟩ = some (.int .i64 2) := by rw [Blk.cell HX4.out]; show some (Value.int .i64 o'.side) = _; rw [hs']
            have HSd2 := hid hs
            clear y0 y1 y2 y3 y4 y5 hs hs'
            have hmk2 := HMkv.out
            subst hmk2
            have HKm : Hid (o'.kind ≠ 2) := hid (by rw [E2.out]; simpa using HK.out)
            have x3 : wc.cell? ⟨w.heap.size, 3, none⟩ = some (.int .i64 o'.price) := by rw [Blk.cell HX4.out]; rfl
            go_wp2_with fail
            go_quiet (fail)
            have hq : Below wc.heap.size wc (wc.drewN nq) := drewN_below (Below.refl _ _) nq
            have HM5 := hid (HMp.out.below hq)
            have HPb5 := hid (Blk.drewN HPb.out nq)
            have HX5 := hid (Blk.drewN HX4.out nq)
            have HS5 := hid (HS34.out.trans (BStep.of_below hq))
            clear hq
            generalize wc.drewN nq = w5 at HM5 HPb5 HX5 HS5 ⊢
            clear x1 x3
            have x1 : w5.cell? ⟨w.heap.size, 1, none⟩ = some (.int .i64 2) := by rw [Blk.cell HX5.out]; show some (Value.int .i64 o'.side) = _; rw [HSd1.out]
            have x3 : w5.cell? ⟨w.heap.size, 3, none⟩ = some (.int .i64 o'.price) := by rw [Blk.cell HX5.out]; rfl
            have hfind := find_any w5 b 4 2 o'.price _ _ _ _ (HM5.out.cells).2.2.2.2.2 (by
              have := ElemsAt.of_row encQ_length (by omega) (HM5.out.hx 2 Is12_2).rq
              exact this) (HSm.out.is 2 Is12_2).rank (qs_len Is12_2 HSm.out HN.out)
            have HFi := hid hfind
            clear hfind
            go_wp2_with fail
            refine HFi.out.mono ?_
            rintro e w7 ⟨hb7, k, hk7, rfl⟩
            have HM7 := hid (HM5.out.below hb7)
            have HPb7 := hid (Blk.keep HPb5.out hb7)
            have HX7 := hid (Blk.keep HX5.out hb7)
            have HS7 := hid (HS5.out.trans (BStep.of_below hb7))
            have HK7 := hid hk7
            clear x1 x3 hb7 hk7 HM5 HPb5 HX5 HS5 HFi
            obtain ⟨fb, HFb⟩ : ∃ fb, Hid (foundB 2 o'.price ((H 2).qs.map QG.que) (H 2).qs.length k = fb) := ⟨_, hid rfl⟩
            rw [HFb.out]
            go_upto_if 104 with fail
            go_cut [105] (fun s105 wx => Add20 w wx b a r F F' (withO M hd.1 hd.2 (some o')) n (updI f o'.id (some (placeV (hd, o')))) H 2 o'.price k pb ∧ Blk wx pb 155 #[.int .i64 hd.1, .int .i64 hd.2])
            case first =>
              cases fb with
              | true =>
                go_wp2_with fail
                go_meet
                exact ⟨add20_found HNp.out HSm.out Is12_2 HM7.out HS7.out HFb.out, HPb7.out⟩
              | false =>
                have hvb : Below w7.heap.size w7 ((w7.alloc (.cells #[.int .i64 o'.price, .slice none 0 0] 166)).drew) := Below.drew ((Below.refl _ _).alloc (Nat.le_refl _) _)
                have hM7 := HM7.out.below hvb
                have hins := insertQ_any ((w7.alloc (.cells #[.int .i64 o'.price, .slice none 0 0] 166)).drew) (H 2).qA (H 2).qs.length (H 2).qc k ((H 2).qs.map QG.que) w7.heap.size (o'.price, none, 0, 0) (hM7.hx 2 Is12_2).rq (Blk.drew (Blk.new w7 _ _)) (fun e => by have := (HM7.out.hx 2 Is12_2).rq.lt e; omega) (qs_len Is12_2 HSm.out HN.out) HK7.out.1
                have HIns := hid hins
                obtain ⟨z0, z1, z2, z3, z4, z5⟩ := HM7.out.cells
                have x3 : w7.cell? ⟨w.heap.size, 3, none⟩ = some (.int .i64 o'.price) := by rw [Blk.cell HX7.out]; rfl
                have hbl := Blk.lt HM7.out.blk
                have hxl := Blk.lt HX7.out
                have HM8 := hid hM7
                have HV8 := hid hvb
                clear hins hM7 hvb z0 z1 z2 z3 z4
                go_wp2_with fail
                as_aux_lemma =>
                go_region_with (go_at_call 99; refine HIns.out.mono ?_; rintro e w8 ⟨A8, c8, rfl, hI8⟩; have b8 := Blk.keeps HM8.out.blk hI8.2.1 (fun e => by have h1 := (HM8.out.hx 2 Is12_2).gq b e; have h2 := HM8.out.gb; omega); have r0 : w8.cell? ⟨b, 5, none⟩ = some (.slice (H 2).qA (H 2).qs.length (H 2).qc) := (by rw [Blk.cell b8]; rfl); have rf0 := Blk.frozen b8 5; have HI8 := hid hI8; clear hI8 b8)
                all_goals go_wp2_with fail
                all_goals go_meet
                all_goals
                  refine ⟨add20_new HNp.out (Blk.lt (Blk.keep HPb7.out HV8.out)) HSm.out Is12_2 HM8.out (HS7.out.trans (BStep.of_below HV8.out)) HK7.out HFb.out HI8.out rfl, ?_⟩
                  refine Blk.far (Blk.keeps (Blk.keep HPb7.out HV8.out) HI8.out.2.1 (fun e => ?_)) (fun e => ?_) _
                  · exact HNp.out (BookM.fpH 2 Is12_2 (.inr (.inl e)))
                  · exact HNp.out (.inl e)
            case rest =>
              obtain ⟨⟨H1, reg1, qA, qc, qs, hM9, hS9, hH1, hi9, ha9, hnp9, hkl, hp9, hne9⟩, hPb9⟩ := hcut
              have e1 : H1 2 = ⟨(H 2).mA, (H 2).mc, qA, qc, (H 2).ms, qs⟩ := by rw [hH1]; exact upH_self _ _ _
              have hx9 := hM9.hx 2 Is12_2
              rw [e1] at hx9
              obtain ⟨qg, hqg, hqc⟩ := hx9.rq.elem encQ_length (by omega) (i := k) (by simpa using hkl)
              dsimp only at hqg
              subst hqg
              obtain ⟨y0, y1, y2, y3, y4, y5⟩ := hM9.cells
              rw [e1] at y5
              dsimp only at y5
              obtain ⟨q, hqk⟩ : ∃ q, qs[k]'hkl = q := ⟨_, rfl⟩
              obtain ⟨m, hm⟩ : ∃ m, q.os.length = m := ⟨_, rfl⟩
              have q0 : wc.cell? ⟨qg, k * 2, none⟩ = some (.int .i64 q.price) := by have := hqc 0 _ rfl; rw [← hqk]; simpa [QG.que] using this
              have q1 : wc.cell? ⟨qg, k * 2 + 1, none⟩ = some (.slice q.A m q.c) := by have := hqc 1 _ rfl; rw [← hm, ← hqk]; simpa [QG.que] using this
              have hmem : q ∈ qs := by rw [← hqk]; exact List.getElem_mem _
              have HRow := hid (show RowAt wc q.A m q.c 155 2 (flat encH (hndL q.os)) by rw [← hm]; exact hx9.rl _ hmem)
              have HQR := hid hx9.rq
              have hqb : (blkOf (some (⟨qg, 0, none⟩ : Addr))) = some qg := rfl
              have hgq := hx9.gq qg hqb
              have hql := hx9.rq.lt hqb
              have hqm : blkOf q.A ≠ some qg := fun e => by have := hx9.gl _ hmem qg e; omega
              have HQm := hid hqm
              have HQp := hid (show blkOf q.A ≠ some pb from fun e => hnp9 (BookM.fpH 2 Is12_2 (.inr (.inr ⟨q, by rw [e1]; exact hmem, e⟩))))
              have HQp2 := hid (show qg ≠ pb from fun e => hnp9 (BookM.fpH 2 Is12_2 (.inr (.inl (by rw [e1, ← e]; rfl)))))
              have HQb2 := hid (show qg ≠ b from fun e => by have h2 := hM9.gb; rw [← e] at h2; omega)
              have HQb := hid (show blkOf q.A ≠ some b from fun e => by have h1 := hx9.gl _ hmem b e; have h2 := hM9.gb; omega)
              obtain ⟨l, hll⟩ : ∃ l, qs.length = l := ⟨_, rfl⟩
              have hm100 : m ≤ 1000 := by
                have h1 := HSm.out.cnt
                have h2 := HN.out
                have h3 : m ≤ (hOrd (H 2).ms qs).length := by
                  unfold hOrd
                  rw [qOrd_split qs hkl, hqk]
                  simp only [List.length_append]
                  omega
                rw [ha9] at h3
                unfold allH at h1
                simp only [List.length_append] at h1
                omega
              rw [hll] at y5
              have HM9 := hid hM9
              have HS9 := hid hS9
              have HH1 := hid hH1
              have HI9 := hid hi9
              have HA9 := hid ha9
              have HP9 := hid hp9
              have HNe9 := hid hne9
              have HPb9 := hid hPb9
              have Hm := hid hm
              have Hkl := hid hkl
              have hkz : (k : Int) < (l : Int) := by omega
              have hk0 : (0 : Int) ≤ (k : Int) := by omega
              obtain ⟨p0, p1⟩ : wc.cell? ⟨pb, 0, none⟩ = some (.int .i64 hd.1) ∧ wc.cell? ⟨pb, 1, none⟩ = some (.int .i64 hd.2) := ⟨by rw [Blk.cell hPb9]; rfl, by rw [Blk.cell hPb9]; rfl⟩
              have hbl := Blk.lt hM9.blk
              have hpl := Blk.lt hPb9
              obtain ⟨i0, hi0, hz0, hz1, hz2⟩ := info_parts handle_info
              clear hnp9 hM9 hS9 hH1 hi9 ha9 hp9 hne9 hPb9 hm hqm hgq hqb hmem e1 hx9 hqc hll y0 y1 y2 y3 y4
              have Hqk := hid hqk
              clear hqk

              go_upto_region 22 with fail
              go_cut [133] (fun s133 wx => Add22 wc wx qg k m q.A q.c (flat encH (hndL q.os) ++ encH hd))
              case first =>
                as_aux_lemma =>
                refine wp_region_heldT_drew 18 (fun W => W.cell? ⟨qg, k * 2 + 1, none⟩ = some (.slice q.A m q.c) ∧ W.cell? ⟨b, 5, none⟩ = some (.slice (some ⟨qg, 0, none⟩) l qc) ∧ W.cell? ⟨pb, 0, none⟩ = some (.int .i64 hd.1) ∧ W.cell? ⟨pb, 1, none⟩ = some (.int .i64 hd.2)) (by kernel_rfl) ⟨q1, y5, p0, p1⟩ (fun hS => ?_)
                refine takeT 0 118 (.pointer (some ⟨b, 4, none⟩)) rfl rfl rfl (by kernel_rfl) (by kernel_rfl) (by kernel_rfl) (by kernel_rfl) (fun _ _ _ h => h) (by rfl) ?_ (by assumption) ?_
                · intro W hSw; go_simp
                simp only [Act.put, List.setIfInBounds_toArray, List.set_cons_zero, List.set_cons_succ]
                refine takeT 1 119 (.pointer (some ⟨b, 4, none⟩)) rfl rfl rfl (by kernel_rfl) (by kernel_rfl) (by kernel_rfl) (by kernel_rfl) (fun _ _ _ h => h) (by rfl) ?_ (by assumption) ?_
                · intro W hSw; go_simp
                simp only [Act.put, List.setIfInBounds_toArray, List.set_cons_zero, List.set_cons_succ]
                refine takeT 2 120 (.pointer (some ⟨b, 5, none⟩)) rfl rfl rfl (by kernel_rfl) (by kernel_rfl) (by kernel_rfl) (by kernel_rfl) (fun _ _ _ h => h) (by rfl) ?_ (by assumption) ?_
                · intro W hSw; go_simp
                simp only [Act.put, List.setIfInBounds_toArray, List.set_cons_zero, List.set_cons_succ]
                refine takeT 3 121 (.slice (some ⟨qg, 0, none⟩) l qc) rfl rfl rfl (by kernel_rfl) (by kernel_rfl) (by kernel_rfl) (by kernel_rfl) (fun _ _ _ h => h) (by rfl) ?_ (by assumption) ?_
                · intro W hSw; go_simp
                simp only [Act.put, List.setIfInBounds_toArray, List.set_cons_zero, List.set_cons_succ]
                refine takeT 4 122 (.int .i64 k) rfl rfl rfl (by kernel_rfl) (by kernel_rfl) (by kernel_rfl) (by kernel_rfl) (fun _ _ _ h => h) (by rfl) ?_ (by assumption) ?_
                · intro W hSw; go_simp
                simp only [Act.put, List.setIfInBounds_toArray, List.set_cons_zero, List.set_cons_succ]
                refine takeT 5 123 (.pointer (some ⟨b, 4, none⟩)) rfl rfl rfl (by kernel_rfl) (by kernel_rfl) (by kernel_rfl) (by kernel_rfl) (fun _ _ _ h => h) (by rfl) ?_ (by assumption) ?_
                · intro W hSw; go_simp
                simp only [Act.put, List.setIfInBounds_toArray, List.set_cons_zero, List.set_cons_succ]
                refine takeT 6 124 (.pointer (some ⟨b, 4, none⟩)) rfl rfl rfl (by kernel_rfl) (by kernel_rfl) (by kernel_rfl) (by kernel_rfl) (fun _ _ _ h => h) (by rfl) ?_ (by assumption) ?_
                · intro W hSw; go_simp
                simp only [Act.put, List.setIfInBounds_toArray, List.set_cons_zero, List.set_cons_succ]
                refine takeT 7 125 (.pointer (some ⟨b, 5, none⟩)) rfl rfl rfl (by kernel_rfl) (by kernel_rfl) (by kernel_rfl) (by kernel_rfl) (fun _ _ _ h => h) (by rfl) ?_ (by assumption) ?_
                · intro W hSw; go_simp
                simp only [Act.put, List.setIfInBounds_toArray, List.set_cons_zero, List.set_cons_succ]
                refine takeT 8 126 (.slice (some ⟨qg, 0, none⟩) l qc) rfl rfl rfl (by kernel_rfl) (by kernel_rfl) (by kernel_rfl) (by kernel_rfl) (fun _ _ _ h => h) (by rfl) ?_ (by assumption) ?_
                · intro W hSw; go_simp
                simp only [Act.put, List.setIfInBounds_toArray, List.set_cons_zero, List.set_cons_succ]
                refine takeT 9 127 (.int .i64 k) rfl rfl rfl (by kernel_rfl) (by kernel_rfl) (by kernel_rfl) (by kernel_rfl) (fun _ _ _ h => h) (by rfl) ?_ (by assumption) ?_
                · intro W hSw; go_simp
                simp only [Act.put, List.setIfInBounds_toArray, List.set_cons_zero, List.set_cons_succ]
                refine takeT 10 128 (.pointer (some ⟨qg, k * 2, none⟩)) rfl rfl rfl (by kernel_rfl) (by kernel_rfl) (by kernel_rfl) (by kernel_rfl) (fun _ _ _ h => h) (by rfl) ?_ (by assumption) ?_
                · intro W hSw; go_simp
                simp only [Act.put, List.setIfInBounds_toArray, List.set_cons_zero, List.set_cons_succ]
                refine takeT 11 129 (.pointer (some ⟨qg, k * 2 + 1, none⟩)) rfl rfl rfl (by kernel_rfl) (by kernel_rfl) (by kernel_rfl) (by kernel_rfl) (fun _ _ _ h => h) (by rfl) ?_ (by assumption) ?_
                · intro W hSw; go_simp
                simp only [Act.put, List.setIfInBounds_toArray, List.set_cons_zero, List.set_cons_succ]
                refine takeT 12 130 (.slice q.A m q.c) rfl rfl rfl (by kernel_rfl) (by kernel_rfl) (by kernel_rfl) (by kernel_rfl) (fun _ _ _ h => h) (by rfl) ?_ (by assumption) ?_
                · intro W hSw; go_simp
                simp only [Act.put, List.setIfInBounds_toArray, List.set_cons_zero, List.set_cons_succ]
                refine takeT 13 131 (.agg #[.int .i64 hd.1, .int .i64 hd.2]) rfl rfl rfl (by kernel_rfl) (by kernel_rfl) (by kernel_rfl) (by kernel_rfl) (fun _ _ _ h => h) (by rfl) ?_ (by assumption) ?_
                · intro W hSw; go_simp
                simp only [Act.put, List.setIfInBounds_toArray, List.set_cons_zero, List.set_cons_succ]
                refine wpAnyT_one 14 (by kernel_rfl) rfl (fun K1 hK1 => ?_)
                go_simp
                have hal : Below wc.heap.size wc (wc.alloc (.cells #[.int .i64 hd.1, .int .i64 hd.2] 155)).drew := Below.drew ((Below.refl _ wc).alloc (Nat.le_refl _) _)
                refine hK1 _ _ ⟨(hal.cell (p := ⟨qg, k * 2 + 1, none⟩) hql).trans q1, (hal.cell (p := ⟨b, 5, none⟩) hbl).trans y5, (hal.cell (p := ⟨pb, 0, none⟩) hpl).trans p0, (hal.cell (p := ⟨pb, 1, none⟩) hpl).trans p1⟩ (fun hS => ?_)
                clear hK1 hal
                refine wpAnyT_one 15 (by kernel_rfl) rfl (fun K1 hK1 => ?_)
                refine step_append_lies _ (by rfl) _ _ _ (by rfl) 0 155 i0 _ 2 16 Tryz.underlying147 hi0 hz0 hz1 hz2 rfl (by omega) (.slice q.A m q.c) m _ (by rfl) ((World.ownsRow.alloc HRow.out _).drew) ⟨wc.heap.size, 0, none⟩ 1 1 (encH hd) (by rfl) (by rfl) (World.news_of_block (cs := #[.int .i64 hd.1, .int .i64 hd.2]) (t := 155) (fr := (0, 0)) (heap_alloc_new wc _)) (encH_one _) (by omega) (by unfold maxLen; omega) (by omega) (by simp) (wc.heap.size + 1) (by simp) ?_
                intro gg cap w6 hown hgrow hat hlt
                have hk6 := okeeps_of_grown hgrow
                have R6 := RowAt.keeps HQR.out hk6 (fun g hg e => by rw [own_slice] at e; cases hg; exact HQm.out e)
                have r1 : w6.cell? ⟨qg, k * 2 + 1, none⟩ = some (.slice q.A m q.c) := (hk6.cell (p := ⟨qg, k * 2 + 1, none⟩) hql (fun e => by rw [own_slice] at e; exact HQm.out e)).trans q1
                have r2 : w6.cell? ⟨b, 5, none⟩ = some (.slice (some ⟨qg, 0, none⟩) l qc) := (hk6.cell (p := ⟨b, 5, none⟩) hbl (fun e => by rw [own_slice] at e; exact HQb.out e)).trans y5
                have r3 : w6.cell? ⟨pb, 0, none⟩ = some (.int .i64 hd.1) := (hk6.cell (p := ⟨pb, 0, none⟩) hpl (fun e => by rw [own_slice] at e; exact HQp.out e)).trans p0
                have r4 : w6.cell? ⟨pb, 1, none⟩ = some (.int .i64 hd.2) := (hk6.cell (p := ⟨pb, 1, none⟩) hpl (fun e => by rw [own_slice] at e; exact HQp.out e)).trans p1
                have rf1 := RowAt.frozen R6 (k * 2 + 1)
                have HK6 := hid hk6
                have HO6 := hid hown
                have HA6 := hid hat
                clear R6 hgrow hk6 hown hat
                refine hK1 _ _ ⟨r1, r2, r3, r4⟩ (fun hS => ?_)
                clear hK1
                simp only [Act.put, List.setIfInBounds_toArray, List.set_cons_zero, List.set_cons_succ]
                refine wpAnyT_one 16 (by kernel_rfl) rfl (fun K1 hK1 => ?_)
                go_simp
                refine hK1 _ _ ⟨r1, r2, r3, r4⟩ (fun hS => ?_)
                clear hK1
                refine wpAnyT_one 17 (by kernel_rfl) rfl (fun K1 hK1 => ?_)
                go_simp
                refine hK1 _ _ ⟨r1, r2, r3, r4⟩ (fun hS => ?_)
                clear hK1
                refine wpAnyT_last (by kernel_rfl) rfl (fun K1 hK1 => ?_)
                go_simp
                refine hK1 _ _ (wpAnyT_done (by kernel_rfl) ?_ _)
                clear hK1
                go_wp2_with fail
                go_meet
                exact ⟨gg, cap, w6, rfl, HK6.out, HO6.out, HA6.out⟩
              case rest =>
                obtain ⟨gg, cap, w6, rfl, hk6, ho6, ha6⟩ := hcut
                have HK6 := hid hk6
                have HO6 := hid ho6
                have HA6 := hid ha6
                clear hk6 ho6 ha6
                go_wp2_with fail
                go_ret
                refine ⟨rfl, ?_⟩
                rw [HO.out]
                have hkl := Hkl.out
                have e : qs[k] = q := Hqk.out
                refine addDone_queue (k := k) (qg := qg) (qs := qs) (qA := some ⟨qg, 0, none⟩) (qc := qc) HSm.out Is12_2 HSd1.out HKm.out HOk.out HNo.out (by rw [E0.out]; exact HF.out) HM9.out HS9.out HH1.out HI9.out HA9.out hkl (HP9.out) HNe9.out rfl (by rw [e]; exact Hm.out) ?_ ?_ ?_
                · rw [e]; exact HK6.out
                · rw [e]; exact HO6.out
                · rw [e]; exact HA6.out
end Go.Proofs.YtkcgchpbjegneaaGreatDoor
