/-
  The walk of Indic.change, for an order more.
-/
import Derived.WalkKit
import Derived.WalkLawsBesides
import Derived.WalkSpells
import Derived.Deep.DeepCutAuto
import Derived.Deep.CutBlock
import Derived.Deep.QuietTactic
import Derived.BigQuiet
import Derived.Deep.RegionWith
import Derived.Test.YteggaehelnmhnaaDoorHeldT
import Derived.Test.YteggaehelnmhnaaDoorIndAt
namespace Go.Proofs.YteggaehelnmhnaaDoor
open Go.RowKit
set_option linter.unusedVariables false

set_option maxRecDepth 100000 in
set_option maxHeartbeats 4000000 in
theorem change_market (w : World) (X : Nat) (t : TypeId) (cs : Array Value) (o : Nat) (A : Option Addr) (c : Nat) (lv : List Tri) (bu se : Int) (h : IndM w X t cs o A c lv bu se) (hs : Small lv bu se) (z : Ord5) (hr : RightO z) (hk : z.kind = 2) (q : Int) (hq : q = 1 ∨ q = -1) (hp : q = -1 → z.qty ≤ (if z.side = 1 then bu else se)) :
    Calls Tryd.prog 17 #[.pointer (some ⟨X, o, none⟩), aggO z, .int .i64 q] w fun e w' => (∃ v, e = .returned v) ∧ IndTo w w' X t cs o A lv (bu + q * dB z) (se + q * dS z) := by
  obtain ⟨⟨hb1, hb2⟩, ⟨hs1, hs2⟩, -, -⟩ := hs
  obtain ⟨hsd, ⟨hq1, hq2⟩, -⟩ := hr
  have hbx : Below w.heap.size w (w.alloc (.cells #[.int .i64 z.id, .int .i64 z.side, .int .i64 z.kind, .int .i64 z.price, .int .i64 z.qty] 28)) := (Below.refl _ w).alloc (Nat.le_refl _) _
  have h' := h.below hbx
  obtain ⟨y0, y1, y2⟩ := h'.cells
  have f1 := Blk.frozen h'.blk (o + 1)
  have f2 := Blk.frozen h'.blk (o + 2)
  have hX := Blk.lt h.blk
  have t1 := beqT hk
  have H := hid h
  have HBx := hid hbx
  unfold aggO
  have hm1 : RowKit.wrap64 (z.qty * q) = z.qty * q := by rcases hq with rfl | rfl <;> (unfold RowKit.wrap64; omega)
  obtain ⟨m, hm⟩ : ∃ m, z.qty * q = m := ⟨_, rfl⟩
  have hmq : m = q * z.qty := by rw [← hm, Int.mul_comm]
  have hmb : -1000000 ≤ m ∧ m ≤ 1000000 := by rcases hq with rfl | rfl <;> omega
  rw [hm] at hm1
  rcases hsd with hsd | hsd
  · have t2 := beqT hsd
    have i1 : RowKit.wrap64 (bu + m) = bu + m := by unfold RowKit.wrap64; omega
    have e1 : bu + q * dB z = bu + m := by unfold dB; rw [if_pos hsd, hmq]
    have e2 : se + q * dS z = se := by unfold dS; rw [if_pos hsd]; omega
    rw [e1, e2]
    clear h h' hbx hk hsd hq hp hm1 hmq hb1 hb2 hs1 hs2 hq1 hq2 e1 e2 y0 y2 f2
    go_enter Tryd.func17, Tryd.ntmps17
    go_wp2_with fail
    refine bodyPost_ret (results_none rfl _ _ _) rfl ?_
    exact ⟨⟨_, rfl⟩, (H.out.market (Below.refl _ _) _ _ 1 _ (.inl ⟨rfl, rfl, rfl⟩)).then_ ((Below.refl _ _).alloc (Nat.le_refl _) _)⟩
  · have t2 := beqF (show ¬ z.side = 1 by omega)
    have i1 : RowKit.wrap64 (se + m) = se + m := by unfold RowKit.wrap64; omega
    have e1 : bu + q * dB z = bu := by unfold dB; rw [if_neg (by omega)]; omega
    have e2 : se + q * dS z = se + m := by unfold dS; rw [if_neg (by omega), hmq]
    rw [e1, e2]
    clear h h' hbx hk hsd hq hp hm1 hmq hb1 hb2 hs1 hs2 hq1 hq2 e1 e2 y0 y1 f1
    go_enter Tryd.func17, Tryd.ntmps17
    go_wp2_with fail
    refine bodyPost_ret (results_none rfl _ _ _) rfl ?_
    exact ⟨⟨_, rfl⟩, (H.out.market (Below.refl _ _) _ _ 2 _ (.inr ⟨rfl, rfl, rfl⟩)).then_ ((Below.refl _ _).alloc (Nat.le_refl _) _)⟩

theorem mid_len {lv2 : List Tri} {n1 k m2 : Nat} (h : lv2.length = n1) (hk : k < lv2.length) (e : k + (n1 - (k + 1)) = m2) : lv2.length = m2 + 1 := by omega
theorem mid_wrap {n k : Nat} (hn : n ≤ 99999) (hk : k ≤ n) : RowKit.wrap64 ((k : Int) + 1) = (k : Int) + 1 := by unfold RowKit.wrap64; omega
set_option maxRecDepth 100000 in
set_option maxHeartbeats 8000000 in
theorem change_level (w : World) (X : Nat) (t : TypeId) (cs : Array Value) (o : Nat) (A : Option Addr) (c : Nat) (lv : List Tri) (bu se : Int) (h : IndM w X t cs o A c lv bu se) (hs : Small lv bu se) (z : Ord5) (hr : RightO z) (hk : z.kind ≠ 2) (q : Int) (hq : q = 1 ∨ q = -1) (hp : q = -1 → z.qty ≤ (if z.side = 1 then (lotAt lv z.price).1 else (lotAt lv z.price).2)) :
    Calls Tryd.prog 17 #[.pointer (some ⟨X, o, none⟩), aggO z, .int .i64 q] w fun e w' => (∃ v, e = .returned v) ∧ ∃ lv', IndTo w w' X t cs o A lv' bu se ∧ lv'.length ≤ lv.length + 1 ∧ ∀ p, lotAt lv' p = if p = z.price then ((lotAt lv p).1 + q * dB z, (lotAt lv p).2 + q * dS z) else lotAt lv p := by
  obtain ⟨hsd, ⟨hq1, hq2⟩, hpr⟩ := hr
  have hpr : 1 ≤ z.price ∧ z.price ≤ 1000000 := hpr.resolve_left hk
  have hbx : Below w.heap.size w (w.alloc (.cells #[.int .i64 z.id, .int .i64 z.side, .int .i64 z.kind, .int .i64 z.price, .int .i64 z.qty] 28)) := (Below.refl _ w).alloc (Nat.le_refl _) _
  have h' := h.below hbx
  obtain ⟨n, hn⟩ : ∃ n, lv.length = n := ⟨_, rfl⟩
  have hn1 : n ≤ 99999 := by have := hs.n; omega
  have y0 := h'.cells.1
  rw [hn] at y0
  obtain ⟨w1, hw1⟩ : ∃ w1, w.alloc (.cells #[.int .i64 z.id, .int .i64 z.side, .int .i64 z.kind, .int .i64 z.price, .int .i64 z.qty] 28) = w1 := ⟨_, rfl⟩
  obtain ⟨Bx, hBx⟩ : ∃ Bx, w.heap.size = Bx := ⟨_, rfl⟩
  have hB1 := Blk.new w 28 #[.int .i64 z.id, .int .i64 z.side, .int .i64 z.kind, .int .i64 z.price, .int .i64 z.qty]
  rw [hw1] at hbx h' y0 hB1
  rw [hBx] at hB1
  have hXl := Blk.lt h'.blk
  have hXB : X < Bx := by rw [← hBx]; exact Blk.lt h.blk
  have hBl := Blk.lt hB1
  obtain ⟨x0, x1, x2, x3, x4⟩ := (show w1.cell? ⟨Bx, 0, none⟩ = some (.int .i64 z.id) ∧ w1.cell? ⟨Bx, 1, none⟩ = some (.int .i64 z.side) ∧ w1.cell? ⟨Bx, 2, none⟩ = some (.int .i64 z.kind) ∧ w1.cell? ⟨Bx, 3, none⟩ = some (.int .i64 z.price) ∧ w1.cell? ⟨Bx, 4, none⟩ = some (.int .i64 z.qty) from ⟨by rw [Blk.cell hB1]; rfl, by rw [Blk.cell hB1]; rfl, by rw [Blk.cell hB1]; rfl, by rw [Blk.cell hB1]; rfl, by rw [Blk.cell hB1]; rfl⟩)
  have hse := searchL_any z.price 26 #[] A n c lv w1.drew (by rw [← hn]; exact ElemsAt.of_row encT_length (by omega) (h'.below (Below.drew (Below.refl _ _))).row) h.ok.rank (by omega) (Go.Proofs.enters_of Tryd.func26 (by kernel_rfl) rfl)
    (fun W q hm hW => changeCmp_any q.1 q.2.1 q.2.2 z.price (by have := h.ok.pr q hm; unfold Near40; omega) (by unfold Near40; omega) W)
  have HSe := hid hse
  have t1 := beqF hk
  have H := hid h
  have HS := hid hs
  have Hn := hid hn
  have HNb := hid (show blkOf A ≠ some Bx from fun e => by have := h.row.lt e; omega)
  have HBx := hid hbx
  have HB1 := hid hB1
  have hm1 : RowKit.wrap64 (z.qty * q) = z.qty * q := by rcases hq with rfl | rfl <;> (unfold RowKit.wrap64; omega)
  obtain ⟨m, hm⟩ : ∃ m, z.qty * q = m := ⟨_, rfl⟩
  have hmq : q * z.qty = m := by rw [← hm, Int.mul_comm]
  replace hm1 : RowKit.wrap64 (z.qty * q) = m := hm1.trans hm
  have Hm := hid hmq
  have Hq := hid hq
  have Hp := hid hp
  have Hsd := hid hsd
  have Hq12 := hid (show 1 ≤ z.qty ∧ z.qty ≤ 1000000 from ⟨hq1, hq2⟩)
  unfold aggO
  clear h h' hs hse hbx hB1 hk hpr hq hp hm hmq hsd hn hq1 hq2
  go_enter Tryd.func17, Tryd.ntmps17
  go_upto_region 1 with fail
  clear hw1 hBx
  go_wp2_with fail
  refine wp_region_heldT_drew 11 (fun W => W.cell? ⟨X, o, none⟩ = some (.slice A n c) ∧ W.cell? ⟨Bx, 3, none⟩ = some (.int .i64 z.price)) (by kernel_rfl) ⟨y0, x3⟩ (fun hS => ?_)
  refine takeT 0 37 (.pointer (some ⟨X, o, none⟩)) rfl rfl rfl (by kernel_rfl) (by kernel_rfl) (by kernel_rfl) (by kernel_rfl) (fun _ _ _ h => h) (by rfl) ?_ (by assumption) ?_
  · intro W hSw; go_simp
  simp only [Act.put, List.setIfInBounds_toArray, List.set_cons_zero, List.set_cons_succ]
  refine takeT 1 38 (.pointer (some ⟨X, o, none⟩)) rfl rfl rfl (by kernel_rfl) (by kernel_rfl) (by kernel_rfl) (by kernel_rfl) (fun _ _ _ h => h) (by rfl) ?_ (by assumption) ?_
  · intro W hSw; go_simp
  simp only [Act.put, List.setIfInBounds_toArray, List.set_cons_zero, List.set_cons_succ]
  refine takeT 2 39 (.pointer (some ⟨X, o, none⟩)) rfl rfl rfl (by kernel_rfl) (by kernel_rfl) (by kernel_rfl) (by kernel_rfl) (fun _ _ _ h => h) (by rfl) ?_ (by assumption) ?_
  · intro W hSw; go_simp
  simp only [Act.put, List.setIfInBounds_toArray, List.set_cons_zero, List.set_cons_succ]
  refine takeT 3 40 (.slice A n c) rfl rfl rfl (by kernel_rfl) (by kernel_rfl) (by kernel_rfl) (by kernel_rfl) (fun _ _ _ h => h) (by rfl) ?_ (by assumption) ?_
  · intro W hSw; go_simp
  simp only [Act.put, List.setIfInBounds_toArray, List.set_cons_zero, List.set_cons_succ]
  refine takeT 4 41 (.pointer (some ⟨Bx, 3, none⟩)) rfl rfl rfl (by kernel_rfl) (by kernel_rfl) (by kernel_rfl) (by kernel_rfl) (fun _ _ _ h => h) (by rfl) ?_ (by assumption) ?_
  · intro W hSw; go_simp
  simp only [Act.put, List.setIfInBounds_toArray, List.set_cons_zero, List.set_cons_succ]
  refine takeT 5 42 (.int .i64 z.price) rfl rfl rfl (by kernel_rfl) (by kernel_rfl) (by kernel_rfl) (by kernel_rfl) (fun _ _ _ h => h) (by rfl) ?_ (by assumption) ?_
  · intro W hSw; go_simp
  simp only [Act.put, List.setIfInBounds_toArray, List.set_cons_zero, List.set_cons_succ]
  refine wpAnyT_one 6 (by kernel_rfl) rfl (fun K1 hK1 => ?_)
  go_simp
  refine HSe.out.mono ?_
  rintro e w2 ⟨hb2, k, hkn, hk1, hk2, rfl⟩
  obtain ⟨fb, hfb⟩ : ∃ fb, foundL lv z.price n k = fb := ⟨_, rfl⟩
  rw [hfb]
  have hy0 := (hb2.cell (p := ⟨X, o, none⟩) hXl).trans y0
  have hx3 := (hb2.cell (p := ⟨Bx, 3, none⟩) hBl).trans x3
  refine hK1 _ _ ⟨hy0, hx3⟩ (fun hS => ?_)
  clear hK1
  refine takeT 7 36 (.tuple #[.int .i64 k, .bool fb]) rfl rfl rfl (by kernel_rfl) (by kernel_rfl) (by kernel_rfl) (by kernel_rfl) (fun _ _ _ h => h) (by rfl) ?_ (by assumption) ?_
  · intro W hSw; go_simp
  simp only [Act.put, List.setIfInBounds_toArray, List.set_cons_zero, List.set_cons_succ]
  refine takeT 8 44 (.int .i64 k) rfl rfl rfl (by kernel_rfl) (by kernel_rfl) (by kernel_rfl) (by kernel_rfl) (fun _ _ _ h => h) (by rfl) ?_ (by assumption) ?_
  · intro W hSw; go_simp
  simp only [Act.put, List.setIfInBounds_toArray, List.set_cons_zero, List.set_cons_succ]
  refine takeT 9 45 (.bool fb) rfl rfl rfl (by kernel_rfl) (by kernel_rfl) (by kernel_rfl) (by kernel_rfl) (fun _ _ _ h => h) (by rfl) ?_ (by assumption) ?_
  · intro W hSw; go_simp
  simp only [Act.put, List.setIfInBounds_toArray, List.set_cons_zero, List.set_cons_succ]
  refine takeT 10 7 (.int .i64 k) rfl rfl rfl (by kernel_rfl) (by kernel_rfl) (by kernel_rfl) (by kernel_rfl) (fun _ _ _ h => h) (by rfl) ?_ (by assumption) ?_
  · intro W hSw; go_simp
  simp only [Act.put, List.setIfInBounds_toArray, List.set_cons_zero, List.set_cons_succ]
  refine wpAnyT_last (by kernel_rfl) rfl (fun K1 hK1 => ?_)
  go_simp
  refine hK1 _ _ (wpAnyT_done (by kernel_rfl) ?_ _)
  clear hK1
  have HB2 := hid hb2
  clear hb2 hS
  go_upto_if 47 with fail
  obtain ⟨⟨lb1, lb2⟩, ⟨ls1, ls2⟩⟩ := HS.out.lot H.out.ok z.price
  obtain ⟨b0, hb0⟩ : ∃ b0, (lotAt lv z.price).1 = b0 := ⟨_, rfl⟩
  obtain ⟨s0, hs0⟩ : ∃ s0, (lotAt lv z.price).2 = s0 := ⟨_, rfl⟩
  have hlot : lotAt lv z.price = (b0, s0) := by rw [← hb0, ← hs0]
  rw [hb0] at lb1 lb2
  rw [hs0] at ls1 ls2
  have HLot := hid hlot
  clear hb0 hs0 hlot
  have HW2 := hid (show Below w.heap.size w w2 from HBx.out.trans ((Below.drew (Below.refl _ w1)).trans (HB2.out.mono HBx.out.size)))
  have HBb2 := hid (Blk.keep (Blk.drew HB1.out) HB2.out)
  have HFb := hid hfb
  have HK1 := hid hk1
  have HK2 := hid hk2
  have hXl2 : X < w2.heap.size := Nat.lt_of_lt_of_le (Blk.lt H.out.blk) HW2.out.size
  have HP := hid (hpr.resolve_left (fun e => by rw [beqT e] at t1; cases t1))
  clear hfb hk1 hk2 HSe HB1 HB2 HBx x0 x1 x2 x3 x4 y0 hXl hBl hpr t1
  go_cut [48] (fun s48 wx => ∃ cs1 A1 c1 lv1, LvMid w wx X t cs o A lv bu se z.price k cs1 A1 c1 lv1 b0 s0 ∧ Blk wx Bx 28 #[.int .i64 z.id, .int .i64 z.side, .int .i64 z.kind, .int .i64 z.price, .int .i64 z.qty])
  case first =>
    cases fb with
    | true =>
      go_wp2_with fail
      go_meet
      obtain ⟨hkl, hkp⟩ := foundL_true Hn.out HFb.out
      obtain ⟨e1, e2⟩ := LvMid.found H.out HW2.out hkl hkp
      rw [HLot.out] at e2
      obtain ⟨rfl, rfl⟩ := Prod.mk.inj e2
      exact ⟨_, _, _, _, e1, HBb2.out⟩
    | false =>
      have hvb : Below w2.heap.size w2 ((w2.alloc (.cells #[.int .i64 z.price, .int .i64 0, .int .i64 0] 63)).drew) := Below.drew ((Below.refl _ _).alloc (Nat.le_refl _) _)
      have hM2 := (H.out.below HW2.out).below hvb
      have hr2 := hM2.row
      rw [Hn.out] at hr2
      have hins := insertL_any ((w2.alloc (.cells #[.int .i64 z.price, .int .i64 0, .int .i64 0] 63)).drew) A n c k lv w2.heap.size (z.price, 0, 0) hr2 (Blk.drew (Blk.new w2 _ _)) (fun e => by have := (H.out.below HW2.out).row.lt e; omega) (by omega) hkn
      have HIns := hid hins
      have HM2 := hid hM2
      have HV2 := hid hvb
      have HBv := hid (Blk.keep HBb2.out hvb)
      have hnn : lv.length = n := Hn.out
      have HNn := hid hnn
      clear hM2 hvb hr2 hins hnn hS
      go_wp2_with fail
      go_region_with (go_at_call 27; refine HIns.out.mono ?_; rintro e w3 ⟨A3, c3, rfl, hI3⟩; have b3 := Blk.keeps HM2.out.blk hI3.2.1 (fun e => HM2.out.na e); have r0 : w3.cell? ⟨X, o, none⟩ = some (.slice A n c) := (by rw [Blk.cell b3, ← HNn.out]; exact HM2.out.c0); have rf0 := Blk.frozen b3 o; have HI3 := hid hI3; clear hI3 b3)
      all_goals go_wp2_with fail
      all_goals go_meet
      all_goals
        have h3 := HI3.out
        have hb3 := Blk.keeps HBv.out h3.2.1 HNb.out
        rw [← Hn.out] at h3
        obtain ⟨e1, e2⟩ := LvMid.new_ H.out (HW2.out.trans (HV2.out.mono HW2.out.size)) (by have := Hn.out; omega) HK1.out HK2.out (foundL_false Hn.out H.out.ok.rank HFb.out HK1.out HK2.out) h3
        rw [Hn.out] at e1
        rw [HLot.out] at e2
        obtain ⟨rfl, rfl⟩ := Prod.mk.inj e2
        exact ⟨_, _, _, _, e1, Blk.far hb3 (by show Bx ≠ X; omega) _⟩
  case rest =>
    obtain ⟨cs1, A1, c1, lv1, hM, hB⟩ := hcut
    obtain ⟨hkl, hkv, -⟩ := hM.parts
    obtain ⟨g, hA1, -⟩ := hM.row.elem encT_length (by omega) hkl
    subst hA1
    obtain ⟨n1, hn1'⟩ : ∃ n1, lv1.length = n1 := ⟨_, rfl⟩
    have y0 : wc.cell? ⟨X, o, none⟩ = some (.slice (some ⟨g, 0, none⟩) n1 c1) := by rw [Blk.cell hM.blk, ← hn1']; exact hM.c0
    obtain ⟨l0, l1, l2⟩ := lv_cells hM.row hkl
    rw [hkv] at l1 l2
    dsimp only at l1 l2
    have x1 : wc.cell? ⟨Bx, 1, none⟩ = some (.int .i64 z.side) := by rw [Blk.cell hB]; rfl
    have hkz : (k : Int) < (n1 : Int) := by omega
    have hk0 : (0 : Int) ≤ (k : Int) := by omega
    have f1 := hM.row.frozen (k * 3 + 1)
    have f2 := hM.row.frozen (k * 3 + 2)
    have HM := hid hM
    have Hn1 := hid hn1'
    have hmq := Hm.out
    have hq12 := Hq12.out
    have hmb : -1000000 ≤ m ∧ m ≤ 1000000 := by rcases Hq.out with rfl | rfl <;> omega
    have hnn : 0 ≤ b0 + q * dB z ∧ 0 ≤ s0 + q * dS z := by
      have hp := Hp.out
      rw [HLot.out] at hp
      unfold dB dS
      rcases Hq.out with rfl | rfl
      · split <;> omega
      · have hp := hp rfl
        split at hp <;> (dsimp only at hp; split <;> omega)
    obtain ⟨hz1, hz2⟩ := hnn
    obtain ⟨b', hb'⟩ : ∃ b', b0 + q * dB z = b' := ⟨_, rfl⟩
    obtain ⟨s', hs'⟩ : ∃ s', s0 + q * dS z = s' := ⟨_, rfl⟩
    rw [hb'] at hz1
    rw [hs'] at hz2
    have Hz := hid (And.intro hz1 hz2)
    have Hbs := hid (And.intro hb' hs')
    have Hmq := hid hmq
    have Hmb := hid hmb
    clear hM hB l0 hkl hkv hn1' hz1 hz2 hb' hs' hmq hmb hq12 Hq Hp
    go_upto_if 69 with fail
    go_cut [70] (fun s70 wx => ∃ lv2, lv2.length = n1 ∧ LvMid w wx X t cs o A lv bu se z.price k cs1 (some ⟨g, 0, none⟩) c1 lv2 b' s')
    case first =>
      rcases Hsd.out with hsd | hsd
      · have t2 := beqT hsd
        have i1 : RowKit.wrap64 (b0 + m) = b0 + m := by have := Hmb.out; unfold RowKit.wrap64; omega
        have HSd := hid hsd
        clear hsd l2 f2
        go_wp2_with fail
        go_meet
        refine ⟨_, ?_, HM.out.put 1 (b0 + m) (.inl ⟨rfl, ?_, ?_⟩)⟩
        · rw [List.length_set]; exact Hn1.out
        · have := Hbs.out.1
          unfold dB at this
          rw [if_pos HSd.out, Hmq.out] at this
          exact this.symm
        · have := Hbs.out.2
          unfold dS at this
          rw [if_pos HSd.out] at this
          omega
      · have t2 := beqF (show ¬ z.side = 1 by omega)
        have i1 : RowKit.wrap64 (s0 + m) = s0 + m := by have := Hmb.out; unfold RowKit.wrap64; omega
        have HSd := hid (show ¬ z.side = 1 by omega)
        clear hsd l1 f1
        go_wp2_with fail
        go_meet
        refine ⟨_, ?_, HM.out.put 2 (s0 + m) (.inr ⟨rfl, ?_, ?_⟩)⟩
        · rw [List.length_set]; exact Hn1.out
        · have := Hbs.out.1
          unfold dB at this
          rw [if_neg HSd.out] at this
          omega
        · have := Hbs.out.2
          unfold dS at this
          rw [if_neg HSd.out, Hmq.out] at this
          exact this.symm
    case rest =>
      obtain ⟨lv2, hl2, hM2⟩ := hcut
      obtain ⟨hkl, hkv, -⟩ := hM2.parts
      obtain ⟨-, l1, l2⟩ := lv_cells hM2.row hkl
      rw [hkv] at l1 l2
      dsimp only at l1 l2
      have HM2 := hid hM2
      have Hl2 := hid hl2
      have hfin : ∀ lv' : List Tri, (∀ p', lotAt lv' p' = if p' = z.price then (b', s') else lotAt lv p') → ∀ p', lotAt lv' p' = if p' = z.price then ((lotAt lv p').1 + q * dB z, (lotAt lv p').2 + q * dS z) else lotAt lv p' := fun lv' h p' => by
        rw [h p']
        by_cases e : p' = z.price
        · rw [if_pos e, if_pos e, e, HLot.out, Hbs.out.1, Hbs.out.2]
        · rw [if_neg e, if_neg e]
      have HFin := hid hfin
      by_cases hz1 : b' = 0
      · by_cases hz2 : s' = 0
        · subst hz1
          subst hz2
          have hrow := hM2.row
          rw [hl2] at hrow
          have h0z : ((0 : Int) == 0) = true := rfl
          have hdel := deleteL_any wc g n1 c1 k (k + 1) ((k : Int) + 1) (by omega) lv2 hrow (by have := hM2.len; have := Hn.out; omega) (by omega) (by omega)
          obtain ⟨m2, hm2⟩ : ∃ m2, k + (n1 - (k + 1)) = m2 := ⟨_, rfl⟩
          rw [hm2] at hdel
          have y0 : wc.cell? ⟨X, o, none⟩ = some (.slice (some ⟨g, 0, none⟩) n1 c1) := by rw [Blk.cell hM2.blk, ← hl2]; exact hM2.c0
          have i3 : RowKit.wrap64 ((k : Int) + 1) = (k : Int) + 1 := mid_wrap (by have := Hn.out; omega) hkn
          have HDel := hid hdel
          have Hm2 := hid (mid_len hl2 hkl hm2)
          clear hdel hm2 hrow hM2 hkl hkv hfin
          go_wp2_with fail
          refine HDel.out.mono ?_
          rintro e w4 ⟨rfl, hr4, hk4⟩
          (have b4 := Blk.keeps HM2.out.blk hk4 (fun e => HM2.out.na (by rw [e]; rfl)); have r0 : w4.cell? ⟨X, o, none⟩ = some (.slice (some ⟨g, 0, none⟩) n1 c1) := (by rw [Blk.cell b4, ← Hl2.out]; exact HM2.out.c0); have rf0 := Blk.frozen b4 o; have HR4 := hid hr4; have HK4 := hid hk4; clear hr4 hk4 b4)
          all_goals go_wp2_with fail
          all_goals
            refine bodyPost_end (results_none rfl _ _ _) rfl ?_
            obtain ⟨lv', h1, h2, h3⟩ := HM2.out.del H.out.ok (Below.refl _ _) Hm2.out HR4.out HK4.out
            exact ⟨⟨_, rfl⟩, lv', h1, h2, HFin.out lv' h3⟩
        · have h0z : ((0 : Int) == 0) = true := rfl
          have d2 := beqF hz2
          have Hz2 := hid hz2
          subst hz1
          clear hz2 hM2 hkl hkv hfin
          go_wp2_with fail
          refine bodyPost_end (results_none rfl _ _ _) rfl ?_
          obtain ⟨lv', h1, h2, h3⟩ := HM2.out.done H.out.ok HP.out Hz.out.1 Hz.out.2 (fun e => Hz2.out e.2)
          exact ⟨⟨_, rfl⟩, lv', h1, h2, HFin.out lv' h3⟩
      · have d1 := beqF hz1
        have Hz1 := hid hz1
        clear hz1 hM2 hkl hkv hfin
        go_wp2_with fail
        refine bodyPost_end (results_none rfl _ _ _) rfl ?_
        obtain ⟨lv', h1, h2, h3⟩ := HM2.out.done H.out.ok HP.out Hz.out.1 Hz.out.2 (fun e => Hz1.out e.1)
        exact ⟨⟨_, rfl⟩, lv', h1, h2, HFin.out lv' h3⟩
end Go.Proofs.YteggaehelnmhnaaDoor
