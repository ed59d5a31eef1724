/-
  The walk of Book.Cancel of an order of side 2, at any price.
-/
import Derived.Test.YtaagaamamjabbaaBookCancelL
namespace Go.Proofs.Ytaagaamamjabbaa
open Go.RowKit
set_option linter.unusedVariables false

set_option maxRecDepth 100000 in
set_option maxHeartbeats 8000000 in
theorem cancel_2M (w : World) (b a : Nat) (F : Nat → Prop) (M : Int → Int → Option Ord5) (n r : Nat) (f : Int → Option Value) (H : Int → HS) (reg : Nat → Int) (hM : BookM w b a F M n r f H reg) (hS : BookS M n f H) (x : HO) (hx : x ∈ (H 2).all) (hk : x.2.kind = 2) (hn : n ≤ 100) :
    Calls Try.prog 15 #[.pointer (some ⟨b, 0, none⟩), .int .i64 x.2.id] w fun e w' => e = .returned (.tuple #[aggO x.2, errV 0]) ∧ LessDone w w' b a r F n H 2 x.2.id := by
  have hf := hS.hf x (mem_allH Is12_2 hx)
  have hsd := hS.side_of Is12_2 hx
  have hMx := hS.hM x (mem_allH Is12_2 hx)
  obtain ⟨⟨h1, h2⟩, o⟩ := x
  dsimp only at hf hsd hMx hk ⊢
  have hmk : (o.kind == 2) = true := by simpa using hk
  have hb0 : Below w.heap.size w (w.alloc (.cells #[.int .i64 0, .int .i64 0, .int .i64 0, .int .i64 0, .int .i64 0] 41)) := (Below.refl _ w).alloc (Nat.le_refl _) _
  have hM0 := hM.below hb0
  have hlk := map_look_some hM0.mp hf
  dsimp only at hlk
  rw [hsd, hmk] at hlk
  obtain ⟨y0, y1, y2, y3, y4, y5⟩ := hM0.cells
  have HM := hid hM
  have HSm := hid hS
  have HX := hid hx
  have HKd := hid hk
  have HSd := hid hsd
  have HMx := hid hMx
  have HN := hid hn
  have HM0 := hid hM0
  clear y0 y2 y3 y4 y5 hM hS hx hk hsd hMx hn hM0 hf hmk hb0
  go_enter Try.func15, Try.ntmps15
  go_upto_region 4 with fail
  clear hlk y1
  obtain ⟨hb1, hM1, hR1, hP1⟩ := cancel_boxes (h1 := h1) (h2 := h2) (sd := 2) (pr := o.price) (mk := true) HM.out
  have hrb := hid (show ¬ BFp b r F H w.heap.size from fun h => by have := HM.out.fp h; omega)
  have hpb := hid (show ¬ BFp b r F H (w.heap.size + 1) from fun h => by have := HM.out.fp h; omega)
  obtain ⟨pb, hpbe⟩ : ∃ pb, pb = w.heap.size + 1 := ⟨_, rfl⟩
  obtain ⟨rb, hrbe⟩ : ∃ rb, rb = w.heap.size := ⟨_, rfl⟩
  have hne : rb ≠ pb := by omega
  have HLT := hid (show w.heap.size ≤ rb ∧ w.heap.size ≤ pb by omega)
  rw [← hpbe] at hP1 hpb ⊢
  rw [← hrbe] at hR1 hrb ⊢
  generalize (w.alloc (.cells #[.int .i64 0, .int .i64 0, .int .i64 0, .int .i64 0, .int .i64 0] 41)).alloc (.cells #[.int .i64 h1, .int .i64 h2, .int .i64 2, .int .i64 o.price, .bool true] 82) = w1 at hb1 hM1 hR1 hP1 ⊢
  obtain ⟨w2, hdel, hI2, hT2⟩ := map_del w1 r f hM1.mp o.id
  obtain ⟨hM2, hS2⟩ := hM1.map_ hT2 hI2
  have HS2 := hid ((BStep.of_below (G := BFp b r F H) hb1).trans hS2)
  have hP2 : Blk w2 pb 82 #[.int .i64 h1, .int .i64 h2, .int .i64 2, .int .i64 o.price, .bool true] := Blk.of_block hP1 (hT2.block pb (fun e => hpb.out (.inr (.inl e))))
  have hR2 : Blk w2 rb 41 #[.int .i64 0, .int .i64 0, .int .i64 0, .int .i64 0, .int .i64 0] := Blk.of_block hR1 (hT2.block rb (fun e => hrb.out (.inr (.inl e))))
  have y1 := hM1.cells.2.1
  have HM2 := hid hM2
  have HP2 := hid hP2
  have HR2 := hid hR2
  obtain ⟨p0, p1, p2, p3, p4⟩ := blk5 hP2
  clear hM1 hR1 hP1 hT2 hI2 hM2 hS2 hP2 hR2 hb1 hpbe hrbe
  go_wp2_with (simp only [hdel])
  clear hdel y1
  go_quiet (fail)
  have hq : Below w2.heap.size w2 (w2.drewN nq) := drewN_below (Below.refl _ _) nq
  have HM3 := hid (HM2.out.below hq)
  have HP3 := hid (Blk.drewN HP2.out nq)
  have HR3 := hid (Blk.drewN HR2.out nq)
  have HS3 := hid (HS2.out.trans (BStep.of_below hq))
  clear hq p0 p1 p2 p3 p4
  generalize w2.drewN nq = w3 at HM3 HP3 HR3 HS3 ⊢
  clear HM2 HP2 HR2 HS2
  obtain ⟨p0, p1, p2, p3, p4⟩ := blk5 HP3.out
  obtain ⟨y0, y1, y2, y3, y4, y5⟩ := HM3.out.cells
  have hmf : ∀ (fn : Fn) (first cap : Array Value) (w : World), (Instr.makeFunc fn first cap).run Try.prog w = .ok (.func fn first cap) w := fun _ _ _ _ => rfl
  have eg := Go.Proofs.enters_of Try.func46 (by kernel_rfl) rfl
  obtain ⟨m, hm⟩ : ∃ m, (H 2).ms.length = m := ⟨_, rfl⟩
  rw [hm] at y4
  have hmb : blkOf (H 2).mA ≠ some b := fun e => by have h3 := (HM3.out.hx 2 Is12_2).gm b e; have h4 := HM3.out.gb; omega
  have hdrop := drop_any w3 (H 2).mA m (H 2).mc (hndL (H 2).ms) pb (h1, h2) (by rw [← hm]; exact (HM3.out.hx 2 Is12_2).rm) (by have := ms_len2 Is12_2 HSm.out HN.out; omega) (fun e => hpb.out (BookM.fpH 2 Is12_2 (.inl e))) p0 p1
  have HD := hid hdrop
  have HMb := hid hmb
  have Hm := hid hm
  clear y0 y1 y2 y3 y4 y5 hdrop hmb hm
  have y4 : w3.cell? ⟨b, 4, none⟩ = some (.slice (H 2).mA m (H 2).mc) := by rw [Blk.cell HM3.out.blk]; exact congrArg (fun k => some (Value.slice (H 2).mA k (H 2).mc)) Hm.out
  go_wp2_with fail
  refine HD.out.mono ?_
  rintro e w4 ⟨hk4, rfl, hr4⟩
  have b4 := Blk.keeps HM3.out.blk hk4 HMb.out
  have r0 : w4.cell? ⟨b, 4, none⟩ = some (.slice (H 2).mA m (H 2).mc) := by rw [Blk.cell b4]; exact congrArg (fun k => some (Value.slice (H 2).mA k (H 2).mc)) Hm.out
  have rf0 := Blk.frozen b4 4
  rw [ord_filter_length] at hr4 ⊢
  rw [← hnd_filter] at hr4
  obtain ⟨reg5, hM5, hB5⟩ := HM3.out.market Is12_2 (A' := (H 2).mA) (c' := (H 2).mc) (ms' := (H 2).ms.filter (notH (h1, h2))) hk4 hr4 (fun g hg => .inl hg)
  have hq4 : ∀ g, ¬ BFp b r F H g → blkOf (H 2).mA ≠ some g ∧ g ≠ b := fun g hg => ⟨fun e => hg (BookM.fpH 2 Is12_2 (.inl e)), fun e => hg (.inl e)⟩
  have HP5 := hid (Blk.far (Blk.keeps HP3.out hk4 (hq4 _ hpb.out).1) (p := ⟨b, 4, none⟩) (hq4 _ hpb.out).2 (.slice (H 2).mA ((H 2).ms.filter (notH (h1, h2))).length (H 2).mc))
  have HR5 := hid (Blk.far (Blk.keeps HR3.out hk4 (hq4 _ hrb.out).1) (p := ⟨b, 4, none⟩) (hq4 _ hrb.out).2 (.slice (H 2).mA ((H 2).ms.filter (notH (h1, h2))).length (H 2).mc))
  obtain ⟨hS5, hL5⟩ := less_market HSm.out Is12_2 HX.out HKd.out (H 2).mA (H 2).mc
  have H13 := hid (show Less13 w (w4.setCell ⟨b, 4, none⟩ (.slice (H 2).mA ((H 2).ms.filter (notH (h1, h2))).length (H 2).mc)) b a r F M n (updI f o.id none) H 2 o.id h1 h2 pb rb #[.int .i64 h1, .int .i64 h2, .int .i64 2, .int .i64 o.price, .bool true] from
    ⟨_, reg5, hM5, HS3.out.trans hB5, hS5, hL5, fun s' h => upH_other h, HP5.out, HR5.out, not_up Is12_2 (fun i hi => hi) hrb.out⟩)
  clear hM5 hB5 hS5 hL5 hk4 hr4 b4 hq4 p0 p1 p2 p3 p4 y4 HP5 HR5 HM3 HP3 HR3 HS3
  obtain ⟨nl, hnl⟩ : ∃ nl, ((H 2).ms.filter (notH (h1, h2))).length = nl := ⟨_, rfl⟩
  rw [hnl] at H13 ⊢
  clear hnl
  obtain ⟨H5, reg5, hM5, hB5, hS5, hL5, hO5, hP5, hR5, hn5⟩ := H13.out
  have q0 := hM5.cells.1
  obtain ⟨p0, p1, p2, p3, p4⟩ := blk5 hP5
  clear hM5 hB5 hS5 hL5 hO5 hP5 hR5 hn5
  go_upto_region 13 with fail
  generalize (w4.setCell ⟨b, 4, none⟩ (.slice (H 2).mA nl (H 2).mc)) = w5 at H13 q0 p0 p1 p2 p3 p4 ⊢
  obtain ⟨H5, reg5, hM5, hB5, hS5, hL5, hO5, hP5, hR5, hn5⟩ := H13.out
  have hget := take_one (M := M) hM5 (Below.drew (Below.refl w5.heap.size w5)) HMx.out
  have HG := hid hget
  have HB5 := hid (hB5.trans (BStep.of_below (Below.drew (Below.refl w5.heap.size w5))))
  have HR5 := hid hR5
  have HN5 := hid hn5
  have HS5 := hid hS5
  have HL5 := hid hL5
  have HO5 := hid hO5
  clear hget p2 p3 p4 hM5 hB5 hS5 hL5 hO5 hP5 hR5 hn5 H13
  go_cut [5, 104] (fun s5 s104 wx => s5 = .nilIface ∧ Take13 w wx b a r rb F M n (updI f o.id none) H 2 o.id h1 h2 (boxO o))
  case first =>
   as_aux_lemma =>
    go_region_with (go_at_call 50; refine HG.out.mono ?_; rintro e w6 ⟨rfl, F6, reg6, hM6, hB6⟩; have hr6 : Blk w6 rb 41 #[.int .i64 0, .int .i64 0, .int .i64 0, .int .i64 0, .int .i64 0] := Blk.keeps (Blk.drew HR5.out) hB6.1 HN5.out; have z0 := (blk5 hr6).1; have z1 := (blk5 hr6).2.1; have z2 := (blk5 hr6).2.2.1; have z3 := (blk5 hr6).2.2.2.1; have z4 := (blk5 hr6).2.2.2.2; have f0 := Blk.frozen hr6 0; have f1 := Blk.frozen hr6 1; have f2 := Blk.frozen hr6 2; have f3 := Blk.frozen hr6 3; have f4 := Blk.frozen hr6 4; have HM6 := hid hM6; have HB6 := hid hB6; have HR6 := hid hr6; clear hM6 hr6 hB6)
    all_goals go_wp2_with fail
    all_goals go_meet
    all_goals
      have hnb6 : ¬ BFp b r F6 H5 rb := fun h => (HB6.out.2 rb h).elim HN5.out (fun h3 => by have h4 := Blk.lt (Blk.drew HR5.out); omega)
      exact ⟨rfl, less_done HM6.out (HB5.out.trans HB6.out) hnb6 HLT.out.1 HS5.out HL5.out HO5.out, Blk.set_ (Blk.set_ (Blk.set_ (Blk.set_ (Blk.set_ HR6.out 0 _) 1 _) 2 _) 3 _) 4 _⟩
  case rest =>
    obtain ⟨rfl, hdone, hbox⟩ := hcut
    have HDn := hid hdone
    have HBx := hid hbox
    clear hdone hbox
    go_wp2_with fail
    refine cancel_ret (g := rb) (cs := boxO o) (v := errV 0) (by with_unfolding_all rfl) (by with_unfolding_all rfl) (by with_unfolding_all rfl) HBx.out rfl ?_
    exact ⟨rfl, HDn.out⟩
end Go.Proofs.Ytaagaamamjabbaa
