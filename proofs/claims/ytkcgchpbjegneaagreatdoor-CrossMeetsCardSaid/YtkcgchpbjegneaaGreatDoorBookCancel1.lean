/-
  The walk of Book.Cancel of an order of side 1, at any price.
  The walk of Book.Cancel of an order of side 1, in a queue.
-/
import Derived.Test.YtkcgchpbjegneaaGreatDoorBookCancelL
namespace Go.Proofs.YtkcgchpbjegneaaGreatDoor
open Go.RowKit
set_option linter.unusedVariables false

set_option maxRecDepth 100000 in
set_option maxHeartbeats 8000000 in
theorem cancel_1M (w : World) (b a : Nat) (F : Nat → Prop) (M : Int → Int → Option Ord5) (n r : Nat) (f : Int → Option Value) (H : Int → HS) (reg : Nat → Int) (hM : BookM w b a F M n r f H reg) (hS : BookS M n f H) (x : HO) (hx : x ∈ (H 1).all) (hk : x.2.kind = 2) (hn : n ≤ 100) :
    Calls Tryz.prog 101 #[.pointer (some ⟨b, 0, none⟩), .int .i64 x.2.id] w fun e w' => e = .returned (.tuple #[aggO x.2, errV 0]) ∧ LessDone w w' b a r F n H 1 x.2.id := by
  have hf := hS.hf x (mem_allH Is12_1 hx)
  have hsd := hS.side_of Is12_1 hx
  have hMx := hS.hM x (mem_allH Is12_1 hx)
  obtain ⟨⟨h1, h2⟩, o⟩ := x
  dsimp only at hf hsd hMx hk ⊢
  have hmk : (o.kind == 2) = true := by simpa using hk
  have hb0 : Below w.heap.size w (w.alloc (.cells #[.int .i64 0, .int .i64 0, .int .i64 0, .int .i64 0, .int .i64 0] 24)) := (Below.refl _ w).alloc (Nat.le_refl _) _
  have hM0 := hM.below hb0
  have hlk := map_look_some hM0.mp hf
  dsimp only at hlk
  rw [hsd, hmk] at hlk
  obtain ⟨y0, y1, y2, y3, y4, y5⟩ := hM0.cells
  have HM := hid hM
  have HSm := hid hS
  have HX := hid hx
  have HKd := hid hk
  have HSd := hid hsd
  have HMx := hid hMx
  have HN := hid hn
  have HM0 := hid hM0
  clear y0 y2 y3 y4 y5 hM hS hx hk hsd hMx hn hM0 hf hmk hb0
  go_enter Tryz.func101, Tryz.ntmps101
  go_upto_region 4 with fail
  clear hlk y1
  obtain ⟨hb1, hM1, hR1, hP1⟩ := cancel_boxes (h1 := h1) (h2 := h2) (sd := 1) (pr := o.price) (mk := true) HM.out
  have hrb := hid (show ¬ BFp b r F H w.heap.size from fun h => by have := HM.out.fp h; omega)
  have hpb := hid (show ¬ BFp b r F H (w.heap.size + 1) from fun h => by have := HM.out.fp h; omega)
  obtain ⟨pb, hpbe⟩ : ∃ pb, pb = w.heap.size + 1 := ⟨_, rfl⟩
  obtain ⟨rb, hrbe⟩ : ∃ rb, rb = w.heap.size := ⟨_, rfl⟩
  have hne : rb ≠ pb := by omega
  have HLT := hid (show w.heap.size ≤ rb ∧ w.heap.size ≤ pb by omega)
  rw [← hpbe] at hP1 hpb ⊢
  rw [← hrbe] at hR1 hrb ⊢
  generalize (w.alloc (.cells #[.int .i64 0, .int .i64 0, .int .i64 0, .int .i64 0, .int .i64 0] 24)).alloc (.cells #[.int .i64 h1, .int .i64 h2, .int .i64 1, .int .i64 o.price, .bool true] 157) = w1 at hb1 hM1 hR1 hP1 ⊢
  obtain ⟨w2, hdel, hI2, hT2⟩ := map_del w1 r f hM1.mp o.id
  obtain ⟨hM2, hS2⟩ := hM1.map_ hT2 hI2
  have HS2 := hid ((BStep.of_below (G := BFp b r F H) hb1).trans hS2)
  have hP2 : Blk w2 pb 157 #[.int .i64 h1, .int .i64 h2, .int .i64 1, .int .i64 o.price, .bool true] := Blk.of_block hP1 (hT2.block pb (fun e => hpb.out (.inr (.inl e))))
  have hR2 : Blk w2 rb 24 #[.int .i64 0, .int .i64 0, .int .i64 0, .int .i64 0, .int .i64 0] := Blk.of_block hR1 (hT2.block rb (fun e => hrb.out (.inr (.inl e))))
  have y1 := hM1.cells.2.1
  have HM2 := hid hM2
  have HP2 := hid hP2
  have HR2 := hid hR2
  obtain ⟨p0, p1, p2, p3, p4⟩ := blk5 hP2
  clear hM1 hR1 hP1 hT2 hI2 hM2 hS2 hP2 hR2 hb1 hpbe hrbe
  go_wp2_with (simp only [hdel])
  clear hdel y1
  go_quiet (fail)
  have hq : Below w2.heap.size w2 (w2.drewN nq) := drewN_below (Below.refl _ _) nq
  have HM3 := hid (HM2.out.below hq)
  have HP3 := hid (Blk.drewN HP2.out nq)
  have HR3 := hid (Blk.drewN HR2.out nq)
  have HS3 := hid (HS2.out.trans (BStep.of_below hq))
  clear hq p0 p1 p2 p3 p4
  generalize w2.drewN nq = w3 at HM3 HP3 HR3 HS3 ⊢
  clear HM2 HP2 HR2 HS2
  obtain ⟨p0, p1, p2, p3, p4⟩ := blk5 HP3.out
  obtain ⟨y0, y1, y2, y3, y4, y5⟩ := HM3.out.cells
  have hmf : ∀ (fn : Fn) (first cap : Array Value) (w : World), (Instr.makeFunc fn first cap).run Tryz.prog w = .ok (.func fn first cap) w := fun _ _ _ _ => rfl
  have eg := Go.Proofs.enters_of Tryz.func132 (by kernel_rfl) rfl
  obtain ⟨m, hm⟩ : ∃ m, (H 1).ms.length = m := ⟨_, rfl⟩
  rw [hm] at y2
  have hmb : blkOf (H 1).mA ≠ some b := fun e => by have h3 := (HM3.out.hx 1 Is12_1).gm b e; have h4 := HM3.out.gb; omega
  have hdrop := drop_any w3 (H 1).mA m (H 1).mc (hndL (H 1).ms) pb (h1, h2) (by rw [← hm]; exact (HM3.out.hx 1 Is12_1).rm) (by have := ms_len2 Is12_1 HSm.out HN.out; omega) (fun e => hpb.out (BookM.fpH 1 Is12_1 (.inl e))) p0 p1
  have HD := hid hdrop
  have HMb := hid hmb
  have Hm := hid hm
  clear y0 y1 y2 y3 y4 y5 hdrop hmb hm
  have y2 : w3.cell? ⟨b, 2, none⟩ = some (.slice (H 1).mA m (H 1).mc) := by rw [Blk.cell HM3.out.blk]; exact congrArg (fun k => some (Value.slice (H 1).mA k (H 1).mc)) Hm.out
  go_wp2_with fail
  refine HD.out.mono ?_
  rintro e w4 ⟨hk4, rfl, hr4⟩
  have b4 := Blk.keeps HM3.out.blk hk4 HMb.out
  have r0 : w4.cell? ⟨b, 2, none⟩ = some (.slice (H 1).mA m (H 1).mc) := by rw [Blk.cell b4]; exact congrArg (fun k => some (Value.slice (H 1).mA k (H 1).mc)) Hm.out
  have rf0 := Blk.frozen b4 2
  rw [ord_filter_length] at hr4 ⊢
  rw [← hnd_filter] at hr4
  obtain ⟨reg5, hM5, hB5⟩ := HM3.out.market Is12_1 (A' := (H 1).mA) (c' := (H 1).mc) (ms' := (H 1).ms.filter (notH (h1, h2))) hk4 hr4 (fun g hg => .inl hg)
  have hq4 : ∀ g, ¬ BFp b r F H g → blkOf (H 1).mA ≠ some g ∧ g ≠ b := fun g hg => ⟨fun e => hg (BookM.fpH 1 Is12_1 (.inl e)), fun e => hg (.inl e)⟩
  have HP5 := hid (Blk.far (Blk.keeps HP3.out hk4 (hq4 _ hpb.out).1) (p := ⟨b, 2, none⟩) (hq4 _ hpb.out).2 (.slice (H 1).mA ((H 1).ms.filter (notH (h1, h2))).length (H 1).mc))
  have HR5 := hid (Blk.far (Blk.keeps HR3.out hk4 (hq4 _ hrb.out).1) (p := ⟨b, 2, none⟩) (hq4 _ hrb.out).2 (.slice (H 1).mA ((H 1).ms.filter (notH (h1, h2))).length (H 1).mc))
  obtain ⟨hS5, hL5⟩ := less_market HSm.out Is12_1 HX.out HKd.out (H 1).mA (H 1).mc
  have H13 := hid (show Less13 w (w4.setCell ⟨b, 2, none⟩ (.slice (H 1).mA ((H 1).ms.filter (notH (h1, h2))).length (H 1).mc)) b a r F M n (updI f o.id none) H 1 o.id h1 h2 pb rb #[.int .i64 h1, .int .i64 h2, .int .i64 1, .int .i64 o.price, .bool true] from
    ⟨_, reg5, hM5, HS3.out.trans hB5, hS5, hL5, fun s' h => upH_other h, HP5.out, HR5.out, not_up Is12_1 (fun i hi => hi) hrb.out⟩)
  clear hM5 hB5 hS5 hL5 hk4 hr4 b4 hq4 p0 p1 p2 p3 p4 y2 HP5 HR5 HM3 HP3 HR3 HS3
  obtain ⟨nl, hnl⟩ : ∃ nl, ((H 1).ms.filter (notH (h1, h2))).length = nl := ⟨_, rfl⟩
  rw [hnl] at H13 ⊢
  clear hnl
  obtain ⟨H5, reg5, hM5, hB5, hS5, hL5, hO5, hP5, hR5, hn5⟩ := H13.out
  have q0 := hM5.cells.1
  obtain ⟨p0, p1, p2, p3, p4⟩ := blk5 hP5
  clear hM5 hB5 hS5 hL5 hO5 hP5 hR5 hn5
  go_upto_region 13 with fail
  generalize (w4.setCell ⟨b, 2, none⟩ (.slice (H 1).mA nl (H 1).mc)) = w5 at H13 q0 p0 p1 p2 p3 p4 ⊢
  obtain ⟨H5, reg5, hM5, hB5, hS5, hL5, hO5, hP5, hR5, hn5⟩ := H13.out
  have hget := take_one (M := M) hM5 (Below.drew (Below.refl w5.heap.size w5)) HMx.out
  have HG := hid hget
  have HB5 := hid (hB5.trans (BStep.of_below (Below.drew (Below.refl w5.heap.size w5))))
  have HR5 := hid hR5
  have HN5 := hid hn5
  have HS5 := hid hS5
  have HL5 := hid hL5
  have HO5 := hid hO5
  clear hget p2 p3 p4 hM5 hB5 hS5 hL5 hO5 hP5 hR5 hn5 H13
  go_cut [5, 104] (fun s5 s104 wx => s5 = .nilIface ∧ Take13 w wx b a r rb F M n (updI f o.id none) H 1 o.id h1 h2 (boxO o))
  case first =>
   as_aux_lemma =>
    go_region_with (go_at_call 136; refine HG.out.mono ?_; rintro e w6 ⟨rfl, F6, reg6, hM6, hB6⟩; have hr6 : Blk w6 rb 24 #[.int .i64 0, .int .i64 0, .int .i64 0, .int .i64 0, .int .i64 0] := Blk.keeps (Blk.drew HR5.out) hB6.1 HN5.out; have z0 := (blk5 hr6).1; have z1 := (blk5 hr6).2.1; have z2 := (blk5 hr6).2.2.1; have z3 := (blk5 hr6).2.2.2.1; have z4 := (blk5 hr6).2.2.2.2; have f0 := Blk.frozen hr6 0; have f1 := Blk.frozen hr6 1; have f2 := Blk.frozen hr6 2; have f3 := Blk.frozen hr6 3; have f4 := Blk.frozen hr6 4; have HM6 := hid hM6; have HB6 := hid hB6; have HR6 := hid hr6; clear hM6 hr6 hB6)
    all_goals go_wp2_with fail
    all_goals go_meet
    all_goals
      have hnb6 : ¬ BFp b r F6 H5 rb := fun h => (HB6.out.2 rb h).elim HN5.out (fun h3 => by have h4 := Blk.lt (Blk.drew HR5.out); omega)
      exact ⟨rfl, less_done HM6.out (HB5.out.trans HB6.out) hnb6 HLT.out.1 HS5.out HL5.out HO5.out, Blk.set_ (Blk.set_ (Blk.set_ (Blk.set_ (Blk.set_ HR6.out 0 _) 1 _) 2 _) 3 _) 4 _⟩
  case rest =>
    obtain ⟨rfl, hdone, hbox⟩ := hcut
    have HDn := hid hdone
    have HBx := hid hbox
    clear hdone hbox
    go_wp2_with fail
    refine cancel_ret (g := rb) (cs := boxO o) (v := errV 0) (by with_unfolding_all rfl) (by with_unfolding_all rfl) (by with_unfolding_all rfl) HBx.out rfl ?_
    exact ⟨rfl, HDn.out⟩
end Go.Proofs.YtkcgchpbjegneaaGreatDoor
namespace Go.Proofs.YtkcgchpbjegneaaGreatDoor
open Go.RowKit
set_option linter.unusedVariables false

set_option maxRecDepth 100000 in
set_option maxHeartbeats 8000000 in
theorem cancel_1Q (w : World) (b a : Nat) (F : Nat → Prop) (M : Int → Int → Option Ord5) (n r : Nat) (f : Int → Option Value) (H : Int → HS) (reg : Nat → Int) (hM : BookM w b a F M n r f H reg) (hS : BookS M n f H) (x : HO) (hx : x ∈ (H 1).all) (hk : x.2.kind ≠ 2) (hn : n ≤ 100) (k : Nat) (hkl : k < (H 1).qs.length) (hxk : x ∈ (H 1).qs[k].os) (hpk : (H 1).qs[k].price = x.2.price) :
    Calls Tryz.prog 101 #[.pointer (some ⟨b, 0, none⟩), .int .i64 x.2.id] w fun e w' => e = .returned (.tuple #[aggO x.2, errV 0]) ∧ LessDone w w' b a r F n H 1 x.2.id := by
  have hf := hS.hf x (mem_allH Is12_1 hx)
  have hsd := hS.side_of Is12_1 hx
  have hMx := hS.hM x (mem_allH Is12_1 hx)
  obtain ⟨⟨h1, h2⟩, o⟩ := x
  dsimp only at hf hsd hMx hk ⊢
  have hmk : (o.kind == 2) = false := by simpa using hk
  have hb0 : Below w.heap.size w (w.alloc (.cells #[.int .i64 0, .int .i64 0, .int .i64 0, .int .i64 0, .int .i64 0] 24)) := (Below.refl _ w).alloc (Nat.le_refl _) _
  have hM0 := hM.below hb0
  have hlk := map_look_some hM0.mp hf
  dsimp only at hlk
  rw [hsd, hmk] at hlk
  obtain ⟨y0, y1, y2, y3, y4, y5⟩ := hM0.cells
  have HM := hid hM
  have HSm := hid hS
  have HX := hid hx
  have HKd := hid hk
  have HSd := hid hsd
  have HMx := hid hMx
  have HN := hid hn
  have HM0 := hid hM0
  clear y0 y2 y3 y4 y5 hM hS hx hk hsd hMx hn hM0 hf hmk hb0
  go_enter Tryz.func101, Tryz.ntmps101
  go_upto_region 4 with fail
  clear hlk y1
  obtain ⟨hb1, hM1, hR1, hP1⟩ := cancel_boxes (h1 := h1) (h2 := h2) (sd := 1) (pr := o.price) (mk := false) HM.out
  have hrb := hid (show ¬ BFp b r F H w.heap.size from fun h => by have := HM.out.fp h; omega)
  have hpb := hid (show ¬ BFp b r F H (w.heap.size + 1) from fun h => by have := HM.out.fp h; omega)
  obtain ⟨pb, hpbe⟩ : ∃ pb, pb = w.heap.size + 1 := ⟨_, rfl⟩
  obtain ⟨rb, hrbe⟩ : ∃ rb, rb = w.heap.size := ⟨_, rfl⟩
  have hne : rb ≠ pb := by omega
  have HLT := hid (show w.heap.size ≤ rb ∧ w.heap.size ≤ pb by omega)
  rw [← hpbe] at hP1 hpb ⊢
  rw [← hrbe] at hR1 hrb ⊢
  generalize (w.alloc (.cells #[.int .i64 0, .int .i64 0, .int .i64 0, .int .i64 0, .int .i64 0] 24)).alloc (.cells #[.int .i64 h1, .int .i64 h2, .int .i64 1, .int .i64 o.price, .bool false] 157) = w1 at hb1 hM1 hR1 hP1 ⊢
  obtain ⟨w2, hdel, hI2, hT2⟩ := map_del w1 r f hM1.mp o.id
  obtain ⟨hM2, hS2⟩ := hM1.map_ hT2 hI2
  have HS2 := hid ((BStep.of_below (G := BFp b r F H) hb1).trans hS2)
  have hP2 : Blk w2 pb 157 #[.int .i64 h1, .int .i64 h2, .int .i64 1, .int .i64 o.price, .bool false] := Blk.of_block hP1 (hT2.block pb (fun e => hpb.out (.inr (.inl e))))
  have hR2 : Blk w2 rb 24 #[.int .i64 0, .int .i64 0, .int .i64 0, .int .i64 0, .int .i64 0] := Blk.of_block hR1 (hT2.block rb (fun e => hrb.out (.inr (.inl e))))
  have y1 := hM1.cells.2.1
  have HM2 := hid hM2
  have HP2 := hid hP2
  have HR2 := hid hR2
  obtain ⟨p0, p1, p2, p3, p4⟩ := blk5 hP2
  clear hM1 hR1 hP1 hT2 hI2 hM2 hS2 hP2 hR2 hb1 hpbe hrbe
  go_wp2_with (simp only [hdel])
  clear hdel y1
  go_quiet (fail)
  have hq : Below w2.heap.size w2 (w2.drewN nq) := drewN_below (Below.refl _ _) nq
  have HM3 := hid (HM2.out.below hq)
  have HP3 := hid (Blk.drewN HP2.out nq)
  have HR3 := hid (Blk.drewN HR2.out nq)
  have HS3 := hid (HS2.out.trans (BStep.of_below hq))
  clear hq p0 p1 p2 p3 p4
  generalize w2.drewN nq = w3 at HM3 HP3 HR3 HS3 ⊢
  clear HM2 HP2 HR2 HS2
  obtain ⟨p0, p1, p2, p3, p4⟩ := blk5 HP3.out
  obtain ⟨y0, y1, y2, y3, y4, y5⟩ := HM3.out.cells
  have hmf : ∀ (fn : Fn) (first cap : Array Value) (w : World), (Instr.makeFunc fn first cap).run Tryz.prog w = .ok (.func fn first cap) w := fun _ _ _ _ => rfl
  have eg := Go.Proofs.enters_of Tryz.func132 (by kernel_rfl) rfl
  have hx3 := HM3.out.hx 1 Is12_1
  obtain ⟨qg, hqg, hqc⟩ := hx3.rq.elem encQ_length (by omega) (i := k) (by simpa using hkl)
  obtain ⟨q, hqk⟩ : ∃ q, (H 1).qs[k]'hkl = q := ⟨_, rfl⟩
  have hmem : q ∈ (H 1).qs := by rw [← hqk]; exact List.getElem_mem _
  have q0 : w3.cell? ⟨qg, k * 2, none⟩ = some (.int .i64 q.price) := by have := hqc 0 _ rfl; rw [← hqk]; simpa [QG.que] using this
  have q1 : w3.cell? ⟨qg, k * 2 + 1, none⟩ = some (.slice q.A q.os.length q.c) := by have := hqc 1 _ rfl; rw [← hqk]; simpa [QG.que] using this
  have hqb : blkOf (H 1).qA = some qg := by rw [hqg]; rfl
  have hql := hx3.rq.lt hqb
  have hqm : blkOf q.A ≠ some qg := fun e => by have h3 := hx3.gl _ hmem qg e; have h4 := hx3.gq qg hqb; omega
  have hqB : blkOf q.A ≠ some b := fun e => by have h3 := hx3.gl _ hmem b e; have h4 := HM3.out.gb; omega
  have hqp : blkOf q.A ≠ some pb := fun e => hpb.out (BookM.fpH 1 Is12_1 (.inr (.inr ⟨q, hmem, e⟩)))
  have hqs := qs_len2 Is12_1 HSm.out HN.out
  have hos : q.os.length ≤ 1000 := by rw [← hqk]; exact os_len Is12_1 HSm.out HN.out hkl
  have hfind := find_any w3 b 2 1 o.price (H 1).qA (H 1).qs.length (H 1).qc ((H 1).qs.map QG.que) (by exact y3) (ElemsAt.of_row encQ_length (by omega) hx3.rq) (HSm.out.is 1 Is12_1).rank hqs
  have HFi := hid hfind
  have HqA := hid hqg
  have Hqk := hid hqk
  have Hkl := hid hkl
  have Hxk := hid hxk
  have Hpk := hid hpk
  have HRow := hid (hx3.rl q hmem)
  have HQR := hid hx3.rq
  have HQm := hid hqm
  have HQB := hid hqB
  have HQp := hid hqp
  have HQb2 := hid (show b ≠ qg from fun e => by have h3 := HM3.out.gb; have h4 := hx3.gq qg hqb; rw [e] at h3; omega)
  clear hfind hx3 hqc hmem hqm hqB hqp hqb hqk hxk hpk
  go_wp2_with fail
  refine HFi.out.mono ?_
  rintro e w4 ⟨hb4, k4, hk4, rfl⟩
  obtain rfl : k4 = k := found_at (HSm.out.is 1 Is12_1) Hkl.out Hpk.out hk4
  obtain ⟨fb, HFb⟩ : ∃ fb, Hid (foundB 1 o.price ((H 1).qs.map QG.que) (H 1).qs.length k4 = fb) := ⟨_, hid rfl⟩
  rw [HFb.out]
  have HM4 := hid (HM3.out.below hb4)
  have HP4 := hid (Blk.keep HP3.out hb4)
  have HR4 := hid (Blk.keep HR3.out hb4)
  have HS4 := hid (HS3.out.trans (BStep.of_below hb4))
  obtain ⟨hc4, hf4⟩ := bcell hb4
  have q0' : w4.cell? ⟨qg, k4 * 2, none⟩ = some (.int .i64 q.price) := (hc4 _ _ hql).trans q0
  have q1' : w4.cell? ⟨qg, k4 * 2 + 1, none⟩ = some (.slice q.A q.os.length q.c) := (hc4 _ _ hql).trans q1
  have hrow4 := HRow.out.below hb4
  have hqr4 := HQR.out.below hb4
  have hql4 : qg < w4.heap.size := by have := hb4.size; omega
  clear hk4 q0 q1 p0 p1 p2 p3 p4 y0 y1 y2 y3 y4 y5 hql hc4 hf4 hb4 HFi HM3 HP3 HR3 HS3 HRow HQR
  obtain ⟨l, hll⟩ : ∃ l, (H 1).qs.length = l := ⟨_, rfl⟩
  obtain ⟨m, hm⟩ : ∃ m, q.os.length = m := ⟨_, rfl⟩
  rw [hm] at q1' hrow4
  have y3 : w4.cell? ⟨b, 3, none⟩ = some (.slice (some ⟨qg, 0, none⟩) l (H 1).qc) := by rw [Blk.cell HM4.out.blk]; rw [← HqA.out, ← hll]; rfl
  obtain ⟨p0, p1, p2, p3, p4⟩ := blk5 HP4.out
  have hkz : (k4 : Int) < (l : Int) := by omega
  have hk0 : (0 : Int) ≤ (k4 : Int) := by omega
  have hdrop : ∀ W, Below w4.heap.size w4 W → Calls Tryz.prog 132 #[.slice q.A m q.c, .pointer (some ⟨pb, 0, none⟩)] W _ := fun W hW => drop_any W q.A m q.c (hndL q.os) pb (h1, h2) (hrow4.below hW) (by omega) HQp.out ((Blk.cell (Blk.keep HP4.out hW) 0).trans rfl) ((Blk.cell (Blk.keep HP4.out hW) 1).trans rfl)
  have HD := hid (hdrop w4.drew (Below.drew (Below.refl _ _)))
  have HQR4 := hid hqr4
  have HL := hid hll
  have Hm := hid hm
  have hbl := Blk.lt HM4.out.blk
  clear hdrop hrow4 hqr4 hll hm hos hqs
  go_upto_region 10 with fail
  go_cut [72] (fun s72 wx => Drop10 w4 wx qg k4 q.A q.c q.os (h1, h2))
  case first =>
    go_region_with (go_at_call 132; refine HD.out.mono ?_; rintro e w5 ⟨hk5, rfl, hr5⟩; have z1 : w5.cell? ⟨b, 3, none⟩ = some (.slice (some ⟨qg, 0, none⟩) l (H 1).qc) := (hk5.cell (p := ⟨b, 3, none⟩) hbl HQB.out).trans y3; have z2 : w5.cell? ⟨qg, k4 * 2 + 1, none⟩ = some (.slice q.A m q.c) := (hk5.cell (p := ⟨qg, k4 * 2 + 1, none⟩) hql4 HQm.out).trans q1'; have z3 := (hk5.frozen (p := ⟨qg, k4 * 2 + 1, none⟩) hql4 HQm.out).trans (RowAt.frozen (by rw [← HqA.out]; exact HQR4.out) (k4 * 2 + 1) : w4.frozen? ⟨qg, k4 * 2 + 1, none⟩ = false); have HK5 := hid hk5; have HR5 := hid hr5; clear hk5 hr5)
    all_goals go_wp2_with fail
    all_goals go_meet
    all_goals exact drop10_of HK5.out HR5.out
  case rest =>
    have hX := cancel_mid HM4.out HS4.out Is12_1 Hkl.out Hqk.out HqA.out hcut HP4.out HR4.out hpb.out hrb.out
    have HX11 := hid hX
    obtain ⟨reg6, hM6, _, _, _⟩ := hX
    have hr6 := mid_row Is12_1 HqA.out hM6
    have HR6 := hid hr6
    clear p0 p1 p2 p3 p4 q0' q1' y3 HD hcut
    have hbl6 := Blk.lt hM6.blk
    have y3 : wc.cell? ⟨b, 3, none⟩ = some (.slice (some ⟨qg, 0, none⟩) l (H 1).qc) := by
      rw [Blk.cell hM6.blk]
      have e : midH H 1 k4 q (h1, h2) 1 = ⟨(H 1).mA, (H 1).mc, (H 1).qA, (H 1).qc, (H 1).ms, (H 1).qs.set k4 ⟨q.price, q.A, q.c, q.os.filter (notH (h1, h2))⟩⟩ := by unfold midH; rw [upH_self]
      show some (Value.slice (midH H 1 k4 q (h1, h2) 1).qA (midH H 1 k4 q (h1, h2) 1).qs.length (midH H 1 k4 q (h1, h2) 1).qc) = _
      rw [e]
      dsimp only
      rw [HqA.out, List.length_set, HL.out]
    have hf6 := Blk.frozen hM6.blk 3
    obtain ⟨nl, hnl⟩ : ∃ nl, (q.os.filter (notH (h1, h2))).length = nl := ⟨_, rfl⟩
    have q1 : wc.cell? ⟨qg, k4 * 2 + 1, none⟩ = some (.slice q.A nl q.c) := by
      obtain ⟨g, hg, hc⟩ := hr6.elem encQ_length (by omega) (i := k4) (by have := Hkl.out; simpa using this)
      cases hg
      have := hc 1 _ rfl
      rw [← hnl]
      simpa [QG.que] using this
    have Hnl := hid hnl
    have hl6 : l ≤ 100000 := by have h3 := qs_len2 Is12_1 HSm.out HN.out; have h4 := HL.out; omega
    have hkl4 : k4 < l := by omega
    clear hr6 hM6 hnl
    go_upto_if 84 with fail
    go_cut [85] (fun s85 wx => Less13 w wx b a r F M n (updI f o.id none) H 1 o.id h1 h2 pb rb #[.int .i64 h1, .int .i64 h2, .int .i64 1, .int .i64 o.price, .bool false])
    case first =>
     as_aux_lemma =>
      by_cases hz : nl = 0
      · have Hz := hid hz
        have t1 : ((nl : Int) == 0) = true := beqT (by omega)
        have hdel := deleteQ_any wc qg l (H 1).qc k4 (k4 + 1) ((k4 : Int) + 1) (by omega) _ (by rw [← HL.out]; exact HR6.out) hl6 (by omega) (by omega)
        have HDl := hid hdel
        have hw1 : IntKind.i64.wrap ((k4 : Int) + 1) = (k4 : Int) + 1 := by rw [IntKind.wrap_i64]; omega
        clear hdel hz
        go_wp2_with fail
        refine HDl.out.mono ?_
        rintro e w7 ⟨rfl, hr7, hk7⟩
        have y7 : w7.cell? ⟨b, 3, none⟩ = some (.slice (some ⟨qg, 0, none⟩) l (H 1).qc) := (hk7.cell (p := ⟨b, 3, none⟩) hbl6 HQb2.out).trans y3
        have f7 := (hk7.frozen (p := ⟨b, 3, none⟩) hbl6 HQb2.out).trans hf6
        have HR7 := hid hr7
        have HK7 := hid hk7
        clear hr7 hk7
        go_wp2_with fail
        go_meet
        have h9 := less13_last HSm.out Is12_1 Hkl.out Hqk.out HqA.out (by rw [← Hqk.out]; exact Hxk.out) HX.out (Hnl.out.trans Hz.out) rfl HX11.out hpb.out hrb.out (by rw [HL.out]; exact HR7.out) HK7.out
        rw [HL.out] at h9
        exact h9
      · have Hz := hid hz
        have t1 : ((nl : Int) == 0) = false := beqF (by omega)
        clear hz
        go_wp2_with fail
        go_meet
        exact less13_keep HSm.out Is12_1 Hkl.out Hqk.out (by rw [← Hqk.out]; exact Hxk.out) HX.out (fun e => Hz.out (Hnl.out.symm.trans e)) rfl HX11.out hrb.out
    case rest =>
      have H13 := hid hcut
      clear q1 y3 hf6 hcut
      obtain ⟨H5, reg5, hM5, hB5, hS5, hL5, hO5, hP5, hR5, hn5⟩ := H13.out
      have q0 := hM5.cells.1
      obtain ⟨p0, p1, p2, p3, p4⟩ := blk5 hP5
      clear hM5 hB5 hS5 hL5 hO5 hP5 hR5 hn5
      go_upto_region 13 with fail
      obtain ⟨H5, reg5, hM5, hB5, hS5, hL5, hO5, hP5, hR5, hn5⟩ := H13.out
      have hget := take_one (M := M) hM5 (Below.drew (Below.refl wc.heap.size wc)) HMx.out
      have HG := hid hget
      have HB5 := hid (hB5.trans (BStep.of_below (Below.drew (Below.refl wc.heap.size wc))))
      have HR5 := hid hR5
      have HN5 := hid hn5
      have HS5 := hid hS5
      have HL5 := hid hL5
      have HO5 := hid hO5
      clear hget p2 p3 p4 hM5 hB5 hS5 hL5 hO5 hP5 hR5 hn5 H13
      go_cut [5, 104] (fun s5 s104 wx => s5 = .nilIface ∧ Take13 w wx b a r rb F M n (updI f o.id none) H 1 o.id h1 h2 (boxO o))
      case first =>
       as_aux_lemma =>
        go_region_with (go_at_call 136; refine HG.out.mono ?_; rintro e w6 ⟨rfl, F6, reg6, hM6, hB6⟩; have hr6 : Blk w6 rb 24 #[.int .i64 0, .int .i64 0, .int .i64 0, .int .i64 0, .int .i64 0] := Blk.keeps (Blk.drew HR5.out) hB6.1 HN5.out; have z0 := (blk5 hr6).1; have z1 := (blk5 hr6).2.1; have z2 := (blk5 hr6).2.2.1; have z3 := (blk5 hr6).2.2.2.1; have z4 := (blk5 hr6).2.2.2.2; have f0 := Blk.frozen hr6 0; have f1 := Blk.frozen hr6 1; have f2 := Blk.frozen hr6 2; have f3 := Blk.frozen hr6 3; have f4 := Blk.frozen hr6 4; have HM6 := hid hM6; have HB6 := hid hB6; have HR6 := hid hr6; clear hM6 hr6 hB6)
        all_goals go_wp2_with fail
        all_goals go_meet
        all_goals
          have hnb6 : ¬ BFp b r F6 H5 rb := fun h => (HB6.out.2 rb h).elim HN5.out (fun h3 => by have h4 := Blk.lt (Blk.drew HR5.out); omega)
          exact ⟨rfl, less_done HM6.out (HB5.out.trans HB6.out) hnb6 HLT.out.1 HS5.out HL5.out HO5.out, Blk.set_ (Blk.set_ (Blk.set_ (Blk.set_ (Blk.set_ HR6.out 0 _) 1 _) 2 _) 3 _) 4 _⟩
      case rest =>
        obtain ⟨rfl, hdone, hbox⟩ := hcut
        have HDn := hid hdone
        have HBx := hid hbox
        clear hdone hbox
        go_wp2_with fail
        refine cancel_ret (g := rb) (cs := boxO o) (v := errV 0) (by with_unfolding_all rfl) (by with_unfolding_all rfl) (by with_unfolding_all rfl) HBx.out rfl ?_
        exact ⟨rfl, HDn.out⟩
end Go.Proofs.YtkcgchpbjegneaaGreatDoor
