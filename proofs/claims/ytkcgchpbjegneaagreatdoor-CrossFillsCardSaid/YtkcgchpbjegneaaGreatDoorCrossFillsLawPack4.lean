/-
  The walk of the document's Fills.
  The walk of openbelllaw.CrossFills.
  openbelllaw.CrossFills over a slice of orders as it comes in.
  What the rows' list of package-level variables gives: errors.errorType holds the handle of the type error; and a world that meets it.
-/
import Derived.WalkKit
import Derived.WalkLawsBesides
import Derived.WalkSpells
import Derived.Deep.QuietTactic
import Derived.BigQuiet
import Derived.Deep.LoopGhost
import Derived.Deep.DeepCutAuto
import Derived.Deep.CutBlock
import Derived.Deep.AppendLies
import Derived.Test.YtkcgchpbjegneaaGreatDoorCrossFillsLawPack3
import Derived.Laws.Tables
import Derived.Test.YtkcgchpbjegneaaGreatDoorBookCut
import Derived.ChangeSame
import Derived.ChangeVars
import Derived.JoinedOf
import Derived.RowKit
import Derived.RowKitTokens
import Derived.LaidLaws
import Derived.LaidHandle
import Derived.Stop.Joined
import Derived.Test.YtkcgchpbjegneaaGreatDoorCrossFillsLawPack2
namespace Go.Proofs.YtkcgchpbjegneaaGreatDoor
open Go.RowKit
set_option linter.unusedVariables false

theorem head5 {w : World} {g n c : Nat} {t : TypeId} {L tl : List Ord5} {x : Ord5} (h : RowAt w (some ⟨g, 0, none⟩) n c t 5 (flat encO L)) (e : L = x :: tl) :
    w.cell? ⟨g, 0, none⟩ = some (.int .i64 x.id) ∧ w.cell? ⟨g, 1, none⟩ = some (.int .i64 x.side) ∧ w.cell? ⟨g, 2, none⟩ = some (.int .i64 x.kind) ∧ w.cell? ⟨g, 3, none⟩ = some (.int .i64 x.price) ∧ w.cell? ⟨g, 4, none⟩ = some (.int .i64 x.qty) := by
  subst e
  have h1 := ord_own h (i := 0) (by simp)
  simpa using h1
theorem keep5 {W W' : World} {g : Nat} {a b c d e : Value} (h : W.cell? ⟨g, 0, none⟩ = some a ∧ W.cell? ⟨g, 1, none⟩ = some b ∧ W.cell? ⟨g, 2, none⟩ = some c ∧ W.cell? ⟨g, 3, none⟩ = some d ∧ W.cell? ⟨g, 4, none⟩ = some e) (hb : Below W.heap.size W W') :
    W'.cell? ⟨g, 0, none⟩ = some a ∧ W'.cell? ⟨g, 1, none⟩ = some b ∧ W'.cell? ⟨g, 2, none⟩ = some c ∧ W'.cell? ⟨g, 3, none⟩ = some d ∧ W'.cell? ⟨g, 4, none⟩ = some e := by
  have key : ∀ {i : Nat} {v : Value}, W.cell? ⟨g, i, none⟩ = some v → W'.cell? ⟨g, i, none⟩ = some v := fun {i v} hc => (hb.cell (p := ⟨g, i, none⟩) (World.block_lt_of_cell? W _ hc)).trans hc
  exact ⟨key h.1, key h.2.1, key h.2.2.1, key h.2.2.2.1, key h.2.2.2.2⟩
theorem keep5k {W W' : World} {g B : Nat} {a b c d e : Value} (h : W.cell? ⟨g, 0, none⟩ = some a ∧ W.cell? ⟨g, 1, none⟩ = some b ∧ W.cell? ⟨g, 2, none⟩ = some c ∧ W.cell? ⟨g, 3, none⟩ = some d ∧ W.cell? ⟨g, 4, none⟩ = some e) (hk : Keeps (fun i => i = B) W W') (hn : g ≠ B) :
    W'.cell? ⟨g, 0, none⟩ = some a ∧ W'.cell? ⟨g, 1, none⟩ = some b ∧ W'.cell? ⟨g, 2, none⟩ = some c ∧ W'.cell? ⟨g, 3, none⟩ = some d ∧ W'.cell? ⟨g, 4, none⟩ = some e := by
  have key : ∀ {i : Nat} {v : Value}, W.cell? ⟨g, i, none⟩ = some v → W'.cell? ⟨g, i, none⟩ = some v := fun {i v} hc => (hk.cell (p := ⟨g, i, none⟩) (World.block_lt_of_cell? W _ hc) hn).trans hc
  exact ⟨key h.1, key h.2.1, key h.2.2.1, key h.2.2.2.1, key h.2.2.2.2⟩
theorem RCross.prices {w wr : World} {B : Nat} {t : TypeId} {cs : Array Value} {o0 : Nat} {A A' : Option Addr} {c' : Nat} {M M1 M2 : List Ord5} {Af : Option Addr} {c : Nat} {F : List Fill4} (h : RCross w wr B t cs o0 A A' c' M M1 M2 Af c F) (s : Int) : ∀ o ∈ onSide s M, -1000000000 ≤ o.price ∧ o.price ≤ 1000000000 := by
  intro o ho
  have h1 := (h.twin.ok o (List.mem_filter.1 ho).1).1.2.2.1
  omega
theorem RCross.qtys {w wr : World} {B : Nat} {t : TypeId} {cs : Array Value} {o0 : Nat} {A A' : Option Addr} {c' : Nat} {M M1 M2 : List Ord5} {Af : Option Addr} {c : Nat} {F : List Fill4} (h : RCross w wr B t cs o0 A A' c' M M1 M2 Af c F) : ∀ o ∈ M, -1000000000 ≤ o.qty ∧ o.qty ≤ 1000000000 := by
  intro o ho
  have h1 := (h.twin.ok o ho).1.2.2.2
  omega
/-- the first of both sides lie in two boxes -/
def RFive (w wr wx : World) (B : Nat) (t : TypeId) (cs : Array Value) (o0 : Nat) (A A' : Option Addr) (c' : Nat) (M M1 M2 : List Ord5) (Af : Option Addr) (c : Nat) (F : List Fill4) (x y : Ord5) (s9 s10 : Value) : Prop :=
  ∃ B1 B2 : Nat, s9 = .pointer (some ⟨B1, 0, none⟩) ∧ s10 = .pointer (some ⟨B2, 0, none⟩) ∧ B1 ≠ B2 ∧ Blk wx B1 24 (boxO x) ∧ Blk wx B2 24 (boxO y) ∧ wr.heap.size ≤ B1 ∧ wr.heap.size ≤ B2 ∧ RCross w wx B t cs o0 A A' c' M M1 M2 Af c F ∧ Below wr.heap.size wr wx

/-- what Fills tells and leaves -/
def RFillsDone (w w' : World) (B : Nat) (t : TypeId) (cs : Array Value) (o0 : Nat) (A : Option Addr) (L1 L2 : List Ord5) (p q : Int) (e : Ending) : Prop :=
  ∃ (F : List Fill4) (Af : Option Addr) (c : Nat) (A' : Option Addr) (c' : Nat) (M : List Ord5), e = .returned (.tuple #[.slice Af F.length c, .int .i64 0]) ∧ FillsOk L1 L2 p q F ∧ FillsMax q L1 L2 F ∧ RCross w w' B t cs o0 A A' c' M (dropQ L1 q) (dropQ L2 q) Af c F

theorem want_in {a b q : Int} (h : ¬ (1 ≤ q ∧ q ≤ a ∧ q ≤ b)) : (decide (1 ≤ q) && decide (q ≤ min a b)) = false := by
  simp
  omega
set_option maxRecDepth 100000 in
set_option maxHeartbeats 2000000 in
theorem rfills_bad (w : World) (B : Nat) (t : TypeId) (cs : Array Value) (o0 : Nat) (A : Option Addr) (L L1 L2 : List Ord5) (h : RefB w B t cs o0 A L) (ht : Twin L L1 L2) (hn : L.length ≤ 100) (p q : Int) (hbad : ¬ (1 ≤ q ∧ q ≤ wantL 1 p L1 ∧ q ≤ wantL 2 p L2)) :
    Calls Tryz.prog 15 #[.pointer (some ⟨B, o0, none⟩), .int .i64 p, .int .i64 q] w fun e w' => e = .returned (.tuple #[.slice none 0 0, .int .i64 2]) ∧ Below w.heap.size w w' := by
  have hq : ∀ o ∈ L, 1 ≤ o.qty ∧ o.qty ≤ 1000000 := fun o ho => (ht.ok o ho).1.2.2.2
  have hc1 := rwilling_any w B t cs o0 A L h (by omega) 1 p Is12_1 hq
  rw [ht.want Is12_1, show sideL 1 L1 L2 = L1 from rfl] at hc1
  have hq2' := ht.want (s := 2) Is12_2 p
  rw [show sideL 2 L1 L2 = L2 from rfl] at hq2'
  obtain ⟨a, ha⟩ : ∃ q, wantL 1 p L1 = q := ⟨_, rfl⟩
  obtain ⟨b, hb⟩ : ∃ q, wantL 2 p L2 = q := ⟨_, rfl⟩
  rw [ha] at hc1 hbad
  rw [hb] at hbad hq2'
  have HC1 := hid hc1
  have HQ2 := hid hq2'
  have HQ := hid hq
  have HR := hid h
  have HN := hid hn
  clear h ht hn hq hc1 hq2' ha hb
  go_enter Tryz.func15, Tryz.ntmps15
  go_wp2_with fail
  refine HC1.out.mono ?_
  rintro e w1 ⟨rfl, hb1⟩
  have hc2 := rwilling_any w1 B t cs o0 A L (HR.out.below hb1) (by have := HN.out; omega) 2 p Is12_2 HQ.out
  rw [HQ2.out] at hc2
  have HC2 := hid hc2
  have HB1 := hid hb1
  clear hc2 hb1 HC1
  go_wp2_with fail
  refine HC2.out.mono ?_
  rintro e w2 ⟨rfl, hb2⟩
  have HB2 := hid (HB1.out.trans (hb2.mono HB1.out.size))
  clear hb2 HC2 HB1
  go_wp2_with fail
  all_goals refine (rin_any _ _ _ _).mono ?_
  all_goals rintro e w' ⟨rfl, rfl⟩
  all_goals first
    | rw [show (decide (1 ≤ q) && decide (q ≤ a)) = false by simp; omega]
    | rw [show (decide (1 ≤ q) && decide (q ≤ b)) = false by simp; omega]
  all_goals clear hbad
  all_goals go_wp2_with fail
  all_goals refine bodyPost_ret (results_tmp2 rfl _ _ _) rfl ?_
  all_goals exact ⟨rfl, HB2.out⟩

set_option maxRecDepth 100000 in
set_option maxHeartbeats 16000000 in
theorem rfills_any (w : World) (B : Nat) (t : TypeId) (cs : Array Value) (o0 : Nat) (A : Option Addr) (L L1 L2 : List Ord5) (h : RefB w B t cs o0 A L) (ht : Twin L L1 L2) (hn : L.length ≤ 100) (p q : Int) (hq1 : 1 ≤ q) (hw1 : q ≤ wantL 1 p L1) (hw2 : q ≤ wantL 2 p L2) :
    Calls Tryz.prog 15 #[.pointer (some ⟨B, o0, none⟩), .int .i64 p, .int .i64 q] w fun e w' => RFillsDone w w' B t cs o0 A L1 L2 p q e := by
  have hl := ht.lists hn
  have hp1 : ∀ o ∈ L1, 1 ≤ o.qty := fun o ho => (hl.ok o (List.mem_append_left _ ho)).2.2.2.1
  have hp2 : ∀ o ∈ L2, 1 ≤ o.qty := fun o ho => (hl.ok o (List.mem_append_right _ ho)).2.2.2.1
  have ha1 : q ≤ allQ L1 := Int.le_trans hw1 (wantL_all hp1)
  have ha2 : q ≤ allQ L2 := Int.le_trans hw2 (wantL_all hp2)
  have htb : q ≤ 100000000 := by
    have h1 := wantL_bound (s := 1) (p := p) (L := L1) (fun o ho => (hl.ok o (List.mem_append_left _ ho)).2.2.2)
    have h2 := hl.cnt
    rw [List.length_append] at h2
    omega
  obtain ⟨dd1, dd2, -⟩ := ids_parts hl
  have hq : ∀ o ∈ L, 1 ≤ o.qty ∧ o.qty ≤ 1000000 := fun o ho => (ht.ok o ho).1.2.2.2
  have hc1 := rwilling_any w B t cs o0 A L h (by omega) 1 p Is12_1 hq
  rw [ht.want Is12_1, show sideL 1 L1 L2 = L1 from rfl] at hc1
  have hq2' := ht.want (s := 2) Is12_2 p
  rw [show sideL 2 L1 L2 = L2 from rfl] at hq2'
  obtain ⟨a1, ha⟩ : ∃ q, wantL 1 p L1 = q := ⟨_, rfl⟩
  obtain ⟨a2, hb⟩ : ∃ q, wantL 2 p L2 = q := ⟨_, rfl⟩
  rw [ha] at hc1 hw1
  rw [hb] at hw2 hq2'
  have HC1 := hid hc1
  have HQ2 := hid hq2'
  have HQ := hid hq
  have HR0 := hid h
  have HN := hid hn
  have HT := hid ht
  have Hq1 := hid hp1
  have Hq2 := hid hp2
  have Hd1 := hid dd1
  have Hd2 := hid dd2
  have hBl := h.blt
  clear h ht hn hq hc1 hq2' ha hb hl hp1 hp2 dd1 dd2
  go_enter Tryz.func15, Tryz.ntmps15
  go_upto_region 1 with fail
  go_cut [21] (fun s21 wx => s21 = .bool false ∧ Hid (Below w.heap.size w wx))
  case first =>
    go_wp2_with fail
    refine HC1.out.mono ?_
    rintro e w1 ⟨rfl, hb1⟩
    have hc2 := rwilling_any w1 B t cs o0 A L (HR0.out.below hb1) (by have := HN.out; omega) 2 p Is12_2 HQ.out
    rw [HQ2.out] at hc2
    have HC2 := hid hc2
    have HB1 := hid hb1
    clear hc2 hb1 HC1
    go_wp2_with fail
    refine HC2.out.mono ?_
    rintro e w2 ⟨rfl, hb2⟩
    have HB2 := hid (HB1.out.trans (hb2.mono HB1.out.size))
    clear hb2 HC2 HB1
    go_wp2_with fail
    all_goals refine (rin_any _ _ _ _).mono ?_
    all_goals rintro e w' ⟨rfl, rfl⟩
    all_goals first
      | rw [show (decide (1 ≤ q) && decide (q ≤ a1)) = true by simp; omega]
      | rw [show (decide (1 ≤ q) && decide (q ≤ a2)) = true by simp; omega]
    all_goals clear hw1 hw2
    all_goals go_wp2_with fail
    all_goals go_meet
    all_goals exact ⟨rfl, HB2⟩
  case rest =>
  obtain ⟨rfl, HB2⟩ := hcut
  clear hw1 hw2
  obtain ⟨w2, ew2⟩ : ∃ W, wc = W := ⟨_, rfl⟩
  rw [ew2] at HB2 ⊢
  clear ew2
  obtain ⟨c0, hst⟩ := RCross.start HR0.out HT.out HN.out
  have HST := hid (show RCross w w2 B t cs o0 A A c0 L (dropQ L1 0) (dropQ L2 0) none 0 [] by rw [dropQ_zero _ (Int.le_refl _), dropQ_zero _ (Int.le_refl _)]; exact hst.below HB2.out)
  clear hst HB2 HR0 HT HQ HQ2
  go_wp2_with fail
  go_loopg [2, 8] q.toNat (fun g s2 s8 wr => ∃ (a : Int) (F : List Fill4) (Af : Option Addr) (c : Nat) (A' : Option Addr) (c' : Nat) (M : List Ord5), 0 ≤ a ∧ a ≤ q ∧ g = (q - a).toNat ∧ s2 = .int .i64 (q - a) ∧ s8 = .slice Af F.length c ∧ Hid (FillsOk L1 L2 p a F) ∧ Hid (FillsMax q L1 L2 F) ∧ Hid (RCross w wr B t cs o0 A A' c' M (dropQ L1 a) (dropQ L2 a) Af c F))
  case atStart => exact ⟨0, [], none, 0, A, c0, L, Int.le_refl _, by omega, by simp, by simp, rfl, hid (FillsOk.start Hq1.out Hq2.out), hid (FillsMax.start q L1 L2), HST⟩
  case round =>
    obtain ⟨a, F, Af, c, A', c', M, ha0, hat, rfl, rfl, rfl, HF, HX, HR⟩ := hrel
    clear HST
    by_cases hlt : a < q
    · have d3 : decide (0 < q - a) = true := decT (by omega)
      obtain ⟨x, t1, hx⟩ : ∃ x t1, dropQ L1 a = x :: t1 := by
        cases hd : dropQ L1 a with
        | nil => exact absurd hd (dropQ_ne ha0 (by omega))
        | cons x t1 => exact ⟨x, t1, rfl⟩
      obtain ⟨y, u1, hy⟩ : ∃ y u1, dropQ L2 a = y :: u1 := by
        cases hd : dropQ L2 a with
        | nil => exact absurd hd (dropQ_ne ha0 (by omega))
        | cons y u1 => exact ⟨y, u1, rfl⟩
      have Hx0 := hid hx
      have Hy0 := hid hy
      obtain ⟨M1, hM1⟩ : ∃ M1, dropQ L1 a = M1 := ⟨_, rfl⟩
      obtain ⟨M2, hM2⟩ : ∃ M2, dropQ L2 a = M2 := ⟨_, rfl⟩
      rw [hM1] at hx HR
      rw [hM2] at hy HR
      have HM1 := hid hM1
      have HM2 := hid hM2
      have Hx := hid hx
      have Hy := hid hy
      obtain ⟨m1, hm1⟩ : ∃ m, M1.length = m := ⟨_, rfl⟩
      obtain ⟨m2, hm2⟩ : ∃ m, M2.length = m := ⟨_, rfl⟩
      have hm1p : 0 < m1 := by rw [← hm1, hx, List.length_cons]; omega
      have hm2p : 0 < m2 := by rw [← hm2, hy, List.length_cons]; omega
      have hm1z : (0 : Int) < (m1 : Int) := by omega
      have hm2z : (0 : Int) < (m2 : Int) := by omega
      have Hm1 := hid hm1
      have Hm2 := hid hm2
      have Hm1p := hid hm1p
      have Hm2p := hid hm2p
      clear hx hy hM1 hM2 hm1 hm2 hm1p hm2p
      have HAf := hid (fun g (hg : blkOf Af = some g) => HR.out.row.lt hg)
      have HWr := hid HR.out.keep.size
      go_upto_region 5 with fail
      go_cut [9, 10] (fun s9 s10 wx => RFive w wr wx B t cs o0 A A' c' M M1 M2 Af c F x y s9 s10)
      case first =>
        have hb0 : Below wr.heap.size wr wr.drew := Below.drew (Below.refl _ _)
        refine wp_region_heldM_drew (fun t => [11].contains t) (fun _ => True) (by kernel_rfl) trivial (fun _ => ?_)
        obtain ⟨w0, ew0⟩ : ∃ W, wr.drew = W := ⟨_, rfl⟩
        rw [ew0] at hb0 ⊢
        clear ew0
        refine takeM 0 24 (.pointer (some ⟨B, o0, none⟩)) rfl rfl (by kernel_rfl) (by kernel_rfl) (by kernel_rfl) (by kernel_rfl) (fun _ _ _ h => h) (by rfl) ?_ (by first | trivial | assumption) ?_
        · intro W hSw; go_simp
        simp only [Act.put, List.setIfInBounds_toArray, List.set_cons_zero, List.set_cons_succ]
        refine takeM 4 28 (.pointer (some ⟨B, o0, none⟩)) rfl rfl (by kernel_rfl) (by kernel_rfl) (by kernel_rfl) (by kernel_rfl) (fun _ _ _ h => h) (by rfl) ?_ (by first | trivial | assumption) ?_
        · intro W hSw; go_simp
        simp only [Act.put, List.setIfInBounds_toArray, List.set_cons_zero, List.set_cons_succ]
        refine allM3 (i := 1) (j := 8) (m := 9) (by kernel_rfl) ?_ ?_ ?_
        · refine opM 1 rfl (fun K1 hK1 => ?_)
          go_simp
          go_at_call 40
          have hr1 := HR.out.below hb0
          obtain ⟨cc1, hcc1, -⟩ := hr1.ref.cell
          refine (rside_any _ B o0 A' _ cc1 M 1 hcc1 hr1.ref.els (by have := hr1.few; omega) (hr1.prices 1)).mono ?_
          rintro e w1 ⟨hbb1, A1, c1, rfl, hrow1, hnew1⟩
          rw [← hr1.twin.s1, Hm1.out] at hrow1 ⊢
          obtain ⟨g1, eg1⟩ := row_addr' hrow1 Hm1p.out
          subst eg1
          have hc1 := head5 hrow1 Hx.out
          clear hcc1 hr1
          refine hK1 _ _ (fun _ => trivial) ?_
          clear hK1
          have hb1 := hb0.trans (hbb1.mono hb0.size)
          refine wpAnyM_mono (S' := fun W => W.cell? ⟨g1, 0, none⟩ = some (.int .i64 x.id) ∧ W.cell? ⟨g1, 1, none⟩ = some (.int .i64 x.side) ∧ W.cell? ⟨g1, 2, none⟩ = some (.int .i64 x.kind) ∧ W.cell? ⟨g1, 3, none⟩ = some (.int .i64 x.price) ∧ W.cell? ⟨g1, 4, none⟩ = some (.int .i64 x.qty)) (fun _ _ => trivial) _ ?_
          have hS1 := hc1
          refine takeM 2 26 (.pointer (some ⟨g1, 0, none⟩)) rfl rfl (by kernel_rfl) (by kernel_rfl) (by kernel_rfl) (by kernel_rfl) (fun _ _ _ h => h) (by rfl) ?_ (by first | trivial | assumption) ?_
          · intro W hSw; go_simp; intro e0; exact absurd e0 (by have := Hm1p.out; omega)
          simp only [Act.put, List.setIfInBounds_toArray, List.set_cons_zero, List.set_cons_succ]
          refine takeM 3 27 (.agg #[.int .i64 x.id, .int .i64 x.side, .int .i64 x.kind, .int .i64 x.price, .int .i64 x.qty]) rfl rfl (by kernel_rfl) (by kernel_rfl) (by kernel_rfl) (by kernel_rfl) (fun _ _ _ h => h) (by rfl) ?_ (by first | trivial | assumption) ?_
          · intro W hSw; go_simp
          simp only [Act.put, List.setIfInBounds_toArray, List.set_cons_zero, List.set_cons_succ]
          refine allM3 (i := 5) (j := 8) (m := 9) (by kernel_rfl) ?_ ?_ ?_
          · refine opM 5 rfl (fun K2 hK2 => ?_)
            go_simp
            go_at_call 40
            have hr2 := HR.out.below hb1
            obtain ⟨cc2, hcc2, -⟩ := hr2.ref.cell
            refine (rside_any _ B o0 A' _ cc2 M 2 hcc2 hr2.ref.els (by have := hr2.few; omega) (hr2.prices 2)).mono ?_
            rintro e w2 ⟨hbb2, A2, c2, rfl, hrow2, hnew2⟩
            rw [← hr2.twin.s2, Hm2.out] at hrow2 ⊢
            obtain ⟨g2, eg2⟩ := row_addr' hrow2 Hm2p.out
            subst eg2
            have hc2 := head5 hrow2 Hy.out
            clear hcc2 hr2
            refine hK2 _ _ (fun _ => keep5 hS1 hbb2) ?_
            clear hK2
            have hb2 := hb1.trans (hbb2.mono hb1.size)
            have hS2 := And.intro (keep5 hS1 hbb2) hc2
            refine wpAnyM_mono (S' := fun W => (W.cell? ⟨g1, 0, none⟩ = some (.int .i64 x.id) ∧ W.cell? ⟨g1, 1, none⟩ = some (.int .i64 x.side) ∧ W.cell? ⟨g1, 2, none⟩ = some (.int .i64 x.kind) ∧ W.cell? ⟨g1, 3, none⟩ = some (.int .i64 x.price) ∧ W.cell? ⟨g1, 4, none⟩ = some (.int .i64 x.qty)) ∧ (W.cell? ⟨g2, 0, none⟩ = some (.int .i64 y.id) ∧ W.cell? ⟨g2, 1, none⟩ = some (.int .i64 y.side) ∧ W.cell? ⟨g2, 2, none⟩ = some (.int .i64 y.kind) ∧ W.cell? ⟨g2, 3, none⟩ = some (.int .i64 y.price) ∧ W.cell? ⟨g2, 4, none⟩ = some (.int .i64 y.qty))) (fun _ h => h.1) _ ?_
            refine takeM 6 30 (.pointer (some ⟨g2, 0, none⟩)) rfl rfl (by kernel_rfl) (by kernel_rfl) (by kernel_rfl) (by kernel_rfl) (fun _ _ _ h => h) (by rfl) ?_ (by first | trivial | assumption) ?_
            · intro W hSw; go_simp; intro e0; exact absurd e0 (by have := Hm2p.out; omega)
            simp only [Act.put, List.setIfInBounds_toArray, List.set_cons_zero, List.set_cons_succ]
            refine takeM 7 31 (.agg #[.int .i64 y.id, .int .i64 y.side, .int .i64 y.kind, .int .i64 y.price, .int .i64 y.qty]) rfl rfl (by kernel_rfl) (by kernel_rfl) (by kernel_rfl) (by kernel_rfl) (fun _ _ _ h => h) (by rfl) ?_ (by first | trivial | assumption) ?_
            · intro W hSw; go_simp
            simp only [Act.put, List.setIfInBounds_toArray, List.set_cons_zero, List.set_cons_succ]
            refine allM2 (i := 8) (j := 9) (by kernel_rfl) ?_ ?_
            · refine opM 8 rfl (fun K3 hK3 => ?_)
              go_simp
              have ha3 : Below w2.heap.size w2 (w2.alloc (.cells #[.int .i64 0, .int .i64 0, .int .i64 0, .int .i64 0, .int .i64 0] 24)) := (Below.refl _ _).alloc (Nat.le_refl _) _
              have hx3 := Blk.new w2 24 #[.int .i64 0, .int .i64 0, .int .i64 0, .int .i64 0, .int .i64 0]
              obtain ⟨w3, ew3⟩ : ∃ W, (w2.alloc (.cells #[.int .i64 0, .int .i64 0, .int .i64 0, .int .i64 0, .int .i64 0] 24)) = W := ⟨_, rfl⟩
              rw [ew3] at ha3 hx3 ⊢
              clear ew3
              refine hK3 _ _ (fun _ => And.intro (keep5 hS2.1 ha3) (keep5 hS2.2 ha3)) ?_
              clear hK3
              have hb3 := hb2.trans (ha3.mono hb2.size)
              have hg3 : wr.heap.size ≤ w2.heap.size := hb2.size
              have hq3_1 : g1 ≠ w2.heap.size := fun e => by have h := World.block_lt_of_cell? _ _ hS2.1.1; dsimp only at h; omega
              have hS3 := And.intro (keep5 hS2.1 ha3) (keep5 hS2.2 ha3)
              have hq3_2 : g2 ≠ w2.heap.size := fun e => by have h := World.block_lt_of_cell? _ _ hS2.2.1; dsimp only at h; omega
              refine allM1 (i := 9) (by kernel_rfl) ?_
              refine opM 9 rfl (fun K4 hK4 => ?_)
              go_simp
              have ha4 : Below w3.heap.size w3 (w3.alloc (.cells #[.int .i64 0, .int .i64 0, .int .i64 0, .int .i64 0, .int .i64 0] 24)) := (Below.refl _ _).alloc (Nat.le_refl _) _
              have hx4 := Blk.new w3 24 #[.int .i64 0, .int .i64 0, .int .i64 0, .int .i64 0, .int .i64 0]
              obtain ⟨w4, ew4⟩ : ∃ W, (w3.alloc (.cells #[.int .i64 0, .int .i64 0, .int .i64 0, .int .i64 0, .int .i64 0] 24)) = W := ⟨_, rfl⟩
              rw [ew4] at ha4 hx4 ⊢
              clear ew4
              refine hK4 _ _ (fun _ => And.intro (keep5 hS3.1 ha4) (keep5 hS3.2 ha4)) ?_
              clear hK4
              have hb4 := hb3.trans (ha4.mono hb3.size)
              have hg4 : wr.heap.size ≤ w3.heap.size := hb3.size
              have hq4_1 : g1 ≠ w3.heap.size := fun e => by have h := World.block_lt_of_cell? _ _ hS3.1.1; dsimp only at h; omega
              have hq4_2 : g2 ≠ w3.heap.size := fun e => by have h := World.block_lt_of_cell? _ _ hS3.2.1; dsimp only at h; omega
              have h8_4 := Blk.keep hx3 ha4
              have hS4 := And.intro (keep5 hS3.1 ha4) (keep5 hS3.2 ha4)
              have hne4 : w2.heap.size ≠ w3.heap.size := fun e => by have := Blk.lt hx3; omega
              refine allM1 (i := 10) (by kernel_rfl) ?_
              refine opM 10 rfl (fun K5 hK5 => ?_)
              refine (if_pos (by rfl)).mpr ?_
              refine wp_store_row 24 _ _ rfl (w2.heap.size) #[.int .i64 x.id, .int .i64 x.side, .int .i64 x.kind, .int .i64 x.price, .int .i64 x.qty] rfl rfl 24 #[.int .i64 0, .int .i64 0, .int .i64 0, .int .i64 0, .int .i64 0] h8_4 (by show (Tryz.prog.info? 24).map (·.size) = some 5; kernel_rfl) rfl (by simp [Value.oneCell']) ?_
              have hx5 := Blk.setRow _ _ _ #[.int .i64 x.id, .int .i64 x.side, .int .i64 x.kind, .int .i64 x.price, .int .i64 x.qty] _ h8_4
              have hk5 := Keeps.setRow w4 (w2.heap.size) #[.int .i64 x.id, .int .i64 x.side, .int .i64 x.kind, .int .i64 x.price, .int .i64 x.qty]
              obtain ⟨w5, ew5⟩ : ∃ W, (w4.setRow (w2.heap.size) #[.int .i64 x.id, .int .i64 x.side, .int .i64 x.kind, .int .i64 x.price, .int .i64 x.qty]) = W := ⟨_, rfl⟩
              rw [ew5] at hx5 hk5 ⊢
              clear ew5
              refine hK5 _ _ (fun _ => And.intro (keep5k hS4.1 hk5 hq3_1) (keep5k hS4.2 hk5 hq3_2)) ?_
              clear hK5
              have hb5 := hb4.trans (hk5.below (fun i e => e ▸ hg3) hb4.size)
              simp only [Act.put]
              have h9_5 := Blk.keeps hx4 hk5 (Ne.symm hne4)
              refine allM1 (i := 11) (by kernel_rfl) ?_
              refine opM 11 rfl (fun K6 hK6 => ?_)
              refine (if_pos (by rfl)).mpr ?_
              refine wp_store_row 24 _ _ rfl (w3.heap.size) #[.int .i64 y.id, .int .i64 y.side, .int .i64 y.kind, .int .i64 y.price, .int .i64 y.qty] rfl rfl 24 #[.int .i64 0, .int .i64 0, .int .i64 0, .int .i64 0, .int .i64 0] h9_5 (by show (Tryz.prog.info? 24).map (·.size) = some 5; kernel_rfl) rfl (by simp [Value.oneCell']) ?_
              have hx6 := Blk.setRow _ _ _ #[.int .i64 y.id, .int .i64 y.side, .int .i64 y.kind, .int .i64 y.price, .int .i64 y.qty] _ h9_5
              have hk6 := Keeps.setRow w5 (w3.heap.size) #[.int .i64 y.id, .int .i64 y.side, .int .i64 y.kind, .int .i64 y.price, .int .i64 y.qty]
              obtain ⟨w6, ew6⟩ : ∃ W, (w5.setRow (w3.heap.size) #[.int .i64 y.id, .int .i64 y.side, .int .i64 y.kind, .int .i64 y.price, .int .i64 y.qty]) = W := ⟨_, rfl⟩
              rw [ew6] at hx6 hk6 ⊢
              clear ew6
              refine hK6 _ _ (fun e => absurd e (by decide)) ?_
              clear hK6
              have hb6 := hb5.trans (hk6.below (fun i e => e ▸ hg4) hb5.size)
              simp only [Act.put]
              have h8_6 := Blk.keeps hx5 hk6 hne4
              refine wpAnyM_done (by kernel_rfl) ?_ _
              go_wp2_with fail
              go_meet
              exact ⟨_, _, rfl, rfl, hne4, h8_6, hx6, hg3, hg4, HR.out.below hb6, hb6⟩
            · refine opM 9 rfl (fun K7 hK7 => ?_)
              go_simp
              have ha7 : Below w2.heap.size w2 (w2.alloc (.cells #[.int .i64 0, .int .i64 0, .int .i64 0, .int .i64 0, .int .i64 0] 24)) := (Below.refl _ _).alloc (Nat.le_refl _) _
              have hx7 := Blk.new w2 24 #[.int .i64 0, .int .i64 0, .int .i64 0, .int .i64 0, .int .i64 0]
              obtain ⟨w7, ew7⟩ : ∃ W, (w2.alloc (.cells #[.int .i64 0, .int .i64 0, .int .i64 0, .int .i64 0, .int .i64 0] 24)) = W := ⟨_, rfl⟩
              rw [ew7] at ha7 hx7 ⊢
              clear ew7
              refine hK7 _ _ (fun _ => And.intro (keep5 hS2.1 ha7) (keep5 hS2.2 ha7)) ?_
              clear hK7
              have hb7 := hb2.trans (ha7.mono hb2.size)
              have hg7 : wr.heap.size ≤ w2.heap.size := hb2.size
              have hq7_1 : g1 ≠ w2.heap.size := fun e => by have h := World.block_lt_of_cell? _ _ hS2.1.1; dsimp only at h; omega
              have hS7 := And.intro (keep5 hS2.1 ha7) (keep5 hS2.2 ha7)
              have hq7_2 : g2 ≠ w2.heap.size := fun e => by have h := World.block_lt_of_cell? _ _ hS2.2.1; dsimp only at h; omega
              refine allM1 (i := 8) (by kernel_rfl) ?_
              refine opM 8 rfl (fun K8 hK8 => ?_)
              go_simp
              have ha8 : Below w7.heap.size w7 (w7.alloc (.cells #[.int .i64 0, .int .i64 0, .int .i64 0, .int .i64 0, .int .i64 0] 24)) := (Below.refl _ _).alloc (Nat.le_refl _) _
              have hx8 := Blk.new w7 24 #[.int .i64 0, .int .i64 0, .int .i64 0, .int .i64 0, .int .i64 0]
              obtain ⟨w8, ew8⟩ : ∃ W, (w7.alloc (.cells #[.int .i64 0, .int .i64 0, .int .i64 0, .int .i64 0, .int .i64 0] 24)) = W := ⟨_, rfl⟩
              rw [ew8] at ha8 hx8 ⊢
              clear ew8
              refine hK8 _ _ (fun _ => And.intro (keep5 hS7.1 ha8) (keep5 hS7.2 ha8)) ?_
              clear hK8
              have hb8 := hb7.trans (ha8.mono hb7.size)
              have hg8 : wr.heap.size ≤ w7.heap.size := hb7.size
              have hq8_1 : g1 ≠ w7.heap.size := fun e => by have h := World.block_lt_of_cell? _ _ hS7.1.1; dsimp only at h; omega
              have hq8_2 : g2 ≠ w7.heap.size := fun e => by have h := World.block_lt_of_cell? _ _ hS7.2.1; dsimp only at h; omega
              have h9_8 := Blk.keep hx7 ha8
              have hS8 := And.intro (keep5 hS7.1 ha8) (keep5 hS7.2 ha8)
              have hne8 : w2.heap.size ≠ w7.heap.size := fun e => by have := Blk.lt hx7; omega
              refine allM1 (i := 10) (by kernel_rfl) ?_
              refine opM 10 rfl (fun K9 hK9 => ?_)
              refine (if_pos (by rfl)).mpr ?_
              refine wp_store_row 24 _ _ rfl (w7.heap.size) #[.int .i64 x.id, .int .i64 x.side, .int .i64 x.kind, .int .i64 x.price, .int .i64 x.qty] rfl rfl 24 #[.int .i64 0, .int .i64 0, .int .i64 0, .int .i64 0, .int .i64 0] hx8 (by show (Tryz.prog.info? 24).map (·.size) = some 5; kernel_rfl) rfl (by simp [Value.oneCell']) ?_
              have hx9 := Blk.setRow _ _ _ #[.int .i64 x.id, .int .i64 x.side, .int .i64 x.kind, .int .i64 x.price, .int .i64 x.qty] _ hx8
              have hk9 := Keeps.setRow w8 (w7.heap.size) #[.int .i64 x.id, .int .i64 x.side, .int .i64 x.kind, .int .i64 x.price, .int .i64 x.qty]
              obtain ⟨w9, ew9⟩ : ∃ W, (w8.setRow (w7.heap.size) #[.int .i64 x.id, .int .i64 x.side, .int .i64 x.kind, .int .i64 x.price, .int .i64 x.qty]) = W := ⟨_, rfl⟩
              rw [ew9] at hx9 hk9 ⊢
              clear ew9
              refine hK9 _ _ (fun _ => And.intro (keep5k hS8.1 hk9 hq8_1) (keep5k hS8.2 hk9 hq8_2)) ?_
              clear hK9
              have hb9 := hb8.trans (hk9.below (fun i e => e ▸ hg8) hb8.size)
              simp only [Act.put]
              have h9_9 := Blk.keeps h9_8 hk9 hne8
              refine allM1 (i := 11) (by kernel_rfl) ?_
              refine opM 11 rfl (fun K10 hK10 => ?_)
              refine (if_pos (by rfl)).mpr ?_
              refine wp_store_row 24 _ _ rfl (w2.heap.size) #[.int .i64 y.id, .int .i64 y.side, .int .i64 y.kind, .int .i64 y.price, .int .i64 y.qty] rfl rfl 24 #[.int .i64 0, .int .i64 0, .int .i64 0, .int .i64 0, .int .i64 0] h9_9 (by show (Tryz.prog.info? 24).map (·.size) = some 5; kernel_rfl) rfl (by simp [Value.oneCell']) ?_
              have hx10 := Blk.setRow _ _ _ #[.int .i64 y.id, .int .i64 y.side, .int .i64 y.kind, .int .i64 y.price, .int .i64 y.qty] _ h9_9
              have hk10 := Keeps.setRow w9 (w2.heap.size) #[.int .i64 y.id, .int .i64 y.side, .int .i64 y.kind, .int .i64 y.price, .int .i64 y.qty]
              obtain ⟨w10, ew10⟩ : ∃ W, (w9.setRow (w2.heap.size) #[.int .i64 y.id, .int .i64 y.side, .int .i64 y.kind, .int .i64 y.price, .int .i64 y.qty]) = W := ⟨_, rfl⟩
              rw [ew10] at hx10 hk10 ⊢
              clear ew10
              refine hK10 _ _ (fun e => absurd e (by decide)) ?_
              clear hK10
              have hb10 := hb9.trans (hk10.below (fun i e => e ▸ hg7) hb9.size)
              simp only [Act.put]
              have h8_10 := Blk.keeps hx9 hk10 (Ne.symm hne8)
              refine wpAnyM_done (by kernel_rfl) ?_ _
              go_wp2_with fail
              go_meet
              exact ⟨_, _, rfl, rfl, (Ne.symm hne8), h8_10, hx10, hg8, hg7, HR.out.below hb10, hb10⟩
          · refine opM 8 rfl (fun K11 hK11 => ?_)
            go_simp
            have ha11 : Below w1.heap.size w1 (w1.alloc (.cells #[.int .i64 0, .int .i64 0, .int .i64 0, .int .i64 0, .int .i64 0] 24)) := (Below.refl _ _).alloc (Nat.le_refl _) _
            have hx11 := Blk.new w1 24 #[.int .i64 0, .int .i64 0, .int .i64 0, .int .i64 0, .int .i64 0]
            obtain ⟨w11, ew11⟩ : ∃ W, (w1.alloc (.cells #[.int .i64 0, .int .i64 0, .int .i64 0, .int .i64 0, .int .i64 0] 24)) = W := ⟨_, rfl⟩
            rw [ew11] at ha11 hx11 ⊢
            clear ew11
            refine hK11 _ _ (fun _ => keep5 hS1 ha11) ?_
            clear hK11
            have hb11 := hb1.trans (ha11.mono hb1.size)
            have hg11 : wr.heap.size ≤ w1.heap.size := hb1.size
            have hS11 := keep5 hS1 ha11
            have hq11_1 : g1 ≠ w1.heap.size := fun e => by have h := World.block_lt_of_cell? _ _ hS1.1; dsimp only at h; omega
            refine allM2 (i := 5) (j := 9) (by kernel_rfl) ?_ ?_
            · refine opM 5 rfl (fun K12 hK12 => ?_)
              go_simp
              go_at_call 40
              have hr12 := HR.out.below hb11
              obtain ⟨cc12, hcc12, -⟩ := hr12.ref.cell
              refine (rside_any _ B o0 A' _ cc12 M 2 hcc12 hr12.ref.els (by have := hr12.few; omega) (hr12.prices 2)).mono ?_
              rintro e w12 ⟨hbb12, A12, c12, rfl, hrow12, hnew12⟩
              rw [← hr12.twin.s2, Hm2.out] at hrow12 ⊢
              obtain ⟨g12, eg12⟩ := row_addr' hrow12 Hm2p.out
              subst eg12
              have hc12 := head5 hrow12 Hy.out
              clear hcc12 hr12
              refine hK12 _ _ (fun _ => keep5 hS11 hbb12) ?_
              clear hK12
              have hb12 := hb11.trans (hbb12.mono hb11.size)
              have h8_12 := Blk.keep hx11 hbb12
              have hq12_8 : g12 ≠ w1.heap.size := fun e => by have := hnew12 g12 rfl; have := Blk.lt hx11; omega
              have hS12 := And.intro (keep5 hS11 hbb12) hc12
              refine wpAnyM_mono (S' := fun W => (W.cell? ⟨g1, 0, none⟩ = some (.int .i64 x.id) ∧ W.cell? ⟨g1, 1, none⟩ = some (.int .i64 x.side) ∧ W.cell? ⟨g1, 2, none⟩ = some (.int .i64 x.kind) ∧ W.cell? ⟨g1, 3, none⟩ = some (.int .i64 x.price) ∧ W.cell? ⟨g1, 4, none⟩ = some (.int .i64 x.qty)) ∧ (W.cell? ⟨g12, 0, none⟩ = some (.int .i64 y.id) ∧ W.cell? ⟨g12, 1, none⟩ = some (.int .i64 y.side) ∧ W.cell? ⟨g12, 2, none⟩ = some (.int .i64 y.kind) ∧ W.cell? ⟨g12, 3, none⟩ = some (.int .i64 y.price) ∧ W.cell? ⟨g12, 4, none⟩ = some (.int .i64 y.qty))) (fun _ h => h.1) _ ?_
              refine takeM 6 30 (.pointer (some ⟨g12, 0, none⟩)) rfl rfl (by kernel_rfl) (by kernel_rfl) (by kernel_rfl) (by kernel_rfl) (fun _ _ _ h => h) (by rfl) ?_ (by first | trivial | assumption) ?_
              · intro W hSw; go_simp; intro e0; exact absurd e0 (by have := Hm2p.out; omega)
              simp only [Act.put, List.setIfInBounds_toArray, List.set_cons_zero, List.set_cons_succ]
              refine takeM 7 31 (.agg #[.int .i64 y.id, .int .i64 y.side, .int .i64 y.kind, .int .i64 y.price, .int .i64 y.qty]) rfl rfl (by kernel_rfl) (by kernel_rfl) (by kernel_rfl) (by kernel_rfl) (fun _ _ _ h => h) (by rfl) ?_ (by first | trivial | assumption) ?_
              · intro W hSw; go_simp
              simp only [Act.put, List.setIfInBounds_toArray, List.set_cons_zero, List.set_cons_succ]
              refine allM1 (i := 9) (by kernel_rfl) ?_
              refine opM 9 rfl (fun K13 hK13 => ?_)
              go_simp
              have ha13 : Below w12.heap.size w12 (w12.alloc (.cells #[.int .i64 0, .int .i64 0, .int .i64 0, .int .i64 0, .int .i64 0] 24)) := (Below.refl _ _).alloc (Nat.le_refl _) _
              have hx13 := Blk.new w12 24 #[.int .i64 0, .int .i64 0, .int .i64 0, .int .i64 0, .int .i64 0]
              obtain ⟨w13, ew13⟩ : ∃ W, (w12.alloc (.cells #[.int .i64 0, .int .i64 0, .int .i64 0, .int .i64 0, .int .i64 0] 24)) = W := ⟨_, rfl⟩
              rw [ew13] at ha13 hx13 ⊢
              clear ew13
              refine hK13 _ _ (fun _ => And.intro (keep5 hS12.1 ha13) (keep5 hS12.2 ha13)) ?_
              clear hK13
              have hb13 := hb12.trans (ha13.mono hb12.size)
              have hg13 : wr.heap.size ≤ w12.heap.size := hb12.size
              have hq13_1 : g1 ≠ w12.heap.size := fun e => by have h := World.block_lt_of_cell? _ _ hS12.1.1; dsimp only at h; omega
              have hq13_2 : g12 ≠ w12.heap.size := fun e => by have h := World.block_lt_of_cell? _ _ hS12.2.1; dsimp only at h; omega
              have h8_13 := Blk.keep h8_12 ha13
              have hS13 := And.intro (keep5 hS12.1 ha13) (keep5 hS12.2 ha13)
              have hne13 : w1.heap.size ≠ w12.heap.size := fun e => by have := Blk.lt h8_12; omega
              refine allM1 (i := 10) (by kernel_rfl) ?_
              refine opM 10 rfl (fun K14 hK14 => ?_)
              refine (if_pos (by rfl)).mpr ?_
              refine wp_store_row 24 _ _ rfl (w1.heap.size) #[.int .i64 x.id, .int .i64 x.side, .int .i64 x.kind, .int .i64 x.price, .int .i64 x.qty] rfl rfl 24 #[.int .i64 0, .int .i64 0, .int .i64 0, .int .i64 0, .int .i64 0] h8_13 (by show (Tryz.prog.info? 24).map (·.size) = some 5; kernel_rfl) rfl (by simp [Value.oneCell']) ?_
              have hx14 := Blk.setRow _ _ _ #[.int .i64 x.id, .int .i64 x.side, .int .i64 x.kind, .int .i64 x.price, .int .i64 x.qty] _ h8_13
              have hk14 := Keeps.setRow w13 (w1.heap.size) #[.int .i64 x.id, .int .i64 x.side, .int .i64 x.kind, .int .i64 x.price, .int .i64 x.qty]
              obtain ⟨w14, ew14⟩ : ∃ W, (w13.setRow (w1.heap.size) #[.int .i64 x.id, .int .i64 x.side, .int .i64 x.kind, .int .i64 x.price, .int .i64 x.qty]) = W := ⟨_, rfl⟩
              rw [ew14] at hx14 hk14 ⊢
              clear ew14
              refine hK14 _ _ (fun _ => And.intro (keep5k hS13.1 hk14 hq11_1) (keep5k hS13.2 hk14 hq12_8)) ?_
              clear hK14
              have hb14 := hb13.trans (hk14.below (fun i e => e ▸ hg11) hb13.size)
              simp only [Act.put]
              have h9_14 := Blk.keeps hx13 hk14 (Ne.symm hne13)
              refine allM1 (i := 11) (by kernel_rfl) ?_
              refine opM 11 rfl (fun K15 hK15 => ?_)
              refine (if_pos (by rfl)).mpr ?_
              refine wp_store_row 24 _ _ rfl (w12.heap.size) #[.int .i64 y.id, .int .i64 y.side, .int .i64 y.kind, .int .i64 y.price, .int .i64 y.qty] rfl rfl 24 #[.int .i64 0, .int .i64 0, .int .i64 0, .int .i64 0, .int .i64 0] h9_14 (by show (Tryz.prog.info? 24).map (·.size) = some 5; kernel_rfl) rfl (by simp [Value.oneCell']) ?_
              have hx15 := Blk.setRow _ _ _ #[.int .i64 y.id, .int .i64 y.side, .int .i64 y.kind, .int .i64 y.price, .int .i64 y.qty] _ h9_14
              have hk15 := Keeps.setRow w14 (w12.heap.size) #[.int .i64 y.id, .int .i64 y.side, .int .i64 y.kind, .int .i64 y.price, .int .i64 y.qty]
              obtain ⟨w15, ew15⟩ : ∃ W, (w14.setRow (w12.heap.size) #[.int .i64 y.id, .int .i64 y.side, .int .i64 y.kind, .int .i64 y.price, .int .i64 y.qty]) = W := ⟨_, rfl⟩
              rw [ew15] at hx15 hk15 ⊢
              clear ew15
              refine hK15 _ _ (fun e => absurd e (by decide)) ?_
              clear hK15
              have hb15 := hb14.trans (hk15.below (fun i e => e ▸ hg13) hb14.size)
              simp only [Act.put]
              have h8_15 := Blk.keeps hx14 hk15 hne13
              refine wpAnyM_done (by kernel_rfl) ?_ _
              go_wp2_with fail
              go_meet
              exact ⟨_, _, rfl, rfl, hne13, h8_15, hx15, hg11, hg13, HR.out.below hb15, hb15⟩
            · refine opM 9 rfl (fun K16 hK16 => ?_)
              go_simp
              have ha16 : Below w11.heap.size w11 (w11.alloc (.cells #[.int .i64 0, .int .i64 0, .int .i64 0, .int .i64 0, .int .i64 0] 24)) := (Below.refl _ _).alloc (Nat.le_refl _) _
              have hx16 := Blk.new w11 24 #[.int .i64 0, .int .i64 0, .int .i64 0, .int .i64 0, .int .i64 0]
              obtain ⟨w16, ew16⟩ : ∃ W, (w11.alloc (.cells #[.int .i64 0, .int .i64 0, .int .i64 0, .int .i64 0, .int .i64 0] 24)) = W := ⟨_, rfl⟩
              rw [ew16] at ha16 hx16 ⊢
              clear ew16
              refine hK16 _ _ (fun _ => keep5 hS11 ha16) ?_
              clear hK16
              have hb16 := hb11.trans (ha16.mono hb11.size)
              have hg16 : wr.heap.size ≤ w11.heap.size := hb11.size
              have hq16_1 : g1 ≠ w11.heap.size := fun e => by have h := World.block_lt_of_cell? _ _ hS11.1; dsimp only at h; omega
              have h8_16 := Blk.keep hx11 ha16
              have hS16 := keep5 hS11 ha16
              have hne16 : w1.heap.size ≠ w11.heap.size := fun e => by have := Blk.lt hx11; omega
              refine allM1 (i := 5) (by kernel_rfl) ?_
              refine opM 5 rfl (fun K17 hK17 => ?_)
              go_simp
              go_at_call 40
              have hr17 := HR.out.below hb16
              obtain ⟨cc17, hcc17, -⟩ := hr17.ref.cell
              refine (rside_any _ B o0 A' _ cc17 M 2 hcc17 hr17.ref.els (by have := hr17.few; omega) (hr17.prices 2)).mono ?_
              rintro e w17 ⟨hbb17, A17, c17, rfl, hrow17, hnew17⟩
              rw [← hr17.twin.s2, Hm2.out] at hrow17 ⊢
              obtain ⟨g17, eg17⟩ := row_addr' hrow17 Hm2p.out
              subst eg17
              have hc17 := head5 hrow17 Hy.out
              clear hcc17 hr17
              refine hK17 _ _ (fun _ => keep5 hS16 hbb17) ?_
              clear hK17
              have hb17 := hb16.trans (hbb17.mono hb16.size)
              have h8_17 := Blk.keep h8_16 hbb17
              have h9_17 := Blk.keep hx16 hbb17
              have hq17_8 : g17 ≠ w1.heap.size := fun e => by have := hnew17 g17 rfl; have := Blk.lt h8_16; omega
              have hq17_9 : g17 ≠ w11.heap.size := fun e => by have := hnew17 g17 rfl; have := Blk.lt hx16; omega
              have hS17 := And.intro (keep5 hS16 hbb17) hc17
              refine wpAnyM_mono (S' := fun W => (W.cell? ⟨g1, 0, none⟩ = some (.int .i64 x.id) ∧ W.cell? ⟨g1, 1, none⟩ = some (.int .i64 x.side) ∧ W.cell? ⟨g1, 2, none⟩ = some (.int .i64 x.kind) ∧ W.cell? ⟨g1, 3, none⟩ = some (.int .i64 x.price) ∧ W.cell? ⟨g1, 4, none⟩ = some (.int .i64 x.qty)) ∧ (W.cell? ⟨g17, 0, none⟩ = some (.int .i64 y.id) ∧ W.cell? ⟨g17, 1, none⟩ = some (.int .i64 y.side) ∧ W.cell? ⟨g17, 2, none⟩ = some (.int .i64 y.kind) ∧ W.cell? ⟨g17, 3, none⟩ = some (.int .i64 y.price) ∧ W.cell? ⟨g17, 4, none⟩ = some (.int .i64 y.qty))) (fun _ h => h.1) _ ?_
              refine takeM 6 30 (.pointer (some ⟨g17, 0, none⟩)) rfl rfl (by kernel_rfl) (by kernel_rfl) (by kernel_rfl) (by kernel_rfl) (fun _ _ _ h => h) (by rfl) ?_ (by first | trivial | assumption) ?_
              · intro W hSw; go_simp; intro e0; exact absurd e0 (by have := Hm2p.out; omega)
              simp only [Act.put, List.setIfInBounds_toArray, List.set_cons_zero, List.set_cons_succ]
              refine takeM 7 31 (.agg #[.int .i64 y.id, .int .i64 y.side, .int .i64 y.kind, .int .i64 y.price, .int .i64 y.qty]) rfl rfl (by kernel_rfl) (by kernel_rfl) (by kernel_rfl) (by kernel_rfl) (fun _ _ _ h => h) (by rfl) ?_ (by first | trivial | assumption) ?_
              · intro W hSw; go_simp
              simp only [Act.put, List.setIfInBounds_toArray, List.set_cons_zero, List.set_cons_succ]
              refine allM1 (i := 10) (by kernel_rfl) ?_
              refine opM 10 rfl (fun K18 hK18 => ?_)
              refine (if_pos (by rfl)).mpr ?_
              refine wp_store_row 24 _ _ rfl (w1.heap.size) #[.int .i64 x.id, .int .i64 x.side, .int .i64 x.kind, .int .i64 x.price, .int .i64 x.qty] rfl rfl 24 #[.int .i64 0, .int .i64 0, .int .i64 0, .int .i64 0, .int .i64 0] h8_17 (by show (Tryz.prog.info? 24).map (·.size) = some 5; kernel_rfl) rfl (by simp [Value.oneCell']) ?_
              have hx18 := Blk.setRow _ _ _ #[.int .i64 x.id, .int .i64 x.side, .int .i64 x.kind, .int .i64 x.price, .int .i64 x.qty] _ h8_17
              have hk18 := Keeps.setRow w17 (w1.heap.size) #[.int .i64 x.id, .int .i64 x.side, .int .i64 x.kind, .int .i64 x.price, .int .i64 x.qty]
              obtain ⟨w18, ew18⟩ : ∃ W, (w17.setRow (w1.heap.size) #[.int .i64 x.id, .int .i64 x.side, .int .i64 x.kind, .int .i64 x.price, .int .i64 x.qty]) = W := ⟨_, rfl⟩
              rw [ew18] at hx18 hk18 ⊢
              clear ew18
              refine hK18 _ _ (fun _ => And.intro (keep5k hS17.1 hk18 hq11_1) (keep5k hS17.2 hk18 hq17_8)) ?_
              clear hK18
              have hb18 := hb17.trans (hk18.below (fun i e => e ▸ hg11) hb17.size)
              simp only [Act.put]
              have h9_18 := Blk.keeps h9_17 hk18 (Ne.symm hne16)
              refine allM1 (i := 11) (by kernel_rfl) ?_
              refine opM 11 rfl (fun K19 hK19 => ?_)
              refine (if_pos (by rfl)).mpr ?_
              refine wp_store_row 24 _ _ rfl (w11.heap.size) #[.int .i64 y.id, .int .i64 y.side, .int .i64 y.kind, .int .i64 y.price, .int .i64 y.qty] rfl rfl 24 #[.int .i64 0, .int .i64 0, .int .i64 0, .int .i64 0, .int .i64 0] h9_18 (by show (Tryz.prog.info? 24).map (·.size) = some 5; kernel_rfl) rfl (by simp [Value.oneCell']) ?_
              have hx19 := Blk.setRow _ _ _ #[.int .i64 y.id, .int .i64 y.side, .int .i64 y.kind, .int .i64 y.price, .int .i64 y.qty] _ h9_18
              have hk19 := Keeps.setRow w18 (w11.heap.size) #[.int .i64 y.id, .int .i64 y.side, .int .i64 y.kind, .int .i64 y.price, .int .i64 y.qty]
              obtain ⟨w19, ew19⟩ : ∃ W, (w18.setRow (w11.heap.size) #[.int .i64 y.id, .int .i64 y.side, .int .i64 y.kind, .int .i64 y.price, .int .i64 y.qty]) = W := ⟨_, rfl⟩
              rw [ew19] at hx19 hk19 ⊢
              clear ew19
              refine hK19 _ _ (fun e => absurd e (by decide)) ?_
              clear hK19
              have hb19 := hb18.trans (hk19.below (fun i e => e ▸ hg16) hb18.size)
              simp only [Act.put]
              have h8_19 := Blk.keeps hx18 hk19 hne16
              refine wpAnyM_done (by kernel_rfl) ?_ _
              go_wp2_with fail
              go_meet
              exact ⟨_, _, rfl, rfl, hne16, h8_19, hx19, hg11, hg16, HR.out.below hb19, hb19⟩
          · refine opM 9 rfl (fun K20 hK20 => ?_)
            go_simp
            have ha20 : Below w1.heap.size w1 (w1.alloc (.cells #[.int .i64 0, .int .i64 0, .int .i64 0, .int .i64 0, .int .i64 0] 24)) := (Below.refl _ _).alloc (Nat.le_refl _) _
            have hx20 := Blk.new w1 24 #[.int .i64 0, .int .i64 0, .int .i64 0, .int .i64 0, .int .i64 0]
            obtain ⟨w20, ew20⟩ : ∃ W, (w1.alloc (.cells #[.int .i64 0, .int .i64 0, .int .i64 0, .int .i64 0, .int .i64 0] 24)) = W := ⟨_, rfl⟩
            rw [ew20] at ha20 hx20 ⊢
            clear ew20
            refine hK20 _ _ (fun _ => keep5 hS1 ha20) ?_
            clear hK20
            have hb20 := hb1.trans (ha20.mono hb1.size)
            have hg20 : wr.heap.size ≤ w1.heap.size := hb1.size
            have hS20 := keep5 hS1 ha20
            have hq20_1 : g1 ≠ w1.heap.size := fun e => by have h := World.block_lt_of_cell? _ _ hS1.1; dsimp only at h; omega
            refine allM2 (i := 5) (j := 8) (by kernel_rfl) ?_ ?_
            · refine opM 5 rfl (fun K21 hK21 => ?_)
              go_simp
              go_at_call 40
              have hr21 := HR.out.below hb20
              obtain ⟨cc21, hcc21, -⟩ := hr21.ref.cell
              refine (rside_any _ B o0 A' _ cc21 M 2 hcc21 hr21.ref.els (by have := hr21.few; omega) (hr21.prices 2)).mono ?_
              rintro e w21 ⟨hbb21, A21, c21, rfl, hrow21, hnew21⟩
              rw [← hr21.twin.s2, Hm2.out] at hrow21 ⊢
              obtain ⟨g21, eg21⟩ := row_addr' hrow21 Hm2p.out
              subst eg21
              have hc21 := head5 hrow21 Hy.out
              clear hcc21 hr21
              refine hK21 _ _ (fun _ => keep5 hS20 hbb21) ?_
              clear hK21
              have hb21 := hb20.trans (hbb21.mono hb20.size)
              have h9_21 := Blk.keep hx20 hbb21
              have hq21_9 : g21 ≠ w1.heap.size := fun e => by have := hnew21 g21 rfl; have := Blk.lt hx20; omega
              have hS21 := And.intro (keep5 hS20 hbb21) hc21
              refine wpAnyM_mono (S' := fun W => (W.cell? ⟨g1, 0, none⟩ = some (.int .i64 x.id) ∧ W.cell? ⟨g1, 1, none⟩ = some (.int .i64 x.side) ∧ W.cell? ⟨g1, 2, none⟩ = some (.int .i64 x.kind) ∧ W.cell? ⟨g1, 3, none⟩ = some (.int .i64 x.price) ∧ W.cell? ⟨g1, 4, none⟩ = some (.int .i64 x.qty)) ∧ (W.cell? ⟨g21, 0, none⟩ = some (.int .i64 y.id) ∧ W.cell? ⟨g21, 1, none⟩ = some (.int .i64 y.side) ∧ W.cell? ⟨g21, 2, none⟩ = some (.int .i64 y.kind) ∧ W.cell? ⟨g21, 3, none⟩ = some (.int .i64 y.price) ∧ W.cell? ⟨g21, 4, none⟩ = some (.int .i64 y.qty))) (fun _ h => h.1) _ ?_
              refine takeM 6 30 (.pointer (some ⟨g21, 0, none⟩)) rfl rfl (by kernel_rfl) (by kernel_rfl) (by kernel_rfl) (by kernel_rfl) (fun _ _ _ h => h) (by rfl) ?_ (by first | trivial | assumption) ?_
              · intro W hSw; go_simp; intro e0; exact absurd e0 (by have := Hm2p.out; omega)
              simp only [Act.put, List.setIfInBounds_toArray, List.set_cons_zero, List.set_cons_succ]
              refine takeM 7 31 (.agg #[.int .i64 y.id, .int .i64 y.side, .int .i64 y.kind, .int .i64 y.price, .int .i64 y.qty]) rfl rfl (by kernel_rfl) (by kernel_rfl) (by kernel_rfl) (by kernel_rfl) (fun _ _ _ h => h) (by rfl) ?_ (by first | trivial | assumption) ?_
              · intro W hSw; go_simp
              simp only [Act.put, List.setIfInBounds_toArray, List.set_cons_zero, List.set_cons_succ]
              refine allM1 (i := 8) (by kernel_rfl) ?_
              refine opM 8 rfl (fun K22 hK22 => ?_)
              go_simp
              have ha22 : Below w21.heap.size w21 (w21.alloc (.cells #[.int .i64 0, .int .i64 0, .int .i64 0, .int .i64 0, .int .i64 0] 24)) := (Below.refl _ _).alloc (Nat.le_refl _) _
              have hx22 := Blk.new w21 24 #[.int .i64 0, .int .i64 0, .int .i64 0, .int .i64 0, .int .i64 0]
              obtain ⟨w22, ew22⟩ : ∃ W, (w21.alloc (.cells #[.int .i64 0, .int .i64 0, .int .i64 0, .int .i64 0, .int .i64 0] 24)) = W := ⟨_, rfl⟩
              rw [ew22] at ha22 hx22 ⊢
              clear ew22
              refine hK22 _ _ (fun _ => And.intro (keep5 hS21.1 ha22) (keep5 hS21.2 ha22)) ?_
              clear hK22
              have hb22 := hb21.trans (ha22.mono hb21.size)
              have hg22 : wr.heap.size ≤ w21.heap.size := hb21.size
              have hq22_1 : g1 ≠ w21.heap.size := fun e => by have h := World.block_lt_of_cell? _ _ hS21.1.1; dsimp only at h; omega
              have hq22_2 : g21 ≠ w21.heap.size := fun e => by have h := World.block_lt_of_cell? _ _ hS21.2.1; dsimp only at h; omega
              have h9_22 := Blk.keep h9_21 ha22
              have hS22 := And.intro (keep5 hS21.1 ha22) (keep5 hS21.2 ha22)
              have hne22 : w1.heap.size ≠ w21.heap.size := fun e => by have := Blk.lt h9_21; omega
              refine allM1 (i := 10) (by kernel_rfl) ?_
              refine opM 10 rfl (fun K23 hK23 => ?_)
              refine (if_pos (by rfl)).mpr ?_
              refine wp_store_row 24 _ _ rfl (w21.heap.size) #[.int .i64 x.id, .int .i64 x.side, .int .i64 x.kind, .int .i64 x.price, .int .i64 x.qty] rfl rfl 24 #[.int .i64 0, .int .i64 0, .int .i64 0, .int .i64 0, .int .i64 0] hx22 (by show (Tryz.prog.info? 24).map (·.size) = some 5; kernel_rfl) rfl (by simp [Value.oneCell']) ?_
              have hx23 := Blk.setRow _ _ _ #[.int .i64 x.id, .int .i64 x.side, .int .i64 x.kind, .int .i64 x.price, .int .i64 x.qty] _ hx22
              have hk23 := Keeps.setRow w22 (w21.heap.size) #[.int .i64 x.id, .int .i64 x.side, .int .i64 x.kind, .int .i64 x.price, .int .i64 x.qty]
              obtain ⟨w23, ew23⟩ : ∃ W, (w22.setRow (w21.heap.size) #[.int .i64 x.id, .int .i64 x.side, .int .i64 x.kind, .int .i64 x.price, .int .i64 x.qty]) = W := ⟨_, rfl⟩
              rw [ew23] at hx23 hk23 ⊢
              clear ew23
              refine hK23 _ _ (fun _ => And.intro (keep5k hS22.1 hk23 hq22_1) (keep5k hS22.2 hk23 hq22_2)) ?_
              clear hK23
              have hb23 := hb22.trans (hk23.below (fun i e => e ▸ hg22) hb22.size)
              simp only [Act.put]
              have h9_23 := Blk.keeps h9_22 hk23 hne22
              refine allM1 (i := 11) (by kernel_rfl) ?_
              refine opM 11 rfl (fun K24 hK24 => ?_)
              refine (if_pos (by rfl)).mpr ?_
              refine wp_store_row 24 _ _ rfl (w1.heap.size) #[.int .i64 y.id, .int .i64 y.side, .int .i64 y.kind, .int .i64 y.price, .int .i64 y.qty] rfl rfl 24 #[.int .i64 0, .int .i64 0, .int .i64 0, .int .i64 0, .int .i64 0] h9_23 (by show (Tryz.prog.info? 24).map (·.size) = some 5; kernel_rfl) rfl (by simp [Value.oneCell']) ?_
              have hx24 := Blk.setRow _ _ _ #[.int .i64 y.id, .int .i64 y.side, .int .i64 y.kind, .int .i64 y.price, .int .i64 y.qty] _ h9_23
              have hk24 := Keeps.setRow w23 (w1.heap.size) #[.int .i64 y.id, .int .i64 y.side, .int .i64 y.kind, .int .i64 y.price, .int .i64 y.qty]
              obtain ⟨w24, ew24⟩ : ∃ W, (w23.setRow (w1.heap.size) #[.int .i64 y.id, .int .i64 y.side, .int .i64 y.kind, .int .i64 y.price, .int .i64 y.qty]) = W := ⟨_, rfl⟩
              rw [ew24] at hx24 hk24 ⊢
              clear ew24
              refine hK24 _ _ (fun e => absurd e (by decide)) ?_
              clear hK24
              have hb24 := hb23.trans (hk24.below (fun i e => e ▸ hg20) hb23.size)
              simp only [Act.put]
              have h8_24 := Blk.keeps hx23 hk24 (Ne.symm hne22)
              refine wpAnyM_done (by kernel_rfl) ?_ _
              go_wp2_with fail
              go_meet
              exact ⟨_, _, rfl, rfl, (Ne.symm hne22), h8_24, hx24, hg22, hg20, HR.out.below hb24, hb24⟩
            · refine opM 8 rfl (fun K25 hK25 => ?_)
              go_simp
              have ha25 : Below w20.heap.size w20 (w20.alloc (.cells #[.int .i64 0, .int .i64 0, .int .i64 0, .int .i64 0, .int .i64 0] 24)) := (Below.refl _ _).alloc (Nat.le_refl _) _
              have hx25 := Blk.new w20 24 #[.int .i64 0, .int .i64 0, .int .i64 0, .int .i64 0, .int .i64 0]
              obtain ⟨w25, ew25⟩ : ∃ W, (w20.alloc (.cells #[.int .i64 0, .int .i64 0, .int .i64 0, .int .i64 0, .int .i64 0] 24)) = W := ⟨_, rfl⟩
              rw [ew25] at ha25 hx25 ⊢
              clear ew25
              refine hK25 _ _ (fun _ => keep5 hS20 ha25) ?_
              clear hK25
              have hb25 := hb20.trans (ha25.mono hb20.size)
              have hg25 : wr.heap.size ≤ w20.heap.size := hb20.size
              have hq25_1 : g1 ≠ w20.heap.size := fun e => by have h := World.block_lt_of_cell? _ _ hS20.1; dsimp only at h; omega
              have h9_25 := Blk.keep hx20 ha25
              have hS25 := keep5 hS20 ha25
              have hne25 : w1.heap.size ≠ w20.heap.size := fun e => by have := Blk.lt hx20; omega
              refine allM1 (i := 5) (by kernel_rfl) ?_
              refine opM 5 rfl (fun K26 hK26 => ?_)
              go_simp
              go_at_call 40
              have hr26 := HR.out.below hb25
              obtain ⟨cc26, hcc26, -⟩ := hr26.ref.cell
              refine (rside_any _ B o0 A' _ cc26 M 2 hcc26 hr26.ref.els (by have := hr26.few; omega) (hr26.prices 2)).mono ?_
              rintro e w26 ⟨hbb26, A26, c26, rfl, hrow26, hnew26⟩
              rw [← hr26.twin.s2, Hm2.out] at hrow26 ⊢
              obtain ⟨g26, eg26⟩ := row_addr' hrow26 Hm2p.out
              subst eg26
              have hc26 := head5 hrow26 Hy.out
              clear hcc26 hr26
              refine hK26 _ _ (fun _ => keep5 hS25 hbb26) ?_
              clear hK26
              have hb26 := hb25.trans (hbb26.mono hb25.size)
              have h8_26 := Blk.keep hx25 hbb26
              have h9_26 := Blk.keep h9_25 hbb26
              have hq26_8 : g26 ≠ w20.heap.size := fun e => by have := hnew26 g26 rfl; have := Blk.lt hx25; omega
              have hq26_9 : g26 ≠ w1.heap.size := fun e => by have := hnew26 g26 rfl; have := Blk.lt h9_25; omega
              have hS26 := And.intro (keep5 hS25 hbb26) hc26
              refine wpAnyM_mono (S' := fun W => (W.cell? ⟨g1, 0, none⟩ = some (.int .i64 x.id) ∧ W.cell? ⟨g1, 1, none⟩ = some (.int .i64 x.side) ∧ W.cell? ⟨g1, 2, none⟩ = some (.int .i64 x.kind) ∧ W.cell? ⟨g1, 3, none⟩ = some (.int .i64 x.price) ∧ W.cell? ⟨g1, 4, none⟩ = some (.int .i64 x.qty)) ∧ (W.cell? ⟨g26, 0, none⟩ = some (.int .i64 y.id) ∧ W.cell? ⟨g26, 1, none⟩ = some (.int .i64 y.side) ∧ W.cell? ⟨g26, 2, none⟩ = some (.int .i64 y.kind) ∧ W.cell? ⟨g26, 3, none⟩ = some (.int .i64 y.price) ∧ W.cell? ⟨g26, 4, none⟩ = some (.int .i64 y.qty))) (fun _ h => h.1) _ ?_
              refine takeM 6 30 (.pointer (some ⟨g26, 0, none⟩)) rfl rfl (by kernel_rfl) (by kernel_rfl) (by kernel_rfl) (by kernel_rfl) (fun _ _ _ h => h) (by rfl) ?_ (by first | trivial | assumption) ?_
              · intro W hSw; go_simp; intro e0; exact absurd e0 (by have := Hm2p.out; omega)
              simp only [Act.put, List.setIfInBounds_toArray, List.set_cons_zero, List.set_cons_succ]
              refine takeM 7 31 (.agg #[.int .i64 y.id, .int .i64 y.side, .int .i64 y.kind, .int .i64 y.price, .int .i64 y.qty]) rfl rfl (by kernel_rfl) (by kernel_rfl) (by kernel_rfl) (by kernel_rfl) (fun _ _ _ h => h) (by rfl) ?_ (by first | trivial | assumption) ?_
              · intro W hSw; go_simp
              simp only [Act.put, List.setIfInBounds_toArray, List.set_cons_zero, List.set_cons_succ]
              refine allM1 (i := 10) (by kernel_rfl) ?_
              refine opM 10 rfl (fun K27 hK27 => ?_)
              refine (if_pos (by rfl)).mpr ?_
              refine wp_store_row 24 _ _ rfl (w20.heap.size) #[.int .i64 x.id, .int .i64 x.side, .int .i64 x.kind, .int .i64 x.price, .int .i64 x.qty] rfl rfl 24 #[.int .i64 0, .int .i64 0, .int .i64 0, .int .i64 0, .int .i64 0] h8_26 (by show (Tryz.prog.info? 24).map (·.size) = some 5; kernel_rfl) rfl (by simp [Value.oneCell']) ?_
              have hx27 := Blk.setRow _ _ _ #[.int .i64 x.id, .int .i64 x.side, .int .i64 x.kind, .int .i64 x.price, .int .i64 x.qty] _ h8_26
              have hk27 := Keeps.setRow w26 (w20.heap.size) #[.int .i64 x.id, .int .i64 x.side, .int .i64 x.kind, .int .i64 x.price, .int .i64 x.qty]
              obtain ⟨w27, ew27⟩ : ∃ W, (w26.setRow (w20.heap.size) #[.int .i64 x.id, .int .i64 x.side, .int .i64 x.kind, .int .i64 x.price, .int .i64 x.qty]) = W := ⟨_, rfl⟩
              rw [ew27] at hx27 hk27 ⊢
              clear ew27
              refine hK27 _ _ (fun _ => And.intro (keep5k hS26.1 hk27 hq25_1) (keep5k hS26.2 hk27 hq26_8)) ?_
              clear hK27
              have hb27 := hb26.trans (hk27.below (fun i e => e ▸ hg25) hb26.size)
              simp only [Act.put]
              have h9_27 := Blk.keeps h9_26 hk27 hne25
              refine allM1 (i := 11) (by kernel_rfl) ?_
              refine opM 11 rfl (fun K28 hK28 => ?_)
              refine (if_pos (by rfl)).mpr ?_
              refine wp_store_row 24 _ _ rfl (w1.heap.size) #[.int .i64 y.id, .int .i64 y.side, .int .i64 y.kind, .int .i64 y.price, .int .i64 y.qty] rfl rfl 24 #[.int .i64 0, .int .i64 0, .int .i64 0, .int .i64 0, .int .i64 0] h9_27 (by show (Tryz.prog.info? 24).map (·.size) = some 5; kernel_rfl) rfl (by simp [Value.oneCell']) ?_
              have hx28 := Blk.setRow _ _ _ #[.int .i64 y.id, .int .i64 y.side, .int .i64 y.kind, .int .i64 y.price, .int .i64 y.qty] _ h9_27
              have hk28 := Keeps.setRow w27 (w1.heap.size) #[.int .i64 y.id, .int .i64 y.side, .int .i64 y.kind, .int .i64 y.price, .int .i64 y.qty]
              obtain ⟨w28, ew28⟩ : ∃ W, (w27.setRow (w1.heap.size) #[.int .i64 y.id, .int .i64 y.side, .int .i64 y.kind, .int .i64 y.price, .int .i64 y.qty]) = W := ⟨_, rfl⟩
              rw [ew28] at hx28 hk28 ⊢
              clear ew28
              refine hK28 _ _ (fun e => absurd e (by decide)) ?_
              clear hK28
              have hb28 := hb27.trans (hk28.below (fun i e => e ▸ hg20) hb27.size)
              simp only [Act.put]
              have h8_28 := Blk.keeps hx27 hk28 (Ne.symm hne25)
              refine wpAnyM_done (by kernel_rfl) ?_ _
              go_wp2_with fail
              go_meet
              exact ⟨_, _, rfl, rfl, (Ne.symm hne25), h8_28, hx28, hg25, hg20, HR.out.below hb28, hb28⟩
        · refine opM 8 rfl (fun K29 hK29 => ?_)
          go_simp
          have ha29 : Below w0.heap.size w0 (w0.alloc (.cells #[.int .i64 0, .int .i64 0, .int .i64 0, .int .i64 0, .int .i64 0] 24)) := (Below.refl _ _).alloc (Nat.le_refl _) _
          have hx29 := Blk.new w0 24 #[.int .i64 0, .int .i64 0, .int .i64 0, .int .i64 0, .int .i64 0]
          obtain ⟨w29, ew29⟩ : ∃ W, (w0.alloc (.cells #[.int .i64 0, .int .i64 0, .int .i64 0, .int .i64 0, .int .i64 0] 24)) = W := ⟨_, rfl⟩
          rw [ew29] at ha29 hx29 ⊢
          clear ew29
          refine hK29 _ _ (fun _ => trivial) ?_
          clear hK29
          have hb29 := hb0.trans (ha29.mono hb0.size)
          have hg29 : wr.heap.size ≤ w0.heap.size := hb0.size
          refine allM2 (i := 1) (j := 9) (by kernel_rfl) ?_ ?_
          · refine opM 1 rfl (fun K30 hK30 => ?_)
            go_simp
            go_at_call 40
            have hr30 := HR.out.below hb29
            obtain ⟨cc30, hcc30, -⟩ := hr30.ref.cell
            refine (rside_any _ B o0 A' _ cc30 M 1 hcc30 hr30.ref.els (by have := hr30.few; omega) (hr30.prices 1)).mono ?_
            rintro e w30 ⟨hbb30, A30, c30, rfl, hrow30, hnew30⟩
            rw [← hr30.twin.s1, Hm1.out] at hrow30 ⊢
            obtain ⟨g30, eg30⟩ := row_addr' hrow30 Hm1p.out
            subst eg30
            have hc30 := head5 hrow30 Hx.out
            clear hcc30 hr30
            refine hK30 _ _ (fun _ => trivial) ?_
            clear hK30
            have hb30 := hb29.trans (hbb30.mono hb29.size)
            have h8_30 := Blk.keep hx29 hbb30
            have hq30_8 : g30 ≠ w0.heap.size := fun e => by have := hnew30 g30 rfl; have := Blk.lt hx29; omega
            refine wpAnyM_mono (S' := fun W => W.cell? ⟨g30, 0, none⟩ = some (.int .i64 x.id) ∧ W.cell? ⟨g30, 1, none⟩ = some (.int .i64 x.side) ∧ W.cell? ⟨g30, 2, none⟩ = some (.int .i64 x.kind) ∧ W.cell? ⟨g30, 3, none⟩ = some (.int .i64 x.price) ∧ W.cell? ⟨g30, 4, none⟩ = some (.int .i64 x.qty)) (fun _ _ => trivial) _ ?_
            have hS30 := hc30
            refine takeM 2 26 (.pointer (some ⟨g30, 0, none⟩)) rfl rfl (by kernel_rfl) (by kernel_rfl) (by kernel_rfl) (by kernel_rfl) (fun _ _ _ h => h) (by rfl) ?_ (by first | trivial | assumption) ?_
            · intro W hSw; go_simp; intro e0; exact absurd e0 (by have := Hm1p.out; omega)
            simp only [Act.put, List.setIfInBounds_toArray, List.set_cons_zero, List.set_cons_succ]
            refine takeM 3 27 (.agg #[.int .i64 x.id, .int .i64 x.side, .int .i64 x.kind, .int .i64 x.price, .int .i64 x.qty]) rfl rfl (by kernel_rfl) (by kernel_rfl) (by kernel_rfl) (by kernel_rfl) (fun _ _ _ h => h) (by rfl) ?_ (by first | trivial | assumption) ?_
            · intro W hSw; go_simp
            simp only [Act.put, List.setIfInBounds_toArray, List.set_cons_zero, List.set_cons_succ]
            refine allM2 (i := 5) (j := 9) (by kernel_rfl) ?_ ?_
            · refine opM 5 rfl (fun K31 hK31 => ?_)
              go_simp
              go_at_call 40
              have hr31 := HR.out.below hb30
              obtain ⟨cc31, hcc31, -⟩ := hr31.ref.cell
              refine (rside_any _ B o0 A' _ cc31 M 2 hcc31 hr31.ref.els (by have := hr31.few; omega) (hr31.prices 2)).mono ?_
              rintro e w31 ⟨hbb31, A31, c31, rfl, hrow31, hnew31⟩
              rw [← hr31.twin.s2, Hm2.out] at hrow31 ⊢
              obtain ⟨g31, eg31⟩ := row_addr' hrow31 Hm2p.out
              subst eg31
              have hc31 := head5 hrow31 Hy.out
              clear hcc31 hr31
              refine hK31 _ _ (fun _ => keep5 hS30 hbb31) ?_
              clear hK31
              have hb31 := hb30.trans (hbb31.mono hb30.size)
              have h8_31 := Blk.keep h8_30 hbb31
              have hq31_8 : g31 ≠ w0.heap.size := fun e => by have := hnew31 g31 rfl; have := Blk.lt h8_30; omega
              have hS31 := And.intro (keep5 hS30 hbb31) hc31
              refine wpAnyM_mono (S' := fun W => (W.cell? ⟨g30, 0, none⟩ = some (.int .i64 x.id) ∧ W.cell? ⟨g30, 1, none⟩ = some (.int .i64 x.side) ∧ W.cell? ⟨g30, 2, none⟩ = some (.int .i64 x.kind) ∧ W.cell? ⟨g30, 3, none⟩ = some (.int .i64 x.price) ∧ W.cell? ⟨g30, 4, none⟩ = some (.int .i64 x.qty)) ∧ (W.cell? ⟨g31, 0, none⟩ = some (.int .i64 y.id) ∧ W.cell? ⟨g31, 1, none⟩ = some (.int .i64 y.side) ∧ W.cell? ⟨g31, 2, none⟩ = some (.int .i64 y.kind) ∧ W.cell? ⟨g31, 3, none⟩ = some (.int .i64 y.price) ∧ W.cell? ⟨g31, 4, none⟩ = some (.int .i64 y.qty))) (fun _ h => h.1) _ ?_
              refine takeM 6 30 (.pointer (some ⟨g31, 0, none⟩)) rfl rfl (by kernel_rfl) (by kernel_rfl) (by kernel_rfl) (by kernel_rfl) (fun _ _ _ h => h) (by rfl) ?_ (by first | trivial | assumption) ?_
              · intro W hSw; go_simp; intro e0; exact absurd e0 (by have := Hm2p.out; omega)
              simp only [Act.put, List.setIfInBounds_toArray, List.set_cons_zero, List.set_cons_succ]
              refine takeM 7 31 (.agg #[.int .i64 y.id, .int .i64 y.side, .int .i64 y.kind, .int .i64 y.price, .int .i64 y.qty]) rfl rfl (by kernel_rfl) (by kernel_rfl) (by kernel_rfl) (by kernel_rfl) (fun _ _ _ h => h) (by rfl) ?_ (by first | trivial | assumption) ?_
              · intro W hSw; go_simp
              simp only [Act.put, List.setIfInBounds_toArray, List.set_cons_zero, List.set_cons_succ]
              refine allM1 (i := 9) (by kernel_rfl) ?_
              refine opM 9 rfl (fun K32 hK32 => ?_)
              go_simp
              have ha32 : Below w31.heap.size w31 (w31.alloc (.cells #[.int .i64 0, .int .i64 0, .int .i64 0, .int .i64 0, .int .i64 0] 24)) := (Below.refl _ _).alloc (Nat.le_refl _) _
              have hx32 := Blk.new w31 24 #[.int .i64 0, .int .i64 0, .int .i64 0, .int .i64 0, .int .i64 0]
              obtain ⟨w32, ew32⟩ : ∃ W, (w31.alloc (.cells #[.int .i64 0, .int .i64 0, .int .i64 0, .int .i64 0, .int .i64 0] 24)) = W := ⟨_, rfl⟩
              rw [ew32] at ha32 hx32 ⊢
              clear ew32
              refine hK32 _ _ (fun _ => And.intro (keep5 hS31.1 ha32) (keep5 hS31.2 ha32)) ?_
              clear hK32
              have hb32 := hb31.trans (ha32.mono hb31.size)
              have hg32 : wr.heap.size ≤ w31.heap.size := hb31.size
              have hq32_1 : g30 ≠ w31.heap.size := fun e => by have h := World.block_lt_of_cell? _ _ hS31.1.1; dsimp only at h; omega
              have hq32_2 : g31 ≠ w31.heap.size := fun e => by have h := World.block_lt_of_cell? _ _ hS31.2.1; dsimp only at h; omega
              have h8_32 := Blk.keep h8_31 ha32
              have hS32 := And.intro (keep5 hS31.1 ha32) (keep5 hS31.2 ha32)
              have hne32 : w0.heap.size ≠ w31.heap.size := fun e => by have := Blk.lt h8_31; omega
              refine allM1 (i := 10) (by kernel_rfl) ?_
              refine opM 10 rfl (fun K33 hK33 => ?_)
              refine (if_pos (by rfl)).mpr ?_
              refine wp_store_row 24 _ _ rfl (w0.heap.size) #[.int .i64 x.id, .int .i64 x.side, .int .i64 x.kind, .int .i64 x.price, .int .i64 x.qty] rfl rfl 24 #[.int .i64 0, .int .i64 0, .int .i64 0, .int .i64 0, .int .i64 0] h8_32 (by show (Tryz.prog.info? 24).map (·.size) = some 5; kernel_rfl) rfl (by simp [Value.oneCell']) ?_
              have hx33 := Blk.setRow _ _ _ #[.int .i64 x.id, .int .i64 x.side, .int .i64 x.kind, .int .i64 x.price, .int .i64 x.qty] _ h8_32
              have hk33 := Keeps.setRow w32 (w0.heap.size) #[.int .i64 x.id, .int .i64 x.side, .int .i64 x.kind, .int .i64 x.price, .int .i64 x.qty]
              obtain ⟨w33, ew33⟩ : ∃ W, (w32.setRow (w0.heap.size) #[.int .i64 x.id, .int .i64 x.side, .int .i64 x.kind, .int .i64 x.price, .int .i64 x.qty]) = W := ⟨_, rfl⟩
              rw [ew33] at hx33 hk33 ⊢
              clear ew33
              refine hK33 _ _ (fun _ => And.intro (keep5k hS32.1 hk33 hq30_8) (keep5k hS32.2 hk33 hq31_8)) ?_
              clear hK33
              have hb33 := hb32.trans (hk33.below (fun i e => e ▸ hg29) hb32.size)
              simp only [Act.put]
              have h9_33 := Blk.keeps hx32 hk33 (Ne.symm hne32)
              refine allM1 (i := 11) (by kernel_rfl) ?_
              refine opM 11 rfl (fun K34 hK34 => ?_)
              refine (if_pos (by rfl)).mpr ?_
              refine wp_store_row 24 _ _ rfl (w31.heap.size) #[.int .i64 y.id, .int .i64 y.side, .int .i64 y.kind, .int .i64 y.price, .int .i64 y.qty] rfl rfl 24 #[.int .i64 0, .int .i64 0, .int .i64 0, .int .i64 0, .int .i64 0] h9_33 (by show (Tryz.prog.info? 24).map (·.size) = some 5; kernel_rfl) rfl (by simp [Value.oneCell']) ?_
              have hx34 := Blk.setRow _ _ _ #[.int .i64 y.id, .int .i64 y.side, .int .i64 y.kind, .int .i64 y.price, .int .i64 y.qty] _ h9_33
              have hk34 := Keeps.setRow w33 (w31.heap.size) #[.int .i64 y.id, .int .i64 y.side, .int .i64 y.kind, .int .i64 y.price, .int .i64 y.qty]
              obtain ⟨w34, ew34⟩ : ∃ W, (w33.setRow (w31.heap.size) #[.int .i64 y.id, .int .i64 y.side, .int .i64 y.kind, .int .i64 y.price, .int .i64 y.qty]) = W := ⟨_, rfl⟩
              rw [ew34] at hx34 hk34 ⊢
              clear ew34
              refine hK34 _ _ (fun e => absurd e (by decide)) ?_
              clear hK34
              have hb34 := hb33.trans (hk34.below (fun i e => e ▸ hg32) hb33.size)
              simp only [Act.put]
              have h8_34 := Blk.keeps hx33 hk34 hne32
              refine wpAnyM_done (by kernel_rfl) ?_ _
              go_wp2_with fail
              go_meet
              exact ⟨_, _, rfl, rfl, hne32, h8_34, hx34, hg29, hg32, HR.out.below hb34, hb34⟩
            · refine opM 9 rfl (fun K35 hK35 => ?_)
              go_simp
              have ha35 : Below w30.heap.size w30 (w30.alloc (.cells #[.int .i64 0, .int .i64 0, .int .i64 0, .int .i64 0, .int .i64 0] 24)) := (Below.refl _ _).alloc (Nat.le_refl _) _
              have hx35 := Blk.new w30 24 #[.int .i64 0, .int .i64 0, .int .i64 0, .int .i64 0, .int .i64 0]
              obtain ⟨w35, ew35⟩ : ∃ W, (w30.alloc (.cells #[.int .i64 0, .int .i64 0, .int .i64 0, .int .i64 0, .int .i64 0] 24)) = W := ⟨_, rfl⟩
              rw [ew35] at ha35 hx35 ⊢
              clear ew35
              refine hK35 _ _ (fun _ => keep5 hS30 ha35) ?_
              clear hK35
              have hb35 := hb30.trans (ha35.mono hb30.size)
              have hg35 : wr.heap.size ≤ w30.heap.size := hb30.size
              have hq35_1 : g30 ≠ w30.heap.size := fun e => by have h := World.block_lt_of_cell? _ _ hS30.1; dsimp only at h; omega
              have h8_35 := Blk.keep h8_30 ha35
              have hS35 := keep5 hS30 ha35
              have hne35 : w0.heap.size ≠ w30.heap.size := fun e => by have := Blk.lt h8_30; omega
              refine allM1 (i := 5) (by kernel_rfl) ?_
              refine opM 5 rfl (fun K36 hK36 => ?_)
              go_simp
              go_at_call 40
              have hr36 := HR.out.below hb35
              obtain ⟨cc36, hcc36, -⟩ := hr36.ref.cell
              refine (rside_any _ B o0 A' _ cc36 M 2 hcc36 hr36.ref.els (by have := hr36.few; omega) (hr36.prices 2)).mono ?_
              rintro e w36 ⟨hbb36, A36, c36, rfl, hrow36, hnew36⟩
              rw [← hr36.twin.s2, Hm2.out] at hrow36 ⊢
              obtain ⟨g36, eg36⟩ := row_addr' hrow36 Hm2p.out
              subst eg36
              have hc36 := head5 hrow36 Hy.out
              clear hcc36 hr36
              refine hK36 _ _ (fun _ => keep5 hS35 hbb36) ?_
              clear hK36
              have hb36 := hb35.trans (hbb36.mono hb35.size)
              have h8_36 := Blk.keep h8_35 hbb36
              have h9_36 := Blk.keep hx35 hbb36
              have hq36_8 : g36 ≠ w0.heap.size := fun e => by have := hnew36 g36 rfl; have := Blk.lt h8_35; omega
              have hq36_9 : g36 ≠ w30.heap.size := fun e => by have := hnew36 g36 rfl; have := Blk.lt hx35; omega
              have hS36 := And.intro (keep5 hS35 hbb36) hc36
              refine wpAnyM_mono (S' := fun W => (W.cell? ⟨g30, 0, none⟩ = some (.int .i64 x.id) ∧ W.cell? ⟨g30, 1, none⟩ = some (.int .i64 x.side) ∧ W.cell? ⟨g30, 2, none⟩ = some (.int .i64 x.kind) ∧ W.cell? ⟨g30, 3, none⟩ = some (.int .i64 x.price) ∧ W.cell? ⟨g30, 4, none⟩ = some (.int .i64 x.qty)) ∧ (W.cell? ⟨g36, 0, none⟩ = some (.int .i64 y.id) ∧ W.cell? ⟨g36, 1, none⟩ = some (.int .i64 y.side) ∧ W.cell? ⟨g36, 2, none⟩ = some (.int .i64 y.kind) ∧ W.cell? ⟨g36, 3, none⟩ = some (.int .i64 y.price) ∧ W.cell? ⟨g36, 4, none⟩ = some (.int .i64 y.qty))) (fun _ h => h.1) _ ?_
              refine takeM 6 30 (.pointer (some ⟨g36, 0, none⟩)) rfl rfl (by kernel_rfl) (by kernel_rfl) (by kernel_rfl) (by kernel_rfl) (fun _ _ _ h => h) (by rfl) ?_ (by first | trivial | assumption) ?_
              · intro W hSw; go_simp; intro e0; exact absurd e0 (by have := Hm2p.out; omega)
              simp only [Act.put, List.setIfInBounds_toArray, List.set_cons_zero, List.set_cons_succ]
              refine takeM 7 31 (.agg #[.int .i64 y.id, .int .i64 y.side, .int .i64 y.kind, .int .i64 y.price, .int .i64 y.qty]) rfl rfl (by kernel_rfl) (by kernel_rfl) (by kernel_rfl) (by kernel_rfl) (fun _ _ _ h => h) (by rfl) ?_ (by first | trivial | assumption) ?_
              · intro W hSw; go_simp
              simp only [Act.put, List.setIfInBounds_toArray, List.set_cons_zero, List.set_cons_succ]
              refine allM1 (i := 10) (by kernel_rfl) ?_
              refine opM 10 rfl (fun K37 hK37 => ?_)
              refine (if_pos (by rfl)).mpr ?_
              refine wp_store_row 24 _ _ rfl (w0.heap.size) #[.int .i64 x.id, .int .i64 x.side, .int .i64 x.kind, .int .i64 x.price, .int .i64 x.qty] rfl rfl 24 #[.int .i64 0, .int .i64 0, .int .i64 0, .int .i64 0, .int .i64 0] h8_36 (by show (Tryz.prog.info? 24).map (·.size) = some 5; kernel_rfl) rfl (by simp [Value.oneCell']) ?_
              have hx37 := Blk.setRow _ _ _ #[.int .i64 x.id, .int .i64 x.side, .int .i64 x.kind, .int .i64 x.price, .int .i64 x.qty] _ h8_36
              have hk37 := Keeps.setRow w36 (w0.heap.size) #[.int .i64 x.id, .int .i64 x.side, .int .i64 x.kind, .int .i64 x.price, .int .i64 x.qty]
              obtain ⟨w37, ew37⟩ : ∃ W, (w36.setRow (w0.heap.size) #[.int .i64 x.id, .int .i64 x.side, .int .i64 x.kind, .int .i64 x.price, .int .i64 x.qty]) = W := ⟨_, rfl⟩
              rw [ew37] at hx37 hk37 ⊢
              clear ew37
              refine hK37 _ _ (fun _ => And.intro (keep5k hS36.1 hk37 hq30_8) (keep5k hS36.2 hk37 hq36_8)) ?_
              clear hK37
              have hb37 := hb36.trans (hk37.below (fun i e => e ▸ hg29) hb36.size)
              simp only [Act.put]
              have h9_37 := Blk.keeps h9_36 hk37 (Ne.symm hne35)
              refine allM1 (i := 11) (by kernel_rfl) ?_
              refine opM 11 rfl (fun K38 hK38 => ?_)
              refine (if_pos (by rfl)).mpr ?_
              refine wp_store_row 24 _ _ rfl (w30.heap.size) #[.int .i64 y.id, .int .i64 y.side, .int .i64 y.kind, .int .i64 y.price, .int .i64 y.qty] rfl rfl 24 #[.int .i64 0, .int .i64 0, .int .i64 0, .int .i64 0, .int .i64 0] h9_37 (by show (Tryz.prog.info? 24).map (·.size) = some 5; kernel_rfl) rfl (by simp [Value.oneCell']) ?_
              have hx38 := Blk.setRow _ _ _ #[.int .i64 y.id, .int .i64 y.side, .int .i64 y.kind, .int .i64 y.price, .int .i64 y.qty] _ h9_37
              have hk38 := Keeps.setRow w37 (w30.heap.size) #[.int .i64 y.id, .int .i64 y.side, .int .i64 y.kind, .int .i64 y.price, .int .i64 y.qty]
              obtain ⟨w38, ew38⟩ : ∃ W, (w37.setRow (w30.heap.size) #[.int .i64 y.id, .int .i64 y.side, .int .i64 y.kind, .int .i64 y.price, .int .i64 y.qty]) = W := ⟨_, rfl⟩
              rw [ew38] at hx38 hk38 ⊢
              clear ew38
              refine hK38 _ _ (fun e => absurd e (by decide)) ?_
              clear hK38
              have hb38 := hb37.trans (hk38.below (fun i e => e ▸ hg35) hb37.size)
              simp only [Act.put]
              have h8_38 := Blk.keeps hx37 hk38 hne35
              refine wpAnyM_done (by kernel_rfl) ?_ _
              go_wp2_with fail
              go_meet
              exact ⟨_, _, rfl, rfl, hne35, h8_38, hx38, hg29, hg35, HR.out.below hb38, hb38⟩
          · refine opM 9 rfl (fun K39 hK39 => ?_)
            go_simp
            have ha39 : Below w29.heap.size w29 (w29.alloc (.cells #[.int .i64 0, .int .i64 0, .int .i64 0, .int .i64 0, .int .i64 0] 24)) := (Below.refl _ _).alloc (Nat.le_refl _) _
            have hx39 := Blk.new w29 24 #[.int .i64 0, .int .i64 0, .int .i64 0, .int .i64 0, .int .i64 0]
            obtain ⟨w39, ew39⟩ : ∃ W, (w29.alloc (.cells #[.int .i64 0, .int .i64 0, .int .i64 0, .int .i64 0, .int .i64 0] 24)) = W := ⟨_, rfl⟩
            rw [ew39] at ha39 hx39 ⊢
            clear ew39
            refine hK39 _ _ (fun _ => trivial) ?_
            clear hK39
            have hb39 := hb29.trans (ha39.mono hb29.size)
            have hg39 : wr.heap.size ≤ w29.heap.size := hb29.size
            have h8_39 := Blk.keep hx29 ha39
            have hne39 : w0.heap.size ≠ w29.heap.size := fun e => by have := Blk.lt hx29; omega
            refine allM1 (i := 1) (by kernel_rfl) ?_
            refine opM 1 rfl (fun K40 hK40 => ?_)
            go_simp
            go_at_call 40
            have hr40 := HR.out.below hb39
            obtain ⟨cc40, hcc40, -⟩ := hr40.ref.cell
            refine (rside_any _ B o0 A' _ cc40 M 1 hcc40 hr40.ref.els (by have := hr40.few; omega) (hr40.prices 1)).mono ?_
            rintro e w40 ⟨hbb40, A40, c40, rfl, hrow40, hnew40⟩
            rw [← hr40.twin.s1, Hm1.out] at hrow40 ⊢
            obtain ⟨g40, eg40⟩ := row_addr' hrow40 Hm1p.out
            subst eg40
            have hc40 := head5 hrow40 Hx.out
            clear hcc40 hr40
            refine hK40 _ _ (fun _ => trivial) ?_
            clear hK40
            have hb40 := hb39.trans (hbb40.mono hb39.size)
            have h8_40 := Blk.keep h8_39 hbb40
            have h9_40 := Blk.keep hx39 hbb40
            have hq40_8 : g40 ≠ w0.heap.size := fun e => by have := hnew40 g40 rfl; have := Blk.lt h8_39; omega
            have hq40_9 : g40 ≠ w29.heap.size := fun e => by have := hnew40 g40 rfl; have := Blk.lt hx39; omega
            refine wpAnyM_mono (S' := fun W => W.cell? ⟨g40, 0, none⟩ = some (.int .i64 x.id) ∧ W.cell? ⟨g40, 1, none⟩ = some (.int .i64 x.side) ∧ W.cell? ⟨g40, 2, none⟩ = some (.int .i64 x.kind) ∧ W.cell? ⟨g40, 3, none⟩ = some (.int .i64 x.price) ∧ W.cell? ⟨g40, 4, none⟩ = some (.int .i64 x.qty)) (fun _ _ => trivial) _ ?_
            have hS40 := hc40
            refine takeM 2 26 (.pointer (some ⟨g40, 0, none⟩)) rfl rfl (by kernel_rfl) (by kernel_rfl) (by kernel_rfl) (by kernel_rfl) (fun _ _ _ h => h) (by rfl) ?_ (by first | trivial | assumption) ?_
            · intro W hSw; go_simp; intro e0; exact absurd e0 (by have := Hm1p.out; omega)
            simp only [Act.put, List.setIfInBounds_toArray, List.set_cons_zero, List.set_cons_succ]
            refine takeM 3 27 (.agg #[.int .i64 x.id, .int .i64 x.side, .int .i64 x.kind, .int .i64 x.price, .int .i64 x.qty]) rfl rfl (by kernel_rfl) (by kernel_rfl) (by kernel_rfl) (by kernel_rfl) (fun _ _ _ h => h) (by rfl) ?_ (by first | trivial | assumption) ?_
            · intro W hSw; go_simp
            simp only [Act.put, List.setIfInBounds_toArray, List.set_cons_zero, List.set_cons_succ]
            refine allM1 (i := 5) (by kernel_rfl) ?_
            refine opM 5 rfl (fun K41 hK41 => ?_)
            go_simp
            go_at_call 40
            have hr41 := HR.out.below hb40
            obtain ⟨cc41, hcc41, -⟩ := hr41.ref.cell
            refine (rside_any _ B o0 A' _ cc41 M 2 hcc41 hr41.ref.els (by have := hr41.few; omega) (hr41.prices 2)).mono ?_
            rintro e w41 ⟨hbb41, A41, c41, rfl, hrow41, hnew41⟩
            rw [← hr41.twin.s2, Hm2.out] at hrow41 ⊢
            obtain ⟨g41, eg41⟩ := row_addr' hrow41 Hm2p.out
            subst eg41
            have hc41 := head5 hrow41 Hy.out
            clear hcc41 hr41
            refine hK41 _ _ (fun _ => keep5 hS40 hbb41) ?_
            clear hK41
            have hb41 := hb40.trans (hbb41.mono hb40.size)
            have h8_41 := Blk.keep h8_40 hbb41
            have h9_41 := Blk.keep h9_40 hbb41
            have hq41_8 : g41 ≠ w0.heap.size := fun e => by have := hnew41 g41 rfl; have := Blk.lt h8_40; omega
            have hq41_9 : g41 ≠ w29.heap.size := fun e => by have := hnew41 g41 rfl; have := Blk.lt h9_40; omega
            have hS41 := And.intro (keep5 hS40 hbb41) hc41
            refine wpAnyM_mono (S' := fun W => (W.cell? ⟨g40, 0, none⟩ = some (.int .i64 x.id) ∧ W.cell? ⟨g40, 1, none⟩ = some (.int .i64 x.side) ∧ W.cell? ⟨g40, 2, none⟩ = some (.int .i64 x.kind) ∧ W.cell? ⟨g40, 3, none⟩ = some (.int .i64 x.price) ∧ W.cell? ⟨g40, 4, none⟩ = some (.int .i64 x.qty)) ∧ (W.cell? ⟨g41, 0, none⟩ = some (.int .i64 y.id) ∧ W.cell? ⟨g41, 1, none⟩ = some (.int .i64 y.side) ∧ W.cell? ⟨g41, 2, none⟩ = some (.int .i64 y.kind) ∧ W.cell? ⟨g41, 3, none⟩ = some (.int .i64 y.price) ∧ W.cell? ⟨g41, 4, none⟩ = some (.int .i64 y.qty))) (fun _ h => h.1) _ ?_
            refine takeM 6 30 (.pointer (some ⟨g41, 0, none⟩)) rfl rfl (by kernel_rfl) (by kernel_rfl) (by kernel_rfl) (by kernel_rfl) (fun _ _ _ h => h) (by rfl) ?_ (by first | trivial | assumption) ?_
            · intro W hSw; go_simp; intro e0; exact absurd e0 (by have := Hm2p.out; omega)
            simp only [Act.put, List.setIfInBounds_toArray, List.set_cons_zero, List.set_cons_succ]
            refine takeM 7 31 (.agg #[.int .i64 y.id, .int .i64 y.side, .int .i64 y.kind, .int .i64 y.price, .int .i64 y.qty]) rfl rfl (by kernel_rfl) (by kernel_rfl) (by kernel_rfl) (by kernel_rfl) (fun _ _ _ h => h) (by rfl) ?_ (by first | trivial | assumption) ?_
            · intro W hSw; go_simp
            simp only [Act.put, List.setIfInBounds_toArray, List.set_cons_zero, List.set_cons_succ]
            refine allM1 (i := 10) (by kernel_rfl) ?_
            refine opM 10 rfl (fun K42 hK42 => ?_)
            refine (if_pos (by rfl)).mpr ?_
            refine wp_store_row 24 _ _ rfl (w0.heap.size) #[.int .i64 x.id, .int .i64 x.side, .int .i64 x.kind, .int .i64 x.price, .int .i64 x.qty] rfl rfl 24 #[.int .i64 0, .int .i64 0, .int .i64 0, .int .i64 0, .int .i64 0] h8_41 (by show (Tryz.prog.info? 24).map (·.size) = some 5; kernel_rfl) rfl (by simp [Value.oneCell']) ?_
            have hx42 := Blk.setRow _ _ _ #[.int .i64 x.id, .int .i64 x.side, .int .i64 x.kind, .int .i64 x.price, .int .i64 x.qty] _ h8_41
            have hk42 := Keeps.setRow w41 (w0.heap.size) #[.int .i64 x.id, .int .i64 x.side, .int .i64 x.kind, .int .i64 x.price, .int .i64 x.qty]
            obtain ⟨w42, ew42⟩ : ∃ W, (w41.setRow (w0.heap.size) #[.int .i64 x.id, .int .i64 x.side, .int .i64 x.kind, .int .i64 x.price, .int .i64 x.qty]) = W := ⟨_, rfl⟩
            rw [ew42] at hx42 hk42 ⊢
            clear ew42
            refine hK42 _ _ (fun _ => And.intro (keep5k hS41.1 hk42 hq40_8) (keep5k hS41.2 hk42 hq41_8)) ?_
            clear hK42
            have hb42 := hb41.trans (hk42.below (fun i e => e ▸ hg29) hb41.size)
            simp only [Act.put]
            have h9_42 := Blk.keeps h9_41 hk42 (Ne.symm hne39)
            refine allM1 (i := 11) (by kernel_rfl) ?_
            refine opM 11 rfl (fun K43 hK43 => ?_)
            refine (if_pos (by rfl)).mpr ?_
            refine wp_store_row 24 _ _ rfl (w29.heap.size) #[.int .i64 y.id, .int .i64 y.side, .int .i64 y.kind, .int .i64 y.price, .int .i64 y.qty] rfl rfl 24 #[.int .i64 0, .int .i64 0, .int .i64 0, .int .i64 0, .int .i64 0] h9_42 (by show (Tryz.prog.info? 24).map (·.size) = some 5; kernel_rfl) rfl (by simp [Value.oneCell']) ?_
            have hx43 := Blk.setRow _ _ _ #[.int .i64 y.id, .int .i64 y.side, .int .i64 y.kind, .int .i64 y.price, .int .i64 y.qty] _ h9_42
            have hk43 := Keeps.setRow w42 (w29.heap.size) #[.int .i64 y.id, .int .i64 y.side, .int .i64 y.kind, .int .i64 y.price, .int .i64 y.qty]
            obtain ⟨w43, ew43⟩ : ∃ W, (w42.setRow (w29.heap.size) #[.int .i64 y.id, .int .i64 y.side, .int .i64 y.kind, .int .i64 y.price, .int .i64 y.qty]) = W := ⟨_, rfl⟩
            rw [ew43] at hx43 hk43 ⊢
            clear ew43
            refine hK43 _ _ (fun e => absurd e (by decide)) ?_
            clear hK43
            have hb43 := hb42.trans (hk43.below (fun i e => e ▸ hg39) hb42.size)
            simp only [Act.put]
            have h8_43 := Blk.keeps hx42 hk43 hne39
            refine wpAnyM_done (by kernel_rfl) ?_ _
            go_wp2_with fail
            go_meet
            exact ⟨_, _, rfl, rfl, hne39, h8_43, hx43, hg29, hg39, HR.out.below hb43, hb43⟩
        · refine opM 9 rfl (fun K44 hK44 => ?_)
          go_simp
          have ha44 : Below w0.heap.size w0 (w0.alloc (.cells #[.int .i64 0, .int .i64 0, .int .i64 0, .int .i64 0, .int .i64 0] 24)) := (Below.refl _ _).alloc (Nat.le_refl _) _
          have hx44 := Blk.new w0 24 #[.int .i64 0, .int .i64 0, .int .i64 0, .int .i64 0, .int .i64 0]
          obtain ⟨w44, ew44⟩ : ∃ W, (w0.alloc (.cells #[.int .i64 0, .int .i64 0, .int .i64 0, .int .i64 0, .int .i64 0] 24)) = W := ⟨_, rfl⟩
          rw [ew44] at ha44 hx44 ⊢
          clear ew44
          refine hK44 _ _ (fun _ => trivial) ?_
          clear hK44
          have hb44 := hb0.trans (ha44.mono hb0.size)
          have hg44 : wr.heap.size ≤ w0.heap.size := hb0.size
          refine allM2 (i := 1) (j := 8) (by kernel_rfl) ?_ ?_
          · refine opM 1 rfl (fun K45 hK45 => ?_)
            go_simp
            go_at_call 40
            have hr45 := HR.out.below hb44
            obtain ⟨cc45, hcc45, -⟩ := hr45.ref.cell
            refine (rside_any _ B o0 A' _ cc45 M 1 hcc45 hr45.ref.els (by have := hr45.few; omega) (hr45.prices 1)).mono ?_
            rintro e w45 ⟨hbb45, A45, c45, rfl, hrow45, hnew45⟩
            rw [← hr45.twin.s1, Hm1.out] at hrow45 ⊢
            obtain ⟨g45, eg45⟩ := row_addr' hrow45 Hm1p.out
            subst eg45
            have hc45 := head5 hrow45 Hx.out
            clear hcc45 hr45
            refine hK45 _ _ (fun _ => trivial) ?_
            clear hK45
            have hb45 := hb44.trans (hbb45.mono hb44.size)
            have h9_45 := Blk.keep hx44 hbb45
            have hq45_9 : g45 ≠ w0.heap.size := fun e => by have := hnew45 g45 rfl; have := Blk.lt hx44; omega
            refine wpAnyM_mono (S' := fun W => W.cell? ⟨g45, 0, none⟩ = some (.int .i64 x.id) ∧ W.cell? ⟨g45, 1, none⟩ = some (.int .i64 x.side) ∧ W.cell? ⟨g45, 2, none⟩ = some (.int .i64 x.kind) ∧ W.cell? ⟨g45, 3, none⟩ = some (.int .i64 x.price) ∧ W.cell? ⟨g45, 4, none⟩ = some (.int .i64 x.qty)) (fun _ _ => trivial) _ ?_
            have hS45 := hc45
            refine takeM 2 26 (.pointer (some ⟨g45, 0, none⟩)) rfl rfl (by kernel_rfl) (by kernel_rfl) (by kernel_rfl) (by kernel_rfl) (fun _ _ _ h => h) (by rfl) ?_ (by first | trivial | assumption) ?_
            · intro W hSw; go_simp; intro e0; exact absurd e0 (by have := Hm1p.out; omega)
            simp only [Act.put, List.setIfInBounds_toArray, List.set_cons_zero, List.set_cons_succ]
            refine takeM 3 27 (.agg #[.int .i64 x.id, .int .i64 x.side, .int .i64 x.kind, .int .i64 x.price, .int .i64 x.qty]) rfl rfl (by kernel_rfl) (by kernel_rfl) (by kernel_rfl) (by kernel_rfl) (fun _ _ _ h => h) (by rfl) ?_ (by first | trivial | assumption) ?_
            · intro W hSw; go_simp
            simp only [Act.put, List.setIfInBounds_toArray, List.set_cons_zero, List.set_cons_succ]
            refine allM2 (i := 5) (j := 8) (by kernel_rfl) ?_ ?_
            · refine opM 5 rfl (fun K46 hK46 => ?_)
              go_simp
              go_at_call 40
              have hr46 := HR.out.below hb45
              obtain ⟨cc46, hcc46, -⟩ := hr46.ref.cell
              refine (rside_any _ B o0 A' _ cc46 M 2 hcc46 hr46.ref.els (by have := hr46.few; omega) (hr46.prices 2)).mono ?_
              rintro e w46 ⟨hbb46, A46, c46, rfl, hrow46, hnew46⟩
              rw [← hr46.twin.s2, Hm2.out] at hrow46 ⊢
              obtain ⟨g46, eg46⟩ := row_addr' hrow46 Hm2p.out
              subst eg46
              have hc46 := head5 hrow46 Hy.out
              clear hcc46 hr46
              refine hK46 _ _ (fun _ => keep5 hS45 hbb46) ?_
              clear hK46
              have hb46 := hb45.trans (hbb46.mono hb45.size)
              have h9_46 := Blk.keep h9_45 hbb46
              have hq46_9 : g46 ≠ w0.heap.size := fun e => by have := hnew46 g46 rfl; have := Blk.lt h9_45; omega
              have hS46 := And.intro (keep5 hS45 hbb46) hc46
              refine wpAnyM_mono (S' := fun W => (W.cell? ⟨g45, 0, none⟩ = some (.int .i64 x.id) ∧ W.cell? ⟨g45, 1, none⟩ = some (.int .i64 x.side) ∧ W.cell? ⟨g45, 2, none⟩ = some (.int .i64 x.kind) ∧ W.cell? ⟨g45, 3, none⟩ = some (.int .i64 x.price) ∧ W.cell? ⟨g45, 4, none⟩ = some (.int .i64 x.qty)) ∧ (W.cell? ⟨g46, 0, none⟩ = some (.int .i64 y.id) ∧ W.cell? ⟨g46, 1, none⟩ = some (.int .i64 y.side) ∧ W.cell? ⟨g46, 2, none⟩ = some (.int .i64 y.kind) ∧ W.cell? ⟨g46, 3, none⟩ = some (.int .i64 y.price) ∧ W.cell? ⟨g46, 4, none⟩ = some (.int .i64 y.qty))) (fun _ h => h.1) _ ?_
              refine takeM 6 30 (.pointer (some ⟨g46, 0, none⟩)) rfl rfl (by kernel_rfl) (by kernel_rfl) (by kernel_rfl) (by kernel_rfl) (fun _ _ _ h => h) (by rfl) ?_ (by first | trivial | assumption) ?_
              · intro W hSw; go_simp; intro e0; exact absurd e0 (by have := Hm2p.out; omega)
              simp only [Act.put, List.setIfInBounds_toArray, List.set_cons_zero, List.set_cons_succ]
              refine takeM 7 31 (.agg #[.int .i64 y.id, .int .i64 y.side, .int .i64 y.kind, .int .i64 y.price, .int .i64 y.qty]) rfl rfl (by kernel_rfl) (by kernel_rfl) (by kernel_rfl) (by kernel_rfl) (fun _ _ _ h => h) (by rfl) ?_ (by first | trivial | assumption) ?_
              · intro W hSw; go_simp
              simp only [Act.put, List.setIfInBounds_toArray, List.set_cons_zero, List.set_cons_succ]
              refine allM1 (i := 8) (by kernel_rfl) ?_
              refine opM 8 rfl (fun K47 hK47 => ?_)
              go_simp
              have ha47 : Below w46.heap.size w46 (w46.alloc (.cells #[.int .i64 0, .int .i64 0, .int .i64 0, .int .i64 0, .int .i64 0] 24)) := (Below.refl _ _).alloc (Nat.le_refl _) _
              have hx47 := Blk.new w46 24 #[.int .i64 0, .int .i64 0, .int .i64 0, .int .i64 0, .int .i64 0]
              obtain ⟨w47, ew47⟩ : ∃ W, (w46.alloc (.cells #[.int .i64 0, .int .i64 0, .int .i64 0, .int .i64 0, .int .i64 0] 24)) = W := ⟨_, rfl⟩
              rw [ew47] at ha47 hx47 ⊢
              clear ew47
              refine hK47 _ _ (fun _ => And.intro (keep5 hS46.1 ha47) (keep5 hS46.2 ha47)) ?_
              clear hK47
              have hb47 := hb46.trans (ha47.mono hb46.size)
              have hg47 : wr.heap.size ≤ w46.heap.size := hb46.size
              have hq47_1 : g45 ≠ w46.heap.size := fun e => by have h := World.block_lt_of_cell? _ _ hS46.1.1; dsimp only at h; omega
              have hq47_2 : g46 ≠ w46.heap.size := fun e => by have h := World.block_lt_of_cell? _ _ hS46.2.1; dsimp only at h; omega
              have h9_47 := Blk.keep h9_46 ha47
              have hS47 := And.intro (keep5 hS46.1 ha47) (keep5 hS46.2 ha47)
              have hne47 : w0.heap.size ≠ w46.heap.size := fun e => by have := Blk.lt h9_46; omega
              refine allM1 (i := 10) (by kernel_rfl) ?_
              refine opM 10 rfl (fun K48 hK48 => ?_)
              refine (if_pos (by rfl)).mpr ?_
              refine wp_store_row 24 _ _ rfl (w46.heap.size) #[.int .i64 x.id, .int .i64 x.side, .int .i64 x.kind, .int .i64 x.price, .int .i64 x.qty] rfl rfl 24 #[.int .i64 0, .int .i64 0, .int .i64 0, .int .i64 0, .int .i64 0] hx47 (by show (Tryz.prog.info? 24).map (·.size) = some 5; kernel_rfl) rfl (by simp [Value.oneCell']) ?_
              have hx48 := Blk.setRow _ _ _ #[.int .i64 x.id, .int .i64 x.side, .int .i64 x.kind, .int .i64 x.price, .int .i64 x.qty] _ hx47
              have hk48 := Keeps.setRow w47 (w46.heap.size) #[.int .i64 x.id, .int .i64 x.side, .int .i64 x.kind, .int .i64 x.price, .int .i64 x.qty]
              obtain ⟨w48, ew48⟩ : ∃ W, (w47.setRow (w46.heap.size) #[.int .i64 x.id, .int .i64 x.side, .int .i64 x.kind, .int .i64 x.price, .int .i64 x.qty]) = W := ⟨_, rfl⟩
              rw [ew48] at hx48 hk48 ⊢
              clear ew48
              refine hK48 _ _ (fun _ => And.intro (keep5k hS47.1 hk48 hq47_1) (keep5k hS47.2 hk48 hq47_2)) ?_
              clear hK48
              have hb48 := hb47.trans (hk48.below (fun i e => e ▸ hg47) hb47.size)
              simp only [Act.put]
              have h9_48 := Blk.keeps h9_47 hk48 hne47
              refine allM1 (i := 11) (by kernel_rfl) ?_
              refine opM 11 rfl (fun K49 hK49 => ?_)
              refine (if_pos (by rfl)).mpr ?_
              refine wp_store_row 24 _ _ rfl (w0.heap.size) #[.int .i64 y.id, .int .i64 y.side, .int .i64 y.kind, .int .i64 y.price, .int .i64 y.qty] rfl rfl 24 #[.int .i64 0, .int .i64 0, .int .i64 0, .int .i64 0, .int .i64 0] h9_48 (by show (Tryz.prog.info? 24).map (·.size) = some 5; kernel_rfl) rfl (by simp [Value.oneCell']) ?_
              have hx49 := Blk.setRow _ _ _ #[.int .i64 y.id, .int .i64 y.side, .int .i64 y.kind, .int .i64 y.price, .int .i64 y.qty] _ h9_48
              have hk49 := Keeps.setRow w48 (w0.heap.size) #[.int .i64 y.id, .int .i64 y.side, .int .i64 y.kind, .int .i64 y.price, .int .i64 y.qty]
              obtain ⟨w49, ew49⟩ : ∃ W, (w48.setRow (w0.heap.size) #[.int .i64 y.id, .int .i64 y.side, .int .i64 y.kind, .int .i64 y.price, .int .i64 y.qty]) = W := ⟨_, rfl⟩
              rw [ew49] at hx49 hk49 ⊢
              clear ew49
              refine hK49 _ _ (fun e => absurd e (by decide)) ?_
              clear hK49
              have hb49 := hb48.trans (hk49.below (fun i e => e ▸ hg44) hb48.size)
              simp only [Act.put]
              have h8_49 := Blk.keeps hx48 hk49 (Ne.symm hne47)
              refine wpAnyM_done (by kernel_rfl) ?_ _
              go_wp2_with fail
              go_meet
              exact ⟨_, _, rfl, rfl, (Ne.symm hne47), h8_49, hx49, hg47, hg44, HR.out.below hb49, hb49⟩
            · refine opM 8 rfl (fun K50 hK50 => ?_)
              go_simp
              have ha50 : Below w45.heap.size w45 (w45.alloc (.cells #[.int .i64 0, .int .i64 0, .int .i64 0, .int .i64 0, .int .i64 0] 24)) := (Below.refl _ _).alloc (Nat.le_refl _) _
              have hx50 := Blk.new w45 24 #[.int .i64 0, .int .i64 0, .int .i64 0, .int .i64 0, .int .i64 0]
              obtain ⟨w50, ew50⟩ : ∃ W, (w45.alloc (.cells #[.int .i64 0, .int .i64 0, .int .i64 0, .int .i64 0, .int .i64 0] 24)) = W := ⟨_, rfl⟩
              rw [ew50] at ha50 hx50 ⊢
              clear ew50
              refine hK50 _ _ (fun _ => keep5 hS45 ha50) ?_
              clear hK50
              have hb50 := hb45.trans (ha50.mono hb45.size)
              have hg50 : wr.heap.size ≤ w45.heap.size := hb45.size
              have hq50_1 : g45 ≠ w45.heap.size := fun e => by have h := World.block_lt_of_cell? _ _ hS45.1; dsimp only at h; omega
              have h9_50 := Blk.keep h9_45 ha50
              have hS50 := keep5 hS45 ha50
              have hne50 : w0.heap.size ≠ w45.heap.size := fun e => by have := Blk.lt h9_45; omega
              refine allM1 (i := 5) (by kernel_rfl) ?_
              refine opM 5 rfl (fun K51 hK51 => ?_)
              go_simp
              go_at_call 40
              have hr51 := HR.out.below hb50
              obtain ⟨cc51, hcc51, -⟩ := hr51.ref.cell
              refine (rside_any _ B o0 A' _ cc51 M 2 hcc51 hr51.ref.els (by have := hr51.few; omega) (hr51.prices 2)).mono ?_
              rintro e w51 ⟨hbb51, A51, c51, rfl, hrow51, hnew51⟩
              rw [← hr51.twin.s2, Hm2.out] at hrow51 ⊢
              obtain ⟨g51, eg51⟩ := row_addr' hrow51 Hm2p.out
              subst eg51
              have hc51 := head5 hrow51 Hy.out
              clear hcc51 hr51
              refine hK51 _ _ (fun _ => keep5 hS50 hbb51) ?_
              clear hK51
              have hb51 := hb50.trans (hbb51.mono hb50.size)
              have h8_51 := Blk.keep hx50 hbb51
              have h9_51 := Blk.keep h9_50 hbb51
              have hq51_8 : g51 ≠ w45.heap.size := fun e => by have := hnew51 g51 rfl; have := Blk.lt hx50; omega
              have hq51_9 : g51 ≠ w0.heap.size := fun e => by have := hnew51 g51 rfl; have := Blk.lt h9_50; omega
              have hS51 := And.intro (keep5 hS50 hbb51) hc51
              refine wpAnyM_mono (S' := fun W => (W.cell? ⟨g45, 0, none⟩ = some (.int .i64 x.id) ∧ W.cell? ⟨g45, 1, none⟩ = some (.int .i64 x.side) ∧ W.cell? ⟨g45, 2, none⟩ = some (.int .i64 x.kind) ∧ W.cell? ⟨g45, 3, none⟩ = some (.int .i64 x.price) ∧ W.cell? ⟨g45, 4, none⟩ = some (.int .i64 x.qty)) ∧ (W.cell? ⟨g51, 0, none⟩ = some (.int .i64 y.id) ∧ W.cell? ⟨g51, 1, none⟩ = some (.int .i64 y.side) ∧ W.cell? ⟨g51, 2, none⟩ = some (.int .i64 y.kind) ∧ W.cell? ⟨g51, 3, none⟩ = some (.int .i64 y.price) ∧ W.cell? ⟨g51, 4, none⟩ = some (.int .i64 y.qty))) (fun _ h => h.1) _ ?_
              refine takeM 6 30 (.pointer (some ⟨g51, 0, none⟩)) rfl rfl (by kernel_rfl) (by kernel_rfl) (by kernel_rfl) (by kernel_rfl) (fun _ _ _ h => h) (by rfl) ?_ (by first | trivial | assumption) ?_
              · intro W hSw; go_simp; intro e0; exact absurd e0 (by have := Hm2p.out; omega)
              simp only [Act.put, List.setIfInBounds_toArray, List.set_cons_zero, List.set_cons_succ]
              refine takeM 7 31 (.agg #[.int .i64 y.id, .int .i64 y.side, .int .i64 y.kind, .int .i64 y.price, .int .i64 y.qty]) rfl rfl (by kernel_rfl) (by kernel_rfl) (by kernel_rfl) (by kernel_rfl) (fun _ _ _ h => h) (by rfl) ?_ (by first | trivial | assumption) ?_
              · intro W hSw; go_simp
              simp only [Act.put, List.setIfInBounds_toArray, List.set_cons_zero, List.set_cons_succ]
              refine allM1 (i := 10) (by kernel_rfl) ?_
              refine opM 10 rfl (fun K52 hK52 => ?_)
              refine (if_pos (by rfl)).mpr ?_
              refine wp_store_row 24 _ _ rfl (w45.heap.size) #[.int .i64 x.id, .int .i64 x.side, .int .i64 x.kind, .int .i64 x.price, .int .i64 x.qty] rfl rfl 24 #[.int .i64 0, .int .i64 0, .int .i64 0, .int .i64 0, .int .i64 0] h8_51 (by show (Tryz.prog.info? 24).map (·.size) = some 5; kernel_rfl) rfl (by simp [Value.oneCell']) ?_
              have hx52 := Blk.setRow _ _ _ #[.int .i64 x.id, .int .i64 x.side, .int .i64 x.kind, .int .i64 x.price, .int .i64 x.qty] _ h8_51
              have hk52 := Keeps.setRow w51 (w45.heap.size) #[.int .i64 x.id, .int .i64 x.side, .int .i64 x.kind, .int .i64 x.price, .int .i64 x.qty]
              obtain ⟨w52, ew52⟩ : ∃ W, (w51.setRow (w45.heap.size) #[.int .i64 x.id, .int .i64 x.side, .int .i64 x.kind, .int .i64 x.price, .int .i64 x.qty]) = W := ⟨_, rfl⟩
              rw [ew52] at hx52 hk52 ⊢
              clear ew52
              refine hK52 _ _ (fun _ => And.intro (keep5k hS51.1 hk52 hq50_1) (keep5k hS51.2 hk52 hq51_8)) ?_
              clear hK52
              have hb52 := hb51.trans (hk52.below (fun i e => e ▸ hg50) hb51.size)
              simp only [Act.put]
              have h9_52 := Blk.keeps h9_51 hk52 hne50
              refine allM1 (i := 11) (by kernel_rfl) ?_
              refine opM 11 rfl (fun K53 hK53 => ?_)
              refine (if_pos (by rfl)).mpr ?_
              refine wp_store_row 24 _ _ rfl (w0.heap.size) #[.int .i64 y.id, .int .i64 y.side, .int .i64 y.kind, .int .i64 y.price, .int .i64 y.qty] rfl rfl 24 #[.int .i64 0, .int .i64 0, .int .i64 0, .int .i64 0, .int .i64 0] h9_52 (by show (Tryz.prog.info? 24).map (·.size) = some 5; kernel_rfl) rfl (by simp [Value.oneCell']) ?_
              have hx53 := Blk.setRow _ _ _ #[.int .i64 y.id, .int .i64 y.side, .int .i64 y.kind, .int .i64 y.price, .int .i64 y.qty] _ h9_52
              have hk53 := Keeps.setRow w52 (w0.heap.size) #[.int .i64 y.id, .int .i64 y.side, .int .i64 y.kind, .int .i64 y.price, .int .i64 y.qty]
              obtain ⟨w53, ew53⟩ : ∃ W, (w52.setRow (w0.heap.size) #[.int .i64 y.id, .int .i64 y.side, .int .i64 y.kind, .int .i64 y.price, .int .i64 y.qty]) = W := ⟨_, rfl⟩
              rw [ew53] at hx53 hk53 ⊢
              clear ew53
              refine hK53 _ _ (fun e => absurd e (by decide)) ?_
              clear hK53
              have hb53 := hb52.trans (hk53.below (fun i e => e ▸ hg44) hb52.size)
              simp only [Act.put]
              have h8_53 := Blk.keeps hx52 hk53 (Ne.symm hne50)
              refine wpAnyM_done (by kernel_rfl) ?_ _
              go_wp2_with fail
              go_meet
              exact ⟨_, _, rfl, rfl, (Ne.symm hne50), h8_53, hx53, hg50, hg44, HR.out.below hb53, hb53⟩
          · refine opM 8 rfl (fun K54 hK54 => ?_)
            go_simp
            have ha54 : Below w44.heap.size w44 (w44.alloc (.cells #[.int .i64 0, .int .i64 0, .int .i64 0, .int .i64 0, .int .i64 0] 24)) := (Below.refl _ _).alloc (Nat.le_refl _) _
            have hx54 := Blk.new w44 24 #[.int .i64 0, .int .i64 0, .int .i64 0, .int .i64 0, .int .i64 0]
            obtain ⟨w54, ew54⟩ : ∃ W, (w44.alloc (.cells #[.int .i64 0, .int .i64 0, .int .i64 0, .int .i64 0, .int .i64 0] 24)) = W := ⟨_, rfl⟩
            rw [ew54] at ha54 hx54 ⊢
            clear ew54
            refine hK54 _ _ (fun _ => trivial) ?_
            clear hK54
            have hb54 := hb44.trans (ha54.mono hb44.size)
            have hg54 : wr.heap.size ≤ w44.heap.size := hb44.size
            have h9_54 := Blk.keep hx44 ha54
            have hne54 : w0.heap.size ≠ w44.heap.size := fun e => by have := Blk.lt hx44; omega
            refine allM1 (i := 1) (by kernel_rfl) ?_
            refine opM 1 rfl (fun K55 hK55 => ?_)
            go_simp
            go_at_call 40
            have hr55 := HR.out.below hb54
            obtain ⟨cc55, hcc55, -⟩ := hr55.ref.cell
            refine (rside_any _ B o0 A' _ cc55 M 1 hcc55 hr55.ref.els (by have := hr55.few; omega) (hr55.prices 1)).mono ?_
            rintro e w55 ⟨hbb55, A55, c55, rfl, hrow55, hnew55⟩
            rw [← hr55.twin.s1, Hm1.out] at hrow55 ⊢
            obtain ⟨g55, eg55⟩ := row_addr' hrow55 Hm1p.out
            subst eg55
            have hc55 := head5 hrow55 Hx.out
            clear hcc55 hr55
            refine hK55 _ _ (fun _ => trivial) ?_
            clear hK55
            have hb55 := hb54.trans (hbb55.mono hb54.size)
            have h8_55 := Blk.keep hx54 hbb55
            have h9_55 := Blk.keep h9_54 hbb55
            have hq55_8 : g55 ≠ w44.heap.size := fun e => by have := hnew55 g55 rfl; have := Blk.lt hx54; omega
            have hq55_9 : g55 ≠ w0.heap.size := fun e => by have := hnew55 g55 rfl; have := Blk.lt h9_54; omega
            refine wpAnyM_mono (S' := fun W => W.cell? ⟨g55, 0, none⟩ = some (.int .i64 x.id) ∧ W.cell? ⟨g55, 1, none⟩ = some (.int .i64 x.side) ∧ W.cell? ⟨g55, 2, none⟩ = some (.int .i64 x.kind) ∧ W.cell? ⟨g55, 3, none⟩ = some (.int .i64 x.price) ∧ W.cell? ⟨g55, 4, none⟩ = some (.int .i64 x.qty)) (fun _ _ => trivial) _ ?_
            have hS55 := hc55
            refine takeM 2 26 (.pointer (some ⟨g55, 0, none⟩)) rfl rfl (by kernel_rfl) (by kernel_rfl) (by kernel_rfl) (by kernel_rfl) (fun _ _ _ h => h) (by rfl) ?_ (by first | trivial | assumption) ?_
            · intro W hSw; go_simp; intro e0; exact absurd e0 (by have := Hm1p.out; omega)
            simp only [Act.put, List.setIfInBounds_toArray, List.set_cons_zero, List.set_cons_succ]
            refine takeM 3 27 (.agg #[.int .i64 x.id, .int .i64 x.side, .int .i64 x.kind, .int .i64 x.price, .int .i64 x.qty]) rfl rfl (by kernel_rfl) (by kernel_rfl) (by kernel_rfl) (by kernel_rfl) (fun _ _ _ h => h) (by rfl) ?_ (by first | trivial | assumption) ?_
            · intro W hSw; go_simp
            simp only [Act.put, List.setIfInBounds_toArray, List.set_cons_zero, List.set_cons_succ]
            refine allM1 (i := 5) (by kernel_rfl) ?_
            refine opM 5 rfl (fun K56 hK56 => ?_)
            go_simp
            go_at_call 40
            have hr56 := HR.out.below hb55
            obtain ⟨cc56, hcc56, -⟩ := hr56.ref.cell
            refine (rside_any _ B o0 A' _ cc56 M 2 hcc56 hr56.ref.els (by have := hr56.few; omega) (hr56.prices 2)).mono ?_
            rintro e w56 ⟨hbb56, A56, c56, rfl, hrow56, hnew56⟩
            rw [← hr56.twin.s2, Hm2.out] at hrow56 ⊢
            obtain ⟨g56, eg56⟩ := row_addr' hrow56 Hm2p.out
            subst eg56
            have hc56 := head5 hrow56 Hy.out
            clear hcc56 hr56
            refine hK56 _ _ (fun _ => keep5 hS55 hbb56) ?_
            clear hK56
            have hb56 := hb55.trans (hbb56.mono hb55.size)
            have h8_56 := Blk.keep h8_55 hbb56
            have h9_56 := Blk.keep h9_55 hbb56
            have hq56_8 : g56 ≠ w44.heap.size := fun e => by have := hnew56 g56 rfl; have := Blk.lt h8_55; omega
            have hq56_9 : g56 ≠ w0.heap.size := fun e => by have := hnew56 g56 rfl; have := Blk.lt h9_55; omega
            have hS56 := And.intro (keep5 hS55 hbb56) hc56
            refine wpAnyM_mono (S' := fun W => (W.cell? ⟨g55, 0, none⟩ = some (.int .i64 x.id) ∧ W.cell? ⟨g55, 1, none⟩ = some (.int .i64 x.side) ∧ W.cell? ⟨g55, 2, none⟩ = some (.int .i64 x.kind) ∧ W.cell? ⟨g55, 3, none⟩ = some (.int .i64 x.price) ∧ W.cell? ⟨g55, 4, none⟩ = some (.int .i64 x.qty)) ∧ (W.cell? ⟨g56, 0, none⟩ = some (.int .i64 y.id) ∧ W.cell? ⟨g56, 1, none⟩ = some (.int .i64 y.side) ∧ W.cell? ⟨g56, 2, none⟩ = some (.int .i64 y.kind) ∧ W.cell? ⟨g56, 3, none⟩ = some (.int .i64 y.price) ∧ W.cell? ⟨g56, 4, none⟩ = some (.int .i64 y.qty))) (fun _ h => h.1) _ ?_
            refine takeM 6 30 (.pointer (some ⟨g56, 0, none⟩)) rfl rfl (by kernel_rfl) (by kernel_rfl) (by kernel_rfl) (by kernel_rfl) (fun _ _ _ h => h) (by rfl) ?_ (by first | trivial | assumption) ?_
            · intro W hSw; go_simp; intro e0; exact absurd e0 (by have := Hm2p.out; omega)
            simp only [Act.put, List.setIfInBounds_toArray, List.set_cons_zero, List.set_cons_succ]
            refine takeM 7 31 (.agg #[.int .i64 y.id, .int .i64 y.side, .int .i64 y.kind, .int .i64 y.price, .int .i64 y.qty]) rfl rfl (by kernel_rfl) (by kernel_rfl) (by kernel_rfl) (by kernel_rfl) (fun _ _ _ h => h) (by rfl) ?_ (by first | trivial | assumption) ?_
            · intro W hSw; go_simp
            simp only [Act.put, List.setIfInBounds_toArray, List.set_cons_zero, List.set_cons_succ]
            refine allM1 (i := 10) (by kernel_rfl) ?_
            refine opM 10 rfl (fun K57 hK57 => ?_)
            refine (if_pos (by rfl)).mpr ?_
            refine wp_store_row 24 _ _ rfl (w44.heap.size) #[.int .i64 x.id, .int .i64 x.side, .int .i64 x.kind, .int .i64 x.price, .int .i64 x.qty] rfl rfl 24 #[.int .i64 0, .int .i64 0, .int .i64 0, .int .i64 0, .int .i64 0] h8_56 (by show (Tryz.prog.info? 24).map (·.size) = some 5; kernel_rfl) rfl (by simp [Value.oneCell']) ?_
            have hx57 := Blk.setRow _ _ _ #[.int .i64 x.id, .int .i64 x.side, .int .i64 x.kind, .int .i64 x.price, .int .i64 x.qty] _ h8_56
            have hk57 := Keeps.setRow w56 (w44.heap.size) #[.int .i64 x.id, .int .i64 x.side, .int .i64 x.kind, .int .i64 x.price, .int .i64 x.qty]
            obtain ⟨w57, ew57⟩ : ∃ W, (w56.setRow (w44.heap.size) #[.int .i64 x.id, .int .i64 x.side, .int .i64 x.kind, .int .i64 x.price, .int .i64 x.qty]) = W := ⟨_, rfl⟩
            rw [ew57] at hx57 hk57 ⊢
            clear ew57
            refine hK57 _ _ (fun _ => And.intro (keep5k hS56.1 hk57 hq55_8) (keep5k hS56.2 hk57 hq56_8)) ?_
            clear hK57
            have hb57 := hb56.trans (hk57.below (fun i e => e ▸ hg54) hb56.size)
            simp only [Act.put]
            have h9_57 := Blk.keeps h9_56 hk57 hne54
            refine allM1 (i := 11) (by kernel_rfl) ?_
            refine opM 11 rfl (fun K58 hK58 => ?_)
            refine (if_pos (by rfl)).mpr ?_
            refine wp_store_row 24 _ _ rfl (w0.heap.size) #[.int .i64 y.id, .int .i64 y.side, .int .i64 y.kind, .int .i64 y.price, .int .i64 y.qty] rfl rfl 24 #[.int .i64 0, .int .i64 0, .int .i64 0, .int .i64 0, .int .i64 0] h9_57 (by show (Tryz.prog.info? 24).map (·.size) = some 5; kernel_rfl) rfl (by simp [Value.oneCell']) ?_
            have hx58 := Blk.setRow _ _ _ #[.int .i64 y.id, .int .i64 y.side, .int .i64 y.kind, .int .i64 y.price, .int .i64 y.qty] _ h9_57
            have hk58 := Keeps.setRow w57 (w0.heap.size) #[.int .i64 y.id, .int .i64 y.side, .int .i64 y.kind, .int .i64 y.price, .int .i64 y.qty]
            obtain ⟨w58, ew58⟩ : ∃ W, (w57.setRow (w0.heap.size) #[.int .i64 y.id, .int .i64 y.side, .int .i64 y.kind, .int .i64 y.price, .int .i64 y.qty]) = W := ⟨_, rfl⟩
            rw [ew58] at hx58 hk58 ⊢
            clear ew58
            refine hK58 _ _ (fun e => absurd e (by decide)) ?_
            clear hK58
            have hb58 := hb57.trans (hk58.below (fun i e => e ▸ hg44) hb57.size)
            simp only [Act.put]
            have h8_58 := Blk.keeps hx57 hk58 (Ne.symm hne54)
            refine wpAnyM_done (by kernel_rfl) ?_ _
            go_wp2_with fail
            go_meet
            exact ⟨_, _, rfl, rfl, (Ne.symm hne54), h8_58, hx58, hg54, hg44, HR.out.below hb58, hb58⟩
      case rest =>
        obtain ⟨B1, B2, rfl, rfl, hne, hX, hY, hB1, hB2, hr5, hb5⟩ := hcut
        obtain ⟨w5, ew5⟩ : ∃ W, wc = W := ⟨_, rfl⟩
        rw [ew5] at hX hY hr5 hb5 ⊢
        clear ew5 HR
        have HX5 := hid hX
        have HY5 := hid hY
        have HR5 := hid hr5
        have HNe := hid hne
        have HB1 := hid hB1
        have HB2 := hid hB2
        have hl1 := Blk.lt hX
        have hl2 := Blk.lt hY
        obtain ⟨x0, -, -, -, x4⟩ := ord_box hX
        obtain ⟨y0, -, -, -, y4⟩ := ord_box hY
        clear hX hY hr5 hne hB1 hB2 hb5
        obtain ⟨n, hn⟩ : ∃ n, min (q - a) (min x.qty y.qty) = n := ⟨_, rfl⟩
        have hxq : 1 ≤ x.qty := (HR5.out.lists.ok x (List.mem_append_left _ (by rw [Hx.out]; simp))).2.2.2.1
        have hyq : 1 ≤ y.qty := (HR5.out.lists.ok y (List.mem_append_right _ (by rw [Hy.out]; simp))).2.2.2.1
        have hn1 : 1 ≤ n := by omega
        have hnx : n ≤ x.qty := by omega
        have hny : n ≤ y.qty := by omega
        have hnt : n ≤ q - a := by omega
        have HNn := hid hn
        clear hn
        go_upto_region 6 with fail
        go_cut [11] (fun s11 wx => s11 = .int .i64 n ∧ wx = w5)
        case first =>
          go_wp2_with fail
          all_goals go_meet
          all_goals refine ⟨?_, rfl⟩
          all_goals rw [← HNn.out]
          all_goals congr 1
          all_goals first
            | omega
            | (split at h <;> first | omega | (split <;> omega))
            | (split <;> first | omega | (split at h <;> omega))
        case rest =>
          obtain ⟨rfl, rfl⟩ := hcut
          have hF1 : F.length ≤ 100000000 := by have := HF.out.len; omega
          obtain ⟨i0, hi0, hz0, hz1, hz2⟩ := info_parts fill_info
          have HO1 := hid (World.ownsRow.alloc (show wc.ownsRow 0 96 4 (.slice Af F.length c) F.length (flat encFl F) from HR5.out.row) (.cells #[.int .i64 x.id, .int .i64 y.id, .int .i64 p, .int .i64 n] 96))
          go_upto_region 8 with (at_builtin; refine wpList_append_lies _ rfl _ _ 34 rfl 0 96 i0 _ 4 32 Tryz.underlying34 hi0 hz0 hz1 hz2 rfl (by omega) (.slice Af F.length c) F.length _ rfl HO1.out ⟨wc.heap.size, 0, none⟩ 1 1 [.int .i64 x.id, .int .i64 y.id, .int .i64 p, .int .i64 n] rfl rfl (World.news_of_block (cs := #[.int .i64 x.id, .int .i64 y.id, .int .i64 p, .int .i64 n]) (t := 96) (fr := (0, 0)) (heap_alloc_new wc _)) (by simp [Value.oneCell']) (by omega) (by unfold maxLen; omega) (by omega) (by simp) (wc.heap.size + 1) (by simp) ?_; intro gg cap w6 hown hgrow hat6 hlt6)
          have hk6 := keeps_of_new hgrow
          rw [own_slice] at hk6 hat6
          have hR6 := HR5.out.fill (f := ⟨x.id, y.id, p, n⟩) hk6 hown (hat6.imp id (fun e => by omega))
          have nB1 : ¬ blkOf Af = some B1 := fun e => by have h1 := HAf.out _ e; have h2 := HB1.out; omega
          have nB2 : ¬ blkOf Af = some B2 := fun e => by have h1 := HAf.out _ e; have h2 := HB2.out; omega
          have z0 : w6.cell? ⟨B1, 0, none⟩ = some (.int .i64 x.id) := (hk6.cell (p := ⟨B1, 0, none⟩) hl1 nB1).trans x0
          have z1 : w6.cell? ⟨B2, 0, none⟩ = some (.int .i64 y.id) := (hk6.cell (p := ⟨B2, 0, none⟩) hl2 nB2).trans y0
          have hl6 : B2 < w6.heap.size := Nat.lt_of_lt_of_le hl2 hk6.size
          have hwB : B2 ≠ B := by have h1 := HB2.out; have h2 := HR5.out.blt; have h3 := HWr.out; omega
          rw [← HM1.out, ← HM2.out] at hR6
          obtain ⟨c1, c2, c3⟩ := cut_first hR6.lists Hq1.out ha0 Hx0.out hn1 hnx
          have hcut1 := hR6.twin.cutS_ hR6.lists c1 hn1 hnx
          rw [c2, c3] at hcut1
          have hca := rcut_any w6 B t _ o0 A' M hR6.ref (by have := hR6.few; omega) x.id n hR6.qtys
          rw [hcut1.1] at hca
          have HCa := hid hca
          have HR6 := hid hR6
          have HTw := hid hcut1.2
          have HFn := hid (HF.out.step Hq1.out Hq2.out Hd1.out Hd2.out ha0 Hx0.out Hy0.out hn1 hnx hny)
          have HXn := hid (HX.out.step HF.out.sum (z := ⟨x.id, y.id, p, n⟩) (by rw [Hx0.out, Hy0.out]; exact HNn.out.symm) (by rw [Hx0.out]; rfl) (by rw [Hy0.out]; rfl))
          have HwB := hid hwB
          clear hk6 hown hgrow hat6 hlt6 hR6 nB1 nB2 c1 c2 c3 hca hcut1 x0 x4 y0 y4 HO1 HR5 HX5 HY5 HF HX hl1 hl2 hi0 hz0 hz1 hz2 hxq hyq hwB
          go_wp2_with fail
          refine HCa.out.mono ?_
          rintro e w7 ⟨rfl, hto⟩
          obtain ⟨A2, c2', hR7, hk7⟩ := HR6.out.cut hto HTw.out (Nat.le_trans (rcutL_len _ _ _) HR6.out.few)
          have z2 : w7.cell? ⟨B2, 0, none⟩ = some (.int .i64 y.id) := (hk7.cell (p := ⟨B2, 0, none⟩) hl6 HwB.out).trans z1
          obtain ⟨c1, c2, c3⟩ := cut_second hR7.lists Hq2.out ha0 Hy0.out hn1 hny
          have hcut2 := hR7.twin.cutS_ hR7.lists c1 hn1 hny
          rw [c2, c3] at hcut2
          have hca := rcut_any w7 B t _ o0 A2 _ hR7.ref (by have := hR7.few; omega) y.id n hR7.qtys
          rw [hcut2.1] at hca
          have HCb := hid hca
          have HR7 := hid hR7
          have HTw2 := hid hcut2.2
          clear hto hk7 hR7 c1 c2 c3 hca hcut2 z0 z1 HCa HR6 HTw
          go_wp2_with fail
          refine HCb.out.mono ?_
          rintro e w8 ⟨rfl, hto⟩
          obtain ⟨A3, c3', hR8, -⟩ := HR7.out.cut hto HTw2.out (Nat.le_trans (rcutL_len _ _ _) HR7.out.few)
          have HR8 := hid hR8
          have i1 : RowKit.wrap64 (q - a - n) = q - (a + n) := by unfold RowKit.wrap64; omega
          clear hto hR8 z2 HCb HR7 HTw2
          go_wp2_with fail
          go_roundg (q - (a + n)).toNat
          case measure => omega
          case rel => exact ⟨a + n, F ++ [⟨x.id, y.id, p, n⟩], _, cap, A3, c3', _, by omega, by omega, rfl, by congr 1 <;> omega, by simp, HFn, HXn, HR8⟩
    · obtain rfl : a = q := by omega
      have d3 : decide (0 < a - a) = false := decF (by omega)
      go_wp2_with fail
      refine bodyPost_ret (results_tmp2 rfl _ _ _) rfl ?_
      exact ⟨F, Af, c, A', c', M, rfl, HF.out, HX.out, HR.out⟩
end Go.Proofs.YtkcgchpbjegneaaGreatDoor
namespace Go.Proofs.YtkcgchpbjegneaaGreatDoor
open Go.RowKit
set_option linter.unusedVariables false

set_option maxRecDepth 100000 in
set_option maxHeartbeats 4000000 in
theorem crossFills_law (A : Option Addr) (len cap : Nat) (l : List Ord5) (p q : Int) (w : World) (h : ElemsAt w encO 5 A len l) (hm : len ≤ 9223372036854775807) (hf : ∀ x ∈ l, FitO x) (hE : ErrType w) :
    Calls Tryz.prog 4 #[.slice A len cap, .int .i64 p, .int .i64 q] w fun e w' => e = .returned (.bool true) ∧ Below w.heap.size w w' := by
  by_cases hbig : 100 < len
  · have hz : (100 : Int) < (len : Int) := by omega
    go_enter Tryz.func4, Tryz.ntmps4
    go_wp2
    go_ret
    exact ⟨rfl, Below.refl _ _⟩
  · have hz : ¬ (100 : Int) < (len : Int) := by omega
    have HLd := hid (laid_any A len cap l w h (by omega) hf)
    have HE := hid hE
    clear h hf hE
    go_enter Tryz.func4, Tryz.ntmps4
    go_wp2_with fail
    refine HLd.out.mono ?_
    rintro e w1 ⟨b, B, rfl, G, cs, A0, L, L1, L2, hd, ht⟩
    have HD := hid hd
    have HT := hid ht
    have hlist := hd.book.lists
    have hsm := ht.small hlist
    have HSm := hid hsm
    clear hd ht hlist hsm HLd
    by_cases hw : 1 ≤ q ∧ q ≤ wantL 1 p L1 ∧ q ≤ wantL 2 p L2
    · have HRf := hid (rfills_any w1 B _ cs 0 A0 L L1 L2 HD.out.ref HT.out HSm.out p q hw.1 hw.2.1 hw.2.2)
      have HW := hid hw
      clear hw
      go_wp2_with fail
      refine HRf.out.mono ?_
      rintro e w2 ⟨F, Af, c, A', c', M, rfl, hok, hmax, hr⟩
      have hb2 := HD.out.book.keeps hr.keep (fun i hi e => HD.out.ap (e ▸ hi))
      have HCf := hid (crossFills_any bookCut_any w2 b G L1 L2 hb2 p q HW.out.1 HW.out.2.1 HW.out.2.2)
      have HR := hid hr
      have HOk := hid hok
      have HMax := hid hmax
      have HBel := hid (HD.out.bel.trans (hr.keep.below (fun i e => e ▸ HD.out.bb) HD.out.bel.size))
      clear hok hmax hr hb2 HRf
      go_wp2_with fail
      refine HCf.out.mono ?_
      rintro e w3 ⟨F', A2, c2, G', rfl, hok2, hmax2, hc⟩
      obtain rfl : F = F' := fills_one HMax.out hmax2 (fun f hf => ⟨(HOk.out.one f hf).1, (HOk.out.one f hf).2.1⟩) (fun f hf => ⟨(hok2.one f hf).1, (hok2.one f hf).2.1⟩) HOk.out.sum hok2.sum
      have hfp : ∀ {i : Nat}, G i → i < w1.heap.size := fun hi => HD.out.book.fp hi
      have hrow : RowAt w3 Af F.length c 96 4 (flat encFl F) := HR.out.row.keeps hc.step.1 (fun g hg hG => by have := (HR.out.fp g hg).1; have := hfp hG; omega)
      have href := HR.out.ref.keeps hc.step.1 HD.out.ap (fun g hg hG => by
        rcases HR.out.grow g hg with h1 | h1
        · exact HD.out.aa g h1 hG
        · have := hfp hG; omega)
      have hbel : Below w.heap.size w w3 := HBel.out.trans (hc.step.1.below (fun i hi => HD.out.gb i hi) HBel.out.size)
      have HS := hid (fun W (hW : Below w3.heap.size w3 W) => same_any W b B G' M _ _ _ _ _ (hc.book.below hW) (href.below hW) HR.out.twin (HE.out.below (hbel.trans (hW.mono hbel.size)) (Nat.le_refl _)))
      have hlen : F.length ≤ 1000000000 := by
        have h1 := HOk.out.len
        have h2 := wantL_bound (s := 1) (p := p) (L := L1) (fun o ho => (HD.out.book.lists.ok o (List.mem_append_left _ ho)).2.2.2)
        have h3 := HD.out.book.lists.cnt
        have h4 := HW.out.2.1
        rw [List.length_append] at h3
        omega
      have HSf := hid (fun W (hW : Below w3.heap.size w3 W) => sameFills_any A2 Af F.length c2 c F W ((ElemsAt.of_row encFl_length (by omega) hc.row).below hW (Nat.le_refl _)) ((ElemsAt.of_row encFl_length (by omega) hrow).below hW (Nat.le_refl _)) hlen)
      have HBel3 := hid hbel
      clear hok2 hmax2 hc hrow href hbel hlen HCf HR HOk HMax HBel
      obtain ⟨n, hn⟩ : ∃ n, F.length = n := ⟨_, rfl⟩
      rw [hn] at HSf ⊢
      clear hn
      have HBa := hid (bare_same 0 w3 (HE.out.below HBel3.out (Nat.le_refl _)))
      rw [errV_zero] at HBa
      go_wp2_with fail
      refine HBa.out.mono ?_
      rintro e w4 ⟨rfl, hb4⟩
      have H4 := hid hb4
      have HSf4 := hid (HSf.out w4 hb4)
      clear hb4
      go_wp2_with fail
      refine HSf4.out.mono ?_
      rintro e w5 ⟨rfl, hb5⟩
      have hb5' := H4.out.trans (hb5.mono H4.out.size)
      have HS5 := hid (HS.out w5 hb5')
      have HB5 := hid (HBel3.out.trans (hb5'.mono HBel3.out.size))
      clear hb5 hb5' H4 HSf4 HSf HS
      go_wp2_with fail
      refine HS5.out.mono ?_
      rintro e w6 ⟨rfl, hb6⟩
      have hb7 := HB5.out.trans (hb6.mono HB5.out.size)
      go_wp2_with fail
      go_ret
      exact ⟨rfl, hb7⟩
    · have HRf := hid (rfills_bad w1 B _ cs 0 A0 L L1 L2 HD.out.ref HT.out HSm.out p q hw)
      have HW := hid hw
      clear hw
      go_wp2_with fail
      refine HRf.out.mono ?_
      rintro e w2 ⟨rfl, hb2⟩
      have hd2 := HD.out.below hb2
      have HCf := hid (crossFills_bad w2 b G L1 L2 hd2.book p q HW.out)
      have HD2 := hid hd2
      clear hb2 hd2 HRf
      go_wp2_with fail
      refine HCf.out.mono ?_
      rintro e w3 ⟨rfl, hb3⟩
      have hd3 := HD2.out.below hb3
      have HS := hid (fun W (hW : Below w3.heap.size w3 W) => same_any W b B G L _ _ _ _ _ (hd3.book.below hW) (hd3.ref.below hW) HT.out (HE.out.below (hd3.bel.trans (hW.mono hd3.bel.size)) (Nat.le_refl _)))
      have HSf := hid (fun W => sameFills_any none none 0 0 0 [] W ⟨rfl, fun h => absurd h (by simp)⟩ ⟨rfl, fun h => absurd h (by simp)⟩ (by omega))
      have HBel3 := hid hd3.bel
      have HBa := hid (bare_same 2 w3 (HE.out.below HBel3.out (Nat.le_refl _)))
      clear hb3 hd3 HD2 HCf
      go_wp2_with fail
      refine HBa.out.mono ?_
      rintro e w4 ⟨rfl, hb4⟩
      have H4 := hid hb4
      have HSf4 := hid (HSf.out w4)
      clear hb4
      go_wp2_with fail
      refine HSf4.out.mono ?_
      rintro e w5 ⟨rfl, hb5⟩
      have hb5' := H4.out.trans (hb5.mono H4.out.size)
      have HS5 := hid (HS.out w5 hb5')
      have HB5 := hid (HBel3.out.trans (hb5'.mono HBel3.out.size))
      clear hb5 hb5' H4 HSf4 HSf HS
      go_wp2_with fail
      refine HS5.out.mono ?_
      rintro e w6 ⟨rfl, hb6⟩
      have hb7 := HB5.out.trans (hb6.mono HB5.out.size)
      go_wp2_with fail
      go_ret
      exact ⟨rfl, hb7⟩
end Go.Proofs.YtkcgchpbjegneaaGreatDoor
namespace Go.Proofs.YtkcgchpbjegneaaGreatDoor
open Go.RowKit

theorem crossFills_rows {W : World} {A : Option Addr} {len cap : Nat} {rows : List (List Int)} (h : RowsAt W 5 A len cap rows) (p q : Int) (hE : ErrType W) :
    Calls Tryz.prog 4 #[.slice A len cap, .int .i64 p, .int .i64 q] W fun e w' => e = .returned (.bool true) ∧ Below W.heap.size W w' :=
  crossFills_law A len cap (ordsOf rows) p q W (ords_of_rows h) (by obtain ⟨_, h1, h2, _⟩ := h; unfold maxLen at h2; omega) (ords_fit h) hE
end Go.Proofs.YtkcgchpbjegneaaGreatDoor
namespace Go.Proofs.YtkcgchpbjegneaaGreatDoor
open Go.ChangeShapes Go.WideShapes Go.RowKit

theorem et : Tryz.prog.globalNamed "errors.errorType" = some 0 := by kernel_rfl
theorem rt : (Tryz.prog.cutTypes.find? (·.1 == "internal/reflectlite.rtype")).map (·.2) = some 239 := by kernel_rfl
theorem oneRow : ((List.range 321).filter fun t => Tryz.prog.rowNamed t [101, 114, 114, 111, 114]) = [45] := by kernel_rfl
theorem typesSize : Tryz.prog.types.size = 321 := by kernel_rfl

theorem errType_of_laid {W : World} (h : laidMetH Tryz.prog [("errors.errorType", Rows.laid_errors_errorType)] W) : ErrType W := by
  have h' : laidMet Tryz.prog [] W ∧ handlesMet Tryz.prog [("errors.errorType", Rows.laid_errors_errorType)] W := h
  obtain ⟨name, u, ty, e1, e2, e3, e4, e5⟩ := h'.2 _ (List.mem_singleton.2 rfl)
  have en : name = [101, 114, 114, 111, 114] := (Option.some.inj e1).symm
  subst en
  obtain rfl := Option.some.inj (rt.symm.trans e2)
  have hm : ty ∈ (List.range 321).filter fun t => Tryz.prog.rowNamed t [101, 114, 114, 111, 114] := List.mem_filter.2 ⟨List.mem_range.2 (by rw [← typesSize]; exact e3), e4⟩
  rw [oneRow] at hm
  obtain rfl := List.mem_singleton.1 hm
  have hh : typeHandle Tryz.prog 45 = .pointer (some ⟨1, 45, none⟩) := by kernel_rfl
  rw [hh] at e5
  have := World.var?_cell et e5 0
  simpa [ErrType] using this

/-- A world that meets the condition: the settled one, the variable's cell laid. -/
noncomputable def laidWorld (os : Os) : World :=
  let w0 := World.holding Tryz.prog os ⟨#[], #[], []⟩
  { w0 with heap := w0.heap.modify 0 fun
      | .cells _ t frozen => .cells #[.iface 239 (.agg #[.pointer (some ⟨1, 45, none⟩)])] t frozen
      | o => o }
theorem laidWorld_met (os : Os) (args : Array Value) : laidMetH Tryz.prog [("errors.errorType", Rows.laid_errors_errorType)] ((laidWorld os).forCall (fun _ _ => 0) ⟨#[], args, []⟩).memory :=
  laidMetH_of_parts (laidMet_nil _ _) (by kernel_rfl)
end Go.Proofs.YtkcgchpbjegneaaGreatDoor
