/-
  The walk of cross.Fills, where so many lots want to trade: who trades.
-/
import Derived.WalkKit
import Derived.WalkLawsBesides
import Derived.WalkSpells
import Derived.Deep.LoopGhost
import Derived.Deep.DeepCutAuto
import Derived.Deep.CutBlock
import Derived.Deep.AppendLies
import Derived.Test.YteggaehelnmhnaaCrossW
import Derived.Test.YteggaehelnmhnaaBookCutP
namespace Go.Proofs.Yteggaehelnmhnaa
open Go.RowKit
set_option linter.unusedVariables false

def encFl (f : Fill4) : List Value := [.int .i64 f.b, .int .i64 f.s, .int .i64 f.p, .int .i64 f.n]
theorem encFl_length (f : Fill4) : (encFl f).length = 4 := rfl
theorem fill_info : (Try.prog.info? 46).map (fun i => (i.zero, i.size, i.bytes)) = some (some (.agg #[.int .i64 0, .int .i64 0, .int .i64 0, .int .i64 0]), 4, 32) := by kernel_rfl

def headQ : List Ord5 → Int
  | [] => 0
  | o :: _ => o.qty
/-- each trade takes as much as may be -/
def FillsMax (t : Int) (L1 L2 : List Ord5) (F : List Fill4) : Prop :=
  ∀ F1 f F2, F = F1 ++ f :: F2 → f.n = min (t - sumN (·.n) F1) (min (headQ (dropQ L1 (sumN (·.n) F1))) (headQ (dropQ L2 (sumN (·.n) F1))))
theorem FillsMax.start (t : Int) (L1 L2 : List Ord5) : FillsMax t L1 L2 [] := fun F1 f F2 h => by cases F1 <;> cases h
theorem FillsMax.step {t : Int} {L1 L2 : List Ord5} {F : List Fill4} (h : FillsMax t L1 L2 F) {a : Int} (ha : sumN (·.n) F = a) {z : Fill4} (hz : z.n = min (t - a) (min (headQ (dropQ L1 a)) (headQ (dropQ L2 a)))) : FillsMax t L1 L2 (F ++ [z]) := by
  intro F1 f F2 e
  rcases List.eq_nil_or_concat F2 with rfl | ⟨F3, y, rfl⟩
  · have e' := List.append_inj' e rfl
    obtain ⟨rfl, e2⟩ := e'
    cases e2
    rw [ha]
    exact hz
  · rw [List.concat_eq_append] at e
    have e3 : F1 ++ f :: (F3 ++ [y]) = (F1 ++ f :: F3) ++ [y] := by simp
    rw [e3] at e
    have e' := List.append_inj' e rfl
    exact h F1 f F3 e'.1

theorem getI_mem {L : List Ord5} (hn : (L.map (·.id)).Nodup) {o : Ord5} (ho : o ∈ L) : getI L o.id = some o := by
  unfold getI
  cases hf : L.find? (fun x => x.id == o.id) with
  | none =>
    rw [List.find?_eq_none] at hf
    have := hf o ho
    simp at this
  | some x =>
    have h1 := List.mem_of_find?_eq_some hf
    have h2 := List.find?_some hf
    have h3 : x.id = o.id := by simpa using h2
    rw [nodup_map_inj (g := fun x : Ord5 => x.id) hn h1 ho h3]

/-- while it is traded -/
structure CrossM (w wr : World) (b : Nat) (G G' : Nat → Prop) (M1 M2 : List Ord5) (A : Option Addr) (c : Nat) (F : List Fill4) : Prop where
  book : BookAt wr b G' M1 M2
  step : BStep w wr G G'
  row : RowAt wr A F.length c 46 4 (flat encFl F)
  fpA : ∀ g, blkOf A = some g → ¬ G' g ∧ w.heap.size ≤ g
section
variable {w wr w' : World} {b : Nat} {G G' : Nat → Prop} {M1 M2 : List Ord5} {A : Option Addr} {c : Nat} {F : List Fill4}
theorem CrossM.below (h : CrossM w wr b G G' M1 M2 A c F) (hb : Below wr.heap.size wr w') : CrossM w w' b G G' M1 M2 A c F :=
  ⟨h.book.below hb, h.step.trans (BStep.of_below hb), h.row.below hb, h.fpA⟩
theorem CrossM.fill {f : Fill4} {gg cap : Nat} (h : CrossM w wr b G G' M1 M2 A c F) (hk : Keeps (fun i => blkOf A = some i) wr w') (ho : w'.ownsRow 0 46 4 (.slice (some ⟨gg, 0, none⟩) (F.length + 1) cap) (F.length + 1) (flat encFl F ++ encFl f)) (hat : blkOf A = some gg ∨ wr.heap.size ≤ gg) :
    CrossM w w' b G G' M1 M2 (some ⟨gg, 0, none⟩) cap (F ++ [f]) := by
  refine ⟨h.book.keeps hk (fun i hi e => (h.fpA i e).1 hi), ⟨h.step.1.trans hk (fun i hi => .inr (h.fpA i hi).2), h.step.2⟩, ?_, fun g hg => ?_⟩
  · show w'.ownsRow 0 46 4 _ _ _
    rw [flat_snoc, List.length_append]
    exact ho
  · have e : gg = g := by simpa [blkOf] using hg
    subst e
    rcases hat with h1 | h1
    · exact h.fpA _ h1
    · refine ⟨fun hG => ?_, ?_⟩
      · have := h.book.fp hG; omega
      · exact Nat.le_trans h.step.1.size h1
theorem CrossM.turn {M1' M2' : List Ord5} (h : CrossM w wr b G G' M1 M2 A c F) (hb : BookTo wr w' b G' M1' M2') : ∃ G'', CrossM w w' b G G'' M1' M2' A c F ∧ Keeps G' wr w' := by
  obtain ⟨G'', hA, hS⟩ := hb
  refine ⟨G'', ⟨hA, h.step.trans hS, h.row.keeps hS.1 (fun g hg => (h.fpA g hg).1), fun g hg => ⟨fun hG => ?_, (h.fpA g hg).2⟩⟩, hS.1⟩
  rcases hS.2 g hG with h1 | h1
  · exact (h.fpA g hg).1 h1
  · have := h.row.lt hg; omega
end
abbrev CrossAt (w wr : World) (b : Nat) (G G' : Nat → Prop) (L1 L2 : List Ord5) (a : Int) (A : Option Addr) (c : Nat) (F : List Fill4) : Prop := CrossM w wr b G G' (dropQ L1 a) (dropQ L2 a) A c F

theorem keeps_of_new {w2 w3 : World} {o : Obj} {row : Option Nat} (h : (w2.alloc o).grownBy w3 row) : Keeps (fun i => row = some i) w2 w3 := okeeps_of_grown ⟨h.os, h.tape, h.output, h.size, h.block⟩
theorem ids_parts {L1 L2 : List Ord5} (h : ListsOk L1 L2) : (L1.map (·.id)).Nodup ∧ (L2.map (·.id)).Nodup ∧ ∀ x ∈ L1, ∀ y ∈ L2, x.id ≠ y.id := by
  have h1 := h.ids
  rw [List.map_append, List.nodup_append] at h1
  exact ⟨h1.1, h1.2.1, fun x hx y hy => h1.2.2 _ (List.mem_map.2 ⟨x, hx, rfl⟩) _ (List.mem_map.2 ⟨y, hy, rfl⟩)⟩
theorem cut_first {L1 : List Ord5} {x : Ord5} {t R2 : List Ord5} {a n : Int} (h : ListsOk (dropQ L1 a) R2) (hq : ∀ o ∈ L1, 1 ≤ o.qty) (h0 : 0 ≤ a) (hx : dropQ L1 a = x :: t) (h1 : 1 ≤ n) (h2 : n ≤ x.qty) :
    getI (dropQ L1 a ++ R2) x.id = some x ∧ cutS (dropQ L1 a) x n = dropQ L1 (a + n) ∧ cutS R2 x n = R2 := by
  obtain ⟨d1, d2, d3⟩ := ids_parts h
  have hm : x ∈ dropQ L1 a := by rw [hx]; simp
  refine ⟨getI_mem h.ids (List.mem_append_left _ hm), ?_, cutS_other fun y hy => fun e => d3 x hm y hy e.symm⟩
  rw [← dropQ_step hq h0 hx h1 h2, hx]
  rw [hx, List.map_cons, List.nodup_cons] at d1
  exact cutS_head fun y hy e => d1.1 (List.mem_map.2 ⟨y, hy, e⟩)
theorem cut_second {L2 : List Ord5} {y : Ord5} {u R1 : List Ord5} {a n : Int} (h : ListsOk R1 (dropQ L2 a)) (hq : ∀ o ∈ L2, 1 ≤ o.qty) (h0 : 0 ≤ a) (hy : dropQ L2 a = y :: u) (h1 : 1 ≤ n) (h2 : n ≤ y.qty) :
    getI (R1 ++ dropQ L2 a) y.id = some y ∧ cutS (dropQ L2 a) y n = dropQ L2 (a + n) ∧ cutS R1 y n = R1 := by
  obtain ⟨d1, d2, d3⟩ := ids_parts h
  have hm : y ∈ dropQ L2 a := by rw [hy]; simp
  refine ⟨getI_mem h.ids (List.mem_append_right _ hm), ?_, cutS_other fun x hx => d3 x hx y hm⟩
  rw [← dropQ_step hq h0 hy h1 h2, hy]
  rw [hy, List.map_cons, List.nodup_cons] at d2
  exact cutS_head fun y hy e => d2.1 (List.mem_map.2 ⟨y, hy, e⟩)

/-- what Fills leaves -/
def FillsDone (w w' : World) (b : Nat) (G : Nat → Prop) (L1 L2 : List Ord5) (p t : Int) (e : Ending) : Prop :=
  ∃ F A c G', e = .returned (.tuple #[.slice A (List.length F) c, .nilIface]) ∧ FillsOk L1 L2 p t F ∧ FillsMax t L1 L2 F ∧ CrossAt w w' b G G' L1 L2 t A c F

set_option maxRecDepth 100000 in
set_option maxHeartbeats 8000000 in
theorem crossFills_any (hcut : CutSaid) (w : World) (b : Nat) (G : Nat → Prop) (L1 L2 : List Ord5) (h : BookAt w b G L1 L2) (p t : Int) (ht : 1 ≤ t) (hw1 : t ≤ wantL 1 p L1) (hw2 : t ≤ wantL 2 p L2) :
    Calls Try.prog 12 #[.pointer (some ⟨b, 0, none⟩), .int .i64 p, .int .i64 t] w fun e w' => FillsDone w w' b G L1 L2 p t e := by
  have hl := h.lists
  have hq1 : ∀ o ∈ L1, 1 ≤ o.qty := fun o ho => (hl.ok o (List.mem_append_left _ ho)).2.2.2.1
  have hq2 : ∀ o ∈ L2, 1 ≤ o.qty := fun o ho => (hl.ok o (List.mem_append_right _ ho)).2.2.2.1
  have ha1 : t ≤ allQ L1 := Int.le_trans hw1 (wantL_all hq1)
  have ha2 : t ≤ allQ L2 := Int.le_trans hw2 (wantL_all hq2)
  have htb : t ≤ 100000000 := by
    have h1 := wantL_bound (s := 1) (p := p) (L := L1) (fun o ho => (hl.ok o (List.mem_append_left _ ho)).2.2.2)
    have h2 := hl.cnt
    rw [List.length_append] at h2
    omega
  obtain ⟨dd1, dd2, -⟩ := ids_parts hl
  have HC1 := hid (crossWilling_any w b G L1 L2 h 1 p Is12_1)
  rw [show sideL 1 L1 L2 = L1 from rfl] at HC1
  have HAt := hid h
  have HCut := hid hcut
  have Hq1 := hid hq1
  have Hq2 := hid hq2
  have Hd1 := hid dd1
  have Hd2 := hid dd2
  obtain ⟨q1, hq1'⟩ : ∃ q, wantL 1 p L1 = q := ⟨_, rfl⟩
  obtain ⟨q2, hq2'⟩ : ∃ q, wantL 2 p L2 = q := ⟨_, rfl⟩
  rw [hq1'] at HC1 hw1
  rw [hq2'] at hw2
  have HQ2 := hid hq2'
  have d0 : decide (t < 1) = false := decF (by omega)
  have d1 : decide (q1 < t) = false := decF (by omega)
  have d2 : decide (q2 < t) = false := decF (by omega)
  clear h hcut hl hq1 hq2 dd1 dd2 hq1' hq2' hw1 hw2
  go_enter Try.func12, Try.ntmps12
  go_wp2_with fail
  refine HC1.out.mono ?_
  rintro e w1 ⟨rfl, hb1⟩
  have hat1 := HAt.out.below hb1
  have hc2 := crossWilling_any w1 b G L1 L2 hat1 2 p Is12_2
  rw [show sideL 2 L1 L2 = L2 from rfl, HQ2.out] at hc2
  have HC2 := hid hc2
  have HB1 := hid hb1
  have HAt1 := hid hat1
  clear hb1 hat1 hc2 HC1
  go_wp2_with fail
  refine HC2.out.mono ?_
  rintro e w2 ⟨rfl, hb2⟩
  have hB := HB1.out.trans (hb2.mono HB1.out.size)
  have HST := hid (show CrossAt w w2 b G G L1 L2 0 none 0 [] from ⟨by rw [dropQ_zero _ (Int.le_refl _), dropQ_zero _ (Int.le_refl _)]; exact HAt1.out.below hb2, BStep.of_below hB, World.ownsRow_nil _ _ _ _, fun g hg => by simp [blkOf] at hg⟩)
  clear hb2 hB HC2 HB1 HAt1 HAt
  go_wp2_with fail
  go_loopg [2, 8] t.toNat (fun g s2 s8 wr => ∃ (a : Int) (F : List Fill4) (A : Option Addr) (c : Nat) (G' : Nat → Prop), 0 ≤ a ∧ a ≤ t ∧ g = (t - a).toNat ∧ s2 = .int .i64 (t - a) ∧ s8 = .slice A F.length c ∧ Hid (FillsOk L1 L2 p a F) ∧ Hid (FillsMax t L1 L2 F) ∧ Hid (CrossAt w wr b G G' L1 L2 a A c F))
  case atStart => exact ⟨0, [], none, 0, G, Int.le_refl _, by omega, by simp, by simp, rfl, hid (FillsOk.start Hq1.out Hq2.out), hid (FillsMax.start t L1 L2), HST⟩
  case round =>
    obtain ⟨a, F, A, c, G', ha0, hat, rfl, rfl, rfl, HF, HX, HR⟩ := hrel
    clear HST
    by_cases hlt : a < t
    · have d3 : decide (0 < t - a) = true := decT (by omega)
      obtain ⟨x, t1, hx⟩ : ∃ x t1, dropQ L1 a = x :: t1 := by
        cases hd : dropQ L1 a with
        | nil => exact absurd hd (dropQ_ne ha0 (by omega))
        | cons x t1 => exact ⟨x, t1, rfl⟩
      obtain ⟨y, u1, hy⟩ : ∃ y u1, dropQ L2 a = y :: u1 := by
        cases hd : dropQ L2 a with
        | nil => exact absurd hd (dropQ_ne ha0 (by omega))
        | cons y u1 => exact ⟨y, u1, rfl⟩
      have hbest := bookBest_any wr b G' _ _ HR.out.book 1 Is12_1
      rw [show bestO (sideL 1 (dropQ L1 a) (dropQ L2 a)) = x by rw [hx]; rfl, show bestE (sideL 1 (dropQ L1 a) (dropQ L2 a)) = 0 by rw [hx]; rfl, errV_zero] at hbest
      unfold aggO at hbest
      have HB1 := hid hbest
      have Hx := hid hx
      have Hy := hid hy
      clear hbest hx hy
      go_wp2_with fail
      refine HB1.out.mono ?_
      rintro e w3 ⟨hb3, rfl⟩
      have hAB : ∀ g, blkOf A = some g → g < w3.heap.size := fun g hg => Nat.lt_of_lt_of_le (HR.out.row.lt hg) hb3.size
      have HAB := hid hAB
      have hR3 := HR.out.below (hb3.alloc hb3.size (.cells #[.int .i64 x.id, .int .i64 x.side, .int .i64 x.kind, .int .i64 x.price, .int .i64 x.qty] 37))
      have hbest := bookBest_any _ b G' _ _ hR3.book 2 Is12_2
      rw [show bestO (sideL 2 (dropQ L1 a) (dropQ L2 a)) = y by rw [Hy.out]; rfl, show bestE (sideL 2 (dropQ L1 a) (dropQ L2 a)) = 0 by rw [Hy.out]; rfl, errV_zero] at hbest
      unfold aggO at hbest
      have HB2 := hid hbest
      have HX3 := hid (Blk.new w3 37 #[.int .i64 x.id, .int .i64 x.side, .int .i64 x.kind, .int .i64 x.price, .int .i64 x.qty])
      have HR3 := hid hR3
      clear hbest hb3 hR3 HB1 HR hAB
      go_wp2_with fail
      refine HB2.out.mono ?_
      rintro e w4 ⟨hb4, rfl⟩
      have hX4 := Blk.alloc (Blk.keep HX3.out hb4) (.cells #[.int .i64 y.id, .int .i64 y.side, .int .i64 y.kind, .int .i64 y.price, .int .i64 y.qty] 37)
      have hY4 := Blk.new w4 37 #[.int .i64 y.id, .int .i64 y.side, .int .i64 y.kind, .int .i64 y.price, .int .i64 y.qty]
      have hR4 := HR3.out.below (hb4.alloc hb4.size (.cells #[.int .i64 y.id, .int .i64 y.side, .int .i64 y.kind, .int .i64 y.price, .int .i64 y.qty] 37))
      have hne : w3.heap.size < w4.heap.size := by have := hb4.size; simp at this; omega
      have hG2 : ¬ G' w4.heap.size := fun hG => by have h1 := HR3.out.book.fp hG; have h2 := hb4.size; omega
      obtain ⟨B1, hB1⟩ : ∃ B1, w3.heap.size = B1 := ⟨_, rfl⟩
      obtain ⟨B2, hB2⟩ : ∃ B2, w4.heap.size = B2 := ⟨_, rfl⟩
      obtain ⟨w5, hw5⟩ : ∃ w5, w4.alloc (.cells #[.int .i64 y.id, .int .i64 y.side, .int .i64 y.kind, .int .i64 y.price, .int .i64 y.qty] 37) = w5 := ⟨_, rfl⟩
      rw [hB1] at hX4 hne HAB ⊢
      rw [hw5, hB2] at hY4
      rw [hw5] at hX4 hR4
      rw [hB2] at hne hG2
      have HX5 := hid hX4
      have HY5 := hid hY4
      have HR5 := hid hR4
      have HNe := hid hne
      have HG2 := hid hG2
      have hl1 := Blk.lt hX4
      have hl2 := Blk.lt hY4
      have x0 : w5.cell? ⟨B1, 0, none⟩ = some (.int .i64 x.id) := by rw [Blk.cell hX4]; rfl
      have x4 : w5.cell? ⟨B1, 4, none⟩ = some (.int .i64 x.qty) := by rw [Blk.cell hX4]; rfl
      have y0 : w5.cell? ⟨B2, 0, none⟩ = some (.int .i64 y.id) := by rw [Blk.cell hY4]; rfl
      have y4 : w5.cell? ⟨B2, 4, none⟩ = some (.int .i64 y.qty) := by rw [Blk.cell hY4]; rfl
      clear hX4 hY4 hR4 hne hG2 HX3 HR3 HB2 hb4 hB1
      obtain ⟨n, hn⟩ : ∃ n, min (t - a) (min x.qty y.qty) = n := ⟨_, rfl⟩
      have hxq : 1 ≤ x.qty := (HR5.out.book.lists.ok x (List.mem_append_left _ (by rw [Hx.out]; simp))).2.2.2.1
      have hyq : 1 ≤ y.qty := (HR5.out.book.lists.ok y (List.mem_append_right _ (by rw [Hy.out]; simp))).2.2.2.1
      have hn1 : 1 ≤ n := by omega
      have hnx : n ≤ x.qty := by omega
      have hny : n ≤ y.qty := by omega
      have hnt : n ≤ t - a := by omega
      have HN := hid hn
      clear hn
      go_upto_region 7 with fail
      go_cut [13] (fun s13 wx => s13 = .int .i64 n ∧ wx = w5)
      case first =>
        go_wp2_with fail
        all_goals go_meet
        all_goals refine ⟨?_, rfl⟩
        all_goals rw [← HN.out]
        all_goals congr 1
        all_goals first
          | omega
          | (split at h <;> first | omega | (split <;> omega))
          | (split <;> first | omega | (split at h <;> omega))
      case rest =>
        obtain ⟨rfl, rfl⟩ := hcut
        have hF1 : F.length ≤ 100000000 := by have := HF.out.len; omega
        obtain ⟨i0, hi0, hz0, hz1, hz2⟩ := info_parts fill_info
        have HO1 := hid (World.ownsRow.alloc (show wc.ownsRow 0 46 4 (.slice A F.length c) F.length (flat encFl F) from HR5.out.row) (.cells #[.int .i64 x.id, .int .i64 y.id, .int .i64 p, .int .i64 n] 46))
        go_upto_region 9 with (at_builtin; refine wpList_append_lies _ rfl _ _ 41 rfl 0 46 i0 _ 4 32 Try.underlying41 hi0 hz0 hz1 hz2 rfl (by omega) (.slice A F.length c) F.length _ rfl HO1.out ⟨wc.heap.size, 0, none⟩ 1 1 [.int .i64 x.id, .int .i64 y.id, .int .i64 p, .int .i64 n] rfl rfl (World.news_of_block (cs := #[.int .i64 x.id, .int .i64 y.id, .int .i64 p, .int .i64 n]) (t := 46) (fr := (0, 0)) (heap_alloc_new wc _)) (by simp [Value.oneCell']) (by omega) (by unfold maxLen; omega) (by omega) (by simp) (wc.heap.size + 1) (by simp) ?_; intro gg cap w6 hown hgrow hat6 hlt6)
        have hk6 := keeps_of_new hgrow
        rw [own_slice] at hk6 hat6
        have hR6 := HR5.out.fill (f := ⟨x.id, y.id, p, n⟩) hk6 hown (hat6.imp id (fun e => by omega))
        have nB1 : ¬ blkOf A = some B1 := fun e => by have := HAB.out _ e; omega
        have nB2 : ¬ blkOf A = some B2 := fun e => by have h1 := HAB.out _ e; have h2 := HNe.out; omega
        have z0 : w6.cell? ⟨B1, 0, none⟩ = some (.int .i64 x.id) := (hk6.cell (p := ⟨B1, 0, none⟩) hl1 nB1).trans x0
        have z1 : w6.cell? ⟨B2, 0, none⟩ = some (.int .i64 y.id) := (hk6.cell (p := ⟨B2, 0, none⟩) hl2 nB2).trans y0
        have hl6 : B2 < w6.heap.size := Nat.lt_of_lt_of_le hl2 hk6.size
        obtain ⟨c1, c2, c3⟩ := cut_first hR6.book.lists Hq1.out ha0 Hx.out hn1 hnx
        have hca := HCut.out w6 b G' _ _ hR6.book x.id n (by unfold Fit64; omega)
        have HCa := hid hca
        have HR6 := hid hR6
        have HC1 := hid c1
        have HC2 := hid c2
        have HC3 := hid c3
        have HFn := hid (HF.out.step Hq1.out Hq2.out Hd1.out Hd2.out ha0 Hx.out Hy.out hn1 hnx hny)
        have HXn := hid (HX.out.step HF.out.sum (z := ⟨x.id, y.id, p, n⟩) (by rw [Hx.out, Hy.out]; exact HN.out.symm))
        clear hk6 hown hgrow hat6 hlt6 hR6 nB1 nB2 c1 c2 c3 hca x0 x4 y0 y4 HO1 HR5 HX5 HY5 HF HX hl1 hl2 hi0 hz0 hz1 hz2 hxq hyq
        go_wp2_with fail
        refine HCa.out.mono ?_
        rintro e w7 (⟨h0, -, -⟩ | ⟨o, h0, -, -, rfl, hto⟩)
        · exfalso
          apply h0
          unfold cutE
          rw [HC1.out]
          exact if_neg (by omega)
        · rw [HC1.out] at h0
          obtain rfl := Option.some.inj h0
          rw [HC2.out, HC3.out] at hto
          obtain ⟨G2, hR7, hk7⟩ := HR6.out.turn hto
          have z2 : w7.cell? ⟨B2, 0, none⟩ = some (.int .i64 y.id) := (hk7.cell (p := ⟨B2, 0, none⟩) hl6 HG2.out).trans z1
          obtain ⟨c1, c2, c3⟩ := cut_second hR7.book.lists Hq2.out ha0 Hy.out hn1 hny
          have hca := HCut.out w7 b G2 _ _ hR7.book y.id n (by unfold Fit64; omega)
          have HCb := hid hca
          have HR7 := hid hR7
          have HD1 := hid c1
          have HD2 := hid c2
          have HD3 := hid c3
          clear hto hk7 hR7 c1 c2 c3 hca h0 z0 z1 HCa HR6 HC1 HC2 HC3
          go_wp2_with fail
          refine HCb.out.mono ?_
          rintro e w8 (⟨h0, -, -⟩ | ⟨o, h0, -, -, rfl, hto⟩)
          · exfalso
            apply h0
            unfold cutE
            rw [HD1.out]
            exact if_neg (by omega)
          · rw [HD1.out] at h0
            obtain rfl := Option.some.inj h0
            rw [HD2.out, HD3.out] at hto
            obtain ⟨G3, hR8, -⟩ := HR7.out.turn hto
            have HR8 := hid hR8
            have i1 : RowKit.wrap64 (t - a - n) = t - (a + n) := by unfold RowKit.wrap64; omega
            clear hto hR8 h0 z2 HCb HR7 HD1 HD2 HD3
            go_wp2_with fail
            go_roundg (t - (a + n)).toNat
            case measure => omega
            case rel => exact ⟨a + n, F ++ [⟨x.id, y.id, p, n⟩], _, cap, G3, by omega, by omega, rfl, by congr 1 <;> omega, by simp, HFn, HXn, HR8⟩
    · obtain rfl : a = t := by omega
      have d3 : decide (0 < a - a) = false := decF (by omega)
      go_wp2_with fail
      refine bodyPost_ret (results_tmp2 rfl _ _ _) rfl ?_
      exact ⟨F, A, c, G', rfl, HF.out, HX.out, HR.out⟩
end Go.Proofs.Yteggaehelnmhnaa
