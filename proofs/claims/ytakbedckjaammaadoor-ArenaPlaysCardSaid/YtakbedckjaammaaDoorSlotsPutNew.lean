/-
  The document's Slots: Put into a new slot.
-/
import Derived.WalkKit
import Derived.WalkLawsBesides
import Derived.WalkSpells
import Derived.Deep.AppendLies
import Derived.Deep.RegionLaw
import Derived.Deep.LoopGhost
import Derived.Deep.DeepCutAuto
import Derived.Deep.QuietTactic
import Derived.BigQuiet
import Derived.Test.YtakbedckjaammaaDoorSlotsPut
namespace Go.Proofs.YtakbedckjaammaaDoor
open Go.RowKit

theorem lastCell {w : World} {g n cap : Nat} {t : TypeId} {xs : List Value} {u : Value} (h : w.ownsRow 0 t 1 (.slice (some ⟨g, 0, none⟩) (n + 1) cap) (n + 1) (xs ++ [u])) : w.cell? ⟨g, n, none⟩ = some u := by
  have hl := h.1
  have := World.ownsRow.cellAt h n (by omega)
  rw [this]
  have e : xs.length = n := by simp at hl; omega
  rw [← e]
  simp
theorem keeps_of_grown2 {w2 w3 : World} {o o' : Obj} {row : Option Nat} (h : (((w2.alloc o).alloc o').drew).grownBy w3 row) : Keeps (fun i => row = some i) w2 w3 :=
  ⟨h.os, h.tape, h.output, by have := h.size; simp at this; omega, fun i hi hn => (h.block i (by simp; omega) (fun e => hn e.symm)).trans ((heap_alloc_old (w2.alloc o) o' (by simp; omega)).trans (heap_alloc_old w2 o hi))⟩
theorem keeps_of_grown3 {w2 w3 : World} {o o' : Obj} {row : Option Nat} (h : (((w2.alloc o).alloc o').drew.drew).grownBy w3 row) : Keeps (fun i => row = some i) w2 w3 := keeps_of_grown2 (o := o) (o' := o') ⟨h.os, h.tape, h.output, h.size, h.block⟩
theorem keeps_of_grown4 {w2 w3 : World} {o : Obj} {row : Option Nat} (h : ((w2.alloc o).drew.drew).grownBy w3 row) : Keeps (fun i => row = some i) w2 w3 := keeps_of_grown (o := o) ⟨h.os, h.tape, h.output, h.size, h.block⟩
theorem keeps_of_grown0 {w2 w3 : World} {row : Option Nat} (h : w2.grownBy w3 row) : Keeps (fun i => row = some i) w2 w3 :=
  ⟨h.os, h.tape, h.output, h.size, fun i hi hn => h.block i hi (fun e => hn e.symm)⟩
theorem keeps_of_grown1 {w2 w3 : World} {o : Obj} {row : Option Nat} (h : (w2.alloc o).grownBy w3 row) : Keeps (fun i => row = some i) w2 w3 := keeps_of_grown (undrawn h)

theorem rslotted {w w3 w4 : World} {r c e d n gt ct gg cg : Nat} {T G F : Option Addr} {ss : List SlotT} {most x : Int} (H : RefAt w r T c G e F d ss [] most) (hn : ss.length = n)
    (hK3 : Keeps (fun i => (Value.slice T n c).ownBlock = some i) w w3) (hT : w3.ownsRow 0 3 1 (.slice (some ⟨gt, 0, none⟩) (n + 1) ct) (n + 1) (intCells (thingsOf ss) ++ [.int .i64 x])) (hgt : (Value.slice T n c).ownBlock = some gt ∨ w.heap.size ≤ gt)
    (hK4 : Keeps (fun i => (Value.slice G n e).ownBlock = some i) w3 w4) (hG : w4.ownsRow 0 3 1 (.slice (some ⟨gg, 0, none⟩) (n + 1) cg) (n + 1) (intCells (agesOf ss) ++ [.int .i64 0])) (hgg : (Value.slice G n e).ownBlock = some gg ∨ w3.heap.size ≤ gg) :
    let w5 := (w4.setCell ⟨r, 0, none⟩ (.slice (some ⟨gt, 0, none⟩) (n + 1) ct)).setCell ⟨r, 1, none⟩ (.slice (some ⟨gg, 0, none⟩) (n + 1) cg)
    RefAt w5 r (some ⟨gt, 0, none⟩) ct (some ⟨gg, 0, none⟩) cg F d (ss ++ [(x, 0, true)]) [] most ∧ Keeps (FpR r T G F) w w5 ∧ ∀ i, FpR r (some ⟨gt, 0, none⟩) (some ⟨gg, 0, none⟩) F i → FpR r T G F i ∨ w.heap.size ≤ i := by
  intro w5
  subst hn
  rw [own_slice] at hgt hgg
  have hK3' : Keeps (fun i => blkOf T = some i) w w3 := by rw [own_slice] at hK3; exact hK3
  have hK4' : Keeps (fun i => blkOf G = some i) w3 w4 := by rw [own_slice] at hK4; exact hK4
  have hrl := Blk.lt H.blk
  have hs3 := hK3.size
  have rT : RowAt w3 (some ⟨gt, 0, none⟩) (ss.length + 1) ct 3 1 (intCells (thingsOf ss) ++ [.int .i64 x]) := hT
  have rG : RowAt w4 (some ⟨gg, 0, none⟩) (ss.length + 1) cg 3 1 (intCells (agesOf ss) ++ [.int .i64 0]) := hG
  have hgt3 : gt < w3.heap.size := rT.lt rfl
  have tr : gt ≠ r := by
    rcases hgt with h | h
    · intro e; exact H.nt (by rw [h, e])
    · omega
  have gr : gg ≠ r := by
    rcases hgg with h | h
    · intro e; exact H.ng (by rw [h, e])
    · omega
  have tG : blkOf G ≠ some gt := by
    rcases hgt with h | h
    · exact H.ntg gt h
    · intro e; have := H.ages.lt e; omega
  have tF : blkOf F ≠ some gt := by
    rcases hgt with h | h
    · exact H.ntf gt h
    · intro e; have := H.free.lt e; omega
  have gF : blkOf F ≠ some gg := by
    rcases hgg with h | h
    · exact H.ngf gg h
    · intro e; have := H.free.lt e; omega
  have tg : gg ≠ gt := by
    rcases hgg with h | h
    · intro e; exact tG (by rw [h, e])
    · omega
  have rT4 := rT.keeps hK4' (fun g hg e => by cases hg; exact tG e)
  have rF4 := (H.free.keeps hK3' (fun g hg e => H.ntf g e hg)).keeps hK4' (fun g hg e => H.ngf g e hg)
  have b4 := Blk.keeps (Blk.keeps H.blk hK3' H.nt) hK4' H.ng
  have k5 := Keeps.set_ w4 ⟨r, 0, none⟩ (.slice (some ⟨gt, 0, none⟩) (ss.length + 1) ct)
  have k6 := Keeps.set_ (w4.setCell ⟨r, 0, none⟩ (.slice (some ⟨gt, 0, none⟩) (ss.length + 1) ct)) ⟨r, 1, none⟩ (.slice (some ⟨gg, 0, none⟩) (ss.length + 1) cg)
  have k56 : Keeps (fun i => i = r) w4 w5 := k5.trans k6 (fun i h => .inl h)
  have e1 : (ss ++ [(x, (0 : Int), true)]).length = ss.length + 1 := by simp
  have e2 : intCells (thingsOf (ss ++ [(x, 0, true)])) = intCells (thingsOf ss) ++ [.int .i64 x] := by simp [intCells, thingsOf]
  have e3 : intCells (agesOf (ss ++ [(x, 0, true)])) = intCells (agesOf ss) ++ [.int .i64 0] := by simp [intCells, agesOf]
  refine ⟨⟨?_, ?_, ?_, rF4.keeps k56 (fun g hg e => H.nf (by rw [hg, e])), ?_, ?_, H.nf, ?_, ?_, ?_⟩, ?_, ?_⟩
  · rw [e1]; exact Blk.set_ (Blk.set_ b4 0 _) 1 _
  · rw [e1, e2]; exact rT4.keeps k56 (fun g hg e => by cases hg; exact tr e)
  · rw [e1, e3]; exact rG.keeps k56 (fun g hg e => by cases hg; exact gr e)
  · intro e; cases e; exact tr rfl
  · intro e; cases e; exact gr rfl
  · intro g hg e; cases hg; cases e; exact tg rfl
  · intro g hg e; cases hg; exact tF e
  · intro g hg e; cases hg; exact gF e
  · exact ((hK3'.mono (fun i h => (.inr (.inl h) : FpR r T G F i))).trans hK4' (fun i h => .inl (.inr (.inr (.inl h))))).trans k56 (fun i h => .inl (.inl h))
  · rintro i (h | h | h | h)
    · exact .inl (.inl h)
    · cases h
      rcases hgt with h | h
      · exact .inl (.inr (.inl h))
      · exact .inr h
    · cases h
      rcases hgg with h | h
      · exact .inl (.inr (.inr (.inl h)))
      · exact .inr (by show _ ≤ gg; omega)
    · exact .inl (.inr (.inr (.inr h)))

set_option maxRecDepth 100000 in
set_option maxHeartbeats 16000000 in
theorem rputNew_any (w : World) (r : Nat) (T : Option Addr) (c : Nat) (G : Option Addr) (e : Nat) (F : Option Addr) (d : Nat) (ss : List SlotT) (most x : Int) (h : RefAt w r T c G e F d ss [] most) (hok : ThingsOk ss) (hss : ss.length ≤ 200) (hm : (liveS ss : Nat) < most) :
    Calls Tryd.prog 39 #[.pointer (some ⟨r, 0, none⟩), .int .i64 x] w fun e w' => e = .returned (.tuple #[.int .i64 ss.length, .int .i64 0, .int .i64 0]) ∧ RefTo w w' r T G F (ss ++ [(x, 0, true)]) [] most := by
  have hl := h.things.1
  have hinv := hid hok
  have HR := hid h
  obtain ⟨q0, q1, q2, q3⟩ := h.cells
  have t1 : decide (most ≤ (liveS ss : Nat)) = false := decF (by omega)
  generalize hN : liveS ss = N at t1 hm
  have HN := hid hN
  clear hN hok
  go_enter Tryd.func39, Tryd.ntmps39
  go_wp2
  go_loopg [7, 17] ss.length (fun g s7 s17 wx => ∃ k : Nat, k ≤ ss.length ∧ g = ss.length - k ∧ s17 = .int .i64 k ∧ s7 = .int .i64 (liveS (ss.take k) : Nat) ∧ w = wx)
  case atStart => exact ⟨0, Nat.zero_le _, rfl, rfl, rfl, rfl⟩
  case round =>
    obtain ⟨k, hk, rfl, rfl, rfl, rfl⟩ := hrel
    by_cases hkl : k < ss.length
    · have i1 : (0 : Int) ≤ (k : Int) := by omega
      have i2 : (k : Int) < (ss.length : Int) := by omega
      obtain ⟨t, g', rfl, rfl, c0, c1⟩ := HR.out.slot hkl
      have hO := hinv.out k hkl
      have Hs := hid (liveS_take hkl)
      have hlt := liveS_le (ss.take k)
      have hlen : (ss.take k).length ≤ 200 := by simp; omega
      clear c1
      cases hf : ss[k].2.2
      · rw [hf] at c0
        simp only [Bool.false_eq_true, if_false] at c0
        have Hf := hid hf
        clear hf hO
        go_wp2
        go_roundg (ss.length - (k + 1))
        case measure => omega
        case rel => exact ⟨k + 1, by omega, rfl, by go_num, by rw [Hs.out, Hf.out]; rfl, rfl⟩
      · rw [hf] at c0
        simp only [if_true] at c0
        have hO' := hO hf
        have d0 := decT hO'
        have Hf := hid hf
        clear hf hO
        generalize ss[k].1 = y at c0 d0 hO'
        generalize hn : liveS (ss.take k) = n at hlt ⊢
        go_wp2
        go_roundg (ss.length - (k + 1))
        case measure => omega
        case rel => exact ⟨k + 1, by omega, rfl, by go_num, by rw [Hs.out, Hf.out, hn, if_pos rfl]; go_num, rfl⟩
    · obtain rfl : k = ss.length := by omega
      rw [List.take_length]
      rw [HN.out]
      obtain ⟨n, hn⟩ : ∃ n, ss.length = n := ⟨_, rfl⟩
      have Hn := hid hn
      obtain ⟨i0, hi0, hz0, hz1, hz2⟩ := info_parts int_info
      have hTr : (Value.slice T n c).ownBlock ≠ some r := by rw [own_slice]; exact h.nt
      have hGr : (Value.slice G n e).ownBlock ≠ some r := by rw [own_slice]; exact h.ng
      have hTG : ∀ y, blkOf G = some y → ¬ (Value.slice T n c).ownBlock = some y := by rw [own_slice]; intro y hy e; exact h.ntg y e hy
      have hTlt : ∀ y, (Value.slice T n c).ownBlock = some y → y < w.heap.size := by rw [own_slice]; intro y hy; exact h.things.lt hy
      have hb0 := h.blk
      have ht0 := h.things
      have hg0 := h.ages
      rw [hn] at hb0 ht0 hg0 q0 q1
      have HB := hid hb0
      have HT := hid (show w.ownsRow 0 3 1 (.slice T n c) n (intCells (thingsOf ss)) from ht0)
      have HG := hid (show RowAt w G n e 3 1 (intCells (agesOf ss)) from hg0)
      have qA0 : ∀ o, (w.alloc o).cell? ⟨r, 0, none⟩ = some (.slice T n c) := fun o => by rw [Blk.cell (Blk.alloc hb0 o)]; rfl
      have qA1 : ∀ o, (w.alloc o).cell? ⟨r, 1, none⟩ = some (.slice G n e) := fun o => by rw [Blk.cell (Blk.alloc hb0 o)]; rfl
      have qB0 : ∀ o o', ((w.alloc o).alloc o').cell? ⟨r, 0, none⟩ = some (.slice T n c) := fun o o' => by rw [Blk.cell (Blk.alloc (Blk.alloc hb0 o) o')]; rfl
      have qB1 : ∀ o o', ((w.alloc o).alloc o').cell? ⟨r, 1, none⟩ = some (.slice G n e) := fun o o' => by rw [Blk.cell (Blk.alloc (Blk.alloc hb0 o) o')]; rfl
      have hss' : n ≤ 200 := by omega
      have j1 : (n : Int) < (n : Int) + 1 := by omega
      have j2 : (0 : Int) ≤ (n : Int) := by omega
      clear h hb0 ht0 hg0
      go_upto_region 16 with fail
      rw [hn]
      clear hn hss hl
      go_cut [] (fun wx => ∃ gt ct gg cg, RefAt wx r (some ⟨gt, 0, none⟩) ct (some ⟨gg, 0, none⟩) cg F d (ss ++ [(x, 0, true)]) [] most ∧ Keeps (FpR r T G F) w wx ∧ ∀ i, FpR r (some ⟨gt, 0, none⟩) (some ⟨gg, 0, none⟩) F i → FpR r T G F i ∨ w.heap.size ≤ i)
      case first =>
        go_region_law (first | (refine step_append_lies _ (by rfl) _ _ _ (by rfl) 0 3 i0 _ 1 8 Tryd.underlying33 hi0 hz0 hz1 hz2 rfl (by omega) (.slice T n c) n _ (by rfl) (by first | exact (World.ownsRow.alloc HT.out _).drew | exact (World.ownsRow.alloc (World.ownsRow.alloc HT.out _) _).drew | exact (World.ownsRow.alloc HT.out _).drew.drew | exact (World.ownsRow.alloc (World.ownsRow.alloc HT.out _) _).drew.drew) _ 1 1 [.int .i64 x] (by rfl) (by rfl) (by first | exact World.news_of_block (cs := #[.int .i64 x]) (t := 3) (fr := (0, 0)) (heap_alloc_new w _) | exact World.news_of_block (cs := #[.int .i64 x]) (t := 3) (fr := (0, 0)) (heap_alloc2_new w _ _) | exact World.news_of_block (cs := #[.int .i64 x]) (t := 3) (fr := (0, 0)) (heap_alloc2_old w _ _)) (by simp [Value.oneCell']) (by omega) (by unfold maxLen; omega) (by omega) (by simp) _ rfl ?_; intro gt ct w3 hownT hgrowT hatT hltT; have hK3 : Keeps (fun i => (Value.slice T n c).ownBlock = some i) w w3 := (by first | exact keeps_of_grown hgrowT | exact keeps_of_grown2 hgrowT | exact keeps_of_grown3 hgrowT | exact keeps_of_grown4 hgrowT); have hgt : (Value.slice T n c).ownBlock = some gt ∨ w.heap.size ≤ gt := (by rcases hatT with h | h; exact .inl h; exact .inr (by rw [h]; simp <;> omega)); have HGT := hid hgrowT; have HOT := hid hownT; have HKT := hid hK3; have HAT := hid hgt; have b3 := Blk.keeps HB.out hK3 (fun e => hTr e); have r1 : w3.cell? ⟨r, 1, none⟩ = some (.slice G n e) := (by rw [Blk.cell b3]; rfl); have rA1 : ∀ o, (w3.alloc o).cell? ⟨r, 1, none⟩ = some (.slice G n e) := (fun o => by rw [Blk.cell (Blk.alloc b3 o)]; rfl); have HG3 := hid (show w3.ownsRow 0 3 1 (.slice G n e) n (intCells (agesOf ss)) from RowAt.keeps HG.out hK3 (fun y hy => hTG y hy)); have HB3 := hid b3; clear b3 hgrowT hatT hownT hK3 hgt) | (refine step_append_lies _ (by rfl) _ _ _ (by rfl) 0 3 i0 _ 1 8 Tryd.underlying33 hi0 hz0 hz1 hz2 rfl (by omega) (.slice G n e) n _ (by rfl) (by first | exact HG3.out | exact (World.ownsRow.alloc HG3.out _)) _ 1 1 [.int .i64 0] (by rfl) (by rfl) (by first | exact World.news_of_block (cs := #[.int .i64 0]) (t := 3) (fr := (0, 0)) (heap_alloc_new w3 _) | exact World.news_of_block (cs := #[.int .i64 0]) (t := 3) (fr := (0, 0)) ((HGT.out.block w.heap.size (by simp <;> omega) (fun e => absurd (hTlt _ e.symm) (by omega))).trans (heap_alloc2_old w _ _)) | exact World.news_of_block (cs := #[.int .i64 0]) (t := 3) (fr := (0, 0)) ((HGT.out.block (w.heap.size + 1) (by simp <;> omega) (fun e => absurd (hTlt _ e.symm) (by omega))).trans (heap_alloc2_new w _ _))) (by simp [Value.oneCell']) (by omega) (by unfold maxLen; omega) (by omega) (by simp) _ rfl ?_; intro gg cg w4 hownG hgrowG hatG hltG; have hK4 : Keeps (fun i => (Value.slice G n e).ownBlock = some i) w3 w4 := (by first | exact keeps_of_grown0 hgrowG | exact keeps_of_grown1 hgrowG); have hgg : (Value.slice G n e).ownBlock = some gg ∨ w3.heap.size ≤ gg := (by rcases hatG with h | h; exact .inl h; exact .inr (by rw [h]; simp <;> omega)); have b4 := Blk.keeps HB3.out hK4 (fun e => hGr e); have r0 : w4.cell? ⟨r, 0, none⟩ = some (.slice T n c) := (by rw [Blk.cell b4]; rfl); have r1' : w4.cell? ⟨r, 1, none⟩ = some (.slice G n e) := (by rw [Blk.cell b4]; rfl); have rf0 := Blk.frozen b4 0; have rf1 := Blk.frozen b4 1; have y0 : w4.cell? ⟨gg, n, none⟩ = some (.int .i64 0) := lastCell hownG; have ygr : gg ≠ r := (by rcases hgg with h | h; exact fun e => hGr (by rw [h, e]); exact fun e => absurd (Blk.lt HB3.out) (by omega)); have HOG := hid hownG; have HKG := hid hK4; have HAG := hid hgg; have HB4 := hid b4; clear b4 hgrowG hatG hownG hK4 hgg))
        all_goals (go_wp2_with fail; go_meet; exact ⟨_, _, _, _, rslotted HR.out Hn.out HKT.out HOT.out HAT.out HKG.out HOG.out HAG.out⟩)
      case rest =>
        obtain ⟨gt, ct, gg, cg, hA5, hK5, hF5⟩ := hcut
        have e1 : (ss ++ [(x, (0 : Int), true)]).length = n + 1 := by rw [List.length_append, Hn.out]; rfl
        obtain ⟨_, r1, _, _⟩ := hA5.cells
        rw [e1] at r1
        obtain ⟨g', hg', y0⟩ := hA5.ages.cell (j := n) (u := .int .i64 0) (by rw [← Hn.out]; simp [intCells, agesOf])
        cases hg'
        have HA5 := hid hA5
        have HF5 := hid hF5
        clear hA5 hF5 e1
        go_wp2_with fail
        go_quiet (fail)
        go_wp2
        go_ret3
        have hA5 := HA5.out
        exact ⟨by rw [Hn.out]; with_unfolding_all rfl, some ⟨gt, 0, none⟩, ct, some ⟨gg, 0, none⟩, cg, F, d, ⟨hA5.blk, hA5.things, hA5.ages, hA5.free, hA5.nt, hA5.ng, hA5.nf, hA5.ntg, hA5.ntf, hA5.ngf⟩, ⟨hK5.os, hK5.tape, hK5.output, hK5.size, hK5.block⟩, HF5.out⟩
end Go.Proofs.YtakbedckjaammaaDoor
