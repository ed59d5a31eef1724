/-
  The walk of arena.Put at api.Order, into a new slot.
-/
import Derived.WalkKit
import Derived.WalkLawsBesides
import Derived.WalkSpells
import Derived.Deep.RegionLaw
import Derived.Deep.AppendLies
import Derived.Deep.DeepCutAuto
import Derived.Deep.QuietTactic
import Derived.BigQuiet
import Derived.Test.YtaagaamamjabbaaOArenaPut
namespace Go.Proofs.Ytaagaamamjabbaa
open Go.RowKit
set_option linter.unusedVariables false

theorem oslot_info : (Try.prog.info? 116).map (fun i => (i.zero, i.size, i.bytes)) = some (some (.agg #[.int .i64 0, .int .i64 0, .int .i64 0, .int .i64 0, .int .i64 0, .int .i64 0, .bool false]), 7, 56) := by kernel_rfl

/-- a slot more -/
theorem oslotted {w2 w3 : World} {a c d : Nat} {A B : Option Addr} {ss : List OSlot} {fr : List Int} {most many : Int} (H : OArenaAt w2 a A c B d ss fr most many) {o : Obj} {gg cap : Nat} {x : Ord5}
    (hown : w3.ownsRow 0 116 7 (.slice (some ⟨gg, 0, none⟩) (ss.length + 1) cap) (ss.length + 1) (flat encS ss ++ encS (x, 0, true))) (hgrow : ((w2.alloc o).drew).grownBy w3 (Value.slice A ss.length c).ownBlock)
    (hat : (Value.slice A ss.length c).ownBlock = some gg ∨ gg = w2.heap.size + 1) :
    let w5 := w3.setCell ⟨a, 0, none⟩ (.slice (some ⟨gg, 0, none⟩) (ss.length + 1) cap)
    OArenaAt w5 a (some ⟨gg, 0, none⟩) cap B d (ss ++ [(x, 0, true)]) fr most many ∧ Keeps (OFp a A B) w2 w5 ∧ (∀ i, OFp a (some ⟨gg, 0, none⟩) B i → OFp a A B i ∨ w2.heap.size ≤ i) := by
  intro w5
  rw [own_slice] at hgrow hat
  have hal := Blk.lt H.blk
  have hK := okeeps_of_grown hgrow
  have hga : gg ≠ a := by
    rcases hat with h | h
    · intro e; exact H.na (by rw [h, e])
    · omega
  have hgB : ∀ g, blkOf B = some g → g ≠ gg := by
    intro g hg e
    rcases hat with h | h
    · exact H.nab gg h (by rw [hg, e])
    · have := H.free.lt hg; omega
  have b3 := Blk.keeps H.blk hK H.na
  have f3 := H.free.keeps hK (fun g hg e => H.nab g e hg)
  have s3 : RowAt w3 (some ⟨gg, 0, none⟩) (ss.length + 1) cap 116 7 (flat encS ss ++ encS (x, 0, true)) := hown
  have k4 : Keeps (fun i => i = a) w3 w5 := Keeps.set_ w3 ⟨a, 0, none⟩ (.slice (some ⟨gg, 0, none⟩) (ss.length + 1) cap)
  have e1 : (ss ++ [(x, (0 : Int), true)]).length = ss.length + 1 := by simp
  have e2 : flat encS (ss ++ [(x, 0, true)]) = flat encS ss ++ encS (x, 0, true) := flat_snoc _ _ _
  refine ⟨⟨?_, ?_, ?_, ?_, H.nb, ?_⟩, ?_, ?_⟩
  · rw [e1]; exact Blk.set_ b3 0 _
  · rw [e1, e2]; exact s3.keeps k4 (fun g hg e => by cases hg; exact hga e)
  · exact f3.keeps k4 (fun g hg e => H.nb (by rw [hg, e]))
  · intro e; cases e; exact hga rfl
  · intro g hg e; cases hg; exact hgB _ e rfl
  · exact (hK.mono (fun i h => (.inr (.inl h) : OFp a A B i))).trans k4 (fun i h => .inl (.inl h))
  · rintro i (h | h | h)
    · exact .inl (.inl h)
    · cases h
      rcases hat with h | h
      · exact .inl (.inr (.inl h))
      · exact .inr (by show _ ≤ gg; omega)
    · exact .inl (.inr (.inr h))

set_option maxRecDepth 100000 in
set_option maxHeartbeats 800000 in
theorem oputNew_any (w : World) (a : Nat) (A : Option Addr) (c : Nat) (B : Option Addr) (d : Nat) (ss : List OSlot) (most many : Int) (x : Ord5) (h : OArenaAt w a A c B d ss [] most many) (hm : many ≠ most) (hss : ss.length ≤ 2000) :
    Calls Try.prog 41 #[.pointer (some ⟨a, 0, none⟩), aggO x] w fun e w' =>
      e = .returned (.tuple #[.agg #[.int .i64 ss.length, .int .i64 0], errV 0]) ∧ OArenaTo w w' a A B (ss ++ [(x, 0, true)]) [] most (RowKit.wrap64 (many + 1)) := by
  unfold aggO
  have t1 := beqF hm
  clear hm
  have hA := putW_below w x
  have H0 := h.below hA
  obtain ⟨q0, q1, q2, q3⟩ := H0.cells
  have g3 := Blk.frozen H0.blk 3
  have Hfp := hid (fun i (hi : OFp a A B i) => h.fp hi)
  have hla := Blk.lt h.blk
  have u4 : a ≠ w.heap.size + 1 := by omega
  have u7 : a ≠ w.heap.size := by omega
  have HH := hid H0
  have HA := hid hA
  clear H0 hA h hla
  obtain ⟨n, hn⟩ : ∃ n, ss.length = n := ⟨_, rfl⟩
  have Hn := hid hn
  unfold putW at q0 q1 q2 q3 g3
  go_enter Try.func41, Try.ntmps41
  go_wp2_with fail
  go_quiet (fail)
  go_upto_region 11 with fail
  have HD : OArenaAt ((putW w x).drewN nq) a A c B d ss [] most many := ⟨HH.out.blk, HH.out.slots, HH.out.free, HH.out.na, HH.out.nb, HH.out.nab⟩
  have hb0 := drewN_below HA.out nq
  have hR : Blk ((putW w x).drewN nq) (w.heap.size + 1) 80 #[.int .i64 0, .int .i64 0] := Blk.drewN (putW_res w x) _
  have hX : Blk ((putW w x).drewN nq) w.heap.size 41 (boxO x) := Blk.drewN (putW_box w x) _
  unfold putW at HD hb0 hR hX
  generalize World.drewN ((w.alloc (.cells #[.int .i64 x.id, .int .i64 x.side, .int .i64 x.kind, .int .i64 x.price, .int .i64 x.qty] 41)).alloc (.cells #[.int .i64 0, .int .i64 0] 80)) nq = w1 at HD hb0 hR hX ⊢
  have hk2 := Keeps.set_ w1 ⟨a, 3, none⟩ (.int .i64 (RowKit.wrap64 (many + 1)))
  have HD2 : OArenaAt (w1.setCell ⟨a, 3, none⟩ (.int .i64 (RowKit.wrap64 (many + 1)))) a A c B d ss [] most (RowKit.wrap64 (many + 1)) :=
    ⟨Blk.set_ HD.blk 3 _, HD.slots.keeps hk2 (fun g hg e => HD.na (by rw [hg, e])), HD.free.keeps hk2 (fun g hg e => HD.nb (by rw [hg, e])), HD.na, HD.nb, HD.nab⟩
  have hR2 := Blk.keeps hR hk2 (fun e => u4 e.symm)
  have hX2 := Blk.keeps hX hk2 (fun e => u7 e.symm)
  generalize hW : w1.setCell ⟨a, 3, none⟩ (.int .i64 (RowKit.wrap64 (many + 1))) = w2 at hk2 HD2 hR2 hX2 ⊢
  clear hW q0 q1 q2 q3 g3 HD hR hX
  have hal := Blk.lt HD2.blk
  have q0 := HD2.cells.1
  rw [hn] at q0
  obtain ⟨bx0, bx1, bx2, bx3, bx4⟩ := ord_box hX2
  obtain ⟨i0, hi0, hz0, hz1, hz2⟩ := info_parts oslot_info
  have hna : some a ≠ (Value.slice A n c).ownBlock := by rw [own_slice]; exact HD2.na.symm
  have hnR : some (w.heap.size + 1) ≠ (Value.slice A n c).ownBlock := by
    rw [own_slice]
    intro e
    have := Hfp.out _ (.inr (.inl e.symm))
    omega
  have hs0 := HD2.slots
  rw [hn] at hs0
  have HS := hid (show w2.ownsRow 0 116 7 (.slice A n c) n (flat encS ss) from hs0)
  have HA2 := hid HD2
  have HR2 := hid hR2
  have HK2 := hid hk2
  have hss' : n ≤ 2000 := by omega
  have i1 : RowKit.wrap64 (n : Int) = (n : Int) := by unfold RowKit.wrap64; omega
  clear HD2 hs0 hn hR2 hk2 hss hX2
  go_region_law ((refine step_append_lies _ (by rfl) _ _ _ (by rfl) 0 116 i0 _ 7 56 Try.underlying110 hi0 hz0 hz1 hz2 rfl (by omega) (.slice A n c) n _ (by rfl) ((World.ownsRow.alloc HS.out _).drew) ⟨w2.heap.size, 0, none⟩ 1 1 (encS (x, 0, true)) (by rfl) (by rfl) (World.news_of_block (cs := #[.int .i64 x.id, .int .i64 x.side, .int .i64 x.kind, .int .i64 x.price, .int .i64 x.qty, .int .i64 0, .bool true]) (t := 116) (fr := (0, 0)) (heap_alloc_new w2 _)) (encS_one _) (by omega) (by unfold maxLen; omega) (by omega) (by simp) (w2.heap.size + 1) (by simp) ?_; intro gg cap w3 hown hgrow hat hlt; have hg2 := hid hgrow; have b3 := Blk.keeps HA2.out.blk (okeeps_of_grown hgrow) (fun e => hna e.symm); have r0 : w3.cell? ⟨a, 0, none⟩ = some (.slice A n c) := (by rw [Blk.cell b3]; exact congrArg (fun k => some (Value.slice A k c)) Hn.out); have rf0 := Blk.frozen b3 0; have R3 := Blk.keeps HR2.out (okeeps_of_grown hgrow) (fun e => hnR e.symm); have rc0 : w3.cell? ⟨w.heap.size + 1, 0, none⟩ = some (.int .i64 0) := (by rw [Blk.cell R3]; rfl); have rc1 : w3.cell? ⟨w.heap.size + 1, 1, none⟩ = some (.int .i64 0) := (by rw [Blk.cell R3]; rfl); have qf0 := Blk.frozen R3 0; have qf1 := Blk.frozen R3 1; have HR3 := hid R3; clear b3 R3 hgrow))
  all_goals go_wp2_with fail
  all_goals try simp only [Exit.inBlock, Exit.then]
  all_goals
    obtain rfl : ss.length = n := Hn.out
    obtain ⟨hA5, hK5, hF5⟩ := oslotted HA2.out hown hg2.out hat
    have hRl := Blk.lt HR2.out
    have hs1 := hb0.size
    have hs2 := HK2.out.size
    have R5 := Blk.far HR3.out (p := ⟨a, 0, none⟩) (Ne.symm u4) (.slice (some ⟨gg, 0, none⟩) (ss.length + 1) cap)
    have hks := (Keeps.set_ (w3.setCell ⟨a, 0, none⟩ (.slice (some ⟨gg, 0, none⟩) (ss.length + 1) cap)) ⟨w.heap.size + 1, 0, none⟩ (.int .i64 (ss.length : Int))).trans (Keeps.set_ _ ⟨w.heap.size + 1, 1, none⟩ (.int .i64 0)) (fun j h => .inl h)
    refine oput_ret (g := w.heap.size + 1) (x := .int .i64 (ss.length : Int)) (y := .int .i64 0) (v := errV 0) (by with_unfolding_all rfl) (by with_unfolding_all rfl) (by with_unfolding_all rfl) (Blk.set_ (Blk.set_ R5 0 _) 1 _) ?_
    refine ⟨rfl, some ⟨gg, 0, none⟩, cap, B, d, hA5.keeps hks ?_, ?_, ?_⟩
    · intro j hj e
      have e' : j = w.heap.size + 1 := e
      rcases hF5 j hj with h | h
      · have := Hfp.out j h
        omega
      · omega
    · exact (((Keeps.of_below hb0 (OFp a A B)).trans HK2.out (fun j h => .inl (.inl h))).trans hK5 (fun j h => .inl h)).trans hks (fun j h => .inr (by have : j = w.heap.size + 1 := h; omega))
    · intro j hj
      rcases hF5 j hj with h | h
      · exact .inl h
      · exact .inr (by omega)
end Go.Proofs.Ytaagaamamjabbaa
