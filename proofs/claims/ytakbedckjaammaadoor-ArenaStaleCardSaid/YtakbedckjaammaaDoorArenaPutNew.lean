/-
  The walk of arena.Put at int, into a new slot.
-/
import Derived.WalkKit
import Derived.WalkLawsBesides
import Derived.WalkSpells
import Derived.Deep.RegionLaw
import Derived.Deep.AppendLies
import Derived.Deep.DeepCutAuto
import Derived.Deep.QuietTactic
import Derived.BigQuiet
import Derived.Test.YtakbedckjaammaaDoorArenaPut
namespace Go.Proofs.YtakbedckjaammaaDoor
open Go.RowKit

theorem slot_info : (Tryd.prog.info? 98).map (fun i => (i.zero, i.size, i.bytes)) = some (some (.agg #[.int .i64 0, .int .i64 0, .bool false]), 3, 24) := by kernel_rfl

theorem undrawn {w2 w3 : World} {o : Obj} {row : Option Nat} (h : (w2.alloc o).grownBy w3 row) : ((w2.alloc o).drew).grownBy w3 row := ⟨h.os, h.tape, h.output, h.size, h.block⟩
/-- a slot more -/
theorem slotted {w2 w3 : World} {a c d : Nat} {A B : Option Addr} {ss : List SlotT} {fr : List Int} {most many : Int} (H : ArenaAt w2 a A c B d ss fr most many) {o : Obj} {gg cap : Nat} {x : Int}
    (hown : w3.ownsRow 0 98 3 (.slice (some ⟨gg, 0, none⟩) (ss.length + 1) cap) (ss.length + 1) (slotCells ss ++ [.int .i64 x, .int .i64 0, .bool true])) (hgrow : ((w2.alloc o).drew).grownBy w3 (Value.slice A ss.length c).ownBlock)
    (hat : (Value.slice A ss.length c).ownBlock = some gg ∨ gg = w2.heap.size + 1) :
    let w5 := w3.setCell ⟨a, 0, none⟩ (.slice (some ⟨gg, 0, none⟩) (ss.length + 1) cap)
    ArenaAt w5 a (some ⟨gg, 0, none⟩) cap B d (ss ++ [(x, 0, true)]) fr most many ∧ Keeps (FpA a A B) w2 w5 ∧ (∀ i, FpA a (some ⟨gg, 0, none⟩) B i → FpA a A B i ∨ w2.heap.size ≤ i) := by
  intro w5
  rw [own_slice] at hgrow hat
  have hal := Blk.lt H.blk
  have hK := keeps_of_grown hgrow
  have hga : gg ≠ a := by
    rcases hat with h | h
    · intro e; exact H.na (by rw [h, e])
    · omega
  have hgB : ∀ g, blkOf B = some g → g ≠ gg := by
    intro g hg e
    rcases hat with h | h
    · exact H.nab gg h (by rw [hg, e])
    · have := H.free.lt hg; omega
  have b3 := Blk.keeps H.blk hK H.na
  have f3 := H.free.keeps hK (fun g hg e => H.nab g e hg)
  have s3 : RowAt w3 (some ⟨gg, 0, none⟩) (ss.length + 1) cap 98 3 (slotCells ss ++ [.int .i64 x, .int .i64 0, .bool true]) := hown
  have k4 : Keeps (fun i => i = a) w3 w5 := Keeps.set_ w3 ⟨a, 0, none⟩ (.slice (some ⟨gg, 0, none⟩) (ss.length + 1) cap)
  have e1 : (ss ++ [(x, (0 : Int), true)]).length = ss.length + 1 := by simp
  have e2 : slotCells (ss ++ [(x, 0, true)]) = slotCells ss ++ [.int .i64 x, .int .i64 0, .bool true] := by simp [slotCells]
  refine ⟨⟨?_, ?_, ?_, ?_, H.nb, ?_⟩, ?_, ?_⟩
  · rw [e1]; exact Blk.set_ b3 0 _
  · rw [e1, e2]; exact s3.keeps k4 (fun g hg e => by cases hg; exact hga e)
  · exact f3.keeps k4 (fun g hg e => H.nb (by rw [hg, e]))
  · intro e; cases e; exact hga rfl
  · intro g hg e; cases hg; exact hgB _ e rfl
  · exact (hK.mono (fun i h => (.inr (.inl h) : FpA a A B i))).trans k4 (fun i h => .inl (.inl h))
  · rintro i (h | h | h)
    · exact .inl (.inl h)
    · cases h
      rcases hat with h | h
      · exact .inl (.inr (.inl h))
      · exact .inr (by show _ ≤ gg; omega)
    · exact .inl (.inr (.inr h))

set_option maxRecDepth 100000 in
set_option maxHeartbeats 1000000 in
theorem putNew_any (w : World) (a : Nat) (A : Option Addr) (c : Nat) (B : Option Addr) (d : Nat) (ss : List SlotT) (most many x : Int) (h : ArenaAt w a A c B d ss [] most many) (hm : many ≠ most) (hss : ss.length ≤ 200) :
    Calls Tryd.prog 17 #[.pointer (some ⟨a, 0, none⟩), .int .i64 x] w fun e w' =>
      e = .returned (.tuple #[.agg #[.int .i64 ss.length, .int .i64 0], errV 0]) ∧ ArenaTo w w' a A B (ss ++ [(x, 0, true)]) [] most (RowKit.wrap64 (many + 1)) := by
  have t1 := beqF hm
  clear hm
  have hA : Below w.heap.size w (w.alloc (.cells #[.int .i64 0, .int .i64 0] 42)) := (Below.refl _ w).alloc (Nat.le_refl _) _
  have H0 := h.below hA
  obtain ⟨q0, q1, q2, q3⟩ := H0.cells
  have g3 := Blk.frozen H0.blk 3
  have Hfp := hid (fun i (hi : FpA a A B i) => h.fp hi)
  have u4 : a ≠ w.heap.size := Nat.ne_of_lt (Blk.lt h.blk)
  have HH := hid H0
  have HA := hid hA
  clear H0 hA h
  obtain ⟨n, hn⟩ : ∃ n, ss.length = n := ⟨_, rfl⟩
  have Hn := hid hn
  go_enter Tryd.func17, Tryd.ntmps17
  go_wp2_with fail
  go_quiet (fail)
  go_upto_region 11 with fail
  have HD : ArenaAt ((w.alloc (.cells #[.int .i64 0, .int .i64 0] 42)).drewN nq) a A c B d ss [] most many := ⟨HH.out.blk, HH.out.slots, HH.out.free, HH.out.na, HH.out.nb, HH.out.nab⟩
  have hb0 := drewN_below HA.out nq
  have hR : Blk ((w.alloc (.cells #[.int .i64 0, .int .i64 0] 42)).drewN nq) w.heap.size 42 #[.int .i64 0, .int .i64 0] := Blk.drewN (Blk.new w _ _) _
  generalize (w.alloc (.cells #[.int .i64 0, .int .i64 0] 42)).drewN nq = w1 at HD hb0 hR ⊢
  have hk2 := Keeps.set_ w1 ⟨a, 3, none⟩ (.int .i64 (RowKit.wrap64 (many + 1)))
  have HD2 : ArenaAt (w1.setCell ⟨a, 3, none⟩ (.int .i64 (RowKit.wrap64 (many + 1)))) a A c B d ss [] most (RowKit.wrap64 (many + 1)) :=
    ⟨Blk.set_ HD.blk 3 _, HD.slots.keeps hk2 (fun g hg e => HD.na (by rw [hg, e])), HD.free.keeps hk2 (fun g hg e => HD.nb (by rw [hg, e])), HD.na, HD.nb, HD.nab⟩
  have hR2 := Blk.keeps hR hk2 (fun e => u4 e.symm)
  generalize hW : w1.setCell ⟨a, 3, none⟩ (.int .i64 (RowKit.wrap64 (many + 1))) = w2 at hk2 HD2 hR2 ⊢
  clear hW q0 q1 q2 q3 g3 HD hR
  have hal := Blk.lt HD2.blk
  have q0 := HD2.cells.1
  rw [hn] at q0
  obtain ⟨i0, hi0, hz0, hz1, hz2⟩ := info_parts slot_info
  have hna : some a ≠ (Value.slice A n c).ownBlock := by rw [own_slice]; exact HD2.na.symm
  have hnR : some w.heap.size ≠ (Value.slice A n c).ownBlock := by
    rw [own_slice]
    intro e
    exact Nat.lt_irrefl _ (Hfp.out _ (.inr (.inl e.symm)))
  have hs0 := HD2.slots
  rw [hn] at hs0
  have HS := hid (show w2.ownsRow 0 98 3 (.slice A n c) n (slotCells ss) from hs0)
  have HA2 := hid HD2
  have HR2 := hid hR2
  have HK2 := hid hk2
  have hss' : n ≤ 200 := by omega
  have i1 : RowKit.wrap64 (n : Int) = (n : Int) := by unfold RowKit.wrap64; omega
  clear HD2 hs0 hn hR2 hk2 hss
  go_wp2_with ((with_reducible (refine wpList_append_lies _ rfl (.tmp 75) (.tmp 78) 92 rfl 0 98 i0 _ 3 24 Tryd.underlying92 hi0 hz0 hz1 hz2 (by with_unfolding_all rfl) (by omega) (.slice A n c) n _ (by with_unfolding_all rfl) (World.ownsRow.alloc HS.out _) ⟨w2.heap.size, 0, none⟩ 1 1 [.int .i64 x, .int .i64 0, .bool true] (by with_unfolding_all rfl) rfl (World.news_of_block (cs := #[.int .i64 x, .int .i64 0, .bool true]) (t := 98) (fr := (0, 0)) (heap_alloc_new w2 _)) (by simp [Value.oneCell']) (by omega) (by unfold maxLen; omega) (by omega) (by simp) (w2.heap.size + 1) (by simp) ?_)); intro gg cap w3 hown hgrow hat hlt; have hg2 := hid (undrawn hgrow); have b3 := Blk.keeps HA2.out.blk (keeps_of_grown hg2.out) (fun e => hna e.symm); have r0 : w3.cell? ⟨a, 0, none⟩ = some (.slice A n c) := (by rw [Blk.cell b3]; exact congrArg (fun k => some (Value.slice A k c)) Hn.out); have rf0 := Blk.frozen b3 0; have R3 := Blk.keeps HR2.out (keeps_of_grown hg2.out) (fun e => hnR e.symm); have rc0 : w3.cell? ⟨w.heap.size, 0, none⟩ = some (.int .i64 0) := (by rw [Blk.cell R3]; rfl); have rc1 : w3.cell? ⟨w.heap.size, 1, none⟩ = some (.int .i64 0) := (by rw [Blk.cell R3]; rfl); have qf0 := Blk.frozen R3 0; have qf1 := Blk.frozen R3 1; have HR3 := hid R3; clear b3 R3 hgrow)
  try simp only [Exit.inBlock, Exit.then]
  obtain rfl : ss.length = n := Hn.out
  obtain ⟨hA5, hK5, hF5⟩ := slotted HA2.out hown hg2.out hat
  have hRl := Blk.lt HR2.out
  have hs1 := hb0.size
  have hs2 := HK2.out.size
  have R5 := Blk.far HR3.out (p := ⟨a, 0, none⟩) (Ne.symm u4) (.slice (some ⟨gg, 0, none⟩) (ss.length + 1) cap)
  have hks := (Keeps.set_ (w3.setCell ⟨a, 0, none⟩ (.slice (some ⟨gg, 0, none⟩) (ss.length + 1) cap)) ⟨w.heap.size, 0, none⟩ (.int .i64 (ss.length : Int))).trans (Keeps.set_ _ ⟨w.heap.size, 1, none⟩ (.int .i64 0)) (fun j h => .inl h)
  refine put_ret (g := w.heap.size) (x := .int .i64 (ss.length : Int)) (y := .int .i64 0) (v := errV 0) (by with_unfolding_all rfl) (by with_unfolding_all rfl) (by with_unfolding_all rfl) (Blk.set_ (Blk.set_ R5 0 _) 1 _) ?_
  refine ⟨rfl, some ⟨gg, 0, none⟩, cap, B, d, hA5.keeps hks ?_, ?_, ?_⟩
  · intro j hj e
    rcases hF5 j hj with h | h
    · have := Hfp.out j h
      have e' : j = w.heap.size := e
      omega
    · have e' : j = w.heap.size := e
      omega
  · exact (((Keeps.of_below hb0 (FpA a A B)).trans HK2.out (fun j h => .inl (.inl h))).trans hK5 (fun j h => .inl h)).trans hks (fun j h => .inr (Nat.le_of_eq h.symm))
  · intro j hj
    rcases hF5 j hj with h | h
    · exact .inl h
    · exact .inr (by omega)
end Go.Proofs.YtakbedckjaammaaDoor
