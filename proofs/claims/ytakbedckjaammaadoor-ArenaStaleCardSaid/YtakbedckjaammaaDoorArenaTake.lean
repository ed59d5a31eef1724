/-
  The walk of arena.Take at int.
-/
import Derived.WalkKit
import Derived.WalkLawsBesides
import Derived.WalkSpells
import Derived.Deep.RegionLaw
import Derived.Deep.AppendLies
import Derived.Deep.DeepCutAuto
import Derived.Test.YtakbedckjaammaaDoorArenaOps
namespace Go.Proofs.YtakbedckjaammaaDoor
open Go.RowKit

/-- a thing taken -/
def takeS (ss : List SlotT) (s : Int) : List SlotT := match ss[s.toNat]? with | some v => ss.set s.toNat (0, RowKit.wrap64 (v.2.1 + 1), false) | none => ss
theorem takeS_at {ss : List SlotT} {k : Nat} (h : k < ss.length) : takeS ss (k : Nat) = ss.set k (0, RowKit.wrap64 (ss[k].2.1 + 1), false) := by
  simp [takeS, h]
theorem int_info : (Tryd.prog.info? 3).map (fun i => (i.zero, i.size, i.bytes)) = some (some (.int .i64 0), 1, 8) := by kernel_rfl

theorem taken {w1 : World} {a c d : Nat} {B : Option Addr} {ss : List SlotT} {fr : List Int} {most many : Int} {gs k : Nat} (H : ArenaAt w1 a (some ⟨gs, 0, none⟩) c B d ss fr most many) (hk : k < ss.length) (u : Int) :
    let w2 := ((w1.setCell ⟨gs, k * 3, none⟩ (.int .i64 0)).setCell ⟨gs, k * 3 + 2, none⟩ (.bool false)).setCell ⟨gs, k * 3 + 1, none⟩ (.int .i64 u)
    ArenaAt w2 a (some ⟨gs, 0, none⟩) c B d (ss.set k (0, u, false)) fr most many ∧ Keeps (FpA a (some ⟨gs, 0, none⟩) B) w1 w2 := by
  intro w2
  have k1 := Keeps.set_ w1 ⟨gs, k * 3, none⟩ (.int .i64 0)
  have k2 := Keeps.set_ (w1.setCell ⟨gs, k * 3, none⟩ (.int .i64 0)) ⟨gs, k * 3 + 2, none⟩ (.bool false)
  have k3 := Keeps.set_ ((w1.setCell ⟨gs, k * 3, none⟩ (.int .i64 0)).setCell ⟨gs, k * 3 + 2, none⟩ (.bool false)) ⟨gs, k * 3 + 1, none⟩ (.int .i64 u)
  have hK : Keeps (fun i => i = gs) w1 w2 := (k1.trans k2 (fun i h => .inl h)).trans k3 (fun i h => .inl h)
  have hs := ((H.slots.set (k * 3) (.int .i64 0)).set (k * 3 + 2) (.bool false)).set (k * 3 + 1) (.int .i64 u)
  rw [(slotCells_set ss k hk 0 0 false).1, (slotCells_set (ss.set k (0, ss[k].2.1, ss[k].2.2)) k (by simp; omega) 0 0 false).2.2, (slotCells_set ((ss.set k (0, ss[k].2.1, ss[k].2.2)).set k _) k (by simp; omega) 0 u false).2.1] at hs
  simp only [List.set_set, List.getElem_set_self] at hs
  refine ⟨⟨?_, ?_, ?_, H.na, H.nb, H.nab⟩, hK.mono (fun i h => .inr (.inl (by rw [h]; rfl)))⟩
  · rw [List.length_set]; exact Blk.keeps H.blk hK (fun h => H.na (congrArg some h.symm))
  · rw [List.length_set]; exact hs
  · exact H.free.keeps hK (fun g hg h => H.nab gs rfl (by rw [hg, h]))

theorem keeps_of_grown {w2 w3 : World} {o : Obj} {row : Option Nat} (h : ((w2.alloc o).drew).grownBy w3 row) : Keeps (fun i => row = some i) w2 w3 :=
  ⟨h.os, h.tape, h.output, by have := h.size; simp at this; omega, fun i hi hn => (h.block i (by simp; omega) (fun e => hn e.symm)).trans (heap_alloc_old w2 o hi)⟩

/-- a slot freed: its number appended to the free ones, and one thing less -/
theorem freed {w2 w3 : World} {a c d : Nat} {A B : Option Addr} {ss : List SlotT} {fr : List Int} {most many : Int} (H : ArenaAt w2 a A c B d ss fr most many) {o : Obj} {gg cap : Nat} {s m : Int}
    (hown : w3.ownsRow 0 3 1 (.slice (some ⟨gg, 0, none⟩) (fr.length + 1) cap) (fr.length + 1) (intCells fr ++ [.int .i64 s])) (hgrow : ((w2.alloc o).drew).grownBy w3 (Value.slice B fr.length d).ownBlock)
    (hat : (Value.slice B fr.length d).ownBlock = some gg ∨ gg = w2.heap.size + 1) :
    let w5 := (w3.setCell ⟨a, 1, none⟩ (.slice (some ⟨gg, 0, none⟩) (fr.length + 1) cap)).setCell ⟨a, 3, none⟩ (.int .i64 m)
    ArenaAt w5 a A c (some ⟨gg, 0, none⟩) cap ss (fr ++ [s]) most m ∧ Keeps (FpA a A B) w2 w5 ∧ ∀ i, FpA a A (some ⟨gg, 0, none⟩) i → FpA a A B i ∨ w2.heap.size ≤ i := by
  intro w5
  rw [own_slice] at hgrow hat
  have hal := Blk.lt H.blk
  have hK := keeps_of_grown hgrow
  have hga : gg ≠ a := by
    rcases hat with h | h
    · intro e; exact H.nb (by rw [h, e])
    · omega
  have hgA : ∀ g, blkOf A = some g → g ≠ gg := by
    intro g hg e
    rcases hat with h | h
    · exact H.nab g hg (by rw [h, e])
    · have := H.slots.lt hg; omega
  have b3 := Blk.keeps H.blk hK H.nb
  have s3 := H.slots.keeps hK (fun g hg => H.nab g hg)
  have f3 : RowAt w3 (some ⟨gg, 0, none⟩) (fr.length + 1) cap 3 1 (intCells fr ++ [.int .i64 s]) := hown
  have k4 := Keeps.set_ w3 ⟨a, 1, none⟩ (.slice (some ⟨gg, 0, none⟩) (fr.length + 1) cap)
  have k5 := Keeps.set_ (w3.setCell ⟨a, 1, none⟩ (.slice (some ⟨gg, 0, none⟩) (fr.length + 1) cap)) ⟨a, 3, none⟩ (.int .i64 m)
  have k45 : Keeps (fun i => i = a) w3 w5 := k4.trans k5 (fun i h => .inl h)
  have e1 : (fr ++ [s]).length = fr.length + 1 := by simp
  have e2 : intCells (fr ++ [s]) = intCells fr ++ [.int .i64 s] := by simp [intCells]
  refine ⟨⟨?_, ?_, ?_, H.na, ?_, ?_⟩, ?_, ?_⟩
  · rw [e1]
    exact Blk.set_ (Blk.set_ b3 1 _) 3 _
  · exact s3.keeps k45 (fun g hg e => H.na (by rw [hg, e]))
  · rw [e1, e2]
    exact f3.keeps k45 (fun g hg e => by cases hg; exact hga e)
  · intro e; cases e; exact hga rfl
  · intro g hg e; cases e; exact hgA _ hg rfl
  · exact (hK.mono (fun i h => .inr (.inr h))).trans k45 (fun i h => .inl (.inl h))
  · rintro i (h | h | h)
    · exact .inl (.inl h)
    · exact .inl (.inr (.inl h))
    · cases h
      rcases hat with h | h
      · exact .inl (.inr (.inr h))
      · exact .inr (by show _ ≤ gg; omega)

set_option maxRecDepth 100000 in
set_option maxHeartbeats 1000000 in
theorem arenaTake_any (w : World) (a : Nat) (A : Option Addr) (c : Nat) (B : Option Addr) (d : Nat) (ss : List SlotT) (fr : List Int) (most many s g : Int) (h : ArenaAt w a A c B d ss fr most many) (hfr : fr.length ≤ 200) :
    Calls Tryd.prog 18 #[.pointer (some ⟨a, 0, none⟩), .agg #[.int .i64 s, .int .i64 g]] w fun e w' =>
      e = .returned (.tuple #[.int .i64 (getS ss s g), errV (hasE ss s g)]) ∧
      ((hasS ss s g = false ∧ Below w.heap.size w w') ∨ (hasS ss s g = true ∧ ArenaTo w w' a A B (takeS ss s) (fr ++ [s]) most (RowKit.wrap64 (many - 1)))) := by
  have hA : Below w.heap.size w (w.alloc (.cells #[.int .i64 s, .int .i64 g] 42)) := (Below.refl _ w).alloc (Nat.le_refl _) _
  have HX : Blk (w.alloc (.cells #[.int .i64 s, .int .i64 g] 42)) w.heap.size 42 #[.int .i64 s, .int .i64 g] := Blk.new _ _ _
  have HXX := hid HX
  have Hfp := hid (fun i (hi : FpA a A B i) => h.fp hi)
  clear HX
  have HA := hid hA
  have H := hid (h.below hA)
  clear hA h
  go_enter Tryd.func18, Tryd.ntmps18
  go_wp2_with fail
  refine (find_any _ a A c B d ss fr most many s g H.out).mono ?_
  rintro e w1 ⟨hB, ⟨hf, rfl⟩ | ⟨hf, k, gs, rfl, hk, rfl, rfl⟩⟩
  · have E := hid hf
    clear hf
    go_wp2
    go_ret2
    exact ⟨by rw [getS_no E.out, hasE_no E.out]; rfl, .inl ⟨E.out, HA.out.trans (hB.mono (by simp))⟩⟩
  · have E := hid hf
    clear hf
    have H1 := H.out.below hB
    obtain ⟨gs', he, s0, s1, s2⟩ := H1.slot hk
    cases he
    have f0 := H1.slots.frozen (k * 3)
    have f1 := H1.slots.frozen (k * 3 + 1)
    have f2 := H1.slots.frozen (k * 3 + 2)
    have TH := hid (theS_at hk)
    have TT := hid (takeS_at hk)
    have T2 := fun u => taken H1 hk u
    have HT := hid T2
    clear T2
    generalize ss[k].1 = x at s0 TH
    generalize ss[k].2.1 = age at s1 TT
    generalize ss[k].2.2 = full at s2
    have H1' := hid H1
    clear H1
    go_upto_region 8 with fail
    have hT2 := HT.out (RowKit.wrap64 (age + 1))
    clear HT s0 s1 s2 f0 f1 f2 H1'
    generalize hW : World.setCell (World.setCell (World.setCell w1 ⟨gs, k * 3, none⟩ (.int .i64 0)) ⟨gs, k * 3 + 2, none⟩ (.bool false)) ⟨gs, k * 3 + 1, none⟩ (.int .i64 (RowKit.wrap64 (age + 1))) = w2 at hT2 ⊢
    clear hW
    obtain ⟨hA2, hK2⟩ := hT2
    have hX2 : Blk w2 w.heap.size 42 #[.int .i64 (k : Int), .int .i64 g] := Blk.keeps (Blk.keep HXX.out hB) hK2 (fun hi => Nat.lt_irrefl _ (Hfp.out _ hi))
    have q1 := hA2.cells.2.1
    have q3 := hA2.cells.2.2.2
    have qf1 := Blk.frozen hA2.blk 1
    have qf3 := Blk.frozen hA2.blk 3
    have qx : w2.cell? ⟨w.heap.size, 0, none⟩ = some (.int .i64 (k : Int)) := by rw [Blk.cell hX2]; rfl
    have hal := Blk.lt hA2.blk
    obtain ⟨i0, hi0, hz0, hz1, hz2⟩ := info_parts int_info
    have hnb : some a ≠ (Value.slice B fr.length d).ownBlock := by rw [own_slice]; exact hA2.nb.symm
    have HF := hid hA2.free
    have HA2 := hid hA2
    clear hA2
    go_region_law ((refine step_append_lies _ (by rfl) _ _ _ (by rfl) 0 3 i0 _ 1 8 Tryd.underlying33 hi0 hz0 hz1 hz2 rfl (by omega) (.slice B fr.length d) fr.length _ (by rfl) ((World.ownsRow.alloc HF.out _).drew) ⟨w2.heap.size, 0, none⟩ 1 1 [.int .i64 (k : Int)] (by rfl) (by rfl) (World.news_of_block (cs := #[.int .i64 (k : Int)]) (t := 3) (fr := (0, 0)) (heap_alloc_new w2 _)) (by simp [Value.oneCell']) (by omega) (by unfold maxLen; omega) (by omega) (by simp) (w2.heap.size + 1) (by simp) ?_; intro gg cap w3 hown hgrow hat hlt; have r1 : w3.cell? ⟨a, 1, none⟩ = some (.slice B fr.length d) := (hgrow.cell_far ⟨a, 1, none⟩ (by simp; omega) hnb).trans ((World.cell?_alloc_lt w2 _ ⟨a, 1, none⟩ hal).trans q1); have r3 : w3.cell? ⟨a, 3, none⟩ = some (.int .i64 many) := (hgrow.cell_far ⟨a, 3, none⟩ (by simp; omega) hnb).trans ((World.cell?_alloc_lt w2 _ ⟨a, 3, none⟩ hal).trans q3); have b3 := Blk.keeps HA2.out.blk (keeps_of_grown hgrow) (fun e => hnb e.symm); have rf1 := Blk.frozen b3 1; have rf3 := Blk.frozen b3 3; clear b3))
    go_wp2
    all_goals
      go_ret2
      obtain ⟨hA5, hK5, hF5⟩ := freed (m := RowKit.wrap64 (many - 1)) HA2.out hown hgrow hat
      have hBw : Below w.heap.size w w1 := HA.out.trans (hB.mono (by simp))
      have hs2 := hK2.size
      have hs1 := hBw.size
      refine ⟨by rw [getS_yes E.out, hasE_yes E.out, TH.out]; rfl, .inr ⟨E.out, some ⟨gs, 0, none⟩, c, some ⟨gg, 0, none⟩, cap, ?_, ?_, ?_⟩⟩
      · rw [TT.out]; exact hA5
      · exact ((Keeps.of_below hBw _).trans hK2 (fun i h => .inl h)).trans hK5 (fun i h => .inl h)
      · intro i hi
        rcases hF5 i hi with h | h
        · exact .inl h
        · exact .inr (by omega)
end Go.Proofs.YtakbedckjaammaaDoor
