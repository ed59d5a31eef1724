/-
  The document's Slots: Free.
-/
import Derived.WalkKit
import Derived.WalkLawsBesides
import Derived.WalkSpells
import Derived.Deep.AppendLies
import Derived.Deep.DeepCutAuto
import Derived.Test.YtakbedckjaammaaDoorSlots
namespace Go.Proofs.YtakbedckjaammaaDoor
open Go.RowKit

def RefTo (w w' : World) (r : Nat) (T G F : Option Addr) (ss : List SlotT) (fr : List Int) (most : Int) : Prop :=
  ∃ T' c' G' e' F' d', RefAt w' r T' c' G' e' F' d' ss fr most ∧ Keeps (FpR r T G F) w w' ∧ ∀ i, FpR r T' G' F' i → FpR r T G F i ∨ w.heap.size ≤ i

theorem rtaken {w1 : World} {r c e d t g k : Nat} {F : Option Addr} {ss : List SlotT} {fr : List Int} {most : Int} (H : RefAt w1 r (some ⟨t, 0, none⟩) c (some ⟨g, 0, none⟩) e F d ss fr most) (u : Int) :
    let w2 := (w1.setCell ⟨t, k, none⟩ (.int .i64 (-1))).setCell ⟨g, k, none⟩ (.int .i64 u)
    RefAt w2 r (some ⟨t, 0, none⟩) c (some ⟨g, 0, none⟩) e F d (ss.set k (0, u, false)) fr most ∧ Keeps (FpR r (some ⟨t, 0, none⟩) (some ⟨g, 0, none⟩) F) w1 w2 := by
  intro w2
  have k1 := Keeps.set_ w1 ⟨t, k, none⟩ (.int .i64 (-1))
  have k2 := Keeps.set_ (w1.setCell ⟨t, k, none⟩ (.int .i64 (-1))) ⟨g, k, none⟩ (.int .i64 u)
  have u1 : t ≠ r := fun e => H.nt (by rw [← e]; rfl)
  have u2 : g ≠ r := fun e => H.ng (by rw [← e]; rfl)
  have u3 : g ≠ t := fun e => H.ntg t rfl (by rw [← e]; rfl)
  have ht := (H.things.set k (.int .i64 (-1))).keeps k2 (fun x hx e => by cases hx; exact u3 e.symm)
  have hg := (H.ages.keeps k1 (fun x hx e => by cases hx; exact u3 e)).set k (.int .i64 u)
  have e1 : (intCells (thingsOf ss)).set k (.int .i64 (-1)) = intCells (thingsOf (ss.set k (0, u, false))) := by simp [intCells, thingsOf, List.map_set]
  have e2 : (intCells (agesOf ss)).set k (.int .i64 u) = intCells (agesOf (ss.set k (0, u, false))) := by simp [intCells, agesOf, List.map_set]
  rw [e1] at ht
  rw [e2] at hg
  have hF := (H.free.keeps k1 (fun x hx e => H.ntf t rfl (by rw [hx, e]))).keeps k2 (fun x hx e => H.ngf g rfl (by rw [hx, e]))
  refine ⟨⟨?_, ?_, ?_, hF, H.nt, H.ng, H.nf, H.ntg, H.ntf, H.ngf⟩, ?_⟩
  · rw [List.length_set]
    exact Blk.keeps (Blk.keeps H.blk k1 (fun e => u1 e.symm)) k2 (fun e => u2 e.symm)
  · rw [List.length_set]; exact ht
  · rw [List.length_set]; exact hg
  · exact (k1.mono (fun i h => (.inr (.inl (by rw [h]; rfl)) : FpR r (some ⟨t, 0, none⟩) (some ⟨g, 0, none⟩) F i))).trans k2 (fun i h => .inl (.inr (.inr (.inl (by rw [h]; rfl)))))

/-- a slot's number appended to the free ones -/
theorem rfreed {w2 w3 : World} {r c e d : Nat} {T G F : Option Addr} {ss : List SlotT} {fr : List Int} {most : Int} (H : RefAt w2 r T c G e F d ss fr most) {o : Obj} {gg cap : Nat} {s : Int}
    (hown : w3.ownsRow 0 3 1 (.slice (some ⟨gg, 0, none⟩) (fr.length + 1) cap) (fr.length + 1) (intCells fr ++ [.int .i64 s])) (hgrow : ((w2.alloc o).drew).grownBy w3 (Value.slice F fr.length d).ownBlock)
    (hat : (Value.slice F fr.length d).ownBlock = some gg ∨ gg = w2.heap.size + 1) :
    let w5 := w3.setCell ⟨r, 2, none⟩ (.slice (some ⟨gg, 0, none⟩) (fr.length + 1) cap)
    RefAt w5 r T c G e (some ⟨gg, 0, none⟩) cap ss (fr ++ [s]) most ∧ Keeps (FpR r T G F) w2 w5 ∧ ∀ i, FpR r T G (some ⟨gg, 0, none⟩) i → FpR r T G F i ∨ w2.heap.size ≤ i := by
  intro w5
  rw [own_slice] at hgrow hat
  have hal := Blk.lt H.blk
  have hK := keeps_of_grown hgrow
  have hga : gg ≠ r := by
    rcases hat with h | h
    · intro e; exact H.nf (by rw [h, e])
    · omega
  have hgT : ∀ x, blkOf T = some x → x ≠ gg := by
    intro x hx e
    rcases hat with h | h
    · exact H.ntf x hx (by rw [h, e])
    · have := H.things.lt hx; omega
  have hgG : ∀ x, blkOf G = some x → x ≠ gg := by
    intro x hx e
    rcases hat with h | h
    · exact H.ngf x hx (by rw [h, e])
    · have := H.ages.lt hx; omega
  have b3 := Blk.keeps H.blk hK H.nf
  have t3 := H.things.keeps hK (fun x hx => H.ntf x hx)
  have g3 := H.ages.keeps hK (fun x hx => H.ngf x hx)
  have f3 : RowAt w3 (some ⟨gg, 0, none⟩) (fr.length + 1) cap 3 1 (intCells fr ++ [.int .i64 s]) := hown
  have k4 : Keeps (fun i => i = r) w3 w5 := Keeps.set_ w3 ⟨r, 2, none⟩ (.slice (some ⟨gg, 0, none⟩) (fr.length + 1) cap)
  have e1 : (fr ++ [s]).length = fr.length + 1 := by simp
  have e2 : intCells (fr ++ [s]) = intCells fr ++ [.int .i64 s] := by simp [intCells]
  refine ⟨⟨?_, ?_, ?_, ?_, H.nt, H.ng, ?_, H.ntg, ?_, ?_⟩, ?_, ?_⟩
  · rw [e1]
    exact Blk.set_ b3 2 _
  · exact t3.keeps k4 (fun x hx e => H.nt (by rw [hx, e]))
  · exact g3.keeps k4 (fun x hx e => H.ng (by rw [hx, e]))
  · rw [e1, e2]
    exact f3.keeps k4 (fun x hx e => by cases hx; exact hga e)
  · intro e; cases e; exact hga rfl
  · intro x hx e; cases e; exact hgT _ hx rfl
  · intro x hx e; cases e; exact hgG _ hx rfl
  · exact (hK.mono (fun i h => (.inr (.inr (.inr h)) : FpR r T G F i))).trans k4 (fun i h => .inl (.inl h))
  · rintro i (h | h | h | h)
    · exact .inl (.inl h)
    · exact .inl (.inr (.inl h))
    · exact .inl (.inr (.inr (.inl h)))
    · cases h
      rcases hat with h | h
      · exact .inl (.inr (.inr (.inr h)))
      · exact .inr (by show _ ≤ gg; omega)

set_option maxRecDepth 100000 in
set_option maxHeartbeats 1000000 in
theorem rfree_any (w : World) (r : Nat) (T : Option Addr) (c : Nat) (G : Option Addr) (e : Nat) (F : Option Addr) (d : Nat) (ss : List SlotT) (fr : List Int) (most : Int) (k : Nat) (h : RefAt w r T c G e F d ss fr most) (hk : k < ss.length) (hfr : fr.length ≤ 200) :
    Calls Tryd.prog 41 #[.pointer (some ⟨r, 0, none⟩), .int .i64 (k : Int)] w fun e w' => (∃ x, e = .returned (.int .i64 x)) ∧ RefTo w w' r T G F (takeS ss (k : Int)) (fr ++ [(k : Int)]) most := by
  obtain ⟨q0, q1, _, _⟩ := h.cells
  have i1 : (0 : Int) ≤ (k : Int) := by omega
  have i2 : (k : Int) < (ss.length : Int) := by omega
  obtain ⟨t, g, rfl, rfl, c0, c1⟩ := h.slot hk
  have f0 := h.things.frozen k
  have f1 := h.ages.frozen k
  have u1 : t ≠ r := fun e => h.nt (by rw [← e]; rfl)
  have u2 : g ≠ r := fun e => h.ng (by rw [← e]; rfl)
  have u3 : g ≠ t := fun e => h.ntg t rfl (by rw [← e]; rfl)
  have TT := hid (takeS_at hk)
  have HT := hid (fun u => rtaken (k := k) h u)
  have hkl := hk
  generalize (if ss[k].2.2 = true then ss[k].1 else -1) = x at c0
  generalize ss[k].2.1 = age at c1 TT
  clear h
  go_enter Tryd.func41, Tryd.ntmps41
  go_upto_region 4 with fail
  have hT2 := HT.out (RowKit.wrap64 (age + 1))
  clear HT c0 c1 f0 f1 q0 q1
  generalize hW : World.setCell (World.setCell w ⟨t, k, none⟩ (.int .i64 (-1))) ⟨g, k, none⟩ (.int .i64 (RowKit.wrap64 (age + 1))) = w2 at hT2 ⊢
  clear hW
  obtain ⟨hA2, hK2⟩ := hT2
  have hal := Blk.lt hA2.blk
  obtain ⟨_, _, q2, _⟩ := hA2.cells
  obtain ⟨i0, hi0, hz0, hz1, hz2⟩ := info_parts int_info
  have hnb : some r ≠ (Value.slice F fr.length d).ownBlock := by rw [own_slice]; exact hA2.nf.symm
  have HS := hid (show w2.ownsRow 0 3 1 (.slice F fr.length d) fr.length (intCells fr) from hA2.free)
  have HA2 := hid hA2
  have HK2 := hid hK2
  clear hA2 hK2
  go_wp2_with ((with_reducible (refine wpList_append_lies _ rfl (.tmp 32) (.tmp 34) 33 rfl 0 3 i0 _ 1 8 Tryd.underlying33 hi0 hz0 hz1 hz2 (by with_unfolding_all rfl) (by omega) (.slice F fr.length d) fr.length _ (by with_unfolding_all rfl) (World.ownsRow.alloc HS.out _) ⟨w2.heap.size, 0, none⟩ 1 1 [.int .i64 (k : Int)] (by with_unfolding_all rfl) rfl (World.news_of_block (cs := #[.int .i64 (k : Int)]) (t := 3) (fr := (0, 0)) (heap_alloc_new w2 _)) (by simp [Value.oneCell']) (by omega) (by unfold maxLen; omega) (by omega) (by simp) (w2.heap.size + 1) (by simp) ?_)); intro gg cap w3 hown hgrow hat hlt; have hg2 := hid (undrawn hgrow); have b3 := Blk.keeps HA2.out.blk (keeps_of_grown hg2.out) (fun e => hnb e.symm); have r2 : w3.cell? ⟨r, 2, none⟩ = some (.slice F fr.length d) := (by rw [Blk.cell b3]; rfl); have rf2 := Blk.frozen b3 2; clear b3 hgrow)
  go_ret
  obtain ⟨hA5, hK5, hF5⟩ := rfreed HA2.out hown hg2.out hat
  have hs := HK2.out.size
  refine ⟨⟨_, rfl⟩, some ⟨t, 0, none⟩, c, some ⟨g, 0, none⟩, e, some ⟨gg, 0, none⟩, cap, ?_, HK2.out.trans hK5 (fun i h => .inl h), ?_⟩
  · rw [TT.out]; exact hA5
  · intro i hi
    rcases hF5 i hi with h | h
    · exact .inl h
    · exact .inr (by omega)
end Go.Proofs.YtakbedckjaammaaDoor
