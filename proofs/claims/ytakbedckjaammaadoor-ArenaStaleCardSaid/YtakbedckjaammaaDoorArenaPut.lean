/-
  The walk of arena.Put at int.
-/
import Derived.WalkKit
import Derived.WalkLawsBesides
import Derived.WalkSpells
import Derived.Deep.RegionLaw
import Derived.Deep.AppendLies
import Derived.Deep.DeepCutAuto
import Derived.Deep.QuietTactic
import Derived.BigQuiet
import Derived.Test.YtakbedckjaammaaDoorArenaTake
namespace Go.Proofs.YtakbedckjaammaaDoor
open Go.RowKit

theorem put_ret {w : World} {t : Act} {Q : Ending → World → Prop} {g : Nat} {x y v : Value} (hp : t.tmps.getD 4 undef = .pointer (some ⟨g, 0, none⟩)) (h5 : t.tmps.getD 5 undef = v) (hd : t.defers = [])
    (hg : Blk w g 42 #[x, y]) (h : Q (.returned (.tuple #[.agg #[x, y], v])) w) : bodyPost Tryd.prog Tryd.f17 Q .ret t w := by
  refine bodyPost_ret (v := .tuple #[.agg #[x, y], v]) ?_ hd h
  have hl := run_loadVar_row (P := Tryd.prog) w g _ 42 #[x, y] (0, 0) _ hg Tryd.underlying42 rfl (by kernel_rfl)
  have hp' : t.tmps[4]?.getD undef = .pointer (some ⟨g, 0, none⟩) := by simpa using hp
  have h5' : t.tmps[5]?.getD undef = v := by simpa using h5
  simp [results, Tryd.results17, hp', h5', asAddr, hl]

set_option maxRecDepth 100000 in
set_option maxHeartbeats 1000000 in
theorem putFull_any (w : World) (a : Nat) (A : Option Addr) (c : Nat) (B : Option Addr) (d : Nat) (ss : List SlotT) (fr : List Int) (most many x : Int) (h : ArenaAt w a A c B d ss fr most many) (hm : many = most) :
    Calls Tryd.prog 17 #[.pointer (some ⟨a, 0, none⟩), .int .i64 x] w fun e w' =>
      e = .returned (.tuple #[.agg #[.int .i64 0, .int .i64 0], errV 12]) ∧ Below w.heap.size w w' := by
  have t1 := beqT hm
  clear hm
  have hA : Below w.heap.size w (w.alloc (.cells #[.int .i64 0, .int .i64 0] 42)) := (Below.refl _ w).alloc (Nat.le_refl _) _
  obtain ⟨q0, q1, q2, q3⟩ := (h.below hA).cells
  have HA := hid hA
  clear hA
  go_enter Tryd.func17, Tryd.ntmps17
  go_wp2_with fail
  go_quiet (fail)
  go_wp2
  try simp only [Exit.inBlock, Exit.then]
  refine put_ret (g := w.heap.size) (x := .int .i64 0) (y := .int .i64 0) (v := errV 12) (by with_unfolding_all rfl) (by with_unfolding_all rfl) (by with_unfolding_all rfl) (Blk.set_ (Blk.set_ (Blk.drewN (Blk.new w _ _) _) 0 _) 1 _) ?_
  exact ⟨rfl, ((drewN_below HA.out _).setCell (by simp) _).setCell (by simp) _⟩

theorem reused {w1 : World} {a c d : Nat} {ss : List SlotT} {fr : List Int} {most many : Int} {gs gb i : Nat} (H : ArenaAt w1 a (some ⟨gs, 0, none⟩) c (some ⟨gb, 0, none⟩) d ss (fr ++ [(i : Int)]) most many) (hi : i < ss.length) (m x : Int) :
    let w5 := (((w1.setCell ⟨a, 3, none⟩ (.int .i64 m)).setCell ⟨a, 1, none⟩ (.slice (some ⟨gb, 0, none⟩) fr.length d)).setCell ⟨gs, i * 3, none⟩ (.int .i64 x)).setCell ⟨gs, i * 3 + 2, none⟩ (.bool true)
    ArenaAt w5 a (some ⟨gs, 0, none⟩) c (some ⟨gb, 0, none⟩) d (ss.set i (x, ss[i].2.1, true)) fr most m ∧ Keeps (FpA a (some ⟨gs, 0, none⟩) (some ⟨gb, 0, none⟩)) w1 w5 := by
  intro w5
  have u1 : gs ≠ a := fun e => H.na (by rw [← e]; rfl)
  have u2 : gb ≠ a := fun e => H.nb (by rw [← e]; rfl)
  have u3 : gb ≠ gs := fun e => H.nab gs rfl (by rw [← e]; rfl)
  have k12 := (Keeps.set_ w1 ⟨a, 3, none⟩ (.int .i64 m)).trans (Keeps.set_ _ ⟨a, 1, none⟩ (.slice (some ⟨gb, 0, none⟩) fr.length d)) (fun j h => .inl h)
  have k34 := (Keeps.set_ ((w1.setCell ⟨a, 3, none⟩ (.int .i64 m)).setCell ⟨a, 1, none⟩ (.slice (some ⟨gb, 0, none⟩) fr.length d)) ⟨gs, i * 3, none⟩ (.int .i64 x)).trans (Keeps.set_ _ ⟨gs, i * 3 + 2, none⟩ (.bool true)) (fun j h => .inl h)
  have hs := ((H.slots.keeps k12 (fun g hg e => by cases hg; exact u1 e)).set (i * 3) (.int .i64 x)).set (i * 3 + 2) (.bool true)
  rw [(slotCells_set ss i hi x 0 false).1, (slotCells_set (ss.set i (x, ss[i].2.1, ss[i].2.2)) i (by simp; omega) 0 0 true).2.2] at hs
  simp only [List.set_set, List.getElem_set_self] at hs
  have hf := ((H.free.pop fr.length (by simp)).keeps k12 (fun g hg e => by cases hg; exact u2 e)).keeps k34 (fun g hg e => by cases hg; exact u3 e)
  have e1 : (intCells (fr ++ [(i : Int)])).take (fr.length * 1) = intCells fr := by
    unfold intCells
    rw [List.map_append]
    simp
  rw [e1] at hf
  refine ⟨⟨?_, ?_, hf, H.na, H.nb, H.nab⟩, ?_⟩
  · rw [List.length_set]; exact Blk.keeps (Blk.set_ (Blk.set_ H.blk 3 _) 1 _) k34 (fun e => u1 e.symm)
  · rw [List.length_set]; exact hs
  · exact (k12.mono (fun j h => .inl h)).trans (k34.mono (fun j h => (.inr (.inl (by rw [h]; rfl)) : FpA a (some ⟨gs, 0, none⟩) (some ⟨gb, 0, none⟩) j))) (fun j h => .inl h)

set_option maxRecDepth 100000 in
set_option maxHeartbeats 1000000 in
theorem putOld_any (w : World) (a : Nat) (A : Option Addr) (c : Nat) (B : Option Addr) (d : Nat) (ss : List SlotT) (fr : List Int) (i : Nat) (most many x : Int) (h : ArenaAt w a A c B d ss (fr ++ [(i : Int)]) most many) (hm : many ≠ most) (hi : i < ss.length) (hfr : fr.length ≤ 200) :
    Calls Tryd.prog 17 #[.pointer (some ⟨a, 0, none⟩), .int .i64 x] w fun e w' =>
      e = .returned (.tuple #[.agg #[.int .i64 i, .int .i64 (ss[i].2.1)], errV 0]) ∧ ArenaTo w w' a A B (ss.set i (x, ss[i].2.1, true)) fr most (RowKit.wrap64 (many + 1)) := by
  have t1 := beqF hm
  clear hm
  have hA : Below w.heap.size w (w.alloc (.cells #[.int .i64 0, .int .i64 0] 42)) := (Below.refl _ w).alloc (Nat.le_refl _) _
  have H0 := h.below hA
  obtain ⟨q0, q1, q2, q3⟩ := H0.cells
  obtain ⟨gs, rfl, s0, s1, s2⟩ := H0.slot hi
  have f0 := H0.slots.frozen (i * 3)
  have f2 := H0.slots.frozen (i * 3 + 2)
  obtain ⟨gb, rfl, y0⟩ := H0.free.cell (j := fr.length) (u := .int .i64 (i : Int)) (by simp [intCells])
  have g1 := Blk.frozen H0.blk 1
  have g3 := Blk.frozen H0.blk 3
  have e1 : (fr ++ [(i : Int)]).length = fr.length + 1 := by simp
  rw [e1] at q1
  obtain ⟨n, hn⟩ : ∃ n, fr.length = n := ⟨_, rfl⟩
  rw [hn] at q1 y0
  have hcap : n + 1 ≤ d := by
    rcases H0.free.2 with ⟨hh, _⟩ | ⟨g', cap', cur, hv, _, _, h1, _⟩
    · cases hh
    · cases hv; rw [e1, hn] at h1; exact h1
  have i1 : RowKit.wrap64 (n : Int) = (n : Int) := by unfold RowKit.wrap64; omega
  have u1 : gs ≠ a := fun e => H0.na (by rw [← e]; rfl)
  have u2 : gb ≠ a := fun e => H0.nb (by rw [← e]; rfl)
  have u3 : gb ≠ gs := fun e => H0.nab gs rfl (by rw [← e]; rfl)
  have u4 : a ≠ w.heap.size := Nat.ne_of_lt (Blk.lt h.blk)
  have u5 : gs ≠ w.heap.size := Nat.ne_of_lt (h.slots.lt rfl)
  have u6 : gb ≠ w.heap.size := Nat.ne_of_lt (h.free.lt rfl)
  have i2 : (0 : Int) < (n : Int) + 1 := by omega
  have i3 : (0 : Int) ≤ (n : Int) := by omega
  have i4 : (n : Int) ≤ (d : Int) := by omega
  have i5 : (n : Int) < (n : Int) + 1 := by omega
  have i6 : (0 : Int) ≤ (i : Int) := by omega
  have i7 : (i : Int) < (ss.length : Int) := by omega
  have d1 : decide ((0 : Int) < (n : Int) + 1) = true := decT i2
  have HH := hid H0
  have HA := hid hA
  have Hn := hid hn
  clear H0 hA h hn e1
  go_enter Tryd.func17, Tryd.ntmps17
  go_wp2_with fail
  go_quiet (fail)
  go_wp2_with fail
  try simp only [Exit.inBlock, Exit.then]
  have HD : ArenaAt ((w.alloc (.cells #[.int .i64 0, .int .i64 0] 42)).drewN nq) a (some ⟨gs, 0, none⟩) c (some ⟨gb, 0, none⟩) d ss (fr ++ [(i : Int)]) most many := ⟨HH.out.blk, HH.out.slots, HH.out.free, HH.out.na, HH.out.nb, HH.out.nab⟩
  obtain ⟨hA5, hK5⟩ := reused HD hi (RowKit.wrap64 (many + 1)) x
  rw [Hn.out] at hA5 hK5
  have hb0 := drewN_below HA.out nq
  have hR : Blk ((w.alloc (.cells #[.int .i64 0, .int .i64 0] 42)).drewN nq) w.heap.size 42 #[.int .i64 0, .int .i64 0] := Blk.drewN (Blk.new w _ _) _
  have hRn : ∀ j, FpA a (some ⟨gs, 0, none⟩) (some ⟨gb, 0, none⟩) j → j ≠ w.heap.size := by
    rintro j (rfl | h | h)
    · exact u4
    · cases h; exact u5
    · cases h; exact u6
  have hR5 := Blk.keeps hR hK5 (fun h => hRn _ h rfl)
  have hks := (Keeps.set_ _ ⟨w.heap.size, 0, none⟩ (.int .i64 (i : Int))).trans (Keeps.set_ _ ⟨w.heap.size, 1, none⟩ (.int .i64 ss[i].2.1)) (w := World.setCell (World.setCell (World.setCell (World.setCell ((w.alloc (.cells #[.int .i64 0, .int .i64 0] 42)).drewN nq) ⟨a, 3, none⟩ (.int .i64 (RowKit.wrap64 (many + 1)))) ⟨a, 1, none⟩ (.slice (some ⟨gb, 0, none⟩) n d)) ⟨gs, i * 3, none⟩ (.int .i64 x)) ⟨gs, i * 3 + 2, none⟩ (.bool true)) (fun j h => .inl h)
  refine put_ret (g := w.heap.size) (x := .int .i64 (i : Int)) (y := .int .i64 ss[i].2.1) (v := errV 0) (by with_unfolding_all rfl) (by with_unfolding_all rfl) (by with_unfolding_all rfl) (Blk.set_ (Blk.set_ hR5 0 _) 1 _) ?_
  refine ⟨rfl, some ⟨gs, 0, none⟩, c, some ⟨gb, 0, none⟩, d, hA5.keeps hks (fun j hj => hRn j hj), ?_, fun j hj => .inl hj⟩
  exact ((Keeps.of_below hb0 _).trans hK5 (fun j h => .inl h)).trans hks (fun j h => .inr (Nat.le_of_eq h.symm))
end Go.Proofs.YtakbedckjaammaaDoor
