/-
  The walk of arena.Put at api.Order: full, and into a slot that was freed.
-/
import Derived.WalkKit
import Derived.WalkLawsBesides
import Derived.WalkSpells
import Derived.Deep.RegionLaw
import Derived.Deep.AppendLies
import Derived.Deep.DeepCutAuto
import Derived.Deep.QuietTactic
import Derived.BigQuiet
import Derived.Test.YtaagaamamjabbaaOArenaTake
namespace Go.Proofs.Ytaagaamamjabbaa
open Go.RowKit
set_option linter.unusedVariables false

theorem oput_ret {w : World} {t : Act} {Q : Ending → World → Prop} {g : Nat} {x y v : Value} (hp : t.tmps.getD 4 undef = .pointer (some ⟨g, 0, none⟩)) (h5 : t.tmps.getD 5 undef = v) (hd : t.defers = [])
    (hg : Blk w g 80 #[x, y]) (h : Q (.returned (.tuple #[.agg #[x, y], v])) w) : bodyPost Try.prog Try.f41 Q .ret t w := by
  refine bodyPost_ret (v := .tuple #[.agg #[x, y], v]) ?_ hd h
  have hl := run_loadVar_row (P := Try.prog) w g _ 80 #[x, y] (0, 0) _ hg Try.underlying80 rfl (by kernel_rfl)
  have hp' : t.tmps[4]?.getD undef = .pointer (some ⟨g, 0, none⟩) := by simpa using hp
  have h5' : t.tmps[5]?.getD undef = v := by simpa using h5
  simp [results, Try.results41, hp', h5', asAddr, hl]

/-- the world where Put has laid its two boxes -/
abbrev putW (w : World) (x : Ord5) : World := (w.alloc (.cells #[.int .i64 x.id, .int .i64 x.side, .int .i64 x.kind, .int .i64 x.price, .int .i64 x.qty] 41)).alloc (.cells #[.int .i64 0, .int .i64 0] 80)
theorem putW_below (w : World) (x : Ord5) : Below w.heap.size w (putW w x) := ((Below.refl _ w).alloc (Nat.le_refl _) _).alloc (by simp) _
theorem putW_res (w : World) (x : Ord5) : Blk (putW w x) (w.heap.size + 1) 80 #[.int .i64 0, .int .i64 0] := by simpa using Blk.new (w.alloc (.cells #[.int .i64 x.id, .int .i64 x.side, .int .i64 x.kind, .int .i64 x.price, .int .i64 x.qty] 41)) 80 #[.int .i64 0, .int .i64 0]
theorem putW_box (w : World) (x : Ord5) : Blk (putW w x) w.heap.size 41 (boxO x) := Blk.alloc (Blk.new w _ _) _

set_option maxRecDepth 100000 in
set_option maxHeartbeats 600000 in
theorem oputFull_any (w : World) (a : Nat) (A : Option Addr) (c : Nat) (B : Option Addr) (d : Nat) (ss : List OSlot) (fr : List Int) (most many : Int) (x : Ord5) (h : OArenaAt w a A c B d ss fr most many) (hm : many = most) :
    Calls Try.prog 41 #[.pointer (some ⟨a, 0, none⟩), aggO x] w fun e w' =>
      e = .returned (.tuple #[.agg #[.int .i64 0, .int .i64 0], errV 12]) ∧ Below w.heap.size w w' := by
  unfold aggO
  have t1 := beqT hm
  clear hm
  have hA := putW_below w x
  obtain ⟨q0, q1, q2, q3⟩ := (h.below hA).cells
  have HA := hid hA
  clear hA
  unfold putW at q0 q1 q2 q3
  go_enter Try.func41, Try.ntmps41
  go_wp2_with fail
  go_quiet (fail)
  go_wp2
  try simp only [Exit.inBlock, Exit.then]
  refine oput_ret (g := w.heap.size + 1) (x := .int .i64 0) (y := .int .i64 0) (v := errV 12) (by with_unfolding_all rfl) (by with_unfolding_all rfl) (by with_unfolding_all rfl) (Blk.set_ (Blk.set_ (Blk.drewN (putW_res w x) _) 0 _) 1 _) ?_
  exact ⟨rfl, ((drewN_below HA.out _).setCell (by simp) _).setCell (by simp) _⟩

theorem oreused {w1 : World} {a c d : Nat} {ss : List OSlot} {fr : List Int} {most many : Int} {gs gb i : Nat} (H : OArenaAt w1 a (some ⟨gs, 0, none⟩) c (some ⟨gb, 0, none⟩) d ss (fr ++ [(i : Int)]) most many) (hi : i < ss.length) (m : Int) (x : Ord5) :
    let w5 := (put5 ((w1.setCell ⟨a, 3, none⟩ (.int .i64 m)).setCell ⟨a, 1, none⟩ (.slice (some ⟨gb, 0, none⟩) fr.length d)) gs (i * 7) x).setCell ⟨gs, i * 7 + 6, none⟩ (.bool true)
    OArenaAt w5 a (some ⟨gs, 0, none⟩) c (some ⟨gb, 0, none⟩) d (ss.set i (x, ss[i].2.1, true)) fr most m ∧ Keeps (OFp a (some ⟨gs, 0, none⟩) (some ⟨gb, 0, none⟩)) w1 w5 := by
  intro w5
  have u1 : gs ≠ a := fun e => H.na (by rw [← e]; rfl)
  have u2 : gb ≠ a := fun e => H.nb (by rw [← e]; rfl)
  have u3 : gb ≠ gs := fun e => H.nab gs rfl (by rw [← e]; rfl)
  have k12 := (Keeps.set_ w1 ⟨a, 3, none⟩ (.int .i64 m)).trans (Keeps.set_ _ ⟨a, 1, none⟩ (.slice (some ⟨gb, 0, none⟩) fr.length d)) (fun j h => .inl h)
  have k34 : Keeps (fun j => j = gs) ((w1.setCell ⟨a, 3, none⟩ (.int .i64 m)).setCell ⟨a, 1, none⟩ (.slice (some ⟨gb, 0, none⟩) fr.length d)) w5 := (put5_keeps _ gs (i * 7) x).trans (Keeps.set_ _ ⟨gs, i * 7 + 6, none⟩ (.bool true)) (fun j h => .inl h)
  have hs := (put5_row (H.slots.keeps k12 (fun g hg e => by cases hg; exact u1 e)) (i * 7) x).set (i * 7 + 6) (.bool true)
  have h5 : (flat encS ss)[i * 7 + 5]? = some (.int .i64 ss[i].2.1) := flat_get encS_length ss i hi 5 (by omega)
  have e0 : ((((((flat encS ss).set (i * 7) (.int .i64 x.id)).set (i * 7 + 1) (.int .i64 x.side)).set (i * 7 + 2) (.int .i64 x.kind)).set (i * 7 + 3) (.int .i64 x.price)).set (i * 7 + 4) (.int .i64 x.qty)).set (i * 7 + 6) (.bool true) = flat encS (ss.set i (x, ss[i].2.1, true)) := by
    refine Eq.trans ?_ (slot_sets ss i hi (x, ss[i].2.1, true))
    refine congrArg (fun l => List.set l (i * 7 + 6) (Value.bool true)) (set_same ?_).symm
    rw [List.getElem?_set_ne (by omega), List.getElem?_set_ne (by omega), List.getElem?_set_ne (by omega), List.getElem?_set_ne (by omega), List.getElem?_set_ne (by omega)]
    exact h5
  rw [e0] at hs
  have hf := ((H.free.pop fr.length (by simp)).keeps k12 (fun g hg e => by cases hg; exact u2 e)).keeps k34 (fun g hg e => by cases hg; exact u3 e)
  have e1 : (oIntCells (fr ++ [(i : Int)])).take (fr.length * 1) = oIntCells fr := by
    unfold oIntCells
    rw [List.map_append]
    simp
  rw [e1] at hf
  refine ⟨⟨?_, ?_, hf, H.na, H.nb, H.nab⟩, ?_⟩
  · rw [List.length_set]; exact Blk.keeps (Blk.set_ (Blk.set_ H.blk 3 _) 1 _) k34 (fun e => u1 e.symm)
  · rw [List.length_set]; exact hs
  · exact (k12.mono (fun j h => .inl h)).trans (k34.mono (fun j h => (.inr (.inl (by rw [h]; rfl)) : OFp a (some ⟨gs, 0, none⟩) (some ⟨gb, 0, none⟩) j))) (fun j h => .inl h)

set_option maxRecDepth 100000 in
set_option maxHeartbeats 600000 in
theorem oputOld_any (w : World) (a : Nat) (A : Option Addr) (c : Nat) (B : Option Addr) (d : Nat) (ss : List OSlot) (fr : List Int) (i : Nat) (most many : Int) (x : Ord5) (h : OArenaAt w a A c B d ss (fr ++ [(i : Int)]) most many) (hm : many ≠ most) (hi : i < ss.length) (hfr : fr.length ≤ 2000) :
    Calls Try.prog 41 #[.pointer (some ⟨a, 0, none⟩), aggO x] w fun e w' =>
      e = .returned (.tuple #[.agg #[.int .i64 i, .int .i64 (ss[i].2.1)], errV 0]) ∧ OArenaTo w w' a A B (ss.set i (x, ss[i].2.1, true)) fr most (RowKit.wrap64 (many + 1)) := by
  unfold aggO
  have t1 := beqF hm
  clear hm
  have hA := putW_below w x
  have H0 := h.below hA
  have hbox := putW_box w x
  obtain ⟨q0, q1, q2, q3⟩ := H0.cells
  obtain ⟨gs, rfl, s0, s1, s2, s3, s4, s5, s6⟩ := H0.slot hi
  have f0 := H0.slots.frozen (i * 7)
  have f1 := H0.slots.frozen (i * 7 + 1)
  have f2 := H0.slots.frozen (i * 7 + 2)
  have f3 := H0.slots.frozen (i * 7 + 3)
  have f4 := H0.slots.frozen (i * 7 + 4)
  have f6 := H0.slots.frozen (i * 7 + 6)
  obtain ⟨gb, rfl, y0⟩ := H0.free.cell (j := fr.length) (u := .int .i64 (i : Int)) (by simp [oIntCells])
  have g1 := Blk.frozen H0.blk 1
  have g3 := Blk.frozen H0.blk 3
  have e1 : (fr ++ [(i : Int)]).length = fr.length + 1 := by simp
  rw [e1] at q1
  obtain ⟨n, hn⟩ : ∃ n, fr.length = n := ⟨_, rfl⟩
  rw [hn] at q1 y0
  have hcap : n + 1 ≤ d := by
    rcases H0.free.2 with ⟨hh, _⟩ | ⟨g', cap', cur, hv, _, _, h1, _⟩
    · cases hh
    · cases hv; rw [e1, hn] at h1; exact h1
  have i1 : RowKit.wrap64 (n : Int) = (n : Int) := by unfold RowKit.wrap64; omega
  have u1 : gs ≠ a := fun e => H0.na (by rw [← e]; rfl)
  have u2 : gb ≠ a := fun e => H0.nb (by rw [← e]; rfl)
  have u3 : gb ≠ gs := fun e => H0.nab gs rfl (by rw [← e]; rfl)
  have hla := Blk.lt h.blk
  have hls := h.slots.lt (g := gs) rfl
  have hlb := h.free.lt (g := gb) rfl
  have u4 : a ≠ w.heap.size + 1 := by omega
  have u5 : gs ≠ w.heap.size + 1 := by omega
  have u6 : gb ≠ w.heap.size + 1 := by omega
  have u7 : a ≠ w.heap.size := by omega
  have u8 : gs ≠ w.heap.size := by omega
  have u9 : gb ≠ w.heap.size := by omega
  have i2 : (0 : Int) < (n : Int) + 1 := by omega
  have i3 : (0 : Int) ≤ (n : Int) := by omega
  have i4 : (n : Int) ≤ (d : Int) := by omega
  have i5 : (n : Int) < (n : Int) + 1 := by omega
  have i6 : (0 : Int) ≤ (i : Int) := by omega
  have i7 : (i : Int) < (ss.length : Int) := by omega
  have d1 : decide ((0 : Int) < (n : Int) + 1) = true := decT i2
  have HH := hid H0
  have HA := hid hA
  have Hn := hid hn
  clear H0 hA h hn e1 hbox hla hls hlb
  unfold putW at q0 q1 q2 q3 s0 s1 s2 s3 s4 s5 s6 f0 f1 f2 f3 f4 f6 y0 g1 g3
  go_enter Try.func41, Try.ntmps41
  go_wp2_with fail
  go_quiet (fail)
  go_wp2_with fail
  try simp only [Exit.inBlock, Exit.then]
  have HD : OArenaAt ((putW w x).drewN nq) a (some ⟨gs, 0, none⟩) c (some ⟨gb, 0, none⟩) d ss (fr ++ [(i : Int)]) most many := ⟨HH.out.blk, HH.out.slots, HH.out.free, HH.out.na, HH.out.nb, HH.out.nab⟩
  obtain ⟨hA5, hK5⟩ := oreused HD hi (RowKit.wrap64 (many + 1)) x
  rw [Hn.out] at hA5 hK5
  have hb0 := drewN_below HA.out nq
  have hR : Blk ((putW w x).drewN nq) (w.heap.size + 1) 80 #[.int .i64 0, .int .i64 0] := Blk.drewN (putW_res w x) _
  have hRn : ∀ j, OFp a (some ⟨gs, 0, none⟩) (some ⟨gb, 0, none⟩) j → j ≠ w.heap.size + 1 := by
    rintro j (rfl | h | h)
    · exact u4
    · cases h; exact u5
    · cases h; exact u6
  have hR5 := Blk.keeps hR hK5 (fun h => hRn _ h rfl)
  have hks := (Keeps.set_ ((put5 ((((putW w x).drewN nq).setCell ⟨a, 3, none⟩ (.int .i64 (RowKit.wrap64 (many + 1)))).setCell ⟨a, 1, none⟩ (.slice (some ⟨gb, 0, none⟩) n d)) gs (i * 7) x).setCell ⟨gs, i * 7 + 6, none⟩ (.bool true)) ⟨w.heap.size + 1, 0, none⟩ (.int .i64 (i : Int))).trans (Keeps.set_ _ ⟨w.heap.size + 1, 1, none⟩ (.int .i64 ss[i].2.1)) (fun j h => .inl h)
  refine oput_ret (g := w.heap.size + 1) (x := .int .i64 (i : Int)) (y := .int .i64 ss[i].2.1) (v := errV 0) (by with_unfolding_all rfl) (by with_unfolding_all rfl) (by with_unfolding_all rfl) (Blk.set_ (Blk.set_ hR5 0 _) 1 _) ?_
  refine ⟨rfl, some ⟨gs, 0, none⟩, c, some ⟨gb, 0, none⟩, d, hA5.keeps hks (fun j hj => hRn j hj), ?_, fun j hj => .inl hj⟩
  exact ((Keeps.of_below hb0 _).trans hK5 (fun j h => .inl h)).trans hks (fun j h => .inr (by have : j = w.heap.size + 1 := h; omega))
end Go.Proofs.Ytaagaamamjabbaa
