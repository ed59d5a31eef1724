/-
  Arena.Set at api.Order, of a handle that is there: the arena with the order in its place.
-/
import Derived.Test.YtkcgchpbjegneaaGreatDoorOAr
namespace Go.Proofs.YtkcgchpbjegneaaGreatDoor
open Go.RowKit
set_option linter.unusedVariables false

theorem oset_slot {w1 : World} {a c d : Nat} {B : Option Addr} {ss : List OSlot} {fr : List Int} {most many : Int} {gs k : Nat} (H : OArenaAt w1 a (some ⟨gs, 0, none⟩) c B d ss fr most many) (hk : k < ss.length) (x : Ord5) :
    OArenaAt (put5 w1 gs (k * 7) x) a (some ⟨gs, 0, none⟩) c B d (ss.set k (x, ss[k].2.1, ss[k].2.2)) fr most many ∧ Keeps (OFp a (some ⟨gs, 0, none⟩) B) w1 (put5 w1 gs (k * 7) x) := by
  have hK : Keeps (fun i => i = gs) w1 (put5 w1 gs (k * 7) x) := put5_keeps w1 gs (k * 7) x
  have hs := put5_row H.slots (k * 7) x
  have h5 : (flat encS ss)[k * 7 + 5]? = some (.int .i64 ss[k].2.1) := flat_get encS_length ss k hk 5 (by omega)
  have h6 : (flat encS ss)[k * 7 + 6]? = some (.bool ss[k].2.2) := flat_get encS_length ss k hk 6 (by omega)
  have e0 : ((((((flat encS ss).set (k * 7) (.int .i64 x.id)).set (k * 7 + 1) (.int .i64 x.side)).set (k * 7 + 2) (.int .i64 x.kind)).set (k * 7 + 3) (.int .i64 x.price)).set (k * 7 + 4) (.int .i64 x.qty)) = flat encS (ss.set k (x, ss[k].2.1, ss[k].2.2)) := by
    refine Eq.trans ?_ (slot_sets ss k hk (x, ss[k].2.1, ss[k].2.2))
    dsimp only
    rw [set_same (i := k * 7 + 5), set_same (i := k * 7 + 6)]
    · rw [List.getElem?_set_ne (by omega), List.getElem?_set_ne (by omega), List.getElem?_set_ne (by omega), List.getElem?_set_ne (by omega), List.getElem?_set_ne (by omega)]
      exact h6
    · rw [List.getElem?_set_ne (by omega), List.getElem?_set_ne (by omega), List.getElem?_set_ne (by omega), List.getElem?_set_ne (by omega), List.getElem?_set_ne (by omega)]
      exact h5
  rw [e0] at hs
  refine ⟨⟨?_, ?_, ?_, H.na, H.nb, H.nab⟩, hK.mono (fun i h => .inr (.inl (by rw [h]; rfl)))⟩
  · rw [List.length_set]; exact Blk.keeps H.blk hK (fun h => H.na (congrArg some h.symm))
  · rw [List.length_set]; exact hs
  · exact H.free.keeps hK (fun g hg h => H.nab gs rfl (by rw [hg, h]))

set_option maxRecDepth 100000 in
set_option maxHeartbeats 1000000 in
theorem oarenaSet_any (w : World) (a : Nat) (A : Option Addr) (c : Nat) (B : Option Addr) (d : Nat) (ss : List OSlot) (fr : List Int) (most many s g : Int) (x : Ord5) (h : OArenaAt w a A c B d ss fr most many) (hh : oHasS ss s g = true) :
    Calls Tryz.prog 102 #[.pointer (some ⟨a, 0, none⟩), .agg #[.int .i64 s, .int .i64 g], aggO x] w fun e w' =>
      e = .returned (errV 0) ∧ ∃ k : Nat, ∃ hk : k < ss.length, s = k ∧ ss[k].2.2 = true ∧ ss[k].2.1 = g ∧ OArenaTo w w' a A B (ss.set k (x, ss[k].2.1, ss[k].2.2)) fr most many := by
  have hA : Below w.heap.size w ((w.alloc (.cells #[.int .i64 s, .int .i64 g] 155)).alloc (.cells (boxO x) 24)) := ((Below.refl _ w).alloc (Nat.le_refl _) _).alloc (by simp) _
  have hX : Blk ((w.alloc (.cells #[.int .i64 s, .int .i64 g] 155)).alloc (.cells (boxO x) 24)) (w.heap.size + 1) 24 (boxO x) := by simpa using Blk.new (w.alloc (.cells #[.int .i64 s, .int .i64 g] 155)) 24 (boxO x)
  have HX := hid hX
  have H := hid (h.below hA)
  have HA := hid hA
  have Hh := hid hh
  clear hA hX h hh
  unfold aggO
  go_enter Tryz.func102, Tryz.ntmps102
  go_wp2_with fail
  refine (ofind_any _ a A c B d ss fr most many s g H.out).mono ?_
  rintro e w1 ⟨hB, ⟨hf, rfl⟩ | ⟨hf, k, gs, rfl, hk, rfl, rfl⟩⟩
  · rw [Hh.out] at hf
    cases hf
  · have H1 := H.out.below hB
    have hX1 := Blk.keep HX.out hB
    obtain ⟨x0, x1, x2, x3, x4⟩ := ord_box hX1
    obtain ⟨gs', he, s0, s1, s2, s3, s4, _, _⟩ := H1.slot hk
    cases he
    have f0 := H1.slots.frozen (k * 7)
    have f1 := H1.slots.frozen (k * 7 + 1)
    have f2 := H1.slots.frozen (k * 7 + 2)
    have f3 := H1.slots.frozen (k * 7 + 3)
    have f4 := H1.slots.frozen (k * 7 + 4)
    have hl0 := H1.slots.lt (g := gs) rfl
    rw [oHasS_at hk] at hf
    have hf' : ss[k].2.2 = true ∧ ss[k].2.1 = g := by simpa using hf
    have HO := hid (oset_slot H1 hk x)
    have Hf := hid hf'
    have HB := hid hB
    clear hf hf' hX1 H1 hB
    go_wp2_with fail
    go_ret
    obtain ⟨hO, hK⟩ := HO.out
    refine ⟨rfl, k, hk, rfl, Hf.out.1, Hf.out.2, some ⟨gs, 0, none⟩, c, B, d, hO, ?_, fun i hi => .inl hi⟩
    exact (Keeps.of_below (HA.out.trans (HB.out.mono HA.out.size)) _).trans hK (fun i hi => .inl hi)

theorem oar_set {w : World} {a : Nat} {F : Nat → Prop} {M : Int → Int → Option Ord5} {most n : Nat} (h : OAr w a F M most n) (s g : Int) (hy : (M s g).isSome = true) (x : Ord5) :
    Calls Tryz.prog 102 #[.pointer (some ⟨a, 0, none⟩), .agg #[.int .i64 s, .int .i64 g], aggO x] w fun e w' => e = .returned (errV 0) ∧ OArTo w w' a F (withO M s g (some x)) most n := by
  obtain ⟨A, c, B, d, ss, fr, hA, hI, hL, hM, hF⟩ := h
  refine (oarenaSet_any w a A c B d ss fr _ _ s g x hA (by rw [oView_has, ← hM]; exact hy)).mono ?_
  rintro e w' ⟨rfl, k, hk, rfl, h1, h2, A', c', B', d', hA', hK, hfp⟩
  have hl := oLive_set ss (x, ss[k].2.1, ss[k].2.2) k hk
  have hl' : oLive (ss.set k (x, ss[k].2.1, ss[k].2.2)) = oLive ss := by
    dsimp only at hl
    omega
  refine ⟨rfl, OFp a A' B', ⟨A', c', B', d', _, _, hA', ⟨hI.nodup, ?_, ?_, ?_⟩, by rw [hl']; exact hL, ?_, fun i => Iff.rfl⟩, hK.mono (fun i hi => (hF i).2 hi), fun i hi => (hfp i hi).imp (fun h => (hF i).2 h) id⟩
  · intro i hi
    obtain ⟨j, rfl, hj, hjf⟩ := hI.free i hi
    refine ⟨j, rfl, by rw [List.length_set]; exact hj, ?_⟩
    rw [List.getElem_set]
    split
    · rename_i e
      subst e
      exact hjf
    · exact hjf
  · rw [List.length_set, hl']; exact hI.count
  · rw [List.length_set]; exact hI.cap
  · intro s' g'
    rw [oView_set hk]
    unfold withO
    rw [hM]
    by_cases e1 : s' = (k : Int)
    · subst e1
      rw [if_pos rfl]
      by_cases e2 : g' = g
      · subst e2; simp [h1, h2]
      · have : oView ss (k : Nat) g' = none := by
          unfold oView
          have hh : ss[((k : Nat) : Int).toNat]? = some ss[k] := by simp [hk]
          rw [if_pos (by omega), hh]
          simp [h2]
          intro _ e; exact absurd e.symm e2
        rw [if_neg (by simp [e2]), this, if_neg]
        rintro ⟨_, e⟩
        dsimp only at e
        rw [h2] at e
        exact e2 e.symm
    · rw [if_neg (by simp [e1]), if_neg e1]
end Go.Proofs.YtkcgchpbjegneaaGreatDoor
