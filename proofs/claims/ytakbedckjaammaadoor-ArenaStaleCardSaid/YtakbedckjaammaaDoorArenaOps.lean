/-
  Walks of arena.New, Get, Set, Take, Put, Many at int.
-/
import Derived.WalkKit
import Derived.WalkLawsBesides
import Derived.WalkSpells
import Derived.Deep.QuietTactic
import Derived.BigQuiet
import Derived.Deep.AppendLies
import Derived.Deep.RegionHeld3
import Derived.Test.YtakbedckjaammaaDoorArena
namespace Go.Proofs.YtakbedckjaammaaDoor
open Go.RowKit

/-- the arena afterwards: who may have turned, and whose its blocks are -/
def ArenaTo (w w' : World) (a : Nat) (A B : Option Addr) (ss : List SlotT) (fr : List Int) (most many : Int) : Prop :=
  ∃ A' c' B' d', ArenaAt w' a A' c' B' d' ss fr most many ∧ Keeps (FpA a A B) w w' ∧ ∀ i, FpA a A' B' i → FpA a A B i ∨ w.heap.size ≤ i

theorem arenaMany_any (w : World) (a : Nat) (A : Option Addr) (c : Nat) (B : Option Addr) (d : Nat) (ss : List SlotT) (fr : List Int) (most many : Int) (h : ArenaAt w a A c B d ss fr most many) :
    Calls Tryd.prog 20 #[.pointer (some ⟨a, 0, none⟩)] w fun e w' => e = .returned (.int .i64 many) ∧ w = w' := by
  have c3 := h.cells.2.2.2
  go_enter Tryd.func20, Tryd.ntmps20
  go_wp2
  go_ret
  exact ⟨rfl, rfl⟩

theorem arenaNew_any (most : Int) (w : World) : Calls Tryd.prog 14 #[.int .i64 most] w fun e w' =>
    Below w.heap.size w w' ∧ ((most < 1 ∨ 1000 < most) ∧ e = .returned (.tuple #[.pointer none, errV 2]) ∨
      (1 ≤ most ∧ most ≤ 1000) ∧ ∃ a, w.heap.size ≤ a ∧ e = .returned (.tuple #[.pointer (some ⟨a, 0, none⟩), .nilIface]) ∧ ArenaAt w' a none 0 none 0 [] [] most 0) := by
  by_cases h1 : most < 1
  · have d1 := decT h1
    have H1 := hid h1
    clear h1
    go_enter Tryd.func14, Tryd.ntmps14
    go_wp2
    go_ret2
    exact ⟨Below.refl _ _, .inl ⟨.inl H1.out, rfl⟩⟩
  · have d1 := decF h1
    by_cases h2 : 1000 < most
    · have d2 := decT h2
      have H2 := hid h2
      clear h1 h2
      go_enter Tryd.func14, Tryd.ntmps14
      go_wp2
      go_ret2
      exact ⟨Below.refl _ _, .inl ⟨.inr H2.out, rfl⟩⟩
    · have d2 := decF h2
      have H2 := hid (show 1 ≤ most ∧ most ≤ 1000 by omega)
      clear h1 h2
      go_enter Tryd.func14, Tryd.ntmps14
      go_wp2
      go_ret2
      refine ⟨(Below.refl _ w).alloc (Nat.le_refl _) _, .inr ⟨H2.out, w.heap.size, Nat.le_refl _, rfl, ⟨Blk.new _ _ _, World.ownsRow_nil _ _ _ _, World.ownsRow_nil _ _ _ _, ?_, ?_, ?_⟩⟩⟩
      · simp [blkOf]
      · simp [blkOf]
      · simp [blkOf]

/-- what Get gives, and which error -/
def getS (ss : List SlotT) (s g : Int) : Int := if hasS ss s g = true then theS ss s else 0
def hasE (ss : List SlotT) (s g : Int) : Int := if hasS ss s g = true then 0 else 7
theorem getS_no {ss : List SlotT} {s g : Int} (h : hasS ss s g = false) : getS ss s g = 0 := by simp [getS, h]
theorem hasE_no {ss : List SlotT} {s g : Int} (h : hasS ss s g = false) : hasE ss s g = 7 := by simp [hasE, h]
theorem getS_yes {ss : List SlotT} {s g : Int} (h : hasS ss s g = true) : getS ss s g = theS ss s := by simp [getS, h]
theorem hasE_yes {ss : List SlotT} {s g : Int} (h : hasS ss s g = true) : hasE ss s g = 0 := by simp [hasE, h]
theorem theS_at {ss : List SlotT} {k : Nat} (h : k < ss.length) : theS ss (k : Nat) = ss[k].1 := by
  simp [theS, h]

set_option maxRecDepth 100000 in
set_option maxHeartbeats 1000000 in
theorem arenaGet_any (w : World) (a : Nat) (A : Option Addr) (c : Nat) (B : Option Addr) (d : Nat) (ss : List SlotT) (fr : List Int) (most many s g : Int) (h : ArenaAt w a A c B d ss fr most many) :
    Calls Tryd.prog 19 #[.pointer (some ⟨a, 0, none⟩), .agg #[.int .i64 s, .int .i64 g]] w fun e w' =>
      e = .returned (.tuple #[.int .i64 (getS ss s g), errV (hasE ss s g)]) ∧ Below w.heap.size w w' := by
  have hA : Below w.heap.size w (w.alloc (.cells #[.int .i64 s, .int .i64 g] 42)) := (Below.refl _ w).alloc (Nat.le_refl _) _
  have HA := hid hA
  have H := hid (h.below hA)
  clear hA h
  go_enter Tryd.func19, Tryd.ntmps19
  go_wp2_with fail
  refine (find_any _ a A c B d ss fr most many s g H.out).mono ?_
  rintro e w1 ⟨hB, ⟨hf, rfl⟩ | ⟨hf, k, gs, rfl, hk, rfl, rfl⟩⟩
  · have E := hid hf
    clear hf
    go_wp2
    go_ret2
    exact ⟨by rw [getS_no E.out, hasE_no E.out]; rfl, HA.out.trans (hB.mono (by simp))⟩
  · have E := hid hf
    clear hf
    obtain ⟨gs', he, s0, _, _⟩ := (H.out.below hB).slot hk
    cases he
    have T := hid (theS_at hk)
    generalize ss[k].1 = x at s0 T
    go_wp2
    go_ret2
    exact ⟨by rw [getS_yes E.out, hasE_yes E.out, T.out]; rfl, HA.out.trans (hB.mono (by simp))⟩

/-- a thing changed -/
def setS (ss : List SlotT) (s x : Int) : List SlotT := match ss[s.toNat]? with | some v => ss.set s.toNat (x, v.2.1, v.2.2) | none => ss
def setTo (ss : List SlotT) (s g x : Int) : List SlotT := if hasS ss s g = true then setS ss s x else ss
theorem setTo_no {ss : List SlotT} {s g x : Int} (h : hasS ss s g = false) : setTo ss s g x = ss := by simp [setTo, h]
theorem setTo_yes {ss : List SlotT} {s g x : Int} (h : hasS ss s g = true) : setTo ss s g x = setS ss s x := by simp [setTo, h]
theorem setS_at {ss : List SlotT} {k : Nat} (x : Int) (h : k < ss.length) : setS ss (k : Nat) x = ss.set k (x, ss[k].2.1, ss[k].2.2) := by
  simp [setS, h]

set_option maxRecDepth 100000 in
set_option maxHeartbeats 1000000 in
theorem arenaSet_any (w : World) (a : Nat) (A : Option Addr) (c : Nat) (B : Option Addr) (d : Nat) (ss : List SlotT) (fr : List Int) (most many s g x : Int) (h : ArenaAt w a A c B d ss fr most many) :
    Calls Tryd.prog 40 #[.pointer (some ⟨a, 0, none⟩), .agg #[.int .i64 s, .int .i64 g], .int .i64 x] w fun e w' =>
      e = .returned (errV (hasE ss s g)) ∧ ArenaTo w w' a A B (setTo ss s g x) fr most many := by
  have hA : Below w.heap.size w (w.alloc (.cells #[.int .i64 s, .int .i64 g] 42)) := (Below.refl _ w).alloc (Nat.le_refl _) _
  have HA := hid hA
  have H := hid (h.below hA)
  clear hA h
  go_enter Tryd.func40, Tryd.ntmps40
  go_wp2_with fail
  refine (find_any _ a A c B d ss fr most many s g H.out).mono ?_
  rintro e w1 ⟨hB, ⟨hf, rfl⟩ | ⟨hf, k, gs, rfl, hk, rfl, rfl⟩⟩
  · have E := hid hf
    clear hf
    go_wp2
    go_ret
    exact ⟨by rw [hasE_no E.out]; rfl, by rw [setTo_no E.out]; exact ⟨A, c, B, d, H.out.below hB, Keeps.of_below (HA.out.trans (hB.mono (by simp))) _, fun i hi => .inl hi⟩⟩
  · have E := hid hf
    clear hf
    have H1 := H.out.below hB
    obtain ⟨gs', he, s0, _, _⟩ := H1.slot hk
    cases he
    have f0 := H1.slots.frozen (k * 3)
    have T := hid (setS_at x hk)
    have hc := slotCells_set ss k hk x 0 false
    have HC := hid hc.1
    have hlen : ∀ v, (ss.set k v).length = ss.length := fun v => by simp
    have H1' := hid H1
    clear H1 hc
    go_wp2
    go_ret
    refine ⟨by rw [hasE_yes E.out]; rfl, ?_⟩
    rw [setTo_yes E.out, T.out]
    have H1 := H1'.out
    have hs := H1.slots.set (k * 3) (.int .i64 x)
    rw [HC.out] at hs
    have hk2 := Keeps.set_ w1 ⟨gs, k * 3, none⟩ (.int .i64 x)
    refine ⟨some ⟨gs, 0, none⟩, c, B, d, ⟨?_, ?_, ?_, H1.na, H1.nb, H1.nab⟩, ?_, fun i hi => .inl hi⟩
    · rw [hlen]; exact Blk.keeps H1.blk hk2 (fun h => H1.na (congrArg some h.symm))
    · rw [hlen]; exact hs
    · exact H1.free.keeps hk2 (fun g hg h => H1.nab gs rfl (by rw [hg, h]))
    · exact (Keeps.of_below (HA.out.trans (hB.mono (by simp))) _).trans hk2 (fun i hi => .inl (.inr (.inl (by rw [hi]; rfl))))
end Go.Proofs.YtakbedckjaammaaDoor
