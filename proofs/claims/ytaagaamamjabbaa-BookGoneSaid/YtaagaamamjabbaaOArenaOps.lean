/-
  Walks of arena.New, Get, Set, Take, Put, Many at api.Order.
-/
import Derived.WalkKit
import Derived.WalkLawsBesides
import Derived.WalkSpells
import Derived.Deep.QuietTactic
import Derived.BigQuiet
import Derived.Deep.AppendLies
import Derived.Deep.RegionHeld3
import Derived.Test.YtaagaamamjabbaaOArena
namespace Go.Proofs.Ytaagaamamjabbaa
open Go.RowKit
set_option linter.unusedVariables false

/-- the arena afterwards: who may have turned, and whose its blocks are -/
def OArenaTo (w w' : World) (a : Nat) (A B : Option Addr) (ss : List OSlot) (fr : List Int) (most many : Int) : Prop :=
  ∃ A' c' B' d', OArenaAt w' a A' c' B' d' ss fr most many ∧ Keeps (OFp a A B) w w' ∧ ∀ i, OFp a A' B' i → OFp a A B i ∨ w.heap.size ≤ i

theorem oarenaMany_any (w : World) (a : Nat) (A : Option Addr) (c : Nat) (B : Option Addr) (d : Nat) (ss : List OSlot) (fr : List Int) (most many : Int) (h : OArenaAt w a A c B d ss fr most many) :
    Calls Try.prog 45 #[.pointer (some ⟨a, 0, none⟩)] w fun e w' => e = .returned (.int .i64 many) ∧ w = w' := by
  have c3 := h.cells.2.2.2
  go_enter Try.func45, Try.ntmps45
  go_wp2
  go_ret
  exact ⟨rfl, rfl⟩

theorem oarenaNew_any (most : Int) (w : World) : Calls Try.prog 38 #[.int .i64 most] w fun e w' =>
    Below w.heap.size w w' ∧ ((most < 1 ∨ 1000 < most) ∧ e = .returned (.tuple #[.pointer none, errV 2]) ∨
      (1 ≤ most ∧ most ≤ 1000) ∧ ∃ a, w.heap.size ≤ a ∧ e = .returned (.tuple #[.pointer (some ⟨a, 0, none⟩), .nilIface]) ∧ OArenaAt w' a none 0 none 0 [] [] most 0) := by
  by_cases h1 : most < 1
  · have d1 := decT h1
    have H1 := hid h1
    clear h1
    go_enter Try.func38, Try.ntmps38
    go_wp2
    go_ret2
    exact ⟨Below.refl _ _, .inl ⟨.inl H1.out, rfl⟩⟩
  · have d1 := decF h1
    by_cases h2 : 1000 < most
    · have d2 := decT h2
      have H2 := hid h2
      clear h1 h2
      go_enter Try.func38, Try.ntmps38
      go_wp2
      go_ret2
      exact ⟨Below.refl _ _, .inl ⟨.inr H2.out, rfl⟩⟩
    · have d2 := decF h2
      have H2 := hid (show 1 ≤ most ∧ most ≤ 1000 by omega)
      clear h1 h2
      go_enter Try.func38, Try.ntmps38
      go_wp2
      go_ret2
      refine ⟨(Below.refl _ w).alloc (Nat.le_refl _) _, .inr ⟨H2.out, w.heap.size, Nat.le_refl _, rfl, ⟨Blk.new _ _ _, World.ownsRow_nil _ _ _ _, World.ownsRow_nil _ _ _ _, ?_, ?_, ?_⟩⟩⟩
      · simp [blkOf]
      · simp [blkOf]
      · simp [blkOf]

/-- what Get gives, and which error -/
def oGetS (ss : List OSlot) (s g : Int) : Ord5 := if oHasS ss s g = true then oTheS ss s else noO
def oHasE (ss : List OSlot) (s g : Int) : Int := if oHasS ss s g = true then 0 else 7
theorem oGetS_no {ss : List OSlot} {s g : Int} (h : oHasS ss s g = false) : oGetS ss s g = noO := by simp [oGetS, h]
theorem oHasE_no {ss : List OSlot} {s g : Int} (h : oHasS ss s g = false) : oHasE ss s g = 7 := by simp [oHasE, h]
theorem oGetS_yes {ss : List OSlot} {s g : Int} (h : oHasS ss s g = true) : oGetS ss s g = oTheS ss s := by simp [oGetS, h]
theorem oHasE_yes {ss : List OSlot} {s g : Int} (h : oHasS ss s g = true) : oHasE ss s g = 0 := by simp [oHasE, h]
theorem oTheS_at {ss : List OSlot} {k : Nat} (h : k < ss.length) : oTheS ss (k : Nat) = ss[k].1 := by
  simp [oTheS, h]

theorem oget_ret {w : World} {t : Act} {Q : Ending → World → Prop} {g : Nat} {cs : Array Value} {v : Value} (hp : t.tmps.getD 4 undef = .pointer (some ⟨g, 0, none⟩)) (h5 : t.tmps.getD 5 undef = v) (hd : t.defers = [])
    (hg : Blk w g 41 cs) (hs : cs.size = 5) (h : Q (.returned (.tuple #[.agg cs, v])) w) : bodyPost Try.prog Try.f65 Q .ret t w := by
  refine bodyPost_ret (v := .tuple #[.agg cs, v]) ?_ hd h
  have hl := run_loadVar_row (P := Try.prog) w g _ 41 cs (0, 0) _ hg Try.underlying41 rfl (by rw [hs]; kernel_rfl)
  have hp' : t.tmps[4]?.getD undef = .pointer (some ⟨g, 0, none⟩) := by simpa using hp
  have h5' : t.tmps[5]?.getD undef = v := by simpa using h5
  simp [results, Try.results65, hp', h5', asAddr, hl]

set_option maxRecDepth 100000 in
set_option maxHeartbeats 400000 in
theorem oarenaGet_any (w : World) (a : Nat) (A : Option Addr) (c : Nat) (B : Option Addr) (d : Nat) (ss : List OSlot) (fr : List Int) (most many s g : Int) (h : OArenaAt w a A c B d ss fr most many) :
    Calls Try.prog 65 #[.pointer (some ⟨a, 0, none⟩), .agg #[.int .i64 s, .int .i64 g]] w fun e w' =>
      e = .returned (.tuple #[aggO (oGetS ss s g), errV (oHasE ss s g)]) ∧ Below w.heap.size w w' := by
  have hA : Below w.heap.size w ((w.alloc (.cells #[.int .i64 s, .int .i64 g] 80)).alloc (.cells #[.int .i64 0, .int .i64 0, .int .i64 0, .int .i64 0, .int .i64 0] 41)) := ((Below.refl _ w).alloc (Nat.le_refl _) _).alloc (by simp) _
  have HA := hid hA
  have H := hid (h.below hA)
  have hz : Blk ((w.alloc (.cells #[.int .i64 s, .int .i64 g] 80)).alloc (.cells #[.int .i64 0, .int .i64 0, .int .i64 0, .int .i64 0, .int .i64 0] 41)) (w.heap.size + 1) 41 #[.int .i64 0, .int .i64 0, .int .i64 0, .int .i64 0, .int .i64 0] := by simpa using Blk.new (w.alloc (.cells #[.int .i64 s, .int .i64 g] 80)) 41 #[.int .i64 0, .int .i64 0, .int .i64 0, .int .i64 0, .int .i64 0]
  have HZ := hid hz
  clear hA h hz
  go_enter Try.func65, Try.ntmps65
  go_wp2_with fail
  refine (ofind_any _ a A c B d ss fr most many s g H.out).mono ?_
  rintro e w1 ⟨hB, hcase⟩
  have hZ1 := Blk.keep HZ.out hB
  have z0 : w1.cell? ⟨w.heap.size + 1, 0, none⟩ = some (.int .i64 0) := by rw [Blk.cell hZ1]; rfl
  have z1 : w1.cell? ⟨w.heap.size + 1, 1, none⟩ = some (.int .i64 0) := by rw [Blk.cell hZ1]; rfl
  have z2 : w1.cell? ⟨w.heap.size + 1, 2, none⟩ = some (.int .i64 0) := by rw [Blk.cell hZ1]; rfl
  have z3 : w1.cell? ⟨w.heap.size + 1, 3, none⟩ = some (.int .i64 0) := by rw [Blk.cell hZ1]; rfl
  have z4 : w1.cell? ⟨w.heap.size + 1, 4, none⟩ = some (.int .i64 0) := by rw [Blk.cell hZ1]; rfl
  have y0 := Blk.frozen hZ1 0
  have y1 := Blk.frozen hZ1 1
  have y2 := Blk.frozen hZ1 2
  have y3 := Blk.frozen hZ1 3
  have y4 := Blk.frozen hZ1 4
  have hlt := Blk.lt hZ1
  have HZ1 := hid hZ1
  have hB1 := HA.out.trans (hB.mono (by simp; omega))
  have HB1 := hid hB1
  clear hZ1 hB1
  rcases hcase with ⟨hf, rfl⟩ | ⟨hf, k, gs, rfl, hk, rfl, rfl⟩
  · have E := hid hf
    clear hf hB
    go_wp2_with fail
    try simp only [Exit.inBlock, Exit.then]
    refine oget_ret (g := w.heap.size + 1) (cs := #[.int .i64 0, .int .i64 0, .int .i64 0, .int .i64 0, .int .i64 0]) (v := errV 7) (by with_unfolding_all rfl) (by with_unfolding_all rfl) (by with_unfolding_all rfl) (Blk.alloc (Blk.set_ (Blk.set_ (Blk.set_ (Blk.set_ (Blk.set_ HZ1.out 0 _) 1 _) 2 _) 3 _) 4 _) _) rfl ?_
    refine ⟨by rw [oGetS_no E.out, oHasE_no E.out]; rfl, ?_⟩
    have hs := HB1.out.size
    exact (((((HB1.out.setCell (by simp) _).setCell (by simp) _).setCell (by simp) _).setCell (by simp) _).setCell (by simp) _).alloc (by simpa [World.setCell] using hs) _
  · have E := hid hf
    clear hf
    obtain ⟨gs', he, s0, s1, s2, s3, s4, _, _⟩ := (H.out.below hB).slot hk
    cases he
    have T := hid (oTheS_at hk)
    generalize ss[k].1 = x at s0 s1 s2 s3 s4 T
    clear hB
    go_wp2_with fail
    try simp only [Exit.inBlock, Exit.then]
    refine oget_ret (g := w.heap.size + 1) (cs := boxO x) (v := errV 0) (by with_unfolding_all rfl) (by with_unfolding_all rfl) (by with_unfolding_all rfl) (Blk.set_ (Blk.set_ (Blk.set_ (Blk.set_ (Blk.set_ HZ1.out 0 _) 1 _) 2 _) 3 _) 4 _) rfl ?_
    refine ⟨by rw [oGetS_yes E.out, oHasE_yes E.out, T.out]; rfl, ?_⟩
    exact ((((HB1.out.setCell (by simp) _).setCell (by simp) _).setCell (by simp) _).setCell (by simp) _).setCell (by simp) _
end Go.Proofs.Ytaagaamamjabbaa
