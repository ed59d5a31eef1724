/-
  Walks of package arena at api.Order, by a list of slots and a list of freed slots.
-/
import Derived.WalkKit
import Derived.WalkLawsBesides
import Derived.WalkSpells
import Derived.Deep.QuietTactic
import Derived.BigQuiet
import Derived.Deep.AppendLies
import Derived.Deep.RegionHeld3
import Derived.Test.YtaagaamamjabbaaRows
import Derived.Test.YtaagaamamjabbaaRow
import Derived.Test.YtaagaamamjabbaaErrV
import Derived.Test.YtaagaamamjabbaaOrd
import Derived.Test.YtaagaamamjabbaaClear
namespace Go.Proofs.Ytaagaamamjabbaa
open Go.RowKit
set_option linter.unusedVariables false

/-- a slot: its order, its age, is it full -/
abbrev OSlot := Ord5 × Int × Bool
def encS (s : OSlot) : List Value := encO s.1 ++ [.int .i64 s.2.1, .bool s.2.2]
theorem encS_length (s : OSlot) : (encS s).length = 7 := rfl
theorem encS_one (s : OSlot) : ∀ u ∈ encS s, u.oneCell' = true := by
  intro u hu
  simp [encS, encO] at hu
  rcases hu with rfl | rfl | rfl | rfl | rfl | rfl | rfl <;> rfl
def oIntCells (l : List Int) : List Value := l.map fun x => .int .i64 x

structure OArenaAt (w : World) (a : Nat) (A : Option Addr) (c : Nat) (B : Option Addr) (d : Nat) (ss : List OSlot) (fr : List Int) (most many : Int) : Prop where
  blk : Blk w a 112 #[.slice A ss.length c, .slice B fr.length d, .int .i64 most, .int .i64 many]
  slots : RowAt w A ss.length c 116 7 (flat encS ss)
  free : RowAt w B fr.length d 3 1 (oIntCells fr)
  na : blkOf A ≠ some a
  nb : blkOf B ≠ some a
  nab : ∀ g, blkOf A = some g → blkOf B ≠ some g

theorem OArenaAt.slot {w : World} {a c d : Nat} {A B : Option Addr} {ss : List OSlot} {fr : List Int} {most many : Int} (h : OArenaAt w a A c B d ss fr most many) {k : Nat} (hk : k < ss.length) :
    ∃ g, A = some ⟨g, 0, none⟩ ∧ w.cell? ⟨g, k * 7, none⟩ = some (.int .i64 ss[k].1.id) ∧ w.cell? ⟨g, k * 7 + 1, none⟩ = some (.int .i64 ss[k].1.side) ∧ w.cell? ⟨g, k * 7 + 2, none⟩ = some (.int .i64 ss[k].1.kind) ∧
      w.cell? ⟨g, k * 7 + 3, none⟩ = some (.int .i64 ss[k].1.price) ∧ w.cell? ⟨g, k * 7 + 4, none⟩ = some (.int .i64 ss[k].1.qty) ∧ w.cell? ⟨g, k * 7 + 5, none⟩ = some (.int .i64 ss[k].2.1) ∧ w.cell? ⟨g, k * 7 + 6, none⟩ = some (.bool ss[k].2.2) := by
  obtain ⟨g, hg, hc⟩ := h.slots.elem encS_length (by omega) hk
  exact ⟨g, hg, hc 0 _ rfl, hc 1 _ rfl, hc 2 _ rfl, hc 3 _ rfl, hc 4 _ rfl, hc 5 _ rfl, hc 6 _ rfl⟩

theorem OArenaAt.cells {w : World} {a c d : Nat} {A B : Option Addr} {ss : List OSlot} {fr : List Int} {most many : Int} (h : OArenaAt w a A c B d ss fr most many) :
    w.cell? ⟨a, 0, none⟩ = some (.slice A ss.length c) ∧ w.cell? ⟨a, 1, none⟩ = some (.slice B fr.length d) ∧ w.cell? ⟨a, 2, none⟩ = some (.int .i64 most) ∧ w.cell? ⟨a, 3, none⟩ = some (.int .i64 many) := by
  refine ⟨?_, ?_, ?_, ?_⟩ <;> (rw [Blk.cell h.blk]; rfl)

section
variable {w w' : World} {a c d : Nat} {A B : Option Addr} {ss : List OSlot} {fr : List Int} {most many : Int}
/-- the blocks of an arena -/
def OFp (a : Nat) (A B : Option Addr) (i : Nat) : Prop := i = a ∨ blkOf A = some i ∨ blkOf B = some i
theorem OArenaAt.fp (h : OArenaAt w a A c B d ss fr most many) {i : Nat} (hi : OFp a A B i) : i < w.heap.size := by
  rcases hi with rfl | hi | hi
  · exact Blk.lt h.blk
  · exact h.slots.lt hi
  · exact h.free.lt hi
theorem OArenaAt.keeps {S : Nat → Prop} (h : OArenaAt w a A c B d ss fr most many) (hk : Keeps S w w') (hn : ∀ i, OFp a A B i → ¬ S i) : OArenaAt w' a A c B d ss fr most many :=
  ⟨Blk.keeps h.blk hk (hn a (.inl rfl)), h.slots.keeps hk (fun g hg => hn g (.inr (.inl hg))), h.free.keeps hk (fun g hg => hn g (.inr (.inr hg))), h.na, h.nb, h.nab⟩
theorem OArenaAt.below (h : OArenaAt w a A c B d ss fr most many) (hb : Below w.heap.size w w') : OArenaAt w' a A c B d ss fr most many := h.keeps (Keeps.of_below hb (fun _ => False)) (fun _ _ => id)
end

/-- is a thing there -/
def oHasS (ss : List OSlot) (s g : Int) : Bool := decide (0 ≤ s) && match ss[s.toNat]? with | some (_, age, full) => full && (age == g) | none => false
def noO : Ord5 := ⟨0, 0, 0, 0, 0⟩
def oTheS (ss : List OSlot) (s : Int) : Ord5 := match ss[s.toNat]? with | some (x, _, _) => x | none => noO

theorem oHasS_at {ss : List OSlot} {k : Nat} {g : Int} (h : k < ss.length) : oHasS ss k g = (ss[k].2.2 && (ss[k].2.1 == g)) := by
  simp [oHasS, h]
theorem oHasS_neg {ss : List OSlot} {s g : Int} (h : s < 0) : oHasS ss s g = false := by
  simp [oHasS]; omega
theorem oHasS_far {ss : List OSlot} {s g : Int} (h0 : 0 ≤ s) (h : (ss.length : Int) ≤ s) : oHasS ss s g = false := by
  have : ss[s.toNat]? = none := List.getElem?_eq_none (by omega)
  simp [oHasS, this]

set_option maxRecDepth 100000 in
set_option maxHeartbeats 1000000 in
theorem ofind_any (w : World) (a : Nat) (A : Option Addr) (c : Nat) (B : Option Addr) (d : Nat) (ss : List OSlot) (fr : List Int) (most many s g : Int) (h : OArenaAt w a A c B d ss fr most many) :
    Calls Try.prog 67 #[.pointer (some ⟨a, 0, none⟩), .agg #[.int .i64 s, .int .i64 g]] w fun e w' =>
      Below w.heap.size w w' ∧ ((oHasS ss s g = false ∧ e = .returned (.pointer none)) ∨ (oHasS ss s g = true ∧ ∃ k gs, s = (k : Nat) ∧ k < ss.length ∧ A = some ⟨gs, 0, none⟩ ∧ e = .returned (.pointer (some ⟨gs, k * 7, none⟩)))) := by
  have c0 := h.cells.1
  have hlt := Blk.lt h.blk
  have z0 := (World.cell?_alloc_lt w (.cells #[.int .i64 s, .int .i64 g] 80) ⟨a, 0, none⟩ hlt).trans c0
  have HB := hid (show Below w.heap.size w (w.alloc (.cells #[.int .i64 s, .int .i64 g] 80)) from (Below.refl _ w).alloc (Nat.le_refl _) _)
  by_cases h1 : s < 0
  · have d1 := decT h1
    have E := hid (oHasS_neg (ss := ss) (g := g) h1)
    clear h1
    go_enter Try.func67, Try.ntmps67
    go_wp2_with fail
    go_quiet (fail)
    go_wp2
    go_ret
    exact ⟨drewN_below HB.out _, .inl ⟨E.out, rfl⟩⟩
  · have d1 := decF h1
    by_cases h2 : (ss.length : Int) ≤ s
    · have d2 := decT h2
      have E := hid (oHasS_far (ss := ss) (g := g) (by omega) h2)
      clear h1 h2
      go_enter Try.func67, Try.ntmps67
      go_wp2_with fail
      go_quiet (fail)
      go_wp2
      go_ret
      exact ⟨drewN_below HB.out _, .inl ⟨E.out, rfl⟩⟩
    · have d2 := decF h2
      obtain ⟨k, rfl⟩ : ∃ k : Nat, s = k := ⟨s.toNat, by omega⟩
      have hk : k < ss.length := by omega
      have i1 : (0 : Int) ≤ (k : Int) := by omega
      have i2 : (k : Int) < (ss.length : Int) := by omega
      obtain ⟨gs, rfl, s0, _, _, _, _, s1, s2⟩ := h.slot hk
      have hgs := World.block_lt_of_cell? w _ s0
      replace s1 := (World.cell?_alloc_lt w (.cells #[.int .i64 k, .int .i64 g] 80) ⟨gs, k * 7 + 5, none⟩ hgs).trans s1
      replace s2 := (World.cell?_alloc_lt w (.cells #[.int .i64 k, .int .i64 g] 80) ⟨gs, k * 7 + 6, none⟩ hgs).trans s2
      have Hh := hid (oHasS_at (g := g) hk)
      generalize ss[k].2.1 = age at s1 Hh
      cases hf : ss[k].2.2
      · rw [hf] at s2
        have E : Hid (oHasS ss k g = false) := hid (by rw [Hh.out, hf]; rfl)
        clear h1 h2 s0 hf
        go_enter Try.func67, Try.ntmps67
        go_wp2_with fail
        go_quiet (fail)
        go_wp2_with fail
        go_quiet (fail)
        go_wp2_with fail
        go_quiet (fail)
        go_wp2
        go_ret
        exact ⟨drewN_below (drewN_below (drewN_below HB.out _) _) _, .inl ⟨E.out, rfl⟩⟩
      · rw [hf] at s2
        by_cases ha : age = g
        · have b1 := beqT ha
          have E : Hid (oHasS ss k g = true) := hid (by rw [Hh.out, hf, b1]; rfl)
          clear h1 h2 s0 hf ha
          go_enter Try.func67, Try.ntmps67
          go_wp2_with fail
          go_quiet (fail)
          go_wp2_with fail
          go_quiet (fail)
          go_wp2_with fail
          go_quiet (fail)
          go_wp2
          go_ret
          exact ⟨drewN_below (drewN_below (drewN_below HB.out _) _) _, .inr ⟨E.out, k, gs, rfl, hk, rfl, rfl⟩⟩
        · have b1 := beqF ha
          have E : Hid (oHasS ss k g = false) := hid (by rw [Hh.out, hf, b1]; rfl)
          clear h1 h2 s0 hf ha
          go_enter Try.func67, Try.ntmps67
          go_wp2_with fail
          go_quiet (fail)
          go_wp2_with fail
          go_quiet (fail)
          go_wp2_with fail
          go_quiet (fail)
          go_wp2
          go_ret
          exact ⟨drewN_below (drewN_below (drewN_below HB.out _) _) _, .inl ⟨E.out, rfl⟩⟩
end Go.Proofs.Ytaagaamamjabbaa
