/-
  Walks of package arena at int, by a list of slots and a list of freed slots.
-/
import Derived.WalkKit
import Derived.WalkLawsBesides
import Derived.WalkSpells
import Derived.Deep.QuietTactic
import Derived.BigQuiet
import Derived.Deep.AppendLies
import Derived.Deep.RegionHeld3
import Derived.Test.YtakbedckjaammaaDoorRows
import Derived.Test.YtakbedckjaammaaDoorRow
import Derived.Test.YtakbedckjaammaaDoorNum2
namespace Go.Proofs.YtakbedckjaammaaDoor
open Go.RowKit

/-- a slot: its thing, its age, is it full -/
abbrev SlotT := Int × Int × Bool
def slotCells (ss : List SlotT) : List Value := ss.flatMap fun s => [.int .i64 s.1, .int .i64 s.2.1, .bool s.2.2]
def intCells (l : List Int) : List Value := l.map fun x => .int .i64 x
theorem slotCells_length (ss : List SlotT) : (slotCells ss).length = ss.length * 3 := by
  induction ss with
  | nil => rfl
  | cons p ps ih => simp [slotCells] at ih ⊢; omega
theorem slotCells_get (ss : List SlotT) : ∀ i (h : i < ss.length), (slotCells ss)[i * 3]? = some (.int .i64 ss[i].1) ∧ (slotCells ss)[i * 3 + 1]? = some (.int .i64 ss[i].2.1) ∧ (slotCells ss)[i * 3 + 2]? = some (.bool ss[i].2.2) := by
  induction ss with
  | nil => intro i hi; simp at hi
  | cons p ps ih =>
    intro i hi
    cases i with
    | zero => simp [slotCells]
    | succ k =>
      have h := ih k (by simpa using hi)
      have e1 : (k + 1) * 3 = k * 3 + 1 + 1 + 1 := by omega
      simp only [slotCells, List.flatMap_cons, List.cons_append, List.nil_append, e1, List.getElem?_cons_succ, List.getElem_cons_succ] at h ⊢
      exact h

theorem slotCells_set (ss : List SlotT) : ∀ k (h : k < ss.length) (x a : Int) (f : Bool),
    (slotCells ss).set (k * 3) (.int .i64 x) = slotCells (ss.set k (x, ss[k].2.1, ss[k].2.2)) ∧ (slotCells ss).set (k * 3 + 1) (.int .i64 a) = slotCells (ss.set k (ss[k].1, a, ss[k].2.2)) ∧ (slotCells ss).set (k * 3 + 2) (.bool f) = slotCells (ss.set k (ss[k].1, ss[k].2.1, f)) := by
  induction ss with
  | nil => intro k hk; simp at hk
  | cons p ps ih =>
    intro k hk x a f
    cases k with
    | zero => simp [slotCells]
    | succ k =>
      have h := ih k (by simpa using hk) x a f
      have e1 : (k + 1) * 3 = k * 3 + 1 + 1 + 1 := by omega
      simp only [slotCells, List.flatMap_cons, List.cons_append, List.nil_append, e1, List.set_cons_succ, List.getElem_cons_succ] at h ⊢
      refine ⟨?_, ?_, ?_⟩
      · rw [h.1]
      · rw [h.2.1]
      · rw [h.2.2]

structure ArenaAt (w : World) (a : Nat) (A : Option Addr) (c : Nat) (B : Option Addr) (d : Nat) (ss : List SlotT) (fr : List Int) (most many : Int) : Prop where
  blk : Blk w a 94 #[.slice A ss.length c, .slice B fr.length d, .int .i64 most, .int .i64 many]
  slots : RowAt w A ss.length c 98 3 (slotCells ss)
  free : RowAt w B fr.length d 3 1 (intCells fr)
  na : blkOf A ≠ some a
  nb : blkOf B ≠ some a
  nab : ∀ g, blkOf A = some g → blkOf B ≠ some g

theorem ArenaAt.slot {w : World} {a c d : Nat} {A B : Option Addr} {ss : List SlotT} {fr : List Int} {most many : Int} (h : ArenaAt w a A c B d ss fr most many) {k : Nat} (hk : k < ss.length) :
    ∃ g, A = some ⟨g, 0, none⟩ ∧ w.cell? ⟨g, k * 3, none⟩ = some (.int .i64 ss[k].1) ∧ w.cell? ⟨g, k * 3 + 1, none⟩ = some (.int .i64 ss[k].2.1) ∧ w.cell? ⟨g, k * 3 + 2, none⟩ = some (.bool ss[k].2.2) := by
  obtain ⟨e0, e1, e2⟩ := slotCells_get ss k hk
  obtain ⟨g, rfl, c0⟩ := h.slots.cell e0
  obtain ⟨g1, h1, c1⟩ := h.slots.cell e1
  obtain ⟨g2, h2, c2⟩ := h.slots.cell e2
  cases h1
  cases h2
  exact ⟨g, rfl, c0, c1, c2⟩

theorem ArenaAt.cells {w : World} {a c d : Nat} {A B : Option Addr} {ss : List SlotT} {fr : List Int} {most many : Int} (h : ArenaAt w a A c B d ss fr most many) :
    w.cell? ⟨a, 0, none⟩ = some (.slice A ss.length c) ∧ w.cell? ⟨a, 1, none⟩ = some (.slice B fr.length d) ∧ w.cell? ⟨a, 2, none⟩ = some (.int .i64 most) ∧ w.cell? ⟨a, 3, none⟩ = some (.int .i64 many) := by
  refine ⟨?_, ?_, ?_, ?_⟩ <;> (rw [Blk.cell h.blk]; rfl)

section
variable {w w' : World} {a c d : Nat} {A B : Option Addr} {ss : List SlotT} {fr : List Int} {most many : Int}
/-- the blocks of an arena -/
def FpA (a : Nat) (A B : Option Addr) (i : Nat) : Prop := i = a ∨ blkOf A = some i ∨ blkOf B = some i
theorem ArenaAt.fp (h : ArenaAt w a A c B d ss fr most many) {i : Nat} (hi : FpA a A B i) : i < w.heap.size := by
  rcases hi with rfl | hi | hi
  · exact Blk.lt h.blk
  · exact h.slots.lt hi
  · exact h.free.lt hi
theorem ArenaAt.keeps {S : Nat → Prop} (h : ArenaAt w a A c B d ss fr most many) (hk : Keeps S w w') (hn : ∀ i, FpA a A B i → ¬ S i) : ArenaAt w' a A c B d ss fr most many :=
  ⟨Blk.keeps h.blk hk (hn a (.inl rfl)), h.slots.keeps hk (fun g hg => hn g (.inr (.inl hg))), h.free.keeps hk (fun g hg => hn g (.inr (.inr hg))), h.na, h.nb, h.nab⟩
theorem ArenaAt.below (h : ArenaAt w a A c B d ss fr most many) (hb : Below w.heap.size w w') : ArenaAt w' a A c B d ss fr most many := h.keeps (Keeps.of_below hb (fun _ => False)) (fun _ _ => id)
end

/-- is a thing there -/
def hasS (ss : List SlotT) (s g : Int) : Bool := decide (0 ≤ s) && match ss[s.toNat]? with | some (_, age, full) => full && (age == g) | none => false
def theS (ss : List SlotT) (s : Int) : Int := match ss[s.toNat]? with | some (x, _, _) => x | none => 0

theorem hasS_at {ss : List SlotT} {k : Nat} {g : Int} (h : k < ss.length) : hasS ss k g = (ss[k].2.2 && (ss[k].2.1 == g)) := by
  simp [hasS, h]
theorem hasS_neg {ss : List SlotT} {s g : Int} (h : s < 0) : hasS ss s g = false := by
  simp [hasS]; omega
theorem hasS_far {ss : List SlotT} {s g : Int} (h0 : 0 ≤ s) (h : (ss.length : Int) ≤ s) : hasS ss s g = false := by
  have : ss[s.toNat]? = none := List.getElem?_eq_none (by omega)
  simp [hasS, this]

set_option maxRecDepth 100000 in
set_option maxHeartbeats 1000000 in
theorem find_any (w : World) (a : Nat) (A : Option Addr) (c : Nat) (B : Option Addr) (d : Nat) (ss : List SlotT) (fr : List Int) (most many s g : Int) (h : ArenaAt w a A c B d ss fr most many) :
    Calls Tryd.prog 46 #[.pointer (some ⟨a, 0, none⟩), .agg #[.int .i64 s, .int .i64 g]] w fun e w' =>
      Below w.heap.size w w' ∧ ((hasS ss s g = false ∧ e = .returned (.pointer none)) ∨ (hasS ss s g = true ∧ ∃ k gs, s = (k : Nat) ∧ k < ss.length ∧ A = some ⟨gs, 0, none⟩ ∧ e = .returned (.pointer (some ⟨gs, k * 3, none⟩)))) := by
  have c0 := h.cells.1
  have hlt := Blk.lt h.blk
  have z0 := (World.cell?_alloc_lt w (.cells #[.int .i64 s, .int .i64 g] 42) ⟨a, 0, none⟩ hlt).trans c0
  have HB := hid (show Below w.heap.size w (w.alloc (.cells #[.int .i64 s, .int .i64 g] 42)) from (Below.refl _ w).alloc (Nat.le_refl _) _)
  by_cases h1 : s < 0
  · have d1 := decT h1
    have E := hid (hasS_neg (ss := ss) (g := g) h1)
    clear h1
    go_enter Tryd.func46, Tryd.ntmps46
    go_wp2_with fail
    go_quiet (fail)
    go_wp2
    go_ret
    exact ⟨drewN_below HB.out _, .inl ⟨E.out, rfl⟩⟩
  · have d1 := decF h1
    by_cases h2 : (ss.length : Int) ≤ s
    · have d2 := decT h2
      have E := hid (hasS_far (ss := ss) (g := g) (by omega) h2)
      clear h1 h2
      go_enter Tryd.func46, Tryd.ntmps46
      go_wp2_with fail
      go_quiet (fail)
      go_wp2
      go_ret
      exact ⟨drewN_below HB.out _, .inl ⟨E.out, rfl⟩⟩
    · have d2 := decF h2
      obtain ⟨k, rfl⟩ : ∃ k : Nat, s = k := ⟨s.toNat, by omega⟩
      have hk : k < ss.length := by omega
      have i1 : (0 : Int) ≤ (k : Int) := by omega
      have i2 : (k : Int) < (ss.length : Int) := by omega
      obtain ⟨gs, rfl, s0, s1, s2⟩ := h.slot hk
      have hgs := World.block_lt_of_cell? w _ s0
      replace s1 := (World.cell?_alloc_lt w (.cells #[.int .i64 k, .int .i64 g] 42) ⟨gs, k * 3 + 1, none⟩ hgs).trans s1
      replace s2 := (World.cell?_alloc_lt w (.cells #[.int .i64 k, .int .i64 g] 42) ⟨gs, k * 3 + 2, none⟩ hgs).trans s2
      have Hh := hid (hasS_at (g := g) hk)
      generalize ss[k].2.1 = age at s1 Hh
      cases hf : ss[k].2.2
      · rw [hf] at s2
        have E : Hid (hasS ss k g = false) := hid (by rw [Hh.out, hf]; rfl)
        clear h1 h2 s0 hf
        go_enter Tryd.func46, Tryd.ntmps46
        go_wp2_with fail
        go_quiet (fail)
        go_wp2_with fail
        go_quiet (fail)
        go_wp2_with fail
        go_quiet (fail)
        go_wp2
        go_ret
        exact ⟨drewN_below (drewN_below (drewN_below HB.out _) _) _, .inl ⟨E.out, rfl⟩⟩
      · rw [hf] at s2
        by_cases ha : age = g
        · have b1 := beqT ha
          have E : Hid (hasS ss k g = true) := hid (by rw [Hh.out, hf, b1]; rfl)
          clear h1 h2 s0 hf ha
          go_enter Tryd.func46, Tryd.ntmps46
          go_wp2_with fail
          go_quiet (fail)
          go_wp2_with fail
          go_quiet (fail)
          go_wp2_with fail
          go_quiet (fail)
          go_wp2
          go_ret
          exact ⟨drewN_below (drewN_below (drewN_below HB.out _) _) _, .inr ⟨E.out, k, gs, rfl, hk, rfl, rfl⟩⟩
        · have b1 := beqF ha
          have E : Hid (hasS ss k g = false) := hid (by rw [Hh.out, hf, b1]; rfl)
          clear h1 h2 s0 hf ha
          go_enter Tryd.func46, Tryd.ntmps46
          go_wp2_with fail
          go_quiet (fail)
          go_wp2_with fail
          go_quiet (fail)
          go_wp2_with fail
          go_quiet (fail)
          go_wp2
          go_ret
          exact ⟨drewN_below (drewN_below (drewN_below HB.out _) _) _, .inl ⟨E.out, rfl⟩⟩
end Go.Proofs.YtakbedckjaammaaDoor
