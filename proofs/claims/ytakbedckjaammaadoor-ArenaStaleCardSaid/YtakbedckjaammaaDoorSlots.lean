/-
  The document's Slots by the same list of slots: Has, Free.
-/
import Derived.WalkKit
import Derived.WalkLawsBesides
import Derived.WalkSpells
import Derived.Deep.AppendLies
import Derived.Deep.DeepCutAuto
import Derived.Test.YtakbedckjaammaaDoorArenaPutNew
namespace Go.Proofs.YtakbedckjaammaaDoor
open Go.RowKit

def thingsOf (ss : List SlotT) : List Int := ss.map fun s => if s.2.2 = true then s.1 else -1
def agesOf (ss : List SlotT) : List Int := ss.map fun s => s.2.1

structure RefAt (w : World) (r : Nat) (T : Option Addr) (c : Nat) (G : Option Addr) (e : Nat) (F : Option Addr) (d : Nat) (ss : List SlotT) (fr : List Int) (most : Int) : Prop where
  blk : Blk w r 81 #[.slice T ss.length c, .slice G ss.length e, .slice F fr.length d, .int .i64 most]
  things : RowAt w T ss.length c 3 1 (intCells (thingsOf ss))
  ages : RowAt w G ss.length e 3 1 (intCells (agesOf ss))
  free : RowAt w F fr.length d 3 1 (intCells fr)
  nt : blkOf T ≠ some r
  ng : blkOf G ≠ some r
  nf : blkOf F ≠ some r
  ntg : ∀ g, blkOf T = some g → blkOf G ≠ some g
  ntf : ∀ g, blkOf T = some g → blkOf F ≠ some g
  ngf : ∀ g, blkOf G = some g → blkOf F ≠ some g

/-- its blocks -/
def FpR (r : Nat) (T G F : Option Addr) (i : Nat) : Prop := i = r ∨ blkOf T = some i ∨ blkOf G = some i ∨ blkOf F = some i

section
variable {w w' : World} {r c e d : Nat} {T G F : Option Addr} {ss : List SlotT} {fr : List Int} {most : Int}
theorem RefAt.fp (h : RefAt w r T c G e F d ss fr most) {i : Nat} (hi : FpR r T G F i) : i < w.heap.size := by
  rcases hi with rfl | hi | hi | hi
  · exact Blk.lt h.blk
  · exact h.things.lt hi
  · exact h.ages.lt hi
  · exact h.free.lt hi
theorem RefAt.keeps {S : Nat → Prop} (h : RefAt w r T c G e F d ss fr most) (hk : Keeps S w w') (hn : ∀ i, FpR r T G F i → ¬ S i) : RefAt w' r T c G e F d ss fr most :=
  ⟨Blk.keeps h.blk hk (hn r (.inl rfl)), h.things.keeps hk (fun g hg => hn g (.inr (.inl hg))), h.ages.keeps hk (fun g hg => hn g (.inr (.inr (.inl hg)))), h.free.keeps hk (fun g hg => hn g (.inr (.inr (.inr hg)))), h.nt, h.ng, h.nf, h.ntg, h.ntf, h.ngf⟩
theorem RefAt.below (h : RefAt w r T c G e F d ss fr most) (hb : Below w.heap.size w w') : RefAt w' r T c G e F d ss fr most := h.keeps (Keeps.of_below hb (fun _ => False)) (fun _ _ => id)
theorem RefAt.cells (h : RefAt w r T c G e F d ss fr most) :
    w.cell? ⟨r, 0, none⟩ = some (.slice T ss.length c) ∧ w.cell? ⟨r, 1, none⟩ = some (.slice G ss.length e) ∧ w.cell? ⟨r, 2, none⟩ = some (.slice F fr.length d) ∧ w.cell? ⟨r, 3, none⟩ = some (.int .i64 most) := by
  refine ⟨?_, ?_, ?_, ?_⟩ <;> (rw [Blk.cell h.blk]; rfl)
theorem RefAt.slot (h : RefAt w r T c G e F d ss fr most) {k : Nat} (hk : k < ss.length) :
    ∃ t g, T = some ⟨t, 0, none⟩ ∧ G = some ⟨g, 0, none⟩ ∧ w.cell? ⟨t, k, none⟩ = some (.int .i64 (if ss[k].2.2 = true then ss[k].1 else -1)) ∧ w.cell? ⟨g, k, none⟩ = some (.int .i64 ss[k].2.1) := by
  obtain ⟨t, rfl, c0⟩ := h.things.cell (j := k) (u := .int .i64 (if ss[k].2.2 = true then ss[k].1 else -1)) (by simp [intCells, thingsOf, hk])
  obtain ⟨g, rfl, c1⟩ := h.ages.cell (j := k) (u := .int .i64 ss[k].2.1) (by simp [intCells, agesOf, hk])
  exact ⟨t, g, rfl, rfl, c0, c1⟩
end

/-- no full slot has a thing below 0 -/
def ThingsOk (ss : List SlotT) : Prop := ∀ k (h : k < ss.length), ss[k].2.2 = true → 0 ≤ ss[k].1

set_option maxRecDepth 100000 in
set_option maxHeartbeats 1000000 in
theorem rhas_any (w : World) (r : Nat) (T : Option Addr) (c : Nat) (G : Option Addr) (e : Nat) (F : Option Addr) (d : Nat) (ss : List SlotT) (fr : List Int) (most s g : Int) (h : RefAt w r T c G e F d ss fr most) (hok : ThingsOk ss) (hl : ss.length ≤ 200) :
    Calls Tryd.prog 38 #[.pointer (some ⟨r, 0, none⟩), .int .i64 s, .int .i64 g] w fun e w' => e = .returned (.bool (hasS ss s g)) ∧ w = w' := by
  obtain ⟨q0, q1, _, _⟩ := h.cells
  have i0 : RowKit.wrap64 ((ss.length : Int) - 1) = (ss.length : Int) - 1 := by unfold RowKit.wrap64; omega
  by_cases hin : 0 ≤ s ∧ s ≤ (ss.length : Int) - 1
  · have hb : (decide (0 ≤ s) && decide (s ≤ (ss.length : Int) - 1)) = true := by simp; omega
    obtain ⟨k, rfl⟩ : ∃ k : Nat, s = k := ⟨s.toNat, by omega⟩
    have hk : k < ss.length := by omega
    have i1 : (0 : Int) ≤ (k : Int) := by omega
    have i2 : (k : Int) < (ss.length : Int) := by omega
    obtain ⟨t, g', rfl, rfl, c0, c1⟩ := h.slot hk
    have Hh := hid (hasS_at (g := g) hk)
    have hO := hok k hk
    have Hb := hid hb
    clear hb hin
    cases hf : ss[k].2.2
    · rw [hf] at c0
      simp only [Bool.false_eq_true, if_false] at c0
      have E : Hid (hasS ss k g = false) := hid (by rw [Hh.out, hf]; rfl)
      clear hf hO
      go_enter Tryd.func38, Tryd.ntmps38
      go_wp2_with fail
      refine (in_any _ _ _ _).mono ?_
      rintro e w' ⟨rfl, rfl⟩
      rw [Hb.out]
      go_wp2
      go_ret
      exact ⟨ret_bool E.out.symm, rfl⟩
    · rw [hf] at c0
      simp only [if_true] at c0
      have d0 := decT (hO hf)
      have E : Hid (hasS ss k g = (ss[k].2.1 == g)) := hid (by rw [Hh.out, hf]; rfl)
      have hO' := hO hf
      clear hf hO
      generalize ss[k].1 = x at c0 d0 hO'
      generalize ss[k].2.1 = y at c1 E
      go_enter Tryd.func38, Tryd.ntmps38
      go_wp2_with fail
      refine (in_any _ _ _ _).mono ?_
      rintro e w' ⟨rfl, rfl⟩
      rw [Hb.out]
      go_wp2
      go_ret
      exact ⟨ret_bool E.out.symm, rfl⟩
  · have hb : (decide (0 ≤ s) && decide (s ≤ (ss.length : Int) - 1)) = false := by simp; omega
    have E : Hid (hasS ss s g = false) := hid (by
      by_cases h0 : s < 0
      · exact hasS_neg h0
      · exact hasS_far (by omega) (by omega))
    have Hb := hid hb
    clear hb hin
    go_enter Tryd.func38, Tryd.ntmps38
    go_wp2_with fail
    refine (in_any _ _ _ _).mono ?_
    rintro e w' ⟨rfl, rfl⟩
    rw [Hb.out]
    go_wp2
    go_ret
    exact ⟨ret_bool E.out.symm, rfl⟩
end Go.Proofs.YtakbedckjaammaaDoor
