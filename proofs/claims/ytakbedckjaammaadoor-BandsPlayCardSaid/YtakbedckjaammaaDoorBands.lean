/-
  Walks of package bands, and of the document's Calm and Allows.
-/
import Derived.WalkKit
import Derived.WalkLawsBesides
import Derived.WalkSpells
import Derived.Deep.RegionHeld3
import Derived.Deep.DrawnRows
import Derived.Test.YtakbedckjaammaaDoorRefNum
import Derived.Test.YtakbedckjaammaaDoorBlk
namespace Go.Proofs.YtakbedckjaammaaDoor
open Go.RowKit
attribute [local go_sem ↓] Go.wp_at_zero Go.wp_at_succ

/-- bands behind a pointer -/
def BandsAt (w : World) (b : Nat) (st dy an la : Int) : Prop := Blk w b 112 #[.int .i64 st, .int .i64 dy, .int .i64 an, .int .i64 la]

section
variable {w : World} {b : Nat} {st dy an la : Int} (h : BandsAt w b st dy an la)
include h
theorem BandsAt.c0 : w.cell? ⟨b, 0, none⟩ = some (.int .i64 st) := by rw [Blk.cell h]; rfl
theorem BandsAt.c1 : w.cell? ⟨b, 1, none⟩ = some (.int .i64 dy) := by rw [Blk.cell h]; rfl
theorem BandsAt.c2 : w.cell? ⟨b, 2, none⟩ = some (.int .i64 an) := by rw [Blk.cell h]; rfl
theorem BandsAt.c3 : w.cell? ⟨b, 3, none⟩ = some (.int .i64 la) := by rw [Blk.cell h]; rfl
end

theorem anchor_any (b : Nat) (st dy an la : Int) (w : World) (h : BandsAt w b st dy an la) : Calls Tryd.prog 32 #[.pointer (some ⟨b, 0, none⟩)] w fun e w' => e = .returned (.int .i64 an) ∧ w = w' := by
  have c := h.c2
  go_enter Tryd.func32, Tryd.ntmps32
  go_wp2
  go_ret
  exact ⟨rfl, rfl⟩

theorem last_any (b : Nat) (st dy an la : Int) (w : World) (h : BandsAt w b st dy an la) : Calls Tryd.prog 33 #[.pointer (some ⟨b, 0, none⟩)] w fun e w' => e = .returned (.int .i64 la) ∧ w = w' := by
  have c := h.c3
  go_enter Tryd.func33, Tryd.ntmps33
  go_wp2
  go_ret
  exact ⟨rfl, rfl⟩

set_option maxRecDepth 100000 in
set_option maxHeartbeats 400000 in
theorem static_any (b : Nat) (st dy an la : Int) (w : World) (h : BandsAt w b st dy an la) : Calls Tryd.prog 30 #[.pointer (some ⟨b, 0, none⟩)] w fun e w' =>
    e = .returned (.tuple #[.int .i64 (bandLo an st), .int .i64 (bandHi an st)]) ∧ Below w.heap.size w w' := by
  have c0 := h.c0
  have c2 := h.c2
  go_enter Tryd.func30, Tryd.ntmps30
  go_wp2
  go_region_held3 (fun w' => w'.cell? ⟨b, 0, none⟩ = some (.int .i64 st) ∧ w'.cell? ⟨b, 2, none⟩ = some (.int .i64 an))
    (first | go_keep | exact ⟨(hB.cell (p := ⟨b, 0, none⟩) (Blk.lt h)).trans c0, (hB.cell (p := ⟨b, 2, none⟩) (Blk.lt h)).trans c2⟩)
    (first | (go_at_call 9; refine (band_any _ _ _).mono ?_; rintro e w1 ⟨rfl, hB⟩))
  go_wp2
  go_ret2
  exact ⟨rfl, (Below.refl _ w).drew.trans hB⟩

set_option maxRecDepth 100000 in
set_option maxHeartbeats 400000 in
theorem dynamic_any (b : Nat) (st dy an la : Int) (w : World) (h : BandsAt w b st dy an la) : Calls Tryd.prog 31 #[.pointer (some ⟨b, 0, none⟩)] w fun e w' =>
    e = .returned (.tuple #[.int .i64 (bandLo la dy), .int .i64 (bandHi la dy)]) ∧ Below w.heap.size w w' := by
  have c1 := h.c1
  have c3 := h.c3
  go_enter Tryd.func31, Tryd.ntmps31
  go_wp2
  go_region_held3 (fun w' => w'.cell? ⟨b, 1, none⟩ = some (.int .i64 dy) ∧ w'.cell? ⟨b, 3, none⟩ = some (.int .i64 la))
    (first | go_keep | exact ⟨(hB.cell (p := ⟨b, 1, none⟩) (Blk.lt h)).trans c1, (hB.cell (p := ⟨b, 3, none⟩) (Blk.lt h)).trans c3⟩)
    (first | (go_at_call 9; refine (band_any _ _ _).mono ?_; rintro e w1 ⟨rfl, hB⟩))
  go_wp2
  go_ret2
  exact ⟨rfl, (Below.refl _ w).drew.trans hB⟩

/-- does a price lie in the band -/
def inB (p lo hi : Int) : Bool := decide (lo ≤ p) && decide (p ≤ hi)
def calmB (st an p : Int) : Bool := inB p (bandLo an st) (bandHi an st)
def allowsB (st dy an la p : Int) : Bool := calmB st an p && inB p (bandLo la dy) (bandHi la dy)

set_option maxHeartbeats 400000 in
theorem calm_any (b : Nat) (st dy an la p : Int) (w : World) (h : BandsAt w b st dy an la) : Calls Tryd.prog 34 #[.pointer (some ⟨b, 0, none⟩), .int .i64 p] w fun e w' =>
    e = .returned (.bool (calmB st an p)) ∧ Below w.heap.size w w' := by
  unfold calmB inB
  go_enter Tryd.func34, Tryd.ntmps34
  go_wp2_with fail
  refine (static_any b st dy an la w h).mono ?_
  rintro e w1 ⟨rfl, hB⟩
  by_cases h1 : bandLo an st ≤ p
  · have d1 := decT h1
    have E := hid (show decide (p ≤ bandHi an st) = (decide (bandLo an st ≤ p) && decide (p ≤ bandHi an st)) by rw [d1]; rfl)
    go_wp2
    go_ret
    exact ⟨ret_bool E.out, hB⟩
  · have d1 := decF h1
    have E := hid (show false = (decide (bandLo an st ≤ p) && decide (p ≤ bandHi an st)) by rw [d1]; rfl)
    clear h1
    go_wp2
    go_ret
    exact ⟨ret_bool E.out, hB⟩

set_option maxHeartbeats 400000 in
theorem allows_any (b : Nat) (st dy an la p : Int) (w : World) (h : BandsAt w b st dy an la) : Calls Tryd.prog 36 #[.pointer (some ⟨b, 0, none⟩), .int .i64 p] w fun e w' =>
    e = .returned (.bool (allowsB st dy an la p)) ∧ Below w.heap.size w w' := by
  unfold allowsB inB
  go_enter Tryd.func36, Tryd.ntmps36
  go_wp2_with fail
  refine (dynamic_any b st dy an la w h).mono ?_
  rintro e w1 ⟨rfl, hB⟩
  go_wp2_with fail
  refine (calm_any b st dy an la p w1 (Blk.keep h hB)).mono ?_
  rintro e w2 ⟨rfl, hB2⟩
  have hB12 : Below w.heap.size w w2 := hB.trans (hB2.mono hB.size)
  by_cases hc : calmB st an p = true
  · by_cases h1 : bandLo la dy ≤ p
    · have d1 := decT h1
      have E := hid (show decide (p ≤ bandHi la dy) = (calmB st an p && (decide (bandLo la dy ≤ p) && decide (p ≤ bandHi la dy))) by rw [d1, hc]; rfl)
      rw [hc]
      clear hc
      go_wp2
      go_ret
      exact ⟨ret_bool E.out, hB12⟩
    · have d1 := decF h1
      have E := hid (show false = (calmB st an p && (decide (bandLo la dy ≤ p) && decide (p ≤ bandHi la dy))) by rw [d1, hc]; rfl)
      rw [hc]
      clear h1 hc
      go_wp2
      go_ret
      exact ⟨ret_bool E.out, hB12⟩
  · have hc' : calmB st an p = false := by simpa using hc
    have E := hid (show false = (calmB st an p && (decide (bandLo la dy ≤ p) && decide (p ≤ bandHi la dy))) by rw [hc']; rfl)
    rw [hc']
    clear hc hc'
    go_wp2
    go_ret
    exact ⟨ret_bool E.out, hB12⟩

set_option maxHeartbeats 400000 in
theorem trade_any (b : Nat) (st dy an la p : Int) (w : World) (h : BandsAt w b st dy an la) : Calls Tryd.prog 28 #[.pointer (some ⟨b, 0, none⟩), .int .i64 p] w fun e w' =>
    e = .returned (errV (if rightB p 1 = true then 0 else 2)) ∧ BandsAt w' b st dy an (if rightB p 1 = true then p else la) ∧ Keeps (fun i => i = b) w w' := by
  by_cases hr : rightB p 1 = true
  · rw [if_pos hr, if_pos hr, errV_zero]
    have Hr := hid hr
    clear hr
    go_enter Tryd.func28, Tryd.ntmps28
    go_wp2_with fail
    refine (right_any p 1 w).mono ?_
    rintro e w1 ⟨rfl, hB⟩
    rw [Hr.out]
    have h1 : BandsAt w1 b st dy an la := Blk.keep h hB
    have c3 := h1.c3
    have f3 := Blk.frozen h1 3
    go_wp2
    go_ret
    exact ⟨rfl, Blk.set_ h1 3 _, Keeps.after hB (Keeps.set_ _ ⟨b, 3, none⟩ _)⟩
  · have hr' : rightB p 1 = false := by simpa using hr
    rw [if_neg hr, if_neg hr, errV_two]
    have Hr := hid hr'
    clear hr hr'
    go_enter Tryd.func28, Tryd.ntmps28
    go_wp2_with fail
    refine (right_any p 1 w).mono ?_
    rintro e w1 ⟨rfl, hB⟩
    rw [Hr.out]
    go_wp2
    go_ret
    exact ⟨rfl, Blk.keep h hB, Keeps.of_below hB _⟩

set_option maxHeartbeats 400000 in
theorem fix_any (b : Nat) (st dy an la p : Int) (w : World) (h : BandsAt w b st dy an la) : Calls Tryd.prog 29 #[.pointer (some ⟨b, 0, none⟩), .int .i64 p] w fun e w' =>
    e = .returned (errV (if rightB p 1 = true then 0 else 2)) ∧ BandsAt w' b st dy (if rightB p 1 = true then p else an) (if rightB p 1 = true then p else la) ∧ Keeps (fun i => i = b) w w' := by
  by_cases hr : rightB p 1 = true
  · rw [if_pos hr, if_pos hr, if_pos hr, errV_zero]
    go_enter Tryd.func29, Tryd.ntmps29
    go_wp2_with fail
    refine (trade_any b st dy an la p w h).mono ?_
    rintro e w1 ⟨rfl, h1, hK⟩
    rw [if_pos hr] at h1
    rw [if_pos hr, errV_zero]
    have f2 := Blk.frozen h1 2
    have c2 := BandsAt.c2 h1
    clear hr
    go_wp2
    go_ret
    exact ⟨rfl, Blk.set_ h1 2 _, hK.trans (Keeps.set_ _ ⟨b, 2, none⟩ _) (fun i h => .inl h)⟩
  · rw [if_neg hr, if_neg hr, if_neg hr, errV_two]
    go_enter Tryd.func29, Tryd.ntmps29
    go_wp2_with fail
    refine (trade_any b st dy an la p w h).mono ?_
    rintro e w1 ⟨rfl, h1, hK⟩
    rw [if_neg hr] at h1
    rw [if_neg hr, errV_two]
    clear hr
    go_wp2
    go_ret
    exact ⟨rfl, h1, hK⟩

set_option maxRecDepth 100000 in
set_option maxHeartbeats 400000 in
theorem bandsNew_any (st dy p : Int) (w : World) : Calls Tryd.prog 27 #[.int .i64 st, .int .i64 dy, .int .i64 p] w fun e w' =>
    Below w.heap.size w w' ∧ ((bandOk p st && bandOk p dy) = true ∧ (∃ b, w.heap.size ≤ b ∧ e = .returned (.tuple #[.pointer (some ⟨b, 0, none⟩), .nilIface]) ∧ BandsAt w' b st dy p p) ∨
      (bandOk p st && bandOk p dy) = false ∧ e = .returned (.tuple #[.pointer none, errV 2])) := by
  have i0 : ∀ w, (Instr.index 110 (.agg #[.int .i64 st, .int .i64 dy]) (.int .i64 0)).run Tryd.prog w = .ok (.int .i64 st) w := fun _ => by kernel_rfl
  have i1 : ∀ w, (Instr.index 110 (.agg #[.int .i64 st, .int .i64 dy]) (.int .i64 1)).run Tryd.prog w = .ok (.int .i64 dy) w := fun _ => by kernel_rfl
  by_cases h1 : bandOk p st = true
  · by_cases h2 : bandOk p dy = true
    · have e1 : bandE p st = 0 := by rw [bandE, if_pos h1]
      have e2 : bandE p dy = 0 := by rw [bandE, if_pos h2]
      have H := hid (show (bandOk p st && bandOk p dy) = true by rw [h1, h2]; rfl)
      have E1 := hid e1
      have E2 := hid e2
      clear h1 h2 e1 e2
      go_enter Tryd.func27, Tryd.ntmps27
      go_wp2
      refine wp_loop_rounds 3 ?_
      rw [rounds_succ]
      go_wp2_with fail
      refine (band_any _ _ _).mono ?_
      rintro e w1 ⟨rfl, hB1⟩
      rw [E1.out, errV_zero]
      go_wp2
      rw [rounds_succ]
      go_wp2_with fail
      refine (band_any _ _ _).mono ?_
      rintro e w2 ⟨rfl, hB2⟩
      rw [E2.out, errV_zero]
      go_wp2
      rw [rounds_succ]
      go_wp2
      go_ret2
      have hB : Below w.heap.size w w2 := hB1.trans (hB2.mono hB1.size)
      exact ⟨hB.alloc hB.size _, .inl ⟨H.out, _, hB.size, rfl, Blk.new _ _ _⟩⟩
    · have h2' : bandOk p dy = false := by simpa using h2
      have e1 : bandE p st = 0 := by rw [bandE, if_pos h1]
      have e2 : bandE p dy = 2 := by rw [bandE, if_neg h2]
      have H := hid (show (bandOk p st && bandOk p dy) = false by rw [h1, h2']; rfl)
      have E1 := hid e1
      have E2 := hid e2
      clear h1 h2 h2' e1 e2
      go_enter Tryd.func27, Tryd.ntmps27
      go_wp2
      refine wp_loop_rounds 2 ?_
      rw [rounds_succ]
      go_wp2_with fail
      refine (band_any _ _ _).mono ?_
      rintro e w1 ⟨rfl, hB1⟩
      rw [E1.out, errV_zero]
      go_wp2
      rw [rounds_succ]
      go_wp2_with fail
      refine (band_any _ _ _).mono ?_
      rintro e w2 ⟨rfl, hB2⟩
      rw [E2.out, errV_two]
      go_wp2
      go_ret2
      have hB : Below w.heap.size w w2 := hB1.trans (hB2.mono hB1.size)
      exact ⟨hB, .inr ⟨H.out, rfl⟩⟩
  · have h1' : bandOk p st = false := by simpa using h1
    have e1 : bandE p st = 2 := by rw [bandE, if_neg h1]
    have H := hid (show (bandOk p st && bandOk p dy) = false by rw [h1']; rfl)
    have E1 := hid e1
    clear h1 h1' e1
    go_enter Tryd.func27, Tryd.ntmps27
    go_wp2
    refine wp_loop_rounds 1 ?_
    rw [rounds_succ]
    go_wp2_with fail
    refine (band_any _ _ _).mono ?_
    rintro e w1 ⟨rfl, hB1⟩
    rw [E1.out, errV_two]
    go_wp2
    go_ret2
    exact ⟨hB1, .inr ⟨H.out, rfl⟩⟩

/-! ### the document's -/
set_option maxRecDepth 100000 in
set_option maxHeartbeats 400000 in
theorem rcalm_any (m : Nat) (st an p : Int) (w : World) (c1 : w.cell? ⟨m, 1, none⟩ = some (.int .i64 st)) (c3 : w.cell? ⟨m, 3, none⟩ = some (.int .i64 an)) :
    Calls Tryd.prog 35 #[.pointer (some ⟨m, 0, none⟩), .int .i64 p] w fun e w' => e = .returned (.bool (calmB st an p)) ∧ Below w.heap.size w w' := by
  go_enter Tryd.func35, Tryd.ntmps35
  go_wp2
  go_region_held3 (fun w' => w'.cell? ⟨m, 1, none⟩ = some (.int .i64 st) ∧ w'.cell? ⟨m, 3, none⟩ = some (.int .i64 an)) (first | go_keep)
    (first | (go_at_call 8; refine (rband_any _ _ _).mono ?_; rintro e w1 ⟨rfl, rfl⟩))
  go_wp2_with fail
  refine (in_any _ _ _ _).mono ?_
  rintro e w1 ⟨rfl, rfl⟩
  go_wp2
  go_ret
  exact ⟨rfl, (Below.refl _ w).drew⟩

set_option maxRecDepth 100000 in
set_option maxHeartbeats 400000 in
theorem rallows_any (m : Nat) (st dy an la p : Int) (w : World) (c1 : w.cell? ⟨m, 1, none⟩ = some (.int .i64 st)) (c2 : w.cell? ⟨m, 2, none⟩ = some (.int .i64 dy)) (c3 : w.cell? ⟨m, 3, none⟩ = some (.int .i64 an)) (c4 : w.cell? ⟨m, 4, none⟩ = some (.int .i64 la)) :
    Calls Tryd.prog 37 #[.pointer (some ⟨m, 0, none⟩), .int .i64 p] w fun e w' => e = .returned (.bool (allowsB st dy an la p)) ∧ Below w.heap.size w w' := by
  unfold allowsB inB
  by_cases hc : calmB st an p = true
  · have E := hid (show (decide (bandLo la dy ≤ p) && decide (p ≤ bandHi la dy)) = (calmB st an p && (decide (bandLo la dy ≤ p) && decide (p ≤ bandHi la dy))) by rw [hc]; rfl)
    have Hc := hid hc
    clear hc
    go_enter Tryd.func37, Tryd.ntmps37
    go_wp2
    go_region_held3 (fun w' => w'.cell? ⟨m, 2, none⟩ = some (.int .i64 dy) ∧ w'.cell? ⟨m, 4, none⟩ = some (.int .i64 la)) (first | go_keep)
      (first | (go_at_call 8; refine (rband_any _ _ _).mono ?_; rintro e w1 ⟨rfl, rfl⟩))
    go_wp2_with fail
    refine (rcalm_any m st an p w.drew c1 c3).mono ?_
    rintro e w1 ⟨rfl, hB⟩
    rw [Hc.out]
    go_wp2_with fail
    refine (in_any _ _ _ _).mono ?_
    rintro e w1 ⟨rfl, rfl⟩
    go_wp2
    go_ret
    exact ⟨ret_bool E.out, (Below.refl _ w).drew.trans hB⟩
  · have hc' : calmB st an p = false := by simpa using hc
    have E := hid (show false = (calmB st an p && (decide (bandLo la dy ≤ p) && decide (p ≤ bandHi la dy))) by rw [hc']; rfl)
    have Hc := hid hc'
    clear hc hc'
    go_enter Tryd.func37, Tryd.ntmps37
    go_wp2
    go_region_held3 (fun w' => w'.cell? ⟨m, 2, none⟩ = some (.int .i64 dy) ∧ w'.cell? ⟨m, 4, none⟩ = some (.int .i64 la)) (first | go_keep)
      (first | (go_at_call 8; refine (rband_any _ _ _).mono ?_; rintro e w1 ⟨rfl, rfl⟩))
    go_wp2_with fail
    refine (rcalm_any m st an p w.drew c1 c3).mono ?_
    rintro e w1 ⟨rfl, hB⟩
    rw [Hc.out]
    go_wp2
    go_ret
    exact ⟨ret_bool E.out, (Below.refl _ w).drew.trans hB⟩
end Go.Proofs.YtakbedckjaammaaDoor
