/-
  Walks of package calendar: New and (*Table).Phase, told by plain functions on lists of pairs.
-/
import Derived.WalkKit
import Derived.WalkLawsBesides
import Derived.WalkSpells
import Derived.Deep.AppendLies
import Derived.Test.YtakbedckjaammaaDoorCal
import Derived.Test.YtakbedckjaammaaDoorPairs
namespace Go.Proofs.YtakbedckjaammaaDoor
open Go.RowKit

/-- what is wrong with row i of a table -/
def wrongAt (ps : List (Int × Int)) : Nat → Int
  | 0 => if ps.getD 0 (0, 0) = (0, 1) then 0 else 1
  | k + 1 => wrongI (ps.getD k (0, 0)).1 (ps.getD k (0, 0)).2 (ps.getD (k + 1) (0, 0)).1 (ps.getD (k + 1) (0, 0)).2

theorem wrongI_vals (a0 p0 a p : Int) : wrongI a0 p0 a p = 0 ∨ wrongI a0 p0 a p = 1 ∨ wrongI a0 p0 a p = 10 ∨ wrongI a0 p0 a p = 2 := by
  unfold wrongI
  by_cases h1 : anyL (followsL p0) p = false
  · rw [if_pos h1]; simp
  · rw [if_neg h1]
    by_cases h2 : a ≤ a0
    · rw [if_pos h2]; simp
    · rw [if_neg h2]
      by_cases h3 : 1000000 < a
      · rw [if_pos h3]; simp
      · rw [if_neg h3]; simp
theorem wrongAt_vals (ps : List (Int × Int)) (i : Nat) : wrongAt ps i = 0 ∨ wrongAt ps i = 1 ∨ wrongAt ps i = 10 ∨ wrongAt ps i = 2 := by
  cases i with
  | zero =>
    by_cases h : ps.getD 0 (0, 0) = (0, 1)
    · left; unfold wrongAt; rw [if_pos h]
    · right; left; unfold wrongAt; rw [if_neg h]
  | succ k => exact wrongI_vals _ _ _ _

set_option maxRecDepth 100000 in
set_option maxHeartbeats 1000000 in
theorem wrong_first (b off len cap : Nat) (x y : Int) (w : World) (hl : 0 < len)
    (c0 : w.cell? ⟨b, off, none⟩ = some (.int .i64 x)) (c1 : w.cell? ⟨b, off + 1, none⟩ = some (.int .i64 y)) :
    Calls Tryd.prog 47 #[.slice (some ⟨b, off, none⟩) len cap, .int .i64 0] w fun e w' => e = .returned (.int .i64 (if (x, y) = (0, 1) then 0 else 1)) ∧ w = w' := by
  by_cases hx : x = 0
  · by_cases hy : y = 1
    · have hx' := beqT hx
      have hy' := beqT hy
      rw [if_pos (by rw [hx, hy])]
      clear hx hy
      go_enter Tryd.func47, Tryd.ntmps47
      go_wp2
      go_ret
      exact ⟨rfl, rfl⟩
    · have hx' := beqT hx
      have hy' := beqF hy
      rw [if_neg (by simp [hy])]
      clear hx hy
      go_enter Tryd.func47, Tryd.ntmps47
      go_wp2
      go_ret
      exact ⟨rfl, rfl⟩
  · have hx' := beqF hx
    rw [if_neg (by simp [hx])]
    clear hx
    go_enter Tryd.func47, Tryd.ntmps47
    go_wp2
    go_ret
    exact ⟨rfl, rfl⟩

theorem wrong_any (A : Option Addr) (len cap : Nat) (ps : List (Int × Int)) (i : Nat) (w : World) (h : Pairs w A len cap ps) (hi : i < len) (hl : len ≤ 20) :
    Calls Tryd.prog 47 #[.slice A len cap, .int .i64 (i : Int)] w fun e w' => e = .returned (.int .i64 (wrongAt ps i)) ∧ Below w.heap.size w w' := by
  obtain ⟨b, off, rfl, hlt, hc⟩ := h.2 (by omega)
  cases i with
  | zero =>
    have h0 := hc 0 (by omega)
    refine (wrong_first b off len cap _ _ w hi (by simpa using h0.1) (by simpa using h0.2)).mono ?_
    rintro e w' ⟨rfl, rfl⟩
    exact ⟨rfl, Below.refl _ _⟩
  | succ k =>
    exact wrong_step b off len cap k _ _ _ _ w hi hl hlt (hc k (by omega)).1 (hc k (by omega)).2 (hc (k + 1) hi).1 (hc (k + 1) hi).2

theorem row_info : (Tryd.prog.info? 101).map (fun i => (i.zero, i.size, i.bytes)) = some (some (.agg #[.int .i64 0, .int .i64 0]), 2, 16) := by kernel_rfl

/-- what New answers -/
def NewPost (ps : List (Int × Int)) (w : World) (e : Ending) (w' : World) : Prop :=
  Below w.heap.size w w' ∧
  ((ps.length = 0 ∧ e = .returned (.tuple #[.pointer none, .iface 22 (.int .i64 8)])) ∨
   (20 < ps.length ∧ e = .returned (.tuple #[.pointer none, .iface 22 (.int .i64 4)])) ∨
   (0 < ps.length ∧ ps.length ≤ 20 ∧ ∃ i, i < ps.length ∧ (∀ j, j < i → wrongAt ps j = 0) ∧ wrongAt ps i ≠ 0 ∧ ∃ g, e = .returned (.tuple #[.pointer none, .iface 103 (.pointer (some ⟨g, 0, none⟩))]) ∧
      w.heap.size ≤ g ∧ w'.cell? ⟨g, 0, none⟩ = some (.int .i64 (wrongAt ps i)) ∧ w'.cell? ⟨g, 1, none⟩ = some (.int .i64 i)) ∨
   (0 < ps.length ∧ ps.length ≤ 20 ∧ (∀ j, j < ps.length → wrongAt ps j = 0) ∧ ∃ t A cap, e = .returned (.tuple #[.pointer (some ⟨t, 0, none⟩), .nilIface]) ∧
      w.heap.size ≤ t ∧ t < w'.heap.size ∧ w'.cell? ⟨t, 0, none⟩ = some (.slice A ps.length cap) ∧ Pairs w' A ps.length cap ps))

set_option maxRecDepth 100000 in
set_option maxHeartbeats 1000000 in
theorem new_any (A : Option Addr) (len cap : Nat) (ps : List (Int × Int)) (w : World) (h : Pairs w A len cap ps) (hm : len ≤ 9223372036854775807) :
    Calls Tryd.prog 21 #[.slice A len cap] w (NewPost ps w) := by
  have hlen := h.1
  by_cases h0 : len = 0
  · subst h0
    go_enter Tryd.func21, Tryd.ntmps21
    go_wp2
    go_ret2
    exact ⟨Below.refl _ _, .inl ⟨hlen, rfl⟩⟩
  · by_cases h20 : 20 < len
    · have e0 : ((len : Int) == 0) = false := by simp; omega
      go_enter Tryd.func21, Tryd.ntmps21
      go_wp2
      go_ret2
      exact ⟨Below.refl _ _, .inr (.inl ⟨by omega, rfl⟩)⟩
    · have e0 : ((len : Int) == 0) = false := by simp; omega
      have e1 : decide (20 < (len : Int)) = false := by simp; omega
      obtain ⟨b, off, rfl, hlt, hc⟩ := h.2 (by omega)
      go_enter Tryd.func21, Tryd.ntmps21
      go_wp2
      go_loopw [19] (fun i wr => ∃ k : Nat, k ≤ len ∧ i = .int .i64 k ∧ Below w.heap.size w wr ∧ ∀ j, j < k → wrongAt ps j = 0) (fun i _ => len - (intOf i).toNat)
      case atStart => exact ⟨0, Nat.zero_le _, rfl, Below.refl _ _, fun j hj => by omega⟩
      case round =>
        obtain ⟨k, hk, rfl, hB, hall⟩ := hrel
        have Hall := hid hall
        clear hall
        by_cases hkl : k < len
        · have hP : Pairs wr (some ⟨b, off, none⟩) len cap ps := h.below hB (Nat.le_refl _)
          have q1 := (hB.cell (p := ⟨b, off + k * 2, none⟩) hlt).trans (hc k hkl).1
          have q2 := (hB.cell (p := ⟨b, off + k * 2 + 1, none⟩) hlt).trans (hc k hkl).2
          have HP := hid hP
          clear hP hc h
          generalize hx : (ps.getD k (0, 0)).1 = x at q1
          generalize hy : (ps.getD k (0, 0)).2 = y at q2
          clear hx hy
          go_wp2_with fail
          refine (wrong_any _ len cap ps k _ (HP.out.below ((Below.refl wr.heap.size wr).alloc (Nat.le_refl _) _) (Nat.le_refl _)) hkl (by omega)).mono ?_
          rintro e w1 ⟨rfl, hB1⟩
          have hB2 : Below w.heap.size w w1 := (hB.alloc hB.size _).trans (hB1.mono (by simp; have := hB.size; omega))
          by_cases hz : wrongAt ps k = 0
          · have Hz := hid hz
            rw [hz]
            clear hz
            have r0 : w1.cell? ⟨wr.heap.size, 0, none⟩ = some (.int .i64 x) := (hB1.cell (p := ⟨wr.heap.size, 0, none⟩) (by simp)).trans (by simp)
            have r1 : w1.cell? ⟨wr.heap.size, 1, none⟩ = some (.int .i64 y) := (hB1.cell (p := ⟨wr.heap.size, 1, none⟩) (by simp)).trans (by simp)
            go_wp2
            go_roundw
            case rel =>
              refine ⟨k + 1, by omega, by go_num, hB2, fun j hj => ?_⟩
              rcases Nat.lt_or_eq_of_le (Nat.le_of_lt_succ hj) with h | h
              · exact Hall.out j h
              · rw [h]; exact Hz.out
            case measure => simp [intOf]; omega
          · have hz' : (wrongAt ps k != 0) = true := bneT hz
            have Hz := hid hz
            obtain ⟨e, he⟩ : ∃ e, wrongAt ps k = e := ⟨_, rfl⟩
            rw [he] at hz'
            rw [he]
            have He := hid he
            clear hz he
            go_wp2
            go_ret2
            refine ⟨hB2.alloc hB2.size _, .inr (.inr (.inl ⟨by omega, by omega, k, by omega, Hall.out, Hz.out, w1.heap.size, rfl, hB2.size, ?_, ?_⟩))⟩
            · rw [He.out]; simp
            · simp
        · obtain rfl : k = len := by omega
          obtain ⟨i0, hi0, hz0, hz1, hz2⟩ := info_parts row_info
          have HP := hid (h.below hB (Nat.le_refl _))
          have hsz := hB.size
          have Hlen := hid hlen
          have Hl := hid h.1
          clear hc h hlen
          go_wp2_with ((with_reducible (refine wpList_append_lies _ rfl (.tmp 36) (.tmp 37) 48 rfl w.heap.size 101 i0 _ 2 16 Tryd.underlying48 hi0 hz0 hz1 hz2 (by with_unfolding_all rfl) (by omega) (.slice (some ⟨wr.heap.size, 0, none⟩) 0 0) 0 [] (by with_unfolding_all rfl) (World.ownsRow_made wr #[] 0 hsz (by omega) rfl) ⟨b, off, none⟩ k cap (pairCells ps) (by with_unfolding_all rfl) (by rw [pairCells_length, Hl.out]) (HP.out.below ((Below.refl wr.heap.size wr).alloc (Nat.le_refl _) _) (Nat.le_refl _)).news (pairCells_one ps) (by omega) (by unfold maxLen; omega) (by omega) (by simp; omega) (wr.heap.size + 1) (by simp) ?_)); intro g cap' w1 hown hgrow hat hlt1)
          go_ret2
          have hB1 : Below w.heap.size w w1 := (hB.alloc hsz _).grown hgrow (by simp; omega) (fun q hq => by simp [Value.ownBlock] at hq; omega)
          simp only [Nat.zero_add, List.nil_append] at hown
          have hP1 := (Pairs.of_own hown).below ((Below.refl w1.heap.size w1).alloc (Nat.le_refl _) (.cells #[.slice (some ⟨g, 0, none⟩) k cap'] 106)) (Nat.le_refl _)
          refine ⟨hB1.alloc hB1.size _, .inr (.inr (.inr ⟨by have := Hl.out; omega, by have := Hl.out; omega, fun j hj => Hall.out j (by have := Hl.out; omega), w1.heap.size, some ⟨g, 0, none⟩, cap', rfl, hB1.size, by simp, ?_, ?_⟩))⟩
          · simp; exact Hl.out.symm
          · rw [Hl.out]; exact hP1

/-- the phase at a tick, and when the next one begins, by the first k rows -/
def phAt (ps : List (Int × Int)) (now : Int) : Nat → Int × Int
  | 0 => (1, -1)
  | k + 1 => if (ps.getD k (0, 0)).1 ≤ now ∨ k = 0 then ((ps.getD k (0, 0)).2, if k + 1 < ps.length then (ps.getD (k + 1) (0, 0)).1 else -1) else phAt ps now k
theorem phAt_no {ps : List (Int × Int)} {now : Int} {k : Nat} (h : ¬ (ps.getD k (0, 0)).1 ≤ now) (hk : k ≠ 0) : phAt ps now (k + 1) = phAt ps now k := by
  simp only [phAt]; rw [if_neg (by omega)]
theorem phAt_in {ps : List (Int × Int)} {now : Int} {k : Nat} (h : (ps.getD k (0, 0)).1 ≤ now ∨ k = 0) (hk : k + 1 < ps.length) : phAt ps now (k + 1) = ((ps.getD k (0, 0)).2, (ps.getD (k + 1) (0, 0)).1) := by
  simp only [phAt]; rw [if_pos h, if_pos hk]
theorem phAt_last {ps : List (Int × Int)} {now : Int} {k : Nat} (h : (ps.getD k (0, 0)).1 ≤ now ∨ k = 0) (hk : ¬ k + 1 < ps.length) : phAt ps now (k + 1) = ((ps.getD k (0, 0)).2, -1) := by
  simp only [phAt]; rw [if_pos h, if_neg hk]

set_option maxRecDepth 100000 in
set_option maxHeartbeats 1000000 in
theorem phase_any (t : Nat) (A : Option Addr) (len cap : Nat) (ps : List (Int × Int)) (now : Int) (w : World) (ht : t < w.heap.size) (h : Pairs w A len cap ps) (hc : w.cell? ⟨t, 0, none⟩ = some (.slice A len cap)) (h0 : 0 < len) (hm : len ≤ 20) :
    Calls Tryd.prog 26 #[.pointer (some ⟨t, 0, none⟩), .int .i64 now] w fun e w' => e = .returned (.tuple #[.int .i64 (phAt ps now len).1, .int .i64 (phAt ps now len).2]) ∧ Below w.heap.size w w' := by
  obtain ⟨b, off, rfl, hlt, _⟩ := h.2 h0
  have hlen := hid h.1
  go_enter Tryd.func26, Tryd.ntmps26
  go_wp2
  go_loopw [4, 5, 13] (fun p n i wr => ∃ k : Nat, k ≤ len ∧ i = .int .i64 k ∧ p = .int .i64 (phAt ps now k).1 ∧ n = .int .i64 (phAt ps now k).2 ∧ Below w.heap.size w wr) (fun _ _ i _ => len - (intOf i).toNat)
  case atStart => exact ⟨0, Nat.zero_le _, rfl, rfl, rfl, Below.refl _ _⟩
  case round =>
    obtain ⟨k, hk, rfl, rfl, rfl, hB⟩ := hrel
    by_cases hkl : k < len
    · have hcr : ∀ o, (wr.alloc o).cell? ⟨t, 0, none⟩ = some (.slice (some ⟨b, off, none⟩) len cap) := fun o => (World.cell?_alloc_lt _ _ _ (Nat.lt_of_lt_of_le ht hB.size)).trans ((hB.cell (p := ⟨t, 0, none⟩) ht).trans hc)
      have q1 := (hB.cell (p := ⟨b, off + k * 2, none⟩) hlt).trans (h.at_ hkl).1
      have q2 := (hB.cell (p := ⟨b, off + k * 2 + 1, none⟩) hlt).trans (h.at_ hkl).2
      have Hno := fun a b => hid (phAt_no (ps := ps) (now := now) (k := k) a b)
      have Hin := fun a b => hid (phAt_in (ps := ps) (now := now) (k := k) a b)
      have Hla := fun a b => hid (phAt_last (ps := ps) (now := now) (k := k) a b)
      have Hq := hid h
      generalize phAt ps now k = pk at *
      have Hq3 : ∀ h1 : k + 1 < len, wr.cell? ⟨b, off + (k + 1) * 2, none⟩ = some (.int .i64 (ps.getD (k + 1) (0, 0)).1) := fun h1 => (hB.cell (p := ⟨b, off + (k + 1) * 2, none⟩) hlt).trans (Hq.out.at_ h1).1
      clear h hc
      generalize (ps.getD k (0, 0)).1 = x at *
      generalize (ps.getD k (0, 0)).2 = y at *
      generalize (ps.getD (k + 1) (0, 0)).1 = z at *
      by_cases h1 : k + 1 < len
      · have q3 : ∀ o, (wr.alloc o).cell? ⟨b, off + (k + 1) * 2, none⟩ = some (.int .i64 z) := fun o => (World.cell?_alloc_lt _ _ _ (Nat.lt_of_lt_of_le hlt hB.size)).trans (Hq3 h1)
        clear Hq3
        by_cases hx : x ≤ now
        · have P := Hin (Or.inl hx) (by have := hlen.out; omega)
          clear Hin Hno Hla
          go_wp2
          go_roundw
          case rel => exact ⟨k + 1, by omega, by go_num, by rw [P.out], by rw [P.out], hB.alloc hB.size _⟩
          case measure => simp [intOf]; omega
        · have dx : decide (x ≤ now) = false := decF hx
          by_cases h0' : k = 0
          · have P := Hin (Or.inr h0') (by have := hlen.out; omega)
            have z0 : ((k : Int) == 0) = true := beqT (by omega)
            clear Hin Hno Hla h0'
            go_wp2
            go_roundw
            case rel => exact ⟨k + 1, by omega, by go_num, by rw [P.out], by rw [P.out], hB.alloc hB.size _⟩
            case measure => simp [intOf]; omega
          · have P := Hno hx h0'
            have z0 : ((k : Int) == 0) = false := beqF (by omega)
            clear Hin Hno Hla
            go_wp2
            go_roundw
            case rel => exact ⟨k + 1, by omega, by go_num, by rw [P.out], by rw [P.out], hB.alloc hB.size _⟩
            case measure => simp [intOf]; omega
      · have d1 : decide ((k : Int) + 1 < (len : Int)) = false := decF (by omega)
        clear Hq3
        by_cases hx : x ≤ now
        · have P := Hla (Or.inl hx) (by have := hlen.out; omega)
          clear Hin Hno Hla
          go_wp2
          go_roundw
          case rel => exact ⟨k + 1, by omega, by go_num, by rw [P.out], by rw [P.out], hB.alloc hB.size _⟩
          case measure => simp [intOf]; omega
        · have dx : decide (x ≤ now) = false := decF hx
          by_cases h0' : k = 0
          · have P := Hla (Or.inr h0') (by have := hlen.out; omega)
            have z0 : ((k : Int) == 0) = true := beqT (by omega)
            clear Hin Hno Hla h0'
            go_wp2
            go_roundw
            case rel => exact ⟨k + 1, by omega, by go_num, by rw [P.out], by rw [P.out], hB.alloc hB.size _⟩
            case measure => simp [intOf]; omega
          · have P := Hno hx h0'
            have z0 : ((k : Int) == 0) = false := beqF (by omega)
            clear Hin Hno Hla
            go_wp2
            go_roundw
            case rel => exact ⟨k + 1, by omega, by go_num, by rw [P.out], by rw [P.out], hB.alloc hB.size _⟩
            case measure => simp [intOf]; omega
    · obtain rfl : k = len := by omega
      go_wp2
      go_ret2
      exact ⟨rfl, hB⟩
end Go.Proofs.YtakbedckjaammaaDoor
