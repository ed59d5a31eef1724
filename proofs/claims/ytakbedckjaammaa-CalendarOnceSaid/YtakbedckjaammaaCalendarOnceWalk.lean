/-
  The walk of openbellkeep.CalendarOnce: it returns true, whatever the input.
-/
import Derived.WalkKit
import Derived.WalkLawsBesides
import Derived.WalkSpells
import Derived.Test.YtakbedckjaammaaTablePlain
import Derived.Test.YtakbedckjaammaaPick
import Derived.Test.YtakbedckjaammaaPairsFrame
namespace Go.Proofs.Ytakbedckjaammaa
open Go.RowKit

theorem dated_ok : TableOk [(0, 1), (5, 2)] := by
  refine ⟨by decide, by decide, ?_⟩
  intro j hj
  match j, hj with
  | 0, _ => decide
  | 1, _ => decide

set_option maxRecDepth 100000 in
set_option maxHeartbeats 1000000 in
theorem dated_any (w : World) : Calls Try.prog 15 #[] w fun e w' => e = .returned (.bool true) ∧ Below w.heap.size w w' := by
  go_enter Try.func15, Try.ntmps15
  go_wp2_with fail
  have hP : Pairs (w.alloc (.cells #[.int .i64 0, .int .i64 1, .int .i64 5, .int .i64 2] 66)) (some ⟨w.heap.size, 0, none⟩) 2 2 [(0, 1), (5, 2)] := by
    refine ⟨rfl, fun _ => ⟨_, _, rfl, by simp, fun i hi => ?_⟩⟩
    match i, hi with
    | 0, _ => simp
    | 1, _ => simp
  refine (new_any _ 2 2 [(0, 1), (5, 2)] _ hP (by omega)).mono ?_
  rintro e w1 hN
  obtain ⟨hB, t, A, cap, rfl, ht1, ht2, hc, hP1⟩ := hN.good dated_ok
  clear hN hP
  have hB1 : Below w.heap.size w w1 := ((Below.refl _ w).alloc (Nat.le_refl _) _).trans (hB.mono (by simp))
  have HP := hid hP1
  have Hc := hid hc
  clear hP1 hc hB
  go_wp2_with fail
  refine (phase_any t A 2 cap [(0, 1), (5, 2)] 4 _ ht2 HP.out Hc.out (by omega) (by omega)).mono ?_
  rintro e w2 ⟨rfl, hB2⟩
  go_wp2_with fail
  refine (phase_any t A 2 cap [(0, 1), (5, 2)] 5 _ (Nat.lt_of_lt_of_le ht2 hB2.size) (HP.out.below hB2 (Nat.le_refl _)) ((hB2.cell (p := ⟨t, 0, none⟩) ht2).trans Hc.out) (by omega) (by omega)).mono ?_
  rintro e w3 ⟨rfl, hB3⟩
  go_wp2
  go_ret
  refine ⟨rfl, (hB1.trans (hB2.mono hB1.size)).trans (hB3.mono (Nat.le_trans hB1.size hB2.size))⟩

set_option maxRecDepth 100000 in
set_option maxHeartbeats 2000000 in
theorem calendarOnce_any (A : Option Addr) (len cap : Nat) (ps : List (Int × Int)) (fr mn : Int) (w : World) (h : Pairs w A len cap ps) (hm : len ≤ 9223372036854775807) :
    Calls Try.prog 5 #[.slice A len cap, .int .i64 fr, .int .i64 mn] w fun e w' => e = .returned (.bool true) ∧ Below w.heap.size w w' := by
  have q1 := pk_nonneg fr 1000000 (by omega)
  have q2 := pk_lt fr 1000000 (by omega)
  have q3 := pk_nonneg mn 200 (by omega)
  have q4 := pk_lt mn 200 (by omega)
  by_cases h30 : 30 < len
  · go_enter Try.func5, Try.ntmps5
    go_wp2
    go_ret
    exact ⟨rfl, Below.refl _ _⟩
  · have d30 : decide (30 < (len : Int)) = false := decF (by omega)
    go_enter Try.func5, Try.ntmps5
    go_wp2_with fail
    refine (dated_any _).mono ?_
    rintro e w1 ⟨rfl, hB1⟩
    go_wp2_with fail
    refine (new_any _ len cap ps _ (h.below hB1 (Nat.le_refl _)) hm).mono ?_
    intro e w2 hN
    have hlen := hid h.1
    clear h
    by_cases hok : TableOk ps
    · obtain ⟨hB2, t, A', cap', rfl, ht1, ht2, hc, hP⟩ := hN.good hok
      rw [hlen.out] at hc hP
      have HP := hid hP
      have Hc := hid hc
      have Hok := hid hok
      have hB12 : Below w.heap.size w w2 := hB1.trans (hB2.mono hB1.size)
      clear hN hP hc hok hB2 hB1
      go_wp2_with fail
      refine (pick_any fr _ _ (by omega) (by omega)).mono ?_
      rintro e w' ⟨rfl, rfl⟩
      generalize pk fr 1000000 = F at *
      go_wp2_with fail
      have hl20 : len ≤ 20 := by have := Hok.out.2.1; have := hlen.out; omega
      have hl0 : 0 < len := by have := Hok.out.1; have := hlen.out; omega
      refine (phase_any t A' len cap' ps F _ ht2 HP.out Hc.out hl0 hl20).mono ?_
      rintro e w3 ⟨rfl, hB3⟩
      go_wp2
      have hB13 : Below w.heap.size w w3 := hB12.trans (hB3.mono hB12.size)
      have ht3 : t < w3.heap.size := Nat.lt_of_lt_of_le ht2 hB3.size
      have HP3 := hid (HP.out.below hB3 (Nat.le_refl _))
      have Hc3 := hid ((hB3.cell (p := ⟨t, 0, none⟩) ht2).trans Hc.out)
      generalize hK : pk mn 200 = K at *
      have HK := hid hK
      clear hK HP Hc hB12 hB3 ht2
      go_loopw [9, 10, 11] (fun p n i wr => ∃ j : Nat, (j : Int) ≤ K + 1 ∧ i = .int .i64 ((j : Int) + 1) ∧ p = .int .i64 (phAt ps (F + j) len).1 ∧ n = .int .i64 (phAt ps (F + j) len).2 ∧ Below w3.heap.size w3 wr) (fun _ _ i _ => (K + 2 - intOf i).toNat)
      case atStart => exact ⟨0, by omega, rfl, by simp, by simp, Below.refl _ _⟩
      case round =>
        obtain ⟨j, hj, rfl, rfl, rfl, hB⟩ := hrel
        have htr : t < wr.heap.size := Nat.lt_of_lt_of_le ht3 hB.size
        have HPr := hid (HP3.out.below hB (Nat.le_refl _))
        have Hcr := hid ((hB.cell (p := ⟨t, 0, none⟩) ht3).trans Hc3.out)
        go_wp2_with fail
        refine (pick_any mn _ _ (by omega) (by omega)).mono ?_
        rintro e w' ⟨rfl, rfl⟩
        rw [HK.out]
        by_cases hjk : (j : Int) + 1 ≤ K
        · have hstep := phAt_step Hok.out (F + j) (by omega)
          rw [hlen.out] at hstep
          have e1 : F + (j : Int) + 1 = F + ((j : Int) + 1) := by omega
          rw [e1] at hstep
          go_wp2_with fail
          refine (phase_any t A' len cap' ps _ _ htr HPr.out Hcr.out hl0 hl20).mono ?_
          rintro e w4 ⟨rfl, hB4⟩
          have hB5 : Below w3.heap.size w3 w4 := hB.trans (hB4.mono hB.size)
          have Hq : Hid ((phAt ps (F + ((j : Int) + 1)) len) = (phAt ps (F + ((j + 1 : Nat) : Int)) len)) := rfl
          generalize phAt ps (F + (j : Int)) len = P0 at *
          generalize phAt ps (F + ((j : Int) + 1)) len = P1 at *
          obtain ⟨p, n⟩ := P0
          obtain ⟨q, m⟩ := P1
          simp only at hstep
          rcases hstep with ⟨h1, h2⟩ | ⟨h1, h2, h3, h4⟩
          · have t1 : (n == F + ((j : Int) + 1)) = true := beqT (by omega)
            have t2 : (q != p) = true := bneT h2
            have t3 : (0 : Int) ≤ n := by omega
            have t4 : decide (n ≤ F + ((j : Int) + 1) - 1) = false := decF (by omega)
            have t5 : (q == p) = false := beqF h2
            clear h1 h2
            go_wp2
            go_roundw
            case rel => exact ⟨j + 1, by omega, by go_num, by rw [← Hq.out], by rw [← Hq.out], hB5⟩
            case measure => simp [intOf]; omega
          · obtain rfl : q = p := h2
            obtain rfl : m = n := h3
            have t1 : (m == F + ((j : Int) + 1)) = false := beqF (by omega)
            rcases h4 with h4 | h4
            · have t3 : decide ((0 : Int) ≤ m) = false := decF (by omega)
              clear h1
              go_wp2
              go_roundw
              case rel => exact ⟨j + 1, by omega, by go_num, by rw [← Hq.out], by rw [← Hq.out], hB5⟩
              case measure => simp [intOf]; omega
            · have t3 : (0 : Int) ≤ m := by omega
              have t4 : decide (m ≤ F + ((j : Int) + 1) - 1) = false := decF (by omega)
              clear h1
              go_wp2
              go_roundw
              case rel => exact ⟨j + 1, by omega, by go_num, by rw [← Hq.out], by rw [← Hq.out], hB5⟩
              case measure => simp [intOf]; omega
        · go_wp2
          go_ret
          exact ⟨rfl, hB13.trans (hB.mono hB13.size)⟩
    · obtain ⟨hB2, t, v, rfl⟩ := hN.bad hok
      have hB12 : Below w.heap.size w w2 := hB1.trans (hB2.mono hB1.size)
      clear hN hok
      go_wp2
      go_ret
      exact ⟨rfl, hB12⟩

theorem calendarOnce_frame {A : Option Addr} {len cap : Nat} {rows : List (List Int)} {W : World} (h : RowsAt W 2 A len cap rows) (a1 a2 : Int) :
    Calls Try.prog 5 #[.slice A len cap, .int .i64 a1, .int .i64 a2] W fun e w' => e = .returned (.bool true) ∧ Below W.heap.size W w' :=
  calendarOnce_any A len cap (pairsOf rows) a1 a2 W (pairs_of_rows h) (by have := h.2.1; have := h.2.2.1; unfold maxLen at this; omega)
end Go.Proofs.Ytakbedckjaammaa
