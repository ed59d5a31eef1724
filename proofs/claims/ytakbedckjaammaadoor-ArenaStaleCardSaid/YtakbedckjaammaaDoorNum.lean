/-
  Walks of package num: within, Band.
-/
import Derived.WalkKit
import Derived.WalkLawsBesides
import Derived.WalkSpells
import Derived.Test.YtakbedckjaammaaDoorRows
import Derived.Test.YtakbedckjaammaaDoorBase
namespace Go.Proofs.YtakbedckjaammaaDoor
open Go.RowKit

def allIn (lo hi : Int) (xs : List Int) : Bool := xs.all fun n => decide (lo ≤ n) && decide (n ≤ hi)

theorem allIn_take (lo hi : Int) (xs : List Int) (k : Nat) (hk : k < xs.length) :
    allIn lo hi (xs.take (k+1)) = (allIn lo hi (xs.take k) && (decide (lo ≤ xs[k]) && decide (xs[k] ≤ hi))) := by
  unfold allIn
  rw [List.take_succ_eq_append_getElem hk, List.all_append]
  simp

theorem allIn_no (lo hi : Int) (xs : List Int) (k : Nat) (hk : k < xs.length) (h : ¬ (lo ≤ xs[k] ∧ xs[k] ≤ hi)) : allIn lo hi xs = false := by
  unfold allIn
  rw [List.all_eq_false]
  exact ⟨xs[k], List.getElem_mem hk, by simpa using h⟩

set_option maxHeartbeats 400000 in
theorem within_any (lo hi : Int) (b c : Nat) (xs : List Int) (w : World) (hl : xs.length ≤ 10)
    (hc : ∀ j (h : j < xs.length), w.cell? ⟨b, j, none⟩ = some (.int .i64 xs[j])) :
    Calls Tryd.prog 43 #[.int .i64 lo, .int .i64 hi, .slice (some ⟨b, 0, none⟩) xs.length c] w fun e w' =>
      e = .returned (.bool (allIn lo hi xs)) ∧ w = w' := by
  go_enter Tryd.func43, Tryd.ntmps43
  go_wp2
  go_loop [11] (fun i => ∃ k : Nat, k ≤ xs.length ∧ i = .int .i64 k ∧ allIn lo hi (xs.take k) = true) (fun i => xs.length - (intOf i).toNat)
  case atStart => exact ⟨0, Nat.zero_le _, rfl, rfl⟩
  case round =>
    obtain ⟨k, hk, rfl, hall⟩ := hrel
    by_cases hlt : k < xs.length
    · have hck := hc k hlt
      have hall' := hid hall
      clear hall hc
      by_cases h1 : lo ≤ xs[k]
      · by_cases h2 : xs[k] ≤ hi
        · have hs := allIn_take lo hi xs k hlt
          have hn : allIn lo hi (xs.take (k+1)) = true := by rw [hs, hall'.out]; simp [h1, h2]
          have Hn := hid hn
          clear hn hs
          go_wp2
          go_round
          case rel => exact ⟨k + 1, by omega, by go_num, Hn.out⟩
          case measure => simp [intOf]; omega
        · have hs := hid (allIn_no lo hi xs k hlt (by omega))
          go_wp2
          go_ret
          exact ⟨ret_bool hs.out.symm, rfl⟩
      · have hs := hid (allIn_no lo hi xs k hlt (by omega))
        go_wp2
        go_ret
        exact ⟨ret_bool hs.out.symm, rfl⟩
    · have hs := hid hall
      clear hall
      go_wp2
      go_ret
      exact ⟨ret_bool (by rw [← hs.out, List.take_of_length_le (by omega)]), rfl⟩

theorem within_new (lo hi x : Int) (n : Nat) (w : World) (hn : n = w.heap.size) :
    Calls Tryd.prog 43 #[.int .i64 lo, .int .i64 hi, .slice (some ⟨n, 0, none⟩) 1 1] (w.alloc (.cells #[.int .i64 x] 3)) fun e w' =>
      e = .returned (.bool (decide (lo ≤ x) && decide (x ≤ hi))) ∧ w.alloc (.cells #[.int .i64 x] 3) = w' := by
  subst hn
  refine (within_any lo hi _ 1 [x] _ (by simp) ?_).mono ?_
  · intro j h; simp at h; subst h; simp
  · rintro e w' ⟨rfl, rfl⟩; simp [allIn]

/-- the band's two ends -/
def lowOf (p s : Int) : Int := max 1 (p - p * s / 10000)
def highOf (p s : Int) : Int := min 1000000 (p + p * s / 10000)

set_option maxHeartbeats 400000 in
theorem band_ok (p s : Int) (w : World) (h1 : 1 ≤ p) (h2 : p ≤ 1000000) (h3 : 0 ≤ s) (h4 : s ≤ 10000) :
    Calls Tryd.prog 9 #[.int .i64 p, .int .i64 s] w fun e w' =>
      e = .returned (.tuple #[.int .i64 (lowOf p s), .int .i64 (highOf p s), .nilIface]) ∧ Below w.heap.size w w' := by
  go_enter Tryd.func9, Tryd.ntmps9
  have hm : 0 ≤ p * s := Int.mul_nonneg (by omega) h3
  have hm2 : p * s ≤ 10000000000 := Int.le_trans (Int.mul_le_mul h2 h4 h3 (by omega)) (by omega)
  go_wp2_with (go_at_call 43; refine (within_new _ _ _ _ _ (by simp)).mono ?_; rintro e w' ⟨rfl, rfl⟩)
  all_goals
    go_ret3
    exact ⟨ret_iie (by unfold lowOf; omega) (by unfold highOf; omega), ((Below.refl _ _).alloc (Nat.le_refl _) _).alloc (by simp) _⟩

set_option maxHeartbeats 400000 in
theorem band_err (p s : Int) (w : World) (h : ¬ (1 ≤ p ∧ p ≤ 1000000 ∧ 0 ≤ s ∧ s ≤ 10000)) :
    Calls Tryd.prog 9 #[.int .i64 p, .int .i64 s] w fun e w' =>
      e = .returned (.tuple #[.int .i64 0, .int .i64 0, .iface 22 (.int .i64 2)]) ∧ Below w.heap.size w w' := by
  by_cases h1 : 1 ≤ p
  · by_cases h2 : p ≤ 1000000
    · by_cases h3 : 0 ≤ s
      · have h4 : decide (s ≤ 10000) = false := by simp; omega
        clear h
        go_enter Tryd.func9, Tryd.ntmps9
        go_wp2_with (go_at_call 43; refine (within_new _ _ _ _ _ (by simp)).mono ?_; rintro e w' ⟨rfl, rfl⟩)
        go_ret3
        exact ⟨rfl, ((Below.refl _ _).alloc (Nat.le_refl _) _).alloc (by simp) _⟩
      · have h4 : decide (0 ≤ s) = false := by simp; omega
        clear h h3
        go_enter Tryd.func9, Tryd.ntmps9
        go_wp2_with (go_at_call 43; refine (within_new _ _ _ _ _ (by simp)).mono ?_; rintro e w' ⟨rfl, rfl⟩)
        go_ret3
        exact ⟨rfl, ((Below.refl _ _).alloc (Nat.le_refl _) _).alloc (by simp) _⟩
    · have h4 : decide (p ≤ 1000000) = false := by simp; omega
      clear h h2
      go_enter Tryd.func9, Tryd.ntmps9
      go_wp2_with (go_at_call 43; refine (within_new _ _ _ _ _ (by simp)).mono ?_; rintro e w' ⟨rfl, rfl⟩)
      go_ret3
      exact ⟨rfl, (Below.refl _ _).alloc (Nat.le_refl _) _⟩
  · have h4 : decide (1 ≤ p) = false := by simp; omega
    clear h h1
    go_enter Tryd.func9, Tryd.ntmps9
    go_wp2_with (go_at_call 43; refine (within_new _ _ _ _ _ (by simp)).mono ?_; rintro e w' ⟨rfl, rfl⟩)
    go_ret3
    exact ⟨rfl, (Below.refl _ _).alloc (Nat.le_refl _) _⟩

end Go.Proofs.YtakbedckjaammaaDoor
