/-
  Walks of package num: within, Right.
-/
import Derived.WalkKit
import Derived.WalkLawsBesides
import Derived.WalkSpells
import Derived.Test.YtaagaamamjabbaaRows
import Derived.Test.YtaagaamamjabbaaBase
namespace Go.Proofs.Ytaagaamamjabbaa
open Go.RowKit

def allIn (lo hi : Int) (xs : List Int) : Bool := xs.all fun n => decide (lo ≤ n) && decide (n ≤ hi)

theorem allIn_take (lo hi : Int) (xs : List Int) (k : Nat) (hk : k < xs.length) :
    allIn lo hi (xs.take (k+1)) = (allIn lo hi (xs.take k) && (decide (lo ≤ xs[k]) && decide (xs[k] ≤ hi))) := by
  unfold allIn
  rw [List.take_succ_eq_append_getElem hk, List.all_append]
  simp

theorem allIn_no (lo hi : Int) (xs : List Int) (k : Nat) (hk : k < xs.length) (h : ¬ (lo ≤ xs[k] ∧ xs[k] ≤ hi)) : allIn lo hi xs = false := by
  unfold allIn
  rw [List.all_eq_false]
  exact ⟨xs[k], List.getElem_mem hk, by simpa using h⟩

set_option maxHeartbeats 400000 in
theorem within_any (lo hi : Int) (b c : Nat) (xs : List Int) (w : World) (hl : xs.length ≤ 10)
    (hc : ∀ j (h : j < xs.length), w.cell? ⟨b, j, none⟩ = some (.int .i64 xs[j])) :
    Calls Try.prog 58 #[.int .i64 lo, .int .i64 hi, .slice (some ⟨b, 0, none⟩) xs.length c] w fun e w' =>
      e = .returned (.bool (allIn lo hi xs)) ∧ w = w' := by
  go_enter Try.func58, Try.ntmps58
  go_wp2
  go_loop [11] (fun i => ∃ k : Nat, k ≤ xs.length ∧ i = .int .i64 k ∧ allIn lo hi (xs.take k) = true) (fun i => xs.length - (intOf i).toNat)
  case atStart => exact ⟨0, Nat.zero_le _, rfl, rfl⟩
  case round =>
    obtain ⟨k, hk, rfl, hall⟩ := hrel
    by_cases hlt : k < xs.length
    · have hck := hc k hlt
      have hall' := hid hall
      clear hall hc
      by_cases h1 : lo ≤ xs[k]
      · by_cases h2 : xs[k] ≤ hi
        · have hs := allIn_take lo hi xs k hlt
          have hn : allIn lo hi (xs.take (k+1)) = true := by rw [hs, hall'.out]; simp [h1, h2]
          have Hn := hid hn
          clear hn hs
          go_wp2
          go_round
          case rel => exact ⟨k + 1, by omega, by go_num, Hn.out⟩
          case measure => simp [intOf]; omega
        · have hs := hid (allIn_no lo hi xs k hlt (by omega))
          go_wp2
          go_ret
          exact ⟨ret_bool hs.out.symm, rfl⟩
      · have hs := hid (allIn_no lo hi xs k hlt (by omega))
        go_wp2
        go_ret
        exact ⟨ret_bool hs.out.symm, rfl⟩
    · have hs := hid hall
      clear hall
      go_wp2
      go_ret
      exact ⟨ret_bool (by rw [← hs.out, List.take_of_length_le (by omega)]), rfl⟩

theorem within_new (lo hi x : Int) (n : Nat) (w : World) (hn : n = w.heap.size) :
    Calls Try.prog 58 #[.int .i64 lo, .int .i64 hi, .slice (some ⟨n, 0, none⟩) 1 1] (w.alloc (.cells #[.int .i64 x] 3)) fun e w' =>
      e = .returned (.bool (decide (lo ≤ x) && decide (x ≤ hi))) ∧ w.alloc (.cells #[.int .i64 x] 3) = w' := by
  subst hn
  refine (within_any lo hi _ 1 [x] _ (by simp) ?_).mono ?_
  · intro j h; simp at h; subst h; simp
  · rintro e w' ⟨rfl, rfl⟩; simp [allIn]

/-- a price, and a number of lots, that may be -/
def rightB (p q : Int) : Bool := (decide (1 ≤ p) && decide (p ≤ 1000000)) && (decide (1 ≤ q) && decide (q ≤ 1000000))
theorem rightB_iff {p s : Int} : rightB p s = true ↔ 1 ≤ p ∧ p ≤ 1000000 ∧ 1 ≤ s ∧ s ≤ 1000000 := by simp [rightB, and_assoc]

set_option maxHeartbeats 400000 in
theorem right_any (p q : Int) (w : World) : Calls Try.prog 40 #[.int .i64 p, .int .i64 q] w fun e w' =>
    e = .returned (.bool (rightB p q)) ∧ Below w.heap.size w w' := by
  by_cases h1 : (decide (1 ≤ p) && decide (p ≤ 1000000)) = true
  · have e1 : rightB p q = (decide (1 ≤ q) && decide (q ≤ 1000000)) := by rw [rightB, h1]; rfl
    rw [e1]
    have H1 := hid h1
    clear h1 e1
    go_enter Try.func40, Try.ntmps40
    go_wp2_with fail
    refine (within_new _ _ _ _ _ (by simp)).mono ?_
    rintro e w' ⟨rfl, rfl⟩
    rw [H1.out]
    go_wp2_with fail
    refine (within_new _ _ _ _ _ (by simp)).mono ?_
    rintro e w' ⟨rfl, rfl⟩
    go_wp2
    go_ret
    exact ⟨rfl, ((Below.refl _ w).alloc (Nat.le_refl _) _).alloc (by simp) _⟩
  · have h1' : (decide (1 ≤ p) && decide (p ≤ 1000000)) = false := by simpa using h1
    have e1 : rightB p q = false := by rw [rightB, h1']; rfl
    rw [e1]
    have H1 := hid h1'
    clear h1 h1' e1
    go_enter Try.func40, Try.ntmps40
    go_wp2_with fail
    refine (within_new _ _ _ _ _ (by simp)).mono ?_
    rintro e w' ⟨rfl, rfl⟩
    rw [H1.out]
    go_wp2
    go_ret
    exact ⟨rfl, (Below.refl _ w).alloc (Nat.le_refl _) _⟩

end Go.Proofs.Ytaagaamamjabbaa
