/-
  The walk of openbellkeep.pick: a number from 0 on, below n.
-/
import Derived.WalkKit
import Derived.WalkLawsBesides
import Derived.WalkSpells
import Derived.Test.YteggaehelnmhnaaRows
import Derived.Test.YteggaehelnmhnaaMem
namespace Go.Proofs.Yteggaehelnmhnaa
open Go.RowKit

/-- what 'pick' gives -/
def pk (a n : Int) : Int := IntKind.u64.wrap a % n
theorem pk_nonneg (a n : Int) (h : 1 ≤ n) : 0 ≤ pk a n := Int.emod_nonneg _ (by omega)
theorem pk_lt (a n : Int) (h : 1 ≤ n) : pk a n < n := Int.emod_lt_of_pos _ (by omega)
theorem u64_nonneg (a : Int) : 0 ≤ IntKind.u64.wrap a := by
  have h : IntKind.u64.wrap a = a % 18446744073709551616 := rfl
  rw [h]; omega
theorem pk_walk (a n : Int) (h1 : 1 ≤ n) (h2 : n ≤ 1000000000) : wrap64 ((IntKind.u64.wrap a).tmod n) = pk a n := by
  rw [Int.tmod_eq_emod_of_nonneg (u64_nonneg a)]
  have := pk_nonneg a n h1
  have := pk_lt a n h1
  unfold pk at *
  unfold wrap64
  omega
set_option maxHeartbeats 400000 in
theorem pick_any (a n : Int) (w : World) (h1 : 1 ≤ n) (h2 : n ≤ 1000000000) :
    Calls Try.prog 6 #[.int .i64 a, .int .i64 n] w fun e w' => e = .returned (.int .i64 (pk a n)) ∧ w = w' := by
  go_enter Try.func6, Try.ntmps6
  go_wp2
  go_ret
  exact ⟨ret_int (pk_walk a n h1 h2), rfl⟩


end Go.Proofs.Yteggaehelnmhnaa
