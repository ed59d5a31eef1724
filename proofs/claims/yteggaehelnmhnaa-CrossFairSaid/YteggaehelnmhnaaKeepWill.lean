/-
  The walk of openbellkeep.willing: whether an order would trade at a price.
-/
import Derived.WalkKit
import Derived.WalkLawsBesides
import Derived.WalkSpells
import Derived.Deep.QuietTactic
import Derived.BigQuiet
import Derived.Deep.LoopGhost
import Derived.Deep.DeepCutAuto
import Derived.Deep.CutBlock
import Derived.Deep.AppendLies
import Derived.Deep.RegionHeld3
import Derived.Test.YteggaehelnmhnaaRows
import Derived.Test.YteggaehelnmhnaaCurvePlain
import Derived.Test.YteggaehelnmhnaaPick
namespace Go.Proofs.Yteggaehelnmhnaa
open Go.RowKit
set_option linter.unusedVariables false

def willB (p : Int) (o : Ord5) : Bool := (o.kind == 2) || ((o.side == 1) && decide (p ≤ o.price)) || ((o.side == 2) && decide (o.price ≤ p))

set_option maxRecDepth 100000 in
set_option maxHeartbeats 1000000 in
theorem willing_any (o : Ord5) (p : Int) (w : World) (hs : o.side = 1 ∨ o.side = 2) : Calls Try.prog 13 #[aggO o, .int .i64 p] w fun e w' => e = .returned (.bool (willB p o)) ∧ Below w.heap.size w w' := by
  unfold aggO
  have HA := hid (show Below w.heap.size w (w.alloc (.cells #[.int .i64 o.id, .int .i64 o.side, .int .i64 o.kind, .int .i64 o.price, .int .i64 o.qty] 37)) from (Below.refl _ _).alloc (Nat.le_refl _) _)
  by_cases hk : o.kind = 2
  · have t1 := beqT hk
    have HE : Hid (willB p o = true) := hid (by unfold willB; rw [t1]; rfl)
    clear hk
    go_enter Try.func13, Try.ntmps13
    go_wp2
    go_ret
    exact ⟨ret_bool (by rw [HE.out]), HA.out⟩
  · have t1 := beqF hk
    rcases hs with hs | hs
    · have t2 := beqT hs
      have t3 := beqF (show ¬ o.side = 2 by omega)
      have HE : Hid (willB p o = decide (p ≤ o.price)) := hid (by unfold willB; rw [t1, t2, t3]; simp)
      by_cases hp : p ≤ o.price
      · have t4 := decT hp
        clear hk hs hp
        go_enter Try.func13, Try.ntmps13
        go_wp2
        go_ret
        exact ⟨ret_bool (by rw [HE.out, t4]), HA.out⟩
      · have t4 := decF hp
        clear hk hs hp
        go_enter Try.func13, Try.ntmps13
        go_wp2
        go_ret
        exact ⟨ret_bool (by rw [HE.out, t4]), HA.out⟩
    · have t2 := beqF (show ¬ o.side = 1 by omega)
      have t3 := beqT hs
      have HE : Hid (willB p o = decide (o.price ≤ p)) := hid (by unfold willB; rw [t1, t2, t3]; simp)
      by_cases hp : o.price ≤ p
      · have t4 := decT hp
        clear hk hs hp
        go_enter Try.func13, Try.ntmps13
        go_wp2
        go_ret
        exact ⟨ret_bool (by rw [HE.out, t4]), HA.out⟩
      · have t4 := decF hp
        clear hk hs hp
        go_enter Try.func13, Try.ntmps13
        go_wp2
        go_ret
        exact ⟨ret_bool (by rw [HE.out, t4]), HA.out⟩

end Go.Proofs.Yteggaehelnmhnaa
