/-
  Walks of book.better and of the comparison that (half).find hands to the search.
-/
import Derived.WalkKit
import Derived.WalkLawsBesides
import Derived.WalkSpells
import Derived.Deep.QuietTactic
import Derived.BigQuiet
import Derived.Test.YtaagaamamjabbaaOrd
import Derived.Test.YtaagaamamjabbaaRows
namespace Go.Proofs.Ytaagaamamjabbaa
open Go.RowKit
set_option linter.unusedVariables false

def betB (side a b : Int) : Bool := if side = 1 then decide (b < a) else decide (a < b)
def cmpQ (side a b : Int) : Int := if a = b then 0 else if betB side a b = true then -1 else 1

theorem better_any (side a b : Int) (w : World) : Calls Try.prog 61 #[.int .i64 side, .int .i64 a, .int .i64 b] w fun e w' => e = .returned (.bool (betB side a b)) ∧ w = w' := by
  by_cases h : side = 1
  · have t := beqT h
    have E : Hid (betB side a b = decide (b < a)) := hid (by unfold betB; rw [if_pos h])
    clear h
    go_enter Try.func61, Try.ntmps61
    go_wp2
    go_ret
    exact ⟨ret_bool (by rw [E.out]), rfl⟩
  · have t := beqF h
    have E : Hid (betB side a b = decide (a < b)) := hid (by unfold betB; rw [if_neg h])
    clear h
    go_enter Try.func61, Try.ntmps61
    go_wp2
    go_ret
    exact ⟨ret_bool (by rw [E.out]), rfl⟩

set_option maxRecDepth 100000 in
set_option maxHeartbeats 600000 in
theorem findCmp_any (side a b : Int) (L : Value) (g : Nat) (w : World) (hl : ∃ A n c, L = .slice A n c) (hc : w.cell? ⟨g, 0, none⟩ = some (.int .i64 side)) :
    Calls Try.prog 60 #[.agg #[.int .i64 a, L], .int .i64 b, .pointer (some ⟨g, 0, none⟩)] w fun e w' => e = .returned (.int .i64 (cmpQ side a b)) ∧ Below w.heap.size w w' := by
  obtain ⟨A, n, c, rfl⟩ := hl
  have hg := World.block_lt_of_cell? w _ hc
  have hc2 := (World.cell?_alloc_lt w (.cells #[.int .i64 a, .slice A n c] 91) ⟨g, 0, none⟩ hg).trans hc
  have HB := hid (show Below w.heap.size w (w.alloc (.cells #[.int .i64 a, .slice A n c] 91)) from (Below.refl _ w).alloc (Nat.le_refl _) _)
  by_cases h : a = b
  · have t := beqT h
    have E : Hid (cmpQ side a b = 0) := hid (by unfold cmpQ; rw [if_pos h])
    clear h
    go_enter Try.func60, Try.ntmps60
    go_wp2_with fail
    go_ret
    exact ⟨ret_int (by rw [E.out]), HB.out⟩
  · have t := beqF h
    cases hb : betB side a b with
    | true =>
      have E : Hid (cmpQ side a b = -1) := hid (by unfold cmpQ; rw [if_neg h, hb]; rfl)
      have HQ := hid hb
      clear h hb
      go_enter Try.func60, Try.ntmps60
      go_wp2_with (go_at_call 61; refine (better_any _ _ _ _).mono ?_; rintro e w1 ⟨rfl, rfl⟩; rw [HQ.out])
      all_goals go_wp2
      all_goals
        go_ret
        exact ⟨ret_int (by rw [E.out]), HB.out⟩
    | false =>
      have E : Hid (cmpQ side a b = 1) := hid (by unfold cmpQ; rw [if_neg h, hb]; rfl)
      have HQ := hid hb
      clear h hb
      go_enter Try.func60, Try.ntmps60
      go_wp2_with (go_at_call 61; refine (better_any _ _ _ _).mono ?_; rintro e w1 ⟨rfl, rfl⟩; rw [HQ.out])
      all_goals go_wp2
      all_goals
        go_ret
        exact ⟨ret_int (by rw [E.out]), HB.out⟩
end Go.Proofs.Ytaagaamamjabbaa
