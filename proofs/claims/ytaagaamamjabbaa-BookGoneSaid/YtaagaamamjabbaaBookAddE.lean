/-
  The walk of Book.Add, where it tells an error.
-/
import Derived.WalkKit
import Derived.WalkLawsBesides
import Derived.WalkSpells
import Derived.Deep.RegionLaw
import Derived.Deep.QuietTactic
import Derived.Deep.RegionWith
import Derived.BigQuiet
import Derived.Deep.DeepCutAuto
import Derived.Deep.CutBlock
import Derived.Test.YtaagaamamjabbaaBookSem
import Derived.Test.YtaagaamamjabbaaNumW
namespace Go.Proofs.Ytaagaamamjabbaa
open Go.RowKit
set_option linter.unusedVariables false

/-- a Market order's price is nothing -/
def pricedO (o : Ord5) : Ord5 := ⟨o.id, o.side, o.kind, if o.kind = 2 then 1 else o.price, o.qty⟩
def argB (o : Ord5) : Bool := decide ((o.side = 1 ∨ o.side = 2) ∧ 1 ≤ o.id)
def rngB (o : Ord5) : Bool := rightB (pricedO o).price o.qty

set_option maxRecDepth 100000 in
set_option maxHeartbeats 1000000 in
theorem add_arg (w : World) (b : Nat) (o : Ord5) (h : argB o = false) :
    Calls Try.prog 11 #[.pointer (some ⟨b, 0, none⟩), aggO o] w fun e w' => e = .returned (errV 1) ∧ Below w.heap.size w w' := by
  have HB := hid (show Below w.heap.size w (w.alloc (.cells (boxO o) 41)) from (Below.refl _ w).alloc (Nat.le_refl _) _)
  obtain ⟨id, side, kind, price, qty⟩ := o
  unfold argB at h
  simp only [decide_eq_false_iff_not] at h
  unfold aggO
  dsimp only at h ⊢
  by_cases h1 : side = 1
  · have t1 := bneF h1
    have d1 : decide (id < 1) = true := decT (by omega)
    clear h h1
    go_enter Try.func11, Try.ntmps11
    go_wp2_with fail
    go_ret
    exact ⟨rfl, HB.out⟩
  · have t1 := bneT h1
    by_cases h2 : side = 2
    · have t2 := bneF h2
      have d1 : decide (id < 1) = true := decT (by omega)
      clear h h1 h2
      go_enter Try.func11, Try.ntmps11
      go_wp2_with fail
      go_ret
      exact ⟨rfl, HB.out⟩
    · have t2 := bneT h2
      clear h h1 h2
      go_enter Try.func11, Try.ntmps11
      go_wp2_with fail
      go_ret
      exact ⟨rfl, HB.out⟩

/-- behind the tests of the side and of the number: what remains, from a world with the order boxed -/
theorem argB_iff {o : Ord5} : argB o = true ↔ (o.side = 1 ∨ o.side = 2) ∧ 1 ≤ o.id := by unfold argB; simp
set_option maxRecDepth 100000 in
set_option maxHeartbeats 1000000 in
theorem add_range (w : World) (b : Nat) (o : Ord5) (h : argB o = true) (hr : rngB o = false) :
    Calls Try.prog 11 #[.pointer (some ⟨b, 0, none⟩), aggO o] w fun e w' => e = .returned (errV 2) ∧ Below w.heap.size w w' := by
  have HB := hid (show Below w.heap.size w (w.alloc (.cells (boxO (pricedO o)) 41)) from (Below.refl _ w).alloc (Nat.le_refl _) _)
  obtain ⟨hs, hi⟩ := argB_iff.1 h
  obtain ⟨id, side, kind, price, qty⟩ := o
  unfold aggO
  unfold rngB pricedO at hr
  unfold pricedO boxO at HB
  dsimp only at *
  have d1 : decide (id < 1) = false := decF (by omega)
  have HR := hid hr
  clear h hi hr
  rcases hs with rfl | rfl
  all_goals
    by_cases hk : kind = 2
    · have t1 := beqT hk
      rw [if_pos hk] at HR HB
      have HK := hid hk
      clear hk
      go_enter Try.func11, Try.ntmps11
      go_wp2_with (go_at_call 40; refine (right_any _ _ _).mono ?_; rintro e w1 ⟨rfl, hb⟩; rw [HR.out])
      go_ret
      exact ⟨rfl, HB.out.trans (hb.mono (by simp))⟩
    · have t1 := beqF hk
      rw [if_neg hk] at HR HB
      have HK := hid hk
      clear hk
      go_enter Try.func11, Try.ntmps11
      go_wp2_with (go_at_call 40; refine (right_any _ _ _).mono ?_; rintro e w1 ⟨rfl, hb⟩; rw [HR.out])
      go_ret
      exact ⟨rfl, HB.out.trans (hb.mono (by simp))⟩

theorem map_look (w : World) (r : Nat) (f : Int → Option Value) (h : IMap w r f) (k : Int) : (Instr.lookup 69 (.map (some r)) (.int .i64 k) true).run Try.prog w = .ok (.tuple #[(f k).getD (.agg #[.int .i64 0, .int .i64 0, .int .i64 0, .int .i64 0, .bool false]), .bool (f k).isSome]) w :=
  h.lookup Try.underlying69 Try.underlying3 (z := .agg #[.int .i64 0, .int .i64 0, .int .i64 0, .int .i64 0, .bool false]) (by kernel_rfl) k true


theorem map_look_some {w : World} {r : Nat} {f : Int → Option Value} (h : IMap w r f) {k : Int} {x : HO} (e : f k = some (placeV x)) : (Instr.lookup 69 (.map (some r)) (.int .i64 k) true).run Try.prog w =
    .ok (.tuple #[.agg #[.int .i64 x.1.1, .int .i64 x.1.2, .int .i64 x.2.side, .int .i64 x.2.price, .bool (x.2.kind == 2)], .bool true]) w := by
  rw [map_look w r f h k, e]; rfl
theorem map_look_none {w : World} {r : Nat} {f : Int → Option Value} (h : IMap w r f) {k : Int} (e : f k = none) : (Instr.lookup 69 (.map (some r)) (.int .i64 k) true).run Try.prog w =
    .ok (.tuple #[.agg #[.int .i64 0, .int .i64 0, .int .i64 0, .int .i64 0, .bool false], .bool false]) w := by
  rw [map_look w r f h k, e]; rfl
/-- an order boxed, behind the first tests of Add -/
theorem add_box {w w1 : World} {b a n r : Nat} {F : Nat → Prop} {M : Int → Int → Option Ord5} {f : Int → Option Value} {H : Int → HS} {reg : Nat → Int} {o : Ord5} (hM : BookM w b a F M n r f H reg)
    (hb : Below (w.alloc (.cells (boxO o) 41)).heap.size (w.alloc (.cells (boxO o) 41)) w1) : Below w.heap.size w w1 ∧ BookM w1 b a F M n r f H reg ∧ Blk w1 w.heap.size 41 (boxO o) := by
  have hB0 : Below w.heap.size w (w.alloc (.cells (boxO o) 41)) := (Below.refl _ w).alloc (Nat.le_refl _) _
  have hB : Below w.heap.size w w1 := hB0.trans (hb.mono (by simp))
  exact ⟨hB, hM.below hB, Blk.keep (Blk.new w _ _) hb⟩

set_option maxRecDepth 100000 in
set_option maxHeartbeats 1000000 in
theorem add_twice (w : World) (b : Nat) (o : Ord5) (a : Nat) (F : Nat → Prop) (M : Int → Int → Option Ord5) (n r : Nat) (f : Int → Option Value) (H : Int → HS) (reg : Nat → Int) (hM : BookM w b a F M n r f H reg)
    (h : argB o = true) (hr : rngB o = true) (x : HO) (hf : f o.id = some (placeV x)) :
    Calls Try.prog 11 #[.pointer (some ⟨b, 0, none⟩), aggO o] w fun e w' => e = .returned (errV 9) ∧ Below w.heap.size w w' := by
  obtain ⟨hs, hi⟩ := argB_iff.1 h
  obtain ⟨id, side, kind, price, qty⟩ := o
  unfold aggO
  unfold rngB pricedO at hr
  dsimp only at *
  have d1 : decide (id < 1) = false := decF (by omega)
  have HM := hid hM
  have HR := hid hr
  have HF := hid hf
  clear h hi hr hM hf
  rcases hs with rfl | rfl
  all_goals
    by_cases hk : kind = 2
    · have t1 := beqT hk
      rw [if_pos hk] at HR
      have HK := hid hk
      clear hk
      go_enter Try.func11, Try.ntmps11
      go_wp2_with fail
      refine (right_any _ _ _).mono ?_
      rintro e w1 ⟨rfl, hb⟩
      rw [HR.out]
      obtain ⟨hB, hM1, hX⟩ := add_box (o := ⟨id, _, kind, 1, qty⟩) HM.out hb
      obtain ⟨x0, x1, x2, x3, x4⟩ := ord_box hX
      obtain ⟨y0, y1, y2, y3, y4, y5⟩ := hM1.cells
      have hlk := map_look_some (w := (w1.alloc (.cells #[.int .i64 0, .int .i64 0, .int .i64 0, .int .i64 0, .bool false] 82)).drew) (hM1.mp.alloc _) HF.out
      have hlk2 := map_look_some (w := w1.drew) hM1.mp HF.out
      have HB := hid hB
      have hl1 := Blk.lt hX
      have hl2 := Blk.lt hM1.blk
      clear hM1 hX hB hb
      go_wp2_with fail
      go_region_law (fail)
      all_goals go_wp2_with fail
      all_goals
        go_ret
        exact ⟨rfl, (HB.out.trans (Below.drew ((Below.refl _ w1).alloc HB.out.size _)))⟩
    · have t1 := beqF hk
      rw [if_neg hk] at HR
      have HK := hid hk
      clear hk
      go_enter Try.func11, Try.ntmps11
      go_wp2_with fail
      refine (right_any _ _ _).mono ?_
      rintro e w1 ⟨rfl, hb⟩
      rw [HR.out]
      obtain ⟨hB, hM1, hX⟩ := add_box (o := ⟨id, _, kind, price, qty⟩) HM.out hb
      obtain ⟨x0, x1, x2, x3, x4⟩ := ord_box hX
      obtain ⟨y0, y1, y2, y3, y4, y5⟩ := hM1.cells
      have hlk := map_look_some (w := (w1.alloc (.cells #[.int .i64 0, .int .i64 0, .int .i64 0, .int .i64 0, .bool false] 82)).drew) (hM1.mp.alloc _) HF.out
      have hlk2 := map_look_some (w := w1.drew) hM1.mp HF.out
      have HB := hid hB
      have hl1 := Blk.lt hX
      have hl2 := Blk.lt hM1.blk
      clear hM1 hX hB hb
      go_wp2_with fail
      go_region_law (fail)
      all_goals go_wp2_with fail
      all_goals
        go_ret
        exact ⟨rfl, (HB.out.trans (Below.drew ((Below.refl _ w1).alloc HB.out.size _)))⟩
end Go.Proofs.Ytaagaamamjabbaa
