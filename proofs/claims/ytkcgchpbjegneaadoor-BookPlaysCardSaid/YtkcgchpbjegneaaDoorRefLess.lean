/-
  The walks of the closures of openbellref.Side: rank, and the comparison of two places of a slice by it.
-/
import Derived.WalkKit
import Derived.WalkLawsBesides
import Derived.WalkSpells
import Derived.Deep.RegionHeld3
import Derived.Shelf.Abstract
import Derived.Laws.EntriesVeiled
import Derived.Test.YtkcgchpbjegneaaDoorMem
namespace Go.Proofs.YtkcgchpbjegneaaDoor
open Go.RowKit
set_option linter.unusedVariables false

/-- where an order ranks on a side -/
def rankV (side kind price : Int) : Int := if kind = 2 then -2000000 else if side = 1 then -price else price
def rankO (side : Int) (o : Ord5) : Int := rankV side o.kind o.price
set_option maxHeartbeats 400000 in
theorem rank_any (a b c d e side : Int) (bs : Nat) (W : World) (X : Prop) (h : W.cell? ⟨bs, 0, none⟩ = some (.int .i64 side) ∧ X) (hd1 : -1000000000 ≤ d) (hd2 : d ≤ 1000000000) :
    Calls Tryd.prog 49 #[.agg #[.int .i64 a, .int .i64 b, .int .i64 c, .int .i64 d, .int .i64 e], .pointer (some ⟨bs, 0, none⟩)] W fun e w' => e = .returned (.int .i64 (rankV side c d)) ∧ Below W.heap.size W w' := by
  have h0 := h.1
  have hb : bs < W.heap.size := World.block_lt_of_cell? W ⟨bs, 0, none⟩ h0
  clear h
  have HB := hid (show Below W.heap.size W (W.alloc (.cells #[.int .i64 a, .int .i64 b, .int .i64 c, .int .i64 d, .int .i64 e] 30)) from (Below.refl _ _).alloc (Nat.le_refl _) _)
  by_cases hc : c = 2
  · have d1 := beqT hc
    have HE := hid (show rankV side c d = -2000000 from if_pos hc)
    clear hc
    go_enter Tryd.func49, Tryd.ntmps49
    go_wp2
    go_ret
    exact ⟨ret_int (by rw [HE.out]), HB.out⟩
  · have d1 := beqF hc
    by_cases hs : side = 1
    · have d2 := beqT hs
      have HE := hid (show rankV side c d = -d by unfold rankV; rw [if_neg hc, if_pos hs])
      have hw : RowKit.wrap64 (-d) = -d := by unfold RowKit.wrap64; omega
      clear hc hs
      go_enter Tryd.func49, Tryd.ntmps49
      go_wp2
      go_ret
      exact ⟨ret_int (by rw [HE.out]), HB.out⟩
    · have d2 := beqF hs
      have HE := hid (show rankV side c d = d by unfold rankV; rw [if_neg hc, if_neg hs])
      clear hc hs
      go_enter Tryd.func49, Tryd.ntmps49
      go_wp2
      go_ret
      exact ⟨ret_int (by rw [HE.out]), HB.out⟩

abbrev LessS (w W : World) (bs bo br g n c i j : Nat) (side : Int) (x y : Ord5) : Prop := W.cell? ⟨bs, 0, none⟩ = some (.int .i64 side) ∧ W.cell? ⟨bo, 0, none⟩ = some (.slice (some ⟨g, 0, none⟩) n c) ∧ W.cell? ⟨br, 0, none⟩ = some (.func (.func 49) #[] #[.pointer (some ⟨bs, 0, none⟩)]) ∧
  W.cell? ⟨g, i * 5, none⟩ = some (.int .i64 x.id) ∧ W.cell? ⟨g, i * 5 + 1, none⟩ = some (.int .i64 x.side) ∧ W.cell? ⟨g, i * 5 + 2, none⟩ = some (.int .i64 x.kind) ∧ W.cell? ⟨g, i * 5 + 3, none⟩ = some (.int .i64 x.price) ∧ W.cell? ⟨g, i * 5 + 4, none⟩ = some (.int .i64 x.qty) ∧
  W.cell? ⟨g, j * 5, none⟩ = some (.int .i64 y.id) ∧ W.cell? ⟨g, j * 5 + 1, none⟩ = some (.int .i64 y.side) ∧ W.cell? ⟨g, j * 5 + 2, none⟩ = some (.int .i64 y.kind) ∧ W.cell? ⟨g, j * 5 + 3, none⟩ = some (.int .i64 y.price) ∧ W.cell? ⟨g, j * 5 + 4, none⟩ = some (.int .i64 y.qty) ∧ Below w.heap.size w W
theorem LessS.step {w W W' : World} {bs bo br g n c i j : Nat} {side : Int} {x y : Ord5} (h : LessS w W bs bo br g n c i j side x y) (hb : Below W.heap.size W W') : LessS w W' bs bo br g n c i j side x y := by
  obtain ⟨h1, h2, h3, x0, x1, x2, x3, x4, y0, y1, y2, y3, y4, hB⟩ := h
  have key : ∀ {p : Addr} {v : Value}, W.cell? p = some v → W'.cell? p = some v := fun {p v} hp => (hb.cell (World.block_lt_of_cell? W p hp)).trans hp
  exact ⟨key h1, key h2, key h3, key x0, key x1, key x2, key x3, key x4, key y0, key y1, key y2, key y3, key y4, hB.trans (hb.mono hB.size)⟩
theorem LessS.below {w W : World} {bs bo br g n c i j : Nat} {side : Int} {x y : Ord5} (h : LessS w W bs bo br g n c i j side x y) : Below w.heap.size w W := h.2.2.2.2.2.2.2.2.2.2.2.2.2
theorem LessS.drew {w W : World} {bs bo br g n c i j : Nat} {side : Int} {x y : Ord5} (h : LessS w W bs bo br g n c i j side x y) : LessS w W.drew bs bo br g n c i j side x y := LessS.step h (Below.drew (Below.refl _ _))

set_option maxRecDepth 100000 in
set_option maxHeartbeats 1000000 in
theorem less_any (bs bo br g n c i j : Nat) (side : Int) (x y : Ord5) (w : World) (h : LessS w w bs bo br g n c i j side x y) (hi : i < n) (hj : j < n) (hx1 : -1000000000 ≤ x.price) (hx2 : x.price ≤ 1000000000) (hy1 : -1000000000 ≤ y.price) (hy2 : y.price ≤ 1000000000) :
    Calls Tryd.prog 51 #[.int .i64 i, .int .i64 j, .pointer (some ⟨br, 0, none⟩), .pointer (some ⟨bo, 0, none⟩)] w fun e w' => e = .returned (.bool (decide (rankO side x < rankO side y))) ∧ Below w.heap.size w w' := by
  have eg : ∀ args w, (callFunc 49 args).run Tryd.prog w = .ok (.enter 49 args) w := Go.Proofs.enters_of Tryd.func49 (by kernel_rfl) rfl
  unfold rankO
  obtain ⟨xa, xb, xc, xd, xe⟩ := x
  obtain ⟨ya, yb, yc, yd, ye⟩ := y
  have HS0 := hid h
  obtain ⟨h1, h2, h3, x0, x1, x2, x3, x4, y0, y1, y2, y3, y4, -⟩ := h
  dsimp only at *
  have i0 : (0 : Int) ≤ (i : Int) := by omega
  have j0 : (0 : Int) ≤ (j : Int) := by omega
  have i1 : (i : Int) < (n : Int) := by omega
  have j1 : (j : Int) < (n : Int) := by omega
  go_enter Tryd.func51, Tryd.ntmps51
  go_wp2
  go_region_held3 (fun W => LessS w W bs bo br g n c i j side ⟨xa, xb, xc, xd, xe⟩ ⟨ya, yb, yc, yd, ye⟩)
    (first | exact HS0.out.drew | exact LessS.step (by assumption) hB)
    (first | (go_at_fn 49; refine (rank_any _ _ _ _ _ _ _ _ _ (by assumption) (by assumption) (by assumption)).mono ?_; rintro e w1 ⟨rfl, hB⟩))
  go_wp2
  go_ret
  exact ⟨rfl, LessS.below (by assumption)⟩
end Go.Proofs.YtkcgchpbjegneaaDoor
