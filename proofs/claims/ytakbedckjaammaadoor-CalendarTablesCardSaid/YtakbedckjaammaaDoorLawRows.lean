/-
  The walk of openbelllaw.rows: a new slice of the same pairs.
-/
import Derived.WalkKit
import Derived.WalkLawsBesides
import Derived.WalkSpells
import Derived.Deep.LoopGhost
import Derived.Deep.AppendLies
import Derived.Deep.RegionHeld3
import Derived.StillTactics
import Derived.OwnWalk
import Derived.Deep.DeepCutAuto
import Derived.Test.YtakbedckjaammaaDoorRows
import Derived.Test.YtakbedckjaammaaDoorBase
import Derived.Test.YtakbedckjaammaaDoorPairs
namespace Go.Proofs.YtakbedckjaammaaDoor
open Go.RowKit

theorem pairCells_take {ps : List (Int × Int)} {k : Nat} (hk : k < ps.length) : pairCells (ps.take k) ++ [.int .i64 (ps.getD k (0, 0)).1, .int .i64 (ps.getD k (0, 0)).2] = pairCells (ps.take (k + 1)) := by
  have e : ps.getD k (0, 0) = ps[k] := by simp [List.getD_eq_getElem?_getD, hk]
  rw [List.take_succ_eq_append_getElem hk, e]
  unfold pairCells
  rw [List.flatMap_append]
  rfl

theorem rrow_info : (Tryd.prog.info? 107).map (fun i => (i.zero, i.size, i.bytes)) = some (some (.agg #[.int .i64 0, .int .i64 0]), 2, 16) := by kernel_rfl
theorem own_far {w : World} {base : Nat} {e : TypeId} {size : Nat} {v : Value} {n : Nat} {xs : List Value} (h : w.ownsRow base e size v n xs) {b : Nat} (hb : b < base) : some b ≠ v.ownBlock := by
  rcases h.2 with ⟨rfl, _⟩ | ⟨g, cap, cur, rfl, hg, _⟩
  · simp [Value.ownBlock]
  · simp [Value.ownBlock]; omega

set_option maxHeartbeats 1000000 in
set_option maxRecDepth 100000 in
theorem lawRows_any (A : Option Addr) (len cap : Nat) (ps : List (Int × Int)) (w : World) (h : Pairs w A len cap ps) (hm : len ≤ 60) :
    Calls Tryd.prog 23 #[.slice A len cap] w fun e w' => Below w.heap.size w w' ∧ ∃ A' cap', e = .returned (.slice A' len cap') ∧ Pairs w' A' len cap' ps := by
  have hl := h.1
  go_enter Tryd.func23, Tryd.ntmps23
  go_wp2
  go_loopg [3, 4] len (fun g s3 s4 wx => ∃ k : Nat, k ≤ len ∧ g = len - k ∧ s4 = .int .i64 k ∧ Below w.heap.size w wx ∧ wx.ownsRow w.heap.size 107 2 s3 k (pairCells (ps.take k)))
  case atStart => exact ⟨0, Nat.zero_le _, rfl, rfl, Below.refl _ _, World.ownsRow_nil w _ _ _⟩
  case round =>
    obtain ⟨k, hk, rfl, rfl, hB, hown⟩ := hrel
    have Hl := hid hl
    have HO := hid hown
    clear hl hown
    by_cases hlt : k < len
    · obtain ⟨xb, off, rfl, hxlt, hx⟩ := h.2 (by omega)
      clear hx
      obtain ⟨x0, x1⟩ := (h.below hB (Nat.le_refl _)).at_ hlt
      obtain ⟨i0, hi0, hz0, hz1, hz2⟩ := info_parts rrow_info
      have hsz := hB.size
      have Hc := hid (pairCells_take (ps := ps) (k := k) (by have := Hl.out; omega))
      generalize (ps.getD k (0, 0)).1 = q at x0 Hc
      generalize (ps.getD k (0, 0)).2 = x at x1 Hc
      go_wp2_with fail
      go_upto_region 5 with fail
      go_region_held3 (fun w' => w'.cell? ⟨xb, off + k * 2, none⟩ = some (.int .i64 q) ∧ w'.cell? ⟨xb, off + k * 2 + 1, none⟩ = some (.int .i64 x))
        (first
          | go_keep
          | (go_split_ands
             refine ⟨?_, ?_⟩
             · (rw [hgrow.cell_far _ (by simp; omega) ((own_far HO.out hxlt))]; assumption)
             · (rw [hgrow.cell_far _ (by simp; omega) ((own_far HO.out hxlt))]; assumption)))
        ((refine step_append_lies _ (by rfl) _ _ _ (by rfl) w.heap.size 107 i0 _ 2 16 Tryd.underlying55 hi0 hz0 hz1 hz2 rfl (by omega) u3 k _ (by rfl) ((HO.out.alloc _).drew)
            ⟨wr.heap.size, 0, none⟩ 1 1 [.int .i64 q, .int .i64 x] (by rfl) (by rfl) (World.news_of_block (cs := #[.int .i64 q, .int .i64 x]) (t := 107) (fr := (0, 0)) (heap_alloc_new wr _)) (by simp [Value.oneCell'])
            (by omega) (by unfold maxLen; omega) (by omega) (by simp; omega) (wr.heap.size + 1) (by simp) ?_; intro gg cap w1 hown1 hgrow hat hlt1))
      go_wp2
      go_roundg (len - (k + 1))
      case measure => omega
      case rel => exact ⟨k + 1, by omega, rfl, by go_num, (hB.alloc hsz _).drew.grown hgrow (by simp; omega) (fun q hq => Nat.le_of_not_lt fun h => own_far HO.out h hq.symm), by rw [← Hc.out]; exact hown1⟩
    · obtain rfl : k = len := by omega
      have hown := HO.out
      rw [List.take_of_length_le (by rw [Hl.out]; exact Nat.le_refl _)] at hown
      clear HO
      rcases hown.2 with ⟨rfl, h0⟩ | ⟨g, cap', cur, rfl, _⟩
      · have H0 := hid h0
        clear h0 hown
        go_wp2
        go_ret
        have h0 := H0.out
        subst h0
        exact ⟨hB, none, 0, rfl, Hl.out, fun h => absurd h (by omega)⟩
      · have HO := hid hown
        clear hown
        go_wp2
        go_ret
        exact ⟨hB, _, _, rfl, Pairs.of_own HO.out⟩
end Go.Proofs.YtakbedckjaammaaDoor
