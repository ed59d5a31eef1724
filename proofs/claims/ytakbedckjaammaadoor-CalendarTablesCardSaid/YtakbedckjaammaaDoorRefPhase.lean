/-
  The walk of openbellref.Phase, and the plain law that ties it to the calendar's own.
-/
import Derived.WalkKit
import Derived.WalkLawsBesides
import Derived.WalkSpells
import Derived.Deep.LoopGhost
import Derived.Deep.QuietTactic
import Derived.BigQuiet
import Derived.Test.YtakbedckjaammaaDoorTablePlain
namespace Go.Proofs.YtakbedckjaammaaDoor
open Go.RowKit

/-- the row k is the one that the document's Phase stops at -/
def StopsAt (ps : List (Int × Int)) (now : Int) (k : Nat) : Prop :=
  k < ps.length ∧ (∀ j, 0 < j → j ≤ k → (ps.getD j (0, 0)).1 ≤ now) ∧ (k + 1 < ps.length → now < (ps.getD (k + 1) (0, 0)).1)
def rowPh (ps : List (Int × Int)) (k : Nat) : Int × Int := ((ps.getD k (0, 0)).2, if k + 1 < ps.length then (ps.getD (k + 1) (0, 0)).1 else -1)

theorem phAt_stops {ps : List (Int × Int)} {now : Int} {k : Nat} (hk : k = 0 ∨ (ps.getD k (0, 0)).1 ≤ now) : ∀ m, k < m → m ≤ ps.length → (∀ j, k < j → j < m → now < (ps.getD j (0, 0)).1) → phAt ps now m = rowPh ps k
  | 0, h, _, _ => absurd h (by omega)
  | m + 1, h, hm, hall => by
    by_cases he : m = k
    · subst he
      unfold phAt rowPh
      rw [if_pos (by rcases hk with h | h; exact .inr h; exact .inl h)]
    · have h1 := hall m (by omega) (by omega)
      rw [phAt_no (by omega) (by omega)]
      exact phAt_stops hk m (by omega) (by omega) fun j h2 h3 => hall j h2 (by omega)

theorem StopsAt.phAt {ps : List (Int × Int)} {now : Int} {k : Nat} (h : StopsAt ps now k) (hok : TableOk ps) : phAt ps now ps.length = rowPh ps k := by
  obtain ⟨h1, h2, h3⟩ := h
  refine phAt_stops ?_ ps.length h1 (Nat.le_refl _) fun j hj hj2 => ?_
  · by_cases h0 : k = 0
    · exact .inl h0
    · exact .inr (h2 k (by omega) (Nat.le_refl _))
  · have h4 := h3 (by omega)
    rcases Nat.lt_or_eq_of_le (show k + 1 ≤ j from hj) with h | h
    · have := hok.sorted (k + 1) (j - (k + 1) - 1) (by omega)
      have e : k + 1 + (j - (k + 1) - 1) + 1 = j := by omega
      rw [e] at this
      omega
    · rw [← h]; exact h4

set_option maxRecDepth 100000 in
set_option maxHeartbeats 1000000 in
theorem rphase_any (A : Option Addr) (len cap : Nat) (ps : List (Int × Int)) (now : Int) (w : World) (h : Pairs w A len cap ps) (h0 : 0 < len) (hm : len ≤ 60) :
    Calls Tryd.prog 25 #[.slice A len cap, .int .i64 now] w fun e w' => ∃ k, StopsAt ps now k ∧ e = .returned (.tuple #[.int .i64 (rowPh ps k).1, .int .i64 (rowPh ps k).2]) ∧ Below w.heap.size w w' := by
  obtain ⟨b, off, rfl, hblt, hc0⟩ := h.2 (by omega)
  clear hc0
  have Hl := hid h.1
  go_enter Tryd.func25, Tryd.ntmps25
  go_wp2
  go_loopg [6] len (fun g i wx => ∃ k : Nat, k < len ∧ g = len - k ∧ i = .int .i64 k ∧ w = wx ∧ ∀ j, 0 < j → j ≤ k → (ps.getD j (0, 0)).1 ≤ now)
  case atStart => exact ⟨0, h0, rfl, rfl, rfl, fun j h1 h2 => by omega⟩
  case round =>
    obtain ⟨k, hk, rfl, rfl, rfl, hall⟩ := hrel
    have Hall := hid hall
    clear hall
    obtain ⟨x0, x1⟩ := h.at_ hk
    have i1 : IntKind.i64.wrap ((k : Int) + 1) = (k : Int) + 1 := by rw [IntKind.wrap_i64]; omega
    by_cases hk1 : k + 1 < len
    · obtain ⟨y0, y1⟩ := h.at_ hk1
      have d1 : decide ((k : Int) + 1 < (len : Int)) = true := decT (by omega)
      have i2 : (k : Int) + 1 < (len : Int) := by omega
      have i3 : (0 : Int) ≤ (k : Int) + 1 := by omega
      by_cases hn : (ps.getD (k + 1) (0, 0)).1 ≤ now
      · have d2 := decT hn
        have Hn' := hid hn
        generalize (ps.getD (k + 1) (0, 0)).1 = a at y0 d2
        clear hn
        go_wp2
        go_roundg (len - (k + 1))
        case measure => omega
        case rel =>
          refine ⟨k + 1, hk1, rfl, by go_num, rfl, fun j h1 h2 => ?_⟩
          rcases Nat.lt_or_eq_of_le h2 with h3 | h3
          · exact Hall.out j h1 (by omega)
          · rw [h3]; exact Hn'.out
      · have d2 := decF hn
        have Hs := hid (show StopsAt ps now k from ⟨by have := Hl.out; omega, Hall.out, fun _ => by omega⟩)
        have Hr := hid (show rowPh ps k = ((ps.getD k (0, 0)).2, (ps.getD (k + 1) (0, 0)).1) by unfold rowPh; rw [if_pos (by have := Hl.out; omega)])
        generalize (ps.getD (k + 1) (0, 0)).1 = a at y0 d2 Hr
        generalize (ps.getD k (0, 0)).2 = x at x1 Hr
        clear hn
        go_wp2_with fail
        go_quiet (fail)
        go_wp2
        go_ret2
        refine ⟨k, Hs.out, by rw [Hr.out]; with_unfolding_all rfl, drewN_below (Below.refl _ w) _⟩
    · have d1 : decide ((k : Int) + 1 < (len : Int)) = false := decF (by omega)
      have Hs := hid (show StopsAt ps now k from ⟨by have := Hl.out; omega, Hall.out, fun h => by have := Hl.out; omega⟩)
      have Hr := hid (show rowPh ps k = ((ps.getD k (0, 0)).2, -1) by unfold rowPh; rw [if_neg (by have := Hl.out; omega)])
      have hk1' : ¬ (k : Int) + 1 < (len : Int) := by omega
      generalize (ps.getD k (0, 0)).2 = x at x1 Hr
      go_wp2
      go_ret2
      exact ⟨k, Hs.out, by rw [Hr.out]; with_unfolding_all rfl, Below.refl _ _⟩
end Go.Proofs.YtakbedckjaammaaDoor
