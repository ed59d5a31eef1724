/-
  The document's Slots: Put.
-/
import Derived.WalkKit
import Derived.WalkLawsBesides
import Derived.WalkSpells
import Derived.Deep.AppendLies
import Derived.Deep.RegionLaw
import Derived.Deep.LoopGhost
import Derived.Deep.DeepCutAuto
import Derived.Test.YtakbedckjaammaaDoorSlotsFree
namespace Go.Proofs.YtakbedckjaammaaDoor
open Go.RowKit

/-- how many slots are full -/
def liveS (ss : List SlotT) : Nat := (ss.filter fun s => s.2.2).length
theorem liveS_le (ss : List SlotT) : liveS ss ≤ ss.length := List.length_filter_le _ _
theorem liveS_take {ss : List SlotT} {k : Nat} (h : k < ss.length) : liveS (ss.take (k + 1)) = liveS (ss.take k) + if ss[k].2.2 = true then 1 else 0 := by
  unfold liveS
  rw [List.take_succ_eq_append_getElem h, List.filter_append]
  cases hf : ss[k].2.2 <;> simp [hf]

set_option maxRecDepth 100000 in
set_option maxHeartbeats 1000000 in
theorem rputFull_any (w : World) (r : Nat) (T : Option Addr) (c : Nat) (G : Option Addr) (e : Nat) (F : Option Addr) (d : Nat) (ss : List SlotT) (fr : List Int) (most x : Int) (h : RefAt w r T c G e F d ss fr most) (hok : ThingsOk ss) (hss : ss.length ≤ 200) (hm : most ≤ (liveS ss : Nat)) :
    Calls Tryd.prog 39 #[.pointer (some ⟨r, 0, none⟩), .int .i64 x] w fun e w' => e = .returned (.tuple #[.int .i64 0, .int .i64 0, .int .i64 12]) ∧ w = w' := by
  have hl := h.things.1
  have hinv := hid hok
  have HR := hid h
  obtain ⟨q0, q1, q2, q3⟩ := h.cells
  have t1 := decT hm
  clear hok h q1 q2
  generalize hN : liveS ss = N at t1 hm
  have HN := hid hN
  clear hN
  go_enter Tryd.func39, Tryd.ntmps39
  go_wp2
  go_loopg [7, 17] ss.length (fun g s7 s17 wx => ∃ k : Nat, k ≤ ss.length ∧ g = ss.length - k ∧ s17 = .int .i64 k ∧ s7 = .int .i64 (liveS (ss.take k) : Nat) ∧ w = wx)
  case atStart => exact ⟨0, Nat.zero_le _, rfl, rfl, rfl, rfl⟩
  case round =>
    obtain ⟨k, hk, rfl, rfl, rfl, rfl⟩ := hrel
    by_cases hkl : k < ss.length
    · have i1 : (0 : Int) ≤ (k : Int) := by omega
      have i2 : (k : Int) < (ss.length : Int) := by omega
      obtain ⟨t, g', rfl, rfl, c0, c1⟩ := HR.out.slot hkl
      have hO := hinv.out k hkl
      have Hs := hid (liveS_take hkl)
      have hlt := liveS_le (ss.take k)
      have hlen : (ss.take k).length ≤ 200 := by simp; omega
      clear c1
      cases hf : ss[k].2.2
      · rw [hf] at c0
        simp only [Bool.false_eq_true, if_false] at c0
        have Hf := hid hf
        clear hf hO
        go_wp2
        go_roundg (ss.length - (k + 1))
        case measure => omega
        case rel => exact ⟨k + 1, by omega, rfl, by go_num, by rw [Hs.out, Hf.out]; rfl, rfl⟩
      · rw [hf] at c0
        simp only [if_true] at c0
        have hO' := hO hf
        have d0 := decT hO'
        have Hf := hid hf
        clear hf hO
        generalize ss[k].1 = y at c0 d0 hO'
        generalize hn : liveS (ss.take k) = n at hlt ⊢
        go_wp2
        go_roundg (ss.length - (k + 1))
        case measure => omega
        case rel => exact ⟨k + 1, by omega, rfl, by go_num, by rw [Hs.out, Hf.out, hn, if_pos rfl]; go_num, rfl⟩
    · obtain rfl : k = ss.length := by omega
      rw [List.take_length]
      rw [HN.out]
      go_wp2
      go_ret3
      exact ⟨rfl, rfl⟩

end Go.Proofs.YtakbedckjaammaaDoor
