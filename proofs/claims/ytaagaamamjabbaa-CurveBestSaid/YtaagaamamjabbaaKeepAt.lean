/-
  Walks of openbellkeep.willing, at, chosen, some.
-/
import Derived.WalkKit
import Derived.WalkLawsBesides
import Derived.WalkSpells
import Derived.Deep.QuietTactic
import Derived.BigQuiet
import Derived.Deep.LoopGhost
import Derived.Deep.DeepCutAuto
import Derived.Deep.CutBlock
import Derived.Deep.AppendLies
import Derived.Deep.RegionHeld3
import Derived.Test.YtaagaamamjabbaaRows
import Derived.Test.YtaagaamamjabbaaCurvePlain
import Derived.Test.YtaagaamamjabbaaPick
namespace Go.Proofs.Ytaagaamamjabbaa
open Go.RowKit
set_option linter.unusedVariables false

def willB (p : Int) (o : Ord5) : Bool := (o.kind == 2) || ((o.side == 1) && decide (p ≤ o.price)) || ((o.side == 2) && decide (o.price ≤ p))

set_option maxRecDepth 100000 in
set_option maxHeartbeats 1000000 in
theorem willing_any (o : Ord5) (p : Int) (w : World) (hs : o.side = 1 ∨ o.side = 2) : Calls Try.prog 56 #[aggO o, .int .i64 p] w fun e w' => e = .returned (.bool (willB p o)) ∧ Below w.heap.size w w' := by
  unfold aggO
  have HA := hid (show Below w.heap.size w (w.alloc (.cells #[.int .i64 o.id, .int .i64 o.side, .int .i64 o.kind, .int .i64 o.price, .int .i64 o.qty] 41)) from (Below.refl _ _).alloc (Nat.le_refl _) _)
  by_cases hk : o.kind = 2
  · have t1 := beqT hk
    have HE : Hid (willB p o = true) := hid (by unfold willB; rw [t1]; rfl)
    clear hk
    go_enter Try.func56, Try.ntmps56
    go_wp2
    go_ret
    exact ⟨ret_bool (by rw [HE.out]), HA.out⟩
  · have t1 := beqF hk
    rcases hs with hs | hs
    · have t2 := beqT hs
      have t3 := beqF (show ¬ o.side = 2 by omega)
      have HE : Hid (willB p o = decide (p ≤ o.price)) := hid (by unfold willB; rw [t1, t2, t3]; simp)
      by_cases hp : p ≤ o.price
      · have t4 := decT hp
        clear hk hs hp
        go_enter Try.func56, Try.ntmps56
        go_wp2
        go_ret
        exact ⟨ret_bool (by rw [HE.out, t4]), HA.out⟩
      · have t4 := decF hp
        clear hk hs hp
        go_enter Try.func56, Try.ntmps56
        go_wp2
        go_ret
        exact ⟨ret_bool (by rw [HE.out, t4]), HA.out⟩
    · have t2 := beqF (show ¬ o.side = 1 by omega)
      have t3 := beqT hs
      have HE : Hid (willB p o = decide (o.price ≤ p)) := hid (by unfold willB; rw [t1, t2, t3]; simp)
      by_cases hp : o.price ≤ p
      · have t4 := decT hp
        clear hk hs hp
        go_enter Try.func56, Try.ntmps56
        go_wp2
        go_ret
        exact ⟨ret_bool (by rw [HE.out, t4]), HA.out⟩
      · have t4 := decF hp
        clear hk hs hp
        go_enter Try.func56, Try.ntmps56
        go_wp2
        go_ret
        exact ⟨ret_bool (by rw [HE.out, t4]), HA.out⟩

set_option maxRecDepth 100000 in
set_option maxHeartbeats 4000000 in
theorem keepAt_any (A : Option Addr) (n c : Nat) (l : List Ord5) (p : Int) (w : World) (h : ElemsAt w encO 5 A n l) (hok : ∀ o ∈ l, okO o = true) (hm : n ≤ 1000) :
    Calls Try.prog 21 #[.slice A n c, .int .i64 p] w fun e w' => e = .returned (.tuple #[.int .i64 (demL p l), .int .i64 (supL p l)]) ∧ Below w.heap.size w w' := by
  have HH := hid h
  have hl := h.1
  have HL := hid hl
  have HOK := hid hok
  clear h hl hok
  go_enter Try.func21, Try.ntmps21
  go_wp2_with fail
  go_loopg [6, 7, 8] n (fun gg s6 s7 s8 wx => ∃ (j : Nat) (d s : Int), j ≤ n ∧ gg = n - j ∧ s8 = .int .i64 j ∧ s6 = .int .i64 d ∧ s7 = .int .i64 s ∧ Below w.heap.size w wx ∧ Hid (d = demL p (l.take j) ∧ s = supL p (l.take j)))
  case atStart => exact ⟨0, 0, 0, Nat.zero_le _, rfl, rfl, rfl, rfl, Below.refl _ _, hid ⟨rfl, rfl⟩⟩
  case round =>
    obtain ⟨j, d, s, hj, rfl, rfl, rfl, rfl, hB, HDS⟩ := hrel
    have hGt : ∀ o ∈ l.take j, okO o = true := fun o ho => HOK.out o (List.mem_of_mem_take ho)
    have hdb := demL_bound (p := p) hGt
    have hsb := supL_bound (p := p) hGt
    rw [← HDS.out.1] at hdb
    rw [← HDS.out.2] at hsb
    have hjl : (l.take j).length ≤ j := List.length_take_le _ _
    obtain ⟨hd0, hd1⟩ := hdb
    obtain ⟨hs0, hs1⟩ := hsb
    have hd2 : d ≤ 1000000000 := by omega
    have hs2 : s ≤ 1000000000 := by omega
    clear hd1 hs1 hGt hjl
    by_cases hlt : j < n
    · have hkl : j < l.length := by have := HL.out; omega
      obtain ⟨b, off, hA⟩ : ∃ b off, A = some ⟨b, off, none⟩ := by obtain ⟨b, off, h1, _⟩ := HH.out.2 (by omega); exact ⟨b, off, h1⟩
      subst hA
      obtain ⟨x0, x1, x2, x3, x4⟩ := ord_at (HH.out.below hB (Nat.le_refl _)) hkl
      have hltz : (j : Int) < (n : Int) := by omega
      have hi7 : (0 : Int) ≤ (j : Int) := by omega
      have HT := hid (List.take_succ_eq_append_getElem hkl)
      have hok := HOK.out _ (List.getElem_mem hkl)
      obtain ⟨o, E⟩ : ∃ o, Hid (l[j] = o) := ⟨_, hid rfl⟩
      rw [E.out] at x0 x1 x2 x3 x4 HT hok
      obtain ⟨hq1, hq2⟩ := okO_qty hok
      have hside : o.side = 1 ∨ o.side = 2 := by unfold okO at hok; simp at hok; exact hok.2
      have hcall := willing_any o p wr hside
      have HD1 : Hid (demL p (l.take (j + 1)) = d + demQ p o) := hid (by rw [HT.out, demL_snoc, ← HDS.out.1])
      have HS1 : Hid (supL p (l.take (j + 1)) = s + supQ p o) := hid (by rw [HT.out, supL_snoc, ← HDS.out.2])
      have hDQ : demQ p o = if willB p o = true ∧ o.side = 1 then o.qty else 0 := by
        unfold demQ willB
        by_cases h1 : o.kind = 2 <;> by_cases h2 : o.side = 1 <;> by_cases h3 : p ≤ o.price <;> simp [h1, h2, h3]
      have hSQ : supQ p o = if willB p o = true ∧ o.side = 2 then o.qty else 0 := by
        unfold supQ willB
        by_cases h1 : o.kind = 2 <;> by_cases h2 : o.side = 2 <;> by_cases h3 : o.price ≤ p <;> simp [h1, h2, h3]
      have HDQ := hid hDQ
      have HSQ := hid hSQ
      unfold aggO at hcall
      have HC := hid hcall
      have HB := hid hB
      have HY := hid (HH.out.below hB (Nat.le_refl _))
      have hsz := hB.size
      clear hok hDQ hSQ hcall hB
      go_wp2_with fail
      refine HC.out.mono ?_
      rintro e w2 ⟨rfl, hb'⟩
      obtain ⟨y0, y1, y2, y3, y4⟩ := ord_at (HY.out.below hb' (Nat.le_refl _)) hkl
      rw [E.out] at y0 y1 y2 y3 y4
      have HB2 := hid (HB.out.trans (hb'.mono hsz))
      clear x0 x1 x2 x3 x4 HC
      cases hwb : willB p o with
      | false =>
        have HQ1 : Hid (demQ p o = 0) := hid (by rw [HDQ.out, hwb]; simp)
        have HQ2 : Hid (supQ p o = 0) := hid (by rw [HSQ.out, hwb]; simp)
        clear hwb hside
        go_wp2_with fail
        go_roundg (n - (j + 1))
        case measure => omega
        case rel => exact ⟨j + 1, d, s, by omega, rfl, by go_num, rfl, rfl, HB2.out, hid ⟨by rw [HD1.out, HQ1.out, Int.add_zero], by rw [HS1.out, HQ2.out, Int.add_zero]⟩⟩
      | true =>
        rcases hside with hs | hs
        · have t1 := beqT hs
          have HQ1 : Hid (demQ p o = o.qty) := hid (by rw [HDQ.out, hwb, hs]; simp)
          have HQ2 : Hid (supQ p o = 0) := hid (by rw [HSQ.out, hwb, hs]; simp)
          clear hwb hs
          go_wp2_with fail
          go_roundg (n - (j + 1))
          case measure => omega
          case rel => exact ⟨j + 1, d + o.qty, s, by omega, rfl, by go_num, rfl, rfl, HB2.out, hid ⟨by rw [HD1.out, HQ1.out], by rw [HS1.out, HQ2.out, Int.add_zero]⟩⟩
        · have t1 := beqF (show ¬ o.side = 1 by omega)
          have HQ1 : Hid (demQ p o = 0) := hid (by rw [HDQ.out, hwb, hs]; simp)
          have HQ2 : Hid (supQ p o = o.qty) := hid (by rw [HSQ.out, hwb, hs]; simp)
          clear hwb hs
          go_wp2_with fail
          go_roundg (n - (j + 1))
          case measure => omega
          case rel => exact ⟨j + 1, d, s + o.qty, by omega, rfl, by go_num, rfl, rfl, HB2.out, hid ⟨by rw [HD1.out, HQ1.out, Int.add_zero], by rw [HS1.out, HQ2.out]⟩⟩
    · obtain rfl : j = n := by omega
      have hltz : ¬ (j : Int) < (j : Int) := by omega
      have HDS1 := HDS.out
      rw [List.take_of_length_le (by rw [HL.out]; exact Nat.le_refl _)] at HDS1
      have HX := hid HDS1
      clear HDS1 HDS
      go_wp2_with fail
      go_ret2
      exact ⟨ret_ii HX.out.1 HX.out.2, hB⟩
end Go.Proofs.Ytaagaamamjabbaa
