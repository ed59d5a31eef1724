/-
  The walk of slices.BinarySearchFunc at book.queue.
-/
import Derived.WalkKit
import Derived.WalkLawsBesides
import Derived.WalkSpells
import Derived.Deep.QuietTactic
import Derived.BigQuiet
import Derived.Deep.LoopGhost
import Derived.Deep.DeepCutAuto
import Derived.Shelf.Abstract
import Derived.Laws.EntriesVeiled
import Derived.Test.YtaagaamamjabbaaBetter
import Derived.Test.YtaagaamamjabbaaFlat
namespace Go.Proofs.Ytaagaamamjabbaa
open Go.RowKit
set_option linter.unusedVariables false

/-- a queue: its price, and where its handles lie -/
abbrev Que := Int × Option Addr × Nat × Nat
def encQ (q : Que) : List Value := [.int .i64 q.1, .slice q.2.1 q.2.2.1 q.2.2.2]
theorem encQ_length (q : Que) : (encQ q).length = 2 := rfl
def RankQ (side : Int) (qs : List Que) : Prop := qs.Pairwise fun x y => betB side x.1 y.1 = true
theorem betB_trans {side a b c : Int} (h1 : betB side a b = true) (h2 : betB side b c = true) : betB side a c = true := by
  unfold betB at *
  split at h1 <;> split at h2 <;> simp_all <;> omega
theorem cmpQ_neg {side a b : Int} : cmpQ side a b < 0 ↔ betB side a b = true := by
  unfold cmpQ betB
  by_cases h : a = b
  · subst h; simp
  · rw [if_neg h]
    split <;> split <;> simp_all
theorem rank_below {side p : Int} {qs : List Que} (h : RankQ side qs) {i j : Nat} (hj : j < qs.length) (hij : i ≤ j) (hc : cmpQ side qs[j].1 p < 0) : cmpQ side (qs[i]'(by omega)).1 p < 0 := by
  rcases Nat.lt_or_eq_of_le hij with hlt | rfl
  · rw [cmpQ_neg] at hc ⊢
    exact betB_trans (List.pairwise_iff_getElem.1 h i j (by omega) hj hlt) hc
  · exact hc

set_option maxRecDepth 100000 in
set_option maxHeartbeats 600000 in
theorem search_any (side p : Int) (g : FuncId) (lb : Array Value) (A : Option Addr) (n c : Nat) (qs : List Que) (w : World) (h : ElemsAt w encQ 2 A n qs) (hr : RankQ side qs) (hm : n ≤ 100000)
    (eg : ∀ args w, (callFunc g args).run Try.prog w = .ok (.enter g args) w)
    (hcmp : ∀ W (q : Que), Below w.heap.size w W → Calls Try.prog g (#[.agg #[.int .i64 q.1, .slice q.2.1 q.2.2.1 q.2.2.2], .int .i64 p] ++ lb) W fun e w' => e = .returned (.int .i64 (cmpQ side q.1 p)) ∧ Below W.heap.size W w') :
    Calls Try.prog 59 #[.slice A n c, .int .i64 p, .func (.func g) #[] lb] w fun e w' => Below w.heap.size w w' ∧ ∃ k : Nat, k ≤ n ∧ (∀ i (hi : i < qs.length), i < k → cmpQ side qs[i].1 p < 0) ∧ (∀ i (hi : i < qs.length), k ≤ i → 0 ≤ cmpQ side qs[i].1 p) ∧
      e = .returned (.tuple #[.int .i64 k, .bool (decide (k < n) && (match qs[k]? with | some q => cmpQ side q.1 p == 0 | none => false))]) := by
  have HH := hid h
  have hl := h.1
  have HL := hid hl
  have HR := hid hr
  have HC := hid hcmp
  clear h hr hcmp hl
  go_enter Try.func59, Try.ntmps59
  go_wp2_with fail
  go_loopg [9, 10] n (fun gg s9 s10 wx => ∃ lo hi : Nat, lo ≤ hi ∧ hi ≤ n ∧ gg = hi - lo ∧ s9 = .int .i64 lo ∧ s10 = .int .i64 hi ∧ Below w.heap.size w wx ∧ Hid ((∀ i (hi : i < qs.length), i < lo → cmpQ side qs[i].1 p < 0) ∧ (∀ i (hx : i < qs.length), hi ≤ i → 0 ≤ cmpQ side qs[i].1 p)))
  case atStart => exact ⟨0, n, Nat.zero_le _, Nat.le_refl _, rfl, rfl, rfl, Below.refl _ _, hid ⟨fun i _ h => absurd h (by omega), fun i hx h => by have := HL.out; omega⟩⟩
  case round =>
    obtain ⟨lo, hi, hlh, hhn, rfl, rfl, rfl, hB, HI⟩ := hrel
    by_cases hlt : lo < hi
    · have hltz : (lo : Int) < (hi : Int) := by omega
      go_upto_region 5 with fail
      have em : ((lo : Int) + (hi : Int)) / 2 = (((lo + hi) / 2 : Nat) : Int) := by omega
      have hm1 : lo ≤ (lo + hi) / 2 := by omega
      have hm2 : (lo + hi) / 2 < hi := by omega
      rw [em]
      generalize (lo + hi) / 2 = m at hm1 hm2 ⊢
      clear em
      have hml : m < qs.length := by have := HL.out; omega
      obtain ⟨b, off, hA⟩ : ∃ b off, A = some ⟨b, off, none⟩ := by obtain ⟨b, off, h1, _⟩ := HH.out.2 (by omega); exact ⟨b, off, h1⟩
      subst hA
      have hE := HH.out.below hB (Nat.le_refl _)
      have x0 : wr.cell? ⟨b, off + m * 2, none⟩ = some (.int .i64 qs[m].1) := hE.at_ hml (j := 0) rfl
      have x1 : wr.cell? ⟨b, off + m * 2 + 1, none⟩ = some (.slice qs[m].2.1 qs[m].2.2.1 qs[m].2.2.2) := hE.at_ hml (j := 1) rfl
      have hcall := HC.out wr qs[m] hB
      have hi7 : (0 : Int) ≤ (m : Int) := by omega
      have hi8 : (m : Int) < (n : Int) := by omega
      obtain ⟨v, EV⟩ : ∃ v, Hid (cmpQ side qs[m].1 p = v) := ⟨_, hid rfl⟩
      rw [EV.out] at hcall
      generalize qs[m].2.1 = l0 at x1 hcall
      generalize qs[m].2.2.1 = l1 at x1 hcall
      generalize qs[m].2.2.2 = l2 at x1 hcall
      obtain ⟨pr, EP⟩ : ∃ v, Hid (qs[m].1 = v) := ⟨_, hid rfl⟩
      rw [EP.out] at x0 hcall
      have hsz := hB.size
      have HB := hid hB
      clear hE hB
      by_cases hv : v < 0
      · have d1 : decide (v < 0) = true := decT hv
        have HV := hid hv
        clear hv
        go_wp2_with (go_at_fn g; refine hcall.mono ?_; rintro e w2 ⟨rfl, hb2⟩)
        go_roundg (hi - (m + 1))
        case measure => omega
        case rel => exact ⟨m + 1, hi, by omega, hhn, rfl, by go_num, rfl, HB.out.trans (hb2.mono hsz), hid ⟨fun i hx h => rank_below HR.out hml (by omega) (by rw [EV.out]; exact HV.out), HI.out.2⟩⟩
      · have d1 : decide (v < 0) = false := decF hv
        have HV := hid hv
        clear hv
        go_wp2_with (go_at_fn g; refine hcall.mono ?_; rintro e w2 ⟨rfl, hb2⟩)
        go_roundg (m - lo)
        case measure => omega
        case rel => exact ⟨lo, m, by omega, by omega, rfl, rfl, by go_num, HB.out.trans (hb2.mono hsz), hid ⟨HI.out.1, fun i hx h => by
          rcases Int.lt_or_le (cmpQ side qs[i].1 p) 0 with h1 | h1
          · have := rank_below HR.out hx h h1
            rw [EV.out] at this
            have h5 := HV.out
            omega
          · exact h1⟩⟩
    · obtain rfl : lo = hi := by omega
      have hltz : ¬ (lo : Int) < (lo : Int) := by omega
      have HB := hid hB
      by_cases hkn : lo < n
      · have hml : lo < qs.length := by have := HL.out; omega
        obtain ⟨b, off, hA⟩ : ∃ b off, A = some ⟨b, off, none⟩ := by obtain ⟨b, off, h1, _⟩ := HH.out.2 (by omega); exact ⟨b, off, h1⟩
        subst hA
        have hE := HH.out.below hB (Nat.le_refl _)
        have x0 : wr.cell? ⟨b, off + lo * 2, none⟩ = some (.int .i64 qs[lo].1) := hE.at_ hml (j := 0) rfl
        have x1 : wr.cell? ⟨b, off + lo * 2 + 1, none⟩ = some (.slice qs[lo].2.1 qs[lo].2.2.1 qs[lo].2.2.2) := hE.at_ hml (j := 1) rfl
        have hcall := HC.out wr qs[lo] hB
        have hi7 : (0 : Int) ≤ (lo : Int) := by omega
        have hi8 : (lo : Int) < (n : Int) := by omega
        have d1 : decide ((lo : Int) < (n : Int)) = true := decT hi8
        have HG : Hid ((decide (lo < n) && (match qs[lo]? with | some q => cmpQ side q.1 p == 0 | none => false)) = (cmpQ side qs[lo].1 p == 0)) := hid (by rw [decT hkn, List.getElem?_eq_getElem hml]; rfl)
        generalize qs[lo].2.1 = l0 at x1 hcall
        generalize qs[lo].2.2.1 = l1 at x1 hcall
        generalize qs[lo].2.2.2 = l2 at x1 hcall
        obtain ⟨v, EV⟩ : ∃ v, Hid (cmpQ side qs[lo].1 p = v) := ⟨_, hid rfl⟩
        rw [EV.out] at hcall
        obtain ⟨pr, EP⟩ : ∃ v, Hid (qs[lo].1 = v) := ⟨_, hid rfl⟩
        rw [EP.out] at x0 hcall
        have hsz := hB.size
        clear hE hB
        go_wp2_with (go_at_fn g; refine hcall.mono ?_; rintro e w2 ⟨rfl, hb2⟩)
        go_ret2
        exact ⟨HB.out.trans (hb2.mono hsz), lo, hhn, HI.out.1, HI.out.2, by rw [HG.out, EV.out]; rfl⟩
      · have d1 : decide ((lo : Int) < (n : Int)) = false := decF (by omega)
        have hi8 : ¬ (lo : Int) < (n : Int) := by omega
        have HG : Hid ((decide (lo < n) && (match qs[lo]? with | some q => cmpQ side q.1 p == 0 | none => false)) = false) := hid (by rw [decF hkn]; rfl)
        clear hB
        go_wp2_with fail
        go_ret2
        exact ⟨HB.out, lo, hhn, HI.out.1, HI.out.2, by rw [HG.out]; rfl⟩
end Go.Proofs.Ytaagaamamjabbaa
