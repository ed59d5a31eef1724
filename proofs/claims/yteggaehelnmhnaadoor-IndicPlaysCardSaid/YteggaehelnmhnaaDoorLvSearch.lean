/-
  The walk of slices.BinarySearchFunc at indic.level, and of its comparisons.
-/
import Derived.WalkKit
import Derived.WalkLawsBesides
import Derived.WalkSpells
import Derived.Deep.LoopGhost
import Derived.Deep.DeepCutAuto
import Derived.Deep.CutBlock
import Derived.Shelf.Abstract
import Derived.Laws.EntriesVeiled
import Derived.Test.YteggaehelnmhnaaDoorMem
namespace Go.Proofs.YteggaehelnmhnaaDoor
open Go.RowKit
set_option linter.unusedVariables false

def cmpL (a p : Int) : Int := a - p
def RankL (qs : List Tri) : Prop := qs.Pairwise fun x y => x.1 < y.1
theorem lrank_below {p : Int} {qs : List Tri} (h : RankL qs) {i j : Nat} (hj : j < qs.length) (hij : i ≤ j) (hc : cmpL qs[j].1 p < 0) : cmpL (qs[i]'(by omega)).1 p < 0 := by
  unfold cmpL at *
  rcases Nat.lt_or_eq_of_le hij with hlt | rfl
  · have := List.pairwise_iff_getElem.1 h i j (by omega) hj hlt
    omega
  · exact hc
/-- the search's second answer -/
def foundL (qs : List Tri) (p : Int) (n k : Nat) : Bool := decide (k < n) && (match qs[k]? with | some q => cmpL q.1 p == 0 | none => false)
theorem foundL_true {qs : List Tri} {p : Int} {n k : Nat} (hn : qs.length = n) (h : foundL qs p n k = true) : ∃ hk : k < qs.length, qs[k].1 = p := by
  unfold foundL at h
  rw [Bool.and_eq_true, decide_eq_true_eq] at h
  have hk : k < qs.length := by omega
  rw [List.getElem?_eq_getElem hk] at h
  exact ⟨hk, by have h2 : (cmpL qs[k].1 p == 0) = true := h.2; rw [beq_iff_eq] at h2; unfold cmpL at h2; omega⟩
theorem foundL_false {qs : List Tri} {p : Int} {n k : Nat} (hn : qs.length = n) (hr : RankL qs) (h : foundL qs p n k = false) (h1 : ∀ i (hi : i < qs.length), i < k → cmpL qs[i].1 p < 0) (h2 : ∀ i (hi : i < qs.length), k ≤ i → 0 ≤ cmpL qs[i].1 p) : ∀ x ∈ qs, x.1 ≠ p := by
  intro x hx e
  obtain ⟨i, hi, rfl⟩ := List.mem_iff_getElem.1 hx
  have hik : ¬ i < k := fun hik => by have := h1 i hi hik; unfold cmpL at this; omega
  have hk : k < qs.length := by omega
  have h3 : cmpL qs[k].1 p ≠ 0 := by
    unfold foundL at h
    rw [decT (by omega : k < n), List.getElem?_eq_getElem hk] at h
    exact fun e => by
      have h4 : (cmpL qs[k].1 p == 0) = false := h
      rw [e] at h4; cases h4
  have h4 := h2 k hk (Nat.le_refl _)
  have h5 : qs[k].1 ≤ qs[i].1 := by
    rcases Nat.lt_or_eq_of_le (by omega : k ≤ i) with hlt | rfl
    · exact Int.le_of_lt (List.pairwise_iff_getElem.1 hr k i hk hi hlt)
    · exact Int.le_refl _
  unfold cmpL at h3 h4
  omega
def Near40 (a : Int) : Prop := -1099511627776 ≤ a ∧ a ≤ 1099511627776
theorem changeCmp_any (a b c p : Int) (ha : Near40 a) (hp : Near40 p) (w : World) : Calls Tryd.prog 26 #[.agg #[.int .i64 a, .int .i64 b, .int .i64 c], .int .i64 p] w fun e w' => e = .returned (.int .i64 (cmpL a p)) ∧ Below w.heap.size w w' := by
  have i1 : RowKit.wrap64 (a - p) = a - p := by unfold Near40 at *; unfold RowKit.wrap64; omega
  have HB := hid (show Below w.heap.size w (w.alloc (.cells #[.int .i64 a, .int .i64 b, .int .i64 c] 63)) from (Below.refl _ w).alloc (Nat.le_refl _) _)
  clear ha hp
  go_enter Tryd.func26, Tryd.ntmps26
  go_wp2
  go_ret
  exact ⟨ret_int (by unfold cmpL; first | rfl | omega | (rw [i1])), HB.out⟩
theorem hasCmp_any (a b c p : Int) (ha : Near40 a) (hp : Near40 p) (w : World) : Calls Tryd.prog 29 #[.agg #[.int .i64 a, .int .i64 b, .int .i64 c], .int .i64 p] w fun e w' => e = .returned (.int .i64 (cmpL a p)) ∧ Below w.heap.size w w' := by
  have i1 : RowKit.wrap64 (a - p) = a - p := by unfold Near40 at *; unfold RowKit.wrap64; omega
  have HB := hid (show Below w.heap.size w (w.alloc (.cells #[.int .i64 a, .int .i64 b, .int .i64 c] 63)) from (Below.refl _ w).alloc (Nat.le_refl _) _)
  clear ha hp
  go_enter Tryd.func29, Tryd.ntmps29
  go_wp2
  go_ret
  exact ⟨ret_int (by unfold cmpL; first | rfl | omega | (rw [i1])), HB.out⟩

set_option maxRecDepth 100000 in
set_option maxHeartbeats 600000 in
theorem searchL_any (p : Int) (g : FuncId) (lb : Array Value) (A : Option Addr) (n c : Nat) (qs : List Tri) (w : World) (h : ElemsAt w encT 3 A n qs) (hr : RankL qs) (hm : n ≤ 100000)
    (eg : ∀ args w, (callFunc g args).run Tryd.prog w = .ok (.enter g args) w)
    (hcmp : ∀ W (q : Tri), q ∈ qs → Below w.heap.size w W → Calls Tryd.prog g (#[.agg #[.int .i64 q.1, .int .i64 q.2.1, .int .i64 q.2.2], .int .i64 p] ++ lb) W fun e w' => e = .returned (.int .i64 (cmpL q.1 p)) ∧ Below W.heap.size W w') :
    Calls Tryd.prog 25 #[.slice A n c, .int .i64 p, .func (.func g) #[] lb] w fun e w' => Below w.heap.size w w' ∧ ∃ k : Nat, k ≤ n ∧ (∀ i (hi : i < qs.length), i < k → cmpL qs[i].1 p < 0) ∧ (∀ i (hi : i < qs.length), k ≤ i → 0 ≤ cmpL qs[i].1 p) ∧
      e = .returned (.tuple #[.int .i64 k, .bool (foundL qs p n k)]) := by
  have HH := hid h
  have hl := h.1
  have HL := hid hl
  have HR := hid hr
  have HC := hid hcmp
  clear h hr hcmp hl
  go_enter Tryd.func25, Tryd.ntmps25
  go_wp2_with fail
  go_loopg [9, 10] n (fun gg s9 s10 wx => ∃ lo hi : Nat, lo ≤ hi ∧ hi ≤ n ∧ gg = hi - lo ∧ s9 = .int .i64 lo ∧ s10 = .int .i64 hi ∧ Below w.heap.size w wx ∧ Hid ((∀ i (hi : i < qs.length), i < lo → cmpL qs[i].1 p < 0) ∧ (∀ i (hx : i < qs.length), hi ≤ i → 0 ≤ cmpL qs[i].1 p)))
  case atStart => exact ⟨0, n, Nat.zero_le _, Nat.le_refl _, rfl, rfl, rfl, Below.refl _ _, hid ⟨fun i _ h => absurd h (by omega), fun i hx h => by have := HL.out; omega⟩⟩
  case round =>
    obtain ⟨lo, hi, hlh, hhn, rfl, rfl, rfl, hB, HI⟩ := hrel
    by_cases hlt : lo < hi
    · have hltz : (lo : Int) < (hi : Int) := by omega
      go_upto_region 5 with fail
      have em : ((lo : Int) + (hi : Int)) / 2 = (((lo + hi) / 2 : Nat) : Int) := by omega
      have hm1 : lo ≤ (lo + hi) / 2 := by omega
      have hm2 : (lo + hi) / 2 < hi := by omega
      rw [em]
      generalize (lo + hi) / 2 = m at hm1 hm2 ⊢
      clear em
      have hml : m < qs.length := by have := HL.out; omega
      obtain ⟨b, off, hA⟩ : ∃ b off, A = some ⟨b, off, none⟩ := by obtain ⟨b, off, h1, _⟩ := HH.out.2 (by omega); exact ⟨b, off, h1⟩
      subst hA
      have hE := HH.out.below hB (Nat.le_refl _)
      have x0 : wr.cell? ⟨b, off + m * 3, none⟩ = some (.int .i64 qs[m].1) := hE.at_ hml (j := 0) rfl
      have x1 : wr.cell? ⟨b, off + m * 3 + 1, none⟩ = some (.int .i64 qs[m].2.1) := hE.at_ hml (j := 1) rfl
      have x2 : wr.cell? ⟨b, off + m * 3 + 2, none⟩ = some (.int .i64 qs[m].2.2) := hE.at_ hml (j := 2) rfl
      have hcall := HC.out wr qs[m] (List.getElem_mem hml) hB
      have hi7 : (0 : Int) ≤ (m : Int) := by omega
      have hi8 : (m : Int) < (n : Int) := by omega
      obtain ⟨v, EV⟩ : ∃ v, Hid (cmpL qs[m].1 p = v) := ⟨_, hid rfl⟩
      rw [EV.out] at hcall
      generalize qs[m].2.1 = l0 at x1 hcall
      generalize qs[m].2.2 = l1 at x2 hcall
      obtain ⟨pr, EP⟩ : ∃ v, Hid (qs[m].1 = v) := ⟨_, hid rfl⟩
      rw [EP.out] at x0 hcall
      have hsz := hB.size
      have HB := hid hB
      clear hE hB
      by_cases hv : v < 0
      · have d1 : decide (v < 0) = true := decT hv
        have HV := hid hv
        clear hv
        go_wp2_with (go_at_fn g; refine hcall.mono ?_; rintro e w2 ⟨rfl, hb2⟩)
        go_roundg (hi - (m + 1))
        case measure => omega
        case rel => exact ⟨m + 1, hi, by omega, hhn, rfl, by go_num, rfl, HB.out.trans (hb2.mono hsz), hid ⟨fun i hx h => lrank_below HR.out hml (by omega) (by rw [EV.out]; exact HV.out), HI.out.2⟩⟩
      · have d1 : decide (v < 0) = false := decF hv
        have HV := hid hv
        clear hv
        go_wp2_with (go_at_fn g; refine hcall.mono ?_; rintro e w2 ⟨rfl, hb2⟩)
        go_roundg (m - lo)
        case measure => omega
        case rel => exact ⟨lo, m, by omega, by omega, rfl, rfl, by go_num, HB.out.trans (hb2.mono hsz), hid ⟨HI.out.1, fun i hx h => by
          rcases Int.lt_or_le (cmpL qs[i].1 p) 0 with h1 | h1
          · have := lrank_below HR.out hx h h1
            rw [EV.out] at this
            have h5 := HV.out
            omega
          · exact h1⟩⟩
    · obtain rfl : lo = hi := by omega
      have hltz : ¬ (lo : Int) < (lo : Int) := by omega
      have HB := hid hB
      by_cases hkn : lo < n
      · have hml : lo < qs.length := by have := HL.out; omega
        obtain ⟨b, off, hA⟩ : ∃ b off, A = some ⟨b, off, none⟩ := by obtain ⟨b, off, h1, _⟩ := HH.out.2 (by omega); exact ⟨b, off, h1⟩
        subst hA
        have hE := HH.out.below hB (Nat.le_refl _)
        have x0 : wr.cell? ⟨b, off + lo * 3, none⟩ = some (.int .i64 qs[lo].1) := hE.at_ hml (j := 0) rfl
        have x1 : wr.cell? ⟨b, off + lo * 3 + 1, none⟩ = some (.int .i64 qs[lo].2.1) := hE.at_ hml (j := 1) rfl
        have x2 : wr.cell? ⟨b, off + lo * 3 + 2, none⟩ = some (.int .i64 qs[lo].2.2) := hE.at_ hml (j := 2) rfl
        have hcall := HC.out wr qs[lo] (List.getElem_mem hml) hB
        have hi7 : (0 : Int) ≤ (lo : Int) := by omega
        have hi8 : (lo : Int) < (n : Int) := by omega
        have d1 : decide ((lo : Int) < (n : Int)) = true := decT hi8
        have HG : Hid (foundL qs p n lo = (cmpL qs[lo].1 p == 0)) := hid (by unfold foundL; rw [decT hkn, List.getElem?_eq_getElem hml]; rfl)
        generalize qs[lo].2.1 = l0 at x1 hcall
        generalize qs[lo].2.2 = l1 at x2 hcall
        obtain ⟨v, EV⟩ : ∃ v, Hid (cmpL qs[lo].1 p = v) := ⟨_, hid rfl⟩
        rw [EV.out] at hcall
        obtain ⟨pr, EP⟩ : ∃ v, Hid (qs[lo].1 = v) := ⟨_, hid rfl⟩
        rw [EP.out] at x0 hcall
        have hsz := hB.size
        clear hE hB
        go_wp2_with (go_at_fn g; refine hcall.mono ?_; rintro e w2 ⟨rfl, hb2⟩)
        go_ret2
        exact ⟨HB.out.trans (hb2.mono hsz), lo, hhn, HI.out.1, HI.out.2, by rw [HG.out, EV.out]; rfl⟩
      · have d1 : decide ((lo : Int) < (n : Int)) = false := decF (by omega)
        have hi8 : ¬ (lo : Int) < (n : Int) := by omega
        have HG : Hid (foundL qs p n lo = false) := hid (by unfold foundL; rw [decF hkn]; rfl)
        clear hB
        go_wp2_with fail
        go_ret2
        exact ⟨HB.out, lo, hhn, HI.out.1, HI.out.2, by rw [HG.out]; rfl⟩
end Go.Proofs.YteggaehelnmhnaaDoor
