/-
  The walk of sort.symMerge_func.
  The walk of sort.stable_func: sorted, like ones as they lay.
  The walks of the closures of openbellref.Side: rank, and the comparison of two places of a slice by it.
  sort.SliceStable at a slice of orders, by a side's ranks, at whatever length; and the walk of openbellref.Side.
  The walk of openbellref.Side: the orders of a side by their ranks, of like ones as they came.
  append of whole slices, of none too, to an own slice; two operations that may come up; an empty slice made. No program of the set in sight.
  The document's book (openbellref.Book): index, Order, Add, Cancel, Cut over a list of orders as they came. Printed by gen_refbook.py.
  The walk of openbellref.Book.Add. Printed by gen_refadd.py.
-/
import Derived.WalkKit
import Derived.WalkLawsBesides
import Derived.WalkSpells
import Derived.Deep.LoopGhost
import Derived.Deep.DeepCutAuto
import Derived.Deep.CutBlock
import Derived.Shelf.Abstract
import Derived.Laws.EntriesVeiled
import Derived.Test.YtkcgchpbjegneaaGreatDoorCrossMeetsLawPack1
import Derived.Deep.RegionHeld3
import Derived.Test.YtkcgchpbjegneaaGreatDoorMem
import Derived.Deep.AppendLies
import Derived.Deep.AppendSrc
import Derived.BigGuard
import Derived.Lib.ReflectliteSlice
import Derived.Lib.ReflectliteSwap
import Derived.Test.YtkcgchpbjegneaaGreatDoorCopyK
import Derived.Maps.AppendAt
import Derived.Test.YtkcgchpbjegneaaGreatDoorHeldT
import Derived.BigRegion
import Derived.Deep.QuietTactic
import Derived.BigQuiet
import Derived.Laws.ResultCell
import Derived.Test.YtkcgchpbjegneaaGreatDoorBookAddL
namespace Go.Proofs.YtkcgchpbjegneaaGreatDoor
open Go.RowKit
set_option linter.unusedVariables false

section
variable {α : Type} {g : Nat} {lb : Array Value} {sf : Nat} {sb : Array Value} {blk n : Nat} {r : α → Int} {St : World → List (α × Nat) → Prop}
theorem get_two {A L B : List α} {i j : Nat} (hi : A.length + j = i) (hj : j < L.length) (h : i < (A ++ (L ++ B)).length) : (A ++ (L ++ B))[i] = L[j] := by
  subst hi
  rw [List.getElem_append_right (by omega), List.getElem_append_left (by omega)]
  simp
theorem get_three {A L R B : List α} {i j : Nat} (hi : A.length + L.length + j = i) (hj : j < R.length) (h : i < (A ++ (L ++ (R ++ B))).length) : (A ++ (L ++ (R ++ B)))[i] = R[j] := by
  subst hi
  rw [List.getElem_append_right (by omega), List.getElem_append_right (by omega), List.getElem_append_left (by omega)]
  congr 1
  omega
/-- merged by parts, the parts told by where they end -/
theorem mid_ok {L R S1 S2 : List (α × Nat)} {i1 i2 : Nat} (h : Mrg r L R) (h1 : i1 ≤ L.length) (h2 : i2 ≤ R.length) (c1 : ∀ x y, 0 < i1 → L[i1 - 1]? = some x → R[i2]? = some y → ltT r x y) (c2 : ∀ x y, 0 < i2 → R[i2 - 1]? = some x → L[i1]? = some y → ltT r x y)
    (p1 : S1.Perm (L.take i1 ++ R.take i2)) (s1 : SortT r S1) (p2 : S2.Perm (L.drop i1 ++ R.drop i2)) (s2 : SortT r S2) : (S1 ++ S2).Perm (L ++ R) ∧ SortT r (S1 ++ S2) := by
  have h' : Mrg r (L.take i1 ++ L.drop i1) (R.take i2 ++ R.drop i2) := by rw [List.take_append_drop, List.take_append_drop]; exact h
  have k := h'.joins (S1 := S1) (S2 := S2) (fun h3 h4 => by
    have hl : (L.take i1).length = i1 := by rw [List.length_take]; omega
    have hr : i2 < R.length := by rw [List.length_drop] at h4; omega
    have h0 : 0 < i1 := by omega
    refine c1 _ _ h0 ?_ ?_
    · rw [List.getElem_take]; simp only [hl]; exact List.getElem?_eq_getElem (by omega)
    · rw [List.getElem_drop]; exact List.getElem?_eq_getElem (by omega)) (fun h3 h4 => by
    have hl : (R.take i2).length = i2 := by rw [List.length_take]; omega
    have hr : i1 < L.length := by rw [List.length_drop] at h4; omega
    have h0 : 0 < i2 := by omega
    refine c2 _ _ h0 ?_ ?_
    · rw [List.getElem_take]; simp only [hl]; exact List.getElem?_eq_getElem (by omega)
    · rw [List.getElem_drop]; exact List.getElem?_eq_getElem (by omega)) p1 s1 p2 s2
  rw [List.take_append_drop, List.take_append_drop] at k
  exact k

set_option maxRecDepth 100000 in
set_option maxHeartbeats 1000000 in
theorem sm_left (E : SortEnv g lb sf sb blk n (fun x : α × Nat => r x.1) St) (w : World) (A : List (α × Nat)) (x : α × Nat) (R B : List (α × Nat)) (a m b : Nat) (ha : A.length = a) (hm : a + 1 = m) (hb : m + R.length = b) (hM : Mrg r [x] R)
    (h : St w (A ++ (x :: (R ++ B)))) (hn : (A ++ (x :: (R ++ B))).length = n) (hn2 : n ≤ 1000000) :
    Calls Tryz.prog 173 #[lsV g lb sf sb, .int .i64 a, .int .i64 m, .int .i64 b] w fun e w' => e = .returned (.tuple #[]) ∧ (∃ S, S.Perm ([x] ++ R) ∧ SortT r S ∧ St w' (A ++ (S ++ B))) ∧ Keeps (fun k => k = blk) w w' := by
  have hlt := E.lt _ _ h
  have eg := E.eg
  have hS0 := E.start h
  have hnn : A.length + (1 + (R.length + B.length)) = n := by simp at hn; omega
  have HE := hid E
  have HS0 := hid hS0
  have HL := hid (And.intro ha (And.intro hb hnn))
  have HM := hid hM
  have hb1 : a ≤ 1000000 := by omega
  have hb2 : b ≤ 1000000 := by omega
  have hb3 : m ≤ 1000000 := by omega
  have HN2 := hid hn2
  have HLt := hid hlt
  have Hm := hid hm
  have t1 : ((m : Int) - (a : Int) == 1) = true := beqT (by omega)
  clear E h hS0 hn hnn ha hb hn2 hlt hM hm
  unfold lsV
  go_enter Tryz.func173, Tryz.ntmps173
  go_wp2_with fail
  clear t1
  go_loopg [8, 9] R.length (fun gg s8 s9 wx => ∃ p q : Nat, p ≤ q ∧ q ≤ R.length ∧ gg = q - p ∧ s8 = .int .i64 ((m : Int) + (p : Int)) ∧ s9 = .int .i64 ((m : Int) + (q : Int)) ∧ Hid ((∀ (h2 : q < R.length), ¬ r R[q].1 < r x.1) ∧ (∀ (h1 : 0 < p) (h2 : p - 1 < R.length), r R[p - 1].1 < r x.1)) ∧ SortAt St blk w wx (lsBox g lb sf sb) (A ++ (x :: (R ++ B))))
  case atStart => exact ⟨0, R.length, Nat.zero_le _, Nat.le_refl _, by omega, by simp, by rw [show (m : Int) + ((R.length : Nat) : Int) = (b : Int) by have := HL.out; omega], hid ⟨fun h => absurd h (by omega), fun h => absurd h (by omega)⟩, HS0.out⟩
  case round =>
    obtain ⟨p, q, hpq, hq, rfl, rfl, rfl, HI, hS⟩ := hrel
    have hRb : R.length ≤ 1000000 := by have := HL.out; omega
    by_cases hlt : p < q
    · have hltz : (m : Int) + (p : Int) < (m : Int) + (q : Int) := by omega
      obtain ⟨c0, c1⟩ := hS.cells
      go_upto_region 6 with fail
      have em : ((m : Int) + (p : Int) + ((m : Int) + (q : Int))) / 2 = (m : Int) + (((p + q) / 2 : Nat) : Int) := by omega
      have hm1 : p ≤ (p + q) / 2 := by omega
      have hm2 : (p + q) / 2 < q := by omega
      rw [em]
      generalize (p + q) / 2 = c at hm1 hm2 ⊢
      clear em
      have hcR : c < R.length := by omega
      have hln : (A ++ (x :: (R ++ B))).length = n := by have := HL.out; simp; omega
      have e1 : A ++ (x :: (R ++ B)) = A ++ ([x] ++ (R ++ B)) := rfl
      have hi1 : m + c < (A ++ (x :: (R ++ B))).length := by have := HL.out; have := Hm.out; omega
      have hi0 : a < (A ++ (x :: (R ++ B))).length := by have := HL.out; omega
      have hle := HE.out.less wr _ (m + c) a hS.st hln hi1 hi0 (by have := Hm.out; omega)
      have g1 : (A ++ (x :: (R ++ B)))[m + c] = R[c] := get_three (A := A) (L := [x]) (by have := HL.out; have := Hm.out; simp; omega) hcR hi1
      have g0 : (A ++ (x :: (R ++ B)))[a] = x := get_mid HL.out.1 hi0
      rw [g0, g1, show (((m + c : Nat) : Int)) = (m : Int) + (c : Int) by omega] at hle
      obtain ⟨v, hv⟩ : ∃ v, decide (r R[c].1 < r x.1) = v := ⟨_, rfl⟩
      rw [hv] at hle
      have HS := hid hS
      have HV := hid hv
      clear hS g0 g1 hi1 hi0 hln e1 hv
      cases v with
      | true =>
        go_wp2_with (go_at_fn g; refine hle.mono ?_; rintro e w2 ⟨rfl, hst, hk⟩)
        go_roundg (q - (c + 1))
        case measure => omega
        case rel => exact ⟨c + 1, q, by omega, hq, rfl, by rw [show (m : Int) + ((c + 1 : Nat) : Int) = (m : Int) + (c : Int) + 1 by omega], rfl, hid ⟨HI.out.1, fun h1 h2 => by have h := HV.out; simpa using h⟩, HS.out.step HLt.out hst hk⟩
      | false =>
        go_wp2_with (go_at_fn g; refine hle.mono ?_; rintro e w2 ⟨rfl, hst, hk⟩)
        go_roundg (c - p)
        case measure => omega
        case rel => exact ⟨p, c, by omega, by omega, rfl, rfl, rfl, hid ⟨fun h2 => by have h := HV.out; simpa using h, HI.out.2⟩, HS.out.step HLt.out hst hk⟩
    · obtain rfl : p = q := by omega
      have hltz : ¬ (m : Int) + (p : Int) < (m : Int) + (p : Int) := by omega
      have HS := hid hS
      have HFin := hid (HM.out.one_l (q := p) hq HI.out.1 (fun h1 => HI.out.2 h1 (by omega)))
      obtain ⟨wo, rfl⟩ : ∃ wo : World, wo = wr := ⟨_, rfl⟩
      clear hS
      go_wp2_with fail
      go_loopg [11] p (fun gg s11 wx => ∃ t : Nat, t ≤ p ∧ gg = p - t ∧ s11 = .int .i64 ((a : Int) + (t : Int)) ∧ SortAt St blk w wx (lsBox g lb sf sb) (A ++ (R.take t ++ (x :: (R.drop t ++ B)))))
      case atStart => exact ⟨0, Nat.zero_le _, rfl, by simp, by simpa using HS.out⟩
      case round =>
        obtain ⟨t, ht, rfl, rfl, hS⟩ := hrel
        obtain ⟨c0, c1⟩ := hS.cells
        by_cases hlt2 : t < p
        · have hltz2 : (a : Int) + (t : Int) < (m : Int) + (p : Int) - 1 := by have := Hm.out; omega
          have htR : t < R.length := by omega
          have et : R.drop t = R[t] :: R.drop (t + 1) := List.drop_eq_getElem_cons htR
          have ek : R.take (t + 1) = R.take t ++ [R[t]] := List.take_succ_eq_append_getElem htR
          have hst := hS.st
          have e1 : A ++ (R.take t ++ (x :: (R.drop t ++ B))) = (A ++ R.take t) ++ (x :: R[t] :: (R.drop (t + 1) ++ B)) := by rw [et]; simp only [List.append_assoc, List.cons_append]
          rw [e1] at hst
          have hal : (A ++ R.take t).length = a + t := by have := HL.out; simp; omega
          have hln : ((A ++ R.take t) ++ (x :: R[t] :: (R.drop (t + 1) ++ B))).length = n := by have := HL.out; simp at hal ⊢; omega
          obtain ⟨w2, hs, hst2, hk⟩ := HE.out.swap wr _ (a + t) (a + t + 1) hst hln (by have := HL.out; omega) (by have := HL.out; omega) (by omega)
          rw [swapL_adj _ _ _ _ hal] at hst2
          rw [show (((a + t : Nat) : Int)) = (a : Int) + (t : Int) by omega, show (((a + t + 1 : Nat) : Int)) = (a : Int) + (t : Int) + 1 by omega] at hs
          have e2 : (A ++ R.take t) ++ (R[t] :: x :: (R.drop (t + 1) ++ B)) = A ++ (R.take (t + 1) ++ (x :: (R.drop (t + 1) ++ B))) := by rw [ek]; simp only [List.append_assoc, List.cons_append, List.nil_append]
          rw [e2] at hst2
          have HS2 := hid hS
          have HSt := hid hst2
          have HK := hid hk
          clear hS hst hst2 hk e1 e2 et ek hal hln
          go_wp2_with fail
          go_roundg (p - (t + 1))
          case measure => omega
          case rel => exact ⟨t + 1, by omega, rfl, by rw [show (a : Int) + ((t + 1 : Nat) : Int) = (a : Int) + (t : Int) + 1 by omega], HS2.out.step HLt.out HSt.out HK.out⟩
        · obtain rfl : t = p := by omega
          have hltz2 : ¬ (a : Int) + (t : Int) < (m : Int) + (t : Int) - 1 := by have := Hm.out; omega
          have HS2 := hid hS
          clear hS
          go_wp2_with fail
          refine bodyPost_ret (results_none rfl _ _ _) rfl ?_
          exact ⟨rfl, ⟨_, HFin.out.1, HFin.out.2, by have h := HS2.out.st; simpa only [List.append_assoc, List.cons_append] using h⟩, HS2.out.keep⟩

set_option maxRecDepth 100000 in
set_option maxHeartbeats 1000000 in
theorem sm_right (E : SortEnv g lb sf sb blk n (fun x : α × Nat => r x.1) St) (w : World) (A L : List (α × Nat)) (y : α × Nat) (B : List (α × Nat)) (a m b : Nat) (ha : A.length = a) (hm : a + L.length = m) (hb : m + 1 = b) (h1 : 2 ≤ L.length) (hM : Mrg r L [y])
    (h : St w (A ++ (L ++ (y :: B)))) (hn : (A ++ (L ++ (y :: B))).length = n) (hn2 : n ≤ 1000000) :
    Calls Tryz.prog 173 #[lsV g lb sf sb, .int .i64 a, .int .i64 m, .int .i64 b] w fun e w' => e = .returned (.tuple #[]) ∧ (∃ S, S.Perm (L ++ [y]) ∧ SortT r S ∧ St w' (A ++ (S ++ B))) ∧ Keeps (fun k => k = blk) w w' := by
  have hlt := E.lt _ _ h
  have eg := E.eg
  have hS0 := E.start h
  have hnn : A.length + (L.length + (1 + B.length)) = n := by simp at hn; omega
  have HE := hid E
  have HS0 := hid hS0
  have HL := hid (And.intro ha (And.intro hb hnn))
  have HM := hid hM
  have hb1 : a ≤ 1000000 := by omega
  have hb2 : b ≤ 1000000 := by omega
  have hb3 : m ≤ 1000000 := by omega
  have HN2 := hid hn2
  have HLt := hid hlt
  have Hm := hid hm
  have t1 : ((m : Int) - (a : Int) == 1) = false := beqF (by omega)
  have t2 : ((b : Int) - (m : Int) == 1) = true := beqT (by omega)
  clear E h hS0 hn hnn ha hb hn2 hlt hM hm h1
  unfold lsV
  go_enter Tryz.func173, Tryz.ntmps173
  go_wp2_with fail
  clear t1 t2
  go_loopg [12, 13] L.length (fun gg s8 s9 wx => ∃ p q : Nat, p ≤ q ∧ q ≤ L.length ∧ gg = q - p ∧ s8 = .int .i64 ((a : Int) + (p : Int)) ∧ s9 = .int .i64 ((a : Int) + (q : Int)) ∧ Hid ((∀ (h2 : q < L.length), r y.1 < r L[q].1) ∧ (∀ (h1 : 0 < p) (h2 : p - 1 < L.length), ¬ r y.1 < r L[p - 1].1)) ∧ SortAt St blk w wx (lsBox g lb sf sb) (A ++ (L ++ (y :: B))))
  case atStart => exact ⟨0, L.length, Nat.zero_le _, Nat.le_refl _, by omega, by simp, by rw [show (a : Int) + ((L.length : Nat) : Int) = (m : Int) by have := Hm.out; omega], hid ⟨fun h => absurd h (by omega), fun h => absurd h (by omega)⟩, HS0.out⟩
  case round =>
    obtain ⟨p, q, hpq, hq, rfl, rfl, rfl, HI, hS⟩ := hrel
    have hRb : L.length ≤ 1000000 := by have := Hm.out; omega
    by_cases hlt : p < q
    · have hltz : (a : Int) + (p : Int) < (a : Int) + (q : Int) := by omega
      obtain ⟨c0, c1⟩ := hS.cells
      go_upto_region 18 with fail
      have em : ((a : Int) + (p : Int) + ((a : Int) + (q : Int))) / 2 = (a : Int) + (((p + q) / 2 : Nat) : Int) := by omega
      have hm1 : p ≤ (p + q) / 2 := by omega
      have hm2 : (p + q) / 2 < q := by omega
      rw [em]
      generalize (p + q) / 2 = c at hm1 hm2 ⊢
      clear em
      have hcR : c < L.length := by omega
      have hln : (A ++ (L ++ (y :: B))).length = n := by have := HL.out; simp; omega
      have hi1 : a + c < (A ++ (L ++ (y :: B))).length := by have := HL.out; have := Hm.out; omega
      have hi0 : m < (A ++ (L ++ (y :: B))).length := by have := HL.out; have := Hm.out; omega
      have hle := HE.out.less wr _ m (a + c) hS.st hln hi0 hi1 (by have := Hm.out; omega)
      have g1 : (A ++ (L ++ (y :: B)))[a + c] = L[c] := get_two (A := A) (by have := HL.out; omega) hcR hi1
      have g0 : (A ++ (L ++ (y :: B)))[m] = y := by
        have h := get_three (A := A) (L := L) (R := [y]) (B := B) (i := m) (j := 0) (by have := HL.out; have := Hm.out; omega) (by simp) hi0
        simpa using h
      rw [g0, g1, show (((a + c : Nat) : Int)) = (a : Int) + (c : Int) by omega] at hle
      obtain ⟨v, hv⟩ : ∃ v, decide (r y.1 < r L[c].1) = v := ⟨_, rfl⟩
      rw [hv] at hle
      have HS := hid hS
      have HV := hid hv
      clear hS g0 g1 hi1 hi0 hln hv
      cases v with
      | false =>
        go_wp2_with (go_at_fn g; refine hle.mono ?_; rintro e w2 ⟨rfl, hst, hk⟩)
        go_roundg (q - (c + 1))
        case measure => omega
        case rel => exact ⟨c + 1, q, by omega, hq, rfl, by rw [show (a : Int) + ((c + 1 : Nat) : Int) = (a : Int) + (c : Int) + 1 by omega], rfl, hid ⟨HI.out.1, fun h1 h2 => by have h := HV.out; simpa using h⟩, HS.out.step HLt.out hst hk⟩
      | true =>
        go_wp2_with (go_at_fn g; refine hle.mono ?_; rintro e w2 ⟨rfl, hst, hk⟩)
        go_roundg (c - p)
        case measure => omega
        case rel => exact ⟨p, c, by omega, by omega, rfl, rfl, rfl, hid ⟨fun h2 => by have h := HV.out; simpa using h, HI.out.2⟩, HS.out.step HLt.out hst hk⟩
    · obtain rfl : p = q := by omega
      have hltz : ¬ (a : Int) + (p : Int) < (a : Int) + (p : Int) := by omega
      have HS := hid hS
      have HFin := hid (HM.out.one_r (q := p) hq HI.out.1 (fun h1 => HI.out.2 h1 (by omega)))
      obtain ⟨wo, rfl⟩ : ∃ wo : World, wo = wr := ⟨_, rfl⟩
      clear hS
      go_wp2_with fail
      go_loopg [15] (L.length - p) (fun gg s11 wx => ∃ u : Nat, p ≤ u ∧ u ≤ L.length ∧ gg = u - p ∧ s11 = .int .i64 ((a : Int) + (u : Int)) ∧ SortAt St blk w wx (lsBox g lb sf sb) (A ++ (L.take u ++ (y :: (L.drop u ++ B)))))
      case atStart => exact ⟨L.length, hq, Nat.le_refl _, rfl, by rw [show (a : Int) + ((L.length : Nat) : Int) = (m : Int) by have := Hm.out; omega], by simpa using HS.out⟩
      case round =>
        obtain ⟨u, hu1, hu2, rfl, rfl, hS⟩ := hrel
        obtain ⟨c0, c1⟩ := hS.cells
        by_cases hlt2 : p < u
        · have hltz2 : (a : Int) + (p : Int) < (a : Int) + (u : Int) := by omega
          obtain ⟨t, ht⟩ : ∃ t, u = t + 1 := ⟨u - 1, by omega⟩
          have htR : t < L.length := by omega
          have et : L.drop t = L[t] :: L.drop u := by rw [ht]; exact List.drop_eq_getElem_cons htR
          have ek : L.take u = L.take t ++ [L[t]] := by rw [ht]; exact List.take_succ_eq_append_getElem htR
          have hst := hS.st
          have e1 : A ++ (L.take u ++ (y :: (L.drop u ++ B))) = (A ++ L.take t) ++ (L[t] :: y :: (L.drop u ++ B)) := by rw [ek]; simp only [List.append_assoc, List.cons_append, List.nil_append]
          rw [e1] at hst
          have hal : (A ++ L.take t).length = a + t := by have := HL.out; simp; omega
          have hln : ((A ++ L.take t) ++ (L[t] :: y :: (L.drop u ++ B))).length = n := by have := HL.out; simp at hal ⊢; omega
          obtain ⟨w2, hs, hst2, hk⟩ := HE.out.swap wr _ (a + t + 1) (a + t) hst hln (by have := HL.out; have := Hm.out; omega) (by have := HL.out; have := Hm.out; omega) (by omega)
          rw [swapL_back _ _ _ _ hal] at hst2
          rw [show (((a + t : Nat) : Int)) = (a : Int) + (u : Int) - 1 by omega, show (((a + t + 1 : Nat) : Int)) = (a : Int) + (u : Int) by omega] at hs
          have e2 : (A ++ L.take t) ++ (y :: L[t] :: (L.drop u ++ B)) = A ++ (L.take t ++ (y :: (L.drop t ++ B))) := by rw [et]; simp only [List.append_assoc, List.cons_append]
          rw [e2] at hst2
          have HS2 := hid hS
          have HSt := hid hst2
          have HK := hid hk
          have Ht := hid ht
          clear hS hst hst2 hk e1 e2 et ek hal hln ht
          go_wp2_with fail
          go_roundg (t - p)
          case measure => have := Ht.out; omega
          case rel => exact ⟨t, by have := Ht.out; omega, by omega, rfl, by rw [show (a : Int) + (t : Int) = (a : Int) + (u : Int) - 1 by have := Ht.out; omega], HS2.out.step HLt.out HSt.out HK.out⟩
        · obtain rfl : p = u := by omega
          have hltz2 : ¬ (a : Int) + (p : Int) < (a : Int) + (p : Int) := by omega
          have HS2 := hid hS
          clear hS
          go_wp2_with fail
          refine bodyPost_ret (results_none rfl _ _ _) rfl ?_
          exact ⟨rfl, ⟨_, HFin.out.1, HFin.out.2, by have h := HS2.out.st; simpa only [List.append_assoc, List.cons_append] using h⟩, HS2.out.keep⟩

/-- the search's halves -/
def HalfC1 (r : α → Int) (L R : List (α × Nat)) (a m n0 lo s : Nat) : Prop := ∀ x y, lo < s → L[s - 1 - a]? = some x → R[n0 - s - m]? = some y → ltT r x y
def HalfC2 (r : α → Int) (L R : List (α × Nat)) (a m n0 hi t : Nat) : Prop := ∀ x y, t < hi → R[n0 - 1 - t - m]? = some x → L[t - a]? = some y → ltT r x y

/-- what a merge of fewer does -/
def SymSaid (g : Nat) (lb : Array Value) (sf : Nat) (sb : Array Value) (blk n : Nat) (r : α → Int) (St : World → List (α × Nat) → Prop) (N : Nat) : Prop :=
  ∀ (w : World) (A L R B : List (α × Nat)) (a m b : Nat), L.length + R.length ≤ N → A.length = a → a + L.length = m → m + R.length = b → 0 < L.length → 0 < R.length → Mrg r L R → St w (A ++ (L ++ (R ++ B))) → (A ++ (L ++ (R ++ B))).length = n →
    Calls Tryz.prog 173 #[lsV g lb sf sb, .int .i64 a, .int .i64 m, .int .i64 b] w fun e w' => e = .returned (.tuple #[]) ∧ (∃ S, S.Perm (L ++ R) ∧ SortT r S ∧ St w' (A ++ (S ++ B))) ∧ Keeps (fun k => k = blk) w w'

set_option maxRecDepth 100000 in
set_option maxHeartbeats 2000000 in
theorem sm_mid (E : SortEnv g lb sf sb blk n (fun x : α × Nat => r x.1) St) (N : Nat) (IH : SymSaid g lb sf sb blk n r St N) (w : World) (A L R B : List (α × Nat)) (a m b : Nat) (hN : L.length + R.length ≤ N + 1) (ha : A.length = a) (hm : a + L.length = m) (hb : m + R.length = b) (h1 : 2 ≤ L.length) (h2 : 2 ≤ R.length) (hM : Mrg r L R)
    (h : St w (A ++ (L ++ (R ++ B)))) (hn : (A ++ (L ++ (R ++ B))).length = n) (hn2 : n ≤ 1000000) :
    Calls Tryz.prog 173 #[lsV g lb sf sb, .int .i64 a, .int .i64 m, .int .i64 b] w fun e w' => e = .returned (.tuple #[]) ∧ (∃ S, S.Perm (L ++ R) ∧ SortT r S ∧ St w' (A ++ (S ++ B))) ∧ Keeps (fun k => k = blk) w w' := by
  have hlt := E.lt _ _ h
  have eg := E.eg
  have hS0 := E.start h
  have hnn : A.length + (L.length + (R.length + B.length)) = n := by simpa using hn
  have HE := hid E
  have HIH := hid IH
  have HS0 := hid hS0
  have HL := hid (And.intro ha (And.intro hm (And.intro hb (And.intro hnn (And.intro h1 (And.intro h2 hN))))))
  have HM := hid hM
  have hb1 : a ≤ 1000000 := by omega
  have hb2 : b ≤ 1000000 := by omega
  have hb3 : m ≤ 1000000 := by omega
  have HN2 := hid hn2
  have HLt := hid hlt
  have t1 : ((m : Int) - (a : Int) == 1) = false := beqF (by omega)
  have t2 : ((b : Int) - (m : Int) == 1) = false := beqF (by omega)
  clear E IH h hS0 hn hnn ha hb hn2 hlt hM hm h1 h2 hN
  unfold lsV
  go_enter Tryz.func173, Tryz.ntmps173
  go_upto_region 26 with fail
  clear t1 t2
  obtain ⟨mid, hmid⟩ : ∃ mid : Nat, (a + b) / 2 = mid := ⟨_, rfl⟩
  have em : ((a : Int) + (b : Int)) / 2 = (mid : Int) := by omega
  rw [em]
  have Hmid := hid hmid
  obtain ⟨n0, hn0⟩ : ∃ n0 : Nat, mid + m = n0 := ⟨_, rfl⟩
  have Hn0 := hid hn0
  have hmb : mid ≤ 1000000 := by omega
  have en : (mid : Int) + (m : Int) = (n0 : Int) := by omega
  clear em hmid hn0
  obtain ⟨w1, hw1⟩ : ∃ w1, w.alloc (.cells (lsBox g lb sf sb) 204) = w1 := ⟨_, rfl⟩
  go_upto_if 106 with fail
  obtain ⟨lo, hlo⟩ : ∃ lo : Nat, (if mid < m then n0 - b else a) = lo := ⟨_, rfl⟩
  obtain ⟨hi, hhi⟩ : ∃ hi : Nat, (if mid < m then mid else m) = hi := ⟨_, rfl⟩
  have Hlh : Hid (a ≤ lo ∧ lo ≤ hi ∧ hi ≤ m ∧ hi ≤ mid ∧ n0 ≤ lo + b ∧ (lo = a ∨ n0 = lo + b) ∧ (hi = mid ∨ hi = m)) := hid (by
    have q1 := HL.out
    have q2 := Hmid.out
    have q3 := Hn0.out
    by_cases hc : mid < m
    · rw [if_pos hc] at hlo hhi; omega
    · rw [if_neg hc] at hlo hhi; omega)
  have HS1 := HS0
  rw [hw1] at HS1
  have Hlo := hid hlo
  have Hhi := hid hhi
  clear hlo hhi hw1
  go_cut [18, 19] (fun s18 s19 wx => s18 = .int .i64 lo ∧ s19 = .int .i64 hi ∧ wx = w1)
  case first =>
    by_cases hc : mid < m
    · have hcz : (mid : Int) < (m : Int) := by omega
      have e1 : (n0 : Int) - (b : Int) = (lo : Int) := by have := Hlo.out; rw [if_pos hc] at this; have := HL.out; have := Hmid.out; have := Hn0.out; omega
      have e2 : hi = mid := by have := Hhi.out; rw [if_pos hc] at this; omega
      have He2 := hid e2
      clear hc e2
      go_wp2_with fail
      go_meet
      exact ⟨rfl, by rw [He2.out], rfl⟩
    · have hcz : ¬ (mid : Int) < (m : Int) := by omega
      have e1 : lo = a := by have := Hlo.out; rw [if_neg hc] at this; omega
      have e2 : hi = m := by have := Hhi.out; rw [if_neg hc] at this; omega
      have He1 := hid e1
      have He2 := hid e2
      clear hc e1 e2
      go_wp2_with fail
      go_meet
      exact ⟨by rw [He1.out], by rw [He2.out], rfl⟩
  case rest =>
    obtain ⟨rfl, rfl, rfl⟩ := hcut
    obtain ⟨w1, rfl⟩ : ∃ w1 : World, w1 = wc := ⟨_, rfl⟩
    have hlb : lo ≤ 1000000 := by have := Hlh.out; omega
    have hhb : hi ≤ 1000000 := by have := Hlh.out; omega
    have hn0b : 1 ≤ n0 ∧ n0 ≤ 2000000 := by have := HL.out; have := Hn0.out; omega
    obtain ⟨hn01, hn02⟩ := hn0b
    go_wp2_with fail
    clear en
    go_loopg [18, 19] (hi - lo) (fun gg s18 s19 wx => ∃ s t : Nat, lo ≤ s ∧ s ≤ t ∧ t ≤ hi ∧ gg = t - s ∧ s18 = .int .i64 s ∧ s19 = .int .i64 t ∧ Hid (HalfC1 r L R a m n0 lo s ∧ HalfC2 r L R a m n0 hi t) ∧ SortAt St blk w wx (lsBox g lb sf sb) (A ++ (L ++ (R ++ B))))
    case atStart => exact ⟨lo, hi, Nat.le_refl _, Hlh.out.2.1, Nat.le_refl _, rfl, rfl, rfl, hid ⟨fun x y h => absurd h (by omega), fun x y h => absurd h (by omega)⟩, HS1.out⟩
    case round =>
      obtain ⟨s, t, hls, hst, hth, rfl, rfl, rfl, HI, hS⟩ := hrel
      by_cases hlt : s < t
      · have hltz : (s : Int) < (t : Int) := by omega
        obtain ⟨c0, c1⟩ := hS.cells
        go_upto_region 36 with fail
        have em : ((s : Int) + (t : Int)) / 2 = (((s + t) / 2 : Nat) : Int) := by omega
        have hm1 : s ≤ (s + t) / 2 := by omega
        have hm2 : (s + t) / 2 < t := by omega
        rw [em]
        generalize (s + t) / 2 = c at hm1 hm2 ⊢
        clear em
        obtain ⟨f1, f2, f3, f4, f5, f6⟩ : c - a < L.length ∧ n0 - 1 - c - m < R.length ∧ m ≤ n0 - 1 - c ∧ a ≤ c ∧ c + 1 ≤ n0 ∧ n0 - 1 - c < b := by
          have q1 := HL.out
          have q2 := Hn0.out
          have q3 := Hlh.out
          omega
        have hln : (A ++ (L ++ (R ++ B))).length = n := by have := HL.out; simp; omega
        have hi1 : n0 - 1 - c < (A ++ (L ++ (R ++ B))).length := by have := HL.out; omega
        have hi0 : c < (A ++ (L ++ (R ++ B))).length := by have := HL.out; omega
        have hle := HE.out.less wr _ (n0 - 1 - c) c hS.st hln hi1 hi0 (by have := Hlh.out; omega)
        have g1 : (A ++ (L ++ (R ++ B)))[n0 - 1 - c] = R[n0 - 1 - c - m] := get_three (A := A) (L := L) (by have := HL.out; omega) f2 hi1
        have g0 : (A ++ (L ++ (R ++ B)))[c] = L[c - a] := get_two (A := A) (by have := HL.out; omega) f1 hi0
        rw [g0, g1, show (((n0 - 1 - c : Nat) : Int)) = (n0 : Int) - 1 - (c : Int) by omega] at hle
        obtain ⟨v, hv⟩ : ∃ v, decide (r R[n0 - 1 - c - m].1 < r L[c - a].1) = v := ⟨_, rfl⟩
        rw [hv] at hle
        have HS := hid hS
        have HV := hid hv
        have HTg := hid (HM.out.tag _ (List.getElem_mem f1) _ (List.getElem_mem f2))
        have HF := hid (And.intro f1 (And.intro f2 (And.intro f3 (And.intro f4 f5))))
        clear hS g0 g1 hi1 hi0 hln hv f3 f4 f6
        have f7 : (0 : Int) ≤ (n0 : Int) - 1 - (c : Int) := by omega
        cases v with
        | false =>
          go_wp2_with (go_at_fn g; refine hle.mono ?_; rintro e w2 ⟨rfl, hst2, hk⟩)
          go_roundg (t - (c + 1))
          case measure => omega
          case rel =>
            refine ⟨c + 1, t, by omega, by omega, hth, rfl, by go_num, rfl, hid ⟨fun x y h k1 k2 => ?_, HI.out.2⟩, HS.out.step HLt.out hst2 hk⟩
            rw [show c + 1 - 1 - a = c - a by omega, List.getElem?_eq_getElem HF.out.1] at k1
            rw [show n0 - (c + 1) - m = n0 - 1 - c - m by omega, List.getElem?_eq_getElem HF.out.2.1] at k2
            cases k1
            cases k2
            exact ltT.of_not (by have h := HV.out; simpa using h) HTg.out
        | true =>
          go_wp2_with (go_at_fn g; refine hle.mono ?_; rintro e w2 ⟨rfl, hst2, hk⟩)
          go_roundg (c - s)
          case measure => omega
          case rel =>
            refine ⟨s, c, hls, by omega, by omega, rfl, rfl, rfl, hid ⟨HI.out.1, fun x y h k1 k2 => ?_⟩, HS.out.step HLt.out hst2 hk⟩
            rw [List.getElem?_eq_getElem HF.out.2.1] at k1
            rw [List.getElem?_eq_getElem HF.out.1] at k2
            cases k1
            cases k2
            exact .inl (by have h := HV.out; simpa using h)
      · obtain rfl : s = t := by omega
        have hltz : ¬ (s : Int) < (s : Int) := by omega
        obtain ⟨e, he⟩ : ∃ e : Nat, n0 = s + e := ⟨n0 - s, by have := Hlh.out; have := Hn0.out; omega⟩
        have hez : (n0 : Int) - (s : Int) = (e : Int) := by omega
        have heb : e ≤ 1000000 := by have := HL.out; have := Hlh.out; omega
        have HEe := hid he
        have HS := hid hS
        obtain ⟨wo, rfl⟩ : ∃ wo : World, wo = wr := ⟨_, rfl⟩
        clear hS he
        go_upto_region 40 with fail
        obtain ⟨i1, hi1⟩ : ∃ i1, s - a = i1 := ⟨_, rfl⟩
        obtain ⟨i2, hi2⟩ : ∃ i2, e - m = i2 := ⟨_, rfl⟩
        have HX : Hid (s = a + i1 ∧ e = m + i2 ∧ mid = a + i1 + i2 ∧ i1 ≤ L.length ∧ i2 ≤ R.length) := hid (by
          have q1 := HL.out
          have q2 := Hn0.out
          have q3 := Hlh.out
          have q4 := HEe.out
          omega)
        have HC1 : Hid (∀ x y, 0 < i1 → L[i1 - 1]? = some x → R[i2]? = some y → ltT r x y) := hid (fun x y h k1 k2 => by
          have q1 := HL.out
          have q2 := Hn0.out
          have q3 := Hlh.out
          have q4 := HEe.out
          have q5 := HX.out
          have q6 : i2 < R.length := by
            rcases Nat.lt_or_ge i2 R.length with h | h
            · exact h
            · rw [List.getElem?_eq_none h] at k2; cases k2
          exact HI.out.1 x y (by omega) (by rw [show s - 1 - a = i1 - 1 by omega]; exact k1) (by rw [show n0 - s - m = i2 by omega]; exact k2))
        have HC2 : Hid (∀ x y, 0 < i2 → R[i2 - 1]? = some x → L[i1]? = some y → ltT r x y) := hid (fun x y h k1 k2 => by
          have q1 := HL.out
          have q2 := Hn0.out
          have q3 := Hlh.out
          have q4 := HEe.out
          have q5 := HX.out
          have q6 : i1 < L.length := by
            rcases Nat.lt_or_ge i1 L.length with h | h
            · exact h
            · rw [List.getElem?_eq_none h] at k2; cases k2
          exact HI.out.2 x y (by omega) (by rw [show n0 - 1 - s - m = i2 - 1 by omega]; exact k1) (by rw [show s - a = i1 by omega]; exact k2))
        have HSP : Hid (SortAt St blk w wo (lsBox g lb sf sb) ((A ++ L.take i1) ++ (L.drop i1 ++ (R.take i2 ++ (R.drop i2 ++ B))))) := hid (by
          have h := HS.out
          have e1 : L = L.take i1 ++ L.drop i1 := (List.take_append_drop _ _).symm
          have e2 : R = R.take i2 ++ R.drop i2 := (List.take_append_drop _ _).symm
          rw [e1, e2] at h
          simpa only [List.append_assoc] using h)
        have HLn : Hid ((L.take i1).length = i1 ∧ (L.drop i1).length = m - s ∧ (R.take i2).length = i2 ∧ (R.drop i2).length = b - e) := hid (by
          have q1 := HL.out
          have q5 := HX.out
          simp only [List.length_take, List.length_drop]
          omega)
        have hPM : Mrg r (L.take i1) (R.take i2) ∧ Mrg r (L.drop i1) (R.drop i2) := Mrg.parts (by rw [List.take_append_drop, List.take_append_drop]; exact HM.out)
        have HPM := hid hPM
        have HMid := hid (fun S1 S2 => mid_ok (S1 := S1) (S2 := S2) HM.out HX.out.2.2.2.1 HX.out.2.2.2.2 HC1.out HC2.out)
        clear hi1 hi2 hPM HI hez
        obtain ⟨L1, eL1⟩ : ∃ X, L.take i1 = X := ⟨_, rfl⟩
        obtain ⟨L2, eL2⟩ : ∃ X, L.drop i1 = X := ⟨_, rfl⟩
        obtain ⟨R1, eR1⟩ : ∃ X, R.take i2 = X := ⟨_, rfl⟩
        obtain ⟨R2, eR2⟩ : ∃ X, R.drop i2 = X := ⟨_, rfl⟩
        rw [eL1, eL2, eR1, eR2] at HSP HLn HPM
        rw [eL1, eL2, eR1, eR2] at HMid
        clear eL1 eL2 eR1 eR2
        obtain ⟨rb, hrb⟩ : ∃ rb, (decide (s < m) && decide (m < e)) = rb := ⟨_, rfl⟩
        have HRb := hid hrb
        clear hrb
        go_cut [145] (fun s145 wx => s145 = .bool rb ∧ wx = wo)
        case first =>
          by_cases k1 : s < m
          · have d1 : decide (s < m) = true := decT (by omega)
            by_cases k2 : m < e
            · have d2 : decide (m < e) = true := decT (by omega)
              have HE1 := hid (show true = rb by rw [← HRb.out, decT k1, decT k2]; rfl)
              clear k1 k2
              go_wp2_with fail
              go_meet
              exact ⟨by rw [HE1.out], rfl⟩
            · have d2 : decide (m < e) = false := decF (by omega)
              have HE1 := hid (show false = rb by rw [← HRb.out, decT k1, decF k2]; rfl)
              clear k1 k2
              go_wp2_with fail
              go_meet
              exact ⟨by rw [HE1.out], rfl⟩
          · have d1 : decide (s < m) = false := decF (by omega)
            have HE1 := hid (show false = rb by rw [← HRb.out, decF k1]; rfl)
            clear k1
            go_wp2_with fail
            go_meet
            exact ⟨by rw [HE1.out], rfl⟩
        case rest =>
          obtain ⟨rfl, rfl⟩ := hcut
          obtain ⟨w2, rfl⟩ : ∃ w2 : World, w2 = wc := ⟨_, rfl⟩
          go_upto_if 145 with fail
          go_cut [150] (fun s150 wx => SortAt St blk w wx (lsBox g lb sf sb) (A ++ (L1 ++ (R1 ++ (L2 ++ (R2 ++ B))))))
          case first =>
            cases rb with
            | false =>
              go_wp2_with fail
              go_meet
              have h := HSP.out
              have q := HRb.out
              have ql := HLn.out
              have hor : L2 = [] ∨ R1 = [] := by
                by_cases k1 : s < m
                · rw [decT k1] at q
                  have k2 : ¬ m < e := by simpa using q
                  exact .inr (List.eq_nil_of_length_eq_zero (by have := HX.out; omega))
                · exact .inl (List.eq_nil_of_length_eq_zero (by omega))
              rcases hor with rfl | rfl
              · simpa only [List.append_assoc, List.nil_append] using h
              · simpa only [List.append_assoc, List.nil_append] using h
            | true =>
              obtain ⟨c0, c1⟩ := HSP.out.cells
              have hkk : s < m ∧ m < e := by have q := HRb.out; simpa using q
              have hc := rotate_any HE.out w2 (A ++ L1) L2 R1 (R2 ++ B) s m e (by have := HL.out; have := HX.out; have := HLn.out; simp; omega) (by have := HL.out; have := HX.out; have := HLn.out; simp; omega) (by have := HL.out; have := HX.out; have := HLn.out; omega) (by have := HLn.out; omega) (by have := HLn.out; have := HX.out; omega) HSP.out.st (by have := HL.out; have := HX.out; have := HLn.out; simp; omega) HN2.out
              have HC := hid hc
              clear hc hkk
              unfold lsV at HC
              go_wp2_with fail
              refine HC.out.mono ?_
              rintro e w3 ⟨rfl, hst, hk⟩
              have HSt := hid hst
              have HK := hid hk
              clear hst hk
              go_wp2_with fail
              go_meet
              exact HSP.out.step HLt.out (by have h := HSt.out; simpa only [List.append_assoc] using h) HK.out
          case rest =>
            have HS4 := hid hcut
            obtain ⟨w4, rfl⟩ : ∃ w4 : World, w4 = wc := ⟨_, rfl⟩
            clear hcut
            go_upto_region 42 with fail
            obtain ⟨ra, hra⟩ : ∃ ra, (decide (a < s) && decide (s < mid)) = ra := ⟨_, rfl⟩
            have HRa := hid hra
            clear hra
            go_cut [158] (fun s158 wx => s158 = .bool ra ∧ wx = w4)
            case first =>
              by_cases k1 : a < s
              · have d1 : decide (a < s) = true := decT (by omega)
                by_cases k2 : s < mid
                · have d2 : decide (s < mid) = true := decT (by omega)
                  have HE1 := hid (show true = ra by rw [← HRa.out, decT k1, decT k2]; rfl)
                  clear k1 k2
                  go_wp2_with fail
                  go_meet
                  exact ⟨by rw [HE1.out], rfl⟩
                · have d2 : decide (s < mid) = false := decF (by omega)
                  have HE1 := hid (show false = ra by rw [← HRa.out, decT k1, decF k2]; rfl)
                  clear k1 k2
                  go_wp2_with fail
                  go_meet
                  exact ⟨by rw [HE1.out], rfl⟩
              · have d1 : decide (a < s) = false := decF (by omega)
                have HE1 := hid (show false = ra by rw [← HRa.out, decF k1]; rfl)
                clear k1
                go_wp2_with fail
                go_meet
                exact ⟨by rw [HE1.out], rfl⟩
            case rest =>
              obtain ⟨rfl, rfl⟩ := hcut
              obtain ⟨w4, rfl⟩ : ∃ w4 : World, w4 = wc := ⟨_, rfl⟩
              go_upto_if 158 with fail
              go_cut [163] (fun s163 wx => ∃ S1, S1.Perm (L1 ++ R1) ∧ SortT r S1 ∧ SortAt St blk w wx (lsBox g lb sf sb) (A ++ (S1 ++ (L2 ++ (R2 ++ B)))))
              case first =>
                cases ra with
                | false =>
                  go_wp2_with fail
                  go_meet
                  have h := HS4.out
                  have q := HRa.out
                  have ql := HLn.out
                  have hor : L1 = [] ∨ R1 = [] := by
                    by_cases k1 : a < s
                    · rw [decT k1] at q
                      have k2 : ¬ s < mid := by simpa using q
                      exact .inr (List.eq_nil_of_length_eq_zero (by have := HX.out; omega))
                    · exact .inl (List.eq_nil_of_length_eq_zero (by have := HX.out; omega))
                  rcases hor with rfl | rfl
                  · exact ⟨R1, by simp, HPM.out.1.r, by simpa only [List.append_assoc, List.nil_append] using h⟩
                  · exact ⟨L1, by simp, HPM.out.1.l, by simpa only [List.append_assoc, List.nil_append] using h⟩
                | true =>
                  obtain ⟨c0, c1⟩ := HS4.out.cells
                  have hkk : a < s ∧ s < mid := by have q := HRa.out; simpa using q
                  have hc := HIH.out w4 A L1 R1 (L2 ++ (R2 ++ B)) a s mid (by have := Hmid.out; have := HL.out; have := HX.out; have := HLn.out; omega) HL.out.1 (by have := HX.out; have := HLn.out; omega) (by have := HX.out; have := HLn.out; omega) (by have := HX.out; have := HLn.out; omega) (by have := HX.out; have := HLn.out; omega) HPM.out.1 HS4.out.st (by have := HL.out; have := HX.out; have := HLn.out; simp; omega)
                  have HC := hid hc
                  clear hc hkk
                  unfold lsV at HC
                  go_wp2_with fail
                  refine HC.out.mono ?_
                  rintro e w3 ⟨rfl, ⟨S1, hp1, hs1, hst⟩, hk⟩
                  have HSt := hid hst
                  have HK := hid hk
                  have HP1 := hid hp1
                  have HS1' := hid hs1
                  clear hst hk hp1 hs1
                  go_wp2_with fail
                  go_meet
                  exact ⟨S1, HP1.out, HS1'.out, HS4.out.step HLt.out HSt.out HK.out⟩
              case rest =>
                obtain ⟨S1, hp1, hs1, hS5⟩ := hcut
                have HP1 := hid hp1
                have HSs1 := hid hs1
                have HS5 := hid hS5
                obtain ⟨w5, rfl⟩ : ∃ w5 : World, w5 = wc := ⟨_, rfl⟩
                have hl1 := hp1.length_eq
                have HL1 := hid hl1
                clear hp1 hs1 hS5 hl1
                have hno : (¬ mid < e ∨ ¬ e < b) → (∃ S2, S2.Perm (L2 ++ R2) ∧ SortT r S2 ∧ SortAt St blk w w5 (lsBox g lb sf sb) (A ++ (S1 ++ (S2 ++ B)))) := fun hh => by
                  have h := HS5.out
                  have ql := HLn.out
                  have qx := HX.out
                  have hor : L2 = [] ∨ R2 = [] := by
                    rcases hh with k1 | k1
                    · exact .inl (List.eq_nil_of_length_eq_zero (by omega))
                    · exact .inr (List.eq_nil_of_length_eq_zero (by omega))
                  rcases hor with rfl | rfl
                  · exact ⟨R2, by simp, HPM.out.2.r, by simpa only [List.append_assoc, List.nil_append] using h⟩
                  · exact ⟨L2, by simp, HPM.out.2.l, by simpa only [List.append_assoc, List.nil_append] using h⟩
                have hfin : ∀ S2 wx, S2.Perm (L2 ++ R2) → SortT r S2 → SortAt St blk w wx (lsBox g lb sf sb) (A ++ (S1 ++ (S2 ++ B))) → (∃ S, S.Perm (L ++ R) ∧ SortT r S ∧ St wx (A ++ (S ++ B))) ∧ Keeps (fun k => k = blk) w wx := fun S2 wx hp hs hS => by
                  obtain ⟨k1, k2⟩ := HMid.out S1 S2 HP1.out HSs1.out hp hs
                  exact ⟨⟨S1 ++ S2, k1, k2, by have h := hS.st; simpa only [List.append_assoc] using h⟩, hS.keep⟩
                have HNo := hid hno
                have HFn := hid hfin
                clear hno hfin
                by_cases k1 : mid < e
                · have d1 : decide (mid < e) = true := decT (by omega)
                  by_cases k2 : e < b
                  · have d2 : decide (e < b) = true := decT (by omega)
                    obtain ⟨c0, c1⟩ := HS5.out.cells
                    have hc := HIH.out w5 (A ++ S1) L2 R2 B mid e b (by have := Hmid.out; have := HL.out; have := HX.out; have := HLn.out; omega) (by have := HL.out; have := HX.out; have := HLn.out; have := HL1.out; simp at *; omega) (by have := HX.out; have := HLn.out; have := HL.out; omega) (by have := HX.out; have := HLn.out; have := HL.out; omega) (by have := HX.out; have := HLn.out; have := HL.out; omega) (by have := HX.out; have := HLn.out; omega) HPM.out.2 (by have h := HS5.out.st; simpa only [List.append_assoc] using h) (by have := HL.out; have := HX.out; have := HLn.out; have := HL1.out; simp at *; omega)
                    have HC := hid hc
                    clear hc k1 k2
                    unfold lsV at HC
                    go_wp2_with fail
                    refine HC.out.mono ?_
                    rintro e w3 ⟨rfl, ⟨S2, hp2, hs2, hst⟩, hk⟩
                    have HSt := hid hst
                    have HK := hid hk
                    have HP2 := hid hp2
                    have HS2' := hid hs2
                    clear hst hk hp2 hs2
                    go_wp2_with fail
                    go_end0
                    exact ⟨rfl, HFn.out S2 _ HP2.out HS2'.out (HS5.out.step HLt.out (by have h := HSt.out; simpa only [List.append_assoc] using h) HK.out)⟩
                  · have d2 : decide (e < b) = false := decF (by omega)
                    have HK2 := hid k2
                    clear k1 k2
                    go_wp2_with fail
                    go_end0
                    obtain ⟨S2, q1, q2, q3⟩ := HNo.out (.inr HK2.out)
                    exact ⟨rfl, HFn.out S2 _ q1 q2 q3⟩
                · have d1 : decide (mid < e) = false := decF (by omega)
                  have HK1 := hid k1
                  clear k1
                  go_wp2_with fail
                  go_end0
                  obtain ⟨S2, q1, q2, q3⟩ := HNo.out (.inl HK1.out)
                  exact ⟨rfl, HFn.out S2 _ q1 q2 q3⟩

/-- symMerge_func merges -/
theorem symMerge_any (E : SortEnv g lb sf sb blk n (fun x : α × Nat => r x.1) St) (hn2 : n ≤ 1000000) : ∀ N, SymSaid g lb sf sb blk n r St N := by
  intro N
  induction N with
  | zero => intro w A L R B a m b hN _ _ _ h1 h2; omega
  | succ N ih =>
    intro w A L R B a m b hN ha hm hb h1 h2 hM h hn
    by_cases c1 : L.length = 1
    · obtain ⟨x, rfl⟩ := List.length_eq_one_iff.1 c1
      exact sm_left E w A x R B a m b ha hm hb hM h hn hn2
    · by_cases c2 : R.length = 1
      · obtain ⟨y, rfl⟩ := List.length_eq_one_iff.1 c2
        exact sm_right E w A L y B a m b ha hm hb (by omega) hM h hn hn2
      · exact sm_mid E N ih w A L R B a m b hN ha hm hb (by omega) (by omega) hM h hn hn2
end
end Go.Proofs.YtkcgchpbjegneaaGreatDoor
namespace Go.Proofs.YtkcgchpbjegneaaGreatDoor
open Go.RowKit
set_option linter.unusedVariables false

section
variable {α : Type} {g : Nat} {lb : Array Value} {sf : Nat} {sb : Array Value} {blk n : Nat} {r : α → Int} {St : World → List (α × Nat) → Prop}
def Rise (T : List (α × Nat)) : Prop := T.Pairwise fun x y => x.2 < y.2
theorem Rise.tag {X Y : List (α × Nat)} (h : Rise (X ++ Y)) : TagL X Y := fun x hx y hy => (List.pairwise_append.1 h).2.2 x hx y hy
/-- behind the first blocks -/
structure Blks (r : α → Int) (T0 : List (α × Nat)) (a : Nat) (P : List (α × Nat)) : Prop where
  len : P.length = a
  le : a ≤ T0.length
  perm : P.Perm (T0.take a)
  ahead : Ahead r 20 P
theorem Blks.step {T0 P S : List (α × Nat)} {a : Nat} (h : Blks r T0 a P) (hT : Rise T0) (ha : a + 20 ≤ T0.length) (hp : S.Perm ((T0.drop a).take 20)) (hs : SortT r S) : Blks r T0 (a + 20) (P ++ S) := by
  have hl : S.length = 20 := by have := hp.length_eq; simp at this; omega
  have e : T0.take (a + 20) = T0.take a ++ (T0.drop a).take 20 := by rw [List.take_add]
  refine ⟨by have := h.len; simp; omega, ha, by rw [e]; exact h.perm.append hp, h.ahead.snoc hl hs ?_⟩
  have hr : Rise (T0.take a ++ T0.drop a) := by rw [List.take_append_drop]; exact hT
  exact TagL.perm (X := T0.take a) (Y := (T0.drop a).take 20) (fun x hx y hy => hr.tag x hx y (List.mem_of_mem_take hy)) h.perm hp
theorem Blks.ends {T0 P S : List (α × Nat)} {a : Nat} (h : Blks r T0 a P) (hT : Rise T0) (ha : T0.length < a + 20) (hp : S.Perm (T0.drop a)) (hs : SortT r S) : (P ++ S).Perm T0 ∧ Chk r 20 (P ++ S) := by
  have hl : S.length ≤ 20 := by have := hp.length_eq; simp at this; omega
  refine ⟨?_, h.ahead.ends hl hs ?_⟩
  · have := h.perm.append hp
    rwa [List.take_append_drop] at this
  · have hr : Rise (T0.take a ++ T0.drop a) := by rw [List.take_append_drop]; exact hT
    exact TagL.perm hr.tag h.perm hp
/-- behind the first merges -/
structure Mgs (r : α → Int) (T0 : List (α × Nat)) (bs a : Nat) (P Q : List (α × Nat)) : Prop where
  len : P.length = a
  perm : (P ++ Q).Perm T0
  ahead : Ahead r (2 * bs) P
  chk : Chk r bs Q
  tag : TagL P Q

set_option maxRecDepth 100000 in
set_option maxHeartbeats 2000000 in
theorem stable_any (E : SortEnv g lb sf sb blk n (fun x : α × Nat => r x.1) St) (hn2 : n ≤ 1000000) (w : World) (T0 : List (α × Nat)) (hT : Rise T0) (h : St w T0) (hn : T0.length = n) :
    Calls Tryz.prog 124 #[lsV g lb sf sb, .int .i64 n] w fun e w' => e = .returned (.tuple #[]) ∧ (∃ T, T.Perm T0 ∧ SortT r T ∧ St w' T) ∧ Keeps (fun k => k = blk) w w' := by
  have hlt := E.lt _ _ h
  have eg := E.eg
  have hS0 := E.start h
  have HE := hid E
  have HS0 := hid hS0
  have HL := hid hn
  have HT := hid hT
  have HN2 := hid hn2
  have HLt := hid hlt
  have HSy := hid (symMerge_any E hn2)
  clear E h hS0 hn hlt hT
  unfold lsV
  go_enter Tryz.func124, Tryz.ntmps124
  go_wp2_with fail
  go_loopg [5, 6] n (fun gg s5 s6 wx => ∃ (a : Nat) (P : List (α × Nat)), gg = n - a ∧ s5 = .int .i64 a ∧ s6 = .int .i64 ((a : Int) + 20) ∧ Hid (Blks r T0 a P) ∧ SortAt St blk w wx (lsBox g lb sf sb) (P ++ T0.drop a))
  case atStart => exact ⟨0, [], rfl, rfl, by simp, hid ⟨rfl, Nat.zero_le _, by simp, ahead_nil 20⟩, by simpa using HS0.out⟩
  case round =>
    obtain ⟨a, P, rfl, rfl, rfl, HB, hS⟩ := hrel
    have ha : a ≤ n := by have := HB.out.le; have := HL.out; omega
    obtain ⟨c0, c1⟩ := hS.cells
    by_cases hlt : a + 20 ≤ n
    · have hltz : (a : Int) + 20 ≤ (n : Int) := by omega
      have ed : T0.drop a = (T0.drop a).take 20 ++ T0.drop (a + 20) := by
        have := (List.take_append_drop 20 (T0.drop a)).symm
        rwa [List.drop_drop] at this
      have hst := hS.st
      rw [ed] at hst
      have hc := insertion_any HE.out wr P ((T0.drop a).take 20) (T0.drop (a + 20)) a (a + 20) HB.out.len (by have := HB.out.len; have := HL.out; simp; omega) ((List.Pairwise.sublist (List.drop_sublist a T0) HT.out).sublist (List.take_sublist _ _)) hst (by have := HB.out.len; have := HL.out; simp; omega) HN2.out
      rw [show (((a + 20 : Nat) : Int)) = (a : Int) + 20 by omega] at hc
      have HC := hid hc
      have HS := hid hS
      clear hc hS hst ed
      unfold lsV at HC
      go_wp2_with fail
      refine HC.out.mono ?_
      rintro e w2 ⟨rfl, ⟨S, hp, hs, hst⟩, hk⟩
      have HP := hid hp
      have HSs := hid hs
      have HSt := hid hst
      have HK := hid hk
      clear hp hs hst hk
      go_wp2_with fail
      go_roundg (n - (a + 20))
      case measure => omega
      case rel => exact ⟨a + 20, P ++ S, rfl, by go_num, by rw [show (((a + 20 : Nat) : Int)) = (a : Int) + 20 by omega], hid (HB.out.step HT.out (by have := HL.out; omega) HP.out HSs.out), HS.out.step HLt.out (by have h := HSt.out; simpa only [List.append_assoc] using h) HK.out⟩
    · have hltz : ¬ (a : Int) + 20 ≤ (n : Int) := by omega
      have hc := insertion_any HE.out wr P (T0.drop a) [] a n HB.out.len (by have := HB.out.len; have := HB.out.le; have := HL.out; simp; omega) (List.Pairwise.sublist (List.drop_sublist a T0) HT.out) (by simpa using hS.st) (by have := HB.out.len; have := HB.out.le; have := HL.out; simp; omega) HN2.out
      have HC := hid hc
      have HS := hid hS
      have HLa := hid hlt
      clear hc hS hlt
      unfold lsV at HC
      go_wp2_with fail
      refine HC.out.mono ?_
      rintro e w2 ⟨rfl, ⟨S, hp, hs, hst⟩, hk⟩
      obtain ⟨hp0, hc0⟩ := HB.out.ends HT.out (by have := HL.out; have := HLa.out; omega) hp hs
      have HS2 := hid (HS.out.step (l' := P ++ S) HLt.out (by simpa using hst) hk)
      have HP0 := hid hp0
      have HC0 := hid hc0
      clear hp hs hst hk hp0 hc0 c0 c1
      go_wp2_with fail
      go_loopg [4] (n - 20) (fun gg s4 wx => ∃ (bs : Nat) (T : List (α × Nat)), 20 ≤ bs ∧ bs ≤ 2000000 ∧ gg = n - bs ∧ s4 = .int .i64 bs ∧ Hid (T.Perm T0 ∧ Chk r bs T) ∧ SortAt St blk w wx (lsBox g lb sf sb) T)
      case atStart => exact ⟨20, P ++ S, Nat.le_refl _, by omega, rfl, rfl, hid ⟨HP0.out, HC0.out⟩, HS2.out⟩
      case round =>
        obtain ⟨bs, T, hbs1, hbs2, rfl, rfl, HPC, hS⟩ := hrel
        have hTl : T.length = n := by have := HPC.out.1.length_eq; have := HL.out; omega
        have HTl := hid hTl
        clear hTl
        by_cases hlt : bs < n
        · have hltz : (bs : Int) < (n : Int) := by omega
          have HS3 := hid hS
          have HLb := hid hlt
          obtain ⟨wo, rfl⟩ : ∃ wo : World, wo = wr := ⟨_, rfl⟩
          have hbs3 : bs ≤ 1000000 := by omega
          clear hS hlt
          go_wp2_with fail
          go_loopg [5, 6] (n - 0) (fun gg s5 s6 wx => ∃ (a : Nat) (P Q : List (α × Nat)), a ≤ n ∧ gg = n - a ∧ s5 = .int .i64 a ∧ s6 = .int .i64 ((a : Int) + 2 * (bs : Int)) ∧ Hid (Mgs r T0 bs a P Q) ∧ SortAt St blk w wx (lsBox g lb sf sb) (P ++ Q))
          case atStart => exact ⟨0, [], T, Nat.zero_le _, rfl, rfl, by rw [show (((0 : Nat) : Int)) + 2 * (bs : Int) = 2 * (bs : Int) by omega], hid ⟨rfl, HPC.out.1, ahead_nil _, HPC.out.2, fun x hx => by cases hx⟩, HS3.out⟩
          case round =>
            obtain ⟨a, P, Q, han, rfl, rfl, rfl, HM, hS⟩ := hrel
            obtain ⟨c0, c1⟩ := hS.cells
            have hln : P.length + Q.length = n := by have h1 := HM.out.perm.length_eq; have h2 := HL.out; rw [List.length_append] at h1; omega
            have HLn := hid hln
            clear hln
            by_cases hlt : a + 2 * bs ≤ n
            · have hltz2 : (a : Int) + 2 * (bs : Int) ≤ (n : Int) := by omega
              obtain ⟨L, R, Q', hQ, hl1, hl2, hmr, htg, hck⟩ := HM.out.chk.two (by have := HM.out.len; have := HLn.out; omega)
              have hl3 : R.length = bs := by have := HM.out.len; have := HLn.out; omega
              have hst := hS.st
              rw [hQ] at hst
              have hc := HSy.out (L.length + R.length) wr P L R Q' a (a + bs) (a + 2 * bs) (Nat.le_refl _) HM.out.len (by omega) (by omega) (by omega) (by omega) hmr hst (by rw [← hQ, List.length_append]; exact HLn.out)
              rw [show (((a + bs : Nat) : Int)) = (a : Int) + (bs : Int) by omega, show (((a + 2 * bs : Nat) : Int)) = (a : Int) + 2 * (bs : Int) by omega] at hc
              have hstep : ∀ S, S.Perm (L ++ R) → SortT r S → Mgs r T0 bs (a + 2 * bs) (P ++ S) Q' := fun S hp hs => by
                have h0 := HM.out.tag
                have h1 := HM.out.perm
                have h2 := HM.out.len
                rw [hQ] at h0 h1
                refine ⟨by have := hp.length_eq; simp at this ⊢; omega, ?_, HM.out.ahead.snoc (by have := hp.length_eq; simp at this; omega) hs (TagL.perm (X := P) (Y := L ++ R) (fun x hx y hy => h0 x hx y (by rw [← List.append_assoc]; exact List.mem_append_left _ hy)) (List.Perm.refl _) hp), hck, fun x hx y hy => ?_⟩
                · refine List.Perm.trans ?_ h1
                  rw [List.append_assoc]
                  refine List.Perm.append_left _ ?_
                  rw [← List.append_assoc]
                  exact List.Perm.append_right _ hp
                · rcases List.mem_append.1 hx with hx | hx
                  · exact h0 x hx y (by simp [hy])
                  · exact htg x (hp.mem_iff.1 hx) y hy
              have HStp := hid hstep
              have HC := hid hc
              have HS := hid hS
              clear hc hS hst hstep hQ hl1 hl2 hl3 hmr htg hck
              unfold lsV at HC
              go_wp2_with fail
              refine HC.out.mono ?_
              rintro e w2 ⟨rfl, ⟨S, hp, hs, hst⟩, hk⟩
              have HM2 := hid (HStp.out S hp hs)
              have HSt := hid hst
              have HK := hid hk
              clear hp hs hst hk
              go_wp2_with fail
              go_roundg (n - (a + 2 * bs))
              case measure => omega
              case rel => exact ⟨a + 2 * bs, P ++ S, Q', hlt, rfl, by rw [show (((a + 2 * bs : Nat) : Int)) = (a : Int) + 2 * (bs : Int) by omega], by rw [show (((a + 2 * bs : Nat) : Int)) = (a : Int) + 2 * (bs : Int) by omega], HM2, HS.out.step HLt.out (by have h := HSt.out; simpa only [List.append_assoc] using h) HK.out⟩
            · have hltz2 : ¬ (a : Int) + 2 * (bs : Int) ≤ (n : Int) := by omega
              by_cases hm : a + bs < n
              · have hmz : (a : Int) + (bs : Int) < (n : Int) := by omega
                obtain ⟨L, R, Q', hQ, hl1, hl2, hmr, htg, hck⟩ := HM.out.chk.two (by have := HM.out.len; have := HLn.out; omega)
                have hl3 : a + bs + R.length = n := by have := HM.out.len; have := HLn.out; omega
                have hQ0 : Q' = [] := List.eq_nil_of_length_eq_zero (by have h := congrArg List.length hQ; have := HM.out.len; have := HLn.out; simp at h; omega)
                subst hQ0
                have hst := hS.st
                rw [hQ] at hst
                have hc := HSy.out (L.length + R.length) wr P L R [] a (a + bs) n (Nat.le_refl _) HM.out.len (by omega) hl3 (by omega) (by omega) hmr hst (by rw [← hQ, List.length_append]; exact HLn.out)
                rw [show (((a + bs : Nat) : Int)) = (a : Int) + (bs : Int) by omega] at hc
                have hstep : ∀ S, S.Perm (L ++ R) → SortT r S → (P ++ S).Perm T0 ∧ Chk r (2 * bs) (P ++ S) := fun S hp hs => by
                  have h0 := HM.out.tag
                  have h1 := HM.out.perm
                  have h2 := HM.out.len
                  have h3 := HLn.out
                  rw [hQ, List.append_nil] at h0 h1
                  exact ⟨(List.Perm.append_left _ hp).trans h1, HM.out.ahead.ends (by have := hp.length_eq; simp at this; omega) hs (TagL.perm h0 (List.Perm.refl _) hp)⟩
                have HStp := hid hstep
                have HC := hid hc
                have HS := hid hS
                clear hc hS hst hstep hQ hl1 hl2 hl3 hmr htg hck
                unfold lsV at HC
                go_wp2_with fail
                refine HC.out.mono ?_
                rintro e w2 ⟨rfl, ⟨S, hp, hs, hst⟩, hk⟩
                have HM2 := hid (HStp.out S hp hs)
                have HSt := hid hst
                have HK := hid hk
                clear hp hs hst hk
                go_wp2_with fail
                go_roundg (n - 2 * bs)
                case measure => have := HLb.out; omega
                case rel => exact ⟨2 * bs, P ++ S, by omega, by omega, rfl, by rw [show (((2 * bs : Nat) : Int)) = (bs : Int) * 2 by omega], HM2, HS.out.step HLt.out (by have h := HSt.out; simpa only [List.append_nil] using h) HK.out⟩
              · have hmz : ¬ (a : Int) + (bs : Int) < (n : Int) := by omega
                have hstep : (P ++ Q).Perm T0 ∧ Chk r (2 * bs) (P ++ Q) := by
                  have h2 := HM.out.len
                  have h3 := HLn.out
                  exact ⟨HM.out.perm, HM.out.ahead.ends (by omega) (HM.out.chk.short (by omega)) HM.out.tag⟩
                have HStp := hid hstep
                have HS := hid hS
                clear hstep hS
                go_wp2_with fail
                go_roundg (n - 2 * bs)
                case measure => have := HLb.out; omega
                case rel => exact ⟨2 * bs, P ++ Q, by omega, by omega, rfl, by rw [show (((2 * bs : Nat) : Int)) = (bs : Int) * 2 by omega], HStp, HS.out⟩
        · have hltz : ¬ (bs : Int) < (n : Int) := by omega
          have HS := hid hS
          have HLb := hid hlt
          clear hS hlt
          go_wp2_with fail
          go_end0
          exact ⟨rfl, ⟨T, HPC.out.1, HPC.out.2.short (by have := HTl.out; have := HLb.out; omega), HS.out.st⟩, HS.out.keep⟩
end
end Go.Proofs.YtkcgchpbjegneaaGreatDoor
namespace Go.Proofs.YtkcgchpbjegneaaGreatDoor
open Go.RowKit
set_option linter.unusedVariables false

/-- where an order ranks on a side -/
def rankV (side kind price : Int) : Int := if kind = 2 then -2000000 else if side = 1 then -price else price
def rankO (side : Int) (o : Ord5) : Int := rankV side o.kind o.price
set_option maxHeartbeats 400000 in
theorem rank_any (a b c d e side : Int) (bs : Nat) (W : World) (X : Prop) (h : W.cell? ⟨bs, 0, none⟩ = some (.int .i64 side) ∧ X) (hd1 : -1000000000 ≤ d) (hd2 : d ≤ 1000000000) :
    Calls Tryz.prog 93 #[.agg #[.int .i64 a, .int .i64 b, .int .i64 c, .int .i64 d, .int .i64 e], .pointer (some ⟨bs, 0, none⟩)] W fun e w' => e = .returned (.int .i64 (rankV side c d)) ∧ Below W.heap.size W w' := by
  have h0 := h.1
  have hb : bs < W.heap.size := World.block_lt_of_cell? W ⟨bs, 0, none⟩ h0
  clear h
  have HB := hid (show Below W.heap.size W (W.alloc (.cells #[.int .i64 a, .int .i64 b, .int .i64 c, .int .i64 d, .int .i64 e] 24)) from (Below.refl _ _).alloc (Nat.le_refl _) _)
  by_cases hc : c = 2
  · have d1 := beqT hc
    have HE := hid (show rankV side c d = -2000000 from if_pos hc)
    clear hc
    go_enter Tryz.func93, Tryz.ntmps93
    go_wp2
    go_ret
    exact ⟨ret_int (by rw [HE.out]), HB.out⟩
  · have d1 := beqF hc
    by_cases hs : side = 1
    · have d2 := beqT hs
      have HE := hid (show rankV side c d = -d by unfold rankV; rw [if_neg hc, if_pos hs])
      have hw : RowKit.wrap64 (-d) = -d := by unfold RowKit.wrap64; omega
      clear hc hs
      go_enter Tryz.func93, Tryz.ntmps93
      go_wp2
      go_ret
      exact ⟨ret_int (by rw [HE.out]), HB.out⟩
    · have d2 := beqF hs
      have HE := hid (show rankV side c d = d by unfold rankV; rw [if_neg hc, if_neg hs])
      clear hc hs
      go_enter Tryz.func93, Tryz.ntmps93
      go_wp2
      go_ret
      exact ⟨ret_int (by rw [HE.out]), HB.out⟩

abbrev LessS (w W : World) (bs bo br g n c i j : Nat) (side : Int) (x y : Ord5) : Prop := W.cell? ⟨bs, 0, none⟩ = some (.int .i64 side) ∧ W.cell? ⟨bo, 0, none⟩ = some (.slice (some ⟨g, 0, none⟩) n c) ∧ W.cell? ⟨br, 0, none⟩ = some (.func (.func 93) #[] #[.pointer (some ⟨bs, 0, none⟩)]) ∧
  W.cell? ⟨g, i * 5, none⟩ = some (.int .i64 x.id) ∧ W.cell? ⟨g, i * 5 + 1, none⟩ = some (.int .i64 x.side) ∧ W.cell? ⟨g, i * 5 + 2, none⟩ = some (.int .i64 x.kind) ∧ W.cell? ⟨g, i * 5 + 3, none⟩ = some (.int .i64 x.price) ∧ W.cell? ⟨g, i * 5 + 4, none⟩ = some (.int .i64 x.qty) ∧
  W.cell? ⟨g, j * 5, none⟩ = some (.int .i64 y.id) ∧ W.cell? ⟨g, j * 5 + 1, none⟩ = some (.int .i64 y.side) ∧ W.cell? ⟨g, j * 5 + 2, none⟩ = some (.int .i64 y.kind) ∧ W.cell? ⟨g, j * 5 + 3, none⟩ = some (.int .i64 y.price) ∧ W.cell? ⟨g, j * 5 + 4, none⟩ = some (.int .i64 y.qty) ∧ Below w.heap.size w W
theorem LessS.step {w W W' : World} {bs bo br g n c i j : Nat} {side : Int} {x y : Ord5} (h : LessS w W bs bo br g n c i j side x y) (hb : Below W.heap.size W W') : LessS w W' bs bo br g n c i j side x y := by
  obtain ⟨h1, h2, h3, x0, x1, x2, x3, x4, y0, y1, y2, y3, y4, hB⟩ := h
  have key : ∀ {p : Addr} {v : Value}, W.cell? p = some v → W'.cell? p = some v := fun {p v} hp => (hb.cell (World.block_lt_of_cell? W p hp)).trans hp
  exact ⟨key h1, key h2, key h3, key x0, key x1, key x2, key x3, key x4, key y0, key y1, key y2, key y3, key y4, hB.trans (hb.mono hB.size)⟩
theorem LessS.below {w W : World} {bs bo br g n c i j : Nat} {side : Int} {x y : Ord5} (h : LessS w W bs bo br g n c i j side x y) : Below w.heap.size w W := h.2.2.2.2.2.2.2.2.2.2.2.2.2
theorem LessS.drew {w W : World} {bs bo br g n c i j : Nat} {side : Int} {x y : Ord5} (h : LessS w W bs bo br g n c i j side x y) : LessS w W.drew bs bo br g n c i j side x y := LessS.step h (Below.drew (Below.refl _ _))

set_option maxRecDepth 100000 in
set_option maxHeartbeats 1000000 in
theorem less_any (bs bo br g n c i j : Nat) (side : Int) (x y : Ord5) (w : World) (h : LessS w w bs bo br g n c i j side x y) (hi : i < n) (hj : j < n) (hx1 : -1000000000 ≤ x.price) (hx2 : x.price ≤ 1000000000) (hy1 : -1000000000 ≤ y.price) (hy2 : y.price ≤ 1000000000) :
    Calls Tryz.prog 95 #[.int .i64 i, .int .i64 j, .pointer (some ⟨br, 0, none⟩), .pointer (some ⟨bo, 0, none⟩)] w fun e w' => e = .returned (.bool (decide (rankO side x < rankO side y))) ∧ Below w.heap.size w w' := by
  have eg : ∀ args w, (callFunc 93 args).run Tryz.prog w = .ok (.enter 93 args) w := Go.Proofs.enters_of Tryz.func93 (by kernel_rfl) rfl
  unfold rankO
  obtain ⟨xa, xb, xc, xd, xe⟩ := x
  obtain ⟨ya, yb, yc, yd, ye⟩ := y
  have HS0 := hid h
  obtain ⟨h1, h2, h3, x0, x1, x2, x3, x4, y0, y1, y2, y3, y4, -⟩ := h
  dsimp only at *
  have i0 : (0 : Int) ≤ (i : Int) := by omega
  have j0 : (0 : Int) ≤ (j : Int) := by omega
  have i1 : (i : Int) < (n : Int) := by omega
  have j1 : (j : Int) < (n : Int) := by omega
  go_enter Tryz.func95, Tryz.ntmps95
  go_wp2
  go_region_held3 (fun W => LessS w W bs bo br g n c i j side ⟨xa, xb, xc, xd, xe⟩ ⟨ya, yb, yc, yd, ye⟩)
    (first | exact HS0.out.drew | exact LessS.step (by assumption) hB)
    (first | (go_at_fn 93; refine (rank_any _ _ _ _ _ _ _ _ _ (by assumption) (by assumption) (by assumption)).mono ?_; rintro e w1 ⟨rfl, hB⟩))
  go_wp2
  go_ret
  exact ⟨rfl, LessS.below (by assumption)⟩
end Go.Proofs.YtkcgchpbjegneaaGreatDoor
namespace Go.Proofs.YtkcgchpbjegneaaGreatDoor
open Go.RowKit Go.Lib
set_option linter.unusedVariables false

theorem order_row : (Tryz.prog.info? 24).map (fun i => (i.hasPointers, i.bytes, i.size)) = some (false, 40, 5) := by kernel_rfl
theorem orders_row : (Tryz.prog.info? 22).map (fun i => i.desc) = some (.slice 24) := by kernel_rfl
theorem order_info_ : ∃ ie, Tryz.prog.info? 24 = some ie ∧ ie.hasPointers = false ∧ ie.bytes = 40 ∧ ie.size = 5 := by
  have h := order_row
  cases hi : Tryz.prog.info? 24 with
  | none => rw [hi] at h; cases h
  | some ie =>
    rw [hi] at h
    injection h with h
    injection h with h1 h2
    injection h2 with h2 h3
    exact ⟨ie, rfl, h1, h2, h3⟩
theorem orders_info_ : ∃ i, Tryz.prog.info? 22 = some i ∧ i.desc = .slice 24 := by
  have h := orders_row
  cases hi : Tryz.prog.info? 22 with
  | none => rw [hi] at h; cases h
  | some ie =>
    rw [hi] at h
    injection h with h
    exact ⟨ie, rfl, h⟩
theorem swap_at1 : Tryz.prog.funcs.findIdx? (·.name == "internal/reflectlite" ++ ".Swapper$" ++ toString 1) = some 163 := by kernel_rfl
theorem swap_at2 : Tryz.prog.funcs.findIdx? (·.name == "internal/reflectlite" ++ ".Swapper$" ++ toString 2) = some 164 := by kernel_rfl
theorem swap_at9 : Tryz.prog.funcs.findIdx? (·.name == "internal/reflectlite" ++ ".Swapper$" ++ toString 9) = some 171 := by kernel_rfl
def swapF (n : Nat) : Nat := if n = 0 then 163 else if n = 1 then 164 else 171
def swapB (P : Program) (p : Option Addr) (n c : Nat) : Array Value := if n ≤ 1 then #[] else #[.slice p n c, typeHandle P 24]
def sortW (p : Option Addr) (n c : Nat) (w : World) : World := (w.alloc (.cells #[.slice p n c] 22)).alloc (.cells #[.pointer (some ⟨1, 22, none⟩), .pointer (some ⟨w.heap.size, 0, none⟩), .int .u64 151] 198)

set_option maxHeartbeats 1000000 in
set_option maxRecDepth 100000 in
theorem sliceStable_of (p : Option Addr) (n c : Nat) (hn : n ≤ 1000000) (lf : Fn) (la lb : Array Value) (w : World) (R : World → Prop)
    (hp : Calls Tryz.prog 124 #[.agg #[.func lf la lb, .func (.func (swapF n)) #[] (swapB Tryz.prog p n c)], .int .i64 n] (sortW p n c w) fun e w' => e = .returned (.tuple #[]) ∧ R w') :
    Calls Tryz.prog 94 #[.iface 22 (.slice p n c), .func lf la lb] w fun e w' => e = .returned (.tuple #[]) ∧ R w' := by
  obtain ⟨ie, hie, q1, q2, q3⟩ := order_info_
  obtain ⟨i, hi, hd⟩ := orders_info_
  have hf : Tryz.prog.funcs.findIdx? (·.name == "internal/reflectlite" ++ ".Swapper$" ++ toString (swapperK n ie 25)) = some (swapF n) := by
    by_cases h0 : n = 0
    · subst h0
      have e : swapperK 0 ie 25 = 1 := by simp [swapperK]
      rw [e]
      unfold swapF
      rw [if_pos rfl]
      exact swap_at1
    · by_cases h1 : n = 1
      · subst h1
        have e : swapperK 1 ie 25 = 2 := by simp [swapperK]
        rw [e]
        unfold swapF
        rw [if_neg h0, if_pos rfl]
        exact swap_at2
      · have e : swapperK n ie 25 = 9 := by
          have c1 : (n == 0) = false := by simp; omega
          have c2 : (n == 1) = false := by simp; omega
          simp [swapperK, q1, q2, c1, c2]
        rw [e]
        unfold swapF
        rw [if_neg h0, if_neg h1]
        exact swap_at9
  have hb : (if swapperK n ie 25 ≤ 2 then (#[] : Array Value) else #[.slice p n c, typeHandle Tryz.prog 24]) = swapB Tryz.prog p n c := by
    unfold swapB
    by_cases h1 : n ≤ 1
    · have : swapperK n ie 25 ≤ 2 := by
        rcases (by omega : n = 0 ∨ n = 1) with rfl | rfl
        · simp [swapperK]
        · simp [swapperK]
      rw [if_pos h1, if_pos this]
    · have e : swapperK n ie 25 = 9 := by
        have c1 : (n == 0) = false := by simp; omega
        have c2 : (n == 1) = false := by simp; omega
        simp [swapperK, q1, q2, c1, c2]
      rw [if_neg h1, e, if_neg (by omega)]
  have hv := run_valueOf_slice (P := Tryz.prog) 22 24 i hi hd p n c w
  have hs := fun w => run_swapper_slice (P := Tryz.prog) 22 24 i ie hi hd hie 25 (fun _ => by kernel_rfl) p n c (swapF n) hf w
  have hl := fun a w ha => run_valueLen_slice (P := Tryz.prog) 22 24 i hi hd (by kernel_rfl) a p n c w ha
  unfold sortW at hp
  rw [hb] at hs
  generalize swapB Tryz.prog p n c = B at hs hp
  generalize swapF n = f at hs hp
  have hg : Tryz.prog.globals.size = 1 := by kernel_rfl
  simp only [typeHandle, hg] at hv hl
  have HP := hid hp
  clear hp hf hb hi hd hie q1 q2 q3
  go_enter Tryz.func94, Tryz.ntmps94
  go_wp2_with fail
  rw [run_callFunc_extern Tryz.func122 (by kernel_rfl) (by kernel_rfl) (by kernel_rfl) (e := fun args => Extern.ReflectliteValue.unpack (args.getD 0 (.tuple #[]))) (by kernel_rfl),
    show Sem.run Tryz.prog ((fun args : Array Value => Extern.ReflectliteValue.unpack (args.getD 0 (.tuple #[]))) #[.iface 22 (.slice p n c)]) w = _ from hv]
  simp only [Result.andThen]
  rw [Oper.upon_value]
  go_wp2_with fail
  rw [run_callFunc_extern Tryz.func123 (by kernel_rfl) (by kernel_rfl) (by kernel_rfl) (e := Extern.ReflectliteSwapper.swapper "internal/reflectlite" (Extern.ReflectliteValue.valueError "Swapper")) (by kernel_rfl), hs]
  simp only [Result.andThen]
  rw [Oper.upon_value]
  go_wp2_with fail
  rw [run_callFunc_extern Tryz.func125 (by kernel_rfl) (by kernel_rfl) (by kernel_rfl) (e := Extern.ReflectliteValue.method (Extern.ReflectliteValue.valueError "reflectlite.Value.Len" 0) Extern.ReflectliteValue.len) (by kernel_rfl),
    hl _ _ (by simp)]
  simp only [Result.andThen]
  rw [Oper.upon_value]
  go_wp2_with fail
  refine HP.out.mono ?_
  rintro e w' ⟨rfl, hR⟩
  go_wp2_with fail
  go_end0
  exact ⟨rfl, hR⟩

/-! ### what the sort asks, at orders -/
/-- the row, and what the comparison reads -/
structure SideSt (w0 : World) (bs bo br g c : Nat) (side : Int) (n : Nat) (W : World) (l : List Ord5) : Prop where
  row : RowAt W (some ⟨g, 0, none⟩) n c 24 5 (flat encO l)
  len : l.length = n
  price : ∀ o ∈ l, -1000000000 ≤ o.price ∧ o.price ≤ 1000000000
  cbo : W.cell? ⟨bo, 0, none⟩ = some (.slice (some ⟨g, 0, none⟩) n c)
  cbr : W.cell? ⟨br, 0, none⟩ = some (.func (.func 93) #[] #[.pointer (some ⟨bs, 0, none⟩)])
  cbs : W.cell? ⟨bs, 0, none⟩ = some (.int .i64 side)
  ne : bo ≠ g ∧ br ≠ g ∧ bs ≠ g
  keep : Keeps (fun k => k = g) w0 W
section
variable {w0 W W' : World} {bs bo br g c n : Nat} {side : Int} {l : List Ord5}
theorem SideSt.lt (h : SideSt w0 bs bo br g c side n W l) : g < W.heap.size := h.row.lt rfl
theorem SideSt.below (h : SideSt w0 bs bo br g c side n W l) (hb : Below W.heap.size W W') : SideSt w0 bs bo br g c side n W' l :=
  ⟨h.row.below hb, h.len, h.price, (hb.cell (World.block_lt_of_cell? W _ h.cbo)).trans h.cbo, (hb.cell (World.block_lt_of_cell? W _ h.cbr)).trans h.cbr, (hb.cell (World.block_lt_of_cell? W _ h.cbs)).trans h.cbs, h.ne, h.keep.then_ hb⟩
theorem SideSt.put (h : SideSt w0 bs bo br g c side n W l) {l' : List Ord5} (hl : l'.length = n) (hp : ∀ o ∈ l', o ∈ l) (hr : RowAt W' (some ⟨g, 0, none⟩) n c 24 5 (flat encO l')) (hk : Keeps (fun k => k = g) W W') : SideSt w0 bs bo br g c side n W' l' :=
  ⟨hr, hl, fun o ho => h.price o (hp o ho), (hk.cell (World.block_lt_of_cell? W _ h.cbo) h.ne.1).trans h.cbo, (hk.cell (World.block_lt_of_cell? W _ h.cbr) h.ne.2.1).trans h.cbr, (hk.cell (World.block_lt_of_cell? W _ h.cbs) h.ne.2.2).trans h.cbs, h.ne, h.keep.trans hk (fun i e => .inl e)⟩
theorem mem_swapL {α : Type} {l : List α} {i j : Nat} {x : α} (h : x ∈ swapL l i j) : x ∈ l := by
  unfold swapL at h
  split at h
  · rename_i a b h1 h2
    rcases List.mem_or_eq_of_mem_set h with h | rfl
    · rcases List.mem_or_eq_of_mem_set h with h | rfl
      · exact h
      · exact List.mem_of_getElem? h2
    · exact List.mem_of_getElem? h1
  · exact h
theorem sideEnv (h2 : 2 ≤ n) : SortEnv 95 #[.pointer (some ⟨br, 0, none⟩), .pointer (some ⟨bo, 0, none⟩)] (swapF n) (swapB Tryz.prog (some ⟨g, 0, none⟩) n c) g n (rankO side) (SideSt w0 bs bo br g c side n) where
  eg := Go.Proofs.enters_of Tryz.func95 (by kernel_rfl) rfl
  less := fun W l i j h hl hi hj hij => by
    obtain ⟨x0, x1, x2, x3, x4⟩ := ord_own h.row hi
    obtain ⟨y0, y1, y2, y3, y4⟩ := ord_own h.row hj
    have hx := h.price _ (List.getElem_mem hi)
    have hy := h.price _ (List.getElem_mem hj)
    have hc := less_any bs bo br g n c i j side l[i] l[j] W ⟨h.cbs, h.cbo, h.cbr, x0, x1, x2, x3, x4, y0, y1, y2, y3, y4, Below.refl _ _⟩ (by omega) (by omega) hx.1 hx.2 hy.1 hy.2
    exact hc.mono fun e w' ⟨h1, h2⟩ => ⟨h1, h.below h2, Keeps.of_below h2 _⟩
  swap := fun W l i j h hl hi hj hij => by
    obtain ⟨ie, hie, q1, q2, q3⟩ := order_info_
    have hi' : i < l.length := by omega
    have hj' : j < l.length := by omega
    have cc : ∀ x, (hx : x < l.length) → ∀ u v, (encO l[x])[u]? = some v → W.cell? ⟨g, 0 + x * ie.size + u, none⟩ = some v := fun x hx u v hv => by
      obtain ⟨g', hg, hcell⟩ := h.row.elem encO_length (by omega) hx
      cases hg
      rw [q3, Nat.zero_add]
      exact hcell u v hv
    have hsw := run_swap_cells (P := Tryz.prog) false 24 ie hie (fun _ => by kernel_rfl) g 0 n c i j hi hj (encO l[i]) (encO l[j]) (by rw [q3]; rfl) (by rw [q3]; rfl) (encO_one _) (encO_one _) W (cc i hi') (cc j hj')
      (fun k _ => h.row.frozen _) (fun k _ => h.row.frozen _)
    have ef : swapF n = 171 := by unfold swapF; rw [if_neg (by omega), if_neg (by omega)]
    have eb : swapB Tryz.prog (some ⟨g, 0, none⟩) n c = #[.slice (some ⟨g, 0, none⟩) n c, typeHandle Tryz.prog 24] := by unfold swapB; rw [if_neg (by omega)]
    rw [ef, eb]
    refine ⟨(W.setCells g (0 + i * ie.size) (encO l[j])).setCells g (0 + j * ie.size) (encO l[i]), ?_, ?_, ?_⟩
    · rw [run_callFunc_extern Tryz.func171 (by kernel_rfl) (by kernel_rfl) (by kernel_rfl) (e := Extern.ReflectliteSwapper.swap false) (by kernel_rfl),
        show (#[Value.int .i64 (i : Int), Value.int .i64 (j : Int)] ++ #[Value.slice (some ⟨g, 0, none⟩) n c, typeHandle Tryz.prog 24]) = #[.int .i64 i, .int .i64 j, .slice (some ⟨g, 0, none⟩) n c, typeHandle Tryz.prog 24] from rfl, hsw]
      rfl
    · refine h.put (by rw [swapL_length]; exact hl) (fun o ho => mem_swapL ho) ?_ ((Keeps.setCells _ _ _ _).trans (Keeps.setCells _ _ _ _) (fun i e => .inl e))
      rw [swapL_of hi' hj', q3, Nat.zero_add, Nat.zero_add]
      have r1 := h.row.sets (encO l[j]) W _ (i * 5)
      rw [flat_sets encO_length _ _ _ hi'] at r1
      have r2 := r1.sets (encO l[i]) _ _ (j * 5)
      rwa [flat_sets encO_length _ _ _ (by simpa using hj')] at r2
    · exact (Keeps.setCells _ _ _ _).trans (Keeps.setCells _ _ _ _) (fun i e => .inl e)
  alloc := fun W l o h => h.below ((Below.refl _ _).alloc (Nat.le_refl _) _)
  lt := fun W l h => h.lt
end

/-! ### the sort at orders -/
def idxL (l : List Ord5) : List (Ord5 × Nat) := l.zipIdx
theorem idxL_rise (l : List Ord5) : Rise (idxL l) := by
  unfold Rise idxL
  rw [List.pairwise_iff_getElem]
  intro i j hi hj hij
  simp
  exact hij
theorem idxL_map (l : List Ord5) : (idxL l).map (·.1) = l := by unfold idxL; simp

set_option maxHeartbeats 1000000 in
theorem sortOrders_any (w : World) (bs bo br c n : Nat) (A : Option Addr) (side : Int) (l : List Ord5) (hn : n ≤ 100000) (hr : RowAt w A n c 24 5 (flat encO l)) (hp : ∀ o ∈ l, -1000000000 ≤ o.price ∧ o.price ≤ 1000000000)
    (h1 : w.cell? ⟨bo, 0, none⟩ = some (.slice A n c)) (h2 : w.cell? ⟨br, 0, none⟩ = some (.func (.func 93) #[] #[.pointer (some ⟨bs, 0, none⟩)])) (h3 : w.cell? ⟨bs, 0, none⟩ = some (.int .i64 side)) (hne : ∀ g, blkOf A = some g → bo ≠ g ∧ br ≠ g ∧ bs ≠ g) :
    Calls Tryz.prog 94 #[.iface 22 (.slice A n c), .func (.func 95) #[] #[.pointer (some ⟨br, 0, none⟩), .pointer (some ⟨bo, 0, none⟩)]] w fun e w' => e = .returned (.tuple #[]) ∧ (RowAt w' A n c 24 5 (flat encO (stabL (rankO side) l)) ∧ Keeps (fun k => blkOf A = some k) w w') := by
  have hl : l.length = n := row_length encO_length (by omega) hr
  have hbw : Below w.heap.size w (sortW A n c w) := ((Below.refl _ w).alloc (Nat.le_refl _) _).alloc (by simp) _
  refine sliceStable_of A n c (by omega) _ _ _ w _ ?_
  by_cases hs : 2 ≤ n
  · obtain ⟨g, hA, -⟩ := hr.elem encO_length (by omega) (i := 0) (by omega)
    subst hA
    obtain ⟨n1, n2, n3⟩ := hne g rfl
    have hst : SideSt w bs bo br g c side n (sortW (some ⟨g, 0, none⟩) n c w) l :=
      ⟨hr.below hbw, hl, hp, (hbw.cell (World.block_lt_of_cell? w _ h1)).trans h1, (hbw.cell (World.block_lt_of_cell? w _ h2)).trans h2, (hbw.cell (World.block_lt_of_cell? w _ h3)).trans h3, ⟨n1, n2, n3⟩, Keeps.of_below hbw _⟩
    have E := (sideEnv (w0 := w) (bs := bs) (bo := bo) (br := br) (g := g) (c := c) (side := side) hs).tag
    have hc := stable_any E (by omega) (sortW (some ⟨g, 0, none⟩) n c w) (idxL l) (idxL_rise l) (by rw [idxL_map]; exact hst) (by unfold idxL; simpa using hl)
    refine hc.mono ?_
    rintro e w' ⟨rfl, ⟨T, hpT, hsT, hST⟩, -⟩
    have e1 : T.map (·.1) = stabL (rankO side) l := stab_only hpT hsT
    rw [e1] at hST
    exact ⟨rfl, hST.row, hST.keep.mono (fun i e => by rw [e]; rfl)⟩
  · have E : SortEnv (α := Ord5 × Nat) 95 #[.pointer (some ⟨br, 0, none⟩), .pointer (some ⟨bo, 0, none⟩)] (swapF n) (swapB Tryz.prog A n c) bo n (fun x => rankO side x.1) (fun W T => Below w.heap.size w W ∧ T = idxL l) :=
      { eg := Go.Proofs.enters_of Tryz.func95 (by kernel_rfl) rfl
        less := fun W l i j h hl hi hj hij => absurd hij (by omega)
        swap := fun W l i j h hl hi hj hij => absurd hij (by omega)
        alloc := fun W l o h => ⟨h.1.alloc h.1.size _, h.2⟩
        lt := fun W l h => Nat.lt_of_lt_of_le (World.block_lt_of_cell? w _ h1) h.1.size }
    have hc := stable_any E (by omega) (sortW A n c w) (idxL l) (idxL_rise l) ⟨hbw, rfl⟩ (by unfold idxL; simpa using hl)
    refine hc.mono ?_
    rintro e w' ⟨rfl, ⟨T, hpT, hsT, hB, rfl⟩, -⟩
    have e1 : (idxL l).map (·.1) = stabL (rankO side) l := stab_only hpT hsT
    rw [idxL_map] at e1
    exact ⟨rfl, by rw [← e1]; exact hr.below hB, Keeps.of_below hB _⟩
end Go.Proofs.YtkcgchpbjegneaaGreatDoor
namespace Go.Proofs.YtkcgchpbjegneaaGreatDoor
open Go.RowKit Go.Lib
set_option linter.unusedVariables false

/-! ### openbellref.Side -/
theorem ref_ord_info : (Tryz.prog.info? 24).map (fun i => (i.zero, i.size, i.bytes)) = some (some (.agg #[.int .i64 0, .int .i64 0, .int .i64 0, .int .i64 0, .int .i64 0]), 5, 40) := by kernel_rfl
theorem stabL_length {α : Type} (r : α → Int) (l : List α) : (stabL r l).length = l.length := by
  have key : ∀ (l acc : List α), (l.foldl (insR r) acc).length = acc.length + l.length := by
    intro l
    induction l with
    | nil => intro acc; rfl
    | cons x t ih =>
      intro acc
      rw [List.foldl_cons, ih]
      have h := congrArg List.length (List.takeWhile_append_dropWhile (p := fun y => decide (r y ≤ r x)) (l := acc))
      rw [List.length_append] at h
      unfold insR
      rw [List.length_append, List.length_cons, List.length_cons]
      omega
  have := key l []
  unfold stabL
  simpa using this
def onSide (side : Int) (l : List Ord5) : List Ord5 := l.filter fun o => o.side == side
theorem onSide_snoc (side : Int) (l : List Ord5) (o : Ord5) : onSide side (l ++ [o]) = onSide side l ++ if (o.side == side) = true then [o] else [] := by
  unfold onSide
  rw [List.filter_append]
  cases h : o.side == side <;> simp [h]
theorem onSide_len (side : Int) (l : List Ord5) : (onSide side l).length ≤ l.length := List.length_filter_le _ _
/-- a side of the document's book -/
def rsideL (side : Int) (l : List Ord5) : List Ord5 := stabL (rankO side) (onSide side l)

set_option maxRecDepth 100000 in
set_option maxHeartbeats 4000000 in
theorem rside_any (w : World) (B o0 : Nat) (A0 : Option Addr) (n0 c0 : Nat) (L : List Ord5) (side : Int) (h0 : w.cell? ⟨B, o0, none⟩ = some (.slice A0 n0 c0)) (hE : ElemsAt w encO 5 A0 n0 L) (hn : n0 ≤ 100000) (hp : ∀ o ∈ onSide side L, -1000000000 ≤ o.price ∧ o.price ≤ 1000000000) :
    Calls Tryz.prog 40 #[.pointer (some ⟨B, o0, none⟩), .int .i64 side] w fun e w' => Below w.heap.size w w' ∧ ∃ A' c', e = .returned (.slice A' (rsideL side L).length c') ∧ RowAt w' A' (rsideL side L).length c' 24 5 (flat encO (rsideL side L)) ∧ ∀ g, blkOf A' = some g → w.heap.size ≤ g := by
  have hBl : B < w.heap.size := World.block_lt_of_cell? w _ h0
  have HE := hid hE
  have HP := hid hp
  have hl := hE.1
  have HL := hid hl
  have hmf : ∀ w, (Instr.makeFunc (Fn.func 93) #[] #[.pointer (some ⟨w.heap.size, 0, none⟩)]).run Tryz.prog w = .ok (.func (.func 93) #[] #[.pointer (some ⟨w.heap.size, 0, none⟩)]) w := fun _ => rfl
  obtain ⟨i0, hi0, hz0, hz1, hz2⟩ := info_parts ref_ord_info
  clear hE hp hl hmf
  go_enter Tryz.func40, Tryz.ntmps40
  go_wp2_with fail
  go_loopg [14] n0 (fun gg s14 wx => ∃ (k n9 c9 : Nat) (A9 : Option Addr), k ≤ n0 ∧ gg = n0 - k ∧ s14 = .int .i64 k ∧ Below w.heap.size w wx ∧ Blk wx w.heap.size 3 #[.int .i64 side] ∧ Blk wx (w.heap.size + 1) 22 #[.slice A9 n9 c9] ∧ RowAt wx A9 n9 c9 24 5 (flat encO (onSide side (L.take k))) ∧ ∀ g, blkOf A9 = some g → w.heap.size + 1 < g)
  case atStart =>
    refine ⟨0, 0, 0, none, Nat.zero_le _, rfl, rfl, ((Below.refl _ w).alloc (Nat.le_refl _) _).alloc (by simp) _, Blk.alloc (Blk.new w _ _) _, ?_, World.ownsRow_nil _ _ _ _, by simp [blkOf]⟩
    have h := Blk.new (w.alloc (.cells #[.int .i64 side] 3)) 22 #[.slice none 0 0]
    simpa using h
  case round =>
    obtain ⟨k, n9, c9, A9, hk, rfl, rfl, hB, hbs, hbo, hR, hup⟩ := hrel
    have HB := hid hB
    have HBs := hid hbs
    have HBo := hid hbo
    have HR := hid hR
    have HUp := hid hup
    have c1 : wr.cell? ⟨w.heap.size, 0, none⟩ = some (.int .i64 side) := by rw [Blk.cell hbs]; rfl
    have c2 : wr.cell? ⟨w.heap.size + 1, 0, none⟩ = some (.slice A9 n9 c9) := by rw [Blk.cell hbo]; rfl
    have hszb : w.heap.size + 1 < wr.heap.size := Blk.lt hbo
    have hsz0 : w.heap.size < wr.heap.size := Blk.lt hbs
    have hl9 : n9 ≤ 100000 := by
      have h1 := row_length encO_length (by omega) hR
      have h2 := onSide_len side (L.take k)
      rw [List.length_take] at h2
      omega
    clear hB hbs hbo hR hup
    by_cases hlt : k < n0
    · have hltz : (k : Int) < (n0 : Int) := by omega
      have hk0 : (0 : Int) ≤ (k : Int) := by omega
      have hkl : k < L.length := by have := HL.out; omega
      obtain ⟨b, off, hA⟩ : ∃ b off, A0 = some ⟨b, off, none⟩ := by obtain ⟨b, off, h1, _⟩ := HE.out.2 (by omega); exact ⟨b, off, h1⟩
      subst hA
      obtain ⟨x0, x1, x2, x3, x4⟩ := ord_at (HE.out.below HB.out (Nat.le_refl _)) hkl
      have HTk := hid (List.take_succ_eq_append_getElem hkl)
      obtain ⟨o, EO⟩ : ∃ o, Hid (L[k] = o) := ⟨_, hid rfl⟩
      rw [EO.out] at x0 x1 x2 x3 x4 HTk
      have HSn := hid (onSide_snoc side (L.take k) o)
      rw [← HTk.out] at HSn
      have hb1 : Below wr.heap.size wr (wr.alloc (.cells (boxO o) 24)) := (Below.refl _ _).alloc (Nat.le_refl _) _
      have HB1 := hid hb1
      clear hb1
      by_cases hs : o.side = side
      · have d1 := beqT hs
        have HS1 := hid (show onSide side (L.take (k + 1)) = onSide side (L.take k) ++ [o] by rw [HSn.out, if_pos (beqT hs)])
        have hO := HR.out.below (HB1.out.trans (((Below.refl _ _).alloc (Nat.le_refl _) (.cells (boxO o) 24)).mono HB1.out.size))
        have HO := hid (show World.ownsRow ((wr.alloc (.cells (boxO o) 24)).alloc (.cells (boxO o) 24)) 0 24 5 (.slice A9 n9 c9) n9 (flat encO (onSide side (L.take k))) from hO)
        have hNw := heap_alloc_new (wr.alloc (.cells (boxO o) 24)) (.cells (boxO o) 24)
        rw [show (wr.alloc (.cells (boxO o) 24)).heap.size = wr.heap.size + 1 by simp] at hNw
        have HNw := hid hNw
        clear hNw
        have hbo3 := (Blk.keep (Blk.keep HBo.out HB1.out) ((Below.refl (wr.alloc (.cells (boxO o) 24)).heap.size _).alloc (Nat.le_refl _) (.cells (boxO o) 24)))
        have HBo3 := hid hbo3
        have hne : some (w.heap.size + 1) ≠ (Value.slice A9 n9 c9).ownBlock := by rw [own_slice]; intro e; have := HUp.out _ e.symm; omega
        have hne0 : some w.heap.size ≠ (Value.slice A9 n9 c9).ownBlock := by rw [own_slice]; intro e; have := HUp.out _ e.symm; omega
        have Hne0 := hid hne0
        have Hne := hid hne
        clear hs hO hbo3 hne hne0
        unfold boxO at HO HNw HBo3
        go_wp2_with (at_builtin; (refine wpList_append_lies _ rfl _ _ 22 rfl 0 24 i0 _ 5 40 Tryz.underlying22 hi0 hz0 hz1 hz2 rfl (by omega) (.slice A9 n9 c9) n9 _ rfl HO.out ⟨wr.heap.size + 1, 0, none⟩ 1 1 (encO o) rfl rfl (World.news_of_block (cs := (encO o).toArray) (t := 24) (fr := (0, 0)) HNw.out) (encO_one _) (by omega) (by unfold maxLen; omega) (by omega) (by simp) (wr.heap.size + 2) (by simp) ?_); intro gg cap w3 hown hgrow hat hlt3; have b3 := Blk.grown HBo3.out hgrow Hne.out; have r0 : w3.cell? ⟨w.heap.size + 1, 0, none⟩ = some (.slice A9 n9 c9) := (by rw [Blk.cell b3]; rfl); have rf0 := Blk.frozen b3 0; have HB3 := hid b3; have HOw := hid hown; have HGr := hid hgrow; have HAt := hid hat; clear hown hgrow hat b3)
        go_roundg (n0 - (k + 1))
        case measure => omega
        case rel =>
          have hgr := HGr.out
          rw [own_slice] at hgr
          have hn0 := Hne0.out
          rw [own_slice] at hn0
          have hat := HAt.out
          rw [own_slice] at hat
          have hbs3 := Blk.grown (Blk.keep (Blk.keep HBs.out HB1.out) ((Below.refl (wr.alloc (.cells (boxO o) 24)).heap.size _).alloc (Nat.le_refl _) (.cells (boxO o) 24))) hgr hn0
          have hgg : w.heap.size + 1 < gg := by
            rcases hat with h1 | h1
            · exact HUp.out _ h1
            · show w.heap.size + 1 < gg; omega
          have hb3 : Below w.heap.size w w3 := (((HB.out.trans (HB1.out.mono HB.out.size)).alloc (by have := HB1.out.size; omega) (.cells (boxO o) 24))).grown hgr (by have := HB1.out.size; simp; omega) (fun x hx => by have := HUp.out x hx; omega)
          refine ⟨k + 1, n9 + 1, cap, some ⟨gg, 0, none⟩, by omega, rfl, by go_num, hb3.setCell (by show w.heap.size ≤ w.heap.size + 1; omega) _, Blk.far hbs3 (by show w.heap.size ≠ w.heap.size + 1; omega) _, ?_, ?_, fun g hg => by cases hg; exact hgg⟩
          · exact Blk.set_ HB3.out 0 _
          · rw [HS1.out, flat_snoc]
            exact RowAt.keeps (xs := flat encO (onSide side (L.take k)) ++ encO o) HOw.out (Keeps.set_ w3 ⟨w.heap.size + 1, 0, none⟩ _) (fun g hg e => by cases hg; have e : gg = w.heap.size + 1 := e; omega)
      · have d1 := beqF hs
        have HS1 := hid (show onSide side (L.take (k + 1)) = onSide side (L.take k) by rw [HSn.out, if_neg (by rw [beqF hs]; simp), List.append_nil])
        clear hs
        go_wp2_with fail
        go_roundg (n0 - (k + 1))
        case measure => omega
        case rel => exact ⟨k + 1, n9, c9, A9, by omega, rfl, by go_num, HB.out.trans (HB1.out.mono HB.out.size), Blk.keep HBs.out HB1.out, Blk.keep HBo.out HB1.out, by rw [HS1.out]; exact HR.out.below HB1.out, HUp.out⟩
    · obtain rfl : n0 = k := by omega
      have hltz : ¬ (n0 : Int) < (n0 : Int) := by omega
      have etk : L.take n0 = L := List.take_of_length_le (by rw [HL.out]; exact Nat.le_refl _)
      have hRr := HR.out
      rw [etk] at hRr
      have hal : Below wr.heap.size wr (wr.alloc (.cells #[.func (.func 93) #[] #[.pointer (some ⟨w.heap.size, 0, none⟩)]] 141)) := (Below.refl _ _).alloc (Nat.le_refl _) _
      have hso := sortOrders_any (wr.alloc (.cells #[.func (.func 93) #[] #[.pointer (some ⟨w.heap.size, 0, none⟩)]] 141)) w.heap.size (w.heap.size + 1) wr.heap.size c9 n9 A9 side (onSide side L) (by omega) (hRr.below hal) HP.out ((hal.cell (p := ⟨w.heap.size + 1, 0, none⟩) hszb).trans c2) (by rw [Blk.cell (Blk.new wr _ _)]; rfl) ((hal.cell (p := ⟨w.heap.size, 0, none⟩) hsz0).trans c1) (fun g hg => ⟨by have := HUp.out g hg; omega, by have := hRr.lt hg; omega, by have := HUp.out g hg; omega⟩)
      have hln : n9 = (rsideL side L).length := by
        have h1 := row_length encO_length (by omega) hRr
        have h2 := stabL_length (rankO side) (onSide side L)
        unfold rsideL
        omega
      have HSo := hid hso
      have HAl := hid hal
      have HLn := hid hln
      have hm1 : ∀ w0 : World, (Instr.makeFunc (Fn.func 93) #[] #[.pointer (some ⟨w.heap.size, 0, none⟩)]).run Tryz.prog w0 = .ok (.func (.func 93) #[] #[.pointer (some ⟨w.heap.size, 0, none⟩)]) w0 := fun _ => rfl
      have hm2 : ∀ w0 : World, (Instr.makeFunc (Fn.func 95) #[] #[.pointer (some ⟨wr.heap.size, 0, none⟩), .pointer (some ⟨w.heap.size + 1, 0, none⟩)]).run Tryz.prog w0 = .ok (.func (.func 95) #[] #[.pointer (some ⟨wr.heap.size, 0, none⟩), .pointer (some ⟨w.heap.size + 1, 0, none⟩)]) w0 := fun _ => rfl
      clear hso hal hln hRr etk
      go_wp2_with fail
      refine HSo.out.mono ?_
      rintro e w3 ⟨rfl, hr3, hk3⟩
      have hc3 : w3.cell? ⟨w.heap.size + 1, 0, none⟩ = some (.slice A9 n9 c9) := (hk3.cell (p := ⟨w.heap.size + 1, 0, none⟩) (by simp; omega) (fun e => by have := HUp.out _ e; have : w.heap.size + 1 < w.heap.size + 1 := this; omega)).trans ((HAl.out.cell (p := ⟨w.heap.size + 1, 0, none⟩) hszb).trans c2)
      have HR3 := hid hr3
      have HK3 := hid hk3
      clear hr3 hk3
      go_wp2_with fail
      refine bodyPost_ret (results_tmp rfl _ _ _) rfl ?_
      refine ⟨?_, A9, c9, ?_, ?_, fun g hg => by have := HUp.out g hg; omega⟩
      · exact (HB.out.trans (HAl.out.mono HB.out.size)).trans (HK3.out.below (fun i e => by have := HUp.out i e; omega) (by have := HB.out.size; simp; omega))
      · rw [← HLn.out]; rfl
      · rw [← HLn.out]; exact HR3.out
end Go.Proofs.YtkcgchpbjegneaaGreatDoor
namespace Go.Proofs.YtkcgchpbjegneaaGreatDoor
open Go.RowKit
set_option linter.unusedVariables false

theorem RowAt.made (w : World) (t : TypeId) (sz : Nat) : RowAt (w.alloc (.cells #[] t)) (some ⟨w.heap.size, 0, none⟩) 0 0 t sz [] :=
  ⟨by simp, .inr ⟨w.heap.size, 0, #[], rfl, Nat.zero_le _, heap_alloc_new w _, Nat.le_refl _, Nat.zero_le _, by simp, by simp⟩⟩
section
variable {P : Program} {α : Type} {enc : α → List Value} {k : Nat} {w : World}
theorem run_append_any (hk : ∀ x, (enc x).length = k) (hone : ∀ x, ∀ u ∈ enc x, u.oneCell' = true) (t ty e : TypeId) (i : TypeInfo) (z : Value) (bytes : Nat) (ht : P.underlying t = some (.slice e)) (hi : P.info? e = some i) (hz : i.zero = some z)
    (hsize : i.size = k) (hby : i.bytes = bytes) (hzs : z.cells.size = k) (hk0 : 0 < k)
    (Av : Option Addr) (n cv : Nat) (xs : List Value) (hown : RowAt w Av n cv e k xs) (A : Option Addr) (m c : Nat) (L : List α) (hE : ElemsAt w enc k A m L) (h63 : n + m ≤ maxLen) (hbytes : (n + m) * bytes ≤ 140737488355328) :
    ∃ A' c' w', (Builtin.append_ #[t, t] ty #[.slice Av n cv, .slice A m c]).run P w = .ok (.slice A' (n + m) c') w' ∧ RowAt w' A' (n + m) c' e k (xs ++ flat enc L) ∧ w.grownBy w' (blkOf Av) ∧ ∀ g, blkOf A' = some g → blkOf Av = some g ∨ g = w.heap.size := by
  cases A with
  | none =>
    have hm : m = 0 := by
      rcases Nat.eq_zero_or_pos m with h | h
      · exact h
      · obtain ⟨b, off, h1, -⟩ := hE.2 h
        cases h1
    subst hm
    have hL : L = [] := List.eq_nil_of_length_eq_zero hE.1
    subst hL
    have hr : (Builtin.append_ #[t, t] ty #[.slice Av n cv, .slice none 0 c]).run P w = .ok (.slice Av n cv) w := by
      rcases hown.2 with ⟨h1, h2⟩ | ⟨g, cap, cur, hv, -, hb, hn, hc, hs, -⟩
      · cases h1
        have hs := Src.ofNil (size := i.size) w ht c
        simp [Builtin.append_, run_underlying ht, sizeOf, typeInfo, hi, hs.len, hs.cells]
      · cases hv
        have h := run_append_room_src (P := P) (w := w) t t ty e i ht hi g 0 n cv (.slice none 0 c) 0 [] (Src.ofNil w ht c) hn (by simp) (by simp)
        exact h
    exact ⟨Av, cv, w, hr, by simpa [flat] using hown, ⟨rfl, rfl, rfl, Nat.le_refl _, fun _ _ _ => rfl⟩, fun g hg => .inl hg⟩
  | some ad =>
    have hnews : ∀ j u, (flat enc L)[j]? = some u → w.cell? (ad.add j) = some u := by
      rcases Nat.eq_zero_or_pos m with h | h
      · have hL : L = [] := List.eq_nil_of_length_eq_zero (by have := hE.1; omega)
        subst hL
        intro j u hu
        simp [flat] at hu
      · obtain ⟨b, off, h1, -⟩ := hE.2 h
        cases h1
        exact ElemsAt.news hk hE
    have hone2 : ∀ u ∈ flat enc L, u.oneCell' = true := by
      intro u hu
      unfold flat at hu
      simp at hu
      obtain ⟨x, -, hx⟩ := hu
      exact hone x u hx
    obtain ⟨v', w', hr, h2, h3, h4, h5⟩ := run_append_own_at (P := P) w 0 t ty e i z k bytes ht hi hz hsize hby hzs hk0 (.slice Av n cv) n xs hown ad m c (flat enc L) (by rw [flat_length hk, hE.1]) hnews hone2 h63 hbytes (Nat.zero_le _)
    rw [own_slice] at h3 h5
    rcases h2.2 with ⟨rfl, hz0⟩ | ⟨g, cap, cur, rfl, hrest⟩
    · refine ⟨none, 0, w', by rw [hz0]; exact hr, by rw [hz0] at h2; rw [hz0]; exact h2, h3, by simp [blkOf]⟩
    · refine ⟨some ⟨g, 0, none⟩, cap, w', hr, h2, h3, fun g' hg' => ?_⟩
      rcases h5 with h5 | h5
      · left; rw [← h5]; exact hg'
      · right
        have h6 : some g' = some w.heap.size := by rw [← h5]; exact hg'.symm
        exact Option.some.inj h6
/-- at the operation -/
theorem wp_append_any (hk : ∀ x, (enc x).length = k) (hone : ∀ x, ∀ u ∈ enc x, u.oneCell' = true) {o : Oper} {a : Act} {K : Act → World → Prop} {Q : Exit → Act → World → Prop} (s x : Operand) (t : TypeId)
    (ho : o.op = .call { callee := .builtin .append, args := #[s, x], argTypes := #[t, t] })
    (e : TypeId) (i : TypeInfo) (z : Value) (bytes : Nat) (ht : P.underlying t = some (.slice e)) (hi : P.info? e = some i) (hz : i.zero = some z)
    (hsize : i.size = k) (hby : i.bytes = bytes) (hzs : z.cells.size = k) (hk0 : 0 < k)
    (Av : Option Addr) (n cv : Nat) (xs : List Value) (hs : a.eval s = .slice Av n cv) (hown : RowAt w Av n cv e k xs) (A : Option Addr) (m c : Nat) (L : List α) (hx : a.eval x = .slice A m c) (hE : ElemsAt w enc k A m L) (h63 : n + m ≤ maxLen) (hbytes : (n + m) * bytes ≤ 140737488355328)
    (h : ∀ A' c' w', RowAt w' A' (n + m) c' e k (xs ++ flat enc L) → w.grownBy w' (blkOf Av) → (∀ g, blkOf A' = some g → blkOf Av = some g ∨ g = w.heap.size) → K (a.put o.dst (.slice A' (n + m) c')) w') : o.wp P a w K Q := by
  obtain ⟨A', c', w', hr, h2, h3, h4⟩ := run_append_any (P := P) hk hone t o.type e i z bytes ht hi hz hsize hby hzs hk0 Av n cv xs hown A m c L hE h63 hbytes
  unfold Oper.wp execOp
  simp only [ho, resolve, invoke, builtin, Sem.run_bind, Sem.run_pure, Result.andThen_ok, List.map_toArray, List.map_cons, List.map_nil, hs, hx, hr]
  exact h A' c' w' h2 h3 h4
theorem wpList_append_any (hk : ∀ x, (enc x).length = k) (hone : ∀ x, ∀ u ∈ enc x, u.oneCell' = true) {ops : Array Oper} {rest : List Oper} {o : Oper} {a : Act} {Q : Exit → Act → World → Prop} (hgd : o.guard = none) (s x : Operand) (t : TypeId)
    (ho : o.op = .call { callee := .builtin .append, args := #[s, x], argTypes := #[t, t] })
    (e : TypeId) (i : TypeInfo) (z : Value) (bytes : Nat) (ht : P.underlying t = some (.slice e)) (hi : P.info? e = some i) (hz : i.zero = some z)
    (hsize : i.size = k) (hby : i.bytes = bytes) (hzs : z.cells.size = k) (hk0 : 0 < k)
    (Av : Option Addr) (n cv : Nat) (xs : List Value) (hs : a.eval s = .slice Av n cv) (hown : RowAt w Av n cv e k xs) (A : Option Addr) (m c : Nat) (L : List α) (hx : a.eval x = .slice A m c) (hE : ElemsAt w enc k A m L) (h63 : n + m ≤ maxLen) (hbytes : (n + m) * bytes ≤ 140737488355328)
    (h : ∀ A' c' w', RowAt w' A' (n + m) c' e k (xs ++ flat enc L) → w.grownBy w' (blkOf Av) → (∀ g, blkOf A' = some g → blkOf Av = some g ∨ g = w.heap.size) → wpList P ops Q rest (a.put o.dst (.slice A' (n + m) c')) w') : wpList P ops Q (o :: rest) a w :=
  wpList_plain hgd fun _ hK => wp_append_any hk hone s x t ho e i z bytes ht hi hz hsize hby hzs hk0 Av n cv xs hs hown A m c L hx hE h63 hbytes fun A' c' w' h2 h3 h4 => hK _ _ (h A' c' w' h2 h3 h4)
theorem step_append_any (hk : ∀ x, (enc x).length = k) (hone : ∀ x, ∀ u ∈ enc x, u.oneCell' = true) {ops : Array Oper} {o : Oper} {a : Act} {K : Act → World → Prop} {Q : Exit → Act → World → Prop} {E : Prop} (hgd : o.guard = none) (s x : Operand) (t : TypeId)
    (ho : o.op = .call { callee := .builtin .append, args := #[s, x], argTypes := #[t, t] })
    (e : TypeId) (i : TypeInfo) (z : Value) (bytes : Nat) (ht : P.underlying t = some (.slice e)) (hi : P.info? e = some i) (hz : i.zero = some z)
    (hsize : i.size = k) (hby : i.bytes = bytes) (hzs : z.cells.size = k) (hk0 : 0 < k)
    (Av : Option Addr) (n cv : Nat) (xs : List Value) (hs : a.eval s = .slice Av n cv) (hown : RowAt w Av n cv e k xs) (A : Option Addr) (m c : Nat) (L : List α) (hx : a.eval x = .slice A m c) (hE : ElemsAt w enc k A m L) (h63 : n + m ≤ maxLen) (hbytes : (n + m) * bytes ≤ 140737488355328)
    (h : ∀ A' c' w', RowAt w' A' (n + m) c' e k (xs ++ flat enc L) → w.grownBy w' (blkOf Av) → (∀ g, blkOf A' = some g → blkOf Av = some g ∨ g = w.heap.size) → K (a.put o.dst (.slice A' (n + m) c')) w') :
    if Region.wanted o (yielded ops a.tmps) = true then Oper.wp P o a w K Q else E := by
  have hw : Region.wanted o (yielded ops a.tmps) = true := by simp [Region.wanted, hgd]
  rw [if_pos hw]
  exact wp_append_any hk hone s x t ho e i z bytes ht hi hz hsize hby hzs hk0 Av n cv xs hs hown A m c L hx hE h63 hbytes h
/-- two that may come up, none of them t -/
theorem wpAnyT_two {md : Region.Mode} {S : World → Prop} {t : Nat} {Q : Exit → Act → World → Prop} {l r1 r2 : List Oper} (i j : Nat) {o1 o2 : Oper} {fuel : Nat} {listed : Array Bool} {a : Act} {w : World} (hr : Region.ready md l.toArray listed = [i, j]) (ho1 : l.drop i = o1 :: r1) (ho2 : l.drop j = o2 :: r2)
    (h1 : ∀ K' : Act → World → Prop, (∀ a w, S w → (S w → wpAnyT P md l.toArray Q S t fuel (listed.setIfInBounds i true) a w) → K' a w) → if Region.wanted o1 (yielded l.toArray a.tmps) = true then Oper.wp P o1 a w K' Q else K' (a.put o1.dst undef) w)
    (h2 : ∀ K' : Act → World → Prop, (∀ a w, S w → (S w → wpAnyT P md l.toArray Q S t fuel (listed.setIfInBounds j true) a w) → K' a w) → if Region.wanted o2 (yielded l.toArray a.tmps) = true then Oper.wp P o2 a w K' Q else K' (a.put o2.dst undef) w) : wpAnyT P md l.toArray Q S t (fuel + 1) listed a w :=
  wpAnyT_all hr (by simp) (fun u hu => by
    rcases List.mem_cons.1 hu with rfl | hu
    · exact wpOp_step (at_drop ho1) fun K' hK => h1 K' (fun a w hS hw => hK a w ⟨fun _ => hS, hw hS⟩)
    · rw [List.mem_singleton] at hu
      subst hu
      exact wpOp_step (at_drop ho2) fun K' hK => h2 K' (fun a w hS hw => hK a w ⟨fun _ => hS, hw hS⟩))
end
end Go.Proofs.YtkcgchpbjegneaaGreatDoor
namespace Go.Proofs.YtkcgchpbjegneaaGreatDoor
open Go.RowKit
set_option linter.unusedVariables false
set_option linter.unusedSimpArgs false

/-- the document's book: a slice in a cell of block B, its orders elsewhere -/
structure RefB (w : World) (B : Nat) (t : TypeId) (cs : Array Value) (o0 : Nat) (A : Option Addr) (L : List Ord5) : Prop where
  blk : Blk w B t cs
  at_ : ∃ c, cs[o0]? = some (.slice A L.length c) ∧ L.length ≤ c ∧ c ≤ maxLen
  els : ElemsAt w encO 5 A L.length L
  ne : blkOf A ≠ some B
  lt : ∀ g, blkOf A = some g → g < w.heap.size
/-- what became of it -/
def RefTo (w w' : World) (B : Nat) (t : TypeId) (cs : Array Value) (o0 : Nat) (A : Option Addr) (L : List Ord5) : Prop :=
  ∃ A' c', RefB w' B t (cs.setIfInBounds o0 (.slice A' L.length c')) o0 A' L ∧ Keeps (fun i => i = B) w w' ∧ ∀ g, blkOf A' = some g → blkOf A = some g ∨ w.heap.size ≤ g
section
variable {w w' : World} {B : Nat} {t : TypeId} {cs : Array Value} {o0 : Nat} {A : Option Addr} {L : List Ord5}
theorem RefB.below (h : RefB w B t cs o0 A L) (hb : Below w.heap.size w w') : RefB w' B t cs o0 A L :=
  ⟨Blk.keep h.blk hb, h.at_, h.els.below hb (Nat.le_refl _), h.ne, fun g hg => Nat.lt_of_lt_of_le (h.lt g hg) hb.size⟩
theorem RefB.keeps {S : Nat → Prop} (h : RefB w B t cs o0 A L) (hk : Keeps S w w') (h1 : ¬ S B) (h2 : ∀ g, blkOf A = some g → ¬ S g) : RefB w' B t cs o0 A L :=
  ⟨Blk.keeps h.blk hk h1, h.at_, h.els.keeps hk h2, h.ne, fun g hg => Nat.lt_of_lt_of_le (h.lt g hg) hk.size⟩
theorem arr_set_same {cs : Array Value} {o : Nat} {v : Value} (h : cs[o]? = some v) : cs.setIfInBounds o v = cs := by
  apply Array.ext'
  rw [Array.toList_setIfInBounds]
  obtain ⟨hlt, he⟩ := Array.getElem?_eq_some_iff.1 h
  rw [← he, ← Array.getElem_toList]
  exact List.set_getElem_self _
theorem RefTo.same (h : RefB w B t cs o0 A L) (hb : Below w.heap.size w w') : RefTo w w' B t cs o0 A L := by
  obtain ⟨c, hc, -⟩ := h.at_
  exact ⟨A, c, by rw [arr_set_same hc]; exact h.below hb, Keeps.of_below hb _, fun g hg => .inl hg⟩
theorem RefB.cell (h : RefB w B t cs o0 A L) : ∃ c, w.cell? ⟨B, o0, none⟩ = some (.slice A L.length c) ∧ L.length ≤ c ∧ c ≤ maxLen := by
  obtain ⟨c, hc, h1⟩ := h.at_
  exact ⟨c, by rw [Blk.cell h.blk]; exact hc, h1⟩
theorem RefB.blt (h : RefB w B t cs o0 A L) : B < w.heap.size := Blk.lt h.blk
theorem RowAt.le_cap {w : World} {A : Option Addr} {n c sz : Nat} {t : TypeId} {xs : List Value} (h : RowAt w A n c t sz xs) : n ≤ c ∧ c ≤ maxLen := by
  rcases h.2 with ⟨h1, h2⟩ | ⟨g, cap, cur, hv, -, -, hn, hc, -, -⟩
  · cases h1; exact ⟨by omega, by unfold maxLen; omega⟩
  · cases hv; exact ⟨hn, hc⟩
/-- a new slice is written -/
theorem RefB.put (h : RefB w B t cs o0 A L) {w1 : World} (hb : Below w.heap.size w w1) {A' : Option Addr} {n' c' : Nat} {L' : List Ord5} {t' : TypeId} (hr : RowAt w1 A' n' c' t' 5 (flat encO L')) (hA : ∀ g, blkOf A' = some g → w.heap.size ≤ g) :
    RefTo w (w1.setCell ⟨B, o0, none⟩ (.slice A' n' c')) B t cs o0 A L' := by
  have hl : L'.length = n' := row_length encO_length (by omega) hr
  subst hl
  have hB := h.blt
  have hne : ∀ g, blkOf A' = some g → g ≠ B := fun g hg => by have := hA g hg; omega
  have hr2 : RowAt (w1.setCell ⟨B, o0, none⟩ (.slice A' L'.length c')) A' L'.length c' t' 5 (flat encO L') := RowAt.keeps hr (Keeps.set_ w1 ⟨B, o0, none⟩ _) (fun g hg e => hne g hg e)
  obtain ⟨c, hc, -⟩ := h.at_
  have ho : o0 < cs.size := (Array.getElem?_eq_some_iff.1 hc).1
  refine ⟨A', c', ⟨Blk.set_ (Blk.keep h.blk hb) o0 _, ⟨c', by simp [ho], RowAt.le_cap hr⟩, ElemsAt.of_row encO_length (by omega) hr2, fun e => hne B e rfl, fun g hg => ?_⟩, (Keeps.of_below hb _).trans (Keeps.set_ w1 ⟨B, o0, none⟩ _) (fun i e => .inl e), fun g hg => .inr (hA g hg)⟩
  have := hr.lt hg
  simpa using this
end

/-! ### index -/
def idxI (L : List Ord5) (id : Int) : Int := if L.findIdx (fun o => o.id == id) < L.length then (L.findIdx (fun o => o.id == id) : Int) else -1
theorem idx_of {L : List Ord5} {id : Int} {k : Nat} (hk : k < L.length) (h1 : L[k].id = id) (h2 : ∀ j (hj : j < L.length), j < k → L[j].id ≠ id) : L.findIdx (fun o => o.id == id) = k := by
  have h : L.findIdx (fun o => o.id == id) = k := (List.findIdx_eq hk).2 ⟨by simp [h1], fun j hj => by simpa using h2 j (by omega) hj⟩
  exact h
theorem idx_none {L : List Ord5} {id : Int} (h : ∀ j (hj : j < L.length), L[j].id ≠ id) : L.findIdx (fun o => o.id == id) = L.length := by
  rw [List.findIdx_eq_length]
  intro o ho
  obtain ⟨j, hj, rfl⟩ := List.mem_iff_getElem.1 ho
  simpa using h j hj

set_option maxRecDepth 100000 in
set_option maxHeartbeats 1000000 in
theorem index_any (w : World) (B : Nat) (t : TypeId) (cs : Array Value) (o0 : Nat) (A : Option Addr) (L : List Ord5) (h : RefB w B t cs o0 A L) (hn : L.length ≤ 100000) (id : Int) :
    Calls Tryz.prog 44 #[.pointer (some ⟨B, o0, none⟩), .int .i64 id] w fun e w' => e = .returned (.int .i64 (idxI L id)) ∧ Below w.heap.size w w' := by
  obtain ⟨c, hc, -⟩ := h.cell
  obtain ⟨n, hnl⟩ : ∃ n, L.length = n := ⟨_, rfl⟩
  have HE := hid h.els
  rw [hnl] at hc HE
  have HN := hid hnl
  have hn1 : n ≤ 100000 := by omega
  clear h hn hnl
  go_enter Tryz.func44, Tryz.ntmps44
  go_wp2_with fail
  go_loopg [12] n (fun gg s12 wx => ∃ k : Nat, k ≤ n ∧ gg = n - k ∧ s12 = .int .i64 k ∧ Below w.heap.size w wx ∧ Hid (∀ j (hj : j < L.length), j < k → L[j].id ≠ id))
  case atStart => exact ⟨0, Nat.zero_le _, rfl, rfl, Below.refl _ _, hid fun j hj h => absurd h (by omega)⟩
  case round =>
    obtain ⟨k, hk, rfl, rfl, hB, HI⟩ := hrel
    by_cases hlt : k < n
    · have hkl : k < L.length := by have := HN.out; omega
      obtain ⟨b, off, hA⟩ : ∃ b off, A = some ⟨b, off, none⟩ := by obtain ⟨b, off, h1, _⟩ := HE.out.2 (by omega); exact ⟨b, off, h1⟩
      subst hA
      obtain ⟨x0, x1, x2, x3, x4⟩ := ord_at (HE.out.below hB (Nat.le_refl _)) hkl
      have hltz : (k : Int) < (n : Int) := by omega
      have hk0 : (0 : Int) ≤ (k : Int) := by omega
      obtain ⟨o, EO⟩ : ∃ o, Hid (L[k] = o) := ⟨_, hid rfl⟩
      rw [EO.out] at x0 x1 x2 x3 x4
      have HB := hid (hB.alloc hB.size (.cells (boxO o) 24))
      clear hB
      by_cases he : o.id = id
      · have d1 := beqT he
        have HR : Hid (idxI L id = k) := hid (by
          have e := idx_of hkl (by rw [EO.out]; exact he) HI.out
          unfold idxI
          rw [e, if_pos hkl])
        clear he
        go_wp2_with fail
        go_ret
        exact ⟨ret_int (by rw [HR.out]), HB.out⟩
      · have d1 := beqF he
        have HI2 : Hid (∀ j (hj : j < L.length), j < k + 1 → L[j].id ≠ id) := hid (fun j hj hjk => by
          by_cases e : j = k
          · subst e; rw [EO.out]; exact he
          · exact HI.out j hj (by omega))
        clear he
        go_wp2_with fail
        go_roundg (n - (k + 1))
        case measure => omega
        case rel => exact ⟨k + 1, by omega, rfl, by go_num, HB.out, HI2⟩
    · obtain rfl : n = k := by omega
      have hltz : ¬ (n : Int) < (n : Int) := by omega
      have HB := hid hB
      have HR : Hid (idxI L id = -1) := hid (by
        have e := idx_none (L := L) (id := id) (fun j hj => HI.out j hj (by have := HN.out; omega))
        unfold idxI
        rw [e, if_neg (by omega)])
      clear hB
      go_wp2_with fail
      go_ret
      exact ⟨ret_int (by rw [HR.out]), HB.out⟩
/-- what index tells -/
theorem idxI_cases (L : List Ord5) (id : Int) : (idxI L id = -1 ∧ getI L id = none) ∨ ∃ (k : Nat) (hk : k < L.length), idxI L id = k ∧ L.findIdx (fun o => o.id == id) = k ∧ L[k].id = id ∧ getI L id = some L[k] := by
  unfold idxI getI
  by_cases h : L.findIdx (fun o => o.id == id) < L.length
  · right
    refine ⟨_, h, if_pos h, rfl, ?_, ?_⟩
    · have := List.findIdx_getElem (xs := L) (p := fun o => o.id == id) (w := h)
      simpa using this
    · rw [List.find?_eq_getElem?_findIdx]
      exact List.getElem?_eq_getElem h
  · left
    refine ⟨if_neg h, ?_⟩
    rw [List.find?_eq_getElem?_findIdx]
    exact List.getElem?_eq_none (by omega)

/-! ### Order -/
theorem results_row_tmp {P : Program} {fn : Func} {p u : Tmp} {ty : TypeId} (h : fn.results = #[.cell p ty, .tmp u]) (tmps : Array Value) (w : World) (g : Nat) (t : TypeId) (cs : Array Value) (v : Value) (fr : Nat × Nat) (d : TypeDesc)
    (hp : tmps.getD p undef = .pointer (some ⟨g, 0, none⟩)) (hq : tmps.getD u undef = v) (hg : w.heap[g]? = some (.cells cs t fr))
    (hu : P.underlying ty = some d) (hd : (match d with | .struct _ | .array _ _ => true | _ => false) = true) (hi : (P.info? ty).map (·.size) = some cs.size) : (results fn tmps).run P w = .ok (.tuple #[.agg cs, v]) w := by
  have hp' : tmps[p]?.getD undef = .pointer (some ⟨g, 0, none⟩) := by simpa using hp
  have hq' : tmps[u]?.getD undef = v := by simpa using hq
  simp [results, h, hp', hq', asAddr, run_loadVar_row w g t ty cs fr d hg hu hd hi, Sem.run_bind, Result.andThen]
theorem ref_ret2 {fn : Func} (hf : fn.results = #[.cell 4 24, .tmp 5]) {w : World} {a : Act} {Q : Ending → World → Prop} {cs : Array Value} {v : Value} (g : Nat) (hs : cs.size = 5) (hp : a.tmps.getD 4 undef = .pointer (some ⟨g, 0, none⟩)) (h5 : a.tmps.getD 5 undef = v) (hd : a.defers = [])
    (hg : Blk w g 24 cs) (h : Q (.returned (.tuple #[.agg cs, v])) w) : bodyPost Tryz.prog fn Q .ret a w :=
  bodyPost_ret (results_row_tmp hf a.tmps w g 24 cs v (0, 0) _ hp h5 hg Tryz.underlying24 rfl (by rw [hs]; show (Tryz.prog.info? 24).map (·.size) = some 5; kernel_rfl)) hd h
def roE (L : List Ord5) (id : Int) : Int := if (getI L id).isSome = true then 0 else 7
def roO (L : List Ord5) (id : Int) : Ord5 := (getI L id).getD noO
theorem box5' {w : World} {g : Nat} {t : TypeId} {a b c d e : Value} (h : Blk w g t #[a, b, c, d, e]) : w.cell? ⟨g, 0, none⟩ = some a ∧ w.cell? ⟨g, 1, none⟩ = some b ∧ w.cell? ⟨g, 2, none⟩ = some c ∧ w.cell? ⟨g, 3, none⟩ = some d ∧ w.cell? ⟨g, 4, none⟩ = some e :=
  ⟨by rw [Blk.cell h]; rfl, by rw [Blk.cell h]; rfl, by rw [Blk.cell h]; rfl, by rw [Blk.cell h]; rfl, by rw [Blk.cell h]; rfl⟩

set_option maxRecDepth 100000 in
set_option maxHeartbeats 1000000 in
theorem rorder_any (w : World) (B : Nat) (t : TypeId) (cs : Array Value) (o0 : Nat) (A : Option Addr) (L : List Ord5) (h : RefB w B t cs o0 A L) (hn : L.length ≤ 100000) (id : Int) :
    Calls Tryz.prog 7 #[.pointer (some ⟨B, o0, none⟩), .int .i64 id] w fun e w' => e = .returned (.tuple #[aggO (roO L id), .int .i64 (roE L id)]) ∧ Below w.heap.size w w' := by
  have hb1 : Below w.heap.size w (w.alloc (.cells #[.int .i64 0, .int .i64 0, .int .i64 0, .int .i64 0, .int .i64 0] 24)) := (Below.refl _ _).alloc (Nat.le_refl _) _
  have HX := hid (Blk.new w 24 #[.int .i64 0, .int .i64 0, .int .i64 0, .int .i64 0, .int .i64 0])
  have HI := hid (index_any _ B t cs o0 A L (h.below hb1) hn id)
  have HR := hid h
  have HB := hid hb1
  have hBl := h.blt
  have hn1 : L.length ≤ 100000 := hn
  clear h hb1 hn
  go_enter Tryz.func7, Tryz.ntmps7
  go_wp2_with fail
  refine HI.out.mono ?_
  rintro e w2 ⟨rfl, hb2⟩
  have hX2 := Blk.keep HX.out hb2
  obtain ⟨z0, z1, z2, z3, z4⟩ := box5' hX2
  have f0 := Blk.frozen hX2 0
  have f1 := Blk.frozen hX2 1
  have f2 := Blk.frozen hX2 2
  have f3 := Blk.frozen hX2 3
  have f4 := Blk.frozen hX2 4
  have HX2 := hid hX2
  have HB2 := hid (HB.out.trans (hb2.mono HB.out.size))
  clear hX2 hb2 HI
  rcases idxI_cases L id with ⟨hi, hg⟩ | ⟨k, hk, hi, -, hid_, hg⟩
  · have HG := hid hg
    rw [hi]
    have d1 : ¬ (0 : Int) ≤ -1 := by omega
    clear hi hg
    go_wp2_with fail
    refine ref_ret2 Tryz.results7 (cs := #[.int .i64 0, .int .i64 0, .int .i64 0, .int .i64 0, .int .i64 0]) (v := .int .i64 7) w.heap.size rfl (by with_unfolding_all rfl) (by with_unfolding_all rfl) (by with_unfolding_all rfl) (Blk.set_ (Blk.set_ (Blk.set_ (Blk.set_ (Blk.set_ HX2.out 0 _) 1 _) 2 _) 3 _) 4 _) ?_
    refine ⟨?_, ((((HB2.out.setCell (Nat.le_refl _) _).setCell (Nat.le_refl _) _).setCell (Nat.le_refl _) _).setCell (Nat.le_refl _) _).setCell (Nat.le_refl _) _⟩
    unfold roO roE
    rw [HG.out]
    rfl
  · have HG := hid hg
    rw [hi]
    have hk0 : (0 : Int) ≤ (k : Int) := by omega
    have hkz : (k : Int) < ((L.length : Nat) : Int) := by omega
    have hR2 := HR.out.below HB2.out
    obtain ⟨c, y0, -⟩ := hR2.cell
    obtain ⟨b, off, hA⟩ : ∃ b off, A = some ⟨b, off, none⟩ := by obtain ⟨b, off, h1, _⟩ := hR2.els.2 (by omega); exact ⟨b, off, h1⟩
    subst hA
    obtain ⟨x0, x1, x2, x3, x4⟩ := ord_at hR2.els hk
    obtain ⟨o, EO⟩ : ∃ o, Hid (L[k] = o) := ⟨_, hid rfl⟩
    rw [EO.out] at x0 x1 x2 x3 x4 HG
    obtain ⟨n, hn⟩ : ∃ n, L.length = n := ⟨_, rfl⟩
    rw [hn] at y0 hkz
    clear hi hg hR2 hid_ hn
    go_wp2_with fail
    refine ref_ret2 Tryz.results7 (cs := boxO o) (v := .int .i64 0) w.heap.size rfl (by with_unfolding_all rfl) (by with_unfolding_all rfl) (by with_unfolding_all rfl) (Blk.set_ (Blk.set_ (Blk.set_ (Blk.set_ (Blk.set_ HX2.out 0 _) 1 _) 2 _) 3 _) 4 _) ?_
    refine ⟨?_, ((((HB2.out.setCell (Nat.le_refl _) _).setCell (Nat.le_refl _) _).setCell (Nat.le_refl _) _).setCell (Nat.le_refl _) _).setCell (Nat.le_refl _) _⟩
    unfold roO roE
    rw [HG.out]
    rfl
end Go.Proofs.YtkcgchpbjegneaaGreatDoor
namespace Go.Proofs.YtkcgchpbjegneaaGreatDoor
open Go.RowKit
set_option linter.unusedVariables false
set_option linter.unusedSimpArgs false

set_option maxHeartbeats 400000 in
theorem rin_any (x lo hi : Int) (w : World) : Calls Tryz.prog 52 #[.int .i64 x, .int .i64 lo, .int .i64 hi] w fun e w' => e = .returned (.bool (decide (lo ≤ x) && decide (x ≤ hi))) ∧ w = w' := by
  by_cases h1 : lo ≤ x
  · have d1 := decT h1
    go_enter Tryz.func52, Tryz.ntmps52
    go_wp2
    go_ret
    exact ⟨by simp [d1], rfl⟩
  · have d1 := decF h1
    go_enter Tryz.func52, Tryz.ntmps52
    go_wp2
    go_ret
    exact ⟨by simp [d1], rfl⟩
set_option maxHeartbeats 400000 in
theorem rright_any (p q : Int) (w : World) : Calls Tryz.prog 59 #[.int .i64 p, .int .i64 q] w fun e w' => e = .returned (.bool (rightB p q)) ∧ w = w' := by
  have HE := hid (show rightB p q = ((decide (1 ≤ p) && decide (p ≤ 1000000)) && (decide (1 ≤ q) && decide (q ≤ 1000000))) from rfl)
  cases h1 : (decide (1 ≤ p) && decide (p ≤ 1000000)) with
  | true =>
    have H1 := hid h1
    clear h1
    go_enter Tryz.func59, Tryz.ntmps59
    go_wp2_with fail
    refine (rin_any _ _ _ _).mono ?_
    rintro e w' ⟨rfl, rfl⟩
    rw [H1.out]
    go_wp2_with fail
    refine (rin_any _ _ _ _).mono ?_
    rintro e w' ⟨rfl, rfl⟩
    go_wp2
    go_ret
    exact ⟨ret_bool (by rw [HE.out, H1.out]; rfl), rfl⟩
  | false =>
    have H1 := hid h1
    clear h1
    go_enter Tryz.func59, Tryz.ntmps59
    go_wp2_with fail
    refine (rin_any _ _ _ _).mono ?_
    rintro e w' ⟨rfl, rfl⟩
    rw [H1.out]
    go_wp2
    go_ret
    exact ⟨ret_bool (by rw [HE.out, H1.out]; rfl), rfl⟩
def raddE (L : List Ord5) (o : Ord5) : Int := if argB o = false then 1 else if rngB o = false then 2 else if (getI L o.id).isSome = true then 9 else if 100 ≤ L.length then 12 else 0
def raddL (L : List Ord5) (o : Ord5) : List Ord5 := if raddE L o = 0 then L ++ [pricedO o] else L
theorem rord_info : (Tryz.prog.info? 24).map (fun i => (i.zero, i.size, i.bytes)) = some (some (.agg #[.int .i64 0, .int .i64 0, .int .i64 0, .int .i64 0, .int .i64 0]), 5, 40) := by kernel_rfl
theorem keeps_grown {w w1 : World} {row : Option Nat} (h : w.grownBy w1 row) : Keeps (fun i => row = some i) w w1 := ⟨h.os, h.tape, h.output, h.size, fun i hi hn => h.block i hi (fun e => hn e.symm)⟩
/-- a row that is new is filled: nothing that was there turns -/
theorem grown_below {B : Nat} {w w1 w2 : World} {A : Option Addr} (h : Below B w w1) (hg : w1.grownBy w2 (blkOf A)) (hA : ∀ g, blkOf A = some g → B ≤ g) (hB : B ≤ w1.heap.size) : Below B w w2 := h.trans ((keeps_grown hg).below (fun i e => hA i e) hB)
theorem new_or {A1 A2 : Option Addr} {S B : Nat} (ha : ∀ g, blkOf A2 = some g → blkOf A1 = some g ∨ g = S) (h1 : ∀ g, blkOf A1 = some g → B ≤ g) (h2 : B ≤ S) : ∀ g, blkOf A2 = some g → B ≤ g := fun g hg => by
  rcases ha g hg with e | e
  · exact h1 g e
  · rw [e]; exact h2
theorem new_one {g0 B : Nat} (h : B ≤ g0) : ∀ g, blkOf (some ⟨g0, 0, none⟩) = some g → B ≤ g := fun g hg => by
  have h2 : some g0 = some g := hg
  have := Option.some.inj h2
  omega
theorem ord_elems {w : World} {g : Nat} {t : TypeId} {p : Ord5} (h : w.heap[g]? = some (.cells (boxO p) t (0, 0))) (hlt : g < w.heap.size) : ElemsAt w encO 5 (some ⟨g, 0, none⟩) 1 [p] := by
  refine ⟨rfl, fun _ => ⟨g, 0, rfl, hlt, fun i hi j u hu => ?_⟩⟩
  have hi0 : i = 0 := by simp at hi; omega
  subst hi0
  have hb : Blk w g t (boxO p) := h
  have hc := Blk.cell hb j
  simp only [Nat.zero_mul, Nat.zero_add]
  rw [hc]
  have hu2 : (encO p)[j]? = some u := hu
  rw [← hu2, ← Array.getElem?_toList]
  rfl

set_option maxRecDepth 100000 in
set_option maxHeartbeats 8000000 in
theorem radd_any (w : World) (B : Nat) (t : TypeId) (cs : Array Value) (o0 : Nat) (A : Option Addr) (L : List Ord5) (h : RefB w B t cs o0 A L) (hn : L.length ≤ 100000) (o : Ord5) :
    Calls Tryz.prog 43 #[.pointer (some ⟨B, o0, none⟩), aggO o] w fun e w' => e = .returned (.int .i64 (raddE L o)) ∧ RefTo w w' B t cs o0 A (raddL L o) := by
  have hb1 : Below w.heap.size w (w.alloc (.cells (boxO o) 24)) := (Below.refl _ _).alloc (Nat.le_refl _) _
  have HX := hid (Blk.new w 24 (boxO o))
  have HR := hid h
  have HB := hid hb1
  have hBl := h.blt
  have hn1 : L.length ≤ 100000 := hn
  unfold aggO
  obtain ⟨i0, hi0, hz0, hz1, hz2⟩ := info_parts rord_info
  obtain ⟨x0, x1, x2, x3, x4⟩ := ord_box HX.out
  have f3 := Blk.frozen HX.out 3
  clear h hb1 hn
  by_cases hs : ¬ (1 ≤ o.side ∧ o.side ≤ 2)
  · have HS := hid (show (decide (1 ≤ o.side) && decide (o.side ≤ 2)) = false by simp; omega)
    have HE := hid (show raddE L o = 1 by unfold raddE; rw [if_pos (by unfold argB; simp; omega)])
    clear hs
    go_enter Tryz.func43, Tryz.ntmps43
    go_wp2_with fail
    refine (rin_any _ _ _ _).mono ?_
    rintro e w' ⟨rfl, rfl⟩
    rw [HS.out]
    go_wp2_with fail
    go_ret
    exact ⟨ret_int (by rw [HE.out]), by unfold raddL; rw [HE.out, if_neg (by decide)]; exact RefTo.same HR.out HB.out⟩
  have hs1 : 1 ≤ o.side ∧ o.side ≤ 2 := by omega
  have HS := hid (show (decide (1 ≤ o.side) && decide (o.side ≤ 2)) = true by simp; omega)
  by_cases hd : o.id < 1
  · have d1 := decT hd
    have HE := hid (show raddE L o = 1 by unfold raddE; rw [if_pos (by unfold argB; simp; omega)])
    clear hd hs hs1
    go_enter Tryz.func43, Tryz.ntmps43
    go_wp2_with fail
    refine (rin_any _ _ _ _).mono ?_
    rintro e w' ⟨rfl, rfl⟩
    rw [HS.out]
    go_wp2_with fail
    go_ret
    exact ⟨ret_int (by rw [HE.out]), by unfold raddL; rw [HE.out, if_neg (by decide)]; exact RefTo.same HR.out HB.out⟩
  have d1 := decF hd
  have HArg := hid (show argB o = true by unfold argB; simp; omega)
  clear hd hs hs1
  go_enter Tryz.func43, Tryz.ntmps43
  go_wp2_with fail
  refine (rin_any _ _ _ _).mono ?_
  rintro e w' ⟨rfl, rfl⟩
  rw [HS.out]
  go_upto_if 16 with fail
  go_cut [17] (fun s17 wx => Blk wx w.heap.size 24 (boxO (pricedO o)) ∧ Below w.heap.size w wx)
  case first =>
    by_cases hk2 : o.kind = 2
    · have d2 := beqT hk2
      have HE := hid (show pricedO o = ⟨o.id, o.side, o.kind, 1, o.qty⟩ by unfold pricedO; rw [if_pos hk2])
      clear hk2
      go_wp2_with fail
      go_meet
      exact ⟨by rw [HE.out]; exact Blk.new w _ _, (Below.refl _ _).alloc (Nat.le_refl _) _⟩
    · have d2 := beqF hk2
      have HE := hid (show pricedO o = o by unfold pricedO; rw [if_neg hk2])
      clear hk2
      go_wp2_with fail
      go_meet
      exact ⟨by rw [HE.out]; exact HX.out, HB.out⟩
  case rest =>
    obtain ⟨hX, hB⟩ := hcut
    obtain ⟨w1, rfl⟩ : ∃ w1 : World, w1 = wc := ⟨_, rfl⟩
    clear x0 x1 x2 x3 x4 f3
    obtain ⟨x0, x1, x2, x3, x4⟩ := ord_box hX
    have HX := hid hX
    have HB := hid hB
    have HPq := hid (show (pricedO o).qty = o.qty from rfl)
    have HPi := hid (show (pricedO o).id = o.id from rfl)
    clear hX hB
    obtain ⟨p, EP⟩ : ∃ p, Hid (pricedO o = p) := ⟨_, hid rfl⟩
    rw [EP.out] at x0 x1 x2 x3 x4 HX HPq HPi
    have HRt := hid (show ∀ W, Calls Tryz.prog 59 #[.int .i64 p.price, .int .i64 p.qty] W fun e w' => e = .returned (.bool (rngB o)) ∧ W = w' from fun W => (rright_any p.price p.qty W).mono fun e w' ⟨h1, h2⟩ => ⟨by rw [h1]; unfold rngB; rw [EP.out, HPq.out], h2⟩)
    cases hr : rngB o with
    | false =>
      have HE := hid (show raddE L o = 2 by unfold raddE; rw [HArg.out, if_neg (by decide), if_pos hr])
      have HRg := hid hr
      clear hr
      go_wp2_with fail
      refine (HRt.out _).mono ?_
      rintro e w' ⟨rfl, rfl⟩
      rw [HRg.out]
      go_wp2_with fail
      go_ret
      exact ⟨ret_int (by rw [HE.out]), by unfold raddL; rw [HE.out, if_neg (by decide)]; exact RefTo.same HR.out HB.out⟩
    | true =>
      have HRg := hid hr
      have HIx := hid (index_any w1 B t cs o0 A L (HR.out.below HB.out) hn1 p.id)
      clear hr
      go_wp2_with fail
      refine (HRt.out _).mono ?_
      rintro e w' ⟨rfl, rfl⟩
      rw [HRg.out]
      go_wp2_with fail
      refine HIx.out.mono ?_
      rintro e w2 ⟨rfl, hb2⟩
      have HB2 := hid (HB.out.trans (hb2.mono HB.out.size))
      have HX2 := hid (Blk.keep HX.out hb2)
      clear x0 x1 x2 x3 x4 hb2 HIx HX
      rcases idxI_cases L p.id with ⟨hi, hg⟩ | ⟨k, hk, hi, -, hid_, hg⟩
      · have HG := hid (show (getI L o.id).isSome = false by rw [← HPi.out, hg]; rfl)
        rw [hi]
        have d2 : ¬ (0 : Int) ≤ -1 := by omega
        clear hi hg
        have hR2 := HR.out.below HB2.out
        obtain ⟨c, y0, -⟩ := hR2.cell
        obtain ⟨n, hn⟩ : ∃ n, L.length = n := ⟨_, rfl⟩
        rw [hn] at y0 hn1
        have HN := hid hn
        have HR2 := hid hR2
        clear hn hR2
        by_cases hf : 100 ≤ n
        · have d4 : (100 : Int) ≤ (n : Int) := by omega
          have HE := hid (show raddE L o = 12 by unfold raddE; rw [HArg.out, if_neg (by decide), HRg.out, if_neg (by decide), HG.out, if_neg (by decide), if_pos (by rw [HN.out]; exact hf)])
          clear hf
          go_wp2_with fail
          go_ret
          exact ⟨ret_int (by rw [HE.out]), by unfold raddL; rw [HE.out, if_neg (by decide)]; exact RefTo.same HR.out HB2.out⟩
        · have d4 : ¬ (100 : Int) ≤ (n : Int) := by omega
          have HE := hid (show raddE L o = 0 by unfold raddE; rw [HArg.out, if_neg (by decide), HRg.out, if_neg (by decide), HG.out, if_neg (by decide), if_neg (by rw [HN.out]; exact hf)])
          have HRL := hid (show raddL L o = L ++ [p] by unfold raddL; rw [HE.out, if_pos rfl, EP.out])
          have hEl := HR2.out.els
          rw [HN.out] at hEl
          have HEl := hid hEl
          have hnb : n ≤ 1000 := by omega
          clear hf hEl
          obtain ⟨x0, x1, x2, x3, x4⟩ := ord_box HX2.out
          have HS0 := hid (show ∀ W, Below w2.heap.size w2 W → (W.cell? ⟨w.heap.size, 0, none⟩ = some (.int .i64 p.id) ∧ W.cell? ⟨w.heap.size, 1, none⟩ = some (.int .i64 p.side) ∧ W.cell? ⟨w.heap.size, 2, none⟩ = some (.int .i64 p.kind) ∧ W.cell? ⟨w.heap.size, 3, none⟩ = some (.int .i64 p.price) ∧ W.cell? ⟨w.heap.size, 4, none⟩ = some (.int .i64 p.qty)) ∧ W.cell? ⟨B, o0, none⟩ = some (.slice A n c) from fun W hb => by
            obtain ⟨q0, q1, q2, q3, q4⟩ := ord_box (Blk.keep HX2.out hb)
            exact ⟨⟨q0, q1, q2, q3, q4⟩, (hb.cell (World.block_lt_of_cell? w2 _ y0)).trans y0⟩)
          have HFin := hid (show ∀ W A' c', Below w2.heap.size w2 W → RowAt W A' (n + 1) c' 24 5 (flat encO L ++ encO p) → (∀ g, blkOf A' = some g → w2.heap.size ≤ g) → RefTo w (W.setCell ⟨B, o0, none⟩ (.slice A' (n + 1) c')) B t cs o0 A (raddL L o) from fun W A' c' hb hr hg => by
            rw [HRL.out]
            exact HR.out.put (HB2.out.trans (hb.mono HB2.out.size)) (t' := 24) (by rw [flat_snoc]; exact hr) (fun g h => Nat.le_trans HB2.out.size (hg g h)))
          have HFz := hid (show ∀ W, Below w2.heap.size w2 W → W.frozen? ⟨B, o0, none⟩ = false from fun W hb => Blk.frozen (Blk.keep HR2.out.blk hb) o0)
          go_upto_region 11 with fail
          refine wp_region_heldT_drew 12 (fun W => (W.cell? ⟨w.heap.size, 0, none⟩ = some (.int .i64 p.id) ∧ W.cell? ⟨w.heap.size, 1, none⟩ = some (.int .i64 p.side) ∧ W.cell? ⟨w.heap.size, 2, none⟩ = some (.int .i64 p.kind) ∧ W.cell? ⟨w.heap.size, 3, none⟩ = some (.int .i64 p.price) ∧ W.cell? ⟨w.heap.size, 4, none⟩ = some (.int .i64 p.qty)) ∧ W.cell? ⟨B, o0, none⟩ = some (.slice A n c)) (by kernel_rfl) ⟨⟨x0, x1, x2, x3, x4⟩, y0⟩ (fun hS => ?_)
          refine takeT 0 35 (.pointer (some ⟨B, o0, none⟩)) rfl rfl rfl (by kernel_rfl) (by kernel_rfl) (by kernel_rfl) (by kernel_rfl) (fun _ _ _ h => h) (by rfl) ?_ (by assumption) ?_
          · intro W hSw; go_simp
          simp only [Act.put, List.setIfInBounds_toArray, List.set_cons_zero, List.set_cons_succ]
          refine takeT 2 37 (.pointer (some ⟨B, o0, none⟩)) rfl rfl rfl (by kernel_rfl) (by kernel_rfl) (by kernel_rfl) (by kernel_rfl) (fun _ _ _ h => h) (by rfl) ?_ (by assumption) ?_
          · intro W hSw; go_simp
          simp only [Act.put, List.setIfInBounds_toArray, List.set_cons_zero, List.set_cons_succ]
          refine takeT 3 38 (.pointer (some ⟨B, o0, none⟩)) rfl rfl rfl (by kernel_rfl) (by kernel_rfl) (by kernel_rfl) (by kernel_rfl) (fun _ _ _ h => h) (by rfl) ?_ (by assumption) ?_
          · intro W hSw; go_simp
          simp only [Act.put, List.setIfInBounds_toArray, List.set_cons_zero, List.set_cons_succ]
          refine takeT 4 39 (.pointer (some ⟨B, o0, none⟩)) rfl rfl rfl (by kernel_rfl) (by kernel_rfl) (by kernel_rfl) (by kernel_rfl) (fun _ _ _ h => h) (by rfl) ?_ (by assumption) ?_
          · intro W hSw; go_simp
          simp only [Act.put, List.setIfInBounds_toArray, List.set_cons_zero, List.set_cons_succ]
          refine takeT 5 40 (.slice A n c) rfl rfl rfl (by kernel_rfl) (by kernel_rfl) (by kernel_rfl) (by kernel_rfl) (fun _ _ _ h => h) (by rfl) ?_ (by assumption) ?_
          · intro W hSw; go_simp
          simp only [Act.put, List.setIfInBounds_toArray, List.set_cons_zero, List.set_cons_succ]
          refine takeT 7 42 (.agg #[.int .i64 p.id, .int .i64 p.side, .int .i64 p.kind, .int .i64 p.price, .int .i64 p.qty]) rfl rfl rfl (by kernel_rfl) (by kernel_rfl) (by kernel_rfl) (by kernel_rfl) (fun _ _ _ h => h) (by rfl) ?_ (by assumption) ?_
          · intro W hSw; go_simp
          simp only [Act.put, List.setIfInBounds_toArray, List.set_cons_zero, List.set_cons_succ]
          clear x0 x1 x2 x3 x4 y0 hS
          have HWb := hid (show Below w2.heap.size w2 w2 from Below.refl _ _)
          have HWc := hid (Nat.le_refl w2.heap.size)
          refine wpAnyT_two 1 8 (by kernel_rfl) rfl rfl (fun K1 hK1 => ?_) (fun K1 hK1 => ?_)
          · go_simp
            obtain ⟨v1, ev1⟩ : ∃ W, (w2.alloc (.cells #[] 24)).drew = W := ⟨_, rfl⟩
            have hal : Below w2.heap.size w2 v1 := by rw [← ev1]; exact Below.drew ((Below.refl _ _).alloc (Nat.le_refl _) _)
            have HEr := hid (show RowAt v1 (some ⟨w2.heap.size, 0, none⟩) 0 0 24 5 [] by rw [← ev1]; exact RowAt.made _ _ _)
            have HWb := hid (HWb.out.trans (hal.mono HWb.out.size))
            obtain ⟨ge, ege⟩ : ∃ g, w2.heap.size = g := ⟨_, rfl⟩
            have hge : w2.heap.size ≤ ge := by rw [← ege]; have := HWc.out; exact this
            rw [ev1, ege]
            rw [ege] at HEr
            clear ev1 ege hal
            have HWc := hid HWb.out.size
            refine hK1 _ _ (HS0.out _ HWb.out) (fun hS => ?_)
            clear hK1 hS
            refine wpAnyT_two 6 8 (by kernel_rfl) rfl rfl (fun K1 hK1 => ?_) (fun K1 hK1 => ?_)
            · refine step_append_any encO_length encO_one (by rfl) _ _ _ (by rfl) 24 i0 _ 40 Tryz.underlying22 hi0 hz0 hz1 hz2 rfl (by omega) (some ⟨ge, 0, none⟩) 0 0 [] (by rfl) HEr.out (A) n c L (by rfl) (HEl.out.below HWb.out (Nat.le_refl _)) (by unfold maxLen; omega) (by omega) ?_
              intro A1 c1 v2 hr1 hg1 ha1
              rw [Nat.zero_add, List.nil_append] at hr1
              rw [Nat.zero_add]
              have hk1 := keeps_grown hg1
              have HCr := hid hr1
              have HCa := hid (new_or ha1 (new_one hge) HWc.out)
              have HWb := hid (grown_below HWb.out hg1 (new_one hge) HWc.out)
              have HWc := hid HWb.out.size
              clear hr1 hg1 ha1 hk1
              refine hK1 _ _ (HS0.out _ HWb.out) (fun hS => ?_)
              clear hK1 hS
              simp only [Act.put, List.setIfInBounds_toArray, List.set_cons_zero, List.set_cons_succ]
              refine wpAnyT_one 8 (by kernel_rfl) rfl (fun K1 hK1 => ?_)
              go_simp
              obtain ⟨v3, ev3⟩ : ∃ W, (v2.alloc (.cells #[.int .i64 p.id, .int .i64 p.side, .int .i64 p.kind, .int .i64 p.price, .int .i64 p.qty] 24)) = W := ⟨_, rfl⟩
              have hal : Below v2.heap.size v2 v3 := by rw [← ev3]; exact (Below.refl _ _).alloc (Nat.le_refl _) _
              have HCr := hid (HCr.out.below hal)
              have HBe := hid (show ElemsAt v3 encO 5 (some ⟨v2.heap.size, 0, none⟩) 1 [p] by rw [← ev3]; exact ord_elems (t := 24) (heap_alloc_new v2 _) (by simp))
              have HWb := hid (HWb.out.trans (hal.mono HWb.out.size))
              obtain ⟨gb, egb⟩ : ∃ g, v2.heap.size = g := ⟨_, rfl⟩
              rw [ev3, egb]
              rw [egb] at HBe
              clear ev3 egb hal
              have HWc := hid HWb.out.size
              refine hK1 _ _ (HS0.out _ HWb.out) (fun hS => ?_)
              clear hK1 hS
              refine wpAnyT_one 9 (by kernel_rfl) rfl (fun K1 hK1 => ?_)
              refine step_append_any encO_length encO_one (by rfl) _ _ _ (by rfl) 24 i0 _ 40 Tryz.underlying22 hi0 hz0 hz1 hz2 rfl (by omega) (A1) n c1 (flat encO L) (by rfl) HCr.out (some ⟨gb, 0, none⟩) 1 1 [p] (by rfl) HBe.out (by unfold maxLen; omega) (by omega) ?_
              intro A2 c2 v4 hr2 hg2 ha2
              have HC2 := hid hr2
              have HCb := hid (new_or ha2 HCa.out HWc.out)
              have HWb := hid (grown_below HWb.out hg2 HCa.out HWc.out)
              clear hr2 hg2 ha2
              refine hK1 _ _ (HS0.out _ HWb.out) (fun hS => ?_)
              clear hK1 hS
              simp only [Act.put, List.setIfInBounds_toArray, List.set_cons_zero, List.set_cons_succ]
              refine wpAnyT_one 10 (by kernel_rfl) rfl (fun K1 hK1 => ?_)
              go_simp
              refine hK1 _ _ (HS0.out _ HWb.out) (fun hS => ?_)
              clear hK1 hS
              refine wpAnyT_one 11 (by kernel_rfl) rfl (fun K1 hK1 => ?_)
              go_simp
              refine hK1 _ _ (HS0.out _ HWb.out) (fun hS => ?_)
              clear hK1 hS
              have hfz := HFz.out _ HWb.out
              obtain ⟨-, hcz⟩ := HS0.out _ HWb.out
              refine wpAnyT_last (by kernel_rfl) rfl (fun K1 hK1 => ?_)
              go_simp
              refine hK1 _ _ (wpAnyT_done (by kernel_rfl) ?_ _)
              clear hK1 hfz hcz
              go_wp2_with fail
              go_ret
              exact ⟨ret_int (by rw [HE.out]), HFin.out _ _ _ HWb.out HC2.out HCb.out⟩
            · go_simp
              obtain ⟨v2, ev2⟩ : ∃ W, (v1.alloc (.cells #[.int .i64 p.id, .int .i64 p.side, .int .i64 p.kind, .int .i64 p.price, .int .i64 p.qty] 24)) = W := ⟨_, rfl⟩
              have hal : Below v1.heap.size v1 v2 := by rw [← ev2]; exact (Below.refl _ _).alloc (Nat.le_refl _) _
              have hlte : ge < v1.heap.size := HEr.out.lt rfl
              have HEr := hid (HEr.out.below hal)
              have HBe := hid (show ElemsAt v2 encO 5 (some ⟨v1.heap.size, 0, none⟩) 1 [p] by rw [← ev2]; exact ord_elems (t := 24) (heap_alloc_new v1 _) (by simp))
              have HWb := hid (HWb.out.trans (hal.mono HWb.out.size))
              obtain ⟨gb, egb⟩ : ∃ g, v1.heap.size = g := ⟨_, rfl⟩
              have hneb : ge ≠ gb := by omega
              rw [ev2, egb]
              rw [egb] at HBe
              clear ev2 egb hal
              have HWc := hid HWb.out.size
              refine hK1 _ _ (HS0.out _ HWb.out) (fun hS => ?_)
              clear hK1 hS
              refine wpAnyT_one 6 (by kernel_rfl) rfl (fun K1 hK1 => ?_)
              refine step_append_any encO_length encO_one (by rfl) _ _ _ (by rfl) 24 i0 _ 40 Tryz.underlying22 hi0 hz0 hz1 hz2 rfl (by omega) (some ⟨ge, 0, none⟩) 0 0 [] (by rfl) HEr.out (A) n c L (by rfl) (HEl.out.below HWb.out (Nat.le_refl _)) (by unfold maxLen; omega) (by omega) ?_
              intro A1 c1 v3 hr1 hg1 ha1
              rw [Nat.zero_add, List.nil_append] at hr1
              rw [Nat.zero_add]
              have hk1 := keeps_grown hg1
              have HBe := hid (HBe.out.keeps hk1 (fun g hg e => by cases hg; have e : some ge = some gb := e; exact hneb (Option.some.inj e)))
              have HCr := hid hr1
              have HCa := hid (new_or ha1 (new_one hge) HWc.out)
              have HWb := hid (grown_below HWb.out hg1 (new_one hge) HWc.out)
              have HWc := hid HWb.out.size
              clear hr1 hg1 ha1 hk1
              refine hK1 _ _ (HS0.out _ HWb.out) (fun hS => ?_)
              clear hK1 hS
              simp only [Act.put, List.setIfInBounds_toArray, List.set_cons_zero, List.set_cons_succ]
              refine wpAnyT_one 9 (by kernel_rfl) rfl (fun K1 hK1 => ?_)
              refine step_append_any encO_length encO_one (by rfl) _ _ _ (by rfl) 24 i0 _ 40 Tryz.underlying22 hi0 hz0 hz1 hz2 rfl (by omega) (A1) n c1 (flat encO L) (by rfl) HCr.out (some ⟨gb, 0, none⟩) 1 1 [p] (by rfl) HBe.out (by unfold maxLen; omega) (by omega) ?_
              intro A2 c2 v4 hr2 hg2 ha2
              have HC2 := hid hr2
              have HCb := hid (new_or ha2 HCa.out HWc.out)
              have HWb := hid (grown_below HWb.out hg2 HCa.out HWc.out)
              clear hr2 hg2 ha2
              refine hK1 _ _ (HS0.out _ HWb.out) (fun hS => ?_)
              clear hK1 hS
              simp only [Act.put, List.setIfInBounds_toArray, List.set_cons_zero, List.set_cons_succ]
              refine wpAnyT_one 10 (by kernel_rfl) rfl (fun K1 hK1 => ?_)
              go_simp
              refine hK1 _ _ (HS0.out _ HWb.out) (fun hS => ?_)
              clear hK1 hS
              refine wpAnyT_one 11 (by kernel_rfl) rfl (fun K1 hK1 => ?_)
              go_simp
              refine hK1 _ _ (HS0.out _ HWb.out) (fun hS => ?_)
              clear hK1 hS
              have hfz := HFz.out _ HWb.out
              obtain ⟨-, hcz⟩ := HS0.out _ HWb.out
              refine wpAnyT_last (by kernel_rfl) rfl (fun K1 hK1 => ?_)
              go_simp
              refine hK1 _ _ (wpAnyT_done (by kernel_rfl) ?_ _)
              clear hK1 hfz hcz
              go_wp2_with fail
              go_ret
              exact ⟨ret_int (by rw [HE.out]), HFin.out _ _ _ HWb.out HC2.out HCb.out⟩
          · go_simp
            obtain ⟨v1, ev1⟩ : ∃ W, (w2.alloc (.cells #[.int .i64 p.id, .int .i64 p.side, .int .i64 p.kind, .int .i64 p.price, .int .i64 p.qty] 24)).drew = W := ⟨_, rfl⟩
            have hal : Below w2.heap.size w2 v1 := by rw [← ev1]; exact Below.drew ((Below.refl _ _).alloc (Nat.le_refl _) _)
            have HBe := hid (show ElemsAt v1 encO 5 (some ⟨w2.heap.size, 0, none⟩) 1 [p] by rw [← ev1]; exact ord_elems (t := 24) (heap_alloc_new w2 _) (by simp))
            have HWb := hid (HWb.out.trans (hal.mono HWb.out.size))
            obtain ⟨gb, egb⟩ : ∃ g, w2.heap.size = g := ⟨_, rfl⟩
            rw [ev1, egb]
            rw [egb] at HBe
            clear ev1 egb hal
            have HWc := hid HWb.out.size
            refine hK1 _ _ (HS0.out _ HWb.out) (fun hS => ?_)
            clear hK1 hS
            refine wpAnyT_one 1 (by kernel_rfl) rfl (fun K1 hK1 => ?_)
            go_simp
            obtain ⟨v2, ev2⟩ : ∃ W, (v1.alloc (.cells #[] 24)) = W := ⟨_, rfl⟩
            have hal : Below v1.heap.size v1 v2 := by rw [← ev2]; exact (Below.refl _ _).alloc (Nat.le_refl _) _
            have hltb : gb < v1.heap.size := by obtain ⟨b, o, h1, h2, -⟩ := HBe.out.2 (by omega); cases h1; exact h2
            have HBe := hid (HBe.out.below hal (Nat.le_refl _))
            have HEr := hid (show RowAt v2 (some ⟨v1.heap.size, 0, none⟩) 0 0 24 5 [] by rw [← ev2]; exact RowAt.made _ _ _)
            have HWb := hid (HWb.out.trans (hal.mono HWb.out.size))
            obtain ⟨ge, ege⟩ : ∃ g, v1.heap.size = g := ⟨_, rfl⟩
            have hge : w2.heap.size ≤ ge := by rw [← ege]; have := HWc.out; exact this
            have hneb : ge ≠ gb := by omega
            rw [ev2, ege]
            rw [ege] at HEr
            clear ev2 ege hal
            have HWc := hid HWb.out.size
            refine hK1 _ _ (HS0.out _ HWb.out) (fun hS => ?_)
            clear hK1 hS
            refine wpAnyT_one 6 (by kernel_rfl) rfl (fun K1 hK1 => ?_)
            refine step_append_any encO_length encO_one (by rfl) _ _ _ (by rfl) 24 i0 _ 40 Tryz.underlying22 hi0 hz0 hz1 hz2 rfl (by omega) (some ⟨ge, 0, none⟩) 0 0 [] (by rfl) HEr.out (A) n c L (by rfl) (HEl.out.below HWb.out (Nat.le_refl _)) (by unfold maxLen; omega) (by omega) ?_
            intro A1 c1 v3 hr1 hg1 ha1
            rw [Nat.zero_add, List.nil_append] at hr1
            rw [Nat.zero_add]
            have hk1 := keeps_grown hg1
            have HBe := hid (HBe.out.keeps hk1 (fun g hg e => by cases hg; have e : some ge = some gb := e; exact hneb (Option.some.inj e)))
            have HCr := hid hr1
            have HCa := hid (new_or ha1 (new_one hge) HWc.out)
            have HWb := hid (grown_below HWb.out hg1 (new_one hge) HWc.out)
            have HWc := hid HWb.out.size
            clear hr1 hg1 ha1 hk1
            refine hK1 _ _ (HS0.out _ HWb.out) (fun hS => ?_)
            clear hK1 hS
            simp only [Act.put, List.setIfInBounds_toArray, List.set_cons_zero, List.set_cons_succ]
            refine wpAnyT_one 9 (by kernel_rfl) rfl (fun K1 hK1 => ?_)
            refine step_append_any encO_length encO_one (by rfl) _ _ _ (by rfl) 24 i0 _ 40 Tryz.underlying22 hi0 hz0 hz1 hz2 rfl (by omega) (A1) n c1 (flat encO L) (by rfl) HCr.out (some ⟨gb, 0, none⟩) 1 1 [p] (by rfl) HBe.out (by unfold maxLen; omega) (by omega) ?_
            intro A2 c2 v4 hr2 hg2 ha2
            have HC2 := hid hr2
            have HCb := hid (new_or ha2 HCa.out HWc.out)
            have HWb := hid (grown_below HWb.out hg2 HCa.out HWc.out)
            clear hr2 hg2 ha2
            refine hK1 _ _ (HS0.out _ HWb.out) (fun hS => ?_)
            clear hK1 hS
            simp only [Act.put, List.setIfInBounds_toArray, List.set_cons_zero, List.set_cons_succ]
            refine wpAnyT_one 10 (by kernel_rfl) rfl (fun K1 hK1 => ?_)
            go_simp
            refine hK1 _ _ (HS0.out _ HWb.out) (fun hS => ?_)
            clear hK1 hS
            refine wpAnyT_one 11 (by kernel_rfl) rfl (fun K1 hK1 => ?_)
            go_simp
            refine hK1 _ _ (HS0.out _ HWb.out) (fun hS => ?_)
            clear hK1 hS
            have hfz := HFz.out _ HWb.out
            obtain ⟨-, hcz⟩ := HS0.out _ HWb.out
            refine wpAnyT_last (by kernel_rfl) rfl (fun K1 hK1 => ?_)
            go_simp
            refine hK1 _ _ (wpAnyT_done (by kernel_rfl) ?_ _)
            clear hK1 hfz hcz
            go_wp2_with fail
            go_ret
            exact ⟨ret_int (by rw [HE.out]), HFin.out _ _ _ HWb.out HC2.out HCb.out⟩
      · have HE := hid (show raddE L o = 9 by unfold raddE; rw [HArg.out, if_neg (by decide), HRg.out, if_neg (by decide), if_pos (by rw [← HPi.out, hg]; rfl)])
        rw [hi]
        have d2 : (0 : Int) ≤ (k : Int) := by omega
        clear hi hg
        go_wp2_with fail
        go_ret
        exact ⟨ret_int (by rw [HE.out]), by unfold raddL; rw [HE.out, if_neg (by decide)]; exact RefTo.same HR.out HB2.out⟩
end Go.Proofs.YtkcgchpbjegneaaGreatDoor
