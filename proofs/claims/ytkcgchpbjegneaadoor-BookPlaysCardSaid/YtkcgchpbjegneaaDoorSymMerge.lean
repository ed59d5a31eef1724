/-
  The walk of sort.symMerge_func.
-/
import Derived.WalkKit
import Derived.WalkLawsBesides
import Derived.WalkSpells
import Derived.Deep.LoopGhost
import Derived.Deep.DeepCutAuto
import Derived.Deep.CutBlock
import Derived.Shelf.Abstract
import Derived.Laws.EntriesVeiled
import Derived.Test.YtkcgchpbjegneaaDoorStable
namespace Go.Proofs.YtkcgchpbjegneaaDoor
open Go.RowKit
set_option linter.unusedVariables false

section
variable {α : Type} {g : Nat} {lb : Array Value} {sf : Nat} {sb : Array Value} {blk n : Nat} {r : α → Int} {St : World → List (α × Nat) → Prop}
theorem get_two {A L B : List α} {i j : Nat} (hi : A.length + j = i) (hj : j < L.length) (h : i < (A ++ (L ++ B)).length) : (A ++ (L ++ B))[i] = L[j] := by
  subst hi
  rw [List.getElem_append_right (by omega), List.getElem_append_left (by omega)]
  simp
theorem get_three {A L R B : List α} {i j : Nat} (hi : A.length + L.length + j = i) (hj : j < R.length) (h : i < (A ++ (L ++ (R ++ B))).length) : (A ++ (L ++ (R ++ B)))[i] = R[j] := by
  subst hi
  rw [List.getElem_append_right (by omega), List.getElem_append_right (by omega), List.getElem_append_left (by omega)]
  congr 1
  omega
/-- merged by parts, the parts told by where they end -/
theorem mid_ok {L R S1 S2 : List (α × Nat)} {i1 i2 : Nat} (h : Mrg r L R) (h1 : i1 ≤ L.length) (h2 : i2 ≤ R.length) (c1 : ∀ x y, 0 < i1 → L[i1 - 1]? = some x → R[i2]? = some y → ltT r x y) (c2 : ∀ x y, 0 < i2 → R[i2 - 1]? = some x → L[i1]? = some y → ltT r x y)
    (p1 : S1.Perm (L.take i1 ++ R.take i2)) (s1 : SortT r S1) (p2 : S2.Perm (L.drop i1 ++ R.drop i2)) (s2 : SortT r S2) : (S1 ++ S2).Perm (L ++ R) ∧ SortT r (S1 ++ S2) := by
  have h' : Mrg r (L.take i1 ++ L.drop i1) (R.take i2 ++ R.drop i2) := by rw [List.take_append_drop, List.take_append_drop]; exact h
  have k := h'.joins (S1 := S1) (S2 := S2) (fun h3 h4 => by
    have hl : (L.take i1).length = i1 := by rw [List.length_take]; omega
    have hr : i2 < R.length := by rw [List.length_drop] at h4; omega
    have h0 : 0 < i1 := by omega
    refine c1 _ _ h0 ?_ ?_
    · rw [List.getElem_take]; simp only [hl]; exact List.getElem?_eq_getElem (by omega)
    · rw [List.getElem_drop]; exact List.getElem?_eq_getElem (by omega)) (fun h3 h4 => by
    have hl : (R.take i2).length = i2 := by rw [List.length_take]; omega
    have hr : i1 < L.length := by rw [List.length_drop] at h4; omega
    have h0 : 0 < i2 := by omega
    refine c2 _ _ h0 ?_ ?_
    · rw [List.getElem_take]; simp only [hl]; exact List.getElem?_eq_getElem (by omega)
    · rw [List.getElem_drop]; exact List.getElem?_eq_getElem (by omega)) p1 s1 p2 s2
  rw [List.take_append_drop, List.take_append_drop] at k
  exact k

set_option maxRecDepth 100000 in
set_option maxHeartbeats 1000000 in
theorem sm_left (E : SortEnv g lb sf sb blk n (fun x : α × Nat => r x.1) St) (w : World) (A : List (α × Nat)) (x : α × Nat) (R B : List (α × Nat)) (a m b : Nat) (ha : A.length = a) (hm : a + 1 = m) (hb : m + R.length = b) (hM : Mrg r [x] R)
    (h : St w (A ++ (x :: (R ++ B)))) (hn : (A ++ (x :: (R ++ B))).length = n) (hn2 : n ≤ 1000000) :
    Calls Tryd.prog 72 #[lsV g lb sf sb, .int .i64 a, .int .i64 m, .int .i64 b] w fun e w' => e = .returned (.tuple #[]) ∧ (∃ S, S.Perm ([x] ++ R) ∧ SortT r S ∧ St w' (A ++ (S ++ B))) ∧ Keeps (fun k => k = blk) w w' := by
  have hlt := E.lt _ _ h
  have eg := E.eg
  have hS0 := E.start h
  have hnn : A.length + (1 + (R.length + B.length)) = n := by simp at hn; omega
  have HE := hid E
  have HS0 := hid hS0
  have HL := hid (And.intro ha (And.intro hb hnn))
  have HM := hid hM
  have hb1 : a ≤ 1000000 := by omega
  have hb2 : b ≤ 1000000 := by omega
  have hb3 : m ≤ 1000000 := by omega
  have HN2 := hid hn2
  have HLt := hid hlt
  have Hm := hid hm
  have t1 : ((m : Int) - (a : Int) == 1) = true := beqT (by omega)
  clear E h hS0 hn hnn ha hb hn2 hlt hM hm
  unfold lsV
  go_enter Tryd.func72, Tryd.ntmps72
  go_wp2_with fail
  clear t1
  go_loopg [8, 9] R.length (fun gg s8 s9 wx => ∃ p q : Nat, p ≤ q ∧ q ≤ R.length ∧ gg = q - p ∧ s8 = .int .i64 ((m : Int) + (p : Int)) ∧ s9 = .int .i64 ((m : Int) + (q : Int)) ∧ Hid ((∀ (h2 : q < R.length), ¬ r R[q].1 < r x.1) ∧ (∀ (h1 : 0 < p) (h2 : p - 1 < R.length), r R[p - 1].1 < r x.1)) ∧ SortAt St blk w wx (lsBox g lb sf sb) (A ++ (x :: (R ++ B))))
  case atStart => exact ⟨0, R.length, Nat.zero_le _, Nat.le_refl _, by omega, by simp, by rw [show (m : Int) + ((R.length : Nat) : Int) = (b : Int) by have := HL.out; omega], hid ⟨fun h => absurd h (by omega), fun h => absurd h (by omega)⟩, HS0.out⟩
  case round =>
    obtain ⟨p, q, hpq, hq, rfl, rfl, rfl, HI, hS⟩ := hrel
    have hRb : R.length ≤ 1000000 := by have := HL.out; omega
    by_cases hlt : p < q
    · have hltz : (m : Int) + (p : Int) < (m : Int) + (q : Int) := by omega
      obtain ⟨c0, c1⟩ := hS.cells
      go_upto_region 6 with fail
      have em : ((m : Int) + (p : Int) + ((m : Int) + (q : Int))) / 2 = (m : Int) + (((p + q) / 2 : Nat) : Int) := by omega
      have hm1 : p ≤ (p + q) / 2 := by omega
      have hm2 : (p + q) / 2 < q := by omega
      rw [em]
      generalize (p + q) / 2 = c at hm1 hm2 ⊢
      clear em
      have hcR : c < R.length := by omega
      have hln : (A ++ (x :: (R ++ B))).length = n := by have := HL.out; simp; omega
      have e1 : A ++ (x :: (R ++ B)) = A ++ ([x] ++ (R ++ B)) := rfl
      have hi1 : m + c < (A ++ (x :: (R ++ B))).length := by have := HL.out; have := Hm.out; omega
      have hi0 : a < (A ++ (x :: (R ++ B))).length := by have := HL.out; omega
      have hle := HE.out.less wr _ (m + c) a hS.st hln hi1 hi0 (by have := Hm.out; omega)
      have g1 : (A ++ (x :: (R ++ B)))[m + c] = R[c] := get_three (A := A) (L := [x]) (by have := HL.out; have := Hm.out; simp; omega) hcR hi1
      have g0 : (A ++ (x :: (R ++ B)))[a] = x := get_mid HL.out.1 hi0
      rw [g0, g1, show (((m + c : Nat) : Int)) = (m : Int) + (c : Int) by omega] at hle
      obtain ⟨v, hv⟩ : ∃ v, decide (r R[c].1 < r x.1) = v := ⟨_, rfl⟩
      rw [hv] at hle
      have HS := hid hS
      have HV := hid hv
      clear hS g0 g1 hi1 hi0 hln e1 hv
      cases v with
      | true =>
        go_wp2_with (go_at_fn g; refine hle.mono ?_; rintro e w2 ⟨rfl, hst, hk⟩)
        go_roundg (q - (c + 1))
        case measure => omega
        case rel => exact ⟨c + 1, q, by omega, hq, rfl, by rw [show (m : Int) + ((c + 1 : Nat) : Int) = (m : Int) + (c : Int) + 1 by omega], rfl, hid ⟨HI.out.1, fun h1 h2 => by have h := HV.out; simpa using h⟩, HS.out.step HLt.out hst hk⟩
      | false =>
        go_wp2_with (go_at_fn g; refine hle.mono ?_; rintro e w2 ⟨rfl, hst, hk⟩)
        go_roundg (c - p)
        case measure => omega
        case rel => exact ⟨p, c, by omega, by omega, rfl, rfl, rfl, hid ⟨fun h2 => by have h := HV.out; simpa using h, HI.out.2⟩, HS.out.step HLt.out hst hk⟩
    · obtain rfl : p = q := by omega
      have hltz : ¬ (m : Int) + (p : Int) < (m : Int) + (p : Int) := by omega
      have HS := hid hS
      have HFin := hid (HM.out.one_l (q := p) hq HI.out.1 (fun h1 => HI.out.2 h1 (by omega)))
      obtain ⟨wo, rfl⟩ : ∃ wo : World, wo = wr := ⟨_, rfl⟩
      clear hS
      go_wp2_with fail
      go_loopg [11] p (fun gg s11 wx => ∃ t : Nat, t ≤ p ∧ gg = p - t ∧ s11 = .int .i64 ((a : Int) + (t : Int)) ∧ SortAt St blk w wx (lsBox g lb sf sb) (A ++ (R.take t ++ (x :: (R.drop t ++ B)))))
      case atStart => exact ⟨0, Nat.zero_le _, rfl, by simp, by simpa using HS.out⟩
      case round =>
        obtain ⟨t, ht, rfl, rfl, hS⟩ := hrel
        obtain ⟨c0, c1⟩ := hS.cells
        by_cases hlt2 : t < p
        · have hltz2 : (a : Int) + (t : Int) < (m : Int) + (p : Int) - 1 := by have := Hm.out; omega
          have htR : t < R.length := by omega
          have et : R.drop t = R[t] :: R.drop (t + 1) := List.drop_eq_getElem_cons htR
          have ek : R.take (t + 1) = R.take t ++ [R[t]] := List.take_succ_eq_append_getElem htR
          have hst := hS.st
          have e1 : A ++ (R.take t ++ (x :: (R.drop t ++ B))) = (A ++ R.take t) ++ (x :: R[t] :: (R.drop (t + 1) ++ B)) := by rw [et]; simp only [List.append_assoc, List.cons_append]
          rw [e1] at hst
          have hal : (A ++ R.take t).length = a + t := by have := HL.out; simp; omega
          have hln : ((A ++ R.take t) ++ (x :: R[t] :: (R.drop (t + 1) ++ B))).length = n := by have := HL.out; simp at hal ⊢; omega
          obtain ⟨w2, hs, hst2, hk⟩ := HE.out.swap wr _ (a + t) (a + t + 1) hst hln (by have := HL.out; omega) (by have := HL.out; omega) (by omega)
          rw [swapL_adj _ _ _ _ hal] at hst2
          rw [show (((a + t : Nat) : Int)) = (a : Int) + (t : Int) by omega, show (((a + t + 1 : Nat) : Int)) = (a : Int) + (t : Int) + 1 by omega] at hs
          have e2 : (A ++ R.take t) ++ (R[t] :: x :: (R.drop (t + 1) ++ B)) = A ++ (R.take (t + 1) ++ (x :: (R.drop (t + 1) ++ B))) := by rw [ek]; simp only [List.append_assoc, List.cons_append, List.nil_append]
          rw [e2] at hst2
          have HS2 := hid hS
          have HSt := hid hst2
          have HK := hid hk
          clear hS hst hst2 hk e1 e2 et ek hal hln
          go_wp2_with fail
          go_roundg (p - (t + 1))
          case measure => omega
          case rel => exact ⟨t + 1, by omega, rfl, by rw [show (a : Int) + ((t + 1 : Nat) : Int) = (a : Int) + (t : Int) + 1 by omega], HS2.out.step HLt.out HSt.out HK.out⟩
        · obtain rfl : t = p := by omega
          have hltz2 : ¬ (a : Int) + (t : Int) < (m : Int) + (t : Int) - 1 := by have := Hm.out; omega
          have HS2 := hid hS
          clear hS
          go_wp2_with fail
          refine bodyPost_ret (results_none rfl _ _ _) rfl ?_
          exact ⟨rfl, ⟨_, HFin.out.1, HFin.out.2, by have h := HS2.out.st; simpa only [List.append_assoc, List.cons_append] using h⟩, HS2.out.keep⟩

set_option maxRecDepth 100000 in
set_option maxHeartbeats 1000000 in
theorem sm_right (E : SortEnv g lb sf sb blk n (fun x : α × Nat => r x.1) St) (w : World) (A L : List (α × Nat)) (y : α × Nat) (B : List (α × Nat)) (a m b : Nat) (ha : A.length = a) (hm : a + L.length = m) (hb : m + 1 = b) (h1 : 2 ≤ L.length) (hM : Mrg r L [y])
    (h : St w (A ++ (L ++ (y :: B)))) (hn : (A ++ (L ++ (y :: B))).length = n) (hn2 : n ≤ 1000000) :
    Calls Tryd.prog 72 #[lsV g lb sf sb, .int .i64 a, .int .i64 m, .int .i64 b] w fun e w' => e = .returned (.tuple #[]) ∧ (∃ S, S.Perm (L ++ [y]) ∧ SortT r S ∧ St w' (A ++ (S ++ B))) ∧ Keeps (fun k => k = blk) w w' := by
  have hlt := E.lt _ _ h
  have eg := E.eg
  have hS0 := E.start h
  have hnn : A.length + (L.length + (1 + B.length)) = n := by simp at hn; omega
  have HE := hid E
  have HS0 := hid hS0
  have HL := hid (And.intro ha (And.intro hb hnn))
  have HM := hid hM
  have hb1 : a ≤ 1000000 := by omega
  have hb2 : b ≤ 1000000 := by omega
  have hb3 : m ≤ 1000000 := by omega
  have HN2 := hid hn2
  have HLt := hid hlt
  have Hm := hid hm
  have t1 : ((m : Int) - (a : Int) == 1) = false := beqF (by omega)
  have t2 : ((b : Int) - (m : Int) == 1) = true := beqT (by omega)
  clear E h hS0 hn hnn ha hb hn2 hlt hM hm h1
  unfold lsV
  go_enter Tryd.func72, Tryd.ntmps72
  go_wp2_with fail
  clear t1 t2
  go_loopg [12, 13] L.length (fun gg s8 s9 wx => ∃ p q : Nat, p ≤ q ∧ q ≤ L.length ∧ gg = q - p ∧ s8 = .int .i64 ((a : Int) + (p : Int)) ∧ s9 = .int .i64 ((a : Int) + (q : Int)) ∧ Hid ((∀ (h2 : q < L.length), r y.1 < r L[q].1) ∧ (∀ (h1 : 0 < p) (h2 : p - 1 < L.length), ¬ r y.1 < r L[p - 1].1)) ∧ SortAt St blk w wx (lsBox g lb sf sb) (A ++ (L ++ (y :: B))))
  case atStart => exact ⟨0, L.length, Nat.zero_le _, Nat.le_refl _, by omega, by simp, by rw [show (a : Int) + ((L.length : Nat) : Int) = (m : Int) by have := Hm.out; omega], hid ⟨fun h => absurd h (by omega), fun h => absurd h (by omega)⟩, HS0.out⟩
  case round =>
    obtain ⟨p, q, hpq, hq, rfl, rfl, rfl, HI, hS⟩ := hrel
    have hRb : L.length ≤ 1000000 := by have := Hm.out; omega
    by_cases hlt : p < q
    · have hltz : (a : Int) + (p : Int) < (a : Int) + (q : Int) := by omega
      obtain ⟨c0, c1⟩ := hS.cells
      go_upto_region 18 with fail
      have em : ((a : Int) + (p : Int) + ((a : Int) + (q : Int))) / 2 = (a : Int) + (((p + q) / 2 : Nat) : Int) := by omega
      have hm1 : p ≤ (p + q) / 2 := by omega
      have hm2 : (p + q) / 2 < q := by omega
      rw [em]
      generalize (p + q) / 2 = c at hm1 hm2 ⊢
      clear em
      have hcR : c < L.length := by omega
      have hln : (A ++ (L ++ (y :: B))).length = n := by have := HL.out; simp; omega
      have hi1 : a + c < (A ++ (L ++ (y :: B))).length := by have := HL.out; have := Hm.out; omega
      have hi0 : m < (A ++ (L ++ (y :: B))).length := by have := HL.out; have := Hm.out; omega
      have hle := HE.out.less wr _ m (a + c) hS.st hln hi0 hi1 (by have := Hm.out; omega)
      have g1 : (A ++ (L ++ (y :: B)))[a + c] = L[c] := get_two (A := A) (by have := HL.out; omega) hcR hi1
      have g0 : (A ++ (L ++ (y :: B)))[m] = y := by
        have h := get_three (A := A) (L := L) (R := [y]) (B := B) (i := m) (j := 0) (by have := HL.out; have := Hm.out; omega) (by simp) hi0
        simpa using h
      rw [g0, g1, show (((a + c : Nat) : Int)) = (a : Int) + (c : Int) by omega] at hle
      obtain ⟨v, hv⟩ : ∃ v, decide (r y.1 < r L[c].1) = v := ⟨_, rfl⟩
      rw [hv] at hle
      have HS := hid hS
      have HV := hid hv
      clear hS g0 g1 hi1 hi0 hln hv
      cases v with
      | false =>
        go_wp2_with (go_at_fn g; refine hle.mono ?_; rintro e w2 ⟨rfl, hst, hk⟩)
        go_roundg (q - (c + 1))
        case measure => omega
        case rel => exact ⟨c + 1, q, by omega, hq, rfl, by rw [show (a : Int) + ((c + 1 : Nat) : Int) = (a : Int) + (c : Int) + 1 by omega], rfl, hid ⟨HI.out.1, fun h1 h2 => by have h := HV.out; simpa using h⟩, HS.out.step HLt.out hst hk⟩
      | true =>
        go_wp2_with (go_at_fn g; refine hle.mono ?_; rintro e w2 ⟨rfl, hst, hk⟩)
        go_roundg (c - p)
        case measure => omega
        case rel => exact ⟨p, c, by omega, by omega, rfl, rfl, rfl, hid ⟨fun h2 => by have h := HV.out; simpa using h, HI.out.2⟩, HS.out.step HLt.out hst hk⟩
    · obtain rfl : p = q := by omega
      have hltz : ¬ (a : Int) + (p : Int) < (a : Int) + (p : Int) := by omega
      have HS := hid hS
      have HFin := hid (HM.out.one_r (q := p) hq HI.out.1 (fun h1 => HI.out.2 h1 (by omega)))
      obtain ⟨wo, rfl⟩ : ∃ wo : World, wo = wr := ⟨_, rfl⟩
      clear hS
      go_wp2_with fail
      go_loopg [15] (L.length - p) (fun gg s11 wx => ∃ u : Nat, p ≤ u ∧ u ≤ L.length ∧ gg = u - p ∧ s11 = .int .i64 ((a : Int) + (u : Int)) ∧ SortAt St blk w wx (lsBox g lb sf sb) (A ++ (L.take u ++ (y :: (L.drop u ++ B)))))
      case atStart => exact ⟨L.length, hq, Nat.le_refl _, rfl, by rw [show (a : Int) + ((L.length : Nat) : Int) = (m : Int) by have := Hm.out; omega], by simpa using HS.out⟩
      case round =>
        obtain ⟨u, hu1, hu2, rfl, rfl, hS⟩ := hrel
        obtain ⟨c0, c1⟩ := hS.cells
        by_cases hlt2 : p < u
        · have hltz2 : (a : Int) + (p : Int) < (a : Int) + (u : Int) := by omega
          obtain ⟨t, ht⟩ : ∃ t, u = t + 1 := ⟨u - 1, by omega⟩
          have htR : t < L.length := by omega
          have et : L.drop t = L[t] :: L.drop u := by rw [ht]; exact List.drop_eq_getElem_cons htR
          have ek : L.take u = L.take t ++ [L[t]] := by rw [ht]; exact List.take_succ_eq_append_getElem htR
          have hst := hS.st
          have e1 : A ++ (L.take u ++ (y :: (L.drop u ++ B))) = (A ++ L.take t) ++ (L[t] :: y :: (L.drop u ++ B)) := by rw [ek]; simp only [List.append_assoc, List.cons_append, List.nil_append]
          rw [e1] at hst
          have hal : (A ++ L.take t).length = a + t := by have := HL.out; simp; omega
          have hln : ((A ++ L.take t) ++ (L[t] :: y :: (L.drop u ++ B))).length = n := by have := HL.out; simp at hal ⊢; omega
          obtain ⟨w2, hs, hst2, hk⟩ := HE.out.swap wr _ (a + t + 1) (a + t) hst hln (by have := HL.out; have := Hm.out; omega) (by have := HL.out; have := Hm.out; omega) (by omega)
          rw [swapL_back _ _ _ _ hal] at hst2
          rw [show (((a + t : Nat) : Int)) = (a : Int) + (u : Int) - 1 by omega, show (((a + t + 1 : Nat) : Int)) = (a : Int) + (u : Int) by omega] at hs
          have e2 : (A ++ L.take t) ++ (y :: L[t] :: (L.drop u ++ B)) = A ++ (L.take t ++ (y :: (L.drop t ++ B))) := by rw [et]; simp only [List.append_assoc, List.cons_append]
          rw [e2] at hst2
          have HS2 := hid hS
          have HSt := hid hst2
          have HK := hid hk
          have Ht := hid ht
          clear hS hst hst2 hk e1 e2 et ek hal hln ht
          go_wp2_with fail
          go_roundg (t - p)
          case measure => have := Ht.out; omega
          case rel => exact ⟨t, by have := Ht.out; omega, by omega, rfl, by rw [show (a : Int) + (t : Int) = (a : Int) + (u : Int) - 1 by have := Ht.out; omega], HS2.out.step HLt.out HSt.out HK.out⟩
        · obtain rfl : p = u := by omega
          have hltz2 : ¬ (a : Int) + (p : Int) < (a : Int) + (p : Int) := by omega
          have HS2 := hid hS
          clear hS
          go_wp2_with fail
          refine bodyPost_ret (results_none rfl _ _ _) rfl ?_
          exact ⟨rfl, ⟨_, HFin.out.1, HFin.out.2, by have h := HS2.out.st; simpa only [List.append_assoc, List.cons_append] using h⟩, HS2.out.keep⟩

/-- the search's halves -/
def HalfC1 (r : α → Int) (L R : List (α × Nat)) (a m n0 lo s : Nat) : Prop := ∀ x y, lo < s → L[s - 1 - a]? = some x → R[n0 - s - m]? = some y → ltT r x y
def HalfC2 (r : α → Int) (L R : List (α × Nat)) (a m n0 hi t : Nat) : Prop := ∀ x y, t < hi → R[n0 - 1 - t - m]? = some x → L[t - a]? = some y → ltT r x y

/-- what a merge of fewer does -/
def SymSaid (g : Nat) (lb : Array Value) (sf : Nat) (sb : Array Value) (blk n : Nat) (r : α → Int) (St : World → List (α × Nat) → Prop) (N : Nat) : Prop :=
  ∀ (w : World) (A L R B : List (α × Nat)) (a m b : Nat), L.length + R.length ≤ N → A.length = a → a + L.length = m → m + R.length = b → 0 < L.length → 0 < R.length → Mrg r L R → St w (A ++ (L ++ (R ++ B))) → (A ++ (L ++ (R ++ B))).length = n →
    Calls Tryd.prog 72 #[lsV g lb sf sb, .int .i64 a, .int .i64 m, .int .i64 b] w fun e w' => e = .returned (.tuple #[]) ∧ (∃ S, S.Perm (L ++ R) ∧ SortT r S ∧ St w' (A ++ (S ++ B))) ∧ Keeps (fun k => k = blk) w w'

set_option maxRecDepth 100000 in
set_option maxHeartbeats 2000000 in
theorem sm_mid (E : SortEnv g lb sf sb blk n (fun x : α × Nat => r x.1) St) (N : Nat) (IH : SymSaid g lb sf sb blk n r St N) (w : World) (A L R B : List (α × Nat)) (a m b : Nat) (hN : L.length + R.length ≤ N + 1) (ha : A.length = a) (hm : a + L.length = m) (hb : m + R.length = b) (h1 : 2 ≤ L.length) (h2 : 2 ≤ R.length) (hM : Mrg r L R)
    (h : St w (A ++ (L ++ (R ++ B)))) (hn : (A ++ (L ++ (R ++ B))).length = n) (hn2 : n ≤ 1000000) :
    Calls Tryd.prog 72 #[lsV g lb sf sb, .int .i64 a, .int .i64 m, .int .i64 b] w fun e w' => e = .returned (.tuple #[]) ∧ (∃ S, S.Perm (L ++ R) ∧ SortT r S ∧ St w' (A ++ (S ++ B))) ∧ Keeps (fun k => k = blk) w w' := by
  have hlt := E.lt _ _ h
  have eg := E.eg
  have hS0 := E.start h
  have hnn : A.length + (L.length + (R.length + B.length)) = n := by simpa using hn
  have HE := hid E
  have HIH := hid IH
  have HS0 := hid hS0
  have HL := hid (And.intro ha (And.intro hm (And.intro hb (And.intro hnn (And.intro h1 (And.intro h2 hN))))))
  have HM := hid hM
  have hb1 : a ≤ 1000000 := by omega
  have hb2 : b ≤ 1000000 := by omega
  have hb3 : m ≤ 1000000 := by omega
  have HN2 := hid hn2
  have HLt := hid hlt
  have t1 : ((m : Int) - (a : Int) == 1) = false := beqF (by omega)
  have t2 : ((b : Int) - (m : Int) == 1) = false := beqF (by omega)
  clear E IH h hS0 hn hnn ha hb hn2 hlt hM hm h1 h2 hN
  unfold lsV
  go_enter Tryd.func72, Tryd.ntmps72
  go_upto_region 26 with fail
  clear t1 t2
  obtain ⟨mid, hmid⟩ : ∃ mid : Nat, (a + b) / 2 = mid := ⟨_, rfl⟩
  have em : ((a : Int) + (b : Int)) / 2 = (mid : Int) := by omega
  rw [em]
  have Hmid := hid hmid
  obtain ⟨n0, hn0⟩ : ∃ n0 : Nat, mid + m = n0 := ⟨_, rfl⟩
  have Hn0 := hid hn0
  have hmb : mid ≤ 1000000 := by omega
  have en : (mid : Int) + (m : Int) = (n0 : Int) := by omega
  clear em hmid hn0
  obtain ⟨w1, hw1⟩ : ∃ w1, w.alloc (.cells (lsBox g lb sf sb) 133) = w1 := ⟨_, rfl⟩
  go_upto_if 106 with fail
  obtain ⟨lo, hlo⟩ : ∃ lo : Nat, (if mid < m then n0 - b else a) = lo := ⟨_, rfl⟩
  obtain ⟨hi, hhi⟩ : ∃ hi : Nat, (if mid < m then mid else m) = hi := ⟨_, rfl⟩
  have Hlh : Hid (a ≤ lo ∧ lo ≤ hi ∧ hi ≤ m ∧ hi ≤ mid ∧ n0 ≤ lo + b ∧ (lo = a ∨ n0 = lo + b) ∧ (hi = mid ∨ hi = m)) := hid (by
    have q1 := HL.out
    have q2 := Hmid.out
    have q3 := Hn0.out
    by_cases hc : mid < m
    · rw [if_pos hc] at hlo hhi; omega
    · rw [if_neg hc] at hlo hhi; omega)
  have HS1 := HS0
  rw [hw1] at HS1
  have Hlo := hid hlo
  have Hhi := hid hhi
  clear hlo hhi hw1
  go_cut [18, 19] (fun s18 s19 wx => s18 = .int .i64 lo ∧ s19 = .int .i64 hi ∧ wx = w1)
  case first =>
    by_cases hc : mid < m
    · have hcz : (mid : Int) < (m : Int) := by omega
      have e1 : (n0 : Int) - (b : Int) = (lo : Int) := by have := Hlo.out; rw [if_pos hc] at this; have := HL.out; have := Hmid.out; have := Hn0.out; omega
      have e2 : hi = mid := by have := Hhi.out; rw [if_pos hc] at this; omega
      have He2 := hid e2
      clear hc e2
      go_wp2_with fail
      go_meet
      exact ⟨rfl, by rw [He2.out], rfl⟩
    · have hcz : ¬ (mid : Int) < (m : Int) := by omega
      have e1 : lo = a := by have := Hlo.out; rw [if_neg hc] at this; omega
      have e2 : hi = m := by have := Hhi.out; rw [if_neg hc] at this; omega
      have He1 := hid e1
      have He2 := hid e2
      clear hc e1 e2
      go_wp2_with fail
      go_meet
      exact ⟨by rw [He1.out], by rw [He2.out], rfl⟩
  case rest =>
    obtain ⟨rfl, rfl, rfl⟩ := hcut
    obtain ⟨w1, rfl⟩ : ∃ w1 : World, w1 = wc := ⟨_, rfl⟩
    have hlb : lo ≤ 1000000 := by have := Hlh.out; omega
    have hhb : hi ≤ 1000000 := by have := Hlh.out; omega
    have hn0b : 1 ≤ n0 ∧ n0 ≤ 2000000 := by have := HL.out; have := Hn0.out; omega
    obtain ⟨hn01, hn02⟩ := hn0b
    go_wp2_with fail
    clear en
    go_loopg [18, 19] (hi - lo) (fun gg s18 s19 wx => ∃ s t : Nat, lo ≤ s ∧ s ≤ t ∧ t ≤ hi ∧ gg = t - s ∧ s18 = .int .i64 s ∧ s19 = .int .i64 t ∧ Hid (HalfC1 r L R a m n0 lo s ∧ HalfC2 r L R a m n0 hi t) ∧ SortAt St blk w wx (lsBox g lb sf sb) (A ++ (L ++ (R ++ B))))
    case atStart => exact ⟨lo, hi, Nat.le_refl _, Hlh.out.2.1, Nat.le_refl _, rfl, rfl, rfl, hid ⟨fun x y h => absurd h (by omega), fun x y h => absurd h (by omega)⟩, HS1.out⟩
    case round =>
      obtain ⟨s, t, hls, hst, hth, rfl, rfl, rfl, HI, hS⟩ := hrel
      by_cases hlt : s < t
      · have hltz : (s : Int) < (t : Int) := by omega
        obtain ⟨c0, c1⟩ := hS.cells
        go_upto_region 36 with fail
        have em : ((s : Int) + (t : Int)) / 2 = (((s + t) / 2 : Nat) : Int) := by omega
        have hm1 : s ≤ (s + t) / 2 := by omega
        have hm2 : (s + t) / 2 < t := by omega
        rw [em]
        generalize (s + t) / 2 = c at hm1 hm2 ⊢
        clear em
        obtain ⟨f1, f2, f3, f4, f5, f6⟩ : c - a < L.length ∧ n0 - 1 - c - m < R.length ∧ m ≤ n0 - 1 - c ∧ a ≤ c ∧ c + 1 ≤ n0 ∧ n0 - 1 - c < b := by
          have q1 := HL.out
          have q2 := Hn0.out
          have q3 := Hlh.out
          omega
        have hln : (A ++ (L ++ (R ++ B))).length = n := by have := HL.out; simp; omega
        have hi1 : n0 - 1 - c < (A ++ (L ++ (R ++ B))).length := by have := HL.out; omega
        have hi0 : c < (A ++ (L ++ (R ++ B))).length := by have := HL.out; omega
        have hle := HE.out.less wr _ (n0 - 1 - c) c hS.st hln hi1 hi0 (by have := Hlh.out; omega)
        have g1 : (A ++ (L ++ (R ++ B)))[n0 - 1 - c] = R[n0 - 1 - c - m] := get_three (A := A) (L := L) (by have := HL.out; omega) f2 hi1
        have g0 : (A ++ (L ++ (R ++ B)))[c] = L[c - a] := get_two (A := A) (by have := HL.out; omega) f1 hi0
        rw [g0, g1, show (((n0 - 1 - c : Nat) : Int)) = (n0 : Int) - 1 - (c : Int) by omega] at hle
        obtain ⟨v, hv⟩ : ∃ v, decide (r R[n0 - 1 - c - m].1 < r L[c - a].1) = v := ⟨_, rfl⟩
        rw [hv] at hle
        have HS := hid hS
        have HV := hid hv
        have HTg := hid (HM.out.tag _ (List.getElem_mem f1) _ (List.getElem_mem f2))
        have HF := hid (And.intro f1 (And.intro f2 (And.intro f3 (And.intro f4 f5))))
        clear hS g0 g1 hi1 hi0 hln hv f3 f4 f6
        have f7 : (0 : Int) ≤ (n0 : Int) - 1 - (c : Int) := by omega
        cases v with
        | false =>
          go_wp2_with (go_at_fn g; refine hle.mono ?_; rintro e w2 ⟨rfl, hst2, hk⟩)
          go_roundg (t - (c + 1))
          case measure => omega
          case rel =>
            refine ⟨c + 1, t, by omega, by omega, hth, rfl, by go_num, rfl, hid ⟨fun x y h k1 k2 => ?_, HI.out.2⟩, HS.out.step HLt.out hst2 hk⟩
            rw [show c + 1 - 1 - a = c - a by omega, List.getElem?_eq_getElem HF.out.1] at k1
            rw [show n0 - (c + 1) - m = n0 - 1 - c - m by omega, List.getElem?_eq_getElem HF.out.2.1] at k2
            cases k1
            cases k2
            exact ltT.of_not (by have h := HV.out; simpa using h) HTg.out
        | true =>
          go_wp2_with (go_at_fn g; refine hle.mono ?_; rintro e w2 ⟨rfl, hst2, hk⟩)
          go_roundg (c - s)
          case measure => omega
          case rel =>
            refine ⟨s, c, hls, by omega, by omega, rfl, rfl, rfl, hid ⟨HI.out.1, fun x y h k1 k2 => ?_⟩, HS.out.step HLt.out hst2 hk⟩
            rw [List.getElem?_eq_getElem HF.out.2.1] at k1
            rw [List.getElem?_eq_getElem HF.out.1] at k2
            cases k1
            cases k2
            exact .inl (by have h := HV.out; simpa using h)
      · obtain rfl : s = t := by omega
        have hltz : ¬ (s : Int) < (s : Int) := by omega
        obtain ⟨e, he⟩ : ∃ e : Nat, n0 = s + e := ⟨n0 - s, by have := Hlh.out; have := Hn0.out; omega⟩
        have hez : (n0 : Int) - (s : Int) = (e : Int) := by omega
        have heb : e ≤ 1000000 := by have := HL.out; have := Hlh.out; omega
        have HEe := hid he
        have HS := hid hS
        obtain ⟨wo, rfl⟩ : ∃ wo : World, wo = wr := ⟨_, rfl⟩
        clear hS he
        go_upto_region 40 with fail
        obtain ⟨i1, hi1⟩ : ∃ i1, s - a = i1 := ⟨_, rfl⟩
        obtain ⟨i2, hi2⟩ : ∃ i2, e - m = i2 := ⟨_, rfl⟩
        have HX : Hid (s = a + i1 ∧ e = m + i2 ∧ mid = a + i1 + i2 ∧ i1 ≤ L.length ∧ i2 ≤ R.length) := hid (by
          have q1 := HL.out
          have q2 := Hn0.out
          have q3 := Hlh.out
          have q4 := HEe.out
          omega)
        have HC1 : Hid (∀ x y, 0 < i1 → L[i1 - 1]? = some x → R[i2]? = some y → ltT r x y) := hid (fun x y h k1 k2 => by
          have q1 := HL.out
          have q2 := Hn0.out
          have q3 := Hlh.out
          have q4 := HEe.out
          have q5 := HX.out
          have q6 : i2 < R.length := by
            rcases Nat.lt_or_ge i2 R.length with h | h
            · exact h
            · rw [List.getElem?_eq_none h] at k2; cases k2
          exact HI.out.1 x y (by omega) (by rw [show s - 1 - a = i1 - 1 by omega]; exact k1) (by rw [show n0 - s - m = i2 by omega]; exact k2))
        have HC2 : Hid (∀ x y, 0 < i2 → R[i2 - 1]? = some x → L[i1]? = some y → ltT r x y) := hid (fun x y h k1 k2 => by
          have q1 := HL.out
          have q2 := Hn0.out
          have q3 := Hlh.out
          have q4 := HEe.out
          have q5 := HX.out
          have q6 : i1 < L.length := by
            rcases Nat.lt_or_ge i1 L.length with h | h
            · exact h
            · rw [List.getElem?_eq_none h] at k2; cases k2
          exact HI.out.2 x y (by omega) (by rw [show n0 - 1 - s - m = i2 - 1 by omega]; exact k1) (by rw [show s - a = i1 by omega]; exact k2))
        have HSP : Hid (SortAt St blk w wo (lsBox g lb sf sb) ((A ++ L.take i1) ++ (L.drop i1 ++ (R.take i2 ++ (R.drop i2 ++ B))))) := hid (by
          have h := HS.out
          have e1 : L = L.take i1 ++ L.drop i1 := (List.take_append_drop _ _).symm
          have e2 : R = R.take i2 ++ R.drop i2 := (List.take_append_drop _ _).symm
          rw [e1, e2] at h
          simpa only [List.append_assoc] using h)
        have HLn : Hid ((L.take i1).length = i1 ∧ (L.drop i1).length = m - s ∧ (R.take i2).length = i2 ∧ (R.drop i2).length = b - e) := hid (by
          have q1 := HL.out
          have q5 := HX.out
          simp only [List.length_take, List.length_drop]
          omega)
        have hPM : Mrg r (L.take i1) (R.take i2) ∧ Mrg r (L.drop i1) (R.drop i2) := Mrg.parts (by rw [List.take_append_drop, List.take_append_drop]; exact HM.out)
        have HPM := hid hPM
        have HMid := hid (fun S1 S2 => mid_ok (S1 := S1) (S2 := S2) HM.out HX.out.2.2.2.1 HX.out.2.2.2.2 HC1.out HC2.out)
        clear hi1 hi2 hPM HI hez
        obtain ⟨L1, eL1⟩ : ∃ X, L.take i1 = X := ⟨_, rfl⟩
        obtain ⟨L2, eL2⟩ : ∃ X, L.drop i1 = X := ⟨_, rfl⟩
        obtain ⟨R1, eR1⟩ : ∃ X, R.take i2 = X := ⟨_, rfl⟩
        obtain ⟨R2, eR2⟩ : ∃ X, R.drop i2 = X := ⟨_, rfl⟩
        rw [eL1, eL2, eR1, eR2] at HSP HLn HPM
        rw [eL1, eL2, eR1, eR2] at HMid
        clear eL1 eL2 eR1 eR2
        obtain ⟨rb, hrb⟩ : ∃ rb, (decide (s < m) && decide (m < e)) = rb := ⟨_, rfl⟩
        have HRb := hid hrb
        clear hrb
        go_cut [145] (fun s145 wx => s145 = .bool rb ∧ wx = wo)
        case first =>
          by_cases k1 : s < m
          · have d1 : decide (s < m) = true := decT (by omega)
            by_cases k2 : m < e
            · have d2 : decide (m < e) = true := decT (by omega)
              have HE1 := hid (show true = rb by rw [← HRb.out, decT k1, decT k2]; rfl)
              clear k1 k2
              go_wp2_with fail
              go_meet
              exact ⟨by rw [HE1.out], rfl⟩
            · have d2 : decide (m < e) = false := decF (by omega)
              have HE1 := hid (show false = rb by rw [← HRb.out, decT k1, decF k2]; rfl)
              clear k1 k2
              go_wp2_with fail
              go_meet
              exact ⟨by rw [HE1.out], rfl⟩
          · have d1 : decide (s < m) = false := decF (by omega)
            have HE1 := hid (show false = rb by rw [← HRb.out, decF k1]; rfl)
            clear k1
            go_wp2_with fail
            go_meet
            exact ⟨by rw [HE1.out], rfl⟩
        case rest =>
          obtain ⟨rfl, rfl⟩ := hcut
          obtain ⟨w2, rfl⟩ : ∃ w2 : World, w2 = wc := ⟨_, rfl⟩
          go_upto_if 145 with fail
          go_cut [150] (fun s150 wx => SortAt St blk w wx (lsBox g lb sf sb) (A ++ (L1 ++ (R1 ++ (L2 ++ (R2 ++ B))))))
          case first =>
            cases rb with
            | false =>
              go_wp2_with fail
              go_meet
              have h := HSP.out
              have q := HRb.out
              have ql := HLn.out
              have hor : L2 = [] ∨ R1 = [] := by
                by_cases k1 : s < m
                · rw [decT k1] at q
                  have k2 : ¬ m < e := by simpa using q
                  exact .inr (List.eq_nil_of_length_eq_zero (by have := HX.out; omega))
                · exact .inl (List.eq_nil_of_length_eq_zero (by omega))
              rcases hor with rfl | rfl
              · simpa only [List.append_assoc, List.nil_append] using h
              · simpa only [List.append_assoc, List.nil_append] using h
            | true =>
              obtain ⟨c0, c1⟩ := HSP.out.cells
              have hkk : s < m ∧ m < e := by have q := HRb.out; simpa using q
              have hc := rotate_any HE.out w2 (A ++ L1) L2 R1 (R2 ++ B) s m e (by have := HL.out; have := HX.out; have := HLn.out; simp; omega) (by have := HL.out; have := HX.out; have := HLn.out; simp; omega) (by have := HL.out; have := HX.out; have := HLn.out; omega) (by have := HLn.out; omega) (by have := HLn.out; have := HX.out; omega) HSP.out.st (by have := HL.out; have := HX.out; have := HLn.out; simp; omega) HN2.out
              have HC := hid hc
              clear hc hkk
              unfold lsV at HC
              go_wp2_with fail
              refine HC.out.mono ?_
              rintro e w3 ⟨rfl, hst, hk⟩
              have HSt := hid hst
              have HK := hid hk
              clear hst hk
              go_wp2_with fail
              go_meet
              exact HSP.out.step HLt.out (by have h := HSt.out; simpa only [List.append_assoc] using h) HK.out
          case rest =>
            have HS4 := hid hcut
            obtain ⟨w4, rfl⟩ : ∃ w4 : World, w4 = wc := ⟨_, rfl⟩
            clear hcut
            go_upto_region 42 with fail
            obtain ⟨ra, hra⟩ : ∃ ra, (decide (a < s) && decide (s < mid)) = ra := ⟨_, rfl⟩
            have HRa := hid hra
            clear hra
            go_cut [158] (fun s158 wx => s158 = .bool ra ∧ wx = w4)
            case first =>
              by_cases k1 : a < s
              · have d1 : decide (a < s) = true := decT (by omega)
                by_cases k2 : s < mid
                · have d2 : decide (s < mid) = true := decT (by omega)
                  have HE1 := hid (show true = ra by rw [← HRa.out, decT k1, decT k2]; rfl)
                  clear k1 k2
                  go_wp2_with fail
                  go_meet
                  exact ⟨by rw [HE1.out], rfl⟩
                · have d2 : decide (s < mid) = false := decF (by omega)
                  have HE1 := hid (show false = ra by rw [← HRa.out, decT k1, decF k2]; rfl)
                  clear k1 k2
                  go_wp2_with fail
                  go_meet
                  exact ⟨by rw [HE1.out], rfl⟩
              · have d1 : decide (a < s) = false := decF (by omega)
                have HE1 := hid (show false = ra by rw [← HRa.out, decF k1]; rfl)
                clear k1
                go_wp2_with fail
                go_meet
                exact ⟨by rw [HE1.out], rfl⟩
            case rest =>
              obtain ⟨rfl, rfl⟩ := hcut
              obtain ⟨w4, rfl⟩ : ∃ w4 : World, w4 = wc := ⟨_, rfl⟩
              go_upto_if 158 with fail
              go_cut [163] (fun s163 wx => ∃ S1, S1.Perm (L1 ++ R1) ∧ SortT r S1 ∧ SortAt St blk w wx (lsBox g lb sf sb) (A ++ (S1 ++ (L2 ++ (R2 ++ B)))))
              case first =>
                cases ra with
                | false =>
                  go_wp2_with fail
                  go_meet
                  have h := HS4.out
                  have q := HRa.out
                  have ql := HLn.out
                  have hor : L1 = [] ∨ R1 = [] := by
                    by_cases k1 : a < s
                    · rw [decT k1] at q
                      have k2 : ¬ s < mid := by simpa using q
                      exact .inr (List.eq_nil_of_length_eq_zero (by have := HX.out; omega))
                    · exact .inl (List.eq_nil_of_length_eq_zero (by have := HX.out; omega))
                  rcases hor with rfl | rfl
                  · exact ⟨R1, by simp, HPM.out.1.r, by simpa only [List.append_assoc, List.nil_append] using h⟩
                  · exact ⟨L1, by simp, HPM.out.1.l, by simpa only [List.append_assoc, List.nil_append] using h⟩
                | true =>
                  obtain ⟨c0, c1⟩ := HS4.out.cells
                  have hkk : a < s ∧ s < mid := by have q := HRa.out; simpa using q
                  have hc := HIH.out w4 A L1 R1 (L2 ++ (R2 ++ B)) a s mid (by have := Hmid.out; have := HL.out; have := HX.out; have := HLn.out; omega) HL.out.1 (by have := HX.out; have := HLn.out; omega) (by have := HX.out; have := HLn.out; omega) (by have := HX.out; have := HLn.out; omega) (by have := HX.out; have := HLn.out; omega) HPM.out.1 HS4.out.st (by have := HL.out; have := HX.out; have := HLn.out; simp; omega)
                  have HC := hid hc
                  clear hc hkk
                  unfold lsV at HC
                  go_wp2_with fail
                  refine HC.out.mono ?_
                  rintro e w3 ⟨rfl, ⟨S1, hp1, hs1, hst⟩, hk⟩
                  have HSt := hid hst
                  have HK := hid hk
                  have HP1 := hid hp1
                  have HS1' := hid hs1
                  clear hst hk hp1 hs1
                  go_wp2_with fail
                  go_meet
                  exact ⟨S1, HP1.out, HS1'.out, HS4.out.step HLt.out HSt.out HK.out⟩
              case rest =>
                obtain ⟨S1, hp1, hs1, hS5⟩ := hcut
                have HP1 := hid hp1
                have HSs1 := hid hs1
                have HS5 := hid hS5
                obtain ⟨w5, rfl⟩ : ∃ w5 : World, w5 = wc := ⟨_, rfl⟩
                have hl1 := hp1.length_eq
                have HL1 := hid hl1
                clear hp1 hs1 hS5 hl1
                have hno : (¬ mid < e ∨ ¬ e < b) → (∃ S2, S2.Perm (L2 ++ R2) ∧ SortT r S2 ∧ SortAt St blk w w5 (lsBox g lb sf sb) (A ++ (S1 ++ (S2 ++ B)))) := fun hh => by
                  have h := HS5.out
                  have ql := HLn.out
                  have qx := HX.out
                  have hor : L2 = [] ∨ R2 = [] := by
                    rcases hh with k1 | k1
                    · exact .inl (List.eq_nil_of_length_eq_zero (by omega))
                    · exact .inr (List.eq_nil_of_length_eq_zero (by omega))
                  rcases hor with rfl | rfl
                  · exact ⟨R2, by simp, HPM.out.2.r, by simpa only [List.append_assoc, List.nil_append] using h⟩
                  · exact ⟨L2, by simp, HPM.out.2.l, by simpa only [List.append_assoc, List.nil_append] using h⟩
                have hfin : ∀ S2 wx, S2.Perm (L2 ++ R2) → SortT r S2 → SortAt St blk w wx (lsBox g lb sf sb) (A ++ (S1 ++ (S2 ++ B))) → (∃ S, S.Perm (L ++ R) ∧ SortT r S ∧ St wx (A ++ (S ++ B))) ∧ Keeps (fun k => k = blk) w wx := fun S2 wx hp hs hS => by
                  obtain ⟨k1, k2⟩ := HMid.out S1 S2 HP1.out HSs1.out hp hs
                  exact ⟨⟨S1 ++ S2, k1, k2, by have h := hS.st; simpa only [List.append_assoc] using h⟩, hS.keep⟩
                have HNo := hid hno
                have HFn := hid hfin
                clear hno hfin
                by_cases k1 : mid < e
                · have d1 : decide (mid < e) = true := decT (by omega)
                  by_cases k2 : e < b
                  · have d2 : decide (e < b) = true := decT (by omega)
                    obtain ⟨c0, c1⟩ := HS5.out.cells
                    have hc := HIH.out w5 (A ++ S1) L2 R2 B mid e b (by have := Hmid.out; have := HL.out; have := HX.out; have := HLn.out; omega) (by have := HL.out; have := HX.out; have := HLn.out; have := HL1.out; simp at *; omega) (by have := HX.out; have := HLn.out; have := HL.out; omega) (by have := HX.out; have := HLn.out; have := HL.out; omega) (by have := HX.out; have := HLn.out; have := HL.out; omega) (by have := HX.out; have := HLn.out; omega) HPM.out.2 (by have h := HS5.out.st; simpa only [List.append_assoc] using h) (by have := HL.out; have := HX.out; have := HLn.out; have := HL1.out; simp at *; omega)
                    have HC := hid hc
                    clear hc k1 k2
                    unfold lsV at HC
                    go_wp2_with fail
                    refine HC.out.mono ?_
                    rintro e w3 ⟨rfl, ⟨S2, hp2, hs2, hst⟩, hk⟩
                    have HSt := hid hst
                    have HK := hid hk
                    have HP2 := hid hp2
                    have HS2' := hid hs2
                    clear hst hk hp2 hs2
                    go_wp2_with fail
                    go_end0
                    exact ⟨rfl, HFn.out S2 _ HP2.out HS2'.out (HS5.out.step HLt.out (by have h := HSt.out; simpa only [List.append_assoc] using h) HK.out)⟩
                  · have d2 : decide (e < b) = false := decF (by omega)
                    have HK2 := hid k2
                    clear k1 k2
                    go_wp2_with fail
                    go_end0
                    obtain ⟨S2, q1, q2, q3⟩ := HNo.out (.inr HK2.out)
                    exact ⟨rfl, HFn.out S2 _ q1 q2 q3⟩
                · have d1 : decide (mid < e) = false := decF (by omega)
                  have HK1 := hid k1
                  clear k1
                  go_wp2_with fail
                  go_end0
                  obtain ⟨S2, q1, q2, q3⟩ := HNo.out (.inl HK1.out)
                  exact ⟨rfl, HFn.out S2 _ q1 q2 q3⟩

/-- symMerge_func merges -/
theorem symMerge_any (E : SortEnv g lb sf sb blk n (fun x : α × Nat => r x.1) St) (hn2 : n ≤ 1000000) : ∀ N, SymSaid g lb sf sb blk n r St N := by
  intro N
  induction N with
  | zero => intro w A L R B a m b hN _ _ _ h1 h2; omega
  | succ N ih =>
    intro w A L R B a m b hN ha hm hb h1 h2 hM h hn
    by_cases c1 : L.length = 1
    · obtain ⟨x, rfl⟩ := List.length_eq_one_iff.1 c1
      exact sm_left E w A x R B a m b ha hm hb hM h hn hn2
    · by_cases c2 : R.length = 1
      · obtain ⟨y, rfl⟩ := List.length_eq_one_iff.1 c2
        exact sm_right E w A L y B a m b ha hm hb (by omega) hM h hn hn2
      · exact sm_mid E N ih w A L R B a m b hN ha hm hb (by omega) (by omega) hM h hn hn2
end
end Go.Proofs.YtkcgchpbjegneaaDoor
