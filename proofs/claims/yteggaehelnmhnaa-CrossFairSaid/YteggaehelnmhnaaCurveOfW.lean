/-
  The walk of curve.Of.
-/
import Derived.WalkKit
import Derived.WalkLawsBesides
import Derived.WalkSpells
import Derived.Deep.QuietTactic
import Derived.BigQuiet
import Derived.Deep.LoopGhost
import Derived.Deep.DeepCutAuto
import Derived.Deep.CutBlock
import Derived.Deep.AppendLies
import Derived.Maps.Own
import Derived.Maps.OwnOps
import Derived.Maps.OwnSet
import Derived.Test.YteggaehelnmhnaaRows
import Derived.Test.YteggaehelnmhnaaCurvePlain
namespace Go.Proofs.Yteggaehelnmhnaa
open Go.RowKit Go.Maps
set_option linter.unusedVariables false

abbrev MapD := DataW Unit
/-- the set of some numbers, as a map reads -/
def setI (l : List Int) : MapD := setOf (.lit (.bool true)) (l.map fun x => .int .i64 x)
theorem setI_snoc (l : List Int) (x : Int) : setI (l ++ [x]) = (setI l).put (.int .i64 x) (.lit (.bool true)) := by
  unfold setI
  rw [List.map_append]
  exact setOf_snoc _ _ _
theorem ownsMap_block {P : Program} {w w' : World} {k : TypeId} {R : Value → Option (MapD × List MemPlace)} {b n : Nat} {D : MapD} (h : w.ownsMap P k R b n D) (hb : w'.heap[b]? = w.heap[b]?) : w'.ownsMap P k R b n D := by
  obtain ⟨es, clock, h1, h2⟩ := h
  exact ⟨es, clock, hb.trans h1, h2⟩
theorem ownsMap_more {P : Program} {w : World} {k : TypeId} {R : Value → Option (MapD × List MemPlace)} {b n n' : Nat} {D : MapD} (h : w.ownsMap P k R b n D) (hn : n ≤ n') : w.ownsMap P k R b n' D := by
  obtain ⟨es, clock, h1, h2, h3, h4⟩ := h
  exact ⟨es, clock, h1, h2, by omega, h4⟩
theorem ownsMap_lt {P : Program} {w : World} {k : TypeId} {R : Value → Option (MapD × List MemPlace)} {b n : Nat} {D : MapD} (h : w.ownsMap P k R b n D) : b < w.heap.size := by
  obtain ⟨es, clock, h1, _⟩ := h
  rcases Nat.lt_or_ge b w.heap.size with h | h
  · exact h
  · rw [Array.getElem?_eq_none h] at h1; cases h1

theorem has_setI (L : List Int) (x : Int) : has (setI L) (.int .i64 x) = true ↔ x ∈ L := by
  unfold setI
  rw [has_setOf _ _ _ (by intro y hy; obtain ⟨z, _, rfl⟩ := List.mem_map.1 hy; trivial), List.any_eq_true]
  constructor
  · rintro ⟨y, hy, h⟩
    obtain ⟨z, hz, rfl⟩ := List.mem_map.1 hy
    have : z = x := by simpa [Lit.sameKey] using h
    rw [← this]; exact hz
  · intro h
    exact ⟨.int .i64 x, List.mem_map.2 ⟨x, h, rfl⟩, by simp [Lit.sameKey]⟩
theorem dd_facts (L : List Int) : (dd (L.mergeSort fun x y => decide (x ≤ y))).Nodup ∧ ∀ x, x ∈ dd (L.mergeSort fun x y => decide (x ≤ y)) ↔ x ∈ L := by
  have tr : ∀ a b c : Int, (decide (a ≤ b)) = true → (decide (b ≤ c)) = true → (decide (a ≤ c)) = true := fun a b c h1 h2 => by simp at *; omega
  have tt : ∀ a b : Int, (decide (a ≤ b) || decide (b ≤ a)) = true := fun a b => by simp; omega
  have hs := List.pairwise_mergeSort tr tt L
  have hs' : (L.mergeSort fun x y => decide (x ≤ y)).Pairwise (· ≤ ·) := hs.imp (fun h => by simpa using h)
  obtain ⟨g1, g2⟩ := dd_fold (L.mergeSort fun x y => decide (x ≤ y)) [] none List.Pairwise.nil (fun x hx => by cases hx) (fun y h => by cases h) (fun _ => rfl) hs'
  refine ⟨g1.imp (fun h => by omega), fun x => ?_⟩
  show x ∈ (List.foldl ddF ([], none) _).1 ↔ _
  rw [g2]
  simp [List.mem_mergeSort]
theorem sorted_keys {w : World} {b n : Nat} {L ss : List Int} (hown : w.ownsMap Try.prog 3 (plainElem Try.prog 4) b n (setI L)) (hp : ss.Perm (intKeys (setI L))) :
    (ss.mergeSort fun x y => decide (x ≤ y)) = dd (L.mergeSort fun x y => decide (x ≤ y)) ∧ ss.length ≤ n := by
  obtain ⟨h1, h2⟩ := dd_facts L
  have hC : CollectedI (setI L) (fun _ => false) (dd (L.mergeSort fun x y => decide (x ≤ y))) := ⟨h1, fun x => by rw [h2, has_setI]; simp⟩
  have hq := hC.perm hown (int_keyed Try.underlying3) Try.underlying3 (fun _ => rfl)
  have hps := hp.trans hq.symm
  refine ⟨(dd_sorted L ss (hps.nodup_iff.2 h1) (fun x => (hps.mem_iff).trans (h2 x))).symm, ?_⟩
  have h3 := hown.size_le
  have h4 := hp.length_eq
  obtain ⟨es, hD⟩ := hown.isMap
  rw [hD] at h3 h4
  rw [h4]
  simpa [intKeys, Maps.size] using h3

theorem ord_info : (Try.prog.info? 37).map (fun i => (i.zero, i.size, i.bytes)) = some (some (.agg #[.int .i64 0, .int .i64 0, .int .i64 0, .int .i64 0, .int .i64 0]), 5, 40) := by kernel_rfl
theorem pt_info2 : (Try.prog.info? 52).map (fun i => (i.zero, i.size, i.bytes)) = some (some (.agg #[.int .i64 0, .int .i64 0, .int .i64 0]), 3, 24) := by kernel_rfl

/-- what maps.Keys and slices.Sorted give -/
def KeysSaid : Prop := ∀ mb W, Calls Try.prog 30 #[.map mb] W fun e w' => e = .returned (.func (.func 44) #[] #[.pointer (some ⟨W.heap.size, 0, none⟩)]) ∧ w' = W.alloc (.cells #[.map mb] 60)
def SortedSaid : Prop := ∀ (b nn : Nat) (D : MapD) (g : Nat) (W : World), W.ownsMap Try.prog 3 (plainElem Try.prog 4) b nn D → Blk W g 60 #[.map (some b)] → Maps.size D ≤ 1000000 →
  Calls Try.prog 29 #[.func (.func 44) #[] #[.pointer (some ⟨g, 0, none⟩)]] W fun e w' => ∃ (v : Value) (ss : List Int), e = .returned v ∧ ss.Perm (intKeys D) ∧
    w'.ownsRow W.heap.size 3 1 v ss.length ((ss.mergeSort (fun x y => decide (x ≤ y))).map encZ) ∧ Below W.heap.size W w'

set_option maxRecDepth 100000 in
set_option maxHeartbeats 4000000 in
theorem of_any (hKeys : KeysSaid) (hSorted : SortedSaid) (A : Option Addr) (n c : Nat) (l : List Ord5) (more : Int) (w : World) (h : ElemsAt w encO 5 A n l) (hF : ∀ o ∈ l, FitO o) (hmore : Fit64 more) (hm : n ≤ 100) :
    Calls Try.prog 8 #[.slice A n c, .int .i64 more] w fun e w' => Below w.heap.size w w' ∧ ∃ A' c', e = .returned (.slice A' (curveP l more).length c') ∧ RowAt w' A' (curveP l more).length c' 52 3 (flat encT (curveP l more)) := by
  have HH := hid h
  have hl := h.1
  have HL := hid hl
  have HF := hid hF
  have HK := hid hKeys
  have HS := hid hSorted
  have HM := hid hmore
  have hmm := @run_makeMap Try.prog
  clear h hl hF hKeys hSorted
  go_enter Try.func8, Try.ntmps8
  go_upto_if 17 with (fail)
  go_cut [18] (fun s18 wx => Below w.heap.size w wx ∧ wx.ownsMap Try.prog 3 (plainElem Try.prog 4) w.heap.size 1 (setI (pricesL [] more)))
  case first =>
    have hown0 : (w.alloc (.map #[] 0)).ownsMap Try.prog 3 (plainElem Try.prog 4) w.heap.size 0 (.map [] : MapD) := World.ownsMap_made _ _ _ _
    have hb0 : Below w.heap.size w (w.alloc (.map #[] 0)) := (Below.refl _ _).alloc (Nat.le_refl _) _
    have hkey := keyOf_int_mk (k := 3) (P := Try.prog) (a := more) (q := .i64) Try.underlying3 (by unfold Fit64 at hmore; exact WalkArith.wf_i64 (by omega))
    by_cases h1 : 1 ≤ more
    · have d1 := decT h1
      have HE : Hid (setI (pricesL [] more) = (.map [] : MapD).put (.int .i64 more) (.lit (.bool true))) := hid (by unfold pricesL; rw [if_pos h1]; rfl)
      clear hmore
      go_wp2_with (at_mapUpdate; go_loud (refine wpList_mapUpdate_own _ rfl _ _ _ 60 rfl 3 4 (int_keyed Try.underlying3) Try.underlying60 _ w.heap.size 0 _ rfl hown0 (by unfold maxLen; omega) _ _ _ rfl rfl hkey _ [] (plainElem_bool Try.underlying4 true) ?_); intro w1 hown1 hgrow1)
      go_meet
      exact ⟨hb0.grown hgrow1 (by simp) (fun q hq => by cases hq; exact Nat.le_refl _), by rw [HE.out]; exact hown1⟩
    · have d1 := decF h1
      have HE : Hid (setI (pricesL [] more) = (.map [] : MapD)) := hid (by unfold pricesL; rw [if_neg h1]; rfl)
      clear hmore
      have h2 : more < 1 := by omega
      go_wp2_with fail
      go_meet
      exact ⟨hb0, by rw [HE.out]; exact ownsMap_more hown0 (by omega)⟩
  case rest =>
    obtain ⟨hB0, hM0⟩ := hcut
    have HB0 := hid hB0
    have HM0 := hid hM0
    clear hB0 hM0 hmm hmore
    go_wp2_with fail
    go_loopg [6, 22] n (fun gg s6 s22 wx => ∃ (k : Nat) (A6 : Option Addr) (n6 c6 : Nat), k ≤ n ∧ gg = n - k ∧ s22 = .int .i64 k ∧ s6 = .slice A6 n6 c6 ∧ n6 ≤ k ∧ Below w.heap.size w wx ∧ RowAt wx A6 n6 c6 37 5 (flat encO (goodL (l.take k))) ∧ (∀ g, blkOf A6 = some g → w.heap.size < g) ∧
      Hid (wx.ownsMap Try.prog 3 (plainElem Try.prog 4) w.heap.size (k + 1) (setI (pricesL (l.take k) more))))
    case atStart => exact ⟨0, none, 0, 0, Nat.zero_le _, rfl, rfl, rfl, Nat.le_refl _, HB0.out, World.ownsRow_nil _ _ _ _, by simp [blkOf], HM0⟩
    case round =>
      obtain ⟨k, A6, n6, c6, hk, rfl, rfl, rfl, hn6, hB, hR6, hup, HMo⟩ := hrel
      by_cases hlt : k < n
      · have hkl : k < l.length := by have := HL.out; omega
        obtain ⟨b, off, hA⟩ : ∃ b off, A = some ⟨b, off, none⟩ := by obtain ⟨b, off, h1, _⟩ := HH.out.2 (by omega); exact ⟨b, off, h1⟩
        subst hA
        obtain ⟨x0, x1, x2, x3, x4⟩ := ord_at (HH.out.below hB (Nat.le_refl _)) hkl
        have hltz : (k : Int) < (n : Int) := by omega
        have hi7 : (0 : Int) ≤ (k : Int) := by omega
        have HT := hid (List.take_succ_eq_append_getElem hkl)
        have HFO := hid (HF.out _ (List.getElem_mem hkl))
        obtain ⟨o, E⟩ : ∃ o, Hid (l[k] = o) := ⟨_, hid rfl⟩
        rw [E.out] at x0 x1 x2 x3 x4 HT HFO
        have hA1 : Below wr.heap.size wr (wr.alloc (.cells #[.int .i64 o.id, .int .i64 o.side, .int .i64 o.kind, .int .i64 o.price, .int .i64 o.qty] 37)) := (Below.refl _ _).alloc (Nat.le_refl _) _
        have HX := hid (Blk.new wr 37 (boxO o))
        have HB := hid (hB.trans (hA1.mono hB.size))
        have HR6 := hid (hR6.below hA1)
        have HMo1 := hid (ownsMap_block HMo.out (hA1.block _ (ownsMap_lt HMo.out)))
        have hsz := hB.size
        have HUP := hid hup
        have hml := ownsMap_lt HMo.out
        have hne3 : some wr.heap.size ≠ (Value.slice A6 n6 c6).ownBlock := by
          rw [own_slice]
          intro e
          have := hR6.lt e.symm
          omega
        have hne4 : some w.heap.size ≠ (Value.slice A6 n6 c6).ownBlock := by
          rw [own_slice]
          intro e
          have := hup _ e.symm
          omega
        obtain ⟨i0, hi0, hz0, hz1, hz2⟩ := info_parts ord_info
        clear hB hR6 hup hA1
        go_upto_region 8 with fail
        go_cut [43] (fun s43 wx => s43 = .bool (!okO o) ∧ wx = wr.alloc (.cells #[.int .i64 o.id, .int .i64 o.side, .int .i64 o.kind, .int .i64 o.price, .int .i64 o.qty] 37))
        case first =>
          clear x0 x1 x2 x3 x4
          by_cases q1 : o.qty < 1
          · have d1 := decT q1
            have HE : Hid ((!okO o) = true) := hid (by unfold okO; simp; omega)
            clear q1
            go_wp2_with fail
            go_meet
            exact ⟨by rw [HE.out], rfl⟩
          · have d1 := decF q1
            by_cases q2 : 1000000 < o.qty
            · have d2 := decT q2
              have HE : Hid ((!okO o) = true) := hid (by unfold okO; simp; omega)
              clear q1 q2
              go_wp2_with fail
              go_meet
              exact ⟨by rw [HE.out], rfl⟩
            · have d2 := decF q2
              by_cases q3 : o.side = 1
              · have d3 := bneF q3
                have HE : Hid ((!okO o) = false) := hid (by unfold okO; simp; omega)
                clear q1 q2 q3
                go_wp2_with fail
                go_meet
                exact ⟨by rw [HE.out], rfl⟩
              · have d3 := bneT q3
                by_cases q4 : o.side = 2
                · have d4 := bneF q4
                  have HE : Hid ((!okO o) = false) := hid (by unfold okO; simp; omega)
                  clear q1 q2 q3 q4
                  go_wp2_with fail
                  go_meet
                  exact ⟨by rw [HE.out], rfl⟩
                · have d4 := bneT q4
                  have HE : Hid ((!okO o) = true) := hid (by unfold okO; simp; omega)
                  clear q1 q2 q3 q4
                  go_wp2_with fail
                  go_meet
                  exact ⟨by rw [HE.out], rfl⟩
        case rest =>
          obtain ⟨rfl, rfl⟩ := hcut
          cases hok : okO o with
          | false =>
            have HG : Hid (goodL (l.take (k + 1)) = goodL (l.take k)) := hid (by rw [HT.out, goodL_snoc, if_neg (by rw [hok]; simp)]; simp)
            have HP : Hid (pricesL (l.take (k + 1)) more = pricesL (l.take k) more) := hid (by rw [HT.out, pricesL_snoc, if_neg (by rw [hok]; simp)]; simp)
            clear hok
            go_wp2_with fail
            go_roundg (n - (k + 1))
            case measure => omega
            case rel => exact ⟨k + 1, A6, n6, c6, by omega, rfl, by go_num, rfl, by omega, HB.out, by rw [HG.out]; exact HR6.out, HUP.out, by rw [HP.out]; exact hid (ownsMap_more HMo1.out (by omega))⟩
          | true =>
            have HG : Hid (goodL (l.take (k + 1)) = goodL (l.take k) ++ [o]) := hid (by rw [HT.out, goodL_snoc, if_pos hok])
            have HPP := hid (pricesL_snoc (l.take k) o more)
            rw [← HT.out] at HPP
            have HOK := hid hok
            have hA9 : Below (wr.alloc (.cells #[.int .i64 o.id, .int .i64 o.side, .int .i64 o.kind, .int .i64 o.price, .int .i64 o.qty] 37)).heap.size (wr.alloc (.cells #[.int .i64 o.id, .int .i64 o.side, .int .i64 o.kind, .int .i64 o.price, .int .i64 o.qty] 37)) ((wr.alloc (.cells #[.int .i64 o.id, .int .i64 o.side, .int .i64 o.kind, .int .i64 o.price, .int .i64 o.qty] 37)).alloc (.cells #[.int .i64 o.id, .int .i64 o.side, .int .i64 o.kind, .int .i64 o.price, .int .i64 o.qty] 37)) := (Below.refl _ _).alloc (Nat.le_refl _) _
            obtain ⟨y0, y1, y2, y3, y4⟩ := ord_box (Blk.keep HX.out hA9)
            have HMo2 := hid (ownsMap_block HMo1.out (hA9.block _ (by simp; omega)))
            have HB2 := hid (HB.out.trans (hA9.mono (by simp; omega)))
            have HO1 : Hid (World.ownsRow ((wr.alloc (.cells #[.int .i64 o.id, .int .i64 o.side, .int .i64 o.kind, .int .i64 o.price, .int .i64 o.qty] 37)).alloc (.cells #[.int .i64 o.id, .int .i64 o.side, .int .i64 o.kind, .int .i64 o.price, .int .i64 o.qty] 37)) 0 37 5 (.slice A6 n6 c6) n6 (flat encO (goodL (l.take k)))) := hid (HR6.out.alloc _)
            have hnw : ((wr.alloc (.cells #[.int .i64 o.id, .int .i64 o.side, .int .i64 o.kind, .int .i64 o.price, .int .i64 o.qty] 37)).alloc (.cells #[.int .i64 o.id, .int .i64 o.side, .int .i64 o.kind, .int .i64 o.price, .int .i64 o.qty] 37)).heap[wr.heap.size + 1]? = some (.cells (boxO o) 37 (0, 0)) := by
              have := heap_alloc_new (wr.alloc (.cells #[.int .i64 o.id, .int .i64 o.side, .int .i64 o.kind, .int .i64 o.price, .int .i64 o.qty] 37)) (.cells #[.int .i64 o.id, .int .i64 o.side, .int .i64 o.kind, .int .i64 o.price, .int .i64 o.qty] 37)
              simpa [boxO] using this
            have HNW := hid hnw
            clear hok hA9 hnw x0 x1 x2 x3 x4
            by_cases hk2 : o.kind = 2
            · have d2 := bneF hk2
              have HP : Hid (pricesL (l.take (k + 1)) more = pricesL (l.take k) more) := hid (by rw [HPP.out, if_neg (fun h => h.2 hk2)]; simp)
              clear hk2
              go_wp2_with (at_builtin; refine wpList_append_lies _ rfl _ _ 22 rfl 0 37 i0 _ 5 40 Try.underlying22 hi0 hz0 hz1 hz2 rfl (by omega) (.slice A6 n6 c6) n6 _ rfl HO1.out ⟨wr.heap.size + 1, 0, none⟩ 1 1 (encO o) rfl rfl (World.news_of_block (cs := boxO o) (t := 37) (fr := (0, 0)) HNW.out) (encO_one o) (by omega) (by unfold maxLen; omega) (by omega) (by simp) (wr.heap.size + 2) (by simp) ?_; intro gg cap w3 hown hgrow hat hlt3; have zz2 := hgrow.cell y2 hne3)
              go_roundg (n - (k + 1))
              case measure => omega
              case rel =>
                have hm3 := ownsMap_block HMo2.out (hgrow.block _ (by simp; omega) hne4)
                refine ⟨k + 1, some ⟨gg, 0, none⟩, n6 + 1, cap, by omega, rfl, by go_num, rfl, by omega, HB2.out.grown hgrow (by simp; omega) (fun x hx => by have := HUP.out x (by rw [← own_slice A6 n6 c6]; exact hx); omega), ?_, ?_, by rw [HP.out]; exact hid (ownsMap_more hm3 (by omega))⟩
                · rw [HG.out, flat_snoc]; exact hown
                · intro x hx
                  cases hx
                  rw [own_slice] at hat
                  rcases hat with h1 | h1
                  · exact HUP.out _ h1
                  · show w.heap.size < gg; omega
            · have d2 := bneT hk2
              have HP : Hid (pricesL (l.take (k + 1)) more = pricesL (l.take k) more ++ [o.price]) := hid (by rw [HPP.out, if_pos ⟨HOK.out, hk2⟩])
              have hkey := keyOf_int_mk (k := 3) (P := Try.prog) (a := o.price) (q := .i64) Try.underlying3 (by have h4 := HFO.out.2.2.2.1; unfold Fit64 at h4; exact WalkArith.wf_i64 (by omega))
              clear hk2
              go_wp2_with (first
                | (at_builtin; (refine wpList_append_lies _ rfl _ _ 22 rfl 0 37 i0 _ 5 40 Try.underlying22 hi0 hz0 hz1 hz2 rfl (by omega) (.slice A6 n6 c6) n6 _ rfl HO1.out ⟨wr.heap.size + 1, 0, none⟩ 1 1 (encO o) rfl rfl (World.news_of_block (cs := boxO o) (t := 37) (fr := (0, 0)) HNW.out) (encO_one o) (by omega) (by unfold maxLen; omega) (by omega) (by simp) (wr.heap.size + 2) (by simp) ?_); intro gg cap w3 hown hgrow hat hlt3; have zz2 := hgrow.cell y2 hne3; have zz3 := hgrow.cell y3 hne3; have hm3 := ownsMap_block HMo2.out (hgrow.block _ (by simp; omega) hne4); have HM3 := hid hm3; clear hm3)
                | (at_mapUpdate; (refine wpList_mapUpdate_own _ rfl _ _ _ 60 rfl 3 4 (int_keyed Try.underlying3) Try.underlying60 _ w.heap.size (k + 1) _ rfl HM3.out (by unfold maxLen; omega) _ _ _ rfl rfl hkey _ [] (plainElem_bool Try.underlying4 true) ?_); intro w4 hown4 hgrow4))
              go_roundg (n - (k + 1))
              case measure => omega
              case rel =>
                have hgg : w.heap.size < gg := by
                  rw [own_slice] at hat
                  rcases hat with h1 | h1
                  · exact HUP.out _ h1
                  · omega
                have hs3 := hgrow.size
                refine ⟨k + 1, some ⟨gg, 0, none⟩, n6 + 1, cap, by omega, rfl, by go_num, rfl, by omega, (HB2.out.grown hgrow (by simp; omega) (fun x hx => by have := HUP.out x (by rw [← own_slice A6 n6 c6]; exact hx); omega)).grown hgrow4 (by simp at hs3; omega) (fun x hx => by cases hx; exact Nat.le_refl _), ?_, ?_, by rw [HP.out, setI_snoc]; exact hid hown4⟩
                · rw [HG.out, flat_snoc]
                  exact World.ownsRow.kept hown hgrow4 (.inr (by intro e; have e' : gg = w.heap.size := Option.some.inj e; omega))
                · intro x hx
                  cases hx
                  exact hgg
      · obtain rfl : k = n := by omega
        have hltz : ¬ (k : Int) < (k : Int) := by omega
        have etk : l.take k = l := List.take_of_length_le (by rw [HL.out]; exact Nat.le_refl _)
        rw [etk] at hR6 HMo
        have hln := row_length encO_length (by omega) hR6
        obtain ⟨wo, rfl⟩ : ∃ wo : World, wo = wr := ⟨_, rfl⟩
        have HR6 := hid hR6
        have HB := hid hB
        have HUP := hid hup
        have hml := ownsMap_lt HMo.out
        have hsz := hB.size
        clear hB hR6 hup etk
        go_wp2_with fail
        refine (HK.out _ _).mono ?_
        rintro e w1 ⟨rfl, rfl⟩
        have hbm : (wo.alloc (.cells #[.map (some w.heap.size)] 60)).ownsMap Try.prog 3 (plainElem Try.prog 4) w.heap.size (k + 1) (setI (pricesL l more)) := ownsMap_block HMo.out (((Below.refl _ wo).alloc (Nat.le_refl _) _).block _ hml)
        have hms : Maps.size (setI (pricesL l more)) ≤ 1000000 := by have := hbm.size_le; omega
        have hcs := HS.out _ _ _ wo.heap.size _ hbm (Blk.new _ _ _) hms
        have HCS := hid hcs
        have HPM := hid hbm
        clear hcs hms hbm
        go_wp2_with fail
        refine HCS.out.mono ?_
        rintro e w2 ⟨v, ss, rfl, hperm, hown, hB2⟩
        obtain ⟨hS, hsl⟩ := sorted_keys HPM.out hperm
        rw [hS] at hown
        have hlen : ss.length = (dd ((pricesL l more).mergeSort fun x y => decide (x ≤ y))).length := by rw [← hS, List.length_mergeSort]
        rw [hlen] at hown hsl
        have HCP : Hid (curveP l more = (dd ((pricesL l more).mergeSort fun x y => decide (x ≤ y))).map (pointOf (goodL l))) := hid rfl
        generalize dd ((pricesL l more).mergeSort fun x y => decide (x ≤ y)) = S at hown hsl HCP hS hlen
        obtain ⟨Av, cv, rfl⟩ : ∃ Av cv, v = .slice Av S.length cv := by
          rcases hown.2 with ⟨h1, h2⟩ | ⟨g, cap, cur, h1, _⟩
          · exact ⟨none, 0, by rw [h1, h2]⟩
          · exact ⟨_, _, h1⟩
        have hRv : RowAt w2 Av S.length cv 3 1 (S.map encZ) := own_base0 hown
        have HRv := hid hRv
        have hgood : ∀ o ∈ goodL l, okO o = true := goodL_ok
        have HGood := hid hgood
        have hR2 := HR6.out.below (((Below.refl _ wo).alloc (Nat.le_refl _) (.cells #[.map (some w.heap.size)] 60)).trans (hB2.mono (by simp)))
        have HR2 := hid hR2
        have hB3 := HB.out.trans ((((Below.refl _ wo).alloc (Nat.le_refl _) (.cells #[.map (some w.heap.size)] 60)).trans (hB2.mono (by simp))).mono hsz)
        have HB3 := hid hB3
        have HLN := hid hln
        generalize goodL l = G at HCP HGood HR2 HLN
        clear hS hlen hperm hown hRv hgood hR2 hB3 hln
        go_wp2_with fail
        go_loopg [9, 59] S.length (fun gg s9 s59 wx => ∃ (i : Nat) (A9 : Option Addr) (c9 : Nat), i ≤ S.length ∧ gg = S.length - i ∧ s59 = .int .i64 i ∧ s9 = .slice A9 i c9 ∧ Below w2.heap.size w2 wx ∧ RowAt wx A9 i c9 52 3 (flat encT ((S.take i).map (pointOf G))) ∧ (∀ g, blkOf A9 = some g → w2.heap.size ≤ g))
        case atStart => exact ⟨0, none, 0, Nat.zero_le _, rfl, rfl, rfl, Below.refl _ _, World.ownsRow_nil _ _ _ _, by simp [blkOf]⟩
        case round =>
          obtain ⟨i, A9, c9, hi, rfl, rfl, rfl, hB, hR9, hup9⟩ := hrel
          by_cases hlt2 : i < S.length
          · have hvp : 0 < S.length := by omega
            have hRv1 := HRv.out.below hB
            obtain ⟨gv, hAv⟩ : ∃ g, Av = some ⟨g, 0, none⟩ := by
              rcases hRv1.2 with ⟨_, h0⟩ | ⟨g, cap, cur, hv, _⟩
              · omega
              · cases hv; exact ⟨g, rfl⟩
            subst hAv
            obtain ⟨gv', hgv, xv⟩ := hRv1.cell (j := i) (u := .int .i64 S[i]) (by simp [encZ, hlt2])
            cases hgv
            have hltz2 : (i : Int) < (S.length : Int) := by omega
            have hi8 : (0 : Int) ≤ (i : Int) := by omega
            have HT2 := hid (List.take_succ_eq_append_getElem hlt2)
            obtain ⟨p, E⟩ : ∃ p, Hid (S[i] = p) := ⟨_, hid rfl⟩
            rw [E.out] at xv HT2
            obtain ⟨wq, rfl⟩ : ∃ wq : World, wq = wr := ⟨_, rfl⟩
            have HBq := hid hB
            have HR9 := hid hR9
            have HUP9 := hid hup9
            have hsq := hB.size
            have h9l : ∀ g, blkOf A9 = some g → g < wq.heap.size := fun g hg => hR9.lt hg
            have H9L := hid h9l
            clear hB hR9 hup9 hRv1 h9l
            go_wp2_with fail
            go_loopg [67] n6 (fun gg s67 wx => ∃ (j : Nat) (d s : Int), j ≤ n6 ∧ gg = n6 - j ∧ s67 = .int .i64 j ∧ Below wq.heap.size wq wx ∧ Blk wx wq.heap.size 52 #[.int .i64 p, .int .i64 d, .int .i64 s] ∧ Hid (d = demL p (G.take j) ∧ s = supL p (G.take j)))
            case atStart => exact ⟨0, 0, 0, Nat.zero_le _, rfl, rfl, (Below.refl _ _).alloc (Nat.le_refl _) _, Blk.new _ _ _, hid ⟨rfl, rfl⟩⟩
            case round =>
              obtain ⟨j, d, s, hj, rfl, rfl, hB, hX, HDS⟩ := hrel
              have hGt : ∀ o ∈ G.take j, okO o = true := fun o ho => HGood.out o (List.mem_of_mem_take ho)
              have hdb := demL_bound (p := p) hGt
              have hsb := supL_bound (p := p) hGt
              rw [← HDS.out.1] at hdb
              rw [← HDS.out.2] at hsb
              have hjl : (G.take j).length ≤ j := List.length_take_le _ _
              obtain ⟨hd0, hd1⟩ := hdb
              obtain ⟨hs0, hs1⟩ := hsb
              have hd2 : d ≤ 100000000 := by omega
              have hs2 : s ≤ 100000000 := by omega
              clear hd1 hs1 hGt hjl
              by_cases hlt3 : j < n6
              · have hGl : j < G.length := by have := HLN.out; omega
                have hR3 := HR2.out.below (HBq.out.trans (hB.mono hsq))
                obtain ⟨g6, hA6⟩ : ∃ g, A6 = some ⟨g, 0, none⟩ := by
                  rcases hR3.2 with ⟨_, h0⟩ | ⟨g, cap, cur, hv, _⟩
                  · omega
                  · cases hv; exact ⟨g, rfl⟩
                subst hA6
                obtain ⟨x0, x1, x2, x3, x4⟩ := ord_own hR3 hGl
                have hltz3 : (j : Int) < (n6 : Int) := by omega
                have hi9 : (0 : Int) ≤ (j : Int) := by omega
                have HT3 := hid (List.take_succ_eq_append_getElem hGl)
                have hok := HGood.out _ (List.getElem_mem hGl)
                obtain ⟨o, E3⟩ : ∃ o, Hid (G[j] = o) := ⟨_, hid rfl⟩
                rw [E3.out] at x0 x1 x2 x3 x4 HT3 hok
                have hq := okO_qty hok
                obtain ⟨hq1, hq2⟩ := hq
                have hside : o.side = 1 ∨ o.side = 2 := by unfold okO at hok; simp at hok; exact hok.2
                have hA1 : Below wr.heap.size wr (wr.alloc (.cells #[.int .i64 o.id, .int .i64 o.side, .int .i64 o.kind, .int .i64 o.price, .int .i64 o.qty] 37)) := (Below.refl _ _).alloc (Nat.le_refl _) _
                have hX1 := Blk.keep hX hA1
                have z1 : (wr.alloc (.cells #[.int .i64 o.id, .int .i64 o.side, .int .i64 o.kind, .int .i64 o.price, .int .i64 o.qty] 37)).cell? ⟨wq.heap.size, 1, none⟩ = some (.int .i64 d) := by rw [Blk.cell hX1]; rfl
                have z2 : (wr.alloc (.cells #[.int .i64 o.id, .int .i64 o.side, .int .i64 o.kind, .int .i64 o.price, .int .i64 o.qty] 37)).cell? ⟨wq.heap.size, 2, none⟩ = some (.int .i64 s) := by rw [Blk.cell hX1]; rfl
                have f1 := Blk.frozen hX1 1
                have f2 := Blk.frozen hX1 2
                have HX1 := hid hX1
                have HB1 := hid (hB.trans (hA1.mono hB.size))
                have hxl := Blk.lt hX
                have HD1 : Hid (demL p (G.take (j + 1)) = d + demQ p o) := hid (by rw [HT3.out, demL_snoc, ← HDS.out.1])
                have HS1 : Hid (supL p (G.take (j + 1)) = s + supQ p o) := hid (by rw [HT3.out, supL_snoc, ← HDS.out.2])
                have HXw := hid hX
                have HBw := hid hB
                have hszw := hB.size
                clear hX hX1 hB hA1 hR3 hok
                rcases hside with hs | hs
                · have t1 := beqT hs
                  have t3 := beqF (show ¬ o.side = 2 by omega)
                  have hsq0 : supQ p o = 0 := by unfold supQ; rw [if_neg (by omega)]
                  by_cases hk2 : o.kind = 2
                  · have t2 := beqT hk2
                    have hdq : demQ p o = o.qty := by unfold demQ; rw [if_pos ⟨hs, .inl hk2⟩]
                    rw [hdq] at HD1
                    rw [hsq0, Int.add_zero] at HS1
                    clear hs hk2 hdq hsq0
                    go_wp2_with fail
                    go_roundg (n6 - (j + 1))
                    case measure => omega
                    case rel => exact ⟨j + 1, d + o.qty, s, by omega, rfl, by go_num, (HBw.out.setCell (Nat.le_refl _) _).alloc (by simp; omega) _, Blk.alloc (Blk.set_ HXw.out 1 (.int .i64 (d + o.qty))) _, hid ⟨HD1.out.symm, HS1.out.symm⟩⟩
                  · have t2 := beqF hk2
                    by_cases hpp : p ≤ o.price
                    · have t4 := decT hpp
                      have hdq : demQ p o = o.qty := by unfold demQ; rw [if_pos ⟨hs, .inr hpp⟩]
                      rw [hdq] at HD1
                      rw [hsq0, Int.add_zero] at HS1
                      clear hs hk2 hdq hsq0
                      go_wp2_with fail
                      go_roundg (n6 - (j + 1))
                      case measure => omega
                      case rel => exact ⟨j + 1, d + o.qty, s, by omega, rfl, by go_num, (HBw.out.setCell (Nat.le_refl _) _).alloc (by simp; omega) _, Blk.alloc (Blk.set_ HXw.out 1 (.int .i64 (d + o.qty))) _, hid ⟨HD1.out.symm, HS1.out.symm⟩⟩
                    · have t4 := decF hpp
                      have hdq : demQ p o = 0 := by unfold demQ; rw [if_neg (by omega)]
                      rw [hdq, Int.add_zero] at HD1
                      rw [hsq0, Int.add_zero] at HS1
                      clear hs hk2 hdq hsq0
                      go_wp2_with fail
                      go_roundg (n6 - (j + 1))
                      case measure => omega
                      case rel => exact ⟨j + 1, d, s, by omega, rfl, by go_num, HB1.out, HX1.out, hid ⟨HD1.out.symm, HS1.out.symm⟩⟩
                · have t1 := beqF (show ¬ o.side = 1 by omega)
                  have t3 := beqT hs
                  have hdq0 : demQ p o = 0 := by unfold demQ; rw [if_neg (by omega)]
                  by_cases hk2 : o.kind = 2
                  · have t2 := beqT hk2
                    have hsq : supQ p o = o.qty := by unfold supQ; rw [if_pos ⟨hs, .inl hk2⟩]
                    rw [hdq0, Int.add_zero] at HD1
                    rw [hsq] at HS1
                    clear hs hk2 hsq hdq0
                    go_wp2_with fail
                    go_roundg (n6 - (j + 1))
                    case measure => omega
                    case rel => exact ⟨j + 1, d, s + o.qty, by omega, rfl, by go_num, (HBw.out.setCell (Nat.le_refl _) _).alloc (by simp; omega) _, Blk.alloc (Blk.set_ HXw.out 2 (.int .i64 (s + o.qty))) _, hid ⟨HD1.out.symm, HS1.out.symm⟩⟩
                  · have t2 := beqF hk2
                    by_cases hpp : o.price ≤ p
                    · have t4 := decT hpp
                      have hsq : supQ p o = o.qty := by unfold supQ; rw [if_pos ⟨hs, .inr hpp⟩]
                      rw [hdq0, Int.add_zero] at HD1
                      rw [hsq] at HS1
                      clear hs hk2 hsq hdq0
                      go_wp2_with fail
                      go_roundg (n6 - (j + 1))
                      case measure => omega
                      case rel => exact ⟨j + 1, d, s + o.qty, by omega, rfl, by go_num, (HBw.out.setCell (Nat.le_refl _) _).alloc (by simp; omega) _, Blk.alloc (Blk.set_ HXw.out 2 (.int .i64 (s + o.qty))) _, hid ⟨HD1.out.symm, HS1.out.symm⟩⟩
                    · have t4 := decF hpp
                      have hsq : supQ p o = 0 := by unfold supQ; rw [if_neg (by omega)]
                      rw [hdq0, Int.add_zero] at HD1
                      rw [hsq, Int.add_zero] at HS1
                      clear hs hk2 hsq hdq0
                      go_wp2_with fail
                      go_roundg (n6 - (j + 1))
                      case measure => omega
                      case rel => exact ⟨j + 1, d, s, by omega, rfl, by go_num, HB1.out, HX1.out, hid ⟨HD1.out.symm, HS1.out.symm⟩⟩
              · obtain rfl : j = n6 := by omega
                have hltz3 : ¬ (j : Int) < (j : Int) := by omega
                have HDS1 : Hid (pointOf G p = (p, d, s)) := hid (by
                  have h1 := HDS.out
                  rw [List.take_of_length_le (by rw [HLN.out]; exact Nat.le_refl _)] at h1
                  unfold pointOf
                  rw [← h1.1, ← h1.2])
                have x0 : wr.cell? ⟨wq.heap.size, 0, none⟩ = some (.int .i64 p) := by rw [Blk.cell hX]; rfl
                have x1 : wr.cell? ⟨wq.heap.size, 1, none⟩ = some (.int .i64 d) := by rw [Blk.cell hX]; rfl
                have x2 : wr.cell? ⟨wq.heap.size, 2, none⟩ = some (.int .i64 s) := by rw [Blk.cell hX]; rfl
                have hB4 := HBq.out.trans (hB.mono hsq)
                have HB4 := hid hB4
                have hs4 := hB4.size
                have hO9 : World.ownsRow (wr.alloc (.cells #[.int .i64 p, .int .i64 d, .int .i64 s] 52)) 0 52 3 (.slice A9 i c9) i (flat encT ((S.take i).map (pointOf G))) := World.ownsRow.alloc (HR9.out.below hB) _
                have HO9 := hid hO9
                have hsr := hB.size
                obtain ⟨i0, hi0, hz0, hz1, hz2⟩ := info_parts pt_info2
                clear hX hB hB4 hO9 HDS
                go_wp2_with (at_builtin; refine wpList_append_lies _ rfl _ _ 29 rfl 0 52 i0 _ 3 24 Try.underlying29 hi0 hz0 hz1 hz2 rfl (by omega) (.slice A9 i c9) i _ rfl HO9.out ⟨wr.heap.size, 0, none⟩ 1 1 [.int .i64 p, .int .i64 d, .int .i64 s] rfl rfl (World.news_of_block (cs := #[.int .i64 p, .int .i64 d, .int .i64 s]) (t := 52) (fr := (0, 0)) (heap_alloc_new wr _)) (by simp [Value.oneCell']) (by omega) (by unfold maxLen; omega) (by omega) (by simp) (wr.heap.size + 1) (by simp) ?_; intro gg cap w5 hown hgrow hat hlt5)
                go_roundg (S.length - (i + 1))
                case measure => omega
                case rel =>
                  refine ⟨i + 1, some ⟨gg, 0, none⟩, cap, by omega, rfl, by go_num, rfl, (HB4.out.alloc hs4 _).grown hgrow (by simp; omega) (fun x hx => HUP9.out x (by rw [← own_slice A9 i c9]; exact hx)), ?_, ?_⟩
                  · rw [HT2.out, List.map_append, flat_append]
                    show RowAt w5 _ _ _ _ _ (flat encT ((S.take i).map (pointOf G)) ++ flat encT [pointOf G p])
                    rw [HDS1.out]
                    exact hown
                  · intro x hx
                    cases hx
                    rw [own_slice] at hat
                    rcases hat with h1 | h1
                    · exact HUP9.out _ h1
                    · show w2.heap.size ≤ gg; omega
          · obtain rfl : i = S.length := by omega
            have hltz2 : ¬ (S.length : Int) < (S.length : Int) := by omega
            rw [List.take_of_length_le (Nat.le_refl _), ← HCP.out] at hR9
            have hlc := row_length encT_length (by omega) hR9
            have HR9 := hid hR9
            have HLC := hid hlc
            have HB5 := hid (HB3.out.trans (hB.mono HB3.out.size))
            clear hR9 hlc hB
            go_wp2_with fail
            go_ret
            exact ⟨HB5.out, A9, c9, by rw [HLC.out]; rfl, by rw [HLC.out]; exact HR9.out⟩
end Go.Proofs.Yteggaehelnmhnaa
