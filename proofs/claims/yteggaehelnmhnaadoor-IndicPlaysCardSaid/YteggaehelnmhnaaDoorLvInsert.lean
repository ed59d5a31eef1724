/-
  The walk of slices.Insert of one element at indic.level.
-/
import Derived.WalkKit
import Derived.WalkLawsBesides
import Derived.WalkSpells
import Derived.Deep.RegionLaw
import Derived.Deep.AppendLies
import Derived.Deep.AppendSrc
import Derived.Lib.JoinLaws
import Derived.Lib.AppendZerosOnto
import Derived.Lib.Overlaps
import Derived.Laws.Externs
import Derived.Laws.NewBlocks
import Derived.Test.YteggaehelnmhnaaDoorCopyK
import Derived.Test.YteggaehelnmhnaaDoorMem
namespace Go.Proofs.YteggaehelnmhnaaDoor
open Go.RowKit
set_option linter.unusedVariables false

theorem level_info : (Tryd.prog.info? 63).map (fun i => (i.zero, i.size, i.bytes)) = some (some (.agg #[.int .i64 0, .int .i64 0, .int .i64 0]), 3, 24) := by kernel_rfl
theorem level_size (w : World) : (Go.sizeOf 63).run Tryd.prog w = .ok 3 w := by kernel_rfl

def InsToL (w w' : World) (A A' : Option Addr) (n c' : Nat) (qs : List Tri) : Prop :=
  RowAt w' A' n c' 63 3 (flat encT qs) ∧ Keeps (fun i => blkOf A = some i) w w' ∧ ∀ g, blkOf A' = some g → blkOf A = some g ∨ w.heap.size ≤ g

set_option maxRecDepth 100000 in
set_option maxHeartbeats 1000000 in
theorem insertL_end (w : World) (A : Option Addr) (n c : Nat) (qs : List Tri) (vb : Nat) (q : Tri) (h : RowAt w A n c 63 3 (flat encT qs)) (hv : Blk w vb 63 (encT q).toArray) (hn : n ≤ 100000) :
    Calls Tryd.prog 27 #[.slice A n c, .int .i64 n, .slice (some ⟨vb, 0, none⟩) 1 1] w fun e w' =>
      ∃ A' c', e = .returned (.slice A' (n + 1) c') ∧ InsToL w w' A A' (n + 1) c' (qs ++ [q]) := by
  obtain ⟨i0, hi0, hz0, hz1, hz2⟩ := info_parts level_info
  have hnews : ∀ j u, (encT q)[j]? = some u → w.cell? ((⟨vb, 0, none⟩ : Addr).add j) = some u := by
    have := World.news_of_block (cs := (encT q).toArray) hv
    simpa using this
  have HN := hid hnews
  have HH := hid (show w.ownsRow 0 63 3 (.slice A n c) n (flat encT qs) from h)
  clear hnews h hv
  go_enter Tryd.func27, Tryd.ntmps27
  go_wp2_with (at_builtin; refine wpList_append_lies _ (by rfl) _ _ 23 (by rfl) 0 63 i0 _ 3 24 Tryd.underlying23 hi0 hz0 hz1 hz2 rfl (by omega) (.slice A n c) n _ (by rfl) HH.out ⟨vb, 0, none⟩ 1 1 (encT q) (by rfl) (by rfl) HN.out (encT_one _) (by omega) (by unfold maxLen; omega) (by omega) (by simp) w.heap.size (by rfl) ?_; intro gg cap w3 hown hgrow hat hlt; have HO := hid hown; have HG := hid hgrow; have HT := hid hat; clear hown hgrow hat)
  all_goals
    go_ret
    refine ⟨_, _, rfl, ?_, ?_, ?_⟩
    · rw [flat_snoc]; exact HO.out
    · have := keeps_of_grownBy HG.out
      rw [own_slice] at this
      exact this
    · intro g hg
      cases hg
      have := HT.out
      rw [own_slice] at this
      exact this.imp id (fun h => by show _ ≤ gg; omega)

set_option maxRecDepth 100000 in
set_option maxHeartbeats 1000000 in
theorem insertL_shift (w : World) (b n c i : Nat) (qs : List Tri) (vb : Nat) (q : Tri) (h : RowAt w (some ⟨b, 0, none⟩) n c 63 3 (flat encT qs)) (hv : Blk w vb 63 (encT q).toArray) (hvb : vb ≠ b) (hn : n ≤ 100000) (hi : i < n) (hc : n + 1 ≤ c) :
    Calls Tryd.prog 27 #[.slice (some ⟨b, 0, none⟩) n c, .int .i64 i, .slice (some ⟨vb, 0, none⟩) 1 1] w fun e w' =>
      ∃ A' c', e = .returned (.slice A' (n + 1) c') ∧ InsToL w w' (some ⟨b, 0, none⟩) A' (n + 1) c' (qs.take i ++ q :: qs.drop i) := by
  obtain ⟨cur, hB, hnc, hcm, hcl, hct⟩ := h.whole
  obtain ⟨i0, hi0, hz0, hz1, hz2⟩ := info_parts level_info
  have hz2' : ¬ ((i : Int) = (n : Int)) := by omega
  have hw1 : IntKind.i64.wrap ((i : Int) + (1 : Int)) = (i : Int) + 1 := by rw [IntKind.wrap_i64]; omega
  have hb1 : (0 : Int) ≤ (i : Int) + 1 := by omega
  have htn : ((i : Int) + 1).toNat = i + 1 := by omega
  have hb2 : ¬ (c = i + 1) := by omega
  have hb3 : (i : Int) ≤ (n : Int) + 1 := by omega
  have hb4 : ¬ (c = i) := by omega
  have hin : i ≤ n := by omega
  have HB := hid hB
  have HV := hid hv
  have HL := hid hcl
  have HT := hid hct
  clear hB hv hcl hct
  have hov : ∀ lb cb, (callFunc 46 #[.slice (some ⟨vb, 0, none⟩) 1 1, .slice (some ⟨b, (i + 1) * 3, none⟩) lb cb]).run Tryd.prog w = .ok (.value (.bool false)) w := fun lb cb => by
    rw [run_callFunc_extern Tryd.func46 (by kernel_rfl) (by kernel_rfl) (by kernel_rfl) (e := Extern.SlicesOverlaps.overlaps #[23, 23] #[4]) (by kernel_rfl),
      Lib.run_overlaps_apart w 23 4 63 Tryd.underlying23 3 level_size ⟨vb, 0, none⟩ ⟨b, (i + 1) * 3, none⟩ 1 1 lb cb hvb 63 63 3 cur.length (Blk.shape HV.out) (by rw [Blk.shape HB.out]; simp) (by have := HL.out; omega) (Blk.frozen HV.out 0) (Blk.frozen HV.out 3)]
    rfl
  have hfl : (flat encT qs).length = n * 3 := h.1
  have hdl : ((flat encT qs).drop (i * 3)).length = (n - i) * 3 := by rw [List.length_drop, hfl]; omega
  have hcp1 : ∀ W, Blk W b 63 cur.toArray → ∀ ty dc sc dl sl, dl = n - i → n - i ≤ sl → (Builtin.copy_ #[23, 23] ty #[.slice (some ⟨b, (i + 1) * 3, none⟩) dl dc, .slice (some ⟨b, i * 3, none⟩) sl sc]).run Tryd.prog W = .ok (goInt (n - i : Nat)) (W.setRow b (splice cur ((i + 1) * 3) ((flat encT qs).drop (i * 3))).toArray) := fun W hW ty dc sc dl sl e1 e2 =>
    run_copy_rowK W _ _ ty 63 3 b ((i + 1) * 3) dl dc ⟨b, i * 3, none⟩ sl sc cur.toArray 63 ((flat encT qs).drop (i * 3)) (n - i) (by simp only [Nat.min_def]; split <;> omega) Tryd.underlying23 (by rw [hi0]; simp [hz1]) hW hdl
      (fun j v hj => by
        rw [add_none, Blk.cell hW]
        rw [List.getElem?_drop, ← HT.out, List.getElem?_take] at hj
        split at hj
        · simpa using hj
        · cases hj)
      (by rw [hdl]; simp [HL.out]; omega) (fun v hv => flat_one encT_one qs v (List.mem_of_mem_drop hv))
  have hcp2 : ∀ W c1, Blk W b 63 (List.toArray c1) → Blk W vb 63 (encT q).toArray → c1.length = c * 3 → ∀ ty dc dl, 1 ≤ dl → (Builtin.copy_ #[23, 23] ty #[.slice (some ⟨b, i * 3, none⟩) dl dc, .slice (some ⟨vb, 0, none⟩) 1 1]).run Tryd.prog W = .ok (goInt (1 : Nat)) (W.setRow b (splice c1 (i * 3) (encT q)).toArray) := fun W c1 hW hv hl ty dc dl e1 =>
    run_copy_rowK W _ _ ty 63 3 b (i * 3) dl dc ⟨vb, 0, none⟩ 1 1 c1.toArray 63 (encT q) 1 (by simp only [Nat.min_def]; split <;> omega) Tryd.underlying23 (by rw [hi0]; simp [hz1]) hW rfl
      (fun j v hj => by rw [add_none, Blk.cell hv]; simpa using hj) (by simp [hl, encT_length]; omega) (encT_one q)
  have hB1 : Blk (w.drew) b 63 cur.toArray := HB.out
  have hB2 := Blk.setRow w.drew b cur.toArray (splice cur ((i + 1) * 3) ((flat encT qs).drop (i * 3))).toArray 63 hB1
  have hV2 : Blk (w.drew.setRow b (splice cur ((i + 1) * 3) ((flat encT qs).drop (i * 3))).toArray) vb 63 (encT q).toArray := Blk.keeps (HV.out.drew) (Keeps.setRow _ _ _) (fun e => hvb e)
  have hl2 : (splice cur ((i + 1) * 3) ((flat encT qs).drop (i * 3))).length = c * 3 := by rw [length_splice _ _ _ (by rw [hdl, HL.out]; omega), HL.out]
  have hfin := splice_shift cur (flat encT qs) (encT q) i n 3 hin HT.out (encT_length q) (by rw [HL.out]; omega)
  rw [flat_insert encT_length] at hfin
  have hK1 := Keeps.setRow w.drew b (splice cur ((i + 1) * 3) ((flat encT qs).drop (i * 3))).toArray
  have hcpA := hcp1 _ hB1
  generalize splice cur ((i + 1) * 3) ((flat encT qs).drop (i * 3)) = c1 at *
  obtain ⟨W1, hW1⟩ : ∃ W1, W1 = w.drew.setRow b c1.toArray := ⟨_, rfl⟩
  rw [← hW1] at hB2 hV2 hK1 hcpA
  have HA := hid hcpA
  have HC := hid (hcp2 W1 c1 hB2 hV2 hl2)
  have HF := hid hfin
  have HK := hid hK1
  have HB2 := hid hB2
  have HL2 := hid hl2
  clear hcp1 hcp2 hcpA hfin hK1 hB2 hV2 hl2 hdl hfl hW1 hB1
  clear h
  go_enter Tryd.func27, Tryd.ntmps27
  go_wp2_with (simp only [hov])
  go_region_law (refine step_copy_at rfl (.tmp 73) (.tmp 76) 23 23 rfl (.slice (some ⟨b, (i + 1) * 3, none⟩) (n - i) (c - (i + 1))) (.slice (some ⟨b, i * 3, none⟩) (n + 1 - i) (c - i)) (by simp [Act.eval, Act.put]) (by simp [Act.eval, Act.put]) (HA.out _ _ _ _ _ rfl (by omega)) ?_)
  have hC2 := fun ty => HC.out ty (c - i) (n + 1 - i) (by omega)
  go_wp2_with (simp only [hC2])
  go_ret
  have hB3 := Blk.setRow W1 b c1.toArray (splice c1 (i * 3) (encT q)).toArray 63 HB2.out
  have hR := RowAt.of_whole (n := n + 1) (c := c) (sz := 3) hB3 hc hcm (by rw [length_splice _ _ _ (by rw [HL2.out]; simp [encT_length]; omega), HL2.out])
  rw [HF.out] at hR
  refine ⟨_, _, rfl, hR, ?_, fun g hg => .inl hg⟩
  exact ((Keeps.of_below (Below.drew (Below.refl _ w)) (fun i => blkOf (some ⟨b, 0, none⟩) = some i)).trans HK.out (fun i h => .inl (by subst h; rfl))).trans (Keeps.setRow _ _ _) (fun i h => .inl (by subst h; rfl))

set_option maxRecDepth 100000 in
set_option maxHeartbeats 1000000 in
theorem insertL_grow (w : World) (b n c i : Nat) (qs : List Tri) (vb : Nat) (q : Tri) (h : RowAt w (some ⟨b, 0, none⟩) n c 63 3 (flat encT qs)) (hv : Blk w vb 63 (encT q).toArray) (hn : n ≤ 100000) (hi : i < n) (hc : c < n + 1) :
    Calls Tryd.prog 27 #[.slice (some ⟨b, 0, none⟩) n c, .int .i64 i, .slice (some ⟨vb, 0, none⟩) 1 1] w fun e w' =>
      ∃ A' c', e = .returned (.slice A' (n + 1) c') ∧ InsToL w w' (some ⟨b, 0, none⟩) A' (n + 1) c' (qs.take i ++ q :: qs.drop i) := by
  obtain ⟨cur, hB, hnc, hcm, hcl, hct⟩ := h.whole
  obtain ⟨i0, hi0, hz0, hz1, hz2⟩ := info_parts level_info
  have hz2' : ¬ ((i : Int) = (n : Int)) := by omega
  have hz3 : (c : Int) < (n : Int) + 1 := by omega
  have hw1 : IntKind.i64.wrap ((i : Int) + (1 : Int)) = (i : Int) + 1 := by rw [IntKind.wrap_i64]; omega
  have hb1 : (0 : Int) ≤ (i : Int) + 1 := by omega
  have htn : ((i : Int) + 1).toNat = i + 1 := by omega
  have hin : i ≤ n := by omega
  have hib : (i : Int) ≤ (n : Int) := by omega
  have hci : ¬ (c = i) := by omega
  have hkk : (n : Int) + 1 - (i : Int) = ((n + 1 - i : Nat) : Int) := by omega
  have hik : i + (n + 1 - i) = n + 1 := by omega
  have hfl : (flat encT qs).length = n * 3 := h.1
  have hdl : ((flat encT qs).drop (i * 3)).length = (n - i) * 3 := by rw [List.length_drop, hfl]; omega
  have hbw := Blk.lt hB
  have hvw := Blk.lt hv
  have hold : (Builtin.firstCells i0.size i (.slice (some ⟨b, 0, none⟩) i c)).run Tryd.prog w.drew = .ok ((flat encT qs).take (i * 3)).toArray w.drew := by
    rw [hz1]
    exact run_firstCells_some w.drew 3 i ⟨b, 0, none⟩ i c _ (by rw [List.length_take, hfl]; omega) (fun j v hj => by
      rw [add_none, Blk.cell (Blk.drew hB), Nat.zero_add]
      rw [← hct, List.take_take, List.getElem?_take] at hj
      split at hj
      · simpa using hj
      · cases hj)
  obtain ⟨G, hG⟩ : ∃ G, G = grownCap w (n + 1) c 63 := ⟨_, rfl⟩
  have hGn : n + 1 ≤ G := by rw [hG]; exact grownCap_ge w _ _ _
  have hGm : G ≤ maxLen := by rw [hG]; exact grownCap_le_maxLen w (n + 1) c 63 (by unfold maxLen; omega)
  have hG63 : G ≤ 9223372036854775807 := by unfold maxLen at hGm; omega
  obtain ⟨ROW, hROW⟩ : ∃ ROW : List Value, ROW = (((flat encT qs).take (i * 3)).toArray ++ Builtin.zeroCells (Value.agg #[.int .i64 0, .int .i64 0, .int .i64 0]).cells (n + 1 - i) ++ Builtin.zeroCells (Value.agg #[.int .i64 0, .int .i64 0, .int .i64 0]).cells (G - (n + 1))).toList := ⟨_, rfl⟩
  have hRl : ROW.length = G * 3 := by
    rw [hROW]
    simp only [Array.length_toList, Array.size_append, List.size_toArray, List.length_take, hfl, size_zeroCells]
    simp [Value.cells]
    omega
  have hRt : ROW.take (i * 3) = (flat encT qs).take (i * 3) := by
    rw [hROW]
    simp only [Array.toList_append, List.append_assoc]
    exact List.take_append_of_le_length (by simp [hfl]; omega) |>.trans (by simp [List.take_take])
  have hrz : ∀ ty, (Builtin.append_ #[23, 3] ty #[.slice (some ⟨b, 0, none⟩) i c, .int .i64 ((n : Int) + 1 - (i : Int))]).run Tryd.prog w =
      .ok (.slice (some ⟨w.heap.size, 0, none⟩) (n + 1) G) (w.drew.alloc (.cells ROW.toArray 63)) := fun ty => by
    have h := Lib.run_append_grow_zeros w 23 3 ty 63 i0 _ .i64 .i64 Tryd.underlying23 Tryd.underlying3 hi0 hz0 (some ⟨b, 0, none⟩) i c ((flat encT qs).take (i * 3)) hold (n + 1 - i) (by omega) (by omega) (by omega) (by omega) (by rw [hz2]; omega) (by rw [hz2, hik]; exact growslice_fits hc (by omega))
    rw [hik, ← hG] at h
    rw [hkk, h, hROW]
  obtain ⟨W1, hW1⟩ : ∃ W1, W1 = w.drew.alloc (.cells ROW.toArray 63) := ⟨_, rfl⟩
  obtain ⟨H, hH⟩ : ∃ H, H = w.heap.size := ⟨_, rfl⟩
  have hR1 : Blk W1 H 63 ROW.toArray := by rw [hW1, hH]; exact Blk.new w.drew _ _
  have hS1 : Blk W1 b 63 cur.toArray := by rw [hW1]; exact Blk.alloc (Blk.drew hB) _
  have hV1 : Blk W1 vb 63 (encT q).toArray := by rw [hW1]; exact Blk.alloc (Blk.drew hv) _
  have hbel : Below w.heap.size w W1 := by rw [hW1]; exact (Below.drew (Below.refl _ w)).alloc (Nat.le_refl _) _
  rw [← hW1, ← hH] at hrz
  have hbH : b ≠ H := by omega
  have hvH : vb ≠ H := by omega
  have hl2 : (splice ROW (i * 3) (encT q)).length = G * 3 := by rw [length_splice _ _ _ (by rw [hRl, encT_length]; omega), hRl]
  have hcA : ∀ ty, (Builtin.copy_ #[23, 23] ty #[.slice (some ⟨H, i * 3, none⟩) (n + 1 - i) (G - i), .slice (some ⟨vb, 0, none⟩) 1 1]).run Tryd.prog W1 = .ok (goInt (1 : Nat)) (W1.setRow H (splice ROW (i * 3) (encT q)).toArray) := fun ty =>
    run_copy_rowK W1 _ _ ty 63 3 H (i * 3) (n + 1 - i) (G - i) ⟨vb, 0, none⟩ 1 1 ROW.toArray 63 (encT q) 1 (by simp only [Nat.min_def]; split <;> omega) Tryd.underlying23 (by rw [hi0]; simp [hz1]) hR1 rfl
      (fun j v hj => by rw [add_none, Blk.cell hV1]; simpa using hj) (by simp [hRl, encT_length]; omega) (encT_one q)
  have hR2 := Blk.setRow W1 H ROW.toArray (splice ROW (i * 3) (encT q)).toArray 63 hR1
  have hS2 := Blk.keeps hS1 (Keeps.setRow W1 H (splice ROW (i * 3) (encT q)).toArray) hbH
  have hk2 := Keeps.setRow W1 H (splice ROW (i * 3) (encT q)).toArray
  have hfin := splice_grow ROW (flat encT qs) (encT q) i n 3 hin hfl hRt (encT_length q) (by rw [hRl]; omega)
  rw [flat_insert encT_length] at hfin
  generalize splice ROW (i * 3) (encT q) = c2 at *
  obtain ⟨W2, hW2⟩ : ∃ W2, W2 = W1.setRow H c2.toArray := ⟨_, rfl⟩
  rw [← hW2] at hR2 hS2 hk2 hcA
  have hcB : ∀ ty, (Builtin.copy_ #[23, 23] ty #[.slice (some ⟨H, (i + 1) * 3, none⟩) (n - i) (G - (i + 1)), .slice (some ⟨b, i * 3, none⟩) (n - i) (c - i)]).run Tryd.prog W2.drew = .ok (goInt (n - i : Nat)) (W2.drew.setRow H (splice c2 ((i + 1) * 3) ((flat encT qs).drop (i * 3))).toArray) := fun ty =>
    run_copy_rowK W2.drew _ _ ty 63 3 H ((i + 1) * 3) (n - i) (G - (i + 1)) ⟨b, i * 3, none⟩ (n - i) (c - i) c2.toArray 63 ((flat encT qs).drop (i * 3)) (n - i) (by simp only [Nat.min_def]; split <;> omega) Tryd.underlying23 (by rw [hi0]; simp [hz1]) (Blk.drew hR2) hdl
      (fun j v hj => by
        rw [add_none, Blk.cell (Blk.drew hS2)]
        rw [List.getElem?_drop, ← hct, List.getElem?_take] at hj
        split at hj
        · simpa using hj
        · cases hj)
      (by rw [hdl]; simp [hl2]; omega) (fun v hv => flat_one encT_one qs v (List.mem_of_mem_drop hv))
  have hR3 := Blk.setRow W2.drew H c2.toArray (splice c2 ((i + 1) * 3) ((flat encT qs).drop (i * 3))).toArray 63 (Blk.drew hR2)
  have hk3 := Keeps.setRow W2.drew H (splice c2 ((i + 1) * 3) ((flat encT qs).drop (i * 3))).toArray
  have hl3 : (splice c2 ((i + 1) * 3) ((flat encT qs).drop (i * 3))).length = G * 3 := by rw [length_splice _ _ _ (by rw [hdl, hl2]; omega), hl2]
  have hRow := RowAt.of_whole (n := n + 1) (c := G) (sz := 3) hR3 hGn hGm hl3
  rw [hfin] at hRow
  generalize splice c2 ((i + 1) * 3) ((flat encT qs).drop (i * 3)) = c3 at *
  obtain ⟨W3, hW3⟩ : ∃ W3, W3 = W2.drew.setRow H c3.toArray := ⟨_, rfl⟩
  rw [← hW3] at hcB hk3 hRow
  have hK : Below w.heap.size w W3 := hbel.trans (((hk2.below (B := w.heap.size) (fun i h => by have : i = H := h; omega) hbel.size).trans (Below.drew (Below.refl _ W2))).trans (hk3.below (B := w.heap.size) (fun i h => by have : i = H := h; omega) (Nat.le_trans hbel.size hk2.size)))
  have HK := hid hK
  have HR := hid hRow
  have HH := hid hH
  have hGi : ¬ (G = i) := by omega
  have hGi1 : ¬ (G = i + 1) := by omega
  have HB := hid hcB
  clear hK hRow hH hk3 hl3 hR3 hcB hW3 hR2 hS2 hk2 hfin hW2 hl2 hR1 hS1 hV1 hbel hW1 hRt hRl hROW hG hold hdl hfl hkk hik hB hv h hcl hct
  go_enter Tryd.func27, Tryd.ntmps27
  go_wp2_with (first | (at_builtin; refine Lib.wpList_append_run _ rfl _ _ _ _ rfl _ _ rfl rfl _ _ (hrz _) ?_) | simp only [hcA])
  go_region_law (refine step_copy_at rfl (.tmp 50) (.tmp 53) 23 23 rfl (.slice (some ⟨H, (i + 1) * 3, none⟩) (n - i) (G - (i + 1))) (.slice (some ⟨b, i * 3, none⟩) (n - i) (c - i)) (by simp [Act.eval, Act.put]) (by simp [Act.eval, Act.put]) (HB.out _) ?_)
  go_wp2
  go_ret
  refine ⟨_, _, rfl, HR.out, Keeps.of_below HK.out _, fun g hg => .inr (by cases hg; show _ ≤ H; rw [HH.out]; exact Nat.le_refl _)⟩

/-- an element put in between -/
theorem insertL_any (w : World) (A : Option Addr) (n c i : Nat) (qs : List Tri) (vb : Nat) (q : Tri) (h : RowAt w A n c 63 3 (flat encT qs)) (hv : Blk w vb 63 (encT q).toArray) (hvb : blkOf A ≠ some vb) (hn : n ≤ 100000) (hi : i ≤ n) :
    Calls Tryd.prog 27 #[.slice A n c, .int .i64 i, .slice (some ⟨vb, 0, none⟩) 1 1] w fun e w' =>
      ∃ A' c', e = .returned (.slice A' (n + 1) c') ∧ InsToL w w' A A' (n + 1) c' (qs.take i ++ q :: qs.drop i) := by
  have hl : qs.length = n := by have := h.1; rw [flat_length encT_length] at this; omega
  by_cases e : i = n
  · subst e
    have := insertL_end w A i c qs vb q h hv hn
    rwa [List.take_of_length_le (by omega), List.drop_eq_nil_of_le (by omega)]
  · obtain ⟨g, hA, _⟩ := h.elem encT_length (by omega) (i := i) (by omega)
    subst hA
    by_cases hc : n + 1 ≤ c
    · exact insertL_shift w g n c i qs vb q h hv (fun e => hvb (by rw [e]; rfl)) hn (by omega) hc
    · exact insertL_grow w g n c i qs vb q h hv hn (by omega) (by omega)
end Go.Proofs.YteggaehelnmhnaaDoor
