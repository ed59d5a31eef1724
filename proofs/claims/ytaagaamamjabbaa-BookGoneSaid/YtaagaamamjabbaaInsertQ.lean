/-
  The walk of slices.Insert of one element at book.queue.
-/
import Derived.WalkKit
import Derived.WalkLawsBesides
import Derived.WalkSpells
import Derived.Deep.RegionLaw
import Derived.Deep.AppendLies
import Derived.Deep.AppendSrc
import Derived.Lib.JoinLaws
import Derived.Lib.AppendZerosOnto
import Derived.Lib.Overlaps
import Derived.Laws.Externs
import Derived.Laws.NewBlocks
import Derived.Test.YtaagaamamjabbaaCopyK
import Derived.Test.YtaagaamamjabbaaSearch
namespace Go.Proofs.Ytaagaamamjabbaa
open Go.RowKit
set_option linter.unusedVariables false

theorem encQ_one (q : Que) : ∀ u ∈ encQ q, u.oneCell' = true := by
  intro u hu
  simp [encQ] at hu
  rcases hu with rfl | rfl <;> rfl
theorem queue_info : (Try.prog.info? 91).map (fun i => (i.zero, i.size, i.bytes)) = some (some (.agg #[.int .i64 0, .slice none 0 0]), 2, 32) := by kernel_rfl
theorem queue_size (w : World) : (Go.sizeOf 91).run Try.prog w = .ok 2 w := by kernel_rfl

def InsTo (w w' : World) (A A' : Option Addr) (n c' : Nat) (qs : List Que) : Prop :=
  RowAt w' A' n c' 91 2 (flat encQ qs) ∧ Keeps (fun i => blkOf A = some i) w w' ∧ ∀ g, blkOf A' = some g → blkOf A = some g ∨ w.heap.size ≤ g

set_option maxRecDepth 100000 in
set_option maxHeartbeats 1000000 in
theorem insertQ_end (w : World) (A : Option Addr) (n c : Nat) (qs : List Que) (vb : Nat) (q : Que) (h : RowAt w A n c 91 2 (flat encQ qs)) (hv : Blk w vb 91 (encQ q).toArray) (hn : n ≤ 100000) :
    Calls Try.prog 43 #[.slice A n c, .int .i64 n, .slice (some ⟨vb, 0, none⟩) 1 1] w fun e w' =>
      ∃ A' c', e = .returned (.slice A' (n + 1) c') ∧ InsTo w w' A A' (n + 1) c' (qs ++ [q]) := by
  obtain ⟨i0, hi0, hz0, hz1, hz2⟩ := info_parts queue_info
  have hnews : ∀ j u, (encQ q)[j]? = some u → w.cell? ((⟨vb, 0, none⟩ : Addr).add j) = some u := by
    have := World.news_of_block (cs := (encQ q).toArray) hv
    simpa using this
  have HN := hid hnews
  have HH := hid (show w.ownsRow 0 91 2 (.slice A n c) n (flat encQ qs) from h)
  clear hnews h hv
  go_enter Try.func43, Try.ntmps43
  go_wp2_with (at_builtin; refine wpList_append_lies _ (by rfl) _ _ 71 (by rfl) 0 91 i0 _ 2 32 Try.underlying71 hi0 hz0 hz1 hz2 rfl (by omega) (.slice A n c) n _ (by rfl) HH.out ⟨vb, 0, none⟩ 1 1 (encQ q) (by rfl) (by rfl) HN.out (encQ_one _) (by omega) (by unfold maxLen; omega) (by omega) (by simp) w.heap.size (by rfl) ?_; intro gg cap w3 hown hgrow hat hlt; have HO := hid hown; have HG := hid hgrow; have HT := hid hat; clear hown hgrow hat)
  all_goals
    go_ret
    refine ⟨_, _, rfl, ?_, ?_, ?_⟩
    · rw [flat_snoc]; exact HO.out
    · have := keeps_of_grownBy HG.out
      rw [own_slice] at this
      exact this
    · intro g hg
      cases hg
      have := HT.out
      rw [own_slice] at this
      exact this.imp id (fun h => by show _ ≤ gg; omega)

set_option maxRecDepth 100000 in
set_option maxHeartbeats 1000000 in
theorem insertQ_shift (w : World) (b n c i : Nat) (qs : List Que) (vb : Nat) (q : Que) (h : RowAt w (some ⟨b, 0, none⟩) n c 91 2 (flat encQ qs)) (hv : Blk w vb 91 (encQ q).toArray) (hvb : vb ≠ b) (hn : n ≤ 100000) (hi : i < n) (hc : n + 1 ≤ c) :
    Calls Try.prog 43 #[.slice (some ⟨b, 0, none⟩) n c, .int .i64 i, .slice (some ⟨vb, 0, none⟩) 1 1] w fun e w' =>
      ∃ A' c', e = .returned (.slice A' (n + 1) c') ∧ InsTo w w' (some ⟨b, 0, none⟩) A' (n + 1) c' (qs.take i ++ q :: qs.drop i) := by
  obtain ⟨cur, hB, hnc, hcm, hcl, hct⟩ := h.whole
  obtain ⟨i0, hi0, hz0, hz1, hz2⟩ := info_parts queue_info
  have hz2' : ¬ ((i : Int) = (n : Int)) := by omega
  have hw1 : IntKind.i64.wrap ((i : Int) + (1 : Int)) = (i : Int) + 1 := by rw [IntKind.wrap_i64]; omega
  have hb1 : (0 : Int) ≤ (i : Int) + 1 := by omega
  have htn : ((i : Int) + 1).toNat = i + 1 := by omega
  have hb2 : ¬ (c = i + 1) := by omega
  have hb3 : (i : Int) ≤ (n : Int) + 1 := by omega
  have hb4 : ¬ (c = i) := by omega
  have hin : i ≤ n := by omega
  have HB := hid hB
  have HV := hid hv
  have HL := hid hcl
  have HT := hid hct
  clear hB hv hcl hct
  have hov : ∀ lb cb, (callFunc 62 #[.slice (some ⟨vb, 0, none⟩) 1 1, .slice (some ⟨b, (i + 1) * 2, none⟩) lb cb]).run Try.prog w = .ok (.value (.bool false)) w := fun lb cb => by
    rw [run_callFunc_extern Try.func62 (by kernel_rfl) (by kernel_rfl) (by kernel_rfl) (e := Extern.SlicesOverlaps.overlaps #[71, 71] #[4]) (by kernel_rfl),
      Lib.run_overlaps_apart w 71 4 91 Try.underlying71 2 queue_size ⟨vb, 0, none⟩ ⟨b, (i + 1) * 2, none⟩ 1 1 lb cb hvb 91 91 2 cur.length (Blk.shape HV.out) (by rw [Blk.shape HB.out]; simp) (by have := HL.out; omega) (Blk.frozen HV.out 0) (Blk.frozen HV.out 2)]
    rfl
  have hfl : (flat encQ qs).length = n * 2 := h.1
  have hdl : ((flat encQ qs).drop (i * 2)).length = (n - i) * 2 := by rw [List.length_drop, hfl]; omega
  have hcp1 : ∀ W, Blk W b 91 cur.toArray → ∀ ty dc sc dl sl, dl = n - i → n - i ≤ sl → (Builtin.copy_ #[71, 71] ty #[.slice (some ⟨b, (i + 1) * 2, none⟩) dl dc, .slice (some ⟨b, i * 2, none⟩) sl sc]).run Try.prog W = .ok (goInt (n - i : Nat)) (W.setRow b (splice cur ((i + 1) * 2) ((flat encQ qs).drop (i * 2))).toArray) := fun W hW ty dc sc dl sl e1 e2 =>
    run_copy_rowK W _ _ ty 91 2 b ((i + 1) * 2) dl dc ⟨b, i * 2, none⟩ sl sc cur.toArray 91 ((flat encQ qs).drop (i * 2)) (n - i) (by simp only [Nat.min_def]; split <;> omega) Try.underlying71 (by rw [hi0]; simp [hz1]) hW hdl
      (fun j v hj => by
        rw [add_none, Blk.cell hW]
        rw [List.getElem?_drop, ← HT.out, List.getElem?_take] at hj
        split at hj
        · simpa using hj
        · cases hj)
      (by rw [hdl]; simp [HL.out]; omega) (fun v hv => flat_one encQ_one qs v (List.mem_of_mem_drop hv))
  have hcp2 : ∀ W c1, Blk W b 91 (List.toArray c1) → Blk W vb 91 (encQ q).toArray → c1.length = c * 2 → ∀ ty dc dl, 1 ≤ dl → (Builtin.copy_ #[71, 71] ty #[.slice (some ⟨b, i * 2, none⟩) dl dc, .slice (some ⟨vb, 0, none⟩) 1 1]).run Try.prog W = .ok (goInt (1 : Nat)) (W.setRow b (splice c1 (i * 2) (encQ q)).toArray) := fun W c1 hW hv hl ty dc dl e1 =>
    run_copy_rowK W _ _ ty 91 2 b (i * 2) dl dc ⟨vb, 0, none⟩ 1 1 c1.toArray 91 (encQ q) 1 (by simp only [Nat.min_def]; split <;> omega) Try.underlying71 (by rw [hi0]; simp [hz1]) hW rfl
      (fun j v hj => by rw [add_none, Blk.cell hv]; simpa using hj) (by simp [hl, encQ_length]; omega) (encQ_one q)
  have hB1 : Blk (w.drew) b 91 cur.toArray := HB.out
  have hB2 := Blk.setRow w.drew b cur.toArray (splice cur ((i + 1) * 2) ((flat encQ qs).drop (i * 2))).toArray 91 hB1
  have hV2 : Blk (w.drew.setRow b (splice cur ((i + 1) * 2) ((flat encQ qs).drop (i * 2))).toArray) vb 91 (encQ q).toArray := Blk.keeps (HV.out.drew) (Keeps.setRow _ _ _) (fun e => hvb e)
  have hl2 : (splice cur ((i + 1) * 2) ((flat encQ qs).drop (i * 2))).length = c * 2 := by rw [length_splice _ _ _ (by rw [hdl, HL.out]; omega), HL.out]
  have hfin := splice_shift cur (flat encQ qs) (encQ q) i n 2 hin HT.out (encQ_length q) (by rw [HL.out]; omega)
  rw [flat_insert encQ_length] at hfin
  have hK1 := Keeps.setRow w.drew b (splice cur ((i + 1) * 2) ((flat encQ qs).drop (i * 2))).toArray
  have hcpA := hcp1 _ hB1
  generalize splice cur ((i + 1) * 2) ((flat encQ qs).drop (i * 2)) = c1 at *
  obtain ⟨W1, hW1⟩ : ∃ W1, W1 = w.drew.setRow b c1.toArray := ⟨_, rfl⟩
  rw [← hW1] at hB2 hV2 hK1 hcpA
  have HA := hid hcpA
  have HC := hid (hcp2 W1 c1 hB2 hV2 hl2)
  have HF := hid hfin
  have HK := hid hK1
  have HB2 := hid hB2
  have HL2 := hid hl2
  clear hcp1 hcp2 hcpA hfin hK1 hB2 hV2 hl2 hdl hfl hW1 hB1
  clear h
  go_enter Try.func43, Try.ntmps43
  go_wp2_with (simp only [hov])
  go_region_law (refine step_copy_at rfl (.tmp 73) (.tmp 76) 71 71 rfl (.slice (some ⟨b, (i + 1) * 2, none⟩) (n - i) (c - (i + 1))) (.slice (some ⟨b, i * 2, none⟩) (n + 1 - i) (c - i)) (by simp [Act.eval, Act.put]) (by simp [Act.eval, Act.put]) (HA.out _ _ _ _ _ rfl (by omega)) ?_)
  have hC2 := fun ty => HC.out ty (c - i) (n + 1 - i) (by omega)
  go_wp2_with (simp only [hC2])
  go_ret
  have hB3 := Blk.setRow W1 b c1.toArray (splice c1 (i * 2) (encQ q)).toArray 91 HB2.out
  have hR := RowAt.of_whole (n := n + 1) (c := c) (sz := 2) hB3 hc hcm (by rw [length_splice _ _ _ (by rw [HL2.out]; simp [encQ_length]; omega), HL2.out])
  rw [HF.out] at hR
  refine ⟨_, _, rfl, hR, ?_, fun g hg => .inl hg⟩
  exact ((Keeps.of_below (Below.drew (Below.refl _ w)) (fun i => blkOf (some ⟨b, 0, none⟩) = some i)).trans HK.out (fun i h => .inl (by subst h; rfl))).trans (Keeps.setRow _ _ _) (fun i h => .inl (by subst h; rfl))

set_option maxRecDepth 100000 in
set_option maxHeartbeats 1000000 in
theorem insertQ_grow (w : World) (b n c i : Nat) (qs : List Que) (vb : Nat) (q : Que) (h : RowAt w (some ⟨b, 0, none⟩) n c 91 2 (flat encQ qs)) (hv : Blk w vb 91 (encQ q).toArray) (hn : n ≤ 100000) (hi : i < n) (hc : c < n + 1) :
    Calls Try.prog 43 #[.slice (some ⟨b, 0, none⟩) n c, .int .i64 i, .slice (some ⟨vb, 0, none⟩) 1 1] w fun e w' =>
      ∃ A' c', e = .returned (.slice A' (n + 1) c') ∧ InsTo w w' (some ⟨b, 0, none⟩) A' (n + 1) c' (qs.take i ++ q :: qs.drop i) := by
  obtain ⟨cur, hB, hnc, hcm, hcl, hct⟩ := h.whole
  obtain ⟨i0, hi0, hz0, hz1, hz2⟩ := info_parts queue_info
  have hz2' : ¬ ((i : Int) = (n : Int)) := by omega
  have hz3 : (c : Int) < (n : Int) + 1 := by omega
  have hw1 : IntKind.i64.wrap ((i : Int) + (1 : Int)) = (i : Int) + 1 := by rw [IntKind.wrap_i64]; omega
  have hb1 : (0 : Int) ≤ (i : Int) + 1 := by omega
  have htn : ((i : Int) + 1).toNat = i + 1 := by omega
  have hin : i ≤ n := by omega
  have hib : (i : Int) ≤ (n : Int) := by omega
  have hci : ¬ (c = i) := by omega
  have hkk : (n : Int) + 1 - (i : Int) = ((n + 1 - i : Nat) : Int) := by omega
  have hik : i + (n + 1 - i) = n + 1 := by omega
  have hfl : (flat encQ qs).length = n * 2 := h.1
  have hdl : ((flat encQ qs).drop (i * 2)).length = (n - i) * 2 := by rw [List.length_drop, hfl]; omega
  have hbw := Blk.lt hB
  have hvw := Blk.lt hv
  have hold : (Builtin.firstCells i0.size i (.slice (some ⟨b, 0, none⟩) i c)).run Try.prog w.drew = .ok ((flat encQ qs).take (i * 2)).toArray w.drew := by
    rw [hz1]
    exact run_firstCells_some w.drew 2 i ⟨b, 0, none⟩ i c _ (by rw [List.length_take, hfl]; omega) (fun j v hj => by
      rw [add_none, Blk.cell (Blk.drew hB), Nat.zero_add]
      rw [← hct, List.take_take, List.getElem?_take] at hj
      split at hj
      · simpa using hj
      · cases hj)
  obtain ⟨G, hG⟩ : ∃ G, G = grownCap w (n + 1) c 91 := ⟨_, rfl⟩
  have hGn : n + 1 ≤ G := by rw [hG]; exact grownCap_ge w _ _ _
  have hGm : G ≤ maxLen := by rw [hG]; exact grownCap_le_maxLen w (n + 1) c 91 (by unfold maxLen; omega)
  have hG63 : G ≤ 9223372036854775807 := by unfold maxLen at hGm; omega
  obtain ⟨ROW, hROW⟩ : ∃ ROW : List Value, ROW = (((flat encQ qs).take (i * 2)).toArray ++ Builtin.zeroCells (Value.agg #[.int .i64 0, .slice none 0 0]).cells (n + 1 - i) ++ Builtin.zeroCells (Value.agg #[.int .i64 0, .slice none 0 0]).cells (G - (n + 1))).toList := ⟨_, rfl⟩
  have hRl : ROW.length = G * 2 := by
    rw [hROW]
    simp only [Array.length_toList, Array.size_append, List.size_toArray, List.length_take, hfl, size_zeroCells]
    simp [Value.cells]
    omega
  have hRt : ROW.take (i * 2) = (flat encQ qs).take (i * 2) := by
    rw [hROW]
    simp only [Array.toList_append, List.append_assoc]
    exact List.take_append_of_le_length (by simp [hfl]; omega) |>.trans (by simp [List.take_take])
  have hrz : ∀ ty, (Builtin.append_ #[71, 3] ty #[.slice (some ⟨b, 0, none⟩) i c, .int .i64 ((n : Int) + 1 - (i : Int))]).run Try.prog w =
      .ok (.slice (some ⟨w.heap.size, 0, none⟩) (n + 1) G) (w.drew.alloc (.cells ROW.toArray 91)) := fun ty => by
    have h := Lib.run_append_grow_zeros w 71 3 ty 91 i0 _ .i64 .i64 Try.underlying71 Try.underlying3 hi0 hz0 (some ⟨b, 0, none⟩) i c ((flat encQ qs).take (i * 2)) hold (n + 1 - i) (by omega) (by omega) (by omega) (by omega) (by rw [hz2]; omega) (by rw [hz2, hik]; exact growslice_fits hc (by omega))
    rw [hik, ← hG] at h
    rw [hkk, h, hROW]
  obtain ⟨W1, hW1⟩ : ∃ W1, W1 = w.drew.alloc (.cells ROW.toArray 91) := ⟨_, rfl⟩
  obtain ⟨H, hH⟩ : ∃ H, H = w.heap.size := ⟨_, rfl⟩
  have hR1 : Blk W1 H 91 ROW.toArray := by rw [hW1, hH]; exact Blk.new w.drew _ _
  have hS1 : Blk W1 b 91 cur.toArray := by rw [hW1]; exact Blk.alloc (Blk.drew hB) _
  have hV1 : Blk W1 vb 91 (encQ q).toArray := by rw [hW1]; exact Blk.alloc (Blk.drew hv) _
  have hbel : Below w.heap.size w W1 := by rw [hW1]; exact (Below.drew (Below.refl _ w)).alloc (Nat.le_refl _) _
  rw [← hW1, ← hH] at hrz
  have hbH : b ≠ H := by omega
  have hvH : vb ≠ H := by omega
  have hl2 : (splice ROW (i * 2) (encQ q)).length = G * 2 := by rw [length_splice _ _ _ (by rw [hRl, encQ_length]; omega), hRl]
  have hcA : ∀ ty, (Builtin.copy_ #[71, 71] ty #[.slice (some ⟨H, i * 2, none⟩) (n + 1 - i) (G - i), .slice (some ⟨vb, 0, none⟩) 1 1]).run Try.prog W1 = .ok (goInt (1 : Nat)) (W1.setRow H (splice ROW (i * 2) (encQ q)).toArray) := fun ty =>
    run_copy_rowK W1 _ _ ty 91 2 H (i * 2) (n + 1 - i) (G - i) ⟨vb, 0, none⟩ 1 1 ROW.toArray 91 (encQ q) 1 (by simp only [Nat.min_def]; split <;> omega) Try.underlying71 (by rw [hi0]; simp [hz1]) hR1 rfl
      (fun j v hj => by rw [add_none, Blk.cell hV1]; simpa using hj) (by simp [hRl, encQ_length]; omega) (encQ_one q)
  have hR2 := Blk.setRow W1 H ROW.toArray (splice ROW (i * 2) (encQ q)).toArray 91 hR1
  have hS2 := Blk.keeps hS1 (Keeps.setRow W1 H (splice ROW (i * 2) (encQ q)).toArray) hbH
  have hk2 := Keeps.setRow W1 H (splice ROW (i * 2) (encQ q)).toArray
  have hfin := splice_grow ROW (flat encQ qs) (encQ q) i n 2 hin hfl hRt (encQ_length q) (by rw [hRl]; omega)
  rw [flat_insert encQ_length] at hfin
  generalize splice ROW (i * 2) (encQ q) = c2 at *
  obtain ⟨W2, hW2⟩ : ∃ W2, W2 = W1.setRow H c2.toArray := ⟨_, rfl⟩
  rw [← hW2] at hR2 hS2 hk2 hcA
  have hcB : ∀ ty, (Builtin.copy_ #[71, 71] ty #[.slice (some ⟨H, (i + 1) * 2, none⟩) (n - i) (G - (i + 1)), .slice (some ⟨b, i * 2, none⟩) (n - i) (c - i)]).run Try.prog W2.drew = .ok (goInt (n - i : Nat)) (W2.drew.setRow H (splice c2 ((i + 1) * 2) ((flat encQ qs).drop (i * 2))).toArray) := fun ty =>
    run_copy_rowK W2.drew _ _ ty 91 2 H ((i + 1) * 2) (n - i) (G - (i + 1)) ⟨b, i * 2, none⟩ (n - i) (c - i) c2.toArray 91 ((flat encQ qs).drop (i * 2)) (n - i) (by simp only [Nat.min_def]; split <;> omega) Try.underlying71 (by rw [hi0]; simp [hz1]) (Blk.drew hR2) hdl
      (fun j v hj => by
        rw [add_none, Blk.cell (Blk.drew hS2)]
        rw [List.getElem?_drop, ← hct, List.getElem?_take] at hj
        split at hj
        · simpa using hj
        · cases hj)
      (by rw [hdl]; simp [hl2]; omega) (fun v hv => flat_one encQ_one qs v (List.mem_of_mem_drop hv))
  have hR3 := Blk.setRow W2.drew H c2.toArray (splice c2 ((i + 1) * 2) ((flat encQ qs).drop (i * 2))).toArray 91 (Blk.drew hR2)
  have hk3 := Keeps.setRow W2.drew H (splice c2 ((i + 1) * 2) ((flat encQ qs).drop (i * 2))).toArray
  have hl3 : (splice c2 ((i + 1) * 2) ((flat encQ qs).drop (i * 2))).length = G * 2 := by rw [length_splice _ _ _ (by rw [hdl, hl2]; omega), hl2]
  have hRow := RowAt.of_whole (n := n + 1) (c := G) (sz := 2) hR3 hGn hGm hl3
  rw [hfin] at hRow
  generalize splice c2 ((i + 1) * 2) ((flat encQ qs).drop (i * 2)) = c3 at *
  obtain ⟨W3, hW3⟩ : ∃ W3, W3 = W2.drew.setRow H c3.toArray := ⟨_, rfl⟩
  rw [← hW3] at hcB hk3 hRow
  have hK : Below w.heap.size w W3 := hbel.trans (((hk2.below (B := w.heap.size) (fun i h => by have : i = H := h; omega) hbel.size).trans (Below.drew (Below.refl _ W2))).trans (hk3.below (B := w.heap.size) (fun i h => by have : i = H := h; omega) (Nat.le_trans hbel.size hk2.size)))
  have HK := hid hK
  have HR := hid hRow
  have HH := hid hH
  have hGi : ¬ (G = i) := by omega
  have hGi1 : ¬ (G = i + 1) := by omega
  have HB := hid hcB
  clear hK hRow hH hk3 hl3 hR3 hcB hW3 hR2 hS2 hk2 hfin hW2 hl2 hR1 hS1 hV1 hbel hW1 hRt hRl hROW hG hold hdl hfl hkk hik hB hv h hcl hct
  go_enter Try.func43, Try.ntmps43
  go_wp2_with (first | (at_builtin; refine Lib.wpList_append_run _ rfl _ _ _ _ rfl _ _ rfl rfl _ _ (hrz _) ?_) | simp only [hcA])
  go_region_law (refine step_copy_at rfl (.tmp 50) (.tmp 53) 71 71 rfl (.slice (some ⟨H, (i + 1) * 2, none⟩) (n - i) (G - (i + 1))) (.slice (some ⟨b, i * 2, none⟩) (n - i) (c - i)) (by simp [Act.eval, Act.put]) (by simp [Act.eval, Act.put]) (HB.out _) ?_)
  go_wp2
  go_ret
  refine ⟨_, _, rfl, HR.out, Keeps.of_below HK.out _, fun g hg => .inr (by cases hg; show _ ≤ H; rw [HH.out]; exact Nat.le_refl _)⟩

/-- an element put in between -/
theorem insertQ_any (w : World) (A : Option Addr) (n c i : Nat) (qs : List Que) (vb : Nat) (q : Que) (h : RowAt w A n c 91 2 (flat encQ qs)) (hv : Blk w vb 91 (encQ q).toArray) (hvb : blkOf A ≠ some vb) (hn : n ≤ 100000) (hi : i ≤ n) :
    Calls Try.prog 43 #[.slice A n c, .int .i64 i, .slice (some ⟨vb, 0, none⟩) 1 1] w fun e w' =>
      ∃ A' c', e = .returned (.slice A' (n + 1) c') ∧ InsTo w w' A A' (n + 1) c' (qs.take i ++ q :: qs.drop i) := by
  have hl : qs.length = n := by have := h.1; rw [flat_length encQ_length] at this; omega
  by_cases e : i = n
  · subst e
    have := insertQ_end w A i c qs vb q h hv hn
    rwa [List.take_of_length_le (by omega), List.drop_eq_nil_of_le (by omega)]
  · obtain ⟨g, hA, _⟩ := h.elem encQ_length (by omega) (i := i) (by omega)
    subst hA
    by_cases hc : n + 1 ≤ c
    · exact insertQ_shift w g n c i qs vb q h hv (fun e => hvb (by rw [e]; rfl)) hn (by omega) hc
    · exact insertQ_grow w g n c i qs vb q h hv hn (by omega) (by omega)
end Go.Proofs.Ytaagaamamjabbaa
