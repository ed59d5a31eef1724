/-
  The walk of openbellref.Book.Cancel. Printed by gen_refcancel.py.
-/
import Derived.WalkKit
import Derived.WalkLawsBesides
import Derived.WalkSpells
import Derived.Deep.DeepCutAuto
import Derived.Deep.CutBlock
import Derived.BigRegion
import Derived.Test.YtkcgchpbjegneaaDoorRefAdd
namespace Go.Proofs.YtkcgchpbjegneaaDoor
open Go.RowKit
set_option linter.unusedVariables false
set_option linter.unusedSimpArgs false

/-- a list without its k-th -/
def cutK (L : List Ord5) (k : Nat) : List Ord5 := L.take k ++ L.drop (k + 1)
def rcanL (L : List Ord5) (id : Int) : List Ord5 := cutK L (L.findIdx fun o => o.id == id)
theorem elems_take {w : World} {b off n : Nat} {L : List Ord5} (h : ElemsAt w encO 5 (some ⟨b, off, none⟩) n L) {k : Nat} (hk : k ≤ n) : ElemsAt w encO 5 (some ⟨b, off, none⟩) k (L.take k) := by
  have hl := h.1
  refine ⟨by rw [List.length_take]; omega, fun h0 => ?_⟩
  obtain ⟨b', off', e, hlt, hc⟩ := h.2 (by omega)
  cases e
  refine ⟨b, off, rfl, hlt, fun i hi j u hu => ?_⟩
  rw [List.length_take] at hi
  rw [List.getElem_take] at hu
  exact hc i (by omega) j u hu
theorem elems_drop {w : World} {b off n : Nat} {L : List Ord5} (h : ElemsAt w encO 5 (some ⟨b, off, none⟩) n L) {k : Nat} (hk : k ≤ n) : ElemsAt w encO 5 (some ⟨b, off + k * 5, none⟩) (n - k) (L.drop k) := by
  have hl := h.1
  refine ⟨by rw [List.length_drop]; omega, fun h0 => ?_⟩
  obtain ⟨b', off', e, hlt, hc⟩ := h.2 (by omega)
  cases e
  refine ⟨b, off + k * 5, rfl, hlt, fun i hi j u hu => ?_⟩
  rw [List.length_drop] at hi
  rw [List.getElem_drop] at hu
  have h2 := hc (k + i) (by omega) j u hu
  rw [show off + (k + i) * 5 + j = off + k * 5 + i * 5 + j by omega] at h2
  exact h2
theorem elems_none {w : World} {A : Option Addr} {L : List Ord5} (h : L.length = 0) : ElemsAt w encO 5 A 0 L := ⟨h, fun h0 => absurd h0 (by omega)⟩
/-- stores into a box of the call's own come behind -/
theorem RefTo.stores {w w3 W4 W9 : World} {B : Nat} {t : TypeId} {cs : Array Value} {o0 : Nat} {A : Option Addr} {L0 L : List Ord5} (h0 : RefB w B t cs o0 A L0) (hb : Below w.heap.size w w3) (h : RefTo w3 W4 B t cs o0 A L) (hz : w.heap.size < w3.heap.size) (hk : Keeps (fun i => i = w.heap.size) W4 W9) : RefTo w W9 B t cs o0 A L := by
  obtain ⟨A', c', h1, h2, h3⟩ := h
  have hB := h0.blt
  have hA : ∀ g, blkOf A' = some g → blkOf A = some g ∨ w3.heap.size ≤ g := h3
  refine ⟨A', c', h1.keeps hk (fun e => by have e : B = w.heap.size := e; omega) (fun g hg e => ?_), ((Keeps.of_below hb _).trans h2 (fun i e => .inl e)).trans hk (fun i e => .inr (by have e : i = w.heap.size := e; omega)), fun g hg => ?_⟩
  · have e : g = w.heap.size := e
    rcases hA g hg with e2 | e2
    · have := h0.lt g e2; omega
    · omega
  · rcases hA g hg with e2 | e2
    · exact .inl e2
    · exact .inr (by omega)
theorem rcanL_none {L : List Ord5} {id : Int} (h : getI L id = none) : rcanL L id = L := by
  have e : L.findIdx (fun o => o.id == id) = L.length := by
    rw [List.findIdx_eq_length]
    intro o ho
    unfold getI at h
    have := List.find?_eq_none.1 h o ho
    simpa using this
  unfold rcanL cutK
  rw [e]
  simp

set_option maxRecDepth 100000 in
set_option maxHeartbeats 8000000 in
theorem rcancel_any (w : World) (B : Nat) (t : TypeId) (cs : Array Value) (o0 : Nat) (A : Option Addr) (L : List Ord5) (h : RefB w B t cs o0 A L) (hn : L.length ≤ 100000) (id : Int) :
    Calls Tryd.prog 8 #[.pointer (some ⟨B, o0, none⟩), .int .i64 id] w fun e w' => e = .returned (.tuple #[aggO (roO L id), .int .i64 (roE L id)]) ∧ RefTo w w' B t cs o0 A (rcanL L id) := by
  have hb1 : Below w.heap.size w (w.alloc (.cells #[.int .i64 0, .int .i64 0, .int .i64 0, .int .i64 0, .int .i64 0] 30)) := (Below.refl _ _).alloc (Nat.le_refl _) _
  have HX := hid (Blk.new w 30 #[.int .i64 0, .int .i64 0, .int .i64 0, .int .i64 0, .int .i64 0])
  have HI := hid (index_any _ B t cs o0 A L (h.below hb1) hn id)
  have HR := hid h
  have HB := hid hb1
  have hBl := h.blt
  have hn1 : L.length ≤ 100000 := hn
  obtain ⟨i0, hi0, hz0, hz1, hz2⟩ := info_parts rord_info
  clear h hb1 hn
  go_enter Tryd.func8, Tryd.ntmps8
  go_wp2_with fail
  refine HI.out.mono ?_
  rintro e w2 ⟨rfl, hb2⟩
  have hX2 := Blk.keep HX.out hb2
  have HX2 := hid hX2
  have HB2 := hid (HB.out.trans (hb2.mono HB.out.size))
  rcases idxI_cases L id with ⟨hi, hg⟩ | ⟨k, hk, hi, hix, hid_, hg⟩
  · have HG := hid hg
    rw [hi]
    have d1 : (-1 : Int) < 0 := by omega
    obtain ⟨z0, z1, z2, z3, z4⟩ := box5' hX2
    have f0 := Blk.frozen hX2 0
    have f1 := Blk.frozen hX2 1
    have f2 := Blk.frozen hX2 2
    have f3 := Blk.frozen hX2 3
    have f4 := Blk.frozen hX2 4
    clear hi hg hX2 hb2 HI
    go_wp2_with fail
    refine ref_ret2 Tryd.results8 (cs := #[.int .i64 0, .int .i64 0, .int .i64 0, .int .i64 0, .int .i64 0]) (v := .int .i64 7) w.heap.size rfl (by with_unfolding_all rfl) (by with_unfolding_all rfl) (by with_unfolding_all rfl) (Blk.set_ (Blk.set_ (Blk.set_ (Blk.set_ (Blk.set_ HX2.out 0 _) 1 _) 2 _) 3 _) 4 _) ?_
    refine ⟨?_, ?_⟩
    · unfold roO roE
      rw [HG.out]
      rfl
    · rw [rcanL_none HG.out]
      exact RefTo.same HR.out (((((HB2.out.setCell (Nat.le_refl _) _).setCell (Nat.le_refl _) _).setCell (Nat.le_refl _) _).setCell (Nat.le_refl _) _).setCell (Nat.le_refl _) _)
  · have HG := hid hg
    rw [hi]
    have hk0 : (0 : Int) ≤ (k : Int) := by omega
    have d1 : ¬ (k : Int) < 0 := by omega
    have hkz : (k : Int) < ((L.length : Nat) : Int) := by omega
    have hR2 := HR.out.below HB2.out
    obtain ⟨c, y0, hc1, hc2⟩ := hR2.cell
    obtain ⟨b, off, hA⟩ : ∃ b off, A = some ⟨b, off, none⟩ := by obtain ⟨b, off, h1, _⟩ := hR2.els.2 (by omega); exact ⟨b, off, h1⟩
    subst hA
    obtain ⟨x0, x1, x2, x3, x4⟩ := ord_at hR2.els hk
    obtain ⟨o, EO⟩ : ∃ o, Hid (L[k] = o) := ⟨_, hid rfl⟩
    rw [EO.out] at x0 x1 x2 x3 x4 HG
    obtain ⟨n, hn⟩ : ∃ n, L.length = n := ⟨_, rfl⟩
    have HEl := hid hR2.els
    rw [hn] at y0 hkz hk hc1 HEl hn1
    have HIx := hid (show rcanL L id = cutK L k by unfold rcanL; rw [hix])
    have HR2 := hid hR2
    have HN := hid hn
    unfold maxLen at hc2
    clear hi hg hR2 hid_ hn hix hb2 hX2 HI
    go_upto_region 5 with fail
    obtain ⟨w3, ew3⟩ : ∃ W, (w2.alloc (.cells #[.int .i64 o.id, .int .i64 o.side, .int .i64 o.kind, .int .i64 o.price, .int .i64 o.qty] 30)) = W := ⟨_, rfl⟩
    obtain ⟨gx, egx⟩ : ∃ g, w2.heap.size = g := ⟨_, rfl⟩
    have hal : Below w2.heap.size w2 w3 := by rw [← ew3]; exact (Below.refl _ _).alloc (Nat.le_refl _) _
    have HX3 := hid (show Blk w3 gx 30 (boxO o) by rw [← ew3, ← egx]; exact Blk.new w2 _ _)
    have HB3 := hid (HB2.out.trans (hal.mono HB2.out.size))
    have hwg : w.heap.size < gx := by rw [← egx]; exact Blk.lt HX2.out
    have HZ3 := hid (Blk.keep HX2.out hal)
    have HR3 := hid (HR2.out.below hal)
    have HEl := hid (HEl.out.below hal (Nat.le_refl _))
    have y0 : w3.cell? ⟨B, o0, none⟩ = some (.slice (some ⟨b, off, none⟩) n c) := (hal.cell (World.block_lt_of_cell? w2 _ y0)).trans y0
    rw [ew3, egx]
    have hg3 : gx < w3.heap.size := Blk.lt HX3.out
    clear ew3 egx hal x0 x1 x2 x3 x4
    have HS0 := hid (show ∀ W, Below w3.heap.size w3 W → W.cell? ⟨B, o0, none⟩ = some (.slice (some ⟨b, off, none⟩) n c) from fun W hb => (hb.cell (World.block_lt_of_cell? w3 _ y0)).trans y0)
    have HFz := hid (show ∀ W, Below w3.heap.size w3 W → W.frozen? ⟨B, o0, none⟩ = false from fun W hb => Blk.frozen (Blk.keep HR3.out.blk hb) o0)
    have hkc : (k : Int) ≤ (c : Int) := by omega
    have hkc1 : (k : Int) + 1 ≤ (c : Int) := by omega
    have hkn1 : (k : Int) + 1 ≤ (n : Int) := by omega
    have hcz : (n : Int) ≤ (c : Int) := by omega
    go_cut [37] (fun s37 wx => ∃ A2 c2 W, RowAt W A2 (n - 1) c2 30 5 (flat encO (cutK L k)) ∧ Below w3.heap.size w3 W ∧ (∀ g, blkOf A2 = some g → w3.heap.size ≤ g) ∧ wx = W.setCell ⟨B, o0, none⟩ (.slice A2 (n - 1) c2))
    case first =>
      by_cases hkc2 : k + 1 = c
      · obtain rfl : c = k + 1 := hkc2.symm
        obtain rfl : n = k + 1 := by omega
        have hwr : IntKind.i64.wrap ((k : Int) + 1) = (k : Int) + 1 := by rw [IntKind.wrap_i64]; omega
        have h02 : ¬ (k : Int) + 1 < (k : Int) := by omega
        have h03 : ¬ (k : Int) + 1 < 0 := by omega
        clear hkc2
        refine wp_region_heldT_drew 19 (fun W => W.cell? ⟨B, o0, none⟩ = some (.slice (some ⟨b, off, none⟩) (k + 1) (k + 1))) (by kernel_rfl) y0 (fun hS => ?_)
        refine takeT 0 21 (.pointer (some ⟨B, o0, none⟩)) rfl rfl rfl (by kernel_rfl) (by kernel_rfl) (by kernel_rfl) (by kernel_rfl) (fun _ _ _ h => h) (by rfl) ?_ (by assumption) ?_
        · intro W hSw; go_simp
        simp only [Act.put, List.setIfInBounds_toArray, List.set_cons_zero, List.set_cons_succ]
        refine takeT 2 23 (.pointer (some ⟨B, o0, none⟩)) rfl rfl rfl (by kernel_rfl) (by kernel_rfl) (by kernel_rfl) (by kernel_rfl) (fun _ _ _ h => h) (by rfl) ?_ (by assumption) ?_
        · intro W hSw; go_simp
        simp only [Act.put, List.setIfInBounds_toArray, List.set_cons_zero, List.set_cons_succ]
        refine takeT 3 24 (.pointer (some ⟨B, o0, none⟩)) rfl rfl rfl (by kernel_rfl) (by kernel_rfl) (by kernel_rfl) (by kernel_rfl) (fun _ _ _ h => h) (by rfl) ?_ (by assumption) ?_
        · intro W hSw; go_simp
        simp only [Act.put, List.setIfInBounds_toArray, List.set_cons_zero, List.set_cons_succ]
        refine takeT 4 25 (.pointer (some ⟨B, o0, none⟩)) rfl rfl rfl (by kernel_rfl) (by kernel_rfl) (by kernel_rfl) (by kernel_rfl) (fun _ _ _ h => h) (by rfl) ?_ (by assumption) ?_
        · intro W hSw; go_simp
        simp only [Act.put, List.setIfInBounds_toArray, List.set_cons_zero, List.set_cons_succ]
        refine takeT 5 26 (.slice (some ⟨b, off, none⟩) (k + 1) (k + 1)) rfl rfl rfl (by kernel_rfl) (by kernel_rfl) (by kernel_rfl) (by kernel_rfl) (fun _ _ _ h => h) (by rfl) ?_ (by assumption) ?_
        · intro W hSw; go_simp
        simp only [Act.put, List.setIfInBounds_toArray, List.set_cons_zero, List.set_cons_succ]
        refine takeT 6 27 (.int .i64 k) rfl rfl rfl (by kernel_rfl) (by kernel_rfl) (by kernel_rfl) (by kernel_rfl) (fun _ _ _ h => h) (by rfl) ?_ (by assumption) ?_
        · intro W hSw; go_simp
        simp only [Act.put, List.setIfInBounds_toArray, List.set_cons_zero, List.set_cons_succ]
        refine takeT 7 28 (.slice (some ⟨b, off, none⟩) k (k + 1)) rfl rfl rfl (by kernel_rfl) (by kernel_rfl) (by kernel_rfl) (by kernel_rfl) (fun _ _ _ h => h) (by rfl) ?_ (by assumption) ?_
        · intro W hSw; go_simp
        simp only [Act.put, List.setIfInBounds_toArray, List.set_cons_zero, List.set_cons_succ]
        refine takeT 9 30 (.pointer (some ⟨B, o0, none⟩)) rfl rfl rfl (by kernel_rfl) (by kernel_rfl) (by kernel_rfl) (by kernel_rfl) (fun _ _ _ h => h) (by rfl) ?_ (by assumption) ?_
        · intro W hSw; go_simp
        simp only [Act.put, List.setIfInBounds_toArray, List.set_cons_zero, List.set_cons_succ]
        refine takeT 10 31 (.pointer (some ⟨B, o0, none⟩)) rfl rfl rfl (by kernel_rfl) (by kernel_rfl) (by kernel_rfl) (by kernel_rfl) (fun _ _ _ h => h) (by rfl) ?_ (by assumption) ?_
        · intro W hSw; go_simp
        simp only [Act.put, List.setIfInBounds_toArray, List.set_cons_zero, List.set_cons_succ]
        refine takeT 11 32 (.pointer (some ⟨B, o0, none⟩)) rfl rfl rfl (by kernel_rfl) (by kernel_rfl) (by kernel_rfl) (by kernel_rfl) (fun _ _ _ h => h) (by rfl) ?_ (by assumption) ?_
        · intro W hSw; go_simp
        simp only [Act.put, List.setIfInBounds_toArray, List.set_cons_zero, List.set_cons_succ]
        refine takeT 12 33 (.slice (some ⟨b, off, none⟩) (k + 1) (k + 1)) rfl rfl rfl (by kernel_rfl) (by kernel_rfl) (by kernel_rfl) (by kernel_rfl) (fun _ _ _ h => h) (by rfl) ?_ (by assumption) ?_
        · intro W hSw; go_simp
        simp only [Act.put, List.setIfInBounds_toArray, List.set_cons_zero, List.set_cons_succ]
        refine takeT 13 34 (.int .i64 k) rfl rfl rfl (by kernel_rfl) (by kernel_rfl) (by kernel_rfl) (by kernel_rfl) (fun _ _ _ h => h) (by rfl) ?_ (by assumption) ?_
        · intro W hSw; go_simp
        simp only [Act.put, List.setIfInBounds_toArray, List.set_cons_zero, List.set_cons_succ]
        refine takeT 14 35 (.int .i64 ((k : Int) + 1)) rfl rfl rfl (by kernel_rfl) (by kernel_rfl) (by kernel_rfl) (by kernel_rfl) (fun _ _ _ h => h) (by rfl) ?_ (by assumption) ?_
        · intro W hSw; go_simp
        simp only [Act.put, List.setIfInBounds_toArray, List.set_cons_zero, List.set_cons_succ]
        refine takeT 15 36 (.slice (some ⟨b, off, none⟩) 0 0) rfl rfl rfl (by kernel_rfl) (by kernel_rfl) (by kernel_rfl) (by kernel_rfl) (fun _ _ _ h => h) (by rfl) ?_ (by assumption) ?_
        · intro W hSw; go_simp
        simp only [Act.put, List.setIfInBounds_toArray, List.set_cons_zero, List.set_cons_succ]
        clear y0 hS
        have HWb := hid (show Below w3.heap.size w3 w3 from Below.refl _ _)
        refine wpAnyT_one 1 (by kernel_rfl) rfl (fun K1 hK1 => ?_)
        go_simp
        obtain ⟨v1, ev1⟩ : ∃ W, (w3.alloc (.cells #[] 30)).drew = W := ⟨_, rfl⟩
        have hal : Below w3.heap.size w3 v1 := by rw [← ev1]; exact Below.drew ((Below.refl _ _).alloc (Nat.le_refl _) _)
        have HEr := hid (show RowAt v1 (some ⟨w3.heap.size, 0, none⟩) 0 0 30 5 [] by rw [← ev1]; exact RowAt.made _ _ _)
        rw [ev1]
        clear ev1
        have HWb := hid hal
        have HWc := hid HWb.out.size
        clear hal
        refine hK1 _ _ (HS0.out _ HWb.out) (fun hS => ?_)
        clear hK1 hS
        refine wpAnyT_one 8 (by kernel_rfl) rfl (fun K1 hK1 => ?_)
        refine step_append_any encO_length encO_one (by rfl) _ _ _ (by rfl) 30 i0 _ 40 Tryd.underlying26 hi0 hz0 hz1 hz2 rfl (by omega) (some ⟨w3.heap.size, 0, none⟩) 0 0 [] (by rfl) HEr.out (some ⟨b, off, none⟩) k (k + 1) (L.take k) (by rfl) (elems_take (HEl.out.below HWb.out (Nat.le_refl _)) (by omega)) (by unfold maxLen; omega) (by omega) ?_
        intro A1 c1 v2 hr1 hg1 ha1
        rw [Nat.zero_add, List.nil_append] at hr1
        rw [Nat.zero_add]
        have HCr := hid hr1
        have HCa := hid (new_or ha1 (new_one (Nat.le_refl _)) HWc.out)
        have HWb := hid (grown_below HWb.out hg1 (new_one (Nat.le_refl _)) HWc.out)
        have HWc := hid HWb.out.size
        clear hr1 hg1 ha1
        refine hK1 _ _ (HS0.out _ HWb.out) (fun hS => ?_)
        clear hK1 hS
        simp only [Act.put, List.setIfInBounds_toArray, List.set_cons_zero, List.set_cons_succ]
        refine wpAnyT_one 16 (by kernel_rfl) rfl (fun K1 hK1 => ?_)
        refine step_append_any encO_length encO_one (by rfl) _ _ _ (by rfl) 30 i0 _ 40 Tryd.underlying26 hi0 hz0 hz1 hz2 rfl (by omega) (A1) k c1 (flat encO (L.take k)) (by rfl) HCr.out (some ⟨b, off, none⟩) 0 0 (L.drop (k + 1)) (by rfl) (elems_none (by rw [List.length_drop]; have := HN.out; omega)) (by unfold maxLen; omega) (by omega) ?_
        intro A2 c2 v3 hr2 hg2 ha2
        rw [show k + 0 = (k + 1) - 1 by omega] at hr2
        rw [show k + 0 = (k + 1) - 1 by omega]
        have HC2 := hid hr2
        have HCb := hid (new_or ha2 HCa.out HWc.out)
        have HWb := hid (grown_below HWb.out hg2 HCa.out HWc.out)
        clear hr2 hg2 ha2
        refine hK1 _ _ (HS0.out _ HWb.out) (fun hS => ?_)
        clear hK1 hS
        simp only [Act.put, List.setIfInBounds_toArray, List.set_cons_zero, List.set_cons_succ]
        refine wpAnyT_one 17 (by kernel_rfl) rfl (fun K1 hK1 => ?_)
        go_simp
        refine hK1 _ _ (HS0.out _ HWb.out) (fun hS => ?_)
        clear hK1 hS
        refine wpAnyT_one 18 (by kernel_rfl) rfl (fun K1 hK1 => ?_)
        go_simp
        refine hK1 _ _ (HS0.out _ HWb.out) (fun hS => ?_)
        clear hK1 hS
        have hfz := HFz.out _ HWb.out
        have hcz2 := HS0.out _ HWb.out
        refine wpAnyT_last (by kernel_rfl) rfl (fun K1 hK1 => ?_)
        go_simp
        refine hK1 _ _ (wpAnyT_done (by kernel_rfl) ?_ _)
        clear hK1 hfz hcz2
        go_wp2_with fail
        go_meet
        exact ⟨A2, c2, v3, by have h := HC2.out; unfold cutK; rw [flat_append]; exact h, HWb.out, HCb.out, rfl⟩
      · have hkz2 : ¬ c = k + 1 := by omega
        have hwr : IntKind.i64.wrap ((k : Int) + 1) = (k : Int) + 1 := by rw [IntKind.wrap_i64]; omega
        have h01 : (0 : Int) ≤ (k : Int) + 1 := by omega
        refine wp_region_heldT_drew 19 (fun W => W.cell? ⟨B, o0, none⟩ = some (.slice (some ⟨b, off, none⟩) n c)) (by kernel_rfl) y0 (fun hS => ?_)
        refine takeT 0 21 (.pointer (some ⟨B, o0, none⟩)) rfl rfl rfl (by kernel_rfl) (by kernel_rfl) (by kernel_rfl) (by kernel_rfl) (fun _ _ _ h => h) (by rfl) ?_ (by assumption) ?_
        · intro W hSw; go_simp
        simp only [Act.put, List.setIfInBounds_toArray, List.set_cons_zero, List.set_cons_succ]
        refine takeT 2 23 (.pointer (some ⟨B, o0, none⟩)) rfl rfl rfl (by kernel_rfl) (by kernel_rfl) (by kernel_rfl) (by kernel_rfl) (fun _ _ _ h => h) (by rfl) ?_ (by assumption) ?_
        · intro W hSw; go_simp
        simp only [Act.put, List.setIfInBounds_toArray, List.set_cons_zero, List.set_cons_succ]
        refine takeT 3 24 (.pointer (some ⟨B, o0, none⟩)) rfl rfl rfl (by kernel_rfl) (by kernel_rfl) (by kernel_rfl) (by kernel_rfl) (fun _ _ _ h => h) (by rfl) ?_ (by assumption) ?_
        · intro W hSw; go_simp
        simp only [Act.put, List.setIfInBounds_toArray, List.set_cons_zero, List.set_cons_succ]
        refine takeT 4 25 (.pointer (some ⟨B, o0, none⟩)) rfl rfl rfl (by kernel_rfl) (by kernel_rfl) (by kernel_rfl) (by kernel_rfl) (fun _ _ _ h => h) (by rfl) ?_ (by assumption) ?_
        · intro W hSw; go_simp
        simp only [Act.put, List.setIfInBounds_toArray, List.set_cons_zero, List.set_cons_succ]
        refine takeT 5 26 (.slice (some ⟨b, off, none⟩) n c) rfl rfl rfl (by kernel_rfl) (by kernel_rfl) (by kernel_rfl) (by kernel_rfl) (fun _ _ _ h => h) (by rfl) ?_ (by assumption) ?_
        · intro W hSw; go_simp
        simp only [Act.put, List.setIfInBounds_toArray, List.set_cons_zero, List.set_cons_succ]
        refine takeT 6 27 (.int .i64 k) rfl rfl rfl (by kernel_rfl) (by kernel_rfl) (by kernel_rfl) (by kernel_rfl) (fun _ _ _ h => h) (by rfl) ?_ (by assumption) ?_
        · intro W hSw; go_simp
        simp only [Act.put, List.setIfInBounds_toArray, List.set_cons_zero, List.set_cons_succ]
        refine takeT 7 28 (.slice (some ⟨b, off, none⟩) k c) rfl rfl rfl (by kernel_rfl) (by kernel_rfl) (by kernel_rfl) (by kernel_rfl) (fun _ _ _ h => h) (by rfl) ?_ (by assumption) ?_
        · intro W hSw; go_simp
        simp only [Act.put, List.setIfInBounds_toArray, List.set_cons_zero, List.set_cons_succ]
        refine takeT 9 30 (.pointer (some ⟨B, o0, none⟩)) rfl rfl rfl (by kernel_rfl) (by kernel_rfl) (by kernel_rfl) (by kernel_rfl) (fun _ _ _ h => h) (by rfl) ?_ (by assumption) ?_
        · intro W hSw; go_simp
        simp only [Act.put, List.setIfInBounds_toArray, List.set_cons_zero, List.set_cons_succ]
        refine takeT 10 31 (.pointer (some ⟨B, o0, none⟩)) rfl rfl rfl (by kernel_rfl) (by kernel_rfl) (by kernel_rfl) (by kernel_rfl) (fun _ _ _ h => h) (by rfl) ?_ (by assumption) ?_
        · intro W hSw; go_simp
        simp only [Act.put, List.setIfInBounds_toArray, List.set_cons_zero, List.set_cons_succ]
        refine takeT 11 32 (.pointer (some ⟨B, o0, none⟩)) rfl rfl rfl (by kernel_rfl) (by kernel_rfl) (by kernel_rfl) (by kernel_rfl) (fun _ _ _ h => h) (by rfl) ?_ (by assumption) ?_
        · intro W hSw; go_simp
        simp only [Act.put, List.setIfInBounds_toArray, List.set_cons_zero, List.set_cons_succ]
        refine takeT 12 33 (.slice (some ⟨b, off, none⟩) n c) rfl rfl rfl (by kernel_rfl) (by kernel_rfl) (by kernel_rfl) (by kernel_rfl) (fun _ _ _ h => h) (by rfl) ?_ (by assumption) ?_
        · intro W hSw; go_simp
        simp only [Act.put, List.setIfInBounds_toArray, List.set_cons_zero, List.set_cons_succ]
        refine takeT 13 34 (.int .i64 k) rfl rfl rfl (by kernel_rfl) (by kernel_rfl) (by kernel_rfl) (by kernel_rfl) (fun _ _ _ h => h) (by rfl) ?_ (by assumption) ?_
        · intro W hSw; go_simp
        simp only [Act.put, List.setIfInBounds_toArray, List.set_cons_zero, List.set_cons_succ]
        refine takeT 14 35 (.int .i64 ((k : Int) + 1)) rfl rfl rfl (by kernel_rfl) (by kernel_rfl) (by kernel_rfl) (by kernel_rfl) (fun _ _ _ h => h) (by rfl) ?_ (by assumption) ?_
        · intro W hSw; go_simp
        simp only [Act.put, List.setIfInBounds_toArray, List.set_cons_zero, List.set_cons_succ]
        refine takeT 15 36 (.slice (some ⟨b, off + (k + 1) * 5, none⟩) (n - (k + 1)) (c - (k + 1))) rfl rfl rfl (by kernel_rfl) (by kernel_rfl) (by kernel_rfl) (by kernel_rfl) (fun _ _ _ h => h) (by rfl) ?_ (by assumption) ?_
        · intro W hSw; go_simp
        simp only [Act.put, List.setIfInBounds_toArray, List.set_cons_zero, List.set_cons_succ]
        clear y0 hS
        have HWb := hid (show Below w3.heap.size w3 w3 from Below.refl _ _)
        refine wpAnyT_one 1 (by kernel_rfl) rfl (fun K1 hK1 => ?_)
        go_simp
        obtain ⟨v1, ev1⟩ : ∃ W, (w3.alloc (.cells #[] 30)).drew = W := ⟨_, rfl⟩
        have hal : Below w3.heap.size w3 v1 := by rw [← ev1]; exact Below.drew ((Below.refl _ _).alloc (Nat.le_refl _) _)
        have HEr := hid (show RowAt v1 (some ⟨w3.heap.size, 0, none⟩) 0 0 30 5 [] by rw [← ev1]; exact RowAt.made _ _ _)
        rw [ev1]
        clear ev1
        have HWb := hid hal
        have HWc := hid HWb.out.size
        clear hal
        refine hK1 _ _ (HS0.out _ HWb.out) (fun hS => ?_)
        clear hK1 hS
        refine wpAnyT_one 8 (by kernel_rfl) rfl (fun K1 hK1 => ?_)
        refine step_append_any encO_length encO_one (by rfl) _ _ _ (by rfl) 30 i0 _ 40 Tryd.underlying26 hi0 hz0 hz1 hz2 rfl (by omega) (some ⟨w3.heap.size, 0, none⟩) 0 0 [] (by rfl) HEr.out (some ⟨b, off, none⟩) k c (L.take k) (by rfl) (elems_take (HEl.out.below HWb.out (Nat.le_refl _)) (by omega)) (by unfold maxLen; omega) (by omega) ?_
        intro A1 c1 v2 hr1 hg1 ha1
        rw [Nat.zero_add, List.nil_append] at hr1
        rw [Nat.zero_add]
        have HCr := hid hr1
        have HCa := hid (new_or ha1 (new_one (Nat.le_refl _)) HWc.out)
        have HWb := hid (grown_below HWb.out hg1 (new_one (Nat.le_refl _)) HWc.out)
        have HWc := hid HWb.out.size
        clear hr1 hg1 ha1
        refine hK1 _ _ (HS0.out _ HWb.out) (fun hS => ?_)
        clear hK1 hS
        simp only [Act.put, List.setIfInBounds_toArray, List.set_cons_zero, List.set_cons_succ]
        refine wpAnyT_one 16 (by kernel_rfl) rfl (fun K1 hK1 => ?_)
        refine step_append_any encO_length encO_one (by rfl) _ _ _ (by rfl) 30 i0 _ 40 Tryd.underlying26 hi0 hz0 hz1 hz2 rfl (by omega) (A1) k c1 (flat encO (L.take k)) (by rfl) HCr.out (some ⟨b, off + (k + 1) * 5, none⟩) (n - (k + 1)) (c - (k + 1)) (L.drop (k + 1)) (by rfl) (elems_drop (HEl.out.below HWb.out (Nat.le_refl _)) (by omega)) (by unfold maxLen; omega) (by omega) ?_
        intro A2 c2 v3 hr2 hg2 ha2
        rw [show k + (n - (k + 1)) = n - 1 by omega] at hr2
        rw [show k + (n - (k + 1)) = n - 1 by omega]
        have HC2 := hid hr2
        have HCb := hid (new_or ha2 HCa.out HWc.out)
        have HWb := hid (grown_below HWb.out hg2 HCa.out HWc.out)
        clear hr2 hg2 ha2
        refine hK1 _ _ (HS0.out _ HWb.out) (fun hS => ?_)
        clear hK1 hS
        simp only [Act.put, List.setIfInBounds_toArray, List.set_cons_zero, List.set_cons_succ]
        refine wpAnyT_one 17 (by kernel_rfl) rfl (fun K1 hK1 => ?_)
        go_simp
        refine hK1 _ _ (HS0.out _ HWb.out) (fun hS => ?_)
        clear hK1 hS
        refine wpAnyT_one 18 (by kernel_rfl) rfl (fun K1 hK1 => ?_)
        go_simp
        refine hK1 _ _ (HS0.out _ HWb.out) (fun hS => ?_)
        clear hK1 hS
        have hfz := HFz.out _ HWb.out
        have hcz2 := HS0.out _ HWb.out
        refine wpAnyT_last (by kernel_rfl) rfl (fun K1 hK1 => ?_)
        go_simp
        refine hK1 _ _ (wpAnyT_done (by kernel_rfl) ?_ _)
        clear hK1 hfz hcz2
        go_wp2_with fail
        go_meet
        exact ⟨A2, c2, v3, by have h := HC2.out; unfold cutK; rw [flat_append]; exact h, HWb.out, HCb.out, rfl⟩
    case rest =>
      obtain ⟨A2, c2, W, hr2, hb, ha, rfl⟩ := hcut
      have hX4 := Blk.far (Blk.keep HX3.out hb) (p := ⟨B, o0, none⟩) (by have := HR3.out.blt; show gx ≠ B; omega) (.slice A2 (n - 1) c2)
      have hZ4 := Blk.far (Blk.keep HZ3.out hb) (p := ⟨B, o0, none⟩) (by show w.heap.size ≠ B; omega) (.slice A2 (n - 1) c2)
      have HTo := hid (HR3.out.put hb hr2 ha)
      obtain ⟨W4, eW4⟩ : ∃ X, W.setCell ⟨B, o0, none⟩ (.slice A2 (n - 1) c2) = X := ⟨_, rfl⟩
      rw [eW4] at hX4 hZ4 HTo ⊢
      obtain ⟨x0, x1, x2, x3, x4⟩ := ord_box hX4
      obtain ⟨z0, z1, z2, z3, z4⟩ := box5' hZ4
      have f0 := Blk.frozen hZ4 0
      have f1 := Blk.frozen hZ4 1
      have f2 := Blk.frozen hZ4 2
      have f3 := Blk.frozen hZ4 3
      have f4 := Blk.frozen hZ4 4
      have HZ4 := hid hZ4
      clear hX4 hZ4 eW4 hr2 hb ha y0
      go_wp2_with fail
      refine ref_ret2 Tryd.results8 (cs := boxO o) (v := .int .i64 0) w.heap.size rfl (by with_unfolding_all rfl) (by with_unfolding_all rfl) (by with_unfolding_all rfl) (Blk.set_ (Blk.set_ (Blk.set_ (Blk.set_ (Blk.set_ HZ4.out 0 _) 1 _) 2 _) 3 _) 4 _) ?_
      refine ⟨?_, ?_⟩
      · unfold roO roE
        rw [HG.out]
        rfl
      · rw [HIx.out]
        exact RefTo.stores HR.out HB3.out HTo.out (by omega) (((((Keeps.set_ _ ⟨w.heap.size, 0, none⟩ _).trans (Keeps.set_ _ ⟨w.heap.size, 1, none⟩ _) (fun i e => .inl e)).trans (Keeps.set_ _ ⟨w.heap.size, 2, none⟩ _) (fun i e => .inl e)).trans (Keeps.set_ _ ⟨w.heap.size, 3, none⟩ _) (fun i e => .inl e)).trans (Keeps.set_ _ ⟨w.heap.size, 4, none⟩ _) (fun i e => .inl e))
end Go.Proofs.YtkcgchpbjegneaaDoor
