/-
  The walk of openbellref.Book.Cancel. Printed by gen_refcancel.py.
  The walk of openbellref.Book.Cut.
  The walk of openbellref.Book.Depth: lots and orders by prices, as they come in rank.
  The walk of Book.Depth; and the plain law: queue by queue it is what the orders of the side make up.
  Walks of plain.Place, openbelllaw.is and bare, by what an error tells (ErrIs).
  A book's sides and the document's list of orders as they came: what Add, Cancel and Cut make of both. No walk.
  The walks of openbelllaw.sameOrders at the same orders, and of openbelllaw.same at a book and the document's.
  A book and the document's, side by side in memory: what one call of either makes of both. No walk.
  More of twins: the lists are right; what is wanted; a cut of one that lies. No walk.
  The program's book and the document's, each as a meeting asks for it; how much a meeting tells. No walk.
-/
import Derived.WalkKit
import Derived.WalkLawsBesides
import Derived.WalkSpells
import Derived.Deep.DeepCutAuto
import Derived.Deep.CutBlock
import Derived.BigRegion
import Derived.Test.YtkcgchpbjegneaaGreatDoorCrossMeetsLawPack2
import Derived.Deep.LoopGhost
import Derived.Deep.QuietTactic
import Derived.BigQuiet
import Derived.Deep.AppendLies
import Derived.Deep.AppendSrc
import Derived.Deep.RegionWith
import Derived.Test.YtkcgchpbjegneaaGreatDoorBookIter
import Derived.Test.YtkcgchpbjegneaaGreatDoorErr
import Derived.Test.YtkcgchpbjegneaaGreatDoorBookCut
import Derived.Laws.StructEq
import Derived.Test.YtkcgchpbjegneaaGreatDoorBookLook
import Derived.Test.YtkcgchpbjegneaaGreatDoorBookNew
import Derived.Test.YtkcgchpbjegneaaGreatDoorHeldT
import Derived.Test.YtkcgchpbjegneaaGreatDoorBookAdd
import Derived.Test.YtkcgchpbjegneaaGreatDoorCrossMeetsLawPack1
namespace Go.Proofs.YtkcgchpbjegneaaGreatDoor
open Go.RowKit
set_option linter.unusedVariables false
set_option linter.unusedSimpArgs false

/-- a list without its k-th -/
def cutK (L : List Ord5) (k : Nat) : List Ord5 := L.take k ++ L.drop (k + 1)
def rcanL (L : List Ord5) (id : Int) : List Ord5 := cutK L (L.findIdx fun o => o.id == id)
theorem elems_take {w : World} {b off n : Nat} {L : List Ord5} (h : ElemsAt w encO 5 (some ⟨b, off, none⟩) n L) {k : Nat} (hk : k ≤ n) : ElemsAt w encO 5 (some ⟨b, off, none⟩) k (L.take k) := by
  have hl := h.1
  refine ⟨by rw [List.length_take]; omega, fun h0 => ?_⟩
  obtain ⟨b', off', e, hlt, hc⟩ := h.2 (by omega)
  cases e
  refine ⟨b, off, rfl, hlt, fun i hi j u hu => ?_⟩
  rw [List.length_take] at hi
  rw [List.getElem_take] at hu
  exact hc i (by omega) j u hu
theorem elems_drop {w : World} {b off n : Nat} {L : List Ord5} (h : ElemsAt w encO 5 (some ⟨b, off, none⟩) n L) {k : Nat} (hk : k ≤ n) : ElemsAt w encO 5 (some ⟨b, off + k * 5, none⟩) (n - k) (L.drop k) := by
  have hl := h.1
  refine ⟨by rw [List.length_drop]; omega, fun h0 => ?_⟩
  obtain ⟨b', off', e, hlt, hc⟩ := h.2 (by omega)
  cases e
  refine ⟨b, off + k * 5, rfl, hlt, fun i hi j u hu => ?_⟩
  rw [List.length_drop] at hi
  rw [List.getElem_drop] at hu
  have h2 := hc (k + i) (by omega) j u hu
  rw [show off + (k + i) * 5 + j = off + k * 5 + i * 5 + j by omega] at h2
  exact h2
theorem elems_none {w : World} {A : Option Addr} {L : List Ord5} (h : L.length = 0) : ElemsAt w encO 5 A 0 L := ⟨h, fun h0 => absurd h0 (by omega)⟩
/-- stores into a box of the call's own come behind -/
theorem RefTo.stores {w w3 W4 W9 : World} {B : Nat} {t : TypeId} {cs : Array Value} {o0 : Nat} {A : Option Addr} {L0 L : List Ord5} (h0 : RefB w B t cs o0 A L0) (hb : Below w.heap.size w w3) (h : RefTo w3 W4 B t cs o0 A L) (hz : w.heap.size < w3.heap.size) (hk : Keeps (fun i => i = w.heap.size) W4 W9) : RefTo w W9 B t cs o0 A L := by
  obtain ⟨A', c', h1, h2, h3⟩ := h
  have hB := h0.blt
  have hA : ∀ g, blkOf A' = some g → blkOf A = some g ∨ w3.heap.size ≤ g := h3
  refine ⟨A', c', h1.keeps hk (fun e => by have e : B = w.heap.size := e; omega) (fun g hg e => ?_), ((Keeps.of_below hb _).trans h2 (fun i e => .inl e)).trans hk (fun i e => .inr (by have e : i = w.heap.size := e; omega)), fun g hg => ?_⟩
  · have e : g = w.heap.size := e
    rcases hA g hg with e2 | e2
    · have := h0.lt g e2; omega
    · omega
  · rcases hA g hg with e2 | e2
    · exact .inl e2
    · exact .inr (by omega)
theorem rcanL_none {L : List Ord5} {id : Int} (h : getI L id = none) : rcanL L id = L := by
  have e : L.findIdx (fun o => o.id == id) = L.length := by
    rw [List.findIdx_eq_length]
    intro o ho
    unfold getI at h
    have := List.find?_eq_none.1 h o ho
    simpa using this
  unfold rcanL cutK
  rw [e]
  simp

set_option maxRecDepth 100000 in
set_option maxHeartbeats 8000000 in
theorem rcancel_any (w : World) (B : Nat) (t : TypeId) (cs : Array Value) (o0 : Nat) (A : Option Addr) (L : List Ord5) (h : RefB w B t cs o0 A L) (hn : L.length ≤ 100000) (id : Int) :
    Calls Tryz.prog 74 #[.pointer (some ⟨B, o0, none⟩), .int .i64 id] w fun e w' => e = .returned (.tuple #[aggO (roO L id), .int .i64 (roE L id)]) ∧ RefTo w w' B t cs o0 A (rcanL L id) := by
  have hb1 : Below w.heap.size w (w.alloc (.cells #[.int .i64 0, .int .i64 0, .int .i64 0, .int .i64 0, .int .i64 0] 24)) := (Below.refl _ _).alloc (Nat.le_refl _) _
  have HX := hid (Blk.new w 24 #[.int .i64 0, .int .i64 0, .int .i64 0, .int .i64 0, .int .i64 0])
  have HI := hid (index_any _ B t cs o0 A L (h.below hb1) hn id)
  have HR := hid h
  have HB := hid hb1
  have hBl := h.blt
  have hn1 : L.length ≤ 100000 := hn
  obtain ⟨i0, hi0, hz0, hz1, hz2⟩ := info_parts rord_info
  clear h hb1 hn
  go_enter Tryz.func74, Tryz.ntmps74
  go_wp2_with fail
  refine HI.out.mono ?_
  rintro e w2 ⟨rfl, hb2⟩
  have hX2 := Blk.keep HX.out hb2
  have HX2 := hid hX2
  have HB2 := hid (HB.out.trans (hb2.mono HB.out.size))
  rcases idxI_cases L id with ⟨hi, hg⟩ | ⟨k, hk, hi, hix, hid_, hg⟩
  · have HG := hid hg
    rw [hi]
    have d1 : (-1 : Int) < 0 := by omega
    obtain ⟨z0, z1, z2, z3, z4⟩ := box5' hX2
    have f0 := Blk.frozen hX2 0
    have f1 := Blk.frozen hX2 1
    have f2 := Blk.frozen hX2 2
    have f3 := Blk.frozen hX2 3
    have f4 := Blk.frozen hX2 4
    clear hi hg hX2 hb2 HI
    go_wp2_with fail
    refine ref_ret2 Tryz.results74 (cs := #[.int .i64 0, .int .i64 0, .int .i64 0, .int .i64 0, .int .i64 0]) (v := .int .i64 7) w.heap.size rfl (by with_unfolding_all rfl) (by with_unfolding_all rfl) (by with_unfolding_all rfl) (Blk.set_ (Blk.set_ (Blk.set_ (Blk.set_ (Blk.set_ HX2.out 0 _) 1 _) 2 _) 3 _) 4 _) ?_
    refine ⟨?_, ?_⟩
    · unfold roO roE
      rw [HG.out]
      rfl
    · rw [rcanL_none HG.out]
      exact RefTo.same HR.out (((((HB2.out.setCell (Nat.le_refl _) _).setCell (Nat.le_refl _) _).setCell (Nat.le_refl _) _).setCell (Nat.le_refl _) _).setCell (Nat.le_refl _) _)
  · have HG := hid hg
    rw [hi]
    have hk0 : (0 : Int) ≤ (k : Int) := by omega
    have d1 : ¬ (k : Int) < 0 := by omega
    have hkz : (k : Int) < ((L.length : Nat) : Int) := by omega
    have hR2 := HR.out.below HB2.out
    obtain ⟨c, y0, hc1, hc2⟩ := hR2.cell
    obtain ⟨b, off, hA⟩ : ∃ b off, A = some ⟨b, off, none⟩ := by obtain ⟨b, off, h1, _⟩ := hR2.els.2 (by omega); exact ⟨b, off, h1⟩
    subst hA
    obtain ⟨x0, x1, x2, x3, x4⟩ := ord_at hR2.els hk
    obtain ⟨o, EO⟩ : ∃ o, Hid (L[k] = o) := ⟨_, hid rfl⟩
    rw [EO.out] at x0 x1 x2 x3 x4 HG
    obtain ⟨n, hn⟩ : ∃ n, L.length = n := ⟨_, rfl⟩
    have HEl := hid hR2.els
    rw [hn] at y0 hkz hk hc1 HEl hn1
    have HIx := hid (show rcanL L id = cutK L k by unfold rcanL; rw [hix])
    have HR2 := hid hR2
    have HN := hid hn
    unfold maxLen at hc2
    clear hi hg hR2 hid_ hn hix hb2 hX2 HI
    go_upto_region 5 with fail
    obtain ⟨w3, ew3⟩ : ∃ W, (w2.alloc (.cells #[.int .i64 o.id, .int .i64 o.side, .int .i64 o.kind, .int .i64 o.price, .int .i64 o.qty] 24)) = W := ⟨_, rfl⟩
    obtain ⟨gx, egx⟩ : ∃ g, w2.heap.size = g := ⟨_, rfl⟩
    have hal : Below w2.heap.size w2 w3 := by rw [← ew3]; exact (Below.refl _ _).alloc (Nat.le_refl _) _
    have HX3 := hid (show Blk w3 gx 24 (boxO o) by rw [← ew3, ← egx]; exact Blk.new w2 _ _)
    have HB3 := hid (HB2.out.trans (hal.mono HB2.out.size))
    have hwg : w.heap.size < gx := by rw [← egx]; exact Blk.lt HX2.out
    have HZ3 := hid (Blk.keep HX2.out hal)
    have HR3 := hid (HR2.out.below hal)
    have HEl := hid (HEl.out.below hal (Nat.le_refl _))
    have y0 : w3.cell? ⟨B, o0, none⟩ = some (.slice (some ⟨b, off, none⟩) n c) := (hal.cell (World.block_lt_of_cell? w2 _ y0)).trans y0
    rw [ew3, egx]
    have hg3 : gx < w3.heap.size := Blk.lt HX3.out
    clear ew3 egx hal x0 x1 x2 x3 x4
    have HS0 := hid (show ∀ W, Below w3.heap.size w3 W → W.cell? ⟨B, o0, none⟩ = some (.slice (some ⟨b, off, none⟩) n c) from fun W hb => (hb.cell (World.block_lt_of_cell? w3 _ y0)).trans y0)
    have HFz := hid (show ∀ W, Below w3.heap.size w3 W → W.frozen? ⟨B, o0, none⟩ = false from fun W hb => Blk.frozen (Blk.keep HR3.out.blk hb) o0)
    have hkc : (k : Int) ≤ (c : Int) := by omega
    have hkc1 : (k : Int) + 1 ≤ (c : Int) := by omega
    have hkn1 : (k : Int) + 1 ≤ (n : Int) := by omega
    have hcz : (n : Int) ≤ (c : Int) := by omega
    go_cut [37] (fun s37 wx => ∃ A2 c2 W, RowAt W A2 (n - 1) c2 24 5 (flat encO (cutK L k)) ∧ Below w3.heap.size w3 W ∧ (∀ g, blkOf A2 = some g → w3.heap.size ≤ g) ∧ wx = W.setCell ⟨B, o0, none⟩ (.slice A2 (n - 1) c2))
    case first =>
      by_cases hkc2 : k + 1 = c
      · obtain rfl : c = k + 1 := hkc2.symm
        obtain rfl : n = k + 1 := by omega
        have hwr : IntKind.i64.wrap ((k : Int) + 1) = (k : Int) + 1 := by rw [IntKind.wrap_i64]; omega
        have h02 : ¬ (k : Int) + 1 < (k : Int) := by omega
        have h03 : ¬ (k : Int) + 1 < 0 := by omega
        clear hkc2
        refine wp_region_heldT_drew 19 (fun W => W.cell? ⟨B, o0, none⟩ = some (.slice (some ⟨b, off, none⟩) (k + 1) (k + 1))) (by kernel_rfl) y0 (fun hS => ?_)
        refine takeT 0 21 (.pointer (some ⟨B, o0, none⟩)) rfl rfl rfl (by kernel_rfl) (by kernel_rfl) (by kernel_rfl) (by kernel_rfl) (fun _ _ _ h => h) (by rfl) ?_ (by assumption) ?_
        · intro W hSw; go_simp
        simp only [Act.put, List.setIfInBounds_toArray, List.set_cons_zero, List.set_cons_succ]
        refine takeT 2 23 (.pointer (some ⟨B, o0, none⟩)) rfl rfl rfl (by kernel_rfl) (by kernel_rfl) (by kernel_rfl) (by kernel_rfl) (fun _ _ _ h => h) (by rfl) ?_ (by assumption) ?_
        · intro W hSw; go_simp
        simp only [Act.put, List.setIfInBounds_toArray, List.set_cons_zero, List.set_cons_succ]
        refine takeT 3 24 (.pointer (some ⟨B, o0, none⟩)) rfl rfl rfl (by kernel_rfl) (by kernel_rfl) (by kernel_rfl) (by kernel_rfl) (fun _ _ _ h => h) (by rfl) ?_ (by assumption) ?_
        · intro W hSw; go_simp
        simp only [Act.put, List.setIfInBounds_toArray, List.set_cons_zero, List.set_cons_succ]
        refine takeT 4 25 (.pointer (some ⟨B, o0, none⟩)) rfl rfl rfl (by kernel_rfl) (by kernel_rfl) (by kernel_rfl) (by kernel_rfl) (fun _ _ _ h => h) (by rfl) ?_ (by assumption) ?_
        · intro W hSw; go_simp
        simp only [Act.put, List.setIfInBounds_toArray, List.set_cons_zero, List.set_cons_succ]
        refine takeT 5 26 (.slice (some ⟨b, off, none⟩) (k + 1) (k + 1)) rfl rfl rfl (by kernel_rfl) (by kernel_rfl) (by kernel_rfl) (by kernel_rfl) (fun _ _ _ h => h) (by rfl) ?_ (by assumption) ?_
        · intro W hSw; go_simp
        simp only [Act.put, List.setIfInBounds_toArray, List.set_cons_zero, List.set_cons_succ]
        refine takeT 6 27 (.int .i64 k) rfl rfl rfl (by kernel_rfl) (by kernel_rfl) (by kernel_rfl) (by kernel_rfl) (fun _ _ _ h => h) (by rfl) ?_ (by assumption) ?_
        · intro W hSw; go_simp
        simp only [Act.put, List.setIfInBounds_toArray, List.set_cons_zero, List.set_cons_succ]
        refine takeT 7 28 (.slice (some ⟨b, off, none⟩) k (k + 1)) rfl rfl rfl (by kernel_rfl) (by kernel_rfl) (by kernel_rfl) (by kernel_rfl) (fun _ _ _ h => h) (by rfl) ?_ (by assumption) ?_
        · intro W hSw; go_simp
        simp only [Act.put, List.setIfInBounds_toArray, List.set_cons_zero, List.set_cons_succ]
        refine takeT 9 30 (.pointer (some ⟨B, o0, none⟩)) rfl rfl rfl (by kernel_rfl) (by kernel_rfl) (by kernel_rfl) (by kernel_rfl) (fun _ _ _ h => h) (by rfl) ?_ (by assumption) ?_
        · intro W hSw; go_simp
        simp only [Act.put, List.setIfInBounds_toArray, List.set_cons_zero, List.set_cons_succ]
        refine takeT 10 31 (.pointer (some ⟨B, o0, none⟩)) rfl rfl rfl (by kernel_rfl) (by kernel_rfl) (by kernel_rfl) (by kernel_rfl) (fun _ _ _ h => h) (by rfl) ?_ (by assumption) ?_
        · intro W hSw; go_simp
        simp only [Act.put, List.setIfInBounds_toArray, List.set_cons_zero, List.set_cons_succ]
        refine takeT 11 32 (.pointer (some ⟨B, o0, none⟩)) rfl rfl rfl (by kernel_rfl) (by kernel_rfl) (by kernel_rfl) (by kernel_rfl) (fun _ _ _ h => h) (by rfl) ?_ (by assumption) ?_
        · intro W hSw; go_simp
        simp only [Act.put, List.setIfInBounds_toArray, List.set_cons_zero, List.set_cons_succ]
        refine takeT 12 33 (.slice (some ⟨b, off, none⟩) (k + 1) (k + 1)) rfl rfl rfl (by kernel_rfl) (by kernel_rfl) (by kernel_rfl) (by kernel_rfl) (fun _ _ _ h => h) (by rfl) ?_ (by assumption) ?_
        · intro W hSw; go_simp
        simp only [Act.put, List.setIfInBounds_toArray, List.set_cons_zero, List.set_cons_succ]
        refine takeT 13 34 (.int .i64 k) rfl rfl rfl (by kernel_rfl) (by kernel_rfl) (by kernel_rfl) (by kernel_rfl) (fun _ _ _ h => h) (by rfl) ?_ (by assumption) ?_
        · intro W hSw; go_simp
        simp only [Act.put, List.setIfInBounds_toArray, List.set_cons_zero, List.set_cons_succ]
        refine takeT 14 35 (.int .i64 ((k : Int) + 1)) rfl rfl rfl (by kernel_rfl) (by kernel_rfl) (by kernel_rfl) (by kernel_rfl) (fun _ _ _ h => h) (by rfl) ?_ (by assumption) ?_
        · intro W hSw; go_simp
        simp only [Act.put, List.setIfInBounds_toArray, List.set_cons_zero, List.set_cons_succ]
        refine takeT 15 36 (.slice (some ⟨b, off, none⟩) 0 0) rfl rfl rfl (by kernel_rfl) (by kernel_rfl) (by kernel_rfl) (by kernel_rfl) (fun _ _ _ h => h) (by rfl) ?_ (by assumption) ?_
        · intro W hSw; go_simp
        simp only [Act.put, List.setIfInBounds_toArray, List.set_cons_zero, List.set_cons_succ]
        clear y0 hS
        have HWb := hid (show Below w3.heap.size w3 w3 from Below.refl _ _)
        refine wpAnyT_one 1 (by kernel_rfl) rfl (fun K1 hK1 => ?_)
        go_simp
        obtain ⟨v1, ev1⟩ : ∃ W, (w3.alloc (.cells #[] 24)).drew = W := ⟨_, rfl⟩
        have hal : Below w3.heap.size w3 v1 := by rw [← ev1]; exact Below.drew ((Below.refl _ _).alloc (Nat.le_refl _) _)
        have HEr := hid (show RowAt v1 (some ⟨w3.heap.size, 0, none⟩) 0 0 24 5 [] by rw [← ev1]; exact RowAt.made _ _ _)
        rw [ev1]
        clear ev1
        have HWb := hid hal
        have HWc := hid HWb.out.size
        clear hal
        refine hK1 _ _ (HS0.out _ HWb.out) (fun hS => ?_)
        clear hK1 hS
        refine wpAnyT_one 8 (by kernel_rfl) rfl (fun K1 hK1 => ?_)
        refine step_append_any encO_length encO_one (by rfl) _ _ _ (by rfl) 24 i0 _ 40 Tryz.underlying22 hi0 hz0 hz1 hz2 rfl (by omega) (some ⟨w3.heap.size, 0, none⟩) 0 0 [] (by rfl) HEr.out (some ⟨b, off, none⟩) k (k + 1) (L.take k) (by rfl) (elems_take (HEl.out.below HWb.out (Nat.le_refl _)) (by omega)) (by unfold maxLen; omega) (by omega) ?_
        intro A1 c1 v2 hr1 hg1 ha1
        rw [Nat.zero_add, List.nil_append] at hr1
        rw [Nat.zero_add]
        have HCr := hid hr1
        have HCa := hid (new_or ha1 (new_one (Nat.le_refl _)) HWc.out)
        have HWb := hid (grown_below HWb.out hg1 (new_one (Nat.le_refl _)) HWc.out)
        have HWc := hid HWb.out.size
        clear hr1 hg1 ha1
        refine hK1 _ _ (HS0.out _ HWb.out) (fun hS => ?_)
        clear hK1 hS
        simp only [Act.put, List.setIfInBounds_toArray, List.set_cons_zero, List.set_cons_succ]
        refine wpAnyT_one 16 (by kernel_rfl) rfl (fun K1 hK1 => ?_)
        refine step_append_any encO_length encO_one (by rfl) _ _ _ (by rfl) 24 i0 _ 40 Tryz.underlying22 hi0 hz0 hz1 hz2 rfl (by omega) (A1) k c1 (flat encO (L.take k)) (by rfl) HCr.out (some ⟨b, off, none⟩) 0 0 (L.drop (k + 1)) (by rfl) (elems_none (by rw [List.length_drop]; have := HN.out; omega)) (by unfold maxLen; omega) (by omega) ?_
        intro A2 c2 v3 hr2 hg2 ha2
        rw [show k + 0 = (k + 1) - 1 by omega] at hr2
        rw [show k + 0 = (k + 1) - 1 by omega]
        have HC2 := hid hr2
        have HCb := hid (new_or ha2 HCa.out HWc.out)
        have HWb := hid (grown_below HWb.out hg2 HCa.out HWc.out)
        clear hr2 hg2 ha2
        refine hK1 _ _ (HS0.out _ HWb.out) (fun hS => ?_)
        clear hK1 hS
        simp only [Act.put, List.setIfInBounds_toArray, List.set_cons_zero, List.set_cons_succ]
        refine wpAnyT_one 17 (by kernel_rfl) rfl (fun K1 hK1 => ?_)
        go_simp
        refine hK1 _ _ (HS0.out _ HWb.out) (fun hS => ?_)
        clear hK1 hS
        refine wpAnyT_one 18 (by kernel_rfl) rfl (fun K1 hK1 => ?_)
        go_simp
        refine hK1 _ _ (HS0.out _ HWb.out) (fun hS => ?_)
        clear hK1 hS
        have hfz := HFz.out _ HWb.out
        have hcz2 := HS0.out _ HWb.out
        refine wpAnyT_last (by kernel_rfl) rfl (fun K1 hK1 => ?_)
        go_simp
        refine hK1 _ _ (wpAnyT_done (by kernel_rfl) ?_ _)
        clear hK1 hfz hcz2
        go_wp2_with fail
        go_meet
        exact ⟨A2, c2, v3, by have h := HC2.out; unfold cutK; rw [flat_append]; exact h, HWb.out, HCb.out, rfl⟩
      · have hkz2 : ¬ c = k + 1 := by omega
        have hwr : IntKind.i64.wrap ((k : Int) + 1) = (k : Int) + 1 := by rw [IntKind.wrap_i64]; omega
        have h01 : (0 : Int) ≤ (k : Int) + 1 := by omega
        refine wp_region_heldT_drew 19 (fun W => W.cell? ⟨B, o0, none⟩ = some (.slice (some ⟨b, off, none⟩) n c)) (by kernel_rfl) y0 (fun hS => ?_)
        refine takeT 0 21 (.pointer (some ⟨B, o0, none⟩)) rfl rfl rfl (by kernel_rfl) (by kernel_rfl) (by kernel_rfl) (by kernel_rfl) (fun _ _ _ h => h) (by rfl) ?_ (by assumption) ?_
        · intro W hSw; go_simp
        simp only [Act.put, List.setIfInBounds_toArray, List.set_cons_zero, List.set_cons_succ]
        refine takeT 2 23 (.pointer (some ⟨B, o0, none⟩)) rfl rfl rfl (by kernel_rfl) (by kernel_rfl) (by kernel_rfl) (by kernel_rfl) (fun _ _ _ h => h) (by rfl) ?_ (by assumption) ?_
        · intro W hSw; go_simp
        simp only [Act.put, List.setIfInBounds_toArray, List.set_cons_zero, List.set_cons_succ]
        refine takeT 3 24 (.pointer (some ⟨B, o0, none⟩)) rfl rfl rfl (by kernel_rfl) (by kernel_rfl) (by kernel_rfl) (by kernel_rfl) (fun _ _ _ h => h) (by rfl) ?_ (by assumption) ?_
        · intro W hSw; go_simp
        simp only [Act.put, List.setIfInBounds_toArray, List.set_cons_zero, List.set_cons_succ]
        refine takeT 4 25 (.pointer (some ⟨B, o0, none⟩)) rfl rfl rfl (by kernel_rfl) (by kernel_rfl) (by kernel_rfl) (by kernel_rfl) (fun _ _ _ h => h) (by rfl) ?_ (by assumption) ?_
        · intro W hSw; go_simp
        simp only [Act.put, List.setIfInBounds_toArray, List.set_cons_zero, List.set_cons_succ]
        refine takeT 5 26 (.slice (some ⟨b, off, none⟩) n c) rfl rfl rfl (by kernel_rfl) (by kernel_rfl) (by kernel_rfl) (by kernel_rfl) (fun _ _ _ h => h) (by rfl) ?_ (by assumption) ?_
        · intro W hSw; go_simp
        simp only [Act.put, List.setIfInBounds_toArray, List.set_cons_zero, List.set_cons_succ]
        refine takeT 6 27 (.int .i64 k) rfl rfl rfl (by kernel_rfl) (by kernel_rfl) (by kernel_rfl) (by kernel_rfl) (fun _ _ _ h => h) (by rfl) ?_ (by assumption) ?_
        · intro W hSw; go_simp
        simp only [Act.put, List.setIfInBounds_toArray, List.set_cons_zero, List.set_cons_succ]
        refine takeT 7 28 (.slice (some ⟨b, off, none⟩) k c) rfl rfl rfl (by kernel_rfl) (by kernel_rfl) (by kernel_rfl) (by kernel_rfl) (fun _ _ _ h => h) (by rfl) ?_ (by assumption) ?_
        · intro W hSw; go_simp
        simp only [Act.put, List.setIfInBounds_toArray, List.set_cons_zero, List.set_cons_succ]
        refine takeT 9 30 (.pointer (some ⟨B, o0, none⟩)) rfl rfl rfl (by kernel_rfl) (by kernel_rfl) (by kernel_rfl) (by kernel_rfl) (fun _ _ _ h => h) (by rfl) ?_ (by assumption) ?_
        · intro W hSw; go_simp
        simp only [Act.put, List.setIfInBounds_toArray, List.set_cons_zero, List.set_cons_succ]
        refine takeT 10 31 (.pointer (some ⟨B, o0, none⟩)) rfl rfl rfl (by kernel_rfl) (by kernel_rfl) (by kernel_rfl) (by kernel_rfl) (fun _ _ _ h => h) (by rfl) ?_ (by assumption) ?_
        · intro W hSw; go_simp
        simp only [Act.put, List.setIfInBounds_toArray, List.set_cons_zero, List.set_cons_succ]
        refine takeT 11 32 (.pointer (some ⟨B, o0, none⟩)) rfl rfl rfl (by kernel_rfl) (by kernel_rfl) (by kernel_rfl) (by kernel_rfl) (fun _ _ _ h => h) (by rfl) ?_ (by assumption) ?_
        · intro W hSw; go_simp
        simp only [Act.put, List.setIfInBounds_toArray, List.set_cons_zero, List.set_cons_succ]
        refine takeT 12 33 (.slice (some ⟨b, off, none⟩) n c) rfl rfl rfl (by kernel_rfl) (by kernel_rfl) (by kernel_rfl) (by kernel_rfl) (fun _ _ _ h => h) (by rfl) ?_ (by assumption) ?_
        · intro W hSw; go_simp
        simp only [Act.put, List.setIfInBounds_toArray, List.set_cons_zero, List.set_cons_succ]
        refine takeT 13 34 (.int .i64 k) rfl rfl rfl (by kernel_rfl) (by kernel_rfl) (by kernel_rfl) (by kernel_rfl) (fun _ _ _ h => h) (by rfl) ?_ (by assumption) ?_
        · intro W hSw; go_simp
        simp only [Act.put, List.setIfInBounds_toArray, List.set_cons_zero, List.set_cons_succ]
        refine takeT 14 35 (.int .i64 ((k : Int) + 1)) rfl rfl rfl (by kernel_rfl) (by kernel_rfl) (by kernel_rfl) (by kernel_rfl) (fun _ _ _ h => h) (by rfl) ?_ (by assumption) ?_
        · intro W hSw; go_simp
        simp only [Act.put, List.setIfInBounds_toArray, List.set_cons_zero, List.set_cons_succ]
        refine takeT 15 36 (.slice (some ⟨b, off + (k + 1) * 5, none⟩) (n - (k + 1)) (c - (k + 1))) rfl rfl rfl (by kernel_rfl) (by kernel_rfl) (by kernel_rfl) (by kernel_rfl) (fun _ _ _ h => h) (by rfl) ?_ (by assumption) ?_
        · intro W hSw; go_simp
        simp only [Act.put, List.setIfInBounds_toArray, List.set_cons_zero, List.set_cons_succ]
        clear y0 hS
        have HWb := hid (show Below w3.heap.size w3 w3 from Below.refl _ _)
        refine wpAnyT_one 1 (by kernel_rfl) rfl (fun K1 hK1 => ?_)
        go_simp
        obtain ⟨v1, ev1⟩ : ∃ W, (w3.alloc (.cells #[] 24)).drew = W := ⟨_, rfl⟩
        have hal : Below w3.heap.size w3 v1 := by rw [← ev1]; exact Below.drew ((Below.refl _ _).alloc (Nat.le_refl _) _)
        have HEr := hid (show RowAt v1 (some ⟨w3.heap.size, 0, none⟩) 0 0 24 5 [] by rw [← ev1]; exact RowAt.made _ _ _)
        rw [ev1]
        clear ev1
        have HWb := hid hal
        have HWc := hid HWb.out.size
        clear hal
        refine hK1 _ _ (HS0.out _ HWb.out) (fun hS => ?_)
        clear hK1 hS
        refine wpAnyT_one 8 (by kernel_rfl) rfl (fun K1 hK1 => ?_)
        refine step_append_any encO_length encO_one (by rfl) _ _ _ (by rfl) 24 i0 _ 40 Tryz.underlying22 hi0 hz0 hz1 hz2 rfl (by omega) (some ⟨w3.heap.size, 0, none⟩) 0 0 [] (by rfl) HEr.out (some ⟨b, off, none⟩) k c (L.take k) (by rfl) (elems_take (HEl.out.below HWb.out (Nat.le_refl _)) (by omega)) (by unfold maxLen; omega) (by omega) ?_
        intro A1 c1 v2 hr1 hg1 ha1
        rw [Nat.zero_add, List.nil_append] at hr1
        rw [Nat.zero_add]
        have HCr := hid hr1
        have HCa := hid (new_or ha1 (new_one (Nat.le_refl _)) HWc.out)
        have HWb := hid (grown_below HWb.out hg1 (new_one (Nat.le_refl _)) HWc.out)
        have HWc := hid HWb.out.size
        clear hr1 hg1 ha1
        refine hK1 _ _ (HS0.out _ HWb.out) (fun hS => ?_)
        clear hK1 hS
        simp only [Act.put, List.setIfInBounds_toArray, List.set_cons_zero, List.set_cons_succ]
        refine wpAnyT_one 16 (by kernel_rfl) rfl (fun K1 hK1 => ?_)
        refine step_append_any encO_length encO_one (by rfl) _ _ _ (by rfl) 24 i0 _ 40 Tryz.underlying22 hi0 hz0 hz1 hz2 rfl (by omega) (A1) k c1 (flat encO (L.take k)) (by rfl) HCr.out (some ⟨b, off + (k + 1) * 5, none⟩) (n - (k + 1)) (c - (k + 1)) (L.drop (k + 1)) (by rfl) (elems_drop (HEl.out.below HWb.out (Nat.le_refl _)) (by omega)) (by unfold maxLen; omega) (by omega) ?_
        intro A2 c2 v3 hr2 hg2 ha2
        rw [show k + (n - (k + 1)) = n - 1 by omega] at hr2
        rw [show k + (n - (k + 1)) = n - 1 by omega]
        have HC2 := hid hr2
        have HCb := hid (new_or ha2 HCa.out HWc.out)
        have HWb := hid (grown_below HWb.out hg2 HCa.out HWc.out)
        clear hr2 hg2 ha2
        refine hK1 _ _ (HS0.out _ HWb.out) (fun hS => ?_)
        clear hK1 hS
        simp only [Act.put, List.setIfInBounds_toArray, List.set_cons_zero, List.set_cons_succ]
        refine wpAnyT_one 17 (by kernel_rfl) rfl (fun K1 hK1 => ?_)
        go_simp
        refine hK1 _ _ (HS0.out _ HWb.out) (fun hS => ?_)
        clear hK1 hS
        refine wpAnyT_one 18 (by kernel_rfl) rfl (fun K1 hK1 => ?_)
        go_simp
        refine hK1 _ _ (HS0.out _ HWb.out) (fun hS => ?_)
        clear hK1 hS
        have hfz := HFz.out _ HWb.out
        have hcz2 := HS0.out _ HWb.out
        refine wpAnyT_last (by kernel_rfl) rfl (fun K1 hK1 => ?_)
        go_simp
        refine hK1 _ _ (wpAnyT_done (by kernel_rfl) ?_ _)
        clear hK1 hfz hcz2
        go_wp2_with fail
        go_meet
        exact ⟨A2, c2, v3, by have h := HC2.out; unfold cutK; rw [flat_append]; exact h, HWb.out, HCb.out, rfl⟩
    case rest =>
      obtain ⟨A2, c2, W, hr2, hb, ha, rfl⟩ := hcut
      have hX4 := Blk.far (Blk.keep HX3.out hb) (p := ⟨B, o0, none⟩) (by have := HR3.out.blt; show gx ≠ B; omega) (.slice A2 (n - 1) c2)
      have hZ4 := Blk.far (Blk.keep HZ3.out hb) (p := ⟨B, o0, none⟩) (by show w.heap.size ≠ B; omega) (.slice A2 (n - 1) c2)
      have HTo := hid (HR3.out.put hb hr2 ha)
      obtain ⟨W4, eW4⟩ : ∃ X, W.setCell ⟨B, o0, none⟩ (.slice A2 (n - 1) c2) = X := ⟨_, rfl⟩
      rw [eW4] at hX4 hZ4 HTo ⊢
      obtain ⟨x0, x1, x2, x3, x4⟩ := ord_box hX4
      obtain ⟨z0, z1, z2, z3, z4⟩ := box5' hZ4
      have f0 := Blk.frozen hZ4 0
      have f1 := Blk.frozen hZ4 1
      have f2 := Blk.frozen hZ4 2
      have f3 := Blk.frozen hZ4 3
      have f4 := Blk.frozen hZ4 4
      have HZ4 := hid hZ4
      clear hX4 hZ4 eW4 hr2 hb ha y0
      go_wp2_with fail
      refine ref_ret2 Tryz.results74 (cs := boxO o) (v := .int .i64 0) w.heap.size rfl (by with_unfolding_all rfl) (by with_unfolding_all rfl) (by with_unfolding_all rfl) (Blk.set_ (Blk.set_ (Blk.set_ (Blk.set_ (Blk.set_ HZ4.out 0 _) 1 _) 2 _) 3 _) 4 _) ?_
      refine ⟨?_, ?_⟩
      · unfold roO roE
        rw [HG.out]
        rfl
      · rw [HIx.out]
        exact RefTo.stores HR.out HB3.out HTo.out (by omega) (((((Keeps.set_ _ ⟨w.heap.size, 0, none⟩ _).trans (Keeps.set_ _ ⟨w.heap.size, 1, none⟩ _) (fun i e => .inl e)).trans (Keeps.set_ _ ⟨w.heap.size, 2, none⟩ _) (fun i e => .inl e)).trans (Keeps.set_ _ ⟨w.heap.size, 3, none⟩ _) (fun i e => .inl e)).trans (Keeps.set_ _ ⟨w.heap.size, 4, none⟩ _) (fun i e => .inl e))
end Go.Proofs.YtkcgchpbjegneaaGreatDoor
namespace Go.Proofs.YtkcgchpbjegneaaGreatDoor
open Go.RowKit
set_option linter.unusedVariables false
set_option linter.unusedSimpArgs false

theorem flat_set_at {α : Type} {enc : α → List Value} {K : Nat} (hk : ∀ x, (enc x).length = K) {j : Nat} (hj : j < K) (v : Value) (y : α) : ∀ (L : List α) (i : Nat) (hi : i < L.length), enc y = (enc L[i]).set j v → (flat enc L).set (i * K + j) v = flat enc (L.set i y) := by
  intro L
  induction L with
  | nil => intro i hi; exact absurd hi (by simp)
  | cons x t ih =>
    intro i hi he
    have e : ∀ (z : α) (u : List α), flat enc (z :: u) = enc z ++ flat enc u := fun z u => by simp [flat]
    cases i with
    | zero =>
      rw [Nat.zero_mul, Nat.zero_add, List.set_cons_zero, e, e, List.set_append_left _ _ (by rw [hk]; exact hj)]
      rw [he]; rfl
    | succ i =>
      have h1 : (i + 1) * K + j = K + (i * K + j) := by rw [Nat.add_mul, Nat.one_mul]; omega
      rw [List.set_cons_succ, e, e, h1, List.set_append_right _ _ (by rw [hk]; omega), hk, Nat.add_sub_cancel_left, ih i (by simpa using hi) he]
theorem arr_set_set {cs : Array Value} {o : Nat} {u v : Value} : (cs.setIfInBounds o u).setIfInBounds o v = cs.setIfInBounds o v := by
  apply Array.ext'
  simp
/-- one behind another -/
theorem RefTo.trans {w w1 w2 : World} {B : Nat} {t : TypeId} {cs : Array Value} {o0 : Nat} {A A1 : Option Addr} {v : Value} {L2 : List Ord5} (hk : Keeps (fun i => i = B) w w1) (hA : ∀ g, blkOf A1 = some g → blkOf A = some g ∨ w.heap.size ≤ g) (h : RefTo w1 w2 B t (cs.setIfInBounds o0 v) o0 A1 L2) : RefTo w w2 B t cs o0 A L2 := by
  obtain ⟨A2, c2, h1, h2, h3⟩ := h
  rw [arr_set_set] at h1
  refine ⟨A2, c2, h1, hk.trans h2 (fun i e => .inl e), fun g hg => ?_⟩
  rcases h3 g hg with e | e
  · exact hA g e
  · exact .inr (Nat.le_trans hk.size e)
def rcutE (L : List Ord5) (id q : Int) : Int := match getI L id with | none => 7 | some o => if 1 ≤ q ∧ q ≤ o.qty then 0 else 2
def rcutL (L : List Ord5) (id q : Int) : List Ord5 := match getI L id with | none => L | some o => if 1 ≤ q ∧ q ≤ o.qty then (if q = o.qty then cutK L (L.findIdx fun o => o.id == id) else L.set (L.findIdx fun o => o.id == id) (cutO o q)) else L
theorem findIdx_set {L : List Ord5} {id : Int} {k : Nat} (hk : k < L.length) (h : L.findIdx (fun o => o.id == id) = k) (o : Ord5) (ho : o.id = id) : (L.set k o).findIdx (fun o => o.id == id) = k := by
  have h2 := (List.findIdx_eq hk).1 h
  refine (List.findIdx_eq (by simpa using hk)).2 ⟨by simp [ho], fun j hj => ?_⟩
  rw [List.getElem_set_ne (by omega)]
  exact h2.2 j hj
theorem cutK_set {L : List Ord5} {k : Nat} (o : Ord5) : cutK (L.set k o) k = cutK L k := by
  unfold cutK
  rw [List.take_set_of_le (Nat.le_refl _), List.drop_set_of_lt (by omega)]

set_option maxRecDepth 100000 in
set_option maxHeartbeats 4000000 in
theorem rcut_any (w : World) (B : Nat) (t : TypeId) (cs : Array Value) (o0 : Nat) (A : Option Addr) (L : List Ord5) (h : RefB w B t cs o0 A L) (hn : L.length ≤ 100000) (id q : Int) (hq : ∀ o ∈ L, -1000000000 ≤ o.qty ∧ o.qty ≤ 1000000000) :
    Calls Tryz.prog 45 #[.pointer (some ⟨B, o0, none⟩), .int .i64 id, .int .i64 q] w fun e w' => e = .returned (.int .i64 (rcutE L id q)) ∧ RefTo w w' B t cs o0 A (rcutL L id q) := by
  have HI := hid (index_any w B t cs o0 A L h hn id)
  have HR := hid h
  have hBl := h.blt
  have hn1 : L.length ≤ 100000 := hn
  obtain ⟨i0, hi0, hz0, hz1, hz2⟩ := info_parts rord_info
  have HQ := hid hq
  clear h hn hq
  go_enter Tryz.func45, Tryz.ntmps45
  go_wp2_with fail
  refine HI.out.mono ?_
  rintro e w2 ⟨rfl, hb2⟩
  have HB2 := hid hb2
  rcases idxI_cases L id with ⟨hi, hg⟩ | ⟨k, hk, hi, hix, hid_, hg⟩
  · have HE1 := hid (show rcutE L id q = 7 by unfold rcutE; rw [hg])
    have HE2 := hid (show rcutL L id q = L by unfold rcutL; rw [hg])
    rw [hi]
    have d1 : (-1 : Int) < 0 := by omega
    clear hi hg hb2 HI
    go_wp2_with fail
    go_ret
    exact ⟨ret_int (by rw [HE1.out]), by rw [HE2.out]; exact RefTo.same HR.out HB2.out⟩
  · rw [hi]
    have hk0 : (0 : Int) ≤ (k : Int) := by omega
    have d1 : ¬ (k : Int) < 0 := by omega
    have hkz : (k : Int) < ((L.length : Nat) : Int) := by omega
    have hR2 := HR.out.below HB2.out
    obtain ⟨c, y0, hc1, hc2⟩ := hR2.cell
    obtain ⟨b, off, hA⟩ : ∃ b off, A = some ⟨b, off, none⟩ := by obtain ⟨b, off, h1, _⟩ := hR2.els.2 (by omega); exact ⟨b, off, h1⟩
    subst hA
    obtain ⟨-, -, -, -, x4⟩ := ord_at hR2.els hk
    have hqb := HQ.out L[k] (List.getElem_mem hk)
    obtain ⟨o, EO⟩ : ∃ o, Hid (L[k] = o) := ⟨_, hid rfl⟩
    rw [EO.out] at x4 hg hid_ hqb
    obtain ⟨n, hn⟩ : ∃ n, L.length = n := ⟨_, rfl⟩
    have HEl := hid hR2.els
    rw [hn] at y0 hkz hc1 HEl hn1
    have HG := hid hg
    have HIx := hid hix
    have HId := hid hid_
    have HR2 := hid hR2
    have HN := hid hn
    unfold maxLen at hc2
    have hkn : k < n := by omega
    clear hi hg hR2 hid_ hn hix hb2 HI
    by_cases hqr : ¬ (1 ≤ q ∧ q ≤ o.qty)
    · have HB := hid (show (decide (1 ≤ q) && decide (q ≤ o.qty)) = false by simp; omega)
      have HE1 := hid (show rcutE L id q = 2 by unfold rcutE; rw [HG.out]; exact if_neg hqr)
      have HE2 := hid (show rcutL L id q = L by unfold rcutL; rw [HG.out]; exact if_neg hqr)
      clear hqr
      go_wp2_with fail
      refine (rin_any _ _ _ _).mono ?_
      rintro e w' ⟨rfl, rfl⟩
      rw [HB.out]
      go_wp2_with fail
      go_ret
      exact ⟨ret_int (by rw [HE1.out]), by rw [HE2.out]; exact RefTo.same HR.out HB2.out⟩
    · have hqr : 1 ≤ q ∧ q ≤ o.qty := by omega
      have HB := hid (show (decide (1 ≤ q) && decide (q ≤ o.qty)) = true by simp; omega)
      have HE1 := hid (show rcutE L id q = 0 by unfold rcutE; rw [HG.out]; exact if_pos hqr)
      have HE2 := hid (show rcutL L id q = if q = o.qty then cutK L k else L.set k (cutO o q) by unfold rcutL; rw [HG.out, HIx.out]; exact if_pos hqr)
      have HQr := hid hqr
      clear hqr
      go_wp2_with fail
      refine (rin_any _ _ _ _).mono ?_
      rintro e w' ⟨rfl, rfl⟩
      rw [HB.out]
      go_upto_region 6 with fail
      obtain ⟨w3, ew3⟩ : ∃ W, w2.alloc (.cells #[] 24) = W := ⟨_, rfl⟩
      have hal : Below w2.heap.size w2 w3 := by rw [← ew3]; exact (Below.refl _ _).alloc (Nat.le_refl _) _
      have HEr := hid (show RowAt w3 (some ⟨w2.heap.size, 0, none⟩) 0 0 24 5 [] by rw [← ew3]; exact RowAt.made _ _ _)
      have y3 := (hal.cell (World.block_lt_of_cell? w2 _ y0)).trans y0
      have HAl := hid hal
      clear hal
      go_upto_region 7 with (at_builtin; (refine wpList_append_any encO_length encO_one rfl _ _ _ rfl 24 i0 _ 40 Tryz.underlying22 hi0 hz0 hz1 hz2 rfl (by omega) (some ⟨w2.heap.size, 0, none⟩) 0 0 [] rfl HEr.out (some ⟨b, off, none⟩) n c L rfl (HEl.out.below HAl.out (Nat.le_refl _)) (by unfold maxLen; omega) (by omega) ?_); intro A1 c1 w4 hr1 hg1 ha1; rw [Nat.zero_add, List.nil_append] at hr1; rw [Nat.zero_add]; have HR1 := hid hr1; have HG1 := hid hg1; have HA1 := hid ha1; have hfz := Blk.frozen (Blk.grown (Blk.keep HR2.out.blk HAl.out) hg1 (fun e => by have := HR2.out.blt; have e2 : some B = some w2.heap.size := e; have := Option.some.inj e2; omega)) o0; have hcz : w4.cell? ⟨B, o0, none⟩ = some (.slice (some ⟨b, off, none⟩) n c) := ((keeps_grown hg1).cell (p := ⟨B, o0, none⟩) (World.block_lt_of_cell? w3 _ y3) (fun e => by have := HR2.out.blt; have e2 : some w2.heap.size = some B := e; have := Option.some.inj e2; omega)).trans y3; clear hr1 hg1 ha1)
      have HWb := hid (grown_below HAl.out HG1.out (new_one (Nat.le_refl _)) HAl.out.size)
      have HCa := hid (new_or HA1.out (new_one (Nat.le_refl _)) HAl.out.size)
      obtain ⟨g, hA1, -⟩ := HR1.out.elem encO_length (by omega) hk
      subst hA1
      have hgw : w2.heap.size ≤ g := HCa.out g rfl
      have hgB : g ≠ B := by have := HR2.out.blt; omega
      have hr5 : RowAt (w4.setCell ⟨B, o0, none⟩ (.slice (some ⟨g, 0, none⟩) n c1)) (some ⟨g, 0, none⟩) n c1 24 5 (flat encO L) := HR1.out.keeps (Keeps.set_ w4 ⟨B, o0, none⟩ _) (fun x hx e => by cases hx; exact hgB e)
      have hb5 := Blk.set_ (Blk.keep HR2.out.blk HWb.out) o0 (.slice (some ⟨g, 0, none⟩) n c1)
      obtain ⟨W5, eW5⟩ : ∃ W, w4.setCell ⟨B, o0, none⟩ (.slice (some ⟨g, 0, none⟩) n c1) = W := ⟨_, rfl⟩
      have hk5 : Keeps (fun i => i = B) w2 W5 := by rw [← eW5]; exact (Keeps.of_below HWb.out _).trans (Keeps.set_ w4 ⟨B, o0, none⟩ _) (fun i e => .inl e)
      rw [eW5] at hr5 hb5 ⊢
      obtain ⟨ca, hca, -⟩ := HR2.out.at_
      have hol : o0 < cs.size := (Array.getElem?_eq_some_iff.1 hca).1
      have z0 : W5.cell? ⟨B, o0, none⟩ = some (.slice (some ⟨g, 0, none⟩) n c1) := by rw [Blk.cell hb5]; simp [hol]
      obtain ⟨-, -, -, -, q4⟩ := ord_own hr5 hk
      rw [EO.out] at q4
      have fz := hr5.frozen (k * 5 + 4)
      have hset := hr5.set (k * 5 + 4) (.int .i64 (o.qty - q))
      have he5 : encO (cutO o q) = (encO L[k]).set 4 (.int .i64 (o.qty - q)) := by rw [EO.out]; rfl
      rw [flat_set_at encO_length (by omega) _ (cutO o q) L k hk he5] at hset
      have hb6 := Blk.far hb5 (p := ⟨g, k * 5 + 4, none⟩) (fun e => hgB e.symm) (.int .i64 (o.qty - q))
      have hk6 : Keeps (fun i => i = B ∨ i = g) w2 (W5.setCell ⟨g, k * 5 + 4, none⟩ (.int .i64 (o.qty - q))) := (hk5.mono (fun i e => .inl e)).trans (Keeps.set_ W5 ⟨g, k * 5 + 4, none⟩ _) (fun i e => .inl (.inr e))
      have hkz5 : (k : Int) < (n : Int) := by omega
      have hi1 : RowKit.wrap64 (o.qty - q) = o.qty - q := by have := HQr.out; unfold RowKit.wrap64; omega
      have HSet := hid hset
      have HB6 := hid hb6
      have HK6 := hid hk6
      clear hset hb6 hk6 hr5 hb5 hk5 he5 hca x4 y0 y3 ew3 eW5 hfz hcz
      go_upto_region 8 with fail
      obtain ⟨W6, eW6⟩ : ∃ W, W5.setCell ⟨g, k * 5 + 4, none⟩ (.int .i64 (o.qty - q)) = W := ⟨_, rfl⟩
      have hRf : RefB W6 B t (cs.setIfInBounds o0 (.slice (some ⟨g, 0, none⟩) n c1)) o0 (some ⟨g, 0, none⟩) (L.set k (cutO o q)) := by
        have h1 := HSet.out
        have h2 := HB6.out
        rw [eW6] at h1 h2
        have hl : (L.set k (cutO o q)).length = n := by rw [List.length_set]; exact HN.out
        refine ⟨h2, ⟨c1, by rw [hl]; simp [hol], by rw [hl]; exact RowAt.le_cap h1⟩, by rw [hl]; exact ElemsAt.of_row encO_length (by omega) h1, fun e => by cases e; exact hgB rfl, fun x hx => h1.lt hx⟩
      have hKf : Keeps (fun i => i = B) w W6 := by
        have h1 := HK6.out
        rw [eW6] at h1
        exact (Keeps.of_below HB2.out _).trans h1 (fun i e => by
          rcases e with e | e
          · exact .inl e
          · exact .inr (by have := HB2.out.size; omega))
      have hgf : ∀ x, blkOf (some ⟨g, 0, none⟩) = some x → blkOf (some ⟨b, off, none⟩) = some x ∨ w.heap.size ≤ x := fun x hx => by
        cases hx
        exact .inr (by have := HB2.out.size; show w.heap.size ≤ g; omega)
      have z6 : W6.cell? ⟨B, o0, none⟩ = some (.slice (some ⟨g, 0, none⟩) n c1) := by rw [Blk.cell hRf.blk]; simp [hol]
      have q6 : W6.cell? ⟨g, k * 5 + 4, none⟩ = some (.int .i64 (o.qty - q)) := by
        have h1 := HSet.out
        rw [eW6] at h1
        obtain ⟨-, -, -, -, q4⟩ := ord_own (i := k) h1 (by simpa using hk)
        rw [List.getElem_set_self] at q4
        exact q4
      have HRf := hid hRf
      have HKf := hid hKf
      have HGf := hid hgf
      have HW6 := hid eW6
      rw [eW6]
      clear z0 q4 fz hRf hKf hgf eW6 hi1
      by_cases hz : o.qty - q = 0
      · have d2 := beqT hz
        have HE3 := hid (show rcutL L id q = rcanL (L.set k (cutO o q)) id by
          rw [HE2.out, if_pos (by omega)]
          unfold rcanL
          rw [findIdx_set hk HIx.out (cutO o q) HId.out, cutK_set])
        have HCn := hid (rcancel_any W6 B t _ o0 (some ⟨g, 0, none⟩) (L.set k (cutO o q)) HRf.out (by rw [List.length_set, HN.out]; exact hn1) id)
        clear hz
        go_wp2_with fail
        refine HCn.out.mono ?_
        rintro e w9 ⟨rfl, hto⟩
        have HTo := hid hto
        clear hto
        go_wp2_with fail
        go_ret
        exact ⟨ret_int (by rw [HE1.out]), by rw [HE3.out]; exact RefTo.trans HKf.out HGf.out HTo.out⟩
      · have d2 := beqF hz
        have HE3 := hid (show rcutL L id q = L.set k (cutO o q) by rw [HE2.out, if_neg (by omega)])
        clear hz
        go_wp2_with fail
        go_ret
        refine ⟨ret_int (by rw [HE1.out]), ?_⟩
        rw [HE3.out]
        exact RefTo.trans HKf.out HGf.out (RefTo.same HRf.out (Below.refl _ _))
end Go.Proofs.YtkcgchpbjegneaaGreatDoor
namespace Go.Proofs.YtkcgchpbjegneaaGreatDoor
open Go.RowKit
set_option linter.unusedVariables false

theorem rside_ref {w : World} {B : Nat} {t : TypeId} {cs : Array Value} {o0 : Nat} {A : Option Addr} {L : List Ord5} (h : RefB w B t cs o0 A L) (hn : L.length ≤ 100000) (side : Int) (hp : ∀ o ∈ onSide side L, -1000000000 ≤ o.price ∧ o.price ≤ 1000000000) :
    Calls Tryz.prog 40 #[.pointer (some ⟨B, o0, none⟩), .int .i64 side] w fun e w' => Below w.heap.size w w' ∧ ∃ A' c', e = .returned (.slice A' (rsideL side L).length c') ∧ RowAt w' A' (rsideL side L).length c' 24 5 (flat encO (rsideL side L)) ∧ ∀ g, blkOf A' = some g → w.heap.size ≤ g := by
  obtain ⟨c, hc, -⟩ := h.cell
  exact rside_any w B o0 A L.length c L side hc h.els hn hp

def depF (out : List Tri) (o : Ord5) : List Tri :=
  if o.kind = 2 then out else match out.getLast? with
    | some x => if x.1 = o.price then out.dropLast ++ [(x.1, x.2.1 + o.qty, x.2.2 + 1)] else out ++ [(o.price, o.qty, 1)]
    | none => [(o.price, o.qty, 1)]
def depthL (l : List Ord5) : List Tri := l.foldl depF []
theorem depthL_snoc (l : List Ord5) (o : Ord5) : depthL (l ++ [o]) = depF (depthL l) o := by unfold depthL; rw [List.foldl_append]; rfl
theorem depF_market {out : List Tri} {o : Ord5} (h : o.kind = 2) : depF out o = out := if_pos h
theorem depF_first {o : Ord5} (h : o.kind ≠ 2) : depF [] o = [(o.price, o.qty, 1)] := by unfold depF; rw [if_neg h]; rfl
theorem depF_same {out : List Tri} {x : Tri} {o : Ord5} (h : o.kind ≠ 2) (hx : x.1 = o.price) : depF (out ++ [x]) o = out ++ [(x.1, x.2.1 + o.qty, x.2.2 + 1)] := by
  unfold depF
  rw [if_neg h, List.getLast?_concat]
  simp [hx]
theorem depF_next {out : List Tri} {x : Tri} {o : Ord5} (h : o.kind ≠ 2) (hx : x.1 ≠ o.price) : depF (out ++ [x]) o = (out ++ [x]) ++ [(o.price, o.qty, 1)] := by
  unfold depF
  rw [if_neg h, List.getLast?_concat]
  exact if_neg hx
theorem nil_or_snoc {α : Type} (l : List α) : l = [] ∨ ∃ u x, l = u ++ [x] := by
  rcases List.eq_nil_or_concat l with h | ⟨u, x, h⟩
  · exact .inl h
  · exact .inr ⟨u, x, by rw [h, List.concat_eq_append]⟩
structure DepOk (out : List Tri) (k : Nat) : Prop where
  len : out.length ≤ k
  b : ∀ x ∈ out, 0 ≤ x.2.1 ∧ x.2.1 ≤ 1000000 * k ∧ 0 ≤ x.2.2 ∧ x.2.2 ≤ k
theorem DepOk.step {out : List Tri} {k : Nat} (h : DepOk out k) {o : Ord5} (ho : 0 ≤ o.qty ∧ o.qty ≤ 1000000) : DepOk (depF out o) (k + 1) := by
  have hb := h.b
  by_cases hk : o.kind = 2
  · rw [depF_market hk]
    exact ⟨by have := h.len; omega, fun x hx => by have := hb x hx; omega⟩
  · rcases nil_or_snoc out with rfl | ⟨u, x, rfl⟩
    · rw [depF_first hk]
      refine ⟨by simp, fun y hy => ?_⟩
      rw [List.mem_singleton] at hy
      subst hy
      dsimp only
      omega
    · by_cases e : x.1 = o.price
      · rw [depF_same hk e]
        refine ⟨by have := h.len; simp at this ⊢; omega, fun y hy => ?_⟩
        rcases List.mem_append.1 hy with hy | hy
        · have := hb y (by simp [hy]); omega
        · rw [List.mem_singleton] at hy
          subst hy
          have := hb x (by simp)
          dsimp only
          omega
      · rw [depF_next hk e]
        refine ⟨by have := h.len; simp at this ⊢; omega, fun y hy => ?_⟩
        rcases List.mem_append.1 hy with hy | hy
        · have := hb y hy; omega
        · rw [List.mem_singleton] at hy
          subst hy
          dsimp only
          omega
theorem depOk_all {l : List Ord5} (h : ∀ o ∈ l, 0 ≤ o.qty ∧ o.qty ≤ 1000000) : ∀ k, k ≤ l.length → DepOk (depthL (l.take k)) k := by
  intro k
  induction k with
  | zero => intro _; exact ⟨by simp [depthL], fun x hx => by simp [depthL] at hx⟩
  | succ k ih =>
    intro hk
    rw [List.take_succ_eq_append_getElem (by omega), depthL_snoc]
    exact (ih (by omega)).step (h _ (List.getElem_mem _))
theorem lev_info : (Tryz.prog.info? 106).map (fun i => (i.zero, i.size, i.bytes)) = some (some (.agg #[.int .i64 0, .int .i64 0, .int .i64 0]), 3, 24) := by kernel_rfl

set_option maxRecDepth 100000 in
set_option maxHeartbeats 4000000 in
theorem rdepth_any (w : World) (B : Nat) (t : TypeId) (cs : Array Value) (o0 : Nat) (A : Option Addr) (L : List Ord5) (h : RefB w B t cs o0 A L) (hn : L.length ≤ 100000) (side : Int) (hp : ∀ o ∈ onSide side L, -1000000000 ≤ o.price ∧ o.price ≤ 1000000000) (hq : ∀ o ∈ rsideL side L, 0 ≤ o.qty ∧ o.qty ≤ 1000000) (hrl : (rsideL side L).length ≤ 100000) :
    Calls Tryz.prog 49 #[.pointer (some ⟨B, o0, none⟩), .int .i64 side] w fun e w' => Below w.heap.size w w' ∧ ∃ A' c', e = .returned (.slice A' (depthL (rsideL side L)).length c') ∧ RowAt w' A' (depthL (rsideL side L)).length c' 106 3 (flat encT (depthL (rsideL side L))) := by
  have HSd := hid (rside_ref h hn side hp)
  obtain ⟨l, hl⟩ : ∃ l, rsideL side L = l := ⟨_, rfl⟩
  rw [hl] at HSd hq hrl ⊢
  have HOk := hid (depOk_all hq)
  obtain ⟨i0, hi0, hz0, hz1, hz2⟩ := info_parts lev_info
  obtain ⟨n, hnl⟩ : ∃ n, l.length = n := ⟨_, rfl⟩
  rw [hnl] at HSd hrl HOk
  have HN := hid hnl
  have HQ := hid hq
  clear h hn hp hl hq hnl
  go_enter Tryz.func49, Tryz.ntmps49
  go_wp2_with fail
  refine HSd.out.mono ?_
  rintro e w2 ⟨hb2, Al, cl, rfl, hr2, -⟩
  have HB2 := hid hb2
  have HR2 := hid hr2
  clear hb2 hr2 HSd
  go_wp2_with fail
  go_loopg [5, 13] n (fun gg s5 s13 wx => ∃ (k n9 c9 : Nat) (A9 : Option Addr), k ≤ n ∧ gg = n - k ∧ s13 = .int .i64 k ∧ s5 = .slice A9 n9 c9 ∧ Below w2.heap.size w2 wx ∧ RowAt wx A9 n9 c9 106 3 (flat encT (depthL (l.take k))) ∧ ∀ g, blkOf A9 = some g → w2.heap.size ≤ g)
  case atStart => exact ⟨0, 0, 0, none, Nat.zero_le _, rfl, rfl, rfl, Below.refl _ _, World.ownsRow_nil _ _ _ _, by simp [blkOf]⟩
  case round =>
    obtain ⟨k, n9, c9, A9, hk, rfl, rfl, rfl, hB, hR, hup⟩ := hrel
    by_cases hlt : k < n
    · have hkl : k < l.length := by have := HN.out; omega
      obtain ⟨gl, hA, -⟩ := HR2.out.elem encO_length (by omega) hkl
      subst hA
      obtain ⟨x0, x1, x2, x3, x4⟩ := ord_own (HR2.out.below hB) hkl
      have hltz : (k : Int) < (n : Int) := by omega
      have hk0 : (0 : Int) ≤ (k : Int) := by omega
      have HT := hid (List.take_succ_eq_append_getElem hkl)
      have hqo := HQ.out _ (List.getElem_mem hkl)
      have hok := HOk.out k hk
      obtain ⟨o, EO⟩ : ∃ o, Hid (l[k] = o) := ⟨_, hid rfl⟩
      rw [EO.out] at x0 x1 x2 x3 x4 HT hqo
      have HD := hid (depthL_snoc (l.take k) o)
      rw [← HT.out] at HD
      obtain ⟨wb, ewb⟩ : ∃ W, (wr.alloc (.cells #[.int .i64 o.id, .int .i64 o.side, .int .i64 o.kind, .int .i64 o.price, .int .i64 o.qty] 24)) = W := ⟨_, rfl⟩
      obtain ⟨gx, egx⟩ : ∃ g, wr.heap.size = g := ⟨_, rfl⟩
      have hal : Below wr.heap.size wr wb := by rw [← ewb]; exact (Below.refl _ _).alloc (Nat.le_refl _) _
      have hX : Blk wb gx 24 (boxO o) := by rw [← ewb, ← egx]; exact Blk.new wr _ _
      have HB := hid (hB.trans (hal.mono hB.size))
      have HR := hid (hR.below hal)
      have HUp := hid hup
      have hgxn : blkOf A9 ≠ some gx := fun e => by have := hR.lt e; omega
      have hgx2 : w2.heap.size ≤ gx := by rw [← egx]; exact hB.size
      obtain ⟨y0, y1, y2, y3, y4⟩ := ord_box hX
      have HX := hid hX
      have hln9 := row_length encT_length (by omega) hR
      have hn9 : n9 ≤ 100000 := by have := hok.len; omega
      have HLn := hid hln9
      have HOk2 := hid hok
      clear hB hR hup hX hal hln9 hok
      go_upto_region 5 with fail
      clear x0 x1 x2 x3 x4 ewb egx
      by_cases hk2 : o.kind = 2
      · have d1 := beqT hk2
        have HE := hid (show depthL (l.take (k + 1)) = depthL (l.take k) by rw [HD.out, depF_market hk2])
        clear hk2
        go_wp2_with fail
        go_roundg (n - (k + 1))
        case measure => omega
        case rel => exact ⟨k + 1, n9, c9, A9, by omega, rfl, by go_num, rfl, HB.out, by rw [HE.out]; exact HR.out, HUp.out⟩
      · have d1 := beqF hk2
        have HK2 := hid hk2
        clear hk2
        obtain ⟨out, eout⟩ : ∃ out, depthL (l.take k) = out := ⟨_, rfl⟩
        rw [eout] at HR HLn HOk2 HD
        clear eout
        rcases nil_or_snoc out with rfl | ⟨u, x, rfl⟩
        · obtain rfl : n9 = 0 := HLn.out.symm
          have HE := hid (show depthL (l.take (k + 1)) = [] ++ [(o.price, o.qty, 1)] by rw [HD.out, depF_first HK2.out]; rfl)
          have hm1 : ¬ (0 : Int) ≤ -1 := by omega
          go_upto_region 7 with fail
          go_cut [34] (fun s34 wx => s34 = .bool false ∧ ∃ q, wx = wb.drewN q)
          case first =>
            go_quiet (fail)
            go_wp2_with fail
            go_meet
            exact ⟨rfl, nq, rfl⟩
          case rest =>
            obtain ⟨rfl, q, rfl⟩ := hcut
            have HB := hid (drewN_below HB.out q)
            have HR := hid (HR.out.below (drewN_below (Below.refl _ wb) q))
            have HX := hid (Blk.drewN HX.out q)
            generalize wb.drewN q = wb at HB HR HX ⊢
            obtain ⟨y0, y1, y2, y3, y4⟩ := ord_box HX.out
            have HOa := hid (show World.ownsRow (wb.alloc (.cells #[.int .i64 o.price, .int .i64 o.qty, .int .i64 1] 106)) 0 106 3 (.slice A9 0 c9) 0 (flat encT []) from HR.out.below ((Below.refl _ _).alloc (Nat.le_refl _) _))
            have HNWa := hid (heap_alloc_new wb (.cells #[.int .i64 o.price, .int .i64 o.qty, .int .i64 1] 106))
            go_wp2_with (at_builtin; (refine wpList_append_lies _ rfl _ _ 101 rfl 0 106 i0 _ 3 24 Tryz.underlying101 hi0 hz0 hz1 hz2 rfl (by omega) (.slice A9 0 c9) 0 _ rfl HOa.out ⟨wb.heap.size, 0, none⟩ 1 1 (encT (o.price, o.qty, 1)) rfl rfl (World.news_of_block (cs := (encT (o.price, o.qty, 1)).toArray) (t := 106) (fr := (0, 0)) HNWa.out) (encT_one _) (by omega) (by unfold maxLen; omega) (by omega) (by simp) (wb.heap.size + 1) (by simp) ?_); intro gg cap w4 hown hgrow hat hlt3; have HOw := hid hown; have HGr := hid hgrow; have HAt := hid hat; clear hown hgrow hat)
            go_roundg (n - (k + 1))
            case measure => omega
            case rel =>
              have hat := HAt.out
              rw [own_slice] at hat
              have hgr := HGr.out
              rw [own_slice] at hgr
              refine ⟨k + 1, 0 + 1, cap, some ⟨gg, 0, none⟩, by omega, rfl, by go_num, rfl, (HB.out.alloc HB.out.size (.cells #[.int .i64 o.price, .int .i64 o.qty, .int .i64 1] 106)).grown hgr (by have := HB.out.size; simp; omega) HUp.out, by rw [HE.out, flat_snoc]; exact HOw.out, fun g hg => ?_⟩
              cases hg
              rcases hat with h1 | h1
              · exact HUp.out _ h1
              · have := HB.out.size; show w2.heap.size ≤ gg; omega
        · obtain ⟨m, hm⟩ : ∃ m, u.length = m := ⟨_, rfl⟩
          obtain rfl : n9 = m + 1 := by have := HLn.out; simp at this; omega
          obtain ⟨g9, hA9, -⟩ := HR.out.elem encT_length (by omega) (i := m) (by simp; omega)
          subst hA9
          obtain ⟨q0, q1, q2⟩ := tri_own (i := m) HR.out (by simp; omega)
          have hxm : (u ++ [x])[m]'(by simp; omega) = x := by subst hm; simp
          rw [hxm] at q0 q1 q2
          have hxb := HOk2.out.b x (by simp)
          have Hm := hid hm
          have hm0 : (0 : Int) ≤ (m : Int) := by omega
          have hm1 : (m : Int) < (m : Int) + 1 := by omega
          clear hxm
          clear hm
          obtain ⟨⟨xp, xq, xn⟩, EX⟩ : ∃ y, Hid (x = y) := ⟨_, hid rfl⟩
          rw [EX.out] at q0 q1 q2 hxb
          dsimp only at q0 q1 q2 hxb
          obtain ⟨hb1, hb2, hb3, hb4⟩ := hxb
          have hk9 : k ≤ 100000 := by omega
          by_cases he : xp = o.price
          · have d2 := beqT he
            have HE := hid (show depthL (l.take (k + 1)) = u ++ [(xp, xq + o.qty, xn + 1)] by rw [HD.out, EX.out, depF_same HK2.out he])
            clear he
            go_upto_region 7 with fail
            go_cut [34] (fun s34 wx => s34 = .bool true ∧ ∃ q, wx = wb.drewN q)
            case first =>
              go_quiet (fail)
              go_wp2_with fail
              go_meet
              exact ⟨rfl, nq, rfl⟩
            case rest =>
              obtain ⟨rfl, q, rfl⟩ := hcut
              have HB := hid (drewN_below HB.out q)
              have HR := hid (HR.out.below (drewN_below (Below.refl _ wb) q))
              have HX := hid (Blk.drewN HX.out q)
              generalize wb.drewN q = wb at HB HR HX ⊢
              obtain ⟨y0, y1, y2, y3, y4⟩ := ord_box HX.out
              obtain ⟨q0, q1, q2⟩ := tri_own (i := m) HR.out (by have := Hm.out; simp; omega)
              have hxm : (u ++ [x])[m]'(by have := Hm.out; simp; omega) = x := by have hm := Hm.out; subst hm; simp
              rw [hxm, EX.out] at q0 q1 q2
              dsimp only at q0 q1 q2
              clear hxm
              have fz1 := HR.out.frozen (m * 3 + 1)
              have fz2 := HR.out.frozen (m * 3 + 2)
              have hi1 : RowKit.wrap64 (xq + o.qty) = xq + o.qty := by unfold RowKit.wrap64; omega
              have hi2 : RowKit.wrap64 (xn + 1) = xn + 1 := by unfold RowKit.wrap64; omega
              have hi3 : IntKind.i64.wrap (xq + o.qty) = xq + o.qty := by rw [IntKind.wrap_i64]; omega
              go_upto_region 8 with fail
              go_region
              go_wp2_with fail
              go_roundg (n - (k + 1))
              case measure => omega
              case rel =>
                have hm := Hm.out
                have e1 : (flat encT (u ++ [x])).set (m * 3 + 1) (.int .i64 (xq + o.qty)) = flat encT (u ++ [(xp, xq + o.qty, xn)]) := by
                  rw [flat_set_at encT_length (by omega) _ (xp, xq + o.qty, xn) (u ++ [x]) m (by simp; omega) (by subst hm; simp [EX.out]; rfl)]
                  subst hm
                  simp
                have e2 : (flat encT (u ++ [(xp, xq + o.qty, xn)])).set (m * 3 + 2) (.int .i64 (xn + 1)) = flat encT (u ++ [(xp, xq + o.qty, xn + 1)]) := by
                  rw [flat_set_at encT_length (by omega) _ (xp, xq + o.qty, xn + 1) (u ++ [(xp, xq + o.qty, xn)]) m (by simp; omega) (by subst hm; simp; rfl)]
                  subst hm
                  simp
                have r1 := HR.out.set (m * 3 + 1) (.int .i64 (xq + o.qty))
                rw [e1] at r1
                have r2 := r1.set (m * 3 + 2) (.int .i64 (xn + 1))
                rw [e2, ← HE.out] at r2
                have hg9 := HUp.out g9 rfl
                exact ⟨k + 1, m + 1, c9, some ⟨g9, 0, none⟩, by omega, rfl, by go_num, rfl, Below.drew ((HB.out.setCell hg9 _).setCell hg9 _), RowAt.below r2 (Below.drew (Below.refl _ _)), HUp.out⟩
          · have d2 := beqF he
            have HE := hid (show depthL (l.take (k + 1)) = (u ++ [x]) ++ [(o.price, o.qty, 1)] by rw [HD.out, EX.out, depF_next HK2.out he])
            clear he
            go_upto_region 7 with fail
            go_cut [34] (fun s34 wx => s34 = .bool false ∧ ∃ q, wx = wb.drewN q)
            case first =>
              go_quiet (fail)
              go_wp2_with fail
              go_meet
              exact ⟨rfl, nq, rfl⟩
            case rest =>
              obtain ⟨rfl, q, rfl⟩ := hcut
              have HB := hid (drewN_below HB.out q)
              have HR := hid (HR.out.below (drewN_below (Below.refl _ wb) q))
              have HX := hid (Blk.drewN HX.out q)
              generalize wb.drewN q = wb at HB HR HX ⊢
              obtain ⟨y0, y1, y2, y3, y4⟩ := ord_box HX.out
              clear q0 q1 q2
              have HOa := hid (show World.ownsRow (wb.alloc (.cells #[.int .i64 o.price, .int .i64 o.qty, .int .i64 1] 106)) 0 106 3 (.slice (some ⟨g9, 0, none⟩) (m + 1) c9) (m + 1) (flat encT (u ++ [x])) from HR.out.below ((Below.refl _ _).alloc (Nat.le_refl _) _))
              have HNWa := hid (heap_alloc_new wb (.cells #[.int .i64 o.price, .int .i64 o.qty, .int .i64 1] 106))
              go_wp2_with (at_builtin; (refine wpList_append_lies _ rfl _ _ 101 rfl 0 106 i0 _ 3 24 Tryz.underlying101 hi0 hz0 hz1 hz2 rfl (by omega) (.slice (some ⟨g9, 0, none⟩) (m + 1) c9) (m + 1) _ rfl HOa.out ⟨wb.heap.size, 0, none⟩ 1 1 (encT (o.price, o.qty, 1)) rfl rfl (World.news_of_block (cs := (encT (o.price, o.qty, 1)).toArray) (t := 106) (fr := (0, 0)) HNWa.out) (encT_one _) (by omega) (by unfold maxLen; omega) (by omega) (by simp) (wb.heap.size + 1) (by simp) ?_); intro gg cap w4 hown hgrow hat hlt3; have HOw := hid hown; have HGr := hid hgrow; have HAt := hid hat; clear hown hgrow hat)
              go_roundg (n - (k + 1))
              case measure => omega
              case rel =>
                have hat := HAt.out
                rw [own_slice] at hat
                have hgr := HGr.out
                rw [own_slice] at hgr
                refine ⟨k + 1, (m + 1) + 1, cap, some ⟨gg, 0, none⟩, by omega, rfl, by go_num, rfl, (HB.out.alloc HB.out.size (.cells #[.int .i64 o.price, .int .i64 o.qty, .int .i64 1] 106)).grown hgr (by have := HB.out.size; simp; omega) HUp.out, by rw [HE.out, flat_snoc]; exact HOw.out, fun g hg => ?_⟩
                cases hg
                rcases hat with h1 | h1
                · exact HUp.out _ h1
                · have := HB.out.size; show w2.heap.size ≤ gg; omega
    · obtain rfl : n = k := by omega
      have hltz : ¬ (n : Int) < (n : Int) := by omega
      have etk : l.take n = l := List.take_of_length_le (by rw [HN.out]; exact Nat.le_refl _)
      rw [etk] at hR
      have hln9 := row_length encT_length (by omega) hR
      have HLn := hid hln9
      have HB := hid hB
      have HR := hid hR
      clear hB hR hup etk hln9
      go_wp2_with fail
      refine bodyPost_ret (results_tmp rfl _ _ _) rfl ?_
      exact ⟨HB2.out.trans (HB.out.mono HB2.out.size), A9, c9, by rw [HLn.out]; rfl, by rw [HLn.out]; exact HR.out⟩
end Go.Proofs.YtkcgchpbjegneaaGreatDoor
namespace Go.Proofs.YtkcgchpbjegneaaGreatDoor
open Go.RowKit
set_option linter.unusedVariables false

/-! ### the plain law -/
def sumO (os : List HO) : Int := os.foldl (fun s x => s + x.2.qty) 0
theorem sumO_snoc (os : List HO) (x : HO) : sumO (os ++ [x]) = sumO os + x.2.qty := by unfold sumO; rw [List.foldl_append]; rfl
def lvQ (q : QG) : Tri := (q.price, sumO q.os, (q.os.length : Int))
theorem dep_market {ms : List HO} (h : ∀ x ∈ ms, x.2.kind = 2) (out : List Tri) : (ordL ms).foldl depF out = out := by
  induction ms with
  | nil => rfl
  | cons x t ih =>
    show ((ordL t).foldl depF (depF out x.2)) = out
    rw [depF_market (h x (by simp))]
    exact ih (fun y hy => h y (by simp [hy]))
theorem foldl_from (os : List HO) : ∀ a : Int, os.foldl (fun s x => s + x.2.qty) a = a + sumO os := by
  unfold sumO
  induction os with
  | nil => intro a; simp
  | cons x t ih => intro a; rw [List.foldl_cons, List.foldl_cons, ih, ih (0 + x.2.qty)]; omega
theorem dep_run {p : Int} {os : List HO} (h : ∀ x ∈ os, x.2.kind ≠ 2 ∧ x.2.price = p) : ∀ (out : List Tri) (a c : Int), (ordL os).foldl depF (out ++ [(p, a, c)]) = out ++ [(p, a + sumO os, c + os.length)] := by
  induction os with
  | nil => intro out a c; show out ++ [(p, a, c)] = _; simp [sumO]
  | cons x t ih =>
    intro out a c
    obtain ⟨h1, h2⟩ := h x (by simp)
    show ((ordL t).foldl depF (depF (out ++ [(p, a, c)]) x.2)) = _
    rw [depF_same h1 h2.symm, ih (fun y hy => h y (by simp [hy]))]
    have e := foldl_from t (0 + x.2.qty)
    have e2 : sumO (x :: t) = x.2.qty + sumO t := by unfold sumO; rw [List.foldl_cons, e]; unfold sumO; omega
    rw [e2, List.length_cons]
    dsimp only
    have h3 : a + x.2.qty + sumO t = a + (x.2.qty + sumO t) := by omega
    have h4 : c + 1 + (t.length : Int) = c + ((t.length + 1 : Nat) : Int) := by omega
    rw [h3, h4]
theorem dep_queue {q : QG} (h : ∀ x ∈ q.os, x.2.kind ≠ 2 ∧ x.2.price = q.price) (hne : q.os ≠ []) {out : List Tri} (hl : ∀ x, out.getLast? = some x → x.1 ≠ q.price) : (ordL q.os).foldl depF out = out ++ [lvQ q] := by
  obtain ⟨x, t, ht⟩ : ∃ x t, q.os = x :: t := by
    cases hq : q.os with
    | nil => exact absurd hq hne
    | cons x t => exact ⟨x, t, rfl⟩
  obtain ⟨h1, h2⟩ := h x (by rw [ht]; simp)
  have e0 : depF out x.2 = out ++ [(q.price, x.2.qty, 1)] := by
    rcases nil_or_snoc out with rfl | ⟨u, y, rfl⟩
    · rw [depF_first h1, h2]; rfl
    · rw [depF_next h1 (by rw [h2]; exact hl y (by simp)), h2]
  rw [ht]
  show ((ordL t).foldl depF (depF out x.2)) = _
  rw [e0, dep_run (fun y hy => h y (by rw [ht]; simp [hy]))]
  unfold lvQ
  rw [ht]
  have e := foldl_from t (0 + x.2.qty)
  have e2 : sumO (x :: t) = x.2.qty + sumO t := by unfold sumO; rw [List.foldl_cons, e]; unfold sumO; omega
  rw [e2, List.length_cons]
  have h4 : (1 : Int) + (t.length : Int) = ((t.length + 1 : Nat) : Int) := by omega
  rw [h4]
theorem dep_queues {side : Int} : ∀ (qs : List QG), (∀ q ∈ qs, ∀ x ∈ q.os, x.2.kind ≠ 2 ∧ x.2.price = q.price) → (∀ q ∈ qs, q.os ≠ []) → RankQ side (qs.map QG.que) → ∀ out : List Tri, (∀ x, out.getLast? = some x → ∀ q ∈ qs, x.1 ≠ q.price) → (ordL (qOrd qs)).foldl depF out = out ++ qs.map lvQ := by
  intro qs
  induction qs with
  | nil => intro _ _ _ out _; show out = _; simp
  | cons q t ih =>
    intro h1 h2 h3 out h4
    have e : ordL (qOrd (q :: t)) = ordL q.os ++ ordL (qOrd t) := by unfold qOrd; rw [List.flatMap_cons, ordL_append]
    rw [e, List.foldl_append, dep_queue (h1 q (by simp)) (h2 q (by simp)) (fun x hx => h4 x hx q (by simp))]
    unfold RankQ at h3
    rw [List.map_cons, List.pairwise_cons] at h3
    rw [ih (fun y hy => h1 y (by simp [hy])) (fun y hy => h2 y (by simp [hy])) h3.2 _ (fun x hx y hy => by
      rw [List.getLast?_concat] at hx
      have := Option.some.inj hx
      subst this
      have := h3.1 (QG.que y) (List.mem_map.2 ⟨y, hy, rfl⟩)
      exact betB_ne this)]
    simp
theorem depth_half {side : Int} {h : HS} (H : HalfIs side h.ms h.qs) (hne : ∀ q ∈ h.qs, q.os ≠ []) : depthL h.L = h.qs.map lvQ := by
  unfold depthL HS.L HS.all hOrd
  rw [ordL_append, List.foldl_append, dep_market (fun x hx => (H.mkt x hx).1)]
  have := dep_queues h.qs (fun q hq x hx => ⟨(H.qk q hq x hx).1, (H.qk q hq x hx).2.2⟩) hne H.rank [] (fun x hx => by cases hx)
  simpa using this
theorem sumO_bound {os : List HO} (h : ∀ x ∈ os, 0 ≤ x.2.qty ∧ x.2.qty ≤ 1000000) : 0 ≤ sumO os ∧ sumO os ≤ 1000000 * os.length := by
  induction os with
  | nil => simp [sumO]
  | cons x t ih =>
    have h1 := ih (fun y hy => h y (by simp [hy]))
    have h2 := h x (by simp)
    have e := foldl_from t (0 + x.2.qty)
    have e2 : sumO (x :: t) = x.2.qty + sumO t := by unfold sumO; rw [List.foldl_cons, e]; unfold sumO; omega
    rw [e2, List.length_cons]
    omega

/-! ### the walk -/
theorem que_own {w : World} {g n c : Nat} {t : TypeId} {ps : List Que} (h : RowAt w (some ⟨g, 0, none⟩) n c t 2 (flat encQ ps)) {i : Nat} (hi : i < ps.length) :
    w.cell? ⟨g, i * 2, none⟩ = some (.int .i64 ps[i].1) ∧ w.cell? ⟨g, i * 2 + 1, none⟩ = some (.slice ps[i].2.1 ps[i].2.2.1 ps[i].2.2.2) := by
  obtain ⟨g', hg, hc⟩ := h.elem encQ_length (by omega) hi
  cases hg
  exact ⟨hc 0 _ rfl, hc 1 _ rfl⟩
theorem box2 {w : World} {g : Nat} {t : TypeId} {a b : Value} (h : Blk w g t #[a, b]) : w.cell? ⟨g, 0, none⟩ = some a ∧ w.cell? ⟨g, 1, none⟩ = some b :=
  ⟨by rw [Blk.cell h]; rfl, by rw [Blk.cell h]; rfl⟩
theorem box3' {w : World} {g : Nat} {t : TypeId} {a b c : Value} (h : Blk w g t #[a, b, c]) : w.cell? ⟨g, 0, none⟩ = some a ∧ w.cell? ⟨g, 1, none⟩ = some b ∧ w.cell? ⟨g, 2, none⟩ = some c :=
  ⟨by rw [Blk.cell h]; rfl, by rw [Blk.cell h]; rfl, by rw [Blk.cell h]; rfl⟩

set_option maxRecDepth 100000 in
set_option maxHeartbeats 8000000 in
theorem bdepth_m (W : World) (b a r N : Nat) (F : Nat → Prop) (M : Int → Int → Option Ord5) (f : Int → Option Value) (H : Int → HS) (reg : Nat → Int) (hM : BookM W b a F M N r f H reg) (hS : BookS M N f H) (hN : N ≤ 100) (sd : Int) (hs : Is12 sd) :
    Calls Tryz.prog 50 #[.pointer (some ⟨b, 0, none⟩), .int .i64 sd] W fun e w' => Below W.heap.size W w' ∧ ∃ A c, e = .returned (.tuple #[.slice A ((H sd).qs.map lvQ).length c, .nilIface]) ∧ RowAt w' A ((H sd).qs.map lvQ).length c 106 3 (flat encT ((H sd).qs.map lvQ)) := by
  have HM := hid hM
  have HSm := hid hS
  have HN := hid hN
  obtain ⟨i0, hi0, hz0, hz1, hz2⟩ := info_parts lev_info
  obtain ⟨qs, hqs⟩ : ∃ qs, (H sd).qs = qs := ⟨_, rfl⟩
  have hql := qs_le hs hS hN
  obtain ⟨n, hn⟩ : ∃ n, qs.length = n := ⟨_, rfl⟩
  rw [hqs, hn] at hql
  have hcell : W.cell? ⟨b, hoff sd + 1, none⟩ = some (.slice (H sd).qA n (H sd).qc) := by
    rw [← hn, ← hqs]
    rcases hs with rfl | rfl
    · exact hM.cells.2.2.2.1
    · exact hM.cells.2.2.2.2.2
  obtain ⟨Aq, hAq⟩ : ∃ A, (H sd).qA = A := ⟨_, rfl⟩
  obtain ⟨cq, hcq⟩ : ∃ c, (H sd).qc = c := ⟨_, rfl⟩
  rw [hAq, hcq] at hcell
  rw [hqs]
  have HQs := hid hqs
  have HNl := hid hn
  have Hs := hid hs
  have HA := hid (And.intro hAq hcq)
  have HC := hid hcell
  clear hM hS hN hqs hn hAq hcq hs hcell
  go_enter Tryz.func50, Tryz.ntmps50
  go_upto_region 1 with fail
  go_cut [19] (fun s19 wx => s19 = .bool false ∧ wx = W)
  case first =>
    rcases Hs.out with rfl | rfl
    · go_wp2_with fail
      go_meet
      exact ⟨rfl, rfl⟩
    · go_wp2_with fail
      go_meet
      exact ⟨rfl, rfl⟩
  case rest =>
    obtain ⟨rfl, rfl⟩ := hcut
    obtain ⟨W, rfl⟩ : ∃ w3 : World, w3 = wc := ⟨_, rfl⟩
    go_upto_region 4 with fail
    go_cut [28, 29, 30] (fun s28 s29 s30 wx => s28 = .slice Aq n cq ∧ s29 = .int .i64 n ∧ s30 = .int .i64 0 ∧ wx = W)
    case first =>
      rcases Hs.out with rfl | rfl
      · have hc : W.cell? ⟨b, 3, none⟩ = some (.slice Aq n cq) := HC.out
        go_wp2_with fail
        go_meet
        exact ⟨rfl, rfl, rfl, rfl⟩
      · have hc : W.cell? ⟨b, 5, none⟩ = some (.slice Aq n cq) := HC.out
        go_wp2_with fail
        go_meet
        exact ⟨rfl, rfl, rfl, rfl⟩
    case rest =>
      obtain ⟨rfl, rfl, rfl, rfl⟩ := hcut
      obtain ⟨W, rfl⟩ : ∃ w3 : World, w3 = wc := ⟨_, rfl⟩
      go_wp2_with fail
      go_loopg [6, 30] n (fun gg s6 s30 wx => ∃ (k n9 c9 : Nat) (A9 : Option Addr), k ≤ n ∧ gg = n - k ∧ s30 = .int .i64 k ∧ s6 = .slice A9 n9 c9 ∧ Below W.heap.size W wx ∧ RowAt wx A9 n9 c9 106 3 (flat encT ((qs.take k).map lvQ)) ∧ ∀ g, blkOf A9 = some g → W.heap.size ≤ g)
      case atStart => exact ⟨0, 0, 0, none, Nat.zero_le _, rfl, rfl, rfl, Below.refl _ _, World.ownsRow_nil _ _ _ _, by simp [blkOf]⟩
      case round =>
        obtain ⟨k, n9, c9, A9, hk, rfl, rfl, rfl, hB, hR, hup⟩ := hrel
        by_cases hlt : k < n
        · have hkl : k < qs.length := by have := HNl.out; omega
          have hMr := HM.out.below hB
          have hrow := (hMr.hx sd Hs.out).rq
          rw [HA.out.1, HA.out.2, HQs.out, HNl.out] at hrow
          obtain ⟨gq, hgq, -⟩ := hrow.elem encQ_length (by omega) (i := k) (by simpa using hkl)
          subst hgq
          obtain ⟨x0, x1⟩ := que_own hrow (i := k) (by simpa using hkl)
          obtain ⟨q, eq⟩ : ∃ q, qs[k] = q := ⟨_, rfl⟩
          have e1 : (qs.map QG.que)[k]'(by simpa using hkl) = QG.que q := by rw [← eq]; simp
          rw [e1] at x0 x1
          have hqm : q ∈ (H sd).qs := by rw [HQs.out, ← eq]; exact List.getElem_mem _
          have hrl := (hMr.hx sd Hs.out).rl q hqm
          have hol : q.os.length ≤ 1000 := by
            have := os_le Hs.out HSm.out HN.out (k := k) (by rw [HQs.out]; exact hkl)
            have e2 : (H sd).qs[k]'(by rw [HQs.out]; exact hkl) = q := by simp only [HQs.out]; exact eq
            rwa [e2] at this
          have HHd := hid (show ∀ x ∈ q.os, M x.1.1 x.1.2 = some x.2 ∧ 0 ≤ x.2.qty ∧ x.2.qty ≤ 1000000 from fun x hx => by
            have hx2 : x ∈ allH H := mem_allH Hs.out (List.mem_append_right _ (List.mem_flatMap.2 ⟨q, hqm, hx⟩))
            have hok := HSm.out.ok x hx2
            exact ⟨HSm.out.hM x hx2, by have := hok.2.2.2; omega⟩)
          have HTk := hid (show (qs.take (k + 1)).map lvQ = (qs.take k).map lvQ ++ [lvQ q] by rw [List.take_succ_eq_append_getElem hkl, eq, List.map_append]; rfl)
          have hltz : (k : Int) < (n : Int) := by omega
          have hk0 : (0 : Int) ≤ (k : Int) := by omega
          unfold QG.que at x0 x1
          dsimp only at x0 x1
          obtain ⟨m, hm⟩ : ∃ m, q.os.length = m := ⟨_, rfl⟩
          rw [hm] at x1 hol
          have Hm := hid hm
          have HMc := hid hMr
          have HRl := hid hrl
          have HB := hid hB
          have HR := hid hR
          have HUp := hid hup
          obtain ⟨wq, rfl⟩ : ∃ wq : World, wq = wr := ⟨_, rfl⟩
          clear hMr hrow e1 hqm hrl eq hB hR hup hm
          go_wp2_with fail
          obtain ⟨w1, ew1⟩ : ∃ X, (wq.alloc (.cells #[.int .i64 q.price, .slice q.A m q.c] 166)).alloc (.cells #[.int .i64 q.price, .int .i64 0, .int .i64 m] 106) = X := ⟨_, rfl⟩
          obtain ⟨lb, elb⟩ : ∃ g, wq.heap.size + 1 = g := ⟨_, rfl⟩
          have hal : Below wq.heap.size wq w1 := by rw [← ew1]; exact ((Below.refl _ _).alloc (Nat.le_refl _) _).alloc (by simp) _
          have hLv : Blk w1 lb 106 #[.int .i64 q.price, .int .i64 0, .int .i64 m] := by
            rw [← ew1, ← elb]
            have h := Blk.new (wq.alloc (.cells #[.int .i64 q.price, .slice q.A m q.c] 166)) 106 #[.int .i64 q.price, .int .i64 0, .int .i64 m]
            simpa using h
          have hlbw : wq.heap.size ≤ lb := by omega
          rw [ew1, elb]
          have HAl := hid hal
          have HLv := hid hLv
          clear ew1 elb hal hLv x0 x1
          go_loopg [43] m (fun gg s43 wx => ∃ i : Nat, i ≤ m ∧ gg = m - i ∧ s43 = .int .i64 i ∧ Below wq.heap.size wq wx ∧ Blk wx lb 106 #[.int .i64 q.price, .int .i64 (sumO (q.os.take i)), .int .i64 m])
          case atStart => exact ⟨0, Nat.zero_le _, rfl, rfl, HAl.out, HLv.out⟩
          case round =>
            obtain ⟨i, hi, rfl, rfl, hB2, hL2⟩ := hrel
            obtain ⟨l0, l1, l2⟩ := box3' hL2
            by_cases hlt2 : i < m
            · have hil : i < q.os.length := by have := Hm.out; omega
              have hrl := HRl.out.below hB2
              rw [Hm.out] at hrl
              obtain ⟨gh, hgh, -⟩ := hrl.elem encH_length (by omega) (i := i) (by simpa [hndL] using hil)
              obtain ⟨x, ex⟩ : ∃ x, q.os[i] = x := ⟨_, rfl⟩
              rw [hgh] at hrl
              obtain ⟨x0, x1⟩ := hnd_own hrl (i := i) (by simpa [hndL] using hil)
              have e3 : (hndL q.os)[i]'(by simpa [hndL] using hil) = x.1 := by rw [← ex]; simp [hndL]
              rw [e3] at x0 x1
              obtain ⟨hMx, hq1, hq2⟩ := HHd.out x (by rw [← ex]; exact List.getElem_mem _)
              have HSm2 := hid (show sumO (q.os.take (i + 1)) = sumO (q.os.take i) + x.2.qty by rw [List.take_succ_eq_append_getElem hil, ex, sumO_snoc])
              have hsb := sumO_bound (os := q.os.take i) (fun y hy => (HHd.out y (List.mem_of_mem_take hy)).2)
              rw [List.length_take] at hsb
              have hsb2 : 0 ≤ sumO (q.os.take i) ∧ sumO (q.os.take i) ≤ 1000000000 := by omega
              obtain ⟨hsb3, hsb4⟩ := hsb2
              have hM2 := HMc.out.below hB2
              have y0 := hM2.cells.1
              have hbl := Blk.lt hM2.blk
              obtain ⟨⟨h1, h2⟩, o⟩ := x
              dsimp only at x0 x1 hMx hq1 hq2 HSm2
              obtain ⟨sm, esm⟩ : ∃ sm, sumO (q.os.take i) = sm := ⟨_, rfl⟩
              rw [esm] at l1 hL2 HSm2 hsb3 hsb4
              have hltz2 : (i : Int) < (m : Int) := by omega
              have hi0' : (0 : Int) ≤ (i : Int) := by omega
              have hbox : Below wr.heap.size wr (wr.alloc (.cells #[.int .i64 h1, .int .i64 h2] 155)) := (Below.refl _ _).alloc (Nat.le_refl _) _
              have hget := get_one (hM2.below hbox) hMx
              have HG := hid hget
              have HB2 := hid hB2
              have HL2 := hid hL2
              have Hgh := hid hgh
              obtain ⟨wo, rfl⟩ : ∃ wo : World, wo = wr := ⟨_, rfl⟩
              clear hrl ex e3 hMx hsb hM2 hget hB2 hL2 hbox esm hgh
              rw [Hgh.out]
              go_upto_region 11 with fail
              go_cut [12] (fun s12 wx => Got wo wx o s12)
              case first =>
                have hB0 := hid (show Below wo.heap.size wo (wo.alloc (.cells #[.int .i64 h1, .int .i64 h2] 155)).drew from Below.drew ((Below.refl _ _).alloc (Nat.le_refl _) _))
                have HX0 := hid (show Blk _ (wo.heap.size + 1) 24 _ by simpa using Blk.new (wo.alloc (.cells #[.int .i64 h1, .int .i64 h2] 155)) 24 #[.int .i64 0, .int .i64 0, .int .i64 0, .int .i64 0, .int .i64 0])
                have hB00 := hid (show Below wo.heap.size wo ((wo.alloc (.cells #[.int .i64 h1, .int .i64 h2] 155)).alloc (.cells #[.int .i64 0, .int .i64 0, .int .i64 0, .int .i64 0, .int .i64 0] 24)).drew from Below.drew (((Below.refl _ _).alloc (Nat.le_refl _) _).alloc (by simp) _))
                have HA1 := hid (HG.out (wo.alloc (.cells #[.int .i64 h1, .int .i64 h2] 155)).drew (Below.drew (Below.refl _ _)))
                have HA2 := hid (HG.out ((wo.alloc (.cells #[.int .i64 h1, .int .i64 h2] 155)).alloc (.cells #[.int .i64 0, .int .i64 0, .int .i64 0, .int .i64 0, .int .i64 0] 24)).drew (Below.drew ((Below.refl _ _).alloc (Nat.le_refl _) _)))
                clear l0 l1 l2 x0 x1
                go_region_with (first | (go_at_call 103; refine HA1.out.mono ?_; rintro e w5 ⟨rfl, hb5⟩; have HB5 := hid (hB0.out.trans (hb5.mono (by simp <;> omega))); clear hb5) | (go_at_call 103; refine HA2.out.mono ?_; rintro e w5 ⟨rfl, hb5⟩; have hbx := Blk.keep (Blk.drew HX0.out) hb5; obtain ⟨z0, z1, z2, z3, z4⟩ := box5' hbx; have f0 := Blk.frozen hbx 0; have f1 := Blk.frozen hbx 1; have f2 := Blk.frozen hbx 2; have f3 := Blk.frozen hbx 3; have f4 := Blk.frozen hbx 4; have HBx := hid hbx; have HB5 := hid (hB00.out.trans (hb5.mono (by simp <;> omega))); clear hb5 hbx))
                all_goals go_wp2_with fail
                all_goals go_meet
                all_goals
                  refine ⟨_, rfl, ?_, ?_⟩
                  · first
                    | (with_reducible exact HB5.out.alloc HB5.out.size _)
                    | exact HB5.out.trans ((keeps5' _ _ _ _ _ _ _).below (B := wo.heap.size) (fun i e => by have e' : i = wo.heap.size + 1 := e; omega) HB5.out.size)
                  · unfold boxO
                    first
                    | (with_reducible exact Blk.new _ _ _)
                    | exact Blk.set_ (Blk.set_ (Blk.set_ (Blk.set_ (Blk.set_ HBx.out 0 _) 1 _) 2 _) 3 _) 4 _
              case rest =>
                obtain ⟨ob, rfl, hbo, hbx⟩ := hcut
                obtain ⟨-, -, -, -, z4⟩ := ord_box hbx
                have hL3 := Blk.keep HL2.out hbo
                obtain ⟨l0, l1, l2⟩ := box3' hL3
                have fl := Blk.frozen hL3 1
                have HL3 := hid hL3
                have HB3 := hid (HB2.out.trans (hbo.mono HB2.out.size))
                have hi1 : RowKit.wrap64 (sm + o.qty) = sm + o.qty := by unfold RowKit.wrap64; omega
                clear hbo hbx hL3 x0 x1 y0
                go_wp2_with fail
                rw [← Hgh.out]
                go_roundg (m - (i + 1))
                case measure => omega
                case rel => exact ⟨i + 1, by omega, rfl, by go_num, HB3.out.setCell hlbw _, by rw [HSm2.out]; exact Blk.set_ HL3.out 1 _⟩
            · obtain rfl : m = i := by omega
              have hltz2 : ¬ (m : Int) < (m : Int) := by omega
              have etk : q.os.take m = q.os := List.take_of_length_le (by rw [Hm.out]; exact Nat.le_refl _)
              rw [etk] at l1 hL2
              obtain ⟨sm, esm⟩ : ∃ sm, sumO q.os = sm := ⟨_, rfl⟩
              rw [esm] at l1 hL2
              have HLq := hid (show lvQ q = (q.price, sm, (m : Int)) by unfold lvQ; rw [esm, Hm.out])
              have hn9 : n9 ≤ 100000 := by have := row_length encT_length (by omega) HR.out; simp at this; omega
              have HRb := hid (HR.out.below hB2)
              have HOa := hid (show World.ownsRow (wr.alloc (.cells #[.int .i64 q.price, .int .i64 sm, .int .i64 m] 106)) 0 106 3 (.slice A9 n9 c9) n9 (flat encT ((qs.take k).map lvQ)) from HRb.out.below ((Below.refl _ _).alloc (Nat.le_refl _) _))
              have HNWa := hid (heap_alloc_new wr (.cells #[.int .i64 q.price, .int .i64 sm, .int .i64 m] 106))
              have HB2 := hid (HB.out.trans (hB2.mono HB.out.size))
              clear hB2 hL2 esm etk
              go_wp2_with (at_builtin; (refine wpList_append_lies _ rfl _ _ 101 rfl 0 106 i0 _ 3 24 Tryz.underlying101 hi0 hz0 hz1 hz2 rfl (by omega) (.slice A9 n9 c9) n9 _ rfl HOa.out ⟨wr.heap.size, 0, none⟩ 1 1 (encT (q.price, sm, (m : Int))) rfl rfl (World.news_of_block (cs := (encT (q.price, sm, (m : Int))).toArray) (t := 106) (fr := (0, 0)) HNWa.out) (encT_one _) (by omega) (by unfold maxLen; omega) (by omega) (by simp) (wr.heap.size + 1) (by simp) ?_); intro gg cap w4 hown hgrow hat hlt3; have HOw := hid hown; have HGr := hid hgrow; have HAt := hid hat; clear hown hgrow hat)
              go_roundg (n - (k + 1))
              case measure => omega
              case rel =>
                have hat := HAt.out
                rw [own_slice] at hat
                have hgr := HGr.out
                rw [own_slice] at hgr
                refine ⟨k + 1, n9 + 1, cap, some ⟨gg, 0, none⟩, by omega, rfl, by go_num, rfl, (HB2.out.alloc HB2.out.size _).grown hgr (by have := HB2.out.size; simp; omega) HUp.out, by rw [HTk.out, HLq.out, flat_snoc]; exact HOw.out, fun g hg => ?_⟩
                cases hg
                rcases hat with h1 | h1
                · exact HUp.out _ h1
                · have := HB2.out.size; show W.heap.size ≤ gg; omega
        · obtain rfl : n = k := by omega
          have hltz : ¬ (n : Int) < (n : Int) := by omega
          have etk : qs.take n = qs := List.take_of_length_le (by rw [HNl.out]; exact Nat.le_refl _)
          rw [etk] at hR
          have hl9 := row_length encT_length (by omega) hR
          have HLn := hid hl9
          have HB := hid hB
          have HR := hid hR
          clear hB hR hup etk hl9
          go_wp2_with fail
          go_ret2
          have e9 : qs.length = n9 := by have := HLn.out; simpa using this
          refine ⟨HB.out, A9, c9, ?_, ?_⟩
          · rw [e9]; rfl
          · rw [e9]; exact HR.out

/-- Book.Depth tells what the orders of the side make up -/
theorem bookDepth_any (w : World) (b : Nat) (G : Nat → Prop) (L1 L2 : List Ord5) (h : BookAt w b G L1 L2) (sd : Int) (hs : Is12 sd) :
    Calls Tryz.prog 50 #[.pointer (some ⟨b, 0, none⟩), .int .i64 sd] w fun e w' => Below w.heap.size w w' ∧ ∃ A c, e = .returned (.tuple #[.slice A (depthL (sideL sd L1 L2)).length c, .nilIface]) ∧ RowAt w' A (depthL (sideL sd L1 L2)).length c 106 3 (flat encT (depthL (sideL sd L1 L2))) := by
  obtain ⟨a, F, M, n, r, f, H, reg, hM, hS, hG, rfl, rfl⟩ := h
  have e : sideL sd (H 1).L (H 2).L = (H sd).L := by
    rcases hs with rfl | rfl
    · exact if_pos rfl
    · exact if_neg (by decide)
  rw [e, depth_half (hS.is sd hs) (hS.ne sd hs)]
  exact bdepth_m w b a r n F M f H reg hM hS hM.ar.le sd hs
end Go.Proofs.YtkcgchpbjegneaaGreatDoor
namespace Go.Proofs.YtkcgchpbjegneaaGreatDoor
open Go.RowKit

/-- v is an error that tells errno n at place pl -/
def ErrIs (w : World) (v : Value) (n pl : Int) : Prop :=
  (v = .nilIface ∧ n = 0 ∧ pl = -1) ∨ (v = .iface 29 (.int .i64 n) ∧ pl = -1) ∨
  (∃ g, v = .iface 172 (.pointer (some ⟨g, 0, none⟩)) ∧ w.cell? ⟨g, 0, none⟩ = some (.int .i64 n) ∧ w.cell? ⟨g, 1, none⟩ = some (.int .i64 pl))

theorem ErrIs.below {w w' : World} {v : Value} {n pl : Int} (h : ErrIs w v n pl) (hb : Below w.heap.size w w') : ErrIs w' v n pl := by
  rcases h with h | h | ⟨g, h1, h2, h3⟩
  · exact .inl h
  · exact .inr (.inl h)
  · exact .inr (.inr ⟨g, h1, (hb.cell (p := ⟨g, 0, none⟩) (World.block_lt_of_cell? w ⟨g, 0, none⟩ h2)).trans h2, (hb.cell (p := ⟨g, 1, none⟩) (World.block_lt_of_cell? w ⟨g, 0, none⟩ h2)).trans h3⟩)

theorem assertAA (v : Value) (w : World) : (Instr.typeAssert (.iface 172 v) 45 172 true).run Tryz.prog w = .ok (.tuple #[v, .bool true]) w := by kernel_rfl
theorem assertEA (v : Value) (w : World) : (Instr.typeAssert (.iface 29 v) 45 172 true).run Tryz.prog w = .ok (.tuple #[.pointer none, .bool false]) w := by kernel_rfl

set_option maxRecDepth 100000 in
set_option maxHeartbeats 400000 in
theorem place_any (v : Value) (n pl : Int) (w : World) (hE : ErrType w) (h : ErrIs w v n pl) :
    Calls Tryz.prog 60 #[v] w fun e w' => e = .returned (.tuple #[.int .i64 n, .int .i64 pl]) ∧ Below w.heap.size w w' := by
  rcases h with ⟨rfl, rfl, rfl⟩ | ⟨rfl, rfl⟩ | ⟨g, rfl, h2, h3⟩
  · go_enter Tryz.func60, Tryz.ntmps60
    go_wp2_with fail
    refine (tell_nil _).mono ?_
    rintro e w1 ⟨rfl, rfl⟩
    go_wp2
    refine wp_loop_rounds 1 ?_
    rw [rounds_succ]
    go_wp2
    go_ret2
    exact ⟨rfl, Below.refl _ _⟩
  · have nU := noUnwrapE
    have aE := assertEA
    go_enter Tryz.func60, Tryz.ntmps60
    go_wp2_with fail
    refine (tell_errno n _ hE).mono ?_
    rintro e w1 ⟨rfl, hB⟩
    go_wp2
    refine wp_loop_rounds 1 ?_
    rw [rounds_succ]
    go_wp2
    go_ret2
    exact ⟨rfl, hB⟩
  · have hgl := World.block_lt_of_cell? w _ h2
    have aA := assertAA
    go_enter Tryz.func60, Tryz.ntmps60
    go_wp2_with fail
    refine (tell_at g n _ hE h2).mono ?_
    rintro e w1 ⟨rfl, hB⟩
    have c3 := (hB.cell (p := ⟨g, 1, none⟩) hgl).trans h3
    go_wp2
    refine wp_loop_rounds 1 ?_
    rw [rounds_succ]
    go_wp2
    go_quiet (fail)
    go_wp2
    go_ret2
    exact ⟨rfl, drewN_below hB _⟩

set_option maxHeartbeats 400000 in
theorem is_any (v : Value) (n pl f p : Int) (w : World) (hE : ErrType w) (h : ErrIs w v n pl) :
    Calls Tryz.prog 21 #[v, .agg #[.int .i64 f, .int .i64 p]] w fun e w' => e = .returned (.bool (n == f && pl == p)) ∧ Below w.heap.size w w' := by
  have hA : Below w.heap.size w (w.alloc (.cells #[.int .i64 f, .int .i64 p] 59)) := (Below.refl _ w).alloc (Nat.le_refl _) _
  have HE := hid (hE.below hA (Nat.le_refl _))
  have HI := hid (h.below hA)
  by_cases h1 : n = f
  · have t1 := beqT h1
    clear h1
    go_enter Tryz.func21, Tryz.ntmps21
    go_wp2_with fail
    refine (place_any v n pl _ HE.out HI.out).mono ?_
    rintro e w1 ⟨rfl, hB⟩
    have c0 : w1.cell? ⟨w.heap.size, 0, none⟩ = some (.int .i64 f) := (hB.cell (p := ⟨w.heap.size, 0, none⟩) (by simp)).trans (by simp)
    have c1 : w1.cell? ⟨w.heap.size, 1, none⟩ = some (.int .i64 p) := (hB.cell (p := ⟨w.heap.size, 1, none⟩) (by simp)).trans (by simp)
    go_wp2
    go_ret
    exact ⟨ret_bool (by simp [t1]), hA.trans (hB.mono (by simp))⟩
  · have t1 := beqF h1
    clear h1
    go_enter Tryz.func21, Tryz.ntmps21
    go_wp2_with fail
    refine (place_any v n pl _ HE.out HI.out).mono ?_
    rintro e w1 ⟨rfl, hB⟩
    have c0 : w1.cell? ⟨w.heap.size, 0, none⟩ = some (.int .i64 f) := (hB.cell (p := ⟨w.heap.size, 0, none⟩) (by simp)).trans (by simp)
    have c1 : w1.cell? ⟨w.heap.size, 1, none⟩ = some (.int .i64 p) := (hB.cell (p := ⟨w.heap.size, 1, none⟩) (by simp)).trans (by simp)
    go_wp2
    go_ret
    exact ⟨ret_bool (by simp [t1]), hA.trans (hB.mono (by simp))⟩

theorem refBare_any (f : Int) (w : World) : Calls Tryz.prog 55 #[.int .i64 f] w fun e w' => e = .returned (.agg #[.int .i64 f, .int .i64 (-1)]) ∧ Below w.heap.size w w' := by
  go_enter Tryz.func55, Tryz.ntmps55
  go_wp2
  exact bodyPost_ret (v := .agg #[.int .i64 f, .int .i64 (-1)]) (by simp [results, Tryz.results55, go_sem]) rfl ⟨rfl, (Below.refl _ w).alloc (Nat.le_refl _) _⟩

set_option maxHeartbeats 400000 in
theorem bare_any (v : Value) (n pl f : Int) (w : World) (hE : ErrType w) (h : ErrIs w v n pl) :
    Calls Tryz.prog 17 #[v, .int .i64 f] w fun e w' => e = .returned (.bool (n == f && pl == -1)) ∧ Below w.heap.size w w' := by
  go_enter Tryz.func17, Tryz.ntmps17
  go_wp2_with fail
  refine (refBare_any f _).mono ?_
  rintro e w1 ⟨rfl, hB⟩
  go_wp2_with fail
  refine (is_any v n pl f (-1) _ (hE.below hB (Nat.le_refl _)) (h.below hB)).mono ?_
  rintro e w2 ⟨rfl, hB2⟩
  go_wp2
  go_ret
  exact ⟨rfl, hB.trans (hB2.mono hB.size)⟩
end Go.Proofs.YtkcgchpbjegneaaGreatDoor
namespace Go.Proofs.YtkcgchpbjegneaaGreatDoor
open Go.RowKit
set_option linter.unusedVariables false

/-! ### insertion by rank, as the sides do it -/
theorem ahead_rank {s : Int} (hs : Is12 s) {o x : Ord5} (ho : OkO o) (hx : OkO x) : aheadB s o x = decide (rankO s x ≤ rankO s o) := by
  have h1 := ho.2.2.1
  have h2 := hx.2.2.1
  have key : aheadB s o x = true ↔ rankO s x ≤ rankO s o := by
    unfold aheadB rankO rankV
    by_cases hk : x.kind = 2
    · rw [beqT hk, if_pos hk]
      simp only [Bool.true_or, true_iff]
      split
      · omega
      · split <;> omega
    · rw [beqF hk, if_neg hk]
      by_cases hk2 : o.kind = 2
      · rw [beqT hk2, if_pos hk2]
        simp only [Bool.not_true, Bool.false_and, Bool.or_self, Bool.false_eq_true, false_iff]
        split <;> omega
      · rw [beqF hk2, if_neg hk2]
        simp only [Bool.not_false, Bool.true_and, Bool.false_or, Bool.or_eq_true, beq_iff_eq]
        unfold betB
        rcases hs with rfl | rfl
        · simp only [if_true, decide_eq_true_eq]
          omega
        · simp only [show ¬ ((2 : Int) = 1) by decide, if_false, decide_eq_true_eq]
          omega
  cases h : aheadB s o x with
  | true => exact (decide_eq_true (key.1 h)).symm
  | false => exact (decide_eq_false (fun e => by rw [key.2 e] at h; cases h)).symm
theorem takeWhile_congr {α : Type} {p q : α → Bool} : ∀ {l : List α}, (∀ x ∈ l, p x = q x) → l.takeWhile p = l.takeWhile q ∧ l.dropWhile p = l.dropWhile q
  | [], _ => ⟨rfl, rfl⟩
  | x :: t, h => by
    have hx := h x (by simp)
    have ih := takeWhile_congr (l := t) (fun y hy => h y (by simp [hy]))
    rw [List.takeWhile_cons, List.takeWhile_cons, List.dropWhile_cons, List.dropWhile_cons, hx, ih.1, ih.2]
    exact ⟨rfl, rfl⟩
theorem insO_rank {s : Int} (hs : Is12 s) {L : List Ord5} {o : Ord5} (ho : OkO o) (hL : ∀ x ∈ L, OkO x) : insO s L o = insR (rankO s) L o := by
  have h := takeWhile_congr (l := L) (p := aheadB s o) (q := fun y => decide (rankO s y ≤ rankO s o)) (fun x hx => ahead_rank hs ho (hL x hx))
  unfold insO insR
  rw [h.1, h.2]
/-! ### stable sorts: of one more, of fewer, of others of like rank -/
section
variable {α : Type} {r : α → Int}
theorem stabL_snoc (l : List α) (x : α) : stabL r (l ++ [x]) = insR r (stabL r l) x := by unfold stabL; rw [List.foldl_append]; rfl
theorem insR_perm (L : List α) (x : α) : (insR r L x).Perm (x :: L) := by
  unfold insR
  refine List.perm_middle.trans ?_
  rw [List.takeWhile_append_dropWhile]
theorem stabL_perm (l : List α) : (stabL r l).Perm l := by
  have key : ∀ (l acc : List α), (l.foldl (insR r) acc).Perm (acc ++ l) := by
    intro l
    induction l with
    | nil => intro acc; simp
    | cons x t ih =>
      intro acc
      rw [List.foldl_cons]
      refine (ih _).trans ?_
      refine ((insR_perm acc x).append_right t).trans ?_
      exact List.perm_middle.symm
  have := key l []
  rw [List.nil_append] at this
  exact this
/-- rising by rank -/
def RiseR (r : α → Int) (L : List α) : Prop := L.Pairwise fun x y => r x ≤ r y
theorem riseR_ins {L : List α} (h : RiseR r L) (x : α) : RiseR r (insR r L x) := by
  have e : L.takeWhile (fun y => decide (r y ≤ r x)) ++ L.dropWhile (fun y => decide (r y ≤ r x)) = L := List.takeWhile_append_dropWhile
  have htk : ∀ y ∈ L.takeWhile (fun y => decide (r y ≤ r x)), r y ≤ r x := fun y hy => by
    have := List.all_eq_true.1 (List.all_takeWhile (p := fun y => decide (r y ≤ r x)) (l := L)) y hy
    simpa using this
  have hhd : ∀ y, (L.dropWhile (fun y => decide (r y ≤ r x))).head? = some y → ¬ r y ≤ r x := fun y hy hle => by
    have := List.head?_dropWhile_not (p := fun y => decide (r y ≤ r x)) L
    rw [hy] at this
    simp at this
    omega
  unfold RiseR at *
  unfold insR
  generalize L.takeWhile (fun y => decide (r y ≤ r x)) = A at *
  generalize L.dropWhile (fun y => decide (r y ≤ r x)) = B at *
  subst e
  obtain ⟨a1, a2, a3⟩ := List.pairwise_append.1 h
  have hB : ∀ y ∈ B, r x ≤ r y := fun y hy => by
    cases hb : B with
    | nil => rw [hb] at hy; cases hy
    | cons z t =>
      have h1 := hhd z (by rw [hb]; rfl)
      rw [hb] at hy a2
      rcases List.mem_cons.1 hy with rfl | hy
      · omega
      · have := (List.pairwise_cons.1 a2).1 y hy; omega
  rw [List.pairwise_append, List.pairwise_cons]
  exact ⟨a1, ⟨hB, a2⟩, fun u hu v hv => by
    rcases List.mem_cons.1 hv with rfl | hv
    · exact htk u hu
    · exact a3 u hu v hv⟩
theorem stabL_rise (l : List α) : RiseR r (stabL r l) := by
  have key : ∀ (l acc : List α), RiseR r acc → RiseR r (l.foldl (insR r) acc) := by
    intro l
    induction l with
    | nil => intro acc h; exact h
    | cons x t ih => intro acc h; exact ih _ (riseR_ins h x)
  exact key l [] List.Pairwise.nil
theorem insR_filter {L : List α} (h : RiseR r L) (p : α → Bool) (x : α) : (insR r L x).filter p = if p x = true then insR r (L.filter p) x else L.filter p := by
  have e : L.takeWhile (fun y => decide (r y ≤ r x)) ++ L.dropWhile (fun y => decide (r y ≤ r x)) = L := List.takeWhile_append_dropWhile
  have htk : ∀ y ∈ L.takeWhile (fun y => decide (r y ≤ r x)), r y ≤ r x := fun y hy => by
    have := List.all_eq_true.1 (List.all_takeWhile (p := fun y => decide (r y ≤ r x)) (l := L)) y hy
    simpa using this
  have hhd : ∀ y, (L.dropWhile (fun y => decide (r y ≤ r x))).head? = some y → ¬ r y ≤ r x := fun y hy hle => by
    have := List.head?_dropWhile_not (p := fun y => decide (r y ≤ r x)) L
    rw [hy] at this
    simp at this
    omega
  have hdw : ∀ y ∈ L.dropWhile (fun y => decide (r y ≤ r x)), ¬ r y ≤ r x := fun y hy => by
    have hB : RiseR r (L.dropWhile (fun y => decide (r y ≤ r x))) := List.Pairwise.sublist (List.dropWhile_sublist _) h
    cases hb : L.dropWhile (fun y => decide (r y ≤ r x)) with
    | nil => rw [hb] at hy; cases hy
    | cons z t =>
      have h1 := hhd z (by rw [hb]; rfl)
      rw [hb] at hy hB
      rcases List.mem_cons.1 hy with rfl | hy
      · exact h1
      · have := (List.pairwise_cons.1 hB).1 y hy; omega
  unfold insR
  generalize L.takeWhile (fun y => decide (r y ≤ r x)) = A at *
  generalize L.dropWhile (fun y => decide (r y ≤ r x)) = B at *
  subst e
  rw [List.filter_append, List.filter_append, List.filter_cons]
  have e1 : ((A.filter p) ++ (B.filter p)).takeWhile (fun y => decide (r y ≤ r x)) = A.filter p := by
    rw [List.takeWhile_append_of_pos (fun y hy => decide_eq_true (htk y (List.mem_filter.1 hy).1))]
    have : (B.filter p).takeWhile (fun y => decide (r y ≤ r x)) = [] := by
      cases hb : B.filter p with
      | nil => rfl
      | cons z t =>
        have : z ∈ B := (List.mem_filter.1 (by rw [hb]; simp : z ∈ B.filter p)).1
        rw [List.takeWhile_cons_of_neg (by have := hdw z this; simpa using this)]
    rw [this, List.append_nil]
  have e2 : ((A.filter p) ++ (B.filter p)).dropWhile (fun y => decide (r y ≤ r x)) = B.filter p := by
    have h1 := List.takeWhile_append_dropWhile (p := fun y => decide (r y ≤ r x)) (l := (A.filter p) ++ (B.filter p))
    rw [e1] at h1
    exact List.append_cancel_left h1
  split
  · rw [e1, e2]
  · rfl
theorem stabL_filter (p : α → Bool) (l : List α) : stabL r (l.filter p) = (stabL r l).filter p := by
  have key : ∀ (l acc : List α), RiseR r acc → (l.filter p).foldl (insR r) (acc.filter p) = (l.foldl (insR r) acc).filter p := by
    intro l
    induction l with
    | nil => intro acc h; rfl
    | cons x t ih =>
      intro acc h
      rw [List.foldl_cons, ← ih _ (riseR_ins h x), insR_filter h]
      by_cases hp : p x = true
      · rw [List.filter_cons_of_pos hp, List.foldl_cons, if_pos hp]
      · rw [List.filter_cons_of_neg hp, if_neg hp]
  exact key l [] List.Pairwise.nil
theorem stabL_map (f : α → α) (hf : ∀ x, r (f x) = r x) (l : List α) : stabL r (l.map f) = (stabL r l).map f := by
  have ins : ∀ (L : List α) (x : α), insR r (L.map f) (f x) = (insR r L x).map f := by
    intro L x
    unfold insR
    rw [List.map_append, List.map_cons, List.takeWhile_map, List.dropWhile_map]
    have e : ((fun y => decide (r y ≤ r (f x))) ∘ f) = fun y => decide (r y ≤ r x) := by funext y; simp [hf]
    rw [e]
  have key : ∀ (l acc : List α), (l.map f).foldl (insR r) (acc.map f) = (l.foldl (insR r) acc).map f := by
    intro l
    induction l with
    | nil => intro acc; rfl
    | cons x t ih => intro acc; rw [List.map_cons, List.foldl_cons, List.foldl_cons, ins, ih]
  exact key l []
end
/-! ### twins -/
structure Twin (L L1 L2 : List Ord5) : Prop where
  s1 : L1 = rsideL 1 L
  s2 : L2 = rsideL 2 L
  ids : (L.map (·.id)).Nodup
  ok : ∀ o ∈ L, OkO o ∧ Is12 o.side
theorem rsideL_mem {s : Int} {L : List Ord5} {o : Ord5} : o ∈ rsideL s L ↔ o ∈ L ∧ o.side = s := by
  unfold rsideL onSide
  rw [(stabL_perm _).mem_iff, List.mem_filter]
  simp
theorem twin_nil : Twin [] [] [] := ⟨rfl, rfl, List.nodup_nil, fun o h => by cases h⟩
theorem Twin.side {L L1 L2 : List Ord5} (h : Twin L L1 L2) {s : Int} (hs : Is12 s) : sideL s L1 L2 = rsideL s L := by
  rcases hs with rfl | rfl
  · exact (if_pos rfl).trans h.s1
  · exact (if_neg (by decide)).trans h.s2
theorem Twin.mem {L L1 L2 : List Ord5} (h : Twin L L1 L2) {o : Ord5} : o ∈ L1 ++ L2 ↔ o ∈ L := by
  rw [List.mem_append, h.s1, h.s2, rsideL_mem, rsideL_mem]
  constructor
  · rintro (⟨h1, -⟩ | ⟨h1, -⟩) <;> exact h1
  · intro h1
    rcases (h.ok o h1).2 with h2 | h2
    · exact .inl ⟨h1, h2⟩
    · exact .inr ⟨h1, h2⟩
theorem filter_parts {α : Type} (p q : α → Bool) : ∀ l : List α, (∀ x ∈ l, q x = !p x) → (l.filter p).length + (l.filter q).length = l.length := by
  intro l
  induction l with
  | nil => intro _; rfl
  | cons x t ih =>
    intro h
    have h1 := ih (fun y hy => h y (by simp [hy]))
    have h2 := h x (by simp)
    cases hp : p x with
    | true => rw [List.filter_cons_of_pos hp, List.filter_cons_of_neg (by rw [h2, hp]; simp), List.length_cons, List.length_cons]; omega
    | false => rw [List.filter_cons_of_neg (by rw [hp]; simp), List.filter_cons_of_pos (by rw [h2, hp]; rfl), List.length_cons, List.length_cons]; omega
theorem Twin.len {L L1 L2 : List Ord5} (h : Twin L L1 L2) : L1.length + L2.length = L.length := by
  rw [h.s1, h.s2]
  unfold rsideL
  rw [stabL_length, stabL_length]
  exact filter_parts _ _ L (fun x hx => by
    rcases (h.ok x hx).2 with h2 | h2
    · rw [h2]; rfl
    · rw [h2]; rfl)
theorem getI_one {L : List Ord5} (hn : (L.map (·.id)).Nodup) {o : Ord5} (ho : o ∈ L) : getI L o.id = some o := by
  unfold getI
  cases hf : L.find? (fun x => x.id == o.id) with
  | none => have := List.find?_eq_none.1 hf o ho; simp at this
  | some x =>
    have h1 := List.find?_some hf
    have h2 := List.mem_of_find?_eq_some hf
    simp at h1
    rw [nodup_map_inj hn h2 ho h1]
theorem getI_no {L : List Ord5} {id : Int} : getI L id = none ↔ ∀ o ∈ L, o.id ≠ id := by
  unfold getI
  rw [List.find?_eq_none]
  simp
theorem Twin.get {L L1 L2 : List Ord5} (h : Twin L L1 L2) (hl : ListsOk L1 L2) (id : Int) : getI (L1 ++ L2) id = getI L id := by
  cases hg : getI L id with
  | none =>
    rw [getI_no] at hg ⊢
    exact fun o ho => hg o (h.mem.1 ho)
  | some o =>
    have h1 : o ∈ L ∧ o.id = id := by
      unfold getI at hg
      have h2 := List.find?_some hg
      simp at h2
      exact ⟨List.mem_of_find?_eq_some hg, h2⟩
    rw [← h1.2]
    exact getI_one hl.ids (h.mem.2 h1.1)
theorem Twin.addE {L L1 L2 : List Ord5} (h : Twin L L1 L2) (hl : ListsOk L1 L2) (o : Ord5) : addE L1 L2 o = raddE L o := by
  have h1 := h.len
  have h2 := hl.cnt
  rw [List.length_append] at h2
  unfold Go.Proofs.YtkcgchpbjegneaaGreatDoor.addE raddE
  rw [h.get hl, h1]
  by_cases hc : 100 ≤ L.length
  · rw [if_pos (show L.length = 100 by omega), if_pos hc]
  · rw [if_neg (show ¬ L.length = 100 by omega), if_neg hc]
theorem Twin.add {L L1 L2 : List Ord5} (h : Twin L L1 L2) {o : Ord5} (hf : FitO o) (he : raddE L o = 0) : Twin (raddL L o) (addL 1 L1 o) (addL 2 L2 o) := by
  have hL : raddL L o = L ++ [pricedO o] := by unfold raddL; rw [if_pos he]
  have hb : argB o = true ∧ rngB o = true ∧ getI L o.id = none := by
    unfold raddE at he
    cases h1 : argB o with
    | false => rw [h1] at he; simp at he
    | true =>
      cases h2 : rngB o with
      | false => rw [h1, h2] at he; simp at he
      | true =>
        cases h3 : getI L o.id with
        | none => exact ⟨rfl, rfl, rfl⟩
        | some x => rw [h1, h2, h3] at he; simp at he
  obtain ⟨b1, b2, b3⟩ := hb
  have hok : OkO (pricedO o) ∧ Is12 (pricedO o).side := by
    unfold argB at b1
    unfold rngB at b2
    rw [rightB_iff] at b2
    simp at b1
    refine ⟨⟨⟨hf.1, hf.2.1, hf.2.2.1, ?_, hf.2.2.2.2⟩, b1.2, ⟨b2.1, b2.2.1⟩, ⟨b2.2.2.1, b2.2.2.2⟩⟩, b1.1⟩
    unfold Fit64
    omega
  have hins : ∀ s, Is12 s → rsideL s (L ++ [pricedO o]) = addL s (rsideL s L) o := fun s hs => by
    unfold addL
    show stabL (rankO s) (onSide s (L ++ [pricedO o])) = _
    rw [onSide_snoc]
    by_cases e : o.side = s
    · rw [if_pos (beqT (show (pricedO o).side = s from e)), if_pos e, stabL_snoc, insO_rank hs hok.1 (fun x hx => (h.ok x (rsideL_mem.1 hx).1).1)]
      rfl
    · rw [if_neg (by rw [beqF (show (pricedO o).side ≠ s from e)]; simp), if_neg e, List.append_nil]
      rfl
  rw [hL]
  refine ⟨by rw [hins 1 (.inl rfl), h.s1], by rw [hins 2 (.inr rfl), h.s2], ?_, fun x hx => ?_⟩
  · rw [List.map_append, List.nodup_append]
    refine ⟨h.ids, by simp, fun a ha b hb => ?_⟩
    obtain ⟨x, hx, rfl⟩ := List.mem_map.1 ha
    simp at hb
    subst hb
    exact getI_no.1 b3 x hx
  · rcases List.mem_append.1 hx with hx | hx
    · exact h.ok x hx
    · rw [List.mem_singleton] at hx
      subst hx
      exact hok
/-- by the number, one goes -/
theorem cutK_filter {L : List Ord5} (hn : (L.map (·.id)).Nodup) {k : Nat} (hk : k < L.length) : cutK L k = L.filter fun x => !(x.id == L[k].id) := by
  unfold cutK
  have e : L = L.take k ++ L[k] :: L.drop (k + 1) := by rw [← List.drop_eq_getElem_cons hk, List.take_append_drop]
  have key : ∀ (A B : List Ord5) (x : Ord5), ((A ++ x :: B).map (·.id)).Nodup → (A ++ x :: B).filter (fun y => !(y.id == x.id)) = A ++ B := by
    intro A B x h
    rw [List.map_append, List.map_cons, List.nodup_append, List.nodup_cons] at h
    rw [List.filter_append, List.filter_cons_of_neg (by simp)]
    have h1 : A.filter (fun y => !(y.id == x.id)) = A := List.filter_eq_self.2 (fun y hy => by
      have := h.2.2 _ (List.mem_map.2 ⟨y, hy, rfl⟩) _ (List.mem_cons_self)
      simpa using this)
    have h2 : B.filter (fun y => !(y.id == x.id)) = B := List.filter_eq_self.2 (fun y hy => by
      have h3 := h.2.1.1
      have : y.id ≠ x.id := fun e => h3 (by rw [← e]; exact List.mem_map.2 ⟨y, hy, rfl⟩)
      simpa using this)
    rw [h1, h2]
  generalize L[k] = y at e ⊢
  generalize L.take k = A at e ⊢
  generalize L.drop (k + 1) = B at e ⊢
  subst e
  exact (key _ _ _ hn).symm
theorem Twin.filter {L L1 L2 : List Ord5} (h : Twin L L1 L2) (p : Ord5 → Bool) : Twin (L.filter p) (L1.filter p) (L2.filter p) := by
  have e : ∀ s, rsideL s (L.filter p) = (rsideL s L).filter p := fun s => by
    unfold rsideL
    rw [← stabL_filter]
    unfold onSide
    rw [List.filter_filter, List.filter_filter]
    congr 2
    funext x
    rw [Bool.and_comm]
  refine ⟨by rw [e, h.s1], by rw [e, h.s2], ?_, fun o ho => h.ok o (List.mem_filter.1 ho).1⟩
  exact List.Nodup.sublist ((List.filter_sublist).map _) h.ids
theorem Twin.cancel {L L1 L2 : List Ord5} (h : Twin L L1 L2) {id : Int} {o : Ord5} (hg : getI L id = some o) : Twin (rcanL L id) (remI L1 id) (remI L2 id) := by
  rcases idxI_cases L id with ⟨-, h2⟩ | ⟨k, hk, -, h3, h4, h5⟩
  · rw [h2] at hg; cases hg
  · have e : rcanL L id = L.filter fun x => !(x.id == id) := by
      unfold rcanL
      rw [h3, cutK_filter h.ids hk, h4]
    rw [e]
    exact h.filter _
theorem Twin.map {L L1 L2 : List Ord5} (h : Twin L L1 L2) {id n : Int} (hok : ∀ o ∈ L, o.id = id → 1 ≤ o.qty - n ∧ o.qty - n ≤ 1000000) : Twin (cutI L id n) (cutI L1 id n) (cutI L2 id n) := by
  have hr : ∀ s (x : Ord5), rankO s (if x.id = id then cutO x n else x) = rankO s x := fun s x => by split <;> rfl
  have e : ∀ s, rsideL s (cutI L id n) = cutI (rsideL s L) id n := fun s => by
    unfold rsideL cutI
    rw [← stabL_map (r := rankO s) (fun o => if o.id = id then cutO o n else o) (hr s)]
    congr 1
    unfold onSide
    rw [List.filter_map]
    congr 2
    funext x
    simp only [Function.comp]
    split <;> rfl
  refine ⟨by rw [e, h.s1], by rw [e, h.s2], ?_, fun o ho => ?_⟩
  · have : (cutI L id n).map (·.id) = L.map (·.id) := by
      unfold cutI
      rw [List.map_map]
      refine List.map_congr_left fun x _ => ?_
      simp only [Function.comp]
      split <;> rfl
    rw [this]
    exact h.ids
  · unfold cutI at ho
    obtain ⟨x, hx, rfl⟩ := List.mem_map.1 ho
    have h1 := h.ok x hx
    by_cases e : x.id = id
    · rw [if_pos e]
      have h2 := hok x hx e
      refine ⟨⟨⟨h1.1.1.1, h1.1.1.2.1, h1.1.1.2.2.1, h1.1.1.2.2.2.1, ?_⟩, h1.1.2.1, h1.1.2.2.1, h2⟩, h1.2⟩
      unfold Fit64 cutO
      dsimp only
      omega
    · rw [if_neg e]; exact h1
theorem set_cutI {L : List Ord5} (hn : (L.map (·.id)).Nodup) {k : Nat} (hk : k < L.length) (n : Int) : L.set k (cutO L[k] n) = cutI L L[k].id n := by
  unfold cutI
  apply List.ext_getElem (by simp)
  intro i h1 h2
  rw [List.getElem_map]
  by_cases e : i = k
  · subst e
    rw [List.getElem_set_self, if_pos rfl]
  · rw [List.getElem_set_ne (fun h => e h.symm)]
    have hi : i < L.length := by simpa using h1
    have : L[i].id ≠ L[k].id := fun h => by
      have h3 := List.pairwise_iff_getElem.1 hn
      rcases Nat.lt_or_gt_of_ne e with lt | gt
      · exact h3 i k (by simpa using hi) (by simpa using hk) lt (by simpa using h)
      · exact h3 k i (by simpa using hk) (by simpa using hi) gt (by simpa using h.symm)
    rw [if_neg this]
end Go.Proofs.YtkcgchpbjegneaaGreatDoor
namespace Go.Proofs.YtkcgchpbjegneaaGreatDoor
open Go.RowKit
set_option linter.unusedVariables false

theorem order_ne (a b c d e : Int) (w : World) : (binOp .neq 24 (.agg #[.int .i64 a, .int .i64 b, .int .i64 c, .int .i64 d, .int .i64 e]) (.agg #[.int .i64 a, .int .i64 b, .int .i64 c, .int .i64 d, .int .i64 e])).run Tryz.prog w = .ok (.bool false) w := by
  have hf : Tryz.prog.underlying 24 = some (.struct (Tryz.prog.fieldsOf 24)) := by kernel_rfl
  have hs : Tryz.prog.stoodInHeld 24 = false := by kernel_rfl
  have hi : Tryz.prog.underlying 3 = some (.int .i64) := Tryz.underlying3
  rw [run_neq_struct, run_equalIn_agg _ _ _ _ _ hf hs]
  simp [Program.fieldsOf, Tryz.underlying24, Op.eqFields, go_sem, hi]
theorem level_ne (a b c : Int) (w : World) : (binOp .neq 106 (.agg #[.int .i64 a, .int .i64 b, .int .i64 c]) (.agg #[.int .i64 a, .int .i64 b, .int .i64 c])).run Tryz.prog w = .ok (.bool false) w := by
  have hf : Tryz.prog.underlying 106 = some (.struct (Tryz.prog.fieldsOf 106)) := by kernel_rfl
  have hs : Tryz.prog.stoodInHeld 106 = false := by kernel_rfl
  have hi : Tryz.prog.underlying 3 = some (.int .i64) := Tryz.underlying3
  rw [run_neq_struct, run_equalIn_agg _ _ _ _ _ hf hs]
  simp [Program.fieldsOf, Tryz.underlying106, Op.eqFields, go_sem, hi]

set_option maxRecDepth 100000 in
set_option maxHeartbeats 4000000 in
theorem sameOrders_any (A A2 : Option Addr) (n c c2 : Nat) (ps : List Ord5) (w : World) (h : ElemsAt w encO 5 A n ps) (h2 : ElemsAt w encO 5 A2 n ps) (hm : n ≤ 1000000) :
    Calls Tryz.prog 38 #[.slice A n c, .slice A2 n c2] w fun e w' => e = .returned (.bool true) ∧ Below w.heap.size w w' := by
  have HH := hid h
  have HH2 := hid h2
  have hl := h.1
  have HL := hid hl
  have e0 : ((n : Int) != (n : Int)) = false := bneF rfl
  clear h h2 hl
  go_enter Tryz.func38, Tryz.ntmps38
  go_wp2_with fail
  go_loopg [5] n (fun gg s5 wx => ∃ k : Nat, k ≤ n ∧ gg = n - k ∧ s5 = .int .i64 k ∧ Below w.heap.size w wx)
  case atStart => exact ⟨0, Nat.zero_le _, rfl, rfl, Below.refl _ _⟩
  case round =>
    obtain ⟨k, hk, rfl, rfl, hB⟩ := hrel
    by_cases hlt : k < n
    · have hkl : k < ps.length := by have := HL.out; omega
      obtain ⟨b, off, hA⟩ : ∃ b off, A = some ⟨b, off, none⟩ := by obtain ⟨b, off, h1, _⟩ := HH.out.2 (by omega); exact ⟨b, off, h1⟩
      obtain ⟨b2, off2, hA2⟩ : ∃ b off, A2 = some ⟨b, off, none⟩ := by obtain ⟨b, off, h1, _⟩ := HH2.out.2 (by omega); exact ⟨b, off, h1⟩
      subst hA hA2
      obtain ⟨x0, x1, x2, x3, x4⟩ := ord_at (HH.out.below hB (Nat.le_refl _)) hkl
      obtain ⟨y0, y1, y2, y3, y4⟩ := ord_at (HH2.out.below hB (Nat.le_refl _)) hkl
      have hltz : (k : Int) < (n : Int) := by omega
      have hi7 : (0 : Int) ≤ (k : Int) := by omega
      obtain ⟨o, eo⟩ : ∃ o, ps[k] = o := ⟨_, rfl⟩
      rw [eo] at x0 x1 x2 x3 x4 y0 y1 y2 y3 y4
      clear eo
      have hne := order_ne o.id o.side o.kind o.price o.qty
      go_wp2_with fail
      go_quiet (fail)
      go_wp2_with fail
      go_roundg (n - (k + 1))
      case measure => omega
      case rel => exact ⟨k + 1, by omega, rfl, by go_num, drewN_below hB _⟩
    · obtain rfl : k = n := by omega
      have hltz : ¬ (k : Int) < (k : Int) := by omega
      go_wp2
      go_ret
      exact ⟨rfl, hB⟩

section
variable {P : Program} {Q : Exit → Act → World → Prop} {md : Region.Mode} {S : World → Prop} {l rest : List Oper} {oi : Oper} {fuel : Nat} {listed : Array Bool} {a : Act} {w : World}
theorem takeH (i d : Nat) (v : Value) (hl : l.drop i = oi :: rest) (hd : oi.dst = some d) (hs : Region.noSelect l.toArray = true) (hf : Region.free md l.toArray listed i = true) (hr : (Region.ready md l.toArray listed).contains i = true)
    (hQ : ∀ c a w, Q (.panic c) (a.put oi.dst v) w → Q (.panic c) a w) (hwn : Region.wanted oi (yielded l.toArray a.tmps) = true) (hy : ∀ w, S w → (execOp a.eval oi).run P w = .ok (.value v) w) (hS : S w)
    (h : wpAnyH P md l.toArray Q S fuel (listed.setIfInBounds i true) (a.put (some d) v) w) : wpAnyH P md l.toArray Q S (fuel + 1) listed a w :=
  wpAnyH_take (at_drop hl) hs hf hr hQ (.inl ⟨hwn, hy⟩) hS (by rw [hd]; exact h)
theorem skipH (i d : Nat) (hl : l.drop i = oi :: rest) (hd : oi.dst = some d) (hs : Region.noSelect l.toArray = true) (hf : Region.free md l.toArray listed i = true) (hr : (Region.ready md l.toArray listed).contains i = true)
    (hQ : ∀ c a w, Q (.panic c) (a.put oi.dst undef) w → Q (.panic c) a w) (hwn : Region.wanted oi (yielded l.toArray a.tmps) = false) (hS : S w)
    (h : wpAnyH P md l.toArray Q S fuel (listed.setIfInBounds i true) (a.put (some d) undef) w) : wpAnyH P md l.toArray Q S (fuel + 1) listed a w :=
  wpAnyH_take (at_drop hl) hs hf hr hQ (.inr ⟨hwn, rfl⟩) hS (by rw [hd]; exact h)
theorem oneH (i : Nat) (hr : Region.ready md l.toArray listed = [i]) (ho : l.drop i = oi :: rest)
    (h : ∀ K' : Act → World → Prop, (∀ a w, S w → (S w → wpAnyH P md l.toArray Q S fuel (listed.setIfInBounds i true) a w) → K' a w) → if Region.wanted oi (yielded l.toArray a.tmps) = true then Oper.wp P oi a w K' Q else K' (a.put oi.dst undef) w) : wpAnyH P md l.toArray Q S (fuel + 1) listed a w :=
  wpAnyH_all hr (by simp) (fun j hj => by
    rw [List.mem_singleton] at hj
    subst hj
    exact wpOp_step (at_drop ho) fun K' hK => h K' (fun a w hS hw => hK a w ⟨hS, hw hS⟩))
theorem region_held_drew {ops : Array Oper} {id : Nat} (S : World → Prop) (hm : P.follows .mixedOrders = true) (hS : S w.drew)
    (h : S w.drew → wpAnyH P .any ops Q S ops.size (Array.replicate ops.size false) a w.drew) : (Code.region id ops true).wp P Q a w := wp_region_held hm (h hS)
end
theorem errIs_errV (w : World) (e : Int) : ErrIs w (errV e) e (-1) := by
  unfold errV
  by_cases h : e = 0
  · rw [if_pos h]; exact .inl ⟨rfl, h, rfl⟩
  · rw [if_neg h]; exact .inr (.inl ⟨rfl, rfl⟩)
theorem Twin.small {L L1 L2 : List Ord5} (h : Twin L L1 L2) (hl : ListsOk L1 L2) : L.length ≤ 100 := by
  have h1 := h.len
  have h2 := hl.cnt
  rw [List.length_append] at h2
  omega
theorem rsideL_len (s : Int) (L : List Ord5) : (rsideL s L).length ≤ L.length := by
  unfold rsideL
  rw [stabL_length]
  exact onSide_len s L
theorem depthL_len (l : List Ord5) : (depthL l).length ≤ l.length := by
  have key : ∀ (l : List Ord5) (acc : List Tri), (l.foldl depF acc).length ≤ acc.length + l.length := by
    intro l
    induction l with
    | nil => intro acc; simp
    | cons o t ih =>
      intro acc
      rw [List.foldl_cons, List.length_cons]
      refine Nat.le_trans (ih _) ?_
      have : (depF acc o).length ≤ acc.length + 1 := by
        unfold depF
        split
        · omega
        · split
          · rename_i x hx
            split
            · have : acc ≠ [] := fun e => by rw [e] at hx; cases hx
              have := List.length_pos_iff.2 this
              rw [List.length_append, List.length_dropLast, List.length_singleton]
              omega
            · simp
          · simp
      omega
  have := key l []
  rw [List.length_nil, Nat.zero_add] at this
  exact this
/-- the document's looks at a side -/
structure Looks (w : World) (b B : Nat) (L : List Ord5) (s : Int) (ls : List Ord5) (n : Nat) : Prop where
  rside : ∀ W, Below w.heap.size w W → Calls Tryz.prog 40 #[.pointer (some ⟨B, 0, none⟩), .int .i64 s] W fun e w' => Below w.heap.size w w' ∧ ∃ A' c', e = .returned (.slice A' n c') ∧ RowAt w' A' n c' 24 5 (flat encO ls)
  bside : ∀ W, Below w.heap.size w W → Calls Tryz.prog 46 #[.pointer (some ⟨b, 0, none⟩), .int .i64 s] W fun e w' => Below W.heap.size W w' ∧ ∃ A' c', e = .returned (.tuple #[.slice A' n c', .nilIface]) ∧ RowAt w' A' n c' 24 5 (flat encO ls)
  best : ∀ W, Below w.heap.size w W → Calls Tryz.prog 48 #[.pointer (some ⟨b, 0, none⟩), .int .i64 s] W fun e w' => Below W.heap.size W w' ∧ e = .returned (.tuple #[aggO (bestO ls), errV (bestE ls)])
  rdepth : ∀ W, Below w.heap.size w W → Calls Tryz.prog 49 #[.pointer (some ⟨B, 0, none⟩), .int .i64 s] W fun e w' => Below W.heap.size W w' ∧ ∃ A' c', e = .returned (.slice A' (depthL ls).length c') ∧ RowAt w' A' (depthL ls).length c' 106 3 (flat encT (depthL ls))
  bdepth : ∀ W, Below w.heap.size w W → Calls Tryz.prog 50 #[.pointer (some ⟨b, 0, none⟩), .int .i64 s] W fun e w' => Below W.heap.size W w' ∧ ∃ A' c', e = .returned (.tuple #[.slice A' (depthL ls).length c', .nilIface]) ∧ RowAt w' A' (depthL ls).length c' 106 3 (flat encT (depthL ls))
  small : n ≤ 100
  len : ls.length = n
theorem looks_of {w : World} {b B : Nat} {G : Nat → Prop} {L L1 L2 : List Ord5} {t : TypeId} {cs : Array Value} {A : Option Addr} (h : BookAt w b G L1 L2) (hr : RefB w B t cs 0 A L) (ht : Twin L L1 L2) {s : Int} (hs : Is12 s) : Looks w b B L s (rsideL s L) (rsideL s L).length := by
  have hn := ht.small h.lists
  have e := ht.side hs
  have hp : ∀ o ∈ onSide s L, -1000000000 ≤ o.price ∧ o.price ≤ 1000000000 := fun o ho => by
    have := (ht.ok o (List.mem_filter.1 ho).1).1.2.2.1
    omega
  have hq : ∀ o ∈ rsideL s L, 0 ≤ o.qty ∧ o.qty ≤ 1000000 := fun o ho => by
    have := (ht.ok o (rsideL_mem.1 ho).1).1.2.2.2
    omega
  have hl := rsideL_len s L
  refine ⟨fun W hW => ?_, fun W hW => ?_, fun W hW => ?_, fun W hW => ?_, fun W hW => ?_, by omega, rfl⟩
  · exact (rside_ref (hr.below hW) (by omega) s hp).mono fun e w' ⟨h1, A', c', h2, h3, _⟩ => ⟨hW.trans (h1.mono hW.size), A', c', h2, h3⟩
  · have := bookSide_any W b G L1 L2 (h.below hW) s hs
    rw [e] at this
    exact this.mono fun e w' ⟨h1, A', c', h2, h3, _⟩ => ⟨h1, A', c', h2, h3⟩
  · have := bookBest_any W b G L1 L2 (h.below hW) s hs
    rw [e] at this
    exact this
  · exact rdepth_any W B t cs 0 A L (hr.below hW) (by omega) s hp hq (by omega)
  · have := bookDepth_any W b G L1 L2 (h.below hW) s hs
    rw [e] at this
    exact this

set_option maxRecDepth 100000 in
set_option maxHeartbeats 4000000 in
theorem same_any (w : World) (b B : Nat) (G : Nat → Prop) (L L1 L2 : List Ord5) (t : TypeId) (cs : Array Value) (A : Option Addr) (h : BookAt w b G L1 L2) (hr : RefB w B t cs 0 A L) (ht : Twin L L1 L2) (hE : ErrType w) :
    Calls Tryz.prog 14 #[.pointer (some ⟨b, 0, none⟩), .pointer (some ⟨B, 0, none⟩)] w fun e w' => e = .returned (.bool true) ∧ Below w.heap.size w w' := by
  have HK := hid (fun s (hs : Is12 s) => looks_of h hr ht hs)
  have HM := hid (fun W (hW : Below w.heap.size w W) => bookMany_any W b G L1 L2 (h.below hW))
  have HR := hid hr
  have HL := hid ht.len
  have HE := hid hE
  clear h hr ht hE
  go_enter Tryz.func14, Tryz.ntmps14
  go_wp2_with fail
  go_loopg [5] 2 (fun gg s5 wx => ∃ k : Nat, 1 ≤ k ∧ k ≤ 3 ∧ gg = 3 - k ∧ s5 = .int .i64 k ∧ Below w.heap.size w wx)
  case atStart => exact ⟨1, by omega, by omega, rfl, rfl, Below.refl _ _⟩
  case round =>
    obtain ⟨k, hk1, hk3, rfl, rfl, hB⟩ := hrel
    by_cases hlt : k ≤ 2
    · have hltz : (k : Int) ≤ 2 := by omega
      have HLo := hid (HK.out (k : Int) (by have : k = 1 ∨ k = 2 := (by omega); rcases this with rfl | rfl; exact .inl rfl; exact .inr rfl))
      obtain ⟨ls, els⟩ : ∃ l, rsideL (k : Int) L = l := ⟨_, rfl⟩
      rw [els] at HLo
      clear els
      obtain ⟨n, en⟩ : ∃ n, ls.length = n := ⟨_, rfl⟩
      rw [en] at HLo
      clear en
      go_wp2_with fail
      refine (HLo.out.rside _ hB).mono ?_
      rintro e w2 ⟨hB2, A2, c2, rfl, hr2⟩
      clear hB
      have HR2 := hid (ElemsAt.of_row encO_length (by omega) hr2)
      clear hr2
      go_wp2_with fail
      refine (HLo.out.bside _ hB2).mono ?_
      rintro e w3 ⟨hb, A3, c3, rfl, hr3⟩
      have HR2 := hid (HR2.out.below hb (Nat.le_refl _))
      have HR3 := hid (ElemsAt.of_row encO_length (by omega) hr3)
      have hB3 := hB2.trans (hb.mono hB2.size)
      clear hb hr3 hB2
      go_wp2_with (go_at_call 38; refine (sameOrders_any _ _ _ _ _ _ _ HR3.out HR2.out (by have := HLo.out.small; omega)).mono ?_; rintro e w4 ⟨rfl, hb⟩; have HB4 := hid (hB3.trans (hb.mono hB3.size)); have HR4 := hid (HR2.out.below hb (Nat.le_refl _)); clear hb)
      go_wp2_with fail
      refine (HLo.out.best _ HB4.out).mono ?_
      rintro e w5 ⟨hb, rfl⟩
      have HB5 := hid (HB4.out.trans (hb.mono HB4.out.size))
      have HR5 := hid (HR4.out.below hb (Nat.le_refl _))
      clear hb hB3 HB4 HR4
      obtain ⟨⟨i1, i2, i3, i4, i5⟩, hbo⟩ : ∃ o, Hid (bestO ls = o) := ⟨_, hid rfl⟩
      rw [hbo.out, show aggO (⟨i1, i2, i3, i4, i5⟩ : Ord5) = .agg #[.int .i64 i1, .int .i64 i2, .int .i64 i3, .int .i64 i4, .int .i64 i5] from rfl]
      obtain ⟨ev, hev⟩ : ∃ o, Hid (errV (bestE ls) = o) := ⟨_, hid rfl⟩
      rw [hev.out]
      have hbl : ∀ o t, ls = o :: t → (⟨i1, i2, i3, i4, i5⟩ : Ord5) = o := fun o t e => by rw [← hbo.out, e]; rfl
      have HBl := hid hbl
      clear hbl
      go_upto_region 9 with fail
      obtain ⟨w6, ew6⟩ : ∃ W, (w5.alloc (.cells #[.int .i64 i1, .int .i64 i2, .int .i64 i3, .int .i64 i4, .int .i64 i5] 24)) = W := ⟨_, rfl⟩
      obtain ⟨g5, eg5⟩ : ∃ g, w5.heap.size = g := ⟨_, rfl⟩
      have HX6 := hid (Blk.new w5 24 #[.int .i64 i1, .int .i64 i2, .int .i64 i3, .int .i64 i4, .int .i64 i5])
      rw [ew6, eg5] at HX6
      have hb56 : Below w5.heap.size w5 w6 := by rw [← ew6]; exact (Below.refl _ _).alloc (Nat.le_refl _) _
      have HB6 := hid (HB5.out.trans (hb56.mono HB5.out.size))
      have HR6 := hid (HR5.out.below hb56 (Nat.le_refl _))
      rw [ew6, eg5]
      clear hb56 ew6 eg5 HB5 HR5
      go_cut [63] (fun s63 wx => s63 = .bool false ∧ Below w.heap.size w wx)
      case first =>
        by_cases hn : n = 0
        · have d1 : ((n : Int) == 0) = true := beqT (by omega)
          have d2 : decide ((0 : Int) < (n : Int)) = false := decF (by omega)
          have d3 : decide (0 < n) = false := decF (by omega)
          have hev8 : ev = .iface 29 (.int .i64 8) := by rw [← hev.out, List.length_eq_zero_iff.1 (HLo.out.len.trans hn)]; rfl
          subst hev8
          have HE6 := hid (HE.out.below HB6.out (Nat.le_refl _))
          have nn : ¬ (0 : Int) < (n : Int) := by omega
          clear hn
          have HE7 := hid (HE.out.below HB6.out.drew (Nat.le_refl _))
          have eeq : errV 8 = .iface 29 (.int .i64 8) := rfl
          have HEI := hid (errIs_errV w6.drew 8)
          rw [eeq] at HEI
          clear eeq
          refine region_held_drew (fun W => Below w.heap.size w W) (by kernel_rfl) HB6.out.drew (fun hS => ?_)
          refine takeH 0 40 (.slice A2 n c2) rfl rfl (by kernel_rfl) (by kernel_rfl) (by kernel_rfl) (fun _ _ _ h => h) (by rfl) ?_ (by assumption) ?_
          · intro W hSw; go_simp
          simp only [Act.put, List.setIfInBounds_toArray, List.set_cons_zero, List.set_cons_succ]
          refine takeH 1 41 (.int .i64 n) rfl rfl (by kernel_rfl) (by kernel_rfl) (by kernel_rfl) (fun _ _ _ h => h) (by rfl) ?_ (by assumption) ?_
          · intro W hSw; go_simp
          simp only [Act.put, List.setIfInBounds_toArray, List.set_cons_zero, List.set_cons_succ]
          refine takeH 2 42 (.bool true) rfl rfl (by kernel_rfl) (by kernel_rfl) (by kernel_rfl) (fun _ _ _ h => h) (by rfl) ?_ (by assumption) ?_
          · intro W hSw; go_simp
          simp only [Act.put, List.setIfInBounds_toArray, List.set_cons_zero, List.set_cons_succ]
          refine takeH 3 43 (.bool true) rfl rfl (by kernel_rfl) (by kernel_rfl) (by kernel_rfl) (fun _ _ _ h => h) (by rfl) ?_ (by assumption) ?_
          · intro W hSw; go_simp
          simp only [Act.put, List.setIfInBounds_toArray, List.set_cons_zero, List.set_cons_succ]
          refine takeH 4 44 (Value.iface 29 (.int .i64 8)) rfl rfl (by kernel_rfl) (by kernel_rfl) (by kernel_rfl) (fun _ _ _ h => h) (by rfl) ?_ (by assumption) ?_
          · intro W hSw; go_simp
          simp only [Act.put, List.setIfInBounds_toArray, List.set_cons_zero, List.set_cons_succ]
          refine oneH 5 (by kernel_rfl) rfl (fun K1 hK1 => ?_)
          go_simp
          go_at_call 17
          refine (bare_any (.iface 29 (.int .i64 8)) 8 (-1) 8 w6.drew HE7.out HEI.out).mono ?_
          rintro e w9 ⟨rfl, hb9⟩
          refine hK1 _ _ (HB6.out.drew.trans (hb9.mono HB6.out.drew.size)) (fun hS => ?_)
          clear hK1
          refine takeH 6 46 (.bool false) rfl rfl (by kernel_rfl) (by kernel_rfl) (by kernel_rfl) (fun _ _ _ h => h) (by rfl) ?_ (by assumption) ?_
          · intro W hSw; go_simp
          simp only [Act.put, List.setIfInBounds_toArray, List.set_cons_zero, List.set_cons_succ]
          refine takeH 7 47 (.bool false) rfl rfl (by kernel_rfl) (by kernel_rfl) (by kernel_rfl) (fun _ _ _ h => h) (by rfl) ?_ (by assumption) ?_
          · intro W hSw; go_simp
          simp only [Act.put, List.setIfInBounds_toArray, List.set_cons_zero, List.set_cons_succ]
          refine takeH 8 48 (.bool false) rfl rfl (by kernel_rfl) (by kernel_rfl) (by kernel_rfl) (fun _ _ _ h => h) (by rfl) ?_ (by assumption) ?_
          · intro W hSw; go_simp
          simp only [Act.put, List.setIfInBounds_toArray, List.set_cons_zero, List.set_cons_succ]
          refine takeH 9 49 (.slice A2 n c2) rfl rfl (by kernel_rfl) (by kernel_rfl) (by kernel_rfl) (fun _ _ _ h => h) (by rfl) ?_ (by assumption) ?_
          · intro W hSw; go_simp
          simp only [Act.put, List.setIfInBounds_toArray, List.set_cons_zero, List.set_cons_succ]
          refine takeH 10 50 (.int .i64 n) rfl rfl (by kernel_rfl) (by kernel_rfl) (by kernel_rfl) (fun _ _ _ h => h) (by rfl) ?_ (by assumption) ?_
          · intro W hSw; go_simp
          simp only [Act.put, List.setIfInBounds_toArray, List.set_cons_zero, List.set_cons_succ]
          refine takeH 11 51 (.bool false) rfl rfl (by kernel_rfl) (by kernel_rfl) (by kernel_rfl) (fun _ _ _ h => h) (by rfl) ?_ (by assumption) ?_
          · intro W hSw; go_simp
          simp only [Act.put, List.setIfInBounds_toArray, List.set_cons_zero, List.set_cons_succ]
          refine takeH 12 52 (.bool false) rfl rfl (by kernel_rfl) (by kernel_rfl) (by kernel_rfl) (fun _ _ _ h => h) (by rfl) ?_ (by assumption) ?_
          · intro W hSw; go_simp
          simp only [Act.put, List.setIfInBounds_toArray, List.set_cons_zero, List.set_cons_succ]
          refine skipH 13 53 rfl rfl (by kernel_rfl) (by kernel_rfl) (by kernel_rfl) (fun _ _ _ h => h) (by rfl) (by assumption) ?_
          simp only [Act.put, List.setIfInBounds_toArray, List.set_cons_zero, List.set_cons_succ]
          refine skipH 14 54 rfl rfl (by kernel_rfl) (by kernel_rfl) (by kernel_rfl) (fun _ _ _ h => h) (by rfl) (by assumption) ?_
          simp only [Act.put, List.setIfInBounds_toArray, List.set_cons_zero, List.set_cons_succ]
          refine skipH 15 55 rfl rfl (by kernel_rfl) (by kernel_rfl) (by kernel_rfl) (fun _ _ _ h => h) (by rfl) (by assumption) ?_
          simp only [Act.put, List.setIfInBounds_toArray, List.set_cons_zero, List.set_cons_succ]
          refine skipH 16 56 rfl rfl (by kernel_rfl) (by kernel_rfl) (by kernel_rfl) (fun _ _ _ h => h) (by rfl) (by assumption) ?_
          simp only [Act.put, List.setIfInBounds_toArray, List.set_cons_zero, List.set_cons_succ]
          refine skipH 17 57 rfl rfl (by kernel_rfl) (by kernel_rfl) (by kernel_rfl) (fun _ _ _ h => h) (by rfl) (by assumption) ?_
          simp only [Act.put, List.setIfInBounds_toArray, List.set_cons_zero, List.set_cons_succ]
          refine skipH 18 58 rfl rfl (by kernel_rfl) (by kernel_rfl) (by kernel_rfl) (fun _ _ _ h => h) (by rfl) (by assumption) ?_
          simp only [Act.put, List.setIfInBounds_toArray, List.set_cons_zero, List.set_cons_succ]
          refine skipH 19 59 rfl rfl (by kernel_rfl) (by kernel_rfl) (by kernel_rfl) (fun _ _ _ h => h) (by rfl) (by assumption) ?_
          simp only [Act.put, List.setIfInBounds_toArray, List.set_cons_zero, List.set_cons_succ]
          refine skipH 20 60 rfl rfl (by kernel_rfl) (by kernel_rfl) (by kernel_rfl) (fun _ _ _ h => h) (by rfl) (by assumption) ?_
          simp only [Act.put, List.setIfInBounds_toArray, List.set_cons_zero, List.set_cons_succ]
          refine skipH 21 61 rfl rfl (by kernel_rfl) (by kernel_rfl) (by kernel_rfl) (fun _ _ _ h => h) (by rfl) (by assumption) ?_
          simp only [Act.put, List.setIfInBounds_toArray, List.set_cons_zero, List.set_cons_succ]
          refine takeH 22 62 (.bool false) rfl rfl (by kernel_rfl) (by kernel_rfl) (by kernel_rfl) (fun _ _ _ h => h) (by rfl) ?_ (by assumption) ?_
          · intro W hSw; go_simp
          simp only [Act.put, List.setIfInBounds_toArray, List.set_cons_zero, List.set_cons_succ]
          refine takeH 23 63 (.bool false) rfl rfl (by kernel_rfl) (by kernel_rfl) (by kernel_rfl) (fun _ _ _ h => h) (by rfl) ?_ (by assumption) ?_
          · intro W hSw; go_simp
          simp only [Act.put, List.setIfInBounds_toArray, List.set_cons_zero, List.set_cons_succ]
          refine wpAnyH_done (by kernel_rfl) ?_ _
          go_wp2_with fail
          go_meet
          exact ⟨rfl, hS⟩
        · obtain ⟨o, tl, hls⟩ : ∃ o tl, ls = o :: tl := by
            cases ls with
            | nil => exact absurd (HLo.out.len.symm.trans rfl) hn
            | cons o tl => exact ⟨o, tl, rfl⟩
          have d1 : ((n : Int) == 0) = false := beqF (by omega)
          have d2 : decide ((0 : Int) < (n : Int)) = true := decT (by omega)
          have d3 : decide (0 < n) = true := decT (by omega)
          have hev0 : ev = .nilIface := by rw [← hev.out, hls]; rfl
          have hnz : (0 : Int) < (n : Int) := by omega
          have hlp : 0 < ls.length := by have := HLo.out.len; omega
          obtain ⟨gb, ob, hA⟩ : ∃ b off, A2 = some ⟨b, off, none⟩ := by obtain ⟨b, off, h1, _⟩ := HR6.out.2 (by omega); exact ⟨b, off, h1⟩
          subst hA hev0
          obtain ⟨x0, x1, x2, x3, x4⟩ := ord_at HR6.out hlp
          have e0 : ls[0] = ⟨i1, i2, i3, i4, i5⟩ := by subst hls; exact (HBl.out o tl rfl).symm
          rw [e0] at x0 x1 x2 x3 x4
          obtain ⟨y0, y1, y2, y3, y4⟩ := ord_box (o := ⟨i1, i2, i3, i4, i5⟩) HX6.out
          have hne := order_ne i1 i2 i3 i4 i5
          clear e0 hls hn
          dsimp only at x0 x1 x2 x3 x4
          simp only [Nat.zero_mul, Nat.add_zero] at x0 x1 x2 x3 x4
          go_quiet (fail)
          go_wp2_with fail
          go_meet
          exact ⟨rfl, drewN_below HB6.out _⟩
      case rest =>
        obtain ⟨rfl, hB7⟩ := hcut
        clear HX6 HR6 HB6 HBl hbo hev
        go_wp2_with fail
        refine (HLo.out.rdepth _ hB7).mono ?_
        rintro e w8 ⟨hb, A8, c8, rfl, hr8⟩
        have HR8 := hid (ElemsAt.of_row encT_length (by omega) hr8)
        have hB8 := hB7.trans (hb.mono hB7.size)
        clear hb hr8 hB7
        go_wp2_with fail
        refine (HLo.out.bdepth _ hB8).mono ?_
        rintro e w9 ⟨hb, A9, c9, rfl, hr9⟩
        have HR9 := hid (ElemsAt.of_row encT_length (by omega) hr9)
        have HR8 := hid (HR8.out.below hb (Nat.le_refl _))
        have HB9 := hid (hB8.trans (hb.mono hB8.size))
        clear hb hr9 hB8
        have HDl := hid (Nat.le_trans (depthL_len ls) (Nat.le_trans (Nat.le_of_eq HLo.out.len) HLo.out.small))
        obtain ⟨dl, edl⟩ : ∃ l, depthL ls = l := ⟨_, rfl⟩
        rw [edl] at HR8 HR9 HDl ⊢
        clear edl
        obtain ⟨m, hm⟩ : ∃ m, dl.length = m := ⟨_, rfl⟩
        rw [hm] at HR8 HR9 HDl ⊢
        have Hm := hid hm
        clear hm
        have e1 : ((m : Int) != (m : Int)) = false := bneF rfl
        go_wp2_with fail
        go_loopg [12] m (fun gg s12 wx => ∃ j : Nat, j ≤ m ∧ gg = m - j ∧ s12 = .int .i64 j ∧ Below w9.heap.size w9 wx)
        case atStart => exact ⟨0, Nat.zero_le _, rfl, rfl, Below.refl _ _⟩
        case round =>
          obtain ⟨j, hj, rfl, rfl, hBj⟩ := hrel
          by_cases hjl : j < m
          · have hjl2 : j < dl.length := by have := Hm.out; omega
            obtain ⟨p8, o8, hA8⟩ : ∃ b off, A8 = some ⟨b, off, none⟩ := by obtain ⟨b, off, h1, _⟩ := HR8.out.2 (by omega); exact ⟨b, off, h1⟩
            obtain ⟨p9, o9, hA9⟩ : ∃ b off, A9 = some ⟨b, off, none⟩ := by obtain ⟨b, off, h1, _⟩ := HR9.out.2 (by omega); exact ⟨b, off, h1⟩
            subst hA8 hA9
            obtain ⟨x0, x1, x2⟩ := tri_at (HR8.out.below hBj (Nat.le_refl _)) hjl2
            obtain ⟨y0, y1, y2⟩ := tri_at (HR9.out.below hBj (Nat.le_refl _)) hjl2
            have hltj : (j : Int) < (m : Int) := by omega
            have hm100 := HDl.out
            have hj7 : (0 : Int) ≤ (j : Int) := by omega
            obtain ⟨⟨q1, q2, q3⟩, eo⟩ : ∃ o, dl[j] = o := ⟨_, rfl⟩
            rw [eo] at x0 x1 x2 y0 y1 y2
            clear eo
            dsimp only at x0 x1 x2 y0 y1 y2
            have hne := level_ne q1 q2 q3
            go_wp2_with fail
            go_quiet (fail)
            go_wp2_with fail
            go_roundg (m - (j + 1))
            case measure => omega
            case rel => exact ⟨j + 1, by omega, rfl, by go_num, drewN_below hBj _⟩
          · obtain rfl : j = m := by omega
            have hltj : ¬ (j : Int) < (j : Int) := by omega
            go_wp2_with fail
            go_roundg (3 - (k + 1))
            case measure => omega
            case rel => exact ⟨k + 1, by omega, by omega, rfl, by go_num, HB9.out.trans (hBj.mono HB9.out.size)⟩
    · have hltz : ¬ (k : Int) ≤ 2 := by omega
      obtain ⟨c, hc, -⟩ := (HR.out.below hB).cell
      have HHM := hid (HM.out _ hB.drew)
      have d1 : ((L1.length : Int) + (L2.length : Int) == (L.length : Int)) = true := beqT (by have := HL.out; omega)
      go_wp2_with fail
      go_quiet ((go_at_call 51; refine Calls.quiet_of_same ((HM.out _ (by first | exact hB.drew | exact drewN_below hB _ | (trace_state; fail))).mono (fun _ _ ⟨h1, h2⟩ => ⟨h1, h2.symm⟩))))
      go_wp2
      go_ret
      exact ⟨rfl, drewN_below hB _⟩
end Go.Proofs.YtkcgchpbjegneaaGreatDoor
namespace Go.Proofs.YtkcgchpbjegneaaGreatDoor
open Go.RowKit
set_option linter.unusedVariables false

/-- both books, and a block x besides, all newer than w0 -/
structure Duo (w0 w : World) (b B : Nat) (G : Nat → Prop) (cs : Array Value) (A : Option Addr) (X : Nat) (tx : TypeId) (xs : Array Value) (L L1 L2 : List Ord5) : Prop where
  book : BookAt w b G L1 L2
  ref : RefB w B 81 cs 0 A L
  box : Blk w X tx xs
  bel : Below w0.heap.size w0 w
  gb : ∀ i, G i → w0.heap.size ≤ i
  bb : w0.heap.size ≤ B
  ab : ∀ g, blkOf A = some g → w0.heap.size ≤ g
  ap : ¬ G B
  aa : ∀ g, blkOf A = some g → ¬ G g
  xg : ¬ G X
  xb : X ≠ B
  xa : blkOf A ≠ some X
section
variable {w0 w w' : World} {b B X : Nat} {G : Nat → Prop} {cs xs : Array Value} {A : Option Addr} {tx : TypeId} {L L1 L2 : List Ord5}
theorem Duo.below (h : Duo w0 w b B G cs A X tx xs L L1 L2) (hb : Below w.heap.size w w') : Duo w0 w' b B G cs A X tx xs L L1 L2 :=
  ⟨h.book.below hb, h.ref.below hb, Blk.keep h.box hb, h.bel.trans (hb.mono h.bel.size), h.gb, h.bb, h.ab, h.ap, h.aa, h.xg, h.xb, h.xa⟩
theorem Duo.bookTo (h : Duo w0 w b B G cs A X tx xs L L1 L2) {M1 M2 : List Ord5} (ht : BookTo w w' b G M1 M2) : ∃ G', Duo w0 w' b B G' cs A X tx xs L M1 M2 := by
  obtain ⟨G', h1, hk, hg⟩ := ht
  have hs := h.bel.size
  have hB := h.ref.blt
  have hX := Blk.lt h.box
  refine ⟨G', h1, h.ref.keeps hk h.ap h.aa, Blk.keeps h.box hk h.xg, h.bel.trans (hk.below h.gb h.bel.size), fun i hi => ?_, h.bb, h.ab, fun e => ?_, fun g hA e => ?_, fun e => ?_, h.xb, h.xa⟩
  · rcases hg i hi with h2 | h2
    · exact h.gb i h2
    · omega
  · rcases hg B e with h2 | h2
    · exact h.ap h2
    · omega
  · have h3 := h.ref.lt g hA
    rcases hg g e with h2 | h2
    · exact h.aa g hA h2
    · omega
  · rcases hg X e with h2 | h2
    · exact h.xg h2
    · omega
theorem Duo.refTo (h : Duo w0 w b B G cs A X tx xs L L1 L2) {M : List Ord5} (ht : RefTo w w' B 81 cs 0 A M) : ∃ cs' A', Duo w0 w' b B G cs' A' X tx xs M L1 L2 := by
  obtain ⟨A', c', h1, hk, hg⟩ := ht
  have hs := h.bel.size
  have hX := Blk.lt h.box
  refine ⟨_, A', h.book.keeps hk (fun i hi e => h.ap (e ▸ hi)), h1, Blk.keeps h.box hk h.xb, h.bel.trans (hk.below (fun i e => e ▸ h.bb) h.bel.size), h.gb, h.bb, fun g hA => ?_, h.ap, fun g hA e => ?_, h.xg, h.xb, fun e => ?_⟩
  · rcases hg g hA with h2 | h2
    · exact h.ab g h2
    · omega
  · rcases hg g hA with h2 | h2
    · exact h.aa g h2 e
    · have := h.book.fp e; omega
  · rcases hg X e with h2 | h2
    · exact h.xa h2
    · omega

/-! ### calls -/
def baddL (s : Int) (L1 L2 L : List Ord5) (o : Ord5) : List Ord5 := if addE L1 L2 o = 0 then addL s L o else L
theorem duo_add (h : Duo w0 w b B G cs A X tx xs L L1 L2) {o : Ord5} (hf : FitO o) :
    Calls Tryz.prog 42 #[.pointer (some ⟨b, 0, none⟩), aggO o] w fun e w' => e = .returned (errV (addE L1 L2 o)) ∧ ∃ G', Duo w0 w' b B G' cs A X tx xs L (baddL 1 L1 L2 L1 o) (baddL 2 L1 L2 L2 o) := by
  refine (bookAdd_any w b G L1 L2 h.book o hf).mono ?_
  rintro e w' (⟨h1, rfl, hb⟩ | ⟨h1, rfl, ht⟩)
  · refine ⟨rfl, G, ?_⟩
    unfold baddL
    rw [if_neg h1, if_neg h1]
    exact h.below hb
  · refine ⟨by rw [h1], ?_⟩
    unfold baddL
    rw [if_pos h1, if_pos h1]
    exact h.bookTo ht
theorem duo_radd (h : Duo w0 w b B G cs A X tx xs L L1 L2) (hn : L.length ≤ 100000) (o : Ord5) :
    Calls Tryz.prog 43 #[.pointer (some ⟨B, 0, none⟩), aggO o] w fun e w' => e = .returned (.int .i64 (raddE L o)) ∧ ∃ cs' A', Duo w0 w' b B G cs' A' X tx xs (raddL L o) L1 L2 := by
  refine (radd_any w B _ cs 0 A L h.ref hn o).mono ?_
  rintro e w' ⟨rfl, ht⟩
  exact ⟨rfl, h.refTo ht⟩
def bcanE (L1 L2 : List Ord5) (id : Int) : Int := if (getI (L1 ++ L2) id).isSome = true then 0 else 7
def bcanO (L1 L2 : List Ord5) (id : Int) : Ord5 := (getI (L1 ++ L2) id).getD noO
theorem remI_none {L : List Ord5} {id : Int} (h : ∀ o ∈ L, o.id ≠ id) : remI L id = L := List.filter_eq_self.2 (fun o ho => by simpa using h o ho)
theorem duo_cancel (h : Duo w0 w b B G cs A X tx xs L L1 L2) (id : Int) :
    Calls Tryz.prog 101 #[.pointer (some ⟨b, 0, none⟩), .int .i64 id] w fun e w' => e = .returned (.tuple #[aggO (bcanO L1 L2 id), errV (bcanE L1 L2 id)]) ∧ ∃ G', Duo w0 w' b B G' cs A X tx xs L (remI L1 id) (remI L2 id) := by
  refine (bookCancel_any w b G L1 L2 h.book id).mono ?_
  rintro e w' (⟨h1, rfl, hb⟩ | ⟨o, h1, rfl, ht⟩)
  · have h2 := getI_no.1 h1
    rw [remI_none (fun o ho => h2 o (List.mem_append.2 (.inl ho))), remI_none (fun o ho => h2 o (List.mem_append.2 (.inr ho)))]
    refine ⟨?_, G, h.below hb⟩
    unfold bcanO bcanE
    rw [h1]
    rfl
  · refine ⟨?_, h.bookTo ht⟩
    unfold bcanO bcanE
    rw [h1]
    rfl
theorem duo_rcancel (h : Duo w0 w b B G cs A X tx xs L L1 L2) (hn : L.length ≤ 100000) (id : Int) :
    Calls Tryz.prog 74 #[.pointer (some ⟨B, 0, none⟩), .int .i64 id] w fun e w' => e = .returned (.tuple #[aggO (roO L id), .int .i64 (roE L id)]) ∧ ∃ cs' A', Duo w0 w' b B G cs' A' X tx xs (rcanL L id) L1 L2 := by
  refine (rcancel_any w B _ cs 0 A L h.ref hn id).mono ?_
  rintro e w' ⟨rfl, ht⟩
  exact ⟨rfl, h.refTo ht⟩
def bcutL (L1 L2 L : List Ord5) (id n : Int) : List Ord5 := match getI (L1 ++ L2) id with
  | none => L
  | some o => if 1 ≤ n ∧ n ≤ o.qty then cutS L o n else L
theorem duo_cut (h : Duo w0 w b B G cs A X tx xs L L1 L2) (id : Int) {n : Int} (hn : Fit64 n) :
    Calls Tryz.prog 47 #[.pointer (some ⟨b, 0, none⟩), .int .i64 id, .int .i64 n] w fun e w' => e = .returned (errV (cutE L1 L2 id n)) ∧ ∃ G', Duo w0 w' b B G' cs A X tx xs L (bcutL L1 L2 L1 id n) (bcutL L1 L2 L2 id n) := by
  refine (bookCut_any w b G L1 L2 h.book id n hn).mono ?_
  rintro e w' (⟨h1, rfl, hb⟩ | ⟨o, h1, h2, h3, rfl, ht⟩)
  · refine ⟨rfl, G, ?_⟩
    have e : ∀ K, bcutL L1 L2 K id n = K := fun K => by
      unfold bcutL
      unfold cutE at h1
      cases hg : getI (L1 ++ L2) id with
      | none => rfl
      | some o =>
        rw [hg] at h1
        dsimp only at h1 ⊢
        rw [if_neg]
        rintro ⟨h4, h5⟩
        exact h1 (if_neg (by omega))
    rw [e, e]
    exact h.below hb
  · have e : ∀ K, bcutL L1 L2 K id n = cutS K o n := fun K => by
      unfold bcutL
      rw [h1]
      exact if_pos ⟨h2, h3⟩
    rw [e, e]
    refine ⟨?_, h.bookTo ht⟩
    unfold cutE
    rw [h1]
    dsimp only
    rw [if_neg (by omega)]
theorem duo_rcut (h : Duo w0 w b B G cs A X tx xs L L1 L2) (hn : L.length ≤ 100000) (id q : Int) (hq : ∀ o ∈ L, -1000000000 ≤ o.qty ∧ o.qty ≤ 1000000000) :
    Calls Tryz.prog 45 #[.pointer (some ⟨B, 0, none⟩), .int .i64 id, .int .i64 q] w fun e w' => e = .returned (.int .i64 (rcutE L id q)) ∧ ∃ cs' A', Duo w0 w' b B G cs' A' X tx xs (rcutL L id q) L1 L2 := by
  refine (rcut_any w B _ cs 0 A L h.ref hn id q hq).mono ?_
  rintro e w' ⟨rfl, ht⟩
  exact ⟨rfl, h.refTo ht⟩
end

/-! ### what both tell is the same, and they stay twins -/
section
variable {L L1 L2 : List Ord5}
theorem twin_add (h : Twin L L1 L2) (hl : ListsOk L1 L2) {o : Ord5} (hf : FitO o) : addE L1 L2 o = raddE L o ∧ Twin (raddL L o) (baddL 1 L1 L2 L1 o) (baddL 2 L1 L2 L2 o) := by
  have e := h.addE hl o
  refine ⟨e, ?_⟩
  unfold baddL
  rw [e]
  by_cases hz : raddE L o = 0
  · rw [if_pos hz, if_pos hz]; exact h.add hf hz
  · rw [if_neg hz, if_neg hz]
    unfold raddL
    rw [if_neg hz]
    exact h
theorem twin_cancel (h : Twin L L1 L2) (hl : ListsOk L1 L2) (id : Int) : bcanE L1 L2 id = roE L id ∧ bcanO L1 L2 id = roO L id ∧ Twin (rcanL L id) (remI L1 id) (remI L2 id) := by
  unfold bcanE bcanO roE roO
  rw [h.get hl]
  refine ⟨rfl, rfl, ?_⟩
  cases hg : getI L id with
  | some o => exact h.cancel hg
  | none =>
    have h2 := getI_no.1 hg
    have e : rcanL L id = L := by
      unfold rcanL cutK
      rw [List.findIdx_eq_length.2 (fun x hx => by simpa using h2 x hx)]
      simp
    rw [e, remI_none (fun o ho => h2 o (h.mem.1 (List.mem_append.2 (.inl ho)))), remI_none (fun o ho => h2 o (h.mem.1 (List.mem_append.2 (.inr ho))))]
    exact h
theorem twin_cut (h : Twin L L1 L2) (hl : ListsOk L1 L2) (id n : Int) : cutE L1 L2 id n = rcutE L id n ∧ Twin (rcutL L id n) (bcutL L1 L2 L1 id n) (bcutL L1 L2 L2 id n) := by
  unfold cutE rcutE rcutL bcutL
  rw [h.get hl]
  cases hg : getI L id with
  | none => exact ⟨rfl, h⟩
  | some o =>
    dsimp only
    by_cases hc : 1 ≤ n ∧ n ≤ o.qty
    · rw [if_neg (by omega), if_pos hc, if_pos hc, if_pos hc, if_pos hc]
      refine ⟨rfl, ?_⟩
      have ho : o ∈ L ∧ o.id = id := by
        unfold getI at hg
        have h2 := List.find?_some hg
        simp at h2
        exact ⟨List.mem_of_find?_eq_some hg, h2⟩
      unfold cutS
      by_cases hq : n = o.qty
      · rw [if_pos hq, if_pos hq, if_pos hq, ho.2]
        exact h.cancel hg
      · rw [if_neg hq, if_neg hq, if_neg hq, ho.2]
        rcases idxI_cases L id with ⟨-, h2⟩ | ⟨k, hk, -, h3, h4, h5⟩
        · rw [h2] at hg; cases hg
        · have eo : L[k] = o := by
            rw [hg] at h5
            first
              | exact (Option.some.inj h5).symm
              | exact Option.some.inj h5
          have es : L.set (L.findIdx fun o => o.id == id) (cutO o n) = cutI L id n := by
            rw [h3]
            have := set_cutI h.ids hk n
            rw [eo, ho.2] at this
            exact this
          rw [es]
          refine h.map (fun x hx e => ?_)
          have ex : x = o := nodup_map_inj h.ids hx ho.1 (by rw [e, ho.2])
          subst ex
          have := (h.ok x hx).1.2.2.2
          omega
    · rw [if_pos (by omega), if_neg hc, if_neg hc, if_neg hc, if_neg hc]
      exact ⟨rfl, h⟩
end
end Go.Proofs.YtkcgchpbjegneaaGreatDoor
namespace Go.Proofs.YtkcgchpbjegneaaGreatDoor
open Go.RowKit
set_option linter.unusedVariables false

theorem rsideL_perm (s : Int) (L : List Ord5) : (rsideL s L).Perm (onSide s L) := stabL_perm _
theorem Twin.lists {L L1 L2 : List Ord5} (h : Twin L L1 L2) (hn : L.length ≤ 100) : ListsOk L1 L2 := by
  have hside : ∀ s, ((rsideL s L).map (·.id)).Nodup := fun s => by
    refine ((rsideL_perm s L).map (·.id)).nodup_iff.2 ?_
    exact List.Nodup.sublist ((List.filter_sublist).map _) h.ids
  have h1 : ∀ o ∈ L1, o ∈ L ∧ o.side = 1 := fun o ho => rsideL_mem.1 (h.s1 ▸ ho)
  have h2 : ∀ o ∈ L2, o ∈ L ∧ o.side = 2 := fun o ho => rsideL_mem.1 (h.s2 ▸ ho)
  refine ⟨?_, ?_, fun o ho => (h.ok o (h.mem.1 ho)).1, fun o ho => (h1 o ho).2, fun o ho => (h2 o ho).2⟩
  · rw [List.map_append, List.nodup_append]
    refine ⟨h.s1 ▸ hside 1, h.s2 ▸ hside 2, fun a ha b hb e => ?_⟩
    obtain ⟨x, hx, rfl⟩ := List.mem_map.1 ha
    obtain ⟨y, hy, rfl⟩ := List.mem_map.1 hb
    have e2 : x = y := nodup_map_inj h.ids (h1 x hx).1 (h2 y hy).1 e
    have e3 := (h1 x hx).2
    have e4 := (h2 y hy).2
    rw [e2] at e3
    omega
  · rw [List.length_append, h.len]
    exact hn
theorem Twin.want {L L1 L2 : List Ord5} (h : Twin L L1 L2) {s : Int} (hs : Is12 s) (p : Int) : wantL s p (onSide s L) = wantL s p (sideL s L1 L2) := by
  rw [h.side hs]
  exact sumF_perm (rsideL_perm s L).symm
/-- one that lies is cut: both stay twins -/
theorem Twin.cutS_ {L L1 L2 : List Ord5} (h : Twin L L1 L2) (hl : ListsOk L1 L2) {x : Ord5} {n : Int} (hg : getI (L1 ++ L2) x.id = some x) (h1 : 1 ≤ n) (h2 : n ≤ x.qty) : rcutE L x.id n = 0 ∧ Twin (rcutL L x.id n) (cutS L1 x n) (cutS L2 x n) := by
  obtain ⟨a, b⟩ := twin_cut h hl x.id n
  have e : ∀ K, bcutL L1 L2 K x.id n = cutS K x n := fun K => by
    unfold bcutL
    rw [hg]
    exact if_pos ⟨h1, h2⟩
  rw [e, e] at b
  refine ⟨?_, b⟩
  rw [← a]
  unfold cutE
  rw [hg]
  exact if_neg (by omega)
theorem rcutL_len (L : List Ord5) (id n : Int) : (rcutL L id n).length ≤ L.length := by
  unfold rcutL
  split
  · exact Nat.le_refl _
  · split
    · split
      · unfold cutK
        rw [List.length_append, List.length_take, List.length_drop]
        omega
      · rw [List.length_set]; exact Nat.le_refl _
    · exact Nat.le_refl _
end Go.Proofs.YtkcgchpbjegneaaGreatDoor
namespace Go.Proofs.YtkcgchpbjegneaaGreatDoor
open Go.RowKit
set_option linter.unusedVariables false

theorem bk_book (b : Nat) : BkSays (fun L1 L2 G w => BookAt w b G L1 L2) 47 (.pointer (some ⟨b, 0, none⟩)) .nilIface where
  keep := fun h hk hF => h.keeps hk hF
  lt := fun h i hi => h.fp hi
  ok := fun h => h.lists
  cut := by
    intro L1 L2 F w x n h hx h1 h2
    have hok : OkO x := h.lists.ok x (by
      unfold getI at hx
      exact List.mem_of_find?_eq_some hx)
    have hxq := hok.2.2.2.2
    refine (bookCut_any w b F L1 L2 h x.id n (by unfold Fit64; omega)).mono ?_
    rintro e w' (⟨h3, rfl, hb⟩ | ⟨o, h3, h4, h5, rfl, ht⟩)
    · exfalso
      apply h3
      unfold cutE
      rw [hx]
      exact if_neg (by omega)
    · rw [hx] at h3
      cases h3
      exact ⟨rfl, ht⟩
/-- the document's book, with all that it owns -/
def RBk (B : Nat) (L1 L2 : List Ord5) (G : Nat → Prop) (w : World) : Prop := ∃ cs A L, RefB w B 81 cs 0 A L ∧ Twin L L1 L2 ∧ L.length ≤ 100 ∧ ∀ i, G i ↔ (i = B ∨ blkOf A = some i)
theorem twin_qty {L L1 L2 : List Ord5} (h : Twin L L1 L2) : ∀ o ∈ L, -1000000000 ≤ o.qty ∧ o.qty ≤ 1000000000 := fun o ho => by have := (h.ok o ho).1.2.2.2; omega
theorem twin_price {L L1 L2 : List Ord5} (h : Twin L L1 L2) (sd : Int) : ∀ o ∈ onSide sd L, -1000000000 ≤ o.price ∧ o.price ≤ 1000000000 := fun o ho => by
  have := (h.ok o (List.mem_filter.1 ho).1).1.2.2.1
  omega
theorem bk_ref (B : Nat) : BkSays (RBk B) 45 (.pointer (some ⟨B, 0, none⟩)) (.int .i64 0) where
  keep := by
    rintro L1 L2 F w w' S ⟨cs, A, L, h, ht, hn, hF⟩ hk hS
    exact ⟨cs, A, L, h.keeps hk (hS B ((hF B).2 (.inl rfl))) (fun g hg => hS g ((hF g).2 (.inr hg))), ht, hn, hF⟩
  lt := by
    rintro L1 L2 F w ⟨cs, A, L, h, ht, hn, hF⟩ i hi
    rcases (hF i).1 hi with rfl | h1
    · exact h.blt
    · exact h.lt i h1
  ok := by
    rintro L1 L2 F w ⟨cs, A, L, h, ht, hn, hF⟩
    exact ht.lists hn
  cut := by
    rintro L1 L2 F w x n ⟨cs, A, L, h, ht, hn, hF⟩ hx h1 h2
    obtain ⟨e0, ht2⟩ := ht.cutS_ (ht.lists hn) hx h1 h2
    refine (rcut_any w B _ cs 0 A L h (by omega) x.id n (twin_qty ht)).mono ?_
    rintro e w' ⟨rfl, A', c', hr, hk, hg⟩
    rw [e0]
    refine ⟨rfl, fun i => i = B ∨ blkOf A' = some i, ⟨_, A', _, hr, ht2, Nat.le_trans (rcutL_len L x.id n) hn, fun i => Iff.rfl⟩, hk.mono (fun i hi => (hF i).2 (.inl hi)), fun i hi => ?_⟩
    rcases hi with h3 | h3
    · exact .inl ((hF i).2 (.inl h3))
    · rcases hg i h3 with h4 | h4
      · exact .inl ((hF i).2 (.inr h4))
      · exact .inr h4
theorem side_ref {B : Nat} {L1 L2 : List Ord5} {G : Nat → Prop} {w : World} (h : RBk B L1 L2 G w) (sd : Int) (hs : Is12 sd) :
    Calls Tryz.prog 40 #[.pointer (some ⟨B, 0, none⟩), .int .i64 sd] w fun e w' => Below w.heap.size w w' ∧ ∃ A c, e = .returned (.slice A (sideL sd L1 L2).length c) ∧ RowAt w' A (sideL sd L1 L2).length c 24 5 (flat encO (sideL sd L1 L2)) ∧ ∀ g, blkOf A = some g → w.heap.size ≤ g := by
  obtain ⟨cs, A, L, h, ht, hn, hF⟩ := h
  rw [ht.side hs]
  exact rside_ref h (by omega) sd (twin_price ht sd)
section
variable {σ : Type} {al : σ → Int → Bool} {tr : σ → Int → σ}
theorem meet_len : ∀ (l : List Ord5) (o : Ord5) (s : σ), (meetP al tr l o s).fills.length ≤ l.length := by
  intro l
  induction l with
  | nil => intro o s; exact Nat.le_refl _
  | cons x t ih =>
    intro o s
    unfold meetP
    split
    · exact Nat.zero_le _
    · split
      · exact Nat.le_succ_of_le (ih _ _)
      · split
        · exact Nat.zero_le _
        · split
          · exact Nat.zero_le _
          · exact Nat.succ_le_succ (ih _ _)
end
theorem meet_told {al : List Int → Int → Bool} : ∀ (l : List Ord5) (o : Ord5) (s : List Int), (meetP al (fun s p => s ++ [p]) l o s).st.length ≤ s.length + l.length := by
  intro l
  induction l with
  | nil => intro o s; exact Nat.le_refl _
  | cons x t ih =>
    intro o s
    unfold meetP
    split
    · exact Nat.le_add_right _ _
    · split
      · have := ih o s
        rw [List.length_cons]
        dsimp only
        omega
      · split
        · exact Nat.le_add_right _ _
        · split
          · exact Nat.le_add_right _ _
          · have := ih (cutO o (min o.qty x.qty)) (s ++ [x.price])
            rw [List.length_append, List.length_singleton] at this
            rw [List.length_cons]
            dsimp only
            omega
end Go.Proofs.YtkcgchpbjegneaaGreatDoor
