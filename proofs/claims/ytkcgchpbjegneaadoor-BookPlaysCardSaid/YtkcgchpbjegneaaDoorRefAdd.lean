/-
  The walk of openbellref.Book.Add. Printed by gen_refadd.py.
-/
import Derived.WalkKit
import Derived.WalkLawsBesides
import Derived.WalkSpells
import Derived.Deep.DeepCutAuto
import Derived.Deep.CutBlock
import Derived.BigRegion
import Derived.Test.YtkcgchpbjegneaaDoorRefBook
namespace Go.Proofs.YtkcgchpbjegneaaDoor
open Go.RowKit
set_option linter.unusedVariables false
set_option linter.unusedSimpArgs false

set_option maxHeartbeats 400000 in
theorem rin_any (x lo hi : Int) (w : World) : Calls Tryd.prog 25 #[.int .i64 x, .int .i64 lo, .int .i64 hi] w fun e w' => e = .returned (.bool (decide (lo ≤ x) && decide (x ≤ hi))) ∧ w = w' := by
  by_cases h1 : lo ≤ x
  · have d1 := decT h1
    go_enter Tryd.func25, Tryd.ntmps25
    go_wp2
    go_ret
    exact ⟨by simp [d1], rfl⟩
  · have d1 := decF h1
    go_enter Tryd.func25, Tryd.ntmps25
    go_wp2
    go_ret
    exact ⟨by simp [d1], rfl⟩
set_option maxHeartbeats 400000 in
theorem rright_any (p q : Int) (w : World) : Calls Tryd.prog 26 #[.int .i64 p, .int .i64 q] w fun e w' => e = .returned (.bool (rightB p q)) ∧ w = w' := by
  have HE := hid (show rightB p q = ((decide (1 ≤ p) && decide (p ≤ 1000000)) && (decide (1 ≤ q) && decide (q ≤ 1000000))) from rfl)
  cases h1 : (decide (1 ≤ p) && decide (p ≤ 1000000)) with
  | true =>
    have H1 := hid h1
    clear h1
    go_enter Tryd.func26, Tryd.ntmps26
    go_wp2_with fail
    refine (rin_any _ _ _ _).mono ?_
    rintro e w' ⟨rfl, rfl⟩
    rw [H1.out]
    go_wp2_with fail
    refine (rin_any _ _ _ _).mono ?_
    rintro e w' ⟨rfl, rfl⟩
    go_wp2
    go_ret
    exact ⟨ret_bool (by rw [HE.out, H1.out]; rfl), rfl⟩
  | false =>
    have H1 := hid h1
    clear h1
    go_enter Tryd.func26, Tryd.ntmps26
    go_wp2_with fail
    refine (rin_any _ _ _ _).mono ?_
    rintro e w' ⟨rfl, rfl⟩
    rw [H1.out]
    go_wp2
    go_ret
    exact ⟨ret_bool (by rw [HE.out, H1.out]; rfl), rfl⟩
def raddE (L : List Ord5) (o : Ord5) : Int := if argB o = false then 1 else if rngB o = false then 2 else if (getI L o.id).isSome = true then 9 else if 100 ≤ L.length then 12 else 0
def raddL (L : List Ord5) (o : Ord5) : List Ord5 := if raddE L o = 0 then L ++ [pricedO o] else L
theorem rord_info : (Tryd.prog.info? 30).map (fun i => (i.zero, i.size, i.bytes)) = some (some (.agg #[.int .i64 0, .int .i64 0, .int .i64 0, .int .i64 0, .int .i64 0]), 5, 40) := by kernel_rfl
theorem keeps_grown {w w1 : World} {row : Option Nat} (h : w.grownBy w1 row) : Keeps (fun i => row = some i) w w1 := ⟨h.os, h.tape, h.output, h.size, fun i hi hn => h.block i hi (fun e => hn e.symm)⟩
/-- a row that is new is filled: nothing that was there turns -/
theorem grown_below {B : Nat} {w w1 w2 : World} {A : Option Addr} (h : Below B w w1) (hg : w1.grownBy w2 (blkOf A)) (hA : ∀ g, blkOf A = some g → B ≤ g) (hB : B ≤ w1.heap.size) : Below B w w2 := h.trans ((keeps_grown hg).below (fun i e => hA i e) hB)
theorem new_or {A1 A2 : Option Addr} {S B : Nat} (ha : ∀ g, blkOf A2 = some g → blkOf A1 = some g ∨ g = S) (h1 : ∀ g, blkOf A1 = some g → B ≤ g) (h2 : B ≤ S) : ∀ g, blkOf A2 = some g → B ≤ g := fun g hg => by
  rcases ha g hg with e | e
  · exact h1 g e
  · rw [e]; exact h2
theorem new_one {g0 B : Nat} (h : B ≤ g0) : ∀ g, blkOf (some ⟨g0, 0, none⟩) = some g → B ≤ g := fun g hg => by
  have h2 : some g0 = some g := hg
  have := Option.some.inj h2
  omega
theorem ord_elems {w : World} {g : Nat} {t : TypeId} {p : Ord5} (h : w.heap[g]? = some (.cells (boxO p) t (0, 0))) (hlt : g < w.heap.size) : ElemsAt w encO 5 (some ⟨g, 0, none⟩) 1 [p] := by
  refine ⟨rfl, fun _ => ⟨g, 0, rfl, hlt, fun i hi j u hu => ?_⟩⟩
  have hi0 : i = 0 := by simp at hi; omega
  subst hi0
  have hb : Blk w g t (boxO p) := h
  have hc := Blk.cell hb j
  simp only [Nat.zero_mul, Nat.zero_add]
  rw [hc]
  have hu2 : (encO p)[j]? = some u := hu
  rw [← hu2, ← Array.getElem?_toList]
  rfl

set_option maxRecDepth 100000 in
set_option maxHeartbeats 8000000 in
theorem radd_any (w : World) (B : Nat) (t : TypeId) (cs : Array Value) (o0 : Nat) (A : Option Addr) (L : List Ord5) (h : RefB w B t cs o0 A L) (hn : L.length ≤ 100000) (o : Ord5) :
    Calls Tryd.prog 7 #[.pointer (some ⟨B, o0, none⟩), aggO o] w fun e w' => e = .returned (.int .i64 (raddE L o)) ∧ RefTo w w' B t cs o0 A (raddL L o) := by
  have hb1 : Below w.heap.size w (w.alloc (.cells (boxO o) 30)) := (Below.refl _ _).alloc (Nat.le_refl _) _
  have HX := hid (Blk.new w 30 (boxO o))
  have HR := hid h
  have HB := hid hb1
  have hBl := h.blt
  have hn1 : L.length ≤ 100000 := hn
  unfold aggO
  obtain ⟨i0, hi0, hz0, hz1, hz2⟩ := info_parts rord_info
  obtain ⟨x0, x1, x2, x3, x4⟩ := ord_box HX.out
  have f3 := Blk.frozen HX.out 3
  clear h hb1 hn
  by_cases hs : ¬ (1 ≤ o.side ∧ o.side ≤ 2)
  · have HS := hid (show (decide (1 ≤ o.side) && decide (o.side ≤ 2)) = false by simp; omega)
    have HE := hid (show raddE L o = 1 by unfold raddE; rw [if_pos (by unfold argB; simp; omega)])
    clear hs
    go_enter Tryd.func7, Tryd.ntmps7
    go_wp2_with fail
    refine (rin_any _ _ _ _).mono ?_
    rintro e w' ⟨rfl, rfl⟩
    rw [HS.out]
    go_wp2_with fail
    go_ret
    exact ⟨ret_int (by rw [HE.out]), by unfold raddL; rw [HE.out, if_neg (by decide)]; exact RefTo.same HR.out HB.out⟩
  have hs1 : 1 ≤ o.side ∧ o.side ≤ 2 := by omega
  have HS := hid (show (decide (1 ≤ o.side) && decide (o.side ≤ 2)) = true by simp; omega)
  by_cases hd : o.id < 1
  · have d1 := decT hd
    have HE := hid (show raddE L o = 1 by unfold raddE; rw [if_pos (by unfold argB; simp; omega)])
    clear hd hs hs1
    go_enter Tryd.func7, Tryd.ntmps7
    go_wp2_with fail
    refine (rin_any _ _ _ _).mono ?_
    rintro e w' ⟨rfl, rfl⟩
    rw [HS.out]
    go_wp2_with fail
    go_ret
    exact ⟨ret_int (by rw [HE.out]), by unfold raddL; rw [HE.out, if_neg (by decide)]; exact RefTo.same HR.out HB.out⟩
  have d1 := decF hd
  have HArg := hid (show argB o = true by unfold argB; simp; omega)
  clear hd hs hs1
  go_enter Tryd.func7, Tryd.ntmps7
  go_wp2_with fail
  refine (rin_any _ _ _ _).mono ?_
  rintro e w' ⟨rfl, rfl⟩
  rw [HS.out]
  go_upto_if 16 with fail
  go_cut [17] (fun s17 wx => Blk wx w.heap.size 30 (boxO (pricedO o)) ∧ Below w.heap.size w wx)
  case first =>
    by_cases hk2 : o.kind = 2
    · have d2 := beqT hk2
      have HE := hid (show pricedO o = ⟨o.id, o.side, o.kind, 1, o.qty⟩ by unfold pricedO; rw [if_pos hk2])
      clear hk2
      go_wp2_with fail
      go_meet
      exact ⟨by rw [HE.out]; exact Blk.new w _ _, (Below.refl _ _).alloc (Nat.le_refl _) _⟩
    · have d2 := beqF hk2
      have HE := hid (show pricedO o = o by unfold pricedO; rw [if_neg hk2])
      clear hk2
      go_wp2_with fail
      go_meet
      exact ⟨by rw [HE.out]; exact HX.out, HB.out⟩
  case rest =>
    obtain ⟨hX, hB⟩ := hcut
    obtain ⟨w1, rfl⟩ : ∃ w1 : World, w1 = wc := ⟨_, rfl⟩
    clear x0 x1 x2 x3 x4 f3
    obtain ⟨x0, x1, x2, x3, x4⟩ := ord_box hX
    have HX := hid hX
    have HB := hid hB
    have HPq := hid (show (pricedO o).qty = o.qty from rfl)
    have HPi := hid (show (pricedO o).id = o.id from rfl)
    clear hX hB
    obtain ⟨p, EP⟩ : ∃ p, Hid (pricedO o = p) := ⟨_, hid rfl⟩
    rw [EP.out] at x0 x1 x2 x3 x4 HX HPq HPi
    have HRt := hid (show ∀ W, Calls Tryd.prog 26 #[.int .i64 p.price, .int .i64 p.qty] W fun e w' => e = .returned (.bool (rngB o)) ∧ W = w' from fun W => (rright_any p.price p.qty W).mono fun e w' ⟨h1, h2⟩ => ⟨by rw [h1]; unfold rngB; rw [EP.out, HPq.out], h2⟩)
    cases hr : rngB o with
    | false =>
      have HE := hid (show raddE L o = 2 by unfold raddE; rw [HArg.out, if_neg (by decide), if_pos hr])
      have HRg := hid hr
      clear hr
      go_wp2_with fail
      refine (HRt.out _).mono ?_
      rintro e w' ⟨rfl, rfl⟩
      rw [HRg.out]
      go_wp2_with fail
      go_ret
      exact ⟨ret_int (by rw [HE.out]), by unfold raddL; rw [HE.out, if_neg (by decide)]; exact RefTo.same HR.out HB.out⟩
    | true =>
      have HRg := hid hr
      have HIx := hid (index_any w1 B t cs o0 A L (HR.out.below HB.out) hn1 p.id)
      clear hr
      go_wp2_with fail
      refine (HRt.out _).mono ?_
      rintro e w' ⟨rfl, rfl⟩
      rw [HRg.out]
      go_wp2_with fail
      refine HIx.out.mono ?_
      rintro e w2 ⟨rfl, hb2⟩
      have HB2 := hid (HB.out.trans (hb2.mono HB.out.size))
      have HX2 := hid (Blk.keep HX.out hb2)
      clear x0 x1 x2 x3 x4 hb2 HIx HX
      rcases idxI_cases L p.id with ⟨hi, hg⟩ | ⟨k, hk, hi, -, hid_, hg⟩
      · have HG := hid (show (getI L o.id).isSome = false by rw [← HPi.out, hg]; rfl)
        rw [hi]
        have d2 : ¬ (0 : Int) ≤ -1 := by omega
        clear hi hg
        have hR2 := HR.out.below HB2.out
        obtain ⟨c, y0, -⟩ := hR2.cell
        obtain ⟨n, hn⟩ : ∃ n, L.length = n := ⟨_, rfl⟩
        rw [hn] at y0 hn1
        have HN := hid hn
        have HR2 := hid hR2
        clear hn hR2
        by_cases hf : 100 ≤ n
        · have d4 : (100 : Int) ≤ (n : Int) := by omega
          have HE := hid (show raddE L o = 12 by unfold raddE; rw [HArg.out, if_neg (by decide), HRg.out, if_neg (by decide), HG.out, if_neg (by decide), if_pos (by rw [HN.out]; exact hf)])
          clear hf
          go_wp2_with fail
          go_ret
          exact ⟨ret_int (by rw [HE.out]), by unfold raddL; rw [HE.out, if_neg (by decide)]; exact RefTo.same HR.out HB2.out⟩
        · have d4 : ¬ (100 : Int) ≤ (n : Int) := by omega
          have HE := hid (show raddE L o = 0 by unfold raddE; rw [HArg.out, if_neg (by decide), HRg.out, if_neg (by decide), HG.out, if_neg (by decide), if_neg (by rw [HN.out]; exact hf)])
          have HRL := hid (show raddL L o = L ++ [p] by unfold raddL; rw [HE.out, if_pos rfl, EP.out])
          have hEl := HR2.out.els
          rw [HN.out] at hEl
          have HEl := hid hEl
          have hnb : n ≤ 1000 := by omega
          clear hf hEl
          obtain ⟨x0, x1, x2, x3, x4⟩ := ord_box HX2.out
          have HS0 := hid (show ∀ W, Below w2.heap.size w2 W → (W.cell? ⟨w.heap.size, 0, none⟩ = some (.int .i64 p.id) ∧ W.cell? ⟨w.heap.size, 1, none⟩ = some (.int .i64 p.side) ∧ W.cell? ⟨w.heap.size, 2, none⟩ = some (.int .i64 p.kind) ∧ W.cell? ⟨w.heap.size, 3, none⟩ = some (.int .i64 p.price) ∧ W.cell? ⟨w.heap.size, 4, none⟩ = some (.int .i64 p.qty)) ∧ W.cell? ⟨B, o0, none⟩ = some (.slice A n c) from fun W hb => by
            obtain ⟨q0, q1, q2, q3, q4⟩ := ord_box (Blk.keep HX2.out hb)
            exact ⟨⟨q0, q1, q2, q3, q4⟩, (hb.cell (World.block_lt_of_cell? w2 _ y0)).trans y0⟩)
          have HFin := hid (show ∀ W A' c', Below w2.heap.size w2 W → RowAt W A' (n + 1) c' 30 5 (flat encO L ++ encO p) → (∀ g, blkOf A' = some g → w2.heap.size ≤ g) → RefTo w (W.setCell ⟨B, o0, none⟩ (.slice A' (n + 1) c')) B t cs o0 A (raddL L o) from fun W A' c' hb hr hg => by
            rw [HRL.out]
            exact HR.out.put (HB2.out.trans (hb.mono HB2.out.size)) (t' := 30) (by rw [flat_snoc]; exact hr) (fun g h => Nat.le_trans HB2.out.size (hg g h)))
          have HFz := hid (show ∀ W, Below w2.heap.size w2 W → W.frozen? ⟨B, o0, none⟩ = false from fun W hb => Blk.frozen (Blk.keep HR2.out.blk hb) o0)
          go_upto_region 11 with fail
          refine wp_region_heldT_drew 12 (fun W => (W.cell? ⟨w.heap.size, 0, none⟩ = some (.int .i64 p.id) ∧ W.cell? ⟨w.heap.size, 1, none⟩ = some (.int .i64 p.side) ∧ W.cell? ⟨w.heap.size, 2, none⟩ = some (.int .i64 p.kind) ∧ W.cell? ⟨w.heap.size, 3, none⟩ = some (.int .i64 p.price) ∧ W.cell? ⟨w.heap.size, 4, none⟩ = some (.int .i64 p.qty)) ∧ W.cell? ⟨B, o0, none⟩ = some (.slice A n c)) (by kernel_rfl) ⟨⟨x0, x1, x2, x3, x4⟩, y0⟩ (fun hS => ?_)
          refine takeT 0 35 (.pointer (some ⟨B, o0, none⟩)) rfl rfl rfl (by kernel_rfl) (by kernel_rfl) (by kernel_rfl) (by kernel_rfl) (fun _ _ _ h => h) (by rfl) ?_ (by assumption) ?_
          · intro W hSw; go_simp
          simp only [Act.put, List.setIfInBounds_toArray, List.set_cons_zero, List.set_cons_succ]
          refine takeT 2 37 (.pointer (some ⟨B, o0, none⟩)) rfl rfl rfl (by kernel_rfl) (by kernel_rfl) (by kernel_rfl) (by kernel_rfl) (fun _ _ _ h => h) (by rfl) ?_ (by assumption) ?_
          · intro W hSw; go_simp
          simp only [Act.put, List.setIfInBounds_toArray, List.set_cons_zero, List.set_cons_succ]
          refine takeT 3 38 (.pointer (some ⟨B, o0, none⟩)) rfl rfl rfl (by kernel_rfl) (by kernel_rfl) (by kernel_rfl) (by kernel_rfl) (fun _ _ _ h => h) (by rfl) ?_ (by assumption) ?_
          · intro W hSw; go_simp
          simp only [Act.put, List.setIfInBounds_toArray, List.set_cons_zero, List.set_cons_succ]
          refine takeT 4 39 (.pointer (some ⟨B, o0, none⟩)) rfl rfl rfl (by kernel_rfl) (by kernel_rfl) (by kernel_rfl) (by kernel_rfl) (fun _ _ _ h => h) (by rfl) ?_ (by assumption) ?_
          · intro W hSw; go_simp
          simp only [Act.put, List.setIfInBounds_toArray, List.set_cons_zero, List.set_cons_succ]
          refine takeT 5 40 (.slice A n c) rfl rfl rfl (by kernel_rfl) (by kernel_rfl) (by kernel_rfl) (by kernel_rfl) (fun _ _ _ h => h) (by rfl) ?_ (by assumption) ?_
          · intro W hSw; go_simp
          simp only [Act.put, List.setIfInBounds_toArray, List.set_cons_zero, List.set_cons_succ]
          refine takeT 7 42 (.agg #[.int .i64 p.id, .int .i64 p.side, .int .i64 p.kind, .int .i64 p.price, .int .i64 p.qty]) rfl rfl rfl (by kernel_rfl) (by kernel_rfl) (by kernel_rfl) (by kernel_rfl) (fun _ _ _ h => h) (by rfl) ?_ (by assumption) ?_
          · intro W hSw; go_simp
          simp only [Act.put, List.setIfInBounds_toArray, List.set_cons_zero, List.set_cons_succ]
          clear x0 x1 x2 x3 x4 y0 hS
          have HWb := hid (show Below w2.heap.size w2 w2 from Below.refl _ _)
          have HWc := hid (Nat.le_refl w2.heap.size)
          refine wpAnyT_two 1 8 (by kernel_rfl) rfl rfl (fun K1 hK1 => ?_) (fun K1 hK1 => ?_)
          · go_simp
            obtain ⟨v1, ev1⟩ : ∃ W, (w2.alloc (.cells #[] 30)).drew = W := ⟨_, rfl⟩
            have hal : Below w2.heap.size w2 v1 := by rw [← ev1]; exact Below.drew ((Below.refl _ _).alloc (Nat.le_refl _) _)
            have HEr := hid (show RowAt v1 (some ⟨w2.heap.size, 0, none⟩) 0 0 30 5 [] by rw [← ev1]; exact RowAt.made _ _ _)
            have HWb := hid (HWb.out.trans (hal.mono HWb.out.size))
            obtain ⟨ge, ege⟩ : ∃ g, w2.heap.size = g := ⟨_, rfl⟩
            have hge : w2.heap.size ≤ ge := by rw [← ege]; have := HWc.out; exact this
            rw [ev1, ege]
            rw [ege] at HEr
            clear ev1 ege hal
            have HWc := hid HWb.out.size
            refine hK1 _ _ (HS0.out _ HWb.out) (fun hS => ?_)
            clear hK1 hS
            refine wpAnyT_two 6 8 (by kernel_rfl) rfl rfl (fun K1 hK1 => ?_) (fun K1 hK1 => ?_)
            · refine step_append_any encO_length encO_one (by rfl) _ _ _ (by rfl) 30 i0 _ 40 Tryd.underlying26 hi0 hz0 hz1 hz2 rfl (by omega) (some ⟨ge, 0, none⟩) 0 0 [] (by rfl) HEr.out (A) n c L (by rfl) (HEl.out.below HWb.out (Nat.le_refl _)) (by unfold maxLen; omega) (by omega) ?_
              intro A1 c1 v2 hr1 hg1 ha1
              rw [Nat.zero_add, List.nil_append] at hr1
              rw [Nat.zero_add]
              have hk1 := keeps_grown hg1
              have HCr := hid hr1
              have HCa := hid (new_or ha1 (new_one hge) HWc.out)
              have HWb := hid (grown_below HWb.out hg1 (new_one hge) HWc.out)
              have HWc := hid HWb.out.size
              clear hr1 hg1 ha1 hk1
              refine hK1 _ _ (HS0.out _ HWb.out) (fun hS => ?_)
              clear hK1 hS
              simp only [Act.put, List.setIfInBounds_toArray, List.set_cons_zero, List.set_cons_succ]
              refine wpAnyT_one 8 (by kernel_rfl) rfl (fun K1 hK1 => ?_)
              go_simp
              obtain ⟨v3, ev3⟩ : ∃ W, (v2.alloc (.cells #[.int .i64 p.id, .int .i64 p.side, .int .i64 p.kind, .int .i64 p.price, .int .i64 p.qty] 30)) = W := ⟨_, rfl⟩
              have hal : Below v2.heap.size v2 v3 := by rw [← ev3]; exact (Below.refl _ _).alloc (Nat.le_refl _) _
              have HCr := hid (HCr.out.below hal)
              have HBe := hid (show ElemsAt v3 encO 5 (some ⟨v2.heap.size, 0, none⟩) 1 [p] by rw [← ev3]; exact ord_elems (t := 30) (heap_alloc_new v2 _) (by simp))
              have HWb := hid (HWb.out.trans (hal.mono HWb.out.size))
              obtain ⟨gb, egb⟩ : ∃ g, v2.heap.size = g := ⟨_, rfl⟩
              rw [ev3, egb]
              rw [egb] at HBe
              clear ev3 egb hal
              have HWc := hid HWb.out.size
              refine hK1 _ _ (HS0.out _ HWb.out) (fun hS => ?_)
              clear hK1 hS
              refine wpAnyT_one 9 (by kernel_rfl) rfl (fun K1 hK1 => ?_)
              refine step_append_any encO_length encO_one (by rfl) _ _ _ (by rfl) 30 i0 _ 40 Tryd.underlying26 hi0 hz0 hz1 hz2 rfl (by omega) (A1) n c1 (flat encO L) (by rfl) HCr.out (some ⟨gb, 0, none⟩) 1 1 [p] (by rfl) HBe.out (by unfold maxLen; omega) (by omega) ?_
              intro A2 c2 v4 hr2 hg2 ha2
              have HC2 := hid hr2
              have HCb := hid (new_or ha2 HCa.out HWc.out)
              have HWb := hid (grown_below HWb.out hg2 HCa.out HWc.out)
              clear hr2 hg2 ha2
              refine hK1 _ _ (HS0.out _ HWb.out) (fun hS => ?_)
              clear hK1 hS
              simp only [Act.put, List.setIfInBounds_toArray, List.set_cons_zero, List.set_cons_succ]
              refine wpAnyT_one 10 (by kernel_rfl) rfl (fun K1 hK1 => ?_)
              go_simp
              refine hK1 _ _ (HS0.out _ HWb.out) (fun hS => ?_)
              clear hK1 hS
              refine wpAnyT_one 11 (by kernel_rfl) rfl (fun K1 hK1 => ?_)
              go_simp
              refine hK1 _ _ (HS0.out _ HWb.out) (fun hS => ?_)
              clear hK1 hS
              have hfz := HFz.out _ HWb.out
              obtain ⟨-, hcz⟩ := HS0.out _ HWb.out
              refine wpAnyT_last (by kernel_rfl) rfl (fun K1 hK1 => ?_)
              go_simp
              refine hK1 _ _ (wpAnyT_done (by kernel_rfl) ?_ _)
              clear hK1 hfz hcz
              go_wp2_with fail
              go_ret
              exact ⟨ret_int (by rw [HE.out]), HFin.out _ _ _ HWb.out HC2.out HCb.out⟩
            · go_simp
              obtain ⟨v2, ev2⟩ : ∃ W, (v1.alloc (.cells #[.int .i64 p.id, .int .i64 p.side, .int .i64 p.kind, .int .i64 p.price, .int .i64 p.qty] 30)) = W := ⟨_, rfl⟩
              have hal : Below v1.heap.size v1 v2 := by rw [← ev2]; exact (Below.refl _ _).alloc (Nat.le_refl _) _
              have hlte : ge < v1.heap.size := HEr.out.lt rfl
              have HEr := hid (HEr.out.below hal)
              have HBe := hid (show ElemsAt v2 encO 5 (some ⟨v1.heap.size, 0, none⟩) 1 [p] by rw [← ev2]; exact ord_elems (t := 30) (heap_alloc_new v1 _) (by simp))
              have HWb := hid (HWb.out.trans (hal.mono HWb.out.size))
              obtain ⟨gb, egb⟩ : ∃ g, v1.heap.size = g := ⟨_, rfl⟩
              have hneb : ge ≠ gb := by omega
              rw [ev2, egb]
              rw [egb] at HBe
              clear ev2 egb hal
              have HWc := hid HWb.out.size
              refine hK1 _ _ (HS0.out _ HWb.out) (fun hS => ?_)
              clear hK1 hS
              refine wpAnyT_one 6 (by kernel_rfl) rfl (fun K1 hK1 => ?_)
              refine step_append_any encO_length encO_one (by rfl) _ _ _ (by rfl) 30 i0 _ 40 Tryd.underlying26 hi0 hz0 hz1 hz2 rfl (by omega) (some ⟨ge, 0, none⟩) 0 0 [] (by rfl) HEr.out (A) n c L (by rfl) (HEl.out.below HWb.out (Nat.le_refl _)) (by unfold maxLen; omega) (by omega) ?_
              intro A1 c1 v3 hr1 hg1 ha1
              rw [Nat.zero_add, List.nil_append] at hr1
              rw [Nat.zero_add]
              have hk1 := keeps_grown hg1
              have HBe := hid (HBe.out.keeps hk1 (fun g hg e => by cases hg; have e : some ge = some gb := e; exact hneb (Option.some.inj e)))
              have HCr := hid hr1
              have HCa := hid (new_or ha1 (new_one hge) HWc.out)
              have HWb := hid (grown_below HWb.out hg1 (new_one hge) HWc.out)
              have HWc := hid HWb.out.size
              clear hr1 hg1 ha1 hk1
              refine hK1 _ _ (HS0.out _ HWb.out) (fun hS => ?_)
              clear hK1 hS
              simp only [Act.put, List.setIfInBounds_toArray, List.set_cons_zero, List.set_cons_succ]
              refine wpAnyT_one 9 (by kernel_rfl) rfl (fun K1 hK1 => ?_)
              refine step_append_any encO_length encO_one (by rfl) _ _ _ (by rfl) 30 i0 _ 40 Tryd.underlying26 hi0 hz0 hz1 hz2 rfl (by omega) (A1) n c1 (flat encO L) (by rfl) HCr.out (some ⟨gb, 0, none⟩) 1 1 [p] (by rfl) HBe.out (by unfold maxLen; omega) (by omega) ?_
              intro A2 c2 v4 hr2 hg2 ha2
              have HC2 := hid hr2
              have HCb := hid (new_or ha2 HCa.out HWc.out)
              have HWb := hid (grown_below HWb.out hg2 HCa.out HWc.out)
              clear hr2 hg2 ha2
              refine hK1 _ _ (HS0.out _ HWb.out) (fun hS => ?_)
              clear hK1 hS
              simp only [Act.put, List.setIfInBounds_toArray, List.set_cons_zero, List.set_cons_succ]
              refine wpAnyT_one 10 (by kernel_rfl) rfl (fun K1 hK1 => ?_)
              go_simp
              refine hK1 _ _ (HS0.out _ HWb.out) (fun hS => ?_)
              clear hK1 hS
              refine wpAnyT_one 11 (by kernel_rfl) rfl (fun K1 hK1 => ?_)
              go_simp
              refine hK1 _ _ (HS0.out _ HWb.out) (fun hS => ?_)
              clear hK1 hS
              have hfz := HFz.out _ HWb.out
              obtain ⟨-, hcz⟩ := HS0.out _ HWb.out
              refine wpAnyT_last (by kernel_rfl) rfl (fun K1 hK1 => ?_)
              go_simp
              refine hK1 _ _ (wpAnyT_done (by kernel_rfl) ?_ _)
              clear hK1 hfz hcz
              go_wp2_with fail
              go_ret
              exact ⟨ret_int (by rw [HE.out]), HFin.out _ _ _ HWb.out HC2.out HCb.out⟩
          · go_simp
            obtain ⟨v1, ev1⟩ : ∃ W, (w2.alloc (.cells #[.int .i64 p.id, .int .i64 p.side, .int .i64 p.kind, .int .i64 p.price, .int .i64 p.qty] 30)).drew = W := ⟨_, rfl⟩
            have hal : Below w2.heap.size w2 v1 := by rw [← ev1]; exact Below.drew ((Below.refl _ _).alloc (Nat.le_refl _) _)
            have HBe := hid (show ElemsAt v1 encO 5 (some ⟨w2.heap.size, 0, none⟩) 1 [p] by rw [← ev1]; exact ord_elems (t := 30) (heap_alloc_new w2 _) (by simp))
            have HWb := hid (HWb.out.trans (hal.mono HWb.out.size))
            obtain ⟨gb, egb⟩ : ∃ g, w2.heap.size = g := ⟨_, rfl⟩
            rw [ev1, egb]
            rw [egb] at HBe
            clear ev1 egb hal
            have HWc := hid HWb.out.size
            refine hK1 _ _ (HS0.out _ HWb.out) (fun hS => ?_)
            clear hK1 hS
            refine wpAnyT_one 1 (by kernel_rfl) rfl (fun K1 hK1 => ?_)
            go_simp
            obtain ⟨v2, ev2⟩ : ∃ W, (v1.alloc (.cells #[] 30)) = W := ⟨_, rfl⟩
            have hal : Below v1.heap.size v1 v2 := by rw [← ev2]; exact (Below.refl _ _).alloc (Nat.le_refl _) _
            have hltb : gb < v1.heap.size := by obtain ⟨b, o, h1, h2, -⟩ := HBe.out.2 (by omega); cases h1; exact h2
            have HBe := hid (HBe.out.below hal (Nat.le_refl _))
            have HEr := hid (show RowAt v2 (some ⟨v1.heap.size, 0, none⟩) 0 0 30 5 [] by rw [← ev2]; exact RowAt.made _ _ _)
            have HWb := hid (HWb.out.trans (hal.mono HWb.out.size))
            obtain ⟨ge, ege⟩ : ∃ g, v1.heap.size = g := ⟨_, rfl⟩
            have hge : w2.heap.size ≤ ge := by rw [← ege]; have := HWc.out; exact this
            have hneb : ge ≠ gb := by omega
            rw [ev2, ege]
            rw [ege] at HEr
            clear ev2 ege hal
            have HWc := hid HWb.out.size
            refine hK1 _ _ (HS0.out _ HWb.out) (fun hS => ?_)
            clear hK1 hS
            refine wpAnyT_one 6 (by kernel_rfl) rfl (fun K1 hK1 => ?_)
            refine step_append_any encO_length encO_one (by rfl) _ _ _ (by rfl) 30 i0 _ 40 Tryd.underlying26 hi0 hz0 hz1 hz2 rfl (by omega) (some ⟨ge, 0, none⟩) 0 0 [] (by rfl) HEr.out (A) n c L (by rfl) (HEl.out.below HWb.out (Nat.le_refl _)) (by unfold maxLen; omega) (by omega) ?_
            intro A1 c1 v3 hr1 hg1 ha1
            rw [Nat.zero_add, List.nil_append] at hr1
            rw [Nat.zero_add]
            have hk1 := keeps_grown hg1
            have HBe := hid (HBe.out.keeps hk1 (fun g hg e => by cases hg; have e : some ge = some gb := e; exact hneb (Option.some.inj e)))
            have HCr := hid hr1
            have HCa := hid (new_or ha1 (new_one hge) HWc.out)
            have HWb := hid (grown_below HWb.out hg1 (new_one hge) HWc.out)
            have HWc := hid HWb.out.size
            clear hr1 hg1 ha1 hk1
            refine hK1 _ _ (HS0.out _ HWb.out) (fun hS => ?_)
            clear hK1 hS
            simp only [Act.put, List.setIfInBounds_toArray, List.set_cons_zero, List.set_cons_succ]
            refine wpAnyT_one 9 (by kernel_rfl) rfl (fun K1 hK1 => ?_)
            refine step_append_any encO_length encO_one (by rfl) _ _ _ (by rfl) 30 i0 _ 40 Tryd.underlying26 hi0 hz0 hz1 hz2 rfl (by omega) (A1) n c1 (flat encO L) (by rfl) HCr.out (some ⟨gb, 0, none⟩) 1 1 [p] (by rfl) HBe.out (by unfold maxLen; omega) (by omega) ?_
            intro A2 c2 v4 hr2 hg2 ha2
            have HC2 := hid hr2
            have HCb := hid (new_or ha2 HCa.out HWc.out)
            have HWb := hid (grown_below HWb.out hg2 HCa.out HWc.out)
            clear hr2 hg2 ha2
            refine hK1 _ _ (HS0.out _ HWb.out) (fun hS => ?_)
            clear hK1 hS
            simp only [Act.put, List.setIfInBounds_toArray, List.set_cons_zero, List.set_cons_succ]
            refine wpAnyT_one 10 (by kernel_rfl) rfl (fun K1 hK1 => ?_)
            go_simp
            refine hK1 _ _ (HS0.out _ HWb.out) (fun hS => ?_)
            clear hK1 hS
            refine wpAnyT_one 11 (by kernel_rfl) rfl (fun K1 hK1 => ?_)
            go_simp
            refine hK1 _ _ (HS0.out _ HWb.out) (fun hS => ?_)
            clear hK1 hS
            have hfz := HFz.out _ HWb.out
            obtain ⟨-, hcz⟩ := HS0.out _ HWb.out
            refine wpAnyT_last (by kernel_rfl) rfl (fun K1 hK1 => ?_)
            go_simp
            refine hK1 _ _ (wpAnyT_done (by kernel_rfl) ?_ _)
            clear hK1 hfz hcz
            go_wp2_with fail
            go_ret
            exact ⟨ret_int (by rw [HE.out]), HFin.out _ _ _ HWb.out HC2.out HCb.out⟩
      · have HE := hid (show raddE L o = 9 by unfold raddE; rw [HArg.out, if_neg (by decide), HRg.out, if_neg (by decide), if_pos (by rw [← HPi.out, hg]; rfl)])
        rw [hi]
        have d2 : (0 : Int) ≤ (k : Int) := by omega
        clear hi hg
        go_wp2_with fail
        go_ret
        exact ⟨ret_int (by rw [HE.out]), by unfold raddL; rw [HE.out, if_neg (by decide)]; exact RefTo.same HR.out HB2.out⟩
end Go.Proofs.YtkcgchpbjegneaaDoor
