/-
  The walk of openbellref.Book.Cut.
-/
import Derived.WalkKit
import Derived.WalkLawsBesides
import Derived.WalkSpells
import Derived.Deep.DeepCutAuto
import Derived.Deep.CutBlock
import Derived.BigRegion
import Derived.Test.YtkcgchpbjegneaaDoorRefCancel
namespace Go.Proofs.YtkcgchpbjegneaaDoor
open Go.RowKit
set_option linter.unusedVariables false
set_option linter.unusedSimpArgs false

theorem flat_set_at {α : Type} {enc : α → List Value} {K : Nat} (hk : ∀ x, (enc x).length = K) {j : Nat} (hj : j < K) (v : Value) (y : α) : ∀ (L : List α) (i : Nat) (hi : i < L.length), enc y = (enc L[i]).set j v → (flat enc L).set (i * K + j) v = flat enc (L.set i y) := by
  intro L
  induction L with
  | nil => intro i hi; exact absurd hi (by simp)
  | cons x t ih =>
    intro i hi he
    have e : ∀ (z : α) (u : List α), flat enc (z :: u) = enc z ++ flat enc u := fun z u => by simp [flat]
    cases i with
    | zero =>
      rw [Nat.zero_mul, Nat.zero_add, List.set_cons_zero, e, e, List.set_append_left _ _ (by rw [hk]; exact hj)]
      rw [he]; rfl
    | succ i =>
      have h1 : (i + 1) * K + j = K + (i * K + j) := by rw [Nat.add_mul, Nat.one_mul]; omega
      rw [List.set_cons_succ, e, e, h1, List.set_append_right _ _ (by rw [hk]; omega), hk, Nat.add_sub_cancel_left, ih i (by simpa using hi) he]
theorem arr_set_set {cs : Array Value} {o : Nat} {u v : Value} : (cs.setIfInBounds o u).setIfInBounds o v = cs.setIfInBounds o v := by
  apply Array.ext'
  simp
/-- one behind another -/
theorem RefTo.trans {w w1 w2 : World} {B : Nat} {t : TypeId} {cs : Array Value} {o0 : Nat} {A A1 : Option Addr} {v : Value} {L2 : List Ord5} (hk : Keeps (fun i => i = B) w w1) (hA : ∀ g, blkOf A1 = some g → blkOf A = some g ∨ w.heap.size ≤ g) (h : RefTo w1 w2 B t (cs.setIfInBounds o0 v) o0 A1 L2) : RefTo w w2 B t cs o0 A L2 := by
  obtain ⟨A2, c2, h1, h2, h3⟩ := h
  rw [arr_set_set] at h1
  refine ⟨A2, c2, h1, hk.trans h2 (fun i e => .inl e), fun g hg => ?_⟩
  rcases h3 g hg with e | e
  · exact hA g e
  · exact .inr (Nat.le_trans hk.size e)
def rcutE (L : List Ord5) (id q : Int) : Int := match getI L id with | none => 7 | some o => if 1 ≤ q ∧ q ≤ o.qty then 0 else 2
def rcutL (L : List Ord5) (id q : Int) : List Ord5 := match getI L id with | none => L | some o => if 1 ≤ q ∧ q ≤ o.qty then (if q = o.qty then cutK L (L.findIdx fun o => o.id == id) else L.set (L.findIdx fun o => o.id == id) (cutO o q)) else L
theorem findIdx_set {L : List Ord5} {id : Int} {k : Nat} (hk : k < L.length) (h : L.findIdx (fun o => o.id == id) = k) (o : Ord5) (ho : o.id = id) : (L.set k o).findIdx (fun o => o.id == id) = k := by
  have h2 := (List.findIdx_eq hk).1 h
  refine (List.findIdx_eq (by simpa using hk)).2 ⟨by simp [ho], fun j hj => ?_⟩
  rw [List.getElem_set_ne (by omega)]
  exact h2.2 j hj
theorem cutK_set {L : List Ord5} {k : Nat} (o : Ord5) : cutK (L.set k o) k = cutK L k := by
  unfold cutK
  rw [List.take_set_of_le (Nat.le_refl _), List.drop_set_of_lt (by omega)]

set_option maxRecDepth 100000 in
set_option maxHeartbeats 4000000 in
theorem rcut_any (w : World) (B : Nat) (t : TypeId) (cs : Array Value) (o0 : Nat) (A : Option Addr) (L : List Ord5) (h : RefB w B t cs o0 A L) (hn : L.length ≤ 100000) (id q : Int) (hq : ∀ o ∈ L, -1000000000 ≤ o.qty ∧ o.qty ≤ 1000000000) :
    Calls Tryd.prog 11 #[.pointer (some ⟨B, o0, none⟩), .int .i64 id, .int .i64 q] w fun e w' => e = .returned (.int .i64 (rcutE L id q)) ∧ RefTo w w' B t cs o0 A (rcutL L id q) := by
  have HI := hid (index_any w B t cs o0 A L h hn id)
  have HR := hid h
  have hBl := h.blt
  have hn1 : L.length ≤ 100000 := hn
  obtain ⟨i0, hi0, hz0, hz1, hz2⟩ := info_parts rord_info
  have HQ := hid hq
  clear h hn hq
  go_enter Tryd.func11, Tryd.ntmps11
  go_wp2_with fail
  refine HI.out.mono ?_
  rintro e w2 ⟨rfl, hb2⟩
  have HB2 := hid hb2
  rcases idxI_cases L id with ⟨hi, hg⟩ | ⟨k, hk, hi, hix, hid_, hg⟩
  · have HE1 := hid (show rcutE L id q = 7 by unfold rcutE; rw [hg])
    have HE2 := hid (show rcutL L id q = L by unfold rcutL; rw [hg])
    rw [hi]
    have d1 : (-1 : Int) < 0 := by omega
    clear hi hg hb2 HI
    go_wp2_with fail
    go_ret
    exact ⟨ret_int (by rw [HE1.out]), by rw [HE2.out]; exact RefTo.same HR.out HB2.out⟩
  · rw [hi]
    have hk0 : (0 : Int) ≤ (k : Int) := by omega
    have d1 : ¬ (k : Int) < 0 := by omega
    have hkz : (k : Int) < ((L.length : Nat) : Int) := by omega
    have hR2 := HR.out.below HB2.out
    obtain ⟨c, y0, hc1, hc2⟩ := hR2.cell
    obtain ⟨b, off, hA⟩ : ∃ b off, A = some ⟨b, off, none⟩ := by obtain ⟨b, off, h1, _⟩ := hR2.els.2 (by omega); exact ⟨b, off, h1⟩
    subst hA
    obtain ⟨-, -, -, -, x4⟩ := ord_at hR2.els hk
    have hqb := HQ.out L[k] (List.getElem_mem hk)
    obtain ⟨o, EO⟩ : ∃ o, Hid (L[k] = o) := ⟨_, hid rfl⟩
    rw [EO.out] at x4 hg hid_ hqb
    obtain ⟨n, hn⟩ : ∃ n, L.length = n := ⟨_, rfl⟩
    have HEl := hid hR2.els
    rw [hn] at y0 hkz hc1 HEl hn1
    have HG := hid hg
    have HIx := hid hix
    have HId := hid hid_
    have HR2 := hid hR2
    have HN := hid hn
    unfold maxLen at hc2
    have hkn : k < n := by omega
    clear hi hg hR2 hid_ hn hix hb2 HI
    by_cases hqr : ¬ (1 ≤ q ∧ q ≤ o.qty)
    · have HB := hid (show (decide (1 ≤ q) && decide (q ≤ o.qty)) = false by simp; omega)
      have HE1 := hid (show rcutE L id q = 2 by unfold rcutE; rw [HG.out]; exact if_neg hqr)
      have HE2 := hid (show rcutL L id q = L by unfold rcutL; rw [HG.out]; exact if_neg hqr)
      clear hqr
      go_wp2_with fail
      refine (rin_any _ _ _ _).mono ?_
      rintro e w' ⟨rfl, rfl⟩
      rw [HB.out]
      go_wp2_with fail
      go_ret
      exact ⟨ret_int (by rw [HE1.out]), by rw [HE2.out]; exact RefTo.same HR.out HB2.out⟩
    · have hqr : 1 ≤ q ∧ q ≤ o.qty := by omega
      have HB := hid (show (decide (1 ≤ q) && decide (q ≤ o.qty)) = true by simp; omega)
      have HE1 := hid (show rcutE L id q = 0 by unfold rcutE; rw [HG.out]; exact if_pos hqr)
      have HE2 := hid (show rcutL L id q = if q = o.qty then cutK L k else L.set k (cutO o q) by unfold rcutL; rw [HG.out, HIx.out]; exact if_pos hqr)
      have HQr := hid hqr
      clear hqr
      go_wp2_with fail
      refine (rin_any _ _ _ _).mono ?_
      rintro e w' ⟨rfl, rfl⟩
      rw [HB.out]
      go_upto_region 6 with fail
      obtain ⟨w3, ew3⟩ : ∃ W, w2.alloc (.cells #[] 30) = W := ⟨_, rfl⟩
      have hal : Below w2.heap.size w2 w3 := by rw [← ew3]; exact (Below.refl _ _).alloc (Nat.le_refl _) _
      have HEr := hid (show RowAt w3 (some ⟨w2.heap.size, 0, none⟩) 0 0 30 5 [] by rw [← ew3]; exact RowAt.made _ _ _)
      have y3 := (hal.cell (World.block_lt_of_cell? w2 _ y0)).trans y0
      have HAl := hid hal
      clear hal
      go_upto_region 7 with (at_builtin; (refine wpList_append_any encO_length encO_one rfl _ _ _ rfl 30 i0 _ 40 Tryd.underlying26 hi0 hz0 hz1 hz2 rfl (by omega) (some ⟨w2.heap.size, 0, none⟩) 0 0 [] rfl HEr.out (some ⟨b, off, none⟩) n c L rfl (HEl.out.below HAl.out (Nat.le_refl _)) (by unfold maxLen; omega) (by omega) ?_); intro A1 c1 w4 hr1 hg1 ha1; rw [Nat.zero_add, List.nil_append] at hr1; rw [Nat.zero_add]; have HR1 := hid hr1; have HG1 := hid hg1; have HA1 := hid ha1; have hfz := Blk.frozen (Blk.grown (Blk.keep HR2.out.blk HAl.out) hg1 (fun e => by have := HR2.out.blt; have e2 : some B = some w2.heap.size := e; have := Option.some.inj e2; omega)) o0; have hcz : w4.cell? ⟨B, o0, none⟩ = some (.slice (some ⟨b, off, none⟩) n c) := ((keeps_grown hg1).cell (p := ⟨B, o0, none⟩) (World.block_lt_of_cell? w3 _ y3) (fun e => by have := HR2.out.blt; have e2 : some w2.heap.size = some B := e; have := Option.some.inj e2; omega)).trans y3; clear hr1 hg1 ha1)
      have HWb := hid (grown_below HAl.out HG1.out (new_one (Nat.le_refl _)) HAl.out.size)
      have HCa := hid (new_or HA1.out (new_one (Nat.le_refl _)) HAl.out.size)
      obtain ⟨g, hA1, -⟩ := HR1.out.elem encO_length (by omega) hk
      subst hA1
      have hgw : w2.heap.size ≤ g := HCa.out g rfl
      have hgB : g ≠ B := by have := HR2.out.blt; omega
      have hr5 : RowAt (w4.setCell ⟨B, o0, none⟩ (.slice (some ⟨g, 0, none⟩) n c1)) (some ⟨g, 0, none⟩) n c1 30 5 (flat encO L) := HR1.out.keeps (Keeps.set_ w4 ⟨B, o0, none⟩ _) (fun x hx e => by cases hx; exact hgB e)
      have hb5 := Blk.set_ (Blk.keep HR2.out.blk HWb.out) o0 (.slice (some ⟨g, 0, none⟩) n c1)
      obtain ⟨W5, eW5⟩ : ∃ W, w4.setCell ⟨B, o0, none⟩ (.slice (some ⟨g, 0, none⟩) n c1) = W := ⟨_, rfl⟩
      have hk5 : Keeps (fun i => i = B) w2 W5 := by rw [← eW5]; exact (Keeps.of_below HWb.out _).trans (Keeps.set_ w4 ⟨B, o0, none⟩ _) (fun i e => .inl e)
      rw [eW5] at hr5 hb5 ⊢
      obtain ⟨ca, hca, -⟩ := HR2.out.at_
      have hol : o0 < cs.size := (Array.getElem?_eq_some_iff.1 hca).1
      have z0 : W5.cell? ⟨B, o0, none⟩ = some (.slice (some ⟨g, 0, none⟩) n c1) := by rw [Blk.cell hb5]; simp [hol]
      obtain ⟨-, -, -, -, q4⟩ := ord_own hr5 hk
      rw [EO.out] at q4
      have fz := hr5.frozen (k * 5 + 4)
      have hset := hr5.set (k * 5 + 4) (.int .i64 (o.qty - q))
      have he5 : encO (cutO o q) = (encO L[k]).set 4 (.int .i64 (o.qty - q)) := by rw [EO.out]; rfl
      rw [flat_set_at encO_length (by omega) _ (cutO o q) L k hk he5] at hset
      have hb6 := Blk.far hb5 (p := ⟨g, k * 5 + 4, none⟩) (fun e => hgB e.symm) (.int .i64 (o.qty - q))
      have hk6 : Keeps (fun i => i = B ∨ i = g) w2 (W5.setCell ⟨g, k * 5 + 4, none⟩ (.int .i64 (o.qty - q))) := (hk5.mono (fun i e => .inl e)).trans (Keeps.set_ W5 ⟨g, k * 5 + 4, none⟩ _) (fun i e => .inl (.inr e))
      have hkz5 : (k : Int) < (n : Int) := by omega
      have hi1 : RowKit.wrap64 (o.qty - q) = o.qty - q := by have := HQr.out; unfold RowKit.wrap64; omega
      have HSet := hid hset
      have HB6 := hid hb6
      have HK6 := hid hk6
      clear hset hb6 hk6 hr5 hb5 hk5 he5 hca x4 y0 y3 ew3 eW5 hfz hcz
      go_upto_region 8 with fail
      obtain ⟨W6, eW6⟩ : ∃ W, W5.setCell ⟨g, k * 5 + 4, none⟩ (.int .i64 (o.qty - q)) = W := ⟨_, rfl⟩
      have hRf : RefB W6 B t (cs.setIfInBounds o0 (.slice (some ⟨g, 0, none⟩) n c1)) o0 (some ⟨g, 0, none⟩) (L.set k (cutO o q)) := by
        have h1 := HSet.out
        have h2 := HB6.out
        rw [eW6] at h1 h2
        have hl : (L.set k (cutO o q)).length = n := by rw [List.length_set]; exact HN.out
        refine ⟨h2, ⟨c1, by rw [hl]; simp [hol], by rw [hl]; exact RowAt.le_cap h1⟩, by rw [hl]; exact ElemsAt.of_row encO_length (by omega) h1, fun e => by cases e; exact hgB rfl, fun x hx => h1.lt hx⟩
      have hKf : Keeps (fun i => i = B) w W6 := by
        have h1 := HK6.out
        rw [eW6] at h1
        exact (Keeps.of_below HB2.out _).trans h1 (fun i e => by
          rcases e with e | e
          · exact .inl e
          · exact .inr (by have := HB2.out.size; omega))
      have hgf : ∀ x, blkOf (some ⟨g, 0, none⟩) = some x → blkOf (some ⟨b, off, none⟩) = some x ∨ w.heap.size ≤ x := fun x hx => by
        cases hx
        exact .inr (by have := HB2.out.size; show w.heap.size ≤ g; omega)
      have z6 : W6.cell? ⟨B, o0, none⟩ = some (.slice (some ⟨g, 0, none⟩) n c1) := by rw [Blk.cell hRf.blk]; simp [hol]
      have q6 : W6.cell? ⟨g, k * 5 + 4, none⟩ = some (.int .i64 (o.qty - q)) := by
        have h1 := HSet.out
        rw [eW6] at h1
        obtain ⟨-, -, -, -, q4⟩ := ord_own (i := k) h1 (by simpa using hk)
        rw [List.getElem_set_self] at q4
        exact q4
      have HRf := hid hRf
      have HKf := hid hKf
      have HGf := hid hgf
      have HW6 := hid eW6
      rw [eW6]
      clear z0 q4 fz hRf hKf hgf eW6 hi1
      by_cases hz : o.qty - q = 0
      · have d2 := beqT hz
        have HE3 := hid (show rcutL L id q = rcanL (L.set k (cutO o q)) id by
          rw [HE2.out, if_pos (by omega)]
          unfold rcanL
          rw [findIdx_set hk HIx.out (cutO o q) HId.out, cutK_set])
        have HCn := hid (rcancel_any W6 B t _ o0 (some ⟨g, 0, none⟩) (L.set k (cutO o q)) HRf.out (by rw [List.length_set, HN.out]; exact hn1) id)
        clear hz
        go_wp2_with fail
        refine HCn.out.mono ?_
        rintro e w9 ⟨rfl, hto⟩
        have HTo := hid hto
        clear hto
        go_wp2_with fail
        go_ret
        exact ⟨ret_int (by rw [HE1.out]), by rw [HE3.out]; exact RefTo.trans HKf.out HGf.out HTo.out⟩
      · have d2 := beqF hz
        have HE3 := hid (show rcutL L id q = L.set k (cutO o q) by rw [HE2.out, if_neg (by omega)])
        clear hz
        go_wp2_with fail
        go_ret
        refine ⟨ret_int (by rw [HE1.out]), ?_⟩
        rw [HE3.out]
        exact RefTo.trans HKf.out HGf.out (RefTo.same HRf.out (Below.refl _ _))
end Go.Proofs.YtkcgchpbjegneaaDoor
