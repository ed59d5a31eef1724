/-
  The document's book (openbellref.Book): index, Order, Add, Cancel, Cut over a list of orders as they came. Printed by gen_refbook.py.
-/
import Derived.WalkKit
import Derived.WalkLawsBesides
import Derived.WalkSpells
import Derived.Deep.LoopGhost
import Derived.Deep.DeepCutAuto
import Derived.Deep.CutBlock
import Derived.BigRegion
import Derived.Deep.QuietTactic
import Derived.BigQuiet
import Derived.Laws.ResultCell
import Derived.Test.YtkcgchpbjegneaaDoorAppendAny
import Derived.Test.YtkcgchpbjegneaaDoorBookAddL
namespace Go.Proofs.YtkcgchpbjegneaaDoor
open Go.RowKit
set_option linter.unusedVariables false
set_option linter.unusedSimpArgs false

/-- the document's book: a slice in a cell of block B, its orders elsewhere -/
structure RefB (w : World) (B : Nat) (t : TypeId) (cs : Array Value) (o0 : Nat) (A : Option Addr) (L : List Ord5) : Prop where
  blk : Blk w B t cs
  at_ : ∃ c, cs[o0]? = some (.slice A L.length c) ∧ L.length ≤ c ∧ c ≤ maxLen
  els : ElemsAt w encO 5 A L.length L
  ne : blkOf A ≠ some B
  lt : ∀ g, blkOf A = some g → g < w.heap.size
/-- what became of it -/
def RefTo (w w' : World) (B : Nat) (t : TypeId) (cs : Array Value) (o0 : Nat) (A : Option Addr) (L : List Ord5) : Prop :=
  ∃ A' c', RefB w' B t (cs.setIfInBounds o0 (.slice A' L.length c')) o0 A' L ∧ Keeps (fun i => i = B) w w' ∧ ∀ g, blkOf A' = some g → blkOf A = some g ∨ w.heap.size ≤ g
section
variable {w w' : World} {B : Nat} {t : TypeId} {cs : Array Value} {o0 : Nat} {A : Option Addr} {L : List Ord5}
theorem RefB.below (h : RefB w B t cs o0 A L) (hb : Below w.heap.size w w') : RefB w' B t cs o0 A L :=
  ⟨Blk.keep h.blk hb, h.at_, h.els.below hb (Nat.le_refl _), h.ne, fun g hg => Nat.lt_of_lt_of_le (h.lt g hg) hb.size⟩
theorem RefB.keeps {S : Nat → Prop} (h : RefB w B t cs o0 A L) (hk : Keeps S w w') (h1 : ¬ S B) (h2 : ∀ g, blkOf A = some g → ¬ S g) : RefB w' B t cs o0 A L :=
  ⟨Blk.keeps h.blk hk h1, h.at_, h.els.keeps hk h2, h.ne, fun g hg => Nat.lt_of_lt_of_le (h.lt g hg) hk.size⟩
theorem arr_set_same {cs : Array Value} {o : Nat} {v : Value} (h : cs[o]? = some v) : cs.setIfInBounds o v = cs := by
  apply Array.ext'
  rw [Array.toList_setIfInBounds]
  obtain ⟨hlt, he⟩ := Array.getElem?_eq_some_iff.1 h
  rw [← he, ← Array.getElem_toList]
  exact List.set_getElem_self _
theorem RefTo.same (h : RefB w B t cs o0 A L) (hb : Below w.heap.size w w') : RefTo w w' B t cs o0 A L := by
  obtain ⟨c, hc, -⟩ := h.at_
  exact ⟨A, c, by rw [arr_set_same hc]; exact h.below hb, Keeps.of_below hb _, fun g hg => .inl hg⟩
theorem RefB.cell (h : RefB w B t cs o0 A L) : ∃ c, w.cell? ⟨B, o0, none⟩ = some (.slice A L.length c) ∧ L.length ≤ c ∧ c ≤ maxLen := by
  obtain ⟨c, hc, h1⟩ := h.at_
  exact ⟨c, by rw [Blk.cell h.blk]; exact hc, h1⟩
theorem RefB.blt (h : RefB w B t cs o0 A L) : B < w.heap.size := Blk.lt h.blk
theorem RowAt.le_cap {w : World} {A : Option Addr} {n c sz : Nat} {t : TypeId} {xs : List Value} (h : RowAt w A n c t sz xs) : n ≤ c ∧ c ≤ maxLen := by
  rcases h.2 with ⟨h1, h2⟩ | ⟨g, cap, cur, hv, -, -, hn, hc, -, -⟩
  · cases h1; exact ⟨by omega, by unfold maxLen; omega⟩
  · cases hv; exact ⟨hn, hc⟩
/-- a new slice is written -/
theorem RefB.put (h : RefB w B t cs o0 A L) {w1 : World} (hb : Below w.heap.size w w1) {A' : Option Addr} {n' c' : Nat} {L' : List Ord5} {t' : TypeId} (hr : RowAt w1 A' n' c' t' 5 (flat encO L')) (hA : ∀ g, blkOf A' = some g → w.heap.size ≤ g) :
    RefTo w (w1.setCell ⟨B, o0, none⟩ (.slice A' n' c')) B t cs o0 A L' := by
  have hl : L'.length = n' := row_length encO_length (by omega) hr
  subst hl
  have hB := h.blt
  have hne : ∀ g, blkOf A' = some g → g ≠ B := fun g hg => by have := hA g hg; omega
  have hr2 : RowAt (w1.setCell ⟨B, o0, none⟩ (.slice A' L'.length c')) A' L'.length c' t' 5 (flat encO L') := RowAt.keeps hr (Keeps.set_ w1 ⟨B, o0, none⟩ _) (fun g hg e => hne g hg e)
  obtain ⟨c, hc, -⟩ := h.at_
  have ho : o0 < cs.size := (Array.getElem?_eq_some_iff.1 hc).1
  refine ⟨A', c', ⟨Blk.set_ (Blk.keep h.blk hb) o0 _, ⟨c', by simp [ho], RowAt.le_cap hr⟩, ElemsAt.of_row encO_length (by omega) hr2, fun e => hne B e rfl, fun g hg => ?_⟩, (Keeps.of_below hb _).trans (Keeps.set_ w1 ⟨B, o0, none⟩ _) (fun i e => .inl e), fun g hg => .inr (hA g hg)⟩
  have := hr.lt hg
  simpa using this
end

/-! ### index -/
def idxI (L : List Ord5) (id : Int) : Int := if L.findIdx (fun o => o.id == id) < L.length then (L.findIdx (fun o => o.id == id) : Int) else -1
theorem idx_of {L : List Ord5} {id : Int} {k : Nat} (hk : k < L.length) (h1 : L[k].id = id) (h2 : ∀ j (hj : j < L.length), j < k → L[j].id ≠ id) : L.findIdx (fun o => o.id == id) = k := by
  have h : L.findIdx (fun o => o.id == id) = k := (List.findIdx_eq hk).2 ⟨by simp [h1], fun j hj => by simpa using h2 j (by omega) hj⟩
  exact h
theorem idx_none {L : List Ord5} {id : Int} (h : ∀ j (hj : j < L.length), L[j].id ≠ id) : L.findIdx (fun o => o.id == id) = L.length := by
  rw [List.findIdx_eq_length]
  intro o ho
  obtain ⟨j, hj, rfl⟩ := List.mem_iff_getElem.1 ho
  simpa using h j hj

set_option maxRecDepth 100000 in
set_option maxHeartbeats 1000000 in
theorem index_any (w : World) (B : Nat) (t : TypeId) (cs : Array Value) (o0 : Nat) (A : Option Addr) (L : List Ord5) (h : RefB w B t cs o0 A L) (hn : L.length ≤ 100000) (id : Int) :
    Calls Tryd.prog 27 #[.pointer (some ⟨B, o0, none⟩), .int .i64 id] w fun e w' => e = .returned (.int .i64 (idxI L id)) ∧ Below w.heap.size w w' := by
  obtain ⟨c, hc, -⟩ := h.cell
  obtain ⟨n, hnl⟩ : ∃ n, L.length = n := ⟨_, rfl⟩
  have HE := hid h.els
  rw [hnl] at hc HE
  have HN := hid hnl
  have hn1 : n ≤ 100000 := by omega
  clear h hn hnl
  go_enter Tryd.func27, Tryd.ntmps27
  go_wp2_with fail
  go_loopg [12] n (fun gg s12 wx => ∃ k : Nat, k ≤ n ∧ gg = n - k ∧ s12 = .int .i64 k ∧ Below w.heap.size w wx ∧ Hid (∀ j (hj : j < L.length), j < k → L[j].id ≠ id))
  case atStart => exact ⟨0, Nat.zero_le _, rfl, rfl, Below.refl _ _, hid fun j hj h => absurd h (by omega)⟩
  case round =>
    obtain ⟨k, hk, rfl, rfl, hB, HI⟩ := hrel
    by_cases hlt : k < n
    · have hkl : k < L.length := by have := HN.out; omega
      obtain ⟨b, off, hA⟩ : ∃ b off, A = some ⟨b, off, none⟩ := by obtain ⟨b, off, h1, _⟩ := HE.out.2 (by omega); exact ⟨b, off, h1⟩
      subst hA
      obtain ⟨x0, x1, x2, x3, x4⟩ := ord_at (HE.out.below hB (Nat.le_refl _)) hkl
      have hltz : (k : Int) < (n : Int) := by omega
      have hk0 : (0 : Int) ≤ (k : Int) := by omega
      obtain ⟨o, EO⟩ : ∃ o, Hid (L[k] = o) := ⟨_, hid rfl⟩
      rw [EO.out] at x0 x1 x2 x3 x4
      have HB := hid (hB.alloc hB.size (.cells (boxO o) 30))
      clear hB
      by_cases he : o.id = id
      · have d1 := beqT he
        have HR : Hid (idxI L id = k) := hid (by
          have e := idx_of hkl (by rw [EO.out]; exact he) HI.out
          unfold idxI
          rw [e, if_pos hkl])
        clear he
        go_wp2_with fail
        go_ret
        exact ⟨ret_int (by rw [HR.out]), HB.out⟩
      · have d1 := beqF he
        have HI2 : Hid (∀ j (hj : j < L.length), j < k + 1 → L[j].id ≠ id) := hid (fun j hj hjk => by
          by_cases e : j = k
          · subst e; rw [EO.out]; exact he
          · exact HI.out j hj (by omega))
        clear he
        go_wp2_with fail
        go_roundg (n - (k + 1))
        case measure => omega
        case rel => exact ⟨k + 1, by omega, rfl, by go_num, HB.out, HI2⟩
    · obtain rfl : n = k := by omega
      have hltz : ¬ (n : Int) < (n : Int) := by omega
      have HB := hid hB
      have HR : Hid (idxI L id = -1) := hid (by
        have e := idx_none (L := L) (id := id) (fun j hj => HI.out j hj (by have := HN.out; omega))
        unfold idxI
        rw [e, if_neg (by omega)])
      clear hB
      go_wp2_with fail
      go_ret
      exact ⟨ret_int (by rw [HR.out]), HB.out⟩
/-- what index tells -/
theorem idxI_cases (L : List Ord5) (id : Int) : (idxI L id = -1 ∧ getI L id = none) ∨ ∃ (k : Nat) (hk : k < L.length), idxI L id = k ∧ L.findIdx (fun o => o.id == id) = k ∧ L[k].id = id ∧ getI L id = some L[k] := by
  unfold idxI getI
  by_cases h : L.findIdx (fun o => o.id == id) < L.length
  · right
    refine ⟨_, h, if_pos h, rfl, ?_, ?_⟩
    · have := List.findIdx_getElem (xs := L) (p := fun o => o.id == id) (w := h)
      simpa using this
    · rw [List.find?_eq_getElem?_findIdx]
      exact List.getElem?_eq_getElem h
  · left
    refine ⟨if_neg h, ?_⟩
    rw [List.find?_eq_getElem?_findIdx]
    exact List.getElem?_eq_none (by omega)

/-! ### Order -/
theorem results_row_tmp {P : Program} {fn : Func} {p u : Tmp} {ty : TypeId} (h : fn.results = #[.cell p ty, .tmp u]) (tmps : Array Value) (w : World) (g : Nat) (t : TypeId) (cs : Array Value) (v : Value) (fr : Nat × Nat) (d : TypeDesc)
    (hp : tmps.getD p undef = .pointer (some ⟨g, 0, none⟩)) (hq : tmps.getD u undef = v) (hg : w.heap[g]? = some (.cells cs t fr))
    (hu : P.underlying ty = some d) (hd : (match d with | .struct _ | .array _ _ => true | _ => false) = true) (hi : (P.info? ty).map (·.size) = some cs.size) : (results fn tmps).run P w = .ok (.tuple #[.agg cs, v]) w := by
  have hp' : tmps[p]?.getD undef = .pointer (some ⟨g, 0, none⟩) := by simpa using hp
  have hq' : tmps[u]?.getD undef = v := by simpa using hq
  simp [results, h, hp', hq', asAddr, run_loadVar_row w g t ty cs fr d hg hu hd hi, Sem.run_bind, Result.andThen]
theorem ref_ret2 {fn : Func} (hf : fn.results = #[.cell 4 30, .tmp 5]) {w : World} {a : Act} {Q : Ending → World → Prop} {cs : Array Value} {v : Value} (g : Nat) (hs : cs.size = 5) (hp : a.tmps.getD 4 undef = .pointer (some ⟨g, 0, none⟩)) (h5 : a.tmps.getD 5 undef = v) (hd : a.defers = [])
    (hg : Blk w g 30 cs) (h : Q (.returned (.tuple #[.agg cs, v])) w) : bodyPost Tryd.prog fn Q .ret a w :=
  bodyPost_ret (results_row_tmp hf a.tmps w g 30 cs v (0, 0) _ hp h5 hg Tryd.underlying30 rfl (by rw [hs]; show (Tryd.prog.info? 30).map (·.size) = some 5; kernel_rfl)) hd h
def roE (L : List Ord5) (id : Int) : Int := if (getI L id).isSome = true then 0 else 7
def roO (L : List Ord5) (id : Int) : Ord5 := (getI L id).getD noO
theorem box5' {w : World} {g : Nat} {t : TypeId} {a b c d e : Value} (h : Blk w g t #[a, b, c, d, e]) : w.cell? ⟨g, 0, none⟩ = some a ∧ w.cell? ⟨g, 1, none⟩ = some b ∧ w.cell? ⟨g, 2, none⟩ = some c ∧ w.cell? ⟨g, 3, none⟩ = some d ∧ w.cell? ⟨g, 4, none⟩ = some e :=
  ⟨by rw [Blk.cell h]; rfl, by rw [Blk.cell h]; rfl, by rw [Blk.cell h]; rfl, by rw [Blk.cell h]; rfl, by rw [Blk.cell h]; rfl⟩

set_option maxRecDepth 100000 in
set_option maxHeartbeats 1000000 in
theorem rorder_any (w : World) (B : Nat) (t : TypeId) (cs : Array Value) (o0 : Nat) (A : Option Addr) (L : List Ord5) (h : RefB w B t cs o0 A L) (hn : L.length ≤ 100000) (id : Int) :
    Calls Tryd.prog 12 #[.pointer (some ⟨B, o0, none⟩), .int .i64 id] w fun e w' => e = .returned (.tuple #[aggO (roO L id), .int .i64 (roE L id)]) ∧ Below w.heap.size w w' := by
  have hb1 : Below w.heap.size w (w.alloc (.cells #[.int .i64 0, .int .i64 0, .int .i64 0, .int .i64 0, .int .i64 0] 30)) := (Below.refl _ _).alloc (Nat.le_refl _) _
  have HX := hid (Blk.new w 30 #[.int .i64 0, .int .i64 0, .int .i64 0, .int .i64 0, .int .i64 0])
  have HI := hid (index_any _ B t cs o0 A L (h.below hb1) hn id)
  have HR := hid h
  have HB := hid hb1
  have hBl := h.blt
  have hn1 : L.length ≤ 100000 := hn
  clear h hb1 hn
  go_enter Tryd.func12, Tryd.ntmps12
  go_wp2_with fail
  refine HI.out.mono ?_
  rintro e w2 ⟨rfl, hb2⟩
  have hX2 := Blk.keep HX.out hb2
  obtain ⟨z0, z1, z2, z3, z4⟩ := box5' hX2
  have f0 := Blk.frozen hX2 0
  have f1 := Blk.frozen hX2 1
  have f2 := Blk.frozen hX2 2
  have f3 := Blk.frozen hX2 3
  have f4 := Blk.frozen hX2 4
  have HX2 := hid hX2
  have HB2 := hid (HB.out.trans (hb2.mono HB.out.size))
  clear hX2 hb2 HI
  rcases idxI_cases L id with ⟨hi, hg⟩ | ⟨k, hk, hi, -, hid_, hg⟩
  · have HG := hid hg
    rw [hi]
    have d1 : ¬ (0 : Int) ≤ -1 := by omega
    clear hi hg
    go_wp2_with fail
    refine ref_ret2 Tryd.results12 (cs := #[.int .i64 0, .int .i64 0, .int .i64 0, .int .i64 0, .int .i64 0]) (v := .int .i64 7) w.heap.size rfl (by with_unfolding_all rfl) (by with_unfolding_all rfl) (by with_unfolding_all rfl) (Blk.set_ (Blk.set_ (Blk.set_ (Blk.set_ (Blk.set_ HX2.out 0 _) 1 _) 2 _) 3 _) 4 _) ?_
    refine ⟨?_, ((((HB2.out.setCell (Nat.le_refl _) _).setCell (Nat.le_refl _) _).setCell (Nat.le_refl _) _).setCell (Nat.le_refl _) _).setCell (Nat.le_refl _) _⟩
    unfold roO roE
    rw [HG.out]
    rfl
  · have HG := hid hg
    rw [hi]
    have hk0 : (0 : Int) ≤ (k : Int) := by omega
    have hkz : (k : Int) < ((L.length : Nat) : Int) := by omega
    have hR2 := HR.out.below HB2.out
    obtain ⟨c, y0, -⟩ := hR2.cell
    obtain ⟨b, off, hA⟩ : ∃ b off, A = some ⟨b, off, none⟩ := by obtain ⟨b, off, h1, _⟩ := hR2.els.2 (by omega); exact ⟨b, off, h1⟩
    subst hA
    obtain ⟨x0, x1, x2, x3, x4⟩ := ord_at hR2.els hk
    obtain ⟨o, EO⟩ : ∃ o, Hid (L[k] = o) := ⟨_, hid rfl⟩
    rw [EO.out] at x0 x1 x2 x3 x4 HG
    obtain ⟨n, hn⟩ : ∃ n, L.length = n := ⟨_, rfl⟩
    rw [hn] at y0 hkz
    clear hi hg hR2 hid_ hn
    go_wp2_with fail
    refine ref_ret2 Tryd.results12 (cs := boxO o) (v := .int .i64 0) w.heap.size rfl (by with_unfolding_all rfl) (by with_unfolding_all rfl) (by with_unfolding_all rfl) (Blk.set_ (Blk.set_ (Blk.set_ (Blk.set_ (Blk.set_ HX2.out 0 _) 1 _) 2 _) 3 _) 4 _) ?_
    refine ⟨?_, ((((HB2.out.setCell (Nat.le_refl _) _).setCell (Nat.le_refl _) _).setCell (Nat.le_refl _) _).setCell (Nat.le_refl _) _).setCell (Nat.le_refl _) _⟩
    unfold roO roE
    rw [HG.out]
    rfl
end Go.Proofs.YtkcgchpbjegneaaDoor
