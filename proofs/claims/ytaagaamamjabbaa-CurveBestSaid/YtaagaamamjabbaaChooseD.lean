/-
  Walks of slices.IndexFunc, ContainsFunc, DeleteFunc at points.
-/
import Derived.WalkKit
import Derived.WalkLawsBesides
import Derived.WalkSpells
import Derived.Deep.QuietTactic
import Derived.BigQuiet
import Derived.Deep.LoopGhost
import Derived.Deep.DeepCutAuto
import Derived.Deep.CutBlock
import Derived.Test.YtaagaamamjabbaaChooseF
import Derived.Test.YtaagaamamjabbaaClear
namespace Go.Proofs.Ytaagaamamjabbaa
open Go.RowKit
set_option linter.unusedVariables false

set_option maxHeartbeats 1000000 in
theorem indexT_any (g : FuncId) (lb : Array Value) (F : Tri → Bool) (eg : ∀ args w, (callFunc g args).run Try.prog w = .ok (.enter g args) w) (A : Option Addr) (n c : Nat) (ps : List Tri) (w : World) (S : Nat → Prop)
    (hp : PredAt3 w S g lb F) (h : ElemsAt w encT 3 A n ps) (hN : ∀ p ∈ ps, Near p) (hm : n ≤ 1000000) :
    Calls Try.prog 57 #[.slice A n c, .func (.func g) #[] lb] w fun e w' => Below w.heap.size w w' ∧
      (((∀ i (hi : i < ps.length), F ps[i] = false) ∧ e = .returned (.int .i64 (-1))) ∨ ∃ (k : Nat) (hk : k < ps.length), F ps[k] = true ∧ (∀ i (hi : i < ps.length), i < k → F ps[i] = false) ∧ e = .returned (.int .i64 k)) := by
  have hl := h.1
  have HP := hid hp
  have HL := hid hl
  have HH := hid h
  clear hp hl h
  go_enter Try.func57, Try.ntmps57
  go_wp2
  go_loopg [5, 8] n (fun gg _ s8 wr => ∃ kk : Nat, kk ≤ n ∧ gg = n - kk ∧ s8 = .int .i64 kk ∧ Below w.heap.size w wr ∧ Hid (∀ i (hi : i < ps.length), i < kk → F ps[i] = false))
  case atStart => exact ⟨0, Nat.zero_le _, rfl, rfl, Below.refl _ w, hid fun i _ hi => absurd hi (Nat.not_lt_zero _)⟩
  case round =>
    obtain ⟨kk, hkk, rfl, rfl, hB, HA⟩ := hrel
    by_cases hlt : kk < n
    · obtain ⟨b, off, rfl, _, _⟩ := HH.out.2 (by omega)
      have hkl : kk < ps.length := by have := HL.out; omega
      obtain ⟨x0, x1, x2⟩ := tri_at (HH.out.below hB (Nat.le_refl _)) hkl
      have hcall := HP.out wr ps[kk] (Keeps.of_below hB _) (hN _ (List.getElem_mem _))
      have hltz : (kk : Int) < (n : Int) := by omega
      obtain ⟨p, E⟩ : ∃ p, Hid (ps[kk] = p) := ⟨_, hid rfl⟩
      rw [E.out] at x0 x1 x2 hcall
      obtain ⟨p0, p1, p2⟩ := p
      unfold aggT at hcall
      dsimp only at x0 x1 x2 hcall
      cases hq : F (p0, p1, p2) with
      | true =>
        rw [hq] at hcall
        have HQ := hid hq
        clear hq
        go_wp2_with (go_at_fn g; refine hcall.mono ?_; rintro e w' ⟨rfl, hb'⟩)
        go_ret
        exact ⟨hB.trans (hb'.mono hB.size), .inr ⟨kk, hkl, by rw [E.out]; exact HQ.out, HA.out, rfl⟩⟩
      | false =>
        rw [hq] at hcall
        have HQ := hid hq
        clear hq
        go_wp2_with (go_at_fn g; refine hcall.mono ?_; rintro e w' ⟨rfl, hb'⟩)
        go_roundg (n - (kk + 1))
        case measure => omega
        case rel =>
          refine ⟨kk + 1, by omega, rfl, by go_num, hB.trans (hb'.mono hB.size), hid fun i hi hik => ?_⟩
          by_cases e : i = kk
          · subst e
            rw [E.out]; exact HQ.out
          · exact HA.out i hi (by omega)
    · have hltz : ¬ (kk : Int) < (n : Int) := by omega
      obtain rfl : kk = n := by omega
      go_wp2
      go_ret
      exact ⟨hB, .inl ⟨fun i hi => HA.out i hi (by have := HL.out; omega), rfl⟩⟩

set_option maxHeartbeats 1000000 in
theorem containsT_any (g : FuncId) (lb : Array Value) (F : Tri → Bool) (eg : ∀ args w, (callFunc g args).run Try.prog w = .ok (.enter g args) w) (A : Option Addr) (n c : Nat) (ps : List Tri) (w : World) (S : Nat → Prop)
    (hp : PredAt3 w S g lb F) (h : ElemsAt w encT 3 A n ps) (hN : ∀ p ∈ ps, Near p) (hm : n ≤ 1000000) :
    Calls Try.prog 30 #[.slice A n c, .func (.func g) #[] lb] w fun e w' => Below w.heap.size w w' ∧ e = .returned (.bool (ps.any F)) := by
  have HP := hid hp
  have HH := hid h
  have HN := hid hN
  clear hp h hN
  go_enter Try.func30, Try.ntmps30
  go_wp2_with fail
  refine (indexT_any g lb F eg A n c ps w S HP.out HH.out HN.out hm).mono ?_
  rintro e w' ⟨hB, ⟨hno, rfl⟩ | ⟨k, hk, hy, _, rfl⟩⟩
  · have HE : Hid (ps.any F = false) := hid (by
      rw [List.any_eq_false]
      intro p hp
      obtain ⟨i, hi, rfl⟩ := List.mem_iff_getElem.1 hp
      rw [hno i hi]; simp)
    clear hno
    go_wp2
    go_ret
    exact ⟨hB, ret_bool (by rw [HE.out])⟩
  · have HE : Hid (ps.any F = true) := hid (by rw [List.any_eq_true]; exact ⟨_, List.getElem_mem hk, hy⟩)
    clear hy
    go_wp2
    go_ret
    exact ⟨hB, ret_bool (by rw [HE.out])⟩

/-- what DeleteFunc's rounds hold -/
structure DelInv (F : Tri → Bool) (ps cs : List Tri) (i j : Nat) : Prop where
  len : cs.length = ps.length
  lt : i < j
  jn : j ≤ ps.length
  done : cs.take i = (ps.take j).filter (fun p => !F p)
  rest : ∀ m (h : m < ps.length) (h' : m < cs.length), j ≤ m → cs[m] = ps[m]

theorem DelInv.skip {F : Tri → Bool} {ps cs : List Tri} {i j : Nat} (h : DelInv F ps cs i j) (hj : j < ps.length) (hF : F ps[j] = true) : DelInv F ps cs i (j + 1) :=
  ⟨h.len, by have := h.lt; omega, hj, by rw [List.take_succ_eq_append_getElem hj, List.filter_append, h.done]; simp [hF], fun m hm hm' hle => h.rest m hm hm' (by omega)⟩
theorem DelInv.keep {F : Tri → Bool} {ps cs : List Tri} {i j : Nat} (h : DelInv F ps cs i j) (hj : j < ps.length) (hF : F ps[j] = false) : DelInv F ps (cs.set i ps[j]) (i + 1) (j + 1) := by
  have hlt := h.lt
  have hlen := h.len
  refine ⟨by rw [List.length_set]; exact h.len, by omega, hj, ?_, fun m hm hm' hle => ?_⟩
  · rw [List.take_succ_eq_append_getElem hj, List.filter_append, ← h.done, List.take_succ_eq_append_getElem (by rw [List.length_set]; omega), List.getElem_set_self, List.take_set_of_le (Nat.le_refl _)]
    simp [hF]
  · rw [List.getElem_set_ne (by omega)]
    exact h.rest m hm (by simpa using hm') (by omega)
theorem tri_store {w : World} {g n c : Nat} {t : TypeId} {cs : List Tri} (h : RowAt w (some ⟨g, 0, none⟩) n c t 3 (flat encT cs)) {i : Nat} (hi : i < cs.length) (p : Tri) :
    RowAt (((w.setCell ⟨g, i * 3, none⟩ (.int .i64 p.1)).setCell ⟨g, i * 3 + 1, none⟩ (.int .i64 p.2.1)).setCell ⟨g, i * 3 + 2, none⟩ (.int .i64 p.2.2)) (some ⟨g, 0, none⟩) n c t 3 (flat encT (cs.set i p)) := by
  rw [← flat_sets encT_length p cs i hi]
  exact ((h.set _ _).set _ _).set _ _
theorem keeps3 (w : World) (g a b c : Nat) (x y z : Value) : Keeps (fun i => i = g) w (((w.setCell ⟨g, a, none⟩ x).setCell ⟨g, b, none⟩ y).setCell ⟨g, c, none⟩ z) :=
  ((Keeps.set_ w ⟨g, a, none⟩ x).trans (Keeps.set_ _ ⟨g, b, none⟩ y) (fun i h => .inl h)).trans (Keeps.set_ _ ⟨g, c, none⟩ z) (fun i h => .inl h)

set_option maxRecDepth 100000 in
set_option maxHeartbeats 4000000 in
theorem deleteT_any (g : FuncId) (lb : Array Value) (F : Tri → Bool) (eg : ∀ args w, (callFunc g args).run Try.prog w = .ok (.enter g args) w) (A : Option Addr) (n c : Nat) (ps : List Tri) (w : World) (S : Nat → Prop)
    (hp : PredAt3 w S g lb F) (h : RowAt w A n c 25 3 (flat encT ps)) (hS : ∀ g, blkOf A = some g → S g) (hN : ∀ p ∈ ps, Near p) (hm : n ≤ 1000000) :
    Calls Try.prog 26 #[.slice A n c, .func (.func g) #[] lb] w fun e w' => Keeps S w w' ∧
      ∃ m, e = .returned (.slice A m c) ∧ RowAt w' A m c 25 3 (flat encT (ps.filter fun p => !F p)) := by
  have HP := hid hp
  have HH := hid h
  have HN := hid hN
  have HL := hid (row_length encT_length (by omega) h)
  have HE := hid (ElemsAt.of_row encT_length (by omega) h)
  clear hp h hN
  go_enter Try.func26, Try.ntmps26
  go_wp2_with fail
  refine (indexT_any g lb F eg A n c ps w S HP.out HE.out HN.out hm).mono ?_
  rintro e w1 ⟨hB, ⟨hno, rfl⟩ | ⟨k, hk, hy, hbef, rfl⟩⟩
  · have HX : Hid (ps.filter (fun p => !F p) = ps) := hid (by
      rw [List.filter_eq_self]
      intro p hp
      obtain ⟨i, hi, rfl⟩ := List.mem_iff_getElem.1 hp
      rw [hno i hi]; rfl)
    clear hno
    go_wp2
    go_ret
    exact ⟨Keeps.of_below hB _, n, rfl, by rw [HX.out]; exact HH.out.below hB⟩
  · obtain ⟨gr, rfl⟩ : ∃ gr, A = some ⟨gr, 0, none⟩ := by obtain ⟨gr, hA, _⟩ := HH.out.elem encT_length (by omega) hk; exact ⟨gr, hA⟩
    have hSg := hS gr rfl
    have hn := HL.out
    have hneg : ((k : Int) == -1) = false := beqF (by omega)
    have HI0 : DelInv F ps ps k (k + 1) := ⟨rfl, by omega, by omega, by
      rw [List.take_succ_eq_append_getElem hk, List.filter_append, List.filter_eq_self.2]
      · simp [hy]
      · intro p hp
        obtain ⟨i, hi, rfl⟩ := List.mem_iff_getElem.1 hp
        have hi' : i < k := by simp at hi; omega
        rw [List.getElem_take, hbef i (by omega) hi']; rfl, fun m _ _ _ => rfl⟩
    have HI := hid HI0
    have HR := hid (HH.out.below hB)
    clear hbef hy HI0
    have HN1 := hid hn
    have hk6 : k < 1000000 := by omega
    clear hn hk
    go_wp2_with fail
    go_loopg [5, 6, 7] n (fun gg s5 s6 _ wr => ∃ (i j : Nat) (cs : List Tri), s5 = .int .i64 i ∧ s6 = .int .i64 j ∧ j ≤ n ∧ n - j ≤ gg ∧ Keeps S w wr ∧ RowAt wr (some ⟨gr, 0, none⟩) n c 25 3 (flat encT cs) ∧ Hid (DelInv F ps cs i j))
    case atStart => exact ⟨k, k + 1, ps, rfl, by go_num, by have := HI.out.jn; have := HN1.out; omega, by omega, Keeps.of_below hB _, HR.out, HI⟩
    case round =>
      obtain ⟨i, j, cs, rfl, rfl, hj, hg, hK, hR, HJ⟩ := hrel
      have hij := HJ.out.lt
      have hcl : cs.length = n := by have := HJ.out.len; have := HN1.out; omega
      have HC := hid hcl
      by_cases hlt : j < n
      · have hjl : j < cs.length := by omega
        have hjp : j < ps.length := by have := HN1.out; omega
        obtain ⟨x0, x1, x2⟩ := tri_own hR hjl
        have hltz : (j : Int) < (n : Int) := by omega
        have er := HJ.out.rest j hjp hjl (Nat.le_refl _)
        obtain ⟨p, E⟩ : ∃ p, Hid (ps[j] = p) := ⟨_, hid rfl⟩
        rw [er, E.out] at x0 x1 x2
        have hNp : Near p := by rw [← E.out]; exact HN.out _ (List.getElem_mem _)
        obtain ⟨p0, p1, p2⟩ := p
        dsimp only at x0 x1 x2
        have hA1 : Below wr.heap.size wr (wr.alloc (.cells #[.int .i64 p0, .int .i64 p1, .int .i64 p2] 25)) := (Below.refl _ _).alloc (Nat.le_refl _) _
        have HA1 := hid hA1
        have hcall := HP.out _ (p0, p1, p2) (hK.then_ hA1) hNp
        have HR1 := hid (hR.below hA1)
        have HB1 := hid (Blk.new wr 25 #[.int .i64 p0, .int .i64 p1, .int .i64 p2])
        have HK := hid hK
        have hgr := hR.lt (g := gr) rfl
        unfold aggT at hcall
        dsimp only at hcall
        clear hR er hNp hcl hA1 hK
        cases hq : F (p0, p1, p2) with
        | true =>
          rw [hq] at hcall
          have HQ := hid hq
          clear hq
          go_wp2_with (go_at_fn g; refine hcall.mono ?_; rintro e w' ⟨rfl, hb'⟩)
          go_roundg (n - (j + 1))
          case measure => omega
          case rel => exact ⟨i, j + 1, cs, rfl, by go_num, by omega, by omega, HK.out.then_ (HA1.out.trans (hb'.mono (by simp))), HR1.out.below hb', hid (HJ.out.skip hjp (by rw [E.out]; exact HQ.out))⟩
        | false =>
          rw [hq] at hcall
          have HQ := hid hq
          clear hq
          go_wp2_with fail
          refine hcall.mono ?_
          rintro e w2 ⟨rfl, hb'⟩
          have hR2 := HR1.out.below hb'
          have hB2 := Blk.keep HB1.out hb'
          have z0 : w2.cell? ⟨wr.heap.size, 0, none⟩ = some (.int .i64 p0) := by rw [Blk.cell hB2]; rfl
          have z1 : w2.cell? ⟨wr.heap.size, 1, none⟩ = some (.int .i64 p1) := by rw [Blk.cell hB2]; rfl
          have z2 : w2.cell? ⟨wr.heap.size, 2, none⟩ = some (.int .i64 p2) := by rw [Blk.cell hB2]; rfl
          have hil : i < cs.length := by have := HC.out; omega
          have hi6 : (i : Int) < (n : Int) := by omega
          have hi7 : (0 : Int) ≤ (i : Int) := by omega
          obtain ⟨y0, y1, y2⟩ := tri_own hR2 hil
          have f0 := hR2.frozen (i * 3)
          have f1 := hR2.frozen (i * 3 + 1)
          have f2 := hR2.frozen (i * 3 + 2)
          generalize cs[i].1 = o0 at y0
          generalize cs[i].2.1 = o1 at y1
          generalize cs[i].2.2 = o2 at y2
          have HR2 := hid hR2
          clear x0 x1 x2 hR2 hB2
          go_wp2_with fail
          go_roundg (n - (j + 1))
          case measure => omega
          case rel =>
            refine ⟨i + 1, j + 1, cs.set i (p0, p1, p2), by go_num, by go_num, by omega, by omega, ?_, tri_store HR2.out (by have := HC.out; omega) (p0, p1, p2), hid ?_⟩
            · exact ((HK.out.then_ HA1.out).then_ hb').trans (keeps3 _ _ _ _ _ _ _ _) (fun x hx => .inl (by subst hx; exact hSg))
            · have := HJ.out.keep hjp (by rw [E.out]; exact HQ.out)
              rw [E.out] at this
              exact this
      · obtain rfl : j = n := by omega
        have hltz : ¬ (j : Int) < (j : Int) := by omega
        have hic : i < j := hij
        obtain ⟨vs, hvl, hclr⟩ := run_clear_any (P := Try.prog) wr 22 25 0 (.agg #[.int .i64 0, .int .i64 0, .int .i64 0]) 3 Try.underlying22 (fun _ => by kernel_rfl) rfl (by omega) (by intro v hv; simp [Value.cells] at hv; subst hv; rfl) gr (i * 3) (j - i) (c - i) (by omega)
          (fun x hx => hR.some_ (by omega)) (fun x hx => hR.frozen _)
        have HR3 := hid hR
        obtain ⟨hc1, hc2⟩ := hR.cap
        have hc3 : i < c := by omega
        have hc4 : ¬ c = i := by omega
        have hi7 : (0 : Int) ≤ (i : Int) := by omega
        have hi8 : (i : Int) ≤ (j : Int) := by omega
        have hi9 : (j : Int) ≤ (c : Int) := by omega
        clear hcl hR
        go_wp2_with fail
        go_ret
        refine ⟨hK.trans (Keeps.setCells _ _ _ _) (fun x hx => .inl (by subst hx; exact hSg)), i, rfl, ?_⟩
        have hd := HJ.out.done
        rw [List.take_of_length_le (l := ps) (by rw [HN1.out]; exact Nat.le_refl _)] at hd
        rw [← hd, ← flat_take encT_length]
        exact RowAt.sets_past _ _ _ (HR3.out.pop i (by omega)) (Nat.le_refl _)
end Go.Proofs.Ytaagaamamjabbaa
