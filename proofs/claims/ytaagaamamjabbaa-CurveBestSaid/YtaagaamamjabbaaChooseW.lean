/-
  The walk of curve.Choose.
-/
import Derived.WalkKit
import Derived.WalkLawsBesides
import Derived.WalkSpells
import Derived.Deep.QuietTactic
import Derived.BigQuiet
import Derived.Deep.LoopGhost
import Derived.Deep.DeepCutAuto
import Derived.Deep.CutBlock
import Derived.Deep.AppendLies
import Derived.Deep.RegionHeld3
import Derived.Laws.ResultCell
import Derived.Laws.EntriesVeiled
import Derived.Test.YtaagaamamjabbaaChooseK
namespace Go.Proofs.Ytaagaamamjabbaa
open Go.RowKit
set_option linter.unusedVariables false

/-- what Choose holds: its boxes and the points that are left -/
structure ChAt (w0 w : World) (b3 b4 b6 b7 : Nat) (r : Int) (A : Option Addr) (m c : Nat) (ps : List Tri) : Prop where
  around : Blk w b3 3 #[.int .i64 r]
  quote : Blk w b4 29 #[.int .i64 0, .int .i64 0, .int .i64 0]
  left : Blk w b6 57 #[.func (.func 23) #[] #[]]
  best : Blk w b7 22 #[.slice A m c]
  row : RowAt w A m c 25 3 (flat encT ps)
  near : ∀ p ∈ ps, Near p
  below : Below w0.heap.size w0 w
  u3 : w0.heap.size ≤ b3
  u4 : w0.heap.size ≤ b4
  u6 : w0.heap.size ≤ b6
  u7 : w0.heap.size ≤ b7
  uA : ∀ g, blkOf A = some g → w0.heap.size ≤ g ∧ g ≠ b3 ∧ g ≠ b4 ∧ g ≠ b6 ∧ g ≠ b7
  n73 : b7 ≠ b3
  n74 : b7 ≠ b4
  n76 : b7 ≠ b6

section
variable {w0 w w' : World} {b3 b4 b6 b7 m c : Nat} {r : Int} {A : Option Addr} {ps : List Tri}
theorem ChAt.keep (h : ChAt w0 w b3 b4 b6 b7 r A m c ps) (hb : Below w.heap.size w w') : ChAt w0 w' b3 b4 b6 b7 r A m c ps :=
  ⟨Blk.keep h.around hb, Blk.keep h.quote hb, Blk.keep h.left hb, Blk.keep h.best hb, h.row.below hb, h.near, h.below.trans (hb.mono h.below.size), h.u3, h.u4, h.u6, h.u7, h.uA, h.n73, h.n74, h.n76⟩
theorem ChAt.kept (h : ChAt w0 w b3 b4 b6 b7 r A m c ps) {F : Tri → Int} {m' : Nat} (hk : Keeps (fun i => i = b7 ∨ blkOf A = some i) w w') (hb : Blk w' b7 22 #[.slice A m' c]) (hr : RowAt w' A m' c 25 3 (flat encT (keepL F ps))) :
    ChAt w0 w' b3 b4 b6 b7 r A m' c (keepL F ps) :=
  ⟨Blk.keeps h.around hk (fun e => e.elim (fun e => h.n73 e.symm) (fun e => (h.uA _ e).2.1 rfl)), Blk.keeps h.quote hk (fun e => e.elim (fun e => h.n74 e.symm) (fun e => (h.uA _ e).2.2.1 rfl)), Blk.keeps h.left hk (fun e => e.elim (fun e => h.n76 e.symm) (fun e => (h.uA _ e).2.2.2.1 rfl)),
    hb, hr, fun p hp => h.near p (keepL_sub hp), h.below.trans (hk.below (fun i e => e.elim (fun e => by rw [e]; exact h.u7) (fun e => (h.uA _ e).1)) h.below.size), h.u3, h.u4, h.u6, h.u7, h.uA, h.n73, h.n74, h.n76⟩
theorem ChAt.n7 (h : ChAt w0 w b3 b4 b6 b7 r A m c ps) : blkOf A ≠ some b7 := fun e => (h.uA _ e).2.2.2.2 rfl
theorem ChAt.step (h : ChAt w0 w b3 b4 b6 b7 r A m c ps) (g : FuncId) (lb : Array Value) (F : Tri → Int) (eg : ∀ args w, (callFunc g args).run Try.prog w = .ok (.enter g args) w) (hF : FnAt w (fun i => blkOf A = some i) g lb F) (hm : m ≤ 1000000) :
    Calls Try.prog 25 #[.func (.func g) #[] lb, .pointer (some ⟨b7, 0, none⟩)] w fun e w' => e = .returned (.tuple #[]) ∧ ∃ m', m' ≤ m ∧ (keepL F ps).length = m' ∧ ChAt w0 w' b3 b4 b6 b7 r A m' c (keepL F ps) := by
  refine (keep_any g lb F eg b7 A m c ps w hF h.best h.row h.n7 h.near hm).mono ?_
  rintro e w' ⟨rfl, hK, m', hb, hr⟩
  have e1 := row_length encT_length (by omega) hr
  have e2 := row_length encT_length (by omega) h.row
  exact ⟨rfl, m', by rw [← e1, ← e2]; exact List.length_filter_le _ _, e1, h.kept hK hb hr⟩
end

theorem ChAt.q {w0 w : World} {b3 b4 b6 b7 m c : Nat} {r : Int} {A : Option Addr} {ps : List Tri} (h : ChAt w0 w b3 b4 b6 b7 r A m c ps) :
    w.cell? ⟨b4, 0, none⟩ = some (.int .i64 0) ∧ w.cell? ⟨b4, 1, none⟩ = some (.int .i64 0) ∧ w.cell? ⟨b4, 2, none⟩ = some (.int .i64 0) ∧ w.frozen? ⟨b4, 0, none⟩ = false ∧ w.frozen? ⟨b4, 1, none⟩ = false ∧ w.frozen? ⟨b4, 2, none⟩ = false :=
  ⟨by rw [Blk.cell h.quote]; rfl, by rw [Blk.cell h.quote]; rfl, by rw [Blk.cell h.quote]; rfl, Blk.frozen h.quote 0, Blk.frozen h.quote 1, Blk.frozen h.quote 2⟩
theorem ChAt.y7 {w0 w : World} {b3 b4 b6 b7 m c : Nat} {r : Int} {A : Option Addr} {ps : List Tri} (h : ChAt w0 w b3 b4 b6 b7 r A m c ps) : w.cell? ⟨b7, 0, none⟩ = some (.slice A m c) := by rw [Blk.cell h.best]; rfl

theorem some_on {w w' : World} (hb : Below w.heap.size w w') {p : Addr} (h : (w.cell? p).isSome = true) : (w'.cell? p).isSome = true := by
  obtain ⟨v, hv⟩ := Option.isSome_iff_exists.1 h
  rw [cell_on hb hv]; rfl
theorem frozen_on {w w' : World} (hb : Below w.heap.size w w') {p : Addr} {v : Bool} (h : (w.cell? p).isSome = true) (hf : w.frozen? p = v) : w'.frozen? p = v := by
  obtain ⟨u, hu⟩ := Option.isSome_iff_exists.1 h
  exact (hb.frozen (World.block_lt_of_cell? w p hu)).trans hf
/-- what a cell holds, whatever that is -/
def valAt (w : World) (a : Addr) : Value := (w.cell? a).getD undef
theorem valAt_of {w : World} {a : Addr} (h : (w.cell? a).isSome = true) : w.cell? a = some (valAt w a) := by
  obtain ⟨v, hv⟩ := Option.isSome_iff_exists.1 h
  unfold valAt
  rw [hv]; rfl
theorem valAt_some {w : World} {a : Addr} {v : Value} (h : w.cell? a = some v) : w.cell? a = some (valAt w a) := valAt_of (by rw [h]; rfl)
def QS (g B : Nat) (v1 v2 v3 : Value) (w : World) : Prop :=
  (w.cell? ⟨g, 0, none⟩ = some v1 ∧ w.cell? ⟨g, 1, none⟩ = some v2 ∧ w.cell? ⟨g, 2, none⟩ = some v3) ∧ (w.cell? ⟨B, 0, none⟩ = some (valAt w ⟨B, 0, none⟩) ∧ w.cell? ⟨B, 1, none⟩ = some (valAt w ⟨B, 1, none⟩) ∧ w.cell? ⟨B, 2, none⟩ = some (valAt w ⟨B, 2, none⟩)) ∧
    w.frozen? ⟨B, 0, none⟩ = false ∧ w.frozen? ⟨B, 1, none⟩ = false ∧ w.frozen? ⟨B, 2, none⟩ = false
theorem q_keep {w w' : World} {g B : Nat} {v1 v2 v3 : Value} (hb : Below w.heap.size w w') (h : QS g B v1 v2 v3 w) : QS g B v1 v2 v3 w' :=
  ⟨⟨cell_on hb h.1.1, cell_on hb h.1.2.1, cell_on hb h.1.2.2⟩, ⟨valAt_some (cell_on hb h.2.1.1), valAt_some (cell_on hb h.2.1.2.1), valAt_some (cell_on hb h.2.1.2.2)⟩, frozen_on hb (by rw [h.2.1.1]; rfl) h.2.2.1, frozen_on hb (by rw [h.2.1.2.1]; rfl) h.2.2.2.1, frozen_on hb (by rw [h.2.1.2.2]; rfl) h.2.2.2.2⟩
theorem q_set {w : World} {g B : Nat} {v1 v2 v3 : Value} (hne : g ≠ B) (i : Nat) (x : Value) (h : QS g B v1 v2 v3 w) : QS g B v1 v2 v3 (w.setCell ⟨B, i, none⟩ x) := by
  have far : ∀ j, (w.setCell ⟨B, i, none⟩ x).cell? ⟨g, j, none⟩ = w.cell? ⟨g, j, none⟩ := fun j => World.cell?_of_block (Below.heap_setCell w ⟨B, i, none⟩ x g hne)
  have near : ∀ j v, w.cell? ⟨B, j, none⟩ = some v → (w.setCell ⟨B, i, none⟩ x).cell? ⟨B, j, none⟩ = some (valAt (w.setCell ⟨B, i, none⟩ x) ⟨B, j, none⟩) := fun j v hv => by
    obtain ⟨v', hy⟩ := cell?_setCell_some (w := w) (p := ⟨B, i, none⟩) (x := x) (q := ⟨B, j, none⟩) (v := v) hv
    exact valAt_some hy
  refine ⟨⟨(far 0).trans h.1.1, (far 1).trans h.1.2.1, (far 2).trans h.1.2.2⟩, ⟨near 0 _ h.2.1.1, near 1 _ h.2.1.2.1, near 2 _ h.2.1.2.2⟩, ?_, ?_, ?_⟩
  · simpa using h.2.2.1
  · simpa using h.2.2.2.1
  · simpa using h.2.2.2.2

/-- what Choose answers -/
def pick3 (r : Int) (b2 : List Tri) : List Tri :=
  if b2.any (fun p => decide ((p.2.1 - p.2.2) * 1 ≤ 0)) = false then keepL (fun p => p.1) b2
  else if b2.any (fun p => decide ((p.2.1 - p.2.2) * -1 ≤ 0)) = false then keepL (fun p => -p.1) b2
  else keepL (fun p => -p.1) (keepL (fun p => -max (p.1 - r) (r - p.1)) b2)
def quoteOf : List Tri → Tri
  | [] => (0, 0, 0)
  | p :: _ => (p.1, traded p, p.2.1 - p.2.2)
def chooseP (ps : List Tri) (r : Int) : Tri :=
  match keepL traded ps with
  | [] => (0, 0, 0)
  | p :: l => if traded p < 1 then (0, 0, 0) else quoteOf (pick3 r (keepL (fun p => -leftOf p) (p :: l)))

theorem choose_ret {w : World} {a : Act} {Q : Ending → World → Prop} {g : Nat} {cs : Array Value} (hp : a.tmps.getD 4 undef = .pointer (some ⟨g, 0, none⟩)) (hd : a.defers = [])
    (hg : Blk w g 29 cs) (h2 : cs.size = 3) (h : Q (.returned (.agg cs)) w) : bodyPost Try.prog Try.f7 Q .ret a w :=
  bodyPost_ret (results_cell_row Try.results7 a.tmps w g _ cs (0, 0) _ hp hg Try.underlying29 rfl (by rw [h2]; kernel_rfl)) hd h

set_option maxRecDepth 100000 in
set_option maxHeartbeats 4000000 in
theorem choose_any (A : Option Addr) (n c : Nat) (r : Int) (hr : -1099511627776 ≤ r ∧ r ≤ 1099511627776) (ps : List Tri) (w : World) (h : ElemsAt w encT 3 A n ps) (hN : ∀ p ∈ ps, Near p) (hm : n ≤ 100000) :
    Calls Try.prog 7 #[.slice A n c, .int .i64 r] w fun e w' => e = .returned (aggT (chooseP ps r)) ∧ Below w.heap.size w w' := by
  have hA2 : Below w.heap.size w (((w.alloc (.cells #[.int .i64 r] 3)).alloc (.cells #[.int .i64 0, .int .i64 0, .int .i64 0] 29)).alloc (.cells #[.func (.func 23) #[] #[]] 57)) := (((Below.refl _ w).alloc (Nat.le_refl _) _).alloc (by simp) _).alloc (by simp; omega) _
  have HH := hid (h.below hA2 (Nat.le_refl _))
  have HN := hid hN
  have HA2 := hid hA2
  clear h hN hA2
  go_enter Try.func7, Try.ntmps7
  go_wp2_with fail
  refine (cloneT_all A n c ps _ HH.out (by omega)).mono ?_
  rintro e w1 ⟨hB1, A', c', rfl, hup, hR⟩
  have hs1 := hB1.size
  simp at hs1
  have hC0 : ChAt w (w1.alloc (.cells #[.slice A' n c'] 22)) w.heap.size (w.heap.size + 1) (w.heap.size + 1 + 1) w1.heap.size r A' n c' ps := by
    have e3 : Blk (((w.alloc (.cells #[.int .i64 r] 3)).alloc (.cells #[.int .i64 0, .int .i64 0, .int .i64 0] 29)).alloc (.cells #[.func (.func 23) #[] #[]] 57)) w.heap.size 3 #[.int .i64 r] := Blk.alloc (Blk.alloc (Blk.new w _ _) _) _
    have e4 : Blk (((w.alloc (.cells #[.int .i64 r] 3)).alloc (.cells #[.int .i64 0, .int .i64 0, .int .i64 0] 29)).alloc (.cells #[.func (.func 23) #[] #[]] 57)) (w.heap.size + 1) 29 #[.int .i64 0, .int .i64 0, .int .i64 0] := by
      have := Blk.alloc (Blk.new (w.alloc (.cells #[.int .i64 r] 3)) 29 #[.int .i64 0, .int .i64 0, .int .i64 0]) (.cells #[.func (.func 23) #[] #[]] 57)
      simpa using this
    have e6 : Blk (((w.alloc (.cells #[.int .i64 r] 3)).alloc (.cells #[.int .i64 0, .int .i64 0, .int .i64 0] 29)).alloc (.cells #[.func (.func 23) #[] #[]] 57)) (w.heap.size + 1 + 1) 57 #[.func (.func 23) #[] #[]] := by
      have := Blk.new ((w.alloc (.cells #[.int .i64 r] 3)).alloc (.cells #[.int .i64 0, .int .i64 0, .int .i64 0] 29)) 57 #[.func (.func 23) #[] #[]]
      simpa using this
    refine ⟨Blk.alloc (Blk.keep e3 hB1) _, Blk.alloc (Blk.keep e4 hB1) _, Blk.alloc (Blk.keep e6 hB1) _, Blk.new _ _ _, hR.below ((Below.refl _ _).alloc (Nat.le_refl _) _), HN.out, HA2.out.trans ((hB1.alloc hB1.size _).mono (by simp; omega)), Nat.le_refl _, by omega, by omega, by omega, fun g hg => ?_, by omega, by omega, by omega⟩
    have h1 := hup g hg
    have h2 := hR.lt hg
    simp at h1
    omega
  have HC := hid hC0
  have hmf : ∀ (fn : Fn) (first cap : Array Value) (w : World), (Instr.makeFunc fn first cap).run Try.prog w = .ok (.func fn first cap) w := fun _ _ _ _ => rfl
  have HR := hid hR
  clear hC0 hR hB1
  go_wp2_with fail
  refine (HC.out.step _ _ _ (Go.Proofs.enters_of Try.func22 (by kernel_rfl) rfl) (traded_at _ _) (by omega)).mono ?_
  rintro e w2 ⟨rfl, m2, hm2, hl2, hC2⟩
  have HC2 := hid hC2
  have HL2 := hid hl2
  have y7 : w2.cell? ⟨w1.heap.size, 0, none⟩ = some (.slice A' m2 c') := by rw [Blk.cell hC2.best]; rfl
  clear hC2 hl2
  by_cases hz : m2 = 0
  · subst hz
    obtain ⟨d0, d1, d2, q0, q1, q2⟩ := HC2.out.q
    go_wp2_with fail
    try simp only [Exit.inBlock, Exit.then]
    refine choose_ret (g := w.heap.size + 1) (cs := #[.int .i64 0, .int .i64 0, .int .i64 0]) (by with_unfolding_all rfl) (by with_unfolding_all rfl) (Blk.set_ (Blk.set_ (Blk.set_ HC2.out.quote 0 _) 1 _) 2 _) rfl ?_
    have e0 : keepL traded ps = [] := List.eq_nil_of_length_eq_zero HL2.out
    refine ⟨by unfold chooseP; rw [e0]; rfl, ((HC2.out.below.setCell (by simp) _).setCell (by simp) _).setCell (by simp) _⟩
  · have t0 := beqF (show (m2 : Int) ≠ 0 by omega)
    obtain ⟨p, l, hpl⟩ : ∃ p l, keepL traded ps = p :: l := by
      cases hk : keepL traded ps with
      | nil => rw [hk] at HL2; exact absurd HL2.out.symm hz
      | cons p l => exact ⟨p, l, rfl⟩
    have hrow2 := HC2.out.row
    rw [hpl] at hrow2
    obtain ⟨gr, rfl⟩ : ∃ gr, A' = some ⟨gr, 0, none⟩ := by obtain ⟨gr, hA, _⟩ := hrow2.elem encT_length (by omega) (i := 0) (by simp); exact ⟨gr, hA⟩
    obtain ⟨x0, x1, x2⟩ := tri_own hrow2 (i := 0) (by simp)
    simp only [List.getElem_cons_zero, Nat.zero_mul, Nat.zero_add] at x0 x1 x2
    have hT := traded_any p w2
    obtain ⟨p0, p1, p2⟩ := p
    unfold aggT at hT
    dsimp only at x0 x1 x2 hT
    have hm3 : (0 : Int) < (m2 : Int) := by omega
    have HPL := hid hpl
    obtain ⟨t, HT⟩ : ∃ t, Hid (traded (p0, p1, p2) = t) := ⟨_, hid rfl⟩
    rw [HT.out] at hT
    clear hrow2 hpl
    go_wp2_with fail
    refine hT.mono ?_
    rintro e w3 ⟨rfl, hB3⟩
    have HC3 := hid (HC2.out.keep hB3)
    clear x0 x1 x2 hT y7
    by_cases hlt : t < 1
    · have dt := decT hlt
      obtain ⟨d0, d1, d2, q0, q1, q2⟩ := HC3.out.q
      have Hlt := hid hlt
      clear hlt
      go_wp2_with fail
      try simp only [Exit.inBlock, Exit.then]
      refine choose_ret (g := w.heap.size + 1) (cs := #[.int .i64 0, .int .i64 0, .int .i64 0]) (by with_unfolding_all rfl) (by with_unfolding_all rfl) (Blk.set_ (Blk.set_ (Blk.set_ HC3.out.quote 0 _) 1 _) 2 _) rfl ?_
      refine ⟨?_, ((HC3.out.below.setCell (by simp) _).setCell (by simp) _).setCell (by simp) _⟩
      have e1 : chooseP ps r = (0, 0, 0) := by unfold chooseP; rw [HPL.out]; show (if traded (p0, p1, p2) < 1 then _ else _) = _; rw [HT.out, if_pos Hlt.out]
      rw [e1]; rfl
    · have dt := decF hlt
      have HE1 : Hid (chooseP ps r = quoteOf (pick3 r (keepL (fun p => -leftOf p) ((p0, p1, p2) :: l)))) := hid (by unfold chooseP; rw [HPL.out]; show (if traded (p0, p1, p2) < 1 then _ else _) = _; rw [HT.out, if_neg hlt])
      clear hlt
      go_wp2_with fail
      rw [HPL.out] at HC3
      refine (HC3.out.step _ _ _ (Go.Proofs.enters_of Try.func28 (by kernel_rfl) rfl) (left_at _ _ _ HC3.out.left (fun e => (HC3.out.uA _ e).2.2.2.1 rfl)) (by omega)).mono ?_
      rintro e w4 ⟨rfl, m4, hm4, hl4, hC4⟩
      have hne4 : keepL (fun p => -leftOf p) ((p0, p1, p2) :: l) ≠ [] := keepL_ne _ (by simp)
      have HL4 := hid hl4
      generalize keepL (fun p => -leftOf p) ((p0, p1, p2) :: l) = ps4 at hne4 hC4 HL4 HE1
      have HC4 := hid hC4
      have hm40 : 0 < m4 := by have := HL4.out; have := List.length_pos_iff.2 hne4; omega
      have HNE := hid hne4
      clear hC4 hl4 hne4
      go_upto_block 0 with fail
      go_cut [38] (fun s38 wx => ∃ (m5 : Nat) (ps5 : List Tri), m5 ≤ n ∧ 0 < m5 ∧ ps5.length = m5 ∧ ChAt w wx w.heap.size (w.heap.size + 1) (w.heap.size + 1 + 1) w1.heap.size r (some ⟨gr, 0, none⟩) m5 c' ps5 ∧ Hid (pick3 r ps4 = ps5))
      case first =>
        have hS1 := side_any 1 (.inl rfl) w1.heap.size _ m4 c' ps4 w4 HC4.out.best HC4.out.row HC4.out.near (by omega)
        cases hb1 : ps4.any (fun p => decide ((p.2.1 - p.2.2) * 1 ≤ 0)) with
        | false =>
          rw [hb1] at hS1
          simp only [Bool.not_false] at hS1
          have HP3 : Hid (pick3 r ps4 = keepL (fun p => p.1) ps4) := hid (by unfold pick3; rw [if_pos hb1])
          clear hb1
          go_wp2_with fail
          refine hS1.mono ?_
          rintro e w5 ⟨rfl, hB5⟩
          have HC5 := hid (HC4.out.keep hB5)
          clear hS1
          go_wp2_with fail
          refine (HC5.out.step _ _ _ (Go.Proofs.enters_of Try.func32 (by kernel_rfl) rfl) (price_at _ _) (by omega)).mono ?_
          rintro e w6 ⟨rfl, m6, hm6, hl6, hC6⟩
          have hne6 : keepL (fun p => p.1) ps4 ≠ [] := keepL_ne _ HNE.out
          have hm60 : 0 < m6 := by have := List.length_pos_iff.2 hne6; omega
          have HC6 := hid hC6
          have HL6 := hid hl6
          clear hC6 hl6 hne6
          go_wp2_with fail
          go_meet
          exact ⟨m6, _, by omega, hm60, HL6.out, HC6.out, HP3⟩
        | true =>
          rw [hb1] at hS1
          simp only [Bool.not_true] at hS1
          have HB1 := hid hb1
          clear hb1
          go_wp2_with fail
          refine hS1.mono ?_
          rintro e w5 ⟨rfl, hB5⟩
          have HC5 := hid (HC4.out.keep hB5)
          clear hS1
          have hS2 := side_any (-1) (.inr rfl) w1.heap.size _ m4 c' ps4 w5 HC5.out.best HC5.out.row HC5.out.near (by omega)
          cases hb2 : ps4.any (fun p => decide ((p.2.1 - p.2.2) * -1 ≤ 0)) with
          | false =>
            rw [hb2] at hS2
            simp only [Bool.not_false] at hS2
            have HP3 : Hid (pick3 r ps4 = keepL (fun p => -p.1) ps4) := hid (by unfold pick3; rw [if_neg (by rw [HB1.out]; simp), if_pos hb2])
            clear hb2
            go_wp2_with fail
            refine hS2.mono ?_
            rintro e w6 ⟨rfl, hB6⟩
            have HC6 := hid (HC5.out.keep hB6)
            clear hS2
            go_wp2_with fail
            refine (HC6.out.step _ _ _ (Go.Proofs.enters_of Try.func33 (by kernel_rfl) rfl) (minus_at _ _) (by omega)).mono ?_
            rintro e w7 ⟨rfl, m7, hm7, hl7, hC7⟩
            have hne7 : keepL (fun p => -p.1) ps4 ≠ [] := keepL_ne _ HNE.out
            have hm70 : 0 < m7 := by have := List.length_pos_iff.2 hne7; omega
            have HC7 := hid hC7
            have HL7 := hid hl7
            clear hC7 hl7 hne7
            go_wp2_with fail
            go_meet
            exact ⟨m7, _, by omega, hm70, HL7.out, HC7.out, HP3⟩
          | true =>
            rw [hb2] at hS2
            simp only [Bool.not_true] at hS2
            have HP3 : Hid (pick3 r ps4 = keepL (fun p => -p.1) (keepL (fun p => -max (p.1 - r) (r - p.1)) ps4)) := hid (by unfold pick3; rw [if_neg (by rw [HB1.out]; simp), if_neg (by rw [hb2]; simp)])
            clear hb2
            go_wp2_with fail
            refine hS2.mono ?_
            rintro e w6 ⟨rfl, hB6⟩
            have HC6 := hid (HC5.out.keep hB6)
            clear hS2
            go_wp2_with fail
            refine (HC6.out.step _ _ _ (Go.Proofs.enters_of Try.func34 (by kernel_rfl) rfl) (far_at _ _ _ r hr HC6.out.around (fun e => (HC6.out.uA _ e).2.1 rfl)) (by omega)).mono ?_
            rintro e w7 ⟨rfl, m7, hm7, hl7, hC7⟩
            have hne7 : keepL (fun p => -max (p.1 - r) (r - p.1)) ps4 ≠ [] := keepL_ne _ HNE.out
            have HC7 := hid hC7
            have HN7 := hid hne7
            clear hC7 hl7 hne7
            go_wp2_with fail
            refine (HC7.out.step _ _ _ (Go.Proofs.enters_of Try.func35 (by kernel_rfl) rfl) (minus2_at _ _) (by omega)).mono ?_
            rintro e w8 ⟨rfl, m8, hm8, hl8, hC8⟩
            have hne8 : keepL (fun p => -p.1) (keepL (fun p => -max (p.1 - r) (r - p.1)) ps4) ≠ [] := keepL_ne _ HN7.out
            have hm80 : 0 < m8 := by have := List.length_pos_iff.2 hne8; omega
            have HC8 := hid hC8
            have HL8 := hid hl8
            clear hC8 hl8 hne8
            go_wp2_with fail
            go_meet
            exact ⟨m8, _, by omega, hm80, HL8.out, HC8.out, HP3⟩
      case rest =>
        obtain ⟨m5, ps5, hm5, hm50, hl5, hC5, HP5⟩ := hcut
        obtain ⟨q, l5, rfl⟩ : ∃ q l5, ps5 = q :: l5 := by
          cases ps5 with
          | nil => simp at hl5; omega
          | cons q l5 => exact ⟨q, l5, rfl⟩
        have hrow5 := hC5.row
        obtain ⟨x0, x1, x2⟩ := tri_own hrow5 (i := 0) (by simp)
        simp only [List.getElem_cons_zero, Nat.zero_mul, Nat.zero_add] at x0 x1 x2
        have y7 := hC5.y7
        have hNq := hC5.near q (by simp)
        have HQ : Hid (chooseP ps r = (q.1, traded q, q.2.1 - q.2.2)) := hid (by rw [HE1.out, HP5.out]; rfl)
        obtain ⟨p3, p4, p5⟩ := q
        dsimp only at x0 x1 x2
        have hm51 : (0 : Int) < (m5 : Int) := by omega
        have hA5 : Below wc.heap.size wc (wc.alloc (.cells #[.int .i64 p3, .int .i64 p4, .int .i64 p5] 25)) := (Below.refl _ _).alloc (Nat.le_refl _) _
        have HC5 := hid (hC5.keep hA5)
        have HZ := hid (Blk.new wc 25 #[.int .i64 p3, .int .i64 p4, .int .i64 p5])
        have hs5 := hC5.below.size
        have hs6 := Blk.lt hC5.quote
        have HC6 := hid hC5
        obtain ⟨⟨b1, b2⟩, ⟨b3, b4⟩, ⟨b5, b6⟩⟩ := hNq
        dsimp only at b1 b2 b3 b4 b5 b6
        clear hrow5 hC5 hA5
        have z0 : (wc.alloc (.cells #[.int .i64 p3, .int .i64 p4, .int .i64 p5] 25)).drew.cell? ⟨wc.heap.size, 0, none⟩ = some (.int .i64 p3) := by rw [Blk.cell (Blk.drew HZ.out)]; rfl
        have z1 : (wc.alloc (.cells #[.int .i64 p3, .int .i64 p4, .int .i64 p5] 25)).drew.cell? ⟨wc.heap.size, 1, none⟩ = some (.int .i64 p4) := by rw [Blk.cell (Blk.drew HZ.out)]; rfl
        have z2 : (wc.alloc (.cells #[.int .i64 p3, .int .i64 p4, .int .i64 p5] 25)).drew.cell? ⟨wc.heap.size, 2, none⟩ = some (.int .i64 p5) := by rw [Blk.cell (Blk.drew HZ.out)]; rfl
        have hq := (HC5.out.keep ((Below.refl _ _).drew)).q
        have hT := traded_any (p3, p4, p5)
        unfold aggT at hT
        dsimp only at hT
        obtain ⟨t5, HT5⟩ : ∃ t, Hid (traded (p3, p4, p5) = t) := ⟨_, hid rfl⟩
        rw [HT5.out] at hT
        have HTT := hid hT
        have hw45 : IntKind.i64.wrap (p4 - p5) = p4 - p5 := IntWalk.i64_in _ (by omega)
        clear hT
        go_wp2_with fail
        clear x0 x1 x2 y7
        go_region_held3 (fun w' => (w'.cell? ⟨wc.heap.size, 0, none⟩ = some (.int .i64 p3) ∧ w'.cell? ⟨wc.heap.size, 1, none⟩ = some (.int .i64 p4) ∧ w'.cell? ⟨wc.heap.size, 2, none⟩ = some (.int .i64 p5)) ∧
            (w'.cell? ⟨w.heap.size + 1, 0, none⟩ = some (valAt w' ⟨w.heap.size + 1, 0, none⟩) ∧ w'.cell? ⟨w.heap.size + 1, 1, none⟩ = some (valAt w' ⟨w.heap.size + 1, 1, none⟩) ∧ w'.cell? ⟨w.heap.size + 1, 2, none⟩ = some (valAt w' ⟨w.heap.size + 1, 2, none⟩)) ∧ w'.frozen? ⟨w.heap.size + 1, 0, none⟩ = false ∧ w'.frozen? ⟨w.heap.size + 1, 1, none⟩ = false ∧ w'.frozen? ⟨w.heap.size + 1, 2, none⟩ = false)
          (first | exact ⟨⟨z0, z1, z2⟩, ⟨valAt_some hq.1, valAt_some hq.2.1, valAt_some hq.2.2.1⟩, hq.2.2.2⟩ | assumption | exact q_keep (g := wc.heap.size) (B := w.heap.size + 1) hB9 (by assumption) | exact q_set (g := wc.heap.size) (B := w.heap.size + 1) (by omega) 2 _ (q_set (by omega) 1 _ (q_set (by omega) 0 _ (by assumption))))
          ((go_at_call 22; refine (HTT.out _).mono ?_; rintro e w9 ⟨rfl, hB9⟩))
        go_wp2_with fail
        try simp only [Exit.inBlock, Exit.then]
        have HC9 := (HC5.out.keep ((Below.refl _ _).drew)).keep hB9
        refine choose_ret (g := w.heap.size + 1) (cs := #[.int .i64 p3, .int .i64 t5, .int .i64 (p4 - p5)]) (by with_unfolding_all rfl) (by with_unfolding_all rfl) (Blk.set_ (Blk.set_ (Blk.set_ HC9.quote 0 _) 1 _) 2 _) rfl ?_
        refine ⟨?_, ((HC9.below.setCell (by simp) _).setCell (by simp) _).setCell (by simp) _⟩
        rw [HQ.out, ← HT5.out]
        rfl
end Go.Proofs.Ytaagaamamjabbaa
