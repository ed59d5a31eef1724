/-
  The walks of openbelllaw.sameOrders at the same orders, and of openbelllaw.same at a book and the document's.
-/
import Derived.WalkKit
import Derived.WalkLawsBesides
import Derived.WalkSpells
import Derived.Deep.QuietTactic
import Derived.BigQuiet
import Derived.Deep.LoopGhost
import Derived.Deep.DeepCutAuto
import Derived.Deep.CutBlock
import Derived.Laws.StructEq
import Derived.Test.YtkcgchpbjegneaaDoorBookLook
import Derived.Test.YtkcgchpbjegneaaDoorBookNew
import Derived.Test.YtkcgchpbjegneaaDoorBookDepth
import Derived.Test.YtkcgchpbjegneaaDoorIs
import Derived.Test.YtkcgchpbjegneaaDoorTwin
import Derived.Test.YtkcgchpbjegneaaDoorHeldT
namespace Go.Proofs.YtkcgchpbjegneaaDoor
open Go.RowKit
set_option linter.unusedVariables false

theorem order_ne (a b c d e : Int) (w : World) : (binOp .neq 30 (.agg #[.int .i64 a, .int .i64 b, .int .i64 c, .int .i64 d, .int .i64 e]) (.agg #[.int .i64 a, .int .i64 b, .int .i64 c, .int .i64 d, .int .i64 e])).run Tryd.prog w = .ok (.bool false) w := by
  have hf : Tryd.prog.underlying 30 = some (.struct (Tryd.prog.fieldsOf 30)) := by kernel_rfl
  have hs : Tryd.prog.stoodInHeld 30 = false := by kernel_rfl
  have hi : Tryd.prog.underlying 3 = some (.int .i64) := Tryd.underlying3
  rw [run_neq_struct, run_equalIn_agg _ _ _ _ _ hf hs]
  simp [Program.fieldsOf, Tryd.underlying30, Op.eqFields, go_sem, hi]
theorem level_ne (a b c : Int) (w : World) : (binOp .neq 93 (.agg #[.int .i64 a, .int .i64 b, .int .i64 c]) (.agg #[.int .i64 a, .int .i64 b, .int .i64 c])).run Tryd.prog w = .ok (.bool false) w := by
  have hf : Tryd.prog.underlying 93 = some (.struct (Tryd.prog.fieldsOf 93)) := by kernel_rfl
  have hs : Tryd.prog.stoodInHeld 93 = false := by kernel_rfl
  have hi : Tryd.prog.underlying 3 = some (.int .i64) := Tryd.underlying3
  rw [run_neq_struct, run_equalIn_agg _ _ _ _ _ hf hs]
  simp [Program.fieldsOf, Tryd.underlying93, Op.eqFields, go_sem, hi]

set_option maxRecDepth 100000 in
set_option maxHeartbeats 4000000 in
theorem sameOrders_any (A A2 : Option Addr) (n c c2 : Nat) (ps : List Ord5) (w : World) (h : ElemsAt w encO 5 A n ps) (h2 : ElemsAt w encO 5 A2 n ps) (hm : n ≤ 1000000) :
    Calls Tryd.prog 36 #[.slice A n c, .slice A2 n c2] w fun e w' => e = .returned (.bool true) ∧ Below w.heap.size w w' := by
  have HH := hid h
  have HH2 := hid h2
  have hl := h.1
  have HL := hid hl
  have e0 : ((n : Int) != (n : Int)) = false := bneF rfl
  clear h h2 hl
  go_enter Tryd.func36, Tryd.ntmps36
  go_wp2_with fail
  go_loopg [5] n (fun gg s5 wx => ∃ k : Nat, k ≤ n ∧ gg = n - k ∧ s5 = .int .i64 k ∧ Below w.heap.size w wx)
  case atStart => exact ⟨0, Nat.zero_le _, rfl, rfl, Below.refl _ _⟩
  case round =>
    obtain ⟨k, hk, rfl, rfl, hB⟩ := hrel
    by_cases hlt : k < n
    · have hkl : k < ps.length := by have := HL.out; omega
      obtain ⟨b, off, hA⟩ : ∃ b off, A = some ⟨b, off, none⟩ := by obtain ⟨b, off, h1, _⟩ := HH.out.2 (by omega); exact ⟨b, off, h1⟩
      obtain ⟨b2, off2, hA2⟩ : ∃ b off, A2 = some ⟨b, off, none⟩ := by obtain ⟨b, off, h1, _⟩ := HH2.out.2 (by omega); exact ⟨b, off, h1⟩
      subst hA hA2
      obtain ⟨x0, x1, x2, x3, x4⟩ := ord_at (HH.out.below hB (Nat.le_refl _)) hkl
      obtain ⟨y0, y1, y2, y3, y4⟩ := ord_at (HH2.out.below hB (Nat.le_refl _)) hkl
      have hltz : (k : Int) < (n : Int) := by omega
      have hi7 : (0 : Int) ≤ (k : Int) := by omega
      obtain ⟨o, eo⟩ : ∃ o, ps[k] = o := ⟨_, rfl⟩
      rw [eo] at x0 x1 x2 x3 x4 y0 y1 y2 y3 y4
      clear eo
      have hne := order_ne o.id o.side o.kind o.price o.qty
      go_wp2_with fail
      go_quiet (fail)
      go_wp2_with fail
      go_roundg (n - (k + 1))
      case measure => omega
      case rel => exact ⟨k + 1, by omega, rfl, by go_num, drewN_below hB _⟩
    · obtain rfl : k = n := by omega
      have hltz : ¬ (k : Int) < (k : Int) := by omega
      go_wp2
      go_ret
      exact ⟨rfl, hB⟩

section
variable {P : Program} {Q : Exit → Act → World → Prop} {md : Region.Mode} {S : World → Prop} {l rest : List Oper} {oi : Oper} {fuel : Nat} {listed : Array Bool} {a : Act} {w : World}
theorem takeH (i d : Nat) (v : Value) (hl : l.drop i = oi :: rest) (hd : oi.dst = some d) (hs : Region.noSelect l.toArray = true) (hf : Region.free md l.toArray listed i = true) (hr : (Region.ready md l.toArray listed).contains i = true)
    (hQ : ∀ c a w, Q (.panic c) (a.put oi.dst v) w → Q (.panic c) a w) (hwn : Region.wanted oi (yielded l.toArray a.tmps) = true) (hy : ∀ w, S w → (execOp a.eval oi).run P w = .ok (.value v) w) (hS : S w)
    (h : wpAnyH P md l.toArray Q S fuel (listed.setIfInBounds i true) (a.put (some d) v) w) : wpAnyH P md l.toArray Q S (fuel + 1) listed a w :=
  wpAnyH_take (at_drop hl) hs hf hr hQ (.inl ⟨hwn, hy⟩) hS (by rw [hd]; exact h)
theorem skipH (i d : Nat) (hl : l.drop i = oi :: rest) (hd : oi.dst = some d) (hs : Region.noSelect l.toArray = true) (hf : Region.free md l.toArray listed i = true) (hr : (Region.ready md l.toArray listed).contains i = true)
    (hQ : ∀ c a w, Q (.panic c) (a.put oi.dst undef) w → Q (.panic c) a w) (hwn : Region.wanted oi (yielded l.toArray a.tmps) = false) (hS : S w)
    (h : wpAnyH P md l.toArray Q S fuel (listed.setIfInBounds i true) (a.put (some d) undef) w) : wpAnyH P md l.toArray Q S (fuel + 1) listed a w :=
  wpAnyH_take (at_drop hl) hs hf hr hQ (.inr ⟨hwn, rfl⟩) hS (by rw [hd]; exact h)
theorem oneH (i : Nat) (hr : Region.ready md l.toArray listed = [i]) (ho : l.drop i = oi :: rest)
    (h : ∀ K' : Act → World → Prop, (∀ a w, S w → (S w → wpAnyH P md l.toArray Q S fuel (listed.setIfInBounds i true) a w) → K' a w) → if Region.wanted oi (yielded l.toArray a.tmps) = true then Oper.wp P oi a w K' Q else K' (a.put oi.dst undef) w) : wpAnyH P md l.toArray Q S (fuel + 1) listed a w :=
  wpAnyH_all hr (by simp) (fun j hj => by
    rw [List.mem_singleton] at hj
    subst hj
    exact wpOp_step (at_drop ho) fun K' hK => h K' (fun a w hS hw => hK a w ⟨hS, hw hS⟩))
theorem region_held_drew {ops : Array Oper} {id : Nat} (S : World → Prop) (hm : P.follows .mixedOrders = true) (hS : S w.drew)
    (h : S w.drew → wpAnyH P .any ops Q S ops.size (Array.replicate ops.size false) a w.drew) : (Code.region id ops true).wp P Q a w := wp_region_held hm (h hS)
end
theorem errIs_errV (w : World) (e : Int) : ErrIs w (errV e) e (-1) := by
  unfold errV
  by_cases h : e = 0
  · rw [if_pos h]; exact .inl ⟨rfl, h, rfl⟩
  · rw [if_neg h]; exact .inr (.inl ⟨rfl, rfl⟩)
theorem Twin.small {L L1 L2 : List Ord5} (h : Twin L L1 L2) (hl : ListsOk L1 L2) : L.length ≤ 100 := by
  have h1 := h.len
  have h2 := hl.cnt
  rw [List.length_append] at h2
  omega
theorem rsideL_len (s : Int) (L : List Ord5) : (rsideL s L).length ≤ L.length := by
  unfold rsideL
  rw [stabL_length]
  exact onSide_len s L
theorem depthL_len (l : List Ord5) : (depthL l).length ≤ l.length := by
  have key : ∀ (l : List Ord5) (acc : List Tri), (l.foldl depF acc).length ≤ acc.length + l.length := by
    intro l
    induction l with
    | nil => intro acc; simp
    | cons o t ih =>
      intro acc
      rw [List.foldl_cons, List.length_cons]
      refine Nat.le_trans (ih _) ?_
      have : (depF acc o).length ≤ acc.length + 1 := by
        unfold depF
        split
        · omega
        · split
          · rename_i x hx
            split
            · have : acc ≠ [] := fun e => by rw [e] at hx; cases hx
              have := List.length_pos_iff.2 this
              rw [List.length_append, List.length_dropLast, List.length_singleton]
              omega
            · simp
          · simp
      omega
  have := key l []
  rw [List.length_nil, Nat.zero_add] at this
  exact this
/-- the document's looks at a side -/
structure Looks (w : World) (b B : Nat) (L : List Ord5) (s : Int) (ls : List Ord5) (n : Nat) : Prop where
  rside : ∀ W, Below w.heap.size w W → Calls Tryd.prog 35 #[.pointer (some ⟨B, 0, none⟩), .int .i64 s] W fun e w' => Below w.heap.size w w' ∧ ∃ A' c', e = .returned (.slice A' n c') ∧ RowAt w' A' n c' 30 5 (flat encO ls)
  bside : ∀ W, Below w.heap.size w W → Calls Tryd.prog 15 #[.pointer (some ⟨b, 0, none⟩), .int .i64 s] W fun e w' => Below W.heap.size W w' ∧ ∃ A' c', e = .returned (.tuple #[.slice A' n c', .nilIface]) ∧ RowAt w' A' n c' 30 5 (flat encO ls)
  best : ∀ W, Below w.heap.size w W → Calls Tryd.prog 16 #[.pointer (some ⟨b, 0, none⟩), .int .i64 s] W fun e w' => Below W.heap.size W w' ∧ e = .returned (.tuple #[aggO (bestO ls), errV (bestE ls)])
  rdepth : ∀ W, Below w.heap.size w W → Calls Tryd.prog 37 #[.pointer (some ⟨B, 0, none⟩), .int .i64 s] W fun e w' => Below W.heap.size W w' ∧ ∃ A' c', e = .returned (.slice A' (depthL ls).length c') ∧ RowAt w' A' (depthL ls).length c' 93 3 (flat encT (depthL ls))
  bdepth : ∀ W, Below w.heap.size w W → Calls Tryd.prog 17 #[.pointer (some ⟨b, 0, none⟩), .int .i64 s] W fun e w' => Below W.heap.size W w' ∧ ∃ A' c', e = .returned (.tuple #[.slice A' (depthL ls).length c', .nilIface]) ∧ RowAt w' A' (depthL ls).length c' 93 3 (flat encT (depthL ls))
  small : n ≤ 100
  len : ls.length = n
theorem looks_of {w : World} {b B : Nat} {G : Nat → Prop} {L L1 L2 : List Ord5} {t : TypeId} {cs : Array Value} {A : Option Addr} (h : BookAt w b G L1 L2) (hr : RefB w B t cs 0 A L) (ht : Twin L L1 L2) {s : Int} (hs : Is12 s) : Looks w b B L s (rsideL s L) (rsideL s L).length := by
  have hn := ht.small h.lists
  have e := ht.side hs
  have hp : ∀ o ∈ onSide s L, -1000000000 ≤ o.price ∧ o.price ≤ 1000000000 := fun o ho => by
    have := (ht.ok o (List.mem_filter.1 ho).1).1.2.2.1
    omega
  have hq : ∀ o ∈ rsideL s L, 0 ≤ o.qty ∧ o.qty ≤ 1000000 := fun o ho => by
    have := (ht.ok o (rsideL_mem.1 ho).1).1.2.2.2
    omega
  have hl := rsideL_len s L
  refine ⟨fun W hW => ?_, fun W hW => ?_, fun W hW => ?_, fun W hW => ?_, fun W hW => ?_, by omega, rfl⟩
  · exact (rside_ref (hr.below hW) (by omega) s hp).mono fun e w' ⟨h1, A', c', h2, h3, _⟩ => ⟨hW.trans (h1.mono hW.size), A', c', h2, h3⟩
  · have := bookSide_any W b G L1 L2 (h.below hW) s hs
    rw [e] at this
    exact this.mono fun e w' ⟨h1, A', c', h2, h3, _⟩ => ⟨h1, A', c', h2, h3⟩
  · have := bookBest_any W b G L1 L2 (h.below hW) s hs
    rw [e] at this
    exact this
  · exact rdepth_any W B t cs 0 A L (hr.below hW) (by omega) s hp hq (by omega)
  · have := bookDepth_any W b G L1 L2 (h.below hW) s hs
    rw [e] at this
    exact this

set_option maxRecDepth 100000 in
set_option maxHeartbeats 4000000 in
theorem same_any (w : World) (b B : Nat) (G : Nat → Prop) (L L1 L2 : List Ord5) (t : TypeId) (cs : Array Value) (A : Option Addr) (h : BookAt w b G L1 L2) (hr : RefB w B t cs 0 A L) (ht : Twin L L1 L2) (hE : ErrType w) :
    Calls Tryd.prog 14 #[.pointer (some ⟨b, 0, none⟩), .pointer (some ⟨B, 0, none⟩)] w fun e w' => e = .returned (.bool true) ∧ Below w.heap.size w w' := by
  have HK := hid (fun s (hs : Is12 s) => looks_of h hr ht hs)
  have HM := hid (fun W (hW : Below w.heap.size w W) => bookMany_any W b G L1 L2 (h.below hW))
  have HR := hid hr
  have HL := hid ht.len
  have HE := hid hE
  clear h hr ht hE
  go_enter Tryd.func14, Tryd.ntmps14
  go_wp2_with fail
  go_loopg [5] 2 (fun gg s5 wx => ∃ k : Nat, 1 ≤ k ∧ k ≤ 3 ∧ gg = 3 - k ∧ s5 = .int .i64 k ∧ Below w.heap.size w wx)
  case atStart => exact ⟨1, by omega, by omega, rfl, rfl, Below.refl _ _⟩
  case round =>
    obtain ⟨k, hk1, hk3, rfl, rfl, hB⟩ := hrel
    by_cases hlt : k ≤ 2
    · have hltz : (k : Int) ≤ 2 := by omega
      have HLo := hid (HK.out (k : Int) (by have : k = 1 ∨ k = 2 := (by omega); rcases this with rfl | rfl; exact .inl rfl; exact .inr rfl))
      obtain ⟨ls, els⟩ : ∃ l, rsideL (k : Int) L = l := ⟨_, rfl⟩
      rw [els] at HLo
      clear els
      obtain ⟨n, en⟩ : ∃ n, ls.length = n := ⟨_, rfl⟩
      rw [en] at HLo
      clear en
      go_wp2_with fail
      refine (HLo.out.rside _ hB).mono ?_
      rintro e w2 ⟨hB2, A2, c2, rfl, hr2⟩
      clear hB
      have HR2 := hid (ElemsAt.of_row encO_length (by omega) hr2)
      clear hr2
      go_wp2_with fail
      refine (HLo.out.bside _ hB2).mono ?_
      rintro e w3 ⟨hb, A3, c3, rfl, hr3⟩
      have HR2 := hid (HR2.out.below hb (Nat.le_refl _))
      have HR3 := hid (ElemsAt.of_row encO_length (by omega) hr3)
      have hB3 := hB2.trans (hb.mono hB2.size)
      clear hb hr3 hB2
      go_wp2_with (go_at_call 36; refine (sameOrders_any _ _ _ _ _ _ _ HR3.out HR2.out (by have := HLo.out.small; omega)).mono ?_; rintro e w4 ⟨rfl, hb⟩; have HB4 := hid (hB3.trans (hb.mono hB3.size)); have HR4 := hid (HR2.out.below hb (Nat.le_refl _)); clear hb)
      go_wp2_with fail
      refine (HLo.out.best _ HB4.out).mono ?_
      rintro e w5 ⟨hb, rfl⟩
      have HB5 := hid (HB4.out.trans (hb.mono HB4.out.size))
      have HR5 := hid (HR4.out.below hb (Nat.le_refl _))
      clear hb hB3 HB4 HR4
      obtain ⟨⟨i1, i2, i3, i4, i5⟩, hbo⟩ : ∃ o, Hid (bestO ls = o) := ⟨_, hid rfl⟩
      rw [hbo.out, show aggO (⟨i1, i2, i3, i4, i5⟩ : Ord5) = .agg #[.int .i64 i1, .int .i64 i2, .int .i64 i3, .int .i64 i4, .int .i64 i5] from rfl]
      obtain ⟨ev, hev⟩ : ∃ o, Hid (errV (bestE ls) = o) := ⟨_, hid rfl⟩
      rw [hev.out]
      have hbl : ∀ o t, ls = o :: t → (⟨i1, i2, i3, i4, i5⟩ : Ord5) = o := fun o t e => by rw [← hbo.out, e]; rfl
      have HBl := hid hbl
      clear hbl
      go_upto_region 9 with fail
      obtain ⟨w6, ew6⟩ : ∃ W, (w5.alloc (.cells #[.int .i64 i1, .int .i64 i2, .int .i64 i3, .int .i64 i4, .int .i64 i5] 30)) = W := ⟨_, rfl⟩
      obtain ⟨g5, eg5⟩ : ∃ g, w5.heap.size = g := ⟨_, rfl⟩
      have HX6 := hid (Blk.new w5 30 #[.int .i64 i1, .int .i64 i2, .int .i64 i3, .int .i64 i4, .int .i64 i5])
      rw [ew6, eg5] at HX6
      have hb56 : Below w5.heap.size w5 w6 := by rw [← ew6]; exact (Below.refl _ _).alloc (Nat.le_refl _) _
      have HB6 := hid (HB5.out.trans (hb56.mono HB5.out.size))
      have HR6 := hid (HR5.out.below hb56 (Nat.le_refl _))
      rw [ew6, eg5]
      clear hb56 ew6 eg5 HB5 HR5
      go_cut [63] (fun s63 wx => s63 = .bool false ∧ Below w.heap.size w wx)
      case first =>
        by_cases hn : n = 0
        · have d1 : ((n : Int) == 0) = true := beqT (by omega)
          have d2 : decide ((0 : Int) < (n : Int)) = false := decF (by omega)
          have d3 : decide (0 < n) = false := decF (by omega)
          have hev8 : ev = .iface 37 (.int .i64 8) := by rw [← hev.out, List.length_eq_zero_iff.1 (HLo.out.len.trans hn)]; rfl
          subst hev8
          have HE6 := hid (HE.out.below HB6.out (Nat.le_refl _))
          have nn : ¬ (0 : Int) < (n : Int) := by omega
          clear hn
          have HE7 := hid (HE.out.below HB6.out.drew (Nat.le_refl _))
          have eeq : errV 8 = .iface 37 (.int .i64 8) := rfl
          have HEI := hid (errIs_errV w6.drew 8)
          rw [eeq] at HEI
          clear eeq
          refine region_held_drew (fun W => Below w.heap.size w W) (by kernel_rfl) HB6.out.drew (fun hS => ?_)
          refine takeH 0 40 (.slice A2 n c2) rfl rfl (by kernel_rfl) (by kernel_rfl) (by kernel_rfl) (fun _ _ _ h => h) (by rfl) ?_ (by assumption) ?_
          · intro W hSw; go_simp
          simp only [Act.put, List.setIfInBounds_toArray, List.set_cons_zero, List.set_cons_succ]
          refine takeH 1 41 (.int .i64 n) rfl rfl (by kernel_rfl) (by kernel_rfl) (by kernel_rfl) (fun _ _ _ h => h) (by rfl) ?_ (by assumption) ?_
          · intro W hSw; go_simp
          simp only [Act.put, List.setIfInBounds_toArray, List.set_cons_zero, List.set_cons_succ]
          refine takeH 2 42 (.bool true) rfl rfl (by kernel_rfl) (by kernel_rfl) (by kernel_rfl) (fun _ _ _ h => h) (by rfl) ?_ (by assumption) ?_
          · intro W hSw; go_simp
          simp only [Act.put, List.setIfInBounds_toArray, List.set_cons_zero, List.set_cons_succ]
          refine takeH 3 43 (.bool true) rfl rfl (by kernel_rfl) (by kernel_rfl) (by kernel_rfl) (fun _ _ _ h => h) (by rfl) ?_ (by assumption) ?_
          · intro W hSw; go_simp
          simp only [Act.put, List.setIfInBounds_toArray, List.set_cons_zero, List.set_cons_succ]
          refine takeH 4 44 (Value.iface 37 (.int .i64 8)) rfl rfl (by kernel_rfl) (by kernel_rfl) (by kernel_rfl) (fun _ _ _ h => h) (by rfl) ?_ (by assumption) ?_
          · intro W hSw; go_simp
          simp only [Act.put, List.setIfInBounds_toArray, List.set_cons_zero, List.set_cons_succ]
          refine oneH 5 (by kernel_rfl) rfl (fun K1 hK1 => ?_)
          go_simp
          go_at_call 5
          refine (bare_any (.iface 37 (.int .i64 8)) 8 (-1) 8 w6.drew HE7.out HEI.out).mono ?_
          rintro e w9 ⟨rfl, hb9⟩
          refine hK1 _ _ (HB6.out.drew.trans (hb9.mono HB6.out.drew.size)) (fun hS => ?_)
          clear hK1
          refine takeH 6 46 (.bool false) rfl rfl (by kernel_rfl) (by kernel_rfl) (by kernel_rfl) (fun _ _ _ h => h) (by rfl) ?_ (by assumption) ?_
          · intro W hSw; go_simp
          simp only [Act.put, List.setIfInBounds_toArray, List.set_cons_zero, List.set_cons_succ]
          refine takeH 7 47 (.bool false) rfl rfl (by kernel_rfl) (by kernel_rfl) (by kernel_rfl) (fun _ _ _ h => h) (by rfl) ?_ (by assumption) ?_
          · intro W hSw; go_simp
          simp only [Act.put, List.setIfInBounds_toArray, List.set_cons_zero, List.set_cons_succ]
          refine takeH 8 48 (.bool false) rfl rfl (by kernel_rfl) (by kernel_rfl) (by kernel_rfl) (fun _ _ _ h => h) (by rfl) ?_ (by assumption) ?_
          · intro W hSw; go_simp
          simp only [Act.put, List.setIfInBounds_toArray, List.set_cons_zero, List.set_cons_succ]
          refine takeH 9 49 (.slice A2 n c2) rfl rfl (by kernel_rfl) (by kernel_rfl) (by kernel_rfl) (fun _ _ _ h => h) (by rfl) ?_ (by assumption) ?_
          · intro W hSw; go_simp
          simp only [Act.put, List.setIfInBounds_toArray, List.set_cons_zero, List.set_cons_succ]
          refine takeH 10 50 (.int .i64 n) rfl rfl (by kernel_rfl) (by kernel_rfl) (by kernel_rfl) (fun _ _ _ h => h) (by rfl) ?_ (by assumption) ?_
          · intro W hSw; go_simp
          simp only [Act.put, List.setIfInBounds_toArray, List.set_cons_zero, List.set_cons_succ]
          refine takeH 11 51 (.bool false) rfl rfl (by kernel_rfl) (by kernel_rfl) (by kernel_rfl) (fun _ _ _ h => h) (by rfl) ?_ (by assumption) ?_
          · intro W hSw; go_simp
          simp only [Act.put, List.setIfInBounds_toArray, List.set_cons_zero, List.set_cons_succ]
          refine takeH 12 52 (.bool false) rfl rfl (by kernel_rfl) (by kernel_rfl) (by kernel_rfl) (fun _ _ _ h => h) (by rfl) ?_ (by assumption) ?_
          · intro W hSw; go_simp
          simp only [Act.put, List.setIfInBounds_toArray, List.set_cons_zero, List.set_cons_succ]
          refine skipH 13 53 rfl rfl (by kernel_rfl) (by kernel_rfl) (by kernel_rfl) (fun _ _ _ h => h) (by rfl) (by assumption) ?_
          simp only [Act.put, List.setIfInBounds_toArray, List.set_cons_zero, List.set_cons_succ]
          refine skipH 14 54 rfl rfl (by kernel_rfl) (by kernel_rfl) (by kernel_rfl) (fun _ _ _ h => h) (by rfl) (by assumption) ?_
          simp only [Act.put, List.setIfInBounds_toArray, List.set_cons_zero, List.set_cons_succ]
          refine skipH 15 55 rfl rfl (by kernel_rfl) (by kernel_rfl) (by kernel_rfl) (fun _ _ _ h => h) (by rfl) (by assumption) ?_
          simp only [Act.put, List.setIfInBounds_toArray, List.set_cons_zero, List.set_cons_succ]
          refine skipH 16 56 rfl rfl (by kernel_rfl) (by kernel_rfl) (by kernel_rfl) (fun _ _ _ h => h) (by rfl) (by assumption) ?_
          simp only [Act.put, List.setIfInBounds_toArray, List.set_cons_zero, List.set_cons_succ]
          refine skipH 17 57 rfl rfl (by kernel_rfl) (by kernel_rfl) (by kernel_rfl) (fun _ _ _ h => h) (by rfl) (by assumption) ?_
          simp only [Act.put, List.setIfInBounds_toArray, List.set_cons_zero, List.set_cons_succ]
          refine skipH 18 58 rfl rfl (by kernel_rfl) (by kernel_rfl) (by kernel_rfl) (fun _ _ _ h => h) (by rfl) (by assumption) ?_
          simp only [Act.put, List.setIfInBounds_toArray, List.set_cons_zero, List.set_cons_succ]
          refine skipH 19 59 rfl rfl (by kernel_rfl) (by kernel_rfl) (by kernel_rfl) (fun _ _ _ h => h) (by rfl) (by assumption) ?_
          simp only [Act.put, List.setIfInBounds_toArray, List.set_cons_zero, List.set_cons_succ]
          refine skipH 20 60 rfl rfl (by kernel_rfl) (by kernel_rfl) (by kernel_rfl) (fun _ _ _ h => h) (by rfl) (by assumption) ?_
          simp only [Act.put, List.setIfInBounds_toArray, List.set_cons_zero, List.set_cons_succ]
          refine skipH 21 61 rfl rfl (by kernel_rfl) (by kernel_rfl) (by kernel_rfl) (fun _ _ _ h => h) (by rfl) (by assumption) ?_
          simp only [Act.put, List.setIfInBounds_toArray, List.set_cons_zero, List.set_cons_succ]
          refine takeH 22 62 (.bool false) rfl rfl (by kernel_rfl) (by kernel_rfl) (by kernel_rfl) (fun _ _ _ h => h) (by rfl) ?_ (by assumption) ?_
          · intro W hSw; go_simp
          simp only [Act.put, List.setIfInBounds_toArray, List.set_cons_zero, List.set_cons_succ]
          refine takeH 23 63 (.bool false) rfl rfl (by kernel_rfl) (by kernel_rfl) (by kernel_rfl) (fun _ _ _ h => h) (by rfl) ?_ (by assumption) ?_
          · intro W hSw; go_simp
          simp only [Act.put, List.setIfInBounds_toArray, List.set_cons_zero, List.set_cons_succ]
          refine wpAnyH_done (by kernel_rfl) ?_ _
          go_wp2_with fail
          go_meet
          exact ⟨rfl, hS⟩
        · obtain ⟨o, tl, hls⟩ : ∃ o tl, ls = o :: tl := by
            cases ls with
            | nil => exact absurd (HLo.out.len.symm.trans rfl) hn
            | cons o tl => exact ⟨o, tl, rfl⟩
          have d1 : ((n : Int) == 0) = false := beqF (by omega)
          have d2 : decide ((0 : Int) < (n : Int)) = true := decT (by omega)
          have d3 : decide (0 < n) = true := decT (by omega)
          have hev0 : ev = .nilIface := by rw [← hev.out, hls]; rfl
          have hnz : (0 : Int) < (n : Int) := by omega
          have hlp : 0 < ls.length := by have := HLo.out.len; omega
          obtain ⟨gb, ob, hA⟩ : ∃ b off, A2 = some ⟨b, off, none⟩ := by obtain ⟨b, off, h1, _⟩ := HR6.out.2 (by omega); exact ⟨b, off, h1⟩
          subst hA hev0
          obtain ⟨x0, x1, x2, x3, x4⟩ := ord_at HR6.out hlp
          have e0 : ls[0] = ⟨i1, i2, i3, i4, i5⟩ := by subst hls; exact (HBl.out o tl rfl).symm
          rw [e0] at x0 x1 x2 x3 x4
          obtain ⟨y0, y1, y2, y3, y4⟩ := ord_box (o := ⟨i1, i2, i3, i4, i5⟩) HX6.out
          have hne := order_ne i1 i2 i3 i4 i5
          clear e0 hls hn
          dsimp only at x0 x1 x2 x3 x4
          simp only [Nat.zero_mul, Nat.add_zero] at x0 x1 x2 x3 x4
          go_quiet (fail)
          go_wp2_with fail
          go_meet
          exact ⟨rfl, drewN_below HB6.out _⟩
      case rest =>
        obtain ⟨rfl, hB7⟩ := hcut
        clear HX6 HR6 HB6 HBl hbo hev
        go_wp2_with fail
        refine (HLo.out.rdepth _ hB7).mono ?_
        rintro e w8 ⟨hb, A8, c8, rfl, hr8⟩
        have HR8 := hid (ElemsAt.of_row encT_length (by omega) hr8)
        have hB8 := hB7.trans (hb.mono hB7.size)
        clear hb hr8 hB7
        go_wp2_with fail
        refine (HLo.out.bdepth _ hB8).mono ?_
        rintro e w9 ⟨hb, A9, c9, rfl, hr9⟩
        have HR9 := hid (ElemsAt.of_row encT_length (by omega) hr9)
        have HR8 := hid (HR8.out.below hb (Nat.le_refl _))
        have HB9 := hid (hB8.trans (hb.mono hB8.size))
        clear hb hr9 hB8
        have HDl := hid (Nat.le_trans (depthL_len ls) (Nat.le_trans (Nat.le_of_eq HLo.out.len) HLo.out.small))
        obtain ⟨dl, edl⟩ : ∃ l, depthL ls = l := ⟨_, rfl⟩
        rw [edl] at HR8 HR9 HDl ⊢
        clear edl
        obtain ⟨m, hm⟩ : ∃ m, dl.length = m := ⟨_, rfl⟩
        rw [hm] at HR8 HR9 HDl ⊢
        have Hm := hid hm
        clear hm
        have e1 : ((m : Int) != (m : Int)) = false := bneF rfl
        go_wp2_with fail
        go_loopg [12] m (fun gg s12 wx => ∃ j : Nat, j ≤ m ∧ gg = m - j ∧ s12 = .int .i64 j ∧ Below w9.heap.size w9 wx)
        case atStart => exact ⟨0, Nat.zero_le _, rfl, rfl, Below.refl _ _⟩
        case round =>
          obtain ⟨j, hj, rfl, rfl, hBj⟩ := hrel
          by_cases hjl : j < m
          · have hjl2 : j < dl.length := by have := Hm.out; omega
            obtain ⟨p8, o8, hA8⟩ : ∃ b off, A8 = some ⟨b, off, none⟩ := by obtain ⟨b, off, h1, _⟩ := HR8.out.2 (by omega); exact ⟨b, off, h1⟩
            obtain ⟨p9, o9, hA9⟩ : ∃ b off, A9 = some ⟨b, off, none⟩ := by obtain ⟨b, off, h1, _⟩ := HR9.out.2 (by omega); exact ⟨b, off, h1⟩
            subst hA8 hA9
            obtain ⟨x0, x1, x2⟩ := tri_at (HR8.out.below hBj (Nat.le_refl _)) hjl2
            obtain ⟨y0, y1, y2⟩ := tri_at (HR9.out.below hBj (Nat.le_refl _)) hjl2
            have hltj : (j : Int) < (m : Int) := by omega
            have hm100 := HDl.out
            have hj7 : (0 : Int) ≤ (j : Int) := by omega
            obtain ⟨⟨q1, q2, q3⟩, eo⟩ : ∃ o, dl[j] = o := ⟨_, rfl⟩
            rw [eo] at x0 x1 x2 y0 y1 y2
            clear eo
            dsimp only at x0 x1 x2 y0 y1 y2
            have hne := level_ne q1 q2 q3
            go_wp2_with fail
            go_quiet (fail)
            go_wp2_with fail
            go_roundg (m - (j + 1))
            case measure => omega
            case rel => exact ⟨j + 1, by omega, rfl, by go_num, drewN_below hBj _⟩
          · obtain rfl : j = m := by omega
            have hltj : ¬ (j : Int) < (j : Int) := by omega
            go_wp2_with fail
            go_roundg (3 - (k + 1))
            case measure => omega
            case rel => exact ⟨k + 1, by omega, by omega, rfl, by go_num, HB9.out.trans (hBj.mono HB9.out.size)⟩
    · have hltz : ¬ (k : Int) ≤ 2 := by omega
      obtain ⟨c, hc, -⟩ := (HR.out.below hB).cell
      have HHM := hid (HM.out _ hB.drew)
      have d1 : ((L1.length : Int) + (L2.length : Int) == (L.length : Int)) = true := beqT (by have := HL.out; omega)
      go_wp2_with fail
      go_quiet ((go_at_call 38; refine Calls.quiet_of_same ((HM.out _ (by first | exact hB.drew | exact drewN_below hB _ | (trace_state; fail))).mono (fun _ _ ⟨h1, h2⟩ => ⟨h1, h2.symm⟩))))
      go_wp2
      go_ret
      exact ⟨rfl, drewN_below hB _⟩
end Go.Proofs.YtkcgchpbjegneaaDoor
