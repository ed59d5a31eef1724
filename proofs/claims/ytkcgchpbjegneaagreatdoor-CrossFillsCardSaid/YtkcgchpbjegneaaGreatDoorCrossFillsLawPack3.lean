/-
  The walks of openbelllaw.sameOrders at the same orders, and of openbelllaw.same at a book and the document's.
  A book and the document's, side by side in memory: what one call of either makes of both. No walk.
  The walk of openbelllaw.laid: a book of orders, and the document's.
  The plain words of the curve: points of orders at each price. No walk.
  Who trades at an auction's price, by the two ranked lists. No walk.
  The walk of cross.willing: how many lots of a side would be traded at a price.
  The walk of cross.Fills, where so many lots want to trade: who trades.
  The walk of cross.Fills, where not so many lots want to trade: the error.
  The walk of openbelllaw.sameFills at the same trades.
  More of twins: the lists are right; what is wanted; a cut of one that lies. No walk.
  The document's book while it is traded. No walk.
  The walk of the document's Willing: how many lots of a side would be traded at a price.
  A region in which some operations (stores that wait for all that are taken first) need not keep the held condition; the condition may be made stronger on the way.
-/
import Derived.WalkKit
import Derived.WalkLawsBesides
import Derived.WalkSpells
import Derived.Deep.QuietTactic
import Derived.BigQuiet
import Derived.Deep.LoopGhost
import Derived.Deep.DeepCutAuto
import Derived.Deep.CutBlock
import Derived.Laws.StructEq
import Derived.Test.YtkcgchpbjegneaaGreatDoorBookLook
import Derived.Test.YtkcgchpbjegneaaGreatDoorBookNew
import Derived.Test.YtkcgchpbjegneaaGreatDoorCrossFillsLawPack2
import Derived.Test.YtkcgchpbjegneaaGreatDoorHeldT
import Derived.Test.YtkcgchpbjegneaaGreatDoorBookAdd
import Derived.Test.YtkcgchpbjegneaaGreatDoorMem
import Derived.Lib.SlKeysI
import Derived.Test.YtkcgchpbjegneaaGreatDoorBookAddP
import Derived.Laws.EntriesVeiled
import Derived.Deep.AppendLies
import Derived.Test.YtkcgchpbjegneaaGreatDoorBookCutP
import Derived.OrdersHeld
import Derived.StillTail
import Derived.RegionTactic
namespace Go.Proofs.YtkcgchpbjegneaaGreatDoor
open Go.RowKit
set_option linter.unusedVariables false

theorem order_ne (a b c d e : Int) (w : World) : (binOp .neq 24 (.agg #[.int .i64 a, .int .i64 b, .int .i64 c, .int .i64 d, .int .i64 e]) (.agg #[.int .i64 a, .int .i64 b, .int .i64 c, .int .i64 d, .int .i64 e])).run Tryz.prog w = .ok (.bool false) w := by
  have hf : Tryz.prog.underlying 24 = some (.struct (Tryz.prog.fieldsOf 24)) := by kernel_rfl
  have hs : Tryz.prog.stoodInHeld 24 = false := by kernel_rfl
  have hi : Tryz.prog.underlying 3 = some (.int .i64) := Tryz.underlying3
  rw [run_neq_struct, run_equalIn_agg _ _ _ _ _ hf hs]
  simp [Program.fieldsOf, Tryz.underlying24, Op.eqFields, go_sem, hi]
theorem level_ne (a b c : Int) (w : World) : (binOp .neq 106 (.agg #[.int .i64 a, .int .i64 b, .int .i64 c]) (.agg #[.int .i64 a, .int .i64 b, .int .i64 c])).run Tryz.prog w = .ok (.bool false) w := by
  have hf : Tryz.prog.underlying 106 = some (.struct (Tryz.prog.fieldsOf 106)) := by kernel_rfl
  have hs : Tryz.prog.stoodInHeld 106 = false := by kernel_rfl
  have hi : Tryz.prog.underlying 3 = some (.int .i64) := Tryz.underlying3
  rw [run_neq_struct, run_equalIn_agg _ _ _ _ _ hf hs]
  simp [Program.fieldsOf, Tryz.underlying106, Op.eqFields, go_sem, hi]

set_option maxRecDepth 100000 in
set_option maxHeartbeats 4000000 in
theorem sameOrders_any (A A2 : Option Addr) (n c c2 : Nat) (ps : List Ord5) (w : World) (h : ElemsAt w encO 5 A n ps) (h2 : ElemsAt w encO 5 A2 n ps) (hm : n ≤ 1000000) :
    Calls Tryz.prog 38 #[.slice A n c, .slice A2 n c2] w fun e w' => e = .returned (.bool true) ∧ Below w.heap.size w w' := by
  have HH := hid h
  have HH2 := hid h2
  have hl := h.1
  have HL := hid hl
  have e0 : ((n : Int) != (n : Int)) = false := bneF rfl
  clear h h2 hl
  go_enter Tryz.func38, Tryz.ntmps38
  go_wp2_with fail
  go_loopg [5] n (fun gg s5 wx => ∃ k : Nat, k ≤ n ∧ gg = n - k ∧ s5 = .int .i64 k ∧ Below w.heap.size w wx)
  case atStart => exact ⟨0, Nat.zero_le _, rfl, rfl, Below.refl _ _⟩
  case round =>
    obtain ⟨k, hk, rfl, rfl, hB⟩ := hrel
    by_cases hlt : k < n
    · have hkl : k < ps.length := by have := HL.out; omega
      obtain ⟨b, off, hA⟩ : ∃ b off, A = some ⟨b, off, none⟩ := by obtain ⟨b, off, h1, _⟩ := HH.out.2 (by omega); exact ⟨b, off, h1⟩
      obtain ⟨b2, off2, hA2⟩ : ∃ b off, A2 = some ⟨b, off, none⟩ := by obtain ⟨b, off, h1, _⟩ := HH2.out.2 (by omega); exact ⟨b, off, h1⟩
      subst hA hA2
      obtain ⟨x0, x1, x2, x3, x4⟩ := ord_at (HH.out.below hB (Nat.le_refl _)) hkl
      obtain ⟨y0, y1, y2, y3, y4⟩ := ord_at (HH2.out.below hB (Nat.le_refl _)) hkl
      have hltz : (k : Int) < (n : Int) := by omega
      have hi7 : (0 : Int) ≤ (k : Int) := by omega
      obtain ⟨o, eo⟩ : ∃ o, ps[k] = o := ⟨_, rfl⟩
      rw [eo] at x0 x1 x2 x3 x4 y0 y1 y2 y3 y4
      clear eo
      have hne := order_ne o.id o.side o.kind o.price o.qty
      go_wp2_with fail
      go_quiet (fail)
      go_wp2_with fail
      go_roundg (n - (k + 1))
      case measure => omega
      case rel => exact ⟨k + 1, by omega, rfl, by go_num, drewN_below hB _⟩
    · obtain rfl : k = n := by omega
      have hltz : ¬ (k : Int) < (k : Int) := by omega
      go_wp2
      go_ret
      exact ⟨rfl, hB⟩

section
variable {P : Program} {Q : Exit → Act → World → Prop} {md : Region.Mode} {S : World → Prop} {l rest : List Oper} {oi : Oper} {fuel : Nat} {listed : Array Bool} {a : Act} {w : World}
theorem takeH (i d : Nat) (v : Value) (hl : l.drop i = oi :: rest) (hd : oi.dst = some d) (hs : Region.noSelect l.toArray = true) (hf : Region.free md l.toArray listed i = true) (hr : (Region.ready md l.toArray listed).contains i = true)
    (hQ : ∀ c a w, Q (.panic c) (a.put oi.dst v) w → Q (.panic c) a w) (hwn : Region.wanted oi (yielded l.toArray a.tmps) = true) (hy : ∀ w, S w → (execOp a.eval oi).run P w = .ok (.value v) w) (hS : S w)
    (h : wpAnyH P md l.toArray Q S fuel (listed.setIfInBounds i true) (a.put (some d) v) w) : wpAnyH P md l.toArray Q S (fuel + 1) listed a w :=
  wpAnyH_take (at_drop hl) hs hf hr hQ (.inl ⟨hwn, hy⟩) hS (by rw [hd]; exact h)
theorem skipH (i d : Nat) (hl : l.drop i = oi :: rest) (hd : oi.dst = some d) (hs : Region.noSelect l.toArray = true) (hf : Region.free md l.toArray listed i = true) (hr : (Region.ready md l.toArray listed).contains i = true)
    (hQ : ∀ c a w, Q (.panic c) (a.put oi.dst undef) w → Q (.panic c) a w) (hwn : Region.wanted oi (yielded l.toArray a.tmps) = false) (hS : S w)
    (h : wpAnyH P md l.toArray Q S fuel (listed.setIfInBounds i true) (a.put (some d) undef) w) : wpAnyH P md l.toArray Q S (fuel + 1) listed a w :=
  wpAnyH_take (at_drop hl) hs hf hr hQ (.inr ⟨hwn, rfl⟩) hS (by rw [hd]; exact h)
theorem oneH (i : Nat) (hr : Region.ready md l.toArray listed = [i]) (ho : l.drop i = oi :: rest)
    (h : ∀ K' : Act → World → Prop, (∀ a w, S w → (S w → wpAnyH P md l.toArray Q S fuel (listed.setIfInBounds i true) a w) → K' a w) → if Region.wanted oi (yielded l.toArray a.tmps) = true then Oper.wp P oi a w K' Q else K' (a.put oi.dst undef) w) : wpAnyH P md l.toArray Q S (fuel + 1) listed a w :=
  wpAnyH_all hr (by simp) (fun j hj => by
    rw [List.mem_singleton] at hj
    subst hj
    exact wpOp_step (at_drop ho) fun K' hK => h K' (fun a w hS hw => hK a w ⟨hS, hw hS⟩))
theorem region_held_drew {ops : Array Oper} {id : Nat} (S : World → Prop) (hm : P.follows .mixedOrders = true) (hS : S w.drew)
    (h : S w.drew → wpAnyH P .any ops Q S ops.size (Array.replicate ops.size false) a w.drew) : (Code.region id ops true).wp P Q a w := wp_region_held hm (h hS)
end
theorem errIs_errV (w : World) (e : Int) : ErrIs w (errV e) e (-1) := by
  unfold errV
  by_cases h : e = 0
  · rw [if_pos h]; exact .inl ⟨rfl, h, rfl⟩
  · rw [if_neg h]; exact .inr (.inl ⟨rfl, rfl⟩)
theorem Twin.small {L L1 L2 : List Ord5} (h : Twin L L1 L2) (hl : ListsOk L1 L2) : L.length ≤ 100 := by
  have h1 := h.len
  have h2 := hl.cnt
  rw [List.length_append] at h2
  omega
theorem rsideL_len (s : Int) (L : List Ord5) : (rsideL s L).length ≤ L.length := by
  unfold rsideL
  rw [stabL_length]
  exact onSide_len s L
theorem depthL_len (l : List Ord5) : (depthL l).length ≤ l.length := by
  have key : ∀ (l : List Ord5) (acc : List Tri), (l.foldl depF acc).length ≤ acc.length + l.length := by
    intro l
    induction l with
    | nil => intro acc; simp
    | cons o t ih =>
      intro acc
      rw [List.foldl_cons, List.length_cons]
      refine Nat.le_trans (ih _) ?_
      have : (depF acc o).length ≤ acc.length + 1 := by
        unfold depF
        split
        · omega
        · split
          · rename_i x hx
            split
            · have : acc ≠ [] := fun e => by rw [e] at hx; cases hx
              have := List.length_pos_iff.2 this
              rw [List.length_append, List.length_dropLast, List.length_singleton]
              omega
            · simp
          · simp
      omega
  have := key l []
  rw [List.length_nil, Nat.zero_add] at this
  exact this
/-- the document's looks at a side -/
structure Looks (w : World) (b B : Nat) (L : List Ord5) (s : Int) (ls : List Ord5) (n : Nat) : Prop where
  rside : ∀ W, Below w.heap.size w W → Calls Tryz.prog 40 #[.pointer (some ⟨B, 0, none⟩), .int .i64 s] W fun e w' => Below w.heap.size w w' ∧ ∃ A' c', e = .returned (.slice A' n c') ∧ RowAt w' A' n c' 24 5 (flat encO ls)
  bside : ∀ W, Below w.heap.size w W → Calls Tryz.prog 46 #[.pointer (some ⟨b, 0, none⟩), .int .i64 s] W fun e w' => Below W.heap.size W w' ∧ ∃ A' c', e = .returned (.tuple #[.slice A' n c', .nilIface]) ∧ RowAt w' A' n c' 24 5 (flat encO ls)
  best : ∀ W, Below w.heap.size w W → Calls Tryz.prog 48 #[.pointer (some ⟨b, 0, none⟩), .int .i64 s] W fun e w' => Below W.heap.size W w' ∧ e = .returned (.tuple #[aggO (bestO ls), errV (bestE ls)])
  rdepth : ∀ W, Below w.heap.size w W → Calls Tryz.prog 49 #[.pointer (some ⟨B, 0, none⟩), .int .i64 s] W fun e w' => Below W.heap.size W w' ∧ ∃ A' c', e = .returned (.slice A' (depthL ls).length c') ∧ RowAt w' A' (depthL ls).length c' 106 3 (flat encT (depthL ls))
  bdepth : ∀ W, Below w.heap.size w W → Calls Tryz.prog 50 #[.pointer (some ⟨b, 0, none⟩), .int .i64 s] W fun e w' => Below W.heap.size W w' ∧ ∃ A' c', e = .returned (.tuple #[.slice A' (depthL ls).length c', .nilIface]) ∧ RowAt w' A' (depthL ls).length c' 106 3 (flat encT (depthL ls))
  small : n ≤ 100
  len : ls.length = n
theorem looks_of {w : World} {b B : Nat} {G : Nat → Prop} {L L1 L2 : List Ord5} {t : TypeId} {cs : Array Value} {A : Option Addr} (h : BookAt w b G L1 L2) (hr : RefB w B t cs 0 A L) (ht : Twin L L1 L2) {s : Int} (hs : Is12 s) : Looks w b B L s (rsideL s L) (rsideL s L).length := by
  have hn := ht.small h.lists
  have e := ht.side hs
  have hp : ∀ o ∈ onSide s L, -1000000000 ≤ o.price ∧ o.price ≤ 1000000000 := fun o ho => by
    have := (ht.ok o (List.mem_filter.1 ho).1).1.2.2.1
    omega
  have hq : ∀ o ∈ rsideL s L, 0 ≤ o.qty ∧ o.qty ≤ 1000000 := fun o ho => by
    have := (ht.ok o (rsideL_mem.1 ho).1).1.2.2.2
    omega
  have hl := rsideL_len s L
  refine ⟨fun W hW => ?_, fun W hW => ?_, fun W hW => ?_, fun W hW => ?_, fun W hW => ?_, by omega, rfl⟩
  · exact (rside_ref (hr.below hW) (by omega) s hp).mono fun e w' ⟨h1, A', c', h2, h3, _⟩ => ⟨hW.trans (h1.mono hW.size), A', c', h2, h3⟩
  · have := bookSide_any W b G L1 L2 (h.below hW) s hs
    rw [e] at this
    exact this.mono fun e w' ⟨h1, A', c', h2, h3, _⟩ => ⟨h1, A', c', h2, h3⟩
  · have := bookBest_any W b G L1 L2 (h.below hW) s hs
    rw [e] at this
    exact this
  · exact rdepth_any W B t cs 0 A L (hr.below hW) (by omega) s hp hq (by omega)
  · have := bookDepth_any W b G L1 L2 (h.below hW) s hs
    rw [e] at this
    exact this

set_option maxRecDepth 100000 in
set_option maxHeartbeats 4000000 in
theorem same_any (w : World) (b B : Nat) (G : Nat → Prop) (L L1 L2 : List Ord5) (t : TypeId) (cs : Array Value) (A : Option Addr) (h : BookAt w b G L1 L2) (hr : RefB w B t cs 0 A L) (ht : Twin L L1 L2) (hE : ErrType w) :
    Calls Tryz.prog 14 #[.pointer (some ⟨b, 0, none⟩), .pointer (some ⟨B, 0, none⟩)] w fun e w' => e = .returned (.bool true) ∧ Below w.heap.size w w' := by
  have HK := hid (fun s (hs : Is12 s) => looks_of h hr ht hs)
  have HM := hid (fun W (hW : Below w.heap.size w W) => bookMany_any W b G L1 L2 (h.below hW))
  have HR := hid hr
  have HL := hid ht.len
  have HE := hid hE
  clear h hr ht hE
  go_enter Tryz.func14, Tryz.ntmps14
  go_wp2_with fail
  go_loopg [5] 2 (fun gg s5 wx => ∃ k : Nat, 1 ≤ k ∧ k ≤ 3 ∧ gg = 3 - k ∧ s5 = .int .i64 k ∧ Below w.heap.size w wx)
  case atStart => exact ⟨1, by omega, by omega, rfl, rfl, Below.refl _ _⟩
  case round =>
    obtain ⟨k, hk1, hk3, rfl, rfl, hB⟩ := hrel
    by_cases hlt : k ≤ 2
    · have hltz : (k : Int) ≤ 2 := by omega
      have HLo := hid (HK.out (k : Int) (by have : k = 1 ∨ k = 2 := (by omega); rcases this with rfl | rfl; exact .inl rfl; exact .inr rfl))
      obtain ⟨ls, els⟩ : ∃ l, rsideL (k : Int) L = l := ⟨_, rfl⟩
      rw [els] at HLo
      clear els
      obtain ⟨n, en⟩ : ∃ n, ls.length = n := ⟨_, rfl⟩
      rw [en] at HLo
      clear en
      go_wp2_with fail
      refine (HLo.out.rside _ hB).mono ?_
      rintro e w2 ⟨hB2, A2, c2, rfl, hr2⟩
      clear hB
      have HR2 := hid (ElemsAt.of_row encO_length (by omega) hr2)
      clear hr2
      go_wp2_with fail
      refine (HLo.out.bside _ hB2).mono ?_
      rintro e w3 ⟨hb, A3, c3, rfl, hr3⟩
      have HR2 := hid (HR2.out.below hb (Nat.le_refl _))
      have HR3 := hid (ElemsAt.of_row encO_length (by omega) hr3)
      have hB3 := hB2.trans (hb.mono hB2.size)
      clear hb hr3 hB2
      go_wp2_with (go_at_call 38; refine (sameOrders_any _ _ _ _ _ _ _ HR3.out HR2.out (by have := HLo.out.small; omega)).mono ?_; rintro e w4 ⟨rfl, hb⟩; have HB4 := hid (hB3.trans (hb.mono hB3.size)); have HR4 := hid (HR2.out.below hb (Nat.le_refl _)); clear hb)
      go_wp2_with fail
      refine (HLo.out.best _ HB4.out).mono ?_
      rintro e w5 ⟨hb, rfl⟩
      have HB5 := hid (HB4.out.trans (hb.mono HB4.out.size))
      have HR5 := hid (HR4.out.below hb (Nat.le_refl _))
      clear hb hB3 HB4 HR4
      obtain ⟨⟨i1, i2, i3, i4, i5⟩, hbo⟩ : ∃ o, Hid (bestO ls = o) := ⟨_, hid rfl⟩
      rw [hbo.out, show aggO (⟨i1, i2, i3, i4, i5⟩ : Ord5) = .agg #[.int .i64 i1, .int .i64 i2, .int .i64 i3, .int .i64 i4, .int .i64 i5] from rfl]
      obtain ⟨ev, hev⟩ : ∃ o, Hid (errV (bestE ls) = o) := ⟨_, hid rfl⟩
      rw [hev.out]
      have hbl : ∀ o t, ls = o :: t → (⟨i1, i2, i3, i4, i5⟩ : Ord5) = o := fun o t e => by rw [← hbo.out, e]; rfl
      have HBl := hid hbl
      clear hbl
      go_upto_region 9 with fail
      obtain ⟨w6, ew6⟩ : ∃ W, (w5.alloc (.cells #[.int .i64 i1, .int .i64 i2, .int .i64 i3, .int .i64 i4, .int .i64 i5] 24)) = W := ⟨_, rfl⟩
      obtain ⟨g5, eg5⟩ : ∃ g, w5.heap.size = g := ⟨_, rfl⟩
      have HX6 := hid (Blk.new w5 24 #[.int .i64 i1, .int .i64 i2, .int .i64 i3, .int .i64 i4, .int .i64 i5])
      rw [ew6, eg5] at HX6
      have hb56 : Below w5.heap.size w5 w6 := by rw [← ew6]; exact (Below.refl _ _).alloc (Nat.le_refl _) _
      have HB6 := hid (HB5.out.trans (hb56.mono HB5.out.size))
      have HR6 := hid (HR5.out.below hb56 (Nat.le_refl _))
      rw [ew6, eg5]
      clear hb56 ew6 eg5 HB5 HR5
      go_cut [63] (fun s63 wx => s63 = .bool false ∧ Below w.heap.size w wx)
      case first =>
        by_cases hn : n = 0
        · have d1 : ((n : Int) == 0) = true := beqT (by omega)
          have d2 : decide ((0 : Int) < (n : Int)) = false := decF (by omega)
          have d3 : decide (0 < n) = false := decF (by omega)
          have hev8 : ev = .iface 29 (.int .i64 8) := by rw [← hev.out, List.length_eq_zero_iff.1 (HLo.out.len.trans hn)]; rfl
          subst hev8
          have HE6 := hid (HE.out.below HB6.out (Nat.le_refl _))
          have nn : ¬ (0 : Int) < (n : Int) := by omega
          clear hn
          have HE7 := hid (HE.out.below HB6.out.drew (Nat.le_refl _))
          have eeq : errV 8 = .iface 29 (.int .i64 8) := rfl
          have HEI := hid (errIs_errV w6.drew 8)
          rw [eeq] at HEI
          clear eeq
          refine region_held_drew (fun W => Below w.heap.size w W) (by kernel_rfl) HB6.out.drew (fun hS => ?_)
          refine takeH 0 40 (.slice A2 n c2) rfl rfl (by kernel_rfl) (by kernel_rfl) (by kernel_rfl) (fun _ _ _ h => h) (by rfl) ?_ (by assumption) ?_
          · intro W hSw; go_simp
          simp only [Act.put, List.setIfInBounds_toArray, List.set_cons_zero, List.set_cons_succ]
          refine takeH 1 41 (.int .i64 n) rfl rfl (by kernel_rfl) (by kernel_rfl) (by kernel_rfl) (fun _ _ _ h => h) (by rfl) ?_ (by assumption) ?_
          · intro W hSw; go_simp
          simp only [Act.put, List.setIfInBounds_toArray, List.set_cons_zero, List.set_cons_succ]
          refine takeH 2 42 (.bool true) rfl rfl (by kernel_rfl) (by kernel_rfl) (by kernel_rfl) (fun _ _ _ h => h) (by rfl) ?_ (by assumption) ?_
          · intro W hSw; go_simp
          simp only [Act.put, List.setIfInBounds_toArray, List.set_cons_zero, List.set_cons_succ]
          refine takeH 3 43 (.bool true) rfl rfl (by kernel_rfl) (by kernel_rfl) (by kernel_rfl) (fun _ _ _ h => h) (by rfl) ?_ (by assumption) ?_
          · intro W hSw; go_simp
          simp only [Act.put, List.setIfInBounds_toArray, List.set_cons_zero, List.set_cons_succ]
          refine takeH 4 44 (Value.iface 29 (.int .i64 8)) rfl rfl (by kernel_rfl) (by kernel_rfl) (by kernel_rfl) (fun _ _ _ h => h) (by rfl) ?_ (by assumption) ?_
          · intro W hSw; go_simp
          simp only [Act.put, List.setIfInBounds_toArray, List.set_cons_zero, List.set_cons_succ]
          refine oneH 5 (by kernel_rfl) rfl (fun K1 hK1 => ?_)
          go_simp
          go_at_call 17
          refine (bare_any (.iface 29 (.int .i64 8)) 8 (-1) 8 w6.drew HE7.out HEI.out).mono ?_
          rintro e w9 ⟨rfl, hb9⟩
          refine hK1 _ _ (HB6.out.drew.trans (hb9.mono HB6.out.drew.size)) (fun hS => ?_)
          clear hK1
          refine takeH 6 46 (.bool false) rfl rfl (by kernel_rfl) (by kernel_rfl) (by kernel_rfl) (fun _ _ _ h => h) (by rfl) ?_ (by assumption) ?_
          · intro W hSw; go_simp
          simp only [Act.put, List.setIfInBounds_toArray, List.set_cons_zero, List.set_cons_succ]
          refine takeH 7 47 (.bool false) rfl rfl (by kernel_rfl) (by kernel_rfl) (by kernel_rfl) (fun _ _ _ h => h) (by rfl) ?_ (by assumption) ?_
          · intro W hSw; go_simp
          simp only [Act.put, List.setIfInBounds_toArray, List.set_cons_zero, List.set_cons_succ]
          refine takeH 8 48 (.bool false) rfl rfl (by kernel_rfl) (by kernel_rfl) (by kernel_rfl) (fun _ _ _ h => h) (by rfl) ?_ (by assumption) ?_
          · intro W hSw; go_simp
          simp only [Act.put, List.setIfInBounds_toArray, List.set_cons_zero, List.set_cons_succ]
          refine takeH 9 49 (.slice A2 n c2) rfl rfl (by kernel_rfl) (by kernel_rfl) (by kernel_rfl) (fun _ _ _ h => h) (by rfl) ?_ (by assumption) ?_
          · intro W hSw; go_simp
          simp only [Act.put, List.setIfInBounds_toArray, List.set_cons_zero, List.set_cons_succ]
          refine takeH 10 50 (.int .i64 n) rfl rfl (by kernel_rfl) (by kernel_rfl) (by kernel_rfl) (fun _ _ _ h => h) (by rfl) ?_ (by assumption) ?_
          · intro W hSw; go_simp
          simp only [Act.put, List.setIfInBounds_toArray, List.set_cons_zero, List.set_cons_succ]
          refine takeH 11 51 (.bool false) rfl rfl (by kernel_rfl) (by kernel_rfl) (by kernel_rfl) (fun _ _ _ h => h) (by rfl) ?_ (by assumption) ?_
          · intro W hSw; go_simp
          simp only [Act.put, List.setIfInBounds_toArray, List.set_cons_zero, List.set_cons_succ]
          refine takeH 12 52 (.bool false) rfl rfl (by kernel_rfl) (by kernel_rfl) (by kernel_rfl) (fun _ _ _ h => h) (by rfl) ?_ (by assumption) ?_
          · intro W hSw; go_simp
          simp only [Act.put, List.setIfInBounds_toArray, List.set_cons_zero, List.set_cons_succ]
          refine skipH 13 53 rfl rfl (by kernel_rfl) (by kernel_rfl) (by kernel_rfl) (fun _ _ _ h => h) (by rfl) (by assumption) ?_
          simp only [Act.put, List.setIfInBounds_toArray, List.set_cons_zero, List.set_cons_succ]
          refine skipH 14 54 rfl rfl (by kernel_rfl) (by kernel_rfl) (by kernel_rfl) (fun _ _ _ h => h) (by rfl) (by assumption) ?_
          simp only [Act.put, List.setIfInBounds_toArray, List.set_cons_zero, List.set_cons_succ]
          refine skipH 15 55 rfl rfl (by kernel_rfl) (by kernel_rfl) (by kernel_rfl) (fun _ _ _ h => h) (by rfl) (by assumption) ?_
          simp only [Act.put, List.setIfInBounds_toArray, List.set_cons_zero, List.set_cons_succ]
          refine skipH 16 56 rfl rfl (by kernel_rfl) (by kernel_rfl) (by kernel_rfl) (fun _ _ _ h => h) (by rfl) (by assumption) ?_
          simp only [Act.put, List.setIfInBounds_toArray, List.set_cons_zero, List.set_cons_succ]
          refine skipH 17 57 rfl rfl (by kernel_rfl) (by kernel_rfl) (by kernel_rfl) (fun _ _ _ h => h) (by rfl) (by assumption) ?_
          simp only [Act.put, List.setIfInBounds_toArray, List.set_cons_zero, List.set_cons_succ]
          refine skipH 18 58 rfl rfl (by kernel_rfl) (by kernel_rfl) (by kernel_rfl) (fun _ _ _ h => h) (by rfl) (by assumption) ?_
          simp only [Act.put, List.setIfInBounds_toArray, List.set_cons_zero, List.set_cons_succ]
          refine skipH 19 59 rfl rfl (by kernel_rfl) (by kernel_rfl) (by kernel_rfl) (fun _ _ _ h => h) (by rfl) (by assumption) ?_
          simp only [Act.put, List.setIfInBounds_toArray, List.set_cons_zero, List.set_cons_succ]
          refine skipH 20 60 rfl rfl (by kernel_rfl) (by kernel_rfl) (by kernel_rfl) (fun _ _ _ h => h) (by rfl) (by assumption) ?_
          simp only [Act.put, List.setIfInBounds_toArray, List.set_cons_zero, List.set_cons_succ]
          refine skipH 21 61 rfl rfl (by kernel_rfl) (by kernel_rfl) (by kernel_rfl) (fun _ _ _ h => h) (by rfl) (by assumption) ?_
          simp only [Act.put, List.setIfInBounds_toArray, List.set_cons_zero, List.set_cons_succ]
          refine takeH 22 62 (.bool false) rfl rfl (by kernel_rfl) (by kernel_rfl) (by kernel_rfl) (fun _ _ _ h => h) (by rfl) ?_ (by assumption) ?_
          · intro W hSw; go_simp
          simp only [Act.put, List.setIfInBounds_toArray, List.set_cons_zero, List.set_cons_succ]
          refine takeH 23 63 (.bool false) rfl rfl (by kernel_rfl) (by kernel_rfl) (by kernel_rfl) (fun _ _ _ h => h) (by rfl) ?_ (by assumption) ?_
          · intro W hSw; go_simp
          simp only [Act.put, List.setIfInBounds_toArray, List.set_cons_zero, List.set_cons_succ]
          refine wpAnyH_done (by kernel_rfl) ?_ _
          go_wp2_with fail
          go_meet
          exact ⟨rfl, hS⟩
        · obtain ⟨o, tl, hls⟩ : ∃ o tl, ls = o :: tl := by
            cases ls with
            | nil => exact absurd (HLo.out.len.symm.trans rfl) hn
            | cons o tl => exact ⟨o, tl, rfl⟩
          have d1 : ((n : Int) == 0) = false := beqF (by omega)
          have d2 : decide ((0 : Int) < (n : Int)) = true := decT (by omega)
          have d3 : decide (0 < n) = true := decT (by omega)
          have hev0 : ev = .nilIface := by rw [← hev.out, hls]; rfl
          have hnz : (0 : Int) < (n : Int) := by omega
          have hlp : 0 < ls.length := by have := HLo.out.len; omega
          obtain ⟨gb, ob, hA⟩ : ∃ b off, A2 = some ⟨b, off, none⟩ := by obtain ⟨b, off, h1, _⟩ := HR6.out.2 (by omega); exact ⟨b, off, h1⟩
          subst hA hev0
          obtain ⟨x0, x1, x2, x3, x4⟩ := ord_at HR6.out hlp
          have e0 : ls[0] = ⟨i1, i2, i3, i4, i5⟩ := by subst hls; exact (HBl.out o tl rfl).symm
          rw [e0] at x0 x1 x2 x3 x4
          obtain ⟨y0, y1, y2, y3, y4⟩ := ord_box (o := ⟨i1, i2, i3, i4, i5⟩) HX6.out
          have hne := order_ne i1 i2 i3 i4 i5
          clear e0 hls hn
          dsimp only at x0 x1 x2 x3 x4
          simp only [Nat.zero_mul, Nat.add_zero] at x0 x1 x2 x3 x4
          go_quiet (fail)
          go_wp2_with fail
          go_meet
          exact ⟨rfl, drewN_below HB6.out _⟩
      case rest =>
        obtain ⟨rfl, hB7⟩ := hcut
        clear HX6 HR6 HB6 HBl hbo hev
        go_wp2_with fail
        refine (HLo.out.rdepth _ hB7).mono ?_
        rintro e w8 ⟨hb, A8, c8, rfl, hr8⟩
        have HR8 := hid (ElemsAt.of_row encT_length (by omega) hr8)
        have hB8 := hB7.trans (hb.mono hB7.size)
        clear hb hr8 hB7
        go_wp2_with fail
        refine (HLo.out.bdepth _ hB8).mono ?_
        rintro e w9 ⟨hb, A9, c9, rfl, hr9⟩
        have HR9 := hid (ElemsAt.of_row encT_length (by omega) hr9)
        have HR8 := hid (HR8.out.below hb (Nat.le_refl _))
        have HB9 := hid (hB8.trans (hb.mono hB8.size))
        clear hb hr9 hB8
        have HDl := hid (Nat.le_trans (depthL_len ls) (Nat.le_trans (Nat.le_of_eq HLo.out.len) HLo.out.small))
        obtain ⟨dl, edl⟩ : ∃ l, depthL ls = l := ⟨_, rfl⟩
        rw [edl] at HR8 HR9 HDl ⊢
        clear edl
        obtain ⟨m, hm⟩ : ∃ m, dl.length = m := ⟨_, rfl⟩
        rw [hm] at HR8 HR9 HDl ⊢
        have Hm := hid hm
        clear hm
        have e1 : ((m : Int) != (m : Int)) = false := bneF rfl
        go_wp2_with fail
        go_loopg [12] m (fun gg s12 wx => ∃ j : Nat, j ≤ m ∧ gg = m - j ∧ s12 = .int .i64 j ∧ Below w9.heap.size w9 wx)
        case atStart => exact ⟨0, Nat.zero_le _, rfl, rfl, Below.refl _ _⟩
        case round =>
          obtain ⟨j, hj, rfl, rfl, hBj⟩ := hrel
          by_cases hjl : j < m
          · have hjl2 : j < dl.length := by have := Hm.out; omega
            obtain ⟨p8, o8, hA8⟩ : ∃ b off, A8 = some ⟨b, off, none⟩ := by obtain ⟨b, off, h1, _⟩ := HR8.out.2 (by omega); exact ⟨b, off, h1⟩
            obtain ⟨p9, o9, hA9⟩ : ∃ b off, A9 = some ⟨b, off, none⟩ := by obtain ⟨b, off, h1, _⟩ := HR9.out.2 (by omega); exact ⟨b, off, h1⟩
            subst hA8 hA9
            obtain ⟨x0, x1, x2⟩ := tri_at (HR8.out.below hBj (Nat.le_refl _)) hjl2
            obtain ⟨y0, y1, y2⟩ := tri_at (HR9.out.below hBj (Nat.le_refl _)) hjl2
            have hltj : (j : Int) < (m : Int) := by omega
            have hm100 := HDl.out
            have hj7 : (0 : Int) ≤ (j : Int) := by omega
            obtain ⟨⟨q1, q2, q3⟩, eo⟩ : ∃ o, dl[j] = o := ⟨_, rfl⟩
            rw [eo] at x0 x1 x2 y0 y1 y2
            clear eo
            dsimp only at x0 x1 x2 y0 y1 y2
            have hne := level_ne q1 q2 q3
            go_wp2_with fail
            go_quiet (fail)
            go_wp2_with fail
            go_roundg (m - (j + 1))
            case measure => omega
            case rel => exact ⟨j + 1, by omega, rfl, by go_num, drewN_below hBj _⟩
          · obtain rfl : j = m := by omega
            have hltj : ¬ (j : Int) < (j : Int) := by omega
            go_wp2_with fail
            go_roundg (3 - (k + 1))
            case measure => omega
            case rel => exact ⟨k + 1, by omega, by omega, rfl, by go_num, HB9.out.trans (hBj.mono HB9.out.size)⟩
    · have hltz : ¬ (k : Int) ≤ 2 := by omega
      obtain ⟨c, hc, -⟩ := (HR.out.below hB).cell
      have HHM := hid (HM.out _ hB.drew)
      have d1 : ((L1.length : Int) + (L2.length : Int) == (L.length : Int)) = true := beqT (by have := HL.out; omega)
      go_wp2_with fail
      go_quiet ((go_at_call 51; refine Calls.quiet_of_same ((HM.out _ (by first | exact hB.drew | exact drewN_below hB _ | (trace_state; fail))).mono (fun _ _ ⟨h1, h2⟩ => ⟨h1, h2.symm⟩))))
      go_wp2
      go_ret
      exact ⟨rfl, drewN_below hB _⟩
end Go.Proofs.YtkcgchpbjegneaaGreatDoor
namespace Go.Proofs.YtkcgchpbjegneaaGreatDoor
open Go.RowKit
set_option linter.unusedVariables false

/-- both books, and a block x besides, all newer than w0 -/
structure Duo (w0 w : World) (b B : Nat) (G : Nat → Prop) (cs : Array Value) (A : Option Addr) (X : Nat) (tx : TypeId) (xs : Array Value) (L L1 L2 : List Ord5) : Prop where
  book : BookAt w b G L1 L2
  ref : RefB w B 81 cs 0 A L
  box : Blk w X tx xs
  bel : Below w0.heap.size w0 w
  gb : ∀ i, G i → w0.heap.size ≤ i
  bb : w0.heap.size ≤ B
  ab : ∀ g, blkOf A = some g → w0.heap.size ≤ g
  ap : ¬ G B
  aa : ∀ g, blkOf A = some g → ¬ G g
  xg : ¬ G X
  xb : X ≠ B
  xa : blkOf A ≠ some X
section
variable {w0 w w' : World} {b B X : Nat} {G : Nat → Prop} {cs xs : Array Value} {A : Option Addr} {tx : TypeId} {L L1 L2 : List Ord5}
theorem Duo.below (h : Duo w0 w b B G cs A X tx xs L L1 L2) (hb : Below w.heap.size w w') : Duo w0 w' b B G cs A X tx xs L L1 L2 :=
  ⟨h.book.below hb, h.ref.below hb, Blk.keep h.box hb, h.bel.trans (hb.mono h.bel.size), h.gb, h.bb, h.ab, h.ap, h.aa, h.xg, h.xb, h.xa⟩
theorem Duo.bookTo (h : Duo w0 w b B G cs A X tx xs L L1 L2) {M1 M2 : List Ord5} (ht : BookTo w w' b G M1 M2) : ∃ G', Duo w0 w' b B G' cs A X tx xs L M1 M2 := by
  obtain ⟨G', h1, hk, hg⟩ := ht
  have hs := h.bel.size
  have hB := h.ref.blt
  have hX := Blk.lt h.box
  refine ⟨G', h1, h.ref.keeps hk h.ap h.aa, Blk.keeps h.box hk h.xg, h.bel.trans (hk.below h.gb h.bel.size), fun i hi => ?_, h.bb, h.ab, fun e => ?_, fun g hA e => ?_, fun e => ?_, h.xb, h.xa⟩
  · rcases hg i hi with h2 | h2
    · exact h.gb i h2
    · omega
  · rcases hg B e with h2 | h2
    · exact h.ap h2
    · omega
  · have h3 := h.ref.lt g hA
    rcases hg g e with h2 | h2
    · exact h.aa g hA h2
    · omega
  · rcases hg X e with h2 | h2
    · exact h.xg h2
    · omega
theorem Duo.refTo (h : Duo w0 w b B G cs A X tx xs L L1 L2) {M : List Ord5} (ht : RefTo w w' B 81 cs 0 A M) : ∃ cs' A', Duo w0 w' b B G cs' A' X tx xs M L1 L2 := by
  obtain ⟨A', c', h1, hk, hg⟩ := ht
  have hs := h.bel.size
  have hX := Blk.lt h.box
  refine ⟨_, A', h.book.keeps hk (fun i hi e => h.ap (e ▸ hi)), h1, Blk.keeps h.box hk h.xb, h.bel.trans (hk.below (fun i e => e ▸ h.bb) h.bel.size), h.gb, h.bb, fun g hA => ?_, h.ap, fun g hA e => ?_, h.xg, h.xb, fun e => ?_⟩
  · rcases hg g hA with h2 | h2
    · exact h.ab g h2
    · omega
  · rcases hg g hA with h2 | h2
    · exact h.aa g h2 e
    · have := h.book.fp e; omega
  · rcases hg X e with h2 | h2
    · exact h.xa h2
    · omega

/-! ### calls -/
def baddL (s : Int) (L1 L2 L : List Ord5) (o : Ord5) : List Ord5 := if addE L1 L2 o = 0 then addL s L o else L
theorem duo_add (h : Duo w0 w b B G cs A X tx xs L L1 L2) {o : Ord5} (hf : FitO o) :
    Calls Tryz.prog 42 #[.pointer (some ⟨b, 0, none⟩), aggO o] w fun e w' => e = .returned (errV (addE L1 L2 o)) ∧ ∃ G', Duo w0 w' b B G' cs A X tx xs L (baddL 1 L1 L2 L1 o) (baddL 2 L1 L2 L2 o) := by
  refine (bookAdd_any w b G L1 L2 h.book o hf).mono ?_
  rintro e w' (⟨h1, rfl, hb⟩ | ⟨h1, rfl, ht⟩)
  · refine ⟨rfl, G, ?_⟩
    unfold baddL
    rw [if_neg h1, if_neg h1]
    exact h.below hb
  · refine ⟨by rw [h1], ?_⟩
    unfold baddL
    rw [if_pos h1, if_pos h1]
    exact h.bookTo ht
theorem duo_radd (h : Duo w0 w b B G cs A X tx xs L L1 L2) (hn : L.length ≤ 100000) (o : Ord5) :
    Calls Tryz.prog 43 #[.pointer (some ⟨B, 0, none⟩), aggO o] w fun e w' => e = .returned (.int .i64 (raddE L o)) ∧ ∃ cs' A', Duo w0 w' b B G cs' A' X tx xs (raddL L o) L1 L2 := by
  refine (radd_any w B _ cs 0 A L h.ref hn o).mono ?_
  rintro e w' ⟨rfl, ht⟩
  exact ⟨rfl, h.refTo ht⟩
def bcanE (L1 L2 : List Ord5) (id : Int) : Int := if (getI (L1 ++ L2) id).isSome = true then 0 else 7
def bcanO (L1 L2 : List Ord5) (id : Int) : Ord5 := (getI (L1 ++ L2) id).getD noO
theorem remI_none {L : List Ord5} {id : Int} (h : ∀ o ∈ L, o.id ≠ id) : remI L id = L := List.filter_eq_self.2 (fun o ho => by simpa using h o ho)
theorem duo_cancel (h : Duo w0 w b B G cs A X tx xs L L1 L2) (id : Int) :
    Calls Tryz.prog 101 #[.pointer (some ⟨b, 0, none⟩), .int .i64 id] w fun e w' => e = .returned (.tuple #[aggO (bcanO L1 L2 id), errV (bcanE L1 L2 id)]) ∧ ∃ G', Duo w0 w' b B G' cs A X tx xs L (remI L1 id) (remI L2 id) := by
  refine (bookCancel_any w b G L1 L2 h.book id).mono ?_
  rintro e w' (⟨h1, rfl, hb⟩ | ⟨o, h1, rfl, ht⟩)
  · have h2 := getI_no.1 h1
    rw [remI_none (fun o ho => h2 o (List.mem_append.2 (.inl ho))), remI_none (fun o ho => h2 o (List.mem_append.2 (.inr ho)))]
    refine ⟨?_, G, h.below hb⟩
    unfold bcanO bcanE
    rw [h1]
    rfl
  · refine ⟨?_, h.bookTo ht⟩
    unfold bcanO bcanE
    rw [h1]
    rfl
theorem duo_rcancel (h : Duo w0 w b B G cs A X tx xs L L1 L2) (hn : L.length ≤ 100000) (id : Int) :
    Calls Tryz.prog 74 #[.pointer (some ⟨B, 0, none⟩), .int .i64 id] w fun e w' => e = .returned (.tuple #[aggO (roO L id), .int .i64 (roE L id)]) ∧ ∃ cs' A', Duo w0 w' b B G cs' A' X tx xs (rcanL L id) L1 L2 := by
  refine (rcancel_any w B _ cs 0 A L h.ref hn id).mono ?_
  rintro e w' ⟨rfl, ht⟩
  exact ⟨rfl, h.refTo ht⟩
def bcutL (L1 L2 L : List Ord5) (id n : Int) : List Ord5 := match getI (L1 ++ L2) id with
  | none => L
  | some o => if 1 ≤ n ∧ n ≤ o.qty then cutS L o n else L
theorem duo_cut (h : Duo w0 w b B G cs A X tx xs L L1 L2) (id : Int) {n : Int} (hn : Fit64 n) :
    Calls Tryz.prog 47 #[.pointer (some ⟨b, 0, none⟩), .int .i64 id, .int .i64 n] w fun e w' => e = .returned (errV (cutE L1 L2 id n)) ∧ ∃ G', Duo w0 w' b B G' cs A X tx xs L (bcutL L1 L2 L1 id n) (bcutL L1 L2 L2 id n) := by
  refine (bookCut_any w b G L1 L2 h.book id n hn).mono ?_
  rintro e w' (⟨h1, rfl, hb⟩ | ⟨o, h1, h2, h3, rfl, ht⟩)
  · refine ⟨rfl, G, ?_⟩
    have e : ∀ K, bcutL L1 L2 K id n = K := fun K => by
      unfold bcutL
      unfold cutE at h1
      cases hg : getI (L1 ++ L2) id with
      | none => rfl
      | some o =>
        rw [hg] at h1
        dsimp only at h1 ⊢
        rw [if_neg]
        rintro ⟨h4, h5⟩
        exact h1 (if_neg (by omega))
    rw [e, e]
    exact h.below hb
  · have e : ∀ K, bcutL L1 L2 K id n = cutS K o n := fun K => by
      unfold bcutL
      rw [h1]
      exact if_pos ⟨h2, h3⟩
    rw [e, e]
    refine ⟨?_, h.bookTo ht⟩
    unfold cutE
    rw [h1]
    dsimp only
    rw [if_neg (by omega)]
theorem duo_rcut (h : Duo w0 w b B G cs A X tx xs L L1 L2) (hn : L.length ≤ 100000) (id q : Int) (hq : ∀ o ∈ L, -1000000000 ≤ o.qty ∧ o.qty ≤ 1000000000) :
    Calls Tryz.prog 45 #[.pointer (some ⟨B, 0, none⟩), .int .i64 id, .int .i64 q] w fun e w' => e = .returned (.int .i64 (rcutE L id q)) ∧ ∃ cs' A', Duo w0 w' b B G cs' A' X tx xs (rcutL L id q) L1 L2 := by
  refine (rcut_any w B _ cs 0 A L h.ref hn id q hq).mono ?_
  rintro e w' ⟨rfl, ht⟩
  exact ⟨rfl, h.refTo ht⟩
end

/-! ### what both tell is the same, and they stay twins -/
section
variable {L L1 L2 : List Ord5}
theorem twin_add (h : Twin L L1 L2) (hl : ListsOk L1 L2) {o : Ord5} (hf : FitO o) : addE L1 L2 o = raddE L o ∧ Twin (raddL L o) (baddL 1 L1 L2 L1 o) (baddL 2 L1 L2 L2 o) := by
  have e := h.addE hl o
  refine ⟨e, ?_⟩
  unfold baddL
  rw [e]
  by_cases hz : raddE L o = 0
  · rw [if_pos hz, if_pos hz]; exact h.add hf hz
  · rw [if_neg hz, if_neg hz]
    unfold raddL
    rw [if_neg hz]
    exact h
theorem twin_cancel (h : Twin L L1 L2) (hl : ListsOk L1 L2) (id : Int) : bcanE L1 L2 id = roE L id ∧ bcanO L1 L2 id = roO L id ∧ Twin (rcanL L id) (remI L1 id) (remI L2 id) := by
  unfold bcanE bcanO roE roO
  rw [h.get hl]
  refine ⟨rfl, rfl, ?_⟩
  cases hg : getI L id with
  | some o => exact h.cancel hg
  | none =>
    have h2 := getI_no.1 hg
    have e : rcanL L id = L := by
      unfold rcanL cutK
      rw [List.findIdx_eq_length.2 (fun x hx => by simpa using h2 x hx)]
      simp
    rw [e, remI_none (fun o ho => h2 o (h.mem.1 (List.mem_append.2 (.inl ho)))), remI_none (fun o ho => h2 o (h.mem.1 (List.mem_append.2 (.inr ho))))]
    exact h
theorem twin_cut (h : Twin L L1 L2) (hl : ListsOk L1 L2) (id n : Int) : cutE L1 L2 id n = rcutE L id n ∧ Twin (rcutL L id n) (bcutL L1 L2 L1 id n) (bcutL L1 L2 L2 id n) := by
  unfold cutE rcutE rcutL bcutL
  rw [h.get hl]
  cases hg : getI L id with
  | none => exact ⟨rfl, h⟩
  | some o =>
    dsimp only
    by_cases hc : 1 ≤ n ∧ n ≤ o.qty
    · rw [if_neg (by omega), if_pos hc, if_pos hc, if_pos hc, if_pos hc]
      refine ⟨rfl, ?_⟩
      have ho : o ∈ L ∧ o.id = id := by
        unfold getI at hg
        have h2 := List.find?_some hg
        simp at h2
        exact ⟨List.mem_of_find?_eq_some hg, h2⟩
      unfold cutS
      by_cases hq : n = o.qty
      · rw [if_pos hq, if_pos hq, if_pos hq, ho.2]
        exact h.cancel hg
      · rw [if_neg hq, if_neg hq, if_neg hq, ho.2]
        rcases idxI_cases L id with ⟨-, h2⟩ | ⟨k, hk, -, h3, h4, h5⟩
        · rw [h2] at hg; cases hg
        · have eo : L[k] = o := by
            rw [hg] at h5
            first
              | exact (Option.some.inj h5).symm
              | exact Option.some.inj h5
          have es : L.set (L.findIdx fun o => o.id == id) (cutO o n) = cutI L id n := by
            rw [h3]
            have := set_cutI h.ids hk n
            rw [eo, ho.2] at this
            exact this
          rw [es]
          refine h.map (fun x hx e => ?_)
          have ex : x = o := nodup_map_inj h.ids hx ho.1 (by rw [e, ho.2])
          subst ex
          have := (h.ok x hx).1.2.2.2
          omega
    · rw [if_pos (by omega), if_neg hc, if_neg hc, if_neg hc, if_neg hc]
      exact ⟨rfl, h⟩
end
end Go.Proofs.YtkcgchpbjegneaaGreatDoor
namespace Go.Proofs.YtkcgchpbjegneaaGreatDoor
open Go.RowKit
set_option linter.unusedVariables false

/-- both books, no box -/
structure Duo0 (w0 w : World) (b B : Nat) (G : Nat → Prop) (cs : Array Value) (A : Option Addr) (L L1 L2 : List Ord5) : Prop where
  book : BookAt w b G L1 L2
  ref : RefB w B 81 cs 0 A L
  bel : Below w0.heap.size w0 w
  gb : ∀ i, G i → w0.heap.size ≤ i
  bb : w0.heap.size ≤ B
  ab : ∀ g, blkOf A = some g → w0.heap.size ≤ g
  ap : ¬ G B
  aa : ∀ g, blkOf A = some g → ¬ G g
section
variable {w0 w w' : World} {b B : Nat} {G : Nat → Prop} {cs : Array Value} {A : Option Addr} {L L1 L2 : List Ord5}
theorem Duo0.below (h : Duo0 w0 w b B G cs A L L1 L2) (hb : Below w.heap.size w w') : Duo0 w0 w' b B G cs A L L1 L2 :=
  ⟨h.book.below hb, h.ref.below hb, h.bel.trans (hb.mono h.bel.size), h.gb, h.bb, h.ab, h.ap, h.aa⟩
theorem Duo0.bookTo (h : Duo0 w0 w b B G cs A L L1 L2) {M1 M2 : List Ord5} (ht : BookTo w w' b G M1 M2) : ∃ G', Duo0 w0 w' b B G' cs A L M1 M2 := by
  obtain ⟨G', h1, hk, hg⟩ := ht
  have hs := h.bel.size
  have hB := h.ref.blt
  refine ⟨G', h1, h.ref.keeps hk h.ap h.aa, h.bel.trans (hk.below h.gb h.bel.size), fun i hi => ?_, h.bb, h.ab, fun e => ?_, fun g hA e => ?_⟩
  · rcases hg i hi with h2 | h2
    · exact h.gb i h2
    · omega
  · rcases hg B e with h2 | h2
    · exact h.ap h2
    · omega
  · have h3 := h.ref.lt g hA
    rcases hg g e with h2 | h2
    · exact h.aa g hA h2
    · omega
theorem Duo0.refTo (h : Duo0 w0 w b B G cs A L L1 L2) {M : List Ord5} (ht : RefTo w w' B 81 cs 0 A M) : ∃ cs' A', Duo0 w0 w' b B G cs' A' M L1 L2 := by
  obtain ⟨A', c', h1, hk, hg⟩ := ht
  have hs := h.bel.size
  refine ⟨_, A', h.book.keeps hk (fun i hi e => h.ap (e ▸ hi)), h1, h.bel.trans (hk.below (fun i e => e ▸ h.bb) h.bel.size), h.gb, h.bb, fun g hA => ?_, h.ap, fun g hA e => ?_⟩
  · rcases hg g hA with h2 | h2
    · exact h.ab g h2
    · omega
  · rcases hg g hA with h2 | h2
    · exact h.aa g h2 e
    · have := h.book.fp e; omega
theorem duo0_add (h : Duo0 w0 w b B G cs A L L1 L2) {o : Ord5} (hf : FitO o) :
    Calls Tryz.prog 42 #[.pointer (some ⟨b, 0, none⟩), aggO o] w fun e w' => e = .returned (errV (addE L1 L2 o)) ∧ ∃ G', Duo0 w0 w' b B G' cs A L (baddL 1 L1 L2 L1 o) (baddL 2 L1 L2 L2 o) := by
  refine (bookAdd_any w b G L1 L2 h.book o hf).mono ?_
  rintro e w' (⟨h1, rfl, hb⟩ | ⟨h1, rfl, ht⟩)
  · refine ⟨rfl, G, ?_⟩
    unfold baddL
    rw [if_neg h1, if_neg h1]
    exact h.below hb
  · refine ⟨by rw [h1], ?_⟩
    unfold baddL
    rw [if_pos h1, if_pos h1]
    exact h.bookTo ht
theorem duo0_radd (h : Duo0 w0 w b B G cs A L L1 L2) (hn : L.length ≤ 100000) (o : Ord5) :
    Calls Tryz.prog 43 #[.pointer (some ⟨B, 0, none⟩), aggO o] w fun e w' => e = .returned (.int .i64 (raddE L o)) ∧ ∃ cs' A', Duo0 w0 w' b B G cs' A' (raddL L o) L1 L2 := by
  refine (radd_any w B _ cs 0 A L h.ref hn o).mono ?_
  rintro e w' ⟨rfl, ht⟩
  exact ⟨rfl, h.refTo ht⟩
end
/-- twins in memory -/
def PlayS (w0 w : World) (b B : Nat) : Prop := ∃ G cs A L L1 L2, Duo0 w0 w b B G cs A L L1 L2 ∧ Twin L L1 L2
theorem bare_same (n : Int) (w : World) (hE : ErrType w) : Calls Tryz.prog 17 #[errV n, .int .i64 n] w fun e w' => e = .returned (.bool true) ∧ Below w.heap.size w w' :=
  (bare_any (errV n) n (-1) n w hE (errIs_errV w n)).mono fun e w' ⟨h1, h2⟩ => ⟨by rw [h1]; simp, h2⟩

set_option maxRecDepth 100000 in
set_option maxHeartbeats 4000000 in
theorem laid_any (A : Option Addr) (len cap : Nat) (l : List Ord5) (w : World) (h : ElemsAt w encO 5 A len l) (hm : len ≤ 100) (hf : ∀ x ∈ l, FitO x) :
    Calls Tryz.prog 6 #[.slice A len cap] w fun e w' => ∃ b B, e = .returned (.tuple #[.pointer (some ⟨b, 0, none⟩), .pointer (some ⟨B, 0, none⟩)]) ∧ PlayS w w' b B := by
  have HEl := hid h
  have HF := hid hf
  have HL := hid h.1
  have HN := hid (bookNew_any w)
  clear h hf
  go_enter Tryz.func6, Tryz.ntmps6
  go_wp2_with fail
  refine HN.out.mono ?_
  rintro e w1 ⟨hb1, b, G, hG, rfl, hbk⟩
  have HBk := hid hbk
  have HG := hid hG
  have HB1 := hid hb1
  clear hbk hG hb1 HN
  have hPS : PlayS w (w1.alloc (.cells #[.slice none 0 0] 81)) b w1.heap.size := by
    have hb := (Below.refl w1.heap.size w1).alloc (Nat.le_refl _) (.cells #[.slice none 0 0] 81)
    refine ⟨G, #[.slice none 0 0], none, [], [], [], ⟨HBk.out.below hb, ⟨Blk.new _ _ _, ⟨0, rfl, Nat.le_refl _, by unfold maxLen; omega⟩, ⟨rfl, fun h => absurd h (by simp)⟩, by simp [blkOf], by simp [blkOf]⟩, HB1.out.trans (hb.mono HB1.out.size), HG.out, HB1.out.size, by simp [blkOf], fun e => Nat.lt_irrefl _ (HBk.out.fp e), by simp [blkOf]⟩, twin_nil⟩
  have HPS := hid hPS
  clear hPS
  go_upto_region 2 with fail
  obtain ⟨w2, ew2⟩ : ∃ W, (w1.alloc (.cells #[.slice none 0 0] 81)) = W := ⟨_, rfl⟩
  obtain ⟨B, eB⟩ : ∃ B, w1.heap.size = B := ⟨_, rfl⟩
  rw [ew2, eB] at HPS ⊢
  clear ew2 eB HBk HG HB1
  go_wp2_with fail
  go_loopg [6] len (fun gg s6 wx => ∃ k : Nat, k ≤ len ∧ gg = len - k ∧ s6 = .int .i64 k ∧ PlayS w wx b B)
  case atStart => exact ⟨0, Nat.zero_le _, rfl, rfl, HPS.out⟩
  case round =>
    obtain ⟨k, hk, rfl, rfl, hP⟩ := hrel
    have HP := hid hP
    have HB : Hid (Below w.heap.size w wr) := hid (by obtain ⟨_, _, _, _, _, _, h1, _⟩ := hP; exact h1.bel)
    clear hP HPS
    by_cases hlt : k < len
    · have hkl : k < l.length := by have := HL.out; omega
      obtain ⟨gA, oA, hA⟩ : ∃ b off, A = some ⟨b, off, none⟩ := by obtain ⟨b, off, h1, _⟩ := HEl.out.2 (by omega); exact ⟨b, off, h1⟩
      subst hA
      have hltz : (k : Int) < (len : Int) := by omega
      have hk7 : (0 : Int) ≤ (k : Int) := by omega
      have HFx := hid (HF.out _ (List.getElem_mem hkl))
      obtain ⟨G, cs, A, L, L1, L2, hd, ht⟩ := HP.out
      have HTw := hid ht
      have HSm := hid (ht.small hd.book.lists)
      obtain ⟨o, eo⟩ : ∃ o, l[k] = o := ⟨_, rfl⟩
      have hx0 := ord_at (HEl.out.below HB.out (Nat.le_refl _)) hkl
      rw [eo] at hx0 HFx
      obtain ⟨x0, x1, x2, x3, x4⟩ := hx0
      have hadd := duo0_add hd HFx.out
      unfold aggO at hadd
      have HA := hid hadd
      have HLs := hid hd.book.lists
      clear hadd hd ht HP
      go_wp2_with fail
      refine HA.out.mono ?_
      rintro e w3 ⟨rfl, G', hd3⟩
      obtain ⟨-, htw⟩ := twin_add HTw.out HLs.out (o := o) HFx.out
      have HB3 := hid hd3.bel
      have hradd := duo0_radd hd3 (by have := HSm.out; omega) o
      unfold aggO at hradd
      have HR := hid hradd
      have HTw3 := hid htw
      have hx1 := ord_at (HEl.out.below HB3.out (Nat.le_refl _)) hkl
      rw [eo] at hx1
      clear x0 x1 x2 x3 x4
      obtain ⟨x0, x1, x2, x3, x4⟩ := hx1
      clear hradd hd3 htw HA HTw HB HSm HLs
      go_wp2_with fail
      refine HR.out.mono ?_
      rintro e w4 ⟨rfl, cs4, A4, hd4⟩
      have HP4 := hid (show PlayS w w4 b B from ⟨_, _, _, _, _, _, hd4, HTw3.out⟩)
      clear hd4 HR HTw3 x0 x1 x2 x3 x4 HB3 eo
      go_wp2_with fail
      go_roundg (len - (k + 1))
      case measure => omega
      case rel => exact ⟨k + 1, by omega, rfl, by go_num, HP4.out⟩
    · obtain rfl : k = len := by omega
      have hltz : ¬ (k : Int) < (k : Int) := by omega
      go_wp2_with fail
      refine bodyPost_ret (results_tmp2 rfl _ _ _) rfl ?_
      exact ⟨b, B, rfl, HP.out⟩
end Go.Proofs.YtkcgchpbjegneaaGreatDoor
namespace Go.Proofs.YtkcgchpbjegneaaGreatDoor
open Go.RowKit
set_option linter.unusedVariables false

def okO (o : Ord5) : Bool := (decide (1 ≤ o.qty) && decide (o.qty ≤ 1000000)) && (o.side == 1 || o.side == 2)
def demQ (p : Int) (o : Ord5) : Int := if o.side = 1 ∧ (o.kind = 2 ∨ p ≤ o.price) then o.qty else 0
def supQ (p : Int) (o : Ord5) : Int := if o.side = 2 ∧ (o.kind = 2 ∨ o.price ≤ p) then o.qty else 0
def demL (p : Int) (l : List Ord5) : Int := l.foldl (fun s o => s + demQ p o) 0
def supL (p : Int) (l : List Ord5) : Int := l.foldl (fun s o => s + supQ p o) 0
theorem demL_snoc (p : Int) (l : List Ord5) (o : Ord5) : demL p (l ++ [o]) = demL p l + demQ p o := by unfold demL; rw [List.foldl_append]; rfl
theorem supL_snoc (p : Int) (l : List Ord5) (o : Ord5) : supL p (l ++ [o]) = supL p l + supQ p o := by unfold supL; rw [List.foldl_append]; rfl
def goodL (l : List Ord5) : List Ord5 := l.filter okO
def pricesL (l : List Ord5) (more : Int) : List Int := (if 1 ≤ more then [more] else []) ++ ((goodL l).filter (fun o => !(o.kind == 2))).map (·.price)
theorem goodL_snoc (l : List Ord5) (o : Ord5) : goodL (l ++ [o]) = goodL l ++ (if okO o = true then [o] else []) := by
  unfold goodL
  rw [List.filter_append]
  cases h : okO o <;> simp [h]
theorem pricesL_snoc (l : List Ord5) (o : Ord5) (more : Int) : pricesL (l ++ [o]) more = pricesL l more ++ (if okO o = true ∧ o.kind ≠ 2 then [o.price] else []) := by
  unfold pricesL
  rw [goodL_snoc, List.filter_append, List.map_append, List.append_assoc]
  congr 2
  by_cases h1 : okO o = true
  · by_cases h2 : o.kind = 2 <;> simp [h1, h2]
  · simp [h1]

/-- a sorted list, each number once -/
def ddF (s : List Int × Option Int) (p : Int) : List Int × Option Int := if s.2 = some p then s else (s.1 ++ [p], some p)
def ddS (l : List Int) : List Int × Option Int := l.foldl ddF ([], none)
def dd (l : List Int) : List Int := (ddS l).1
theorem ddS_snoc (l : List Int) (p : Int) : ddS (l ++ [p]) = ddF (ddS l) p := by unfold ddS; rw [List.foldl_append]; rfl
theorem ddS_last (l : List Int) : (ddS l).2 = l.getLast? := by
  rcases List.eq_nil_or_concat l with rfl | ⟨l', p, rfl⟩
  · rfl
  · rw [List.concat_eq_append, ddS_snoc, List.getLast?_append]
    unfold ddF
    split
    · rename_i h; rw [h]; rfl
    · rfl
theorem dd_snoc (l : List Int) (p : Int) : dd (l ++ [p]) = if l.getLast? = some p then dd l else dd l ++ [p] := by
  unfold dd
  rw [ddS_snoc, ← ddS_last]
  unfold ddF
  split <;> rfl
theorem dd_fold (l : List Int) : ∀ (acc : List Int) (o : Option Int), acc.Pairwise (· < ·) → (∀ x ∈ acc, ∀ y ∈ l, x ≤ y) → (∀ y, o = some y → y ∈ acc ∧ ∀ x ∈ acc, x ≤ y) → (o = none → acc = []) → l.Pairwise (· ≤ ·) →
    (l.foldl ddF (acc, o)).1.Pairwise (· < ·) ∧ ∀ x, x ∈ (l.foldl ddF (acc, o)).1 ↔ x ∈ acc ∨ x ∈ l := by
  induction l with
  | nil => intro acc o h1 h2 h3 h4 h5; exact ⟨h1, fun x => by simp⟩
  | cons a l ih =>
    intro acc o h1 h2 h3 h4 h5
    rw [List.foldl_cons]
    rw [List.pairwise_cons] at h5
    by_cases ho : o = some a
    · have e : ddF (acc, o) a = (acc, o) := by unfold ddF; rw [if_pos ho]
      rw [e]
      obtain ⟨g1, g2⟩ := ih acc o h1 (fun x hx y hy => h2 x hx y (by simp [hy])) h3 h4 h5.2
      refine ⟨g1, fun x => ?_⟩
      rw [g2]
      have := (h3 a ho).1
      constructor
      · rintro (h | h)
        · exact .inl h
        · exact .inr (by simp [h])
      · rintro (h | h)
        · exact .inl h
        · rcases List.mem_cons.1 h with rfl | h
          · exact .inl this
          · exact .inr h
    · have e : ddF (acc, o) a = (acc ++ [a], some a) := by unfold ddF; rw [if_neg ho]
      rw [e]
      have hlt : ∀ x ∈ acc, x < a := by
        intro x hx
        cases o with
        | none => rw [h4 rfl] at hx; cases hx
        | some y =>
          obtain ⟨k1, k2⟩ := h3 y rfl
          have h6 := h2 y k1 a (by simp)
          have h7 := k2 x hx
          have h8 : y ≠ a := fun e => ho (by rw [e])
          omega
      obtain ⟨g1, g2⟩ := ih (acc ++ [a]) (some a) (List.pairwise_append.2 ⟨h1, List.pairwise_singleton _ _, fun x hx y hy => by simp at hy; subst hy; exact hlt x hx⟩)
        (fun x hx y hy => by
          rcases List.mem_append.1 hx with hx | hx
          · exact h2 x hx y (by simp [hy])
          · simp at hx; subst hx; exact h5.1 y hy)
        (fun y hy => by
          cases hy
          exact ⟨by simp, fun x hx => by
            rcases List.mem_append.1 hx with hx | hx
            · exact Int.le_of_lt (hlt x hx)
            · simp at hx; omega⟩)
        (fun h => by cases h) h5.2
      refine ⟨g1, fun x => ?_⟩
      rw [g2]
      simp [or_assoc]
/-- sorted, each once: by whichever list of the same numbers -/
theorem dd_sorted (L ss : List Int) (hnd : ss.Nodup) (hm : ∀ x, x ∈ ss ↔ x ∈ L) : dd (L.mergeSort fun x y => decide (x ≤ y)) = ss.mergeSort fun x y => decide (x ≤ y) := by
  have tr : ∀ a b c : Int, (decide (a ≤ b)) = true → (decide (b ≤ c)) = true → (decide (a ≤ c)) = true := fun a b c h1 h2 => by simp at *; omega
  have tot : ∀ a b : Int, (decide (a ≤ b) || decide (b ≤ a)) = true := fun a b => by simp; omega
  have hs := List.pairwise_mergeSort tr tot L
  have hs' : (L.mergeSort fun x y => decide (x ≤ y)).Pairwise (· ≤ ·) := hs.imp (fun h => by simpa using h)
  obtain ⟨g1, g2⟩ := dd_fold (L.mergeSort fun x y => decide (x ≤ y)) [] none List.Pairwise.nil (fun x hx => by cases hx) (fun y h => by cases h) (fun _ => rfl) hs'
  have hmem : ∀ x, x ∈ dd (L.mergeSort fun x y => decide (x ≤ y)) ↔ x ∈ L := fun x => by
    show x ∈ (List.foldl ddF ([], none) _).1 ↔ _
    rw [g2]
    simp [List.mem_mergeSort]
  have hnd2 : (dd (L.mergeSort fun x y => decide (x ≤ y))).Nodup := g1.imp (fun h => by omega)
  refine List.Perm.eq_of_pairwise (le := fun a b => a ≤ b) (fun a b _ _ h1 h2 => by omega) (g1.imp (fun h => by omega)) ((List.pairwise_mergeSort tr tot ss).imp (fun h => by simpa using h)) ?_
  refine List.Perm.trans ?_ (List.mergeSort_perm ss _).symm
  exact (List.perm_ext_iff_of_nodup hnd2 hnd).2 fun x => (hmem x).trans (hm x).symm

def pointOf (g : List Ord5) (p : Int) : Tri := (p, demL p g, supL p g)
/-- the points of orders -/
def curveP (l : List Ord5) (more : Int) : List Tri := (dd ((pricesL l more).mergeSort fun x y => decide (x ≤ y))).map (pointOf (goodL l))

theorem fold_bound (F : Ord5 → Int) (l : List Ord5) (hF : ∀ o ∈ l, 0 ≤ F o ∧ F o ≤ 1000000) : ∀ s : Int, 0 ≤ s → 0 ≤ l.foldl (fun s o => s + F o) s ∧ l.foldl (fun s o => s + F o) s ≤ s + 1000000 * l.length := by
  induction l with
  | nil => intro s hs; simp; omega
  | cons a l ih =>
    intro s hs
    have h1 := hF a (by simp)
    have h2 := ih (fun o ho => hF o (by simp [ho])) (s + F a) (by omega)
    rw [List.foldl_cons, List.length_cons]
    refine ⟨h2.1, Int.le_trans h2.2 ?_⟩
    push_cast
    omega
theorem okO_qty {o : Ord5} (h : okO o = true) : 1 ≤ o.qty ∧ o.qty ≤ 1000000 := by unfold okO at h; simp at h; exact h.1
theorem demQ_bound {p : Int} {o : Ord5} (h : okO o = true) : 0 ≤ demQ p o ∧ demQ p o ≤ 1000000 := by
  have := okO_qty h
  unfold demQ
  split <;> omega
theorem supQ_bound {p : Int} {o : Ord5} (h : okO o = true) : 0 ≤ supQ p o ∧ supQ p o ≤ 1000000 := by
  have := okO_qty h
  unfold supQ
  split <;> omega
theorem demL_bound {p : Int} {l : List Ord5} (h : ∀ o ∈ l, okO o = true) : 0 ≤ demL p l ∧ demL p l ≤ 1000000 * l.length := by
  have := fold_bound (demQ p) l (fun o ho => demQ_bound (h o ho)) 0 (Int.le_refl _)
  unfold demL
  omega
theorem supL_bound {p : Int} {l : List Ord5} (h : ∀ o ∈ l, okO o = true) : 0 ≤ supL p l ∧ supL p l ≤ 1000000 * l.length := by
  have := fold_bound (supQ p) l (fun o ho => supQ_bound (h o ho)) 0 (Int.le_refl _)
  unfold supL
  omega
theorem goodL_ok {l : List Ord5} : ∀ o ∈ goodL l, okO o = true := fun o ho => (List.mem_filter.1 ho).2
theorem dd_len (l : List Int) : ∀ s : List Int × Option Int, (l.foldl ddF s).1.length ≤ s.1.length + l.length := by
  induction l with
  | nil => intro s; simp
  | cons a l ih =>
    intro s
    rw [List.foldl_cons]
    refine Nat.le_trans (ih _) ?_
    unfold ddF
    split <;> simp <;> omega
theorem curveP_len (l : List Ord5) (more : Int) : (curveP l more).length ≤ l.length + 1 := by
  unfold curveP
  rw [List.length_map]
  have h1 := dd_len ((pricesL l more).mergeSort fun x y => decide (x ≤ y)) ([], none)
  rw [List.length_mergeSort] at h1
  have h2 : (pricesL l more).length ≤ l.length + 1 := by
    unfold pricesL
    rw [List.length_append, List.length_map]
    have h3 := List.length_filter_le (fun o : Ord5 => !(o.kind == 2)) (goodL l)
    have h4 : (goodL l).length ≤ l.length := List.length_filter_le okO l
    have h5 : (if 1 ≤ more then [more] else []).length ≤ 1 := by split <;> simp
    omega
  simp only [List.length_nil, Nat.zero_add] at h1
  exact Nat.le_trans h1 h2

theorem dd_mem (L : List Int) (x : Int) : x ∈ dd (L.mergeSort fun x y => decide (x ≤ y)) ↔ x ∈ L := by
  have tr : ∀ a b c : Int, (decide (a ≤ b)) = true → (decide (b ≤ c)) = true → (decide (a ≤ c)) = true := fun a b c h1 h2 => by simp at *; omega
  have tot : ∀ a b : Int, (decide (a ≤ b) || decide (b ≤ a)) = true := fun a b => by simp; omega
  have hs' : (L.mergeSort fun x y => decide (x ≤ y)).Pairwise (· ≤ ·) := (List.pairwise_mergeSort tr tot L).imp (fun h => by simpa using h)
  obtain ⟨_, g2⟩ := dd_fold (L.mergeSort fun x y => decide (x ≤ y)) [] none List.Pairwise.nil (fun x hx => by cases hx) (fun y h => by cases h) (fun _ => rfl) hs'
  show x ∈ (List.foldl ddF ([], none) _).1 ↔ _
  rw [g2]
  simp [List.mem_mergeSort]

/-- orders that may all lie -/
def AllOk (l : List Ord5) : Prop := ∀ o ∈ l, okO o = true
theorem goodL_all {l : List Ord5} (h : AllOk l) : goodL l = l := List.filter_eq_self.2 h
theorem mem_prices {l : List Ord5} {more : Int} (h : AllOk l) {o : Ord5} (ho : o ∈ l) (hk : ¬ o.kind = 2) : o.price ∈ pricesL l more := by
  unfold pricesL
  rw [goodL_all h]
  refine List.mem_append.2 (.inr (List.mem_map.2 ⟨o, List.mem_filter.2 ⟨ho, by simp [hk]⟩, rfl⟩))

end Go.Proofs.YtkcgchpbjegneaaGreatDoor
namespace Go.Proofs.YtkcgchpbjegneaaGreatDoor
open Go.RowKit
set_option linter.unusedVariables false

/-- whether an order of that side would trade at a price -/
def wantB (s p : Int) (o : Ord5) : Bool := (o.kind == 2) || ((s == 1) && decide (p ≤ o.price)) || ((s == 2) && decide (o.price ≤ p))
def AheadP (s : Int) (a b : Ord5) : Prop := ∀ p, wantB s p b = true → wantB s p a = true
def Ranked (s : Int) (L : List Ord5) : Prop := L.Pairwise (AheadP s)
theorem AheadP.trans {s : Int} {a b c : Ord5} (h : AheadP s a b) (k : AheadP s b c) : AheadP s a c := fun p hp => h p (k p hp)
theorem ahead_yes {s : Int} (hs : Is12 s) {o x : Ord5} (h : aheadB s o x = true) : AheadP s x o := by
  intro p hp
  unfold aheadB betB at h
  unfold wantB at hp ⊢
  rcases hs with rfl | rfl
  · simp at h hp ⊢
    omega
  · simp at h hp ⊢
    omega
theorem ahead_no {s : Int} (hs : Is12 s) {o x : Ord5} (h : aheadB s o x = false) : AheadP s o x := by
  intro p hp
  unfold aheadB betB at h
  unfold wantB at hp ⊢
  rcases hs with rfl | rfl
  · simp at h hp ⊢
    omega
  · simp at h hp ⊢
    omega
theorem takeWhile_yes {α : Type} {q : α → Bool} : ∀ {l : List α} {a : α}, a ∈ l.takeWhile q → q a = true
  | [], _, h => by simp at h
  | b :: l, a, h => by
    rw [List.takeWhile_cons] at h
    split at h
    · rename_i hq
      rcases List.mem_cons.1 h with rfl | h
      · exact hq
      · exact takeWhile_yes h
    · cases h
theorem dropWhile_head {α : Type} {q : α → Bool} : ∀ {l : List α} {d : α} {r : List α}, l.dropWhile q = d :: r → q d = false
  | [], _, _, h => by simp at h
  | a :: l, d, r, h => by
    rw [List.dropWhile_cons] at h
    split at h
    · exact dropWhile_head h
    · rename_i hq
      cases h
      simpa using hq
theorem ranked_ins {s : Int} (hs : Is12 s) {L : List Ord5} (h : Ranked s L) (o : Ord5) : Ranked s (insO s L o) := by
  unfold insO Ranked at *
  have hsp : L.takeWhile (aheadB s o) ++ L.dropWhile (aheadB s o) = L := List.takeWhile_append_dropWhile
  rw [← hsp, List.pairwise_append] at h
  obtain ⟨h1, h2, h3⟩ := h
  have hyes : ∀ a ∈ L.takeWhile (aheadB s o), AheadP s a o := fun a ha => ahead_yes hs (takeWhile_yes ha)
  have hno : ∀ b ∈ L.dropWhile (aheadB s o), AheadP s o b := by
    cases hd : L.dropWhile (aheadB s o) with
    | nil => intro b hb; cases hb
    | cons d r =>
      have hdn := ahead_no hs (dropWhile_head hd)
      rw [hd] at h2
      intro b hb
      rcases List.mem_cons.1 hb with rfl | hb
      · exact hdn
      · exact hdn.trans ((List.pairwise_cons.1 h2).1 b hb)
  rw [List.pairwise_append]
  refine ⟨h1, List.pairwise_cons.2 ⟨hno, h2⟩, fun a ha b hb => ?_⟩
  rcases List.mem_cons.1 hb with rfl | hb
  · exact hyes a ha
  · exact h3 a ha b hb

def sumF (f : Ord5 → Int) : List Ord5 → Int
  | [] => 0
  | o :: l => f o + sumF f l
theorem sumF_perm {f : Ord5 → Int} {l l' : List Ord5} (h : l.Perm l') : sumF f l = sumF f l' := by
  induction h with
  | nil => rfl
  | cons a _ ih => simp only [sumF, ih]
  | swap a b l => simp only [sumF]; omega
  | trans _ _ h1 h2 => exact h1.trans h2
theorem sumF_append {f : Ord5 → Int} (l l' : List Ord5) : sumF f (l ++ l') = sumF f l + sumF f l' := by
  induction l with
  | nil => simp [sumF]
  | cons a l ih => simp only [List.cons_append, sumF, ih]; omega
theorem sumF_foldl (f : Ord5 → Int) (l : List Ord5) : ∀ s : Int, l.foldl (fun s o => s + f o) s = s + sumF f l := by
  induction l with
  | nil => intro s; simp [sumF]
  | cons a l ih => intro s; rw [List.foldl_cons, ih]; simp only [sumF]; omega
theorem sumF_congr {f g : Ord5 → Int} {l : List Ord5} (h : ∀ o ∈ l, f o = g o) : sumF f l = sumF g l := by
  induction l with
  | nil => rfl
  | cons a l ih => simp only [sumF]; rw [h a (by simp), ih (fun o ho => h o (by simp [ho]))]
theorem sumF_map {f : Ord5 → Int} {g : Ord5 → Ord5} (l : List Ord5) : sumF f (l.map g) = sumF (fun o => f (g o)) l := by
  induction l with
  | nil => rfl
  | cons a l ih => simp only [List.map_cons, sumF, ih]
theorem sumF_zero {f : Ord5 → Int} {l : List Ord5} (h : ∀ o ∈ l, f o = 0) : sumF f l = 0 := by
  induction l with
  | nil => rfl
  | cons a l ih => simp only [sumF]; rw [h a (by simp), ih (fun o ho => h o (by simp [ho]))]; rfl
theorem sumF_nonneg {f : Ord5 → Int} {l : List Ord5} (h : ∀ o ∈ l, 0 ≤ f o) : 0 ≤ sumF f l := by
  induction l with
  | nil => simp [sumF]
  | cons a l ih =>
    have h1 := h a (by simp)
    have h2 := ih (fun o ho => h o (by simp [ho]))
    simp only [sumF]
    omega
theorem sumF_le {f g : Ord5 → Int} {l : List Ord5} (h : ∀ o ∈ l, f o ≤ g o) : sumF f l ≤ sumF g l := by
  induction l with
  | nil => simp [sumF]
  | cons a l ih =>
    have h1 := h a (by simp)
    have h2 := ih (fun o ho => h o (by simp [ho]))
    simp only [sumF]
    omega
theorem sumF_mem {f : Ord5 → Int} {l : List Ord5} (h : ∀ o ∈ l, 0 ≤ f o) {x : Ord5} (hx : x ∈ l) : f x ≤ sumF f l := by
  induction l with
  | nil => cases hx
  | cons a l ih =>
    have h1 := h a (by simp)
    have h2 := sumF_nonneg (fun o ho => h o (by simp [ho]) : ∀ o ∈ l, 0 ≤ f o)
    simp only [sumF]
    rcases List.mem_cons.1 hx with rfl | hx
    · omega
    · have := ih (fun o ho => h o (by simp [ho])) hx
      omega

/-- the lots that want to trade; all lots -/
def wantL (s p : Int) (L : List Ord5) : Int := sumF (fun o => if wantB s p o = true then o.qty else 0) L
def allQ (L : List Ord5) : Int := sumF (fun o => o.qty) L
/-- what is left of the list behind so many lots, the first ones first -/
def dropQ : List Ord5 → Int → List Ord5
  | [], _ => []
  | o :: t, a => if a ≤ 0 then o :: t else if o.qty ≤ a then dropQ t (a - o.qty) else cutO o a :: t
/-- how many of an order's lots are among them -/
def clampQ (a q : Int) : Int := if a ≤ 0 then 0 else if a < q then a else q
def takeOf : List Ord5 → Int → Int → Int
  | [], _, _ => 0
  | o :: t, a, id => if o.id = id then clampQ a o.qty else takeOf t (a - o.qty) id

theorem dropQ_zero (L : List Ord5) {a : Int} (h : a ≤ 0) : dropQ L a = L := by
  cases L with
  | nil => rfl
  | cons o t => unfold dropQ; rw [if_pos h]
theorem takeOf_zero (id : Int) : ∀ (L : List Ord5) {a : Int}, a ≤ 0 → (∀ o ∈ L, 1 ≤ o.qty) → takeOf L a id = 0
  | [], _, _, _ => rfl
  | o :: t, a, h, hq => by
    unfold takeOf
    have h1 := hq o (by simp)
    split
    · unfold clampQ; rw [if_pos h]
    · exact takeOf_zero id t (by omega) (fun o ho => hq o (by simp [ho]))
theorem takeOf_other {id : Int} : ∀ (L : List Ord5) (a : Int), (∀ o ∈ L, o.id ≠ id) → takeOf L a id = 0
  | [], _, _ => rfl
  | o :: t, a, h => by
    unfold takeOf
    rw [if_neg (h o (by simp))]
    exact takeOf_other t _ (fun o ho => h o (by simp [ho]))
theorem mem_dropQ {x : Ord5} : ∀ {L : List Ord5} {a : Int}, x ∈ dropQ L a → ∃ o ∈ L, o.id = x.id ∧ o.side = x.side ∧ o.kind = x.kind ∧ o.price = x.price ∧ x.qty ≤ o.qty
  | [], _, h => by cases h
  | o :: t, a, h => by
    unfold dropQ at h
    split at h
    · exact ⟨x, h, rfl, rfl, rfl, rfl, Int.le_refl _⟩
    · split at h
      · obtain ⟨y, hy, h1⟩ := mem_dropQ h
        exact ⟨y, List.mem_cons_of_mem _ hy, h1⟩
      · rcases List.mem_cons.1 h with rfl | h
        · exact ⟨o, by simp, rfl, rfl, rfl, rfl, by unfold cutO; dsimp only; omega⟩
        · exact ⟨x, List.mem_cons_of_mem _ h, rfl, rfl, rfl, rfl, Int.le_refl _⟩
theorem dropQ_ne : ∀ {L : List Ord5} {a : Int}, 0 ≤ a → a < allQ L → dropQ L a ≠ []
  | [], a, h0, h => by simp [allQ, sumF] at h; omega
  | o :: t, a, h0, h => by
    have e : allQ (o :: t) = o.qty + allQ t := rfl
    unfold dropQ
    split
    · simp
    · split
      · exact dropQ_ne (by omega) (by omega)
      · simp
theorem dropQ_step {x : Ord5} {t : List Ord5} {n : Int} : ∀ {L : List Ord5} {a : Int}, (∀ o ∈ L, 1 ≤ o.qty) → 0 ≤ a → dropQ L a = x :: t → 1 ≤ n → n ≤ x.qty → (if n = x.qty then t else cutO x n :: t) = dropQ L (a + n)
  | [], a, _, _, h, _, _ => by simp [dropQ] at h
  | o :: s, a, hq, h0, h, h1, h2 => by
    have ho := hq o (by simp)
    have hs : ∀ o ∈ s, 1 ≤ o.qty := fun y hy => hq y (by simp [hy])
    unfold dropQ at h
    by_cases ha : a ≤ 0
    · rw [if_pos ha] at h
      injection h with e1 e2
      subst e1
      subst e2
      unfold dropQ
      rw [if_neg (show ¬ a + n ≤ 0 by omega)]
      by_cases e : n = o.qty
      · rw [if_pos e, if_pos (show o.qty ≤ a + n by omega), dropQ_zero _ (by omega)]
      · rw [if_neg e, if_neg (show ¬ o.qty ≤ a + n by omega)]
        have : a + n = n := by omega
        rw [this]
    · rw [if_neg ha] at h
      by_cases hb : o.qty ≤ a
      · rw [if_pos hb] at h
        have ih := dropQ_step hs (by omega) h h1 h2
        rw [ih]
        conv => rhs; unfold dropQ
        rw [if_neg (show ¬ a + n ≤ 0 by omega), if_pos (show o.qty ≤ a + n by omega)]
        congr 1
        omega
      · rw [if_neg hb] at h
        injection h with e1 e2
        subst e1
        subst e2
        have e3 : (cutO o a).qty = o.qty - a := rfl
        rw [e3] at h2 ⊢
        conv => rhs; unfold dropQ
        rw [if_neg (show ¬ a + n ≤ 0 by omega)]
        by_cases e : n = o.qty - a
        · rw [if_pos e, if_pos (show o.qty ≤ a + n by omega), dropQ_zero _ (by omega)]
        · rw [if_neg e, if_neg (show ¬ o.qty ≤ a + n by omega)]
          have e4 : cutO (cutO o a) n = cutO o (a + n) := by unfold cutO; dsimp only; congr 1; omega
          rw [e4]
theorem takeOf_step {x : Ord5} {t : List Ord5} {n : Int} (id : Int) : ∀ {L : List Ord5} {a : Int}, (∀ o ∈ L, 1 ≤ o.qty) → (L.map (·.id)).Nodup → 0 ≤ a → dropQ L a = x :: t → 1 ≤ n → n ≤ x.qty →
    takeOf L (a + n) id = takeOf L a id + (if x.id = id then n else 0)
  | [], a, _, _, _, h, _, _ => by simp [dropQ] at h
  | o :: s, a, hq, hn, h0, h, h1, h2 => by
    have ho := hq o (by simp)
    have hs : ∀ o ∈ s, 1 ≤ o.qty := fun y hy => hq y (by simp [hy])
    rw [List.map_cons, List.nodup_cons] at hn
    unfold dropQ at h
    unfold takeOf
    by_cases ha : a ≤ 0
    · rw [if_pos ha] at h
      injection h with e1 e2
      subst e1
      by_cases e : o.id = id
      · rw [if_pos e, if_pos e, if_pos e]
        unfold clampQ
        rw [if_neg (by omega), if_pos ha]
        split <;> omega
      · rw [if_neg e, if_neg e, if_neg e, takeOf_zero id s (by omega) hs, takeOf_zero id s (by omega) hs]
        rfl
    · rw [if_neg ha] at h
      by_cases hb : o.qty ≤ a
      · rw [if_pos hb] at h
        have hx : x.id ≠ o.id := by
          intro e
          have hm : x ∈ dropQ s (a - o.qty) := by rw [h]; simp
          obtain ⟨y, hy, hyi, _⟩ := mem_dropQ hm
          exact hn.1 (List.mem_map.2 ⟨y, hy, hyi.trans e⟩)
        by_cases e : o.id = id
        · rw [if_pos e, if_pos e, if_neg (by rw [← e]; exact hx)]
          unfold clampQ
          rw [if_neg (by omega), if_neg (by omega), if_neg (by omega), if_neg (by omega)]
          omega
        · rw [if_neg e, if_neg e]
          have ih := takeOf_step id hs hn.2 (by omega) h h1 h2
          rw [← ih]
          congr 1
          omega
      · rw [if_neg hb] at h
        injection h with e1 e2
        subst e1
        have e3 : (cutO o a).qty = o.qty - a := rfl
        have e4 : (cutO o a).id = o.id := rfl
        rw [e3] at h2
        rw [e4]
        by_cases e : o.id = id
        · rw [if_pos e, if_pos e, if_pos e]
          unfold clampQ
          rw [if_neg (show ¬ a + n ≤ 0 by omega), if_neg ha, if_pos (show a < o.qty by omega)]
          split <;> omega
        · rw [if_neg e, if_neg e, if_neg e, takeOf_zero id s (by omega) hs, takeOf_zero id s (by omega) hs]
          rfl

/-- the ranked list, walked -/
theorem takeOf_at {pre : List Ord5} {o : Ord5} {post : List Ord5} : ∀ {a : Int}, ((pre ++ o :: post).map (·.id)).Nodup → takeOf (pre ++ o :: post) a o.id = clampQ (a - allQ pre) o.qty := by
  induction pre with
  | nil =>
    intro a h
    show takeOf (o :: post) a o.id = clampQ (a - 0) o.qty
    unfold takeOf
    rw [if_pos rfl]
    congr 1
    omega
  | cons y pre ih =>
    intro a h
    rw [List.cons_append, List.map_cons, List.nodup_cons] at h
    have hne : y.id ≠ o.id := fun e => h.1 (List.mem_map.2 ⟨o, by simp, e.symm⟩)
    show takeOf (y :: (pre ++ o :: post)) a o.id = _
    unfold takeOf
    rw [if_neg hne, ih h.2]
    have e : allQ (y :: pre) = y.qty + allQ pre := rfl
    rw [e]
    congr 1
    omega
theorem wantL_append (s p : Int) (l l' : List Ord5) : wantL s p (l ++ l') = wantL s p l + wantL s p l' := sumF_append l l'
theorem wantL_all {s p : Int} {L : List Ord5} (h : ∀ o ∈ L, 1 ≤ o.qty) : wantL s p L ≤ allQ L := by
  refine sumF_le fun o ho => ?_
  have := h o ho
  split <;> omega
/-- who trades is willing -/
theorem want_at {s p a : Int} {pre : List Ord5} {o : Ord5} {post : List Ord5} (hr : Ranked s (pre ++ o :: post)) (hq : ∀ x ∈ pre ++ o :: post, 1 ≤ x.qty) (h : a ≤ wantL s p (pre ++ o :: post)) (ha : allQ pre < a) : wantB s p o = true := by
  cases hw : wantB s p o with
  | true => rfl
  | false =>
    exfalso
    unfold Ranked at hr
    rw [List.pairwise_append, List.pairwise_cons] at hr
    have h2 : wantL s p (o :: post) = 0 := by
      refine sumF_zero fun x hx => ?_
      rcases List.mem_cons.1 hx with rfl | hx
      · rw [if_neg (by rw [hw]; decide)]
      · rw [if_neg]
        intro h'
        have := hr.2.1.1 x hx p h'
        rw [hw] at this
        cases this
    rw [wantL_append, h2] at h
    have h3 := wantL_all (s := s) (p := p) (fun x hx => hq x (List.mem_append_left _ hx) : ∀ x ∈ pre, 1 ≤ x.qty)
    omega
/-- who is left and willing has all those ahead of him traded -/
theorem want_left {s p : Int} {x : Ord5} : ∀ {L : List Ord5} {a : Int}, Ranked s L → (∀ o ∈ L, 1 ≤ o.qty) → x ∈ dropQ L a → wantB s p x = true → a + 1 ≤ wantL s p L
  | [], a, _, _, h, _ => by cases h
  | o :: t, a, hr, hq, h, hw => by
    have ho := hq o (by simp)
    have ht : ∀ o ∈ t, 1 ≤ o.qty := fun y hy => hq y (by simp [hy])
    have hr' := List.pairwise_cons.1 hr
    have hnn : ∀ l : List Ord5, (∀ o ∈ l, 1 ≤ o.qty) → ∀ y ∈ l, 0 ≤ (if wantB s p y = true then y.qty else 0) := fun l hl y hy => by
      have := hl y hy
      split <;> omega
    have e : wantL s p (o :: t) = (if wantB s p o = true then o.qty else 0) + wantL s p t := rfl
    have h0 : 0 ≤ wantL s p t := sumF_nonneg (hnn t ht)
    unfold dropQ at h
    by_cases ha : a ≤ 0
    · rw [if_pos ha] at h
      have h1 := sumF_mem (hnn (o :: t) hq) h
      rw [if_pos hw] at h1
      have h2 := hq x h
      show a + 1 ≤ sumF _ _
      omega
    · rw [if_neg ha] at h
      by_cases hb : o.qty ≤ a
      · rw [if_pos hb] at h
        have ih := want_left hr'.2 ht h hw
        have hwo : wantB s p o = true := by
          obtain ⟨y, hy, h1, h2, h3, h4, h5⟩ := mem_dropQ h
          refine hr'.1 y hy p ?_
          unfold wantB at hw ⊢
          rw [h3, h4]
          exact hw
        rw [e, if_pos hwo]
        omega
      · rw [if_neg hb] at h
        have hwo : wantB s p o = true := by
          rcases List.mem_cons.1 h with rfl | h
          · exact hw
          · exact hr'.1 x h p hw
        rw [e, if_pos hwo]
        omega

/-- a trade -/
structure Fill4 where
  b : Int
  s : Int
  p : Int
  n : Int
def sumN (g : Fill4 → Int) : List Fill4 → Int
  | [] => 0
  | f :: l => g f + sumN g l
theorem sumN_snoc (g : Fill4 → Int) (l : List Fill4) (f : Fill4) : sumN g (l ++ [f]) = sumN g l + g f := by
  induction l with
  | nil => simp [sumN]
  | cons a l ih => simp only [List.cons_append, sumN, ih]; omega
/-- the trades of so many lots -/
structure FillsOk (L1 L2 : List Ord5) (p a : Int) (F : List Fill4) : Prop where
  one : ∀ f ∈ F, f.p = p ∧ 1 ≤ f.n ∧ (∃ o ∈ L1, o.id = f.b) ∧ (∃ o ∈ L2, o.id = f.s)
  sum : sumN (·.n) F = a
  buy : ∀ id, sumN (fun f => if f.b = id then f.n else 0) F = takeOf L1 a id
  sell : ∀ id, sumN (fun f => if f.s = id then f.n else 0) F = takeOf L2 a id
  len : (F.length : Int) ≤ a
theorem FillsOk.start {L1 L2 : List Ord5} {p : Int} (h1 : ∀ o ∈ L1, 1 ≤ o.qty) (h2 : ∀ o ∈ L2, 1 ≤ o.qty) : FillsOk L1 L2 p 0 [] :=
  ⟨fun f hf => (by cases hf), rfl, fun id => (takeOf_zero id L1 (Int.le_refl _) h1).symm, fun id => (takeOf_zero id L2 (Int.le_refl _) h2).symm, by simp⟩
theorem FillsOk.step {L1 L2 : List Ord5} {p a n : Int} {F : List Fill4} (h : FillsOk L1 L2 p a F) (h1 : ∀ o ∈ L1, 1 ≤ o.qty) (h2 : ∀ o ∈ L2, 1 ≤ o.qty) (d1 : (L1.map (·.id)).Nodup) (d2 : (L2.map (·.id)).Nodup) (h0 : 0 ≤ a)
    {x y : Ord5} {t u : List Ord5} (hx : dropQ L1 a = x :: t) (hy : dropQ L2 a = y :: u) (hn : 1 ≤ n) (hnx : n ≤ x.qty) (hny : n ≤ y.qty) : FillsOk L1 L2 p (a + n) (F ++ [⟨x.id, y.id, p, n⟩]) := by
  refine ⟨?_, ?_, ?_, ?_, ?_⟩
  · intro f hf
    rcases List.mem_append.1 hf with hf | hf
    · exact h.one f hf
    · rw [List.mem_singleton] at hf
      subst hf
      obtain ⟨o, ho, e, _⟩ := mem_dropQ (show x ∈ dropQ L1 a by rw [hx]; simp)
      obtain ⟨o', ho', e', _⟩ := mem_dropQ (show y ∈ dropQ L2 a by rw [hy]; simp)
      exact ⟨rfl, hn, ⟨o, ho, e⟩, o', ho', e'⟩
  · rw [sumN_snoc, h.sum]
  · intro id
    rw [sumN_snoc, h.buy, takeOf_step id h1 d1 h0 hx hn hnx]
  · intro id
    rw [sumN_snoc, h.sell, takeOf_step id h2 d2 h0 hy hn hny]
  · have := h.len
    rw [List.length_append]
    simp
    omega

theorem insO_perm (s : Int) (L : List Ord5) (o : Ord5) : (insO s L o).Perm (o :: L) := by
  unfold insO
  refine List.perm_middle.trans ?_
  rw [List.takeWhile_append_dropWhile]
/-- the two lists of the orders that were added -/
structure Built (x L1 L2 : List Ord5) : Prop where
  r1 : Ranked 1 L1
  r2 : Ranked 2 L2
  perm : (L1 ++ L2).Perm (x.map pricedO)
  s1 : ∀ o ∈ L1, o.side = 1
  s2 : ∀ o ∈ L2, o.side = 2
theorem Built.nil : Built [] [] [] := ⟨List.Pairwise.nil, List.Pairwise.nil, List.Perm.refl _, fun o h => (by cases h), fun o h => (by cases h)⟩
theorem Built.add {x L1 L2 : List Ord5} (h : Built x L1 L2) {o : Ord5} (hs : Is12 o.side) : Built (x ++ [o]) (addL 1 L1 o) (addL 2 L2 o) := by
  rcases hs with hs | hs
  · have e1 : addL 1 L1 o = insO 1 L1 (pricedO o) := by unfold addL; rw [if_pos hs]
    have e2 : addL 2 L2 o = L2 := by unfold addL; rw [if_neg (by omega)]
    rw [e1, e2]
    refine ⟨ranked_ins (.inl rfl) h.r1 _, h.r2, ?_, fun y hy => ?_, h.s2⟩
    · rw [List.map_append]
      exact ((insO_perm 1 L1 (pricedO o)).append_right L2).trans ((h.perm.cons (pricedO o)).trans (List.perm_append_singleton _ _).symm)
    · rcases mem_insO.1 hy with rfl | hy
      · exact hs
      · exact h.s1 y hy
  · have e1 : addL 1 L1 o = L1 := by unfold addL; rw [if_neg (by omega)]
    have e2 : addL 2 L2 o = insO 2 L2 (pricedO o) := by unfold addL; rw [if_pos hs]
    rw [e1, e2]
    refine ⟨h.r1, ranked_ins (.inr rfl) h.r2 _, ?_, h.s1, fun y hy => ?_⟩
    · rw [List.map_append]
      exact ((insO_perm 2 L2 (pricedO o)).append_left L1).trans (List.perm_middle.trans ((h.perm.cons (pricedO o)).trans (List.perm_append_singleton _ _).symm))
    · rcases mem_insO.1 hy with rfl | hy
      · exact hs
      · exact h.s2 y hy
theorem demQ_priced (p : Int) (o : Ord5) : demQ p (pricedO o) = demQ p o := by
  unfold demQ pricedO
  by_cases h : o.kind = 2
  · simp [h]
  · simp [h]
theorem supQ_priced (p : Int) (o : Ord5) : supQ p (pricedO o) = supQ p o := by
  unfold supQ pricedO
  by_cases h : o.kind = 2
  · simp [h]
  · simp [h]
theorem Built.dem {x L1 L2 : List Ord5} (h : Built x L1 L2) (p : Int) : demL p x = wantL 1 p L1 := by
  have e1 : demL p x = sumF (demQ p) x := by unfold demL; rw [sumF_foldl]; omega
  have e2 : sumF (demQ p) x = sumF (demQ p) (x.map pricedO) := by rw [sumF_map]; exact sumF_congr fun o _ => (demQ_priced p o).symm
  have e3 : sumF (demQ p) L2 = 0 := sumF_zero fun o ho => by unfold demQ; rw [if_neg (by have := h.s2 o ho; omega)]
  have e4 : sumF (demQ p) L1 = wantL 1 p L1 := sumF_congr fun o ho => by
    have := h.s1 o ho
    unfold demQ wantB
    by_cases hk : o.kind = 2 <;> by_cases hp : p ≤ o.price <;> simp [this, hk, hp]
  rw [e1, e2, ← sumF_perm h.perm, sumF_append, e3, e4]
  omega
theorem Built.sup {x L1 L2 : List Ord5} (h : Built x L1 L2) (p : Int) : supL p x = wantL 2 p L2 := by
  have e1 : supL p x = sumF (supQ p) x := by unfold supL; rw [sumF_foldl]; omega
  have e2 : sumF (supQ p) x = sumF (supQ p) (x.map pricedO) := by rw [sumF_map]; exact sumF_congr fun o _ => (supQ_priced p o).symm
  have e3 : sumF (supQ p) L1 = 0 := sumF_zero fun o ho => by unfold supQ; rw [if_neg (by have := h.s1 o ho; omega)]
  have e4 : sumF (supQ p) L2 = wantL 2 p L2 := sumF_congr fun o ho => by
    have := h.s2 o ho
    unfold supQ wantB
    by_cases hk : o.kind = 2 <;> by_cases hp : o.price ≤ p <;> simp [this, hk, hp]
  rw [e1, e2, ← sumF_perm h.perm, sumF_append, e3, e4]
  omega
/-- numbered orders that may lie -/
structure NumOk (x : List Ord5) : Prop where
  id : ∀ i (h : i < x.length), x[i].id = i + 1
  ok : ∀ o ∈ x, okO o = true
  price : ∀ o ∈ x, 1 ≤ o.price ∧ o.price ≤ 60
  len : x.length ≤ 60
theorem Built.of {x L1 L2 : List Ord5} {k : Nat} (h : Built (x.take k) L1 L2) {o : Ord5} (ho : o ∈ L1 ++ L2) : ∃ i, ∃ hi : i < x.length, i < k ∧ o = pricedO x[i] := by
  obtain ⟨y, hy, rfl⟩ := List.mem_map.1 (h.perm.mem_iff.1 ho)
  obtain ⟨i, hi, rfl⟩ := List.mem_iff_getElem.1 hy
  rw [List.length_take] at hi
  exact ⟨i, by omega, by omega, by rw [List.getElem_take]⟩
theorem NumOk.side {x : List Ord5} (h : NumOk x) {o : Ord5} (ho : o ∈ x) : Is12 o.side := by
  have := h.ok o ho
  unfold okO at this
  simp at this
  exact this.2
theorem NumOk.add {x L1 L2 : List Ord5} {k : Nat} (h : NumOk x) (hb : Built (x.take k) L1 L2) (hk : k < x.length) : addE L1 L2 x[k] = 0 := by
  have hm : x[k] ∈ x := List.getElem_mem _
  have h1 : argB x[k] = true := argB_iff.2 ⟨h.side hm, by rw [h.id k hk]; omega⟩
  have h2 : rngB x[k] = true := by
    have h3 := h.price _ hm
    have h4 := h.ok _ hm
    unfold okO at h4
    simp at h4
    unfold rngB
    rw [rightB_iff]
    refine ⟨?_, ?_, h4.1.1, h4.1.2⟩
    · unfold pricedO; dsimp only; split <;> omega
    · unfold pricedO; dsimp only; split <;> omega
  have h3 : getI (L1 ++ L2) x[k].id = none := by
    unfold getI
    rw [List.find?_eq_none]
    intro o ho
    obtain ⟨i, hi, hik, rfl⟩ := hb.of ho
    have e1 : (pricedO x[i]).id = x[i].id := rfl
    have e2 := h.id i hi
    have e3 := h.id k hk
    rw [e1, e2, e3]
    simp
    omega
  have h4 : L1.length + L2.length = k := by
    have := hb.perm.length_eq
    rw [List.length_append, List.length_map, List.length_take] at this
    omega
  unfold addE
  rw [if_neg (by rw [h1]; decide), if_neg (by rw [h2]; decide), h3, if_neg (by decide), if_neg (by have := h.len; omega)]
theorem Built.snoc {x L1 L2 : List Ord5} {k : Nat} (h : NumOk x) (hb : Built (x.take k) L1 L2) (hk : k < x.length) : Built (x.take (k + 1)) (addS L1 L2 x[k]).1 (addS L1 L2 x[k]).2 := by
  have e := h.add hb hk
  unfold addS
  rw [if_pos e, List.take_succ_eq_append_getElem hk]
  exact hb.add (h.side (List.getElem_mem _))
/-- nobody is left who could trade with another one -/
theorem none_left {x L1 L2 : List Ord5} {t : Int} (hb : Built x L1 L2) (hq1 : ∀ o ∈ L1, 1 ≤ o.qty) (hq2 : ∀ o ∈ L2, 1 ≤ o.qty) (hbest : ∀ p, min (demL p x) (supL p x) ≤ t) {o y : Ord5} (ho : o ∈ dropQ L1 t) (hy : y ∈ dropQ L2 t) :
    ¬ (o.kind = 2 ∨ y.kind = 2 ∨ y.price ≤ o.price) := by
  intro h
  obtain ⟨p, h1, h2⟩ : ∃ p, wantB 1 p o = true ∧ wantB 2 p y = true := by
    by_cases hk : o.kind = 2
    · exact ⟨y.price, by unfold wantB; simp [hk], by unfold wantB; simp⟩
    · refine ⟨o.price, by unfold wantB; simp, ?_⟩
      unfold wantB
      rcases h with h | h | h
      · exact absurd h hk
      · simp [h]
      · simp [h]
  have h3 := want_left hb.r1 hq1 ho h1
  have h4 := want_left hb.r2 hq2 hy h2
  have h5 := hbest p
  rw [hb.dem, hb.sup] at h5
  omega
end Go.Proofs.YtkcgchpbjegneaaGreatDoor
namespace Go.Proofs.YtkcgchpbjegneaaGreatDoor
open Go.RowKit
set_option linter.unusedVariables false

set_option maxRecDepth 100000 in
set_option maxHeartbeats 1000000 in
theorem goes_any (w : World) (B1 B2 : Nat) (s p : Int) (hs : Is12 s) (o : Ord5) (c1 : w.cell? ⟨B1, 0, none⟩ = some (.int .i64 s)) (c2 : w.cell? ⟨B2, 0, none⟩ = some (.int .i64 p)) :
    Calls Tryz.prog 105 #[aggO o, .pointer (some ⟨B1, 0, none⟩), .pointer (some ⟨B2, 0, none⟩)] w fun e w' => e = .returned (.bool (wantB s p o)) ∧ Below w.heap.size w w' := by
  unfold aggO
  have hA : Below w.heap.size w (w.alloc (.cells #[.int .i64 o.id, .int .i64 o.side, .int .i64 o.kind, .int .i64 o.price, .int .i64 o.qty] 24)) := (Below.refl _ _).alloc (Nat.le_refl _) _
  have k1 := (hA.cell (p := ⟨B1, 0, none⟩) (World.block_lt_of_cell? w _ c1)).trans c1
  have k2 := (hA.cell (p := ⟨B2, 0, none⟩) (World.block_lt_of_cell? w _ c2)).trans c2
  have HA := hid hA
  clear hA c1 c2
  by_cases hk : o.kind = 2
  · have t1 := beqT hk
    have HE : Hid (wantB s p o = true) := hid (by unfold wantB; rw [t1]; rfl)
    clear hk hs
    go_enter Tryz.func105, Tryz.ntmps105
    go_wp2
    go_ret
    exact ⟨ret_bool (by rw [HE.out]), HA.out⟩
  · have t1 := beqF hk
    rcases hs with rfl | rfl
    · have HE : Hid (wantB 1 p o = decide (p ≤ o.price)) := hid (by unfold wantB; rw [t1]; simp)
      by_cases hp : p ≤ o.price
      · have t4 := decT hp
        clear hk hp
        go_enter Tryz.func105, Tryz.ntmps105
        go_wp2
        go_ret
        exact ⟨ret_bool (by rw [HE.out, t4]), HA.out⟩
      · have t4 := decF hp
        clear hk hp
        go_enter Tryz.func105, Tryz.ntmps105
        go_wp2
        go_ret
        exact ⟨ret_bool (by rw [HE.out, t4]), HA.out⟩
    · have HE : Hid (wantB 2 p o = decide (o.price ≤ p)) := hid (by unfold wantB; rw [t1]; simp)
      by_cases hp : o.price ≤ p
      · have t4 := decT hp
        clear hk hp
        go_enter Tryz.func105, Tryz.ntmps105
        go_wp2
        go_ret
        exact ⟨ret_bool (by rw [HE.out, t4]), HA.out⟩
      · have t4 := decF hp
        clear hk hp
        go_enter Tryz.func105, Tryz.ntmps105
        go_wp2
        go_ret
        exact ⟨ret_bool (by rw [HE.out, t4]), HA.out⟩

/-- while the lots are counted -/
structure WillAt (w wr : World) (A : Option Addr) (c : Nat) (L : List Ord5) (B1 B2 : Nat) (s p : Int) : Prop where
  row : RowAt wr A L.length c 24 5 (flat encO L)
  c1 : wr.cell? ⟨B1, 0, none⟩ = some (.int .i64 s)
  c2 : wr.cell? ⟨B2, 0, none⟩ = some (.int .i64 p)
  old : Below w.heap.size w wr
theorem WillAt.below {w wr w' : World} {A : Option Addr} {c : Nat} {L : List Ord5} {B1 B2 : Nat} {s p : Int} (h : WillAt w wr A c L B1 B2 s p) (hb : Below wr.heap.size wr w') : WillAt w w' A c L B1 B2 s p :=
  ⟨h.row.below hb, (hb.cell (p := ⟨B1, 0, none⟩) (World.block_lt_of_cell? wr _ h.c1)).trans h.c1, (hb.cell (p := ⟨B2, 0, none⟩) (World.block_lt_of_cell? wr _ h.c2)).trans h.c2, h.old.trans (hb.mono h.old.size)⟩
theorem wantL_bound {s p : Int} {L : List Ord5} (h : ∀ o ∈ L, 1 ≤ o.qty ∧ o.qty ≤ 1000000) : 0 ≤ wantL s p L ∧ wantL s p L ≤ 1000000 * L.length := by
  unfold wantL
  induction L with
  | nil => simp [sumF]
  | cons o t ih =>
    have h1 := h o (by simp)
    have h2 := ih (fun y hy => h y (by simp [hy]))
    simp only [sumF, List.length_cons]
    split <;> omega
theorem row_addr' {w : World} {A : Option Addr} {n c sz : Nat} {t : TypeId} {xs : List Value} (h : RowAt w A n c t sz xs) (hn : 0 < n) : ∃ g, A = some ⟨g, 0, none⟩ := by
  rcases h.2 with ⟨_, h0⟩ | ⟨g, cap, cur, hv, _⟩
  · omega
  · cases hv; exact ⟨g, rfl⟩

set_option maxRecDepth 100000 in
set_option maxHeartbeats 4000000 in
theorem crossWilling_any (w : World) (b : Nat) (G : Nat → Prop) (L1 L2 : List Ord5) (h : BookAt w b G L1 L2) (s p : Int) (hs : Is12 s) :
    Calls Tryz.prog 54 #[.pointer (some ⟨b, 0, none⟩), .int .i64 s, .int .i64 p] w fun e w' => e = .returned (.int .i64 (wantL s p (sideL s L1 L2))) ∧ Below w.heap.size w w' := by
  have hmf : ∀ (fn : Fn) (first cap : Array Value) (w : World), (Instr.makeFunc fn first cap).run Tryz.prog w = .ok (.func fn first cap) w := fun _ _ _ _ => rfl
  have eg := Go.Proofs.enters_of Tryz.func105 (by kernel_rfl) rfl
  have hl := h.lists
  obtain ⟨L, hL⟩ : ∃ L, sideL s L1 L2 = L := ⟨_, rfl⟩
  have hok : ∀ o ∈ L, 1 ≤ o.qty ∧ o.qty ≤ 1000000 := by
    intro o ho
    rw [← hL] at ho
    have hm : o ∈ L1 ++ L2 := by
      unfold sideL at ho
      split at ho
      · exact List.mem_append_left _ ho
      · exact List.mem_append_right _ ho
    exact (hl.ok o hm).2.2.2
  have hlen : L.length ≤ 100 := by
    have h1 := hl.cnt
    rw [List.length_append] at h1
    rw [← hL]
    unfold sideL
    split <;> omega
  have hA1 : Below w.heap.size w (w.alloc (.cells #[.int .i64 s] 3)) := (Below.refl _ w).alloc (Nat.le_refl _) _
  have hA2 : Below w.heap.size w ((w.alloc (.cells #[.int .i64 s] 3)).alloc (.cells #[.int .i64 p] 3)) := hA1.alloc (by simp) _
  have hc1 : ((w.alloc (.cells #[.int .i64 s] 3)).alloc (.cells #[.int .i64 p] 3)).cell? ⟨w.heap.size, 0, none⟩ = some (.int .i64 s) := Blk.cell (Blk.alloc (Blk.new w 3 #[.int .i64 s]) _) 0
  have hc2 : ((w.alloc (.cells #[.int .i64 s] 3)).alloc (.cells #[.int .i64 p] 3)).cell? ⟨w.heap.size + 1, 0, none⟩ = some (.int .i64 p) := by
    have := Blk.cell (Blk.new (w.alloc (.cells #[.int .i64 s] 3)) 3 #[.int .i64 p]) 0
    rw [World.size_alloc] at this
    exact this
  have HC := hid (bookSide_any _ b G L1 L2 (h.below hA2) s hs)
  rw [hL] at HC ⊢
  have HA2 := hid hA2
  have Hc1 := hid hc1
  have Hc2 := hid hc2
  have HOk := hid hok
  have HS := hid hs
  clear hA1 hA2 hc1 hc2 h hl hL hs hok
  go_enter Tryz.func54, Tryz.ntmps54
  go_wp2_with fail
  refine HC.out.mono ?_
  rintro e w3 ⟨hb3, A, c, rfl, hr3, -⟩
  have HW := hid (show WillAt w w3 A c L w.heap.size (w.heap.size + 1) s p from ⟨hr3, (hb3.cell (p := ⟨w.heap.size, 0, none⟩) (World.block_lt_of_cell? _ _ Hc1.out)).trans Hc1.out, (hb3.cell (p := ⟨w.heap.size + 1, 0, none⟩) (World.block_lt_of_cell? _ _ Hc2.out)).trans Hc2.out, HA2.out.trans (hb3.mono HA2.out.size)⟩)
  obtain ⟨n, hn⟩ : ∃ n, L.length = n := ⟨_, rfl⟩
  rw [hn]
  have Hn := hid hn
  have hn100 : n ≤ 100 := by omega
  clear hb3 hr3 HC HA2 Hc1 Hc2 hlen hn
  go_wp2_with fail
  go_loopg [7, 22] n (fun g s7 s22 wr => ∃ i : Nat, i ≤ n ∧ g = n - i ∧ s22 = .int .i64 i ∧ s7 = .int .i64 (wantL s p (L.take i)) ∧ Hid (WillAt w wr A c L w.heap.size (w.heap.size + 1) s p))
  case atStart => exact ⟨0, Nat.zero_le _, rfl, rfl, rfl, HW⟩
  case round =>
    obtain ⟨i, hi, rfl, rfl, rfl, HR⟩ := hrel
    clear HW
    by_cases hlt : i < n
    · have hil : i < L.length := by rw [Hn.out]; exact hlt
      obtain ⟨g, hg⟩ := row_addr' HR.out.row (by omega)
      subst hg
      obtain ⟨x0, x1, x2, x3, x4⟩ := ord_own HR.out.row hil
      obtain ⟨o, ho⟩ : ∃ o, L[i] = o := ⟨_, rfl⟩
      have hoq := HOk.out o (by rw [← ho]; exact List.getElem_mem _)
      rw [ho] at x0 x1 x2 x3 x4
      have Ht := hid (show wantL s p (L.take (i + 1)) = wantL s p (L.take i) + (if wantB s p o = true then o.qty else 0) by
        rw [List.take_succ_eq_append_getElem hil, wantL_append, ho]
        unfold wantL
        simp only [sumF]
        omega)
      have hbd := wantL_bound (s := s) (p := p) (fun y hy => HOk.out y (List.mem_of_mem_take hy) : ∀ y ∈ L.take i, _)
      rw [List.length_take, Hn.out, Nat.min_eq_left (by omega)] at hbd
      obtain ⟨acc, hacc⟩ : ∃ acc, wantL s p (L.take i) = acc := ⟨_, rfl⟩
      rw [hacc] at Ht hbd ⊢
      have i1 : RowKit.wrap64 (acc + o.qty) = acc + o.qty := by unfold RowKit.wrap64; omega
      have hbx : Below wr.heap.size wr (wr.alloc (.cells #[.int .i64 o.id, .int .i64 o.side, .int .i64 o.kind, .int .i64 o.price, .int .i64 o.qty] 24)) := (Below.refl _ _).alloc (Nat.le_refl _) _
      have hW2 := HR.out.below hbx
      have hcall := goes_any _ w.heap.size (w.heap.size + 1) s p HS.out o hW2.c1 hW2.c2
      unfold aggO at hcall
      have HC := hid hcall
      have HBX := hid (Blk.new wr 24 #[.int .i64 o.id, .int .i64 o.side, .int .i64 o.kind, .int .i64 o.price, .int .i64 o.qty])
      have HW2 := hid hW2
      have hltz : (i : Int) < (n : Int) := by omega
      have hi7 : (0 : Int) ≤ (i : Int) := by omega
      clear hcall hW2 hbx ho hacc
      go_wp2_with fail
      refine HC.out.mono ?_
      rintro e w5 ⟨rfl, hb5⟩
      have hbx5 := Blk.keep HBX.out hb5
      have z4 : w5.cell? ⟨wr.heap.size, 4, none⟩ = some (.int .i64 o.qty) := by rw [Blk.cell hbx5]; rfl
      have HW5 := hid (HW2.out.below hb5)
      obtain ⟨q, hq⟩ : ∃ q, wantB s p o = q := ⟨_, rfl⟩
      rw [hq] at Ht ⊢
      clear hbx5 hb5 HC HW2 HBX HR x0 x1 x2 x3 x4 hq
      cases q with
      | true =>
        have Hs := hid (show acc + o.qty = wantL s p (L.take (i + 1)) by rw [Ht.out, if_pos rfl])
        go_wp2_with fail
        go_roundg (n - (i + 1))
        case measure => omega
        case rel => exact ⟨i + 1, by omega, rfl, by go_num, by rw [← Hs.out], HW5⟩
      | false =>
        have Hs := hid (show acc = wantL s p (L.take (i + 1)) by rw [Ht.out, if_neg (by decide)]; omega)
        go_wp2_with fail
        go_roundg (n - (i + 1))
        case measure => omega
        case rel => exact ⟨i + 1, by omega, rfl, by go_num, by rw [← Hs.out], HW5⟩
    · obtain rfl : i = n := by omega
      have hltz : ¬ (i : Int) < (i : Int) := by omega
      have hfull : L.take i = L := List.take_of_length_le (by rw [Hn.out]; exact Nat.le_refl _)
      rw [hfull]
      have HO := hid HR.out.old
      clear HR
      go_wp2_with fail
      go_ret
      exact ⟨rfl, HO.out⟩
end Go.Proofs.YtkcgchpbjegneaaGreatDoor
namespace Go.Proofs.YtkcgchpbjegneaaGreatDoor
open Go.RowKit
set_option linter.unusedVariables false

def encFl (f : Fill4) : List Value := [.int .i64 f.b, .int .i64 f.s, .int .i64 f.p, .int .i64 f.n]
theorem encFl_length (f : Fill4) : (encFl f).length = 4 := rfl
theorem fill_info : (Tryz.prog.info? 96).map (fun i => (i.zero, i.size, i.bytes)) = some (some (.agg #[.int .i64 0, .int .i64 0, .int .i64 0, .int .i64 0]), 4, 32) := by kernel_rfl

def headQ : List Ord5 → Int
  | [] => 0
  | o :: _ => o.qty
def headI : List Ord5 → Int
  | [] => 0
  | o :: _ => o.id
/-- each trade takes as much as may be, of the first on both sides -/
def FillsMax (t : Int) (L1 L2 : List Ord5) (F : List Fill4) : Prop :=
  ∀ F1 f F2, F = F1 ++ f :: F2 → f.n = min (t - sumN (·.n) F1) (min (headQ (dropQ L1 (sumN (·.n) F1))) (headQ (dropQ L2 (sumN (·.n) F1)))) ∧ f.b = headI (dropQ L1 (sumN (·.n) F1)) ∧ f.s = headI (dropQ L2 (sumN (·.n) F1))
theorem FillsMax.start (t : Int) (L1 L2 : List Ord5) : FillsMax t L1 L2 [] := fun F1 f F2 h => by cases F1 <;> cases h
theorem FillsMax.step {t : Int} {L1 L2 : List Ord5} {F : List Fill4} (h : FillsMax t L1 L2 F) {a : Int} (ha : sumN (·.n) F = a) {z : Fill4} (hz : z.n = min (t - a) (min (headQ (dropQ L1 a)) (headQ (dropQ L2 a)))) (hb : z.b = headI (dropQ L1 a)) (hs : z.s = headI (dropQ L2 a)) : FillsMax t L1 L2 (F ++ [z]) := by
  intro F1 f F2 e
  rcases List.eq_nil_or_concat F2 with rfl | ⟨F3, y, rfl⟩
  · have e' := List.append_inj' e rfl
    obtain ⟨rfl, e2⟩ := e'
    cases e2
    rw [ha]
    exact ⟨hz, hb, hs⟩
  · rw [List.concat_eq_append] at e
    have e3 : F1 ++ f :: (F3 ++ [y]) = (F1 ++ f :: F3) ++ [y] := by simp
    rw [e3] at e
    have e' := List.append_inj' e rfl
    exact h F1 f F3 e'.1
/-- there is one such list of trades -/
theorem fills_one {t p : Int} {L1 L2 : List Ord5} {F F' : List Fill4} (h : FillsMax t L1 L2 F) (h' : FillsMax t L1 L2 F') (hp : ∀ f ∈ F, f.p = p ∧ 1 ≤ f.n) (hp' : ∀ f ∈ F', f.p = p ∧ 1 ≤ f.n) (hs : sumN (·.n) F = t) (hs' : sumN (·.n) F' = t) : F = F' := by
  have pos : ∀ (K : List Fill4), (∀ f ∈ K, f.p = p ∧ 1 ≤ f.n) → 0 ≤ sumN (·.n) K := by
    intro K
    induction K with
    | nil => intro _; simp [sumN]
    | cons f K ih =>
      intro hK
      have h1 := (hK f (by simp)).2
      have h2 := ih (fun g hg => hK g (by simp [hg]))
      simp only [sumN]
      omega
  have app : ∀ (K K2 : List Fill4), sumN (·.n) (K ++ K2) = sumN (·.n) K + sumN (·.n) K2 := by
    intro K K2
    induction K with
    | nil => simp [sumN]
    | cons f K ih => simp only [List.cons_append, sumN, ih]; omega
  have key : ∀ (B B' A : List Fill4), F = A ++ B → F' = A ++ B' → B = B' := by
    intro B
    induction B with
    | nil =>
      intro B' A e e'
      cases B' with
      | nil => rfl
      | cons f K =>
        exfalso
        rw [e] at hs
        rw [e', app, ← List.append_nil A, hs] at hs'
        have h1 := (hp' f (by rw [e']; simp)).2
        have h2 := pos K (fun g hg => hp' g (by rw [e']; simp [hg]))
        simp only [sumN] at hs'
        omega
    | cons f K ih =>
      intro B' A e e'
      cases B' with
      | nil =>
        exfalso
        rw [e'] at hs'
        rw [e, app, ← List.append_nil A, hs'] at hs
        have h1 := (hp f (by rw [e]; simp)).2
        have h2 := pos K (fun g hg => hp g (by rw [e]; simp [hg]))
        simp only [sumN] at hs
        omega
      | cons f' K' =>
        obtain ⟨a1, a2, a3⟩ := h A f K e
        obtain ⟨b1, b2, b3⟩ := h' A f' K' e'
        have c := (hp f (by rw [e]; simp)).1
        have c' := (hp' f' (by rw [e']; simp)).1
        have ef : f = f' := by
          obtain ⟨x1, x2, x3, x4⟩ := f
          obtain ⟨y1, y2, y3, y4⟩ := f'
          dsimp only at a1 a2 a3 b1 b2 b3 c c'
          rw [a1, a2, a3, b1, b2, b3, c, c']
        subst ef
        rw [ih K' (A ++ [f]) (by rw [e]; simp) (by rw [e']; simp)]
  exact key F F' [] rfl rfl

theorem getI_mem {L : List Ord5} (hn : (L.map (·.id)).Nodup) {o : Ord5} (ho : o ∈ L) : getI L o.id = some o := by
  unfold getI
  cases hf : L.find? (fun x => x.id == o.id) with
  | none =>
    rw [List.find?_eq_none] at hf
    have := hf o ho
    simp at this
  | some x =>
    have h1 := List.mem_of_find?_eq_some hf
    have h2 := List.find?_some hf
    have h3 : x.id = o.id := by simpa using h2
    rw [nodup_map_inj (g := fun x : Ord5 => x.id) hn h1 ho h3]

/-- while it is traded -/
structure CrossM (w wr : World) (b : Nat) (G G' : Nat → Prop) (M1 M2 : List Ord5) (A : Option Addr) (c : Nat) (F : List Fill4) : Prop where
  book : BookAt wr b G' M1 M2
  step : BStep w wr G G'
  row : RowAt wr A F.length c 96 4 (flat encFl F)
  fpA : ∀ g, blkOf A = some g → ¬ G' g ∧ w.heap.size ≤ g
section
variable {w wr w' : World} {b : Nat} {G G' : Nat → Prop} {M1 M2 : List Ord5} {A : Option Addr} {c : Nat} {F : List Fill4}
theorem CrossM.below (h : CrossM w wr b G G' M1 M2 A c F) (hb : Below wr.heap.size wr w') : CrossM w w' b G G' M1 M2 A c F :=
  ⟨h.book.below hb, h.step.trans (BStep.of_below hb), h.row.below hb, h.fpA⟩
theorem CrossM.fill {f : Fill4} {gg cap : Nat} (h : CrossM w wr b G G' M1 M2 A c F) (hk : Keeps (fun i => blkOf A = some i) wr w') (ho : w'.ownsRow 0 96 4 (.slice (some ⟨gg, 0, none⟩) (F.length + 1) cap) (F.length + 1) (flat encFl F ++ encFl f)) (hat : blkOf A = some gg ∨ wr.heap.size ≤ gg) :
    CrossM w w' b G G' M1 M2 (some ⟨gg, 0, none⟩) cap (F ++ [f]) := by
  refine ⟨h.book.keeps hk (fun i hi e => (h.fpA i e).1 hi), ⟨h.step.1.trans hk (fun i hi => .inr (h.fpA i hi).2), h.step.2⟩, ?_, fun g hg => ?_⟩
  · show w'.ownsRow 0 96 4 _ _ _
    rw [flat_snoc, List.length_append]
    exact ho
  · have e : gg = g := by simpa [blkOf] using hg
    subst e
    rcases hat with h1 | h1
    · exact h.fpA _ h1
    · refine ⟨fun hG => ?_, ?_⟩
      · have := h.book.fp hG; omega
      · exact Nat.le_trans h.step.1.size h1
theorem CrossM.turn {M1' M2' : List Ord5} (h : CrossM w wr b G G' M1 M2 A c F) (hb : BookTo wr w' b G' M1' M2') : ∃ G'', CrossM w w' b G G'' M1' M2' A c F ∧ Keeps G' wr w' := by
  obtain ⟨G'', hA, hS⟩ := hb
  refine ⟨G'', ⟨hA, h.step.trans hS, h.row.keeps hS.1 (fun g hg => (h.fpA g hg).1), fun g hg => ⟨fun hG => ?_, (h.fpA g hg).2⟩⟩, hS.1⟩
  rcases hS.2 g hG with h1 | h1
  · exact (h.fpA g hg).1 h1
  · have := h.row.lt hg; omega
end
abbrev CrossAt (w wr : World) (b : Nat) (G G' : Nat → Prop) (L1 L2 : List Ord5) (a : Int) (A : Option Addr) (c : Nat) (F : List Fill4) : Prop := CrossM w wr b G G' (dropQ L1 a) (dropQ L2 a) A c F

theorem keeps_of_new {w2 w3 : World} {o : Obj} {row : Option Nat} (h : (w2.alloc o).grownBy w3 row) : Keeps (fun i => row = some i) w2 w3 := okeeps_of_grown ⟨h.os, h.tape, h.output, h.size, h.block⟩
theorem ids_parts {L1 L2 : List Ord5} (h : ListsOk L1 L2) : (L1.map (·.id)).Nodup ∧ (L2.map (·.id)).Nodup ∧ ∀ x ∈ L1, ∀ y ∈ L2, x.id ≠ y.id := by
  have h1 := h.ids
  rw [List.map_append, List.nodup_append] at h1
  exact ⟨h1.1, h1.2.1, fun x hx y hy => h1.2.2 _ (List.mem_map.2 ⟨x, hx, rfl⟩) _ (List.mem_map.2 ⟨y, hy, rfl⟩)⟩
theorem cut_first {L1 : List Ord5} {x : Ord5} {t R2 : List Ord5} {a n : Int} (h : ListsOk (dropQ L1 a) R2) (hq : ∀ o ∈ L1, 1 ≤ o.qty) (h0 : 0 ≤ a) (hx : dropQ L1 a = x :: t) (h1 : 1 ≤ n) (h2 : n ≤ x.qty) :
    getI (dropQ L1 a ++ R2) x.id = some x ∧ cutS (dropQ L1 a) x n = dropQ L1 (a + n) ∧ cutS R2 x n = R2 := by
  obtain ⟨d1, d2, d3⟩ := ids_parts h
  have hm : x ∈ dropQ L1 a := by rw [hx]; simp
  refine ⟨getI_mem h.ids (List.mem_append_left _ hm), ?_, cutS_other fun y hy => fun e => d3 x hm y hy e.symm⟩
  rw [← dropQ_step hq h0 hx h1 h2, hx]
  rw [hx, List.map_cons, List.nodup_cons] at d1
  exact cutS_head fun y hy e => d1.1 (List.mem_map.2 ⟨y, hy, e⟩)
theorem cut_second {L2 : List Ord5} {y : Ord5} {u R1 : List Ord5} {a n : Int} (h : ListsOk R1 (dropQ L2 a)) (hq : ∀ o ∈ L2, 1 ≤ o.qty) (h0 : 0 ≤ a) (hy : dropQ L2 a = y :: u) (h1 : 1 ≤ n) (h2 : n ≤ y.qty) :
    getI (R1 ++ dropQ L2 a) y.id = some y ∧ cutS (dropQ L2 a) y n = dropQ L2 (a + n) ∧ cutS R1 y n = R1 := by
  obtain ⟨d1, d2, d3⟩ := ids_parts h
  have hm : y ∈ dropQ L2 a := by rw [hy]; simp
  refine ⟨getI_mem h.ids (List.mem_append_right _ hm), ?_, cutS_other fun x hx => d3 x hx y hm⟩
  rw [← dropQ_step hq h0 hy h1 h2, hy]
  rw [hy, List.map_cons, List.nodup_cons] at d2
  exact cutS_head fun y hy e => d2.1 (List.mem_map.2 ⟨y, hy, e⟩)

/-- what Fills leaves -/
def FillsDone (w w' : World) (b : Nat) (G : Nat → Prop) (L1 L2 : List Ord5) (p t : Int) (e : Ending) : Prop :=
  ∃ F A c G', e = .returned (.tuple #[.slice A (List.length F) c, .nilIface]) ∧ FillsOk L1 L2 p t F ∧ FillsMax t L1 L2 F ∧ CrossAt w w' b G G' L1 L2 t A c F

set_option maxRecDepth 100000 in
set_option maxHeartbeats 8000000 in
theorem crossFills_any (hcut : CutSaid) (w : World) (b : Nat) (G : Nat → Prop) (L1 L2 : List Ord5) (h : BookAt w b G L1 L2) (p t : Int) (ht : 1 ≤ t) (hw1 : t ≤ wantL 1 p L1) (hw2 : t ≤ wantL 2 p L2) :
    Calls Tryz.prog 16 #[.pointer (some ⟨b, 0, none⟩), .int .i64 p, .int .i64 t] w fun e w' => FillsDone w w' b G L1 L2 p t e := by
  have hl := h.lists
  have hq1 : ∀ o ∈ L1, 1 ≤ o.qty := fun o ho => (hl.ok o (List.mem_append_left _ ho)).2.2.2.1
  have hq2 : ∀ o ∈ L2, 1 ≤ o.qty := fun o ho => (hl.ok o (List.mem_append_right _ ho)).2.2.2.1
  have ha1 : t ≤ allQ L1 := Int.le_trans hw1 (wantL_all hq1)
  have ha2 : t ≤ allQ L2 := Int.le_trans hw2 (wantL_all hq2)
  have htb : t ≤ 100000000 := by
    have h1 := wantL_bound (s := 1) (p := p) (L := L1) (fun o ho => (hl.ok o (List.mem_append_left _ ho)).2.2.2)
    have h2 := hl.cnt
    rw [List.length_append] at h2
    omega
  obtain ⟨dd1, dd2, -⟩ := ids_parts hl
  have HC1 := hid (crossWilling_any w b G L1 L2 h 1 p Is12_1)
  rw [show sideL 1 L1 L2 = L1 from rfl] at HC1
  have HAt := hid h
  have HCut := hid hcut
  have Hq1 := hid hq1
  have Hq2 := hid hq2
  have Hd1 := hid dd1
  have Hd2 := hid dd2
  obtain ⟨q1, hq1'⟩ : ∃ q, wantL 1 p L1 = q := ⟨_, rfl⟩
  obtain ⟨q2, hq2'⟩ : ∃ q, wantL 2 p L2 = q := ⟨_, rfl⟩
  rw [hq1'] at HC1 hw1
  rw [hq2'] at hw2
  have HQ2 := hid hq2'
  have d0 : decide (t < 1) = false := decF (by omega)
  have d1 : decide (q1 < t) = false := decF (by omega)
  have d2 : decide (q2 < t) = false := decF (by omega)
  clear h hcut hl hq1 hq2 dd1 dd2 hq1' hq2' hw1 hw2
  go_enter Tryz.func16, Tryz.ntmps16
  go_wp2_with fail
  refine HC1.out.mono ?_
  rintro e w1 ⟨rfl, hb1⟩
  have hat1 := HAt.out.below hb1
  have hc2 := crossWilling_any w1 b G L1 L2 hat1 2 p Is12_2
  rw [show sideL 2 L1 L2 = L2 from rfl, HQ2.out] at hc2
  have HC2 := hid hc2
  have HB1 := hid hb1
  have HAt1 := hid hat1
  clear hb1 hat1 hc2 HC1
  go_wp2_with fail
  refine HC2.out.mono ?_
  rintro e w2 ⟨rfl, hb2⟩
  have hB := HB1.out.trans (hb2.mono HB1.out.size)
  have HST := hid (show CrossAt w w2 b G G L1 L2 0 none 0 [] from ⟨by rw [dropQ_zero _ (Int.le_refl _), dropQ_zero _ (Int.le_refl _)]; exact HAt1.out.below hb2, BStep.of_below hB, World.ownsRow_nil _ _ _ _, fun g hg => by simp [blkOf] at hg⟩)
  clear hb2 hB HC2 HB1 HAt1 HAt
  go_wp2_with fail
  go_loopg [2, 8] t.toNat (fun g s2 s8 wr => ∃ (a : Int) (F : List Fill4) (A : Option Addr) (c : Nat) (G' : Nat → Prop), 0 ≤ a ∧ a ≤ t ∧ g = (t - a).toNat ∧ s2 = .int .i64 (t - a) ∧ s8 = .slice A F.length c ∧ Hid (FillsOk L1 L2 p a F) ∧ Hid (FillsMax t L1 L2 F) ∧ Hid (CrossAt w wr b G G' L1 L2 a A c F))
  case atStart => exact ⟨0, [], none, 0, G, Int.le_refl _, by omega, by simp, by simp, rfl, hid (FillsOk.start Hq1.out Hq2.out), hid (FillsMax.start t L1 L2), HST⟩
  case round =>
    obtain ⟨a, F, A, c, G', ha0, hat, rfl, rfl, rfl, HF, HX, HR⟩ := hrel
    clear HST
    by_cases hlt : a < t
    · have d3 : decide (0 < t - a) = true := decT (by omega)
      obtain ⟨x, t1, hx⟩ : ∃ x t1, dropQ L1 a = x :: t1 := by
        cases hd : dropQ L1 a with
        | nil => exact absurd hd (dropQ_ne ha0 (by omega))
        | cons x t1 => exact ⟨x, t1, rfl⟩
      obtain ⟨y, u1, hy⟩ : ∃ y u1, dropQ L2 a = y :: u1 := by
        cases hd : dropQ L2 a with
        | nil => exact absurd hd (dropQ_ne ha0 (by omega))
        | cons y u1 => exact ⟨y, u1, rfl⟩
      have hbest := bookBest_any wr b G' _ _ HR.out.book 1 Is12_1
      rw [show bestO (sideL 1 (dropQ L1 a) (dropQ L2 a)) = x by rw [hx]; rfl, show bestE (sideL 1 (dropQ L1 a) (dropQ L2 a)) = 0 by rw [hx]; rfl, errV_zero] at hbest
      unfold aggO at hbest
      have HB1 := hid hbest
      have Hx := hid hx
      have Hy := hid hy
      clear hbest hx hy
      go_wp2_with fail
      refine HB1.out.mono ?_
      rintro e w3 ⟨hb3, rfl⟩
      have hAB : ∀ g, blkOf A = some g → g < w3.heap.size := fun g hg => Nat.lt_of_lt_of_le (HR.out.row.lt hg) hb3.size
      have HAB := hid hAB
      have hR3 := HR.out.below (hb3.alloc hb3.size (.cells #[.int .i64 x.id, .int .i64 x.side, .int .i64 x.kind, .int .i64 x.price, .int .i64 x.qty] 24))
      have hbest := bookBest_any _ b G' _ _ hR3.book 2 Is12_2
      rw [show bestO (sideL 2 (dropQ L1 a) (dropQ L2 a)) = y by rw [Hy.out]; rfl, show bestE (sideL 2 (dropQ L1 a) (dropQ L2 a)) = 0 by rw [Hy.out]; rfl, errV_zero] at hbest
      unfold aggO at hbest
      have HB2 := hid hbest
      have HX3 := hid (Blk.new w3 24 #[.int .i64 x.id, .int .i64 x.side, .int .i64 x.kind, .int .i64 x.price, .int .i64 x.qty])
      have HR3 := hid hR3
      clear hbest hb3 hR3 HB1 HR hAB
      go_wp2_with fail
      refine HB2.out.mono ?_
      rintro e w4 ⟨hb4, rfl⟩
      have hX4 := Blk.alloc (Blk.keep HX3.out hb4) (.cells #[.int .i64 y.id, .int .i64 y.side, .int .i64 y.kind, .int .i64 y.price, .int .i64 y.qty] 24)
      have hY4 := Blk.new w4 24 #[.int .i64 y.id, .int .i64 y.side, .int .i64 y.kind, .int .i64 y.price, .int .i64 y.qty]
      have hR4 := HR3.out.below (hb4.alloc hb4.size (.cells #[.int .i64 y.id, .int .i64 y.side, .int .i64 y.kind, .int .i64 y.price, .int .i64 y.qty] 24))
      have hne : w3.heap.size < w4.heap.size := by have := hb4.size; simp at this; omega
      have hG2 : ¬ G' w4.heap.size := fun hG => by have h1 := HR3.out.book.fp hG; have h2 := hb4.size; omega
      obtain ⟨B1, hB1⟩ : ∃ B1, w3.heap.size = B1 := ⟨_, rfl⟩
      obtain ⟨B2, hB2⟩ : ∃ B2, w4.heap.size = B2 := ⟨_, rfl⟩
      obtain ⟨w5, hw5⟩ : ∃ w5, w4.alloc (.cells #[.int .i64 y.id, .int .i64 y.side, .int .i64 y.kind, .int .i64 y.price, .int .i64 y.qty] 24) = w5 := ⟨_, rfl⟩
      rw [hB1] at hX4 hne HAB ⊢
      rw [hw5, hB2] at hY4
      rw [hw5] at hX4 hR4
      rw [hB2] at hne hG2
      have HX5 := hid hX4
      have HY5 := hid hY4
      have HR5 := hid hR4
      have HNe := hid hne
      have HG2 := hid hG2
      have hl1 := Blk.lt hX4
      have hl2 := Blk.lt hY4
      have x0 : w5.cell? ⟨B1, 0, none⟩ = some (.int .i64 x.id) := by rw [Blk.cell hX4]; rfl
      have x4 : w5.cell? ⟨B1, 4, none⟩ = some (.int .i64 x.qty) := by rw [Blk.cell hX4]; rfl
      have y0 : w5.cell? ⟨B2, 0, none⟩ = some (.int .i64 y.id) := by rw [Blk.cell hY4]; rfl
      have y4 : w5.cell? ⟨B2, 4, none⟩ = some (.int .i64 y.qty) := by rw [Blk.cell hY4]; rfl
      clear hX4 hY4 hR4 hne hG2 HX3 HR3 HB2 hb4 hB1
      obtain ⟨n, hn⟩ : ∃ n, min (t - a) (min x.qty y.qty) = n := ⟨_, rfl⟩
      have hxq : 1 ≤ x.qty := (HR5.out.book.lists.ok x (List.mem_append_left _ (by rw [Hx.out]; simp))).2.2.2.1
      have hyq : 1 ≤ y.qty := (HR5.out.book.lists.ok y (List.mem_append_right _ (by rw [Hy.out]; simp))).2.2.2.1
      have hn1 : 1 ≤ n := by omega
      have hnx : n ≤ x.qty := by omega
      have hny : n ≤ y.qty := by omega
      have hnt : n ≤ t - a := by omega
      have HN := hid hn
      clear hn
      go_upto_region 7 with fail
      go_cut [13] (fun s13 wx => s13 = .int .i64 n ∧ wx = w5)
      case first =>
        go_wp2_with fail
        all_goals go_meet
        all_goals refine ⟨?_, rfl⟩
        all_goals rw [← HN.out]
        all_goals congr 1
        all_goals first
          | omega
          | (split at h <;> first | omega | (split <;> omega))
          | (split <;> first | omega | (split at h <;> omega))
      case rest =>
        obtain ⟨rfl, rfl⟩ := hcut
        have hF1 : F.length ≤ 100000000 := by have := HF.out.len; omega
        obtain ⟨i0, hi0, hz0, hz1, hz2⟩ := info_parts fill_info
        have HO1 := hid (World.ownsRow.alloc (show wc.ownsRow 0 96 4 (.slice A F.length c) F.length (flat encFl F) from HR5.out.row) (.cells #[.int .i64 x.id, .int .i64 y.id, .int .i64 p, .int .i64 n] 96))
        go_upto_region 9 with (at_builtin; refine wpList_append_lies _ rfl _ _ 34 rfl 0 96 i0 _ 4 32 Tryz.underlying34 hi0 hz0 hz1 hz2 rfl (by omega) (.slice A F.length c) F.length _ rfl HO1.out ⟨wc.heap.size, 0, none⟩ 1 1 [.int .i64 x.id, .int .i64 y.id, .int .i64 p, .int .i64 n] rfl rfl (World.news_of_block (cs := #[.int .i64 x.id, .int .i64 y.id, .int .i64 p, .int .i64 n]) (t := 96) (fr := (0, 0)) (heap_alloc_new wc _)) (by simp [Value.oneCell']) (by omega) (by unfold maxLen; omega) (by omega) (by simp) (wc.heap.size + 1) (by simp) ?_; intro gg cap w6 hown hgrow hat6 hlt6)
        have hk6 := keeps_of_new hgrow
        rw [own_slice] at hk6 hat6
        have hR6 := HR5.out.fill (f := ⟨x.id, y.id, p, n⟩) hk6 hown (hat6.imp id (fun e => by omega))
        have nB1 : ¬ blkOf A = some B1 := fun e => by have := HAB.out _ e; omega
        have nB2 : ¬ blkOf A = some B2 := fun e => by have h1 := HAB.out _ e; have h2 := HNe.out; omega
        have z0 : w6.cell? ⟨B1, 0, none⟩ = some (.int .i64 x.id) := (hk6.cell (p := ⟨B1, 0, none⟩) hl1 nB1).trans x0
        have z1 : w6.cell? ⟨B2, 0, none⟩ = some (.int .i64 y.id) := (hk6.cell (p := ⟨B2, 0, none⟩) hl2 nB2).trans y0
        have hl6 : B2 < w6.heap.size := Nat.lt_of_lt_of_le hl2 hk6.size
        obtain ⟨c1, c2, c3⟩ := cut_first hR6.book.lists Hq1.out ha0 Hx.out hn1 hnx
        have hca := HCut.out w6 b G' _ _ hR6.book x.id n (by unfold Fit64; omega)
        have HCa := hid hca
        have HR6 := hid hR6
        have HC1 := hid c1
        have HC2 := hid c2
        have HC3 := hid c3
        have HFn := hid (HF.out.step Hq1.out Hq2.out Hd1.out Hd2.out ha0 Hx.out Hy.out hn1 hnx hny)
        have HXn := hid (HX.out.step HF.out.sum (z := ⟨x.id, y.id, p, n⟩) (by rw [Hx.out, Hy.out]; exact HN.out.symm) (by rw [Hx.out]; rfl) (by rw [Hy.out]; rfl))
        clear hk6 hown hgrow hat6 hlt6 hR6 nB1 nB2 c1 c2 c3 hca x0 x4 y0 y4 HO1 HR5 HX5 HY5 HF HX hl1 hl2 hi0 hz0 hz1 hz2 hxq hyq
        go_wp2_with fail
        refine HCa.out.mono ?_
        rintro e w7 (⟨h0, -, -⟩ | ⟨o, h0, -, -, rfl, hto⟩)
        · exfalso
          apply h0
          unfold cutE
          rw [HC1.out]
          exact if_neg (by omega)
        · rw [HC1.out] at h0
          obtain rfl := Option.some.inj h0
          rw [HC2.out, HC3.out] at hto
          obtain ⟨G2, hR7, hk7⟩ := HR6.out.turn hto
          have z2 : w7.cell? ⟨B2, 0, none⟩ = some (.int .i64 y.id) := (hk7.cell (p := ⟨B2, 0, none⟩) hl6 HG2.out).trans z1
          obtain ⟨c1, c2, c3⟩ := cut_second hR7.book.lists Hq2.out ha0 Hy.out hn1 hny
          have hca := HCut.out w7 b G2 _ _ hR7.book y.id n (by unfold Fit64; omega)
          have HCb := hid hca
          have HR7 := hid hR7
          have HD1 := hid c1
          have HD2 := hid c2
          have HD3 := hid c3
          clear hto hk7 hR7 c1 c2 c3 hca h0 z0 z1 HCa HR6 HC1 HC2 HC3
          go_wp2_with fail
          refine HCb.out.mono ?_
          rintro e w8 (⟨h0, -, -⟩ | ⟨o, h0, -, -, rfl, hto⟩)
          · exfalso
            apply h0
            unfold cutE
            rw [HD1.out]
            exact if_neg (by omega)
          · rw [HD1.out] at h0
            obtain rfl := Option.some.inj h0
            rw [HD2.out, HD3.out] at hto
            obtain ⟨G3, hR8, -⟩ := HR7.out.turn hto
            have HR8 := hid hR8
            have i1 : RowKit.wrap64 (t - a - n) = t - (a + n) := by unfold RowKit.wrap64; omega
            clear hto hR8 h0 z2 HCb HR7 HD1 HD2 HD3
            go_wp2_with fail
            go_roundg (t - (a + n)).toNat
            case measure => omega
            case rel => exact ⟨a + n, F ++ [⟨x.id, y.id, p, n⟩], _, cap, G3, by omega, by omega, rfl, by congr 1 <;> omega, by simp, HFn, HXn, HR8⟩
    · obtain rfl : a = t := by omega
      have d3 : decide (0 < a - a) = false := decF (by omega)
      go_wp2_with fail
      refine bodyPost_ret (results_tmp2 rfl _ _ _) rfl ?_
      exact ⟨F, A, c, G', rfl, HF.out, HX.out, HR.out⟩
end Go.Proofs.YtkcgchpbjegneaaGreatDoor
namespace Go.Proofs.YtkcgchpbjegneaaGreatDoor
open Go.RowKit
set_option linter.unusedVariables false

set_option maxRecDepth 100000 in
set_option maxHeartbeats 2000000 in
theorem crossFills_bad (w : World) (b : Nat) (G : Nat → Prop) (L1 L2 : List Ord5) (h : BookAt w b G L1 L2) (p t : Int) (hbad : ¬ (1 ≤ t ∧ t ≤ wantL 1 p L1 ∧ t ≤ wantL 2 p L2)) :
    Calls Tryz.prog 16 #[.pointer (some ⟨b, 0, none⟩), .int .i64 p, .int .i64 t] w fun e w' => e = .returned (.tuple #[.slice none 0 0, errV 2]) ∧ Below w.heap.size w w' := by
  have HC1 := hid (crossWilling_any w b G L1 L2 h 1 p Is12_1)
  rw [show sideL 1 L1 L2 = L1 from rfl] at HC1
  have HAt := hid h
  obtain ⟨q1, hq1'⟩ : ∃ q, wantL 1 p L1 = q := ⟨_, rfl⟩
  obtain ⟨q2, hq2'⟩ : ∃ q, wantL 2 p L2 = q := ⟨_, rfl⟩
  rw [hq1'] at HC1
  rw [hq1', hq2'] at hbad
  have HQ2 := hid hq2'
  clear h hq1' hq2'
  by_cases c0 : t < 1
  · have d0 : decide (t < 1) = true := decT c0
    clear c0 hbad
    go_enter Tryz.func16, Tryz.ntmps16
    go_wp2
    go_ret2
    exact ⟨rfl, Below.refl _ _⟩
  · have d0 : decide (t < 1) = false := decF c0
    by_cases c1 : q1 < t
    · have d1 : decide (q1 < t) = true := decT c1
      clear c0 c1 hbad
      go_enter Tryz.func16, Tryz.ntmps16
      go_wp2_with fail
      refine HC1.out.mono ?_
      rintro e w1 ⟨rfl, hb1⟩
      go_wp2_with fail
      go_ret2
      exact ⟨rfl, hb1⟩
    · have d1 : decide (q1 < t) = false := decF c1
      have d2 : decide (q2 < t) = true := decT (by omega)
      clear c0 c1 hbad
      go_enter Tryz.func16, Tryz.ntmps16
      go_wp2_with fail
      refine HC1.out.mono ?_
      rintro e w1 ⟨rfl, hb1⟩
      have hat1 := HAt.out.below hb1
      have hc2 := crossWilling_any w1 b G L1 L2 hat1 2 p Is12_2
      rw [show sideL 2 L1 L2 = L2 from rfl, HQ2.out] at hc2
      have HC2 := hid hc2
      have HB1 := hid hb1
      clear hb1 hat1 hc2 HC1
      go_wp2_with fail
      refine HC2.out.mono ?_
      rintro e w2 ⟨rfl, hb2⟩
      have hB := HB1.out.trans (hb2.mono HB1.out.size)
      clear HB1 HC2
      go_wp2_with fail
      go_ret2
      exact ⟨rfl, hB⟩
end Go.Proofs.YtkcgchpbjegneaaGreatDoor
namespace Go.Proofs.YtkcgchpbjegneaaGreatDoor
open Go.RowKit
set_option linter.unusedVariables false

theorem fill_ne (a b c d : Int) (w : World) : (binOp .neq 96 (.agg #[.int .i64 a, .int .i64 b, .int .i64 c, .int .i64 d]) (.agg #[.int .i64 a, .int .i64 b, .int .i64 c, .int .i64 d])).run Tryz.prog w = .ok (.bool false) w := by
  have hf : Tryz.prog.underlying 96 = some (.struct (Tryz.prog.fieldsOf 96)) := by kernel_rfl
  have hs : Tryz.prog.stoodInHeld 96 = false := by kernel_rfl
  have hi : Tryz.prog.underlying 3 = some (.int .i64) := Tryz.underlying3
  rw [run_neq_struct, run_equalIn_agg _ _ _ _ _ hf hs]
  simp [Program.fieldsOf, Tryz.underlying96, Op.eqFields, go_sem, hi]
theorem fill_at {w : World} {b off len : Nat} {l : List Fill4} (h : ElemsAt w encFl 4 (some ⟨b, off, none⟩) len l) {i : Nat} (hi : i < l.length) :
    w.cell? ⟨b, off + i * 4, none⟩ = some (.int .i64 l[i].b) ∧ w.cell? ⟨b, off + i * 4 + 1, none⟩ = some (.int .i64 l[i].s) ∧ w.cell? ⟨b, off + i * 4 + 2, none⟩ = some (.int .i64 l[i].p) ∧ w.cell? ⟨b, off + i * 4 + 3, none⟩ = some (.int .i64 l[i].n) :=
  ⟨h.at_ hi (j := 0) rfl, h.at_ hi (j := 1) rfl, h.at_ hi (j := 2) rfl, h.at_ hi (j := 3) rfl⟩

set_option maxRecDepth 100000 in
set_option maxHeartbeats 4000000 in
theorem sameFills_any (A A2 : Option Addr) (n c c2 : Nat) (ps : List Fill4) (w : World) (h : ElemsAt w encFl 4 A n ps) (h2 : ElemsAt w encFl 4 A2 n ps) (hm : n ≤ 1000000000) :
    Calls Tryz.prog 13 #[.slice A n c, .slice A2 n c2] w fun e w' => e = .returned (.bool true) ∧ Below w.heap.size w w' := by
  have HH := hid h
  have HH2 := hid h2
  have hl := h.1
  have HL := hid hl
  have e0 : ((n : Int) != (n : Int)) = false := bneF rfl
  clear h h2 hl
  go_enter Tryz.func13, Tryz.ntmps13
  go_wp2_with fail
  go_loopg [5] n (fun gg s5 wx => ∃ k : Nat, k ≤ n ∧ gg = n - k ∧ s5 = .int .i64 k ∧ Below w.heap.size w wx)
  case atStart => exact ⟨0, Nat.zero_le _, rfl, rfl, Below.refl _ _⟩
  case round =>
    obtain ⟨k, hk, rfl, rfl, hB⟩ := hrel
    by_cases hlt : k < n
    · have hkl : k < ps.length := by have := HL.out; omega
      obtain ⟨b, off, hA⟩ : ∃ b off, A = some ⟨b, off, none⟩ := by obtain ⟨b, off, h1, _⟩ := HH.out.2 (by omega); exact ⟨b, off, h1⟩
      obtain ⟨b2, off2, hA2⟩ : ∃ b off, A2 = some ⟨b, off, none⟩ := by obtain ⟨b, off, h1, _⟩ := HH2.out.2 (by omega); exact ⟨b, off, h1⟩
      subst hA hA2
      obtain ⟨x0, x1, x2, x3⟩ := fill_at (HH.out.below hB (Nat.le_refl _)) hkl
      obtain ⟨y0, y1, y2, y3⟩ := fill_at (HH2.out.below hB (Nat.le_refl _)) hkl
      have hltz : (k : Int) < (n : Int) := by omega
      have hi7 : (0 : Int) ≤ (k : Int) := by omega
      obtain ⟨o, eo⟩ : ∃ o, ps[k] = o := ⟨_, rfl⟩
      rw [eo] at x0 x1 x2 x3 y0 y1 y2 y3
      clear eo
      have hne := fill_ne o.b o.s o.p o.n
      go_wp2_with fail
      go_quiet (fail)
      go_wp2_with fail
      go_roundg (n - (k + 1))
      case measure => omega
      case rel => exact ⟨k + 1, by omega, rfl, by go_num, drewN_below hB _⟩
    · obtain rfl : k = n := by omega
      have hltz : ¬ (k : Int) < (k : Int) := by omega
      go_wp2
      go_ret
      exact ⟨rfl, hB⟩
end Go.Proofs.YtkcgchpbjegneaaGreatDoor
namespace Go.Proofs.YtkcgchpbjegneaaGreatDoor
open Go.RowKit
set_option linter.unusedVariables false

theorem rsideL_perm (s : Int) (L : List Ord5) : (rsideL s L).Perm (onSide s L) := stabL_perm _
theorem Twin.lists {L L1 L2 : List Ord5} (h : Twin L L1 L2) (hn : L.length ≤ 100) : ListsOk L1 L2 := by
  have hside : ∀ s, ((rsideL s L).map (·.id)).Nodup := fun s => by
    refine ((rsideL_perm s L).map (·.id)).nodup_iff.2 ?_
    exact List.Nodup.sublist ((List.filter_sublist).map _) h.ids
  have h1 : ∀ o ∈ L1, o ∈ L ∧ o.side = 1 := fun o ho => rsideL_mem.1 (h.s1 ▸ ho)
  have h2 : ∀ o ∈ L2, o ∈ L ∧ o.side = 2 := fun o ho => rsideL_mem.1 (h.s2 ▸ ho)
  refine ⟨?_, ?_, fun o ho => (h.ok o (h.mem.1 ho)).1, fun o ho => (h1 o ho).2, fun o ho => (h2 o ho).2⟩
  · rw [List.map_append, List.nodup_append]
    refine ⟨h.s1 ▸ hside 1, h.s2 ▸ hside 2, fun a ha b hb e => ?_⟩
    obtain ⟨x, hx, rfl⟩ := List.mem_map.1 ha
    obtain ⟨y, hy, rfl⟩ := List.mem_map.1 hb
    have e2 : x = y := nodup_map_inj h.ids (h1 x hx).1 (h2 y hy).1 e
    have e3 := (h1 x hx).2
    have e4 := (h2 y hy).2
    rw [e2] at e3
    omega
  · rw [List.length_append, h.len]
    exact hn
theorem Twin.want {L L1 L2 : List Ord5} (h : Twin L L1 L2) {s : Int} (hs : Is12 s) (p : Int) : wantL s p (onSide s L) = wantL s p (sideL s L1 L2) := by
  rw [h.side hs]
  exact sumF_perm (rsideL_perm s L).symm
/-- one that lies is cut: both stay twins -/
theorem Twin.cutS_ {L L1 L2 : List Ord5} (h : Twin L L1 L2) (hl : ListsOk L1 L2) {x : Ord5} {n : Int} (hg : getI (L1 ++ L2) x.id = some x) (h1 : 1 ≤ n) (h2 : n ≤ x.qty) : rcutE L x.id n = 0 ∧ Twin (rcutL L x.id n) (cutS L1 x n) (cutS L2 x n) := by
  obtain ⟨a, b⟩ := twin_cut h hl x.id n
  have e : ∀ K, bcutL L1 L2 K x.id n = cutS K x n := fun K => by
    unfold bcutL
    rw [hg]
    exact if_pos ⟨h1, h2⟩
  rw [e, e] at b
  refine ⟨?_, b⟩
  rw [← a]
  unfold cutE
  rw [hg]
  exact if_neg (by omega)
theorem rcutL_len (L : List Ord5) (id n : Int) : (rcutL L id n).length ≤ L.length := by
  unfold rcutL
  split
  · exact Nat.le_refl _
  · split
    · split
      · unfold cutK
        rw [List.length_append, List.length_take, List.length_drop]
        omega
      · rw [List.length_set]; exact Nat.le_refl _
    · exact Nat.le_refl _
end Go.Proofs.YtkcgchpbjegneaaGreatDoor
namespace Go.Proofs.YtkcgchpbjegneaaGreatDoor
open Go.RowKit
set_option linter.unusedVariables false

/-- the document's book, and trades told besides, while it is traded -/
structure RCross (w wr : World) (B : Nat) (t : TypeId) (cs : Array Value) (o0 : Nat) (A A' : Option Addr) (c' : Nat) (M M1 M2 : List Ord5) (Af : Option Addr) (c : Nat) (F : List Fill4) : Prop where
  ref : RefB wr B t (cs.setIfInBounds o0 (.slice A' M.length c')) o0 A' M
  keep : Keeps (fun i => i = B) w wr
  grow : ∀ g, blkOf A' = some g → blkOf A = some g ∨ w.heap.size ≤ g
  blt : B < w.heap.size
  twin : Twin M M1 M2
  few : M.length ≤ 100
  row : RowAt wr Af F.length c 96 4 (flat encFl F)
  fp : ∀ g, blkOf Af = some g → w.heap.size ≤ g ∧ blkOf A' ≠ some g
section
variable {w wr w' : World} {B : Nat} {t : TypeId} {cs : Array Value} {o0 : Nat} {A A' : Option Addr} {c' : Nat} {M M1 M2 : List Ord5} {Af : Option Addr} {c : Nat} {F : List Fill4}
theorem RCross.start {L L1 L2 : List Ord5} (h : RefB w B t cs o0 A L) (ht : Twin L L1 L2) (hn : L.length ≤ 100) : ∃ c', RCross w w B t cs o0 A A c' L L1 L2 none 0 [] := by
  obtain ⟨c, hc, -⟩ := h.at_
  refine ⟨c, ?_, Keeps.of_below (Below.refl _ _) _, fun g hg => .inl hg, h.blt, ht, hn, World.ownsRow_nil _ _ _ _, fun g hg => by simp [blkOf] at hg⟩
  rw [arr_set_same hc]
  exact h
theorem RCross.below (h : RCross w wr B t cs o0 A A' c' M M1 M2 Af c F) (hb : Below wr.heap.size wr w') : RCross w w' B t cs o0 A A' c' M M1 M2 Af c F :=
  ⟨h.ref.below hb, h.keep.then_ hb, h.grow, h.blt, h.twin, h.few, h.row.below hb, h.fp⟩
theorem RCross.fill {f : Fill4} {gg cap : Nat} (h : RCross w wr B t cs o0 A A' c' M M1 M2 Af c F) (hk : Keeps (fun i => blkOf Af = some i) wr w') (ho : w'.ownsRow 0 96 4 (.slice (some ⟨gg, 0, none⟩) (F.length + 1) cap) (F.length + 1) (flat encFl F ++ encFl f)) (hat : blkOf Af = some gg ∨ wr.heap.size ≤ gg) :
    RCross w w' B t cs o0 A A' c' M M1 M2 (some ⟨gg, 0, none⟩) cap (F ++ [f]) := by
  refine ⟨h.ref.keeps hk (fun e => by have := (h.fp _ e).1; have := h.blt; omega) (fun g hg e => (h.fp g e).2 hg), h.keep.trans hk (fun i hi => .inr (h.fp i hi).1), h.grow, h.blt, h.twin, h.few, ?_, fun g hg => ?_⟩
  · show w'.ownsRow 0 96 4 _ _ _
    rw [flat_snoc, List.length_append]
    exact ho
  · have e : gg = g := by simpa [blkOf] using hg
    subst e
    rcases hat with h1 | h1
    · exact h.fp _ h1
    · refine ⟨Nat.le_trans h.keep.size h1, fun e => ?_⟩
      have := h.ref.lt _ e
      omega
theorem RCross.cut {M' M1' M2' : List Ord5} (h : RCross w wr B t cs o0 A A' c' M M1 M2 Af c F) (ht : RefTo wr w' B t (cs.setIfInBounds o0 (.slice A' M.length c')) o0 A' M') (hw : Twin M' M1' M2') (hn : M'.length ≤ 100) : ∃ A2 c2, RCross w w' B t cs o0 A A2 c2 M' M1' M2' Af c F ∧ Keeps (fun i => i = B) wr w' := by
  obtain ⟨A2, c2, h1, h2, h3⟩ := ht
  rw [arr_set_set] at h1
  have hB := h.ref.blt
  refine ⟨A2, c2, ⟨h1, h.keep.trans h2 (fun i e => .inl e), fun g hg => ?_, h.blt, hw, hn, h.row.keeps h2 (fun g hg e => ?_), fun g hg => ⟨(h.fp g hg).1, fun e => ?_⟩⟩, h2⟩
  · rcases h3 g hg with e | e
    · exact h.grow g e
    · exact .inr (Nat.le_trans h.keep.size e)
  · have := (h.fp g hg).1
    have := h.blt
    omega
  · rcases h3 g e with e2 | e2
    · exact (h.fp g hg).2 e2
    · have := h.row.lt hg; omega
theorem RCross.refTo (h : RCross w wr B t cs o0 A A' c' M M1 M2 Af c F) : RefTo w wr B t cs o0 A M := ⟨A', c', h.ref, h.keep, h.grow⟩
theorem RCross.lists (h : RCross w wr B t cs o0 A A' c' M M1 M2 Af c F) : ListsOk M1 M2 := h.twin.lists h.few
end
end Go.Proofs.YtkcgchpbjegneaaGreatDoor
namespace Go.Proofs.YtkcgchpbjegneaaGreatDoor
open Go.RowKit
set_option linter.unusedVariables false

theorem want_bound {s p : Int} {L : List Ord5} (h : ∀ o ∈ L, 1 ≤ o.qty ∧ o.qty ≤ 1000000) : 0 ≤ wantL s p (onSide s L) ∧ wantL s p (onSide s L) ≤ 1000000 * L.length := by
  have h1 := wantL_bound (s := s) (p := p) (L := onSide s L) (fun o ho => h o (List.mem_filter.1 ho).1)
  have h2 := onSide_len s L
  omega
theorem want_take {s p : Int} {L : List Ord5} {i : Nat} (hi : i < L.length) : wantL s p (onSide s (L.take (i + 1))) = wantL s p (onSide s (L.take i)) + (if L[i].side = s ∧ wantB s p L[i] = true then L[i].qty else 0) := by
  rw [List.take_succ_eq_append_getElem hi, onSide_snoc, wantL_append]
  congr 1
  by_cases h : L[i].side = s
  · rw [if_pos (beqT h)]
    unfold wantL
    simp only [sumF, h, true_and]
    omega
  · rw [if_neg (by rw [beqF h]; simp), if_neg (by rintro ⟨h1, -⟩; exact h h1)]
    rfl

set_option maxRecDepth 100000 in
set_option maxHeartbeats 4000000 in
theorem rwilling_any (w : World) (B : Nat) (t : TypeId) (cs : Array Value) (o0 : Nat) (A : Option Addr) (L : List Ord5) (h : RefB w B t cs o0 A L) (hn : L.length ≤ 1000) (s p : Int) (hs : Is12 s) (hq : ∀ o ∈ L, 1 ≤ o.qty ∧ o.qty ≤ 1000000) :
    Calls Tryz.prog 53 #[.pointer (some ⟨B, o0, none⟩), .int .i64 s, .int .i64 p] w fun e w' => e = .returned (.int .i64 (wantL s p (onSide s L))) ∧ Below w.heap.size w w' := by
  obtain ⟨c, hc, -⟩ := h.cell
  obtain ⟨n, hnl⟩ : ∃ n, L.length = n := ⟨_, rfl⟩
  have HE := hid h.els
  have HQ := hid hq
  rw [hnl] at hc HE hn
  have HN := hid hnl
  clear h hq hnl
  go_enter Tryz.func53, Tryz.ntmps53
  go_wp2_with fail
  clear hc
  go_loopg [7, 15] n (fun g s7 s15 wr => ∃ i : Nat, i ≤ n ∧ g = n - i ∧ s15 = .int .i64 i ∧ s7 = .int .i64 (wantL s p (onSide s (L.take i))) ∧ Hid (Below w.heap.size w wr))
  case atStart => exact ⟨0, Nat.zero_le _, rfl, rfl, rfl, hid (Below.refl _ _)⟩
  case round =>
    obtain ⟨i, hi, rfl, rfl, rfl, HB⟩ := hrel
    by_cases hlt : i < n
    · have hil : i < L.length := by rw [HN.out]; exact hlt
      obtain ⟨gA, oA, hA⟩ : ∃ b off, A = some ⟨b, off, none⟩ := by obtain ⟨b, off, h1, _⟩ := HE.out.2 (by omega); exact ⟨b, off, h1⟩
      subst hA
      obtain ⟨x0, x1, x2, x3, x4⟩ := ord_at (HE.out.below HB.out (Nat.le_refl _)) hil
      have Ht := hid (want_take (s := s) (p := p) hil)
      have hbd := want_bound (s := s) (p := p) (fun y hy => HQ.out y (List.mem_of_mem_take hy) : ∀ y ∈ L.take i, _)
      have hoq := HQ.out L[i] (List.getElem_mem _)
      obtain ⟨o, ho⟩ : ∃ o, L[i] = o := ⟨_, rfl⟩
      rw [ho] at x0 x1 x2 x3 x4 Ht hoq
      rw [List.length_take, HN.out, Nat.min_eq_left (by omega)] at hbd
      obtain ⟨acc, hacc⟩ : ∃ acc, wantL s p (onSide s (L.take i)) = acc := ⟨_, rfl⟩
      rw [hacc] at Ht hbd ⊢
      have i1 : RowKit.wrap64 (acc + o.qty) = acc + o.qty := by unfold RowKit.wrap64; omega
      have HB2 := hid (HB.out.trans (((Below.refl wr.heap.size wr).alloc (Nat.le_refl _) (.cells #[.int .i64 o.id, .int .i64 o.side, .int .i64 o.kind, .int .i64 o.price, .int .i64 o.qty] 24)).mono HB.out.size))
      have hltz : (i : Int) < (n : Int) := by omega
      have hi7 : (0 : Int) ≤ (i : Int) := by omega
      clear ho hacc HB
      rcases hs with rfl | rfl
      · by_cases h1 : o.side = 1
        · have d1 := beqT h1
          by_cases h2 : o.kind = 2
          · have d2 := beqT h2
            have Hs := hid (show acc + o.qty = wantL 1 p (onSide 1 (L.take (i + 1))) by rw [Ht.out, if_pos ⟨h1, by unfold wantB; rw [d2]; rfl⟩])
            clear h1 h2
            clear Ht
            go_wp2_with fail
            go_roundg (n - (i + 1))
            case measure => omega
            case rel => exact ⟨i + 1, by omega, rfl, by go_num, by rw [← Hs.out], HB2⟩
          · have d2 := beqF h2
            by_cases h3 : p ≤ o.price
            · have d3 := decT h3
              have Hs := hid (show acc + o.qty = wantL 1 p (onSide 1 (L.take (i + 1))) by rw [Ht.out, if_pos ⟨h1, by unfold wantB; rw [d2]; simp [h3]⟩])
              clear h1 h2 h3
              clear Ht
              go_wp2_with fail
              go_roundg (n - (i + 1))
              case measure => omega
              case rel => exact ⟨i + 1, by omega, rfl, by go_num, by rw [← Hs.out], HB2⟩
            · have d3 := decF h3
              have Hs := hid (show acc = wantL 1 p (onSide 1 (L.take (i + 1))) by rw [Ht.out, if_neg (by rintro ⟨-, h4⟩; unfold wantB at h4; rw [d2] at h4; simp at h4; omega)]; omega)
              clear h1 h2 h3
              clear Ht
              go_wp2_with fail
              go_roundg (n - (i + 1))
              case measure => omega
              case rel => exact ⟨i + 1, by omega, rfl, by go_num, by rw [← Hs.out], HB2⟩
        · have d1 := beqF h1
          have Hs := hid (show acc = wantL 1 p (onSide 1 (L.take (i + 1))) by rw [Ht.out, if_neg (by rintro ⟨h4, -⟩; exact h1 h4)]; omega)
          clear h1
          clear Ht
          go_wp2_with fail
          go_roundg (n - (i + 1))
          case measure => omega
          case rel => exact ⟨i + 1, by omega, rfl, by go_num, by rw [← Hs.out], HB2⟩
      · by_cases h1 : o.side = 2
        · have d1 := beqT h1
          by_cases h2 : o.kind = 2
          · have d2 := beqT h2
            have Hs := hid (show acc + o.qty = wantL 2 p (onSide 2 (L.take (i + 1))) by rw [Ht.out, if_pos ⟨h1, by unfold wantB; rw [d2]; rfl⟩])
            clear h1 h2
            clear Ht
            go_wp2_with fail
            go_roundg (n - (i + 1))
            case measure => omega
            case rel => exact ⟨i + 1, by omega, rfl, by go_num, by rw [← Hs.out], HB2⟩
          · have d2 := beqF h2
            by_cases h3 : o.price ≤ p
            · have d3 := decT h3
              have Hs := hid (show acc + o.qty = wantL 2 p (onSide 2 (L.take (i + 1))) by rw [Ht.out, if_pos ⟨h1, by unfold wantB; rw [d2]; simp [h3]⟩])
              clear h1 h2 h3
              clear Ht
              go_wp2_with fail
              go_roundg (n - (i + 1))
              case measure => omega
              case rel => exact ⟨i + 1, by omega, rfl, by go_num, by rw [← Hs.out], HB2⟩
            · have d3 := decF h3
              have Hs := hid (show acc = wantL 2 p (onSide 2 (L.take (i + 1))) by rw [Ht.out, if_neg (by rintro ⟨-, h4⟩; unfold wantB at h4; rw [d2] at h4; simp at h4; omega)]; omega)
              clear h1 h2 h3
              clear Ht
              go_wp2_with fail
              go_roundg (n - (i + 1))
              case measure => omega
              case rel => exact ⟨i + 1, by omega, rfl, by go_num, by rw [← Hs.out], HB2⟩
        · have d1 := beqF h1
          have Hs := hid (show acc = wantL 2 p (onSide 2 (L.take (i + 1))) by rw [Ht.out, if_neg (by rintro ⟨h4, -⟩; exact h1 h4)]; omega)
          clear h1
          clear Ht
          go_wp2_with fail
          go_roundg (n - (i + 1))
          case measure => omega
          case rel => exact ⟨i + 1, by omega, rfl, by go_num, by rw [← Hs.out], HB2⟩
    · obtain rfl : i = n := by omega
      have hltz : ¬ (i : Int) < (i : Int) := by omega
      have hfull : L.take i = L := List.take_of_length_le (by rw [HN.out]; exact Nat.le_refl _)
      rw [hfull]
      go_wp2_with fail
      go_ret
      exact ⟨rfl, HB.out⟩
end Go.Proofs.YtkcgchpbjegneaaGreatDoor
namespace Go.Proofs.YtkcgchpbjegneaaGreatDoor
set_option linter.unusedVariables false
open Go
section
variable {P : Program} {ops : Array Oper} {Q : Exit → Act → World → Prop} {md : Region.Mode} {S : World → Prop} {T : Nat → Bool}

/-- Whatever order is picked from here on; S holds behind every operation but t. -/
def wpAnyM (P : Program) (md : Region.Mode) (ops : Array Oper) (Q : Exit → Act → World → Prop) (S : World → Prop) (T : Nat → Bool) : Nat → Array Bool → Act → World → Prop
  | 0, listed, a, w => Region.ready md ops listed = [] ∧ Q .normal a w
  | fuel + 1, listed, a, w =>
    (Region.ready md ops listed = [] → Q .normal a w) ∧
    ∀ i ∈ Region.ready md ops listed, wpOp P ops Q i (fun a' w' => (T i = false → S w') ∧ wpAnyM P md ops Q S T fuel (listed.setIfInBounds i true) a' w') a w

theorem wpAny_of_heldM : ∀ (fuel : Nat) (listed : Array Bool) (a : Act) (w : World), wpAnyM P md ops Q S T fuel listed a w → wpAny P md ops Q fuel listed a w
  | 0, _, _, _, h => h
  | fuel + 1, _, _, _, h => ⟨h.1, fun i hi => wpOp_mono (fun a' w' h' => wpAny_of_heldM fuel _ a' w' h'.2) (h.2 i hi)⟩

theorem wpAnyM_first {i : Nat} {oi : Oper} {v : Value} (hi : ops[i]? = some oi) (hw : ∀ t, T t = true → Region.waitsFor md ops t i = true) (hsel : ∀ (j : Nat) (o : Oper) cs b, ops[j]? = some o → o.op ≠ .select cs b)
    (hQ : ∀ c a w, Q (.panic c) (a.put oi.dst v) w → Q (.panic c) a w) :
    ∀ (fuel : Nat) (listed : Array Bool) (a : Act) (w : World),
      (∀ j oj, ops[j]? = some oj → j ≠ i → listed.getD j true = false → (∀ e ∈ oj.after, Region.binds md e = true → e.on ≠ i) → oi.apart ops oj = true) →
      i ∈ Region.ready md ops listed → YieldsIf P ops S oi v a → S w →
      wpAnyM P md ops Q S T fuel (listed.setIfInBounds i true) (a.put oi.dst v) w → wpAnyM P md ops Q S T (fuel + 1) listed a w := by
  intro fuel
  induction fuel with
  | zero =>
    intro listed a w _ hr hy hS H
    refine ⟨fun h => (by rw [h] at hr; cases hr), fun j hj => ?_⟩
    by_cases hji : j = i
    · subst hji; exact hy.wpOp hi hS ⟨fun _ => hS, H⟩
    · have := ready_mono hj hji
      rw [H.1] at this
      cases this
  | succ fuel ih =>
    intro listed a w hfree hr hy hS H
    refine ⟨fun h => (by rw [h] at hr; cases hr), fun j hj => ?_⟩
    by_cases hji : j = i
    · subst hji; exact hy.wpOp hi hS ⟨fun _ => hS, H⟩
    · have h1 := H.2 j (ready_mono hj hji)
      obtain ⟨hjun, oj, hoj, hall⟩ := mem_ready.1 hj
      have hnot : ∀ e ∈ oj.after, Region.binds md e = true → e.on ≠ i := fun e he hb heq => by
        have h1 := hall e he hb
        have h0 := (mem_ready.1 hr).1
        rw [heq] at h1
        rcases Nat.lt_or_ge i listed.size with h' | h'
        · simp [h'] at h0 h1; rw [h0] at h1; cases h1
        · simp [Array.getElem?_eq_none h'] at h1
      have hjt : T j = false := by
        cases hT : T j with
        | false => rfl
        | true =>
          exfalso
          obtain ⟨o', ho', e, he, hb, hon⟩ := Region.waitsFor_spec (hw j hT)
          have : o' = oj := Option.some.inj (ho'.symm.trans hoj)
          subst this
          exact hnot e he hb hon
      have h2 := wpOp_putIf hoj (hfree j oj hoj hji hjun hnot) (fun cs b => hsel i oi cs b hi) (fun cs b => hsel j oj cs b hoj) hQ hy h1
      have hfree' : ∀ k ok, ops[k]? = some ok → k ≠ i → (listed.setIfInBounds j true).getD k true = false →
          (∀ e ∈ ok.after, Region.binds md e = true → e.on ≠ i) → oi.apart ops ok = true := fun k ok hk hki hun hno => by
        refine hfree k ok hk hki ?_ hno
        by_cases hjk : j = k
        · subst hjk; exact hjun
        · rw [getD_set_ne true hjk] at hun; exact hun
      refine wpOp_mono (fun a' w' h3 => ⟨fun _ => h3.2.1 hjt, ih (listed.setIfInBounds j true) a' w' hfree' (ready_mono hr (Ne.symm hji)) h3.1 (h3.2.1 hjt) ?_⟩) h2
      rw [Array.setIfInBounds_comm _ _ hji]
      exact h3.2.2

theorem wpAnyM_take {i : Nat} {oi : Oper} {v : Value} {fuel : Nat} {listed : Array Bool} {a : Act} {w : World} (hi : ops[i]? = some oi) (hw : ∀ t, T t = true → Region.waitsFor md ops t i = true)
    (hs : Region.noSelect ops = true) (hf : Region.free md ops listed i = true) (hr : (Region.ready md ops listed).contains i = true)
    (hQ : ∀ c a w, Q (.panic c) (a.put oi.dst v) w → Q (.panic c) a w) (hy : YieldsIf P ops S oi v a) (hS : S w)
    (h : wpAnyM P md ops Q S T fuel (listed.setIfInBounds i true) (a.put oi.dst v) w) : wpAnyM P md ops Q S T (fuel + 1) listed a w :=
  wpAnyM_first hi hw (Region.noSelect_spec hs) hQ fuel listed a w (Region.free_spec hi hf) (by simpa using hr) hy hS h

theorem wpAnyM_all {rs : List Nat} {fuel : Nat} {listed : Array Bool} {a : Act} {w : World} (hr : Region.ready md ops listed = rs) (hne : rs ≠ [])
    (h : ∀ i ∈ rs, wpOp P ops Q i (fun a' w' => (T i = false → S w') ∧ wpAnyM P md ops Q S T fuel (listed.setIfInBounds i true) a' w') a w) : wpAnyM P md ops Q S T (fuel + 1) listed a w :=
  ⟨fun h0 => absurd (hr ▸ h0) hne, hr ▸ h⟩

theorem wpAnyM_done {listed : Array Bool} {a : Act} {w : World} (hr : Region.ready md ops listed = []) (h : Q .normal a w) :
    ∀ fuel, wpAnyM P md ops Q S T fuel listed a w
  | 0 => ⟨hr, h⟩
  | _ + 1 => ⟨fun _ => h, by rw [hr]; simp⟩

theorem wp_region_heldM {id : Nat} {a : Act} {w : World} (T : Nat → Bool) (S : World → Prop) (hm : P.follows .mixedOrders = true)
    (h : wpAnyM P .any ops Q S T ops.size (Array.replicate ops.size false) a { w with drawn := w.drawn + 1 }) : (Code.region id ops true).wp P Q a w :=
  wp_region_any hm (wpAny_of_heldM _ _ _ _ h)
theorem wp_region_heldM_drew {id : Nat} {a : Act} {w : World} (T : Nat → Bool) (S : World → Prop) (hm : P.follows .mixedOrders = true) (hS : S w.drew)
    (h : S w.drew → wpAnyM P .any ops Q S T ops.size (Array.replicate ops.size false) a w.drew) : (Code.region id ops true).wp P Q a w   := wp_region_heldM T S hm (h hS)

theorem at_dropM {l rest : List Oper} {i : Nat} {oi : Oper} (hl : l.drop i = oi :: rest) : l.toArray[i]? = some oi := by
  have h : (l.drop i)[0]? = some oi := by rw [hl]; rfl
  rw [List.getElem?_drop] at h
  simpa using h
/-- the take, the operation written out; ts are the operations that need not keep S -/
theorem takeM {l rest : List Oper} (i d : Nat) {oi : Oper} (v : Value) {ts : List Nat} {fuel : Nat} {listed : Array Bool} {a : Act} {w : World} (hl : l.drop i = oi :: rest) (hd : oi.dst = some d) (hw : (ts.all fun t => Region.waitsFor md l.toArray t i) = true)
    (hs : Region.noSelect l.toArray = true) (hf : Region.free md l.toArray listed i = true) (hr : (Region.ready md l.toArray listed).contains i = true)
    (hQ : ∀ c a w, Q (.panic c) (a.put oi.dst v) w → Q (.panic c) a w) (hwn : Region.wanted oi (yielded l.toArray a.tmps) = true) (hy : ∀ w, S w → (execOp a.eval oi).run P w = .ok (.value v) w) (hS : S w)
    (h : wpAnyM P md l.toArray Q S (fun t => ts.contains t) fuel (listed.setIfInBounds i true) (a.put (some d) v) w) : wpAnyM P md l.toArray Q S (fun t => ts.contains t) (fuel + 1) listed a w :=
  wpAnyM_take (at_dropM hl) (fun t ht => List.all_eq_true.1 hw t (by simpa using ht)) hs hf hr hQ (.inl ⟨hwn, hy⟩) hS (by rw [hd]; exact h)
theorem wpAnyM_mono {S' : World → Prop} (hS : ∀ w, S' w → S w) : ∀ (fuel : Nat) {listed : Array Bool} {a : Act} {w : World}, wpAnyM P md ops Q S' T fuel listed a w → wpAnyM P md ops Q S T fuel listed a w
  | 0, _, _, _, h => h
  | fuel + 1, _, _, _, h => ⟨h.1, fun i hi => wpOp_mono (fun a' w' h' => ⟨fun e => hS _ (h'.1 e), wpAnyM_mono hS fuel h'.2⟩) (h.2 i hi)⟩
/-- one of those that may come up -/
theorem opM {l rest : List Oper} (i : Nat) {o : Oper} {fuel : Nat} {listed : Array Bool} {a : Act} {w : World} (ho : l.drop i = o :: rest)
    (h : ∀ K' : Act → World → Prop, (∀ a w, (T i = false → S w) → wpAnyM P md l.toArray Q S T fuel (listed.setIfInBounds i true) a w → K' a w) → if Region.wanted o (yielded l.toArray a.tmps) = true then Oper.wp P o a w K' Q else K' (a.put o.dst undef) w) :
    wpOp P l.toArray Q i (fun a' w' => (T i = false → S w') ∧ wpAnyM P md l.toArray Q S T fuel (listed.setIfInBounds i true) a' w') a w :=
  wpOp_step (at_dropM ho) fun K' hK => h K' (fun a w hS hw => hK a w ⟨hS, hw⟩)
theorem allM1 {i : Nat} {fuel : Nat} {listed : Array Bool} {a : Act} {w : World} (hr : Region.ready md ops listed = [i])
    (h : wpOp P ops Q i (fun a' w' => (T i = false → S w') ∧ wpAnyM P md ops Q S T fuel (listed.setIfInBounds i true) a' w') a w) : wpAnyM P md ops Q S T (fuel + 1) listed a w :=
  wpAnyM_all hr (by simp) (fun k hk => by rw [List.mem_singleton] at hk; subst hk; exact h)
theorem allM2 {i j : Nat} {fuel : Nat} {listed : Array Bool} {a : Act} {w : World} (hr : Region.ready md ops listed = [i, j])
    (h1 : wpOp P ops Q i (fun a' w' => (T i = false → S w') ∧ wpAnyM P md ops Q S T fuel (listed.setIfInBounds i true) a' w') a w)
    (h2 : wpOp P ops Q j (fun a' w' => (T j = false → S w') ∧ wpAnyM P md ops Q S T fuel (listed.setIfInBounds j true) a' w') a w) : wpAnyM P md ops Q S T (fuel + 1) listed a w :=
  wpAnyM_all hr (by simp) (fun k hk => by
    rw [List.mem_cons, List.mem_singleton] at hk
    rcases hk with rfl | rfl
    · exact h1
    · exact h2)
theorem allM3 {i j m : Nat} {fuel : Nat} {listed : Array Bool} {a : Act} {w : World} (hr : Region.ready md ops listed = [i, j, m])
    (h1 : wpOp P ops Q i (fun a' w' => (T i = false → S w') ∧ wpAnyM P md ops Q S T fuel (listed.setIfInBounds i true) a' w') a w)
    (h2 : wpOp P ops Q j (fun a' w' => (T j = false → S w') ∧ wpAnyM P md ops Q S T fuel (listed.setIfInBounds j true) a' w') a w)
    (h3 : wpOp P ops Q m (fun a' w' => (T m = false → S w') ∧ wpAnyM P md ops Q S T fuel (listed.setIfInBounds m true) a' w') a w) : wpAnyM P md ops Q S T (fuel + 1) listed a w :=
  wpAnyM_all hr (by simp) (fun k hk => by
    rw [List.mem_cons, List.mem_cons, List.mem_singleton] at hk
    rcases hk with rfl | rfl | rfl
    · exact h1
    · exact h2
    · exact h3)
end
end Go.Proofs.YtkcgchpbjegneaaGreatDoor
