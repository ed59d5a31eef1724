/-
  The walks of Book.Order and Book.Cut.
-/
import Derived.Laws.Rows
import Derived.Deep.RegionWith
import Derived.Test.YtkcgchpbjegneaaGreatDoorOSet
import Derived.Test.YtkcgchpbjegneaaGreatDoorBookCutP
import Derived.Test.YtkcgchpbjegneaaGreatDoorBookIter
namespace Go.Proofs.YtkcgchpbjegneaaGreatDoor
open Go.RowKit
set_option linter.unusedVariables false

theorem order_ret {w : World} {t : Act} {Q : Ending → World → Prop} {g : Nat} {cs : Array Value} {v : Value} (hp : t.tmps.getD 4 undef = .pointer (some ⟨g, 0, none⟩)) (h5 : t.tmps.getD 5 undef = v) (hd : t.defers = [])
    (hg : Blk w g 24 cs) (hs : cs.size = 5) (h : Q (.returned (.tuple #[.agg cs, v])) w) : bodyPost Tryz.prog Tryz.f72 Q .ret t w := by
  refine bodyPost_ret (v := .tuple #[.agg cs, v]) ?_ hd h
  have hl := run_loadVar_row (P := Tryz.prog) w g _ 24 cs (0, 0) _ hg Tryz.underlying24 rfl (by rw [hs]; kernel_rfl)
  have hp' : t.tmps[4]?.getD undef = .pointer (some ⟨g, 0, none⟩) := by simpa using hp
  have h5' : t.tmps[5]?.getD undef = v := by simpa using h5
  simp [results, Tryz.results72, hp', h5', asAddr, hl]

set_option maxRecDepth 100000 in
set_option maxHeartbeats 1000000 in
theorem order_missing (w : World) (b a : Nat) (F : Nat → Prop) (M : Int → Int → Option Ord5) (n r : Nat) (f : Int → Option Value) (H : Int → HS) (reg : Nat → Int) (hM : BookM w b a F M n r f H reg) (id : Int) (hf : f id = none) :
    Calls Tryz.prog 72 #[.pointer (some ⟨b, 0, none⟩), .int .i64 id] w fun e w' => e = .returned (.tuple #[.agg #[.int .i64 0, .int .i64 0, .int .i64 0, .int .i64 0, .int .i64 0], errV 7]) ∧ Below w.heap.size w w' := by
  have hb0 : Below w.heap.size w (w.alloc (.cells #[.int .i64 0, .int .i64 0, .int .i64 0, .int .i64 0, .int .i64 0] 24)) := (Below.refl _ w).alloc (Nat.le_refl _) _
  have hM0 := hM.below hb0
  have hlk := map_look_none hM0.mp hf
  obtain ⟨y0, y1, y2, y3, y4, y5⟩ := hM0.cells
  have HR := hid (Blk.new w 24 #[.int .i64 0, .int .i64 0, .int .i64 0, .int .i64 0, .int .i64 0])
  have HB := hid hb0
  clear y0 y2 y3 y4 y5 hM hM0 hf hb0
  go_enter Tryz.func72, Tryz.ntmps72
  go_wp2_with fail
  refine order_ret (g := w.heap.size) (cs := #[.int .i64 0, .int .i64 0, .int .i64 0, .int .i64 0, .int .i64 0]) (v := errV 7) (by with_unfolding_all rfl) (by with_unfolding_all rfl) (by with_unfolding_all rfl) (Blk.alloc HR.out _) rfl ?_
  exact ⟨rfl, HB.out.alloc (by simp) _⟩

set_option maxRecDepth 100000 in
set_option maxHeartbeats 2000000 in
theorem order_lies (w : World) (b a : Nat) (F : Nat → Prop) (M : Int → Int → Option Ord5) (n r : Nat) (f : Int → Option Value) (H : Int → HS) (reg : Nat → Int) (hM : BookM w b a F M n r f H reg) (id : Int) (x : HO) (hf : f id = some (placeV x)) (hMx : M x.1.1 x.1.2 = some x.2) :
    Calls Tryz.prog 72 #[.pointer (some ⟨b, 0, none⟩), .int .i64 id] w fun e w' => e = .returned (.tuple #[aggO x.2, .nilIface]) ∧ Below w.heap.size w w' := by
  have hb0 : Below w.heap.size w (w.alloc (.cells #[.int .i64 0, .int .i64 0, .int .i64 0, .int .i64 0, .int .i64 0] 24)) := (Below.refl _ w).alloc (Nat.le_refl _) _
  have hM0 := hM.below hb0
  have hlk := map_look_some hM0.mp hf
  obtain ⟨y0, y1, y2, y3, y4, y5⟩ := hM0.cells
  obtain ⟨⟨h1, h2⟩, o⟩ := x
  dsimp only at hlk hMx
  have HX := hid (Blk.alloc (Blk.new w 24 #[.int .i64 0, .int .i64 0, .int .i64 0, .int .i64 0, .int .i64 0]) (.cells #[.int .i64 h1, .int .i64 h2, .int .i64 o.side, .int .i64 o.price, .bool (o.kind == 2)] 157))
  have hb1 : Below w.heap.size w ((w.alloc (.cells #[.int .i64 0, .int .i64 0, .int .i64 0, .int .i64 0, .int .i64 0] 24)).alloc (.cells #[.int .i64 h1, .int .i64 h2, .int .i64 o.side, .int .i64 o.price, .bool (o.kind == 2)] 157)) := hb0.alloc (by simp) _
  have HG := hid (get_one (hM.below hb1) hMx _ (Below.drew (Below.refl _ _)))
  have HB := hid hb1
  have hbl := Blk.lt hM.blk
  clear y2 y3 y4 y5 hM hM0 hf hb0 hb1 hMx
  go_enter Tryz.func72, Tryz.ntmps72
  go_wp2_with fail
  go_region_with (go_at_call 103; refine HG.out.mono ?_; rintro e w5 ⟨rfl, hb5⟩; have hbx := Blk.keep (Blk.drew HX.out) hb5; have z0 := (blk5' hbx).1; have z1 := (blk5' hbx).2.1; have z2 := (blk5' hbx).2.2.1; have z3 := (blk5' hbx).2.2.2.1; have z4 := (blk5' hbx).2.2.2.2; have f0 := Blk.frozen hbx 0; have f1 := Blk.frozen hbx 1; have f2 := Blk.frozen hbx 2; have f3 := Blk.frozen hbx 3; have f4 := Blk.frozen hbx 4; have HBx := hid hbx; have HB5 := hid (HB.out.trans ((Below.drew (Below.refl _ _)).trans (hb5.mono (Nat.le_refl _)) |>.mono HB.out.size)); clear hb5 hbx)
  all_goals go_wp2_with fail
  all_goals
    refine order_ret (g := w.heap.size) (cs := boxO o) (v := .nilIface) (by with_unfolding_all rfl) (by with_unfolding_all rfl) (by with_unfolding_all rfl) ?_ rfl ?_
    · exact Blk.set_ (Blk.set_ (Blk.set_ (Blk.set_ (Blk.set_ HBx.out 0 _) 1 _) 2 _) 3 _) 4 _
    · refine ⟨rfl, HB5.out.trans ?_⟩
      exact (keeps5' _ _ _ _ _ _ _).below (B := w.heap.size) (fun i e => by have e' : i = w.heap.size := e; omega) HB5.out.size

/-- Order of a book by its two lists -/
theorem bookOrder_any (w : World) (b : Nat) (G : Nat → Prop) (L1 L2 : List Ord5) (h : BookAt w b G L1 L2) (id : Int) :
    Calls Tryz.prog 72 #[.pointer (some ⟨b, 0, none⟩), .int .i64 id] w fun e w' => Below w.heap.size w w' ∧ ((getI (L1 ++ L2) id = none ∧ e = .returned (.tuple #[aggO noO, errV 7])) ∨ (∃ o, getI (L1 ++ L2) id = some o ∧ e = .returned (.tuple #[aggO o, .nilIface]))) := by
  obtain ⟨a, F, M, n, r, f, H, reg, hM, hS, hG, rfl, rfl⟩ := h
  cases hf : f id with
  | none =>
    refine (order_missing w b a F M n r f H reg hM id hf).mono ?_
    rintro e w' ⟨rfl, hb⟩
    exact ⟨hb, .inl ⟨getI_none hS hf, rfl⟩⟩
  | some v =>
    obtain ⟨x, hx, hid⟩ := hS.hk _ _ hf
    have hv := hS.hf x hx
    rw [hid] at hv
    refine (order_lies w b a F M n r f H reg hM id x hv (hS.hM x hx)).mono ?_
    rintro e w' ⟨rfl, hb⟩
    exact ⟨hb, .inr ⟨x.2, by rw [← hid]; exact getI_find hS hx, rfl⟩⟩

theorem map_look_plain {w : World} {r : Nat} {f : Int → Option Value} (h : IMap w r f) {k : Int} {x : HO} (e : f k = some (placeV x)) : (Instr.lookup 146 (.map (some r)) (.int .i64 k) false).run Tryz.prog w =
    .ok (.agg #[.int .i64 x.1.1, .int .i64 x.1.2, .int .i64 x.2.side, .int .i64 x.2.price, .bool (x.2.kind == 2)]) w := by
  have := h.lookup (P := Tryz.prog) Tryz.underlying146 Tryz.underlying3 (z := .agg #[.int .i64 0, .int .i64 0, .int .i64 0, .int .i64 0, .bool false]) (by kernel_rfl) k false
  rw [e] at this
  exact this

theorem place_handle (w : World) (a b c d : Value) (e : Value) : (Instr.field 157 (.agg #[a, b, c, d, e]) 0).run Tryz.prog w = .ok (.agg #[a, b]) w := by kernel_rfl

theorem cut_to {w w' : World} {b a r n : Nat} {F F' G : Nat → Prop} {M : Int → Int → Option Ord5} {f : Int → Option Value} {H : Int → HS} {reg' : Nat → Int} {x : HO} {k : Int} (hS : BookS M n f H) (hx : x ∈ allH H) (h1 : 1 ≤ k) (h2 : k < x.2.qty)
    (hG : ∀ i, G i ↔ BFp b r F H i) (hM : BookM w' b a F' (withO M x.1.1 x.1.2 (some (cutO x.2 k))) n r f H reg') (hB : BStep w w' (BFp b r F H) (BFp b r F' H)) : BookTo w w' b G (cutS (H 1).L x.2 k) (cutS (H 2).L x.2 k) := by
  have e : ∀ L, cutS L x.2 k = cutI L x.2.id k := fun L => by unfold cutS; rw [if_neg (by omega)]
  rw [e, e]
  refine ⟨BFp b r F' (cutAll H x.2.id k), ⟨a, F', _, n, r, f, cutAll H x.2.id k, reg', hM.recut, hS.cut hx h1 h2, fun i => Iff.rfl, (L_cut _).symm, (L_cut _).symm⟩, hB.1.mono (fun i hi => (hG i).2 hi), fun i hi => ?_⟩
  exact (hB.2 i (BFp_cut.1 hi)).imp (fun h => (hG i).2 h) id

set_option maxRecDepth 100000 in
set_option maxHeartbeats 4000000 in
theorem bookCut_any : CutSaid := by
  intro w b G L1 L2 h id n hfit
  have hat := h
  obtain ⟨a, F, M, m, r, f, H, reg, hM, hS, hG, rfl, rfl⟩ := h
  cases hf : f id with
  | none =>
    have hg := getI_none hS hf
    have hE : cutE (H 1).L (H 2).L id n = 7 := by unfold cutE; rw [hg]
    have HC := hid (order_missing w b a F M m r f H reg hM id hf)
    have HE := hid hE
    clear hM hS hG hf hg hE hat
    go_enter Tryz.func47, Tryz.ntmps47
    go_wp2_with fail
    refine HC.out.mono ?_
    rintro e w1 ⟨rfl, hb⟩
    have HB := hid (hb.alloc hb.size (.cells #[.int .i64 0, .int .i64 0, .int .i64 0, .int .i64 0, .int .i64 0] 24))
    rw [show errV 7 = .iface 29 (.int .i64 7) from rfl]
    clear hb
    go_wp2_with fail
    go_ret
    refine .inl ⟨?_, ?_, HB.out⟩
    · rw [HE.out]; decide
    · rw [HE.out]; rfl
  | some v =>
    obtain ⟨x, hx, hxi⟩ := hS.hk _ _ hf
    have hv := hS.hf x hx
    rw [hxi] at hv
    have hg := getI_find hS hx
    rw [hxi] at hg
    have hok := hS.ok x hx
    have HC := hid (order_lies w b a F M m r f H reg hM id x hv (hS.hM x hx))
    have HM := hid hM
    have HS_ := hid hS
    have HG := hid hG
    have Hx := hid hx
    have Hxi := hid hxi
    have Hv := hid hv
    have Hg := hid hg
    have Hat := hid hat
    have hq1 := hok.2.2.2
    have Hfit := hid hfit
    clear hM hS hG hf hg hat hx hxi hv hok hfit v
    obtain ⟨⟨h1, h2⟩, o⟩ := x
    dsimp only at HC Hxi Hg hq1
    unfold aggO at HC
    by_cases c1 : n < 1
    · have d1 : decide (n < 1) = true := decT c1
      have hE : cutE (H 1).L (H 2).L id n = 2 := by unfold cutE; rw [Hg.out]; exact if_pos (.inl c1)
      have HE := hid hE
      clear hE c1
      go_enter Tryz.func47, Tryz.ntmps47
      go_wp2_with fail
      refine HC.out.mono ?_
      rintro e w1 ⟨rfl, hb⟩
      have HB := hid (hb.alloc hb.size (.cells #[.int .i64 o.id, .int .i64 o.side, .int .i64 o.kind, .int .i64 o.price, .int .i64 o.qty] 24))
      clear hb
      go_wp2_with fail
      go_ret
      refine .inl ⟨?_, ?_, HB.out⟩
      · rw [HE.out]; decide
      · rw [HE.out]; rfl
    · have d1 : decide (n < 1) = false := decF c1
      by_cases c2 : o.qty < n
      · have d2 : decide (o.qty < n) = true := decT c2
        have hE : cutE (H 1).L (H 2).L id n = 2 := by unfold cutE; rw [Hg.out]; exact if_pos (.inr c2)
        have HE := hid hE
        clear hE c1 c2
        go_enter Tryz.func47, Tryz.ntmps47
        go_wp2_with fail
        refine HC.out.mono ?_
        rintro e w1 ⟨rfl, hb⟩
        have HB := hid (hb.alloc hb.size (.cells #[.int .i64 o.id, .int .i64 o.side, .int .i64 o.kind, .int .i64 o.price, .int .i64 o.qty] 24))
        clear hb
        go_wp2_with fail
        go_ret
        refine .inl ⟨?_, ?_, HB.out⟩
        · rw [HE.out]; decide
        · rw [HE.out]; rfl
      · have d2 : decide (o.qty < n) = false := decF c2
        by_cases c3 : n = o.qty
        · subst c3
          have d3 : (o.qty == o.qty) = true := beqT rfl
          go_enter Tryz.func47, Tryz.ntmps47
          go_wp2_with fail
          refine HC.out.mono ?_
          rintro e w1 ⟨rfl, hb⟩
          have hb2 := hb.alloc hb.size (.cells #[.int .i64 o.id, .int .i64 o.side, .int .i64 o.kind, .int .i64 o.price, .int .i64 o.qty] 24)
          have HCa := hid (bookCancel_any _ b G _ _ (Hat.out.below hb2) id)
          have HB := hid hb2
          clear hb hb2
          go_wp2_with fail
          refine HCa.out.mono ?_
          rintro e w2 (⟨h0, -, -⟩ | ⟨o', h0, rfl, hto⟩)
          · rw [Hg.out] at h0
            cases h0
          · have Hto := hid hto
            clear hto h0
            rw [errV_zero]
            go_wp2_with fail
            go_ret
            obtain ⟨G', hA', hB'⟩ := Hto.out
            refine .inr ⟨o, Hg.out, by omega, Int.le_refl _, rfl, G', ?_, (BStep.of_below HB.out).trans hB'⟩
            unfold cutS
            rw [if_pos rfl, if_pos rfl, Hxi.out]
            exact hA'
        · have d3 : (n == o.qty) = false := beqF c3
          have hw : RowKit.wrap64 (o.qty - n) = o.qty - n := by unfold RowKit.wrap64; omega
          go_enter Tryz.func47, Tryz.ntmps47
          go_wp2_with fail
          refine HC.out.mono ?_
          rintro e w1 ⟨rfl, hb⟩
          have hb2 := (hb.alloc hb.size (.cells #[.int .i64 o.id, .int .i64 o.side, .int .i64 o.kind, .int .i64 o.price, .int .i64 (o.qty - n)] 24))
          have hM2 := HM.out.below hb2
          obtain ⟨y0, y1, -, -, -, -⟩ := hM2.cells
          have hset := oar_set (w := (w1.alloc (.cells #[.int .i64 o.id, .int .i64 o.side, .int .i64 o.kind, .int .i64 o.price, .int .i64 (o.qty - n)] 24)).drew) (hM2.below (Below.drew (Below.refl _ _))).ar h1 h2 (by have := HS_.out.hM _ Hx.out; dsimp only at this; rw [this]; rfl) (cutO o n)
          unfold aggO cutO at hset
          dsimp only at hset
          have HSet := hid hset
          have hl1 := map_look_plain hM2.mp Hv.out
          have hl2 := map_look_plain (w := (w1.alloc (.cells #[.int .i64 o.id, .int .i64 o.side, .int .i64 o.kind, .int .i64 o.price, .int .i64 (o.qty - n)] 24)).drew) (hM2.below (Below.drew (Below.refl _ _))).mp Hv.out
          dsimp only at hl1 hl2
          have HM2 := hid (hM2.below (Below.drew (Below.refl _ _)))
          have hbx := Blk.new w1 24 #[.int .i64 o.id, .int .i64 o.side, .int .i64 o.kind, .int .i64 o.price, .int .i64 (o.qty - n)]
          obtain ⟨z0, z1, z2, z3, z4⟩ := blk5' hbx
          have hbl := Blk.lt hM2.blk
          have hpf := fun (W : World) (c d e : Value) => place_handle W (.int .i64 h1) (.int .i64 h2) c d e
          have HB := hid (hb2.trans ((Below.drew (Below.refl _ _) : Below _ _ (w1.alloc (.cells #[.int .i64 o.id, .int .i64 o.side, .int .i64 o.kind, .int .i64 o.price, .int .i64 (o.qty - n)] 24)).drew).mono hb2.size))
          clear hb hb2 hM2 hset hbx
          go_wp2_with fail
          go_region_with (go_at_call 102; refine HSet.out.mono ?_; rintro e w5 ⟨rfl, hto⟩; have HT := hid hto; clear hto)
          all_goals go_wp2_with fail
          all_goals
            go_ret
            obtain ⟨F', reg', hM5, hB5⟩ := HM2.out.arena HT.out
            exact .inr ⟨o, Hg.out, c1, c2, rfl, cut_to (x := ((h1, h2), o)) HS_.out Hx.out c1 (by dsimp only; omega) HG.out hM5 ((BStep.of_below HB.out).trans hB5)⟩
end Go.Proofs.YtkcgchpbjegneaaGreatDoor
