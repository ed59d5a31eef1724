/-
  The walk of Book.Add, where there is no room.
-/
import Derived.Test.YtkcgchpbjegneaaGreatDoorBookAddL
namespace Go.Proofs.YtkcgchpbjegneaaGreatDoor
open Go.RowKit
set_option linter.unusedVariables false

set_option maxRecDepth 100000 in
set_option maxHeartbeats 20000000 in
theorem add_full (w : World) (b : Nat) (o : Ord5) (a : Nat) (F : Nat → Prop) (M : Int → Int → Option Ord5) (n r : Nat) (f : Int → Option Value) (H : Int → HS) (reg : Nat → Int) (hM : BookM w b a F M n r f H reg)
    (hS : BookS M n f H) (hfit : FitO o)
    (h : argB o = true) (hr : rngB o = true) (hf : f o.id = none) (hn : n = 100) :
    Calls Tryz.prog 42 #[.pointer (some ⟨b, 0, none⟩), aggO o] w fun e w' => e = .returned (errV 12) ∧ Below w.heap.size w w' := by
  obtain ⟨hs, hi⟩ := argB_iff.1 h
  obtain ⟨mk, hmk⟩ : ∃ mk, (o.kind == 2) = mk := ⟨_, rfl⟩
  obtain ⟨o', ho'⟩ : ∃ o', pricedO o = o' := ⟨_, rfl⟩
  have HM := hid hM
  have HR := hid (show rightB o'.price o.qty = true by rw [← ho']; exact hr)
  have HF := hid hf
  have HK := hid hmk
  have HN := hid hn
  have HSd := hid hs
  have HO := hid ho'
  have HI := hid hi
  have HSm := hid hS
  have HOk := hid (show OkO o' by
    have hp := rightB_iff.1 (show rightB o'.price o.qty = true by rw [← ho']; exact hr)
    rw [← ho'] at hp ⊢
    obtain ⟨f1, f2, f3, f4, f5⟩ := hfit
    exact ⟨⟨f1, f2, f3, by unfold Fit64; omega, f5⟩, hi, ⟨hp.1, hp.2.1⟩, ⟨hp.2.2.1, hp.2.2.2⟩⟩)
  have B0 := Blk.new w 24 (boxO o)
  have hB0 : Below w.heap.size w (w.alloc (.cells (boxO o) 24)) := (Below.refl _ w).alloc (Nat.le_refl _) _
  have HX0 := hid B0
  have HB0 := hid hB0
  unfold aggO
  clear h hi hr hM hf hn hs hS hfit ho' hmk B0 hB0
  go_enter Tryz.func42, Tryz.ntmps42
  go_upto_region 1 with fail
  go_cut [25] (fun s25 wx => s25 = .bool false ∧ Add8 w wx b a F M n r f H reg o)
  case first =>
    obtain ⟨id, side, kind, price, qty⟩ := o
    have d1 : decide (id < 1) = false := decF (by have := HI.out; dsimp only at this; omega)
    rcases HSd.out with h1 | h1
    · dsimp only at h1
      subst h1
      go_wp2_with fail
      go_meet
      exact ⟨rfl, HB0.out, HM.out.below HB0.out, HX0.out⟩
    · dsimp only at h1
      subst h1
      go_wp2_with fail
      go_meet
      exact ⟨rfl, HB0.out, HM.out.below HB0.out, HX0.out⟩
  case rest =>
    obtain ⟨rfl, h8⟩ := hcut
    have H8 := hid h8
    obtain ⟨x0, x1, x2, x3, x4⟩ := ord_box h8.2.2
    have xf := Blk.frozen h8.2.2 3
    have t1 := HK.out
    clear h8
    go_upto_if 30 with fail
    go_cut [31] (fun s31 wx => Add8 w wx b a F M n r f H reg o')
    case first =>
      cases mk with
      | true =>
        have t2 := hid t1
        clear t1
        go_wp2_with fail
        go_meet
        rw [← HO.out]
        exact add8_price HM.out H8.out t2.out
      | false =>
        have t2 := hid t1
        clear t1
        go_wp2_with fail
        go_meet
        rw [← HO.out, priced_no t2.out]
        exact H8.out
    case rest =>
      clear x0 x1 x2 x3 x4 xf H8 HX0 HB0
      have e4 : o'.qty = o.qty := by rw [← HO.out]; rfl
      have e0 : o'.id = o.id := by rw [← HO.out]; rfl
      have e1 : o'.side = o.side := by rw [← HO.out]; rfl
      have e2 : o'.kind = o.kind := by rw [← HO.out]; rfl
      have H8 := hid hcut
      obtain ⟨x0, x1, x2, x3, x4⟩ := ord_box hcut.2.2
      rw [e4] at x4
      rw [e0] at x0
      rw [e1] at x1
      rw [e2] at x2
      clear t1 hcut
      have E4 := hid e4
      have E0 := hid e0
      have E1 := hid e1
      have E2 := hid e2
      clear e4 e0 e1 e2
      go_wp2_with fail
      refine (right_any _ _ _).mono ?_
      rintro e w1 ⟨rfl, hb⟩
      rw [HR.out]
      clear x0 x1 x2 x3 x4
      have h8 := add8_of H8.out hb
      clear H8 HR
      have H8 := hid h8
      have hl1 := Blk.lt h8.2.2
      have hl2 := Blk.lt h8.2.1.blk
      obtain ⟨x0, x1, x2, x3, x4⟩ := ord_box h8.2.2
      obtain ⟨y0, y1, y2, y3, y4, y5⟩ := h8.2.1.cells
      rw [E4.out] at x4
      rw [E0.out] at x0
      rw [E1.out] at x1
      rw [E2.out] at x2
      have hlk := map_look_none (w := (w1.alloc (.cells #[.int .i64 0, .int .i64 0, .int .i64 0, .int .i64 0, .bool false] 157)).drew) (h8.2.1.mp.alloc _) HF.out
      have hlk2 := map_look_none (w := w1.drew) h8.2.1.mp HF.out
      clear h8 hb
      go_upto_region 8 with fail
      go_cut [7] (fun s7 wx => s7 = .bool false ∧ Add8 w wx b a F M n r f H reg o')
      case first =>
        clear y0 y2 y3 y4 y5 x1 x2 x3 x4
        as_aux_lemma =>
        go_region_law (fail)
        all_goals go_wp2_with fail
        all_goals go_meet
        all_goals exact ⟨rfl, add8_of H8.out (Below.drew ((Below.refl _ w1).alloc (Nat.le_refl _) _))⟩
      case rest =>
        clear x0 x1 x2 x3 x4 y0 y1 y2 y3 y4 y5 hlk hlk2 hl1 hl2 H8
        obtain ⟨rfl, h8⟩ := hcut
        have H8 := hid h8
        have hl1 := Blk.lt h8.2.2
        have hl2 := Blk.lt h8.2.1.blk
        have hao : aggO o' = .agg #[.int .i64 o.id, .int .i64 o.side, .int .i64 o.kind, .int .i64 o'.price, .int .i64 o.qty] := by unfold aggO; rw [E0.out, E1.out, E2.out, E4.out]
        have hput : ∀ W, Below wc.heap.size wc W → Calls Tryz.prog 97 #[.pointer (some ⟨a, 0, none⟩), .agg #[.int .i64 o.id, .int .i64 o.side, .int .i64 o.kind, .int .i64 o'.price, .int .i64 o.qty]] W fun e w' => e = .returned (.tuple #[.agg #[.int .i64 0, .int .i64 0], .iface 29 (.int .i64 12)]) ∧ Below W.heap.size W w' := by
          intro W hW
          rw [← hao]
          refine (oar_put (h8.2.1.ar.below hW) (by omega) o').mono ?_
          rintro e w' (⟨_, h2, h3⟩ | ⟨h1, _⟩)
          · exact ⟨h2, h3⟩
          · have := HN.out; omega
        have HPA := hid (hput ((wc.alloc (.cells #[.int .i64 0, .int .i64 0] 155)).drew) (Below.drew ((Below.refl _ _).alloc (Nat.le_refl _) _)))
        have HPB := hid (hput wc.drew (Below.drew (Below.refl _ _)))
        have hX0 : Blk (wc.alloc (.cells #[.int .i64 0, .int .i64 0] 155)).drew wc.heap.size 155 #[.int .i64 0, .int .i64 0] := Blk.drew (Blk.new wc _ _)
        have HX0 := hid hX0
        have hBA := hid (show Below wc.heap.size wc (wc.alloc (.cells #[.int .i64 0, .int .i64 0] 155)).drew from Below.drew ((Below.refl _ _).alloc (Nat.le_refl _) _))
        have hBB := hid (show Below wc.heap.size wc wc.drew from Below.drew (Below.refl _ _))
        obtain ⟨x0, x1, x2, x3, x4⟩ := ord_box h8.2.2
        have y0 := h8.2.1.cells.1
        rw [E4.out] at x4
        rw [E0.out] at x0
        rw [E1.out] at x1
        rw [E2.out] at x2
        clear h8 hput hao hX0
        go_upto_region 11 with fail
        go_cut [9] (fun s9 wx => s9 = .iface 29 (.int .i64 12) ∧ Below wc.heap.size wc wx)
        case first =>
          go_region_with (first | (go_at_call 97; refine HPA.out.mono ?_; rintro e w5 ⟨rfl, hb⟩; have hb5 := Blk.keep HX0.out hb; have z0 : w5.cell? ⟨wc.heap.size, 0, none⟩ = some (.int .i64 0) := (by rw [Blk.cell hb5]; rfl); have z1 : w5.cell? ⟨wc.heap.size, 1, none⟩ = some (.int .i64 0) := (by rw [Blk.cell hb5]; rfl); have f0 := Blk.frozen hb5 0; have f1 := Blk.frozen hb5 1; have HB5 := hid (hBA.out.trans (hb.mono hBA.out.size)); clear hb hb5) | (go_at_call 97; refine HPB.out.mono ?_; rintro e w5 ⟨rfl, hb⟩; have HB5 := hid (hBB.out.trans (hb.mono hBB.out.size)); clear hb))
          all_goals go_wp2_with fail
          all_goals go_meet
          all_goals
            refine ⟨rfl, ?_⟩
            first
              | exact HB5.out.trans ((keeps2h w5 wc.heap.size 0 1 _ _).below (B := wc.heap.size) (fun i e => by have e' : i = wc.heap.size := e; omega) HB5.out.size)
              | exact HB5.out.alloc HB5.out.size _
        case rest =>
          obtain ⟨rfl, hb⟩ := hcut
          clear x0 x1 x2 x3 x4 y0 HPA HPB
          have HB := hid (H8.out.1.trans (hb.mono H8.out.1.size))
          clear hb
          go_wp2_with fail
          go_ret
          exact ⟨rfl, HB.out⟩
end Go.Proofs.YtkcgchpbjegneaaGreatDoor
