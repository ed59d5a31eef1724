/-
  The walk of openbellkeep.some.
-/
import Derived.WalkKit
import Derived.WalkLawsBesides
import Derived.WalkSpells
import Derived.Deep.QuietTactic
import Derived.BigQuiet
import Derived.Deep.LoopGhost
import Derived.Deep.DeepCutAuto
import Derived.Deep.CutBlock
import Derived.Deep.AppendLies
import Derived.Deep.RegionHeld3
import Derived.Deep.RegionWith
import Derived.Test.YteggaehelnmhnaaKeepWill
namespace Go.Proofs.Yteggaehelnmhnaa
open Go.RowKit
set_option linter.unusedVariables false

def kindAt (j : Int) : Int := if j = 3 then 2 else if j = 4 then 3 else 1
def someO (i : Nat) (o : Ord5) : Ord5 := ⟨i + 1, 1 + pk o.side 2, kindAt (pk o.kind 5), 1 + pk o.price 60, 1 + pk o.qty 30⟩
def someL (l : List Ord5) : List Ord5 := (l.take 60).mapIdx someO
theorem ord_info3 : (Try.prog.info? 37).map (fun i => (i.zero, i.size, i.bytes)) = some (some (.agg #[.int .i64 0, .int .i64 0, .int .i64 0, .int .i64 0, .int .i64 0]), 5, 40) := by kernel_rfl

theorem pick_still (a n : Int) (w : World) (h1 : 1 ≤ n) (h2 : n ≤ 1000000000) : Calls Try.prog 6 #[.int .i64 a, .int .i64 n] w fun e w'' => e = .returned (.int .i64 (pk a n)) ∧ w'' = w := (pick_any a n w h1 h2).mono fun _ _ ⟨h1, h2⟩ => ⟨h1, h2.symm⟩
theorem mapIdx_snoc (l : List Ord5) (o : Ord5) : (l ++ [o]).mapIdx someO = l.mapIdx someO ++ [someO l.length o] := by rw [List.mapIdx_append]; simp

set_option maxRecDepth 100000 in
set_option maxHeartbeats 4000000 in
theorem some_any (A : Option Addr) (n c : Nat) (l : List Ord5) (w : World) (h : ElemsAt w encO 5 A n l) (hm : n ≤ 9223372036854775807) :
    Calls Try.prog 5 #[.slice A n c] w fun e w' => Below w.heap.size w w' ∧ ∃ A' c', e = .returned (.slice A' (someL l).length c') ∧ RowAt w' A' (someL l).length c' 37 5 (flat encO (someL l)) := by
  have HH := hid h
  have hl := h.1
  have HL := hid hl
  obtain ⟨i0, hi0, hz0, hz1, hz2⟩ := info_parts ord_info3
  clear h hl
  go_enter Try.func5, Try.ntmps5
  go_wp2_with fail
  go_loopg [3, 4] n (fun gg s3 s4 wx => ∃ (k : Nat) (A3 : Option Addr) (c3 : Nat), k ≤ n ∧ k ≤ 60 ∧ gg = n - k ∧ s4 = .int .i64 k ∧ s3 = .slice A3 k c3 ∧ Below w.heap.size w wx ∧ RowAt wx A3 k c3 37 5 (flat encO ((l.take k).mapIdx someO)) ∧ (∀ g, blkOf A3 = some g → w.heap.size ≤ g))
  case atStart => exact ⟨0, none, 0, Nat.zero_le _, Nat.zero_le _, rfl, rfl, rfl, Below.refl _ _, World.ownsRow_nil _ _ _ _, by simp [blkOf]⟩
  case round =>
    obtain ⟨k, A3, c3, hk, hk6, rfl, rfl, rfl, hB, hR3, hup⟩ := hrel
    by_cases hlt : k < n ∧ k < 60
    · obtain ⟨hlt1, hlt2⟩ := hlt
      have hkl : k < l.length := by have := HL.out; omega
      obtain ⟨b, off, hA⟩ : ∃ b off, A = some ⟨b, off, none⟩ := by obtain ⟨b, off, h1, _⟩ := HH.out.2 (by omega); exact ⟨b, off, h1⟩
      subst hA
      obtain ⟨x0, x1, x2, x3, x4⟩ := ord_at (HH.out.below hB (Nat.le_refl _)) hkl
      have hltz : (k : Int) < (n : Int) := by omega
      have hltz2 : (k : Int) < 60 := by omega
      have d1 : decide ((k : Int) < (n : Int)) = true := decT hltz
      have hi7 : (0 : Int) ≤ (k : Int) := by omega
      have HT := hid (List.take_succ_eq_append_getElem hkl)
      obtain ⟨o, E⟩ : ∃ o, Hid (l[k] = o) := ⟨_, hid rfl⟩
      rw [E.out] at x0 x1 x2 x3 x4 HT
      have HB := hid hB
      have HR3 := hid hR3
      have HUP := hid hup
      have hsz := hB.size
      clear hB hR3 hup
      go_wp2_with fail
      refine (pick_any _ 2 _ (by omega) (by omega)).mono ?_
      rintro e w1 ⟨rfl, rfl⟩
      have hp0 := pk_nonneg o.side 2 (by omega)
      have hp1 := pk_lt o.side 2 (by omega)
      obtain ⟨ps, EP⟩ : ∃ x, Hid (pk o.side 2 = x) := ⟨_, hid rfl⟩
      rw [EP.out] at hp0 hp1 ⊢
      go_wp2_with fail
      refine (pick_any _ 5 _ (by omega) (by omega)).mono ?_
      rintro e w1 ⟨rfl, rfl⟩
      obtain ⟨j, hj, EK⟩ : ∃ j : Nat, j < 5 ∧ Hid (pk o.kind 5 = j) := by
        have h1 := pk_nonneg o.kind 5 (by omega)
        have h2 := pk_lt o.kind 5 (by omega)
        exact ⟨(pk o.kind 5).toNat, by omega, hid (by omega)⟩
      rw [EK.out]
      have hj0 : (0 : Int) ≤ (j : Int) := by omega
      have hj5 : (j : Int) < 5 := by omega
      have xk : ((wr.alloc (.cells #[.int .i64 ((k : Int) + 1), .int .i64 (1 + ps), .int .i64 o.kind, .int .i64 o.price, .int .i64 o.qty] 37)).alloc (.cells #[.int .i64 1, .int .i64 1, .int .i64 1, .int .i64 2, .int .i64 3] 3)).cell? ⟨wr.heap.size + 1, j, none⟩ = some (.int .i64 (kindAt j)) := by
        have hb := Blk.new (wr.alloc (.cells #[.int .i64 ((k : Int) + 1), .int .i64 (1 + ps), .int .i64 o.kind, .int .i64 o.price, .int .i64 o.qty] 37)) 3 #[.int .i64 1, .int .i64 1, .int .i64 1, .int .i64 2, .int .i64 3]
        have hb' : Blk ((wr.alloc (.cells #[.int .i64 ((k : Int) + 1), .int .i64 (1 + ps), .int .i64 o.kind, .int .i64 o.price, .int .i64 o.qty] 37)).alloc (.cells #[.int .i64 1, .int .i64 1, .int .i64 1, .int .i64 2, .int .i64 3] 3)) (wr.heap.size + 1) 3 #[.int .i64 1, .int .i64 1, .int .i64 1, .int .i64 2, .int .i64 3] := by simpa using hb
        rw [Blk.cell hb']
        rcases (show j = 0 ∨ j = 1 ∨ j = 2 ∨ j = 3 ∨ j = 4 by omega) with rfl | rfl | rfl | rfl | rfl <;> rfl
      obtain ⟨kk, EKK⟩ : ∃ x, Hid (kindAt j = x) := ⟨_, hid rfl⟩
      rw [EKK.out] at xk
      go_wp2_with fail
      have hb3 : Blk ((wr.alloc (.cells #[.int .i64 ((k : Int) + 1), .int .i64 (1 + ps), .int .i64 kk, .int .i64 o.price, .int .i64 o.qty] 37)).alloc (.cells #[.int .i64 1, .int .i64 1, .int .i64 1, .int .i64 2, .int .i64 3] 3)) wr.heap.size 37 #[.int .i64 ((k : Int) + 1), .int .i64 (1 + ps), .int .i64 kk, .int .i64 o.price, .int .i64 o.qty] := Blk.alloc (Blk.new _ _ _) _
      have hbz : Below wr.heap.size wr ((wr.alloc (.cells #[.int .i64 ((k : Int) + 1), .int .i64 (1 + ps), .int .i64 kk, .int .i64 o.price, .int .i64 o.qty] 37)).alloc (.cells #[.int .i64 1, .int .i64 1, .int .i64 1, .int .i64 2, .int .i64 3] 3)) := ((Below.refl _ wr).alloc (Nat.le_refl _) _).alloc (by simp) _
      have HB3 := hid hb3
      have HBZ := hid hbz
      clear hb3 xk hbz
      generalize ((wr.alloc (.cells #[.int .i64 ((k : Int) + 1), .int .i64 (1 + ps), .int .i64 kk, .int .i64 o.price, .int .i64 o.qty] 37)).alloc (.cells #[.int .i64 1, .int .i64 1, .int .i64 1, .int .i64 2, .int .i64 3] 3)) = wz at HB3 HBZ ⊢
      have hb3 := HB3.out
      have hgl := Blk.lt hb3
      have u3 : wz.drew.cell? ⟨wr.heap.size, 3, none⟩ = some (.int .i64 o.price) := by rw [Blk.cell (Blk.drew hb3)]; rfl
      have u4 : wz.drew.cell? ⟨wr.heap.size, 4, none⟩ = some (.int .i64 o.qty) := by rw [Blk.cell (Blk.drew hb3)]; rfl
      have g3 := Blk.frozen (Blk.drew hb3) 3
      have g4 := Blk.frozen (Blk.drew hb3) 4
      have U3 := hid u3
      have U4 := hid u4
      clear hb3 u3 u4
      go_cut [36] (fun s36 wx => Blk wx wr.heap.size 37 #[.int .i64 ((k : Int) + 1), .int .i64 (1 + ps), .int .i64 kk, .int .i64 (1 + pk o.price 60), .int .i64 (1 + pk o.qty 30)] ∧ Below wr.heap.size wr wx)
      case first =>
        have u3 := U3.out
        have u4 := U4.out
        have v3 : wz.cell? ⟨wr.heap.size, 3, none⟩ = some (.int .i64 o.price) := u3
        have v4 : wz.cell? ⟨wr.heap.size, 4, none⟩ = some (.int .i64 o.qty) := u4
        have hpq0 := pk_nonneg o.price 60 (by omega)
        have hpq1 := pk_lt o.price 60 (by omega)
        have hpq2 := pk_nonneg o.qty 30 (by omega)
        have hpq3 := pk_lt o.qty 30 (by omega)
        have hw1 : IntKind.i64.wrap (1 + pk o.price 60) = 1 + pk o.price 60 := IntWalk.i64_in _ (by omega)
        have hw2 : IntKind.i64.wrap (1 + pk o.qty 30) = 1 + pk o.qty 30 := IntWalk.i64_in _ (by omega)
        have g5 := Blk.frozen (show Blk (wz.setCell ⟨wr.heap.size, 3, none⟩ (.int .i64 (1 + pk o.price 60))).drew wr.heap.size 37 _ from Blk.set_ (Blk.drew HB3.out) 3 (.int .i64 (1 + pk o.price 60))) 4
        go_region_with (first | (go_at_call_of 6 (Value.int IntKind.i64 60); refine (pick_any _ 60 _ (by omega) (by omega)).mono ?_; rintro e w1 ⟨rfl, rfl⟩) | (go_at_call_of 6 (Value.int IntKind.i64 30); refine (pick_any _ 30 _ (by omega) (by omega)).mono ?_; rintro e w1 ⟨rfl, rfl⟩))
        all_goals go_wp2_with fail
        all_goals go_meet
        all_goals
          exact ⟨Blk.set_ (Blk.set_ (Blk.drew HB3.out) 3 (.int .i64 (1 + pk o.price 60))) 4 (.int .i64 (1 + pk o.qty 30)), ((HBZ.out.drew.setCell (Nat.le_refl _) _).setCell (Nat.le_refl _) _)⟩
      case rest =>
        obtain ⟨hbx, hBx⟩ := hcut
        obtain ⟨y0, y1, y2, y3, y4⟩ := ord_box (o := ⟨(k : Int) + 1, 1 + ps, kk, 1 + pk o.price 60, 1 + pk o.qty 30⟩) hbx
        dsimp only at y0 y1 y2 y3 y4
        have hne3 : some wr.heap.size ≠ (Value.slice A3 k c3).ownBlock := by
          rw [own_slice]
          intro e
          have := HR3.out.lt e.symm
          omega
        have HSO : Hid (someO k o = ⟨(k : Int) + 1, 1 + ps, kk, 1 + pk o.price 60, 1 + pk o.qty 30⟩) := hid (by unfold someO; rw [EP.out, EK.out, EKK.out])
        have HTS : Hid ((l.take (k + 1)).mapIdx someO = (l.take k).mapIdx someO ++ [someO k o]) := hid (by rw [HT.out, mapIdx_snoc, List.length_take, Nat.min_eq_left (by omega)])
        generalize 1 + pk o.price 60 = q3 at y3 HSO
        generalize 1 + pk o.qty 30 = q4 at y4 HSO
        have HO1 : Hid (World.ownsRow (wc.alloc (.cells #[.int .i64 ((k : Int) + 1), .int .i64 (1 + ps), .int .i64 kk, .int .i64 q3, .int .i64 q4] 37)) 0 37 5 (.slice A3 k c3) k (flat encO ((l.take k).mapIdx someO))) := hid (World.ownsRow.alloc (HR3.out.below hBx) _)
        have HBX := hid (HB.out.trans (hBx.mono hsz))
        have hsx := HBX.out.size
        clear hbx hBx
        go_wp2_with (at_builtin; refine wpList_append_lies _ rfl _ _ 22 rfl 0 37 i0 _ 5 40 Try.underlying22 hi0 hz0 hz1 hz2 rfl (by omega) (.slice A3 k c3) k _ rfl HO1.out ⟨wc.heap.size, 0, none⟩ 1 1 [.int .i64 ((k : Int) + 1), .int .i64 (1 + ps), .int .i64 kk, .int .i64 q3, .int .i64 q4] rfl rfl (World.news_of_block (cs := #[.int .i64 ((k : Int) + 1), .int .i64 (1 + ps), .int .i64 kk, .int .i64 q3, .int .i64 q4]) (t := 37) (fr := (0, 0)) (heap_alloc_new wc _)) (by simp [Value.oneCell']) (by omega) (by unfold maxLen; omega) (by omega) (by simp) (wc.heap.size + 1) (by simp) ?_; intro gg cap w5 hown hgrow hat hlt5)
        go_roundg (n - (k + 1))
        case measure => omega
        case rel =>
          refine ⟨k + 1, some ⟨gg, 0, none⟩, cap, by omega, by omega, rfl, by go_num, rfl, (HBX.out.alloc hsx _).grown hgrow (by simp; omega) (fun x hx => HUP.out x (by rw [← own_slice A3 k c3]; exact hx)), ?_, ?_⟩
          · rw [HTS.out, flat_snoc, HSO.out]; exact hown
          · intro x hx
            cases hx
            rw [own_slice] at hat
            rcases hat with h1 | h1
            · exact HUP.out _ h1
            · show w.heap.size ≤ gg; omega
    · have hend : (l.take k).mapIdx someO = someL l := by
        unfold someL
        by_cases h60 : k < 60
        · rw [List.take_of_length_le (by have := HL.out; omega), List.take_of_length_le (by have := HL.out; omega)]
        · rw [show k = 60 by omega]
      rw [hend] at hR3
      have hlk := row_length encO_length (by omega) hR3
      have HR3 := hid hR3
      have HLK := hid hlk
      have HBX := hid hB
      clear hend hR3 hlk hB
      by_cases hkn : k < n
      · have d1 : decide ((k : Int) < (n : Int)) = true := decT (by omega)
        have d2 : ¬ ((k : Int) < 60) := by omega
        go_wp2_with fail
        go_ret
        exact ⟨HBX.out, A3, c3, by rw [HLK.out]; rfl, by rw [HLK.out]; exact HR3.out⟩
      · have d1 : decide ((k : Int) < (n : Int)) = false := decF (by omega)
        have d2 : ¬ ((k : Int) < (n : Int)) := by omega
        go_wp2_with fail
        go_ret
        exact ⟨HBX.out, A3, c3, by rw [HLK.out]; rfl, by rw [HLK.out]; exact HR3.out⟩
end Go.Proofs.Yteggaehelnmhnaa
