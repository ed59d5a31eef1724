/-
  The walk of openbelllaw.BandsPlay: it returns true, whatever the input.
-/
import Derived.WalkKit
import Derived.WalkLawsBesides
import Derived.WalkSpells
import Derived.Deep.RegionHeld3
import Derived.Deep.DrawnRows
import Derived.Deep.DeepCutAuto
import Derived.Deep.CutBlock
import Derived.Deep.LoopGhost
import Derived.Test.YtakbedckjaammaaDoorBands
import Derived.Test.YtakbedckjaammaaDoorPairs
import Derived.Test.YtakbedckjaammaaDoorIs
namespace Go.Proofs.YtakbedckjaammaaDoor
open Go.RowKit
attribute [local go_sem ↓] Go.wp_at_zero Go.wp_at_succ

theorem errIs_errV (w : World) (e : Int) : ErrIs w (errV e) e (-1) := by
  unfold errV
  by_cases h : e = 0
  · rw [if_pos h]; exact .inl ⟨rfl, h, rfl⟩
  · rw [if_neg h]; exact .inr (.inl ⟨rfl, rfl⟩)

/-- the document's market behind a pointer -/
def MarketAt (w : World) (m : Nat) (st dy an la : Int) : Prop := Blk w m 71 #[.slice none 0 0, .int .i64 st, .int .i64 dy, .int .i64 an, .int .i64 la, .int .i64 0, .int .i64 0, .slice none 0 0, .slice none 0 0, .slice none 0 0, .int .i64 0, .int .i64 0, .int .i64 0, .int .i64 0]

section
variable {w : World} {m : Nat} {st dy an la : Int} (h : MarketAt w m st dy an la)
include h
theorem MarketAt.c1 : w.cell? ⟨m, 1, none⟩ = some (.int .i64 st) := by rw [Blk.cell h]; rfl
theorem MarketAt.c2 : w.cell? ⟨m, 2, none⟩ = some (.int .i64 dy) := by rw [Blk.cell h]; rfl
theorem MarketAt.c3 : w.cell? ⟨m, 3, none⟩ = some (.int .i64 an) := by rw [Blk.cell h]; rfl
theorem MarketAt.c4 : w.cell? ⟨m, 4, none⟩ = some (.int .i64 la) := by rw [Blk.cell h]; rfl
end

theorem kept6 {w w1 w2 : World} {b m X : Nat} {st dy an la : Int} {v3 v4 v1 : Value} (hB : Below w1.heap.size w1 w2)
    (h : BandsAt w1 b st dy an la ∧ MarketAt w1 m st dy an la ∧ Below w.heap.size w w1 ∧ w1.cell? ⟨m, 3, none⟩ = some v3 ∧ w1.cell? ⟨m, 4, none⟩ = some v4 ∧ w1.cell? ⟨X, 1, none⟩ = some v1) :
    BandsAt w2 b st dy an la ∧ MarketAt w2 m st dy an la ∧ Below w.heap.size w w2 ∧ w2.cell? ⟨m, 3, none⟩ = some v3 ∧ w2.cell? ⟨m, 4, none⟩ = some v4 ∧ w2.cell? ⟨X, 1, none⟩ = some v1 := by
  obtain ⟨hb, hm, h, c3, c4, cx⟩ := h
  exact ⟨Blk.keep hb hB, Blk.keep hm hB, h.trans (hB.mono h.size), (hB.cell (World.block_lt_of_cell? _ _ c3)).trans c3, (hB.cell (World.block_lt_of_cell? _ _ c4)).trans c4, (hB.cell (World.block_lt_of_cell? _ _ cx)).trans cx⟩
theorem held3 {B M L R : Prop} (h : B ∧ M ∧ L ∧ R) : L ∧ B ∧ M := ⟨h.2.2.1, h.1, h.2.1⟩
theorem held_m {B M R : Prop} (h : B ∧ M ∧ R) : M := h.2.1

set_option maxRecDepth 100000 in
set_option maxHeartbeats 1000000 in
theorem bandsPlay_any (st dy p : Int) (A : Option Addr) (len cap : Nat) (ps : List (Int × Int)) (w : World) (h : Pairs w A len cap ps) (hm : len ≤ 9223372036854775807) (hE : ErrType w) :
    Calls Tryd.prog 6 #[.int .i64 st, .int .i64 dy, .int .i64 p, .slice A len cap] w fun e w' => e = .returned (.bool true) ∧ Below w.heap.size w w' := by
  by_cases h60 : 60 < len
  · go_enter Tryd.func6, Tryd.ntmps6
    go_wp2
    go_ret
    exact ⟨rfl, Below.refl _ _⟩
  · have d60 : decide (60 < (len : Int)) = false := decF (by omega)
    go_enter Tryd.func6, Tryd.ntmps6
    go_wp2_with fail
    refine (bandsNew_any st dy p w).mono ?_
    intro e w1 hN
    obtain ⟨hB1, ⟨hok, b, hb1, rfl, hb⟩ | ⟨hok, rfl⟩⟩ := hN
    · -- a market
      simp only [Bool.and_eq_true] at hok
      obtain ⟨s1, s2, s3, s4⟩ := bandOk_iff.1 hok.1
      obtain ⟨_, _, s5, s6⟩ := bandOk_iff.1 hok.2
      have hr := hid (show rightB p 1 = true by rw [right_one]; simp [s1, s2])
      have e1 : decide (st < 0) = false := decF (by omega)
      have e2 : decide (10000 < st) = false := decF (by omega)
      have e3 : decide (dy < 0) = false := decF (by omega)
      have e4 : decide (10000 < dy) = false := decF (by omega)
      clear hok
      go_wp2_with fail
      refine (rright_any _ _ _).mono ?_
      rintro e w' ⟨rfl, rfl⟩
      rw [hr.out]
      go_wp2
      have hBm : Below w.heap.size w (w1.alloc (.cells #[.slice none 0 0, .int .i64 st, .int .i64 dy, .int .i64 p, .int .i64 p, .int .i64 0, .int .i64 0, .slice none 0 0, .slice none 0 0, .slice none 0 0, .int .i64 0, .int .i64 0, .int .i64 0, .int .i64 0] 71)) := hB1.alloc hB1.size _
      have hsz := hB1.size
      have hbl : b ≠ w1.heap.size := Nat.ne_of_lt (Blk.lt hb)
      go_loopg [12] len (fun g i wr => ∃ (k : Nat) (an la : Int), k ≤ len ∧ g = len - k ∧ i = .int .i64 k ∧ Below w.heap.size w wr ∧ BandsAt wr b st dy an la ∧ MarketAt wr w1.heap.size st dy an la)
      case atStart => exact ⟨0, p, p, Nat.zero_le _, rfl, rfl, hBm, Blk.alloc hb _, Blk.new _ _ _⟩
      case round =>
        obtain ⟨k, an, la, hk, rfl, rfl, hB, hb2, hm2⟩ := hrel
        clear hb hB1 hBm
        by_cases hlt : k < len
        · have d1 : decide ((k : Int) < (len : Int)) = true := decT (by omega)
          obtain ⟨xb, off, rfl, hxlt, hx⟩ := h.2 (by omega)
          clear hx
          obtain ⟨x0, x1⟩ := (h.below hB (Nat.le_refl _)).at_ hlt
          generalize (ps.getD k (0, 0)).1 = q at x0
          generalize (ps.getD k (0, 0)).2 = x at x1
          have hBx : Below w.heap.size w (wr.alloc (.cells #[.int .i64 q, .int .i64 x] 73)) := hB.alloc hB.size _
          have hszr := hB.size
          have hbx : BandsAt (wr.alloc (.cells #[.int .i64 q, .int .i64 x] 73)) b st dy an la := Blk.alloc hb2 _
          have hmx : MarketAt (wr.alloc (.cells #[.int .i64 q, .int .i64 x] 73)) w1.heap.size st dy an la := Blk.alloc hm2 _
          have hxx : Blk (wr.alloc (.cells #[.int .i64 q, .int .i64 x] 73)) wr.heap.size 73 #[.int .i64 q, .int .i64 x] := Blk.new _ _ _
          have hbX : b ≠ wr.heap.size := Nat.ne_of_lt (Blk.lt hb2)
          have hmX : w1.heap.size ≠ wr.heap.size := Nat.ne_of_lt (Blk.lt hm2)
          have y1 : World.cell? (wr.alloc (.cells #[.int .i64 q, .int .i64 x] 73)) ⟨wr.heap.size, 1, none⟩ = some (.int .i64 x) := by rw [Blk.cell hxx]; rfl
          have y0 : World.cell? (wr.alloc (.cells #[.int .i64 q, .int .i64 x] 73)) ⟨wr.heap.size, 0, none⟩ = some (.int .i64 q) := by rw [Blk.cell hxx]; rfl
          have f4 := Blk.frozen hmx 4
          have f3 := Blk.frozen hmx 3
          have g4 := hmx.c4
          have g3 := hmx.c3
          clear hb2 hm2 h
          obtain ⟨ev, hev⟩ : ∃ ev, (if rightB x 1 = true then (0 : Int) else 2) = ev := ⟨_, rfl⟩
          have Hev := hid hev
          clear hev
          go_wp2_with fail
          refine (rright_any _ _ _).mono ?_
          rintro e w' ⟨rfl, rfl⟩
          go_upto_if 85 with fail
          go_cut [14] (fun s14 wx => s14 = .int .i64 ev ∧ (wr.alloc (.cells #[.int .i64 q, .int .i64 x] 73)) = wx)
          case first =>
            by_cases hrx : rightB x 1 = true
            · obtain rfl : 0 = ev := by rw [← Hev.out, if_pos hrx]
              rw [hrx]
              go_wp2_with fail
              go_meet
              exact ⟨rfl, rfl⟩
            · obtain rfl : 2 = ev := by rw [← Hev.out, if_neg hrx]
              rw [show rightB x 1 = false by simpa using hrx]
              clear hrx
              go_wp2_with fail
              go_meet
              exact ⟨rfl, rfl⟩
          case rest =>
            obtain ⟨rfl, rfl⟩ := hcut
            go_upto_block 2 with fail
            go_cut [14] (fun s14 wx => s14 = .int .i64 ev ∧ ∃ an' la', BandsAt wx b st dy an' la' ∧ MarketAt wx w1.heap.size st dy an' la' ∧ Blk wx wr.heap.size 73 #[.int .i64 q, .int .i64 x] ∧ Below w.heap.size w wx)
            case first =>
              by_cases q0 : q = 0
              · have t0 := beqT q0
                clear q0
                by_cases hrx : rightB x 1 = true
                · obtain rfl : 0 = ev := by rw [← Hev.out, if_pos hrx]
                  go_wp2_with fail
                  refine (trade_any b st dy an la x _ ((Blk.far hbx (p := ⟨w1.heap.size, 4, none⟩) hbl (.int .i64 x)))).mono ?_
                  rintro e w3 ⟨rfl, hb3, hK3⟩
                  rw [if_pos hrx] at hb3
                  rw [if_pos hrx, errV_zero]
                  clear hrx
                  have hm3 : MarketAt w3 w1.heap.size st dy an x := Blk.keeps (Blk.set_ hmx 4 _) hK3 (fun h => hbl h.symm)
                  have hx3 : Blk w3 wr.heap.size 73 #[.int .i64 q, .int .i64 x] := Blk.keeps (Blk.far hxx (p := ⟨w1.heap.size, 4, none⟩) (Ne.symm hmX) _) hK3 (fun h => hbX h.symm)
                  have hB3 : Below w.heap.size w w3 := (hBx.setCell (p := ⟨w1.heap.size, 4, none⟩) (by omega) _).trans (hK3.below (fun i hi => by omega) (by simp; omega))
                  go_wp2_with fail
                  refine (bare_any _ 0 (-1) _ _ (hE.below hB3 (Nat.le_refl _)) (.inl ⟨rfl, rfl, rfl⟩)).mono ?_
                  rintro e w4 ⟨rfl, hB4⟩
                  go_wp2_with fail
                  go_meet
                  exact ⟨rfl, an, x, Blk.keep hb3 hB4, Blk.keep hm3 hB4, Blk.keep hx3 hB4, hB3.trans (hB4.mono hB3.size)⟩
                · obtain rfl : 2 = ev := by rw [← Hev.out, if_neg hrx]
                  go_wp2_with fail
                  refine (trade_any b st dy an la x _ hbx).mono ?_
                  rintro e w3 ⟨rfl, hb3, hK3⟩
                  rw [if_neg hrx] at hb3
                  rw [if_neg hrx, errV_two]
                  clear hrx
                  have hm3 : MarketAt w3 w1.heap.size st dy an la := Blk.keeps hmx hK3 (fun h => hbl h.symm)
                  have hx3 : Blk w3 wr.heap.size 73 #[.int .i64 q, .int .i64 x] := Blk.keeps hxx hK3 (fun h => hbX h.symm)
                  have hB3 : Below w.heap.size w w3 := hBx.trans (hK3.below (fun i hi => by omega) (by simp; omega))
                  go_wp2_with fail
                  refine (bare_any _ 2 (-1) _ _ (hE.below hB3 (Nat.le_refl _)) (.inr (.inl ⟨rfl, rfl⟩))).mono ?_
                  rintro e w4 ⟨rfl, hB4⟩
                  go_wp2_with fail
                  go_meet
                  exact ⟨rfl, an, la, Blk.keep hb3 hB4, Blk.keep hm3 hB4, Blk.keep hx3 hB4, hB3.trans (hB4.mono hB3.size)⟩
              · have t0 := beqF q0
                clear q0
                by_cases q1 : q = 1
                · have t1 := beqT q1
                  clear q1
                  by_cases hrx : rightB x 1 = true
                  · obtain rfl : 0 = ev := by rw [← Hev.out, if_pos hrx]
                    go_wp2_with fail
                    go_region
                    go_wp2_with fail
                    refine (fix_any b st dy an la x _ (Blk.drew (Blk.far (Blk.far hbx (p := ⟨w1.heap.size, 4, none⟩) hbl _) (p := ⟨w1.heap.size, 3, none⟩) hbl _))).mono ?_
                    rintro e w3 ⟨rfl, hb3, hK3⟩
                    rw [if_pos hrx, if_pos hrx] at hb3
                    rw [if_pos hrx, errV_zero]
                    clear hrx
                    have hm3 : MarketAt w3 w1.heap.size st dy x x := Blk.keeps (Blk.drew (Blk.set_ (Blk.set_ hmx 4 _) 3 _)) hK3 (fun h => hbl h.symm)
                    have hx3 : Blk w3 wr.heap.size 73 #[.int .i64 q, .int .i64 x] := Blk.keeps (Blk.drew (Blk.far (Blk.far hxx (p := ⟨w1.heap.size, 4, none⟩) (Ne.symm hmX) _) (p := ⟨w1.heap.size, 3, none⟩) (Ne.symm hmX) _)) hK3 (fun h => hbX h.symm)
                    have hB3 : Below w.heap.size w w3 := ((hBx.setCell (p := ⟨w1.heap.size, 4, none⟩) (by omega) _).setCell (p := ⟨w1.heap.size, 3, none⟩) (by omega) _).drew.trans (hK3.below (fun i hi => by omega) (by simp; omega))
                    go_wp2_with fail
                    refine (bare_any _ 0 (-1) _ _ (hE.below hB3 (Nat.le_refl _)) (.inl ⟨rfl, rfl, rfl⟩)).mono ?_
                    rintro e w4 ⟨rfl, hB4⟩
                    go_wp2_with fail
                    go_meet
                    exact ⟨rfl, x, x, Blk.keep hb3 hB4, Blk.keep hm3 hB4, Blk.keep hx3 hB4, hB3.trans (hB4.mono hB3.size)⟩
                  · obtain rfl : 2 = ev := by rw [← Hev.out, if_neg hrx]
                    go_wp2_with fail
                    refine (fix_any b st dy an la x _ hbx).mono ?_
                    rintro e w3 ⟨rfl, hb3, hK3⟩
                    rw [if_neg hrx, if_neg hrx] at hb3
                    rw [if_neg hrx, errV_two]
                    clear hrx
                    have hm3 : MarketAt w3 w1.heap.size st dy an la := Blk.keeps hmx hK3 (fun h => hbl h.symm)
                    have hx3 : Blk w3 wr.heap.size 73 #[.int .i64 q, .int .i64 x] := Blk.keeps hxx hK3 (fun h => hbX h.symm)
                    have hB3 : Below w.heap.size w w3 := hBx.trans (hK3.below (fun i hi => by omega) (by simp; omega))
                    go_wp2_with fail
                    refine (bare_any _ 2 (-1) _ _ (hE.below hB3 (Nat.le_refl _)) (.inr (.inl ⟨rfl, rfl⟩))).mono ?_
                    rintro e w4 ⟨rfl, hB4⟩
                    go_wp2_with fail
                    go_meet
                    exact ⟨rfl, an, la, Blk.keep hb3 hB4, Blk.keep hm3 hB4, Blk.keep hx3 hB4, hB3.trans (hB4.mono hB3.size)⟩
                · have t1 := beqF q1
                  clear q1
                  go_wp2_with fail
                  go_meet
                  exact ⟨rfl, an, la, hbx, hmx, hxx, hBx⟩
            case rest =>
              obtain ⟨rfl, an', la', hbz, hmz, hxz, hBz⟩ := hcut
              clear hbx hmx hxx y0 y1 f4 f3 g4 g3 x0 x1 hBx hB
              have z3 := hmz.c3
              have z4 := hmz.c4
              go_wp2_with fail
              refine (rband_any _ _ _).mono ?_
              rintro e w' ⟨rfl, rfl⟩
              go_wp2_with fail
              refine (rband_any _ _ _).mono ?_
              rintro e w' ⟨rfl, rfl⟩
              go_wp2_with fail
              refine (static_any b _ _ _ _ _ hbz).mono ?_
              rintro e w6 ⟨rfl, hB6⟩
              go_wp2_with fail
              refine (dynamic_any b _ _ _ _ _ (Blk.keep hbz hB6)).mono ?_
              rintro e w7 ⟨rfl, hB7⟩
              have hb7 : BandsAt w7 b st dy an' la' := Blk.keep (Blk.keep hbz hB6) hB7
              have hm7 : MarketAt w7 w1.heap.size st dy an' la' := Blk.keep (Blk.keep hmz hB6) hB7
              have hx7 : Blk w7 wr.heap.size 73 #[.int .i64 q, .int .i64 x] := Blk.keep (Blk.keep hxz hB6) hB7
              have hB8 : Below w.heap.size w w7 := (hBz.trans (hB6.mono hBz.size)).trans (hB7.mono (hBz.trans (hB6.mono hBz.size)).size)
              clear hbz hmz hxz hBz hB6 hB7 z3 z4
              have z3 := hm7.c3
              have z4 := hm7.c4
              have z1 : w7.cell? ⟨wr.heap.size, 1, none⟩ = some (.int .i64 x) := by rw [Blk.cell hx7]; rfl
              go_upto_region 31 with fail
              go_region_held3 (fun w' => BandsAt w' b st dy an' la' ∧ MarketAt w' w1.heap.size st dy an' la' ∧ Below w.heap.size w w' ∧ w'.cell? ⟨w1.heap.size, 3, none⟩ = some (.int .i64 an') ∧ w'.cell? ⟨w1.heap.size, 4, none⟩ = some (.int .i64 la') ∧ w'.cell? ⟨wr.heap.size, 1, none⟩ = some (.int .i64 x))
                (first
                  | exact ⟨hb7, hm7, hB8.drew, z3, z4, z1⟩
                  | assumption
                  | exact kept6 hB9 (by assumption))
                (first
                  | (go_at_call 32; refine (anchor_any b st dy an' la' _ (And.left (by assumption))).mono ?_; rintro e w9 ⟨rfl, rfl⟩)
                  | (go_at_call 33; refine (last_any b st dy an' la' _ (And.left (by assumption))).mono ?_; rintro e w9 ⟨rfl, rfl⟩)
                  | (go_at_call 34; refine (calm_any b st dy an' la' x _ (And.left (by assumption))).mono ?_; rintro e w9 ⟨rfl, hB9⟩)
                  | (go_at_call 35; refine (rcalm_any w1.heap.size st an' x _ (MarketAt.c1 (st := st) (dy := dy) (an := an') (la := la') (held_m (by assumption))) (MarketAt.c3 (st := st) (dy := dy) (an := an') (la := la') (held_m (by assumption)))).mono ?_; rintro e w9 ⟨rfl, hB9⟩)
                  | (go_at_call 36; refine (allows_any b st dy an' la' x _ (And.left (by assumption))).mono ?_; rintro e w9 ⟨rfl, hB9⟩)
                  | (go_at_call 37; refine (rallows_any w1.heap.size st dy an' la' x _ (MarketAt.c1 (st := st) (dy := dy) (an := an') (la := la') (held_m (by assumption))) (MarketAt.c2 (st := st) (dy := dy) (an := an') (la := la') (held_m (by assumption))) (MarketAt.c3 (st := st) (dy := dy) (an := an') (la := la') (held_m (by assumption))) (MarketAt.c4 (st := st) (dy := dy) (an := an') (la := la') (held_m (by assumption)))).mono ?_; rintro e w9 ⟨rfl, hB9⟩))
              go_wp2_with fail
              go_roundg (len - (k + 1))
              case measure => omega
              case rel => exact ⟨k + 1, an', la', by omega, rfl, by go_num, held3 (by assumption)⟩
        · have d1 : decide ((k : Int) < (len : Int)) = false := decF (by omega)
          obtain rfl : k = len := by omega
          go_wp2
          go_ret
          exact ⟨rfl, hB⟩
    · -- no market
      by_cases hr : rightB p 1 = true
      · have hn : st < 0 ∨ 10000 < st ∨ dy < 0 ∨ 10000 < dy := by
          have := rightB_iff.1 hr
          by_cases h1 : bandOk p st = true
          · have h2 : ¬ bandOk p dy = true := fun h2 => by simp [h1, h2] at hok
            rw [bandOk_iff] at h1 h2
            omega
          · rw [bandOk_iff] at h1
            omega
        have Hr := hid hr
        clear hr hok
        by_cases a1 : st < 0
        · have e1 : decide (st < 0) = true := decT a1
          go_wp2_with fail
          refine (rright_any _ _ _).mono ?_
          rintro e w' ⟨rfl, rfl⟩
          rw [Hr.out]
          go_wp2_with fail
          refine (bare_any _ 2 (-1) _ _ (hE.below hB1 (Nat.le_refl _)) (.inr (.inl ⟨rfl, rfl⟩))).mono ?_
          rintro e w4 ⟨rfl, hB4⟩
          go_wp2
          go_ret
          exact ⟨rfl, hB1.trans (hB4.mono hB1.size)⟩
        · have e1 : decide (st < 0) = false := decF a1
          by_cases a2 : 10000 < st
          · have e2 : decide (10000 < st) = true := decT a2
            go_wp2_with fail
            refine (rright_any _ _ _).mono ?_
            rintro e w' ⟨rfl, rfl⟩
            rw [Hr.out]
            go_wp2_with fail
            refine (bare_any _ 2 (-1) _ _ (hE.below hB1 (Nat.le_refl _)) (.inr (.inl ⟨rfl, rfl⟩))).mono ?_
            rintro e w4 ⟨rfl, hB4⟩
            go_wp2
            go_ret
            exact ⟨rfl, hB1.trans (hB4.mono hB1.size)⟩
          · have e2 : decide (10000 < st) = false := decF a2
            by_cases a3 : dy < 0
            · have e3 : decide (dy < 0) = true := decT a3
              go_wp2_with fail
              refine (rright_any _ _ _).mono ?_
              rintro e w' ⟨rfl, rfl⟩
              rw [Hr.out]
              go_wp2_with fail
              refine (bare_any _ 2 (-1) _ _ (hE.below hB1 (Nat.le_refl _)) (.inr (.inl ⟨rfl, rfl⟩))).mono ?_
              rintro e w4 ⟨rfl, hB4⟩
              go_wp2
              go_ret
              exact ⟨rfl, hB1.trans (hB4.mono hB1.size)⟩
            · have e3 : decide (dy < 0) = false := decF a3
              by_cases a4 : 10000 < dy
              · have e4 : decide (10000 < dy) = true := decT a4
                go_wp2_with fail
                refine (rright_any _ _ _).mono ?_
                rintro e w' ⟨rfl, rfl⟩
                rw [Hr.out]
                go_wp2_with fail
                refine (bare_any _ 2 (-1) _ _ (hE.below hB1 (Nat.le_refl _)) (.inr (.inl ⟨rfl, rfl⟩))).mono ?_
                rintro e w4 ⟨rfl, hB4⟩
                go_wp2
                go_ret
                exact ⟨rfl, hB1.trans (hB4.mono hB1.size)⟩
              · have e4 : decide (10000 < dy) = false := decF a4
                omega
      · have hr' : rightB p 1 = false := by simpa using hr
        have Hr := hid hr'
        clear hr hr' hok
        go_wp2_with fail
        refine (rright_any _ _ _).mono ?_
        rintro e w' ⟨rfl, rfl⟩
        rw [Hr.out]
        go_wp2_with fail
        refine (bare_any _ 2 (-1) _ _ (hE.below hB1 (Nat.le_refl _)) (.inr (.inl ⟨rfl, rfl⟩))).mono ?_
        rintro e w4 ⟨rfl, hB4⟩
        go_wp2
        go_ret
        exact ⟨rfl, hB1.trans (hB4.mono hB1.size)⟩
end Go.Proofs.YtakbedckjaammaaDoor
