/-
  An arena that a function has made for itself; the walk of openbellkeep.given.
-/
import Derived.WalkKit
import Derived.WalkLawsBesides
import Derived.WalkSpells
import Derived.Test.YtakbedckjaammaaDoorPutBoth
import Derived.Test.YtakbedckjaammaaDoorIs
namespace Go.Proofs.YtakbedckjaammaaDoor
open Go.RowKit

/-- an arena above all that was there in w0 -/
structure Up (w0 w : World) (a : Nat) (A : Option Addr) (c : Nat) (B : Option Addr) (d : Nat) (ss : List SlotT) (fr : List Int) (most many : Int) : Prop where
  ar : ArenaAt w a A c B d ss fr most many
  up : ∀ i, FpA a A B i → w0.heap.size ≤ i
  below : Below w0.heap.size w0 w
section
variable {w0 w w' : World} {a c d : Nat} {A B : Option Addr} {ss : List SlotT} {fr : List Int} {most many : Int}
theorem Up.keep (h : Up w0 w a A c B d ss fr most many) (hb : Below w.heap.size w w') : Up w0 w' a A c B d ss fr most many :=
  ⟨h.ar.below hb, h.up, h.below.trans (hb.mono h.below.size)⟩
theorem Up.arena (h : Up w0 w a A c B d ss fr most many) {ss' : List SlotT} {fr' : List Int} {many' : Int} (hT : ArenaTo w w' a A B ss' fr' most many') :
    ∃ A' c' B' d', Up w0 w' a A' c' B' d' ss' fr' most many' ∧ Keeps (FpA a A B) w w' := by
  obtain ⟨A', c', B', d', hA', hK, hF⟩ := hT
  have hsz := h.below.size
  refine ⟨A', c', B', d', ⟨hA', fun i hi => ?_, h.below.trans (hK.below h.up hsz)⟩, hK⟩
  rcases hF i hi with h1 | h1
  · exact h.up i h1
  · omega
theorem Up.new_ {most : Int} (hB : Below w0.heap.size w0 w) (ha : w0.heap.size ≤ a) (h : ArenaAt w a none 0 none 0 [] [] most 0) : Up w0 w a none 0 none 0 [] [] most 0 :=
  ⟨h, fun i hi => by
    rcases hi with h | h | h
    · omega
    · simp [blkOf] at h
    · simp [blkOf] at h, hB⟩
end

set_option maxRecDepth 100000 in
set_option maxHeartbeats 1000000 in
theorem given_any (w : World) (hE : ErrType w) : Calls Tryd.prog 16 #[] w fun e w' => e = .returned (.bool true) ∧ Below w.heap.size w w' := by
  go_enter Tryd.func16, Tryd.ntmps16
  go_wp2_with fail
  refine (arenaNew_any 1 w).mono ?_
  rintro e w1 ⟨hB1, ⟨hb, rfl⟩ | ⟨_, a, ha, rfl, hA⟩⟩
  · omega
  · have H1 := hid (Up.new_ hB1 ha hA)
    clear hA
    go_wp2_with fail
    refine (putNew_any w1 a none 0 none 0 [] 1 0 7 H1.out.ar (by omega) (by simp)).mono ?_
    rintro e w2 ⟨rfl, hT⟩
    obtain ⟨A2, c2, B2, d2, hU2, _⟩ := H1.out.arena hT
    have HX := hid (Blk.new w2 42 #[.int .i64 0, .int .i64 0])
    have hU3 := hU2.keep ((Below.refl _ w2).alloc (Nat.le_refl _) (.cells #[.int .i64 0, .int .i64 0] 42))
    have H3 := hid hU3
    have hFp := hid (fun i (hi : FpA a A2 B2 i) => hU2.ar.fp hi)
    clear hT hU2 hU3
    go_wp2_with fail
    refine (arenaTake_any _ a A2 c2 B2 d2 _ [] 1 _ 0 0 H3.out.ar (by simp)).mono ?_
    rintro e w4 ⟨rfl, ⟨hn, _⟩ | ⟨_, hT⟩⟩
    · cases hn
    · obtain ⟨A4, c4, B4, d4, hA4, hK4, hF4⟩ := hT

      have hU4 : Up w w4 a A4 c4 B4 d4 _ _ _ _ := ⟨hA4, fun i hi => (hF4 i hi).elim (fun h => H3.out.up i h) (fun h => Nat.le_trans H3.out.below.size h), H3.out.below.trans (hK4.below H3.out.up H3.out.below.size)⟩
      have hX4 := Blk.keeps HX.out hK4 (fun hi => Nat.lt_irrefl _ (hFp.out _ hi))
      have HX4 := hid hX4
      have hx0 : w4.cell? ⟨w2.heap.size, 0, none⟩ = some (.int .i64 0) := by rw [Blk.cell hX4]; rfl
      have hx1 : w4.cell? ⟨w2.heap.size, 1, none⟩ = some (.int .i64 0) := by rw [Blk.cell hX4]; rfl
      have eG : getS ([] ++ [((7 : Int), (0 : Int), true)]) 0 0 = 7 := by decide
      have eH : hasE ([] ++ [((7 : Int), (0 : Int), true)]) 0 0 = 0 := by decide
      have e1 : RowKit.wrap64 ((0 : Int) + 1) = 1 := by unfold RowKit.wrap64; omega
      have E1 := hid e1
      have eT : takeS ([] ++ [((7 : Int), (0 : Int), true)]) 0 = [((0 : Int), (1 : Int), false)] := by
        show [((0 : Int), RowKit.wrap64 ((0 : Int) + 1), false)] = _
        rw [e1]
      have eM : RowKit.wrap64 (RowKit.wrap64 ((0 : Int) + 1) - 1) = 0 := by rw [e1]; unfold RowKit.wrap64; omega
      rw [eT, eM] at hU4
      have H4 := hid (show Up w w4 a A4 c4 B4 d4 [((0 : Int), (1 : Int), false)] ([] ++ [((0 : Nat) : Int)]) 1 0 from hU4)
      rw [eG, eH, errV_zero]
      clear hU4 hK4 eG eH eT eM e1
      go_wp2_with fail
      refine (putOld_any w4 a A4 c4 B4 d4 _ [] 0 1 0 8 H4.out.ar (by omega) (by simp) (by simp)).mono ?_
      rintro e w5 ⟨rfl, hT⟩
      obtain ⟨A6, c6, B6, d6, hU6, hK6⟩ := H4.out.arena hT
      rw [E1.out] at hU6
      have H6 := hid (show Up w w5 a A6 c6 B6 d6 [((8 : Int), (1 : Int), true)] [] 1 1 from hU6)
      have hne : ¬ FpA a A4 B4 w2.heap.size := by
        intro hi
        rcases hF4 _ hi with h1 | h1
        · exact Nat.lt_irrefl _ (hFp.out _ h1)
        · exact absurd h1 (by simp)
      have hX5 := Blk.keeps HX4.out hK6 hne
      have HX6 := hid (Blk.alloc hX5 (.cells #[.int .i64 0, .int .i64 1] 42))
      have hy0 : (w5.alloc (.cells #[.int .i64 0, .int .i64 1] 42)).cell? ⟨w2.heap.size, 0, none⟩ = some (.int .i64 0) := by rw [Blk.cell HX6.out]; rfl
      have hy1 : (w5.alloc (.cells #[.int .i64 0, .int .i64 1] 42)).cell? ⟨w2.heap.size, 1, none⟩ = some (.int .i64 0) := by rw [Blk.cell HX6.out]; rfl
      have hU7 := H6.out.keep ((Below.refl _ w5).alloc (Nat.le_refl _) (.cells #[.int .i64 0, .int .i64 1] 42))
      have H7 := hid hU7
      clear hT hU6 hK6 hx0 hx1 hX4 hX5 hne hU7 hF4
      go_wp2_with fail
      refine (arenaGet_any _ a A6 c6 B6 d6 _ [] 1 1 0 0 H7.out.ar).mono ?_
      rintro e w8 ⟨rfl, hB8⟩
      rw [show getS [((8 : Int), (1 : Int), true)] 0 0 = 0 by decide, show hasE [((8 : Int), (1 : Int), true)] 0 0 = 7 by decide]
      have z0 : w8.cell? ⟨w5.heap.size, 0, none⟩ = some (.int .i64 0) := (hB8.cell (p := ⟨w5.heap.size, 0, none⟩) (by simp)).trans (by simp)
      have z1 : w8.cell? ⟨w5.heap.size, 1, none⟩ = some (.int .i64 1) := (hB8.cell (p := ⟨w5.heap.size, 1, none⟩) (by simp)).trans (by simp)
      have H8 := hid (H7.out.keep hB8)
      clear hy0 hy1
      go_wp2_with fail
      refine (arenaGet_any _ a A6 c6 B6 d6 _ [] 1 1 0 1 H8.out.ar).mono ?_
      rintro e w9 ⟨rfl, hB9⟩
      rw [show getS [((8 : Int), (1 : Int), true)] 0 1 = 8 by decide, show hasE [((8 : Int), (1 : Int), true)] 0 1 = 0 by decide, errV_zero]
      have H9 := hid (H8.out.keep hB9)
      go_wp2_with fail
      refine (tell_errno 7 _ (hE.below H9.out.below (Nat.le_refl _))).mono ?_
      rintro e w10 ⟨rfl, hB10⟩
      go_wp2
      go_ret
      exact ⟨rfl, (H9.out.keep hB10).below⟩
end Go.Proofs.YtakbedckjaammaaDoor
