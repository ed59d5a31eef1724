/-
  The walk of openbellref.Table: what is wrong with a table, and where.
-/
import Derived.WalkKit
import Derived.WalkLawsBesides
import Derived.WalkSpells
import Derived.Deep.LoopGhost
import Derived.Deep.DeepCutAuto
import Derived.Deep.CutBlock
import Derived.Deep.QuietTactic
import Derived.BigQuiet
import Derived.Laws.Tables
import Derived.Test.YtakbedckjaammaaDoorTable
import Derived.Test.YtakbedckjaammaaDoorIs
import Derived.Test.YtakbedckjaammaaDoorBlk
namespace Go.Proofs.YtakbedckjaammaaDoor
open Go.RowKit

/-- what the document's Table answers: an error's number and a place -/
def TabIs (ps : List (Int × Int)) (f pl : Int) : Prop :=
  (ps.length = 0 ∧ f = 8 ∧ pl = -1) ∨ (20 < ps.length ∧ f = 4 ∧ pl = -1) ∨
  (0 < ps.length ∧ ps.length ≤ 20 ∧ ∃ i : Nat, i < ps.length ∧ (∀ j, j < i → wrongAt ps j = 0) ∧ wrongAt ps i ≠ 0 ∧ f = wrongAt ps i ∧ pl = i) ∨
  (0 < ps.length ∧ ps.length ≤ 20 ∧ (∀ j, j < ps.length → wrongAt ps j = 0) ∧ f = 0 ∧ pl = -1)
def TabPost (ps : List (Int × Int)) (w : World) (e : Ending) (w' : World) : Prop :=
  Below w.heap.size w w' ∧ ∃ f pl, e = .returned (.agg #[.int .i64 f, .int .i64 pl]) ∧ TabIs ps f pl

theorem faultCells {w : World} {g : Nat} {t : TypeId} {a b : Value} (h : Blk w g t #[a, b]) : w.cell? ⟨g, 0, none⟩ = some a ∧ w.cell? ⟨g, 1, none⟩ = some b := ⟨by rw [Blk.cell h]; rfl, by rw [Blk.cell h]; rfl⟩

theorem table_ret {w : World} {a : Act} {Q : Ending → World → Prop} {g : Nat} {cs : Array Value} (hp : a.tmps.getD 2 undef = .pointer (some ⟨g, 0, none⟩)) (hd : a.defers = [])
    (hg : Blk w g 53 cs) (h2 : cs.size = 2) (h : Q (.returned (.agg cs)) w) : bodyPost Tryd.prog Tryd.f22 Q .ret a w :=
  bodyPost_ret (results_cell_row Tryd.results22 a.tmps w g _ cs (0, 0) _ hp hg Tryd.underlying53 rfl (by rw [h2]; kernel_rfl)) hd h

set_option maxRecDepth 100000 in
set_option maxHeartbeats 1000000 in
theorem rtable_any (A : Option Addr) (len cap : Nat) (ps : List (Int × Int)) (w : World) (h : Pairs w A len cap ps) (hm : len ≤ 60) :
    Calls Tryd.prog 22 #[.slice A len cap] w (TabPost ps w) := by
  have hl := h.1
  have hA0 : Below w.heap.size w (w.alloc (.cells #[.int .i64 0, .int .i64 0] 53)) := (Below.refl _ w).alloc (Nat.le_refl _) _
  by_cases h0 : len = 0
  · subst h0
    have HA := hid hA0
    clear hA0
    go_enter Tryd.func22, Tryd.ntmps22
    go_wp2_with fail
    refine (refBare_any _ _).mono ?_
    rintro e w1 ⟨rfl, hB⟩
    have hR : Blk w1 w.heap.size 53 #[.int .i64 0, .int .i64 0] := Blk.keep (Blk.new w _ _) hB
    obtain ⟨c0, c1⟩ := faultCells hR
    have f0 := Blk.frozen hR 0
    have f1 := Blk.frozen hR 1
    go_wp2
    try simp only [Exit.inBlock, Exit.then]
    refine table_ret (g := w.heap.size) (cs := #[.int .i64 8, .int .i64 (-1)]) (by with_unfolding_all rfl) (by with_unfolding_all rfl) (Blk.set_ (Blk.set_ hR 0 _) 1 _) rfl ?_
    exact ⟨((HA.out.trans (hB.mono (by simp))).setCell (by simp) _).setCell (by simp) _, 8, -1, rfl, .inl ⟨hl, rfl, rfl⟩⟩
  · have z0 : ((len : Int) == 0) = false := beqF (by omega)
    by_cases h20 : 20 < len
    · have d20 : decide (20 < (len : Int)) = true := decT (by omega)
      have HA := hid hA0
      clear hA0
      go_enter Tryd.func22, Tryd.ntmps22
      go_wp2_with fail
      refine (refBare_any _ _).mono ?_
      rintro e w1 ⟨rfl, hB⟩
      have hR : Blk w1 w.heap.size 53 #[.int .i64 0, .int .i64 0] := Blk.keep (Blk.new w _ _) hB
      obtain ⟨c0, c1⟩ := faultCells hR
      have f0 := Blk.frozen hR 0
      have f1 := Blk.frozen hR 1
      go_wp2
      try simp only [Exit.inBlock, Exit.then]
      refine table_ret (g := w.heap.size) (cs := #[.int .i64 4, .int .i64 (-1)]) (by with_unfolding_all rfl) (by with_unfolding_all rfl) (Blk.set_ (Blk.set_ hR 0 _) 1 _) rfl ?_
      exact ⟨((HA.out.trans (hB.mono (by simp))).setCell (by simp) _).setCell (by simp) _, 4, -1, rfl, .inr (.inl ⟨by omega, rfl, rfl⟩)⟩
    · have d20 : decide (20 < (len : Int)) = false := decF (by omega)
      obtain ⟨b, off, rfl, hblt, hc0⟩ := h.2 (by omega)
      clear hc0
      have Hl := hid hl
      clear hl
      go_enter Tryd.func22, Tryd.ntmps22
      go_wp2
      go_loopg [18] len (fun g i wx => ∃ k : Nat, k ≤ len ∧ g = len - k ∧ i = .int .i64 k ∧ Below w.heap.size w wx ∧ Blk wx w.heap.size 53 #[.int .i64 0, .int .i64 0] ∧ ∀ j, j < k → wrongAt ps j = 0)
      case atStart => exact ⟨0, Nat.zero_le _, rfl, rfl, hA0, Blk.new _ _ _, fun j hj => by omega⟩
      case round =>
        obtain ⟨k, hk, rfl, rfl, hB, hR, hall⟩ := hrel
        have Hall := hid hall
        clear hall hA0
        have hsz := Blk.lt hR
        by_cases hkl : k < len
        · have d1 : decide ((k : Int) < (len : Int)) = true := decT (by omega)
          have hP := hid (h.below hB (Nat.le_refl _))
          obtain ⟨x0, x1⟩ := hP.out.at_ hkl
          obtain ⟨ev, hev⟩ : ∃ ev, wrongAt ps k = ev := ⟨_, rfl⟩
          have Hev := hid hev
          clear hev
          have Hq := hid (show ((ps.getD k (0, 0)).1, (ps.getD k (0, 0)).2) = ps.getD k (0, 0) from rfl)
          generalize (ps.getD k (0, 0)).1 = q at x0 Hq
          generalize (ps.getD k (0, 0)).2 = x at x1 Hq
          go_upto_if 24 with fail
          go_cut [5, 6, 7] (fun s5 s6 s7 wx => s5 = .int .i64 ev ∧ Blk wx w.heap.size 53 #[.int .i64 0, .int .i64 0] ∧ Below w.heap.size w wx)
          case first =>
            by_cases hk0 : k = 0
            · have zk : ((k : Int) == 0) = true := beqT (by omega)
              have Hv : Hid (ev = if (q, x) = (0, 1) then 0 else 1) := hid (by rw [← Hev.out, hk0, Hq.out, hk0]; rfl)
              clear hk0
              by_cases hx : q = 0
              · by_cases hy : x = 1
                · obtain rfl : 0 = ev := by rw [Hv.out, if_pos (by rw [hx, hy])]
                  have hx' := bneF hx
                  have hy' := bneF hy
                  clear hx hy
                  go_wp2_with fail
                  go_meet
                  exact ⟨rfl, Blk.alloc hR _, hB.alloc hB.size _⟩
                · obtain rfl : 1 = ev := by rw [Hv.out, if_neg (by simp [hy])]
                  have hx' := bneF hx
                  have hy' := bneT hy
                  clear hx hy
                  go_wp2_with fail
                  go_meet
                  exact ⟨rfl, Blk.alloc hR _, hB.alloc hB.size _⟩
              · obtain rfl : 1 = ev := by rw [Hv.out, if_neg (by simp [hx])]
                have hx' := bneT hx
                clear hx
                go_wp2_with fail
                go_meet
                exact ⟨rfl, Blk.alloc hR _, hB.alloc hB.size _⟩
            · obtain ⟨j, hj⟩ : ∃ j, k = j + 1 := ⟨k - 1, by omega⟩
              have zk : ((k : Int) == 0) = false := beqF (by omega)
              have i1 : IntKind.i64.wrap ((k : Int) - 1) = (j : Int) := by rw [IntKind.wrap_i64]; omega
              have i4 : IntKind.i64.wrap (j : Int) = (j : Int) := by rw [IntKind.wrap_i64]; omega
              have i2 : (0 : Int) ≤ (j : Int) := by omega
              have i3 : (j : Int) < (len : Int) := by omega
              obtain ⟨y0, y1⟩ := hP.out.at_ (i := j) (by omega)
              have Hv : Hid (ev = wrongI (ps.getD j (0, 0)).1 (ps.getD j (0, 0)).2 q x) := hid (by
                have e1 := congrArg Prod.fst Hq.out
                have e2 := congrArg Prod.snd Hq.out
                simp only at e1 e2
                rw [← Hev.out, e1, e2, hj]; rfl)
              generalize (ps.getD j (0, 0)).1 = a0 at y0 Hv
              generalize (ps.getD j (0, 0)).2 = p0 at y1 Hv
              replace y0 := (World.cell?_alloc_lt wr (.cells #[.int .i64 q, .int .i64 x] 107) ⟨b, off + j * 2, none⟩ (by show b < _; have := hB.size; omega)).trans y0
              replace y1 := (World.cell?_alloc_lt wr (.cells #[.int .i64 q, .int .i64 x] 107) ⟨b, off + j * 2 + 1, none⟩ (by show b < _; have := hB.size; omega)).trans y1
              clear hk0
              have Hj := hid hj
              clear hj
              go_upto_region 13 with fail
              go_cut [7] (fun s7 wx => s7 = .bool (anyL (followsL p0) x) ∧ (wr.alloc (.cells #[.int .i64 q, .int .i64 x] 107)) = wx)
              case first =>
                by_cases a1 : p0 = 1
                · have g1 := beqT a1
                  have n2 := beqF (show ¬ p0 = 2 by omega)
                  have n3 := beqF (show ¬ p0 = 3 by omega)
                  have n5 := beqF (show ¬ p0 = 5 by omega)
                  by_cases b2 : x = 2
                  · have h2 := beqT b2
                    have E := hid (show true = anyL (followsL p0) x by rw [a1, b2]; rfl)
                    clear a1 b2
                    go_wp2_with fail
                    go_meet
                    exact ⟨congrArg Value.bool E.out, rfl⟩
                  · have h2 := beqF b2
                    have E := hid (show false = anyL (followsL p0) x by rw [a1]; simp [anyL, followsL]; omega)
                    clear a1 b2
                    go_wp2_with fail
                    go_meet
                    exact ⟨congrArg Value.bool E.out, rfl⟩
                · have n1 := beqF a1
                  by_cases a2 : p0 = 2
                  · have g1 := beqT a2
                    have n3 := beqF (show ¬ p0 = 3 by omega)
                    have n5 := beqF (show ¬ p0 = 5 by omega)
                    by_cases b2 : x = 3
                    · have h2 := beqT b2
                      have E := hid (show true = anyL (followsL p0) x by rw [a2, b2]; rfl)
                      clear a1 a2 b2
                      go_wp2_with fail
                      go_meet
                      exact ⟨congrArg Value.bool E.out, rfl⟩
                    · have h2 := beqF b2
                      have E := hid (show false = anyL (followsL p0) x by rw [a2]; simp [anyL, followsL]; omega)
                      clear a1 a2 b2
                      go_wp2_with fail
                      go_meet
                      exact ⟨congrArg Value.bool E.out, rfl⟩
                  · have n2 := beqF a2
                    by_cases a3 : p0 = 3
                    · have g1 := beqT a3
                      have n5 := beqF (show ¬ p0 = 5 by omega)
                      by_cases b2 : x = 5
                      · have h2 := beqT b2
                        have E := hid (show true = anyL (followsL p0) x by rw [a3, b2]; rfl)
                        clear a1 a2 a3 b2
                        go_wp2_with fail
                        go_meet
                        exact ⟨congrArg Value.bool E.out, rfl⟩
                      · have h2 := beqF b2
                        by_cases b3 : x = 7
                        · have h3 := beqT b3
                          have E := hid (show true = anyL (followsL p0) x by rw [a3, b3]; rfl)
                          clear a1 a2 a3 b2 b3
                          go_wp2_with fail
                          go_meet
                          exact ⟨congrArg Value.bool E.out, rfl⟩
                        · have h3 := beqF b3
                          have E := hid (show false = anyL (followsL p0) x by rw [a3]; simp [anyL, followsL]; omega)
                          clear a1 a2 a3 b2 b3
                          go_wp2_with fail
                          go_meet
                          exact ⟨congrArg Value.bool E.out, rfl⟩
                    · have n3 := beqF a3
                      by_cases a5 : p0 = 5
                      · have g1 := beqT a5
                        by_cases b2 : x = 7
                        · have h2 := beqT b2
                          have E := hid (show true = anyL (followsL p0) x by rw [a5, b2]; rfl)
                          clear a1 a2 a3 a5 b2
                          go_wp2_with fail
                          go_meet
                          exact ⟨congrArg Value.bool E.out, rfl⟩
                        · have h2 := beqF b2
                          have E := hid (show false = anyL (followsL p0) x by rw [a5]; simp [anyL, followsL]; omega)
                          clear a1 a2 a3 a5 b2
                          go_wp2_with fail
                          go_meet
                          exact ⟨congrArg Value.bool E.out, rfl⟩
                      · have n5 := beqF a5
                        have E := hid (show false = anyL (followsL p0) x by simp [anyL, followsL, a1, a2, a3, a5])
                        clear a1 a2 a3 a5
                        go_wp2_with fail
                        go_meet
                        exact ⟨congrArg Value.bool E.out, rfl⟩
              case rest =>
                obtain ⟨rfl, rfl⟩ := hcut
                cases hany : anyL (followsL p0) x
                · obtain rfl : 1 = ev := by rw [Hv.out, wrongI_1 hany]
                  clear hany
                  go_wp2_with fail
                  go_meet
                  exact ⟨rfl, Blk.alloc hR _, hB.alloc hB.size _⟩
                · by_cases t1 : q ≤ a0
                  · obtain rfl : 10 = ev := by rw [Hv.out, wrongI_10 hany t1]
                    have t1' := decT t1
                    clear hany
                    go_wp2_with fail
                    go_quiet (fail)
                    go_wp2_with fail
                    go_meet
                    exact ⟨rfl, Blk.drewN (Blk.alloc hR _) _, drewN_below (hB.alloc hB.size _) _⟩
                  · have t1' := decF t1
                    by_cases t2 : 1000000 < q
                    · obtain rfl : 2 = ev := by rw [Hv.out, wrongI_2 hany (by omega) t2]
                      have t2' := decT t2
                      clear hany t1
                      go_wp2_with fail
                      go_quiet (fail)
                      go_wp2_with fail
                      go_meet
                      exact ⟨rfl, Blk.drewN (Blk.alloc hR _) _, drewN_below (hB.alloc hB.size _) _⟩
                    · obtain rfl : 0 = ev := by rw [Hv.out, wrongI_0 hany (by omega) (by omega)]
                      have t2' := decF t2
                      clear hany t1 t2
                      go_wp2_with fail
                      go_quiet (fail)
                      go_wp2_with fail
                      go_meet
                      exact ⟨rfl, Blk.drewN (Blk.alloc hR _) _, drewN_below (hB.alloc hB.size _) _⟩
          case rest =>
            obtain ⟨rfl, hR2, hB2⟩ := hcut
            by_cases hz : ev = 0
            · obtain rfl : 0 = ev := hz.symm
              go_wp2_with fail
              go_roundg (len - (k + 1))
              case measure => omega
              case rel =>
                refine ⟨k + 1, by omega, rfl, by go_num, hB2, hR2, fun j hj => ?_⟩
                rcases Nat.lt_or_eq_of_le (Nat.le_of_lt_succ hj) with h | h
                · exact Hall.out j h
                · rw [h]; exact Hev.out
            · have hz' := bneT hz
              have Hz := hid hz
              clear hz
              obtain ⟨c0, c1⟩ := faultCells hR2
              have f0 := Blk.frozen hR2 0
              have f1 := Blk.frozen hR2 1
              go_wp2
              try simp only [Exit.inBlock, Exit.then]
              refine table_ret (g := w.heap.size) (cs := #[.int .i64 ev, .int .i64 k]) (by with_unfolding_all rfl) (by with_unfolding_all rfl) (Blk.set_ (Blk.set_ hR2 0 _) 1 _) rfl ?_
              exact ⟨(hB2.setCell (by simp) _).setCell (by simp) _, ev, k, rfl, .inr (.inr (.inl ⟨by have := Hl.out; omega, by have := Hl.out; omega, k, by have := Hl.out; omega, Hall.out, by rw [Hev.out]; exact Hz.out, Hev.out.symm, rfl⟩))⟩
        · obtain rfl : k = len := by omega
          go_wp2_with fail
          refine (refBare_any _ _).mono ?_
          rintro e w1 ⟨rfl, hB1⟩
          have hR1 : Blk w1 w.heap.size 53 #[.int .i64 0, .int .i64 0] := Blk.keep hR hB1
          obtain ⟨c0, c1⟩ := faultCells hR1
          have f0 := Blk.frozen hR1 0
          have f1 := Blk.frozen hR1 1
          go_wp2
          try simp only [Exit.inBlock, Exit.then]
          refine table_ret (g := w.heap.size) (cs := #[.int .i64 0, .int .i64 (-1)]) (by with_unfolding_all rfl) (by with_unfolding_all rfl) (Blk.set_ (Blk.set_ hR1 0 _) 1 _) rfl ?_
          exact ⟨((hB.trans (hB1.mono hB.size)).setCell (by simp) _).setCell (by simp) _, 0, -1, rfl, .inr (.inr (.inr ⟨by have := Hl.out; omega, by have := Hl.out; omega, fun j hj => Hall.out j (by have := Hl.out; omega), rfl, rfl⟩))⟩
end Go.Proofs.YtakbedckjaammaaDoor
