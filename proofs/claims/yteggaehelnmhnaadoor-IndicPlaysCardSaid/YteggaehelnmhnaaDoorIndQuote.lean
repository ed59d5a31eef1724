/-
  The walks of Indic.Quote and of openbellref.Right at one lot.
-/
import Derived.WalkKit
import Derived.WalkLawsBesides
import Derived.WalkSpells
import Derived.Deep.QuietTactic
import Derived.BigQuiet
import Derived.Deep.DeepCutAuto
import Derived.Deep.CutBlock
import Derived.Laws.ResultCell
import Derived.Test.YteggaehelnmhnaaDoorIndPoints
import Derived.Test.YteggaehelnmhnaaDoorChoose
import Derived.Test.YteggaehelnmhnaaDoorRefCurve
namespace Go.Proofs.YteggaehelnmhnaaDoor
open Go.RowKit
set_option linter.unusedVariables false

theorem quote_ret {w : World} {a : Act} {Q : Ending → World → Prop} {g : Nat} {cs : Array Value} (hp : a.tmps.getD 4 undef = .pointer (some ⟨g, 0, none⟩)) (hd : a.defers = [])
    (hg : Blk w g 46 cs) (h2 : cs.size = 3) (h : Q (.returned (.agg cs)) w) : bodyPost Tryd.prog Tryd.f11 Q .ret a w :=
  bodyPost_ret (results_cell_row Tryd.results11 a.tmps w g _ cs (0, 0) _ hp hg Tryd.underlying46 rfl (by rw [h2]; kernel_rfl)) hd h

set_option maxRecDepth 100000 in
set_option maxHeartbeats 1000000 in
theorem quote_any (w : World) (X : Nat) (t : TypeId) (cs : Array Value) (o : Nat) (A : Option Addr) (c : Nat) (lv : List Tri) (bu se : Int) (h : IndM w X t cs o A c lv bu se) (hs : Mild lv bu se) (r : Int) (hr : -1099511627776 ≤ r ∧ r ≤ 1099511627776) (hN : ∀ p ∈ pointsI lv bu se r, Near p) (hl : (pointsI lv bu se r).length ≤ 100000) :
    Calls Tryd.prog 11 #[.pointer (some ⟨X, o, none⟩), .int .i64 r] w fun e w' => e = .returned (aggT (chooseP (pointsI lv bu se r) r)) ∧ Below w.heap.size w w' := by
  have hb1 : Below w.heap.size w (w.alloc (.cells #[.int .i64 0, .int .i64 0, .int .i64 0] 46)) := (Below.refl _ w).alloc (Nat.le_refl _) _
  have HP := hid (points_any _ X t cs o A c lv bu se (h.below hb1) hs r)
  have HC := hid (fun (W : World) (A : Option Addr) (c : Nat) (hR : RowAt W A (pointsI lv bu se r).length c 60 3 (flat encT (pointsI lv bu se r))) => choose_any A _ c r hr (pointsI lv bu se r) W (ElemsAt.of_row encT_length (by omega) hR) hN hl)
  have HB := hid hb1
  have HX := hid (Blk.new w 46 #[.int .i64 0, .int .i64 0, .int .i64 0])
  obtain ⟨⟨t0, t1, t2⟩, ET⟩ : ∃ q, Hid (chooseP (pointsI lv bu se r) r = q) := ⟨_, hid rfl⟩
  rw [ET.out]
  clear h hs hN hl hb1
  go_enter Tryd.func11, Tryd.ntmps11
  go_wp2_with fail
  refine HP.out.mono ?_
  rintro e w2 ⟨hb2, A2, c2, rfl, hR2⟩
  have hC := HC.out w2 A2 c2 hR2
  rw [ET.out] at hC
  unfold aggT at hC
  dsimp only at hC
  have HC2 := hid hC
  have HB2 := hid hb2
  clear hC hb2 hR2 HC HP
  go_wp2_with fail
  refine HC2.out.mono ?_
  rintro e w3 ⟨rfl, hb3⟩
  have hX3 := Blk.keep (Blk.keep HX.out HB2.out) hb3
  have hf0 := Blk.frozen hX3 0
  have hf1 := Blk.frozen hX3 1
  have hf2 := Blk.frozen hX3 2
  obtain ⟨z0, z1, z2⟩ : w3.cell? ⟨w.heap.size, 0, none⟩ = some (.int .i64 0) ∧ w3.cell? ⟨w.heap.size, 1, none⟩ = some (.int .i64 0) ∧ w3.cell? ⟨w.heap.size, 2, none⟩ = some (.int .i64 0) := ⟨by rw [Blk.cell hX3]; rfl, by rw [Blk.cell hX3]; rfl, by rw [Blk.cell hX3]; rfl⟩
  have HX3 := hid hX3
  have HB3 := hid (HB.out.trans ((HB2.out.trans (hb3.mono HB2.out.size)).mono HB.out.size))
  clear hX3 hb3 HC2
  go_wp2_with fail
  refine quote_ret (g := w.heap.size) (cs := #[.int .i64 t0, .int .i64 t1, .int .i64 t2]) (by with_unfolding_all rfl) (by with_unfolding_all rfl) (Blk.set_ (Blk.set_ (Blk.set_ HX3.out 0 _) 1 _) 2 _) rfl ?_
  exact ⟨rfl, ((HB3.out.setCell (Nat.le_refl _) _).setCell (Nat.le_refl _) _).setCell (Nat.le_refl _) _⟩

set_option maxHeartbeats 400000 in
theorem right1_any (p : Int) (w : World) : Calls Tryd.prog 4 #[.int .i64 p, .int .i64 1] w fun e w' => e = .returned (.bool (decide (1 ≤ p) && decide (p ≤ 1000000))) ∧ w = w' := by
  cases h1 : (decide (1 ≤ p) && decide (p ≤ 1000000)) with
  | true =>
    have H1 := hid h1
    clear h1
    go_enter Tryd.func4, Tryd.ntmps4
    go_wp2_with fail
    refine (refIn_any _ _ _ _).mono ?_
    rintro e w' ⟨rfl, rfl⟩
    rw [H1.out]
    go_wp2_with fail
    refine (refIn_any _ _ _ _).mono ?_
    rintro e w' ⟨rfl, rfl⟩
    go_wp2
    go_ret
    exact ⟨rfl, rfl⟩
  | false =>
    have H1 := hid h1
    clear h1
    go_enter Tryd.func4, Tryd.ntmps4
    go_wp2_with fail
    refine (refIn_any _ _ _ _).mono ?_
    rintro e w' ⟨rfl, rfl⟩
    rw [H1.out]
    go_wp2
    go_ret
    exact ⟨rfl, rfl⟩
end Go.Proofs.YteggaehelnmhnaaDoor
