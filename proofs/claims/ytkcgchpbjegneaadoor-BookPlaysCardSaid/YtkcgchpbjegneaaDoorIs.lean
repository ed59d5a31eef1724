/-
  Walks of plain.Place, openbelllaw.is and bare, by what an error tells (ErrIs).
-/
import Derived.WalkKit
import Derived.WalkLawsBesides
import Derived.WalkSpells
import Derived.Deep.QuietTactic
import Derived.BigQuiet
import Derived.Test.YtkcgchpbjegneaaDoorErr
namespace Go.Proofs.YtkcgchpbjegneaaDoor
open Go.RowKit

/-- v is an error that tells errno n at place pl -/
def ErrIs (w : World) (v : Value) (n pl : Int) : Prop :=
  (v = .nilIface ∧ n = 0 ∧ pl = -1) ∨ (v = .iface 37 (.int .i64 n) ∧ pl = -1) ∨
  (∃ g, v = .iface 117 (.pointer (some ⟨g, 0, none⟩)) ∧ w.cell? ⟨g, 0, none⟩ = some (.int .i64 n) ∧ w.cell? ⟨g, 1, none⟩ = some (.int .i64 pl))

theorem ErrIs.below {w w' : World} {v : Value} {n pl : Int} (h : ErrIs w v n pl) (hb : Below w.heap.size w w') : ErrIs w' v n pl := by
  rcases h with h | h | ⟨g, h1, h2, h3⟩
  · exact .inl h
  · exact .inr (.inl h)
  · exact .inr (.inr ⟨g, h1, (hb.cell (p := ⟨g, 0, none⟩) (World.block_lt_of_cell? w ⟨g, 0, none⟩ h2)).trans h2, (hb.cell (p := ⟨g, 1, none⟩) (World.block_lt_of_cell? w ⟨g, 0, none⟩ h2)).trans h3⟩)

theorem assertAA (v : Value) (w : World) : (Instr.typeAssert (.iface 117 v) 35 117 true).run Tryd.prog w = .ok (.tuple #[v, .bool true]) w := by kernel_rfl
theorem assertEA (v : Value) (w : World) : (Instr.typeAssert (.iface 37 v) 35 117 true).run Tryd.prog w = .ok (.tuple #[.pointer none, .bool false]) w := by kernel_rfl

set_option maxRecDepth 100000 in
set_option maxHeartbeats 400000 in
theorem place_any (v : Value) (n pl : Int) (w : World) (hE : ErrType w) (h : ErrIs w v n pl) :
    Calls Tryd.prog 40 #[v] w fun e w' => e = .returned (.tuple #[.int .i64 n, .int .i64 pl]) ∧ Below w.heap.size w w' := by
  rcases h with ⟨rfl, rfl, rfl⟩ | ⟨rfl, rfl⟩ | ⟨g, rfl, h2, h3⟩
  · go_enter Tryd.func40, Tryd.ntmps40
    go_wp2_with fail
    refine (tell_nil _).mono ?_
    rintro e w1 ⟨rfl, rfl⟩
    go_wp2
    refine wp_loop_rounds 1 ?_
    rw [rounds_succ]
    go_wp2
    go_ret2
    exact ⟨rfl, Below.refl _ _⟩
  · have nU := noUnwrapE
    have aE := assertEA
    go_enter Tryd.func40, Tryd.ntmps40
    go_wp2_with fail
    refine (tell_errno n _ hE).mono ?_
    rintro e w1 ⟨rfl, hB⟩
    go_wp2
    refine wp_loop_rounds 1 ?_
    rw [rounds_succ]
    go_wp2
    go_ret2
    exact ⟨rfl, hB⟩
  · have hgl := World.block_lt_of_cell? w _ h2
    have aA := assertAA
    go_enter Tryd.func40, Tryd.ntmps40
    go_wp2_with fail
    refine (tell_at g n _ hE h2).mono ?_
    rintro e w1 ⟨rfl, hB⟩
    have c3 := (hB.cell (p := ⟨g, 1, none⟩) hgl).trans h3
    go_wp2
    refine wp_loop_rounds 1 ?_
    rw [rounds_succ]
    go_wp2
    go_quiet (fail)
    go_wp2
    go_ret2
    exact ⟨rfl, drewN_below hB _⟩

set_option maxHeartbeats 400000 in
theorem is_any (v : Value) (n pl f p : Int) (w : World) (hE : ErrType w) (h : ErrIs w v n pl) :
    Calls Tryd.prog 19 #[v, .agg #[.int .i64 f, .int .i64 p]] w fun e w' => e = .returned (.bool (n == f && pl == p)) ∧ Below w.heap.size w w' := by
  have hA : Below w.heap.size w (w.alloc (.cells #[.int .i64 f, .int .i64 p] 65)) := (Below.refl _ w).alloc (Nat.le_refl _) _
  have HE := hid (hE.below hA (Nat.le_refl _))
  have HI := hid (h.below hA)
  by_cases h1 : n = f
  · have t1 := beqT h1
    clear h1
    go_enter Tryd.func19, Tryd.ntmps19
    go_wp2_with fail
    refine (place_any v n pl _ HE.out HI.out).mono ?_
    rintro e w1 ⟨rfl, hB⟩
    have c0 : w1.cell? ⟨w.heap.size, 0, none⟩ = some (.int .i64 f) := (hB.cell (p := ⟨w.heap.size, 0, none⟩) (by simp)).trans (by simp)
    have c1 : w1.cell? ⟨w.heap.size, 1, none⟩ = some (.int .i64 p) := (hB.cell (p := ⟨w.heap.size, 1, none⟩) (by simp)).trans (by simp)
    go_wp2
    go_ret
    exact ⟨ret_bool (by simp [t1]), hA.trans (hB.mono (by simp))⟩
  · have t1 := beqF h1
    clear h1
    go_enter Tryd.func19, Tryd.ntmps19
    go_wp2_with fail
    refine (place_any v n pl _ HE.out HI.out).mono ?_
    rintro e w1 ⟨rfl, hB⟩
    have c0 : w1.cell? ⟨w.heap.size, 0, none⟩ = some (.int .i64 f) := (hB.cell (p := ⟨w.heap.size, 0, none⟩) (by simp)).trans (by simp)
    have c1 : w1.cell? ⟨w.heap.size, 1, none⟩ = some (.int .i64 p) := (hB.cell (p := ⟨w.heap.size, 1, none⟩) (by simp)).trans (by simp)
    go_wp2
    go_ret
    exact ⟨ret_bool (by simp [t1]), hA.trans (hB.mono (by simp))⟩

theorem refBare_any (f : Int) (w : World) : Calls Tryd.prog 20 #[.int .i64 f] w fun e w' => e = .returned (.agg #[.int .i64 f, .int .i64 (-1)]) ∧ Below w.heap.size w w' := by
  go_enter Tryd.func20, Tryd.ntmps20
  go_wp2
  exact bodyPost_ret (v := .agg #[.int .i64 f, .int .i64 (-1)]) (by simp [results, Tryd.results20, go_sem]) rfl ⟨rfl, (Below.refl _ w).alloc (Nat.le_refl _) _⟩

set_option maxHeartbeats 400000 in
theorem bare_any (v : Value) (n pl f : Int) (w : World) (hE : ErrType w) (h : ErrIs w v n pl) :
    Calls Tryd.prog 5 #[v, .int .i64 f] w fun e w' => e = .returned (.bool (n == f && pl == -1)) ∧ Below w.heap.size w w' := by
  go_enter Tryd.func5, Tryd.ntmps5
  go_wp2_with fail
  refine (refBare_any f _).mono ?_
  rintro e w1 ⟨rfl, hB⟩
  go_wp2_with fail
  refine (is_any v n pl f (-1) _ (hE.below hB (Nat.le_refl _)) (h.below hB)).mono ?_
  rintro e w2 ⟨rfl, hB2⟩
  go_wp2
  go_ret
  exact ⟨rfl, hB.trans (hB2.mono hB.size)⟩
end Go.Proofs.YtkcgchpbjegneaaDoor
