/-
  Walks of book.New and Book.Many.
-/
import Derived.WalkKit
import Derived.WalkLawsBesides
import Derived.WalkSpells
import Derived.Maps.Own
import Derived.Test.YtkcgchpbjegneaaGreatDoorBookAt
namespace Go.Proofs.YtkcgchpbjegneaaGreatDoor
open Go.RowKit
set_option linter.unusedVariables false

def noH : HS := ⟨none, 0, none, 0, [], []⟩
set_option maxRecDepth 100000 in
set_option maxHeartbeats 1000000 in
theorem bookNew_any (w : World) : Calls Tryz.prog 41 #[] w fun e w' => Below w.heap.size w w' ∧ ∃ b G, (∀ i, G i → w.heap.size ≤ i) ∧ e = .returned (.pointer (some ⟨b, 0, none⟩)) ∧ BookAt w' b G [] [] := by
  have hnew : Calls Tryz.prog 96 #[.int .i64 100] w _ := oar_new w 100 (by omega) (by omega)
  have HN := hid hnew
  have hmm := @run_makeMap Tryz.prog
  clear hnew
  go_enter Tryz.func41, Tryz.ntmps41
  go_wp2_with (go_at_call 96; refine HN.out.mono ?_; rintro e w1 ⟨hB, a, F, hF, rfl, hA⟩; have HB := hid hB; have HF := hid hF; have HA := hid hA; clear hB hF hA)
  go_ret
  have hb1 : Below w1.heap.size w1 (w1.alloc (.map #[] 0)) := (Below.refl _ _).alloc (Nat.le_refl _) _
  have hb2 : Below w1.heap.size w1 ((w1.alloc (.map #[] 0)).alloc (.cells (bookCells a w1.heap.size fun _ => noH) 153)) := hb1.alloc (by simp) _
  have hA2 := HA.out.below hb2
  have hM : IMap ((w1.alloc (.map #[] 0)).alloc (.cells (bookCells a w1.heap.size fun _ => noH) 153)) w1.heap.size (fun _ => none) := (IMap.made w1).alloc _
  have hsz := HB.out.size
  refine ⟨HB.out.trans (hb2.mono hsz), w1.heap.size + 1, BFp (w1.heap.size + 1) w1.heap.size F (fun _ => noH), ?_, by simp, a, F, _, 0, w1.heap.size, _, fun _ => noH, fun i => if i = w1.heap.size + 1 then 1 else if i = w1.heap.size then 2 else 3, ⟨?_, hA2, hM, ?_, if_pos rfl, ?_, ?_⟩, ?_, fun i => Iff.rfl, rfl, rfl⟩
  · rintro i (rfl | rfl | hi | hi | hi)
    · omega
    · exact hsz
    · exact HF.out i hi
    · rcases hi with hi | hi | ⟨q, hq, _⟩
      · cases hi
      · cases hi
      · cases hq
    · rcases hi with hi | hi | ⟨q, hq, _⟩
      · cases hi
      · cases hi
      · cases hq
  · have := Blk.new (w1.alloc (.map #[] 0)) 153 (bookCells a w1.heap.size fun _ => noH)
    rwa [World.size_alloc] at this
  · intro s hs
    exact ⟨⟨rfl, .inl ⟨rfl, rfl⟩⟩, ⟨rfl, .inl ⟨rfl, rfl⟩⟩, fun q hq => (by cases hq), fun g hg => (by cases hg), fun g hg => (by cases hg), fun q hq => (by cases hq), List.nodup_nil⟩
  · rw [if_neg (by omega), if_pos rfl]
  · intro i hi
    have := HA.out.fp hi
    rw [if_neg (by omega), if_neg (by omega)]
  · exact ⟨fun s hs => ⟨fun x hx => (by cases hx), fun q hq => (by cases hq), List.Pairwise.nil⟩, fun s hs q hq => (by cases hq), fun x hx => (by cases hx), fun x hx => (by cases hx), fun k v hv => (by cases hv), List.nodup_nil, rfl, fun x hx => (by cases hx)⟩

set_option maxHeartbeats 1000000 in
theorem bookMany_any (w : World) (b : Nat) (G : Nat → Prop) (L1 L2 : List Ord5) (h : BookAt w b G L1 L2) : Calls Tryz.prog 51 #[.pointer (some ⟨b, 0, none⟩)] w fun e w' => e = .returned (.int .i64 (L1.length + L2.length : Nat)) ∧ w = w' := by
  obtain ⟨a, F, M, n, r, f, H, reg, hM, hS, hG, rfl, rfl⟩ := h
  have z0 := hM.cells.1
  have HA := hid hM.ar
  have HE : Hid (n = (H 1).L.length + (H 2).L.length) := hid (by rw [hS.cnt]; simp [allH, HS.L, ordL])
  clear hM hS hG
  go_enter Tryz.func51, Tryz.ntmps51
  go_wp2_with (go_at_call 104; refine (oar_many HA.out).mono ?_; rintro e w' ⟨rfl, rfl⟩)
  go_ret
  exact ⟨ret_int (by rw [HE.out]), rfl⟩
end Go.Proofs.YtkcgchpbjegneaaGreatDoor
