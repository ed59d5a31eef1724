/-
  What a round of openbellkeep.ArenaStale holds: the arena, the handles, which of them are there.
-/
import Derived.Test.YtakbedckjaammaaDoorGiven
import Derived.Test.YtakbedckjaammaaDoorStalePlain
import Derived.Test.YtakbedckjaammaaDoorPairs
namespace Go.Proofs.YtakbedckjaammaaDoor
open Go.RowKit

def boolCells (l : List Bool) : List Value := l.map fun b => .bool b

structure StaleAt (w0 w : World) (a : Nat) (A : Option Addr) (c : Nat) (B : Option Addr) (d : Nat) (P : Option Addr) (pc : Nat) (Q : Option Addr) (qc : Nat) (ss : List SlotT) (fr : List Int) (most many : Int) (hs : List (Int × Int)) (th : List Bool) : Prop where
  up : Up w0 w a A c B d ss fr most many
  hrow : RowAt w P hs.length pc 42 2 (pairCells hs)
  trow : RowAt w Q th.length qc 4 1 (boolCells th)
  hup : ∀ g, blkOf P = some g → w0.heap.size ≤ g
  tup : ∀ g, blkOf Q = some g → w0.heap.size ≤ g
  hA : ∀ g, blkOf P = some g → ¬ FpA a A B g
  tA : ∀ g, blkOf Q = some g → ¬ FpA a A B g
  ht : ∀ g, blkOf P = some g → blkOf Q ≠ some g

section
variable {w0 w w' : World} {a c d pc qc : Nat} {A B P Q : Option Addr} {ss : List SlotT} {fr : List Int} {most many : Int} {hs : List (Int × Int)} {th : List Bool}
theorem StaleAt.keep (h : StaleAt w0 w a A c B d P pc Q qc ss fr most many hs th) (hb : Below w.heap.size w w') : StaleAt w0 w' a A c B d P pc Q qc ss fr most many hs th :=
  ⟨h.up.keep hb, h.hrow.below hb, h.trow.below hb, h.hup, h.tup, h.hA, h.tA, h.ht⟩
theorem StaleAt.arena (h : StaleAt w0 w a A c B d P pc Q qc ss fr most many hs th) {ss' : List SlotT} {fr' : List Int} {many' : Int} (hT : ArenaTo w w' a A B ss' fr' most many') :
    ∃ A' c' B' d', StaleAt w0 w' a A' c' B' d' P pc Q qc ss' fr' most many' hs th ∧ Keeps (FpA a A B) w w' := by
  have hT0 := hT
  obtain ⟨A', c', B', d', hA', hK, hF⟩ := hT
  have hsz := h.up.below.size
  refine ⟨A', c', B', d', ⟨⟨hA', fun i hi => ?_, h.up.below.trans (hK.below h.up.up hsz)⟩, h.hrow.keeps hK h.hA, h.trow.keeps hK h.tA, h.hup, h.tup, fun g hg hi => ?_, fun g hg hi => ?_, h.ht⟩, hK⟩
  · rcases hF i hi with h1 | h1
    · exact h.up.up i h1
    · omega
  · rcases hF g hi with h1 | h1
    · exact h.hA g hg h1
    · have := h.hrow.lt hg; omega
  · rcases hF g hi with h1 | h1
    · exact h.tA g hg h1
    · have := h.trow.lt hg; omega
/-- a thing is there no more -/
theorem StaleAt.unthere {q : Nat} (h : StaleAt w0 w a A c B d P pc (some ⟨q, 0, none⟩) qc ss fr most many hs th) (k : Nat) :
    StaleAt w0 (w.setCell ⟨q, k, none⟩ (.bool false)) a A c B d P pc (some ⟨q, 0, none⟩) qc ss fr most many hs (th.set k false) := by
  have hk := Keeps.set_ w ⟨q, k, none⟩ (.bool false)
  have hq := h.tup q rfl
  have ht := h.trow.set k (.bool false)
  have e1 : (boolCells th).set k (.bool false) = boolCells (th.set k false) := by simp [boolCells, List.map_set]
  rw [e1] at ht
  refine ⟨⟨h.up.ar.keeps hk (fun i hi e => h.tA q rfl (by have e' : i = q := e; rw [← e']; exact hi)), h.up.up, h.up.below.setCell (p := ⟨q, k, none⟩) hq _⟩, h.hrow.keeps hk (fun g hg e => h.ht g hg (by have e' : g = q := e; rw [e']; rfl)), ?_, h.hup, h.tup, h.hA, h.tA, h.ht⟩
  rw [List.length_set]; exact ht
/-- a handle more -/
theorem StaleAt.moreH (h : StaleAt w0 w a A c B d P pc Q qc ss fr most many hs th) {w3 : World} {o : Obj} {gg cap : Nat} {s g : Int}
    (hown : w3.ownsRow 0 42 2 (.slice (some ⟨gg, 0, none⟩) (hs.length + 1) cap) (hs.length + 1) (pairCells hs ++ [.int .i64 s, .int .i64 g])) (hgrow : (w.alloc o).grownBy w3 (Value.slice P hs.length pc).ownBlock)
    (hat : (Value.slice P hs.length pc).ownBlock = some gg ∨ gg = w.heap.size + 1) :
    StaleAt w0 w3 a A c B d (some ⟨gg, 0, none⟩) cap Q qc ss fr most many (hs ++ [(s, g)]) th := by
  have hK0 := keeps_of_grown (undrawn hgrow)
  rw [own_slice] at hK0 hat
  have hK : Keeps (fun i => blkOf P = some i) w w3 := hK0
  have hsz := h.up.below.size
  have e1 : (hs ++ [(s, g)]).length = hs.length + 1 := by simp
  have e2 : pairCells (hs ++ [(s, g)]) = pairCells hs ++ [.int .i64 s, .int .i64 g] := by simp [pairCells]
  have r3 : RowAt w3 (some ⟨gg, 0, none⟩) (hs.length + 1) cap 42 2 (pairCells hs ++ [.int .i64 s, .int .i64 g]) := hown
  refine ⟨⟨h.up.ar.keeps hK (fun i hi e => h.hA i e hi), h.up.up, h.up.below.trans (hK.below h.hup hsz)⟩, ?_, h.trow.keeps hK (fun g hg e => h.ht g e hg), ?_, h.tup, ?_, h.tA, ?_⟩
  · rw [e1, e2]; exact r3
  · intro x hx
    cases hx
    rcases hat with h1 | h1
    · exact h.hup gg h1
    · show w0.heap.size ≤ gg; omega
  · intro x hx hi
    cases hx
    rcases hat with h1 | h1
    · exact h.hA gg h1 hi
    · have := h.up.ar.fp hi
      have e : gg < w.heap.size := this
      omega
  · intro x hx e
    cases hx
    rcases hat with h1 | h1
    · exact h.ht gg h1 e
    · have e' : gg < w.heap.size := h.trow.lt e
      omega
/-- one more is there -/
theorem StaleAt.moreT (h : StaleAt w0 w a A c B d P pc Q qc ss fr most many hs th) {w3 : World} {o : Obj} {gg cap : Nat} {b : Bool}
    (hown : w3.ownsRow 0 4 1 (.slice (some ⟨gg, 0, none⟩) (th.length + 1) cap) (th.length + 1) (boolCells th ++ [.bool b])) (hgrow : (w.alloc o).grownBy w3 (Value.slice Q th.length qc).ownBlock)
    (hat : (Value.slice Q th.length qc).ownBlock = some gg ∨ gg = w.heap.size + 1) :
    StaleAt w0 w3 a A c B d P pc (some ⟨gg, 0, none⟩) cap ss fr most many hs (th ++ [b]) := by
  have hK0 := keeps_of_grown (undrawn hgrow)
  rw [own_slice] at hK0 hat
  have hK : Keeps (fun i => blkOf Q = some i) w w3 := hK0
  have hsz := h.up.below.size
  have e1 : (th ++ [b]).length = th.length + 1 := by simp
  have e2 : boolCells (th ++ [b]) = boolCells th ++ [.bool b] := by simp [boolCells]
  have r3 : RowAt w3 (some ⟨gg, 0, none⟩) (th.length + 1) cap 4 1 (boolCells th ++ [.bool b]) := hown
  refine ⟨⟨h.up.ar.keeps hK (fun i hi e => h.tA i e hi), h.up.up, h.up.below.trans (hK.below h.tup hsz)⟩, h.hrow.keeps hK (fun g hg e => h.ht g hg e), ?_, h.hup, ?_, h.hA, ?_, ?_⟩
  · rw [e1, e2]; exact r3
  · intro x hx
    cases hx
    rcases hat with h1 | h1
    · exact h.tup gg h1
    · show w0.heap.size ≤ gg; omega
  · intro x hx hi
    cases hx
    rcases hat with h1 | h1
    · exact h.tA gg h1 hi
    · have e : gg < w.heap.size := h.up.ar.fp hi
      omega
  · intro x hx e
    cases e
    rcases hat with h1 | h1
    · exact h.ht _ hx h1
    · have e' : gg < w.heap.size := h.hrow.lt hx
      omega
end
end Go.Proofs.YtakbedckjaammaaDoor
