/-
  An arena and the document's slots side by side: what one of them does leaves the other.
-/
import Derived.Test.YtakbedckjaammaaDoorSlotsPlain
import Derived.Test.YtakbedckjaammaaDoorSlotsFree
namespace Go.Proofs.YtakbedckjaammaaDoor
open Go.RowKit

/-- both, apart, and above all that was there in w0 -/
structure Both (w0 w : World) (a : Nat) (A : Option Addr) (c : Nat) (B : Option Addr) (d : Nat) (r : Nat) (T : Option Addr) (tc : Nat) (G : Option Addr) (gc : Nat) (F : Option Addr) (fc : Nat) (ss : List SlotT) (fr : List Int) (most many : Int) (ss2 : List SlotT) (fr2 : List Int) : Prop where
  ar : ArenaAt w a A c B d ss fr most many
  rf : RefAt w r T tc G gc F fc ss2 fr2 most
  apart : ∀ i, FpA a A B i → ¬ FpR r T G F i
  upA : ∀ i, FpA a A B i → w0.heap.size ≤ i
  upR : ∀ i, FpR r T G F i → w0.heap.size ≤ i
  below : Below w0.heap.size w0 w

section
variable {w0 w w' : World} {a c d r tc gc fc : Nat} {A B T G F : Option Addr} {ss ss2 : List SlotT} {fr fr2 : List Int} {most many : Int}
theorem Both.keep (h : Both w0 w a A c B d r T tc G gc F fc ss fr most many ss2 fr2) (hb : Below w.heap.size w w') : Both w0 w' a A c B d r T tc G gc F fc ss fr most many ss2 fr2 :=
  ⟨h.ar.below hb, h.rf.below hb, h.apart, h.upA, h.upR, h.below.trans (hb.mono h.below.size)⟩
theorem Both.arena (h : Both w0 w a A c B d r T tc G gc F fc ss fr most many ss2 fr2) {ss' : List SlotT} {fr' : List Int} {many' : Int} (hT : ArenaTo w w' a A B ss' fr' most many') :
    ∃ A' c' B' d', Both w0 w' a A' c' B' d' r T tc G gc F fc ss' fr' most many' ss2 fr2 ∧ Keeps (FpA a A B) w w' := by
  obtain ⟨A', c', B', d', hA', hK, hF⟩ := hT
  have hsz := h.below.size
  refine ⟨A', c', B', d', ⟨hA', h.rf.keeps hK (fun i hi hn => h.apart i hn hi), fun i hi hr => ?_, fun i hi => ?_, h.upR, h.below.trans (hK.below h.upA hsz)⟩, hK⟩
  · rcases hF i hi with h1 | h1
    · exact h.apart i h1 hr
    · have := h.rf.fp hr; omega
  · rcases hF i hi with h1 | h1
    · exact h.upA i h1
    · omega
theorem Both.ref (h : Both w0 w a A c B d r T tc G gc F fc ss fr most many ss2 fr2) {ss' : List SlotT} {fr' : List Int} (hT : RefTo w w' r T G F ss' fr' most) :
    ∃ T' tc' G' gc' F' fc', Both w0 w' a A c B d r T' tc' G' gc' F' fc' ss fr most many ss' fr' ∧ Keeps (FpR r T G F) w w' := by
  obtain ⟨T', tc', G', gc', F', fc', hA', hK, hF⟩ := hT
  have hsz := h.below.size
  refine ⟨T', tc', G', gc', F', fc', ⟨h.ar.keeps hK (fun i hi hn => h.apart i hi hn), hA', fun i hi hr => ?_, h.upA, fun i hi => ?_, h.below.trans (hK.below h.upR hsz)⟩, hK⟩
  · rcases hF i hr with h1 | h1
    · exact h.apart i hi h1
    · have := h.ar.fp hi; omega
  · rcases hF i hi with h1 | h1
    · exact h.upR i h1
    · omega
end
end Go.Proofs.YtakbedckjaammaaDoor
