/-
  The walk of (half).find.
-/
import Derived.WalkKit
import Derived.WalkLawsBesides
import Derived.WalkSpells
import Derived.Test.YtaagaamamjabbaaSearch
import Derived.Test.YtaagaamamjabbaaBookPlain
namespace Go.Proofs.Ytaagaamamjabbaa
open Go.RowKit
set_option linter.unusedVariables false

/-- what the search says: where the price's queue is, or would be -/
def FoundK (side p : Int) (qs : List Que) (n k : Nat) : Prop := k ≤ n ∧ (∀ i (hi : i < qs.length), i < k → cmpQ side qs[i].1 p < 0) ∧ (∀ i (hi : i < qs.length), k ≤ i → 0 ≤ cmpQ side qs[i].1 p)
def foundB (side p : Int) (qs : List Que) (n k : Nat) : Bool := decide (k < n) && (match qs[k]? with | some q => cmpQ side q.1 p == 0 | none => false)
def FindPost (side p : Int) (qs : List Que) (n : Nat) (w : World) (e : Ending) (w' : World) : Prop := Below w.heap.size w w' ∧ ∃ k : Nat, FoundK side p qs n k ∧ e = .returned (.tuple #[.int .i64 k, .bool (foundB side p qs n k)])

set_option maxHeartbeats 1000000 in
theorem find_any (w : World) (b o : Nat) (side p : Int) (A : Option Addr) (n c : Nat) (qs : List Que) (hq : w.cell? ⟨b, o + 1, none⟩ = some (.slice A n c)) (h : ElemsAt w encQ 2 A n qs) (hr : RankQ side qs) (hm : n ≤ 100000) :
    Calls Try.prog 42 #[.pointer (some ⟨b, o, none⟩), .int .i64 side, .int .i64 p] w (FindPost side p qs n w) := by
  have hg := World.block_lt_of_cell? w _ hq
  have z0 := (World.cell?_alloc_lt w (.cells #[.int .i64 side] 3) ⟨b, o + 1, none⟩ hg).trans hq
  have hA : Below w.heap.size w (w.alloc (.cells #[.int .i64 side] 3)) := (Below.refl _ w).alloc (Nat.le_refl _) _
  have hB1 : Blk (w.alloc (.cells #[.int .i64 side] 3)) w.heap.size 3 #[.int .i64 side] := Blk.new w _ _
  have eg := Go.Proofs.enters_of Try.func60 (by kernel_rfl) rfl
  have hmk : ∀ w' : World, (Instr.makeFunc (.func 60) #[] #[.pointer (some ⟨w.heap.size, 0, none⟩)]).run Try.prog w' = .ok (.func (.func 60) #[] #[.pointer (some ⟨w.heap.size, 0, none⟩)]) w' := fun _ => rfl
  have hs := search_any side p 60 #[.pointer (some ⟨w.heap.size, 0, none⟩)] A n c qs _ (h.below hA (Nat.le_refl _)) hr hm eg (fun W q hb => findCmp_any side q.1 p _ w.heap.size W ⟨_, _, _, rfl⟩ (by rw [Blk.cell (Blk.keep hB1 hb)]; rfl))
  have HS := hid (show Calls Try.prog 59 _ _ (FindPost side p qs n _) from hs.mono fun e w' ⟨hb, k, h1, h2, h3, h4⟩ => ⟨hb, k, ⟨h1, h2, h3⟩, h4⟩)
  have HA := hid hA
  clear hs hA hB1 h hr
  go_enter Try.func42, Try.ntmps42
  go_wp2_with fail
  refine HS.out.mono ?_
  rintro e w1 ⟨hb, k, hf, rfl⟩
  have HF := hid hf
  have HB := hid (HA.out.trans (hb.mono (by simp)))
  clear hf hb
  obtain ⟨fb, HE⟩ : ∃ fb, Hid (foundB side p qs n k = fb) := ⟨_, hid rfl⟩
  rw [HE.out]
  go_wp2
  go_ret2
  exact ⟨HB.out, k, HF.out, by rw [HE.out]; rfl⟩
end Go.Proofs.Ytaagaamamjabbaa
