/-
  The document's Put, told by the same plain function as the arena's.
-/
import Derived.WalkKit
import Derived.Test.YtakbedckjaammaaDoorPutBoth
import Derived.Test.YtakbedckjaammaaDoorSlotsPutNew
namespace Go.Proofs.YtakbedckjaammaaDoor
open Go.RowKit

theorem rput_any (w : World) (r : Nat) (T : Option Addr) (c : Nat) (G : Option Addr) (e : Nat) (F : Option Addr) (d : Nat) (ss : List SlotT) (fr : List Int) (most x : Int) (h : RefAt w r T c G e F d ss fr most) (hi : SlotInv ss fr) (hx : 0 ≤ x) (hss : ss.length ≤ 200) (hfr : fr.length ≤ 200) :
    Calls Tryd.prog 39 #[.pointer (some ⟨r, 0, none⟩), .int .i64 x] w fun e w' =>
      e = .returned (.tuple #[.int .i64 (putR ss fr most x).2.2.1, .int .i64 (putR ss fr most x).2.2.2.1, .int .i64 (putR ss fr most x).2.2.2.2]) ∧
      RefTo w w' r T G F (putR ss fr most x).1 (putR ss fr most x).2.1 most := by
  by_cases hf : most ≤ (liveS ss : Nat)
  · refine (rputFull_any w r T c G e F d ss fr most x h hi.things hss hf).mono ?_
    rintro e' w' ⟨rfl, rfl⟩
    rw [putR_full hf]
    exact ⟨rfl, T, c, G, e, F, d, h, Keeps.refl _ _, fun i hi => .inl hi⟩
  · rcases List.eq_nil_or_concat fr with rfl | ⟨fr0, i, rfl⟩
    · refine (rputNew_any w r T c G e F d ss most x h hi.things hss (by omega)).mono ?_
      rintro e' w' ⟨rfl, hB⟩
      rw [putR_new (by omega)]
      exact ⟨rfl, hB⟩
    · rw [List.concat_eq_append] at h hi hfr ⊢
      obtain ⟨k, rfl, _⟩ := hi.free i (by simp)
      obtain ⟨⟨hk, hkf⟩, _⟩ := hi.old_ (a := 0) hx
      refine (rputOld_any w r T c G e F d ss fr0 k most x h hi.things hss (by omega) hk (by simp at hfr; omega)).mono ?_
      rintro e' w' ⟨rfl, hB⟩
      rw [putR_old (by omega) hk]
      exact ⟨rfl, hB⟩

end Go.Proofs.YtakbedckjaammaaDoor
