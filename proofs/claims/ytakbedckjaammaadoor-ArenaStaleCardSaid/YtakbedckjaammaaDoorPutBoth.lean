/-
  Put of the arena and of the document, told by one plain function.
-/
import Derived.WalkKit
import Derived.Test.YtakbedckjaammaaDoorSlotsPlain
import Derived.Test.YtakbedckjaammaaDoorSlotsPutOld
namespace Go.Proofs.YtakbedckjaammaaDoor
open Go.RowKit

/-- what a Put makes: the slots, the free ones, the handle's slot and age, the error -/
def putR (ss : List SlotT) (fr : List Int) (most x : Int) : List SlotT × List Int × Int × Int × Int :=
  if most ≤ (liveS ss : Nat) then (ss, fr, 0, 0, 12) else
  match fr.getLast? with
  | none => (ss ++ [(x, 0, true)], [], ss.length, 0, 0)
  | some i => match ss[i.toNat]? with
    | some v => (ss.set i.toNat (x, v.2.1, true), fr.dropLast, i, v.2.1, 0)
    | none => (ss, fr, 0, 0, 12)
theorem putR_full {ss : List SlotT} {fr : List Int} {most x : Int} (h : most ≤ (liveS ss : Nat)) : putR ss fr most x = (ss, fr, 0, 0, 12) := by rw [putR, if_pos h]
theorem putR_new {ss : List SlotT} {most x : Int} (h : (liveS ss : Nat) < most) : putR ss [] most x = (ss ++ [(x, 0, true)], [], (ss.length : Int), 0, 0) := by rw [putR, if_neg (by omega)]; rfl
theorem putR_old {ss : List SlotT} {fr : List Int} {k : Nat} {most x : Int} (h : (liveS ss : Nat) < most) (hk : k < ss.length) : putR ss (fr ++ [(k : Int)]) most x = (ss.set k (x, ss[k].2.1, true), fr, (k : Int), ss[k].2.1, 0) := by
  rw [putR, if_neg (by omega)]
  simp [hk]

/-- what it leaves holds again -/
theorem putR_inv {ss : List SlotT} {fr : List Int} {most x : Int} (h : SlotInv ss fr) (hx : 0 ≤ x) (hm : (liveS ss : Nat) ≤ most) :
    SlotInv (putR ss fr most x).1 (putR ss fr most x).2.1 ∧ (liveS (putR ss fr most x).1 : Int) ≤ most ∧ (putR ss fr most x).1.length ≤ ss.length + 1 ∧ (putR ss fr most x).2.1.length ≤ fr.length ∧
    ((putR ss fr most x).2.2.2.2 = 12 ∧ liveS (putR ss fr most x).1 = liveS ss ∨ (putR ss fr most x).2.2.2.2 = 0 ∧ liveS (putR ss fr most x).1 = liveS ss + 1) := by
  by_cases hf : most ≤ (liveS ss : Nat)
  · rw [putR_full hf]
    exact ⟨h, by simpa using hm, by simp, by simp, .inl ⟨rfl, rfl⟩⟩
  · rcases List.eq_nil_or_concat fr with rfl | ⟨fr0, i, rfl⟩
    · rw [putR_new (by omega)]
      have hl := liveS_append ss (x, 0, true)
      simp only [if_true] at hl
      exact ⟨h.new_ hx, by simp only; omega, by simp, by simp, .inr ⟨rfl, hl⟩⟩
    · rw [List.concat_eq_append] at h ⊢
      obtain ⟨k, rfl, _⟩ := h.free i (by simp)
      obtain ⟨⟨hk, hkf⟩, h1⟩ := h.old_ (a := 0) hx
      obtain ⟨_, h2⟩ := h.old_ (a := ss[k].2.1) hx
      rw [putR_old (by omega) hk]
      have hl := liveS_set ss (x, ss[k].2.1, true) k hk
      rw [hkf] at hl
      simp at hl
      exact ⟨h2, by simp only; omega, by simp, by simp, .inr ⟨rfl, hl⟩⟩

theorem arenaPut_any (w : World) (a : Nat) (A : Option Addr) (c : Nat) (B : Option Addr) (d : Nat) (ss : List SlotT) (fr : List Int) (most x : Int) (h : ArenaAt w a A c B d ss fr most (liveS ss : Nat)) (hi : SlotInv ss fr) (hx : 0 ≤ x) (hm : (liveS ss : Nat) ≤ most) (hss : ss.length ≤ 200) (hfr : fr.length ≤ 200) :
    Calls Tryd.prog 17 #[.pointer (some ⟨a, 0, none⟩), .int .i64 x] w fun e w' =>
      e = .returned (.tuple #[.agg #[.int .i64 (putR ss fr most x).2.2.1, .int .i64 (putR ss fr most x).2.2.2.1], errV (putR ss fr most x).2.2.2.2]) ∧
      ArenaTo w w' a A B (putR ss fr most x).1 (putR ss fr most x).2.1 most (liveS (putR ss fr most x).1 : Nat) := by
  have hle := liveS_le ss
  have hw : RowKit.wrap64 ((liveS ss : Nat) + 1 : Int) = ((liveS ss + 1 : Nat) : Int) := by unfold RowKit.wrap64; omega
  by_cases hf : most ≤ (liveS ss : Nat)
  · refine (putFull_any w a A c B d ss fr most _ x h (by omega)).mono ?_
    rintro e w' ⟨rfl, hB⟩
    rw [putR_full hf]
    exact ⟨rfl, A, c, B, d, h.below hB, Keeps.of_below hB _, fun i hi => .inl hi⟩
  · rcases List.eq_nil_or_concat fr with rfl | ⟨fr0, i, rfl⟩
    · refine (putNew_any w a A c B d ss most _ x h (by omega) hss).mono ?_
      rintro e w' ⟨rfl, hB⟩
      rw [putR_new (by omega)]
      have hl := liveS_append ss (x, 0, true)
      simp only [if_true] at hl
      refine ⟨rfl, ?_⟩
      rw [hw] at hB
      rw [hl]
      exact hB
    · rw [List.concat_eq_append] at h hi hfr ⊢
      obtain ⟨k, rfl, _⟩ := hi.free i (by simp)
      obtain ⟨⟨hk, hkf⟩, _⟩ := hi.old_ (a := 0) hx
      refine (putOld_any w a A c B d ss fr0 k most _ x h (by omega) hk (by simp at hfr; omega)).mono ?_
      rintro e w' ⟨rfl, hB⟩
      rw [putR_old (by omega) hk]
      have hl := liveS_set ss (x, ss[k].2.1, true) k hk
      rw [hkf] at hl
      simp at hl
      refine ⟨rfl, ?_⟩
      rw [hw] at hB
      show ArenaTo _ _ _ _ _ _ _ _ (liveS (ss.set k (x, ss[k].2.1, true)) : Nat)
      rw [hl]
      exact hB
end Go.Proofs.YtakbedckjaammaaDoor
