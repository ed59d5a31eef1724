/-
  What puts, sets and takes make of a list of slots: how many are full, and what holds always. No walk.
-/
import Derived.Test.YtakbedckjaammaaDoorSlotsPut
namespace Go.Proofs.YtakbedckjaammaaDoor
open Go.RowKit

theorem liveS_cons (s : SlotT) (ss : List SlotT) : liveS (s :: ss) = (if s.2.2 = true then 1 else 0) + liveS ss := by
  unfold liveS
  cases h : s.2.2 <;> simp [h] <;> omega
theorem liveS_append (ss : List SlotT) (s : SlotT) : liveS (ss ++ [s]) = liveS ss + if s.2.2 = true then 1 else 0 := by
  unfold liveS
  rw [List.filter_append]
  cases h : s.2.2 <;> simp [h]
theorem liveS_set (ss : List SlotT) (v : SlotT) : ∀ k (h : k < ss.length), liveS (ss.set k v) + (if ss[k].2.2 = true then 1 else 0) = liveS ss + (if v.2.2 = true then 1 else 0) := by
  induction ss with
  | nil => intro k h; simp at h
  | cons s ss ih =>
    intro k h
    cases k with
    | zero => simp only [List.set_cons_zero, List.getElem_cons_zero, liveS_cons]; omega
    | succ k =>
      have := ih k (by simpa using h)
      simp only [List.set_cons_succ, List.getElem_cons_succ, liveS_cons]
      omega

theorem has_slot {ss : List SlotT} {s g : Int} (h : hasS ss s g = true) : ∃ k : Nat, s = k ∧ ∃ hk : k < ss.length, ss[k].2.2 = true := by
  by_cases h0 : s < 0
  · rw [hasS_neg h0] at h; cases h
  · by_cases h1 : (ss.length : Int) ≤ s
    · rw [hasS_far (by omega) h1] at h; cases h
    · have hk : s.toNat < ss.length := by omega
      refine ⟨s.toNat, by omega, hk, ?_⟩
      have e : s = ((s.toNat : Nat) : Int) := by omega
      rw [e, hasS_at hk] at h
      simp at h
      exact h.1

/-- what always holds -/
structure SlotInv (ss : List SlotT) (fr : List Int) : Prop where
  things : ThingsOk ss
  nodup : fr.Nodup
  free : ∀ i ∈ fr, ∃ k : Nat, i = k ∧ ∃ h : k < ss.length, ss[k].2.2 = false

theorem SlotInv.empty : SlotInv [] [] := ⟨fun k h => by simp at h, List.nodup_nil, fun i h => by simp at h⟩

theorem SlotInv.new_ {ss : List SlotT} (h : SlotInv ss []) {x : Int} (hx : 0 ≤ x) : SlotInv (ss ++ [(x, 0, true)]) [] := by
  refine ⟨fun k hk hf => ?_, List.nodup_nil, fun i h => by simp at h⟩
  by_cases h1 : k < ss.length
  · rw [List.getElem_append_left h1] at hf ⊢
    exact h.things k h1 hf
  · have : k = ss.length := by simp at hk; omega
    subst this
    simpa using hx

theorem things_set {ss : List SlotT} (h : ThingsOk ss) {k : Nat} {v : SlotT} (hv : v.2.2 = true → 0 ≤ v.1) : ThingsOk (ss.set k v) := by
  intro j hj hf
  by_cases e : k = j
  · subst e
    rw [List.getElem_set_self] at hf ⊢
    exact hv hf
  · rw [List.getElem_set_ne e] at hf ⊢
    exact h j (by simpa using hj) hf

theorem SlotInv.old_ {ss : List SlotT} {fr : List Int} {k : Nat} (h : SlotInv ss (fr ++ [(k : Int)])) {x a : Int} (hx : 0 ≤ x) :
    (∃ hk : k < ss.length, ss[k].2.2 = false) ∧ SlotInv (ss.set k (x, a, true)) fr := by
  obtain ⟨k', e, hk, hf⟩ := h.free (k : Int) (by simp)
  obtain rfl : k = k' := by omega
  refine ⟨⟨hk, hf⟩, things_set h.things (fun _ => hx), (List.nodup_append.1 h.nodup).1, fun i hi => ?_⟩
  obtain ⟨j, e1, hj, hf1⟩ := h.free i (by simp [hi])
  have hne : k ≠ j := by
    intro e2
    have := (List.nodup_append.1 h.nodup).2.2 i hi (k : Int) (by simp)
    exact this (by rw [e1, e2])
  exact ⟨j, e1, by simpa using hj, by rw [List.getElem_set_ne hne]; exact hf1⟩

theorem SlotInv.set_ {ss : List SlotT} {fr : List Int} (h : SlotInv ss fr) {s g x : Int} (hs : hasS ss s g = true) (hx : 0 ≤ x) : SlotInv (setS ss s x) fr ∧ liveS (setS ss s x) = liveS ss ∧ (setS ss s x).length = ss.length := by
  obtain ⟨k, rfl, hk, hf⟩ := has_slot hs
  rw [setS_at x hk]
  refine ⟨⟨things_set h.things (fun _ => hx), h.nodup, fun i hi => ?_⟩, ?_, by simp⟩
  · obtain ⟨j, e1, hj, hf1⟩ := h.free i hi
    have hne : k ≠ j := by
      rintro rfl
      rw [hf] at hf1
      cases hf1
    exact ⟨j, e1, by simpa using hj, by rw [List.getElem_set_ne hne]; exact hf1⟩
  · have := liveS_set ss (x, ss[k].2.1, ss[k].2.2) k hk
    simp only at this
    omega

theorem SlotInv.take_ {ss : List SlotT} {fr : List Int} (h : SlotInv ss fr) {s g : Int} (hs : hasS ss s g = true) : SlotInv (takeS ss s) (fr ++ [s]) ∧ liveS (takeS ss s) + 1 = liveS ss ∧ (takeS ss s).length = ss.length := by
  obtain ⟨k, rfl, hk, hf⟩ := has_slot hs
  rw [takeS_at hk]
  have hnot : ((k : Nat) : Int) ∉ fr := by
    intro hi
    obtain ⟨j, e1, hj, hf1⟩ := h.free _ hi
    obtain rfl : k = j := by omega
    rw [hf] at hf1
    cases hf1
  refine ⟨⟨things_set h.things (fun hh => by cases hh), ?_, fun i hi => ?_⟩, ?_, by simp⟩
  · rw [List.nodup_append]
    exact ⟨h.nodup, by simp, fun a ha b hb e => hnot (by simp at hb; rw [← hb, ← e]; exact ha)⟩
  · rcases List.mem_append.1 hi with hi | hi
    · obtain ⟨j, e1, hj, hf1⟩ := h.free i hi
      have hne : k ≠ j := by
        rintro rfl
        rw [hf] at hf1
        cases hf1
      exact ⟨j, e1, by simpa using hj, by rw [List.getElem_set_ne hne]; exact hf1⟩
    · simp at hi
      exact ⟨k, hi, by simpa using hk, by rw [List.getElem_set_self]⟩
  · have := liveS_set ss (0, RowKit.wrap64 (ss[k].2.1 + 1), false) k hk
    rw [hf] at this
    simp at this
    omega
end Go.Proofs.YtakbedckjaammaaDoor
