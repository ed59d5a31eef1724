/-
  What puts and takes make of a list of slots of orders: the orders by their handles, and what always holds. No walk.
-/
import Derived.Test.YtaagaamamjabbaaOArenaTake
namespace Go.Proofs.Ytaagaamamjabbaa
open Go.RowKit
set_option linter.unusedVariables false

def oLive (ss : List OSlot) : Nat := (ss.filter fun s => s.2.2).length
/-- the order of a handle, if it is there -/
def oView (ss : List OSlot) (s g : Int) : Option Ord5 := if 0 ≤ s then (match ss[s.toNat]? with | some v => if v.2.2 = true ∧ v.2.1 = g then some v.1 else none | none => none) else none

theorem oView_has (ss : List OSlot) (s g : Int) : oHasS ss s g = (oView ss s g).isSome := by
  unfold oHasS oView
  by_cases h : 0 ≤ s
  · rw [if_pos h]
    cases e : ss[s.toNat]? with
    | none => simp
    | some v =>
      obtain ⟨x, age, full⟩ := v
      cases full
      · simp
      · by_cases h2 : age = g <;> simp [h, h2]
  · rw [if_neg h]; simp [h]
theorem oView_get (ss : List OSlot) (s g : Int) : oGetS ss s g = (oView ss s g).getD noO := by
  unfold oGetS
  rw [oView_has]
  unfold oView oTheS
  by_cases h : 0 ≤ s
  · rw [if_pos h]
    cases e : ss[s.toNat]? with
    | none => simp
    | some v =>
      obtain ⟨x, age, full⟩ := v
      by_cases h2 : full = true ∧ age = g
      · simp [h2.1, h2.2]
      · have : (if full = true ∧ age = g then some x else none : Option Ord5) = none := if_neg h2
        simp [this]
  · rw [if_neg h]; rfl
theorem oView_err (ss : List OSlot) (s g : Int) : oHasE ss s g = if (oView ss s g).isSome = true then 0 else 7 := by unfold oHasE; rw [oView_has]

theorem oView_set {ss : List OSlot} {k : Nat} (hk : k < ss.length) (v : OSlot) (s g : Int) : oView (ss.set k v) s g = if s = k then (if v.2.2 = true ∧ v.2.1 = g then some v.1 else none) else oView ss s g := by
  unfold oView
  by_cases h : 0 ≤ s
  · rw [if_pos h, if_pos h]
    by_cases e : s = k
    · subst e
      rw [if_pos rfl]
      have : (ss.set k v)[((k : Nat) : Int).toNat]? = some v := by simp [hk]
      rw [this]
    · rw [if_neg e, List.getElem?_set_ne (by omega)]
  · rw [if_neg h, if_neg h, if_neg (by omega)]
theorem oView_append (ss : List OSlot) (v : OSlot) (s g : Int) : oView (ss ++ [v]) s g = if s = (ss.length : Nat) then (if v.2.2 = true ∧ v.2.1 = g then some v.1 else none) else oView ss s g := by
  unfold oView
  by_cases h : 0 ≤ s
  · rw [if_pos h, if_pos h]
    by_cases e : s = (ss.length : Nat)
    · rw [if_pos e]
      have : (ss ++ [v])[s.toNat]? = some v := by subst e; simp
      rw [this]
    · rw [if_neg e]
      by_cases h2 : s.toNat < ss.length
      · rw [List.getElem?_append_left h2]
      · rw [List.getElem?_eq_none (by simp; omega), List.getElem?_eq_none (by omega)]
  · rw [if_neg h, if_neg h, if_neg (by omega)]
theorem oView_empty (s g : Int) : oView [] s g = none := by unfold oView; split <;> simp
/-- a slot that is not full -/
theorem oView_free {ss : List OSlot} {k : Nat} (hk : k < ss.length) (hf : ss[k].2.2 = false) (g : Int) : oView ss (k : Nat) g = none := by
  unfold oView
  have : ss[((k : Nat) : Int).toNat]? = some ss[k] := by simp [hk]
  rw [if_pos (by omega), this]
  simp [hf]
theorem oView_at {ss : List OSlot} {s g : Int} {x : Ord5} (h : oView ss s g = some x) : ∃ k : Nat, s = k ∧ ∃ hk : k < ss.length, ss[k].2.2 = true ∧ ss[k].2.1 = g ∧ ss[k].1 = x := by
  unfold oView at h
  by_cases h0 : 0 ≤ s
  · rw [if_pos h0] at h
    cases e : ss[s.toNat]? with
    | none => rw [e] at h; cases h
    | some v =>
      rw [e] at h
      obtain ⟨hk, hv⟩ := List.getElem?_eq_some_iff.1 e
      dsimp only at h
      split at h
      · rename_i hc
        cases h
        exact ⟨s.toNat, by omega, hk, by rw [hv]; exact hc.1, by rw [hv]; exact hc.2, by rw [hv]⟩
      · cases h
  · rw [if_neg h0] at h; cases h

theorem oLive_append (ss : List OSlot) (s : OSlot) : oLive (ss ++ [s]) = oLive ss + if s.2.2 = true then 1 else 0 := by
  unfold oLive
  rw [List.filter_append]
  cases h : s.2.2 <;> simp [h]
theorem oLive_cons (s : OSlot) (ss : List OSlot) : oLive (s :: ss) = (if s.2.2 = true then 1 else 0) + oLive ss := by
  unfold oLive
  cases h : s.2.2 <;> simp [h] <;> omega
theorem oLive_set (ss : List OSlot) (v : OSlot) : ∀ k (h : k < ss.length), oLive (ss.set k v) + (if ss[k].2.2 = true then 1 else 0) = oLive ss + (if v.2.2 = true then 1 else 0) := by
  induction ss with
  | nil => intro k h; simp at h
  | cons s ss ih =>
    intro k h
    cases k with
    | zero => simp only [List.set_cons_zero, List.getElem_cons_zero, oLive_cons]; omega
    | succ k =>
      have := ih k (by simpa using h)
      simp only [List.set_cons_succ, List.getElem_cons_succ, oLive_cons]
      omega

/-- what always holds -/
structure OInv (ss : List OSlot) (fr : List Int) (most : Nat) : Prop where
  nodup : fr.Nodup
  free : ∀ i ∈ fr, ∃ k : Nat, i = k ∧ ∃ h : k < ss.length, ss[k].2.2 = false
  count : ss.length = fr.length + oLive ss
  cap : ss.length ≤ most

theorem OInv.empty (most : Nat) : OInv [] [] most := ⟨List.nodup_nil, fun i h => by simp at h, rfl, Nat.zero_le _⟩
theorem OInv.new_ {ss : List OSlot} {most : Nat} (h : OInv ss [] most) (hl : oLive ss < most) (x : Ord5) : OInv (ss ++ [(x, 0, true)]) [] most := by
  have hc := h.count
  refine ⟨List.nodup_nil, fun i h => by simp at h, ?_, ?_⟩
  · rw [oLive_append]; simp at hc ⊢; omega
  · simp at hc ⊢; omega
theorem OInv.old_ {ss : List OSlot} {fr : List Int} {k most : Nat} (h : OInv ss (fr ++ [(k : Int)]) most) (x : Ord5) (a : Int) : ∃ hk : k < ss.length, ss[k].2.2 = false ∧ OInv (ss.set k (x, a, true)) fr most ∧ oLive (ss.set k (x, a, true)) = oLive ss + 1 := by
  obtain ⟨k', e, hk, hf⟩ := h.free k (by simp)
  obtain rfl : k = k' := by omega
  have hl := oLive_set ss (x, a, true) k hk
  rw [hf] at hl
  simp at hl
  have hn := h.nodup
  rw [List.nodup_append] at hn
  have hc := h.count
  refine ⟨hk, hf, ⟨hn.1, fun i hi => ?_, ?_, ?_⟩, hl⟩
  · obtain ⟨j, rfl, hj, hjf⟩ := h.free i (by simp [hi])
    have hne : k ≠ j := fun e => hn.2.2 (j : Int) hi (k : Int) (by simp) (by rw [e])
    exact ⟨j, rfl, by simpa using hj, by rw [List.getElem_set_ne hne]; exact hjf⟩
  · rw [List.length_set, hl, hc]; simp; omega
  · rw [List.length_set]; exact h.cap
theorem OInv.take_ {ss : List OSlot} {fr : List Int} {k most : Nat} (h : OInv ss fr most) (hk : k < ss.length) (hf : ss[k].2.2 = true) (x : Ord5) (a : Int) : OInv (ss.set k (x, a, false)) (fr ++ [(k : Int)]) most ∧ oLive (ss.set k (x, a, false)) + 1 = oLive ss := by
  have hl := oLive_set ss (x, a, false) k hk
  rw [hf] at hl
  simp at hl
  have hc := h.count
  have hne : ∀ i ∈ fr, i ≠ (k : Int) := by
    intro i hi e
    obtain ⟨j, rfl, hj, hjf⟩ := h.free i hi
    obtain rfl : j = k := by omega
    rw [hf] at hjf; cases hjf
  refine ⟨⟨?_, ?_, ?_, ?_⟩, hl⟩
  · rw [List.nodup_append]
    refine ⟨h.nodup, by simp, fun i hi j hj => ?_⟩
    simp at hj
    subst hj
    exact hne i hi
  · intro i hi
    rcases List.mem_append.1 hi with hi | hi
    · obtain ⟨j, rfl, hj, hjf⟩ := h.free i hi
      have : k ≠ j := fun e => hne _ hi (by rw [e])
      exact ⟨j, rfl, by simpa using hj, by rw [List.getElem_set_ne this]; exact hjf⟩
    · simp at hi
      subst hi
      exact ⟨k, rfl, by simpa using hk, by rw [List.getElem_set_self]⟩
  · rw [List.length_set]; simp; omega
  · rw [List.length_set]; exact h.cap
end Go.Proofs.Ytaagaamamjabbaa
