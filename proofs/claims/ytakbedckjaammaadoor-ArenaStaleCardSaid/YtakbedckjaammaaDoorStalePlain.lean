/-
  The plain law of stale handles: which handles are live, kept through puts and takes. No walk.
-/
import Derived.Test.YtakbedckjaammaaDoorPutBoth
namespace Go.Proofs.YtakbedckjaammaaDoor
open Go.RowKit

/-- handles hs, and which of them are there -/
structure StaleInv (ss : List SlotT) (hs : List (Int × Int)) (th : List Bool) (R : Int) : Prop where
  len : hs.length = th.length
  at_ : ∀ k (h : k < hs.length) (h' : k < th.length), ∃ j : Nat, hs[k].1 = j ∧ ∃ hj : j < ss.length,
    (th[k] = true → ss[j] = ((k : Int), hs[k].2, true)) ∧ (th[k] = false → hs[k].2 < ss[j].2.1)
  ages : ∀ j (h : j < ss.length), 0 ≤ ss[j].2.1 ∧ ss[j].2.1 ≤ R
  count : liveS ss = (th.filter id).length

theorem StaleInv.empty : StaleInv [] [] [] 0 := ⟨rfl, fun k h => by simp at h, fun j h => by simp at h, rfl⟩

/-- a handle is live just when it is there, and then tells its own number -/
theorem StaleInv.has {ss : List SlotT} {hs : List (Int × Int)} {th : List Bool} {R : Int} (h : StaleInv ss hs th R) {k : Nat} (hk : k < hs.length) (hk' : k < th.length) :
    hasS ss hs[k].1 hs[k].2 = th[k] ∧ (th[k] = true → theS ss hs[k].1 = k) := by
  obtain ⟨j, e, hj, h1, h2⟩ := h.at_ k hk hk'
  rw [e, hasS_at hj, theS_at hj]
  cases ht : th[k]
  · have := h2 ht
    refine ⟨?_, fun h => by cases h⟩
    have hne : (ss[j].2.1 == hs[k].2) = false := beqF (by omega)
    rw [hne]; simp
  · have := h1 ht
    rw [this]
    exact ⟨by simp, fun _ => rfl⟩

theorem StaleInv.more {ss : List SlotT} {hs : List (Int × Int)} {th : List Bool} {R R' : Int} (h : StaleInv ss hs th R) (hR : R ≤ R') : StaleInv ss hs th R' :=
  ⟨h.len, h.at_, fun j hj => ⟨(h.ages j hj).1, by have := (h.ages j hj).2; omega⟩, h.count⟩

theorem StaleInv.new_ {ss : List SlotT} {hs : List (Int × Int)} {th : List Bool} {R : Int} (h : StaleInv ss hs th R) (hR : 0 ≤ R) :
    StaleInv (ss ++ [((hs.length : Int), 0, true)]) (hs ++ [((ss.length : Int), 0)]) (th ++ [true]) R := by
  refine ⟨by simp [h.len], fun k hk hk' => ?_, fun j hj => ?_, ?_⟩
  · by_cases hl : k < hs.length
    · have hl' : k < th.length := by have := h.len; omega
      obtain ⟨j, e, hj, h1, h2⟩ := h.at_ k hl hl'
      refine ⟨j, by rw [List.getElem_append_left hl]; exact e, by simp; omega, ?_, ?_⟩
      · rw [List.getElem_append_left hl', List.getElem_append_left hj, List.getElem_append_left hl]; exact h1
      · rw [List.getElem_append_left hl', List.getElem_append_left hj, List.getElem_append_left hl]; exact h2
    · have e : k = hs.length := by simp at hk; omega
      subst e
      refine ⟨ss.length, by simp, by simp, fun _ => by simp, fun hf => ?_⟩
      simp [h.len] at hf
  · by_cases hl : j < ss.length
    · rw [List.getElem_append_left hl]; exact h.ages j hl
    · have e : j = ss.length := by simp at hj; omega
      subst e
      simpa using hR
  · rw [liveS_append, h.count]; simp

theorem StaleInv.old_ {ss : List SlotT} {hs : List (Int × Int)} {th : List Bool} {R : Int} (h : StaleInv ss hs th R) {i : Nat} (hi : i < ss.length) (hf : ss[i].2.2 = false) :
    StaleInv (ss.set i ((hs.length : Int), ss[i].2.1, true)) (hs ++ [((i : Int), ss[i].2.1)]) (th ++ [true]) R := by
  refine ⟨by simp [h.len], fun k hk hk' => ?_, fun j hj => ?_, ?_⟩
  · by_cases hl : k < hs.length
    · have hl' : k < th.length := by have := h.len; omega
      obtain ⟨j, e, hj, h1, h2⟩ := h.at_ k hl hl'
      refine ⟨j, by rw [List.getElem_append_left hl]; exact e, by simpa using hj, ?_, ?_⟩
      · rw [List.getElem_append_left hl', List.getElem_append_left hl]
        intro ht
        by_cases e2 : i = j
        · subst e2
          have := h1 ht
          rw [this] at hf
          cases hf
        · rw [List.getElem_set_ne e2]; exact h1 ht
      · rw [List.getElem_append_left hl', List.getElem_append_left hl]
        intro ht
        by_cases e2 : i = j
        · subst e2
          rw [List.getElem_set_self]; exact h2 ht
        · rw [List.getElem_set_ne e2]; exact h2 ht
    · have e : k = hs.length := by simp at hk; omega
      subst e
      refine ⟨i, by simp, by simpa using hi, fun _ => by simp, fun hf => ?_⟩
      simp [h.len] at hf
  · by_cases e2 : i = j
    · subst e2
      rw [List.getElem_set_self]; exact h.ages i hi
    · rw [List.getElem_set_ne e2]; exact h.ages j (by simpa using hj)
  · have := liveS_set ss ((hs.length : Int), ss[i].2.1, true) i hi
    rw [hf] at this
    simp at this
    rw [this, h.count]; simp

theorem filter_set_false {th : List Bool} : ∀ {k : Nat} (hk : k < th.length), th[k] = true → ((th.set k false).filter id).length + 1 = (th.filter id).length := by
  induction th with
  | nil => intro k hk; simp at hk
  | cons b th ih =>
    intro k hk ht
    cases k with
    | zero =>
      simp at ht
      subst ht
      simp
    | succ k =>
      have := ih (k := k) (by simpa using hk) (by simpa using ht)
      cases b <;> simp <;> omega

theorem StaleInv.take_ {ss : List SlotT} {hs : List (Int × Int)} {th : List Bool} {R : Int} (h : StaleInv ss hs th R) {k : Nat} (hk : k < hs.length) (hk' : k < th.length) (ht : th[k] = true) (hR : R ≤ 1000) :
    StaleInv (takeS ss hs[k].1) hs (th.set k false) (R + 1) := by
  obtain ⟨j, e, hj, h1, h2⟩ := h.at_ k hk hk'
  have hs1 := h1 ht
  have ha := h.ages j hj
  have hage : ss[j].2.1 = hs[k].2 := by rw [hs1]
  have hw : RowKit.wrap64 (ss[j].2.1 + 1) = ss[j].2.1 + 1 := by unfold RowKit.wrap64; omega
  rw [e, takeS_at hj, hw]
  refine ⟨by simp [h.len], fun k2 hk2 hk2' => ?_, fun i hi => ?_, ?_⟩
  · have hk2t : k2 < th.length := by simpa using hk2'
    obtain ⟨j2, e2, hj2, g1, g2⟩ := h.at_ k2 hk2 hk2t
    refine ⟨j2, e2, by simpa using hj2, ?_, ?_⟩
    · intro ht2
      by_cases ek : k = k2
      · subst ek
        simp at ht2
      · rw [List.getElem_set_ne ek] at ht2
        by_cases ej : j = j2
        · subst ej
          have g := g1 ht2
          rw [hs1] at g
          have := congrArg Prod.fst g
          simp at this
          omega
        · rw [List.getElem_set_ne ej]; exact g1 ht2
    · intro ht2
      by_cases ek : k = k2
      · subst ek
        have : j = j2 := by omega
        subst this
        rw [List.getElem_set_self]
        show hs[k].2 < ss[j].2.1 + 1
        omega
      · rw [List.getElem_set_ne ek] at ht2
        have g := g2 ht2
        by_cases ej : j = j2
        · subst ej
          rw [List.getElem_set_self]
          show hs[k2].2 < ss[j].2.1 + 1
          omega
        · rw [List.getElem_set_ne ej]; exact g
  · by_cases ei : j = i
    · subst ei
      rw [List.getElem_set_self]
      show 0 ≤ ss[j].2.1 + 1 ∧ ss[j].2.1 + 1 ≤ R + 1
      omega
    · rw [List.getElem_set_ne ei]
      have := h.ages i (by simpa using hi)
      omega
  · have h3 := liveS_set ss (0, ss[j].2.1 + 1, false) j hj
    have h4 := filter_set_false hk' ht
    have h5 := h.count
    rw [hs1] at h3
    simp at h3
    rw [hs1]
    simp only
    omega

/-- what a put leaves of it -/
theorem StaleInv.put_ {ss : List SlotT} {fr : List Int} {hs : List (Int × Int)} {th : List Bool} {R most : Int} (h : StaleInv ss hs th R) (hi : SlotInv ss fr) (hR : 0 ≤ R) :
    ((putR ss fr most hs.length).2.2.2.2 = 12 ∧ (putR ss fr most hs.length).1 = ss ∧ (putR ss fr most hs.length).2.1 = fr) ∨
      ((putR ss fr most hs.length).2.2.2.2 = 0 ∧ StaleInv (putR ss fr most hs.length).1 (hs ++ [((putR ss fr most hs.length).2.2.1, (putR ss fr most hs.length).2.2.2.1)]) (th ++ [true]) R) := by
  by_cases hf : most ≤ (liveS ss : Nat)
  · rw [putR_full hf]; exact .inl ⟨rfl, rfl, rfl⟩
  · rcases List.eq_nil_or_concat fr with rfl | ⟨fr0, i, rfl⟩
    · rw [putR_new (by omega)]
      exact .inr ⟨rfl, h.new_ hR⟩
    · rw [List.concat_eq_append] at hi ⊢
      obtain ⟨k, rfl, hk, hff⟩ := hi.free i (by simp)
      rw [putR_old (by omega) hk]
      exact .inr ⟨rfl, h.old_ hk hff⟩
end Go.Proofs.YtakbedckjaammaaDoor
