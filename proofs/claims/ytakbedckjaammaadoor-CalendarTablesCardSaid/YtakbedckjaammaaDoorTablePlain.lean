/-
  The plain law of tables: tick by tick the phase changes just when it was told.
-/
import Derived.WalkKit
import Derived.WalkLawsBesides
import Derived.WalkSpells
import Derived.Test.YtakbedckjaammaaDoorTable
namespace Go.Proofs.YtakbedckjaammaaDoor
open Go.RowKit

/-- a table that may be -/
def TableOk (ps : List (Int × Int)) : Prop := 0 < ps.length ∧ ps.length ≤ 20 ∧ ∀ j, j < ps.length → wrongAt ps j = 0

theorem NewPost.good {ps : List (Int × Int)} {w w' : World} {e : Ending} (h : NewPost ps w e w') (hok : TableOk ps) :
    Below w.heap.size w w' ∧ ∃ t A cap, e = .returned (.tuple #[.pointer (some ⟨t, 0, none⟩), .nilIface]) ∧
      w.heap.size ≤ t ∧ t < w'.heap.size ∧ w'.cell? ⟨t, 0, none⟩ = some (.slice A ps.length cap) ∧ Pairs w' A ps.length cap ps := by
  obtain ⟨hB, h⟩ := h
  obtain ⟨h1, h2, h3⟩ := hok
  refine ⟨hB, ?_⟩
  rcases h with h | h | ⟨_, _, i, hi, _, hn, _⟩ | ⟨_, _, _, h⟩
  · omega
  · omega
  · exact absurd (h3 i hi) hn
  · exact h

theorem NewPost.bad {ps : List (Int × Int)} {w w' : World} {e : Ending} (h : NewPost ps w e w') (hok : ¬ TableOk ps) :
    Below w.heap.size w w' ∧ ∃ t v, e = .returned (.tuple #[.pointer none, .iface t v]) := by
  obtain ⟨hB, h⟩ := h
  refine ⟨hB, ?_⟩
  rcases h with ⟨_, h⟩ | ⟨_, h⟩ | ⟨_, _, i, _, _, _, g, h, _⟩ | ⟨h1, h2, h3, _⟩
  · exact ⟨_, _, h⟩
  · exact ⟨_, _, h⟩
  · exact ⟨_, _, h⟩
  · exact absurd ⟨h1, h2, h3⟩ hok

/-! ### the plain law -/
theorem anyL_follows {p0 p : Int} (h : anyL (followsL p0) p = true) : p0 < p := by
  unfold anyL followsL at h
  by_cases h1 : p0 = 1
  · simp [h1] at h; omega
  by_cases h2 : p0 = 2
  · simp [h2] at h; omega
  by_cases h3 : p0 = 3
  · simp [h3] at h; omega
  by_cases h5 : p0 = 5
  · simp [h5] at h; omega
  simp [h1, h2, h3, h5] at h

theorem TableOk.step {ps : List (Int × Int)} (h : TableOk ps) (k : Nat) (hk : k + 1 < ps.length) :
    (ps.getD k (0, 0)).1 < (ps.getD (k + 1) (0, 0)).1 ∧ (ps.getD k (0, 0)).2 < (ps.getD (k + 1) (0, 0)).2 := by
  have hw := h.2.2 (k + 1) hk
  simp only [wrongAt, wrongI] at hw
  split at hw
  · cases hw
  · rename_i ha
    split at hw
    · cases hw
    · rename_i hb
      exact ⟨by omega, anyL_follows (by simpa using ha)⟩

theorem TableOk.sorted {ps : List (Int × Int)} (h : TableOk ps) (i : Nat) : ∀ d, i + d + 1 < ps.length → (ps.getD i (0, 0)).1 < (ps.getD (i + d + 1) (0, 0)).1
  | 0, hd => (h.step i hd).1
  | d + 1, hd => by
    have h1 := TableOk.sorted h i d (by omega)
    have h2 := (h.step (i + d + 1) hd).1
    have e : i + (d + 1) + 1 = i + d + 1 + 1 := by omega
    rw [e]
    omega

theorem TableOk.zero {ps : List (Int × Int)} (h : TableOk ps) : (ps.getD 0 (0, 0)) = (0, 1) := by
  have hw := h.2.2 0 h.1
  simp only [wrongAt] at hw
  split at hw
  · assumption
  · cases hw

theorem phAt_idx (ps : List (Int × Int)) (now : Int) (h0 : (ps.getD 0 (0, 0)).1 ≤ now) : ∀ m, 0 < m → m ≤ ps.length →
    ∃ k, k < m ∧ (ps.getD k (0, 0)).1 ≤ now ∧ (∀ j, k < j → j < m → now < (ps.getD j (0, 0)).1) ∧
      phAt ps now m = ((ps.getD k (0, 0)).2, if k + 1 < ps.length then (ps.getD (k + 1) (0, 0)).1 else -1)
  | 0, h, _ => absurd h (by omega)
  | m + 1, _, hm => by
    by_cases hc : (ps.getD m (0, 0)).1 ≤ now ∨ m = 0
    · refine ⟨m, by omega, ?_, fun j h1 h2 => by omega, by simp only [phAt]; rw [if_pos hc]⟩
      rcases hc with h | h
      · exact h
      · rw [h]; exact h0
    · obtain ⟨k, hk, h1, h2, h3⟩ := phAt_idx ps now h0 m (by omega) (by omega)
      refine ⟨k, by omega, h1, fun j hj1 hj2 => ?_, by simp only [phAt]; rw [if_neg hc]; exact h3⟩
      rcases Nat.lt_or_ge j m with h | h
      · exact h2 j hj1 h
      · have : j = m := by omega
        subst this
        omega

/-- tick by tick -/
theorem phAt_step {ps : List (Int × Int)} (h : TableOk ps) (T : Int) (hT : 0 ≤ T) :
    ((phAt ps T ps.length).2 = T + 1 ∧ (phAt ps (T + 1) ps.length).1 ≠ (phAt ps T ps.length).1) ∨
    ((phAt ps T ps.length).2 ≠ T + 1 ∧ (phAt ps (T + 1) ps.length).1 = (phAt ps T ps.length).1 ∧ (phAt ps (T + 1) ps.length).2 = (phAt ps T ps.length).2 ∧ ((phAt ps T ps.length).2 < 0 ∨ T + 1 < (phAt ps T ps.length).2)) := by
  have hz := h.zero
  have hz1 : (ps.getD 0 (0, 0)).1 = 0 := by rw [hz]
  obtain ⟨k, hk, a1, a2, a3⟩ := phAt_idx ps T (by omega) ps.length h.1 (Nat.le_refl _)
  obtain ⟨k', hk', b1, b2, b3⟩ := phAt_idx ps (T + 1) (by omega) ps.length h.1 (Nat.le_refl _)
  rw [a3, b3]
  -- k' is k or k + 1
  have hle : k ≤ k' := by
    rcases Nat.lt_or_ge k' k with h' | h'
    · have := b2 k h' hk
      omega
    · exact h'
  by_cases hk1 : k + 1 < ps.length
  · have c1 := a2 (k + 1) (by omega) hk1
    rw [if_pos hk1]
    by_cases he : (ps.getD (k + 1) (0, 0)).1 = T + 1
    · left
      refine ⟨he, ?_⟩
      have : k' = k + 1 := by
        rcases Nat.lt_trichotomy k' (k + 1) with h' | h' | h'
        · have := b2 (k + 1) (by omega) hk1
          omega
        · exact h'
        · have := h.sorted (k + 1) (k' - (k + 1) - 1) (by omega)
          have e : k + 1 + (k' - (k + 1) - 1) + 1 = k' := by omega
          rw [e] at this
          omega
      subst this
      have := (h.step k hk1).2
      show (ps.getD (k + 1) (0, 0)).2 ≠ (ps.getD k (0, 0)).2
      omega
    · right
      have : k' = k := by
        rcases Nat.lt_or_ge k k' with h' | h'
        · exfalso
          rcases Nat.lt_or_eq_of_le h' with h'' | h''
          · have := h.sorted (k + 1) (k' - (k + 1) - 1) (by omega)
            have e : k + 1 + (k' - (k + 1) - 1) + 1 = k' := by omega
            rw [e] at this
            omega
          · subst h''
            simp only [Nat.succ_eq_add_one] at b1
            omega
        · omega
      subst this
      rw [if_pos hk1]
      exact ⟨he, rfl, rfl, .inr (by show T + 1 < (ps.getD (k' + 1) (0, 0)).1; omega)⟩
  · right
    have : k' = k := by omega
    subst this
    rw [if_neg hk1]
    exact ⟨by show (-1 : Int) ≠ T + 1; omega, rfl, rfl, .inl (by show (-1 : Int) < 0; omega)⟩

end Go.Proofs.YtakbedckjaammaaDoor
