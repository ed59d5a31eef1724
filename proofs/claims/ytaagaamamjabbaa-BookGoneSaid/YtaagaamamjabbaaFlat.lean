/-
  Slices of structs in general: elements of k cells each, by an encoding. No program of the set in sight.
-/
import Derived.WalkKit
import Derived.Below
import Derived.Lib.SliceRun
import Derived.Test.YtaagaamamjabbaaRow
import Derived.Test.YtaagaamamjabbaaFrame
namespace Go.Proofs.Ytaagaamamjabbaa
open Go.RowKit
set_option linter.unusedVariables false

section
variable {α : Type}
/-- the cells of a list of elements -/
def flat (enc : α → List Value) (xs : List α) : List Value := xs.flatMap enc
theorem flat_nil (enc : α → List Value) : flat enc [] = [] := rfl
theorem flat_cons (enc : α → List Value) (x : α) (xs : List α) : flat enc (x :: xs) = enc x ++ flat enc xs := rfl
theorem flat_append (enc : α → List Value) (xs ys : List α) : flat enc (xs ++ ys) = flat enc xs ++ flat enc ys := by simp [flat]
theorem flat_snoc (enc : α → List Value) (xs : List α) (y : α) : flat enc (xs ++ [y]) = flat enc xs ++ enc y := by simp [flat]
theorem flat_length {enc : α → List Value} {k : Nat} (hk : ∀ x, (enc x).length = k) (xs : List α) : (flat enc xs).length = xs.length * k := by
  induction xs with
  | nil => simp [flat]
  | cons x xs ih => rw [flat_cons, List.length_append, ih, hk, List.length_cons, Nat.succ_mul]; omega
theorem flat_get {enc : α → List Value} {k : Nat} (hk : ∀ x, (enc x).length = k) (xs : List α) : ∀ (i : Nat) (hi : i < xs.length) (j : Nat), j < k → (flat enc xs)[i * k + j]? = (enc xs[i])[j]? := by
  induction xs with
  | nil => intro i hi; simp at hi
  | cons x xs ih =>
    intro i hi j hj
    rw [flat_cons]
    cases i with
    | zero => rw [Nat.zero_mul, Nat.zero_add, List.getElem?_append_left (by rw [hk]; exact hj)]; rfl
    | succ i =>
      rw [List.getElem?_append_right (by rw [hk, Nat.succ_mul]; omega), hk, show (i + 1) * k + j - k = i * k + j by rw [Nat.succ_mul]; omega]
      exact ih i (by simpa using hi) j hj
theorem flat_one {enc : α → List Value} (h1 : ∀ x, ∀ u ∈ enc x, u.oneCell' = true) (xs : List α) : ∀ u ∈ flat enc xs, u.oneCell' = true := by
  intro u hu
  obtain ⟨x, _, h⟩ := List.mem_flatMap.1 hu
  exact h1 x u h
/-- some cells stored one behind the other -/
def setsFrom : List Value → Nat → List Value → List Value
  | l, _, [] => l
  | l, p, v :: vs => setsFrom (l.set p v) (p + 1) vs
theorem setsFrom_length (vs : List Value) : ∀ (l : List Value) (p : Nat), (setsFrom l p vs).length = l.length := by
  induction vs with
  | nil => intro l p; rfl
  | cons v vs ih => intro l p; rw [setsFrom, ih, List.length_set]
theorem setsFrom_right (vs : List Value) : ∀ (l : List Value) (pre : List Value) (q : Nat), setsFrom (pre ++ l) (pre.length + q) vs = pre ++ setsFrom l q vs := by
  induction vs with
  | nil => intro l pre q; rfl
  | cons v vs ih =>
    intro l pre q
    have e : (pre ++ l).set (pre.length + q) v = pre ++ l.set q v := by rw [List.set_append, if_neg (by omega), show pre.length + q - pre.length = q by omega]
    rw [setsFrom, setsFrom, e, Nat.add_assoc, ih]
theorem setsFrom_head (vs : List Value) : ∀ (l rest : List Value), l.length = vs.length → setsFrom (l ++ rest) 0 vs = vs ++ rest := by
  induction vs with
  | nil => intro l rest h; simp at h; subst h; rfl
  | cons v vs ih =>
    intro l rest h
    cases l with
    | nil => simp at h
    | cons a l =>
      have h' : l.length = vs.length := by simpa using h
      rw [setsFrom]
      show setsFrom ([v] ++ (l ++ rest)) ([v].length + 0) vs = _
      rw [setsFrom_right, ih l rest h']; rfl
theorem flat_sets {enc : α → List Value} {k : Nat} (hk : ∀ x, (enc x).length = k) (y : α) (xs : List α) : ∀ i, i < xs.length → setsFrom (flat enc xs) (i * k) (enc y) = flat enc (xs.set i y) := by
  induction xs with
  | nil => intro i hi; simp at hi
  | cons x xs ih =>
    intro i hi
    rw [flat_cons]
    cases i with
    | zero => rw [Nat.zero_mul, setsFrom_head _ _ _ (by rw [hk, hk])]; rfl
    | succ i =>
      have e : (i + 1) * k = (enc x).length + i * k := by rw [hk, Nat.succ_mul]; omega
      rw [e, setsFrom_right, ih i (by simpa using hi)]; rfl
theorem flat_take {enc : α → List Value} {k : Nat} (hk : ∀ x, (enc x).length = k) (xs : List α) : ∀ m, (flat enc xs).take (m * k) = flat enc (xs.take m) := by
  induction xs with
  | nil => intro m; simp [flat]
  | cons x xs ih =>
    intro m
    cases m with
    | zero => simp [flat]
    | succ m => rw [flat_cons, List.take_succ_cons, flat_cons, List.take_append, hk, List.take_of_length_le (by rw [hk, Nat.succ_mul]; omega), show (m + 1) * k - k = m * k by rw [Nat.succ_mul]; omega, ih]

/-- a slice whose elements lie where they are read -/
def ElemsAt (w : World) (enc : α → List Value) (k : Nat) (A : Option Addr) (len : Nat) (xs : List α) : Prop :=
  xs.length = len ∧ (0 < len → ∃ b off, A = some ⟨b, off, none⟩ ∧ b < w.heap.size ∧ ∀ i (hi : i < xs.length) j u, (enc xs[i])[j]? = some u → w.cell? ⟨b, off + i * k + j, none⟩ = some u)
variable {w w' : World} {enc : α → List Value} {k : Nat} {A : Option Addr} {len : Nat} {xs : List α}
theorem ElemsAt.below {B : Nat} (h : ElemsAt w enc k A len xs) (hb : Below B w w') (hB : w.heap.size ≤ B) : ElemsAt w' enc k A len xs := by
  refine ⟨h.1, fun hl => ?_⟩
  obtain ⟨b, off, hA, hlt, hc⟩ := h.2 hl
  have hs := hb.size
  exact ⟨b, off, hA, by omega, fun i hi j u hu => (hb.cell (p := ⟨b, _, none⟩) (by show b < B; omega)).trans (hc i hi j u hu)⟩
theorem ElemsAt.keeps {S : Nat → Prop} (h : ElemsAt w enc k A len xs) (hk : Keeps S w w') (hn : ∀ g, blkOf A = some g → ¬ S g) : ElemsAt w' enc k A len xs := by
  refine ⟨h.1, fun hl => ?_⟩
  obtain ⟨b, off, rfl, hlt, hc⟩ := h.2 hl
  have hs := hk.size
  exact ⟨b, off, rfl, by omega, fun i hi j u hu => (hk.cell (p := ⟨b, _, none⟩) hlt (hn b rfl)).trans (hc i hi j u hu)⟩
theorem ElemsAt.at_ {b off : Nat} (h : ElemsAt w enc k (some ⟨b, off, none⟩) len xs) {i : Nat} (hi : i < xs.length) {j : Nat} {u : Value} (hu : (enc xs[i])[j]? = some u) : w.cell? ⟨b, off + i * k + j, none⟩ = some u := by
  have hl : 0 < len := by have := h.1; omega
  obtain ⟨b', off', hA, _, hc⟩ := h.2 hl
  cases hA
  exact hc i hi j u hu
theorem add_none (b o j : Nat) : (⟨b, o, none⟩ : Addr).add j = ⟨b, o + j, none⟩ := by
  unfold Addr.add
  split
  · rename_i h; subst h; rfl
  · rfl
theorem ElemsAt.news {b off : Nat} (hk : ∀ x, (enc x).length = k) (h : ElemsAt w enc k (some ⟨b, off, none⟩) len xs) : ∀ j u, (flat enc xs)[j]? = some u → w.cell? ((⟨b, off, none⟩ : Addr).add j) = some u := by
  intro j u hu
  have hj : j < xs.length * k := by
    rw [← flat_length hk]
    rcases Nat.lt_or_ge j (flat enc xs).length with h | h
    · exact h
    · rw [List.getElem?_eq_none h] at hu; cases hu
  have hk0 : 0 < k := by
    rcases Nat.eq_zero_or_pos k with h | h
    · subst h; omega
    · exact h
  have hi : j / k < xs.length := (Nat.div_lt_iff_lt_mul hk0).2 hj
  have hm : j % k < k := Nat.mod_lt _ hk0
  have e : j / k * k + j % k = j := by have := Nat.div_add_mod j k; rw [Nat.mul_comm] at this; omega
  rw [add_none, ← e, ← Nat.add_assoc]
  exact h.at_ hi (by rw [← flat_get hk xs _ hi _ hm, e]; exact hu)
theorem ElemsAt.of_row {n c : Nat} {t : TypeId} (hk : ∀ x, (enc x).length = k) (hk0 : 0 < k) (h : RowAt w A n c t k (flat enc xs)) : ElemsAt w enc k A n xs := by
  have hl : xs.length = n := by
    have := h.1
    rw [flat_length hk] at this
    exact Nat.eq_of_mul_eq_mul_right hk0 this
  refine ⟨hl, fun hn => ?_⟩
  rcases h.2 with ⟨_, h0⟩ | ⟨g, cap, cur, hv, _⟩
  · omega
  · cases hv
    refine ⟨g, 0, rfl, h.lt rfl, fun i hi j u hu => ?_⟩
    have hj : j < k := by
      rcases Nat.lt_or_ge j k with h | h
      · exact h
      · rw [List.getElem?_eq_none (by rw [hk]; exact h)] at hu; cases hu
    obtain ⟨g', hg, hc⟩ := h.cell ((flat_get hk xs i hi j hj).trans hu)
    cases hg
    rw [Nat.zero_add]
    exact hc
/-- an element of an own slice -/
theorem RowAt.elem {n c : Nat} {t : TypeId} (hk : ∀ x, (enc x).length = k) (hk0 : 0 < k) (h : RowAt w A n c t k (flat enc xs)) {i : Nat} (hi : i < xs.length) : ∃ g, A = some ⟨g, 0, none⟩ ∧ ∀ j u, (enc xs[i])[j]? = some u → w.cell? ⟨g, i * k + j, none⟩ = some u := by
  rcases h.2 with ⟨_, h0⟩ | ⟨g, cap, cur, hv, _⟩
  · have := h.1
    rw [flat_length hk, h0] at this
    have h2 : xs.length * k = 0 := by omega
    rcases Nat.mul_eq_zero.1 h2 with h3 | h3
    · omega
    · omega
  · cases hv
    refine ⟨g, rfl, fun j u hu => ?_⟩
    have hj : j < k := by
      rcases Nat.lt_or_ge j k with h | h
      · exact h
      · rw [List.getElem?_eq_none (by rw [hk]; exact h)] at hu; cases hu
    obtain ⟨g', hg, hc⟩ := h.cell ((flat_get hk xs i hi j hj).trans hu)
    cases hg
    exact hc
end
end Go.Proofs.Ytaagaamamjabbaa
