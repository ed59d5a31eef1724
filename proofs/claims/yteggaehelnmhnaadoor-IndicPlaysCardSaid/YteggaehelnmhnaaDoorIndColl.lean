/-
  IndicPlays: the orders that are made up of the lots, place by place. No walk.
-/
import Derived.Test.YteggaehelnmhnaaDoorIndSum
namespace Go.Proofs.YteggaehelnmhnaaDoor
open Go.RowKit
set_option linter.unusedVariables false

/-- the orders made up of the places that are not left -/
structure Coll (f : Tri → Option Int) (left : Tri → Bool) (hs : List Tri) (l : List Ord5) : Prop where
  ok : AllOk l
  sum : ∀ x, sumQ x l = if left x = true then 0 else (f x).getD 0
  len : l.length ≤ (hs.filter fun x => !left x).length
  price : ∀ o ∈ l, o.kind ≠ 2 → 1 ≤ o.price ∧ o.price ≤ 1000000
/-- .. and m orders of one more place, of which n lots are left -/
structure CollIn (f : Tri → Option Int) (left : Tri → Bool) (hs : List Tri) (x : Tri) (c : Int) (l : List Ord5) (n : Int) (m : Nat) : Prop where
  ok : AllOk l
  sum : ∀ y, sumQ y l = (if left y = true then 0 else (f y).getD 0) + if x = y then c - n else 0
  len : l.length ≤ (hs.filter fun x => !left x).length + m
  cnt : m ≤ hs.count x
  n0 : 0 ≤ n
  nm : n = c - 1000000 * m ∨ n = 0
  price : ∀ o ∈ l, o.kind ≠ 2 → 1 ≤ o.price ∧ o.price ≤ 1000000
def ordT (x : Tri) (q : Int) : Ord5 := ⟨0, x.1, x.2.1, x.2.2, q⟩
theorem coll_nil {f : Tri → Option Int} {hs : List Tri} : Coll f (fun x => (f x).isSome) hs [] :=
  ⟨fun o ho => (by cases ho), fun x => by
    show (0 : Int) = _
    cases h : f x <;> simp, Nat.zero_le _, fun o ho => (by cases ho)⟩
theorem Coll.open_ {f : Tri → Option Int} {left : Tri → Bool} {hs : List Tri} {l : List Ord5} (h : Coll f left hs l) (x : Tri) {c : Int} (hc : 0 ≤ c) : CollIn f left hs x c l c 0 :=
  ⟨h.ok, fun y => by rw [h.sum]; split <;> split <;> omega, h.len, Nat.zero_le _, hc, .inl (by omega), h.price⟩
theorem CollIn.step {f : Tri → Option Int} {left : Tri → Bool} {hs : List Tri} {x : Tri} {c : Int} {l : List Ord5} {n : Int} {m : Nat} (h : CollIn f left hs x c l n m) (hn : 0 < n) (hc : c ≤ 1000000 * hs.count x) (hx : x.1 = 1 ∨ x.1 = 2) (hp : x.2.1 ≠ 2 → 1 ≤ x.2.2 ∧ x.2.2 ≤ 1000000)
    {q : Int} (hq1 : 1 ≤ q) (hq2 : q ≤ 1000000) (hq3 : q = n ∨ q = 1000000) (hq4 : q ≤ n) : CollIn f left hs x c (l ++ [ordT x q]) (n - q) (m + 1) := by
  have hnm := h.nm
  have hok : okO (ordT x q) = true := by
    unfold okO ordT
    simp
    exact ⟨⟨hq1, hq2⟩, hx⟩
  refine ⟨fun o ho => ?_, fun y => ?_, ?_, ?_, by omega, by omega, fun o ho => ?_⟩
  · rcases List.mem_append.1 ho with ho | ho
    · exact h.ok o ho
    · rw [List.mem_singleton] at ho; subst ho; exact hok
  · rw [sumQ_snoc, h.sum]
    have e : keyT (ordT x q) = x := rfl
    rw [e]
    show _ + (if x = y then q else 0) = _
    by_cases e2 : x = y
    · simp only [if_pos e2]; omega
    · simp only [if_neg e2]; omega
  · have := h.len; rw [List.length_append]; simp; omega
  · have := h.cnt; omega
  · rcases List.mem_append.1 ho with ho | ho
    · exact h.price o ho
    · rw [List.mem_singleton] at ho; subst ho; exact hp
theorem filter_left {left : Tri → Bool} {x : Tri} (hx : left x = true) : ∀ hs : List Tri, (hs.filter fun y => !(left y && !(y == x))).length = (hs.filter fun y => !left y).length + hs.count x := by
  intro hs
  induction hs with
  | nil => rfl
  | cons y t ih =>
    by_cases e : y = x
    · subst e
      rw [List.filter_cons_of_pos (by simp), List.filter_cons_of_neg (by simp [hx]), List.count_cons_self, List.length_cons, ih]
      omega
    · have e1 : (y == x) = false := beq_eq_false_iff_ne.2 e
      have e2 : (!(left y && !(y == x))) = !left y := by rw [e1]; simp
      rw [List.count_cons_of_ne e]
      cases hl : left y with
      | true => rw [List.filter_cons_of_neg (by rw [e2, hl]; simp), List.filter_cons_of_neg (by rw [hl]; simp), ih]
      | false => rw [List.filter_cons_of_pos (by rw [e2, hl]; rfl), List.filter_cons_of_pos (by rw [hl]; rfl), List.length_cons, List.length_cons, ih]; omega
theorem CollIn.shut {f : Tri → Option Int} {left : Tri → Bool} {hs : List Tri} {x : Tri} {c : Int} {l : List Ord5} {m : Nat} (h : CollIn f left hs x c l 0 m) (hx : left x = true) (hc : f x = some c) : Coll f (fun z => left z && !(z == x)) hs l := by
  refine ⟨h.ok, fun y => ?_, ?_, h.price⟩
  · rw [h.sum]
    by_cases e : x = y
    · subst e
      rw [if_pos hx, if_pos rfl, hc]
      simp
    · rw [if_neg e]
      have e1 : (y == x) = false := beq_eq_false_iff_ne.2 (fun h => e h.symm)
      simp only [e1, Bool.not_false, Bool.and_true, Int.add_zero]
  · have := h.len; have := h.cnt; rw [filter_left hx]; omega
theorem RelF.fit {lv : List Tri} {bu se : Int} {f : Tri → Option Int} (h : RelF lv bu se f) {x : Tri} (hx : ¬ FitT x) : f x = none := by
  cases hf : f x with
  | none => rfl
  | some v =>
    exfalso
    obtain ⟨-, h3⟩ := h.pos x v hf
    rcases h3 with rfl | rfl | ⟨p, h1, h2, rfl | rfl⟩
    all_goals exact hx (FitT.of (by dsimp only; omega) (by dsimp only; omega) (by dsimp only; omega))
theorem Coll.makes {lv : List Tri} {bu se : Int} {f : Tri → Option Int} {left : Tri → Bool} {hs : List Tri} {l : List Ord5} (h : Coll f left hs l) (hr : RelF lv bu se f) (hl : ∀ x, FitT x → left x = false) : Makes f l := by
  refine ⟨h.ok, fun x => ?_⟩
  rw [h.sum]
  by_cases hx : FitT x
  · rw [hl x hx]; rfl
  · rw [hr.fit hx]; split <;> rfl
theorem Coll.short {f : Tri → Option Int} {left : Tri → Bool} {hs : List Tri} {l : List Ord5} (h : Coll f left hs l) : l.length ≤ hs.length := Nat.le_trans h.len (List.length_filter_le _ _)
theorem RelF.side {lv : List Tri} {bu se : Int} {f : Tri → Option Int} (h : RelF lv bu se f) {x : Tri} {c : Int} (hx : f x = some c) : 1 ≤ c ∧ (x.1 = 1 ∨ x.1 = 2) ∧ (x.2.1 ≠ 2 → 1 ≤ x.2.2 ∧ x.2.2 ≤ 1000000) := by
  obtain ⟨h1, h3⟩ := h.pos x c hx
  refine ⟨h1, ?_⟩
  rcases h3 with rfl | rfl | ⟨p, h1, h2, rfl | rfl⟩
  all_goals simp
  all_goals omega
end Go.Proofs.YteggaehelnmhnaaDoor
