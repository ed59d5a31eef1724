/-
  The plain law of CurveBest: at no price is more traded than at the best point. No walk.
-/
import Derived.Test.YteggaehelnmhnaaCurvePlain
import Derived.Test.YteggaehelnmhnaaChoosePlain
import Derived.Test.YteggaehelnmhnaaKeepSome
namespace Go.Proofs.Yteggaehelnmhnaa
open Go.RowKit
set_option linter.unusedVariables false

theorem max_of (L : List Int) (h : L ≠ []) : ∃ q ∈ L, ∀ r ∈ L, r ≤ q := by
  induction L with
  | nil => exact absurd rfl h
  | cons a L ih =>
    by_cases hL : L = []
    · subst hL; exact ⟨a, by simp, fun r hr => by simp at hr; omega⟩
    · obtain ⟨q, hq, h1⟩ := ih hL
      by_cases hc : a ≤ q
      · exact ⟨q, by simp [hq], fun r hr => by rcases List.mem_cons.1 hr with rfl | hr; exact hc; exact h1 r hr⟩
      · exact ⟨a, by simp, fun r hr => by rcases List.mem_cons.1 hr with rfl | hr; exact Int.le_refl _; have := h1 r hr; omega⟩
theorem least_from (p : Int) (L : List Int) : (∃ q ∈ L, p ≤ q ∧ ∀ r ∈ L, p ≤ r → q ≤ r) ∨ ∀ r ∈ L, r < p := by
  induction L with
  | nil => right; intro r hr; cases hr
  | cons a L ih =>
    rcases ih with ⟨q, hq, h1, h2⟩ | h
    · by_cases hc : p ≤ a ∧ a ≤ q
      · left
        exact ⟨a, by simp, hc.1, fun r hr hp => by rcases List.mem_cons.1 hr with rfl | hr; exact Int.le_refl _; have := h2 r hr hp; omega⟩
      · left
        exact ⟨q, by simp [hq], h1, fun r hr hp => by rcases List.mem_cons.1 hr with rfl | hr; omega; exact h2 r hr hp⟩
    · by_cases hc : p ≤ a
      · left
        exact ⟨a, by simp, hc, fun r hr hp => by rcases List.mem_cons.1 hr with rfl | hr; exact Int.le_refl _; have := h r hr; omega⟩
      · right
        intro r hr
        rcases List.mem_cons.1 hr with rfl | hr
        · omega
        · exact h r hr
/-- a price of the list that no price beats -/
theorem stand_in (p : Int) (L : List Int) (h : L ≠ []) : ∃ q ∈ L, (∀ r ∈ L, p ≤ r → q ≤ r) ∧ ∀ r ∈ L, r ≤ p → r ≤ q := by
  rcases least_from p L with ⟨q, hq, h1, h2⟩ | h1
  · exact ⟨q, hq, h2, fun r hr hp => by omega⟩
  · obtain ⟨q, hq, h2⟩ := max_of L h
    exact ⟨q, hq, fun r hr hp => by have := h1 r hr; omega, fun r hr _ => h2 r hr⟩

theorem fold_mono (F G : Ord5 → Int) (l : List Ord5) (h : ∀ o ∈ l, F o ≤ G o) : ∀ s t : Int, s ≤ t → l.foldl (fun s o => s + F o) s ≤ l.foldl (fun s o => s + G o) t := by
  induction l with
  | nil => intro s t h; exact h
  | cons a l ih =>
    intro s t hs
    rw [List.foldl_cons, List.foldl_cons]
    have := h a (by simp)
    exact ih (fun o ho => h o (by simp [ho])) _ _ (by omega)

theorem dd_mem (L : List Int) (x : Int) : x ∈ dd (L.mergeSort fun x y => decide (x ≤ y)) ↔ x ∈ L := by
  have tr : ∀ a b c : Int, (decide (a ≤ b)) = true → (decide (b ≤ c)) = true → (decide (a ≤ c)) = true := fun a b c h1 h2 => by simp at *; omega
  have tot : ∀ a b : Int, (decide (a ≤ b) || decide (b ≤ a)) = true := fun a b => by simp; omega
  have hs' : (L.mergeSort fun x y => decide (x ≤ y)).Pairwise (· ≤ ·) := (List.pairwise_mergeSort tr tot L).imp (fun h => by simpa using h)
  obtain ⟨_, g2⟩ := dd_fold (L.mergeSort fun x y => decide (x ≤ y)) [] none List.Pairwise.nil (fun x hx => by cases hx) (fun y h => by cases h) (fun _ => rfl) hs'
  show x ∈ (List.foldl ddF ([], none) _).1 ↔ _
  rw [g2]
  simp [List.mem_mergeSort]

/-- orders that may all lie -/
def AllOk (l : List Ord5) : Prop := ∀ o ∈ l, okO o = true
theorem goodL_all {l : List Ord5} (h : AllOk l) : goodL l = l := List.filter_eq_self.2 h
theorem mem_prices {l : List Ord5} {more : Int} (h : AllOk l) {o : Ord5} (ho : o ∈ l) (hk : ¬ o.kind = 2) : o.price ∈ pricesL l more := by
  unfold pricesL
  rw [goodL_all h]
  refine List.mem_append.2 (.inr (List.mem_map.2 ⟨o, List.mem_filter.2 ⟨ho, by simp [hk]⟩, rfl⟩))

theorem no_more {l : List Ord5} {more : Int} (h : AllOk l) (hm : 1 ≤ more) (p : Int) : ∃ y ∈ curveP l more, min (demL p l) (supL p l) ≤ traded y := by
  have hne : pricesL l more ≠ [] := by unfold pricesL; rw [if_pos hm]; simp
  obtain ⟨q, hq, h1, h2⟩ := stand_in p (pricesL l more) hne
  refine ⟨pointOf (goodL l) q, List.mem_map.2 ⟨q, (dd_mem _ _).2 hq, rfl⟩, ?_⟩
  rw [goodL_all h]
  have d1 : demL p l ≤ demL q l := fold_mono (demQ p) (demQ q) l (fun o ho => by
    have hb := okO_qty (h o ho)
    unfold demQ
    by_cases hk : o.kind = 2
    · simp [hk]
    · have := h1 o.price (mem_prices h ho hk)
      by_cases hs : o.side = 1 <;> by_cases hp : p ≤ o.price <;> by_cases hp2 : q ≤ o.price <;> simp [hk, hs, hp, hp2] <;> omega) 0 0 (Int.le_refl _)
  have d2 : supL p l ≤ supL q l := fold_mono (supQ p) (supQ q) l (fun o ho => by
    have hb := okO_qty (h o ho)
    unfold supQ
    by_cases hk : o.kind = 2
    · simp [hk]
    · have := h2 o.price (mem_prices h ho hk)
      by_cases hs : o.side = 2 <;> by_cases hp : o.price ≤ p <;> by_cases hp2 : o.price ≤ q <;> simp [hk, hs, hp, hp2] <;> omega) 0 0 (Int.le_refl _)
  show min (demL p l) (supL p l) ≤ min (demL q l) (supL q l)
  omega

theorem foldR_mem (b1 b2 : Bool) (r : Int) (l : List Tri) : ∀ x, foldR b1 b2 r x l = x ∨ foldR b1 b2 r x l ∈ l := by
  induction l with
  | nil => intro x; left; rfl
  | cons a l ih =>
    intro x
    have e : foldR b1 b2 r x (a :: l) = foldR b1 b2 r (if betterR b1 b2 r a x = true then a else x) l := rfl
    rw [e]
    by_cases hc : betterR b1 b2 r a x = true
    · rw [if_pos hc]
      rcases ih a with h | h
      · right; rw [h]; simp
      · right; simp [h]
    · rw [if_neg hc]
      rcases ih x with h | h
      · left; exact h
      · right; simp [h]

/-- what was chosen: nothing, and no point trades; or a point that trades most -/
theorem choose_spec (l : List Tri) (r : Int) : (chooseP l r = (0, 0, 0) ∧ ∀ y ∈ l, traded y ≤ 0) ∨ ∃ y ∈ l, chooseP l r = (y.1, traded y, y.2.1 - y.2.2) ∧ 1 ≤ traded y ∧ ∀ z ∈ l, traded z ≤ traded y := by
  rw [choose_same]
  obtain ⟨h1, h0, h2⟩ := mostR_spec l
  unfold rchooseP
  by_cases hm : mostR l < 1
  · left
    rw [if_pos hm]
    exact ⟨rfl, fun y hy => by have := h2 y hy; omega⟩
  · right
    rw [if_neg hm]
    have hne := bestR_ne l (by omega)
    cases hb : bestR (mostR l) (leastR (mostR l) l).1 l with
    | nil => exact absurd hb hne
    | cons x b =>
      have hmem : foldR (buysR (x :: b)) (sellsR (x :: b)) r x (x :: b) ∈ bestR (mostR l) (leastR (mostR l) l).1 l := by
        rw [hb]
        rcases foldR_mem (buysR (x :: b)) (sellsR (x :: b)) r (x :: b) x with h | h
        · rw [h]; simp
        · exact h
      obtain ⟨g1, g2⟩ := List.mem_filter.1 hmem
      simp only [Bool.and_eq_true, beq_iff_eq] at g2
      refine ⟨_, g1, rfl, by rw [g2.1]; omega, fun z hz => by rw [g2.1]; exact h2 z hz⟩

/-- the plain law -/
theorem best_spec {l : List Ord5} {more : Int} (h : AllOk l) (hm : 1 ≤ more) (r : Int) :
    (∀ p, min (demL p l) (supL p l) ≤ (chooseP (curveP l more) r).2.1) ∧
    (0 < (chooseP (curveP l more) r).2.1 → (chooseP (curveP l more) r).2.1 = min (demL (chooseP (curveP l more) r).1 l) (supL (chooseP (curveP l more) r).1 l) ∧ (chooseP (curveP l more) r).2.2 = demL (chooseP (curveP l more) r).1 l - supL (chooseP (curveP l more) r).1 l) := by
  rcases choose_spec (curveP l more) r with ⟨e, h1⟩ | ⟨y, hy, e, hy1, h1⟩
  · rw [e]
    refine ⟨fun p => ?_, fun h0 => absurd h0 (by simp)⟩
    obtain ⟨z, hz, hz2⟩ := no_more h hm p
    have := h1 z hz
    show _ ≤ (0 : Int)
    omega
  · rw [e]
    refine ⟨fun p => ?_, fun _ => ?_⟩
    · obtain ⟨z, hz, hz2⟩ := no_more h hm p
      have := h1 z hz
      show _ ≤ traded y
      omega
    · obtain ⟨q, hq, rfl⟩ := List.mem_map.1 hy
      rw [goodL_all h]
      exact ⟨rfl, rfl⟩

theorem someL_ok (l : List Ord5) : AllOk (someL l) := by
  intro o ho
  unfold someL at ho
  obtain ⟨i, hi, rfl⟩ := List.mem_mapIdx.1 ho
  unfold someO okO
  have h1 := pk_nonneg ((l.take 60)[i]).qty 30 (by omega)
  have h2 := pk_lt ((l.take 60)[i]).qty 30 (by omega)
  have h3 := pk_nonneg ((l.take 60)[i]).side 2 (by omega)
  have h4 := pk_lt ((l.take 60)[i]).side 2 (by omega)
  generalize pk ((l.take 60)[i]).qty 30 = a at h1 h2 ⊢
  generalize pk ((l.take 60)[i]).side 2 = b at h3 h4 ⊢
  simp
  omega
theorem someL_fit (l : List Ord5) : ∀ o ∈ someL l, FitO o := by
  intro o ho
  unfold someL at ho
  obtain ⟨i, hi, rfl⟩ := List.mem_mapIdx.1 ho
  have hi2 : (l.take 60).length ≤ 60 := by rw [List.length_take]; omega
  have h1 := pk_nonneg ((l.take 60)[i]).qty 30 (by omega)
  have h2 := pk_lt ((l.take 60)[i]).qty 30 (by omega)
  have h3 := pk_nonneg ((l.take 60)[i]).side 2 (by omega)
  have h4 := pk_lt ((l.take 60)[i]).side 2 (by omega)
  have h5 := pk_nonneg ((l.take 60)[i]).price 60 (by omega)
  have h6 := pk_lt ((l.take 60)[i]).price 60 (by omega)
  have hk : 1 ≤ kindAt (pk ((l.take 60)[i]).kind 5) ∧ kindAt (pk ((l.take 60)[i]).kind 5) ≤ 3 := by unfold kindAt; split <;> (try split) <;> omega
  unfold FitO Fit64 someO
  dsimp only
  omega
theorem someL_len (l : List Ord5) : (someL l).length ≤ 60 := by unfold someL; rw [List.length_mapIdx, List.length_take]; omega
theorem someL_price (l : List Ord5) : ∀ o ∈ someL l, 1 ≤ o.price ∧ o.price ≤ 60 := by
  intro o ho
  unfold someL at ho
  obtain ⟨i, hi, rfl⟩ := List.mem_mapIdx.1 ho
  have h5 := pk_nonneg ((l.take 60)[i]).price 60 (by omega)
  have h6 := pk_lt ((l.take 60)[i]).price 60 (by omega)
  unfold someO
  dsimp only
  omega

theorem points_near {l : List Ord5} {more : Int} (hl : l.length ≤ 60) (hp : ∀ o ∈ l, 1 ≤ o.price ∧ o.price ≤ 60) (hm : more ≤ 1000) : ∀ y ∈ curveP l more, Near y := by
  intro y hy
  obtain ⟨q, hq, rfl⟩ := List.mem_map.1 hy
  have hq2 : 1 ≤ q ∧ q ≤ 1000 := by
    have hq := (dd_mem _ _).1 hq
    unfold pricesL at hq
    rcases List.mem_append.1 hq with hq | hq
    · split at hq
      · simp at hq; omega
      · cases hq
    · obtain ⟨o, ho, rfl⟩ := List.mem_map.1 hq
      have := hp o (List.mem_filter.1 (List.mem_filter.1 ho).1).1
      omega
  have h1 := demL_bound (p := q) (goodL_ok (l := l))
  have h2 := supL_bound (p := q) (goodL_ok (l := l))
  have h3 : (goodL l).length ≤ l.length := List.length_filter_le okO l
  have h4 : ((goodL l).length : Int) ≤ 60 := by omega
  unfold Near pointOf
  dsimp only
  omega

def chosenL : List Ord5 := [⟨1, 1, 1, 10, 5⟩, ⟨2, 2, 1, 8, 3⟩]
theorem chosen_curve : curveP chosenL 0 = [(8, 5, 3), (10, 5, 3)] := by
  have h1 : pricesL chosenL 0 = [10, 8] := by decide +kernel
  have h2 : ([10, 8] : List Int).mergeSort (fun x y => decide (x ≤ y)) = [8, 10] := by
    have tr : ∀ a b c : Int, (decide (a ≤ b)) = true → (decide (b ≤ c)) = true → (decide (a ≤ c)) = true := fun a b c h1 h2 => by simp at *; omega
    have tot : ∀ a b : Int, (decide (a ≤ b) || decide (b ≤ a)) = true := fun a b => by simp; omega
    refine List.Perm.eq_of_pairwise (le := fun a b => a ≤ b) (fun a b _ _ h1 h2 => by omega) ((List.pairwise_mergeSort tr tot _).imp (fun h => by simpa using h)) (by simp) ?_
    exact (List.mergeSort_perm _ _).trans (List.Perm.swap _ _ _)
  unfold curveP
  rw [h1, h2]
  decide +kernel
theorem chosen_choice : chooseP (curveP chosenL 0) 9 = (10, 3, 2) := by
  rw [chosen_curve]
  decide +kernel
theorem chosen_fit : ∀ o ∈ chosenL, FitO o := by
  intro o ho
  unfold chosenL at ho
  rcases List.mem_cons.1 ho with rfl | ho
  · unfold FitO Fit64; dsimp only; omega
  · rcases List.mem_cons.1 ho with rfl | ho
    · unfold FitO Fit64; dsimp only; omega
    · cases ho
theorem chosen_near : ∀ y ∈ curveP chosenL 0, Near y := by
  rw [chosen_curve]
  intro y hy
  rcases List.mem_cons.1 hy with rfl | hy
  · unfold Near; dsimp only; omega
  · rcases List.mem_cons.1 hy with rfl | hy
    · unfold Near; dsimp only; omega
    · cases hy
end Go.Proofs.Yteggaehelnmhnaa
