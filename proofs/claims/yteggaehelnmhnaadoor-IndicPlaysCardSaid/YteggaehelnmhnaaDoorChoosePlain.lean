/-
  The plain law of the choice: one point after the other, or all that are the greatest: the same point. No walk.
-/
import Derived.Test.YteggaehelnmhnaaDoorChoose
namespace Go.Proofs.YteggaehelnmhnaaDoor
open Go.RowKit
set_option linter.unusedVariables false

def absI (x : Int) : Int := if x < 0 then -x else x
def absP (p : Tri) : Int := absI (p.2.1 - p.2.2)
def mostR (l : List Tri) : Int := l.foldl (fun m p => max m (traded p)) 0
def leastR (most : Int) (l : List Tri) : Int × Bool := l.foldl (fun s p => if traded p = most ∧ (s.2 = false ∨ absP p < s.1) then (absP p, true) else s) (0, false)
def bestR (most least : Int) (l : List Tri) : List Tri := l.filter fun p => (traded p == most) && (absP p == least)
def buysR (l : List Tri) : Bool := l.all fun p => decide (p.2.2 < p.2.1)
def sellsR (l : List Tri) : Bool := l.all fun p => decide (p.2.1 < p.2.2)
def betterR (buys sells : Bool) (r : Int) (p x : Tri) : Bool :=
  if buys then decide (x.1 < p.1) else if sells then decide (p.1 < x.1) else decide (absI (p.1 - r) < absI (x.1 - r)) || (absI (p.1 - r) == absI (x.1 - r) && decide (p.1 < x.1))
def foldR (buys sells : Bool) (r : Int) (x : Tri) (l : List Tri) : Tri := l.foldl (fun x p => if betterR buys sells r p x = true then p else x) x
def lastR (r : Int) : List Tri → Tri
  | [] => (0, 0, 0)
  | x :: b => quoteOf [foldR (buysR (x :: b)) (sellsR (x :: b)) r x (x :: b)]
def rchooseP (l : List Tri) (r : Int) : Tri := if mostR l < 1 then (0, 0, 0) else lastR r (bestR (mostR l) (leastR (mostR l) l).1 l)

theorem absI_eq (x : Int) : absI x = max x (-x) := by unfold absI; split <;> omega
theorem absP_eq (p : Tri) : absP p = leftOf p := by unfold absP leftOf; rw [absI_eq]; omega

theorem mostR_fold (l : List Tri) : ∀ m : Int, (l.foldl (fun m p => max m (traded p)) m = m ∨ ∃ p ∈ l, traded p = l.foldl (fun m p => max m (traded p)) m) ∧ m ≤ l.foldl (fun m p => max m (traded p)) m ∧ ∀ p ∈ l, traded p ≤ l.foldl (fun m p => max m (traded p)) m := by
  induction l with
  | nil => intro m; exact ⟨.inl rfl, Int.le_refl _, fun p hp => by cases hp⟩
  | cons a l ih =>
    intro m
    obtain ⟨h1, h2, h3⟩ := ih (max m (traded a))
    rw [List.foldl_cons]
    have e1 := Int.le_max_left m (traded a)
    have e2 := Int.le_max_right m (traded a)
    refine ⟨?_, by omega, fun p hp => ?_⟩
    · rcases h1 with h1 | ⟨p, hp, e⟩
      · rcases Int.le_total m (traded a) with h | h
        · right; exact ⟨a, by simp, by rw [h1]; omega⟩
        · left; rw [h1]; omega
      · exact .inr ⟨p, by simp [hp], e⟩
    · rcases List.mem_cons.1 hp with rfl | hp
      · omega
      · exact h3 p hp
theorem mostR_spec (l : List Tri) : (mostR l = 0 ∨ ∃ p ∈ l, traded p = mostR l) ∧ 0 ≤ mostR l ∧ ∀ p ∈ l, traded p ≤ mostR l := mostR_fold l 0

theorem leastR_fold (m : Int) (l : List Tri) : ∀ s : Int × Bool,
    let t := l.foldl (fun s p => if traded p = m ∧ (s.2 = false ∨ absP p < s.1) then (absP p, true) else s) s
    (t = s ∨ (t.2 = true ∧ ∃ p ∈ l, traded p = m ∧ absP p = t.1)) ∧ (s.2 = true → t.2 = true ∧ t.1 ≤ s.1) ∧ ∀ p ∈ l, traded p = m → t.2 = true ∧ t.1 ≤ absP p := by
  induction l with
  | nil => intro s; exact ⟨.inl rfl, fun h => ⟨h, Int.le_refl _⟩, fun p hp => by cases hp⟩
  | cons a l ih =>
    intro s
    rw [List.foldl_cons]
    by_cases hc : traded a = m ∧ (s.2 = false ∨ absP a < s.1)
    · rw [if_pos hc]
      obtain ⟨h1, h2, h3⟩ := ih (absP a, true)
      obtain ⟨g1, g2⟩ := h2 rfl
      refine ⟨?_, fun hs => ⟨g1, ?_⟩, fun p hp ht => ?_⟩
      · rcases h1 with h1 | ⟨e, p, hp, e2⟩
        · exact .inr ⟨g1, a, by simp, hc.1, by rw [h1]⟩
        · exact .inr ⟨e, p, by simp [hp], e2⟩
      · rcases hc.2 with h | h
        · rw [hs] at h; cases h
        · exact Int.le_trans g2 (Int.le_of_lt h)
      · rcases List.mem_cons.1 hp with rfl | hp
        · exact ⟨g1, g2⟩
        · exact h3 p hp ht
    · rw [if_neg hc]
      obtain ⟨h1, h2, h3⟩ := ih s
      refine ⟨?_, h2, fun p hp ht => ?_⟩
      · rcases h1 with h1 | ⟨e, p, hp, e2⟩
        · exact .inl h1
        · exact .inr ⟨e, p, by simp [hp], e2⟩
      · rcases List.mem_cons.1 hp with rfl | hp
        · have hs : s.2 = true := by
            cases h : s.2 with
            | true => rfl
            | false => exact absurd ⟨ht, .inl h⟩ hc
          obtain ⟨g1, g2⟩ := h2 hs
          refine ⟨g1, ?_⟩
          rcases Int.lt_or_le (absP p) s.1 with h | h
          · exact absurd ⟨ht, .inr h⟩ hc
          · exact Int.le_trans g2 h
        · exact h3 p hp ht
theorem leastR_spec (m : Int) (l : List Tri) (h : ∃ p ∈ l, traded p = m) : (∃ p ∈ l, traded p = m ∧ absP p = (leastR m l).1) ∧ ∀ p ∈ l, traded p = m → (leastR m l).1 ≤ absP p := by
  obtain ⟨h1, _, h3⟩ := leastR_fold m l (0, false)
  obtain ⟨p, hp, e⟩ := h
  refine ⟨?_, fun q hq ht => (h3 q hq ht).2⟩
  rcases h1 with h1 | ⟨_, h1⟩
  · have h4 := (h3 p hp e).1
    rw [h1] at h4
    cases h4
  · exact h1
theorem bestR_ne (l : List Tri) (h : 1 ≤ mostR l) : bestR (mostR l) (leastR (mostR l) l).1 l ≠ [] := by
  obtain ⟨h1, _, _⟩ := mostR_spec l
  rcases h1 with h1 | h1
  · omega
  · obtain ⟨⟨p, hp, e1, e2⟩, _⟩ := leastR_spec (mostR l) l h1
    intro h0
    have : p ∈ bestR (mostR l) (leastR (mostR l) l).1 l := List.mem_filter.2 ⟨hp, by simp [e1, e2]⟩
    rw [h0] at this
    cases this

/-- the first of the greatest -/
theorem keepL_eq {F : Tri → Int} {ps : List Tri} {m : Int} (h1 : ∃ p ∈ ps, F p = m) (h2 : ∀ p ∈ ps, F p ≤ m) : keepL F ps = ps.filter fun p => F p == m := by
  have hne : ps ≠ [] := by
    obtain ⟨p, hp, _⟩ := h1
    intro h; rw [h] at hp; cases hp
  obtain ⟨⟨q, hq, e⟩, hall⟩ := topF_spec F ps hne
  obtain ⟨p, hp, e2⟩ := h1
  have : topF F ps = m := by
    have := hall p hp
    have := h2 q hq
    omega
  unfold keepL
  rw [this]

theorem best_keep (ps : List Tri) (h : 1 ≤ mostR ps) : keepL traded ps = ps.filter (fun p => traded p == mostR ps) ∧ keepL (fun p => -leftOf p) (keepL traded ps) = bestR (mostR ps) (leastR (mostR ps) ps).1 ps := by
  obtain ⟨h1, h0, h2⟩ := mostR_spec ps
  have h3 : ∃ p ∈ ps, traded p = mostR ps := h1.resolve_left (by omega)
  have e1 := keepL_eq h3 h2
  obtain ⟨⟨p, hp, e2, e3⟩, h4⟩ := leastR_spec (mostR ps) ps h3
  refine ⟨e1, ?_⟩
  rw [e1, keepL_eq (m := -(leastR (mostR ps) ps).1)]
  · unfold bestR
    rw [List.filter_filter]
    congr 1
    funext q
    rw [← absP_eq]
    rw [Bool.eq_iff_iff]
    simp
    omega
  · exact ⟨p, List.mem_filter.2 ⟨hp, by simp [e2]⟩, by rw [← absP_eq, e3]⟩
  · intro q hq
    obtain ⟨hq1, hq2⟩ := List.mem_filter.1 hq
    have := h4 q hq1 (by simpa using hq2)
    rw [← absP_eq]
    omega

/-- y is the first of the greatest by two keys -/
theorem lex_fold (K1 K2 : Tri → Int) (better : Tri → Tri → Bool) (hb : ∀ p x, better p x = true ↔ (K1 x < K1 p ∨ (K1 x = K1 p ∧ K2 x < K2 p))) (l : List Tri) : ∀ (pre : List Tri) (x : Tri) (post : List Tri),
    (∀ q ∈ pre, better x q = true) → (∀ q ∈ post, better q x = false) →
    ∃ pre' y post', pre ++ x :: post ++ l = pre' ++ y :: post' ∧ l.foldl (fun x p => if better p x = true then p else x) x = y ∧ (∀ q ∈ pre', better y q = true) ∧ (∀ q ∈ post', better q y = false) := by
  induction l with
  | nil => intro pre x post h1 h2; exact ⟨pre, x, post, by simp, rfl, h1, h2⟩
  | cons a l ih =>
    intro pre x post h1 h2
    rw [List.foldl_cons]
    by_cases hc : better a x = true
    · rw [if_pos hc]
      obtain ⟨pre', y, post', e, e2, g1, g2⟩ := ih (pre ++ x :: post) a [] (fun q hq => by
        have ha := (hb a x).1 hc
        rcases List.mem_append.1 hq with hq | hq
        · have := (hb x q).1 (h1 q hq)
          exact (hb a q).2 (by omega)
        · rcases List.mem_cons.1 hq with rfl | hq
          · exact hc
          · have h3 := h2 q hq
            have h4 : ¬ (K1 x < K1 q ∨ (K1 x = K1 q ∧ K2 x < K2 q)) := fun h => by rw [(hb q x).2 h] at h3; cases h3
            exact (hb a q).2 (by omega)) (fun q hq => by cases hq)
      exact ⟨pre', y, post', by rw [← e]; simp, e2, g1, g2⟩
    · rw [if_neg hc]
      obtain ⟨pre', y, post', e, e2, g1, g2⟩ := ih pre x (post ++ [a]) h1 (fun q hq => by
        rcases List.mem_append.1 hq with hq | hq
        · exact h2 q hq
        · simp at hq; subst hq; simpa using hc)
      exact ⟨pre', y, post', by rw [← e]; simp, e2, g1, g2⟩

theorem lex_head (K1 K2 : Tri → Int) (better : Tri → Tri → Bool) (hb : ∀ p x, better p x = true ↔ (K1 x < K1 p ∨ (K1 x = K1 p ∧ K2 x < K2 p))) (x : Tri) (l : List Tri) :
    ∃ t, keepL K2 (keepL K1 (x :: l)) = (x :: l).foldl (fun x p => if better p x = true then p else x) x :: t := by
  have hxx : better x x = false := by
    cases h : better x x with
    | false => rfl
    | true => have := (hb x x).1 h; omega
  obtain ⟨pre, y, post, e, e2, g1, g2⟩ := lex_fold K1 K2 better hb l [] x [] (fun q hq => by cases hq) (fun q hq => by cases hq)
  rw [List.foldl_cons, if_neg (by rw [hxx]; simp), e2]
  have e3 : x :: l = pre ++ y :: post := by simpa using e
  rw [e3]
  have lt1 : ∀ q ∈ pre, K1 q < K1 y ∨ (K1 q = K1 y ∧ K2 q < K2 y) := fun q hq => (hb y q).1 (g1 q hq)
  have le1 : ∀ q ∈ post, ¬ (K1 y < K1 q ∨ (K1 y = K1 q ∧ K2 y < K2 q)) := fun q hq h => by have := g2 q hq; rw [(hb q y).2 h] at this; cases this
  rw [keepL_eq (F := K1) (m := K1 y) ⟨y, by simp, rfl⟩ (fun q hq => by
    rcases List.mem_append.1 hq with hq | hq
    · have := lt1 q hq; omega
    · rcases List.mem_cons.1 hq with rfl | hq
      · exact Int.le_refl _
      · have := le1 q hq; omega)]
  rw [keepL_eq (F := K2) (m := K2 y) ⟨y, by simp, rfl⟩ (fun q hq => by
    obtain ⟨hq1, hq2⟩ := List.mem_filter.1 hq
    have hk : K1 q = K1 y := by simpa using hq2
    rcases List.mem_append.1 hq1 with hq | hq
    · have := lt1 q hq; omega
    · rcases List.mem_cons.1 hq with rfl | hq
      · exact Int.le_refl _
      · have := le1 q hq; omega)]
  rw [List.filter_filter, List.filter_append]
  have h0 : pre.filter (fun a => (K2 a == K2 y) && (K1 a == K1 y)) = [] := by
    rw [List.filter_eq_nil_iff]
    intro q hq
    have := lt1 q hq
    simp
    omega
  rw [h0, List.filter_cons]
  simp

theorem keepL_const (ps : List Tri) : keepL (fun _ => 0) ps = ps := by
  cases ps with
  | nil => rfl
  | cons a l => rw [keepL_eq (m := 0) ⟨a, by simp, rfl⟩ (fun _ _ => Int.le_refl _)]; simp

theorem pick3_head (r : Int) (x : Tri) (b : List Tri) : ∃ t, pick3 r (x :: b) = foldR (buysR (x :: b)) (sellsR (x :: b)) r x (x :: b) :: t := by
  have hbuy : ((x :: b).any (fun p => decide ((p.2.1 - p.2.2) * 1 ≤ 0)) = false) ↔ buysR (x :: b) = true := by
    unfold buysR
    rw [List.any_eq_false, List.all_eq_true]
    constructor
    · intro h p hp; have := h p hp; simp at this ⊢; omega
    · intro h p hp; have := h p hp; simp at this ⊢; omega
  have hsell : ((x :: b).any (fun p => decide ((p.2.1 - p.2.2) * -1 ≤ 0)) = false) ↔ sellsR (x :: b) = true := by
    unfold sellsR
    rw [List.any_eq_false, List.all_eq_true]
    constructor
    · intro h p hp; have := h p hp; simp at this ⊢; omega
    · intro h p hp; have := h p hp; simp at this ⊢; omega
  unfold pick3 foldR
  by_cases h1 : buysR (x :: b) = true
  · rw [if_pos (hbuy.2 h1), h1]
    have := lex_head (fun p => p.1) (fun _ => 0) (betterR true (sellsR (x :: b)) r) (fun p y => by simp [betterR]) x b
    rw [keepL_const] at this
    exact this
  · rw [if_neg (fun h => h1 (hbuy.1 h))]
    have h1' : buysR (x :: b) = false := by simpa using h1
    by_cases h2 : sellsR (x :: b) = true
    · rw [if_pos (hsell.2 h2), h1', h2]
      have := lex_head (fun p => -p.1) (fun _ => 0) (betterR false true r) (fun p y => by simp [betterR]) x b
      rw [keepL_const] at this
      exact this
    · rw [if_neg (fun h => h2 (hsell.1 h))]
      have h2' : sellsR (x :: b) = false := by simpa using h2
      rw [h1', h2']
      exact lex_head (fun p => -max (p.1 - r) (r - p.1)) (fun p => -p.1) (betterR false false r) (fun p y => by simp [betterR, absI_eq]; omega) x b

theorem choose_same (ps : List Tri) (r : Int) : chooseP ps r = rchooseP ps r := by
  obtain ⟨h1, h0, h2⟩ := mostR_spec ps
  unfold chooseP rchooseP
  by_cases hm : mostR ps < 1
  · rw [if_pos hm]
    cases hk : keepL traded ps with
    | nil => rfl
    | cons p l =>
      have hp : p ∈ ps := keepL_sub (F := traded) (by rw [hk]; simp)
      have := h2 p hp
      show (if traded p < 1 then _ else _) = _
      rw [if_pos (by omega)]
  · rw [if_neg hm]
    obtain ⟨e1, e2⟩ := best_keep ps (by omega)
    cases hk : keepL traded ps with
    | nil =>
      exfalso
      obtain ⟨p, hp, e⟩ := h1.resolve_left (by omega)
      have : p ∈ keepL traded ps := by rw [e1]; exact List.mem_filter.2 ⟨hp, by simp [e]⟩
      rw [hk] at this
      cases this
    | cons p l =>
      have hp : p ∈ ps.filter (fun p => traded p == mostR ps) := by rw [← e1, hk]; simp
      have ht : traded p = mostR ps := by simpa using (List.mem_filter.1 hp).2
      show (if traded p < 1 then _ else quoteOf (pick3 r (keepL (fun p => -leftOf p) (p :: l)))) = _
      rw [if_neg (by omega), ← hk, e2]
      cases hb : bestR (mostR ps) (leastR (mostR ps) ps).1 ps with
      | nil => exact absurd hb (bestR_ne ps (by omega))
      | cons x b =>
        obtain ⟨t, e3⟩ := pick3_head r x b
        rw [e3]
        rfl
end Go.Proofs.YteggaehelnmhnaaDoor
