/-
  Who trades at an auction's price, by the two ranked lists. No walk.
-/
import Derived.Test.YteggaehelnmhnaaBookAddP
import Derived.Test.YteggaehelnmhnaaCurvePlain
namespace Go.Proofs.Yteggaehelnmhnaa
open Go.RowKit
set_option linter.unusedVariables false

/-- whether an order of that side would trade at a price -/
def wantB (s p : Int) (o : Ord5) : Bool := (o.kind == 2) || ((s == 1) && decide (p ≤ o.price)) || ((s == 2) && decide (o.price ≤ p))
def Ahead (s : Int) (a b : Ord5) : Prop := ∀ p, wantB s p b = true → wantB s p a = true
def Ranked (s : Int) (L : List Ord5) : Prop := L.Pairwise (Ahead s)
theorem Ahead.trans {s : Int} {a b c : Ord5} (h : Ahead s a b) (k : Ahead s b c) : Ahead s a c := fun p hp => h p (k p hp)
theorem ahead_yes {s : Int} (hs : Is12 s) {o x : Ord5} (h : aheadB s o x = true) : Ahead s x o := by
  intro p hp
  unfold aheadB betB at h
  unfold wantB at hp ⊢
  rcases hs with rfl | rfl
  · simp at h hp ⊢
    omega
  · simp at h hp ⊢
    omega
theorem ahead_no {s : Int} (hs : Is12 s) {o x : Ord5} (h : aheadB s o x = false) : Ahead s o x := by
  intro p hp
  unfold aheadB betB at h
  unfold wantB at hp ⊢
  rcases hs with rfl | rfl
  · simp at h hp ⊢
    omega
  · simp at h hp ⊢
    omega
theorem takeWhile_yes {α : Type} {q : α → Bool} : ∀ {l : List α} {a : α}, a ∈ l.takeWhile q → q a = true
  | [], _, h => by simp at h
  | b :: l, a, h => by
    rw [List.takeWhile_cons] at h
    split at h
    · rename_i hq
      rcases List.mem_cons.1 h with rfl | h
      · exact hq
      · exact takeWhile_yes h
    · cases h
theorem dropWhile_head {α : Type} {q : α → Bool} : ∀ {l : List α} {d : α} {r : List α}, l.dropWhile q = d :: r → q d = false
  | [], _, _, h => by simp at h
  | a :: l, d, r, h => by
    rw [List.dropWhile_cons] at h
    split at h
    · exact dropWhile_head h
    · rename_i hq
      cases h
      simpa using hq
theorem ranked_ins {s : Int} (hs : Is12 s) {L : List Ord5} (h : Ranked s L) (o : Ord5) : Ranked s (insO s L o) := by
  unfold insO Ranked at *
  have hsp : L.takeWhile (aheadB s o) ++ L.dropWhile (aheadB s o) = L := List.takeWhile_append_dropWhile
  rw [← hsp, List.pairwise_append] at h
  obtain ⟨h1, h2, h3⟩ := h
  have hyes : ∀ a ∈ L.takeWhile (aheadB s o), Ahead s a o := fun a ha => ahead_yes hs (takeWhile_yes ha)
  have hno : ∀ b ∈ L.dropWhile (aheadB s o), Ahead s o b := by
    cases hd : L.dropWhile (aheadB s o) with
    | nil => intro b hb; cases hb
    | cons d r =>
      have hdn := ahead_no hs (dropWhile_head hd)
      rw [hd] at h2
      intro b hb
      rcases List.mem_cons.1 hb with rfl | hb
      · exact hdn
      · exact hdn.trans ((List.pairwise_cons.1 h2).1 b hb)
  rw [List.pairwise_append]
  refine ⟨h1, List.pairwise_cons.2 ⟨hno, h2⟩, fun a ha b hb => ?_⟩
  rcases List.mem_cons.1 hb with rfl | hb
  · exact hyes a ha
  · exact h3 a ha b hb

def sumF (f : Ord5 → Int) : List Ord5 → Int
  | [] => 0
  | o :: l => f o + sumF f l
theorem sumF_perm {f : Ord5 → Int} {l l' : List Ord5} (h : l.Perm l') : sumF f l = sumF f l' := by
  induction h with
  | nil => rfl
  | cons a _ ih => simp only [sumF, ih]
  | swap a b l => simp only [sumF]; omega
  | trans _ _ h1 h2 => exact h1.trans h2
theorem sumF_append {f : Ord5 → Int} (l l' : List Ord5) : sumF f (l ++ l') = sumF f l + sumF f l' := by
  induction l with
  | nil => simp [sumF]
  | cons a l ih => simp only [List.cons_append, sumF, ih]; omega
theorem sumF_foldl (f : Ord5 → Int) (l : List Ord5) : ∀ s : Int, l.foldl (fun s o => s + f o) s = s + sumF f l := by
  induction l with
  | nil => intro s; simp [sumF]
  | cons a l ih => intro s; rw [List.foldl_cons, ih]; simp only [sumF]; omega
theorem sumF_congr {f g : Ord5 → Int} {l : List Ord5} (h : ∀ o ∈ l, f o = g o) : sumF f l = sumF g l := by
  induction l with
  | nil => rfl
  | cons a l ih => simp only [sumF]; rw [h a (by simp), ih (fun o ho => h o (by simp [ho]))]
theorem sumF_map {f : Ord5 → Int} {g : Ord5 → Ord5} (l : List Ord5) : sumF f (l.map g) = sumF (fun o => f (g o)) l := by
  induction l with
  | nil => rfl
  | cons a l ih => simp only [List.map_cons, sumF, ih]
theorem sumF_zero {f : Ord5 → Int} {l : List Ord5} (h : ∀ o ∈ l, f o = 0) : sumF f l = 0 := by
  induction l with
  | nil => rfl
  | cons a l ih => simp only [sumF]; rw [h a (by simp), ih (fun o ho => h o (by simp [ho]))]; rfl
theorem sumF_nonneg {f : Ord5 → Int} {l : List Ord5} (h : ∀ o ∈ l, 0 ≤ f o) : 0 ≤ sumF f l := by
  induction l with
  | nil => simp [sumF]
  | cons a l ih =>
    have h1 := h a (by simp)
    have h2 := ih (fun o ho => h o (by simp [ho]))
    simp only [sumF]
    omega
theorem sumF_le {f g : Ord5 → Int} {l : List Ord5} (h : ∀ o ∈ l, f o ≤ g o) : sumF f l ≤ sumF g l := by
  induction l with
  | nil => simp [sumF]
  | cons a l ih =>
    have h1 := h a (by simp)
    have h2 := ih (fun o ho => h o (by simp [ho]))
    simp only [sumF]
    omega
theorem sumF_mem {f : Ord5 → Int} {l : List Ord5} (h : ∀ o ∈ l, 0 ≤ f o) {x : Ord5} (hx : x ∈ l) : f x ≤ sumF f l := by
  induction l with
  | nil => cases hx
  | cons a l ih =>
    have h1 := h a (by simp)
    have h2 := sumF_nonneg (fun o ho => h o (by simp [ho]) : ∀ o ∈ l, 0 ≤ f o)
    simp only [sumF]
    rcases List.mem_cons.1 hx with rfl | hx
    · omega
    · have := ih (fun o ho => h o (by simp [ho])) hx
      omega

/-- the lots that want to trade; all lots -/
def wantL (s p : Int) (L : List Ord5) : Int := sumF (fun o => if wantB s p o = true then o.qty else 0) L
def allQ (L : List Ord5) : Int := sumF (fun o => o.qty) L
/-- what is left of the list behind so many lots, the first ones first -/
def dropQ : List Ord5 → Int → List Ord5
  | [], _ => []
  | o :: t, a => if a ≤ 0 then o :: t else if o.qty ≤ a then dropQ t (a - o.qty) else cutO o a :: t
/-- how many of an order's lots are among them -/
def clampQ (a q : Int) : Int := if a ≤ 0 then 0 else if a < q then a else q
def takeOf : List Ord5 → Int → Int → Int
  | [], _, _ => 0
  | o :: t, a, id => if o.id = id then clampQ a o.qty else takeOf t (a - o.qty) id

theorem dropQ_zero (L : List Ord5) {a : Int} (h : a ≤ 0) : dropQ L a = L := by
  cases L with
  | nil => rfl
  | cons o t => unfold dropQ; rw [if_pos h]
theorem takeOf_zero (id : Int) : ∀ (L : List Ord5) {a : Int}, a ≤ 0 → (∀ o ∈ L, 1 ≤ o.qty) → takeOf L a id = 0
  | [], _, _, _ => rfl
  | o :: t, a, h, hq => by
    unfold takeOf
    have h1 := hq o (by simp)
    split
    · unfold clampQ; rw [if_pos h]
    · exact takeOf_zero id t (by omega) (fun o ho => hq o (by simp [ho]))
theorem takeOf_other {id : Int} : ∀ (L : List Ord5) (a : Int), (∀ o ∈ L, o.id ≠ id) → takeOf L a id = 0
  | [], _, _ => rfl
  | o :: t, a, h => by
    unfold takeOf
    rw [if_neg (h o (by simp))]
    exact takeOf_other t _ (fun o ho => h o (by simp [ho]))
theorem mem_dropQ {x : Ord5} : ∀ {L : List Ord5} {a : Int}, x ∈ dropQ L a → ∃ o ∈ L, o.id = x.id ∧ o.side = x.side ∧ o.kind = x.kind ∧ o.price = x.price ∧ x.qty ≤ o.qty
  | [], _, h => by cases h
  | o :: t, a, h => by
    unfold dropQ at h
    split at h
    · exact ⟨x, h, rfl, rfl, rfl, rfl, Int.le_refl _⟩
    · split at h
      · obtain ⟨y, hy, h1⟩ := mem_dropQ h
        exact ⟨y, List.mem_cons_of_mem _ hy, h1⟩
      · rcases List.mem_cons.1 h with rfl | h
        · exact ⟨o, by simp, rfl, rfl, rfl, rfl, by unfold cutO; dsimp only; omega⟩
        · exact ⟨x, List.mem_cons_of_mem _ h, rfl, rfl, rfl, rfl, Int.le_refl _⟩
theorem dropQ_ne : ∀ {L : List Ord5} {a : Int}, 0 ≤ a → a < allQ L → dropQ L a ≠ []
  | [], a, h0, h => by simp [allQ, sumF] at h; omega
  | o :: t, a, h0, h => by
    have e : allQ (o :: t) = o.qty + allQ t := rfl
    unfold dropQ
    split
    · simp
    · split
      · exact dropQ_ne (by omega) (by omega)
      · simp
theorem dropQ_step {x : Ord5} {t : List Ord5} {n : Int} : ∀ {L : List Ord5} {a : Int}, (∀ o ∈ L, 1 ≤ o.qty) → 0 ≤ a → dropQ L a = x :: t → 1 ≤ n → n ≤ x.qty → (if n = x.qty then t else cutO x n :: t) = dropQ L (a + n)
  | [], a, _, _, h, _, _ => by simp [dropQ] at h
  | o :: s, a, hq, h0, h, h1, h2 => by
    have ho := hq o (by simp)
    have hs : ∀ o ∈ s, 1 ≤ o.qty := fun y hy => hq y (by simp [hy])
    unfold dropQ at h
    by_cases ha : a ≤ 0
    · rw [if_pos ha] at h
      injection h with e1 e2
      subst e1
      subst e2
      unfold dropQ
      rw [if_neg (show ¬ a + n ≤ 0 by omega)]
      by_cases e : n = o.qty
      · rw [if_pos e, if_pos (show o.qty ≤ a + n by omega), dropQ_zero _ (by omega)]
      · rw [if_neg e, if_neg (show ¬ o.qty ≤ a + n by omega)]
        have : a + n = n := by omega
        rw [this]
    · rw [if_neg ha] at h
      by_cases hb : o.qty ≤ a
      · rw [if_pos hb] at h
        have ih := dropQ_step hs (by omega) h h1 h2
        rw [ih]
        conv => rhs; unfold dropQ
        rw [if_neg (show ¬ a + n ≤ 0 by omega), if_pos (show o.qty ≤ a + n by omega)]
        congr 1
        omega
      · rw [if_neg hb] at h
        injection h with e1 e2
        subst e1
        subst e2
        have e3 : (cutO o a).qty = o.qty - a := rfl
        rw [e3] at h2 ⊢
        conv => rhs; unfold dropQ
        rw [if_neg (show ¬ a + n ≤ 0 by omega)]
        by_cases e : n = o.qty - a
        · rw [if_pos e, if_pos (show o.qty ≤ a + n by omega), dropQ_zero _ (by omega)]
        · rw [if_neg e, if_neg (show ¬ o.qty ≤ a + n by omega)]
          have e4 : cutO (cutO o a) n = cutO o (a + n) := by unfold cutO; dsimp only; congr 1; omega
          rw [e4]
theorem takeOf_step {x : Ord5} {t : List Ord5} {n : Int} (id : Int) : ∀ {L : List Ord5} {a : Int}, (∀ o ∈ L, 1 ≤ o.qty) → (L.map (·.id)).Nodup → 0 ≤ a → dropQ L a = x :: t → 1 ≤ n → n ≤ x.qty →
    takeOf L (a + n) id = takeOf L a id + (if x.id = id then n else 0)
  | [], a, _, _, _, h, _, _ => by simp [dropQ] at h
  | o :: s, a, hq, hn, h0, h, h1, h2 => by
    have ho := hq o (by simp)
    have hs : ∀ o ∈ s, 1 ≤ o.qty := fun y hy => hq y (by simp [hy])
    rw [List.map_cons, List.nodup_cons] at hn
    unfold dropQ at h
    unfold takeOf
    by_cases ha : a ≤ 0
    · rw [if_pos ha] at h
      injection h with e1 e2
      subst e1
      by_cases e : o.id = id
      · rw [if_pos e, if_pos e, if_pos e]
        unfold clampQ
        rw [if_neg (by omega), if_pos ha]
        split <;> omega
      · rw [if_neg e, if_neg e, if_neg e, takeOf_zero id s (by omega) hs, takeOf_zero id s (by omega) hs]
        rfl
    · rw [if_neg ha] at h
      by_cases hb : o.qty ≤ a
      · rw [if_pos hb] at h
        have hx : x.id ≠ o.id := by
          intro e
          have hm : x ∈ dropQ s (a - o.qty) := by rw [h]; simp
          obtain ⟨y, hy, hyi, _⟩ := mem_dropQ hm
          exact hn.1 (List.mem_map.2 ⟨y, hy, hyi.trans e⟩)
        by_cases e : o.id = id
        · rw [if_pos e, if_pos e, if_neg (by rw [← e]; exact hx)]
          unfold clampQ
          rw [if_neg (by omega), if_neg (by omega), if_neg (by omega), if_neg (by omega)]
          omega
        · rw [if_neg e, if_neg e]
          have ih := takeOf_step id hs hn.2 (by omega) h h1 h2
          rw [← ih]
          congr 1
          omega
      · rw [if_neg hb] at h
        injection h with e1 e2
        subst e1
        have e3 : (cutO o a).qty = o.qty - a := rfl
        have e4 : (cutO o a).id = o.id := rfl
        rw [e3] at h2
        rw [e4]
        by_cases e : o.id = id
        · rw [if_pos e, if_pos e, if_pos e]
          unfold clampQ
          rw [if_neg (show ¬ a + n ≤ 0 by omega), if_neg ha, if_pos (show a < o.qty by omega)]
          split <;> omega
        · rw [if_neg e, if_neg e, if_neg e, takeOf_zero id s (by omega) hs, takeOf_zero id s (by omega) hs]
          rfl

/-- the ranked list, walked -/
theorem takeOf_at {pre : List Ord5} {o : Ord5} {post : List Ord5} : ∀ {a : Int}, ((pre ++ o :: post).map (·.id)).Nodup → takeOf (pre ++ o :: post) a o.id = clampQ (a - allQ pre) o.qty := by
  induction pre with
  | nil =>
    intro a h
    show takeOf (o :: post) a o.id = clampQ (a - 0) o.qty
    unfold takeOf
    rw [if_pos rfl]
    congr 1
    omega
  | cons y pre ih =>
    intro a h
    rw [List.cons_append, List.map_cons, List.nodup_cons] at h
    have hne : y.id ≠ o.id := fun e => h.1 (List.mem_map.2 ⟨o, by simp, e.symm⟩)
    show takeOf (y :: (pre ++ o :: post)) a o.id = _
    unfold takeOf
    rw [if_neg hne, ih h.2]
    have e : allQ (y :: pre) = y.qty + allQ pre := rfl
    rw [e]
    congr 1
    omega
theorem wantL_append (s p : Int) (l l' : List Ord5) : wantL s p (l ++ l') = wantL s p l + wantL s p l' := sumF_append l l'
theorem wantL_all {s p : Int} {L : List Ord5} (h : ∀ o ∈ L, 1 ≤ o.qty) : wantL s p L ≤ allQ L := by
  refine sumF_le fun o ho => ?_
  have := h o ho
  split <;> omega
/-- who trades is willing -/
theorem want_at {s p a : Int} {pre : List Ord5} {o : Ord5} {post : List Ord5} (hr : Ranked s (pre ++ o :: post)) (hq : ∀ x ∈ pre ++ o :: post, 1 ≤ x.qty) (h : a ≤ wantL s p (pre ++ o :: post)) (ha : allQ pre < a) : wantB s p o = true := by
  cases hw : wantB s p o with
  | true => rfl
  | false =>
    exfalso
    unfold Ranked at hr
    rw [List.pairwise_append, List.pairwise_cons] at hr
    have h2 : wantL s p (o :: post) = 0 := by
      refine sumF_zero fun x hx => ?_
      rcases List.mem_cons.1 hx with rfl | hx
      · rw [if_neg (by rw [hw]; decide)]
      · rw [if_neg]
        intro h'
        have := hr.2.1.1 x hx p h'
        rw [hw] at this
        cases this
    rw [wantL_append, h2] at h
    have h3 := wantL_all (s := s) (p := p) (fun x hx => hq x (List.mem_append_left _ hx) : ∀ x ∈ pre, 1 ≤ x.qty)
    omega
/-- who is left and willing has all those ahead of him traded -/
theorem want_left {s p : Int} {x : Ord5} : ∀ {L : List Ord5} {a : Int}, Ranked s L → (∀ o ∈ L, 1 ≤ o.qty) → x ∈ dropQ L a → wantB s p x = true → a + 1 ≤ wantL s p L
  | [], a, _, _, h, _ => by cases h
  | o :: t, a, hr, hq, h, hw => by
    have ho := hq o (by simp)
    have ht : ∀ o ∈ t, 1 ≤ o.qty := fun y hy => hq y (by simp [hy])
    have hr' := List.pairwise_cons.1 hr
    have hnn : ∀ l : List Ord5, (∀ o ∈ l, 1 ≤ o.qty) → ∀ y ∈ l, 0 ≤ (if wantB s p y = true then y.qty else 0) := fun l hl y hy => by
      have := hl y hy
      split <;> omega
    have e : wantL s p (o :: t) = (if wantB s p o = true then o.qty else 0) + wantL s p t := rfl
    have h0 : 0 ≤ wantL s p t := sumF_nonneg (hnn t ht)
    unfold dropQ at h
    by_cases ha : a ≤ 0
    · rw [if_pos ha] at h
      have h1 := sumF_mem (hnn (o :: t) hq) h
      rw [if_pos hw] at h1
      have h2 := hq x h
      show a + 1 ≤ sumF _ _
      omega
    · rw [if_neg ha] at h
      by_cases hb : o.qty ≤ a
      · rw [if_pos hb] at h
        have ih := want_left hr'.2 ht h hw
        have hwo : wantB s p o = true := by
          obtain ⟨y, hy, h1, h2, h3, h4, h5⟩ := mem_dropQ h
          refine hr'.1 y hy p ?_
          unfold wantB at hw ⊢
          rw [h3, h4]
          exact hw
        rw [e, if_pos hwo]
        omega
      · rw [if_neg hb] at h
        have hwo : wantB s p o = true := by
          rcases List.mem_cons.1 h with rfl | h
          · exact hw
          · exact hr'.1 x h p hw
        rw [e, if_pos hwo]
        omega

/-- a trade -/
structure Fill4 where
  b : Int
  s : Int
  p : Int
  n : Int
def sumN (g : Fill4 → Int) : List Fill4 → Int
  | [] => 0
  | f :: l => g f + sumN g l
theorem sumN_snoc (g : Fill4 → Int) (l : List Fill4) (f : Fill4) : sumN g (l ++ [f]) = sumN g l + g f := by
  induction l with
  | nil => simp [sumN]
  | cons a l ih => simp only [List.cons_append, sumN, ih]; omega
/-- the trades of so many lots -/
structure FillsOk (L1 L2 : List Ord5) (p a : Int) (F : List Fill4) : Prop where
  one : ∀ f ∈ F, f.p = p ∧ 1 ≤ f.n ∧ (∃ o ∈ L1, o.id = f.b) ∧ (∃ o ∈ L2, o.id = f.s)
  sum : sumN (·.n) F = a
  buy : ∀ id, sumN (fun f => if f.b = id then f.n else 0) F = takeOf L1 a id
  sell : ∀ id, sumN (fun f => if f.s = id then f.n else 0) F = takeOf L2 a id
  len : (F.length : Int) ≤ a
theorem FillsOk.start {L1 L2 : List Ord5} {p : Int} (h1 : ∀ o ∈ L1, 1 ≤ o.qty) (h2 : ∀ o ∈ L2, 1 ≤ o.qty) : FillsOk L1 L2 p 0 [] :=
  ⟨fun f hf => (by cases hf), rfl, fun id => (takeOf_zero id L1 (Int.le_refl _) h1).symm, fun id => (takeOf_zero id L2 (Int.le_refl _) h2).symm, by simp⟩
theorem FillsOk.step {L1 L2 : List Ord5} {p a n : Int} {F : List Fill4} (h : FillsOk L1 L2 p a F) (h1 : ∀ o ∈ L1, 1 ≤ o.qty) (h2 : ∀ o ∈ L2, 1 ≤ o.qty) (d1 : (L1.map (·.id)).Nodup) (d2 : (L2.map (·.id)).Nodup) (h0 : 0 ≤ a)
    {x y : Ord5} {t u : List Ord5} (hx : dropQ L1 a = x :: t) (hy : dropQ L2 a = y :: u) (hn : 1 ≤ n) (hnx : n ≤ x.qty) (hny : n ≤ y.qty) : FillsOk L1 L2 p (a + n) (F ++ [⟨x.id, y.id, p, n⟩]) := by
  refine ⟨?_, ?_, ?_, ?_, ?_⟩
  · intro f hf
    rcases List.mem_append.1 hf with hf | hf
    · exact h.one f hf
    · rw [List.mem_singleton] at hf
      subst hf
      obtain ⟨o, ho, e, _⟩ := mem_dropQ (show x ∈ dropQ L1 a by rw [hx]; simp)
      obtain ⟨o', ho', e', _⟩ := mem_dropQ (show y ∈ dropQ L2 a by rw [hy]; simp)
      exact ⟨rfl, hn, ⟨o, ho, e⟩, o', ho', e'⟩
  · rw [sumN_snoc, h.sum]
  · intro id
    rw [sumN_snoc, h.buy, takeOf_step id h1 d1 h0 hx hn hnx]
  · intro id
    rw [sumN_snoc, h.sell, takeOf_step id h2 d2 h0 hy hn hny]
  · have := h.len
    rw [List.length_append]
    simp
    omega

theorem insO_perm (s : Int) (L : List Ord5) (o : Ord5) : (insO s L o).Perm (o :: L) := by
  unfold insO
  refine List.perm_middle.trans ?_
  rw [List.takeWhile_append_dropWhile]
/-- the two lists of the orders that were added -/
structure Built (x L1 L2 : List Ord5) : Prop where
  r1 : Ranked 1 L1
  r2 : Ranked 2 L2
  perm : (L1 ++ L2).Perm (x.map pricedO)
  s1 : ∀ o ∈ L1, o.side = 1
  s2 : ∀ o ∈ L2, o.side = 2
theorem Built.nil : Built [] [] [] := ⟨List.Pairwise.nil, List.Pairwise.nil, List.Perm.refl _, fun o h => (by cases h), fun o h => (by cases h)⟩
theorem Built.add {x L1 L2 : List Ord5} (h : Built x L1 L2) {o : Ord5} (hs : Is12 o.side) : Built (x ++ [o]) (addL 1 L1 o) (addL 2 L2 o) := by
  rcases hs with hs | hs
  · have e1 : addL 1 L1 o = insO 1 L1 (pricedO o) := by unfold addL; rw [if_pos hs]
    have e2 : addL 2 L2 o = L2 := by unfold addL; rw [if_neg (by omega)]
    rw [e1, e2]
    refine ⟨ranked_ins (.inl rfl) h.r1 _, h.r2, ?_, fun y hy => ?_, h.s2⟩
    · rw [List.map_append]
      exact ((insO_perm 1 L1 (pricedO o)).append_right L2).trans ((h.perm.cons (pricedO o)).trans (List.perm_append_singleton _ _).symm)
    · rcases mem_insO.1 hy with rfl | hy
      · exact hs
      · exact h.s1 y hy
  · have e1 : addL 1 L1 o = L1 := by unfold addL; rw [if_neg (by omega)]
    have e2 : addL 2 L2 o = insO 2 L2 (pricedO o) := by unfold addL; rw [if_pos hs]
    rw [e1, e2]
    refine ⟨h.r1, ranked_ins (.inr rfl) h.r2 _, ?_, h.s1, fun y hy => ?_⟩
    · rw [List.map_append]
      exact ((insO_perm 2 L2 (pricedO o)).append_left L1).trans (List.perm_middle.trans ((h.perm.cons (pricedO o)).trans (List.perm_append_singleton _ _).symm))
    · rcases mem_insO.1 hy with rfl | hy
      · exact hs
      · exact h.s2 y hy
theorem demQ_priced (p : Int) (o : Ord5) : demQ p (pricedO o) = demQ p o := by
  unfold demQ pricedO
  by_cases h : o.kind = 2
  · simp [h]
  · simp [h]
theorem supQ_priced (p : Int) (o : Ord5) : supQ p (pricedO o) = supQ p o := by
  unfold supQ pricedO
  by_cases h : o.kind = 2
  · simp [h]
  · simp [h]
theorem Built.dem {x L1 L2 : List Ord5} (h : Built x L1 L2) (p : Int) : demL p x = wantL 1 p L1 := by
  have e1 : demL p x = sumF (demQ p) x := by unfold demL; rw [sumF_foldl]; omega
  have e2 : sumF (demQ p) x = sumF (demQ p) (x.map pricedO) := by rw [sumF_map]; exact sumF_congr fun o _ => (demQ_priced p o).symm
  have e3 : sumF (demQ p) L2 = 0 := sumF_zero fun o ho => by unfold demQ; rw [if_neg (by have := h.s2 o ho; omega)]
  have e4 : sumF (demQ p) L1 = wantL 1 p L1 := sumF_congr fun o ho => by
    have := h.s1 o ho
    unfold demQ wantB
    by_cases hk : o.kind = 2 <;> by_cases hp : p ≤ o.price <;> simp [this, hk, hp]
  rw [e1, e2, ← sumF_perm h.perm, sumF_append, e3, e4]
  omega
theorem Built.sup {x L1 L2 : List Ord5} (h : Built x L1 L2) (p : Int) : supL p x = wantL 2 p L2 := by
  have e1 : supL p x = sumF (supQ p) x := by unfold supL; rw [sumF_foldl]; omega
  have e2 : sumF (supQ p) x = sumF (supQ p) (x.map pricedO) := by rw [sumF_map]; exact sumF_congr fun o _ => (supQ_priced p o).symm
  have e3 : sumF (supQ p) L1 = 0 := sumF_zero fun o ho => by unfold supQ; rw [if_neg (by have := h.s1 o ho; omega)]
  have e4 : sumF (supQ p) L2 = wantL 2 p L2 := sumF_congr fun o ho => by
    have := h.s2 o ho
    unfold supQ wantB
    by_cases hk : o.kind = 2 <;> by_cases hp : o.price ≤ p <;> simp [this, hk, hp]
  rw [e1, e2, ← sumF_perm h.perm, sumF_append, e3, e4]
  omega
/-- numbered orders that may lie -/
structure NumOk (x : List Ord5) : Prop where
  id : ∀ i (h : i < x.length), x[i].id = i + 1
  ok : ∀ o ∈ x, okO o = true
  price : ∀ o ∈ x, 1 ≤ o.price ∧ o.price ≤ 60
  len : x.length ≤ 60
theorem Built.of {x L1 L2 : List Ord5} {k : Nat} (h : Built (x.take k) L1 L2) {o : Ord5} (ho : o ∈ L1 ++ L2) : ∃ i, ∃ hi : i < x.length, i < k ∧ o = pricedO x[i] := by
  obtain ⟨y, hy, rfl⟩ := List.mem_map.1 (h.perm.mem_iff.1 ho)
  obtain ⟨i, hi, rfl⟩ := List.mem_iff_getElem.1 hy
  rw [List.length_take] at hi
  exact ⟨i, by omega, by omega, by rw [List.getElem_take]⟩
theorem NumOk.side {x : List Ord5} (h : NumOk x) {o : Ord5} (ho : o ∈ x) : Is12 o.side := by
  have := h.ok o ho
  unfold okO at this
  simp at this
  exact this.2
theorem NumOk.add {x L1 L2 : List Ord5} {k : Nat} (h : NumOk x) (hb : Built (x.take k) L1 L2) (hk : k < x.length) : addE L1 L2 x[k] = 0 := by
  have hm : x[k] ∈ x := List.getElem_mem _
  have h1 : argB x[k] = true := argB_iff.2 ⟨h.side hm, by rw [h.id k hk]; omega⟩
  have h2 : rngB x[k] = true := by
    have h3 := h.price _ hm
    have h4 := h.ok _ hm
    unfold okO at h4
    simp at h4
    unfold rngB
    rw [rightB_iff]
    refine ⟨?_, ?_, h4.1.1, h4.1.2⟩
    · unfold pricedO; dsimp only; split <;> omega
    · unfold pricedO; dsimp only; split <;> omega
  have h3 : getI (L1 ++ L2) x[k].id = none := by
    unfold getI
    rw [List.find?_eq_none]
    intro o ho
    obtain ⟨i, hi, hik, rfl⟩ := hb.of ho
    have e1 : (pricedO x[i]).id = x[i].id := rfl
    have e2 := h.id i hi
    have e3 := h.id k hk
    rw [e1, e2, e3]
    simp
    omega
  have h4 : L1.length + L2.length = k := by
    have := hb.perm.length_eq
    rw [List.length_append, List.length_map, List.length_take] at this
    omega
  unfold addE
  rw [if_neg (by rw [h1]; decide), if_neg (by rw [h2]; decide), h3, if_neg (by decide), if_neg (by have := h.len; omega)]
theorem Built.snoc {x L1 L2 : List Ord5} {k : Nat} (h : NumOk x) (hb : Built (x.take k) L1 L2) (hk : k < x.length) : Built (x.take (k + 1)) (addS L1 L2 x[k]).1 (addS L1 L2 x[k]).2 := by
  have e := h.add hb hk
  unfold addS
  rw [if_pos e, List.take_succ_eq_append_getElem hk]
  exact hb.add (h.side (List.getElem_mem _))
/-- nobody is left who could trade with another one -/
theorem none_left {x L1 L2 : List Ord5} {t : Int} (hb : Built x L1 L2) (hq1 : ∀ o ∈ L1, 1 ≤ o.qty) (hq2 : ∀ o ∈ L2, 1 ≤ o.qty) (hbest : ∀ p, min (demL p x) (supL p x) ≤ t) {o y : Ord5} (ho : o ∈ dropQ L1 t) (hy : y ∈ dropQ L2 t) :
    ¬ (o.kind = 2 ∨ y.kind = 2 ∨ y.price ≤ o.price) := by
  intro h
  obtain ⟨p, h1, h2⟩ : ∃ p, wantB 1 p o = true ∧ wantB 2 p y = true := by
    by_cases hk : o.kind = 2
    · exact ⟨y.price, by unfold wantB; simp [hk], by unfold wantB; simp⟩
    · refine ⟨o.price, by unfold wantB; simp, ?_⟩
      unfold wantB
      rcases h with h | h | h
      · exact absurd h hk
      · simp [h]
      · simp [h]
  have h3 := want_left hb.r1 hq1 ho h1
  have h4 := want_left hb.r2 hq2 hy h2
  have h5 := hbest p
  rw [hb.dem, hb.sup] at h5
  omega
end Go.Proofs.Yteggaehelnmhnaa
