/-
  A book's sides and the document's list of orders as they came: what Add, Cancel and Cut make of both. No walk.
-/
import Derived.Test.YtkcgchpbjegneaaDoorRefCut
import Derived.Test.YtkcgchpbjegneaaDoorRefBookSide
import Derived.Test.YtkcgchpbjegneaaDoorBookCut
namespace Go.Proofs.YtkcgchpbjegneaaDoor
open Go.RowKit
set_option linter.unusedVariables false

/-! ### insertion by rank, as the sides do it -/
theorem ahead_rank {s : Int} (hs : Is12 s) {o x : Ord5} (ho : OkO o) (hx : OkO x) : aheadB s o x = decide (rankO s x ≤ rankO s o) := by
  have h1 := ho.2.2.1
  have h2 := hx.2.2.1
  have key : aheadB s o x = true ↔ rankO s x ≤ rankO s o := by
    unfold aheadB rankO rankV
    by_cases hk : x.kind = 2
    · rw [beqT hk, if_pos hk]
      simp only [Bool.true_or, true_iff]
      split
      · omega
      · split <;> omega
    · rw [beqF hk, if_neg hk]
      by_cases hk2 : o.kind = 2
      · rw [beqT hk2, if_pos hk2]
        simp only [Bool.not_true, Bool.false_and, Bool.or_self, Bool.false_eq_true, false_iff]
        split <;> omega
      · rw [beqF hk2, if_neg hk2]
        simp only [Bool.not_false, Bool.true_and, Bool.false_or, Bool.or_eq_true, beq_iff_eq]
        unfold betB
        rcases hs with rfl | rfl
        · simp only [if_true, decide_eq_true_eq]
          omega
        · simp only [show ¬ ((2 : Int) = 1) by decide, if_false, decide_eq_true_eq]
          omega
  cases h : aheadB s o x with
  | true => exact (decide_eq_true (key.1 h)).symm
  | false => exact (decide_eq_false (fun e => by rw [key.2 e] at h; cases h)).symm
theorem takeWhile_congr {α : Type} {p q : α → Bool} : ∀ {l : List α}, (∀ x ∈ l, p x = q x) → l.takeWhile p = l.takeWhile q ∧ l.dropWhile p = l.dropWhile q
  | [], _ => ⟨rfl, rfl⟩
  | x :: t, h => by
    have hx := h x (by simp)
    have ih := takeWhile_congr (l := t) (fun y hy => h y (by simp [hy]))
    rw [List.takeWhile_cons, List.takeWhile_cons, List.dropWhile_cons, List.dropWhile_cons, hx, ih.1, ih.2]
    exact ⟨rfl, rfl⟩
theorem insO_rank {s : Int} (hs : Is12 s) {L : List Ord5} {o : Ord5} (ho : OkO o) (hL : ∀ x ∈ L, OkO x) : insO s L o = insR (rankO s) L o := by
  have h := takeWhile_congr (l := L) (p := aheadB s o) (q := fun y => decide (rankO s y ≤ rankO s o)) (fun x hx => ahead_rank hs ho (hL x hx))
  unfold insO insR
  rw [h.1, h.2]
/-! ### stable sorts: of one more, of fewer, of others of like rank -/
section
variable {α : Type} {r : α → Int}
theorem stabL_snoc (l : List α) (x : α) : stabL r (l ++ [x]) = insR r (stabL r l) x := by unfold stabL; rw [List.foldl_append]; rfl
theorem insR_perm (L : List α) (x : α) : (insR r L x).Perm (x :: L) := by
  unfold insR
  refine List.perm_middle.trans ?_
  rw [List.takeWhile_append_dropWhile]
theorem stabL_perm (l : List α) : (stabL r l).Perm l := by
  have key : ∀ (l acc : List α), (l.foldl (insR r) acc).Perm (acc ++ l) := by
    intro l
    induction l with
    | nil => intro acc; simp
    | cons x t ih =>
      intro acc
      rw [List.foldl_cons]
      refine (ih _).trans ?_
      refine ((insR_perm acc x).append_right t).trans ?_
      exact List.perm_middle.symm
  have := key l []
  rw [List.nil_append] at this
  exact this
/-- rising by rank -/
def RiseR (r : α → Int) (L : List α) : Prop := L.Pairwise fun x y => r x ≤ r y
theorem riseR_ins {L : List α} (h : RiseR r L) (x : α) : RiseR r (insR r L x) := by
  have e : L.takeWhile (fun y => decide (r y ≤ r x)) ++ L.dropWhile (fun y => decide (r y ≤ r x)) = L := List.takeWhile_append_dropWhile
  have htk : ∀ y ∈ L.takeWhile (fun y => decide (r y ≤ r x)), r y ≤ r x := fun y hy => by
    have := List.all_eq_true.1 (List.all_takeWhile (p := fun y => decide (r y ≤ r x)) (l := L)) y hy
    simpa using this
  have hhd : ∀ y, (L.dropWhile (fun y => decide (r y ≤ r x))).head? = some y → ¬ r y ≤ r x := fun y hy hle => by
    have := List.head?_dropWhile_not (p := fun y => decide (r y ≤ r x)) L
    rw [hy] at this
    simp at this
    omega
  unfold RiseR at *
  unfold insR
  generalize L.takeWhile (fun y => decide (r y ≤ r x)) = A at *
  generalize L.dropWhile (fun y => decide (r y ≤ r x)) = B at *
  subst e
  obtain ⟨a1, a2, a3⟩ := List.pairwise_append.1 h
  have hB : ∀ y ∈ B, r x ≤ r y := fun y hy => by
    cases hb : B with
    | nil => rw [hb] at hy; cases hy
    | cons z t =>
      have h1 := hhd z (by rw [hb]; rfl)
      rw [hb] at hy a2
      rcases List.mem_cons.1 hy with rfl | hy
      · omega
      · have := (List.pairwise_cons.1 a2).1 y hy; omega
  rw [List.pairwise_append, List.pairwise_cons]
  exact ⟨a1, ⟨hB, a2⟩, fun u hu v hv => by
    rcases List.mem_cons.1 hv with rfl | hv
    · exact htk u hu
    · exact a3 u hu v hv⟩
theorem stabL_rise (l : List α) : RiseR r (stabL r l) := by
  have key : ∀ (l acc : List α), RiseR r acc → RiseR r (l.foldl (insR r) acc) := by
    intro l
    induction l with
    | nil => intro acc h; exact h
    | cons x t ih => intro acc h; exact ih _ (riseR_ins h x)
  exact key l [] List.Pairwise.nil
theorem insR_filter {L : List α} (h : RiseR r L) (p : α → Bool) (x : α) : (insR r L x).filter p = if p x = true then insR r (L.filter p) x else L.filter p := by
  have e : L.takeWhile (fun y => decide (r y ≤ r x)) ++ L.dropWhile (fun y => decide (r y ≤ r x)) = L := List.takeWhile_append_dropWhile
  have htk : ∀ y ∈ L.takeWhile (fun y => decide (r y ≤ r x)), r y ≤ r x := fun y hy => by
    have := List.all_eq_true.1 (List.all_takeWhile (p := fun y => decide (r y ≤ r x)) (l := L)) y hy
    simpa using this
  have hhd : ∀ y, (L.dropWhile (fun y => decide (r y ≤ r x))).head? = some y → ¬ r y ≤ r x := fun y hy hle => by
    have := List.head?_dropWhile_not (p := fun y => decide (r y ≤ r x)) L
    rw [hy] at this
    simp at this
    omega
  have hdw : ∀ y ∈ L.dropWhile (fun y => decide (r y ≤ r x)), ¬ r y ≤ r x := fun y hy => by
    have hB : RiseR r (L.dropWhile (fun y => decide (r y ≤ r x))) := List.Pairwise.sublist (List.dropWhile_sublist _) h
    cases hb : L.dropWhile (fun y => decide (r y ≤ r x)) with
    | nil => rw [hb] at hy; cases hy
    | cons z t =>
      have h1 := hhd z (by rw [hb]; rfl)
      rw [hb] at hy hB
      rcases List.mem_cons.1 hy with rfl | hy
      · exact h1
      · have := (List.pairwise_cons.1 hB).1 y hy; omega
  unfold insR
  generalize L.takeWhile (fun y => decide (r y ≤ r x)) = A at *
  generalize L.dropWhile (fun y => decide (r y ≤ r x)) = B at *
  subst e
  rw [List.filter_append, List.filter_append, List.filter_cons]
  have e1 : ((A.filter p) ++ (B.filter p)).takeWhile (fun y => decide (r y ≤ r x)) = A.filter p := by
    rw [List.takeWhile_append_of_pos (fun y hy => decide_eq_true (htk y (List.mem_filter.1 hy).1))]
    have : (B.filter p).takeWhile (fun y => decide (r y ≤ r x)) = [] := by
      cases hb : B.filter p with
      | nil => rfl
      | cons z t =>
        have : z ∈ B := (List.mem_filter.1 (by rw [hb]; simp : z ∈ B.filter p)).1
        rw [List.takeWhile_cons_of_neg (by have := hdw z this; simpa using this)]
    rw [this, List.append_nil]
  have e2 : ((A.filter p) ++ (B.filter p)).dropWhile (fun y => decide (r y ≤ r x)) = B.filter p := by
    have h1 := List.takeWhile_append_dropWhile (p := fun y => decide (r y ≤ r x)) (l := (A.filter p) ++ (B.filter p))
    rw [e1] at h1
    exact List.append_cancel_left h1
  split
  · rw [e1, e2]
  · rfl
theorem stabL_filter (p : α → Bool) (l : List α) : stabL r (l.filter p) = (stabL r l).filter p := by
  have key : ∀ (l acc : List α), RiseR r acc → (l.filter p).foldl (insR r) (acc.filter p) = (l.foldl (insR r) acc).filter p := by
    intro l
    induction l with
    | nil => intro acc h; rfl
    | cons x t ih =>
      intro acc h
      rw [List.foldl_cons, ← ih _ (riseR_ins h x), insR_filter h]
      by_cases hp : p x = true
      · rw [List.filter_cons_of_pos hp, List.foldl_cons, if_pos hp]
      · rw [List.filter_cons_of_neg hp, if_neg hp]
  exact key l [] List.Pairwise.nil
theorem stabL_map (f : α → α) (hf : ∀ x, r (f x) = r x) (l : List α) : stabL r (l.map f) = (stabL r l).map f := by
  have ins : ∀ (L : List α) (x : α), insR r (L.map f) (f x) = (insR r L x).map f := by
    intro L x
    unfold insR
    rw [List.map_append, List.map_cons, List.takeWhile_map, List.dropWhile_map]
    have e : ((fun y => decide (r y ≤ r (f x))) ∘ f) = fun y => decide (r y ≤ r x) := by funext y; simp [hf]
    rw [e]
  have key : ∀ (l acc : List α), (l.map f).foldl (insR r) (acc.map f) = (l.foldl (insR r) acc).map f := by
    intro l
    induction l with
    | nil => intro acc; rfl
    | cons x t ih => intro acc; rw [List.map_cons, List.foldl_cons, List.foldl_cons, ins, ih]
  exact key l []
end
/-! ### twins -/
structure Twin (L L1 L2 : List Ord5) : Prop where
  s1 : L1 = rsideL 1 L
  s2 : L2 = rsideL 2 L
  ids : (L.map (·.id)).Nodup
  ok : ∀ o ∈ L, OkO o ∧ Is12 o.side
theorem rsideL_mem {s : Int} {L : List Ord5} {o : Ord5} : o ∈ rsideL s L ↔ o ∈ L ∧ o.side = s := by
  unfold rsideL onSide
  rw [(stabL_perm _).mem_iff, List.mem_filter]
  simp
theorem twin_nil : Twin [] [] [] := ⟨rfl, rfl, List.nodup_nil, fun o h => by cases h⟩
theorem Twin.side {L L1 L2 : List Ord5} (h : Twin L L1 L2) {s : Int} (hs : Is12 s) : sideL s L1 L2 = rsideL s L := by
  rcases hs with rfl | rfl
  · exact (if_pos rfl).trans h.s1
  · exact (if_neg (by decide)).trans h.s2
theorem Twin.mem {L L1 L2 : List Ord5} (h : Twin L L1 L2) {o : Ord5} : o ∈ L1 ++ L2 ↔ o ∈ L := by
  rw [List.mem_append, h.s1, h.s2, rsideL_mem, rsideL_mem]
  constructor
  · rintro (⟨h1, -⟩ | ⟨h1, -⟩) <;> exact h1
  · intro h1
    rcases (h.ok o h1).2 with h2 | h2
    · exact .inl ⟨h1, h2⟩
    · exact .inr ⟨h1, h2⟩
theorem filter_parts {α : Type} (p q : α → Bool) : ∀ l : List α, (∀ x ∈ l, q x = !p x) → (l.filter p).length + (l.filter q).length = l.length := by
  intro l
  induction l with
  | nil => intro _; rfl
  | cons x t ih =>
    intro h
    have h1 := ih (fun y hy => h y (by simp [hy]))
    have h2 := h x (by simp)
    cases hp : p x with
    | true => rw [List.filter_cons_of_pos hp, List.filter_cons_of_neg (by rw [h2, hp]; simp), List.length_cons, List.length_cons]; omega
    | false => rw [List.filter_cons_of_neg (by rw [hp]; simp), List.filter_cons_of_pos (by rw [h2, hp]; rfl), List.length_cons, List.length_cons]; omega
theorem Twin.len {L L1 L2 : List Ord5} (h : Twin L L1 L2) : L1.length + L2.length = L.length := by
  rw [h.s1, h.s2]
  unfold rsideL
  rw [stabL_length, stabL_length]
  exact filter_parts _ _ L (fun x hx => by
    rcases (h.ok x hx).2 with h2 | h2
    · rw [h2]; rfl
    · rw [h2]; rfl)
theorem getI_one {L : List Ord5} (hn : (L.map (·.id)).Nodup) {o : Ord5} (ho : o ∈ L) : getI L o.id = some o := by
  unfold getI
  cases hf : L.find? (fun x => x.id == o.id) with
  | none => have := List.find?_eq_none.1 hf o ho; simp at this
  | some x =>
    have h1 := List.find?_some hf
    have h2 := List.mem_of_find?_eq_some hf
    simp at h1
    rw [nodup_map_inj hn h2 ho h1]
theorem getI_no {L : List Ord5} {id : Int} : getI L id = none ↔ ∀ o ∈ L, o.id ≠ id := by
  unfold getI
  rw [List.find?_eq_none]
  simp
theorem Twin.get {L L1 L2 : List Ord5} (h : Twin L L1 L2) (hl : ListsOk L1 L2) (id : Int) : getI (L1 ++ L2) id = getI L id := by
  cases hg : getI L id with
  | none =>
    rw [getI_no] at hg ⊢
    exact fun o ho => hg o (h.mem.1 ho)
  | some o =>
    have h1 : o ∈ L ∧ o.id = id := by
      unfold getI at hg
      have h2 := List.find?_some hg
      simp at h2
      exact ⟨List.mem_of_find?_eq_some hg, h2⟩
    rw [← h1.2]
    exact getI_one hl.ids (h.mem.2 h1.1)
theorem Twin.addE {L L1 L2 : List Ord5} (h : Twin L L1 L2) (hl : ListsOk L1 L2) (o : Ord5) : addE L1 L2 o = raddE L o := by
  have h1 := h.len
  have h2 := hl.cnt
  rw [List.length_append] at h2
  unfold Go.Proofs.YtkcgchpbjegneaaDoor.addE raddE
  rw [h.get hl, h1]
  by_cases hc : 100 ≤ L.length
  · rw [if_pos (show L.length = 100 by omega), if_pos hc]
  · rw [if_neg (show ¬ L.length = 100 by omega), if_neg hc]
theorem Twin.add {L L1 L2 : List Ord5} (h : Twin L L1 L2) {o : Ord5} (hf : FitO o) (he : raddE L o = 0) : Twin (raddL L o) (addL 1 L1 o) (addL 2 L2 o) := by
  have hL : raddL L o = L ++ [pricedO o] := by unfold raddL; rw [if_pos he]
  have hb : argB o = true ∧ rngB o = true ∧ getI L o.id = none := by
    unfold raddE at he
    cases h1 : argB o with
    | false => rw [h1] at he; simp at he
    | true =>
      cases h2 : rngB o with
      | false => rw [h1, h2] at he; simp at he
      | true =>
        cases h3 : getI L o.id with
        | none => exact ⟨rfl, rfl, rfl⟩
        | some x => rw [h1, h2, h3] at he; simp at he
  obtain ⟨b1, b2, b3⟩ := hb
  have hok : OkO (pricedO o) ∧ Is12 (pricedO o).side := by
    unfold argB at b1
    unfold rngB at b2
    rw [rightB_iff] at b2
    simp at b1
    refine ⟨⟨⟨hf.1, hf.2.1, hf.2.2.1, ?_, hf.2.2.2.2⟩, b1.2, ⟨b2.1, b2.2.1⟩, ⟨b2.2.2.1, b2.2.2.2⟩⟩, b1.1⟩
    unfold Fit64
    omega
  have hins : ∀ s, Is12 s → rsideL s (L ++ [pricedO o]) = addL s (rsideL s L) o := fun s hs => by
    unfold addL
    show stabL (rankO s) (onSide s (L ++ [pricedO o])) = _
    rw [onSide_snoc]
    by_cases e : o.side = s
    · rw [if_pos (beqT (show (pricedO o).side = s from e)), if_pos e, stabL_snoc, insO_rank hs hok.1 (fun x hx => (h.ok x (rsideL_mem.1 hx).1).1)]
      rfl
    · rw [if_neg (by rw [beqF (show (pricedO o).side ≠ s from e)]; simp), if_neg e, List.append_nil]
      rfl
  rw [hL]
  refine ⟨by rw [hins 1 (.inl rfl), h.s1], by rw [hins 2 (.inr rfl), h.s2], ?_, fun x hx => ?_⟩
  · rw [List.map_append, List.nodup_append]
    refine ⟨h.ids, by simp, fun a ha b hb => ?_⟩
    obtain ⟨x, hx, rfl⟩ := List.mem_map.1 ha
    simp at hb
    subst hb
    exact getI_no.1 b3 x hx
  · rcases List.mem_append.1 hx with hx | hx
    · exact h.ok x hx
    · rw [List.mem_singleton] at hx
      subst hx
      exact hok
/-- by the number, one goes -/
theorem cutK_filter {L : List Ord5} (hn : (L.map (·.id)).Nodup) {k : Nat} (hk : k < L.length) : cutK L k = L.filter fun x => !(x.id == L[k].id) := by
  unfold cutK
  have e : L = L.take k ++ L[k] :: L.drop (k + 1) := by rw [← List.drop_eq_getElem_cons hk, List.take_append_drop]
  have key : ∀ (A B : List Ord5) (x : Ord5), ((A ++ x :: B).map (·.id)).Nodup → (A ++ x :: B).filter (fun y => !(y.id == x.id)) = A ++ B := by
    intro A B x h
    rw [List.map_append, List.map_cons, List.nodup_append, List.nodup_cons] at h
    rw [List.filter_append, List.filter_cons_of_neg (by simp)]
    have h1 : A.filter (fun y => !(y.id == x.id)) = A := List.filter_eq_self.2 (fun y hy => by
      have := h.2.2 _ (List.mem_map.2 ⟨y, hy, rfl⟩) _ (List.mem_cons_self)
      simpa using this)
    have h2 : B.filter (fun y => !(y.id == x.id)) = B := List.filter_eq_self.2 (fun y hy => by
      have h3 := h.2.1.1
      have : y.id ≠ x.id := fun e => h3 (by rw [← e]; exact List.mem_map.2 ⟨y, hy, rfl⟩)
      simpa using this)
    rw [h1, h2]
  generalize L[k] = y at e ⊢
  generalize L.take k = A at e ⊢
  generalize L.drop (k + 1) = B at e ⊢
  subst e
  exact (key _ _ _ hn).symm
theorem Twin.filter {L L1 L2 : List Ord5} (h : Twin L L1 L2) (p : Ord5 → Bool) : Twin (L.filter p) (L1.filter p) (L2.filter p) := by
  have e : ∀ s, rsideL s (L.filter p) = (rsideL s L).filter p := fun s => by
    unfold rsideL
    rw [← stabL_filter]
    unfold onSide
    rw [List.filter_filter, List.filter_filter]
    congr 2
    funext x
    rw [Bool.and_comm]
  refine ⟨by rw [e, h.s1], by rw [e, h.s2], ?_, fun o ho => h.ok o (List.mem_filter.1 ho).1⟩
  exact List.Nodup.sublist ((List.filter_sublist).map _) h.ids
theorem Twin.cancel {L L1 L2 : List Ord5} (h : Twin L L1 L2) {id : Int} {o : Ord5} (hg : getI L id = some o) : Twin (rcanL L id) (remI L1 id) (remI L2 id) := by
  rcases idxI_cases L id with ⟨-, h2⟩ | ⟨k, hk, -, h3, h4, h5⟩
  · rw [h2] at hg; cases hg
  · have e : rcanL L id = L.filter fun x => !(x.id == id) := by
      unfold rcanL
      rw [h3, cutK_filter h.ids hk, h4]
    rw [e]
    exact h.filter _
theorem Twin.map {L L1 L2 : List Ord5} (h : Twin L L1 L2) {id n : Int} (hok : ∀ o ∈ L, o.id = id → 1 ≤ o.qty - n ∧ o.qty - n ≤ 1000000) : Twin (cutI L id n) (cutI L1 id n) (cutI L2 id n) := by
  have hr : ∀ s (x : Ord5), rankO s (if x.id = id then cutO x n else x) = rankO s x := fun s x => by split <;> rfl
  have e : ∀ s, rsideL s (cutI L id n) = cutI (rsideL s L) id n := fun s => by
    unfold rsideL cutI
    rw [← stabL_map (r := rankO s) (fun o => if o.id = id then cutO o n else o) (hr s)]
    congr 1
    unfold onSide
    rw [List.filter_map]
    congr 2
    funext x
    simp only [Function.comp]
    split <;> rfl
  refine ⟨by rw [e, h.s1], by rw [e, h.s2], ?_, fun o ho => ?_⟩
  · have : (cutI L id n).map (·.id) = L.map (·.id) := by
      unfold cutI
      rw [List.map_map]
      refine List.map_congr_left fun x _ => ?_
      simp only [Function.comp]
      split <;> rfl
    rw [this]
    exact h.ids
  · unfold cutI at ho
    obtain ⟨x, hx, rfl⟩ := List.mem_map.1 ho
    have h1 := h.ok x hx
    by_cases e : x.id = id
    · rw [if_pos e]
      have h2 := hok x hx e
      refine ⟨⟨⟨h1.1.1.1, h1.1.1.2.1, h1.1.1.2.2.1, h1.1.1.2.2.2.1, ?_⟩, h1.1.2.1, h1.1.2.2.1, h2⟩, h1.2⟩
      unfold Fit64 cutO
      dsimp only
      omega
    · rw [if_neg e]; exact h1
theorem set_cutI {L : List Ord5} (hn : (L.map (·.id)).Nodup) {k : Nat} (hk : k < L.length) (n : Int) : L.set k (cutO L[k] n) = cutI L L[k].id n := by
  unfold cutI
  apply List.ext_getElem (by simp)
  intro i h1 h2
  rw [List.getElem_map]
  by_cases e : i = k
  · subst e
    rw [List.getElem_set_self, if_pos rfl]
  · rw [List.getElem_set_ne (fun h => e h.symm)]
    have hi : i < L.length := by simpa using h1
    have : L[i].id ≠ L[k].id := fun h => by
      have h3 := List.pairwise_iff_getElem.1 hn
      rcases Nat.lt_or_gt_of_ne e with lt | gt
      · exact h3 i k (by simpa using hi) (by simpa using hk) lt (by simpa using h)
      · exact h3 k i (by simpa using hk) (by simpa using hi) gt (by simpa using h.symm)
    rw [if_neg this]
end Go.Proofs.YtkcgchpbjegneaaDoor
