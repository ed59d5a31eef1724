/-
  A stable sort, told by tags: elements with their places; sorted by rank, then by place, there is one order alone. Merging by halves (symMerge), chunk by chunk. No walk.
-/
namespace Go.Proofs.YtkcgchpbjegneaaDoor
set_option linter.unusedVariables false
section
variable {α : Type} {r : α → Int}
/-- by rank, then by tag -/
def ltT (r : α → Int) (x y : α × Nat) : Prop := r x.1 < r y.1 ∨ (r x.1 = r y.1 ∧ x.2 < y.2)
theorem ltT.trans {x y z : α × Nat} (h : ltT r x y) (k : ltT r y z) : ltT r x z := by unfold ltT at *; omega
theorem ltT.asymm {x y : α × Nat} (h : ltT r x y) (k : ltT r y x) : False := by unfold ltT at *; omega
theorem ltT.of_lt {x y : α × Nat} (h : r x.1 < r y.1) : ltT r x y := .inl h
theorem ltT.of_not {x y : α × Nat} (h : ¬ r y.1 < r x.1) (k : x.2 < y.2) : ltT r x y := by unfold ltT; omega
def SortT (r : α → Int) (L : List (α × Nat)) : Prop := L.Pairwise (ltT r)
def TagL (X Y : List (α × Nat)) : Prop := ∀ x ∈ X, ∀ y ∈ Y, x.2 < y.2
def BelT (r : α → Int) (X Y : List (α × Nat)) : Prop := ∀ x ∈ X, ∀ y ∈ Y, ltT r x y
theorem sortT_append {X Y : List (α × Nat)} : SortT r (X ++ Y) ↔ SortT r X ∧ SortT r Y ∧ BelT r X Y := by unfold SortT BelT; rw [List.pairwise_append]
theorem sortT_at {L : List (α × Nat)} (h : SortT r L) {i j : Nat} (hi : i < L.length) (hj : j < L.length) (hij : i < j) : ltT r L[i] L[j] := (List.pairwise_iff_getElem.1 h) i j hi hj hij
theorem sortT_le {L : List (α × Nat)} (h : SortT r L) {i j : Nat} (hi : i < L.length) (hj : j < L.length) (hij : i ≤ j) : L[i] = L[j] ∨ ltT r L[i] L[j] := by
  by_cases e : i = j
  · subst e; exact .inl rfl
  · exact .inr (sortT_at h hi hj (by omega))
theorem TagL.perm {X X' Y Y' : List (α × Nat)} (h : TagL X Y) (hx : X'.Perm X) (hy : Y'.Perm Y) : TagL X' Y' := fun x a y b => h x (hx.mem_iff.1 a) y (hy.mem_iff.1 b)
/-- all of X lies below all of Y, as its last one lies below the first one there -/
theorem bel_of {X Y : List (α × Nat)} (hX : SortT r X) (hY : SortT r Y) (h : ∀ (h1 : 0 < X.length) (h2 : 0 < Y.length), ltT r (X[X.length - 1]'(by omega)) Y[0]) : BelT r X Y := by
  intro x hx y hy
  obtain ⟨i, hi, rfl⟩ := List.mem_iff_getElem.1 hx
  obtain ⟨j, hj, rfl⟩ := List.mem_iff_getElem.1 hy
  have h0 := h (by omega) (by omega)
  have h1 : X[i] = X[X.length - 1] ∨ ltT r X[i] X[X.length - 1] := sortT_le hX hi (by omega) (by omega)
  have h2 : Y[0] = Y[j] ∨ ltT r Y[0] Y[j] := sortT_le hY (by omega) hj (by omega)
  rcases h1 with h1 | h1 <;> rcases h2 with h2 | h2
  · rw [h1, ← h2]; exact h0
  · rw [h1]; exact h0.trans h2
  · rw [← h2]; exact h1.trans h0
  · exact (h1.trans h0).trans h2
/-- the halves of a merge -/
structure Mrg (r : α → Int) (L R : List (α × Nat)) : Prop where
  l : SortT r L
  r : SortT r R
  tag : TagL L R
theorem Mrg.parts {L1 L2 R1 R2 : List (α × Nat)} (h : Mrg r (L1 ++ L2) (R1 ++ R2)) : Mrg r L1 R1 ∧ Mrg r L2 R2 :=
  ⟨⟨(sortT_append.1 h.l).1, (sortT_append.1 h.r).1, fun x a y b => h.tag x (List.mem_append_left _ a) y (List.mem_append_left _ b)⟩,
   ⟨(sortT_append.1 h.l).2.1, (sortT_append.1 h.r).2.1, fun x a y b => h.tag x (List.mem_append_right _ a) y (List.mem_append_right _ b)⟩⟩
theorem bel_perm {X X' Y Y' : List (α × Nat)} (h : BelT r X Y) (hx : X'.Perm X) (hy : Y'.Perm Y) : BelT r X' Y' := fun x a y b => h x (hx.mem_iff.1 a) y (hy.mem_iff.1 b)
/-- merged by parts -/
theorem Mrg.joins {L1 L2 R1 R2 S1 S2 : List (α × Nat)} (h : Mrg r (L1 ++ L2) (R1 ++ R2)) (c1 : ∀ (h1 : 0 < L1.length) (h2 : 0 < R2.length), ltT r (L1[L1.length - 1]'(by omega)) R2[0]) (c2 : ∀ (h1 : 0 < R1.length) (h2 : 0 < L2.length), ltT r (R1[R1.length - 1]'(by omega)) L2[0])
    (p1 : S1.Perm (L1 ++ R1)) (s1 : SortT r S1) (p2 : S2.Perm (L2 ++ R2)) (s2 : SortT r S2) : (S1 ++ S2).Perm ((L1 ++ L2) ++ (R1 ++ R2)) ∧ SortT r (S1 ++ S2) := by
  obtain ⟨a1, a2, a3⟩ := sortT_append.1 h.l
  obtain ⟨b1, b2, b3⟩ := sortT_append.1 h.r
  have x1 := bel_of a1 b2 c1
  have x2 := bel_of b1 a2 c2
  refine ⟨(p1.append p2).trans ?_, sortT_append.2 ⟨s1, s2, bel_perm (X := L1 ++ R1) (Y := L2 ++ R2) (fun x hx y hy => ?_) p1 p2⟩⟩
  · rw [List.append_assoc, List.append_assoc]
    refine List.Perm.append_left _ ?_
    rw [← List.append_assoc, ← List.append_assoc]
    exact List.Perm.append_right _ List.perm_append_comm
  · rcases List.mem_append.1 hx with hx | hx <;> rcases List.mem_append.1 hy with hy | hy
    · exact a3 x hx y hy
    · exact x1 x hx y hy
    · exact x2 x hx y hy
    · exact b3 x hx y hy
/-- one ahead -/
theorem Mrg.one_l {x : α × Nat} {R : List (α × Nat)} {q : Nat} (h : Mrg r [x] R) (hq : q ≤ R.length) (c1 : ∀ (h2 : q < R.length), ¬ r R[q].1 < r x.1) (c2 : ∀ (h1 : 0 < q), r (R[q - 1]'(by omega)).1 < r x.1) :
    (R.take q ++ x :: R.drop q).Perm ([x] ++ R) ∧ SortT r (R.take q ++ x :: R.drop q) := by
  have h' : Mrg r ([] ++ [x]) (R.take q ++ R.drop q) := by rw [List.take_append_drop]; exact h
  have hs := (sortT_append.1 h'.r)
  have k := h'.joins (S1 := R.take q) (S2 := x :: R.drop q) (fun h1 _ => absurd h1 (by simp)) (fun h1 h2 => by
    have hl : (R.take q).length = q := by rw [List.length_take]; omega
    have h1' : 0 < q := by omega
    have e : (R.take q)[(R.take q).length - 1] = R[q - 1]'(by omega) := by simp [hl]
    rw [e]
    exact .inl (c2 h1')) (by simp) hs.1 (by simp) (by
    have e : x :: R.drop q = [x] ++ R.drop q := rfl
    rw [e]
    refine sortT_append.2 ⟨h.l, hs.2.1, bel_of h.l hs.2.1 (fun h1 h2 => ?_)⟩
    have h2' : q < R.length := by rw [List.length_drop] at h2; omega
    simp only [List.getElem_drop]
    refine ltT.of_not (x := x) (c1 (by simpa using h2')) (h.tag x (by simp) _ (List.getElem_mem _)))
  rw [List.take_append_drop] at k
  exact k
/-- one behind -/
theorem Mrg.one_r {y : α × Nat} {L : List (α × Nat)} {q : Nat} (h : Mrg r L [y]) (hq : q ≤ L.length) (c1 : ∀ (h2 : q < L.length), r y.1 < r L[q].1) (c2 : ∀ (h1 : 0 < q), ¬ r y.1 < r (L[q - 1]'(by omega)).1) :
    (L.take q ++ y :: L.drop q).Perm (L ++ [y]) ∧ SortT r (L.take q ++ y :: L.drop q) := by
  have h' : Mrg r (L.take q ++ L.drop q) ([y] ++ []) := by rw [List.take_append_drop]; exact h
  have hs := (sortT_append.1 h'.l)
  have hl : (L.take q).length = q := by rw [List.length_take]; omega
  have k := h'.joins (S1 := L.take q ++ [y]) (S2 := L.drop q) (fun _ h2 => absurd h2 (by simp)) (fun h1 h2 => by
    have h2' : q < L.length := by rw [List.length_drop] at h2; omega
    have c := c1 h2'
    simp only [List.getElem_drop, List.length_singleton, Nat.sub_self, List.getElem_cons_zero, Nat.add_zero]
    exact .inl c) (by simp) (sortT_append.2 ⟨hs.1, h.r, bel_of hs.1 h.r (fun h1 h2 => by
    have e : (L.take q)[(L.take q).length - 1] = L[q - 1]'(by omega) := by simp [hl]
    rw [e]
    exact ltT.of_not (c2 (by omega)) (h.tag _ (List.getElem_mem _) _ (by simp)))⟩) (by simp) hs.2.1
  rw [List.take_append_drop, List.append_nil] at k
  rw [List.append_assoc] at k
  exact k

/-! ### one more, by insertion -/
theorem ins_ok {L R : List (α × Nat)} {x : α × Nat} (h : SortT r (L ++ R)) (ht : TagL (L ++ R) [x]) (hR : BelT r [x] R) (hL : ∀ (h1 : 0 < L.length), ¬ r x.1 < r (L[L.length - 1]'(by omega)).1) : SortT r (L ++ x :: R) := by
  obtain ⟨a1, a2, a3⟩ := sortT_append.1 h
  have e : x :: R = [x] ++ R := rfl
  have hx : SortT r [x] := List.pairwise_singleton _ _
  have h1 : BelT r L [x] := bel_of a1 hx (fun h1 h2 => ltT.of_not (hL h1) (ht _ (List.mem_append_left _ (List.getElem_mem _)) _ (by simp)))
  rw [e]
  refine sortT_append.2 ⟨a1, sortT_append.2 ⟨hx, a2, hR⟩, fun u hu v hv => ?_⟩
  rcases List.mem_append.1 hv with hv | hv
  · exact h1 u hu v hv
  · exact a3 u hu v hv
theorem ins_step {L' R : List (α × Nat)} {x y : α × Nat} (h : SortT r (L' ++ (y :: R))) (hR : BelT r [x] R) (hy : r x.1 < r y.1) : BelT r [x] (y :: R) := by
  intro u hu v hv
  simp at hu
  subst hu
  rcases List.mem_cons.1 hv with rfl | hv
  · exact .inl hy
  · exact hR u (by simp) v hv

/-! ### chunk by chunk -/
inductive Chk (r : α → Int) (bs : Nat) : List (α × Nat) → Prop
  | last (L : List (α × Nat)) (h1 : L.length ≤ bs) (h2 : SortT r L) : Chk r bs L
  | cons (L T : List (α × Nat)) (h1 : L.length = bs) (h2 : SortT r L) (h3 : TagL L T) (h4 : Chk r bs T) : Chk r bs (L ++ T)
theorem Chk.short {bs : Nat} {T : List (α × Nat)} (h : Chk r bs T) (hl : T.length ≤ bs) : SortT r T := by
  cases h with
  | last L h1 h2 => exact h2
  | cons L T h1 h2 h3 h4 =>
    rw [List.length_append] at hl
    have : T = [] := List.eq_nil_of_length_eq_zero (by omega)
    subst this
    rw [List.append_nil]
    exact h2
theorem Chk.head {bs : Nat} {T : List (α × Nat)} (h : Chk r bs T) (hl : bs ≤ T.length) : ∃ L T', T = L ++ T' ∧ L.length = bs ∧ SortT r L ∧ TagL L T' ∧ Chk r bs T' := by
  cases h with
  | last L h1 h2 => exact ⟨T, [], by simp, by omega, h2, fun x _ y hy => (by cases hy), .last [] (by simp) List.Pairwise.nil⟩
  | cons L T h1 h2 h3 h4 => exact ⟨L, T, rfl, h1, h2, h3, h4⟩
/-- the next two chunks -/
theorem Chk.two {bs : Nat} {T : List (α × Nat)} (h : Chk r bs T) (hl : bs < T.length) : ∃ L R T', T = L ++ (R ++ T') ∧ L.length = bs ∧ R.length = min bs (T.length - bs) ∧ Mrg r L R ∧ TagL (L ++ R) T' ∧ Chk r bs T' := by
  obtain ⟨L, T1, rfl, h1, h2, h3, h4⟩ := h.head (by omega)
  rw [List.length_append] at hl
  by_cases hc : bs ≤ T1.length
  · obtain ⟨R, T', rfl, k1, k2, k3, k4⟩ := h4.head hc
    refine ⟨L, R, T', rfl, h1, ?_, ⟨h2, k2, fun x hx y hy => h3 x hx y (List.mem_append_left _ hy)⟩, fun x hx y hy => ?_, k4⟩
    · rw [List.length_append, List.length_append]; omega
    · rcases List.mem_append.1 hx with hx | hx
      · exact h3 x hx y (List.mem_append_right _ hy)
      · exact k3 x hx y hy
  · refine ⟨L, T1, [], by simp, h1, ?_, ⟨h2, h4.short (by omega), h3⟩, fun x _ y hy => (by cases hy), .last [] (by simp) List.Pairwise.nil⟩
    rw [List.length_append]; omega
/-- what is done may be set ahead of whatever comes -/
def Ahead (r : α → Int) (bs : Nat) (P : List (α × Nat)) : Prop := ∀ Z, Chk r bs Z → TagL P Z → Chk r bs (P ++ Z)
theorem ahead_nil (bs : Nat) : Ahead r bs [] := fun Z h _ => h
theorem Ahead.snoc {bs : Nat} {P S : List (α × Nat)} (h : Ahead r bs P) (hl : S.length = bs) (hs : SortT r S) (ht : TagL P S) : Ahead r bs (P ++ S) := fun Z hz hp => by
  rw [List.append_assoc]
  refine h _ (.cons S Z hl hs (fun x hx y hy => hp x (List.mem_append_right _ hx) y hy) hz) (fun x hx y hy => ?_)
  rcases List.mem_append.1 hy with hy | hy
  · exact ht x hx y hy
  · exact hp x (List.mem_append_left _ hx) y hy
theorem Ahead.ends {bs : Nat} {P S : List (α × Nat)} (h : Ahead r bs P) (hl : S.length ≤ bs) (hs : SortT r S) (ht : TagL P S) : Chk r bs (P ++ S) := h S (.last S hl hs) ht

/-! ### one order alone -/
def insR (r : α → Int) (L : List α) (x : α) : List α := L.takeWhile (fun y => decide (r y ≤ r x)) ++ x :: L.dropWhile (fun y => decide (r y ≤ r x))
/-- sorted by rank, of like ones as they came -/
def stabL (r : α → Int) (l : List α) : List α := l.foldl (insR r) []
def insTg (r : α → Int) (L : List (α × Nat)) (x : α × Nat) : List (α × Nat) := L.takeWhile (fun y => decide (r y.1 ≤ r x.1)) ++ x :: L.dropWhile (fun y => decide (r y.1 ≤ r x.1))
theorem insTg_map (L : List (α × Nat)) (x : α × Nat) : (insTg r L x).map (·.1) = insR r (L.map (·.1)) x.1 := by
  unfold insTg insR
  rw [List.map_append, List.map_cons, List.takeWhile_map, List.dropWhile_map]
  rfl
theorem insTg_perm (L : List (α × Nat)) (x : α × Nat) : (insTg r L x).Perm (x :: L) := by
  unfold insTg
  refine List.perm_middle.trans ?_
  rw [List.takeWhile_append_dropWhile]
theorem insTg_sort {L : List (α × Nat)} {x : α × Nat} (h : SortT r L) (ht : TagL L [x]) : SortT r (insTg r L x) := by
  have e : L.takeWhile (fun y => decide (r y.1 ≤ r x.1)) ++ L.dropWhile (fun y => decide (r y.1 ≤ r x.1)) = L := List.takeWhile_append_dropWhile
  have hd : ∀ y, (L.dropWhile (fun y => decide (r y.1 ≤ r x.1))).head? = some y → ¬ r y.1 ≤ r x.1 := fun y hy hle => by
    have := List.head?_dropWhile_not (p := fun y : α × Nat => decide (r y.1 ≤ r x.1)) L
    rw [hy] at this
    simp at this
    omega
  have htk : ∀ y ∈ L.takeWhile (fun y => decide (r y.1 ≤ r x.1)), r y.1 ≤ r x.1 := fun y hy => by
    have := List.all_eq_true.1 (List.all_takeWhile (p := fun y : α × Nat => decide (r y.1 ≤ r x.1)) (l := L)) y hy
    simpa using this
  unfold insTg
  generalize L.takeWhile (fun y => decide (r y.1 ≤ r x.1)) = A at *
  generalize L.dropWhile (fun y => decide (r y.1 ≤ r x.1)) = B at *
  subst e
  obtain ⟨a1, a2, a3⟩ := sortT_append.1 h
  refine ins_ok h ht ?_ (fun h1 => by have := htk _ (List.getElem_mem (l := A) (n := A.length - 1) (by omega)); omega)
  refine bel_of (List.pairwise_singleton _ _) a2 (fun h1 h2 => ?_)
  have h3 := hd B[0] (by rw [List.head?_eq_getElem?]; exact List.getElem?_eq_getElem h2)
  exact .inl (by simp; omega)
theorem foldl_tag (l : List α) : ∀ (k : Nat) (L : List (α × Nat)), SortT r L → (∀ x ∈ L, x.2 < k) → SortT r ((l.zipIdx k).foldl (insTg r) L) ∧ ((l.zipIdx k).foldl (insTg r) L).Perm (L ++ l.zipIdx k) ∧ ((l.zipIdx k).foldl (insTg r) L).map (·.1) = l.foldl (insR r) (L.map (·.1)) := by
  induction l with
  | nil => intro k L h1 h2; exact ⟨h1, by simp, rfl⟩
  | cons x t ih =>
    intro k L h1 h2
    rw [List.zipIdx_cons, List.foldl_cons, List.foldl_cons]
    have hp := insTg_perm (r := r) L (x, k)
    obtain ⟨i1, i2, i3⟩ := ih (k + 1) (insTg r L (x, k)) (insTg_sort h1 (fun y hy z hz => by simp at hz; subst hz; exact h2 y hy)) (fun y hy => by
      rcases List.mem_cons.1 (hp.mem_iff.1 hy) with rfl | hy
      · simp
      · have := h2 y hy; omega)
    refine ⟨i1, i2.trans ?_, by rw [i3, insTg_map]⟩
    refine (hp.append_right _).trans ?_
    rw [List.cons_append]
    exact List.perm_middle.symm
/-- the only one -/
theorem stab_only {l : List α} {T : List (α × Nat)} (hp : T.Perm l.zipIdx) (hs : SortT r T) : T.map (·.1) = stabL r l := by
  obtain ⟨h1, h2, h3⟩ := foldl_tag (r := r) l 0 [] List.Pairwise.nil (fun x hx => by cases hx)
  rw [List.nil_append] at h2
  have e : T = l.zipIdx.foldl (insTg r) [] := List.Perm.eq_of_pairwise (le := ltT r) (fun a b _ _ h k => (h.asymm k).elim) hs h1 (hp.trans h2.symm)
  rw [e, h3]
  rfl
end
end Go.Proofs.YtkcgchpbjegneaaDoor
