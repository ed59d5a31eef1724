/-
  The plain words of the curve: points of orders at each price. No walk.
-/
import Derived.Test.YteggaehelnmhnaaDoorMem
import Derived.Lib.SlKeysI
namespace Go.Proofs.YteggaehelnmhnaaDoor
open Go.RowKit
set_option linter.unusedVariables false

def okO (o : Ord5) : Bool := (decide (1 ≤ o.qty) && decide (o.qty ≤ 1000000)) && (o.side == 1 || o.side == 2)
def demQ (p : Int) (o : Ord5) : Int := if o.side = 1 ∧ (o.kind = 2 ∨ p ≤ o.price) then o.qty else 0
def supQ (p : Int) (o : Ord5) : Int := if o.side = 2 ∧ (o.kind = 2 ∨ o.price ≤ p) then o.qty else 0
def demL (p : Int) (l : List Ord5) : Int := l.foldl (fun s o => s + demQ p o) 0
def supL (p : Int) (l : List Ord5) : Int := l.foldl (fun s o => s + supQ p o) 0
theorem demL_snoc (p : Int) (l : List Ord5) (o : Ord5) : demL p (l ++ [o]) = demL p l + demQ p o := by unfold demL; rw [List.foldl_append]; rfl
theorem supL_snoc (p : Int) (l : List Ord5) (o : Ord5) : supL p (l ++ [o]) = supL p l + supQ p o := by unfold supL; rw [List.foldl_append]; rfl
def goodL (l : List Ord5) : List Ord5 := l.filter okO
def pricesL (l : List Ord5) (more : Int) : List Int := (if 1 ≤ more then [more] else []) ++ ((goodL l).filter (fun o => !(o.kind == 2))).map (·.price)
theorem goodL_snoc (l : List Ord5) (o : Ord5) : goodL (l ++ [o]) = goodL l ++ (if okO o = true then [o] else []) := by
  unfold goodL
  rw [List.filter_append]
  cases h : okO o <;> simp [h]
theorem pricesL_snoc (l : List Ord5) (o : Ord5) (more : Int) : pricesL (l ++ [o]) more = pricesL l more ++ (if okO o = true ∧ o.kind ≠ 2 then [o.price] else []) := by
  unfold pricesL
  rw [goodL_snoc, List.filter_append, List.map_append, List.append_assoc]
  congr 2
  by_cases h1 : okO o = true
  · by_cases h2 : o.kind = 2 <;> simp [h1, h2]
  · simp [h1]

/-- a sorted list, each number once -/
def ddF (s : List Int × Option Int) (p : Int) : List Int × Option Int := if s.2 = some p then s else (s.1 ++ [p], some p)
def ddS (l : List Int) : List Int × Option Int := l.foldl ddF ([], none)
def dd (l : List Int) : List Int := (ddS l).1
theorem ddS_snoc (l : List Int) (p : Int) : ddS (l ++ [p]) = ddF (ddS l) p := by unfold ddS; rw [List.foldl_append]; rfl
theorem ddS_last (l : List Int) : (ddS l).2 = l.getLast? := by
  rcases List.eq_nil_or_concat l with rfl | ⟨l', p, rfl⟩
  · rfl
  · rw [List.concat_eq_append, ddS_snoc, List.getLast?_append]
    unfold ddF
    split
    · rename_i h; rw [h]; rfl
    · rfl
theorem dd_snoc (l : List Int) (p : Int) : dd (l ++ [p]) = if l.getLast? = some p then dd l else dd l ++ [p] := by
  unfold dd
  rw [ddS_snoc, ← ddS_last]
  unfold ddF
  split <;> rfl
theorem dd_fold (l : List Int) : ∀ (acc : List Int) (o : Option Int), acc.Pairwise (· < ·) → (∀ x ∈ acc, ∀ y ∈ l, x ≤ y) → (∀ y, o = some y → y ∈ acc ∧ ∀ x ∈ acc, x ≤ y) → (o = none → acc = []) → l.Pairwise (· ≤ ·) →
    (l.foldl ddF (acc, o)).1.Pairwise (· < ·) ∧ ∀ x, x ∈ (l.foldl ddF (acc, o)).1 ↔ x ∈ acc ∨ x ∈ l := by
  induction l with
  | nil => intro acc o h1 h2 h3 h4 h5; exact ⟨h1, fun x => by simp⟩
  | cons a l ih =>
    intro acc o h1 h2 h3 h4 h5
    rw [List.foldl_cons]
    rw [List.pairwise_cons] at h5
    by_cases ho : o = some a
    · have e : ddF (acc, o) a = (acc, o) := by unfold ddF; rw [if_pos ho]
      rw [e]
      obtain ⟨g1, g2⟩ := ih acc o h1 (fun x hx y hy => h2 x hx y (by simp [hy])) h3 h4 h5.2
      refine ⟨g1, fun x => ?_⟩
      rw [g2]
      have := (h3 a ho).1
      constructor
      · rintro (h | h)
        · exact .inl h
        · exact .inr (by simp [h])
      · rintro (h | h)
        · exact .inl h
        · rcases List.mem_cons.1 h with rfl | h
          · exact .inl this
          · exact .inr h
    · have e : ddF (acc, o) a = (acc ++ [a], some a) := by unfold ddF; rw [if_neg ho]
      rw [e]
      have hlt : ∀ x ∈ acc, x < a := by
        intro x hx
        cases o with
        | none => rw [h4 rfl] at hx; cases hx
        | some y =>
          obtain ⟨k1, k2⟩ := h3 y rfl
          have h6 := h2 y k1 a (by simp)
          have h7 := k2 x hx
          have h8 : y ≠ a := fun e => ho (by rw [e])
          omega
      obtain ⟨g1, g2⟩ := ih (acc ++ [a]) (some a) (List.pairwise_append.2 ⟨h1, List.pairwise_singleton _ _, fun x hx y hy => by simp at hy; subst hy; exact hlt x hx⟩)
        (fun x hx y hy => by
          rcases List.mem_append.1 hx with hx | hx
          · exact h2 x hx y (by simp [hy])
          · simp at hx; subst hx; exact h5.1 y hy)
        (fun y hy => by
          cases hy
          exact ⟨by simp, fun x hx => by
            rcases List.mem_append.1 hx with hx | hx
            · exact Int.le_of_lt (hlt x hx)
            · simp at hx; omega⟩)
        (fun h => by cases h) h5.2
      refine ⟨g1, fun x => ?_⟩
      rw [g2]
      simp [or_assoc]
/-- sorted, each once: by whichever list of the same numbers -/
theorem dd_sorted (L ss : List Int) (hnd : ss.Nodup) (hm : ∀ x, x ∈ ss ↔ x ∈ L) : dd (L.mergeSort fun x y => decide (x ≤ y)) = ss.mergeSort fun x y => decide (x ≤ y) := by
  have tr : ∀ a b c : Int, (decide (a ≤ b)) = true → (decide (b ≤ c)) = true → (decide (a ≤ c)) = true := fun a b c h1 h2 => by simp at *; omega
  have to : ∀ a b : Int, (decide (a ≤ b) || decide (b ≤ a)) = true := fun a b => by simp; omega
  have hs := List.pairwise_mergeSort tr to L
  have hs' : (L.mergeSort fun x y => decide (x ≤ y)).Pairwise (· ≤ ·) := hs.imp (fun h => by simpa using h)
  obtain ⟨g1, g2⟩ := dd_fold (L.mergeSort fun x y => decide (x ≤ y)) [] none List.Pairwise.nil (fun x hx => by cases hx) (fun y h => by cases h) (fun _ => rfl) hs'
  have hmem : ∀ x, x ∈ dd (L.mergeSort fun x y => decide (x ≤ y)) ↔ x ∈ L := fun x => by
    show x ∈ (List.foldl ddF ([], none) _).1 ↔ _
    rw [g2]
    simp [List.mem_mergeSort]
  have hnd2 : (dd (L.mergeSort fun x y => decide (x ≤ y))).Nodup := g1.imp (fun h => by omega)
  refine List.Perm.eq_of_pairwise (le := fun a b => a ≤ b) (fun a b _ _ h1 h2 => by omega) (g1.imp (fun h => by omega)) ((List.pairwise_mergeSort tr to ss).imp (fun h => by simpa using h)) ?_
  refine List.Perm.trans ?_ (List.mergeSort_perm ss _).symm
  exact (List.perm_ext_iff_of_nodup hnd2 hnd).2 fun x => (hmem x).trans (hm x).symm

def pointOf (g : List Ord5) (p : Int) : Tri := (p, demL p g, supL p g)
/-- the points of orders -/
def curveP (l : List Ord5) (more : Int) : List Tri := (dd ((pricesL l more).mergeSort fun x y => decide (x ≤ y))).map (pointOf (goodL l))

theorem fold_bound (F : Ord5 → Int) (l : List Ord5) (hF : ∀ o ∈ l, 0 ≤ F o ∧ F o ≤ 1000000) : ∀ s : Int, 0 ≤ s → 0 ≤ l.foldl (fun s o => s + F o) s ∧ l.foldl (fun s o => s + F o) s ≤ s + 1000000 * l.length := by
  induction l with
  | nil => intro s hs; simp; omega
  | cons a l ih =>
    intro s hs
    have h1 := hF a (by simp)
    have h2 := ih (fun o ho => hF o (by simp [ho])) (s + F a) (by omega)
    rw [List.foldl_cons, List.length_cons]
    refine ⟨h2.1, Int.le_trans h2.2 ?_⟩
    push_cast
    omega
theorem okO_qty {o : Ord5} (h : okO o = true) : 1 ≤ o.qty ∧ o.qty ≤ 1000000 := by unfold okO at h; simp at h; exact h.1
theorem demQ_bound {p : Int} {o : Ord5} (h : okO o = true) : 0 ≤ demQ p o ∧ demQ p o ≤ 1000000 := by
  have := okO_qty h
  unfold demQ
  split <;> omega
theorem supQ_bound {p : Int} {o : Ord5} (h : okO o = true) : 0 ≤ supQ p o ∧ supQ p o ≤ 1000000 := by
  have := okO_qty h
  unfold supQ
  split <;> omega
theorem demL_bound {p : Int} {l : List Ord5} (h : ∀ o ∈ l, okO o = true) : 0 ≤ demL p l ∧ demL p l ≤ 1000000 * l.length := by
  have := fold_bound (demQ p) l (fun o ho => demQ_bound (h o ho)) 0 (Int.le_refl _)
  unfold demL
  omega
theorem supL_bound {p : Int} {l : List Ord5} (h : ∀ o ∈ l, okO o = true) : 0 ≤ supL p l ∧ supL p l ≤ 1000000 * l.length := by
  have := fold_bound (supQ p) l (fun o ho => supQ_bound (h o ho)) 0 (Int.le_refl _)
  unfold supL
  omega
theorem goodL_ok {l : List Ord5} : ∀ o ∈ goodL l, okO o = true := fun o ho => (List.mem_filter.1 ho).2
theorem dd_len (l : List Int) : ∀ s : List Int × Option Int, (l.foldl ddF s).1.length ≤ s.1.length + l.length := by
  induction l with
  | nil => intro s; simp
  | cons a l ih =>
    intro s
    rw [List.foldl_cons]
    refine Nat.le_trans (ih _) ?_
    unfold ddF
    split <;> simp <;> omega
theorem curveP_len (l : List Ord5) (more : Int) : (curveP l more).length ≤ l.length + 1 := by
  unfold curveP
  rw [List.length_map]
  have h1 := dd_len ((pricesL l more).mergeSort fun x y => decide (x ≤ y)) ([], none)
  rw [List.length_mergeSort] at h1
  have h2 : (pricesL l more).length ≤ l.length + 1 := by
    unfold pricesL
    rw [List.length_append, List.length_map]
    have h3 := List.length_filter_le (fun o : Ord5 => !(o.kind == 2)) (goodL l)
    have h4 : (goodL l).length ≤ l.length := List.length_filter_le okO l
    have h5 : (if 1 ≤ more then [more] else []).length ≤ 1 := by split <;> simp
    omega
  simp only [List.length_nil, Nat.zero_add] at h1
  exact Nat.le_trans h1 h2

theorem dd_mem (L : List Int) (x : Int) : x ∈ dd (L.mergeSort fun x y => decide (x ≤ y)) ↔ x ∈ L := by
  have tr : ∀ a b c : Int, (decide (a ≤ b)) = true → (decide (b ≤ c)) = true → (decide (a ≤ c)) = true := fun a b c h1 h2 => by simp at *; omega
  have tot : ∀ a b : Int, (decide (a ≤ b) || decide (b ≤ a)) = true := fun a b => by simp; omega
  have hs' : (L.mergeSort fun x y => decide (x ≤ y)).Pairwise (· ≤ ·) := (List.pairwise_mergeSort tr tot L).imp (fun h => by simpa using h)
  obtain ⟨_, g2⟩ := dd_fold (L.mergeSort fun x y => decide (x ≤ y)) [] none List.Pairwise.nil (fun x hx => by cases hx) (fun y h => by cases h) (fun _ => rfl) hs'
  show x ∈ (List.foldl ddF ([], none) _).1 ↔ _
  rw [g2]
  simp [List.mem_mergeSort]

/-- orders that may all lie -/
def AllOk (l : List Ord5) : Prop := ∀ o ∈ l, okO o = true
theorem goodL_all {l : List Ord5} (h : AllOk l) : goodL l = l := List.filter_eq_self.2 h
theorem mem_prices {l : List Ord5} {more : Int} (h : AllOk l) {o : Ord5} (ho : o ∈ l) (hk : ¬ o.kind = 2) : o.price ∈ pricesL l more := by
  unfold pricesL
  rw [goodL_all h]
  refine List.mem_append.2 (.inr (List.mem_map.2 ⟨o, List.mem_filter.2 ⟨ho, by simp [hk]⟩, rfl⟩))

end Go.Proofs.YteggaehelnmhnaaDoor
