/-
  The plain words of the curve: points of orders at each price. No walk.
  Who trades at an auction's price, by the two ranked lists. No walk.
  The walk of cross.willing: how many lots of a side would be traded at a price.
  The walk of cross.Fills, where so many lots want to trade: who trades.
  Whom an order meets, in plain Lean. No walk.
  What a meeting asks of a market and of its two askers. No walk.
  What lies in memory while an order meets. No walk.
  The function values that the statement CrossMeets makes, walked; and a market behind them, as a meeting asks for it.
  A stable sort, told by tags: elements with their places; sorted by rank, then by place, there is one order alone. Merging by halves (symMerge), chunk by chunk. No walk.
  sort's own functions over a row: what is asked of a comparison and of a swap, and the walks of swapRange_func, rotate_func and insertionSort_func.
-/
import Derived.Test.YtkcgchpbjegneaaGreatDoorMem
import Derived.Lib.SlKeysI
import Derived.Test.YtkcgchpbjegneaaGreatDoorBookAddP
import Derived.WalkKit
import Derived.WalkLawsBesides
import Derived.WalkSpells
import Derived.Deep.QuietTactic
import Derived.BigQuiet
import Derived.Deep.LoopGhost
import Derived.Deep.DeepCutAuto
import Derived.Deep.CutBlock
import Derived.Laws.EntriesVeiled
import Derived.Test.YtkcgchpbjegneaaGreatDoorBookLook
import Derived.Deep.AppendLies
import Derived.Test.YtkcgchpbjegneaaGreatDoorBookCutP
import Derived.Shelf.Abstract
namespace Go.Proofs.YtkcgchpbjegneaaGreatDoor
open Go.RowKit
set_option linter.unusedVariables false

def okO (o : Ord5) : Bool := (decide (1 ≤ o.qty) && decide (o.qty ≤ 1000000)) && (o.side == 1 || o.side == 2)
def demQ (p : Int) (o : Ord5) : Int := if o.side = 1 ∧ (o.kind = 2 ∨ p ≤ o.price) then o.qty else 0
def supQ (p : Int) (o : Ord5) : Int := if o.side = 2 ∧ (o.kind = 2 ∨ o.price ≤ p) then o.qty else 0
def demL (p : Int) (l : List Ord5) : Int := l.foldl (fun s o => s + demQ p o) 0
def supL (p : Int) (l : List Ord5) : Int := l.foldl (fun s o => s + supQ p o) 0
theorem demL_snoc (p : Int) (l : List Ord5) (o : Ord5) : demL p (l ++ [o]) = demL p l + demQ p o := by unfold demL; rw [List.foldl_append]; rfl
theorem supL_snoc (p : Int) (l : List Ord5) (o : Ord5) : supL p (l ++ [o]) = supL p l + supQ p o := by unfold supL; rw [List.foldl_append]; rfl
def goodL (l : List Ord5) : List Ord5 := l.filter okO
def pricesL (l : List Ord5) (more : Int) : List Int := (if 1 ≤ more then [more] else []) ++ ((goodL l).filter (fun o => !(o.kind == 2))).map (·.price)
theorem goodL_snoc (l : List Ord5) (o : Ord5) : goodL (l ++ [o]) = goodL l ++ (if okO o = true then [o] else []) := by
  unfold goodL
  rw [List.filter_append]
  cases h : okO o <;> simp [h]
theorem pricesL_snoc (l : List Ord5) (o : Ord5) (more : Int) : pricesL (l ++ [o]) more = pricesL l more ++ (if okO o = true ∧ o.kind ≠ 2 then [o.price] else []) := by
  unfold pricesL
  rw [goodL_snoc, List.filter_append, List.map_append, List.append_assoc]
  congr 2
  by_cases h1 : okO o = true
  · by_cases h2 : o.kind = 2 <;> simp [h1, h2]
  · simp [h1]

/-- a sorted list, each number once -/
def ddF (s : List Int × Option Int) (p : Int) : List Int × Option Int := if s.2 = some p then s else (s.1 ++ [p], some p)
def ddS (l : List Int) : List Int × Option Int := l.foldl ddF ([], none)
def dd (l : List Int) : List Int := (ddS l).1
theorem ddS_snoc (l : List Int) (p : Int) : ddS (l ++ [p]) = ddF (ddS l) p := by unfold ddS; rw [List.foldl_append]; rfl
theorem ddS_last (l : List Int) : (ddS l).2 = l.getLast? := by
  rcases List.eq_nil_or_concat l with rfl | ⟨l', p, rfl⟩
  · rfl
  · rw [List.concat_eq_append, ddS_snoc, List.getLast?_append]
    unfold ddF
    split
    · rename_i h; rw [h]; rfl
    · rfl
theorem dd_snoc (l : List Int) (p : Int) : dd (l ++ [p]) = if l.getLast? = some p then dd l else dd l ++ [p] := by
  unfold dd
  rw [ddS_snoc, ← ddS_last]
  unfold ddF
  split <;> rfl
theorem dd_fold (l : List Int) : ∀ (acc : List Int) (o : Option Int), acc.Pairwise (· < ·) → (∀ x ∈ acc, ∀ y ∈ l, x ≤ y) → (∀ y, o = some y → y ∈ acc ∧ ∀ x ∈ acc, x ≤ y) → (o = none → acc = []) → l.Pairwise (· ≤ ·) →
    (l.foldl ddF (acc, o)).1.Pairwise (· < ·) ∧ ∀ x, x ∈ (l.foldl ddF (acc, o)).1 ↔ x ∈ acc ∨ x ∈ l := by
  induction l with
  | nil => intro acc o h1 h2 h3 h4 h5; exact ⟨h1, fun x => by simp⟩
  | cons a l ih =>
    intro acc o h1 h2 h3 h4 h5
    rw [List.foldl_cons]
    rw [List.pairwise_cons] at h5
    by_cases ho : o = some a
    · have e : ddF (acc, o) a = (acc, o) := by unfold ddF; rw [if_pos ho]
      rw [e]
      obtain ⟨g1, g2⟩ := ih acc o h1 (fun x hx y hy => h2 x hx y (by simp [hy])) h3 h4 h5.2
      refine ⟨g1, fun x => ?_⟩
      rw [g2]
      have := (h3 a ho).1
      constructor
      · rintro (h | h)
        · exact .inl h
        · exact .inr (by simp [h])
      · rintro (h | h)
        · exact .inl h
        · rcases List.mem_cons.1 h with rfl | h
          · exact .inl this
          · exact .inr h
    · have e : ddF (acc, o) a = (acc ++ [a], some a) := by unfold ddF; rw [if_neg ho]
      rw [e]
      have hlt : ∀ x ∈ acc, x < a := by
        intro x hx
        cases o with
        | none => rw [h4 rfl] at hx; cases hx
        | some y =>
          obtain ⟨k1, k2⟩ := h3 y rfl
          have h6 := h2 y k1 a (by simp)
          have h7 := k2 x hx
          have h8 : y ≠ a := fun e => ho (by rw [e])
          omega
      obtain ⟨g1, g2⟩ := ih (acc ++ [a]) (some a) (List.pairwise_append.2 ⟨h1, List.pairwise_singleton _ _, fun x hx y hy => by simp at hy; subst hy; exact hlt x hx⟩)
        (fun x hx y hy => by
          rcases List.mem_append.1 hx with hx | hx
          · exact h2 x hx y (by simp [hy])
          · simp at hx; subst hx; exact h5.1 y hy)
        (fun y hy => by
          cases hy
          exact ⟨by simp, fun x hx => by
            rcases List.mem_append.1 hx with hx | hx
            · exact Int.le_of_lt (hlt x hx)
            · simp at hx; omega⟩)
        (fun h => by cases h) h5.2
      refine ⟨g1, fun x => ?_⟩
      rw [g2]
      simp [or_assoc]
/-- sorted, each once: by whichever list of the same numbers -/
theorem dd_sorted (L ss : List Int) (hnd : ss.Nodup) (hm : ∀ x, x ∈ ss ↔ x ∈ L) : dd (L.mergeSort fun x y => decide (x ≤ y)) = ss.mergeSort fun x y => decide (x ≤ y) := by
  have tr : ∀ a b c : Int, (decide (a ≤ b)) = true → (decide (b ≤ c)) = true → (decide (a ≤ c)) = true := fun a b c h1 h2 => by simp at *; omega
  have tot : ∀ a b : Int, (decide (a ≤ b) || decide (b ≤ a)) = true := fun a b => by simp; omega
  have hs := List.pairwise_mergeSort tr tot L
  have hs' : (L.mergeSort fun x y => decide (x ≤ y)).Pairwise (· ≤ ·) := hs.imp (fun h => by simpa using h)
  obtain ⟨g1, g2⟩ := dd_fold (L.mergeSort fun x y => decide (x ≤ y)) [] none List.Pairwise.nil (fun x hx => by cases hx) (fun y h => by cases h) (fun _ => rfl) hs'
  have hmem : ∀ x, x ∈ dd (L.mergeSort fun x y => decide (x ≤ y)) ↔ x ∈ L := fun x => by
    show x ∈ (List.foldl ddF ([], none) _).1 ↔ _
    rw [g2]
    simp [List.mem_mergeSort]
  have hnd2 : (dd (L.mergeSort fun x y => decide (x ≤ y))).Nodup := g1.imp (fun h => by omega)
  refine List.Perm.eq_of_pairwise (le := fun a b => a ≤ b) (fun a b _ _ h1 h2 => by omega) (g1.imp (fun h => by omega)) ((List.pairwise_mergeSort tr tot ss).imp (fun h => by simpa using h)) ?_
  refine List.Perm.trans ?_ (List.mergeSort_perm ss _).symm
  exact (List.perm_ext_iff_of_nodup hnd2 hnd).2 fun x => (hmem x).trans (hm x).symm

def pointOf (g : List Ord5) (p : Int) : Tri := (p, demL p g, supL p g)
/-- the points of orders -/
def curveP (l : List Ord5) (more : Int) : List Tri := (dd ((pricesL l more).mergeSort fun x y => decide (x ≤ y))).map (pointOf (goodL l))

theorem fold_bound (F : Ord5 → Int) (l : List Ord5) (hF : ∀ o ∈ l, 0 ≤ F o ∧ F o ≤ 1000000) : ∀ s : Int, 0 ≤ s → 0 ≤ l.foldl (fun s o => s + F o) s ∧ l.foldl (fun s o => s + F o) s ≤ s + 1000000 * l.length := by
  induction l with
  | nil => intro s hs; simp; omega
  | cons a l ih =>
    intro s hs
    have h1 := hF a (by simp)
    have h2 := ih (fun o ho => hF o (by simp [ho])) (s + F a) (by omega)
    rw [List.foldl_cons, List.length_cons]
    refine ⟨h2.1, Int.le_trans h2.2 ?_⟩
    push_cast
    omega
theorem okO_qty {o : Ord5} (h : okO o = true) : 1 ≤ o.qty ∧ o.qty ≤ 1000000 := by unfold okO at h; simp at h; exact h.1
theorem demQ_bound {p : Int} {o : Ord5} (h : okO o = true) : 0 ≤ demQ p o ∧ demQ p o ≤ 1000000 := by
  have := okO_qty h
  unfold demQ
  split <;> omega
theorem supQ_bound {p : Int} {o : Ord5} (h : okO o = true) : 0 ≤ supQ p o ∧ supQ p o ≤ 1000000 := by
  have := okO_qty h
  unfold supQ
  split <;> omega
theorem demL_bound {p : Int} {l : List Ord5} (h : ∀ o ∈ l, okO o = true) : 0 ≤ demL p l ∧ demL p l ≤ 1000000 * l.length := by
  have := fold_bound (demQ p) l (fun o ho => demQ_bound (h o ho)) 0 (Int.le_refl _)
  unfold demL
  omega
theorem supL_bound {p : Int} {l : List Ord5} (h : ∀ o ∈ l, okO o = true) : 0 ≤ supL p l ∧ supL p l ≤ 1000000 * l.length := by
  have := fold_bound (supQ p) l (fun o ho => supQ_bound (h o ho)) 0 (Int.le_refl _)
  unfold supL
  omega
theorem goodL_ok {l : List Ord5} : ∀ o ∈ goodL l, okO o = true := fun o ho => (List.mem_filter.1 ho).2
theorem dd_len (l : List Int) : ∀ s : List Int × Option Int, (l.foldl ddF s).1.length ≤ s.1.length + l.length := by
  induction l with
  | nil => intro s; simp
  | cons a l ih =>
    intro s
    rw [List.foldl_cons]
    refine Nat.le_trans (ih _) ?_
    unfold ddF
    split <;> simp <;> omega
theorem curveP_len (l : List Ord5) (more : Int) : (curveP l more).length ≤ l.length + 1 := by
  unfold curveP
  rw [List.length_map]
  have h1 := dd_len ((pricesL l more).mergeSort fun x y => decide (x ≤ y)) ([], none)
  rw [List.length_mergeSort] at h1
  have h2 : (pricesL l more).length ≤ l.length + 1 := by
    unfold pricesL
    rw [List.length_append, List.length_map]
    have h3 := List.length_filter_le (fun o : Ord5 => !(o.kind == 2)) (goodL l)
    have h4 : (goodL l).length ≤ l.length := List.length_filter_le okO l
    have h5 : (if 1 ≤ more then [more] else []).length ≤ 1 := by split <;> simp
    omega
  simp only [List.length_nil, Nat.zero_add] at h1
  exact Nat.le_trans h1 h2

theorem dd_mem (L : List Int) (x : Int) : x ∈ dd (L.mergeSort fun x y => decide (x ≤ y)) ↔ x ∈ L := by
  have tr : ∀ a b c : Int, (decide (a ≤ b)) = true → (decide (b ≤ c)) = true → (decide (a ≤ c)) = true := fun a b c h1 h2 => by simp at *; omega
  have tot : ∀ a b : Int, (decide (a ≤ b) || decide (b ≤ a)) = true := fun a b => by simp; omega
  have hs' : (L.mergeSort fun x y => decide (x ≤ y)).Pairwise (· ≤ ·) := (List.pairwise_mergeSort tr tot L).imp (fun h => by simpa using h)
  obtain ⟨_, g2⟩ := dd_fold (L.mergeSort fun x y => decide (x ≤ y)) [] none List.Pairwise.nil (fun x hx => by cases hx) (fun y h => by cases h) (fun _ => rfl) hs'
  show x ∈ (List.foldl ddF ([], none) _).1 ↔ _
  rw [g2]
  simp [List.mem_mergeSort]

/-- orders that may all lie -/
def AllOk (l : List Ord5) : Prop := ∀ o ∈ l, okO o = true
theorem goodL_all {l : List Ord5} (h : AllOk l) : goodL l = l := List.filter_eq_self.2 h
theorem mem_prices {l : List Ord5} {more : Int} (h : AllOk l) {o : Ord5} (ho : o ∈ l) (hk : ¬ o.kind = 2) : o.price ∈ pricesL l more := by
  unfold pricesL
  rw [goodL_all h]
  refine List.mem_append.2 (.inr (List.mem_map.2 ⟨o, List.mem_filter.2 ⟨ho, by simp [hk]⟩, rfl⟩))

end Go.Proofs.YtkcgchpbjegneaaGreatDoor
namespace Go.Proofs.YtkcgchpbjegneaaGreatDoor
open Go.RowKit
set_option linter.unusedVariables false

/-- whether an order of that side would trade at a price -/
def wantB (s p : Int) (o : Ord5) : Bool := (o.kind == 2) || ((s == 1) && decide (p ≤ o.price)) || ((s == 2) && decide (o.price ≤ p))
def AheadP (s : Int) (a b : Ord5) : Prop := ∀ p, wantB s p b = true → wantB s p a = true
def Ranked (s : Int) (L : List Ord5) : Prop := L.Pairwise (AheadP s)
theorem AheadP.trans {s : Int} {a b c : Ord5} (h : AheadP s a b) (k : AheadP s b c) : AheadP s a c := fun p hp => h p (k p hp)
theorem ahead_yes {s : Int} (hs : Is12 s) {o x : Ord5} (h : aheadB s o x = true) : AheadP s x o := by
  intro p hp
  unfold aheadB betB at h
  unfold wantB at hp ⊢
  rcases hs with rfl | rfl
  · simp at h hp ⊢
    omega
  · simp at h hp ⊢
    omega
theorem ahead_no {s : Int} (hs : Is12 s) {o x : Ord5} (h : aheadB s o x = false) : AheadP s o x := by
  intro p hp
  unfold aheadB betB at h
  unfold wantB at hp ⊢
  rcases hs with rfl | rfl
  · simp at h hp ⊢
    omega
  · simp at h hp ⊢
    omega
theorem takeWhile_yes {α : Type} {q : α → Bool} : ∀ {l : List α} {a : α}, a ∈ l.takeWhile q → q a = true
  | [], _, h => by simp at h
  | b :: l, a, h => by
    rw [List.takeWhile_cons] at h
    split at h
    · rename_i hq
      rcases List.mem_cons.1 h with rfl | h
      · exact hq
      · exact takeWhile_yes h
    · cases h
theorem dropWhile_head {α : Type} {q : α → Bool} : ∀ {l : List α} {d : α} {r : List α}, l.dropWhile q = d :: r → q d = false
  | [], _, _, h => by simp at h
  | a :: l, d, r, h => by
    rw [List.dropWhile_cons] at h
    split at h
    · exact dropWhile_head h
    · rename_i hq
      cases h
      simpa using hq
theorem ranked_ins {s : Int} (hs : Is12 s) {L : List Ord5} (h : Ranked s L) (o : Ord5) : Ranked s (insO s L o) := by
  unfold insO Ranked at *
  have hsp : L.takeWhile (aheadB s o) ++ L.dropWhile (aheadB s o) = L := List.takeWhile_append_dropWhile
  rw [← hsp, List.pairwise_append] at h
  obtain ⟨h1, h2, h3⟩ := h
  have hyes : ∀ a ∈ L.takeWhile (aheadB s o), AheadP s a o := fun a ha => ahead_yes hs (takeWhile_yes ha)
  have hno : ∀ b ∈ L.dropWhile (aheadB s o), AheadP s o b := by
    cases hd : L.dropWhile (aheadB s o) with
    | nil => intro b hb; cases hb
    | cons d r =>
      have hdn := ahead_no hs (dropWhile_head hd)
      rw [hd] at h2
      intro b hb
      rcases List.mem_cons.1 hb with rfl | hb
      · exact hdn
      · exact hdn.trans ((List.pairwise_cons.1 h2).1 b hb)
  rw [List.pairwise_append]
  refine ⟨h1, List.pairwise_cons.2 ⟨hno, h2⟩, fun a ha b hb => ?_⟩
  rcases List.mem_cons.1 hb with rfl | hb
  · exact hyes a ha
  · exact h3 a ha b hb

def sumF (f : Ord5 → Int) : List Ord5 → Int
  | [] => 0
  | o :: l => f o + sumF f l
theorem sumF_perm {f : Ord5 → Int} {l l' : List Ord5} (h : l.Perm l') : sumF f l = sumF f l' := by
  induction h with
  | nil => rfl
  | cons a _ ih => simp only [sumF, ih]
  | swap a b l => simp only [sumF]; omega
  | trans _ _ h1 h2 => exact h1.trans h2
theorem sumF_append {f : Ord5 → Int} (l l' : List Ord5) : sumF f (l ++ l') = sumF f l + sumF f l' := by
  induction l with
  | nil => simp [sumF]
  | cons a l ih => simp only [List.cons_append, sumF, ih]; omega
theorem sumF_foldl (f : Ord5 → Int) (l : List Ord5) : ∀ s : Int, l.foldl (fun s o => s + f o) s = s + sumF f l := by
  induction l with
  | nil => intro s; simp [sumF]
  | cons a l ih => intro s; rw [List.foldl_cons, ih]; simp only [sumF]; omega
theorem sumF_congr {f g : Ord5 → Int} {l : List Ord5} (h : ∀ o ∈ l, f o = g o) : sumF f l = sumF g l := by
  induction l with
  | nil => rfl
  | cons a l ih => simp only [sumF]; rw [h a (by simp), ih (fun o ho => h o (by simp [ho]))]
theorem sumF_map {f : Ord5 → Int} {g : Ord5 → Ord5} (l : List Ord5) : sumF f (l.map g) = sumF (fun o => f (g o)) l := by
  induction l with
  | nil => rfl
  | cons a l ih => simp only [List.map_cons, sumF, ih]
theorem sumF_zero {f : Ord5 → Int} {l : List Ord5} (h : ∀ o ∈ l, f o = 0) : sumF f l = 0 := by
  induction l with
  | nil => rfl
  | cons a l ih => simp only [sumF]; rw [h a (by simp), ih (fun o ho => h o (by simp [ho]))]; rfl
theorem sumF_nonneg {f : Ord5 → Int} {l : List Ord5} (h : ∀ o ∈ l, 0 ≤ f o) : 0 ≤ sumF f l := by
  induction l with
  | nil => simp [sumF]
  | cons a l ih =>
    have h1 := h a (by simp)
    have h2 := ih (fun o ho => h o (by simp [ho]))
    simp only [sumF]
    omega
theorem sumF_le {f g : Ord5 → Int} {l : List Ord5} (h : ∀ o ∈ l, f o ≤ g o) : sumF f l ≤ sumF g l := by
  induction l with
  | nil => simp [sumF]
  | cons a l ih =>
    have h1 := h a (by simp)
    have h2 := ih (fun o ho => h o (by simp [ho]))
    simp only [sumF]
    omega
theorem sumF_mem {f : Ord5 → Int} {l : List Ord5} (h : ∀ o ∈ l, 0 ≤ f o) {x : Ord5} (hx : x ∈ l) : f x ≤ sumF f l := by
  induction l with
  | nil => cases hx
  | cons a l ih =>
    have h1 := h a (by simp)
    have h2 := sumF_nonneg (fun o ho => h o (by simp [ho]) : ∀ o ∈ l, 0 ≤ f o)
    simp only [sumF]
    rcases List.mem_cons.1 hx with rfl | hx
    · omega
    · have := ih (fun o ho => h o (by simp [ho])) hx
      omega

/-- the lots that want to trade; all lots -/
def wantL (s p : Int) (L : List Ord5) : Int := sumF (fun o => if wantB s p o = true then o.qty else 0) L
def allQ (L : List Ord5) : Int := sumF (fun o => o.qty) L
/-- what is left of the list behind so many lots, the first ones first -/
def dropQ : List Ord5 → Int → List Ord5
  | [], _ => []
  | o :: t, a => if a ≤ 0 then o :: t else if o.qty ≤ a then dropQ t (a - o.qty) else cutO o a :: t
/-- how many of an order's lots are among them -/
def clampQ (a q : Int) : Int := if a ≤ 0 then 0 else if a < q then a else q
def takeOf : List Ord5 → Int → Int → Int
  | [], _, _ => 0
  | o :: t, a, id => if o.id = id then clampQ a o.qty else takeOf t (a - o.qty) id

theorem dropQ_zero (L : List Ord5) {a : Int} (h : a ≤ 0) : dropQ L a = L := by
  cases L with
  | nil => rfl
  | cons o t => unfold dropQ; rw [if_pos h]
theorem takeOf_zero (id : Int) : ∀ (L : List Ord5) {a : Int}, a ≤ 0 → (∀ o ∈ L, 1 ≤ o.qty) → takeOf L a id = 0
  | [], _, _, _ => rfl
  | o :: t, a, h, hq => by
    unfold takeOf
    have h1 := hq o (by simp)
    split
    · unfold clampQ; rw [if_pos h]
    · exact takeOf_zero id t (by omega) (fun o ho => hq o (by simp [ho]))
theorem takeOf_other {id : Int} : ∀ (L : List Ord5) (a : Int), (∀ o ∈ L, o.id ≠ id) → takeOf L a id = 0
  | [], _, _ => rfl
  | o :: t, a, h => by
    unfold takeOf
    rw [if_neg (h o (by simp))]
    exact takeOf_other t _ (fun o ho => h o (by simp [ho]))
theorem mem_dropQ {x : Ord5} : ∀ {L : List Ord5} {a : Int}, x ∈ dropQ L a → ∃ o ∈ L, o.id = x.id ∧ o.side = x.side ∧ o.kind = x.kind ∧ o.price = x.price ∧ x.qty ≤ o.qty
  | [], _, h => by cases h
  | o :: t, a, h => by
    unfold dropQ at h
    split at h
    · exact ⟨x, h, rfl, rfl, rfl, rfl, Int.le_refl _⟩
    · split at h
      · obtain ⟨y, hy, h1⟩ := mem_dropQ h
        exact ⟨y, List.mem_cons_of_mem _ hy, h1⟩
      · rcases List.mem_cons.1 h with rfl | h
        · exact ⟨o, by simp, rfl, rfl, rfl, rfl, by unfold cutO; dsimp only; omega⟩
        · exact ⟨x, List.mem_cons_of_mem _ h, rfl, rfl, rfl, rfl, Int.le_refl _⟩
theorem dropQ_ne : ∀ {L : List Ord5} {a : Int}, 0 ≤ a → a < allQ L → dropQ L a ≠ []
  | [], a, h0, h => by simp [allQ, sumF] at h; omega
  | o :: t, a, h0, h => by
    have e : allQ (o :: t) = o.qty + allQ t := rfl
    unfold dropQ
    split
    · simp
    · split
      · exact dropQ_ne (by omega) (by omega)
      · simp
theorem dropQ_step {x : Ord5} {t : List Ord5} {n : Int} : ∀ {L : List Ord5} {a : Int}, (∀ o ∈ L, 1 ≤ o.qty) → 0 ≤ a → dropQ L a = x :: t → 1 ≤ n → n ≤ x.qty → (if n = x.qty then t else cutO x n :: t) = dropQ L (a + n)
  | [], a, _, _, h, _, _ => by simp [dropQ] at h
  | o :: s, a, hq, h0, h, h1, h2 => by
    have ho := hq o (by simp)
    have hs : ∀ o ∈ s, 1 ≤ o.qty := fun y hy => hq y (by simp [hy])
    unfold dropQ at h
    by_cases ha : a ≤ 0
    · rw [if_pos ha] at h
      injection h with e1 e2
      subst e1
      subst e2
      unfold dropQ
      rw [if_neg (show ¬ a + n ≤ 0 by omega)]
      by_cases e : n = o.qty
      · rw [if_pos e, if_pos (show o.qty ≤ a + n by omega), dropQ_zero _ (by omega)]
      · rw [if_neg e, if_neg (show ¬ o.qty ≤ a + n by omega)]
        have : a + n = n := by omega
        rw [this]
    · rw [if_neg ha] at h
      by_cases hb : o.qty ≤ a
      · rw [if_pos hb] at h
        have ih := dropQ_step hs (by omega) h h1 h2
        rw [ih]
        conv => rhs; unfold dropQ
        rw [if_neg (show ¬ a + n ≤ 0 by omega), if_pos (show o.qty ≤ a + n by omega)]
        congr 1
        omega
      · rw [if_neg hb] at h
        injection h with e1 e2
        subst e1
        subst e2
        have e3 : (cutO o a).qty = o.qty - a := rfl
        rw [e3] at h2 ⊢
        conv => rhs; unfold dropQ
        rw [if_neg (show ¬ a + n ≤ 0 by omega)]
        by_cases e : n = o.qty - a
        · rw [if_pos e, if_pos (show o.qty ≤ a + n by omega), dropQ_zero _ (by omega)]
        · rw [if_neg e, if_neg (show ¬ o.qty ≤ a + n by omega)]
          have e4 : cutO (cutO o a) n = cutO o (a + n) := by unfold cutO; dsimp only; congr 1; omega
          rw [e4]
theorem takeOf_step {x : Ord5} {t : List Ord5} {n : Int} (id : Int) : ∀ {L : List Ord5} {a : Int}, (∀ o ∈ L, 1 ≤ o.qty) → (L.map (·.id)).Nodup → 0 ≤ a → dropQ L a = x :: t → 1 ≤ n → n ≤ x.qty →
    takeOf L (a + n) id = takeOf L a id + (if x.id = id then n else 0)
  | [], a, _, _, _, h, _, _ => by simp [dropQ] at h
  | o :: s, a, hq, hn, h0, h, h1, h2 => by
    have ho := hq o (by simp)
    have hs : ∀ o ∈ s, 1 ≤ o.qty := fun y hy => hq y (by simp [hy])
    rw [List.map_cons, List.nodup_cons] at hn
    unfold dropQ at h
    unfold takeOf
    by_cases ha : a ≤ 0
    · rw [if_pos ha] at h
      injection h with e1 e2
      subst e1
      by_cases e : o.id = id
      · rw [if_pos e, if_pos e, if_pos e]
        unfold clampQ
        rw [if_neg (by omega), if_pos ha]
        split <;> omega
      · rw [if_neg e, if_neg e, if_neg e, takeOf_zero id s (by omega) hs, takeOf_zero id s (by omega) hs]
        rfl
    · rw [if_neg ha] at h
      by_cases hb : o.qty ≤ a
      · rw [if_pos hb] at h
        have hx : x.id ≠ o.id := by
          intro e
          have hm : x ∈ dropQ s (a - o.qty) := by rw [h]; simp
          obtain ⟨y, hy, hyi, _⟩ := mem_dropQ hm
          exact hn.1 (List.mem_map.2 ⟨y, hy, hyi.trans e⟩)
        by_cases e : o.id = id
        · rw [if_pos e, if_pos e, if_neg (by rw [← e]; exact hx)]
          unfold clampQ
          rw [if_neg (by omega), if_neg (by omega), if_neg (by omega), if_neg (by omega)]
          omega
        · rw [if_neg e, if_neg e]
          have ih := takeOf_step id hs hn.2 (by omega) h h1 h2
          rw [← ih]
          congr 1
          omega
      · rw [if_neg hb] at h
        injection h with e1 e2
        subst e1
        have e3 : (cutO o a).qty = o.qty - a := rfl
        have e4 : (cutO o a).id = o.id := rfl
        rw [e3] at h2
        rw [e4]
        by_cases e : o.id = id
        · rw [if_pos e, if_pos e, if_pos e]
          unfold clampQ
          rw [if_neg (show ¬ a + n ≤ 0 by omega), if_neg ha, if_pos (show a < o.qty by omega)]
          split <;> omega
        · rw [if_neg e, if_neg e, if_neg e, takeOf_zero id s (by omega) hs, takeOf_zero id s (by omega) hs]
          rfl

/-- the ranked list, walked -/
theorem takeOf_at {pre : List Ord5} {o : Ord5} {post : List Ord5} : ∀ {a : Int}, ((pre ++ o :: post).map (·.id)).Nodup → takeOf (pre ++ o :: post) a o.id = clampQ (a - allQ pre) o.qty := by
  induction pre with
  | nil =>
    intro a h
    show takeOf (o :: post) a o.id = clampQ (a - 0) o.qty
    unfold takeOf
    rw [if_pos rfl]
    congr 1
    omega
  | cons y pre ih =>
    intro a h
    rw [List.cons_append, List.map_cons, List.nodup_cons] at h
    have hne : y.id ≠ o.id := fun e => h.1 (List.mem_map.2 ⟨o, by simp, e.symm⟩)
    show takeOf (y :: (pre ++ o :: post)) a o.id = _
    unfold takeOf
    rw [if_neg hne, ih h.2]
    have e : allQ (y :: pre) = y.qty + allQ pre := rfl
    rw [e]
    congr 1
    omega
theorem wantL_append (s p : Int) (l l' : List Ord5) : wantL s p (l ++ l') = wantL s p l + wantL s p l' := sumF_append l l'
theorem wantL_all {s p : Int} {L : List Ord5} (h : ∀ o ∈ L, 1 ≤ o.qty) : wantL s p L ≤ allQ L := by
  refine sumF_le fun o ho => ?_
  have := h o ho
  split <;> omega
/-- who trades is willing -/
theorem want_at {s p a : Int} {pre : List Ord5} {o : Ord5} {post : List Ord5} (hr : Ranked s (pre ++ o :: post)) (hq : ∀ x ∈ pre ++ o :: post, 1 ≤ x.qty) (h : a ≤ wantL s p (pre ++ o :: post)) (ha : allQ pre < a) : wantB s p o = true := by
  cases hw : wantB s p o with
  | true => rfl
  | false =>
    exfalso
    unfold Ranked at hr
    rw [List.pairwise_append, List.pairwise_cons] at hr
    have h2 : wantL s p (o :: post) = 0 := by
      refine sumF_zero fun x hx => ?_
      rcases List.mem_cons.1 hx with rfl | hx
      · rw [if_neg (by rw [hw]; decide)]
      · rw [if_neg]
        intro h'
        have := hr.2.1.1 x hx p h'
        rw [hw] at this
        cases this
    rw [wantL_append, h2] at h
    have h3 := wantL_all (s := s) (p := p) (fun x hx => hq x (List.mem_append_left _ hx) : ∀ x ∈ pre, 1 ≤ x.qty)
    omega
/-- who is left and willing has all those ahead of him traded -/
theorem want_left {s p : Int} {x : Ord5} : ∀ {L : List Ord5} {a : Int}, Ranked s L → (∀ o ∈ L, 1 ≤ o.qty) → x ∈ dropQ L a → wantB s p x = true → a + 1 ≤ wantL s p L
  | [], a, _, _, h, _ => by cases h
  | o :: t, a, hr, hq, h, hw => by
    have ho := hq o (by simp)
    have ht : ∀ o ∈ t, 1 ≤ o.qty := fun y hy => hq y (by simp [hy])
    have hr' := List.pairwise_cons.1 hr
    have hnn : ∀ l : List Ord5, (∀ o ∈ l, 1 ≤ o.qty) → ∀ y ∈ l, 0 ≤ (if wantB s p y = true then y.qty else 0) := fun l hl y hy => by
      have := hl y hy
      split <;> omega
    have e : wantL s p (o :: t) = (if wantB s p o = true then o.qty else 0) + wantL s p t := rfl
    have h0 : 0 ≤ wantL s p t := sumF_nonneg (hnn t ht)
    unfold dropQ at h
    by_cases ha : a ≤ 0
    · rw [if_pos ha] at h
      have h1 := sumF_mem (hnn (o :: t) hq) h
      rw [if_pos hw] at h1
      have h2 := hq x h
      show a + 1 ≤ sumF _ _
      omega
    · rw [if_neg ha] at h
      by_cases hb : o.qty ≤ a
      · rw [if_pos hb] at h
        have ih := want_left hr'.2 ht h hw
        have hwo : wantB s p o = true := by
          obtain ⟨y, hy, h1, h2, h3, h4, h5⟩ := mem_dropQ h
          refine hr'.1 y hy p ?_
          unfold wantB at hw ⊢
          rw [h3, h4]
          exact hw
        rw [e, if_pos hwo]
        omega
      · rw [if_neg hb] at h
        have hwo : wantB s p o = true := by
          rcases List.mem_cons.1 h with rfl | h
          · exact hw
          · exact hr'.1 x h p hw
        rw [e, if_pos hwo]
        omega

/-- a trade -/
structure Fill4 where
  b : Int
  s : Int
  p : Int
  n : Int
def sumN (g : Fill4 → Int) : List Fill4 → Int
  | [] => 0
  | f :: l => g f + sumN g l
theorem sumN_snoc (g : Fill4 → Int) (l : List Fill4) (f : Fill4) : sumN g (l ++ [f]) = sumN g l + g f := by
  induction l with
  | nil => simp [sumN]
  | cons a l ih => simp only [List.cons_append, sumN, ih]; omega
/-- the trades of so many lots -/
structure FillsOk (L1 L2 : List Ord5) (p a : Int) (F : List Fill4) : Prop where
  one : ∀ f ∈ F, f.p = p ∧ 1 ≤ f.n ∧ (∃ o ∈ L1, o.id = f.b) ∧ (∃ o ∈ L2, o.id = f.s)
  sum : sumN (·.n) F = a
  buy : ∀ id, sumN (fun f => if f.b = id then f.n else 0) F = takeOf L1 a id
  sell : ∀ id, sumN (fun f => if f.s = id then f.n else 0) F = takeOf L2 a id
  len : (F.length : Int) ≤ a
theorem FillsOk.start {L1 L2 : List Ord5} {p : Int} (h1 : ∀ o ∈ L1, 1 ≤ o.qty) (h2 : ∀ o ∈ L2, 1 ≤ o.qty) : FillsOk L1 L2 p 0 [] :=
  ⟨fun f hf => (by cases hf), rfl, fun id => (takeOf_zero id L1 (Int.le_refl _) h1).symm, fun id => (takeOf_zero id L2 (Int.le_refl _) h2).symm, by simp⟩
theorem FillsOk.step {L1 L2 : List Ord5} {p a n : Int} {F : List Fill4} (h : FillsOk L1 L2 p a F) (h1 : ∀ o ∈ L1, 1 ≤ o.qty) (h2 : ∀ o ∈ L2, 1 ≤ o.qty) (d1 : (L1.map (·.id)).Nodup) (d2 : (L2.map (·.id)).Nodup) (h0 : 0 ≤ a)
    {x y : Ord5} {t u : List Ord5} (hx : dropQ L1 a = x :: t) (hy : dropQ L2 a = y :: u) (hn : 1 ≤ n) (hnx : n ≤ x.qty) (hny : n ≤ y.qty) : FillsOk L1 L2 p (a + n) (F ++ [⟨x.id, y.id, p, n⟩]) := by
  refine ⟨?_, ?_, ?_, ?_, ?_⟩
  · intro f hf
    rcases List.mem_append.1 hf with hf | hf
    · exact h.one f hf
    · rw [List.mem_singleton] at hf
      subst hf
      obtain ⟨o, ho, e, _⟩ := mem_dropQ (show x ∈ dropQ L1 a by rw [hx]; simp)
      obtain ⟨o', ho', e', _⟩ := mem_dropQ (show y ∈ dropQ L2 a by rw [hy]; simp)
      exact ⟨rfl, hn, ⟨o, ho, e⟩, o', ho', e'⟩
  · rw [sumN_snoc, h.sum]
  · intro id
    rw [sumN_snoc, h.buy, takeOf_step id h1 d1 h0 hx hn hnx]
  · intro id
    rw [sumN_snoc, h.sell, takeOf_step id h2 d2 h0 hy hn hny]
  · have := h.len
    rw [List.length_append]
    simp
    omega

theorem insO_perm (s : Int) (L : List Ord5) (o : Ord5) : (insO s L o).Perm (o :: L) := by
  unfold insO
  refine List.perm_middle.trans ?_
  rw [List.takeWhile_append_dropWhile]
/-- the two lists of the orders that were added -/
structure Built (x L1 L2 : List Ord5) : Prop where
  r1 : Ranked 1 L1
  r2 : Ranked 2 L2
  perm : (L1 ++ L2).Perm (x.map pricedO)
  s1 : ∀ o ∈ L1, o.side = 1
  s2 : ∀ o ∈ L2, o.side = 2
theorem Built.nil : Built [] [] [] := ⟨List.Pairwise.nil, List.Pairwise.nil, List.Perm.refl _, fun o h => (by cases h), fun o h => (by cases h)⟩
theorem Built.add {x L1 L2 : List Ord5} (h : Built x L1 L2) {o : Ord5} (hs : Is12 o.side) : Built (x ++ [o]) (addL 1 L1 o) (addL 2 L2 o) := by
  rcases hs with hs | hs
  · have e1 : addL 1 L1 o = insO 1 L1 (pricedO o) := by unfold addL; rw [if_pos hs]
    have e2 : addL 2 L2 o = L2 := by unfold addL; rw [if_neg (by omega)]
    rw [e1, e2]
    refine ⟨ranked_ins (.inl rfl) h.r1 _, h.r2, ?_, fun y hy => ?_, h.s2⟩
    · rw [List.map_append]
      exact ((insO_perm 1 L1 (pricedO o)).append_right L2).trans ((h.perm.cons (pricedO o)).trans (List.perm_append_singleton _ _).symm)
    · rcases mem_insO.1 hy with rfl | hy
      · exact hs
      · exact h.s1 y hy
  · have e1 : addL 1 L1 o = L1 := by unfold addL; rw [if_neg (by omega)]
    have e2 : addL 2 L2 o = insO 2 L2 (pricedO o) := by unfold addL; rw [if_pos hs]
    rw [e1, e2]
    refine ⟨h.r1, ranked_ins (.inr rfl) h.r2 _, ?_, h.s1, fun y hy => ?_⟩
    · rw [List.map_append]
      exact ((insO_perm 2 L2 (pricedO o)).append_left L1).trans (List.perm_middle.trans ((h.perm.cons (pricedO o)).trans (List.perm_append_singleton _ _).symm))
    · rcases mem_insO.1 hy with rfl | hy
      · exact hs
      · exact h.s2 y hy
theorem demQ_priced (p : Int) (o : Ord5) : demQ p (pricedO o) = demQ p o := by
  unfold demQ pricedO
  by_cases h : o.kind = 2
  · simp [h]
  · simp [h]
theorem supQ_priced (p : Int) (o : Ord5) : supQ p (pricedO o) = supQ p o := by
  unfold supQ pricedO
  by_cases h : o.kind = 2
  · simp [h]
  · simp [h]
theorem Built.dem {x L1 L2 : List Ord5} (h : Built x L1 L2) (p : Int) : demL p x = wantL 1 p L1 := by
  have e1 : demL p x = sumF (demQ p) x := by unfold demL; rw [sumF_foldl]; omega
  have e2 : sumF (demQ p) x = sumF (demQ p) (x.map pricedO) := by rw [sumF_map]; exact sumF_congr fun o _ => (demQ_priced p o).symm
  have e3 : sumF (demQ p) L2 = 0 := sumF_zero fun o ho => by unfold demQ; rw [if_neg (by have := h.s2 o ho; omega)]
  have e4 : sumF (demQ p) L1 = wantL 1 p L1 := sumF_congr fun o ho => by
    have := h.s1 o ho
    unfold demQ wantB
    by_cases hk : o.kind = 2 <;> by_cases hp : p ≤ o.price <;> simp [this, hk, hp]
  rw [e1, e2, ← sumF_perm h.perm, sumF_append, e3, e4]
  omega
theorem Built.sup {x L1 L2 : List Ord5} (h : Built x L1 L2) (p : Int) : supL p x = wantL 2 p L2 := by
  have e1 : supL p x = sumF (supQ p) x := by unfold supL; rw [sumF_foldl]; omega
  have e2 : sumF (supQ p) x = sumF (supQ p) (x.map pricedO) := by rw [sumF_map]; exact sumF_congr fun o _ => (supQ_priced p o).symm
  have e3 : sumF (supQ p) L1 = 0 := sumF_zero fun o ho => by unfold supQ; rw [if_neg (by have := h.s1 o ho; omega)]
  have e4 : sumF (supQ p) L2 = wantL 2 p L2 := sumF_congr fun o ho => by
    have := h.s2 o ho
    unfold supQ wantB
    by_cases hk : o.kind = 2 <;> by_cases hp : o.price ≤ p <;> simp [this, hk, hp]
  rw [e1, e2, ← sumF_perm h.perm, sumF_append, e3, e4]
  omega
/-- numbered orders that may lie -/
structure NumOk (x : List Ord5) : Prop where
  id : ∀ i (h : i < x.length), x[i].id = i + 1
  ok : ∀ o ∈ x, okO o = true
  price : ∀ o ∈ x, 1 ≤ o.price ∧ o.price ≤ 60
  len : x.length ≤ 60
theorem Built.of {x L1 L2 : List Ord5} {k : Nat} (h : Built (x.take k) L1 L2) {o : Ord5} (ho : o ∈ L1 ++ L2) : ∃ i, ∃ hi : i < x.length, i < k ∧ o = pricedO x[i] := by
  obtain ⟨y, hy, rfl⟩ := List.mem_map.1 (h.perm.mem_iff.1 ho)
  obtain ⟨i, hi, rfl⟩ := List.mem_iff_getElem.1 hy
  rw [List.length_take] at hi
  exact ⟨i, by omega, by omega, by rw [List.getElem_take]⟩
theorem NumOk.side {x : List Ord5} (h : NumOk x) {o : Ord5} (ho : o ∈ x) : Is12 o.side := by
  have := h.ok o ho
  unfold okO at this
  simp at this
  exact this.2
theorem NumOk.add {x L1 L2 : List Ord5} {k : Nat} (h : NumOk x) (hb : Built (x.take k) L1 L2) (hk : k < x.length) : addE L1 L2 x[k] = 0 := by
  have hm : x[k] ∈ x := List.getElem_mem _
  have h1 : argB x[k] = true := argB_iff.2 ⟨h.side hm, by rw [h.id k hk]; omega⟩
  have h2 : rngB x[k] = true := by
    have h3 := h.price _ hm
    have h4 := h.ok _ hm
    unfold okO at h4
    simp at h4
    unfold rngB
    rw [rightB_iff]
    refine ⟨?_, ?_, h4.1.1, h4.1.2⟩
    · unfold pricedO; dsimp only; split <;> omega
    · unfold pricedO; dsimp only; split <;> omega
  have h3 : getI (L1 ++ L2) x[k].id = none := by
    unfold getI
    rw [List.find?_eq_none]
    intro o ho
    obtain ⟨i, hi, hik, rfl⟩ := hb.of ho
    have e1 : (pricedO x[i]).id = x[i].id := rfl
    have e2 := h.id i hi
    have e3 := h.id k hk
    rw [e1, e2, e3]
    simp
    omega
  have h4 : L1.length + L2.length = k := by
    have := hb.perm.length_eq
    rw [List.length_append, List.length_map, List.length_take] at this
    omega
  unfold addE
  rw [if_neg (by rw [h1]; decide), if_neg (by rw [h2]; decide), h3, if_neg (by decide), if_neg (by have := h.len; omega)]
theorem Built.snoc {x L1 L2 : List Ord5} {k : Nat} (h : NumOk x) (hb : Built (x.take k) L1 L2) (hk : k < x.length) : Built (x.take (k + 1)) (addS L1 L2 x[k]).1 (addS L1 L2 x[k]).2 := by
  have e := h.add hb hk
  unfold addS
  rw [if_pos e, List.take_succ_eq_append_getElem hk]
  exact hb.add (h.side (List.getElem_mem _))
/-- nobody is left who could trade with another one -/
theorem none_left {x L1 L2 : List Ord5} {t : Int} (hb : Built x L1 L2) (hq1 : ∀ o ∈ L1, 1 ≤ o.qty) (hq2 : ∀ o ∈ L2, 1 ≤ o.qty) (hbest : ∀ p, min (demL p x) (supL p x) ≤ t) {o y : Ord5} (ho : o ∈ dropQ L1 t) (hy : y ∈ dropQ L2 t) :
    ¬ (o.kind = 2 ∨ y.kind = 2 ∨ y.price ≤ o.price) := by
  intro h
  obtain ⟨p, h1, h2⟩ : ∃ p, wantB 1 p o = true ∧ wantB 2 p y = true := by
    by_cases hk : o.kind = 2
    · exact ⟨y.price, by unfold wantB; simp [hk], by unfold wantB; simp⟩
    · refine ⟨o.price, by unfold wantB; simp, ?_⟩
      unfold wantB
      rcases h with h | h | h
      · exact absurd h hk
      · simp [h]
      · simp [h]
  have h3 := want_left hb.r1 hq1 ho h1
  have h4 := want_left hb.r2 hq2 hy h2
  have h5 := hbest p
  rw [hb.dem, hb.sup] at h5
  omega
end Go.Proofs.YtkcgchpbjegneaaGreatDoor
namespace Go.Proofs.YtkcgchpbjegneaaGreatDoor
open Go.RowKit
set_option linter.unusedVariables false

set_option maxRecDepth 100000 in
set_option maxHeartbeats 1000000 in
theorem goes_any (w : World) (B1 B2 : Nat) (s p : Int) (hs : Is12 s) (o : Ord5) (c1 : w.cell? ⟨B1, 0, none⟩ = some (.int .i64 s)) (c2 : w.cell? ⟨B2, 0, none⟩ = some (.int .i64 p)) :
    Calls Tryz.prog 105 #[aggO o, .pointer (some ⟨B1, 0, none⟩), .pointer (some ⟨B2, 0, none⟩)] w fun e w' => e = .returned (.bool (wantB s p o)) ∧ Below w.heap.size w w' := by
  unfold aggO
  have hA : Below w.heap.size w (w.alloc (.cells #[.int .i64 o.id, .int .i64 o.side, .int .i64 o.kind, .int .i64 o.price, .int .i64 o.qty] 24)) := (Below.refl _ _).alloc (Nat.le_refl _) _
  have k1 := (hA.cell (p := ⟨B1, 0, none⟩) (World.block_lt_of_cell? w _ c1)).trans c1
  have k2 := (hA.cell (p := ⟨B2, 0, none⟩) (World.block_lt_of_cell? w _ c2)).trans c2
  have HA := hid hA
  clear hA c1 c2
  by_cases hk : o.kind = 2
  · have t1 := beqT hk
    have HE : Hid (wantB s p o = true) := hid (by unfold wantB; rw [t1]; rfl)
    clear hk hs
    go_enter Tryz.func105, Tryz.ntmps105
    go_wp2
    go_ret
    exact ⟨ret_bool (by rw [HE.out]), HA.out⟩
  · have t1 := beqF hk
    rcases hs with rfl | rfl
    · have HE : Hid (wantB 1 p o = decide (p ≤ o.price)) := hid (by unfold wantB; rw [t1]; simp)
      by_cases hp : p ≤ o.price
      · have t4 := decT hp
        clear hk hp
        go_enter Tryz.func105, Tryz.ntmps105
        go_wp2
        go_ret
        exact ⟨ret_bool (by rw [HE.out, t4]), HA.out⟩
      · have t4 := decF hp
        clear hk hp
        go_enter Tryz.func105, Tryz.ntmps105
        go_wp2
        go_ret
        exact ⟨ret_bool (by rw [HE.out, t4]), HA.out⟩
    · have HE : Hid (wantB 2 p o = decide (o.price ≤ p)) := hid (by unfold wantB; rw [t1]; simp)
      by_cases hp : o.price ≤ p
      · have t4 := decT hp
        clear hk hp
        go_enter Tryz.func105, Tryz.ntmps105
        go_wp2
        go_ret
        exact ⟨ret_bool (by rw [HE.out, t4]), HA.out⟩
      · have t4 := decF hp
        clear hk hp
        go_enter Tryz.func105, Tryz.ntmps105
        go_wp2
        go_ret
        exact ⟨ret_bool (by rw [HE.out, t4]), HA.out⟩

/-- while the lots are counted -/
structure WillAt (w wr : World) (A : Option Addr) (c : Nat) (L : List Ord5) (B1 B2 : Nat) (s p : Int) : Prop where
  row : RowAt wr A L.length c 24 5 (flat encO L)
  c1 : wr.cell? ⟨B1, 0, none⟩ = some (.int .i64 s)
  c2 : wr.cell? ⟨B2, 0, none⟩ = some (.int .i64 p)
  old : Below w.heap.size w wr
theorem WillAt.below {w wr w' : World} {A : Option Addr} {c : Nat} {L : List Ord5} {B1 B2 : Nat} {s p : Int} (h : WillAt w wr A c L B1 B2 s p) (hb : Below wr.heap.size wr w') : WillAt w w' A c L B1 B2 s p :=
  ⟨h.row.below hb, (hb.cell (p := ⟨B1, 0, none⟩) (World.block_lt_of_cell? wr _ h.c1)).trans h.c1, (hb.cell (p := ⟨B2, 0, none⟩) (World.block_lt_of_cell? wr _ h.c2)).trans h.c2, h.old.trans (hb.mono h.old.size)⟩
theorem wantL_bound {s p : Int} {L : List Ord5} (h : ∀ o ∈ L, 1 ≤ o.qty ∧ o.qty ≤ 1000000) : 0 ≤ wantL s p L ∧ wantL s p L ≤ 1000000 * L.length := by
  unfold wantL
  induction L with
  | nil => simp [sumF]
  | cons o t ih =>
    have h1 := h o (by simp)
    have h2 := ih (fun y hy => h y (by simp [hy]))
    simp only [sumF, List.length_cons]
    split <;> omega
theorem row_addr' {w : World} {A : Option Addr} {n c sz : Nat} {t : TypeId} {xs : List Value} (h : RowAt w A n c t sz xs) (hn : 0 < n) : ∃ g, A = some ⟨g, 0, none⟩ := by
  rcases h.2 with ⟨_, h0⟩ | ⟨g, cap, cur, hv, _⟩
  · omega
  · cases hv; exact ⟨g, rfl⟩

set_option maxRecDepth 100000 in
set_option maxHeartbeats 4000000 in
theorem crossWilling_any (w : World) (b : Nat) (G : Nat → Prop) (L1 L2 : List Ord5) (h : BookAt w b G L1 L2) (s p : Int) (hs : Is12 s) :
    Calls Tryz.prog 54 #[.pointer (some ⟨b, 0, none⟩), .int .i64 s, .int .i64 p] w fun e w' => e = .returned (.int .i64 (wantL s p (sideL s L1 L2))) ∧ Below w.heap.size w w' := by
  have hmf : ∀ (fn : Fn) (first cap : Array Value) (w : World), (Instr.makeFunc fn first cap).run Tryz.prog w = .ok (.func fn first cap) w := fun _ _ _ _ => rfl
  have eg := Go.Proofs.enters_of Tryz.func105 (by kernel_rfl) rfl
  have hl := h.lists
  obtain ⟨L, hL⟩ : ∃ L, sideL s L1 L2 = L := ⟨_, rfl⟩
  have hok : ∀ o ∈ L, 1 ≤ o.qty ∧ o.qty ≤ 1000000 := by
    intro o ho
    rw [← hL] at ho
    have hm : o ∈ L1 ++ L2 := by
      unfold sideL at ho
      split at ho
      · exact List.mem_append_left _ ho
      · exact List.mem_append_right _ ho
    exact (hl.ok o hm).2.2.2
  have hlen : L.length ≤ 100 := by
    have h1 := hl.cnt
    rw [List.length_append] at h1
    rw [← hL]
    unfold sideL
    split <;> omega
  have hA1 : Below w.heap.size w (w.alloc (.cells #[.int .i64 s] 3)) := (Below.refl _ w).alloc (Nat.le_refl _) _
  have hA2 : Below w.heap.size w ((w.alloc (.cells #[.int .i64 s] 3)).alloc (.cells #[.int .i64 p] 3)) := hA1.alloc (by simp) _
  have hc1 : ((w.alloc (.cells #[.int .i64 s] 3)).alloc (.cells #[.int .i64 p] 3)).cell? ⟨w.heap.size, 0, none⟩ = some (.int .i64 s) := Blk.cell (Blk.alloc (Blk.new w 3 #[.int .i64 s]) _) 0
  have hc2 : ((w.alloc (.cells #[.int .i64 s] 3)).alloc (.cells #[.int .i64 p] 3)).cell? ⟨w.heap.size + 1, 0, none⟩ = some (.int .i64 p) := by
    have := Blk.cell (Blk.new (w.alloc (.cells #[.int .i64 s] 3)) 3 #[.int .i64 p]) 0
    rw [World.size_alloc] at this
    exact this
  have HC := hid (bookSide_any _ b G L1 L2 (h.below hA2) s hs)
  rw [hL] at HC ⊢
  have HA2 := hid hA2
  have Hc1 := hid hc1
  have Hc2 := hid hc2
  have HOk := hid hok
  have HS := hid hs
  clear hA1 hA2 hc1 hc2 h hl hL hs hok
  go_enter Tryz.func54, Tryz.ntmps54
  go_wp2_with fail
  refine HC.out.mono ?_
  rintro e w3 ⟨hb3, A, c, rfl, hr3, -⟩
  have HW := hid (show WillAt w w3 A c L w.heap.size (w.heap.size + 1) s p from ⟨hr3, (hb3.cell (p := ⟨w.heap.size, 0, none⟩) (World.block_lt_of_cell? _ _ Hc1.out)).trans Hc1.out, (hb3.cell (p := ⟨w.heap.size + 1, 0, none⟩) (World.block_lt_of_cell? _ _ Hc2.out)).trans Hc2.out, HA2.out.trans (hb3.mono HA2.out.size)⟩)
  obtain ⟨n, hn⟩ : ∃ n, L.length = n := ⟨_, rfl⟩
  rw [hn]
  have Hn := hid hn
  have hn100 : n ≤ 100 := by omega
  clear hb3 hr3 HC HA2 Hc1 Hc2 hlen hn
  go_wp2_with fail
  go_loopg [7, 22] n (fun g s7 s22 wr => ∃ i : Nat, i ≤ n ∧ g = n - i ∧ s22 = .int .i64 i ∧ s7 = .int .i64 (wantL s p (L.take i)) ∧ Hid (WillAt w wr A c L w.heap.size (w.heap.size + 1) s p))
  case atStart => exact ⟨0, Nat.zero_le _, rfl, rfl, rfl, HW⟩
  case round =>
    obtain ⟨i, hi, rfl, rfl, rfl, HR⟩ := hrel
    clear HW
    by_cases hlt : i < n
    · have hil : i < L.length := by rw [Hn.out]; exact hlt
      obtain ⟨g, hg⟩ := row_addr' HR.out.row (by omega)
      subst hg
      obtain ⟨x0, x1, x2, x3, x4⟩ := ord_own HR.out.row hil
      obtain ⟨o, ho⟩ : ∃ o, L[i] = o := ⟨_, rfl⟩
      have hoq := HOk.out o (by rw [← ho]; exact List.getElem_mem _)
      rw [ho] at x0 x1 x2 x3 x4
      have Ht := hid (show wantL s p (L.take (i + 1)) = wantL s p (L.take i) + (if wantB s p o = true then o.qty else 0) by
        rw [List.take_succ_eq_append_getElem hil, wantL_append, ho]
        unfold wantL
        simp only [sumF]
        omega)
      have hbd := wantL_bound (s := s) (p := p) (fun y hy => HOk.out y (List.mem_of_mem_take hy) : ∀ y ∈ L.take i, _)
      rw [List.length_take, Hn.out, Nat.min_eq_left (by omega)] at hbd
      obtain ⟨acc, hacc⟩ : ∃ acc, wantL s p (L.take i) = acc := ⟨_, rfl⟩
      rw [hacc] at Ht hbd ⊢
      have i1 : RowKit.wrap64 (acc + o.qty) = acc + o.qty := by unfold RowKit.wrap64; omega
      have hbx : Below wr.heap.size wr (wr.alloc (.cells #[.int .i64 o.id, .int .i64 o.side, .int .i64 o.kind, .int .i64 o.price, .int .i64 o.qty] 24)) := (Below.refl _ _).alloc (Nat.le_refl _) _
      have hW2 := HR.out.below hbx
      have hcall := goes_any _ w.heap.size (w.heap.size + 1) s p HS.out o hW2.c1 hW2.c2
      unfold aggO at hcall
      have HC := hid hcall
      have HBX := hid (Blk.new wr 24 #[.int .i64 o.id, .int .i64 o.side, .int .i64 o.kind, .int .i64 o.price, .int .i64 o.qty])
      have HW2 := hid hW2
      have hltz : (i : Int) < (n : Int) := by omega
      have hi7 : (0 : Int) ≤ (i : Int) := by omega
      clear hcall hW2 hbx ho hacc
      go_wp2_with fail
      refine HC.out.mono ?_
      rintro e w5 ⟨rfl, hb5⟩
      have hbx5 := Blk.keep HBX.out hb5
      have z4 : w5.cell? ⟨wr.heap.size, 4, none⟩ = some (.int .i64 o.qty) := by rw [Blk.cell hbx5]; rfl
      have HW5 := hid (HW2.out.below hb5)
      obtain ⟨q, hq⟩ : ∃ q, wantB s p o = q := ⟨_, rfl⟩
      rw [hq] at Ht ⊢
      clear hbx5 hb5 HC HW2 HBX HR x0 x1 x2 x3 x4 hq
      cases q with
      | true =>
        have Hs := hid (show acc + o.qty = wantL s p (L.take (i + 1)) by rw [Ht.out, if_pos rfl])
        go_wp2_with fail
        go_roundg (n - (i + 1))
        case measure => omega
        case rel => exact ⟨i + 1, by omega, rfl, by go_num, by rw [← Hs.out], HW5⟩
      | false =>
        have Hs := hid (show acc = wantL s p (L.take (i + 1)) by rw [Ht.out, if_neg (by decide)]; omega)
        go_wp2_with fail
        go_roundg (n - (i + 1))
        case measure => omega
        case rel => exact ⟨i + 1, by omega, rfl, by go_num, by rw [← Hs.out], HW5⟩
    · obtain rfl : i = n := by omega
      have hltz : ¬ (i : Int) < (i : Int) := by omega
      have hfull : L.take i = L := List.take_of_length_le (by rw [Hn.out]; exact Nat.le_refl _)
      rw [hfull]
      have HO := hid HR.out.old
      clear HR
      go_wp2_with fail
      go_ret
      exact ⟨rfl, HO.out⟩
end Go.Proofs.YtkcgchpbjegneaaGreatDoor
namespace Go.Proofs.YtkcgchpbjegneaaGreatDoor
open Go.RowKit
set_option linter.unusedVariables false

def encFl (f : Fill4) : List Value := [.int .i64 f.b, .int .i64 f.s, .int .i64 f.p, .int .i64 f.n]
theorem encFl_length (f : Fill4) : (encFl f).length = 4 := rfl
theorem fill_info : (Tryz.prog.info? 96).map (fun i => (i.zero, i.size, i.bytes)) = some (some (.agg #[.int .i64 0, .int .i64 0, .int .i64 0, .int .i64 0]), 4, 32) := by kernel_rfl

def headQ : List Ord5 → Int
  | [] => 0
  | o :: _ => o.qty
def headI : List Ord5 → Int
  | [] => 0
  | o :: _ => o.id
/-- each trade takes as much as may be, of the first on both sides -/
def FillsMax (t : Int) (L1 L2 : List Ord5) (F : List Fill4) : Prop :=
  ∀ F1 f F2, F = F1 ++ f :: F2 → f.n = min (t - sumN (·.n) F1) (min (headQ (dropQ L1 (sumN (·.n) F1))) (headQ (dropQ L2 (sumN (·.n) F1)))) ∧ f.b = headI (dropQ L1 (sumN (·.n) F1)) ∧ f.s = headI (dropQ L2 (sumN (·.n) F1))
theorem FillsMax.start (t : Int) (L1 L2 : List Ord5) : FillsMax t L1 L2 [] := fun F1 f F2 h => by cases F1 <;> cases h
theorem FillsMax.step {t : Int} {L1 L2 : List Ord5} {F : List Fill4} (h : FillsMax t L1 L2 F) {a : Int} (ha : sumN (·.n) F = a) {z : Fill4} (hz : z.n = min (t - a) (min (headQ (dropQ L1 a)) (headQ (dropQ L2 a)))) (hb : z.b = headI (dropQ L1 a)) (hs : z.s = headI (dropQ L2 a)) : FillsMax t L1 L2 (F ++ [z]) := by
  intro F1 f F2 e
  rcases List.eq_nil_or_concat F2 with rfl | ⟨F3, y, rfl⟩
  · have e' := List.append_inj' e rfl
    obtain ⟨rfl, e2⟩ := e'
    cases e2
    rw [ha]
    exact ⟨hz, hb, hs⟩
  · rw [List.concat_eq_append] at e
    have e3 : F1 ++ f :: (F3 ++ [y]) = (F1 ++ f :: F3) ++ [y] := by simp
    rw [e3] at e
    have e' := List.append_inj' e rfl
    exact h F1 f F3 e'.1
/-- there is one such list of trades -/
theorem fills_one {t p : Int} {L1 L2 : List Ord5} {F F' : List Fill4} (h : FillsMax t L1 L2 F) (h' : FillsMax t L1 L2 F') (hp : ∀ f ∈ F, f.p = p ∧ 1 ≤ f.n) (hp' : ∀ f ∈ F', f.p = p ∧ 1 ≤ f.n) (hs : sumN (·.n) F = t) (hs' : sumN (·.n) F' = t) : F = F' := by
  have pos : ∀ (K : List Fill4), (∀ f ∈ K, f.p = p ∧ 1 ≤ f.n) → 0 ≤ sumN (·.n) K := by
    intro K
    induction K with
    | nil => intro _; simp [sumN]
    | cons f K ih =>
      intro hK
      have h1 := (hK f (by simp)).2
      have h2 := ih (fun g hg => hK g (by simp [hg]))
      simp only [sumN]
      omega
  have app : ∀ (K K2 : List Fill4), sumN (·.n) (K ++ K2) = sumN (·.n) K + sumN (·.n) K2 := by
    intro K K2
    induction K with
    | nil => simp [sumN]
    | cons f K ih => simp only [List.cons_append, sumN, ih]; omega
  have key : ∀ (B B' A : List Fill4), F = A ++ B → F' = A ++ B' → B = B' := by
    intro B
    induction B with
    | nil =>
      intro B' A e e'
      cases B' with
      | nil => rfl
      | cons f K =>
        exfalso
        rw [e] at hs
        rw [e', app, ← List.append_nil A, hs] at hs'
        have h1 := (hp' f (by rw [e']; simp)).2
        have h2 := pos K (fun g hg => hp' g (by rw [e']; simp [hg]))
        simp only [sumN] at hs'
        omega
    | cons f K ih =>
      intro B' A e e'
      cases B' with
      | nil =>
        exfalso
        rw [e'] at hs'
        rw [e, app, ← List.append_nil A, hs'] at hs
        have h1 := (hp f (by rw [e]; simp)).2
        have h2 := pos K (fun g hg => hp g (by rw [e]; simp [hg]))
        simp only [sumN] at hs
        omega
      | cons f' K' =>
        obtain ⟨a1, a2, a3⟩ := h A f K e
        obtain ⟨b1, b2, b3⟩ := h' A f' K' e'
        have c := (hp f (by rw [e]; simp)).1
        have c' := (hp' f' (by rw [e']; simp)).1
        have ef : f = f' := by
          obtain ⟨x1, x2, x3, x4⟩ := f
          obtain ⟨y1, y2, y3, y4⟩ := f'
          dsimp only at a1 a2 a3 b1 b2 b3 c c'
          rw [a1, a2, a3, b1, b2, b3, c, c']
        subst ef
        rw [ih K' (A ++ [f]) (by rw [e]; simp) (by rw [e']; simp)]
  exact key F F' [] rfl rfl

theorem getI_mem {L : List Ord5} (hn : (L.map (·.id)).Nodup) {o : Ord5} (ho : o ∈ L) : getI L o.id = some o := by
  unfold getI
  cases hf : L.find? (fun x => x.id == o.id) with
  | none =>
    rw [List.find?_eq_none] at hf
    have := hf o ho
    simp at this
  | some x =>
    have h1 := List.mem_of_find?_eq_some hf
    have h2 := List.find?_some hf
    have h3 : x.id = o.id := by simpa using h2
    rw [nodup_map_inj (g := fun x : Ord5 => x.id) hn h1 ho h3]

/-- while it is traded -/
structure CrossM (w wr : World) (b : Nat) (G G' : Nat → Prop) (M1 M2 : List Ord5) (A : Option Addr) (c : Nat) (F : List Fill4) : Prop where
  book : BookAt wr b G' M1 M2
  step : BStep w wr G G'
  row : RowAt wr A F.length c 96 4 (flat encFl F)
  fpA : ∀ g, blkOf A = some g → ¬ G' g ∧ w.heap.size ≤ g
section
variable {w wr w' : World} {b : Nat} {G G' : Nat → Prop} {M1 M2 : List Ord5} {A : Option Addr} {c : Nat} {F : List Fill4}
theorem CrossM.below (h : CrossM w wr b G G' M1 M2 A c F) (hb : Below wr.heap.size wr w') : CrossM w w' b G G' M1 M2 A c F :=
  ⟨h.book.below hb, h.step.trans (BStep.of_below hb), h.row.below hb, h.fpA⟩
theorem CrossM.fill {f : Fill4} {gg cap : Nat} (h : CrossM w wr b G G' M1 M2 A c F) (hk : Keeps (fun i => blkOf A = some i) wr w') (ho : w'.ownsRow 0 96 4 (.slice (some ⟨gg, 0, none⟩) (F.length + 1) cap) (F.length + 1) (flat encFl F ++ encFl f)) (hat : blkOf A = some gg ∨ wr.heap.size ≤ gg) :
    CrossM w w' b G G' M1 M2 (some ⟨gg, 0, none⟩) cap (F ++ [f]) := by
  refine ⟨h.book.keeps hk (fun i hi e => (h.fpA i e).1 hi), ⟨h.step.1.trans hk (fun i hi => .inr (h.fpA i hi).2), h.step.2⟩, ?_, fun g hg => ?_⟩
  · show w'.ownsRow 0 96 4 _ _ _
    rw [flat_snoc, List.length_append]
    exact ho
  · have e : gg = g := by simpa [blkOf] using hg
    subst e
    rcases hat with h1 | h1
    · exact h.fpA _ h1
    · refine ⟨fun hG => ?_, ?_⟩
      · have := h.book.fp hG; omega
      · exact Nat.le_trans h.step.1.size h1
theorem CrossM.turn {M1' M2' : List Ord5} (h : CrossM w wr b G G' M1 M2 A c F) (hb : BookTo wr w' b G' M1' M2') : ∃ G'', CrossM w w' b G G'' M1' M2' A c F ∧ Keeps G' wr w' := by
  obtain ⟨G'', hA, hS⟩ := hb
  refine ⟨G'', ⟨hA, h.step.trans hS, h.row.keeps hS.1 (fun g hg => (h.fpA g hg).1), fun g hg => ⟨fun hG => ?_, (h.fpA g hg).2⟩⟩, hS.1⟩
  rcases hS.2 g hG with h1 | h1
  · exact (h.fpA g hg).1 h1
  · have := h.row.lt hg; omega
end
abbrev CrossAt (w wr : World) (b : Nat) (G G' : Nat → Prop) (L1 L2 : List Ord5) (a : Int) (A : Option Addr) (c : Nat) (F : List Fill4) : Prop := CrossM w wr b G G' (dropQ L1 a) (dropQ L2 a) A c F

theorem keeps_of_new {w2 w3 : World} {o : Obj} {row : Option Nat} (h : (w2.alloc o).grownBy w3 row) : Keeps (fun i => row = some i) w2 w3 := okeeps_of_grown ⟨h.os, h.tape, h.output, h.size, h.block⟩
theorem ids_parts {L1 L2 : List Ord5} (h : ListsOk L1 L2) : (L1.map (·.id)).Nodup ∧ (L2.map (·.id)).Nodup ∧ ∀ x ∈ L1, ∀ y ∈ L2, x.id ≠ y.id := by
  have h1 := h.ids
  rw [List.map_append, List.nodup_append] at h1
  exact ⟨h1.1, h1.2.1, fun x hx y hy => h1.2.2 _ (List.mem_map.2 ⟨x, hx, rfl⟩) _ (List.mem_map.2 ⟨y, hy, rfl⟩)⟩
theorem cut_first {L1 : List Ord5} {x : Ord5} {t R2 : List Ord5} {a n : Int} (h : ListsOk (dropQ L1 a) R2) (hq : ∀ o ∈ L1, 1 ≤ o.qty) (h0 : 0 ≤ a) (hx : dropQ L1 a = x :: t) (h1 : 1 ≤ n) (h2 : n ≤ x.qty) :
    getI (dropQ L1 a ++ R2) x.id = some x ∧ cutS (dropQ L1 a) x n = dropQ L1 (a + n) ∧ cutS R2 x n = R2 := by
  obtain ⟨d1, d2, d3⟩ := ids_parts h
  have hm : x ∈ dropQ L1 a := by rw [hx]; simp
  refine ⟨getI_mem h.ids (List.mem_append_left _ hm), ?_, cutS_other fun y hy => fun e => d3 x hm y hy e.symm⟩
  rw [← dropQ_step hq h0 hx h1 h2, hx]
  rw [hx, List.map_cons, List.nodup_cons] at d1
  exact cutS_head fun y hy e => d1.1 (List.mem_map.2 ⟨y, hy, e⟩)
theorem cut_second {L2 : List Ord5} {y : Ord5} {u R1 : List Ord5} {a n : Int} (h : ListsOk R1 (dropQ L2 a)) (hq : ∀ o ∈ L2, 1 ≤ o.qty) (h0 : 0 ≤ a) (hy : dropQ L2 a = y :: u) (h1 : 1 ≤ n) (h2 : n ≤ y.qty) :
    getI (R1 ++ dropQ L2 a) y.id = some y ∧ cutS (dropQ L2 a) y n = dropQ L2 (a + n) ∧ cutS R1 y n = R1 := by
  obtain ⟨d1, d2, d3⟩ := ids_parts h
  have hm : y ∈ dropQ L2 a := by rw [hy]; simp
  refine ⟨getI_mem h.ids (List.mem_append_right _ hm), ?_, cutS_other fun x hx => d3 x hx y hm⟩
  rw [← dropQ_step hq h0 hy h1 h2, hy]
  rw [hy, List.map_cons, List.nodup_cons] at d2
  exact cutS_head fun y hy e => d2.1 (List.mem_map.2 ⟨y, hy, e⟩)

/-- what Fills leaves -/
def FillsDone (w w' : World) (b : Nat) (G : Nat → Prop) (L1 L2 : List Ord5) (p t : Int) (e : Ending) : Prop :=
  ∃ F A c G', e = .returned (.tuple #[.slice A (List.length F) c, .nilIface]) ∧ FillsOk L1 L2 p t F ∧ FillsMax t L1 L2 F ∧ CrossAt w w' b G G' L1 L2 t A c F

set_option maxRecDepth 100000 in
set_option maxHeartbeats 8000000 in
theorem crossFills_any (hcut : CutSaid) (w : World) (b : Nat) (G : Nat → Prop) (L1 L2 : List Ord5) (h : BookAt w b G L1 L2) (p t : Int) (ht : 1 ≤ t) (hw1 : t ≤ wantL 1 p L1) (hw2 : t ≤ wantL 2 p L2) :
    Calls Tryz.prog 16 #[.pointer (some ⟨b, 0, none⟩), .int .i64 p, .int .i64 t] w fun e w' => FillsDone w w' b G L1 L2 p t e := by
  have hl := h.lists
  have hq1 : ∀ o ∈ L1, 1 ≤ o.qty := fun o ho => (hl.ok o (List.mem_append_left _ ho)).2.2.2.1
  have hq2 : ∀ o ∈ L2, 1 ≤ o.qty := fun o ho => (hl.ok o (List.mem_append_right _ ho)).2.2.2.1
  have ha1 : t ≤ allQ L1 := Int.le_trans hw1 (wantL_all hq1)
  have ha2 : t ≤ allQ L2 := Int.le_trans hw2 (wantL_all hq2)
  have htb : t ≤ 100000000 := by
    have h1 := wantL_bound (s := 1) (p := p) (L := L1) (fun o ho => (hl.ok o (List.mem_append_left _ ho)).2.2.2)
    have h2 := hl.cnt
    rw [List.length_append] at h2
    omega
  obtain ⟨dd1, dd2, -⟩ := ids_parts hl
  have HC1 := hid (crossWilling_any w b G L1 L2 h 1 p Is12_1)
  rw [show sideL 1 L1 L2 = L1 from rfl] at HC1
  have HAt := hid h
  have HCut := hid hcut
  have Hq1 := hid hq1
  have Hq2 := hid hq2
  have Hd1 := hid dd1
  have Hd2 := hid dd2
  obtain ⟨q1, hq1'⟩ : ∃ q, wantL 1 p L1 = q := ⟨_, rfl⟩
  obtain ⟨q2, hq2'⟩ : ∃ q, wantL 2 p L2 = q := ⟨_, rfl⟩
  rw [hq1'] at HC1 hw1
  rw [hq2'] at hw2
  have HQ2 := hid hq2'
  have d0 : decide (t < 1) = false := decF (by omega)
  have d1 : decide (q1 < t) = false := decF (by omega)
  have d2 : decide (q2 < t) = false := decF (by omega)
  clear h hcut hl hq1 hq2 dd1 dd2 hq1' hq2' hw1 hw2
  go_enter Tryz.func16, Tryz.ntmps16
  go_wp2_with fail
  refine HC1.out.mono ?_
  rintro e w1 ⟨rfl, hb1⟩
  have hat1 := HAt.out.below hb1
  have hc2 := crossWilling_any w1 b G L1 L2 hat1 2 p Is12_2
  rw [show sideL 2 L1 L2 = L2 from rfl, HQ2.out] at hc2
  have HC2 := hid hc2
  have HB1 := hid hb1
  have HAt1 := hid hat1
  clear hb1 hat1 hc2 HC1
  go_wp2_with fail
  refine HC2.out.mono ?_
  rintro e w2 ⟨rfl, hb2⟩
  have hB := HB1.out.trans (hb2.mono HB1.out.size)
  have HST := hid (show CrossAt w w2 b G G L1 L2 0 none 0 [] from ⟨by rw [dropQ_zero _ (Int.le_refl _), dropQ_zero _ (Int.le_refl _)]; exact HAt1.out.below hb2, BStep.of_below hB, World.ownsRow_nil _ _ _ _, fun g hg => by simp [blkOf] at hg⟩)
  clear hb2 hB HC2 HB1 HAt1 HAt
  go_wp2_with fail
  go_loopg [2, 8] t.toNat (fun g s2 s8 wr => ∃ (a : Int) (F : List Fill4) (A : Option Addr) (c : Nat) (G' : Nat → Prop), 0 ≤ a ∧ a ≤ t ∧ g = (t - a).toNat ∧ s2 = .int .i64 (t - a) ∧ s8 = .slice A F.length c ∧ Hid (FillsOk L1 L2 p a F) ∧ Hid (FillsMax t L1 L2 F) ∧ Hid (CrossAt w wr b G G' L1 L2 a A c F))
  case atStart => exact ⟨0, [], none, 0, G, Int.le_refl _, by omega, by simp, by simp, rfl, hid (FillsOk.start Hq1.out Hq2.out), hid (FillsMax.start t L1 L2), HST⟩
  case round =>
    obtain ⟨a, F, A, c, G', ha0, hat, rfl, rfl, rfl, HF, HX, HR⟩ := hrel
    clear HST
    by_cases hlt : a < t
    · have d3 : decide (0 < t - a) = true := decT (by omega)
      obtain ⟨x, t1, hx⟩ : ∃ x t1, dropQ L1 a = x :: t1 := by
        cases hd : dropQ L1 a with
        | nil => exact absurd hd (dropQ_ne ha0 (by omega))
        | cons x t1 => exact ⟨x, t1, rfl⟩
      obtain ⟨y, u1, hy⟩ : ∃ y u1, dropQ L2 a = y :: u1 := by
        cases hd : dropQ L2 a with
        | nil => exact absurd hd (dropQ_ne ha0 (by omega))
        | cons y u1 => exact ⟨y, u1, rfl⟩
      have hbest := bookBest_any wr b G' _ _ HR.out.book 1 Is12_1
      rw [show bestO (sideL 1 (dropQ L1 a) (dropQ L2 a)) = x by rw [hx]; rfl, show bestE (sideL 1 (dropQ L1 a) (dropQ L2 a)) = 0 by rw [hx]; rfl, errV_zero] at hbest
      unfold aggO at hbest
      have HB1 := hid hbest
      have Hx := hid hx
      have Hy := hid hy
      clear hbest hx hy
      go_wp2_with fail
      refine HB1.out.mono ?_
      rintro e w3 ⟨hb3, rfl⟩
      have hAB : ∀ g, blkOf A = some g → g < w3.heap.size := fun g hg => Nat.lt_of_lt_of_le (HR.out.row.lt hg) hb3.size
      have HAB := hid hAB
      have hR3 := HR.out.below (hb3.alloc hb3.size (.cells #[.int .i64 x.id, .int .i64 x.side, .int .i64 x.kind, .int .i64 x.price, .int .i64 x.qty] 24))
      have hbest := bookBest_any _ b G' _ _ hR3.book 2 Is12_2
      rw [show bestO (sideL 2 (dropQ L1 a) (dropQ L2 a)) = y by rw [Hy.out]; rfl, show bestE (sideL 2 (dropQ L1 a) (dropQ L2 a)) = 0 by rw [Hy.out]; rfl, errV_zero] at hbest
      unfold aggO at hbest
      have HB2 := hid hbest
      have HX3 := hid (Blk.new w3 24 #[.int .i64 x.id, .int .i64 x.side, .int .i64 x.kind, .int .i64 x.price, .int .i64 x.qty])
      have HR3 := hid hR3
      clear hbest hb3 hR3 HB1 HR hAB
      go_wp2_with fail
      refine HB2.out.mono ?_
      rintro e w4 ⟨hb4, rfl⟩
      have hX4 := Blk.alloc (Blk.keep HX3.out hb4) (.cells #[.int .i64 y.id, .int .i64 y.side, .int .i64 y.kind, .int .i64 y.price, .int .i64 y.qty] 24)
      have hY4 := Blk.new w4 24 #[.int .i64 y.id, .int .i64 y.side, .int .i64 y.kind, .int .i64 y.price, .int .i64 y.qty]
      have hR4 := HR3.out.below (hb4.alloc hb4.size (.cells #[.int .i64 y.id, .int .i64 y.side, .int .i64 y.kind, .int .i64 y.price, .int .i64 y.qty] 24))
      have hne : w3.heap.size < w4.heap.size := by have := hb4.size; simp at this; omega
      have hG2 : ¬ G' w4.heap.size := fun hG => by have h1 := HR3.out.book.fp hG; have h2 := hb4.size; omega
      obtain ⟨B1, hB1⟩ : ∃ B1, w3.heap.size = B1 := ⟨_, rfl⟩
      obtain ⟨B2, hB2⟩ : ∃ B2, w4.heap.size = B2 := ⟨_, rfl⟩
      obtain ⟨w5, hw5⟩ : ∃ w5, w4.alloc (.cells #[.int .i64 y.id, .int .i64 y.side, .int .i64 y.kind, .int .i64 y.price, .int .i64 y.qty] 24) = w5 := ⟨_, rfl⟩
      rw [hB1] at hX4 hne HAB ⊢
      rw [hw5, hB2] at hY4
      rw [hw5] at hX4 hR4
      rw [hB2] at hne hG2
      have HX5 := hid hX4
      have HY5 := hid hY4
      have HR5 := hid hR4
      have HNe := hid hne
      have HG2 := hid hG2
      have hl1 := Blk.lt hX4
      have hl2 := Blk.lt hY4
      have x0 : w5.cell? ⟨B1, 0, none⟩ = some (.int .i64 x.id) := by rw [Blk.cell hX4]; rfl
      have x4 : w5.cell? ⟨B1, 4, none⟩ = some (.int .i64 x.qty) := by rw [Blk.cell hX4]; rfl
      have y0 : w5.cell? ⟨B2, 0, none⟩ = some (.int .i64 y.id) := by rw [Blk.cell hY4]; rfl
      have y4 : w5.cell? ⟨B2, 4, none⟩ = some (.int .i64 y.qty) := by rw [Blk.cell hY4]; rfl
      clear hX4 hY4 hR4 hne hG2 HX3 HR3 HB2 hb4 hB1
      obtain ⟨n, hn⟩ : ∃ n, min (t - a) (min x.qty y.qty) = n := ⟨_, rfl⟩
      have hxq : 1 ≤ x.qty := (HR5.out.book.lists.ok x (List.mem_append_left _ (by rw [Hx.out]; simp))).2.2.2.1
      have hyq : 1 ≤ y.qty := (HR5.out.book.lists.ok y (List.mem_append_right _ (by rw [Hy.out]; simp))).2.2.2.1
      have hn1 : 1 ≤ n := by omega
      have hnx : n ≤ x.qty := by omega
      have hny : n ≤ y.qty := by omega
      have hnt : n ≤ t - a := by omega
      have HN := hid hn
      clear hn
      go_upto_region 7 with fail
      go_cut [13] (fun s13 wx => s13 = .int .i64 n ∧ wx = w5)
      case first =>
        go_wp2_with fail
        all_goals go_meet
        all_goals refine ⟨?_, rfl⟩
        all_goals rw [← HN.out]
        all_goals congr 1
        all_goals first
          | omega
          | (split at h <;> first | omega | (split <;> omega))
          | (split <;> first | omega | (split at h <;> omega))
      case rest =>
        obtain ⟨rfl, rfl⟩ := hcut
        have hF1 : F.length ≤ 100000000 := by have := HF.out.len; omega
        obtain ⟨i0, hi0, hz0, hz1, hz2⟩ := info_parts fill_info
        have HO1 := hid (World.ownsRow.alloc (show wc.ownsRow 0 96 4 (.slice A F.length c) F.length (flat encFl F) from HR5.out.row) (.cells #[.int .i64 x.id, .int .i64 y.id, .int .i64 p, .int .i64 n] 96))
        go_upto_region 9 with (at_builtin; refine wpList_append_lies _ rfl _ _ 34 rfl 0 96 i0 _ 4 32 Tryz.underlying34 hi0 hz0 hz1 hz2 rfl (by omega) (.slice A F.length c) F.length _ rfl HO1.out ⟨wc.heap.size, 0, none⟩ 1 1 [.int .i64 x.id, .int .i64 y.id, .int .i64 p, .int .i64 n] rfl rfl (World.news_of_block (cs := #[.int .i64 x.id, .int .i64 y.id, .int .i64 p, .int .i64 n]) (t := 96) (fr := (0, 0)) (heap_alloc_new wc _)) (by simp [Value.oneCell']) (by omega) (by unfold maxLen; omega) (by omega) (by simp) (wc.heap.size + 1) (by simp) ?_; intro gg cap w6 hown hgrow hat6 hlt6)
        have hk6 := keeps_of_new hgrow
        rw [own_slice] at hk6 hat6
        have hR6 := HR5.out.fill (f := ⟨x.id, y.id, p, n⟩) hk6 hown (hat6.imp id (fun e => by omega))
        have nB1 : ¬ blkOf A = some B1 := fun e => by have := HAB.out _ e; omega
        have nB2 : ¬ blkOf A = some B2 := fun e => by have h1 := HAB.out _ e; have h2 := HNe.out; omega
        have z0 : w6.cell? ⟨B1, 0, none⟩ = some (.int .i64 x.id) := (hk6.cell (p := ⟨B1, 0, none⟩) hl1 nB1).trans x0
        have z1 : w6.cell? ⟨B2, 0, none⟩ = some (.int .i64 y.id) := (hk6.cell (p := ⟨B2, 0, none⟩) hl2 nB2).trans y0
        have hl6 : B2 < w6.heap.size := Nat.lt_of_lt_of_le hl2 hk6.size
        obtain ⟨c1, c2, c3⟩ := cut_first hR6.book.lists Hq1.out ha0 Hx.out hn1 hnx
        have hca := HCut.out w6 b G' _ _ hR6.book x.id n (by unfold Fit64; omega)
        have HCa := hid hca
        have HR6 := hid hR6
        have HC1 := hid c1
        have HC2 := hid c2
        have HC3 := hid c3
        have HFn := hid (HF.out.step Hq1.out Hq2.out Hd1.out Hd2.out ha0 Hx.out Hy.out hn1 hnx hny)
        have HXn := hid (HX.out.step HF.out.sum (z := ⟨x.id, y.id, p, n⟩) (by rw [Hx.out, Hy.out]; exact HN.out.symm) (by rw [Hx.out]; rfl) (by rw [Hy.out]; rfl))
        clear hk6 hown hgrow hat6 hlt6 hR6 nB1 nB2 c1 c2 c3 hca x0 x4 y0 y4 HO1 HR5 HX5 HY5 HF HX hl1 hl2 hi0 hz0 hz1 hz2 hxq hyq
        go_wp2_with fail
        refine HCa.out.mono ?_
        rintro e w7 (⟨h0, -, -⟩ | ⟨o, h0, -, -, rfl, hto⟩)
        · exfalso
          apply h0
          unfold cutE
          rw [HC1.out]
          exact if_neg (by omega)
        · rw [HC1.out] at h0
          obtain rfl := Option.some.inj h0
          rw [HC2.out, HC3.out] at hto
          obtain ⟨G2, hR7, hk7⟩ := HR6.out.turn hto
          have z2 : w7.cell? ⟨B2, 0, none⟩ = some (.int .i64 y.id) := (hk7.cell (p := ⟨B2, 0, none⟩) hl6 HG2.out).trans z1
          obtain ⟨c1, c2, c3⟩ := cut_second hR7.book.lists Hq2.out ha0 Hy.out hn1 hny
          have hca := HCut.out w7 b G2 _ _ hR7.book y.id n (by unfold Fit64; omega)
          have HCb := hid hca
          have HR7 := hid hR7
          have HD1 := hid c1
          have HD2 := hid c2
          have HD3 := hid c3
          clear hto hk7 hR7 c1 c2 c3 hca h0 z0 z1 HCa HR6 HC1 HC2 HC3
          go_wp2_with fail
          refine HCb.out.mono ?_
          rintro e w8 (⟨h0, -, -⟩ | ⟨o, h0, -, -, rfl, hto⟩)
          · exfalso
            apply h0
            unfold cutE
            rw [HD1.out]
            exact if_neg (by omega)
          · rw [HD1.out] at h0
            obtain rfl := Option.some.inj h0
            rw [HD2.out, HD3.out] at hto
            obtain ⟨G3, hR8, -⟩ := HR7.out.turn hto
            have HR8 := hid hR8
            have i1 : RowKit.wrap64 (t - a - n) = t - (a + n) := by unfold RowKit.wrap64; omega
            clear hto hR8 h0 z2 HCb HR7 HD1 HD2 HD3
            go_wp2_with fail
            go_roundg (t - (a + n)).toNat
            case measure => omega
            case rel => exact ⟨a + n, F ++ [⟨x.id, y.id, p, n⟩], _, cap, G3, by omega, by omega, rfl, by congr 1 <;> omega, by simp, HFn, HXn, HR8⟩
    · obtain rfl : a = t := by omega
      have d3 : decide (0 < a - a) = false := decF (by omega)
      go_wp2_with fail
      refine bodyPost_ret (results_tmp2 rfl _ _ _) rfl ?_
      exact ⟨F, A, c, G', rfl, HF.out, HX.out, HR.out⟩
end Go.Proofs.YtkcgchpbjegneaaGreatDoor
namespace Go.Proofs.YtkcgchpbjegneaaGreatDoor
open Go.RowKit
set_option linter.unusedVariables false

/-- what a meeting leaves: the trades, what is left of the order, whether it was stopped, what its askers know, the other side -/
structure MeetR (σ : Type) where
  fills : List Fill4
  left : Ord5
  stop : Bool
  st : σ
  rest : List Ord5
def fillM (o x : Ord5) (n : Int) : Fill4 := if o.side = 2 then ⟨x.id, o.id, x.price, n⟩ else ⟨o.id, x.id, x.price, n⟩
/-- the order's price does not go so far -/
def beyondB (o x : Ord5) : Bool := !(o.kind == 2) && ((o.side == 1 && decide (o.price < x.price)) || (o.side == 2 && decide (x.price < o.price)))
/-- what is left in the book of one that is cut -/
def leftL (x : Ord5) (n : Int) : List Ord5 := if n = x.qty then [] else [cutO x n]
section
variable {σ : Type} (al : σ → Int → Bool) (tr : σ → Int → σ)
def meetP : List Ord5 → Ord5 → σ → MeetR σ
  | [], o, s => ⟨[], o, false, s, []⟩
  | x :: t, o, s =>
    if o.qty < 1 then ⟨[], o, false, s, x :: t⟩
    else if x.kind = 2 then ⟨(meetP t o s).fills, (meetP t o s).left, (meetP t o s).stop, (meetP t o s).st, x :: (meetP t o s).rest⟩
    else if beyondB o x = true then ⟨[], o, false, s, x :: t⟩
    else if al s x.price = false then ⟨[], o, true, s, x :: t⟩
    else ⟨fillM o x (min o.qty x.qty) :: (meetP t (cutO o (min o.qty x.qty)) (tr s x.price)).fills, (meetP t (cutO o (min o.qty x.qty)) (tr s x.price)).left, (meetP t (cutO o (min o.qty x.qty)) (tr s x.price)).stop, (meetP t (cutO o (min o.qty x.qty)) (tr s x.price)).st, leftL x (min o.qty x.qty) ++ (meetP t (cutO o (min o.qty x.qty)) (tr s x.price)).rest⟩
def MeetR.join (F : List Fill4) (R : List Ord5) (r : MeetR σ) : MeetR σ := ⟨F ++ r.fills, r.left, r.stop, r.st, R ++ r.rest⟩
variable {al tr} {F : List Fill4} {R t : List Ord5} {x o : Ord5} {s : σ}
theorem join_nil (r : MeetR σ) : MeetR.join [] [] r = r := rfl
theorem meet_end : MeetR.join F R (meetP al tr [] o s) = ⟨F, o, false, s, R⟩ := by
  unfold meetP MeetR.join
  simp
theorem meet_done (h : o.qty < 1) : MeetR.join F R (meetP al tr t o s) = ⟨F, o, false, s, R ++ t⟩ := by
  cases t with
  | nil => unfold meetP MeetR.join; simp
  | cons x t => unfold meetP MeetR.join; rw [if_pos h]; simp
theorem meet_market (h : ¬ o.qty < 1) (hk : x.kind = 2) : MeetR.join F R (meetP al tr (x :: t) o s) = MeetR.join F (R ++ [x]) (meetP al tr t o s) := by
  rw [meetP, if_neg h, if_pos hk]
  unfold MeetR.join
  simp
theorem meet_beyond (h : ¬ o.qty < 1) (hk : ¬ x.kind = 2) (hb : beyondB o x = true) : MeetR.join F R (meetP al tr (x :: t) o s) = ⟨F, o, false, s, R ++ x :: t⟩ := by
  rw [meetP, if_neg h, if_neg hk, if_pos hb]
  unfold MeetR.join
  simp
theorem meet_stop (h : ¬ o.qty < 1) (hk : ¬ x.kind = 2) (hb : beyondB o x = false) (ha : al s x.price = false) : MeetR.join F R (meetP al tr (x :: t) o s) = ⟨F, o, true, s, R ++ x :: t⟩ := by
  rw [meetP, if_neg h, if_neg hk, if_neg (by rw [hb]; simp), if_pos ha]
  unfold MeetR.join
  simp
theorem meet_trade (h : ¬ o.qty < 1) (hk : ¬ x.kind = 2) (hb : beyondB o x = false) (ha : al s x.price = true) {n : Int} (hn : min o.qty x.qty = n) : MeetR.join F R (meetP al tr (x :: t) o s) = MeetR.join (F ++ [fillM o x n]) (R ++ leftL x n) (meetP al tr t (cutO o n) (tr s x.price)) := by
  rw [meetP, if_neg h, if_neg hk, if_neg (by rw [hb]; simp), if_neg (by rw [ha]; simp), hn]
  unfold MeetR.join
  simp
end
/-- a side with one cut out of its midst -/
theorem cutS_mid {R t : List Ord5} {x : Ord5} {n : Int} (hn : ((R ++ x :: t).map (·.id)).Nodup) : cutS (R ++ x :: t) x n = (R ++ leftL x n) ++ t := by
  rw [List.map_append, List.map_cons, List.nodup_append, List.nodup_cons] at hn
  have h1 : ∀ y ∈ R, y.id ≠ x.id := fun y hy e => hn.2.2 _ (List.mem_map.2 ⟨y, hy, rfl⟩) _ (List.mem_cons_self) e
  have h2 : ∀ y ∈ t, y.id ≠ x.id := fun y hy e => hn.2.1.1 (List.mem_map.2 ⟨y, hy, e⟩)
  unfold cutS leftL
  by_cases hq : n = x.qty
  · rw [if_pos hq, if_pos hq]
    unfold remI
    rw [List.filter_append, List.filter_cons_of_neg (by simp), List.filter_eq_self.2 (fun y hy => by simpa using h1 y hy), List.filter_eq_self.2 (fun y hy => by simpa using h2 y hy)]
    simp
  · rw [if_neg hq, if_neg hq]
    unfold cutI
    rw [List.map_append, List.map_cons, if_pos rfl]
    have e1 : R.map (fun o => if o.id = x.id then cutO o n else o) = R := by
      conv => rhs; rw [← List.map_id R]
      exact List.map_congr_left fun y hy => if_neg (h1 y hy)
    have e2 : t.map (fun o => if o.id = x.id then cutO o n else o) = t := by
      conv => rhs; rw [← List.map_id t]
      exact List.map_congr_left fun y hy => if_neg (h2 y hy)
    rw [e1, e2]
    simp
theorem sideL_cut (s : Int) (M1 M2 : List Ord5) (x : Ord5) (n : Int) : sideL s (cutS M1 x n) (cutS M2 x n) = cutS (sideL s M1 M2) x n := by
  unfold sideL
  split <;> rfl
theorem ids_side {L1 L2 : List Ord5} (h : ListsOk L1 L2) (s : Int) : ((sideL s L1 L2).map (·.id)).Nodup := by
  have h1 := ids_parts h
  unfold sideL
  split
  · exact h1.1
  · exact h1.2.1
/-- one of the other side is cut: this side stays, the other is as meetP tells -/
theorem meet_cut {M1 M2 R t : List Ord5} {s : Int} {x : Ord5} {n : Int} (h : ListsOk M1 M2) (hs : Is12 s) (hR : sideL (3 - s) M1 M2 = R ++ x :: t) : getI (M1 ++ M2) x.id = some x ∧ sideL s (cutS M1 x n) (cutS M2 x n) = sideL s M1 M2 ∧ sideL (3 - s) (cutS M1 x n) (cutS M2 x n) = (R ++ leftL x n) ++ t := by
  have hn := ids_side h (3 - s)
  rw [hR] at hn
  obtain ⟨d1, d2, d3⟩ := ids_parts h
  have hx : x ∈ sideL (3 - s) M1 M2 := by rw [hR]; simp
  refine ⟨?_, ?_, by rw [sideL_cut, hR, cutS_mid hn]⟩
  · refine getI_mem h.ids ?_
    unfold sideL at hx
    split at hx
    · exact List.mem_append_left _ hx
    · exact List.mem_append_right _ hx
  · rw [sideL_cut]
    refine cutS_other fun y hy => ?_
    rcases hs with rfl | rfl
    · have e1 : sideL 1 M1 M2 = M1 := rfl
      have e2 : sideL (3 - 1) M1 M2 = M2 := rfl
      rw [e1] at hy
      rw [e2] at hx
      exact d3 y hy x hx
    · have e1 : sideL 2 M1 M2 = M2 := rfl
      have e2 : sideL (3 - 2) M1 M2 = M1 := rfl
      rw [e1] at hy
      rw [e2] at hx
      exact fun e => d3 x hx y hy e.symm
theorem sides_both {L1 L2 M1 M2 : List Ord5} {s : Int} (hs : Is12 s) (h1 : sideL s L1 L2 = sideL s M1 M2) (h2 : sideL (3 - s) L1 L2 = sideL (3 - s) M1 M2) : L1 = M1 ∧ L2 = M2 := by
  rcases hs with rfl | rfl
  · exact ⟨h1, h2⟩
  · exact ⟨h2, h1⟩
end Go.Proofs.YtkcgchpbjegneaaGreatDoor
namespace Go.Proofs.YtkcgchpbjegneaaGreatDoor
open Go.RowKit
set_option linter.unusedVariables false

/-- a market K, its cut, and two function values: the one that allows a price, the one that is told of a trade -/
structure MeetSays {σ : Type} (K : σ → List Ord5 → List Ord5 → (Nat → Prop) → World → Prop) (al : σ → Int → Bool) (tr : σ → Int → σ) (cnt : σ → Nat) (ga gt : FuncId) (ca ct : Array Value) (cutF : FuncId) (bp e0 : Value) : Prop where
  keep : ∀ {s : σ} {L1 L2 : List Ord5} {F : Nat → Prop} {w w' : World} {S : Nat → Prop}, K s L1 L2 F w → Keeps S w w' → (∀ i, F i → ¬ S i) → K s L1 L2 F w'
  lt : ∀ {s : σ} {L1 L2 : List Ord5} {F : Nat → Prop} {w : World}, K s L1 L2 F w → ∀ i, F i → i < w.heap.size
  ok : ∀ {s : σ} {L1 L2 : List Ord5} {F : Nat → Prop} {w : World}, K s L1 L2 F w → ListsOk L1 L2
  allows : ∀ {s : σ} {L1 L2 : List Ord5} {F : Nat → Prop} {w : World} (p : Int), K s L1 L2 F w → 1 ≤ p ∧ p ≤ 1000000 → Calls Tryz.prog ga (#[.int .i64 p] ++ ca) w fun e w' => e = .returned (.bool (al s p)) ∧ Below w.heap.size w w'
  trades : ∀ {s : σ} {L1 L2 : List Ord5} {F : Nat → Prop} {w : World} (p : Int), K s L1 L2 F w → 1 ≤ p ∧ p ≤ 1000000 → cnt s ≤ 1000 → Calls Tryz.prog gt (#[.int .i64 p] ++ ct) w fun e w' => e = .returned (.tuple #[]) ∧ ∃ F', K (tr s p) L1 L2 F' w' ∧ BStep w w' F F'
  cut : ∀ {s : σ} {L1 L2 : List Ord5} {F : Nat → Prop} {w : World} (x : Ord5) (n : Int), K s L1 L2 F w → getI (L1 ++ L2) x.id = some x → 1 ≤ n → n ≤ x.qty → Calls Tryz.prog cutF #[bp, .int .i64 x.id, .int .i64 n] w fun e w' => e = .returned e0 ∧ ∃ F', K s (cutS L1 x n) (cutS L2 x n) F' w' ∧ BStep w w' F F'
  cnt_ : ∀ s p, cnt (tr s p) ≤ cnt s + 1
  ega : ∀ args w, (callFunc ga args).run Tryz.prog w = .ok (.enter ga args) w
  egt : ∀ args w, (callFunc gt args).run Tryz.prog w = .ok (.enter gt args) w

/-- a market and trades told besides, while an order meets -/
structure MeetM {σ : Type} (K : σ → List Ord5 → List Ord5 → (Nat → Prop) → World → Prop) (w wr : World) (s : σ) (G G' : Nat → Prop) (M1 M2 : List Ord5) (A : Option Addr) (c : Nat) (F : List Fill4) : Prop where
  mk_ : K s M1 M2 G' wr
  step : BStep w wr G G'
  row : RowAt wr A F.length c 96 4 (flat encFl F)
  fpA : ∀ g, blkOf A = some g → ¬ G' g ∧ w.heap.size ≤ g
section
variable {σ : Type} {K : σ → List Ord5 → List Ord5 → (Nat → Prop) → World → Prop} {al : σ → Int → Bool} {tr : σ → Int → σ} {cnt : σ → Nat} {ga gt : FuncId} {ca ct : Array Value} {cutF : FuncId} {bp e0 : Value}
variable {w wr w' : World} {s s' : σ} {G G' G2 : Nat → Prop} {M1 M2 N1 N2 : List Ord5} {A : Option Addr} {c : Nat} {F : List Fill4}
theorem MeetM.below (hs : MeetSays K al tr cnt ga gt ca ct cutF bp e0) (h : MeetM K w wr s G G' M1 M2 A c F) (hb : Below wr.heap.size wr w') : MeetM K w w' s G G' M1 M2 A c F :=
  ⟨hs.keep h.mk_ (Keeps.of_below hb (fun _ => False)) (fun _ _ => id), h.step.trans (BStep.of_below hb), h.row.below hb, h.fpA⟩
theorem MeetM.keep (hs : MeetSays K al tr cnt ga gt ca ct cutF bp e0) (h : MeetM K w wr s G G' M1 M2 A c F) {X : Nat} (hk : Keeps (fun i => i = X) wr w') (hX : ¬ G' X) (hXA : blkOf A ≠ some X) (hXw : w.heap.size ≤ X) : MeetM K w w' s G G' M1 M2 A c F :=
  ⟨hs.keep h.mk_ hk (fun i hi e => hX (e ▸ hi)), ⟨h.step.1.trans hk (fun i hi => .inr (hi ▸ hXw)), h.step.2⟩, h.row.keeps hk (fun g hg e => hXA (e ▸ hg)), h.fpA⟩
theorem MeetM.fill (hs : MeetSays K al tr cnt ga gt ca ct cutF bp e0) {f : Fill4} {gg cap : Nat} (h : MeetM K w wr s G G' M1 M2 A c F) (hk : Keeps (fun i => blkOf A = some i) wr w') (ho : w'.ownsRow 0 96 4 (.slice (some ⟨gg, 0, none⟩) (F.length + 1) cap) (F.length + 1) (flat encFl F ++ encFl f)) (hat : blkOf A = some gg ∨ wr.heap.size ≤ gg) :
    MeetM K w w' s G G' M1 M2 (some ⟨gg, 0, none⟩) cap (F ++ [f]) := by
  refine ⟨hs.keep h.mk_ hk (fun i hi e => (h.fpA i e).1 hi), ⟨h.step.1.trans hk (fun i hi => .inr (h.fpA i hi).2), h.step.2⟩, ?_, fun g hg => ?_⟩
  · show w'.ownsRow 0 96 4 _ _ _
    rw [flat_snoc, List.length_append]
    exact ho
  · have e : gg = g := by simpa [blkOf] using hg
    subst e
    rcases hat with h1 | h1
    · exact h.fpA _ h1
    · refine ⟨fun hG => ?_, Nat.le_trans h.step.1.size h1⟩
      have := hs.lt h.mk_ _ hG
      omega
theorem MeetM.turn (h : MeetM K w wr s G G' M1 M2 A c F) (hk : K s' N1 N2 G2 w') (hb : BStep wr w' G' G2) : MeetM K w w' s' G G2 N1 N2 A c F := by
  refine ⟨hk, h.step.trans hb, h.row.keeps hb.1 (fun g hg => (h.fpA g hg).1), fun g hg => ⟨fun hG => ?_, (h.fpA g hg).2⟩⟩
  rcases hb.2 g hG with h1 | h1
  · exact (h.fpA g hg).1 h1
  · have := h.row.lt hg; omega
end
/-- what is told behind a meeting: the trades, the order, whether it was stopped; the market -/
def MeetDone {σ : Type} (K : σ → List Ord5 → List Ord5 → (Nat → Prop) → World → Prop) (w w' : World) (G : Nat → Prop) (sd : Int) (L1 L2 : List Ord5) (r : MeetR σ) (e : Ending) : Prop :=
  ∃ A c G' M1 M2, e = .returned (.tuple #[.slice A r.fills.length c, aggO r.left, .bool r.stop]) ∧ MeetM K w w' r.st G G' M1 M2 A c r.fills ∧ sideL sd M1 M2 = sideL sd L1 L2 ∧ sideL (3 - sd) M1 M2 = r.rest
end Go.Proofs.YtkcgchpbjegneaaGreatDoor
namespace Go.Proofs.YtkcgchpbjegneaaGreatDoor
open Go.RowKit
set_option linter.unusedVariables false

theorem results_tmp_row_tmp {P : Program} {fn : Func} {p q u : Tmp} {ty : TypeId} (h : fn.results = #[.tmp u, .cell p ty, .tmp q]) (tmps : Array Value) (w : World) (g : Nat) (t : TypeId) (cs : Array Value) (v1 v2 : Value) (fr : Nat × Nat) (d : TypeDesc)
    (hu1 : tmps.getD u undef = v1) (hp : tmps.getD p undef = .pointer (some ⟨g, 0, none⟩)) (hq : tmps.getD q undef = v2) (hg : w.heap[g]? = some (.cells cs t fr))
    (hu : P.underlying ty = some d) (hd : (match d with | .struct _ | .array _ _ => true | _ => false) = true) (hi : (P.info? ty).map (·.size) = some cs.size) : (results fn tmps).run P w = .ok (.tuple #[v1, .agg cs, v2]) w := by
  have hu' : tmps[u]?.getD undef = v1 := by simpa using hu1
  have hp' : tmps[p]?.getD undef = .pointer (some ⟨g, 0, none⟩) := by simpa using hp
  have hq' : tmps[q]?.getD undef = v2 := by simpa using hq
  simp [results, h, hu', hp', hq', asAddr, run_loadVar_row w g t ty cs fr d hg hu hd hi, Result.andThen]
theorem box5m {w : World} {g : Nat} {t : TypeId} {a b c d e : Value} (h : Blk w g t #[a, b, c, d, e]) : w.cell? ⟨g, 0, none⟩ = some a ∧ w.cell? ⟨g, 1, none⟩ = some b ∧ w.cell? ⟨g, 2, none⟩ = some c ∧ w.cell? ⟨g, 3, none⟩ = some d ∧ w.cell? ⟨g, 4, none⟩ = some e :=
  ⟨by rw [Blk.cell h]; rfl, by rw [Blk.cell h]; rfl, by rw [Blk.cell h]; rfl, by rw [Blk.cell h]; rfl, by rw [Blk.cell h]; rfl⟩
theorem box4m {w : World} {g : Nat} {t : TypeId} {a b c d : Value} (h : Blk w g t #[a, b, c, d]) : w.cell? ⟨g, 0, none⟩ = some a ∧ w.cell? ⟨g, 1, none⟩ = some b ∧ w.cell? ⟨g, 2, none⟩ = some c ∧ w.cell? ⟨g, 3, none⟩ = some d :=
  ⟨by rw [Blk.cell h]; rfl, by rw [Blk.cell h]; rfl, by rw [Blk.cell h]; rfl, by rw [Blk.cell h]; rfl⟩
theorem box_set5 {w : World} {Y : Nat} {t : TypeId} {a0 b0 c0 d0 e0 : Value} (h : Blk w Y t #[a0, b0, c0, d0, e0]) (a b c d e : Value) :
    Blk (((((w.setCell ⟨Y, 0, none⟩ a).setCell ⟨Y, 1, none⟩ b).setCell ⟨Y, 2, none⟩ c).setCell ⟨Y, 3, none⟩ d).setCell ⟨Y, 4, none⟩ e) Y t #[a, b, c, d, e] ∧ Keeps (fun i => i = Y) w (((((w.setCell ⟨Y, 0, none⟩ a).setCell ⟨Y, 1, none⟩ b).setCell ⟨Y, 2, none⟩ c).setCell ⟨Y, 3, none⟩ d).setCell ⟨Y, 4, none⟩ e) :=
  ⟨Blk.set_ (Blk.set_ (Blk.set_ (Blk.set_ (Blk.set_ h 0 a) 1 b) 2 c) 3 d) 4 e,
    ((((Keeps.set_ w ⟨Y, 0, none⟩ a).trans (Keeps.set_ _ ⟨Y, 1, none⟩ b) (fun _ h => .inl h)).trans (Keeps.set_ _ ⟨Y, 2, none⟩ c) (fun _ h => .inl h)).trans (Keeps.set_ _ ⟨Y, 3, none⟩ d) (fun _ h => .inl h)).trans (Keeps.set_ _ ⟨Y, 4, none⟩ e) (fun _ h => .inl h)⟩
theorem meet_ret {fn : Func} (hf : fn.results = #[.tmp 8, .cell 9 24, .tmp 10]) {w : World} {a : Act} {Q : Ending → World → Prop} {o : Ord5} {v1 v2 : Value} (g : Nat) (h9 : a.tmps.getD 9 undef = .pointer (some ⟨g, 0, none⟩)) (h8 : a.tmps.getD 8 undef = v1) (h10 : a.tmps.getD 10 undef = v2) (hd : a.defers = [])
    (hg : Blk w g 24 (boxO o)) (h : Q (.returned (.tuple #[v1, aggO o, v2])) w) : bodyPost Tryz.prog fn Q .ret a w :=
  bodyPost_ret (results_tmp_row_tmp hf a.tmps w g 24 (boxO o) v1 v2 (0, 0) _ h8 h9 h10 hg Tryz.underlying24 rfl (by show (Tryz.prog.info? 24).map (·.size) = some 5; kernel_rfl)) hd h
/-- the market, the trades, the list that is gone through, the order and the answer's box -/
structure MeetV {σ : Type} (K : σ → List Ord5 → List Ord5 → (Nat → Prop) → World → Prop) (w wr : World) (s : σ) (G G' : Nat → Prop) (M1 M2 l : List Ord5) (ob : Ord5) (X Y : Nat) (AL : Option Addr) (n cl : Nat) (A : Option Addr) (c : Nat) (F : List Fill4) : Prop where
  m : MeetM K w wr s G G' M1 M2 A c F
  bx : Blk wr X 24 (boxO ob)
  by_ : Blk wr Y 24 (boxO noO)
  xg : ¬ G' X
  yg : ¬ G' Y
  xa : blkOf A ≠ some X
  ya : blkOf A ≠ some Y
  xy : X ≠ Y
  lr : RowAt wr AL n cl 24 5 (flat encO l)
  lg : ∀ g, blkOf AL = some g → ¬ G' g ∧ blkOf A ≠ some g ∧ g ≠ X ∧ g ≠ Y
  wx : w.heap.size ≤ X
  wy : w.heap.size ≤ Y
/-- and what it tells so far -/
structure MeetW {σ : Type} (K : σ → List Ord5 → List Ord5 → (Nat → Prop) → World → Prop) (al : σ → Int → Bool) (tr : σ → Int → σ) (cnt : σ → Nat) (w wr : World) (s0 s : σ) (G G' : Nat → Prop) (L1 L2 M1 M2 : List Ord5) (l : List Ord5) (oi sd ok op oq q : Int) (X Y : Nat) (AL : Option Addr) (n cl : Nat) (A : Option Addr) (c : Nat) (F : List Fill4) (R : List Ord5) (k : Nat) : Prop where
  v : MeetV K w wr s G G' M1 M2 l ⟨oi, sd, ok, op, q⟩ X Y AL n cl A c F
  eq : meetP al tr l ⟨oi, sd, ok, op, oq⟩ s0 = MeetR.join F R (meetP al tr (l.drop k) ⟨oi, sd, ok, op, q⟩ s)
  own : sideL sd M1 M2 = sideL sd L1 L2
  oth : sideL (3 - sd) M1 M2 = R ++ l.drop k
  fl : F.length ≤ k
  qb : Fit64 q
  cn : cnt s ≤ F.length
section
variable {σ : Type} {K : σ → List Ord5 → List Ord5 → (Nat → Prop) → World → Prop} {al : σ → Int → Bool} {tr : σ → Int → σ} {cnt : σ → Nat} {ga gt : FuncId} {ca ct : Array Value} {cutF : FuncId} {bp e0 : Value}
variable {w wr w' : World} {s0 s s' : σ} {G G' G2 : Nat → Prop} {L1 L2 M1 M2 N1 N2 l R R' : List Ord5} {ob : Ord5} {oi sd ok op oq q : Int} {X Y : Nat} {AL A : Option Addr} {n cl c k : Nat} {F : List Fill4}
theorem MeetV.below (hs : MeetSays K al tr cnt ga gt ca ct cutF bp e0) (h : MeetV K w wr s G G' M1 M2 l ob X Y AL n cl A c F) (hb : Below wr.heap.size wr w') : MeetV K w w' s G G' M1 M2 l ob X Y AL n cl A c F :=
  ⟨h.m.below hs hb, Blk.keep h.bx hb, Blk.keep h.by_ hb, h.xg, h.yg, h.xa, h.ya, h.xy, h.lr.below hb, h.lg, h.wx, h.wy⟩
theorem MeetW.below (hs : MeetSays K al tr cnt ga gt ca ct cutF bp e0) (h : MeetW K al tr cnt w wr s0 s G G' L1 L2 M1 M2 l oi sd ok op oq q X Y AL n cl A c F R k) (hb : Below wr.heap.size wr w') : MeetW K al tr cnt w w' s0 s G G' L1 L2 M1 M2 l oi sd ok op oq q X Y AL n cl A c F R k :=
  ⟨h.v.below hs hb, h.eq, h.own, h.oth, h.fl, h.qb, h.cn⟩
/-- one that is passed by -/
theorem MeetW.pass {x : Ord5} {t : List Ord5} (h : MeetW K al tr cnt w wr s0 s G G' L1 L2 M1 M2 l oi sd ok op oq q X Y AL n cl A c F R k) (hd : l.drop k = x :: t) (hq : ¬ q < 1) (hk : x.kind = 2) : MeetW K al tr cnt w wr s0 s G G' L1 L2 M1 M2 l oi sd ok op oq q X Y AL n cl A c F (R ++ [x]) (k + 1) := by
  have e : l.drop (k + 1) = t := by rw [← List.drop_drop, hd]; rfl
  refine ⟨h.v, ?_, h.own, ?_, Nat.le_succ_of_le h.fl, h.qb, h.cn⟩
  · rw [h.eq, hd, e, meet_market (by exact hq) hk]
  · rw [h.oth, hd, e]; simp
/-- a trade: the slice of trades grows -/
theorem MeetV.fill (hs : MeetSays K al tr cnt ga gt ca ct cutF bp e0) {f : Fill4} {gg cap : Nat} (h : MeetV K w wr s G G' M1 M2 l ob X Y AL n cl A c F) (hk : Keeps (fun i => blkOf A = some i) wr w') (ho : w'.ownsRow 0 96 4 (.slice (some ⟨gg, 0, none⟩) (F.length + 1) cap) (F.length + 1) (flat encFl F ++ encFl f)) (hat : blkOf A = some gg ∨ wr.heap.size ≤ gg) :
    MeetV K w w' s G G' M1 M2 l ob X Y AL n cl (some ⟨gg, 0, none⟩) cap (F ++ [f]) := by
  have hX := Blk.lt h.bx
  have hY := Blk.lt h.by_
  refine ⟨h.m.fill hs hk ho hat, Blk.keeps h.bx hk h.xa, Blk.keeps h.by_ hk h.ya, h.xg, h.yg, fun e => ?_, fun e => ?_, h.xy, h.lr.keeps hk (fun g hg => (h.lg g hg).2.1), fun g hg => ⟨(h.lg g hg).1, fun e => ?_, (h.lg g hg).2.2⟩, h.wx, h.wy⟩
  · have e : gg = X := by simpa [blkOf] using e
    subst e
    rcases hat with h1 | h1
    · exact h.xa h1
    · omega
  · have e : gg = Y := by simpa [blkOf] using e
    subst e
    rcases hat with h1 | h1
    · exact h.ya h1
    · omega
  · have e : gg = g := by simpa [blkOf] using e
    subst e
    rcases hat with h1 | h1
    · exact (h.lg _ hg).2.1 h1
    · have := h.lr.lt hg; omega
/-- the market turns -/
theorem MeetV.turn (h : MeetV K w wr s G G' M1 M2 l ob X Y AL n cl A c F) (hk : K s' N1 N2 G2 w') (hb : BStep wr w' G' G2) : MeetV K w w' s' G G2 N1 N2 l ob X Y AL n cl A c F := by
  have hX := Blk.lt h.bx
  have hY := Blk.lt h.by_
  refine ⟨h.m.turn hk hb, Blk.keeps h.bx hb.1 h.xg, Blk.keeps h.by_ hb.1 h.yg, fun e => ?_, fun e => ?_, h.xa, h.ya, h.xy, h.lr.keeps hb.1 (fun g hg => (h.lg g hg).1), fun g hg => ⟨fun e => ?_, (h.lg g hg).2⟩, h.wx, h.wy⟩
  · rcases hb.2 _ e with h1 | h1
    · exact h.xg h1
    · omega
  · rcases hb.2 _ e with h1 | h1
    · exact h.yg h1
    · omega
  · rcases hb.2 _ e with h1 | h1
    · exact (h.lg g hg).1 h1
    · have := h.lr.lt hg; omega
/-- the order's lots turn -/
theorem MeetV.lots (hs : MeetSays K al tr cnt ga gt ca ct cutF bp e0) {q' : Int} (h : MeetV K w wr s G G' M1 M2 l ⟨oi, sd, ok, op, q⟩ X Y AL n cl A c F) : MeetV K w (wr.setCell ⟨X, 4, none⟩ (.int .i64 q')) s G G' M1 M2 l ⟨oi, sd, ok, op, q'⟩ X Y AL n cl A c F := by
  have hk := Keeps.set_ wr ⟨X, 4, none⟩ (.int .i64 q')
  exact ⟨h.m.keep hs hk h.xg h.xa h.wx, Blk.set_ h.bx 4 _, Blk.keeps h.by_ hk (fun e => h.xy e.symm), h.xg, h.yg, h.xa, h.ya, h.xy, h.lr.keeps hk (fun g hg e => (h.lg g hg).2.2.1 e), h.lg, h.wx, h.wy⟩
/-- what is told -/
theorem MeetW.done (hs : MeetSays K al tr cnt ga gt ca ct cutF bp e0) (h : MeetW K al tr cnt w wr s0 s G G' L1 L2 M1 M2 l oi sd ok op oq q X Y AL n cl A c F R k) {st : Bool} (hr : MeetR.join F R (meetP al tr (l.drop k) ⟨oi, sd, ok, op, q⟩ s) = ⟨F, ⟨oi, sd, ok, op, q⟩, st, s, R ++ l.drop k⟩) (hk : Keeps (fun i => i = Y) wr w') :
    MeetDone K w w' G sd L1 L2 (meetP al tr l ⟨oi, sd, ok, op, oq⟩ s0) (.returned (.tuple #[.slice A F.length c, aggO ⟨oi, sd, ok, op, q⟩, .bool st])) := by
  have e := h.eq.trans hr
  rw [e]
  exact ⟨A, c, G', M1, M2, rfl, h.v.m.keep hs hk h.v.yg h.v.ya h.v.wy, h.own, h.oth⟩
end
end Go.Proofs.YtkcgchpbjegneaaGreatDoor
namespace Go.Proofs.YtkcgchpbjegneaaGreatDoor
open Go.RowKit
set_option linter.unusedVariables false

theorem ask_int_info : (Tryz.prog.info? 3).map (fun i => (i.zero, i.size, i.bytes)) = some (some (.int .i64 0), 1, 8) := by kernel_rfl
/-- prices that were told: a variable, its slice -/
structure ToldAt (w : World) (T : Nat) (A : Option Addr) (c : Nat) (s : List Int) : Prop where
  var : Blk w T 32 #[.slice A s.length c]
  row : RowAt w A s.length c 3 1 (s.map (Value.int .i64))
  ne : blkOf A ≠ some T
theorem ToldAt.keeps {w w' : World} {S : Nat → Prop} {T c : Nat} {A : Option Addr} {s : List Int} (h : ToldAt w T A c s) (hk : Keeps S w w') (h1 : ¬ S T) (h2 : ∀ g, blkOf A = some g → ¬ S g) : ToldAt w' T A c s :=
  ⟨Blk.keeps h.var hk h1, h.row.keeps hk h2, h.ne⟩
def ToldTo (w w' : World) (T : Nat) (A : Option Addr) (s : List Int) : Prop := ∃ A' c', ToldAt w' T A' c' s ∧ Keeps (fun i => i = T ∨ blkOf A = some i) w w' ∧ ∀ g, blkOf A' = some g → blkOf A = some g ∨ w.heap.size ≤ g

set_option maxRecDepth 100000 in
set_option maxHeartbeats 2000000 in
theorem asks_any (w : World) (lX hX : Nat) (lo hi p : Int) (h1 : Blk w lX 3 #[.int .i64 lo]) (h2 : Blk w hX 3 #[.int .i64 hi]) :
    Calls Tryz.prog 8 #[.int .i64 p, .pointer (some ⟨lX, 0, none⟩), .pointer (some ⟨hX, 0, none⟩)] w fun e w' => e = .returned (.bool (decide (lo ≤ p) && decide (p ≤ hi))) ∧ Below w.heap.size w w' := by
  have x1 : w.cell? ⟨lX, 0, none⟩ = some (.int .i64 lo) := by rw [Blk.cell h1]; rfl
  have x2 : w.cell? ⟨hX, 0, none⟩ = some (.int .i64 hi) := by rw [Blk.cell h2]; rfl
  clear h1 h2
  by_cases c0 : lo ≤ p
  · have d0 := decT c0
    by_cases c1 : p ≤ hi
    · have d1 := decT c1
      go_enter Tryz.func8, Tryz.ntmps8
      go_wp2
      go_ret
      exact ⟨by first | rfl | (rw [d0, d1]; rfl), Below.refl _ _⟩
    · have d1 := decF c1
      go_enter Tryz.func8, Tryz.ntmps8
      go_wp2
      go_ret
      exact ⟨by first | rfl | (rw [d0, d1]; rfl), Below.refl _ _⟩
  · have d0 := decF c0
    go_enter Tryz.func8, Tryz.ntmps8
    go_wp2
    go_ret
    exact ⟨by first | rfl | (rw [d0]; rfl), Below.refl _ _⟩
set_option maxRecDepth 100000 in
set_option maxHeartbeats 2000000 in
theorem tells_2 (w : World) (T : Nat) (A : Option Addr) (c : Nat) (s : List Int) (p : Int) (h : ToldAt w T A c s) (hn : s.length ≤ 100000) :
    Calls Tryz.prog 10 #[.int .i64 p, .pointer (some ⟨T, 0, none⟩)] w fun e w' => e = .returned (.tuple #[]) ∧ ToldTo w w' T A (s ++ [p]) := by
  have x1 : w.cell? ⟨T, 0, none⟩ = some (.slice A s.length c) := by rw [Blk.cell h.var]; rfl
  obtain ⟨ii, hii, hiz0, hiz1, hiz2⟩ := info_parts ask_int_info
  have HT := hid h
  have HO1 := hid (World.ownsRow.alloc (show w.ownsRow 0 3 1 (.slice A s.length c) s.length (s.map (Value.int .i64)) from h.row) (.cells #[.int .i64 p] 3))
  clear h
  go_enter Tryz.func10, Tryz.ntmps10
  go_wp2_with (at_builtin; refine wpList_append_lies _ rfl _ _ 32 rfl 0 3 ii _ 1 8 Tryz.underlying32 hii hiz0 hiz1 hiz2 rfl (by omega) (.slice A s.length c) s.length _ rfl HO1.out ⟨w.heap.size, 0, none⟩ 1 1 [.int .i64 p] rfl rfl (World.news_of_block (cs := #[.int .i64 p]) (t := 3) (fr := (0, 0)) (heap_alloc_new w _)) (by simp [Value.oneCell']) (by omega) (by unfold maxLen; omega) (by omega) (by simp) (w.heap.size + 1) (by simp) ?_; intro gg cap w6 hown hgrow hat6 hlt6; have hk6 := keeps_of_new hgrow; rw [own_slice] at hk6 hat6; have hv6 := Blk.keeps HT.out.var hk6 HT.out.ne; have f6 := Blk.frozen hv6 0; have x6 : w6.cell? ⟨T, 0, none⟩ = some (.slice A s.length c) := (by rw [Blk.cell hv6]; rfl))
  refine bodyPost_end (results_none rfl _ _ _) rfl ?_
  have hTl := Blk.lt HT.out.var
  have hv7 := Blk.set_ hv6 0 (.slice (some ⟨gg, 0, none⟩) (s.length + 1) cap)
  have hk7 := Keeps.set_ w6 ⟨T, 0, none⟩ (.slice (some ⟨gg, 0, none⟩) (s.length + 1) cap)
  have hgT : gg ≠ T := fun e => by
    subst e
    rcases hat6 with h1 | h1
    · exact HT.out.ne h1
    · omega
  refine ⟨rfl, some ⟨gg, 0, none⟩, cap, ⟨?_, ?_, fun e => hgT (by simpa [blkOf] using e)⟩, (hk6.mono (fun i hi => .inr hi)).trans hk7 (fun i hi => .inl (.inl hi)), fun g hg => ?_⟩
  · rw [List.length_append]; exact hv7
  · rw [List.length_append, List.map_append]
    exact RowAt.keeps (show RowAt w6 (some ⟨gg, 0, none⟩) (s.length + 1) cap 3 1 (s.map (Value.int .i64) ++ [.int .i64 p]) from hown) hk7 (fun g hg e => hgT ((show gg = g by simpa [blkOf] using hg).trans e))
  · have e : gg = g := by simpa [blkOf] using hg
    subst e
    rcases hat6 with h1 | h1
    · exact .inl h1
    · exact .inr (by omega)
set_option maxRecDepth 100000 in
set_option maxHeartbeats 2000000 in
theorem tells_3 (w : World) (T : Nat) (A : Option Addr) (c : Nat) (s : List Int) (p : Int) (h : ToldAt w T A c s) (hn : s.length ≤ 100000) :
    Calls Tryz.prog 12 #[.int .i64 p, .pointer (some ⟨T, 0, none⟩)] w fun e w' => e = .returned (.tuple #[]) ∧ ToldTo w w' T A (s ++ [p]) := by
  have x1 : w.cell? ⟨T, 0, none⟩ = some (.slice A s.length c) := by rw [Blk.cell h.var]; rfl
  obtain ⟨ii, hii, hiz0, hiz1, hiz2⟩ := info_parts ask_int_info
  have HT := hid h
  have HO1 := hid (World.ownsRow.alloc (show w.ownsRow 0 3 1 (.slice A s.length c) s.length (s.map (Value.int .i64)) from h.row) (.cells #[.int .i64 p] 3))
  clear h
  go_enter Tryz.func12, Tryz.ntmps12
  go_wp2_with (at_builtin; refine wpList_append_lies _ rfl _ _ 32 rfl 0 3 ii _ 1 8 Tryz.underlying32 hii hiz0 hiz1 hiz2 rfl (by omega) (.slice A s.length c) s.length _ rfl HO1.out ⟨w.heap.size, 0, none⟩ 1 1 [.int .i64 p] rfl rfl (World.news_of_block (cs := #[.int .i64 p]) (t := 3) (fr := (0, 0)) (heap_alloc_new w _)) (by simp [Value.oneCell']) (by omega) (by unfold maxLen; omega) (by omega) (by simp) (w.heap.size + 1) (by simp) ?_; intro gg cap w6 hown hgrow hat6 hlt6; have hk6 := keeps_of_new hgrow; rw [own_slice] at hk6 hat6; have hv6 := Blk.keeps HT.out.var hk6 HT.out.ne; have f6 := Blk.frozen hv6 0; have x6 : w6.cell? ⟨T, 0, none⟩ = some (.slice A s.length c) := (by rw [Blk.cell hv6]; rfl))
  refine bodyPost_end (results_none rfl _ _ _) rfl ?_
  have hTl := Blk.lt HT.out.var
  have hv7 := Blk.set_ hv6 0 (.slice (some ⟨gg, 0, none⟩) (s.length + 1) cap)
  have hk7 := Keeps.set_ w6 ⟨T, 0, none⟩ (.slice (some ⟨gg, 0, none⟩) (s.length + 1) cap)
  have hgT : gg ≠ T := fun e => by
    subst e
    rcases hat6 with h1 | h1
    · exact HT.out.ne h1
    · omega
  refine ⟨rfl, some ⟨gg, 0, none⟩, cap, ⟨?_, ?_, fun e => hgT (by simpa [blkOf] using e)⟩, (hk6.mono (fun i hi => .inr hi)).trans hk7 (fun i hi => .inl (.inl hi)), fun g hg => ?_⟩
  · rw [List.length_append]; exact hv7
  · rw [List.length_append, List.map_append]
    exact RowAt.keeps (show RowAt w6 (some ⟨gg, 0, none⟩) (s.length + 1) cap 3 1 (s.map (Value.int .i64) ++ [.int .i64 p]) from hown) hk7 (fun g hg e => hgT ((show gg = g by simpa [blkOf] using hg).trans e))
  · have e : gg = g := by simpa [blkOf] using hg
    subst e
    rcases hat6 with h1 | h1
    · exact .inl h1
    · exact .inr (by omega)
/-! ### a book, whosever -/
structure BkSays (Bk : List Ord5 → List Ord5 → (Nat → Prop) → World → Prop) (cutF : FuncId) (bp e0 : Value) : Prop where
  keep : ∀ {L1 L2 : List Ord5} {F : Nat → Prop} {w w' : World} {S : Nat → Prop}, Bk L1 L2 F w → Keeps S w w' → (∀ i, F i → ¬ S i) → Bk L1 L2 F w'
  lt : ∀ {L1 L2 : List Ord5} {F : Nat → Prop} {w : World}, Bk L1 L2 F w → ∀ i, F i → i < w.heap.size
  ok : ∀ {L1 L2 : List Ord5} {F : Nat → Prop} {w : World}, Bk L1 L2 F w → ListsOk L1 L2
  cut : ∀ {L1 L2 : List Ord5} {F : Nat → Prop} {w : World} (x : Ord5) (n : Int), Bk L1 L2 F w → getI (L1 ++ L2) x.id = some x → 1 ≤ n → n ≤ x.qty → Calls Tryz.prog cutF #[bp, .int .i64 x.id, .int .i64 n] w fun e w' => e = .returned e0 ∧ ∃ F', Bk (cutS L1 x n) (cutS L2 x n) F' w' ∧ BStep w w' F F'
/-- with the prices that were told, and the two variables of the asker -/
structure KLawM (Bk : List Ord5 → List Ord5 → (Nat → Prop) → World → Prop) (T lX hX : Nat) (lo hi : Int) (s : List Int) (L1 L2 : List Ord5) (F G : Nat → Prop) (A : Option Addr) (c : Nat) (w : World) : Prop where
  bk : Bk L1 L2 G w
  told : ToldAt w T A c s
  lo_ : Blk w lX 3 #[.int .i64 lo]
  hi_ : Blk w hX 3 #[.int .i64 hi]
  fp : ∀ i, F i ↔ (G i ∨ i = T ∨ i = lX ∨ i = hX ∨ blkOf A = some i)
  gT : ¬ G T
  gl : ¬ G lX
  gh : ¬ G hX
  ga : ∀ g, blkOf A = some g → ¬ G g ∧ g ≠ lX ∧ g ≠ hX
  tl : T ≠ lX
  th : T ≠ hX
def KLaw (Bk : List Ord5 → List Ord5 → (Nat → Prop) → World → Prop) (T lX hX : Nat) (lo hi : Int) (s : List Int) (L1 L2 : List Ord5) (F : Nat → Prop) (w : World) : Prop := ∃ G A c, KLawM Bk T lX hX lo hi s L1 L2 F G A c w
theorem kLaw_says {Bk : List Ord5 → List Ord5 → (Nat → Prop) → World → Prop} {cutF : FuncId} {bp e0 : Value} (hb : BkSays Bk cutF bp e0) (T lX hX : Nat) (lo hi : Int) {gt : FuncId}
    (egt : ∀ args w, (callFunc gt args).run Tryz.prog w = .ok (.enter gt args) w)
    (htell : ∀ (w : World) (A : Option Addr) (c : Nat) (s : List Int) (p : Int), ToldAt w T A c s → s.length ≤ 100000 → Calls Tryz.prog gt #[.int .i64 p, .pointer (some ⟨T, 0, none⟩)] w fun e w' => e = .returned (.tuple #[]) ∧ ToldTo w w' T A (s ++ [p])) :
    MeetSays (KLaw Bk T lX hX lo hi) (fun _ p => decide (lo ≤ p) && decide (p ≤ hi)) (fun s p => s ++ [p]) List.length 8 gt #[.pointer (some ⟨lX, 0, none⟩), .pointer (some ⟨hX, 0, none⟩)] #[.pointer (some ⟨T, 0, none⟩)] cutF bp e0 where
  keep := by
    rintro s L1 L2 F w w' S ⟨G, A, c, h⟩ hk hF
    have hf : ∀ i, (G i ∨ i = T ∨ i = lX ∨ i = hX ∨ blkOf A = some i) → ¬ S i := fun i hi => hF i ((h.fp i).2 hi)
    exact ⟨G, A, c, hb.keep h.bk hk (fun i hi => hf i (.inl hi)), h.told.keeps hk (hf T (by simp)) (fun g hg => hf g (by simp [hg])), Blk.keeps h.lo_ hk (hf lX (by simp)), Blk.keeps h.hi_ hk (hf hX (by simp)), h.fp, h.gT, h.gl, h.gh, h.ga, h.tl, h.th⟩
  lt := by
    rintro s L1 L2 F w ⟨G, A, c, h⟩ i hi
    rcases (h.fp i).1 hi with h1 | rfl | rfl | rfl | h1
    · exact hb.lt h.bk i h1
    · exact Blk.lt h.told.var
    · exact Blk.lt h.lo_
    · exact Blk.lt h.hi_
    · exact h.told.row.lt h1
  ok := by
    rintro s L1 L2 F w ⟨G, A, c, h⟩
    exact hb.ok h.bk
  allows := by
    rintro s L1 L2 F w p ⟨G, A, c, h⟩ -
    exact asks_any w lX hX lo hi p h.lo_ h.hi_
  trades := by
    rintro s L1 L2 F w p ⟨G, A, c, h⟩ - hn
    refine (htell w A c s p h.told (by omega)).mono ?_
    rintro e w' ⟨rfl, A', c', ht, hk, hg⟩
    have hTl := Blk.lt h.told.var
    have hll := Blk.lt h.lo_
    have hhl := Blk.lt h.hi_
    have hS : ∀ i, (i = T ∨ blkOf A = some i) → F i := fun i hi => (h.fp i).2 (by rcases hi with e | e <;> simp [e])
    refine ⟨rfl, fun i => G i ∨ i = T ∨ i = lX ∨ i = hX ∨ blkOf A' = some i, ⟨G, A', c', hb.keep h.bk hk (fun i hi e => ?_), ht, Blk.keeps h.lo_ hk (fun e => ?_), Blk.keeps h.hi_ hk (fun e => ?_), fun i => Iff.rfl, h.gT, h.gl, h.gh, fun g hA => ?_, h.tl, h.th⟩, hk.mono hS, fun i hi => ?_⟩
    · rcases e with rfl | e
      · exact h.gT hi
      · exact (h.ga i e).1 hi
    · rcases e with e | e
      · exact h.tl e.symm
      · exact (h.ga _ e).2.1 rfl
    · rcases e with e | e
      · exact h.th e.symm
      · exact (h.ga _ e).2.2 rfl
    · rcases hg g hA with h1 | h1
      · exact h.ga g h1
      · exact ⟨fun e => by have := hb.lt h.bk g e; omega, by omega, by omega⟩
    · rcases hi with h1 | h1 | h1 | h1 | h1
      · exact .inl ((h.fp i).2 (.inl h1))
      · exact .inl ((h.fp i).2 (by simp [h1]))
      · exact .inl ((h.fp i).2 (by simp [h1]))
      · exact .inl ((h.fp i).2 (by simp [h1]))
      · rcases hg i h1 with h2 | h2
        · exact .inl ((h.fp i).2 (by simp [h2]))
        · exact .inr h2
  cut := by
    rintro s L1 L2 F w x n ⟨G, A, c, h⟩ hx h1 h2
    refine (hb.cut x n h.bk hx h1 h2).mono ?_
    rintro e w' ⟨rfl, G', hB, hk, hg⟩
    have hTl := Blk.lt h.told.var
    have hll := Blk.lt h.lo_
    have hhl := Blk.lt h.hi_
    refine ⟨rfl, fun i => G' i ∨ i = T ∨ i = lX ∨ i = hX ∨ blkOf A = some i, ⟨G', A, c, hB, h.told.keeps hk h.gT (fun g hA => (h.ga g hA).1), Blk.keeps h.lo_ hk h.gl, Blk.keeps h.hi_ hk h.gh, fun i => Iff.rfl, fun e => ?_, fun e => ?_, fun e => ?_, fun g hA => ⟨fun e => ?_, (h.ga g hA).2⟩, h.tl, h.th⟩, hk.mono (fun i hi => (h.fp i).2 (.inl hi)), fun i hi => ?_⟩
    · rcases hg _ e with h3 | h3
      · exact h.gT h3
      · omega
    · rcases hg _ e with h3 | h3
      · exact h.gl h3
      · omega
    · rcases hg _ e with h3 | h3
      · exact h.gh h3
      · omega
    · rcases hg _ e with h3 | h3
      · exact (h.ga g hA).1 h3
      · have := h.told.row.lt hA; omega
    · rcases hi with h3 | h3 | h3 | h3 | h3
      · rcases hg _ h3 with h4 | h4
        · exact .inl ((h.fp i).2 (.inl h4))
        · exact .inr h4
      · exact .inl ((h.fp i).2 (by simp [h3]))
      · exact .inl ((h.fp i).2 (by simp [h3]))
      · exact .inl ((h.fp i).2 (by simp [h3]))
      · exact .inl ((h.fp i).2 (by simp [h3]))
  cnt_ := fun s p => by rw [List.length_append]; exact Nat.le_refl _
  ega := Go.Proofs.enters_of Tryz.func8 (by kernel_rfl) rfl
  egt := egt
end Go.Proofs.YtkcgchpbjegneaaGreatDoor
namespace Go.Proofs.YtkcgchpbjegneaaGreatDoor
set_option linter.unusedVariables false
section
variable {α : Type} {r : α → Int}
/-- by rank, then by tag -/
def ltT (r : α → Int) (x y : α × Nat) : Prop := r x.1 < r y.1 ∨ (r x.1 = r y.1 ∧ x.2 < y.2)
theorem ltT.trans {x y z : α × Nat} (h : ltT r x y) (k : ltT r y z) : ltT r x z := by unfold ltT at *; omega
theorem ltT.asymm {x y : α × Nat} (h : ltT r x y) (k : ltT r y x) : False := by unfold ltT at *; omega
theorem ltT.of_lt {x y : α × Nat} (h : r x.1 < r y.1) : ltT r x y := .inl h
theorem ltT.of_not {x y : α × Nat} (h : ¬ r y.1 < r x.1) (k : x.2 < y.2) : ltT r x y := by unfold ltT; omega
def SortT (r : α → Int) (L : List (α × Nat)) : Prop := L.Pairwise (ltT r)
def TagL (X Y : List (α × Nat)) : Prop := ∀ x ∈ X, ∀ y ∈ Y, x.2 < y.2
def BelT (r : α → Int) (X Y : List (α × Nat)) : Prop := ∀ x ∈ X, ∀ y ∈ Y, ltT r x y
theorem sortT_append {X Y : List (α × Nat)} : SortT r (X ++ Y) ↔ SortT r X ∧ SortT r Y ∧ BelT r X Y := by unfold SortT BelT; rw [List.pairwise_append]
theorem sortT_at {L : List (α × Nat)} (h : SortT r L) {i j : Nat} (hi : i < L.length) (hj : j < L.length) (hij : i < j) : ltT r L[i] L[j] := (List.pairwise_iff_getElem.1 h) i j hi hj hij
theorem sortT_le {L : List (α × Nat)} (h : SortT r L) {i j : Nat} (hi : i < L.length) (hj : j < L.length) (hij : i ≤ j) : L[i] = L[j] ∨ ltT r L[i] L[j] := by
  by_cases e : i = j
  · subst e; exact .inl rfl
  · exact .inr (sortT_at h hi hj (by omega))
theorem TagL.perm {X X' Y Y' : List (α × Nat)} (h : TagL X Y) (hx : X'.Perm X) (hy : Y'.Perm Y) : TagL X' Y' := fun x a y b => h x (hx.mem_iff.1 a) y (hy.mem_iff.1 b)
/-- all of X lies below all of Y, as its last one lies below the first one there -/
theorem bel_of {X Y : List (α × Nat)} (hX : SortT r X) (hY : SortT r Y) (h : ∀ (h1 : 0 < X.length) (h2 : 0 < Y.length), ltT r (X[X.length - 1]'(by omega)) Y[0]) : BelT r X Y := by
  intro x hx y hy
  obtain ⟨i, hi, rfl⟩ := List.mem_iff_getElem.1 hx
  obtain ⟨j, hj, rfl⟩ := List.mem_iff_getElem.1 hy
  have h0 := h (by omega) (by omega)
  have h1 : X[i] = X[X.length - 1] ∨ ltT r X[i] X[X.length - 1] := sortT_le hX hi (by omega) (by omega)
  have h2 : Y[0] = Y[j] ∨ ltT r Y[0] Y[j] := sortT_le hY (by omega) hj (by omega)
  rcases h1 with h1 | h1 <;> rcases h2 with h2 | h2
  · rw [h1, ← h2]; exact h0
  · rw [h1]; exact h0.trans h2
  · rw [← h2]; exact h1.trans h0
  · exact (h1.trans h0).trans h2
/-- the halves of a merge -/
structure Mrg (r : α → Int) (L R : List (α × Nat)) : Prop where
  l : SortT r L
  r : SortT r R
  tag : TagL L R
theorem Mrg.parts {L1 L2 R1 R2 : List (α × Nat)} (h : Mrg r (L1 ++ L2) (R1 ++ R2)) : Mrg r L1 R1 ∧ Mrg r L2 R2 :=
  ⟨⟨(sortT_append.1 h.l).1, (sortT_append.1 h.r).1, fun x a y b => h.tag x (List.mem_append_left _ a) y (List.mem_append_left _ b)⟩,
   ⟨(sortT_append.1 h.l).2.1, (sortT_append.1 h.r).2.1, fun x a y b => h.tag x (List.mem_append_right _ a) y (List.mem_append_right _ b)⟩⟩
theorem bel_perm {X X' Y Y' : List (α × Nat)} (h : BelT r X Y) (hx : X'.Perm X) (hy : Y'.Perm Y) : BelT r X' Y' := fun x a y b => h x (hx.mem_iff.1 a) y (hy.mem_iff.1 b)
/-- merged by parts -/
theorem Mrg.joins {L1 L2 R1 R2 S1 S2 : List (α × Nat)} (h : Mrg r (L1 ++ L2) (R1 ++ R2)) (c1 : ∀ (h1 : 0 < L1.length) (h2 : 0 < R2.length), ltT r (L1[L1.length - 1]'(by omega)) R2[0]) (c2 : ∀ (h1 : 0 < R1.length) (h2 : 0 < L2.length), ltT r (R1[R1.length - 1]'(by omega)) L2[0])
    (p1 : S1.Perm (L1 ++ R1)) (s1 : SortT r S1) (p2 : S2.Perm (L2 ++ R2)) (s2 : SortT r S2) : (S1 ++ S2).Perm ((L1 ++ L2) ++ (R1 ++ R2)) ∧ SortT r (S1 ++ S2) := by
  obtain ⟨a1, a2, a3⟩ := sortT_append.1 h.l
  obtain ⟨b1, b2, b3⟩ := sortT_append.1 h.r
  have x1 := bel_of a1 b2 c1
  have x2 := bel_of b1 a2 c2
  refine ⟨(p1.append p2).trans ?_, sortT_append.2 ⟨s1, s2, bel_perm (X := L1 ++ R1) (Y := L2 ++ R2) (fun x hx y hy => ?_) p1 p2⟩⟩
  · rw [List.append_assoc, List.append_assoc]
    refine List.Perm.append_left _ ?_
    rw [← List.append_assoc, ← List.append_assoc]
    exact List.Perm.append_right _ List.perm_append_comm
  · rcases List.mem_append.1 hx with hx | hx <;> rcases List.mem_append.1 hy with hy | hy
    · exact a3 x hx y hy
    · exact x1 x hx y hy
    · exact x2 x hx y hy
    · exact b3 x hx y hy
/-- one ahead -/
theorem Mrg.one_l {x : α × Nat} {R : List (α × Nat)} {q : Nat} (h : Mrg r [x] R) (hq : q ≤ R.length) (c1 : ∀ (h2 : q < R.length), ¬ r R[q].1 < r x.1) (c2 : ∀ (h1 : 0 < q), r (R[q - 1]'(by omega)).1 < r x.1) :
    (R.take q ++ x :: R.drop q).Perm ([x] ++ R) ∧ SortT r (R.take q ++ x :: R.drop q) := by
  have h' : Mrg r ([] ++ [x]) (R.take q ++ R.drop q) := by rw [List.take_append_drop]; exact h
  have hs := (sortT_append.1 h'.r)
  have k := h'.joins (S1 := R.take q) (S2 := x :: R.drop q) (fun h1 _ => absurd h1 (by simp)) (fun h1 h2 => by
    have hl : (R.take q).length = q := by rw [List.length_take]; omega
    have h1' : 0 < q := by omega
    have e : (R.take q)[(R.take q).length - 1] = R[q - 1]'(by omega) := by simp [hl]
    rw [e]
    exact .inl (c2 h1')) (by simp) hs.1 (by simp) (by
    have e : x :: R.drop q = [x] ++ R.drop q := rfl
    rw [e]
    refine sortT_append.2 ⟨h.l, hs.2.1, bel_of h.l hs.2.1 (fun h1 h2 => ?_)⟩
    have h2' : q < R.length := by rw [List.length_drop] at h2; omega
    simp only [List.getElem_drop]
    refine ltT.of_not (x := x) (c1 (by simpa using h2')) (h.tag x (by simp) _ (List.getElem_mem _)))
  rw [List.take_append_drop] at k
  exact k
/-- one behind -/
theorem Mrg.one_r {y : α × Nat} {L : List (α × Nat)} {q : Nat} (h : Mrg r L [y]) (hq : q ≤ L.length) (c1 : ∀ (h2 : q < L.length), r y.1 < r L[q].1) (c2 : ∀ (h1 : 0 < q), ¬ r y.1 < r (L[q - 1]'(by omega)).1) :
    (L.take q ++ y :: L.drop q).Perm (L ++ [y]) ∧ SortT r (L.take q ++ y :: L.drop q) := by
  have h' : Mrg r (L.take q ++ L.drop q) ([y] ++ []) := by rw [List.take_append_drop]; exact h
  have hs := (sortT_append.1 h'.l)
  have hl : (L.take q).length = q := by rw [List.length_take]; omega
  have k := h'.joins (S1 := L.take q ++ [y]) (S2 := L.drop q) (fun _ h2 => absurd h2 (by simp)) (fun h1 h2 => by
    have h2' : q < L.length := by rw [List.length_drop] at h2; omega
    have c := c1 h2'
    simp only [List.getElem_drop, List.length_singleton, Nat.sub_self, List.getElem_cons_zero, Nat.add_zero]
    exact .inl c) (by simp) (sortT_append.2 ⟨hs.1, h.r, bel_of hs.1 h.r (fun h1 h2 => by
    have e : (L.take q)[(L.take q).length - 1] = L[q - 1]'(by omega) := by simp [hl]
    rw [e]
    exact ltT.of_not (c2 (by omega)) (h.tag _ (List.getElem_mem _) _ (by simp)))⟩) (by simp) hs.2.1
  rw [List.take_append_drop, List.append_nil] at k
  rw [List.append_assoc] at k
  exact k

/-! ### one more, by insertion -/
theorem ins_ok {L R : List (α × Nat)} {x : α × Nat} (h : SortT r (L ++ R)) (ht : TagL (L ++ R) [x]) (hR : BelT r [x] R) (hL : ∀ (h1 : 0 < L.length), ¬ r x.1 < r (L[L.length - 1]'(by omega)).1) : SortT r (L ++ x :: R) := by
  obtain ⟨a1, a2, a3⟩ := sortT_append.1 h
  have e : x :: R = [x] ++ R := rfl
  have hx : SortT r [x] := List.pairwise_singleton _ _
  have h1 : BelT r L [x] := bel_of a1 hx (fun h1 h2 => ltT.of_not (hL h1) (ht _ (List.mem_append_left _ (List.getElem_mem _)) _ (by simp)))
  rw [e]
  refine sortT_append.2 ⟨a1, sortT_append.2 ⟨hx, a2, hR⟩, fun u hu v hv => ?_⟩
  rcases List.mem_append.1 hv with hv | hv
  · exact h1 u hu v hv
  · exact a3 u hu v hv
theorem ins_step {L' R : List (α × Nat)} {x y : α × Nat} (h : SortT r (L' ++ (y :: R))) (hR : BelT r [x] R) (hy : r x.1 < r y.1) : BelT r [x] (y :: R) := by
  intro u hu v hv
  simp at hu
  subst hu
  rcases List.mem_cons.1 hv with rfl | hv
  · exact .inl hy
  · exact hR u (by simp) v hv

/-! ### chunk by chunk -/
inductive Chk (r : α → Int) (bs : Nat) : List (α × Nat) → Prop
  | last (L : List (α × Nat)) (h1 : L.length ≤ bs) (h2 : SortT r L) : Chk r bs L
  | cons (L T : List (α × Nat)) (h1 : L.length = bs) (h2 : SortT r L) (h3 : TagL L T) (h4 : Chk r bs T) : Chk r bs (L ++ T)
theorem Chk.short {bs : Nat} {T : List (α × Nat)} (h : Chk r bs T) (hl : T.length ≤ bs) : SortT r T := by
  cases h with
  | last L h1 h2 => exact h2
  | cons L T h1 h2 h3 h4 =>
    rw [List.length_append] at hl
    have : T = [] := List.eq_nil_of_length_eq_zero (by omega)
    subst this
    rw [List.append_nil]
    exact h2
theorem Chk.head {bs : Nat} {T : List (α × Nat)} (h : Chk r bs T) (hl : bs ≤ T.length) : ∃ L T', T = L ++ T' ∧ L.length = bs ∧ SortT r L ∧ TagL L T' ∧ Chk r bs T' := by
  cases h with
  | last L h1 h2 => exact ⟨T, [], by simp, by omega, h2, fun x _ y hy => (by cases hy), .last [] (by simp) List.Pairwise.nil⟩
  | cons L T h1 h2 h3 h4 => exact ⟨L, T, rfl, h1, h2, h3, h4⟩
/-- the next two chunks -/
theorem Chk.two {bs : Nat} {T : List (α × Nat)} (h : Chk r bs T) (hl : bs < T.length) : ∃ L R T', T = L ++ (R ++ T') ∧ L.length = bs ∧ R.length = min bs (T.length - bs) ∧ Mrg r L R ∧ TagL (L ++ R) T' ∧ Chk r bs T' := by
  obtain ⟨L, T1, rfl, h1, h2, h3, h4⟩ := h.head (by omega)
  rw [List.length_append] at hl
  by_cases hc : bs ≤ T1.length
  · obtain ⟨R, T', rfl, k1, k2, k3, k4⟩ := h4.head hc
    refine ⟨L, R, T', rfl, h1, ?_, ⟨h2, k2, fun x hx y hy => h3 x hx y (List.mem_append_left _ hy)⟩, fun x hx y hy => ?_, k4⟩
    · rw [List.length_append, List.length_append]; omega
    · rcases List.mem_append.1 hx with hx | hx
      · exact h3 x hx y (List.mem_append_right _ hy)
      · exact k3 x hx y hy
  · refine ⟨L, T1, [], by simp, h1, ?_, ⟨h2, h4.short (by omega), h3⟩, fun x _ y hy => (by cases hy), .last [] (by simp) List.Pairwise.nil⟩
    rw [List.length_append]; omega
/-- what is done may be set ahead of whatever comes -/
def Ahead (r : α → Int) (bs : Nat) (P : List (α × Nat)) : Prop := ∀ Z, Chk r bs Z → TagL P Z → Chk r bs (P ++ Z)
theorem ahead_nil (bs : Nat) : Ahead r bs [] := fun Z h _ => h
theorem Ahead.snoc {bs : Nat} {P S : List (α × Nat)} (h : Ahead r bs P) (hl : S.length = bs) (hs : SortT r S) (ht : TagL P S) : Ahead r bs (P ++ S) := fun Z hz hp => by
  rw [List.append_assoc]
  refine h _ (.cons S Z hl hs (fun x hx y hy => hp x (List.mem_append_right _ hx) y hy) hz) (fun x hx y hy => ?_)
  rcases List.mem_append.1 hy with hy | hy
  · exact ht x hx y hy
  · exact hp x (List.mem_append_left _ hx) y hy
theorem Ahead.ends {bs : Nat} {P S : List (α × Nat)} (h : Ahead r bs P) (hl : S.length ≤ bs) (hs : SortT r S) (ht : TagL P S) : Chk r bs (P ++ S) := h S (.last S hl hs) ht

/-! ### one order alone -/
def insR (r : α → Int) (L : List α) (x : α) : List α := L.takeWhile (fun y => decide (r y ≤ r x)) ++ x :: L.dropWhile (fun y => decide (r y ≤ r x))
/-- sorted by rank, of like ones as they came -/
def stabL (r : α → Int) (l : List α) : List α := l.foldl (insR r) []
def insTg (r : α → Int) (L : List (α × Nat)) (x : α × Nat) : List (α × Nat) := L.takeWhile (fun y => decide (r y.1 ≤ r x.1)) ++ x :: L.dropWhile (fun y => decide (r y.1 ≤ r x.1))
theorem insTg_map (L : List (α × Nat)) (x : α × Nat) : (insTg r L x).map (·.1) = insR r (L.map (·.1)) x.1 := by
  unfold insTg insR
  rw [List.map_append, List.map_cons, List.takeWhile_map, List.dropWhile_map]
  rfl
theorem insTg_perm (L : List (α × Nat)) (x : α × Nat) : (insTg r L x).Perm (x :: L) := by
  unfold insTg
  refine List.perm_middle.trans ?_
  rw [List.takeWhile_append_dropWhile]
theorem insTg_sort {L : List (α × Nat)} {x : α × Nat} (h : SortT r L) (ht : TagL L [x]) : SortT r (insTg r L x) := by
  have e : L.takeWhile (fun y => decide (r y.1 ≤ r x.1)) ++ L.dropWhile (fun y => decide (r y.1 ≤ r x.1)) = L := List.takeWhile_append_dropWhile
  have hd : ∀ y, (L.dropWhile (fun y => decide (r y.1 ≤ r x.1))).head? = some y → ¬ r y.1 ≤ r x.1 := fun y hy hle => by
    have := List.head?_dropWhile_not (p := fun y : α × Nat => decide (r y.1 ≤ r x.1)) L
    rw [hy] at this
    simp at this
    omega
  have htk : ∀ y ∈ L.takeWhile (fun y => decide (r y.1 ≤ r x.1)), r y.1 ≤ r x.1 := fun y hy => by
    have := List.all_eq_true.1 (List.all_takeWhile (p := fun y : α × Nat => decide (r y.1 ≤ r x.1)) (l := L)) y hy
    simpa using this
  unfold insTg
  generalize L.takeWhile (fun y => decide (r y.1 ≤ r x.1)) = A at *
  generalize L.dropWhile (fun y => decide (r y.1 ≤ r x.1)) = B at *
  subst e
  obtain ⟨a1, a2, a3⟩ := sortT_append.1 h
  refine ins_ok h ht ?_ (fun h1 => by have := htk _ (List.getElem_mem (l := A) (n := A.length - 1) (by omega)); omega)
  refine bel_of (List.pairwise_singleton _ _) a2 (fun h1 h2 => ?_)
  have h3 := hd B[0] (by rw [List.head?_eq_getElem?]; exact List.getElem?_eq_getElem h2)
  exact .inl (by simp; omega)
theorem foldl_tag (l : List α) : ∀ (k : Nat) (L : List (α × Nat)), SortT r L → (∀ x ∈ L, x.2 < k) → SortT r ((l.zipIdx k).foldl (insTg r) L) ∧ ((l.zipIdx k).foldl (insTg r) L).Perm (L ++ l.zipIdx k) ∧ ((l.zipIdx k).foldl (insTg r) L).map (·.1) = l.foldl (insR r) (L.map (·.1)) := by
  induction l with
  | nil => intro k L h1 h2; exact ⟨h1, by simp, rfl⟩
  | cons x t ih =>
    intro k L h1 h2
    rw [List.zipIdx_cons, List.foldl_cons, List.foldl_cons]
    have hp := insTg_perm (r := r) L (x, k)
    obtain ⟨i1, i2, i3⟩ := ih (k + 1) (insTg r L (x, k)) (insTg_sort h1 (fun y hy z hz => by simp at hz; subst hz; exact h2 y hy)) (fun y hy => by
      rcases List.mem_cons.1 (hp.mem_iff.1 hy) with rfl | hy
      · simp
      · have := h2 y hy; omega)
    refine ⟨i1, i2.trans ?_, by rw [i3, insTg_map]⟩
    refine (hp.append_right _).trans ?_
    rw [List.cons_append]
    exact List.perm_middle.symm
/-- the only one -/
theorem stab_only {l : List α} {T : List (α × Nat)} (hp : T.Perm l.zipIdx) (hs : SortT r T) : T.map (·.1) = stabL r l := by
  obtain ⟨h1, h2, h3⟩ := foldl_tag (r := r) l 0 [] List.Pairwise.nil (fun x hx => by cases hx)
  rw [List.nil_append] at h2
  have e : T = l.zipIdx.foldl (insTg r) [] := List.Perm.eq_of_pairwise (le := ltT r) (fun a b _ _ h k => (h.asymm k).elim) hs h1 (hp.trans h2.symm)
  rw [e, h3]
  rfl
end
end Go.Proofs.YtkcgchpbjegneaaGreatDoor
namespace Go.Proofs.YtkcgchpbjegneaaGreatDoor
open Go.RowKit
set_option linter.unusedVariables false

section
variable {α : Type}
def swapL (l : List α) (i j : Nat) : List α := match l[i]?, l[j]? with
  | some x, some y => (l.set i y).set j x
  | _, _ => l
theorem swapL_length (l : List α) (i j : Nat) : (swapL l i j).length = l.length := by
  unfold swapL
  split <;> simp
theorem swapL_of {l : List α} {i j : Nat} (hi : i < l.length) (hj : j < l.length) : swapL l i j = (l.set i l[j]).set j l[i] := by
  unfold swapL
  rw [List.getElem?_eq_getElem hi, List.getElem?_eq_getElem hj]
theorem swapL_map {β : Type} (f : α → β) (l : List α) (i j : Nat) : (swapL l i j).map f = swapL (l.map f) i j := by
  unfold swapL
  rw [List.getElem?_map, List.getElem?_map]
  cases l[i]? <;> cases l[j]? <;> simp [List.map_set]
theorem swapL_mid (A M B : List α) (x y : α) {i j : Nat} (hi : A.length = i) (hj : A.length + 1 + M.length = j) : swapL (A ++ (x :: (M ++ (y :: B)))) i j = A ++ (y :: (M ++ (x :: B))) := by
  subst hi hj
  have h1 : (A ++ (x :: (M ++ (y :: B))))[A.length]? = some x := by simp
  have h2 : (A ++ (x :: (M ++ (y :: B))))[A.length + 1 + M.length]? = some y := by
    rw [List.getElem?_append_right (by omega), show A.length + 1 + M.length - A.length = M.length + 1 by omega, List.getElem?_cons_succ, List.getElem?_append_right (by omega)]
    simp
  unfold swapL
  rw [h1, h2]
  dsimp only
  rw [List.set_append_right _ _ (by omega), Nat.sub_self, List.set_cons_zero, List.set_append_right _ _ (by omega), show A.length + 1 + M.length - A.length = M.length + 1 by omega, List.set_cons_succ, List.set_append_right _ _ (by omega), Nat.sub_self, List.set_cons_zero]
theorem swapL_adj (A B : List α) (x y : α) {i : Nat} (hi : A.length = i) : swapL (A ++ (x :: y :: B)) i (i + 1) = A ++ (y :: x :: B) := by
  have h := swapL_mid A [] B x y hi rfl
  simpa [hi] using h
theorem swapL_back (A B : List α) (x y : α) {i : Nat} (hi : A.length = i) : swapL (A ++ (x :: y :: B)) (i + 1) i = A ++ (y :: x :: B) := by
  subst hi
  have h1 : (A ++ (x :: y :: B))[A.length]? = some x := by simp
  have h2 : (A ++ (x :: y :: B))[A.length + 1]? = some y := by rw [List.getElem?_append_right (by omega)]; simp
  unfold swapL
  rw [h1, h2]
  dsimp only
  rw [List.set_append_right _ _ (by omega), show A.length + 1 - A.length = 1 by omega]
  simp
end

/-- what lessSwap holds -/
def lsV (g : Nat) (lb : Array Value) (sf : Nat) (sb : Array Value) : Value := .agg #[.func (.func g) #[] lb, .func (.func sf) #[] sb]
abbrev lsBox (g : Nat) (lb : Array Value) (sf : Nat) (sb : Array Value) : Array Value := #[.func (.func g) #[] lb, .func (.func sf) #[] sb]
/-- what is asked: St w l: the row at block blk holds l, and all that the comparison reads is as it should be -/
structure SortEnv {α : Type} (g : Nat) (lb : Array Value) (sf : Nat) (sb : Array Value) (blk n : Nat) (r : α → Int) (St : World → List α → Prop) : Prop where
  eg : ∀ args w, (callFunc g args).run Tryz.prog w = .ok (.enter g args) w
  less : ∀ W l (i j : Nat), St W l → l.length = n → (hi : i < l.length) → (hj : j < l.length) → i ≠ j → Calls Tryz.prog g (#[.int .i64 i, .int .i64 j] ++ lb) W fun e w' => e = .returned (.bool (decide (r l[i] < r l[j]))) ∧ St w' l ∧ Keeps (fun k => k = blk) W w'
  swap : ∀ W l (i j : Nat), St W l → l.length = n → i < n → j < n → i ≠ j → ∃ W', (callFunc sf (#[.int .i64 i, .int .i64 j] ++ sb)).run Tryz.prog W = .ok (.value (.tuple #[])) W' ∧ St W' (swapL l i j) ∧ Keeps (fun k => k = blk) W W'
  alloc : ∀ W l o, St W l → St (W.alloc o) l
  lt : ∀ W l, St W l → blk < W.heap.size
section
variable {α : Type} {g : Nat} {lb : Array Value} {sf : Nat} {sb : Array Value} {blk n : Nat} {r : α → Int} {St : World → List α → Prop}
theorem SortEnv.tag (E : SortEnv g lb sf sb blk n r St) : SortEnv g lb sf sb blk n (fun x : α × Nat => r x.1) (fun W T => St W (T.map (·.1))) where
  eg := E.eg
  less := fun W l i j h hl hi hj hij => by
    have h1 := E.less W (l.map (·.1)) i j h (by simpa using hl) (by simpa using hi) (by simpa using hj) hij
    simp only [List.getElem_map] at h1
    exact h1
  swap := fun W l i j h hl hi hj hij => by
    obtain ⟨W', h1, h2, h3⟩ := E.swap W (l.map (·.1)) i j h (by simpa using hl) hi hj hij
    exact ⟨W', h1, by rw [swapL_map]; exact h2, h3⟩
  alloc := fun W l o h => E.alloc W _ o h
  lt := fun W l h => E.lt W _ h
/-- the box of lessSwap stands, the row's block alone turns -/
structure SortAt (St : World → List α → Prop) (blk : Nat) (w wx : World) (bx : Array Value) (l : List α) : Prop where
  st : St wx l
  keep : Keeps (fun k => k = blk) w wx
  box : Blk wx w.heap.size 204 bx
theorem SortEnv.start (E : SortEnv g lb sf sb blk n r St) {w : World} {l : List α} (h : St w l) : SortAt St blk w (w.alloc (.cells (lsBox g lb sf sb) 204)) (lsBox g lb sf sb) l :=
  ⟨E.alloc _ _ _ h, Keeps.of_below ((Below.refl _ w).alloc (Nat.le_refl _) _) _, Blk.new w _ _⟩
theorem SortAt.step {w wx w' : World} {bx : Array Value} {l l' : List α} (h : SortAt St blk w wx bx l) (hb : blk < w.heap.size) (h1 : St w' l') (h2 : Keeps (fun k => k = blk) wx w') : SortAt St blk w w' bx l' :=
  ⟨h1, h.keep.trans h2 (fun i e => .inl e), Blk.keeps h.box h2 (fun e => by have e : w.heap.size = blk := e; omega)⟩
theorem SortAt.cells {w wx : World} {l : List α} (h : SortAt St blk w wx (lsBox g lb sf sb) l) : wx.cell? ⟨w.heap.size, 0, none⟩ = some (.func (.func g) #[] lb) ∧ wx.cell? ⟨w.heap.size, 1, none⟩ = some (.func (.func sf) #[] sb) :=
  ⟨by rw [Blk.cell h.box]; rfl, by rw [Blk.cell h.box]; rfl⟩

/-! ### swapRange_func -/
theorem range_mid (A X M Y B : List α) (i : Nat) (hi : i < X.length) (hy : X.length = Y.length) :
    swapL (A ++ ((Y.take i ++ X.drop i) ++ (M ++ ((X.take i ++ Y.drop i) ++ B)))) (A.length + i) (A.length + X.length + M.length + i) = A ++ ((Y.take (i + 1) ++ X.drop (i + 1)) ++ (M ++ ((X.take (i + 1) ++ Y.drop (i + 1)) ++ B))) := by
  have ex : X.drop i = X[i] :: X.drop (i + 1) := List.drop_eq_getElem_cons hi
  have ey : Y.drop i = Y[i] :: Y.drop (i + 1) := List.drop_eq_getElem_cons (by omega)
  have e1 : A ++ ((Y.take i ++ X.drop i) ++ (M ++ ((X.take i ++ Y.drop i) ++ B))) = (A ++ Y.take i) ++ (X[i] :: ((X.drop (i + 1) ++ (M ++ X.take i)) ++ (Y[i] :: (Y.drop (i + 1) ++ B)))) := by rw [ex, ey]; simp only [List.append_assoc, List.cons_append]
  rw [e1, swapL_mid _ _ _ _ _ (by simp; omega) (by simp; omega), List.take_succ_eq_append_getElem hi, List.take_succ_eq_append_getElem (by omega : i < Y.length)]
  simp only [List.append_assoc, List.cons_append, List.nil_append]

set_option maxRecDepth 100000 in
set_option maxHeartbeats 1000000 in
theorem swapRange_any (E : SortEnv g lb sf sb blk n r St) (w : World) (A X M Y B : List α) (a b k : Nat) (ha : A.length = a) (hb : A.length + X.length + M.length = b) (hx : X.length = k) (hy : Y.length = k)
    (h : St w (A ++ (X ++ (M ++ (Y ++ B))))) (hn : (A ++ (X ++ (M ++ (Y ++ B)))).length = n) (hn2 : n ≤ 1000000) :
    Calls Tryz.prog 195 #[lsV g lb sf sb, .int .i64 a, .int .i64 b, .int .i64 k] w fun e w' => e = .returned (.tuple #[]) ∧ St w' (A ++ (Y ++ (M ++ (X ++ B)))) ∧ Keeps (fun k => k = blk) w w' := by
  have hlt := E.lt _ _ h
  have eg := E.eg
  have hS0 := E.start h
  have hnn : A.length + (X.length + (M.length + (Y.length + B.length))) = n := by simpa using hn
  have HE := hid E
  have HS0 := hid hS0
  have HL := hid (And.intro ha (And.intro hb (And.intro hx (And.intro hy hnn))))
  have hb1 : a ≤ 1000000 := by omega
  have hb2 : b ≤ 1000000 := by omega
  have hb3 : k ≤ 1000000 := by omega
  have HLt := hid hlt
  clear E h hS0 hn hnn ha hb hx hy hn2 hlt
  unfold lsV
  go_enter Tryz.func195, Tryz.ntmps195
  go_wp2_with fail
  go_loopg [8] k (fun gg s8 wx => ∃ i : Nat, i ≤ k ∧ gg = k - i ∧ s8 = .int .i64 i ∧ SortAt St blk w wx (lsBox g lb sf sb) (A ++ ((Y.take i ++ X.drop i) ++ (M ++ ((X.take i ++ Y.drop i) ++ B)))))
  case atStart => exact ⟨0, Nat.zero_le _, rfl, rfl, by simpa using HS0.out⟩
  case round =>
    obtain ⟨i, hi, rfl, rfl, hS⟩ := hrel
    by_cases hlt : i < k
    · have hltz : (i : Int) < (k : Int) := by omega
      obtain ⟨c0, c1⟩ := hS.cells
      have hsw := HE.out.swap wr _ (a + i) (b + i) hS.st (by have h := HL.out; simp; omega) (by have h := HL.out; omega) (by have h := HL.out; omega) (by have h := HL.out; omega)
      have hmid := range_mid A X M Y B i (by have h := HL.out; omega) (by have h := HL.out; omega)
      rw [HL.out.2.1, HL.out.1] at hmid
      rw [hmid] at hsw
      obtain ⟨w2, hs, hst, hk⟩ := hsw
      rw [show (((a + i : Nat) : Int)) = (a : Int) + (i : Int) by omega, show (((b + i : Nat) : Int)) = (b : Int) + (i : Int) by omega] at hs
      have HS := hid hS
      have HSt := hid hst
      have HK := hid hk
      clear hS hst hk hmid
      go_wp2_with fail
      go_roundg (k - (i + 1))
      case measure => omega
      case rel => exact ⟨i + 1, by omega, rfl, by go_num, HS.out.step HLt.out HSt.out HK.out⟩
    · obtain rfl : k = i := by omega
      have hltz : ¬ (k : Int) < (k : Int) := by omega
      have HS := hid hS
      clear hS
      go_wp2_with fail
      go_end0
      refine ⟨rfl, ?_, HS.out.keep⟩
      have h := HS.out.st
      have hx := HL.out.2.2.1
      have hy := HL.out.2.2.2.1
      rw [List.take_of_length_le (by omega), List.take_of_length_le (by omega), List.drop_of_length_le (by omega), List.drop_of_length_le (by omega)] at h
      simpa using h

/-! ### rotate_func -/
set_option maxRecDepth 100000 in
set_option maxHeartbeats 2000000 in
theorem rotate_any (E : SortEnv g lb sf sb blk n r St) (w : World) (A U V B : List α) (a m b : Nat) (ha : A.length = a) (hm : A.length + U.length = m) (hb : m + V.length = b) (hU : 0 < U.length) (hV : 0 < V.length)
    (h : St w (A ++ (U ++ (V ++ B)))) (hn : (A ++ (U ++ (V ++ B))).length = n) (hn2 : n ≤ 1000000) :
    Calls Tryz.prog 186 #[lsV g lb sf sb, .int .i64 a, .int .i64 m, .int .i64 b] w fun e w' => e = .returned (.tuple #[]) ∧ St w' (A ++ (V ++ (U ++ B))) ∧ Keeps (fun k => k = blk) w w' := by
  have hlt := E.lt _ _ h
  have eg := E.eg
  have hS0 := E.start h
  have hnn : A.length + (U.length + (V.length + B.length)) = n := by simpa using hn
  have HE := hid E
  have HS0 := hid hS0
  have HL := hid (And.intro ha (And.intro hm (And.intro hb hnn)))
  have HUV := hid (And.intro hU hV)
  have hb1 : a ≤ 1000000 := by omega
  have hb2 : m ≤ 1000000 := by omega
  have hb3 : b ≤ 1000000 := by omega
  have HN2 := hid hn2
  have HLt := hid hlt
  have z1 : ((m : Int) - (a : Int)) = ((U.length : Nat) : Int) := by omega
  have z2 : ((b : Int) - (m : Int)) = ((V.length : Nat) : Int) := by omega
  clear E h hS0 hn hnn ha hb hm hU hV hn2 hlt
  unfold lsV
  go_enter Tryz.func186, Tryz.ntmps186
  go_wp2_with fail
  go_loopg [8, 9] (U.length + V.length) (fun gg s8 s9 wx => ∃ (i j : Nat) (P U' V' Q : List α), 0 < i ∧ 0 < j ∧ gg = i + j ∧ s8 = .int .i64 i ∧ s9 = .int .i64 j ∧ Hid (U'.length = i ∧ V'.length = j ∧ A.length + P.length + i = m ∧ P ++ (V' ++ (U' ++ Q)) = V ++ U) ∧ SortAt St blk w wx (lsBox g lb sf sb) (A ++ (P ++ (U' ++ (V' ++ (Q ++ B))))))
  case atStart => exact ⟨U.length, V.length, [], U, V, [], HUV.out.1, HUV.out.2, rfl, rfl, rfl, hid ⟨rfl, rfl, by have := HL.out; simp; omega, by simp⟩, by simpa using HS0.out⟩
  case round =>
    obtain ⟨i, j, P, U', V', Q, hi0, hj0, rfl, rfl, rfl, HQ, hS⟩ := hrel
    clear z1 z2
    have hlen : A.length + (P.length + (U'.length + (V'.length + (Q.length + B.length)))) = n := by
      have h1 := congrArg List.length HQ.out.2.2.2
      simp only [List.length_append] at h1
      have := HL.out
      omega
    have hij : i ≤ m := by have := HQ.out; omega
    have hjn : j ≤ 1000000 := by have := HQ.out; have := HN2.out; omega
    obtain ⟨c0, c1⟩ := hS.cells
    have hb4 : (0 : Int) ≤ (m : Int) - (i : Int) := by omega
    rcases Nat.lt_trichotomy i j with hlt | rfl | hlt
    · have t1 := bneT (show ((i : Int)) ≠ (j : Int) by omega)
      have t2 : ¬ (j : Int) < (i : Int) := by omega
      have hc := swapRange_any HE.out wr (A ++ P) U' (V'.take (j - i)) (V'.drop (j - i)) (Q ++ B) (m - i) (m + j - i) i (by have := HQ.out; simp; omega) (by have := HQ.out; simp; omega) HQ.out.1 (by have := HQ.out; simp; omega) (by
        have h := hS.st
        have e : V' = V'.take (j - i) ++ V'.drop (j - i) := (List.take_append_drop _ _).symm
        rw [e] at h
        simpa only [List.append_assoc] using h) (by have := HQ.out; simp; omega) HN2.out
      rw [show (((m - i : Nat) : Int)) = (m : Int) - (i : Int) by omega, show (((m + j - i : Nat) : Int)) = (m : Int) + (j : Int) - (i : Int) by omega] at hc
      have HC := hid hc
      have HS := hid hS
      clear hS hc hlen
      unfold lsV at HC
      go_wp2_with fail
      refine HC.out.mono ?_
      rintro e w2 ⟨rfl, hst, hk⟩
      have HSt := hid hst
      have HK := hid hk
      clear hst hk
      go_wp2_with fail
      go_roundg (i + (j - i))
      case measure => omega
      case rel =>
        refine ⟨i, j - i, P, V'.drop (j - i), V'.take (j - i), U' ++ Q, hi0, by omega, rfl, rfl, by rw [show (((j - i : Nat) : Int)) = (j : Int) - (i : Int) by omega], hid ⟨by have := HQ.out; simp; omega, by have := HQ.out; simp; omega, HQ.out.2.2.1, ?_⟩, ?_⟩
        · have h := HQ.out.2.2.2
          have e : V' = V'.take (j - i) ++ V'.drop (j - i) := (List.take_append_drop _ _).symm
          rw [e] at h
          simpa only [List.append_assoc] using h
        · exact HS.out.step HLt.out (by have h := HSt.out; simpa only [List.append_assoc] using h) HK.out
    · have t1 := bneF (show ((i : Int)) = (i : Int) from rfl)
      have hc := swapRange_any HE.out wr (A ++ P) U' [] V' (Q ++ B) (m - i) m i (by have := HQ.out; simp; omega) (by have := HQ.out; simp; omega) HQ.out.1 HQ.out.2.1 (by
        have h := hS.st
        simpa only [List.append_assoc, List.nil_append] using h) (by have := HQ.out; simp; omega) HN2.out
      rw [show (((m - i : Nat) : Int)) = (m : Int) - (i : Int) by omega] at hc
      have HC := hid hc
      have HS := hid hS
      clear hS hc hlen
      unfold lsV at HC
      go_wp2_with fail
      refine HC.out.mono ?_
      rintro e w2 ⟨rfl, hst, hk⟩
      have HSt := hid hst
      have HK := hid hk
      clear hst hk
      go_wp2_with fail
      go_end0
      refine ⟨rfl, ?_, HS.out.keep.trans HK.out (fun i e => .inl e)⟩
      have h := HSt.out
      have e : A ++ (V ++ (U ++ B)) = A ++ ((V ++ U) ++ B) := by simp only [List.append_assoc]
      rw [e, ← HQ.out.2.2.2]
      simpa only [List.append_assoc, List.nil_append] using h
    · have t1 := bneT (show ((i : Int)) ≠ (j : Int) by omega)
      have t2 : (j : Int) < (i : Int) := by omega
      have hc := swapRange_any HE.out wr (A ++ P) (U'.take j) (U'.drop j) V' (Q ++ B) (m - i) m j (by have := HQ.out; simp; omega) (by have := HQ.out; simp; omega) (by have := HQ.out; simp; omega) HQ.out.2.1 (by
        have h := hS.st
        have e : U' = U'.take j ++ U'.drop j := (List.take_append_drop _ _).symm
        rw [e] at h
        simpa only [List.append_assoc] using h) (by have := HQ.out; simp; omega) HN2.out
      rw [show (((m - i : Nat) : Int)) = (m : Int) - (i : Int) by omega] at hc
      have HC := hid hc
      have HS := hid hS
      clear hS hc hlen
      unfold lsV at HC
      go_wp2_with fail
      refine HC.out.mono ?_
      rintro e w2 ⟨rfl, hst, hk⟩
      have HSt := hid hst
      have HK := hid hk
      clear hst hk
      go_wp2_with fail
      go_roundg (i - j + j)
      case measure => omega
      case rel =>
        refine ⟨i - j, j, P ++ V', U'.drop j, U'.take j, Q, by omega, hj0, rfl, by rw [show (((i - j : Nat) : Int)) = (i : Int) - (j : Int) by omega], rfl, hid ⟨by have := HQ.out; simp; omega, by have := HQ.out; simp; omega, by have := HQ.out; simp; omega, ?_⟩, ?_⟩
        · have h := HQ.out.2.2.2
          have e : U' = U'.take j ++ U'.drop j := (List.take_append_drop _ _).symm
          rw [e] at h
          simpa only [List.append_assoc] using h
        · exact HS.out.step HLt.out (by have h := HSt.out; simpa only [List.append_assoc] using h) HK.out
end

/-! ### insertionSort_func, over tagged elements -/
section
variable {α : Type} {g : Nat} {lb : Array Value} {sf : Nat} {sb : Array Value} {blk n : Nat} {r : α → Int} {St : World → List (α × Nat) → Prop}
theorem tag_take {Q : List (α × Nat)} (h : Q.Pairwise fun x y => x.2 < y.2) {k : Nat} (hk : k < Q.length) {S : List (α × Nat)} (hS : S.Perm (Q.take k)) : TagL S [Q[k]] := by
  intro x hx y hy
  simp at hy
  subst hy
  obtain ⟨i, hi, rfl⟩ := List.mem_iff_getElem.1 (hS.mem_iff.1 hx)
  have hi2 : i < k := by rw [List.length_take] at hi; omega
  rw [List.getElem_take]
  exact List.pairwise_iff_getElem.1 h i k (by omega) hk hi2
theorem last_cut {L : List α} {p : Nat} (hp : L.length = p + 1) : ∃ L' y, L = L' ++ [y] ∧ L'.length = p := by
  have h0 : L ≠ [] := by intro e; rw [e] at hp; cases hp
  exact ⟨L.dropLast, L.getLast h0, (List.dropLast_concat_getLast h0).symm, by rw [List.length_dropLast]; omega⟩
theorem get_mid {A B : List α} {x : α} {i : Nat} (hi : A.length = i) (h : i < (A ++ (x :: B)).length) : (A ++ (x :: B))[i] = x := by
  subst hi
  simp

set_option maxRecDepth 100000 in
set_option maxHeartbeats 2000000 in
theorem insertion_any (E : SortEnv g lb sf sb blk n (fun x : α × Nat => r x.1) St) (w : World) (A Q B : List (α × Nat)) (a b : Nat) (ha : A.length = a) (hb : A.length + Q.length = b) (hQ : Q.Pairwise fun x y => x.2 < y.2)
    (h : St w (A ++ (Q ++ B))) (hn : (A ++ (Q ++ B)).length = n) (hn2 : n ≤ 1000000) :
    Calls Tryz.prog 172 #[lsV g lb sf sb, .int .i64 a, .int .i64 b] w fun e w' => e = .returned (.tuple #[]) ∧ (∃ S, S.Perm Q ∧ SortT r S ∧ St w' (A ++ (S ++ B))) ∧ Keeps (fun k => k = blk) w w' := by
  have hlt := E.lt _ _ h
  have eg := E.eg
  have hS0 := E.start h
  have hnn : A.length + (Q.length + B.length) = n := by simpa using hn
  have HE := hid E
  have HS0 := hid hS0
  have HL := hid (And.intro ha (And.intro hb hnn))
  have HQ := hid hQ
  have hb1 : a ≤ 1000000 := by omega
  have hb2 : b ≤ 1000000 := by omega
  have HLt := hid hlt
  clear E h hS0 hn hnn ha hb hn2 hlt hQ
  unfold lsV
  go_enter Tryz.func172, Tryz.ntmps172
  go_wp2_with fail
  go_loopg [6] (Q.length + 1 - 1) (fun gg s6 wx => ∃ (k : Nat) (S : List (α × Nat)), 1 ≤ k ∧ k ≤ Q.length + 1 ∧ gg = Q.length + 1 - k ∧ s6 = .int .i64 ((a : Int) + (k : Int)) ∧ Hid (S.Perm (Q.take k) ∧ SortT r S) ∧ SortAt St blk w wx (lsBox g lb sf sb) (A ++ (S ++ (Q.drop k ++ B))))
  case atStart => exact ⟨1, Q.take 1, Nat.le_refl _, by omega, rfl, rfl, hid ⟨List.Perm.refl _, by
    unfold SortT
    match Q with
    | [] => exact List.Pairwise.nil
    | x :: t => exact List.pairwise_singleton _ _⟩, by
    have h := HS0.out
    have e : Q.take 1 ++ (Q.drop 1 ++ B) = Q ++ B := by rw [← List.append_assoc, List.take_append_drop]
    rw [e]
    exact h⟩
  case round =>
    obtain ⟨k, S, hk1, hk2, rfl, rfl, HS, hS⟩ := hrel
    by_cases hlt : k < Q.length
    · have hltz : (a : Int) + (k : Int) < (b : Int) := by have := HL.out; omega
      have ed : Q.drop k = Q[k] :: Q.drop (k + 1) := List.drop_eq_getElem_cons hlt
      have et : Q.take (k + 1) = Q.take k ++ [Q[k]] := List.take_succ_eq_append_getElem hlt
      have HTg := hid (tag_take HQ.out hlt HS.out.1)
      rw [ed] at hS
      obtain ⟨x, hx⟩ : ∃ x, Q[k] = x := ⟨_, rfl⟩
      rw [hx] at hS HTg et
      have HEt := hid et
      have HA := hid hS
      have hSl : S.length = k := by have := HS.out.1.length_eq; rw [List.length_take] at this; omega
      have HSl := hid hSl
      have hcs : ((a : Int) + (k : Int)) ≤ 1000000 := by have := HL.out; omega
      obtain ⟨wo, rfl⟩ : ∃ wo : World, wo = wr := ⟨_, rfl⟩
      clear ed et hx hS hSl
      go_wp2_with fail
      go_loopg [7] k (fun gg s7 wx => ∃ (p : Nat) (L R : List (α × Nat)), p ≤ k ∧ gg = 0 + p ∧ s7 = .int .i64 ((a : Int) + (p : Int)) ∧ Hid (L ++ R = S ∧ L.length = p ∧ BelT r [x] R) ∧ SortAt St blk w wx (lsBox g lb sf sb) (A ++ (L ++ (x :: (R ++ (Q.drop (k + 1) ++ B))))))
      case atStart => exact ⟨k, S, [], Nat.le_refl _, by omega, rfl, hid ⟨by simp, HSl.out, fun x hx y hy => by cases hy⟩, by simpa using HA.out⟩
      case round =>
        obtain ⟨p, L, R, hpk, rfl, rfl, HLR, hS⟩ := hrel
        obtain ⟨c0, c1⟩ := hS.cells
        have hfin : (∀ (h1 : 0 < L.length), ¬ r x.1 < r (L[L.length - 1]'(by omega)).1) → (L ++ x :: R).Perm (Q.take (k + 1)) ∧ SortT r (L ++ x :: R) := fun hL => by
          refine ⟨?_, ins_ok (by rw [HLR.out.1]; exact HS.out.2) (by rw [HLR.out.1]; exact HTg.out) HLR.out.2.2 hL⟩
          rw [HEt.out]
          refine List.perm_middle.trans ?_
          rw [HLR.out.1]
          exact (HS.out.1.cons x).trans (List.perm_append_comm (l₁ := [x]))
        have HFin := hid hfin
        clear hfin
        by_cases hp0 : p = 0
        · have t1 : ¬ (a : Int) < (a : Int) + (p : Int) := by omega
          have HF2 := hid (HFin.out (fun h1 => absurd h1 (by rw [HLR.out.2.1]; omega)))
          have HS2 := hid hS
          have hd1 : decide ((a : Int) < (a : Int) + (p : Int)) = false := decF (by omega)
          clear hS HFin
          go_wp2_with fail
          go_roundg (Q.length + 1 - (k + 1))
          case measure => omega
          case rel => exact ⟨k + 1, L ++ x :: R, by omega, by omega, rfl, by rw [show (a : Int) + ((k + 1 : Nat) : Int) = (a : Int) + (k : Int) + 1 by omega], HF2, by have h := HS2.out; simpa only [List.append_assoc, List.cons_append] using h⟩
        · obtain ⟨p', hp'⟩ : ∃ p', p = p' + 1 := ⟨p - 1, by omega⟩
          obtain ⟨L', y, hL', hl'⟩ := last_cut (HLR.out.2.1.trans hp')
          have HP := hid hp'
          subst hL'
          have hd1 : decide ((a : Int) < (a : Int) + (p : Int)) = true := decT (by omega)
          have hst := hS.st
          have e1 : A ++ (L' ++ [y] ++ (x :: (R ++ (Q.drop (k + 1) ++ B)))) = (A ++ L') ++ (y :: x :: (R ++ (Q.drop (k + 1) ++ B))) := by simp only [List.append_assoc, List.cons_append, List.nil_append]
          rw [e1] at hst
          have hal : (A ++ L').length = a + p' := by have := HL.out; simp; omega
          have hln : ((A ++ L') ++ (y :: x :: (R ++ (Q.drop (k + 1) ++ B)))).length = n := by
            have h1 := congrArg List.length HLR.out.1
            have h2 := HSl.out
            have := HL.out
            simp at h1 ⊢
            omega
          have hi1 : a + (p' + 1) < ((A ++ L') ++ (y :: x :: (R ++ (Q.drop (k + 1) ++ B)))).length := by simp at hal ⊢; omega
          have hi0 : a + p' < ((A ++ L') ++ (y :: x :: (R ++ (Q.drop (k + 1) ++ B)))).length := by simp at hal ⊢; omega
          have hle := HE.out.less wr _ (a + (p' + 1)) (a + p') hst hln hi1 hi0 (by omega)
          have g0 : ((A ++ L') ++ (y :: x :: (R ++ (Q.drop (k + 1) ++ B))))[a + p'] = y := get_mid hal _
          have g1 : ((A ++ L') ++ (y :: x :: (R ++ (Q.drop (k + 1) ++ B))))[a + (p' + 1)] = x := by
            have e : (A ++ L') ++ (y :: x :: (R ++ (Q.drop (k + 1) ++ B))) = ((A ++ L') ++ [y]) ++ (x :: (R ++ (Q.drop (k + 1) ++ B))) := by simp
            have := get_mid (A := (A ++ L') ++ [y]) (B := R ++ (Q.drop (k + 1) ++ B)) (x := x) (i := a + (p' + 1)) (by simp at hal ⊢; omega) (by rw [← e]; exact hi1)
            simp only [e]
            exact this
          rw [g0, g1] at hle
          have hsw := fun W hW => HE.out.swap W ((A ++ L') ++ (y :: x :: (R ++ (Q.drop (k + 1) ++ B)))) (a + (p' + 1)) (a + p') hW hln (by rw [← hln]; exact hi1) (by rw [← hln]; exact hi0) (by omega)
          have esw := swapL_back (A ++ L') (R ++ (Q.drop (k + 1) ++ B)) y x hal
          rw [show a + p' + 1 = a + (p' + 1) by omega] at esw
          rw [esw] at hsw
          have ci : (((a + p' : Nat) : Int)) = (a : Int) + (p : Int) - 1 := by omega
          have cj : (((a + (p' + 1) : Nat) : Int)) = (a : Int) + (p : Int) := by omega
          rw [ci, cj] at hle hsw
          have HSw := hid hsw
          have HLe := hid hle
          have HS2 := hid hS
          have HE1 := hid e1
          have HHal := hid hal
          clear hst hal hln hi1 hi0 g0 g1 esw ci cj hsw hle hS e1 hp'
          by_cases hv : r x.1 < r y.1
          · have hle := HLe.out
            rw [decT hv] at hle
            have HV := hid hv
            clear hv HFin
            go_wp2_with (go_at_fn g; refine hle.mono ?_; rintro e w2 ⟨rfl, hst2, hk2'⟩; obtain ⟨w3, hs, hst3, hk3⟩ := HSw.out w2 hst2; have HK2 := hid hk2'; have HSt3 := hid hst3; have HK3 := hid hk3; have c1 : w2.cell? ⟨w.heap.size, 1, none⟩ = some (.func (.func sf) #[] sb) := (by rw [Blk.cell (Blk.keeps HS2.out.box hk2' (fun e => by have e : w.heap.size = blk := e; have := HLt.out; omega))]; rfl); clear hst2 hk2' hst3 hk3)
            go_roundg (0 + p')
            case measure => have := HP.out; omega
            case rel =>
              refine ⟨p', L', y :: R, by have := HP.out; omega, rfl, by rw [show (a : Int) + (p' : Int) = (a : Int) + (p : Int) - 1 by have := HP.out; omega], hid ⟨by have h := HLR.out.1; simpa using h, by have h := HLR.out.2.1; have := HP.out; simp at h; omega, ?_⟩, ?_⟩
              · exact ins_step (L' := L') (by have h := HS.out.2; rw [← HLR.out.1] at h; simpa using h) HLR.out.2.2 HV.out
              · exact (HS2.out.step HLt.out (by have h := HSt3.out; simpa only [List.append_assoc, List.cons_append] using h) (HK2.out.trans HK3.out (fun i e => .inl e)))
          · have hle := HLe.out
            rw [decF hv] at hle
            have HF2 := hid (HFin.out (fun h1 => by simpa using hv))
            clear hv HFin
            go_wp2_with (go_at_fn g; refine hle.mono ?_; rintro e w2 ⟨rfl, hst2, hk2'⟩; have HK2 := hid hk2'; have HSt2 := hid hst2; clear hst2 hk2')
            go_roundg (Q.length + 1 - (k + 1))
            case measure => omega
            case rel =>
              refine ⟨k + 1, (L' ++ [y]) ++ x :: R, by omega, by omega, rfl, by rw [show (a : Int) + ((k + 1 : Nat) : Int) = (a : Int) + (k : Int) + 1 by omega], HF2, ?_⟩
              refine HS2.out.step HLt.out ?_ HK2.out
              have h := HSt2.out
              simpa only [List.append_assoc, List.cons_append, List.nil_append] using h
    · have hltz : ¬ (a : Int) + (k : Int) < (b : Int) := by have := HL.out; omega
      have HS2 := hid hS
      have hd1 : ¬ ((a : Int) + (k : Int)) < (b : Int) := by omega
      clear hS
      go_wp2_with fail
      go_end0
      refine ⟨rfl, ⟨S, ?_, HS.out.2, ?_⟩, HS2.out.keep⟩
      · have h := HS.out.1
        rwa [List.take_of_length_le (by omega)] at h
      · have h := HS2.out.st
        rw [List.drop_of_length_le (by omega)] at h
        simpa using h
end
end Go.Proofs.YtkcgchpbjegneaaGreatDoor
