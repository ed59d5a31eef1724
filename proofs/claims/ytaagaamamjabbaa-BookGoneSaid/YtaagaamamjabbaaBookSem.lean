/-
  What a book's lists, map and arena say of the same orders; an order more, an order less. No walk.
-/
import Derived.Test.YtaagaamamjabbaaBookAt
namespace Go.Proofs.Ytaagaamamjabbaa
open Go.RowKit
set_option linter.unusedVariables false

def placeV (x : HO) : Value := .agg #[.int .i64 x.1.1, .int .i64 x.1.2, .int .i64 x.2.side, .int .i64 x.2.price, .bool (x.2.kind == 2)]
/-- an order as it may lie -/
def OkO (o : Ord5) : Prop := FitO o ∧ 1 ≤ o.id ∧ (1 ≤ o.price ∧ o.price ≤ 1000000) ∧ (1 ≤ o.qty ∧ o.qty ≤ 1000000)
def allH (H : Int → HS) : List HO := (H 1).all ++ (H 2).all

structure BookS (M : Int → Int → Option Ord5) (n : Nat) (f : Int → Option Value) (H : Int → HS) : Prop where
  is : ∀ s, Is12 s → HalfIs s (H s).ms (H s).qs
  ne : ∀ s, Is12 s → ∀ q ∈ (H s).qs, q.os ≠ []
  hM : ∀ x ∈ allH H, M x.1.1 x.1.2 = some x.2
  hf : ∀ x ∈ allH H, f x.2.id = some (placeV x)
  hk : ∀ k v, f k = some v → ∃ x ∈ allH H, x.2.id = k
  ids : ((allH H).map fun x => x.2.id).Nodup
  cnt : n = (allH H).length
  ok : ∀ x ∈ allH H, OkO x.2

section
variable {M : Int → Int → Option Ord5} {n : Nat} {f : Int → Option Value} {H : Int → HS}
theorem nodup_map_inj {α β : Type} {g : α → β} : ∀ {l : List α}, (l.map g).Nodup → ∀ {x y : α}, x ∈ l → y ∈ l → g x = g y → x = y
  | [], _, x, y, hx, _, _ => by simp at hx
  | a :: l, h, x, y, hx, hy, e => by
    rw [List.map_cons, List.nodup_cons] at h
    rcases List.mem_cons.1 hx with rfl | hx'
    · rcases List.mem_cons.1 hy with rfl | hy'
      · rfl
      · exact absurd (List.mem_map.2 ⟨y, hy', e.symm⟩) h.1
    · rcases List.mem_cons.1 hy with rfl | hy'
      · exact absurd (List.mem_map.2 ⟨x, hx', e⟩) h.1
      · exact nodup_map_inj h.2 hx' hy' e
theorem BookS.same_id (S : BookS M n f H) {x y : HO} (hx : x ∈ allH H) (hy : y ∈ allH H) (e : x.2.id = y.2.id) : x = y := nodup_map_inj (g := fun x : HO => x.2.id) S.ids hx hy e
theorem BookS.same_h (S : BookS M n f H) {x y : HO} (hx : x ∈ allH H) (hy : y ∈ allH H) (e : x.1 = y.1) : x = y := by
  have h1 := S.hM x hx
  have h2 := S.hM y hy
  rw [e, h2] at h1
  exact S.same_id hx hy (by rw [Option.some.inj h1])
theorem mem_allH {s : Int} (hs : Is12 s) {x : HO} (hx : x ∈ (H s).all) : x ∈ allH H := by
  rcases hs with rfl | rfl
  · exact List.mem_append_left _ hx
  · exact List.mem_append_right _ hx
theorem BookS.none_ (S : BookS M n f H) {k : Int} : f k = none ↔ ∀ x ∈ allH H, x.2.id ≠ k := by
  constructor
  · intro h x hx e
    have := S.hf x hx
    rw [e, h] at this
    cases this
  · intro h
    cases e : f k with
    | none => rfl
    | some v =>
      obtain ⟨x, hx, h2⟩ := S.hk k v e
      exact absurd h2 (h x hx)
theorem BookS.side_of (S : BookS M n f H) {s : Int} (hs : Is12 s) {x : HO} (hx : x ∈ (H s).all) : x.2.side = s := by
  rcases List.mem_append.1 hx with h | h
  · exact ((S.is s hs).mkt x h).2
  · obtain ⟨q, hq, hxq⟩ := List.mem_flatMap.1 h
    exact ((S.is s hs).qk q hq x hxq).2.1
theorem BookS.side_mem (S : BookS M n f H) {x : HO} (hx : x ∈ allH H) : Is12 x.2.side ∧ x ∈ (H x.2.side).all := by
  rcases List.mem_append.1 hx with h | h
  · rw [S.side_of (.inl rfl) h]; exact ⟨.inl rfl, h⟩
  · rw [S.side_of (.inr rfl) h]; exact ⟨.inr rfl, h⟩

theorem BookS.add (S : BookS M n f H) {s : Int} (hs : Is12 s) {x : HO} {h' : HS} (hp : h'.all.Perm (x :: (H s).all)) (hi : HalfIs s h'.ms h'.qs) (hne : ∀ q ∈ h'.qs, q.os ≠ []) (hM : M x.1.1 x.1.2 = none) (hf : f x.2.id = none) (hok : OkO x.2) :
    BookS (withO M x.1.1 x.1.2 (some x.2)) (n + 1) (updI f x.2.id (some (placeV x))) (upH H s h') := by
  have hperm : (allH (upH H s h')).Perm (x :: allH H) := by
    unfold allH
    rcases hs with rfl | rfl
    · rw [upH_self, upH_other (by decide)]
      exact hp.append_right _
    · rw [upH_self, upH_other (by decide)]
      exact (hp.append_left _).trans List.perm_middle
  have hno := S.none_.1 hf
  have hnM : ∀ y ∈ allH H, ¬ (y.1.1 = x.1.1 ∧ y.1.2 = x.1.2) := by
    rintro y hy ⟨e1, e2⟩
    have := S.hM y hy
    rw [e1, e2, hM] at this
    cases this
  refine ⟨fun s' hs' => ?_, fun s' hs' => ?_, fun y hy => ?_, fun y hy => ?_, fun k v hv => ?_, ?_, ?_, fun y hy => ?_⟩
  · by_cases e : s' = s
    · subst e; rw [upH_self]; exact hi
    · rw [upH_other e]; exact S.is s' hs'
  · by_cases e : s' = s
    · subst e; rw [upH_self]; exact hne
    · rw [upH_other e]; exact S.ne s' hs'
  · rcases List.mem_cons.1 (hperm.mem_iff.1 hy) with rfl | hy
    · exact if_pos ⟨rfl, rfl⟩
    · unfold withO
      rw [if_neg (hnM y hy)]
      exact S.hM y hy
  · rcases List.mem_cons.1 (hperm.mem_iff.1 hy) with rfl | hy
    · exact if_pos rfl
    · unfold updI
      rw [if_neg (hno y hy)]
      exact S.hf y hy
  · unfold updI at hv
    by_cases e : k = x.2.id
    · exact ⟨x, hperm.mem_iff.2 (by simp), e.symm⟩
    · rw [if_neg e] at hv
      obtain ⟨y, hy, h2⟩ := S.hk k v hv
      exact ⟨y, hperm.mem_iff.2 (List.mem_cons_of_mem _ hy), h2⟩
  · rw [(hperm.map _).nodup_iff, List.map_cons, List.nodup_cons]
    refine ⟨fun hx => ?_, S.ids⟩
    obtain ⟨y, hy, e⟩ := List.mem_map.1 hx
    exact hno y hy e
  · rw [hperm.length_eq, List.length_cons, S.cnt]
  · rcases List.mem_cons.1 (hperm.mem_iff.1 hy) with rfl | hy
    · exact hok
    · exact S.ok y hy

def notH (h : Int × Int) (y : HO) : Bool := !isH h y.1
theorem notH_iff {h : Int × Int} {y : HO} : notH h y = true ↔ y.1 ≠ h := by
  unfold notH
  rw [Bool.not_eq_true', ← Bool.not_eq_true, Ne, ← isH_eq]
/-- the handle's filter is the number's -/
theorem BookS.filter_id (S : BookS M n f H) {x : HO} (hx : x ∈ allH H) {s : Int} (hs : Is12 s) : ordL ((H s).all.filter (notH x.1)) = remI (H s).L x.2.id := by
  unfold HS.L remI ordL
  rw [List.filter_map]
  congr 1
  apply List.filter_congr
  intro y hy
  have hy' := mem_allH hs hy
  rw [Bool.eq_iff_iff, notH_iff]
  simp only [Function.comp, Bool.not_eq_true', beq_eq_false_iff_ne]
  constructor
  · intro h e; exact h (by rw [S.same_id hy' hx e])
  · intro h e; exact h (by rw [S.same_h hy' hx e])
theorem BookS.filter_other (S : BookS M n f H) {x : HO} {s s' : Int} (hs : Is12 s) (hs' : Is12 s') (hx : x ∈ (H s).all) (hne : s' ≠ s) : (H s').all.filter (notH x.1) = (H s').all := by
  rw [List.filter_eq_self]
  intro y hy
  rw [notH_iff]
  intro e
  have := S.same_h (mem_allH hs' hy) (mem_allH hs hx) e
  subst this
  exact hne ((S.side_of hs' hy).symm.trans (S.side_of hs hx))
theorem filter_one {l : List HO} {x : HO} (hx : x ∈ l) (h : ∀ y ∈ l, y.1 = x.1 → y = x) (hn : l.Nodup) : (l.filter (notH x.1)).length + 1 = l.length := by
  obtain ⟨l1, l2, rfl⟩ := List.append_of_mem hx
  rw [List.nodup_append] at hn
  have h2 := List.nodup_cons.1 hn.2.1
  have f1 : l1.filter (notH x.1) = l1 := by
    rw [List.filter_eq_self]
    intro y hy
    rw [notH_iff]
    intro e
    exact hn.2.2 y hy x (by simp) (h y (by simp [hy]) e)
  have f2 : l2.filter (notH x.1) = l2 := by
    rw [List.filter_eq_self]
    intro y hy
    rw [notH_iff]
    intro e
    exact h2.1 (by rw [← h y (by simp [hy]) e]; exact hy)
  have f3 : notH x.1 x = false := by
    rw [← Bool.not_eq_true, notH_iff]; simp
  rw [List.filter_append, List.filter_cons_of_neg (by simp [f3]), f1, f2]
  simp
  omega

theorem BookS.remove (S : BookS M n f H) {s : Int} (hs : Is12 s) {x : HO} (hx : x ∈ (H s).all) {h' : HS} (ha : h'.all = (H s).all.filter (notH x.1)) (hi : HalfIs s h'.ms h'.qs) (hne : ∀ q ∈ h'.qs, q.os ≠ []) :
    BookS (withO M x.1.1 x.1.2 none) (n - 1) (updI f x.2.id none) (upH H s h') := by
  have hxa := mem_allH hs hx
  have hall : allH (upH H s h') = (allH H).filter (notH x.1) := by
    unfold allH
    rw [List.filter_append]
    rcases hs with rfl | rfl
    · rw [upH_self, upH_other (by decide), ha, S.filter_other (.inl rfl) (.inr rfl) hx (by decide)]
    · rw [upH_self, upH_other (by decide), ha, S.filter_other (.inr rfl) (.inl rfl) hx (by decide)]
  have hmem : ∀ y, y ∈ allH (upH H s h') → y ∈ allH H ∧ y.1 ≠ x.1 := by
    intro y hy
    rw [hall, List.mem_filter, notH_iff] at hy
    exact hy
  have hnd : (allH H).Nodup := List.Pairwise.imp (fun h e => h (by rw [e])) (List.pairwise_map.1 S.ids)
  refine ⟨fun s' hs' => ?_, fun s' hs' => ?_, fun y hy => ?_, fun y hy => ?_, fun k v hv => ?_, ?_, ?_, fun y hy => ?_⟩
  · by_cases e : s' = s
    · subst e; rw [upH_self]; exact hi
    · rw [upH_other e]; exact S.is s' hs'
  · by_cases e : s' = s
    · subst e; rw [upH_self]; exact hne
    · rw [upH_other e]; exact S.ne s' hs'
  · obtain ⟨h1, h2⟩ := hmem y hy
    unfold withO
    rw [if_neg (fun e => h2 (Prod.ext e.1 e.2))]
    exact S.hM y h1
  · obtain ⟨h1, h2⟩ := hmem y hy
    unfold updI
    rw [if_neg (fun e => h2 (by rw [S.same_id h1 hxa e]))]
    exact S.hf y h1
  · unfold updI at hv
    by_cases e : k = x.2.id
    · rw [if_pos e] at hv; cases hv
    · rw [if_neg e] at hv
      obtain ⟨y, hy, h2⟩ := S.hk k v hv
      refine ⟨y, ?_, h2⟩
      rw [hall, List.mem_filter, notH_iff]
      exact ⟨hy, fun e2 => e (by rw [← h2, S.same_h hy hxa e2])⟩
  · rw [hall]
    exact List.Nodup.sublist (List.Sublist.map _ List.filter_sublist) S.ids
  · rw [hall]
    have := filter_one hxa (fun y hy e => S.same_h hy hxa e) hnd
    have := S.cnt
    omega
  · exact S.ok y (hmem y hy).1
end

/-- a book at block b, in the blocks G: the orders of each side, the best first -/
def BookAt (w : World) (b : Nat) (G : Nat → Prop) (L1 L2 : List Ord5) : Prop :=
  ∃ a F M n r f H reg, BookM w b a F M n r f H reg ∧ BookS M n f H ∧ (∀ i, G i ↔ BFp b r F H i) ∧ L1 = (H 1).L ∧ L2 = (H 2).L
/-- the book afterwards -/
def BookTo (w w' : World) (b : Nat) (G : Nat → Prop) (L1 L2 : List Ord5) : Prop := ∃ G', BookAt w' b G' L1 L2 ∧ BStep w w' G G'
def sideL (s : Int) (L1 L2 : List Ord5) : List Ord5 := if s = 1 then L1 else L2

section
variable {w w' : World} {b : Nat} {G : Nat → Prop} {L1 L2 : List Ord5}
theorem BookAt.fp (h : BookAt w b G L1 L2) {i : Nat} (hi : G i) : i < w.heap.size := by
  obtain ⟨a, F, M, n, r, f, H, reg, hM, hS, hG, _⟩ := h
  exact hM.fp ((hG i).1 hi)
theorem BookAt.self (h : BookAt w b G L1 L2) : G b := by
  obtain ⟨a, F, M, n, r, f, H, reg, hM, hS, hG, _⟩ := h
  exact (hG b).2 (.inl rfl)
theorem BookAt.keeps {S : Nat → Prop} (h : BookAt w b G L1 L2) (hk : Keeps S w w') (hn : ∀ i, G i → ¬ S i) : BookAt w' b G L1 L2 := by
  obtain ⟨a, F, M, n, r, f, H, reg, hM, hS, hG, hL⟩ := h
  exact ⟨a, F, M, n, r, f, H, reg, hM.keeps hk (fun i hi => hn i ((hG i).2 hi)), hS, hG, hL⟩
theorem BookAt.below (h : BookAt w b G L1 L2) (hb : Below w.heap.size w w') : BookAt w' b G L1 L2 := h.keeps (Keeps.of_below hb (fun _ => False)) (fun _ _ => id)
/-- what always holds of the lists -/
structure ListsOk (L1 L2 : List Ord5) : Prop where
  ids : ((L1 ++ L2).map (·.id)).Nodup
  cnt : (L1 ++ L2).length ≤ 100
  ok : ∀ o ∈ L1 ++ L2, OkO o
  s1 : ∀ o ∈ L1, o.side = 1
  s2 : ∀ o ∈ L2, o.side = 2
theorem ordL_map_id (l : List HO) : (ordL l).map (·.id) = l.map fun x => x.2.id := by simp [ordL]
theorem BookAt.lists (h : BookAt w b G L1 L2) : ListsOk L1 L2 := by
  obtain ⟨a, F, M, n, r, f, H, reg, hM, hS, hG, rfl, rfl⟩ := h
  have e : (H 1).L ++ (H 2).L = ordL (allH H) := (ordL_append _ _).symm
  refine ⟨?_, ?_, ?_, ?_, ?_⟩
  · rw [e, ordL_map_id]; exact hS.ids
  · rw [e]
    have h1 := hS.cnt
    have h2 := hM.ar.le
    unfold ordL
    rw [List.length_map]
    omega
  · rw [e]
    intro o ho
    obtain ⟨x, hx, rfl⟩ := List.mem_map.1 ho
    exact hS.ok x hx
  · intro o ho
    obtain ⟨x, hx, rfl⟩ := List.mem_map.1 ho
    exact hS.side_of (.inl rfl) hx
  · intro o ho
    obtain ⟨x, hx, rfl⟩ := List.mem_map.1 ho
    exact hS.side_of (.inr rfl) hx
end
end Go.Proofs.Ytaagaamamjabbaa
