/-
  Book.Cancel of a book by its two lists.
  What Book.Add says and leaves, by the two lists. No walk.
-/
import Derived.Test.YtkcgchpbjegneaaGreatDoorBookCancel1
import Derived.Test.YtkcgchpbjegneaaGreatDoorBookCancel2
import Derived.Test.YtkcgchpbjegneaaGreatDoorBookAddL
namespace Go.Proofs.YtkcgchpbjegneaaGreatDoor
open Go.RowKit
set_option linter.unusedVariables false

section
variable {w w' : World} {b a r : Nat} {F : Nat → Prop} {M : Int → Int → Option Ord5} {n : Nat} {f : Int → Option Value} {H : Int → HS} {s : Int}
theorem remI_other (S : BookS M n f H) {x : HO} {s' : Int} (hs : Is12 s) (hs' : Is12 s') (hx : x ∈ (H s).all) (hne : s' ≠ s) : remI (H s').L x.2.id = (H s').L := by
  rw [← S.filter_id (mem_allH hs hx) hs', S.filter_other hs hs' hx hne]
  rfl
theorem less_to {G : Nat → Prop} (S : BookS M n f H) {x : HO} (hs : Is12 s) (hx : x ∈ (H s).all) (hG : ∀ i, G i ↔ BFp b r F H i) (h : LessDone w w' b a r F n H s x.2.id) : BookTo w w' b G (remI (H 1).L x.2.id) (remI (H 2).L x.2.id) := by
  obtain ⟨F', M', f', H', reg', hM, hS, hB, hL, hO⟩ := h
  have key : ∀ s', Is12 s' → remI (H s').L x.2.id = (H' s').L := by
    intro s' hs'
    by_cases e : s' = s
    · subst e; exact hL.symm
    · rw [hO s' e]; exact remI_other S hs hs' hx e
  refine ⟨BFp b r F' H', ⟨a, F', M', n - 1, r, f', H', reg', hM, hS, fun i => Iff.rfl, key 1 (.inl rfl), key 2 (.inr rfl)⟩, hB.1.mono (fun i hi => (hG i).2 hi), fun i hi => (hB.2 i hi).imp (fun h => (hG i).2 h) id⟩
theorem getI_find (S : BookS M n f H) {x : HO} (hx : x ∈ allH H) : getI ((H 1).L ++ (H 2).L) x.2.id = some x.2 := by
  have e : (H 1).L ++ (H 2).L = ordL (allH H) := (ordL_append _ _).symm
  rw [e]
  unfold getI
  cases hf : (ordL (allH H)).find? (fun o => o.id == x.2.id) with
  | none =>
    rw [List.find?_eq_none] at hf
    have := hf x.2 (List.mem_map.2 ⟨x, hx, rfl⟩)
    simp at this
  | some o =>
    have h1 := List.mem_of_find?_eq_some hf
    obtain ⟨y, hy, rfl⟩ := List.mem_map.1 h1
    have h2 := List.find?_some hf
    have h3 : y.2.id = x.2.id := by simpa using h2
    rw [S.same_id hy hx h3]
theorem getI_none (S : BookS M n f H) {id : Int} (h : f id = none) : getI ((H 1).L ++ (H 2).L) id = none := by
  have e : (H 1).L ++ (H 2).L = ordL (allH H) := (ordL_append _ _).symm
  rw [e]
  unfold getI
  rw [List.find?_eq_none]
  intro o ho
  obtain ⟨y, hy, rfl⟩ := List.mem_map.1 ho
  have := S.none_.1 h y hy
  simpa using this
end

/-- what Cancel tells and leaves -/
def CancelPost (w : World) (b : Nat) (G : Nat → Prop) (L1 L2 : List Ord5) (id : Int) (e : Ending) (w' : World) : Prop :=
  (getI (L1 ++ L2) id = none ∧ e = .returned (.tuple #[.agg #[.int .i64 0, .int .i64 0, .int .i64 0, .int .i64 0, .int .i64 0], errV 7]) ∧ Below w.heap.size w w') ∨
  (∃ o, getI (L1 ++ L2) id = some o ∧ e = .returned (.tuple #[aggO o, errV 0]) ∧ BookTo w w' b G (remI L1 id) (remI L2 id))
theorem bookCancel_any (w : World) (b : Nat) (G : Nat → Prop) (L1 L2 : List Ord5) (h : BookAt w b G L1 L2) (id : Int) :
    Calls Tryz.prog 101 #[.pointer (some ⟨b, 0, none⟩), .int .i64 id] w (CancelPost w b G L1 L2 id) := by
  obtain ⟨a, F, M, n, r, f, H, reg, hM, hS, hG, rfl, rfl⟩ := h
  have hn := hM.ar.le
  cases hf : f id with
  | none =>
    refine (cancel_missing w b a F M n r f H reg hM id hf).mono ?_
    rintro e w' ⟨rfl, hb⟩
    exact .inl ⟨getI_none hS hf, rfl, hb⟩
  | some v =>
    obtain ⟨x, hx, rfl⟩ := hS.hk id v hf
    obtain ⟨hs, hxs⟩ := hS.side_mem hx
    have fin : ∀ s, Is12 s → x ∈ (H s).all → ∀ e w', (e = .returned (.tuple #[aggO x.2, errV 0]) ∧ LessDone w w' b a r F n H s x.2.id) → CancelPost w b G (H 1).L (H 2).L x.2.id e w' := by
      rintro s hs hxs e w' ⟨rfl, hl⟩
      exact .inr ⟨x.2, getI_find hS hx, rfl, less_to hS hs hxs hG hl⟩
    generalize x.2.side = s at hs hxs
    rcases hs with rfl | rfl
    · rcases hS.where_ Is12_1 hxs with ⟨hk, _⟩ | ⟨hk, k, hkl, hxk, hpk⟩
      · exact (cancel_1M w b a F M n r f H reg hM hS x hxs hk hn).mono (fin 1 Is12_1 hxs)
      · exact (cancel_1Q w b a F M n r f H reg hM hS x hxs hk hn k hkl hxk hpk).mono (fin 1 Is12_1 hxs)
    · rcases hS.where_ Is12_2 hxs with ⟨hk, _⟩ | ⟨hk, k, hkl, hxk, hpk⟩
      · exact (cancel_2M w b a F M n r f H reg hM hS x hxs hk hn).mono (fin 2 Is12_2 hxs)
      · exact (cancel_2Q w b a F M n r f H reg hM hS x hxs hk hn k hkl hxk hpk).mono (fin 2 Is12_2 hxs)
end Go.Proofs.YtkcgchpbjegneaaGreatDoor
namespace Go.Proofs.YtkcgchpbjegneaaGreatDoor
open Go.RowKit
set_option linter.unusedVariables false

/-- what Add says -/
def addE (L1 L2 : List Ord5) (o : Ord5) : Int :=
  if argB o = false then 1 else if rngB o = false then 2 else if (getI (L1 ++ L2) o.id).isSome = true then 9 else if L1.length + L2.length = 100 then 12 else 0
/-- a side's list behind it -/
def addL (s : Int) (L : List Ord5) (o : Ord5) : List Ord5 := if o.side = s then insO s L (pricedO o) else L
/-- what Add tells and leaves -/
def AddPost (w : World) (b : Nat) (G : Nat → Prop) (L1 L2 : List Ord5) (o : Ord5) (e : Ending) (w' : World) : Prop :=
  (addE L1 L2 o ≠ 0 ∧ e = .returned (errV (addE L1 L2 o)) ∧ Below w.heap.size w w') ∨
  (addE L1 L2 o = 0 ∧ e = .returned (errV 0) ∧ BookTo w w' b G (addL 1 L1 o) (addL 2 L2 o))

theorem add_to {w w' : World} {b a r : Nat} {F G : Nat → Prop} {n : Nat} {H : Int → HS} {o : Ord5} (hs : Is12 o.side) (hG : ∀ i, G i ↔ BFp b r F H i) (h : AddDone w w' b a r F n H (pricedO o)) : BookTo w w' b G (addL 1 (H 1).L o) (addL 2 (H 2).L o) := by
  obtain ⟨F', M', f', H', reg', hM, hS, hB, hL, hO⟩ := h
  have es : (pricedO o).side = o.side := rfl
  rw [es] at hL hO
  have key : ∀ s', Is12 s' → addL s' (H s').L o = (H' s').L := by
    intro s' hs'
    unfold addL
    by_cases e : o.side = s'
    · rw [if_pos e]; rw [e] at hL; exact hL.symm
    · rw [if_neg e, hO s' (fun e' => e e'.symm)]
  refine ⟨BFp b r F' H', ⟨a, F', M', n + 1, r, f', H', reg', hM, hS, fun i => Iff.rfl, key 1 (.inl rfl), key 2 (.inr rfl)⟩, hB.1.mono (fun i hi => (hG i).2 hi), fun i hi => (hB.2 i hi).imp (fun h => (hG i).2 h) id⟩


/-- the contract of Add, for walks that are built ahead of it -/
def AddSaid : Prop := ∀ (w : World) (b : Nat) (G : Nat → Prop) (L1 L2 : List Ord5), BookAt w b G L1 L2 → ∀ o : Ord5, FitO o → Calls Tryz.prog 42 #[.pointer (some ⟨b, 0, none⟩), aggO o] w (AddPost w b G L1 L2 o)
theorem step_fresh {w w1 w2 : World} {G G' : Nat → Prop} (hB : Below w.heap.size w w1) (hG : ∀ i, G i → w.heap.size ≤ i) (h : BStep w1 w2 G G') : Below w.heap.size w w2 ∧ ∀ i, G' i → w.heap.size ≤ i :=
  ⟨hB.trans (h.1.below hG hB.size), fun i hi => (h.2 i hi).elim (hG i) (fun h => Nat.le_trans hB.size h)⟩
/-- the two lists behind an Add -/
def addS (L1 L2 : List Ord5) (o : Ord5) : List Ord5 × List Ord5 := if addE L1 L2 o = 0 then (addL 1 L1 o, addL 2 L2 o) else (L1, L2)
theorem BookTo.of_below {w w' : World} {b : Nat} {G : Nat → Prop} {L1 L2 : List Ord5} (h : BookAt w b G L1 L2) (hb : Below w.heap.size w w') : BookTo w w' b G L1 L2 := ⟨G, h.below hb, BStep.of_below hb⟩
theorem AddPost.to {w w' : World} {b : Nat} {G : Nat → Prop} {L1 L2 : List Ord5} {o : Ord5} {e : Ending} (h : BookAt w b G L1 L2) (hp : AddPost w b G L1 L2 o e w') : e = .returned (errV (addE L1 L2 o)) ∧ BookTo w w' b G (addS L1 L2 o).1 (addS L1 L2 o).2 := by
  unfold addS
  rcases hp with ⟨h0, h1, h2⟩ | ⟨h0, h1, h2⟩
  · rw [if_neg h0]; exact ⟨h1, BookTo.of_below h h2⟩
  · rw [if_pos h0, h0]; exact ⟨h1, h2⟩
end Go.Proofs.YtkcgchpbjegneaaGreatDoor
