/-
  The arena at api.Order as a map of handles to orders: its contracts, with the slots out of sight.
-/
import Derived.WalkKit
import Derived.Test.YtkcgchpbjegneaaGreatDoorOArena
import Derived.Test.YtkcgchpbjegneaaGreatDoorOArenaPut
namespace Go.Proofs.YtkcgchpbjegneaaGreatDoor
open Go.RowKit
set_option linter.unusedVariables false

/-- an arena at block a, in the blocks F, with the orders M by their handles: n of at most so many -/
def OAr (w : World) (a : Nat) (F : Nat → Prop) (M : Int → Int → Option Ord5) (most n : Nat) : Prop :=
  ∃ A c B d ss fr, OArenaAt w a A c B d ss fr (most : Nat) (n : Nat) ∧ OInv ss fr most ∧ oLive ss = n ∧ (∀ s g, M s g = oView ss s g) ∧ ∀ i, F i ↔ OFp a A B i
/-- M with an order more -/
def withO (M : Int → Int → Option Ord5) (s g : Int) (x : Option Ord5) : Int → Int → Option Ord5 := fun s' g' => if s' = s ∧ g' = g then x else M s' g'
def getO (M : Int → Int → Option Ord5) (s g : Int) : Ord5 := (M s g).getD noO
def errO (M : Int → Int → Option Ord5) (s g : Int) : Int := if (M s g).isSome = true then 0 else 7

section
variable {w w' : World} {a : Nat} {F : Nat → Prop} {M : Int → Int → Option Ord5} {most n : Nat}
theorem OAr.fp (h : OAr w a F M most n) {i : Nat} (hi : F i) : i < w.heap.size := by
  obtain ⟨A, c, B, d, ss, fr, hA, _, _, _, hF⟩ := h
  exact hA.fp ((hF i).1 hi)
theorem OAr.self (h : OAr w a F M most n) : F a := by
  obtain ⟨A, c, B, d, ss, fr, hA, _, _, _, hF⟩ := h
  exact (hF a).2 (.inl rfl)
theorem OAr.keeps {S : Nat → Prop} (h : OAr w a F M most n) (hk : Keeps S w w') (hn : ∀ i, F i → ¬ S i) : OAr w' a F M most n := by
  obtain ⟨A, c, B, d, ss, fr, hA, hI, hL, hM, hF⟩ := h
  exact ⟨A, c, B, d, ss, fr, hA.keeps hk (fun i hi => hn i ((hF i).2 hi)), hI, hL, hM, hF⟩
theorem OAr.below (h : OAr w a F M most n) (hb : Below w.heap.size w w') : OAr w' a F M most n := h.keeps (Keeps.of_below hb (fun _ => False)) (fun _ _ => id)
theorem OAr.le (h : OAr w a F M most n) : n ≤ most := by
  obtain ⟨A, c, B, d, ss, fr, hA, hI, hL, hM, hF⟩ := h
  have h1 := hI.count
  have h2 := hI.cap
  omega
/-- the arena afterwards -/
def OArTo (w w' : World) (a : Nat) (F : Nat → Prop) (M : Int → Int → Option Ord5) (most n : Nat) : Prop :=
  ∃ F', OAr w' a F' M most n ∧ Keeps F w w' ∧ ∀ i, F' i → F i ∨ w.heap.size ≤ i

theorem oar_many (h : OAr w a F M most n) : Calls Tryz.prog 104 #[.pointer (some ⟨a, 0, none⟩)] w fun e w' => e = .returned (.int .i64 n) ∧ w = w' := by
  obtain ⟨A, c, B, d, ss, fr, hA, hI, hL, hM, hF⟩ := h
  exact oarenaMany_any w a A c B d ss fr _ _ hA

theorem oar_get (h : OAr w a F M most n) (s g : Int) : Calls Tryz.prog 103 #[.pointer (some ⟨a, 0, none⟩), .agg #[.int .i64 s, .int .i64 g]] w fun e w' =>
    e = .returned (.tuple #[aggO (getO M s g), errV (errO M s g)]) ∧ Below w.heap.size w w' := by
  obtain ⟨A, c, B, d, ss, fr, hA, hI, hL, hM, hF⟩ := h
  refine (oarenaGet_any w a A c B d ss fr _ _ s g hA).mono ?_
  rintro e w' ⟨rfl, hB⟩
  refine ⟨?_, hB⟩
  unfold getO errO
  rw [hM, oView_get, oView_err]

theorem oar_put (h : OAr w a F M most n) (hm : most ≤ 1000) (x : Ord5) : Calls Tryz.prog 97 #[.pointer (some ⟨a, 0, none⟩), aggO x] w fun e w' =>
    (n = most ∧ e = .returned (.tuple #[.agg #[.int .i64 0, .int .i64 0], errV 12]) ∧ Below w.heap.size w w') ∨
    (n < most ∧ ∃ s g, M s g = none ∧ e = .returned (.tuple #[.agg #[.int .i64 s, .int .i64 g], errV 0]) ∧ OArTo w w' a F (withO M s g (some x)) most (n + 1)) := by
  obtain ⟨A, c, B, d, ss, fr, hA, hI, hL, hM, hF⟩ := h
  have hcap := hI.cap
  have hcnt := hI.count
  by_cases hn : n = most
  · refine (oputFull_any w a A c B d ss fr _ _ x hA (by omega)).mono ?_
    rintro e w' ⟨rfl, hB⟩
    exact .inl ⟨hn, rfl, hB⟩
  · have hw : RowKit.wrap64 ((n : Int) + 1) = ((n + 1 : Nat) : Int) := by unfold RowKit.wrap64; omega
    rcases List.eq_nil_or_concat fr with rfl | ⟨fr0, i, rfl⟩
    · refine (oputNew_any w a A c B d ss _ _ x hA (by omega) (by omega)).mono ?_
      rintro e w' ⟨rfl, A', c', B', d', hA', hK, hf⟩
      rw [hw] at hA'
      refine .inr ⟨by omega, _, _, ?_, rfl, OFp a A' B', ⟨A', c', B', d', _, _, hA', hI.new_ (by omega) x, ?_, ?_, fun i => Iff.rfl⟩, hK.mono (fun i hi => (hF i).2 hi), fun i hi => (hf i hi).imp (fun h => (hF i).2 h) id⟩
      · rw [hM]; unfold oView; simp
      · rw [oLive_append, hL]; rfl
      · intro s g
        rw [oView_append]
        unfold withO
        rw [hM]
        by_cases e1 : s = (ss.length : Nat)
        · subst e1
          by_cases e2 : g = 0
          · subst e2; simp
          · have : oView ss (ss.length : Nat) g = none := by unfold oView; simp
            rw [if_neg (by simp [e2]), this, if_pos rfl, if_neg (by simp; omega)]
        · rw [if_neg (by simp [e1]), if_neg e1]
    · rw [List.concat_eq_append] at hA hI hcnt
      obtain ⟨k, rfl, hk0, _⟩ := hI.free i (by simp)
      obtain ⟨hk, hkf, hI', hL'⟩ := hI.old_ x (ss[k].2.1)
      refine (oputOld_any w a A c B d ss fr0 k _ _ x hA (by omega) hk (by simp at hcnt; omega)).mono ?_
      rintro e w' ⟨rfl, A', c', B', d', hA', hK, hf⟩
      rw [hw] at hA'
      refine .inr ⟨by omega, _, _, ?_, rfl, OFp a A' B', ⟨A', c', B', d', _, _, hA', hI', ?_, ?_, fun i => Iff.rfl⟩, hK.mono (fun i hi => (hF i).2 hi), fun i hi => (hf i hi).imp (fun h => (hF i).2 h) id⟩
      · rw [hM]; exact oView_free hk hkf _
      · rw [hL', hL]
      · intro s g
        rw [oView_set hk]
        unfold withO
        rw [hM]
        by_cases e1 : s = (k : Int)
        · subst e1
          by_cases e2 : g = ss[k].2.1
          · subst e2; simp
          · rw [if_neg (by simp [e2]), oView_free hk hkf, if_pos rfl, if_neg (by simp; omega)]
        · rw [if_neg (by simp [e1]), if_neg e1]

theorem oar_take (h : OAr w a F M most n) (hm : most ≤ 1000) (s g : Int) : Calls Tryz.prog 136 #[.pointer (some ⟨a, 0, none⟩), .agg #[.int .i64 s, .int .i64 g]] w fun e w' =>
    e = .returned (.tuple #[aggO (getO M s g), errV (errO M s g)]) ∧ ((M s g = none ∧ Below w.heap.size w w') ∨ ((M s g).isSome = true ∧ 1 ≤ n ∧ OArTo w w' a F (withO M s g none) most (n - 1))) := by
  obtain ⟨A, c, B, d, ss, fr, hA, hI, hL, hM, hF⟩ := h
  have hcap := hI.cap
  have hcnt := hI.count
  refine (oarenaTake_any w a A c B d ss fr _ _ s g hA (by omega)).mono ?_
  rintro e w' ⟨rfl, hcase⟩
  refine ⟨by unfold getO errO; rw [hM, oView_get, oView_err], ?_⟩
  rcases hcase with ⟨hf, hB⟩ | ⟨hf, A', c', B', d', hA', hK, hfp⟩
  · rw [oView_has] at hf
    refine .inl ⟨?_, hB⟩
    rw [hM]
    cases hv : oView ss s g with
    | none => rfl
    | some v => rw [hv] at hf; cases hf
  · rw [oView_has] at hf
    obtain ⟨x, hx⟩ : ∃ x, oView ss s g = some x := Option.isSome_iff_exists.1 hf
    obtain ⟨k, rfl, hk, h1, h2, h3⟩ := oView_at hx
    obtain ⟨hI', hL'⟩ := hI.take_ hk h1 noO (RowKit.wrap64 (ss[k].2.1 + 1))
    have hw : RowKit.wrap64 ((n : Int) - 1) = ((n - 1 : Nat) : Int) := by unfold RowKit.wrap64; omega
    rw [hw, oTakeS_at hk] at hA'
    refine .inr ⟨by rw [hM]; exact hf, by omega, OFp a A' B', ⟨A', c', B', d', _, _, hA', hI', by omega, ?_, fun i => Iff.rfl⟩, hK.mono (fun i hi => (hF i).2 hi), fun i hi => (hfp i hi).imp (fun h => (hF i).2 h) id⟩
    intro s' g'
    rw [oView_set hk]
    unfold withO
    rw [hM]
    by_cases e1 : s' = (k : Int)
    · subst e1
      rw [if_pos rfl]
      by_cases e2 : g' = g
      · subst e2; simp
      · have : oView ss (k : Nat) g' = none := by
          unfold oView
          have hh : ss[((k : Nat) : Int).toNat]? = some ss[k] := by simp [hk]
          rw [if_pos (by omega), hh]
          simp [h2]
          intro _ e; exact absurd e.symm e2
        rw [if_neg (by simp [e2]), this, if_neg (by simp)]
    · rw [if_neg (by simp [e1]), if_neg e1]
end

theorem oar_new (w : World) (most : Nat) (h1 : 1 ≤ most) (h2 : most ≤ 1000) : Calls Tryz.prog 96 #[.int .i64 most] w fun e w' =>
    Below w.heap.size w w' ∧ ∃ a F, (∀ i, F i → w.heap.size ≤ i) ∧ e = .returned (.tuple #[.pointer (some ⟨a, 0, none⟩), .nilIface]) ∧ OAr w' a F (fun _ _ => none) most 0 := by
  refine (oarenaNew_any (most : Int) w).mono ?_
  rintro e w' ⟨hB, ⟨hbad, _⟩ | ⟨_, a, ha, rfl, hA⟩⟩
  · omega
  · refine ⟨hB, a, OFp a none none, ?_, rfl, none, 0, none, 0, [], [], hA, OInv.empty most, rfl, fun s g => (oView_empty s g).symm, fun i => Iff.rfl⟩
    rintro i (rfl | hi | hi)
    · exact ha
    · cases hi
    · cases hi
end Go.Proofs.YtkcgchpbjegneaaGreatDoor
