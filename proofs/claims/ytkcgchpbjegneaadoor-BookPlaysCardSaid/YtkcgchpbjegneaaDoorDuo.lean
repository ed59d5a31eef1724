/-
  A book and the document's, side by side in memory: what one call of either makes of both. No walk.
-/
import Derived.Test.YtkcgchpbjegneaaDoorSameBooks
import Derived.Test.YtkcgchpbjegneaaDoorBookAdd
namespace Go.Proofs.YtkcgchpbjegneaaDoor
open Go.RowKit
set_option linter.unusedVariables false

/-- both books, and a block x besides, all newer than w0 -/
structure Duo (w0 w : World) (b B : Nat) (G : Nat → Prop) (cs : Array Value) (A : Option Addr) (X : Nat) (tx : TypeId) (xs : Array Value) (L L1 L2 : List Ord5) : Prop where
  book : BookAt w b G L1 L2
  ref : RefB w B 28 cs 0 A L
  box : Blk w X tx xs
  bel : Below w0.heap.size w0 w
  gb : ∀ i, G i → w0.heap.size ≤ i
  bb : w0.heap.size ≤ B
  ab : ∀ g, blkOf A = some g → w0.heap.size ≤ g
  ap : ¬ G B
  aa : ∀ g, blkOf A = some g → ¬ G g
  xg : ¬ G X
  xb : X ≠ B
  xa : blkOf A ≠ some X
section
variable {w0 w w' : World} {b B X : Nat} {G : Nat → Prop} {cs xs : Array Value} {A : Option Addr} {tx : TypeId} {L L1 L2 : List Ord5}
theorem Duo.below (h : Duo w0 w b B G cs A X tx xs L L1 L2) (hb : Below w.heap.size w w') : Duo w0 w' b B G cs A X tx xs L L1 L2 :=
  ⟨h.book.below hb, h.ref.below hb, Blk.keep h.box hb, h.bel.trans (hb.mono h.bel.size), h.gb, h.bb, h.ab, h.ap, h.aa, h.xg, h.xb, h.xa⟩
theorem Duo.bookTo (h : Duo w0 w b B G cs A X tx xs L L1 L2) {M1 M2 : List Ord5} (ht : BookTo w w' b G M1 M2) : ∃ G', Duo w0 w' b B G' cs A X tx xs L M1 M2 := by
  obtain ⟨G', h1, hk, hg⟩ := ht
  have hs := h.bel.size
  have hB := h.ref.blt
  have hX := Blk.lt h.box
  refine ⟨G', h1, h.ref.keeps hk h.ap h.aa, Blk.keeps h.box hk h.xg, h.bel.trans (hk.below h.gb h.bel.size), fun i hi => ?_, h.bb, h.ab, fun e => ?_, fun g hA e => ?_, fun e => ?_, h.xb, h.xa⟩
  · rcases hg i hi with h2 | h2
    · exact h.gb i h2
    · omega
  · rcases hg B e with h2 | h2
    · exact h.ap h2
    · omega
  · have h3 := h.ref.lt g hA
    rcases hg g e with h2 | h2
    · exact h.aa g hA h2
    · omega
  · rcases hg X e with h2 | h2
    · exact h.xg h2
    · omega
theorem Duo.refTo (h : Duo w0 w b B G cs A X tx xs L L1 L2) {M : List Ord5} (ht : RefTo w w' B 28 cs 0 A M) : ∃ cs' A', Duo w0 w' b B G cs' A' X tx xs M L1 L2 := by
  obtain ⟨A', c', h1, hk, hg⟩ := ht
  have hs := h.bel.size
  have hX := Blk.lt h.box
  refine ⟨_, A', h.book.keeps hk (fun i hi e => h.ap (e ▸ hi)), h1, Blk.keeps h.box hk h.xb, h.bel.trans (hk.below (fun i e => e ▸ h.bb) h.bel.size), h.gb, h.bb, fun g hA => ?_, h.ap, fun g hA e => ?_, h.xg, h.xb, fun e => ?_⟩
  · rcases hg g hA with h2 | h2
    · exact h.ab g h2
    · omega
  · rcases hg g hA with h2 | h2
    · exact h.aa g h2 e
    · have := h.book.fp e; omega
  · rcases hg X e with h2 | h2
    · exact h.xa h2
    · omega

/-! ### calls -/
def baddL (s : Int) (L1 L2 L : List Ord5) (o : Ord5) : List Ord5 := if addE L1 L2 o = 0 then addL s L o else L
theorem duo_add (h : Duo w0 w b B G cs A X tx xs L L1 L2) {o : Ord5} (hf : FitO o) :
    Calls Tryd.prog 6 #[.pointer (some ⟨b, 0, none⟩), aggO o] w fun e w' => e = .returned (errV (addE L1 L2 o)) ∧ ∃ G', Duo w0 w' b B G' cs A X tx xs L (baddL 1 L1 L2 L1 o) (baddL 2 L1 L2 L2 o) := by
  refine (bookAdd_any w b G L1 L2 h.book o hf).mono ?_
  rintro e w' (⟨h1, rfl, hb⟩ | ⟨h1, rfl, ht⟩)
  · refine ⟨rfl, G, ?_⟩
    unfold baddL
    rw [if_neg h1, if_neg h1]
    exact h.below hb
  · refine ⟨by rw [h1], ?_⟩
    unfold baddL
    rw [if_pos h1, if_pos h1]
    exact h.bookTo ht
theorem duo_radd (h : Duo w0 w b B G cs A X tx xs L L1 L2) (hn : L.length ≤ 100000) (o : Ord5) :
    Calls Tryd.prog 7 #[.pointer (some ⟨B, 0, none⟩), aggO o] w fun e w' => e = .returned (.int .i64 (raddE L o)) ∧ ∃ cs' A', Duo w0 w' b B G cs' A' X tx xs (raddL L o) L1 L2 := by
  refine (radd_any w B _ cs 0 A L h.ref hn o).mono ?_
  rintro e w' ⟨rfl, ht⟩
  exact ⟨rfl, h.refTo ht⟩
def bcanE (L1 L2 : List Ord5) (id : Int) : Int := if (getI (L1 ++ L2) id).isSome = true then 0 else 7
def bcanO (L1 L2 : List Ord5) (id : Int) : Ord5 := (getI (L1 ++ L2) id).getD noO
theorem remI_none {L : List Ord5} {id : Int} (h : ∀ o ∈ L, o.id ≠ id) : remI L id = L := List.filter_eq_self.2 (fun o ho => by simpa using h o ho)
theorem duo_cancel (h : Duo w0 w b B G cs A X tx xs L L1 L2) (id : Int) :
    Calls Tryd.prog 9 #[.pointer (some ⟨b, 0, none⟩), .int .i64 id] w fun e w' => e = .returned (.tuple #[aggO (bcanO L1 L2 id), errV (bcanE L1 L2 id)]) ∧ ∃ G', Duo w0 w' b B G' cs A X tx xs L (remI L1 id) (remI L2 id) := by
  refine (bookCancel_any w b G L1 L2 h.book id).mono ?_
  rintro e w' (⟨h1, rfl, hb⟩ | ⟨o, h1, rfl, ht⟩)
  · have h2 := getI_no.1 h1
    rw [remI_none (fun o ho => h2 o (List.mem_append.2 (.inl ho))), remI_none (fun o ho => h2 o (List.mem_append.2 (.inr ho)))]
    refine ⟨?_, G, h.below hb⟩
    unfold bcanO bcanE
    rw [h1]
    rfl
  · refine ⟨?_, h.bookTo ht⟩
    unfold bcanO bcanE
    rw [h1]
    rfl
theorem duo_rcancel (h : Duo w0 w b B G cs A X tx xs L L1 L2) (hn : L.length ≤ 100000) (id : Int) :
    Calls Tryd.prog 8 #[.pointer (some ⟨B, 0, none⟩), .int .i64 id] w fun e w' => e = .returned (.tuple #[aggO (roO L id), .int .i64 (roE L id)]) ∧ ∃ cs' A', Duo w0 w' b B G cs' A' X tx xs (rcanL L id) L1 L2 := by
  refine (rcancel_any w B _ cs 0 A L h.ref hn id).mono ?_
  rintro e w' ⟨rfl, ht⟩
  exact ⟨rfl, h.refTo ht⟩
def bcutL (L1 L2 L : List Ord5) (id n : Int) : List Ord5 := match getI (L1 ++ L2) id with
  | none => L
  | some o => if 1 ≤ n ∧ n ≤ o.qty then cutS L o n else L
theorem duo_cut (h : Duo w0 w b B G cs A X tx xs L L1 L2) (id : Int) {n : Int} (hn : Fit64 n) :
    Calls Tryd.prog 10 #[.pointer (some ⟨b, 0, none⟩), .int .i64 id, .int .i64 n] w fun e w' => e = .returned (errV (cutE L1 L2 id n)) ∧ ∃ G', Duo w0 w' b B G' cs A X tx xs L (bcutL L1 L2 L1 id n) (bcutL L1 L2 L2 id n) := by
  refine (bookCut_any w b G L1 L2 h.book id n hn).mono ?_
  rintro e w' (⟨h1, rfl, hb⟩ | ⟨o, h1, h2, h3, rfl, ht⟩)
  · refine ⟨rfl, G, ?_⟩
    have e : ∀ K, bcutL L1 L2 K id n = K := fun K => by
      unfold bcutL
      unfold cutE at h1
      cases hg : getI (L1 ++ L2) id with
      | none => rfl
      | some o =>
        rw [hg] at h1
        dsimp only at h1 ⊢
        rw [if_neg]
        rintro ⟨h4, h5⟩
        exact h1 (if_neg (by omega))
    rw [e, e]
    exact h.below hb
  · have e : ∀ K, bcutL L1 L2 K id n = cutS K o n := fun K => by
      unfold bcutL
      rw [h1]
      exact if_pos ⟨h2, h3⟩
    rw [e, e]
    refine ⟨?_, h.bookTo ht⟩
    unfold cutE
    rw [h1]
    dsimp only
    rw [if_neg (by omega)]
theorem duo_rcut (h : Duo w0 w b B G cs A X tx xs L L1 L2) (hn : L.length ≤ 100000) (id q : Int) (hq : ∀ o ∈ L, -1000000000 ≤ o.qty ∧ o.qty ≤ 1000000000) :
    Calls Tryd.prog 11 #[.pointer (some ⟨B, 0, none⟩), .int .i64 id, .int .i64 q] w fun e w' => e = .returned (.int .i64 (rcutE L id q)) ∧ ∃ cs' A', Duo w0 w' b B G cs' A' X tx xs (rcutL L id q) L1 L2 := by
  refine (rcut_any w B _ cs 0 A L h.ref hn id q hq).mono ?_
  rintro e w' ⟨rfl, ht⟩
  exact ⟨rfl, h.refTo ht⟩
end

/-! ### what both tell is the same, and they stay twins -/
section
variable {L L1 L2 : List Ord5}
theorem twin_add (h : Twin L L1 L2) (hl : ListsOk L1 L2) {o : Ord5} (hf : FitO o) : addE L1 L2 o = raddE L o ∧ Twin (raddL L o) (baddL 1 L1 L2 L1 o) (baddL 2 L1 L2 L2 o) := by
  have e := h.addE hl o
  refine ⟨e, ?_⟩
  unfold baddL
  rw [e]
  by_cases hz : raddE L o = 0
  · rw [if_pos hz, if_pos hz]; exact h.add hf hz
  · rw [if_neg hz, if_neg hz]
    unfold raddL
    rw [if_neg hz]
    exact h
theorem twin_cancel (h : Twin L L1 L2) (hl : ListsOk L1 L2) (id : Int) : bcanE L1 L2 id = roE L id ∧ bcanO L1 L2 id = roO L id ∧ Twin (rcanL L id) (remI L1 id) (remI L2 id) := by
  unfold bcanE bcanO roE roO
  rw [h.get hl]
  refine ⟨rfl, rfl, ?_⟩
  cases hg : getI L id with
  | some o => exact h.cancel hg
  | none =>
    have h2 := getI_no.1 hg
    have e : rcanL L id = L := by
      unfold rcanL cutK
      rw [List.findIdx_eq_length.2 (fun x hx => by simpa using h2 x hx)]
      simp
    rw [e, remI_none (fun o ho => h2 o (h.mem.1 (List.mem_append.2 (.inl ho)))), remI_none (fun o ho => h2 o (h.mem.1 (List.mem_append.2 (.inr ho))))]
    exact h
theorem twin_cut (h : Twin L L1 L2) (hl : ListsOk L1 L2) (id n : Int) : cutE L1 L2 id n = rcutE L id n ∧ Twin (rcutL L id n) (bcutL L1 L2 L1 id n) (bcutL L1 L2 L2 id n) := by
  unfold cutE rcutE rcutL bcutL
  rw [h.get hl]
  cases hg : getI L id with
  | none => exact ⟨rfl, h⟩
  | some o =>
    dsimp only
    by_cases hc : 1 ≤ n ∧ n ≤ o.qty
    · rw [if_neg (by omega), if_pos hc, if_pos hc, if_pos hc, if_pos hc]
      refine ⟨rfl, ?_⟩
      have ho : o ∈ L ∧ o.id = id := by
        unfold getI at hg
        have h2 := List.find?_some hg
        simp at h2
        exact ⟨List.mem_of_find?_eq_some hg, h2⟩
      unfold cutS
      by_cases hq : n = o.qty
      · rw [if_pos hq, if_pos hq, if_pos hq, ho.2]
        exact h.cancel hg
      · rw [if_neg hq, if_neg hq, if_neg hq, ho.2]
        rcases idxI_cases L id with ⟨-, h2⟩ | ⟨k, hk, -, h3, h4, h5⟩
        · rw [h2] at hg; cases hg
        · have eo : L[k] = o := by
            rw [hg] at h5
            first
              | exact (Option.some.inj h5).symm
              | exact Option.some.inj h5
          have es : L.set (L.findIdx fun o => o.id == id) (cutO o n) = cutI L id n := by
            rw [h3]
            have := set_cutI h.ids hk n
            rw [eo, ho.2] at this
            exact this
          rw [es]
          refine h.map (fun x hx e => ?_)
          have ex : x = o := nodup_map_inj h.ids hx ho.1 (by rw [e, ho.2])
          subst ex
          have := (h.ok x hx).1.2.2.2
          omega
    · rw [if_pos (by omega), if_neg hc, if_neg hc, if_neg hc, if_neg hc]
      exact ⟨rfl, h⟩
end
end Go.Proofs.YtkcgchpbjegneaaDoor
