/-
  Orders that come and go leave a book's lists as they were. No walk.
  A book, the two lists that were told of it, and the numbers that came: apart in memory. No walk.
-/
import Derived.Test.YteggaehelnmhnaaBookAddP
namespace Go.Proofs.Yteggaehelnmhnaa
open Go.RowKit
set_option linter.unusedVariables false

def notIn (ids : List Int) (o : Ord5) : Bool := !(decide (o.id ∈ ids))
theorem notIn_congr {ids ids' : List Int} (h : ∀ i, i ∈ ids ↔ i ∈ ids') (L : List Ord5) : L.filter (notIn ids) = L.filter (notIn ids') := by
  congr 1
  funext o
  unfold notIn
  simp only [h]
theorem notIn_nil (L : List Ord5) : L.filter (notIn []) = L := by
  rw [List.filter_eq_self]
  intro o _
  rfl
theorem notIn_snoc (ids : List Int) (i : Int) (L : List Ord5) : L.filter (notIn (ids ++ [i])) = remI (L.filter (notIn ids)) i := by
  unfold remI
  rw [List.filter_filter]
  congr 1
  funext o
  unfold notIn
  by_cases h1 : o.id ∈ ids <;> by_cases h2 : o.id = i <;> simp [h1, h2]
theorem remI_none {L : List Ord5} {i : Int} (h : ∀ o ∈ L, o.id ≠ i) : remI L i = L := by
  unfold remI
  rw [List.filter_eq_self]
  intro o ho
  simpa using h o ho
theorem getI_none_iff {L : List Ord5} {i : Int} : getI L i = none ↔ ∀ o ∈ L, o.id ≠ i := by
  unfold getI
  rw [List.find?_eq_none]
  simp

structure AddInv (W1 W2 : List Ord5) (ids : List Int) (L1 L2 : List Ord5) : Prop where
  f1 : L1.filter (notIn ids) = W1
  f2 : L2.filter (notIn ids) = W2
  nd : ids.Nodup
  mem : ∀ i ∈ ids, ∃ o ∈ L1 ++ L2, o.id = i
theorem AddInv.start (W1 W2 : List Ord5) : AddInv W1 W2 [] W1 W2 := ⟨notIn_nil _, notIn_nil _, List.nodup_nil, fun i h => by cases h⟩
theorem addE_zero {L1 L2 : List Ord5} {o : Ord5} (h : addE L1 L2 o = 0) : argB o = true ∧ rngB o = true ∧ (∀ x ∈ L1 ++ L2, x.id ≠ o.id) ∧ L1.length + L2.length ≠ 100 := by
  unfold addE at h
  cases h1 : argB o with
  | false => rw [if_pos h1] at h; omega
  | true =>
  cases h2 : rngB o with
  | false => rw [if_neg (by rw [h1]; decide), if_pos h2] at h; omega
  | true =>
  rw [if_neg (by rw [h1]; decide), if_neg (by rw [h2]; decide)] at h
  by_cases h3 : (getI (L1 ++ L2) o.id).isSome = true
  · rw [if_pos h3] at h; omega
  · rw [if_neg h3] at h
    refine ⟨rfl, rfl, getI_none_iff.1 (by simpa using h3), fun e => ?_⟩
    rw [if_pos e] at h
    omega
theorem filter_addL {s : Int} {L : List Ord5} {o : Ord5} {ids : List Int} (h : ∀ x ∈ L, x.id ≠ o.id) : (addL s L o).filter (notIn (ids ++ [o.id])) = L.filter (notIn ids) := by
  have e : L.filter (notIn (ids ++ [o.id])) = L.filter (notIn ids) := by
    rw [notIn_snoc]
    exact remI_none fun x hx => h x ((List.mem_filter.1 hx).1)
  unfold addL
  split
  · rw [filter_insO (by unfold notIn pricedO; simp), e]
  · exact e
theorem mem_addL {s : Int} {L : List Ord5} {o x : Ord5} (h : x ∈ L) : x ∈ addL s L o := by
  unfold addL
  split
  · exact mem_insO.2 (.inr h)
  · exact h
theorem AddInv.add {W1 W2 : List Ord5} {ids : List Int} {L1 L2 : List Ord5} (h : AddInv W1 W2 ids L1 L2) {o : Ord5} (e : addE L1 L2 o = 0) : AddInv W1 W2 (ids ++ [o.id]) (addL 1 L1 o) (addL 2 L2 o) := by
  obtain ⟨h1, -, h3, -⟩ := addE_zero e
  refine ⟨?_, ?_, ?_, ?_⟩
  · rw [filter_addL (fun x hx => h3 x (List.mem_append_left _ hx))]; exact h.f1
  · rw [filter_addL (fun x hx => h3 x (List.mem_append_right _ hx))]; exact h.f2
  · rw [List.nodup_append]
    refine ⟨h.nd, List.nodup_cons.2 ⟨by simp, List.nodup_nil⟩, ?_⟩
    intro a ha b hb
    rw [List.mem_singleton] at hb
    subst hb
    rintro rfl
    obtain ⟨x, hx, hxi⟩ := h.mem _ ha
    exact h3 x hx hxi
  · intro i hi
    rcases List.mem_append.1 hi with hi | hi
    · obtain ⟨x, hx, hxi⟩ := h.mem i hi
      rcases List.mem_append.1 hx with hx | hx
      · exact ⟨x, List.mem_append_left _ (mem_addL hx), hxi⟩
      · exact ⟨x, List.mem_append_right _ (mem_addL hx), hxi⟩
    · rw [List.mem_singleton] at hi
      subst hi
      refine ⟨pricedO o, ?_, rfl⟩
      rcases (argB_iff.1 h1).1 with hs | hs
      · refine List.mem_append_left _ ?_
        unfold addL
        rw [if_pos hs]
        exact mem_insO.2 (.inl rfl)
      · refine List.mem_append_right _ ?_
        unfold addL
        rw [if_pos hs]
        exact mem_insO.2 (.inl rfl)
/-- an Add's step of the ids -/
def idsS (L1 L2 : List Ord5) (ids : List Int) (o : Ord5) : List Int := if addE L1 L2 o = 0 then ids ++ [o.id] else ids
theorem AddInv.step {W1 W2 : List Ord5} {ids : List Int} {L1 L2 : List Ord5} (h : AddInv W1 W2 ids L1 L2) (o : Ord5) : AddInv W1 W2 (idsS L1 L2 ids o) (addS L1 L2 o).1 (addS L1 L2 o).2 := by
  unfold idsS addS
  by_cases e : addE L1 L2 o = 0
  · rw [if_pos e, if_pos e]; exact h.add e
  · rw [if_neg e, if_neg e]; exact h

/-- the order of the cancels -/
def goneL (back : Bool) (ids : List Int) : List Int := if back then ids.reverse else ids
theorem goneL_length (back : Bool) (ids : List Int) : (goneL back ids).length = ids.length := by cases back <;> simp [goneL]
theorem goneL_mem (back : Bool) (ids : List Int) (i : Int) : i ∈ goneL back ids ↔ i ∈ ids := by cases back <;> simp [goneL]
theorem goneL_nodup {back : Bool} {ids : List Int} (h : ids.Nodup) : (goneL back ids).Nodup := by
  cases back
  · exact h
  · unfold goneL; rw [if_pos rfl]; exact (List.reverse_perm ids).nodup_iff.2 h
theorem goneL_back {ids : List Int} {k : Nat} (hk : k < ids.length) : (goneL true ids)[k]? = ids[ids.length - 1 - k]? := by
  unfold goneL
  rw [if_pos rfl, List.getElem?_reverse hk]
theorem gone_step {W1 W2 : List Ord5} {ids : List Int} {L1 L2 : List Ord5} (h : AddInv W1 W2 ids L1 L2) {c : List Int} (hn : c.Nodup) (hm : ∀ i, i ∈ c ↔ i ∈ ids) {k : Nat} {i : Int} (hk : c[k]? = some i) :
    (getI (L1.filter (notIn (c.take k)) ++ L2.filter (notIn (c.take k))) i).isSome = true ∧ remI (L1.filter (notIn (c.take k))) i = L1.filter (notIn (c.take (k + 1))) ∧ remI (L2.filter (notIn (c.take k))) i = L2.filter (notIn (c.take (k + 1))) := by
  obtain ⟨hkl, hki⟩ := List.getElem?_eq_some_iff.1 hk
  have et : c.take (k + 1) = c.take k ++ [i] := by rw [List.take_succ_eq_append_getElem hkl, hki]
  have hni : i ∉ c.take k := by
    intro hi
    have h1 : (c.take (k + 1)).Nodup := hn.sublist (List.take_sublist _ _)
    rw [et, List.nodup_append] at h1
    exact h1.2.2 i hi i (by simp) rfl
  refine ⟨?_, ?_, ?_⟩
  · obtain ⟨o, ho, hoi⟩ := h.mem i ((hm i).1 (by rw [← hki]; exact List.getElem_mem _))
    rw [← List.filter_append]
    cases e : getI ((L1 ++ L2).filter (notIn (c.take k))) i with
    | some o => rfl
    | none =>
      exact absurd hoi (getI_none_iff.1 e o (List.mem_filter.2 ⟨ho, by unfold notIn; rw [hoi]; simpa using hni⟩))
  · rw [et, notIn_snoc]
  · rw [et, notIn_snoc]
theorem gone_all {W1 W2 : List Ord5} {ids : List Int} {L1 L2 : List Ord5} (h : AddInv W1 W2 ids L1 L2) {c : List Int} (hm : ∀ i, i ∈ c ↔ i ∈ ids) :
    L1.filter (notIn c) = W1 ∧ L2.filter (notIn c) = W2 := ⟨(notIn_congr hm L1).trans h.f1, (notIn_congr hm L2).trans h.f2⟩
end Go.Proofs.Yteggaehelnmhnaa
namespace Go.Proofs.Yteggaehelnmhnaa
open Go.RowKit
set_option linter.unusedVariables false

def encN (i : Int) : List Value := [.int .i64 i]
theorem encN_length (i : Int) : (encN i).length = 1 := rfl

/-- the blocks beside the book -/
def RunX (bl : Nat) (A1 A2 D : Option Addr) (i : Nat) : Prop := i = bl ∨ blkOf A1 = some i ∨ blkOf A2 = some i ∨ blkOf D = some i
structure Run (w0 w : World) (b : Nat) (G : Nat → Prop) (M1 M2 : List Ord5) (bl : Nat) (A1 : Option Addr) (c1 : Nat) (A2 : Option Addr) (c2 : Nat) (L1 L2 : List Ord5) (D : Option Addr) (dc : Nat) (ids : List Int) : Prop where
  book : BookAt w b G M1 M2
  was : Blk w bl 38 #[.slice A1 L1.length c1, .slice A2 L2.length c2]
  r1 : RowAt w A1 L1.length c1 37 5 (flat encO L1)
  r2 : RowAt w A2 L2.length c2 37 5 (flat encO L2)
  rd : RowAt w D ids.length dc 3 1 (flat encN ids)
  fp : ∀ i, RunX bl A1 A2 D i → ¬ G i
  dw : ∀ i, blkOf D = some i → i ≠ bl ∧ blkOf A1 ≠ some i ∧ blkOf A2 ≠ some i
  old : Below w0.heap.size w0 w
  newG : ∀ i, G i → w0.heap.size ≤ i
  newX : ∀ i, RunX bl A1 A2 D i → w0.heap.size ≤ i

section
variable {w0 w w' : World} {b : Nat} {G : Nat → Prop} {M1 M2 : List Ord5} {bl : Nat} {A1 : Option Addr} {c1 : Nat} {A2 : Option Addr} {c2 : Nat} {L1 L2 : List Ord5} {D : Option Addr} {dc : Nat} {ids : List Int}
theorem Run.lt (h : Run w0 w b G M1 M2 bl A1 c1 A2 c2 L1 L2 D dc ids) {i : Nat} (hi : RunX bl A1 A2 D i) : i < w.heap.size := by
  rcases hi with rfl | hi | hi | hi
  · exact Blk.lt h.was
  · exact h.r1.lt hi
  · exact h.r2.lt hi
  · exact h.rd.lt hi
theorem Run.below (h : Run w0 w b G M1 M2 bl A1 c1 A2 c2 L1 L2 D dc ids) (hb : Below w.heap.size w w') : Run w0 w' b G M1 M2 bl A1 c1 A2 c2 L1 L2 D dc ids :=
  ⟨h.book.below hb, Blk.keep h.was hb, h.r1.below hb, h.r2.below hb, h.rd.below hb, h.fp, h.dw, h.old.trans (hb.mono h.old.size), h.newG, h.newX⟩
theorem Run.len_le (h : Run w0 w b G M1 M2 bl A1 c1 A2 c2 L1 L2 D dc ids) (s : Int) (hs : Is12 s) : (sideL s M1 M2).length ≤ 100 := by
  have h1 := h.book.lists.cnt
  rw [List.length_append] at h1
  unfold sideL
  split <;> omega
theorem Run.turn {M1' M2' : List Ord5} (h : Run w0 w b G M1 M2 bl A1 c1 A2 c2 L1 L2 D dc ids) (hb : BookTo w w' b G M1' M2') : ∃ G', Run w0 w' b G' M1' M2' bl A1 c1 A2 c2 L1 L2 D dc ids := by
  obtain ⟨G', hA, hk, hG⟩ := hb
  refine ⟨G', hA, Blk.keeps h.was hk (h.fp _ (.inl rfl)), h.r1.keeps hk (fun g hg => h.fp _ (.inr (.inl hg))), h.r2.keeps hk (fun g hg => h.fp _ (.inr (.inr (.inl hg)))), h.rd.keeps hk (fun g hg => h.fp _ (.inr (.inr (.inr hg)))), ?_, h.dw, ?_, ?_, h.newX⟩
  · intro i hi hg
    rcases hG i hg with h1 | h1
    · exact h.fp i hi h1
    · have := h.lt hi; omega
  · exact h.old.trans (hk.below h.newG h.old.size)
  · intro i hi
    rcases hG i hi with h1 | h1
    · exact h.newG i h1
    · exact Nat.le_trans h.old.size h1
theorem Run.number {id : Int} {gg cap : Nat} (h : Run w0 w b G M1 M2 bl A1 c1 A2 c2 L1 L2 D dc ids) (hk : Keeps (fun i => blkOf D = some i) w w') (ho : w'.ownsRow 0 3 1 (.slice (some ⟨gg, 0, none⟩) (ids.length + 1) cap) (ids.length + 1) (flat encN ids ++ [.int .i64 id])) (hat : blkOf D = some gg ∨ w.heap.size ≤ gg) :
    Run w0 w' b G M1 M2 bl A1 c1 A2 c2 L1 L2 (some ⟨gg, 0, none⟩) cap (ids ++ [id]) := by
  have hX : ∀ i, RunX bl A1 A2 (some ⟨gg, 0, none⟩) i → RunX bl A1 A2 D i ∨ (i = gg ∧ w.heap.size ≤ gg) := by
    intro i hi
    rcases hi with h1 | h1 | h1 | h1
    · exact .inl (.inl h1)
    · exact .inl (.inr (.inl h1))
    · exact .inl (.inr (.inr (.inl h1)))
    · have e : gg = i := by simpa [blkOf] using h1
      subst e
      rcases hat with h2 | h2
      · exact .inl (.inr (.inr (.inr h2)))
      · exact .inr ⟨rfl, h2⟩
  refine ⟨h.book.keeps hk (fun i hi e => h.fp i (.inr (.inr (.inr e))) hi), Blk.keeps h.was hk (fun e => (h.dw _ e).1 rfl), h.r1.keeps hk (fun g hg e => (h.dw g e).2.1 hg), h.r2.keeps hk (fun g hg e => (h.dw g e).2.2 hg), ?_, ?_, ?_, ?_, h.newG, ?_⟩
  · show w'.ownsRow 0 3 1 _ _ _
    rw [flat_snoc, List.length_append]
    exact ho
  · intro i hi hg
    rcases hX i hi with h1 | ⟨rfl, h1⟩
    · exact h.fp i h1 hg
    · have := h.book.fp hg; omega
  · intro i hi
    have e : gg = i := by simpa [blkOf] using hi
    subst e
    rcases hat with h2 | h2
    · exact h.dw _ h2
    · refine ⟨fun e => ?_, fun e => ?_, fun e => ?_⟩
      · have := Blk.lt h.was; omega
      · have := h.r1.lt e; omega
      · have := h.r2.lt e; omega
  · exact h.old.trans (hk.below (fun i hi => h.newX i (.inr (.inr (.inr hi)))) h.old.size)
  · intro i hi
    rcases hX i hi with h1 | ⟨rfl, h1⟩
    · exact h.newX i h1
    · exact Nat.le_trans h.old.size h1
theorem keeps_grown {w2 w3 : World} {o : Obj} {row : Option Nat} (h : (w2.alloc o).grownBy w3 row) : Keeps (fun i => row = some i) w2 w3 := okeeps_of_grown ⟨h.os, h.tape, h.output, h.size, h.block⟩
theorem row_addr {A : Option Addr} {n c sz : Nat} {t : TypeId} {xs : List Value} (h : RowAt w A n c t sz xs) (hn : 0 < n) : ∃ g, A = some ⟨g, 0, none⟩ := by
  rcases h.2 with ⟨_, h0⟩ | ⟨g, cap, cur, hv, _⟩
  · omega
  · cases hv; exact ⟨g, rfl⟩
theorem num_own {g n c : Nat} {t : TypeId} {zs : List Int} (h : RowAt w (some ⟨g, 0, none⟩) n c t 1 (flat encN zs)) {i : Nat} (hi : i < zs.length) : w.cell? ⟨g, i, none⟩ = some (.int .i64 zs[i]) := by
  have e : (flat encN zs)[i * 1 + 0]? = (encN zs[i])[0]? := flat_get encN_length zs i hi 0 (by omega)
  have e' : (flat encN zs)[i]? = some (.int .i64 zs[i]) := by simpa [encN] using e
  obtain ⟨g0, h0, c0⟩ := h.cell e'
  cases h0
  exact c0
end

/-- while the lists are told: k of them -/
structure Told (w0 w : World) (b : Nat) (G : Nat → Prop) (L1 L2 : List Ord5) (bl k : Nat) (A1 : Option Addr) (n1 c1 : Nat) (A2 : Option Addr) (n2 c2 : Nat) : Prop where
  book : BookAt w b G L1 L2
  was : Blk w bl 38 #[.slice A1 n1 c1, .slice A2 n2 c2]
  l1 : 1 ≤ k → n1 = L1.length ∧ RowAt w A1 L1.length c1 37 5 (flat encO L1) ∧ ∀ g, blkOf A1 = some g → ¬ G g ∧ w0.heap.size ≤ g ∧ g ≠ bl
  l2 : 2 ≤ k → n2 = L2.length ∧ RowAt w A2 L2.length c2 37 5 (flat encO L2) ∧ ∀ g, blkOf A2 = some g → ¬ G g ∧ w0.heap.size ≤ g ∧ g ≠ bl
  bl0 : ¬ G bl ∧ w0.heap.size ≤ bl
  old : Below w0.heap.size w0 w
  newG : ∀ i, G i → w0.heap.size ≤ i
section
variable {w0 w w' : World} {b : Nat} {G : Nat → Prop} {L1 L2 : List Ord5} {bl k : Nat} {A1 : Option Addr} {n1 c1 : Nat} {A2 : Option Addr} {n2 c2 : Nat}
theorem Told.first {A : Option Addr} {c : Nat} (h : Told w0 w b G L1 L2 bl 0 A1 n1 c1 A2 n2 c2) (hb : Below w.heap.size w w') (hr : RowAt w' A L1.length c 37 5 (flat encO L1)) (hA : ∀ g, blkOf A = some g → w.heap.size ≤ g) :
    Told w0 (w'.setCell ⟨bl, 0, none⟩ (.slice A L1.length c)) b G L1 L2 bl 1 A L1.length c A2 n2 c2 := by
  have hk := Keeps.set_ w' ⟨bl, 0, none⟩ (.slice A L1.length c)
  have hbl := Blk.lt h.was
  refine ⟨(h.book.below hb).keeps hk (fun i hi e => h.bl0.1 (by cases e; exact hi)), Blk.set_ (Blk.keep h.was hb) 0 _, fun _ => ⟨rfl, hr.keeps hk (fun g hg e => ?_), fun g hg => ⟨fun hG => ?_, ?_, ?_⟩⟩, fun h2 => by omega, h.bl0, (h.old.trans (hb.mono h.old.size)).setCell (p := ⟨bl, 0, none⟩) h.bl0.2 _, h.newG⟩
  · have := hA g hg
    have e' : g = bl := e
    omega
  · have := hA g hg
    have := h.book.fp hG
    omega
  · exact Nat.le_trans h.old.size (hA g hg)
  · have := hA g hg
    omega
theorem Told.second {A : Option Addr} {c : Nat} (h : Told w0 w b G L1 L2 bl 1 A1 n1 c1 A2 n2 c2) (hb : Below w.heap.size w w') (hr : RowAt w' A L2.length c 37 5 (flat encO L2)) (hA : ∀ g, blkOf A = some g → w.heap.size ≤ g) :
    Told w0 (w'.setCell ⟨bl, 1, none⟩ (.slice A L2.length c)) b G L1 L2 bl 2 A1 n1 c1 A L2.length c := by
  have hk := Keeps.set_ w' ⟨bl, 1, none⟩ (.slice A L2.length c)
  have hbl := Blk.lt h.was
  obtain ⟨h1, h2, h3⟩ := h.l1 (Nat.le_refl _)
  refine ⟨(h.book.below hb).keeps hk (fun i hi e => h.bl0.1 (by cases e; exact hi)), Blk.set_ (Blk.keep h.was hb) 1 _, fun _ => ⟨h1, (h2.below hb).keeps hk (fun g hg e => (h3 g hg).2.2 e), h3⟩, fun _ => ⟨rfl, hr.keeps hk (fun g hg e => ?_), fun g hg => ⟨fun hG => ?_, ?_, ?_⟩⟩, h.bl0, (h.old.trans (hb.mono h.old.size)).setCell (p := ⟨bl, 1, none⟩) h.bl0.2 _, h.newG⟩
  · have := hA g hg
    have e' : g = bl := e
    omega
  · have := hA g hg
    have := h.book.fp hG
    omega
  · exact Nat.le_trans h.old.size (hA g hg)
  · have := hA g hg
    omega
theorem Told.run (h : Told w0 w b G L1 L2 bl 2 A1 n1 c1 A2 n2 c2) : n1 = L1.length ∧ n2 = L2.length ∧ Run w0 w b G L1 L2 bl A1 c1 A2 c2 L1 L2 none 0 [] := by
  obtain ⟨rfl, h2, h3⟩ := h.l1 (by omega)
  obtain ⟨rfl, h5, h6⟩ := h.l2 (by omega)
  refine ⟨rfl, rfl, h.book, h.was, h2, h5, World.ownsRow_nil _ _ _ _, ?_, fun i hi => by simp [blkOf] at hi, h.old, h.newG, ?_⟩
  · intro i hi
    rcases hi with rfl | hi | hi | hi
    · exact h.bl0.1
    · exact (h3 i hi).1
    · exact (h6 i hi).1
    · simp [blkOf] at hi
  · intro i hi
    rcases hi with rfl | hi | hi | hi
    · exact h.bl0.2
    · exact (h3 i hi).2.1
    · exact (h6 i hi).2.1
    · simp [blkOf] at hi
theorem Told.start (hA : BookAt w b G L1 L2) (hB : Below w0.heap.size w0 w) (hG : ∀ i, G i → w0.heap.size ≤ i) :
    Told w0 (w.alloc (.cells #[.slice none 0 0, .slice none 0 0] 38)) b G L1 L2 w.heap.size 0 none 0 0 none 0 0 :=
  ⟨hA.below ((Below.refl _ w).alloc (Nat.le_refl _) _), Blk.new _ _ _, fun h => by omega, fun h => by omega, ⟨fun h => by have := hA.fp h; omega, hB.size⟩, hB.alloc hB.size _, hG⟩
end
end Go.Proofs.Yteggaehelnmhnaa
