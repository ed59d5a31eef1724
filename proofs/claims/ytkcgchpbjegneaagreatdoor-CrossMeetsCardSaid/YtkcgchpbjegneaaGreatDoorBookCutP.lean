/-
  An order of a book with fewer lots: what lists, map and arena say then. No walk.
-/
import Derived.Test.YtkcgchpbjegneaaGreatDoorBookAddP
namespace Go.Proofs.YtkcgchpbjegneaaGreatDoor
open Go.RowKit
set_option linter.unusedVariables false

def cutH (id n : Int) (y : HO) : HO := if y.2.id = id then (y.1, cutO y.2 n) else y
def QG.cut (q : QG) (id n : Int) : QG := ⟨q.price, q.A, q.c, q.os.map (cutH id n)⟩
def HS.cut (h : HS) (id n : Int) : HS := ⟨h.mA, h.mc, h.qA, h.qc, h.ms.map (cutH id n), h.qs.map fun q => q.cut id n⟩

section
variable {id k : Int}
theorem cutH_1 (y : HO) : (cutH id k y).1 = y.1 := by unfold cutH; split <;> rfl
theorem cutH_2 (y : HO) : (cutH id k y).2.id = y.2.id ∧ (cutH id k y).2.side = y.2.side ∧ (cutH id k y).2.kind = y.2.kind ∧ (cutH id k y).2.price = y.2.price := by unfold cutH; split <;> exact ⟨rfl, rfl, rfl, rfl⟩
theorem placeV_cut (y : HO) : placeV (cutH id k y) = placeV y := by
  obtain ⟨_, h2, h3, h4⟩ := cutH_2 (id := id) (k := k) y
  unfold placeV
  rw [cutH_1, h2, h3, h4]
theorem hndL_cut (l : List HO) : hndL (l.map (cutH id k)) = hndL l := by
  unfold hndL
  rw [List.map_map]
  exact List.map_congr_left fun y _ => cutH_1 y
theorem que_cut (q : QG) : (q.cut id k).que = q.que := by unfold QG.cut QG.que; simp
theorem ordL_cut (l : List HO) : ordL (l.map (cutH id k)) = cutI (ordL l) id k := by
  unfold ordL cutI
  rw [List.map_map, List.map_map]
  refine List.map_congr_left fun y _ => ?_
  show (cutH id k y).2 = if y.2.id = id then cutO y.2 k else y.2
  unfold cutH
  split <;> rfl
theorem qOrd_cut (qs : List QG) : qOrd (qs.map fun q => q.cut id k) = (qOrd qs).map (cutH id k) := by
  induction qs with
  | nil => rfl
  | cons q qs ih =>
    have e1 : qOrd (q :: qs) = q.os ++ qOrd qs := rfl
    have e2 : qOrd (List.map (fun q => q.cut id k) (q :: qs)) = q.os.map (cutH id k) ++ qOrd (qs.map fun q => q.cut id k) := rfl
    rw [e1, e2, ih, List.map_append]
theorem all_cut (h : HS) : (h.cut id k).all = h.all.map (cutH id k) := by
  show hOrd _ _ = List.map _ (hOrd h.ms h.qs)
  unfold hOrd HS.cut
  dsimp only
  rw [qOrd_cut, List.map_append]
theorem L_cut (h : HS) : (h.cut id k).L = cutI h.L id k := by
  unfold HS.L
  rw [all_cut, ordL_cut]
def cutAll (H : Int → HS) (id k : Int) : Int → HS := fun s => (H s).cut id k
theorem allH_cut (H : Int → HS) : allH (cutAll H id k) = (allH H).map (cutH id k) := by
  unfold allH cutAll
  rw [all_cut, all_cut, List.map_append]

variable {w w' : World} {b a n r : Nat} {F : Nat → Prop} {M : Int → Int → Option Ord5} {f : Int → Option Value} {H : Int → HS} {reg : Nat → Int}
theorem HalfAt.recut {s : Int} {h : HS} (X : HalfAt w reg s h) : HalfAt w reg s (h.cut id k) := by
  refine ⟨?_, ?_, ?_, X.gm, X.gq, ?_, ?_⟩
  · show RowAt w h.mA (h.ms.map (cutH id k)).length h.mc _ 2 (flat encH (hndL (h.ms.map (cutH id k))))
    rw [List.length_map, hndL_cut]
    exact X.rm
  · show RowAt w h.qA (h.qs.map fun q => q.cut id k).length h.qc _ 2 (flat encQ ((h.qs.map fun q => q.cut id k).map QG.que))
    rw [List.length_map, List.map_map]
    have e : (QG.que ∘ fun q => q.cut id k) = QG.que := by funext q; exact que_cut q
    rw [e]
    exact X.rq
  · intro q hq
    obtain ⟨q0, hq0, rfl⟩ := List.mem_map.1 hq
    show RowAt w q0.A (q0.os.map (cutH id k)).length q0.c _ 2 (flat encH (hndL (q0.os.map (cutH id k))))
    rw [List.length_map, hndL_cut]
    exact X.rl q0 hq0
  · intro q hq
    obtain ⟨q0, hq0, rfl⟩ := List.mem_map.1 hq
    exact X.gl q0 hq0
  · show ((h.qs.map fun q => q.cut id k).filterMap fun q => blkOf q.A).Nodup
    rw [List.filterMap_map]
    exact X.nd
theorem HFp_cut {h : HS} {i : Nat} : HFp (h.cut id k) i ↔ HFp h i := by
  unfold HFp HS.cut
  dsimp only
  constructor
  · rintro (h1 | h1 | ⟨q, hq, h1⟩)
    · exact .inl h1
    · exact .inr (.inl h1)
    · obtain ⟨q0, hq0, rfl⟩ := List.mem_map.1 hq
      exact .inr (.inr ⟨q0, hq0, h1⟩)
  · rintro (h1 | h1 | ⟨q, hq, h1⟩)
    · exact .inl h1
    · exact .inr (.inl h1)
    · exact .inr (.inr ⟨q.cut id k, List.mem_map.2 ⟨q, hq, rfl⟩, h1⟩)
theorem BFp_cut {i : Nat} : BFp b r F (cutAll H id k) i ↔ BFp b r F H i := by
  unfold BFp cutAll
  rw [HFp_cut, HFp_cut]
theorem BookM.recut (h : BookM w b a F M n r f H reg) : BookM w b a F M n r f (cutAll H id k) reg := by
  refine ⟨?_, h.ar, h.mp, fun s hs => (h.hx s hs).recut, h.gb, h.gr, h.gF⟩
  have e : bookCells a r (cutAll H id k) = bookCells a r H := by
    unfold bookCells cutAll HS.cut
    simp
  rw [e]
  exact h.blk
theorem BookS.cut (S : BookS M n f H) {x : HO} (hx : x ∈ allH H) (h1 : 1 ≤ k) (h2 : k < x.2.qty) : BookS (withO M x.1.1 x.1.2 (some (cutO x.2 k))) n f (cutAll H x.2.id k) := by
  have hmem : ∀ y, y ∈ allH (cutAll H x.2.id k) → ∃ y0 ∈ allH H, y = cutH x.2.id k y0 := by
    intro y hy
    rw [allH_cut] at hy
    obtain ⟨y0, h, rfl⟩ := List.mem_map.1 hy
    exact ⟨y0, h, rfl⟩
  refine ⟨fun s hs => ?_, fun s hs => ?_, ?_, ?_, ?_, ?_, ?_, ?_⟩
  · have X := S.is s hs
    refine ⟨?_, ?_, ?_⟩
    · intro y hy
      obtain ⟨y0, h, rfl⟩ := List.mem_map.1 hy
      obtain ⟨_, e2, e3, _⟩ := cutH_2 (id := x.2.id) (k := k) y0
      rw [e2, e3]
      exact X.mkt y0 h
    · intro q hq y hy
      obtain ⟨q0, hq0, rfl⟩ := List.mem_map.1 hq
      obtain ⟨y0, h, rfl⟩ := List.mem_map.1 (show y ∈ q0.os.map _ from hy)
      obtain ⟨_, e2, e3, e4⟩ := cutH_2 (id := x.2.id) (k := k) y0
      rw [e2, e3, e4]
      exact X.qk q0 hq0 y0 h
    · show RankQ s (((H s).qs.map fun q => q.cut x.2.id k).map QG.que)
      rw [List.map_map]
      have e : (QG.que ∘ fun q => q.cut x.2.id k) = QG.que := by funext q; exact que_cut q
      rw [e]
      exact X.rank
  · intro q hq
    obtain ⟨q0, hq0, rfl⟩ := List.mem_map.1 hq
    intro e
    exact S.ne s hs q0 hq0 (List.map_eq_nil_iff.1 (show q0.os.map _ = [] from e))
  · intro y hy
    obtain ⟨y0, h, rfl⟩ := hmem y hy
    by_cases e : y0.2.id = x.2.id
    · have e' := S.same_id h hx e
      subst e'
      have ec : cutH y0.2.id k y0 = (y0.1, cutO y0.2 k) := if_pos rfl
      rw [ec]
      unfold withO
      rw [if_pos ⟨rfl, rfl⟩]
    · have ec : cutH x.2.id k y0 = y0 := if_neg e
      rw [ec]
      unfold withO
      rw [if_neg]
      · exact S.hM y0 h
      · rintro ⟨h3, h4⟩
        have e' := S.same_h h hx (Prod.ext h3 h4)
        exact e (by rw [e'])
  · intro y hy
    obtain ⟨y0, h, rfl⟩ := hmem y hy
    rw [placeV_cut, (cutH_2 y0).1]
    exact S.hf y0 h
  · intro i v hv
    obtain ⟨y, hy, e⟩ := S.hk i v hv
    refine ⟨cutH x.2.id k y, ?_, by rw [(cutH_2 y).1]; exact e⟩
    rw [allH_cut]
    exact List.mem_map.2 ⟨y, hy, rfl⟩
  · rw [allH_cut, List.map_map]
    have e : ((fun x : HO => x.2.id) ∘ cutH x.2.id k) = fun x : HO => x.2.id := by funext y; exact (cutH_2 y).1
    rw [e]
    exact S.ids
  · rw [allH_cut, List.length_map]
    exact S.cnt
  · intro y hy
    obtain ⟨y0, h, rfl⟩ := hmem y hy
    have ok := S.ok y0 h
    by_cases e : y0.2.id = x.2.id
    · have e' := S.same_id h hx e
      subst e'
      have ec : cutH y0.2.id k y0 = (y0.1, cutO y0.2 k) := if_pos rfl
      rw [ec]
      obtain ⟨⟨f1, f2, f3, f4, f5⟩, o1, o2, o3⟩ := ok
      unfold cutO
      refine ⟨⟨f1, f2, f3, f4, ?_⟩, o1, o2, ?_⟩
      · unfold Fit64 at *; dsimp only; omega
      · dsimp only; omega
    · have ec : cutH x.2.id k y0 = y0 := if_neg e
      rw [ec]
      exact ok
end

/-- a list behind a Cut -/
def cutS (L : List Ord5) (o : Ord5) (n : Int) : List Ord5 := if n = o.qty then remI L o.id else cutI L o.id n
theorem cutS_head {x : Ord5} {t : List Ord5} {n : Int} (h : ∀ y ∈ t, y.id ≠ x.id) : cutS (x :: t) x n = if n = x.qty then t else cutO x n :: t := by
  unfold cutS
  split
  · unfold remI
    rw [List.filter_cons]
    simp
    intro y hy
    exact h y hy
  · unfold cutI
    rw [List.map_cons, if_pos rfl]
    congr 1
    refine (List.map_congr_left fun y hy => ?_).trans (List.map_id _)
    rw [if_neg (h y hy)]
    rfl
theorem cutS_other {x : Ord5} {L : List Ord5} {n : Int} (h : ∀ y ∈ L, y.id ≠ x.id) : cutS L x n = L := by
  unfold cutS
  split
  · unfold remI
    rw [List.filter_eq_self]
    intro y hy
    simpa using h y hy
  · unfold cutI
    refine (List.map_congr_left fun y hy => ?_).trans (List.map_id _)
    rw [if_neg (h y hy)]
    rfl
/-- what Cut says -/
def cutE (L1 L2 : List Ord5) (id n : Int) : Int :=
  match getI (L1 ++ L2) id with
  | none => 7
  | some o => if n < 1 ∨ o.qty < n then 2 else 0
/-- what Cut tells and leaves -/
def CutPost (w : World) (b : Nat) (G : Nat → Prop) (L1 L2 : List Ord5) (id n : Int) (e : Ending) (w' : World) : Prop :=
  (cutE L1 L2 id n ≠ 0 ∧ e = .returned (errV (cutE L1 L2 id n)) ∧ Below w.heap.size w w') ∨
  (∃ o, getI (L1 ++ L2) id = some o ∧ 1 ≤ n ∧ n ≤ o.qty ∧ e = .returned (errV 0) ∧ BookTo w w' b G (cutS L1 o n) (cutS L2 o n))
def CutSaid : Prop := ∀ (w : World) (b : Nat) (G : Nat → Prop) (L1 L2 : List Ord5), BookAt w b G L1 L2 → ∀ id n : Int, Fit64 n → Calls Tryz.prog 47 #[.pointer (some ⟨b, 0, none⟩), .int .i64 id, .int .i64 n] w (CutPost w b G L1 L2 id n)
end Go.Proofs.YtkcgchpbjegneaaGreatDoor
