/-
  The lots of an auction by prices, in memory: three cells of a block, and an own row of levels; what lies at a price. No walk.
-/
import Derived.Test.YteggaehelnmhnaaDoorLvDelete
import Derived.Test.YteggaehelnmhnaaDoorLvSearch
namespace Go.Proofs.YteggaehelnmhnaaDoor
open Go.RowKit
set_option linter.unusedVariables false

/-- what lies at a price -/
def lotAt (lv : List Tri) (p : Int) : Int × Int := ((lv.find? fun x => x.1 == p).map (·.2)).getD (0, 0)
structure LvOk (lv : List Tri) : Prop where
  rank : RankL lv
  nz : ∀ x ∈ lv, 0 ≤ x.2.1 ∧ 0 ≤ x.2.2 ∧ (x.2.1 ≠ 0 ∨ x.2.2 ≠ 0)
  pr : ∀ x ∈ lv, 1 ≤ x.1 ∧ x.1 ≤ 1000000
theorem lot_other {pre post : List Tri} {x : Tri} {p : Int} (h : p ≠ x.1) : lotAt (pre ++ x :: post) p = lotAt (pre ++ post) p := by
  unfold lotAt
  rw [List.find?_append, List.find?_append, List.find?_cons_of_neg (by simp; exact fun e => h e.symm)]
theorem lot_none {lv : List Tri} {p : Int} (h : ∀ x ∈ lv, x.1 ≠ p) : lotAt lv p = (0, 0) := by
  unfold lotAt
  rw [List.find?_eq_none.2 (fun x hx => by simpa using h x hx)]
  rfl
theorem rank_parts {pre post : List Tri} {x : Tri} (h : RankL (pre ++ x :: post)) : (∀ y ∈ pre, y.1 < x.1) ∧ (∀ y ∈ post, x.1 < y.1) ∧ RankL (pre ++ post) := by
  unfold RankL at *
  rw [List.pairwise_append, List.pairwise_cons] at h
  obtain ⟨h1, ⟨h2, h3⟩, h4⟩ := h
  refine ⟨fun y hy => h4 y hy x (by simp), h2, ?_⟩
  rw [List.pairwise_append]
  exact ⟨h1, h3, fun a ha b hb => h4 a ha b (by simp [hb])⟩
theorem rank_put {pre post : List Tri} {x : Tri} (h : RankL (pre ++ post)) (h1 : ∀ y ∈ pre, y.1 < x.1) (h2 : ∀ y ∈ post, x.1 < y.1) : RankL (pre ++ x :: post) := by
  unfold RankL at *
  rw [List.pairwise_append] at h
  rw [List.pairwise_append, List.pairwise_cons]
  refine ⟨h.1, ⟨h2, h.2.1⟩, fun a ha b hb => ?_⟩
  rcases List.mem_cons.1 hb with rfl | hb
  · exact h1 a ha
  · exact h.2.2 a ha b hb
theorem lot_self {pre post : List Tri} {x : Tri} (h : RankL (pre ++ x :: post)) : lotAt (pre ++ x :: post) x.1 = x.2 := by
  obtain ⟨h1, -, -⟩ := rank_parts h
  unfold lotAt
  rw [List.find?_append, List.find?_eq_none.2 (fun y hy => by have := h1 y hy; simp; omega), List.find?_cons_of_pos (by simp)]
  rfl
theorem lot_gone {pre post : List Tri} {x : Tri} (h : RankL (pre ++ x :: post)) : lotAt (pre ++ post) x.1 = (0, 0) := by
  obtain ⟨h1, h2, -⟩ := rank_parts h
  refine lot_none fun y hy => ?_
  rcases List.mem_append.1 hy with hy | hy
  · have := h1 y hy; omega
  · have := h2 y hy; omega
/-- where the search of a price ends -/
theorem found_split {lv : List Tri} {p : Int} {k : Nat} (hk : k ≤ lv.length) (h1 : ∀ i (hi : i < lv.length), i < k → cmpL lv[i].1 p < 0) (h2 : ∀ i (hi : i < lv.length), k ≤ i → 0 ≤ cmpL lv[i].1 p) :
    lv = lv.take k ++ lv.drop k ∧ (∀ y ∈ lv.take k, y.1 < p) ∧ (∀ y ∈ lv.drop k, p ≤ y.1) := by
  refine ⟨(List.take_append_drop k lv).symm, fun y hy => ?_, fun y hy => ?_⟩
  · obtain ⟨i, hi, rfl⟩ := List.mem_iff_getElem.1 hy
    rw [List.length_take] at hi
    rw [List.getElem_take]
    have := h1 i (by omega) (by omega)
    unfold cmpL at this
    omega
  · obtain ⟨i, hi, rfl⟩ := List.mem_iff_getElem.1 hy
    rw [List.length_drop] at hi
    rw [List.getElem_drop]
    have := h2 (k + i) (by omega) (by omega)
    unfold cmpL at this
    omega

structure IndM (w : World) (X : Nat) (t : TypeId) (cs : Array Value) (o : Nat) (A : Option Addr) (c : Nat) (lv : List Tri) (bu se : Int) : Prop where
  blk : Blk w X t cs
  c0 : cs[o]? = some (.slice A lv.length c)
  c1 : cs[o + 1]? = some (.int .i64 bu)
  c2 : cs[o + 2]? = some (.int .i64 se)
  row : RowAt w A lv.length c 63 3 (flat encT lv)
  na : blkOf A ≠ some X
  ok : LvOk lv
/-- behind turns: the other cells of the block are what they were -/
def IndTo (w w' : World) (X : Nat) (t : TypeId) (cs : Array Value) (o : Nat) (A : Option Addr) (lv' : List Tri) (bu' se' : Int) : Prop :=
  ∃ cs' A' c', IndM w' X t cs' o A' c' lv' bu' se' ∧ cs'.size = cs.size ∧ (∀ i, i ≠ o → i ≠ o + 1 → i ≠ o + 2 → cs'[i]? = cs[i]?) ∧ Keeps (fun i => i = X ∨ blkOf A = some i) w w' ∧ ∀ g, blkOf A' = some g → blkOf A = some g ∨ w.heap.size ≤ g

section
variable {w w' : World} {X : Nat} {t : TypeId} {cs : Array Value} {o : Nat} {A : Option Addr} {c : Nat} {lv : List Tri} {bu se : Int}
theorem IndM.cells (h : IndM w X t cs o A c lv bu se) : w.cell? ⟨X, o, none⟩ = some (.slice A lv.length c) ∧ w.cell? ⟨X, o + 1, none⟩ = some (.int .i64 bu) ∧ w.cell? ⟨X, o + 2, none⟩ = some (.int .i64 se) :=
  ⟨by rw [Blk.cell h.blk]; exact h.c0, by rw [Blk.cell h.blk]; exact h.c1, by rw [Blk.cell h.blk]; exact h.c2⟩
theorem IndM.keeps {S : Nat → Prop} (h : IndM w X t cs o A c lv bu se) (hk : Keeps S w w') (h1 : ¬ S X) (h2 : ∀ g, blkOf A = some g → ¬ S g) : IndM w' X t cs o A c lv bu se :=
  ⟨Blk.keeps h.blk hk h1, h.c0, h.c1, h.c2, h.row.keeps hk h2, h.na, h.ok⟩
theorem IndM.below (h : IndM w X t cs o A c lv bu se) (hb : Below w.heap.size w w') : IndM w' X t cs o A c lv bu se := h.keeps (Keeps.of_below hb (fun _ => False)) id (fun _ _ => id)
theorem IndTo.same (h : IndM w X t cs o A c lv bu se) (hb : Below w.heap.size w w') : IndTo w w' X t cs o A lv bu se :=
  ⟨cs, A, c, h.below hb, rfl, fun _ _ _ _ => rfl, Keeps.of_below hb _, fun g hg => .inl hg⟩
theorem IndTo.then_ {w'' : World} {lv' : List Tri} {bu' se' : Int} (h : IndTo w w' X t cs o A lv' bu' se') (hb : Below w'.heap.size w' w'') : IndTo w w'' X t cs o A lv' bu' se' := by
  obtain ⟨cs', A', c', h1, h2, h3, h4, h5⟩ := h
  exact ⟨cs', A', c', h1.below hb, h2, h3, h4.then_ hb, h5⟩
/-- lots at any price -/
theorem IndM.market (h : IndM w X t cs o A c lv bu se) (hb : Below w.heap.size w w') (bu' se' : Int) (j : Nat) (v : Int) (hj : (j = 1 ∧ bu' = v ∧ se' = se) ∨ (j = 2 ∧ bu' = bu ∧ se' = v)) :
    IndTo w (w'.setCell ⟨X, o + j, none⟩ (.int .i64 v)) X t cs o A lv bu' se' := by
  have hs : ∀ i : Nat, (∃ u, cs[i]? = some u) → i < cs.size := fun i ⟨u, hu⟩ => (Array.getElem?_eq_some_iff.1 hu).1
  have s1 := hs _ ⟨_, h.c1⟩
  have s2 := hs _ ⟨_, h.c2⟩
  have h' := h.below hb
  have hk := Keeps.set_ w' ⟨X, o + j, none⟩ (.int .i64 v)
  refine ⟨cs.setIfInBounds (o + j) (.int .i64 v), A, c, ⟨Blk.set_ h'.blk (o + j) _, ?_, ?_, ?_, h'.row.keeps hk (fun g hg e => h.na (by rw [hg]; exact congrArg some e)), h.na, h.ok⟩, by simp, fun i h1 h2 h3 => ?_, (Keeps.of_below hb _).trans hk (fun i e => .inl (.inl e)), fun g hg => .inl hg⟩
  · rw [Array.getElem?_setIfInBounds_ne (by rcases hj with ⟨rfl, _⟩ | ⟨rfl, _⟩ <;> omega)]; exact h.c0
  · rcases hj with ⟨rfl, rfl, rfl⟩ | ⟨rfl, rfl, rfl⟩
    · rw [Array.getElem?_setIfInBounds_self_of_lt s1]
    · rw [Array.getElem?_setIfInBounds_ne (by omega)]; exact h.c1
  · rcases hj with ⟨rfl, rfl, rfl⟩ | ⟨rfl, rfl, rfl⟩
    · rw [Array.getElem?_setIfInBounds_ne (by omega)]; exact h.c2
    · rw [Array.getElem?_setIfInBounds_self_of_lt s2]
  · rw [Array.getElem?_setIfInBounds_ne (by rcases hj with ⟨rfl, _⟩ | ⟨rfl, _⟩ <;> omega)]
end

def dB (o : Ord5) : Int := if o.side = 1 then o.qty else 0
def dS (o : Ord5) : Int := if o.side = 1 then 0 else o.qty
/-- an order that counts -/
def RightO (o : Ord5) : Prop := (o.side = 1 ∨ o.side = 2) ∧ (1 ≤ o.qty ∧ o.qty ≤ 1000000) ∧ (o.kind = 2 ∨ (1 ≤ o.price ∧ o.price ≤ 1000000))
/-- the lots with an order more -/
def AddSpec (lv : List Tri) (bu se : Int) (o : Ord5) (lv' : List Tri) (bu' se' : Int) : Prop :=
  (o.kind = 2 ∧ lv' = lv ∧ bu' = bu + dB o ∧ se' = se + dS o) ∨
  (o.kind ≠ 2 ∧ bu' = bu ∧ se' = se ∧ lv'.length ≤ lv.length + 1 ∧ ∀ p, lotAt lv' p = if p = o.price then ((lotAt lv p).1 + dB o, (lotAt lv p).2 + dS o) else lotAt lv p)
/-- all numbers are small -/
structure Small (lv : List Tri) (bu se : Int) : Prop where
  b : 0 ≤ bu ∧ bu ≤ 1000000000000000
  s : 0 ≤ se ∧ se ≤ 1000000000000000
  l : ∀ x ∈ lv, x.2.1 ≤ 1000000000000000 ∧ x.2.2 ≤ 1000000000000000
  n : lv.length ≤ 99999
theorem flatT_set {lv : List Tri} {k : Nat} (hk : k < lv.length) (y : Tri) (h : y.1 = lv[k].1) : ((flat encT lv).set (k * 3 + 1) (.int .i64 y.2.1)).set (k * 3 + 2) (.int .i64 y.2.2) = flat encT (lv.set k y) := by
  have h0 : (flat encT lv)[k * 3 + 0]? = some (.int .i64 y.1) := by rw [h]; exact flat_get encT_length lv k hk 0 (by omega)
  refine Eq.trans ?_ (flat_sets encT_length y lv k hk)
  show _ = (((flat encT lv).set (k * 3) (.int .i64 y.1)).set (k * 3 + 1) (.int .i64 y.2.1)).set (k * 3 + 2) (.int .i64 y.2.2)
  have hs : (flat encT lv).set (k * 3) (.int .i64 y.1) = flat encT lv := by
    apply List.ext_getElem?
    intro j
    by_cases e : k * 3 = j
    · subst e
      have hi := (List.getElem?_eq_some_iff.1 h0).1
      rw [List.getElem?_set_self (by simpa using hi)]
      exact h0.symm
    · rw [List.getElem?_set_ne e]
  rw [hs]
theorem flatT_set1 {lv : List Tri} {k : Nat} (hk : k < lv.length) (v : Int) : (flat encT lv).set (k * 3 + 1) (.int .i64 v) = flat encT (lv.set k (lv[k].1, v, lv[k].2.2)) := by
  rw [← flatT_set hk (lv[k].1, v, lv[k].2.2) rfl]
  dsimp only
  have h2 : (flat encT lv)[k * 3 + 2]? = some (.int .i64 lv[k].2.2) := flat_get encT_length lv k hk 2 (by omega)
  apply List.ext_getElem?
  intro j
  by_cases e : k * 3 + 2 = j
  · subst e
    have hi := (List.getElem?_eq_some_iff.1 h2).1
    rw [List.getElem?_set_self (by simpa using hi), List.getElem?_set_ne (by omega)]
    exact h2
  · rw [List.getElem?_set_ne e]
theorem flatT_set2 {lv : List Tri} {k : Nat} (hk : k < lv.length) (v : Int) : (flat encT lv).set (k * 3 + 2) (.int .i64 v) = flat encT (lv.set k (lv[k].1, lv[k].2.1, v)) := by
  rw [← flatT_set hk (lv[k].1, lv[k].2.1, v) rfl]
  dsimp only
  have h2 : (flat encT lv)[k * 3 + 1]? = some (.int .i64 lv[k].2.1) := flat_get encT_length lv k hk 1 (by omega)
  congr 1
  apply List.ext_getElem?
  intro j
  by_cases e : k * 3 + 1 = j
  · subst e
    have hi := (List.getElem?_eq_some_iff.1 h2).1
    rw [List.getElem?_set_self (by simpa using hi)]
    exact h2
  · rw [List.getElem?_set_ne e]
theorem lv_cells {w : World} {g n c : Nat} {lv : List Tri} (h : RowAt w (some ⟨g, 0, none⟩) n c 63 3 (flat encT lv)) {k : Nat} (hk : k < lv.length) :
    w.cell? ⟨g, k * 3, none⟩ = some (.int .i64 lv[k].1) ∧ w.cell? ⟨g, k * 3 + 1, none⟩ = some (.int .i64 lv[k].2.1) ∧ w.cell? ⟨g, k * 3 + 2, none⟩ = some (.int .i64 lv[k].2.2) := by
  obtain ⟨g0, hg, hc⟩ := h.elem encT_length (by omega) hk
  cases hg
  exact ⟨hc 0 _ rfl, hc 1 _ rfl, hc 2 _ rfl⟩

/-- the level of a price is there, for the time being -/
structure LvMid (w wx : World) (X : Nat) (t : TypeId) (cs : Array Value) (o : Nat) (A : Option Addr) (lv : List Tri) (bu se : Int) (p : Int) (k : Nat) (cs1 : Array Value) (A1 : Option Addr) (c1 : Nat) (lv1 : List Tri) (b s : Int) : Prop where
  blk : Blk wx X t cs1
  c0 : cs1[o]? = some (.slice A1 lv1.length c1)
  c1_ : cs1[o + 1]? = some (.int .i64 bu)
  c2 : cs1[o + 2]? = some (.int .i64 se)
  size : cs1.size = cs.size
  rest : ∀ i, i ≠ o → i ≠ o + 1 → i ≠ o + 2 → cs1[i]? = cs[i]?
  row : RowAt wx A1 lv1.length c1 63 3 (flat encT lv1)
  na : blkOf A1 ≠ some X
  kk : lv1[k]? = some (p, b, s)
  rank : RankL lv1
  old : ∀ x ∈ lv1, x.1 ≠ p → x ∈ lv
  same : ∀ p', p' ≠ p → lotAt lv1 p' = lotAt lv p'
  len : lv1.length ≤ lv.length + 1
  keep : Keeps (fun i => i = X ∨ blkOf A = some i) w wx
  fresh : ∀ g, blkOf A1 = some g → blkOf A = some g ∨ w.heap.size ≤ g
section
variable {w w' wx : World} {X : Nat} {t : TypeId} {cs : Array Value} {o : Nat} {A : Option Addr} {c : Nat} {lv : List Tri} {bu se p : Int} {k : Nat}
theorem LvMid.found (h : IndM w X t cs o A c lv bu se) (hb : Below w.heap.size w wx) (hk : k < lv.length) (hp : lv[k].1 = p) : LvMid w wx X t cs o A lv bu se p k cs A c lv lv[k].2.1 lv[k].2.2 ∧ lotAt lv p = (lv[k].2.1, lv[k].2.2) := by
  have h' := h.below hb
  have e : lv = lv.take k ++ lv[k] :: lv.drop (k + 1) := by rw [← List.drop_eq_getElem_cons hk, List.take_append_drop]
  refine ⟨⟨h'.blk, h.c0, h.c1, h.c2, rfl, fun _ _ _ _ => rfl, h'.row, h.na, ?_, h.ok.rank, fun x hx _ => hx, fun _ _ => rfl, Nat.le_succ _, Keeps.of_below hb _, fun g hg => .inl hg⟩, ?_⟩
  · rw [List.getElem?_eq_getElem hk, ← hp]
  · have h1 := lot_self (pre := lv.take k) (post := lv.drop (k + 1)) (x := lv[k]) (by rw [← e]; exact h.ok.rank)
    rw [← e, hp] at h1
    exact h1
theorem LvMid.new_ {w3 : World} {A1 : Option Addr} {c1 : Nat} (h : IndM w X t cs o A c lv bu se) (hb : Below w.heap.size w wx) (hk : k ≤ lv.length) (h1 : ∀ i (hi : i < lv.length), i < k → cmpL lv[i].1 p < 0) (h2 : ∀ i (hi : i < lv.length), k ≤ i → 0 ≤ cmpL lv[i].1 p) (hn : ∀ x ∈ lv, x.1 ≠ p)
    (hi : InsToL wx w3 A A1 (lv.length + 1) c1 (lv.take k ++ (p, 0, 0) :: lv.drop k)) :
    LvMid w (w3.setCell ⟨X, o, none⟩ (.slice A1 (lv.length + 1) c1)) X t cs o A lv bu se p k (cs.setIfInBounds o (.slice A1 (lv.length + 1) c1)) A1 c1 (lv.take k ++ (p, 0, 0) :: lv.drop k) 0 0 ∧ lotAt lv p = (0, 0) := by
  obtain ⟨hr, hke, hf⟩ := hi
  have h' := h.below hb
  have hXl := Blk.lt h.blk
  have so : o < cs.size := (Array.getElem?_eq_some_iff.1 h.c0).1
  have hX3 : Blk w3 X t cs := Blk.keeps h'.blk hke (fun e => h.na e)
  have hna : blkOf A1 ≠ some X := fun e => by
    rcases hf X e with h3 | h3
    · exact h.na h3
    · have := hb.size; omega
  have hlen : (lv.take k ++ (p, 0, 0) :: lv.drop k).length = lv.length + 1 := by simp; omega
  have hkS := Keeps.set_ w3 ⟨X, o, none⟩ (.slice A1 (lv.length + 1) c1)
  obtain ⟨e0, e1, e2⟩ := found_split hk h1 h2
  have hrk : RankL (lv.take k ++ (p, 0, 0) :: lv.drop k) := rank_put (by rw [← e0]; exact h.ok.rank) e1 (fun y hy => by
    have h3 := e2 y hy
    have h4 := hn y (List.mem_of_mem_drop hy)
    omega)
  refine ⟨⟨Blk.set_ hX3 o _, ?_, ?_, ?_, by simp, fun i h3 h4 h5 => ?_, ?_, hna, ?_, hrk, fun x hx hne => ?_, fun p' hp' => ?_, by rw [hlen]; exact Nat.le_refl _, ?_, fun g hg => ?_⟩, lot_none hn⟩
  · rw [Array.getElem?_setIfInBounds_self_of_lt so, hlen]
  · rw [Array.getElem?_setIfInBounds_ne (by omega)]; exact h.c1
  · rw [Array.getElem?_setIfInBounds_ne (by omega)]; exact h.c2
  · rw [Array.getElem?_setIfInBounds_ne (by omega)]
  · rw [hlen]
    exact hr.keeps hkS (fun g hg e => hna (by rw [hg]; exact congrArg some e))
  · have hl : (lv.take k).length = k := by rw [List.length_take]; omega
    rw [List.getElem?_append_right (by omega), hl, Nat.sub_self]
    rfl
  · rcases List.mem_append.1 hx with hx | hx
    · exact List.mem_of_mem_take hx
    · rcases List.mem_cons.1 hx with rfl | hx
      · exact absurd rfl hne
      · exact List.mem_of_mem_drop hx
  · rw [lot_other (x := (p, 0, 0)) hp', ← e0]
  · exact ((Keeps.of_below hb _).trans hke (fun i e => .inl (.inr e))).trans hkS (fun i e => .inl (.inl e))
  · rcases hf g hg with h3 | h3
    · exact .inl h3
    · exact .inr (Nat.le_trans hb.size h3)
theorem Small.lot (hs : Small lv bu se) (hk : LvOk lv) (p : Int) : (0 ≤ (lotAt lv p).1 ∧ (lotAt lv p).1 ≤ 1000000000000000) ∧ (0 ≤ (lotAt lv p).2 ∧ (lotAt lv p).2 ≤ 1000000000000000) := by
  unfold lotAt
  cases hf : lv.find? (fun x => x.1 == p) with
  | none => exact ⟨⟨Int.le_refl 0, by decide⟩, ⟨Int.le_refl 0, by decide⟩⟩
  | some x =>
    have hm := List.mem_of_find?_eq_some hf
    have h1 := hk.nz x hm
    have h2 := hs.l x hm
    exact ⟨⟨h1.1, h2.1⟩, ⟨h1.2.1, h2.2⟩⟩
theorem LvMid.parts {cs1 : Array Value} {A1 : Option Addr} {c1 : Nat} {lv1 : List Tri} {b s : Int} (h : LvMid w wx X t cs o A lv bu se p k cs1 A1 c1 lv1 b s) : ∃ (hk : k < lv1.length), lv1[k] = (p, b, s) ∧ lv1 = lv1.take k ++ (p, b, s) :: lv1.drop (k + 1) := by
  obtain ⟨hk, e⟩ := List.getElem?_eq_some_iff.1 h.kk
  exact ⟨hk, e, by rw [← e, ← List.drop_eq_getElem_cons hk, List.take_append_drop]⟩
theorem LvMid.put {cs1 : Array Value} {g c1 : Nat} {lv1 : List Tri} {b s b' s' : Int} (h : LvMid w wx X t cs o A lv bu se p k cs1 (some ⟨g, 0, none⟩) c1 lv1 b s) (j : Nat) (v : Int) (hj : (j = 1 ∧ b' = v ∧ s' = s) ∨ (j = 2 ∧ b' = b ∧ s' = v)) :
    LvMid w (wx.setCell ⟨g, k * 3 + j, none⟩ (.int .i64 v)) X t cs o A lv bu se p k cs1 (some ⟨g, 0, none⟩) c1 (lv1.set k (p, b', s')) b' s' := by
  obtain ⟨hk, hkv, he⟩ := h.parts
  have hgX : X ≠ g := fun e => h.na (by rw [e]; rfl)
  have hks := Keeps.set_ wx ⟨g, k * 3 + j, none⟩ (.int .i64 v)
  have hes : lv1.set k (p, b', s') = lv1.take k ++ (p, b', s') :: lv1.drop (k + 1) := by
    rw [List.set_eq_take_append_cons_drop, if_pos hk]
  have hr := h.rank
  rw [he] at hr
  obtain ⟨r1, r2, r3⟩ := rank_parts hr
  have hrw := h.row.set (k * 3 + j) (.int .i64 v)
  refine ⟨Blk.keeps h.blk hks hgX, by rw [List.length_set]; exact h.c0, h.c1_, h.c2, h.size, h.rest, ?_, h.na, by rw [List.getElem?_set_self hk], by rw [hes]; exact rank_put r3 r1 r2, fun x hx hne => ?_, fun p' hp' => ?_, by rw [List.length_set]; exact h.len, h.keep.trans hks (fun i e => ?_), h.fresh⟩
  · rw [List.length_set]
    rcases hj with ⟨rfl, rfl, rfl⟩ | ⟨rfl, rfl, rfl⟩
    · rw [flatT_set1 hk, hkv] at hrw; exact hrw
    · rw [flatT_set2 hk, hkv] at hrw; exact hrw
  · rcases List.mem_or_eq_of_mem_set hx with hx | rfl
    · exact h.old x hx hne
    · exact absurd rfl hne
  · rw [hes, lot_other (x := (p, b', s')) hp', ← lot_other (x := (p, b, s)) hp', ← he]
    exact h.same p' hp'
  · have e : i = g := e
    subst e
    exact (h.fresh i rfl).imp .inr id
theorem LvMid.ok {cs1 : Array Value} {A1 : Option Addr} {c1 : Nat} {lv1 : List Tri} {b s : Int} (h : LvMid w wx X t cs o A lv bu se p k cs1 A1 c1 lv1 b s) (hk : LvOk lv) {x : Tri} (hx : x ∈ lv1) (hne : x.1 ≠ p) : (0 ≤ x.2.1 ∧ 0 ≤ x.2.2 ∧ (x.2.1 ≠ 0 ∨ x.2.2 ≠ 0)) ∧ (1 ≤ x.1 ∧ x.1 ≤ 1000000) :=
  ⟨hk.nz x (h.old x hx hne), hk.pr x (h.old x hx hne)⟩
theorem LvMid.done {cs1 : Array Value} {A1 : Option Addr} {c1 : Nat} {lv1 : List Tri} {b s : Int} (h : LvMid w wx X t cs o A lv bu se p k cs1 A1 c1 lv1 b s) (hk : LvOk lv) (hp : 1 ≤ p ∧ p ≤ 1000000) (hb : 0 ≤ b) (hs : 0 ≤ s) (hz : ¬ (b = 0 ∧ s = 0)) :
    ∃ lv', IndTo w wx X t cs o A lv' bu se ∧ lv'.length ≤ lv.length + 1 ∧ ∀ p', lotAt lv' p' = if p' = p then (b, s) else lotAt lv p' := by
  obtain ⟨hkk, hkv, he⟩ := h.parts
  refine ⟨lv1, ⟨cs1, A1, c1, ⟨h.blk, h.c0, h.c1_, h.c2, h.row, h.na, ⟨h.rank, fun x hx => ?_, fun x hx => ?_⟩⟩, h.size, h.rest, h.keep, h.fresh⟩, h.len, fun p' => ?_⟩
  · by_cases e : x.1 = p
    · have hr := h.rank
      rw [he] at hr hx
      obtain ⟨r1, r2, -⟩ := rank_parts hr
      rcases List.mem_append.1 hx with hx | hx
      · have h1 : x.1 < p := r1 x hx; omega
      · rcases List.mem_cons.1 hx with rfl | hx
        · exact ⟨hb, hs, by dsimp only; omega⟩
        · have h1 : p < x.1 := r2 x hx; omega
    · exact (h.ok hk hx e).1
  · by_cases e : x.1 = p
    · rw [e]; exact hp
    · exact (h.ok hk hx e).2
  · by_cases e : p' = p
    · rw [if_pos e, e, he]
      exact lot_self (x := (p, b, s)) (by rw [← he]; exact h.rank)
    · rw [if_neg e]
      exact h.same p' e
theorem LvMid.del {w3 : World} {cs1 : Array Value} {g c1 m : Nat} {lv1 : List Tri} (h : LvMid w wx X t cs o A lv bu se p k cs1 (some ⟨g, 0, none⟩) c1 lv1 0 0) (hk : LvOk lv) (hb : Below wx.heap.size wx w') (hm : lv1.length = m + 1)
    (hr : RowAt w3 (some ⟨g, 0, none⟩) m c1 63 3 (flat encT (lv1.take k ++ lv1.drop (k + 1)))) (hke : Keeps (fun x => x = g) w' w3) :
    ∃ lv', IndTo w (w3.setCell ⟨X, o, none⟩ (.slice (some ⟨g, 0, none⟩) m c1)) X t cs o A lv' bu se ∧ lv'.length ≤ lv.length + 1 ∧ ∀ p', lotAt lv' p' = if p' = p then (0, 0) else lotAt lv p' := by
  obtain ⟨hkk, hkv, he⟩ := h.parts
  have hgX : X ≠ g := fun e => h.na (by rw [e]; rfl)
  have so : o < cs1.size := (Array.getElem?_eq_some_iff.1 h.c0).1
  have hl : (lv1.take k ++ lv1.drop (k + 1)).length = m := by simp; omega
  have hkS := Keeps.set_ w3 ⟨X, o, none⟩ (.slice (some ⟨g, 0, none⟩) m c1)
  have hB3 : Blk w3 X t cs1 := Blk.keeps (Blk.keep h.blk hb) hke hgX
  have hrk := h.rank
  rw [he] at hrk
  obtain ⟨r1, r2, r3⟩ := rank_parts hrk
  have hin : ∀ x ∈ lv1.take k ++ lv1.drop (k + 1), x ∈ lv1 ∧ x.1 ≠ p := fun x hx => by
    rcases List.mem_append.1 hx with hx | hx
    · have h1 : x.1 < p := r1 x hx
      exact ⟨List.mem_of_mem_take hx, by omega⟩
    · have h1 : p < x.1 := r2 x hx
      exact ⟨List.mem_of_mem_drop hx, by omega⟩
  refine ⟨_, ⟨cs1.setIfInBounds o (.slice (some ⟨g, 0, none⟩) m c1), some ⟨g, 0, none⟩, c1, ⟨Blk.set_ hB3 o _, ?_, ?_, ?_, ?_, h.na, ⟨r3, fun x hx => (h.ok hk (hin x hx).1 (hin x hx).2).1, fun x hx => (h.ok hk (hin x hx).1 (hin x hx).2).2⟩⟩, by simp [h.size], fun i h1 h2 h3 => ?_, ?_, h.fresh⟩, by rw [hl]; have := h.len; omega, fun p' => ?_⟩
  · rw [Array.getElem?_setIfInBounds_self_of_lt so, hl]
  · rw [Array.getElem?_setIfInBounds_ne (by omega)]; exact h.c1_
  · rw [Array.getElem?_setIfInBounds_ne (by omega)]; exact h.c2
  · rw [hl]
    exact hr.keeps hkS (fun g' hg e => hgX (by cases hg; exact e.symm))
  · rw [Array.getElem?_setIfInBounds_ne (by omega)]; exact h.rest i h1 h2 h3
  · refine ((h.keep.trans (Keeps.of_below hb (fun _ => False)) (fun _ e => e.elim)).trans hke (fun i e => ?_)).trans hkS (fun i e => .inl (.inl e))
    have e : i = g := e
    subst e
    exact (h.fresh i rfl).imp .inr id
  · by_cases e : p' = p
    · rw [if_pos e, e]
      exact lot_gone (x := (p, 0, 0)) hrk
    · rw [if_neg e, ← lot_other (x := (p, 0, 0)) e, ← he]
      exact h.same p' e
end
end Go.Proofs.YteggaehelnmhnaaDoor
