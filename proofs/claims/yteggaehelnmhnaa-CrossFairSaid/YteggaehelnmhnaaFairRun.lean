/-
  What lies in memory while openbellkeep.CrossFair looks at an auction: apart. No walk.
-/
import Derived.Test.YteggaehelnmhnaaBookRun
import Derived.Test.YteggaehelnmhnaaCrossFills
import Derived.Test.YteggaehelnmhnaaKeepWill
namespace Go.Proofs.Yteggaehelnmhnaa
open Go.RowKit
set_option linter.unusedVariables false

/-- the choice, and the orders -/
structure FairA (w0 w : World) (G : Nat → Prop) (Q : Nat) (t0 t1 t2 : Int) (AX : Option Addr) (cx : Nat) (x : List Ord5) : Prop where
  q : Blk w Q 27 #[.int .i64 t0, .int .i64 t1, .int .i64 t2]
  row : RowAt w AX x.length cx 37 5 (flat encO x)
  fpQ : ¬ G Q
  fpX : ∀ i, blkOf AX = some i → ¬ G i
  neQ : ∀ i, blkOf AX = some i → i ≠ Q
section
variable {w0 w w' : World} {b : Nat} {G : Nat → Prop} {M1 M2 M1' M2' : List Ord5} {Q : Nat} {t0 t1 t2 : Int} {AX : Option Addr} {cx : Nat} {x : List Ord5}
theorem FairA.keeps {S : Nat → Prop} (h : FairA w0 w G Q t0 t1 t2 AX cx x) (hk : Keeps S w w') (h1 : ¬ S Q) (h2 : ∀ i, blkOf AX = some i → ¬ S i) : FairA w0 w' G Q t0 t1 t2 AX cx x :=
  ⟨Blk.keeps h.q hk h1, h.row.keeps hk h2, h.fpQ, h.fpX, h.neQ⟩
theorem FairA.below (h : FairA w0 w G Q t0 t1 t2 AX cx x) (hb : Below w.heap.size w w') : FairA w0 w' G Q t0 t1 t2 AX cx x := h.keeps (Keeps.of_below hb (fun _ => False)) id (fun _ _ => id)
theorem FairA.turn {G' : Nat → Prop} (h : FairA w0 w G Q t0 t1 t2 AX cx x) (hs : BStep w w' G G') : FairA w0 w' G' Q t0 t1 t2 AX cx x := by
  refine ⟨Blk.keeps h.q hs.1 h.fpQ, h.row.keeps hs.1 h.fpX, fun hg => ?_, fun i hi hg => ?_, h.neQ⟩
  · rcases hs.2 _ hg with h1 | h1
    · exact h.fpQ h1
    · have := Blk.lt h.q; omega
  · rcases hs.2 _ hg with h1 | h1
    · exact h.fpX i hi h1
    · have := h.row.lt hi; omega
theorem FairA.cells (h : FairA w0 w G Q t0 t1 t2 AX cx x) : w.cell? ⟨Q, 0, none⟩ = some (.int .i64 t0) ∧ w.cell? ⟨Q, 1, none⟩ = some (.int .i64 t1) := ⟨by rw [Blk.cell h.q]; rfl, by rw [Blk.cell h.q]; rfl⟩
end

/-- the trades, and how many lots each number traded -/
structure FairE (w0 w : World) (b : Nat) (G : Nat → Prop) (M1 M2 : List Ord5) (bl : Nat) (A1 : Option Addr) (c1 : Nat) (A2 : Option Addr) (c2 : Nat) (L1 L2 : List Ord5) (Q : Nat) (t0 t1 t2 : Int) (AX : Option Addr) (cx : Nat) (x : List Ord5) (AF : Option Addr) (cf : Nat) (F : List Fill4) (T : Nat) : Prop where
  run : Run w0 w b G M1 M2 bl A1 c1 A2 c2 L1 L2 none 0 []
  fa : FairA w0 w G Q t0 t1 t2 AX cx x
  rf : RowAt w AF F.length cf 46 4 (flat encFl F)
  neG : ¬ G T
  neX : ¬ RunX bl A1 A2 none T
  neQ : Q ≠ T
  neA : blkOf AX ≠ some T
  neF : blkOf AF ≠ some T
  newT : w0.heap.size ≤ T
section
variable {w0 w w' : World} {b : Nat} {G : Nat → Prop} {M1 M2 : List Ord5} {bl : Nat} {A1 : Option Addr} {c1 : Nat} {A2 : Option Addr} {c2 : Nat} {L1 L2 : List Ord5} {Q : Nat} {t0 t1 t2 : Int} {AX : Option Addr} {cx : Nat} {x : List Ord5} {AF : Option Addr} {cf : Nat} {F : List Fill4} {T : Nat}
theorem FairE.keeps (h : FairE w0 w b G M1 M2 bl A1 c1 A2 c2 L1 L2 Q t0 t1 t2 AX cx x AF cf F T) (hk : Keeps (fun i => i = T) w w') : FairE w0 w' b G M1 M2 bl A1 c1 A2 c2 L1 L2 Q t0 t1 t2 AX cx x AF cf F T := by
  have R := h.run
  refine ⟨⟨R.book.keeps hk (fun i hi e => h.neG (e ▸ hi)), Blk.keeps R.was hk (fun e => h.neX (e ▸ .inl rfl)), R.r1.keeps hk (fun g hg e => h.neX (e ▸ .inr (.inl hg))), R.r2.keeps hk (fun g hg e => h.neX (e ▸ .inr (.inr (.inl hg)))), R.rd.keeps hk (fun g hg e => h.neX (e ▸ .inr (.inr (.inr hg)))), R.fp, R.dw, R.old.trans (hk.below (fun i e => e ▸ h.newT) R.old.size), R.newG, R.newX⟩,
    h.fa.keeps hk h.neQ (fun i hi e => h.neA (e ▸ hi)), h.rf.keeps hk (fun g hg e => h.neF (e ▸ hg)), h.neG, h.neX, h.neQ, h.neA, h.neF, h.newT⟩
theorem FairE.below (h : FairE w0 w b G M1 M2 bl A1 c1 A2 c2 L1 L2 Q t0 t1 t2 AX cx x AF cf F T) (hb : Below w.heap.size w w') : FairE w0 w' b G M1 M2 bl A1 c1 A2 c2 L1 L2 Q t0 t1 t2 AX cx x AF cf F T :=
  ⟨h.run.below hb, h.fa.below hb, h.rf.below hb, h.neG, h.neX, h.neQ, h.neA, h.neF, h.newT⟩
/-- at the beginning: behind Fills and make -/
theorem FairE.start {G' : Nat → Prop} {wf wt : World} {a : Int} (hr : Run w0 w b G L1 L2 bl A1 c1 A2 c2 L1 L2 none 0 []) (hfa : FairA w0 w G Q t0 t1 t2 AX cx x) (hc : CrossAt w wf b G G' L1 L2 a AF cf F) (hw : Below wf.heap.size wf wt) (hT : T = wf.heap.size) :
    FairE w0 wt b G' (dropQ L1 a) (dropQ L2 a) bl A1 c1 A2 c2 L1 L2 Q t0 t1 t2 AX cx x AF cf F T := by
  obtain ⟨G2, hr2⟩ : ∃ G2, G2 = G' ∧ Run w0 wf b G2 (dropQ L1 a) (dropQ L2 a) bl A1 c1 A2 c2 L1 L2 none 0 [] := by
    refine ⟨G', rfl, hc.book, Blk.keeps hr.was hc.step.1 (hr.fp _ (.inl rfl)), hr.r1.keeps hc.step.1 (fun g hg => hr.fp _ (.inr (.inl hg))), hr.r2.keeps hc.step.1 (fun g hg => hr.fp _ (.inr (.inr (.inl hg)))), hr.rd.keeps hc.step.1 (fun g hg => hr.fp _ (.inr (.inr (.inr hg)))), ?_, hr.dw, ?_, ?_, hr.newX⟩
    · intro i hi hg
      rcases hc.step.2 i hg with h1 | h1
      · exact hr.fp i hi h1
      · have := hr.lt hi; omega
    · exact hr.old.trans (hc.step.1.below hr.newG hr.old.size)
    · intro i hi
      rcases hc.step.2 i hi with h1 | h1
      · exact hr.newG i h1
      · exact Nat.le_trans hr.old.size h1
  obtain ⟨rfl, hr3⟩ := hr2
  have hf3 := hfa.turn hc.step
  refine ⟨hr3.below hw, hf3.below hw, hc.row.below hw, fun hg => ?_, fun hx => ?_, fun e => ?_, fun e => ?_, fun e => ?_, ?_⟩
  · have := hc.book.fp hg; omega
  · have := hr3.lt hx; omega
  · have := Blk.lt hf3.q; omega
  · have := hf3.row.lt e; omega
  · have := hc.row.lt e; omega
  · rw [hT]; exact hr3.old.size
end

/-- how many lots a number traded -/
def lotsOf (F : List Fill4) (id : Int) : Int := sumN (fun f => if f.b = id then f.n else 0) F + sumN (fun f => if f.s = id then f.n else 0) F
theorem lotsOf_snoc (F : List Fill4) (f : Fill4) (id : Int) : lotsOf (F ++ [f]) id = lotsOf F id + (if f.b = id then f.n else 0) + (if f.s = id then f.n else 0) := by
  unfold lotsOf
  rw [sumN_snoc, sumN_snoc]
  omega
def trL (n : Nat) (g : Int → Int) : List Int := (List.range (n + 1)).map fun i => g (i : Nat)
theorem trL_length (n : Nat) (g : Int → Int) : (trL n g).length = n + 1 := by simp [trL]
theorem trL_at {n k : Nat} {g : Int → Int} (h : k < (trL n g).length) : (trL n g)[k] = g k := by simp [trL]
theorem trL_set {n k : Nat} {g : Int → Int} (v : Int) : (trL n g).set k v = trL n (fun i => if i = (k : Nat) then v else g i) := by
  apply List.ext_getElem
  · simp [trL]
  · intro i h1 h2
    rw [List.getElem_set]
    simp only [trL, List.getElem_map, List.getElem_range]
    by_cases e : k = i
    · subst e; simp
    · rw [if_neg e, if_neg (by omega)]
theorem sumN_le {f g : Fill4 → Int} {F : List Fill4} (h : ∀ z ∈ F, f z ≤ g z) : sumN f F ≤ sumN g F := by
  induction F with
  | nil => simp [sumN]
  | cons a l ih =>
    have h1 := h a (by simp)
    have h2 := ih (fun z hz => h z (by simp [hz]))
    simp only [sumN]
    omega
theorem sumN_nonneg {f : Fill4 → Int} {F : List Fill4} (h : ∀ z ∈ F, 0 ≤ f z) : 0 ≤ sumN f F := by
  induction F with
  | nil => simp [sumN]
  | cons a l ih =>
    have h1 := h a (by simp)
    have h2 := ih (fun z hz => h z (by simp [hz]))
    simp only [sumN]
    omega
theorem sumN_append (g : Fill4 → Int) (l l' : List Fill4) : sumN g (l ++ l') = sumN g l + sumN g l' := by
  induction l with
  | nil => simp [sumN]
  | cons a l ih => simp only [List.cons_append, sumN, ih]; omega
theorem row_setN {g n c : Nat} {t : TypeId} {zs : List Int} {w : World} (h : RowAt w (some ⟨g, 0, none⟩) n c t 1 (flat encN zs)) (i : Nat) (v : Int) : RowAt (w.setCell ⟨g, i, none⟩ (.int .i64 v)) (some ⟨g, 0, none⟩) n c t 1 (flat encN (zs.set i v)) := by
  have h1 := h.set i (.int .i64 v)
  have e : (flat encN zs).set i (.int .i64 v) = flat encN (zs.set i v) := by
    unfold flat encN
    have : ∀ l : List Int, l.flatMap (fun i => [Value.int .i64 i]) = l.map (Value.int .i64) := fun l => by induction l <;> simp_all
    rw [this, this, List.map_set]
  rw [e] at h1
  exact h1

/-- the number of an order of the lists -/
theorem Built.num {x L1 L2 : List Ord5} (hb : Built x L1 L2) (hn : NumOk x) {o : Ord5} (ho : o ∈ L1 ++ L2) : ∃ k, ∃ hk : k < x.length, o.id = k + 1 ∧ o.side = x[k].side ∧ o.qty = x[k].qty := by
  obtain ⟨i, hi, -, rfl⟩ := (show Built (x.take x.length) L1 L2 by rw [List.take_length]; exact hb).of ho
  exact ⟨i, hi, hn.id i hi, rfl, rfl⟩
/-- one of the fills -/
theorem fill_ok {x L1 L2 : List Ord5} {p a : Int} {F : List Fill4} (hb : Built x L1 L2) (hn : NumOk x) (h : FillsOk L1 L2 p a F) {f : Fill4} (hf : f ∈ F) :
    f.p = p ∧ 1 ≤ f.n ∧ f.n ≤ a ∧ (∃ k, ∃ hk : k < x.length, f.b = k + 1 ∧ x[k].side = 1) ∧ (∃ k, ∃ hk : k < x.length, f.s = k + 1 ∧ x[k].side = 2) := by
  obtain ⟨h1, h2, ⟨o, ho, e1⟩, y, hy, e2⟩ := h.one f hf
  obtain ⟨k, hk, k1, k2, -⟩ := hb.num hn (List.mem_append_left _ ho)
  obtain ⟨j, hj, j1, j2, -⟩ := hb.num hn (List.mem_append_right _ hy)
  refine ⟨h1, h2, ?_, ⟨k, hk, by omega, by rw [← k2]; exact hb.s1 o ho⟩, j, hj, by omega, by rw [← j2]; exact hb.s2 y hy⟩
  obtain ⟨l1, l2, rfl⟩ := List.append_of_mem hf
  have hs := h.sum
  rw [sumN_append] at hs
  have h3 := sumN_nonneg (f := (·.n)) (F := l1) (fun z hz => by have := (h.one z (by simp [hz])).2.1; omega)
  have h4 := sumN_nonneg (f := (·.n)) (F := l2) (fun z hz => by have := (h.one z (by simp [hz])).2.1; omega)
  simp only [sumN] at hs
  omega
theorem lotsOf_bound {F : List Fill4} {t : Int} (h : ∀ z ∈ F, 1 ≤ z.n) (hs : sumN (·.n) F ≤ t) (id : Int) : 0 ≤ lotsOf F id ∧ lotsOf F id ≤ 2 * t := by
  unfold lotsOf
  have h1 : 0 ≤ sumN (fun f => if f.b = id then f.n else 0) F := sumN_nonneg fun z hz => by have := h z hz; split <;> omega
  have h2 : 0 ≤ sumN (fun f => if f.s = id then f.n else 0) F := sumN_nonneg fun z hz => by have := h z hz; split <;> omega
  have h3 : sumN (fun f => if f.b = id then f.n else 0) F ≤ sumN (·.n) F := sumN_le fun z hz => by have := h z hz; split <;> omega
  have h4 : sumN (fun f => if f.s = id then f.n else 0) F ≤ sumN (·.n) F := sumN_le fun z hz => by have := h z hz; split <;> omega
  omega
theorem sumN_take_le {F : List Fill4} (h : ∀ z ∈ F, 1 ≤ z.n) (i : Nat) : 0 ≤ sumN (·.n) (F.take i) ∧ sumN (·.n) (F.take i) ≤ sumN (·.n) F := by
  have e : F.take i ++ F.drop i = F := List.take_append_drop i F
  have h1 := sumN_append (·.n) (F.take i) (F.drop i)
  rw [e] at h1
  have h2 := sumN_nonneg (f := (·.n)) (F := F.drop i) (fun z hz => by have := h z (List.mem_of_mem_drop hz); omega)
  have h3 := sumN_nonneg (f := (·.n)) (F := F.take i) (fun z hz => by have := h z (List.mem_of_mem_take hz); omega)
  omega
theorem fill_cells {w : World} {gf nF cf : Nat} {F : List Fill4} (h : RowAt w (some ⟨gf, 0, none⟩) nF cf 46 4 (flat encFl F)) {i : Nat} (hi : i < F.length) :
    w.cell? ⟨gf, i * 4, none⟩ = some (.int .i64 F[i].b) ∧ w.cell? ⟨gf, i * 4 + 1, none⟩ = some (.int .i64 F[i].s) ∧ w.cell? ⟨gf, i * 4 + 2, none⟩ = some (.int .i64 F[i].p) ∧ w.cell? ⟨gf, i * 4 + 3, none⟩ = some (.int .i64 F[i].n) := by
  obtain ⟨g, hg, hc⟩ := h.elem encFl_length (by omega) hi
  cases hg
  exact ⟨hc 0 _ rfl, hc 1 _ rfl, hc 2 _ rfl, hc 3 _ rfl⟩
theorem tr_cell {w : World} {T m c n : Nat} {g : Int → Int} (h : RowAt w (some ⟨T, 0, none⟩) m c 3 1 (flat encN (trL n g))) {j : Nat} (hj : j < n + 1) : w.cell? ⟨T, j, none⟩ = some (.int .i64 (g j)) := by
  have hl : j < (trL n g).length := by rw [trL_length]; exact hj
  have h1 := num_own h hl
  rw [trL_at hl] at h1
  exact h1
theorem tr_set {w : World} {T m c n : Nat} {g : Int → Int} (h : RowAt w (some ⟨T, 0, none⟩) m c 3 1 (flat encN (trL n g))) (j : Nat) (v : Int) :
    RowAt (w.setCell ⟨T, j, none⟩ (.int .i64 v)) (some ⟨T, 0, none⟩) m c 3 1 (flat encN (trL n (fun i => if i = (j : Nat) then v else g i))) := by
  have h1 := row_setN h j v
  rw [trL_set] at h1
  exact h1
theorem lots_step {F : List Fill4} {i : Nat} (hi : i < F.length) {bk sk : Nat} {fn t0 : Int} (hf : F[i] = ⟨bk, sk, t0, fn⟩) (hne : bk ≠ sk) :
    (fun id : Int => if id = (sk : Nat) then (if (sk : Int) = (bk : Nat) then lotsOf (F.take i) bk + fn else lotsOf (F.take i) sk) + fn else if id = (bk : Nat) then lotsOf (F.take i) bk + fn else lotsOf (F.take i) id) = lotsOf (F.take (i + 1)) := by
  funext id
  rw [List.take_succ_eq_append_getElem hi, lotsOf_snoc, hf]
  dsimp only
  by_cases e1 : id = (sk : Nat)
  · subst e1
    rw [if_pos rfl, if_neg (by omega), if_neg (by omega), if_pos rfl]
    omega
  · rw [if_neg e1]
    by_cases e2 : id = (bk : Nat)
    · subst e2
      rw [if_pos rfl, if_pos rfl, if_neg (by omega)]
      omega
    · rw [if_neg e2, if_neg (by omega), if_neg (by omega)]
      omega
theorem will_want (p : Int) (o : Ord5) : wantB o.side p o = willB p o := rfl
theorem fair_rank {s t0 t1 : Int} {L : List Ord5} (hr : Ranked s L) (hq : ∀ o ∈ L, 1 ≤ o.qty) (hs : ∀ o ∈ L, o.side = s) (hn : (L.map (·.id)).Nodup) (hw : t1 ≤ wantL s t0 L) {i : Nat} (hi : i < L.length) :
    takeOf L t1 L[i].id = clampQ (t1 - allQ (L.take i)) L[i].qty ∧ (0 < t1 - allQ (L.take i) → willB t0 L[i] = true) ∧ allQ (L.take (i + 1)) = allQ (L.take i) + L[i].qty := by
  have e : L = L.take i ++ L[i] :: L.drop (i + 1) := by rw [← List.drop_eq_getElem_cons hi, List.take_append_drop]
  refine ⟨?_, fun h => ?_, ?_⟩
  · have h1 := takeOf_at (pre := L.take i) (o := L[i]) (post := L.drop (i + 1)) (a := t1) (by rw [← e]; exact hn)
    rw [← e] at h1
    exact h1
  · rw [← will_want, hs _ (List.getElem_mem hi)]
    exact want_at (a := t1) (pre := L.take i) (post := L.drop (i + 1)) (by rw [← e]; exact hr) (by rw [← e]; exact hq) (by rw [← e]; exact hw) (by omega)
  · rw [List.take_succ_eq_append_getElem hi]
    unfold allQ
    rw [sumF_append]
    simp only [sumF]
    omega
/-- one of the buyers' rank -/
theorem rank_1 {x L1 L2 : List Ord5} {t0 t1 : Int} {F : List Fill4} (hb : Built x L1 L2) (hno : NumOk x) (hl : ListsOk L1 L2) (hF : FillsOk L1 L2 t0 t1 F) (hw : t1 ≤ wantL 1 t0 L1) {i : Nat} (hi : i < L1.length) :
    (∃ bk : Nat, 1 ≤ bk ∧ bk ≤ x.length ∧ L1[i].id = bk ∧ lotsOf F bk = clampQ (t1 - allQ (L1.take i)) L1[i].qty) ∧ 1 ≤ L1[i].qty ∧ (0 < t1 - allQ (L1.take i) → willB t0 L1[i] = true) ∧ allQ (L1.take (i + 1)) = allQ (L1.take i) + L1[i].qty ∧ (L1[i].side = 1 ∨ L1[i].side = 2) := by
  have hm : L1[i] ∈ L1 := List.getElem_mem hi
  obtain ⟨d1, d2, d3⟩ := ids_parts hl
  have hq : ∀ o ∈ L1, 1 ≤ o.qty := fun o ho => (hl.ok o (List.mem_append_left _ ho)).2.2.2.1
  obtain ⟨h1, h2, h3⟩ := fair_rank hb.r1 hq hb.s1 d1 hw hi
  obtain ⟨k, hk, e1, -, -⟩ := hb.num hno (List.mem_append_left L2 hm)
  refine ⟨⟨k + 1, by omega, by omega, by omega, ?_⟩, hq _ hm, h2, h3, .inl (hb.s1 _ hm)⟩
  have e2 : ((k + 1 : Nat) : Int) = L1[i].id := by omega
  rw [e2]
  unfold lotsOf
  rw [hF.buy, hF.sell, h1, takeOf_other L2 t1 (fun o ho => fun e => d3 _ hm o ho e.symm)]
  omega
/-- one of the sellers' rank -/
theorem rank_2 {x L1 L2 : List Ord5} {t0 t1 : Int} {F : List Fill4} (hb : Built x L1 L2) (hno : NumOk x) (hl : ListsOk L1 L2) (hF : FillsOk L1 L2 t0 t1 F) (hw : t1 ≤ wantL 2 t0 L2) {i : Nat} (hi : i < L2.length) :
    (∃ bk : Nat, 1 ≤ bk ∧ bk ≤ x.length ∧ L2[i].id = bk ∧ lotsOf F bk = clampQ (t1 - allQ (L2.take i)) L2[i].qty) ∧ 1 ≤ L2[i].qty ∧ (0 < t1 - allQ (L2.take i) → willB t0 L2[i] = true) ∧ allQ (L2.take (i + 1)) = allQ (L2.take i) + L2[i].qty ∧ (L2[i].side = 1 ∨ L2[i].side = 2) := by
  have hm : L2[i] ∈ L2 := List.getElem_mem hi
  obtain ⟨d1, d2, d3⟩ := ids_parts hl
  have hq : ∀ o ∈ L2, 1 ≤ o.qty := fun o ho => (hl.ok o (List.mem_append_right _ ho)).2.2.2.1
  obtain ⟨h1, h2, h3⟩ := fair_rank hb.r2 hq hb.s2 d2 hw hi
  obtain ⟨k, hk, e1, -, -⟩ := hb.num hno (List.mem_append_right L1 hm)
  refine ⟨⟨k + 1, by omega, by omega, by omega, ?_⟩, hq _ hm, h2, h3, .inr (hb.s2 _ hm)⟩
  have e2 : ((k + 1 : Nat) : Int) = L2[i].id := by omega
  rw [e2]
  unfold lotsOf
  rw [hF.buy, hF.sell, h1, takeOf_other L1 t1 (fun o ho => d3 o ho _ hm)]
  omega
end Go.Proofs.Yteggaehelnmhnaa
