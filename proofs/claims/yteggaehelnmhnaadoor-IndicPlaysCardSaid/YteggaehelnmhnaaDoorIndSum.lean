/-
  The plain law of IndicPlays, second half: orders that make up the lots have the same points. No walk.
-/
import Derived.Test.YteggaehelnmhnaaDoorIndPlain
import Derived.Test.YteggaehelnmhnaaDoorPlaces
namespace Go.Proofs.YteggaehelnmhnaaDoor
open Go.RowKit
set_option linter.unusedVariables false

def keyT (o : Ord5) : Tri := (o.side, o.kind, o.price)
def sumQ (x : Tri) (l : List Ord5) : Int := (l.map fun o => if keyT o = x then o.qty else 0).sum
theorem sumQ_snoc (x : Tri) (l : List Ord5) (o : Ord5) : sumQ x (l ++ [o]) = sumQ x l + if keyT o = x then o.qty else 0 := by
  unfold sumQ
  rw [List.map_append, List.sum_append]
  simp
theorem sumQ_nonneg {x : Tri} {l : List Ord5} (h : AllOk l) : 0 ≤ sumQ x l := by
  induction l with
  | nil => exact Int.le_refl 0
  | cons o t ih =>
    have h1 := ih (fun y hy => h y (by simp [hy]))
    have h2 := okO_qty (h o (by simp))
    unfold sumQ at *
    rw [List.map_cons, List.sum_cons]
    split <;> omega
theorem sumQ_mem {l : List Ord5} (h : AllOk l) {o : Ord5} (ho : o ∈ l) : 1 ≤ sumQ (keyT o) l := by
  induction l with
  | nil => cases ho
  | cons y t ih =>
    have h0 : AllOk t := fun z hz => h z (by simp [hz])
    have h1 := okO_qty (h y (by simp))
    have h2 := sumQ_nonneg (x := keyT o) h0
    rcases List.mem_cons.1 ho with rfl | ho
    · unfold sumQ at *
      rw [List.map_cons, List.sum_cons, if_pos rfl]
      omega
    · have h3 := ih h0 ho
      unfold sumQ at *
      rw [List.map_cons, List.sum_cons]
      split <;> omega
theorem sumQ_some {x : Tri} {l : List Ord5} (h : sumQ x l ≠ 0) : ∃ o ∈ l, keyT o = x := by
  induction l with
  | nil => exact absurd rfl h
  | cons y t ih =>
    by_cases e : keyT y = x
    · exact ⟨y, by simp, e⟩
    · obtain ⟨o, h1, h2⟩ := ih (fun h0 => h (by unfold sumQ at *; rw [List.map_cons, List.sum_cons, if_neg e, h0]; rfl))
      exact ⟨o, by simp [h1], h2⟩
theorem sum_hit (g : Tri → Int) (x : Tri) (q : Int) : ∀ K : List Tri, K.Nodup → (K.map fun y => g y * (if x = y then q else 0)).sum = if x ∈ K then g x * q else 0 := by
  intro K
  induction K with
  | nil => intro _; simp
  | cons y t ih =>
    intro h
    obtain ⟨h1, h2⟩ := List.nodup_cons.1 h
    rw [List.map_cons, List.sum_cons, ih h2]
    by_cases e : x = y
    · subst e
      rw [if_pos rfl, if_neg h1, if_pos (by simp)]
      omega
    · rw [if_neg e]
      by_cases e2 : x ∈ t
      · rw [if_pos e2, if_pos (by simp [e2])]
        omega
      · rw [if_neg e2, if_neg (by simp [e, e2])]
        omega
theorem sum_two (F G : Tri → Int) (K : List Tri) : (K.map fun y => F y + G y).sum = (K.map F).sum + (K.map G).sum := by
  induction K with
  | nil => rfl
  | cons y t ih => rw [List.map_cons, List.map_cons, List.map_cons, List.sum_cons, List.sum_cons, List.sum_cons, ih]; omega
/-- a sum over orders, by their places -/
theorem sum_keys (g : Tri → Int) (K : List Tri) (hK : K.Nodup) : ∀ l : List Ord5, (∀ o ∈ l, keyT o ∈ K) → (l.map fun o => g (keyT o) * o.qty).sum = (K.map fun x => g x * sumQ x l).sum := by
  intro l
  induction l with
  | nil =>
    intro _
    have e : ∀ K : List Tri, (K.map fun x => g x * sumQ x []).sum = 0 := by
      intro K
      induction K with
      | nil => rfl
      | cons y t ih =>
        rw [List.map_cons, List.sum_cons, ih]
        unfold sumQ
        simp
    rw [e]; rfl
  | cons o t ih =>
    intro h
    rw [List.map_cons, List.sum_cons, ih (fun y hy => h y (by simp [hy]))]
    have e : (fun x => g x * sumQ x (o :: t)) = fun x => g x * (if keyT o = x then o.qty else 0) + g x * sumQ x t := by
      funext x
      unfold sumQ
      rw [List.map_cons, List.sum_cons, Int.mul_add]
    rw [e, sum_two, sum_hit g (keyT o) o.qty K hK, if_pos (h o (by simp))]
theorem foldl_sum (F : Ord5 → Int) (l : List Ord5) : ∀ s : Int, l.foldl (fun s o => s + F o) s = s + (l.map F).sum := by
  induction l with
  | nil => intro s; simp
  | cons o t ih => intro s; rw [List.foldl_cons, ih, List.map_cons, List.sum_cons]; omega
def gD (p : Int) (x : Tri) : Int := if x.1 = 1 ∧ (x.2.1 = 2 ∨ p ≤ x.2.2) then 1 else 0
def gS (p : Int) (x : Tri) : Int := if x.1 = 2 ∧ (x.2.1 = 2 ∨ x.2.2 ≤ p) then 1 else 0
theorem demL_sum (p : Int) (l : List Ord5) : demL p l = (l.map fun o => gD p (keyT o) * o.qty).sum := by
  unfold demL
  rw [foldl_sum, Int.zero_add]
  congr 1
  refine List.map_congr_left fun o _ => ?_
  unfold demQ gD keyT
  dsimp only
  split <;> simp
theorem supL_sum (p : Int) (l : List Ord5) : supL p l = (l.map fun o => gS p (keyT o) * o.qty).sum := by
  unfold supL
  rw [foldl_sum, Int.zero_add]
  congr 1
  refine List.map_congr_left fun o _ => ?_
  unfold supQ gS keyT
  dsimp only
  split <;> simp

/-- the lots by prices, and by places -/
structure RelF (lv : List Tri) (bu se : Int) (f : Tri → Option Int) : Prop where
  b : (f (1, 2, 0)).getD 0 = bu
  s : (f (2, 2, 0)).getD 0 = se
  lb : ∀ p, (f (1, 0, p)).getD 0 = (lotAt lv p).1
  ls : ∀ p, (f (2, 0, p)).getD 0 = (lotAt lv p).2
  pos : ∀ x v, f x = some v → 1 ≤ v ∧ (x = (1, 2, 0) ∨ x = (2, 2, 0) ∨ ∃ p, 1 ≤ p ∧ p ≤ 1000000 ∧ (x = (1, 0, p) ∨ x = (2, 0, p)))
/-- orders that make up the places -/
structure Makes (f : Tri → Option Int) (l : List Ord5) : Prop where
  ok : AllOk l
  sum : ∀ x, sumQ x l = (f x).getD 0
theorem lot_mem {lv : List Tri} (h : RankL lv) {y : Tri} (hy : y ∈ lv) : lotAt lv y.1 = y.2 := by
  obtain ⟨k, hk, rfl⟩ := List.mem_iff_getElem.1 hy
  have e : lv = lv.take k ++ lv[k] :: lv.drop (k + 1) := by rw [← List.drop_eq_getElem_cons hk, List.take_append_drop]
  have key : ∀ L : List Tri, L = lv.take k ++ lv[k] :: lv.drop (k + 1) → RankL L → lotAt L lv[k].1 = lv[k].2 := by
    rintro L rfl h2
    exact lot_self h2
  exact key lv e h
theorem lot_there {lv : List Tri} {p : Int} (h : lotAt lv p ≠ (0, 0)) : ∃ y ∈ lv, y.1 = p := by
  rcases Classical.em (∃ y ∈ lv, y.1 = p) with h1 | h1
  · exact h1
  · exact absurd (lot_none fun x hx e => h1 ⟨x, hx, e⟩) h
def keysOf (lv : List Tri) : List Tri := [((1, 2, 0) : Tri), (2, 2, 0)] ++ (lv.map (fun y => ((1, 0, y.1) : Tri)) ++ lv.map (fun y => ((2, 0, y.1) : Tri)))
theorem keys_nodup {lv : List Tri} (h : RankL lv) : (keysOf lv).Nodup := by
  have hn : ∀ s : Int, (lv.map (fun y => ((s, 0, y.1) : Tri))).Nodup := fun s => by
    rw [List.Nodup, List.pairwise_map]
    refine h.imp fun {a b} hab e => ?_
    injection e with _ e
    injection e with _ e
    omega
  unfold keysOf
  refine List.nodup_append.2 ⟨by simp, List.nodup_append.2 ⟨hn 1, hn 2, ?_⟩, ?_⟩
  · intro a ha b hb e
    obtain ⟨y, -, rfl⟩ := List.mem_map.1 ha
    obtain ⟨z, -, rfl⟩ := List.mem_map.1 hb
    injection e with e _
    omega
  · intro a ha b hb e
    subst e
    rcases List.mem_append.1 hb with hb | hb
    all_goals
      obtain ⟨y, -, rfl⟩ := List.mem_map.1 hb
      simp at ha
section
variable {lv : List Tri} {bu se more : Int} {f : Tri → Option Int} {l : List Ord5}
theorem keys_cover (hr : RelF lv bu se f) (hm : Makes f l) : ∀ o ∈ l, keyT o ∈ keysOf lv := by
  intro o ho
  have h1 := sumQ_mem hm.ok ho
  rw [hm.sum] at h1
  cases hf : f (keyT o) with
  | none => rw [hf] at h1; simp at h1
  | some v =>
    obtain ⟨h2, h3⟩ := hr.pos _ _ hf
    unfold keysOf
    rcases h3 with h3 | h3 | ⟨p, -, -, h3 | h3⟩
    · rw [h3]; simp
    · rw [h3]; simp
    · have h4 := hr.lb p
      rw [← h3, hf] at h4
      obtain ⟨y, hy, hyp⟩ := lot_there (lv := lv) (p := p) (fun e => by rw [e] at h4; simp at h4; omega)
      rw [h3]
      refine List.mem_append.2 (.inr (List.mem_append.2 (.inl (List.mem_map.2 ⟨y, hy, by rw [hyp]⟩))))
    · have h4 := hr.ls p
      rw [← h3, hf] at h4
      obtain ⟨y, hy, hyp⟩ := lot_there (lv := lv) (p := p) (fun e => by rw [e] at h4; simp at h4; omega)
      rw [h3]
      refine List.mem_append.2 (.inr (List.mem_append.2 (.inr (List.mem_map.2 ⟨y, hy, by rw [hyp]⟩))))
theorem sumB_list (q : Tri → Bool) : ∀ L : List Tri, sumB (L.filter q) 0 = (L.map fun y => if q y = true then y.2.1 else 0).sum := by
  intro L
  induction L with
  | nil => rfl
  | cons y t ih =>
    rw [List.map_cons, List.sum_cons, ← ih]
    by_cases e : q y = true
    · rw [List.filter_cons_of_pos e, if_pos e]
      have h := sumB_from (t.filter q) (0 + y.2.1)
      have h2 : sumB (y :: t.filter q) 0 = sumB (t.filter q) (0 + y.2.1) := rfl
      rw [h2, h]; omega
    · rw [List.filter_cons_of_neg e, if_neg e]; omega
theorem sumS_list (q : Tri → Bool) : ∀ L : List Tri, sumS (L.filter q) 0 = (L.map fun y => if q y = true then y.2.2 else 0).sum := by
  intro L
  induction L with
  | nil => rfl
  | cons y t ih =>
    rw [List.map_cons, List.sum_cons, ← ih]
    by_cases e : q y = true
    · rw [List.filter_cons_of_pos e, if_pos e]
      have h := sumS_from (t.filter q) (0 + y.2.2)
      have h2 : sumS (y :: t.filter q) 0 = sumS (t.filter q) (0 + y.2.2) := rfl
      rw [h2, h]; omega
    · rw [List.filter_cons_of_neg e, if_neg e]; omega
theorem sum_zero {α : Type} (F : α → Int) (K : List α) (h : ∀ x ∈ K, F x = 0) : (K.map F).sum = 0 := by
  induction K with
  | nil => rfl
  | cons y t ih => rw [List.map_cons, List.sum_cons, ih (fun x hx => h x (by simp [hx])), h y (by simp)]; rfl
theorem dem_same (hk : LvOk lv) (hr : RelF lv bu se f) (hm : Makes f l) (p : Int) : demL p l = demI lv bu p := by
  rw [demL_sum, sum_keys (gD p) (keysOf lv) (keys_nodup hk.rank) l (keys_cover hr hm)]
  unfold keysOf demI
  rw [sumB_from, sumB_list, List.map_append, List.sum_append, List.map_append, List.sum_append, List.map_map, List.map_map]
  rw [sum_zero ((fun x => gD p x * sumQ x l) ∘ fun y => ((2, 0, y.1) : Tri)) lv (fun y _ => by simp [gD])]
  have e1 : ([((1, 2, 0) : Tri), (2, 2, 0)].map fun x => gD p x * sumQ x l).sum = bu := by
    have h1 := hm.sum (1, 2, 0)
    rw [hr.b] at h1
    simp [gD, h1]
  rw [e1, Int.add_zero]
  congr 2
  refine List.map_congr_left fun y hy => ?_
  show gD p (1, 0, y.1) * sumQ (1, 0, y.1) l = _
  rw [hm.sum, hr.lb, lot_mem hk.rank hy]
  by_cases e : p ≤ y.1
  · rw [if_pos (decide_eq_true e)]; simp [gD, e]
  · rw [if_neg (by simp; omega)]; simp [gD, e]
theorem sup_same (hk : LvOk lv) (hr : RelF lv bu se f) (hm : Makes f l) (p : Int) : supL p l = supI lv se p := by
  rw [supL_sum, sum_keys (gS p) (keysOf lv) (keys_nodup hk.rank) l (keys_cover hr hm)]
  unfold keysOf supI
  rw [sumS_from, sumS_list, List.map_append, List.sum_append, List.map_append, List.sum_append, List.map_map, List.map_map]
  rw [sum_zero ((fun x => gS p x * sumQ x l) ∘ fun y => ((1, 0, y.1) : Tri)) lv (fun y _ => by simp [gS])]
  have e1 : ([((1, 2, 0) : Tri), (2, 2, 0)].map fun x => gS p x * sumQ x l).sum = se := by
    have h1 := hm.sum (2, 2, 0)
    rw [hr.s] at h1
    simp [gS, h1]
  rw [e1, Int.zero_add]
  congr 2
  refine List.map_congr_left fun y hy => ?_
  show gS p (2, 0, y.1) * sumQ (2, 0, y.1) l = _
  rw [hm.sum, hr.ls, lot_mem hk.rank hy]
  by_cases e : y.1 ≤ p
  · rw [if_pos (decide_eq_true e)]; simp [gS, e]
  · rw [if_neg (by simp; omega)]; simp [gS, e]
theorem price_same (hk : LvOk lv) (hr : RelF lv bu se f) (hm : Makes f l) (q : Int) : q ∈ pricesL l more ↔ (∃ x ∈ lv, x.1 = q) ∨ (1 ≤ more ∧ q = more) := by
  unfold pricesL
  rw [goodL_all hm.ok, List.mem_append]
  constructor
  · rintro (h | h)
    · split at h
      · rename_i h1
        rw [List.mem_singleton] at h
        exact .inr ⟨h1, h⟩
      · cases h
    · obtain ⟨o, ho, rfl⟩ := List.mem_map.1 h
      obtain ⟨ho, hk2⟩ := List.mem_filter.1 ho
      have h1 := keys_cover hr hm o ho
      unfold keysOf keyT at h1
      simp at hk2
      simp at h1
      rcases h1 with h1 | h1 | ⟨y, h1, h2, h3, h4⟩ | ⟨y, h1, h2, h3, h4⟩
      · exact absurd h1.2.1 hk2
      · exact absurd h1.2.1 hk2
      all_goals
        obtain ⟨a, b, hm2⟩ := h1
        exact .inl ⟨(y, a, b), hm2, h4⟩
  · rintro (⟨x, hx, rfl⟩ | ⟨h1, rfl⟩)
    · refine .inr ?_
      have h1 := hk.nz x hx
      have hx1 : ∀ s : Int, (s = 1 ∨ s = 2) → sumQ (s, 0, x.1) l ≠ 0 → x.1 ∈ ((l.filter fun o => !(o.kind == 2)).map (·.price)) := fun s hs h2 => by
        obtain ⟨o, ho, hko⟩ := sumQ_some h2
        unfold keyT at hko
        injection hko with e1 hko
        injection hko with e2 e3
        exact List.mem_map.2 ⟨o, List.mem_filter.2 ⟨ho, by rw [e2]; rfl⟩, e3⟩
      rcases h1.2.2 with h2 | h2
      · exact hx1 1 (.inl rfl) (by rw [hm.sum, hr.lb, lot_mem hk.rank hx]; exact h2)
      · exact hx1 2 (.inr rfl) (by rw [hm.sum, hr.ls, lot_mem hk.rank hx]; exact h2)
    · exact .inl (by rw [if_pos h1]; simp)
/-- the points of the lots are those of the orders -/
theorem points_same (hk : LvOk lv) (hr : RelF lv bu se f) (hm : Makes f l) : curveP l more = pointsI lv bu se more := by
  obtain ⟨h1, h2, h3⟩ := pointsI_spec (bu := bu) (se := se) (more := more) hk.rank
  have hnd : ((pointsI lv bu se more).map (·.1)).Nodup := h2.imp (fun h => by omega)
  have tr : ∀ a b c : Int, (decide (a ≤ b)) = true → (decide (b ≤ c)) = true → (decide (a ≤ c)) = true := fun a b c h1 h2 => by simp at *; omega
  have tot : ∀ a b : Int, (decide (a ≤ b) || decide (b ≤ a)) = true := fun a b => by simp; omega
  have hdd : dd ((pricesL l more).mergeSort fun x y => decide (x ≤ y)) = (pointsI lv bu se more).map (·.1) := by
    rw [dd_sorted (pricesL l more) ((pointsI lv bu se more).map (·.1)) hnd (fun x => (h3 x).trans (price_same hk hr hm x).symm)]
    refine List.Perm.eq_of_pairwise (le := fun a b => a ≤ b) (fun a b _ _ h1 h2 => by omega) ((List.pairwise_mergeSort tr tot _).imp (fun h => by simpa using h)) (h2.imp (fun h => by omega)) (List.mergeSort_perm _ _)
  unfold curveP
  rw [hdd, goodL_all hm.ok, List.map_map]
  refine Eq.trans (List.map_congr_left fun e he => ?_) (List.map_id _)
  show pointOf l e.1 = e
  rw [h1 e he]
  unfold pointOf ptI
  dsimp only
  rw [dem_same hk hr hm, sup_same hk hr hm]
/-! ### what turns -/
def keyP (o : Ord5) : Tri := if o.kind = 2 then (o.side, 2, 0) else (o.side, 0, o.price)
def nzO (v : Int) : Option Int := if v = 0 then none else some v
theorem nzO_getD (v : Int) : (nzO v).getD 0 = v := by unfold nzO; split <;> simp_all
theorem RelF.has (h : RelF lv bu se f) {o : Ord5} (ho : o.side = 1 ∨ o.side = 2) : (f (keyP o)).getD 0 = hasI lv bu se o := by
  unfold keyP hasI keyO
  by_cases hk : o.kind = 2
  · rw [if_pos hk, if_pos hk]
    rcases ho with hs | hs
    · rw [hs, if_pos rfl]; exact h.b
    · rw [hs, if_neg (by decide)]; exact h.s
  · rw [if_neg hk, if_neg hk]
    rcases ho with hs | hs
    · rw [hs, if_pos rfl]; exact h.lb _
    · rw [hs, if_neg (by decide)]; exact h.ls _
def placeT (s : Int) : Option Int → Tri
  | none => (s, 2, 0)
  | some p => (s, 0, p)
def valS (s : Int) (x : Int × Int) : Int := if s = 1 then x.1 else x.2
theorem place_inj {s s' : Int} {k k' : Option Int} (h : placeT s k = placeT s' k') : s = s' ∧ k = k' := by
  cases k <;> cases k'
  all_goals
    injection h with h1 h2
    injection h2 with h2 h3
  · exact ⟨h1, rfl⟩
  · omega
  · omega
  · exact ⟨h1, by rw [h3]⟩
theorem keyP_place (o : Ord5) : keyP o = placeT o.side (keyO o) := by
  unfold keyP keyO
  split <;> rfl
theorem RelF.at_ (h : RelF lv bu se f) (s : Int) (hs : s = 1 ∨ s = 2) (k : Option Int) : (f (placeT s k)).getD 0 = valS s (lotsK lv bu se k) := by
  rcases hs with rfl | rfl <;> cases k
  · exact h.b
  · exact h.lb _
  · exact h.s
  · exact h.ls _
theorem RelF.of (h : ∀ s, (s = 1 ∨ s = 2) → ∀ k, (f (placeT s k)).getD 0 = valS s (lotsK lv bu se k)) (hp : ∀ x v, f x = some v → 1 ≤ v ∧ (x = (1, 2, 0) ∨ x = (2, 2, 0) ∨ ∃ p, 1 ≤ p ∧ p ≤ 1000000 ∧ (x = (1, 0, p) ∨ x = (2, 0, p)))) : RelF lv bu se f :=
  ⟨h 1 (.inl rfl) none, h 2 (.inr rfl) none, fun p => h 1 (.inl rfl) (some p), fun p => h 2 (.inr rfl) (some p), hp⟩
theorem RelF.turn (h : RelF lv bu se f) {o : Ord5} (ho : RightO o) {q : Int} (hq : q = 1 ∨ q = -1) (hp : q = -1 → o.qty ≤ hasI lv bu se o) {lv' : List Tri} {bu' se' : Int} (hc : ChgSpec lv bu se o q lv' bu' se') (h0 : 0 ≤ hasI lv bu se o) :
    RelF lv' bu' se' (updT f (keyP o) (nzO (hasI lv bu se o + q * o.qty))) := by
  have hhas : hasI lv bu se o = valS o.side (lotsK lv bu se (keyO o)) := rfl
  refine RelF.of (fun s hs k => ?_) (fun x v hx => ?_)
  · rw [hc.2 k]
    unfold updT
    by_cases e : placeT s k = keyP o
    · rw [if_pos e, nzO_getD]
      rw [keyP_place] at e
      obtain ⟨e1, e2⟩ := place_inj e
      rw [if_pos e2, hhas, e1, e2]
      unfold valS dB dS
      by_cases h1 : o.side = 1
      · simp only [if_pos h1]
      · simp only [if_neg h1]
    · rw [if_neg e, h.at_ s hs k]
      by_cases e2 : k = keyO o
      · rw [if_pos e2]
        have hne : s ≠ o.side := fun e1 => e (by rw [keyP_place, e1, e2])
        unfold valS dB dS
        rcases ho.1 with h1 | h1 <;> rcases hs with rfl | rfl
        · exact absurd h1.symm hne
        · simp [h1]
        · simp [h1]
        · exact absurd h1.symm hne
      · rw [if_neg e2]
  · unfold updT at hx
    by_cases e : x = keyP o
    · rw [if_pos e] at hx
      unfold nzO at hx
      split at hx
      · cases hx
      · rename_i hz
        cases hx
        have hq2 := ho.2.1
        refine ⟨by rcases hq with rfl | rfl <;> omega, ?_⟩
        rw [e]
        unfold keyP
        by_cases hk : o.kind = 2
        · rw [if_pos hk]
          rcases ho.1 with h1 | h1 <;> simp [h1]
        · rw [if_neg hk]
          have h3 := ho.2.2.resolve_left hk
          refine .inr (.inr ⟨o.price, h3.1, h3.2, ?_⟩)
          rcases ho.1 with h1 | h1 <;> simp [h1]
    · rw [if_neg e] at hx
      exact h.pos x v hx
/-- how often orders were told of at a place: no more lots lie there than these may have -/
def Told6 (h : List Tri) (f : Tri → Option Int) : Prop := ∀ x v, f x = some v → v ≤ 1000000 * h.count x
theorem Told6.add {h : List Tri} (hh : Told6 h f) (x : Tri) {q v : Int} (hq : q ≤ 1000000) (hv : v ≤ (f x).getD 0 + q) (h0 : 0 ≤ (f x).getD 0): Told6 (x :: h) (updT f x (nzO v)) := by
  intro y u hu
  unfold updT at hu
  by_cases e : y = x
  · subst e
    rw [if_pos rfl] at hu
    unfold nzO at hu
    split at hu
    · cases hu
    · cases hu
      rw [List.count_cons_self]
      cases hf : f y with
      | none => rw [hf] at hv; simp at hv; omega
      | some a => have := hh y a hf; rw [hf] at hv; simp at hv; omega
  · rw [if_neg e] at hu
    have h1 := hh y u hu
    have h2 := List.count_le_count_cons (a := y) (b := x) (l := h)
    omega
theorem Told6.less {h : List Tri} (hh : Told6 h f) (x : Tri) {v : Int} (hv : v ≤ (f x).getD 0) : Told6 h (updT f x (nzO v)) := by
  intro y u hu
  unfold updT at hu
  by_cases e : y = x
  · subst e
    rw [if_pos rfl] at hu
    unfold nzO at hu
    split at hu
    · cases hu
    · cases hu
      cases hf : f y with
      | none => rw [hf] at hv; simp at hv; omega
      | some a => have := hh y a hf; rw [hf] at hv; simp at hv; omega
  · rw [if_neg e] at hu
    exact hh y u hu
theorem Told6.bound {h : List Tri} (hh : Told6 h f) (x : Tri) (hl : h.length ≤ 100) : (f x).getD 0 ≤ 100000000 := by
  cases hf : f x with
  | none => simp
  | some v =>
    have h1 := hh x v hf
    have h2 := List.count_le_length (a := x) (l := h)
    simp
    omega
theorem RelF.nonneg (h : RelF lv bu se f) (x : Tri) : 0 ≤ (f x).getD 0 := by
  cases hf : f x with
  | none => simp
  | some v => have := (h.pos x v hf).1; simp; omega
theorem RelF.mild (h : RelF lv bu se f) (hk : LvOk lv) {hs : List Tri} (hh : Told6 hs f) (hl : hs.length ≤ 100) (hn : lv.length ≤ 100) : Mild lv bu se := by
  refine ⟨?_, ?_, fun x hx => ?_, fun x hx => ?_, by omega⟩
  · have h1 := h.nonneg (1, 2, 0)
    have h2 := hh.bound (1, 2, 0) hl
    rw [h.b] at h1 h2
    omega
  · have h1 := h.nonneg (2, 2, 0)
    have h2 := hh.bound (2, 2, 0) hl
    rw [h.s] at h1 h2
    omega
  · have h1 := h.nonneg (1, 0, x.1)
    have h2 := hh.bound (1, 0, x.1) hl
    rw [h.lb, lot_mem hk.rank hx] at h1 h2
    omega
  · have h1 := h.nonneg (2, 0, x.1)
    have h2 := hh.bound (2, 0, x.1) hl
    rw [h.ls, lot_mem hk.rank hx] at h1 h2
    omega
theorem Mild.small (h : Mild lv bu se) : Small lv bu se :=
  ⟨⟨h.b.1, by have := h.b.2; omega⟩, ⟨h.s.1, by have := h.s.2; omega⟩, fun x hx => ⟨by have := (h.lb x hx).2; omega, by have := (h.ls x hx).2; omega⟩, h.n⟩
theorem near_all {l : List Ord5} (hl : l.length ≤ 100) (hp : ∀ o ∈ l, o.kind ≠ 2 → 1 ≤ o.price ∧ o.price ≤ 1000000) (hm : more ≤ 1000000) : ∀ y ∈ curveP l more, -1099511627776 ≤ y.1 ∧ y.1 ≤ 1099511627776 ∧ 0 ≤ y.2.1 ∧ y.2.1 ≤ 100000000 ∧ 0 ≤ y.2.2 ∧ y.2.2 ≤ 100000000 := by
  intro y hy
  obtain ⟨q, hq, rfl⟩ := List.mem_map.1 hy
  have hq2 : 1 ≤ q ∧ q ≤ 1000000 := by
    have hq := (dd_mem _ _).1 hq
    unfold pricesL at hq
    rcases List.mem_append.1 hq with hq | hq
    · split at hq
      · simp at hq; omega
      · cases hq
    · obtain ⟨o, ho, rfl⟩ := List.mem_map.1 hq
      obtain ⟨h1, h2⟩ := List.mem_filter.1 ho
      simp at h2
      exact hp o (List.mem_filter.1 h1).1 h2
  have h1 := demL_bound (p := q) (goodL_ok (l := l))
  have h2 := supL_bound (p := q) (goodL_ok (l := l))
  have h3 : (goodL l).length ≤ l.length := List.length_filter_le okO l
  have h4 : ((goodL l).length : Int) ≤ 100 := by omega
  unfold pointOf
  dsimp only
  omega
end
end Go.Proofs.YteggaehelnmhnaaDoor
