/-
  What an order less makes of a book's lists. No walk.
-/
import Derived.Test.YtaagaamamjabbaaBookDone
namespace Go.Proofs.Ytaagaamamjabbaa
open Go.RowKit
set_option linter.unusedVariables false

/-- the book with an order less -/
def LessDone (w w' : World) (b a r : Nat) (F : Nat → Prop) (n : Nat) (H : Int → HS) (s id : Int) : Prop :=
  ∃ F' M' f' H' reg', BookM w' b a F' M' (n - 1) r f' H' reg' ∧ BookS M' (n - 1) f' H' ∧ BStep w w' (BFp b r F H) (BFp b r F' H') ∧ (H' s).L = remI (H s).L id ∧ ∀ s', s' ≠ s → H' s' = H s'

theorem hnd_filter (l : List HO) (h : Int × Int) : hndL (l.filter (notH h)) = (hndL l).filter fun p => !isH h p := by
  unfold hndL notH
  rw [List.filter_map]
  rfl
theorem ord_filter_length (l : List HO) (h : Int × Int) : ((hndL l).filter fun p => !isH h p).length = (l.filter (notH h)).length := by
  rw [← hnd_filter]
  simp [hndL]
theorem qOrd_filter (qs : List QG) (p : HO → Bool) : (qOrd qs).filter p = qs.flatMap fun q => q.os.filter p := by
  unfold qOrd
  rw [List.filter_flatMap]

section
variable {M : Int → Int → Option Ord5} {n : Nat} {f : Int → Option Value} {H : Int → HS} {s : Int} {x : HO}
/-- an order that lies: at any price, or in the queue of its price -/
theorem BookS.where_ (S : BookS M n f H) (hs : Is12 s) (hx : x ∈ (H s).all) : (x.2.kind = 2 ∧ x ∈ (H s).ms) ∨ (x.2.kind ≠ 2 ∧ ∃ k, ∃ hk : k < (H s).qs.length, x ∈ (H s).qs[k].os ∧ (H s).qs[k].price = x.2.price) := by
  rcases List.mem_append.1 hx with h | h
  · exact .inl ⟨((S.is s hs).mkt x h).1, h⟩
  · obtain ⟨q, hq, hxq⟩ := List.mem_flatMap.1 h
    obtain ⟨k, hk, rfl⟩ := List.mem_iff_getElem.1 hq
    have h1 := (S.is s hs).qk _ hq x hxq
    exact .inr ⟨h1.1, k, hk, hxq, h1.2.2.symm⟩
/-- the search finds it -/
theorem found_at {ms : List HO} {qs : List QG} (hi : HalfIs s ms qs) {j k : Nat} {p : Int} (hj : j < qs.length) (hp : qs[j].price = p) (hf : FoundK s p (qs.map QG.que) qs.length k) : k = j := by
  obtain ⟨hk, hlo, hhi⟩ := hf
  have h0 : cmpQ s p p = 0 := by unfold cmpQ; rw [if_pos rfl]
  rcases Nat.lt_trichotomy k j with h | h | h
  · have h1 := rank_at hi.rank hj h
    rw [hp] at h1
    have h2 := hhi k (by simp; omega) (Nat.le_refl _)
    simp only [List.getElem_map] at h2
    have h3 : cmpQ s (qs[k]'(by omega)).price p < 0 := cmpQ_neg.2 h1
    have h4 : cmpQ s (qs[k]'(by omega)).que.1 p = cmpQ s (qs[k]'(by omega)).price p := rfl
    omega
  · exact h
  · have h2 := hlo j (by simpa using hj) h
    simp only [List.getElem_map] at h2
    have h4 : cmpQ s qs[j].que.1 p = cmpQ s qs[j].price p := rfl
    rw [h4, hp, h0] at h2
    omega

theorem less_market (S : BookS M n f H) (hs : Is12 s) (hx : x ∈ (H s).all) (hk : x.2.kind = 2) (A' : Option Addr) (c' : Nat) :
    BookS (withO M x.1.1 x.1.2 none) (n - 1) (updI f x.2.id none) (upH H s ⟨A', c', (H s).qA, (H s).qc, (H s).ms.filter (notH x.1), (H s).qs⟩) ∧
      (upH H s ⟨A', c', (H s).qA, (H s).qc, (H s).ms.filter (notH x.1), (H s).qs⟩ s).L = remI (H s).L x.2.id := by
  have hi := S.is s hs
  have hall : hOrd ((H s).ms.filter (notH x.1)) (H s).qs = (H s).all.filter (notH x.1) := by
    show _ = (hOrd (H s).ms (H s).qs).filter _
    unfold hOrd
    rw [List.filter_append]
    congr 1
    symm
    rw [List.filter_eq_self]
    intro y hy
    rw [notH_iff]
    intro e
    have hy' : y ∈ (H s).all := List.mem_append_right _ hy
    have := S.same_h (mem_allH hs hy') (mem_allH hs hx) e
    subst this
    obtain ⟨q, hq, hyq⟩ := List.mem_flatMap.1 hy
    exact (hi.qk q hq y hyq).1 hk
  refine ⟨S.remove hs hx hall ⟨fun y hy => hi.mkt y ((List.mem_filter.1 hy).1), hi.qk, hi.rank⟩ (S.ne s hs), ?_⟩
  rw [upH_self]
  show ordL (hOrd _ _) = _
  rw [hall]
  exact S.filter_id (mem_allH hs hx) hs

theorem mid_filter (S : BookS M n f H) (hs : Is12 s) {k : Nat} (hk : k < (H s).qs.length) (hx : x ∈ (H s).qs[k].os) (hxa : x ∈ (H s).all) :
    (H s).all.filter (notH x.1) = (H s).ms ++ (qOrd ((H s).qs.take k) ++ ((H s).qs[k].os.filter (notH x.1) ++ qOrd ((H s).qs.drop (k + 1)))) := by
  have hi := S.is s hs
  have hnd : (allH H).Nodup := List.Pairwise.imp (fun h e => h (by rw [e])) (List.pairwise_map.1 S.ids)
  have hnd2 : (H s).all.Nodup := by
    unfold allH at hnd
    rw [List.nodup_append] at hnd
    rcases hs with rfl | rfl
    · exact hnd.1
    · exact hnd.2.1
  have e0 : (H s).all = (H s).ms ++ (qOrd ((H s).qs.take k) ++ ((H s).qs[k].os ++ qOrd ((H s).qs.drop (k + 1)))) := by
    show hOrd _ _ = _
    unfold hOrd
    rw [qOrd_split _ hk]
  have keep : ∀ l : List HO, (∀ y ∈ l, y ∈ (H s).all) → x ∉ l → l.filter (notH x.1) = l := by
    intro l hl hxl
    rw [List.filter_eq_self]
    intro y hy
    rw [notH_iff]
    intro e
    have := S.same_h (mem_allH hs (hl y hy)) (mem_allH hs hxa) e
    subst this
    exact hxl hy
  rw [e0] at hnd2
  rw [List.nodup_append, List.nodup_append, List.nodup_append] at hnd2
  obtain ⟨_, ⟨_, ⟨_, _, d3⟩, d2⟩, d1⟩ := hnd2
  rw [e0, List.filter_append, List.filter_append, List.filter_append]
  rw [keep (H s).ms (fun y hy => by rw [e0]; simp [hy]) (fun h => d1 x h x (by simp [hx]) rfl)]
  rw [keep (qOrd ((H s).qs.take k)) (fun y hy => by rw [e0]; simp [hy]) (fun h => d2 x h x (by simp [hx]) rfl)]
  rw [keep (qOrd ((H s).qs.drop (k + 1))) (fun y hy => by rw [e0]; simp [hy]) (fun h => d3 x hx x h rfl)]

/-- .. others of its queue lie yet -/
theorem less_queue (S : BookS M n f H) (hs : Is12 s) {k : Nat} (hk : k < (H s).qs.length) (hx : x ∈ (H s).qs[k].os) (hxa : x ∈ (H s).all) (hne : (H s).qs[k].os.filter (notH x.1) ≠ []) (A' : Option Addr) (c' : Nat) :
    BookS (withO M x.1.1 x.1.2 none) (n - 1) (updI f x.2.id none) (upH H s ⟨(H s).mA, (H s).mc, (H s).qA, (H s).qc, (H s).ms, (H s).qs.set k ⟨(H s).qs[k].price, A', c', (H s).qs[k].os.filter (notH x.1)⟩⟩) ∧
      (upH H s ⟨(H s).mA, (H s).mc, (H s).qA, (H s).qc, (H s).ms, (H s).qs.set k ⟨(H s).qs[k].price, A', c', (H s).qs[k].os.filter (notH x.1)⟩⟩ s).L = remI (H s).L x.2.id := by
  have hi := S.is s hs
  have hall : hOrd (H s).ms ((H s).qs.set k ⟨(H s).qs[k].price, A', c', (H s).qs[k].os.filter (notH x.1)⟩) = (H s).all.filter (notH x.1) := by
    rw [mid_filter S hs hk hx hxa]
    unfold hOrd
    rw [qOrd_set _ hk]
  refine ⟨S.remove hs hxa hall ⟨hi.mkt, fun q hq y hy => ?_, ?_⟩ (fun q hq => ?_), ?_⟩
  · rcases List.mem_or_eq_of_mem_set hq with hq | rfl
    · exact hi.qk q hq y hy
    · exact hi.qk _ (List.getElem_mem _) y ((List.mem_filter.1 hy).1)
  · have e2 : ((H s).qs.set k ⟨(H s).qs[k].price, A', c', (H s).qs[k].os.filter (notH x.1)⟩).map QG.que = ((H s).qs.map QG.que).set k ((H s).qs[k].price, A', ((H s).qs[k].os.filter (notH x.1)).length, c') := by
      rw [List.map_set]
      simp [QG.que]
    show RankQ s (List.map QG.que _)
    unfold RankQ
    rw [e2, List.pairwise_iff_getElem]
    intro i j hi1 hj1 hij
    have h0 := List.pairwise_iff_getElem.1 hi.rank i j (by simpa using hi1) (by simpa using hj1) hij
    simp only [List.getElem_map, QG.que] at h0
    simp only [List.getElem_set, List.getElem_map, QG.que]
    split <;> split <;> simp_all
  · rcases List.mem_or_eq_of_mem_set hq with hq | rfl
    · exact S.ne s hs q hq
    · exact hne
  · rw [upH_self]
    show ordL (hOrd _ _) = _
    rw [hall]
    exact S.filter_id (mem_allH hs hxa) hs
/-- .. it was the last one of its queue -/
theorem less_last (S : BookS M n f H) (hs : Is12 s) {k : Nat} (hk : k < (H s).qs.length) (hx : x ∈ (H s).qs[k].os) (hxa : x ∈ (H s).all) (hne : (H s).qs[k].os.filter (notH x.1) = []) (A' : Option Addr) (c' : Nat) :
    BookS (withO M x.1.1 x.1.2 none) (n - 1) (updI f x.2.id none) (upH H s ⟨(H s).mA, (H s).mc, A', c', (H s).ms, (H s).qs.take k ++ (H s).qs.drop (k + 1)⟩) ∧
      (upH H s ⟨(H s).mA, (H s).mc, A', c', (H s).ms, (H s).qs.take k ++ (H s).qs.drop (k + 1)⟩ s).L = remI (H s).L x.2.id := by
  have hi := S.is s hs
  have hall : hOrd (H s).ms ((H s).qs.take k ++ (H s).qs.drop (k + 1)) = (H s).all.filter (notH x.1) := by
    rw [mid_filter S hs hk hx hxa, hne]
    unfold hOrd qOrd
    rw [List.flatMap_append]
    rfl
  have hmem : ∀ q ∈ (H s).qs.take k ++ (H s).qs.drop (k + 1), q ∈ (H s).qs := by
    intro q hq
    rcases List.mem_append.1 hq with hq | hq
    · exact List.mem_of_mem_take hq
    · exact List.mem_of_mem_drop hq
  refine ⟨S.remove hs hxa hall ⟨hi.mkt, fun q hq y hy => hi.qk q (hmem q hq) y hy, ?_⟩ (fun q hq => S.ne s hs q (hmem q hq)), ?_⟩
  · show RankQ s (List.map QG.que _)
    have := hi.rank
    unfold RankQ at this ⊢
    rw [List.map_append, List.map_take, List.map_drop]
    have hsub : List.Sublist ((List.map QG.que (H s).qs).take k ++ (List.map QG.que (H s).qs).drop (k + 1)) (List.map QG.que (H s).qs) := by
      conv => rhs; rw [← List.take_append_drop k (List.map QG.que (H s).qs)]
      refine List.Sublist.append (List.Sublist.refl _) ?_
      rw [← List.drop_drop]
      exact List.drop_sublist _ _
    exact List.Pairwise.sublist hsub this
  · rw [upH_self]
    show ordL (hOrd _ _) = _
    rw [hall]
    exact S.filter_id (mem_allH hs hxa) hs
theorem nodup_fm_erase {α : Type} (g : α → Option Nat) (l : List α) (k : Nat) (h : (l.filterMap g).Nodup) : ((l.take k ++ l.drop (k + 1)).filterMap g).Nodup := by
  refine List.Nodup.sublist (List.Sublist.filterMap _ ?_) h
  conv => rhs; rw [← List.take_append_drop k l]
  refine List.Sublist.append (List.Sublist.refl _) ?_
  rw [← List.drop_drop]
  exact List.drop_sublist _ _
end
end Go.Proofs.Ytaagaamamjabbaa
