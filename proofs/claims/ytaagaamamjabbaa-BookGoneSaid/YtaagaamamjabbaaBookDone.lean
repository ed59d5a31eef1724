/-
  What an order more makes of a book's lists: the two ways in which Add ends. No walk.
-/
import Derived.Test.YtaagaamamjabbaaBookAddE
import Derived.Test.YtaagaamamjabbaaFind
namespace Go.Proofs.Ytaagaamamjabbaa
open Go.RowKit
set_option linter.unusedVariables false

/-- the book with an order more -/
def AddDone (w w' : World) (b a r : Nat) (F : Nat → Prop) (n : Nat) (H : Int → HS) (o : Ord5) : Prop :=
  ∃ F' M' f' H' reg', BookM w' b a F' M' (n + 1) r f' H' reg' ∧ BookS M' (n + 1) f' H' ∧ BStep w w' (BFp b r F H) (BFp b r F' H') ∧ (H' o.side).L = insO o.side (H o.side).L o ∧ ∀ s', s' ≠ o.side → H' s' = H s'

section
variable {M : Int → Int → Option Ord5} {n : Nat} {f : Int → Option Value} {H : Int → HS} {s : Int} {o : Ord5} {h : Int × Int}
theorem done_market (hS : BookS M n f H) (hs : Is12 s) (ho : o.side = s) (hk : o.kind = 2) (hok : OkO o) (hno : M h.1 h.2 = none) (hf : f o.id = none) (A' : Option Addr) (c' : Nat) :
    BookS (withO M h.1 h.2 (some o)) (n + 1) (updI f o.id (some (placeV (h, o)))) (upH H s ⟨A', c', (H s).qA, (H s).qc, (H s).ms ++ [(h, o)], (H s).qs⟩) ∧
      (upH H s ⟨A', c', (H s).qA, (H s).qc, (H s).ms ++ [(h, o)], (H s).qs⟩ s).L = insO s (H s).L o := by
  have hi := hS.is s hs
  refine ⟨hS.add (x := (h, o)) hs ?_ ⟨?_, hi.qk, hi.rank⟩ (hS.ne s hs) hno hf hok, ?_⟩
  · show (((H s).ms ++ [(h, o)]) ++ qOrd (H s).qs).Perm ((h, o) :: ((H s).ms ++ qOrd (H s).qs))
    rw [List.append_assoc]
    exact List.perm_middle
  · intro x hx
    rcases List.mem_append.1 hx with hx | hx
    · exact hi.mkt x hx
    · obtain rfl : x = (h, o) := by simpa using hx
      exact ⟨hk, ho⟩
  · rw [upH_self]
    exact (ins_market hi (h, o) hk).symm
/-- a queue that may be empty put in, where the price has none -/
def insQ (qs : List QG) (k : Nat) (p : Int) : List QG := qs.take k ++ ⟨p, none, 0, []⟩ :: qs.drop k
theorem insQ_que (qs : List QG) (k : Nat) (p : Int) : (insQ qs k p).map QG.que = (qs.map QG.que).take k ++ (p, none, 0, 0) :: (qs.map QG.que).drop k := by
  unfold insQ
  rw [List.map_append, List.map_cons, List.map_take, List.map_drop]
  rfl
theorem insQ_length {qs : List QG} {k : Nat} (hk : k ≤ qs.length) (p : Int) : (insQ qs k p).length = qs.length + 1 := by
  unfold insQ
  simp
  omega
theorem insQ_at {qs : List QG} {k : Nat} (hk : k ≤ qs.length) (p : Int) : (insQ qs k p)[k]? = some ⟨p, none, 0, []⟩ := by
  unfold insQ
  rw [List.getElem?_append_right (by simp; omega), List.length_take, Nat.min_eq_left hk, Nat.sub_self]
  rfl
theorem insQ_fm (qs : List QG) (k : Nat) (p : Int) : (insQ qs k p).filterMap (fun q => blkOf q.A) = qs.filterMap fun q => blkOf q.A := by
  unfold insQ
  rw [List.filterMap_append, List.filterMap_cons_none rfl, ← List.filterMap_append, List.take_append_drop]
theorem insQ_mem {qs : List QG} {k : Nat} {p : Int} {q : QG} (hq : q ∈ insQ qs k p) : q ∈ qs ∨ q = ⟨p, none, 0, []⟩ := by
  unfold insQ at hq
  rcases List.mem_append.1 hq with h | h
  · exact .inl (List.mem_of_mem_take h)
  · rcases List.mem_cons.1 h with h | h
    · exact .inr h
    · exact .inl (List.mem_of_mem_drop h)
theorem cmpQ_pos {a b : Int} (h : 0 ≤ cmpQ s a b) (hne : a ≠ b) (hs : Is12 s) : betB s b a = true := by
  unfold cmpQ at h
  rw [if_neg hne] at h
  split at h
  · omega
  · rename_i hb
    unfold betB at *
    rcases hs with rfl | rfl <;> simp_all <;> omega
theorem insQ_half {ms : List HO} {qs : List QG} {k : Nat} {p : Int} (hs : Is12 s) (h : HalfIs s ms qs) (hf : FoundK s p (qs.map QG.que) qs.length k) (hn : foundB s p (qs.map QG.que) qs.length k = false) : HalfIs s ms (insQ qs k p) ∧ hOrd ms (insQ qs k p) = hOrd ms qs := by
  obtain ⟨hk, hlo, hhi⟩ := hf
  have hne : ∀ i (hi : i < qs.length), k ≤ i → qs[i].price ≠ p := by
    intro i hi hki e
    have h0 := hhi i (by simpa using hi) hki
    simp only [List.getElem_map] at h0
    -- the first one there is not the price
    have hkl : k < qs.length := by omega
    unfold foundB at hn
    have e1 : (qs.map QG.que)[k]? = some qs[k].que := by simp [hkl]
    rw [e1] at hn
    have hd : decide (k < qs.length) = true := by simpa using hkl
    rw [hd] at hn
    have hk0 : cmpQ s qs[k].price p ≠ 0 := by
      have : (cmpQ s qs[k].que.1 p == 0) = false := by simpa using hn
      simpa [QG.que] using this
    rcases Nat.lt_or_eq_of_le hki with hlt | rfl
    · have hr := rank_at h.rank hi hlt
      rw [e] at hr
      have h2 := hhi k (by simpa using hkl) (Nat.le_refl _)
      simp only [List.getElem_map] at h2
      have h3 : cmpQ s qs[k].que.1 p = cmpQ s qs[k].price p := rfl
      have h4 := cmpQ_pos (s := s) (a := qs[k].price) (b := p) (by rw [← h3]; exact h2) (betB_ne hr) hs
      rw [betB_asymm hr] at h4
      cases h4
    · exact hk0 (by rw [e]; unfold cmpQ; rw [if_pos rfl])
  refine ⟨⟨h.mkt, fun q hq x hx => ?_, ?_⟩, ?_⟩
  · rcases insQ_mem hq with hq | rfl
    · exact h.qk q hq x hx
    · cases hx
  · rw [insQ_que]
    unfold RankQ
    have hr := h.rank
    unfold RankQ at hr
    have hr' := hr
    rw [← List.take_append_drop k (qs.map QG.que)] at hr'
    rw [List.pairwise_append] at hr' ⊢
    refine ⟨hr'.1, ?_, ?_⟩
    · rw [List.pairwise_cons]
      refine ⟨fun y hy => ?_, hr'.2.1⟩
      obtain ⟨i, hi, rfl⟩ := List.mem_iff_getElem.1 hy
      rw [List.getElem_drop]
      have hi' : k + i < qs.length := by simp at hi; omega
      have h0 := hhi (k + i) (by simpa using hi') (by omega)
      have h1 := hne (k + i) hi' (by omega)
      simp only [List.getElem_map] at h0 ⊢
      exact cmpQ_pos h0 h1 hs
    · intro x hx y hy
      rcases List.mem_cons.1 hy with rfl | hy
      · obtain ⟨i, hi, rfl⟩ := List.mem_iff_getElem.1 hx
        have hi' : i < k := by simp at hi; omega
        rw [List.getElem_take]
        have h0 := hlo i (by simp; omega) hi'
        exact cmpQ_neg.1 h0
      · exact hr'.2.2 x hx y hy
  · unfold hOrd
    have := qOrd_insert qs k ⟨p, none, 0, []⟩ rfl
    unfold insQ
    rw [this]
/-- an order behind those of its queue -/
theorem done_queue (hS : BookS M n f H) (hs : Is12 s) (ho : o.side = s) (hk : o.kind ≠ 2) (hok : OkO o) (hno : M h.1 h.2 = none) (hf : f o.id = none) (qA : Option Addr) (qc : Nat) (qs : List QG) (hi : HalfIs s (H s).ms qs) (ha : hOrd (H s).ms qs = (H s).all) {k : Nat} (hkl : k < qs.length) (hp : qs[k].price = o.price)
    (hne : ∀ i (hi : i < qs.length), i ≠ k → qs[i].os ≠ []) (A' : Option Addr) (c' : Nat) :
    BookS (withO M h.1 h.2 (some o)) (n + 1) (updI f o.id (some (placeV (h, o)))) (upH H s ⟨(H s).mA, (H s).mc, qA, qc, (H s).ms, qs.set k ⟨qs[k].price, A', c', qs[k].os ++ [(h, o)]⟩⟩) ∧
      (upH H s ⟨(H s).mA, (H s).mc, qA, qc, (H s).ms, qs.set k ⟨qs[k].price, A', c', qs[k].os ++ [(h, o)]⟩⟩ s).L = insO s (H s).L o := by
  refine ⟨hS.add (x := (h, o)) hs ?_ ⟨hi.mkt, ?_, ?_⟩ ?_ hno hf hok, ?_⟩
  · rw [← ha]
    show (hOrd _ _).Perm _
    unfold hOrd
    rw [qOrd_set qs hkl, qOrd_split qs hkl]
    have : (H s).ms ++ (qOrd (qs.take k) ++ ((qs[k].os ++ [(h, o)]) ++ qOrd (qs.drop (k + 1)))) = ((H s).ms ++ (qOrd (qs.take k) ++ qs[k].os)) ++ (h, o) :: qOrd (qs.drop (k + 1)) := by simp
    rw [this]
    refine List.perm_middle.trans ?_
    simp
  · intro q hq x hx
    rcases List.mem_or_eq_of_mem_set hq with hq | rfl
    · exact hi.qk q hq x hx
    · rcases List.mem_append.1 hx with hx | hx
      · exact hi.qk _ (List.getElem_mem _) x hx
      · obtain rfl : x = (h, o) := by simpa using hx
        exact ⟨hk, ho, hp.symm⟩
  · have e2 : (qs.set k ⟨qs[k].price, A', c', qs[k].os ++ [(h, o)]⟩).map QG.que = (qs.map QG.que).set k (qs[k].price, A', qs[k].os.length + 1, c') := by
      rw [List.map_set]
      simp [QG.que]
    unfold RankQ
    rw [e2]
    rw [List.pairwise_iff_getElem]
    intro i j hi1 hj1 hij
    have h0 := List.pairwise_iff_getElem.1 hi.rank i j (by simpa using hi1) (by simpa using hj1) hij
    simp only [List.getElem_map, QG.que] at h0
    simp only [List.getElem_set, List.getElem_map, QG.que]
    split <;> split <;> simp_all
  · intro q hq
    obtain ⟨i, hi1, rfl⟩ := List.mem_iff_getElem.1 hq
    rw [List.getElem_set]
    split
    · simp
    · exact hne i (by simpa using hi1) (fun e => by omega)
  · rw [upH_self]
    have := ins_queue hi (h, o) hk hkl hp ⟨qs[k].price, A', c', qs[k].os ++ [(h, o)]⟩ rfl
    rw [ha] at this
    exact this.symm

variable {w w5 w6 : World} {b a r : Nat} {F F' : Nat → Prop} {reg' : Nat → Int} {m gg cap : Nat}
theorem addDone_market (hS : BookS M n f H) (hs : Is12 s) (ho : o.side = s) (hk : o.kind = 2) (hok : OkO o) (hno : M h.1 h.2 = none) (hf : f o.id = none)
    (hM5 : BookM w5 b a F' (withO M h.1 h.2 (some o)) (n + 1) r (updI f o.id (some (placeV (h, o)))) H reg') (hS5 : BStep w w5 (BFp b r F H) (BFp b r F' H)) (hm : (H s).ms.length = m)
    (hK6 : Keeps (fun i => (Value.slice (H s).mA m (H s).mc).ownBlock = some i) w5 w6) (hO6 : w6.ownsRow 0 80 2 (.slice (some ⟨gg, 0, none⟩) (m + 1) cap) (m + 1) (flat encH (hndL (H s).ms) ++ encH h))
    (hA6 : (Value.slice (H s).mA m (H s).mc).ownBlock = some gg ∨ gg = w5.heap.size + 1) :
    AddDone w (w6.setCell ⟨b, hoff s, none⟩ (.slice (some ⟨gg, 0, none⟩) (m + 1) cap)) b a r F n H o := by
  subst hm
  rw [own_slice] at hK6 hA6
  have hl : ((H s).ms ++ [(h, o)]).length = (H s).ms.length + 1 := by simp
  have hR : RowAt w6 (some ⟨gg, 0, none⟩) ((H s).ms ++ [(h, o)]).length cap 80 2 (flat encH (hndL ((H s).ms ++ [(h, o)]))) := by
    rw [hl]
    have e : flat encH (hndL ((H s).ms ++ [(h, o)])) = flat encH (hndL (H s).ms) ++ encH h := by unfold hndL; rw [List.map_append, flat_append]; simp [flat]
    rw [e]
    exact hO6
  obtain ⟨reg2, hM, hB⟩ := hM5.market hs hK6 hR (fun g hg => by cases hg; exact hA6.imp id (fun e => by show _ ≤ gg; omega))
  rw [hl] at hM hB
  obtain ⟨h1, h2⟩ := done_market hS hs ho hk hok hno hf (some ⟨gg, 0, none⟩) cap
  refine ⟨F', _, _, _, reg2, hM, h1, hS5.trans hB, ?_, fun s' hs' => upH_other (by rw [← ho]; exact hs')⟩
  rw [ho]
  exact h2

/-- behind the search for the queue -/
def Add20 (w wx : World) (b a r : Nat) (F F' : Nat → Prop) (M' : Int → Int → Option Ord5) (n : Nat) (f' : Int → Option Value) (H : Int → HS) (s p : Int) (k pb : Nat) : Prop :=
  ∃ (H1 : Int → HS) (reg1 : Nat → Int) (qA : Option Addr) (qc : Nat) (qs : List QG), BookM wx b a F' M' (n + 1) r f' H1 reg1 ∧ BStep w wx (BFp b r F H) (BFp b r F' H1) ∧ H1 = upH H s ⟨(H s).mA, (H s).mc, qA, qc, (H s).ms, qs⟩ ∧
    HalfIs s (H s).ms qs ∧ hOrd (H s).ms qs = (H s).all ∧ ¬ BFp b r F' H1 pb ∧ ∃ hkl : k < qs.length, qs[k].price = p ∧ ∀ i (hi : i < qs.length), i ≠ k → qs[i].os ≠ []
theorem upH_eta (H : Int → HS) (s : Int) : upH H s ⟨(H s).mA, (H s).mc, (H s).qA, (H s).qc, (H s).ms, (H s).qs⟩ = H := by
  funext s'
  unfold upH
  split
  · rename_i e; rw [e]
  · rfl
theorem add20_found {M' : Int → Int → Option Ord5} {f' : Int → Option Value} {p : Int} {k pb : Nat} (hnp : ¬ BFp b r F' H pb) (hS : BookS M n f H) (hs : Is12 s) (hM5 : BookM w5 b a F' M' (n + 1) r f' H reg') (hS5 : BStep w w5 (BFp b r F H) (BFp b r F' H))
    (hf : foundB s p ((H s).qs.map QG.que) (H s).qs.length k = true) : Add20 w w5 b a r F F' M' n f' H s p k pb := by
  unfold foundB at hf
  rw [Bool.and_eq_true, decide_eq_true_iff] at hf
  obtain ⟨hk, hf⟩ := hf
  refine ⟨H, reg', (H s).qA, (H s).qc, (H s).qs, hM5, hS5, (upH_eta H s).symm, hS.is s hs, rfl, hnp, hk, ?_, fun i hi _ => hS.ne s hs _ (List.getElem_mem _)⟩
  have e1 : ((H s).qs.map QG.que)[k]? = some (H s).qs[k].que := by simp [hk]
  rw [e1] at hf
  have h0 : cmpQ s (H s).qs[k].price p = 0 := by simpa [QG.que] using hf
  unfold cmpQ at h0
  split at h0
  · assumption
  · split at h0 <;> omega
theorem add20_new {M' : Int → Int → Option Ord5} {f' : Int → Option Value} {p : Int} {k pb : Nat} (hnp : ¬ BFp b r F' H pb) (hpl : pb < w5.heap.size) {A' : Option Addr} {c' : Nat} {v : Value} (hS : BookS M n f H) (hs : Is12 s) (hM5 : BookM w5 b a F' M' (n + 1) r f' H reg') (hS5 : BStep w w5 (BFp b r F H) (BFp b r F' H))
    (hk : FoundK s p ((H s).qs.map QG.que) (H s).qs.length k) (hf : foundB s p ((H s).qs.map QG.que) (H s).qs.length k = false)
    (hI : InsTo w5 w6 (H s).qA A' ((H s).qs.length + 1) c' (((H s).qs.map QG.que).take k ++ (p, none, 0, 0) :: ((H s).qs.map QG.que).drop k)) (hv : v = .slice A' ((H s).qs.length + 1) c') :
    Add20 w (w6.setCell ⟨b, hoff s + 1, none⟩ v) b a r F F' M' n f' H s p k pb := by
  subst hv
  obtain ⟨hR, hK, hat⟩ := hI
  have hkl := hk.1
  have hl := insQ_length hkl p
  rw [← insQ_que, ← hl] at hR
  obtain ⟨reg2, hM, hB⟩ := hM5.queues hs hK hR hat (fun q hq => (insQ_mem hq).imp id (fun e => by subst e; exact ⟨rfl, rfl, rfl⟩)) (by rw [insQ_fm]; exact (hM5.hx s hs).nd)
  obtain ⟨h1, h2⟩ := insQ_half hs (hS.is s hs) hk hf
  rw [hl] at hM hB
  have hkq : k < (insQ (H s).qs k p).length := by omega
  have hat := insQ_at hkl p
  rw [List.getElem?_eq_getElem hkq] at hat
  refine ⟨_, reg2, A', c', insQ (H s).qs k p, hM, hS5.trans hB, rfl, h1, h2, (fun hi => (hB.2 pb hi).elim hnp (by omega)), hkq, by rw [Option.some.inj hat], fun i hi hik e => ?_⟩
  have hmem := insQ_mem (List.getElem_mem hi)
  rcases hmem with h3 | h3
  · exact hS.ne s hs _ h3 e
  · -- another empty queue of that price: ranks differ
    have hr := h1.rank
    rcases Nat.lt_or_gt_of_ne hik with hlt | hgt
    · have h4 := rank_at hr hkq hlt
      rw [h3, Option.some.inj hat, betB_irrefl] at h4
      cases h4
    · have h4 := rank_at hr hi hgt
      rw [h3, Option.some.inj hat, betB_irrefl] at h4
      cases h4
theorem addDone_queue {k qg : Nat} {H1 : Int → HS} {qA : Option Addr} {qc : Nat} {qs : List QG} (hS : BookS M n f H) (hs : Is12 s) (ho : o.side = s) (hk : o.kind ≠ 2) (hok : OkO o) (hno : M h.1 h.2 = none) (hf : f o.id = none)
    (hM5 : BookM w5 b a F' (withO M h.1 h.2 (some o)) (n + 1) r (updI f o.id (some (placeV (h, o)))) H1 reg') (hS5 : BStep w w5 (BFp b r F H) (BFp b r F' H1)) (hH : H1 = upH H s ⟨(H s).mA, (H s).mc, qA, qc, (H s).ms, qs⟩)
    (hi : HalfIs s (H s).ms qs) (ha : hOrd (H s).ms qs = (H s).all) (hkl : k < qs.length) (hp : qs[k].price = o.price) (hne : ∀ i (hi : i < qs.length), i ≠ k → qs[i].os ≠ []) (hq : qA = some ⟨qg, 0, none⟩) (hm : qs[k].os.length = m)
    (hK6 : Keeps (fun i => (Value.slice qs[k].A m qs[k].c).ownBlock = some i) w5 w6) (hO6 : w6.ownsRow 0 80 2 (.slice (some ⟨gg, 0, none⟩) (m + 1) cap) (m + 1) (flat encH (hndL qs[k].os) ++ encH h))
    (hA6 : (Value.slice qs[k].A m qs[k].c).ownBlock = some gg ∨ gg = w5.heap.size + 1) :
    AddDone w (w6.setCell ⟨qg, k * 2 + 1, none⟩ (.slice (some ⟨gg, 0, none⟩) (m + 1) cap)) b a r F n H o := by
  subst hm
  subst hH
  rw [own_slice] at hK6 hA6
  have hl : (qs[k].os ++ [(h, o)]).length = qs[k].os.length + 1 := by simp
  have hR : RowAt w6 (some ⟨gg, 0, none⟩) (qs[k].os ++ [(h, o)]).length cap 80 2 (flat encH (hndL (qs[k].os ++ [(h, o)]))) := by
    rw [hl]
    have e : flat encH (hndL (qs[k].os ++ [(h, o)])) = flat encH (hndL qs[k].os) ++ encH h := by unfold hndL; rw [List.map_append, flat_append]; simp [flat]
    rw [e]
    exact hO6
  have eS : upH H s ⟨(H s).mA, (H s).mc, qA, qc, (H s).ms, qs⟩ s = ⟨(H s).mA, (H s).mc, qA, qc, (H s).ms, qs⟩ := upH_self _ _ _
  have hX := hM5.queue (s := s) hs (w3 := w6) (k := k) (by rw [eS]; exact hkl) (qg := qg) (by rw [eS]; exact hq) (A' := some ⟨gg, 0, none⟩) (c' := cap) (os' := qs[k].os ++ [(h, o)])
    (by simpa only [eS] using hK6) hR (fun g hg => by cases hg; simp only [eS]; exact hA6.imp id (fun e => by show _ ≤ gg; omega))
  rw [hl] at hX
  simp only [eS] at hX
  obtain ⟨reg2, hM, hB⟩ := hX
  have e2 : upH (upH H s ⟨(H s).mA, (H s).mc, qA, qc, (H s).ms, qs⟩) s ⟨(H s).mA, (H s).mc, qA, qc, (H s).ms, qs.set k ⟨qs[k].price, some ⟨gg, 0, none⟩, cap, qs[k].os ++ [(h, o)]⟩⟩ = upH H s ⟨(H s).mA, (H s).mc, qA, qc, (H s).ms, qs.set k ⟨qs[k].price, some ⟨gg, 0, none⟩, cap, qs[k].os ++ [(h, o)]⟩⟩ := by
    funext s'
    unfold upH
    split <;> rfl
  rw [e2] at hM hB
  obtain ⟨h1, h2⟩ := done_queue hS hs ho hk hok hno hf qA qc qs hi ha hkl hp hne (some ⟨gg, 0, none⟩) cap
  refine ⟨F', _, _, _, reg2, hM, h1, hS5.trans hB, ?_, fun s' hs' => upH_other (by rw [← ho]; exact hs')⟩
  rw [ho]
  exact h2
end
end Go.Proofs.Ytaagaamamjabbaa
