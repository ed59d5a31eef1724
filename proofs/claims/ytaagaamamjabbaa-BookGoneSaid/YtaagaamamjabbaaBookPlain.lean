/-
  What a side's list of orders becomes by orders that come and go: the plain words. No walk.
-/
import Derived.Test.YtaagaamamjabbaaSearch
namespace Go.Proofs.Ytaagaamamjabbaa
open Go.RowKit
set_option linter.unusedVariables false

/-- lies x ahead of o, that comes -/
def aheadB (side : Int) (o x : Ord5) : Bool := x.kind == 2 || (!(o.kind == 2) && (x.price == o.price || betB side x.price o.price))
/-- an order more -/
def insO (side : Int) (L : List Ord5) (o : Ord5) : List Ord5 := L.takeWhile (aheadB side o) ++ o :: L.dropWhile (aheadB side o)
/-- without a number -/
def remI (L : List Ord5) (id : Int) : List Ord5 := L.filter fun o => !(o.id == id)
/-- lots less -/
def cutO (o : Ord5) (n : Int) : Ord5 := ⟨o.id, o.side, o.kind, o.price, o.qty - n⟩
def cutI (L : List Ord5) (id n : Int) : List Ord5 := L.map fun o => if o.id = id then cutO o n else o
def getI (L : List Ord5) (id : Int) : Option Ord5 := L.find? fun o => o.id == id

theorem takeWhile_split {α : Type} {p : α → Bool} {l1 l2 : List α} (h1 : ∀ a ∈ l1, p a = true) (h2 : ∀ a ∈ l2, p a = false) : (l1 ++ l2).takeWhile p = l1 ∧ (l1 ++ l2).dropWhile p = l2 := by
  induction l1 with
  | nil =>
    cases l2 with
    | nil => exact ⟨rfl, rfl⟩
    | cons a l => simp [h2 a (by simp)]
  | cons a l ih =>
    have ih := ih (fun x hx => h1 x (by simp [hx]))
    rw [List.cons_append, List.takeWhile_cons_of_pos (h1 a (by simp)), List.dropWhile_cons_of_pos (h1 a (by simp)), ih.1, ih.2]
    exact ⟨rfl, rfl⟩
theorem insO_split {side : Int} {l1 l2 : List Ord5} {o : Ord5} (h1 : ∀ a ∈ l1, aheadB side o a = true) (h2 : ∀ a ∈ l2, aheadB side o a = false) : insO side (l1 ++ l2) o = l1 ++ o :: l2 := by
  unfold insO
  rw [(takeWhile_split h1 h2).1, (takeWhile_split h1 h2).2]
theorem insO_length (side : Int) (L : List Ord5) (o : Ord5) : (insO side L o).length = L.length + 1 := by
  unfold insO
  have := congrArg List.length (List.takeWhile_append_dropWhile (p := aheadB side o) (l := L))
  rw [List.length_append] at this
  rw [List.length_append, List.length_cons]
  omega
theorem mem_insO {side : Int} {L : List Ord5} {o x : Ord5} : x ∈ insO side L o ↔ x = o ∨ x ∈ L := by
  have h := List.takeWhile_append_dropWhile (p := aheadB side o) (l := L)
  unfold insO
  constructor
  · intro hx
    rcases List.mem_append.1 hx with h1 | h1
    · exact .inr (by rw [← h]; exact List.mem_append_left _ h1)
    · rcases List.mem_cons.1 h1 with h1 | h1
      · exact .inl h1
      · exact .inr (by rw [← h]; exact List.mem_append_right _ h1)
  · rintro (rfl | hx)
    · simp
    · rw [← h] at hx
      rcases List.mem_append.1 hx with h1 | h1
      · exact List.mem_append_left _ h1
      · exact List.mem_append_right _ (List.mem_cons_of_mem _ h1)
theorem filter_insO {side : Int} {L : List Ord5} {o : Ord5} {p : Ord5 → Bool} (h : p o = false) : (insO side L o).filter p = L.filter p := by
  conv => rhs; rw [← List.takeWhile_append_dropWhile (p := aheadB side o) (l := L)]
  unfold insO
  rw [List.filter_append, List.filter_append, List.filter_cons_of_neg (by simp [h])]

/-- a thing that lies: its handle, and the order -/
abbrev HO := (Int × Int) × Ord5
def encH (h : Int × Int) : List Value := [.int .i64 h.1, .int .i64 h.2]
theorem encH_length (h : Int × Int) : (encH h).length = 2 := rfl
/-- a queue, and what lies in it -/
structure QG where
  price : Int
  A : Option Addr
  c : Nat
  os : List HO
def QG.que (q : QG) : Que := (q.price, q.A, q.os.length, q.c)
def qOrd (qs : List QG) : List HO := qs.flatMap (·.os)
def hOrd (ms : List HO) (qs : List QG) : List HO := ms ++ qOrd qs
def ordL (l : List HO) : List Ord5 := l.map (·.2)
def hndL (l : List HO) : List (Int × Int) := l.map (·.1)

theorem ordL_append (a b : List HO) : ordL (a ++ b) = ordL a ++ ordL b := by simp [ordL]
theorem qOrd_split (qs : List QG) {k : Nat} (hk : k < qs.length) : qOrd qs = qOrd (qs.take k) ++ (qs[k].os ++ qOrd (qs.drop (k + 1))) := by
  unfold qOrd
  conv => lhs; rw [← List.take_append_drop k qs, List.drop_eq_getElem_cons hk]
  rw [List.flatMap_append, List.flatMap_cons]
theorem qOrd_set (qs : List QG) {k : Nat} (hk : k < qs.length) (q : QG) : qOrd (qs.set k q) = qOrd (qs.take k) ++ (q.os ++ qOrd (qs.drop (k + 1))) := by
  rw [qOrd_split (qs.set k q) (by simpa using hk)]
  rw [List.getElem_set_self, List.take_set_of_le (Nat.le_refl _), List.drop_set_of_lt (by omega)]
theorem qOrd_insert (qs : List QG) (k : Nat) (q : QG) (h : q.os = []) : qOrd (qs.take k ++ q :: qs.drop k) = qOrd qs := by
  unfold qOrd
  conv => rhs; rw [← List.take_append_drop k qs]
  rw [List.flatMap_append, List.flatMap_cons, List.flatMap_append, h]
  rfl

/-- what a side holds in queues -/
structure HalfIs (side : Int) (ms : List HO) (qs : List QG) : Prop where
  mkt : ∀ x ∈ ms, x.2.kind = 2 ∧ x.2.side = side
  qk : ∀ q ∈ qs, ∀ x ∈ q.os, x.2.kind ≠ 2 ∧ x.2.side = side ∧ x.2.price = q.price
  rank : RankQ side (qs.map QG.que)

theorem betB_irrefl (side a : Int) : betB side a a = false := by unfold betB; split <;> simp
theorem betB_asymm {side a b : Int} (h : betB side a b = true) : betB side b a = false := by
  unfold betB at *
  split at h <;> simp_all <;> omega
theorem betB_ne {side a b : Int} (h : betB side a b = true) : a ≠ b := by rintro rfl; rw [betB_irrefl] at h; cases h
theorem rank_at {side : Int} {qs : List QG} (h : RankQ side (qs.map QG.que)) {i j : Nat} (hj : j < qs.length) (hij : i < j) : betB side (qs[i]'(by omega)).price qs[j].price = true := by
  have := List.pairwise_iff_getElem.1 h i j (by simp; omega) (by simpa using hj) hij
  simpa [QG.que] using this

theorem ins_market {side : Int} {ms : List HO} {qs : List QG} (h : HalfIs side ms qs) (x : HO) (hx : x.2.kind = 2) : insO side (ordL (hOrd ms qs)) x.2 = ordL (hOrd (ms ++ [x]) qs) := by
  unfold hOrd
  rw [ordL_append, insO_split, ordL_append, ordL_append]
  · simp [ordL]
  · intro a ha
    obtain ⟨y, hy, rfl⟩ := List.mem_map.1 ha
    unfold aheadB
    simp [(h.mkt y hy).1]
  · intro a ha
    obtain ⟨y, hy, rfl⟩ := List.mem_map.1 ha
    obtain ⟨q, hq, hyq⟩ := List.mem_flatMap.1 hy
    unfold aheadB
    have := (h.qk q hq y hyq).1
    simp [this, hx]
theorem ins_queue {side : Int} {ms : List HO} {qs : List QG} (h : HalfIs side ms qs) (x : HO) (hx : x.2.kind ≠ 2) {k : Nat} (hk : k < qs.length) (hp : qs[k].price = x.2.price) (q' : QG) (hq' : q'.os = qs[k].os ++ [x]) :
    insO side (ordL (hOrd ms qs)) x.2 = ordL (hOrd ms (qs.set k q')) := by
  unfold hOrd
  rw [qOrd_set qs hk, qOrd_split qs hk, hq']
  have e : ordL (ms ++ (qOrd (qs.take k) ++ (qs[k].os ++ qOrd (qs.drop (k + 1))))) = ordL (ms ++ (qOrd (qs.take k) ++ qs[k].os)) ++ ordL (qOrd (qs.drop (k + 1))) := by simp [ordL]
  rw [e, insO_split]
  · simp [ordL]
  · intro a ha
    obtain ⟨y, hy, rfl⟩ := List.mem_map.1 ha
    unfold aheadB
    rcases List.mem_append.1 hy with hy | hy
    · simp [(h.mkt y hy).1]
    · have hx' : (x.2.kind == 2) = false := by simpa using hx
      rw [hx']
      rcases List.mem_append.1 hy with hy | hy
      · obtain ⟨q, hq, hyq⟩ := List.mem_flatMap.1 hy
        obtain ⟨i, hi, rfl⟩ := List.mem_iff_getElem.1 hq
        have hi' : i < k := by simp at hi; omega
        rw [List.getElem_take] at hyq
        have h1 := (h.qk _ (List.getElem_mem _) y hyq).2.2
        have h2 := rank_at h.rank hk hi'
        rw [hp, ← h1] at h2
        simp [h2]
      · have h1 := (h.qk _ (List.getElem_mem _) y hy).2.2
        simp [h1, hp]
  · intro a ha
    obtain ⟨y, hy, rfl⟩ := List.mem_map.1 ha
    obtain ⟨q, hq, hyq⟩ := List.mem_flatMap.1 hy
    obtain ⟨i, hi, rfl⟩ := List.mem_iff_getElem.1 hq
    rw [List.getElem_drop] at hyq
    have h0 := h.qk _ (List.getElem_mem _) y hyq
    have h2 := rank_at h.rank (i := k) (j := k + 1 + i) (by simp at hi; omega) (by omega)
    rw [hp, ← h0.2.2] at h2
    unfold aheadB
    have h3 := betB_asymm h2
    have h4 := betB_ne h2
    have e1 : (y.2.kind == 2) = false := by simpa using h0.1
    have e2 : (y.2.price == x.2.price) = false := by simpa using fun e => h4 e.symm
    rw [e1, e2, h3]
    simp

theorem insO_ids {side : Int} {L : List Ord5} {o : Ord5} {id : Int} : id ∈ (insO side L o).map (·.id) ↔ id = o.id ∨ id ∈ L.map (·.id) := by
  simp only [List.mem_map, mem_insO]
  constructor
  · rintro ⟨x, rfl | h, rfl⟩
    · exact .inl rfl
    · exact .inr ⟨x, h, rfl⟩
  · rintro (rfl | ⟨x, h, rfl⟩)
    · exact ⟨o, .inl rfl, rfl⟩
    · exact ⟨x, .inr h, rfl⟩
end Go.Proofs.Ytaagaamamjabbaa
