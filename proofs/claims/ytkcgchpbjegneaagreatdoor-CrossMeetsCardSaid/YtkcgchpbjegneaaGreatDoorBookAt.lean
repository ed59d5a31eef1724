/-
  A book in memory: its two sides by lists of handles with their orders, its arena, its map; and what single steps make of it. No walk.
  What a book's lists, map and arena say of the same orders; an order more, an order less. No walk.
-/
import Derived.Test.YtkcgchpbjegneaaGreatDoorOAr
import Derived.Test.YtkcgchpbjegneaaGreatDoorQueue
import Derived.Test.YtkcgchpbjegneaaGreatDoorDropH
import Derived.Test.YtkcgchpbjegneaaGreatDoorMaps
namespace Go.Proofs.YtkcgchpbjegneaaGreatDoor
open Go.RowKit
set_option linter.unusedVariables false

/-- one side -/
structure HS where
  mA : Option Addr
  mc : Nat
  qA : Option Addr
  qc : Nat
  ms : List HO
  qs : List QG
def HS.all (h : HS) : List HO := hOrd h.ms h.qs
def HS.L (h : HS) : List Ord5 := ordL h.all
def HFp (h : HS) (i : Nat) : Prop := blkOf h.mA = some i ∨ blkOf h.qA = some i ∨ ∃ q ∈ h.qs, blkOf q.A = some i
def Is12 (s : Int) : Prop := s = 1 ∨ s = 2

structure HalfAt (w : World) (reg : Nat → Int) (s : Int) (h : HS) : Prop where
  rm : RowAt w h.mA h.ms.length h.mc 155 2 (flat encH (hndL h.ms))
  rq : RowAt w h.qA h.qs.length h.qc 166 2 (flat encQ (h.qs.map QG.que))
  rl : ∀ q ∈ h.qs, RowAt w q.A q.os.length q.c 155 2 (flat encH (hndL q.os))
  gm : ∀ g, blkOf h.mA = some g → reg g = s * 10 + 1
  gq : ∀ g, blkOf h.qA = some g → reg g = s * 10 + 2
  gl : ∀ q ∈ h.qs, ∀ g, blkOf q.A = some g → reg g = s * 10 + 3
  nd : (h.qs.filterMap fun q => blkOf q.A).Nodup

section
variable {w w' : World} {reg reg' : Nat → Int} {s : Int} {h : HS}
theorem HalfAt.fp (H : HalfAt w reg s h) {i : Nat} (hi : HFp h i) : i < w.heap.size ∧ (reg i = s * 10 + 1 ∨ reg i = s * 10 + 2 ∨ reg i = s * 10 + 3) := by
  rcases hi with hi | hi | ⟨q, hq, hi⟩
  · exact ⟨H.rm.lt hi, .inl (H.gm i hi)⟩
  · exact ⟨H.rq.lt hi, .inr (.inl (H.gq i hi))⟩
  · exact ⟨(H.rl q hq).lt hi, .inr (.inr (H.gl q hq i hi))⟩
theorem HalfAt.later {S : Nat → Prop} (H : HalfAt w reg s h) (hk : Keeps S w w') (hS : ∀ i, S i → i < w.heap.size → reg i ≠ s * 10 + 1 ∧ reg i ≠ s * 10 + 2 ∧ reg i ≠ s * 10 + 3) (hr : ∀ i, i < w.heap.size → reg' i = reg i) : HalfAt w' reg' s h := by
  refine ⟨H.rm.keeps hk ?_, H.rq.keeps hk ?_, fun q hq => (H.rl q hq).keeps hk ?_, fun g hg => (hr g (H.rm.lt hg)).trans (H.gm g hg), fun g hg => (hr g (H.rq.lt hg)).trans (H.gq g hg), fun q hq g hg => (hr g ((H.rl q hq).lt hg)).trans (H.gl q hq g hg), H.nd⟩
  · intro g hg hs; exact (hS g hs (H.rm.lt hg)).1 (H.gm g hg)
  · intro g hg hs; exact (hS g hs (H.rq.lt hg)).2.1 (H.gq g hg)
  · intro g hg hs; exact (hS g hs ((H.rl q hq).lt hg)).2.2 (H.gl q hq g hg)
end

/-- where a side's slices lie in the book's block -/
def hoff (s : Int) : Nat := if s = 1 then 2 else 4
def bookCells (a r : Nat) (H : Int → HS) : Array Value :=
  #[.pointer (some ⟨a, 0, none⟩), .map (some r), .slice (H 1).mA (H 1).ms.length (H 1).mc, .slice (H 1).qA (H 1).qs.length (H 1).qc, .slice (H 2).mA (H 2).ms.length (H 2).mc, .slice (H 2).qA (H 2).qs.length (H 2).qc]
def upH (H : Int → HS) (s : Int) (h : HS) : Int → HS := fun s' => if s' = s then h else H s'
theorem upH_self (H : Int → HS) (s : Int) (h : HS) : upH H s h s = h := if_pos rfl
theorem upH_other {H : Int → HS} {s s' : Int} {h : HS} (e : s' ≠ s) : upH H s h s' = H s' := if_neg e

structure BookM (w : World) (b a : Nat) (F : Nat → Prop) (M : Int → Int → Option Ord5) (n r : Nat) (f : Int → Option Value) (H : Int → HS) (reg : Nat → Int) : Prop where
  blk : Blk w b 153 (bookCells a r H)
  ar : OAr w a F M 100 n
  mp : IMap w r f
  hx : ∀ s, Is12 s → HalfAt w reg s (H s)
  gb : reg b = 1
  gr : reg r = 2
  gF : ∀ i, F i → reg i = 3
def BFp (b r : Nat) (F : Nat → Prop) (H : Int → HS) (i : Nat) : Prop := i = b ∨ i = r ∨ F i ∨ HFp (H 1) i ∨ HFp (H 2) i

/-- of a world by turns within G; what is owned then was owned, or is new -/
def BStep (w w' : World) (G G' : Nat → Prop) : Prop := Keeps G w w' ∧ ∀ i, G' i → G i ∨ w.heap.size ≤ i
theorem BStep.trans {w w1 w2 : World} {G G1 G2 : Nat → Prop} (h : BStep w w1 G G1) (k : BStep w1 w2 G1 G2) : BStep w w2 G G2 := by
  have hs := h.1.size
  refine ⟨h.1.trans k.1 h.2, fun i hi => ?_⟩
  rcases k.2 i hi with h' | h'
  · exact h.2 i h'
  · exact .inr (by omega)
theorem BStep.of_below {w w' : World} {G : Nat → Prop} (h : Below w.heap.size w w') : BStep w w' G G := ⟨Keeps.of_below h _, fun i h => .inl h⟩

section
variable {w w' : World} {b a n r : Nat} {F : Nat → Prop} {M : Int → Int → Option Ord5} {f : Int → Option Value} {H : Int → HS} {reg : Nat → Int}
theorem BookM.cells (h : BookM w b a F M n r f H reg) : w.cell? ⟨b, 0, none⟩ = some (.pointer (some ⟨a, 0, none⟩)) ∧ w.cell? ⟨b, 1, none⟩ = some (.map (some r)) ∧
    w.cell? ⟨b, 2, none⟩ = some (.slice (H 1).mA (H 1).ms.length (H 1).mc) ∧ w.cell? ⟨b, 3, none⟩ = some (.slice (H 1).qA (H 1).qs.length (H 1).qc) ∧
    w.cell? ⟨b, 4, none⟩ = some (.slice (H 2).mA (H 2).ms.length (H 2).mc) ∧ w.cell? ⟨b, 5, none⟩ = some (.slice (H 2).qA (H 2).qs.length (H 2).qc) := by
  refine ⟨?_, ?_, ?_, ?_, ?_, ?_⟩ <;> (rw [Blk.cell h.blk]; rfl)
theorem BookM.fp (h : BookM w b a F M n r f H reg) {i : Nat} (hi : BFp b r F H i) : i < w.heap.size := by
  rcases hi with rfl | rfl | hi | hi | hi
  · exact Blk.lt h.blk
  · exact h.mp.lt
  · exact h.ar.fp hi
  · exact ((h.hx 1 (.inl rfl)).fp hi).1
  · exact ((h.hx 2 (.inr rfl)).fp hi).1
theorem BookM.fpH (s : Int) (hs : Is12 s) {i : Nat} (hi : HFp (H s) i) : BFp b r F H i := by
  rcases hs with rfl | rfl
  · exact .inr (.inr (.inr (.inl hi)))
  · exact .inr (.inr (.inr (.inr hi)))
/-- turns outside of it -/
theorem BookM.keeps {S : Nat → Prop} (h : BookM w b a F M n r f H reg) (hk : Keeps S w w') (hn : ∀ i, BFp b r F H i → ¬ S i) : BookM w' b a F M n r f H reg := by
  refine ⟨Blk.keeps h.blk hk (hn b (.inl rfl)), h.ar.keeps hk (fun i hi => hn i (.inr (.inr (.inl hi)))), h.mp.of_block (hk.block r h.mp.lt (hn r (.inr (.inl rfl)))), fun s hs => ?_, h.gb, h.gr, h.gF⟩
  have X := h.hx s hs
  exact ⟨X.rm.keeps hk (fun g hg => hn g (fpH s hs (.inl hg))), X.rq.keeps hk (fun g hg => hn g (fpH s hs (.inr (.inl hg)))), fun q hq => (X.rl q hq).keeps hk (fun g hg => hn g (fpH s hs (.inr (.inr ⟨q, hq, hg⟩)))), X.gm, X.gq, X.gl, X.nd⟩
theorem BookM.below (h : BookM w b a F M n r f H reg) (hb : Below w.heap.size w w') : BookM w' b a F M n r f H reg := h.keeps (Keeps.of_below hb (fun _ => False)) (fun _ _ => id)

/-- the arena turned -/
theorem BookM.arena {M' : Int → Int → Option Ord5} {n' : Nat} (h : BookM w b a F M n r f H reg) (ht : OArTo w w' a F M' 100 n') :
    ∃ F' reg', BookM w' b a F' M' n' r f H reg' ∧ BStep w w' (BFp b r F H) (BFp b r F' H) := by
  obtain ⟨F', hA, hK, hF⟩ := ht
  refine ⟨F', fun i => if i < w.heap.size then reg i else 3, ⟨Blk.keeps h.blk hK ?_, hA, h.mp.of_block (hK.block r h.mp.lt ?_), fun s hs => (h.hx s hs).later hK ?_ (fun i hi => if_pos hi), ?_, ?_, ?_⟩, hK.mono (fun i hi => .inr (.inr (.inl hi))), ?_⟩
  · intro e; have := h.gF b e; have := h.gb; omega
  · intro e; have := h.gF r e; have := h.gr; omega
  · intro i hi _
    have := h.gF i hi
    rcases hs with rfl | rfl <;> omega
  · rw [if_pos (Blk.lt h.blk)]; exact h.gb
  · rw [if_pos h.mp.lt]; exact h.gr
  · intro i hi
    rcases hF i hi with h1 | h1
    · rw [if_pos (h.ar.fp h1)]; exact h.gF i h1
    · rw [if_neg (by omega)]
  · rintro i (rfl | rfl | hi | hi | hi)
    · exact .inl (.inl rfl)
    · exact .inl (.inr (.inl rfl))
    · exact (hF i hi).imp (fun h => .inr (.inr (.inl h))) id
    · exact .inl (.inr (.inr (.inr (.inl hi))))
    · exact .inl (.inr (.inr (.inr (.inr hi))))

/-- the map turned -/
theorem BookM.map_ {f' : Int → Option Value} (h : BookM w b a F M n r f H reg) (ht : Turned w w' r) (hm : IMap w' r f') : BookM w' b a F M n r f' H reg ∧ BStep w w' (BFp b r F H) (BFp b r F H) := by
  have hK : Keeps (fun i => i = r) w w' := (keeps_of_grownBy ht.grown).mono (fun i e => by cases e; rfl)
  refine ⟨⟨Blk.keeps h.blk hK ?_, h.ar.keeps hK ?_, hm, fun s hs => (h.hx s hs).later hK ?_ (fun i hi => rfl), h.gb, h.gr, h.gF⟩, hK.mono (fun i hi => .inr (.inl hi)), fun i hi => .inl hi⟩
  · intro e; have := h.gb; have := h.gr; rw [e] at *; omega
  · intro i hi e; have := h.gF i hi; have := h.gr; rw [e] at *; omega
  · intro i hi _
    have := h.gr
    rw [hi]
    rcases hs with rfl | rfl <;> omega

theorem nodup_fm_ne {α : Type} {g : α → Option Nat} : ∀ {l : List α} {i k : Nat} {x : Nat} (_ : (l.filterMap g).Nodup) (hi : i < l.length) (hk : k < l.length), i ≠ k → g l[i] = some x → g l[k] = some x → False
  | [], i, k, x, _, hi, _, _, _, _ => by simp at hi
  | a :: l, i, k, x, h, hi, hk, hne, h1, h2 => by
    have ht : (l.filterMap g).Nodup := by
      cases e : g a with
      | none => rwa [List.filterMap_cons_none e] at h
      | some y => rw [List.filterMap_cons_some e] at h; exact (List.nodup_cons.1 h).2
    cases i with
    | zero =>
      cases k with
      | zero => exact hne rfl
      | succ k =>
        have h1' : g a = some x := h1
        rw [List.filterMap_cons_some h1'] at h
        exact (List.nodup_cons.1 h).1 (List.mem_filterMap.2 ⟨l[k]'(by simpa using hk), List.getElem_mem _, by simpa using h2⟩)
    | succ i =>
      cases k with
      | zero =>
        have h2' : g a = some x := h2
        rw [List.filterMap_cons_some h2'] at h
        exact (List.nodup_cons.1 h).1 (List.mem_filterMap.2 ⟨l[i]'(by simpa using hi), List.getElem_mem _, by simpa using h1⟩)
      | succ k => exact nodup_fm_ne ht (by simpa using hi) (by simpa using hk) (fun e => hne (by rw [e])) (by simpa using h1) (by simpa using h2)
theorem nodup_fm_set {α : Type} (g : α → Option Nat) (q' : α) : ∀ (l : List α) (k : Nat) (hk : k < l.length), (l.filterMap g).Nodup → (∀ x, g q' = some x → g l[k] = some x ∨ ∀ y ∈ l, g y ≠ some x) → ((l.set k q').filterMap g).Nodup
  | [], k, hk, _, _ => by simp at hk
  | a :: l, 0, hk, h, hq => by
    rw [List.set_cons_zero]
    cases e : g q' with
    | none =>
      rw [List.filterMap_cons_none e]
      cases e2 : g a with
      | none => rwa [List.filterMap_cons_none e2] at h
      | some y => rw [List.filterMap_cons_some e2] at h; exact (List.nodup_cons.1 h).2
    | some x =>
      rw [List.filterMap_cons_some e]
      rcases hq x e with h1 | h1
      · have h1' : g a = some x := h1
        rwa [List.filterMap_cons_some h1'] at h
      · refine List.nodup_cons.2 ⟨fun hx => ?_, ?_⟩
        · obtain ⟨y, hy, hy2⟩ := List.mem_filterMap.1 hx
          exact h1 y (List.mem_cons_of_mem _ hy) hy2
        · cases e2 : g a with
          | none => rwa [List.filterMap_cons_none e2] at h
          | some y => rw [List.filterMap_cons_some e2] at h; exact (List.nodup_cons.1 h).2
  | a :: l, k + 1, hk, h, hq => by
    rw [List.set_cons_succ]
    have hq' : ∀ x, g q' = some x → g (l[k]'(by simpa using hk)) = some x ∨ ∀ y ∈ l, g y ≠ some x := fun x hx => (hq x hx).imp (fun h => by simpa using h) (fun h y hy => h y (List.mem_cons_of_mem _ hy))
    cases e2 : g a with
    | none =>
      rw [List.filterMap_cons_none e2] at h ⊢
      exact nodup_fm_set g q' l k (by simpa using hk) h hq'
    | some y =>
      rw [List.filterMap_cons_some e2] at h ⊢
      obtain ⟨h1, h2⟩ := List.nodup_cons.1 h
      refine List.nodup_cons.2 ⟨fun hx => ?_, nodup_fm_set g q' l k (by simpa using hk) h2 hq'⟩
      obtain ⟨z, hz, hz2⟩ := List.mem_filterMap.1 hx
      rcases List.mem_or_eq_of_mem_set hz with hz | rfl
      · exact h1 (List.mem_filterMap.2 ⟨z, hz, hz2⟩)
      · rcases hq y hz2 with h3 | h3
        · exact h1 (List.mem_filterMap.2 ⟨l[k]'(by simpa using hk), List.getElem_mem _, by simpa using h3⟩)
        · exact h3 a (by simp) e2

/-- a side's slice of the book's block stored -/
theorem bookCells_market (H : Int → HS) {s : Int} (hs : Is12 s) (h' : HS) (e1 : h'.qA = (H s).qA) (e2 : h'.qc = (H s).qc) (e3 : h'.qs.length = (H s).qs.length) :
    (bookCells a r H).setIfInBounds (hoff s) (.slice h'.mA h'.ms.length h'.mc) = bookCells a r (upH H s h') := by
  rcases hs with rfl | rfl
  · unfold bookCells hoff
    rw [upH_self, upH_other (by decide), e1, e2, e3]
    rfl
  · unfold bookCells hoff
    rw [upH_self, upH_other (by decide), e1, e2, e3]
    rfl
theorem bookCells_queues (H : Int → HS) {s : Int} (hs : Is12 s) (h' : HS) (e1 : h'.mA = (H s).mA) (e2 : h'.mc = (H s).mc) (e3 : h'.ms.length = (H s).ms.length) :
    (bookCells a r H).setIfInBounds (hoff s + 1) (.slice h'.qA h'.qs.length h'.qc) = bookCells a r (upH H s h') := by
  rcases hs with rfl | rfl
  · unfold bookCells hoff
    rw [upH_self, upH_other (by decide), e1, e2, e3]
    rfl
  · unfold bookCells hoff
    rw [upH_self, upH_other (by decide), e1, e2, e3]
    rfl
theorem bookCells_same (H : Int → HS) {s : Int} (hs : Is12 s) (h' : HS) (e1 : h'.mA = (H s).mA) (e2 : h'.mc = (H s).mc) (e3 : h'.ms.length = (H s).ms.length) (e4 : h'.qA = (H s).qA) (e5 : h'.qc = (H s).qc) (e6 : h'.qs.length = (H s).qs.length) :
    bookCells a r (upH H s h') = bookCells a r H := by
  rcases hs with rfl | rfl
  · unfold bookCells
    rw [upH_self, upH_other (by decide), e1, e2, e3, e4, e5, e6]
  · unfold bookCells
    rw [upH_self, upH_other (by decide), e1, e2, e3, e4, e5, e6]

theorem BFp_up {s : Int} (hs : Is12 s) {h' : HS} {m : Nat} (hh : ∀ i, HFp h' i → HFp (H s) i ∨ m ≤ i) : ∀ i, BFp b r F (upH H s h') i → BFp b r F H i ∨ m ≤ i := by
  rintro i (rfl | rfl | hi | hi | hi)
  · exact .inl (.inl rfl)
  · exact .inl (.inr (.inl rfl))
  · exact .inl (.inr (.inr (.inl hi)))
  · rcases hs with rfl | rfl
    · rw [upH_self] at hi
      exact (hh i hi).imp (fun h => .inr (.inr (.inr (.inl h)))) id
    · rw [upH_other (by decide)] at hi
      exact .inl (.inr (.inr (.inr (.inl hi))))
  · rcases hs with rfl | rfl
    · rw [upH_other (by decide)] at hi
      exact .inl (.inr (.inr (.inr (.inr hi))))
    · rw [upH_self] at hi
      exact (hh i hi).imp (fun h => .inr (.inr (.inr (.inr h)))) id

/-- the orders at any price turned -/
theorem BookM.market (h : BookM w b a F M n r f H reg) {s : Int} (hs : Is12 s) {w3 : World} {A' : Option Addr} {c' : Nat} {ms' : List HO}
    (hK : Keeps (fun i => blkOf (H s).mA = some i) w w3) (hR : RowAt w3 A' ms'.length c' 155 2 (flat encH (hndL ms'))) (hat : ∀ g, blkOf A' = some g → blkOf (H s).mA = some g ∨ w.heap.size ≤ g) :
    ∃ reg', BookM (w3.setCell ⟨b, hoff s, none⟩ (.slice A' ms'.length c')) b a F M n r f (upH H s ⟨A', c', (H s).qA, (H s).qc, ms', (H s).qs⟩) reg' ∧
      BStep w (w3.setCell ⟨b, hoff s, none⟩ (.slice A' ms'.length c')) (BFp b r F H) (BFp b r F (upH H s ⟨A', c', (H s).qA, (H s).qc, ms', (H s).qs⟩)) := by
  have X := h.hx s hs
  have hbl := Blk.lt h.blk
  have gb := h.gb
  have hbm : blkOf (H s).mA ≠ some b := fun e => by have := X.gm b e; rcases hs with rfl | rfl <;> omega
  have hk4 := Keeps.set_ w3 ⟨b, hoff s, none⟩ (.slice A' ms'.length c')
  have hk : Keeps (fun i => blkOf (H s).mA = some i ∨ i = b) w (w3.setCell ⟨b, hoff s, none⟩ (.slice A' ms'.length c')) := (hK.mono (fun i h => .inl h)).trans hk4 (fun i h => .inl (.inr h))
  have hreg : ∀ i, (blkOf (H s).mA = some i ∨ i = b) → reg i = s * 10 + 1 ∨ reg i = 1 := by
    rintro i (hi | rfl)
    · exact .inl (X.gm i hi)
    · exact .inr gb
  have hA'b : ∀ g, blkOf A' = some g → g ≠ b := by
    intro g hg e
    subst e
    rcases hat g hg with h1 | h1
    · exact hbm h1
    · omega
  refine ⟨fun i => if i < w.heap.size then reg i else s * 10 + 1, ⟨?_, ?_, ?_, ?_, ?_, ?_, ?_⟩, hk.mono ?_, BFp_up hs ?_⟩
  · have := Blk.set_ (Blk.keeps h.blk hK hbm) (hoff s) (.slice A' ms'.length c')
    rwa [bookCells_market H hs ⟨A', c', (H s).qA, (H s).qc, ms', (H s).qs⟩ rfl rfl rfl] at this
  · refine h.ar.keeps hk (fun i hi h1 => ?_)
    have := h.gF i hi
    have := hreg i h1
    rcases hs with rfl | rfl <;> omega
  · refine h.mp.of_block (hk.block r h.mp.lt (fun h1 => ?_))
    have := h.gr
    have := hreg r h1
    rcases hs with rfl | rfl <;> omega
  · intro s' hs'
    by_cases e : s' = s
    · subst e
      rw [upH_self]
      have Y := X.later (reg' := fun i => if i < w.heap.size then reg i else s' * 10 + 1) (s := s') (S := fun _ => False) (Keeps.refl _ w) (fun i h => h.elim) (fun i hi => if_pos hi)
      refine ⟨hR.keeps hk4 (fun g hg e => hA'b g hg e), X.rq.keeps hk (fun g hg h1 => ?_), fun q hq => (X.rl q hq).keeps hk (fun g hg h1 => ?_), ?_, Y.gq, Y.gl, X.nd⟩
      · have := X.gq g hg; have := hreg g h1; rcases hs with rfl | rfl <;> omega
      · have := X.gl q hq g hg; have := hreg g h1; rcases hs with rfl | rfl <;> omega
      · intro g hg
        split
        · rename_i hlt
          rcases hat g hg with h1 | h1
          · exact X.gm g h1
          · omega
        · rfl
    · rw [upH_other e]
      refine (h.hx s' hs').later hk (fun i hi _ => ?_) (fun i hi => if_pos hi)
      have := hreg i hi
      rcases hs with rfl | rfl <;> rcases hs' with rfl | rfl <;> first | exact absurd rfl e | omega
  · rw [if_pos hbl]; exact gb
  · rw [if_pos h.mp.lt]; exact h.gr
  · intro i hi; rw [if_pos (h.ar.fp hi)]; exact h.gF i hi
  · rintro i (hi | rfl)
    · exact BookM.fpH s hs (.inl hi)
    · exact .inl rfl
  · rintro i (hi | hi | hi)
    · exact (hat i hi).imp (fun h => .inl h) id
    · exact .inl (.inr (.inl hi))
    · exact .inl (.inr (.inr hi))

/-- the queues turned -/
theorem BookM.queues (h : BookM w b a F M n r f H reg) {s : Int} (hs : Is12 s) {w3 : World} {A' : Option Addr} {c' : Nat} {qs' : List QG}
    (hK : Keeps (fun i => blkOf (H s).qA = some i) w w3) (hR : RowAt w3 A' qs'.length c' 166 2 (flat encQ (qs'.map QG.que))) (hat : ∀ g, blkOf A' = some g → blkOf (H s).qA = some g ∨ w.heap.size ≤ g)
    (hsub : ∀ q ∈ qs', q ∈ (H s).qs ∨ (q.A = none ∧ q.c = 0 ∧ q.os = [])) (hnd : (qs'.filterMap fun q => blkOf q.A).Nodup) :
    ∃ reg', BookM (w3.setCell ⟨b, hoff s + 1, none⟩ (.slice A' qs'.length c')) b a F M n r f (upH H s ⟨(H s).mA, (H s).mc, A', c', (H s).ms, qs'⟩) reg' ∧
      BStep w (w3.setCell ⟨b, hoff s + 1, none⟩ (.slice A' qs'.length c')) (BFp b r F H) (BFp b r F (upH H s ⟨(H s).mA, (H s).mc, A', c', (H s).ms, qs'⟩)) := by
  have X := h.hx s hs
  have hbl := Blk.lt h.blk
  have gb := h.gb
  have hbm : blkOf (H s).qA ≠ some b := fun e => by have := X.gq b e; rcases hs with rfl | rfl <;> omega
  have hk4 := Keeps.set_ w3 ⟨b, hoff s + 1, none⟩ (.slice A' qs'.length c')
  have hk : Keeps (fun i => blkOf (H s).qA = some i ∨ i = b) w (w3.setCell ⟨b, hoff s + 1, none⟩ (.slice A' qs'.length c')) := (hK.mono (fun i h => .inl h)).trans hk4 (fun i h => .inl (.inr h))
  have hreg : ∀ i, (blkOf (H s).qA = some i ∨ i = b) → reg i = s * 10 + 2 ∨ reg i = 1 := by
    rintro i (hi | rfl)
    · exact .inl (X.gq i hi)
    · exact .inr gb
  have hA'b : ∀ g, blkOf A' = some g → g ≠ b := by
    intro g hg e
    subst e
    rcases hat g hg with h1 | h1
    · exact hbm h1
    · omega
  refine ⟨fun i => if i < w.heap.size then reg i else s * 10 + 2, ⟨?_, ?_, ?_, ?_, ?_, ?_, ?_⟩, hk.mono ?_, BFp_up hs ?_⟩
  · have := Blk.set_ (Blk.keeps h.blk hK hbm) (hoff s + 1) (.slice A' qs'.length c')
    rwa [bookCells_queues H hs ⟨(H s).mA, (H s).mc, A', c', (H s).ms, qs'⟩ rfl rfl rfl] at this
  · refine h.ar.keeps hk (fun i hi h1 => ?_)
    have := h.gF i hi
    have := hreg i h1
    rcases hs with rfl | rfl <;> omega
  · refine h.mp.of_block (hk.block r h.mp.lt (fun h1 => ?_))
    have := h.gr
    have := hreg r h1
    rcases hs with rfl | rfl <;> omega
  · intro s' hs'
    by_cases e : s' = s
    · subst e
      rw [upH_self]
      have Y := X.later (reg' := fun i => if i < w.heap.size then reg i else s' * 10 + 2) (s := s') (S := fun _ => False) (Keeps.refl _ w) (fun i h => h.elim) (fun i hi => if_pos hi)
      refine ⟨X.rm.keeps hk (fun g hg h1 => ?_), hR.keeps hk4 (fun g hg e => hA'b g hg e), fun q hq => ?_, Y.gm, ?_, fun q hq => ?_, hnd⟩
      · have := X.gm g hg; have := hreg g h1; rcases hs with rfl | rfl <;> omega
      · rcases hsub q hq with h1 | ⟨h1, h2, h3⟩
        · refine (X.rl q h1).keeps hk (fun g hg h2 => ?_)
          have := X.gl q h1 g hg; have := hreg g h2; rcases hs with rfl | rfl <;> omega
        · rw [h1, h2, h3]
          exact ⟨rfl, .inl ⟨rfl, rfl⟩⟩
      · intro g hg
        split
        · rename_i hlt
          rcases hat g hg with h1 | h1
          · exact X.gq g h1
          · omega
        · rfl
      · rcases hsub q hq with h1 | ⟨h1, h2, h3⟩
        · exact Y.gl q h1
        · intro g hg
          rw [h1] at hg
          cases hg
    · rw [upH_other e]
      refine (h.hx s' hs').later hk (fun i hi _ => ?_) (fun i hi => if_pos hi)
      have := hreg i hi
      rcases hs with rfl | rfl <;> rcases hs' with rfl | rfl <;> first | exact absurd rfl e | omega
  · rw [if_pos hbl]; exact gb
  · rw [if_pos h.mp.lt]; exact h.gr
  · intro i hi; rw [if_pos (h.ar.fp hi)]; exact h.gF i hi
  · rintro i (hi | rfl)
    · exact BookM.fpH s hs (.inr (.inl hi))
    · exact .inl rfl
  · rintro i (hi | hi | ⟨q, hq, hi⟩)
    · exact .inl (.inl hi)
    · exact (hat i hi).imp (fun h => .inr (.inl h)) id
    · rcases hsub q hq with h1 | ⟨h1, h2, h3⟩
      · exact .inl (.inr (.inr ⟨q, h1, hi⟩))
      · rw [h1] at hi; cases hi

theorem flatQ_set (l : List Que) {k : Nat} (hk : k < l.length) (A : Option Addr) (n c : Nat) : (flat encQ l).set (k * 2 + 1) (.slice A n c) = flat encQ (l.set k (l[k].1, A, n, c)) := by
  rw [← flat_sets encQ_length (l[k].1, A, n, c) l k hk]
  have h0 : (flat encQ l)[k * 2 + 0]? = some (.int .i64 l[k].1) := flat_get encQ_length l k hk 0 (by omega)
  have e : (flat encQ l).set (k * 2) (.int .i64 l[k].1) = flat encQ l := by
    apply List.ext_getElem?
    intro i
    rw [List.getElem?_set]
    split
    · rename_i hi
      subst hi
      rw [Nat.add_zero] at h0
      split
      · rw [h0]
      · rw [List.getElem?_eq_none (by omega)]
    · rfl
  show _ = setsFrom ((flat encQ l).set (k * 2) (.int .i64 l[k].1)) (k * 2 + 1) [.slice A n c]
  rw [e]; rfl

/-- one queue turned -/
theorem BookM.queue (h : BookM w b a F M n r f H reg) {s : Int} (hs : Is12 s) {w3 : World} {k : Nat} (hk : k < (H s).qs.length) {qg : Nat} (hqg : (H s).qA = some ⟨qg, 0, none⟩) {A' : Option Addr} {c' : Nat} {os' : List HO}
    (hK : Keeps (fun i => blkOf (H s).qs[k].A = some i) w w3) (hR : RowAt w3 A' os'.length c' 155 2 (flat encH (hndL os'))) (hat : ∀ g, blkOf A' = some g → blkOf (H s).qs[k].A = some g ∨ w.heap.size ≤ g) :
    ∃ reg', BookM (w3.setCell ⟨qg, k * 2 + 1, none⟩ (.slice A' os'.length c')) b a F M n r f (upH H s ⟨(H s).mA, (H s).mc, (H s).qA, (H s).qc, (H s).ms, (H s).qs.set k ⟨(H s).qs[k].price, A', c', os'⟩⟩) reg' ∧
      BStep w (w3.setCell ⟨qg, k * 2 + 1, none⟩ (.slice A' os'.length c')) (BFp b r F H) (BFp b r F (upH H s ⟨(H s).mA, (H s).mc, (H s).qA, (H s).qc, (H s).ms, (H s).qs.set k ⟨(H s).qs[k].price, A', c', os'⟩⟩)) := by
  have X := h.hx s hs
  have hbl := Blk.lt h.blk
  have gb := h.gb
  have hqb : blkOf (H s).qA = some qg := by rw [hqg]; rfl
  have hql := X.rq.lt hqb
  have gq := X.gq qg hqb
  have hmem : (H s).qs[k] ∈ (H s).qs := List.getElem_mem _
  have hk4 := Keeps.set_ w3 ⟨qg, k * 2 + 1, none⟩ (.slice A' os'.length c')
  have hkk : Keeps (fun i => blkOf (H s).qs[k].A = some i ∨ i = qg) w (w3.setCell ⟨qg, k * 2 + 1, none⟩ (.slice A' os'.length c')) := (hK.mono (fun i h => .inl h)).trans hk4 (fun i h => .inl (.inr h))
  have hreg : ∀ i, (blkOf (H s).qs[k].A = some i ∨ i = qg) → reg i = s * 10 + 3 ∨ reg i = s * 10 + 2 := by
    rintro i (hi | rfl)
    · exact .inl (X.gl _ hmem i hi)
    · exact .inr gq
  have hA'q : ∀ g, blkOf A' = some g → g ≠ qg := by
    intro g hg e
    subst e
    rcases hat g hg with h1 | h1
    · have := X.gl _ hmem g h1; omega
    · omega
  have hsub : ∀ q ∈ (H s).qs.set k ⟨(H s).qs[k].price, A', c', os'⟩, (q ∈ (H s).qs ∨ q = ⟨(H s).qs[k].price, A', c', os'⟩) := fun q hq => List.mem_or_eq_of_mem_set hq
  refine ⟨fun i => if i < w.heap.size then reg i else s * 10 + 3, ⟨?_, ?_, ?_, ?_, ?_, ?_, ?_⟩, hkk.mono ?_, BFp_up hs ?_⟩
  · rw [bookCells_same H hs ⟨(H s).mA, (H s).mc, (H s).qA, (H s).qc, (H s).ms, (H s).qs.set k ⟨(H s).qs[k].price, A', c', os'⟩⟩ rfl rfl rfl rfl rfl (by simp)]
    refine Blk.keeps h.blk hkk (fun h1 => ?_)
    have := hreg b h1
    rcases hs with rfl | rfl <;> omega
  · refine h.ar.keeps hkk (fun i hi h1 => ?_)
    have := h.gF i hi
    have := hreg i h1
    rcases hs with rfl | rfl <;> omega
  · refine h.mp.of_block (hkk.block r h.mp.lt (fun h1 => ?_))
    have := h.gr
    have := hreg r h1
    rcases hs with rfl | rfl <;> omega
  · intro s' hs'
    by_cases e : s' = s
    · subst e
      rw [upH_self]
      have Y := X.later (reg' := fun i => if i < w.heap.size then reg i else s' * 10 + 3) (s := s') (S := fun _ => False) (Keeps.refl _ w) (fun i h => h.elim) (fun i hi => if_pos hi)
      refine ⟨X.rm.keeps hkk (fun g hg h1 => ?_), ?_, fun q hq => ?_, Y.gm, Y.gq, fun q hq => ?_, ?_⟩
      · have := X.gm g hg; have := hreg g h1; rcases hs with rfl | rfl <;> omega
      · have R3 := X.rq.keeps hK (fun g hg h1 => by have := X.gq g hg; have := X.gl _ hmem g h1; omega)
        have R4 : RowAt w3 (some ⟨qg, 0, none⟩) (H s').qs.length (H s').qc 166 2 (flat encQ ((H s').qs.map QG.que)) := by rw [← hqg]; exact R3
        have R5 := R4.set (k * 2 + 1) (.slice A' os'.length c')
        rw [flatQ_set _ (by simpa using hk)] at R5
        have e2 : ((H s').qs.set k ⟨(H s').qs[k].price, A', c', os'⟩).map QG.que = ((H s').qs.map QG.que).set k ((((H s').qs.map QG.que)[k]'(by simpa using hk)).1, A', os'.length, c') := by
          rw [List.map_set]
          simp [QG.que]
        rw [e2, hqg]
        simpa using R5
      · by_cases eq : q = ⟨(H s').qs[k].price, A', c', os'⟩
        · subst eq
          exact hR.keeps hk4 (fun g hg e => hA'q g hg e)
        · obtain ⟨i, hi, rfl⟩ := List.mem_iff_getElem.1 hq
          have hi' : i < (H s').qs.length := by simpa using hi
          by_cases hik : i = k
          · subst hik; rw [List.getElem_set_self] at eq; exact absurd rfl eq
          · rw [List.getElem_set_ne (fun e => hik e.symm)]
            refine (X.rl _ (List.getElem_mem _)).keeps hkk ?_
            rintro g hg (h1 | rfl)
            · exact nodup_fm_ne (g := fun q : QG => blkOf q.A) X.nd hi' hk hik hg h1
            · have := X.gl _ (List.getElem_mem _) g hg; omega
      · intro g hg
        rcases hsub q hq with h1 | rfl
        · exact Y.gl q h1 g hg
        · split
          · rename_i hlt
            rcases hat g hg with h1 | h1
            · exact X.gl _ hmem g h1
            · omega
          · rfl
      · refine nodup_fm_set (fun q : QG => blkOf q.A) _ _ k hk X.nd (fun x hx => ?_)
        rcases hat x hx with h1 | h1
        · exact .inl h1
        · exact .inr (fun y hy e => by have := (X.rl y hy).lt e; omega)
    · rw [upH_other e]
      refine (h.hx s' hs').later hkk (fun i hi _ => ?_) (fun i hi => if_pos hi)
      have := hreg i hi
      rcases hs with rfl | rfl <;> rcases hs' with rfl | rfl <;> first | exact absurd rfl e | omega
  · rw [if_pos hbl]; exact gb
  · rw [if_pos h.mp.lt]; exact h.gr
  · intro i hi; rw [if_pos (h.ar.fp hi)]; exact h.gF i hi
  · rintro i (hi | rfl)
    · exact BookM.fpH s hs (.inr (.inr ⟨_, hmem, hi⟩))
    · exact BookM.fpH s hs (.inr (.inl hqb))
  · rintro i (hi | hi | ⟨q, hq, hi⟩)
    · exact .inl (.inl hi)
    · exact .inl (.inr (.inl hi))
    · rcases hsub q hq with h1 | rfl
      · exact .inl (.inr (.inr ⟨q, h1, hi⟩))
      · exact (hat i hi).imp (fun h => .inr (.inr ⟨_, hmem, h⟩)) id
end
end Go.Proofs.YtkcgchpbjegneaaGreatDoor
namespace Go.Proofs.YtkcgchpbjegneaaGreatDoor
open Go.RowKit
set_option linter.unusedVariables false

def placeV (x : HO) : Value := .agg #[.int .i64 x.1.1, .int .i64 x.1.2, .int .i64 x.2.side, .int .i64 x.2.price, .bool (x.2.kind == 2)]
/-- an order as it may lie -/
def OkO (o : Ord5) : Prop := FitO o ∧ 1 ≤ o.id ∧ (1 ≤ o.price ∧ o.price ≤ 1000000) ∧ (1 ≤ o.qty ∧ o.qty ≤ 1000000)
def allH (H : Int → HS) : List HO := (H 1).all ++ (H 2).all

structure BookS (M : Int → Int → Option Ord5) (n : Nat) (f : Int → Option Value) (H : Int → HS) : Prop where
  is : ∀ s, Is12 s → HalfIs s (H s).ms (H s).qs
  ne : ∀ s, Is12 s → ∀ q ∈ (H s).qs, q.os ≠ []
  hM : ∀ x ∈ allH H, M x.1.1 x.1.2 = some x.2
  hf : ∀ x ∈ allH H, f x.2.id = some (placeV x)
  hk : ∀ k v, f k = some v → ∃ x ∈ allH H, x.2.id = k
  ids : ((allH H).map fun x => x.2.id).Nodup
  cnt : n = (allH H).length
  ok : ∀ x ∈ allH H, OkO x.2

section
variable {M : Int → Int → Option Ord5} {n : Nat} {f : Int → Option Value} {H : Int → HS}
theorem nodup_map_inj {α β : Type} {g : α → β} : ∀ {l : List α}, (l.map g).Nodup → ∀ {x y : α}, x ∈ l → y ∈ l → g x = g y → x = y
  | [], _, x, y, hx, _, _ => by simp at hx
  | a :: l, h, x, y, hx, hy, e => by
    rw [List.map_cons, List.nodup_cons] at h
    rcases List.mem_cons.1 hx with rfl | hx'
    · rcases List.mem_cons.1 hy with rfl | hy'
      · rfl
      · exact absurd (List.mem_map.2 ⟨y, hy', e.symm⟩) h.1
    · rcases List.mem_cons.1 hy with rfl | hy'
      · exact absurd (List.mem_map.2 ⟨x, hx', e⟩) h.1
      · exact nodup_map_inj h.2 hx' hy' e
theorem BookS.same_id (S : BookS M n f H) {x y : HO} (hx : x ∈ allH H) (hy : y ∈ allH H) (e : x.2.id = y.2.id) : x = y := nodup_map_inj (g := fun x : HO => x.2.id) S.ids hx hy e
theorem BookS.same_h (S : BookS M n f H) {x y : HO} (hx : x ∈ allH H) (hy : y ∈ allH H) (e : x.1 = y.1) : x = y := by
  have h1 := S.hM x hx
  have h2 := S.hM y hy
  rw [e, h2] at h1
  exact S.same_id hx hy (by rw [Option.some.inj h1])
theorem mem_allH {s : Int} (hs : Is12 s) {x : HO} (hx : x ∈ (H s).all) : x ∈ allH H := by
  rcases hs with rfl | rfl
  · exact List.mem_append_left _ hx
  · exact List.mem_append_right _ hx
theorem BookS.none_ (S : BookS M n f H) {k : Int} : f k = none ↔ ∀ x ∈ allH H, x.2.id ≠ k := by
  constructor
  · intro h x hx e
    have := S.hf x hx
    rw [e, h] at this
    cases this
  · intro h
    cases e : f k with
    | none => rfl
    | some v =>
      obtain ⟨x, hx, h2⟩ := S.hk k v e
      exact absurd h2 (h x hx)
theorem BookS.side_of (S : BookS M n f H) {s : Int} (hs : Is12 s) {x : HO} (hx : x ∈ (H s).all) : x.2.side = s := by
  rcases List.mem_append.1 hx with h | h
  · exact ((S.is s hs).mkt x h).2
  · obtain ⟨q, hq, hxq⟩ := List.mem_flatMap.1 h
    exact ((S.is s hs).qk q hq x hxq).2.1
theorem BookS.side_mem (S : BookS M n f H) {x : HO} (hx : x ∈ allH H) : Is12 x.2.side ∧ x ∈ (H x.2.side).all := by
  rcases List.mem_append.1 hx with h | h
  · rw [S.side_of (.inl rfl) h]; exact ⟨.inl rfl, h⟩
  · rw [S.side_of (.inr rfl) h]; exact ⟨.inr rfl, h⟩

theorem BookS.add (S : BookS M n f H) {s : Int} (hs : Is12 s) {x : HO} {h' : HS} (hp : h'.all.Perm (x :: (H s).all)) (hi : HalfIs s h'.ms h'.qs) (hne : ∀ q ∈ h'.qs, q.os ≠ []) (hM : M x.1.1 x.1.2 = none) (hf : f x.2.id = none) (hok : OkO x.2) :
    BookS (withO M x.1.1 x.1.2 (some x.2)) (n + 1) (updI f x.2.id (some (placeV x))) (upH H s h') := by
  have hperm : (allH (upH H s h')).Perm (x :: allH H) := by
    unfold allH
    rcases hs with rfl | rfl
    · rw [upH_self, upH_other (by decide)]
      exact hp.append_right _
    · rw [upH_self, upH_other (by decide)]
      exact (hp.append_left _).trans List.perm_middle
  have hno := S.none_.1 hf
  have hnM : ∀ y ∈ allH H, ¬ (y.1.1 = x.1.1 ∧ y.1.2 = x.1.2) := by
    rintro y hy ⟨e1, e2⟩
    have := S.hM y hy
    rw [e1, e2, hM] at this
    cases this
  refine ⟨fun s' hs' => ?_, fun s' hs' => ?_, fun y hy => ?_, fun y hy => ?_, fun k v hv => ?_, ?_, ?_, fun y hy => ?_⟩
  · by_cases e : s' = s
    · subst e; rw [upH_self]; exact hi
    · rw [upH_other e]; exact S.is s' hs'
  · by_cases e : s' = s
    · subst e; rw [upH_self]; exact hne
    · rw [upH_other e]; exact S.ne s' hs'
  · rcases List.mem_cons.1 (hperm.mem_iff.1 hy) with rfl | hy
    · exact if_pos ⟨rfl, rfl⟩
    · unfold withO
      rw [if_neg (hnM y hy)]
      exact S.hM y hy
  · rcases List.mem_cons.1 (hperm.mem_iff.1 hy) with rfl | hy
    · exact if_pos rfl
    · unfold updI
      rw [if_neg (hno y hy)]
      exact S.hf y hy
  · unfold updI at hv
    by_cases e : k = x.2.id
    · exact ⟨x, hperm.mem_iff.2 (by simp), e.symm⟩
    · rw [if_neg e] at hv
      obtain ⟨y, hy, h2⟩ := S.hk k v hv
      exact ⟨y, hperm.mem_iff.2 (List.mem_cons_of_mem _ hy), h2⟩
  · rw [(hperm.map _).nodup_iff, List.map_cons, List.nodup_cons]
    refine ⟨fun hx => ?_, S.ids⟩
    obtain ⟨y, hy, e⟩ := List.mem_map.1 hx
    exact hno y hy e
  · rw [hperm.length_eq, List.length_cons, S.cnt]
  · rcases List.mem_cons.1 (hperm.mem_iff.1 hy) with rfl | hy
    · exact hok
    · exact S.ok y hy

def notH (h : Int × Int) (y : HO) : Bool := !isH h y.1
theorem notH_iff {h : Int × Int} {y : HO} : notH h y = true ↔ y.1 ≠ h := by
  unfold notH
  rw [Bool.not_eq_true', ← Bool.not_eq_true, Ne, ← isH_eq]
/-- the handle's filter is the number's -/
theorem BookS.filter_id (S : BookS M n f H) {x : HO} (hx : x ∈ allH H) {s : Int} (hs : Is12 s) : ordL ((H s).all.filter (notH x.1)) = remI (H s).L x.2.id := by
  unfold HS.L remI ordL
  rw [List.filter_map]
  congr 1
  apply List.filter_congr
  intro y hy
  have hy' := mem_allH hs hy
  rw [Bool.eq_iff_iff, notH_iff]
  simp only [Function.comp, Bool.not_eq_true', beq_eq_false_iff_ne]
  constructor
  · intro h e; exact h (by rw [S.same_id hy' hx e])
  · intro h e; exact h (by rw [S.same_h hy' hx e])
theorem BookS.filter_other (S : BookS M n f H) {x : HO} {s s' : Int} (hs : Is12 s) (hs' : Is12 s') (hx : x ∈ (H s).all) (hne : s' ≠ s) : (H s').all.filter (notH x.1) = (H s').all := by
  rw [List.filter_eq_self]
  intro y hy
  rw [notH_iff]
  intro e
  have := S.same_h (mem_allH hs' hy) (mem_allH hs hx) e
  subst this
  exact hne ((S.side_of hs' hy).symm.trans (S.side_of hs hx))
theorem filter_one {l : List HO} {x : HO} (hx : x ∈ l) (h : ∀ y ∈ l, y.1 = x.1 → y = x) (hn : l.Nodup) : (l.filter (notH x.1)).length + 1 = l.length := by
  obtain ⟨l1, l2, rfl⟩ := List.append_of_mem hx
  rw [List.nodup_append] at hn
  have h2 := List.nodup_cons.1 hn.2.1
  have f1 : l1.filter (notH x.1) = l1 := by
    rw [List.filter_eq_self]
    intro y hy
    rw [notH_iff]
    intro e
    exact hn.2.2 y hy x (by simp) (h y (by simp [hy]) e)
  have f2 : l2.filter (notH x.1) = l2 := by
    rw [List.filter_eq_self]
    intro y hy
    rw [notH_iff]
    intro e
    exact h2.1 (by rw [← h y (by simp [hy]) e]; exact hy)
  have f3 : notH x.1 x = false := by
    rw [← Bool.not_eq_true, notH_iff]; simp
  rw [List.filter_append, List.filter_cons_of_neg (by simp [f3]), f1, f2]
  simp
  omega

theorem BookS.remove (S : BookS M n f H) {s : Int} (hs : Is12 s) {x : HO} (hx : x ∈ (H s).all) {h' : HS} (ha : h'.all = (H s).all.filter (notH x.1)) (hi : HalfIs s h'.ms h'.qs) (hne : ∀ q ∈ h'.qs, q.os ≠ []) :
    BookS (withO M x.1.1 x.1.2 none) (n - 1) (updI f x.2.id none) (upH H s h') := by
  have hxa := mem_allH hs hx
  have hall : allH (upH H s h') = (allH H).filter (notH x.1) := by
    unfold allH
    rw [List.filter_append]
    rcases hs with rfl | rfl
    · rw [upH_self, upH_other (by decide), ha, S.filter_other (.inl rfl) (.inr rfl) hx (by decide)]
    · rw [upH_self, upH_other (by decide), ha, S.filter_other (.inr rfl) (.inl rfl) hx (by decide)]
  have hmem : ∀ y, y ∈ allH (upH H s h') → y ∈ allH H ∧ y.1 ≠ x.1 := by
    intro y hy
    rw [hall, List.mem_filter, notH_iff] at hy
    exact hy
  have hnd : (allH H).Nodup := List.Pairwise.imp (fun h e => h (by rw [e])) (List.pairwise_map.1 S.ids)
  refine ⟨fun s' hs' => ?_, fun s' hs' => ?_, fun y hy => ?_, fun y hy => ?_, fun k v hv => ?_, ?_, ?_, fun y hy => ?_⟩
  · by_cases e : s' = s
    · subst e; rw [upH_self]; exact hi
    · rw [upH_other e]; exact S.is s' hs'
  · by_cases e : s' = s
    · subst e; rw [upH_self]; exact hne
    · rw [upH_other e]; exact S.ne s' hs'
  · obtain ⟨h1, h2⟩ := hmem y hy
    unfold withO
    rw [if_neg (fun e => h2 (Prod.ext e.1 e.2))]
    exact S.hM y h1
  · obtain ⟨h1, h2⟩ := hmem y hy
    unfold updI
    rw [if_neg (fun e => h2 (by rw [S.same_id h1 hxa e]))]
    exact S.hf y h1
  · unfold updI at hv
    by_cases e : k = x.2.id
    · rw [if_pos e] at hv; cases hv
    · rw [if_neg e] at hv
      obtain ⟨y, hy, h2⟩ := S.hk k v hv
      refine ⟨y, ?_, h2⟩
      rw [hall, List.mem_filter, notH_iff]
      exact ⟨hy, fun e2 => e (by rw [← h2, S.same_h hy hxa e2])⟩
  · rw [hall]
    exact List.Nodup.sublist (List.Sublist.map _ List.filter_sublist) S.ids
  · rw [hall]
    have := filter_one hxa (fun y hy e => S.same_h hy hxa e) hnd
    have := S.cnt
    omega
  · exact S.ok y (hmem y hy).1
end

/-- a book at block b, in the blocks G: the orders of each side, the best first -/
def BookAt (w : World) (b : Nat) (G : Nat → Prop) (L1 L2 : List Ord5) : Prop :=
  ∃ a F M n r f H reg, BookM w b a F M n r f H reg ∧ BookS M n f H ∧ (∀ i, G i ↔ BFp b r F H i) ∧ L1 = (H 1).L ∧ L2 = (H 2).L
/-- the book afterwards -/
def BookTo (w w' : World) (b : Nat) (G : Nat → Prop) (L1 L2 : List Ord5) : Prop := ∃ G', BookAt w' b G' L1 L2 ∧ BStep w w' G G'
def sideL (s : Int) (L1 L2 : List Ord5) : List Ord5 := if s = 1 then L1 else L2

section
variable {w w' : World} {b : Nat} {G : Nat → Prop} {L1 L2 : List Ord5}
theorem BookAt.fp (h : BookAt w b G L1 L2) {i : Nat} (hi : G i) : i < w.heap.size := by
  obtain ⟨a, F, M, n, r, f, H, reg, hM, hS, hG, _⟩ := h
  exact hM.fp ((hG i).1 hi)
theorem BookAt.self (h : BookAt w b G L1 L2) : G b := by
  obtain ⟨a, F, M, n, r, f, H, reg, hM, hS, hG, _⟩ := h
  exact (hG b).2 (.inl rfl)
theorem BookAt.keeps {S : Nat → Prop} (h : BookAt w b G L1 L2) (hk : Keeps S w w') (hn : ∀ i, G i → ¬ S i) : BookAt w' b G L1 L2 := by
  obtain ⟨a, F, M, n, r, f, H, reg, hM, hS, hG, hL⟩ := h
  exact ⟨a, F, M, n, r, f, H, reg, hM.keeps hk (fun i hi => hn i ((hG i).2 hi)), hS, hG, hL⟩
theorem BookAt.below (h : BookAt w b G L1 L2) (hb : Below w.heap.size w w') : BookAt w' b G L1 L2 := h.keeps (Keeps.of_below hb (fun _ => False)) (fun _ _ => id)
/-- what always holds of the lists -/
structure ListsOk (L1 L2 : List Ord5) : Prop where
  ids : ((L1 ++ L2).map (·.id)).Nodup
  cnt : (L1 ++ L2).length ≤ 100
  ok : ∀ o ∈ L1 ++ L2, OkO o
  s1 : ∀ o ∈ L1, o.side = 1
  s2 : ∀ o ∈ L2, o.side = 2
theorem ordL_map_id (l : List HO) : (ordL l).map (·.id) = l.map fun x => x.2.id := by simp [ordL]
theorem BookAt.lists (h : BookAt w b G L1 L2) : ListsOk L1 L2 := by
  obtain ⟨a, F, M, n, r, f, H, reg, hM, hS, hG, rfl, rfl⟩ := h
  have e : (H 1).L ++ (H 2).L = ordL (allH H) := (ordL_append _ _).symm
  refine ⟨?_, ?_, ?_, ?_, ?_⟩
  · rw [e, ordL_map_id]; exact hS.ids
  · rw [e]
    have h1 := hS.cnt
    have h2 := hM.ar.le
    unfold ordL
    rw [List.length_map]
    omega
  · rw [e]
    intro o ho
    obtain ⟨x, hx, rfl⟩ := List.mem_map.1 ho
    exact hS.ok x hx
  · intro o ho
    obtain ⟨x, hx, rfl⟩ := List.mem_map.1 ho
    exact hS.side_of (.inl rfl) hx
  · intro o ho
    obtain ⟨x, hx, rfl⟩ := List.mem_map.1 ho
    exact hS.side_of (.inr rfl) hx
end
end Go.Proofs.YtkcgchpbjegneaaGreatDoor
