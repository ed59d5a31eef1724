/-
  What the parts of Book.Add leave, for its walk.
-/
import Derived.WalkKit
import Derived.WalkLawsBesides
import Derived.WalkSpells
import Derived.Deep.RegionLaw
import Derived.Deep.QuietTactic
import Derived.Deep.RegionWith
import Derived.Deep.AppendLies
import Derived.BigQuiet
import Derived.StillTailTactics
import Derived.Deep.RegionHeld3
import Derived.Deep.DeepCutAuto
import Derived.Deep.CutBlock
import Derived.Test.YtaagaamamjabbaaBookAddE
import Derived.Test.YtaagaamamjabbaaBookDone
namespace Go.Proofs.Ytaagaamamjabbaa
open Go.RowKit
set_option linter.unusedVariables false

/-- behind the look into the map -/
def Add8 (w wx : World) (b a : Nat) (F : Nat → Prop) (M : Int → Int → Option Ord5) (n r : Nat) (f : Int → Option Value) (H : Int → HS) (reg : Nat → Int) (o : Ord5) : Prop :=
  Below w.heap.size w wx ∧ BookM wx b a F M n r f H reg ∧ Blk wx w.heap.size 41 (boxO o)
/-- what Put tells and leaves -/
def PutP (W : World) (a : Nat) (F : Nat → Prop) (M : Int → Int → Option Ord5) (n : Nat) (o : Ord5) (e : Ending) (w' : World) : Prop :=
  ∃ sl ag : Int, M sl ag = none ∧ e = .returned (.tuple #[.agg #[.int .i64 sl, .int .i64 ag], .nilIface]) ∧ OArTo W w' a F (withO M sl ag (some o)) 100 (n + 1)
/-- behind Put -/
def Add11 (w wx : World) (b a : Nat) (F : Nat → Prop) (M : Int → Int → Option Ord5) (n r : Nat) (f : Int → Option Value) (H : Int → HS) (o : Ord5) (s8 : Value) : Prop :=
  ∃ (h : Int × Int) (pb : Nat) (F' : Nat → Prop) (reg' : Nat → Int), s8 = .pointer (some ⟨pb, 0, none⟩) ∧ M h.1 h.2 = none ∧ Blk wx pb 80 #[.int .i64 h.1, .int .i64 h.2] ∧ Blk wx w.heap.size 41 (boxO o) ∧
    BookM wx b a F' (withO M h.1 h.2 (some o)) (n + 1) r f H reg' ∧ BStep w wx (BFp b r F H) (BFp b r F' H) ∧ ¬ BFp b r F' H pb ∧ ¬ BFp b r F' H w.heap.size

theorem add8_of {w w1 wx : World} {b a n r : Nat} {F : Nat → Prop} {M : Int → Int → Option Ord5} {f : Int → Option Value} {H : Int → HS} {reg : Nat → Int} {o : Ord5} (h : Add8 w w1 b a F M n r f H reg o) (hb : Below w1.heap.size w1 wx) : Add8 w wx b a F M n r f H reg o := by
  obtain ⟨h1, h2, h3⟩ := h
  exact ⟨h1.trans (hb.mono h1.size), h2.below hb, Blk.keep h3 hb⟩

/-- behind an order appended to its queue -/
def Add22 (wc wx : World) (qg k m : Nat) (A : Option Addr) (c : Nat) (xs : List Value) : Prop :=
  ∃ gg cap w6, wx = World.setCell w6 ⟨qg, k * 2 + 1, none⟩ (.slice (some ⟨gg, 0, none⟩) (m + 1) cap) ∧ Keeps (fun i => (Value.slice A m c).ownBlock = some i) wc w6 ∧ w6.ownsRow 0 80 2 (.slice (some ⟨gg, 0, none⟩) (m + 1) cap) (m + 1) xs ∧ ((Value.slice A m c).ownBlock = some gg ∨ gg = wc.heap.size + 1)
theorem keep_alloc {w : World} {o : Obj} {p : Addr} {v : Value} (h : w.cell? p = some v) : (w.alloc o).cell? p = some v := (World.cell?_alloc_lt w o p (World.block_lt_of_cell? w _ h)).trans h
theorem keep4_alloc {w : World} {o : Obj} {p1 p2 p3 p4 : Addr} {v1 v2 v3 v4 : Value} (h : w.cell? p1 = some v1 ∧ w.cell? p2 = some v2 ∧ w.cell? p3 = some v3 ∧ w.cell? p4 = some v4) :
    (w.alloc o).cell? p1 = some v1 ∧ (w.alloc o).cell? p2 = some v2 ∧ (w.alloc o).cell? p3 = some v3 ∧ (w.alloc o).cell? p4 = some v4 := ⟨keep_alloc h.1, keep_alloc h.2.1, keep_alloc h.2.2.1, keep_alloc h.2.2.2⟩
theorem keep3_alloc {w : World} {o : Obj} {p1 p2 p3 : Addr} {v1 v2 v3 : Value} (h : w.cell? p1 = some v1 ∧ w.cell? p2 = some v2 ∧ w.cell? p3 = some v3) :
    (w.alloc o).cell? p1 = some v1 ∧ (w.alloc o).cell? p2 = some v2 ∧ (w.alloc o).cell? p3 = some v3 := ⟨keep_alloc h.1, keep_alloc h.2.1, keep_alloc h.2.2⟩
theorem ms_len {n m : Nat} {H : Int → HS} {s : Int} (hs : Is12 s) (hm : (H s).ms.length = m) (h1 : n = (allH H).length) (h2 : n < 100) : m ≤ 1000 := by
  unfold allH HS.all hOrd at h1
  simp only [List.length_append] at h1
  rcases hs with rfl | rfl <;> omega
theorem qs_len {M : Int → Int → Option Ord5} {n : Nat} {f : Int → Option Value} {H : Int → HS} {s : Int} (hs : Is12 s) (hS : BookS M n f H) (h2 : n < 100) : (H s).qs.length ≤ 100000 := by
  have h1 := hS.cnt
  have h3 : (H s).qs.length ≤ (qOrd (H s).qs).length := by
    have hne := hS.ne s hs
    generalize (H s).qs = l at hne
    induction l with
    | nil => simp
    | cons q l ih =>
      have ih := ih (fun q hq => hne q (by simp [hq]))
      have h0 : 0 < q.os.length := List.length_pos_iff.2 (hne q (by simp))
      have e : qOrd (q :: l) = q.os ++ qOrd l := rfl
      rw [e, List.length_append, List.length_cons]
      omega
  unfold allH HS.all hOrd at h1
  simp only [List.length_append] at h1
  rcases hs with rfl | rfl <;> omega
theorem handle_info : (Try.prog.info? 80).map (fun i => (i.zero, i.size, i.bytes)) = some (some (.agg #[.int .i64 0, .int .i64 0]), 2, 16) := by kernel_rfl
theorem Is12_1 : Is12 1 := .inl rfl
theorem Is12_2 : Is12 2 := .inr rfl
theorem put_box {wc w5 : World} {a most n n' : Nat} {F : Nat → Prop} {M M' : Int → Int → Option Ord5} (hA : OAr wc a F M most n) (hto : OArTo ((wc.alloc (.cells #[.int .i64 0, .int .i64 0] 80)).drew) w5 a F M' 100 n') : Blk w5 wc.heap.size 80 #[.int .i64 0, .int .i64 0] := by
  obtain ⟨F', _, hK, _⟩ := hto
  exact Blk.keeps (Blk.drew (Blk.new wc _ _)) hK (fun h => by have := hA.fp h; omega)
theorem add11_of {w wc W w5 wx : World} {b a n r pb : Nat} {F : Nat → Prop} {M : Int → Int → Option Ord5} {f : Int → Option Value} {H : Int → HS} {reg : Nat → Int} {o : Ord5} {sl ag : Int} (hM : BookM w b a F M n r f H reg) (h : Add8 w wc b a F M n r f H reg o)
    (hW : Below wc.heap.size wc W) (hno : M sl ag = none) (hto : OArTo W w5 a F (withO M sl ag (some o)) 100 (n + 1)) (hk : Keeps (fun i => i = pb) w5 wx) (hpb : pb < W.heap.size ∨ w5.heap.size ≤ pb) (hwp : wc.heap.size ≤ pb)
    (hB : Blk wx pb 80 #[.int .i64 sl, .int .i64 ag]) : Add11 w wx b a F M n r f H o (.pointer (some ⟨pb, 0, none⟩)) := by
  obtain ⟨h1, h2, h3⟩ := h
  have hMW := h2.below hW
  obtain ⟨F', reg', hM5, hS5⟩ := hMW.arena hto
  have hsz := hS5.1.size
  have hxl := Blk.lt h3
  have hws := hW.size
  have h1s := h1.size
  have hx : ∀ i, BFp b r F' H i → i ≠ pb := by
    intro i hi e
    subst e
    have h5 := hM5.fp hi
    rcases hS5.2 i hi with h6 | h6
    · have := h2.fp h6; omega
    · omega
  refine ⟨(sl, ag), pb, F', reg', rfl, hno, hB, ?_, hM5.keeps hk (fun i hi e => hx i hi e), ⟨?_, ?_⟩, fun h => hx pb h rfl, ?_⟩
  · refine Blk.keeps (Blk.keeps (Blk.keep h3 hW) hS5.1 (fun hi => ?_)) hk (fun e => by omega)
    have := hM.fp hi
    omega
  · refine (((Keeps.of_below (h1.trans (hW.mono h1s)) (BFp b r F H)).trans hS5.1 (fun i h => .inl h))).trans hk (fun i e => .inr (by rw [e]; omega))
  · intro i hi
    rcases hS5.2 i hi with h6 | h6
    · exact .inl h6
    · exact .inr (by omega)
  · intro hi
    rcases hS5.2 _ hi with h6 | h6
    · have := hM.fp h6; omega
    · omega
theorem add8_price {w w1 : World} {b a n r : Nat} {F : Nat → Prop} {M : Int → Int → Option Ord5} {f : Int → Option Value} {H : Int → HS} {reg : Nat → Int} {o : Ord5} (hM : BookM w b a F M n r f H reg) (h : Add8 w w1 b a F M n r f H reg o) (hk : (o.kind == 2) = true) :
    Add8 w (w1.setCell ⟨w.heap.size, 3, none⟩ (.int .i64 1)) b a F M n r f H reg (pricedO o) := by
  obtain ⟨h1, h2, h3⟩ := h
  have hk4 := Keeps.set_ w1 ⟨w.heap.size, 3, none⟩ (.int .i64 1)
  have hk' : o.kind = 2 := by simpa using hk
  refine ⟨((Keeps.of_below h1 (fun i => i = w.heap.size)).trans hk4 (fun i h => .inl h)).below (fun i hi => by rw [hi]; exact Nat.le_refl _) (Nat.le_refl _), h2.keeps hk4 (fun i hi e => ?_), ?_⟩
  · have := hM.fp hi
    have e' : i = w.heap.size := e
    omega
  · have := Blk.set_ h3 3 (.int .i64 1)
    have e : (boxO o).setIfInBounds 3 (.int .i64 1) = boxO (pricedO o) := by unfold boxO pricedO; rw [if_pos hk']; rfl
    rwa [e] at this
theorem priced_no {o : Ord5} (hk : (o.kind == 2) = false) : pricedO o = o := by
  have hk' : ¬ o.kind = 2 := by simpa using hk
  unfold pricedO
  rw [if_neg hk']

end Go.Proofs.Ytaagaamamjabbaa
