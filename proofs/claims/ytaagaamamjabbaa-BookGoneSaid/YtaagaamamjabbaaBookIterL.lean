/-
  What the walk of the iterator that Book.side gives leans on.
-/
import Derived.RangeFuncNested
import Derived.RangeFuncBound
import Derived.RangeFuncCalls
import Derived.RangeFuncLeaves
import Derived.Shelf.Abstract
import Derived.Shelf.RegionOpen
import Derived.WalkKit
import Derived.OwnWalkIn
import Derived.TacticsInMore
import Derived.LoopNIn
import Derived.LoopIn
import Derived.Stop.RegionWithIn
import Derived.Sort.LoopGhostIn
import Derived.Sort.CutIn
import Derived.Sort.QuietTacIn
import Derived.Sort.BigQuietIn
import Derived.Test.YtaagaamamjabbaaBookSem
namespace Go.Proofs.Ytaagaamamjabbaa
open Go.RowKit
set_option linter.unusedVariables false
attribute [local go_sem] Oper.semAt_some

theorem abides_below {β : Type} {B : Nat} {J : β → World → Prop} (h : AbidesFrom B J) {s : β} {W W' : World} (hs : J s W) (hb : Below W.heap.size W W') : J s W' :=
  h s W W' none hs ⟨hb.os, hb.tape, hb.output, hb.size, fun k hk _ => hb.block k hk⟩ (fun r e => by cases e)
theorem BookM.under {w w' : World} {b a n r B : Nat} {F : Nat → Prop} {M : Int → Int → Option Ord5} {f : Int → Option Value} {H : Int → HS} {reg : Nat → Int} (h : BookM w b a F M n r f H reg) (hb : Below B w w') (hB : ∀ i, BFp b r F H i → i < B) : BookM w' b a F M n r f H reg := by
  have hk : Keeps (fun i => B ≤ i) w w' := ⟨hb.os, hb.tape, hb.output, hb.size, fun k _ hn => hb.block k (by omega)⟩
  exact h.keeps hk (fun i hi e => by have := hB i hi; omega)

theorem Is12_1' : Is12 1 := .inl rfl
theorem ms_le {M : Int → Int → Option Ord5} {n : Nat} {f : Int → Option Value} {H : Int → HS} {s : Int} (hs : Is12 s) (hS : BookS M n f H) (h2 : n ≤ 100) : (H s).ms.length ≤ 1000 := by
  have h1 := hS.cnt
  unfold allH HS.all hOrd at h1
  simp only [List.length_append] at h1
  rcases hs with rfl | rfl <;> omega
theorem blk5' {w : World} {g : Nat} {t : TypeId} {a b c d e : Value} (h : Blk w g t #[a, b, c, d, e]) :
    w.cell? ⟨g, 0, none⟩ = some a ∧ w.cell? ⟨g, 1, none⟩ = some b ∧ w.cell? ⟨g, 2, none⟩ = some c ∧ w.cell? ⟨g, 3, none⟩ = some d ∧ w.cell? ⟨g, 4, none⟩ = some e :=
  ⟨by rw [Blk.cell h]; rfl, by rw [Blk.cell h]; rfl, by rw [Blk.cell h]; rfl, by rw [Blk.cell h]; rfl, by rw [Blk.cell h]; rfl⟩
/-- behind Get: the order boxed -/
def Got (w wx : World) (o : Ord5) (s7 : Value) : Prop := ∃ ob, s7 = .pointer (some ⟨ob, 0, none⟩) ∧ Below w.heap.size w wx ∧ Blk wx ob 41 (boxO o)
/-- what Get tells of an order that lies, from whatever world behind -/
def GetO (W0 : World) (a : Nat) (h1 h2 : Int) (o : Ord5) : Prop :=
  ∀ W, Below W0.heap.size W0 W → Calls Try.prog 65 #[.pointer (some ⟨a, 0, none⟩), .agg #[.int .i64 h1, .int .i64 h2]] W fun e w' =>
    e = .returned (.tuple #[.agg #[.int .i64 o.id, .int .i64 o.side, .int .i64 o.kind, .int .i64 o.price, .int .i64 o.qty], .nilIface]) ∧ Below W.heap.size W w'
theorem get_one {w : World} {b a n r : Nat} {F : Nat → Prop} {M : Int → Int → Option Ord5} {f : Int → Option Value} {H : Int → HS} {reg : Nat → Int} {h1 h2 : Int} {o : Ord5} (hM : BookM w b a F M n r f H reg) (hMx : M h1 h2 = some o) : GetO w a h1 h2 o := by
  intro W hW
  refine (oar_get (hM.ar.below hW) h1 h2).mono ?_
  rintro e w' ⟨rfl, hb⟩
  exact ⟨by unfold getO errO; rw [hMx]; rfl, hb⟩

theorem Is12_2' : Is12 2 := .inr rfl
theorem keeps5' (w : World) (g : Nat) (a b c d e : Value) : Keeps (fun i => i = g) w (((((w.setCell ⟨g, 0, none⟩ a).setCell ⟨g, 1, none⟩ b).setCell ⟨g, 2, none⟩ c).setCell ⟨g, 3, none⟩ d).setCell ⟨g, 4, none⟩ e) :=
  ((((Keeps.set_ w ⟨g, 0, none⟩ a).trans (Keeps.set_ _ ⟨g, 1, none⟩ b) (fun i h => .inl h)).trans (Keeps.set_ _ ⟨g, 2, none⟩ c) (fun i h => .inl h)).trans (Keeps.set_ _ ⟨g, 3, none⟩ d) (fun i h => .inl h)).trans (Keeps.set_ _ ⟨g, 4, none⟩ e) (fun i h => .inl h)
section
variable {M : Int → Int → Option Ord5} {n : Nat} {f : Int → Option Value} {H : Int → HS} {s : Int} {q : QG} {h : HS}
theorem qs_le (hs : Is12 s) (hS : BookS M n f H) (h2 : n ≤ 100) : (H s).qs.length ≤ 100000 := by
  have h1 := hS.cnt
  have h3 : (H s).qs.length ≤ (qOrd (H s).qs).length := by
    have hne := hS.ne s hs
    generalize (H s).qs = l at hne
    induction l with
    | nil => simp
    | cons q l ih =>
      have ih := ih (fun q hq => hne q (by simp [hq]))
      have h0 : 0 < q.os.length := List.length_pos_iff.2 (hne q (by simp))
      have e : qOrd (q :: l) = q.os ++ qOrd l := rfl
      rw [e, List.length_append, List.length_cons]
      omega
  unfold allH HS.all hOrd at h1
  simp only [List.length_append] at h1
  rcases hs with rfl | rfl <;> omega
theorem os_le (hs : Is12 s) (hS : BookS M n f H) (h2 : n ≤ 100) {k : Nat} (hk : k < (H s).qs.length) : (H s).qs[k].os.length ≤ 1000 := by
  have h1 := hS.cnt
  have h3 : (H s).qs[k].os.length ≤ (qOrd (H s).qs).length := by
    rw [qOrd_split _ hk]
    simp only [List.length_append]
    omega
  unfold allH HS.all hOrd at h1
  simp only [List.length_append] at h1
  rcases hs with rfl | rfl <;> omega
theorem qOrd_succ {qs : List QG} {j : Nat} (hj : j < qs.length) (hq : qs[j] = q) : qOrd (qs.take (j + 1)) = qOrd (qs.take j) ++ q.os := by
  rw [List.take_succ_eq_append_getElem hj, hq]
  unfold qOrd
  rw [List.flatMap_append]
  simp
theorem pref_ms (h : HS) (k : Nat) : ordL (h.ms.take k) <+: h.L := by
  refine ⟨ordL (h.ms.drop k ++ qOrd h.qs), ?_⟩
  unfold HS.L HS.all hOrd
  rw [← ordL_append, ← List.append_assoc, List.take_append_drop]
theorem pref_os {j : Nat} (hj : j < h.qs.length) (hq : h.qs[j] = q) (i : Nat) : ordL (h.ms ++ (qOrd (h.qs.take j) ++ q.os.take i)) <+: h.L := by
  refine ⟨ordL (q.os.drop i ++ qOrd (h.qs.drop (j + 1))), ?_⟩
  unfold HS.L HS.all hOrd
  rw [← ordL_append, qOrd_split h.qs hj, hq]
  congr 1
  simp only [List.append_assoc]
  rw [← List.append_assoc (q.os.take i), List.take_append_drop]
theorem pref_len {j i : Nat} (hj : j < h.qs.length) (hq : h.qs[j] = q) (hi : i < q.os.length) : (ordL (h.ms ++ (qOrd (h.qs.take j) ++ q.os.take i))).length < h.L.length := by
  unfold HS.L HS.all hOrd
  rw [qOrd_split h.qs hj, hq]
  unfold ordL
  simp only [List.length_map, List.length_append, List.length_take]
  omega
end
end Go.Proofs.Ytaagaamamjabbaa
