/-
  Small lemmas for the end of a walk, and facts on tests in the walk's own form. No program in sight.
  How arguments read, for the frames: the bounds of an int; a slice of structs of ints as rows of ints. No program of the set in sight.
  A block that is known whole. No program of the set in sight.
  An own slice by its cells, and what stores, appends and reslices make of it. No program of the set in sight.
  Slices of structs in general: elements of k cells each, by an encoding. No program of the set in sight.
  Orders: structs of five ints. No program of the set in sight.
  The builtin clear on a slice of structs; an own row behind stores past its end. No program of the set in sight.
  Structs of three ints. No program of the set in sight.
  An error of package api as a value. No walk.
-/
import Derived.WalkKit
import Derived.WalkLawsBesides
import Derived.WalkSpells
import Derived.Below
import Derived.Deep.Draws
import Derived.Deep.Slices
import Derived.Deep.Fields
import Derived.ChangeSame
import Derived.OpenShut
import Derived.Laws.Rows
import Derived.Laws.OwnMore
import Derived.Deep.AppendLies
import Derived.Lib.SliceRun
import Derived.Test.YtkcgchpbjegneaaGreatDoorRows
namespace Go.Proofs.YtkcgchpbjegneaaGreatDoor
open Go.RowKit

theorem hid {p : Prop} (h : p) : Hid p := h
theorem ret_bool {a b : Bool} (h : a = b) : Ending.returned (.bool a) = Ending.returned (.bool b) := by rw [h]
theorem ret_int {k : IntKind} {a b : Int} (h : a = b) : Ending.returned (.int k a) = .returned (.int k b) := by rw [h]
theorem ret_iie {a b c d : Int} {v : Value} (h : a = c) (k : b = d) : Ending.returned (.tuple #[.int .i64 a, .int .i64 b, v]) = .returned (.tuple #[.int .i64 c, .int .i64 d, v]) := by rw [h, k]
theorem ret_ii {a b c d : Int} (h : a = c) (k : b = d) : Ending.returned (.tuple #[.int .i64 a, .int .i64 b]) = .returned (.tuple #[.int .i64 c, .int .i64 d]) := by rw [h, k]
theorem beqF {a b : Int} (h : a ≠ b) : (a == b) = false := beq_eq_false_iff_ne.2 h
theorem beqT {a b : Int} (h : a = b) : (a == b) = true := beq_iff_eq.2 h
theorem bneF {a b : Int} (h : a = b) : (a != b) = false := by simp [h]
theorem bneT {a b : Int} (h : a ≠ b) : (a != b) = true := by simp [h]
theorem decF {p : Prop} [Decidable p] (h : ¬ p) : decide p = false := decide_eq_false h
theorem decT {p : Prop} [Decidable p] (h : p) : decide p = true := decide_eq_true h
theorem drewN_below {B : Nat} {w w1 : World} (h : Below B w w1) (n : Nat) : Below B w (w1.drewN n) := ⟨h.os, h.tape, h.output, h.size, h.block⟩
end Go.Proofs.YtkcgchpbjegneaaGreatDoor
namespace Go.Proofs.YtkcgchpbjegneaaGreatDoor
open Go.RowKit Go.ChangeShapes Go.WideShapes Go.Deep

/-- a slice of structs of m ints each: its rows -/
def RowsAt (w : World) (m : Nat) (A : Option Addr) (len cap : Nat) (rows : List (List Int)) : Prop :=
  rows.length = len ∧ len ≤ cap ∧ cap ≤ maxLen ∧ (∀ r ∈ rows, r.length = m ∧ ∀ x ∈ r, -9223372036854775808 ≤ x ∧ x ≤ 9223372036854775807) ∧
  (A = none → len = 0 ∧ cap = 0) ∧
  (0 < len → ∃ b off, A = some ⟨b, off, none⟩ ∧ b < w.heap.size ∧ ∀ i (hi : i < rows.length) j (hj : j < rows[i].length), w.cell? ⟨b, off + i * m + j, none⟩ = some (.int .i64 rows[i][j]))

/-- cell i of a value of type t is an int -/
def flatAt (P : Program) : Nat → TypeId → Nat → Bool
  | 0, _, _ => false
  | n + 1, t, i => match P.underlying t with
    | some (.int .i64) => i == 0
    | some (.struct fs) => fs.toList.any fun f => decide (f.offset ≤ i) && decide (i < f.offset + P.cellsOf f.type) && flatAt P n f.type (i - f.offset)
    | _ => false

section
variable {H : Type} {enc : TypeId × Value → H} {P : Program} {w : World} {base : Nat} {spare : Nat → Bool} {held : Bool}
theorem flat_int : ∀ (n : Nat) (t : TypeId) (i fuel : Nat) (cs : List Value) (x : DataW H × List MemPlace), flatAt P n t i = true → DataW.trod enc P w base spare held fuel t cs = some x →
    ∃ z, cs[i]? = some (.int .i64 z) ∧ -9223372036854775808 ≤ z ∧ z ≤ 9223372036854775807
  | 0, _, _, _, _, _, h, _ => by simp [flatAt] at h
  | n + 1, t, i, fuel, cs, x, h, ht => by
    unfold flatAt at h
    split at h
    · rename_i hu
      obtain ⟨z, rfl, _, hw⟩ := DataW.trod_int hu ht
      have : i = 0 := by simpa using h
      subst this
      exact ⟨z, rfl, bounds_i64 hw⟩
    · rename_i fs hu
      obtain ⟨xs, m, _, _, hl, hxl, hf⟩ := DataW.trod_struct hu ht
      rw [List.any_eq_true] at h
      obtain ⟨f, hfm, hc⟩ := h
      simp only [Bool.and_eq_true, decide_eq_true_eq] at hc
      obtain ⟨⟨h1, h2⟩, h3⟩ := hc
      obtain ⟨j, hj, rfl⟩ := List.mem_iff_getElem.1 hfm
      have hj' : j < fs.size := by simpa using hj
      have e := hf j fs[j] (by simp [hj'])
      have hx : xs[j]? = some (xs[j]'(by omega)) := List.getElem?_eq_getElem (by omega)
      simp only [Array.getElem_toList] at h1 h2 h3
      rw [hx] at e
      obtain ⟨z, hz, hb⟩ := flat_int n _ _ _ _ _ h3 e
      refine ⟨z, ?_, hb⟩
      rw [List.getElem?_take, List.getElem?_drop] at hz
      split at hz
      · rw [← hz]; congr 1; omega
      · simp at hz
    · simp at h

theorem add_form {a : Addr} {i : Nat} (hs : a.spot = none) : a.add i = ⟨a.block, a.off + i, none⟩ := by
  unfold Addr.add
  split
  · rename_i h
    subst h
    cases a
    simp at hs
    simp [hs]
  · rfl

theorem rowsAt_of_trod {st et : TypeId} {m : Nat} {A : Option Addr} {len cap : Nat} {d : DataW H} {p : List MemPlace} (ht : P.underlying st = some (.slice et)) (hm : P.cellsOf et = m)
    (hflat : ((List.range m).all fun i => flatAt P 5 et i) = true) (hpos : 0 < m) (h : DataW.Trod enc P w base spare held st (.slice A len cap) d p) : ∃ rows, RowsAt w m A len cap rows := by
  obtain ⟨fuel, hf⟩ := h
  rcases open_slice ht hf with ⟨hcs, _⟩ | ⟨a, len', cap', mm, n, D, Pl, hcs, hb, hl, hcap, hmm, _, hi⟩
  · simp [Value.cells] at hcs
    obtain ⟨rfl, rfl, rfl⟩ := hcs
    exact ⟨[], rfl, Nat.le_refl _, Nat.zero_le _, by simp, fun _ => ⟨rfl, rfl⟩, fun h => absurd h (by omega)⟩
  · simp [Value.cells] at hcs
    obtain ⟨rfl, rfl, rfl⟩ := hcs
    subst hm
    have hlm : len ≤ mm := by rw [hmm]; split <;> omega
    have key : ∀ i, i < len → ∀ j, j < P.cellsOf et → ∃ z, w.cell? ((a.add (i * P.cellsOf et)).add j) = some (.int .i64 z) ∧ -9223372036854775808 ≤ z ∧ z ≤ 9223372036854775807 := by
      intro i hil j hj
      obtain ⟨cs', hc, ht'⟩ := hi i (by omega)
      obtain ⟨_, hcl, hat⟩ := World.cells?_some hc
      have hfj : flatAt P 5 et j = true := by
        rw [List.all_eq_true] at hflat
        exact hflat j (by simpa using hj)
      obtain ⟨z, hz, hb⟩ := flat_int 5 et j n cs' _ hfj ht'
      exact ⟨z, by rw [hat j hj, hz], hb⟩
    let Z : Nat → Nat → Int := fun i j => match w.cell? ((a.add (i * P.cellsOf et)).add j) with | some (.int _ z) => z | _ => 0
    have hZ : ∀ i, i < len → ∀ j, j < P.cellsOf et → w.cell? ((a.add (i * P.cellsOf et)).add j) = some (.int .i64 (Z i j)) ∧ -9223372036854775808 ≤ Z i j ∧ Z i j ≤ 9223372036854775807 := by
      intro i hil j hj
      obtain ⟨z, hz, hb⟩ := key i hil j hj
      have : Z i j = z := by simp only [Z, hz]
      rw [this]
      exact ⟨hz, hb⟩
    refine ⟨(List.range len).map fun i => (List.range (P.cellsOf et)).map (Z i), by simp, hl, hcap, ?_, by simp, ?_⟩
    · intro r hr
      obtain ⟨i, hil, rfl⟩ := List.mem_map.1 hr
      refine ⟨by simp, fun x hx => ?_⟩
      obtain ⟨j, hj, rfl⟩ := List.mem_map.1 hx
      exact (hZ i (by simpa using hil) j (by simpa using hj)).2
    · intro hpl
      have h0 := (hZ 0 hpl 0 hpos).1
      have e0 : (a.add (0 * P.cellsOf et)).add 0 = a := by simp [Addr.add]
      rw [e0] at h0
      have hs : a.spot = none := World.cell?_spot h0
      refine ⟨a.block, a.off, ?_, World.block_lt_of_cell? w a h0, ?_⟩
      · cases a; simp at hs; rw [hs]
      · intro i hi' j hj'
        simp only [List.length_map, List.length_range] at hi'
        simp only [List.getElem_map, List.getElem_range, List.length_map, List.length_range] at hj' ⊢
        rw [← (hZ i hi' j hj').1, add_form hs, add_form rfl]
end
end Go.Proofs.YtkcgchpbjegneaaGreatDoor
namespace Go.Proofs.YtkcgchpbjegneaaGreatDoor
open Go.RowKit

/-- block g is just the cells cs, of element type t, none frozen -/
def Blk (w : World) (g : Nat) (t : TypeId) (cs : Array Value) : Prop := w.heap[g]? = some (.cells cs t (0, 0))

section
variable {w w' : World} {g : Nat} {t : TypeId} {cs : Array Value}
theorem Blk.lt (h : Blk w g t cs) : g < w.heap.size := by
  rcases Nat.lt_or_ge g w.heap.size with hlt | hge
  · exact hlt
  · unfold Blk at h; rw [Array.getElem?_eq_none hge] at h; cases h
theorem Blk.cell (h : Blk w g t cs) (i : Nat) : w.cell? ⟨g, i, none⟩ = cs[i]? := cell_of_row w g i cs t (0, 0) h
theorem Blk.frozen (h : Blk w g t cs) (i : Nat) : w.frozen? ⟨g, i, none⟩ = false := by
  unfold Blk at h
  simp [World.frozen?, h]
theorem Blk.new (w : World) (t : TypeId) (cs : Array Value) : Blk (w.alloc (.cells cs t)) w.heap.size t cs := heap_alloc_new w _
theorem Blk.drew (h : Blk w g t cs) : Blk w.drew g t cs := h
theorem Blk.drewN (h : Blk w g t cs) (n : Nat) : Blk (w.drewN n) g t cs := h
theorem Blk.alloc (h : Blk w g t cs) (o : Obj) : Blk (w.alloc o) g t cs := (Below.heap_alloc w o g h.lt).trans h
theorem Blk.set_ (h : Blk w g t cs) (i : Nat) (u : Value) : Blk (w.setCell ⟨g, i, none⟩ u) g t (cs.setIfInBounds i u) := by
  unfold Blk at h ⊢
  simp [World.setCell, Array.getElem?_modify, h]
theorem Blk.far (h : Blk w g t cs) {p : Addr} (hp : g ≠ p.block) (u : Value) : Blk (w.setCell p u) g t cs := (Below.heap_setCell w p u g hp).trans h
theorem Blk.below {B : Nat} (h : Blk w g t cs) (hb : Below B w w') (hg : g < B) : Blk w' g t cs := (hb.block g hg).trans h
theorem Blk.keep (h : Blk w g t cs) (hb : Below w.heap.size w w') : Blk w' g t cs := h.below hb h.lt
theorem Blk.grown {row : Option Nat} (h : Blk w g t cs) (hb : w.grownBy w' row) (hg : some g ≠ row) : Blk w' g t cs := (hb.block g h.lt hg).trans h
theorem Blk.of_block (h : Blk w g t cs) (hb : w'.heap[g]? = w.heap[g]?) : Blk w' g t cs := hb.trans h
end

/-- of the blocks that were there only those in S may have turned -/
structure Keeps (S : Nat → Prop) (w w' : World) : Prop where
  os : w'.os = w.os
  tape : w'.tape = w.tape
  output : w'.output = w.output
  size : w.heap.size ≤ w'.heap.size
  block : ∀ k, k < w.heap.size → ¬ S k → w'.heap[k]? = w.heap[k]?

section
variable {S S' : Nat → Prop} {w w' w1 w2 : World}
theorem Keeps.refl (S : Nat → Prop) (w : World) : Keeps S w w := ⟨rfl, rfl, rfl, Nat.le_refl _, fun _ _ _ => rfl⟩
theorem Keeps.trans (h : Keeps S w w1) (k : Keeps S' w1 w2) (hS : ∀ i, S' i → S i ∨ w.heap.size ≤ i) : Keeps S w w2 :=
  ⟨k.os.trans h.os, k.tape.trans h.tape, k.output.trans h.output, Nat.le_trans h.size k.size, fun i hi hn =>
    (k.block i (Nat.lt_of_lt_of_le hi h.size) (fun h' => (hS i h').elim hn (fun h'' => absurd hi (by omega)))).trans (h.block i hi hn)⟩
theorem Keeps.mono (h : Keeps S w w1) (hS : ∀ i, S i → S' i) : Keeps S' w w1 := ⟨h.os, h.tape, h.output, h.size, fun i hi hn => h.block i hi (fun h' => hn (hS i h'))⟩
theorem Keeps.of_below (h : Below w.heap.size w w1) (S : Nat → Prop) : Keeps S w w1 := ⟨h.os, h.tape, h.output, h.size, fun i hi _ => h.block i hi⟩
theorem Keeps.then_ (h : Keeps S w w1) (k : Below w1.heap.size w1 w2) : Keeps S w w2 := h.trans (Keeps.of_below k (fun _ => False)) (fun _ h => h.elim)
theorem Keeps.after (h : Below w.heap.size w w1) (k : Keeps S w1 w2) : Keeps S w w2 := (Keeps.of_below h S).trans k (fun _ h => .inl h)
theorem Keeps.set_ (w : World) (p : Addr) (v : Value) : Keeps (fun i => i = p.block) w (w.setCell p v) := ⟨rfl, rfl, rfl, by simp [World.setCell], fun i _ hn => Below.heap_setCell w p v i hn⟩
/-- all of it lies above B -/
theorem Keeps.below {B : Nat} (h : Keeps S w w1) (hS : ∀ i, S i → B ≤ i) (hB : B ≤ w.heap.size) : Below B w w1 := ⟨h.os, h.tape, h.output, h.size, fun i hi => h.block i (by omega) (fun h' => by have := hS i h'; omega)⟩
theorem Keeps.cell (h : Keeps S w w1) {p : Addr} (hp : p.block < w.heap.size) (hn : ¬ S p.block) : w1.cell? p = w.cell? p := World.cell?_of_block (h.block _ hp hn)
theorem Keeps.frozen (h : Keeps S w w1) {p : Addr} (hp : p.block < w.heap.size) (hn : ¬ S p.block) : w1.frozen? p = w.frozen? p := World.frozen?_of_block (h.block _ hp hn)
theorem Blk.keeps {g : Nat} {t : TypeId} {cs : Array Value} (h : Blk w g t cs) (hk : Keeps S w w1) (hn : ¬ S g) : Blk w1 g t cs := (hk.block g h.lt hn).trans h
end
end Go.Proofs.YtkcgchpbjegneaaGreatDoor
namespace Go.Proofs.YtkcgchpbjegneaaGreatDoor
open Go.RowKit

/-- an own slice -/
def RowAt (w : World) (A : Option Addr) (n c : Nat) (t : TypeId) (sz : Nat) (xs : List Value) : Prop := w.ownsRow 0 t sz (.slice A n c) n xs
/-- the block of an own slice -/
def blkOf (A : Option Addr) : Option Nat := A.map (·.block)
theorem own_slice (A : Option Addr) (n c : Nat) : (Value.slice A n c).ownBlock = blkOf A := by cases A <;> rfl

theorem own_base0 {w : World} {base : Nat} {e : TypeId} {size : Nat} {v : Value} {n : Nat} {xs : List Value} (h : w.ownsRow base e size v n xs) : w.ownsRow 0 e size v n xs := by
  refine ⟨h.1, ?_⟩
  rcases h.2 with h1 | ⟨g, cap, cur, h1, h2, h3⟩
  · exact .inl h1
  · exact .inr ⟨g, cap, cur, h1, Nat.zero_le _, h3⟩

theorem RowAt.cell {w : World} {A : Option Addr} {n c sz : Nat} {t : TypeId} {xs : List Value} (h : RowAt w A n c t sz xs) {j : Nat} {u : Value} (hu : xs[j]? = some u) :
    ∃ g, A = some ⟨g, 0, none⟩ ∧ w.cell? ⟨g, j, none⟩ = some u := by
  rcases h.2 with ⟨_, h0⟩ | ⟨g, cap, cur, hv, _⟩
  · have hl := h.1
    rw [h0] at hl
    rw [List.getElem?_eq_none (by omega)] at hu
    cases hu
  · cases hv
    refine ⟨g, rfl, ?_⟩
    have := World.ownsRow.cells h (g := g) rfl j u hu
    have hadd : (⟨g, 0, none⟩ : Addr).add j = ⟨g, j, none⟩ := by unfold Addr.add; split <;> simp_all
    rw [hadd] at this
    exact this

section
variable {w w' : World} {A : Option Addr} {n c sz : Nat} {t : TypeId} {xs : List Value}
theorem RowAt.lt (h : RowAt w A n c t sz xs) {g : Nat} (hg : blkOf A = some g) : g < w.heap.size := (World.ownsRow.lt h g (by rw [own_slice]; exact hg)).2
theorem RowAt.of_block (h : RowAt w A n c t sz xs) (hb : ∀ g, blkOf A = some g → w'.heap[g]? = w.heap[g]?) : RowAt w' A n c t sz xs := by
  refine ⟨h.1, ?_⟩
  rcases h.2 with h1 | ⟨g, cap, cur, hv, h1, h2, h3⟩
  · exact .inl h1
  · cases hv
    exact .inr ⟨g, c, cur, rfl, h1, (hb g rfl).trans h2, h3⟩
theorem RowAt.keeps {S : Nat → Prop} (h : RowAt w A n c t sz xs) (hk : Keeps S w w') (hn : ∀ g, blkOf A = some g → ¬ S g) : RowAt w' A n c t sz xs :=
  h.of_block fun g hg => hk.block g (h.lt hg) (hn g hg)
theorem RowAt.below (h : RowAt w A n c t sz xs) (hb : Below w.heap.size w w') : RowAt w' A n c t sz xs := h.of_block fun g hg => hb.block g (h.lt hg)
theorem RowAt.set {g : Nat} (h : RowAt w (some ⟨g, 0, none⟩) n c t sz xs) (j : Nat) (u : Value) : RowAt (w.setCell ⟨g, j, none⟩ u) (some ⟨g, 0, none⟩) n c t sz (xs.set j u) := (World.ownsRow.stored h j u).1
theorem RowAt.frozen {g : Nat} (h : RowAt w (some ⟨g, 0, none⟩) n c t sz xs) (j : Nat) : w.frozen? ⟨g, j, none⟩ = false := World.ownsRow.frozenAt h j
theorem RowAt.pop {g : Nat} (h : RowAt w (some ⟨g, 0, none⟩) n c t sz xs) (m : Nat) (hm : m ≤ n) : RowAt w (some ⟨g, 0, none⟩) m c t sz (xs.take (m * sz)) := by
  have hl := h.1
  have hle : m * sz ≤ n * sz := Nat.mul_le_mul_right _ hm
  refine ⟨by simp; omega, ?_⟩
  rcases h.2 with ⟨h1, _⟩ | ⟨g', cap, cur, hv, h1, h2, h3, h4, h5, h6⟩
  · cases h1
  · cases hv
    exact .inr ⟨g, c, cur, rfl, h1, h2, by omega, h4, h5, by rw [← h6, List.take_take, Nat.min_eq_left hle]⟩
end
end Go.Proofs.YtkcgchpbjegneaaGreatDoor
namespace Go.Proofs.YtkcgchpbjegneaaGreatDoor
open Go.RowKit
set_option linter.unusedVariables false

section
variable {α : Type}
/-- the cells of a list of elements -/
def flat (enc : α → List Value) (xs : List α) : List Value := xs.flatMap enc
theorem flat_nil (enc : α → List Value) : flat enc [] = [] := rfl
theorem flat_cons (enc : α → List Value) (x : α) (xs : List α) : flat enc (x :: xs) = enc x ++ flat enc xs := rfl
theorem flat_append (enc : α → List Value) (xs ys : List α) : flat enc (xs ++ ys) = flat enc xs ++ flat enc ys := by simp [flat]
theorem flat_snoc (enc : α → List Value) (xs : List α) (y : α) : flat enc (xs ++ [y]) = flat enc xs ++ enc y := by simp [flat]
theorem flat_length {enc : α → List Value} {k : Nat} (hk : ∀ x, (enc x).length = k) (xs : List α) : (flat enc xs).length = xs.length * k := by
  induction xs with
  | nil => simp [flat]
  | cons x xs ih => rw [flat_cons, List.length_append, ih, hk, List.length_cons, Nat.succ_mul]; omega
theorem flat_get {enc : α → List Value} {k : Nat} (hk : ∀ x, (enc x).length = k) (xs : List α) : ∀ (i : Nat) (hi : i < xs.length) (j : Nat), j < k → (flat enc xs)[i * k + j]? = (enc xs[i])[j]? := by
  induction xs with
  | nil => intro i hi; simp at hi
  | cons x xs ih =>
    intro i hi j hj
    rw [flat_cons]
    cases i with
    | zero => rw [Nat.zero_mul, Nat.zero_add, List.getElem?_append_left (by rw [hk]; exact hj)]; rfl
    | succ i =>
      rw [List.getElem?_append_right (by rw [hk, Nat.succ_mul]; omega), hk, show (i + 1) * k + j - k = i * k + j by rw [Nat.succ_mul]; omega]
      exact ih i (by simpa using hi) j hj
theorem flat_one {enc : α → List Value} (h1 : ∀ x, ∀ u ∈ enc x, u.oneCell' = true) (xs : List α) : ∀ u ∈ flat enc xs, u.oneCell' = true := by
  intro u hu
  obtain ⟨x, _, h⟩ := List.mem_flatMap.1 hu
  exact h1 x u h
/-- some cells stored one behind the other -/
def setsFrom : List Value → Nat → List Value → List Value
  | l, _, [] => l
  | l, p, v :: vs => setsFrom (l.set p v) (p + 1) vs
theorem setsFrom_length (vs : List Value) : ∀ (l : List Value) (p : Nat), (setsFrom l p vs).length = l.length := by
  induction vs with
  | nil => intro l p; rfl
  | cons v vs ih => intro l p; rw [setsFrom, ih, List.length_set]
theorem setsFrom_right (vs : List Value) : ∀ (l : List Value) (pre : List Value) (q : Nat), setsFrom (pre ++ l) (pre.length + q) vs = pre ++ setsFrom l q vs := by
  induction vs with
  | nil => intro l pre q; rfl
  | cons v vs ih =>
    intro l pre q
    have e : (pre ++ l).set (pre.length + q) v = pre ++ l.set q v := by rw [List.set_append, if_neg (by omega), show pre.length + q - pre.length = q by omega]
    rw [setsFrom, setsFrom, e, Nat.add_assoc, ih]
theorem setsFrom_head (vs : List Value) : ∀ (l rest : List Value), l.length = vs.length → setsFrom (l ++ rest) 0 vs = vs ++ rest := by
  induction vs with
  | nil => intro l rest h; simp at h; subst h; rfl
  | cons v vs ih =>
    intro l rest h
    cases l with
    | nil => simp at h
    | cons a l =>
      have h' : l.length = vs.length := by simpa using h
      rw [setsFrom]
      show setsFrom ([v] ++ (l ++ rest)) ([v].length + 0) vs = _
      rw [setsFrom_right, ih l rest h']; rfl
theorem flat_sets {enc : α → List Value} {k : Nat} (hk : ∀ x, (enc x).length = k) (y : α) (xs : List α) : ∀ i, i < xs.length → setsFrom (flat enc xs) (i * k) (enc y) = flat enc (xs.set i y) := by
  induction xs with
  | nil => intro i hi; simp at hi
  | cons x xs ih =>
    intro i hi
    rw [flat_cons]
    cases i with
    | zero => rw [Nat.zero_mul, setsFrom_head _ _ _ (by rw [hk, hk])]; rfl
    | succ i =>
      have e : (i + 1) * k = (enc x).length + i * k := by rw [hk, Nat.succ_mul]; omega
      rw [e, setsFrom_right, ih i (by simpa using hi)]; rfl
theorem flat_take {enc : α → List Value} {k : Nat} (hk : ∀ x, (enc x).length = k) (xs : List α) : ∀ m, (flat enc xs).take (m * k) = flat enc (xs.take m) := by
  induction xs with
  | nil => intro m; simp [flat]
  | cons x xs ih =>
    intro m
    cases m with
    | zero => simp [flat]
    | succ m => rw [flat_cons, List.take_succ_cons, flat_cons, List.take_append, hk, List.take_of_length_le (by rw [hk, Nat.succ_mul]; omega), show (m + 1) * k - k = m * k by rw [Nat.succ_mul]; omega, ih]

/-- a slice whose elements lie where they are read -/
def ElemsAt (w : World) (enc : α → List Value) (k : Nat) (A : Option Addr) (len : Nat) (xs : List α) : Prop :=
  xs.length = len ∧ (0 < len → ∃ b off, A = some ⟨b, off, none⟩ ∧ b < w.heap.size ∧ ∀ i (hi : i < xs.length) j u, (enc xs[i])[j]? = some u → w.cell? ⟨b, off + i * k + j, none⟩ = some u)
variable {w w' : World} {enc : α → List Value} {k : Nat} {A : Option Addr} {len : Nat} {xs : List α}
theorem ElemsAt.below {B : Nat} (h : ElemsAt w enc k A len xs) (hb : Below B w w') (hB : w.heap.size ≤ B) : ElemsAt w' enc k A len xs := by
  refine ⟨h.1, fun hl => ?_⟩
  obtain ⟨b, off, hA, hlt, hc⟩ := h.2 hl
  have hs := hb.size
  exact ⟨b, off, hA, by omega, fun i hi j u hu => (hb.cell (p := ⟨b, _, none⟩) (by show b < B; omega)).trans (hc i hi j u hu)⟩
theorem ElemsAt.keeps {S : Nat → Prop} (h : ElemsAt w enc k A len xs) (hk : Keeps S w w') (hn : ∀ g, blkOf A = some g → ¬ S g) : ElemsAt w' enc k A len xs := by
  refine ⟨h.1, fun hl => ?_⟩
  obtain ⟨b, off, rfl, hlt, hc⟩ := h.2 hl
  have hs := hk.size
  exact ⟨b, off, rfl, by omega, fun i hi j u hu => (hk.cell (p := ⟨b, _, none⟩) hlt (hn b rfl)).trans (hc i hi j u hu)⟩
theorem ElemsAt.at_ {b off : Nat} (h : ElemsAt w enc k (some ⟨b, off, none⟩) len xs) {i : Nat} (hi : i < xs.length) {j : Nat} {u : Value} (hu : (enc xs[i])[j]? = some u) : w.cell? ⟨b, off + i * k + j, none⟩ = some u := by
  have hl : 0 < len := by have := h.1; omega
  obtain ⟨b', off', hA, _, hc⟩ := h.2 hl
  cases hA
  exact hc i hi j u hu
theorem add_none (b o j : Nat) : (⟨b, o, none⟩ : Addr).add j = ⟨b, o + j, none⟩ := by
  unfold Addr.add
  split
  · rename_i h; subst h; rfl
  · rfl
theorem ElemsAt.news {b off : Nat} (hk : ∀ x, (enc x).length = k) (h : ElemsAt w enc k (some ⟨b, off, none⟩) len xs) : ∀ j u, (flat enc xs)[j]? = some u → w.cell? ((⟨b, off, none⟩ : Addr).add j) = some u := by
  intro j u hu
  have hj : j < xs.length * k := by
    rw [← flat_length hk]
    rcases Nat.lt_or_ge j (flat enc xs).length with h | h
    · exact h
    · rw [List.getElem?_eq_none h] at hu; cases hu
  have hk0 : 0 < k := by
    rcases Nat.eq_zero_or_pos k with h | h
    · subst h; omega
    · exact h
  have hi : j / k < xs.length := (Nat.div_lt_iff_lt_mul hk0).2 hj
  have hm : j % k < k := Nat.mod_lt _ hk0
  have e : j / k * k + j % k = j := by have := Nat.div_add_mod j k; rw [Nat.mul_comm] at this; omega
  rw [add_none, ← e, ← Nat.add_assoc]
  exact h.at_ hi (by rw [← flat_get hk xs _ hi _ hm, e]; exact hu)
theorem ElemsAt.of_row {n c : Nat} {t : TypeId} (hk : ∀ x, (enc x).length = k) (hk0 : 0 < k) (h : RowAt w A n c t k (flat enc xs)) : ElemsAt w enc k A n xs := by
  have hl : xs.length = n := by
    have := h.1
    rw [flat_length hk] at this
    exact Nat.eq_of_mul_eq_mul_right hk0 this
  refine ⟨hl, fun hn => ?_⟩
  rcases h.2 with ⟨_, h0⟩ | ⟨g, cap, cur, hv, _⟩
  · omega
  · cases hv
    refine ⟨g, 0, rfl, h.lt rfl, fun i hi j u hu => ?_⟩
    have hj : j < k := by
      rcases Nat.lt_or_ge j k with h | h
      · exact h
      · rw [List.getElem?_eq_none (by rw [hk]; exact h)] at hu; cases hu
    obtain ⟨g', hg, hc⟩ := h.cell ((flat_get hk xs i hi j hj).trans hu)
    cases hg
    rw [Nat.zero_add]
    exact hc
/-- an element of an own slice -/
theorem RowAt.elem {n c : Nat} {t : TypeId} (hk : ∀ x, (enc x).length = k) (hk0 : 0 < k) (h : RowAt w A n c t k (flat enc xs)) {i : Nat} (hi : i < xs.length) : ∃ g, A = some ⟨g, 0, none⟩ ∧ ∀ j u, (enc xs[i])[j]? = some u → w.cell? ⟨g, i * k + j, none⟩ = some u := by
  rcases h.2 with ⟨_, h0⟩ | ⟨g, cap, cur, hv, _⟩
  · have := h.1
    rw [flat_length hk, h0] at this
    have h2 : xs.length * k = 0 := by omega
    rcases Nat.mul_eq_zero.1 h2 with h3 | h3
    · omega
    · omega
  · cases hv
    refine ⟨g, rfl, fun j u hu => ?_⟩
    have hj : j < k := by
      rcases Nat.lt_or_ge j k with h | h
      · exact h
      · rw [List.getElem?_eq_none (by rw [hk]; exact h)] at hu; cases hu
    obtain ⟨g', hg, hc⟩ := h.cell ((flat_get hk xs i hi j hj).trans hu)
    cases hg
    exact hc
end
end Go.Proofs.YtkcgchpbjegneaaGreatDoor
namespace Go.Proofs.YtkcgchpbjegneaaGreatDoor
open Go.RowKit
set_option linter.unusedVariables false

/-- an order: its number, side, kind, price, lots -/
structure Ord5 where
  id : Int
  side : Int
  kind : Int
  price : Int
  qty : Int

def encO (o : Ord5) : List Value := [.int .i64 o.id, .int .i64 o.side, .int .i64 o.kind, .int .i64 o.price, .int .i64 o.qty]
def aggO (o : Ord5) : Value := .agg #[.int .i64 o.id, .int .i64 o.side, .int .i64 o.kind, .int .i64 o.price, .int .i64 o.qty]
def boxO (o : Ord5) : Array Value := #[.int .i64 o.id, .int .i64 o.side, .int .i64 o.kind, .int .i64 o.price, .int .i64 o.qty]
theorem encO_length (o : Ord5) : (encO o).length = 5 := rfl
theorem encO_one (o : Ord5) : ∀ u ∈ encO o, u.oneCell' = true := by
  intro u hu
  simp [encO] at hu
  rcases hu with rfl | rfl | rfl | rfl | rfl <;> rfl
section
variable {w : World} {A : Option Addr} {len : Nat} {ps : List Ord5}
theorem ord_at {b off : Nat} (h : ElemsAt w encO 5 (some ⟨b, off, none⟩) len ps) {i : Nat} (hi : i < ps.length) :
    w.cell? ⟨b, off + i * 5, none⟩ = some (.int .i64 ps[i].id) ∧ w.cell? ⟨b, off + i * 5 + 1, none⟩ = some (.int .i64 ps[i].side) ∧ w.cell? ⟨b, off + i * 5 + 2, none⟩ = some (.int .i64 ps[i].kind) ∧
      w.cell? ⟨b, off + i * 5 + 3, none⟩ = some (.int .i64 ps[i].price) ∧ w.cell? ⟨b, off + i * 5 + 4, none⟩ = some (.int .i64 ps[i].qty) :=
  ⟨h.at_ hi (j := 0) rfl, h.at_ hi (j := 1) rfl, h.at_ hi (j := 2) rfl, h.at_ hi (j := 3) rfl, h.at_ hi (j := 4) rfl⟩
theorem ord_own {g n c : Nat} {t : TypeId} (h : RowAt w (some ⟨g, 0, none⟩) n c t 5 (flat encO ps)) {i : Nat} (hi : i < ps.length) :
    w.cell? ⟨g, i * 5, none⟩ = some (.int .i64 ps[i].id) ∧ w.cell? ⟨g, i * 5 + 1, none⟩ = some (.int .i64 ps[i].side) ∧ w.cell? ⟨g, i * 5 + 2, none⟩ = some (.int .i64 ps[i].kind) ∧
      w.cell? ⟨g, i * 5 + 3, none⟩ = some (.int .i64 ps[i].price) ∧ w.cell? ⟨g, i * 5 + 4, none⟩ = some (.int .i64 ps[i].qty) := by
  obtain ⟨g', hg, hc⟩ := h.elem encO_length (by omega) hi
  cases hg
  exact ⟨hc 0 _ rfl, hc 1 _ rfl, hc 2 _ rfl, hc 3 _ rfl, hc 4 _ rfl⟩
theorem ord_box {g : Nat} {t : TypeId} {o : Ord5} (h : Blk w g t (boxO o)) :
    w.cell? ⟨g, 0, none⟩ = some (.int .i64 o.id) ∧ w.cell? ⟨g, 1, none⟩ = some (.int .i64 o.side) ∧ w.cell? ⟨g, 2, none⟩ = some (.int .i64 o.kind) ∧ w.cell? ⟨g, 3, none⟩ = some (.int .i64 o.price) ∧ w.cell? ⟨g, 4, none⟩ = some (.int .i64 o.qty) :=
  ⟨by rw [Blk.cell h]; rfl, by rw [Blk.cell h]; rfl, by rw [Blk.cell h]; rfl, by rw [Blk.cell h]; rfl, by rw [Blk.cell h]; rfl⟩
def ordOf (r : List Int) : Ord5 := ⟨r.getD 0 0, r.getD 1 0, r.getD 2 0, r.getD 3 0, r.getD 4 0⟩
def ordsOf (rows : List (List Int)) : List Ord5 := rows.map ordOf
theorem ords_of_rows {cap : Nat} {rows : List (List Int)} (h : RowsAt w 5 A len cap rows) : ElemsAt w encO 5 A len (ordsOf rows) := by
  obtain ⟨h1, _, _, h4, _, h6⟩ := h
  refine ⟨by simp [ordsOf, h1], fun hl => ?_⟩
  obtain ⟨b, off, hA, hb, hc⟩ := h6 hl
  refine ⟨b, off, hA, hb, fun i hi j u hu => ?_⟩
  have hi' : i < rows.length := by simpa [ordsOf] using hi
  have hr := (h4 rows[i] (List.getElem_mem _)).1
  have e : (ordsOf rows)[i] = ordOf rows[i] := by simp [ordsOf]
  rw [e] at hu
  have key : ∀ j (hj : j < rows[i].length), w.cell? ⟨b, off + i * 5 + j, none⟩ = some (.int .i64 (rows[i].getD j 0)) := by
    intro j hj
    rw [hc i hi' j hj]
    simp [List.getD_eq_getElem?_getD, hj]
  match j, hu with
  | 0, hu => cases hu; exact key 0 (by omega)
  | 1, hu => cases hu; exact key 1 (by omega)
  | 2, hu => cases hu; exact key 2 (by omega)
  | 3, hu => cases hu; exact key 3 (by omega)
  | 4, hu => cases hu; exact key 4 (by omega)
/-- its numbers are Go's ints -/
def Fit64 (x : Int) : Prop := -9223372036854775808 ≤ x ∧ x ≤ 9223372036854775807
def FitO (o : Ord5) : Prop := Fit64 o.id ∧ Fit64 o.side ∧ Fit64 o.kind ∧ Fit64 o.price ∧ Fit64 o.qty
theorem ords_fit {cap : Nat} {rows : List (List Int)} (h : RowsAt w 5 A len cap rows) : ∀ o ∈ ordsOf rows, FitO o := by
  intro o ho
  obtain ⟨r, hr, rfl⟩ := List.mem_map.1 ho
  have hl := (h.2.2.2.1 r hr).1
  have hb := (h.2.2.2.1 r hr).2
  have key : ∀ j, j < 5 → Fit64 (r.getD j 0) := by
    intro j hj
    have hj' : j < r.length := by omega
    have : r.getD j 0 = r[j] := by simp [List.getD_eq_getElem?_getD, hj']
    unfold Fit64
    rw [this]
    exact hb _ (List.getElem_mem _)
  exact ⟨key 0 (by omega), key 1 (by omega), key 2 (by omega), key 3 (by omega), key 4 (by omega)⟩
end
end Go.Proofs.YtkcgchpbjegneaaGreatDoor
namespace Go.Proofs.YtkcgchpbjegneaaGreatDoor
open Go.RowKit
set_option linter.unusedVariables false

theorem run_clear_any {P : Program} (w : World) (t e ty : TypeId) (z : Value) (k : Nat) (ht : P.underlying t = some (.slice e)) (hv : ∀ w, (zeroValue e).run P w = .ok z w) (hk : z.cells.size = k) (hk0 : 0 < k) (h1 : ∀ v ∈ z.cells, v.oneCell' = true) (b o n c : Nat) (hn : 0 < n)
    (hc : ∀ j, j < n * k → (w.cell? ⟨b, o + j, none⟩).isSome = true) (hf : ∀ j, j < n * k → w.frozen? ⟨b, o + j, none⟩ = false) :
    ∃ vs : List Value, vs.length = n * k ∧ (Builtin.clear_ #[t] ty #[.slice (some ⟨b, o, none⟩) n c]).run P w = .ok (.tuple #[]) (w.setCells b o vs) := by
  refine ⟨(Builtin.zeroCells z.cells n).toList, by simp [Builtin.zeroCells, hk], ?_⟩
  have hone : ∀ v ∈ (Builtin.zeroCells z.cells n).toList, v.oneCell' = true := by
    intro v hv'
    simp [Builtin.zeroCells] at hv'
    obtain ⟨i, _, rfl⟩ := hv'
    have hlt : i % z.cells.size < z.cells.size := Nat.mod_lt _ (by omega)
    rw [getElem!_pos z.cells _ hlt]
    exact h1 _ (Array.getElem_mem hlt)
  have hst := run_storeCells_cells (P := P) b o (Builtin.zeroCells z.cells n).toList 0 w (by simpa [Builtin.zeroCells, hk] using hc) (by simpa [Builtin.zeroCells, hk] using hf) hone
  simp only [Nat.add_zero] at hst
  obtain ⟨m, rfl⟩ : ∃ m, n = m + 1 := ⟨n - 1, by omega⟩
  simp [Builtin.clear_, run_underlying ht, hv, hst]

section
variable {w w' : World} {n c sz g : Nat} {t : TypeId} {xs : List Value}
theorem RowAt.set_past (h : RowAt w (some ⟨g, 0, none⟩) n c t sz xs) (j : Nat) (u : Value) (hj : n * sz ≤ j) : RowAt (w.setCell ⟨g, j, none⟩ u) (some ⟨g, 0, none⟩) n c t sz xs := by
  have h1 := h.set j u
  rwa [List.set_eq_of_length_le (by rw [h.1]; exact hj)] at h1
theorem RowAt.sets_past (vs : List Value) : ∀ (w : World) (j : Nat), RowAt w (some ⟨g, 0, none⟩) n c t sz xs → n * sz ≤ j → RowAt (w.setCells g j vs) (some ⟨g, 0, none⟩) n c t sz xs := by
  induction vs with
  | nil => intro w j h _; exact h
  | cons v vs ih => intro w j h hj; exact ih _ (j + 1) (h.set_past j v hj) (by omega)
theorem RowAt.cap (h : RowAt w (some ⟨g, 0, none⟩) n c t sz xs) : n ≤ c ∧ c ≤ 9223372036854775807 := by
  rcases h.2 with ⟨h1, _⟩ | ⟨g', cap, cur, hv, h1, h2, h3, h4, _⟩
  · cases h1
  · cases hv
    unfold maxLen at h4
    exact ⟨h3, h4⟩
theorem Keeps.setCells (vs : List Value) (b : Nat) : ∀ (w : World) (j : Nat), Keeps (fun i => i = b) w (w.setCells b j vs) := by
  induction vs with
  | nil => intro w j; exact Keeps.refl _ _
  | cons v vs ih => intro w j; exact (Keeps.set_ w ⟨b, j, none⟩ v).trans (ih _ (j + 1)) (fun i h => .inl h)
theorem RowAt.some_ (h : RowAt w (some ⟨g, 0, none⟩) n c t sz xs) {j : Nat} (hj : j < n * sz) : (w.cell? ⟨g, j, none⟩).isSome = true := by
  have hl : j < xs.length := by rw [h.1]; exact hj
  obtain ⟨g', hg, hc⟩ := h.cell (List.getElem?_eq_getElem hl)
  cases hg
  rw [hc]; rfl
end
end Go.Proofs.YtkcgchpbjegneaaGreatDoor
namespace Go.Proofs.YtkcgchpbjegneaaGreatDoor
open Go.RowKit
set_option linter.unusedVariables false

abbrev Tri := Int × Int × Int
def encT (p : Tri) : List Value := [.int .i64 p.1, .int .i64 p.2.1, .int .i64 p.2.2]
def aggT (p : Tri) : Value := .agg #[.int .i64 p.1, .int .i64 p.2.1, .int .i64 p.2.2]
theorem encT_length (p : Tri) : (encT p).length = 3 := rfl
theorem encT_one (p : Tri) : ∀ u ∈ encT p, u.oneCell' = true := by
  intro u hu
  simp [encT] at hu
  rcases hu with rfl | rfl | rfl <;> rfl
section
variable {w : World} {A : Option Addr} {len : Nat} {ps : List Tri}
theorem tri_at {b off : Nat} (h : ElemsAt w encT 3 (some ⟨b, off, none⟩) len ps) {i : Nat} (hi : i < ps.length) :
    w.cell? ⟨b, off + i * 3, none⟩ = some (.int .i64 ps[i].1) ∧ w.cell? ⟨b, off + i * 3 + 1, none⟩ = some (.int .i64 ps[i].2.1) ∧ w.cell? ⟨b, off + i * 3 + 2, none⟩ = some (.int .i64 ps[i].2.2) :=
  ⟨h.at_ hi (j := 0) rfl, h.at_ hi (j := 1) rfl, h.at_ hi (j := 2) rfl⟩
theorem tri_own {g n c : Nat} {t : TypeId} (h : RowAt w (some ⟨g, 0, none⟩) n c t 3 (flat encT ps)) {i : Nat} (hi : i < ps.length) :
    w.cell? ⟨g, i * 3, none⟩ = some (.int .i64 ps[i].1) ∧ w.cell? ⟨g, i * 3 + 1, none⟩ = some (.int .i64 ps[i].2.1) ∧ w.cell? ⟨g, i * 3 + 2, none⟩ = some (.int .i64 ps[i].2.2) := by
  obtain ⟨g', hg, hc⟩ := h.elem encT_length (by omega) hi
  cases hg
  exact ⟨hc 0 _ rfl, hc 1 _ rfl, hc 2 _ rfl⟩
theorem row_length {α : Type} {enc : α → List Value} {k : Nat} (hk : ∀ x, (enc x).length = k) (hk0 : 0 < k) {n c : Nat} {t : TypeId} {xs : List α} (h : RowAt w A n c t k (flat enc xs)) : xs.length = n := by
  have := h.1
  rw [flat_length hk] at this
  exact Nat.eq_of_mul_eq_mul_right hk0 this

def trisOf (rows : List (List Int)) : List Tri := rows.map fun r => (r.getD 0 0, r.getD 1 0, r.getD 2 0)
theorem tris_of_rows {cap : Nat} {rows : List (List Int)} (h : RowsAt w 3 A len cap rows) : ElemsAt w encT 3 A len (trisOf rows) := by
  obtain ⟨h1, _, _, h4, _, h6⟩ := h
  refine ⟨by simp [trisOf, h1], fun hl => ?_⟩
  obtain ⟨b, off, hA, hb, hc⟩ := h6 hl
  refine ⟨b, off, hA, hb, fun i hi j u hu => ?_⟩
  have hi' : i < rows.length := by simpa [trisOf] using hi
  have hr := (h4 rows[i] (List.getElem_mem _)).1
  have e : (trisOf rows)[i] = (rows[i].getD 0 0, rows[i].getD 1 0, rows[i].getD 2 0) := by simp [trisOf]
  rw [e] at hu
  have key : ∀ j (hj : j < rows[i].length), w.cell? ⟨b, off + i * 3 + j, none⟩ = some (.int .i64 (rows[i].getD j 0)) := by
    intro j hj
    rw [hc i hi' j hj]
    simp [List.getD_eq_getElem?_getD, hj]
  match j, hu with
  | 0, hu => cases hu; exact key 0 (by omega)
  | 1, hu => cases hu; exact key 1 (by omega)
  | 2, hu => cases hu; exact key 2 (by omega)
theorem tris_bound {cap : Nat} {rows : List (List Int)} (h : RowsAt w 3 A len cap rows) : ∀ p ∈ trisOf rows, (-9223372036854775808 ≤ p.1 ∧ p.1 ≤ 9223372036854775807) ∧ (-9223372036854775808 ≤ p.2.1 ∧ p.2.1 ≤ 9223372036854775807) ∧ (-9223372036854775808 ≤ p.2.2 ∧ p.2.2 ≤ 9223372036854775807) := by
  intro p hp
  obtain ⟨r, hr, rfl⟩ := List.mem_map.1 hp
  have hl := (h.2.2.2.1 r hr).1
  have hb := (h.2.2.2.1 r hr).2
  have key : ∀ j, j < 3 → -9223372036854775808 ≤ r.getD j 0 ∧ r.getD j 0 ≤ 9223372036854775807 := by
    intro j hj
    have hj' : j < r.length := by omega
    have : r.getD j 0 = r[j] := by simp [List.getD_eq_getElem?_getD, hj']
    rw [this]
    exact hb _ (List.getElem_mem _)
  exact ⟨key 0 (by omega), key 1 (by omega), key 2 (by omega)⟩
end
end Go.Proofs.YtkcgchpbjegneaaGreatDoor
namespace Go.Proofs.YtkcgchpbjegneaaGreatDoor
open Go.RowKit

/-- an error by its number: 0: none -/
def errV (e : Int) : Value := if e = 0 then .nilIface else .iface 29 (.int .i64 e)
theorem errV_zero : errV 0 = .nilIface := rfl
theorem errV_two : errV 2 = .iface 29 (.int .i64 2) := rfl
end Go.Proofs.YtkcgchpbjegneaaGreatDoor
