/-
  How arguments read, for the frames: the bounds of an int; a slice of structs of ints as rows of ints. No program of the set in sight.
-/
import Derived.WalkKit
import Derived.Deep.Slices
import Derived.Deep.Fields
import Derived.ChangeSame
import Derived.OpenShut
namespace Go.Proofs.Ytaagaamamjabbaa
open Go.RowKit Go.ChangeShapes Go.WideShapes Go.Deep

/-- a slice of structs of m ints each: its rows -/
def RowsAt (w : World) (m : Nat) (A : Option Addr) (len cap : Nat) (rows : List (List Int)) : Prop :=
  rows.length = len ∧ len ≤ cap ∧ cap ≤ maxLen ∧ (∀ r ∈ rows, r.length = m ∧ ∀ x ∈ r, -9223372036854775808 ≤ x ∧ x ≤ 9223372036854775807) ∧
  (A = none → len = 0 ∧ cap = 0) ∧
  (0 < len → ∃ b off, A = some ⟨b, off, none⟩ ∧ b < w.heap.size ∧ ∀ i (hi : i < rows.length) j (hj : j < rows[i].length), w.cell? ⟨b, off + i * m + j, none⟩ = some (.int .i64 rows[i][j]))

/-- cell i of a value of type t is an int -/
def flatAt (P : Program) : Nat → TypeId → Nat → Bool
  | 0, _, _ => false
  | n + 1, t, i => match P.underlying t with
    | some (.int .i64) => i == 0
    | some (.struct fs) => fs.toList.any fun f => decide (f.offset ≤ i) && decide (i < f.offset + P.cellsOf f.type) && flatAt P n f.type (i - f.offset)
    | _ => false

section
variable {H : Type} {enc : TypeId × Value → H} {P : Program} {w : World} {base : Nat} {spare : Nat → Bool} {held : Bool}
theorem flat_int : ∀ (n : Nat) (t : TypeId) (i fuel : Nat) (cs : List Value) (x : DataW H × List MemPlace), flatAt P n t i = true → DataW.trod enc P w base spare held fuel t cs = some x →
    ∃ z, cs[i]? = some (.int .i64 z) ∧ -9223372036854775808 ≤ z ∧ z ≤ 9223372036854775807
  | 0, _, _, _, _, _, h, _ => by simp [flatAt] at h
  | n + 1, t, i, fuel, cs, x, h, ht => by
    unfold flatAt at h
    split at h
    · rename_i hu
      obtain ⟨z, rfl, _, hw⟩ := DataW.trod_int hu ht
      have : i = 0 := by simpa using h
      subst this
      exact ⟨z, rfl, bounds_i64 hw⟩
    · rename_i fs hu
      obtain ⟨xs, m, _, _, hl, hxl, hf⟩ := DataW.trod_struct hu ht
      rw [List.any_eq_true] at h
      obtain ⟨f, hfm, hc⟩ := h
      simp only [Bool.and_eq_true, decide_eq_true_eq] at hc
      obtain ⟨⟨h1, h2⟩, h3⟩ := hc
      obtain ⟨j, hj, rfl⟩ := List.mem_iff_getElem.1 hfm
      have hj' : j < fs.size := by simpa using hj
      have e := hf j fs[j] (by simp [hj'])
      have hx : xs[j]? = some (xs[j]'(by omega)) := List.getElem?_eq_getElem (by omega)
      simp only [Array.getElem_toList] at h1 h2 h3
      rw [hx] at e
      obtain ⟨z, hz, hb⟩ := flat_int n _ _ _ _ _ h3 e
      refine ⟨z, ?_, hb⟩
      rw [List.getElem?_take, List.getElem?_drop] at hz
      split at hz
      · rw [← hz]; congr 1; omega
      · simp at hz
    · simp at h

theorem add_form {a : Addr} {i : Nat} (hs : a.spot = none) : a.add i = ⟨a.block, a.off + i, none⟩ := by
  unfold Addr.add
  split
  · rename_i h
    subst h
    cases a
    simp at hs
    simp [hs]
  · rfl

theorem rowsAt_of_trod {st et : TypeId} {m : Nat} {A : Option Addr} {len cap : Nat} {d : DataW H} {p : List MemPlace} (ht : P.underlying st = some (.slice et)) (hm : P.cellsOf et = m)
    (hflat : ((List.range m).all fun i => flatAt P 5 et i) = true) (hpos : 0 < m) (h : DataW.Trod enc P w base spare held st (.slice A len cap) d p) : ∃ rows, RowsAt w m A len cap rows := by
  obtain ⟨fuel, hf⟩ := h
  rcases open_slice ht hf with ⟨hcs, _⟩ | ⟨a, len', cap', mm, n, D, Pl, hcs, hb, hl, hcap, hmm, _, hi⟩
  · simp [Value.cells] at hcs
    obtain ⟨rfl, rfl, rfl⟩ := hcs
    exact ⟨[], rfl, Nat.le_refl _, Nat.zero_le _, by simp, fun _ => ⟨rfl, rfl⟩, fun h => absurd h (by omega)⟩
  · simp [Value.cells] at hcs
    obtain ⟨rfl, rfl, rfl⟩ := hcs
    subst hm
    have hlm : len ≤ mm := by rw [hmm]; split <;> omega
    have key : ∀ i, i < len → ∀ j, j < P.cellsOf et → ∃ z, w.cell? ((a.add (i * P.cellsOf et)).add j) = some (.int .i64 z) ∧ -9223372036854775808 ≤ z ∧ z ≤ 9223372036854775807 := by
      intro i hil j hj
      obtain ⟨cs', hc, ht'⟩ := hi i (by omega)
      obtain ⟨_, hcl, hat⟩ := World.cells?_some hc
      have hfj : flatAt P 5 et j = true := by
        rw [List.all_eq_true] at hflat
        exact hflat j (by simpa using hj)
      obtain ⟨z, hz, hb⟩ := flat_int 5 et j n cs' _ hfj ht'
      exact ⟨z, by rw [hat j hj, hz], hb⟩
    let Z : Nat → Nat → Int := fun i j => match w.cell? ((a.add (i * P.cellsOf et)).add j) with | some (.int _ z) => z | _ => 0
    have hZ : ∀ i, i < len → ∀ j, j < P.cellsOf et → w.cell? ((a.add (i * P.cellsOf et)).add j) = some (.int .i64 (Z i j)) ∧ -9223372036854775808 ≤ Z i j ∧ Z i j ≤ 9223372036854775807 := by
      intro i hil j hj
      obtain ⟨z, hz, hb⟩ := key i hil j hj
      have : Z i j = z := by simp only [Z, hz]
      rw [this]
      exact ⟨hz, hb⟩
    refine ⟨(List.range len).map fun i => (List.range (P.cellsOf et)).map (Z i), by simp, hl, hcap, ?_, by simp, ?_⟩
    · intro r hr
      obtain ⟨i, hil, rfl⟩ := List.mem_map.1 hr
      refine ⟨by simp, fun x hx => ?_⟩
      obtain ⟨j, hj, rfl⟩ := List.mem_map.1 hx
      exact (hZ i (by simpa using hil) j (by simpa using hj)).2
    · intro hpl
      have h0 := (hZ 0 hpl 0 hpos).1
      have e0 : (a.add (0 * P.cellsOf et)).add 0 = a := by simp [Addr.add]
      rw [e0] at h0
      have hs : a.spot = none := World.cell?_spot h0
      refine ⟨a.block, a.off, ?_, World.block_lt_of_cell? w a h0, ?_⟩
      · cases a; simp at hs; rw [hs]
      · intro i hi' j hj'
        simp only [List.length_map, List.length_range] at hi'
        simp only [List.getElem_map, List.getElem_range, List.length_map, List.length_range] at hj' ⊢
        rw [← (hZ i hi' j hj').1, add_form hs, add_form rfl]
end
end Go.Proofs.Ytaagaamamjabbaa
