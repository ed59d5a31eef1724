/-
  The builtin copy at elements of k cells, and an own block by all its cells. No program of the set in sight.
-/
import Derived.Laws.CopyRow
import Derived.Laws.CopyOwn
import Derived.Lib.AppendZerosOnto
import Derived.Lib.JoinLaws
import Derived.Lib.Overlaps
import Derived.Deep.RegionLaw
import Derived.Test.YtkcgchpbjegneaaGreatDoorMem
namespace Go.Proofs.YtkcgchpbjegneaaGreatDoor
open Go.RowKit
set_option linter.unusedVariables false

theorem run_copy_rowK {P : Program} (w : World) (dT sT ty elem : TypeId) (k : Nat) (g o dLen dCap : Nat) (a : Addr) (sLen sCap : Nat) (cur : Array Value) (t : TypeId) (cs : List Value) (m : Nat) (hm : m = Nat.min sLen dLen)
    (hu : P.underlying dT = some (.slice elem)) (hs : (P.info? elem).map (·.size) = some k)
    (hg : w.heap[g]? = some (.cells cur t (0, 0))) (hn : cs.length = m * k)
    (hsrc : ∀ j v, cs[j]? = some v → w.cell? (a.add j) = some v) (hfit : o + cs.length ≤ cur.size) (h1 : ∀ v ∈ cs, v.oneCell' = true) :
    (Builtin.copy_ #[dT, sT] ty #[.slice (some ⟨g, o, none⟩) dLen dCap, .slice (some a) sLen sCap]).run P w = .ok (goInt m) (w.setRow g (splice cur.toList o cs).toArray) := by
  subst hm
  have hst := run_storeCells_at P g o t cs 0 cur w hg (by simpa using hfit) h1
  cases hq : P.info? elem with
  | none => simp [hq] at hs
  | some i =>
    have hi : i.size = k := by simpa [hq] using hs
    have hl := run_firstCells_some (P := P) w k (Nat.min sLen dLen) a sLen sCap cs hn hsrc
    have e : cur.toList.take o ++ cs ++ cur.toList.drop (o + cs.length) = splice cur.toList o cs := by unfold splice; rw [List.append_assoc]
    simp only [Nat.add_zero] at hst
    rw [e] at hst
    simp [Builtin.copy_, run_underlying hu, Builtin.lenOf, sizeOf, typeInfo, hq, hi, hl, hst]

/-- the operation copy, where its run is known -/
theorem wpList_copy_at {P : Program} (w : World) {ops : Array Oper} {rest : List Oper} {o : Oper} {a : Act} {Q : Exit → Act → World → Prop} (hgd : o.guard = none) (d s : Operand) (t t' : TypeId)
    (ho : o.op = .call { callee := .builtin .copy, args := #[d, s], argTypes := #[t, t'] }) (v u : Value) (hd : a.eval d = v) (hs : a.eval s = u) {v' : Value} {w' : World}
    (hr : (Builtin.copy_ #[t, t'] o.type #[v, u]).run P w = .ok v' w') (h : wpList P ops Q rest (a.put o.dst v') w') : wpList P ops Q (o :: rest) a w := by
  refine wpList_plain hgd fun K hK => ?_
  unfold Oper.wp execOp
  simp only [ho, resolve, invoke, builtin, Sem.run_bind, Sem.run_pure, Result.andThen_ok, List.map_toArray, List.map_cons, List.map_nil, hd, hs, hr]
  exact hK _ _ h
theorem step_copy_at {P : Program} {ops : Array Oper} {o : Oper} {a : Act} {w : World} {K : Act → World → Prop} {Q : Exit → Act → World → Prop} {E : Prop}
    (hg : o.guard = none) (d x : Operand) (dT sT : TypeId) (hop : o.op = Op.call { callee := Callee.builtin Builtin.copy, args := #[d, x], argTypes := #[dT, sT] })
    (v u : Value) (hd : a.eval d = v) (hx : a.eval x = u) {v' : Value} {w' : World} (hr : (Builtin.copy_ #[dT, sT] o.type #[v, u]).run P w = .ok v' w') (hK : K (a.put o.dst v') w') :
    if Region.wanted o (yielded ops a.tmps) = true then Oper.wp P o a w K Q else E := by
  have hw : Region.wanted o (yielded ops a.tmps) = true := by simp [Region.wanted, hg]
  rw [if_pos hw]
  unfold Oper.wp
  simp [execOp, hop, resolve, invoke, builtin, hd, hx, hr, Result.andThen]
  exact hK

section
variable {w w' : World} {g : Nat} {t : TypeId}
theorem Blk.setRow (w : World) (g : Nat) (cs cs' : Array Value) (t : TypeId) (h : Blk w g t cs) : Blk (w.setRow g cs') g t cs' := setRow_heap w g cs cs' t (0, 0) h
theorem Keeps.setRow (w : World) (g : Nat) (cs : Array Value) : Keeps (fun i => i = g) w (w.setRow g cs) := ⟨rfl, rfl, rfl, by simp [World.setRow], fun i _ hn => setRow_other w g i cs (fun e => hn e)⟩
theorem Blk.shape {w : World} {g : Nat} {t : TypeId} {cs : Array Value} (h : Blk w g t cs) : w.shape? g = some (t, cs.size) := by
  unfold Blk at h
  simp [World.shape?, h]
theorem keeps_of_grownBy {row : Option Nat} (h : w.grownBy w' row) : Keeps (fun i => row = some i) w w' := ⟨h.os, h.tape, h.output, h.size, fun i hi hn => h.block i hi (fun e => hn e.symm)⟩
/-- the whole block of an own slice -/
theorem RowAt.whole {n c sz : Nat} {xs : List Value} (h : RowAt w (some ⟨g, 0, none⟩) n c t sz xs) : ∃ cur : List Value, Blk w g t cur.toArray ∧ n ≤ c ∧ c ≤ maxLen ∧ cur.length = c * sz ∧ cur.take (n * sz) = xs := by
  rcases h.2 with ⟨h1, _⟩ | ⟨g', cap, cur, hv, h1, h2, h3, h4, h5, h6⟩
  · cases h1
  · cases hv
    exact ⟨cur.toList, by simpa [Blk] using h2, h3, h4, by simpa using h5, h6⟩
theorem RowAt.of_whole {n c sz : Nat} {cur : List Value} (hb : Blk w g t cur.toArray) (hn : n ≤ c) (hc : c ≤ maxLen) (hl : cur.length = c * sz) : RowAt w (some ⟨g, 0, none⟩) n c t sz (cur.take (n * sz)) := by
  have : n * sz ≤ c * sz := Nat.mul_le_mul_right _ hn
  exact ⟨by rw [List.length_take]; omega, .inr ⟨g, c, cur.toArray, rfl, Nat.zero_le _, hb, hn, hc, by simpa using hl, by simp⟩⟩
end
/-- two splices that make room in place -/
theorem splice_shift (cur X V : List Value) (i n k : Nat) (hi : i ≤ n) (hX : cur.take (n * k) = X) (hV : V.length = k) (hl : (n + 1) * k ≤ cur.length) :
    (splice (splice cur ((i + 1) * k) (X.drop (i * k))) (i * k) V).take ((n + 1) * k) = X.take (i * k) ++ V ++ X.drop (i * k) := by
  have h1 : i * k ≤ n * k := Nat.mul_le_mul_right _ hi
  have e1 : (i + 1) * k = i * k + k := Nat.succ_mul _ _
  have e2 : (n + 1) * k = n * k + k := Nat.succ_mul _ _
  rw [e1, e2]
  rw [e2] at hl
  generalize i * k = a at *
  generalize n * k = b at *
  have hXl : X.length = b := by rw [← hX, List.length_take]; omega
  have hd : (X.drop a).length = b - a := by rw [List.length_drop, hXl]
  have hta : X.take a = cur.take a := by rw [← hX, List.take_take, Nat.min_eq_left h1]
  unfold splice
  rw [hV, hd, show a + k + (b - a) = b + k by omega]
  have s1 : (cur.take (a + k) ++ (X.drop a ++ cur.drop (b + k))).take a = cur.take a := by
    rw [List.take_append_of_le_length (by rw [List.length_take]; omega), List.take_take, Nat.min_eq_left (by omega)]
  have s2 : (cur.take (a + k) ++ (X.drop a ++ cur.drop (b + k))).drop (a + k) = X.drop a ++ cur.drop (b + k) := by
    rw [List.drop_append, List.drop_eq_nil_of_le (by rw [List.length_take]; omega), List.length_take, show a + k - min (a + k) cur.length = 0 by omega]; rfl
  rw [s1, s2, ← hta]
  have hla : (X.take a).length = a := by rw [List.length_take]; omega
  rw [show X.take a ++ (V ++ (X.drop a ++ cur.drop (b + k))) = (X.take a ++ V ++ X.drop a) ++ cur.drop (b + k) by simp]
  rw [List.take_append_of_le_length (by simp only [List.length_append, hla, hV, hd]; omega), List.take_of_length_le (by simp only [List.length_append, hla, hV, hd]; omega)]
/-- two splices into a new block -/
theorem splice_grow (cur X V : List Value) (i n k : Nat) (hi : i ≤ n) (hXl : X.length = n * k) (hX : cur.take (i * k) = X.take (i * k)) (hV : V.length = k) (hl : (n + 1) * k ≤ cur.length) :
    (splice (splice cur (i * k) V) ((i + 1) * k) (X.drop (i * k))).take ((n + 1) * k) = X.take (i * k) ++ V ++ X.drop (i * k) := by
  have h1 : i * k ≤ n * k := Nat.mul_le_mul_right _ hi
  have e1 : (i + 1) * k = i * k + k := Nat.succ_mul _ _
  have e2 : (n + 1) * k = n * k + k := Nat.succ_mul _ _
  rw [e1, e2]
  rw [e2] at hl
  generalize i * k = a at *
  generalize n * k = b at *
  have hd : (X.drop a).length = b - a := by rw [List.length_drop, hXl]
  have hla : (X.take a).length = a := by rw [List.length_take]; omega
  unfold splice
  rw [hV, hd, hX, show a + k + (b - a) = b + k by omega]
  have s1 : (X.take a ++ (V ++ cur.drop (a + k))).take (a + k) = X.take a ++ V := by
    rw [← List.append_assoc, List.take_append_of_le_length (by simp only [List.length_append, hla, hV]; omega), List.take_of_length_le (by simp only [List.length_append, hla, hV]; omega)]
  have hlen : (X.take a ++ (V ++ cur.drop (a + k))).length = cur.length := by simp only [List.length_append, hla, hV, List.length_drop]; omega
  rw [s1]
  rw [show X.take a ++ V ++ (X.drop a ++ (X.take a ++ (V ++ cur.drop (a + k))).drop (b + k)) = (X.take a ++ V ++ X.drop a) ++ (X.take a ++ (V ++ cur.drop (a + k))).drop (b + k) by simp]
  rw [List.take_append_of_le_length (by simp only [List.length_append, hla, hV, hd]; omega), List.take_of_length_le (by simp only [List.length_append, hla, hV, hd]; omega)]
theorem flat_insert {α : Type} {enc : α → List Value} {k : Nat} (hk : ∀ x, (enc x).length = k) (xs : List α) (y : α) (i : Nat) : (flat enc xs).take (i * k) ++ enc y ++ (flat enc xs).drop (i * k) = flat enc (xs.take i ++ y :: xs.drop i) := by
  rw [flat_take hk, flat_append, flat_cons]
  have : (flat enc xs).drop (i * k) = flat enc (xs.drop i) := by
    have h := flat_append enc (xs.take i) (xs.drop i)
    rw [List.take_append_drop] at h
    by_cases hi : i ≤ xs.length
    · rw [h, List.drop_append_of_le_length (by rw [flat_length hk, List.length_take]; exact Nat.mul_le_mul_right _ (by omega)), List.drop_eq_nil_of_le (by rw [flat_length hk, List.length_take]; exact Nat.mul_le_mul_right _ (by omega))]; rfl
    · rw [List.drop_eq_nil_of_le (show xs.length ≤ i by omega), List.drop_eq_nil_of_le (by rw [flat_length hk]; exact Nat.mul_le_mul_right _ (by omega))]; rfl
  rw [this, List.append_assoc]
theorem setsFrom_splice (vs : List Value) : ∀ (l : List Value) (p : Nat), p + vs.length ≤ l.length → setsFrom l p vs = splice l p vs := by
  induction vs with
  | nil => intro l p h; simp [setsFrom, splice]
  | cons v vs ih =>
    intro l p h
    rw [List.length_cons] at h
    rw [setsFrom, ih _ _ (by rw [List.length_set]; omega)]
    unfold splice
    rw [List.length_cons, show p + 1 + vs.length = p + (vs.length + 1) by omega, List.drop_set_of_lt (by omega)]
    rw [List.take_succ_eq_append_getElem (by rw [List.length_set]; omega), List.getElem_set_self, List.take_set_of_le (Nat.le_refl _)]
    simp
theorem RowAt.sets {t : TypeId} {g n c sz : Nat} (vs : List Value) : ∀ (w : World) (xs : List Value) (p : Nat), RowAt w (some ⟨g, 0, none⟩) n c t sz xs → RowAt (w.setCells g p vs) (some ⟨g, 0, none⟩) n c t sz (setsFrom xs p vs) := by
  induction vs with
  | nil => intro w xs p h; exact h
  | cons v vs ih => intro w xs p h; exact ih _ _ _ (h.set p v)
/-- what lies behind a gap moved over it -/
theorem splice_close (X : List Value) (a b : Nat) (h1 : a ≤ b) (h2 : b ≤ X.length) : (splice X a (X.drop b)).take (a + (X.length - b)) = X.take a ++ X.drop b := by
  unfold splice
  rw [List.length_drop, ← List.append_assoc]
  rw [List.take_append_of_le_length (by simp; omega), List.take_of_length_le (by simp; omega)]
theorem flat_close {α : Type} {enc : α → List Value} {k : Nat} (hk : ∀ x, (enc x).length = k) (xs : List α) (i j : Nat) (hj : j ≤ xs.length) : (flat enc xs).take (i * k) ++ (flat enc xs).drop (j * k) = flat enc (xs.take i ++ xs.drop j) := by
  rw [flat_take hk, flat_append]
  have : (flat enc xs).drop (j * k) = flat enc (xs.drop j) := by
    have h := flat_append enc (xs.take j) (xs.drop j)
    rw [List.take_append_drop] at h
    rw [h, List.drop_append_of_le_length (by rw [flat_length hk, List.length_take]; exact Nat.mul_le_mul_right _ (by omega)), List.drop_eq_nil_of_le (by rw [flat_length hk, List.length_take]; exact Nat.mul_le_mul_right _ (by omega))]; rfl
  rw [this]
end Go.Proofs.YtkcgchpbjegneaaGreatDoor
