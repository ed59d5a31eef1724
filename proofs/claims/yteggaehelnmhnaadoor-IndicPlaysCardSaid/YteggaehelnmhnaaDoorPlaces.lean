/-
  A map keyed by places (structs of three ints) to ints, told as a function: how a look-up, an entry and its store, a delete, and a range run. No walk.
-/
import Derived.WalkKit
import Derived.Maps.OwnSet
import Derived.Maps.RangeWalk
import Derived.WideKeyEntry
import Derived.DeepKeys4
import Derived.Test.YteggaehelnmhnaaDoorMem
namespace Go.Proofs.YteggaehelnmhnaaDoor
open Go.RowKit Go.Maps Go.ChangeMaps
set_option linter.unusedVariables false
set_option linter.unusedSimpArgs false

theorem pl_laid : laidOutB Tryd.prog = true := by kernel_rfl
theorem pl_row : (32 : TypeId) < Tryd.prog.types.size := of_decide_eq_true (by kernel_rfl)
theorem pl_wide : (match Tryd.prog.underlying 32 with | some (.array _ _) | some (.struct _) => true | _ => false) = true := by kernel_rfl
set_option maxRecDepth 100000 in
theorem pl_key : WideMaps.KeyLaw Tryd.prog 32 := deep_law_laid pl_laid (m := 3) (by omega) pl_row (by kernel_rfl) pl_wide
theorem pl_law : Keyed Tryd.prog 32 := Keyed.of_law pl_key
theorem pl_zero (w : World) : (zeroValue 3).run Tryd.prog w = .ok (.int .i64 0) w := by kernel_rfl
theorem pl_size : Tryd.prog.types.size = (174 - 1) + 1 := by kernel_rfl
theorem pl_keyT : Tryd.prog.keyType 32 = true := by kernel_rfl
theorem pl_cells : Tryd.prog.cellsOf 32 = 3 := by kernel_rfl
theorem pl_cellsI : Tryd.prog.cellsOf 3 = 1 := by kernel_rfl

def FitT (x : Tri) : Prop := (Lit.int .i64 x.1).wf = true ∧ (Lit.int .i64 x.2.1).wf = true ∧ (Lit.int .i64 x.2.2).wf = true
theorem FitT.of {x : Tri} (h1 : -9223372036854775808 ≤ x.1 ∧ x.1 ≤ 9223372036854775807) (h2 : -9223372036854775808 ≤ x.2.1 ∧ x.2.1 ≤ 9223372036854775807) (h3 : -9223372036854775808 ≤ x.2.2 ∧ x.2.2 ≤ 9223372036854775807) : FitT x :=
  ⟨WalkArith.wf_i64 (by omega), WalkArith.wf_i64 (by omega), WalkArith.wf_i64 (by omega)⟩
theorem pl_more : ∃ m, Tryd.prog.types.size = m + 1 := ⟨174 - 1, pl_size⟩
theorem pl_one (m : Nat) {x : Int} (h : (Lit.int .i64 x).wf = true) : Tryd.prog.keyLits (m + 1) 3 [.int .i64 x] = some [.int .i64 x] := by
  simp [Program.keyLits, Tryd.underlying3, h]
theorem pl_one_inv (m : Nat) {v : Value} {L : List Lit} (h : Tryd.prog.keyLits (m + 1) 3 [v] = some L) : ∃ x, v = .int .i64 x ∧ (Lit.int .i64 x).wf = true := by
  unfold Program.keyLits at h
  simp only [Tryd.underlying3] at h
  cases v
  case int q n =>
    simp only at h
    split at h
    · rename_i hq
      exact ⟨n, by rw [hq.1], hq.2⟩
    · cases h
  all_goals cases h
theorem pl_lits {a b c : Int} (m : Nat) (h : FitT (a, b, c)) : Tryd.prog.keyLits (m + 2) 32 [.int .i64 a, .int .i64 b, .int .i64 c] = some [.int .i64 a, .int .i64 b, .int .i64 c] := by
  have h1 := pl_one m h.1
  have h2 := pl_one m h.2.1
  have h3 := pl_one m h.2.2
  dsimp only at h1 h2 h3
  unfold Program.keyLits
  simp only [Tryd.underlying32, pl_cells]
  simp [pl_cellsI, h1, h2, h3]
theorem len_three {α : Type} {l : List α} (h : l.length = 3) : ∃ a b c, l = [a, b, c] := by
  match l, h with
  | [a, b, c], _ => exact ⟨a, b, c, rfl⟩
theorem pl_lits_inv (m : Nat) {cs : List Value} {L : List Lit} (h : Tryd.prog.keyLits (m + 2) 32 cs = some L) : ∃ a b c, cs = [.int .i64 a, .int .i64 b, .int .i64 c] ∧ FitT (a, b, c) := by
  unfold Program.keyLits at h
  simp only [Tryd.underlying32, pl_cells] at h
  split at h
  · rename_i hl
    obtain ⟨hl, -⟩ := hl
    obtain ⟨u, v, z, rfl⟩ := len_three hl
    simp [pl_cellsI] at h
    generalize h1 : Tryd.prog.keyLits (m + 1) 3 [u] = U at h
    generalize h2 : Tryd.prog.keyLits (m + 1) 3 [v] = V at h
    generalize h3 : Tryd.prog.keyLits (m + 1) 3 [z] = Z at h
    cases U with
    | none => cases h
    | some U =>
      cases V with
      | none => cases h
      | some V =>
        cases Z with
        | none => cases h
        | some Z =>
          obtain ⟨a, rfl, ha⟩ := pl_one_inv m h1
          obtain ⟨b, rfl, hb⟩ := pl_one_inv m h2
          obtain ⟨c, rfl, hc⟩ := pl_one_inv m h3
          exact ⟨a, b, c, rfl, ha, hb, hc⟩
  · cases h
theorem pl_of {x : Tri} (h : FitT x) : ∃ kl, keyOf Tryd.prog 32 (aggT x) = some kl := by
  obtain ⟨a, b, c⟩ := x
  unfold keyOf
  obtain ⟨m, hm⟩ := pl_more
  rw [hm]
  simp only [Tryd.underlying32, pl_keyT, Value.formed, pl_cells, aggT, Value.cells]
  have := pl_lits m h
  simp [this]
theorem pl_inv {v : Value} {kl : Lit} (h : keyOf Tryd.prog 32 v = some kl) : ∃ x, v = aggT x ∧ FitT x := by
  obtain ⟨xs, L, rfl, hL, -⟩ := keyOf_top (P := Tryd.prog) (k := 32) (by rw [Tryd.underlying32]) h
  obtain ⟨m, hm⟩ := pl_more
  rw [hm] at hL
  obtain ⟨a, b, c, e, hf⟩ := pl_lits_inv m hL
  refine ⟨(a, b, c), ?_, hf⟩
  obtain ⟨l⟩ := xs
  have e : l = [.int .i64 a, .int .i64 b, .int .i64 c] := e
  subst e
  rfl

abbrev PlD := DataW Unit
/-- what a map's datum says, as a function -/
def Says (D : PlD) (f : Tri → Option Int) : Prop := ∀ x kl, keyOf Tryd.prog 32 (aggT x) = some kl → Maps.has D kl = (f x).isSome ∧ ∀ v, f x = some v → ∀ zd, D.atKey kl zd = .lit (.int .i64 v)
/-- block b is a map of at most n places that holds f -/
def PMap (w : World) (b n : Nat) (f : Tri → Option Int) : Prop := ∃ D : PlD, w.ownsMap Tryd.prog 32 (plainElem Tryd.prog 3) b n D ∧ Says D f
def updT (f : Tri → Option Int) (x : Tri) (v : Option Int) : Tri → Option Int := fun y => if y = x then v else f y
theorem aggT_inj {x y : Tri} (h : aggT x = aggT y) : x = y := by
  obtain ⟨a, b, c⟩ := x
  obtain ⟨a', b', c'⟩ := y
  unfold aggT at h
  simp at h
  obtain ⟨rfl, rfl, rfl⟩ := h
  rfl
theorem pl_other {x y : Tri} {kx ky : Lit} (hx : keyOf Tryd.prog 32 (aggT x) = some kx) (hy : keyOf Tryd.prog 32 (aggT y) = some ky) (h : y ≠ x) : ky ≠ kx := fun e => h (aggT_inj (pl_law.inj hy (by rw [e]; exact hx)))
section
variable {w w' : World} {b n : Nat} {f : Tri → Option Int}
theorem PMap.made (w : World) : PMap (w.alloc (.map #[] 0)) w.heap.size 0 (fun _ => none) := ⟨.map [], World.ownsMap_made _ _ _ _, fun x kl h => ⟨rfl, fun v h => by cases h⟩⟩
theorem PMap.lt (h : PMap w b n f) : b < w.heap.size := by obtain ⟨D, h, -⟩ := h; exact h.lt
theorem PMap.of_block (h : PMap w b n f) (hb : w'.heap[b]? = w.heap[b]?) : PMap w' b n f := by
  obtain ⟨D, ⟨es, clock, h1, h2⟩, h3⟩ := h
  exact ⟨D, ⟨es, clock, hb.trans h1, h2⟩, h3⟩
theorem PMap.keeps {S : Nat → Prop} (h : PMap w b n f) (hk : Keeps S w w') (hn : ¬ S b) : PMap w' b n f := h.of_block (hk.block b h.lt hn)
theorem PMap.below (h : PMap w b n f) (hb : Below w.heap.size w w') : PMap w' b n f := h.of_block (hb.block b h.lt)
theorem PMap.more {n' : Nat} (h : PMap w b n f) (hn : n ≤ n') : PMap w b n' f := by
  obtain ⟨D, h1, h3⟩ := h
  exact ⟨D, h1.mono hn, h3⟩
theorem PMap.congr {f' : Tri → Option Int} (h : PMap w b n f) (e : ∀ x, FitT x → f x = f' x) : PMap w b n f' := by
  obtain ⟨D, h1, h3⟩ := h
  refine ⟨D, h1, fun x kl hk => ?_⟩
  obtain ⟨y, hy, hf⟩ := pl_inv hk
  have e2 := aggT_inj hy
  subst e2
  rw [← e x hf]
  exact h3 x kl hk
theorem PMap.look (h : PMap w b n f) {x : Tri} (hx : FitT x) : (Instr.lookup 26 (.map (some b)) (aggT x) false).run Tryd.prog w = .ok (.int .i64 ((f x).getD 0)) w := by
  obtain ⟨D, h1, h3⟩ := h
  obtain ⟨kl, hk⟩ := pl_of hx
  obtain ⟨c, hrun, hat, -⟩ := h1.lookup_int pl_law Tryd.underlying26 Tryd.underlying3 (pl_zero w) hk
  rw [hrun]
  obtain ⟨ha, hb⟩ := h3 x kl hk
  cases hf : f x with
  | none =>
    rw [hf] at ha
    rw [atKey_of_not_has ha] at hat
    cases hat
    rfl
  | some v =>
    rw [hb v hf] at hat
    cases hat
    rfl
theorem Says.put {D : PlD} (h : Says D f) (hD : IsMap D) {x : Tri} {kl : Lit} (hk : keyOf Tryd.prog 32 (aggT x) = some kl) (v : Int) : Says (D.put kl (.lit (.int .i64 v))) (updT f x (some v)) := by
  intro y ky hy
  unfold updT
  by_cases e : y = x
  · subst e
    rw [hk] at hy
    cases hy
    rw [if_pos rfl]
    exact ⟨by rw [has_put_same hD (pl_law.key hk)]; rfl, fun u hu zd => by cases hu; exact atKey_put_same hD (pl_law.key hk) _ _⟩
  · rw [if_neg e]
    have hne := pl_other hk hy e
    rw [has_put_other hne]
    refine ⟨(h y ky hy).1, fun u hu zd => ?_⟩
    rw [atKey_put_other hne]
    exact (h y ky hy).2 u hu zd
theorem Says.del {D : PlD} (h : Says D f) {x : Tri} {kl : Lit} (hk : keyOf Tryd.prog 32 (aggT x) = some kl) : Says (D.del kl) (updT f x none) := by
  intro y ky hy
  unfold updT
  by_cases e : y = x
  · subst e
    rw [hk] at hy
    cases hy
    rw [if_pos rfl]
    exact ⟨has_del_same, fun u hu zd => by cases hu⟩
  · rw [if_neg e]
    have hne := pl_other hk hy e
    rw [has_del_other hne]
    refine ⟨(h y ky hy).1, fun u hu zd => ?_⟩
    rw [atKey_del_other hne]
    exact (h y ky hy).2 u hu zd
theorem tuple_fst {a b c d : Value} (h : Value.tuple #[a, b] = .tuple #[c, d]) : a = c := by
  have h2 := Value.tuple.inj h
  have h3 := congrArg (fun x : Array Value => x[0]?) h2
  exact Option.some.inj h3
/-- an entry is asked for, and written later -/
theorem PMap.entry (h : PMap w b n f) (hn : n < 1000000) {x : Tri} (hx : FitT x) : ∃ (st : Nat) (w1 : World), (Instr.mapEntry 26 (.map (some b)) (aggT x)).run Tryd.prog w = .ok (.tuple #[.int .i64 ((f x).getD 0), goInt st]) w1 ∧ PMap w1 b (n + 1) (updT f x (some ((f x).getD 0))) ∧ Keeps (fun i => i = b) w w1 ∧
    ∀ (w2 : World) (v : Int), w2.heap[b]? = w1.heap[b]? → (Lit.int .i64 v).wf = true → ∃ w3, (Instr.entryStore 26 (.map (some b)) (goInt st) (.int .i64 v)).run Tryd.prog w2 = .ok () w3 ∧ PMap w3 b (n + 1) (updT f x (some v)) ∧ Keeps (fun i => i = b) w2 w3 := by
  obtain ⟨D, ⟨es, clock, hb, F, hs, rfl⟩, h3⟩ := h
  obtain ⟨kl, hk⟩ := pl_of hx
  have ht := Tryd.underlying26
  have he := Tryd.underlying3
  obtain ⟨v0, st, es1, clock1, hrun, hv0, hst⟩ := Go.WideElems.entry_then_store pl_key ht pl_zero hb F hk
  have hown : w.ownsMap Tryd.prog 32 (plainElem Tryd.prog 3) b n (.map ((es.toList.map (Go.WideElems.rg Tryd.prog 32 (plainElem (H := Unit) Tryd.prog 3))).foldr DataW.insert [])) := ⟨es, clock, hb, F, hs, rfl⟩
  have hpm : PMap w b n f := ⟨_, hown, h3⟩
  have hlook := hpm.look hx
  obtain ⟨v, hv⟩ : ∃ v, (f x).getD 0 = v := ⟨_, rfl⟩
  rw [hv] at hlook
  have hnm : n < maxLen := by unfold maxLen; omega
  have hput : ∀ u : Int, (Lit.int .i64 u).wf = true → ∃ w', (Instr.mapUpdate 26 (.map (some b)) (aggT x) (.int .i64 u)).run Tryd.prog w = .ok () w' ∧ PMap w' b (n + 1) (updT f x (some u)) := fun u hu => by
    obtain ⟨w', h1, h2, -⟩ := hown.store pl_law ht hnm hk (plainElem_int he hu)
    exact ⟨w', h1, _, h2, h3.put hown.isMap hk u⟩
  have hkeep : ∀ (w : World) o, Keeps (fun i => i = b) w (setBlock w b o) := fun w o => ⟨rfl, rfl, rfl, by simp [setBlock], fun i _ hi => by simp only [setBlock]; rw [Array.getElem?_setIfInBounds_ne (fun e => hi e.symm)]⟩
  have hone : v0 = .int .i64 v ∧ (Lit.int .i64 v).wf = true ∧ (Instr.mapUpdate 26 (.map (some b)) (aggT x) (.int .i64 v)).run Tryd.prog w = .ok () (setBlock w b (.map es1 clock1)) := by
    rcases pl_key.find w hk es.toList F.keys with ⟨h1, h2⟩ | ⟨j, e0, h1, h2, h4⟩
    · have hl2 : (Instr.lookup 26 (.map (some b)) (aggT x) false).run Tryd.prog w = .ok (.int .i64 0) w := by
        simp [Instr.lookup, run_underlying ht, MapKept.run_getObj_map hb, pl_key.check w _ hk, h1, pl_zero, Result.andThen]
      rw [hlook] at hl2
      injection hl2 with hl2
      injection hl2 with _ hl2
      subst hl2
      have hre : (Instr.mapEntry 26 (.map (some b)) (aggT x)).run Tryd.prog w = .ok (.tuple #[.int .i64 0, goInt clock]) (setBlock w b (.map (es.push ⟨aggT x, .int .i64 0, clock⟩) (clock + 1))) := by
        simp [Instr.mapEntry, run_underlying ht, MapKept.run_getObj_map hb, pl_key.check w false hk, h1, pl_zero, MapKept.run_setObj_map _ hb, Result.andThen, setBlock]
      rw [hre] at hrun
      injection hrun with hr1 hr2
      rw [← hr2]
      refine ⟨?_, WalkArith.wf_i64 (by omega), ?_⟩
      · exact (tuple_fst hr1).symm
      · simp [Instr.mapUpdate, run_underlying ht, MapKept.run_getObj_map hb, pl_key.check w false hk, h1, MapKept.run_setObj_map _ hb, Result.andThen, setBlock]
    · have hj : es[j]? = some e0 := by simpa using h2
      have hl2 : (Instr.lookup 26 (.map (some b)) (aggT x) false).run Tryd.prog w = .ok e0.val w := by
        simp [Instr.lookup, run_underlying ht, MapKept.run_getObj_map hb, pl_key.check w _ hk, h1, pl_zero, Result.andThen]
      rw [hlook] at hl2
      injection hl2 with hl2
      have hsame : es.modify j (fun e => { e with key := aggT x }) = es := by
        apply Array.ext'
        rw [Array.toList_modify, modify_eq_set _ _ _ _ h2]
        have : ({ e0 with key := aggT x } : MapEntry) = e0 := by rw [← h4]
        rw [this]
        exact Go.WideElems.set_self _ _ _ h2
      have hsame2 : es.modify j (fun e => { e with key := aggT x, val := .int .i64 v }) = es := by
        apply Array.ext'
        rw [Array.toList_modify, modify_eq_set _ _ _ _ h2]
        have : ({ e0 with key := aggT x, val := .int .i64 v } : MapEntry) = e0 := by rw [← h4, hl2]
        rw [this]
        exact Go.WideElems.set_self _ _ _ h2
      have hre : (Instr.mapEntry 26 (.map (some b)) (aggT x)).run Tryd.prog w = .ok (.tuple #[e0.val, goInt e0.born]) (setBlock w b (.map es clock)) := by
        simp [Instr.mapEntry, run_underlying ht, MapKept.run_getObj_map hb, pl_key.check w false hk, h1, hj, h4, pl_key.stays w hk, hsame, MapKept.run_setObj_map _ hb, Result.andThen, setBlock]
      rw [hre] at hrun
      injection hrun with hr1 hr2
      rw [← hr2]
      refine ⟨?_, ?_, ?_⟩
      · rw [← tuple_fst hr1]; exact hl2.symm
      · obtain ⟨y, hy⟩ := F.reads e0 (List.mem_of_getElem? h2)
        obtain ⟨z, hz, -⟩ := Go.WideElems.rd_val hy
        rw [← hl2] at hz
        obtain ⟨u, hu, -, hwf⟩ := plainElem_int_inv he hz
        cases hu
        exact hwf
      · simp [Instr.mapUpdate, run_underlying ht, MapKept.run_getObj_map hb, pl_key.check w false hk, h1, hj, h4, pl_key.stays w hk, hsame2, MapKept.run_setObj_map _ hb, Result.andThen, setBlock]
  obtain ⟨rfl, hwf, hmu⟩ := hone
  obtain ⟨w', h1, h2⟩ := hput v hwf
  rw [hmu] at h1
  injection h1 with _ h1
  subst h1
  rw [hv]
  refine ⟨st, _, hrun, h2, hkeep _ _, fun w2 u hw2 hu => ?_⟩
  obtain ⟨es', clock', hes, hmu2⟩ := hst w2 (.int .i64 u) (by rw [hw2]; exact heap_setBlock_same hb _)
  obtain ⟨w', h3, h4⟩ := hput u hu
  rw [hmu2] at h3
  injection h3 with _ h3
  subst h3
  exact ⟨_, hes, h4.of_block (by rw [heap_setBlock_same hb, heap_setBlock_same (by rw [hw2]; exact heap_setBlock_same hb _)]), hkeep _ _⟩
theorem PMap.delete (h : PMap w b n f) {x : Tri} (hx : FitT x) : ∃ w1, (∀ ty, (Builtin.delete_ #[26, 32] ty #[.map (some b), aggT x]).run Tryd.prog w = .ok (.tuple #[]) w1) ∧ PMap w1 b n (updT f x none) ∧ Keeps (fun i => i = b) w w1 := by
  obtain ⟨D, h1, h3⟩ := h
  obtain ⟨kl, hk⟩ := pl_of hx
  have ht := Tryd.underlying26
  obtain ⟨w', hrun, hown, htn⟩ := h1.drop pl_law ht hk 0
  have hg := htn.grown
  exact ⟨w', fun ty => hrun, ⟨_, hown, h3.del hk⟩, ⟨hg.os, hg.tape, hg.output, hg.size, fun i hi hn => hg.block i hi (fun e => hn (Option.some.inj e))⟩⟩
/-- a range over the map, under way: which places are still to come -/
def PRange (w : World) (b r n : Nat) (f : Tri → Option Int) (left : Tri → Bool) (cnt : Nat) : Prop := ∃ (D : PlD) (L : Lit → Bool), w.ranges Tryd.prog 32 (plainElem Tryd.prog 3) b r n D L cnt ∧ Says D f ∧ ∀ x kl, keyOf Tryd.prog 32 (aggT x) = some kl → L kl = left x
theorem PMap.range (h : PMap w b n f) : ∃ w', (Instr.range 26 (.map (some b))).run Tryd.prog w = .ok (.pointer (some ⟨w.heap.size, 0, none⟩)) w' ∧ (∃ cnt, PRange w' b w.heap.size n f (fun x => (f x).isSome) cnt) ∧ Below w.heap.size w w' ∧ w'.heap.size = w.heap.size + 1 := by
  obtain ⟨D, h1, h3⟩ := h
  obtain ⟨w', hrun, hr, hg, hs⟩ := h1.range pl_law Tryd.underlying26
  exact ⟨w', hrun, ⟨_, D, _, hr, h3, fun x kl hk => (h3 x kl hk).1⟩, ⟨hg.os, hg.tape, hg.output, hg.size, fun i hi => hg.block i hi (by simp)⟩, hs⟩
section
variable {r cnt : Nat} {left : Tri → Bool}
theorem PRange.map_ (h : PRange w b r n f left cnt) : PMap w b n f := by
  obtain ⟨D, L, h1, h2, -⟩ := h
  exact ⟨D, h1.owns, h2⟩
theorem PRange.keeps {S : Nat → Prop} (h : PRange w b r n f left cnt) (hk : Keeps S w w') (hn : ¬ S b) (hr : ¬ S r) : PRange w' b r n f left cnt := by
  obtain ⟨D, L, h1, h2, h3⟩ := h
  have hb := h1.owns.lt
  have hrl := h1.lt
  have e1 := hk.block b hb hn
  have e2 := hk.block r hrl hr
  obtain ⟨es, clock, since, seen, c0, q1, q2, q3, q4, q5, q6⟩ := h1
  exact ⟨D, L, ⟨es, clock, since, seen, c0, e1.trans q1, q2, q3, q4, e2.trans q5, q6⟩, h2, h3⟩
theorem PRange.ne (h : PRange w b r n f left cnt) : r ≠ b := by obtain ⟨D, L, h1, -⟩ := h; exact h1.ne
theorem PRange.lt (h : PRange w b r n f left cnt) : r < w.heap.size := by obtain ⟨D, L, h1, -⟩ := h; exact h1.lt
theorem PRange.next (h : PRange w b r n f left cnt) :
    ((∀ x, FitT x → left x = false) ∧ ∀ ty, (Instr.next (.pointer (some ⟨r, 0, none⟩)) false ty).run Tryd.prog w = .ok (.tuple #[.bool false]) w) ∨
    ∃ (x : Tri) (c : Int) (w' : World) (cnt' : Nat), FitT x ∧ left x = true ∧ f x = some c ∧ (∀ ty, (Instr.next (.pointer (some ⟨r, 0, none⟩)) false ty).run Tryd.prog w = .ok (.tuple #[.bool true, aggT x, .int .i64 c]) w') ∧ PRange w' b r n f (fun z => left z && !(z == x)) cnt' ∧ cnt' < cnt ∧ Keeps (fun i => i = r) w w' ∧ w'.heap.size = w.heap.size ∧ (Instr.entry (.pointer (some ⟨r, 0, none⟩))).run Tryd.prog w' = .ok (.tuple #[aggT x, .int .i64 c]) w' := by
  obtain ⟨D, L, h1, h2, h3⟩ := h
  rcases h1.next pl_law 0 with ⟨h0, hl, hrun⟩ | ⟨key, v, kl, y, w', cnt', hkey, hlk, hv, hat, hrun, hrg, hlt, hgr, hsz, hen⟩
  · refine .inl ⟨fun x hx => ?_, fun ty => hrun⟩
    obtain ⟨kl, hk⟩ := pl_of hx
    rw [← h3 x kl hk]
    exact hl kl
  · obtain ⟨x, rfl, hx⟩ := pl_inv hkey
    obtain ⟨c, rfl, hyc, -⟩ := plainElem_int_inv Tryd.underlying3 hv
    have hfx : f x = some c := by
      have h4 := h2 x kl hkey
      have h5 : Maps.has D kl = true := has_true_of_atKey (y := y.1) hat
      rw [h5] at h4
      cases hf : f x with
      | none => rw [hf] at h4; cases h4.1
      | some u =>
        have h6 := h4.2 u hf (.lit (.int .i64 0))
        rw [hat, hyc] at h6
        cases h6
        rfl
    refine .inr ⟨x, c, w', cnt', hx, by rw [← h3 x kl hkey]; exact hlk, hfx, fun ty => hrun, ⟨D, _, hrg, h2, fun z kz hz => ?_⟩, hlt, ⟨hgr.os, hgr.tape, hgr.output, hgr.size, fun i hi hn => hgr.block i hi (fun e => hn (Option.some.inj e))⟩, hsz, hen⟩
    show (L kz && !kz.sameKey kl) = _
    rw [h3 z kz hz]
    by_cases e : z = x
    · subst e
      rw [hkey] at hz
      cases hz
      rw [WideAt.sameKey_self (pl_law.key hkey)]
      simp
    · rw [sameKey_ne (pl_other hkey hz e)]
      show _ = (left z && !(z == x))
      rw [beq_eq_false_iff_ne.2 e]
end
end
end Go.Proofs.YteggaehelnmhnaaDoor
