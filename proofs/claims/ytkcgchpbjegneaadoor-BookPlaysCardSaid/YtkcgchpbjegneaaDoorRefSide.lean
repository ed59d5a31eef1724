/-
  sort.SliceStable at a slice of orders, by a side's ranks, at whatever length; and the walk of openbellref.Side.
-/
import Derived.WalkKit
import Derived.WalkLawsBesides
import Derived.WalkSpells
import Derived.Deep.LoopGhost
import Derived.Deep.DeepCutAuto
import Derived.Deep.CutBlock
import Derived.Deep.AppendLies
import Derived.Deep.AppendSrc
import Derived.BigGuard
import Derived.Lib.ReflectliteSlice
import Derived.Lib.ReflectliteSwap
import Derived.Shelf.Abstract
import Derived.Laws.EntriesVeiled
import Derived.Test.YtkcgchpbjegneaaDoorStableFn
import Derived.Test.YtkcgchpbjegneaaDoorRefLess
import Derived.Test.YtkcgchpbjegneaaDoorCopyK
namespace Go.Proofs.YtkcgchpbjegneaaDoor
open Go.RowKit Go.Lib
set_option linter.unusedVariables false

theorem order_row : (Tryd.prog.info? 30).map (fun i => (i.hasPointers, i.bytes, i.size)) = some (false, 40, 5) := by kernel_rfl
theorem orders_row : (Tryd.prog.info? 26).map (fun i => i.desc) = some (.slice 30) := by kernel_rfl
theorem order_info_ : ∃ ie, Tryd.prog.info? 30 = some ie ∧ ie.hasPointers = false ∧ ie.bytes = 40 ∧ ie.size = 5 := by
  have h := order_row
  cases hi : Tryd.prog.info? 30 with
  | none => rw [hi] at h; cases h
  | some ie =>
    rw [hi] at h
    injection h with h
    injection h with h1 h2
    injection h2 with h2 h3
    exact ⟨ie, rfl, h1, h2, h3⟩
theorem orders_info_ : ∃ i, Tryd.prog.info? 26 = some i ∧ i.desc = .slice 30 := by
  have h := orders_row
  cases hi : Tryd.prog.info? 26 with
  | none => rw [hi] at h; cases h
  | some ie =>
    rw [hi] at h
    injection h with h
    exact ⟨ie, rfl, h⟩
theorem swap_at1 : Tryd.prog.funcs.findIdx? (·.name == "internal/reflectlite" ++ ".Swapper$" ++ toString 1) = some 62 := by kernel_rfl
theorem swap_at2 : Tryd.prog.funcs.findIdx? (·.name == "internal/reflectlite" ++ ".Swapper$" ++ toString 2) = some 63 := by kernel_rfl
theorem swap_at9 : Tryd.prog.funcs.findIdx? (·.name == "internal/reflectlite" ++ ".Swapper$" ++ toString 9) = some 70 := by kernel_rfl
def swapF (n : Nat) : Nat := if n = 0 then 62 else if n = 1 then 63 else 70
def swapB (P : Program) (p : Option Addr) (n c : Nat) : Array Value := if n ≤ 1 then #[] else #[.slice p n c, typeHandle P 30]
def sortW (p : Option Addr) (n c : Nat) (w : World) : World := (w.alloc (.cells #[.slice p n c] 26)).alloc (.cells #[.pointer (some ⟨1, 26, none⟩), .pointer (some ⟨w.heap.size, 0, none⟩), .int .u64 151] 127)

set_option maxHeartbeats 1000000 in
set_option maxRecDepth 100000 in
theorem sliceStable_of (p : Option Addr) (n c : Nat) (hn : n ≤ 1000000) (lf : Fn) (la lb : Array Value) (w : World) (R : World → Prop)
    (hp : Calls Tryd.prog 58 #[.agg #[.func lf la lb, .func (.func (swapF n)) #[] (swapB Tryd.prog p n c)], .int .i64 n] (sortW p n c w) fun e w' => e = .returned (.tuple #[]) ∧ R w') :
    Calls Tryd.prog 50 #[.iface 26 (.slice p n c), .func lf la lb] w fun e w' => e = .returned (.tuple #[]) ∧ R w' := by
  obtain ⟨ie, hie, q1, q2, q3⟩ := order_info_
  obtain ⟨i, hi, hd⟩ := orders_info_
  have hf : Tryd.prog.funcs.findIdx? (·.name == "internal/reflectlite" ++ ".Swapper$" ++ toString (swapperK n ie 25)) = some (swapF n) := by
    by_cases h0 : n = 0
    · subst h0
      have e : swapperK 0 ie 25 = 1 := by simp [swapperK]
      rw [e]
      unfold swapF
      rw [if_pos rfl]
      exact swap_at1
    · by_cases h1 : n = 1
      · subst h1
        have e : swapperK 1 ie 25 = 2 := by simp [swapperK]
        rw [e]
        unfold swapF
        rw [if_neg h0, if_pos rfl]
        exact swap_at2
      · have e : swapperK n ie 25 = 9 := by
          have c1 : (n == 0) = false := by simp; omega
          have c2 : (n == 1) = false := by simp; omega
          simp [swapperK, q1, q2, c1, c2]
        rw [e]
        unfold swapF
        rw [if_neg h0, if_neg h1]
        exact swap_at9
  have hb : (if swapperK n ie 25 ≤ 2 then (#[] : Array Value) else #[.slice p n c, typeHandle Tryd.prog 30]) = swapB Tryd.prog p n c := by
    unfold swapB
    by_cases h1 : n ≤ 1
    · have : swapperK n ie 25 ≤ 2 := by
        rcases (by omega : n = 0 ∨ n = 1) with rfl | rfl
        · simp [swapperK]
        · simp [swapperK]
      rw [if_pos h1, if_pos this]
    · have e : swapperK n ie 25 = 9 := by
        have c1 : (n == 0) = false := by simp; omega
        have c2 : (n == 1) = false := by simp; omega
        simp [swapperK, q1, q2, c1, c2]
      rw [if_neg h1, e, if_neg (by omega)]
  have hv := run_valueOf_slice (P := Tryd.prog) 26 30 i hi hd p n c w
  have hs := fun w => run_swapper_slice (P := Tryd.prog) 26 30 i ie hi hd hie 25 (fun _ => by kernel_rfl) p n c (swapF n) hf w
  have hl := fun a w ha => run_valueLen_slice (P := Tryd.prog) 26 30 i hi hd (by kernel_rfl) a p n c w ha
  unfold sortW at hp
  rw [hb] at hs
  generalize swapB Tryd.prog p n c = B at hs hp
  generalize swapF n = f at hs hp
  have hg : Tryd.prog.globals.size = 1 := by kernel_rfl
  simp only [typeHandle, hg] at hv hl
  have HP := hid hp
  clear hp hf hb hi hd hie q1 q2 q3
  go_enter Tryd.func50, Tryd.ntmps50
  go_wp2_with fail
  rw [run_callFunc_extern Tryd.func56 (by kernel_rfl) (by kernel_rfl) (by kernel_rfl) (e := fun args => Extern.ReflectliteValue.unpack (args.getD 0 (.tuple #[]))) (by kernel_rfl),
    show Sem.run Tryd.prog ((fun args : Array Value => Extern.ReflectliteValue.unpack (args.getD 0 (.tuple #[]))) #[.iface 26 (.slice p n c)]) w = _ from hv]
  simp only [Result.andThen]
  rw [Oper.upon_value]
  go_wp2_with fail
  rw [run_callFunc_extern Tryd.func57 (by kernel_rfl) (by kernel_rfl) (by kernel_rfl) (e := Extern.ReflectliteSwapper.swapper "internal/reflectlite" (Extern.ReflectliteValue.valueError "Swapper")) (by kernel_rfl), hs]
  simp only [Result.andThen]
  rw [Oper.upon_value]
  go_wp2_with fail
  rw [run_callFunc_extern Tryd.func59 (by kernel_rfl) (by kernel_rfl) (by kernel_rfl) (e := Extern.ReflectliteValue.method (Extern.ReflectliteValue.valueError "reflectlite.Value.Len" 0) Extern.ReflectliteValue.len) (by kernel_rfl),
    hl _ _ (by simp)]
  simp only [Result.andThen]
  rw [Oper.upon_value]
  go_wp2_with fail
  refine HP.out.mono ?_
  rintro e w' ⟨rfl, hR⟩
  go_wp2_with fail
  go_end0
  exact ⟨rfl, hR⟩

/-! ### what the sort asks, at orders -/
/-- the row, and what the comparison reads -/
structure SideSt (w0 : World) (bs bo br g c : Nat) (side : Int) (n : Nat) (W : World) (l : List Ord5) : Prop where
  row : RowAt W (some ⟨g, 0, none⟩) n c 30 5 (flat encO l)
  len : l.length = n
  price : ∀ o ∈ l, -1000000000 ≤ o.price ∧ o.price ≤ 1000000000
  cbo : W.cell? ⟨bo, 0, none⟩ = some (.slice (some ⟨g, 0, none⟩) n c)
  cbr : W.cell? ⟨br, 0, none⟩ = some (.func (.func 49) #[] #[.pointer (some ⟨bs, 0, none⟩)])
  cbs : W.cell? ⟨bs, 0, none⟩ = some (.int .i64 side)
  ne : bo ≠ g ∧ br ≠ g ∧ bs ≠ g
  keep : Keeps (fun k => k = g) w0 W
section
variable {w0 W W' : World} {bs bo br g c n : Nat} {side : Int} {l : List Ord5}
theorem SideSt.lt (h : SideSt w0 bs bo br g c side n W l) : g < W.heap.size := h.row.lt rfl
theorem SideSt.below (h : SideSt w0 bs bo br g c side n W l) (hb : Below W.heap.size W W') : SideSt w0 bs bo br g c side n W' l :=
  ⟨h.row.below hb, h.len, h.price, (hb.cell (World.block_lt_of_cell? W _ h.cbo)).trans h.cbo, (hb.cell (World.block_lt_of_cell? W _ h.cbr)).trans h.cbr, (hb.cell (World.block_lt_of_cell? W _ h.cbs)).trans h.cbs, h.ne, h.keep.then_ hb⟩
theorem SideSt.put (h : SideSt w0 bs bo br g c side n W l) {l' : List Ord5} (hl : l'.length = n) (hp : ∀ o ∈ l', o ∈ l) (hr : RowAt W' (some ⟨g, 0, none⟩) n c 30 5 (flat encO l')) (hk : Keeps (fun k => k = g) W W') : SideSt w0 bs bo br g c side n W' l' :=
  ⟨hr, hl, fun o ho => h.price o (hp o ho), (hk.cell (World.block_lt_of_cell? W _ h.cbo) h.ne.1).trans h.cbo, (hk.cell (World.block_lt_of_cell? W _ h.cbr) h.ne.2.1).trans h.cbr, (hk.cell (World.block_lt_of_cell? W _ h.cbs) h.ne.2.2).trans h.cbs, h.ne, h.keep.trans hk (fun i e => .inl e)⟩
theorem mem_swapL {α : Type} {l : List α} {i j : Nat} {x : α} (h : x ∈ swapL l i j) : x ∈ l := by
  unfold swapL at h
  split at h
  · rename_i a b h1 h2
    rcases List.mem_or_eq_of_mem_set h with h | rfl
    · rcases List.mem_or_eq_of_mem_set h with h | rfl
      · exact h
      · exact List.mem_of_getElem? h2
    · exact List.mem_of_getElem? h1
  · exact h
theorem sideEnv (h2 : 2 ≤ n) : SortEnv 51 #[.pointer (some ⟨br, 0, none⟩), .pointer (some ⟨bo, 0, none⟩)] (swapF n) (swapB Tryd.prog (some ⟨g, 0, none⟩) n c) g n (rankO side) (SideSt w0 bs bo br g c side n) where
  eg := Go.Proofs.enters_of Tryd.func51 (by kernel_rfl) rfl
  less := fun W l i j h hl hi hj hij => by
    obtain ⟨x0, x1, x2, x3, x4⟩ := ord_own h.row hi
    obtain ⟨y0, y1, y2, y3, y4⟩ := ord_own h.row hj
    have hx := h.price _ (List.getElem_mem hi)
    have hy := h.price _ (List.getElem_mem hj)
    have hc := less_any bs bo br g n c i j side l[i] l[j] W ⟨h.cbs, h.cbo, h.cbr, x0, x1, x2, x3, x4, y0, y1, y2, y3, y4, Below.refl _ _⟩ (by omega) (by omega) hx.1 hx.2 hy.1 hy.2
    exact hc.mono fun e w' ⟨h1, h2⟩ => ⟨h1, h.below h2, Keeps.of_below h2 _⟩
  swap := fun W l i j h hl hi hj hij => by
    obtain ⟨ie, hie, q1, q2, q3⟩ := order_info_
    have hi' : i < l.length := by omega
    have hj' : j < l.length := by omega
    have cc : ∀ x, (hx : x < l.length) → ∀ u v, (encO l[x])[u]? = some v → W.cell? ⟨g, 0 + x * ie.size + u, none⟩ = some v := fun x hx u v hv => by
      obtain ⟨g', hg, hcell⟩ := h.row.elem encO_length (by omega) hx
      cases hg
      rw [q3, Nat.zero_add]
      exact hcell u v hv
    have hsw := run_swap_cells (P := Tryd.prog) false 30 ie hie (fun _ => by kernel_rfl) g 0 n c i j hi hj (encO l[i]) (encO l[j]) (by rw [q3]; rfl) (by rw [q3]; rfl) (encO_one _) (encO_one _) W (cc i hi') (cc j hj')
      (fun k _ => h.row.frozen _) (fun k _ => h.row.frozen _)
    have ef : swapF n = 70 := by unfold swapF; rw [if_neg (by omega), if_neg (by omega)]
    have eb : swapB Tryd.prog (some ⟨g, 0, none⟩) n c = #[.slice (some ⟨g, 0, none⟩) n c, typeHandle Tryd.prog 30] := by unfold swapB; rw [if_neg (by omega)]
    rw [ef, eb]
    refine ⟨(W.setCells g (0 + i * ie.size) (encO l[j])).setCells g (0 + j * ie.size) (encO l[i]), ?_, ?_, ?_⟩
    · rw [run_callFunc_extern Tryd.func70 (by kernel_rfl) (by kernel_rfl) (by kernel_rfl) (e := Extern.ReflectliteSwapper.swap false) (by kernel_rfl),
        show (#[Value.int .i64 (i : Int), Value.int .i64 (j : Int)] ++ #[Value.slice (some ⟨g, 0, none⟩) n c, typeHandle Tryd.prog 30]) = #[.int .i64 i, .int .i64 j, .slice (some ⟨g, 0, none⟩) n c, typeHandle Tryd.prog 30] from rfl, hsw]
      rfl
    · refine h.put (by rw [swapL_length]; exact hl) (fun o ho => mem_swapL ho) ?_ ((Keeps.setCells _ _ _ _).trans (Keeps.setCells _ _ _ _) (fun i e => .inl e))
      rw [swapL_of hi' hj', q3, Nat.zero_add, Nat.zero_add]
      have r1 := h.row.sets (encO l[j]) W _ (i * 5)
      rw [flat_sets encO_length _ _ _ hi'] at r1
      have r2 := r1.sets (encO l[i]) _ _ (j * 5)
      rwa [flat_sets encO_length _ _ _ (by simpa using hj')] at r2
    · exact (Keeps.setCells _ _ _ _).trans (Keeps.setCells _ _ _ _) (fun i e => .inl e)
  alloc := fun W l o h => h.below ((Below.refl _ _).alloc (Nat.le_refl _) _)
  lt := fun W l h => h.lt
end

/-! ### the sort at orders -/
def idxL (l : List Ord5) : List (Ord5 × Nat) := l.zipIdx
theorem idxL_rise (l : List Ord5) : Rise (idxL l) := by
  unfold Rise idxL
  rw [List.pairwise_iff_getElem]
  intro i j hi hj hij
  simp
  exact hij
theorem idxL_map (l : List Ord5) : (idxL l).map (·.1) = l := by unfold idxL; simp

set_option maxHeartbeats 1000000 in
theorem sortOrders_any (w : World) (bs bo br c n : Nat) (A : Option Addr) (side : Int) (l : List Ord5) (hn : n ≤ 100000) (hr : RowAt w A n c 30 5 (flat encO l)) (hp : ∀ o ∈ l, -1000000000 ≤ o.price ∧ o.price ≤ 1000000000)
    (h1 : w.cell? ⟨bo, 0, none⟩ = some (.slice A n c)) (h2 : w.cell? ⟨br, 0, none⟩ = some (.func (.func 49) #[] #[.pointer (some ⟨bs, 0, none⟩)])) (h3 : w.cell? ⟨bs, 0, none⟩ = some (.int .i64 side)) (hne : ∀ g, blkOf A = some g → bo ≠ g ∧ br ≠ g ∧ bs ≠ g) :
    Calls Tryd.prog 50 #[.iface 26 (.slice A n c), .func (.func 51) #[] #[.pointer (some ⟨br, 0, none⟩), .pointer (some ⟨bo, 0, none⟩)]] w fun e w' => e = .returned (.tuple #[]) ∧ (RowAt w' A n c 30 5 (flat encO (stabL (rankO side) l)) ∧ Keeps (fun k => blkOf A = some k) w w') := by
  have hl : l.length = n := row_length encO_length (by omega) hr
  have hbw : Below w.heap.size w (sortW A n c w) := ((Below.refl _ w).alloc (Nat.le_refl _) _).alloc (by simp) _
  refine sliceStable_of A n c (by omega) _ _ _ w _ ?_
  by_cases hs : 2 ≤ n
  · obtain ⟨g, hA, -⟩ := hr.elem encO_length (by omega) (i := 0) (by omega)
    subst hA
    obtain ⟨n1, n2, n3⟩ := hne g rfl
    have hst : SideSt w bs bo br g c side n (sortW (some ⟨g, 0, none⟩) n c w) l :=
      ⟨hr.below hbw, hl, hp, (hbw.cell (World.block_lt_of_cell? w _ h1)).trans h1, (hbw.cell (World.block_lt_of_cell? w _ h2)).trans h2, (hbw.cell (World.block_lt_of_cell? w _ h3)).trans h3, ⟨n1, n2, n3⟩, Keeps.of_below hbw _⟩
    have E := (sideEnv (w0 := w) (bs := bs) (bo := bo) (br := br) (g := g) (c := c) (side := side) hs).tag
    have hc := stable_any E (by omega) (sortW (some ⟨g, 0, none⟩) n c w) (idxL l) (idxL_rise l) (by rw [idxL_map]; exact hst) (by unfold idxL; simpa using hl)
    refine hc.mono ?_
    rintro e w' ⟨rfl, ⟨T, hpT, hsT, hST⟩, -⟩
    have e1 : T.map (·.1) = stabL (rankO side) l := stab_only hpT hsT
    rw [e1] at hST
    exact ⟨rfl, hST.row, hST.keep.mono (fun i e => by rw [e]; rfl)⟩
  · have E : SortEnv (α := Ord5 × Nat) 51 #[.pointer (some ⟨br, 0, none⟩), .pointer (some ⟨bo, 0, none⟩)] (swapF n) (swapB Tryd.prog A n c) bo n (fun x => rankO side x.1) (fun W T => Below w.heap.size w W ∧ T = idxL l) :=
      { eg := Go.Proofs.enters_of Tryd.func51 (by kernel_rfl) rfl
        less := fun W l i j h hl hi hj hij => absurd hij (by omega)
        swap := fun W l i j h hl hi hj hij => absurd hij (by omega)
        alloc := fun W l o h => ⟨h.1.alloc h.1.size _, h.2⟩
        lt := fun W l h => Nat.lt_of_lt_of_le (World.block_lt_of_cell? w _ h1) h.1.size }
    have hc := stable_any E (by omega) (sortW A n c w) (idxL l) (idxL_rise l) ⟨hbw, rfl⟩ (by unfold idxL; simpa using hl)
    refine hc.mono ?_
    rintro e w' ⟨rfl, ⟨T, hpT, hsT, hB, rfl⟩, -⟩
    have e1 : (idxL l).map (·.1) = stabL (rankO side) l := stab_only hpT hsT
    rw [idxL_map] at e1
    exact ⟨rfl, by rw [← e1]; exact hr.below hB, Keeps.of_below hB _⟩
end Go.Proofs.YtkcgchpbjegneaaDoor
