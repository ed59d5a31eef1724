/- Contracts and walks that the law's proof needs. -/
import Derived.Test.YtbmiieehkkfbgaaGreatDoorZdLaw
import Derived.Lib.FrozenHead
import Derived.RangeFuncNested
import Derived.RangeFuncBound
import Derived.RangeFuncCalls
import Derived.RangeFuncLeaves
import Derived.Shelf.Abstract
import Derived.Shelf.RegionOpen
import Derived.WalkKit
import Derived.OwnWalkIn
import Derived.TacticsInMore
import Derived.LoopNIn
import Derived.LoopIn
import Derived.Sort.LoopGhostIn
import Derived.Sort.QuietTacIn
import Derived.Sort.BigQuietIn
import Derived.Sort.CutIn
set_option linter.unusedVariables false
namespace Go.Proofs.YtbmiieehkkfbgaaGreatDoor
open Go Go.RowKit Go.Lib Go.Shelf
set_option linter.unusedVariables false

section
variable {P : Program} (w : World)
theorem run_append_bytes (base : Nat) (t u ty e : TypeId) (i : TypeInfo) (ht : P.underlying t = some (.slice e)) (hu : P.underlying u = some .string) (hi : P.info? e = some i) (hz : i.zero = some (.int .u8 0))
    (hsize : i.size = 1) (hby : i.bytes = 1) (v : Value) (n : Nat) (xs : List Value) (hown : w.ownsRowF base e 1 v n xs) (s : ByteArray)
    (h63 : n + s.size ≤ maxLen) (hbytes : n + s.size ≤ 140737488355328) (hbase : base ≤ w.heap.size) :
    ∃ v' w', (Builtin.append_ #[t, u] ty #[v, .string s]).run P w = .ok v' w' ∧ w'.ownsRowF base e 1 v' (n + s.size) (xs ++ strCells s) ∧ w.grownBy w' v.ownBlock ∧
      ∀ g, v'.ownBlock = some g → v.ownBlock = some g ∨ w.heap.size ≤ g := by
  obtain ⟨v', w', h1, h2, h3, -⟩ := run_append_own_stringF (P := P) w base t u ty e i ht hu hi hz hsize hby v n xs hown s h63 hbytes hbase
  refine ⟨v', w', h1, h2, h3, fun g hg => ?_⟩
  rcases hown.2 with ⟨rfl, rfl⟩ | ⟨g0, cap, cur, fz, rfl, hbg, hg0, hfz, hnc, hcm, hcs, htake⟩
  · obtain ⟨v2, w2, k1, k2, -, -⟩ := run_append_own_stringF (P := P) w w.heap.size t u ty e i ht hu hi hz hsize hby (.slice none 0 0) 0 xs ⟨hown.1, .inl ⟨rfl, rfl⟩⟩ s h63 hbytes (Nat.le_refl _)
    rw [h1] at k1
    cases k1
    exact .inr (k2.lt g hg).1
  · have hsmall : n + s.size ≤ 9223372036854775807 := by simp only [maxLen] at h63; omega
    have hxl : xs.length = n := by simpa using hown.1
    by_cases hroom : n + s.size ≤ cap
    · have hcs' : cur.size = cap := by simpa using hcs
      have hr := run_append_room_stringF (P := P) w t u ty e i ht hu hi hsize g0 n cap cur fz hg0 (by simpa using hfz) s hroom (by omega)
      rw [h1] at hr
      cases hr
      exact .inl hg
    · have holds : ∀ j u, xs[j]? = some u → w.cell? ((⟨g0, 0, none⟩ : Addr).add j) = some u := hown.cells (g := g0) rfl
      have hr := run_append_grow_string (P := P) w t u ty e i (.int .u8 0) ht hu hi hz ⟨g0, 0, none⟩ n cap xs (by rw [hsize]; simpa using hxl) holds s (by omega) (by omega) (by rw [hby]; exact growslice_fits (by omega) (by omega))
      rw [h1] at hr
      cases hr
      right
      cases hg
      exact Nat.le_refl _
theorem wpList_append_bytes {ops : Array Oper} {rest : List Oper} {o : Oper} {a : Act} {Q : Exit → Act → World → Prop} (hgd : o.guard = none) (sl x : Operand) (t u : TypeId)
    (ho : o.op = .call { callee := .builtin .append, args := #[sl, x], argTypes := #[t, u] })
    (base : Nat) (e : TypeId) (i : TypeInfo) (ht : P.underlying t = some (.slice e)) (hu : P.underlying u = some .string) (hi : P.info? e = some i) (hz : i.zero = some (.int .u8 0))
    (hsize : i.size = 1) (hby : i.bytes = 1)
    (v : Value) (n : Nat) (xs : List Value) (hs : a.eval sl = v) (hown : w.ownsRowF base e 1 v n xs) (s : ByteArray) (hx : a.eval x = .string s)
    (h63 : n + s.size ≤ maxLen) (hbytes : n + s.size ≤ 140737488355328) (hbase : base ≤ w.heap.size)
    (h : ∀ v' w', w'.ownsRowF base e 1 v' (n + s.size) (xs ++ strCells s) → w.grownBy w' v.ownBlock → (∀ g, v'.ownBlock = some g → v.ownBlock = some g ∨ w.heap.size ≤ g) → wpList P ops Q rest (a.put o.dst v') w') : wpList P ops Q (o :: rest) a w := by
  refine wpList_plain hgd fun K hK => ?_
  obtain ⟨v', w', hr, h2, h3, h4⟩ := run_append_bytes (P := P) w base t u o.type e i ht hu hi hz hsize hby v n xs hown s h63 hbytes hbase
  unfold Oper.wp execOp
  simp only [ho, resolve, invoke, builtin, Sem.run_bind, Sem.run_pure, Result.andThen_ok, List.map_toArray, List.map_cons, List.map_nil, hs, hx, hr]
  exact hK _ _ (h v' w' h2 h3 h4)
end

structure Bld (w : World) (n0 b : Nat) (p : Option Addr) (v : Value) (l : Byt) : Prop where
  hn : n0 ≤ b
  blk : QJ w b 33 #[.pointer p, v]
  row : w.ownsRowF n0 5 1 v l.length (Lib.byteCells l)
  far : v.ownBlock ≠ some b
  own : p = none ∨ p = some ⟨b, 0, none⟩
theorem Bld.is {w : World} {n0 b : Nat} {p : Option Addr} {v : Value} {l : Byt} (h : Bld w n0 b p v l) : Lib.IsBuilderF 33 5 n0 b (Lib.byteCells l) w := by
  have hl : (Lib.byteCells l).length = l.length := by simp [Lib.byteCells]
  rcases h.own with e | e
  · exact .inl ⟨h.hn, v, by have := h.blk; rw [e] at this; exact this, by rw [hl]; exact h.row, h.far⟩
  · exact .inr ⟨h.hn, v, by have := h.blk; rw [e] at this; exact this, by rw [hl]; exact h.row, h.far⟩
def BldFp (b : Nat) (v : Value) (i : Nat) : Prop := i = b ∨ v.ownBlock = some i
theorem Bld.lt {w : World} {n0 b : Nat} {p : Option Addr} {v : Value} {l : Byt} (h : Bld w n0 b p v l) {i : Nat} (hi : BldFp b v i) : n0 ≤ i ∧ i < w.heap.size := by
  rcases hi with e | e
  · rw [e]; exact ⟨h.hn, h.blk.lt⟩
  · exact h.row.lt i e
theorem Bld.keeps {w w' : World} {n0 b : Nat} {p : Option Addr} {v : Value} {l : Byt} {S : Nat → Prop} (h : Bld w n0 b p v l) (hk : QK S w w') (hS : ∀ i, BldFp b v i → ¬ S i) : Bld w' n0 b p v l := by
  refine ⟨h.hn, QJ.keeps h.blk hk (hS b (.inl rfl)), ?_, h.far, h.own⟩
  obtain ⟨h1, h2⟩ := h.row
  refine ⟨h1, ?_⟩
  rcases h2 with h2 | ⟨g, cap, cur, fz, hv, hb, hg, hr⟩
  · exact .inl h2
  · have hl := (h.row.lt g (by rw [hv]; rfl)).2
    exact .inr ⟨g, cap, cur, fz, hv, hb, (hk.block g hl (hS g (.inr (by rw [hv]; rfl)))).trans hg, hr⟩
theorem byte_info : (Tryz.prog.info? 5).map (fun i => (i.zero, i.size, i.bytes)) = some (some (.int .u8 0), 1, 1) := by kernel_rfl

set_option maxRecDepth 100000 in
set_option maxHeartbeats 2000000 in
theorem write_any {w : World} {n0 b : Nat} {p : Option Addr} {v : Value} {l : Byt} (h : Bld w n0 b p v l) (s : ByteArray) (hs : l.length + s.size ≤ 140737488355328) :
    Calls Tryz.prog 7 #[.pointer (some ⟨b, 0, none⟩), .string s] w fun ev w' => ev = .returned (.tuple #[.int .i64 s.size, .nilIface]) ∧
      ∃ v', Bld w' n0 b (some ⟨b, 0, none⟩) v' (l ++ s.data.toList) ∧ QK (BldFp b v) w w' ∧ ∀ i, BldFp b v' i → BldFp b v i ∨ w.heap.size ≤ i := by
  obtain ⟨i0, hi0, hz0, hz1, hz2⟩ := info_parts byte_info
  have HB := QQ h
  have hbl : b < w.heap.size := h.blk.lt
  have hn0 : n0 ≤ w.heap.size := by have := h.hn; omega
  have HCk : Hid (Calls Tryz.prog 12 #[.pointer (some ⟨b, 0, none⟩)] w fun ev w' => ev = .returned (.tuple #[]) ∧ Bld w' n0 b (some ⟨b, 0, none⟩) v l ∧ QK (fun i => i = b) w w') := by
    rcases h.own with e | e
    · subst e
      refine (Any.Builder_copyCheck_fresh (P := Tryz.prog) (ρ := laysD156_ren) { laysD156 with } Xj1.toX72 b w (by rw [QJ.cell h.blk]; rfl) ?_ (QJ.frozen h.blk 0)).mono ?_
      · have := h.blk
        unfold QJ at this
        unfold World.shape?
        rw [this]
        rfl
      · rintro ev w' ⟨rfl, rfl⟩
        have hk := QK.set_ w ⟨b, 0, none⟩ (.pointer (some ⟨b, 0, none⟩))
        refine ⟨rfl, ⟨h.hn, QJ.set_ h.blk 0 _, ?_, h.far, .inr rfl⟩, hk⟩
        obtain ⟨h1, h2⟩ := h.row
        refine ⟨h1, ?_⟩
        rcases h2 with h2 | ⟨g, cap, cur, fz, hv, hb, hg, hr⟩
        · exact .inl h2
        · have hl := (h.row.lt g (by rw [hv]; rfl)).2
          exact .inr ⟨g, cap, cur, fz, hv, hb, (hk.block g hl (fun e => h.far (by rw [hv]; exact congrArg some e))).trans hg, hr⟩
    · subst e
      refine (Any.Builder_copyCheck_used (P := Tryz.prog) (ρ := laysD156_ren) { laysD156 with } Xj1.toX72 b w (by rw [QJ.cell h.blk]; rfl)).mono ?_
      rintro ev w' ⟨rfl, rfl⟩
      exact ⟨rfl, h, QK.refl _ _⟩
  clear h
  go_enter Tryz.func7, Tryz.ntmps7
  go_wp2_with (first
    | (go_at_call 12; refine HCk.out.mono ?_; rintro ev w1 ⟨rfl, hb1, hk1⟩; have HB1 := QQ hb1; have HK1 := QQ hk1; have c0 : w1.cell? ⟨b, 0, none⟩ = some (.pointer (some ⟨b, 0, none⟩)) := (by rw [QJ.cell hb1.blk]; rfl); have c1 : w1.cell? ⟨b, 1, none⟩ = some v := (by rw [QJ.cell hb1.blk]; rfl); clear hb1 hk1)
    | (at_builtin; refine wpList_append_bytes _ rfl _ _ 31 9 rfl n0 5 i0 Tryz.underlying31 Tryz.underlying9 hi0 hz0 hz1 hz2 _ _ _ rfl HB1.out.row s rfl (by unfold maxLen; omega) hs (Nat.le_trans hn0 HK1.out.size) ?_; intro v' w2 hown hgrow hwh; obtain ⟨ao, nn, cap, rfl⟩ : ∃ ao nn cap, v' = .slice ao nn cap := (by rcases hown.2 with ⟨hv, _⟩ | ⟨g, cap, cur, fz, hv, _⟩ <;> exact ⟨_, _, _, hv⟩); have hb2 := QJ.grown HB1.out.blk hgrow (fun e => HB1.out.far e.symm); have d0 : w2.cell? ⟨b, 0, none⟩ = some (.pointer (some ⟨b, 0, none⟩)) := (by rw [QJ.cell hb2]; rfl); have d1 : w2.cell? ⟨b, 1, none⟩ = some v := (by rw [QJ.cell hb2]; rfl); have f1 := QJ.frozen hb2 1; have HOw := QQ hown; have HGr := QQ hgrow; have HWh := QQ hwh; have HB2 := QQ hb2; clear hown hgrow hwh hb2 c0 c1))
  go_ret2
  have hkg : QK (BldFp b v) w1 w2 := ⟨HGr.out.os, HGr.out.tape, HGr.out.output, HGr.out.size, fun i hi hn => HGr.out.block i hi (fun e => hn (.inr e.symm))⟩
  have hk2 : QK (BldFp b v) w w2 := (HK1.out.mono (fun i hi => .inl hi)).trans hkg (fun i hi => .inl hi)
  have hset := QK.set_ w2 ⟨b, 1, none⟩ (.slice ao nn cap)
  have hbl1 : b < w1.heap.size := HB1.out.blk.lt
  have hfar : (Value.slice ao nn cap).ownBlock ≠ some b := fun e => by
    rcases HWh.out b e with e1 | e1
    · exact HB1.out.far e1
    · omega
  have hlen : (l ++ s.data.toList).length = l.length + s.size := by rw [List.length_append, Lib.size_eq]
  have hcells : Lib.byteCells l ++ Lib.strCells s = Lib.byteCells (l ++ s.data.toList) := by simp [Lib.byteCells, Lib.strCells]
  refine ⟨rfl, .slice ao nn cap, ⟨HB1.out.hn, QJ.set_ HB2.out 1 _, ?_, hfar, .inr rfl⟩, hk2.trans hset (fun i hi => .inl (.inl hi)), fun i hi => ?_⟩
  · have hr := HOw.out
    rw [hcells] at hr
    rw [hlen]
    obtain ⟨h1, h2⟩ := hr
    refine ⟨h1, ?_⟩
    rcases h2 with h2 | ⟨g, cap', cur, fz, hv, hb, hg, hr⟩
    · exact .inl h2
    · exact .inr ⟨g, cap', cur, fz, hv, hb, (Below.heap_setCell w2 ⟨b, 1, none⟩ _ g (fun e => hfar (by rw [hv]; exact congrArg some e))).trans hg, hr⟩
  · rcases hi with e | e
    · exact .inl (.inl e)
    · rcases HWh.out i e with e1 | e1
      · exact .inl (.inr e1)
      · exact .inr (Nat.le_trans HK1.out.size e1)
end Go.Proofs.YtbmiieehkkfbgaaGreatDoor
namespace Go.Proofs.YtbmiieehkkfbgaaGreatDoor
open Go Go.RowKit Go.Shelf
set_option linter.unusedVariables false
attribute [local go_sem] Oper.semAt_some

theorem splitP_cons (c : UInt8) (l : Byt) : Qe4 (c :: l) = if c == 10 then [] :: Qe4 l else match Qe4 l with
    | [] => [[c]]
    | h :: t => (c :: h) :: t := rfl
theorem split_index : ∀ r : Byt, (Lib.indexByte r 10 = -1 ∧ Qe4 r = [r]) ∨ ∃ i : Nat, Lib.indexByte r 10 = i ∧ i < r.length ∧ Qe4 r = r.take i :: Qe4 (r.drop (i + 1))
  | [] => .inl ⟨rfl, rfl⟩
  | c :: l => by
    rw [splitP_cons]
    unfold Lib.indexByte
    by_cases h : (c == 10) = true
    · rw [if_pos h, if_pos h]
      exact .inr ⟨0, rfl, by simp, rfl⟩
    · rw [if_neg h, if_neg h]
      rcases split_index l with ⟨h1, h2⟩ | ⟨i, h1, h2, h3⟩
      · rw [h1, h2]
        exact .inl ⟨rfl, rfl⟩
      · rw [h1, h3]
        refine .inr ⟨i + 1, ?_, by simpa using h2, rfl⟩
        have : ¬ (((i : Int) == -1) = true) := by simp
        rw [if_neg this]
        rfl
theorem bytes_take (r : ByteArray) (i : Nat) : (r.extract 0 i).data.toList = r.data.toList.take i := by
  rw [Lib.extract_data, List.drop_zero, Nat.sub_zero]
theorem bytes_drop (r : ByteArray) (i : Nat) : (r.extract i r.size).data.toList = r.data.toList.drop i := by
  rw [Lib.extract_data, Lib.size_eq]
  exact List.take_of_length_le (by rw [List.length_drop]; exact Nat.le_refl _)

set_option maxRecDepth 100000 in
set_option maxHeartbeats 8000000 in
theorem split_in (n : Nat) (hn : 2 ≤ n) (l B1 B2 B3 : Nat) (t : ByteArray) (ht : t.size ≤ 30000) (J : List Byt → World → Prop)
    (hJ : ∀ pre W W', J pre W → QK (fun i => i = B2) W W' → J pre W')
    (hY : ∀ pre (x : ByteArray) q W, J pre W → Qe4 t.data.toList = pre ++ x.data.toList :: q → YieldAt Fence.wide (n - 1) Tryz.prog l #[.string x] W fun e W' =>
      e = .returned (.bool true) ∧ J (pre ++ [x.data.toList]) W' ∧ W'.heap[B1]? = W.heap[B1]? ∧ W'.heap[B2]? = W.heap[B2]? ∧ W'.heap[B3]? = W.heap[B3]?)
    (W : World) (h12 : B1 ≠ B2) (h32 : B3 ≠ B2) (hB1 : QJ W B1 9 #[.string ⟨#[10]⟩]) (hB2 : QJ W B2 9 #[.string t]) (hB3 : QJ W B3 3 #[.int .i64 0]) (h0 : J [] W) :
    CallsIn Fence.wide n Tryz.prog 19 #[.func (.yield l) #[] #[], .pointer (some ⟨B1, 0, none⟩), .pointer (some ⟨B2, 0, none⟩), .pointer (some ⟨B3, 0, none⟩)] W fun e W' => (∃ v, e = .returned v) ∧ J (Qe4 t.data.toList) W' := by
  have HJ := QQ hJ
  have HY := QQ hY
  have H0 := QQ h0
  have b1 : W.cell? ⟨B1, 0, none⟩ = some (.string ⟨#[10]⟩) := by rw [QJ.cell hB1]; rfl
  have HB1 := QQ hB1
  have HB2 := QQ hB2
  have HB3 := QQ hB3
  clear hJ hY h0 hB1 hB2 hB3
  refine callsIn_of_wp Tryz.func19 rfl trivial ?_ rfl
  simp only [Tryz.ntmps19, List.size_toArray, List.length_cons, List.length_nil, Nat.reduceAdd, Nat.reduceSub, Array.replicate_succ, Array.replicate_zero, List.push_toArray, List.append_toArray, List.nil_append, List.cons_append]
  gi_wp2
  clear b1
  gi_loopg [7] (t.size + 1) (fun gg s7 wr => ∃ (pre : List Byt) (r : ByteArray), r.size < gg ∧ r.size ≤ 30000 ∧ Qe4 t.data.toList = pre ++ Qe4 r.data.toList ∧ J pre wr ∧ QJ wr B1 9 #[.string ⟨#[10]⟩] ∧ QJ wr B2 9 #[.string r] ∧ QJ wr B3 3 #[.int .i64 0])
  case atStart => exact ⟨[], t, Nat.lt_succ_self _, ht, rfl, H0.out, HB1.out, HB2.out, HB3.out⟩
  case round =>
    obtain ⟨pre, r, hgg, hr, hsp, hj, c1, c2, c3⟩ := hrel
    have HSp := QQ hsp
    have Hj := QQ hj
    have C1 := QQ c1
    have C2 := QQ c2
    have C3 := QQ c3
    have x1 : wr.cell? ⟨B1, 0, none⟩ = some (.string ⟨#[10]⟩) := by rw [QJ.cell c1]; rfl
    have x2 : wr.cell? ⟨B2, 0, none⟩ = some (.string r) := by rw [QJ.cell c2]; rfl
    have x3 : wr.cell? ⟨B3, 0, none⟩ = some (.int .i64 0) := by rw [QJ.cell c3]; rfl
    have hw21 : Fence.wide.fn 21 := trivial
    have h1n : 1 ≤ n := by omega
    clear c1 c2 c3
    rcases split_index r.data.toList with ⟨h1, h2⟩ | ⟨i, h1, h2, h3⟩
    · have HI := QQ (Zm9 r 10 wr)
      rw [h1] at HI
      obtain ⟨fn, tmps, assign, body, hy, hR⟩ := HY.out pre r [] wr hj (by rw [hsp, h2])
      have HS2 := QQ (show Qe4 t.data.toList = pre ++ [r.data.toList] by rw [hsp, h2])
      clear h1 h2 hsp hj
      gi_wp2_with (gi_at_call 21; refine (callsIn_wide.2 HI.out).mono ?_; rintro e w1 ⟨rfl, rfl⟩)
      refine hR.mono ?_
      rintro e W3 ⟨rfl, hJ3, -, -, -⟩
      gi_wp2
      go_end0
      exact ⟨⟨_, rfl⟩, by rw [HS2.out]; exact hJ3⟩
    · have HI := QQ (Zm9 r 10 wr)
      rw [h1] at HI
      obtain ⟨fn, tmps, assign, body, hy, hR⟩ := HY.out pre (r.extract 0 i) (Qe4 (r.data.toList.drop (i + 1))) wr hj (by rw [hsp, h3, bytes_take])
      rw [← Lib.size_eq] at h2
      obtain ⟨k1, hk1⟩ : ∃ k1 : Nat, k1 = i + 1 := ⟨_, rfl⟩
      have hi0 : (0 : Int) ≤ (i : Int) := by omega
      have hi1 : (i : Int) ≤ (r.size : Int) := by omega
      have hw0 : IntKind.i64.wrap (i : Int) = (i : Int) := by rw [IntKind.wrap_i64]; omega
      have hw1 : IntKind.i64.wrap ((i : Int) + 1) = (k1 : Int) := by rw [IntKind.wrap_i64]; omega
      have hk0 : (0 : Int) ≤ (k1 : Int) := by omega
      have hk2 : (k1 : Int) ≤ (r.size : Int) := by omega
      have HS2 := QQ (show Qe4 t.data.toList = (pre ++ [(r.extract 0 i).data.toList]) ++ Qe4 (r.extract (i + 1) r.size).data.toList by rw [hsp, h3, bytes_take, bytes_drop, List.append_assoc]; rfl)
      have HSz := QQ (show (r.extract (i + 1) r.size).size < r.size by rw [ByteArray.size_extract]; omega)
      clear h1 h3 hsp hj
      gi_wp2_with (gi_at_call 21; refine (callsIn_wide.2 HI.out).mono ?_; rintro e w1 ⟨rfl, rfl⟩)
      refine hR.mono ?_
      rintro e W3 ⟨rfl, hJ3, k1', k2', k3'⟩
      have C1' := QQ (show QJ W3 B1 9 #[.string ⟨#[10]⟩] from k1'.trans C1.out)
      have C2' := QQ (show QJ W3 B2 9 #[.string r] from k2'.trans C2.out)
      have C3' := QQ (show QJ W3 B3 3 #[.int .i64 0] from k3'.trans C3.out)
      have y1 : W3.cell? ⟨B1, 0, none⟩ = some (.string ⟨#[10]⟩) := by rw [QJ.cell C1'.out]; rfl
      have y2 : W3.cell? ⟨B2, 0, none⟩ = some (.string r) := by rw [QJ.cell C2'.out]; rfl
      have f2 := QJ.frozen C2'.out 0
      have HJ3 := QQ hJ3
      clear hJ3 k1' k2' k3' x1 x2 x3
      gi_wp2
      gi_roundg r.size
      case measure => omega
      case rel =>
        have hset := QK.set_ W3 ⟨B2, 0, none⟩ (.string (r.extract (i + 1) r.size))
        exact ⟨_, r.extract (i + 1) r.size, by have := HSz.out; omega, by have := HSz.out; omega, HS2.out, HJ.out _ _ _ HJ3.out hset, QJ.far C1'.out h12 _, QJ.set_ C2'.out 0 _, QJ.far C3'.out h32 _⟩
end Go.Proofs.YtbmiieehkkfbgaaGreatDoor
namespace Go.Proofs.YtbmiieehkkfbgaaGreatDoor
open Go Go.RowKit Go.Shelf
set_option linter.unusedVariables false

theorem keeps_putObj (W : World) (l : Nat) (o : Obj) : QK (fun i => i = l) W (W.putObj l o) := ⟨rfl, rfl, rfl, by simp [World.putObj], fun i _ hn => World.putObj_heap_other hn⟩
set_option maxRecDepth 100000 in
set_option maxHeartbeats 2000000 in
theorem range_split (n : Nat) (hn : 4 ≤ n) {g : Operand} {ps : Array Tmp} {assign body : Code} {Q : Exit → Act → World → Prop} {a : Act} {w : World} (t : ByteArray) (ht : t.size ≤ 30000) (B1 B2 B3 : Nat)
    (hg : a.eval g = .func (.func 19) #[] #[.pointer (some ⟨B1, 0, none⟩), .pointer (some ⟨B2, 0, none⟩), .pointer (some ⟨B3, 0, none⟩)]) (hps : ps.size = 1)
    (hB1 : QJ w B1 9 #[.string ⟨#[10]⟩]) (hB2 : QJ w B2 9 #[.string t]) (hB3 : QJ w B3 3 #[.int .i64 0]) (h12 : B1 ≠ B2) (h32 : B3 ≠ B2)
    (I : List Byt → World → Prop) (hI : ∀ pre W W', I pre W → QK (fun i => i = B2 ∨ i = w.heap.size ∨ i = w.heap.size + 1) W W' → I pre W')
    (h0 : ∀ o o', I [] ((w.alloc o).alloc o')) (a₁ : ByteArray → Act)
    (hassign : ∀ (l : Nat) (x : ByteArray) (W : World) (K : Act → World → Prop), K (a₁ x) W → assign.wpIn (Fence.wide.inRound l) (n - 1 - 1) Tryz.prog (Exit.then K (fun _ _ _ => False)) { tmps := (ps.zip #[.string x]).foldl (fun t (p, v) => t.setIfInBounds p v) a.tmps, defers := [] } W)
    (hbody : ∀ (pre : List Byt) (x : ByteArray) (q : List Byt) (W : World), I pre W → Qe4 t.data.toList = pre ++ x.data.toList :: q →
      body.wpIn (Fence.wide.inRound (w.heap.size + 1)) (n - 1 - 1) Tryz.prog (fun e _ W' => e = .normal ∧ I (pre ++ [x.data.toList]) W' ∧ ∀ i, i = B1 ∨ i = B2 ∨ i = B3 ∨ i = w.heap.size ∨ i = w.heap.size + 1 → W'.heap[i]? = W.heap[i]?) (a₁ x) W)
    (hdone : ∀ W, I (Qe4 t.data.toList) W → W.heap[w.heap.size]? = some (.deferred (some [])) → Q .normal { a with defers := { target := .collected w.heap.size, args := #[] } :: a.defers } W) :
    (Code.rangeFunc g ps assign body).wpIn Fence.wide n Tryz.prog Q a w := by
  refine wpIn_rangeFunc ?_
  intro fn hfn
  obtain ⟨rec, hrec⟩ : ∃ rec : LoopState → Option Code → Loop, rec = fun st pe => { state := st, pending := pe, fn, tmps := a.tmps, params := ps, assign, body, defers := w.heap.size } := ⟨_, rfl⟩
  obtain ⟨W1, hW1⟩ : ∃ W1, (w.alloc (.deferred (some []))).alloc (.loop (rec .ready none)) = W1 := ⟨_, rfl⟩
  have hL1 : W1.heap[w.heap.size + 1]? = some (.loop (rec .ready none)) := by
    rw [← hW1]
    have h := World.alloc_heap_new (w.alloc (.deferred (some []))) (.loop (rec .ready none))
    rwa [World.size_alloc] at h
  have hD1 : W1.heap[w.heap.size]? = some (.deferred (some [])) := by
    rw [← hW1]
    exact (Below.heap_alloc _ _ _ (by simp)).trans (World.alloc_heap_new w _)
  have hI1 : I [] W1 := by rw [← hW1]; exact h0 _ _
  have hb1 : Below w.heap.size w W1 := by rw [← hW1]; exact ((Below.refl _ w).alloc (Nat.le_refl _) _).alloc (by simp) _
  have l1 := hB1.lt
  have l2 := hB2.lt
  have l3 := hB3.lt
  refine ⟨w.heap.size + 1, [{ target := .collected w.heap.size, args := #[] }], W1, { target := .fn (.func 19) #[.pointer (some ⟨B1, 0, none⟩), .pointer (some ⟨B2, 0, none⟩), .pointer (some ⟨B3, 0, none⟩)], args := #[.func (.yield (w.heap.size + 1)) #[] #[]] }, W1, 19,
    #[.func (.yield (w.heap.size + 1)) #[] #[]] ++ #[.pointer (some ⟨B1, 0, none⟩), .pointer (some ⟨B2, 0, none⟩), .pointer (some ⟨B3, 0, none⟩)], W1, ?_, ?_, ?_, ?_, fun _ => by omega, ?_⟩
  · rw [← hW1, hrec]; exact run_enterLoop_outer _ _ _ _ _
  · simp only [resolve, hg]
    simp [go_sem]
  · intro f' hf'
    trivial
  · have eg := enters_of Tryz.func19 (by kernel_rfl) rfl
    simp [invoke, go_sem, eg _ _]
  · refine (split_in (n - 1) (by omega) (w.heap.size + 1) B1 B2 B3 t ht
      (fun pre W => I pre W ∧ W.heap[w.heap.size + 1]? = some (.loop (rec .ready none)) ∧ W.heap[w.heap.size]? = some (.deferred (some [])))
      (fun pre W W' h hk => ⟨hI pre W W' h.1 (hk.mono (fun i hi => .inl hi)), (hk.block _ (Array.getElem?_eq_some_iff.1 h.2.1).1 (fun e => by have e : w.heap.size + 1 = B2 := e; omega)).trans h.2.1, (hk.block _ (Array.getElem?_eq_some_iff.1 h.2.2).1 (fun e => by have e : w.heap.size = B2 := e; omega)).trans h.2.2⟩)
      ?_ W1 h12 h32 (hB1.keep hb1) (hB2.keep hb1) (hB3.keep hb1) ⟨hI1, hL1, hD1⟩).mono ?_
    · rintro pre x q W ⟨hi, hl, hd⟩ hsp
      have hlt : w.heap.size + 1 < W.heap.size := (Array.getElem?_eq_some_iff.1 hl).1
      have hy := run_yield (P := Tryz.prog) (args := #[.string x]) hl (by rw [hrec]; exact hps.symm)
      rw [hrec] at hy
      refine ⟨fn, _, assign, body, hy, roundIn_of_wpIn hfn (hassign _ x W _ ?_)⟩
      clear hy
      refine ⟨_, run_beginRound hl (by rw [hrec]), ?_⟩
      have hl2 : (W.putObj (w.heap.size + 1) (.loop { rec .ready none with state := .busy })).heap[w.heap.size + 1]? = some (.loop { rec .ready none with state := .busy }) := World.putObj_heap_same hlt
      have hkp := keeps_putObj W (w.heap.size + 1) (.loop { rec .ready none with state := .busy })
      refine wpIn_mono (hbody pre x q _ (hI pre _ _ hi (hkp.mono (fun i hi => .inr (.inr hi)))) hsp) ?_
      rintro e a3 W3 ⟨rfl, hi3, hkept⟩
      have hl3 := (hkept _ (.inr (.inr (.inr (.inr rfl))))).trans hl2
      have hd3 := (hkept _ (.inr (.inr (.inr (.inl rfl))))).trans ((World.putObj_heap_other (w := W) (r := w.heap.size + 1) (k := w.heap.size) (o := .loop { rec .ready none with state := .busy }) (by omega)).trans hd)
      have hlt3 : w.heap.size + 1 < W3.heap.size := (Array.getElem?_eq_some_iff.1 hl3).1
      have hr := run_endRound (P := Tryz.prog) none hl3
      have hkp3 := keeps_putObj W3 (w.heap.size + 1) (.loop (rec .ready none))
      rw [hrec] at hr hkp3 ⊢
      refine ⟨_, _, hr, rfl, ⟨hI _ _ _ hi3 (hkp3.mono (fun i hi => .inr (.inr hi))), World.putObj_heap_same hlt3, (World.putObj_heap_other (by omega)).trans hd3⟩, ?_, ?_, ?_⟩
      · exact (World.putObj_heap_other (by omega)).trans ((hkept _ (.inl rfl)).trans (World.putObj_heap_other (by omega)))
      · exact (World.putObj_heap_other (by omega)).trans ((hkept _ (.inr (.inl rfl))).trans (World.putObj_heap_other (by omega)))
      · exact (World.putObj_heap_other (by omega)).trans ((hkept _ (.inr (.inr (.inl rfl)))).trans (World.putObj_heap_other (by omega)))
    · rintro e W2 ⟨⟨v, rfl⟩, hi, hl, hd⟩
      have hkp := keeps_putObj W2 (w.heap.size + 1) (.loop { rec .ready none with state := .exhausted })
      refine ⟨none, _, by have := run_endLoop (P := Tryz.prog) hl (by rw [hrec]; simp); rw [hrec] at this; exact this, hdone _ (hI _ _ _ hi ?_) ((World.putObj_heap_other (by omega)).trans hd)⟩
      exact (keeps_putObj W2 (w.heap.size + 1) _).mono (fun i hi => .inr (.inr hi))
end Go.Proofs.YtbmiieehkkfbgaaGreatDoor
