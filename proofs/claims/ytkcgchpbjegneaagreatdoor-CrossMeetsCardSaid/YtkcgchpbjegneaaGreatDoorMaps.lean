/-
  Laws on maps: a block that is a map keyed by int, told as a function from keys to values: how a look-up, a store, a delete and a store in a literal run, and what they leave. No program of the set in sight.
-/
import Derived.WalkKit
import Derived.Maps.OwnSet
namespace Go.Proofs.YtkcgchpbjegneaaGreatDoor
open Go.RowKit Go.ChangeMaps

/-- only block r has turned, and it is no new one -/
structure Turned (w w' : World) (r : Nat) : Prop where
  os : w'.os = w.os
  tape : w'.tape = w.tape
  output : w'.output = w.output
  size : w'.heap.size = w.heap.size
  block : ∀ k, k ≠ r → w'.heap[k]? = w.heap[k]?

theorem Turned.grown {w w' : World} {r : Nat} (h : Turned w w' r) : w.grownBy w' (some r) :=
  ⟨h.os, h.tape, h.output, Nat.le_of_eq h.size.symm, fun k _ hk => h.block k (fun e => hk (by rw [e]))⟩
theorem Turned.below {w w' : World} {r B : Nat} (h : Turned w w' r) (hB : B ≤ r) : Below B w w' :=
  ⟨h.os, h.tape, h.output, Nat.le_of_eq h.size.symm, fun k hk => h.block k (by omega)⟩
theorem Turned.cell {w w' : World} {r : Nat} (h : Turned w w' r) {p : Addr} (hp : p.block ≠ r) : w'.cell? p = w.cell? p := World.cell?_of_block (h.block _ hp)
theorem turned_setBlock (w : World) (r : Nat) (o : Obj) : Turned w (setBlock w r o) r :=
  ⟨rfl, rfl, rfl, by simp [setBlock], fun k hk => by simp only [setBlock]; rw [Array.getElem?_setIfInBounds_ne (by omega)]⟩

/-- the key's type is one of those that are told apart at once -/
def Plain (kd : TypeDesc) : Prop := (∃ q, kd = .int q) ∨ kd = .string ∨ kd = .bool
theorem plain_int {q : IntKind} : Plain (.int q) := .inl ⟨q, rfl⟩
theorem plain_string : Plain .string := .inr (.inl rfl)

/-- block r of w is a map that holds just es, in the order in which they came -/
def MapAt (w : World) (r : Nat) (es : List MapEntry) (c : Nat) : Prop := w.heap[r]? = some (.map es.toArray c)

section
variable {w w' : World} {r c : Nat} {es : List MapEntry}
theorem MapAt.lt (h : MapAt w r es c) : r < w.heap.size := (Array.getElem?_eq_some_iff.1 h).1
theorem MapAt.of_block (h : MapAt w r es c) (hb : w'.heap[r]? = w.heap[r]?) : MapAt w' r es c := hb.trans h
theorem MapAt.kept {row : Option Nat} (h : MapAt w r es c) (hg : w.grownBy w' row) (hne : some r ≠ row) : MapAt w' r es c := (hg.block r h.lt hne).trans h
theorem MapAt.alloc (h : MapAt w r es c) (o : Obj) : MapAt (w.alloc o) r es c := h.kept (World.grownBy_alloc w o none) (by simp)
theorem MapAt.made (w : World) : MapAt (w.alloc (.map #[] 0)) w.heap.size [] 0 := heap_alloc_new w _
theorem MapAt.below {B : Nat} (h : MapAt w r es c) (hb : Below B w w') (hr : r < B) : MapAt w' r es c := (hb.block r hr).trans h
theorem MapAt.set (h : MapAt w r es c) (es' : List MapEntry) (c' : Nat) : MapAt (setBlock w r (.map es'.toArray c')) r es' c' := by
  have := h.lt
  simp only [MapAt, setBlock]
  rw [Array.getElem?_setIfInBounds_self_of_lt this]
end

/-- what a look-up finds, at keys that are told apart at once -/
def findL (kd : TypeDesc) (k : Value) (es : List MapEntry) : Option (Option (Nat × Value)) := Instr.findNow kd k es 0

section
variable {P : Program} {t kt et : TypeId} {kd : TypeDesc} (ht : P.underlying t = some (.map kt et)) (hk : P.underlying kt = some kd) (hp : Plain kd) {w : World} {r c : Nat} {es : List MapEntry} (h : MapAt w r es c) (key val : Value)
include hk

theorem run_findKey (x : Option (Nat × Value)) (hf : findL kd key es = some x) (w : World) : (Instr.findKey kt key es).run P w = .ok x w := by
  unfold findL at hf
  simp [Instr.findKey, run_underlying hk, hf]

include hp
theorem run_checkKey (em : Bool) (n : Nat) (v : Value) (w : World) : (Instr.checkKey em (n + 1) kt v).run P w = .ok () w := by
  rcases hp with ⟨q, rfl⟩ | rfl | rfl <;> simp [Instr.checkKey, run_underlying hk]

include ht h
theorem run_mapUpdate_new (hf : findL kd key es = some none) :
    (Instr.mapUpdate t (.map (some r)) key val).run P w = .ok () (setBlock w r (.map (es ++ [(MapEntry.mk key val c)]).toArray (c + 1))) := by
  have hr : w.heap[r]? = some (.map es.toArray c) := h
  simp [Instr.mapUpdate, run_underlying ht, getObj, Sem.run, hr, run_checkKey hk hp, run_findKey hk key none hf, setObj, setBlock]

theorem run_lookup_at {z : Value} (hz : (zeroValue et).run P w = .ok z w) (ok : Bool) (x : Option (Nat × Value)) (hf : findL kd key es = some x) :
    (Instr.lookup t (.map (some r)) key ok).run P w = .ok (if ok then .tuple #[(x.map (·.2)).getD z, .bool x.isSome] else (x.map (·.2)).getD z) w := by
  have hr : w.heap[r]? = some (.map es.toArray c) := h
  rcases x with _ | ⟨i, v⟩ <;>
    simp [Instr.lookup, run_underlying ht, getObj, Sem.run, hr, run_checkKey hk hp, run_findKey hk key _ hf, hz]
end

/-- a store in a map's literal, at the operation -/
theorem wpList_insert_new {P : Program} (w : World) {ops : Array Oper} {rest : List Oper} {o : Oper} {a : Act} {Q : Exit → Act → World → Prop}
    (hg : o.guard = none) (m x v : Operand) (t : TypeId) (hop : o.op = Op.insert t m x v) {kt et : TypeId} {kd : TypeDesc} (ht : P.underlying t = some (.map kt et)) (hk : P.underlying kt = some kd) (hp : Plain kd)
    (r c : Nat) (es : List MapEntry) (key val : Value) (hm : a.eval m = .map (some r)) (hx : a.eval x = key) (hv : a.eval v = val) (h : MapAt w r es c) (hf : findL kd key es = some none)
    (hK : ∀ w1, MapAt w1 r (es ++ [MapEntry.mk key val c]) (c + 1) → Turned w w1 r → wpList P ops Q rest (a.put o.dst undef) w1) : wpList P ops Q (o :: rest) a w := by
  refine wpList_plain hg fun K' hK' => ?_
  have hrun := run_mapUpdate_new ht hk hp h key val hf
  unfold Oper.wp
  simp only [execOp, hop, hm, hx, hv]
  simp [hrun]
  exact hK' _ _ (hK _ (h.set _ _) (turned_setBlock _ _ _))

/-! ### maps keyed by int -/
/-- what is found under a key: the first entry of it -/
def lookI (es : List MapEntry) (k : Int) : Option Value := (es.find? fun e => match e.key with | .int .i64 n => n == k | _ => false).map (·.val)
/-- all keys are ints -/
def KeysI (es : List MapEntry) : Prop := ∀ e ∈ es, ∃ n : Int, e.key = .int .i64 n
def keyI (e : MapEntry) : Int := match e.key with | .int .i64 n => n | _ => 0

theorem findNow_int : ∀ (es : List MapEntry) (k : Int) (i : Nat), KeysI es →
    ∃ x, Instr.findNow (.int .i64) (.int .i64 k) es i = some x ∧ x.map (·.2) = lookI es k ∧
      (∀ j v, x = some (j, v) → i ≤ j ∧ ∃ (hj : j - i < es.length), (es[j - i]).key = .int .i64 k ∧ es[j - i].val = v ∧ ∀ m (hm : m < j - i), (es[m]'(by omega)).key ≠ .int .i64 k) ∧ (x = none → ∀ e ∈ es, e.key ≠ .int .i64 k)
  | [], k, i, _ => ⟨none, rfl, rfl, by simp, by simp⟩
  | e :: es, k, i, h => by
    obtain ⟨n, hn⟩ := h e (by simp)
    obtain ⟨x, hx, hl, hs, hnn⟩ := findNow_int es k (i + 1) (fun e' he' => h e' (by simp [he']))
    by_cases hkn : k = n
    · subst hkn
      refine ⟨some (i, e.val), by simp [Instr.findNow, Instr.sameNow, hn], by simp [lookI, hn], ?_, by simp⟩
      rintro j v hjv
      simp only [Option.some.injEq, Prod.mk.injEq] at hjv
      obtain ⟨rfl, rfl⟩ := hjv
      refine ⟨Nat.le_refl _, by simp, by simpa using hn, by simp, fun m hm => by omega⟩
    · have hb : (k == n) = false := by simpa using hkn
      have hb' : (n == k) = false := by simpa using fun e => hkn e.symm
      refine ⟨x, by simp [Instr.findNow, Instr.sameNow, hn, hb, hx], by rw [hl]; simp [lookI, hn, hb'], ?_, ?_⟩
      · rintro j v hjv
        obtain ⟨h1, h2, h3, h4, h5⟩ := hs j v hjv
        have e1 : j - i = (j - (i + 1)) + 1 := by omega
        refine ⟨by omega, by simp only [List.length_cons]; omega, ?_, ?_, ?_⟩
        · simp only [e1, List.getElem_cons_succ]; exact h3
        · simp only [e1, List.getElem_cons_succ]; exact h4
        · intro m hm
          rcases m with _ | m
          · simp only [List.getElem_cons_zero, hn]
            intro e; injection e with _ e; exact hkn e.symm
          · simp only [List.getElem_cons_succ]
            exact h5 m (by omega)
      · rintro rfl e' he'
        rcases List.mem_cons.1 he' with rfl | he'
        · rw [hn]; intro e; injection e with _ e; exact hkn e.symm
        · exact hnn rfl e' he'

/-- block r of w is a map keyed by int that holds f -/
def IMap (w : World) (r : Nat) (f : Int → Option Value) : Prop :=
  ∃ es c, MapAt w r es c ∧ KeysI es ∧ (es.map keyI).Nodup ∧ ∀ k, lookI es k = f k

def updI (f : Int → Option Value) (k : Int) (v : Option Value) : Int → Option Value := fun j => if j = k then v else f j

section
variable {w w' : World} {r : Nat} {f : Int → Option Value}
theorem IMap.lt (h : IMap w r f) : r < w.heap.size := by obtain ⟨es, c, h, _⟩ := h; exact h.lt
theorem IMap.of_block (h : IMap w r f) (hb : w'.heap[r]? = w.heap[r]?) : IMap w' r f := by
  obtain ⟨es, c, h, hr⟩ := h
  exact ⟨es, c, h.of_block hb, hr⟩
theorem IMap.kept {row : Option Nat} (h : IMap w r f) (hg : w.grownBy w' row) (hne : some r ≠ row) : IMap w' r f := h.of_block (hg.block r h.lt hne)
theorem IMap.below {B : Nat} (h : IMap w r f) (hb : Below B w w') (hr : r < B) : IMap w' r f := h.of_block (hb.block r hr)
theorem IMap.alloc (h : IMap w r f) (o : Obj) : IMap (w.alloc o) r f := h.kept (World.grownBy_alloc w o none) (by simp)
theorem IMap.made (w : World) : IMap (w.alloc (.map #[] 0)) w.heap.size fun _ => none :=
  ⟨[], 0, MapAt.made w, by simp [KeysI], by simp, by simp [lookI]⟩

variable {P : Program} {t kt et : TypeId} (ht : P.underlying t = some (.map kt et)) (hk : P.underlying kt = some (.int .i64))

theorem keyI_of {e : MapEntry} {n : Int} (h : e.key = .int .i64 n) : keyI e = n := by simp [keyI, h]

include ht hk in
theorem IMap.lookup (h : IMap w r f) {z : Value} (hz : (zeroValue et).run P w = .ok z w) (k : Int) (ok : Bool) :
    (Instr.lookup t (.map (some r)) (.int .i64 k) ok).run P w = .ok (if ok then .tuple #[(f k).getD z, .bool (f k).isSome] else (f k).getD z) w := by
  obtain ⟨es, c, h, hK, _, hf⟩ := h
  obtain ⟨x, hx, hl, _⟩ := findNow_int es k 0 hK
  rw [run_lookup_at ht hk plain_int h _ hz ok x hx, hl, hf]
  have : x.isSome = (f k).isSome := by rw [← hf, ← hl]; simp
  rw [this]

theorem lookI_modify : ∀ (es : List MapEntry) (i : Nat) (k : Int) (v : Value), KeysI es → (es.map keyI).Nodup → (hi : i < es.length) → es[i].key = .int .i64 k →
    ∀ j, lookI (es.modify i fun e => { e with key := .int .i64 k, val := v }) j = updI (lookI es) k (some v) j
  | [], i, k, v, _, _, hi, _ => by simp at hi
  | e :: es, 0, k, v, hK, hN, _, hkey => by
    intro j
    simp only [List.getElem_cons_zero] at hkey
    by_cases hj : j = k
    · subst hj; simp [lookI, updI]
    · have hb : (k == j) = false := by simpa using fun e => hj e.symm
      simp [lookI, updI, hj, hkey, hb]
  | e :: es, i + 1, k, v, hK, hN, hi, hkey => by
    intro j
    simp only [List.getElem_cons_succ] at hkey
    simp only [List.map_cons, List.nodup_cons] at hN
    have ih := lookI_modify es i k v (fun e' he' => hK e' (by simp [he'])) hN.2 (by simpa using hi) hkey j
    obtain ⟨n, hn⟩ := hK e (by simp)
    have hne : n ≠ k := by
      rintro rfl
      apply hN.1
      rw [keyI_of hn]
      exact List.mem_map.2 ⟨es[i]'(by simpa using hi), List.getElem_mem _, keyI_of hkey⟩
    simp only [List.modify_succ_cons]
    by_cases hj : n = j
    · subst hj
      simp [lookI, updI, hn, hne]
    · have hb : (n == j) = false := by simpa using hj
      simp only [lookI, List.find?_cons, hn, hb, updI] at ih ⊢
      exact ih

theorem lookI_append (es : List MapEntry) (e : MapEntry) (k : Int) (hkey : e.key = .int .i64 k) (hno : ∀ e' ∈ es, e'.key ≠ .int .i64 k) (hK : KeysI es) :
    ∀ j, lookI (es ++ [e]) j = updI (lookI es) k (some e.val) j := by
  intro j
  by_cases hj : j = k
  · subst hj
    have : es.find? (fun e => match e.key with | .int .i64 n => n == j | _ => false) = none := by
      rw [List.find?_eq_none]
      intro e' he'
      obtain ⟨n, hn⟩ := hK e' he'
      have := hno e' he'
      rw [hn] at this ⊢
      simp only [beq_iff_eq]
      rintro rfl
      exact this rfl
    simp [lookI, updI, List.find?_append, this, hkey]
  · have hb : (k == j) = false := by simpa using fun e => hj e.symm
    simp [lookI, updI, List.find?_append, hkey, hb, hj]

theorem mem_modify_key {es : List MapEntry} {i : Nat} {k : Int} {v : Value} (hK : KeysI es) : KeysI (es.modify i fun e => { e with key := .int .i64 k, val := v }) := by
  intro e he
  obtain ⟨j, hj, rfl⟩ := List.mem_iff_getElem.1 he
  rw [List.getElem_modify]
  split
  · exact ⟨k, rfl⟩
  · exact hK _ (List.getElem_mem _)

theorem map_keyI_modify {es : List MapEntry} {i : Nat} {k : Int} {v : Value} (hi : i < es.length) (hkey : es[i].key = .int .i64 k) :
    (es.modify i fun e => { e with key := .int .i64 k, val := v }).map keyI = es.map keyI := by
  apply List.ext_getElem
  · simp
  · intro j h1 h2
    simp only [List.getElem_map, List.getElem_modify]
    split
    · rename_i hij
      subst hij
      simp [keyI, hkey]
    · rfl

include ht hk in
/-- a store -/
theorem IMap.update (h : IMap w r f) (k : Int) (v : Value) :
    ∃ w', (Instr.mapUpdate t (.map (some r)) (.int .i64 k) v).run P w = .ok () w' ∧ IMap w' r (updI f k (some v)) ∧ Turned w w' r := by
  obtain ⟨es, c, h, hK, hN, hf⟩ := h
  obtain ⟨x, hx, hl, hs, hno⟩ := findNow_int es k 0 hK
  have hfe : lookI es = f := funext hf
  rcases x with _ | ⟨i, v0⟩
  · refine ⟨_, run_mapUpdate_new ht hk plain_int h _ v hx, ⟨_, _, h.set _ _, ?_, ?_, ?_⟩, turned_setBlock _ _ _⟩
    · intro e he
      rcases List.mem_append.1 he with he | he
      · exact hK e he
      · simp at he; subst he; exact ⟨k, rfl⟩
    · rw [List.map_append, List.nodup_append]
      refine ⟨hN, by simp, ?_⟩
      intro a ha b hb
      simp [keyI] at hb
      subst hb
      obtain ⟨e, he, rfl⟩ := List.mem_map.1 ha
      obtain ⟨n, hn⟩ := hK e he
      rw [keyI_of hn]
      rintro rfl
      exact hno rfl e he hn
    · rw [← hfe]
      exact lookI_append es (MapEntry.mk (.int .i64 k) v c) k rfl (hno rfl) hK
  · obtain ⟨_, h2, h3, h4, h5⟩ := hs i v0 rfl
    simp only [Nat.sub_zero] at h2 h3 h4
    have hr : w.heap[r]? = some (.map es.toArray c) := h
    refine ⟨setBlock w r (.map (es.modify i fun e => { e with key := .int .i64 k, val := v }).toArray c), ?_, ⟨_, _, h.set _ _, mem_modify_key hK, ?_, ?_⟩, turned_setBlock _ _ _⟩
    · have hst : ∀ w0 : World, (Instr.keyThatStays (.int .i64 k) (.int .i64 k)).run P w0 = .ok (.int .i64 k) w0 := by
        intro w0
        simp [Instr.keyThatStays, Instr.sameBits]
      have hidx : es[i]? = some es[i] := by simp [h2]
      have e3 : Instr.findNow (.int .i64) (.int .i64 k) es 0 = some (some (i, v0)) := hx
      simp [Instr.mapUpdate, run_underlying ht, getObj, Sem.run, hr, run_checkKey hk plain_int, run_findKey hk (.int .i64 k) (some (i, v0)) e3, setObj, setBlock, hidx, h3, hst]
    · rw [map_keyI_modify h2 h3]; exact hN
    · rw [← hfe]
      exact lookI_modify es i k v hK hN h2 h3

theorem lookI_eraseIdx : ∀ (es : List MapEntry) (i : Nat) (k : Int), KeysI es → (es.map keyI).Nodup → (hi : i < es.length) → es[i].key = .int .i64 k →
    ∀ j, lookI (es.eraseIdx i) j = updI (lookI es) k none j
  | [], i, k, _, _, hi, _ => by simp at hi
  | e :: es, 0, k, hK, hN, _, hkey => by
    intro j
    simp only [List.getElem_cons_zero] at hkey
    simp only [List.map_cons, List.nodup_cons, keyI_of hkey] at hN
    by_cases hj : j = k
    · subst hj
      have : es.find? (fun e => match e.key with | .int .i64 n => n == j | _ => false) = none := by
        rw [List.find?_eq_none]
        intro e' he'
        obtain ⟨n, hn⟩ := hK e' (by simp [he'])
        rw [hn]
        simp only [beq_iff_eq]
        rintro rfl
        exact hN.1 (List.mem_map.2 ⟨e', he', keyI_of hn⟩)
      simp [lookI, updI, this]
    · have hb : (k == j) = false := by simpa using fun e => hj e.symm
      simp [lookI, updI, hj, hkey, hb]
  | e :: es, i + 1, k, hK, hN, hi, hkey => by
    intro j
    simp only [List.getElem_cons_succ] at hkey
    simp only [List.map_cons, List.nodup_cons] at hN
    have ih := lookI_eraseIdx es i k (fun e' he' => hK e' (by simp [he'])) hN.2 (by simpa using hi) hkey j
    obtain ⟨n, hn⟩ := hK e (by simp)
    have hne : n ≠ k := by
      rintro rfl
      apply hN.1
      rw [keyI_of hn]
      exact List.mem_map.2 ⟨es[i]'(by simpa using hi), List.getElem_mem _, keyI_of hkey⟩
    simp only [List.eraseIdx_cons_succ]
    by_cases hj : n = j
    · subst hj
      simp [lookI, updI, hn, hne]
    · have hb : (n == j) = false := by simpa using hj
      simp only [lookI, List.find?_cons, hn, hb, updI] at ih ⊢
      exact ih

include ht hk in
/-- a delete -/
theorem IMap.delete (h : IMap w r f) (k : Int) (a1 ty : TypeId) :
    ∃ w', (Builtin.delete_ #[t, a1] ty #[.map (some r), .int .i64 k]).run P w = .ok (.tuple #[]) w' ∧ IMap w' r (updI f k none) ∧ Turned w w' r := by
  obtain ⟨es, c, h, hK, hN, hf⟩ := h
  obtain ⟨x, hx, hl, hs, hno⟩ := findNow_int es k 0 hK
  have hfe : lookI es = f := funext hf
  have hr : w.heap[r]? = some (.map es.toArray c) := h
  rcases x with _ | ⟨i, v0⟩
  · refine ⟨setBlock w r (.map es.toArray c), ?_, ⟨_, _, h.set _ _, hK, hN, ?_⟩, turned_setBlock _ _ _⟩
    · have e3 : Instr.findNow (.int .i64) (.int .i64 k) es 0 = some none := hx
      simp [Builtin.delete_, run_underlying ht, getObj, Sem.run, hr, run_checkKey hk plain_int, run_findKey hk (.int .i64 k) none e3, setObj, setBlock]
    · intro j
      rw [hf, updI]
      split
      · rename_i e; subst e; rw [← hf, ← hl]; rfl
      · rfl
  · obtain ⟨_, h2, h3, h4, h5⟩ := hs i v0 rfl
    simp only [Nat.sub_zero] at h2 h3 h4
    refine ⟨setBlock w r (.map (es.eraseIdx i).toArray c), ?_, ⟨_, _, h.set _ _, fun e he => hK e (List.mem_of_mem_eraseIdx he), ?_, ?_⟩, turned_setBlock _ _ _⟩
    · have e3 : Instr.findNow (.int .i64) (.int .i64 k) es 0 = some (some (i, v0)) := hx
      simp [Builtin.delete_, run_underlying ht, getObj, Sem.run, hr, run_checkKey hk plain_int, run_findKey hk (.int .i64 k) (some (i, v0)) e3, setObj, setBlock]
    · exact List.Nodup.sublist ((List.eraseIdx_sublist es i).map keyI) hN
    · rw [← hfe]
      exact lookI_eraseIdx es i k hK hN h2 h3
end
end Go.Proofs.YtkcgchpbjegneaaGreatDoor
