/-
  Walks of errors.As at a *api.Errno, of api.Tell, plain.Place, openbelllaw.is and bare: what they tell of nil, of an Errno, and of an *api.At around one.
-/
import Derived.WalkKit
import Derived.WalkLawsBesides
import Derived.WalkSpells
import Derived.LaidEql
import Derived.Stop.Asserts
import Derived.RowKitTokens
import Derived.Deep.QuietTactic
import Derived.BigQuiet
import Derived.Test.YtkcgchpbjegneaaDoorRows
import Derived.Test.YtkcgchpbjegneaaDoorMem
namespace Go.Proofs.YtkcgchpbjegneaaDoor
open Go.RowKit Go.Extern.Stop Go.Stop Go.Extern

/-- what the package-level variable errors.errorType holds -/
def ErrType (w : World) : Prop := w.cell? ⟨0, 0, none⟩ = some (.iface 138 (.agg #[.pointer (some ⟨1, 35, none⟩)]))
theorem ErrType.lt {w : World} (h : ErrType w) : 0 < w.heap.size := World.block_lt_of_cell? w _ h
theorem ErrType.below {w w' : World} {B : Nat} (h : ErrType w) (hb : Below B w w') (hB : w.heap.size ≤ B) : ErrType w' :=
  (hb.cell (p := ⟨0, 0, none⟩) (Nat.lt_of_lt_of_le h.lt hB)).trans h

/-! ### closed facts on the model's entries for internal/reflectlite -/
theorem valueOfP (t : Addr) (w : World) : (ReflectliteValue.unpack (.iface 135 (.pointer (some t)))).run Tryd.prog w
    = .ok (.agg #[.pointer (some ⟨1, 135, none⟩), .pointer (some ⟨w.heap.size, 0, none⟩), .int .u64 150]) (w.alloc (.cells #[.pointer (some t)] 135)) := by kernel_rfl
theorem typeP (a : Addr) (w : World) : (ReflectliteValue.methodAny (ReflectliteValue.valueError "reflectlite.Value.Type" 0) (fun t _ _ _ => ReflectliteType.toType t) #[.agg #[.pointer (some ⟨1, 135, none⟩), .pointer (some a), .int .u64 150]]).run Tryd.prog w
    = .ok (.iface 138 (.agg #[.pointer (some ⟨1, 135, none⟩)])) w := by kernel_rfl
theorem methodKind (h : Value) (w : World) : (Go.method 288 138 (.agg #[h]) "Kind").run Tryd.prog w = .ok (95, h) w := by kernel_rfl
theorem kindP (w : World) : ((ReflectliteType.abiMethod fun t => (fun a : Nat => Value.int IntKind.u8 (a : Int)) <$> Rtype.kind t) #[.pointer (some ⟨1, 135, none⟩)]).run Tryd.prog w = .ok (.int .u8 22) w := by kernel_rfl
theorem kindE (w : World) : ((ReflectliteType.abiMethod fun t => (fun a : Nat => Value.int IntKind.u8 (a : Int)) <$> Rtype.kind t) #[.pointer (some ⟨1, 37, none⟩)]).run Tryd.prog w = .ok (.int .u8 2) w := by kernel_rfl
theorem rlm (z : Sem Value) (f : TypeId → Addr → Nat → Nat → Sem Value) (v : Value) :
    ReflectliteValue.method z f #[v] = (do match ← ReflectliteValue.parts v with | none => z | some (t, a, fl) => f t a fl (fl % 32)) := rfl
theorem partsP (a : Addr) (w : World) : (ReflectliteValue.parts (.agg #[.pointer (some ⟨1, 135, none⟩), .pointer (some a), .int .u64 150])).run Tryd.prog w = .ok (some (135, a, 150)) w := by kernel_rfl
theorem isNilP (a p : Addr) (W : World) (ha : W.cell? a = some (.pointer (some p))) :
    (ReflectliteValue.method (ReflectliteValue.valueError "reflectlite.Value.IsNil" 0) ReflectliteValue.isNil #[.agg #[.pointer (some ⟨1, 135, none⟩), .pointer (some a), .int .u64 150]]).run Tryd.prog W = .ok (.bool false) W := by
  rw [rlm]
  simp only [Sem.run_bind, partsP, Result.andThen]
  simp [ReflectliteValue.isNil, loadVar, isAgg, underlying, Tryd.underlying135, ha, Result.andThen]
theorem methodElem (h : Value) (w : World) : (Go.method 288 138 (.agg #[h]) "Elem").run Tryd.prog w = .ok (104, .agg #[h]) w := by kernel_rfl
theorem methodImplements (h : Value) (w : World) : (Go.method 288 138 (.agg #[h]) "Implements").run Tryd.prog w = .ok (105, .agg #[h]) w := by kernel_rfl
theorem methodAssignableTo (h : Value) (w : World) : (Go.method 288 138 (.agg #[h]) "AssignableTo").run Tryd.prog w = .ok (103, .agg #[h]) w := by kernel_rfl
theorem elemP (w : World) : (ReflectliteType.method ReflectliteType.elem #[.agg #[.pointer (some ⟨1, 135, none⟩)]]).run Tryd.prog w = .ok (.iface 138 (.agg #[.pointer (some ⟨1, 37, none⟩)])) w := by kernel_rfl
theorem implementsE (w : World) : (ReflectliteType.relation "Implements" ReflectliteType.implements_ #[.agg #[.pointer (some ⟨1, 37, none⟩)], .iface 138 (.agg #[.pointer (some ⟨1, 35, none⟩)])]).run Tryd.prog w = .ok (.bool true) w := by kernel_rfl
theorem typeOfE (v : Value) (w : World) : (ReflectliteType.typeOf #[.iface 37 v]).run Tryd.prog w = .ok (.iface 138 (.agg #[.pointer (some ⟨1, 37, none⟩)])) w := by kernel_rfl
theorem typeOfA (v : Value) (w : World) : (ReflectliteType.typeOf #[.iface 117 v]).run Tryd.prog w = .ok (.iface 138 (.agg #[.pointer (some ⟨1, 117, none⟩)])) w := by kernel_rfl
theorem assignableE (w : World) : (ReflectliteType.relation "AssignableTo" ReflectliteType.assignableTo #[.agg #[.pointer (some ⟨1, 37, none⟩)], .iface 138 (.agg #[.pointer (some ⟨1, 37, none⟩)])]).run Tryd.prog w = .ok (.bool true) w := by kernel_rfl
theorem assignableA (w : World) : (ReflectliteType.relation "AssignableTo" ReflectliteType.assignableTo #[.agg #[.pointer (some ⟨1, 117, none⟩)], .iface 138 (.agg #[.pointer (some ⟨1, 37, none⟩)])]).run Tryd.prog w = .ok (.bool false) w := by kernel_rfl
theorem valueOfE (n : Int) (w : World) : (ReflectliteValue.unpack (.iface 37 (.int .i64 n))).run Tryd.prog w
    = .ok (.agg #[.pointer (some ⟨1, 37, none⟩), .pointer (some ⟨w.heap.size, 0, none⟩), .int .u64 130]) (w.alloc (.cells #[.int .i64 n] 37)) := by kernel_rfl
theorem elemOfP (w : World) : (Rtype.elem? 135).run Tryd.prog w = .ok (some 37) w := by kernel_rfl
theorem mkE (p : Addr) (w : World) : (ReflectliteValue.mk 37 p ReflectliteValue.flagAddr).run Tryd.prog w = .ok (.agg #[.pointer (some ⟨1, 37, none⟩), .pointer (some p), .int .u64 386]) w := by kernel_rfl
theorem elemVP (a p : Addr) (W : World) (ha : W.cell? a = some (.pointer (some p))) :
    (ReflectliteValue.method (ReflectliteValue.valueError "reflectlite.Value.Elem" 0) ReflectliteValue.elem #[.agg #[.pointer (some ⟨1, 135, none⟩), .pointer (some a), .int .u64 150]]).run Tryd.prog W
      = .ok (.agg #[.pointer (some ⟨1, 37, none⟩), .pointer (some p), .int .u64 386]) W := by
  rw [rlm]
  simp only [Sem.run_bind, partsP, Result.andThen]
  simp [ReflectliteValue.elem, loadVar, isAgg, underlying, Tryd.underlying135, ha, Result.andThen, elemOfP, mkE]
theorem rls (v x : Value) : ReflectliteValue.set #[v, x] = (do
    let (some (dst, a, fl), some (src, b, _)) := (← ReflectliteValue.parts v, ← ReflectliteValue.parts x)
      | unsupported (.noEntry "extern/(internal/reflectlite.Value).Set.zeroValue")
    if fl / ReflectliteValue.flagAddr % 2 == 0 then unsupported (.noEntry "extern/(internal/reflectlite.Value).Set.unaddressable")
    let val ← loadVar src b
    if ← Rtype.directlyAssignable dst src then storeVar dst a val
    else if ← Rtype.implements dst src then
      if (← Rtype.kind src) == 20 then
        match val with
        | .nilIface => unsupported (.noEntry "extern/reflectlite: a nil value of one interface type handed on as a value of another")
        | _ => storeVar dst a val
      else storeVar dst a (.iface src val)
    else panicString ("reflectlite.Set: value of type " ++ (← Rtype.spelt src) ++ " is not assignable to type " ++ (← Rtype.spelt dst))
    pure (.tuple #[])) := rfl
theorem partsEa (a : Addr) (w : World) : (ReflectliteValue.parts (.agg #[.pointer (some ⟨1, 37, none⟩), .pointer (some a), .int .u64 386])).run Tryd.prog w = .ok (some (37, a, 386)) w := by kernel_rfl
theorem partsE (a : Addr) (w : World) : (ReflectliteValue.parts (.agg #[.pointer (some ⟨1, 37, none⟩), .pointer (some a), .int .u64 130])).run Tryd.prog w = .ok (some (37, a, 130)) w := by kernel_rfl
theorem directE (w : World) : (Rtype.directlyAssignable 37 37).run Tryd.prog w = .ok true w := by kernel_rfl
theorem setE (ta b : Addr) (n : Int) (old : Value) (W : World) (hb : W.cell? b = some (.int .i64 n)) (ht : W.cell? ta = some old) (hf : W.frozen? ta = false) :
    (ReflectliteValue.set #[.agg #[.pointer (some ⟨1, 37, none⟩), .pointer (some ta), .int .u64 386], .agg #[.pointer (some ⟨1, 37, none⟩), .pointer (some b), .int .u64 130]]).run Tryd.prog W
      = .ok (.tuple #[]) (W.setCell ta (.int .i64 n)) := by
  rw [rls]
  simp only [Sem.run_bind, partsEa, partsE, Result.andThen]
  simp [ReflectliteValue.flagAddr, loadVar, isAgg, underlying, Tryd.underlying37, hb, Result.andThen, directE, storeVar, Value.cells, storeCells, Addr.add]
  rw [run_store Tryd.prog W ta _ _ (by rfl)]
  simp [ht, hf]

/-! ### errors.As -/
theorem as_nil (t : Value) (w : World) : Calls Tryd.prog 60 #[.nilIface, t] w fun e w' => e = .returned (.bool false) ∧ w = w' := by
  go_enter Tryd.func60, Tryd.ntmps60
  go_wp2
  go_ret
  exact ⟨rfl, rfl⟩
set_option maxRecDepth 100000 in
set_option maxHeartbeats 4000000 in
theorem as_errno (n : Int) (tg : Value) (a t : Addr) (old : Value) (w : World) (ha : w.cell? a = some (.pointer (some t))) (ht : w.cell? t = some old) (hf : w.frozen? t = false) :
    Calls Tryd.prog 75 #[.iface 37 (.int .i64 n), tg, .agg #[.pointer (some ⟨1, 135, none⟩), .pointer (some a), .int .u64 150], .iface 138 (.agg #[.pointer (some ⟨1, 37, none⟩)])] w
      fun e w' => e = .returned (.bool true) ∧ w'.cell? t = some (.int .i64 n) ∧ Below t.block w w' := by
  have hal := World.block_lt_of_cell? w _ ha
  have htl := World.block_lt_of_cell? w _ ht
  have h51 := @run_callFunc_extern Tryd.prog 56 _ (fun args => ReflectliteValue.unpack (args.getD 0 (.tuple #[]))) Tryd.func56 (by kernel_rfl) (by kernel_rfl) (by kernel_rfl) (by kernel_rfl)
  have h55 := @run_callFunc_extern Tryd.prog 77 _ ReflectliteType.typeOf Tryd.func77 (by kernel_rfl) (by kernel_rfl) (by kernel_rfl) (by kernel_rfl)
  have h83 := @run_callFunc_extern Tryd.prog 103 _ (ReflectliteType.relation "AssignableTo" ReflectliteType.assignableTo) Tryd.func103 (by kernel_rfl) (by kernel_rfl) (by kernel_rfl) (by kernel_rfl)
  have h56 := @run_callFunc_extern Tryd.prog 78 _ (ReflectliteValue.method (ReflectliteValue.valueError "reflectlite.Value.Elem" 0) ReflectliteValue.elem) Tryd.func78 (by kernel_rfl) (by kernel_rfl) (by kernel_rfl) (by kernel_rfl)
  have h57 := @run_callFunc_extern Tryd.prog 79 _ ReflectliteValue.set Tryd.func79 (by kernel_rfl) (by kernel_rfl) (by kernel_rfl) (by kernel_rfl)
  have tO := typeOfE
  have mA := methodAssignableTo
  have aE := assignableE
  have vE := valueOfE
  have el := elemVP a t (w.alloc (.cells #[.pointer (some ⟨1, 135, none⟩), .pointer (some a), .int .u64 150] 127)) ((World.cell?_alloc_lt _ _ _ hal).trans ha)
  have st := setE t ⟨w.heap.size + 1, 0, none⟩ n old ((w.alloc (.cells #[.pointer (some ⟨1, 135, none⟩), .pointer (some a), .int .u64 150] 127)).alloc (.cells #[.int .i64 n] 37))
    (by rw [World.cell?_alloc_at _ _ _ _ (by simp)]; rfl)
    (by rw [World.cell?_alloc_lt _ _ t (by simp; omega), World.cell?_alloc_lt _ _ t htl]; exact ht)
    (by rw [World.frozen?_alloc_old _ _ t (by simp; omega), World.frozen?_alloc_old _ _ t (Nat.ne_of_lt htl)]; exact hf)
  go_enter Tryd.func75, Tryd.ntmps75
  go_wp2
  refine wp_loop_rounds 1 ?_
  rw [rounds_succ]
  go_wp2
  go_ret
  refine ⟨rfl, ?_, (((Below.refl t.block w).alloc (by omega) _).alloc (by simp; omega) _).setCell (Nat.le_refl _) _⟩
  refine World.cell?_setCell_same _ _ _ (u := old) ?_
  rw [World.cell?_alloc_lt _ _ t (by simp; omega), World.cell?_alloc_lt _ _ t htl]
  exact ht

theorem noAsA (v : Value) (xT : TypeId) (w : World) : (Instr.typeAssert (.iface 117 v) xT 153 true).run Tryd.prog w = .ok (.tuple #[.nilIface, .bool false]) w :=
  run_typeAssert_lacksB Tryd.underlying153 (by kernel_rfl) (by kernel_rfl) v xT w
theorem unwrapA (v : Value) (xT : TypeId) (w : World) : (Instr.typeAssert (.iface 117 v) xT 120 true).run Tryd.prog w = .ok (.tuple #[.iface 117 v, .bool true]) w :=
  run_typeAssert_hasB Tryd.underlying120 (by kernel_rfl) v xT w
theorem noUnwrapE (v : Value) (xT : TypeId) (w : World) : (Instr.typeAssert (.iface 37 v) xT 120 true).run Tryd.prog w = .ok (.tuple #[.nilIface, .bool false]) w :=
  run_typeAssert_lacksB Tryd.underlying120 (by kernel_rfl) (by kernel_rfl) v xT w
theorem methodUnwrap (h : Value) (w : World) : (Go.method 288 117 h "Unwrap").run Tryd.prog w = .ok (100, h) w := by kernel_rfl

set_option maxHeartbeats 400000 in
theorem unwrap_any (g : Nat) (n : Int) (w : World) (hg : w.cell? ⟨g, 0, none⟩ = some (.int .i64 n)) :
    Calls Tryd.prog 100 #[.pointer (some ⟨g, 0, none⟩)] w fun e w' => e = .returned (.iface 37 (.int .i64 n)) ∧ w = w' := by
  go_enter Tryd.func100, Tryd.ntmps100
  go_wp2
  go_ret
  exact ⟨rfl, rfl⟩

set_option maxRecDepth 100000 in
set_option maxHeartbeats 4000000 in
theorem as_at (g : Nat) (n : Int) (tg : Value) (a t : Addr) (old : Value) (w : World) (ha : w.cell? a = some (.pointer (some t))) (ht : w.cell? t = some old) (hf : w.frozen? t = false) (hg : w.cell? ⟨g, 0, none⟩ = some (.int .i64 n)) :
    Calls Tryd.prog 75 #[.iface 117 (.pointer (some ⟨g, 0, none⟩)), tg, .agg #[.pointer (some ⟨1, 135, none⟩), .pointer (some a), .int .u64 150], .iface 138 (.agg #[.pointer (some ⟨1, 37, none⟩)])] w
      fun e w' => e = .returned (.bool true) ∧ w'.cell? t = some (.int .i64 n) ∧ Below t.block w w' := by
  have hal := World.block_lt_of_cell? w _ ha
  have htl := World.block_lt_of_cell? w _ ht
  have hgl := World.block_lt_of_cell? w _ hg
  have h51 := @run_callFunc_extern Tryd.prog 56 _ (fun args => ReflectliteValue.unpack (args.getD 0 (.tuple #[]))) Tryd.func56 (by kernel_rfl) (by kernel_rfl) (by kernel_rfl) (by kernel_rfl)
  have h55 := @run_callFunc_extern Tryd.prog 77 _ ReflectliteType.typeOf Tryd.func77 (by kernel_rfl) (by kernel_rfl) (by kernel_rfl) (by kernel_rfl)
  have h83 := @run_callFunc_extern Tryd.prog 103 _ (ReflectliteType.relation "AssignableTo" ReflectliteType.assignableTo) Tryd.func103 (by kernel_rfl) (by kernel_rfl) (by kernel_rfl) (by kernel_rfl)
  have h56 := @run_callFunc_extern Tryd.prog 78 _ (ReflectliteValue.method (ReflectliteValue.valueError "reflectlite.Value.Elem" 0) ReflectliteValue.elem) Tryd.func78 (by kernel_rfl) (by kernel_rfl) (by kernel_rfl) (by kernel_rfl)
  have h57 := @run_callFunc_extern Tryd.prog 79 _ ReflectliteValue.set Tryd.func79 (by kernel_rfl) (by kernel_rfl) (by kernel_rfl) (by kernel_rfl)
  have tO := typeOfE
  have tA := typeOfA
  have mA := methodAssignableTo
  have aE := assignableE
  have aA := assignableA
  have vE := valueOfE
  have nA := noAsA
  have uA := unwrapA
  have mU := methodUnwrap
  have el := elemVP a t (w.alloc (.cells #[.pointer (some ⟨1, 135, none⟩), .pointer (some a), .int .u64 150] 127)) ((World.cell?_alloc_lt _ _ _ hal).trans ha)
  have st := setE t ⟨w.heap.size + 1, 0, none⟩ n old ((w.alloc (.cells #[.pointer (some ⟨1, 135, none⟩), .pointer (some a), .int .u64 150] 127)).alloc (.cells #[.int .i64 n] 37))
    (by rw [World.cell?_alloc_at _ _ _ _ (by simp)]; rfl)
    (by rw [World.cell?_alloc_lt _ _ t (by simp; omega), World.cell?_alloc_lt _ _ t htl]; exact ht)
    (by rw [World.frozen?_alloc_old _ _ t (by simp; omega), World.frozen?_alloc_old _ _ t (Nat.ne_of_lt htl)]; exact hf)
  have hg' : (w.alloc (.cells #[.pointer (some ⟨1, 135, none⟩), .pointer (some a), .int .u64 150] 127)).cell? ⟨g, 0, none⟩ = some (.int .i64 n) := (World.cell?_alloc_lt _ _ _ hgl).trans hg
  go_enter Tryd.func75, Tryd.ntmps75
  go_wp2
  refine wp_loop_rounds 2 ?_
  rw [rounds_succ]
  go_wp2_with (go_at_call 100; refine (unwrap_any g n _ hg').mono ?_; rintro e w' ⟨rfl, rfl⟩)
  rw [rounds_succ]
  go_wp2
  go_ret
  refine ⟨rfl, ?_, (((Below.refl t.block w).alloc (by omega) _).alloc (by simp; omega) _).setCell (Nat.le_refl _) _⟩
  refine World.cell?_setCell_same _ _ _ (u := old) ?_
  rw [World.cell?_alloc_lt _ _ t (by simp; omega), World.cell?_alloc_lt _ _ t htl]
  exact ht

/-! ### errors.As at a *Errno in a block of its own, told to the last block -/
set_option maxRecDepth 100000 in
set_option maxHeartbeats 4000000 in
theorem errorsAs_of (err : Value) (n : Int) (t : Nat) (w : World) (hE : ErrType w) (ht : w.cell? ⟨t, 0, none⟩ = some (.int .i64 0)) (hf : w.frozen? ⟨t, 0, none⟩ = false) (hne : ∃ u v, err = .iface u v)
    (hin : ∀ (tg : Value) (a : Addr) (W : World), Below w.heap.size w W → W.cell? a = some (.pointer (some ⟨t, 0, none⟩)) → W.cell? ⟨t, 0, none⟩ = some (.int .i64 0) → W.frozen? ⟨t, 0, none⟩ = false →
      Calls Tryd.prog 75 #[err, tg, .agg #[.pointer (some ⟨1, 135, none⟩), .pointer (some a), .int .u64 150], .iface 138 (.agg #[.pointer (some ⟨1, 37, none⟩)])] W
        fun e w' => e = .returned (.bool true) ∧ w'.cell? ⟨t, 0, none⟩ = some (.int .i64 n) ∧ Below t W w') :
    Calls Tryd.prog 60 #[err, .iface 135 (.pointer (some ⟨t, 0, none⟩))] w fun e w' => e = .returned (.bool true) ∧ w'.cell? ⟨t, 0, none⟩ = some (.int .i64 n) ∧ Below t w w' := by
  obtain ⟨u, v, rfl⟩ := hne
  have htl := World.block_lt_of_cell? w _ ht
  have hel := hE.lt
  have h51 := @run_callFunc_extern Tryd.prog 56 _ (fun args => ReflectliteValue.unpack (args.getD 0 (.tuple #[]))) Tryd.func56 (by kernel_rfl) (by kernel_rfl) (by kernel_rfl) (by kernel_rfl)
  have h52 := @run_callFunc_extern Tryd.prog 73 _ (ReflectliteValue.methodAny (ReflectliteValue.valueError "reflectlite.Value.Type" 0) (fun t _ _ _ => ReflectliteType.toType t)) Tryd.func73 (by kernel_rfl) (by kernel_rfl) (by kernel_rfl) (by kernel_rfl)
  have h53 := @run_callFunc_extern Tryd.prog 74 _ (ReflectliteValue.method (ReflectliteValue.valueError "reflectlite.Value.IsNil" 0) ReflectliteValue.isNil) Tryd.func74 (by kernel_rfl) (by kernel_rfl) (by kernel_rfl) (by kernel_rfl)
  have h72 := @run_callFunc_extern Tryd.prog 95 _ (ReflectliteType.abiMethod fun t => do pure (.int .u8 (← Rtype.kind t))) Tryd.func95 (by kernel_rfl) (by kernel_rfl) (by kernel_rfl) (by kernel_rfl)
  have h85 := @run_callFunc_extern Tryd.prog 104 _ (ReflectliteType.method ReflectliteType.elem) Tryd.func104 (by kernel_rfl) (by kernel_rfl) (by kernel_rfl) (by kernel_rfl)
  have h86 := @run_callFunc_extern Tryd.prog 105 _ (ReflectliteType.relation "Implements" ReflectliteType.implements_) Tryd.func105 (by kernel_rfl) (by kernel_rfl) (by kernel_rfl) (by kernel_rfl)
  have f6 := valueOfP
  have f7 := typeP
  have mK := methodKind
  have mE := methodElem
  have mI := methodImplements
  have kP := kindP
  have kE := kindE
  have eP := elemP
  have iE := implementsE
  have n8 := isNilP ⟨w.heap.size, 0, none⟩ ⟨t, 0, none⟩ ((w.alloc (.cells #[.pointer (some ⟨t, 0, none⟩)] 135)).alloc (.cells #[.pointer (some ⟨1, 135, none⟩), .pointer (some ⟨w.heap.size, 0, none⟩), .int .u64 150] 127)) (by simp)
  have hg2 : ((w.alloc (.cells #[.pointer (some ⟨t, 0, none⟩)] 135)).alloc (.cells #[.pointer (some ⟨1, 135, none⟩), .pointer (some ⟨w.heap.size, 0, none⟩), .int .u64 150] 127)).cell? ⟨0, 0, none⟩ = some (.iface 138 (.agg #[.pointer (some ⟨1, 35, none⟩)])) := by
    rw [World.cell?_alloc_lt _ _ ⟨0, 0, none⟩ (by simp <;> omega), World.cell?_alloc_lt _ _ ⟨0, 0, none⟩ hel]; exact hE
  have Hin := hid hin
  clear hin
  go_enter Tryd.func60, Tryd.ntmps60
  go_wp2_with fail
  refine (Hin.out _ ⟨w.heap.size, 0, none⟩ _ ?_ ?_ ?_ ?_).mono ?_
  · exact ((Below.refl _ w).alloc (Nat.le_refl _) _).alloc (by simp) _
  · rw [World.cell?_alloc_lt _ _ ⟨w.heap.size, 0, none⟩ (by simp)]; simp
  · rw [World.cell?_alloc_lt _ _ ⟨t, 0, none⟩ (by simp; omega), World.cell?_alloc_lt _ _ ⟨t, 0, none⟩ htl]; exact ht
  · rw [World.frozen?_alloc_old _ _ ⟨t, 0, none⟩ (by simp; omega), World.frozen?_alloc_old _ _ ⟨t, 0, none⟩ (Nat.ne_of_lt htl)]; exact hf
  rintro e w1 ⟨rfl, hc, hB⟩
  go_wp2
  go_ret
  exact ⟨rfl, hc, (((Below.refl t w).alloc (by omega) _).alloc (by simp; omega) _).trans hB⟩

/-! ### Tell -/
theorem tell_nil (w : World) : Calls Tryd.prog 54 #[.nilIface] w fun e w' => e = .returned (.int .i64 0) ∧ w = w' := by
  go_enter Tryd.func54, Tryd.ntmps54
  go_wp2
  go_ret
  exact ⟨rfl, rfl⟩

set_option maxHeartbeats 400000 in
theorem tell_errno (n : Int) (w : World) (hE : ErrType w) : Calls Tryd.prog 54 #[.iface 37 (.int .i64 n)] w fun e w' => e = .returned (.int .i64 n) ∧ Below w.heap.size w w' := by
  have HE := hid (hE.below ((Below.refl _ w).alloc (Nat.le_refl _) (.cells #[.int .i64 0] 37)) (Nat.le_refl _))
  go_enter Tryd.func54, Tryd.ntmps54
  go_wp2_with fail
  refine (errorsAs_of _ n w.heap.size _ HE.out (by simp) (by simp) ⟨_, _, rfl⟩ ?_).mono ?_
  · intro tg a W hB ha ht hf
    exact as_errno n tg a ⟨w.heap.size, 0, none⟩ _ W ha ht hf
  rintro e w1 ⟨rfl, hc, hB⟩
  go_wp2
  go_ret
  exact ⟨rfl, ((Below.refl _ w).alloc (Nat.le_refl _) _).trans hB⟩

set_option maxHeartbeats 400000 in
theorem tell_at (g : Nat) (n : Int) (w : World) (hE : ErrType w) (hg : w.cell? ⟨g, 0, none⟩ = some (.int .i64 n)) : Calls Tryd.prog 54 #[.iface 117 (.pointer (some ⟨g, 0, none⟩))] w fun e w' => e = .returned (.int .i64 n) ∧ Below w.heap.size w w' := by
  have hgl := World.block_lt_of_cell? w _ hg
  have HE := hid (hE.below ((Below.refl _ w).alloc (Nat.le_refl _) (.cells #[.int .i64 0] 37)) (Nat.le_refl _))
  go_enter Tryd.func54, Tryd.ntmps54
  go_wp2_with fail
  refine (errorsAs_of _ n w.heap.size _ HE.out (by simp) (by simp) ⟨_, _, rfl⟩ ?_).mono ?_
  · intro tg a W hB ha ht hf
    exact as_at g n tg a ⟨w.heap.size, 0, none⟩ _ W ha ht hf ((hB.cell (p := ⟨g, 0, none⟩) (by simp; omega)).trans ((World.cell?_alloc_lt _ _ _ hgl).trans hg))
  rintro e w1 ⟨rfl, hc, hB⟩
  go_wp2
  go_ret
  exact ⟨rfl, ((Below.refl _ w).alloc (Nat.le_refl _) _).trans hB⟩
end Go.Proofs.YtkcgchpbjegneaaDoor
