/-
  Walks of errors.As at a *api.Errno, of api.Tell, plain.Place, openbelllaw.is and bare: what they tell of nil, of an Errno, and of an *api.At around one.
-/
import Derived.WalkKit
import Derived.WalkLawsBesides
import Derived.WalkSpells
import Derived.LaidEql
import Derived.Stop.Asserts
import Derived.RowKitTokens
import Derived.Deep.QuietTactic
import Derived.BigQuiet
import Derived.Test.YtkcgchpbjegneaaGreatDoorRows
import Derived.Test.YtkcgchpbjegneaaGreatDoorMem
namespace Go.Proofs.YtkcgchpbjegneaaGreatDoor
open Go.RowKit Go.Extern.Stop Go.Stop Go.Extern

/-- what the package-level variable errors.errorType holds -/
def ErrType (w : World) : Prop := w.cell? ⟨0, 0, none⟩ = some (.iface 239 (.agg #[.pointer (some ⟨1, 45, none⟩)]))
theorem ErrType.lt {w : World} (h : ErrType w) : 0 < w.heap.size := World.block_lt_of_cell? w _ h
theorem ErrType.below {w w' : World} {B : Nat} (h : ErrType w) (hb : Below B w w') (hB : w.heap.size ≤ B) : ErrType w' :=
  (hb.cell (p := ⟨0, 0, none⟩) (Nat.lt_of_lt_of_le h.lt hB)).trans h

/-! ### closed facts on the model's entries for internal/reflectlite -/
theorem valueOfP (t : Addr) (w : World) : (ReflectliteValue.unpack (.iface 223 (.pointer (some t)))).run Tryz.prog w
    = .ok (.agg #[.pointer (some ⟨1, 223, none⟩), .pointer (some ⟨w.heap.size, 0, none⟩), .int .u64 150]) (w.alloc (.cells #[.pointer (some t)] 223)) := by kernel_rfl
theorem typeP (a : Addr) (w : World) : (ReflectliteValue.methodAny (ReflectliteValue.valueError "reflectlite.Value.Type" 0) (fun t _ _ _ => ReflectliteType.toType t) #[.agg #[.pointer (some ⟨1, 223, none⟩), .pointer (some a), .int .u64 150]]).run Tryz.prog w
    = .ok (.iface 239 (.agg #[.pointer (some ⟨1, 223, none⟩)])) w := by kernel_rfl
theorem methodKind (h : Value) (w : World) : (Go.method 421 239 (.agg #[h]) "Kind").run Tryz.prog w = .ok (230, h) w := by kernel_rfl
theorem kindP (w : World) : ((ReflectliteType.abiMethod fun t => (fun a : Nat => Value.int IntKind.u8 (a : Int)) <$> Rtype.kind t) #[.pointer (some ⟨1, 223, none⟩)]).run Tryz.prog w = .ok (.int .u8 22) w := by kernel_rfl
theorem kindE (w : World) : ((ReflectliteType.abiMethod fun t => (fun a : Nat => Value.int IntKind.u8 (a : Int)) <$> Rtype.kind t) #[.pointer (some ⟨1, 29, none⟩)]).run Tryz.prog w = .ok (.int .u8 2) w := by kernel_rfl
theorem rlm (z : Sem Value) (f : TypeId → Addr → Nat → Nat → Sem Value) (v : Value) :
    ReflectliteValue.method z f #[v] = (do match ← ReflectliteValue.parts v with | none => z | some (t, a, fl) => f t a fl (fl % 32)) := rfl
theorem partsP (a : Addr) (w : World) : (ReflectliteValue.parts (.agg #[.pointer (some ⟨1, 223, none⟩), .pointer (some a), .int .u64 150])).run Tryz.prog w = .ok (some (223, a, 150)) w := by kernel_rfl
theorem isNilP (a p : Addr) (W : World) (ha : W.cell? a = some (.pointer (some p))) :
    (ReflectliteValue.method (ReflectliteValue.valueError "reflectlite.Value.IsNil" 0) ReflectliteValue.isNil #[.agg #[.pointer (some ⟨1, 223, none⟩), .pointer (some a), .int .u64 150]]).run Tryz.prog W = .ok (.bool false) W := by
  rw [rlm]
  simp only [Sem.run_bind, partsP, Result.andThen]
  simp [ReflectliteValue.isNil, loadVar, isAgg, underlying, Tryz.underlying223, ha, Result.andThen]
theorem methodElem (h : Value) (w : World) : (Go.method 421 239 (.agg #[h]) "Elem").run Tryz.prog w = .ok (239, .agg #[h]) w := by kernel_rfl
theorem methodImplements (h : Value) (w : World) : (Go.method 421 239 (.agg #[h]) "Implements").run Tryz.prog w = .ok (240, .agg #[h]) w := by kernel_rfl
theorem methodAssignableTo (h : Value) (w : World) : (Go.method 421 239 (.agg #[h]) "AssignableTo").run Tryz.prog w = .ok (238, .agg #[h]) w := by kernel_rfl
theorem elemP (w : World) : (ReflectliteType.method ReflectliteType.elem #[.agg #[.pointer (some ⟨1, 223, none⟩)]]).run Tryz.prog w = .ok (.iface 239 (.agg #[.pointer (some ⟨1, 29, none⟩)])) w := by kernel_rfl
theorem implementsE (w : World) : (ReflectliteType.relation "Implements" ReflectliteType.implements_ #[.agg #[.pointer (some ⟨1, 29, none⟩)], .iface 239 (.agg #[.pointer (some ⟨1, 45, none⟩)])]).run Tryz.prog w = .ok (.bool true) w := by kernel_rfl
theorem typeOfE (v : Value) (w : World) : (ReflectliteType.typeOf #[.iface 29 v]).run Tryz.prog w = .ok (.iface 239 (.agg #[.pointer (some ⟨1, 29, none⟩)])) w := by kernel_rfl
theorem typeOfA (v : Value) (w : World) : (ReflectliteType.typeOf #[.iface 172 v]).run Tryz.prog w = .ok (.iface 239 (.agg #[.pointer (some ⟨1, 172, none⟩)])) w := by kernel_rfl
theorem assignableE (w : World) : (ReflectliteType.relation "AssignableTo" ReflectliteType.assignableTo #[.agg #[.pointer (some ⟨1, 29, none⟩)], .iface 239 (.agg #[.pointer (some ⟨1, 29, none⟩)])]).run Tryz.prog w = .ok (.bool true) w := by kernel_rfl
theorem assignableA (w : World) : (ReflectliteType.relation "AssignableTo" ReflectliteType.assignableTo #[.agg #[.pointer (some ⟨1, 172, none⟩)], .iface 239 (.agg #[.pointer (some ⟨1, 29, none⟩)])]).run Tryz.prog w = .ok (.bool false) w := by kernel_rfl
theorem valueOfE (n : Int) (w : World) : (ReflectliteValue.unpack (.iface 29 (.int .i64 n))).run Tryz.prog w
    = .ok (.agg #[.pointer (some ⟨1, 29, none⟩), .pointer (some ⟨w.heap.size, 0, none⟩), .int .u64 130]) (w.alloc (.cells #[.int .i64 n] 29)) := by kernel_rfl
theorem elemOfP (w : World) : (Rtype.elem? 223).run Tryz.prog w = .ok (some 29) w := by kernel_rfl
theorem mkE (p : Addr) (w : World) : (ReflectliteValue.mk 29 p ReflectliteValue.flagAddr).run Tryz.prog w = .ok (.agg #[.pointer (some ⟨1, 29, none⟩), .pointer (some p), .int .u64 386]) w := by kernel_rfl
theorem elemVP (a p : Addr) (W : World) (ha : W.cell? a = some (.pointer (some p))) :
    (ReflectliteValue.method (ReflectliteValue.valueError "reflectlite.Value.Elem" 0) ReflectliteValue.elem #[.agg #[.pointer (some ⟨1, 223, none⟩), .pointer (some a), .int .u64 150]]).run Tryz.prog W
      = .ok (.agg #[.pointer (some ⟨1, 29, none⟩), .pointer (some p), .int .u64 386]) W := by
  rw [rlm]
  simp only [Sem.run_bind, partsP, Result.andThen]
  simp [ReflectliteValue.elem, loadVar, isAgg, underlying, Tryz.underlying223, ha, Result.andThen, elemOfP, mkE]
theorem rls (v x : Value) : ReflectliteValue.set #[v, x] = (do
    let (some (dst, a, fl), some (src, b, _)) := (← ReflectliteValue.parts v, ← ReflectliteValue.parts x)
      | unsupported (.noEntry "extern/(internal/reflectlite.Value).Set.zeroValue")
    if fl / ReflectliteValue.flagAddr % 2 == 0 then unsupported (.noEntry "extern/(internal/reflectlite.Value).Set.unaddressable")
    let val ← loadVar src b
    if ← Rtype.directlyAssignable dst src then storeVar dst a val
    else if ← Rtype.implements dst src then
      if (← Rtype.kind src) == 20 then
        match val with
        | .nilIface => unsupported (.noEntry "extern/reflectlite: a nil value of one interface type handed on as a value of another")
        | _ => storeVar dst a val
      else storeVar dst a (.iface src val)
    else panicString ("reflectlite.Set: value of type " ++ (← Rtype.spelt src) ++ " is not assignable to type " ++ (← Rtype.spelt dst))
    pure (.tuple #[])) := rfl
theorem partsEa (a : Addr) (w : World) : (ReflectliteValue.parts (.agg #[.pointer (some ⟨1, 29, none⟩), .pointer (some a), .int .u64 386])).run Tryz.prog w = .ok (some (29, a, 386)) w := by kernel_rfl
theorem partsE (a : Addr) (w : World) : (ReflectliteValue.parts (.agg #[.pointer (some ⟨1, 29, none⟩), .pointer (some a), .int .u64 130])).run Tryz.prog w = .ok (some (29, a, 130)) w := by kernel_rfl
theorem directE (w : World) : (Rtype.directlyAssignable 29 29).run Tryz.prog w = .ok true w := by kernel_rfl
theorem setE (ta b : Addr) (n : Int) (old : Value) (W : World) (hb : W.cell? b = some (.int .i64 n)) (ht : W.cell? ta = some old) (hf : W.frozen? ta = false) :
    (ReflectliteValue.set #[.agg #[.pointer (some ⟨1, 29, none⟩), .pointer (some ta), .int .u64 386], .agg #[.pointer (some ⟨1, 29, none⟩), .pointer (some b), .int .u64 130]]).run Tryz.prog W
      = .ok (.tuple #[]) (W.setCell ta (.int .i64 n)) := by
  rw [rls]
  simp only [Sem.run_bind, partsEa, partsE, Result.andThen]
  simp [ReflectliteValue.flagAddr, loadVar, isAgg, underlying, Tryz.underlying29, hb, Result.andThen, directE, storeVar, Value.cells, storeCells, Addr.add]
  rw [run_store Tryz.prog W ta _ _ (by rfl)]
  simp [ht, hf]

/-! ### errors.As -/
theorem as_nil (t : Value) (w : World) : Calls Tryz.prog 139 #[.nilIface, t] w fun e w' => e = .returned (.bool false) ∧ w = w' := by
  go_enter Tryz.func139, Tryz.ntmps139
  go_wp2
  go_ret
  exact ⟨rfl, rfl⟩
set_option maxRecDepth 100000 in
set_option maxHeartbeats 4000000 in
theorem as_errno (n : Int) (tg : Value) (a t : Addr) (old : Value) (w : World) (ha : w.cell? a = some (.pointer (some t))) (ht : w.cell? t = some old) (hf : w.frozen? t = false) :
    Calls Tryz.prog 178 #[.iface 29 (.int .i64 n), tg, .agg #[.pointer (some ⟨1, 223, none⟩), .pointer (some a), .int .u64 150], .iface 239 (.agg #[.pointer (some ⟨1, 29, none⟩)])] w
      fun e w' => e = .returned (.bool true) ∧ w'.cell? t = some (.int .i64 n) ∧ Below t.block w w' := by
  have hal := World.block_lt_of_cell? w _ ha
  have htl := World.block_lt_of_cell? w _ ht
  have h51 := @run_callFunc_extern Tryz.prog 122 _ (fun args => ReflectliteValue.unpack (args.getD 0 (.tuple #[]))) Tryz.func122 (by kernel_rfl) (by kernel_rfl) (by kernel_rfl) (by kernel_rfl)
  have h55 := @run_callFunc_extern Tryz.prog 188 _ ReflectliteType.typeOf Tryz.func188 (by kernel_rfl) (by kernel_rfl) (by kernel_rfl) (by kernel_rfl)
  have h83 := @run_callFunc_extern Tryz.prog 238 _ (ReflectliteType.relation "AssignableTo" ReflectliteType.assignableTo) Tryz.func238 (by kernel_rfl) (by kernel_rfl) (by kernel_rfl) (by kernel_rfl)
  have h56 := @run_callFunc_extern Tryz.prog 189 _ (ReflectliteValue.method (ReflectliteValue.valueError "reflectlite.Value.Elem" 0) ReflectliteValue.elem) Tryz.func189 (by kernel_rfl) (by kernel_rfl) (by kernel_rfl) (by kernel_rfl)
  have h57 := @run_callFunc_extern Tryz.prog 190 _ ReflectliteValue.set Tryz.func190 (by kernel_rfl) (by kernel_rfl) (by kernel_rfl) (by kernel_rfl)
  have tO := typeOfE
  have mA := methodAssignableTo
  have aE := assignableE
  have vE := valueOfE
  have el := elemVP a t (w.alloc (.cells #[.pointer (some ⟨1, 223, none⟩), .pointer (some a), .int .u64 150] 198)) ((World.cell?_alloc_lt _ _ _ hal).trans ha)
  have st := setE t ⟨w.heap.size + 1, 0, none⟩ n old ((w.alloc (.cells #[.pointer (some ⟨1, 223, none⟩), .pointer (some a), .int .u64 150] 198)).alloc (.cells #[.int .i64 n] 29))
    (by rw [World.cell?_alloc_at _ _ _ _ (by simp)]; rfl)
    (by rw [World.cell?_alloc_lt _ _ t (by simp; omega), World.cell?_alloc_lt _ _ t htl]; exact ht)
    (by rw [World.frozen?_alloc_old _ _ t (by simp; omega), World.frozen?_alloc_old _ _ t (Nat.ne_of_lt htl)]; exact hf)
  go_enter Tryz.func178, Tryz.ntmps178
  go_wp2
  refine wp_loop_rounds 1 ?_
  rw [rounds_succ]
  go_wp2
  go_ret
  refine ⟨rfl, ?_, (((Below.refl t.block w).alloc (by omega) _).alloc (by simp; omega) _).setCell (Nat.le_refl _) _⟩
  refine World.cell?_setCell_same _ _ _ (u := old) ?_
  rw [World.cell?_alloc_lt _ _ t (by simp; omega), World.cell?_alloc_lt _ _ t htl]
  exact ht

theorem noAsA (v : Value) (xT : TypeId) (w : World) : (Instr.typeAssert (.iface 172 v) xT 263 true).run Tryz.prog w = .ok (.tuple #[.nilIface, .bool false]) w :=
  run_typeAssert_lacksB Tryz.underlying263 (by kernel_rfl) (by kernel_rfl) v xT w
theorem unwrapA (v : Value) (xT : TypeId) (w : World) : (Instr.typeAssert (.iface 172 v) xT 183 true).run Tryz.prog w = .ok (.tuple #[.iface 172 v, .bool true]) w :=
  run_typeAssert_hasB Tryz.underlying183 (by kernel_rfl) v xT w
theorem noUnwrapE (v : Value) (xT : TypeId) (w : World) : (Instr.typeAssert (.iface 29 v) xT 183 true).run Tryz.prog w = .ok (.tuple #[.nilIface, .bool false]) w :=
  run_typeAssert_lacksB Tryz.underlying183 (by kernel_rfl) (by kernel_rfl) v xT w
theorem methodUnwrap (h : Value) (w : World) : (Go.method 421 172 h "Unwrap").run Tryz.prog w = .ok (235, h) w := by kernel_rfl

set_option maxHeartbeats 400000 in
theorem unwrap_any (g : Nat) (n : Int) (w : World) (hg : w.cell? ⟨g, 0, none⟩ = some (.int .i64 n)) :
    Calls Tryz.prog 235 #[.pointer (some ⟨g, 0, none⟩)] w fun e w' => e = .returned (.iface 29 (.int .i64 n)) ∧ w = w' := by
  go_enter Tryz.func235, Tryz.ntmps235
  go_wp2
  go_ret
  exact ⟨rfl, rfl⟩

set_option maxRecDepth 100000 in
set_option maxHeartbeats 4000000 in
theorem as_at (g : Nat) (n : Int) (tg : Value) (a t : Addr) (old : Value) (w : World) (ha : w.cell? a = some (.pointer (some t))) (ht : w.cell? t = some old) (hf : w.frozen? t = false) (hg : w.cell? ⟨g, 0, none⟩ = some (.int .i64 n)) :
    Calls Tryz.prog 178 #[.iface 172 (.pointer (some ⟨g, 0, none⟩)), tg, .agg #[.pointer (some ⟨1, 223, none⟩), .pointer (some a), .int .u64 150], .iface 239 (.agg #[.pointer (some ⟨1, 29, none⟩)])] w
      fun e w' => e = .returned (.bool true) ∧ w'.cell? t = some (.int .i64 n) ∧ Below t.block w w' := by
  have hal := World.block_lt_of_cell? w _ ha
  have htl := World.block_lt_of_cell? w _ ht
  have hgl := World.block_lt_of_cell? w _ hg
  have h51 := @run_callFunc_extern Tryz.prog 122 _ (fun args => ReflectliteValue.unpack (args.getD 0 (.tuple #[]))) Tryz.func122 (by kernel_rfl) (by kernel_rfl) (by kernel_rfl) (by kernel_rfl)
  have h55 := @run_callFunc_extern Tryz.prog 188 _ ReflectliteType.typeOf Tryz.func188 (by kernel_rfl) (by kernel_rfl) (by kernel_rfl) (by kernel_rfl)
  have h83 := @run_callFunc_extern Tryz.prog 238 _ (ReflectliteType.relation "AssignableTo" ReflectliteType.assignableTo) Tryz.func238 (by kernel_rfl) (by kernel_rfl) (by kernel_rfl) (by kernel_rfl)
  have h56 := @run_callFunc_extern Tryz.prog 189 _ (ReflectliteValue.method (ReflectliteValue.valueError "reflectlite.Value.Elem" 0) ReflectliteValue.elem) Tryz.func189 (by kernel_rfl) (by kernel_rfl) (by kernel_rfl) (by kernel_rfl)
  have h57 := @run_callFunc_extern Tryz.prog 190 _ ReflectliteValue.set Tryz.func190 (by kernel_rfl) (by kernel_rfl) (by kernel_rfl) (by kernel_rfl)
  have tO := typeOfE
  have tA := typeOfA
  have mA := methodAssignableTo
  have aE := assignableE
  have aA := assignableA
  have vE := valueOfE
  have nA := noAsA
  have uA := unwrapA
  have mU := methodUnwrap
  have el := elemVP a t (w.alloc (.cells #[.pointer (some ⟨1, 223, none⟩), .pointer (some a), .int .u64 150] 198)) ((World.cell?_alloc_lt _ _ _ hal).trans ha)
  have st := setE t ⟨w.heap.size + 1, 0, none⟩ n old ((w.alloc (.cells #[.pointer (some ⟨1, 223, none⟩), .pointer (some a), .int .u64 150] 198)).alloc (.cells #[.int .i64 n] 29))
    (by rw [World.cell?_alloc_at _ _ _ _ (by simp)]; rfl)
    (by rw [World.cell?_alloc_lt _ _ t (by simp; omega), World.cell?_alloc_lt _ _ t htl]; exact ht)
    (by rw [World.frozen?_alloc_old _ _ t (by simp; omega), World.frozen?_alloc_old _ _ t (Nat.ne_of_lt htl)]; exact hf)
  have hg' : (w.alloc (.cells #[.pointer (some ⟨1, 223, none⟩), .pointer (some a), .int .u64 150] 198)).cell? ⟨g, 0, none⟩ = some (.int .i64 n) := (World.cell?_alloc_lt _ _ _ hgl).trans hg
  go_enter Tryz.func178, Tryz.ntmps178
  go_wp2
  refine wp_loop_rounds 2 ?_
  rw [rounds_succ]
  go_wp2_with (go_at_call 235; refine (unwrap_any g n _ hg').mono ?_; rintro e w' ⟨rfl, rfl⟩)
  rw [rounds_succ]
  go_wp2
  go_ret
  refine ⟨rfl, ?_, (((Below.refl t.block w).alloc (by omega) _).alloc (by simp; omega) _).setCell (Nat.le_refl _) _⟩
  refine World.cell?_setCell_same _ _ _ (u := old) ?_
  rw [World.cell?_alloc_lt _ _ t (by simp; omega), World.cell?_alloc_lt _ _ t htl]
  exact ht

/-! ### errors.As at a *Errno in a block of its own, told to the last block -/
set_option maxRecDepth 100000 in
set_option maxHeartbeats 4000000 in
theorem errorsAs_of (err : Value) (n : Int) (t : Nat) (w : World) (hE : ErrType w) (ht : w.cell? ⟨t, 0, none⟩ = some (.int .i64 0)) (hf : w.frozen? ⟨t, 0, none⟩ = false) (hne : ∃ u v, err = .iface u v)
    (hin : ∀ (tg : Value) (a : Addr) (W : World), Below w.heap.size w W → W.cell? a = some (.pointer (some ⟨t, 0, none⟩)) → W.cell? ⟨t, 0, none⟩ = some (.int .i64 0) → W.frozen? ⟨t, 0, none⟩ = false →
      Calls Tryz.prog 178 #[err, tg, .agg #[.pointer (some ⟨1, 223, none⟩), .pointer (some a), .int .u64 150], .iface 239 (.agg #[.pointer (some ⟨1, 29, none⟩)])] W
        fun e w' => e = .returned (.bool true) ∧ w'.cell? ⟨t, 0, none⟩ = some (.int .i64 n) ∧ Below t W w') :
    Calls Tryz.prog 139 #[err, .iface 223 (.pointer (some ⟨t, 0, none⟩))] w fun e w' => e = .returned (.bool true) ∧ w'.cell? ⟨t, 0, none⟩ = some (.int .i64 n) ∧ Below t w w' := by
  obtain ⟨u, v, rfl⟩ := hne
  have htl := World.block_lt_of_cell? w _ ht
  have hel := hE.lt
  have h51 := @run_callFunc_extern Tryz.prog 122 _ (fun args => ReflectliteValue.unpack (args.getD 0 (.tuple #[]))) Tryz.func122 (by kernel_rfl) (by kernel_rfl) (by kernel_rfl) (by kernel_rfl)
  have h52 := @run_callFunc_extern Tryz.prog 176 _ (ReflectliteValue.methodAny (ReflectliteValue.valueError "reflectlite.Value.Type" 0) (fun t _ _ _ => ReflectliteType.toType t)) Tryz.func176 (by kernel_rfl) (by kernel_rfl) (by kernel_rfl) (by kernel_rfl)
  have h53 := @run_callFunc_extern Tryz.prog 177 _ (ReflectliteValue.method (ReflectliteValue.valueError "reflectlite.Value.IsNil" 0) ReflectliteValue.isNil) Tryz.func177 (by kernel_rfl) (by kernel_rfl) (by kernel_rfl) (by kernel_rfl)
  have h72 := @run_callFunc_extern Tryz.prog 230 _ (ReflectliteType.abiMethod fun t => do pure (.int .u8 (← Rtype.kind t))) Tryz.func230 (by kernel_rfl) (by kernel_rfl) (by kernel_rfl) (by kernel_rfl)
  have h85 := @run_callFunc_extern Tryz.prog 239 _ (ReflectliteType.method ReflectliteType.elem) Tryz.func239 (by kernel_rfl) (by kernel_rfl) (by kernel_rfl) (by kernel_rfl)
  have h86 := @run_callFunc_extern Tryz.prog 240 _ (ReflectliteType.relation "Implements" ReflectliteType.implements_) Tryz.func240 (by kernel_rfl) (by kernel_rfl) (by kernel_rfl) (by kernel_rfl)
  have f6 := valueOfP
  have f7 := typeP
  have mK := methodKind
  have mE := methodElem
  have mI := methodImplements
  have kP := kindP
  have kE := kindE
  have eP := elemP
  have iE := implementsE
  have n8 := isNilP ⟨w.heap.size, 0, none⟩ ⟨t, 0, none⟩ ((w.alloc (.cells #[.pointer (some ⟨t, 0, none⟩)] 223)).alloc (.cells #[.pointer (some ⟨1, 223, none⟩), .pointer (some ⟨w.heap.size, 0, none⟩), .int .u64 150] 198)) (by simp)
  have hg2 : ((w.alloc (.cells #[.pointer (some ⟨t, 0, none⟩)] 223)).alloc (.cells #[.pointer (some ⟨1, 223, none⟩), .pointer (some ⟨w.heap.size, 0, none⟩), .int .u64 150] 198)).cell? ⟨0, 0, none⟩ = some (.iface 239 (.agg #[.pointer (some ⟨1, 45, none⟩)])) := by
    rw [World.cell?_alloc_lt _ _ ⟨0, 0, none⟩ (by simp <;> omega), World.cell?_alloc_lt _ _ ⟨0, 0, none⟩ hel]; exact hE
  have Hin := hid hin
  clear hin
  go_enter Tryz.func139, Tryz.ntmps139
  go_wp2_with fail
  refine (Hin.out _ ⟨w.heap.size, 0, none⟩ _ ?_ ?_ ?_ ?_).mono ?_
  · exact ((Below.refl _ w).alloc (Nat.le_refl _) _).alloc (by simp) _
  · rw [World.cell?_alloc_lt _ _ ⟨w.heap.size, 0, none⟩ (by simp)]; simp
  · rw [World.cell?_alloc_lt _ _ ⟨t, 0, none⟩ (by simp; omega), World.cell?_alloc_lt _ _ ⟨t, 0, none⟩ htl]; exact ht
  · rw [World.frozen?_alloc_old _ _ ⟨t, 0, none⟩ (by simp; omega), World.frozen?_alloc_old _ _ ⟨t, 0, none⟩ (Nat.ne_of_lt htl)]; exact hf
  rintro e w1 ⟨rfl, hc, hB⟩
  go_wp2
  go_ret
  exact ⟨rfl, hc, (((Below.refl t w).alloc (by omega) _).alloc (by simp; omega) _).trans hB⟩

/-! ### Tell -/
theorem tell_nil (w : World) : Calls Tryz.prog 108 #[.nilIface] w fun e w' => e = .returned (.int .i64 0) ∧ w = w' := by
  go_enter Tryz.func108, Tryz.ntmps108
  go_wp2
  go_ret
  exact ⟨rfl, rfl⟩

set_option maxHeartbeats 400000 in
theorem tell_errno (n : Int) (w : World) (hE : ErrType w) : Calls Tryz.prog 108 #[.iface 29 (.int .i64 n)] w fun e w' => e = .returned (.int .i64 n) ∧ Below w.heap.size w w' := by
  have HE := hid (hE.below ((Below.refl _ w).alloc (Nat.le_refl _) (.cells #[.int .i64 0] 29)) (Nat.le_refl _))
  go_enter Tryz.func108, Tryz.ntmps108
  go_wp2_with fail
  refine (errorsAs_of _ n w.heap.size _ HE.out (by simp) (by simp) ⟨_, _, rfl⟩ ?_).mono ?_
  · intro tg a W hB ha ht hf
    exact as_errno n tg a ⟨w.heap.size, 0, none⟩ _ W ha ht hf
  rintro e w1 ⟨rfl, hc, hB⟩
  go_wp2
  go_ret
  exact ⟨rfl, ((Below.refl _ w).alloc (Nat.le_refl _) _).trans hB⟩

set_option maxHeartbeats 400000 in
theorem tell_at (g : Nat) (n : Int) (w : World) (hE : ErrType w) (hg : w.cell? ⟨g, 0, none⟩ = some (.int .i64 n)) : Calls Tryz.prog 108 #[.iface 172 (.pointer (some ⟨g, 0, none⟩))] w fun e w' => e = .returned (.int .i64 n) ∧ Below w.heap.size w w' := by
  have hgl := World.block_lt_of_cell? w _ hg
  have HE := hid (hE.below ((Below.refl _ w).alloc (Nat.le_refl _) (.cells #[.int .i64 0] 29)) (Nat.le_refl _))
  go_enter Tryz.func108, Tryz.ntmps108
  go_wp2_with fail
  refine (errorsAs_of _ n w.heap.size _ HE.out (by simp) (by simp) ⟨_, _, rfl⟩ ?_).mono ?_
  · intro tg a W hB ha ht hf
    exact as_at g n tg a ⟨w.heap.size, 0, none⟩ _ W ha ht hf ((hB.cell (p := ⟨g, 0, none⟩) (by simp; omega)).trans ((World.cell?_alloc_lt _ _ _ hgl).trans hg))
  rintro e w1 ⟨rfl, hc, hB⟩
  go_wp2
  go_ret
  exact ⟨rfl, ((Below.refl _ w).alloc (Nat.le_refl _) _).trans hB⟩
end Go.Proofs.YtkcgchpbjegneaaGreatDoor
