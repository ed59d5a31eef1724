/- Contracts and walks that the law's proof needs. -/
import Derived.WalkKit
import Derived.WalkLawsBesides
import Derived.WalkSpells
import Derived.LaidEql
import Derived.Stop.Asserts
import Derived.RowKitTokens
import Derived.Deep.QuietTactic
import Derived.BigQuiet
import Derived.Test.YtbmiieehkkfbgaaGreatDoorRows
import Derived.Test.YtbmiieehkkfbgaaGreatDoorZd1
import Derived.Lib.SlKeysI
set_option linter.unusedVariables false
set_option maxRecDepth 100000
set_option maxHeartbeats 8000000
namespace Go.Proofs.YtbmiieehkkfbgaaGreatDoor
open Go.Extern Go.Extern.Stop Go.RowKit Go.Stop
def Qk4 (w:World):Prop:=w.cell? ⟨3,0,none⟩=some (.iface 204 (.agg #[.pointer (some ⟨9,39,none⟩)]))
theorem Qk4.lt {w:World} (h:Qk4 w):3<w.heap.size:=World.block_lt_of_cell? w _ h
theorem Qk4.below {w w':World} {B:Nat} (h:Qk4 w) (hb:Below B w w') (hB:w.heap.size≤B):Qk4 w':=
 (hb.cell (p:=⟨3,0,none⟩) (Nat.lt_of_lt_of_le h.lt hB)).trans h
theorem Ks7 (t:Addr) (w:World):(ReflectliteValue.unpack (.iface 99 (.pointer (some t)))).run Tryz.prog w
  = .ok (.agg #[.pointer (some ⟨9,99,none⟩),.pointer (some ⟨w.heap.size,0,none⟩),.int .u64 150]) (w.alloc (.cells #[.pointer (some t)] 99)):=by kernel_rfl
theorem Zl0 (a : Addr) (w : World) : (ReflectliteValue.methodAny (ReflectliteValue.valueError "reflectlite.Value.Type" 0) (fun t _ _ _ => ReflectliteType.toType t) #[.agg #[.pointer (some ⟨9, 99, none⟩), .pointer (some a), .int .u64 150]]).run Tryz.prog w
  = .ok (.iface 204 (.agg #[.pointer (some ⟨9,99,none⟩)])) w:=by kernel_rfl
theorem Xx3 (h : Value) (w : World) : (Go.method 415 204 (.agg #[h]) "Kind").run Tryz.prog w = .ok (220, h) w := by kernel_rfl
theorem Zl1 (w:World):((ReflectliteType.abiMethod fun t=>(fun a:Nat=>Value.int IntKind.u8 (a:Int)) <$> Rtype.kind t) #[.pointer (some ⟨9,99,none⟩)]).run Tryz.prog w= .ok (.int .u8 22) w:=by kernel_rfl
theorem Zl2 (w:World):((ReflectliteType.abiMethod fun t=>(fun a:Nat=>Value.int IntKind.u8 (a:Int)) <$> Rtype.kind t) #[.pointer (some ⟨9,45,none⟩)]).run Tryz.prog w= .ok (.int .u8 2) w:=by kernel_rfl
theorem rlm (z:Sem Value) (f:TypeId→Addr→Nat→Nat→Sem Value) (v:Value):
  ReflectliteValue.method z f #[v]=(do match←ReflectliteValue.parts v with|none=>z|some (t,a,fl)=>f t a fl (fl % 32)):=rfl
theorem Ks8 (a:Addr) (w:World):(ReflectliteValue.parts (.agg #[.pointer (some ⟨9,99,none⟩),.pointer (some a),.int .u64 150])).run Tryz.prog w= .ok (some (99,a,150)) w:=by kernel_rfl
theorem Zi5 (a p:Addr) (W:World) (ha:W.cell? a=some (.pointer (some p))):
  (ReflectliteValue.method (ReflectliteValue.valueError "reflectlite.Value.IsNil" 0) ReflectliteValue.isNil #[.agg #[.pointer (some ⟨9, 99, none⟩), .pointer (some a), .int .u64 150]]).run Tryz.prog W = .ok (.bool false) W := by
 rw[rlm]
 simp only[Sem.run_bind,Ks8,Result.andThen]
 simp[ReflectliteValue.isNil,loadVar,isAgg,underlying,Tryz.underlying99,ha,Result.andThen]
theorem Xx4 (h : Value) (w : World) : (Go.method 415 204 (.agg #[h]) "Elem").run Tryz.prog w = .ok (233, .agg #[h]) w := by kernel_rfl
theorem Jk2 (h : Value) (w : World) : (Go.method 415 204 (.agg #[h]) "Implements").run Tryz.prog w = .ok (234, .agg #[h]) w := by kernel_rfl
theorem Ql7 (h : Value) (w : World) : (Go.method 415 204 (.agg #[h]) "AssignableTo").run Tryz.prog w = .ok (231, .agg #[h]) w := by kernel_rfl
theorem Zl3 (w:World):(ReflectliteType.method ReflectliteType.elem #[.agg #[.pointer (some ⟨9,99,none⟩)]]).run Tryz.prog w= .ok (.iface 204 (.agg #[.pointer (some ⟨9,45,none⟩)])) w:=by kernel_rfl
theorem Xn8 (w : World) : (ReflectliteType.relation "Implements" ReflectliteType.implements_ #[.agg #[.pointer (some ⟨9, 45, none⟩)], .iface 204 (.agg #[.pointer (some ⟨9, 39, none⟩)])]).run Tryz.prog w = .ok (.bool true) w := by kernel_rfl
theorem Kg2 (v:Value) (w:World):(ReflectliteType.typeOf #[.iface 45 v]).run Tryz.prog w= .ok (.iface 204 (.agg #[.pointer (some ⟨9,45,none⟩)])) w:=by kernel_rfl
theorem Zc5 (v:Value) (w:World):(ReflectliteType.typeOf #[.iface 196 v]).run Tryz.prog w= .ok (.iface 204 (.agg #[.pointer (some ⟨9,196,none⟩)])) w:=by kernel_rfl
theorem Jn3 (w : World) : (ReflectliteType.relation "AssignableTo" ReflectliteType.assignableTo #[.agg #[.pointer (some ⟨9, 45, none⟩)], .iface 204 (.agg #[.pointer (some ⟨9, 45, none⟩)])]).run Tryz.prog w = .ok (.bool true) w := by kernel_rfl
theorem Xn9 (w : World) : (ReflectliteType.relation "AssignableTo" ReflectliteType.assignableTo #[.agg #[.pointer (some ⟨9, 196, none⟩)], .iface 204 (.agg #[.pointer (some ⟨9, 45, none⟩)])]).run Tryz.prog w = .ok (.bool false) w := by kernel_rfl
theorem Xo0 (n:Int) (w:World):(ReflectliteValue.unpack (.iface 45 (.int .i64 n))).run Tryz.prog w
  = .ok (.agg #[.pointer (some ⟨9,45,none⟩),.pointer (some ⟨w.heap.size,0,none⟩),.int .u64 130]) (w.alloc (.cells #[.int .i64 n] 45)):=by kernel_rfl
theorem Zc6 (w:World):(Rtype.elem? 99).run Tryz.prog w= .ok (some 45) w:=by kernel_rfl
theorem mkE (p:Addr) (w:World):(ReflectliteValue.mk 45 p ReflectliteValue.flagAddr).run Tryz.prog w= .ok (.agg #[.pointer (some ⟨9,45,none⟩),.pointer (some p),.int .u64 386]) w:=by kernel_rfl
theorem Ks9 (a p:Addr) (W:World) (ha:W.cell? a=some (.pointer (some p))):
  (ReflectliteValue.method (ReflectliteValue.valueError "reflectlite.Value.Elem" 0) ReflectliteValue.elem #[.agg #[.pointer (some ⟨9, 99, none⟩), .pointer (some a), .int .u64 150]]).run Tryz.prog W
   = .ok (.agg #[.pointer (some ⟨9,45,none⟩),.pointer (some p),.int .u64 386]) W:=by
 rw[rlm]
 simp only[Sem.run_bind,Ks8,Result.andThen]
 simp[ReflectliteValue.elem,loadVar,isAgg,underlying,Tryz.underlying99,ha,Result.andThen,Zc6,mkE]
theorem rls (v x:Value):ReflectliteValue.set #[v,x]=(do
  let(some (dst,a,fl),some (src,b,_)):=(←ReflectliteValue.parts v,←ReflectliteValue.parts x)
   | unsupported (.noEntry "extern/(internal/reflectlite.Value).Set.zeroValue")
  if fl / ReflectliteValue.flagAddr % 2 == 0 then unsupported (.noEntry "extern/(internal/reflectlite.Value).Set.unaddressable")
  let val←loadVar src b
  if←Rtype.directlyAssignable dst src then storeVar dst a val
  else if←Rtype.implements dst src then
   if(←Rtype.kind src) ==20 then
    match val with
    | .nilIface => unsupported (.noEntry "extern/reflectlite: a nil value of one interface type handed on as a value of another")
    |_=>storeVar dst a val
   else storeVar dst a (.iface src val)
  else panicString ("reflectlite.Set: value of type " ++ (← Rtype.spelt src) ++ " is not assignable to type " ++ (← Rtype.spelt dst))
  pure (.tuple #[])):=rfl
theorem Zc7 (a:Addr) (w:World):(ReflectliteValue.parts (.agg #[.pointer (some ⟨9,45,none⟩),.pointer (some a),.int .u64 386])).run Tryz.prog w= .ok (some (45,a,386)) w:=by kernel_rfl
theorem Zi6 (a:Addr) (w:World):(ReflectliteValue.parts (.agg #[.pointer (some ⟨9,45,none⟩),.pointer (some a),.int .u64 130])).run Tryz.prog w= .ok (some (45,a,130)) w:=by kernel_rfl
theorem Zc8 (w:World):(Rtype.directlyAssignable 45 45).run Tryz.prog w= .ok true w:=by kernel_rfl
theorem Zl4 (ta b:Addr) (n:Int) (old:Value) (W:World) (hb:W.cell? b=some (.int .i64 n)) (ht:W.cell? ta=some old) (hf:W.frozen? ta=false):
  (ReflectliteValue.set #[.agg #[.pointer (some ⟨9,45,none⟩),.pointer (some ta),.int .u64 386],.agg #[.pointer (some ⟨9,45,none⟩),.pointer (some b),.int .u64 130]]).run Tryz.prog W
   = .ok (.tuple #[]) (W.setCell ta (.int .i64 n)):=by
 rw[rls]
 simp only[Sem.run_bind,Zc7,Zi6,Result.andThen]
 simp[ReflectliteValue.flagAddr,loadVar,isAgg,underlying,Tryz.underlying45,hb,Result.andThen,Zc8,storeVar,Value.cells,storeCells,Addr.add]
 rw[run_store Tryz.prog W ta _ _ (by rfl)]
 simp[ht,hf]
theorem Kt0 (n:Int) (tg:Value) (a t:Addr) (old:Value) (w:World) (ha:w.cell? a=some (.pointer (some t))) (ht:w.cell? t=some old) (hf:w.frozen? t=false):
  Calls Tryz.prog 102 #[.iface 45 (.int .i64 n),tg,.agg #[.pointer (some ⟨9,99,none⟩),.pointer (some a),.int .u64 150],.iface 204 (.agg #[.pointer (some ⟨9,45,none⟩)])] w
   fun e w'=>e= .returned (.bool true)∧w'.cell? t=some (.int .i64 n)∧Below t.block w w':=by
 have hal:=World.block_lt_of_cell? w _ ha
 have htl:=World.block_lt_of_cell? w _ ht
 have h51:= @run_callFunc_extern Tryz.prog 99 _ (fun args=>ReflectliteValue.unpack (args.getD 0 (.tuple #[]))) Tryz.func99 (by kernel_rfl) (by kernel_rfl) (by kernel_rfl) (by kernel_rfl)
 have h55:= @run_callFunc_extern Tryz.prog 130 _ ReflectliteType.typeOf Tryz.func130 (by kernel_rfl) (by kernel_rfl) (by kernel_rfl) (by kernel_rfl)
 have h83 := @run_callFunc_extern Tryz.prog 231 _ (ReflectliteType.relation "AssignableTo" ReflectliteType.assignableTo) Tryz.func231 (by kernel_rfl) (by kernel_rfl) (by kernel_rfl) (by kernel_rfl)
 have h56 := @run_callFunc_extern Tryz.prog 131 _ (ReflectliteValue.method (ReflectliteValue.valueError "reflectlite.Value.Elem" 0) ReflectliteValue.elem) Tryz.func131 (by kernel_rfl) (by kernel_rfl) (by kernel_rfl) (by kernel_rfl)
 have h57:= @run_callFunc_extern Tryz.prog 132 _ ReflectliteValue.set Tryz.func132 (by kernel_rfl) (by kernel_rfl) (by kernel_rfl) (by kernel_rfl)
 have tO:=Kg2
 have mA:=Ql7
 have aE:=Jn3
 have vE:=Xo0
 have el:=Ks9 a t (w.alloc (.cells #[.pointer (some ⟨9,99,none⟩),.pointer (some a),.int .u64 150] 148)) ((World.cell?_alloc_lt _ _ _ hal).trans ha)
 have st:=Zl4 t ⟨w.heap.size+1,0,none⟩ n old ((w.alloc (.cells #[.pointer (some ⟨9,99,none⟩),.pointer (some a),.int .u64 150] 148)).alloc (.cells #[.int .i64 n] 45))
  (by rw[World.cell?_alloc_at _ _ _ _ (by simp)];rfl)
  (by rw[World.cell?_alloc_lt _ _ t (by simp;omega),World.cell?_alloc_lt _ _ t htl];exact ht)
  (by rw[World.frozen?_alloc_old _ _ t (by simp;omega),World.frozen?_alloc_old _ _ t (Nat.ne_of_lt htl)];exact hf)
 go_enter Tryz.func102,Tryz.ntmps102
 go_wp2
 refine wp_loop_rounds 1 ?_
 rw[rounds_succ]
 go_wp2
 go_ret
 refine⟨rfl, ?_,(((Below.refl t.block w).alloc (by omega) _).alloc (by simp;omega) _).setCell (Nat.le_refl _) _⟩
 refine World.cell?_setCell_same _ _ _ (u:=old) ?_
 rw[World.cell?_alloc_lt _ _ t (by simp;omega),World.cell?_alloc_lt _ _ t htl]
 exact ht
theorem Zl5 (v:Value) (xT:TypeId) (w:World):(Instr.typeAssert (.iface 196 v) xT 209 true).run Tryz.prog w= .ok (.tuple #[.nilIface,.bool false]) w:=
 run_typeAssert_lacksB Tryz.underlying209 (by kernel_rfl) (by kernel_rfl) v xT w
theorem Zc9 (v:Value) (xT:TypeId) (w:World):(Instr.typeAssert (.iface 196 v) xT 212 true).run Tryz.prog w= .ok (.tuple #[.iface 196 v,.bool true]) w:=
 run_typeAssert_hasB Tryz.underlying212 (by kernel_rfl) v xT w
theorem Xi3 (h : Value) (w : World) : (Go.method 415 196 h "Unwrap").run Tryz.prog w = .ok (229, h) w := by kernel_rfl
theorem Xx5 (g:Nat) (n:Int) (w:World) (hg:w.cell? ⟨g,0,none⟩=some (.int .i64 n)):
  Calls Tryz.prog 229 #[.pointer (some ⟨g,0,none⟩)] w fun e w'=>e= .returned (.iface 45 (.int .i64 n))∧w=w':=by
 go_enter Tryz.func229,Tryz.ntmps229
 go_wp2
 go_ret
 exact⟨rfl,rfl⟩
theorem Zl6 (g:Nat) (n:Int) (tg:Value) (a t:Addr) (old:Value) (w:World) (ha:w.cell? a=some (.pointer (some t))) (ht:w.cell? t=some old) (hf:w.frozen? t=false) (hg:w.cell? ⟨g,0,none⟩=some (.int .i64 n)):
  Calls Tryz.prog 102 #[.iface 196 (.pointer (some ⟨g,0,none⟩)),tg,.agg #[.pointer (some ⟨9,99,none⟩),.pointer (some a),.int .u64 150],.iface 204 (.agg #[.pointer (some ⟨9,45,none⟩)])] w
   fun e w'=>e= .returned (.bool true)∧w'.cell? t=some (.int .i64 n)∧Below t.block w w':=by
 have hal:=World.block_lt_of_cell? w _ ha
 have htl:=World.block_lt_of_cell? w _ ht
 have hgl:=World.block_lt_of_cell? w _ hg
 have h51:= @run_callFunc_extern Tryz.prog 99 _ (fun args=>ReflectliteValue.unpack (args.getD 0 (.tuple #[]))) Tryz.func99 (by kernel_rfl) (by kernel_rfl) (by kernel_rfl) (by kernel_rfl)
 have h55:= @run_callFunc_extern Tryz.prog 130 _ ReflectliteType.typeOf Tryz.func130 (by kernel_rfl) (by kernel_rfl) (by kernel_rfl) (by kernel_rfl)
 have h83 := @run_callFunc_extern Tryz.prog 231 _ (ReflectliteType.relation "AssignableTo" ReflectliteType.assignableTo) Tryz.func231 (by kernel_rfl) (by kernel_rfl) (by kernel_rfl) (by kernel_rfl)
 have h56 := @run_callFunc_extern Tryz.prog 131 _ (ReflectliteValue.method (ReflectliteValue.valueError "reflectlite.Value.Elem" 0) ReflectliteValue.elem) Tryz.func131 (by kernel_rfl) (by kernel_rfl) (by kernel_rfl) (by kernel_rfl)
 have h57:= @run_callFunc_extern Tryz.prog 132 _ ReflectliteValue.set Tryz.func132 (by kernel_rfl) (by kernel_rfl) (by kernel_rfl) (by kernel_rfl)
 have tO:=Kg2
 have tA:=Zc5
 have mA:=Ql7
 have aE:=Jn3
 have aA:=Xn9
 have vE:=Xo0
 have nA:=Zl5
 have uA:=Zc9
 have mU:=Xi3
 have el:=Ks9 a t (w.alloc (.cells #[.pointer (some ⟨9,99,none⟩),.pointer (some a),.int .u64 150] 148)) ((World.cell?_alloc_lt _ _ _ hal).trans ha)
 have st:=Zl4 t ⟨w.heap.size+1,0,none⟩ n old ((w.alloc (.cells #[.pointer (some ⟨9,99,none⟩),.pointer (some a),.int .u64 150] 148)).alloc (.cells #[.int .i64 n] 45))
  (by rw[World.cell?_alloc_at _ _ _ _ (by simp)];rfl)
  (by rw[World.cell?_alloc_lt _ _ t (by simp;omega),World.cell?_alloc_lt _ _ t htl];exact ht)
  (by rw[World.frozen?_alloc_old _ _ t (by simp;omega),World.frozen?_alloc_old _ _ t (Nat.ne_of_lt htl)];exact hf)
 have hg':(w.alloc (.cells #[.pointer (some ⟨9,99,none⟩),.pointer (some a),.int .u64 150] 148)).cell? ⟨g,0,none⟩=some (.int .i64 n):=(World.cell?_alloc_lt _ _ _ hgl).trans hg
 go_enter Tryz.func102,Tryz.ntmps102
 go_wp2
 refine wp_loop_rounds 2 ?_
 rw[rounds_succ]
 go_wp2_with (go_at_call 229;refine(Xx5 g n _ hg').mono ?_;rintro e w' ⟨rfl,rfl⟩)
 rw[rounds_succ]
 go_wp2
 go_ret
 refine⟨rfl, ?_,(((Below.refl t.block w).alloc (by omega) _).alloc (by simp;omega) _).setCell (Nat.le_refl _) _⟩
 refine World.cell?_setCell_same _ _ _ (u:=old) ?_
 rw[World.cell?_alloc_lt _ _ t (by simp;omega),World.cell?_alloc_lt _ _ t htl]
 exact ht
theorem Jn4 (err:Value) (n:Int) (t:Nat) (w:World) (hE:Qk4 w) (ht:w.cell? ⟨t,0,none⟩=some (.int .i64 0)) (hf:w.frozen? ⟨t,0,none⟩=false) (hne: ∃u v,err= .iface u v)
  (hin: ∀(tg:Value) (a:Addr) (W:World),Below w.heap.size w W→W.cell? a=some (.pointer (some ⟨t,0,none⟩))→W.cell? ⟨t,0,none⟩=some (.int .i64 0)→W.frozen? ⟨t,0,none⟩=false→
   Calls Tryz.prog 102 #[err,tg,.agg #[.pointer (some ⟨9,99,none⟩),.pointer (some a),.int .u64 150],.iface 204 (.agg #[.pointer (some ⟨9,45,none⟩)])] W
    fun e w'=>e= .returned (.bool true)∧w'.cell? ⟨t,0,none⟩=some (.int .i64 n)∧Below t W w'):
  Calls Tryz.prog 65 #[err,.iface 99 (.pointer (some ⟨t,0,none⟩))] w fun e w'=>e= .returned (.bool true)∧w'.cell? ⟨t,0,none⟩=some (.int .i64 n)∧Below t w w':=by
 obtain⟨u,v,rfl⟩:=hne
 have htl:=World.block_lt_of_cell? w _ ht
 have hel:=hE.lt
 have h51:= @run_callFunc_extern Tryz.prog 99 _ (fun args=>ReflectliteValue.unpack (args.getD 0 (.tuple #[]))) Tryz.func99 (by kernel_rfl) (by kernel_rfl) (by kernel_rfl) (by kernel_rfl)
 have h52 := @run_callFunc_extern Tryz.prog 100 _ (ReflectliteValue.methodAny (ReflectliteValue.valueError "reflectlite.Value.Type" 0) (fun t _ _ _ => ReflectliteType.toType t)) Tryz.func100 (by kernel_rfl) (by kernel_rfl) (by kernel_rfl) (by kernel_rfl)
 have h53 := @run_callFunc_extern Tryz.prog 101 _ (ReflectliteValue.method (ReflectliteValue.valueError "reflectlite.Value.IsNil" 0) ReflectliteValue.isNil) Tryz.func101 (by kernel_rfl) (by kernel_rfl) (by kernel_rfl) (by kernel_rfl)
 have h72:= @run_callFunc_extern Tryz.prog 220 _ (ReflectliteType.abiMethod fun t=>do pure (.int .u8 (←Rtype.kind t))) Tryz.func220 (by kernel_rfl) (by kernel_rfl) (by kernel_rfl) (by kernel_rfl)
 have h85:= @run_callFunc_extern Tryz.prog 233 _ (ReflectliteType.method ReflectliteType.elem) Tryz.func233 (by kernel_rfl) (by kernel_rfl) (by kernel_rfl) (by kernel_rfl)
 have h86 := @run_callFunc_extern Tryz.prog 234 _ (ReflectliteType.relation "Implements" ReflectliteType.implements_) Tryz.func234 (by kernel_rfl) (by kernel_rfl) (by kernel_rfl) (by kernel_rfl)
 have f6:=Ks7
 have f7:=Zl0
 have mK:=Xx3
 have mE:=Xx4
 have mI:=Jk2
 have kP:=Zl1
 have kE:=Zl2
 have eP:=Zl3
 have iE:=Xn8
 have n8:=Zi5 ⟨w.heap.size,0,none⟩ ⟨t,0,none⟩ ((w.alloc (.cells #[.pointer (some ⟨t,0,none⟩)] 99)).alloc (.cells #[.pointer (some ⟨9,99,none⟩),.pointer (some ⟨w.heap.size,0,none⟩),.int .u64 150] 148)) (by simp)
 have hg2:((w.alloc (.cells #[.pointer (some ⟨t,0,none⟩)] 99)).alloc (.cells #[.pointer (some ⟨9,99,none⟩),.pointer (some ⟨w.heap.size,0,none⟩),.int .u64 150] 148)).cell? ⟨3,0,none⟩=some (.iface 204 (.agg #[.pointer (some ⟨9,39,none⟩)])):=by
  rw[World.cell?_alloc_lt _ _ ⟨3,0,none⟩ (by simp<;>omega),World.cell?_alloc_lt _ _ ⟨3,0,none⟩ hel];exact hE
 have Hin:=QQ hin
 clear hin
 go_enter Tryz.func65,Tryz.ntmps65
 go_wp2_with fail
 refine(Hin.out _ ⟨w.heap.size,0,none⟩ _ ?_ ?_ ?_ ?_).mono ?_
 ·exact((Below.refl _ w).alloc (Nat.le_refl _) _).alloc (by simp) _
 ·rw[World.cell?_alloc_lt _ _ ⟨w.heap.size,0,none⟩ (by simp)];simp
 ·rw[World.cell?_alloc_lt _ _ ⟨t,0,none⟩ (by simp;omega),World.cell?_alloc_lt _ _ ⟨t,0,none⟩ htl];exact ht
 ·rw[World.frozen?_alloc_old _ _ ⟨t,0,none⟩ (by simp;omega),World.frozen?_alloc_old _ _ ⟨t,0,none⟩ (Nat.ne_of_lt htl)];exact hf
 rintro e w1 ⟨rfl,hc,hB⟩
 go_wp2
 go_ret
 exact⟨rfl,hc,(((Below.refl t w).alloc (by omega) _).alloc (by simp;omega) _).trans hB⟩
theorem Xx6 (n:Int) (w:World) (hE:Qk4 w):Calls Tryz.prog 43 #[.iface 45 (.int .i64 n)] w fun e w'=>e= .returned (.int .i64 n)∧Below w.heap.size w w':=by
 have HE:=QQ (hE.below ((Below.refl _ w).alloc (Nat.le_refl _) (.cells #[.int .i64 0] 45)) (Nat.le_refl _))
 go_enter Tryz.func43,Tryz.ntmps43
 go_wp2_with fail
 refine(Jn4 _ n w.heap.size _ HE.out (by simp) (by simp) ⟨_,_,rfl⟩ ?_).mono ?_
 ·intro tg a W hB ha ht hf
  exact Kt0 n tg a ⟨w.heap.size,0,none⟩ _ W ha ht hf
 rintro e w1 ⟨rfl,hc,hB⟩
 go_wp2
 go_ret
 exact⟨rfl,((Below.refl _ w).alloc (Nat.le_refl _) _).trans hB⟩
theorem Zd0 (g:Nat) (n:Int) (w:World) (hE:Qk4 w) (hg:w.cell? ⟨g,0,none⟩=some (.int .i64 n)):Calls Tryz.prog 43 #[.iface 196 (.pointer (some ⟨g,0,none⟩))] w fun e w'=>e= .returned (.int .i64 n)∧Below w.heap.size w w':=by
 have hgl:=World.block_lt_of_cell? w _ hg
 have HE:=QQ (hE.below ((Below.refl _ w).alloc (Nat.le_refl _) (.cells #[.int .i64 0] 45)) (Nat.le_refl _))
 go_enter Tryz.func43,Tryz.ntmps43
 go_wp2_with fail
 refine(Jn4 _ n w.heap.size _ HE.out (by simp) (by simp) ⟨_,_,rfl⟩ ?_).mono ?_
 ·intro tg a W hB ha ht hf
  exact Zl6 g n tg a ⟨w.heap.size,0,none⟩ _ W ha ht hf ((hB.cell (p:=⟨g,0,none⟩) (by simp;omega)).trans ((World.cell?_alloc_lt _ _ _ hgl).trans hg))
 rintro e w1 ⟨rfl,hc,hB⟩
 go_wp2
 go_ret
 exact⟨rfl,((Below.refl _ w).alloc (Nat.le_refl _) _).trans hB⟩
end Go.Proofs.YtbmiieehkkfbgaaGreatDoor
namespace Go.Proofs.YtbmiieehkkfbgaaGreatDoor
open Go.RowKit
def Xc5 (w:World) (v:Value) (n pl:Int):Prop:=
 (v= .nilIface∧n=0∧pl= -1)∨(v= .iface 45 (.int .i64 n)∧pl= -1)∨
 (∃g,v= .iface 196 (.pointer (some ⟨g,0,none⟩))∧w.cell? ⟨g,0,none⟩=some (.int .i64 n)∧w.cell? ⟨g,1,none⟩=some (.int .i64 pl))
theorem Xc5.below {w w':World} {v:Value} {n pl:Int} (h:Xc5 w v n pl) (hb:Below w.heap.size w w'):Xc5 w' v n pl:=by
 rcases h with h|h|⟨g,h1,h2,h3⟩
 ·exact .inl h
 ·exact .inr (.inl h)
 ·exact .inr (.inr ⟨g,h1,(hb.cell (p:=⟨g,0,none⟩) (World.block_lt_of_cell? w ⟨g,0,none⟩ h2)).trans h2,(hb.cell (p:=⟨g,1,none⟩) (World.block_lt_of_cell? w ⟨g,0,none⟩ h2)).trans h3⟩)
def okO (o:QX):Bool:=(decide (1≤o.qty) &&decide (o.qty≤1000000)) && (o.side ==1 ||o.side ==2)
def Je1 (p:Int) (o:QX):Int:=if o.side=1∧(o.kind=2∨p≤o.price)then o.qty else 0
def Je2 (p:Int) (o:QX):Int:=if o.side=2∧(o.kind=2∨o.price≤p)then o.qty else 0
def Qp1 (p:Int) (l:List QX):Int:=l.foldl (fun s o=>s+Je1 p o) 0
def Qp2 (p:Int) (l:List QX):Int:=l.foldl (fun s o=>s+Je2 p o) 0
def Qo0 (l:List QX):List QX:=l.filter okO
def V5 (l:List QX) (more:Int):List Int:=(if 1≤more then [more]else [])++((Qo0 l).filter (fun o=> !(o.kind ==2))).map (·.price)
def ddF (s:List Int×Option Int) (p:Int):List Int×Option Int:=if s.2=some p then s else(s.1++ [p],some p)
def ddS (l:List Int):List Int×Option Int:=l.foldl ddF ([],none)
def dd (l:List Int):List Int:=(ddS l).1
theorem Kg3 (l:List Int): ∀(acc:List Int) (o:Option Int),acc.Pairwise (· < ·)→(∀x∈acc,∀y∈l,x≤y)→(∀y,o=some y→y∈acc∧ ∀x∈acc,x≤y)→(o=none→acc= [])→l.Pairwise (· ≤ ·)→
  (l.foldl ddF (acc,o)).1.Pairwise (· < ·)∧ ∀x,x∈(l.foldl ddF (acc,o)).1↔x∈acc∨x∈l:=by
 induction l with
 |nil=>intro acc o h1 h2 h3 h4 h5;exact⟨h1,fun x=>by simp⟩
 |cons a l ih=>
  intro acc o h1 h2 h3 h4 h5;rw[List.foldl_cons];rw[List.pairwise_cons]at h5
  by_cases ho:o=some a
  ·have e:ddF (acc,o) a=(acc,o):=by unfold ddF;rw[if_pos ho]
   rw[e];obtain⟨g1,g2⟩:=ih acc o h1 (fun x hx y hy=>h2 x hx y (by simp[hy])) h3 h4 h5.2;refine⟨g1,fun x=> ?_⟩;rw[g2];have:=(h3 a ho).1;constructor
   ·rintro(h|h)
    ·exact .inl h
    ·exact .inr (by simp[h])
   ·rintro(h|h)
    ·exact .inl h
    ·rcases List.mem_cons.1 h with rfl|h
     ·exact .inl this
     ·exact .inr h
  ·have e:ddF (acc,o) a=(acc++ [a],some a):=by unfold ddF;rw[if_neg ho]
   rw[e];have hlt: ∀x∈acc,x<a:=by
    intro x hx
    cases o with
    |none=>rw[h4 rfl]at hx;cases hx
    |some y=>
     obtain⟨k1,k2⟩:=h3 y rfl;have h6:=h2 y k1 a (by simp);have h7:=k2 x hx;have h8:y≠a:=fun e=>ho (by rw[e])
     omega
   obtain⟨g1,g2⟩:=ih (acc++ [a]) (some a) (List.pairwise_append.2 ⟨h1,List.pairwise_singleton _ _,fun x hx y hy=>by simp at hy;subst hy;exact hlt x hx⟩)
    (fun x hx y hy=>by
     rcases List.mem_append.1 hx with hx|hx
     ·exact h2 x hx y (by simp[hy])
     ·simp at hx;subst hx;exact h5.1 y hy)
    (fun y hy=>by
     cases hy;exact⟨by simp,fun x hx=>by
      rcases List.mem_append.1 hx with hx|hx
      ·exact Int.le_of_lt (hlt x hx)
      ·simp at hx;omega⟩)
    (fun h=>by cases h) h5.2
   refine⟨g1,fun x=> ?_⟩;rw[g2];simp[or_assoc]
theorem Kj7 (L ss:List Int) (hnd:ss.Nodup) (hm: ∀x,x∈ss↔x∈L):dd (L.mergeSort fun x y=>decide (x≤y))=ss.mergeSort fun x y=>decide (x≤y):=by
 have tr: ∀a b c:Int,(decide (a≤b))=true→(decide (b≤c))=true→(decide (a≤c))=true:=fun a b c h1 h2=>by simp at*;omega
 have tot: ∀a b:Int,(decide (a≤b) ||decide (b≤a))=true:=fun a b=>by simp;omega
 have hs:=List.pairwise_mergeSort tr tot L
 have hs':(L.mergeSort fun x y=>decide (x≤y)).Pairwise (· ≤ ·):=hs.imp (fun h=>by simpa using h)
 obtain⟨g1,g2⟩:=Kg3 (L.mergeSort fun x y=>decide (x≤y)) [] none List.Pairwise.nil (fun x hx=>by cases hx) (fun y h=>by cases h) (fun _=>rfl) hs'
 have hmem: ∀x,x∈dd (L.mergeSort fun x y=>decide (x≤y))↔x∈L:=fun x=>by
  show x∈(List.foldl ddF ([],none) _).1↔_;rw[g2];simp[List.mem_mergeSort]
 have hnd2:(dd (L.mergeSort fun x y=>decide (x≤y))).Nodup:=g1.imp (fun h=>by omega)
 refine List.Perm.eq_of_pairwise (le:=fun a b=>a≤b) (fun a b _ _ h1 h2=>by omega) (g1.imp (fun h=>by omega)) ((List.pairwise_mergeSort tr tot ss).imp (fun h=>by simpa using h)) ?_
 refine List.Perm.trans ?_ (List.mergeSort_perm ss _).symm
 exact(List.perm_ext_iff_of_nodup hnd2 hnd).2 fun x=>(hmem x).trans (hm x).symm
def Ja5 (g:List QX) (p:Int):XJ:=(p,Qp1 p g,Qp2 p g)
def Z5 (l:List QX) (more:Int):List XJ:=(dd ((V5 l more).mergeSort fun x y=>decide (x≤y))).map (Ja5 (Qo0 l))
theorem Jt0 (F:QX→Int) (l:List QX) (hF: ∀o∈l,0≤F o∧F o≤1000000): ∀s:Int,0≤s→0≤l.foldl (fun s o=>s+F o) s∧l.foldl (fun s o=>s+F o) s≤s+1000000*l.length:=by
 induction l with
 |nil=>intro s hs;simp;omega
 |cons a l ih=>
  intro s hs;have h1:=hF a (by simp);have h2:=ih (fun o ho=>hF o (by simp[ho])) (s+F a) (by omega);rw[List.foldl_cons,List.length_cons];refine⟨h2.1,Int.le_trans h2.2 ?_⟩
  push_cast
  omega
theorem Ja6 {o:QX} (h:okO o=true):1≤o.qty∧o.qty≤1000000:=by unfold okO at h;simp at h;exact h.1
theorem Xx7 {p:Int} {o:QX} (h:okO o=true):0≤Je1 p o∧Je1 p o≤1000000:=by
 have:=Ja6 h
 unfold Je1
 split<;>omega
theorem Xx8 {p:Int} {o:QX} (h:okO o=true):0≤Je2 p o∧Je2 p o≤1000000:=by
 have:=Ja6 h
 unfold Je2
 split<;>omega
theorem Xx9 {p:Int} {l:List QX} (h: ∀o∈l,okO o=true):0≤Qp1 p l∧Qp1 p l≤1000000*l.length:=by
 have:=Jt0 (Je1 p) l (fun o ho=>Xx7 (h o ho)) 0 (Int.le_refl _)
 unfold Qp1
 omega
theorem Xy0 {p:Int} {l:List QX} (h: ∀o∈l,okO o=true):0≤Qp2 p l∧Qp2 p l≤1000000*l.length:=by
 have:=Jt0 (Je2 p) l (fun o ho=>Xx8 (h o ho)) 0 (Int.le_refl _)
 unfold Qp2
 omega
theorem Xo1 {l:List QX}: ∀o∈Qo0 l,okO o=true:=fun o ho=>(List.mem_filter.1 ho).2
theorem Zi7 (l:List Int): ∀s:List Int×Option Int,(l.foldl ddF s).1.length≤s.1.length+l.length:=by
 induction l with
 |nil=>intro s;simp
 |cons a l ih=>
  intro s;rw[List.foldl_cons];refine Nat.le_trans (ih _) ?_;unfold ddF
  split<;>simp<;>omega
theorem Xy1 (l:List QX) (more:Int):(Z5 l more).length≤l.length+1:=by
 unfold Z5
 rw[List.length_map]
 have h1:=Zi7 ((V5 l more).mergeSort fun x y=>decide (x≤y)) ([],none)
 rw[List.length_mergeSort]at h1
 have h2:(V5 l more).length≤l.length+1:=by
  unfold V5;rw[List.length_append,List.length_map];have h3:=List.length_filter_le (fun o:QX=> !(o.kind ==2)) (Qo0 l);have h4:(Qo0 l).length≤l.length:=List.length_filter_le okO l;have h5:(if 1≤more then [more]else []).length≤1:=by split<;>simp
  omega
 simp only[List.length_nil,Nat.zero_add]at h1
 exact Nat.le_trans h1 h2
theorem Xy2 (L:List Int) (x:Int):x∈dd (L.mergeSort fun x y=>decide (x≤y))↔x∈L:=by
 have tr: ∀a b c:Int,(decide (a≤b))=true→(decide (b≤c))=true→(decide (a≤c))=true:=fun a b c h1 h2=>by simp at*;omega
 have tot: ∀a b:Int,(decide (a≤b) ||decide (b≤a))=true:=fun a b=>by simp;omega
 have hs':(L.mergeSort fun x y=>decide (x≤y)).Pairwise (· ≤ ·):=(List.pairwise_mergeSort tr tot L).imp (fun h=>by simpa using h)
 obtain⟨_,g2⟩:=Kg3 (L.mergeSort fun x y=>decide (x≤y)) [] none List.Pairwise.nil (fun x hx=>by cases hx) (fun y h=>by cases h) (fun _=>rfl) hs'
 show x∈(List.foldl ddF ([],none) _).1↔_
 rw[g2]
 simp[List.mem_mergeSort]
def Jc2 (l:List QX):Prop:= ∀o∈l,okO o=true
theorem Qq6 {l:List QX} (h:Jc2 l):Qo0 l=l:=List.filter_eq_self.2 h
theorem Jt1 {l:List QX} {more:Int} (h:Jc2 l) {o:QX} (ho:o∈l) (hk: ¬o.kind=2):o.price∈V5 l more:=by
 unfold V5
 rw[Qq6 h]
 refine List.mem_append.2 (.inr (List.mem_map.2 ⟨o,List.mem_filter.2 ⟨ho,by simp[hk]⟩,rfl⟩))
end Go.Proofs.YtbmiieehkkfbgaaGreatDoor
