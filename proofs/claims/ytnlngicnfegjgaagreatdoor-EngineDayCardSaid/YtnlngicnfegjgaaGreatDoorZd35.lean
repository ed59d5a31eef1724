/- Contracts and walks that the law's proof needs. -/
import Derived.WalkKit
import Derived.WalkLawsBesides
import Derived.WalkSpells
import Derived.LaidEql
import Derived.Stop.Asserts
import Derived.RowKitTokens
import Derived.Deep.QuietTactic
import Derived.BigQuiet
import Derived.Test.YtnlngicnfegjgaaGreatDoorRows
import Derived.Test.YtnlngicnfegjgaaGreatDoorZd1
import Derived.Deep.LoopGhost
import Derived.Deep.DeepCutAuto
import Derived.Deep.CutBlock
import Derived.Test.YtnlngicnfegjgaaGreatDoorZd31
import Derived.Test.YtnlngicnfegjgaaGreatDoorZd34
import Derived.ChangeSame
import Derived.ChangeVars
import Derived.JoinedOf
import Derived.RowKit
import Derived.LaidLaws
import Derived.LaidHandle
import Derived.Stop.Joined
import Derived.Test.YtnlngicnfegjgaaGreatDoorZd24
set_option linter.unusedVariables false
set_option maxRecDepth 100000
set_option maxHeartbeats 8000000
namespace Go.Proofs.YtnlngicnfegjgaaGreatDoor
open Go.Extern Go.Extern.Stop Go.RowKit Go.Stop
def Qh0 (w:World):Prop:=w.cell? ⟨0,0,none⟩=some (.iface 223 (.agg #[.pointer (some ⟨1,44,none⟩)]))
theorem Qh0.lt {w:World} (h:Qh0 w):0<w.heap.size:=World.block_lt_of_cell? w _ h
theorem Qh0.below {w w':World} {B:Nat} (h:Qh0 w) (hb:Below B w w') (hB:w.heap.size≤B):Qh0 w':=
 (hb.cell (p:=⟨0,0,none⟩) (Nat.lt_of_lt_of_le h.lt hB)).trans h
theorem Kt4 (t:Addr) (w:World):(ReflectliteValue.unpack (.iface 112 (.pointer (some t)))).run Tryz.prog w
  = .ok (.agg #[.pointer (some ⟨1,112,none⟩),.pointer (some ⟨w.heap.size,0,none⟩),.int .u64 150]) (w.alloc (.cells #[.pointer (some t)] 112)):=by kernel_rfl
theorem Zc2 (a : Addr) (w : World) : (ReflectliteValue.methodAny (ReflectliteValue.valueError "reflectlite.Value.Type" 0) (fun t _ _ _ => ReflectliteType.toType t) #[.agg #[.pointer (some ⟨1, 112, none⟩), .pointer (some a), .int .u64 150]]).run Tryz.prog w
  = .ok (.iface 223 (.agg #[.pointer (some ⟨1,112,none⟩)])) w:=by kernel_rfl
theorem Ka8 (h : Value) (w : World) : (Go.method 420 223 (.agg #[h]) "Kind").run Tryz.prog w = .ok (226, h) w := by kernel_rfl
theorem Zc3 (w:World):((ReflectliteType.abiMethod fun t=>(fun a:Nat=>Value.int IntKind.u8 (a:Int)) <$> Rtype.kind t) #[.pointer (some ⟨1,112,none⟩)]).run Tryz.prog w= .ok (.int .u8 22) w:=by kernel_rfl
theorem Zc4 (w:World):((ReflectliteType.abiMethod fun t=>(fun a:Nat=>Value.int IntKind.u8 (a:Int)) <$> Rtype.kind t) #[.pointer (some ⟨1,52,none⟩)]).run Tryz.prog w= .ok (.int .u8 2) w:=by kernel_rfl
theorem rlm (z:Sem Value) (f:TypeId→Addr→Nat→Nat→Sem Value) (v:Value):
  ReflectliteValue.method z f #[v]=(do match←ReflectliteValue.parts v with|none=>z|some (t,a,fl)=>f t a fl (fl % 32)):=rfl
theorem Kt5 (a:Addr) (w:World):(ReflectliteValue.parts (.agg #[.pointer (some ⟨1,112,none⟩),.pointer (some a),.int .u64 150])).run Tryz.prog w= .ok (some (112,a,150)) w:=by kernel_rfl
theorem Za5 (a p:Addr) (W:World) (ha:W.cell? a=some (.pointer (some p))):
  (ReflectliteValue.method (ReflectliteValue.valueError "reflectlite.Value.IsNil" 0) ReflectliteValue.isNil #[.agg #[.pointer (some ⟨1, 112, none⟩), .pointer (some a), .int .u64 150]]).run Tryz.prog W = .ok (.bool false) W := by
 rw[rlm]
 simp only[Sem.run_bind,Kt5,Result.andThen]
 simp[ReflectliteValue.isNil,loadVar,isAgg,underlying,Tryz.underlying112,ha,Result.andThen]
theorem Ka9 (h : Value) (w : World) : (Go.method 420 223 (.agg #[h]) "Elem").run Tryz.prog w = .ok (238, .agg #[h]) w := by kernel_rfl
theorem Jl0 (h : Value) (w : World) : (Go.method 420 223 (.agg #[h]) "Implements").run Tryz.prog w = .ok (239, .agg #[h]) w := by kernel_rfl
theorem Je5 (h : Value) (w : World) : (Go.method 420 223 (.agg #[h]) "AssignableTo").run Tryz.prog w = .ok (236, .agg #[h]) w := by kernel_rfl
theorem Zc5 (w:World):(ReflectliteType.method ReflectliteType.elem #[.agg #[.pointer (some ⟨1,112,none⟩)]]).run Tryz.prog w= .ok (.iface 223 (.agg #[.pointer (some ⟨1,52,none⟩)])) w:=by kernel_rfl
theorem Xs7 (w : World) : (ReflectliteType.relation "Implements" ReflectliteType.implements_ #[.agg #[.pointer (some ⟨1, 52, none⟩)], .iface 223 (.agg #[.pointer (some ⟨1, 44, none⟩)])]).run Tryz.prog w = .ok (.bool true) w := by kernel_rfl
theorem Kx2 (v:Value) (w:World):(ReflectliteType.typeOf #[.iface 52 v]).run Tryz.prog w= .ok (.iface 223 (.agg #[.pointer (some ⟨1,52,none⟩)])) w:=by kernel_rfl
theorem Xs8 (w : World) : (ReflectliteType.relation "AssignableTo" ReflectliteType.assignableTo #[.agg #[.pointer (some ⟨1, 52, none⟩)], .iface 223 (.agg #[.pointer (some ⟨1, 52, none⟩)])]).run Tryz.prog w = .ok (.bool true) w := by kernel_rfl
theorem Kt6 (n:Int) (w:World):(ReflectliteValue.unpack (.iface 52 (.int .i64 n))).run Tryz.prog w
  = .ok (.agg #[.pointer (some ⟨1,52,none⟩),.pointer (some ⟨w.heap.size,0,none⟩),.int .u64 130]) (w.alloc (.cells #[.int .i64 n] 52)):=by kernel_rfl
theorem Kx3 (w:World):(Rtype.elem? 112).run Tryz.prog w= .ok (some 52) w:=by kernel_rfl
theorem mkE (p:Addr) (w:World):(ReflectliteValue.mk 52 p ReflectliteValue.flagAddr).run Tryz.prog w= .ok (.agg #[.pointer (some ⟨1,52,none⟩),.pointer (some p),.int .u64 386]) w:=by kernel_rfl
theorem Za6 (a p:Addr) (W:World) (ha:W.cell? a=some (.pointer (some p))):
  (ReflectliteValue.method (ReflectliteValue.valueError "reflectlite.Value.Elem" 0) ReflectliteValue.elem #[.agg #[.pointer (some ⟨1, 112, none⟩), .pointer (some a), .int .u64 150]]).run Tryz.prog W
   = .ok (.agg #[.pointer (some ⟨1,52,none⟩),.pointer (some p),.int .u64 386]) W:=by
 rw[rlm]
 simp only[Sem.run_bind,Kt5,Result.andThen]
 simp[ReflectliteValue.elem,loadVar,isAgg,underlying,Tryz.underlying112,ha,Result.andThen,Kx3,mkE]
theorem rls (v x:Value):ReflectliteValue.set #[v,x]=(do
  let(some (dst,a,fl),some (src,b,_)):=(←ReflectliteValue.parts v,←ReflectliteValue.parts x)
   | unsupported (.noEntry "extern/(internal/reflectlite.Value).Set.zeroValue")
  if fl / ReflectliteValue.flagAddr % 2 == 0 then unsupported (.noEntry "extern/(internal/reflectlite.Value).Set.unaddressable")
  let val←loadVar src b
  if←Rtype.directlyAssignable dst src then storeVar dst a val
  else if←Rtype.implements dst src then
   if(←Rtype.kind src) ==20 then
    match val with
    | .nilIface => unsupported (.noEntry "extern/reflectlite: a nil value of one interface type handed on as a value of another")
    |_=>storeVar dst a val
   else storeVar dst a (.iface src val)
  else panicString ("reflectlite.Set: value of type " ++ (← Rtype.spelt src) ++ " is not assignable to type " ++ (← Rtype.spelt dst))
  pure (.tuple #[])):=rfl
theorem Kx4 (a:Addr) (w:World):(ReflectliteValue.parts (.agg #[.pointer (some ⟨1,52,none⟩),.pointer (some a),.int .u64 386])).run Tryz.prog w= .ok (some (52,a,386)) w:=by kernel_rfl
theorem Za7 (a:Addr) (w:World):(ReflectliteValue.parts (.agg #[.pointer (some ⟨1,52,none⟩),.pointer (some a),.int .u64 130])).run Tryz.prog w= .ok (some (52,a,130)) w:=by kernel_rfl
theorem Kx5 (w:World):(Rtype.directlyAssignable 52 52).run Tryz.prog w= .ok true w:=by kernel_rfl
theorem Zd3 (ta b:Addr) (n:Int) (old:Value) (W:World) (hb:W.cell? b=some (.int .i64 n)) (ht:W.cell? ta=some old) (hf:W.frozen? ta=false):
  (ReflectliteValue.set #[.agg #[.pointer (some ⟨1,52,none⟩),.pointer (some ta),.int .u64 386],.agg #[.pointer (some ⟨1,52,none⟩),.pointer (some b),.int .u64 130]]).run Tryz.prog W
   = .ok (.tuple #[]) (W.setCell ta (.int .i64 n)):=by
 rw[rls]
 simp only[Sem.run_bind,Kx4,Za7,Result.andThen]
 simp[ReflectliteValue.flagAddr,loadVar,isAgg,underlying,Tryz.underlying52,hb,Result.andThen,Kx5,storeVar,Value.cells,storeCells,Addr.add]
 rw[run_store Tryz.prog W ta _ _ (by rfl)]
 simp[ht,hf]
theorem Kt7 (n:Int) (tg:Value) (a t:Addr) (old:Value) (w:World) (ha:w.cell? a=some (.pointer (some t))) (ht:w.cell? t=some old) (hf:w.frozen? t=false):
  Calls Tryz.prog 102 #[.iface 52 (.int .i64 n),tg,.agg #[.pointer (some ⟨1,112,none⟩),.pointer (some a),.int .u64 150],.iface 223 (.agg #[.pointer (some ⟨1,52,none⟩)])] w
   fun e w'=>e= .returned (.bool true)∧w'.cell? t=some (.int .i64 n)∧Below t.block w w':=by
 have hal:=World.block_lt_of_cell? w _ ha
 have htl:=World.block_lt_of_cell? w _ ht
 have h51:= @run_callFunc_extern Tryz.prog 99 _ (fun args=>ReflectliteValue.unpack (args.getD 0 (.tuple #[]))) Tryz.func99 (by kernel_rfl) (by kernel_rfl) (by kernel_rfl) (by kernel_rfl)
 have h55:= @run_callFunc_extern Tryz.prog 134 _ ReflectliteType.typeOf Tryz.func134 (by kernel_rfl) (by kernel_rfl) (by kernel_rfl) (by kernel_rfl)
 have h83 := @run_callFunc_extern Tryz.prog 236 _ (ReflectliteType.relation "AssignableTo" ReflectliteType.assignableTo) Tryz.func236 (by kernel_rfl) (by kernel_rfl) (by kernel_rfl) (by kernel_rfl)
 have h56 := @run_callFunc_extern Tryz.prog 135 _ (ReflectliteValue.method (ReflectliteValue.valueError "reflectlite.Value.Elem" 0) ReflectliteValue.elem) Tryz.func135 (by kernel_rfl) (by kernel_rfl) (by kernel_rfl) (by kernel_rfl)
 have h57:= @run_callFunc_extern Tryz.prog 136 _ ReflectliteValue.set Tryz.func136 (by kernel_rfl) (by kernel_rfl) (by kernel_rfl) (by kernel_rfl)
 have tO:=Kx2
 have mA:=Je5
 have aE:=Xs8
 have vE:=Kt6
 have el:=Za6 a t (w.alloc (.cells #[.pointer (some ⟨1,112,none⟩),.pointer (some a),.int .u64 150] 162)) ((World.cell?_alloc_lt _ _ _ hal).trans ha)
 have st:=Zd3 t ⟨w.heap.size+1,0,none⟩ n old ((w.alloc (.cells #[.pointer (some ⟨1,112,none⟩),.pointer (some a),.int .u64 150] 162)).alloc (.cells #[.int .i64 n] 52))
  (by rw[World.cell?_alloc_at _ _ _ _ (by simp)];rfl)
  (by rw[World.cell?_alloc_lt _ _ t (by simp;omega),World.cell?_alloc_lt _ _ t htl];exact ht)
  (by rw[World.frozen?_alloc_old _ _ t (by simp;omega),World.frozen?_alloc_old _ _ t (Nat.ne_of_lt htl)];exact hf)
 go_enter Tryz.func102,Tryz.ntmps102
 go_wp2
 refine wp_loop_rounds 1 ?_
 rw[rounds_succ]
 go_wp2
 go_ret
 refine⟨rfl, ?_,(((Below.refl t.block w).alloc (by omega) _).alloc (by simp;omega) _).setCell (Nat.le_refl _) _⟩
 refine World.cell?_setCell_same _ _ _ (u:=old) ?_
 rw[World.cell?_alloc_lt _ _ t (by simp;omega),World.cell?_alloc_lt _ _ t htl]
 exact ht
theorem Xs9 (err:Value) (n:Int) (t:Nat) (w:World) (hE:Qh0 w) (ht:w.cell? ⟨t,0,none⟩=some (.int .i64 0)) (hf:w.frozen? ⟨t,0,none⟩=false) (hne: ∃u v,err= .iface u v)
  (hin: ∀(tg:Value) (a:Addr) (W:World),Below w.heap.size w W→W.cell? a=some (.pointer (some ⟨t,0,none⟩))→W.cell? ⟨t,0,none⟩=some (.int .i64 0)→W.frozen? ⟨t,0,none⟩=false→
   Calls Tryz.prog 102 #[err,tg,.agg #[.pointer (some ⟨1,112,none⟩),.pointer (some a),.int .u64 150],.iface 223 (.agg #[.pointer (some ⟨1,52,none⟩)])] W
    fun e w'=>e= .returned (.bool true)∧w'.cell? ⟨t,0,none⟩=some (.int .i64 n)∧Below t W w'):
  Calls Tryz.prog 49 #[err,.iface 112 (.pointer (some ⟨t,0,none⟩))] w fun e w'=>e= .returned (.bool true)∧w'.cell? ⟨t,0,none⟩=some (.int .i64 n)∧Below t w w':=by
 obtain⟨u,v,rfl⟩:=hne
 have htl:=World.block_lt_of_cell? w _ ht
 have hel:=hE.lt
 have h51:= @run_callFunc_extern Tryz.prog 99 _ (fun args=>ReflectliteValue.unpack (args.getD 0 (.tuple #[]))) Tryz.func99 (by kernel_rfl) (by kernel_rfl) (by kernel_rfl) (by kernel_rfl)
 have h52 := @run_callFunc_extern Tryz.prog 100 _ (ReflectliteValue.methodAny (ReflectliteValue.valueError "reflectlite.Value.Type" 0) (fun t _ _ _ => ReflectliteType.toType t)) Tryz.func100 (by kernel_rfl) (by kernel_rfl) (by kernel_rfl) (by kernel_rfl)
 have h53 := @run_callFunc_extern Tryz.prog 101 _ (ReflectliteValue.method (ReflectliteValue.valueError "reflectlite.Value.IsNil" 0) ReflectliteValue.isNil) Tryz.func101 (by kernel_rfl) (by kernel_rfl) (by kernel_rfl) (by kernel_rfl)
 have h72:= @run_callFunc_extern Tryz.prog 226 _ (ReflectliteType.abiMethod fun t=>do pure (.int .u8 (←Rtype.kind t))) Tryz.func226 (by kernel_rfl) (by kernel_rfl) (by kernel_rfl) (by kernel_rfl)
 have h85:= @run_callFunc_extern Tryz.prog 238 _ (ReflectliteType.method ReflectliteType.elem) Tryz.func238 (by kernel_rfl) (by kernel_rfl) (by kernel_rfl) (by kernel_rfl)
 have h86 := @run_callFunc_extern Tryz.prog 239 _ (ReflectliteType.relation "Implements" ReflectliteType.implements_) Tryz.func239 (by kernel_rfl) (by kernel_rfl) (by kernel_rfl) (by kernel_rfl)
 have f6:=Kt4
 have f7:=Zc2
 have mK:=Ka8
 have mE:=Ka9
 have mI:=Jl0
 have kP:=Zc3
 have kE:=Zc4
 have eP:=Zc5
 have iE:=Xs7
 have n8:=Za5 ⟨w.heap.size,0,none⟩ ⟨t,0,none⟩ ((w.alloc (.cells #[.pointer (some ⟨t,0,none⟩)] 112)).alloc (.cells #[.pointer (some ⟨1,112,none⟩),.pointer (some ⟨w.heap.size,0,none⟩),.int .u64 150] 162)) (by simp)
 have hg2:((w.alloc (.cells #[.pointer (some ⟨t,0,none⟩)] 112)).alloc (.cells #[.pointer (some ⟨1,112,none⟩),.pointer (some ⟨w.heap.size,0,none⟩),.int .u64 150] 162)).cell? ⟨0,0,none⟩=some (.iface 223 (.agg #[.pointer (some ⟨1,44,none⟩)])):=by
  rw[World.cell?_alloc_lt _ _ ⟨0,0,none⟩ (by simp<;>omega),World.cell?_alloc_lt _ _ ⟨0,0,none⟩ hel];exact hE
 have Hin:=QQ hin
 clear hin
 go_enter Tryz.func49,Tryz.ntmps49
 go_wp2_with fail
 refine(Hin.out _ ⟨w.heap.size,0,none⟩ _ ?_ ?_ ?_ ?_).mono ?_
 ·exact((Below.refl _ w).alloc (Nat.le_refl _) _).alloc (by simp) _
 ·rw[World.cell?_alloc_lt _ _ ⟨w.heap.size,0,none⟩ (by simp)];simp
 ·rw[World.cell?_alloc_lt _ _ ⟨t,0,none⟩ (by simp;omega),World.cell?_alloc_lt _ _ ⟨t,0,none⟩ htl];exact ht
 ·rw[World.frozen?_alloc_old _ _ ⟨t,0,none⟩ (by simp;omega),World.frozen?_alloc_old _ _ ⟨t,0,none⟩ (Nat.ne_of_lt htl)];exact hf
 rintro e w1 ⟨rfl,hc,hB⟩
 go_wp2
 go_ret
 exact⟨rfl,hc,(((Below.refl t w).alloc (by omega) _).alloc (by simp;omega) _).trans hB⟩
theorem Kb0 (n:Int) (w:World) (hE:Qh0 w):Calls Tryz.prog 14 #[.iface 52 (.int .i64 n)] w fun e w'=>e= .returned (.int .i64 n)∧Below w.heap.size w w':=by
 have HE:=QQ (hE.below ((Below.refl _ w).alloc (Nat.le_refl _) (.cells #[.int .i64 0] 52)) (Nat.le_refl _))
 go_enter Tryz.func14,Tryz.ntmps14
 go_wp2_with fail
 refine(Xs9 _ n w.heap.size _ HE.out (by simp) (by simp) ⟨_,_,rfl⟩ ?_).mono ?_
 ·intro tg a W hB ha ht hf
  exact Kt7 n tg a ⟨w.heap.size,0,none⟩ _ W ha ht hf
 rintro e w1 ⟨rfl,hc,hB⟩
 go_wp2
 go_ret
 exact⟨rfl,((Below.refl _ w).alloc (Nat.le_refl _) _).trans hB⟩
end Go.Proofs.YtnlngicnfegjgaaGreatDoor
namespace Go.Proofs.YtnlngicnfegjgaaGreatDoor
open Go.ChangeMaps Go.RowKit
theorem Kb1 {w0 w:World} {D k:Nat} (h:Kx1 w0 w D k) (hk:k≤200) (q oi os ok op oq:Int):
  Calls Tryz.prog 7 #[.pointer (some ⟨D,0,none⟩),.agg #[.int .i64 q,.int .i64 oi,.int .i64 os,.int .i64 ok,.int .i64 op,.int .i64 oq]] w fun ev w'=>ev= .returned (.bool true)∧Kx1 w0 w' D (k+1):=by
 obtain⟨e,L,S,A,cap,l,c,F,m,lots,side,since,hands,h⟩:=h
 refine(Kt3 h hk q oi os ok op oq).mono ?_
 rintro ev w' ⟨rfl,F',m',lots',side',since',hands',h'⟩
 exact⟨rfl,_,_,_,_,_,_,_,_,_,_,_,_,_,h'⟩
theorem Jy5 (a b p t mo:Int) (A:Option Addr) (len cap:Nat) (l:List Int) (A2:Option Addr) (len2 cap2:Nat) (sl:List Ke5) (w:World) (h:XZ w Za4 1 A len l) (h2:XZ w Kt1 6 A2 len2 sl) (hE:Qh0 w):
  Calls Tryz.prog 3 #[.int .i64 a,.int .i64 b,.int .i64 p,.int .i64 t,.int .i64 mo,.slice A len cap,.slice A2 len2 cap2] w fun e w'=>e= .returned (.bool true)∧Below w.heap.size w w':=by
 have HL:=QQ h
 have HL2:=QQ h2
 have HE:=QQ hE
 clear h h2 hE
 by_cases hn2:100<len2
 ·have q1:(100:Int)< (len2:Int):=by omega
  clear hn2;go_enter Tryz.func3,Tryz.ntmps3
  go_wp2_with fail
  go_ret;exact⟨rfl,Below.refl _ _⟩
 ·have q1: ¬(100:Int)< (len2:Int):=by omega
  by_cases hn:10<len
  ·have q2:(10:Int)< (len:Int):=by omega
   clear hn2 hn;go_enter Tryz.func3,Tryz.ntmps3
   go_wp2_with fail
   go_ret;exact⟨rfl,Below.refl _ _⟩
  ·have q2: ¬(10:Int)< (len:Int):=by omega
   have hle:len≤10:=by omega
   have hle2:len2≤100:=by omega
   have HLe:=QQ (And.intro hle hle2);clear hn2 hn hle hle2;go_enter Tryz.func3,Tryz.ntmps3
   go_wp2_with fail
   refine(Xz7 _).mono ?_;rintro ev w1 ⟨rfl,hb1⟩;have HB1:=QQ hb1;clear hb1;go_wp2_with fail
   refine(Ka4 a b p t mo A len cap l _ (HL.out.below HB1.out (Nat.le_refl _)) HLe.out.1).mono ?_;rintro ev w2 ⟨hb2,D,E,L,S,T,ct,F,c,rfl,hd,hk,hF,g1,g2,g3,g4⟩;have HA:Hid (Kx1 w1 w2 D 0):=QQ ⟨_,_,_,_,_,_,_,_,_,_,_,_,_,Kt0 hb2 hd hk hF g1 g2 g3 g4⟩;clear hb2 hd hk hF g1 g2 g3 g4;go_upto_region 8 with fail
   go_wp2_with fail
   go_loopg [16] len2 (fun gg s16 wx=> ∃k:Nat,k≤len2∧gg=len2-k∧s16= .int .i64 k∧Kx1 w1 wx D k)
   case atStart=>exact⟨0,Nat.zero_le _,rfl,rfl,HA.out⟩
   case round=>
    obtain⟨k,hk,rfl,rfl,hP⟩:=hrel;have HP:=QQ hP;have HBr:Hid (Below w.heap.size w wr):=QQ (by obtain⟨_,_,_,_,_,_,_,_,_,_,_,_,_,h1⟩:=hP;exact HB1.out.trans (h1.bel.mono HB1.out.size));clear hP
    by_cases hlt:k<len2
    ·have hkl:k<sl.length:=by have:=HL2.out.1;omega
     have hEl:=HL2.out.below HBr.out (Nat.le_refl _);obtain⟨gA,oA,hA⟩: ∃b off,A2=some ⟨b,off,none⟩:=by obtain⟨b,off,h1,_⟩:=hEl.2 (by omega);exact⟨b,off,h1⟩
     subst hA;obtain⟨x0,x1,x2,x3,x4,x5⟩:=Zc0 hEl hkl;have hltz:(k:Int)< (len2:Int):=by omega
     have hk7:(0:Int)≤(k:Int):=by omega
     have hkb:k<200:=by have:=HLe.out.2;omega
     obtain⟨⟨q,oi,os,ok,op,oq⟩,eo⟩: ∃o,sl[k]=o:=⟨_,rfl⟩;rw[eo]at x0 x1 x2 x3 x4 x5;dsimp only at x0 x1 x2 x3 x4 x5;clear eo hEl;have HDo:=QQ (Kb1 HP.out (by omega) q oi os ok op oq);go_wp2_with fail
     refine HDo.out.mono ?_;rintro ev w4 ⟨rfl,hA4⟩;have HA4:=QQ hA4;clear hA4;go_wp2_with fail
     go_roundg (len2- (k+1))
     case measure=>omega
     case rel=>exact⟨k+1,by omega,rfl,by go_num,HA4.out⟩
    ·obtain rfl:k=len2:=by omega
     have hltz: ¬(k:Int)< (k:Int):=by omega
     have hP:=HP.out;clear HP HBr HA;obtain⟨e,L,S,T,ct,l',c,F,m,lots,side,since,hands,hP⟩:=hP;have HDe:=QQ hP.toE;clear hP;obtain⟨bT,oT,hT,-,hcT⟩:=HDe.out.day.tab.2 (by omega);subst hT;have t4:wr.cell? ⟨bT,oT+4*2,none⟩=some (.int .i64 (X6 l' 4)):=by rw[(hcT 4 (by omega)).1,Qz2 l' (by omega)]
     have t4b:wr.cell? ⟨bT,oT+8,none⟩=some (.int .i64 (X6 l' 4)):=t4;clear hcT;obtain⟨k0,k1,-⟩:=HDe.out.day.cells;go_upto_region 13 with fail
     go_quiet (fail)
     have HD0:Hid (Qv3 w1 (wr.drewN nq) D e L S (some ⟨bT,oT,none⟩) ct l' c F m lots side since hands):=QQ (HDe.out.below (Below.drewN_ (Below.refl _ _) nq));obtain⟨w5,ew5⟩: ∃W,wr.drewN nq=W:=⟨_,rfl⟩;rw[ew5]at HD0
     try rw[ew5]
     obtain⟨en,hen⟩: ∃x,X6 l' 4=x:=⟨_,rfl⟩
     try rw[hen]
     have Hen:=QQ hen;clear ew5 hen t4 t4b k0 k1 HDe;go_upto_region 14 with fail
     go_loopg [18] (en-m.now).toNat (fun gg s18 wx=> ∃F m,Qv3 w1 wx D e L S (some ⟨bT,oT,none⟩) ct l' c F m lots side since hands∧gg=(en-m.now).toNat)
     case atStart=>exact⟨F,m,HD0.out,rfl⟩
     case round=>
      obtain⟨F5,m5,hD,rfl⟩:=hrel;have HDr:=QQ hD;clear hD;obtain⟨k0,-⟩:=HDr.out.day.cells;go_wp2_with fail
      refine(Xp9 HDr.out.day.eng).mono ?_;rintro ev w6 ⟨rfl,hb6⟩;have HD6:=QQ (HDr.out.below hb6);clear hb6 HDr k0;obtain⟨k0,-⟩:=HD6.out.day.cells
      by_cases hn:m5.now<en
      ·have hn':m5.now<X6 l' 4:=by rw[Hen.out];exact hn
       have Hn:=QQ hn';clear hn';go_wp2_with fail
       refine(Qm8 HD6.out.day.eng).mono ?_;rintro ev w7 ⟨rfl,hb7⟩;have HD7:=QQ (HD6.out.below hb7);have p7:=UQ (HD7.out.live Hn.out);clear hb7 HD6 k0;obtain⟨k0,-⟩:=HD7.out.day.cells;go_wp2_with fail
       refine(Jb0 HD7.out.day.eng HD7.out.in_.1 HD7.out.in_.2).mono ?_;rintro ev w8 ht;obtain⟨A1,n1,c1,F1,rfl,hd8,hnow⟩:=HD7.out.tick Hn.out ht;have HD8:=QQ hd8;have Hnow:=QQ hnow;have Hn2:=QQ hn;clear hd8 ht hnow k0 p7 HD7 hn;go_wp2_with fail
       go_roundg ((en- (m5.now+1)).toNat)
       case measure=>have:=Hn2.out;omega
       case rel=>exact⟨F1,Q8 m5,HD8.out,by rw[Hnow.out]⟩
      ·obtain⟨e1,e7,eL1,eL2,epk⟩:=HD6.out.over (by rw[Hen.out];exact hn)
       rw[Hen.out]at e1;have S1:=QQ (fun W (hW:UK W e F5 m5)=>Ja8 hW 1 KX);have S2:=QQ (fun W (hW:UK W e F5 m5)=>Ja8 hW 2 KK);rw[show JY 1 m5.L1 m5.L2=m5.L1 from rfl,eL1]at S1;rw[show JY 2 m5.L1 m5.L2=m5.L2 from rfl,eL2]at S2;have hpk:m5.pk.length≤100000:=by rw[epk];exact Nat.zero_le _
       have HPk:=QQ hpk;have He7:=QQ e7;have He1:=QQ e1;have Hepk:=QQ epk;clear e1 e7 eL1 eL2 epk hpk;go_wp2_with fail
       refine(S1.out _ HD6.out.day.eng).mono ?_;rintro ev w7 ⟨hb7,A7,c7,rfl,-,-⟩;have HD7:=QQ (HD6.out.below hb7);clear hb7 HD6 k0;obtain⟨k0,-⟩:=HD7.out.day.cells;go_wp2_with fail
       refine(S2.out _ HD7.out.day.eng).mono ?_;rintro ev w8 ⟨hb8,A8,c8,rfl,-,-⟩;have HD8:=QQ (HD7.out.below hb8);clear hb8 HD7 k0 S1 S2;obtain⟨k0,-⟩:=HD8.out.day.cells;go_wp2_with fail
       refine(Qu3 HD8.out.day.eng HD8.out.in_.1 ⟨900,1,1,5,1⟩ (by unfold Qd5 V3;dsimp only;omega)).mono ?_;rintro ev w9 ht;rw[(Jw7 He7.out).1,(Jw7 He7.out).2]at ht;obtain⟨A9,c9,Fs,rfl,-,-,-,F9,hE9,hs9,-⟩:=ht;have HD9:=QQ (HD8.out.step hE9 hs9 (YK.refl _) HD8.out.ok_ HD8.out.end_ HD8.out.fin);clear hE9 hs9 HD8 k0;obtain⟨nf,hnf⟩: ∃n,Fs.length=n:=⟨_,rfl⟩;rw[hnf];clear hnf;unfold YV;rw[if_neg (by decide)];obtain⟨k0,-⟩:=HD9.out.day.cells;go_wp2_with fail
       refine(Qm8 HD9.out.day.eng).mono ?_;rintro ev w10 ⟨rfl,hb10⟩;have HD10:=QQ (HD9.out.below hb10);clear hb10 HD9 k0;obtain⟨k0,-⟩:=HD10.out.day.cells;rw[He7.out];go_wp2_with fail
       have S3:=QQ (Xs1 HD10.out.day.eng HPk.out);rw[Hepk.out]at S3;refine S3.out.mono ?_;rintro ev w11 ⟨hb11,A11,c11,rfl,-,-⟩;have HD11:=QQ (HD10.out.below hb11);clear hb11 HD10 k0 S3;obtain⟨k0,-⟩:=HD11.out.day.cells;go_wp2_with fail
       refine(Kb0 6 _ (HE.out.below (HB1.out.trans (HD11.out.bel.mono HB1.out.size)) (Nat.le_refl _))).mono ?_;rintro ev w12 ⟨rfl,hb12⟩;have HD12:=QQ (HD11.out.below hb12);clear hb12 HD11 k0;obtain⟨k0,-⟩:=HD12.out.day.cells;go_wp2_with fail
       refine(Xp9 HD12.out.day.eng).mono ?_;rintro ev w13 ⟨rfl,hb13⟩;have HD13:=QQ (HD12.out.below hb13);have z1:=J4 He1.out;clear hb13 HD12 k0;go_wp2_with fail
       go_ret;exact⟨rfl,HB1.out.trans (HD13.out.bel.mono HB1.out.size)⟩
end Go.Proofs.YtnlngicnfegjgaaGreatDoor
namespace Go.Proofs.YtnlngicnfegjgaaGreatDoor
open Go.RowKit
theorem Xj1 {w:World} {A:Option Addr} {len cap:Nat} {rows:List (List Int)} (h:Jc5 w 1 A len cap rows):XZ w Za4 1 A len (rows.map fun r=>r.getD 0 0):=by
 obtain⟨h1,_,_,h4,_,h6⟩:=h
 refine⟨by simp[h1],fun hl=> ?_⟩
 obtain⟨b,off,hA,hb,hc⟩:=h6 hl
 refine⟨b,off,hA,hb,fun i hi j u hu=> ?_⟩
 have hi':i<rows.length:=by simpa using hi
 have hr:=(h4 rows[i] (List.getElem_mem _)).1
 have e:(rows.map fun r=>r.getD 0 0)[i]=rows[i].getD 0 0:=by simp
 rw[e]at hu
 match j,hu with
 |0,hu=>
  cases hu;rw[hc i hi' 0 (by omega)];have:0<rows[i].length:=by omega
  simp[List.getD_eq_getElem?_getD,this]
theorem Jw9 (a b p t mo:Int) {W:World} {A:Option Addr} {len cap:Nat} {rows:List (List Int)} {A2:Option Addr} {len2 cap2:Nat} {rows2:List (List Int)} (h:Jc5 W 1 A len cap rows) (h2:Jc5 W 6 A2 len2 cap2 rows2) (hE:Qh0 W):
  Calls Tryz.prog 3 #[.int .i64 a,.int .i64 b,.int .i64 p,.int .i64 t,.int .i64 mo,.slice A len cap,.slice A2 len2 cap2] W fun e w'=>e= .returned (.bool true)∧Below W.heap.size W w':=
 Jy5 a b p t mo A len cap _ A2 len2 cap2 _ W (Xj1 h) (Ka3 h2) hE
end Go.Proofs.YtnlngicnfegjgaaGreatDoor
namespace Go.Proofs.YtnlngicnfegjgaaGreatDoor
open Go.ChangeShapes Go.RowKit Go.WideShapes
theorem et : Tryz.prog.globalNamed "errors.errorType" = some 0 := by kernel_rfl
theorem rt : (Tryz.prog.cutTypes.find? (·.1 == "internal/reflectlite.rtype")).map (·.2) = some 223 := by kernel_rfl
theorem Za8:((List.range 320).filter fun t=>Tryz.prog.rowNamed t [101,114,114,111,114])= [44]:=by kernel_rfl
theorem Kl7:Tryz.prog.types.size=320:=by kernel_rfl
theorem Jp1 {W : World} (h : laidMetH Tryz.prog [("errors.errorType", Rows.laid_errors_errorType)] W) : Qh0 W := by
 have h' : laidMet Tryz.prog [] W ∧ handlesMet Tryz.prog [("errors.errorType", Rows.laid_errors_errorType)] W := h
 obtain⟨name,u,ty,e1,e2,e3,e4,e5⟩:=h'.2 _ (List.mem_singleton.2 rfl)
 have en:name= [101,114,114,111,114]:=(Option.some.inj e1).symm
 subst en
 obtain rfl:=Option.some.inj (rt.symm.trans e2)
 have hm:ty∈(List.range 320).filter fun t=>Tryz.prog.rowNamed t [101,114,114,111,114]:=List.mem_filter.2 ⟨List.mem_range.2 (by rw[←Kl7];exact e3),e4⟩
 rw[Za8]at hm
 obtain rfl:=List.mem_singleton.1 hm
 have hh:typeHandle Tryz.prog 44= .pointer (some ⟨1,44,none⟩):=by kernel_rfl
 rw[hh]at e5
 have:=World.var?_cell et e5 0
 simpa [Qh0]using this
noncomputable def Xe7 (os:Os):World:=
 let w0:=World.holding Tryz.prog os ⟨#[],#[],[]⟩
 {w0 with heap:=w0.heap.modify 0 fun
   | .cells _ t frozen=> .cells #[.iface 223 (.agg #[.pointer (some ⟨1,44,none⟩)])] t frozen
   |o=>o}
theorem Jy6 (os : Os) (args : Array Value) : laidMetH Tryz.prog [("errors.errorType", Rows.laid_errors_errorType)] ((Xe7 os).forCall (fun _ _ => 0) ⟨#[], args, []⟩).memory :=
 laidMetH_of_parts (laidMet_nil _ _) (by kernel_rfl)
end Go.Proofs.YtnlngicnfegjgaaGreatDoor
