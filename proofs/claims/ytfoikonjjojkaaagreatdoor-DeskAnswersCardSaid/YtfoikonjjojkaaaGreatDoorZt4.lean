/- Parts. -/
import Derived.Test.YtfoikonjjojkaaaGreatDoorZt3
set_option linter.unusedVariables false
set_option maxRecDepth 100000
set_option maxHeartbeats 8000000
open Go.Proofs.Tryz
open Go.Value renaming int→I,pointer→IP
open Go.IntKind renaming i64→O
namespace Go.Proofs.YtfoikonjjojkaaaGreatDoor
open Go.RowKit
section
open Go.Extern Go.Extern.Stop Go.Stop
def LZ(w:World):Prop:=w.cell? (aD 5 0)=some (.iface 251 (.agg #[IP (some (aD 12 39))]))
theorem LZ.lt{w}(h:LZ w):5<w.heap.size:=U5 w _ h
theorem LZ.below{w w' B}(h:LZ w)(j:Below B w w')(i:w.heap.size<=B):LZ w':=
 (j.cell (p:=(aD 5 0)) (D0 h.lt i)).trans h
theorem Jx8 t w:(ReflectliteValue.unpack (.iface 156 (IP (some t)))).run prog w =.ok (.agg #[IP (some (aD 12 156)),pA w.heap.size,.int .u64 150]) (w.alloc (.cells #[IP (some t)] 156)):=Q4
theorem Xp8 a w : (ReflectliteValue.methodAny (ReflectliteValue.valueError "reflectlite.Value.Type" 0) (fun t _ _ _ => ReflectliteType.toType t) #[.agg #[.pointer (some ⟨12, 156, none⟩), .pointer (some a), .int .u64 150]]).run Tryz.prog w
  =.ok (.iface 251 (.agg #[IP (some ⟨12,156,none⟩)])) w:=Q4
theorem Jb4 h w : (Go.method 501 251 (.agg #[h]) "Kind").run Tryz.prog w = .ok (314, h) w := by kernel_rfl
theorem Xp9 w:((ReflectliteType.abiMethod fun t=>(fun a:Nat=>Value.int IntKind.u8 (a:Int)) <$> Rtype.kind t) #[IP (some (aD 12 156))]).run prog w=.ok (.int .u8 22) w:=Q4
theorem Xq0 w:((ReflectliteType.abiMethod fun t=>(fun a:Nat=>Value.int IntKind.u8 (a:Int)) <$> Rtype.kind t) #[IP (some (aD 12 52))]).run prog w=.ok (.int .u8 2) w:=Q4
theorem rlm(z:Sem Value)(f:TypeId->Addr->Nat->Nat->Sem Value)(v:Value):ReflectliteValue.method z f #[v]=(do match<-ReflectliteValue.parts v with|none=>z|some (t,a,fl)=>f t a fl (fl % 32)):=rfl
theorem Qh0 a w:(ReflectliteValue.parts (.agg #[IP (some (aD 12 156)),IP (some a),.int .u64 150])).run prog w=.ok (some (156,a,150)) w:=Q4
theorem Xm6 a p W(i:W.cell? a=some (IP (some p))):
  (ReflectliteValue.method (ReflectliteValue.valueError "reflectlite.Value.IsNil" 0) ReflectliteValue.isNil #[.agg #[.pointer (some ⟨12, 156, none⟩), .pointer (some a), .int .u64 150]]).run Tryz.prog W = .ok (.bool false) W := by
 rw[rlm];simp only[Sem.run_bind,Qh0,Result.andThen];simp[ReflectliteValue.isNil,loadVar,isAgg,underlying,underlying156,i,Result.andThen]
theorem Jb5 h w : (Go.method 501 251 (.agg #[h]) "Elem").run Tryz.prog w = .ok (328, .agg #[h]) w := by kernel_rfl
theorem Ql0 h w : (Go.method 501 251 (.agg #[h]) "Implements").run Tryz.prog w = .ok (329, .agg #[h]) w := by kernel_rfl
theorem Gk h w : (Go.method 501 251 (.agg #[h]) "AssignableTo").run Tryz.prog w = .ok (326, .agg #[h]) w := by kernel_rfl
theorem Xq1 w:(ReflectliteType.method ReflectliteType.elem #[.agg #[IP (some (aD 12 156))]]).run prog w=.ok (.iface 251 (.agg #[IP (some (aD 12 52))])) w:=Q4
theorem Qu3 w : (ReflectliteType.relation "Implements" ReflectliteType.implements_ #[.agg #[.pointer (some ⟨12, 52, none⟩)], .iface 251 (.agg #[.pointer (some ⟨12, 39, none⟩)])]).run Tryz.prog w = .ok (.bool true) w := by kernel_rfl
theorem Qd7 v w:(ReflectliteType.typeOf #[.iface 52 v]).run prog w=.ok (.iface 251 (.agg #[IP (some (aD 12 52))])) w:=Q4
theorem Xh2 v w:(ReflectliteType.typeOf #[.iface 287 v]).run prog w=.ok (.iface 251 (.agg #[IP (some (aD 12 287))])) w:=Q4
theorem Lv w : (ReflectliteType.relation "AssignableTo" ReflectliteType.assignableTo #[.agg #[.pointer (some ⟨12, 52, none⟩)], .iface 251 (.agg #[.pointer (some ⟨12, 52, none⟩)])]).run Tryz.prog w = .ok (.bool true) w := by kernel_rfl
theorem Qu4 w : (ReflectliteType.relation "AssignableTo" ReflectliteType.assignableTo #[.agg #[.pointer (some ⟨12, 287, none⟩)], .iface 251 (.agg #[.pointer (some ⟨12, 52, none⟩)])]).run Tryz.prog w = .ok (.bool false) w := by kernel_rfl
theorem Wj n w:(ReflectliteValue.unpack (.iface 52 (I O n))).run prog w =.ok (.agg #[IP (some (aD 12 52)),pA w.heap.size,.int .u64 130]) (w.alloc (.cells #[I O n] 52)):=Q4
theorem Xh3 w:(Rtype.elem? 156).run prog w=.ok (some 52) w:=Q4
theorem mkE p w:(ReflectliteValue.mk 52 p ReflectliteValue.flagAddr).run prog w=.ok (.agg #[IP (some (aD 12 52)),IP (some p),.int .u64 386]) w:=Q4
theorem Qh1 a p W(i:W.cell? a=some (IP (some p))):
  (ReflectliteValue.method (ReflectliteValue.valueError "reflectlite.Value.Elem" 0) ReflectliteValue.elem #[.agg #[.pointer (some ⟨12, 156, none⟩), .pointer (some a), .int .u64 150]]).run Tryz.prog W
   =.ok (.agg #[IP (some ⟨12,52,none⟩),IP (some p),.int .u64 386]) W:=by
 rw[rlm];simp only[Sem.run_bind,Qh0,Result.andThen];simp[ReflectliteValue.elem,loadVar,isAgg,underlying,underlying156,i,Result.andThen,Xh3,mkE]
theorem rls(v x:Value):ReflectliteValue.set #[v,x]=(do
  let(some (dst,a,fl),some (src,b,_)):=(<-ReflectliteValue.parts v,<-ReflectliteValue.parts x)
   | unsupported (.noEntry "extern/(internal/reflectlite.Value).Set.zeroValue")
  if fl / ReflectliteValue.flagAddr % 2 == 0 then unsupported (.noEntry "extern/(internal/reflectlite.Value).Set.unaddressable")
  let val<-loadVar src b
  if<-Rtype.directlyAssignable dst src then storeVar dst a val
  else if<-Rtype.implements dst src then
   if(<-Rtype.kind src) ==20 then
    match val with
    | .nilIface => unsupported (.noEntry "extern/reflectlite: a nil value of one interface type handed on as a value of another")
    |_=>storeVar dst a val
   else storeVar dst a (.iface src val)
  else panicString ("reflectlite.Set: value of type " ++ (← Rtype.spelt src) ++ " is not assignable to type " ++ (← Rtype.spelt dst))
  pure (.tuple #[])):=rfl
theorem Xh4 a w:(ReflectliteValue.parts (.agg #[IP (some (aD 12 52)),IP (some a),.int .u64 386])).run prog w=.ok (some (52,a,386)) w:=Q4
theorem Xm7 a w:(ReflectliteValue.parts (.agg #[IP (some (aD 12 52)),IP (some a),.int .u64 130])).run prog w=.ok (some (52,a,130)) w:=Q4
theorem Xh5 w:(Rtype.directlyAssignable 52 52).run prog w=.ok true w:=Q4
theorem Qk6 i b n y W(j:W.cell? b=some (I O n))(ht:W.cell? i=some y)(u:W.frozen? i=false):(ReflectliteValue.set #[.agg #[IP (some (aD 12 52)),IP (some i),.int .u64 386],.agg #[IP (some (aD 12 52)),IP (some b),.int .u64 130]]).run prog W =.ok (.tuple #[]) (W.setCell i (I O n)):=by rw[rls];simp only[Sem.run_bind,Xh4,Xm7,Result.andThen];simp[ReflectliteValue.flagAddr,loadVar,isAgg,underlying,underlying52,j,Result.andThen,Xh5,storeVar,Value.cells,storeCells,Addr.add];rw[run_store prog W i _ _ Q8];simp[ht,u]
theorem Jx9 n E a t j w(y:w.cell? a=some (IP (some t)))(ht:w.cell? t=some j)(D:w.frozen? t=false):Calls prog 165 #[.iface 52 (I O n),E,.agg #[IP (some (aD 12 156)),IP (some a),.int .u64 150],.iface 251 (.agg #[IP (some (aD 12 52))])] w fun e w'=>e=.returned (.bool true)/\w'.cell? t=some (I O n)/\Below t.block w w':=by
 have C:=U5 w _ y;have i:=U5 w _ ht;have Z:= @run_callFunc_extern prog 130 _ (fun args=>ReflectliteValue.unpack (args.getD 0 (.tuple #[]))) func130 Q4 Q4 Q4 Q4;have a0:= @run_callFunc_extern prog 214 _ ReflectliteType.typeOf func214 Q4 Q4 Q4 Q4
 have a3 := @run_callFunc_extern Tryz.prog 326 _ (ReflectliteType.relation "AssignableTo" ReflectliteType.assignableTo) Tryz.func326 (by kernel_rfl) (by kernel_rfl) (by kernel_rfl) (by kernel_rfl)
 have a1 := @run_callFunc_extern Tryz.prog 215 _ (ReflectliteValue.method (ReflectliteValue.valueError "reflectlite.Value.Elem" 0) ReflectliteValue.elem) Tryz.func215 (by kernel_rfl) (by kernel_rfl) (by kernel_rfl) (by kernel_rfl);have a2:= @run_callFunc_extern Tryz.prog 216 _ ReflectliteValue.set Tryz.func216 Q4 Q4 Q4 Q4;have tO:=Qd7;have mA:=Gk;have J:=Lv;have vE:=Wj;have N:=Qh1 a t (w.alloc (.cells #[.pointer (some (aD 12 156)),.pointer (some a),.int .u64 150] 183)) ((W7 _ _ _ C).trans y);have st:=Qk6 t (aD ((zS w)+1) 0) n j ((w.alloc (.cells #[.pointer (some (aD 12 156)),.pointer (some a),.int .u64 150] 183)).alloc (.cells #[I O n] 52))
  (by rw[World.cell?_alloc_at _ _ _ _ Q3];rfl)
  (by rw[W7 _ _ t Q7,W7 _ _ t i];exact ht)
  (by rw[Jz _ _ t Q7,Jz _ _ t (Nat.ne_of_lt i)];exact D)
 go_enter func165,ntmps165
 go_wp2;refine Xp 1 ?_;rw[NS];go_wp2;go_ret;refine⟨rfl,?_,(((J9 t.block w).alloc Q0 _).alloc Q7 _).setCell Q2 _⟩;refine Jv _ _ _ (u:=j) ?_;rw[W7 _ _ t Q7,W7 _ _ t i];exact ht
theorem Xq2 v i w:(Instr.typeAssert (.iface 287 v) i 296 true).run prog w=.ok (.tuple #[.nilIface,.bool false]) w:=
 run_typeAssert_lacksB underlying296 Q4 Q4 v i w
theorem Xh6 v i w:(Instr.typeAssert (.iface 287 v) i 299 true).run prog w=.ok (.tuple #[.iface 287 v,.bool true]) w:=
 run_typeAssert_hasB underlying299 Q4 v i w
theorem Qq3 h w : (Go.method 501 287 h "Unwrap").run Tryz.prog w = .ok (337, h) w := by kernel_rfl
theorem Jb6 g n w(i:w.cell? (aD g 0)=some (I O n)):Calls prog 337 #[pA g] w fun e w'=>e=.returned (.iface 52 (I O n))/\w=w':=by
 go_enter func337,ntmps337
 go_wp2;go_ret;exact⟨rfl,rfl⟩
theorem Xq3 g n Z a t j w(y:w.cell? a=some (IP (some t)))(ht:w.cell? t=some j)(E:w.frozen? t=false)(C:w.cell? (aD g 0)=some (I O n)):Calls prog 165 #[.iface 287 (pA g),Z,.agg #[IP (some (aD 12 156)),IP (some a),.int .u64 150],.iface 251 (.agg #[IP (some (aD 12 52))])] w fun e w'=>e=.returned (.bool true)/\w'.cell? t=some (I O n)/\Below t.block w w':=by
 have D:=U5 w _ y;have i:=U5 w _ ht;have N:=U5 w _ C;have a0:= @run_callFunc_extern prog 130 _ (fun args=>ReflectliteValue.unpack (args.getD 0 (.tuple #[]))) func130 Q4 Q4 Q4 Q4;have a1:= @run_callFunc_extern prog 214 _ ReflectliteType.typeOf func214 Q4 Q4 Q4 Q4
 have a4 := @run_callFunc_extern Tryz.prog 326 _ (ReflectliteType.relation "AssignableTo" ReflectliteType.assignableTo) Tryz.func326 (by kernel_rfl) (by kernel_rfl) (by kernel_rfl) (by kernel_rfl)
 have a2 := @run_callFunc_extern Tryz.prog 215 _ (ReflectliteValue.method (ReflectliteValue.valueError "reflectlite.Value.Elem" 0) ReflectliteValue.elem) Tryz.func215 (by kernel_rfl) (by kernel_rfl) (by kernel_rfl) (by kernel_rfl);have a3:= @run_callFunc_extern Tryz.prog 216 _ ReflectliteValue.set Tryz.func216 Q4 Q4 Q4 Q4;have tO:=Qd7;have tA:=Xh2;have mA:=Gk;have aE:=Lv;have aA:=Qu4;have vE:=Wj;have nA:=Xq2;have uA:=Xh6;have mU:=Qq3;have el:=Qh1 a t (w.alloc (.cells #[.pointer (some (aD 12 156)),.pointer (some a),.int .u64 150] 183)) ((W7 _ _ _ D).trans y);have st:=Qk6 t (aD ((zS w)+1) 0) n j ((w.alloc (.cells #[.pointer (some (aD 12 156)),.pointer (some a),.int .u64 150] 183)).alloc (.cells #[I O n] 52))
  (by rw[World.cell?_alloc_at _ _ _ _ Q3];rfl)
  (by rw[W7 _ _ t Q7,W7 _ _ t i];exact ht)
  (by rw[Jz _ _ t Q7,Jz _ _ t (Nat.ne_of_lt i)];exact E)
 have J:(w.alloc (.cells #[IP (some (aD 12 156)),IP (some a),.int .u64 150] 183)).cell? (aD g 0)=some (I O n):=(W7 _ _ _ N).trans C;go_enter func165,ntmps165
 go_wp2;refine Xp 2 ?_;rw[NS];go_wp2_with (go_at_call 337;refine(Jb6 g n _ J).mono ?_;rintro e w'⟨rfl,rfl⟩)
 rw[NS];go_wp2;go_ret;refine⟨rfl,?_,(((J9 t.block w).alloc Q0 _).alloc Q7 _).setCell Q2 _⟩;refine Jv _ _ _ (u:=j) ?_;rw[W7 _ _ t Q7,W7 _ _ t i];exact ht
theorem Lw i n t w(j:LZ w)(ht:w.cell? (aD t 0)=some (I O 0))(Z:w.frozen? (aD t 0)=false)(a0:∃u v,i=.iface u v)(y:∀tg a W,Bz w W->W.cell? a=some (pA t)->W.cell? (aD t 0)=some (I O 0)->W.frozen? (aD t 0)=false->Calls prog 165 #[i,tg,.agg #[IP (some (aD 12 156)),IP (some a),.int .u64 150],.iface 251 (.agg #[IP (some (aD 12 52))])] W fun e w'=>e=.returned (.bool true)/\w'.cell? (aD t 0)=some (I O n)/\Below t W w'):Calls prog 112 #[i,.iface 156 (pA t)] w fun e w'=>e=.returned (.bool true)/\w'.cell? (aD t 0)=some (I O n)/\Below t w w':=by
 obtain⟨u,v,rfl⟩:=a0;have C:=U5 w _ ht;have N:=j.lt;have a1:= @run_callFunc_extern prog 130 _ (fun args=>ReflectliteValue.unpack (args.getD 0 (.tuple #[]))) func130 Q4 Q4 Q4 Q4
 have a2 := @run_callFunc_extern Tryz.prog 163 _ (ReflectliteValue.methodAny (ReflectliteValue.valueError "reflectlite.Value.Type" 0) (fun t _ _ _ => ReflectliteType.toType t)) Tryz.func163 (by kernel_rfl) (by kernel_rfl) (by kernel_rfl) (by kernel_rfl)
 have a3 := @run_callFunc_extern Tryz.prog 164 _ (ReflectliteValue.method (ReflectliteValue.valueError "reflectlite.Value.IsNil" 0) ReflectliteValue.isNil) Tryz.func164 (by kernel_rfl) (by kernel_rfl) (by kernel_rfl) (by kernel_rfl);have a4:= @run_callFunc_extern Tryz.prog 314 _ (ReflectliteType.abiMethod fun t=>do pure (.int .u8 (←Rtype.kind t))) Tryz.func314 Q4 Q4 Q4 Q4;have a5:= @run_callFunc_extern Tryz.prog 328 _ (ReflectliteType.method ReflectliteType.elem) Tryz.func328 Q4 Q4 Q4 Q4
 have a6 := @run_callFunc_extern Tryz.prog 329 _ (ReflectliteType.relation "Implements" ReflectliteType.implements_) Tryz.func329 (by kernel_rfl) (by kernel_rfl) (by kernel_rfl) (by kernel_rfl);have f6:=Jx8;have f7:=Xp8;have mK:=Jb4;have mE:=Jb5;have mI:=Ql0;have kP:=Xp9;have kE:=Xq0;have eP:=Xq1;have iE:=Qu3;have n8:=Xm6 (aD (zS w) 0) (aD t 0) ((w.alloc (.cells #[pA t] 156)).alloc (.cells #[.pointer (some (aD 12 156)),pA (zS w),.int .u64 150] 183)) Q3;have a7:((w.alloc (.cells #[pA t] 156)).alloc (.cells #[.pointer (some (aD 12 156)),pA (zS w),.int .u64 150] 183)).cell? (aD 5 0)=some (.iface 251 (.agg #[.pointer (some (aD 12 39))])):=by rw[W7 _ _ (aD 5 0) (by simp<;>omega),W7 _ _ (aD 5 0) N];exact j
 have D:=J6 y;clear y;go_enter func112,ntmps112
 go_wp2_with fail
 refine(D _ (aD (zS w) 0) _ ?_ ?_ ?_ ?_).mono ?_
 ·exact((J9 _ w).alloc Q2 _).alloc Q3 _
 ·rw[W7 _ _ (aD (zS w) 0) Q3];simp
 ·rw[W7 _ _ (aD t 0) Q7,W7 _ _ (aD t 0) C];exact ht
 ·rw[Jz _ _ (aD t 0) Q7,Jz _ _ (aD t 0) (Nat.ne_of_lt C)];exact Z
 rintro e w1⟨rfl,J,E⟩;go_wp2;go_ret;exact⟨rfl,J,(((J9 t w).alloc Q0 _).alloc Q7 _).trans E⟩
theorem Jb7 n w(u:LZ w):Calls prog 65 #[.iface 52 (I O n)] w fun e w'=>e=.returned (I O n)/\Bz w w':=by
 have j:=J6 (u.below ((J9 _ w).alloc Q2 (.cells #[I O 0] 52)) Q2);go_enter func65,ntmps65
 go_wp2_with fail
 refine(Lw _ n (zS w) _ j Q3 Q3 ⟨_,_,rfl⟩ ?_).mono ?_
 ·intro D a W i y ht C
  exact Jx9 n D a (aD (zS w) 0) _ W y ht C
 rintro e w1⟨rfl,E,i⟩;go_wp2;go_ret;exact⟨rfl,((J9 _ w).alloc Q2 _).trans i⟩
theorem Xh7 g n w(y:LZ w)(j:w.cell? (aD g 0)=some (I O n)):Calls prog 65 #[.iface 287 (pA g)] w fun e w'=>e=.returned (I O n)/\Bz w w':=by
 have E:=U5 w _ j;have u:=J6 (y.below ((J9 _ w).alloc Q2 (.cells #[I O 0] 52)) Q2);go_enter func65,ntmps65
 go_wp2_with fail
 refine(Lw _ n (zS w) _ u Q3 Q3 ⟨_,_,rfl⟩ ?_).mono ?_
 ·intro J a W i C ht D
  exact Xq3 g n J a (aD (zS w) 0) _ W C ht D ((i.cell (p:=(aD g 0)) Q7).trans ((W7 _ _ _ E).trans j))
 rintro e w1⟨rfl,N,i⟩;go_wp2;go_ret;exact⟨rfl,((J9 _ w).alloc Q2 _).trans i⟩
end
theorem X8.made(w:World)t sz:X8 (w.alloc (.cells #[] t)) (sA w.heap.size) 0 0 t sz []:=
 ⟨Q3,.inr ⟨zS w,0,#[],rfl,U9 _,QN w _,X3 _,U9 _,Q3,Q3⟩⟩
section
variable {P:Program} {α:Type} {enc:α->List Value} {k:Nat} {w:World}
theorem Qm5(hk:∀x,(enc x).length=k)(a9:∀x,∀u∈enc x,u.oneCell'=true)t ty e i z bytes(ht:P.underlying t=some (.slice e))(hi:P.info? e=some i)(hz:i.zero=some z)(b2:i.size=k) (a5:i.bytes=bytes) (b5:z.cells.size=k) (a7:0<k) C n D xs (a0:X8 w C n D e k xs) A m c L (J:C0 w enc k A m L) (a4:n+m<=maxLen) (a6:(n+m)*bytes<=140737488355328):∃A' c' w',(Builtin.append_ #[t,t] ty #[.slice C n D,.slice A m c]).run P w=.ok (.slice A' (n+m) c') w'/\X8 w' A' (n+m) c' e k (xs++X7 enc L)/\w.grownBy w' (X5 C)/\∀g,X5 A'=some g->X5 C=some g\/g=w.heap.size:=by
 cases A with
 |none=>
  have hm:m=0:=by
   obtain h|h:=Nat.eq_zero_or_pos m
   ·exact h
   obtain⟨b,c5,h1,-⟩:=J.2 h
   cases h1
  subst hm;have hL:L=[]:=EB J.1;subst hL;have hr:(Builtin.append_ #[t,t] ty #[.slice C n D,.slice none 0 c]).run P w=.ok (.slice C n D) w:=by
   rcases a0.2 with⟨h1,h2⟩|⟨g,cap,a3,hv,-,hb,hn,hc,hs,-⟩
   ·cases h1
    have hs:=Src.ofNil (size:=i.size) w ht c;simp[Builtin.append_,run_underlying ht,sizeOf,typeInfo,hi,hs.len,hs.cells]
   cases hv;have h:=run_append_room_src (P:=P) (w:=w) t t ty e i ht hi g 0 n D (.slice none 0 c) 0 [] (Src.ofNil w ht c) hn Q3 Q3;exact h
  exact⟨C,D,w,hr,by simpa [X7]using a0,⟨rfl,rfl,rfl,X3 _,fun _ _ _=>rfl⟩,fun g hg=>.inl hg⟩
 |some ad=>
  have a8:∀j u,(X7 enc L)[j]?=some u->w.cell? (ad.add j)=some u:=by
   obtain h|h:=Nat.eq_zero_or_pos m
   ·have hL:L=[]:=EB (by have:=J.1;omega)
    subst hL;intro j u Z;simp[X7]at Z
   obtain⟨b,c5,h1,-⟩:=J.2 h
   cases h1;exact C0.news hk J
  have b0:∀u∈X7 enc L,u.oneCell'=true:=by intro u Z;unfold X7 at Z;simp at Z;obtain⟨x,-,hx⟩:=Z;exact a9 x u hx
  obtain⟨v',w',hr,h2,h3,h4,E⟩:=run_append_own_at (P:=P) w 0 t ty e i z k bytes ht hi hz b2 a5 b5 a7 (.slice C n D) n xs a0 ad m c (X7 enc L) (by rw[EG hk,J.1]) a8 b0 a4 a6 (U9 _);rw[C8]at h3 E;rcases h2.2 with⟨rfl,a1⟩|⟨g,cap,a3,rfl,c6⟩
  ·refine⟨none,0,w',by rw[a1];exact hr,by rw[a1]at h2;rw[a1];exact h2,h3,by simp[X5]⟩
  refine⟨sA g,cap,w',hr,h2,h3,fun g' a2=>?_⟩;obtain E|E:=E
  ·left;rw[<-E];exact a2
  right
  have h6:some g'=some (zS w):=by rw[<-E];exact a2.symm
  exact XG h6
theorem WL(hk:∀x,(enc x).length=k)(a3:∀x,∀u∈enc x,u.oneCell'=true){o:Oper}{a K Q}s x t(ho:o.op=.call {callee:=.builtin .append,args:= #[s,x],argTypes:= #[t,t]}) e i z bytes (ht:P.underlying t=some (.slice e)) (hi:P.info? e=some i) (hz:i.zero=some z)(a5:i.size=k) (a0:i.bytes=bytes) (a6:z.cells.size=k) (a2:0<k) j n C xs (hs:a.eval s=.slice j n C) (a4:X8 w j n C e k xs) A m c L (hx:a.eval x=.slice A m c) (Z:C0 w enc k A m L) (J:n+m<=maxLen) (a1:(n+m)*bytes<=140737488355328)(h:∀A' c' w',X8 w' A' (n+m) c' e k (xs++X7 enc L)->w.grownBy w' (X5 j)->(∀g,X5 A'=some g->X5 j=some g\/g=w.heap.size)->K (a.put o.dst (.slice A' (n+m) c')) w'):o.wp P a w K Q:=by obtain⟨A',c',w',hr,h2,D,E⟩:=Qm5 (P:=P) hk a3 t o.type e i z bytes ht hi hz a5 a0 a6 a2 j n C xs a4 A m c L Z J a1;unfold Oper.wp execOp;simp only[ho,resolve,invoke,builtin,Sem.run_bind,Sem.run_pure,Result.andThen_ok,List.map_toArray,List.map_cons,List.map_nil,hs,hx,hr];exact h A' c' w' h2 D E
theorem Gl(hk:∀x,(enc x).length=k)(a4:∀x,∀u∈enc x,u.oneCell'=true){ops rest o a Q}(a2:o.guard=none)s x t(ho:o.op=.call {callee:=.builtin .append,args:= #[s,x],argTypes:= #[t,t]}) e i z bytes (ht:P.underlying t=some (.slice e)) (hi:P.info? e=some i) (hz:i.zero=some z)(a6:i.size=k) (a0:i.bytes=bytes) (a7:z.cells.size=k) (a3:0<k) j n C xs (hs:a.eval s=.slice j n C) (a5:X8 w j n C e k xs) A m c L (hx:a.eval x=.slice A m c) (Z:C0 w enc k A m L) (J:n+m<=maxLen) (a1:(n+m)*bytes<=140737488355328)(h:∀A' c' w',X8 w' A' (n+m) c' e k (xs++X7 enc L)->w.grownBy w' (X5 j)->(∀g,X5 A'=some g->X5 j=some g\/g=w.heap.size)->wpList P ops Q rest (a.put o.dst (.slice A' (n+m) c')) w'):wpList P ops Q (o::rest) a w:=
 wpList_plain a2 fun _ hK=>WL hk a4 s x t ho e i z bytes ht hi hz a6 a0 a7 a3 j n C xs hs a5 A m c L hx Z J a1 fun A' c' w' h2 D E=>hK _ _ (h A' c' w' h2 D E)
theorem Xm(hk:∀x,(enc x).length=k)(a3:∀x,∀u∈enc x,u.oneCell'=true){ops o a K Q E}(a1:o.guard=none)s x t(ho:o.op=.call {callee:=.builtin .append,args:= #[s,x],argTypes:= #[t,t]}) e i z bytes (ht:P.underlying t=some (.slice e)) (hi:P.info? e=some i) (hz:i.zero=some z)(a5:i.size=k) (Z:i.bytes=bytes) (a6:z.cells.size=k) (a2:0<k) j n C xs (hs:a.eval s=.slice j n C) (a4:X8 w j n C e k xs) A m c L (hx:a.eval x=.slice A m c) (J:C0 w enc k A m L) (D:n+m<=maxLen) (a0:(n+m)*bytes<=140737488355328)(h:∀A' c' w',X8 w' A' (n+m) c' e k (xs++X7 enc L)->w.grownBy w' (X5 j)->(∀g,X5 A'=some g->X5 j=some g\/g=w.heap.size)->K (a.put o.dst (.slice A' (n+m) c')) w'):if Region.wanted o (yielded ops a.tmps)=true then Oper.wp P o a w K Q else E:=by
 have hw:Region.wanted o (yielded ops a.tmps)=true:=by simp[Region.wanted,a1]
 rw[X0 hw];exact WL hk a3 s x t ho e i z bytes ht hi hz a5 Z a6 a2 j n C xs hs a4 A m c L hx J D a0 h
end
section
variable {α:Type}
def BS(l:List α)(i j:Nat):List α:=match l[i]?,l[j]? with
 |some x,some y=>(l.set i y).set j x
 |_,_=>l
theorem Qq4(l:List α)i j:(BS l i j).length=l.length:=by
 unfold BS
 split<;>simp
theorem Jy0{l:List α}{i j}(u:i<l.length)(y:j<l.length):BS l i j=(l.set i l[j]).set j l[i]:=by unfold BS;rw[JY u,JY y]
theorem Jm2{β}(f:α->β)l i j:(BS l i j).map f=BS (l.map f) i j:=by
 unfold BS;rw[GP,GP]
 cases l[i]?<;>cases l[j]?<;>simp[List.map_set]
theorem Rz A M B(x y:α){i j}(u:A.length=i)(C:A.length+1+M.length=j):BS (A++(x:: (M++(y::B)))) i j=A++(y:: (M++(x::B))):=by
 subst u C;have h1:(A++(x:: (M++(y::B))))[A.length]?=some x:=Q3;have h2:(A++(x:: (M++(y::B))))[A.length+1+M.length]?=some y:=by rw[Jt Q0,show A.length+1+M.length-A.length=M.length+1 by omega,List.getElem?_cons_succ,Jt Q0];simp
 unfold BS;rw[h1,h2];dsimp only;rw[Vd _ _ Q0,Nat.sub_self,Ax,Vd _ _ Q0,show A.length+1+M.length-A.length=M.length+1 by omega,Aw,Vd _ _ Q0,Nat.sub_self,Ax]
theorem Jm3 A B(x y:α){i}(j:A.length=i):BS (A++(x::y::B)) i (i+1)=A++(y::x::B):=by have h:=Rz A [] B x y j rfl;simpa [j]using h
theorem Nv A B(x y:α){i}(j:A.length=i):BS (A++(x::y::B)) (i+1) i=A++(y::x::B):=by
 subst j;have h1:(A++(x::y::B))[A.length]?=some x:=Q3;have h2:(A++(x::y::B))[A.length+1]?=some y:=by rw[Jt Q0];simp
 unfold BS;rw[h1,h2];dsimp only;rw[Vd _ _ Q0,show A.length+1-A.length=1 by omega];simp
end
def ZJ(g:Nat)(lb:Array Value)(sf:Nat)(sb:Array Value):Value:=.agg #[.func (.func g) #[] lb,.func (.func sf) #[] sb]
abbrev UB(g:Nat)(lb:Array Value)(sf:Nat)(sb:Array Value):Array Value:= #[.func (.func g) #[] lb,.func (.func sf) #[] sb]
structure CE{α:Type}(g:Nat)(lb:Array Value)(sf:Nat)(sb:Array Value)(blk n:Nat)(r:α->Int)(St:World->List α->Prop):Prop where
 eg:∀args w,(callFunc g args).run prog w=.ok (.enter g args) w
 less:∀W l(i j:Nat),St W l->l.length=n->(hi:i<l.length)->(hj:j<l.length)->i≠j->Calls prog g (#[I O i,I O j]++lb) W fun e w'=>e=.returned (.bool (decide (r l[i]<r l[j])))/\St w' l/\X4 (fun k=>k=blk) W w'
 swap:∀W l(i j:Nat),St W l->l.length=n->i<n->j<n->i≠j->∃W',(callFunc sf (#[I O i,I O j]++sb)).run prog W=.ok (.value (.tuple #[])) W'/\St W' (BS l i j)/\X4 (fun k=>k=blk) W W'
 alloc:∀W l o,St W l->St (W.alloc o) l
 lt:∀W l,St W l->blk<W.heap.size
section
variable {α:Type} {g:Nat} {lb:Array Value} {sf:Nat} {sb:Array Value} {blk n:Nat} {r:α->Int} {St:World->List α->Prop}
theorem CE.tag(E:CE g lb sf sb blk n r St):CE g lb sf sb blk n (fun x:α×Nat=>r x.1) (fun W T=>St W (T.map (·.1)))where
 eg:=E.eg
 less:=fun W l i j h hl hi hj hij=>by have h1:=E.less W (l.map (·.1)) i j h (by simpa using hl) (by simpa using hi) (by simpa using hj) hij;simp only[List.getElem_map]at h1;exact h1
 swap:=fun W l i j h hl hi hj hij=>by obtain⟨W',h1,h2,h3⟩:=E.swap W (l.map (·.1)) i j h (by simpa using hl) hi hj hij;exact⟨W',h1,by rw[Jm2];exact h2,h3⟩
 alloc:=fun W l o h=>E.alloc W _ o h
 lt:=fun W l h=>E.lt W _ h
structure ZS(St:World->List α->Prop)(blk:Nat)(w wx:World)(bx:Array Value)(l:List α):Prop where
 st:St wx l
 keep:X4 (fun k=>k=blk) w wx
 box:J7 wx w.heap.size 189 bx
theorem CE.start(E:CE g lb sf sb blk n r St){w l}(h:St w l):ZS St blk w (w.alloc (.cells (UB g lb sf sb) 189)) (UB g lb sf sb) l:=
 ⟨E.alloc _ _ _ h,B9 ((J9 _ w).alloc Q2 _) _,Z5 w _ _⟩
theorem ZS.step{w wx w' bx l l'}(h:ZS St blk w wx bx l)(j:blk<w.heap.size)(h1:St w' l')(h2:X4 (fun k=>k=blk) wx w'):ZS St blk w w' bx l':=
 ⟨h1,h.keep.trans h2 (fun i e=>.inl e),V0 h.box h2 (fun e=>by have e:zS w=blk:=e;omega)⟩
theorem ZS.cells{w wx l}(h:ZS St blk w wx (UB g lb sf sb) l):wx.cell? (aD w.heap.size 0)=some (.func (.func g) #[] lb)/\wx.cell? (aD w.heap.size 1)=some (.func (.func sf) #[] sb):=
 ⟨by rw[X9 h.box];rfl,by rw[X9 h.box];rfl⟩
theorem Jm4(A X M Y B:List α)i(j:i<X.length)(D:X.length=Y.length):BS (A++((Y.take i++X.drop i)++(M++((X.take i++Y.drop i)++B)))) (A.length+i) (A.length+X.length+M.length+i)=A++((Y.take (i+1)++X.drop (i+1))++(M++((X.take (i+1)++Y.drop (i+1))++B))):=by
 have y:X.drop i=X[i]::X.drop (i+1):=CZ j;have C:Y.drop i=Y[i]::Y.drop (i+1):=CZ Q0;have u:A++((Y.take i++X.drop i)++(M++((X.take i++Y.drop i)++B)))=(A++Y.take i)++(X[i]:: ((X.drop (i+1)++(M++X.take i))++(Y[i]:: (Y.drop (i+1)++B)))):=by rw[y,C];simp only[List.append_assoc,List.cons_append]
 rw[u,Rz _ _ _ _ _ Q7 Q7,M9 j,M9 (by omega:i<Y.length)];simp only[List.append_assoc,List.cons_append,List.nil_append]
theorem Be(E:CE g lb sf sb blk n r St)w A X M Y B(a b k:Nat)(Z:A.length=a)(hb:A.length+X.length+M.length=b)(D:X.length=k)(J:Y.length=k)(h:St w (A++(X++(M++(Y++B))))) (hn:(A++(X++(M++(Y++B)))).length=n) (a7:n<=1000000):Calls prog 259 #[ZJ g lb sf sb,I O a,I O b,I O k] w fun e w'=>e=.returned (.tuple #[])/\St w' (A++(Y++(M++(X++B))))/\X4 (fun k=>k=blk) w w':=by
 have y:=E.lt _ _ h;have eg:=E.eg;have N:=E.start h;have a0:A.length+(X.length+(M.length+(Y.length+B.length)))=n:=by simpa using hn
 obtain⟨HE,a4,j⟩:=Xt7 E N (And.intro Z (And.intro hb (And.intro D (And.intro J a0))));have a8:a<=1000000:=Q0;have a9:b<=1000000:=Q0;have b0:k<=1000000:=Q0;have a3:=J6 y;unfold ZJ;go_enter func259,ntmps259
 go_wp2_with fail
 go_loopg [8] k (fun gg s8 wx=>∃i,i<=k/\gg=k-i/\s8=I O i/\ZS St blk w wx (UB g lb sf sb) (A++((Y.take i++X.drop i)++(M++((X.take i++Y.drop i)++B)))))
 case atStart=>exact⟨0,U9 _,rfl,rfl,by simpa using a4.out⟩
 obtain⟨i,hi,rfl,rfl,u⟩:=hrel
 by_cases y:i<k
 ·have a6:(i:Int)<(k:Int):=by omega
  obtain⟨c0,c1⟩:=u.cells;have a2:=HE.swap wr _ (a+i) (b+i) u.st (by have h:=j.out;simp;omega) (by have h:=j.out;omega) (by have h:=j.out;omega) (by have h:=j.out;omega);have C:=Jm4 A X M Y B i (by have h:=j.out;omega) (by have h:=j.out;omega);rw[j.2.1,j.1]at C;rw[C]at a2;obtain⟨w2,hs,a1,hk⟩:=a2;rw[show(((a+i:Nat):Int))=(a:Int)+(i:Int) by omega,show(((b+i:Nat):Int))=(b:Int)+(i:Int) by omega]at hs;obtain⟨HS,a5,HK⟩:=Xt7 u a1 hk;go_wp2
  go_roundg (k-(i+1))
  case measure=>omega
  exact⟨i+1,Q0,rfl,J5,HS.step a3 a5 HK⟩
 obtain rfl:k=i:=by omega
 have a6:¬(k:Int)<(k:Int):=Q0;have HS:=J6 u;go_wp2_with fail
 go_end0
 refine⟨rfl,?_,HS.keep⟩;have h:=HS.st;have D:=j.2.2.1;have J:=j.2.2.2.1;rw[M4 Q0,M4 Q0,List.drop_of_length_le Q0,List.drop_of_length_le Q0]at h;simpa using h
theorem Jb8(E:CE g lb sf sb blk n r St)w A U V B(a m b:Nat)(ha:A.length=a)(hm:A.length+U.length=m)(hb:m+V.length=b)(hU:0<U.length)(hV:0<V.length)(h:St w (A++(U++(V++B)))) (hn:(A++(U++(V++B))).length=n) (a7:n<=1000000):Calls prog 220 #[ZJ g lb sf sb,I O a,I O m,I O b] w fun e w'=>e=.returned (.tuple #[])/\St w' (A++(V++(U++B)))/\X4 (fun k=>k=blk) w w':=by
 have a2:=E.lt _ _ h;have eg:=E.eg;have a6:=E.start h;have a8:A.length+(U.length+(V.length+B.length))=n:=by simpa using hn
 obtain⟨HE,a9,HL,a5⟩:=Xt8 E a6 (And.intro ha (And.intro hm (And.intro hb a8))) (And.intro hU hV);have b2:a<=1000000:=Q0;have b5:m<=1000000:=Q0;have b8:b<=1000000:=Q0;obtain⟨a1,a4⟩:=Xt6 a7 a2;have z1:((m:Int)-(a:Int))=((U.length:Nat):Int):=Q0;have z2:((b:Int)-(m:Int))=((V.length:Nat):Int):=Q0;unfold ZJ;go_enter func220,ntmps220
 go_wp2_with fail
 go_loopg [8,9] (U.length+V.length) (fun gg s8 s9 wx=>∃i j P y C Q,0<i/\0<j/\gg=i+j/\s8=I O i/\s9=I O j/\Hid (y.length=i/\C.length=j/\A.length+P.length+i=m/\P++(C++(y++Q))=V++U)/\ZS St blk w wx (UB g lb sf sb) (A++(P++(y++(C++(Q++B))))))
 case atStart=>exact⟨U.length,V.length,[],U,V,[],a5.1,a5.2,rfl,rfl,rfl,J6 ⟨rfl,rfl,by have:=HL.out;simp;omega,Q3⟩,by simpa using a9.out⟩
 obtain⟨i,j,P,y,C,Q,b0,b1,rfl,rfl,rfl,u,J⟩:=hrel;have a3:A.length+(P.length+(y.length+(C.length+(Q.length+B.length))))=n:=by have h1:=C5 List.length u.2.2.2;simp only[List.length_append]at h1;have:=HL.out;omega
 have c5:i<=m:=by have:=u.out;omega
 have c6:j<=1000000:=by have:=u.out;have:=a1.out;omega
 obtain⟨c0,c1⟩:=J.cells;have b9:(0:Int)<=(m:Int)-(i:Int):=Q0;obtain a2|rfl|a2:=Nat.lt_trichotomy i j
 ·have t1:=XQ (show((i:Int))≠(j:Int) by omega)
  have t2:¬(j:Int)<(i:Int):=Q0;have D:=Be HE wr (A++P) y (C.take (j-i)) (C.drop (j-i)) (Q++B) (m-i) (m+j-i) i (by have:=u.out;simp;omega) (by have:=u.out;simp;omega) u.1 (by have:=u.out;simp;omega) (by have h:=J.st;have e:C=C.take (j-i)++C.drop (j-i):=(P9 _ _).symm;rw[e]at h;simpa only[List.append_assoc]using h) (by have:=u.out;simp;omega) a1
  rw[show(((m-i:Nat):Int))=(m:Int)-(i:Int) by omega,show(((m+j-i:Nat):Int))=(m:Int)+(j:Int)-(i:Int) by omega]at D;obtain⟨N,HS⟩:=Xt6 D J;unfold ZJ at N;go_wp2_with fail
  refine N.mono ?_;rintro e w2⟨rfl,Z,hk⟩;obtain⟨a0,HK⟩:=Xt6 Z hk;go_wp2
  go_roundg (i+(j-i))
  case measure=>omega
  refine⟨i,j-i,P,C.drop (j-i),C.take (j-i),y++Q,b0,Q0,rfl,rfl,by rw[show(((j-i:Nat):Int))=(j:Int)-(i:Int) by omega],J6 ⟨by have:=u.out;simp;omega,by have:=u.out;simp;omega,u.2.2.1,?_⟩,?_⟩
  ·have h:=u.2.2.2
   have e:C=C.take (j-i)++C.drop (j-i):=(P9 _ _).symm;rw[e]at h;simpa only[List.append_assoc]using h
  exact HS.step a4 (by have h:=a0.out;simpa only[List.append_assoc]using h) HK
 ·have t1:=KN (show((i:Int))=(i:Int)from rfl)
  have D:=Be HE wr (A++P) y [] C (Q++B) (m-i) m i (by have:=u.out;simp;omega) (by have:=u.out;simp;omega) u.1 u.2.1 (by have h:=J.st;simpa only[List.append_assoc,List.nil_append]using h) (by have:=u.out;simp;omega) a1
  rw[show(((m-i:Nat):Int))=(m:Int)-(i:Int) by omega]at D;obtain⟨N,HS⟩:=Xt6 D J;unfold ZJ at N;go_wp2_with fail
  refine N.mono ?_;rintro e w2⟨rfl,Z,hk⟩;obtain⟨a0,HK⟩:=Xt6 Z hk;go_wp2_with fail
  go_end0
  refine⟨rfl,?_,HS.keep.trans HK (fun i e=>.inl e)⟩;have h:=a0.out;have e:A++(V++(U++B))=A++((V++U)++B):=by simp only[List.append_assoc]
  rw[e,<-u.2.2.2];simpa only[List.append_assoc,List.nil_append]using h
 have t1:=XQ (show((i:Int))≠(j:Int) by omega);have t2:(j:Int)<(i:Int):=Q0;have D:=Be HE wr (A++P) (y.take j) (y.drop j) C (Q++B) (m-i) m j (by have:=u.out;simp;omega) (by have:=u.out;simp;omega) (by have:=u.out;simp;omega) u.2.1 (by have h:=J.st;have e:y=y.take j++y.drop j:=(P9 _ _).symm;rw[e]at h;simpa only[List.append_assoc]using h) (by have:=u.out;simp;omega) a1
 rw[show(((m-i:Nat):Int))=(m:Int)-(i:Int) by omega]at D;obtain⟨N,HS⟩:=Xt6 D J;unfold ZJ at N;go_wp2_with fail
 refine N.mono ?_;rintro e w2⟨rfl,Z,hk⟩;obtain⟨a0,HK⟩:=Xt6 Z hk;go_wp2
 go_roundg (i-j+j)
 case measure=>omega
 refine⟨i-j,j,P++C,y.drop j,y.take j,Q,Q0,b1,rfl,by rw[show(((i-j:Nat):Int))=(i:Int)-(j:Int) by omega],rfl,J6 ⟨by have:=u.out;simp;omega,by have:=u.out;simp;omega,by have:=u.out;simp;omega,?_⟩,?_⟩
 ·have h:=u.2.2.2
  have e:y=y.take j++y.drop j:=(P9 _ _).symm;rw[e]at h;simpa only[List.append_assoc]using h
 exact HS.step a4 (by have h:=a0.out;simpa only[List.append_assoc]using h) HK
end
section
variable {α:Type} {g:Nat} {lb:Array Value} {sf:Nat} {sb:Array Value} {blk n:Nat} {r:α->Int} {St:World->List (α×Nat)->Prop}
theorem Jy1{Q:List (α×Nat)}(h:Q.Pairwise fun x y=>x.2<y.2){k}(hk:k<Q.length){S}(u:S.Perm (Q.take k)):YH S [Q[k]]:=by
 intro x E y j;simp at j;subst j;obtain⟨i,C,rfl⟩:=ZX.1 (u.mem_iff.1 E);have D:i<k:=by rw[R7]at C;omega
 rw[MQ];exact GG.1 h i k Q0 hk D
theorem Jy2{L:List α}{p}(hp:L.length=p+1):∃L' y,L=L'++[y]/\L'.length=p:=by
 have i:L≠[]:=by intro e;rw[e]at hp;cases hp
 exact⟨L.dropLast,L.getLast i,(List.dropLast_concat_getLast i).symm,by rw[List.length_dropLast];omega⟩
theorem Es{A B}{x:α}{i}(j:A.length=i)(h:i<(A++(x::B)).length):(A++(x::B))[i]=x:=by subst j;simp
theorem Hb(E:CE g lb sf sb blk n (fun x:α×Nat=>r x.1) St)w A Q B(a b:Nat)(ha:A.length=a)(hb:A.length+Q.length=b)(hQ:Q.Pairwise fun x y=>x.2<y.2)(h:St w (A++(Q++B))) (hn:(A++(Q++B)).length=n) (d9:n<=1000000):Calls prog 191 #[ZJ g lb sf sb,I O a,I O b] w fun e w'=>e=.returned (.tuple #[])/\(∃S,S.Perm Q/\G8 r S/\St w' (A++(S++B)))/\X4 (fun k=>k=blk) w w':=by
 have Z:=E.lt _ _ h;have eg:=E.eg;have b9:=E.start h;have c9:A.length+(Q.length+B.length)=n:=by simpa using hn
 obtain⟨HE,d3,HL,HQ⟩:=Xt8 E b9 (And.intro ha (And.intro hb c9)) hQ;have e4:a<=1000000:=Q0;have e5:b<=1000000:=Q0;have a7:=J6 Z;unfold ZJ;go_enter func191,ntmps191
 go_wp2_with fail
 go_loopg [6] (Q.length+1-1) (fun gg s6 wx=>∃k S,1<=k/\k<=Q.length+1/\gg=Q.length+1-k/\s6=I O ((a:Int)+(k:Int))/\Hid (S.Perm (Q.take k)/\G8 r S)/\ZS St blk w wx (UB g lb sf sb) (A++(S++(Q.drop k++B))))
 case atStart=>exact⟨1,Q.take 1,X3 _,Q0,rfl,rfl,J6 ⟨Xq _,by
  unfold G8
  match Q with
  | []=>exact List.Pairwise.nil
  |x::t=>exact WC _ _⟩,by
  have h:=d3.out;have e:Q.take 1++(Q.drop 1++B)=Q++B:=by rw[<-VW,P9]
  rw[e];exact h⟩
 obtain⟨k,S,e7,e8,rfl,rfl,HS,j⟩:=hrel
 by_cases Z:k<Q.length
 ·have d8:(a:Int)+(k:Int)<(b:Int):=by have:=HL.out;omega
  have ed:Q.drop k=Q[k]::Q.drop (k+1):=CZ Z;have et:Q.take (k+1)=Q.take k++[Q[k]]:=M9 Z;have b8:=J6 (Jy1 HQ Z HS.1);rw[ed]at j;obtain⟨x,hx⟩:=exq (Q[k]);rw[hx]at j b8 et;obtain⟨d1,HA⟩:=Xt6 et j;have c5:S.length=k:=by have:=HS.1.length_eq;rw[R7]at this;omega
  have b5:=J6 c5;have e6:((a:Int)+(k:Int))<=1000000:=by have:=HL.out;omega
  obtain⟨wo,rfl⟩:=exr wr;clear ed et hx j c5;go_wp2_with fail
  go_loopg [7] k (fun gg s7 wx=>∃p L R,p<=k/\gg=0+p/\s7=I O ((a:Int)+(p:Int))/\Hid (L++R=S/\L.length=p/\NZ r [x] R)/\ZS St blk w wx (UB g lb sf sb) (A++(L++(x:: (R++(Q.drop (k+1)++B))))))
  case atStart=>exact⟨k,S,[],X3 _,Q0,rfl,J6 ⟨Q3,b5.out,fun x hx y hy=>by cases hy⟩,by simpa using HA.out⟩
  obtain⟨p,L,R,f1,rfl,rfl,u,j⟩:=hrel;obtain⟨c0,c1⟩:=j.cells;have c7:(∀(h1:0<L.length),¬r x.1<r (L[L.length-1]'(by omega)).1)->(L++x::R).Perm (Q.take (k+1))/\G8 r (L++x::R):=fun hL=>by refine⟨?_,Qg7 (by rw[u.1];exact HS.2) (by rw[u.1];exact b8) u.2.2 hL⟩;rw[d1.out];refine List.perm_middle.trans ?_;rw[u.1];exact(HS.1.cons x).trans (List.perm_append_comm (l₁:=[x]))
  have a0:=J6 c7;clear c7
  by_cases f0:p=0
  ·have t1:¬(a:Int)<(a:Int)+(p:Int):=by omega
   obtain⟨a5,D⟩:=Xt6 (a0 (fun h1=>absurd h1 (by rw[u.2.1];omega))) j;have c6:decide ((a:Int)<(a:Int)+(p:Int))=false:=V9 Q0;clear j a0;go_wp2
   go_roundg (Q.length+1-(k+1))
   case measure=>omega
   exact⟨k+1,L++x::R,Q0,Q0,rfl,by rw[show(a:Int)+((k+1:Nat):Int)=(a:Int)+(k:Int)+1 by omega],a5,by have h:=D.out;simpa only[List.append_assoc,List.cons_append]using h⟩
  obtain⟨p',b0⟩:∃p',p=p'+1:=⟨p-1,Q0⟩;obtain⟨L',y,d7,e9⟩:=Jy2 (u.2.1.trans b0);have HP:=J6 b0;subst d7;have c6:decide ((a:Int)<(a:Int)+(p:Int))=true:=V7 Q0;have b1:=j.st;have e1:A++(L'++[y]++(x:: (R++(Q.drop (k+1)++B))))=(A++L')++(y::x:: (R++(Q.drop (k+1)++B))):=by simp only[List.append_assoc,List.cons_append,List.nil_append]
  rw[e1]at b1;have J:(A++L').length=a+p':=by have:=HL.out;simp;omega
  have a1:((A++L')++(y::x:: (R++(Q.drop (k+1)++B)))).length=n:=by have h1:=C5 List.length u.1;have h2:=b5.out;have:=HL.out;simp at h1|-;omega
  have a3:a+(p'+1)<((A++L')++(y::x:: (R++(Q.drop (k+1)++B)))).length:=by simp at J|-;omega
  have a9:a+p'<((A++L')++(y::x:: (R++(Q.drop (k+1)++B)))).length:=by simp at J|-;omega
  have C:=HE.less wr _ (a+(p'+1)) (a+p') b1 a1 a3 a9 Q0;have g0:((A++L')++(y::x:: (R++(Q.drop (k+1)++B))))[a+p']=y:=Es J _;have g1:((A++L')++(y::x:: (R++(Q.drop (k+1)++B))))[a+(p'+1)]=x:=by have e:(A++L')++(y::x:: (R++(Q.drop (k+1)++B)))=((A++L')++[y])++(x:: (R++(Q.drop (k+1)++B))):=Q3;have:=Es (A:=(A++L')++[y]) (B:=R++(Q.drop (k+1)++B)) (x:=x) (i:=a+(p'+1)) (by simp at J|-;omega) (by rw[<-e];exact a3);simp only[e];exact this
  rw[g0,g1]at C;have a4:=fun W hW=>HE.swap W ((A++L')++(y::x:: (R++(Q.drop (k+1)++B)))) (a+(p'+1)) (a+p') hW a1 (by rw[<-a1];exact a3) (by rw[<-a1];exact a9) Q0
  have a8:=Nv (A++L') (R++(Q.drop (k+1)++B)) y x J;rw[show a+p'+1=a+(p'+1) by omega]at a8;rw[a8]at a4;have ci:(((a+p':Nat):Int))=(a:Int)+(p:Int)-1:=Q0;have cj:(((a+(p'+1):Nat):Int))=(a:Int)+(p:Int):=Q0;rw[ci,cj]at C a4;obtain⟨d6,b2,D,e2,e3⟩:=Xt9 a4 C j e1 J;clear b1 J a1 a3 a9 g0 g1 a8 ci cj a4 C j e1 b0
  by_cases hv:r x.1<r y.1
  ·have C:=b2.out
   rw[V7 hv]at C;have HV:=J6 hv;clear hv a0;go_wp2_with (go_at_fn g;refine C.mono ?_;rintro e w2⟨rfl,a2,N⟩;obtain⟨w3,hs,d0,c8⟩:=d6.out w2 a2;have a6:=J6 N;have d5:=J6 d0;have d2:=J6 c8;have c1:w2.cell? ⟨w.heap.size,1,none⟩=some (.func (.func sf) #[] sb):=(by rw[X9 (V0 D.box N (fun e=>by have e:w.heap.size=blk:=e;have:=a7.out;omega))];rfl);clear a2 N d0 c8)
   go_roundg (0+p')
   case measure=>have:=HP.out;omega
   refine⟨p',L',y::R,by have:=HP.out;omega,rfl,by rw[show(a:Int)+(p':Int)=(a:Int)+(p:Int)-1 by have:=HP.out;omega],J6 ⟨by have h:=u.1;simpa using h,by have h:=u.2.1;have:=HP.out;simp at h;omega,?_⟩,?_⟩
   ·exact Jw9 (L':=L') (by have h:=HS.2;rw[<-u.1]at h;simpa using h) u.2.2 HV
   exact(D.step a7 (by have h:=d5.out;simpa only[List.append_assoc,List.cons_append]using h) (a6.trans d2 (fun i e=>.inl e)))
  have C:=b2.out;rw[V9 hv]at C;have a5:=J6 (a0 (fun h1=>by simpa using hv));clear hv a0;go_wp2_with (go_at_fn g;refine C.mono ?_;rintro e w2⟨rfl,a2,N⟩;have a6:=J6 N;have d4:=J6 a2;clear a2 N)
  go_roundg (Q.length+1-(k+1))
  case measure=>omega
  refine⟨k+1,(L'++[y])++x::R,Q0,Q0,rfl,by rw[show(a:Int)+((k+1:Nat):Int)=(a:Int)+(k:Int)+1 by omega],a5,?_⟩;refine D.step a7 ?_ a6;have h:=d4.out;simpa only[List.append_assoc,List.cons_append,List.nil_append]using h
 have d8:¬(a:Int)+(k:Int)<(b:Int):=by have:=HL.out;omega
 have D:=J6 j;have c6:¬((a:Int)+(k:Int))<(b:Int):=Q0;go_wp2_with fail
 go_end0
 refine⟨rfl,⟨S,?_,HS.2,?_⟩,D.keep⟩
 ·have h:=HS.1
  rwa [M4 Q0]at h
 have h:=D.st;rw[List.drop_of_length_le Q0]at h;simpa using h
end
def SU(side kind price:Int):Int:=if kind=2 then -2000000 else if side=1 then -price else price
def VG(side:Int)(o:X6):Int:=SU side o.kind o.price
theorem Jy3 a b c d e side bs W X(h:W.cell? (aD bs 0)=some (I O side)/\X)(N: -1000000000<=d)(Z:d<=1000000000):Calls prog 88 #[.agg #[I O a,I O b,I O c,I O d,I O e],pA bs] W fun e w'=>e=.returned (I O (SU side c d))/\Bz W w':=by
 have E:=h.1;have J:bs<(zS W):=U5 W (aD bs 0) E;clear h;have y:=J6 (show Bz W (W.alloc (.cells #[I O a,I O b,I O c,I O d,I O e] 84))from Q5.alloc Q2 _)
 by_cases i:c=2
 ·have C:=V4 i
  have u:=J6 (show SU side c d= -2000000 from X0 i);clear i;go_enter func88,ntmps88
  go_wp2;go_ret;exact⟨JK (by rw[u.out]),y⟩
 have C:=Z3 i
 by_cases j:side=1
 ·have D:=V4 j
  have u:=J6 (show SU side c d= -d by unfold SU;rw[J8 i,X0 j]);have hw:RowKit.wrap64 (-d)= -d:=by unfold RowKit.wrap64;omega
  clear i j;go_enter func88,ntmps88
  go_wp2;go_ret;exact⟨JK (by rw[u.out]),y⟩
 have D:=Z3 j;have u:=J6 (show SU side c d=d by unfold SU;rw[J8 i,J8 j]);clear i j;go_enter func88,ntmps88
 go_wp2;go_ret;exact⟨JK (by rw[u.out]),y⟩
abbrev FU(w W:World)(bs bo br g n c i j:Nat)(side:Int)(x y:X6):Prop:=W.cell? ⟨bs,0,none⟩=some (I O side)/\W.cell? ⟨bo,0,none⟩=some (.slice (some ⟨g,0,none⟩) n c)/\W.cell? ⟨br,0,none⟩=some (.func (.func 88) #[] #[IP (some ⟨bs,0,none⟩)])/\W.cell? ⟨g,i*5,none⟩=some (I O x.id)/\W.cell? ⟨g,i*5+1,none⟩=some (I O x.side)/\W.cell? ⟨g,i*5+2,none⟩=some (I O x.kind)/\W.cell? ⟨g,i*5+3,none⟩=some (I O x.price)/\W.cell? ⟨g,i*5+4,none⟩=some (I O x.qty)/\W.cell? ⟨g,j*5,none⟩=some (I O y.id)/\W.cell? ⟨g,j*5+1,none⟩=some (I O y.side)/\W.cell? ⟨g,j*5+2,none⟩=some (I O y.kind)/\W.cell? ⟨g,j*5+3,none⟩=some (I O y.price)/\W.cell? ⟨g,j*5+4,none⟩=some (I O y.qty)/\Bz w W
theorem FU.step{w W W' bs bo br g n c i j side x y}(h:FU w W bs bo br g n c i j side x y)(C:Bz W W'):FU w W' bs bo br g n c i j side x y:=by
 obtain⟨h1,h2,D,E,J,N,Z,x4,y0,y1,y2,y3,y4,u⟩:=h;have key:∀{p v},W.cell? p=some v->W'.cell? p=some v:=fun {p v}hp=>(C.cell (U5 W p hp)).trans hp
 exact⟨key h1,key h2,key D,key E,key J,key N,key Z,key x4,key y0,key y1,key y2,key y3,key y4,u.trans (C.mono u.size)⟩
theorem FU.below{w W bs bo br g n c i j side x y}(h:FU w W bs bo br g n c i j side x y):Bz w W:=h.2.2.2.2.2.2.2.2.2.2.2.2.2
theorem FU.drew{w W bs bo br g n c i j side x y}(h:FU w W bs bo br g n c i j side x y):FU w W.drew bs bo br g n c i j side x y:=FU.step h (Z2 Q5)
theorem Jy4 bs bo br g n c i j side x y w(h:FU w w bs bo br g n c i j side x y)(hi:i<n)(hj:j<n)(a0: -1000000000<=x.price)(a1:x.price<=1000000000)(a2: -1000000000<=y.price)(a3:y.price<=1000000000):Calls prog 90 #[I O i,I O j,pA br,pA bo] w fun e w'=>e=.returned (.bool (decide (VG side x<VG side y)))/\Bz w w':=by
 have eg:∀args w,(callFunc 88 args).run prog w=.ok (.enter 88 args) w:=R0 func88 Q4 rfl;unfold VG;obtain⟨D,E,J,N,Z⟩:=x;obtain⟨ya,yb,yc,yd,ye⟩:=y;have u:=J6 h;obtain⟨h1,h2,h3,x0,x1,x2,x3,x4,y0,y1,y2,y3,y4,-⟩:=h;dsimp only at*;have i0:(0:Int)<=(i:Int):=Q0;have j0:(0:Int)<=(j:Int):=Q0;have i1:(i:Int)<(n:Int):=Q0;have j1:(j:Int)<(n:Int):=Q0;go_enter func90,ntmps90
 go_wp2
 go_region_held3 (fun W=>FU w W bs bo br g n c i j side ⟨D,E,J,N,Z⟩ ⟨ya,yb,yc,yd,ye⟩)
  (first|exact u.drew|exact FU.step J1 C)
  (first|(go_at_fn 88;refine(Jy3 _ _ _ _ _ _ _ _ _ J1 J1 J1).mono ?_;rintro e w1⟨rfl,C⟩))
 go_wp2;go_ret;exact⟨rfl,FU.below J1⟩
theorem Wk n i j w:Calls prog 37 #[I O n,I O i,I O j] w fun e w'=>e=.returned (.bool (decide (i<=n) &&decide (n<=j)))/\w=w':=by
 by_cases h:i<=n
 ·go_enter func37,ntmps37
  go_wp2;go_ret;exact⟨JH (by simp[h]),rfl⟩
 have u:decide (i<=n)=false:=by simpa using h
 go_enter func37,ntmps37
 go_wp2;go_ret;exact⟨JH Q3,rfl⟩
theorem Jb9 p k w:Calls prog 74 #[I O p,I O k] w fun e w'=>e=.returned (.bool (YC p k))/\w=w':=by
 obtain rfl|rfl|rfl|rfl|rfl|hp:=five p
 case inr.inr.inr.inr.inr=>
  have i:YC p k=false:=by unfold YC;rw[J8 Q0,J8 Q0,J8 Q0]
  have J:=Z3 (a:=p) (b:=1) Q0;have N:=Z3 (a:=p) (b:=2) Q0;have Z:=Z3 (a:=p) (b:=3) Q0;have p4:=Z3 (a:=p) (b:=4) Q0;have p5:=Z3 (a:=p) (b:=5) Q0;rw[i];clear i hp;go_enter func74,ntmps74
  go_wp2;go_ret;exact⟨rfl,rfl⟩
 all_goals
  obtain rfl|rfl|rfl|rfl|hk:=Qk5 k
  case inr.inr.inr.inr=>
   have y:=Z3 (a:=k) (b:=1) Q0;have C:=Z3 (a:=k) (b:=2) Q0;have D:=Z3 (a:=k) (b:=3) Q0;have E:=Z3 (a:=k) (b:=4) Q0;have j:(decide (1<=k) &&decide (k<=4))=false:=Q7;have u:Hid ((decide (1<=k) &&decide (k<=4))=false):=j;rw[show YC _ k=false by simp[YC];omega];clear hk j;go_enter func74,ntmps74
   go_wp2_with (go_at_call 37;refine(Wk _ _ _ _).mono ?_;rintro e w'⟨rfl,rfl⟩)
   go_ret;exact⟨JH (by first|rfl|exact u),rfl⟩
  all_goals
   go_enter func74,ntmps74
   go_wp2_with (go_at_call 37;refine(Wk _ _ _ _).mono ?_;rintro e w'⟨rfl,rfl⟩)
   go_ret;exact⟨rfl,rfl⟩
theorem Qo1 p w:Calls prog 87 #[I O p] w fun e w'=>e=.returned (.bool (PQ p))/\w=w':=by
 obtain rfl|rfl|rfl|rfl|rfl|hp:=five p
 case inr.inr.inr.inr.inr=>
  have i:PQ p=false:=by simp[PQ];omega
  have j:=Z3 (a:=p) (b:=1) Q0;have u:=Z3 (a:=p) (b:=2) Q0;have y:=Z3 (a:=p) (b:=4) Q0;have C:=Z3 (a:=p) (b:=5) Q0;rw[i];clear i hp;go_enter func87,ntmps87
  go_wp2;go_ret;exact⟨rfl,rfl⟩
 all_goals
  go_enter func87,ntmps87
  go_wp2;go_ret;exact⟨rfl,rfl⟩
