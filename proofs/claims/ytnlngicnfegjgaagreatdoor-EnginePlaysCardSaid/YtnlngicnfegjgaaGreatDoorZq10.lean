/- Parts. -/
import Derived.Test.YtnlngicnfegjgaaGreatDoorZq7
import Derived.Test.YtnlngicnfegjgaaGreatDoorZq9
set_option linter.unusedVariables false
set_option maxRecDepth 100000
set_option maxHeartbeats 8000000
open Go.Proofs.Tryz
open Go.Value renaming int→I,pointer→IP
open Go.IntKind renaming i64→O
namespace Go.Proofs.YtnlngicnfegjgaaGreatDoor
open Go.RowKit
section
variable {α:Type} {g:Nat} {lb:Array Value} {sf:Nat} {sb:Array Value} {blk n:Nat} {r:α->Int} {St:World->List (α×Nat)->Prop}
theorem Nk {A L B:List α} {i j} (u:A.length+j=i) (v:j<L.length) (h:i< (A++(L++B)).length):(A++(L++B))[i]=L[j]:=by
 subst u
 rw[List.getElem_append_right (by omega),List.getElem_append_left (by omega)]
 simp
theorem Ul {A L R B:List α} {i j} (u:A.length+L.length+j=i) (v:j<R.length) (h:i< (A++(L++(R++B))).length):(A++(L++(R++B)))[i]=R[j]:=by
 subst u
 rw[List.getElem_append_right (by omega),List.getElem_append_right (by omega),List.getElem_append_left (by omega)]
 congr 1
 omega
theorem Jk5 {L R S1 S2 i1 i2} (h:KN r L R) (h1:i1<=L.length) (h2:i2<=R.length) (v: ∀x y,0<i1->L[i1-1]?=some x->R[i2]?=some y->QK r x y) (C: ∀x y,0<i2->R[i2-1]?=some x->L[i1]?=some y->QK r x y)
  (D:S1.Perm (L.take i1++R.take i2)) (E:C6 r S1) (N:S2.Perm (L.drop i1++R.drop i2)) (U:C6 r S2):(S1++S2).Perm (L++R)/\C6 r (S1++S2):=by
 have Z:KN r (L.take i1++L.drop i1) (R.take i2++R.drop i2):=by rw[P2,P2];exact h
 have k:=Z.joins (S1:=S1) (S2:=S2) (fun J j=>by
  have u:(L.take i1).length=i1:=by rw[T6];omega
  have hr:i2<R.length:=by rw[KK]at j;omega
  have i:0<i1:=by omega
  refine v _ _ i ?_ ?_
  ·rw[LB];simp only[u];exact KP (by omega)
  ·rw[TD];exact KP (by omega)) (fun J j=>by
  have u:(R.take i2).length=i2:=by rw[T6];omega
  have hr:i1<L.length:=by rw[KK]at j;omega
  have i:0<i2:=by omega
  refine C _ _ i ?_ ?_
  ·rw[LB];simp only[u];exact KP (by omega)
  rw[TD];exact KP (by omega)) D E N U
 rw[P2,P2]at k
 exact k
theorem Jh1 (E:AX g lb sf sb blk n (fun x:α×Nat=>r x.1) St) w A x R B (a m b:Nat) (ha:A.length=a) (hm:a+1=m) (hb:m+R.length=b) (hM:KN r [x] R)
  (h:St w (A++(x:: (R++B)))) (hn:(A++(x:: (R++B))).length=n) (a6:n<=1000000):
  Calls prog 168 #[XE g lb sf sb,I O a,I O m,I O b] w fun e w'=>e= .returned (.tuple #[])/\(∃S,S.Perm ([x]++R)/\C6 r S/\St w' (A++(S++B)))/\Q6 (fun k=>k=blk) w w':=by
 have a1:=E.lt _ _ h
 have eg:=E.eg
 have a5:=E.start h
 have a7:A.length+ (1+ (R.length+B.length))=n:=by simp at hn;omega
 have HE:=Q0 E
 have b9:=Q0 a5
 have j:=Q0 (And.intro ha (And.intro hb a7))
 have HM:=Q0 hM
 have c9:a<=1000000:=by omega
 have c7:b<=1000000:=by omega
 have d0:m<=1000000:=by omega
 have c5:=Q0 a6
 have a0:=Q0 a1
 have y:=Q0 hm
 have t1:((m:Int)- (a:Int) ==1)=true:=Z0 (by omega)
 clear E h a5 hn a7 ha hb a6 a1 hM hm
 unfold XE
 go_enter func168,ntmps168
 go_wp2_with fail
 clear t1
 go_loopg [8,9] R.length (fun gg s8 s9 wx=> ∃p q,p<=q/\q<=R.length/\gg=q-p/\s8=I O ((m:Int)+ (p:Int))/\s9=I O ((m:Int)+ (q:Int))/\Hid ((∀(h2:q<R.length),¬r R[q].1<r x.1)/\(∀(h1:0<p) (h2:p-1<R.length),r R[p-1].1<r x.1))/\KY St blk w wx (ZC g lb sf sb) (A++(x:: (R++B))))
 case atStart=>exact⟨0,R.length,V5 _,Q4 _,by omega,by simp,by rw[show(m:Int)+ ((R.length:Nat):Int)=(b:Int) by have:=j.out;omega],Q0 ⟨fun h=>absurd h (by omega),fun h=>absurd h (by omega)⟩,b9⟩
 obtain⟨p,q,c8,hq,rfl,rfl,rfl,J,i⟩:=hrel
 have c6:R.length<=1000000:=by have:=j.out;omega
 by_cases a1:p<q
 ·have b5:(m:Int)+ (p:Int)< (m:Int)+ (q:Int):=by omega
  obtain⟨c0,c1⟩:=i.cells;go_upto_region 6 with fail
  have em:((m:Int)+ (p:Int)+ ((m:Int)+ (q:Int)))/2=(m:Int)+ (((p+q)/2:Nat):Int):=by omega
  have b1:p<=(p+q)/2:=by omega
  have c3:(p+q)/2<q:=by omega
  rw[em];generalize(p+q)/2=c at b1 c3|-;clear em;have b8:c<R.length:=by omega
  have C:(A++(x:: (R++B))).length=n:=by have:=j.out;simp;omega
  have U:A++(x:: (R++B))=A++([x]++(R++B)):=rfl;have a2:m+c< (A++(x:: (R++B))).length:=by have:=j.out;have:=y.out;omega
  have a4:a< (A++(x:: (R++B))).length:=by have:=j.out;omega
  have D:=HE.less wr _ (m+c) a i.st C a2 a4 (by have:=y.out;omega);have g1:(A++(x:: (R++B)))[m+c]=R[c]:=Ul (A:=A) (L:= [x]) (by have:=j.out;have:=y.out;simp;omega) b8 a2;have g0:(A++(x:: (R++B)))[a]=x:=Yz j.1 a4;rw[g0,g1,show(((m+c:Nat):Int))=(m:Int)+ (c:Int) by omega]at D;obtain⟨v,hv⟩:=exq (decide (r R[c].1<r x.1));rw[hv]at D;have HS:=Q0 i;have HV:=Q0 hv;clear i g0 g1 a2 a4 C U hv
  cases v with
  |true=>
   go_wp2_with (go_at_fn g;refine D.mono ?_;rintro e w2 ⟨rfl,u,hk⟩)
   go_roundg (q- (c+1))
   case measure=>omega
   exact⟨c+1,q,by omega,hq,rfl,by rw[show(m:Int)+ ((c+1:Nat):Int)=(m:Int)+ (c:Int)+1 by omega],rfl,Q0 ⟨J.1,fun h1 h2=>by have h:=HV.out;simpa using h⟩,HS.step a0 u hk⟩
  |false=>
   go_wp2_with (go_at_fn g;refine D.mono ?_;rintro e w2 ⟨rfl,u,hk⟩)
   go_roundg (c-p)
   case measure=>omega
   exact⟨p,c,by omega,by omega,rfl,rfl,rfl,Q0 ⟨fun h2=>by have h:=HV.out;simpa using h,J.2⟩,HS.step a0 u hk⟩
 obtain rfl:p=q:=by omega
 have b5: ¬(m:Int)+ (p:Int)< (m:Int)+ (p:Int):=by omega
 have HS:=Q0 i
 have a8:=Q0 (HM.one_l (q:=p) hq J.1 (fun h1=>J.2 h1 (by omega)))
 obtain⟨wo,rfl⟩: ∃wo,wo=wr:=⟨_,rfl⟩
 clear i
 go_wp2_with fail
 go_loopg [11] p (fun gg b2 wx=> ∃t,t<=p/\gg=p-t/\b2=I O ((a:Int)+ (t:Int))/\KY St blk w wx (ZC g lb sf sb) (A++(R.take t++(x:: (R.drop t++B)))))
 case atStart=>exact⟨0,V5 _,rfl,by simp,by simpa using HS.out⟩
 obtain⟨t,ht,rfl,rfl,i⟩:=hrel
 obtain⟨c0,c1⟩:=i.cells
 by_cases c4:t<p
 ·have c2:(a:Int)+ (t:Int)< (m:Int)+ (p:Int)-1:=by have:=y.out;omega
  have a9:t<R.length:=by omega
  have et:R.drop t=R[t]::R.drop (t+1):=UC a9;have ek:R.take (t+1)=R.take t++ [R[t]]:=M8 a9;have u:=i.st;have U:A++(R.take t++(x:: (R.drop t++B)))=(A++R.take t)++(x::R[t]:: (R.drop (t+1)++B)):=by rw[et];simp only[List.append_assoc,List.cons_append]
  rw[U]at u;have a3:(A++R.take t).length=a+t:=by have:=j.out;simp;omega
  have C:((A++R.take t)++(x::R[t]:: (R.drop (t+1)++B))).length=n:=by have:=j.out;simp at a3|-;omega
  obtain⟨w2,hs,Z,hk⟩:=HE.swap wr _ (a+t) (a+t+1) u C (by have:=j.out;omega) (by have:=j.out;omega) (by omega);rw[Qp3 _ _ _ _ a3]at Z;rw[show(((a+t:Nat):Int))=(a:Int)+ (t:Int) by omega,show(((a+t+1:Nat):Int))=(a:Int)+ (t:Int)+1 by omega]at hs;have e2:(A++R.take t)++(R[t]::x:: (R.drop (t+1)++B))=A++(R.take (t+1)++(x:: (R.drop (t+1)++B))):=by rw[ek];simp only[List.append_assoc,List.cons_append,List.nil_append]
  rw[e2]at Z;have N:=Q0 i;have b0:=Q0 Z;have HK:=Q0 hk;clear i u Z hk U e2 et ek a3 C;go_wp2_with fail
  go_roundg (p- (t+1))
  case measure=>omega
  exact⟨t+1,by omega,rfl,by rw[show(a:Int)+ ((t+1:Nat):Int)=(a:Int)+ (t:Int)+1 by omega],N.step a0 b0 HK⟩
 obtain rfl:t=p:=by omega
 have c2: ¬(a:Int)+ (t:Int)< (m:Int)+ (t:Int)-1:=by have:=y.out;omega
 have N:=Q0 i
 clear i
 go_wp2_with fail
 refine P4 (KW rfl _ _ _) rfl ?_
 exact⟨rfl,⟨_,a8.1,a8.2,by have h:=N.st;simpa only[List.append_assoc,List.cons_append]using h⟩,N.keep⟩
theorem Qz8 (E:AX g lb sf sb blk n (fun x:α×Nat=>r x.1) St) w A L y B (a m b:Nat) (ha:A.length=a) (hm:a+L.length=m) (hb:m+1=b) (h1:2<=L.length) (hM:KN r L [y])
  (h:St w (A++(L++(y::B)))) (hn:(A++(L++(y::B))).length=n) (a8:n<=1000000):
  Calls prog 168 #[XE g lb sf sb,I O a,I O m,I O b] w fun e w'=>e= .returned (.tuple #[])/\(∃S,S.Perm (L++ [y])/\C6 r S/\St w' (A++(S++B)))/\Q6 (fun k=>k=blk) w w':=by
 have a3:=E.lt _ _ h
 have eg:=E.eg
 have a7:=E.start h
 have a9:A.length+ (L.length+ (1+B.length))=n:=by simp at hn;omega
 have HE:=Q0 E
 have c3:=Q0 a7
 have J:=Q0 (And.intro ha (And.intro hb a9))
 have HM:=Q0 hM
 have d3:a<=1000000:=by omega
 have d1:b<=1000000:=by omega
 have d4:m<=1000000:=by omega
 have c9:=Q0 a8
 have a2:=Q0 a3
 have D:=Q0 hm
 have t1:((m:Int)- (a:Int) ==1)=false:=X3 (by omega)
 have t2:((b:Int)- (m:Int) ==1)=true:=Z0 (by omega)
 clear E h a7 hn a9 ha hb a8 a3 hM hm h1
 unfold XE
 go_enter func168,ntmps168
 go_wp2_with fail
 clear t1 t2
 go_loopg [12,13] L.length (fun gg s8 s9 wx=> ∃p q,p<=q/\q<=L.length/\gg=q-p/\s8=I O ((a:Int)+ (p:Int))/\s9=I O ((a:Int)+ (q:Int))/\Hid ((∀(h2:q<L.length),r y.1<r L[q].1)/\(∀(h1:0<p) (h2:p-1<L.length),¬r y.1<r L[p-1].1))/\KY St blk w wx (ZC g lb sf sb) (A++(L++(y::B))))
 case atStart=>exact⟨0,L.length,V5 _,Q4 _,by omega,by simp,by rw[show(a:Int)+ ((L.length:Nat):Int)=(m:Int) by have:=D.out;omega],Q0 ⟨fun h=>absurd h (by omega),fun h=>absurd h (by omega)⟩,c3⟩
 obtain⟨p,q,d2,hq,rfl,rfl,rfl,HI,C⟩:=hrel
 have d0:L.length<=1000000:=by have:=D.out;omega
 by_cases a3:p<q
 ·have b9:(a:Int)+ (p:Int)< (a:Int)+ (q:Int):=by omega
  obtain⟨c0,c1⟩:=C.cells;go_upto_region 18 with fail
  have em:((a:Int)+ (p:Int)+ ((a:Int)+ (q:Int)))/2=(a:Int)+ (((p+q)/2:Nat):Int):=by omega
  have b5:p<=(p+q)/2:=by omega
  have c5:(p+q)/2<q:=by omega
  rw[em];generalize(p+q)/2=c at b5 c5|-;clear em;have c2:c<L.length:=by omega
  have U:(A++(L++(y::B))).length=n:=by have:=J.out;simp;omega
  have a4:a+c< (A++(L++(y::B))).length:=by have:=J.out;have:=D.out;omega
  have a6:m< (A++(L++(y::B))).length:=by have:=J.out;have:=D.out;omega
  have Z:=HE.less wr _ m (a+c) C.st U a6 a4 (by have:=D.out;omega);have g1:(A++(L++(y::B)))[a+c]=L[c]:=Nk (A:=A) (by have:=J.out;omega) c2 a4;have g0:(A++(L++(y::B)))[m]=y:=by
   have h:=Ul (A:=A) (L:=L) (R:= [y]) (B:=B) (i:=m) (j:=0) (by have:=J.out;have:=D.out;omega) (by simp) a6;simpa using h
  rw[g0,g1,show(((a+c:Nat):Int))=(a:Int)+ (c:Int) by omega]at Z;obtain⟨v,hv⟩:=exq (decide (r y.1<r L[c].1));rw[hv]at Z;have HS:=Q0 C;have HV:=Q0 hv;clear C g0 g1 a4 a6 U hv
  cases v with
  |false=>
   go_wp2_with (go_at_fn g;refine Z.mono ?_;rintro e w2 ⟨rfl,N,hk⟩)
   go_roundg (q- (c+1))
   case measure=>omega
   exact⟨c+1,q,by omega,hq,rfl,by rw[show(a:Int)+ ((c+1:Nat):Int)=(a:Int)+ (c:Int)+1 by omega],rfl,Q0 ⟨HI.1,fun h1 h2=>by have h:=HV.out;simpa using h⟩,HS.step a2 N hk⟩
  |true=>
   go_wp2_with (go_at_fn g;refine Z.mono ?_;rintro e w2 ⟨rfl,N,hk⟩)
   go_roundg (c-p)
   case measure=>omega
   exact⟨p,c,by omega,by omega,rfl,rfl,rfl,Q0 ⟨fun h2=>by have h:=HV.out;simpa using h,HI.2⟩,HS.step a2 N hk⟩
 obtain rfl:p=q:=by omega
 have b9: ¬(a:Int)+ (p:Int)< (a:Int)+ (p:Int):=by omega
 have HS:=Q0 C
 have b0:=Q0 (HM.one_r (q:=p) hq HI.1 (fun h1=>HI.2 h1 (by omega)))
 obtain⟨wo,rfl⟩: ∃wo,wo=wr:=⟨_,rfl⟩
 clear C
 go_wp2_with fail
 go_loopg [15] (L.length-p) (fun gg b8 wx=> ∃u,p<=u/\u<=L.length/\gg=u-p/\b8=I O ((a:Int)+ (u:Int))/\KY St blk w wx (ZC g lb sf sb) (A++(L.take u++(y:: (L.drop u++B)))))
 case atStart=>exact⟨L.length,hq,Q4 _,rfl,by rw[show(a:Int)+ ((L.length:Nat):Int)=(m:Int) by have:=D.out;omega],by simpa using HS.out⟩
 obtain⟨u,c6,c7,rfl,rfl,C⟩:=hrel
 obtain⟨c0,c1⟩:=C.cells
 by_cases c8:p<u
 ·have c4:(a:Int)+ (p:Int)< (a:Int)+ (u:Int):=by omega
  obtain⟨t,ht⟩: ∃t,u=t+1:=⟨u-1,by omega⟩;have b1:t<L.length:=by omega
  have et:L.drop t=L[t]::L.drop u:=by rw[ht];exact UC b1
  have ek:L.take u=L.take t++ [L[t]]:=by rw[ht];exact M8 b1
  have N:=C.st;have e1:A++(L.take u++(y:: (L.drop u++B)))=(A++L.take t)++(L[t]::y:: (L.drop u++B)):=by rw[ek];simp only[List.append_assoc,List.cons_append,List.nil_append]
  rw[e1]at N;have a5:(A++L.take t).length=a+t:=by have:=J.out;simp;omega
  have U:((A++L.take t)++(L[t]::y:: (L.drop u++B))).length=n:=by have:=J.out;simp at a5|-;omega
  obtain⟨w2,hs,a1,hk⟩:=HE.swap wr _ (a+t+1) (a+t) N U (by have:=J.out;have:=D.out;omega) (by have:=J.out;have:=D.out;omega) (by omega);rw[Ek _ _ _ _ a5]at a1;rw[show(((a+t:Nat):Int))=(a:Int)+ (u:Int)-1 by omega,show(((a+t+1:Nat):Int))=(a:Int)+ (u:Int) by omega]at hs;have e2:(A++L.take t)++(y::L[t]:: (L.drop u++B))=A++(L.take t++(y:: (L.drop t++B))):=by rw[et];simp only[List.append_assoc,List.cons_append]
  rw[e2]at a1;have a0:=Q0 C;have b2:=Q0 a1;have HK:=Q0 hk;have Ht:=Q0 ht;clear C N a1 hk e1 e2 et ek a5 U ht;go_wp2_with fail
  go_roundg (t-p)
  case measure=>have:=Ht.out;omega
  exact⟨t,by have:=Ht.out;omega,by omega,rfl,by rw[show(a:Int)+ (t:Int)=(a:Int)+ (u:Int)-1 by have:=Ht.out;omega],a0.step a2 b2 HK⟩
 obtain rfl:p=u:=by omega
 have c4: ¬(a:Int)+ (p:Int)< (a:Int)+ (p:Int):=by omega
 have a0:=Q0 C
 clear C
 go_wp2_with fail
 refine P4 (KW rfl _ _ _) rfl ?_
 exact⟨rfl,⟨_,b0.1,b0.2,by have h:=a0.st;simpa only[List.append_assoc,List.cons_append]using h⟩,a0.keep⟩
def Jk6 (r:α->Int) (L R:List (α×Nat)) (a m n0 lo s:Nat):Prop:= ∀x y,lo<s->L[s-1-a]?=some x->R[n0-s-m]?=some y->QK r x y
def Jk7 (r:α->Int) (L R:List (α×Nat)) (a m n0 hi t:Nat):Prop:= ∀x y,t<hi->R[n0-1-t-m]?=some x->L[t-a]?=some y->QK r x y
def Nl (g:Nat) (lb:Array Value) (sf:Nat) (sb:Array Value) (blk n:Nat) (r:α->Int) (St:World->List (α×Nat)->Prop) (N:Nat):Prop:=
 ∀(w:World) (A L R B:List (α×Nat)) (a m b:Nat),L.length+R.length<=N->A.length=a->a+L.length=m->m+R.length=b->0<L.length->0<R.length->KN r L R->St w (A++(L++(R++B)))->(A++(L++(R++B))).length=n->
  Calls prog 168 #[XE g lb sf sb,I O a,I O m,I O b] w fun e w'=>e= .returned (.tuple #[])/\(∃S,S.Perm (L++R)/\C6 r S/\St w' (A++(S++B)))/\Q6 (fun k=>k=blk) w w'
theorem Jk8 (E:AX g lb sf sb blk n (fun x:α×Nat=>r x.1) St) N (IH:Nl g lb sf sb blk n r St N) w A L R B (a m b:Nat) (hN:L.length+R.length<=N+1) (ha:A.length=a) (hm:a+L.length=m) (hb:m+R.length=b) (h1:2<=L.length) (h2:2<=R.length) (hM:KN r L R)
  (h:St w (A++(L++(R++B)))) (hn:(A++(L++(R++B))).length=n) (g6:n<=1000000):
  Calls prog 168 #[XE g lb sf sb,I O a,I O m,I O b] w fun e w'=>e= .returned (.tuple #[])/\(∃S,S.Perm (L++R)/\C6 r S/\St w' (A++(S++B)))/\Q6 (fun k=>k=blk) w w':=by
 have c6:=E.lt _ _ h
 have eg:=E.eg
 have e4:=E.start h
 have h3:A.length+ (L.length+ (R.length+B.length))=n:=by simpa using hn
 have HE:=Q0 E
 have g4:=Q0 IH
 have j8:=Q0 e4
 have C:=Q0 (And.intro ha (And.intro hm (And.intro hb (And.intro h3 (And.intro h1 (And.intro h2 hN))))))
 have HM:=Q0 hM
 have l3:a<=1000000:=by omega
 have k5:b<=1000000:=by omega
 have l4:m<=1000000:=by omega
 have j3:=Q0 g6
 have a8:=Q0 c6
 have t1:((m:Int)- (a:Int) ==1)=false:=X3 (by omega)
 have t2:((b:Int)- (m:Int) ==1)=false:=X3 (by omega)
 clear E IH h e4 hn h3 ha hb g6 c6 hM hm h1 h2 hN
 unfold XE
 go_enter func168,ntmps168
 go_upto_region 26 with fail
 clear t1 t2
 obtain⟨mid,g2⟩: ∃mid,(a+b)/2=mid:=⟨_,rfl⟩
 have em:((a:Int)+ (b:Int))/2=(mid:Int):=by omega
 rw[em]
 have b8:=Q0 g2
 obtain⟨n0,f8⟩: ∃n0,mid+m=n0:=⟨_,rfl⟩
 have a1:=Q0 f8
 have l2:mid<=1000000:=by omega
 have en:(mid:Int)+ (m:Int)=(n0:Int):=by omega
 clear em g2 f8
 obtain⟨w1,h5⟩:=exq (w.alloc (.cells (ZC g lb sf sb) 203))
 go_upto_if 106 with fail
 obtain⟨lo,b9⟩: ∃lo,(if mid<m then n0-b else a)=lo:=⟨_,rfl⟩
 obtain⟨hi,c2⟩: ∃hi,(if mid<m then mid else m)=hi:=⟨_,rfl⟩
 have Z:Hid (a<=lo/\lo<=hi/\hi<=m/\hi<=mid/\n0<=lo+b/\(lo=a\/n0=lo+b)/\(hi=mid\/hi=m)):=Q0 (by
  have q1:=C.out;have q2:=b8.out;have q3:=a1.out
  by_cases J:mid<m
  ·rw[Q5 J]at b9 c2;omega
  rw[Q3 J]at b9 c2;omega)
 have e5:=j8
 rw[h5]at e5
 have g5:=Q0 b9
 have e9:=Q0 c2
 clear b9 c2 h5
 go_cut [18,19] (fun d3 d0 wx=>d3=I O lo/\d0=I O hi/\wx=w1)
 case first=>
  by_cases J:mid<m
  ·have j1:(mid:Int)< (m:Int):=by omega
   have e1:(n0:Int)- (b:Int)=(lo:Int):=by have:=g5.out;rw[Q5 J]at this;have:=C.out;have:=b8.out;have:=a1.out;omega
   have e2:hi=mid:=by have:=e9.out;rw[Q5 J]at this;omega
   have d6:=Q0 e2;clear J e2;go_wp2_with fail
   go_meet;exact⟨rfl,by rw[d6.out],rfl⟩
  have j1: ¬(mid:Int)< (m:Int):=by omega
  have e1:lo=a:=by have:=g5.out;rw[Q3 J]at this;omega
  have e2:hi=m:=by have:=e9.out;rw[Q3 J]at this;omega
  have h9:=Q0 e1;have d6:=Q0 e2;clear J e1 e2;go_wp2_with fail
  go_meet;exact⟨by rw[h9.out],by rw[d6.out],rfl⟩
 obtain⟨rfl,rfl,rfl⟩:=hcut
 obtain⟨w1,rfl⟩: ∃w1,w1=wc:=⟨_,rfl⟩
 have k8:lo<=1000000:=by have:=Z.out;omega
 have k7:hi<=1000000:=by have:=Z.out;omega
 have h8:1<=n0/\n0<=2000000:=by have:=C.out;have:=a1.out;omega
 obtain⟨l1,k6⟩:=h8
 go_wp2_with fail
 clear en
 go_loopg [18,19] (hi-lo) (fun gg d3 d0 wx=> ∃s t,lo<=s/\s<=t/\t<=hi/\gg=t-s/\d3=I O s/\d0=I O t/\Hid (Jk6 r L R a m n0 lo s/\Jk7 r L R a m n0 hi t)/\KY St blk w wx (ZC g lb sf sb) (A++(L++(R++B))))
 case atStart=>exact⟨lo,hi,Q4 _,Z.2.1,Q4 _,rfl,rfl,rfl,Q0 ⟨fun x y h=>absurd h (by omega),fun x y h=>absurd h (by omega)⟩,e5⟩
 obtain⟨s,t,j5,a0,i5,rfl,rfl,rfl,HI,hS⟩:=hrel
 by_cases c6:s<t
 ·have j6:(s:Int)< (t:Int):=by omega
  obtain⟨c0,c1⟩:=hS.cells;go_upto_region 36 with fail
  have em:((s:Int)+ (t:Int))/2=(((s+t)/2:Nat):Int):=by omega
  have h7:s<=(s+t)/2:=by omega
  have k0:(s+t)/2<t:=by omega
  rw[em];generalize(s+t)/2=c at h7 k0|-;clear em;obtain⟨f1,f2,f3,f4,f5,f6⟩:c-a<L.length/\n0-1-c-m<R.length/\m<=n0-1-c/\a<=c/\c+1<=n0/\n0-1-c<b:=by
   have q1:=C.out;have q2:=a1.out;have q3:=Z.out;omega
  have e6:(A++(L++(R++B))).length=n:=by have:=C.out;simp;omega
  have b0:n0-1-c< (A++(L++(R++B))).length:=by have:=C.out;omega
  have d9:c< (A++(L++(R++B))).length:=by have:=C.out;omega
  have b2:=HE.less wr _ (n0-1-c) c hS.st e6 b0 d9 (by have:=Z.out;omega);have g1:(A++(L++(R++B)))[n0-1-c]=R[n0-1-c-m]:=Ul (A:=A) (L:=L) (by have:=C.out;omega) f2 b0;have g0:(A++(L++(R++B)))[c]=L[c-a]:=Nk (A:=A) (by have:=C.out;omega) f1 d9;rw[g0,g1,show(((n0-1-c:Nat):Int))=(n0:Int)-1- (c:Int) by omega]at b2;obtain⟨v,hv⟩:=exq (decide (r R[n0-1-c-m].1<r L[c-a].1));rw[hv]at b2;have HS:=Q0 hS;have HV:=Q0 hv;have i6:=Q0 (HM.tag _ (Y1 f1) _ (Y1 f2));have HF:=Q0 (And.intro f1 (And.intro f2 (And.intro f3 (And.intro f4 f5))));clear hS g0 g1 b0 d9 e6 hv f3 f4 f6;have f7:(0:Int)<=(n0:Int)-1- (c:Int):=by omega
  cases v with
  |false=>
   go_wp2_with (go_at_fn g;refine b2.mono ?_;rintro e w2 ⟨rfl,d5,hk⟩)
   go_roundg (t- (c+1))
   case measure=>omega
   refine⟨c+1,t,by omega,by omega,i5,rfl,by go_num,rfl,Q0 ⟨fun x y h i j=> ?_,HI.2⟩,HS.step a8 d5 hk⟩;rw[show c+1-1-a=c-a by omega,KP HF.1]at i;rw[show n0- (c+1)-m=n0-1-c-m by omega,KP HF.2.1]at j
   cases i
   cases j;exact QK.of_not (by have h:=HV.out;simpa using h) i6
  |true=>
   go_wp2_with (go_at_fn g;refine b2.mono ?_;rintro e w2 ⟨rfl,d5,hk⟩)
   go_roundg (c-s)
   case measure=>omega
   refine⟨s,c,j5,by omega,by omega,rfl,rfl,rfl,Q0 ⟨HI.1,fun x y h i j=> ?_⟩,HS.step a8 d5 hk⟩;rw[KP HF.2.1]at i;rw[KP HF.1]at j
   cases i
   cases j;exact .inl (by have h:=HV.out;simpa using h)
 obtain rfl:s=t:=by omega
 have j6: ¬(s:Int)< (s:Int):=by omega
 obtain⟨e,he⟩: ∃e,n0=s+e:=⟨n0-s,by have:=Z.out;have:=a1.out;omega⟩
 have i4:(n0:Int)- (s:Int)=(e:Int):=by omega
 have l0:e<=1000000:=by have:=C.out;have:=Z.out;omega
 have c8:=Q0 he
 have HS:=Q0 hS
 obtain⟨wo,rfl⟩: ∃wo,wo=wr:=⟨_,rfl⟩
 clear hS he
 go_upto_region 40 with fail
 obtain⟨i1,b0⟩:=exq (s-a)
 obtain⟨i2,i7⟩:=exq (e-m)
 have u:Hid (s=a+i1/\e=m+i2/\mid=a+i1+i2/\i1<=L.length/\i2<=R.length):=Q0 (by
  have q1:=C.out;have q2:=a1.out;have q3:=Z.out;have q4:=c8.out;omega)
 have j7:Hid (∀x y,0<i1->L[i1-1]?=some x->R[i2]?=some y->QK r x y):=Q0 (fun x y h i j=>by
  have q1:=C.out;have q2:=a1.out;have q3:=Z.out;have q4:=c8.out;have q5:=u.out;have q6:i2<R.length:=by
   rcases ED i2 R.length with h|h
   ·exact h
   rw[DV h]at j;cases j
  exact HI.1 x y (by omega) (by rw[show s-1-a=i1-1 by omega];exact i) (by rw[show n0-s-m=i2 by omega];exact j))
 have j4:Hid (∀x y,0<i2->R[i2-1]?=some x->L[i1]?=some y->QK r x y):=Q0 (fun x y h i j=>by
  have q1:=C.out;have q2:=a1.out;have q3:=Z.out;have q4:=c8.out;have q5:=u.out;have q6:i1<L.length:=by
   rcases ED i1 L.length with h|h
   ·exact h
   rw[DV h]at j;cases j
  exact HI.2 x y (by omega) (by rw[show n0-1-s-m=i2-1 by omega];exact i) (by rw[show s-a=i1 by omega];exact j))
 have a5:Hid (KY St blk w wo (ZC g lb sf sb) ((A++L.take i1)++(L.drop i1++(R.take i2++(R.drop i2++B))))):=Q0 (by
  have h:=HS.out;have e1:L=L.take i1++L.drop i1:=(P2 _ _).symm;have e2:R=R.take i2++R.drop i2:=(P2 _ _).symm;rw[e1,e2]at h;simpa only[List.append_assoc]using h)
 have D:Hid ((L.take i1).length=i1/\(L.drop i1).length=m-s/\(R.take i2).length=i2/\(R.drop i2).length=b-e):=Q0 (by
  have q1:=C.out;have q5:=u.out;simp only[List.length_take,List.length_drop];omega)
 have h6:KN r (L.take i1) (R.take i2)/\KN r (L.drop i1) (R.drop i2):=KN.parts (by rw[P2,P2];exact HM)
 have a2:=Q0 h6
 have f0:=Q0 (fun S1 S2=>Jk5 (S1:=S1) (S2:=S2) HM u.2.2.2.1 u.2.2.2.2 j7 j4)
 clear b0 i7 h6 HI i4
 obtain⟨L1,d7⟩:=exq (L.take i1)
 obtain⟨L2,d8⟩:=exq (L.drop i1)
 obtain⟨R1,c4⟩:=exq (R.take i2)
 obtain⟨R2,d4⟩:=exq (R.drop i2)
 rw[d7,d8,c4,d4]at a5 D a2
 rw[d7,d8,c4,d4]at f0
 clear d7 d8 c4 d4
 obtain⟨rb,g9⟩:=exq (decide (s<m) &&decide (m<e))
 have a4:=Q0 g9
 clear g9
 go_cut [145] (fun i0 wx=>i0= .bool rb/\wx=wo)
 case first=>
  by_cases i:s<m
  ·have d1:decide (s<m)=true:=Z5 (by omega)
   by_cases j:m<e
   ·have d2:decide (m<e)=true:=Z5 (by omega)
    have U:=Q0 (show true=rb by rw[<-a4.out,Z5 i,Z5 j];rfl);clear i j;go_wp2_with fail
    go_meet;exact⟨by rw[U.out],rfl⟩
   have d2:decide (m<e)=false:=Z1 (by omega);have U:=Q0 (show false=rb by rw[<-a4.out,Z5 i,Z1 j];rfl);clear i j;go_wp2_with fail
   go_meet;exact⟨by rw[U.out],rfl⟩
  have d1:decide (s<m)=false:=Z1 (by omega);have U:=Q0 (show false=rb by rw[<-a4.out,Z1 i];rfl);clear i;go_wp2_with fail
  go_meet;exact⟨by rw[U.out],rfl⟩
 obtain⟨rfl,rfl⟩:=hcut
 obtain⟨w2,rfl⟩: ∃w2,w2=wc:=⟨_,rfl⟩
 go_upto_if 145 with fail
 go_cut [150] (fun k9 wx=>KY St blk w wx (ZC g lb sf sb) (A++(L1++(R1++(L2++(R2++B))))))
 case first=>
  cases rb with
  |false=>
   go_wp2_with fail
   go_meet;have h:=a5.out;have q:=a4.out;have ql:=D.out;have a7:L2= []\/R1= []:=by
    by_cases i:s<m
    ·rw[Z5 i]at q
     have j: ¬m<e:=by simpa using q
     exact .inr (BN (by have:=u.out;omega))
    exact .inl (BN (by omega))
   rcases a7 with rfl|rfl
   ·simpa only[List.append_assoc,List.nil_append]using h
   simpa only[List.append_assoc,List.nil_append]using h
  |true=>
   obtain⟨c0,c1⟩:=a5.cells;have c9:s<m/\m<e:=by have q:=a4.out;simpa using q
   have J:=Qg2 HE w2 (A++L1) L2 R1 (R2++B) s m e (by have:=C.out;have:=u.out;have:=D.out;simp;omega) (by have:=C.out;have:=u.out;have:=D.out;simp;omega) (by have:=C.out;have:=u.out;have:=D.out;omega) (by have:=D.out;omega) (by have:=D.out;have:=u.out;omega) a5.st (by have:=C.out;have:=u.out;have:=D.out;simp;omega) j3;have HC:=Q0 J;clear J c9;unfold XE at HC;go_wp2_with fail
   refine HC.mono ?_;rintro e w3 ⟨rfl,a0,hk⟩;have a6:=Q0 a0;have HK:=Q0 hk;clear a0 hk;go_wp2_with fail
   go_meet;exact a5.step a8 (by have h:=a6.out;simpa only[List.append_assoc]using h) HK
 have b5:=Q0 hcut
 obtain⟨w4,rfl⟩: ∃w4,w4=wc:=⟨_,rfl⟩
 clear hcut
 go_upto_region 42 with fail
 obtain⟨ra,h4⟩:=exq (decide (a<s) &&decide (s<mid))
 have b1:=Q0 h4
 clear h4
 go_cut [158] (fun j9 wx=>j9= .bool ra/\wx=w4)
 case first=>
  by_cases i:a<s
  ·have d1:decide (a<s)=true:=Z5 (by omega)
   by_cases j:s<mid
   ·have d2:decide (s<mid)=true:=Z5 (by omega)
    have U:=Q0 (show true=ra by rw[<-b1.out,Z5 i,Z5 j];rfl);clear i j;go_wp2_with fail
    go_meet;exact⟨by rw[U.out],rfl⟩
   have d2:decide (s<mid)=false:=Z1 (by omega);have U:=Q0 (show false=ra by rw[<-b1.out,Z5 i,Z1 j];rfl);clear i j;go_wp2_with fail
   go_meet;exact⟨by rw[U.out],rfl⟩
  have d1:decide (a<s)=false:=Z1 (by omega);have U:=Q0 (show false=ra by rw[<-b1.out,Z1 i];rfl);clear i;go_wp2_with fail
  go_meet;exact⟨by rw[U.out],rfl⟩
 obtain⟨rfl,rfl⟩:=hcut
 obtain⟨w4,rfl⟩: ∃w4,w4=wc:=⟨_,rfl⟩
 go_upto_if 158 with fail
 go_cut [163] (fun k4 wx=> ∃S1,S1.Perm (L1++R1)/\C6 r S1/\KY St blk w wx (ZC g lb sf sb) (A++(S1++(L2++(R2++B)))))
 case first=>
  cases ra with
  |false=>
   go_wp2_with fail
   go_meet;have h:=b5.out;have q:=b1.out;have ql:=D.out;have a7:L1= []\/R1= []:=by
    by_cases i:a<s
    ·rw[Z5 i]at q
     have j: ¬s<mid:=by simpa using q
     exact .inr (BN (by have:=u.out;omega))
    exact .inl (BN (by have:=u.out;omega))
   rcases a7 with rfl|rfl
   ·exact⟨R1,by simp,a2.1.r,by simpa only[List.append_assoc,List.nil_append]using h⟩
   exact⟨L1,by simp,a2.1.l,by simpa only[List.append_assoc,List.nil_append]using h⟩
  |true=>
   obtain⟨c0,c1⟩:=b5.cells;have c9:a<s/\s<mid:=by have q:=b1.out;simpa using q
   have J:=g4.out w4 A L1 R1 (L2++(R2++B)) a s mid (by have:=b8.out;have:=C.out;have:=u.out;have:=D.out;omega) C.1 (by have:=u.out;have:=D.out;omega) (by have:=u.out;have:=D.out;omega) (by have:=u.out;have:=D.out;omega) (by have:=u.out;have:=D.out;omega) a2.1 b5.st (by have:=C.out;have:=u.out;have:=D.out;simp;omega);have HC:=Q0 J;clear J c9;unfold XE at HC;go_wp2_with fail
   refine HC.mono ?_;rintro e w3 ⟨rfl,⟨S1,a3,a9,a0⟩,hk⟩;have a6:=Q0 a0;have HK:=Q0 hk;have c5:=Q0 a3;have k3:=Q0 a9;clear a0 hk a3 a9;go_wp2_with fail
   go_meet;exact⟨S1,c5,k3,b5.step a8 a6 HK⟩
 obtain⟨S1,a3,a9,f9⟩:=hcut
 have c5:=Q0 a3
 have i9:=Q0 a9
 have c3:=Q0 f9
 obtain⟨w5,rfl⟩: ∃w5,w5=wc:=⟨_,rfl⟩
 have e7:=a3.length_eq
 have h0:=Q0 e7
 clear a3 a9 f9 e7
 have e3:(¬mid<e\/ ¬e<b)->(∃S2,S2.Perm (L2++R2)/\C6 r S2/\KY St blk w w5 (ZC g lb sf sb) (A++(S1++(S2++B)))):=fun hh=>by
  have h:=c3.out;have ql:=D.out;have qx:=u.out;have a7:L2= []\/R2= []:=by
   rcases hh with i|i
   ·exact .inl (BN (by omega))
   exact .inr (BN (by omega))
  rcases a7 with rfl|rfl
  ·exact⟨R2,by simp,a2.2.r,by simpa only[List.append_assoc,List.nil_append]using h⟩
  exact⟨L2,by simp,a2.2.l,by simpa only[List.append_assoc,List.nil_append]using h⟩
 have g8: ∀S2 wx,S2.Perm (L2++R2)->C6 r S2->KY St blk w wx (ZC g lb sf sb) (A++(S1++(S2++B)))->(∃S,S.Perm (L++R)/\C6 r S/\St wx (A++(S++B)))/\Q6 (fun k=>k=blk) w wx:=fun S2 wx hp hs hS=>by
  obtain⟨i,j⟩:=f0.out S1 S2 c5 i9 hp hs;exact⟨⟨S1++S2,i,j,by have h:=hS.st;simpa only[List.append_assoc]using h⟩,hS.keep⟩
 have g3:=Q0 e3
 have c7:=Q0 g8
 clear e3 g8
 by_cases i:mid<e
 ·have d1:decide (mid<e)=true:=Z5 (by omega)
  by_cases j:e<b
  ·have d2:decide (e<b)=true:=Z5 (by omega)
   obtain⟨c0,c1⟩:=c3.cells;have J:=g4.out w5 (A++S1) L2 R2 B mid e b (by have:=b8.out;have:=C.out;have:=u.out;have:=D.out;omega) (by have:=C.out;have:=u.out;have:=D.out;have:=h0.out;simp at*;omega) (by have:=u.out;have:=D.out;have:=C.out;omega) (by have:=u.out;have:=D.out;have:=C.out;omega) (by have:=u.out;have:=D.out;have:=C.out;omega) (by have:=u.out;have:=D.out;omega) a2.2 (by have h:=c3.st;simpa only[List.append_assoc]using h) (by have:=C.out;have:=u.out;have:=D.out;have:=h0.out;simp at*;omega);have HC:=Q0 J;clear J i j;unfold XE at HC;go_wp2_with fail
   refine HC.mono ?_;rintro e w3 ⟨rfl,⟨S2,g7,e8,a0⟩,hk⟩;have a6:=Q0 a0;have HK:=Q0 hk;have i3:=Q0 g7;have i8:=Q0 e8;clear a0 hk g7 e8;go_wp2_with fail
   go_end0
   exact⟨rfl,c7 S2 _ i3 i8 (c3.step a8 (by have h:=a6.out;simpa only[List.append_assoc]using h) HK)⟩
  have d2:decide (e<b)=false:=Z1 (by omega);have j0:=Q0 j;clear i j;go_wp2_with fail
  go_end0
  obtain⟨S2,q1,q2,q3⟩:=g3.out (.inr j0);exact⟨rfl,c7 S2 _ q1 q2 q3⟩
 have d1:decide (mid<e)=false:=Z1 (by omega)
 have j2:=Q0 i
 clear i
 go_wp2_with fail
 go_end0
 obtain⟨S2,q1,q2,q3⟩:=g3.out (.inl j2)
 exact⟨rfl,c7 S2 _ q1 q2 q3⟩
theorem Wd (E:AX g lb sf sb blk n (fun x:α×Nat=>r x.1) St) (j:n<=1000000): ∀N,Nl g lb sf sb blk n r St N:=by
 intro N
 induction N with
 |zero=>intro w A L R B a m b J _ _ _ h1 h2;omega
 |succ N ih=>
  intro w A L R B a m b J D v u h1 h2 C h i
  by_cases U:L.length=1
  ·obtain⟨x,rfl⟩:=List.length_eq_one_iff.1 U
   exact Jh1 E w A x R B a m b D v u C h i j
  by_cases Z:R.length=1
  ·obtain⟨y,rfl⟩:=List.length_eq_one_iff.1 Z
   exact Qz8 E w A L y B a m b D v u (by omega) C h i j
  exact Jk8 E N ih w A L R B a m b J D v u (by omega) (by omega) C h i j
end
theorem Qb3 w (b n c i j:Nat) (jz:Int) (a2:jz=j) qs (h:J2 w (some ⟨b,0,none⟩) n c 252 3 (Q9 X8 qs)) (hn:n<=100000) (b2:i<j) (hj:j<=n):
  Calls prog 174 #[.slice (some ⟨b,0,none⟩) n c,I O i,I O jz] w fun e w'=>
   e= .returned (.slice (some ⟨b,0,none⟩) (i+ (n-j)) c)/\J2 w' (some ⟨b,0,none⟩) (i+ (n-j)) c 252 3 (Q9 X8 (qs.take i++qs.drop j))/\Q6 (fun x=>x=b) w w':=by
 subst a2
 obtain⟨b8,a7⟩:=h.cap
 obtain⟨i0,a5,b0,a3,a9⟩:=N0 Xc
 have hl:qs.length=n:=by have:=h.1;rw[YV E6]at this;omega
 have Z:(Q9 X8 qs).length=n*3:=h.1
 obtain⟨y,D⟩:=exr ((Q9 X8 qs).drop (j*3))
 have J:y.length=(n-j)*3:=by rw[D,KK,Z];omega
 have E:J2 w.drew (some ⟨b,0,none⟩) n c 252 3 (Q9 X8 qs):=h.below (J3 (Q2 _ w))
 obtain⟨A,hA,a4⟩: ∃A,(if c=j then some (⟨b,0,none⟩:Addr)else some ⟨b,j*3,none⟩)=some A/\Hid (∀t u,y[t]?=some u->w.drew.cell? (A.add t)=some u):=by
  by_cases a1:c=j
  ·refine⟨⟨b,0,none⟩,by simp[a1],fun t u C=> ?_⟩
   have h0:y.length=0:=by rw[J];omega
   rw[Zl.1 h0]at C;simp at C
  refine⟨⟨b,j*3,none⟩,by simp[a1],fun t u C=> ?_⟩;rw[BX];rw[D,FS]at C;obtain⟨g,hg,hc⟩:=E.cell C
  cases hg;exact hc
 have s1:Hid (y.length=(n-j)*3):=J
 have s2:Hid (∀u∈y,u.oneCell'=true):=by
  intro u C;rw[D]at C;exact LP EN qs u (YJ C)
 have s3:Hid (∀t,t<y.length->(w.drew.cell? ⟨b,0+i*3+t,none⟩).isSome=true/\w.drew.frozen? ⟨b,0+i*3+t,none⟩=false):=by
  intro t ht;rw[J]at ht;exact⟨E.some_ (by omega),E.frozen _⟩
 obtain⟨W1,U⟩:=exr (w.drew.setCells b (0+i*3) y)
 have N:J2 W1 (some ⟨b,0,none⟩) n c 252 3 (UG (Q9 X8 qs) (i*3) y):=by rw[U,QQ];exact E.sets _ _ _ _
 obtain⟨vs,b5,a8⟩:=TM (P:=prog) W1 98 252 0 (.agg #[I O 0,I O 0,I O 0]) 3 LC (fun _=>by kernel_rfl) rfl (by omega) (by intro v hv;simp[Value.cells]at hv;rcases hv with rfl|rfl|rfl<;>rfl) b ((i+ (n-j))*3) (n- (i+ (n-j))) (c- (i+ (n-j))) (by omega)
  (fun x hx=>N.some_ (by omega)) (fun x hx=>N.frozen _)
 have hp:=N.pop (i+ (n-j)) (by omega)
 rw[Zy _ _ _ (by rw[J,Z];omega),D]at hp
 have a0:=Ve (Q9 X8 qs) (i*3) (j*3) (by omega) (by omega)
 rw[Z,show i*3+ (n*3-j*3)=(i+ (n-j))*3 by omega]at a0
 rw[a0,Vu E6 _ _ _ (by omega)]at hp
 have hK:Q6 (fun x=>x=b) w W1:=by
  rw[U];exact(U1 (J3 (Q2 _ w)) _).trans (DU _ _ _ _) (fun i h=> .inl h)
 have HP:=Q0 hp
 have HK:=Q0 hK
 have hW:Hid (W1=w.drew.setCells b (0+i*3) y):=U
 have a6:i<=c:=by omega
 have b1:j<=c:=by omega
 clear hp hK U a0 N E J D Z hl h
 go_enter func174,ntmps174
 go_wp2_with fail
 go_region_law (refine step_append_room rfl (.tmp 22) (.tmp 25) 98 rfl 252 i0 3 LC a5 a3 b 0 i c (by simp[Act.eval,Act.put]) A (n-j) (c-j) y (by simp[Act.eval,Act.put]) s1 a4 s2 (by omega) s3 ?_;rw[<-hW.out])
 go_wp2
 go_ret
 exact⟨rfl,Je _ _ _ HP (Q4 _),HK.trans (DU _ _ _ _) (fun i h=> .inl h)⟩
def KD (ps:List (Int×Int)):Prop:=0<ps.length/\ps.length<=20/\ ∀j,j<ps.length->ZJ ps j=0
theorem We {p0 p} (h:N6 (M5 p0) p=true):p0<p:=by
 unfold N6 M5 at h
 by_cases h1:p0=1
 ·simp[h1]at h;omega
 by_cases h2:p0=2
 ·simp[h2]at h;omega
 by_cases i:p0=3
 ·simp[i]at h;omega
 by_cases j:p0=5
 ·simp[j]at h;omega
 simp[h1,h2,i,j]at h
theorem KD.step {ps} (h:KD ps) k (hk:k+1<ps.length):
  (ps.getD k (0,0)).1< (ps.getD (k+1) (0,0)).1/\(ps.getD k (0,0)).2< (ps.getD (k+1) (0,0)).2:=by
 have i:=h.2.2 (k+1) hk
 simp only[ZJ,BS]at i
 split at i
 ·cases i
 rename_i j
 split at i
 ·cases i
 rename_i u
 exact⟨by omega,We (by simpa using j)⟩
theorem KD.sorted {ps:List (Int×Int)} (h:KD ps) (i:Nat): ∀d,i+d+1<ps.length->(ps.getD i (0,0)).1< (ps.getD (i+d+1) (0,0)).1
 |0,hd=>(h.step i hd).1
 |d+1,hd=>by
  have h1:=KD.sorted h i d (by omega);have h2:=(h.step (i+d+1) hd).1;have e:i+ (d+1)+1=i+d+1+1:=by omega
  rw[e];omega
theorem KD.zero {ps} (h:KD ps):(ps.getD 0 (0,0))=(0,1):=by
 have i:=h.2.2 0 h.1
 simp only[ZJ]at i
 split at i
 ·assumption
 cases i
theorem Ma (ps:List (Int×Int)) (now:Int) (h0:(ps.getD 0 (0,0)).1<=now): ∀m,0<m->m<=ps.length->
  ∃k,k<m/\(ps.getD k (0,0)).1<=now/\(∀j,k<j->j<m->now< (ps.getD j (0,0)).1)/\
   phAt ps now m=((ps.getD k (0,0)).2,if k+1<ps.length then(ps.getD (k+1) (0,0)).1 else -1)
 |0,h,_=>absurd h (by omega)
 |m+1,_,hm=>by
  by_cases hc:(ps.getD m (0,0)).1<=now\/m=0
  ·refine⟨m,by omega, ?_,fun j h1 h2=>by omega,by simp only[phAt];rw[Q5 hc]⟩
   rcases hc with h|h
   ·exact h
   rw[h];exact h0
  obtain⟨k,hk,h1,h2,h3⟩:=Ma ps now h0 m (by omega) (by omega);refine⟨k,by omega,h1,fun j hj1 hj2=> ?_,by simp only[phAt];rw[Q3 hc];exact h3⟩;rcases ED j m with h|h
  ·exact h2 j hj1 h
  have:j=m:=by omega
  subst this;omega
def SV (ps:List (Int×Int)) (f pl:Int):Prop:=
 (ps.length=0/\f=8/\pl= -1)\/(20<ps.length/\f=4/\pl= -1)\/
 (0<ps.length/\ps.length<=20/\ ∃i:Nat,i<ps.length/\(∀j,j<i->ZJ ps j=0)/\ZJ ps i≠0/\f=ZJ ps i/\pl=i)\/
 (0<ps.length/\ps.length<=20/\(∀j,j<ps.length->ZJ ps j=0)/\f=0/\pl= -1)
