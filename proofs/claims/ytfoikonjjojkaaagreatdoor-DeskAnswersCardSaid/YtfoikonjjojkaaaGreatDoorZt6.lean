/- Parts. -/
import Derived.Test.YtfoikonjjojkaaaGreatDoorZt4
set_option linter.unusedVariables false
set_option maxRecDepth 100000
set_option maxHeartbeats 8000000
open Go.Proofs.Tryz
open Go.Value renaming int→I,pointer→IP
open Go.IntKind renaming i64→O
namespace Go.Proofs.YtfoikonjjojkaaaGreatDoor
open Go.RowKit
section
variable {α:Type} {g:Nat} {lb:Array Value} {sf:Nat} {sb:Array Value} {blk n:Nat} {r:α->Int} {St:World->List (α×Nat)->Prop}
theorem Qd9{A L B:List α}{i j}(u:A.length+j=i)(y:j<L.length)(h:i<(A++(L++B)).length):(A++(L++B))[i]=L[j]:=by subst u;rw[List.getElem_append_right Q0,List.getElem_append_left Q0];simp
theorem Cz{A L R B:List α}{i j}(u:A.length+L.length+j=i)(y:j<R.length)(h:i<(A++(L++(R++B))).length):(A++(L++(R++B)))[i]=R[j]:=by
 subst u;rw[List.getElem_append_right Q0,List.getElem_append_right Q0,List.getElem_append_left Q0]
 congr 1
 omega
theorem Xm9{L R S1 S2 i1 i2}(h:VP r L R)(h1:i1<=L.length)(h2:i2<=R.length)(c1:∀x y,0<i1->L[i1-1]?=some x->R[i2]?=some y->JD r x y)(c2:∀x y,0<i2->R[i2-1]?=some x->L[i1]?=some y->JD r x y)(J:S1.Perm (L.take i1++R.take i2)) (Z:G8 r S1) (N:S2.Perm (L.drop i1++R.drop i2)) (s2:G8 r S2):(S1++S2).Perm (L++R)/\G8 r (S1++S2):=by
 have C:VP r (L.take i1++L.drop i1) (R.take i2++R.drop i2):=by rw[P9,P9];exact h
 have k:=C.joins (S1:=S1) (S2:=S2) (fun D j=>by
  have u:(L.take i1).length=i1:=by rw[R7];omega
  have E:i2<R.length:=by rw[UQ]at j;omega
  have i:0<i1:=Q0;refine c1 _ _ i ?_ ?_
  ·rw[MQ];simp only[u];exact JY Q0
  ·rw[Xj];exact JY Q0) (fun D j=>by
  have u:(R.take i2).length=i2:=by rw[R7];omega
  have E:i1<L.length:=by rw[UQ]at j;omega
  have i:0<i2:=Q0;refine c2 _ _ i ?_ ?_
  ·rw[MQ];simp only[u];exact JY Q0
  rw[Xj];exact JY Q0) J Z N s2
 rw[P9,P9]at k;exact k
theorem Xi0(E:CE g lb sf sb blk n (fun x:α×Nat=>r x.1) St)w A x R B(a m b:Nat)(ha:A.length=a)(hm:a+1=m)(hb:m+R.length=b)(hM:VP r [x] R)(h:St w (A++(x:: (R++B)))) (hn:(A++(x:: (R++B))).length=n) (a8:n<=1000000):Calls prog 192 #[ZJ g lb sf sb,I O a,I O m,I O b] w fun e w'=>e=.returned (.tuple #[])/\(∃S,S.Perm ([x]++R)/\G8 r S/\St w' (A++(S++B)))/\X4 (fun k=>k=blk) w w':=by
 have a5:=E.lt _ _ h;have eg:=E.eg;have a7:=E.start h;have a9:A.length+(1+(R.length+B.length))=n:=by simp at hn;omega
 obtain⟨HE,b1,j,HM⟩:=Xt8 E a7 (And.intro ha (And.intro hb a9)) hM;have d0:a<=1000000:=Q0;have d1:b<=1000000:=Q0;have d2:m<=1000000:=Q0;obtain⟨c8,a1,y⟩:=Xt7 a8 a5 hm;have t1:((m:Int)-(a:Int) ==1)=true:=V4 Q0;clear E h a7 hn a9 ha hb a8 a5 hM hm;unfold ZJ;go_enter func192,ntmps192
 go_wp2_with fail
 clear t1
 go_loopg [8,9] R.length (fun gg s8 s9 wx=>∃p q,p<=q/\q<=R.length/\gg=q-p/\s8=I O ((m:Int)+(p:Int))/\s9=I O ((m:Int)+(q:Int))/\Hid ((∀(h2:q<R.length),¬r R[q].1<r x.1)/\(∀(h1:0<p)(h2:p-1<R.length),r R[p-1].1<r x.1))/\ZS St blk w wx (UB g lb sf sb) (A++(x:: (R++B))))
 case atStart=>exact⟨0,R.length,U9 _,X3 _,Q0,Q3,by rw[show(m:Int)+((R.length:Nat):Int)=(b:Int) by have:=j.out;omega],J6 ⟨fun h=>absurd h Q0,fun h=>absurd h Q0⟩,b1⟩
 obtain⟨p,q,d4,hq,rfl,rfl,rfl,D,i⟩:=hrel;have c9:R.length<=1000000:=by have:=j.out;omega
 by_cases a5:p<q
 ·have b8:(m:Int)+(p:Int)<(m:Int)+(q:Int):=by omega
  obtain⟨c0,c1⟩:=i.cells;go_upto_region 6 with fail
  have em:((m:Int)+(p:Int)+((m:Int)+(q:Int)))/2=(m:Int)+(((p+q)/2:Nat):Int):=Q0;have c5:p<=(p+q)/2:=Q0;have c6:(p+q)/2<q:=Q0;rw[em];generalize(p+q)/2=c at c5 c6|-;clear em;have b5:c<R.length:=Q0;have C:(A++(x:: (R++B))).length=n:=by have:=j.out;simp;omega
  have N:A++(x:: (R++B))=A++([x]++(R++B)):=rfl;have a4:m+c<(A++(x:: (R++B))).length:=by have:=j.out;have:=y.out;omega
  have a3:a<(A++(x:: (R++B))).length:=by have:=j.out;omega
  have Z:=HE.less wr _ (m+c) a i.st C a4 a3 (by have:=y.out;omega);have g1:(A++(x:: (R++B)))[m+c]=R[c]:=Cz (A:=A) (L:=[x]) (by have:=j.out;have:=y.out;simp;omega) b5 a4;have g0:(A++(x:: (R++B)))[a]=x:=Es j.1 a3;rw[g0,g1,show(((m+c:Nat):Int))=(m:Int)+(c:Int) by omega]at Z;obtain⟨v,hv⟩:=exq (decide (r R[c].1<r x.1));rw[hv]at Z;obtain⟨HS,HV⟩:=Xt6 i hv;clear i g0 g1 a4 a3 C N hv
  cases v with
  |true=>
   go_wp2_with (go_at_fn g;refine Z.mono ?_;rintro e w2⟨rfl,u,hk⟩)
   go_roundg (q-(c+1))
   case measure=>omega
   exact⟨c+1,q,Q0,hq,rfl,by rw[show(m:Int)+((c+1:Nat):Int)=(m:Int)+(c:Int)+1 by omega],rfl,J6 ⟨D.1,fun h1 h2=>by have h:=HV.out;simpa using h⟩,HS.step a1 u hk⟩
  |false=>
   go_wp2_with (go_at_fn g;refine Z.mono ?_;rintro e w2⟨rfl,u,hk⟩)
   go_roundg (c-p)
   case measure=>omega
   exact⟨p,c,Q0,Q0,rfl,rfl,rfl,J6 ⟨fun h2=>by have h:=HV.out;simpa using h,D.2⟩,HS.step a1 u hk⟩
 obtain rfl:p=q:=by omega
 have b8:¬(m:Int)+(p:Int)<(m:Int)+(p:Int):=Q0;obtain⟨HS,a6⟩:=Xt6 i (HM.one_l (q:=p) hq D.1 (fun h1=>D.2 h1 Q0));obtain⟨wo,rfl⟩:∃wo,wo=wr:=⟨_,rfl⟩;clear i;go_wp2_with fail
 go_loopg [11] p (fun gg c7 wx=>∃t,t<=p/\gg=p-t/\c7=I O ((a:Int)+(t:Int))/\ZS St blk w wx (UB g lb sf sb) (A++(R.take t++(x:: (R.drop t++B)))))
 case atStart=>exact⟨0,U9 _,rfl,Q3,by simpa using HS.out⟩
 obtain⟨t,ht,rfl,rfl,i⟩:=hrel;obtain⟨c0,c1⟩:=i.cells
 by_cases d3:t<p
 ·have b9:(a:Int)+(t:Int)<(m:Int)+(p:Int)-1:=by have:=y.out;omega
  have b0:t<R.length:=Q0;have et:R.drop t=R[t]::R.drop (t+1):=CZ b0;have ek:R.take (t+1)=R.take t++[R[t]]:=M9 b0;have u:=i.st;have N:A++(R.take t++(x:: (R.drop t++B)))=(A++R.take t)++(x::R[t]:: (R.drop (t+1)++B)):=by rw[et];simp only[List.append_assoc,List.cons_append]
  rw[N]at u;have a2:(A++R.take t).length=a+t:=by have:=j.out;simp;omega
  have C:((A++R.take t)++(x::R[t]:: (R.drop (t+1)++B))).length=n:=by have:=j.out;simp at a2|-;omega
  obtain⟨w2,hs,a0,hk⟩:=HE.swap wr _ (a+t) (a+t+1) u C (by have:=j.out;omega) (by have:=j.out;omega) Q0;rw[Jm3 _ _ _ _ a2]at a0;rw[show(((a+t:Nat):Int))=(a:Int)+(t:Int) by omega,show(((a+t+1:Nat):Int))=(a:Int)+(t:Int)+1 by omega]at hs;have e2:(A++R.take t)++(R[t]::x:: (R.drop (t+1)++B))=A++(R.take (t+1)++(x:: (R.drop (t+1)++B))):=by rw[ek];simp only[List.append_assoc,List.cons_append,List.nil_append]
  rw[e2]at a0;obtain⟨J,b2,HK⟩:=Xt7 i a0 hk;clear i u a0 hk N e2 et ek a2 C;go_wp2
  go_roundg (p-(t+1))
  case measure=>omega
  exact⟨t+1,Q0,rfl,by rw[show(a:Int)+((t+1:Nat):Int)=(a:Int)+(t:Int)+1 by omega],J.step a1 b2 HK⟩
 obtain rfl:t=p:=by omega
 have b9:¬(a:Int)+(t:Int)<(m:Int)+(t:Int)-1:=by have:=y.out;omega
 have J:=J6 i;clear i;go_wp2_with fail
 refine QA (YV rfl _ _ _) rfl ?_;exact⟨rfl,⟨_,a6.1,a6.2,by have h:=J.st;simpa only[List.append_assoc,List.cons_append]using h⟩,J.keep⟩
theorem Jy9(E:CE g lb sf sb blk n (fun x:α×Nat=>r x.1) St)w A L y B(a m b:Nat)(ha:A.length=a)(hm:a+L.length=m)(hb:m+1=b)(h1:2<=L.length)(hM:VP r L [y])(h:St w (A++(L++(y::B)))) (hn:(A++(L++(y::B))).length=n) (b0:n<=1000000):Calls prog 192 #[ZJ g lb sf sb,I O a,I O m,I O b] w fun e w'=>e=.returned (.tuple #[])/\(∃S,S.Perm (L++[y])/\G8 r S/\St w' (A++(S++B)))/\X4 (fun k=>k=blk) w w':=by
 have a7:=E.lt _ _ h;have eg:=E.eg;have a9:=E.start h;have b1:A.length+(L.length+(1+B.length))=n:=by simp at hn;omega
 obtain⟨HE,b5,D,HM⟩:=Xt8 E a9 (And.intro ha (And.intro hb b1)) hM;have d2:a<=1000000:=Q0;have d3:b<=1000000:=Q0;have d4:m<=1000000:=Q0;obtain⟨d0,a3,J⟩:=Xt7 b0 a7 hm;have t1:((m:Int)-(a:Int) ==1)=false:=Z3 Q0;have t2:((b:Int)-(m:Int) ==1)=true:=V4 Q0;clear E h a9 hn b1 ha hb b0 a7 hM hm h1;unfold ZJ;go_enter func192,ntmps192
 go_wp2_with fail
 clear t1 t2
 go_loopg [12,13] L.length (fun gg s8 s9 wx=>∃p q,p<=q/\q<=L.length/\gg=q-p/\s8=I O ((a:Int)+(p:Int))/\s9=I O ((a:Int)+(q:Int))/\Hid ((∀(h2:q<L.length),r y.1<r L[q].1)/\(∀(h1:0<p)(h2:p-1<L.length),¬r y.1<r L[p-1].1))/\ZS St blk w wx (UB g lb sf sb) (A++(L++(y::B))))
 case atStart=>exact⟨0,L.length,U9 _,X3 _,Q0,Q3,by rw[show(a:Int)+((L.length:Nat):Int)=(m:Int) by have:=J.out;omega],J6 ⟨fun h=>absurd h Q0,fun h=>absurd h Q0⟩,b5⟩
 obtain⟨p,q,d6,hq,rfl,rfl,rfl,HI,C⟩:=hrel;have d1:L.length<=1000000:=by have:=J.out;omega
 by_cases a7:p<q
 ·have c5:(a:Int)+(p:Int)<(a:Int)+(q:Int):=by omega
  obtain⟨c0,c1⟩:=C.cells;go_upto_region 18 with fail
  have em:((a:Int)+(p:Int)+((a:Int)+(q:Int)))/2=(a:Int)+(((p+q)/2:Nat):Int):=Q0;have c7:p<=(p+q)/2:=Q0;have c8:(p+q)/2<q:=Q0;rw[em];generalize(p+q)/2=c at c7 c8|-;clear em;have b9:c<L.length:=Q0;have Z:(A++(L++(y::B))).length=n:=by have:=D.out;simp;omega
  have a6:a+c<(A++(L++(y::B))).length:=by have:=D.out;have:=J.out;omega
  have a5:m<(A++(L++(y::B))).length:=by have:=D.out;have:=J.out;omega
  have a1:=HE.less wr _ m (a+c) C.st Z a5 a6 (by have:=J.out;omega);have g1:(A++(L++(y::B)))[a+c]=L[c]:=Qd9 (A:=A) (by have:=D.out;omega) b9 a6;have g0:(A++(L++(y::B)))[m]=y:=by have h:=Cz (A:=A) (L:=L) (R:=[y]) (B:=B) (i:=m) (j:=0) (by have:=D.out;have:=J.out;omega) Q3 a5;simpa using h
  rw[g0,g1,show(((a+c:Nat):Int))=(a:Int)+(c:Int) by omega]at a1;obtain⟨v,hv⟩:=exq (decide (r y.1<r L[c].1));rw[hv]at a1;obtain⟨HS,HV⟩:=Xt6 C hv;clear C g0 g1 a6 a5 Z hv
  cases v with
  |false=>
   go_wp2_with (go_at_fn g;refine a1.mono ?_;rintro e w2⟨rfl,N,hk⟩)
   go_roundg (q-(c+1))
   case measure=>omega
   exact⟨c+1,q,Q0,hq,rfl,by rw[show(a:Int)+((c+1:Nat):Int)=(a:Int)+(c:Int)+1 by omega],rfl,J6 ⟨HI.1,fun h1 h2=>by have h:=HV.out;simpa using h⟩,HS.step a3 N hk⟩
  |true=>
   go_wp2_with (go_at_fn g;refine a1.mono ?_;rintro e w2⟨rfl,N,hk⟩)
   go_roundg (c-p)
   case measure=>omega
   exact⟨p,c,Q0,Q0,rfl,rfl,rfl,J6 ⟨fun h2=>by have h:=HV.out;simpa using h,HI.2⟩,HS.step a3 N hk⟩
 obtain rfl:p=q:=by omega
 have c5:¬(a:Int)+(p:Int)<(a:Int)+(p:Int):=Q0;obtain⟨HS,a8⟩:=Xt6 C (HM.one_r (q:=p) hq HI.1 (fun h1=>HI.2 h1 Q0));obtain⟨wo,rfl⟩:∃wo,wo=wr:=⟨_,rfl⟩;clear C;go_wp2_with fail
 go_loopg [15] (L.length-p) (fun gg c9 wx=>∃u,p<=u/\u<=L.length/\gg=u-p/\c9=I O ((a:Int)+(u:Int))/\ZS St blk w wx (UB g lb sf sb) (A++(L.take u++(y:: (L.drop u++B)))))
 case atStart=>exact⟨L.length,hq,X3 _,rfl,by rw[show(a:Int)+((L.length:Nat):Int)=(m:Int) by have:=J.out;omega],by simpa using HS.out⟩
 obtain⟨u,d7,d8,rfl,rfl,C⟩:=hrel;obtain⟨c0,c1⟩:=C.cells
 by_cases d5:p<u
 ·have c6:(a:Int)+(p:Int)<(a:Int)+(u:Int):=by omega
  obtain⟨t,ht⟩:∃t,u=t+1:=⟨u-1,Q0⟩;have b2:t<L.length:=Q0;have et:L.drop t=L[t]::L.drop u:=by rw[ht];exact CZ b2
  have ek:L.take u=L.take t++[L[t]]:=by rw[ht];exact M9 b2
  have N:=C.st;have e1:A++(L.take u++(y:: (L.drop u++B)))=(A++L.take t)++(L[t]::y:: (L.drop u++B)):=by rw[ek];simp only[List.append_assoc,List.cons_append,List.nil_append]
  rw[e1]at N;have a4:(A++L.take t).length=a+t:=by have:=D.out;simp;omega
  have Z:((A++L.take t)++(L[t]::y:: (L.drop u++B))).length=n:=by have:=D.out;simp at a4|-;omega
  obtain⟨w2,hs,a2,hk⟩:=HE.swap wr _ (a+t+1) (a+t) N Z (by have:=D.out;have:=J.out;omega) (by have:=D.out;have:=J.out;omega) Q0;rw[Nv _ _ _ _ a4]at a2;rw[show(((a+t:Nat):Int))=(a:Int)+(u:Int)-1 by omega,show(((a+t+1:Nat):Int))=(a:Int)+(u:Int) by omega]at hs;have e2:(A++L.take t)++(y::L[t]:: (L.drop u++B))=A++(L.take t++(y:: (L.drop t++B))):=by rw[et];simp only[List.append_assoc,List.cons_append]
  rw[e2]at a2;obtain⟨a0,b8,HK,Ht⟩:=Xt8 C a2 hk ht;clear C N a2 hk e1 e2 et ek a4 Z ht;go_wp2
  go_roundg (t-p)
  case measure=>have:=Ht.out;omega
  exact⟨t,by have:=Ht.out;omega,Q0,rfl,by rw[show(a:Int)+(t:Int)=(a:Int)+(u:Int)-1 by have:=Ht.out;omega],a0.step a3 b8 HK⟩
 obtain rfl:p=u:=by omega
 have c6:¬(a:Int)+(p:Int)<(a:Int)+(p:Int):=Q0;have a0:=J6 C;clear C;go_wp2_with fail
 refine QA (YV rfl _ _ _) rfl ?_;exact⟨rfl,⟨_,a8.1,a8.2,by have h:=a0.st;simpa only[List.append_assoc,List.cons_append]using h⟩,a0.keep⟩
def Xn0(r:α->Int)(L R:List (α×Nat))(a m n0 lo s:Nat):Prop:=∀x y,lo<s->L[s-1-a]?=some x->R[n0-s-m]?=some y->JD r x y
def Xn1(r:α->Int)(L R:List (α×Nat))(a m n0 hi t:Nat):Prop:=∀x y,t<hi->R[n0-1-t-m]?=some x->L[t-a]?=some y->JD r x y
def Qe0(g:Nat)(lb:Array Value)(sf:Nat)(sb:Array Value)(blk n:Nat)(r:α->Int)(St:World->List (α×Nat)->Prop)(N:Nat):Prop:=
 ∀w A L R B(a m b:Nat),L.length+R.length<=N->A.length=a->a+L.length=m->m+R.length=b->0<L.length->0<R.length->VP r L R->St w (A++(L++(R++B)))->(A++(L++(R++B))).length=n->Calls prog 192 #[ZJ g lb sf sb,I O a,I O m,I O b] w fun e w'=>e=.returned (.tuple #[])/\(∃S,S.Perm (L++R)/\G8 r S/\St w' (A++(S++B)))/\X4 (fun k=>k=blk) w w'
theorem Xn2(E:CE g lb sf sb blk n (fun x:α×Nat=>r x.1) St)N(IH:Qe0 g lb sf sb blk n r St N)w A L R B(a m b:Nat)(hN:L.length+R.length<=N+1)(ha:A.length=a)(hm:a+L.length=m)(hb:m+R.length=b)(h1:2<=L.length)(h2:2<=R.length)(hM:VP r L R)(h:St w (A++(L++(R++B)))) (hn:(A++(L++(R++B))).length=n) (h3:n<=1000000):Calls prog 192 #[ZJ g lb sf sb,I O a,I O m,I O b] w fun e w'=>e=.returned (.tuple #[])/\(∃S,S.Perm (L++R)/\G8 r S/\St w' (A++(S++B)))/\X4 (fun k=>k=blk) w w':=by
 have e3:=E.lt _ _ h;have eg:=E.eg;have g4:=E.start h;have h4:A.length+(L.length+(R.length+B.length))=n:=by simpa using hn
 obtain⟨HE,e7,i9,u,HM⟩:=Xt9 E IH g4 (And.intro ha (And.intro hm (And.intro hb (And.intro h4 (And.intro h1 (And.intro h2 hN)))))) hM;have k8:a<=1000000:=Q0;have k9:b<=1000000:=Q0;have l1:m<=1000000:=Q0;obtain⟨i7,a5⟩:=Xt6 h3 e3;have t1:((m:Int)-(a:Int) ==1)=false:=Z3 Q0;have t2:((b:Int)-(m:Int) ==1)=false:=Z3 Q0;clear E IH h g4 hn h4 ha hb h3 e3 hM hm h1 h2 hN;unfold ZJ;go_enter func192,ntmps192
 go_upto_region 26 with fail
 clear t1 t2;obtain⟨mid,g9⟩:∃mid,(a+b)/2=mid:=⟨_,rfl⟩;have em:((a:Int)+(b:Int))/2=(mid:Int):=Q0;rw[em];have b9:=J6 g9;obtain⟨n0,h0⟩:∃n0,mid+m=n0:=⟨_,rfl⟩;have a2:=J6 h0;have l5:mid<=1000000:=Q0;have en:(mid:Int)+(m:Int)=(n0:Int):=Q0;clear em g9 h0;obtain⟨w1,i0⟩:=exq (w.alloc (.cells (UB g lb sf sb) 189));go_upto_if 106 with fail
 obtain⟨lo,c7⟩:∃lo,(if mid<m then n0-b else a)=lo:=⟨_,rfl⟩;obtain⟨hi,c5⟩:∃hi,(if mid<m then mid else m)=hi:=⟨_,rfl⟩;have a0:Hid (a<=lo/\lo<=hi/\hi<=m/\hi<=mid/\n0<=lo+b/\(lo=a\/n0=lo+b)/\(hi=mid\/hi=m)):=J6 (by
  have q1:=u.out;have q2:=b9.out;have q3:=a2.out
  by_cases J:mid<m
  ·rw[X0 J]at c7 c5;omega
  rw[J8 J]at c7 c5;omega)
 have f8:=i9;rw[i0]at f8;obtain⟨g2,f9⟩:=Xt6 c7 c5;clear c7 c5 i0
 go_cut [18,19] (fun e5 e6 wx=>e5=I O lo/\e6=I O hi/\wx=w1)
 case first=>
  by_cases J:mid<m
  ·have j5:(mid:Int)<(m:Int):=by omega
   have e1:(n0:Int)-(b:Int)=(lo:Int):=by have:=g2.out;rw[X0 J]at this;have:=u.out;have:=b9.out;have:=a2.out;omega
   have e2:hi=mid:=by have:=f9.out;rw[X0 J]at this;omega
   have d3:=J6 e2;clear J e2;go_wp2;go_meet;exact⟨rfl,by rw[d3.out],rfl⟩
  have j5:¬(mid:Int)<(m:Int):=by omega
  have e1:lo=a:=by have:=g2.out;rw[J8 J]at this;omega
  have e2:hi=m:=by have:=f9.out;rw[J8 J]at this;omega
  obtain⟨j4,d3⟩:=Xt6 e1 e2;clear J e1 e2;go_wp2;go_meet;exact⟨by rw[j4.out],by rw[d3.out],rfl⟩
 obtain⟨rfl,rfl,rfl⟩:=hcut;obtain⟨w1,rfl⟩:∃w1,w1=wc:=⟨_,rfl⟩;have l4:lo<=1000000:=by have:=a0.out;omega
 have l3:hi<=1000000:=by have:=a0.out;omega
 have k4:1<=n0/\n0<=2000000:=by have:=u.out;have:=a2.out;omega
 obtain⟨l6,l7⟩:=k4;go_wp2_with fail
 clear en
 go_loopg [18,19] (hi-lo) (fun gg e5 e6 wx=>∃s t,lo<=s/\s<=t/\t<=hi/\gg=t-s/\e5=I O s/\e6=I O t/\Hid (Xn0 r L R a m n0 lo s/\Xn1 r L R a m n0 hi t)/\ZS St blk w wx (UB g lb sf sb) (A++(L++(R++B))))
 case atStart=>exact⟨lo,hi,X3 _,a0.2.1,X3 _,rfl,rfl,rfl,J6 ⟨fun x y h=>absurd h Q0,fun x y h=>absurd h Q0⟩,f8⟩
 obtain⟨s,t,j8,a1,k5,rfl,rfl,rfl,HI,hS⟩:=hrel
 by_cases e3:s<t
 ·have j9:(s:Int)<(t:Int):=by omega
  obtain⟨c0,c1⟩:=hS.cells;go_upto_region 36 with fail
  have em:((s:Int)+(t:Int))/2=(((s+t)/2:Nat):Int):=Q0;have k0:s<=(s+t)/2:=Q0;have k3:(s+t)/2<t:=Q0;rw[em];generalize(s+t)/2=c at k0 k3|-;clear em;obtain⟨f1,f2,f3,f4,f5,f6⟩:c-a<L.length/\n0-1-c-m<R.length/\m<=n0-1-c/\a<=c/\c+1<=n0/\n0-1-c<b:=by have q1:=u.out;have q2:=a2.out;have q3:=a0.out;omega
  have g8:(A++(L++(R++B))).length=n:=by have:=u.out;simp;omega
  have b0:n0-1-c<(A++(L++(R++B))).length:=by have:=u.out;omega
  have d8:c<(A++(L++(R++B))).length:=by have:=u.out;omega
  have c6:=HE.less wr _ (n0-1-c) c hS.st g8 b0 d8 (by have:=a0.out;omega);have g1:(A++(L++(R++B)))[n0-1-c]=R[n0-1-c-m]:=Cz (A:=A) (L:=L) (by have:=u.out;omega) f2 b0;have g0:(A++(L++(R++B)))[c]=L[c-a]:=Qd9 (A:=A) (by have:=u.out;omega) f1 d8;rw[g0,g1,show(((n0-1-c:Nat):Int))=(n0:Int)-1-(c:Int) by omega]at c6;obtain⟨v,hv⟩:=exq (decide (r R[n0-1-c-m].1<r L[c-a].1));rw[hv]at c6;obtain⟨HS,HV,j3,HF⟩:=Xt8 hS hv (HM.tag _ (C7 f1) _ (C7 f2)) (And.intro f1 (And.intro f2 (And.intro f3 (And.intro f4 f5))));clear hS g0 g1 b0 d8 g8 hv f3 f4 f6;have f7:(0:Int)<=(n0:Int)-1-(c:Int):=Q0
  cases v with
  |false=>
   go_wp2_with (go_at_fn g;refine c6.mono ?_;rintro e w2⟨rfl,e4,hk⟩)
   go_roundg (t-(c+1))
   case measure=>omega
   refine⟨c+1,t,Q0,Q0,k5,rfl,J5,rfl,J6 ⟨fun x y h i j=>?_,HI.2⟩,HS.step a5 e4 hk⟩;rw[show c+1-1-a=c-a by omega,JY HF.1]at i;rw[show n0-(c+1)-m=n0-1-c-m by omega,JY HF.2.1]at j
   cases i
   cases j;exact JD.of_not (by have h:=HV.out;simpa using h) j3
  |true=>
   go_wp2_with (go_at_fn g;refine c6.mono ?_;rintro e w2⟨rfl,e4,hk⟩)
   go_roundg (c-s)
   case measure=>omega
   refine⟨s,c,j8,Q0,Q0,rfl,rfl,rfl,J6 ⟨HI.1,fun x y h i j=>?_⟩,HS.step a5 e4 hk⟩;rw[JY HF.2.1]at i;rw[JY HF.1]at j
   cases i
   cases j;exact .inl (by have h:=HV.out;simpa using h)
 obtain rfl:s=t:=by omega
 have j9:¬(s:Int)<(s:Int):=Q0;obtain⟨e,he⟩:∃e,n0=s+e:=⟨n0-s,by have:=a0.out;have:=a2.out;omega⟩;have j6:(n0:Int)-(s:Int)=(e:Int):=Q0;have l2:e<=1000000:=by have:=u.out;have:=a0.out;omega
 obtain⟨c8,HS⟩:=Xt6 he hS;obtain⟨wo,rfl⟩:∃wo,wo=wr:=⟨_,rfl⟩;clear hS he;go_upto_region 40 with fail
 obtain⟨i1,b0⟩:=exq (s-a);obtain⟨i2,j7⟩:=exq (e-m);have C:Hid (s=a+i1/\e=m+i2/\mid=a+i1+i2/\i1<=L.length/\i2<=R.length):=J6 (by have q1:=u.out;have q2:=a2.out;have q3:=a0.out;have q4:=c8.out;omega)
 have i3:Hid (∀x y,0<i1->L[i1-1]?=some x->R[i2]?=some y->JD r x y):=J6 (fun x y h i j=>by
  have q1:=u.out;have q2:=a2.out;have q3:=a0.out;have q4:=c8.out;have q5:=C.out;have q6:i2<R.length:=by
   obtain h|h:=FT i2 R.length
   ·exact h
   rw[GL h]at j;cases j
  exact HI.1 x y Q0 (by rw[show s-1-a=i1-1 by omega];exact i) (by rw[show n0-s-m=i2 by omega];exact j))
 have i4:Hid (∀x y,0<i2->R[i2-1]?=some x->L[i1]?=some y->JD r x y):=J6 (fun x y h i j=>by
  have q1:=u.out;have q2:=a2.out;have q3:=a0.out;have q4:=c8.out;have q5:=C.out;have q6:i1<L.length:=by
   obtain h|h:=FT i1 L.length
   ·exact h
   rw[GL h]at j;cases j
  exact HI.2 x y Q0 (by rw[show n0-1-s-m=i2-1 by omega];exact i) (by rw[show s-a=i1 by omega];exact j))
 have a8:Hid (ZS St blk w wo (UB g lb sf sb) ((A++L.take i1)++(L.drop i1++(R.take i2++(R.drop i2++B))))):=J6 (by have h:=HS.out;have e1:L=L.take i1++L.drop i1:=(P9 _ _).symm;have e2:R=R.take i2++R.drop i2:=(P9 _ _).symm;rw[e1,e2]at h;simpa only[List.append_assoc]using h)
 have D:Hid ((L.take i1).length=i1/\(L.drop i1).length=m-s/\(R.take i2).length=i2/\(R.drop i2).length=b-e):=J6 (by have q1:=u.out;have q5:=C.out;simp only[List.length_take,List.length_drop];omega)
 have g3:VP r (L.take i1) (R.take i2)/\VP r (L.drop i1) (R.drop i2):=VP.parts (by rw[P9,P9];exact HM);obtain⟨a3,e9⟩:=Xt6 g3 (fun S1 S2=>Xm9 (S1:=S1) (S2:=S2) HM C.2.2.2.1 C.2.2.2.2 i3 i4);clear b0 j7 g3 HI j6;obtain⟨L1,d4⟩:=exq (L.take i1);obtain⟨L2,d5⟩:=exq (L.drop i1);obtain⟨R1,d6⟩:=exq (R.take i2);obtain⟨R2,d7⟩:=exq (R.drop i2);rw[d4,d5,d6,d7]at a8 D a3;rw[d4,d5,d6,d7]at e9;clear d4 d5 d6 d7;obtain⟨rb,h8⟩:=exq (decide (s<m) &&decide (m<e));have a7:=J6 h8;clear h8
 go_cut [145] (fun k6 wx=>k6=.bool rb/\wx=wo)
 case first=>
  by_cases i:s<m
  ·have d1:decide (s<m)=true:=V7 Q0
   by_cases j:m<e
   ·have d2:decide (m<e)=true:=V7 Q0
    have Z:=J6 (show true=rb by rw[<-a7.out,V7 i,V7 j];rfl);clear i j;go_wp2;go_meet;exact⟨by rw[Z.out],rfl⟩
   have d2:decide (m<e)=false:=V9 Q0;have Z:=J6 (show false=rb by rw[<-a7.out,V7 i,V9 j];rfl);clear i j;go_wp2;go_meet;exact⟨by rw[Z.out],rfl⟩
  have d1:decide (s<m)=false:=V9 Q0;have Z:=J6 (show false=rb by rw[<-a7.out,V9 i];rfl);clear i;go_wp2;go_meet;exact⟨by rw[Z.out],rfl⟩
 obtain⟨rfl,rfl⟩:=hcut;obtain⟨w2,rfl⟩:∃w2,w2=wc:=⟨_,rfl⟩;go_upto_if 145 with fail
 go_cut [150] (fun l8 wx=>ZS St blk w wx (UB g lb sf sb) (A++(L1++(R1++(L2++(R2++B))))))
 case first=>
  cases rb with
  |false=>
   go_wp2;go_meet;have h:=a8.out;have q:=a7.out;have ql:=D.out;have b1:L2=[]\/R1=[]:=by
    by_cases i:s<m
    ·rw[V7 i]at q
     have j:¬m<e:=by simpa using q
     exact .inr (EB (by have:=C.out;omega))
    exact .inl (EB Q0)
   obtain rfl|rfl:=b1
   ·simpa only[List.append_assoc,List.nil_append]using h
   simpa only[List.append_assoc,List.nil_append]using h
  |true=>
   obtain⟨c0,c1⟩:=a8.cells;have d9:s<m/\m<e:=by have q:=a7.out;simpa using q
   have J:=Jb8 HE w2 (A++L1) L2 R1 (R2++B) s m e (by have:=u.out;have:=C.out;have:=D.out;simp;omega) (by have:=u.out;have:=C.out;have:=D.out;simp;omega) (by have:=u.out;have:=C.out;have:=D.out;omega) (by have:=D.out;omega) (by have:=D.out;have:=C.out;omega) a8.st (by have:=u.out;have:=C.out;have:=D.out;simp;omega) i7;have HC:=J6 J;clear J d9;unfold ZJ at HC;go_wp2_with fail
   refine HC.mono ?_;rintro e w3⟨rfl,a1,hk⟩;obtain⟨a9,HK⟩:=Xt6 a1 hk;clear a1 hk;go_wp2;go_meet;exact a8.step a5 (by have h:=a9.out;simpa only[List.append_assoc]using h) HK
 have b5:=J6 hcut;obtain⟨w4,rfl⟩:∃w4,w4=wc:=⟨_,rfl⟩;clear hcut;go_upto_region 42 with fail
 obtain⟨ra,h7⟩:=exq (decide (a<s) &&decide (s<mid));have a6:=J6 h7;clear h7
 go_cut [158] (fun k7 wx=>k7=.bool ra/\wx=w4)
 case first=>
  by_cases i:a<s
  ·have d1:decide (a<s)=true:=V7 Q0
   by_cases j:s<mid
   ·have d2:decide (s<mid)=true:=V7 Q0
    have Z:=J6 (show true=ra by rw[<-a6.out,V7 i,V7 j];rfl);clear i j;go_wp2;go_meet;exact⟨by rw[Z.out],rfl⟩
   have d2:decide (s<mid)=false:=V9 Q0;have Z:=J6 (show false=ra by rw[<-a6.out,V7 i,V9 j];rfl);clear i j;go_wp2;go_meet;exact⟨by rw[Z.out],rfl⟩
  have d1:decide (a<s)=false:=V9 Q0;have Z:=J6 (show false=ra by rw[<-a6.out,V9 i];rfl);clear i;go_wp2;go_meet;exact⟨by rw[Z.out],rfl⟩
 obtain⟨rfl,rfl⟩:=hcut;obtain⟨w4,rfl⟩:∃w4,w4=wc:=⟨_,rfl⟩;go_upto_if 158 with fail
 go_cut [163] (fun l9 wx=>∃S1,S1.Perm (L1++R1)/\G8 r S1/\ZS St blk w wx (UB g lb sf sb) (A++(S1++(L2++(R2++B)))))
 case first=>
  cases ra with
  |false=>
   go_wp2;go_meet;have h:=b5.out;have q:=a6.out;have ql:=D.out;have b1:L1=[]\/R1=[]:=by
    by_cases i:a<s
    ·rw[V7 i]at q
     have j:¬s<mid:=by simpa using q
     exact .inr (EB (by have:=C.out;omega))
    exact .inl (EB (by have:=C.out;omega))
   obtain rfl|rfl:=b1
   ·exact⟨R1,Q3,a3.1.r,by simpa only[List.append_assoc,List.nil_append]using h⟩
   exact⟨L1,Q3,a3.1.l,by simpa only[List.append_assoc,List.nil_append]using h⟩
  |true=>
   obtain⟨c0,c1⟩:=b5.cells;have d9:a<s/\s<mid:=by have q:=a6.out;simpa using q
   have J:=e7.out w4 A L1 R1 (L2++(R2++B)) a s mid (by have:=b9.out;have:=u.out;have:=C.out;have:=D.out;omega) u.1 (by have:=C.out;have:=D.out;omega) (by have:=C.out;have:=D.out;omega) (by have:=C.out;have:=D.out;omega) (by have:=C.out;have:=D.out;omega) a3.1 b5.st (by have:=u.out;have:=C.out;have:=D.out;simp;omega);have HC:=J6 J;clear J d9;unfold ZJ at HC;go_wp2_with fail
   refine HC.mono ?_;rintro e w3⟨rfl,⟨S1,a4,b2,a1⟩,hk⟩;obtain⟨a9,HK,d0,j0⟩:=Xt8 a1 hk a4 b2;clear a1 hk a4 b2;go_wp2;go_meet;exact⟨S1,d0,j0,b5.step a5 a9 HK⟩
 obtain⟨S1,a4,b2,g5⟩:=hcut;obtain⟨d0,j2,b8⟩:=Xt7 a4 b2 g5;obtain⟨w5,rfl⟩:∃w5,w5=wc:=⟨_,rfl⟩;have g7:=a4.length_eq;have e8:=J6 g7;clear a4 b2 g5 g7;have h5:(¬mid<e\/¬e<b)->(∃S2,S2.Perm (L2++R2)/\G8 r S2/\ZS St blk w w5 (UB g lb sf sb) (A++(S1++(S2++B)))):=fun hh=>by
  have h:=b8.out;have ql:=D.out;have qx:=C.out;have b1:L2=[]\/R2=[]:=by
   obtain i|i:=hh
   ·exact .inl (EB Q0)
   exact .inr (EB Q0)
  obtain rfl|rfl:=b1
  ·exact⟨R2,Q3,a3.2.r,by simpa only[List.append_assoc,List.nil_append]using h⟩
  exact⟨L2,Q3,a3.2.l,by simpa only[List.append_assoc,List.nil_append]using h⟩
 have g6:∀S2 wx,S2.Perm (L2++R2)->G8 r S2->ZS St blk w wx (UB g lb sf sb) (A++(S1++(S2++B)))->(∃S,S.Perm (L++R)/\G8 r S/\St wx (A++(S++B)))/\X4 (fun k=>k=blk) w wx:=fun S2 wx hp hs hS=>by obtain⟨i,j⟩:=e9.out S1 S2 d0 j2 hp hs;exact⟨⟨S1++S2,i,j,by have h:=hS.st;simpa only[List.append_assoc]using h⟩,hS.keep⟩
 obtain⟨f0,c9⟩:=Xt6 h5 g6;clear h5 g6
 by_cases i:mid<e
 ·have d1:decide (mid<e)=true:=V7 Q0
  by_cases j:e<b
  ·have d2:decide (e<b)=true:=V7 Q0
   obtain⟨c0,c1⟩:=b8.cells;have J:=e7.out w5 (A++S1) L2 R2 B mid e b (by have:=b9.out;have:=u.out;have:=C.out;have:=D.out;omega) (by have:=u.out;have:=C.out;have:=D.out;have:=e8.out;simp at*;omega) (by have:=C.out;have:=D.out;have:=u.out;omega) (by have:=C.out;have:=D.out;have:=u.out;omega) (by have:=C.out;have:=D.out;have:=u.out;omega) (by have:=C.out;have:=D.out;omega) a3.2 (by have h:=b8.st;simpa only[List.append_assoc]using h) (by have:=u.out;have:=C.out;have:=D.out;have:=e8.out;simp at*;omega);have HC:=J6 J;clear J i j;unfold ZJ at HC;go_wp2_with fail
   refine HC.mono ?_;rintro e w3⟨rfl,⟨S2,h6,h9,a1⟩,hk⟩;obtain⟨a9,HK,i8,j1⟩:=Xt8 a1 hk h6 h9;clear a1 hk h6 h9;go_wp2_with fail
   go_end0
   exact⟨rfl,c9 S2 _ i8 j1 (b8.step a5 (by have h:=a9.out;simpa only[List.append_assoc]using h) HK)⟩
  have d2:decide (e<b)=false:=V9 Q0;have i6:=J6 j;clear i j;go_wp2_with fail
  go_end0
  obtain⟨S2,q1,q2,q3⟩:=f0.out (.inr i6);exact⟨rfl,c9 S2 _ q1 q2 q3⟩
 have d1:decide (mid<e)=false:=V9 Q0;have i5:=J6 i;clear i;go_wp2_with fail
 go_end0
 obtain⟨S2,q1,q2,q3⟩:=f0.out (.inl i5);exact⟨rfl,c9 S2 _ q1 q2 q3⟩
theorem Qq6(E:CE g lb sf sb blk n (fun x:α×Nat=>r x.1) St)(J:n<=1000000):∀N,Qe0 g lb sf sb blk n r St N:=by
 intro N
 induction N with
 |zero=>intro w A L R B a m b Z _ _ _ h1 h2;omega
 |succ N ih=>
  intro w A L R B a m b Z j C u h1 h2 i h D
  by_cases c1:L.length=1
  ·obtain⟨x,rfl⟩:=List.length_eq_one_iff.1 c1
   exact Xi0 E w A x R B a m b j C u i h D J
  by_cases c2:R.length=1
  ·obtain⟨y,rfl⟩:=List.length_eq_one_iff.1 c2
   exact Jy9 E w A L y B a m b j C u Q0 i h D J
  exact Xn2 E N ih w A L R B a m b Z j C u Q0 Q0 i h D J
