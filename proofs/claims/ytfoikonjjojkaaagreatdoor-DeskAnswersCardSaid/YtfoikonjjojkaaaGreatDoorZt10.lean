/- Parts. -/
import Derived.Test.YtfoikonjjojkaaaGreatDoorZt6
import Derived.Test.YtfoikonjjojkaaaGreatDoorZt9
set_option linter.unusedVariables false
set_option maxRecDepth 100000
set_option maxHeartbeats 8000000
open Go.Proofs.Tryz
open Go.Value renaming int→I,pointer→IP
open Go.IntKind renaming i64→O
namespace Go.Proofs.YtfoikonjjojkaaaGreatDoor
open Go.RowKit
section
variable {α:Type} {g:Nat} {lb:Array Value} {sf:Nat} {sb:Array Value} {blk n:Nat} {r:α->Int} {St:World->List (α×Nat)->Prop}
def PP(T:List (α×Nat)):Prop:=T.Pairwise fun x y=>x.2<y.2
theorem PP.tag{X Y:List (α×Nat)}(h:PP (X++Y)):YH X Y:=fun x i y j=>(DZ.1 h).2.2 x i y j
structure Jl(r:α->Int)(T0:List (α×Nat))(a:Nat)(P:List (α×Nat)):Prop where
 len:P.length=a
 le:a<=T0.length
 perm:P.Perm (T0.take a)
 ahead:SK r 20 P
theorem Jl.step{T0 P S a}(h:Jl r T0 a P)(i:PP T0)(j:a+20<=T0.length)(hp:S.Perm ((T0.drop a).take 20))(D:G8 r S):Jl r T0 (a+20) (P++S):=by
 have u:S.length=20:=by have:=hp.length_eq;simp at this;omega
 have e:T0.take (a+20)=T0.take a++(T0.drop a).take 20:=by rw[List.take_add]
 refine⟨by have:=h.len;simp;omega,j,by rw[e];exact h.perm.append hp,h.ahead.snoc u D ?_⟩;have C:PP (T0.take a++T0.drop a):=by rw[P9];exact i
 exact YH.perm (X:=T0.take a) (Y:=(T0.drop a).take 20) (fun x E y J=>C.tag x E y (CV J)) h.perm hp
theorem Jl.ends{T0 P S a}(h:Jl r T0 a P)(i:PP T0)(C:T0.length<a+20)(hp:S.Perm (T0.drop a))(y:G8 r S):(P++S).Perm T0/\YN r 20 (P++S):=by
 have j:S.length<=20:=by have:=hp.length_eq;simp at this;omega
 refine⟨?_,h.ahead.ends j y ?_⟩
 ·have:=h.perm.append hp
  rwa [P9]at this
 have u:PP (T0.take a++T0.drop a):=by rw[P9];exact i
 exact YH.perm u.tag h.perm hp
structure Mgs(r:α->Int)(T0:List (α×Nat))(bs a:Nat)(P Q:List (α×Nat)):Prop where
 len:P.length=a
 perm:(P++Q).Perm T0
 ahead:SK r (2*bs) P
 chk:YN r bs Q
 tag:YH P Q
theorem Pd(E:CE g lb sf sb blk n (fun x:α×Nat=>r x.1) St)(d0:n<=1000000)w C(hT:PP C)(h:St w C)(hn:C.length=n):Calls prog 132 #[ZJ g lb sf sb,I O n] w fun e w'=>e=.returned (.tuple #[])/\(∃T,T.Perm C/\G8 r T/\St w' T)/\X4 (fun k=>k=blk) w w':=by
 have N:=E.lt _ _ h;have eg:=E.eg;have c6:=E.start h;obtain⟨HE,d5,HL,HT,b9,a7,c5⟩:=Xu1 E c6 hn hT d0 N (Qq6 E d0);clear E h c6 hn N hT;unfold ZJ;go_enter func132,ntmps132
 go_wp2_with fail
 go_loopg [5,6] n (fun gg s5 s6 wx=>∃a P,gg=n-a/\s5=I O a/\s6=I O ((a:Int)+20)/\Hid (Jl r C a P)/\ZS St blk w wx (UB g lb sf sb) (P++C.drop a))
 case atStart=>exact⟨0,[],rfl,rfl,Q3,J6 ⟨rfl,U9 _,Q3,Rn 20⟩,by simpa using d5.out⟩
 obtain⟨a,P,rfl,rfl,rfl,Z,u⟩:=hrel;have ha:a<=n:=by have:=Z.le;have:=HL.out;omega
 obtain⟨c0,c1⟩:=u.cells
 by_cases N:a+20<=n
 ·have b8:(a:Int)+20<=(n:Int):=by omega
  have ed:C.drop a=(C.drop a).take 20++C.drop (a+20):=by
   have:=(P9 20 (C.drop a)).symm
   rwa [Xr]at this
  have j:=u.st;rw[ed]at j;have J:=Hb HE wr P ((C.drop a).take 20) (C.drop (a+20)) a (a+20) Z.len (by have:=Z.len;have:=HL.out;simp;omega) ((An (Vi a C) HT).sublist (List.take_sublist _ _)) j (by have:=Z.len;have:=HL.out;simp;omega) b9;rw[show(((a+20:Nat):Int))=(a:Int)+20 by omega]at J;obtain⟨HC,HS⟩:=Xt6 J u;clear J u j ed;unfold ZJ at HC;go_wp2_with fail
  refine HC.mono ?_;rintro e w2⟨rfl,⟨S,hp,D,j⟩,hk⟩;obtain⟨HP,d8,a3,HK⟩:=Xt8 hp D j hk;clear hp D j hk;go_wp2
  go_roundg (n-(a+20))
  case measure=>omega
  exact⟨a+20,P++S,rfl,J5,by rw[show(((a+20:Nat):Int))=(a:Int)+20 by omega],J6 (Z.step HT (by have:=HL.out;omega) HP d8),HS.step a7 (by have h:=a3.out;simpa only[List.append_assoc]using h) HK⟩
 have b8:¬(a:Int)+20<=(n:Int):=by omega
 have J:=Hb HE wr P (C.drop a) [] a n Z.len (by have:=Z.len;have:=Z.le;have:=HL.out;simp;omega) (An (Vi a C) HT) (by simpa using u.st) (by have:=Z.len;have:=Z.le;have:=HL.out;simp;omega) b9;obtain⟨HC,HS,d3⟩:=Xt7 J u N;clear J u N;unfold ZJ at HC;go_wp2_with fail
 refine HC.mono ?_;rintro e w2⟨rfl,⟨S,hp,D,j⟩,hk⟩;obtain⟨d1,c8⟩:=Z.ends HT (by have:=HL.out;have:=d3.out;omega) hp D;obtain⟨d6,d4,d2⟩:=Xt7 (HS.step (l':=P++S) a7 (by simpa using j) hk) d1 c8;clear hp D j hk d1 c8 c0 c1;go_wp2_with fail
 go_loopg [4] (n-20) (fun gg s4 wx=>∃bs T,20<=bs/\bs<=2000000/\gg=n-bs/\s4=I O bs/\Hid (T.Perm C/\YN r bs T)/\ZS St blk w wx (UB g lb sf sb) T)
 case atStart=>exact⟨20,P++S,X3 _,Q0,rfl,rfl,J6 ⟨d4,d2⟩,d6⟩
 obtain⟨bs,T,e5,e6,rfl,rfl,a2,u⟩:=hrel;have c7:T.length=n:=by have:=a2.1.length_eq;have:=HL.out;omega
 have d9:=J6 c7;clear c7
 by_cases N:bs<n
 ·have b8:(bs:Int)<(n:Int):=by omega
  obtain⟨d7,a6⟩:=Xt6 u N;obtain⟨wo,rfl⟩:∃wo,wo=wr:=⟨_,rfl⟩;have e7:bs<=1000000:=Q0;clear u N;go_wp2_with fail
  go_loopg [5,6] (n-0) (fun gg s5 s6 wx=>∃a P Q,a<=n/\gg=n-a/\s5=I O a/\s6=I O ((a:Int)+2*(bs:Int))/\Hid (Mgs r C bs a P Q)/\ZS St blk w wx (UB g lb sf sb) (P++Q))
  case atStart=>exact⟨0,[],T,U9 _,rfl,rfl,by rw[show(((0:Nat):Int))+2*(bs:Int)=2*(bs:Int) by omega],J6 ⟨rfl,a2.1,Rn _,a2.2,fun x hx=>by cases hx⟩,d7⟩
  obtain⟨a,P,Q,e4,rfl,rfl,rfl,i,u⟩:=hrel;obtain⟨c0,c1⟩:=u.cells;have c9:P.length+Q.length=n:=by have h1:=i.perm.length_eq;have h2:=HL.out;rw[B6]at h1;omega
  have a0:=J6 c9;clear c9
  by_cases N:a+2*bs<=n
  ·have e2:(a:Int)+2*(bs:Int)<=(n:Int):=by omega
   obtain⟨L,R,Q',hQ,b2,b5,a5,b0,a8⟩:=i.chk.two (by have:=i.len;have:=a0.out;omega);have a9:R.length=bs:=by have:=i.len;have:=a0.out;omega
   have j:=u.st;rw[hQ]at j;have J:=c5.out (L.length+R.length) wr P L R Q' a (a+bs) (a+2*bs) Q2 i.len Q0 Q0 Q0 Q0 a5 j (by rw[<-hQ,B6];exact a0);rw[show(((a+bs:Nat):Int))=(a:Int)+(bs:Int) by omega,show(((a+2*bs:Nat):Int))=(a:Int)+2*(bs:Int) by omega]at J;have a1:∀S,S.Perm (L++R)->G8 r S->Mgs r C bs (a+2*bs) (P++S) Q':=fun S hp D=>by
    have h0:=i.tag;have h1:=i.perm;have h2:=i.len;rw[hQ]at h0 h1;refine⟨by have:=hp.length_eq;simp at this|-;omega,?_,i.ahead.snoc (by have:=hp.length_eq;simp at this;omega) D (YH.perm (X:=P) (Y:=L++R) (fun x hx y hy=>h0 x hx y (by rw[<-VW];exact T9 _ hy)) (Xq _) hp),a8,fun x hx y hy=>?_⟩
    ·refine List.Perm.trans ?_ h1
     rw[VW];refine List.Perm.append_left _ ?_;rw[<-VW];exact List.Perm.append_right _ hp
    obtain hx|hx:=B8.1 hx
    ·exact h0 x hx y (by simp[hy])
    exact b0 x (hp.mem_iff.1 hx) y hy
   obtain⟨a4,HC,HS⟩:=Xt7 a1 J u;clear J u j a1 hQ b2 b5 a9 a5 b0 a8;unfold ZJ at HC;go_wp2_with fail
   refine HC.mono ?_;rintro e w2⟨rfl,⟨S,hp,D,j⟩,hk⟩;obtain⟨b1,a3,HK⟩:=Xt7 (a4 S hp D) j hk;clear hp D j hk;go_wp2
   go_roundg (n-(a+2*bs))
   case measure=>omega
   exact⟨a+2*bs,P++S,Q',N,rfl,by rw[show(((a+2*bs:Nat):Int))=(a:Int)+2*(bs:Int) by omega],by rw[show(((a+2*bs:Nat):Int))=(a:Int)+2*(bs:Int) by omega],b1,HS.step a7 (by have h:=a3.out;simpa only[List.append_assoc]using h) HK⟩
  have e2:¬(a:Int)+2*(bs:Int)<=(n:Int):=by omega
  by_cases hm:a+bs<n
  ·have e3:(a:Int)+(bs:Int)<(n:Int):=by omega
   obtain⟨L,R,Q',hQ,b2,b5,a5,b0,a8⟩:=i.chk.two (by have:=i.len;have:=a0.out;omega);have a9:a+bs+R.length=n:=by have:=i.len;have:=a0.out;omega
   have e1:Q'=[]:=EB (by have h:=C5 List.length hQ;have:=i.len;have:=a0.out;simp at h;omega);subst e1;have j:=u.st;rw[hQ]at j;have J:=c5.out (L.length+R.length) wr P L R [] a (a+bs) n Q2 i.len Q0 a9 Q0 Q0 a5 j (by rw[<-hQ,B6];exact a0);rw[show(((a+bs:Nat):Int))=(a:Int)+(bs:Int) by omega]at J;have a1:∀S,S.Perm (L++R)->G8 r S->(P++S).Perm C/\YN r (2*bs) (P++S):=fun S hp D=>by have h0:=i.tag;have h1:=i.perm;have h2:=i.len;have h3:=a0.out;rw[hQ,BF]at h0 h1;exact⟨(List.Perm.append_left _ hp).trans h1,i.ahead.ends (by have:=hp.length_eq;simp at this;omega) D (YH.perm h0 (Xq _) hp)⟩
   obtain⟨a4,HC,HS⟩:=Xt7 a1 J u;clear J u j a1 hQ b2 b5 a9 a5 b0 a8;unfold ZJ at HC;go_wp2_with fail
   refine HC.mono ?_;rintro e w2⟨rfl,⟨S,hp,D,j⟩,hk⟩;obtain⟨b1,a3,HK⟩:=Xt7 (a4 S hp D) j hk;clear hp D j hk;go_wp2
   go_roundg (n-2*bs)
   case measure=>have:=a6.out;omega
   exact⟨2*bs,P++S,Q0,Q0,rfl,by rw[show(((2*bs:Nat):Int))=(bs:Int)*2 by omega],b1,HS.step a7 (by have h:=a3.out;simpa only[List.append_nil]using h) HK⟩
  have e3:¬(a:Int)+(bs:Int)<(n:Int):=by omega
  have a1:(P++Q).Perm C/\YN r (2*bs) (P++Q):=by have h2:=i.len;have h3:=a0.out;exact⟨i.perm,i.ahead.ends Q0 (i.chk.short Q0) i.tag⟩
  obtain⟨a4,HS⟩:=Xt6 a1 u;clear a1 u;go_wp2
  go_roundg (n-2*bs)
  case measure=>have:=a6.out;omega
  exact⟨2*bs,P++Q,Q0,Q0,rfl,by rw[show(((2*bs:Nat):Int))=(bs:Int)*2 by omega],a4,HS⟩
 have b8:¬(bs:Int)<(n:Int):=by omega
 obtain⟨HS,a6⟩:=Xt6 u N;clear u N;go_wp2_with fail
 go_end0
 exact⟨rfl,⟨T,a2.1,a2.2.short (by have:=d9.out;have:=a6.out;omega),HS.st⟩,HS.keep⟩
end
theorem Jn3{w1 a c d B ss fr most many gs k}(H:QQ w1 a (sA gs) c B d ss fr most many)(hk:k<ss.length)x:QQ (SB w1 gs (k*7) x) a (sA gs) c B d (ss.set k (x,ss[k].2.1,ss[k].2.2)) fr most many/\X4 (KB a (sA gs) B) w1 (SB w1 gs (k*7) x):=by
 have j:X4 (fun i=>i=gs) w1 (SB w1 gs (k*7) x):=Ua w1 gs (k*7) x;have u:=Dp H.slots (k*7) x;have y:(X7 VL ss)[k*7+5]?=some (I O ss[k].2.1):=MB Ka ss k hk 5 Q0;have C:(X7 VL ss)[k*7+6]?=some (.bool ss[k].2.2):=MB Ka ss k hk 6 Q0;have e0:((((((X7 VL ss).set (k*7) (I O x.id)).set (k*7+1) (I O x.side)).set (k*7+2) (I O x.kind)).set (k*7+3) (I O x.price)).set (k*7+4) (I O x.qty))=X7 VL (ss.set k (x,ss[k].2.1,ss[k].2.2)):=by
  refine Eq.trans ?_ (Cw ss k hk (x,ss[k].2.1,ss[k].2.2));dsimp only;rw[Do (i:=k*7+5),Do (i:=k*7+6)]
  ·rw[UL Q0,UL Q0,UL Q0,UL Q0,UL Q0]
   exact C
  rw[UL Q0,UL Q0,UL Q0,UL Q0,UL Q0];exact y
 rw[e0]at u;refine⟨⟨?_,?_,?_,H.na,H.nb,H.nab⟩,j.mono (fun i h=>.inr (.inl (by rw[h];rfl)))⟩
 ·rw[XH];exact V0 H.blk j (fun h=>H.na (C5 some h.symm))
 ·rw[XH];exact u
 exact H.free.keeps j (fun g D h=>H.nab gs rfl (by rw[D,h]))
theorem Qo4 w a A c B d ss fr most many s g x(h:QQ w a A c B d ss fr most many)(hh:VF ss s g=true):Calls prog 274 #[pA a,.agg #[I O s,I O g],V6 x] w fun e w'=>e=.returned (Y9 0)/\∃k,∃hk:k<ss.length,s=k/\ss[k].2.2=true/\ss[k].2.1=g/\Uw w w' a A B (ss.set k (x,ss[k].2.1,ss[k].2.2)) fr most many:=by
 have C:Bz w ((w.alloc (.cells #[I O s,I O g] 261)).alloc (.cells (Z8 x) 84)):=((J9 _ w).alloc Q2 _).alloc Q3 _;have Z:J7 ((w.alloc (.cells #[I O s,I O g] 261)).alloc (.cells (Z8 x) 84)) (zS w+1) 84 (Z8 x):=by simpa using Z5 (w.alloc (.cells #[I O s,I O g] 261)) 84 (Z8 x)
 obtain⟨HX,H,E,Hh⟩:=Xt8 Z (h.below C) C hh;clear C Z h hh;unfold V6;go_enter func274,ntmps274
 go_wp2_with fail
 refine(Cv _ a A c B d ss fr most many s g H).mono ?_;rintro e w1⟨y,⟨u,rfl⟩|⟨u,k,N,rfl,hk,rfl,rfl⟩⟩
 ·rw[Hh.out]at u
  cases u
 have j:=H.below y;have a0:=Z4 HX y;obtain⟨x0,x1,x2,x3,x4⟩:=D7 a0;obtain⟨a2,he,s0,s1,s2,s3,s4,_,_⟩:=j.slot hk
 cases he;have f0:=j.slots.frozen (k*7);have f1:=j.slots.frozen (k*7+1);have f2:=j.slots.frozen (k*7+2);have f3:=j.slots.frozen (k*7+3);have f4:=j.slots.frozen (k*7+4);have a3:=j.slots.lt (g:=N) rfl;rw[We hk]at u;have a1:ss[k].2.2=true/\ss[k].2.1=g:=by simpa using u
 obtain⟨HO,J,HB⟩:=Xt7 (Jn3 j hk x) a1 y;clear u a1 a0 j y;go_wp2;go_ret;obtain⟨hO,hK⟩:=HO.out;refine⟨rfl,k,hk,rfl,J.1,J.2,sA N,c,B,d,hO,?_,fun i D=>.inl D⟩;exact(B9 (E.trans (HB.mono E.size)) _).trans hK (fun i D=>.inl D)
theorem Xi6{w a F M most n}(h:YP w a F M most n)s g(hy:(M s g).isSome=true)x:Calls prog 274 #[pA a,.agg #[I O s,I O g],V6 x] w fun e w'=>e=.returned (Y9 0)/\WX w w' a F (XA M s g (some x)) most n:=by
 obtain⟨A,c,B,d,ss,fr,hA,C,hL,Z,N⟩:=h;refine(Qo4 w a A c B d ss fr _ _ s g x hA (by rw[Kj,<-Z];exact hy)).mono ?_;rintro e w'⟨rfl,k,hk,rfl,h1,h2,A',c',E,d',a2,hK,a3⟩;have hl:=Cy ss (x,ss[k].2.1,ss[k].2.2) k hk;have a1:AR (ss.set k (x,ss[k].2.1,ss[k].2.2))=AR ss:=by dsimp only at hl;omega
 refine⟨rfl,KB a A' E,⟨A',c',E,d',_,_,a2,⟨C.nodup,?_,?_,?_⟩,by rw[a1];exact hL,?_,fun i=>KL⟩,hK.mono (fun i u=>(N i).2 u),fun i u=>(a3 i u).imp (fun h=>(N i).2 h) id⟩
 ·intro i u
  obtain⟨j,rfl,hj,a0⟩:=C.free i u;refine⟨j,rfl,by rw[XH];exact hj,?_⟩;rw[List.getElem_set]
  split
  ·rename_i e
   subst e;exact a0
  exact a0
 ·rw[XH,a1];exact C.count
 ·rw[XH];exact C.cap
 intro s' J;rw[Cx hk];unfold XA;rw[Z]
 by_cases D:s'=(k:Int)
 ·subst D
  rw[X0 rfl]
  by_cases y:J=g
  ·subst y;simp[h1,h2]
  have:KK ss (k:Nat) J=none:=by
   unfold KK;have hh:ss[((k:Nat):Int).toNat]?=some ss[k]:=by simp[hk]
   rw[X0 Q0,hh];simp[h2];intro _ e;exact absurd e.symm y
  rw[J8 (by simp[y]),this,J8];rintro⟨_,e⟩;dsimp only at e;rw[h2]at e;exact y e.symm
 rw[J8 (by simp[D]),J8 D]
theorem Xn5(L:List Int)(h:L≠[]):∃q∈L,∀r∈L,r<=q:=by
 induction L with
 |nil=>exact absurd rfl h
 |cons a L C=>
  by_cases j:L=[]
  ·subst j;exact⟨a,Q3,fun r i=>by simp at i;omega⟩
  obtain⟨q,y,h1⟩:=C j
  by_cases u:a<=q
  ·exact⟨q,by simp[y],fun r i=>by obtain rfl|i:=H8.1 i;exact u;exact h1 r i⟩
  exact⟨a,Q3,fun r i=>by obtain rfl|i:=H8.1 i;exact T3 _;have:=h1 r i;omega⟩
theorem Jd3 p(L:List Int):(∃q∈L,p<=q/\∀r∈L,p<=r->q<=r)\/∀r∈L,r<p:=by
 induction L with
 |nil=>right;intro r i;cases i
 |cons a L y=>
  rcases y with⟨q,u,h1,h2⟩|h
  ·by_cases j:p<=a/\a<=q
   ·left
    exact⟨a,Q3,j.1,fun r i hp=>by obtain rfl|i:=H8.1 i;exact T3 _;have:=h2 r i hp;omega⟩
   left
   exact⟨q,by simp[u],h1,fun r i hp=>by obtain rfl|i:=H8.1 i;omega;exact h2 r i hp⟩
  by_cases j:p<=a
  ·left
   exact⟨a,Q3,j,fun r i hp=>by obtain rfl|i:=H8.1 i;exact T3 _;have:=h r i;omega⟩
  right
  intro r i;obtain rfl|i:=H8.1 i
  ·omega
  exact h r i
theorem Jz7(p:Int)L(h:L≠[]):∃q∈L,(∀r∈L,p<=r->q<=r)/\∀r∈L,r<=p->r<=q:=by
 rcases Jd3 p L with⟨q,j,h1,h2⟩|h1
 ·exact⟨q,j,h2,fun r i hp=>Q0⟩
 obtain⟨q,j,h2⟩:=Xn5 L h;exact⟨q,j,fun r i hp=>by have:=h1 r i;omega,fun r i _=>h2 r i⟩
theorem Sc(F G:X6->Int)(l:List X6)(h:∀o∈l,F o<=G o):∀s t,s<=t->l.foldl (fun s o=>s+F o) s<=l.foldl (fun s o=>s+G o) t:=by
 induction l with
 |nil=>intro s t h;exact h
 |cons a l j=>
  intro s t u;rw[JF,JF];have:=h a Q3;exact j (fun o i=>h o (by simp[i])) _ _ Q0
theorem Qe4{l more}(h:MS l)(D:1<=more)p:∃y∈QJ l more,min (XT p l) (XW p l)<=Y7 y:=by
 have E:R8 l more≠[]:=by unfold R8;rw[X0 D];simp
 obtain⟨q,J,h1,h2⟩:=Jz7 p (R8 l more) E;refine⟨DD (T6 l) q,Y4.2 ⟨q,(Fl _ _).2 J,rfl⟩,?_⟩;rw[Ki h];have N:XT p l<=XT q l:=Sc (KP p) (KP q) l (fun o i=>by
  have C:=WQ (h o i);unfold KP
  by_cases hk:o.kind=2
  ·simp[hk]
  have:=h1 o.price (Nq h i hk)
  by_cases u:o.side=1<;>by_cases hp:p<=o.price<;>by_cases j:q<=o.price<;>simp[hk,u,hp,j]<;>omega) 0 0 (T3 _)
 have Z:XW p l<=XW q l:=Sc (KR p) (KR q) l (fun o i=>by
  have C:=WQ (h o i);unfold KR
  by_cases hk:o.kind=2
  ·simp[hk]
  have:=h2 o.price (Nq h i hk)
  by_cases u:o.side=2<;>by_cases hp:o.price<=p<;>by_cases j:o.price<=q<;>simp[hk,u,hp,j]<;>omega) 0 0 (T3 _)
 show min (XT p l) (XW p l)<=min (XT q l) (XW q l);omega
theorem Jn4 i j r l:∀x,CM i j r x l=x\/CM i j r x l∈l:=by
 induction l with
 |nil=>intro x;left;rfl
 |cons a l y=>
  intro x;have e:CM i j r x (a::l)=CM i j r (if UV i j r a x=true then a else x) l:=rfl;rw[e]
  by_cases u:UV i j r a x=true
  ·rw[X0 u]
   obtain h|h:=y a
   ·right;rw[h];simp
   right;simp[h]
  rw[J8 u];obtain h|h:=y x
  ·left;exact h
  right;simp[h]
theorem choose_spec l r:(ZM l r=(0,0,0)/\∀y∈l,Y7 y<=0)\/∃y∈l,ZM l r=(y.1,Y7 y,y.2.1-y.2.2)/\1<=Y7 y/\∀z∈l,Y7 z<=Y7 y:=by
 rw[Mb];obtain⟨h1,Z,h2⟩:=Ub l;unfold MC
 by_cases u:QC l<1
 ·left
  rw[X0 u];exact⟨rfl,fun y J=>by have:=h2 y J;omega⟩
 right
 rw[J8 u];have E:=Dw l Q0
 cases j:YQ (QC l) (UU (QC l) l).1 l with
 |nil=>exact absurd j E
 |cons x b=>
  have D:CM (FA (x::b)) (DF (x::b)) r x (x::b)∈YQ (QC l) (UU (QC l) l).1 l:=by
   rw[j];obtain h|h:=Jn4 (FA (x::b)) (DF (x::b)) r (x::b) x
   ·rw[h];simp
   exact h
  obtain⟨C,i⟩:=S4.1 D;simp only[Bool.and_eq_true,beq_iff_eq]at i;refine⟨_,C,rfl,by rw[i.1];omega,fun z N=>by rw[i.1];exact h2 z N⟩
theorem Jn5{l more}(h:MS l)(j:1<=more)r:(∀p,min (XT p l) (XW p l)<=(ZM (QJ l more) r).2.1)/\(0<(ZM (QJ l more) r).2.1->(ZM (QJ l more) r).2.1=min (XT (ZM (QJ l more) r).1 l) (XW (ZM (QJ l more) r).1 l)/\(ZM (QJ l more) r).2.2=XT (ZM (QJ l more) r).1 l-XW (ZM (QJ l more) r).1 l):=by
 rcases choose_spec (QJ l more) r with⟨e,h1⟩|⟨y,C,e,J,h1⟩
 ·rw[e]
  refine⟨fun p=>?_,fun u=>absurd u Q3⟩;obtain⟨z,i,D⟩:=Qe4 h j p;have:=h1 z i;show _<=(0:Int);omega
 rw[e];refine⟨fun p=>?_,fun _=>?_⟩
 ·obtain⟨z,i,D⟩:=Qe4 h j p
  have:=h1 z i;show _<=Y7 y;omega
 obtain⟨q,E,rfl⟩:=Y4.1 C;rw[Ki h];exact⟨rfl,rfl⟩
theorem Vw p w:Calls prog 176 #[QW p] w fun e w'=>e=.returned (I O (Y7 p))/\Bz w w':=by
 obtain⟨a,b,c⟩:=p;unfold QW Y7;dsimp only;go_enter func176,ntmps176
 go_wp2
 all_goals
  go_ret;exact⟨JK Q0,Q5.alloc Q2 _⟩
theorem Ev x w(h: -4398046511104<=x/\x<=4398046511104):Calls prog 177 #[I O x] w fun e w'=>e=.returned (I O (AA x))/\w=w':=by
 obtain⟨_,_⟩:=h
 by_cases i:x<0
 ·have d:=V7 i
  have E:Hid (AA x= -x):=J6 (by unfold AA;rw[X0 i]);go_enter func177,ntmps177
  go_wp2;go_ret;exact⟨JK (by rw[E.out]),rfl⟩
 have d:=V9 i;have E:Hid (AA x=x):=J6 (by unfold AA;rw[J8 i]);go_enter func177,ntmps177
 go_wp2;go_ret;exact⟨JK (by rw[E.out]),rfl⟩
theorem Mc{w a Q g cs}(hp:a.tmps.getD 4 undef=pA g)(i:a.defers=[])(j:J7 w g 99 cs) (h2:cs.size=3) (h:Q (.returned (.agg cs)) w):bodyPost prog Tryz.f127 Q .ret a w:=
 QA (WE Tryz.results127 a.tmps w g _ cs (0,0) _ hp j underlying99 rfl (by rw[h2];kernel_rfl)) i h
theorem Jz8:(prog.info? 236).map (fun i=>(i.zero,i.size,i.bytes))=some (some (.agg #[I O 0,I O 0,I O 0]),3,24):=Q4
theorem Jd4 l p:FA (l++[p])=(FA l &&decide (p.2.2<p.2.1)):=by simp[FA]
theorem Qv7 l p:DF (l++[p])=(DF l &&decide (p.2.1<p.2.2)):=by simp[DF]
theorem Jd5 i j r x l p:CM i j r x (l++[p])=if UV i j r p (CM i j r x l)=true then p else CM i j r x l:=by unfold CM;rw[FS];rfl
theorem Uc{α:Type}{l:List α}{k}(h:k<l.length):l.take (k+1)=l.take k++[l[k]]:=M9 h
theorem Pe l p:QC (l++[p])=max (QC l) (Y7 p):=by unfold QC;rw[FS];rfl
theorem Vx most l p:UU most (l++[p])=if Y7 p=most/\((UU most l).2=false\/YK p<(UU most l).1)then(YK p,true)else UU most l:=by unfold UU;rw[FS];rfl
theorem Qv8 A n c r(hr: -1099511627776<=r/\r<=1099511627776)ps w(h:C0 w Y8 3 A n ps)(hN:∀p∈ps,AY p)(hm:n<=100000):Calls prog 127 #[.slice A n c,I O r] w fun e w'=>e=.returned (QW (MC ps r))/\Bz w w':=by
 obtain⟨HH,HN⟩:=Xt6 h hN;have hl:=h.1;have HL:=J6 hl;clear h hN hl;go_enter func127,ntmps127
 go_wp2_with fail
 go_loopg [6,27] n (fun gg s6 j8 wr=>∃k m,k<=n/\gg=n-k/\j8=I O k/\s6=I O m/\Bz w wr/\J7 wr w.heap.size 99 #[I O 0,I O 0,I O 0]/\Hid (m=QC (ps.take k)))
 case atStart=>exact⟨0,0,U9 _,rfl,rfl,rfl,(J9 _ w).alloc Q2 _,Z5 _ _ _,J6 rfl⟩
 obtain⟨k,m,hk,rfl,rfl,rfl,C,u,HM⟩:=hrel
 by_cases b9:k<n
 ·have a4:k<ps.length:=by have:=HL.out;omega
  obtain⟨b,a6,hA⟩:∃b a6,A=some ⟨b,a6,none⟩:=by obtain⟨b,a6,h1,_⟩:=HH.2 Q0;exact⟨b,a6,h1⟩
  subst hA;obtain⟨x0,x1,x2⟩:=Yn (HH.below C Q2) a4;have b0:(k:Int)<(n:Int):=Q0;have f7:(0:Int)<=(k:Int):=Q0;have HT:=J6 (Uc a4);obtain⟨p,E⟩:∃p,Hid (ps[k]=p):=⟨_,J6 rfl⟩;rw[E.out]at x0 x1 x2 HT;have J:Bz wr (wr.alloc (.cells #[I O p.1,I O p.2.1,I O p.2.2] 236)):=Q5.alloc Q2 _;have a2:=Vw p (wr.alloc (.cells #[I O p.1,I O p.2.1,I O p.2.2] 236));obtain⟨t,ET⟩:∃t,Hid (Y7 p=t):=⟨_,J6 rfl⟩;rw[ET.out]at a2;obtain⟨HQ,HB⟩:=Xt6 (Z4 u J) (C.trans (J.mono C.size));have e5:=C.size;obtain⟨p0,p1,p2⟩:=p;unfold QW at a2;dsimp only at x0 x1 x2 a2;clear u C J;go_wp2_with fail
  refine a2.mono ?_;rintro e w2⟨rfl,a0⟩;clear x0 x1 x2 a2
  by_cases k7:m<t
  ·go_wp2
   go_roundg (n-(k+1))
   case measure=>omega
   exact⟨k+1,t,Q0,rfl,J5,Q7,HB.trans (a0.mono Q7),Z4 HQ a0,J6 (by rw[HT.out,Pe,<-HM.out,ET.out];omega)⟩
  go_wp2
  go_roundg (n-(k+1))
  case measure=>omega
  exact⟨k+1,m,Q0,rfl,J5,Q7,HB.trans (a0.mono Q7),Z4 HQ a0,J6 (by rw[HT.out,Pe,<-HM.out,ET.out];omega)⟩
 obtain rfl:k=n:=by omega
 have b0:¬(k:Int)<(k:Int):=Q0;have d7:Hid (m=QC ps):=J6 (by have:=HM.out;rwa [M4 (by rw[HL.out];exact X3 _)]at this)
 by_cases c5:m<1
 ·have d1:=V7 c5
  have i4:=J6 c5;have d0:wr.cell? ⟨w.heap.size,0,none⟩=some (I O 0):=by rw[X9 u];rfl
  have d2:wr.cell? ⟨w.heap.size,1,none⟩=some (I O 0):=by rw[X9 u];rfl
  have d3:wr.cell? ⟨w.heap.size,2,none⟩=some (I O 0):=by rw[X9 u];rfl
  have f0:=K0 u 0;have f1:=K0 u 1;have f2:=K0 u 2;clear c5;go_wp2_with fail
  try simp only[Exit.inBlock,Exit.then]
  refine Mc (g:=w.heap.size) (cs:= #[I O 0,I O 0,I O 0]) Q6 Q6 (Z0 (Z0 (Z0 u 0 _) 1 _) 2 _) rfl ?_;refine⟨?_,((C.setCell Q3 _).setCell Q3 _).setCell Q3 _⟩;have e1:MC ps r=(0,0,0):=by unfold MC;rw[<-d7.out,X0 i4.out]
  rw[e1];rfl
 have d1:=V9 c5;have HE:Hid (¬QC ps<1):=J6 (by rw[<-d7.out];exact c5);clear c5 HM b0 b9;go_wp2_with fail
 go_loopg [7,10,42] k (fun gg s7 j3 j9 wx=>∃j l b,j<=k/\gg=k-j/\j9=I O j/\s7=I O l/\j3=.bool b/\Bz w wx/\J7 wx w.heap.size 99 #[I O 0,I O 0,I O 0]/\Hid ((l,b)=UU m (ps.take j)))
 case atStart=>exact⟨0,0,false,U9 _,rfl,rfl,rfl,rfl,C,u,J6 rfl⟩
 clear C u;obtain⟨j,l,b,hj,rfl,rfl,rfl,rfl,C,u,HS⟩:=hrel
 by_cases b9:j<k
 ·have a4:j<ps.length:=by have:=HL.out;omega
  obtain⟨bA,a6,hA⟩:∃b a6,A=some ⟨b,a6,none⟩:=by obtain⟨b,a6,h1,_⟩:=HH.2 Q0;exact⟨b,a6,h1⟩
  subst hA;obtain⟨x0,x1,x2⟩:=Yn (HH.below C Q2) a4;have b0:(j:Int)<(k:Int):=Q0;have f7:(0:Int)<=(j:Int):=Q0;have HT:=J6 (Uc a4);have a7:=HN.out _ (C7 a4);obtain⟨p,E⟩:∃p,Hid (ps[j]=p):=⟨_,J6 rfl⟩;rw[E.out]at x0 x1 x2 HT a7;have a2:=Vw p;obtain⟨t,ET⟩:∃t,Hid (Y7 p=t):=⟨_,J6 rfl⟩;rw[ET.out]at a2;have a9:=fun W=>Ev (p.2.1-p.2.2) W (by obtain⟨_,⟨_,_⟩,⟨_,_⟩⟩:=a7;omega)
  obtain⟨q,EQ⟩:∃q,Hid (YK p=q):=⟨_,J6 rfl⟩;have e1:AA (p.2.1-p.2.2)=q:=EQ.out;rw[e1]at a9;have J:Bz wr (wr.alloc (.cells #[I O p.1,I O p.2.1,I O p.2.2] 236)):=Q5.alloc Q2 _;obtain⟨HQ,HB⟩:=Xt6 (Z4 u J) (C.trans (J.mono C.size));have e5:=C.size;obtain⟨p0,p1,p2⟩:=p;unfold QW at a2;obtain⟨⟨q1,q2⟩,⟨q3,q4⟩,⟨q5,q6⟩⟩:=a7;dsimp only at x0 x1 x2 a2 a9 q1 q2 q3 q4 q5 q6;obtain⟨HC,d5⟩:=Xt6 a2 a9;clear u C J e1 a2 a9;go_wp2_with fail
  refine(d5 _).mono ?_;rintro e w2⟨rfl,rfl⟩;go_wp2_with fail
  refine(HC _).mono ?_;rintro e w2⟨rfl,a0⟩;clear x0 x1 x2
  by_cases a3:t=m
  ·have t0:=V4 a3
   cases b with
   |false=>
    have D:Hid (UU m (ps.take (j+1))=(q,true)):=J6 (by rw[HT.out,Vx,<-HS.out,ET.out,EQ.out,X0 ⟨a3,.inl rfl⟩]);clear a3;go_wp2
    go_roundg (k-(j+1))
    case measure=>omega
    exact⟨j+1,q,true,Q0,rfl,J5,rfl,rfl,HB.trans (a0.mono Q7),Z4 HQ a0,J6 D.symm⟩
   |true=>
    by_cases a5:q<l
    ·have t1:=V7 a5
     have D:Hid (UU m (ps.take (j+1))=(q,true)):=J6 (by rw[HT.out,Vx,<-HS.out,ET.out,EQ.out,X0 ⟨a3,.inr a5⟩]);clear a3 a5;go_wp2
     go_roundg (k-(j+1))
     case measure=>omega
     exact⟨j+1,q,true,Q0,rfl,J5,rfl,rfl,HB.trans (a0.mono Q7),Z4 HQ a0,J6 D.symm⟩
    have t1:=V9 a5;have D:Hid (UU m (ps.take (j+1))=(l,true)):=J6 (by rw[HT.out,Vx,<-HS.out,ET.out,EQ.out,J8 (fun h=>h.2.elim Q3 a5)]);clear a3 a5;go_wp2
    go_roundg (k-(j+1))
    case measure=>omega
    exact⟨j+1,l,true,Q0,rfl,J5,rfl,rfl,HB.trans (a0.mono Q7),Z4 HQ a0,J6 D.symm⟩
  have t0:=Z3 a3;have D:Hid (UU m (ps.take (j+1))=(l,b)):=J6 (by rw[HT.out,Vx,<-HS.out,ET.out,EQ.out,J8 (fun h=>a3 h.1)]);clear a3;go_wp2
  go_roundg (k-(j+1))
  case measure=>omega
  exact⟨j+1,l,b,Q0,rfl,J5,rfl,rfl,HB.trans (a0.mono Q7),Z4 HQ a0,J6 D.symm⟩
 obtain rfl:j=k:=by omega
 have b0:¬(j:Int)<(j:Int):=Q0;have g3:Hid ((UU m ps).1=l):=J6 (by have:=HS.out;rw[M4 (by rw[HL.out];exact X3 _)]at this;rw[<-this]);clear HS;clear b0 b9;go_wp2_with fail
 go_loopg [14,15,16,70] j (fun gg j5 j6 j7 k0 wx=>∃i A3 n3 c3 b1 b2,i<=j/\gg=j-i/\k0=I O i/\j5=.slice A3 n3 c3/\j6=.bool b1/\j7=.bool b2/\n3<=i/\Bz w wx/\J7 wx w.heap.size 99 #[I O 0,I O 0,I O 0]/\X8 wx A3 n3 c3 236 3 (X7 Y8 (YQ m l (ps.take i)))/\(∀g,X5 A3=some g->w.heap.size<g)/\Hid (b1=FA (YQ m l (ps.take i))/\b2=DF (YQ m l (ps.take i))))
 case atStart=>exact⟨0,none,0,0,true,true,U9 _,rfl,rfl,rfl,rfl,rfl,X3 _,C,u,QY _ _ _ _,by simp[X5],J6 ⟨rfl,rfl⟩⟩
 clear C u;obtain⟨i,A3,n3,c3,b1,b2,hi,rfl,rfl,rfl,rfl,rfl,l1,C,u,a1,h4,HS⟩:=hrel
 by_cases b9:i<j
 ·have a4:i<ps.length:=by have:=HL.out;omega
  obtain⟨bA,a6,hA⟩:∃b a6,A=some ⟨b,a6,none⟩:=by obtain⟨b,a6,h1,_⟩:=HH.2 Q0;exact⟨b,a6,h1⟩
  subst hA;obtain⟨x0,x1,x2⟩:=Yn (HH.below C Q2) a4;have b0:(i:Int)<(j:Int):=Q0;have f7:(0:Int)<=(i:Int):=Q0;have HT:=J6 (Uc a4);have a7:=HN.out _ (C7 a4);obtain⟨p,E⟩:∃p,Hid (ps[i]=p):=⟨_,J6 rfl⟩;rw[E.out]at x0 x1 x2 HT a7;have a2:=Vw p;obtain⟨t,ET⟩:∃t,Hid (Y7 p=t):=⟨_,J6 rfl⟩;rw[ET.out]at a2;have a9:=fun W=>Ev (p.2.1-p.2.2) W (by obtain⟨_,⟨_,_⟩,⟨_,_⟩⟩:=a7;omega)
  obtain⟨q,EQ⟩:∃q,Hid (YK p=q):=⟨_,J6 rfl⟩;have e1:AA (p.2.1-p.2.2)=q:=EQ.out;rw[e1]at a9;have k1:=J6 (rfl:(X7 Y8 [p])=[I O p.1,I O p.2.1,I O p.2.2]);have g9:Hid (¬(t=m/\q=l)->YQ m l (ps.take (i+1))=YQ m l (ps.take i)):=J6 (fun h=>by
   rw[HT.out];unfold YQ;rw[JE];have:((Y7 p ==m) && (YK p ==l))=false:=by rw[ET.out,EQ.out];simp;exact fun h1 h2=>h ⟨h1,h2⟩
   simp[this])
  have i3:Hid (t=m->q=l->YQ m l (ps.take (i+1))=YQ m l (ps.take i)++[p]):=J6 (fun h1 h2=>by
   rw[HT.out];unfold YQ;rw[JE];have:((Y7 p ==m) && (YK p ==l))=true:=by rw[ET.out,EQ.out];simp;exact⟨h1,h2⟩
   simp[this])
  have J:Bz wr (wr.alloc (.cells #[I O p.1,I O p.2.1,I O p.2.2] 236)):=Q5.alloc Q2 _;obtain⟨HQ,HB,HR,HX⟩:=Xt8 (Z4 u J) (C.trans (J.mono C.size)) (a1.below J) (Z5 wr 236 #[I O p.1,I O p.2.1,I O p.2.2]);have e5:=C.size;have c7:=J6 h4;have f8:some wr.heap.size≠(Value.slice A3 n3 c3).ownBlock:=by rw[C8];intro e;have:=a1.lt e.symm;omega
  obtain⟨i0,i5,h5,j1,j2⟩:=W8 Jz8;obtain⟨p0,p1,p2⟩:=p;unfold QW at a2;obtain⟨⟨q1,q2⟩,⟨q3,q4⟩,⟨q5,q6⟩⟩:=a7;dsimp only at x0 x1 x2 a2 a9 q1 q2 q3 q4 q5 q6;obtain⟨HC,d5⟩:=Xt6 a2 a9;clear u C J e1 a2 a9 a1 h4;go_wp2_with fail
  refine(HC _).mono ?_;rintro e w2⟨rfl,a0⟩;have d9:=Z4 HX a0;have z0:w2.cell? ⟨wr.heap.size,0,none⟩=some (I O p0):=by rw[X9 d9];rfl
  have z1:w2.cell? ⟨wr.heap.size,1,none⟩=some (I O p1):=by rw[X9 d9];rfl
  have z2:w2.cell? ⟨wr.heap.size,2,none⟩=some (I O p2):=by rw[X9 d9];rfl
  obtain⟨d6,e7,e8⟩:=Xt7 (HB.trans (a0.mono Q7)) (Z4 HQ a0) (HR.below a0);clear x0 x1 x2 d9 HB HQ HR
  by_cases a3:t=m
  ·have t0:=V4 a3
   by_cases a5:q=l
   ·have t1:=V4 a5
    have D:=J6 (i3 a3 a5);clear a3 a5;go_wp2_with fail
    refine(d5 _).mono ?_;rintro e w3⟨rfl,rfl⟩;have c8:Bz w2 (w2.alloc (.cells #[I O p0,I O p1,I O p2] 236)):=Q5.alloc Q2 _;have Z:=DE c8 z0;have y1:=DE c8 z1;have y2:=DE c8 z2;have h7:=J6 c8;clear c8;have i9:=d6.size
    cases b1<;>cases b2
    all_goals
     go_wp2_with (at_builtin;refine VZ _ rfl _ _ 176 rfl 0 236 i0 _ 3 24 underlying176 i5 h5 j1 j2 rfl Q0 (.slice A3 n3 c3) n3 _ rfl (e8.alloc _) ⟨w2.heap.size,0,none⟩ 1 1 [I O p0,I O p1,I O p2] rfl rfl (XF (cs:= #[I O p0,I O p1,I O p2]) (t:=236) (fr:=(0,0)) (QN w2 _)) J0 Q0 Q9 Q0 Q3 (w2.heap.size+1) Q3 ?_;intro gg cap w3 i6 d4 h0 k6;have l3:=d4.cell Z f8;have l4:=d4.cell y1 f8;have l5:=d4.cell y2 f8)
     go_roundg (j-(i+1))
     case measure=>omega
     refine⟨i+1,some ⟨gg,0,none⟩,n3+1,cap,_,_,Q0,rfl,J5,rfl,rfl,rfl,Q0,(d6.trans (h7.mono i9)).grown d4 Q7 (fun x hx=>by have:=c7.out x (by rw[<-C8 A3 n3 c3];exact hx);omega),TE (G0 e7 _) d4 (fun e=>by have:=c7.out _ (by rw[<-C8 A3 n3 c3];exact e.symm);omega),?_,?_,J6 ⟨?_,?_⟩⟩
     ·rw[D.out,AQ];exact i6
     ·intro x hx
      cases hx;rw[C8]at h0;obtain h1|h1:=h0
      ·exact c7 _ h1
      show w.heap.size<gg;omega
     ·rw[D.out,Jd4,<-HS.1];rfl
     rw[D.out,Qv7,<-HS.2];rfl
   have t1:=Z3 a5;have D:=J6 (g9 (fun h=>a5 h.2));clear a3 a5;go_wp2_with fail
   refine(d5 _).mono ?_;rintro e w3⟨rfl,rfl⟩;go_wp2
   go_roundg (j-(i+1))
   case measure=>omega
   exact⟨i+1,A3,n3,c3,b1,b2,Q0,rfl,J5,rfl,rfl,rfl,Q0,d6,e7,by rw[D.out];exact e8,c7,by rw[D.out];exact HS⟩
  have t0:=Z3 a3;have D:=J6 (g9 (fun h=>a3 h.1));clear a3;go_wp2
  go_roundg (j-(i+1))
  case measure=>omega
  exact⟨i+1,A3,n3,c3,b1,b2,Q0,rfl,J5,rfl,rfl,rfl,Q0,d6,e7,by rw[D.out];exact e8,c7,by rw[D.out];exact HS⟩
 obtain rfl:i=j:=by omega
 have b0:¬(i:Int)<(i:Int):=Q0;have e9:=HS.out;rw[M4 (by rw[HL.out];exact X3 _)]at e9 a1;have f3:=J6 e9;have e2:=YU QE Q0 a1;clear e9;have g6:Hid (MC ps r=Qj1 r (YQ m l ps)):=J6 (by unfold MC;rw[J8 (by have:=HE.out;omega),<-d7.out,g3.out]);have f6:∀p∈YQ m l ps,AY p:=fun p hp=>HN p (S4.1 hp).1
 obtain⟨N,rfl⟩:∃N,N=wr:=⟨_,rfl⟩;have e3:=Dw ps (by have:=HE.out;omega);rw[<-d7.out,g3.out]at e3;generalize YQ m l ps=bs at e2 a1 g6 e3 f3 f6;obtain⟨x,bt,rfl⟩:∃x bt,bs=x::bt:=by
  cases bs with
  |nil=>exact absurd rfl e3
  |cons x bt=>exact⟨x,bt,rfl⟩
 have k8:0<n3:=by have:(x::bt).length=n3:=e2;simp at this;omega
 obtain⟨gr,rfl⟩:∃gr,A3=some ⟨gr,0,none⟩:=by obtain⟨gr,hA,_⟩:=a1.elem QE Q0 (i:=0) Q3;exact⟨gr,hA⟩
 obtain⟨f9,g4⟩:=Xt6 f6 e2;obtain⟨x0,x1,x2⟩:=TW a1 (i:=0) Q3;simp only[List.getElem_cons_zero,Nat.zero_mul,Nat.zero_add]at x0 x1 x2;have k9:(0:Int)<(n3:Int):=Q0;have J:Bz N (N.alloc (.cells #[I O x.1,I O x.2.1,I O x.2.2] 236)):=Q5.alloc Q2 _;obtain⟨HQ,HB,HR,HX⟩:=Xt8 (Z4 u J) (C.trans (J.mono C.size)) (a1.below J) (Z5 N 236 #[I O x.1,I O x.2.1,I O x.2.2]);have e5:=C.size;have k3:=a1.lt (g:=gr) rfl;have a5:=Z9 u;have k2:=J6 a1;clear u C J a1 f6 e2 e3 b9;go_wp2_with fail
 go_loopg [22,115] n3 (fun gg h6 j4 wx=>∃k y,k<=n3/\gg=n3-k/\j4=I O k/\Bz w wx/\J7 wx w.heap.size 99 #[I O 0,I O 0,I O 0]/\X8 wx (some ⟨gr,0,none⟩) n3 c3 236 3 (X7 Y8 (x::bt))/\J7 wx N.heap.size 236 #[I O y.1,I O y.2.1,I O y.2.2]/\AY y/\Hid (y=CM b1 b2 r x ((x::bt).take k)))
 case atStart=>exact⟨0,x,U9 _,rfl,rfl,HB,HQ,HR,HX,f9 x Q3,J6 rfl⟩
 obtain⟨k,y,k5,rfl,rfl,C,u,hR,hY,f5,g7⟩:=hrel
 by_cases b9:k<n3
 ·have a4:k<(x::bt).length:=by have:=g4.out;omega
  obtain⟨x0,x1,x2⟩:=TW hR a4;have b0:(k:Int)<(n3:Int):=Q0;have f7:(0:Int)<=(k:Int):=Q0;have HT:=J6 (Uc a4);have a7:=f9.out _ (C7 a4);obtain⟨p,E⟩:∃p,Hid ((x::bt)[k]=p):=⟨_,J6 rfl⟩;rw[E.out]at x0 x1 x2 HT a7;have J:Bz wr (wr.alloc (.cells #[I O p.1,I O p.2.1,I O p.2.2] 236)):=Q5.alloc Q2 _;obtain⟨HQ,HB,HR,HX,D⟩:=Xt9 (Z4 u J) (C.trans (J.mono C.size)) (hR.below J) (Z5 wr 236 #[I O p.1,I O p.2.1,I O p.2.2]) (Z4 hY J);have e5:=C.size;have j0:=Z9 hY;have i7:=Z9 u;have k4:=hR.lt (g:=gr) rfl;obtain⟨h9,g5⟩:=Xt6 a7 f5;clear u C J hR hY f5;obtain⟨⟨q1,q2⟩,_⟩:=a7;obtain⟨⟨q3,q4⟩,_⟩:=g5.out;obtain⟨p0,p1,p2⟩:=p;obtain⟨Z,y1,y2⟩:=y;dsimp only at x0 x1 x2 q1 q2 q3 q4;go_upto_block 8 with fail
  go_cut [22] (fun h6 wx=>h6=.bool (UV b1 b2 r (p0,p1,p2) (Z,y1,y2))/\Bz w wx/\J7 wx w.heap.size 99 #[I O 0,I O 0,I O 0]/\X8 wx (some ⟨gr,0,none⟩) n3 c3 236 3 (X7 Y8 (x::bt))/\J7 wx N.heap.size 236 #[I O Z,I O y1,I O y2]/\J7 wx wr.heap.size 236 #[I O p0,I O p1,I O p2])
  case first=>
   clear x0 x1 x2;have z0:(wr.alloc (.cells #[I O p0,I O p1,I O p2] 236)).cell? ⟨N.heap.size,0,none⟩=some (I O Z):=by rw[X9 D.out];rfl
   cases b1 with
   |true=>
    go_wp2;go_meet;exact⟨by simp[UV],HB,HQ,HR,D,HX⟩
   |false=>
    cases b2 with
    |true=>
     go_wp2;go_meet;exact⟨by simp[UV],HB,HQ,HR,D,HX⟩
    |false=>
     go_wp2_with fail
     go_quiet ((go_at_call 177;exact Xc ((Ev _ _ Q0).mono (fun _ _⟨h1,h2⟩=>⟨h1,h2.symm⟩))))
     by_cases h1:AA (p0-r)<AA (Z-r)
     ·have t1:=V7 h1
      have c6:Hid (UV false false r (p0,p1,p2) (Z,y1,y2)=true):=J6 (by simp[UV,h1]);clear h1;go_wp2;go_meet;exact⟨by rw[c6.out],Y5 HB _,ZL HQ _,HR.below (Y5 Q5 _),ZL D _,ZL HX _⟩
     have t1:=V9 h1
     by_cases h2:AA (p0-r)=AA (Z-r)
     ·have t2:=V4 h2
      have c6:Hid (UV false false r (p0,p1,p2) (Z,y1,y2)=decide (p0<Z)):=J6 (by unfold UV;dsimp only;rw[t1,t2];simp);have h5:(wr.alloc (.cells #[I O p0,I O p1,I O p2] 236)).cell? ⟨wr.heap.size,0,none⟩=some (I O p0):=by rw[X9 HX.out];rfl
      clear h1 h2;go_wp2;go_meet;exact⟨by rw[c6.out],Y5 HB _,ZL HQ _,HR.below (Y5 Q5 _),ZL D _,ZL HX _⟩
     have t2:=Z3 h2;have c6:Hid (UV false false r (p0,p1,p2) (Z,y1,y2)=false):=J6 (by unfold UV;dsimp only;rw[t1,t2];simp);clear h1 h2;go_wp2;go_meet;exact⟨by rw[c6.out],Y5 HB _,ZL HQ _,HR.below (Y5 Q5 _),ZL D _,ZL HX _⟩
  obtain⟨rfl,d8,e4,a1,a8,c9⟩:=hcut;have z0:wc.cell? ⟨wr.heap.size,0,none⟩=some (I O p0):=by rw[X9 c9];rfl
  have z1:wc.cell? ⟨wr.heap.size,1,none⟩=some (I O p1):=by rw[X9 c9];rfl
  have z2:wc.cell? ⟨wr.heap.size,2,none⟩=some (I O p2):=by rw[X9 c9];rfl
  have v0:wc.cell? ⟨N.heap.size,0,none⟩=some (I O Z):=by rw[X9 a8];rfl
  have v1:wc.cell? ⟨N.heap.size,1,none⟩=some (I O y1):=by rw[X9 a8];rfl
  have v2:wc.cell? ⟨N.heap.size,2,none⟩=some (I O y2):=by rw[X9 a8];rfl
  have f0:=K0 a8 0;have f1:=K0 a8 1;have f2:=K0 a8 2;have b5:CM b1 b2 r x ((x::bt).take (k+1))=if UV b1 b2 r (p0,p1,p2) (Z,y1,y2)=true then(p0,p1,p2)else(Z,y1,y2):=by rw[HT.out,Jd5,<-g7.out]
  cases b8:UV b1 b2 r (p0,p1,p2) (Z,y1,y2)with
  |true=>
   rw[b8]at b5;obtain⟨e6,h8,H1,H2,H3,H4⟩:=Xu0 b5 b8 d8 e4 a1 a8;clear b5 b8 d8 e4 a1 a8 c9 x0 x1 x2;go_wp2
   go_roundg (n3-(k+1))
   case measure=>omega
   have h3:=Qg8 wc N.heap.size 0 1 2 (I O p0) (I O p1) (I O p2);have i8:=H1.size;refine⟨k+1,(p0,p1,p2),Q0,rfl,J5,((H1.setCell Q7 _).setCell Q7 _).setCell Q7 _,V0 H2 h3 Q0,H3.keeps h3 (fun g hg e=>by cases hg;have e':gr=N.heap.size:=e;omega),?_,h9.out,J6 (by rw[e6.out];rfl)⟩;exact Z0 (Z0 (Z0 H4 0 (I O p0)) 1 (I O p1)) 2 (I O p2)
  |false=>
   rw[b8]at b5;obtain⟨e6,h8,H1,H2,H3,H4⟩:=Xu0 b5 b8 d8 e4 a1 a8;clear b5 b8 d8 e4 a1 a8 c9 x0 x1 x2;go_wp2
   go_roundg (n3-(k+1))
   case measure=>omega
   exact⟨k+1,(Z,y1,y2),Q0,rfl,J5,H1,H2,H3,H4,g5,J6 (by rw[e6.out];rfl)⟩
 obtain rfl:k=n3:=by omega
 have b0:¬(k:Int)<(k:Int):=Q0;have i1:Hid (MC ps r=(y.1,Y7 y,y.2.1-y.2.2)):=J6 (by
  rw[g6.out];show Kz [CM (FA (x::bt)) (DF (x::bt)) r x (x::bt)]=_;rw[<-f3.1,<-f3.2];have:=g7.out;rw[M4 (by rw[g4.out];exact X3 _)]at this;rw[<-this]
  rfl)
 have j0:=Z9 hY;have i7:=Z9 u;obtain⟨Z,y1,y2⟩:=y;obtain⟨⟨q1,q2⟩,⟨q3,q4⟩,⟨q5,q6⟩⟩:=f5;dsimp only at q1 q2 q3 q4 q5 q6;have l2:IntKind.i64.wrap (y1-y2)=y1-y2:=IntWalk.i64_in _ Q0;have hT:=Vw (Z,y1,y2);unfold QW at hT;dsimp only at hT;obtain⟨t5,g8⟩:∃t,Hid (Y7 (Z,y1,y2)=t):=⟨_,J6 rfl⟩;rw[g8.out]at hT;have i2:=J6 hT;have z0:wr.drew.cell? ⟨N.heap.size,0,none⟩=some (I O Z):=by rw[X9 (Y6 hY)];rfl
 have z1:wr.drew.cell? ⟨N.heap.size,1,none⟩=some (I O y1):=by rw[X9 (Y6 hY)];rfl
 have z2:wr.drew.cell? ⟨N.heap.size,2,none⟩=some (I O y2):=by rw[X9 (Y6 hY)];rfl
 have u0:wr.drew.cell? ⟨w.heap.size,0,none⟩=some (I O 0):=by rw[X9 (Y6 u)];rfl
 have u1:wr.drew.cell? ⟨w.heap.size,1,none⟩=some (I O 0):=by rw[X9 (Y6 u)];rfl
 have u2:wr.drew.cell? ⟨w.heap.size,2,none⟩=some (I O 0):=by rw[X9 (Y6 u)];rfl
 have g0:=K0 (Y6 u) 0;have g1:=K0 (Y6 u) 1;have g2:=K0 (Y6 u) 2;obtain⟨HQ,HB⟩:=Xt6 u C;clear hT u hY hR C;go_wp2_with fail
 go_region_held3 (fun w'=>(w'.cell? ⟨N.heap.size,0,none⟩=some (I O Z)/\w'.cell? ⟨N.heap.size,1,none⟩=some (I O y1)/\w'.cell? ⟨N.heap.size,2,none⟩=some (I O y2))/\(w'.cell? ⟨w.heap.size,0,none⟩=some (FZ w' ⟨w.heap.size,0,none⟩)/\w'.cell? ⟨w.heap.size,1,none⟩=some (FZ w' ⟨w.heap.size,1,none⟩)/\w'.cell? ⟨w.heap.size,2,none⟩=some (FZ w' ⟨w.heap.size,2,none⟩))/\w'.frozen? ⟨w.heap.size,0,none⟩=false/\w'.frozen? ⟨w.heap.size,1,none⟩=false/\w'.frozen? ⟨w.heap.size,2,none⟩=false)
  (first|exact⟨⟨z0,z1,z2⟩,⟨MV u0,MV u1,MV u2⟩,g0,g1,g2⟩|assumption|exact Qg9 (g:=N.heap.size) (B:=w.heap.size) f4 J1|exact Qz (g:=N.heap.size) (B:=w.heap.size) Q0 2 _ (Qz Q0 1 _ (Qz Q0 0 _ J1)))
  ((go_at_call 176;refine(i2 _).mono ?_;rintro e w9⟨rfl,f4⟩))
 go_wp2_with fail
 try simp only[Exit.inBlock,Exit.then]
 have i8:=HB.size;refine Mc (g:=w.heap.size) (cs:= #[I O Z,I O t5,I O (y1-y2)]) Q6 Q6 (Z0 (Z0 (Z0 (Z4 (Y6 HQ) f4) 0 _) 1 _) 2 _) rfl ?_;refine⟨?_,(((HB.drew.trans (f4.mono Q7)).setCell Q3 _).setCell Q3 _).setCell Q3 _⟩;rw[i1.out,<-g8.out]
 rfl
