/- Parts. -/
import Derived.Test.YtnlngicnfegjgaaGreatDoorZq13
set_option linter.unusedVariables false
set_option maxRecDepth 100000
set_option maxHeartbeats 8000000
open Go.Proofs.Tryz
open Go.Value renaming int→I,pointer→IP
open Go.IntKind renaming i64→O
namespace Go.Proofs.YtnlngicnfegjgaaGreatDoor
open Go.RowKit
theorem Jt p w:Calls prog 140 #[QX p] w fun e w'=>e= .returned (I O (U8 p))/\Below w.heap.size w w':=by
 obtain⟨a,b,c⟩:=p
 unfold QX U8
 dsimp only
 go_enter func140,ntmps140
 go_wp2
 all_goals
  go_ret;exact⟨T3 (by omega),(Q2 _ _).alloc (Q4 _) _⟩
theorem Ad x w (h: -4398046511104<=x/\x<=4398046511104):Calls prog 141 #[I O x] w fun e w'=>e= .returned (I O (UY x))/\w=w':=by
 obtain⟨_,_⟩:=h
 by_cases i:x<0
 ·have d:=Z5 i
  have E:Hid (UY x= -x):=Q0 (by unfold UY;rw[Q5 i]);go_enter func141,ntmps141
  go_wp2;go_ret;exact⟨T3 (by rw[E.out]),rfl⟩
 have d:=Z1 i
 have E:Hid (UY x=x):=Q0 (by unfold UY;rw[Q3 i])
 go_enter func141,ntmps141
 go_wp2
 go_ret
 exact⟨T3 (by rw[E.out]),rfl⟩
theorem Df {w a Q g cs} (hp:a.tmps.getD 4 undef= IP (some ⟨g,0,none⟩)) (j:a.defers= [])
  (i:Q1 w g 83 cs) (h2:cs.size=3) (h:Q (.returned (.agg cs)) w):bodyPost prog Tryz.f110 Q .ret a w:=
 P4 (PG Tryz.results110 a.tmps w g _ cs (0,0) _ hp i TC rfl (by rw[h2];kernel_rfl)) j h
theorem Ja7:(prog.info? 241).map (fun i=>(i.zero,i.size,i.bytes))=some (some (.agg #[I O 0,I O 0,I O 0]),3,24):=by kernel_rfl
theorem Qi2 l p:CX (l++ [p])=(CX l &&decide (p.2.2<p.2.1)):=by simp[CX]
theorem Qc0 l p:BA (l++ [p])=(BA l &&decide (p.2.1<p.2.2)):=by simp[BA]
theorem Qi3 j i r x l p:AZ j i r x (l++ [p])=if ZX j i r p (AZ j i r x l)=true then p else AZ j i r x l:=by unfold AZ;rw[CL];rfl
theorem Xf {α:Type} {l:List α} {k} (h:k<l.length):l.take (k+1)=l.take k++ [l[k]]:=M8 h
theorem Eu l p:S8 (l++ [p])=max (S8 l) (U8 p):=by unfold S8;rw[CL];rfl
theorem Ju most l p:ZZ most (l++ [p])=if U8 p=most/\((ZZ most l).2=false\/VQ p< (ZZ most l).1)then(VQ p,true)else ZZ most l:=by unfold ZZ;rw[CL];rfl
theorem Qc1 A n c r (hr: -1099511627776<=r/\r<=1099511627776) ps w (h:V4 w X8 3 A n ps) (hN: ∀p∈ps,UU p) (hm:n<=100000):
  Calls prog 110 #[.slice A n c,I O r] w fun e w'=>e= .returned (QX (ER ps r))/\Below w.heap.size w w':=by
 have HH:=Q0 h
 have HN:=Q0 hN
 have hl:=h.1
 have HL:=Q0 hl
 clear h hN hl
 go_enter func110,ntmps110
 go_wp2_with fail
 go_loopg [6,27] n (fun gg s6 h7 wr=> ∃k m,k<=n/\gg=n-k/\h7=I O k/\s6=I O m/\Below w.heap.size w wr/\Q1 wr w.heap.size 83 #[I O 0,I O 0,I O 0]/\Hid (m=S8 (ps.take k)))
 case atStart=>exact⟨0,0,V5 _,rfl,rfl,rfl,(Q2 _ w).alloc (Q4 _) _,J9 _ _ _,Q0 rfl⟩
 obtain⟨k,m,hk,rfl,rfl,rfl,v,u,HM⟩:=hrel
 by_cases b8:k<n
 ·have a4:k<ps.length:=by have:=HL.out;omega
  obtain⟨b,a6,hA⟩: ∃b a6,A=some ⟨b,a6,none⟩:=by obtain⟨b,a6,h1,_⟩:=HH.2 (by omega);exact⟨b,a6,h1⟩
  subst hA;obtain⟨x0,x1,x2⟩:=Kl (HH.below v (Q4 _)) a4;have b0:(k:Int)< (n:Int):=by omega
  have e8:(0:Int)<=(k:Int):=by omega
  have HT:=Q0 (Xf a4);obtain⟨p,E⟩: ∃p,Hid (ps[k]=p):=⟨_,Q0 rfl⟩;rw[E.out]at x0 x1 x2 HT;have D:Below wr.heap.size wr (wr.alloc (.cells #[I O p.1,I O p.2.1,I O p.2.2] 241)):=(Q2 _ _).alloc (Q4 _) _;have a3:=Jt p (wr.alloc (.cells #[I O p.1,I O p.2.1,I O p.2.2] 241));obtain⟨t,ET⟩: ∃t,Hid (U8 p=t):=⟨_,Q0 rfl⟩;rw[ET.out]at a3;have HQ:=Q0 (J4 u D);have Z:=Q0 (v.trans (D.mono v.size));have c9:=v.size;obtain⟨p0,p1,U⟩:=p;unfold QX at a3;dsimp only at x0 x1 x2 a3;clear u v D;go_wp2_with fail
  refine a3.mono ?_;rintro e w2 ⟨rfl,a0⟩;clear x0 x1 x2 a3
  by_cases l0:m<t
  ·go_wp2_with fail
   go_roundg (n- (k+1))
   case measure=>omega
   exact⟨k+1,t,by omega,rfl,by go_num,rfl,Z.trans (a0.mono (by simp;omega)),J4 HQ a0,Q0 (by rw[HT.out,Eu,<-HM.out,ET.out];omega)⟩
  go_wp2_with fail
  go_roundg (n- (k+1))
  case measure=>omega
  exact⟨k+1,m,by omega,rfl,by go_num,rfl,Z.trans (a0.mono (by simp;omega)),J4 HQ a0,Q0 (by rw[HT.out,Eu,<-HM.out,ET.out];omega)⟩
 obtain rfl:k=n:=by omega
 have b0: ¬(k:Int)< (k:Int):=by omega
 have d8:Hid (m=S8 ps):=Q0 (by have:=HM.out;rwa [N7 (by rw[HL.out];exact Q4 _)]at this)
 by_cases b5:m<1
 ·have d1:=Z5 b5
  have i9:=Q0 b5;have d0:wr.cell? ⟨w.heap.size,0,none⟩=some (I O 0):=by rw[J0 u];rfl
  have d2:wr.cell? ⟨w.heap.size,1,none⟩=some (I O 0):=by rw[J0 u];rfl
  have d3:wr.cell? ⟨w.heap.size,2,none⟩=some (I O 0):=by rw[J0 u];rfl
  have f0:=J1 u 0;have f1:=J1 u 1;have f2:=J1 u 2;clear b5;go_wp2_with fail
  try simp only[Exit.inBlock,Exit.then]
  refine Df (g:=w.heap.size) (cs:= #[I O 0,I O 0,I O 0]) (by with_unfolding_all rfl) (by with_unfolding_all rfl) (J7 (J7 (J7 u 0 _) 1 _) 2 _) rfl ?_;refine⟨?_,((v.setCell (by simp) _).setCell (by simp) _).setCell (by simp) _⟩;have e1:ER ps r=(0,0,0):=by unfold ER;rw[<-d8.out,Q5 i9.out]
  rw[e1];rfl
 have d1:=Z1 b5
 have HE:Hid (¬S8 ps<1):=Q0 (by rw[<-d8.out];exact b5)
 clear b5 HM b0 b8
 go_wp2_with fail
 go_loopg [7,10,42] k (fun gg s7 j2 j5 wx=> ∃j l b,j<=k/\gg=k-j/\j5=I O j/\s7=I O l/\j2= .bool b/\Below w.heap.size w wx/\Q1 wx w.heap.size 83 #[I O 0,I O 0,I O 0]/\Hid ((l,b)=ZZ m (ps.take j)))
 case atStart=>exact⟨0,0,false,V5 _,rfl,rfl,rfl,rfl,v,u,Q0 rfl⟩
 clear v u
 obtain⟨j,l,b,hj,rfl,rfl,rfl,rfl,v,u,HS⟩:=hrel
 by_cases b8:j<k
 ·have a4:j<ps.length:=by have:=HL.out;omega
  obtain⟨bA,a6,hA⟩: ∃b a6,A=some ⟨b,a6,none⟩:=by obtain⟨b,a6,h1,_⟩:=HH.2 (by omega);exact⟨b,a6,h1⟩
  subst hA;obtain⟨x0,x1,x2⟩:=Kl (HH.below v (Q4 _)) a4;have b0:(j:Int)< (k:Int):=by omega
  have e8:(0:Int)<=(j:Int):=by omega
  have HT:=Q0 (Xf a4);have a7:=HN.out _ (Y1 a4);obtain⟨p,E⟩: ∃p,Hid (ps[j]=p):=⟨_,Q0 rfl⟩;rw[E.out]at x0 x1 x2 HT a7;have a3:=Jt p;obtain⟨t,ET⟩: ∃t,Hid (U8 p=t):=⟨_,Q0 rfl⟩;rw[ET.out]at a3;have a9:=fun W=>Ad (p.2.1-p.2.2) W (by obtain⟨_,⟨_,_⟩,⟨_,_⟩⟩:=a7;omega)
  obtain⟨q,EQ⟩: ∃q,Hid (VQ p=q):=⟨_,Q0 rfl⟩;have e1:UY (p.2.1-p.2.2)=q:=EQ.out;rw[e1]at a9;have D:Below wr.heap.size wr (wr.alloc (.cells #[I O p.1,I O p.2.1,I O p.2.2] 241)):=(Q2 _ _).alloc (Q4 _) _;have HQ:=Q0 (J4 u D);have Z:=Q0 (v.trans (D.mono v.size));have c9:=v.size;obtain⟨p0,p1,U⟩:=p;unfold QX at a3;obtain⟨⟨q1,q2⟩,⟨q3,q4⟩,⟨q5,q6⟩⟩:=a7;dsimp only at x0 x1 x2 a3 a9 q1 q2 q3 q4 q5 q6;have HC:=Q0 a3;have d4:=Q0 a9;clear u v D e1 a3 a9;go_wp2_with fail
  refine(d4 _).mono ?_;rintro e w2 ⟨rfl,rfl⟩;go_wp2_with fail
  refine(HC _).mono ?_;rintro e w2 ⟨rfl,a0⟩;clear x0 x1 x2
  by_cases a2:t=m
  ·have t0:=Z0 a2
   cases b with
   |false=>
    have C:Hid (ZZ m (ps.take (j+1))=(q,true)):=Q0 (by rw[HT.out,Ju,<-HS.out,ET.out,EQ.out,Q5 ⟨a2,.inl rfl⟩]);clear a2;go_wp2_with fail
    go_roundg (k- (j+1))
    case measure=>omega
    exact⟨j+1,q,true,by omega,rfl,by go_num,rfl,rfl,Z.trans (a0.mono (by simp;omega)),J4 HQ a0,Q0 C.symm⟩
   |true=>
    by_cases a5:q<l
    ·have t1:=Z5 a5
     have C:Hid (ZZ m (ps.take (j+1))=(q,true)):=Q0 (by rw[HT.out,Ju,<-HS.out,ET.out,EQ.out,Q5 ⟨a2,.inr a5⟩]);clear a2 a5;go_wp2_with fail
     go_roundg (k- (j+1))
     case measure=>omega
     exact⟨j+1,q,true,by omega,rfl,by go_num,rfl,rfl,Z.trans (a0.mono (by simp;omega)),J4 HQ a0,Q0 C.symm⟩
    have t1:=Z1 a5;have C:Hid (ZZ m (ps.take (j+1))=(l,true)):=Q0 (by rw[HT.out,Ju,<-HS.out,ET.out,EQ.out,Q3 (fun h=>h.2.elim (by simp) a5)]);clear a2 a5;go_wp2_with fail
    go_roundg (k- (j+1))
    case measure=>omega
    exact⟨j+1,l,true,by omega,rfl,by go_num,rfl,rfl,Z.trans (a0.mono (by simp;omega)),J4 HQ a0,Q0 C.symm⟩
  have t0:=X3 a2;have C:Hid (ZZ m (ps.take (j+1))=(l,b)):=Q0 (by rw[HT.out,Ju,<-HS.out,ET.out,EQ.out,Q3 (fun h=>a2 h.1)]);clear a2;go_wp2_with fail
  go_roundg (k- (j+1))
  case measure=>omega
  exact⟨j+1,l,b,by omega,rfl,by go_num,rfl,rfl,Z.trans (a0.mono (by simp;omega)),J4 HQ a0,Q0 C.symm⟩
 obtain rfl:j=k:=by omega
 have b0: ¬(j:Int)< (j:Int):=by omega
 have g8:Hid ((ZZ m ps).1=l):=Q0 (by have:=HS.out;rw[N7 (by rw[HL.out];exact Q4 _)]at this;rw[<-this])
 clear HS
 clear b0 b8
 go_wp2_with fail
 go_loopg [14,15,16,70] j (fun gg i1 i3 i5 i7 wx=> ∃i A3 n3 c3 b1 b2,i<=j/\gg=j-i/\i7=I O i/\i1= .slice A3 n3 c3/\i3= .bool b1/\i5= .bool b2/\n3<=i/\Below w.heap.size w wx/\Q1 wx w.heap.size 83 #[I O 0,I O 0,I O 0]/\
  J2 wx A3 n3 c3 241 3 (Q9 X8 (ZT m l (ps.take i)))/\(∀g,Q7 A3=some g->w.heap.size<g)/\Hid (b1=CX (ZT m l (ps.take i))/\b2=BA (ZT m l (ps.take i))))
 case atStart=>exact⟨0,none,0,0,true,true,V5 _,rfl,rfl,rfl,rfl,rfl,Q4 _,v,u,JX _ _ _ _,by simp[Q7],Q0 ⟨rfl,rfl⟩⟩
 clear v u
 obtain⟨i,A3,n3,c3,b1,b2,hi,rfl,rfl,rfl,rfl,rfl,k8,v,u,a1,f5,HS⟩:=hrel
 by_cases b8:i<j
 ·have a4:i<ps.length:=by have:=HL.out;omega
  obtain⟨bA,a6,hA⟩: ∃b a6,A=some ⟨b,a6,none⟩:=by obtain⟨b,a6,h1,_⟩:=HH.2 (by omega);exact⟨b,a6,h1⟩
  subst hA;obtain⟨x0,x1,x2⟩:=Kl (HH.below v (Q4 _)) a4;have b0:(i:Int)< (j:Int):=by omega
  have e8:(0:Int)<=(i:Int):=by omega
  have HT:=Q0 (Xf a4);have a7:=HN.out _ (Y1 a4);obtain⟨p,E⟩: ∃p,Hid (ps[i]=p):=⟨_,Q0 rfl⟩;rw[E.out]at x0 x1 x2 HT a7;have a3:=Jt p;obtain⟨t,ET⟩: ∃t,Hid (U8 p=t):=⟨_,Q0 rfl⟩;rw[ET.out]at a3;have a9:=fun W=>Ad (p.2.1-p.2.2) W (by obtain⟨_,⟨_,_⟩,⟨_,_⟩⟩:=a7;omega)
  obtain⟨q,EQ⟩: ∃q,Hid (VQ p=q):=⟨_,Q0 rfl⟩;have e1:UY (p.2.1-p.2.2)=q:=EQ.out;rw[e1]at a9;have k0:=Q0 (rfl:(Q9 X8 [p])= [I O p.1,I O p.2.1,I O p.2.2]);have h0:Hid (¬(t=m/\q=l)->ZT m l (ps.take (i+1))=ZT m l (ps.take i)):=Q0 (fun h=>by
   rw[HT.out];unfold ZT;rw[QL];have:((U8 p ==m) && (VQ p ==l))=false:=by
    rw[ET.out,EQ.out];simp;exact fun h1 h2=>h ⟨h1,h2⟩
   simp[this])
  have i8:Hid (t=m->q=l->ZT m l (ps.take (i+1))=ZT m l (ps.take i)++ [p]):=Q0 (fun h1 h2=>by
   rw[HT.out];unfold ZT;rw[QL];have:((U8 p ==m) && (VQ p ==l))=true:=by
    rw[ET.out,EQ.out];simp;exact⟨h1,h2⟩
   simp[this])
  have D:Below wr.heap.size wr (wr.alloc (.cells #[I O p.1,I O p.2.1,I O p.2.2] 241)):=(Q2 _ _).alloc (Q4 _) _;have HQ:=Q0 (J4 u D);have Z:=Q0 (v.trans (D.mono v.size));have HR:=Q0 (a1.below D);have HX:=Q0 (J9 wr 241 #[I O p.1,I O p.2.1,I O p.2.2]);have c9:=v.size;have c6:=Q0 f5;have e9:some wr.heap.size≠(Value.slice A3 n3 c3).ownBlock:=by
   rw[A7];intro e;have:=a1.lt e.symm;omega
  obtain⟨i0,j6,g4,j1,i4⟩:=N0 Ja7;obtain⟨p0,p1,U⟩:=p;unfold QX at a3;obtain⟨⟨q1,q2⟩,⟨q3,q4⟩,⟨q5,q6⟩⟩:=a7;dsimp only at x0 x1 x2 a3 a9 q1 q2 q3 q4 q5 q6;have HC:=Q0 a3;have d4:=Q0 a9;clear u v D e1 a3 a9 a1 f5;go_wp2_with fail
  refine(HC _).mono ?_;rintro e w2 ⟨rfl,a0⟩;have c7:=J4 HX a0;have z0:w2.cell? ⟨wr.heap.size,0,none⟩=some (I O p0):=by rw[J0 c7];rfl
  have z1:w2.cell? ⟨wr.heap.size,1,none⟩=some (I O p1):=by rw[J0 c7];rfl
  have z2:w2.cell? ⟨wr.heap.size,2,none⟩=some (I O U):=by rw[J0 c7];rfl
  have c8:=Q0 (Z.trans (a0.mono (by simp;omega)));have e7:=Q0 (J4 HQ a0);have e3:=Q0 (HR.below a0);clear x0 x1 x2 c7 Z HQ HR
  by_cases a2:t=m
  ·have t0:=Z0 a2
   by_cases a5:q=l
   ·have t1:=Z0 a5
    have C:=Q0 (i8 a2 a5);clear a2 a5;go_wp2_with fail
    refine(d4 _).mono ?_;rintro e w3 ⟨rfl,rfl⟩;have c4:Below w2.heap.size w2 (w2.alloc (.cells #[I O p0,I O p1,I O U] 241)):=(Q2 _ _).alloc (Q4 _) _;have N:=BU c4 z0;have y1:=BU c4 z1;have y2:=BU c4 z2;have i6:=Q0 c4;clear c4;have h4:=c8.size
    cases b1<;>cases b2
    all_goals
     go_wp2_with (at_builtin;refine ZL _ rfl _ _ 193 rfl 0 241 i0 _ 3 24 underlying193 j6 g4 j1 i4 rfl (by omega) (.slice A3 n3 c3) n3 _ rfl (e3.alloc _) ⟨w2.heap.size,0,none⟩ 1 1 [I O p0,I O p1,I O U] rfl rfl (JB (cs:= #[I O p0,I O p1,I O U]) (t:=241) (fr:=(0,0)) (S5 w2 _)) (by simp[Value.oneCell']) (by omega) (by unfold maxLen;omega) (by omega) (by simp) (w2.heap.size+1) (by simp) ?_;intro gg cap w3 j3 c1 g7 k9;have j9:=c1.cell N e9;have k5:=c1.cell y1 e9;have k4:=c1.cell y2 e9)
     go_roundg (j- (i+1))
     case measure=>omega
     refine⟨i+1,some ⟨gg,0,none⟩,n3+1,cap,_,_,by omega,rfl,by go_num,rfl,rfl,rfl,by omega,(c8.trans (i6.mono h4)).grown c1 (by simp;omega) (fun x hx=>by have:=c6.out x (by rw[<-A7 A3 n3 c3];exact hx);omega),Q1.grown (G7 e7 _) c1 (fun e=>by have:=c6.out _ (by rw[<-A7 A3 n3 c3];exact e.symm);omega), ?_, ?_,Q0 ⟨?_, ?_⟩⟩
     ·rw[C.out,UE];exact j3
     ·intro x hx
      cases hx;rw[A7]at g7;rcases g7 with h1|h1
      ·exact c6 _ h1
      show w.heap.size<gg;omega
     ·rw[C.out,Qi2,<-HS.1];rfl
     rw[C.out,Qc0,<-HS.2];rfl
   have t1:=X3 a5;have C:=Q0 (h0 (fun h=>a5 h.2));clear a2 a5;go_wp2_with fail
   refine(d4 _).mono ?_;rintro e w3 ⟨rfl,rfl⟩;go_wp2_with fail
   go_roundg (j- (i+1))
   case measure=>omega
   exact⟨i+1,A3,n3,c3,b1,b2,by omega,rfl,by go_num,rfl,rfl,rfl,by omega,c8,e7,by rw[C.out];exact e3,c6,by rw[C.out];exact HS⟩
  have t0:=X3 a2;have C:=Q0 (h0 (fun h=>a2 h.1));clear a2;go_wp2_with fail
  go_roundg (j- (i+1))
  case measure=>omega
  exact⟨i+1,A3,n3,c3,b1,b2,by omega,rfl,by go_num,rfl,rfl,rfl,by omega,c8,e7,by rw[C.out];exact e3,c6,by rw[C.out];exact HS⟩
 obtain rfl:i=j:=by omega
 have b0: ¬(i:Int)< (i:Int):=by omega
 have e5:=HS.out
 rw[N7 (by rw[HL.out];exact Q4 _)]at e5 a1
 have e6:=Q0 e5
 have d6:=YW E6 (by omega) a1
 clear e5
 have f7:Hid (ER ps r=Ri r (ZT m l ps)):=Q0 (by unfold ER;rw[Q3 (by have:=HE.out;omega),<-d8.out,g8.out])
 have e4: ∀p∈ZT m l ps,UU p:=fun p hp=>HN p (P3.1 hp).1
 obtain⟨J,rfl⟩: ∃J,J=wr:=⟨_,rfl⟩
 have d5:=Yj ps (by have:=HE.out;omega)
 rw[<-d8.out,g8.out]at d5
 generalize ZT m l ps=bs at d6 a1 f7 d5 e6 e4
 obtain⟨x,bt,rfl⟩: ∃x bt,bs=x::bt:=by
  cases bs with
  |nil=>exact absurd rfl d5
  |cons x bt=>exact⟨x,bt,rfl⟩
 have k1:0<n3:=by have:(x::bt).length=n3:=d6;simp at this;omega
 obtain⟨gr,rfl⟩: ∃gr,A3=some ⟨gr,0,none⟩:=by obtain⟨gr,hA,_⟩:=a1.elem E6 (by omega) (i:=0) (by simp);exact⟨gr,hA⟩
 have f9:=Q0 e4
 have g6:=Q0 d6
 obtain⟨x0,x1,x2⟩:=NG a1 (i:=0) (by simp)
 simp only[List.getElem_cons_zero,Nat.zero_mul,Nat.zero_add]at x0 x1 x2
 have k3:(0:Int)< (n3:Int):=by omega
 have D:Below J.heap.size J (J.alloc (.cells #[I O x.1,I O x.2.1,I O x.2.2] 241)):=(Q2 _ _).alloc (Q4 _) _
 have HQ:=Q0 (J4 u D)
 have Z:=Q0 (v.trans (D.mono v.size))
 have HR:=Q0 (a1.below D)
 have HX:=Q0 (J9 J 241 #[I O x.1,I O x.2.1,I O x.2.2])
 have c9:=v.size
 have j7:=a1.lt (g:=gr) rfl
 have a5:=J5 u
 have k2:=Q0 a1
 clear u v D a1 e4 d6 d5 b8
 go_wp2_with fail
 go_loopg [22,115] n3 (fun gg f6 h6 wx=> ∃k y,k<=n3/\gg=n3-k/\h6=I O k/\Below w.heap.size w wx/\Q1 wx w.heap.size 83 #[I O 0,I O 0,I O 0]/\
  J2 wx (some ⟨gr,0,none⟩) n3 c3 241 3 (Q9 X8 (x::bt))/\Q1 wx J.heap.size 241 #[I O y.1,I O y.2.1,I O y.2.2]/\UU y/\Hid (y=AZ b1 b2 r x ((x::bt).take k)))
 case atStart=>exact⟨0,x,V5 _,rfl,rfl,Z,HQ,HR,HX,f9 x (by simp),Q0 rfl⟩
 obtain⟨k,y,k7,rfl,rfl,v,u,hR,hY,f4,f8⟩:=hrel
 by_cases b8:k<n3
 ·have a4:k< (x::bt).length:=by have:=g6.out;omega
  obtain⟨x0,x1,x2⟩:=NG hR a4;have b0:(k:Int)< (n3:Int):=by omega
  have e8:(0:Int)<=(k:Int):=by omega
  have HT:=Q0 (Xf a4);have a7:=f9.out _ (Y1 a4);obtain⟨p,E⟩: ∃p,Hid ((x::bt)[k]=p):=⟨_,Q0 rfl⟩;rw[E.out]at x0 x1 x2 HT a7;have D:Below wr.heap.size wr (wr.alloc (.cells #[I O p.1,I O p.2.1,I O p.2.2] 241)):=(Q2 _ _).alloc (Q4 _) _;have HQ:=Q0 (J4 u D);have Z:=Q0 (v.trans (D.mono v.size));have HR:=Q0 (hR.below D);have HX:=Q0 (J9 wr 241 #[I O p.1,I O p.2.1,I O p.2.2]);have C:=Q0 (J4 hY D);have c9:=v.size;have h8:=J5 hY;have i2:=J5 u;have j8:=hR.lt (g:=gr) rfl;have h9:=Q0 a7;have g3:=Q0 f4;clear u v D hR hY f4;obtain⟨⟨q1,q2⟩,_⟩:=a7;obtain⟨⟨q3,q4⟩,_⟩:=g3.out;obtain⟨p0,p1,U⟩:=p;obtain⟨N,y1,y2⟩:=y;dsimp only at x0 x1 x2 q1 q2 q3 q4;go_upto_block 8 with fail
  go_cut [22] (fun f6 wx=>f6= .bool (ZX b1 b2 r (p0,p1,U) (N,y1,y2))/\Below w.heap.size w wx/\Q1 wx w.heap.size 83 #[I O 0,I O 0,I O 0]/\
   J2 wx (some ⟨gr,0,none⟩) n3 c3 241 3 (Q9 X8 (x::bt))/\Q1 wx J.heap.size 241 #[I O N,I O y1,I O y2]/\Q1 wx wr.heap.size 241 #[I O p0,I O p1,I O U])
  case first=>
   clear x0 x1 x2;have z0:(wr.alloc (.cells #[I O p0,I O p1,I O U] 241)).cell? ⟨J.heap.size,0,none⟩=some (I O N):=by rw[J0 C.out];rfl
   cases b1 with
   |true=>
    go_wp2_with fail
    go_meet;exact⟨by simp[ZX],Z,HQ,HR,C,HX⟩
   |false=>
    cases b2 with
    |true=>
     go_wp2_with fail
     go_meet;exact⟨by simp[ZX],Z,HQ,HR,C,HX⟩
    |false=>
     go_wp2_with fail
     go_quiet ((go_at_call 141;exact TU ((Ad _ _ (by omega)).mono (fun _ _ ⟨h1,h2⟩=>⟨h1,h2.symm⟩))))
     by_cases h1:UY (p0-r)<UY (N-r)
     ·have t1:=Z5 h1
      have c2:Hid (ZX false false r (p0,p1,U) (N,y1,y2)=true):=Q0 (by simp[ZX,h1]);clear h1;go_wp2_with fail
      go_meet;exact⟨by rw[c2.out],U7 Z _,P9 HQ _,HR.below (U7 (Q2 _ _) _),P9 C _,P9 HX _⟩
     have t1:=Z1 h1
     by_cases h2:UY (p0-r)=UY (N-r)
     ·have t2:=Z0 h2
      have c2:Hid (ZX false false r (p0,p1,U) (N,y1,y2)=decide (p0<N)):=Q0 (by unfold ZX;dsimp only;rw[t1,t2];simp);have g4:(wr.alloc (.cells #[I O p0,I O p1,I O U] 241)).cell? ⟨wr.heap.size,0,none⟩=some (I O p0):=by rw[J0 HX.out];rfl
      clear h1 h2;go_wp2_with fail
      go_meet;exact⟨by rw[c2.out],U7 Z _,P9 HQ _,HR.below (U7 (Q2 _ _) _),P9 C _,P9 HX _⟩
     have t2:=X3 h2;have c2:Hid (ZX false false r (p0,p1,U) (N,y1,y2)=false):=Q0 (by unfold ZX;dsimp only;rw[t1,t2];simp);clear h1 h2;go_wp2_with fail
     go_meet;exact⟨by rw[c2.out],U7 Z _,P9 HQ _,HR.below (U7 (Q2 _ _) _),P9 C _,P9 HX _⟩
  obtain⟨rfl,d7,d9,a1,a8,c5⟩:=hcut;have z0:wc.cell? ⟨wr.heap.size,0,none⟩=some (I O p0):=by rw[J0 c5];rfl
  have z1:wc.cell? ⟨wr.heap.size,1,none⟩=some (I O p1):=by rw[J0 c5];rfl
  have z2:wc.cell? ⟨wr.heap.size,2,none⟩=some (I O U):=by rw[J0 c5];rfl
  have v0:wc.cell? ⟨J.heap.size,0,none⟩=some (I O N):=by rw[J0 a8];rfl
  have v1:wc.cell? ⟨J.heap.size,1,none⟩=some (I O y1):=by rw[J0 a8];rfl
  have v2:wc.cell? ⟨J.heap.size,2,none⟩=some (I O y2):=by rw[J0 a8];rfl
  have f0:=J1 a8 0;have f1:=J1 a8 1;have f2:=J1 a8 2;have b9:AZ b1 b2 r x ((x::bt).take (k+1))=if ZX b1 b2 r (p0,p1,U) (N,y1,y2)=true then(p0,p1,U)else(N,y1,y2):=by
   rw[HT.out,Qi3,<-f8.out]
  cases c0:ZX b1 b2 r (p0,p1,U) (N,y1,y2)with
  |true=>
   rw[c0]at b9;have e2:=Q0 b9;have j4:=Q0 c0;have H1:=Q0 d7;have H2:=Q0 d9;have H3:=Q0 a1;have H4:=Q0 a8;clear b9 c0 d7 d9 a1 a8 c5 x0 x1 x2;go_wp2_with fail
   go_roundg (n3- (k+1))
   case measure=>omega
   have g5:=Po wc J.heap.size 0 1 2 (I O p0) (I O p1) (I O U);have j0:=H1.size;refine⟨k+1,(p0,p1,U),by omega,rfl,by go_num,((H1.setCell (by simp;omega) _).setCell (by simp;omega) _).setCell (by simp;omega) _,X0 H2 g5 (by omega),H3.keeps g5 (fun g hg e=>by cases hg;have e':gr=J.heap.size:=e;omega), ?_,h9.out,Q0 (by rw[e2.out];rfl)⟩;exact J7 (J7 (J7 H4 0 (I O p0)) 1 (I O p1)) 2 (I O U)
  |false=>
   rw[c0]at b9;have e2:=Q0 b9;have j4:=Q0 c0;have H1:=Q0 d7;have H2:=Q0 d9;have H3:=Q0 a1;have H4:=Q0 a8;clear b9 c0 d7 d9 a1 a8 c5 x0 x1 x2;go_wp2_with fail
   go_roundg (n3- (k+1))
   case measure=>omega
   exact⟨k+1,(N,y1,y2),by omega,rfl,by go_num,H1,H2,H3,H4,g3,Q0 (by rw[e2.out];rfl)⟩
 obtain rfl:k=n3:=by omega
 have b0: ¬(k:Int)< (k:Int):=by omega
 have h3:Hid (ER ps r=(y.1,U8 y,y.2.1-y.2.2)):=Q0 (by
  rw[f7.out];show WR [AZ (CX (x::bt)) (BA (x::bt)) r x (x::bt)]=_;rw[<-e6.1,<-e6.2];have:=f8.out;rw[N7 (by rw[g6.out];exact Q4 _)]at this;rw[<-this]
  rfl)
 have h8:=J5 hY
 have i2:=J5 u
 obtain⟨N,y1,y2⟩:=y
 obtain⟨⟨q1,q2⟩,⟨q3,q4⟩,⟨q5,q6⟩⟩:=f4
 dsimp only at q1 q2 q3 q4 q5 q6
 have k6:IntKind.i64.wrap (y1-y2)=y1-y2:=IntWalk.i64_in _ (by omega)
 have hT:=Jt (N,y1,y2)
 unfold QX at hT
 dsimp only at hT
 obtain⟨t5,g9⟩: ∃t,Hid (U8 (N,y1,y2)=t):=⟨_,Q0 rfl⟩
 rw[g9.out]at hT
 have h5:=Q0 hT
 have z0:wr.drew.cell? ⟨J.heap.size,0,none⟩=some (I O N):=by rw[J0 (Z2 hY)];rfl
 have z1:wr.drew.cell? ⟨J.heap.size,1,none⟩=some (I O y1):=by rw[J0 (Z2 hY)];rfl
 have z2:wr.drew.cell? ⟨J.heap.size,2,none⟩=some (I O y2):=by rw[J0 (Z2 hY)];rfl
 have u0:wr.drew.cell? ⟨w.heap.size,0,none⟩=some (I O 0):=by rw[J0 (Z2 u)];rfl
 have u1:wr.drew.cell? ⟨w.heap.size,1,none⟩=some (I O 0):=by rw[J0 (Z2 u)];rfl
 have u2:wr.drew.cell? ⟨w.heap.size,2,none⟩=some (I O 0):=by rw[J0 (Z2 u)];rfl
 have g0:=J1 (Z2 u) 0
 have g1:=J1 (Z2 u) 1
 have g2:=J1 (Z2 u) 2
 have HQ:=Q0 u
 have Z:=Q0 v
 clear hT u hY hR v
 go_wp2_with fail
 go_region_held3 (fun w'=>(w'.cell? ⟨J.heap.size,0,none⟩=some (I O N)/\w'.cell? ⟨J.heap.size,1,none⟩=some (I O y1)/\w'.cell? ⟨J.heap.size,2,none⟩=some (I O y2))/\
   (w'.cell? ⟨w.heap.size,0,none⟩=some (BT w' ⟨w.heap.size,0,none⟩)/\w'.cell? ⟨w.heap.size,1,none⟩=some (BT w' ⟨w.heap.size,1,none⟩)/\w'.cell? ⟨w.heap.size,2,none⟩=some (BT w' ⟨w.heap.size,2,none⟩))/\w'.frozen? ⟨w.heap.size,0,none⟩=false/\w'.frozen? ⟨w.heap.size,1,none⟩=false/\w'.frozen? ⟨w.heap.size,2,none⟩=false)
  (first|exact⟨⟨z0,z1,z2⟩,⟨EF u0,EF u1,EF u2⟩,g0,g1,g2⟩|assumption|exact Pp (g:=J.heap.size) (B:=w.heap.size) f3 (by assumption)|exact SZ (g:=J.heap.size) (B:=w.heap.size) (by omega) 2 _ (SZ (by omega) 1 _ (SZ (by omega) 0 _ (by assumption))))
  ((go_at_call 140;refine(h5 _).mono ?_;rintro e w9 ⟨rfl,f3⟩))
 go_wp2_with fail
 try simp only[Exit.inBlock,Exit.then]
 have j0:=Z.size
 refine Df (g:=w.heap.size) (cs:= #[I O N,I O t5,I O (y1-y2)]) (by with_unfolding_all rfl) (by with_unfolding_all rfl) (J7 (J7 (J7 (J4 (Z2 HQ) f3) 0 _) 1 _) 2 _) rfl ?_
 refine⟨?_,(((Z.drew.trans (f3.mono (by simp;omega))).setCell (by simp) _).setCell (by simp) _).setCell (by simp) _⟩
 rw[h3.out,<-g9.out]
 rfl
theorem Qq9 {w a Q g cs} (hp:a.tmps.getD 4 undef= IP (some ⟨g,0,none⟩)) (i:a.defers= [])
  (j:Q1 w g 83 cs) (h2:cs.size=3) (h:Q (.returned (.agg cs)) w):bodyPost prog Tryz.f80 Q .ret a w:=
 P4 (PG Tryz.results80 a.tmps w g _ cs (0,0) _ hp j TC rfl (by rw[h2];kernel_rfl)) i h
theorem Qr0 w X t cs o A c lv bu se (h:XQ w X t cs o A c lv bu se) (C:BG lv bu se) r (hr: -1099511627776<=r/\r<=1099511627776) (U: ∀p∈XM lv bu se r,UU p) (hl:(XM lv bu se r).length<=100000):
  Calls prog 80 #[IP (some ⟨X,o,none⟩),I O r] w fun e w'=>e= .returned (QX (KV (XM lv bu se r) r))/\Below w.heap.size w w':=by
 have v:Below w.heap.size w (w.alloc (.cells #[I O 0,I O 0,I O 0] 83)):=(Q2 _ w).alloc (Q4 _) _
 have HP:=Q0 (Qh6 _ X t cs o A c lv bu se (h.below v) C r)
 have J:=Q0 (fun(W:World) (A:Option Addr) (c:Nat) (hR:J2 W A (XM lv bu se r).length c 244 3 (Q9 X8 (XM lv bu se r)))=>Qf5 A _ c r hr (XM lv bu se r) W (VV E6 (by omega) hR) U hl)
 have Z:=Q0 v
 have HX:=Q0 (J9 w 83 #[I O 0,I O 0,I O 0])
 obtain⟨⟨t0,t1,t2⟩,E⟩: ∃q,Hid (KV (XM lv bu se r) r=q):=⟨_,Q0 rfl⟩
 rw[E.out]
 clear h C U hl v
 go_enter func80,ntmps80
 go_wp2_with fail
 refine HP.mono ?_
 rintro e w2 ⟨D,A2,c2,rfl,N⟩
 have j:=J.out w2 A2 c2 N
 rw[E.out]at j
 unfold QX at j
 dsimp only at j
 have a0:=Q0 j
 have u:=Q0 D
 clear j D N J HP
 go_wp2_with fail
 refine a0.mono ?_
 rintro e w3 ⟨rfl,y⟩
 have i:=J4 (J4 HX u) y
 have a4:=J1 i 0
 have a3:=J1 i 1
 have a5:=J1 i 2
 obtain⟨z0,z1,z2⟩:w3.cell? ⟨w.heap.size,0,none⟩=some (I O 0)/\w3.cell? ⟨w.heap.size,1,none⟩=some (I O 0)/\w3.cell? ⟨w.heap.size,2,none⟩=some (I O 0):=⟨by rw[J0 i];rfl,by rw[J0 i];rfl,by rw[J0 i];rfl⟩
 have a1:=Q0 i
 have a2:=Q0 (Z.trans ((u.trans (y.mono u.size)).mono Z.size))
 clear i y a0
 go_wp2_with fail
 refine Qq9 (g:=w.heap.size) (cs:= #[I O t0,I O t1,I O t2]) (by with_unfolding_all rfl) (by with_unfolding_all rfl) (J7 (J7 (J7 a1 0 _) 1 _) 2 _) rfl ?_
 exact⟨rfl,((a2.setCell (Q4 _) _).setCell (Q4 _) _).setCell (Q4 _) _⟩
section
open Go.Lib
theorem Qr1:(prog.info? 29).map (fun i=>(i.hasPointers,i.bytes,i.size))=some (false,40,5):=by kernel_rfl
theorem Qi4:(prog.info? 47).map (fun i=>i.desc)=some (.slice 29):=by kernel_rfl
theorem Dg: ∃i,prog.info? 29=some i/\i.hasPointers=false/\i.bytes=40/\i.size=5:=by
 have h:=Qr1
 cases j:prog.info? 29 with
 |none=>rw[j]at h;cases h
 |some i=>
  rw[j]at h;injection h with h
  injection h with h1 h2
  injection h2 with h2 u
  exact⟨i,rfl,h1,h2,u⟩
theorem Wi: ∃i,prog.info? 47=some i/\i.desc= .slice 29:=by
 have h:=Qi4
 cases j:prog.info? 47 with
 |none=>rw[j]at h;cases h
 |some u=>
  rw[j]at h;injection h with h
  exact⟨u,rfl,h⟩
theorem Ja8 : Tryz.prog.funcs.findIdx? (·.name == "internal/reflectlite" ++ ".Swapper$" ++ toString 1) = some 158 := by kernel_rfl
theorem Ja9 : Tryz.prog.funcs.findIdx? (·.name == "internal/reflectlite" ++ ".Swapper$" ++ toString 2) = some 159 := by kernel_rfl
theorem Jb0 : Tryz.prog.funcs.findIdx? (·.name == "internal/reflectlite" ++ ".Swapper$" ++ toString 9) = some 166 := by kernel_rfl
def DT (n:Nat):Nat:=if n=0 then 158 else if n=1 then 159 else 166
def MD (P:Program) (p:Option Addr) (n c:Nat):Array Value:=if n<=1 then #[]else #[.slice p n c,typeHandle P 29]
def SU (p:Option Addr) (n c:Nat) (w:World):World:=(w.alloc (.cells #[.slice p n c] 47)).alloc (.cells #[IP (some ⟨1,47,none⟩),IP (some ⟨w.heap.size,0,none⟩),.int .u64 151] 162)
theorem Su (p:Option Addr) (n c:Nat) (hn:n<=1000000) (lf:Fn) (la lb:Array Value) (w:World) (R:World->Prop)
  (hp:Calls prog 115 #[.agg #[.func lf la lb,.func (.func (DT n)) #[] (MD prog p n c)],I O n] (SU p n c w) fun e w'=>e= .returned (.tuple #[])/\R w'):
  Calls prog 83 #[.iface 47 (.slice p n c),.func lf la lb] w fun e w'=>e= .returned (.tuple #[])/\R w':=by
 obtain⟨j,a0,N,U,q3⟩:=Dg
 obtain⟨i,v,u⟩:=Wi
 have hf : Tryz.prog.funcs.findIdx? (·.name == "internal/reflectlite" ++ ".Swapper$" ++ toString (swapperK n j 25)) = some (DT n) := by
  by_cases J:n=0
  ·subst J
   have e:swapperK 0 j 25=1:=by simp[swapperK]
   rw[e];unfold DT;rw[Q5 rfl];exact Ja8
  by_cases h1:n=1
  ·subst h1
   have e:swapperK 1 j 25=2:=by simp[swapperK]
   rw[e];unfold DT;rw[Q3 J,Q5 rfl];exact Ja9
  have e:swapperK n j 25=9:=by
   have D:(n ==0)=false:=by simp;omega
   have E:(n ==1)=false:=by simp;omega
   simp[swapperK,N,U,D,E]
  rw[e];unfold DT;rw[Q3 J,Q3 h1];exact Jb0
 have Z:(if swapperK n j 25<=2 then(#[]:Array Value)else #[.slice p n c,typeHandle prog 29])=MD prog p n c:=by
  unfold MD
  by_cases h1:n<=1
  ·have:swapperK n j 25<=2:=by
    rcases(by omega:n=0\/n=1)with rfl|rfl
    ·simp[swapperK]
    simp[swapperK]
   rw[Q5 h1,Q5 this]
  have e:swapperK n j 25=9:=by
   have D:(n ==0)=false:=by simp;omega
   have E:(n ==1)=false:=by simp;omega
   simp[swapperK,N,U,D,E]
  rw[Q3 h1,e,Q3 (by omega)]
 have hv:=run_valueOf_slice (P:=prog) 47 29 i v u p n c w
 have y:=fun w=>run_swapper_slice (P:=prog) 47 29 i j v u a0 25 (fun _=>by kernel_rfl) p n c (DT n) hf w
 have hl:=fun a w ha=>run_valueLen_slice (P:=prog) 47 29 i v u (by kernel_rfl) a p n c w ha
 unfold SU at hp
 rw[Z]at y
 generalize MD prog p n c=B at y hp
 generalize DT n=f at y hp
 have hg:prog.globals.size=1:=by kernel_rfl
 simp only[typeHandle,hg]at hv hl
 have HP:=Q0 hp
 clear hp hf Z v u a0 N U q3
 go_enter func83,ntmps83
 go_wp2_with fail
 rw[Zq func99 (by kernel_rfl) (by kernel_rfl) (by kernel_rfl) (e:=fun C=>Extern.ReflectliteValue.unpack (C.getD 0 (.tuple #[]))) (by kernel_rfl),
  show Sem.run prog ((fun C:Array Value=>Extern.ReflectliteValue.unpack (C.getD 0 (.tuple #[]))) #[.iface 47 (.slice p n c)]) w=_ from hv]
 simp only[Result.andThen]
 rw[Oper.upon_value]
 go_wp2_with fail
 rw [run_callFunc_extern Tryz.func114 (by kernel_rfl) (by kernel_rfl) (by kernel_rfl) (e := Extern.ReflectliteSwapper.swapper "internal/reflectlite" (Extern.ReflectliteValue.valueError "Swapper")) (by kernel_rfl), y]
 simp only[Result.andThen]
 rw[Oper.upon_value]
 go_wp2_with fail
 rw [run_callFunc_extern Tryz.func116 (by kernel_rfl) (by kernel_rfl) (by kernel_rfl) (e := Extern.ReflectliteValue.method (Extern.ReflectliteValue.valueError "reflectlite.Value.Len" 0) Extern.ReflectliteValue.len) (by kernel_rfl),
  hl _ _ (by simp)]
 simp only[Result.andThen]
 rw[Oper.upon_value]
 go_wp2_with fail
 refine HP.mono ?_
 rintro e w' ⟨rfl,hR⟩
 go_wp2_with fail
 go_end0
 exact⟨rfl,hR⟩
structure FK (w0:World) (bs bo br g c:Nat) (side:Int) (n:Nat) (W:World) (l:List Q8):Prop where
 row:J2 W (some ⟨g,0,none⟩) n c 29 5 (Q9 X9 l)
 len:l.length=n
 price: ∀o∈l,-1000000000<=o.price/\o.price<=1000000000
 cbo:W.cell? ⟨bo,0,none⟩=some (.slice (some ⟨g,0,none⟩) n c)
 cbr:W.cell? ⟨br,0,none⟩=some (.func (.func 82) #[] #[IP (some ⟨bs,0,none⟩)])
 cbs:W.cell? ⟨bs,0,none⟩=some (I O side)
 ne:bo≠g/\br≠g/\bs≠g
 keep:Q6 (fun k=>k=g) w0 W
section
variable {w0 W W':World} {bs bo br g c n:Nat} {side:Int} {l:List Q8}
theorem FK.lt (h:FK w0 bs bo br g c side n W l):g<W.heap.size:=h.row.lt rfl
theorem FK.below (h:FK w0 bs bo br g c side n W l) (i:Below W.heap.size W W'):FK w0 bs bo br g c side n W' l:=
 ⟨h.row.below i,h.len,h.price,(i.cell (V6 W _ h.cbo)).trans h.cbo,(i.cell (V6 W _ h.cbr)).trans h.cbr,(i.cell (V6 W _ h.cbs)).trans h.cbs,h.ne,h.keep.then_ i⟩
theorem FK.put (h:FK w0 bs bo br g c side n W l) {l':List Q8} (j:l'.length=n) (hp: ∀o∈l',o∈l) (v:J2 W' (some ⟨g,0,none⟩) n c 29 5 (Q9 X9 l')) (hk:Q6 (fun k=>k=g) W W'):FK w0 bs bo br g c side n W' l':=
 ⟨v,j,fun o u=>h.price o (hp o u),(hk.cell (V6 W _ h.cbo) h.ne.1).trans h.cbo,(hk.cell (V6 W _ h.cbr) h.ne.2.1).trans h.cbr,(hk.cell (V6 W _ h.cbs) h.ne.2.2).trans h.cbs,h.ne,h.keep.trans hk (fun i e=> .inl e)⟩
theorem Qr2 {α:Type} {l:List α} {i j:Nat} {x:α} (h:x∈YD l i j):x∈l:=by
 unfold YD at h
 split at h
 ·rename_i a b h1 h2
  rcases LV h with h|rfl
  ·rcases LV h with h|rfl
   ·exact h
   exact List.mem_of_getElem? h2
  exact List.mem_of_getElem? h1
 exact h
theorem Jh8 (h2:2<=n):AX 84 #[IP (some ⟨br,0,none⟩),IP (some ⟨bo,0,none⟩)] (DT n) (MD prog (some ⟨g,0,none⟩) n c) g n (KH side) (FK w0 bs bo br g c side n)where
 eg:=XH func84 (by kernel_rfl) rfl
 less:=fun W l i j h hl hi hj hij=>by
  obtain⟨x0,x1,x2,x3,x4⟩:=BZ h.row hi;obtain⟨y0,y1,y2,y3,y4⟩:=BZ h.row hj;have hx:=h.price _ (Y1 hi);have hy:=h.price _ (Y1 hj);have hc:=Qz1 bs bo br g n c i j side l[i] l[j] W ⟨h.cbs,h.cbo,h.cbr,x0,x1,x2,x3,x4,y0,y1,y2,y3,y4,Q2 _ _⟩ (by omega) (by omega) hx.1 hx.2 hy.1 hy.2;exact hc.mono fun e w' ⟨h1,h2⟩=>⟨h1,h.below h2,U1 h2 _⟩
 swap:=fun W l i j h hl hi hj hij=>by
  obtain⟨ie,hie,q1,q2,q3⟩:=Dg;have hi':i<l.length:=by omega
  have hj':j<l.length:=by omega
  have cc: ∀x,(hx:x<l.length)-> ∀u v,(X9 l[x])[u]?=some v->W.cell? ⟨g,0+x*ie.size+u,none⟩=some v:=fun x hx u v hv=>by
   obtain⟨g',hg,hcell⟩:=h.row.elem H6 (by omega) hx
   cases hg;rw[q3,QQ];exact hcell u v hv
  have hsw:=run_swap_cells (P:=prog) false 29 ie hie (fun _=>by kernel_rfl) g 0 n c i j hi hj (X9 l[i]) (X9 l[j]) (by rw[q3];rfl) (by rw[q3];rfl) (JK _) (JK _) W (cc i hi') (cc j hj')
   (fun k _=>h.row.frozen _) (fun k _=>h.row.frozen _)
  have ef:DT n=166:=by unfold DT;rw[Q3 (by omega),Q3 (by omega)]
  have eb:MD prog (some ⟨g,0,none⟩) n c= #[.slice (some ⟨g,0,none⟩) n c,typeHandle prog 29]:=by unfold MD;rw[Q3 (by omega)]
  rw[ef,eb];refine⟨(W.setCells g (0+i*ie.size) (X9 l[j])).setCells g (0+j*ie.size) (X9 l[i]), ?_, ?_, ?_⟩
  ·rw[Zq func166 (by kernel_rfl) (by kernel_rfl) (by kernel_rfl) (e:=Extern.ReflectliteSwapper.swap false) (by kernel_rfl),
    show(#[Value.int .i64 (i:Int),Value.int .i64 (j:Int)]++ #[Value.slice (some ⟨g,0,none⟩) n c,typeHandle prog 29])= #[I O i,I O j,.slice (some ⟨g,0,none⟩) n c,typeHandle prog 29]from rfl,hsw]
   rfl
  ·refine h.put (by rw[Wa];exact hl) (fun o ho=>Qr2 ho) ?_ ((DU _ _ _ _).trans (DU _ _ _ _) (fun i e=> .inl e))
   rw[Qy7 hi' hj',q3,QQ,QQ];have r1:=h.row.sets (X9 l[j]) W _ (i*5);rw[NY H6 _ _ _ hi']at r1;have r2:=r1.sets (X9 l[i]) _ _ (j*5)
   rwa [NY H6 _ _ _ (by simpa using hj')]at r2
  exact(DU _ _ _ _).trans (DU _ _ _ _) (fun i e=> .inl e)
 alloc:=fun W l o h=>h.below ((Q2 _ _).alloc (Q4 _) _)
 lt:=fun W l h=>h.lt
end
def FG (l:List Q8):List (Q8×Nat):=l.zipIdx
theorem Gn (l:List Q8):LQ (FG l):=by
 unfold LQ FG
 rw[DZ]
 intro i j v y u
 simp
 exact u
theorem Me (l:List Q8):(FG l).map (·.1)=l:=by unfold FG;simp
theorem Sv (w:World) (bs bo br c n:Nat) (A:Option Addr) (side:Int) (l:List Q8) (hn:n<=100000) (C:J2 w A n c 29 5 (Q9 X9 l)) (hp: ∀o∈l,-1000000000<=o.price/\o.price<=1000000000)
  (h1:w.cell? ⟨bo,0,none⟩=some (.slice A n c)) (h2:w.cell? ⟨br,0,none⟩=some (.func (.func 82) #[] #[IP (some ⟨bs,0,none⟩)])) (h3:w.cell? ⟨bs,0,none⟩=some (I O side)) (a0: ∀g,Q7 A=some g->bo≠g/\br≠g/\bs≠g):
  Calls prog 83 #[.iface 47 (.slice A n c),.func (.func 84) #[] #[IP (some ⟨br,0,none⟩),IP (some ⟨bo,0,none⟩)]] w fun e w'=>e= .returned (.tuple #[])/\(J2 w' A n c 29 5 (Q9 X9 (YC (KH side) l))/\Q6 (fun k=>Q7 A=some k) w w'):=by
 have v:l.length=n:=YW H6 (by omega) C
 have u:Below w.heap.size w (SU A n c w):=((Q2 _ w).alloc (Q4 _) _).alloc (by simp) _
 refine Su A n c (by omega) _ _ _ w _ ?_
 by_cases hs:2<=n
 ·obtain⟨g,hA,-⟩:=C.elem H6 (by omega) (i:=0) (by omega)
  subst hA;obtain⟨n1,n2,n3⟩:=a0 g rfl;have a1:FK w bs bo br g c side n (SU (some ⟨g,0,none⟩) n c w) l:=
   ⟨C.below u,v,hp,(u.cell (V6 w _ h1)).trans h1,(u.cell (V6 w _ h2)).trans h2,(u.cell (V6 w _ h3)).trans h3,⟨n1,n2,n3⟩,U1 u _⟩
  have E:=(Jh8 (w0:=w) (bs:=bs) (bo:=bo) (br:=br) (g:=g) (c:=c) (side:=side) hs).tag;have J:=Es E (by omega) (SU (some ⟨g,0,none⟩) n c w) (FG l) (Gn l) (by rw[Me];exact a1) (by unfold FG;simpa using v);refine J.mono ?_;rintro e w' ⟨rfl,⟨T,U,Z,D⟩,-⟩;have y:T.map (·.1)=YC (KH side) l:=Fw U Z;rw[y]at D;exact⟨rfl,D.row,D.keep.mono (fun i e=>by rw[e];rfl)⟩
 have E:AX (α:=Q8×Nat) 84 #[IP (some ⟨br,0,none⟩),IP (some ⟨bo,0,none⟩)] (DT n) (MD prog A n c) bo n (fun x=>KH side x.1) (fun W T=>Below w.heap.size w W/\T=FG l):=
  {eg:=XH func84 (by kernel_rfl) rfl,
   less:=fun W l i j h v hi hj N=>absurd N (by omega),
   swap:=fun W l i j h v hi hj N=>absurd N (by omega),
   alloc:=fun W l o h=>⟨h.1.alloc h.1.size _,h.2⟩,
   lt:=fun W l h=>T8 (V6 w _ h1) h.1.size}
 have J:=Es E (by omega) (SU A n c w) (FG l) (Gn l) ⟨u,rfl⟩ (by unfold FG;simpa using v)
 refine J.mono ?_
 rintro e w' ⟨rfl,⟨T,U,Z,hB,rfl⟩,-⟩
 have y:(FG l).map (·.1)=YC (KH side) l:=Fw U Z
 rw[Me]at y
 exact⟨rfl,by rw[<-y];exact C.below hB,U1 hB _⟩
