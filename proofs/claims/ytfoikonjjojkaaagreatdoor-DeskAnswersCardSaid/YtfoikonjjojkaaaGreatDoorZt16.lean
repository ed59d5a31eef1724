/- Parts. -/
import Derived.Test.YtfoikonjjojkaaaGreatDoorZt15
set_option linter.unusedVariables false
set_option maxRecDepth 100000
set_option maxHeartbeats 8000000
open Go.Proofs.Tryz
open Go.Value renaming int→I,pointer→IP
open Go.IntKind renaming i64→O
namespace Go.Proofs.YtfoikonjjojkaaaGreatDoor
open Go.RowKit
theorem Ss{w t Q g cs v}(hp:t.tmps.getD 4 undef=pA g)(i:t.tmps.getD 5 undef=v)(u:t.defers=[])(y:J7 w g 84 cs) (E:cs.size=5) (h:Q (.returned (.tuple #[.agg cs,v])) w):bodyPost prog Tryz.f145 Q .ret t w:=by
 refine QA (v:=.tuple #[.agg cs,v]) ?_ u h;have C:=Vl (P:=prog) w g _ 84 cs (0,0) _ y underlying84 rfl (by rw[E];kernel_rfl);have D:t.tmps[4]?.getD undef=pA g:=by simpa using hp
 have j:t.tmps[5]?.getD undef=v:=by simpa using i
 simp[results,Tryz.results145,D,j,asAddr,C]
theorem Hd w b a F M n r f H reg(u:Y0 w b a F M n r f H reg)id(y:f id=none):Calls prog 145 #[pA b,I O id] w fun e w'=>e=.returned (.tuple #[.agg #[I O 0,I O 0,I O 0,I O 0,I O 0],Y9 7])/\Bz w w':=by
 have j:Bz w (w.alloc (.cells #[I O 0,I O 0,I O 0,I O 0,I O 0] 84)):=(J9 _ w).alloc Q2 _;have i:=u.below j;have a0:=Vq i.mp y;obtain⟨E,y1,J,N,Z,y5⟩:=i.cells;obtain⟨D,C⟩:=Xt6 (Z5 w 84 #[I O 0,I O 0,I O 0,I O 0,I O 0]) j;clear E J N Z y5 u i y j;go_enter func145,ntmps145
 go_wp2_with fail
 refine Ss (g:=zS w) (cs:= #[I O 0,I O 0,I O 0,I O 0,I O 0]) (v:=Y9 7) Q6 Q6 Q6 (G0 D _) rfl ?_;exact⟨rfl,C.alloc Q3 _⟩
theorem Pp w b a F M n r f H reg(u:Y0 w b a F M n r f H reg)id x(hf:f id=some (AM x))(C:M x.1.1 x.1.2=some x.2):Calls prog 145 #[pA b,I O id] w fun e w'=>e=.returned (.tuple #[V6 x.2,.nilIface])/\Bz w w':=by
 have D:Bz w (w.alloc (.cells #[I O 0,I O 0,I O 0,I O 0,I O 0] 84)):=(J9 _ w).alloc Q2 _;have y:=u.below D;have a1:=WN y.mp hf;obtain⟨y0,y1,y2,y3,y4,y5⟩:=y.cells;obtain⟨⟨h1,h2⟩,o⟩:=x;dsimp only at a1 C;have HX:=J6 (G0 (Z5 w 84 #[I O 0,I O 0,I O 0,I O 0,I O 0]) (.cells #[I O h1,I O h2,I O o.side,I O o.price,.bool (o.kind ==2)] 263));have E:Bz w ((w.alloc (.cells #[I O 0,I O 0,I O 0,I O 0,I O 0] 84)).alloc (.cells #[I O h1,I O h2,I O o.side,I O o.price,.bool (o.kind ==2)] 263)):=D.alloc Q3 _;obtain⟨HG,N⟩:=Xt6 (Ex (u.below E) C _ (Z2 Q5)) E;have a2:=Z9 u.blk;clear y2 y3 y4 y5 u y hf D E C;go_enter func145,ntmps145
 go_wp2_with fail
 go_region_with (go_at_call 202;refine HG.mono ?_;rintro e w5⟨rfl,J⟩;have j:=Z4 (Y6 HX) J;have z0:=(BW j).1;have z1:=(BW j).2.1;have z2:=(BW j).2.2.1;have z3:=(BW j).2.2.2.1;have z4:=(BW j).2.2.2.2;have f0:=K0 j 0;have f1:=K0 j 1;have f2:=K0 j 2;have f3:=K0 j 3;have f4:=K0 j 4;have a0:=J6 j;have Z:=J6 (N.trans ((Z2 Q5).trans (J.mono Q2) |>.mono N.size));clear J j)
 all_goals go_wp2_with fail
 all_goals
  refine Ss (g:=zS w) (cs:=Z8 o) (v:=.nilIface) Q6 Q6 Q6 ?_ rfl ?_
  ·exact Z0 (Z0 (Z0 (Z0 (Z0 a0 0 _) 1 _) 2 _) 3 _) 4 _
  refine⟨rfl,Z.trans ?_⟩;exact(Ey _ _ _ _ _ _ _).below (B:=zS w) (fun i e=>by have e':i=(zS w):=e;omega) Z.size
theorem Hf w b G L1 L2(h:JC w b G L1 L2)id:Calls prog 145 #[pA b,I O id] w fun e w'=>Bz w w'/\((B4 (L1++L2) id=none/\e=.returned (.tuple #[V6 D4,Y9 7]))\/(∃o,B4 (L1++L2) id=some o/\e=.returned (.tuple #[V6 o,.nilIface]))):=by
 obtain⟨a,F,M,n,r,f,H,reg,C,i,E,rfl,rfl⟩:=h
 cases u:f id with
 |none=>
  refine(Hd w b a F M n r f H reg C id u).mono ?_;rintro e w'⟨rfl,j⟩;exact⟨j,.inl ⟨Ul i u,rfl⟩⟩
 |some v=>
  obtain⟨x,y,J6⟩:=i.hk _ _ u;have D:=i.hf x y;rw[J6]at D;refine(Pp w b a F M n r f H reg C id x D (i.hM x y)).mono ?_;rintro e w'⟨rfl,j⟩;exact⟨j,.inr ⟨x.2,by rw[<-J6];exact Uk i y,rfl⟩⟩
theorem Gy{w r f}(h:QF w r f){k x}(e:f k=some (AM x)):(Instr.lookup 266 (.map (some r)) (I O k) false).run prog w= .ok (.agg #[I O x.1.1,I O x.1.2,I O x.2.side,I O x.2.price,.bool (x.2.kind ==2)]) w:=by have:=h.lookup (P:=prog) underlying266 underlying3 (z:=.agg #[I O 0,I O 0,I O 0,I O 0,.bool false]) Q4 k false;rw[e]at this;exact this
theorem Qs0 w a b c d e:(Instr.field 263 (.agg #[a,b,c,d,e]) 0).run prog w=.ok (.agg #[a,b]) w:=Q4
theorem Xo3{w w' b a r n F F' G M f H reg' x k}(D:B5 M n f H)(E:x∈E8 H)(h1:1<=k)(h2:k<x.2.qty)(y:∀i,G i↔Y1 b r F H i) (C:Y0 w' b a F' (XA M x.1.1 x.1.2 (some (D9 x.2 k))) n r f H reg') (u:U2 w w' (Y1 b r F H) (Y1 b r F' H)):GK w w' b G (QV (H 1).L x.2 k) (QV (H 2).L x.2 k):=by
 have e:∀L,QV L x.2 k=YX L x.2.id k:=fun L=>by unfold QV;rw[J8 Q0]
 rw[e,e];refine⟨Y1 b r F' (LY H x.2.id k),⟨a,F',_,n,r,f,LY H x.2.id k,reg',C.recut,D.cut E h1 h2,fun i=>KL,(Qj4 _).symm,(Qj4 _).symm⟩,u.1.mono (fun i j=>(y i).2 j),fun i j=>?_⟩;exact(u.2 i (Xk7.1 j)).imp (fun h=>(y i).2 h) id
theorem Mi:Qf3:=by
 intro w b G L1 L2 h id n a7;have a3:=h;obtain⟨a,F,M,m,r,f,H,reg,hM,u,hG,rfl,rfl⟩:=h
 cases hf:f id with
 |none=>
  have Z:=Ul u hf;have D:EZ (H 1).L (H 2).L id n=7:=by unfold EZ;rw[Z]
  obtain⟨y,C⟩:=Xt6 (Hd w b a F M m r f H reg hM id hf) D;clear hM u hG hf Z D a3;go_enter func255,ntmps255
  go_wp2_with fail
  refine y.mono ?_;rintro e w1⟨rfl,i⟩;have j:=J6 (i.alloc i.size (.cells #[I O 0,I O 0,I O 0,I O 0,I O 0] 84));rw[show Y9 7=.iface 52 (I O 7)from rfl];clear i;go_wp2;go_ret;refine .inl ⟨?_,?_,j⟩
  ·rw[C.out];decide
  rw[C.out];rfl
 |some v=>
  obtain⟨x,hx,a2⟩:=u.hk _ _ hf;have hv:=u.hf x hx;rw[a2]at hv;have Z:=Uk u hx;rw[a2]at Z;have a8:=u.ok x hx;obtain⟨y,HM,a4,HG,Hx,a5,Hv,N⟩:=Xu2 (Pp w b a F M m r f H reg hM id x hv (u.hM x hx)) hM u hG hx a2 hv Z;have b2:=J6 a3;have c9:=a8.2.2.2;have d0:=J6 a7;clear hM u hG hf Z a3 hx a2 hv a8 a7 v;obtain⟨⟨h1,h2⟩,o⟩:=x;dsimp only at y a5 N c9;unfold V6 at y
  by_cases c1:n<1
  ·have d1:decide (n<1)=true:=V7 c1
   have D:EZ (H 1).L (H 2).L id n=2:=by unfold EZ;rw[N.out];exact X0 (.inl c1)
   have C:=J6 D;clear D c1;go_enter func255,ntmps255
   go_wp2_with fail
   refine y.mono ?_;rintro e w1⟨rfl,i⟩;have j:=J6 (i.alloc i.size (.cells #[I O o.id,I O o.side,I O o.kind,I O o.price,I O o.qty] 84));clear i;go_wp2;go_ret;refine .inl ⟨?_,?_,j⟩
   ·rw[C.out];decide
   rw[C.out];rfl
  have d1:decide (n<1)=false:=V9 c1
  by_cases c2:o.qty<n
  ·have d2:decide (o.qty<n)=true:=V7 c2
   have D:EZ (H 1).L (H 2).L id n=2:=by unfold EZ;rw[N.out];exact X0 (.inr c2)
   have C:=J6 D;clear D c1 c2;go_enter func255,ntmps255
   go_wp2_with fail
   refine y.mono ?_;rintro e w1⟨rfl,i⟩;have j:=J6 (i.alloc i.size (.cells #[I O o.id,I O o.side,I O o.kind,I O o.price,I O o.qty] 84));clear i;go_wp2;go_ret;refine .inl ⟨?_,?_,j⟩
   ·rw[C.out];decide
   rw[C.out];rfl
  have d2:decide (o.qty<n)=false:=V9 c2
  by_cases c3:n=o.qty
  ·subst c3
   have d3:(o.qty ==o.qty)=true:=V4 rfl;go_enter func255,ntmps255
   go_wp2_with fail
   refine y.mono ?_;rintro e w1⟨rfl,i⟩;have E:=i.alloc i.size (.cells #[I O o.id,I O o.side,I O o.kind,I O o.price,I O o.qty] 84);obtain⟨a9,j⟩:=Xt6 (Vo _ b G _ _ (b2.below E) id) E;clear i E;go_wp2_with fail
   refine a9.mono ?_;rintro e w2(⟨h0,-,-⟩|⟨o',h0,rfl,a0⟩)
   ·rw[N.out]at h0
    cases h0
   have b5:=J6 a0;clear a0 h0;rw[DB];go_wp2;go_ret;obtain⟨G',b8,b9⟩:=b5.out;refine .inr ⟨o,N,Q0,T3 _,rfl,G',?_,(S5 j).trans b9⟩;unfold QV;rw[X0 rfl,X0 rfl,a5.out];exact b8
  have d3:(n ==o.qty)=false:=Z3 c3;have hw:RowKit.wrap64 (o.qty-n)=o.qty-n:=by unfold RowKit.wrap64;omega
  go_enter func255,ntmps255
  go_wp2_with fail
  refine y.mono ?_;rintro e w1⟨rfl,i⟩;have E:=(i.alloc i.size (.cells #[I O o.id,I O o.side,I O o.kind,I O o.price,I O (o.qty-n)] 84));have J:=HM.below E;obtain⟨y0,y1,-,-,-,-⟩:=J.cells;have a1:=Xi6 (w:=(w1.alloc (.cells #[I O o.id,I O o.side,I O o.kind,I O o.price,I O (o.qty-n)] 84)).drew) (J.below (Z2 Q5)).ar h1 h2 (by have:=a4.hM _ Hx;dsimp only at this;rw[this];rfl) (D9 o n);unfold V6 D9 at a1;dsimp only at a1;have b1:=J6 a1;have c7:=Gy J.mp Hv;have c8:=Gy (w:=(w1.alloc (.cells #[I O o.id,I O o.side,I O o.kind,I O o.price,I O (o.qty-n)] 84)).drew) (J.below (Z2 Q5)).mp Hv;dsimp only at c7 c8;have b0:=J6 (J.below (Z2 Q5));have a6:=Z5 w1 84 #[I O o.id,I O o.side,I O o.kind,I O o.price,I O (o.qty-n)];obtain⟨z0,z1,z2,z3,z4⟩:=BW a6;have d4:=Z9 J.blk;have d5:=fun W c d e=>Qs0 W (I O h1) (I O h2) c d e
  have j:=J6 (E.trans ((Z2 Q5:Below _ _ (w1.alloc (.cells #[I O o.id,I O o.side,I O o.kind,I O o.price,I O (o.qty-n)] 84)).drew).mono E.size));clear i E J a1 a6;go_wp2_with fail
  go_region_with (go_at_call 274;refine b1.mono ?_;rintro e w5⟨rfl,a0⟩;have HT:=J6 a0;clear a0)
  all_goals go_wp2_with fail
  all_goals
   go_ret;obtain⟨F',reg',c6,c5⟩:=b0.arena HT;exact .inr ⟨o,N,c1,c2,rfl,Xo3 (x:=((h1,h2),o)) a4 Hx c1 (by dsimp only;omega) HG c6 ((S5 j).trans c5)⟩
set_option linter.unusedSimpArgs false
def FB(L:List X6)(id:Int):List X6:=QM L (L.findIdx fun o=>o.id ==id)
theorem Pq{w b off n L}(h:C0 w U0 5 (some (aD b off)) n L){k}(hk:k<=n):C0 w U0 5 (some (aD b off)) k (L.take k):=by
 have hl:=h.1;refine⟨by rw[R7];omega,fun h0=>?_⟩;obtain⟨Z,a0,e,J,D⟩:=h.2 Q0
 cases e;refine⟨b,off,rfl,J,fun i E j u C=>?_⟩;rw[R7]at E;rw[MQ]at C;exact D i Q0 j u C
theorem Jf4{w b off n L}(h:C0 w U0 5 (some (aD b off)) n L){k}(hk:k<=n):C0 w U0 5 (some (aD b (off+k*5))) (n-k) (L.drop k):=by
 have hl:=h.1;refine⟨by rw[UQ];omega,fun h0=>?_⟩;obtain⟨Z,a0,e,J,D⟩:=h.2 Q0
 cases e;refine⟨b,off+k*5,rfl,J,fun i E j u C=>?_⟩;rw[UQ]at E;rw[Xj]at C;have h2:=D (k+i) Q0 j u C;rw[show off+(k+i)*5+j=off+k*5+i*5+j by omega]at h2;exact h2
theorem Jf5{w A L}(h:L.length=0):C0 w U0 5 A 0 L:=⟨h,fun i=>absurd i Q0⟩
theorem Qb6{w b off n k c L}(h:C0 w U0 5 (some (aD b off)) n L)(hk:k+1<=n)(C:n<=c)(D:L.length=n):∃j i u,(if k+1=c then Value.slice (some (aD b off)) 0 0 else .slice (some (aD b (off+(k+1)*5))) (n-(k+1)) (c-(k+1)))=.slice j i u/\k+i=n-1/\C0 w U0 5 j i (L.drop (k+1)):=by
 by_cases e:k+1=c
 ·exact⟨_,_,_,X0 e,Q0,Jf5 (by rw[UQ];omega)⟩
 exact⟨_,_,_,J8 e,Q0,Jf4 h hk⟩
theorem KV.stores{w w3 W4 W9 B t cs o0 A L0 L}(C:KY w B t cs o0 A L0)(J:Bz w w3)(h:KV w3 W4 B t cs o0 A L)(hz:w.heap.size<w3.heap.size)(hk:X4 (fun i=>i=w.heap.size) W4 W9):KV w W9 B t cs o0 A L:=by
 obtain⟨A',c',h1,h2,E⟩:=h;have Z:=C.blt;have D:∀g,X5 A'=some g->X5 A=some g\/w3.heap.size<=g:=E;refine⟨A',c',h1.keeps hk (fun e=>by have e:B=w.heap.size:=e;omega) (fun g u e=>?_),((B9 J _).trans h2 (fun i e=>.inl e)).trans hk (fun i e=>.inr (by have e:i=w.heap.size:=e;omega)),fun g u=>?_⟩
 ·have e:g=w.heap.size:=e
  obtain j|j:=D g u
  ·have:=C.lt g j;omega
  omega
 obtain j|j:=D g u
 ·exact .inl j
 exact .inr Q0
theorem Jf6{L id}(h:B4 L id=none):FB L id=L:=by
 have e:L.findIdx (fun o=>o.id ==id)=L.length:=by rw[List.findIdx_eq_length];intro o i;unfold B4 at h;have:=GN.1 h o i;simpa using this
 unfold FB QM;rw[e];simp
theorem Mj w B t cs o0 A L(h:KY w B t cs o0 A L)(hn:L.length<=100000)id:Calls prog 80 #[IP (some (aD B o0)),I O id] w fun e w'=>e=.returned (.tuple #[V6 (Jq L id),I O (Jp L id)])/\KV w w' B t cs o0 A (FB L id):=by
 have c6:Bz w (w.alloc (.cells #[I O 0,I O 0,I O 0,I O 0,I O 0] 84)):=Q5.alloc Q2 _;obtain⟨HX,HI,HR,HB⟩:=Xt8 (Z5 w 84 #[I O 0,I O 0,I O 0,I O 0,I O 0]) (Dc _ B t cs o0 A L (h.below c6) hn id) h c6;have h5:=h.blt;have h2:L.length<=100000:=hn;obtain⟨i0,e1,e5,e6,e7⟩:=W8 Uj;clear h c6 hn;go_enter func80,ntmps80
 go_wp2_with fail
 refine HI.mono ?_;rintro e w2⟨rfl,b0⟩;have E:=Z4 HX b0;obtain⟨b5,a6⟩:=Xt6 E (HB.trans (b0.mono HB.size));rcases Ke L id with⟨hi,hg⟩|⟨k,hk,hi,e3,g9,hg⟩
 ·have HG:=J6 hg
  rw[hi];have d1:(-1:Int)<0:=Q0;obtain⟨z0,z1,z2,z3,z4⟩:=Qj3 E;have f0:=K0 E 0;have f1:=K0 E 1;have f2:=K0 E 2;have f3:=K0 E 3;have f4:=K0 E 4;clear hi hg E b0 HI;go_wp2_with fail
  refine Qb3 Tryz.results80 (cs:= #[I O 0,I O 0,I O 0,I O 0,I O 0]) (v:=I O 7) w.heap.size rfl Q6 Q6 Q6 (Z0 (Z0 (Z0 (Z0 (Z0 b5 0 _) 1 _) 2 _) 3 _) 4 _) ?_;refine⟨?_,?_⟩
  ·unfold Jq Jp
   rw[HG.out]
   rfl
  rw[Jf6 HG.out];exact RF HR (((((a6.setCell Q2 _).setCell Q2 _).setCell Q2 _).setCell Q2 _).setCell Q2 _)
 have HG:=J6 hg;rw[hi];have h8:(0:Int)<=(k:Int):=Q0;have d1:¬(k:Int)<0:=Q0;have h0:(k:Int)<((L.length:Nat):Int):=Q0;have a2:=HR.below a6;obtain⟨c,y0,d7,g5⟩:=a2.cell;obtain⟨b,a0,hA⟩:∃b a0,A=some ⟨b,a0,none⟩:=by obtain⟨b,a0,h1,_⟩:=a2.els.2 Q0;exact⟨b,a0,h1⟩
 subst hA;obtain⟨x0,x1,x2,x3,x4⟩:=ML a2.els hk;obtain⟨o,EO⟩:∃o,Hid (L[k]=o):=⟨_,J6 rfl⟩;rw[EO.out]at x0 x1 x2 x3 x4 HG;obtain⟨n,hn⟩:=exq L.length;have a4:=J6 a2.els;rw[hn]at y0 h0 hk d7 a4 h2;obtain⟨g1,g2,HN⟩:=Xt7 (show FB L id=QM L k by unfold FB;rw[e3]) a2 hn;unfold maxLen at g5;clear hi hg a2 g9 hn e3 b0 E HI;go_upto_region 5 with fail
 obtain⟨w3,a9⟩:=exq (w2.alloc (.cells #[I O o.id,I O o.side,I O o.kind,I O o.price,I O o.qty] 84));obtain⟨gx,a7⟩:=exq w2.heap.size;have Z:Bz w2 w3:=by rw[<-a9];exact Q5.alloc Q2 _
 obtain⟨d2,e9⟩:=Xt6 (show J7 w3 gx 84 (Z8 o) by rw[<-a9,<-a7];exact Z5 w2 _ _) (a6.trans (Z.mono a6.size));have i3:w.heap.size<gx:=by rw[<-a7];exact Z9 b5
 obtain⟨g3,b2,a4⟩:=Xt7 (Z4 b5 Z) (g2.below Z) (a4.below Z Q2);have y0:w3.cell? ⟨B,o0,none⟩=some (.slice (some ⟨b,a0,none⟩) n c):=(Z.cell (U5 w2 _ y0)).trans y0;rw[a9,a7];have h7:gx<w3.heap.size:=Z9 d2;clear a9 a7 Z x0 x1 x2 x3 x4;obtain⟨a1,g0⟩:=Xt6 (show∀W,Bz w3 W->W.cell? ⟨B,o0,none⟩=some (.slice (some ⟨b,a0,none⟩) n c)from fun W hb=>(hb.cell (U5 w3 _ y0)).trans y0) (show∀W,Bz w3 W->W.frozen? ⟨B,o0,none⟩=false from fun W hb=>K0 (Z4 b2.blk hb) o0);have h9:(k:Int)<=(c:Int):=Q0;have i1:(k:Int)+1<=(c:Int):=Q0;have i2:(k:Int)+1<=(n:Int):=Q0;have h6:(n:Int)<=(c:Int):=Q0
 go_cut [37] (fun i5 wx=>∃D c2 W,X8 W D (n-1) c2 84 5 (X7 U0 (QM L k))/\Bz w3 W/\(∀g,X5 D=some g->w3.heap.size<=g)/\wx=W.setCell ⟨B,o0,none⟩ (.slice D (n-1) c2))
 case first=>
  obtain⟨c8,e8,d3,h3,e4,g7⟩:=Qb6 a4 (k:=k) Q0 d7 HN;have f8:=J6 g7;have i4:IntKind.i64.wrap ((k:Int)+1)=(k:Int)+1:=by rw[YR];omega
  have h4:(0:Int)<=(k:Int)+1:=Q0;refine SP 19 (fun W=>W.cell? ⟨B,o0,none⟩=some (.slice (some ⟨b,a0,none⟩) n c)) Q4 y0 (fun C=>?_);refine tT 0 ?_;refine tT 2 ?_;refine tT 3 ?_;refine tT 4 ?_;refine tT 5 ?_;refine tT 6 ?_;refine tT 7 ?_;refine tT 9 ?_;refine tT 10 ?_;refine tT 11 ?_;refine tT 12 ?_;refine tT 13 ?_;refine tT 14 ?_;refine tT (v:=.slice c8 e8 d3) 15 ?_ (hy:=fun W _=>by
   rw[<-h3]
   by_cases e:k+1=c
   ·obtain rfl:c=k+1:=e.symm
    obtain rfl:n=k+1:=Q0;rw[X0 rfl];go_simp
   have e2:¬c=k+1:=fun h=>e h.symm;rw[J8 e];go_simp)
  clear y0 C;have j:=J6 (show Bz w3 w3 from J9 _ _);refine VU 1 Q4 rfl (fun K1 u=>?_);go_simp;obtain⟨v1,a8⟩:=exq ((w3.alloc (.cells #[] 84)).drew);have Z:Bz w3 v1:=by rw[<-a8];exact Z2 (Q5.alloc Q2 _)
  have f9:=J6 (show X8 v1 (some ⟨w3.heap.size,0,none⟩) 0 0 84 5 [] by rw[<-a8];exact X8.made _ _ _);rw[a8];clear a8;have j:=J6 Z;have a5:=J6 j.size;clear Z;refine u _ _ (a1 _ j) (fun C=>?_);clear u C;refine VU 8 Q4 rfl (fun K1 u=>?_);refine Xm JG BL Q8 _ _ _ Q8 84 i0 _ 40 underlying91 e1 e5 e6 e7 rfl Q0 (some ⟨w3.heap.size,0,none⟩) 0 0 [] Q8 f9 (some ⟨b,a0,none⟩) k c (L.take k) Q8 (Pq (a4.below j Q2) Q0) Q9 Q0 ?_;intro A1 c1 v2 c7 d8 d5;rw[KC,EE]at c7;rw[KC];obtain⟨f7,c9,j⟩:=Xt7 c7 (Qu d5 (Qp Q2) a5) (WT j d8 (Qp Q2) a5);have a5:=J6 j.size;clear c7 d8 d5;refine u _ _ (a1 _ j) (fun C=>?_);clear u C;simp only[Act.put,List.setIfInBounds_toArray,List.set_cons_zero,List.set_cons_succ];refine VU 16 Q4 rfl (fun K1 u=>?_);refine Xm JG BL Q8 _ _ _ Q8 84 i0 _ 40 underlying91 e1 e5 e6 e7 rfl Q0 (A1) k c1 (X7 U0 (L.take k)) Q8 f7 c8 e8 d3 (L.drop (k+1)) Q8 (f8.below j Q2) Q9 Q0 ?_;intro D c2 v3 a3 d9 d6;rw[e4]at a3;rw[e4];obtain⟨f5,f6,j⟩:=Xt7 a3 (Qu d6 c9 a5) (WT j d9 c9 a5);clear a3 d9 d6;refine u _ _ (a1 _ j) (fun C=>?_);clear u C;simp only[Act.put,List.setIfInBounds_toArray,List.set_cons_zero,List.set_cons_succ];refine VU 17 Q4 rfl (fun K1 u=>?_);go_simp;refine u _ _ (a1 _ j) (fun C=>?_);clear u C;refine VU 18 Q4 rfl (fun K1 u=>?_);go_simp;refine u _ _ (a1 _ j) (fun C=>?_);clear u C;have g8:=g0.out _ j;have g6:=a1.out _ j;refine TV Q4 rfl (fun K1 u=>?_);go_simp;refine u _ _ (TZ Q4 ?_ _);clear u g8 g6;go_wp2;go_meet;exact⟨D,c2,v3,by have h:=f5.out;unfold QM;rw[NM];exact h,j,f6,rfl⟩
 obtain⟨D,c2,W,a3,hb,ha,rfl⟩:=hcut;have c5:=ZR (Z4 d2 hb) (p:=⟨B,o0,none⟩) (by have:=b2.blt;show gx≠B;omega) (.slice D (n-1) c2);have J:=ZR (Z4 g3 hb) (p:=⟨B,o0,none⟩) (by show w.heap.size≠B;omega) (.slice D (n-1) c2);have d0:=J6 (b2.put hb a3 ha);obtain⟨W4,d4⟩:=exq (W.setCell ⟨B,o0,none⟩ (.slice D (n-1) c2));rw[d4]at c5 J d0|-;obtain⟨x0,x1,x2,x3,x4⟩:=D7 c5;obtain⟨z0,z1,z2,z3,z4⟩:=Qj3 J;have f0:=K0 J 0;have f1:=K0 J 1;have f2:=K0 J 2;have f3:=K0 J 3;have f4:=K0 J 4;have g4:=J6 J;clear c5 J d4 a3 hb ha y0;go_wp2_with fail
 refine Qb3 Tryz.results80 (cs:=Z8 o) (v:=I O 0) w.heap.size rfl Q6 Q6 Q6 (Z0 (Z0 (Z0 (Z0 (Z0 g4 0 _) 1 _) 2 _) 3 _) 4 _) ?_;refine⟨?_,?_⟩
 ·unfold Jq Jp
  rw[HG.out]
  rfl
 rw[g1.out];exact KV.stores HR e9 d0 Q0 (((((U1 _ ⟨w.heap.size,0,none⟩ _).trans (U1 _ ⟨w.heap.size,1,none⟩ _) (fun i e=>.inl e)).trans (U1 _ ⟨w.heap.size,2,none⟩ _) (fun i e=>.inl e)).trans (U1 _ ⟨w.heap.size,3,none⟩ _) (fun i e=>.inl e)).trans (U1 _ ⟨w.heap.size,4,none⟩ _) (fun i e=>.inl e))
theorem Xc0 w D E s p(J:V5 s)o(c1:w.cell? (aD D 0)=some (I O s))(c2:w.cell? (aD E 0)=some (I O p)):Calls prog 273 #[V6 o,pA D,pA E] w fun e w'=>e=.returned (.bool (VQ s p o))/\Bz w w':=by
 unfold V6;have y:Bz w (w.alloc (.cells #[I O o.id,I O o.side,I O o.kind,I O o.price,I O o.qty] 84)):=Q5.alloc Q2 _;have N:=(y.cell (p:=(aD D 0)) (U5 w _ c1)).trans c1;have Z:=(y.cell (p:=(aD E 0)) (U5 w _ c2)).trans c2;have u:=J6 y;clear y c1 c2
 by_cases hk:o.kind=2
 ·have C:=V4 hk
  have i:Hid (VQ s p o=true):=J6 (by unfold VQ;rw[C];rfl);clear hk J;go_enter func273,ntmps273
  go_wp2;go_ret;exact⟨JH (by rw[i.out]),u⟩
 have C:=Z3 hk;obtain rfl|rfl:=J
 ·have i:Hid (VQ 1 p o=decide (p<=o.price)):=J6 (by unfold VQ;rw[C];simp)
  by_cases hp:p<=o.price
  ·have j:=V7 hp
   clear hk hp;go_enter func273,ntmps273
   go_wp2;go_ret;exact⟨JH (by rw[i.out,j]),u⟩
  have j:=V9 hp;clear hk hp;go_enter func273,ntmps273
  go_wp2;go_ret;exact⟨JH (by rw[i.out,j]),u⟩
 have i:Hid (VQ 2 p o=decide (o.price<=p)):=J6 (by unfold VQ;rw[C];simp)
 by_cases hp:o.price<=p
 ·have j:=V7 hp
  clear hk hp;go_enter func273,ntmps273
  go_wp2;go_ret;exact⟨JH (by rw[i.out,j]),u⟩
 have j:=V9 hp;clear hk hp;go_enter func273,ntmps273
 go_wp2;go_ret;exact⟨JH (by rw[i.out,j]),u⟩
structure Zg(w wr:World)(A:Option Addr)(c:Nat)(L:List X6)(B1 B2:Nat)(s p:Int):Prop where
 row:X8 wr A L.length c 84 5 (X7 U0 L)
 c1:wr.cell? (aD B1 0)=some (I O s)
 c2:wr.cell? (aD B2 0)=some (I O p)
 old:Bz w wr
theorem Zg.below{w wr w' A c L B1 B2 s p}(h:Zg w wr A c L B1 B2 s p)(i:Bz wr w'):Zg w w' A c L B1 B2 s p:=
 ⟨h.row.below i,(i.cell (p:=(aD B1 0)) (U5 wr _ h.c1)).trans h.c1,(i.cell (p:=(aD B2 0)) (U5 wr _ h.c2)).trans h.c2,h.old.trans (i.mono h.old.size)⟩
theorem Vy{s p L}(h:∀o∈L,1<=o.qty/\o.qty<=1000000):0<=H9 s p L/\H9 s p L<=1000000*L.length:=by
 unfold H9
 induction L with
 |nil=>simp[QL]
 |cons o t j=>
  have h1:=h o Q3;have h2:=j (fun y i=>h y (by simp[i]));simp only[QL,List.length_cons]
  split<;>omega
theorem EL{w A n c sz t xs}(h:X8 w A n c t sz xs)(y:0<n):∃g,A=sA g:=by
 rcases h.2 with⟨_,u⟩|⟨g,cap,j,i,_⟩
 ·omega
 cases i;exact⟨g,rfl⟩
theorem Gn w b G L1 L2(h:JC w b G L1 L2)s p(hs:V5 s):Calls prog 253 #[pA b,I O s,I O p] w fun e w'=>e=.returned (I O (H9 s p (V1 s L1 L2)))/\Bz w w':=by
 have d5:∀fn first cap w,(Instr.makeFunc fn first cap).run prog w=.ok (.func fn first cap) w:=fun _ _ _ _=>rfl
 have eg:=R0 func273 Q4 rfl;have hl:=h.lists;obtain⟨L,J⟩:=exq (V1 s L1 L2);have c7:∀o∈L,1<=o.qty/\o.qty<=1000000:=by
  intro o j;rw[<-J]at j;have hm:o∈L1++L2:=by
   unfold V1 at j
   split at j
   ·exact T9 _ j
   exact JJ _ j
  exact(hl.ok o hm).2.2.2
 have d0:L.length<=100:=by
  have h1:=hl.cnt;rw[B6]at h1;rw[<-J];unfold V1
  split<;>omega
 have b0:Bz w (w.alloc (.cells #[I O s] 3)):=(J9 _ w).alloc Q2 _;have a3:Bz w ((w.alloc (.cells #[I O s] 3)).alloc (.cells #[I O p] 3)):=b0.alloc Q3 _;have b9:((w.alloc (.cells #[I O s] 3)).alloc (.cells #[I O p] 3)).cell? (aD (zS w) 0)=some (I O s):=X9 (G0 (Z5 w 3 #[I O s]) _) 0;have c5:((w.alloc (.cells #[I O s] 3)).alloc (.cells #[I O p] 3)).cell? (aD (zS w+1) 0)=some (I O p):=by have:=X9 (Z5 (w.alloc (.cells #[I O s] 3)) 3 #[I O p]) 0;rw[Xl]at this;exact this
 have u:=J6 (Xw _ b G L1 L2 (h.below a3) s hs);rw[J]at u|-;obtain⟨a0,a1,a2,a7,HS⟩:=Xt9 a3 b9 c5 c7 hs;clear b0 a3 b9 c5 h hl J hs c7;go_enter func253,ntmps253
 go_wp2_with fail
 refine u.mono ?_;rintro e w3⟨Z,A,c,rfl,c8,-⟩;have HW:=J6 (show Zg w w3 A c L (zS w) (zS w+1) s p from⟨c8,(Z.cell (p:=(aD (zS w) 0)) (U5 _ _ a1)).trans a1,(Z.cell (p:=(aD (zS w+1) 0)) (U5 _ _ a2)).trans a2,a0.trans (Z.mono a0.size)⟩);obtain⟨n,hn⟩:=exq L.length;rw[hn];have Hn:=J6 hn;have d6:n<=100:=Q0;clear Z c8 u a0 a1 a2 d0 hn;go_wp2_with fail
 go_loopg [7,22] n (fun g s7 d3 wr=>∃i,i<=n/\g=n-i/\d3=I O i/\s7=I O (H9 s p (L.take i))/\Hid (Zg w wr A c L (zS w) (zS w+1) s p))
 case atStart=>exact⟨0,U9 _,rfl,rfl,rfl,HW⟩
 obtain⟨i,hi,rfl,rfl,rfl,C⟩:=hrel;clear HW
 by_cases d1:i<n
 ·have c6:i<L.length:=by rw[Hn.out];exact d1
  obtain⟨g,hg⟩:=EL C.row Q0;subst hg;obtain⟨x0,x1,x2,x3,x4⟩:=ER C.row c6;obtain⟨o,j⟩:=exq (L[i]);have d7:=a7.out o (by rw[<-j];exact C7 _);rw[j]at x0 x1 x2 x3 x4;have D:=J6 (show H9 s p (L.take (i+1))=H9 s p (L.take i)+(if VQ s p o=true then o.qty else 0) by rw[M9 c6,Lk,j];unfold H9;simp only[QL];omega)
  have b2:=Vy (s:=s) (p:=p) (fun y hy=>a7 y (CV hy):∀y∈L.take i,_);rw[R7,Hn.out,SW Q0]at b2;obtain⟨E,b1⟩:=exq (H9 s p (L.take i));rw[b1]at D b2|-;have i1:RowKit.wrap64 (E+o.qty)=E+o.qty:=by unfold RowKit.wrap64;omega
  have b5:Bz wr (wr.alloc (.cells #[I O o.id,I O o.side,I O o.kind,I O o.price,I O o.qty] 84)):=Q5.alloc Q2 _;have N:=C.below b5;have a5:=Xc0 _ (zS w) (zS w+1) s p HS o N.c1 N.c2;unfold V6 at a5;obtain⟨u,a6,a8⟩:=Xt7 a5 (Z5 wr 84 #[I O o.id,I O o.side,I O o.kind,I O o.price,I O o.qty]) N;have d2:(i:Int)<(n:Int):=Q0;have d4:(0:Int)<=(i:Int):=Q0;clear a5 N b5 j b1;go_wp2_with fail
  refine u.mono ?_;rintro e w5⟨rfl,a4⟩;have b8:=Z4 a6 a4;have z4:w5.cell? (aD (zS wr) 4)=some (I O o.qty):=by rw[X9 b8];rfl
  have a9:=J6 (a8.below a4);obtain⟨q,hq⟩:=exq (VQ s p o);rw[hq]at D|-;clear b8 a4 u a8 a6 C x0 x1 x2 x3 x4 hq
  cases q with
  |true=>
   have Hs:=J6 (show E+o.qty=H9 s p (L.take (i+1)) by rw[D.out,X0 rfl]);go_wp2
   go_roundg (n-(i+1))
   case measure=>omega
   exact⟨i+1,Q0,rfl,J5,by rw[<-Hs.out],a9⟩
  |false=>
   have Hs:=J6 (show E=H9 s p (L.take (i+1)) by rw[D.out,J8 Q1];omega);go_wp2
   go_roundg (n-(i+1))
   case measure=>omega
   exact⟨i+1,Q0,rfl,J5,by rw[<-Hs.out],a9⟩
 obtain rfl:i=n:=by omega
 have d2:¬(i:Int)<(i:Int):=Q0;have c9:L.take i=L:=M4 (by rw[Hn.out];exact X3 _);rw[c9];have HO:=J6 C.old;clear C;go_wp2;go_ret;exact⟨rfl,HO⟩
set_option linter.unusedSimpArgs false
theorem Qx6{α enc K}(hk:∀x,(enc x).length=K){j}(E:j<K)v(y:α):∀L i(C:i<L.length),enc y=(enc L[i]).set j v->(X7 enc L).set (i*K+j) v=X7 enc (L.set i y):=by
 intro L
 induction L with
 |nil=>intro i C;exact absurd C Q3
 |cons x t J=>
  intro i C D;have e:∀z u,X7 enc (z::u)=enc z++X7 enc u:=fun z u=>by simp[X7]
  cases i with
  |zero=>
   rw[Nat.zero_mul,KC,Ax,e,e,List.set_append_left _ _ (by rw[hk];exact E)];rw[D];rfl
  |succ i=>
   have h1:(i+1)*K+j=K+(i*K+j):=by rw[Nat.add_mul,Nat.one_mul];omega
   rw[Aw,e,e,h1,Vd _ _ (by rw[hk];omega),hk,Nat.add_sub_cancel_left,J i (by simpa using C) D]
theorem Mk{cs:Array Value}{o u v}:(cs.setIfInBounds o u).setIfInBounds o v=cs.setIfInBounds o v:=by apply Array.ext';simp
theorem KV.trans{w w1 w2 B t cs o0 A A1 v L2}(hk:X4 (fun i=>i=B) w w1)(y:∀g,X5 A1=some g->X5 A=some g\/w.heap.size<=g)(h:KV w1 w2 B t (cs.setIfInBounds o0 v) o0 A1 L2):KV w w2 B t cs o0 A L2:=by
 obtain⟨j,c2,h1,h2,u⟩:=h;rw[Mk]at h1;refine⟨j,c2,h1,hk.trans h2 (fun i e=>.inl e),fun g C=>?_⟩;obtain e|e:=u g C
 ·exact y g e
 exact .inr (U4 hk.size e)
def NQ(L:List X6)(id q:Int):Int:=match B4 L id with|none=>7|some o=>if 1<=q/\q<=o.qty then 0 else 2
def DM(L:List X6)(id q:Int):List X6:=match B4 L id with|none=>L|some o=>if 1<=q/\q<=o.qty then(if q=o.qty then QM L (L.findIdx fun o=>o.id ==id)else L.set (L.findIdx fun o=>o.id ==id) (D9 o q))else L
theorem Qx7{L:List X6}{id k}(hk:k<L.length)(h:L.findIdx (fun o=>o.id ==id)=k)o(u:o.id=id):(L.set k o).findIdx (fun o=>o.id ==id)=k:=by have h2:=(List.findIdx_eq hk).1 h;refine(List.findIdx_eq (by simpa using hk)).2 ⟨by simp[u],fun j i=>?_⟩;rw[WD Q0];exact h2.2 j i
theorem Xc1{L k}o:QM (L.set k o) k=QM L k:=by unfold QM;rw[Xb Q2,Ar Q0]
theorem Ef w B t cs o0 A L(h:KY w B t cs o0 A L)(y:L.length<=100000)id q(hq:∀o∈L,-1000000000<=o.qty/\o.qty<=1000000000):Calls prog 125 #[IP (some (aD B o0)),I O id,I O q] w fun e w'=>e=.returned (I O (NQ L id q))/\KV w w' B t cs o0 A (DM L id q):=by
 obtain⟨HI,HR⟩:=Xt6 (Dc w B t cs o0 A L h y id) h;have h3:=h.blt;have e6:L.length<=100000:=y;obtain⟨i0,g3,g7,g8,g9⟩:=W8 Uj;have HQ:=J6 hq;clear h y hq;go_enter func125,ntmps125
 go_wp2_with fail
 refine HI.mono ?_;rintro e w2⟨rfl,b0⟩;have D:=J6 b0;rcases Ke L id with⟨hi,u⟩|⟨k,hk,hi,e3,b2,u⟩
 ·have E:=J6 (show NQ L id q=7 by unfold NQ;rw[u])
  have J:=J6 (show DM L id q=L by unfold DM;rw[u]);rw[hi];have d1:(-1:Int)<0:=Q0;clear hi u b0 HI;go_wp2;go_ret;exact⟨JK (by rw[E.out]),by rw[J.out];exact RF HR D⟩
 rw[hi];have h5:(0:Int)<=(k:Int):=Q0;have d1:¬(k:Int)<0:=Q0;have g5:(k:Int)<((L.length:Nat):Int):=Q0;have a0:=HR.below D;obtain⟨c,y0,f9,g0⟩:=a0.cell;obtain⟨b,C,hA⟩:∃b C,A=some ⟨b,C,none⟩:=by obtain⟨b,C,h1,_⟩:=a0.els.2 Q0;exact⟨b,C,h1⟩
 subst hA;obtain⟨-,-,-,-,x4⟩:=ML a0.els hk;have g6:=HQ.out L[k] (C7 hk);obtain⟨o,EO⟩:∃o,Hid (L[k]=o):=⟨_,J6 rfl⟩;rw[EO.out]at x4 u b2 g6;obtain⟨n,y⟩:=exq L.length;have c5:=J6 a0.els;rw[y]at y0 g5 f9 c5 e6;obtain⟨HG,c7,f4,N,HN⟩:=Xt9 u e3 b2 a0 y;unfold maxLen at g0;have h6:k<n:=Q0;clear hi u a0 b2 y e3 b0 HI
 by_cases j:¬(1<=q/\q<=o.qty)
 ·have HB:=J6 (show(decide (1<=q) &&decide (q<=o.qty))=false by simp;omega)
  obtain⟨E,J⟩:=Xt6 (show NQ L id q=2 by unfold NQ;rw[HG.out];exact J8 j) (show DM L id q=L by unfold DM;rw[HG.out];exact J8 j);clear j;go_wp2_with fail
  refine(VY _ _ _ _).mono ?_;rintro e w'⟨rfl,rfl⟩;rw[HB.out];go_wp2;go_ret;exact⟨JK (by rw[E.out]),by rw[J.out];exact RF HR D⟩
 have j:1<=q/\q<=o.qty:=by omega
 obtain⟨HB,E,J,f6⟩:=Xt8 (show(decide (1<=q) &&decide (q<=o.qty))=true by simp;omega) (show NQ L id q=0 by unfold NQ;rw[HG.out];exact X0 j) (show DM L id q=if q=o.qty then QM L k else L.set k (D9 o q) by unfold DM;rw[HG.out,c7.out];exact X0 j) j;clear j;go_wp2_with fail
 refine(VY _ _ _ _).mono ?_;rintro e w'⟨rfl,rfl⟩;rw[HB.out];go_upto_region 6 with fail
 obtain⟨w3,a7⟩:=exq (w2.alloc (.cells #[] 84));have a9:Bz w2 w3:=by rw[<-a7];exact Q5.alloc Q2 _
 have f2:=J6 (show X8 w3 (some ⟨w2.heap.size,0,none⟩) 0 0 84 5 [] by rw[<-a7];exact X8.made _ _ _);have y3:=(a9.cell (U5 w2 _ y0)).trans y0;have a1:=J6 a9;clear a9;go_upto_region 7 with(at_builtin;(refine Gl JG BL rfl _ _ _ rfl 84 i0 _ 40 underlying91 g3 g7 g8 g9 rfl Q0 (some ⟨w2.heap.size,0,none⟩) 0 0 [] rfl f2 (some ⟨b,C,none⟩) n c L rfl (c5.below a1 Q2) Q9 Q0 ?_);intro A1 c1 w4 b8 a4 d6;rw[KC,EE]at b8;rw[KC];have c9:=J6 b8;have f3:=J6 a4;have e8:=J6 d6;have g2:=K0 (TE (Z4 N.blk a1) a4 (fun e=>by have:=N.blt;have e2:some B=some w2.heap.size:=e;have:=XG e2;omega)) o0;have g1:w4.cell? ⟨B,o0,none⟩=some (.slice (some ⟨b,C,none⟩) n c):=((Kd a4).cell (p:=⟨B,o0,none⟩) (U5 w3 _ y3) (fun e=>by have:=N.blt;have e2:some w2.heap.size=some B:=e;have:=XG e2;omega)).trans y3;clear b8 a4 d6)
 obtain⟨d4,f0⟩:=Xt6 (WT a1 f3 (Qp Q2) a1.size) (Qu e8 (Qp Q2) a1.size);obtain⟨g,f8,-⟩:=c9.elem JG Q0 hk;subst f8;have h4:w2.heap.size<=g:=f0.out g rfl;have b1:g≠B:=by have:=N.blt;omega
 have a2:X8 (w4.setCell ⟨B,o0,none⟩ (.slice (some ⟨g,0,none⟩) n c1)) (some ⟨g,0,none⟩) n c1 84 5 (X7 U0 L):=c9.keeps (U1 w4 ⟨B,o0,none⟩ _) (fun x hx e=>by cases hx;exact b1 e);have a3:=Z0 (Z4 N.blk d4) o0 (.slice (some ⟨g,0,none⟩) n c1);obtain⟨W5,a6⟩:=exq (w4.setCell ⟨B,o0,none⟩ (.slice (some ⟨g,0,none⟩) n c1));have e4:X4 (fun i=>i=B) w2 W5:=by rw[<-a6];exact(B9 d4 _).trans (U1 w4 ⟨B,o0,none⟩ _) (fun i e=>.inl e)
 rw[a6]at a2 a3|-;obtain⟨ca,d8,-⟩:=N.at_;have b5:o0<cs.size:=(EC.1 d8).1;have z0:W5.cell? ⟨B,o0,none⟩=some (.slice (some ⟨g,0,none⟩) n c1):=by rw[X9 a3];simp[b5]
 obtain⟨-,-,-,-,q4⟩:=ER a2 hk;rw[EO.out]at q4;have fz:=a2.frozen (k*5+4);have b9:=a2.set (k*5+4) (I O (o.qty-q));have d9:U0 (D9 o q)=(U0 L[k]).set 4 (I O (o.qty-q)):=by rw[EO.out];rfl
 rw[Qx6 JG Q0 _ (D9 o q) L k hk d9]at b9;have d7:=ZR a3 (p:=⟨g,k*5+4,none⟩) (fun e=>b1 e.symm) (I O (o.qty-q));have e5:X4 (fun i=>i=B\/i=g) w2 (W5.setCell ⟨g,k*5+4,none⟩ (I O (o.qty-q))):=(e4.mono (fun i e=>.inl e)).trans (U1 W5 ⟨g,k*5+4,none⟩ _) (fun i e=>.inl (.inr e));have h7:(k:Int)<(n:Int):=Q0;have g4:RowKit.wrap64 (o.qty-q)=o.qty-q:=by have:=f6.out;unfold RowKit.wrap64;omega
 obtain⟨d3,e9,f5⟩:=Xt7 b9 d7 e5;clear b9 d7 e5 a2 a3 e4 d9 d8 x4 y0 y3 a7 a6 g2 g1;go_upto_region 8 with fail
 obtain⟨W6,Z⟩:=exq (W5.setCell ⟨g,k*5+4,none⟩ (I O (o.qty-q)));have a8:KY W6 B t (cs.setIfInBounds o0 (.slice (some ⟨g,0,none⟩) n c1)) o0 (some ⟨g,0,none⟩) (L.set k (D9 o q)):=by
  have h1:=d3.out;have h2:=e9.out;rw[Z]at h1 h2;have hl:(L.set k (D9 o q)).length=n:=by rw[XH];exact HN
  refine⟨h2,⟨c1,by rw[hl];simp[b5],by rw[hl];exact X8.le_cap h1⟩,by rw[hl];exact CY JG Q0 h1,fun e=>by cases e;exact b1 rfl,fun x hx=>h1.lt hx⟩
 have d5:X4 (fun i=>i=B) w W6:=by
  have h1:=f5.out;rw[Z]at h1;exact(B9 D _).trans h1 (fun i e=>by
   obtain e|e:=e
   ·exact .inl e
   exact .inr (by have:=D.size;omega))
 have e1:∀x,X5 (some ⟨g,0,none⟩)=some x->X5 (some ⟨b,C,none⟩)=some x\/w.heap.size<=x:=fun x hx=>by cases hx;exact .inr (by have:=D.size;show w.heap.size<=g;omega)
 have z6:W6.cell? ⟨B,o0,none⟩=some (.slice (some ⟨g,0,none⟩) n c1):=by rw[X9 a8.blk];simp[b5]
 have q6:W6.cell? ⟨g,k*5+4,none⟩=some (I O (o.qty-q)):=by have h1:=d3.out;rw[Z]at h1;obtain⟨-,-,-,-,q4⟩:=ER (i:=k) h1 (by simpa using hk);rw[SL]at q4;exact q4
 obtain⟨d0,c8,c6,h0⟩:=Xt8 a8 d5 e1 Z;rw[Z];clear z0 q4 fz a8 d5 e1 Z g4
 by_cases hz:o.qty-q=0
 ·have d2:=V4 hz
  have a5:=J6 (show DM L id q=FB (L.set k (D9 o q)) id by rw[J.out,X0 Q0];unfold FB;rw[Qx7 hk c7 (D9 o q) f4,Xc1])
  have f1:=J6 (Mj W6 B t _ o0 (some ⟨g,0,none⟩) (L.set k (D9 o q)) d0 (by rw[XH,HN.out];exact e6) id);clear hz;go_wp2_with fail
  refine f1.mono ?_;rintro e w9⟨rfl,e7⟩;have f7:=J6 e7;clear e7;go_wp2;go_ret;exact⟨JK (by rw[E.out]),by rw[a5.out];exact KV.trans c8 c6 f7⟩
 have d2:=Z3 hz;have a5:=J6 (show DM L id q=L.set k (D9 o q) by rw[J.out,J8 Q0]);clear hz;go_wp2;go_ret;refine⟨JK (by rw[E.out]),?_⟩;rw[a5.out];exact KV.trans c8 c6 (RF d0 Q5)
def QT(f:C6):List Value:=[I O f.b,I O f.s,I O f.p,I O f.n]
theorem Xx f:(QT f).length=4:=rfl
theorem Up:(prog.info? 127).map (fun i=>(i.zero,i.size,i.bytes))=some (some (.agg #[I O 0,I O 0,I O 0,I O 0]),4,32):=Q4
def Yy:List X6->Int
 | []=>0
 |o::_=>o.qty
def Yz:List X6->Int
 | []=>0
 |o::_=>o.id
def DC(t:Int)(L1 L2:List X6)(F:List C6):Prop:=
 ∀F1 f F2,F=F1++f::F2->f.n=min (t-QZ (·.n) F1) (min (Yy (Y3 L1 (QZ (·.n) F1))) (Yy (Y3 L2 (QZ (·.n) F1))))/\f.b=Yz (Y3 L1 (QZ (·.n) F1))/\f.s=Yz (Y3 L2 (QZ (·.n) F1))
theorem DC.start t L1 L2:DC t L1 L2 []:=fun i f j h=>by cases i<;>cases h
theorem DC.step{t L1 L2 F}(h:DC t L1 L2 F){a}(J:QZ (·.n) F=a){z}(hz:z.n=min (t-a) (min (Yy (Y3 L1 a)) (Yy (Y3 L2 a))))(N:z.b=Yz (Y3 L1 a))(Z:z.s=Yz (Y3 L2 a)):DC t L1 L2 (F++[z]):=by
 intro i f C e;obtain rfl|⟨j,y,rfl⟩:=Ak C
 ·have u:=List.append_inj' e rfl
  obtain⟨rfl,D⟩:=u
  cases D;rw[J];exact⟨hz,N,Z⟩
 rw[Am]at e;have E:i++f:: (j++[y])=(i++f::j)++[y]:=Q3;rw[E]at e;have u:=List.append_inj' e rfl;exact h i f j u.1
theorem Jq2{t p L1 L2 F F'}(h:DC t L1 L2 F)(h':DC t L1 L2 F')(hp:∀f∈F,f.p=p/\1<=f.n)(D:∀f∈F',f.p=p/\1<=f.n)(y:QZ (·.n) F=t)(C:QZ (·.n) F'=t):F=F':=by
 have a0:∀K,(∀f∈K,f.p=p/\1<=f.n)->0<=QZ (·.n) K:=by
  intro K
  induction K with
  |nil=>intro _;simp[QZ]
  |cons f K u=>
   intro hK;have h1:=(hK f Q3).2;have h2:=u (fun g j=>hK g (by simp[j]));simp only[QZ];omega
 have Z:∀K K2,QZ (·.n) (K++K2)=QZ (·.n) K+QZ (·.n) K2:=by
  intro K K2
  induction K with
  |nil=>simp[QZ]
  |cons f K u=>simp only[List.cons_append,QZ,u];omega
 have key:∀B B' A,F=A++B->F'=A++B'->B=B':=by
  intro B
  induction B with
  |nil=>
   intro B' A e i
   cases B' with
   |nil=>rfl
   |cons f K=>
    exfalso
    rw[e]at y;rw[i,Z,<-BF A,y]at C;have h1:=(D f (by rw[i];simp)).2;have h2:=a0 K (fun g j=>D g (by rw[i];simp[j]));simp only[QZ]at C;omega
  |cons f K u=>
   intro B' A e i
   cases B' with
   |nil=>
    exfalso
    rw[i]at C;rw[e,Z,<-BF A,C]at y;have h1:=(hp f (by rw[e];simp)).2;have h2:=a0 K (fun g j=>hp g (by rw[e];simp[j]));simp only[QZ]at y;omega
   |cons f' K'=>
    obtain⟨E,J,N⟩:=h A f K e;obtain⟨b1,b2,b3⟩:=h' A f' K' i;have c:=(hp f (by rw[e];simp)).1;have c':=(D f' (by rw[i];simp)).1;have ef:f=f':=by obtain⟨x1,x2,x3,x4⟩:=f;obtain⟨y1,y2,y3,y4⟩:=f';dsimp only at E J N b1 b2 b3 c c';rw[E,J,N,b1,b2,b3,c,c']
    subst ef;rw[u K' (A++[f]) (by rw[e];simp) (by rw[i];simp)]
 exact key F F' [] rfl rfl
theorem Kv{L}(y:(L.map (·.id)).Nodup){o}(j:o∈L):B4 L o.id=some o:=by
 unfold B4
 cases i:L.find? (fun x=>x.id ==o.id)with
 |none=>
  rw[GN]at i;have:=i o j;simp at this
 |some x=>
  have h1:=NE i;have h2:=Xo i;have u:x.id=o.id:=by simpa using h2
  rw[WM (g:=fun x:X6=>x.id) y h1 j u]
structure MP(w wr:World)(b:Nat)(G G':Nat->Prop)(M1 M2:List X6)(A:Option Addr)(c:Nat)(F:List C6):Prop where
 book:JC wr b G' M1 M2
 step:U2 w wr G G'
 row:X8 wr A F.length c 127 4 (X7 QT F)
 fpA:∀g,X5 A=some g->¬G' g/\w.heap.size<=g
section
variable {w wr w':World} {b:Nat} {G G':Nat->Prop} {M1 M2:List X6} {A:Option Addr} {c:Nat} {F:List C6}
theorem MP.below(h:MP w wr b G G' M1 M2 A c F)(i:Bz wr w'):MP w w' b G G' M1 M2 A c F:=
 ⟨h.book.below i,h.step.trans (S5 i),h.row.below i,h.fpA⟩
theorem MP.fill{f gg cap}(h:MP w wr b G G' M1 M2 A c F)(hk:X4 (fun i=>X5 A=some i) wr w')(D:w'.ownsRow 0 127 4 (.slice (sA gg) (F.length+1) cap) (F.length+1) (X7 QT F++QT f))(y:X5 A=some gg\/wr.heap.size<=gg):MP w w' b G G' M1 M2 (sA gg) cap (F++[f]):=by
 refine⟨h.book.keeps hk (fun i j e=>(h.fpA i e).1 j),⟨h.step.1.trans hk (fun i j=>.inr (h.fpA i j).2),h.step.2⟩,?_,fun g C=>?_⟩
 ·show w'.ownsRow 0 127 4 _ _ _
  rw[AQ,B6];exact D
 have e:gg=g:=by simpa [X5]using C
 subst e;obtain h1|h1:=y
 ·exact h.fpA _ h1
 refine⟨fun u=>?_,?_⟩
 ·have:=h.book.fp u;omega
 exact U4 h.step.1.size h1
theorem MP.turn{M1' M2'}(h:MP w wr b G G' M1 M2 A c F)(D:GK wr w' b G' M1' M2'):∃u,MP w w' b G u M1' M2' A c F/\X4 G' wr w':=by
 obtain⟨u,y,j⟩:=D;refine⟨u,⟨y,h.step.trans j,h.row.keeps j.1 (fun g i=>(h.fpA g i).1),fun g i=>⟨fun C=>?_,(h.fpA g i).2⟩⟩,j.1⟩;obtain h1|h1:=j.2 g C
 ·exact(h.fpA g i).1 h1
 have:=h.row.lt i;omega
end
abbrev Fa(w wr:World)(b:Nat)(G G':Nat->Prop)(L1 L2:List X6)(a:Int)(A:Option Addr)(c:Nat)(F:List C6):Prop:=MP w wr b G G' (Y3 L1 a) (Y3 L2 a) A c F
theorem WP{w2 w3 o row}(h:(w2.alloc o).grownBy w3 row):X4 (fun i=>row=some i) w2 w3:=RA ⟨h.os,h.tape,h.output,h.size,h.block⟩
theorem MA{L1 L2}(h:E5 L1 L2):(L1.map (·.id)).Nodup/\(L2.map (·.id)).Nodup/\∀x∈L1,∀y∈L2,x.id≠y.id:=by have h1:=h.ids;rw[L6,BE]at h1;exact⟨h1.1,h1.2.1,fun x i y j=>h1.2.2 _ (Y4.2 ⟨x,i,rfl⟩) _ (Y4.2 ⟨y,j,rfl⟩)⟩
theorem Su{L1 x t R2 a n}(h:E5 (Y3 L1 a) R2)(J:∀o∈L1,1<=o.qty)(E:0<=a)(i:Y3 L1 a=x::t)(h1:1<=n)(h2:n<=x.qty):B4 (Y3 L1 a++R2) x.id=some x/\QV (Y3 L1 a) x n=Y3 L1 (a+n)/\QV R2 x n=R2:=by
 obtain⟨u,N,D⟩:=MA h;have C:x∈Y3 L1 a:=by rw[i];simp
 refine⟨Kv h.ids (T9 _ C),?_,Ci fun y j=>fun e=>D x C y j e.symm⟩;rw[<-Ch J E i h1 h2,i];rw[i,T2,UX]at u;exact Sr fun y j e=>u.1 (Y4.2 ⟨y,j,e⟩)
theorem Pr{L2 y u R1 a n}(h:E5 R1 (Y3 L2 a))(J:∀o∈L2,1<=o.qty)(E:0<=a)(i:Y3 L2 a=y::u)(h1:1<=n)(h2:n<=y.qty):B4 (R1++Y3 L2 a) y.id=some y/\QV (Y3 L2 a) y n=Y3 L2 (a+n)/\QV R1 y n=R1:=by
 obtain⟨Z,j,D⟩:=MA h;have C:y∈Y3 L2 a:=by rw[i];simp
 refine⟨Kv h.ids (JJ _ C),?_,Ci fun x N=>D x N y C⟩;rw[<-Ch J E i h1 h2,i];rw[i,T2,UX]at j;exact Sr fun y i e=>j.1 (Y4.2 ⟨y,i,e⟩)
def Jq3(w w':World)(b:Nat)(G:Nat->Prop)(L1 L2:List X6)(p t:Int)(e:Ending):Prop:=
 ∃F A c G',e=.returned (.tuple #[.slice A (List.length F) c,.nilIface])/\GX L1 L2 p t F/\DC t L1 L2 F/\Fa w w' b G G' L1 L2 t A c F
theorem Qn2(hcut:Qf3)w b G L1 L2(h:JC w b G L1 L2)p t(ht:1<=t)(hw1:t<=H9 1 p L1)(hw2:t<=H9 2 p L2):Calls prog 210 #[pA b,I O p,I O t] w fun e w'=>Jq3 w w' b G L1 L2 p t e:=by
 have hl:=h.lists;have hq1:∀o∈L1,1<=o.qty:=fun o ho=>(hl.ok o (T9 _ ho)).2.2.2.1
 have hq2:∀o∈L2,1<=o.qty:=fun o ho=>(hl.ok o (JJ _ ho)).2.2.2.1
 have ha1:t<=PS L1:=NH hw1 (Un hq1);have ha2:t<=PS L2:=NH hw2 (Un hq2);have htb:t<=100000000:=by have h1:=Vy (s:=1) (p:=p) (L:=L1) (fun o ho=>(hl.ok o (T9 _ ho)).2.2.2);have h2:=hl.cnt;rw[B6]at h2;omega
 obtain⟨dd1,dd2,-⟩:=MA hl;have HC1:=J6 (Gn w b G L1 L2 h 1 p Zc);rw[show V1 1 L1 L2=L1 from rfl]at HC1;obtain⟨HAt,HCut,Hq1,Hq2,Hd1,Hd2⟩:=Xu0 h hcut hq1 hq2 dd1 dd2;obtain⟨q1,hq1'⟩:=exq (H9 1 p L1);obtain⟨q2,hq2'⟩:=exq (H9 2 p L2);rw[hq1']at HC1 hw1;rw[hq2']at hw2;have HQ2:=J6 hq2';have d0:decide (t<1)=false:=V9 Q0;have d1:decide (q1<t)=false:=V9 Q0;have d2:decide (q2<t)=false:=V9 Q0;clear h hcut hl hq1 hq2 dd1 dd2 hq1' hq2' hw1 hw2;go_enter func210,ntmps210
 go_wp2_with fail
 refine HC1.mono ?_;rintro e w1⟨rfl,hb1⟩;have hat1:=HAt.below hb1;have hc2:=Gn w1 b G L1 L2 hat1 2 p Zd;rw[show V1 2 L1 L2=L2 from rfl,HQ2.out]at hc2;obtain⟨HC2,HB1,HAt1⟩:=Xt7 hc2 hb1 hat1;clear hb1 hat1 hc2 HC1;go_wp2_with fail
 refine HC2.mono ?_;rintro e w2⟨rfl,hb2⟩;have hB:=HB1.trans (hb2.mono HB1.size);have HST:=J6 (show Fa w w2 b G G L1 L2 0 none 0 []from⟨by rw[Qd _ (T3 _),Qd _ (T3 _)];exact HAt1.below hb2,S5 hB,QY _ _ _ _,fun g hg=>by simp[X5]at hg⟩);clear hb2 hB HC2 HB1 HAt1 HAt;go_wp2_with fail
 go_loopg [2,8] t.toNat (fun g s2 s8 wr=>∃a F A c G',0<=a/\a<=t/\g=(t-a).toNat/\s2=I O (t-a)/\s8=.slice A F.length c/\Hid (GX L1 L2 p a F)/\Hid (DC t L1 L2 F)/\Hid (Fa w wr b G G' L1 L2 a A c F))
 case atStart=>exact⟨0,[],none,0,G,T3 _,Q0,Q3,Q3,rfl,J6 (GX.start Hq1 Hq2),J6 (DC.start t L1 L2),HST⟩
 obtain⟨a,F,A,c,G',ha0,hat,rfl,rfl,rfl,HF,HX,HR⟩:=hrel;clear HST
 by_cases hlt:a<t
 ·have d3:decide (0<t-a)=true:=V7 Q0
  obtain⟨x,t1,hx⟩:∃x t1,Y3 L1 a=x::t1:=by
   cases hd:Y3 L1 a with
   |nil=>exact absurd hd (Ku ha0 Q0)
   |cons x t1=>exact⟨x,t1,rfl⟩
  obtain⟨y,u1,hy⟩:∃y u1,Y3 L2 a=y::u1:=by
   cases hd:Y3 L2 a with
   |nil=>exact absurd hd (Ku ha0 Q0)
   |cons y u1=>exact⟨y,u1,rfl⟩
  have hbest:=Li wr b G' _ _ HR.book 1 Zc;rw[show Yw (V1 1 (Y3 L1 a) (Y3 L2 a))=x by rw[hx];rfl,show Yx (V1 1 (Y3 L1 a) (Y3 L2 a))=0 by rw[hx];rfl,DB]at hbest;unfold V6 at hbest;obtain⟨HB1,Hx,Hy⟩:=Xt7 hbest hx hy;clear hbest hx hy;go_wp2_with fail
  refine HB1.mono ?_;rintro e w3⟨hb3,rfl⟩;have hAB:∀g,X5 A=some g->g<w3.heap.size:=fun g hg=>D0 (HR.row.lt hg) hb3.size
  have HAB:=J6 hAB;have hR3:=HR.below (hb3.alloc hb3.size (.cells #[I O x.id,I O x.side,I O x.kind,I O x.price,I O x.qty] 84));have hbest:=Li _ b G' _ _ hR3.book 2 Zd;rw[show Yw (V1 2 (Y3 L1 a) (Y3 L2 a))=y by rw[Hy.out];rfl,show Yx (V1 2 (Y3 L1 a) (Y3 L2 a))=0 by rw[Hy.out];rfl,DB]at hbest;unfold V6 at hbest;obtain⟨HB2,HX3,HR3⟩:=Xt7 hbest (Z5 w3 84 #[I O x.id,I O x.side,I O x.kind,I O x.price,I O x.qty]) hR3;clear hbest hb3 hR3 HB1 HR hAB;go_wp2_with fail
  refine HB2.mono ?_;rintro e w4⟨hb4,rfl⟩;have hX4:=G0 (Z4 HX3 hb4) (.cells #[I O y.id,I O y.side,I O y.kind,I O y.price,I O y.qty] 84);have hY4:=Z5 w4 84 #[I O y.id,I O y.side,I O y.kind,I O y.price,I O y.qty];have hR4:=HR3.below (hb4.alloc hb4.size (.cells #[I O y.id,I O y.side,I O y.kind,I O y.price,I O y.qty] 84));have hne:w3.heap.size<w4.heap.size:=by have:=hb4.size;simp at this;omega
  have hG2:¬G' w4.heap.size:=fun hG=>by have h1:=HR3.book.fp hG;have h2:=hb4.size;omega
  obtain⟨B1,hB1⟩:=exq w3.heap.size;obtain⟨B2,hB2⟩:=exq w4.heap.size;obtain⟨w5,hw5⟩:=exq (w4.alloc (.cells #[I O y.id,I O y.side,I O y.kind,I O y.price,I O y.qty] 84));rw[hB1]at hX4 hne HAB|-;rw[hw5,hB2]at hY4;rw[hw5]at hX4 hR4;rw[hB2]at hne hG2;obtain⟨HX5,HY5,HR5,HNe,HG2⟩:=Xt9 hX4 hY4 hR4 hne hG2;have hl1:=Z9 hX4;have hl2:=Z9 hY4;have x0:w5.cell? ⟨B1,0,none⟩=some (I O x.id):=by rw[X9 hX4];rfl
  have x4:w5.cell? ⟨B1,4,none⟩=some (I O x.qty):=by rw[X9 hX4];rfl
  have y0:w5.cell? ⟨B2,0,none⟩=some (I O y.id):=by rw[X9 hY4];rfl
  have y4:w5.cell? ⟨B2,4,none⟩=some (I O y.qty):=by rw[X9 hY4];rfl
  clear hX4 hY4 hR4 hne hG2 HX3 HR3 HB2 hb4 hB1;obtain⟨n,hn⟩:=exq (min (t-a) (min x.qty y.qty));have hxq:1<=x.qty:=(HR5.book.lists.ok x (T9 _ (by rw[Hx.out];simp))).2.2.2.1;have hyq:1<=y.qty:=(HR5.book.lists.ok y (JJ _ (by rw[Hy.out];simp))).2.2.2.1;have hn1:1<=n:=Q0;have hnx:n<=x.qty:=Q0;have hny:n<=y.qty:=Q0;have hnt:n<=t-a:=Q0;have HN:=J6 hn;clear hn;go_upto_region 7 with fail
  go_cut [13] (fun s13 wx=>s13=I O n/\wx=w5)
  case first=>
   go_wp2_with fail
   all_goals go_meet
   all_goals refine⟨?_,rfl⟩
   all_goals rw[<-HN.out]
   all_goals congr 1
   all_goals first
    |omega
    |(split at h<;>first|omega|(split<;>omega))
    |(split<;>first|omega|(split at h<;>omega))
  obtain⟨rfl,rfl⟩:=hcut;have hF1:F.length<=100000000:=by have:=HF.len;omega
  obtain⟨i0,hi0,hz0,hz1,hz2⟩:=W8 Up;have HO1:=J6 (LW (show wc.ownsRow 0 127 4 (.slice A F.length c) F.length (X7 QT F)from HR5.row) (.cells #[I O x.id,I O y.id,I O p,I O n] 127));go_upto_region 9 with(at_builtin;refine VZ _ rfl _ _ 85 rfl 0 127 i0 _ 4 32 underlying85 hi0 hz0 hz1 hz2 rfl Q0 (.slice A F.length c) F.length _ rfl HO1 ⟨wc.heap.size,0,none⟩ 1 1 [I O x.id,I O y.id,I O p,I O n] rfl rfl (XF (cs:= #[I O x.id,I O y.id,I O p,I O n]) (t:=127) (fr:=(0,0)) (QN wc _)) J0 Q0 Q9 Q0 Q3 (wc.heap.size+1) Q3 ?_;intro gg cap w6 hown hgrow hat6 hlt6)
  have hk6:=WP hgrow;rw[C8]at hk6 hat6;have hR6:=HR5.fill (f:=⟨x.id,y.id,p,n⟩) hk6 hown (hat6.imp id (fun e=>Q0));have nB1:¬X5 A=some B1:=fun e=>by have:=HAB.out _ e;omega
  have nB2:¬X5 A=some B2:=fun e=>by have h1:=HAB.out _ e;have h2:=HNe.out;omega
  have z0:w6.cell? ⟨B1,0,none⟩=some (I O x.id):=(hk6.cell (p:=⟨B1,0,none⟩) hl1 nB1).trans x0;have z1:w6.cell? ⟨B2,0,none⟩=some (I O y.id):=(hk6.cell (p:=⟨B2,0,none⟩) hl2 nB2).trans y0;have hl6:B2<w6.heap.size:=D0 hl2 hk6.size;obtain⟨c1,c2,c3⟩:=Su hR6.book.lists Hq1 ha0 Hx hn1 hnx;have hca:=HCut.out w6 b G' _ _ hR6.book x.id n (by unfold V3;omega);obtain⟨HCa,HR6,HC1,HC2,HC3,HFn,HXn⟩:=Xu1 hca hR6 c1 c2 c3 (HF.step Hq1 Hq2 Hd1 Hd2 ha0 Hx Hy hn1 hnx hny) (HX.step HF.sum (z:=⟨x.id,y.id,p,n⟩) (by rw[Hx.out,Hy.out];exact HN.symm) (by rw[Hx.out];rfl) (by rw[Hy.out];rfl));clear hk6 hown hgrow hat6 hlt6 hR6 nB1 nB2 c1 c2 c3 hca x0 x4 y0 y4 HO1 HR5 HX5 HY5 HF HX hl1 hl2 hi0 hz0 hz1 hz2 hxq hyq;go_wp2_with fail
  refine HCa.mono ?_;rintro e w7(⟨h0,-,-⟩|⟨o,h0,-,-,rfl,hto⟩)
  ·exfalso
   apply h0;unfold EZ;rw[HC1.out];exact J8 Q0
  rw[HC1.out]at h0;obtain rfl:=XG h0;rw[HC2.out,HC3.out]at hto;obtain⟨G2,hR7,hk7⟩:=HR6.turn hto;have z2:w7.cell? ⟨B2,0,none⟩=some (I O y.id):=(hk7.cell (p:=⟨B2,0,none⟩) hl6 HG2).trans z1;obtain⟨c1,c2,c3⟩:=Pr hR7.book.lists Hq2 ha0 Hy hn1 hny;have hca:=HCut.out w7 b G2 _ _ hR7.book y.id n (by unfold V3;omega);obtain⟨HCb,HR7,HD1,HD2,HD3⟩:=Xt9 hca hR7 c1 c2 c3;clear hto hk7 hR7 c1 c2 c3 hca h0 z0 z1 HCa HR6 HC1 HC2 HC3;go_wp2_with fail
  refine HCb.mono ?_;rintro e w8(⟨h0,-,-⟩|⟨o,h0,-,-,rfl,hto⟩)
  ·exfalso
   apply h0;unfold EZ;rw[HD1.out];exact J8 Q0
  rw[HD1.out]at h0;obtain rfl:=XG h0;rw[HD2.out,HD3.out]at hto;obtain⟨G3,hR8,-⟩:=HR7.turn hto;have HR8:=J6 hR8;have i1:RowKit.wrap64 (t-a-n)=t-(a+n):=by unfold RowKit.wrap64;omega
  clear hto hR8 h0 z2 HCb HR7 HD1 HD2 HD3;go_wp2_with fail
  go_roundg (t-(a+n)).toNat
  case measure=>omega
  exact⟨a+n,F++[⟨x.id,y.id,p,n⟩],_,cap,G3,Q0,Q0,rfl,by congr 1<;>omega,Q3,HFn,HXn,HR8⟩
 obtain rfl:a=t:=by omega
 have d3:decide (0<a-a)=false:=V9 Q0;go_wp2_with fail
 refine QA (results_tmp2 rfl _ _ _) rfl ?_;exact⟨F,A,c,G',rfl,HF,HX,HR⟩
theorem Jf7{s}(u:V5 s){o x}(j:KG o)(y:KG x):ZA s o x=decide (VG s x<=VG s o):=by
 have h1:=j.2.2.1;have h2:=y.2.2.1;have key:ZA s o x=true↔VG s x<=VG s o:=by
  unfold ZA VG SU
  by_cases hk:x.kind=2
  ·rw[V4 hk,X0 hk]
   simp only[Bool.true_or,true_iff]
   split
   ·omega
   split<;>omega
  rw[Z3 hk,J8 hk]
  by_cases i:o.kind=2
  ·rw[V4 i,X0 i]
   simp only[Bool.not_true,Bool.false_and,Bool.or_self,Bool.false_eq_true,false_iff]
   split<;>omega
  rw[Z3 i,J8 i];simp only[Bool.not_false,Bool.true_and,Bool.false_or,Bool.or_eq_true,beq_iff_eq];unfold KU;obtain rfl|rfl:=u
  ·simp only[if_true,decide_eq_true_eq]
   omega
  simp only[show¬((2:Int)=1) by decide,if_false,decide_eq_true_eq];omega
 cases h:ZA s o x with
 |true=>exact(GR (key.1 h)).symm
 |false=>exact(WG (fun e=>by rw[key.2 e]at h;cases h)).symm
theorem Gq{α:Type}{p q:α->Bool}:∀{l:List α},(∀x∈l,p x=q x)->l.takeWhile p=l.takeWhile q/\l.dropWhile p=l.dropWhile q
 | [],_=>⟨rfl,rfl⟩
 |x::t,h=>by have hx:=h x Q3;have ih:=Gq (l:=t) (fun y hy=>h y (by simp[hy]));rw[List.takeWhile_cons,List.takeWhile_cons,List.dropWhile_cons,List.dropWhile_cons,hx,ih.1,ih.2];exact⟨rfl,rfl⟩
theorem Jq4{s}(u:V5 s){L o}(j:KG o)(i:∀x∈L,KG x):UF s L o=ZB (VG s) L o:=by have h:=Gq (l:=L) (p:=ZA s o) (q:=fun y=>decide (VG s y<=VG s o)) (fun x C=>Jf7 u j (i x C));unfold UF ZB;rw[h.1,h.2]
section
variable {α:Type} {r:α->Int}
theorem Jf8 l x:BR r (l++[x])=ZB r (BR r l) x:=by unfold BR;rw[FS];rfl
theorem Jq5 L x:(ZB r L x).Perm (x::L):=by unfold ZB;refine List.perm_middle.trans ?_;rw[LS]
theorem Ps l:(BR r l).Perm l:=by
 have key:∀(l i:List α),(l.foldl (ZB r) i).Perm (i++l):=by
  intro l
  induction l with
  |nil=>intro i;simp
  |cons x t j=>
   intro i;rw[JF];refine(j _).trans ?_;refine((Jq5 i x).append_right t).trans ?_;exact List.perm_middle.symm
 have:=key l [];rw[EE]at this;exact this
def Jd(r:α->Int)(L:List α):Prop:=L.Pairwise fun x y=>r x<=r y
theorem Jq6{L}(h:Jd r L)x:Jd r (ZB r L x):=by
 have e:L.takeWhile (fun y=>decide (r y<=r x))++L.dropWhile (fun y=>decide (r y<=r x))=L:=LS;have a4:∀y∈L.takeWhile (fun y=>decide (r y<=r x)),r y<=r x:=fun y i=>by have:=RY.1 (List.all_takeWhile (p:=fun y=>decide (r y<=r x)) (l:=L)) y i;simpa using this
 have a0:∀y,(L.dropWhile (fun y=>decide (r y<=r x))).head?=some y->¬r y<=r x:=fun y i a5=>by have:=List.head?_dropWhile_not (p:=fun y=>decide (r y<=r x)) L;rw[i]at this;simp at this;omega
 unfold Jd at*;unfold ZB;generalize L.takeWhile (fun y=>decide (r y<=r x))=A at*;generalize L.dropWhile (fun y=>decide (r y<=r x))=B at*;subst e;obtain⟨J,j,N⟩:=DZ.1 h;have Z:∀y∈B,r x<=r y:=fun y i=>by
  cases C:B with
  |nil=>rw[C]at i;cases i
  |cons z t=>
   have h1:=a0 z (by rw[C];rfl);rw[C]at i j;obtain rfl|i:=H8.1 i
   ·omega
   have:=(RV.1 j).1 y i;omega
 rw[DZ,RV];exact⟨J,⟨Z,j⟩,fun u E v D=>by
  obtain rfl|D:=H8.1 D
  ·exact a4 u E
  exact N u E v D⟩
theorem Qx8{L}(h:Jd r L)p x:(ZB r L x).filter p=if p x=true then ZB r (L.filter p) x else L.filter p:=by
 have e:L.takeWhile (fun y=>decide (r y<=r x))++L.dropWhile (fun y=>decide (r y<=r x))=L:=LS;have N:∀y∈L.takeWhile (fun y=>decide (r y<=r x)),r y<=r x:=fun y i=>by have:=RY.1 (List.all_takeWhile (p:=fun y=>decide (r y<=r x)) (l:=L)) y i;simpa using this
 have J:∀y,(L.dropWhile (fun y=>decide (r y<=r x))).head?=some y->¬r y<=r x:=fun y i Z=>by have:=List.head?_dropWhile_not (p:=fun y=>decide (r y<=r x)) L;rw[i]at this;simp at this;omega
 have E:∀y∈L.dropWhile (fun y=>decide (r y<=r x)),¬r y<=r x:=fun y i=>by
  have C:Jd r (L.dropWhile (fun y=>decide (r y<=r x))):=An (List.dropWhile_sublist _) h
  cases j:L.dropWhile (fun y=>decide (r y<=r x))with
  |nil=>rw[j]at i;cases i
  |cons z t=>
   have h1:=J z (by rw[j];rfl);rw[j]at i C;obtain rfl|i:=H8.1 i
   ·exact h1
   have:=(RV.1 C).1 y i;omega
 unfold ZB;generalize L.takeWhile (fun y=>decide (r y<=r x))=A at*;generalize L.dropWhile (fun y=>decide (r y<=r x))=B at*;subst e;rw[JE,JE,List.filter_cons];have u:((A.filter p)++(B.filter p)).takeWhile (fun y=>decide (r y<=r x))=A.filter p:=by
  rw[List.takeWhile_append_of_pos (fun y i=>GR (N y (S4.1 i).1))];have:(B.filter p).takeWhile (fun y=>decide (r y<=r x))=[]:=by
   cases j:B.filter p with
   |nil=>rfl
   |cons z t=>
    have:z∈B:=(S4.1 (by rw[j];simp:z∈B.filter p)).1;rw[List.takeWhile_cons_of_neg (by have:=E z this;simpa using this)]
  rw[this,BF]
 have D:((A.filter p)++(B.filter p)).dropWhile (fun y=>decide (r y<=r x))=B.filter p:=by have h1:=LS (p:=fun y=>decide (r y<=r x)) (l:=(A.filter p)++(B.filter p));rw[u]at h1;exact List.append_cancel_left h1
 split
 ·rw[u,D]
 rfl
theorem Qs1 p l:BR r (l.filter p)=(BR r l).filter p:=by
 have key:∀(l i:List α),Jd r i->(l.filter p).foldl (ZB r) (i.filter p)=(l.foldl (ZB r) i).filter p:=by
  intro l
  induction l with
  |nil=>intro i h;rfl
  |cons x t j=>
   intro i h;rw[JF,<-j _ (Jq6 h x),Qx8 h]
   by_cases hp:p x=true
   ·rw[RX hp,JF,X0 hp]
   rw[ED hp,J8 hp]
 exact key l [] List.Pairwise.nil
theorem Jq7 f(j:∀x,r (f x)=r x)l:BR r (l.map f)=(BR r l).map f:=by
 have C:∀(L:List α)(x:α),ZB r (L.map f) (f x)=(ZB r L x).map f:=by
  intro L x;unfold ZB;rw[L6,T2,List.takeWhile_map,List.dropWhile_map];have e:((fun y=>decide (r y<=r (f x)))∘f)=fun y=>decide (r y<=r x):=by funext y;simp[j]
  rw[e]
 have key:∀(l i:List α),(l.map f).foldl (ZB r) (i.map f)=(l.foldl (ZB r) i).map f:=by
  intro l
  induction l with
  |nil=>intro i;rfl
  |cons x t u=>intro i;rw[T2,JF,JF,C,u]
 exact key l []
end
structure M7(L L1 L2:List X6):Prop where
 s1:L1=KX 1 L
 s2:L2=KX 2 L
 ids:(L.map (·.id)).Nodup
 ok:∀o∈L,KG o/\V5 o.side
theorem Kf{s L o}:o∈KX s L↔o∈L/\o.side=s:=by unfold KX G7;rw[(Ps _).mem_iff,S4];simp
theorem Qb7:M7 [] [] []:=⟨rfl,rfl,TJ,fun o h=>by cases h⟩
theorem M7.side{L L1 L2}(h:M7 L L1 L2){s}(i:V5 s):V1 s L1 L2=KX s L:=by
 obtain rfl|rfl:=i
 ·exact(X0 rfl).trans h.s1
 exact(J8 Q1).trans h.s2
theorem M7.mem{L L1 L2}(h:M7 L L1 L2){o}:o∈L1++L2↔o∈L:=by
 rw[B8,h.s1,h.s2,Kf,Kf];constructor
 ·rintro(⟨h1,-⟩|⟨h1,-⟩)<;>exact h1
 intro h1;rcases(h.ok o h1).2 with h2|h2
 ·exact .inl ⟨h1,h2⟩
 exact .inr ⟨h1,h2⟩
theorem Qs2{α:Type}p q:∀l:List α,(∀x∈l,q x= !p x)->(l.filter p).length+(l.filter q).length=l.length:=by
 intro l
 induction l with
 |nil=>intro _;rfl
 |cons x t j=>
  intro h;have h1:=j (fun y i=>h y (by simp[i]));have h2:=h x Q3
  cases hp:p x with
  |true=>rw[RX hp,ED (by rw[h2,hp];simp),JA,JA];omega
  |false=>rw[ED (by rw[hp];simp),RX (by rw[h2,hp];rfl),JA,JA];omega
theorem M7.len{L L1 L2}(h:M7 L L1 L2):L1.length+L2.length=L.length:=by
 rw[h.s1,h.s2];unfold KX;rw[Bh,Bh];exact Qs2 _ _ L (fun x i=>by
  rcases(h.ok x i).2 with h2|h2
  ·rw[h2];rfl
  rw[h2];rfl)
theorem Xc2{L}(u:(L.map (·.id)).Nodup){o}(j:o∈L):B4 L o.id=some o:=by
 unfold B4
 cases i:L.find? (fun x=>x.id ==o.id)with
 |none=>have:=GN.1 i o j;simp at this
 |some x=>
  have h1:=Xo i;have h2:=NE i;simp at h1;rw[WM u h2 j h1]
theorem Fb{L id}:B4 L id=none↔∀o∈L,o.id≠id:=by unfold B4;rw[GN];simp
theorem M7.get{L L1 L2}(h:M7 L L1 L2)(j:E5 L1 L2)id:B4 (L1++L2) id=B4 L id:=by
 cases i:B4 L id with
 |none=>
  rw[Fb]at i|-;exact fun o u=>i o (h.mem.1 u)
 |some o=>
  have h1:o∈L/\o.id=id:=by unfold B4 at i;have h2:=Xo i;simp at h2;exact⟨NE i,h2⟩
  rw[<-h1.2];exact Xc2 j.ids (h.mem.2 h1.1)
theorem M7.addE{L L1 L2}(h:M7 L L1 L2)(j:E5 L1 L2)o:addE L1 L2 o=KE L o:=by
 have h1:=h.len;have h2:=j.cnt;rw[B6]at h2;unfold Go.Proofs.YtfoikonjjojkaaaGreatDoor.addE KE;rw[h.get j,h1]
 by_cases i:100<=L.length
 ·rw[X0 (show L.length=100 by omega),X0 i]
 rw[J8 (show¬L.length=100 by omega),J8 i]
theorem M7.add{L L1 L2}(h:M7 L L1 L2){o}(D:JV o)(j:KE L o=0):M7 (CQ L o) (QD 1 L1 o) (QD 2 L2 o):=by
 have Z:CQ L o=L++[U6 o]:=by unfold CQ;rw[X0 j]
 have C:UG o=true/\KS o=true/\B4 L o.id=none:=by
  unfold KE at j
  cases h1:UG o with
  |false=>rw[h1]at j;simp at j
  |true=>
   cases h2:KS o with
   |false=>rw[h1,h2]at j;simp at j
   |true=>
    cases N:B4 L o.id with
    |none=>exact⟨rfl,rfl,rfl⟩
    |some x=>rw[h1,h2,N]at j;simp at j
 obtain⟨y,u,b3⟩:=C;have J:KG (U6 o)/\V5 (U6 o).side:=by unfold UG at y;unfold KS at u;rw[RD]at u;simp at y;refine⟨⟨⟨D.1,D.2.1,D.2.2.1,?_,D.2.2.2.2⟩,y.2,⟨u.1,u.2.1⟩,⟨u.2.2.1,u.2.2.2⟩⟩,y.1⟩;unfold V3;omega
 have E:∀s,V5 s->KX s (L++[U6 o])=QD s (KX s L) o:=fun s hs=>by
  unfold QD;show BR (VG s) (G7 s (L++[U6 o]))=_;rw[Bo]
  by_cases e:o.side=s
  ·rw[X0 (V4 (show(U6 o).side=s from e)),X0 e,Jf8,Jq4 hs J.1 (fun x i=>(h.ok x (Kf.1 i).1).1)]
   rfl
  rw[J8 (by rw[Z3 (show(U6 o).side≠s from e)];simp),J8 e,BF]
  rfl
 rw[Z];refine⟨by rw[E 1 (.inl rfl),h.s1],by rw[E 2 (.inr rfl),h.s2],?_,fun x i=>?_⟩
 ·rw[L6,BE]
  refine⟨h.ids,Q3,fun a ha b C=>?_⟩;obtain⟨x,i,rfl⟩:=Y4.1 ha;simp at C;subst C;exact Fb.1 b3 x i
 obtain i|i:=B8.1 i
 ·exact h.ok x i
 rw[UN]at i;subst i;exact J
theorem Qx9{L}(u:(L.map (·.id)).Nodup){k}(hk:k<L.length):QM L k=L.filter fun x=> !(x.id ==L[k].id):=by
 unfold QM;have e:L=L.take k++L[k]::L.drop (k+1):=by rw[<-CZ hk,P9]
 have key:∀(A B:List X6)(x:X6),((A++x::B).map (·.id)).Nodup->(A++x::B).filter (fun y=> !(y.id ==x.id))=A++B:=by
  intro A B x h;rw[L6,T2,BE,UX]at h;rw[JE,ED Q3];have h1:A.filter (fun y=> !(y.id ==x.id))=A:=VT.2 (fun y i=>by have:=h.2.2 _ (Y4.2 ⟨y,i,rfl⟩) _ (FR);simpa using this)
  have h2:B.filter (fun y=> !(y.id ==x.id))=B:=VT.2 (fun y i=>by
   have j:=h.2.1.1;have:y.id≠x.id:=fun e=>j (by rw[<-e];exact Y4.2 ⟨y,i,rfl⟩)
   simpa using this)
  rw[h1,h2]
 generalize L[k]=y at e|-;generalize L.take k=A at e|-;generalize L.drop (k+1)=B at e|-;subst e;exact(key _ _ _ u).symm
theorem M7.filter{L L1 L2}(h:M7 L L1 L2)p:M7 (L.filter p) (L1.filter p) (L2.filter p):=by
 have e:∀s,KX s (L.filter p)=(KX s L).filter p:=fun s=>by
  unfold KX;rw[<-Qs1];unfold G7;rw[Az,Az]
  congr 2
  funext x
  rw[Bool.and_comm]
 refine⟨by rw[e,h.s1],by rw[e,h.s2],?_,fun o i=>h.ok o (S4.1 i).1⟩;exact Xe ((At).map _) h.ids
theorem M7.cancel{L L1 L2}(h:M7 L L1 L2){id o}(i:B4 L id=some o):M7 (FB L id) (L9 L1 id) (L9 L2 id):=by
 rcases Ke L id with⟨-,h2⟩|⟨k,hk,-,j,u,y⟩
 ·rw[h2]at i;cases i
 have e:FB L id=L.filter fun x=> !(x.id ==id):=by unfold FB;rw[j,Qx9 h.ids hk,u]
 rw[e];exact h.filter _
theorem M7.map{L L1 L2}(h:M7 L L1 L2){id n}(u:∀o∈L,o.id=id->1<=o.qty-n/\o.qty-n<=1000000):M7 (YX L id n) (YX L1 id n) (YX L2 id n):=by
 have y:∀s x,VG s (if x.id=id then D9 x n else x)=VG s x:=fun s x=>by split<;>rfl
 have e:∀s,KX s (YX L id n)=YX (KX s L) id n:=fun s=>by
  unfold KX YX;rw[<-Jq7 (r:=VG s) (fun o=>if o.id=id then D9 o n else o) (y s)]
  congr 1
  unfold G7;rw[Xn]
  congr 2
  funext x
  simp only[Function.comp]
  split<;>rfl
 refine⟨by rw[e,h.s1],by rw[e,h.s2],?_,fun o i=>?_⟩
 ·have:(YX L id n).map (·.id)=L.map (·.id):=by
   unfold YX;rw[YT];refine UM fun x _=>?_
   simp only[Function.comp]
   split<;>rfl
  rw[this];exact h.ids
 unfold YX at i;obtain⟨x,j,rfl⟩:=Y4.1 i;have h1:=h.ok x j
 by_cases e:x.id=id
 ·rw[X0 e]
  have h2:=u x j e;refine⟨⟨⟨h1.1.1.1,h1.1.1.2.1,h1.1.1.2.2.1,h1.1.1.2.2.2.1,?_⟩,h1.1.2.1,h1.1.2.2.1,h2⟩,h1.2⟩;unfold V3 D9;dsimp only;omega
 rw[J8 e];exact h1
theorem Xc3{L}(y:(L.map (·.id)).Nodup){k}(hk:k<L.length)n:L.set k (D9 L[k] n)=YX L L[k].id n:=by
 unfold YX;apply List.ext_getElem Q3;intro i h1 h2;rw[List.getElem_map]
 by_cases e:i=k
 ·subst e
  rw[SL,X0 rfl]
 rw[WD (fun h=>e h.symm)];have u:i<L.length:=by simpa using h1
 have:L[i].id≠L[k].id:=fun h=>by
  have j:=GG.1 y;obtain C|gt:=Nat.lt_or_gt_of_ne e
  ·exact j i k (by simpa using u) (by simpa using hk) C (by simpa using h)
  exact j k i (by simpa using hk) (by simpa using u) gt (by simpa using h.symm)
 rw[J8 this]
