/- Parts. -/
import Derived.Test.YtnlngicnfegjgaaGreatDoorZq30
set_option linter.unusedVariables false
set_option maxRecDepth 100000
set_option maxHeartbeats 8000000
open Go.Proofs.Tryz
open Go.Value renaming int→I,pointer→IP
open Go.IntKind renaming i64→O
namespace Go.Proofs.YtnlngicnfegjgaaGreatDoor
open Go.RowKit
theorem Wt {σ K al tr cnt ga gt fa ca ct b}
  (hs:YA K al tr cnt ga gt fa ca ct 119 (IP (some ⟨b,0,none⟩)) .nilIface)
  (i8: ∀ {s:σ} {L1 L2 F w},K s L1 L2 F w-> ∀sd,Z4 sd->Calls prog 42 #[IP (some ⟨b,0,none⟩),I O sd] w fun e w'=>Below w.heap.size w w'/\ ∃A c,e= .returned (.tuple #[.slice A (X6 sd L1 L2).length c,.nilIface])/\J2 w' A (X6 sd L1 L2).length c 29 5 (Q9 X9 (X6 sd L1 L2))/\ ∀g,Q7 A=some g->w.heap.size<=g)
  w s0 G L1 L2 (h:K s0 L1 L2 G w) (h0:cnt s0=0) oi ok op oq (hf:R9 ⟨oi,1,ok,op,oq⟩):
  Calls prog 94 #[IP (some ⟨b,0,none⟩),X5 ⟨oi,1,ok,op,oq⟩,.func (.func ga) fa ca,.func (.func gt) #[] ct] w fun e w'=>ND K w w' G 1 L1 L2 (V7 al tr (X6 2 L1 L2) ⟨oi,1,ok,op,oq⟩ s0) e:=by
 have HS:=Q0 hs
 have m8:=hs.ega
 have m7:=hs.egt
 have b2:=hs.lt h
 have g0:=hs.ok h
 obtain⟨l,hl⟩:=exq (X6 2 L1 L2)
 rw[hl]
 have g8: ∀x∈l,JJ x:=fun x hx=>by
  rw[<-hl]at hx;refine g0.ok x ?_;unfold X6 at hx
  split at hx
  ·exact S9 _ hx
  exact QB _ hx
 have j8:l.length<=100:=by
  have h1:=g0.cnt;rw[Y9]at h1;rw[<-hl];unfold X6
  split<;>omega
 obtain⟨n,hn⟩:=exq l.length
 rw[hn]at j8
 have i4:Below w.heap.size w (w.alloc (.cells (J8 ⟨oi,1,ok,op,oq⟩) 29)):=(Q2 _ w).alloc (Q4 _) _
 have c5:Below w.heap.size w ((w.alloc (.cells (J8 ⟨oi,1,ok,op,oq⟩) 29)).alloc (.cells (J8 Y3) 29)):=i4.alloc (by simp) _
 have hX:=G7 (J9 w 29 (J8 ⟨oi,1,ok,op,oq⟩)) (.cells (J8 Y3) 29)
 have i:Q1 ((w.alloc (.cells (J8 ⟨oi,1,ok,op,oq⟩) 29)).alloc (.cells (J8 Y3) 29)) (w.heap.size+1) 29 (J8 Y3):=by
  have:=J9 (w.alloc (.cells (J8 ⟨oi,1,ok,op,oq⟩) 29)) 29 (J8 Y3);rw[PL]at this;exact this
 obtain⟨w2,a7⟩:=exq ((w.alloc (.cells (J8 ⟨oi,1,ok,op,oq⟩) 29)).alloc (.cells (J8 Y3) 29))
 rw[a7]at c5 hX i
 have d5:=hs.keep h (U1 c5 (fun _=>False)) (fun _ _=>id)
 have d6:=i8 d5 2 Y5
 rw[hl,hn]at d6
 have HC:=Q0 d6
 have HX:=Q0 hX
 have HY:=Q0 i
 have c6:=Q0 c5
 have c7:=Q0 b2
 have h8:=Q0 d5
 have j6:=Q0 g8
 have HN:=Q0 hn
 have HL:=Q0 hl
 have l8:=hX.lt
 have k4:=i.lt
 have k1:G8 oq:=hf.2.2.2.2
 obtain⟨E,D,y,C,u⟩:=Z6 hX
 dsimp only at E D y C u
 clear hs h i8 g0 g8 i4 c5 hX i d5 d6 hn b2 hf
 unfold J8 Y3 at a7
 dsimp only at a7
 show Calls prog 94 #[IP (some ⟨b,0,none⟩),.agg #[I O oi,I O 1,I O ok,I O op,I O oq],.func (.func ga) fa ca,.func (.func gt) #[] ct] w _
 go_enter func94,ntmps94
 go_upto_region 2 with fail
 try rw[a7]
 clear a7
 go_wp2_with fail
 refine HC.mono ?_
 rintro e w3 ⟨b0,AL,cl,rfl,h7,c4⟩
 have k9:w.heap.size<=w2.heap.size:=c6.size
 have f8:=Q0 (show YG K al tr cnt w w3 s0 s0 G G L1 L2 L1 L2 l oi 1 ok op oq oq w.heap.size (w.heap.size+1) AL n cl none 0 [] [] 0 from
  ⟨⟨⟨HS.keep h8 (U1 b0 (fun _=>False)) (fun _ _=>id),C1 (c6.trans (b0.mono c6.size)),JX _ _ _ _,fun g hg=>by simp[Q7]at hg⟩,
   J4 HX b0,J4 HY b0,fun e=>YK _ (c7 _ e),fun e=>by have:=c7.out _ e;omega,by simp[Q7],by simp[Q7],by omega,h7,fun g hg=>⟨fun e=>by have:=c7.out _ e;have:=c4 g hg;omega,by simp[Q7],by have:=c4 g hg;omega,by have:=c4 g hg;omega⟩,Q4 _,by omega⟩,by rw[FW];rfl,rfl,by rw[FW,VZ];exact HL,V5 _,k1,by rw[h0];exact V5 _⟩)
 clear b0 h7 c4 E D y C u HX HY HC h8 c7
 obtain⟨X,eX⟩:=exq w.heap.size
 obtain⟨Y,eY⟩:=exq (w.heap.size+1)
 rw[eY,eX]at f8|-
 have m4:=Q0 eX
 clear eX eY l8 k4 c6 k9
 go_wp2_with fail
 go_loopg [11,28] n (fun gg l0 k5 wr=> ∃k q s G' M1 M2 A c F R,k<=n/\gg=n-k/\k5=I O k/\l0= .slice A F.length c/\Hid (YG K al tr cnt w wr s0 s G G' L1 L2 M1 M2 l oi 1 ok op oq q X Y AL n cl A c F R k))
 case atStart=>exact⟨0,oq,s0,G,L1,L2,none,0,[],[],V5 _,rfl,rfl,rfl,f8⟩
 obtain⟨k,q,s,G',M1,M2,A,c,F,R,hk,rfl,rfl,rfl,HW⟩:=hrel
 clear f8
 by_cases b2:k<n
 ·have d8:k<l.length:=by rw[HN.out];exact b2
  obtain⟨gl,l3⟩:=QC HW.v.lr (by omega);subst l3;obtain⟨y0,y1,y2,y3,y4⟩:=BZ HW.v.lr d8;have e5:=UC d8;have f6:=j6.out l[k] (Y1 d8);obtain⟨x,hx⟩:=exq (l[k]);rw[hx]at y0 y1 y2 y3 y4 e5 f6;have a5:=Q0 e5;have a9:=Q0 f6;have l4:(k:Int)< (n:Int):=by omega
  have e2:(0:Int)<=(k:Int):=by omega
  clear e5 f6 hx;go_upto_region 6 with fail
  obtain⟨wa,h9⟩:=exq (wr.alloc (.cells #[I O x.id,I O x.side,I O x.kind,I O x.price,I O x.qty] 29));obtain⟨Z,eZ⟩:=exq wr.heap.size;have hZ:=J9 wr 29 (J8 x);unfold J8 at hZ;have b1:=HW.below HS ((Q2 wr.heap.size wr).alloc (Q4 _) (.cells #[I O x.id,I O x.side,I O x.kind,I O x.price,I O x.qty] 29));have f9: ¬G' wr.heap.size:=fun e=>YK _ (HS.lt HW.v.m.mk_ _ e)
  have e3:Q7 A≠some wr.heap.size:=fun e=>YK _ (HW.v.m.row.lt e)
  have e9:wr.heap.size≠X:=fun e=>by have:=J5 HW.v.bx;omega
  rw[h9]at hZ b1|-;rw[eZ]at hZ f9 e3 e9|-;have l6:=Q0 e3;have k8:=Q0 e9;clear e3 e9;obtain⟨E,D,y,C,u⟩:=Z6 b1.v.bx;obtain⟨z0,z1,U,z3,z4⟩:=A5 hZ;dsimp only at E D y C u;have j:=Q0 b1;have HZ:=Q0 hZ;have k3:=Q0 f9;clear b1 hZ f9 HW h9 eZ y0 y1 y2 y3 y4
  by_cases c0:q<1
  ·have d0:decide (q<1)=true:=Z5 c0
   have a2:=Q0 c0;clear c0;have i:=j.v.by_;obtain⟨v0,v1,v2,v3,v4⟩:=Z6 i;have f0:=J1 i 0;have f1:=J1 i 1;have f2:=J1 i 2;have f3:=J1 i 3;have f4:=J1 i 4;obtain⟨N,J⟩:=VT i (I O oi) (I O 1) (I O ok) (I O op) (I O q);have a3:=Q0 N;have a1:=Q0 J;clear i N J;go_wp2_with fail
   go_region
   go_wp2_with fail
   exact VW rfl (o:=⟨oi,1,ok,op,q⟩) Y rfl rfl rfl rfl (Z2 a3) (j.done HS (by rw[a5.out];exact Xu a2) (a1.then_ (J3 (Q2 _ _))))
  have d0:decide (q<1)=false:=Z1 c0;have a2:Hid (1<=q):=Q0 (by omega);clear c0
  by_cases c1:x.kind=2
  ·have d1:=Z0 c1
   have a8:=Q0 c1;clear c1;go_wp2_with fail
   go_roundg (n- (k+1))
   case measure=>omega
   exact⟨k+1,q,s,G',M1,M2,A,c,F,R++ [x],by omega,rfl,by go_num,rfl,Q0 (j.pass a5 (by have:=a2.out;omega) a8)⟩
  have d1:=X3 c1;have a8:=Q0 c1;clear c1;go_upto_region 9 with fail
  go_cut [42] (fun k0 wx=>k0= .bool (W2 ⟨oi,1,ok,op,q⟩ x)/\wx=wa)
  case first=>
   by_cases c2:ok=2
   ·have d2:=JW c2
    have HE:Hid (W2 ⟨oi,1,ok,op,q⟩ x=false):=Q0 (by unfold W2;dsimp only;rw[Z0 c2];rfl);clear c2;go_wp2_with fail
    go_meet;exact⟨by rw[HE.out],rfl⟩
   have d2:=JF c2
   by_cases c3:op<x.price
   ·have d3:=Z5 c3
    have HE:Hid (W2 ⟨oi,1,ok,op,q⟩ x=true):=Q0 (by unfold W2;dsimp only;rw[X3 c2];simp;exact c3);clear c2 c3;go_wp2_with fail
    go_meet;exact⟨by rw[HE.out],rfl⟩
   have d3:=Z1 c3;have HE:Hid (W2 ⟨oi,1,ok,op,q⟩ x=false):=Q0 (by unfold W2;dsimp only;rw[X3 c2];simp;omega);clear c2 c3;go_wp2_with fail
   go_meet;exact⟨by rw[HE.out],rfl⟩
  obtain⟨rfl,rfl⟩:=hcut;obtain⟨bb,a4⟩:=exq (W2 ⟨oi,1,ok,op,q⟩ x);rw[a4];have e4:=Q0 a4;clear a4
  cases bb with
  |true=>
   have i:=j.v.by_;obtain⟨v0,v1,v2,v3,v4⟩:=Z6 i;have f0:=J1 i 0;have f1:=J1 i 1;have f2:=J1 i 2;have f3:=J1 i 3;have f4:=J1 i 4;obtain⟨N,J⟩:=VT i (I O oi) (I O 1) (I O ok) (I O op) (I O q);have a3:=Q0 N;have a1:=Q0 J;clear i N J;go_wp2_with fail
   go_region
   go_wp2_with fail
   exact VW rfl (o:=⟨oi,1,ok,op,q⟩) Y rfl rfl rfl rfl (Z2 a3) (j.done HS (by rw[a5.out];exact Jw (by have:=a2.out;show¬q<1;omega) a8 e4) (a1.then_ (J3 (Q2 _ _))))
  |false=>
   go_wp2_with fail
   go_at_fn ga
   refine(HS.allows x.price j.v.m.mk_ ⟨a9.2.2.1.1,a9.2.2.1.2⟩).mono ?_;rintro e wb ⟨rfl,a4⟩;have d9:=j.below HS a4;have e1:=J4 HZ a4;obtain⟨ab,d7⟩:=exq (al s x.price);rw[d7];have g4:=Q0 d7;have j:=Q0 d9;have HZ:=Q0 e1;obtain⟨E,D,y,C,u⟩:=Z6 d9.v.bx;obtain⟨z0,z1,U,z3,z4⟩:=A5 e1;dsimp only at E D y C u;clear d9 e1 a4 d7
   cases ab with
   |false=>
    have i:=j.v.by_;obtain⟨v0,v1,v2,v3,v4⟩:=Z6 i;have f0:=J1 i 0;have f1:=J1 i 1;have f2:=J1 i 2;have f3:=J1 i 3;have f4:=J1 i 4;obtain⟨N,J⟩:=VT i (I O oi) (I O 1) (I O ok) (I O op) (I O q);have a3:=Q0 N;have a1:=Q0 J;clear i N J;go_wp2_with fail
    go_region
    go_wp2_with fail
    exact VW rfl (o:=⟨oi,1,ok,op,q⟩) Y rfl rfl rfl rfl (Z2 a3) (j.done HS (by rw[a5.out];exact RB (by have:=a2.out;show¬q<1;omega) a8 e4 g4) (a1.then_ (J3 (Q2 _ _))))
   |true=>
    clear E D y C u z0 z1 U z3 z4;obtain⟨m,hm⟩:=exq (min q x.qty);have m9:=a2.out;have n0:=a9.2.2.2;have m0:=j.qb;unfold G8 at m0;have j9:1<=m:=by omega
    have l7:m<=x.qty:=by omega
    have n2:m<=q:=by omega
    have HM:=Q0 hm;clear hm;go_upto_region 13 with fail
    obtain⟨E,D,y,C,u⟩:=Z6 j.v.bx;obtain⟨z0,z1,U,z3,z4⟩:=A5 HZ;dsimp only at E D y C u
    go_cut [16] (fun l9 wx=>l9=I O m/\wx=wb)
    case first=>
     go_wp2_with fail
     all_goals go_meet
     all_goals refine⟨?_,rfl⟩
     all_goals rw[<-HM.out]
     all_goals congr 1
     all_goals omega
    obtain⟨rfl,rfl⟩:=hcut;have n1:F.length<=100000000:=by have:=j.fl;omega
    have k6:Hid (cnt s<=F.length):=Q0 j.cn;have l1:Hid (cnt s<=1000):=Q0 (by have:=j.fl;have:=j.cn;omega);obtain⟨i0,j4,i3,h6,j3⟩:=N0 LN;go_upto_region 15 with fail
    have a6:Below wc.heap.size wc (wc.alloc (.cells #[I O oi,I O x.id,I O x.price,I O m] 89)):=(Q2 _ _).alloc (Q4 _) _;have hQ:=J9 wc 89 #[I O oi,I O x.id,I O x.price,I O m];obtain⟨Q,eQ⟩:=exq wc.heap.size;have m5:Hid (wc.heap.size<=Q):=Q0 (by omega);obtain⟨wf,g5⟩:=exq (wc.alloc (.cells #[I O oi,I O x.id,I O x.price,I O m] 89));have f7:=j.below HS a6;have e7:X≠wc.heap.size:=fun e=>by have:=J5 j.v.bx;omega
    have d4:=J4 HZ a6;rw[g5]at hQ f7 d4 a6|-;have m3:=Q0 a6;rw[eQ]at hQ e7|-;have m6:=Q0 e7;clear e7;have a0:=Q0 f7;have g1:=Q0 d4;have HQ:=Q0 hQ;clear E D y C u z0 z1 U z3 z4 a6 g5 eQ f7 d4;obtain⟨E,D,y,C,u⟩:=Z6 a0.v.bx;obtain⟨z0,z1,U,z3,z4⟩:=A5 g1;obtain⟨q0,q1,q2,q3⟩:=Qk hQ;dsimp only at E D y C u;clear hQ;have j1:=Q0 (YM (show wf.ownsRow 0 89 4 (.slice A F.length c) F.length (Q9 D8 F)from a0.v.m.row) (.cells #[I O oi,I O x.id,I O x.price,I O m] 89));go_upto_region 18 with(at_builtin;refine ZL _ rfl _ _ 42 rfl 0 89 i0 _ 4 32 MR j4 i3 h6 j3 rfl (by omega) (.slice A F.length c) F.length _ rfl j1 ⟨wf.heap.size,0,none⟩ 1 1 [I O oi,I O x.id,I O x.price,I O m] rfl rfl (JB (cs:= #[I O oi,I O x.id,I O x.price,I O m]) (t:=89) (fr:=(0,0)) (S5 wf _)) (by simp[Value.oneCell']) (by omega) (by unfold maxLen;omega) (by omega) (by simp) (wf.heap.size+1) (by simp) ?_;intro gg cap w6 i2 i6 e8 j5)
    have b5:=GJ i6;rw[A7]at b5 e8;have c8:=a0.v.fill HS (f:=⟨oi,x.id,x.price,m⟩) b5 i2 (e8.imp id (fun e=>by omega));have i9:=X0 g1 b5 l6;obtain⟨i5,h3,h5⟩:=RH (n:=m) (HS.ok c8.m.mk_) Y4 (a0.oth.trans (by rw[a5.out]));have g9:=HS.cut x m c8.m.mk_ i5 j9 l7;have j2:=Q0 g9;have i7:=Q0 c8;have c9:=Q0 i9;have j7:=Q0 (h3.trans a0.own);have l5:=Q0 h5;have HEq:=Q0 (show V7 al tr l ⟨oi,1,ok,op,oq⟩ s0=QF.join (F++ [⟨oi,x.id,x.price,m⟩]) (R++ZF x m) (V7 al tr (l.drop (k+1)) ⟨oi,1,ok,op,q-m⟩ (tr s x.price))from a0.eq.trans (by rw[a5.out];exact RU (by have:=a2.out;show¬q<1;omega) a8 e4 g4 HM));have l2:=Q0 a0.fl;clear E D y C u z0 z1 U z3 z4 q0 q1 q2 q3 b5 i2 i6 e8 j5 c8 i9 i5 h3 h5 g9 j1 j4 i3 h6 j3 a0 g1 HQ j HZ;obtain⟨z0,z1,U,z3,z4⟩:=A5 c9;go_wp2_with fail
    refine j2.mono ?_;rintro e w7 ⟨rfl,G2,e2,e6⟩;have b8:=i7.turn e2 e6;have j0:=X0 c9 e6.1 (fun e=>k3 e);have h4:=b8.lots HS (q':=q-m);have g2:=X0 j0 (V2 w7 ⟨X,4,none⟩ (I O (q-m))) k8;have i1:RowKit.wrap64 (q-m)=q-m:=by unfold RowKit.wrap64;omega
    have f4:=J1 b8.bx 4;obtain⟨E,D,y,C,u⟩:=Z6 b8.bx;dsimp only at E D y C u;have b9:=Q0 h4;have f5:=Q0 g2;clear b8 j0 h4 g2 e2 e6 z0 z1 U z3 z4 i7 c9 j2;go_upto_region 20 with fail
    obtain⟨w8,g7⟩:=exq (w7.setCell ⟨X,4,none⟩ (I O (q-m)));rw[g7]at b9 f5|-;clear g7 E D y C u f4;obtain⟨z0,z1,U,z3,z4⟩:=A5 f5;go_wp2_with fail
    go_at_fn gt
    refine(HS.trades x.price b9.m.mk_ ⟨a9.2.2.1.1,a9.2.2.1.2⟩ l1).mono ?_;rintro e w9 ⟨rfl,G3,g3,g6⟩;have k7:=Q0 (b9.turn g3 g6);clear g3 g6 z0 z1 U z3 z4 b9 f5 i1;go_wp2_with fail
    go_roundg (n- (k+1))
    case measure=>omega
    exact⟨k+1,q-m,tr s x.price,G3,E9 M1 x m,E9 M2 x m,some ⟨gg,0,none⟩,cap,F++ [⟨oi,x.id,x.price,m⟩],R++ZF x m,by omega,rfl,by go_num,by simp,Q0 ⟨k7.out,HEq.out,j7.out,l5.out,by rw[Y9,YL];exact PM l2.out,by unfold G8;omega,by have h1:=HS.out.cnt_ s x.price;have h2:=k6.out;rw[Y9,YL];omega⟩⟩
 obtain rfl:k=n:=by omega
 have l4: ¬(k:Int)< (k:Int):=by omega
 have i:=HW.v.by_
 obtain⟨v0,v1,v2,v3,v4⟩:=Z6 i
 obtain⟨E,D,y,C,u⟩:=Z6 HW.v.bx
 dsimp only at E D y C u
 have f0:=J1 i 0
 have f1:=J1 i 1
 have f2:=J1 i 2
 have f3:=J1 i 3
 have f4:=J1 i 4
 obtain⟨N,J⟩:=VT i (I O oi) (I O 1) (I O ok) (I O op) (I O q)
 have a3:=Q0 N
 have a1:=Q0 J
 clear i N J
 go_wp2_with fail
 go_region
 go_wp2_with fail
 have k2:l.drop k= []:=CG (by rw[HN.out];exact Q4 _)
 exact VW rfl (o:=⟨oi,1,ok,op,q⟩) Y rfl rfl rfl rfl (Z2 a3) (HW.done HS (by rw[k2,Kf,YP]) (a1.then_ (J3 (Q2 _ _))))
theorem Wu {σ K al tr cnt ga gt fa ca ct b}
  (hs:YA K al tr cnt ga gt fa ca ct 119 (IP (some ⟨b,0,none⟩)) .nilIface)
  (k0: ∀ {s:σ} {L1 L2 F w},K s L1 L2 F w-> ∀sd,Z4 sd->Calls prog 42 #[IP (some ⟨b,0,none⟩),I O sd] w fun e w'=>Below w.heap.size w w'/\ ∃A c,e= .returned (.tuple #[.slice A (X6 sd L1 L2).length c,.nilIface])/\J2 w' A (X6 sd L1 L2).length c 29 5 (Q9 X9 (X6 sd L1 L2))/\ ∀g,Q7 A=some g->w.heap.size<=g)
  w s0 G L1 L2 (h:K s0 L1 L2 G w) (h0:cnt s0=0) oi ok op oq (hf:R9 ⟨oi,2,ok,op,oq⟩):
  Calls prog 94 #[IP (some ⟨b,0,none⟩),X5 ⟨oi,2,ok,op,oq⟩,.func (.func ga) fa ca,.func (.func gt) #[] ct] w fun e w'=>ND K w w' G 2 L1 L2 (V7 al tr (X6 1 L1 L2) ⟨oi,2,ok,op,oq⟩ s0) e:=by
 have HS:=Q0 hs
 have o2:=hs.ega
 have o1:=hs.egt
 have b9:=hs.lt h
 have h3:=hs.ok h
 obtain⟨l,hl⟩:=exq (X6 1 L1 L2)
 rw[hl]
 have i3: ∀x∈l,JJ x:=fun x hx=>by
  rw[<-hl]at hx;refine h3.ok x ?_;unfold X6 at hx
  split at hx
  ·exact S9 _ hx
  exact QB _ hx
 have l2:l.length<=100:=by
  have h1:=h3.cnt;rw[Y9]at h1;rw[<-hl];unfold X6
  split<;>omega
 obtain⟨n,hn⟩:=exq l.length
 rw[hn]at l2
 have j6:Below w.heap.size w (w.alloc (.cells (J8 ⟨oi,2,ok,op,oq⟩) 29)):=(Q2 _ w).alloc (Q4 _) _
 have c9:Below w.heap.size w ((w.alloc (.cells (J8 ⟨oi,2,ok,op,oq⟩) 29)).alloc (.cells (J8 Y3) 29)):=j6.alloc (by simp) _
 have hX:=G7 (J9 w 29 (J8 ⟨oi,2,ok,op,oq⟩)) (.cells (J8 Y3) 29)
 have j:Q1 ((w.alloc (.cells (J8 ⟨oi,2,ok,op,oq⟩) 29)).alloc (.cells (J8 Y3) 29)) (w.heap.size+1) 29 (J8 Y3):=by
  have:=J9 (w.alloc (.cells (J8 ⟨oi,2,ok,op,oq⟩) 29)) 29 (J8 Y3);rw[PL]at this;exact this
 obtain⟨w2,b0⟩:=exq ((w.alloc (.cells (J8 ⟨oi,2,ok,op,oq⟩) 29)).alloc (.cells (J8 Y3) 29))
 rw[b0]at c9 hX j
 have e2:=hs.keep h (U1 c9 (fun _=>False)) (fun _ _=>id)
 have e3:=k0 e2 1 Y4
 rw[hl,hn]at e3
 have HC:=Q0 e3
 have HX:=Q0 hX
 have HY:=Q0 j
 have d4:=Q0 c9
 have d5:=Q0 b9
 have j1:=Q0 e2
 have k9:=Q0 i3
 have HN:=Q0 hn
 have HL:=Q0 hl
 have n6:=hX.lt
 have l9:=j.lt
 have l5:G8 oq:=hf.2.2.2.2
 obtain⟨u,E,C,D,y⟩:=Z6 hX
 dsimp only at u E C D y
 clear hs h k0 h3 i3 j6 c9 hX j e2 e3 hn b9 hf
 unfold J8 Y3 at b0
 dsimp only at b0
 show Calls prog 94 #[IP (some ⟨b,0,none⟩),.agg #[I O oi,I O 2,I O ok,I O op,I O oq],.func (.func ga) fa ca,.func (.func gt) #[] ct] w _
 go_enter func94,ntmps94
 go_upto_region 2 with fail
 try rw[b0]
 clear b0
 go_wp2_with fail
 refine HC.mono ?_
 rintro e w3 ⟨b5,AL,cl,rfl,j0,c8⟩
 have m6:w.heap.size<=w2.heap.size:=d4.size
 have g8:=Q0 (show YG K al tr cnt w w3 s0 s0 G G L1 L2 L1 L2 l oi 2 ok op oq oq w.heap.size (w.heap.size+1) AL n cl none 0 [] [] 0 from
  ⟨⟨⟨HS.keep j1 (U1 b5 (fun _=>False)) (fun _ _=>id),C1 (d4.trans (b5.mono d4.size)),JX _ _ _ _,fun g hg=>by simp[Q7]at hg⟩,
   J4 HX b5,J4 HY b5,fun e=>YK _ (d5 _ e),fun e=>by have:=d5.out _ e;omega,by simp[Q7],by simp[Q7],by omega,j0,fun g hg=>⟨fun e=>by have:=d5.out _ e;have:=c8 g hg;omega,by simp[Q7],by have:=c8 g hg;omega,by have:=c8 g hg;omega⟩,Q4 _,by omega⟩,by rw[FW];rfl,rfl,by rw[FW,VZ];exact HL,V5 _,l5,by rw[h0];exact V5 _⟩)
 clear b5 j0 c8 u E C D y HX HY HC j1 d5
 obtain⟨X,eX⟩:=exq w.heap.size
 obtain⟨Y,eY⟩:=exq (w.heap.size+1)
 rw[eY,eX]at g8|-
 have n9:=Q0 eX
 clear eX eY n6 l9 d4 m6
 go_wp2_with fail
 go_loopg [11,28] n (fun gg m7 m0 wr=> ∃k q s G' M1 M2 A c F R,k<=n/\gg=n-k/\m0=I O k/\m7= .slice A F.length c/\Hid (YG K al tr cnt w wr s0 s G G' L1 L2 M1 M2 l oi 2 ok op oq q X Y AL n cl A c F R k))
 case atStart=>exact⟨0,oq,s0,G,L1,L2,none,0,[],[],V5 _,rfl,rfl,rfl,g8⟩
 obtain⟨k,q,s,G',M1,M2,A,c,F,R,hk,rfl,rfl,rfl,HW⟩:=hrel
 clear g8
 by_cases b9:k<n
 ·have e5:k<l.length:=by rw[HN.out];exact b9
  obtain⟨gl,n1⟩:=QC HW.v.lr (by omega);subst n1;obtain⟨y0,y1,y2,y3,y4⟩:=BZ HW.v.lr e5;have f6:=UC e5;have g4:=k9.out l[k] (Y1 e5);obtain⟨x,hx⟩:=exq (l[k]);rw[hx]at y0 y1 y2 y3 y4 f6 g4;have a7:=Q0 f6;have b2:=Q0 g4;have n2:(k:Int)< (n:Int):=by omega
  have e8:(0:Int)<=(k:Int):=by omega
  clear f6 g4 hx;go_upto_region 6 with fail
  obtain⟨wa,j2⟩:=exq (wr.alloc (.cells #[I O x.id,I O x.side,I O x.kind,I O x.price,I O x.qty] 29));obtain⟨Z,eZ⟩:=exq wr.heap.size;have hZ:=J9 wr 29 (J8 x);unfold J8 at hZ;have b8:=HW.below HS ((Q2 wr.heap.size wr).alloc (Q4 _) (.cells #[I O x.id,I O x.side,I O x.kind,I O x.price,I O x.qty] 29));have g9: ¬G' wr.heap.size:=fun e=>YK _ (HS.lt HW.v.m.mk_ _ e)
  have e9:Q7 A≠some wr.heap.size:=fun e=>YK _ (HW.v.m.row.lt e)
  have g0:wr.heap.size≠X:=fun e=>by have:=J5 HW.v.bx;omega
  rw[j2]at hZ b8|-;rw[eZ]at hZ g9 e9 g0|-;have n4:=Q0 e9;have m5:=Q0 g0;clear e9 g0;obtain⟨u,E,C,D,y⟩:=Z6 b8.v.bx;obtain⟨z0,z1,N,z3,U⟩:=A5 hZ;dsimp only at u E C D y;have J:=Q0 b8;have HZ:=Q0 hZ;have l8:=Q0 g9;clear b8 hZ g9 HW j2 eZ y0 y1 y2 y3 y4
  by_cases c0:q<1
  ·have d0:decide (q<1)=true:=Z5 c0
   have a4:=Q0 c0;clear c0;have j:=J.v.by_;obtain⟨v0,v1,v2,v3,v4⟩:=Z6 j;have f0:=J1 j 0;have f1:=J1 j 1;have f2:=J1 j 2;have f3:=J1 j 3;have f4:=J1 j 4;obtain⟨a2,a1⟩:=VT j (I O oi) (I O 2) (I O ok) (I O op) (I O q);have a5:=Q0 a2;have a3:=Q0 a1;clear j a2 a1;go_wp2_with fail
   go_region
   go_wp2_with fail
   exact VW rfl (o:=⟨oi,2,ok,op,q⟩) Y rfl rfl rfl rfl (Z2 a5) (J.done HS (by rw[a7.out];exact Xu a4) (a3.then_ (J3 (Q2 _ _))))
  have d0:decide (q<1)=false:=Z1 c0;have a4:Hid (1<=q):=Q0 (by omega);clear c0
  by_cases c1:x.kind=2
  ·have d1:=Z0 c1
   have b1:=Q0 c1;clear c1;go_wp2_with fail
   go_roundg (n- (k+1))
   case measure=>omega
   exact⟨k+1,q,s,G',M1,M2,A,c,F,R++ [x],by omega,rfl,by go_num,rfl,Q0 (J.pass a7 (by have:=a4.out;omega) b1)⟩
  have d1:=X3 c1;have b1:=Q0 c1;clear c1;go_upto_region 9 with fail
  go_cut [42] (fun l4 wx=>l4= .bool (W2 ⟨oi,2,ok,op,q⟩ x)/\wx=wa)
  case first=>
   by_cases c2:ok=2
   ·have d2:=JW c2
    have HE:Hid (W2 ⟨oi,2,ok,op,q⟩ x=false):=Q0 (by unfold W2;dsimp only;rw[Z0 c2];rfl);clear c2;go_wp2_with fail
    go_meet;exact⟨by rw[HE.out],rfl⟩
   have d2:=JF c2
   by_cases c3:x.price<op
   ·have d3:=Z5 c3
    have HE:Hid (W2 ⟨oi,2,ok,op,q⟩ x=true):=Q0 (by unfold W2;dsimp only;rw[X3 c2];simp;exact c3);clear c2 c3;go_wp2_with fail
    go_meet;exact⟨by rw[HE.out],rfl⟩
   have d3:=Z1 c3;have HE:Hid (W2 ⟨oi,2,ok,op,q⟩ x=false):=Q0 (by unfold W2;dsimp only;rw[X3 c2];simp;omega);clear c2 c3;go_wp2_with fail
   go_meet;exact⟨by rw[HE.out],rfl⟩
  obtain⟨rfl,rfl⟩:=hcut;obtain⟨bb,a6⟩:=exq (W2 ⟨oi,2,ok,op,q⟩ x);rw[a6];have f5:=Q0 a6;clear a6
  cases bb with
  |true=>
   have j:=J.v.by_;obtain⟨v0,v1,v2,v3,v4⟩:=Z6 j;have f0:=J1 j 0;have f1:=J1 j 1;have f2:=J1 j 2;have f3:=J1 j 3;have f4:=J1 j 4;obtain⟨a2,a1⟩:=VT j (I O oi) (I O 2) (I O ok) (I O op) (I O q);have a5:=Q0 a2;have a3:=Q0 a1;clear j a2 a1;go_wp2_with fail
   go_region
   go_wp2_with fail
   exact VW rfl (o:=⟨oi,2,ok,op,q⟩) Y rfl rfl rfl rfl (Z2 a5) (J.done HS (by rw[a7.out];exact Jw (by have:=a4.out;show¬q<1;omega) b1 f5) (a3.then_ (J3 (Q2 _ _))))
  |false=>
   go_wp2_with fail
   go_at_fn ga
   refine(HS.allows x.price J.v.m.mk_ ⟨b2.2.2.1.1,b2.2.2.1.2⟩).mono ?_;rintro e wb ⟨rfl,a6⟩;have e6:=J.below HS a6;have e7:=J4 HZ a6;obtain⟨ab,e4⟩:=exq (al s x.price);rw[e4];have h6:=Q0 e4;have J:=Q0 e6;have HZ:=Q0 e7;obtain⟨u,E,C,D,y⟩:=Z6 e6.v.bx;obtain⟨z0,z1,N,z3,U⟩:=A5 e7;dsimp only at u E C D y;clear e6 e7 a6 e4
   cases ab with
   |false=>
    have j:=J.v.by_;obtain⟨v0,v1,v2,v3,v4⟩:=Z6 j;have f0:=J1 j 0;have f1:=J1 j 1;have f2:=J1 j 2;have f3:=J1 j 3;have f4:=J1 j 4;obtain⟨a2,a1⟩:=VT j (I O oi) (I O 2) (I O ok) (I O op) (I O q);have a5:=Q0 a2;have a3:=Q0 a1;clear j a2 a1;go_wp2_with fail
    go_region
    go_wp2_with fail
    exact VW rfl (o:=⟨oi,2,ok,op,q⟩) Y rfl rfl rfl rfl (Z2 a5) (J.done HS (by rw[a7.out];exact RB (by have:=a4.out;show¬q<1;omega) b1 f5 h6) (a3.then_ (J3 (Q2 _ _))))
   |true=>
    clear u E C D y z0 z1 N z3 U;obtain⟨m,hm⟩:=exq (min q x.qty);have c7:=a4.out;have o3:=b2.2.2.2;have n8:=J.qb;unfold G8 at n8;have l3:1<=m:=by omega
    have n5:m<=x.qty:=by omega
    have o5:m<=q:=by omega
    have HM:=Q0 hm;clear hm;go_upto_region 13 with fail
    obtain⟨u,E,C,D,y⟩:=Z6 J.v.bx;obtain⟨z0,z1,N,z3,U⟩:=A5 HZ;dsimp only at u E C D y
    go_cut [16] (fun n7 wx=>n7=I O m/\wx=wb)
    case first=>
     go_wp2_with fail
     all_goals go_meet
     all_goals refine⟨?_,rfl⟩
     all_goals rw[<-HM.out]
     all_goals congr 1
     all_goals omega
    obtain⟨rfl,rfl⟩:=hcut;have o4:F.length<=100000000:=by have:=J.fl;omega
    have m3:Hid (cnt s<=F.length):=Q0 J.cn;have m8:Hid (cnt s<=1000):=Q0 (by have:=J.fl;have:=J.cn;omega);obtain⟨i0,k7,j5,i9,k6⟩:=N0 LN;go_upto_region 15 with fail
    have a9:Below wc.heap.size wc (wc.alloc (.cells #[I O oi,I O x.id,I O x.price,I O m] 89)):=(Q2 _ _).alloc (Q4 _) _;have hQ:=J9 wc 89 #[I O oi,I O x.id,I O x.price,I O m];obtain⟨Q,eQ⟩:=exq wc.heap.size;have l1:Hid (wc.heap.size<=Q):=Q0 (by omega);obtain⟨wf,h7⟩:=exq (wc.alloc (.cells #[I O oi,I O x.id,I O x.price,I O m] 89));have g5:=J.below HS a9;have f8:X≠wc.heap.size:=fun e=>by have:=J5 J.v.bx;omega
    have e1:=J4 HZ a9;rw[h7]at hQ g5 e1 a9|-;have h8:=Q0 a9;rw[eQ]at hQ f8|-;have l6:=Q0 f8;clear f8;have a0:=Q0 g5;have a8:=Q0 e1;have HQ:=Q0 hQ;clear u E C D y z0 z1 N z3 U a9 h7 eQ g5 e1;obtain⟨u,E,C,D,y⟩:=Z6 a0.v.bx;obtain⟨z0,z1,N,z3,U⟩:=A5 a8;obtain⟨q0,q1,q2,q3⟩:=Qk hQ;dsimp only at u E C D y;clear hQ;have f0:=J1 HQ 0;have f1:=J1 HQ 1;have k1:=V2 wf ⟨Q,0,none⟩ (I O x.id);have m9:=(k1.cell (p:=⟨X,0,none⟩) (J5 a0.v.bx) (fun e=>l6 e)).trans u;have c7:=J7 HQ 0 (I O x.id);have g1:(wf.setCell ⟨Q,0,none⟩ (I O x.id)).cell? ⟨Q,1,none⟩=some (I O x.id):=by rw[J0 c7];rfl
    have g2:=J1 c7 1;clear k1 c7;go_upto_region 16 with fail
    go_region
    have i8:=((V2 wf ⟨Q,0,none⟩ (I O x.id)).trans (V2 _ ⟨Q,1,none⟩ (I O oi)) (fun _ h=> .inl h)).then_ (J3 (Q2 _ _));have d8:=h8.trans (i8.below (fun i e=>e▸l1.out) h8.size);have g7:=J.below HS d8;have g6:=J4 HZ d8;have d6:Q1 ((wf.setCell ⟨Q,0,none⟩ (I O x.id)).setCell ⟨Q,1,none⟩ (I O oi)).drew Q 89 #[I O x.id,I O oi,I O x.price,I O m]:=Z2 (J7 (J7 HQ 0 _) 1 _);obtain⟨wg,j4⟩:=exq (((wf.setCell ⟨Q,0,none⟩ (I O x.id)).setCell ⟨Q,1,none⟩ (I O oi)).drew);rw[j4]at g7 g6 d6|-;clear u E C D y z0 z1 N z3 U q0 q1 q2 q3 i8 d8 j4 f0 f1 m9 g1 g2 a0 a8 HQ;have a0:=Q0 g7;have a8:=Q0 g6;obtain⟨u,E,C,D,y⟩:=Z6 a0.v.bx;obtain⟨z0,z1,N,z3,U⟩:=A5 a8;obtain⟨q0,q1,q2,q3⟩:=Qk d6;dsimp only at u E C D y;have HQ:=Q0 d6;clear g7 g6 d6;have k4:=Q0 (YM (show wg.ownsRow 0 89 4 (.slice A F.length c) F.length (Q9 D8 F)from a0.v.m.row) (.cells #[I O x.id,I O oi,I O x.price,I O m] 89));go_upto_region 18 with(at_builtin;refine ZL _ rfl _ _ 42 rfl 0 89 i0 _ 4 32 MR k7 j5 i9 k6 rfl (by omega) (.slice A F.length c) F.length _ rfl k4 ⟨wg.heap.size,0,none⟩ 1 1 [I O x.id,I O oi,I O x.price,I O m] rfl rfl (JB (cs:= #[I O x.id,I O oi,I O x.price,I O m]) (t:=89) (fr:=(0,0)) (S5 wg _)) (by simp[Value.oneCell']) (by omega) (by unfold maxLen;omega) (by omega) (by simp) (wg.heap.size+1) (by simp) ?_;intro gg cap w6 j3 j8 f9 k8)
    have c4:=GJ j8;rw[A7]at c4 f9;have d7:=a0.v.fill HS (f:=⟨x.id,oi,x.price,m⟩) c4 j3 (f9.imp id (fun e=>by omega));have k2:=X0 a8 c4 n4;obtain⟨j7,i5,i7⟩:=RH (n:=m) (HS.ok d7.m.mk_) Y5 (a0.oth.trans (by rw[a7.out]));have i4:=HS.cut x m d7.m.mk_ j7 l3 n5;have k5:=Q0 i4;have j9:=Q0 d7;have d9:=Q0 k2;have l0:=Q0 (i5.trans a0.own);have n3:=Q0 i7;have HEq:=Q0 (show V7 al tr l ⟨oi,2,ok,op,oq⟩ s0=QF.join (F++ [⟨x.id,oi,x.price,m⟩]) (R++ZF x m) (V7 al tr (l.drop (k+1)) ⟨oi,2,ok,op,q-m⟩ (tr s x.price))from a0.eq.trans (by rw[a7.out];exact RU (by have:=a4.out;show¬q<1;omega) b1 f5 h6 HM));have n0:=Q0 a0.fl;clear u E C D y z0 z1 N z3 U q0 q1 q2 q3 c4 j3 j8 f9 k8 d7 k2 j7 i5 i7 i4 k4 k7 j5 i9 k6 a0 a8 HQ J HZ;obtain⟨z0,z1,N,z3,U⟩:=A5 d9;go_wp2_with fail
    refine k5.mono ?_;rintro e w7 ⟨rfl,G2,e8,f7⟩;have c5:=j9.turn e8 f7;have k3:=X0 d9 f7.1 (fun e=>l8 e);have i6:=c5.lots HS (q':=q-m);have h4:=X0 k3 (V2 w7 ⟨X,4,none⟩ (I O (q-m))) m5;have i1:RowKit.wrap64 (q-m)=q-m:=by unfold RowKit.wrap64;omega
    have f4:=J1 c5.bx 4;obtain⟨u,E,C,D,y⟩:=Z6 c5.bx;dsimp only at u E C D y;have c6:=Q0 i6;have g3:=Q0 h4;clear c5 k3 i6 h4 e8 f7 z0 z1 N z3 U j9 d9 k5;go_upto_region 20 with fail
    obtain⟨w8,i2⟩:=exq (w7.setCell ⟨X,4,none⟩ (I O (q-m)));rw[i2]at c6 g3|-;clear i2 u E C D y f4;obtain⟨z0,z1,N,z3,U⟩:=A5 g3;go_wp2_with fail
    go_at_fn gt
    refine(HS.trades x.price c6.m.mk_ ⟨b2.2.2.1.1,b2.2.2.1.2⟩ m8).mono ?_;rintro e w9 ⟨rfl,G3,h5,h9⟩;have m4:=Q0 (c6.turn h5 h9);clear h5 h9 z0 z1 N z3 U c6 g3 i1;go_wp2_with fail
    go_roundg (n- (k+1))
    case measure=>omega
    exact⟨k+1,q-m,tr s x.price,G3,E9 M1 x m,E9 M2 x m,some ⟨gg,0,none⟩,cap,F++ [⟨x.id,oi,x.price,m⟩],R++ZF x m,by omega,rfl,by go_num,by simp,Q0 ⟨m4.out,HEq.out,l0.out,n3.out,by rw[Y9,YL];exact PM n0.out,by unfold G8;omega,by have h1:=HS.out.cnt_ s x.price;have h2:=m3.out;rw[Y9,YL];omega⟩⟩
 obtain rfl:k=n:=by omega
 have n2: ¬(k:Int)< (k:Int):=by omega
 have j:=HW.v.by_
 obtain⟨v0,v1,v2,v3,v4⟩:=Z6 j
 obtain⟨u,E,C,D,y⟩:=Z6 HW.v.bx
 dsimp only at u E C D y
 have f0:=J1 j 0
 have f1:=J1 j 1
 have f2:=J1 j 2
 have f3:=J1 j 3
 have f4:=J1 j 4
 obtain⟨a2,a1⟩:=VT j (I O oi) (I O 2) (I O ok) (I O op) (I O q)
 have a5:=Q0 a2
 have a3:=Q0 a1
 clear j a2 a1
 go_wp2_with fail
 go_region
 go_wp2_with fail
 have l7:l.drop k= []:=CG (by rw[HN.out];exact Q4 _)
 exact VW rfl (o:=⟨oi,2,ok,op,q⟩) Y rfl rfl rfl rfl (Z2 a5) (HW.done HS (by rw[l7,Kf,YP]) (a3.then_ (J3 (Q2 _ _))))
theorem Jd7 {L L1 L2} (h:E5 L L1 L2): ∀o∈L,-1000000000<=o.qty/\o.qty<=1000000000:=fun o i=>by have:=(h.ok o i).1.2.2.2;omega
theorem Qk8 {L L1 L2} (h:E5 L L1 L2) sd: ∀o∈C4 sd L,-1000000000<=o.price/\o.price<=1000000000:=fun o i=>by
 have:=(h.ok o (P3.1 i).1).1.2.2.1
 omega
