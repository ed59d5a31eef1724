/- Parts. -/
import Derived.Test.YtnlngicnfegjgaaGreatDoorZq30
set_option linter.unusedVariables false
set_option maxRecDepth 100000
set_option maxHeartbeats 8000000
open Go.Proofs.Tryz
open Go.Value renaming int→I,pointer→IP
open Go.IntKind renaming i64→O
namespace Go.Proofs.YtnlngicnfegjgaaGreatDoor
open Go.RowKit
theorem Qk6 {σ K al tr cnt ga gt fa ca ct b o0}
  (hs:YA K al tr cnt ga gt fa ca ct 106 (IP (some ⟨b,o0,none⟩)) (I O 0))
  (k6: ∀ {s:σ} {L1 L2 F w},K s L1 L2 F w-> ∀sd,Z4 sd->Calls prog 33 #[IP (some ⟨b,o0,none⟩),I O sd] w fun e w'=>Below w.heap.size w w'/\ ∃A c,e= .returned (.slice A (X6 sd L1 L2).length c)/\J2 w' A (X6 sd L1 L2).length c 29 5 (Q9 X9 (X6 sd L1 L2))/\ ∀g,Q7 A=some g->w.heap.size<=g)
  w s0 G L1 L2 (h:K s0 L1 L2 G w) (h0:cnt s0=0) oi ok op oq (hf:R9 ⟨oi,1,ok,op,oq⟩):
  Calls prog 60 #[IP (some ⟨b,o0,none⟩),X5 ⟨oi,1,ok,op,oq⟩,.func (.func ga) fa ca,.func (.func gt) #[] ct] w fun e w'=>ND K w w' G 1 L1 L2 (V7 al tr (X6 2 L1 L2) ⟨oi,1,ok,op,oq⟩ s0) e:=by
 have HS:=Q0 hs
 have m8:=hs.ega
 have m6:=hs.egt
 have g6:=hs.lt h
 have j2:=hs.ok h
 obtain⟨l,hl⟩:=exq (X6 2 L1 L2)
 rw[hl]
 have k7: ∀x∈l,JJ x:=fun x hx=>by
  rw[<-hl]at hx;refine j2.ok x ?_;unfold X6 at hx
  split at hx
  ·exact S9 _ hx
  exact QB _ hx
 have k9:l.length<=100:=by
  have h1:=j2.cnt;rw[Y9]at h1;rw[<-hl];unfold X6
  split<;>omega
 obtain⟨n,hn⟩:=exq l.length
 rw[hn]at k9
 have k8:Below w.heap.size w (w.alloc (.cells (J8 ⟨oi,1,ok,op,oq⟩) 29)):=(Q2 _ w).alloc (Q4 _) _
 have g8:Below w.heap.size w ((w.alloc (.cells (J8 ⟨oi,1,ok,op,oq⟩) 29)).alloc (.cells (J8 Y3) 29)):=k8.alloc (by simp) _
 have hX:=G7 (J9 w 29 (J8 ⟨oi,1,ok,op,oq⟩)) (.cells (J8 Y3) 29)
 have i:Q1 ((w.alloc (.cells (J8 ⟨oi,1,ok,op,oq⟩) 29)).alloc (.cells (J8 Y3) 29)) (w.heap.size+1) 29 (J8 Y3):=by
  have:=J9 (w.alloc (.cells (J8 ⟨oi,1,ok,op,oq⟩) 29)) 29 (J8 Y3);rw[PL]at this;exact this
 obtain⟨w2,e1⟩:=exq ((w.alloc (.cells (J8 ⟨oi,1,ok,op,oq⟩) 29)).alloc (.cells (J8 Y3) 29))
 rw[e1]at g8 hX i
 have j8:=hs.keep h (U1 g8 (fun _=>False)) (fun _ _=>id)
 have j3:=k6 j8 2 Y5
 rw[hl,hn]at j3
 have HC:=Q0 j3
 have HX:=Q0 hX
 have HY:=Q0 i
 have h3:=Q0 g8
 have h4:=Q0 g6
 have k2:=Q0 j8
 have l6:=Q0 k7
 have HN:=Q0 hn
 have HL:=Q0 hl
 have m4:=hX.lt
 have l2:=i.lt
 have m5:G8 oq:=hf.2.2.2.2
 obtain⟨D,E,C,u,y⟩:=Z6 hX
 dsimp only at D E C u y
 clear hs h k6 j2 k7 k8 g8 hX i j8 j3 hn g6 hf
 unfold J8 Y3 at e1
 dsimp only at e1
 show Calls prog 60 #[IP (some ⟨b,o0,none⟩),.agg #[I O oi,I O 1,I O ok,I O op,I O oq],.func (.func ga) fa ca,.func (.func gt) #[] ct] w _
 go_enter func60,ntmps60
 go_upto_region 2 with fail
 try rw[e1]
 clear e1
 go_wp2_with fail
 refine HC.out.mono ?_
 rintro e w3 ⟨g3,AL,cl,rfl,k1,h5⟩
 have l8:w.heap.size<=w2.heap.size:=h3.out.size
 have i2:=Q0 (show YG K al tr cnt w w3 s0 s0 G G L1 L2 L1 L2 l oi 1 ok op oq oq w.heap.size (w.heap.size+1) AL n cl none 0 [] [] 0 from
  ⟨⟨⟨HS.out.keep k2.out (U1 g3 (fun _=>False)) (fun _ _=>id),C1 (h3.out.trans (g3.mono h3.out.size)),JX _ _ _ _,fun g hg=>by simp[Q7]at hg⟩,
   J4 HX.out g3,J4 HY.out g3,fun e=>YK _ (h4.out _ e),fun e=>by have:=h4.out _ e;omega,by simp[Q7],by simp[Q7],by omega,k1,fun g hg=>⟨fun e=>by have:=h4.out _ e;have:=h5 g hg;omega,by simp[Q7],by have:=h5 g hg;omega,by have:=h5 g hg;omega⟩,Q4 _,by omega⟩,by rw[FW];rfl,rfl,by rw[FW,VZ];exact HL.out,V5 _,m5,by rw[h0];exact V5 _⟩)
 clear g3 k1 h5 D E C u y HX HY HC k2 h4
 obtain⟨X,eX⟩:=exq w.heap.size
 obtain⟨Y,eY⟩:=exq (w.heap.size+1)
 rw[eY,eX]at i2|-
 have m7:=Q0 eX
 clear eX eY m4 l2 h3 l8
 go_wp2_with fail
 go_loopg [11,23] n (fun gg m0 l7 wr=> ∃(k:Nat) (q:Int) (s:σ) (G':Nat->Prop) (M1 M2:List Q8) (A:Option Addr) (c:Nat) (F:List B5) (R:List Q8),k<=n/\gg=n-k/\l7=I O k/\m0= .slice A F.length c/\Hid (YG K al tr cnt w wr s0 s G G' L1 L2 M1 M2 l oi 1 ok op oq q X Y AL n cl A c F R k))
 case atStart=>exact⟨0,oq,s0,G,L1,L2,none,0,[],[],V5 _,rfl,rfl,rfl,i2⟩
 obtain⟨k,q,s,G',M1,M2,A,c,F,R,hk,rfl,rfl,rfl,HW⟩:=hrel
 clear i2
 by_cases g6:k<n
 ·have i4:k<l.length:=by rw[HN.out];exact g6
  obtain⟨gl,l0⟩:=QC HW.out.v.lr (by omega);subst l0;obtain⟨y0,y1,y2,y3,y4⟩:=BZ HW.out.v.lr i4;have h8:=UC i4;have j6:=l6.out l[k] (Y1 i4);obtain⟨x,hx⟩:=exq (l[k]);rw[hx]at y0 y1 y2 y3 y4 h8 j6;have b1:=Q0 h8;have a3:=Q0 j6;have m3:(k:Int)< (n:Int):=by omega
  have d4:(0:Int)<=(k:Int):=by omega
  clear h8 j6 hx;go_upto_region 6 with fail
  obtain⟨wa,k4⟩:=exq (wr.alloc (.cells #[I O x.id,I O x.side,I O x.kind,I O x.price,I O x.qty] 29));obtain⟨Z,eZ⟩:=exq wr.heap.size;have hZ:=J9 wr 29 (J8 x);unfold J8 at hZ;have g9:=HW.out.below HS.out ((Q2 wr.heap.size wr).alloc (Q4 _) (.cells #[I O x.id,I O x.side,I O x.kind,I O x.price,I O x.qty] 29));have j1: ¬G' wr.heap.size:=fun e=>YK _ (HS.out.lt HW.out.v.m.mk_ _ e)
  have j5:Q7 A≠some wr.heap.size:=fun e=>YK _ (HW.out.v.m.row.lt e)
  have i3:wr.heap.size≠X:=fun e=>by have:=J5 HW.out.v.bx;omega
  rw[k4]at hZ g9|-;rw[eZ]at hZ j1 j5 i3|-;have k0:=Q0 j5;have k5:=Q0 i3;clear j5 i3;obtain⟨D,E,C,u,y⟩:=Z6 g9.v.bx;obtain⟨U,J,N,z3,z4⟩:=A5 hZ;dsimp only at D E C u y;have j:=Q0 g9;have HZ:=Q0 hZ;have k3:=Q0 j1;clear g9 hZ j1 HW k4 eZ y0 y1 y2 y3 y4
  by_cases c0:q<1
  ·have d0:decide (q<=0)=true:=Z5 (by omega)
   have a4:=Q0 c0;clear c0;have i:=j.out.v.by_;obtain⟨v0,v1,v2,v3,v4⟩:=Z6 i;have f0:=J1 i 0;have f1:=J1 i 1;have f2:=J1 i 2;have f3:=J1 i 3;have f4:=J1 i 4;obtain⟨a1,a2⟩:=VT i (I O oi) (I O 1) (I O ok) (I O op) (I O q);have a8:=Q0 a1;have a7:=Q0 a2;clear i a1 a2;go_wp2_with fail
   go_region
   go_wp2_with fail
   exact VW rfl (o:=⟨oi,1,ok,op,q⟩) Y rfl rfl rfl rfl (Z2 a8.out) (j.out.done HS.out (by rw[b1.out];exact Xu a4.out) (a7.out.then_ (J3 (Q2 _ _))))
  have d0:decide (q<=0)=false:=Z1 (by omega);have a4:Hid (1<=q):=Q0 (by omega);clear c0
  by_cases c1:x.kind=2
  ·have d1:=Z0 c1
   have c5:=Q0 c1;clear c1;go_wp2_with fail
   go_roundg (n- (k+1))
   case measure=>omega
   exact⟨k+1,q,s,G',M1,M2,A,c,F,R++ [x],by omega,rfl,by go_num,rfl,Q0 (j.out.pass b1.out (by have:=a4.out;omega) c5.out)⟩
  have d1:=X3 c1;have c5:=Q0 c1;clear c1;have g7:ok≠2->op<x.price->W2 ⟨oi,1,ok,op,q⟩ x=true:=fun c2 c3=>by unfold W2;dsimp only;rw[X3 c2];simp;exact c3
  have h6:ok≠2-> ¬(op<x.price)->W2 ⟨oi,1,ok,op,q⟩ x=false:=fun c2 c3=>by unfold W2;dsimp only;rw[X3 c2];simp;omega
  have g5:ok=2->W2 ⟨oi,1,ok,op,q⟩ x=false:=fun c2=>by unfold W2;dsimp only;rw[Z0 c2];rfl
  by_cases c2:ok=2
  ·have d2:=JW c2
   have c9:=Q0 (g5 c2);clear c2 g7 h6 g5;go_wp2_with fail
   go_at_fn ga
   refine(HS.out.allows x.price j.out.v.m.mk_ ⟨a3.out.2.2.1.1,a3.out.2.2.1.2⟩).mono ?_;rintro e wb ⟨rfl,c8⟩;have c6:=j.out.below HS.out c8;have b9:=J4 HZ.out c8;obtain⟨ab,b2⟩:=exq (al s x.price);rw[b2];have e8:=Q0 b2;have j:=Q0 c6;have HZ:=Q0 b9;obtain⟨D,E,C,u,y⟩:=Z6 c6.v.bx;obtain⟨U,J,N,z3,z4⟩:=A5 b9;dsimp only at D E C u y;clear c6 b9 c8 b2
   cases ab with
   |false=>
    have i:=j.out.v.by_;obtain⟨v0,v1,v2,v3,v4⟩:=Z6 i;have f0:=J1 i 0;have f1:=J1 i 1;have f2:=J1 i 2;have f3:=J1 i 3;have f4:=J1 i 4;obtain⟨a1,a2⟩:=VT i (I O oi) (I O 1) (I O ok) (I O op) (I O q);have a8:=Q0 a1;have a7:=Q0 a2;clear i a1 a2;go_wp2_with fail
    go_region
    go_wp2_with fail
    exact VW rfl (o:=⟨oi,1,ok,op,q⟩) Y rfl rfl rfl rfl (Z2 a8.out) (j.out.done HS.out (by rw[b1.out];exact RB (by have:=a4.out;show¬q<1;omega) c5.out c9.out e8.out) (a7.out.then_ (J3 (Q2 _ _))))
   |true=>
    clear D E C u y U J N z3 z4;obtain⟨m,hm⟩:=exq (min q x.qty);have l1:=a4.out;have l9:=a3.out.2.2.2;have i7:=j.out.qb;unfold G8 at i7;have h7:1<=m:=by omega
    have j7:m<=x.qty:=by omega
    have l5:m<=q:=by omega
    have HM:=Q0 hm;clear hm;go_upto_region 13 with fail
    obtain⟨D,E,C,u,y⟩:=Z6 j.out.v.bx;obtain⟨U,J,N,z3,z4⟩:=A5 HZ.out;dsimp only at D E C u y
    go_cut [15] (fun i6 wx=>i6=I O m/\wx=wb)
    case first=>
     go_wp2_with fail
     all_goals go_meet
     all_goals refine⟨?_,rfl⟩
     all_goals rw[<-HM.out]
     all_goals congr 1
     all_goals omega
    obtain⟨rfl,rfl⟩:=hcut;have l4:F.length<=100000000:=by have:=j.out.fl;omega
    have j9:Hid (cnt s<=F.length):=Q0 j.out.cn;have j0:Hid (cnt s<=1000):=Q0 (by have:=j.out.fl;have:=j.out.cn;omega);obtain⟨i0,g4,e5,e9,e4⟩:=N0 LN;have a0:=j;have e2:=HZ;have f5:=Q0 (YM (show wc.ownsRow 0 89 4 (.slice A F.length c) F.length (Q9 D8 F)from a0.out.v.m.row) (.cells #[I O oi,I O x.id,I O x.price,I O m] 89));go_upto_region 17 with(at_builtin;refine ZL _ rfl _ _ 42 rfl 0 89 i0 _ 4 32 MR g4 e5 e9 e4 rfl (by omega) (.slice A F.length c) F.length _ rfl f5.out ⟨wc.heap.size,0,none⟩ 1 1 [I O oi,I O x.id,I O x.price,I O m] rfl rfl (JB (cs:= #[I O oi,I O x.id,I O x.price,I O m]) (t:=89) (fr:=(0,0)) (S5 wc _)) (by simp[Value.oneCell']) (by omega) (by unfold maxLen;omega) (by omega) (by simp) (wc.heap.size+1) (by simp) ?_;intro gg cap w6 f7 e7 b8 i8)
    have a9:=GJ e7;rw[A7]at a9 b8;have a5:=a0.out.v.fill HS.out (f:=⟨oi,x.id,x.price,m⟩) a9 f7 (b8.imp id (fun e=>by omega));have d9:=X0 e2.out a9 k0.out;obtain⟨f9,g2,e6⟩:=RH (n:=m) (HS.out.ok a5.m.mk_) Y4 (a0.out.oth.trans (by rw[b1.out]));have d5:=HS.out.cut x m a5.m.mk_ f9 h7 j7;have g0:=Q0 d5;have d7:=Q0 a5;have b5:=Q0 d9;have i5:=Q0 (g2.trans a0.out.own);have h9:=Q0 e6;have HEq:=Q0 (show V7 al tr l ⟨oi,1,ok,op,oq⟩ s0=QF.join (F++ [⟨oi,x.id,x.price,m⟩]) (R++ZF x m) (V7 al tr (l.drop (k+1)) ⟨oi,1,ok,op,q-m⟩ (tr s x.price))from a0.out.eq.trans (by rw[b1.out];exact RU (by have:=a4.out;show¬q<1;omega) c5.out c9.out e8.out HM.out));have j4:=Q0 a0.out.fl;clear D E C u y U J N z3 z4 a9 f7 e7 b8 i8 a5 d9 f9 g2 e6 d5 f5 g4 e5 e9 e4 a0 e2 j HZ;obtain⟨U,J,N,z3,z4⟩:=A5 b5.out;go_wp2_with fail
    refine g0.out.mono ?_;rintro e w7 ⟨rfl,G2,d4,c7⟩;have b0:=d7.out.turn d4 c7;have d8:=X0 b5.out c7.1 (fun e=>k3.out e);have f8:=b0.lots HS.out (q':=q-m);have f6:=X0 d8 (V2 w7 ⟨X,4,none⟩ (I O (q-m))) k5.out;have i1:RowKit.wrap64 (q-m)=q-m:=by unfold RowKit.wrap64;omega
    have f4:=J1 b0.bx 4;obtain⟨D,E,C,u,y⟩:=Z6 b0.bx;dsimp only at D E C u y;have a6:=Q0 f8;have c4:=Q0 f6;clear b0 d8 f8 f6 d4 c7 U J N z3 z4 d7 b5 g0;go_upto_region 19 with fail
    obtain⟨w8,g1⟩:=exq (w7.setCell ⟨X,4,none⟩ (I O (q-m)));rw[g1]at a6 c4|-;clear g1 D E C u y f4;obtain⟨U,J,N,z3,z4⟩:=A5 c4.out;go_wp2_with fail
    go_at_fn gt
    refine(HS.out.trades x.price a6.out.m.mk_ ⟨a3.out.2.2.1.1,a3.out.2.2.1.2⟩ j0.out).mono ?_;rintro e w9 ⟨rfl,G3,d6,e3⟩;have i9:=Q0 (a6.out.turn d6 e3);clear d6 e3 U J N z3 z4 a6 c4 i1;go_wp2_with fail
    go_roundg (n- (k+1))
    case measure=>omega
    exact⟨k+1,q-m,tr s x.price,G3,E9 M1 x m,E9 M2 x m,some ⟨gg,0,none⟩,cap,F++ [⟨oi,x.id,x.price,m⟩],R++ZF x m,by omega,rfl,by go_num,by simp,Q0 ⟨i9.out,HEq.out,i5.out,h9.out,by rw[Y9,YL];exact PM j4.out,by unfold G8;omega,by have h1:=HS.out.cnt_ s x.price;have h2:=j9.out;rw[Y9,YL];omega⟩⟩
  have d2:=JF c2
  by_cases c3:op<x.price
  ·have d3:=Z5 c3
   have c9:=Q0 (g7 c2 c3);clear c2 c3 g7 h6 g5;have i:=j.out.v.by_;obtain⟨v0,v1,v2,v3,v4⟩:=Z6 i;have f0:=J1 i 0;have f1:=J1 i 1;have f2:=J1 i 2;have f3:=J1 i 3;have f4:=J1 i 4;obtain⟨a1,a2⟩:=VT i (I O oi) (I O 1) (I O ok) (I O op) (I O q);have a8:=Q0 a1;have a7:=Q0 a2;clear i a1 a2;go_wp2_with fail
   go_region
   go_wp2_with fail
   exact VW rfl (o:=⟨oi,1,ok,op,q⟩) Y rfl rfl rfl rfl (Z2 a8.out) (j.out.done HS.out (by rw[b1.out];exact Jw (by have:=a4.out;show¬q<1;omega) c5.out c9.out) (a7.out.then_ (J3 (Q2 _ _))))
  have d3:=Z1 c3;have c9:=Q0 (h6 c2 c3);clear c2 c3 g7 h6 g5;go_wp2_with fail
  go_at_fn ga
  refine(HS.out.allows x.price j.out.v.m.mk_ ⟨a3.out.2.2.1.1,a3.out.2.2.1.2⟩).mono ?_;rintro e wb ⟨rfl,c8⟩;have c6:=j.out.below HS.out c8;have b9:=J4 HZ.out c8;obtain⟨ab,b2⟩:=exq (al s x.price);rw[b2];have e8:=Q0 b2;have j:=Q0 c6;have HZ:=Q0 b9;obtain⟨D,E,C,u,y⟩:=Z6 c6.v.bx;obtain⟨U,J,N,z3,z4⟩:=A5 b9;dsimp only at D E C u y;clear c6 b9 c8 b2
  cases ab with
  |false=>
   have i:=j.out.v.by_;obtain⟨v0,v1,v2,v3,v4⟩:=Z6 i;have f0:=J1 i 0;have f1:=J1 i 1;have f2:=J1 i 2;have f3:=J1 i 3;have f4:=J1 i 4;obtain⟨a1,a2⟩:=VT i (I O oi) (I O 1) (I O ok) (I O op) (I O q);have a8:=Q0 a1;have a7:=Q0 a2;clear i a1 a2;go_wp2_with fail
   go_region
   go_wp2_with fail
   exact VW rfl (o:=⟨oi,1,ok,op,q⟩) Y rfl rfl rfl rfl (Z2 a8.out) (j.out.done HS.out (by rw[b1.out];exact RB (by have:=a4.out;show¬q<1;omega) c5.out c9.out e8.out) (a7.out.then_ (J3 (Q2 _ _))))
  |true=>
   clear D E C u y U J N z3 z4;obtain⟨m,hm⟩:=exq (min q x.qty);have l1:=a4.out;have l9:=a3.out.2.2.2;have i7:=j.out.qb;unfold G8 at i7;have h7:1<=m:=by omega
   have j7:m<=x.qty:=by omega
   have l5:m<=q:=by omega
   have HM:=Q0 hm;clear hm;go_upto_region 13 with fail
   obtain⟨D,E,C,u,y⟩:=Z6 j.out.v.bx;obtain⟨U,J,N,z3,z4⟩:=A5 HZ.out;dsimp only at D E C u y
   go_cut [15] (fun i6 wx=>i6=I O m/\wx=wb)
   case first=>
    go_wp2_with fail
    all_goals go_meet
    all_goals refine⟨?_,rfl⟩
    all_goals rw[<-HM.out]
    all_goals congr 1
    all_goals omega
   obtain⟨rfl,rfl⟩:=hcut;have l4:F.length<=100000000:=by have:=j.out.fl;omega
   have j9:Hid (cnt s<=F.length):=Q0 j.out.cn;have j0:Hid (cnt s<=1000):=Q0 (by have:=j.out.fl;have:=j.out.cn;omega);obtain⟨i0,g4,e5,e9,e4⟩:=N0 LN;have a0:=j;have e2:=HZ;have f5:=Q0 (YM (show wc.ownsRow 0 89 4 (.slice A F.length c) F.length (Q9 D8 F)from a0.out.v.m.row) (.cells #[I O oi,I O x.id,I O x.price,I O m] 89));go_upto_region 17 with(at_builtin;refine ZL _ rfl _ _ 42 rfl 0 89 i0 _ 4 32 MR g4 e5 e9 e4 rfl (by omega) (.slice A F.length c) F.length _ rfl f5.out ⟨wc.heap.size,0,none⟩ 1 1 [I O oi,I O x.id,I O x.price,I O m] rfl rfl (JB (cs:= #[I O oi,I O x.id,I O x.price,I O m]) (t:=89) (fr:=(0,0)) (S5 wc _)) (by simp[Value.oneCell']) (by omega) (by unfold maxLen;omega) (by omega) (by simp) (wc.heap.size+1) (by simp) ?_;intro gg cap w6 f7 e7 b8 i8)
   have a9:=GJ e7;rw[A7]at a9 b8;have a5:=a0.out.v.fill HS.out (f:=⟨oi,x.id,x.price,m⟩) a9 f7 (b8.imp id (fun e=>by omega));have d9:=X0 e2.out a9 k0.out;obtain⟨f9,g2,e6⟩:=RH (n:=m) (HS.out.ok a5.m.mk_) Y4 (a0.out.oth.trans (by rw[b1.out]));have d5:=HS.out.cut x m a5.m.mk_ f9 h7 j7;have g0:=Q0 d5;have d7:=Q0 a5;have b5:=Q0 d9;have i5:=Q0 (g2.trans a0.out.own);have h9:=Q0 e6;have HEq:=Q0 (show V7 al tr l ⟨oi,1,ok,op,oq⟩ s0=QF.join (F++ [⟨oi,x.id,x.price,m⟩]) (R++ZF x m) (V7 al tr (l.drop (k+1)) ⟨oi,1,ok,op,q-m⟩ (tr s x.price))from a0.out.eq.trans (by rw[b1.out];exact RU (by have:=a4.out;show¬q<1;omega) c5.out c9.out e8.out HM.out));have j4:=Q0 a0.out.fl;clear D E C u y U J N z3 z4 a9 f7 e7 b8 i8 a5 d9 f9 g2 e6 d5 f5 g4 e5 e9 e4 a0 e2 j HZ;obtain⟨U,J,N,z3,z4⟩:=A5 b5.out;go_wp2_with fail
   refine g0.out.mono ?_;rintro e w7 ⟨rfl,G2,d4,c7⟩;have b0:=d7.out.turn d4 c7;have d8:=X0 b5.out c7.1 (fun e=>k3.out e);have f8:=b0.lots HS.out (q':=q-m);have f6:=X0 d8 (V2 w7 ⟨X,4,none⟩ (I O (q-m))) k5.out;have i1:RowKit.wrap64 (q-m)=q-m:=by unfold RowKit.wrap64;omega
   have f4:=J1 b0.bx 4;obtain⟨D,E,C,u,y⟩:=Z6 b0.bx;dsimp only at D E C u y;have a6:=Q0 f8;have c4:=Q0 f6;clear b0 d8 f8 f6 d4 c7 U J N z3 z4 d7 b5 g0;go_upto_region 19 with fail
   obtain⟨w8,g1⟩:=exq (w7.setCell ⟨X,4,none⟩ (I O (q-m)));rw[g1]at a6 c4|-;clear g1 D E C u y f4;obtain⟨U,J,N,z3,z4⟩:=A5 c4.out;go_wp2_with fail
   go_at_fn gt
   refine(HS.out.trades x.price a6.out.m.mk_ ⟨a3.out.2.2.1.1,a3.out.2.2.1.2⟩ j0.out).mono ?_;rintro e w9 ⟨rfl,G3,d6,e3⟩;have i9:=Q0 (a6.out.turn d6 e3);clear d6 e3 U J N z3 z4 a6 c4 i1;go_wp2_with fail
   go_roundg (n- (k+1))
   case measure=>omega
   exact⟨k+1,q-m,tr s x.price,G3,E9 M1 x m,E9 M2 x m,some ⟨gg,0,none⟩,cap,F++ [⟨oi,x.id,x.price,m⟩],R++ZF x m,by omega,rfl,by go_num,by simp,Q0 ⟨i9.out,HEq.out,i5.out,h9.out,by rw[Y9,YL];exact PM j4.out,by unfold G8;omega,by have h1:=HS.out.cnt_ s x.price;have h2:=j9.out;rw[Y9,YL];omega⟩⟩
 obtain rfl:k=n:=by omega
 have m3: ¬(k:Int)< (k:Int):=by omega
 have i:=HW.out.v.by_
 obtain⟨v0,v1,v2,v3,v4⟩:=Z6 i
 obtain⟨D,E,C,u,y⟩:=Z6 HW.out.v.bx
 dsimp only at D E C u y
 have f0:=J1 i 0
 have f1:=J1 i 1
 have f2:=J1 i 2
 have f3:=J1 i 3
 have f4:=J1 i 4
 obtain⟨a1,a2⟩:=VT i (I O oi) (I O 1) (I O ok) (I O op) (I O q)
 have a8:=Q0 a1
 have a7:=Q0 a2
 clear i a1 a2
 go_wp2_with fail
 go_region
 go_wp2_with fail
 have l3:l.drop k= []:=CG (by rw[HN.out];exact Q4 _)
 exact VW rfl (o:=⟨oi,1,ok,op,q⟩) Y rfl rfl rfl rfl (Z2 a8.out) (HW.out.done HS.out (by rw[l3,Kf,YP]) (a7.out.then_ (J3 (Q2 _ _))))
theorem Qk7 {σ K al tr cnt ga gt fa ca ct b o0}
  (hs:YA K al tr cnt ga gt fa ca ct 106 (IP (some ⟨b,o0,none⟩)) (I O 0))
  (k2: ∀ {s:σ} {L1 L2 F w},K s L1 L2 F w-> ∀sd,Z4 sd->Calls prog 33 #[IP (some ⟨b,o0,none⟩),I O sd] w fun e w'=>Below w.heap.size w w'/\ ∃A c,e= .returned (.slice A (X6 sd L1 L2).length c)/\J2 w' A (X6 sd L1 L2).length c 29 5 (Q9 X9 (X6 sd L1 L2))/\ ∀g,Q7 A=some g->w.heap.size<=g)
  w s0 G L1 L2 (h:K s0 L1 L2 G w) (h0:cnt s0=0) oi ok op oq (hf:R9 ⟨oi,2,ok,op,oq⟩):
  Calls prog 60 #[IP (some ⟨b,o0,none⟩),X5 ⟨oi,2,ok,op,oq⟩,.func (.func ga) fa ca,.func (.func gt) #[] ct] w fun e w'=>ND K w w' G 2 L1 L2 (V7 al tr (X6 1 L1 L2) ⟨oi,2,ok,op,oq⟩ s0) e:=by
 have HS:=Q0 hs
 have m7:=hs.ega
 have m6:=hs.egt
 have h6:=hs.lt h
 have i5:=hs.ok h
 obtain⟨l,hl⟩:=exq (X6 1 L1 L2)
 rw[hl]
 have k3: ∀x∈l,JJ x:=fun x hx=>by
  rw[<-hl]at hx;refine i5.ok x ?_;unfold X6 at hx
  split at hx
  ·exact S9 _ hx
  exact QB _ hx
 have l3:l.length<=100:=by
  have h1:=i5.cnt;rw[Y9]at h1;rw[<-hl];unfold X6
  split<;>omega
 obtain⟨n,hn⟩:=exq l.length
 rw[hn]at l3
 have k8:Below w.heap.size w (w.alloc (.cells (J8 ⟨oi,2,ok,op,oq⟩) 29)):=(Q2 _ w).alloc (Q4 _) _
 have g8:Below w.heap.size w ((w.alloc (.cells (J8 ⟨oi,2,ok,op,oq⟩) 29)).alloc (.cells (J8 Y3) 29)):=k8.alloc (by simp) _
 have hX:=G7 (J9 w 29 (J8 ⟨oi,2,ok,op,oq⟩)) (.cells (J8 Y3) 29)
 have i:Q1 ((w.alloc (.cells (J8 ⟨oi,2,ok,op,oq⟩) 29)).alloc (.cells (J8 Y3) 29)) (w.heap.size+1) 29 (J8 Y3):=by
  have:=J9 (w.alloc (.cells (J8 ⟨oi,2,ok,op,oq⟩) 29)) 29 (J8 Y3);rw[PL]at this;exact this
 obtain⟨w2,e9⟩:=exq ((w.alloc (.cells (J8 ⟨oi,2,ok,op,oq⟩) 29)).alloc (.cells (J8 Y3) 29))
 rw[e9]at g8 hX i
 have i4:=hs.keep h (U1 g8 (fun _=>False)) (fun _ _=>id)
 have j7:=k2 i4 1 Y4
 rw[hl,hn]at j7
 have HC:=Q0 j7
 have HX:=Q0 hX
 have HY:=Q0 i
 have h3:=Q0 g8
 have g6:=Q0 h6
 have k1:=Q0 i4
 have m0:=Q0 k3
 have HN:=Q0 hn
 have HL:=Q0 hl
 have l6:=hX.lt
 have m5:=i.lt
 have l8:G8 oq:=hf.2.2.2.2
 obtain⟨C,y,u,E,D⟩:=Z6 hX
 dsimp only at C y u E D
 clear hs h k2 i5 k3 k8 g8 hX i i4 j7 hn h6 hf
 unfold J8 Y3 at e9
 dsimp only at e9
 show Calls prog 60 #[IP (some ⟨b,o0,none⟩),.agg #[I O oi,I O 2,I O ok,I O op,I O oq],.func (.func ga) fa ca,.func (.func gt) #[] ct] w _
 go_enter func60,ntmps60
 go_upto_region 2 with fail
 try rw[e9]
 clear e9
 go_wp2_with fail
 refine HC.out.mono ?_
 rintro e w3 ⟨e3,AL,cl,rfl,k7,g9⟩
 have l4:w.heap.size<=w2.heap.size:=h3.out.size
 have j0:=Q0 (show YG K al tr cnt w w3 s0 s0 G G L1 L2 L1 L2 l oi 2 ok op oq oq w.heap.size (w.heap.size+1) AL n cl none 0 [] [] 0 from
  ⟨⟨⟨HS.out.keep k1.out (U1 e3 (fun _=>False)) (fun _ _=>id),C1 (h3.out.trans (e3.mono h3.out.size)),JX _ _ _ _,fun g hg=>by simp[Q7]at hg⟩,
   J4 HX.out e3,J4 HY.out e3,fun e=>YK _ (g6.out _ e),fun e=>by have:=g6.out _ e;omega,by simp[Q7],by simp[Q7],by omega,k7,fun g hg=>⟨fun e=>by have:=g6.out _ e;have:=g9 g hg;omega,by simp[Q7],by have:=g9 g hg;omega,by have:=g9 g hg;omega⟩,Q4 _,by omega⟩,by rw[FW];rfl,rfl,by rw[FW,VZ];exact HL.out,V5 _,l8,by rw[h0];exact V5 _⟩)
 clear e3 k7 g9 C y u E D HX HY HC k1 g6
 obtain⟨X,eX⟩:=exq w.heap.size
 obtain⟨Y,eY⟩:=exq (w.heap.size+1)
 rw[eY,eX]at j0|-
 have m8:=Q0 eX
 clear eX eY l6 m5 h3 l4
 go_wp2_with fail
 go_loopg [11,23] n (fun gg l5 l0 wr=> ∃(k:Nat) (q:Int) (s:σ) (G':Nat->Prop) (M1 M2:List Q8) (A:Option Addr) (c:Nat) (F:List B5) (R:List Q8),k<=n/\gg=n-k/\l0=I O k/\l5= .slice A F.length c/\Hid (YG K al tr cnt w wr s0 s G G' L1 L2 M1 M2 l oi 2 ok op oq q X Y AL n cl A c F R k))
 case atStart=>exact⟨0,oq,s0,G,L1,L2,none,0,[],[],V5 _,rfl,rfl,rfl,j0⟩
 obtain⟨k,q,s,G',M1,M2,A,c,F,R,hk,rfl,rfl,rfl,HW⟩:=hrel
 clear j0
 by_cases h6:k<n
 ·have i7:k<l.length:=by rw[HN.out];exact h6
  obtain⟨gl,l9⟩:=QC HW.out.v.lr (by omega);subst l9;obtain⟨y0,y1,y2,y3,y4⟩:=BZ HW.out.v.lr i7;have j5:=UC i7;have j4:=m0.out l[k] (Y1 i7);obtain⟨x,hx⟩:=exq (l[k]);rw[hx]at y0 y1 y2 y3 y4 j5 j4;have b1:=Q0 j5;have a3:=Q0 j4;have l1:(k:Int)< (n:Int):=by omega
  have d4:(0:Int)<=(k:Int):=by omega
  clear j5 j4 hx;go_upto_region 6 with fail
  obtain⟨wa,k0⟩:=exq (wr.alloc (.cells #[I O x.id,I O x.side,I O x.kind,I O x.price,I O x.qty] 29));obtain⟨Z,eZ⟩:=exq wr.heap.size;have hZ:=J9 wr 29 (J8 x);unfold J8 at hZ;have g7:=HW.out.below HS.out ((Q2 wr.heap.size wr).alloc (Q4 _) (.cells #[I O x.id,I O x.side,I O x.kind,I O x.price,I O x.qty] 29));have h7: ¬G' wr.heap.size:=fun e=>YK _ (HS.out.lt HW.out.v.m.mk_ _ e)
  have h9:Q7 A≠some wr.heap.size:=fun e=>YK _ (HW.out.v.m.row.lt e)
  have i8:wr.heap.size≠X:=fun e=>by have:=J5 HW.out.v.bx;omega
  rw[k0]at hZ g7|-;rw[eZ]at hZ h7 h9 i8|-;have k6:=Q0 h9;have k4:=Q0 i8;clear h9 i8;obtain⟨C,y,u,E,D⟩:=Z6 g7.v.bx;obtain⟨U,z1,N,J,z4⟩:=A5 hZ;dsimp only at C y u E D;have j:=Q0 g7;have HZ:=Q0 hZ;have k5:=Q0 h7;clear g7 hZ h7 HW k0 eZ y0 y1 y2 y3 y4
  by_cases c0:q<1
  ·have d0:decide (q<=0)=true:=Z5 (by omega)
   have a4:=Q0 c0;clear c0;have i:=j.out.v.by_;obtain⟨v0,v1,v2,v3,v4⟩:=Z6 i;have f0:=J1 i 0;have f1:=J1 i 1;have f2:=J1 i 2;have f3:=J1 i 3;have f4:=J1 i 4;obtain⟨a1,a2⟩:=VT i (I O oi) (I O 2) (I O ok) (I O op) (I O q);have a9:=Q0 a1;have a5:=Q0 a2;clear i a1 a2;go_wp2_with fail
   go_region
   go_wp2_with fail
   exact VW rfl (o:=⟨oi,2,ok,op,q⟩) Y rfl rfl rfl rfl (Z2 a9.out) (j.out.done HS.out (by rw[b1.out];exact Xu a4.out) (a5.out.then_ (J3 (Q2 _ _))))
  have d0:decide (q<=0)=false:=Z1 (by omega);have a4:Hid (1<=q):=Q0 (by omega);clear c0
  by_cases c1:x.kind=2
  ·have d1:=Z0 c1
   have b8:=Q0 c1;clear c1;go_wp2_with fail
   go_roundg (n- (k+1))
   case measure=>omega
   exact⟨k+1,q,s,G',M1,M2,A,c,F,R++ [x],by omega,rfl,by go_num,rfl,Q0 (j.out.pass b1.out (by have:=a4.out;omega) b8.out)⟩
  have d1:=X3 c1;have b8:=Q0 c1;clear c1;have h4:ok≠2->x.price<op->W2 ⟨oi,2,ok,op,q⟩ x=true:=fun c2 c3=>by unfold W2;dsimp only;rw[X3 c2];simp;exact c3
  have h5:ok≠2-> ¬(x.price<op)->W2 ⟨oi,2,ok,op,q⟩ x=false:=fun c2 c3=>by unfold W2;dsimp only;rw[X3 c2];simp;omega
  have g5:ok=2->W2 ⟨oi,2,ok,op,q⟩ x=false:=fun c2=>by unfold W2;dsimp only;rw[Z0 c2];rfl
  by_cases c2:ok=2
  ·have d2:=JW c2
   have b9:=Q0 (g5 c2);clear c2 h4 h5 g5;go_wp2_with fail
   go_at_fn ga
   refine(HS.out.allows x.price j.out.v.m.mk_ ⟨a3.out.2.2.1.1,a3.out.2.2.1.2⟩).mono ?_;rintro e wb ⟨rfl,c5⟩;have c9:=j.out.below HS.out c5;have c6:=J4 HZ.out c5;obtain⟨ab,b2⟩:=exq (al s x.price);rw[b2];have g0:=Q0 b2;have j:=Q0 c9;have HZ:=Q0 c6;obtain⟨C,y,u,E,D⟩:=Z6 c9.v.bx;obtain⟨U,z1,N,J,z4⟩:=A5 c6;dsimp only at C y u E D;clear c9 c6 c5 b2
   cases ab with
   |false=>
    have i:=j.out.v.by_;obtain⟨v0,v1,v2,v3,v4⟩:=Z6 i;have f0:=J1 i 0;have f1:=J1 i 1;have f2:=J1 i 2;have f3:=J1 i 3;have f4:=J1 i 4;obtain⟨a1,a2⟩:=VT i (I O oi) (I O 2) (I O ok) (I O op) (I O q);have a9:=Q0 a1;have a5:=Q0 a2;clear i a1 a2;go_wp2_with fail
    go_region
    go_wp2_with fail
    exact VW rfl (o:=⟨oi,2,ok,op,q⟩) Y rfl rfl rfl rfl (Z2 a9.out) (j.out.done HS.out (by rw[b1.out];exact RB (by have:=a4.out;show¬q<1;omega) b8.out b9.out g0.out) (a5.out.then_ (J3 (Q2 _ _))))
   |true=>
    clear C y u E D U z1 N J z4;obtain⟨m,hm⟩:=exq (min q x.qty);have k9:=a4.out;have l7:=a3.out.2.2.2;have j3:=j.out.qb;unfold G8 at j3;have i2:1<=m:=by omega
    have j9:m<=x.qty:=by omega
    have m3:m<=q:=by omega
    have HM:=Q0 hm;clear hm;go_upto_region 13 with fail
    obtain⟨C,y,u,E,D⟩:=Z6 j.out.v.bx;obtain⟨U,z1,N,J,z4⟩:=A5 HZ.out;dsimp only at C y u E D
    go_cut [15] (fun i6 wx=>i6=I O m/\wx=wb)
    case first=>
     go_wp2_with fail
     all_goals go_meet
     all_goals refine⟨?_,rfl⟩
     all_goals rw[<-HM.out]
     all_goals congr 1
     all_goals omega
    obtain⟨rfl,rfl⟩:=hcut;have l2:F.length<=100000000:=by have:=j.out.fl;omega
    have j6:Hid (cnt s<=F.length):=Q0 j.out.cn;have h8:Hid (cnt s<=1000):=Q0 (by have:=j.out.fl;have:=j.out.cn;omega);obtain⟨i0,d5,e4,g3,g1⟩:=N0 LN;have a0:=j;have e5:=HZ;have f8:=Q0 (YM (show wc.ownsRow 0 89 4 (.slice A F.length c) F.length (Q9 D8 F)from a0.out.v.m.row) (.cells #[I O x.id,I O oi,I O x.price,I O m] 89));go_upto_region 17 with(at_builtin;refine ZL _ rfl _ _ 42 rfl 0 89 i0 _ 4 32 MR d5 e4 g3 g1 rfl (by omega) (.slice A F.length c) F.length _ rfl f8.out ⟨wc.heap.size,0,none⟩ 1 1 [I O x.id,I O oi,I O x.price,I O m] rfl rfl (JB (cs:= #[I O x.id,I O oi,I O x.price,I O m]) (t:=89) (fr:=(0,0)) (S5 wc _)) (by simp[Value.oneCell']) (by omega) (by unfold maxLen;omega) (by omega) (by simp) (wc.heap.size+1) (by simp) ?_;intro gg cap w6 e7 e6 b5 j1)
    have a8:=GJ e6;rw[A7]at a8 b5;have b0:=a0.out.v.fill HS.out (f:=⟨x.id,oi,x.price,m⟩) a8 e7 (b5.imp id (fun e=>by omega));have f9:=X0 e5.out a8 k6.out;obtain⟨f5,e8,g4⟩:=RH (n:=m) (HS.out.ok b0.m.mk_) Y5 (a0.out.oth.trans (by rw[b1.out]));have d7:=HS.out.cut x m b0.m.mk_ f5 i2 j9;have d6:=Q0 d7;have e2:=Q0 b0;have c7:=Q0 f9;have i9:=Q0 (e8.trans a0.out.own);have j8:=Q0 g4;have HEq:=Q0 (show V7 al tr l ⟨oi,2,ok,op,oq⟩ s0=QF.join (F++ [⟨x.id,oi,x.price,m⟩]) (R++ZF x m) (V7 al tr (l.drop (k+1)) ⟨oi,2,ok,op,q-m⟩ (tr s x.price))from a0.out.eq.trans (by rw[b1.out];exact RU (by have:=a4.out;show¬q<1;omega) b8.out b9.out g0.out HM.out));have j2:=Q0 a0.out.fl;clear C y u E D U z1 N J z4 a8 e7 e6 b5 j1 b0 f9 f5 e8 g4 d7 f8 d5 e4 g3 g1 a0 e5 j HZ;obtain⟨U,z1,N,J,z4⟩:=A5 c7.out;go_wp2_with fail
    refine d6.out.mono ?_;rintro e w7 ⟨rfl,G2,d4,c8⟩;have a7:=e2.out.turn d4 c8;have d9:=X0 c7.out c8.1 (fun e=>k5.out e);have f6:=a7.lots HS.out (q':=q-m);have e1:=X0 d9 (V2 w7 ⟨X,4,none⟩ (I O (q-m))) k4.out;have i1:RowKit.wrap64 (q-m)=q-m:=by unfold RowKit.wrap64;omega
    have f4:=J1 a7.bx 4;obtain⟨C,y,u,E,D⟩:=Z6 a7.bx;dsimp only at C y u E D;have a6:=Q0 f6;have c4:=Q0 e1;clear a7 d9 f6 e1 d4 c8 U z1 N J z4 e2 c7 d6;go_upto_region 19 with fail
    obtain⟨w8,g2⟩:=exq (w7.setCell ⟨X,4,none⟩ (I O (q-m)));rw[g2]at a6 c4|-;clear g2 C y u E D f4;obtain⟨U,z1,N,J,z4⟩:=A5 c4.out;go_wp2_with fail
    go_at_fn gt
    refine(HS.out.trades x.price a6.out.m.mk_ ⟨a3.out.2.2.1.1,a3.out.2.2.1.2⟩ h8.out).mono ?_;rintro e w9 ⟨rfl,G3,d8,f7⟩;have i3:=Q0 (a6.out.turn d8 f7);clear d8 f7 U z1 N J z4 a6 c4 i1;go_wp2_with fail
    go_roundg (n- (k+1))
    case measure=>omega
    exact⟨k+1,q-m,tr s x.price,G3,E9 M1 x m,E9 M2 x m,some ⟨gg,0,none⟩,cap,F++ [⟨x.id,oi,x.price,m⟩],R++ZF x m,by omega,rfl,by go_num,by simp,Q0 ⟨i3.out,HEq.out,i9.out,j8.out,by rw[Y9,YL];exact PM j2.out,by unfold G8;omega,by have h1:=HS.out.cnt_ s x.price;have h2:=j6.out;rw[Y9,YL];omega⟩⟩
  have d2:=JF c2
  by_cases c3:x.price<op
  ·have d3:=Z5 c3
   have b9:=Q0 (h4 c2 c3);clear c2 c3 h4 h5 g5;have i:=j.out.v.by_;obtain⟨v0,v1,v2,v3,v4⟩:=Z6 i;have f0:=J1 i 0;have f1:=J1 i 1;have f2:=J1 i 2;have f3:=J1 i 3;have f4:=J1 i 4;obtain⟨a1,a2⟩:=VT i (I O oi) (I O 2) (I O ok) (I O op) (I O q);have a9:=Q0 a1;have a5:=Q0 a2;clear i a1 a2;go_wp2_with fail
   go_region
   go_wp2_with fail
   exact VW rfl (o:=⟨oi,2,ok,op,q⟩) Y rfl rfl rfl rfl (Z2 a9.out) (j.out.done HS.out (by rw[b1.out];exact Jw (by have:=a4.out;show¬q<1;omega) b8.out b9.out) (a5.out.then_ (J3 (Q2 _ _))))
  have d3:=Z1 c3;have b9:=Q0 (h5 c2 c3);clear c2 c3 h4 h5 g5;go_wp2_with fail
  go_at_fn ga
  refine(HS.out.allows x.price j.out.v.m.mk_ ⟨a3.out.2.2.1.1,a3.out.2.2.1.2⟩).mono ?_;rintro e wb ⟨rfl,c5⟩;have c9:=j.out.below HS.out c5;have c6:=J4 HZ.out c5;obtain⟨ab,b2⟩:=exq (al s x.price);rw[b2];have g0:=Q0 b2;have j:=Q0 c9;have HZ:=Q0 c6;obtain⟨C,y,u,E,D⟩:=Z6 c9.v.bx;obtain⟨U,z1,N,J,z4⟩:=A5 c6;dsimp only at C y u E D;clear c9 c6 c5 b2
  cases ab with
  |false=>
   have i:=j.out.v.by_;obtain⟨v0,v1,v2,v3,v4⟩:=Z6 i;have f0:=J1 i 0;have f1:=J1 i 1;have f2:=J1 i 2;have f3:=J1 i 3;have f4:=J1 i 4;obtain⟨a1,a2⟩:=VT i (I O oi) (I O 2) (I O ok) (I O op) (I O q);have a9:=Q0 a1;have a5:=Q0 a2;clear i a1 a2;go_wp2_with fail
   go_region
   go_wp2_with fail
   exact VW rfl (o:=⟨oi,2,ok,op,q⟩) Y rfl rfl rfl rfl (Z2 a9.out) (j.out.done HS.out (by rw[b1.out];exact RB (by have:=a4.out;show¬q<1;omega) b8.out b9.out g0.out) (a5.out.then_ (J3 (Q2 _ _))))
  |true=>
   clear C y u E D U z1 N J z4;obtain⟨m,hm⟩:=exq (min q x.qty);have k9:=a4.out;have l7:=a3.out.2.2.2;have j3:=j.out.qb;unfold G8 at j3;have i2:1<=m:=by omega
   have j9:m<=x.qty:=by omega
   have m3:m<=q:=by omega
   have HM:=Q0 hm;clear hm;go_upto_region 13 with fail
   obtain⟨C,y,u,E,D⟩:=Z6 j.out.v.bx;obtain⟨U,z1,N,J,z4⟩:=A5 HZ.out;dsimp only at C y u E D
   go_cut [15] (fun i6 wx=>i6=I O m/\wx=wb)
   case first=>
    go_wp2_with fail
    all_goals go_meet
    all_goals refine⟨?_,rfl⟩
    all_goals rw[<-HM.out]
    all_goals congr 1
    all_goals omega
   obtain⟨rfl,rfl⟩:=hcut;have l2:F.length<=100000000:=by have:=j.out.fl;omega
   have j6:Hid (cnt s<=F.length):=Q0 j.out.cn;have h8:Hid (cnt s<=1000):=Q0 (by have:=j.out.fl;have:=j.out.cn;omega);obtain⟨i0,d5,e4,g3,g1⟩:=N0 LN;have a0:=j;have e5:=HZ;have f8:=Q0 (YM (show wc.ownsRow 0 89 4 (.slice A F.length c) F.length (Q9 D8 F)from a0.out.v.m.row) (.cells #[I O x.id,I O oi,I O x.price,I O m] 89));go_upto_region 17 with(at_builtin;refine ZL _ rfl _ _ 42 rfl 0 89 i0 _ 4 32 MR d5 e4 g3 g1 rfl (by omega) (.slice A F.length c) F.length _ rfl f8.out ⟨wc.heap.size,0,none⟩ 1 1 [I O x.id,I O oi,I O x.price,I O m] rfl rfl (JB (cs:= #[I O x.id,I O oi,I O x.price,I O m]) (t:=89) (fr:=(0,0)) (S5 wc _)) (by simp[Value.oneCell']) (by omega) (by unfold maxLen;omega) (by omega) (by simp) (wc.heap.size+1) (by simp) ?_;intro gg cap w6 e7 e6 b5 j1)
   have a8:=GJ e6;rw[A7]at a8 b5;have b0:=a0.out.v.fill HS.out (f:=⟨x.id,oi,x.price,m⟩) a8 e7 (b5.imp id (fun e=>by omega));have f9:=X0 e5.out a8 k6.out;obtain⟨f5,e8,g4⟩:=RH (n:=m) (HS.out.ok b0.m.mk_) Y5 (a0.out.oth.trans (by rw[b1.out]));have d7:=HS.out.cut x m b0.m.mk_ f5 i2 j9;have d6:=Q0 d7;have e2:=Q0 b0;have c7:=Q0 f9;have i9:=Q0 (e8.trans a0.out.own);have j8:=Q0 g4;have HEq:=Q0 (show V7 al tr l ⟨oi,2,ok,op,oq⟩ s0=QF.join (F++ [⟨x.id,oi,x.price,m⟩]) (R++ZF x m) (V7 al tr (l.drop (k+1)) ⟨oi,2,ok,op,q-m⟩ (tr s x.price))from a0.out.eq.trans (by rw[b1.out];exact RU (by have:=a4.out;show¬q<1;omega) b8.out b9.out g0.out HM.out));have j2:=Q0 a0.out.fl;clear C y u E D U z1 N J z4 a8 e7 e6 b5 j1 b0 f9 f5 e8 g4 d7 f8 d5 e4 g3 g1 a0 e5 j HZ;obtain⟨U,z1,N,J,z4⟩:=A5 c7.out;go_wp2_with fail
   refine d6.out.mono ?_;rintro e w7 ⟨rfl,G2,d4,c8⟩;have a7:=e2.out.turn d4 c8;have d9:=X0 c7.out c8.1 (fun e=>k5.out e);have f6:=a7.lots HS.out (q':=q-m);have e1:=X0 d9 (V2 w7 ⟨X,4,none⟩ (I O (q-m))) k4.out;have i1:RowKit.wrap64 (q-m)=q-m:=by unfold RowKit.wrap64;omega
   have f4:=J1 a7.bx 4;obtain⟨C,y,u,E,D⟩:=Z6 a7.bx;dsimp only at C y u E D;have a6:=Q0 f6;have c4:=Q0 e1;clear a7 d9 f6 e1 d4 c8 U z1 N J z4 e2 c7 d6;go_upto_region 19 with fail
   obtain⟨w8,g2⟩:=exq (w7.setCell ⟨X,4,none⟩ (I O (q-m)));rw[g2]at a6 c4|-;clear g2 C y u E D f4;obtain⟨U,z1,N,J,z4⟩:=A5 c4.out;go_wp2_with fail
   go_at_fn gt
   refine(HS.out.trades x.price a6.out.m.mk_ ⟨a3.out.2.2.1.1,a3.out.2.2.1.2⟩ h8.out).mono ?_;rintro e w9 ⟨rfl,G3,d8,f7⟩;have i3:=Q0 (a6.out.turn d8 f7);clear d8 f7 U z1 N J z4 a6 c4 i1;go_wp2_with fail
   go_roundg (n- (k+1))
   case measure=>omega
   exact⟨k+1,q-m,tr s x.price,G3,E9 M1 x m,E9 M2 x m,some ⟨gg,0,none⟩,cap,F++ [⟨x.id,oi,x.price,m⟩],R++ZF x m,by omega,rfl,by go_num,by simp,Q0 ⟨i3.out,HEq.out,i9.out,j8.out,by rw[Y9,YL];exact PM j2.out,by unfold G8;omega,by have h1:=HS.out.cnt_ s x.price;have h2:=j6.out;rw[Y9,YL];omega⟩⟩
 obtain rfl:k=n:=by omega
 have l1: ¬(k:Int)< (k:Int):=by omega
 have i:=HW.out.v.by_
 obtain⟨v0,v1,v2,v3,v4⟩:=Z6 i
 obtain⟨C,y,u,E,D⟩:=Z6 HW.out.v.bx
 dsimp only at C y u E D
 have f0:=J1 i 0
 have f1:=J1 i 1
 have f2:=J1 i 2
 have f3:=J1 i 3
 have f4:=J1 i 4
 obtain⟨a1,a2⟩:=VT i (I O oi) (I O 2) (I O ok) (I O op) (I O q)
 have a9:=Q0 a1
 have a5:=Q0 a2
 clear i a1 a2
 go_wp2_with fail
 go_region
 go_wp2_with fail
 have m4:l.drop k= []:=CG (by rw[HN.out];exact Q4 _)
 exact VW rfl (o:=⟨oi,2,ok,op,q⟩) Y rfl rfl rfl rfl (Z2 a9.out) (HW.out.done HS.out (by rw[m4,Kf,YP]) (a5.out.then_ (J3 (Q2 _ _))))
