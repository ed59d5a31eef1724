/- Parts. -/
import Derived.Test.YtnlngicnfegjgaaGreatDoorZq46
set_option linter.unusedVariables false
set_option maxRecDepth 100000
set_option maxHeartbeats 8000000
open Go.Proofs.Tryz
open Go.Value renaming int→I,pointer→IP
open Go.IntKind renaming i64→O
namespace Go.Proofs.YtnlngicnfegjgaaGreatDoor
open Go.RowKit
theorem WN n w (i:YB w):Calls prog 20 #[U0 n,I O n] w fun e w'=>e= .returned (.bool true)/\Below w.heap.size w w':=
 (Qz7 (U0 n) n (-1) n w i (Qk4 w n)).mono fun e w' ⟨h1,h2⟩=>⟨by rw[h1];simp,h2⟩
theorem Kk {w w' A c Fs} (h:J2 w A Fs.length c 89 4 (Q9 D8 Fs)) (i:Below w.heap.size w w'):V4 w' D8 4 A Fs.length Fs:=(VV Cn (by omega) h).below i (Q4 _)
theorem Sm A len cap ps st dy p tk mo A2 len2 o4 l w (h:T4 w A len cap ps) (o3:len<=9223372036854775807) (h2:V4 w Ao 6 A2 len2 l) (r0:len2<=9223372036854775807) (hf: ∀x∈l,R9 x.2) (hE:YB w):
  Calls prog 4 #[.agg #[.slice A len cap,I O st,I O dy,I O p,I O tk,I O mo],.slice A2 len2 o4] w fun e w'=>e= .returned (.bool true)/\Below w.heap.size w w':=by
 have p4:=Q0 h
 have m3:=Q0 h2
 have HF:=Q0 hf
 have HE:=Q0 hE
 have q4:=Q0 h2.1
 have g6:Below w.heap.size w (w.alloc (.cells #[.slice A len cap,I O st,I O dy,I O p,I O tk,I O mo] 36)):=(Q2 _ w).alloc (Q4 _) _
 have hX:=J9 w 36 #[.slice A len cap,I O st,I O dy,I O p,I O tk,I O mo]
 obtain⟨w1,d5⟩:=exq (w.alloc (.cells #[.slice A len cap,I O st,I O dy,I O p,I O tk,I O mo] 36))
 obtain⟨X,eX⟩:=exq w.heap.size
 rw[d5]at g6 hX
 rw[eX]at hX
 have l2:=Q0 hX
 have e8:=Q0 g6
 have j1:=Q0 (h.below g6 (Q4 _))
 obtain⟨x0,x1,x2,x3,x4,x5⟩:=JM hX
 clear h h2 hf hE hX g6
 by_cases r4:60<len
 ·have hz:(60:Int)< (len:Int):=by omega
  go_enter func4,ntmps4
  go_upto_region 1 with fail
  try rw[d5]
  try rw[eX]
  clear d5 eX;go_wp2;go_ret;exact⟨rfl,e8⟩
 by_cases r5:150<len2
 ·have hz: ¬(60:Int)< (len:Int):=by omega
  have l3:(150:Int)< (len2:Int):=by omega
  go_enter func4,ntmps4
  go_upto_region 1 with fail
  try rw[d5]
  try rw[eX]
  clear d5 eX;go_wp2;go_ret;exact⟨rfl,e8⟩
 have hz: ¬(60:Int)< (len:Int):=by omega
 have l3: ¬(150:Int)< (len2:Int):=by omega
 go_enter func4,ntmps4
 go_upto_region 1 with fail
 try rw[d5]
 try rw[eX]
 clear d5 eX
 go_wp2_with fail
 refine(Qx0 A len cap ps st dy p tk mo _ j1 o3).mono ?_
 rintro e w2 ⟨v,ee,n,pl,rfl,f8,m9,m8⟩
 have j7:=Q0 (e8.trans (f8.mono e8.size))
 have J:=Q0 (J4 l2 f8)
 have e1:=Q0 f8
 have f4:=Q0 m9
 have i5:=Q0 m8
 have i6:Hid (∀W,Below w2.heap.size w2 W->T4 W A len cap ps):=Q0 (fun W hW=>(j1.below f8 (Q4 _)).below hW (Q4 _))
 have e3:=Q0 (Q2 w2.heap.size w2)
 clear f8 m9 m8 x0 x1 x2 x3 x4 x5 hz l3
 go_upto_region 4 with fail
 go_cut [7,8] (fun s7 s8 wx=> ∃N g,s7=N/\s8= IP (some ⟨g,0,none⟩)/\Q1 wx g 60 #[I O n,I O pl]/\Below w2.heap.size w2 wx/\LK ps st dy p tk mo w2 wx N n)
 case first=>
  as_aux_lemma=>
   refine XF (fun t=> [].contains t) (fun W=>W.cell? ⟨X,0,none⟩=some (.slice A len cap)/\W.cell? ⟨X,1,none⟩=some (I O st)/\W.cell? ⟨X,2,none⟩=some (I O dy)/\W.cell? ⟨X,3,none⟩=some (I O p)/\W.cell? ⟨X,4,none⟩=some (I O tk)/\W.cell? ⟨X,5,none⟩=some (I O mo)) (by kernel_rfl) (JM (Z2 J)) (fun D=> ?_);refine tM 0 (IP (some ⟨X,0,none⟩)) ?_;refine tM 1 (.slice A len cap) ?_;refine tM 3 (IP (some ⟨X,1,none⟩)) ?_;refine tM 4 (I O st) ?_;refine tM 5 (IP (some ⟨X,2,none⟩)) ?_;refine tM 6 (I O dy) ?_;refine tM 7 (IP (some ⟨X,3,none⟩)) ?_;refine tM 8 (I O p) ?_;refine tM 9 (IP (some ⟨X,4,none⟩)) ?_;refine tM 10 (I O tk) ?_;refine tM 11 (IP (some ⟨X,5,none⟩)) ?_;refine tM 12 (I O mo) ?_;refine UK (i:=2) (j:=17) (by kernel_rfl) ?_ ?_
   ·skip
    refine L9 2 rfl (fun K1 a9=> ?_);go_simp
    go_at_call 17
    refine(Cx A len cap ps _ (i6 _ (J3 e3)) (by omega)).mono ?_;rintro v v1 ⟨u,T,tc,rfl,hT,d8⟩;have u:Below w2.heap.size w2 v1:=(J3 (Q2 _ _)).trans u;have d8: ∀g,Q7 T=some g->w2.heap.size<=g/\g<v1.heap.size:=d8;have y:Below w2.heap.size w2 v1:=e3.trans (u.mono e3.size);have HT:=Q0 hT;have b5:Hid (∀i,Q7 T=some i->w2.heap.size<=i/\i<v1.heap.size):=Q0 (fun i C=>by have h1:=d8 i C;have h2:=e3.size;omega);clear hT d8 u;have a8:=Q0 y;refine a9 _ _ (fun _=>JM (J4 J y)) ?_;have D:=JM (J4 J y);clear a9;refine UK (i:=13) (j:=17) (by kernel_rfl) ?_ ?_
    ·skip
     refine L9 13 rfl (fun K2 a3=> ?_);go_simp
     go_at_call 16
     refine(Uz T len tc ps st dy p tk mo _ HT (by omega) (fun i C=>(b5 i C).2) f4).mono ?_;rintro v v2 ⟨N,rfl,u,hr⟩;have y:Below w2.heap.size w2 v2:=a8.trans (u.mono a8.size);have HR:=Q0 hr;have e4:=Q0 u;have f0:=Q0 a8.size;clear hr u;have a6:=Q0 y;refine a3 _ _ (fun _=>JM (J4 J y)) ?_;have D:=JM (J4 J y);clear a3;refine tM 14 (.tuple #[N,.agg #[I O n,I O pl]]) ?_;refine tM 15 N ?_;refine tM 16 (.agg #[I O n,I O pl]) ?_;refine oM 17 fun K3 a4=> ?_
     go_simp;obtain⟨v3,eW⟩:=exq (v2.alloc (.cells #[I O 0,I O 0] 60));have u:Below v2.heap.size v2 v3:=by rw[<-eW];exact(Q2 _ _).alloc (Q4 _) _
     have hy:Q1 v3 v2.heap.size 60 #[I O 0,I O 0]:=by rw[<-eW];exact J9 _ _ _
     obtain⟨g,eg⟩:=exq v2.heap.size;rw[eg]at hy;rw[eW,eg];have y:Below w2.heap.size w2 v3:=a6.trans (u.mono a6.size);have HY:=Q0 hy;have HG:=Q0 (show w2.heap.size<=g/\g<v3.heap.size from⟨by have:=a6.size;omega,J5 hy⟩);have j9:=Q0 (YZ eg);have o1:=Q0 u;clear u hy eW eg;have c7:=Q0 y;refine a4 _ _ (fun _=>JM (J4 J y)) ?_;have D:=JM (J4 J y);clear a4;refine tM 18 N ?_;refine oM 19 fun K9 a5=> ?_
     refine(Q5 (by rfl)).mpr ?_;have hy:=HY.out;refine M9 60 _ _ rfl g #[I O n,I O pl] rfl rfl 60 #[I O 0,I O 0] hy (by show(prog.info? 60).map (·.size)=some 2;kernel_rfl) rfl (by simp[Value.oneCell']) ?_;have c8:=D6 _ _ _ #[I O n,I O pl] _ hy;have b0:=B7 v3 g #[I O n,I O pl];obtain⟨v9,e9⟩:=exq (v3.setRow g #[I O n,I O pl]);rw[e9]at c8 b0|-;clear e9;have b8:Below w2.heap.size w2 v9:=c7.trans (b0.below (fun i C=>C▸HG.1) c7.size);have e7:LK ps st dy p tk mo w2 v9 N n:=HR.new_ f0 (fun i C=>(b5 i C).1) o1 j9 b0;refine a5 _ _ (fun _=>JM (J4 J b8)) ?_;have D:=JM (J4 J b8);clear a5;simp only[Act.put];refine D5 (by kernel_rfl) ?_ _;go_wp2_with fail
     go_meet;exact⟨N,g,rfl,rfl,c8,b8,e7⟩
    skip
    refine L9 17 rfl (fun K2 a3=> ?_);go_simp;obtain⟨v2,eW⟩:=exq (v1.alloc (.cells #[I O 0,I O 0] 60));have u:Below v1.heap.size v1 v2:=by rw[<-eW];exact(Q2 _ _).alloc (Q4 _) _
    have hy:Q1 v2 v1.heap.size 60 #[I O 0,I O 0]:=by rw[<-eW];exact J9 _ _ _
    obtain⟨g,eg⟩:=exq v1.heap.size;rw[eg]at hy;rw[eW,eg];have y:Below w2.heap.size w2 v2:=a8.trans (u.mono a8.size);have HY:=Q0 hy;have HG:=Q0 (show w2.heap.size<=g/\g<v2.heap.size from⟨by have:=a8.size;omega,J5 hy⟩);have j9:=Q0 (YZ eg);have b5:Hid (∀i,Q7 T=some i->w2.heap.size<=i/\i<v2.heap.size/\i≠g):=Q0 (fun i C=>by have h1:=b5.out i C;have h2:=HG.2;omega);have HT:=Q0 (HT.below u (Q4 _));clear u hy eW eg;have a6:=Q0 y;refine a3 _ _ (fun _=>JM (J4 J y)) ?_;have D:=JM (J4 J y);clear a3;refine oM 13 fun K3 a4=> ?_
    go_simp
    go_at_call 16
    refine(Uz T len tc ps st dy p tk mo _ HT (by omega) (fun i C=>(b5 i C).2.1) f4).mono ?_;rintro v v3 ⟨N,rfl,u,hr⟩;have y:Below w2.heap.size w2 v3:=a6.trans (u.mono a6.size);have HR:=Q0 hr;have e4:=Q0 u;have f0:=Q0 a6.size;have hy:=J4 HY u;have i8:=Q0 HG.2;have HY:=Q0 hy;have HG:=Q0 (show w2.heap.size<=g/\g<v3.heap.size from⟨HG.1,J5 hy⟩);clear hr u;have c7:=Q0 y;refine a4 _ _ (fun _=>JM (J4 J y)) ?_;have D:=JM (J4 J y);clear a4;refine tM 14 (.tuple #[N,.agg #[I O n,I O pl]]) ?_;refine tM 15 N ?_;refine tM 16 (.agg #[I O n,I O pl]) ?_;refine tM 18 N ?_;refine oM 19 fun K9 a5=> ?_
    refine(Q5 (by rfl)).mpr ?_;have hy:=HY.out;refine M9 60 _ _ rfl g #[I O n,I O pl] rfl rfl 60 #[I O 0,I O 0] hy (by show(prog.info? 60).map (·.size)=some 2;kernel_rfl) rfl (by simp[Value.oneCell']) ?_;have c8:=D6 _ _ _ #[I O n,I O pl] _ hy;have b0:=B7 v3 g #[I O n,I O pl];obtain⟨v9,e9⟩:=exq (v3.setRow g #[I O n,I O pl]);rw[e9]at c8 b0|-;clear e9;have b8:Below w2.heap.size w2 v9:=c7.trans (b0.below (fun i C=>C▸HG.1) c7.size);have e7:LK ps st dy p tk mo w2 v9 N n:=HR.old f0 (fun i C=>⟨(b5 i C).1,(b5 i C).2.2⟩) i8 b0;refine a5 _ _ (fun _=>JM (J4 J b8)) ?_;have D:=JM (J4 J b8);clear a5;simp only[Act.put];refine D5 (by kernel_rfl) ?_ _;go_wp2_with fail
    go_meet;exact⟨N,g,rfl,rfl,c8,b8,e7⟩
   skip
   refine L9 17 rfl (fun K1 a9=> ?_);go_simp;obtain⟨v1,eW⟩:=exq ((w2.alloc (.cells #[I O 0,I O 0] 60)).drew);have u:Below w2.heap.size w2 v1:=by rw[<-eW];exact J3 ((Q2 _ _).alloc (Q4 _) _)
   have hy:Q1 v1 w2.heap.size 60 #[I O 0,I O 0]:=by rw[<-eW];exact Z2 (J9 _ _ _)
   obtain⟨g,eg⟩:=exq w2.heap.size;rw[eg]at hy;rw[eW,eg];have y:Below w2.heap.size w2 v1:=e3.trans (u.mono e3.size);have HY:=Q0 hy;have HG:=Q0 (show w2.heap.size<=g/\g<v1.heap.size from⟨by have:=e3.size;omega,J5 hy⟩);have j9:=Q0 (YZ eg);clear u hy eW eg;have a8:=Q0 y;refine a9 _ _ (fun _=>JM (J4 J y)) ?_;have D:=JM (J4 J y);clear a9;refine oM 2 fun K2 a3=> ?_
   go_simp
   go_at_call 17
   refine(Cx A len cap ps _ (i6 _ a8) (by omega)).mono ?_;rintro v v2 ⟨u,T,tc,rfl,hT,d8⟩;have y:Below w2.heap.size w2 v2:=a8.trans (u.mono a8.size);have HT:=Q0 hT;have b5:Hid (∀i,Q7 T=some i->w2.heap.size<=i/\i<v2.heap.size/\i≠g):=Q0 (fun i C=>by have h1:=d8 i C;have h2:=a8.size;have h3:=HG.2;omega);have hy:=J4 HY u;have HY:=Q0 hy;have HG:=Q0 (show w2.heap.size<=g/\g<v2.heap.size from⟨HG.1,J5 hy⟩);clear hT d8 u;have a6:=Q0 y;refine a3 _ _ (fun _=>JM (J4 J y)) ?_;have D:=JM (J4 J y);clear a3;refine oM 13 fun K3 a4=> ?_
   go_simp
   go_at_call 16
   refine(Uz T len tc ps st dy p tk mo _ HT (by omega) (fun i C=>(b5 i C).2.1) f4).mono ?_;rintro v v3 ⟨N,rfl,u,hr⟩;have y:Below w2.heap.size w2 v3:=a6.trans (u.mono a6.size);have HR:=Q0 hr;have e4:=Q0 u;have f0:=Q0 a6.size;have hy:=J4 HY u;have i8:=Q0 HG.2;have HY:=Q0 hy;have HG:=Q0 (show w2.heap.size<=g/\g<v3.heap.size from⟨HG.1,J5 hy⟩);clear hr u;have c7:=Q0 y;refine a4 _ _ (fun _=>JM (J4 J y)) ?_;have D:=JM (J4 J y);clear a4;refine tM 14 (.tuple #[N,.agg #[I O n,I O pl]]) ?_;refine tM 15 N ?_;refine tM 16 (.agg #[I O n,I O pl]) ?_;refine tM 18 N ?_;refine oM 19 fun K9 a5=> ?_
   refine(Q5 (by rfl)).mpr ?_;have hy:=HY.out;refine M9 60 _ _ rfl g #[I O n,I O pl] rfl rfl 60 #[I O 0,I O 0] hy (by show(prog.info? 60).map (·.size)=some 2;kernel_rfl) rfl (by simp[Value.oneCell']) ?_;have c8:=D6 _ _ _ #[I O n,I O pl] _ hy;have b0:=B7 v3 g #[I O n,I O pl];obtain⟨v9,e9⟩:=exq (v3.setRow g #[I O n,I O pl]);rw[e9]at c8 b0|-;clear e9;have b8:Below w2.heap.size w2 v9:=c7.trans (b0.below (fun i C=>C▸HG.1) c7.size);have e7:LK ps st dy p tk mo w2 v9 N n:=HR.old f0 (fun i C=>⟨(b5 i C).1,(b5 i C).2.2⟩) i8 b0;refine a5 _ _ (fun _=>JM (J4 J b8)) ?_;have D:=JM (J4 J b8);clear a5;simp only[Act.put];refine D5 (by kernel_rfl) ?_ _;go_wp2_with fail
   go_meet;exact⟨N,g,rfl,rfl,c8,b8,e7⟩
 obtain⟨N,g,rfl,rfl,hy,y,hr⟩:=hcut
 have HY:=Q0 hy
 have HB:=Q0 (j7.trans (y.mono j7.size))
 have l1:=Q0 (HE.below HB (Q4 _))
 have k5:=Q0 y
 have l6:=Q0 hr
 obtain⟨y0,y1⟩:wc.cell? ⟨g,0,none⟩=some (I O n)/\wc.cell? ⟨g,1,none⟩=some (I O pl):=⟨by rw[J0 hy];rfl,by rw[J0 hy];rfl⟩
 have l7:=e1.size
 have r8:=Q0 l7
 have o6:=Q0 j7.size
 clear hy y hr l7 J l2
 by_cases hn:n=0
 ·have d0:=JW hn
  subst hn;rcases l6.out with⟨a1,a2⟩|⟨a1,R,F',rfl,hR,k2⟩
  ·exact absurd rfl a1
  rcases i5.out with⟨b1,b2,b3⟩|⟨b1,b2,rfl,e,F,rfl,i3,hF⟩
  ·exact absurd rfl b1
  have n3:Hid (Re w wc e R 0):=Q0 ⟨F,F',CE ps st dy p tk mo,⟨i3.below k5,hR,HB,fun i C=>by have h1:=hF i C;have h2:=e8.size;omega,fun i C=>by have h1:=k2 i C;have h2:=o6.out;omega,fun i C p8=>by have h1:=i3.lt C;have h2:=k2 i p8;omega⟩,⟨Qv3 (by rw[<-b2];exact f4),by show(0:Int)<=0;omega,by show(0:Int)<=0;omega,by show(0:Nat)<=0;omega⟩⟩;clear a1 hR k2 b1 b2 i3 hF l6 i5;go_upto_region 9 with fail
  clear y0 y1 d0 i6 p4 j1 f4 k5 HY l1;go_wp2_with fail
  go_loopg [9] len2 (fun gg s9 wx=> ∃k,k<=len2/\gg=len2-k/\s9=I O k/\Re w wx e R k)
  case atStart=>exact⟨0,V5 _,rfl,rfl,n3⟩
  obtain⟨k,hk,rfl,rfl,hP⟩:=hrel;have HP:=Q0 hP;have e4:Hid (Below w.heap.size w wr):=Q0 (by obtain⟨_,_,_,h1,_⟩:=hP;exact h1.bel);clear hP n3 HB
  by_cases r2:k<len2
  ·have l9:k<l.length:=by have:=q4.out;omega
   obtain⟨gA,oA,hA⟩: ∃b k0,A2=some ⟨b,k0,none⟩:=by obtain⟨b,k0,h1,_⟩:=m3.2 (by omega);exact⟨b,k0,h1⟩
   subst hA;obtain⟨x0,x1,x2,x3,x4,x5⟩:=Jj7 (m3.below e4 (Q4 _)) l9;have q8:(k:Int)< (len2:Int):=by omega
   have r6:(0:Int)<=(k:Int):=by omega
   have h8:=Q0 (HF _ (Y1 l9));obtain⟨⟨q,o⟩,eo⟩: ∃o,l[k]=o:=⟨_,rfl⟩;rw[eo]at x0 x1 x2 x3 x4 x5 h8;clear eo;dsimp only at x0 x1 x2 x3 x4 x5;have g7:Hid (Rf w (wr.alloc (.cells (Qc (q,o)) 66)) e R wr.heap.size k (q,o)):=Q0 (by
    obtain⟨F,F',m,h1,h2⟩:=HP.out;exact⟨F,F',m,h1.boxed _,h2⟩)
   go_upto_block 2 with fail
   obtain⟨w3,i4⟩:=exq (wr.alloc (.cells (Qc (q,o)) 66));obtain⟨gx,i9⟩:=exq wr.heap.size;rw[i4,i9]at g7;have h9:=i4;unfold Qc at h9;dsimp only at h9;rw[h9,i9];clear i4 h9 i9 HP e4 x0 x1 x2 x3 x4 x5
   go_cut [83] (fun r3 wx=>Rf w wx e R gx (k+1) (q,o))
   case first=>
    obtain⟨F,F',m,hd,a0⟩:=g7.out;clear g7;have c5:=Q0 a0;have k9:=a0.in_ (by omega);have n2:=a0.next (by omega);have e6:=Q0 k9;have m5:=Q0 n2;have hT:=Q0 a0.1.tab;have k7:m.ids.length<=100000:=by have:=a0.2.2.2;omega
    have n5:m.pk.length<=100000:=by have:=a0.1.cnt;omega
    have q7:=Q0 k7;have g9:=Q0 n5;clear a0 k9 n2 k7 n5
    by_cases c0:q=0
    ·as_aux_lemma=>
      have d0:=Z0 c0;clear c0;obtain⟨y0,y1,y2,y3,y4,y5⟩:=RN hd.box;dsimp only at y0 y1 y2 y3 y4 y5;go_wp2_with fail
      refine(Qn3 hd.duo.ref e6 q7 o h8).mono ?_;rintro v w4 hq;obtain⟨A3,c3,Fs,rfl,f5,g4,g0,F3,Z⟩:=hd.fillsR hq;have d9:=Q0 f5;clear hq f5 y0 y1 y2 y3 y4 y5;obtain⟨y0,y1,y2,y3,y4,y5⟩:=RN Z.box;dsimp only at y0 y1 y2 y3 y4 y5;go_wp2_with fail
      refine(Qm9 Z.duo.eng e6 o h8).mono ?_;rintro v w5 hq;obtain⟨A4,c4,Fs',rfl,f2,f7,g1,F4,U⟩:=Z.fillsE hq g4 g0;have k3:Fs=Fs':=d9.trans f2.symm;subst k3;have g5:Fs.length<=1000000000:=by rw[d9.out];exact Qw9 c5.1 o
      have j3:XJ (N9 m o) (k+1):=c5.order h8 U.duo.eng.lists;obtain⟨E,f1⟩:=exq (QJ m o);rw[f1];clear f1 d9 f2 hq y0 y1 y2 y3 y4 y5;have j8:=Q0 (HE.below U.duo.bel (Q4 _));have f3: ∀W,Below w5.heap.size w5 W->V4 W D8 4 A4 Fs.length Fs:=fun W hW=>Kk f7 hW
      have f9: ∀W,Below w5.heap.size w5 W->V4 W D8 4 A3 Fs.length Fs:=fun W hW=>Kk g1 hW
      clear g4 f7 g1 g0;obtain⟨nf,g2⟩:=exq Fs.length;rw[g2]at f9 f3 g5|-;clear g2;go_wp2_with fail
      refine(WN E _ j8).mono ?_;rintro e9 w9 ⟨rfl,d6⟩;have e2:=U.below d6;go_wp2_with fail
      refine(Bz A4 A3 nf c4 c3 Fs _ (f3 _ d6) (f9 _ d6) g5).mono ?_;rintro p3 o7 ⟨rfl,k1⟩;have d7:=e2.below k1;go_wp2_with fail
      go_meet;exact⟨_,_,_,d7,j3⟩
    have d0:=X3 c0;clear c0
    by_cases c1:q=1
    ·as_aux_lemma=>
      have d1:=Z0 c1;clear c1;go_upto_region 20 with fail
      have i7:=hd.below (J3 (Q2 _ _));refine Be (fun W=>W.cell? ⟨gx,1,none⟩=some (I O o.id)) (by kernel_rfl) (RN i7.box).2.1 (fun D=> ?_);refine tH 0 (IP (some ⟨e,0,none⟩)) ?_;refine tH 1 (IP (some ⟨gx,1,none⟩)) ?_;refine tH 2 (IP (some ⟨gx,1,none⟩)) ?_;refine tH 3 (I O o.id) ?_;refine tH 5 (IP (some ⟨R,0,none⟩)) ?_;refine tH 6 (IP (some ⟨gx,1,none⟩)) ?_;refine tH 7 (IP (some ⟨gx,1,none⟩)) ?_;refine tH 8 (I O o.id) ?_;refine CC 4 (by kernel_rfl) rfl (fun K1 a9=> ?_);go_simp
      go_at_call 22
      refine(Qe5 i7.duo.eng g9 o.id).mono ?_;rintro v w4 ⟨rfl,ht⟩;obtain⟨F4,Z⟩:=i7.engTo ht;refine a9 _ _ (RN Z.box).2.1 (fun D=> ?_);clear a9 ht;refine CC 9 (by kernel_rfl) rfl (fun K2 a3=> ?_);go_simp
      go_at_call 23
      refine(Qe7 Z.duo.ref g9 o.id).mono ?_;rintro v w5 ⟨rfl,ht⟩;obtain⟨F5,U⟩:=Z.refTo ht;refine a3 _ _ (RN U.box).2.1 (fun D=> ?_);clear a3 ht;refine CC 10 (by kernel_rfl) rfl (fun K3 a4=> ?_);go_simp
      go_at_call 20
      refine(WN (UL m o.id) _ (HE.below U.duo.bel (Q4 _))).mono ?_;rintro v w6 ⟨rfl,c6⟩;have a7:=U.below c6;refine a4 _ _ (RN a7.box).2.1 (fun D=> ?_);clear a4;refine tH 11 (.bool false) ?_;refine wpAnyH_done (by kernel_rfl) ?_ _;go_wp2_with fail
      go_meet;exact⟨_,_,_,a7,c5.cancel o.id a7.duo.eng.lists⟩
    have d1:=X3 c1;clear c1
    by_cases c2:q=2
    ·as_aux_lemma=>
      have d2:=Z0 c2;clear c2;go_wp2_with fail
      refine(Qw5 hd.duo.ref hT e6 m5).mono ?_;rintro v w4 hq;obtain⟨A3,c3,Fs,rfl,f5,g4,g0,F3,Z⟩:=hd.fillsR hq;have d9:=Q0 f5;clear hq f5;go_wp2_with fail
      refine(Qv1 Z.duo.eng e6 m5).mono ?_;rintro v w5 hq;obtain⟨A4,c4,Fs',rfl,f2,f7,g1,F4,U⟩:=Z.fillsE hq g4 g0;have k3:Fs=Fs':=Ws d9 f2;subst k3;have g5:Fs.length<=1000000000:=Jf8 c5.1 d9;have j3:XJ (N5 m) (k+1):=c5.tick U.duo.eng.lists;obtain⟨E,f1⟩:=exq (DW m);rw[f1];clear f1 d9 f2 hq;have j8:=Q0 (HE.below U.duo.bel (Q4 _));have f3: ∀W,Below w5.heap.size w5 W->V4 W D8 4 A4 Fs.length Fs:=fun W hW=>Kk f7 hW
      have f9: ∀W,Below w5.heap.size w5 W->V4 W D8 4 A3 Fs.length Fs:=fun W hW=>Kk g1 hW
      clear g4 f7 g1 g0;obtain⟨nf,g2⟩:=exq Fs.length;rw[g2]at f9 f3 g5|-;clear g2;go_wp2_with fail
      refine(WN E _ j8).mono ?_;rintro e9 w9 ⟨rfl,d6⟩;have e2:=U.below d6;go_wp2_with fail
      refine(Bz A4 A3 nf c4 c3 Fs _ (f3 _ d6) (f9 _ d6) g5).mono ?_;rintro p3 o7 ⟨rfl,k1⟩;have d7:=e2.below k1;go_wp2_with fail
      go_meet;exact⟨_,_,_,d7,j3⟩
    have d2:=X3 c2;clear c2
    by_cases c3:q=3
    ·have d3:=Z0 c3
     clear c3;go_wp2_with fail
     refine(Qu2 hd.duo.eng).mono ?_;rintro v w4 ⟨rfl,ht⟩;obtain⟨F4,Z⟩:=hd.engTo ht;clear ht;go_wp2_with fail
     refine(Qw0 Z.duo.ref).mono ?_;rintro v w5 ⟨rfl,ht⟩;obtain⟨F5,U⟩:=Z.refTo ht;clear ht;go_wp2_with fail
     refine(WN (AU m) _ (HE.below U.duo.bel (Q4 _))).mono ?_;rintro v w6 ⟨rfl,c6⟩;have a7:=U.below c6;go_wp2_with fail
     go_meet;exact⟨_,_,_,a7,c5.halt⟩
    have d3:=X3 c3;clear c3
    by_cases c4:q=4
    ·have d4:=Z0 c4
     clear c4;go_wp2_with fail
     refine(Qv2 hd.duo.eng e6).mono ?_;rintro v w4 ⟨rfl,ht⟩;obtain⟨F4,Z⟩:=hd.engTo ht;clear ht;go_wp2_with fail
     refine(Qw2 Z.duo.ref hT e6).mono ?_;rintro v w5 ⟨rfl,ht⟩;obtain⟨F5,U⟩:=Z.refTo ht;clear ht;go_wp2_with fail
     refine(WN (EJ m) _ (HE.below U.duo.bel (Q4 _))).mono ?_;rintro v w6 ⟨rfl,c6⟩;have a7:=U.below c6;go_wp2_with fail
     go_meet;exact⟨_,_,_,a7,c5.open_ a7.duo.eng.lists⟩
    have d4:=X3 c4;clear c4;go_wp2_with fail
    go_meet;exact⟨_,_,_,hd,c5.up⟩
   as_aux_lemma=>
    obtain⟨F,F',m,k6,a0⟩:=hcut;have hd:=k6.duo;clear k6 g7;go_wp2_with fail
    refine(Qu1 hd.eng).mono ?_;rintro v w4 ⟨rfl,n1⟩;have Z:=hd.below n1;go_wp2_with fail
    refine(Hu Z.eng 1 Y4).mono ?_;rintro v w5 ⟨i1,AB,cB,rfl,h0,q3⟩;have U:=Z.below i1;go_wp2_with fail
    refine(Hu U.eng 2 Y5).mono ?_;rintro v w6 ⟨c6,AS,cS,rfl,n6,q2⟩;have a7:=U.below c6;have h0:=h0.below c6;obtain⟨Ap,pc,n4,k8⟩:=a7.ref.cmp;have b9:=Q0 k8;have q1:=Q0 n4;have q0:=Q0 h0;have n7:=Q0 n6;have c5:=Q0 a0;have g9:Hid (m.pk.length<=100000):=Q0 (by have:=a0.1.cnt;omega);have j4: ∀sd,(X6 sd m.L1 m.L2).length<=1000000:=fun sd=>by
     have h1:=a0.1.cnt;unfold X6
     split<;>omega
    have o5:Hid (m.pk.length<=1000000):=Q0 (by have:=a0.1.cnt;omega);have o8:=Q0 (j4 1);have p0:=Q0 (j4 2);obtain⟨⟨qa,qb,qc⟩,hq⟩: ∃x,NT m=x:=⟨_,rfl⟩;have p6: ∀W F,C3 W e F m->Calls prog 30 #[IP (some ⟨e,0,none⟩)] W fun v w'=>v= .returned (.agg #[I O qa,I O qb,I O qc])/\Below W.heap.size W w':=fun W F h=>by
     have h1:=Ql8 h a0.1.la;rw[hq]at h1;exact h1
    have n9: ∀W F,D7 W R F m->Calls prog 31 #[IP (some ⟨R,0,none⟩)] W fun v w'=>v= .returned (.agg #[I O qa,I O qb,I O qc])/\Below W.heap.size W w':=fun W F h=>by
     have h1:=Qn2 h a0.1.la;rw[hq]at h1;exact h1
    have r7:=Qx1 qa qb qc;clear hq j4 h0 n6 n4 k8 a0 q3 q2 n1 i1 c6;go_upto_region 36 with fail
    have k4:=a7.below (J3 (Q2 _ _));refine Be (fun W=>W.cell? ⟨R,10,none⟩=some (I O m.ph)/\W.cell? ⟨R,11,none⟩=some (I O m.now)/\W.cell? ⟨R,3,none⟩=some (I O m.an)/\W.cell? ⟨R,4,none⟩=some (I O m.la)/\W.cell? ⟨R,8,none⟩=some (.slice Ap m.pk.length pc)) (by kernel_rfl) (b9 _ (J3 (Q2 _ _))) (fun D=> ?_);have j6:=Q0 (J3 (Q2 w6.heap.size w6));refine tH 0 (.nilIface) ?_;refine tH 1 (.bool false) ?_;refine tH 2 (.bool false) ?_;refine tH 3 (.nilIface) ?_;refine tH 4 (.bool false) ?_;refine tH 5 (.bool false) ?_;refine tH 6 (.bool false) ?_;refine tH 7 (IP (some ⟨e,0,none⟩)) ?_;refine tH 9 (IP (some ⟨R,0,none⟩)) ?_;refine tH 10 (IP (some ⟨R,0,none⟩)) ?_;refine tH 11 (IP (some ⟨R,10,none⟩)) ?_;refine tH 12 (I O m.ph) ?_;refine CC 8 (by kernel_rfl) rfl (fun K1 a9=> ?_);go_simp
    go_at_call 9
    refine(Ql7 k4.eng).mono ?_;rintro v v1 ⟨rfl,u⟩;have j2:=k4.below u;have h4:Hid (Below w6.heap.size w6 v1):=Q0 (j6.trans (u.mono j6.size));clear u k4 j6;refine a9 _ _ (b9 _ h4) (fun D=> ?_);clear a9;refine tH 13 (.bool false) ?_;refine tH 14 (.bool false) ?_;refine tH 15 (.bool false) ?_;refine tH 16 (IP (some ⟨e,0,none⟩)) ?_;refine tH 18 (IP (some ⟨R,0,none⟩)) ?_;refine tH 19 (IP (some ⟨R,0,none⟩)) ?_;refine tH 20 (IP (some ⟨R,11,none⟩)) ?_;refine tH 21 (I O m.now) ?_;refine CC 17 (by kernel_rfl) rfl (fun K2 a3=> ?_);go_simp
    go_at_call 8
    refine(Je2 j2.eng).mono ?_;rintro v v2 ⟨rfl,u⟩;have e2:=j2.below u;have h6:Hid (Below w6.heap.size w6 v2):=Q0 (h4.trans (u.mono h4.size));clear u j2 h4;refine a3 _ _ (b9 _ h6) (fun D=> ?_);clear a3;refine tH 22 (.bool false) ?_;refine tH 23 (.bool false) ?_;refine tH 24 (.bool false) ?_;refine tH 25 (I O m.an) ?_;refine tH 26 (IP (some ⟨R,0,none⟩)) ?_;refine tH 27 (IP (some ⟨R,0,none⟩)) ?_;refine tH 28 (IP (some ⟨R,3,none⟩)) ?_;refine tH 29 (I O m.an) ?_;refine tH 30 (.bool false) ?_;refine tH 31 (.bool false) ?_;refine tH 32 (.bool false) ?_;refine tH 33 (I O m.la) ?_;refine tH 34 (IP (some ⟨R,0,none⟩)) ?_;refine tH 35 (IP (some ⟨R,0,none⟩)) ?_;refine tH 36 (IP (some ⟨R,4,none⟩)) ?_;refine tH 37 (I O m.la) ?_;refine tH 38 (.bool false) ?_;refine tH 39 (.bool false) ?_;refine tH 40 (.bool false) ?_;refine tH 41 (IP (some ⟨e,0,none⟩)) ?_;refine tH 43 (IP (some ⟨R,0,none⟩)) ?_;refine CC 42 (by kernel_rfl) rfl (fun K3 a4=> ?_);go_simp
    go_at_call 30
    refine(p6 _ _ e2.eng).mono ?_;rintro v v3 ⟨rfl,u⟩;have d7:=e2.below u;have h7:Hid (Below w6.heap.size w6 v3):=Q0 (h6.trans (u.mono h6.size));clear u e2 h6;refine a4 _ _ (b9 _ h7) (fun D=> ?_);clear a4;refine CC 44 (by kernel_rfl) rfl (fun K4 m7=> ?_);go_simp
    go_at_call 31
    refine(n9 _ _ d7.ref).mono ?_;rintro v v4 ⟨rfl,u⟩;have j5:=d7.below u;have g8:Hid (Below w6.heap.size w6 v4):=Q0 (h7.trans (u.mono h7.size));clear u d7 h7;refine m7 _ _ (b9 _ g8) (fun D=> ?_);clear m7;refine tH 45 (.bool false) ?_;refine tH 46 (.bool false) ?_;refine tH 47 (.bool false) ?_;refine tH 48 (IP (some ⟨e,0,none⟩)) ?_;refine tH 50 (IP (some ⟨R,0,none⟩)) ?_;refine tH 51 (IP (some ⟨R,0,none⟩)) ?_;refine tH 52 (IP (some ⟨R,8,none⟩)) ?_;refine tH 53 (.slice Ap m.pk.length pc) ?_;refine CC 49 (by kernel_rfl) rfl (fun K5 l4=> ?_);go_simp
    go_at_call 13
    refine(Qe0 j5.eng g9).mono ?_;rintro v v5 ⟨u,AP,cP,rfl,c9,-⟩;have m4:=j5.below u;have e1:Hid (Below w6.heap.size w6 v5):=Q0 (g8.trans (u.mono g8.size));have p1:=Q0 c9;clear c9;clear u j5 g8;refine l4 _ _ (b9 _ e1) (fun D=> ?_);clear l4;refine CC 54 (by kernel_rfl) rfl (fun K6 m0=> ?_);go_simp
    go_at_call 32
    refine(Va AP Ap m.pk.length cP pc m.pk _ (SK p1 (Q2 _ _)) (SK q1 e1) o5).mono ?_;rintro v v6 ⟨rfl,u⟩;have j0:=m4.below u;have i0:Hid (Below w6.heap.size w6 v6):=Q0 (e1.trans (u.mono e1.size));clear u m4 e1;refine m0 _ _ (b9 _ i0) (fun D=> ?_);clear m0;refine tH 55 (.bool false) ?_;refine tH 56 (.bool false) ?_;refine tH 57 (.bool false) ?_;refine tH 58 (.slice AB (X6 1 m.L1 m.L2).length cB) ?_;refine tH 59 (IP (some ⟨R,0,none⟩)) ?_;refine tH 60 (IP (some ⟨R,0,none⟩)) ?_;refine tH 61 (IP (some ⟨R,7,none⟩)) ?_;refine CC 62 (by kernel_rfl) rfl (fun K7 n0=> ?_);go_simp
    go_at_call 33
    refine(j0.ref.side 1 Y4).mono ?_;rintro v v7 ⟨u,q9,p7,rfl,c9⟩;have l5:=j0.below u;have g3:Hid (Below w6.heap.size w6 v7):=Q0 (i0.trans (u.mono i0.size));have n8:=Q0 c9;clear c9;clear u j0 i0;refine n0 _ _ (b9 _ g3) (fun D=> ?_);clear n0;refine CC 63 (by kernel_rfl) rfl (fun K8 l8=> ?_);go_simp
    go_at_call 32
    refine(Va AB q9 (X6 1 m.L1 m.L2).length cB p7 (X6 1 m.L1 m.L2) _ (SK q0 g3) (SK n8 (Q2 _ _)) o8).mono ?_;rintro v v8 ⟨rfl,u⟩;have i2:=l5.below u;have h5:Hid (Below w6.heap.size w6 v8):=Q0 (g3.trans (u.mono g3.size));clear u l5 g3;refine l8 _ _ (b9 _ h5) (fun D=> ?_);clear l8;refine tH 64 (.bool false) ?_;refine tH 65 (.bool false) ?_;refine tH 66 (.bool false) ?_;refine tH 67 (.slice AS (X6 2 m.L1 m.L2).length cS) ?_;refine tH 68 (IP (some ⟨R,0,none⟩)) ?_;refine tH 69 (IP (some ⟨R,0,none⟩)) ?_;refine tH 70 (IP (some ⟨R,7,none⟩)) ?_;refine CC 71 (by kernel_rfl) rfl (fun K9 a5=> ?_);go_simp
    go_at_call 33
    refine(i2.ref.side 2 Y5).mono ?_;rintro v v9 ⟨u,p5,o9,rfl,c9⟩;have l0:=i2.below u;have f6:Hid (Below w6.heap.size w6 v9):=Q0 (h5.trans (u.mono h5.size));have p2:=Q0 c9;clear c9;clear u i2 h5;refine a5 _ _ (b9 _ f6) (fun D=> ?_);clear a5;refine CC 72 (by kernel_rfl) rfl (fun r1 m6=> ?_);go_simp
    go_at_call 32
    refine(Va AS p5 (X6 2 m.L1 m.L2).length cS o9 (X6 2 m.L1 m.L2) _ (SK n7 f6) (SK p2 (Q2 _ _)) p0).mono ?_;rintro v o2 ⟨rfl,u⟩;have q5:=l0.below u;have p9:Hid (Below w6.heap.size w6 o2):=Q0 (f6.trans (u.mono f6.size));clear u l0 f6;refine m6 _ _ (b9 _ p9) (fun D=> ?_);clear m6;refine tH 73 (.bool false) ?_;refine tH 74 (.bool false) ?_;refine wpAnyH_done (by kernel_rfl) ?_ _;go_wp2_with fail
    go_roundg (len2- (k+1))
    case measure=>omega
    exact⟨k+1,by omega,rfl,by go_num,_,_,_,q5,c5⟩
  obtain rfl:k=len2:=by omega
  have q8: ¬(k:Int)< (k:Int):=by omega
  clear HP;go_wp2;go_ret;exact⟨rfl,e4⟩
 have d0:=JF hn
 rcases i5.out with⟨b1,rfl,b3⟩|⟨b1,b2⟩
 ·have q6:=Q0 (b3.below k5)
  clear b1 b3 hn;go_wp2_with fail
  refine(Ps _ n pl n pl _ l1 q6).mono ?_;rintro e5 w5 ⟨rfl,i1⟩;rw[show(n ==n &&pl ==pl)=true by simp];go_wp2_with fail
  go_ret;exact⟨rfl,HB.trans (i1.mono HB.size)⟩
 exact absurd b1 hn
def NP (rows:List (List Int)):List Zd:=rows.map fun r=>(r.getD 0 0,⟨r.getD 1 0,r.getD 2 0,r.getD 3 0,r.getD 4 0,r.getD 5 0⟩)
theorem Ts {w A len cap rows} (h:GH w 6 A len cap rows):V4 w Ao 6 A len (NP rows):=by
 obtain⟨h1,_,_,U,_,J⟩:=h
 refine⟨by simp[NP,h1],fun hl=> ?_⟩
 obtain⟨b,C,E,D,N⟩:=J hl
 refine⟨b,C,E,D,fun i hi j u v=> ?_⟩
 have Z:i<rows.length:=by simpa [NP]using hi
 have hr:=(U rows[i] (Y1 _)).1
 have e:(NP rows)[i]=(rows[i].getD 0 0,⟨rows[i].getD 1 0,rows[i].getD 2 0,rows[i].getD 3 0,rows[i].getD 4 0,rows[i].getD 5 0⟩):=by simp[NP]
 rw[e]at v
 have key: ∀j (y:j<rows[i].length),w.cell? ⟨b,C+i*6+j,none⟩=some (I O (rows[i].getD j 0)):=by
  intro j y;rw[N i Z j y];simp[List.getD_eq_getElem?_getD,y]
 match j,v with
 |0,v=>cases v;exact key 0 (by omega)
 |1,v=>cases v;exact key 1 (by omega)
 |2,v=>cases v;exact key 2 (by omega)
 |3,v=>cases v;exact key 3 (by omega)
 |4,v=>cases v;exact key 4 (by omega)
 |5,v=>cases v;exact key 5 (by omega)
theorem Qx2 {w A len cap rows} (h:GH w 6 A len cap rows): ∀x∈NP rows,R9 x.2:=by
 intro o y
 obtain⟨r,i,rfl⟩:=U4.1 y
 have D:=(h.2.2.2.1 r i).1
 have v:=(h.2.2.2.1 r i).2
 have key: ∀j,j<6->G8 (r.getD j 0):=by
  intro j C;have u:j<r.length:=by omega
  have:r.getD j 0=r[j]:=by simp[List.getD_eq_getElem?_getD,u]
  unfold G8;rw[this];exact v _ (Y1 _)
 exact⟨key 1 (by omega),key 2 (by omega),key 3 (by omega),key 4 (by omega),key 5 (by omega)⟩
theorem Sf {W A len cap rows st dy p tk mo A2 len2 cap2 rows2} (h:GH W 2 A len cap rows) (h2:GH W 6 A2 len2 cap2 rows2) (j:YB W):
  Calls prog 4 #[.agg #[.slice A len cap,I O st,I O dy,I O p,I O tk,I O mo],.slice A2 len2 cap2] W fun e w'=>e= .returned (.bool true)/\Below W.heap.size W w':=
 Sm A len cap (WS rows) st dy p tk mo A2 len2 cap2 (NP rows2) W (Td h) (by obtain⟨_,h1,i,_⟩:=h;unfold maxLen at i;omega) (Ts h2) (by obtain⟨_,h1,i,_⟩:=h2;unfold maxLen at i;omega) (Qx2 h2) j
