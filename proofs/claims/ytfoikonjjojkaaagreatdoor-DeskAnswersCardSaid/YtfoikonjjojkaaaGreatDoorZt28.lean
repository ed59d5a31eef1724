/- Parts. -/
import Derived.Test.YtfoikonjjojkaaaGreatDoorZt27
import Derived.Test.YtfoikonjjojkaaaGreatDoorZt24
set_option linter.unusedVariables false
set_option maxRecDepth 100000
set_option maxHeartbeats 8000000
open Go.Proofs.Tryz
open Go.Value renaming int→I,pointer→IP
open Go.IntKind renaming i64→O
namespace Go.Proofs.YtfoikonjjojkaaaGreatDoor
open Go.RowKit
def ZZ(w w':World)(R:Nat)(F:Nat->Prop)(P:List C6->Prop)(m:Z6)(E:Int)(ev:Ending):Prop:=
 ∃A c Fs,ev=.returned (.tuple #[.slice A (List.length Fs) c,I O E])/\P Fs/\X8 w' A Fs.length c 127 4 (X7 QT Fs)/\(∀g,X5 A=some g->w.heap.size<=g)/\∃F',N4 w' R F' m/\U2 w w' F F'/\∀g,X5 A=some g->¬F' g
theorem ZZ.none_{w w' R F P m E}(h:F3 w w' R F m)(j:P []):ZZ w w' R F P m E (.returned (.tuple #[.slice none 0 0,I O E])):=by obtain⟨F',h1,h2⟩:=h;exact⟨none,0,[],rfl,j,QY _ _ _ _,fun g i=>by simp[X5]at i,F',h1,h2,fun g i=>by simp[X5]at i⟩
abbrev CU:=@ZZ.none_
theorem AJ.told{w w' R F P m A n c}(h:AJ w w' R F P m (.returned (.slice A n c)))E:ZZ w w' R F P m E (.returned (.tuple #[.slice A n c,I O E])):=by
 obtain⟨A',c',Fs,h1,h2,i,j,u⟩:=h
 cases h1;exact⟨A,c,Fs,rfl,h2,i,j,u⟩
theorem AJ.step{w w1 w2 R F P m m2 ev}(h:AJ w w1 R F P m ev)(k:∀i,N4 w1 R i m->F3 w1 w2 R i m2):AJ w w2 R F P m2 ev:=by
 obtain⟨A,c,Fs,h1,h2,y,J,i,N,Z,C⟩:=h;obtain⟨E,h8,j⟩:=k i N;refine⟨A,c,Fs,h1,h2,y.keeps j.1 C,J,E,h8,Z.trans j,fun g D hF=>?_⟩;obtain u|u:=j.2 g hF
 ·exact C g D u
 have:=y.lt D;omega
theorem AJ.as{w w' R F P P' m m' ev}(h:AJ w w' R F P m ev)(i:P=P')(j:m=m'):AJ w w' R F P' m' ev:=by subst i j;exact h
theorem AJ.from_{w w1 w' R F F1 P m ev}(i:U2 w w1 F F1)(h:AJ w1 w' R F1 P m ev):AJ w w' R F P m ev:=by obtain⟨A,c,Fs,h1,h2,j,u,F',y,C,D⟩:=h;exact⟨A,c,Fs,h1,h2,j,fun g E=>U4 i.1.size (u g E),F',y,i.trans C,D⟩
theorem N4.cells{w R F m}(h:N4 w R F m):w.cell? (aD R 10)=some (I O m.ph)/\w.cell? (aD R 11)=some (I O m.now)/\w.cell? (aD R 12)=some (I O m.ends)/\w.cell? (aD R 13)=some (I O m.lng)/\w.cell? (aD R 5)=some (I O m.tk)/\w.cell? (aD R 6)=some (I O m.mo)/\∀i,w.frozen? (aD R i)=false:=by obtain⟨cs,T,tc,AL,Ap,pc,Ai,ic,own,L,j,u⟩:=h;exact⟨j.cell j.rc.c10,j.cell j.rc.c11,j.cell j.rc.c12,j.cell j.rc.c13,j.cell j.rc.c5,j.cell j.rc.c6,fun i=>j.frozen i⟩
theorem N4.lngEnds{w R F m}(h:N4 w R F m)u v:F3 w ((w.setCell (aD R 13) (I O u)).setCell (aD R 12) (I O v)) R F {m with lng:=u,ends:=v}:=by obtain⟨cs,T,tc,AL,Ap,pc,Ai,ic,own,L,C,y⟩:=h;obtain⟨h1,h2⟩:=C.setLng u;obtain⟨i,j⟩:=h1.setEnds v;exact i.to_ (h2.trans j) y
theorem N4.over{w R F m}(h:N4 w R F m):F3 w (((w.setCell (aD R 7) (.slice none 0 0)).setCell (aD R 8) (.slice none 0 0)).setCell (aD R 10) (I O 7)) R F (CX m)/\(∃u,w.cell? (aD R 7)=some u)/\(∃u,w.cell? (aD R 8)=some u)/\(∃u,w.cell? (aD R 10)=some u)/\∀i,w.frozen? (aD R i)=false:=by obtain⟨cs,T,tc,AL,Ap,pc,Ai,ic,own,L,j,N⟩:=h;obtain⟨h1,h2⟩:=j.bookNil;obtain⟨own2,C,D⟩:=h1.pkNil;obtain⟨E,J⟩:=C.setPh 7;obtain⟨c,y,-,-⟩:=j.bk.cell;exact⟨Y2.to_ (m:=CX m) E ((h2.trans D).trans J) N,⟨_,y⟩,⟨_,j.cell j.rc.c8⟩,⟨_,j.cell j.rc.c10⟩,fun i=>j.frozen i⟩
theorem Jv7{w R F m}(h:N4 w R F m)(hT:KH m.rows)(hI:BJ m)(j4:BJ (V2 m)):Calls prog 32 #[pA R] w fun ev w'=>ZZ w w' R F (AZ m) (G9 m) (AT m) ev:=by
 have hE:=h;obtain⟨cs,T,tc,AL,Ap,pc,Ai,ic,own,L,hM,hF⟩:=h;have C:=hM.cell hM.rc.c10
 by_cases p7:m.ph=7
 ·have d7:=V4 p7
  have HS:Hid (AZ m []/\G9 m=m/\AT m=6):=J6 ⟨by unfold AZ;rw[X0 p7],by unfold G9;rw[X0 p7],by unfold AT;rw[X0 p7]⟩;have HE:=J6 hE;obtain⟨ph,f5⟩:=exq m.ph;rw[f5]at C d7;clear p7 hE hM hF hI j4 f5 hT;go_enter func32,ntmps32
  go_wp2;go_ret2;rw[HS.2.1,HS.2.2];exact CU (GW HE Q5) HS.1
 have d7:=Z3 p7;obtain⟨⟨a1,a2⟩,ha⟩:∃q,phAt m.rows m.now m.rows.length=q:=⟨_,rfl⟩;obtain⟨⟨y,b2⟩,hb⟩:∃q,phAt m.rows (m.now+1) m.rows.length=q:=⟨_,rfl⟩;have h0:=J6 (fun W hW=>Cs hM hT m.now W hW ha);have f8:Hid (AT m=0/\G9 m=QR a1 (V2 m)/\AZ m=XY a1 (V2 m)/\L5 (V2 m) (V2 m).now=y):=by
  refine J6 ⟨by unfold AT;rw[J8 p7],?_,?_,?_⟩
  ·unfold G9 L5;rw[J8 p7,ha]
  ·funext Fs;unfold AZ L5;rw[J8 p7,ha]
  exact C5 Prod.fst hb
 rw[f8.1,f8.2.1,f8.2.2.1];have c0:=hM.cell hM.rc.c0;have u:=hM.cell hM.rc.c11;obtain⟨HM,HF,HI,l8,l3⟩:=Xt9 hM hF j4 hT hb;have i1:RowKit.wrap64 (m.now+1)=m.now+1:=by have h1:=hI.now;unfold RowKit.wrap64;omega
 obtain⟨nw,k6⟩:=exq m.now;rw[k6]at u h0 i1;have g9:=J6 k6;obtain⟨ph,f5⟩:=exq m.ph;rw[f5]at C d7;have l6:=J6 f5;obtain⟨tn,l1⟩:=exq m.rows.length;rw[l1]at c0 h0;have j0:=J6 l1;clear p7 hE hM hF hI j4 f5 ha hb k6 hT l1;go_enter func32,ntmps32
 go_upto_region 3 with fail
 refine VR (fun t=>[].contains t) (fun W=>W.cell? ⟨R,0,none⟩=some (.slice T tn tc)/\W.cell? ⟨R,11,none⟩=some (I O nw)) Q4 ⟨c0,u⟩ (fun a8=>?_);refine tM 0 ?_;refine tM 1 ?_;refine tM 2 ?_;refine tM 3 ?_;refine tM 4 ?_;refine tM 5 ?_;refine tM 6 ?_;refine tM 7 ?_;refine oM 8 fun K9 g1=>?_
 go_simp;refine(h0 w.drew (Z2 Q5)).mono ?_;rintro ev w3⟨rfl,hq⟩;refine g1 _ _ (fun _=>⟨JX a8.1 hq,JX a8.2 hq⟩) ?_;have j5:=And.intro (JX a8.1 hq) (JX a8.2 hq);clear g1 a8;refine tM 9 ?_;refine tM 10 ?_;refine tM 11 ?_;refine tM 12 ?_;refine tM 13 ?_;refine XX Q4 ?_ _;have j6:Bz w w3:=(Z2 (J9 _ w)).trans hq;have g2:=HM.below j6;have u:=g2.cell g2.rc.c11;rw[g9.out]at u;have n3:=g2.frozen 11;obtain⟨c7,k7⟩:=g2.setNow (nw+1);have i0:=J6 j6;clear c0 C j5 hq j6 g2 h0;go_upto_region 5 with fail
 obtain⟨w4,l9⟩:=exq (w3.setCell ⟨R,11,none⟩ (I O (nw+1)));rw[l9]at c7 k7|-;have em:({m with now:=nw+1}:Z6)=V2 m:=by unfold V2;rw[g9.out]
 rw[em]at c7;have i8:=J6 (fun W hW=>Cs (a:=y) (b:=b2) c7 l8 (nw+1) W hW (by have h:=l3.out;rw[g9.out]at h;exact h));rw[show(V2 m).rows.length=tn from j0.out]at i8;clear l9 u n3 i1;have c0:=c7.cell c7.rc.c0;rw[show(V2 m).rows.length=tn from j0.out]at c0;have u:=c7.cell c7.rc.c11;have j2:(V2 m).now=nw+1:=by rw[<-em]
 rw[j2]at u;obtain⟨l4,l5,c8⟩:=Xt7 c7 k7 j2;clear c7 k7 em j2;refine VR (fun t=>[].contains t) (fun W=>W.cell? ⟨R,0,none⟩=some (.slice T tn tc)/\W.cell? ⟨R,11,none⟩=some (I O (nw+1))) Q4 ⟨c0,u⟩ (fun a8=>?_);refine tM 0 ?_;refine tM 1 ?_;refine tM 2 ?_;refine tM 3 ?_;refine tM 4 ?_;refine tM 5 ?_;refine tM 6 ?_;refine tM 7 ?_;refine oM 8 fun K9 g1=>?_
 go_simp;refine(i8 w4.drew (Z2 Q5)).mono ?_;rintro ev w5⟨rfl,hq⟩;refine g1 _ _ (fun _=>⟨JX a8.1 hq,JX a8.2 hq⟩) ?_;have j5:=And.intro (JX a8.1 hq) (JX a8.2 hq);clear g1 a8;refine tM 9 ?_;refine tM 10 ?_;refine tM 11 ?_;refine tM 12 ?_;refine tM 13 ?_;refine XX Q4 ?_ _;have j7:Bz w4 w5:=(Z2 (J9 _ w4)).trans hq;have m4:=l4.below j7;have h8:N4 w5 R _ (V2 m):=m4.at_;have k8:=(((N0 i0).trans l5).trans (N0 j7)).bstep HF;obtain⟨F5,m3⟩:=exr (fun i=>∃k,own i k);rw[<-m3]at h8 k8;obtain⟨C,u,a0,E,J,N,j⟩:=h8.cells;have b9:=j 10;have a4:=j 12;have a5:=j 13;have j1:(V2 m).ph=ph:=l6.out;rw[j1]at C;rw[c8.out]at u;obtain⟨a6,b8⟩:=Xt6 h8 k8;have a3:Hid (L5 (V2 m) (V2 m).now=y):=J6 f8.2.2.2;have D:=J6 j1;clear c0 j5 hq j7 m4 h8 k8 m3 HM l4 l5 i0 i8 HF l3 l8 j j1;obtain⟨n,k5⟩:=exq (V2 m);rw[k5]at a6 a3 D c8 HI a0 E J N;have a7:=J6 k5;clear k5 f8 l6 g9 j0
 by_cases i7:y=7
 ·have e7:=V4 i7
  by_cases p5:ph=5
  ·have d5:=V4 p5
   have HS:Hid (XY a1 n=XD n/\QR a1 n=CX (ZD n)):=by
    refine J6 ⟨?_,?_⟩
    ·funext Fs;unfold XY;rw[a3.out,X0 i7,X0 (D.trans p5)]
    unfold QR;rw[a3.out,X0 i7,X0 (D.trans p5)]
   clear i7 p5;go_wp2_with fail
   refine(Bl a6 HI.la).mono ?_;rintro ev w6⟨A,c,Fs,rfl,e3,e1,d3,F6,d2,e2,d9⟩;have f6:=J6 (And.intro e1 (And.intro d3 (And.intro e3 (And.intro e2 d9))));obtain⟨g6,⟨u7,x7⟩,⟨u8,x8⟩,⟨n5,m7⟩,j⟩:=d2.over;have y7:=j 7;have y8:=j 8;have n8:=j 10;have i6:=J6 g6;clear e3 e1 d3 d2 e2 d9 C u a0 E J N b9 a4 a5 g6 j;go_wp2;go_ret2;rw[a7.out];obtain⟨h1,h2,h3,h4,h5⟩:=f6.out;obtain⟨F7,g0,a9⟩:=i6.out;rw[HS.1,HS.2];refine AJ.told (AJ.from_ b8 ⟨A,c,Fs,rfl,h3,h1.keeps a9.1 h5,h2,F7,g0,h4.trans a9,fun g hg hF=>?_⟩) 0;obtain d0|d0:=a9.2 g hF
   ·exact h5 g hg d0
   have:=h1.lt hg;omega
  have d5:=Z3 p5;have HS:Hid (XY a1 n []/\QR a1 n=CX n):=by
   refine J6 ⟨?_,?_⟩
   ·unfold XY;rw[a3.out,X0 i7,J8 (fun x=>p5 (D.symm.trans x))]
   unfold QR;rw[a3.out,X0 i7,J8 (fun x=>p5 (D.symm.trans x))]
  obtain⟨g6,⟨u7,x7⟩,⟨u8,x8⟩,⟨n5,m7⟩,j⟩:=a6.over;have y7:=j 7;have y8:=j 8;have i6:=J6 g6;clear i7 p5 g6 j m7 u a0 E J N a4 a5;go_wp2;go_ret2;rw[a7.out];rw[HS.2];exact CU (TK b8 i6) HS.1
 have e7:=Z3 i7;have n7:=XQ i7
 by_cases p6:ph=6
 ·have d6:=V4 p6
  have HS:Hid (XY a1 n []/\QR a1 n=n):=by
   refine J6 ⟨?_,?_⟩
   ·unfold XY;rw[a3.out,J8 i7,X0 (D.trans p6)]
   unfold QR;rw[a3.out,J8 i7,X0 (D.trans p6)]
  clear i7 p6;go_wp2;go_ret2;rw[a7.out];rw[HS.2];exact CU (TK b8 (GW a6 Q5)) HS.1
 have d6:=Z3 p6;have q6:¬n.ph=6:=fun x=>p6 (D.symm.trans x)
 obtain⟨f1,e9⟩:=Xt6 q6 i7
 by_cases ab:a1=y
 ·have n2:=KN ab
  have g7:=J6 ab;clear i7 p6 q6 ab;obtain⟨en,k2⟩:=exq n.ends;rw[k2]at a0;have m8:=J6 k2;clear k2;have f2:Hid (∀c,[Decidable c]->(c↔(n.ph=4/\n.ends<=n.now))->(c->XY a1 n=ZN n/\QR a1 n=JB n)/\(¬c->XY a1 n []/\QR a1 n=n)):=by
   refine J6 (fun c _ Z=>⟨fun h=>⟨?_,?_⟩,fun h=>⟨?_,?_⟩⟩)
   ·funext Fs;unfold XY;rw[a3.out,J8 e9,J8 f1,J8 (fun x=>x g7),X0 (Z.1 h)]
   ·unfold QR;rw[a3.out,J8 e9,J8 f1,J8 (fun x=>x g7),X0 (Z.1 h)]
   ·unfold XY;rw[a3.out,J8 e9,J8 f1,J8 (fun x=>x g7),J8 (fun x=>h (Z.2 x))]
   unfold QR;rw[a3.out,J8 e9,J8 f1,J8 (fun x=>x g7),J8 (fun x=>h (Z.2 x))]
  have e6:Hid ((ph=4/\en<=nw+1)↔(n.ph=4/\n.ends<=n.now)):=J6 (by rw[c8.out,D.out,m8.out])
  by_cases p4:ph=4
  ·have d4:=V4 p4
   by_cases h7:en<=nw+1
   ·have d8:=V7 h7
    have HS:=J6 ((f2 _ e6).1 ⟨p4,h7⟩);clear p4 f2 e6;go_wp2_with fail
    go_quiet (fail)
    obtain⟨g8,i9⟩:=Xt6 (a6.below (Y5 Q5 nq)) (b8.trans (S5 (Y5 (J9 w5.heap.size w5) nq)));clear C u a0 E J N b9 a4 a5 a6 b8;generalize w5.drewN nq=w6 at g8 i9|-;have f9:=J6 (Cr g8 HI.la);obtain⟨⟨t0,t1,t2⟩,ht⟩:∃q,M5 n=q:=⟨_,rfl⟩;rw[ht]at f9;have HT:=J6 ht;unfold QW at f9;dsimp only at f9;clear ht;go_wp2_with fail
    refine f9.mono ?_;rintro ev w7⟨rfl,j8⟩;have k0:Bz w7 (w7.alloc (.cells #[I O t0,I O t1,I O t2] 99)):=(J9 _ w7).alloc Q2 _;have hX:=Z5 w7 99 #[I O t0,I O t1,I O t2];obtain⟨w8,j3⟩:=exq (w7.alloc (.cells #[I O t0,I O t1,I O t2] 99));obtain⟨gq,eq⟩:=exq w7.heap.size;rw[j3]at k0 hX;rw[eq]at hX;have j9:=j8.trans (k0.mono j8.size);have h9:=g8.below j9;obtain⟨l7,HX,l2⟩:=Xt7 (i9.trans (S5 j9)) hX h9;obtain⟨C,u,a0,E,J,N,j⟩:=h9.cells;have b9:=j 10;have a4:=j 12;have a5:=j 13;have i3:=J6 (Jv1 h9 t0);clear j8 k0 hX j9 h9 j g8 i9 f9;obtain⟨q0,q1,q2⟩:=TD HX;obtain⟨cb,k1⟩:=exq (AS n.st n.an t0);rw[k1]at i3;have i4:Hid (DN n↔(t1=0\/cb=true)):=J6 (by unfold DN;rw[HT.out,<-k1]);obtain⟨lg,k3⟩:=exq n.lng;obtain⟨mo,k4⟩:=exq n.mo;obtain⟨tk,k9⟩:=exq n.tk;rw[k3]at E;rw[k4]at N;rw[k9]at J;rw[c8.out]at u;obtain⟨f0,i5,h6⟩:=Xt7 k3 k4 k9;clear k1 k3 k4 k9;go_upto_region 22 with fail
    try rw[j3]
    try rw[eq]
    clear j3 eq
    go_cut [126] (fun n4 wx=>n4=.bool (decide (DN n))/\Bz w8 wx)
    case first=>
     clear C u a0 E J N b9 a4 a5
     by_cases h1:t1=0
     ·have d1:=V4 h1
      have HK:Hid (decide (DN n)=true):=J6 (GR (i4.2 (.inl h1)));clear h1;go_wp2;go_meet;exact⟨by rw[HK.out],J9 _ _⟩
     have d1:=Z3 h1;have HK:Hid (decide (DN n)=cb):=J6 (by
      cases cb with
      |true=>exact GR (i4.2 (.inr rfl))
      |false=>exact WG (fun x=>(i4.1 x).elim h1 (fun e=>by cases e)))
     clear h1;go_wp2_with fail
     refine i3.mono ?_;rintro ev w9⟨rfl,g4⟩;go_wp2;go_meet;exact⟨by rw[HK.out],g4⟩
    obtain⟨rfl,g4⟩:=hcut;obtain⟨e4,f3⟩:=Xt6 (l2.below g4) (l7.trans (S5 g4));obtain⟨w9,m0⟩:=exq wc;rw[m0]at e4 f3|-;clear m0 q0 q1 q2 C u a0 E J N b9 a4 a5 g4 i3 HX l2 l7
    by_cases Z:DN n
    ·have f4:=GR Z
     rw[f4];have c9:Hid (ZN n=XD n/\JB n={ZD n with ph:=3}):=J6 ⟨by funext Fs;unfold ZN;rw[X0 Z],by unfold JB;rw[X0 Z]⟩;clear Z f4;go_wp2_with fail
     refine(Bl e4 HI.la).mono ?_;rintro ev w6⟨A,c,Fs,rfl,e3,e1,d3,F6,d2,e2,d9⟩;have f6:=J6 (And.intro e1 (And.intro d3 (And.intro e3 (And.intro e2 d9))));have b0:=d2.setPh 3;have e5:=J6 b0.1;obtain⟨-,⟨u0,x1⟩,x2⟩:=b0;clear e3 e1 d3 d2 e2 d9;go_wp2;go_ret2;rw[a7.out,HS.1,HS.2,c9.1,c9.2];obtain⟨h1,h2,h3,h4,h5⟩:=f6.out;obtain⟨F7,g0,a9⟩:=e5.out;refine AJ.told (AJ.from_ f3 ⟨A,c,Fs,rfl,h3,h1.keeps a9.1 h5,h2,F7,g0,h4.trans a9,fun g hg hF=>?_⟩) 0;obtain d0|d0:=a9.2 g hF
     ·exact h5 g hg d0
     have:=h1.lt hg;omega
    have f4:=WG Z;rw[f4];obtain⟨C,u,a0,E,J,N,j⟩:=e4.cells;rw[f0.out]at E;rw[i5.out]at N;rw[h6.out]at J;rw[c8.out]at u;have b9:=j 10;have a4:=j 12;have a5:=j 13
    by_cases hl:lg<mo
    ·have dl:=V7 hl
     have c9:Hid (ZN n []/\JB n={n with lng:=lg+1,ends:=nw+1+tk}):=J6 ⟨by unfold ZN;rw[J8 Z],by unfold JB;rw[J8 Z,X0 (by rw[f0.out,i5.out];exact hl),f0,h6,c8.out]⟩;have i1:RowKit.wrap64 (lg+1)=lg+1:=by have h1:=HI.lng;rw[f0.out]at h1;unfold RowKit.wrap64;omega
     have i2:RowKit.wrap64 (nw+1+tk)=nw+1+tk:=by have h1:=HI.now;have h2:=HI.tk;rw[c8.out]at h1;rw[h6.out]at h2;unfold RowKit.wrap64;omega
     clear Z f4 hl j;go_wp2_with fail
     go_quiet (fail)
     obtain⟨D,f7⟩:=Xt6 (e4.below (Y5 Q5 nq)) (f3.trans (S5 (Y5 (J9 w9.heap.size w9) nq)));clear C u a0 E J N b9 a4 a5 e4 f3;generalize w9.drewN nq=n6 at D f7|-;obtain⟨C,u,a0,E,J,N,j⟩:=D.cells;rw[f0.out]at E;rw[h6.out]at J;rw[c8.out]at u;have a4:=j 12;have a5:=j 13;have m5:=D.lngEnds (lg+1) (nw+1+tk);have m9:=J6 m5;clear j C N m5;go_upto_region 27 with fail
     go_region
     go_wp2;go_ret2;rw[a7.out,HS.1,HS.2,c9.2];refine CU (TK f7 (m9.then_ ?_)) c9.1;exact Z2 Q5
    have dl:=V9 hl;have c9:Hid (ZN n []/\JB n={n with ph:=6}):=J6 ⟨by unfold ZN;rw[J8 Z],by unfold JB;rw[J8 Z,J8 (by rw[f0.out,i5.out];exact hl)]⟩;clear Z f4 hl j;go_wp2_with fail
    go_quiet (fail)
    obtain⟨D,f7⟩:=Xt6 (e4.below (Y5 Q5 nq)) (f3.trans (S5 (Y5 (J9 w9.heap.size w9) nq)));clear C u a0 E J N b9 a4 a5 e4 f3;generalize w9.drewN nq=n6 at D f7|-;have b0:=D.setPh 6;have e5:=J6 b0.1;obtain⟨-,⟨u0,x1⟩,x2⟩:=b0;go_wp2;go_ret2;rw[a7.out,HS.1,HS.2,c9.2];exact CU (TK f7 e5) c9.1
   have d8:=V9 h7;have HS:=J6 ((f2 _ e6).2 (fun x=>h7 x.2));clear p4 f2 e6;go_wp2_with fail
   go_quiet (fail)
   go_wp2;go_ret2;rw[a7.out];rw[HS.2];exact CU (TK b8 (GW a6 (Y5 Q5 _))) HS.1
  have d4:=Z3 p4;have HS:=J6 ((f2 _ e6).2 (fun x=>p4 x.1));clear p4 f2 e6;go_wp2_with fail
  go_quiet (fail)
  go_wp2;go_ret2;rw[a7.out];rw[HS.2];exact CU (TK b8 (GW a6 (Y5 Q5 _))) HS.1
 have n2:=XQ ab;have HS:Hid (XY a1 n=UY n y/\QR a1 n=XM n y):=by
  refine J6 ⟨?_,?_⟩
  ·funext Fs;unfold XY;rw[a3.out,J8 e9,J8 f1,X0 ab]
  unfold QR;rw[a3.out,J8 e9,J8 f1,X0 ab]
 have e8:=J6 HS;clear i7 p6 q6 ab HS
 by_cases b3:y=3
 ·have g3:=V4 b3
  have HS:Hid (UY n y=XD n/\XM n y={ZD n with ph:=y}):=J6 ⟨by funext Fs;unfold UY;rw[X0 b3],(X0 b3).trans (by rw[b3])⟩;have i0:=J6 b3;clear b3;go_wp2_with fail
  refine(Bl a6 HI.la).mono ?_;rintro ev w6⟨A,c,Fs,rfl,e3,e1,d3,F6,d2,e2,d9⟩;have f6:=J6 (And.intro e1 (And.intro d3 (And.intro e3 (And.intro e2 d9))));have b0:=d2.setPh y;have e5:=J6 b0.1;obtain⟨-,⟨u0,x1⟩,x2⟩:=b0;clear e3 e1 d3 d2 e2 d9 C u a0 E J N b9 a4 a5;go_wp2;go_ret2;rw[a7.out,e8.1,e8.2,HS.1,HS.2];obtain⟨h1,h2,h3,h4,h5⟩:=f6.out;obtain⟨F7,g0,a9⟩:=e5.out;refine AJ.told (AJ.from_ b8 ⟨A,c,Fs,rfl,h3,h1.keeps a9.1 h5,h2,F7,g0,h4.trans a9,fun g hg hF=>?_⟩) 0;obtain d0|d0:=a9.2 g hF
  ·exact h5 g hg d0
  have:=h1.lt hg;omega
 have g3:=Z3 b3
 by_cases b5:y=5
 ·have g5:=V4 b5
  have HS:Hid (UY n y []/\XM n y=VB n):=J6 ⟨by unfold UY;rw[J8 b3],by unfold XM;rw[J8 b3,X0 b5]⟩;clear b3 b5;go_wp2_with fail
  refine(Nf a6 HI.pk HI.pkn).mono ?_;rintro ev w6⟨rfl,m6⟩;have n1:=J6 m6;clear m6 C u a0 E J N b9 a4 a5;go_wp2;go_ret2;rw[a7.out,e8.1,e8.2,HS.2];exact CU (TK b8 n1) HS.1
 have g5:=Z3 b5;have HS:Hid (UY n y []/\XM n y={n with ph:=y}):=J6 ⟨by unfold UY;rw[J8 b3],by unfold XM;rw[J8 b3,J8 b5]⟩;have b0:=a6.setPh y;have e5:=J6 b0.1;clear b3 b5 b0;go_wp2;go_ret2;rw[a7.out,e8.1,e8.2,HS.2];exact CU (TK b8 e5) HS.1
theorem Xg3 i:∀u∈FN i,u.oneCell'=true:=by intro u j;simp[FN]at j;subst j;rfl
theorem Qp0:(prog.info? 3).map (fun i=>(i.zero,i.size,i.bytes))=some (some (I O 0),1,8):=Q4
theorem Qp1:(prog.info? 84).map (fun i=>(i.zero,i.size,i.bytes))=some (some (.agg #[I O 0,I O 0,I O 0,I O 0,I O 0]),5,40):=Q4
theorem Xo9{w g n c t zs}(h:X8 w (sA g) n c t 1 (X7 FN zs)){i}(C:i<zs.length):w.cell? (aD g i)=some (I O zs[i]):=by
 obtain⟨D,u,j⟩:=h.elem Ms Q0 C
 cases u;have h1:=j 0 _ rfl;rw[Nat.mul_one,Nat.add_zero]at h1;exact h1
theorem Jv8{w g t i}(h:J7 w g t #[I O i]):C0 w FN 1 (sA g) 1 [i]:=by
 refine⟨rfl,fun _=>⟨g,0,rfl,Z9 h,fun k hk j u C=>?_⟩⟩;have D:k=0:=by simpa using hk
 subst D;rw[X9 h]
 match j,C with
 |0,C=>exact C
theorem Y2.idsSnoc{w w' R cs T tc AL Ap pc Ai Ai' ic ic' n own m L i}(h:Y2 w R cs T tc AL Ap pc Ai ic own m L)(C:m.ids.length=n)(hk:X4 (fun i=>X5 Ai=some i) w w')(D:X8 w' Ai' (n+1) ic' 3 1 (X7 FN m.ids++X7 FN [i]))(u:∀i,X5 Ai'=some i->X5 Ai=some i\/w.heap.size<=i):∃own',Y2 (w'.setCell (aD R 9) (.slice Ai' (n+1) ic')) R (cs.setIfInBounds 9 (.slice Ai' (n+1) ic')) T tc AL Ap pc Ai' ic' own' {m with ids:=m.ids++[i]} L/\U3 w (w'.setCell (aD R 9) (.slice Ai' (n+1) ic')) own own':=by
 have j:(m.ids++[i]).length=n+1:=by rw[B6,SN,C]
 have E:X8 w' Ai' (m.ids++[i]).length ic' 3 1 (X7 FN (m.ids++[i])):=by rw[j,AQ];exact D
 have key:=h.idsTo hk E u;rw[j]at key;exact key
def Qi5(w wx:World)(R V X:Nat)(T:Option Addr)(tc:Nat)(AL Ap:Option Addr)(pc:Nat)(own:Nat->Nat->Prop)(ob:Array Value)(m:Z6)(L:List X6):Prop:=
 ∃cs Ai ic own',Y2 wx R cs T tc AL Ap pc Ai ic own' m L/\U2 w wx (fun i=>∃k,own i k) (fun i=>∃k,own' i k)/\(J7 wx V 49 #[pA R]/\YM own' V)/\(J7 wx X 84 ob/\YM own' X)
theorem Fk{w W A p v}(h:w.cell? p=some v)(hk:X4 (fun i=>X5 A=some i) w W)(j:X5 A≠some p.block):W.cell? p=some v:=(hk.cell (U5 w _ h) j).trans h
theorem YF.fin{w wr R V X T tc Ap pc Ai ic own own' A c Fs ob m cs AL L F P}(h:YF w wr R V X T tc Ap pc Ai ic own A c Fs ob m cs AL own' L) (u:∀i,F i↔∃k,own i k) (C:P Fs):ZZ w wr R F P m 0 (.returned (.tuple #[.slice A (List.length Fs) c,I O 0])):=
 ⟨A,c,Fs,rfl,C,h.row,h.new_,_,h.mk_.at_,⟨h.step.1.mono (fun i j=>(u i).2 j),fun i j=>(h.step.2 i j).imp (fun e=>(u i).2 e) id⟩,fun g D⟨k,hk⟩=>h.far g D k hk⟩
theorem YF.vol{w wr w' R V X T tc Ap pc Ai ic own own' A c Fs ob m m2 cs AL L F P}(h:YF w wr R V X T tc Ap pc Ai ic own A c Fs ob m cs AL own' L) (D:∀i,F i↔∃k,own i k) (ht:F3 wr w' R (fun i=>∃k,own' i k) m2) (Z:P Fs):ZZ w w' R F P m2 0 (.returned (.tuple #[.slice A (List.length Fs) c,I O 0])):=by
 obtain⟨E,h1,h2⟩:=ht;have C:=h.step.trans h2;refine⟨A,c,Fs,rfl,Z,h.row.keeps h2.1 (fun g j⟨k,hk⟩=>h.far g j k hk),h.new_,E,h1,⟨C.1.mono (fun i u=>(D i).2 u),fun i u=>(C.2 i u).imp (fun e=>(D i).2 e) id⟩,fun g j J=>?_⟩;rcases h2.2 g J with⟨k,hk⟩|e
 ·exact h.far g j k hk
 have:=h.row.lt j;omega
theorem Jj9{w R F m}(h:N4 w R F m)(E:BJ m)(hids:m.ids.length<=100000)o(hf:JV o):Calls prog 29 #[pA R,V6 o] w fun ev w'=>ZZ w w' R F (fun Fs=>Fs=ZT m o) (M8 m o) (P3 m o) ev:=by
 have i9:=J6 h;obtain⟨cs,T,tc,AL,Ap,pc,Ai,ic,own,L,hM,hF⟩:=h;obtain⟨u,o7⟩:=exq ((U6 o).price);obtain⟨bd,y9⟩:=exq (NA o);obtain⟨rb,s6⟩:=exq (KS o);obtain⟨tb_,htb⟩:=exq (YC m.ph o.kind);have g3:Hid (U6 o=⟨o.id,o.side,o.kind,u,o.qty⟩):=J6 (by rw[<-o7];rfl);have g2:=J6 y9;have u5:Hid (JZ u o.qty=rb):=J6 (by rw[<-o7];exact s6);obtain⟨m3,j7⟩:=Xt6 s6 htb;have t8:Hid (JV (U6 o)):=J6 (by
  refine⟨hf.1,hf.2.1,hf.2.2.1,?_,hf.2.2.2.2⟩;show V3 (if o.kind=2 then 1 else o.price)
  split
  ·unfold V3;omega
  exact hf.2.2.2.1)
 have t9:Hid (V3 o.price):=J6 hf.2.2.2.1;obtain⟨HF,HI,HM⟩:=Xt7 hF E hM;have q1:Hid ((if o.kind=2 then 1 else o.price)=u):=J6 o7;obtain⟨oi,os,ok,op,oq⟩:=o;dsimp only at g3 u5 q1 j7 t9;have o8:Bz w (w.alloc (.cells #[IP (some ⟨R,0,none⟩)] 49)):=(J9 _ w).alloc Q2 _;have hv:=Z5 w 49 #[IP (some ⟨R,0,none⟩)];obtain⟨w0,r0⟩:=exq (w.alloc (.cells #[IP (some ⟨R,0,none⟩)] 49));rw[r0]at o8 hv;have o9:Bz w0 (w0.alloc (.cells #[I O oi,I O os,I O ok,I O op,I O oq] 84)):=(J9 _ w0).alloc Q2 _;have hx:=Z5 w0 84 #[I O oi,I O os,I O ok,I O op,I O oq];obtain⟨w1,g5⟩:=exq (w0.alloc (.cells #[I O oi,I O os,I O ok,I O op,I O oq] 84));rw[g5]at o9 hx;have t2:J7 w1 w.heap.size 49 #[IP (some ⟨R,0,none⟩)]:=Z4 hv o9;have k7:Bz w w1:=o8.trans (o9.mono o8.size);have hlv:=Z9 hv;obtain⟨V,eV⟩:=exq w.heap.size;obtain⟨X,eX⟩:=exq w0.heap.size;have a6:Hid ((w.heap.size<=V/\w.heap.size<=X)/\V≠X):=J6 ⟨⟨Q0,Q0⟩,Q0⟩;rw[eV]at t2;rw[eX]at hx;obtain⟨l7,HX,HV⟩:=Xt7 k7 hx t2;obtain⟨x0,x1,x2,x3,x4⟩:=S0 hx;have xf:=K0 hx 3;unfold V6;dsimp only;clear hM hF E hf o7 y9 s6 htb o8 hv o9 hx t2 k7 hlv;go_enter func29,ntmps29
 go_upto_region 1 with fail
 try rw[r0]
 try rw[g5]
 try rw[eV]
 try rw[eX]
 clear r0 g5 eV eX;go_upto_if 13 with fail
 go_cut [] (fun wx=>Hid (Bz w wx/\J7 wx V 49 #[IP (some ⟨R,0,none⟩)]/\J7 wx X 84 #[I O oi,I O os,I O ok,I O u,I O oq]))
 case first=>
  by_cases hk:ok=2
  ·have d1:=V4 hk
   have e1:u=1:=by rw[<-q1.out,X0 hk]
   have H1:=J6 e1;clear hk e1;go_wp2;go_meet;rw[H1.out];have z7:=U1 w1 ⟨X,3,none⟩ (I O 1);exact J6 ⟨l7.trans (z7.below (fun i e=>by have h1:=a6.1.2;have h2:i=X:=e;omega) l7.size),V0 HV z7 (fun e=>a6.2 e),Z0 HX 3 (I O 1)⟩
  have d1:=Z3 hk;have e1:u=op:=by rw[<-q1.out,J8 hk]
  have H1:=J6 e1;clear hk e1;go_wp2;go_meet;rw[H1.out];exact J6 ⟨l7,HV,HX⟩
 obtain⟨k7,t1,t3⟩:=hcut.out;obtain⟨f1,q4,q7⟩:=Xt7 k7 t1 t3;clear x0 x1 x2 x3 x4 xf l7 HX HV hcut k7;obtain⟨x0,x1,x2,x3,x4⟩:=S0 t3;have C:wc.cell? ⟨V,0,none⟩=some (IP (some ⟨R,0,none⟩)):=by rw[X9 t1];rfl
 clear t3 t1;obtain⟨w1,g5⟩:=exq wc;rw[g5]at f1 q7 q4 x0 x1 x2 x3 x4 C|-;clear g5;go_upto_region 3 with fail
 go_cut [29] (fun s29 wx=>s29=.bool bd/\wx=w1)
 case first=>
  have key:∀b,(b=true↔(os≠1/\os≠2\/ok<1\/4<ok\/oi<1))->b=bd:=fun b hb=>by rw[<-g2.out];exact Vm.2 (hb.trans (Fh (o:=⟨oi,os,ok,op,oq⟩)).symm)
  by_cases c5:1<=os/\os<=2
  ·have f7:(decide (1<=os) &&decide (os<=2))=true:=by simp;omega
   have j6:=J6 f7
   by_cases f4:1<=ok/\ok<=4
   ·have g9:(decide (1<=ok) &&decide (ok<=4))=true:=by simp;omega
    have l8:=J6 g9
    by_cases o1:oi<1
    ·have t4:=V7 o1
     have HK:=J6 (key true Q7);clear key c5 f4 o1 f7 g9;go_wp2_with (go_at_call 37;refine(VY _ _ _ _).mono ?_;rintro e w'⟨rfl,rfl⟩;first|rw[j6.out]|rw[l8.out])
     go_meet;exact⟨C5 Value.bool HK,rfl⟩
    have t4:=V9 o1;have HK:=J6 (key false Q7);clear key c5 f4 o1 f7 g9;go_wp2_with (go_at_call 37;refine(VY _ _ _ _).mono ?_;rintro e w'⟨rfl,rfl⟩;first|rw[j6.out]|rw[l8.out])
    go_meet;exact⟨C5 Value.bool HK,rfl⟩
   have g9:(decide (1<=ok) &&decide (ok<=4))=false:=by simp;omega
   obtain⟨l8,HK⟩:=Xt6 g9 (key true Q7);clear key c5 f4 f7 g9;go_wp2_with (go_at_call 37;refine(VY _ _ _ _).mono ?_;rintro e w'⟨rfl,rfl⟩;first|rw[j6.out]|rw[l8.out])
   go_meet;exact⟨C5 Value.bool HK,rfl⟩
  have f7:(decide (1<=os) &&decide (os<=2))=false:=by simp;omega
  obtain⟨j6,HK⟩:=Xt6 f7 (key true Q7);clear key c5 f7;go_wp2_with (go_at_call 37;refine(VY _ _ _ _).mono ?_;rintro e w'⟨rfl,rfl⟩;rw[j6.out])
  go_meet;exact⟨C5 Value.bool HK,rfl⟩
 obtain⟨rfl,rfl⟩:=hcut
 cases bd with
 |true=>
  have HS:Hid (P3 m ⟨oi,os,ok,op,oq⟩=1):=J6 (by unfold P3;rw[X0 g2.out]);go_wp2;go_ret2;unfold M8 ZT;rw[HS.out,J8 Q1,J8 Q1];exact CU (GW i9 f1) rfl
 |false=>
  go_wp2_with fail
  refine(MU _ _ _).mono ?_;rintro ev w2⟨rfl,rfl⟩;rw[u5.out]
  cases rb with
  |false=>
   have HS:Hid (P3 m ⟨oi,os,ok,op,oq⟩=2):=J6 (by unfold P3;rw[J8 (by rw[g2.out];decide),X0 m3.out]);go_wp2;go_ret2;unfold M8 ZT;rw[HS.out,J8 Q1,J8 Q1];exact CU (GW i9 f1) rfl
  |true=>
   have m7:=HM.below f1;have e7:=m7.cell m7.rc.c10;have u3:=J6 m7;obtain⟨ph,s4⟩:=exq m.ph;rw[s4]at e7 j7;have d0:=J6 s4;have hpt:∀W,Calls prog 74 #[I O ph,I O ok] W fun e w'=>e=.returned (.bool tb_)/\w'=W:=fun W=>(Jb9 ph ok W).mono (fun _ _⟨h1,h2⟩=>⟨h1.trans (by rw[j7.out]),h2.symm⟩)
   have u4:=J6 hpt;clear hpt m7 s4;go_wp2_with fail
   go_quiet ((go_at_call 74;exact Xc (u4 _)))
   have f3:=Y5 (J9 wc.heap.size wc) nq;obtain⟨g0,m5,m4,a8⟩:=Xt8 (f1.trans (f3.mono f1.size)) (ZL q7 nq) (ZL q4 nq) (u3.below f3);clear f3 u4 e7 x0 x1 x2 x3 x4 C;generalize wc.drewN nq=w3 at g0 m5 a8 m4|-;clear f1 q7 u3 q4
   cases tb_ with
   |false=>
    have HS:Hid (P3 m ⟨oi,os,ok,op,oq⟩=6):=J6 (by unfold P3;rw[J8 (by rw[g2.out];decide),J8 (by rw[m3.out];decide),X0 (by rw[d0.out];exact j7)]);go_wp2;go_ret2;unfold M8 ZT;rw[HS.out,J8 Q1,J8 Q1];exact CU (GW i9 g0) rfl
   |true=>
    obtain⟨x0,x1,x2,x3,x4⟩:=S0 m5;have C:w3.cell? ⟨V,0,none⟩=some (IP (some ⟨R,0,none⟩)):=by rw[X9 m4.out];rfl
    have c9:=a8.cell a8.rc.c9;obtain⟨n9,s2⟩:=exq m.ids.length;rw[s2]at c9 hids;have j2:=J6 s2;have p5:Hid (P3 m ⟨oi,os,ok,op,oq⟩=if oi∈m.ids then 9 else if 100<=m.L1.length+m.L2.length+m.pk.length then 12 else 0):=J6 (by unfold P3;rw[J8 (by rw[g2.out];decide),J8 (by rw[m3.out];decide),J8 (by rw[d0.out,show YC ph (X6.mk oi os ok op oq).kind=true from j7.out];decide)]);clear s2;go_wp2_with fail
    go_loopg [49] n9 (fun gg s49 wx=>∃k,k<=n9/\gg=n9-k/\s49=I O k/\wx=w3/\Hid (∀j(hj:j<m.ids.length),j<k->m.ids[j]≠oi))
    case atStart=>exact⟨0,U9 _,rfl,rfl,rfl,J6 fun j hj h=>absurd h Q0⟩
    obtain⟨k,hk,rfl,rfl,rfl,q0⟩:=hrel
    by_cases hlt:k<n9
    ·have z6:k<m.ids.length:=by rw[j2.out];exact hlt
     have s7:=a8.idr;obtain⟨gi,hgi⟩:=EL s7 Q0;subst hgi;have y0:=Xo9 s7 z6;have hltz:(k:Int)<(n9:Int):=Q0;have hk0:(0:Int)<=(k:Int):=Q0;obtain⟨z,hz⟩:=exq (m.ids[k]);rw[hz]at y0;have HZ:=J6 hz;clear s7 hz
     by_cases he:z=oi
     ·have d1:=V4 he
      have HS:Hid (P3 m ⟨oi,os,ok,op,oq⟩=9):=J6 (by rw[p5.out,X0 (by rw[<-he,<-HZ.out];exact C7 z6)]);clear he;go_wp2;go_ret2;unfold M8 ZT;rw[HS.out,J8 Q1,J8 Q1];exact CU (GW i9 g0) rfl
     have d1:=Z3 he;have HNo2:Hid (∀j(hj:j<m.ids.length),j<k+1->m.ids[j]≠oi):=J6 (fun j hj hjk=>by
      by_cases e:j=k
      ·subst e;rw[HZ.out];exact he
      exact q0 j hj Q0)
     clear he;go_wp2
     go_roundg (n9-(k+1))
     case measure=>omega
     exact⟨k+1,Q0,rfl,J5,rfl,HNo2⟩
    obtain rfl:k=n9:=by omega
    have hltz:¬(k:Int)<(k:Int):=Q0;have HNin:Hid (oi∉m.ids):=J6 (fun hin=>by obtain⟨j,hj,e⟩:=ZX.1 hin;exact q0 j hj (by have:=j2.out;omega) e)
    have t7:Hid (P3 m ⟨oi,os,ok,op,oq⟩=if 100<=m.L1.length+m.L2.length+m.pk.length then 12 else 0):=J6 (by rw[p5.out,J8 HNin.out]);obtain⟨c7c,c7,-,-⟩:=a8.bk.cell;have c8:=a8.cell a8.rc.c8;obtain⟨pn,s5⟩:=exq m.pk.length;obtain⟨ln,o2⟩:=exq L.length;have hfew:ln<=100:=by have:=a8.few;omega
    have hpkn:pn<=100000:=by have:=HI.pkn;omega
    have u1:Hid (m.L1.length+m.L2.length=ln):=J6 (by rw[a8.twin.len];exact o2);obtain⟨j4,HLl⟩:=Xt6 s5 o2;rw[s5]at c8;rw[o2]at c7;clear s5 o2 q0 p5;go_wp2_with fail
    go_quiet (fail)
    have f3:=Y5 (J9 wr.heap.size wr) nq;obtain⟨j0,q8,q5,p7⟩:=Xt8 (g0.trans (f3.mono g0.size)) (ZL m5 nq) (ZL m4 nq) (a8.below f3);clear f3 c7 c8 c9 x0 x1 x2 x3 x4 C;generalize wr.drewN nq=w5 at j0 q8 p7 q5|-;clear g0 m5 a8 m4
    by_cases n8:(ln:Int)+(pn:Int)>=100
    ·have d1:=V7 n8
     have HS:Hid (P3 m ⟨oi,os,ok,op,oq⟩=12):=J6 (by rw[t7.out,X0 (by rw[u1.out,j4.out];omega)]);go_wp2;go_ret2;unfold M8 ZT;rw[HS.out,J8 Q1,J8 Q1];exact CU (GW i9 j0) rfl
    have d1:=V9 n8;have HS:Hid (P3 m ⟨oi,os,ok,op,oq⟩=0):=J6 (by rw[t7.out,J8 (by rw[u1.out,j4.out];omega)]);have x9:M8 m ⟨oi,os,ok,op,oq⟩=UR (B7 m ⟨oi,os,ok,u,oq⟩) ⟨oi,os,ok,u,oq⟩:=by unfold M8;rw[X0 HS.out,g3.out]
    have x7:ZT m ⟨oi,os,ok,op,oq⟩=AG (B7 m ⟨oi,os,ok,u,oq⟩) ⟨oi,os,ok,u,oq⟩:=by unfold ZT;rw[X0 HS.out,g3.out]
    have a1:=J6 (And.intro HS (And.intro x9 x7));clear x9 x7;obtain⟨ii,hii,hiz0,hiz1,hiz2⟩:=W8 Qp0;obtain⟨i0,z5,hz0,hz1,hz2⟩:=W8 Qp1;go_upto_region 17 with fail
    go_cut [] (fun wx=>Hid (Qi5 w wx R V X T tc AL Ap pc own #[I O oi,I O os,I O ok,I O u,I O oq] (B7 m ⟨oi,os,ok,u,oq⟩) L))
    case first=>
     clear d1 n8;have g6:=p7.below (Z2 (J9 _ w5));have n4:=Y6 q8;have n2:=Y6 q5;have x0:=(S0 n4).1;have C:w5.drew.cell? ⟨V,0,none⟩=some (IP (some ⟨R,0,none⟩)):=by rw[X9 n2];rfl
     have c9:=g6.cell g6.rc.c9;rw[j2.out]at c9;have nV:X5 Ai≠some V:=fun e=>by have:=HM.ok.lt V 5 (HM.oi V e);have:=a6.1.1;omega
     have nX:X5 Ai≠some X:=fun e=>by have:=HM.ok.lt X 5 (HM.oi X e);have:=a6.1.2;omega
     have nR:X5 Ai≠some R:=fun e=>absurd (HM.ok.uni R 5 1 (HM.oi R e) HM.oR) Q1
     have b2:Hid (∀W,X4 (fun i=>X5 Ai=some i) w5.drew W->W.cell? ⟨V,0,none⟩=some (IP (some ⟨R,0,none⟩))/\W.cell? ⟨R,9,none⟩=some (.slice Ai k ic)/\W.cell? ⟨X,0,none⟩=some (I O oi)):=J6 (fun W hk=>⟨Fk C hk nV,Fk c9 hk nR,Fk x0 hk nX⟩);have p6:Hid (∀W,X4 (fun i=>X5 Ai=some i) w5.drew W->W.frozen? ⟨R,9,none⟩=false):=J6 (fun W hk=>K0 (V0 g6.bk.blk hk nR) 9);have HFin:Hid (∀W A' c',X4 (fun i=>X5 Ai=some i) w5.drew W->X8 W A' (k+1) c' 3 1 (X7 FN m.ids++X7 FN [oi])->(∀g,X5 A'=some g->X5 Ai=some g\/w5.drew.heap.size<=g)->Qi5 w (W.setCell ⟨R,9,none⟩ (.slice A' (k+1) c')) R V X T tc AL Ap pc own #[I O oi,I O os,I O ok,I O u,I O oq] (B7 m ⟨oi,os,ok,u,oq⟩) L):=J6 (fun W A' c' hk hr hg=>by
      obtain⟨own',d9,o4⟩:=g6.idsSnoc j2 hk hr hg;have fV:∀Y,w.heap.size<=Y->Y<w5.drew.heap.size->YM own' Y:=fun Y hY hl k' r7=>by
       obtain e|e:=o4.2 Y k' r7
       ·have:=HM.ok.lt Y k' e;omega
       omega
      have gV:=fV V a6.1.1 (Z9 n2);have gX:=fV X a6.1.2 (Z9 n4);have oV:∀Y,w.heap.size<=Y->¬∃k,own Y k:=fun Y hY⟨k',r7⟩=>by have:=HM.ok.lt Y k' r7;omega
      exact⟨_,_,_,own',d9,(S5 (j0.trans ((Z2 (J9 _ w5)).mono j0.size))).trans (o4.bstep (fun i=>KL)),⟨V0 n2 o4.1 (oV V a6.1.1),gV⟩,⟨V0 n4 o4.1 (oV X a6.1.2),gX⟩⟩)
     have o6:=g6.idr;rw[j2.out]at o6;have HOw:=J6 o6;have HLt:Hid (∀g,X5 Ai=some g->g<w5.drew.heap.size):=J6 (fun g hg=>o6.lt hg);refine SP 11 (fun W=>W.cell? ⟨V,0,none⟩=some (IP (some ⟨R,0,none⟩))/\W.cell? ⟨R,9,none⟩=some (.slice Ai k ic)/\W.cell? ⟨X,0,none⟩=some (I O oi)) Q4 ⟨C,c9,x0⟩ (fun hS=>?_);clear g6 n4 n2 x0 C c9 nV nX nR o6;refine tT 0 ?_;refine tT 1 ?_;refine tT 2 ?_;refine tT 3 ?_;refine tT 4 ?_;refine tT 5 ?_;refine tT 6 ?_;clear hS;refine VU 7 Q4 rfl (fun K1 J=>?_);go_simp;have k6:Below w5.drew.heap.size w5.drew (w5.alloc (.cells #[I O oi] 3)).drew:=(J9 _ w5.drew).alloc Q2 (.cells #[I O oi] 3);have hZ:=Y6 (Z5 w5 3 #[I O oi]);obtain⟨v1,q9⟩:=exq ((w5.alloc (.cells #[I O oi] 3)).drew);obtain⟨Z,eZ⟩:=exq w5.heap.size;rw[q9]at k6 hZ;rw[eZ]at hZ;have hZl:w5.drew.heap.size<=Z:=CB eZ;rw[q9,eZ];clear q9 eZ;have f4:X4 (fun i=>X5 Ai=some i) w5.drew v1:=B9 k6 _;obtain⟨HK1,p4,HOw1⟩:=Xt7 f4 (Jv8 hZ) (HOw.below k6);have hsz:=k6.size;refine J _ _ (b2 _ f4) (fun hS=>?_);clear J hS k6 hZ f4
     try simp only[Act.put,List.setIfInBounds_toArray,List.set_cons_zero,List.set_cons_succ]
     refine VU 8 Q4 rfl (fun K1 J=>?_);refine Xm Ms Xg3 Q8 _ _ _ Q8 3 ii _ 8 underlying54 hii hiz0 hiz1 hiz2 rfl Q0 Ai k ic (X7 FN m.ids) Q8 HOw1 (some ⟨Z,0,none⟩) 1 1 [oi] Q8 p4 Q9 Q0 ?_;intro A' c' v2 p1 z4 y8;have r8:X4 (fun i=>X5 Ai=some i) w5.drew v2:=HK1.trans (Kd z4) (fun i hi=>.inl hi);obtain⟨j1,e5⟩:=Xt6 r8 p1;have HG2:Hid (∀g,X5 A'=some g->X5 Ai=some g\/w5.drew.heap.size<=g):=J6 (fun g hg=>(y8 g hg).imp id (fun e=>Q0));refine J _ _ (b2 _ r8) (fun hS=>?_);clear J hS p1 z4 y8 r8;simp only[Act.put,List.setIfInBounds_toArray,List.set_cons_zero,List.set_cons_succ];refine VU 9 Q4 rfl (fun K1 J=>?_);go_simp;refine J _ _ (b2 _ j1) (fun hS=>?_);clear J hS;refine VU 10 Q4 rfl (fun K1 J=>?_);go_simp;refine J _ _ (b2 _ j1) (fun hS=>?_);clear J hS;have z3:=p6.out _ j1;obtain⟨-,z1,-⟩:=b2.out _ j1;refine TV Q4 rfl (fun K1 J=>?_);go_simp;refine J _ _ (TZ Q4 ?_ _);clear J z3 z1;go_wp2;go_meet;exact J6 (HFin _ _ _ j1 e5 HG2)
    obtain⟨cs6,l6,p2,p3,d9,t0,⟨n1,x5⟩,n3,x6⟩:=hcut.out;obtain⟨w6,j8⟩:=exq wc;rw[j8]at d9 t0 n1 n3|-;obtain⟨a5,f2,e6,d7⟩:=Xt8 d9 t0 (And.intro n1 x5) (And.intro n3 x6);obtain⟨x0,x1,x2,x3,x4⟩:=S0 n3;have C:w6.cell? ⟨V,0,none⟩=some (IP (some ⟨R,0,none⟩)):=by rw[X9 n1];rfl
    have e7:=d9.cell d9.rc.c10;have c8:=d9.cell d9.rc.c8;have u6:(Value.int .i64 (B7 m ⟨oi,os,ok,u,oq⟩).ph)=I O ph:=by rw[<-d0.out];rfl
    have e8:(Value.slice Ap (B7 m ⟨oi,os,ok,u,oq⟩).pk.length pc)=.slice Ap pn pc:=by rw[<-j4.out];rfl
    rw[u6]at e7;rw[e8]at c8;have hpn9:pn<=100:=Q0;clear d9 t0 n1 x5 n3 x6 j8 u6 e8 hcut d1 n8 p7 q8 q5 j0;go_upto_region 18 with fail
    go_cut [91] (fun s91 wx=>s91=.bool (decide (ok=4/\ph≠5))/\wx=w6)
    case first=>
     by_cases f5:ok=4
     ·have d4:=V4 f5
      by_cases i7:ph=5
      ·have d5:=KN i7
       have HK:Hid (decide (ok=4/\ph≠5)=false):=J6 (by simp[i7]);clear f5 i7;go_wp2;go_meet;exact⟨by rw[HK.out],rfl⟩
      have d5:=XQ i7;have HK:Hid (decide (ok=4/\ph≠5)=true):=J6 (by simp[i7,f5]);clear f5 i7;go_wp2;go_meet;exact⟨by rw[HK.out],rfl⟩
     have d4:=Z3 f5;have HK:Hid (decide (ok=4/\ph≠5)=false):=J6 (by simp[f5]);clear f5;go_wp2;go_meet;exact⟨by rw[HK.out],rfl⟩
    obtain⟨rfl,rfl⟩:=hcut;obtain⟨w6,j8⟩:=exq wc;rw[j8]at a5 f2 e6 d7 x0 x1 x2 x3 x4 C e7 c8|-;clear j8
    by_cases a9:ok=4/\ph≠5
    ·have g7:decide (ok=4/\ph≠5)=true:=GR a9
     rw[g7];have a2:Hid (UR (B7 m ⟨oi,os,ok,u,oq⟩) ⟨oi,os,ok,u,oq⟩={B7 m ⟨oi,os,ok,u,oq⟩with pk:=m.pk++[⟨oi,os,ok,u,oq⟩]}/\AG (B7 m ⟨oi,os,ok,u,oq⟩) ⟨oi,os,ok,u,oq⟩=[]):=by
      refine J6 ⟨?_,?_⟩
      ·unfold UR;rw[X0 ⟨a9.1,by show m.ph≠5;rw[d0.out];exact a9.2⟩];rfl
      unfold AG;rw[X0 ⟨a9.1,by show m.ph≠5;rw[d0.out];exact a9.2⟩]
     clear a9 g7;have hpr:=a5.park;have z2:C0 w6 U0 5 Ap pn m.pk:=by have h1:=CY JG Q0 hpr;rw[show(B7 m ⟨oi,os,ok,u,oq⟩).pk.length=pn from j4.out]at h1;exact h1
     have p4:=J6 z2;have hnb:pn<=1000:=Q0;have b2:Hid (∀W,Bz w6 W->(W.cell? ⟨X,0,none⟩=some (I O oi)/\W.cell? ⟨X,1,none⟩=some (I O os)/\W.cell? ⟨X,2,none⟩=some (I O ok)/\W.cell? ⟨X,3,none⟩=some (I O u)/\W.cell? ⟨X,4,none⟩=some (I O oq))/\W.cell? ⟨V,0,none⟩=some (IP (some ⟨R,0,none⟩))/\W.cell? ⟨R,8,none⟩=some (.slice Ap pn pc)):=J6 (fun W hb=>⟨⟨JX x0 hb,JX x1 hb,JX x2 hb,JX x3 hb,JX x4 hb⟩,JX C hb,JX c8 hb⟩);have HCl:Hid (∀W,Bz w6 W->W.cell? ⟨R,8,none⟩=some (.slice Ap pn pc)):=J6 (fun W hb=>JX c8 hb);have p6:Hid (∀W,Bz w6 W->W.frozen? ⟨R,8,none⟩=false):=J6 (fun W hb=>(a5.below hb).frozen 8);have HFinP:Hid (∀W A' c',Bz w6 W->X8 W A' (pn+1) c' 84 5 (X7 U0 m.pk++X7 U0 [⟨oi,os,ok,u,oq⟩])->(∀g,X5 A'=some g->w6.heap.size<=g)->ZZ w (W.setCell ⟨R,8,none⟩ (.slice A' (pn+1) c')) R F (fun Fs=>Fs=AG (B7 m ⟨oi,os,ok,u,oq⟩) ⟨oi,os,ok,u,oq⟩) (UR (B7 m ⟨oi,os,ok,u,oq⟩) ⟨oi,os,ok,u,oq⟩) 0 (.returned (.tuple #[.slice none 0 0,I O 0]))):=J6 (fun W A' c' hb hr hg=>by
      have z9:(m.pk++[(⟨oi,os,ok,u,oq⟩:X6)]).length=pn+1:=by rw[B6,SN,j4.out]
      have p1:X8 W A' (m.pk++[(⟨oi,os,ok,u,oq⟩:X6)]).length c' 84 5 (X7 U0 (m.pk++[⟨oi,os,ok,u,oq⟩])):=by rw[z9,AQ];exact hr
      obtain⟨own7,k3,f6⟩:=a5.pkTo hb p1 hg;rw[z9]at k3 f6;rw[a2.1,a2.2];refine CU ⟨_,k3.at_,?_⟩ rfl;have h9:=f2.trans (f6.bstep (fun i=>KL));exact⟨h9.1.mono (fun i hi=>(HF i).2 hi),fun i hi=>(h9.2 i hi).imp (fun e=>(HF i).2 e) id⟩)
     clear hpr z2 e7;go_upto_region 19 with fail
     clear x0 x1 x2 x3 x4 C c8;refine Bw (fun a0 ii a w=>(∀j,j<13->ii j=true)/\(∃W A' c',w=W.setCell ⟨R,8,none⟩ (.slice A' (pn+1) c')/\Bz w6 W/\X8 W A' (pn+1) c' 84 5 (X7 U0 m.pk++X7 U0 [(⟨oi,os,ok,u,oq⟩:X6)])/\∀g,X5 A'=some g->w6.heap.size<=g)/\(∃C v1 v2 v3 v4 v5 v6 v7 v8 v9 a4 a3,a=FK a0 [(92,C),(93,v1),(94,v2),(95,v3),(96,v4),(97,v5),(98,v6),(99,v7),(100,v8),(101,v9),(102,a4),(103,a3)])\/ii 12=false/\∃C v1 v2 v3 v4 v5 v6 v7 v8 v9 a4 a3,a=FK a0 [(92,C),(93,v1),(94,v2),(95,v3),(96,v4),(97,v5),(98,v6),(99,v7),(100,v8),(101,v9),(102,a4),(103,a3)]/\(ii 0=true->C=IP (some ⟨R,0,none⟩))/\(ii 2=true->v2=IP (some ⟨R,0,none⟩))/\(ii 3=true->v3=IP (some ⟨R,0,none⟩))/\(ii 4=true->v4=IP (some ⟨R,8,none⟩))/\(ii 5=true->v5=.slice Ap pn pc)/\(ii 7=true->v7=.agg #[I O oi,I O os,I O ok,I O u,I O oq])/\(ii 10=true->a4=IP (some ⟨R,0,none⟩))/\(ii 11=true->a3=IP (some ⟨R,8,none⟩)/\ii 10=true)/\(ii 9=true->ii 8=true)/\ZC w6 pn (pn+1) (X7 U0 m.pk) (X7 U0 m.pk++X7 U0 [(⟨oi,os,ok,u,oq⟩:X6)]) (⟨oi,os,ok,u,oq⟩:X6) (ii 1) (ii 6) (ii 8) (ii 9) v1 v6 v8 v9 w) ?_ ?_ ?_
     ·exact .inr ⟨rfl,_,_,_,_,_,_,_,_,_,_,_,_,P6,fun e=>(by cases e),fun e=>(by cases e),fun e=>(by cases e),fun e=>(by cases e),fun e=>(by cases e),fun e=>(by cases e),fun e=>(by cases e),fun e=>(by cases e),fun e=>(by cases e),ZC.start (Z2 Q5)⟩
     ·refine⟨?_,?_,?_,?_,?_,?_,?_,?_,?_,?_,?_,?_,?_,trivial⟩
      all_goals
       rintro ii a w hL hd(⟨n6,-⟩|⟨h12,C,v1,v2,v3,v4,v5,v6,v7,v8,v9,a4,a3,rfl,h0,h2,h3,h4,h5,h7,hx,hy,h98,E⟩)K hK
       ·cases hL.symm.trans (n6 _ Q1)
       simp only[FK,Act.put,List.setIfInBounds_toArray,List.set_cons_zero,List.set_cons_succ]
      ·obtain⟨-,vv,-⟩:=b2.out _ E.1;go_simp
       exact hK _ _ (.inr ⟨h12,IP (some ⟨R,0,none⟩),v1,v2,v3,v4,v5,v6,v7,v8,v9,a4,a3,P6,fun _=>rfl,h2,h3,h4,h5,h7,hx,hy,h98,E⟩)
      ·rw[hL]at E;go_simp
       exact hK _ _ (.inr ⟨h12,C,_,v2,v3,v4,v5,v6,v7,v8,v9,a4,a3,P6,h0,h2,h3,h4,h5,h7,hx,hy,h98,E.mk1⟩)
      ·obtain⟨-,vv,-⟩:=b2.out _ E.1;go_simp
       exact hK _ _ (.inr ⟨h12,C,v1,IP (some ⟨R,0,none⟩),v3,v4,v5,v6,v7,v8,v9,a4,a3,P6,h0,fun _=>rfl,h3,h4,h5,h7,hx,hy,h98,E⟩)
      ·obtain rfl:=h2 (KJ hd 2);go_simp
       exact hK _ _ (.inr ⟨h12,C,v1,_,IP (some ⟨R,0,none⟩),v4,v5,v6,v7,v8,v9,a4,a3,P6,h0,h2,fun _=>rfl,h4,h5,h7,hx,hy,h98,E⟩)
      ·obtain rfl:=h3 (KJ hd 3);go_simp
       exact hK _ _ (.inr ⟨h12,C,v1,v2,_,IP (some ⟨R,8,none⟩),v5,v6,v7,v8,v9,a4,a3,P6,h0,h2,h3,fun _=>rfl,h5,h7,hx,hy,h98,E⟩)
      ·obtain rfl:=h4 (KJ hd 4);obtain⟨-,-,cc⟩:=b2.out _ E.1;go_simp
       exact hK _ _ (.inr ⟨h12,C,v1,v2,v3,_,.slice Ap pn pc,v6,v7,v8,v9,a4,a3,P6,h0,h2,h3,h4,fun _=>rfl,h7,hx,hy,h98,E⟩)
      ·obtain rfl:=h5 (KJ hd 5)
       rw[hL,KJ hd 1]at E;obtain⟨g1,rfl,hr,r6⟩:=E.get1;refine(X0 Q8).mpr ?_;refine WL JG BL _ _ _ Q8 84 i0 _ 40 underlying91 z5 hz0 hz1 hz2 rfl Q0 (some ⟨g1,0,none⟩) 0 0 [] Q8 hr Ap pn pc m.pk Q8 (p4.below E.1 Q2) Q9 Q0 ?_;intro A' c' w' p0 r5 r4;rw[KC,EE]at p0;rw[KC];exact hK _ _ (.inr ⟨h12,C,_,v2,v3,v4,_,_,v7,v8,v9,a4,a3,P6,h0,h2,h3,h4,h5,h7,hx,hy,h98,(show ZC _ _ _ _ _ _ (ii 1) _ _ _ _ _ _ _ _ by rw[KJ hd 1];exact r6 _ _ _ p0 r5 r4)⟩)
      ·obtain⟨⟨x0,x1,x2,x3,x4⟩,-⟩:=b2.out _ E.1;go_simp
       exact hK _ _ (.inr ⟨h12,C,v1,v2,v3,v4,v5,v6,.agg #[I O oi,I O os,I O ok,I O u,I O oq],v8,v9,a4,a3,P6,h0,h2,h3,h4,h5,fun _=>rfl,hx,hy,h98,E⟩)
      ·obtain rfl:=h7 (KJ hd 7)
       have e9:ii 9=false:=by cases e:ii 9 with|false=>rfl|true=>cases hL.symm.trans (h98 e)
       rw[hL,e9]at E;go_simp;exact hK _ _ (.inr ⟨h12,C,v1,v2,v3,v4,v5,v6,_,_,v9,a4,a3,P6,h0,h2,h3,h4,h5,h7,hx,hy,fun _=>rfl,(show ZC _ _ _ _ _ _ _ _ _ (ii 9) _ _ _ _ _ by rw[e9];exact E.mk8)⟩)
      ·have d6:=KJ hd 6;have d8:=KJ hd 8
       rw[hL,d6,d8]at E;obtain⟨A6,c6,rfl,hr,he,r6⟩:=E.get6;obtain⟨g8,rfl,he8⟩:=he rfl;refine(X0 Q8).mpr ?_;refine WL JG BL _ _ _ Q8 84 i0 _ 40 underlying91 z5 hz0 hz1 hz2 rfl Q0 A6 pn c6 _ Q8 hr (some ⟨g8,0,none⟩) 1 1 [(⟨oi,os,ok,u,oq⟩:X6)] Q8 he8 Q9 Q0 ?_;intro A' c' w' p0 r5 r4;exact hK _ _ (.inr ⟨h12,C,v1,v2,v3,v4,v5,_,v7,_,_,a4,a3,P6,h0,h2,h3,h4,h5,h7,hx,hy,fun _=>d8,(show ZC _ _ _ _ _ _ _ (ii 6) (ii 8) _ _ _ _ _ _ by rw[d6,d8];exact r6 _ _ _ p0 r5 r4)⟩)
      ·obtain rfl:=h0 (KJ hd 0);go_simp
       exact hK _ _ (.inr ⟨h12,_,v1,v2,v3,v4,v5,v6,v7,v8,v9,IP (some ⟨R,0,none⟩),a3,P6,h0,h2,h3,h4,h5,h7,fun _=>rfl,fun e=>⟨(hy e).1,rfl⟩,h98,E⟩)
      ·obtain rfl:=hx (KJ hd 10);go_simp
       exact hK _ _ (.inr ⟨h12,C,v1,v2,v3,v4,v5,v6,v7,v8,v9,_,IP (some ⟨R,8,none⟩),P6,h0,h2,h3,h4,h5,h7,hx,fun _=>⟨rfl,KJ hd 10⟩,h98,E⟩)
      obtain⟨rfl,d10⟩:=hy (KJ hd 11);rw[KJ hd 9]at E;obtain⟨hb,-,-,_,_,_,_,-,-,-,hlast⟩:=E;obtain⟨A9,c9,rfl,hr,hf⟩:=hlast rfl;have z1:=HCl.out _ hb;have z3:=p6.out _ hb;go_simp;exact hK _ _ (.inl ⟨Qd5 (m:=12) fun j hj=>if e:j=10 then e▸d10 else hd j (by simp[WJ,Region.binds];omega),⟨_,_,_,rfl,hb,hr,hf⟩,_,_,_,_,_,_,_,_,_,_,_,_,P6⟩)
     rintro ii a w n6(⟨-,⟨W,A',c',rfl,hb,hr,hf⟩,C,v1,v2,v3,v4,v5,v6,v7,v8,v9,a4,a3,rfl⟩|⟨h12,-⟩)
     ·simp only[FK,Act.put,List.setIfInBounds_toArray,List.set_cons_zero,List.set_cons_succ]
      clear n6;go_wp2;go_ret2;rw[a1.1,a1.2.1,a1.2.2];exact HFinP _ _ _ hb hr hf
     cases h12.symm.trans (n6 12 Q1)
    have g7:decide (ok=4/\ph≠5)=false:=WG a9;rw[g7];clear c8
    by_cases i6:ph=3
    ·have d3:=KN i6
     have a2:Hid (UR (B7 m ⟨oi,os,ok,u,oq⟩) ⟨oi,os,ok,u,oq⟩=XP (B7 m ⟨oi,os,ok,u,oq⟩) ⟨oi,os,ok,u,oq⟩/\AG (B7 m ⟨oi,os,ok,u,oq⟩) ⟨oi,os,ok,u,oq⟩=(S6 (B7 m ⟨oi,os,ok,u,oq⟩) ⟨oi,os,ok,u,oq⟩).fills):=by
      have e1:¬((⟨oi,os,ok,u,oq⟩:X6).kind=4/\(B7 m ⟨oi,os,ok,u,oq⟩).ph≠5):=fun x=>a9 ⟨x.1,by have:=x.2;rw[show(B7 m ⟨oi,os,ok,u,oq⟩).ph=ph from d0.out]at this;exact this⟩
      have e2:¬(B7 m ⟨oi,os,ok,u,oq⟩).ph≠3:=fun x=>x (d0.trans i6)
      refine J6 ⟨?_,?_⟩
      ·unfold UR;rw[J8 e1,J8 e2]
      unfold AG;rw[J8 e1,J8 e2]
     clear a9 g7 i6;have b5:JV ⟨oi,os,ok,u,oq⟩:=by have h1:=t8.out;rw[g3.out]at h1;exact h1
     have o5:KG (U6 ⟨oi,os,ok,op,oq⟩)/\V5 (U6 ⟨oi,os,ok,op,oq⟩).side/\1<=ok/\ok<=4:=Di ⟨b5.1,b5.2.1,b5.2.2.1,t9,b5.2.2.2.2⟩ g2 m3;rw[g3.out]at o5;have hsd:V5 os:=o5.2.1;have hq0:0<=oq:=by have:=o5.1.2.2.2.1;show 0<=oq;have e:(⟨oi,os,ok,u,oq⟩:X6).qty=oq:=rfl;omega
     obtain⟨M,m8⟩:=exq (B7 m ⟨oi,os,ok,u,oq⟩);rw[m8]at a5 a2;have z8:=a5.twin.lists a5.few;have l1:=Ta (al:=fun la p=>YA M.st M.dy M.an la p) (tr:=fun _ p=>p) (V1 (3-os) M.L1 M.L2) ⟨oi,os,ok,u,oq⟩ M.la b5 hq0 (Fe z8 _);have k9:=Dl (fun la p=>YA M.st M.dy M.an la p) (fun _ p=>p) (V1 (3-os) M.L1 M.L2) ⟨oi,os,ok,u,oq⟩ M.la;have hr0:A4 (fun la p=>YA M.st M.dy M.an la p) (fun _ p=>p) (V1 (3-os) M.L1 M.L2) ⟨oi,os,ok,u,oq⟩ M.la=S6 M ⟨oi,os,ok,u,oq⟩:=rfl;rw[hr0]at l1 k9;obtain⟨r,hr⟩:=exq (S6 M ⟨oi,os,ok,u,oq⟩);rw[hr]at l1 k9 a2;obtain⟨fl,⟨i1,i2,i3,i4,D⟩,sp,st,rst⟩:=r;dsimp only at l1 k9 a2;obtain⟨HR,HLe,u0,q2⟩:=Xt8 hr l1.1 k9 hsd;have hnowt:(-1000000000000<=M.now/\M.now<=1000000000000)/\(0<=M.tk/\M.tk<=1000000):=by rw[<-m8];have h1:=HI.now;exact⟨⟨by show -1000000000000<=m.now;omega,h1.2⟩,HI.tk⟩
     have m0:=J6 hnowt;have z0:∀W,Bz w6 W->Calls prog 76 #[IP (some ⟨R,7,none⟩),.agg #[I O oi,I O os,I O ok,I O u,I O oq],.func (.func 77) #[IP (some ⟨R,0,none⟩)] #[],.func (.func 78) #[] #[IP (some ⟨V,0,none⟩)]] W fun ev w'=>∃A c G' M1 M2,ev=.returned (.tuple #[.slice A (List.length fl) c,.agg #[I O i1,I O i2,I O i3,I O i4,I O D],.bool sp])/\AV (Ag R V T tc Ap pc l6 p2 M) W w' st (fun i=>(∃k,p3 i k)\/i=V) G' M1 M2 A c fl/\V1 os M1 M2=V1 os M.L1 M.L2/\V1 (3-os) M1 M2=rst:=by
      intro W hb;have hk:Ag R V T tc Ap pc l6 p2 M M.la M.L1 M.L2 (fun i=>(∃k,p3 i k)\/i=V) W:=⟨cs6,AL,p3,L,a5.below hb,Z4 e6.1 hb,e6.2,fun i=>KL⟩;have hc:=Qs5 (Jv5 R V T tc Ap pc l6 p2 M) (fun hk sd hs=>by obtain⟨g4,f9,own',L',hk⟩:=hk;have m9:=hk.mk_;have h1:=Sp m9.bk (by have:=m9.few;omega) sd (Jg2 m9.twin sd);rw[<-m9.twin.side hs]at h1;exact h1) W M.la _ M.L1 M.L2 hk rfl oi os ok u oq q2 b5
      refine hc.mono ?_;rintro ev w'⟨A,c,G',M1,M2,he,h8,c5,i8⟩;have hr:A4 (fun la p=>YA M.st M.dy M.an la p) (fun _ p=>p) (V1 (3-os) M.L1 M.L2) ⟨oi,os,ok,u,oq⟩ M.la=⟨fl,⟨i1,i2,i3,i4,D⟩,sp,st,rst⟩:=HR.out;rw[hr]at he h8 i8;exact⟨A,c,G',M1,M2,he,h8,c5,i8⟩
     obtain⟨p9,l9⟩:=Xt6 z0 m8;clear z0 b5 o5 hsd hq0 z8 l1 k9 hr0 hr m8 hnowt;go_upto_region 24 with fail
     clear e7
     go_cut [8,9,10] (fun s8 s9 s10 wx=>∃A c Y g4 f9 own' L',s8=.slice A (List.length fl) c/\s9=IP (some ⟨Y,0,none⟩)/\s10=.bool sp/\J7 wx Y 84 #[I O i1,I O i2,I O i3,I O i4,I O D]/\YM own' Y/\YF w wx R V X T tc Ap pc l6 p2 own A c fl #[I O oi,I O os,I O ok,I O u,I O oq] (VC M ⟨oi,os,ok,u,oq⟩) g4 f9 own' L')
     case first=>
      have a7:=And.intro (JX C (Z2 (J9 _ w6))) (And.intro (JX x0 (Z2 (J9 _ w6))) (And.intro (JX x1 (Z2 (J9 _ w6))) (And.intro (JX x2 (Z2 (J9 _ w6))) (And.intro (JX x3 (Z2 (J9 _ w6))) (JX x4 (Z2 (J9 _ w6)))))));refine VR (fun t=>[].contains t) (fun W=>W.cell? ⟨V,0,none⟩=some (IP (some ⟨R,0,none⟩))/\W.cell? ⟨X,0,none⟩=some (I O oi)/\W.cell? ⟨X,1,none⟩=some (I O os)/\W.cell? ⟨X,2,none⟩=some (I O ok)/\W.cell? ⟨X,3,none⟩=some (I O u)/\W.cell? ⟨X,4,none⟩=some (I O oq)) Q4 a7 (fun a7=>?_);clear x0 x1 x2 x3 x4 C;refine tM 0 ?_;refine tM 1 ?_;refine tM 2 ?_;refine tM 3 ?_;refine tM 4 ?_;refine tM 5 ?_;refine tM 6 ?_;refine SX (i:=7) (j:=12) Q4 ?_ ?_
      ·skip
       refine BD 7 rfl (fun K1 J=>?_);go_simp;refine(p9 w6.drew (Z2 Q5)).mono ?_;rintro ev w4⟨A,c,G',M1,M2,rfl,h8,c5,i8⟩;obtain⟨g4,f9,own',L',h4,ho4⟩:=Ng a5.out f2.out (Z2 (J9 _ w6)) (Y6 d7.out.1) d7.out.2 a6.out.1 a6.out.2 q2.out HR.out h8 c5 i8;have k4:=h4.cells;refine J _ _ (fun _=>k4) ?_;clear J a7;refine tM 8 ?_;refine tM 9 ?_;refine tM 10 ?_;refine tM 11 ?_;refine oM 12 fun K2 k0=>?_
       go_simp;have hq5:Bz w4 (w4.alloc (.cells #[I O 0,I O 0,I O 0,I O 0,I O 0] 84)):=Q5.alloc Q2 _;have f8:=Z5 w4 84 #[I O 0,I O 0,I O 0,I O 0,I O 0];obtain⟨Y,eY⟩:=exq w4.heap.size;have hYn4:w4.heap.size<=Y:=CB eY;obtain⟨w5,u8⟩:=exq (w4.alloc (.cells #[I O 0,I O 0,I O 0,I O 0,I O 0] 84));rw[u8]at hq5 f8|-;rw[eY]at f8|-;have h5:=h4.below hq5;have f0:=h4.newFar hYn4;have n5:Y≠V:=fun e=>by have:=Z9 h4.var;omega
       have r2:Y≠X:=fun e=>by have:=Z9 h4.box;omega
       have r1:X5 A≠some Y:=fun e=>by have:=h4.row.lt e;omega
       have r3:w.heap.size<=Y:=by have:=h4.step.1.size;omega
       refine k0 _ _ (fun _=>h5.cells) ?_;have y5:=h5.cells;clear k0 u8 eY k4;refine tM 13 ?_;refine oM 14 fun K5 k1=>?_
       refine(X0 Q8).mpr ?_;refine DY 84 _ _ rfl Y #[I O i1,I O i2,I O i3,I O i4,I O D] rfl rfl 84 #[I O 0,I O 0,I O 0,I O 0,I O 0] f8 (by show(prog.info? 84).map (·.size)=some 5;kernel_rfl) rfl J0 ?_;have l5:=BH _ _ _ #[I O i1,I O i2,I O i3,I O i4,I O D] _ f8;have k8:=UP w5 Y #[I O i1,I O i2,I O i3,I O i4,I O D];obtain⟨w9,j9⟩:=exq (w5.setRow Y #[I O i1,I O i2,I O i3,I O i4,I O D]);rw[j9]at l5 k8|-;have h6:=h5.keepY k8 f0 n5 r2 r1 r3;refine k1 _ _ (fun _=>h6.cells) ?_;have hS6:=h6.cells;clear k1 j9;simp only[Act.put];refine tM 15 ?_;refine XX Q4 ?_ _;go_wp2;go_meet;exact⟨A,c,Y,g4,f9,own',L',rfl,rfl,rfl,l5,f0,h6⟩
      skip
      refine BD 12 rfl (fun K1 J=>?_);go_simp;have l2:Bz w6 (w6.alloc (.cells #[I O 0,I O 0,I O 0,I O 0,I O 0] 84)).drew:=Z2 (Q5.alloc Q2 _);have t5:=Y6 (Z5 w6 84 #[I O 0,I O 0,I O 0,I O 0,I O 0]);obtain⟨Y,eY⟩:=exq w6.heap.size;obtain⟨w4,u7⟩:=exq ((w6.alloc (.cells #[I O 0,I O 0,I O 0,I O 0,I O 0] 84)).drew);rw[u7]at l2 t5|-;rw[eY]at t5|-;have hYf6:YM p3 Y:=fun k hk=>by have:=a5.ok.lt Y k hk;omega
      have n5:Y≠V:=fun e=>by have:=Z9 e6.1;omega
      have r2:Y≠X:=fun e=>by have:=Z9 d7.1;omega
      have r3:w.heap.size<=Y:=by have:=f2.1.size;omega
      have y7:=Z4 d7.1 l2;have k4:=And.intro (show w4.cell? ⟨V,0,none⟩=some (IP (some ⟨R,0,none⟩)) by rw[X9 (Z4 e6.1 l2)];rfl) (S0 y7);refine J _ _ (fun _=>k4) ?_;clear J u7 eY a7;refine oM 7 fun K2 k0=>?_
      go_simp;refine(p9 w4 l2).mono ?_;rintro ev w5⟨A,c,G',M1,M2,rfl,h8,c5,i8⟩;obtain⟨g4,f9,own',L',h5,ho5⟩:=Ng a5.out f2.out l2 y7 d7.out.2 a6.out.1 a6.out.2 q2.out HR.out h8 c5 i8;obtain⟨f8,f0,r1⟩:=ho5 _ _ _ t5 hYf6 n5;have y5:=h5.cells;refine k0 _ _ (fun _=>y5) ?_;clear k0 k4;refine tM 8 ?_;refine tM 9 ?_;refine tM 10 ?_;refine tM 11 ?_;refine tM 13 ?_;refine oM 14 fun K5 k1=>?_
      refine(X0 Q8).mpr ?_;refine DY 84 _ _ rfl Y #[I O i1,I O i2,I O i3,I O i4,I O D] rfl rfl 84 #[I O 0,I O 0,I O 0,I O 0,I O 0] f8 (by show(prog.info? 84).map (·.size)=some 5;kernel_rfl) rfl J0 ?_;have l5:=BH _ _ _ #[I O i1,I O i2,I O i3,I O i4,I O D] _ f8;have k8:=UP w5 Y #[I O i1,I O i2,I O i3,I O i4,I O D];obtain⟨w9,j9⟩:=exq (w5.setRow Y #[I O i1,I O i2,I O i3,I O i4,I O D]);rw[j9]at l5 k8|-;have h6:=h5.keepY k8 f0 n5 r2 r1 r3;refine k1 _ _ (fun _=>h6.cells) ?_;have hS6:=h6.cells;clear k1 j9;simp only[Act.put];refine tM 15 ?_;refine XX Q4 ?_ _;go_wp2;go_meet;exact⟨A,c,Y,g4,f9,own',L',rfl,rfl,rfl,l5,f0,h6⟩
     obtain⟨A,c,Y,cs7,AL7,own7,L7,rfl,rfl,rfl,t6,f0,s1⟩:=hcut;obtain⟨w7,u9⟩:=exq wc;rw[u9]at t6 s1|-;obtain⟨m6,b0⟩:=Xt6 (And.intro t6 f0) s1;clear t6 f0 s1 u9 C x0 x1 x2 x3 x4 p9 a5 e6 d7 f2;have e5:Hid ((S6 M ⟨oi,os,ok,u,oq⟩).left=⟨i1,i2,i3,i4,D⟩/\(S6 M ⟨oi,os,ok,u,oq⟩).stop=sp):=J6 (by rw[HR.out];exact⟨rfl,rfl⟩);have j3:Hid ((VC M ⟨oi,os,ok,u,oq⟩).now=M.now/\(VC M ⟨oi,os,ok,u,oq⟩).tk=M.tk):=J6 ⟨rfl,rfl⟩;obtain⟨m1,r9⟩:=exq (VC M ⟨oi,os,ok,u,oq⟩);rw[r9]at b0 j3;have u2:=J6 r9;clear r9;obtain⟨C,x0,x1,x2,x3,x4⟩:=b0.cells;obtain⟨y0,y1,y2,y3,y4⟩:=S0 m6.1;clear x0 x1 x3 x4 y0 y1 y2 y3
     by_cases e3:0<D/\ok≠2
     ·have j5:Hid (T5 M ⟨oi,os,ok,u,oq⟩=S3 m1 ⟨i1,i2,i3,i4,D⟩):=J6 (by
       unfold T5;rw[e5.1,X0 ⟨e3.1,by show i3≠2;rw[u0.out];exact e3.2⟩,u2.out])
      have d5:decide ((0:Int)<D)=true:=V7 e3.1;have d2:=XQ e3.2;have d5':=e3.1;clear e3;have k2:=Fj (b0.mk_.below (Z2 (J9 _ w7))) ⟨i1,i2,i3,i4,D⟩ HLe;unfold V6 at k2;dsimp only at k2;obtain⟨re,l3⟩:=exq (KE L7 ⟨i1,i2,i3,i4,D⟩);rw[l3]at k2;have e4:=J6 k2;have a7:=And.intro (JX C (Z2 (J9 _ w7))) (S0 (Y6 m6.1));clear k2 l3;go_upto_region 26 with fail
      refine VR (fun t=>[].contains t) (fun W=>W.cell? ⟨V,0,none⟩=some (IP (some ⟨R,0,none⟩))/\W.cell? ⟨Y,0,none⟩=some (I O i1)/\W.cell? ⟨Y,1,none⟩=some (I O i2)/\W.cell? ⟨Y,2,none⟩=some (I O i3)/\W.cell? ⟨Y,3,none⟩=some (I O i4)/\W.cell? ⟨Y,4,none⟩=some (I O D)) Q4 a7 (fun a7=>?_);refine tM 0 ?_;refine tM 1 ?_;refine tM 2 ?_;refine tM 3 ?_;refine oM 4 fun K1 J=>?_
      go_simp;refine e4.mono ?_;rintro ev w8⟨rfl,cs8,AL8,own8,L8,x8,s3⟩;have o3:=(b0.below (Z2 (J9 _ w7))).turn x8 s3;have hy8:=V0 (Y6 m6.1) s3.1 (fun⟨k,hk⟩=>m6.2 k hk);have y6:=And.intro o3.cells.1 (S0 hy8);refine J _ _ (fun _=>y6) ?_;have p8:=J6 o3;clear x8 s3 J a7 e4 y6 hy8 b0 C x2 y4;refine XX Q4 ?_ _;have C:=o3.cells.1;clear o3
      cases sp with
      |true=>
       have k5:=Bf (p8.mk_.at_) (by show -1000000000000<=(S3 m1 ⟨i1,i2,i3,i4,D⟩).now/\(S3 m1 ⟨i1,i2,i3,i4,D⟩).now<=1000000000000;have h1:(S3 m1 ⟨i1,i2,i3,i4,D⟩).now=m1.now:=rfl;rw[h1,j3.1];exact m0.1) (by show 0<=(S3 m1 ⟨i1,i2,i3,i4,D⟩).tk/\(S3 m1 ⟨i1,i2,i3,i4,D⟩).tk<=1000000;have h1:(S3 m1 ⟨i1,i2,i3,i4,D⟩).tk=m1.tk:=rfl;rw[h1,j3.2];exact m0.2);have q6:=J6 k5;clear k5;go_wp2_with fail
       refine q6.mono ?_;rintro ev w9⟨rfl,l4⟩;have q3:=J6 l4;clear l4;go_wp2;go_ret2;have e9:XP M ⟨oi,os,ok,u,oq⟩=BU (S3 m1 ⟨i1,i2,i3,i4,D⟩):=by unfold XP;rw[e5.2,X0 rfl,j5.out]
       rw[a1.1,a1.2.1,a1.2.2,l9.out,a2.1,a2.2,e9];exact p8.vol HF q3 rfl
      |false=>
       go_wp2;go_ret2;have e9:XP M ⟨oi,os,ok,u,oq⟩=S3 m1 ⟨i1,i2,i3,i4,D⟩:=by unfold XP;rw[e5.2,J8 Q1,j5.out]
       rw[a1.1,a1.2.1,a1.2.2,l9.out,a2.1,a2.2,e9];exact p8.fin HF rfl
     have j5:Hid (T5 M ⟨oi,os,ok,u,oq⟩=m1):=J6 (by unfold T5;rw[e5.1,J8 (fun x=>e3 ⟨x.1,by have h1:=x.2;intro e;apply h1;show i3=2;rw[u0.out];exact e⟩),u2.out])
     have n7:¬(0:Int)<D\/ok=2:=by
      by_cases h1:(0:Int)<D
      ·by_cases h2:ok=2
       ·exact .inr h2
       exact absurd ⟨h1,h2⟩ e3
      exact .inl h1
     clear e3;go_upto_region 25 with fail
     go_cut [133] (fun s133 wx=>s133=.bool false/\wx=w7)
     case first=>
      by_cases h1:(0:Int)<D
      ·have d1:=V7 h1
       have d2:=KN (n7.resolve_left (fun x=>x h1));clear n7;go_wp2;go_meet;exact⟨rfl,rfl⟩
      have d1:=V9 h1;clear n7;go_wp2;go_meet;exact⟨rfl,rfl⟩
     obtain⟨rfl,rfl⟩:=hcut;clear n7 x2 y4
     cases sp with
     |true=>
      have k5:=Bf (b0.mk_.at_) (by show -1000000000000<=(m1).now/\(m1).now<=1000000000000;have h1:(m1).now=m1.now:=rfl;rw[h1,j3.1];exact m0.1) (by show 0<=(m1).tk/\(m1).tk<=1000000;have h1:(m1).tk=m1.tk:=rfl;rw[h1,j3.2];exact m0.2);have q6:=J6 k5;clear k5;go_wp2_with fail
      refine q6.mono ?_;rintro ev w9⟨rfl,l4⟩;have q3:=J6 l4;clear l4;go_wp2;go_ret2;have e9:XP M ⟨oi,os,ok,u,oq⟩=BU (m1):=by unfold XP;rw[e5.2,X0 rfl,j5.out]
      rw[a1.1,a1.2.1,a1.2.2,l9.out,a2.1,a2.2,e9];exact b0.vol HF q3 rfl
     |false=>
      go_wp2;go_ret2;have e9:XP M ⟨oi,os,ok,u,oq⟩=m1:=by unfold XP;rw[e5.2,J8 Q1,j5.out]
      rw[a1.1,a1.2.1,a1.2.2,l9.out,a2.1,a2.2,e9];exact b0.fin HF rfl
    have d3:=XQ i6;have a2:Hid (UR (B7 m ⟨oi,os,ok,u,oq⟩) ⟨oi,os,ok,u,oq⟩=S3 (B7 m ⟨oi,os,ok,u,oq⟩) ⟨oi,os,ok,u,oq⟩/\AG (B7 m ⟨oi,os,ok,u,oq⟩) ⟨oi,os,ok,u,oq⟩=[]):=by
     have e1:¬((⟨oi,os,ok,u,oq⟩:X6).kind=4/\(B7 m ⟨oi,os,ok,u,oq⟩).ph≠5):=fun x=>a9 ⟨x.1,by have:=x.2;rw[show(B7 m ⟨oi,os,ok,u,oq⟩).ph=ph from d0.out]at this;exact this⟩
     have e2:(B7 m ⟨oi,os,ok,u,oq⟩).ph≠3:=fun x=>i6 (d0.symm.trans x)
     refine J6 ⟨?_,?_⟩
     ·unfold UR;rw[J8 e1,X0 e2]
     unfold AG;rw[J8 e1,X0 e2]
    clear a9 g7 i6;have b5:JV ⟨oi,os,ok,u,oq⟩:=by have h1:=t8.out;rw[g3.out]at h1;exact h1
    have e4:=J6 (Fj (a5.below (Z2 (J9 _ w6))) ⟨oi,os,ok,u,oq⟩ b5);unfold V6 at e4;dsimp only at e4;obtain⟨re,l3⟩:=exq (KE L ⟨oi,os,ok,u,oq⟩);rw[l3]at e4;have a7:=And.intro (JX C (Z2 (J9 _ w6))) (And.intro (JX x0 (Z2 (J9 _ w6))) (And.intro (JX x1 (Z2 (J9 _ w6))) (And.intro (JX x2 (Z2 (J9 _ w6))) (And.intro (JX x3 (Z2 (J9 _ w6))) (JX x4 (Z2 (J9 _ w6)))))));clear l3 b5;go_upto_region 22 with fail
    refine VR (fun t=>[].contains t) (fun W=>W.cell? ⟨V,0,none⟩=some (IP (some ⟨R,0,none⟩))/\W.cell? ⟨X,0,none⟩=some (I O oi)/\W.cell? ⟨X,1,none⟩=some (I O os)/\W.cell? ⟨X,2,none⟩=some (I O ok)/\W.cell? ⟨X,3,none⟩=some (I O u)/\W.cell? ⟨X,4,none⟩=some (I O oq)) Q4 a7 (fun a7=>?_);refine tM 0 ?_;refine tM 1 ?_;refine tM 2 ?_;refine tM 3 ?_;refine oM 4 fun K1 J=>?_
    go_simp;refine e4.mono ?_;rintro ev w7⟨rfl,cs7,AL7,own7,L7,k3,f6⟩;have hvx7:=And.intro (show w7.cell? ⟨V,0,none⟩=some (IP (some ⟨R,0,none⟩)) by rw[X9 (V0 (Y6 e6.1) f6.1 (fun⟨k,hk⟩=>e6.2 k hk))];rfl) (S0 (V0 (Y6 d7.1) f6.1 (fun⟨k,hk⟩=>d7.2 k hk)));refine J _ _ (fun _=>hvx7) ?_;obtain⟨b0,HO7⟩:=Xt6 k3 f6;clear k3 f6 x0 x1 x2 x3 x4 C e7 J a7 e4 hvx7;refine XX Q4 ?_ _;go_wp2;go_ret2;rw[a1.1,a1.2.1,a1.2.2,a2.1,a2.2];have h9:=(f2.trans (S5 (Z2 (J9 _ w6)))).trans (HO7.bstep (fun i=>KL));exact CU ⟨_,b0.at_,⟨h9.1.mono (fun i hi=>(HF i).2 hi),fun i hi=>(h9.2 i hi).imp (fun e=>(HF i).2 e) id⟩⟩ rfl
section
open Go
def LL(w:World)(d:Nat)(G:Nat->Prop)(s:DS):Prop:=
 ∃A c,J7 w d 51 (AC A c s none)/\X8 w A s.rows.length c 78 2 (X7 BX s.rows)/\(∀i,X5 A=some i->i≠d)/\∀i,G i↔i=d\/X5 A=some i
def LM(w:World)(d:Nat)(G:Nat->Prop)(m:Z6):Prop:=
 ∃v0 v1 v2 v3 v4 v5 e F,J7 w d 51 #[v0,v1,v2,v3,v4,v5,pA e]/\N4 w e F m/\¬F d/\∀i,G i↔i=d\/F i
def JP(w:World)(d:Nat)(G:Nat->Prop)(k:Nat)(s:DS):Prop:=
 match s.e with
 |none=>LL w d G s
 |some m=>LM w d G m/\JU m k/\m.ids.length<=k
def EK(w w':World)(d:Nat)(G:Nat->Prop)(k:Nat)(s:DS):Prop:=∃G',JP w' d G' k s/\U2 w w' G G'
section
variable {w w':World} {d k:Nat} {G:Nat->Prop} {s:DS} {m:Z6}
theorem LL.below(h:LL w d G s)(i:Bz w w'):LL w' d G s:=by obtain⟨A,c,h1,h2,j,u⟩:=h;exact⟨A,c,h1.keep i,h2.below i,j,u⟩
theorem LM.below(h:LM w d G m)(i:Bz w w'):LM w' d G m:=by obtain⟨y,C,D,E,J,N,e,F,h1,h2,j,u⟩:=h;exact⟨y,C,D,E,J,N,e,F,h1.keep i,h2.below i,j,u⟩
theorem JP.n(h:JP w d G k s)(i:s.e=none):LL w d G s:=by unfold JP at h;rw[i]at h;exact h
theorem JP.e(h:JP w d G k s)(i:s.e=some m):LM w d G m/\JU m k/\m.ids.length<=k:=by unfold JP at h;rw[i]at h;exact h
theorem LL.at_(h:LL w d G s)(i:s.e=none):JP w d G k s:=by unfold JP;rw[i];exact h
theorem LM.at_(h:LM w d G m)(j:JU m k/\m.ids.length<=k)(i:s.e=some m):JP w d G k s:=by unfold JP;rw[i];exact⟨h,j⟩
theorem JP.below(h:JP w d G k s)(j:Bz w w'):JP w' d G k s:=by
 cases i:s.e with
 |none=>exact(h.n i |>.below j).at_ i
 |some m=>exact((h.e i).1.below j).at_ (h.e i).2 i
theorem JP.up(h:JP w d G k s):JP w d G (k+1) s:=by
 cases i:s.e with
 |none=>exact(h.n i).at_ i
 |some m=>exact(h.e i).1.at_ ⟨(h.e i).2.1.up,by have:=(h.e i).2.2;omega⟩ i
theorem JP.cell6(h:JP w d G k s):∃p,w.cell? (aD d 6)=some (.pointer p)/\p.isSome=s.e.isSome:=by
 cases i:s.e with
 |none=>
  obtain⟨A,c,h1,-⟩:=h.n i;exact⟨none,by rw[X9 h1];rfl,rfl⟩
 |some m=>
  obtain⟨j,u,y,C,D,E,e,F,h1,-⟩:=(h.e i).1;exact⟨sA e,by rw[X9 h1];rfl,rfl⟩
theorem JP.to(h:JP w d G k s)(i:Bz w w'):EK w w' d G (k+1) s:=⟨G,(h.below i).up,S5 i⟩
theorem EK.pre{w0}(i:Bz w0 w)(h:EK w w' d G k s):EK w0 w' d G k s:=by obtain⟨G',h1,h2⟩:=h;exact⟨G',h1,(S5 i).trans h2⟩
theorem EK.then_{w2}(h:EK w w' d G k s)(i:Bz w' w2):EK w w2 d G k s:=by obtain⟨G',h1,h2⟩:=h;exact⟨G',h1.below i,h2.trans (S5 i)⟩
theorem LM.eng(h:LM w d G m):∃e F,w.cell? (aD d 6)=some (pA e)/\N4 w e F m/\¬F d/\∀w' m',F3 w w' e F m'->∃G',LM w' d G' m'/\U2 w w' G G':=by
 obtain⟨Z,v1,v2,v3,v4,v5,e,F,h1,h2,u,y⟩:=h;refine⟨e,F,by rw[X9 h1];rfl,h2,u,fun w' m' ht=>?_⟩;obtain⟨F',J,D,E⟩:=ht;refine⟨fun i=>i=d\/F' i,⟨Z,v1,v2,v3,v4,v5,e,F',V0 h1 D u,J,fun N=>?_,fun i=>KL⟩,D.mono (fun i C=>(y i).2 (.inr C)),fun i C=>?_⟩
 ·obtain j|j:=E d N
  ·exact u j
  have:=h1.lt;omega
 obtain j|j:=C
 ·exact .inl ((y i).2 (.inl j))
 exact(E i j).imp (fun x=>(y i).2 (.inr x)) id
