/- Parts. -/
import Derived.Test.YtfoikonjjojkaaaGreatDoorZt19
set_option linter.unusedVariables false
set_option maxRecDepth 100000
set_option maxHeartbeats 8000000
open Go.Proofs.Tryz
open Go.Value renaming int→I,pointer→IP
open Go.IntKind renaming i64→O
namespace Go.Proofs.YtfoikonjjojkaaaGreatDoor
open Go.RowKit
structure ZE(w:World)(own:Nat->Nat->Prop)(A:Option Addr)(n c:Nat)(t:TypeId)(sz:Nat)(xs:List Value):Prop where
 row:X8 w A n c t sz xs
 far:∀g,X5 A=some g->∀k,¬own g k
theorem ZE.step{w w' own own' A n c sz t xs}(h:ZE w own A n c t sz xs)(j:U3 w w' own own'):ZE w' own' A n c t sz xs:=
 ⟨h.row.keeps j.1 (fun g i⟨k,hk⟩=>h.far g i k hk),fun g i k hk=>by
  obtain e|e:=j.2 g k hk
  ·exact h.far g i k e
  have:=h.row.lt i;omega⟩
theorem ZE.new_{w w' own A n c sz t xs}(h:X8 w' A n c t sz xs)(u:NJ w own)(j:∀g,X5 A=some g->w.heap.size<=g):ZE w' own A n c t sz xs:=
 ⟨h,fun g i k hk=>by have:=u.lt g k hk;have:=j g i;omega⟩
theorem ZE.below{w w' own A n c sz t xs}(h:ZE w own A n c t sz xs)(i:Bz w w'):ZE w' own A n c t sz xs:=⟨h.row.below i,h.far⟩
theorem ZE.nil w own t sz:ZE w own none 0 0 t sz []:=⟨QY _ _ _ _,fun g i=>by simp[X5]at i⟩
def Je(w w':World)(e tb bb bk im:Nat)(T:Option Addr)(tc:Nat)(Ap:Option Addr)(pc:Nat)(es:List MapEntry)(mc:Nat)(own:Nat->Nat->Prop)(Af:Option Addr)(cf:Nat)(F:List C6)(B2:Nat)(AL:Option Addr)(n cl:Nat)(l:List X6)(m:Z6)(Y:List X6):Prop:=
 ∃cs Al lc lv bu se G own',U8 w' e cs tb bb bk im T tc Al lc lv bu se Ap pc es mc G own' (fun s k=>C4 s k Y) m/\U3 w w' own own'/\ZE w' own' Af F.length cf 127 4 (X7 QT F)/\(J7 w' B2 3 #[.int .i64 1,.int .i64 2]/\∀k,¬own' B2 k)/\ZE w' own' AL n cl 84 5 (X7 U0 l)
theorem TM{w w' own own' B2 t us}(h:J7 w B2 t us/\∀k,¬own B2 k)(i:U3 w w' own own'):J7 w' B2 t us/\∀k,¬own' B2 k:=
 ⟨V0 h.1 i.1 (fun⟨k,hk⟩=>h.2 k hk),fun k hk=>by
  obtain e|e:=i.2 B2 k hk
  ·exact h.2 k e
  have:=Z9 h.1;omega⟩
theorem Tf{w g t a b}(h:J7 w g t #[a,b]):w.cell? (aD g 0)=some a/\w.cell? (aD g 1)=some b:=⟨by rw[X9 h];rfl,by rw[X9 h];rfl⟩
theorem Tg{Y x}s k:C4 s k (Y++[x])=C4 s k Y+if x.side=s/\T8 x=k then 1*x.qty else 0:=by rw[NR];unfold C4;simp
structure Ys(K1 K2 Y:List X6):Prop where
 right:Yq Y
 few:Y.length<=100
theorem Kx l:(M0 l).length<=l.length:=NF _ _
theorem Jh1{K1 K2}(h:E5 K1 K2)k:Ys K1 K2 (M0 (K1.take k)):=by have i:=h.cnt;rw[B6]at i;refine⟨fun o j=>EH h o (T9 _ (CV (Kw j))),?_⟩;have h1:=Kx (K1.take k);rw[R7]at h1;omega
theorem Jh2{K1 K2}(h:E5 K1 K2)k:Ys K1 K2 (M0 K1++M0 (K2.take k)):=by
 have j:=h.cnt;rw[B6]at j;refine⟨fun o i=>?_,?_⟩
 ·obtain i|i:=B8.1 i
  ·exact EH h o (T9 _ (Kw i))
  exact EH h o (JJ _ (CV (Kw i)))
 have h1:=Kx (K2.take k);have h2:=Kx K1;rw[R7]at h1;rw[B6];omega
theorem Ys.small{K1 K2 Y}(h:Ys K1 K2 Y){lv bu se}(hk:CK lv)(i:UD lv bu se (fun s k=>C4 s k Y)):MT lv bu se:=by have h2:=h.few;exact(i.mild hk (fun s k=>by have:=Qb (s:=s) (k:=k) h.right;omega) (by have:=i.few hk;omega)).small
theorem U7{w w' p v}(h:w.cell? p=some v)(i:Bz w w'):w'.cell? p=some v:=(i.cell (U5 _ _ h)).trans h
theorem TD{w g a b c}(h:J7 w g 99 #[I O a,I O b,I O c]):w.cell? (aD g 0)=some (I O a)/\w.cell? (aD g 1)=some (I O b)/\w.cell? (aD g 2)=some (I O c):=
 ⟨by rw[X9 h];rfl,by rw[X9 h];rfl,by rw[X9 h];rfl⟩
theorem Vu{w e F m}(h:D8 w e F m)(s7:1<=m.la/\m.la<=1000000):Calls prog 159 #[pA e] w fun ev w'=>∃A c Fs,ev=.returned (.slice A (List.length Fs) c)/\XD m Fs/\X8 w' A Fs.length c 127 4 (X7 QT Fs)/\(∀g,X5 A=some g->w.heap.size<=g)/\∃F',D8 w' e F' (ZD m)/\U2 w w' F F'/\∀g,X5 A=some g->¬F' g:=by
 obtain⟨cs,tb,bb,bk,im,T,tc,Al,lc,lv,bu,se,Ap,pc,es,mc,G,own,hM,hF⟩:=h;have s5:=Qf (m:=m) hM.book.lists s7;have c7:=hM.cell hM.ec.c7;obtain⟨HM,HF,o6⟩:=Xt7 hM hF s5;obtain⟨⟨t0,u,t2⟩,ht⟩:∃q,M5 m=q:=⟨_,rfl⟩;have HT:=J6 ht;have j6:=fun W hW=>Dh hM s7 W hW
 rw[ht]at j6;unfold QW at j6;dsimp only at j6;have HW:=J6 j6;clear hM hF s5 j6 ht;go_enter func159,ntmps159
 go_upto_region 2 with fail
 go_cut [4] (fun s4 wx=>∃g,s4=IP (some ⟨g,0,none⟩)/\J7 wx g 99 #[I O t0,I O u,I O t2]/\Bz w wx/\w.heap.size<=g)
 case first=>
  have o4:=J6 HM.bands;have a7:Bz w w.drew:=Z2 Q5;refine VR (fun t=>[10].contains t) (fun W=>W.cell? ⟨e,7,none⟩=some (IP (some ⟨bb,0,none⟩))) Q4 (show w.drew.cell? ⟨e,7,none⟩=some (IP (some ⟨bb,0,none⟩))from c7) (fun a6=>?_);obtain⟨w0,p6⟩:=exq w.drew;rw[p6]at a7 a6|-;clear p6;refine tM 0 ?_;refine tM 1 ?_;refine tM 2 ?_;refine tM 3 ?_;refine tM 4 ?_;refine tM 5 ?_;refine tM 6 ?_;refine SX (i:=7) (j:=9) Q4 ?_ ?_
  ·skip
   refine BD 7 rfl (fun K1 b8=>?_);go_simp
   go_at_call 154
   refine(Qj bb m.st m.dy m.an m.la _ (Z4 o4 a7)).mono ?_;rintro ev wx⟨rfl,rfl⟩;refine b8 _ _ (fun _=>a6) ?_;clear b8;refine SX (i:=8) (j:=9) Q4 ?_ ?_
   ·skip
    refine BD 8 rfl (fun K2 b9=>?_);go_simp
    go_at_call 153
    refine(HW _ a7).mono ?_;rintro ev w2⟨rfl,t6⟩;have l7:=a7.trans (t6.mono a7.size);have r5:=U7 a6 t6;refine b9 _ _ (fun _=>r5) ?_;clear b9;refine oM 9 fun K3 q8=>?_
    go_simp;have g2:Bz w2 (w2.alloc (.cells #[I O 0,I O 0,I O 0] 99)):=Q5.alloc Q2 _;have k4:=Z5 w2 99 #[I O 0,I O 0,I O 0];have m3:w.heap.size<=w2.heap.size:=l7.size;obtain⟨g3,p3⟩:=exq w2.heap.size;obtain⟨w3,p8⟩:=exq (w2.alloc (.cells #[I O 0,I O 0,I O 0] 99));rw[p8]at g2 k4|-;have r8:=l7.trans (g2.mono l7.size);have d4:=U7 r5 g2;rw[p3]at k4 m3|-;clear p8 p3;refine q8 _ _ (fun _=>d4) ?_;clear q8;refine oM 10 fun K4 q9=>?_
    refine(X0 Q8).mpr ?_;refine DY 99 _ _ rfl (g3) #[I O t0,I O u,I O t2] rfl rfl 99 #[I O 0,I O 0,I O 0] k4 (by show(prog.info? 99).map (·.size)=some 3;kernel_rfl) rfl J0 ?_;have u3:=BH _ _ _ #[I O t0,I O u,I O t2] _ k4;have k2:=UP w3 (g3) #[I O t0,I O u,I O t2];obtain⟨w4,p9⟩:=exq (w3.setRow (g3) #[I O t0,I O u,I O t2]);rw[p9]at u3 k2|-;clear p9;refine q9 _ _ (fun e=>absurd e Q1) ?_;clear q9;have l8:=r8.trans (k2.below (fun i e=>e▸m3) r8.size);simp only[Act.put];refine XX Q4 ?_ _;go_wp2;go_meet;exact⟨_,rfl,u3,l8,m3⟩
   skip
   refine BD 9 rfl (fun K5 r0=>?_);go_simp;have n2:Bz w0 (w0.alloc (.cells #[I O 0,I O 0,I O 0] 99)):=Q5.alloc Q2 _;have n5:=Z5 w0 99 #[I O 0,I O 0,I O 0];have m4:w.heap.size<=w0.heap.size:=a7.size;obtain⟨g5,p4⟩:=exq w0.heap.size;obtain⟨w5,q3⟩:=exq (w0.alloc (.cells #[I O 0,I O 0,I O 0] 99));rw[q3]at n2 n5|-;have l9:=a7.trans (n2.mono a7.size);have r6:=U7 a6 n2;rw[p4]at n5 m4|-;clear q3 p4;refine r0 _ _ (fun _=>r6) ?_;clear r0;refine oM 8 fun K6 r1=>?_
   go_simp
   go_at_call 153
   refine(HW _ l9).mono ?_;rintro ev w6⟨rfl,n3⟩;have r9:=l9.trans (n3.mono l9.size);have x6:=U7 r6 n3;refine r1 _ _ (fun _=>x6) ?_;clear r1;have u5:=Z4 n5 n3;refine oM 10 fun K7 r2=>?_
   refine(X0 Q8).mpr ?_;refine DY 99 _ _ rfl (g5) #[I O t0,I O u,I O t2] rfl rfl 99 #[I O 0,I O 0,I O 0] u5 (by show(prog.info? 99).map (·.size)=some 3;kernel_rfl) rfl J0 ?_;have u4:=BH _ _ _ #[I O t0,I O u,I O t2] _ u5;have k3:=UP w6 (g5) #[I O t0,I O u,I O t2];obtain⟨w7,f8⟩:=exq (w6.setRow (g5) #[I O t0,I O u,I O t2]);rw[f8]at u4 k3|-;clear f8;refine r2 _ _ (fun e=>absurd e Q1) ?_;clear r2;have f0:=r9.trans (k3.below (fun i e=>e▸m4) r9.size);simp only[Act.put];refine XX Q4 ?_ _;go_wp2;go_meet;exact⟨_,rfl,u4,f0,m4⟩
  skip
  refine BD 9 rfl (fun K8 r3=>?_);go_simp;have n4:Bz w0 (w0.alloc (.cells #[I O 0,I O 0,I O 0] 99)):=Q5.alloc Q2 _;have n6:=Z5 w0 99 #[I O 0,I O 0,I O 0];have m5:w.heap.size<=w0.heap.size:=a7.size;obtain⟨g8,p5⟩:=exq w0.heap.size;obtain⟨w8,q5⟩:=exq (w0.alloc (.cells #[I O 0,I O 0,I O 0] 99));rw[q5]at n4 n6|-;have N:=a7.trans (n4.mono a7.size);have l6:=U7 a6 n4;rw[p5]at n6 m5|-;clear q5 p5;refine r3 _ _ (fun _=>l6) ?_;clear r3;refine oM 7 fun K9 a5=>?_
  go_simp
  go_at_call 154
  refine(Qj bb m.st m.dy m.an m.la _ (Z4 o4 N)).mono ?_;rintro ev wx⟨rfl,rfl⟩;refine a5 _ _ (fun _=>l6) ?_;clear a5;refine oM 8 fun y7 q6=>?_
  go_simp
  go_at_call 153
  refine(HW _ N).mono ?_;rintro ev v1⟨rfl,n1⟩;have r7:=N.trans (n1.mono N.size);have x5:=U7 l6 n1;refine q6 _ _ (fun _=>x5) ?_;clear q6;have u6:=Z4 n6 n1;refine oM 10 fun y8 q7=>?_
  refine(X0 Q8).mpr ?_;refine DY 99 _ _ rfl (g8) #[I O t0,I O u,I O t2] rfl rfl 99 #[I O 0,I O 0,I O 0] u6 (by show(prog.info? 99).map (·.size)=some 3;kernel_rfl) rfl J0 ?_;have u2:=BH _ _ _ #[I O t0,I O u,I O t2] _ u6;have s6:=UP v1 (g8) #[I O t0,I O u,I O t2];obtain⟨z5,p7⟩:=exq (v1.setRow (g8) #[I O t0,I O u,I O t2]);rw[p7]at u2 s6|-;clear p7;refine q7 _ _ (fun e=>absurd e Q1) ?_;clear q7;have x7:=r7.trans (s6.below (fun i e=>e▸m5) r7.size);simp only[Act.put];refine XX Q4 ?_ _;go_wp2;go_meet;exact⟨_,rfl,u2,x7,m5⟩
 obtain⟨gq,rfl,hq,hb,hg⟩:=hcut;obtain⟨d8,HQ,HB,HG⟩:=Xt8 (HM.below hb) hq hb hg;clear hq hb hg c7 HW;obtain⟨K1,b8⟩:=exq (if 0<u then Y3 m.L1 u else m.L1);obtain⟨K2,b9⟩:=exq (if 0<u then Y3 m.L2 u else m.L2);have HK:=J6 (And.intro b8 b9);have t9:EU m m.L1=M0 K1:=by unfold EU;rw[HT.out,<-b8];rfl
 have u0:EU m m.L2=M0 K2:=by unfold EU;rw[HT.out,<-b9];rfl
 have o9:=J6 (And.intro t9 u0);clear t9 u0;obtain⟨q0,q1,q2⟩:=TD HQ;go_upto_if 22 with fail
 go_cut [3] (fun s3 wx=>∃Af cf Fs,s3=.slice Af (List.length Fs) cf/\XD m Fs/\(∀g,X5 Af=some g->w.heap.size<=g)/\∃G' own',U8 wx e cs tb bb bk im T tc Al lc lv bu se Ap pc es mc G' own' (fun s k=>C4 s k (P1 m)) {m with L1:=K1,L2:=K2,an:=S8 m m.an,la:=S8 m m.la}/\U3 w wx own own'/\ZE wx own' Af Fs.length cf 127 4 (X7 QT Fs))
 case first=>
  by_cases h1:0<u
  ·have d1:=V7 h1
   rw[X0 h1]at b8 b9;subst b8 b9;have hf:=o6.out (by rw[HT.out];exact h1);rw[HT.out]at hf;dsimp only at hf;have s2:=Qn2 Mi wc.drew bk G m.L1 m.L2 (d8.below (Z2 (J9 _ wc))).book t0 u Q0 hf.1 hf.2.1;obtain⟨o5,v3,H1⟩:=Xt7 s2 hf h1;have c8:=d8.cell d8.ec.c8;clear s2 hf;go_wp2_with fail
   refine VR (fun t=>[].contains t) (fun W=>W.cell? ⟨e,8,none⟩=some (IP (some ⟨bk,0,none⟩))/\W.cell? ⟨gq,0,none⟩=some (I O t0)/\W.cell? ⟨gq,1,none⟩=some (I O u)) Q4 ⟨c8,q0,q1⟩ (fun a6=>?_);refine tM 0 ?_;refine tM 1 ?_;refine tM 2 ?_;refine tM 3 ?_;refine tM 4 ?_;refine tM 5 ?_;refine tM 6 ?_;refine tM 7 ?_;refine oM 8 fun K9 a5=>?_
   go_simp;refine o5.mono ?_;rintro ev w3⟨Fs,Af,cf,G3,rfl,t5,s8,g0⟩;obtain⟨y,J⟩:=(d8.below (Z2 (J9 _ wc))).bookStep g0.book g0.step;have g1:¬∃k,own gq k:=fun⟨k,hk⟩=>by have:=HM.ok.lt gq k hk;have:=HG.out;omega
   have g2:=V0 (Y6 HQ) J.1 g1;have t7:ZE w3 (KQ wc.drew own G3 4) Af (List.length Fs) cf 127 4 (X7 QT Fs):=⟨g0.row,fun g hg k hk=>by
    have h1:=g0.fpA g hg;obtain h2|h2:=hk
    ·have h3:=d8.ok.lt g k h2
     have h4:wc.heap.size<=g:=h1.2;omega
    exact h1.1 h2.2.1⟩
   have i9:∀g,X5 Af=some g->w.heap.size<=g:=fun g hg=>U4 HB.size (g0.fpA g hg).2
   have s1:=y.bands;have k1:=Xk4 bb m.st m.dy m.an m.la t0 w3.drew (Y6 s1);have b2:JZ t0 1=true:=by rw[RD];have:=v3.out;omega
   rw[b2]at k1;simp only[if_true]at k1;have v4:=J6 k1;have m0:=y.cell y.ec.c8;obtain⟨d0,C,v6,l1,v5⟩:=Xt9 y J t7 i9 (And.intro t5 s8);have c7:=y.cell y.ec.c7;clear q0 q1 q2;obtain⟨q0,q1,q2⟩:=TD g2;clear y J g2 t7 i9 s1 k1 b2 t5 s8 g0 g1 c8 o5;refine a5 _ _ (fun _=>⟨m0,q0,q1⟩) ?_;have d4:w3.cell? ⟨e,8,none⟩=some (IP (some ⟨bk,0,none⟩))/\w3.cell? ⟨gq,0,none⟩=some (I O t0)/\w3.cell? ⟨gq,1,none⟩=some (I O u):=⟨m0,q0,q1⟩;clear a5 a6 m0;refine tM 9 ?_;refine tM 10 ?_;refine tM 11 ?_;refine tM 12 ?_;refine XX Q4 ?_ _;clear d4;go_wp2_with fail
   go_still_tail 6,Q4
   change wpList _ _ _ _ _ w3.drew;go_wp2_with fail
   refine v4.mono ?_;rintro ev w4⟨rfl,l8,k2⟩;have x4:=d0.below (Z2 (J9 _ w3));obtain⟨x3,s9⟩:=U8.bandsTo x4 l8 k2;clear q0 q1 q2 c7;go_wp2;go_meet;have ep:∀p,S8 m p=t0:=fun p=>by unfold S8;rw[HT.out,X0 (by have:=H1.out;show 0<u;omega)]
   have od:=(v6.below (Z2 (J9 _ w3)));refine⟨Af,cf,Fs,rfl,?_,l1,_,_,by rw[ep,ep];exact x3,((((N0 HB).trans (N0 (Z2 (J9 _ wc)))).trans C).trans (N0 (Z2 (J9 _ w3)))).trans s9,od.step s9⟩;unfold XD;rw[HT.out,X0 (by have:=H1.out;show 0<u;omega)];exact v5
  have d1:=V9 h1;rw[J8 h1]at b8 b9;subst b8 b9;have H1:=J6 h1;go_wp2;go_meet;have ep:∀p,S8 m p=p:=fun p=>by unfold S8;rw[HT.out,J8 (by have:=H1.out;show¬0<u;omega)]
  refine⟨none,0,[],rfl,?_,fun g hg=>by simp[X5]at hg,_,_,by rw[ep,ep];exact d8,N0 HB,ZE.nil _ _ _ _⟩;unfold XD;rw[HT.out,J8 (by have:=H1.out;show¬0<u;omega)]
 obtain⟨Af,cf,Fs,rfl,u1,i9,G5,y9,e6,t3,t8⟩:=hcut;obtain⟨v7,l1,o7,o8⟩:=Xt8 u1 i9 t3 t8;have b5:Hid (E5 K1 K2):=J6 e6.book.lists;obtain⟨r4,t4⟩:=e6.indNil;obtain⟨c9,v8,v9⟩:=e6.ind.cells;have f9:=e6.frozen 9;have x1:=e6.frozen 10;have x2:=e6.frozen 11;obtain⟨j9,k0⟩:=Xt6 r4 t4;clear q0 q1 q2 u1 i9 t3 t8 e6 r4 t4 d8 HQ HB HG o6 b8 b9;go_upto_region 7 with fail
 obtain⟨w6,q4⟩:=exq (((wc.setCell ⟨e,9,none⟩ (.slice none 0 0)).setCell ⟨e,10,none⟩ (I O 0)).setCell ⟨e,11,none⟩ (I O 0));rw[q4]at j9 k0|-;clear q4 c9 v8 v9 f9 x1 x2;have f0:Bz w6 (w6.alloc (.cells #[I O 1,I O 2] 3)):=(J9 _ w6).alloc Q2 _;have d3:=Z5 w6 3 #[I O 1,I O 2];obtain⟨w7,f8⟩:=exq (w6.alloc (.cells #[I O 1,I O 2] 3));obtain⟨B2,l5⟩:=exq w6.heap.size;rw[f8]at f0 d3;have p0:Hid (Je w w7 e tb bb bk im T tc Ap pc es mc own Af cf Fs B2 none 0 0 [] {m with L1:=K1,L2:=K2,an:=S8 m m.an,la:=S8 m m.la} []):=
  J6 ⟨_,_,_,_,_,_,_,_,j9.below f0,(o7.trans k0).trans (N0 f0),(o8.step k0).below f0,⟨l5▸d3,fun k hk=>by have:=j9.ok.lt _ k hk;omega⟩,ZE.nil _ _ _ _⟩
 clear f0 d3;go_wp2_with fail
 try rw[f8]
 try rw[l5]
 clear f8 l5 j9 k0 o7 o8
 go_loopg [48] 2 (fun gg y6 wr=>∃j X1 X2 Y,j<=2/\gg=2-j/\y6=I O j/\(0=j/\K1=X1/\K2=X2/\[]=Y\/1=j/\M0 K1=X1/\K2=X2/\M0 K1=Y\/2=j/\M0 K1=X1/\M0 K2=X2/\M0 K1++M0 K2=Y)/\Hid (Je w wr e tb bb bk im T tc Ap pc es mc own Af cf Fs B2 none 0 0 [] {m with L1:=X1,L2:=X2,an:=S8 m m.an,la:=S8 m m.la} Y))
 case atStart=>exact⟨0,K1,K2,[],Q0,rfl,rfl,.inl ⟨rfl,rfl,rfl,rfl⟩,p0⟩
 obtain⟨j,X1,X2,Y,hj,rfl,rfl,x8,HU⟩:=hrel;clear p0;rcases x8 with⟨i5,j7,j8,hy⟩|⟨i5,j7,j8,hy⟩|⟨i5,j7,j8,hy⟩
 ·subst i5 j7 j8 hy
  obtain⟨p2,o3,u7,u8,p1,v0,G1,u9,a1,f4,b2,e5,m7⟩:=HU.out;have f6:=Xw wr bk G1 _ _ a1.book 1 Zc;rw[show V1 1 K1 K2=K1 from rfl]at f6;have c8:=a1.cell a1.ec.c8;obtain⟨b0,b1⟩:=Tf e5.1;obtain⟨e3,d7,g9,h0,d6⟩:=Xt9 f6 a1 f4 b2 e5;obtain⟨n,hn⟩:=exq K1.length;rw[hn]at e3;have HN:=J6 hn;have x9:n<=100:=by have h1:=b5.cnt;rw[B6]at h1;omega
  clear a1 f4 b2 e5 m7 HU f6 hn;go_wp2_with fail
  refine e3.mono ?_;rintro ev w8⟨N,AL,cl,rfl,j4,j0⟩;have h6:Hid (Je w w8 e tb bb bk im T tc Ap pc es mc own Af cf Fs B2 AL n cl K1 {m with L1:=K1,L2:=K2,an:=S8 m m.an,la:=S8 m m.la} []):=
   J6 ⟨_,_,_,_,_,_,_,_,d7.below N,g9.trans (N0 N),h0.below N,⟨Z4 d6.1 N,d6.2⟩,ZE.new_ j4 d7.ok j0⟩
  clear b0 b1 c8 N j4 j0 d7 g9 h0 d6 e3;go_wp2_with fail
  go_loopg [63] n (fun gg o1 wr=>∃k,k<=n/\gg=n-k/\o1=I O k/\Hid (Je w wr e tb bb bk im T tc Ap pc es mc own Af cf Fs B2 AL n cl K1 {m with L1:=(BY K1 k),L2:=K2,an:=S8 m m.an,la:=S8 m m.la} (M0 (K1.take k))))
  case atStart=>exact⟨0,U9 _,rfl,rfl,J6 (by rw[Te,List.take_zero];exact h6)⟩
  obtain⟨k,hk,rfl,rfl,HI⟩:=hrel;obtain⟨cs2,k5,n7,n8,l4,o2,G2,own2,h8,j1,j3,d3,i6⟩:=HI.out;obtain⟨a4,d9,e2,a3,c6⟩:=Xt9 h8 j1 j3 d3 i6;clear h8 j1 j3 d3 i6 HI h6
  by_cases m8:k<n
  ·have a8:k<K1.length:=by rw[HN.out];exact m8
   obtain⟨gl,m6⟩:=EL c6.row Q0;subst m6;obtain⟨y0,y1,y2,y3,y4⟩:=ER c6.row a8;have f7:K1[k]∈K1:=C7 a8;have f3:=fun h=>Qc1 (k:=k) a8 h
   have f2:=fun h=>Qf7 (k:=k) a8 h (MA b5).1
   have a2:K1.take (k+1)=K1.take k++[K1[k]]:=M9 a8;obtain⟨x,hx⟩:=exq (K1[k]);rw[hx]at y0 y1 y2 y3 y4 f7 f3 f2 a2;obtain⟨h7,k9,k8,d2⟩:=Xt8 f7 f3 f2 a2;have m9:(k:Int)<(n:Int):=Q0;have k3:(0:Int)<=(k:Int):=Q0;have d5:Bz wr (wr.alloc (.cells #[I O x.id,I O x.side,I O x.kind,I O x.price,I O x.qty] 84)):=(J9 _ wr).alloc Q2 _;have hZ:=Z5 wr 84 #[I O x.id,I O x.side,I O x.kind,I O x.price,I O x.qty];have e7:=a4.below d5;obtain⟨wz,e4⟩:=exq (wr.alloc (.cells #[I O x.id,I O x.side,I O x.kind,I O x.price,I O x.qty] 84));obtain⟨Z,eZ⟩:=exq wr.heap.size;rw[e4]at d5 hZ e7;have i0:∀k,¬own2 Z k:=fun k hk=>by have:=a4.ok.lt Z k hk;omega
   obtain⟨l3,g4,E⟩:=Xt7 i0 d5 e7;have e8:=hZ;rw[eZ]at e8;have HZ:=J6 e8;clear f7 f3 f2 a2 d5 hZ e8 e7 hx i0;go_upto_region 14 with fail
   try rw[e4]
   try rw[eZ]
   clear e4 eZ y0 y1 y2 y3 y4;obtain⟨z0,z1,z2,z3,z4⟩:=NU HZ;have f5:AH x:=EH b5 x (T9 _ h7)
   by_cases a0:x.kind=1
   ·have d1:=V4 a0
    have e9:=Ew wz.drew e 203 cs2 9 k5 n7 n8 l4 o2 (E.below (Z2 (J9 _ wz))).ind ((Jh1 b5 k).small a4.ind.ok a4.is) x;unfold V6 at e9;obtain⟨HAdd,c5,h5⟩:=Xt7 e9 a0 f5;clear e9 a0 f5;go_wp2_with fail
    go_still_tail 4,Q4
    change wpList _ _ _ _ _ wz.drew;go_wp2_with fail
    refine HAdd.mono ?_;rintro ev w9⟨rfl,lv',bu',se',hit,j5⟩;obtain⟨-,i2⟩:=Ei h5 j5;have i4:=(E.is).chg h5.1 i2;obtain⟨x0,v2,y5,n9,y,J⟩:=(E.below (Z2 (J9 _ wz))).indTo hit i4;obtain⟨d0,C⟩:=Xt6 y J;clear y J hit j5 i2 i4 z0 z1 z2 z3 z4 HAdd;go_wp2
    go_roundg (n-(k+1))
    case measure=>omega
    have D:Bz wr wz.drew:=Z2 g4;exact⟨k+1,Q0,rfl,J5,J6 ⟨_,_,_,_,_,_,_,_,U8.lots (by rw[k9.out c5.out];exact d0) (fun s q hs=>by rw[d2.out,Vs c5,Tg]),(d9.trans (N0 D)).trans C,(e2.below D).step C,TM ⟨Z4 a3.1 D,a3.2⟩ C,(c6.below D).step C⟩⟩
   have d1:=Z3 a0;obtain⟨i7,f1⟩:=k8.out a0;have i1:=Vo wz.drew bk G2 _ _ (E.below (Z2 (J9 _ wz))).book x.id;have i3:B4 ((BY K1 k)++K2) x.id=some x:=Kv E.book.lists.ids (T9 _ f1);have j2:L9 K2 x.id=K2:=Uo (fun o ho=>fun e=>(MA b5).2.2 x h7 o ho e.symm);obtain⟨g6,g7,l2,c5,k6⟩:=Xt9 i1 i3 j2 a0 (And.intro i7 f1);have c8:=E.cell E.ec.c8;clear i1 i3 j2 a0 i7 f1 f5;go_wp2_with fail
   refine VR (fun t=>[].contains t) (fun W=>W.cell? ⟨e,8,none⟩=some (IP (some ⟨bk,0,none⟩))/\W.cell? ⟨Z,0,none⟩=some (I O x.id)) Q4 ⟨c8,z0⟩ (fun a6=>?_);refine tM 0 ?_;refine tM 1 ?_;refine tM 2 ?_;refine tM 3 ?_;refine tM 4 ?_;refine tM 5 ?_;refine oM 6 fun K9 a5=>?_
   go_simp;refine g6.mono ?_;rintro ev w9(⟨g1,-,-⟩|⟨o,ho,rfl,hto⟩)
   ·exact absurd g1 (by rw[g7.out];simp)
   rw[g7.out]at ho
   cases ho;obtain⟨G3,n9,y,J⟩:=(E.below (Z2 (J9 _ wz))).bookTo hto;have h9:=V0 (Y6 HZ) J.1 (fun⟨k,hk⟩=>l3 k hk);have d4:w9.cell? ⟨e,8,none⟩=some (IP (some ⟨bk,0,none⟩))/\w9.cell? ⟨Z,0,none⟩=some (I O x.id):=⟨y.cell y.ec.c8,(NU h9).1⟩;rw[DB];unfold V6;refine a5 _ _ (fun _=>d4) ?_;obtain⟨d0,C⟩:=Xt6 y J;clear a5 a6 y J hto h9 z0 z1 z2 z3 z4 c8 g6;refine tM 7 ?_;refine tM 8 ?_;refine tM 9 ?_;refine XX Q4 ?_ _;clear d4;go_wp2
   go_roundg (n-(k+1))
   case measure=>omega
   have D:Bz wr wz.drew:=Z2 g4;have a9:=d0.out;rw[k6.1,l2.out]at a9;exact⟨k+1,Q0,rfl,J5,J6 ⟨_,_,_,_,_,_,_,_,by rw[d2.out,Vt c5.out];exact a9,(d9.trans (N0 D)).trans C,(e2.below D).step C,TM ⟨Z4 a3.1 D,a3.2⟩ C,(c6.below D).step C⟩⟩
  obtain rfl:k=n:=by omega
  have m9:¬(k:Int)<(k:Int):=Q0;have i8:BY K1 k=M0 K1:=Qc0 (by rw[HN.out];exact X3 _);have a2:K1.take k=K1:=M4 (by rw[HN.out];exact X3 _);obtain⟨k7,d2⟩:=Xt6 i8 a2;clear i8 a2;go_wp2
  go_roundg (2-(0+1))
  case measure=>omega
  have a9:=a4.out;rw[k7.out,d2.out]at a9;exact⟨0+1,_,_,_,Q0,rfl,rfl,.inr (.inl ⟨rfl,rfl,rfl,rfl⟩),J6 ⟨_,_,_,_,_,_,_,_,a9,d9,e2,a3,ZE.nil _ _ _ _⟩⟩
 ·subst i5 j7 j8 hy
  obtain⟨p2,o3,u7,u8,p1,v0,G1,u9,a1,f4,b2,e5,m7⟩:=HU.out;have f6:=Xw wr bk G1 _ _ a1.book 2 Zd;rw[show V1 2 (M0 K1) K2=K2 from rfl]at f6;have c8:=a1.cell a1.ec.c8;obtain⟨b0,b1⟩:=Tf e5.1;obtain⟨e3,d7,g9,h0,d6⟩:=Xt9 f6 a1 f4 b2 e5;obtain⟨n,hn⟩:=exq K2.length;rw[hn]at e3;have HN:=J6 hn;have x9:n<=100:=by have h1:=b5.cnt;rw[B6]at h1;omega
  clear a1 f4 b2 e5 m7 HU f6 hn;go_wp2_with fail
  refine e3.mono ?_;rintro ev w8⟨N,AL,cl,rfl,j4,j0⟩;have h6:Hid (Je w w8 e tb bb bk im T tc Ap pc es mc own Af cf Fs B2 AL n cl K2 {m with L1:=(M0 K1),L2:=K2,an:=S8 m m.an,la:=S8 m m.la} (M0 K1)):=
   J6 ⟨_,_,_,_,_,_,_,_,d7.below N,g9.trans (N0 N),h0.below N,⟨Z4 d6.1 N,d6.2⟩,ZE.new_ j4 d7.ok j0⟩
  clear b0 b1 c8 N j4 j0 d7 g9 h0 d6 e3;go_wp2_with fail
  go_loopg [63] n (fun gg o1 wr=>∃k,k<=n/\gg=n-k/\o1=I O k/\Hid (Je w wr e tb bb bk im T tc Ap pc es mc own Af cf Fs B2 AL n cl K2 {m with L1:=(M0 K1),L2:=(BY K2 k),an:=S8 m m.an,la:=S8 m m.la} (M0 K1++M0 (K2.take k))))
  case atStart=>exact⟨0,U9 _,rfl,rfl,J6 (by rw[Te,List.take_zero,show M0 ([]:List X6)=[]from rfl,BF];exact h6)⟩
  obtain⟨k,hk,rfl,rfl,HI⟩:=hrel;obtain⟨cs2,k5,n7,n8,l4,o2,G2,own2,h8,j1,j3,d3,i6⟩:=HI.out;obtain⟨a4,d9,e2,a3,c6⟩:=Xt9 h8 j1 j3 d3 i6;clear h8 j1 j3 d3 i6 HI h6
  by_cases m8:k<n
  ·have a8:k<K2.length:=by rw[HN.out];exact m8
   obtain⟨gl,m6⟩:=EL c6.row Q0;subst m6;obtain⟨y0,y1,y2,y3,y4⟩:=ER c6.row a8;have f7:K2[k]∈K2:=C7 a8;have f3:=fun h=>Qc1 (k:=k) a8 h
   have f2:=fun h=>Qf7 (k:=k) a8 h (MA b5).2.1
   have a2:K2.take (k+1)=K2.take k++[K2[k]]:=M9 a8;obtain⟨x,hx⟩:=exq (K2[k]);rw[hx]at y0 y1 y2 y3 y4 f7 f3 f2 a2;obtain⟨h7,k9,k8,d2⟩:=Xt8 f7 f3 f2 a2;have m9:(k:Int)<(n:Int):=Q0;have k3:(0:Int)<=(k:Int):=Q0;have d5:Bz wr (wr.alloc (.cells #[I O x.id,I O x.side,I O x.kind,I O x.price,I O x.qty] 84)):=(J9 _ wr).alloc Q2 _;have hZ:=Z5 wr 84 #[I O x.id,I O x.side,I O x.kind,I O x.price,I O x.qty];have e7:=a4.below d5;obtain⟨wz,e4⟩:=exq (wr.alloc (.cells #[I O x.id,I O x.side,I O x.kind,I O x.price,I O x.qty] 84));obtain⟨Z,eZ⟩:=exq wr.heap.size;rw[e4]at d5 hZ e7;have i0:∀k,¬own2 Z k:=fun k hk=>by have:=a4.ok.lt Z k hk;omega
   obtain⟨l3,g4,E⟩:=Xt7 i0 d5 e7;have e8:=hZ;rw[eZ]at e8;have HZ:=J6 e8;clear f7 f3 f2 a2 d5 hZ e8 e7 hx i0;go_upto_region 14 with fail
   try rw[e4]
   try rw[eZ]
   clear e4 eZ y0 y1 y2 y3 y4;obtain⟨z0,z1,z2,z3,z4⟩:=NU HZ;have f5:AH x:=EH b5 x (JJ _ h7)
   by_cases a0:x.kind=1
   ·have d1:=V4 a0
    have e9:=Ew wz.drew e 203 cs2 9 k5 n7 n8 l4 o2 (E.below (Z2 (J9 _ wz))).ind ((Jh2 b5 k).small a4.ind.ok a4.is) x;unfold V6 at e9;obtain⟨HAdd,c5,h5⟩:=Xt7 e9 a0 f5;clear e9 a0 f5;go_wp2_with fail
    go_still_tail 4,Q4
    change wpList _ _ _ _ _ wz.drew;go_wp2_with fail
    refine HAdd.mono ?_;rintro ev w9⟨rfl,lv',bu',se',hit,j5⟩;obtain⟨-,i2⟩:=Ei h5 j5;have i4:=(E.is).chg h5.1 i2;obtain⟨x0,v2,y5,n9,y,J⟩:=(E.below (Z2 (J9 _ wz))).indTo hit i4;obtain⟨d0,C⟩:=Xt6 y J;clear y J hit j5 i2 i4 z0 z1 z2 z3 z4 HAdd;go_wp2
    go_roundg (n-(k+1))
    case measure=>omega
    have D:Bz wr wz.drew:=Z2 g4;exact⟨k+1,Q0,rfl,J5,J6 ⟨_,_,_,_,_,_,_,_,U8.lots (by rw[k9.out c5.out];exact d0) (fun s q hs=>by rw[d2.out,Vs c5,<-VW,Tg]),(d9.trans (N0 D)).trans C,(e2.below D).step C,TM ⟨Z4 a3.1 D,a3.2⟩ C,(c6.below D).step C⟩⟩
   have d1:=Z3 a0;obtain⟨i7,f1⟩:=k8.out a0;have i1:=Vo wz.drew bk G2 _ _ (E.below (Z2 (J9 _ wz))).book x.id;have i3:B4 ((M0 K1)++(BY K2 k)) x.id=some x:=Kv E.book.lists.ids (JJ _ f1);have j2:L9 (M0 K1) x.id=(M0 K1):=Uo (fun o ho=>fun e=>(MA b5).2.2 o (Kw ho) x h7 e);obtain⟨g6,g7,l2,c5,k6⟩:=Xt9 i1 i3 j2 a0 (And.intro i7 f1);have c8:=E.cell E.ec.c8;clear i1 i3 j2 a0 i7 f1 f5;go_wp2_with fail
   refine VR (fun t=>[].contains t) (fun W=>W.cell? ⟨e,8,none⟩=some (IP (some ⟨bk,0,none⟩))/\W.cell? ⟨Z,0,none⟩=some (I O x.id)) Q4 ⟨c8,z0⟩ (fun a6=>?_);refine tM 0 ?_;refine tM 1 ?_;refine tM 2 ?_;refine tM 3 ?_;refine tM 4 ?_;refine tM 5 ?_;refine oM 6 fun K9 a5=>?_
   go_simp;refine g6.mono ?_;rintro ev w9(⟨g1,-,-⟩|⟨o,ho,rfl,hto⟩)
   ·exact absurd g1 (by rw[g7.out];simp)
   rw[g7.out]at ho
   cases ho;obtain⟨G3,n9,y,J⟩:=(E.below (Z2 (J9 _ wz))).bookTo hto;have h9:=V0 (Y6 HZ) J.1 (fun⟨k,hk⟩=>l3 k hk);have d4:w9.cell? ⟨e,8,none⟩=some (IP (some ⟨bk,0,none⟩))/\w9.cell? ⟨Z,0,none⟩=some (I O x.id):=⟨y.cell y.ec.c8,(NU h9).1⟩;rw[DB];unfold V6;refine a5 _ _ (fun _=>d4) ?_;obtain⟨d0,C⟩:=Xt6 y J;clear a5 a6 y J hto h9 z0 z1 z2 z3 z4 c8 g6;refine tM 7 ?_;refine tM 8 ?_;refine tM 9 ?_;refine XX Q4 ?_ _;clear d4;go_wp2
   go_roundg (n-(k+1))
   case measure=>omega
   have D:Bz wr wz.drew:=Z2 g4;have a9:=d0.out;rw[k6.1,l2.out]at a9;exact⟨k+1,Q0,rfl,J5,J6 ⟨_,_,_,_,_,_,_,_,by rw[d2.out,Vt c5.out];exact a9,(d9.trans (N0 D)).trans C,(e2.below D).step C,TM ⟨Z4 a3.1 D,a3.2⟩ C,(c6.below D).step C⟩⟩
  obtain rfl:k=n:=by omega
  have m9:¬(k:Int)<(k:Int):=Q0;have i8:BY K2 k=M0 K2:=Qc0 (by rw[HN.out];exact X3 _);have a2:K2.take k=K2:=M4 (by rw[HN.out];exact X3 _);obtain⟨k7,d2⟩:=Xt6 i8 a2;clear i8 a2;go_wp2
  go_roundg (2-(1+1))
  case measure=>omega
  have a9:=a4.out;rw[k7.out,d2.out]at a9;exact⟨1+1,_,_,_,Q0,rfl,rfl,.inr (.inr ⟨rfl,rfl,rfl,rfl⟩),J6 ⟨_,_,_,_,_,_,_,_,a9,d9,e2,a3,ZE.nil _ _ _ _⟩⟩
 subst i5 j7 j8 hy;go_wp2;go_ret;obtain⟨p2,o3,u7,u8,p1,v0,G1,u9,a1,f4,b2,-,-⟩:=HU.out;refine⟨Af,cf,Fs,rfl,v7,b2.row,l1,_,?_,f4.bstep HF,fun g hg⟨k,hk⟩=>b2.far g hg k hk⟩;have e1:ZD m={m with L1:=M0 K1,L2:=M0 K2,an:=S8 m m.an,la:=S8 m m.la}:=by unfold ZD;rw[o9.1,o9.2]
 rw[e1];exact MF a1 (fun _ _ _=>rfl)
def DT(o:X6):Int×Int×Int×Int:=(o.id,o.side,o.kind,o.price)
def Aa(s p:Int)(k:Int×Int×Int×Int):Bool:=(k.2.2.1 ==2) || ((s ==1) &&decide (p<=k.2.2.2)) || ((s ==2) &&decide (k.2.2.2<=p))
def N5(K L:List X6):Prop:=(K.map DT).Sublist (L.map DT)
section
variable {K L K' L' M:List X6} {s:Int}
theorem N5.refl L:N5 L L:=List.Sublist.refl _
theorem N5.trans(h:N5 K L)(i:N5 L M):N5 K M:=List.Sublist.trans h i
theorem N5.of_sub(h:K.Sublist L):N5 K L:=h.map _
theorem N5.append(h:N5 K L)(i:N5 K' L'):N5 (K++K') (L++L'):=by unfold N5;rw[L6,L6];exact Au h i
theorem N5.nil L:N5 [] L:=List.nil_sublist _
theorem N5.cons{x y}(h:N5 K L)(e:DT x=DT y):N5 (x::K) (y::L):=by unfold N5;rw[T2,T2,e];exact List.Sublist.cons_cons _ h
theorem N5.skip(h:N5 K L)y:N5 K (y::L):=List.Sublist.cons _ h
theorem N5.mem(h:N5 K L){x}(j:x∈K):∃o∈L,DT o=DT x:=by have h1:=h.subset (Y4.2 ⟨x,j,rfl⟩);obtain⟨o,i,e⟩:=Y4.1 h1;exact⟨o,i,e⟩
theorem N5.ranked(h:N5 K L)(i:PC s L):PC s K:=by have h1:(L.map DT).Pairwise (fun a b=>∀p,Aa s p b=true->Aa s p a=true):=Xk.2 i;have h2:(K.map DT).Pairwise (fun a b=>∀p,Aa s p b=true->Aa s p a=true):=h1.sublist h;rw[Xk]at h2;exact h2
theorem Jh3(L:List X6):L.map (·.id)=(L.map DT).map (·.1):=by rw[YT];rfl
theorem N5.nodup(h:N5 K L)(i:(L.map (·.id)).Nodup):(K.map (·.id)).Nodup:=by rw[Jh3]at i|-;exact Xe (List.Sublist.map _ h) i
theorem Jr7{x o}(h:DT o=DT x):x.id=o.id/\x.side=o.side/\x.kind=o.kind/\x.price=o.price:=by unfold DT at h;simp only[Prod.mk.injEq]at h;exact⟨h.1.symm,h.2.1.symm,h.2.2.1.symm,h.2.2.2.symm⟩
end
theorem Px L id:N5 (L9 L id) L:=N5.of_sub At
theorem Jh4 L k:N5 (QM L k) L:=by
 refine N5.of_sub ?_;unfold QM;have h:(L.take k++L.drop (k+1)).Sublist (L.take k++L.drop k):=Au (List.Sublist.refl _) (by
  have e:L.drop (k+1)=(L.drop k).drop 1:=by rw[Xr]
  rw[e];exact Vi _ _)
 rw[P9]at h;exact h
theorem Xd4{g l}(h:∀f∈l,0<=g f):0<=QZ g l:=by
 induction l with
 |nil=>exact T3 _
 |cons f t j=>
  have h1:=h f (FR);have h2:=j (fun z i=>h z (VS _ i));show 0<=g f+QZ g t;omega
def Qc3(F:List C6)(id:Int):Int:=QZ (fun f=>if f.b=id then f.n else 0) F
def Qh7(F:List C6)(id:Int):Int:=QZ (fun f=>if f.s=id then f.n else 0) F
def TN(F:List C6)(id:Int):Int:=Qc3 F id+Qh7 F id
theorem Py id:TN [] id=0:=rfl
theorem Mr f F id:TN (f::F) id=((if f.b=id then f.n else 0)+(if f.s=id then f.n else 0))+TN F id:=by unfold TN Qc3 Qh7;show(if f.b=id then f.n else 0)+QZ _ F+((if f.s=id then f.n else 0)+QZ _ F)=_;omega
def Dj(lots:Int->Int)(F:List C6)(id:Int):Int:=lots id-TN F id
def Qk(lots side:Int->Int)(F:List C6):Prop:=
 ∀F1 f F2,F=F1++f::F2->1<=f.n/\side f.b=1/\side f.s=2/\f.n<=lots f.b-TN F1 f.b/\f.n<=lots f.s-TN F1 f.s
theorem Qk.nil lots side:Qk lots side []:=fun i f j h=>by cases i<;>cases h
theorem Qk.cons{lots side f F}(h1:1<=f.n)(J:side f.b=1)(N:side f.s=2)(lb:f.n<=lots f.b)(Z:f.n<=lots f.s)(h:Qk (fun id=>lots id-((if f.b=id then f.n else 0)+(if f.s=id then f.n else 0))) side F):Qk lots side (f::F):=by
 intro i g j e
 cases i with
 |nil=>
  rw[EE]at e
  cases e;exact⟨h1,J,N,by rw[Py];omega,by rw[Py];omega⟩
 |cons z i=>
  rw[DV]at e
  cases e;obtain⟨u,y,C,D,E⟩:=h i g j rfl;refine⟨u,y,C,?_,?_⟩
  ·rw[Mr];dsimp only at D;omega
  rw[Mr];dsimp only at E;omega
def Qh8(la:Int):List C6->Int
 | []=>la
 |f::F=>Qh8 f.p F
def Qg(al:Int->Int->Bool)(la:Int)(F:List C6):Prop:=∀F1 f F2,F=F1++f::F2->al (Qh8 la F1) f.p=true
theorem Qg.nil al la:Qg al la []:=fun i f j h=>by cases i<;>cases h
theorem Qg.cons{al la f F}(h1:al la f.p=true)(h:Qg al f.p F):Qg al la (f::F):=by
 intro i g j e
 cases i with
 |nil=>
  rw[EE]at e
  cases e;exact h1
 |cons z i=>
  rw[DV]at e
  cases e;exact h i g j rfl
def Xo5(L1 L2:List X6):Prop:=(∀o∈L1++L2,o.kind=1)/\∀x∈L1,∀y∈L2,x.price<y.price
structure Xt3(lots side:Int->Int)(al:Int->Int->Bool)(L:List X6)(o:X6)(s:Int)(r:XN Int):Prop where
 good:Qk lots side r.fills
 bands:Qg al s r.fills
 left:r.left.qty=Dj lots r.fills o.id
 key:DT r.left=DT o
 pos:0<=r.left.qty
 rest:∀x∈r.rest,x.qty=Dj lots r.fills x.id
 other:∀id,id≠o.id->(∀x∈L,x.id≠id)->Dj lots r.fills id=lots id
 stop:r.stop=false->r.left.qty<1\/∀x∈r.rest,VA o x=true
structure KW(m:Z6)(lots side:Int->Int):Prop where
 has:∀o∈m.L1++m.L2++m.pk,lots o.id=o.qty/\side o.id=o.side/\o.id∈m.ids
 one:((m.L1++m.L2++m.pk).map (·.id)).Nodup
 r1:PC 1 m.L1
 r2:PC 2 m.L2
section
variable {m m':Z6} {lots lots' side side':Int->Int}
theorem KW.under(h:KW m lots side)(y:N5 m'.L1 m.L1)(C:N5 m'.L2 m.L2)(u3:N5 m'.pk m.pk)(N:m'.ids=m.ids)(Z:∀o∈m'.L1++m'.L2++m'.pk,o.qty=lots' o.id):KW m' lots' side:=by have u:=(y.append C).append u3;refine⟨fun o j=>?_,u.nodup h.one,y.ranked h.r1,C.ranked h.r2⟩;obtain⟨x,hx,e⟩:=u.mem j;obtain⟨a1,D,E⟩:=h.has x hx;obtain⟨i,J,e3,e4⟩:=Jr7 e;exact⟨(Z o j).symm,by rw[i,D,J],by rw[N,i];exact E⟩
theorem KW.same(h:KW m lots side)(i:m'.L1=m.L1)(j:m'.L2=m.L2)(u:m'.pk=m.pk)(y:m'.ids=m.ids):KW m' lots side:=
 ⟨by rw[i,j,u,y];exact h.has,by rw[i,j,u];exact h.one,by rw[i];exact h.r1,by rw[j];exact h.r2⟩
theorem KW.lie(h:KW m lots side){o}(Z:V5 o.side)(J:lots o.id=o.qty)(C:side o.id=o.side)(E:o.id∈m.ids)(D:∀x∈m.L1++m.L2++m.pk,x.id≠o.id):KW (S3 m o) lots side:=by
 by_cases y:addE m.L1 m.L2 o=0
 ·have j:(S3 m o).L1=QD 1 m.L1 o:=X0 y
  have u:(S3 m o).L2=QD 2 m.L2 o:=X0 y;have hp:((S3 m o).L1++(S3 m o).L2++(S3 m o).pk).Perm (U6 o:: (m.L1++m.L2++m.pk)):=by
   rw[j,u];show(QD 1 m.L1 o++QD 2 m.L2 o++m.pk).Perm _;unfold QD;obtain e|e:=Z
   ·rw[X0 e,J8 Q0,<-DV,<-DV]
    exact((Km 1 m.L1 (U6 o)).append_right _).append_right _
   rw[J8 Q0,X0 e,<-DV];exact(((Km 2 m.L2 (U6 o)).append_left _).trans Vk).append_right _
  refine⟨fun x i=>?_,?_,?_,?_⟩
  ·obtain rfl|i:=H8.1 (hp.mem_iff.1 i)
   ·exact⟨J,C,E⟩
   exact h.has x i
  ·refine(hp.map (·.id)).nodup_iff.2 ?_
   rw[T2,UX];refine⟨fun N=>?_,h.one⟩;obtain⟨x,i,e⟩:=Y4.1 N;exact D x i e
  ·rw[j]
   unfold QD
   split
   ·exact Ue (.inl rfl) h.r1 _
   exact h.r1
  rw[u];unfold QD
  split
  ·exact Ue (.inr rfl) h.r2 _
  exact h.r2
 have j:(S3 m o).L1=m.L1:=J8 y;have u:(S3 m o).L2=m.L2:=J8 y;exact h.same j u rfl rfl
theorem Pz:∀(l:List X6)(m:Z6),KW {m with pk:=l} lots side->(∀o∈l,V5 o.side)->KW {N7 m l with pk:=[]} lots side
 | [],m,h,_=>h
 |o::t,m,h,hs=>by
  have ho:=h.has o Q3;have h1:KW {m with pk:=t} lots side:=h.under (N5.refl _) (N5.refl _) ((N5.refl t).skip o) rfl (fun x hx=>(h.has x (by
   show x∈m.L1++m.L2++(o::t);obtain hx|hx:=B8.1 hx
   ·exact T9 _ hx
   exact JJ _ (VS _ hx))).1.symm)
  have hone:=h.one;have hone:((m.L1++m.L2++(o::t)).map (·.id)).Nodup:=hone;have hp:(m.L1++m.L2++(o::t)).Perm (o:: (m.L1++m.L2++t)):=Vk;have hone2:=(hp.map (·.id)).nodup_iff.1 hone;rw[T2,UX]at hone2;have h2:=h1.lie (o:=o) (hs o Q3) ho.1 ho.2.1 ho.2.2 (fun x hx e=>hone2.1 (Y4.2 ⟨x,hx,e⟩));exact Pz t (S3 m o) h2 (fun x hx=>hs x (by simp[hx]))
end
structure GC(m:Z6)(lots side:Int->Int):Prop where
 ok_:D5 m
 w:KW m lots side
 tr:m.ph=3->Xo5 m.L1 m.L2
section
variable {m:Z6} {lots side:Int->Int}
theorem Jr8(h:KW m lots side)(i:∀o∈m.pk,V5 o.side):KW (VB m) lots side:=by have h1:KW {({m with ph:=5}:Z6)with pk:=m.pk} lots side:=h.same rfl rfl rfl rfl;exact Pz m.pk {m with ph:=5} h1 i
theorem KW.setPh(h:KW m lots side)p:KW {m with ph:=p} lots side:=h.same rfl rfl rfl rfl
theorem KW.vol(h:KW m lots side):KW (BU m) lots side:=h.same rfl rfl rfl rfl
theorem KW.over(h:KW m lots side){lots'}:KW (CX m) lots' side:=h.under (N5.nil _) (N5.nil _) (N5.nil _) rfl (fun o i=>(by cases i))
theorem GC.halt(h:GC m lots side):GC (JN m) lots side:=by
 refine⟨h.ok_.halt,?_,?_⟩
 ·unfold JN
  split
  ·exact h.w
  exact h.w.setPh 6
 unfold JN
 split
 ·exact h.tr
 intro e;exact absurd e (by show¬((6:Int)=3);omega)
theorem Uq m:(VB m).ph=5:=(MZ m.pk {m with ph:=5}).2.2.2.2.2.2.2.2.2.1
theorem GC.open_(h:GC m lots side)(j:E5 (QK m).L1 (QK m).L2):GC (QK m) lots side:=by
 refine⟨h.ok_.open_ j,?_,?_⟩
 ·unfold QK
  split
  ·split
   ·exact h.w.vol
   split
   ·exact Jr8 h.w (fun o u=>(h.ok_.pk o u).2)
   exact h.w.setPh _
  exact h.w
 unfold QK
 split
 ·split
  ·intro e;exact absurd e (by show¬((4:Int)=3);omega)
  split
  ·intro e;rw[Uq]at e;cases e
  rename_i i _;intro e;exact absurd e i
 exact h.tr
theorem GC.cancel(h:GC m lots side)id(C:E5 (N3 m id).L1 (N3 m id).L2):GC (N3 m id) lots side:=by
 refine⟨h.ok_.cancel id C,?_,?_⟩
 ·unfold N3
  split
  ·exact h.w
  split
  ·exact h.w.under (N5.refl _) (N5.refl _) (Jh4 _ _) rfl (fun o i=>(h.w.has o (by
    obtain i|i:=B8.1 i
    ·exact T9 _ i
    exact JJ _ (Qc2 i))).1.symm)
  exact h.w.under (Px _ _) (Px _ _) (N5.refl _) rfl (fun o i=>(h.w.has o (by
   obtain i|i:=B8.1 i
   ·obtain i|i:=B8.1 i
    ·exact T9 _ (T9 _ (S4.1 i).1)
    exact T9 _ (JJ _ (S4.1 i).1)
   exact JJ _ i)).1.symm)
 unfold N3
 split
 ·exact h.tr
 split
 ·exact h.tr
 intro e;obtain⟨j,u⟩:=h.tr e;refine⟨fun o i=>?_,fun x D y E=>u x (S4.1 D).1 y (S4.1 E).1⟩;obtain i|i:=B8.1 i
 ·exact j o (T9 _ (S4.1 i).1)
 exact j o (JJ _ (S4.1 i).1)
theorem GC.next(h:GC m lots side):GC (V2 m) lots side:=⟨h.ok_.next,h.w.same rfl rfl rfl rfl,h.tr⟩
end
structure PT(cs:Array Value)(T:Option Addr)(tc:Nat)(Ap:Option Addr)(pc:Nat)(Ai:Option Addr)(ic:Nat)(m:Z6):Prop where
 sz:cs.size=14
 c0:cs[0]?=some (.slice T m.rows.length tc)
 c1:cs[1]?=some (I O m.st)
 c2:cs[2]?=some (I O m.dy)
 c3:cs[3]?=some (I O m.an)
 c4:cs[4]?=some (I O m.la)
 c5:cs[5]?=some (I O m.tk)
 c6:cs[6]?=some (I O m.mo)
 c8:cs[8]?=some (.slice Ap m.pk.length pc)
 c9:cs[9]?=some (.slice Ai m.ids.length ic)
 c10:cs[10]?=some (I O m.ph)
 c11:cs[11]?=some (I O m.now)
 c12:cs[12]?=some (I O m.ends)
 c13:cs[13]?=some (I O m.lng)
def FN(i:Int):List Value:=[I O i]
theorem Ms i:(FN i).length=1:=rfl
structure Y2(w:World)(R:Nat)(cs:Array Value)(T:Option Addr)(tc:Nat)(AL:Option Addr)(Ap:Option Addr)(pc:Nat)(Ai:Option Addr)(ic:Nat)(own:Nat->Nat->Prop)(m:Z6)(L:List X6):Prop where
 rc:PT cs T tc Ap pc Ai ic m
 bk:KY w R 95 cs 7 AL L
 tabp:JW w T m.rows.length tc m.rows
 park:X8 w Ap m.pk.length pc 84 5 (X7 U0 m.pk)
 idr:X8 w Ai m.ids.length ic 3 1 (X7 FN m.ids)
 twin:M7 L m.L1 m.L2
 few:L.length<=100
 ok:NJ w own
 oR:own R 1
 oT:∀i,X5 T=some i->own i 2
 oL:∀i,X5 AL=some i->own i 3
 op:∀i,X5 Ap=some i->own i 4
 oi:∀i,X5 Ai=some i->own i 5
def N4(w:World)(R:Nat)(F:Nat->Prop)(m:Z6):Prop:=
 ∃cs T tc AL Ap pc Ai ic own L,Y2 w R cs T tc AL Ap pc Ai ic own m L/\∀i,F i↔∃k,own i k
def F3(w w':World)(R:Nat)(F:Nat->Prop)(m:Z6):Prop:=∃F',N4 w' R F' m/\U2 w w' F F'
section
variable {w w':World} {R:Nat} {cs:Array Value} {T:Option Addr} {tc:Nat} {AL Ap:Option Addr} {pc:Nat} {Ai:Option Addr} {ic:Nat} {own:Nat->Nat->Prop} {m:Z6} {L:List X6}
theorem Y2.cell(h:Y2 w R cs T tc AL Ap pc Ai ic own m L){i v}(j:cs[i]?=some v):w.cell? (aD R i)=some v:=by rw[X9 h.bk.blk];exact j
theorem Y2.frozen(h:Y2 w R cs T tc AL Ap pc Ai ic own m L)i:w.frozen? (aD R i)=false:=K0 h.bk.blk i
theorem Y2.fit{S:Nat->Prop}(h:Y2 w R cs T tc AL Ap pc Ai ic own m L){K}(j:∀i,S i->own i K){i k}(u:own i k)(hk:k≠K):¬S i:=fun y=>hk (h.ok.uni i k K u (j i y))
theorem Y2.keeps{S}(h:Y2 w R cs T tc AL Ap pc Ai ic own m L)(hk:X4 S w w')(u:∀i k,own i k->¬S i):Y2 w' R cs T tc AL Ap pc Ai ic own m L:=
 ⟨h.rc,h.bk.keeps hk (u _ _ h.oR) (fun i j=>u i _ (h.oL i j)),h.tabp.keeps hk (fun i j=>u i _ (h.oT i j)),h.park.keeps hk (fun i j=>u i _ (h.op i j)),h.idr.keeps hk (fun i j=>u i _ (h.oi i j)),h.twin,h.few,h.ok.mono hk.size,h.oR,h.oT,h.oL,h.op,h.oi⟩
theorem Y2.below(h:Y2 w R cs T tc AL Ap pc Ai ic own m L)(i:Bz w w'):Y2 w' R cs T tc AL Ap pc Ai ic own m L:=
 h.keeps (B9 i (fun _=>False)) (fun _ _ _=>id)
theorem Y2.at_(h:Y2 w R cs T tc AL Ap pc Ai ic own m L):N4 w R (fun i=>∃k,own i k) m:=⟨cs,T,tc,AL,Ap,pc,Ai,ic,own,L,h,fun i=>KL⟩
theorem Y2.blt(h:Y2 w R cs T tc AL Ap pc Ai ic own m L):R<w.heap.size:=h.bk.blt
theorem PT.set_{m' cs'}(h:PT cs T tc Ap pc Ai ic m)(hs:cs'.size=14)(J:cs'[0]?=cs[0]?)(h1:cs'[1]?=cs[1]?)(h2:cs'[2]?=cs[2]?)(h5:cs'[5]?=cs[5]?)(h6:cs'[6]?=cs[6]?)(h8:cs'[8]?=cs[8]?)(h9:cs'[9]?=cs[9]?)(hm:m'.rows=m.rows/\m'.st=m.st/\m'.dy=m.dy/\m'.tk=m.tk/\m'.mo=m.mo/\m'.pk=m.pk/\m'.ids=m.ids) (h3:cs'[3]?=some (I O m'.an)) (h4:cs'[4]?=some (I O m'.la)) (N:cs'[10]?=some (I O m'.ph)) (Z:cs'[11]?=some (I O m'.now)) (a0:cs'[12]?=some (I O m'.ends)) (a1:cs'[13]?=some (I O m'.lng)):PT cs' T tc Ap pc Ai ic m':=by obtain⟨i,j,u,y,C,D,E⟩:=hm;exact⟨hs,by rw[J,i];exact h.c0,by rw[h1,j];exact h.c1,by rw[h2,u];exact h.c2,h3,h4,by rw[h5,y];exact h.c5,by rw[h6,C];exact h.c6,by rw[h8,D];exact h.c8,by rw[h9,E];exact h.c9,N,Z,a0,a1⟩
theorem PT.same{m'}(h:PT cs T tc Ap pc Ai ic m)(hm:m'.rows=m.rows/\m'.st=m.st/\m'.dy=m.dy/\m'.an=m.an/\m'.la=m.la/\m'.tk=m.tk/\m'.mo=m.mo/\m'.pk=m.pk/\m'.ids=m.ids/\m'.ph=m.ph/\m'.now=m.now/\m'.ends=m.ends/\m'.lng=m.lng):PT cs T tc Ap pc Ai ic m':=by obtain⟨i,D,E,J,N,Z,e7,e8,e9,j,u,y,C⟩:=hm;exact⟨h.sz,by rw[i];exact h.c0,by rw[D];exact h.c1,by rw[E];exact h.c2,by rw[J];exact h.c3,by rw[N];exact h.c4,by rw[Z];exact h.c5,by rw[e7];exact h.c6,by rw[e8];exact h.c8,by rw[e9];exact h.c9,by rw[j];exact h.c10,by rw[u];exact h.c11,by rw[y];exact h.c12,by rw[C];exact h.c13⟩
theorem Y2.cellsTo{cs' m'}(h:Y2 w R cs T tc AL Ap pc Ai ic own m L)(Z:J7 w' R 95 cs')(hk:X4 (fun i=>i=R) w w')(hc:PT cs' T tc Ap pc Ai ic m')(N:cs'[7]?=cs[7]?)(hm:m'.rows=m.rows/\m'.L1=m.L1/\m'.L2=m.L2/\m'.pk=m.pk/\m'.ids=m.ids):Y2 w' R cs' T tc AL Ap pc Ai ic own m' L/\U3 w w' own own:=by
 obtain⟨y,C,D,E,J⟩:=hm;have f:∀{i k},own i k->k≠1->¬i=R:=fun j a0=>h.fit (S:=fun i=>i=R) (fun i j=>j▸h.oR) j a0
 have u:=h.bk;refine⟨⟨hc,⟨Z,by rw[N];exact u.at_,u.els.keeps hk (fun i j=>f (h.oL i j) Q1),u.ne,fun g hg=>D0 (u.lt g hg) hk.size⟩,?_,?_,?_,?_,h.few,h.ok.mono hk.size,h.oR,h.oT,h.oL,h.op,h.oi⟩,hk.mono (fun i j=>⟨1,j▸h.oR⟩),fun i k j=>.inl j⟩
 ·rw[y];exact h.tabp.keeps hk (fun i j=>f (h.oT i j) Q1)
 ·rw[E];exact h.park.keeps hk (fun i j=>f (h.op i j) Q1)
 ·rw[J];exact h.idr.keeps hk (fun i j=>f (h.oi i j) Q1)
 rw[C,D];exact h.twin
theorem Y2.setI{j v m'}(h:Y2 w R cs T tc AL Ap pc Ai ic own m L)(u:j≠7)(i:PT (cs.setIfInBounds j (I O v)) T tc Ap pc Ai ic m')(y:m'.rows=m.rows/\m'.L1=m.L1/\m'.L2=m.L2/\m'.pk=m.pk/\m'.ids=m.ids):Y2 (w.setCell (aD R j) (I O v)) R (cs.setIfInBounds j (I O v)) T tc AL Ap pc Ai ic own m' L/\U3 w (w.setCell (aD R j) (I O v)) own own:=
 h.cellsTo (Z0 h.bk.blk j _) (U1 w (aD R j) _) i (AD u) y
theorem Y2.setAn(h:Y2 w R cs T tc AL Ap pc Ai ic own m L)v:Y2 (w.setCell (aD R 3) (I O v)) R (cs.setIfInBounds 3 (I O v)) T tc AL Ap pc Ai ic own {m with an:=v} L/\U3 w (w.setCell (aD R 3) (I O v)) own own:=
 h.setI Q1 ⟨by rw[DX];exact h.rc.sz,Z1 h.rc.c0 Q1,Z1 h.rc.c1 Q1,Z1 h.rc.c2 Q1,AK (by have:=h.rc.sz;omega),Z1 h.rc.c4 Q1,Z1 h.rc.c5 Q1,Z1 h.rc.c6 Q1,Z1 h.rc.c8 Q1,Z1 h.rc.c9 Q1,Z1 h.rc.c10 Q1,Z1 h.rc.c11 Q1,Z1 h.rc.c12 Q1,Z1 h.rc.c13 Q1⟩ ⟨rfl,rfl,rfl,rfl,rfl⟩
theorem Y2.setLa(h:Y2 w R cs T tc AL Ap pc Ai ic own m L)v:Y2 (w.setCell (aD R 4) (I O v)) R (cs.setIfInBounds 4 (I O v)) T tc AL Ap pc Ai ic own {m with la:=v} L/\U3 w (w.setCell (aD R 4) (I O v)) own own:=
 h.setI Q1 ⟨by rw[DX];exact h.rc.sz,Z1 h.rc.c0 Q1,Z1 h.rc.c1 Q1,Z1 h.rc.c2 Q1,Z1 h.rc.c3 Q1,AK (by have:=h.rc.sz;omega),Z1 h.rc.c5 Q1,Z1 h.rc.c6 Q1,Z1 h.rc.c8 Q1,Z1 h.rc.c9 Q1,Z1 h.rc.c10 Q1,Z1 h.rc.c11 Q1,Z1 h.rc.c12 Q1,Z1 h.rc.c13 Q1⟩ ⟨rfl,rfl,rfl,rfl,rfl⟩
theorem Y2.setPh(h:Y2 w R cs T tc AL Ap pc Ai ic own m L)v:Y2 (w.setCell (aD R 10) (I O v)) R (cs.setIfInBounds 10 (I O v)) T tc AL Ap pc Ai ic own {m with ph:=v} L/\U3 w (w.setCell (aD R 10) (I O v)) own own:=
 h.setI Q1 ⟨by rw[DX];exact h.rc.sz,Z1 h.rc.c0 Q1,Z1 h.rc.c1 Q1,Z1 h.rc.c2 Q1,Z1 h.rc.c3 Q1,Z1 h.rc.c4 Q1,Z1 h.rc.c5 Q1,Z1 h.rc.c6 Q1,Z1 h.rc.c8 Q1,Z1 h.rc.c9 Q1,AK (by have:=h.rc.sz;omega),Z1 h.rc.c11 Q1,Z1 h.rc.c12 Q1,Z1 h.rc.c13 Q1⟩ ⟨rfl,rfl,rfl,rfl,rfl⟩
theorem Y2.setNow(h:Y2 w R cs T tc AL Ap pc Ai ic own m L)v:Y2 (w.setCell (aD R 11) (I O v)) R (cs.setIfInBounds 11 (I O v)) T tc AL Ap pc Ai ic own {m with now:=v} L/\U3 w (w.setCell (aD R 11) (I O v)) own own:=
 h.setI Q1 ⟨by rw[DX];exact h.rc.sz,Z1 h.rc.c0 Q1,Z1 h.rc.c1 Q1,Z1 h.rc.c2 Q1,Z1 h.rc.c3 Q1,Z1 h.rc.c4 Q1,Z1 h.rc.c5 Q1,Z1 h.rc.c6 Q1,Z1 h.rc.c8 Q1,Z1 h.rc.c9 Q1,Z1 h.rc.c10 Q1,AK (by have:=h.rc.sz;omega),Z1 h.rc.c12 Q1,Z1 h.rc.c13 Q1⟩ ⟨rfl,rfl,rfl,rfl,rfl⟩
theorem Y2.setEnds(h:Y2 w R cs T tc AL Ap pc Ai ic own m L)v:Y2 (w.setCell (aD R 12) (I O v)) R (cs.setIfInBounds 12 (I O v)) T tc AL Ap pc Ai ic own {m with ends:=v} L/\U3 w (w.setCell (aD R 12) (I O v)) own own:=
 h.setI Q1 ⟨by rw[DX];exact h.rc.sz,Z1 h.rc.c0 Q1,Z1 h.rc.c1 Q1,Z1 h.rc.c2 Q1,Z1 h.rc.c3 Q1,Z1 h.rc.c4 Q1,Z1 h.rc.c5 Q1,Z1 h.rc.c6 Q1,Z1 h.rc.c8 Q1,Z1 h.rc.c9 Q1,Z1 h.rc.c10 Q1,Z1 h.rc.c11 Q1,AK (by have:=h.rc.sz;omega),Z1 h.rc.c13 Q1⟩ ⟨rfl,rfl,rfl,rfl,rfl⟩
theorem Y2.setLng(h:Y2 w R cs T tc AL Ap pc Ai ic own m L)v:Y2 (w.setCell (aD R 13) (I O v)) R (cs.setIfInBounds 13 (I O v)) T tc AL Ap pc Ai ic own {m with lng:=v} L/\U3 w (w.setCell (aD R 13) (I O v)) own own:=
 h.setI Q1 ⟨by rw[DX];exact h.rc.sz,Z1 h.rc.c0 Q1,Z1 h.rc.c1 Q1,Z1 h.rc.c2 Q1,Z1 h.rc.c3 Q1,Z1 h.rc.c4 Q1,Z1 h.rc.c5 Q1,Z1 h.rc.c6 Q1,Z1 h.rc.c8 Q1,Z1 h.rc.c9 Q1,Z1 h.rc.c10 Q1,Z1 h.rc.c11 Q1,Z1 h.rc.c12 Q1,AK (by have:=h.rc.sz;omega)⟩ ⟨rfl,rfl,rfl,rfl,rfl⟩
theorem Y2.bookAt{A' c' M M1 M2}(h:Y2 w R cs T tc AL Ap pc Ai ic own m L)(C:KY w' R 95 (cs.setIfInBounds 7 (.slice A' M.length c')) 7 A' M)(hk:X4 (fun i=>i=R) w w')(D:∀g,X5 A'=some g->X5 AL=some g\/w.heap.size<=g)(N:M7 M M1 M2)(E:M.length<=100):Y2 w' R (cs.setIfInBounds 7 (.slice A' M.length c')) T tc A' Ap pc Ai ic (KQ w own (fun i=>X5 A'=some i) 3) {m with L1:=M1,L2:=M2} M/\U3 w w' own (KQ w own (fun i=>X5 A'=some i) 3):=by
 have f:∀{i k},own i k->k≠1->¬i=R:=fun j J=>h.fit (S:=fun i=>i=R) (fun i j=>j▸h.oR) j J
 have n:∀{i k},own i k->KQ w own (fun i=>X5 A'=some i) 3 i k:=fun j=>.inl j
 have u:=h.rc;refine⟨⟨⟨by rw[DX];exact u.sz,Z1 u.c0 Q1,Z1 u.c1 Q1,Z1 u.c2 Q1,Z1 u.c3 Q1,Z1 u.c4 Q1,Z1 u.c5 Q1,Z1 u.c6 Q1,Z1 u.c8 Q1,Z1 u.c9 Q1,Z1 u.c10 Q1,Z1 u.c11 Q1,Z1 u.c12 Q1,Z1 u.c13 Q1⟩,C,h.tabp.keeps hk (fun i j=>f (h.oT i j) Q1),h.park.keeps hk (fun i j=>f (h.op i j) Q1),h.idr.keeps hk (fun i j=>f (h.oi i j) Q1),N,E,h.ok.new_ hk.size (fun i j=>C.lt i j) 3,n h.oR,fun i j=>n (h.oT i j),fun i j=>?_,fun i j=>n (h.op i j),fun i j=>n (h.oi i j)⟩,hk.mono (fun i j=>⟨1,j▸h.oR⟩),fun i k j=>j.imp id (fun x=>x.1)⟩;obtain y|y:=D i j
 ·exact n (h.oL i y)
 exact .inr ⟨y,j,rfl⟩
theorem Y2.bookTo{M M1 M2}(h:Y2 w R cs T tc AL Ap pc Ai ic own m L)(ht:KV w w' R 95 cs 7 AL M)(D:M7 M M1 M2)(C:M.length<=100):∃j i own',Y2 w' R j T tc i Ap pc Ai ic own' {m with L1:=M1,L2:=M2} M/\U3 w w' own own':=by obtain⟨A',c',u,hk,y⟩:=ht;exact⟨_,A',_,h.bookAt u hk y D C⟩
theorem Y2.pkTo{P' Ap' pc'}(h:Y2 w R cs T tc AL Ap pc Ai ic own m L)(E:Bz w w')(J:X8 w' Ap' P'.length pc' 84 5 (X7 U0 P'))(C:∀i,X5 Ap'=some i->w.heap.size<=i):∃own',Y2 (w'.setCell (aD R 8) (.slice Ap' P'.length pc')) R (cs.setIfInBounds 8 (.slice Ap' P'.length pc')) T tc AL Ap' pc' Ai ic own' {m with pk:=P'} L/\U3 w (w'.setCell (aD R 8) (.slice Ap' P'.length pc')) own own':=by
 have D:=U1 w' (aD R 8) (.slice Ap' P'.length pc');have hk:X4 (fun i=>i=R) w (w'.setCell (aD R 8) (.slice Ap' P'.length pc')):=(B9 E _).trans D (fun i j=>.inl j);have f:∀{i k},own i k->k≠1->¬i=R:=fun j Z=>h.fit (S:=fun i=>i=R) (fun i j=>j▸h.oR) j Z
 have n:∀{i k},own i k->KQ w own (fun i=>X5 Ap'=some i) 4 i k:=fun j=>.inl j
 have u:=h.rc;have y:=h.bk;have hR:=h.blt;refine⟨KQ w own (fun i=>X5 Ap'=some i) 4,⟨⟨by rw[DX];exact u.sz,Z1 u.c0 Q1,Z1 u.c1 Q1,Z1 u.c2 Q1,Z1 u.c3 Q1,Z1 u.c4 Q1,Z1 u.c5 Q1,Z1 u.c6 Q1,AK (by have:=u.sz;omega),Z1 u.c9 Q1,Z1 u.c10 Q1,Z1 u.c11 Q1,Z1 u.c12 Q1,Z1 u.c13 Q1⟩,⟨Z0 (Z4 y.blk E) 8 _,by rw[AD Q1];exact y.at_,y.els.keeps hk (fun i j=>f (h.oL i j) Q1),y.ne,fun g C=>D0 (y.lt g C) hk.size⟩,h.tabp.keeps hk (fun i j=>f (h.oT i j) Q1),J.keeps D (fun i j N=>?_),h.idr.keeps hk (fun i j=>f (h.oi i j) Q1),h.twin,h.few,h.ok.new_ hk.size (fun i j=>D0 (J.lt j) D.size) 4,n h.oR,fun i j=>n (h.oT i j),fun i j=>n (h.oL i j),fun i j=>.inr ⟨C i j,j,rfl⟩,fun i j=>n (h.oi i j)⟩,hk.mono (fun i j=>⟨1,j▸h.oR⟩),fun i k j=>j.imp id (fun x=>x.1)⟩;have h1:=C i j;have h2:i=R:=N;omega
theorem Y2.pkNil(h:Y2 w R cs T tc AL Ap pc Ai ic own m L):∃own',Y2 (w.setCell (aD R 8) (.slice none 0 0)) R (cs.setIfInBounds 8 (.slice none 0 0)) T tc AL none 0 Ai ic own' {m with pk:=[]} L/\U3 w (w.setCell (aD R 8) (.slice none 0 0)) own own':=
 h.pkTo (P':=[]) Q5 (QY _ _ _ _) (fun i j=>by simp[X5]at j)
theorem Y2.idsTo{I' Ai' ic'}(h:Y2 w R cs T tc AL Ap pc Ai ic own m L)(hk:X4 (fun i=>X5 Ai=some i) w w')(Z:X8 w' Ai' I'.length ic' 3 1 (X7 FN I'))(E:∀i,X5 Ai'=some i->X5 Ai=some i\/w.heap.size<=i):∃own',Y2 (w'.setCell (aD R 9) (.slice Ai' I'.length ic')) R (cs.setIfInBounds 9 (.slice Ai' I'.length ic')) T tc AL Ap pc Ai' ic' own' {m with ids:=I'} L/\U3 w (w'.setCell (aD R 9) (.slice Ai' I'.length ic')) own own':=by
 have J:=U1 w' (aD R 9) (.slice Ai' I'.length ic');have C:X4 (fun i=>X5 Ai=some i\/i=R) w (w'.setCell (aD R 9) (.slice Ai' I'.length ic')):=(hk.mono (fun i j=>.inl j)).trans J (fun i j=>.inl (.inr j));have f:∀{i k},own i k->k≠5->¬X5 Ai=some i:=fun j N=>h.fit (S:=fun i=>X5 Ai=some i) h.oi j N
 have f1:∀{i k},own i k->k≠1->¬i=R:=fun j N=>h.fit (S:=fun i=>i=R) (fun i j=>j▸h.oR) j N
 have q:∀{i k},own i k->k≠5->k≠1->¬(X5 Ai=some i\/i=R):=fun j h6 h1 x=>x.elim (f j h6) (f1 j h1)
 have n:∀{i k},own i k->KQ w own (fun i=>X5 Ai'=some i) 5 i k:=fun j=>.inl j
 have u:=h.rc;have D:=h.bk;have hR:=h.blt;refine⟨KQ w own (fun i=>X5 Ai'=some i) 5,⟨⟨by rw[DX];exact u.sz,Z1 u.c0 Q1,Z1 u.c1 Q1,Z1 u.c2 Q1,Z1 u.c3 Q1,Z1 u.c4 Q1,Z1 u.c5 Q1,Z1 u.c6 Q1,Z1 u.c8 Q1,AK (by have:=u.sz;omega),Z1 u.c10 Q1,Z1 u.c11 Q1,Z1 u.c12 Q1,Z1 u.c13 Q1⟩,⟨Z0 (V0 D.blk hk (f h.oR Q1)) 9 _,by rw[AD Q1];exact D.at_,D.els.keeps C (fun i j=>q (h.oL i j) Q1 Q1),D.ne,fun g E=>D0 (D.lt g E) C.size⟩,h.tabp.keeps C (fun i j=>q (h.oT i j) Q1 Q1),h.park.keeps C (fun i j=>q (h.op i j) Q1 Q1),Z.keeps J (fun i j a0=>?_),h.twin,h.few,h.ok.new_ C.size (fun i j=>D0 (Z.lt j) J.size) 5,n h.oR,fun i j=>n (h.oT i j),fun i j=>n (h.oL i j),fun i j=>n (h.op i j),fun i j=>?_⟩,C.mono (fun i j=>?_),fun i k j=>j.imp id (fun x=>x.1)⟩
 ·have h2:i=R:=a0
  obtain y|y:=E i j
  ·exact f h.oR Q1 (h2▸y)
  omega
 ·obtain y|y:=E i j
  ·exact n (h.oi i y)
  exact .inr ⟨y,j,rfl⟩
 obtain j|rfl:=j
 ·exact⟨5,h.oi i j⟩
 exact⟨1,h.oR⟩
theorem Y2.bookNil(h:Y2 w R cs T tc AL Ap pc Ai ic own m L):Y2 (w.setCell (aD R 7) (.slice none 0 0)) R (cs.setIfInBounds 7 (.slice none 0 0)) T tc none Ap pc Ai ic own {m with L1:=[],L2:=[]} []/\U3 w (w.setCell (aD R 7) (.slice none 0 0)) own own:=by
 have hk:=U1 w (aD R 7) (.slice none 0 0);have f:∀{i k},own i k->k≠1->¬i=R:=fun u D=>h.fit (S:=fun i=>i=R) (fun i u=>u▸h.oR) u D
 have j:=h.rc;exact⟨⟨⟨by rw[DX];exact j.sz,Z1 j.c0 Q1,Z1 j.c1 Q1,Z1 j.c2 Q1,Z1 j.c3 Q1,Z1 j.c4 Q1,Z1 j.c5 Q1,Z1 j.c6 Q1,Z1 j.c8 Q1,Z1 j.c9 Q1,Z1 j.c10 Q1,Z1 j.c11 Q1,Z1 j.c12 Q1,Z1 j.c13 Q1⟩,⟨Z0 h.bk.blk 7 _,⟨0,AK (by have:=j.sz;omega),X3 _,U9 _⟩,⟨rfl,fun y=>absurd y Q1⟩,by simp[X5],fun g C=>by simp[X5]at C⟩,h.tabp.keeps hk (fun i u=>f (h.oT i u) Q1),h.park.keeps hk (fun i u=>f (h.op i u) Q1),h.idr.keeps hk (fun i u=>f (h.oi i u) Q1),Qb7,Q3,h.ok.mono hk.size,h.oR,h.oT,fun i u=>by simp[X5]at u,h.op,h.oi⟩,hk.mono (fun i u=>⟨1,u▸h.oR⟩),fun i k u=>.inl u⟩
theorem N4.below{F}(h:N4 w R F m)(u:Bz w w'):N4 w' R F m:=by obtain⟨cs,T,tc,AL,Ap,pc,Ai,ic,own,L,j,i⟩:=h;exact⟨cs,T,tc,AL,Ap,pc,Ai,ic,own,L,j.below u,i⟩
theorem N4.keeps{F S}(h:N4 w R F m)(hk:X4 S w w')(y:∀i,F i->¬S i):N4 w' R F m:=by obtain⟨cs,T,tc,AL,Ap,pc,Ai,ic,own,L,u,j⟩:=h;exact⟨cs,T,tc,AL,Ap,pc,Ai,ic,own,L,u.keeps hk (fun i k C=>y i ((j i).2 ⟨k,C⟩)),j⟩
theorem N4.lt{F}(h:N4 w R F m){i}(y:F i):i<w.heap.size:=by obtain⟨cs,T,tc,AL,Ap,pc,Ai,ic,own,L,u,j⟩:=h;obtain⟨k,hk⟩:=(j i).1 y;exact u.ok.lt i k hk
theorem F3.same{F}(h:N4 w R F m)(i:Bz w w'):F3 w w' R F m:=⟨F,h.below i,S5 i⟩
abbrev GW:=@F3.same
theorem F3.then_{F w''}(h:F3 w w' R F m)(i:Bz w' w''):F3 w w'' R F m:=by obtain⟨F',h1,h2⟩:=h;exact⟨F',h1.below i,h2.trans (S5 i)⟩
theorem Y2.to_{own0 F w0}(h:Y2 w R cs T tc AL Ap pc Ai ic own m L)(u:U3 w0 w own0 own)(j:∀i,F i↔∃k,own0 i k):F3 w0 w R F m:=⟨_,h.at_,u.bstep j⟩
theorem Y2.perm(h:Y2 w R cs T tc AL Ap pc Ai ic own m L):L.Perm (P1 m):=by
 have i:(P1 m)=KX 1 L++KX 2 L:=by unfold P1;rw[h.twin.s1,h.twin.s2]
 rw[i];refine((Vz 1 L).append (Vz 2 L)).trans ?_ |>.symm
 have C:=fun o u=>(h.twin.ok o u).2
 clear i;have key:∀l,(∀o∈l,V5 o.side)->(G7 1 l++G7 2 l).Perm l:=by
  intro l
  induction l with
  |nil=>intro _;exact Xq _
  |cons x t D=>
   intro y;have ht:=D (fun o u=>y o (VS _ u));obtain e|e:=y x FR
   ·have i:G7 1 (x::t)=x::G7 1 t:=RX (by simp[e])
    have j:G7 2 (x::t)=G7 2 t:=ED (by simp[e]);rw[i,j,DV];exact ht.cons x
   have i:G7 1 (x::t)=G7 1 t:=ED (by simp[e]);have j:G7 2 (x::t)=x::G7 2 t:=RX (by simp[e]);rw[i,j];exact List.perm_middle.trans (ht.cons x)
 exact key L C
end
theorem Qo6{p0 p}(h:P7 (P2 p0) p=true):p=2\/p=3\/p=5\/p=7:=by
 unfold P7 P2 at h
 by_cases h1:p0=1
 ·simp[h1]at h;omega
 by_cases h2:p0=2
 ·simp[h2]at h;omega
 by_cases i:p0=3
 ·simp[i]at h;omega
 by_cases j:p0=5
 ·simp[j]at h;omega
 simp[h1,h2,i,j]at h
theorem KH.five{ps:List (Int×Int)}(h:KH ps):∀k,k<ps.length->(ps.getD k (0,0)).2=1\/(ps.getD k (0,0)).2=2\/(ps.getD k (0,0)).2=3\/(ps.getD k (0,0)).2=5\/(ps.getD k (0,0)).2=7
 |0,hk=>.inl (by rw[h.zero])
 |k+1,hk=>by
  have hw:=h.2.2 (k+1) hk;simp only[XL,UT]at hw
  split at hw
  ·cases hw
  rename_i ha;exact .inr (Qo6 (by simpa using ha))
theorem Bu{m}(h:KH m.rows){t}(ht:0<=t):L5 m t=1\/L5 m t=2\/L5 m t=3\/L5 m t=5\/L5 m t=7:=by
 have i:(m.rows.getD 0 (0,0)).1<=t:=by rw[h.zero];exact ht
 obtain⟨k,hk,-,-,e⟩:=Wq m.rows t i m.rows.length h.1 Q2;unfold L5;rw[e];exact h.five k hk
structure US(m m':Z6):Prop where
 rows:m'.rows=m.rows
 st:m'.st=m.st
 dy:m'.dy=m.dy
 tk:m'.tk=m.tk
 mo:m'.mo=m.mo
theorem US.refl m:US m m:=⟨rfl,rfl,rfl,rfl,rfl⟩
theorem US.trans{m m1 m2}(h:US m m1)(k:US m1 m2):US m m2:=⟨k.rows.trans h.rows,k.st.trans h.st,k.dy.trans h.dy,k.tk.trans h.tk,k.mo.trans h.mo⟩
theorem Th m:US m (VB m):=by obtain⟨i,j,u,y,C,Z,e7,e8,e9,D,E,J,N⟩:=MZ m.pk {m with ph:=5};exact⟨i,j,u,y,C⟩
theorem Xd5 m:US m (QK m):=by
 unfold QK
 split
 ·split
  ·exact⟨rfl,rfl,rfl,rfl,rfl⟩
  split
  ·exact Th m
  exact⟨rfl,rfl,rfl,rfl,rfl⟩
 exact US.refl m
theorem Ra m id:US m (N3 m id):=by
 unfold N3
 split
 ·exact US.refl m
 split<;>exact⟨rfl,rfl,rfl,rfl,rfl⟩
theorem Ck m o:US m (M8 m o)/\(M8 m o).now=m.now/\(((M8 m o).ph=m.ph/\(M8 m o).ends=m.ends/\(M8 m o).lng=m.lng)\/(m.ph=3/\(M8 m o).ph=4/\(M8 m o).ends=m.now+m.tk/\(M8 m o).lng=0)):=by
 unfold M8
 split
 ·unfold UR
  split
  ·exact⟨⟨rfl,rfl,rfl,rfl,rfl⟩,rfl,.inl ⟨rfl,rfl,rfl⟩⟩
  split
  ·exact⟨⟨rfl,rfl,rfl,rfl,rfl⟩,rfl,.inl ⟨rfl,rfl,rfl⟩⟩
  rename_i J;have E:m.ph=3:=by have:¬m.ph≠3:=J;omega
  obtain⟨M,u⟩:=exq (T5 (B7 m (U6 o)) (U6 o));have N:US m M/\M.now=m.now/\M.ph=m.ph/\M.ends=m.ends/\M.lng=m.lng:=by
   rw[<-u];unfold T5
   split<;>exact⟨⟨rfl,rfl,rfl,rfl,rfl⟩,rfl,rfl,rfl,rfl⟩
  obtain⟨i,j,y,C,D⟩:=N;unfold XP;rw[u]
  split
  ·exact⟨i.trans ⟨rfl,rfl,rfl,rfl,rfl⟩,j,.inr ⟨E,rfl,by show M.now+M.tk=_;rw[j,i.tk],rfl⟩⟩
  exact⟨i,j,.inl ⟨y,C,D⟩⟩
 exact⟨US.refl m,rfl,.inl ⟨rfl,rfl,rfl⟩⟩
theorem Jr9 m p:US m (XM m p):=by
 unfold XM
 split
 ·exact⟨rfl,rfl,rfl,rfl,rfl⟩
 split
 ·exact Th m
 exact⟨rfl,rfl,rfl,rfl,rfl⟩
theorem Jh5 m:US m (JB m):=by
 unfold JB
 split
 ·exact⟨rfl,rfl,rfl,rfl,rfl⟩
 split<;>exact⟨rfl,rfl,rfl,rfl,rfl⟩
theorem Qc4 m:US m (G9 m):=by
 unfold G9
 split
 ·exact US.refl m
 have i:US m (V2 m):=⟨rfl,rfl,rfl,rfl,rfl⟩;unfold QR
 split
 ·split<;>exact⟨rfl,rfl,rfl,rfl,rfl⟩
 split
 ·exact i
 split
 ·exact i.trans (Jr9 _ _)
 split
 ·exact i.trans (Jh5 _)
 exact i
theorem Js0 m p:(XM m p).now=m.now:=by
 unfold XM
 split
 ·rfl
 split
 ·exact(MZ m.pk {m with ph:=5}).2.2.2.2.2.2.2.2.2.2.1
 rfl
theorem Ej m p:(XM m p).ph=p:=by
 unfold XM
 split
 ·rename_i h;exact h.symm
 split
 ·rename_i h;rw[Uq];exact h.symm
 rfl
theorem Jh6 m:(JB m).now=m.now:=by
 unfold JB
 split
 ·rfl
 split<;>rfl
theorem Yb m:(G9 m).now=if m.ph=7 then m.now else m.now+1:=by
 unfold G9
 split
 ·rfl
 unfold QR
 split
 ·split<;>rfl
 split
 ·rfl
 split
 ·exact Js0 _ _
 split
 ·exact Jh6 _
 rfl
structure LA(m:Z6)(since:Int):Prop where
 vol:m.ph=4->since+(m.ends-m.now)=m.tk*(m.lng+1)/\0<m.ends-m.now/\m.lng<=m.mo
 non:m.ph≠4->since=0
theorem LA.lt{m since}(h:LA m since)(hk:D5 m):since<m.tk*(1+m.mo):=by
 have h1:=hk.tk.1;have h2:=hk.mo.1
 by_cases i:m.ph=4
 ·obtain⟨j,u,y⟩:=h.vol i
  have:m.tk*(m.lng+1)<=m.tk*(1+m.mo):=Int.mul_le_mul_of_nonneg_left Q0 Q0;omega
 rw[h.non i];exact Int.mul_pos Q0 Q0
def Qh9(m:Z6)(since:Int):Int:=if(G9 m).ph=4 then(if m.ph=4 then since+1 else since)else 0
theorem LA.tick{m since}(h:LA m since)(hk:D5 m)(hn:0<=m.now):LA (G9 m) (Qh9 m since):=by
 refine⟨fun i=>?_,fun i=>J8 i⟩;unfold Qh9;rw[X0 i];have u:=Qc4 m;have j:=Yb m;unfold G9 at i j u|-
 by_cases J:m.ph=7
 ·rw[X0 J]at i;omega
 rw[J8 J]at i j u|-;rw[J8 J]at j;unfold QR at i j u|-
 by_cases Z:L5 (V2 m) (V2 m).now=7
 ·rw[X0 Z]at i
  exact absurd i (by show¬((7:Int)=4);omega)
 rw[J8 Z]at i j u|-
 by_cases D:(V2 m).ph=6
 ·rw[X0 D]at i
  have D:m.ph=6:=D;have i:m.ph=4:=i;omega
 rw[J8 D]at i j u|-
 by_cases ew:L5 m m.now≠L5 (V2 m) (V2 m).now
 ·rw[X0 ew,Ej]at i
  have:=Bu (m:=V2 m) hk.tab (t:=(V2 m).now) (by show 0<=m.now+1;omega);omega
 rw[J8 ew]at i j u|-
 by_cases C:(V2 m).ph=4/\(V2 m).ends<=(V2 m).now
 ·rw[X0 C]at i j u|-
  have y:m.ph=4:=C.1;have me:m.ends<=m.now+1:=C.2;obtain⟨a1,a2,N⟩:=h.vol y;rw[X0 y];unfold JB at i|-
  by_cases hc:DN (V2 m)
  ·rw[X0 hc]at i
   exact absurd i (by show¬((3:Int)=4);omega)
  rw[J8 hc]at i|-
  by_cases E:(V2 m).lng<(V2 m).mo
  ·rw[X0 E]
   have E:m.lng<m.mo:=E;have a0:=hk.tk.1;refine⟨?_,?_,?_⟩
   ·show since+1+((m.now+1+m.tk)-(m.now+1))=m.tk*(m.lng+1+1)
    rw[Int.mul_add m.tk (m.lng+1) 1];omega
   ·show 0<(m.now+1+m.tk)-(m.now+1)
    omega
   show m.lng+1<=m.mo;omega
  rw[J8 E]at i;exact absurd i (by show¬((6:Int)=4);omega)
 rw[J8 C]at i|-;have y:m.ph=4:=i;obtain⟨a1,a2,N⟩:=h.vol y;have me:¬m.ends<=m.now+1:=fun e=>C ⟨y,e⟩
 rw[X0 y];refine⟨?_,?_,N⟩
 ·show since+1+(m.ends-(m.now+1))=m.tk*(m.lng+1)
  omega
 show 0<m.ends-(m.now+1);omega
theorem LA.order{m since}(h:LA m since)(hk:D5 m)o:LA (M8 m o) since:=by
 obtain⟨j,y,⟨u,C,D⟩|⟨N,E,J,b3⟩⟩:=Ck m o
 ·refine⟨fun i=>?_,fun i=>?_⟩
  ·rw[C,D,y,j.tk,j.mo];exact h.vol (u▸i)
  exact h.non (u▸i)
 refine⟨fun _=>?_,fun i=>absurd E i⟩;rw[J,b3,y,j.tk,j.mo,h.non Q0];have:=hk.tk.1;have:=hk.mo.1;refine⟨?_,Q0,Q0⟩;rw[Int.mul_add,Int.mul_zero,Int.mul_one];omega
theorem Bv m id:(N3 m id).ph=m.ph/\(N3 m id).now=m.now/\(N3 m id).ends=m.ends/\(N3 m id).lng=m.lng:=by
 unfold N3
 split
 ·exact⟨rfl,rfl,rfl,rfl⟩
 split<;>exact⟨rfl,rfl,rfl,rfl⟩
theorem LA.cancel{m since}(h:LA m since)id:LA (N3 m id) since:=by
 obtain⟨j,y,C,D⟩:=Bv m id;have u:=Ra m id;refine⟨fun i=>?_,fun i=>?_⟩
 ·rw[y,C,D,u.tk,u.mo];exact h.vol (j▸i)
 exact h.non (j▸i)
structure AU(m:Z6):Prop where
 now:0<=m.now
 ended:m.ph=7↔L5 m m.now=7
 none_:m.ph=7->m.L1=[]/\m.L2=[]/\m.pk=[]
theorem AU.of{m m'}(h:AU m)(j:US m m')(i:m'.now=m.now)(hp:m'.ph=7↔m.ph=7)(u:m'.ph=7->m'.L1=[]/\m'.L2=[]/\m'.pk=[]):AU m':=by refine⟨by rw[i];exact h.now,?_,u⟩;rw[hp,h.ended];unfold L5;rw[j.rows,i]
theorem AU.order{m}(h:AU m)o:AU (M8 m o):=by
 obtain⟨D,J,hp⟩:=Ck m o;refine h.of D J ?_ ?_
 ·rcases hp with⟨i,-,-⟩|⟨u,y,-,-⟩
  ·rw[i]
  omega
 intro C;have j:m.ph=7:=by
  rcases hp with⟨i,-,-⟩|⟨u,y,-,-⟩
  ·rw[<-i];exact C
  omega
 have e:M8 m o=m:=by unfold M8;rw[J8];intro E;have:=(Bt E).2.2.1;rw[j]at this;unfold YC at this;simp at this
 rw[e];exact h.none_ j
theorem AU.cancel{m}(h:AU m)id:AU (N3 m id):=by obtain⟨i,u,C,D⟩:=Bv m id;refine h.of (Ra m id) u (by rw[i]) (fun y=>?_);have j:m.ph=7:=i▸y;have e:N3 m id=m:=X0 j;rw[e];exact h.none_ j
theorem AU.halt{m}(h:AU m):AU (JN m):=by
 unfold JN
 by_cases i:m.ph=6\/m.ph=7
 ·rw[X0 i];exact h
 rw[J8 i];refine h.of ⟨rfl,rfl,rfl,rfl,rfl⟩ rfl ⟨fun e=>absurd e (by show¬((6:Int)=7);omega),fun e=>absurd (.inr e) i⟩ (fun e=>absurd e (by show¬((6:Int)=7);omega))
theorem AU.open_{m}(h:AU m):AU (QK m):=by
 have i:=Xd5 m;unfold QK at i|-
 by_cases y:m.ph=6
 ·rw[X0 y]at i|-
  have C:L5 m m.now≠7:=fun e=>by have:=h.ended.2 e;omega
  by_cases j:L5 m m.now=3
  ·rw[X0 j]at i|-
   exact h.of i rfl ⟨fun e=>absurd e (by show¬((4:Int)=7);omega),fun e=>Q0⟩ (fun e=>absurd e (by show¬((4:Int)=7);omega))
  rw[J8 j]at i|-
  by_cases u:L5 m m.now=5
  ·rw[X0 u]at i|-
   have D:(VB m).now=m.now:=(MZ m.pk {m with ph:=5}).2.2.2.2.2.2.2.2.2.2.1;exact h.of i D ⟨fun e=>(by rw[Uq]at e;cases e),fun e=>Q0⟩ (fun e=>(by rw[Uq]at e;cases e))
  rw[J8 u]at i|-;exact h.of i rfl ⟨fun e=>absurd e C,fun e=>Q0⟩ (fun e=>absurd e C)
 rw[J8 y];exact h
theorem AU.tick{m}(h:AU m):AU (G9 m):=by
 have C:=Yb m;have N:=Qc4 m;have Z:L5 (G9 m) (G9 m).now=L5 m (G9 m).now:=by unfold L5;rw[N.rows]
 by_cases j:m.ph=7
 ·have e:G9 m=m:=X0 j
  rw[e];exact h
 rw[J8 j]at C;have key:((G9 m).ph=7↔L5 m (m.now+1)=7)/\((G9 m).ph=7->(G9 m).L1=[]/\(G9 m).L2=[]/\(G9 m).pk=[]):=by
  unfold G9;rw[J8 j];unfold QR
  by_cases i:L5 (V2 m) (V2 m).now=7
  ·rw[X0 i]
   exact⟨⟨fun _=>i,fun _=>rfl⟩,fun _=>⟨rfl,rfl,rfl⟩⟩
  rw[J8 i];have u:∀{K:Z6},K.ph≠7->(K.ph=7↔L5 m (m.now+1)=7)/\(K.ph=7->K.L1=[]/\K.L2=[]/\K.pk=[]):=fun J=>⟨⟨fun e=>absurd e J,fun e=>absurd e i⟩,fun e=>absurd e J⟩
  by_cases y:(V2 m).ph=6
  ·rw[X0 y]
   exact u (by rw[y];decide)
  rw[J8 y]
  by_cases E:L5 m m.now≠L5 (V2 m) (V2 m).now
  ·rw[X0 E]
   exact u (by rw[Ej];exact i)
  rw[J8 E]
  by_cases D:(V2 m).ph=4/\(V2 m).ends<=(V2 m).now
  ·rw[X0 D]
   refine u ?_;unfold JB
   split
   ·exact fun e=>absurd e (by show¬((3:Int)=7);omega)
   split
   ·show¬m.ph=7;exact j
   exact fun e=>absurd e (by show¬((6:Int)=7);omega)
  rw[J8 D];exact u j
 refine⟨by rw[C];have:=h.now;omega,?_,key.2⟩;rw[Z,C];exact key.1
