/- Parts. -/
import Derived.Test.YtnlngicnfegjgaaGreatDoorZq43
set_option linter.unusedVariables false
set_option maxRecDepth 100000
set_option maxHeartbeats 8000000
open Go.Proofs.Tryz
open Go.Value renaming int→I,pointer→IP
open Go.IntKind renaming i64→O
namespace Go.Proofs.YtnlngicnfegjgaaGreatDoor
open Go.RowKit
def XZ (w w':World) (R:Nat) (F:Nat->Prop) (P:List B5->Prop) (m:X7) (E:Int) (ev:Ending):Prop:=
 ∃A c Fs,ev= .returned (.tuple #[.slice A (List.length Fs) c,I O E])/\P Fs/\J2 w' A Fs.length c 89 4 (Q9 D8 Fs)/\(∀g,Q7 A=some g->w.heap.size<=g)/\ ∃F',D7 w' R F' m/\Z3 w w' F F'/\ ∀g,Q7 A=some g-> ¬F' g
theorem XZ.none_ {w w' R F P m E} (h:C9 w w' R F m) (j:P []):XZ w w' R F P m E (.returned (.tuple #[.slice none 0 0,I O E])):=by
 obtain⟨F',h1,h2⟩:=h
 exact⟨none,0,[],rfl,j,JX _ _ _ _,fun g i=>by simp[Q7]at i,F',h1,h2,fun g i=>by simp[Q7]at i⟩
abbrev YR:=@XZ.none_
theorem AJ.told {w w' R F P m A n c} (h:AJ w w' R F P m (.returned (.slice A n c))) E:XZ w w' R F P m E (.returned (.tuple #[.slice A n c,I O E])):=by
 obtain⟨A',c',Fs,h1,h2,i,j,u⟩:=h
 cases h1
 exact⟨A,c,Fs,rfl,h2,i,j,u⟩
theorem AJ.step {w w1 w2 R F P m m2 ev} (h:AJ w w1 R F P m ev) (k: ∀i,D7 w1 R i m->C9 w1 w2 R i m2):AJ w w2 R F P m2 ev:=by
 obtain⟨A,c,Fs,h1,h2,u,N,i,J,E,y⟩:=h
 obtain⟨U,D,j⟩:=k i J
 refine⟨A,c,Fs,h1,h2,u.keeps j.1 y,N,U,D,E.trans j,fun g C Z=> ?_⟩
 rcases j.2 g Z with v|v
 ·exact y g C v
 have:=u.lt C;omega
theorem AJ.from_ {w w1 w' R F F1 P m ev} (i:Z3 w w1 F F1) (h:AJ w1 w' R F1 P m ev):AJ w w' R F P m ev:=by
 obtain⟨A,c,Fs,h1,h2,j,D,F',y,u,v⟩:=h
 exact⟨A,c,Fs,h1,h2,j,fun g C=>G0 i.1.size (D g C),F',y,i.trans u,v⟩
theorem D7.cells {w R F m} (h:D7 w R F m):w.cell? ⟨R,10,none⟩=some (I O m.ph)/\w.cell? ⟨R,11,none⟩=some (I O m.now)/\w.cell? ⟨R,12,none⟩=some (I O m.ends)/\w.cell? ⟨R,13,none⟩=some (I O m.lng)/\w.cell? ⟨R,5,none⟩=some (I O m.tk)/\w.cell? ⟨R,6,none⟩=some (I O m.mo)/\ ∀i,w.frozen? ⟨R,i,none⟩=false:=by
 obtain⟨cs,T,tc,AL,Ap,pc,Ai,ic,own,L,j,u⟩:=h
 exact⟨j.cell j.rc.c10,j.cell j.rc.c11,j.cell j.rc.c12,j.cell j.rc.c13,j.cell j.rc.c5,j.cell j.rc.c6,fun i=>j.frozen i⟩
theorem D7.lngEnds {w R F m} (h:D7 w R F m) u v:C9 w ((w.setCell ⟨R,13,none⟩ (I O u)).setCell ⟨R,12,none⟩ (I O v)) R F {m with lng:=u,ends:=v}:=by
 obtain⟨cs,T,tc,AL,Ap,pc,Ai,ic,own,L,C,y⟩:=h
 obtain⟨h1,h2⟩:=C.setLng u
 obtain⟨i,j⟩:=h1.setEnds v
 exact i.to_ (h2.trans j) y
theorem D7.over {w R F m} (h:D7 w R F m):C9 w (((w.setCell ⟨R,7,none⟩ (.slice none 0 0)).setCell ⟨R,8,none⟩ (.slice none 0 0)).setCell ⟨R,10,none⟩ (I O 7)) R F (YF m)/\(∃u,w.cell? ⟨R,7,none⟩=some u)/\(∃u,w.cell? ⟨R,8,none⟩=some u)/\(∃u,w.cell? ⟨R,10,none⟩=some u)/\ ∀i,w.frozen? ⟨R,i,none⟩=false:=by
 obtain⟨cs,T,tc,AL,Ap,pc,Ai,ic,own,L,j,E⟩:=h
 obtain⟨h1,h2⟩:=j.bookNil
 obtain⟨own2,v,D⟩:=h1.pkNil
 obtain⟨C,y⟩:=v.setPh 7
 obtain⟨c,J,-,-⟩:=j.bk.cell
 exact⟨V8.to_ (m:=YF m) C ((h2.trans D).trans y) E,⟨_,J⟩,⟨_,j.cell j.rc.c8⟩,⟨_,j.cell j.rc.c10⟩,fun i=>j.frozen i⟩
theorem Qw5 {w R F m} (h:D7 w R F m) (hT:KD m.rows) (hI:VD m) (j8:VD (K0 m)):
  Calls prog 24 #[IP (some ⟨R,0,none⟩)] w fun ev w'=>XZ w w' R F (AV m) (N5 m) (DW m) ev:=by
 have hE:=h
 obtain⟨cs,T,tc,AL,Ap,pc,Ai,ic,own,L,hM,hF⟩:=h
 have C:=hM.cell hM.rc.c10
 by_cases p7:m.ph=7
 ·have d7:=Z0 p7
  have HS:Hid (AV m []/\N5 m=m/\DW m=6):=Q0 ⟨by unfold AV;rw[Q5 p7],by unfold N5;rw[Q5 p7],by unfold DW;rw[Q5 p7]⟩;have HE:=Q0 hE;obtain⟨ph,e4⟩:=exq m.ph;rw[e4]at C d7;clear p7 hE hM hF hI j8 e4 hT;go_enter func24,ntmps24
  go_wp2;go_ret2;rw[HS.2.1,HS.2.2];exact YR (DE HE (Q2 _ _)) HS.1
 have d7:=X3 p7
 obtain⟨⟨y,a2⟩,ha⟩: ∃q,phAt m.rows m.now m.rows.length=q:=⟨_,rfl⟩
 obtain⟨⟨v,b2⟩,hb⟩: ∃q,phAt m.rows (m.now+1) m.rows.length=q:=⟨_,rfl⟩
 have g7:=Q0 (fun W hW=>Uf hM hT m.now W hW ha)
 have f2:Hid (DW m=0/\N5 m=W7 y (K0 m)/\AV m=QP y (K0 m)/\C8 (K0 m) (K0 m).now=v):=by
  refine Q0 ⟨by unfold DW;rw[Q3 p7], ?_, ?_, ?_⟩
  ·unfold N5 C8;rw[Q3 p7,ha]
  ·funext Fs;unfold AV C8;rw[Q3 p7,ha]
  exact E7 Prod.fst hb
 rw[f2.1,f2.2.1,f2.2.2.1]
 have c0:=hM.cell hM.rc.c0
 have u:=hM.cell hM.rc.c11
 have HM:=Q0 hM
 have HF:=Q0 hF
 have HI:=Q0 j8
 have l5:=Q0 hT
 have k7:=Q0 hb
 have i1:RowKit.wrap64 (m.now+1)=m.now+1:=by
  have h1:=hI.now;unfold RowKit.wrap64;omega
 obtain⟨nw,j9⟩:=exq m.now
 rw[j9]at u g7 i1
 have g8:=Q0 j9
 obtain⟨ph,e4⟩:=exq m.ph
 rw[e4]at C d7
 have l7:=Q0 e4
 obtain⟨tn,i9⟩:=exq m.rows.length
 rw[i9]at c0 g7
 have k2:=Q0 i9
 clear p7 hE hM hF hI j8 e4 ha hb j9 hT i9
 go_enter func24,ntmps24
 go_upto_region 3 with fail
 refine XF (fun t=> [].contains t) (fun W=>W.cell? ⟨R,0,none⟩=some (.slice T tn tc)/\W.cell? ⟨R,11,none⟩=some (I O nw)) (by kernel_rfl) ⟨c0,u⟩ (fun a6=> ?_)
 refine tM 0 (IP (some ⟨R,0,none⟩)) ?_
 refine tM 1 (IP (some ⟨R,0,none⟩)) ?_
 refine tM 2 (IP (some ⟨R,0,none⟩)) ?_
 refine tM 3 (.slice T tn tc) ?_
 refine tM 4 (IP (some ⟨R,0,none⟩)) ?_
 refine tM 5 (IP (some ⟨R,0,none⟩)) ?_
 refine tM 6 (IP (some ⟨R,11,none⟩)) ?_
 refine tM 7 (I O nw) ?_
 refine oM 8 fun K9 f9=> ?_
 go_simp
 refine(g7 w.drew (J3 (Q2 _ _))).mono ?_
 rintro ev w3 ⟨rfl,hq⟩
 refine f9 _ _ (fun _=>⟨T9 a6.1 hq,T9 a6.2 hq⟩) ?_
 have j4:=And.intro (T9 a6.1 hq) (T9 a6.2 hq)
 clear f9 a6
 refine tM 9 (.tuple #[I O y,I O a2]) ?_
 refine tM 10 (I O y) ?_
 refine tM 11 (I O a2) ?_
 refine tM 12 (I O y) ?_
 refine tM 13 (I O a2) ?_
 refine D5 (by kernel_rfl) ?_ _
 have k6:Below w.heap.size w w3:=(J3 (Q2 _ w)).trans hq
 have f4:=HM.below k6
 have u:=f4.cell f4.rc.c11
 rw[g8.out]at u
 have m9:=f4.frozen 11
 obtain⟨c1,k5⟩:=f4.setNow (nw+1)
 have j0:=Q0 k6
 clear c0 C j4 hq k6 f4 g7
 go_upto_region 5 with fail
 obtain⟨w4,l3⟩:=exq (w3.setCell ⟨R,11,none⟩ (I O (nw+1)))
 rw[l3]at c1 k5|-
 have em:({m with now:=nw+1}:X7)=K0 m:=by unfold K0;rw[g8.out]
 rw[em]at c1
 have h8:=Q0 (fun W hW=>Uf (a:=v) (b:=b2) c1 l5 (nw+1) W hW (by have h:=k7.out;rw[g8.out]at h;exact h))
 rw[show(K0 m).rows.length=tn from k2.out]at h8
 clear l3 u m9 i1
 have c0:=c1.cell c1.rc.c0
 rw[show(K0 m).rows.length=tn from k2.out]at c0
 have u:=c1.cell c1.rc.c11
 have k4:(K0 m).now=nw+1:=by rw[<-em]
 rw[k4]at u
 have l2:=Q0 c1
 have l8:=Q0 k5
 have c4:=Q0 k4
 clear c1 k5 em k4
 refine XF (fun t=> [].contains t) (fun W=>W.cell? ⟨R,0,none⟩=some (.slice T tn tc)/\W.cell? ⟨R,11,none⟩=some (I O (nw+1))) (by kernel_rfl) ⟨c0,u⟩ (fun a6=> ?_)
 refine tM 0 (IP (some ⟨R,0,none⟩)) ?_
 refine tM 1 (IP (some ⟨R,0,none⟩)) ?_
 refine tM 2 (IP (some ⟨R,0,none⟩)) ?_
 refine tM 3 (.slice T tn tc) ?_
 refine tM 4 (IP (some ⟨R,0,none⟩)) ?_
 refine tM 5 (IP (some ⟨R,0,none⟩)) ?_
 refine tM 6 (IP (some ⟨R,11,none⟩)) ?_
 refine tM 7 (I O (nw+1)) ?_
 refine oM 8 fun K9 f9=> ?_
 go_simp
 refine(h8 w4.drew (J3 (Q2 _ _))).mono ?_
 rintro ev w5 ⟨rfl,hq⟩
 refine f9 _ _ (fun _=>⟨T9 a6.1 hq,T9 a6.2 hq⟩) ?_
 have j4:=And.intro (T9 a6.1 hq) (T9 a6.2 hq)
 clear f9 a6
 refine tM 9 (.tuple #[I O v,I O b2]) ?_
 refine tM 10 (I O v) ?_
 refine tM 11 (I O b2) ?_
 refine tM 12 (I O v) ?_
 refine tM 13 (I O b2) ?_
 refine D5 (by kernel_rfl) ?_ _
 have j3:Below w4.heap.size w4 w5:=(J3 (Q2 _ w4)).trans hq
 have l0:=l2.below j3
 have g1:D7 w5 R _ (K0 m):=l0.at_
 have i6:=(((F8 j0).trans l8).trans (F8 j3)).bstep HF
 obtain⟨F5,l1⟩:=exr (fun i=> ∃k,own i k)
 rw[<-l1]at g1 i6
 obtain⟨C,u,a0,J,N,U,j⟩:=g1.cells
 have b8:=j 10
 have a4:=j 12
 have a5:=j 13
 have h7:(K0 m).ph=ph:=l7.out
 rw[h7]at C
 rw[c4.out]at u
 have b0:=Q0 g1
 have b9:=Q0 i6
 have a3:Hid (C8 (K0 m) (K0 m).now=v):=Q0 f2.2.2.2
 have D:=Q0 h7
 clear c0 j4 hq j3 l0 g1 i6 l1 HM l2 l8 j0 h8 HF k7 l5 j h7
 obtain⟨n,h6⟩:=exq (K0 m)
 rw[h6]at b0 a3 D c4 HI a0 J N U
 have a9:=Q0 h6
 clear h6 f2 l7 g8 k2
 by_cases Z:v=7
 ·have e7:=Z0 Z
  by_cases p5:ph=5
  ·have d5:=Z0 p5
   have HS:Hid (QP y n=QW n/\W7 y n=YF (KJ n)):=by
    refine Q0 ⟨?_, ?_⟩
    ·funext Fs;unfold QP;rw[a3.out,Q5 Z,Q5 (D.trans p5)]
    unfold W7;rw[a3.out,Q5 Z,Q5 (D.trans p5)]
   clear Z p5;go_wp2_with fail
   refine(Vi b0 HI.la).mono ?_;rintro ev w6 ⟨A,c,Fs,rfl,d0,c7,d2,F6,c9,c8,c2⟩;have f5:=Q0 (And.intro c7 (And.intro d2 (And.intro d0 (And.intro c8 c2))));obtain⟨g0,⟨u7,x7⟩,⟨u8,x8⟩,⟨m5,k9⟩,j⟩:=c9.over;have y7:=j 7;have y8:=j 8;have n1:=j 10;have j7:=Q0 g0;clear d0 c7 d2 c9 c8 c2 C u a0 J N U b8 a4 a5 g0 j;go_wp2_with fail
   go_ret2;rw[a9.out];obtain⟨h1,h2,h3,h4,h5⟩:=f5.out;obtain⟨F7,f8,a7⟩:=j7.out;rw[HS.1,HS.2];refine AJ.told (AJ.from_ b9 ⟨A,c,Fs,rfl,h3,h1.keeps a7.1 h5,h2,F7,f8,h4.trans a7,fun g hg hF=> ?_⟩) 0;rcases a7.2 g hF with d3|d3
   ·exact h5 g hg d3
   have:=h1.lt hg;omega
  have d5:=X3 p5;have HS:Hid (QP y n []/\W7 y n=YF n):=by
   refine Q0 ⟨?_, ?_⟩
   ·unfold QP;rw[a3.out,Q5 Z,Q3 (fun x=>p5 (D.symm.trans x))]
   unfold W7;rw[a3.out,Q5 Z,Q3 (fun x=>p5 (D.symm.trans x))]
  obtain⟨g0,⟨u7,x7⟩,⟨u8,x8⟩,⟨m5,k9⟩,j⟩:=b0.over;have y7:=j 7;have y8:=j 8;have j7:=Q0 g0;clear Z p5 g0 j k9 u a0 J N U a4 a5;go_wp2_with fail
  go_ret2;rw[a9.out];rw[HS.2];exact YR (NZ b9 j7) HS.1
 have e7:=X3 Z
 have n2:=JF Z
 by_cases p6:ph=6
 ·have d6:=Z0 p6
  have HS:Hid (QP y n []/\W7 y n=n):=by
   refine Q0 ⟨?_, ?_⟩
   ·unfold QP;rw[a3.out,Q3 Z,Q5 (D.trans p6)]
   unfold W7;rw[a3.out,Q3 Z,Q5 (D.trans p6)]
  clear Z p6;go_wp2_with fail
  go_ret2;rw[a9.out];rw[HS.2];exact YR (NZ b9 (DE b0 (Q2 _ _))) HS.1
 have d6:=X3 p6
 have q6: ¬n.ph=6:=fun x=>p6 (D.symm.trans x)
 have e8:=Q0 q6
 have e2:=Q0 Z
 by_cases ab:y=v
 ·have m4:=JW ab
  have g6:=Q0 ab;clear Z p6 q6 ab;obtain⟨en,j5⟩:=exq n.ends;rw[j5]at a0;have n0:=Q0 j5;clear j5;have f0:Hid (∀c,[Decidable c]->(c↔(n.ph=4/\n.ends<=n.now))->(c->QP y n=KU n/\W7 y n=QU n)/\(¬c->QP y n []/\W7 y n=n)):=by
   refine Q0 (fun c _ E=>⟨fun h=>⟨?_, ?_⟩,fun h=>⟨?_, ?_⟩⟩)
   ·funext Fs;unfold QP;rw[a3.out,Q3 e2,Q3 e8,Q3 (fun x=>x g6),Q5 (E.1 h)]
   ·unfold W7;rw[a3.out,Q3 e2,Q3 e8,Q3 (fun x=>x g6),Q5 (E.1 h)]
   ·unfold QP;rw[a3.out,Q3 e2,Q3 e8,Q3 (fun x=>x g6),Q3 (fun x=>h (E.2 x))]
   unfold W7;rw[a3.out,Q3 e2,Q3 e8,Q3 (fun x=>x g6),Q3 (fun x=>h (E.2 x))]
  have e9:Hid ((ph=4/\en<=nw+1)↔(n.ph=4/\n.ends<=n.now)):=Q0 (by rw[c4.out,D.out,n0.out])
  by_cases p4:ph=4
  ·have d4:=Z0 p4
   by_cases h0:en<=nw+1
   ·have d8:=Z5 h0
    have HS:=Q0 ((f0 _ e9).1 ⟨p4,h0⟩);clear p4 f0 e9;go_wp2_with fail
    go_quiet (fail)
    have g9:=Q0 (b0.below (U7 (Q2 _ _) nq));have i5:=Q0 (b9.trans (C1 (U7 (Q2 w5.heap.size w5) nq)));clear C u a0 J N U b8 a4 a5 b0 b9;generalize w5.drewN nq=w6 at g9 i5|-;have f7:=Q0 (Ue g9 HI.la);obtain⟨⟨t0,t1,t2⟩,ht⟩: ∃q,P5 n=q:=⟨_,rfl⟩;rw[ht]at f7;have HT:=Q0 ht;unfold QX at f7;dsimp only at f7;clear ht;go_wp2_with fail
    refine f7.mono ?_;rintro ev w7 ⟨rfl,k1⟩;have j1:Below w7.heap.size w7 (w7.alloc (.cells #[I O t0,I O t1,I O t2] 83)):=(Q2 _ w7).alloc (Q4 _) _;have hX:=J9 w7 83 #[I O t0,I O t1,I O t2];obtain⟨w8,k3⟩:=exq (w7.alloc (.cells #[I O t0,I O t1,I O t2] 83));obtain⟨gq,eq⟩:=exq w7.heap.size;rw[k3]at j1 hX;rw[eq]at hX;have j6:=k1.trans (j1.mono k1.size);have g2:=g9.below j6;have l6:=Q0 (i5.trans (C1 j6));have HX:=Q0 hX;have k8:=Q0 g2;obtain⟨C,u,a0,J,N,U,j⟩:=g2.cells;have b8:=j 10;have a4:=j 12;have a5:=j 13;have h9:=Q0 (Qv9 g2 t0);clear k1 j1 hX j6 g2 j g9 i5 f7;obtain⟨q0,q1,q2⟩:=NA HX;obtain⟨cb,j2⟩:=exq (US n.st n.an t0);rw[j2]at h9;have i0:Hid (BE n↔(t1=0\/cb=true)):=Q0 (by unfold BE;rw[HT.out,<-j2]);obtain⟨lg,k0⟩:=exq n.lng;obtain⟨mo,i8⟩:=exq n.mo;obtain⟨tk,i3⟩:=exq n.tk;rw[k0]at J;rw[i8]at U;rw[i3]at N;rw[c4.out]at u;have e6:=Q0 k0;have i4:=Q0 i8;have g4:=Q0 i3;clear j2 k0 i8 i3;go_upto_region 22 with fail
    try rw[k3]
    try rw[eq]
    clear k3 eq
    go_cut [126] (fun m3 wx=>m3= .bool (decide (BE n))/\Below w8.heap.size w8 wx)
    case first=>
     clear C u a0 J N U b8 a4 a5
     by_cases h1:t1=0
     ·have d1:=Z0 h1
      have HK:Hid (decide (BE n)=true):=Q0 (EC (i0.2 (.inl h1)));clear h1;go_wp2_with fail
      go_meet;exact⟨by rw[HK.out],Q2 _ _⟩
     have d1:=X3 h1;have HK:Hid (decide (BE n)=cb):=Q0 (by
      cases cb with
      |true=>exact EC (i0.2 (.inr rfl))
      |false=>exact PP (fun x=>(i0.1 x).elim h1 (fun e=>by cases e)))
     clear h1;go_wp2_with fail
     refine h9.mono ?_;rintro ev w9 ⟨rfl,f3⟩;go_wp2_with fail
     go_meet;exact⟨by rw[HK.out],f3⟩
    obtain⟨rfl,f3⟩:=hcut;have d9:=Q0 (k8.below f3);have e3:=Q0 (l6.trans (C1 f3));obtain⟨w9,m0⟩:=exq wc;rw[m0]at d9 e3|-;clear m0 q0 q1 q2 C u a0 J N U b8 a4 a5 f3 h9 HX k8 l6
    by_cases E:BE n
    ·have e5:=EC E
     rw[e5];have c3:Hid (KU n=QW n/\QU n= {KJ n with ph:=3}):=Q0 ⟨by funext Fs;unfold KU;rw[Q5 E],by unfold QU;rw[Q5 E]⟩;clear E e5;go_wp2_with fail
     refine(Vi d9 HI.la).mono ?_;rintro ev w6 ⟨A,c,Fs,rfl,d0,c7,d2,F6,c9,c8,c2⟩;have f5:=Q0 (And.intro c7 (And.intro d2 (And.intro d0 (And.intro c8 c2))));have a8:=c9.setPh 3;have e1:=Q0 a8.1;obtain⟨-,⟨u0,x1⟩,x2⟩:=a8;clear d0 c7 d2 c9 c8 c2;go_wp2_with fail
     go_ret2;rw[a9.out,HS.1,HS.2,c3.1,c3.2];obtain⟨h1,h2,h3,h4,h5⟩:=f5.out;obtain⟨F7,f8,a7⟩:=e1.out;refine AJ.told (AJ.from_ e3 ⟨A,c,Fs,rfl,h3,h1.keeps a7.1 h5,h2,F7,f8,h4.trans a7,fun g hg hF=> ?_⟩) 0;rcases a7.2 g hF with d3|d3
     ·exact h5 g hg d3
     have:=h1.lt hg;omega
    have e5:=PP E;rw[e5];obtain⟨C,u,a0,J,N,U,j⟩:=d9.cells;rw[e6.out]at J;rw[i4.out]at U;rw[g4.out]at N;rw[c4.out]at u;have b8:=j 10;have a4:=j 12;have a5:=j 13
    by_cases hl:lg<mo
    ·have dl:=Z5 hl
     have c3:Hid (KU n []/\QU n= {n with lng:=lg+1,ends:=nw+1+tk}):=Q0 ⟨by unfold KU;rw[Q3 E],by unfold QU;rw[Q3 E,Q5 (by rw[e6.out,i4.out];exact hl),e6,g4,c4.out]⟩;have i1:RowKit.wrap64 (lg+1)=lg+1:=by
      have h1:=HI.lng;rw[e6.out]at h1;unfold RowKit.wrap64;omega
     have i2:RowKit.wrap64 (nw+1+tk)=nw+1+tk:=by
      have h1:=HI.now;have h2:=HI.tk;rw[c4.out]at h1;rw[g4.out]at h2;unfold RowKit.wrap64;omega
     clear E e5 hl j;go_wp2_with fail
     go_quiet (fail)
     have D:=Q0 (d9.below (U7 (Q2 _ _) nq));have f6:=Q0 (e3.trans (C1 (U7 (Q2 w9.heap.size w9) nq)));clear C u a0 J N U b8 a4 a5 d9 e3;generalize w9.drewN nq=m8 at D f6|-;obtain⟨C,u,a0,J,N,U,j⟩:=D.cells;rw[e6.out]at J;rw[g4.out]at N;rw[c4.out]at u;have a4:=j 12;have a5:=j 13;have l9:=D.lngEnds (lg+1) (nw+1+tk);have m7:=Q0 l9;clear j C U l9;go_upto_region 27 with fail
     go_region
     go_wp2_with fail
     go_ret2;rw[a9.out,HS.1,HS.2,c3.2];refine YR (NZ f6 (m7.then_ ?_)) c3.1;exact J3 (Q2 _ _)
    have dl:=Z1 hl;have c3:Hid (KU n []/\QU n= {n with ph:=6}):=Q0 ⟨by unfold KU;rw[Q3 E],by unfold QU;rw[Q3 E,Q3 (by rw[e6.out,i4.out];exact hl)]⟩;clear E e5 hl j;go_wp2_with fail
    go_quiet (fail)
    have D:=Q0 (d9.below (U7 (Q2 _ _) nq));have f6:=Q0 (e3.trans (C1 (U7 (Q2 w9.heap.size w9) nq)));clear C u a0 J N U b8 a4 a5 d9 e3;generalize w9.drewN nq=m8 at D f6|-;have a8:=D.setPh 6;have e1:=Q0 a8.1;obtain⟨-,⟨u0,x1⟩,x2⟩:=a8;go_wp2_with fail
    go_ret2;rw[a9.out,HS.1,HS.2,c3.2];exact YR (NZ f6 e1) c3.1
   have d8:=Z1 h0;have HS:=Q0 ((f0 _ e9).2 (fun x=>h0 x.2));clear p4 f0 e9;go_wp2_with fail
   go_quiet (fail)
   go_wp2_with fail
   go_ret2;rw[a9.out];rw[HS.2];exact YR (NZ b9 (DE b0 (U7 (Q2 _ _) _))) HS.1
  have d4:=X3 p4;have HS:=Q0 ((f0 _ e9).2 (fun x=>p4 x.1));clear p4 f0 e9;go_wp2_with fail
  go_quiet (fail)
  go_wp2_with fail
  go_ret2;rw[a9.out];rw[HS.2];exact YR (NZ b9 (DE b0 (U7 (Q2 _ _) _))) HS.1
 have m4:=JF ab
 have HS:Hid (QP y n=ZA n v/\W7 y n=JZ n v):=by
  refine Q0 ⟨?_, ?_⟩
  ·funext Fs;unfold QP;rw[a3.out,Q3 e2,Q3 e8,Q5 ab]
  unfold W7;rw[a3.out,Q3 e2,Q3 e8,Q5 ab]
 have f1:=Q0 HS
 clear Z p6 q6 ab HS
 by_cases b3:v=3
 ·have g3:=Z0 b3
  have HS:Hid (ZA n v=QW n/\JZ n v= {KJ n with ph:=v}):=Q0 ⟨by funext Fs;unfold ZA;rw[Q5 b3],(Q5 b3).trans (by rw[b3])⟩;have j0:=Q0 b3;clear b3;go_wp2_with fail
  refine(Vi b0 HI.la).mono ?_;rintro ev w6 ⟨A,c,Fs,rfl,d0,c7,d2,F6,c9,c8,c2⟩;have f5:=Q0 (And.intro c7 (And.intro d2 (And.intro d0 (And.intro c8 c2))));have a8:=c9.setPh v;have e1:=Q0 a8.1;obtain⟨-,⟨u0,x1⟩,x2⟩:=a8;clear d0 c7 d2 c9 c8 c2 C u a0 J N U b8 a4 a5;go_wp2_with fail
  go_ret2;rw[a9.out,f1.1,f1.2,HS.1,HS.2];obtain⟨h1,h2,h3,h4,h5⟩:=f5.out;obtain⟨F7,f8,a7⟩:=e1.out;refine AJ.told (AJ.from_ b9 ⟨A,c,Fs,rfl,h3,h1.keeps a7.1 h5,h2,F7,f8,h4.trans a7,fun g hg hF=> ?_⟩) 0;rcases a7.2 g hF with d3|d3
  ·exact h5 g hg d3
  have:=h1.lt hg;omega
 have g3:=X3 b3
 by_cases b5:v=5
 ·have g5:=Z0 b5
  have HS:Hid (ZA n v []/\JZ n v=ZR n):=Q0 ⟨by unfold ZA;rw[Q3 b3],by unfold JZ;rw[Q3 b3,Q5 b5]⟩;clear b3 b5;go_wp2_with fail
  refine(Dy b0 HI.pk HI.pkn).mono ?_;rintro ev w6 ⟨rfl,l4⟩;have m6:=Q0 l4;clear l4 C u a0 J N U b8 a4 a5;go_wp2_with fail
  go_ret2;rw[a9.out,f1.1,f1.2,HS.2];exact YR (NZ b9 m6) HS.1
 have g5:=X3 b5
 have HS:Hid (ZA n v []/\JZ n v= {n with ph:=v}):=Q0 ⟨by unfold ZA;rw[Q3 b3],by unfold JZ;rw[Q3 b3,Q3 b5]⟩
 have a8:=b0.setPh v
 have e1:=Q0 a8.1
 clear b3 b5 a8
 go_wp2_with fail
 go_ret2
 rw[a9.out,f1.1,f1.2,HS.2]
 exact YR (NZ b9 e1) HS.1
