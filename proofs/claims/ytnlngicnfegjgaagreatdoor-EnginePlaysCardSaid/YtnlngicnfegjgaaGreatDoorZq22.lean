/- Parts. -/
import Derived.Test.YtnlngicnfegjgaaGreatDoorZq18
set_option linter.unusedVariables false
set_option maxRecDepth 100000
set_option maxHeartbeats 8000000
open Go.Proofs.Tryz
open Go.Value renaming int→I,pointer→IP
open Go.IntKind renaming i64→O
namespace Go.Proofs.YtnlngicnfegjgaaGreatDoor
open Go.RowKit
theorem Qj1 w b o a F M n r f H reg (hM:Z9 w b a F M n r f H reg)
  (hS:U3 M n f H) (j9:R9 o)
  (h:XW o=true) (hr:JH o=true) (hf:f o.id=none) (hn:n<100) (l6:o.side=1) (k4:(o.kind ==2)=false):
  Calls prog 93 #[IP (some ⟨b,0,none⟩),X5 o] w fun e w'=>e= .returned (U0 0)/\MQ w w' b a r F n H (V3 o):=by
 obtain⟨hs,hi⟩:=GG.1 h
 obtain⟨mk,k6,k7⟩: ∃mk,(o.kind ==2)=mk/\mk=false:=⟨_,rfl,k4⟩
 have m6:=Q0 k7
 clear k7 k4
 obtain⟨o',c2⟩:=exq (V3 o)
 have n7:=Q0 l6
 have HM:=Q0 hM
 clear l6
 have HR:=Q0 (show H9 o'.price o.qty=true by rw[<-c2];exact hr)
 have HF:=Q0 hf
 have HK:=Q0 k6
 have HN:=Q0 hn
 have n6:=Q0 hs
 have HO:=Q0 c2
 have HI:=Q0 hi
 have a2:=Q0 hS
 have m8:=Q0 (show JJ o' by
  have hp:=DF.1 (show H9 o'.price o.qty=true by rw[<-c2];exact hr);rw[<-c2]at hp|-;obtain⟨f1,f2,f3,f4,f5⟩:=j9;exact⟨⟨f1,f2,f3,by unfold G8;omega,f5⟩,hi,⟨hp.1,hp.2.1⟩,⟨hp.2.2.1,hp.2.2.2⟩⟩)
 have B0:=J9 w 29 (J8 o)
 have i5:Below w.heap.size w (w.alloc (.cells (J8 o) 29)):=(Q2 _ w).alloc (Q4 _) _
 have e3:=Q0 B0
 have a8:=Q0 i5
 unfold X5
 clear h hi hr hM hf hn hs hS j9 c2 k6 B0 i5
 go_enter DD,DA
 go_upto_region 1 with fail
 go_cut [25] (fun p2 wx=>p2= .bool false/\VJ w wx b a F M n r f H reg o)
 case first=>
  obtain⟨id,side,kind,q5,qty⟩:=o;have d1:decide (id<1)=false:=Z1 (by have:=HI.out;dsimp only at this;omega);rcases n6.out with h1|h1
  ·dsimp only at h1
   subst h1;go_wp2_with fail
   go_meet;exact⟨rfl,a8,HM.below a8,e3⟩
  dsimp only at h1;subst h1;go_wp2_with fail
  go_meet;exact⟨rfl,a8,HM.below a8,e3⟩
 obtain⟨rfl,u⟩:=hcut
 have C:=Q0 u
 obtain⟨J,v,N,y,U⟩:=Z6 u.2.2
 have xf:=J1 u.2.2 3
 have t1:=HK.out
 clear u
 go_upto_if 30 with fail
 go_cut [31] (fun r6 wx=>VJ w wx b a F M n r f H reg o')
 case first=>
  cases mk with
  |true=>
   have t2:=Q0 t1;clear t1;go_wp2_with fail
   go_meet;rw[<-HO.out];exact WJ HM C t2
  |false=>
   have t2:=Q0 t1;clear t1;go_wp2_with fail
   go_meet;rw[<-HO.out,WC t2.out];exact C
 clear J v N y U xf C e3 a8
 have e4:o'.qty=o.qty:=by rw[<-HO.out];rfl
 have e0:o'.id=o.id:=by rw[<-HO.out];rfl
 have e1:o'.side=o.side:=by rw[<-HO.out];rfl
 have e2:o'.kind=o.kind:=by rw[<-HO.out];rfl
 have C:=Q0 hcut
 obtain⟨J,v,N,y,U⟩:=Z6 hcut.2.2
 rw[e4]at U
 rw[e0]at J
 rw[e1]at v
 rw[e2]at N
 clear t1 hcut
 have E4:=Q0 e4
 have E0:=Q0 e0
 have E1:=Q0 e1
 have E2:=Q0 e2
 clear e4 e0 e1 e2
 go_wp2_with fail
 refine(CS _ _ _).mono ?_
 rintro e w1 ⟨rfl,hb⟩
 rw[HR.out]
 clear J v N y U
 have u:=FQ C hb
 clear C HR
 have C:=Q0 u
 have f8:=J5 u.2.2
 have f9:=J5 u.2.1.blk
 obtain⟨J,v,N,y,U⟩:=Z6 u.2.2
 obtain⟨y0,y1,y2,E,y4,y5⟩:=u.2.1.cells
 rw[E4.out]at U
 rw[E0.out]at J
 rw[E1.out]at v
 rw[E2.out]at N
 have o3:=CM (w:=(w1.alloc (.cells #[I O 0,I O 0,I O 0,I O 0,.bool false] 188)).drew) (u.2.1.mp.alloc _) HF
 have o4:=CM (w:=w1.drew) u.2.1.mp HF
 clear u hb
 go_upto_region 8 with fail
 go_cut [7] (fun s7 wx=>s7= .bool false/\VJ w wx b a F M n r f H reg o')
 case first=>
  clear y0 y2 E y4 y5 v N y U
  as_aux_lemma=>
  go_region_law (fail)
  all_goals go_wp2_with fail
  all_goals go_meet
  all_goals exact⟨rfl,FQ C (J3 ((Q2 _ w1).alloc (Q4 _) _))⟩
 clear J v N y U y0 y1 y2 E y4 y5 o3 o4 f8 f9 C
 obtain⟨rfl,u⟩:=hcut
 have C:=Q0 u
 have f8:=J5 u.2.2
 have f9:=J5 u.2.1.blk
 have j6:X5 o'= .agg #[I O o.id,I O o.side,I O o.kind,I O o'.price,I O o.qty]:=by unfold X5;rw[E0.out,E1.out,E2.out,E4.out]
 have g3: ∀W,Below wc.heap.size wc W->Calls prog 130 #[IP (some ⟨a,0,none⟩),.agg #[I O o.id,I O o.side,I O o.kind,I O o'.price,I O o.qty]] W (Zf W a F M n o'):=by
  intro W hW;rw[<-j6];refine(WW (u.2.1.ar.below hW) (by omega) o').mono ?_;rintro e w' (⟨h1,_,_⟩|⟨_,sl,ag,h1,h2,h3⟩)
  ·have:=HN.out;omega
  exact⟨sl,ag,h1,h2,h3⟩
 have h6:=Q0 (g3 ((wc.alloc (.cells #[I O 0,I O 0] 186)).drew) (J3 ((Q2 _ _).alloc (Q4 _) _)))
 have h7:=Q0 (g3 wc.drew (J3 (Q2 _ _)))
 obtain⟨J,v,N,y,U⟩:=Z6 u.2.2
 obtain⟨y0,y1,y2,E,y4,y5⟩:=u.2.1.cells
 rw[E4.out]at U
 rw[E0.out]at J
 rw[E1.out]at v
 rw[E2.out]at N
 clear u g3 j6
 go_upto_region 11 with fail
 go_cut [8,9] (fun s8 s9 wx=>s9= .nilIface/\Qi w wx b a F M n r f H o' s8)
 case first=>
  clear y1 y2 E y4 y5
  as_aux_lemma=>
  go_region_with (first|(go_at_call 130;refine h6.mono ?_;rintro e w5 ⟨sl,ag,a1,rfl,a7⟩;have a4:=Kg C.2.1.ar a7;have z0:w5.cell? ⟨wc.heap.size,0,none⟩=some (I O 0):=(by rw[J0 a4];rfl);have z1:w5.cell? ⟨wc.heap.size,1,none⟩=some (I O 0):=(by rw[J0 a4];rfl);have f0:=J1 a4 0;have f1:=J1 a4 1;have l8:=Q0 a4;have c5:=Q0 a7;have b1:=Q0 a1;clear a7 a1 a4)|(go_at_call 130;refine h7.mono ?_;rintro e w5 ⟨sl,ag,a1,rfl,a7⟩;have c5:=Q0 a7;have b1:=Q0 a1;clear a7 a1))
  all_goals go_wp2_with fail
  all_goals go_meet
  all_goals
   refine⟨rfl, ?_⟩
   first
    |exact LR HM C (J3 ((Q2 _ _).alloc (Q4 _) _)) b1 c5 (RS _ _ 0 1 _ _) (.inl (by simp)) (Q4 _) (J7 (J7 l8 0 _) 1 _)
    |exact LR HM C (J3 (Q2 _ _)) b1 c5 (U1 ((Q2 _ _).alloc (Q4 _) _) _) (.inr (Q4 _)) (G0 (J3 (Q2 wc.heap.size wc)).size c5.choose_spec.2.1.size) (J9 _ _ _)
 obtain⟨rfl,j,pb,F',reg',rfl,a1,c7,hX,c6,j0,g0,g2⟩:=hcut
 clear J v N y U y0 y1 y2 E y4 y5 f8 f9 C h6 h7
 have i6:P7 wc.drew r f:=c6.mp.of_block rfl
 obtain⟨w4,o6,i7,c9⟩:=i6.update (P:=prog) (t:=150) PD VN o.id (.agg #[I O j.1,I O j.2,I O o.side,I O o'.price,.bool mk])
 have e6:Below wc.heap.size wc wc.drew:=J3 (Q2 _ _)
 obtain⟨i8,j2⟩:=(c6.below e6).map_ c9 i7
 have j1:=(j0.trans (C1 e6)).trans j2
 have i9:Q1 w4 pb 186 #[I O j.1,I O j.2]:=YT (Z2 c7) (c9.block pb (fun e=>g0 (.inr (.inl e))))
 have j4:Q1 w4 w.heap.size 29 (J8 o'):=YT (Z2 hX) (c9.block _ (fun e=>g2 (.inr (.inl e))))
 obtain⟨J,v,N,y,U⟩:=Z6 hX
 rw[E0.out]at J
 rw[E1.out]at v
 have p0:wc.cell? ⟨pb,0,none⟩=some (I O j.1):=by rw[J0 c7];rfl
 have p1:wc.cell? ⟨pb,1,none⟩=some (I O j.2):=by rw[J0 c7];rfl
 have y1:=c6.cells.2.1
 have h4:=Q0 i8
 have n4:=Q0 j1
 have n0:=Q0 i9
 have e5:=Q0 j4
 have b1:=Q0 a1
 have c4:=Q0 g0
 have p3:=Q0 g2
 clear i6 i7 c9 i8 j2 j1 i9 j4 c7 hX c6 j0 a1 g0 g2 e6 N U
 go_upto_region 14 with fail
 go_cut [75] (fun r7 wx=>wx=w4)
 case first=>
  go_still_tail 13,(by kernel_rfl)
  change wpList _ _ _ _ _ wc.drew;go_wp2_with fail
  go_meet
  rfl
 subst hcut
 clear J v y p0 p1 y1 o6
 have l2:Value.agg #[I O j.1,I O j.2,I O o.side,I O o'.price,.bool mk]=JC (j,o'):=by
  unfold JC;dsimp only;rw[E1.out,E2.out,HK.out]
 have h5:=Q0 (show Z9 wc b a F' (W8 M j.1 j.2 (some o')) (n+1) r (D0 f o'.id (some (JC (j,o')))) H reg' by rw[<-l2,E0.out];exact h4)
 clear l2 h4
 have hs:=n7.out
 have g6:o'.side=1:=E1.trans hs
 have i3:=Q0 g6
 obtain⟨y0,y1,y2,E,y4,y5⟩:=h5.cells
 have v:wc.cell? ⟨w.heap.size,1,none⟩=some (I O 1):=by rw[J0 e5.out];show some (Value.int .i64 o'.side)=_;rw[g6]
 have p7:=Q0 hs
 clear y0 y1 y2 E y4 y5 hs g6
 have o5:=m6.out
 subst o5
 have m4:Hid (o'.kind≠2):=Q0 (by rw[E2.out];simpa using HK.out)
 have y:wc.cell? ⟨w.heap.size,3,none⟩=some (I O o'.price):=by rw[J0 e5.out];rfl
 go_wp2_with fail
 go_quiet (fail)
 have hq:Below wc.heap.size wc (wc.drewN nq):=U7 (Q2 _ _) nq
 have a9:=Q0 (h5.below hq)
 have d6:=Q0 (P9 n0 nq)
 have b2:=Q0 (P9 e5 nq)
 have d8:=Q0 (n4.trans (C1 hq))
 clear hq
 generalize wc.drewN nq=w5 at a9 d6 b2 d8|-
 clear v y
 have v:w5.cell? ⟨w.heap.size,1,none⟩=some (I O 1):=by rw[J0 b2.out];show some (Value.int .i64 o'.side)=_;rw[i3.out]
 have y:w5.cell? ⟨w.heap.size,3,none⟩=some (I O o'.price):=by rw[J0 b2.out];rfl
 have j8:=Xy w5 b 2 1 o'.price _ _ _ _ (a9.cells).2.2.2.1 (by
  have:=VV JP (by omega) (a9.hx 1 Y4).rq;exact this) (a2.is 1 Y4).rank (Ko Y4 a2 HN)
 have g8:=Q0 j8
 clear j8
 go_wp2_with fail
 refine g8.mono ?_
 rintro e w7 ⟨c0,k,k3,rfl⟩
 have b0:=Q0 (a9.below c0)
 have d7:=Q0 (J4 d6 c0)
 have i4:=Q0 (J4 b2 c0)
 have i2:=Q0 (d8.trans (C1 c0))
 have h0:=Q0 k3
 clear v y c0 k3 a9 d6 b2 d8 g8
 obtain⟨fb,d3⟩: ∃fb,Hid (DN 1 o'.price ((H 1).qs.map QG.que) (H 1).qs.length k=fb):=⟨_,Q0 rfl⟩
 rw[d3.out]
 go_upto_if 104 with fail
 go_cut [105] (fun q9 wx=>Kw w wx b a r F F' (W8 M j.1 j.2 (some o')) n (D0 f o'.id (some (JC (j,o')))) H 1 o'.price k pb/\Q1 wx pb 186 #[I O j.1,I O j.2])
 case first=>
  cases fb with
  |true=>
   go_wp2_with fail
   go_meet;exact⟨Dj c4 a2 Y4 b0 i2 d3,d7⟩
  |false=>
   have g7:Below w7.heap.size w7 ((w7.alloc (.cells #[I O o'.price,.slice none 0 0] 214)).drew):=J3 ((Q2 _ _).alloc (Q4 _) _);have e9:=b0.below g7;have k2:=Cz ((w7.alloc (.cells #[I O o'.price,.slice none 0 0] 214)).drew) (H 1).qA (H 1).qs.length (H 1).qc k ((H 1).qs.map QG.que) w7.heap.size (o'.price,none,0,0) (e9.hx 1 Y4).rq (Z2 (J9 w7 _ _)) (fun e=>by have:=(b0.hx 1 Y4).rq.lt e;omega) (Ko Y4 a2 HN) h0.1;have m3:=Q0 k2;obtain⟨z0,z1,z2,z3,z4,z5⟩:=b0.cells;have y:w7.cell? ⟨w.heap.size,3,none⟩=some (I O o'.price):=by rw[J0 i4.out];rfl
   have f7:=J5 b0.blk;have q4:=J5 i4;have c3:=Q0 e9;have d9:=Q0 g7;clear k2 e9 g7 z0 z1 z2 z4 z5;go_wp2_with fail
   as_aux_lemma=>
   go_region_with (go_at_call 131;refine m3.mono ?_;rintro e w8 ⟨A8,c8,rfl,e8⟩;have b8:=X0 c3.blk e8.2.1 (fun e=>by have h1:=(c3.hx 1 Y4).gq b e;have h2:=c3.gb;omega);have r0:w8.cell? ⟨b,3,none⟩=some (.slice (H 1).qA (H 1).qs.length (H 1).qc):=(by rw[J0 b8];rfl);have q7:=J1 b8 3;have g9:=Q0 e8;clear e8 b8)
   all_goals go_wp2_with fail
   all_goals go_meet
   all_goals
    refine⟨Gu c4 (J5 (J4 d7 d9)) a2 Y4 c3 (i2.trans (C1 d9)) h0 d3 g9 rfl, ?_⟩;refine XP (X0 (J4 d7 d9) g9.2.1 (fun e=> ?_)) (fun e=> ?_) _
    ·exact c4 (VS 1 Y4 (.inr (.inl e)))
    exact c4 (.inl e)
 obtain⟨⟨H1,q6,qA,qc,qs,a3,j3,e7,k1,f6,g1,a5,l1,k8⟩,b5⟩:=hcut
 have e1:H1 1=⟨(H 1).mA,(H 1).mc,qA,qc,(H 1).ms,qs⟩:=by rw[e7];exact QV _ _ _
 have a0:=a3.hx 1 Y4
 rw[e1]at a0
 obtain⟨qg,l3,g5⟩:=a0.rq.elem JP (by omega) (i:=k) (by simpa using a5)
 dsimp only at l3
 subst l3
 obtain⟨y0,y1,y2,E,y4,y5⟩:=a3.cells
 rw[e1]at E
 dsimp only at E
 obtain⟨q,a6⟩:=exq (qs[k]'a5)
 obtain⟨m,hm⟩:=exq q.os.length
 have q0:wc.cell? ⟨qg,k*2,none⟩=some (I O q.price):=by have:=g5 0 _ rfl;rw[<-a6];simpa [QG.que]using this
 have q1:wc.cell? ⟨qg,k*2+1,none⟩=some (.slice q.A m q.c):=by have:=g5 1 _ rfl;rw[<-hm,<-a6];simpa [QG.que]using this
 have c1:q∈qs:=by rw[<-a6];exact Y1 _
 have n3:=Q0 (show J2 wc q.A m q.c 186 2 (Q9 E8 (A6 q.os)) by rw[<-hm];exact a0.rl _ c1)
 have n1:=Q0 a0.rq
 have g4:(Q7 (some (⟨qg,0,none⟩:Addr)))=some qg:=rfl
 have o1:=a0.gq qg g4
 have l4:=a0.rq.lt g4
 have l5:Q7 q.A≠some qg:=fun e=>by have:=a0.gl _ c1 qg e;omega
 have h9:=Q0 l5
 have i1:=Q0 (show Q7 q.A≠some pb from fun e=>g1 (VS 1 Y4 (.inr (.inr ⟨q,by rw[e1];exact c1,e⟩))))
 have p6:=Q0 (show qg≠pb from fun e=>g1 (VS 1 Y4 (.inr (.inl (by rw[e1,<-e];rfl)))))
 have p5:=Q0 (show qg≠b from fun e=>by have h2:=a3.gb;rw[<-e]at h2;omega)
 have n2:=Q0 (show Q7 q.A≠some b from fun e=>by have h1:=a0.gl _ c1 b e;have h2:=a3.gb;omega)
 obtain⟨l,k5⟩:=exq qs.length
 have q3:m<=1000:=by
  have h1:=a2.cnt;have h2:=HN.out;have h3:m<=(D2 (H 1).ms qs).length:=by
   unfold D2;rw[EG qs a5,a6];simp only[List.length_append];omega
  rw[f6]at h3;unfold B4 at h1;simp only[List.length_append]at h1;omega
 rw[k5]at E
 have m5:=Q0 a3
 have n5:=Q0 j3
 have l9:=Q0 e7
 have m0:=Q0 k1
 have l7:=Q0 f6
 have m9:=Q0 l1
 have m7:=Q0 k8
 have p4:=Q0 b5
 have Hm:=Q0 hm
 have n8:=Q0 a5
 have p9:(k:Int)< (l:Int):=by omega
 have p8:(0:Int)<=(k:Int):=by omega
 obtain⟨p0,p1⟩:wc.cell? ⟨pb,0,none⟩=some (I O j.1)/\wc.cell? ⟨pb,1,none⟩=some (I O j.2):=⟨by rw[J0 b5];rfl,by rw[J0 b5];rfl⟩
 have f7:=J5 a3.blk
 have d0:=J5 b5
 obtain⟨i0,o2,o7,o8,o9⟩:=N0 Jv
 clear g1 a3 j3 e7 k1 f6 l1 k8 b5 hm l5 o1 g4 c1 e1 a0 g5 k5 y0 y1 y2 y4 y5
 have n9:=Q0 a6
 clear a6
 go_upto_region 22 with fail
 go_cut [133] (fun r5 wx=>Rj wc wx qg k m q.A q.c (Q9 E8 (A6 q.os)++E8 j))
 case first=>
  as_aux_lemma=>
  refine CH 18 (fun W=>W.cell? ⟨qg,k*2+1,none⟩=some (.slice q.A m q.c)/\W.cell? ⟨b,3,none⟩=some (.slice (some ⟨qg,0,none⟩) l qc)/\W.cell? ⟨pb,0,none⟩=some (I O j.1)/\W.cell? ⟨pb,1,none⟩=some (I O j.2)) (by kernel_rfl) ⟨q1,E,p0,p1⟩ (fun hS=> ?_);refine tT 0 (IP (some ⟨b,2,none⟩)) ?_;refine tT 1 (IP (some ⟨b,2,none⟩)) ?_;refine tT 2 (IP (some ⟨b,3,none⟩)) ?_;refine tT 3 (.slice (some ⟨qg,0,none⟩) l qc) ?_;refine tT 4 (I O k) ?_;refine tT 5 (IP (some ⟨b,2,none⟩)) ?_;refine tT 6 (IP (some ⟨b,2,none⟩)) ?_;refine tT 7 (IP (some ⟨b,3,none⟩)) ?_;refine tT 8 (.slice (some ⟨qg,0,none⟩) l qc) ?_;refine tT 9 (I O k) ?_;refine tT 10 (IP (some ⟨qg,k*2,none⟩)) ?_;refine tT 11 (IP (some ⟨qg,k*2+1,none⟩)) ?_;refine tT 12 (.slice q.A m q.c) ?_;refine tT 13 (.agg #[I O j.1,I O j.2]) ?_;refine Y8 14 (by kernel_rfl) rfl (fun K1 D=> ?_);go_simp;have b9:Below wc.heap.size wc (wc.alloc (.cells #[I O j.1,I O j.2] 186)).drew:=J3 ((Q2 _ wc).alloc (Q4 _) _);refine D _ _ ⟨(b9.cell (p:=⟨qg,k*2+1,none⟩) l4).trans q1,(b9.cell (p:=⟨b,3,none⟩) f7).trans E,(b9.cell (p:=⟨pb,0,none⟩) d0).trans p0,(b9.cell (p:=⟨pb,1,none⟩) d0).trans p1⟩ (fun hS=> ?_);clear D b9;refine Y8 15 (by kernel_rfl) rfl (fun K1 D=> ?_);refine PH _ (by rfl) _ _ _ (by rfl) 0 186 i0 _ 2 16 Qx o2 o7 o8 o9 rfl (by omega) (.slice q.A m q.c) m _ (by rfl) ((YM n3 _).drew) ⟨wc.heap.size,0,none⟩ 1 1 (E8 j) (by rfl) (by rfl) (JB (cs:= #[I O j.1,I O j.2]) (t:=186) (fr:=(0,0)) (S5 wc _)) (Ka _) (by omega) (by unfold maxLen;omega) (by omega) (by simp) (wc.heap.size+1) (by simp) ?_;intro gg cap w6 l0 k0 j7 q2;have Z:=EB k0;have R6:=J2.keeps n1 Z (fun g hg e=>by rw[A7]at e;cases hg;exact h9 e);have r1:w6.cell? ⟨qg,k*2+1,none⟩=some (.slice q.A m q.c):=(Z.cell (p:=⟨qg,k*2+1,none⟩) l4 (fun e=>by rw[A7]at e;exact h9 e)).trans q1;have r2:w6.cell? ⟨b,3,none⟩=some (.slice (some ⟨qg,0,none⟩) l qc):=(Z.cell (p:=⟨b,3,none⟩) f7 (fun e=>by rw[A7]at e;exact n2 e)).trans E;have r3:w6.cell? ⟨pb,0,none⟩=some (I O j.1):=(Z.cell (p:=⟨pb,0,none⟩) d0 (fun e=>by rw[A7]at e;exact i1 e)).trans p0;have r4:w6.cell? ⟨pb,1,none⟩=some (I O j.2):=(Z.cell (p:=⟨pb,1,none⟩) d0 (fun e=>by rw[A7]at e;exact i1 e)).trans p1;have q8:=J2.frozen R6 (k*2+1);have d4:=Q0 Z;have d5:=Q0 l0;have d2:=Q0 j7;clear R6 k0 Z l0 j7;refine D _ _ ⟨r1,r2,r3,r4⟩ (fun hS=> ?_);clear D;simp only[Act.put,List.setIfInBounds_toArray,List.set_cons_zero,List.set_cons_succ];refine Y8 16 (by kernel_rfl) rfl (fun K1 D=> ?_);go_simp;refine D _ _ ⟨r1,r2,r3,r4⟩ (fun hS=> ?_);clear D;refine Y8 17 (by kernel_rfl) rfl (fun K1 D=> ?_);go_simp;refine D _ _ ⟨r1,r2,r3,r4⟩ (fun hS=> ?_);clear D;refine YY (by kernel_rfl) rfl (fun K1 D=> ?_);go_simp;refine D _ _ (YU (by kernel_rfl) ?_ _);clear D;go_wp2_with fail
  go_meet;exact⟨gg,cap,w6,rfl,d4,d5,d2⟩
 obtain⟨gg,cap,w6,rfl,Z,k9,j5⟩:=hcut
 have d4:=Q0 Z
 have d5:=Q0 k9
 have d2:=Q0 j5
 clear Z k9 j5
 go_wp2_with fail
 go_ret
 refine⟨rfl, ?_⟩
 rw[HO.out]
 have a5:=n8.out
 have e:qs[k]=q:=n9.out
 refine Bu (k:=k) (qg:=qg) (qs:=qs) (qA:=some ⟨qg,0,none⟩) (qc:=qc) a2 Y4 i3 m4 m8 b1 (by rw[E0.out];exact HF) m5 n5 l9 m0 l7 a5 (m9) m7 rfl (by rw[e];exact Hm) ?_ ?_ ?_
 ·rw[e];exact d4
 ·rw[e];exact d5
 rw[e];exact d2
