/- Parts. -/
import Derived.Test.YtnlngicnfegjgaaGreatDoorZq26
set_option linter.unusedVariables false
set_option maxRecDepth 100000
set_option maxHeartbeats 8000000
open Go.Proofs.Tryz
open Go.Value renaming int→I,pointer→IP
open Go.IntKind renaming i64→O
namespace Go.Proofs.YtnlngicnfegjgaaGreatDoor
open Go.RowKit
theorem Qs7 w b a F M n r f H reg (hM:Z9 w b a F M n r f H reg) (hS:U3 M n f H) x (hx:x∈(H 2).all) (hk:x.2.kind=2) (hn:n<=100):
  Calls prog 89 #[IP (some ⟨b,0,none⟩),I O x.2.id] w fun e w'=>e= .returned (.tuple #[X5 x.2,U0 0])/\LS w w' b a r F n H 2 x.2.id:=by
 have hf:=hS.hf x (XL Y5 hx)
 have a8:=hS.side_of Y5 hx
 have c3:=hS.hM x (XL Y5 hx)
 obtain⟨⟨h1,h2⟩,o⟩:=x
 dsimp only at hf a8 c3 hk|-
 have d6:(o.kind ==2)=true:=by simpa using hk
 have e9:Below w.heap.size w (w.alloc (.cells #[I O 0,I O 0,I O 0,I O 0,I O 0] 29)):=(Q2 _ w).alloc (Q4 _) _
 have a9:=hM.below e9
 have c9:=GQ a9.mp hf
 dsimp only at c9
 rw[a8,d6]at c9
 obtain⟨y0,y1,y2,y3,y4,y5⟩:=a9.cells
 have HM:=Q0 hM
 have e5:=Q0 hS
 have HX:=Q0 hx
 have h5:=Q0 hk
 have i2:=Q0 a8
 have h6:=Q0 c3
 have HN:=Q0 hn
 have h7:=Q0 a9
 clear y0 y2 y3 y4 y5 hM hS hx hk a8 c3 hn a9 hf d6 e9
 go_enter func89,ntmps89
 go_upto_region 4 with fail
 clear c9 y1
 obtain⟨c2,a1,b2,b5⟩:=Jp (h1:=h1) (h2:=h2) (sd:=2) (pr:=o.price) (mk:=true) HM
 have a0:=Q0 (show¬V0 b r F H w.heap.size from fun h=>by have:=HM.fp h;omega)
 have a4:=Q0 (show¬V0 b r F H (w.heap.size+1)from fun h=>by have:=HM.fp h;omega)
 obtain⟨pb,d8⟩:=exr (w.heap.size+1)
 obtain⟨rb,f7⟩:=exr w.heap.size
 have h8:rb≠pb:=by omega
 have g3:=Q0 (show w.heap.size<=rb/\w.heap.size<=pb by omega)
 rw[<-d8]at b5 a4|-
 rw[<-f7]at b2 a0|-
 generalize(w.alloc (.cells #[I O 0,I O 0,I O 0,I O 0,I O 0] 29)).alloc (.cells #[I O h1,I O h2,I O 2,I O o.price,.bool true] 188)=w1 at c2 a1 b2 b5|-
 obtain⟨w2,d0,d5,b9⟩:=Kh w1 r f a1.mp o.id
 obtain⟨e1,e6⟩:=a1.map_ b9 d5
 have f5:=Q0 ((C1 (G:=V0 b r F H) c2).trans e6)
 have c7:Q1 w2 pb 188 #[I O h1,I O h2,I O 2,I O o.price,.bool true]:=YT b5 (b9.block pb (fun e=>a4 (.inr (.inl e))))
 have d1:Q1 w2 rb 29 #[I O 0,I O 0,I O 0,I O 0,I O 0]:=YT b2 (b9.block rb (fun e=>a0 (.inr (.inl e))))
 have y1:=a1.cells.2.1
 have f9:=Q0 e1
 have f6:=Q0 c7
 have d4:=Q0 d1
 obtain⟨p0,N,J,Z,U⟩:=T7 c7
 clear a1 b2 b5 b9 d5 e1 e6 c7 d1 c2 d8 f7
 go_wp2_with (simp only[d0])
 clear d0 y1
 go_quiet (fail)
 have hq:Below w2.heap.size w2 (w2.drewN nq):=U7 (Q2 _ _) nq
 have u:=Q0 (f9.below hq)
 have b1:=Q0 (P9 f6 nq)
 have c4:=Q0 (P9 d4 nq)
 have c6:=Q0 (f5.trans (C1 hq))
 clear hq p0 N J Z U
 generalize w2.drewN nq=w3 at u b1 c4 c6|-
 clear f9 f6 d4 f5
 obtain⟨p0,N,J,Z,U⟩:=T7 b1
 obtain⟨y0,y1,y2,y3,y4,y5⟩:=u.cells
 have i0: ∀fn first cap w,(Instr.makeFunc fn first cap).run prog w= .ok (.func fn first cap) w:=fun _ _ _ _=>rfl
 have eg:=XH func122 (by kernel_rfl) rfl
 obtain⟨m,hm⟩:=exq ((H 2).ms.length)
 rw[hm]at y4
 have d7:Q7 (H 2).mA≠some b:=fun e=>by have h3:=(u.hx 2 Y5).gm b e;have h4:=u.gb;omega
 have e2:=Kb w3 (H 2).mA m (H 2).mc (A6 (H 2).ms) pb (h1,h2) (by rw[<-hm];exact(u.hx 2 Y5).rm) (by have:=Nu Y5 e5 HN;omega) (fun e=>a4 (VS 2 Y5 (.inl e))) p0 N
 have HD:=Q0 e2
 have g2:=Q0 d7
 have Hm:=Q0 hm
 clear y0 y1 y2 y3 y4 y5 e2 d7 hm
 have y4:w3.cell? ⟨b,4,none⟩=some (.slice (H 2).mA m (H 2).mc):=by rw[J0 u.blk];exact E7 (fun k=>some (Value.slice (H 2).mA k (H 2).mc)) Hm
 go_wp2_with fail
 refine HD.mono ?_
 rintro e w4 ⟨a6,rfl,a7⟩
 have b4:=X0 u.blk a6 g2
 have r0:w4.cell? ⟨b,4,none⟩=some (.slice (H 2).mA m (H 2).mc):=by rw[J0 b4];exact E7 (fun k=>some (Value.slice (H 2).mA k (H 2).mc)) Hm
 have h9:=J1 b4 4
 rw[Qz]at a7|-
 rw[<-Xg]at a7
 obtain⟨c5,y,C⟩:=u.market Y5 (A':=(H 2).mA) (c':=(H 2).mc) (ms':=(H 2).ms.filter (B3 (h1,h2))) a6 a7 (fun g hg=> .inl hg)
 have a3: ∀g,¬V0 b r F H g->Q7 (H 2).mA≠some g/\g≠b:=fun g hg=>⟨fun e=>hg (VS 2 Y5 (.inl e)),fun e=>hg (.inl e)⟩
 have d3:=Q0 (XP (X0 b1 a6 (a3 _ a4).1) (p:=⟨b,4,none⟩) (a3 _ a4).2 (.slice (H 2).mA ((H 2).ms.filter (B3 (h1,h2))).length (H 2).mc))
 have a5:=Q0 (XP (X0 c4 a6 (a3 _ a0).1) (p:=⟨b,4,none⟩) (a3 _ a0).2 (.slice (H 2).mA ((H 2).ms.filter (B3 (h1,h2))).length (H 2).mc))
 obtain⟨D,E⟩:=Dk e5 Y5 HX h5 (H 2).mA (H 2).mc
 have a2:=Q0 (show SQ w (w4.setCell ⟨b,4,none⟩ (.slice (H 2).mA ((H 2).ms.filter (B3 (h1,h2))).length (H 2).mc)) b a r F M n (D0 f o.id none) H 2 o.id h1 h2 pb rb #[I O h1,I O h2,I O 2,I O o.price,.bool true]from
  ⟨_,c5,y,c6.trans C,D,E,fun s' h=>XK h,d3,a5,Ks Y5 (fun i hi=>hi) a0⟩)
 clear y C D E a6 a7 b4 a3 p0 N J Z U y4 d3 a5 u b1 c4 c6
 obtain⟨nl,e7⟩:=exq (((H 2).ms.filter (B3 (h1,h2))).length)
 rw[e7]at a2|-
 clear e7
 obtain⟨H5,c5,y,C,D,E,c1,b0,b8,c0⟩:=a2.out
 have q0:=y.cells.1
 obtain⟨p0,N,J,Z,U⟩:=T7 b0
 clear y C D E c1 b0 b8 c0
 go_upto_region 13 with fail
 generalize(w4.setCell ⟨b,4,none⟩ (.slice (H 2).mA nl (H 2).mc))=w5 at a2 q0 p0 N J Z U|-
 obtain⟨H5,c5,y,C,D,E,c1,b0,b8,c0⟩:=a2.out
 have e4:=Kd (M:=M) y (J3 (Q2 w5.heap.size w5)) h6
 have HG:=Q0 e4
 have g7:=Q0 (C.trans (C1 (J3 (Q2 w5.heap.size w5))))
 have a5:=Q0 b8
 have d2:=Q0 c0
 have g1:=Q0 D
 have g8:=Q0 E
 have g9:=Q0 c1
 clear e4 J Z U y C D E c1 b0 b8 c0 a2
 go_cut [5,104] (fun s5 i1 wx=>s5= .nilIface/\Kt w wx b a r rb F M n (D0 f o.id none) H 2 o.id h1 h2 (J8 o))
 case first=>as_aux_lemma=>
  go_region_with (go_at_call 127;refine HG.mono ?_;rintro e w6 ⟨rfl,F6,reg6,e8,c8⟩;have j:Q1 w6 rb 29 #[I O 0,I O 0,I O 0,I O 0,I O 0]:=X0 (Z2 a5) c8.1 d2;have z0:=(T7 j).1;have z1:=(T7 j).2.1;have z2:=(T7 j).2.2.1;have z3:=(T7 j).2.2.2.1;have z4:=(T7 j).2.2.2.2;have f0:=J1 j 0;have f1:=J1 j 1;have f2:=J1 j 2;have f3:=J1 j 3;have f4:=J1 j 4;have g6:=Q0 e8;have f8:=Q0 c8;have h0:=Q0 j;clear e8 j c8)
  all_goals go_wp2_with fail
  all_goals go_meet
  all_goals
   have g5: ¬V0 b r F6 H5 rb:=fun h=>(f8.2 rb h).elim d2 (fun h3=>by have h4:=J5 (Z2 a5);omega)
   exact⟨rfl,Xn g6 (g7.trans f8) g5 g3.1 g1 g8 g9,J7 (J7 (J7 (J7 (J7 h0 0 _) 1 _) 2 _) 3 _) 4 _⟩
 obtain⟨rfl,d9,e3⟩:=hcut
 have g0:=Q0 d9
 have g4:=Q0 e3
 clear d9 e3
 go_wp2_with fail
 refine WX (g:=rb) (cs:=J8 o) (v:=U0 0) (by with_unfolding_all rfl) (by with_unfolding_all rfl) (by with_unfolding_all rfl) g4 rfl ?_
 exact⟨rfl,g0⟩
theorem Qs8 w b a F M n r f H reg (hM:Z9 w b a F M n r f H reg) (hS:U3 M n f H) x (hx:x∈(H 2).all) (hk:x.2.kind≠2) (hn:n<=100) k (c1:k< (H 2).qs.length) (j4:x∈(H 2).qs[k].os) (h7:(H 2).qs[k].price=x.2.price):
  Calls prog 89 #[IP (some ⟨b,0,none⟩),I O x.2.id] w fun e w'=>e= .returned (.tuple #[X5 x.2,U0 0])/\LS w w' b a r F n H 2 x.2.id:=by
 have hf:=hS.hf x (XL Y5 hx)
 have b2:=hS.side_of Y5 hx
 have d8:=hS.hM x (XL Y5 hx)
 obtain⟨⟨h1,h2⟩,o⟩:=x
 dsimp only at hf b2 d8 hk|-
 have g6:(o.kind ==2)=false:=by simpa using hk
 have j2:Below w.heap.size w (w.alloc (.cells #[I O 0,I O 0,I O 0,I O 0,I O 0] 29)):=(Q2 _ w).alloc (Q4 _) _
 have b5:=hM.below j2
 have e9:=GQ b5.mp hf
 dsimp only at e9
 rw[b2,g6]at e9
 obtain⟨y0,y1,y2,y3,y4,y⟩:=b5.cells
 have HM:=Q0 hM
 have N:=Q0 hS
 have HX:=Q0 hx
 have o4:=Q0 hk
 have o6:=Q0 b2
 have n0:=Q0 d8
 have HN:=Q0 hn
 have n4:=Q0 b5
 clear y0 y2 y3 y4 y hM hS hx hk b2 d8 hn b5 hf g6 j2
 go_enter func89,ntmps89
 go_upto_region 4 with fail
 clear e9 y1
 obtain⟨d5,a8,c0,c4⟩:=Jp (h1:=h1) (h2:=h2) (sd:=2) (pr:=o.price) (mk:=false) HM
 have a5:=Q0 (show¬V0 b r F H w.heap.size from fun h=>by have:=HM.fp h;omega)
 have b1:=Q0 (show¬V0 b r F H (w.heap.size+1)from fun h=>by have:=HM.fp h;omega)
 obtain⟨pb,g9⟩:=exr (w.heap.size+1)
 obtain⟨rb,j6⟩:=exr w.heap.size
 have n5:rb≠pb:=by omega
 have l0:=Q0 (show w.heap.size<=rb/\w.heap.size<=pb by omega)
 rw[<-g9]at c4 b1|-
 rw[<-j6]at c0 a5|-
 generalize(w.alloc (.cells #[I O 0,I O 0,I O 0,I O 0,I O 0] 29)).alloc (.cells #[I O h1,I O h2,I O 2,I O o.price,.bool false] 188)=w1 at d5 a8 c0 c4|-
 obtain⟨w2,a3,g5,c6⟩:=Kh w1 r f a8.mp o.id
 obtain⟨h8,i4⟩:=a8.map_ c6 g5
 have j3:=Q0 ((C1 (G:=V0 b r F H) d5).trans i4)
 have e4:Q1 w2 pb 188 #[I O h1,I O h2,I O 2,I O o.price,.bool false]:=YT c4 (c6.block pb (fun e=>b1 (.inr (.inl e))))
 have f9:Q1 w2 rb 29 #[I O 0,I O 0,I O 0,I O 0,I O 0]:=YT c0 (c6.block rb (fun e=>a5 (.inr (.inl e))))
 have y1:=a8.cells.2.1
 have k3:=Q0 h8
 have j5:=Q0 e4
 have g4:=Q0 f9
 obtain⟨p0,p1,J,Z,U⟩:=T7 e4
 clear a8 c0 c4 c6 g5 h8 i4 e4 f9 d5 g9 j6
 go_wp2_with (simp only[a3])
 clear a3 y1
 go_quiet (fail)
 have hq:Below w2.heap.size w2 (w2.drewN nq):=U7 (Q2 _ _) nq
 have a0:=Q0 (k3.below hq)
 have b9:=Q0 (P9 j5 nq)
 have e1:=Q0 (P9 g4 nq)
 have e3:=Q0 (j3.trans (C1 hq))
 clear hq p0 p1 J Z U
 generalize w2.drewN nq=w3 at a0 b9 e1 e3|-
 clear k3 j5 g4 j3
 obtain⟨p0,p1,J,Z,U⟩:=T7 b9
 obtain⟨y0,y1,y2,y3,y4,y⟩:=a0.cells
 have n8: ∀fn first cap w,(Instr.makeFunc fn first cap).run prog w= .ok (.func fn first cap) w:=fun _ _ _ _=>rfl
 have eg:=XH func122 (by kernel_rfl) rfl
 have C:=a0.hx 2 Y5
 obtain⟨qg,h5,f6⟩:=C.rq.elem JP (by omega) (i:=k) (by simpa using c1)
 obtain⟨q,a1⟩:=exq ((H 2).qs[k]'c1)
 have a7:q∈(H 2).qs:=by rw[<-a1];exact Y1 _
 have q0:w3.cell? ⟨qg,k*2,none⟩=some (I O q.price):=by have:=f6 0 _ rfl;rw[<-a1];simpa [QG.que]using this
 have q1:w3.cell? ⟨qg,k*2+1,none⟩=some (.slice q.A q.os.length q.c):=by have:=f6 1 _ rfl;rw[<-a1];simpa [QG.que]using this
 have d3:Q7 (H 2).qA=some qg:=by rw[h5];rfl
 have d6:=C.rq.lt d3
 have i6:Q7 q.A≠some qg:=fun e=>by have h3:=C.gl _ a7 qg e;have h4:=C.gq qg d3;omega
 have g8:Q7 q.A≠some b:=fun e=>by have h3:=C.gl _ a7 b e;have h4:=a0.gb;omega
 have j7:Q7 q.A≠some pb:=fun e=>b1 (VS 2 Y5 (.inr (.inr ⟨q,a7,e⟩)))
 have g7:=Ki Y5 N HN
 have m8:q.os.length<=1000:=by rw[<-a1];exact Pv Y5 N HN c1
 have i8:=Xy w3 b 4 2 o.price (H 2).qA (H 2).qs.length (H 2).qc ((H 2).qs.map QG.que) (by exact y) (VV JP (by omega) C.rq) (N.is 2 Y5).rank g7
 have j8:=Q0 i8
 have a2:=Q0 h5
 have a6:=Q0 a1
 have a4:=Q0 c1
 have f8:=Q0 j4
 have n2:=Q0 h7
 have i5:=Q0 (C.rl q a7)
 have j1:=Q0 C.rq
 have k2:=Q0 i6
 have l6:=Q0 g8
 have k8:=Q0 j7
 have j0:=Q0 (show b≠qg from fun e=>by have h3:=a0.gb;have h4:=C.gq qg d3;rw[e]at h3;omega)
 clear i8 C f6 a7 i6 g8 j7 d3 a1 j4 h7
 go_wp2_with fail
 refine j8.mono ?_
 rintro e w4 ⟨D,j,k1,rfl⟩
 obtain rfl:j=k:=Mm (N.is 2 Y5) a4 n2 k1
 obtain⟨fb,n3⟩: ∃fb,Hid (DN 2 o.price ((H 2).qs.map QG.que) (H 2).qs.length j=fb):=⟨_,Q0 rfl⟩
 rw[n3.out]
 have e2:=Q0 (a0.below D)
 have d2:=Q0 (J4 b9 D)
 have n1:=Q0 (J4 e1 D)
 have m7:=Q0 (e3.trans (C1 D))
 obtain⟨d9,m6⟩:=Rn D
 have m9:w4.cell? ⟨qg,j*2,none⟩=some (I O q.price):=(d9 _ _ d6).trans q0
 have f5:w4.cell? ⟨qg,j*2+1,none⟩=some (.slice q.A q.os.length q.c):=(d9 _ _ d6).trans q1
 have d4:=i5.below D
 have j9:=j1.below D
 have i9:qg<w4.heap.size:=by have:=D.size;omega
 clear k1 q0 q1 p0 p1 J Z U y0 y1 y2 y3 y4 y d6 d9 m6 D j8 a0 b9 e1 e3 i5 j1
 obtain⟨l,e5⟩:=exq ((H 2).qs.length)
 obtain⟨m,hm⟩:=exq q.os.length
 rw[hm]at f5 d4
 have y:w4.cell? ⟨b,5,none⟩=some (.slice (some ⟨qg,0,none⟩) l (H 2).qc):=by rw[J0 e2.blk];rw[<-a2.out,<-e5];rfl
 obtain⟨p0,p1,J,Z,U⟩:=T7 d2
 have n6:(j:Int)< (l:Int):=by omega
 have n7:(0:Int)<=(j:Int):=by omega
 have i0: ∀W,Below w4.heap.size w4 W->Calls prog 122 #[.slice q.A m q.c,IP (some ⟨pb,0,none⟩)] W _:=fun W hW=>Kb W q.A m q.c (A6 q.os) pb (h1,h2) (d4.below hW) (by omega) k8 ((J0 (J4 d2 hW) 0).trans rfl) ((J0 (J4 d2 hW) 1).trans rfl)
 have HD:=Q0 (i0 w4.drew (J3 (Q2 _ _)))
 have l3:=Q0 j9
 have HL:=Q0 e5
 have Hm:=Q0 hm
 have m5:=J5 e2.blk
 clear i0 d4 j9 e5 hm m8 g7
 go_upto_region 10 with fail
 go_cut [72] (fun o2 wx=>Kr w4 wx qg j q.A q.c q.os (h1,h2))
 case first=>
  go_region_with (go_at_call 122;refine HD.mono ?_;rintro e w5 ⟨b0,rfl,g2⟩;have z1:w5.cell? ⟨b,5,none⟩=some (.slice (some ⟨qg,0,none⟩) l (H 2).qc):=(b0.cell (p:=⟨b,5,none⟩) m5 l6).trans y;have z2:w5.cell? ⟨qg,j*2+1,none⟩=some (.slice q.A m q.c):=(b0.cell (p:=⟨qg,j*2+1,none⟩) i9 k2).trans f5;have z3:=(b0.frozen (p:=⟨qg,j*2+1,none⟩) i9 k2).trans (J2.frozen (by rw[<-a2.out];exact l3) (j*2+1):w4.frozen? ⟨qg,j*2+1,none⟩=false);have k9:=Q0 b0;have c8:=Q0 g2;clear b0 g2)
  all_goals go_wp2_with fail
  all_goals go_meet
  all_goals exact Ha k9 c8
 have hX:=Fa e2 m7 Y5 a4 a6 a2 hcut d2 n1 b1 a5
 have g3:=Q0 hX
 obtain⟨reg6,E,_,_,_⟩:=hX
 have u:=Nv Y5 a2 E
 have e7:=Q0 u
 clear p0 p1 J Z U m9 f5 y HD hcut
 have g0:=J5 E.blk
 have y:wc.cell? ⟨b,5,none⟩=some (.slice (some ⟨qg,0,none⟩) l (H 2).qc):=by
  rw[J0 E.blk];have e:VF H 2 j q (h1,h2) 2=⟨(H 2).mA,(H 2).mc,(H 2).qA,(H 2).qc,(H 2).ms,(H 2).qs.set j ⟨q.price,q.A,q.c,q.os.filter (B3 (h1,h2))⟩⟩:=by unfold VF;rw[QV]
  show some (Value.slice (VF H 2 j q (h1,h2) 2).qA (VF H 2 j q (h1,h2) 2).qs.length (VF H 2 j q (h1,h2) 2).qc)=_;rw[e];dsimp only;rw[a2.out,QN,HL.out]
 have i3:=J1 E.blk 5
 obtain⟨nl,e6⟩:=exq ((q.os.filter (B3 (h1,h2))).length)
 have q1:wc.cell? ⟨qg,j*2+1,none⟩=some (.slice q.A nl q.c):=by
  obtain⟨g,hg,hc⟩:=u.elem JP (by omega) (i:=j) (by have:=a4.out;simpa using this)
  cases hg;have:=hc 1 _ rfl;rw[<-e6];simpa [QG.que]using this
 have i7:=Q0 e6
 have l9:l<=100000:=by have h3:=Ki Y5 N HN;have h4:=HL.out;omega
 have o5:j<l:=by omega
 clear u E e6
 go_upto_if 84 with fail
 go_cut [85] (fun o1 wx=>SQ w wx b a r F M n (D0 f o.id none) H 2 o.id h1 h2 pb rb #[I O h1,I O h2,I O 2,I O o.price,.bool false])
 case first=>as_aux_lemma=>
  by_cases hz:nl=0
  ·have Hz:=Q0 hz
   have t1:((nl:Int) ==0)=true:=Z0 (by omega);have a3:=Da wc qg l (H 2).qc j (j+1) ((j:Int)+1) (by omega) _ (by rw[<-HL.out];exact e7) l9 (by omega) (by omega);have l5:=Q0 a3;have n9:IntKind.i64.wrap ((j:Int)+1)=(j:Int)+1:=by rw[AW];omega
   clear a3 hz;go_wp2_with fail
   refine l5.mono ?_;rintro e w7 ⟨rfl,h0,c3⟩;have y7:w7.cell? ⟨b,5,none⟩=some (.slice (some ⟨qg,0,none⟩) l (H 2).qc):=(c3.cell (p:=⟨b,5,none⟩) g0 j0).trans y;have f7:=(c3.frozen (p:=⟨b,5,none⟩) g0 j0).trans i3;have k6:=Q0 h0;have m0:=Q0 c3;clear h0 c3;go_wp2_with fail
   go_meet;have h9:=Dm N Y5 a4 a6 a2 (by rw[<-a6.out];exact f8) HX (i7.trans Hz) rfl g3 b1 a5 (by rw[HL.out];exact k6) m0;rw[HL.out]at h9;exact h9
  have Hz:=Q0 hz;have t1:((nl:Int) ==0)=false:=X3 (by omega);clear hz;go_wp2_with fail
  go_meet;exact Dl N Y5 a4 a6 (by rw[<-a6.out];exact f8) HX (fun e=>Hz (i7.symm.trans e)) rfl g3 a5
 have d7:=Q0 hcut
 clear q1 y i3 hcut
 obtain⟨H5,l7,a9,c2,c9,d0,d1,b8,c5,c7⟩:=d7.out
 have q0:=a9.cells.1
 obtain⟨p0,p1,J,Z,U⟩:=T7 b8
 clear a9 c2 c9 d0 d1 b8 c5 c7
 go_upto_region 13 with fail
 obtain⟨H5,l7,a9,c2,c9,d0,d1,b8,c5,c7⟩:=d7.out
 have i2:=Kd (M:=M) a9 (J3 (Q2 wc.heap.size wc)) n0
 have HG:=Q0 i2
 have l8:=Q0 (c2.trans (C1 (J3 (Q2 wc.heap.size wc))))
 have c8:=Q0 c5
 have g1:=Q0 c7
 have k7:=Q0 c9
 have m3:=Q0 d0
 have m4:=Q0 d1
 clear i2 J Z U a9 c2 c9 d0 d1 b8 c5 c7 d7
 go_cut [5,104] (fun s5 o3 wx=>s5= .nilIface/\Kt w wx b a r rb F M n (D0 f o.id none) H 2 o.id h1 h2 (J8 o))
 case first=>as_aux_lemma=>
  go_region_with (go_at_call 127;refine HG.mono ?_;rintro e w6 ⟨rfl,F6,reg6,E,e8⟩;have u:Q1 w6 rb 29 #[I O 0,I O 0,I O 0,I O 0,I O 0]:=X0 (Z2 c8) e8.1 g1;have z0:=(T7 u).1;have z1:=(T7 u).2.1;have z2:=(T7 u).2.2.1;have z3:=(T7 u).2.2.2.1;have z4:=(T7 u).2.2.2.2;have f0:=J1 u 0;have f1:=J1 u 1;have f2:=J1 u 2;have f3:=J1 u 3;have f4:=J1 u 4;have l4:=Q0 E;have k0:=Q0 e8;have e7:=Q0 u;clear E u e8)
  all_goals go_wp2_with fail
  all_goals go_meet
  all_goals
   have l2: ¬V0 b r F6 H5 rb:=fun h=>(k0.2 rb h).elim g1 (fun h3=>by have h4:=J5 (Z2 c8);omega)
   exact⟨rfl,Xn l4 (l8.trans k0) l2 l0.1 k7 m3 m4,J7 (J7 (J7 (J7 (J7 e7 0 _) 1 _) 2 _) 3 _) 4 _⟩
 obtain⟨rfl,h6,i1⟩:=hcut
 have k5:=Q0 h6
 have l1:=Q0 i1
 clear h6 i1
 go_wp2_with fail
 refine WX (g:=rb) (cs:=J8 o) (v:=U0 0) (by with_unfolding_all rfl) (by with_unfolding_all rfl) (by with_unfolding_all rfl) l1 rfl ?_
 exact⟨rfl,k5⟩
theorem Qd0 w (b n c i j:Nat) (jz:Int) (a2:jz=j) qs (h:J2 w (some ⟨b,0,none⟩) n c 29 5 (Q9 X9 qs)) (hn:n<=100000) (b2:i<j) (hj:j<=n):
  Calls prog 66 #[.slice (some ⟨b,0,none⟩) n c,I O i,I O jz] w fun e w'=>
   e= .returned (.slice (some ⟨b,0,none⟩) (i+ (n-j)) c)/\J2 w' (some ⟨b,0,none⟩) (i+ (n-j)) c 29 5 (Q9 X9 (qs.take i++qs.drop j))/\Q6 (fun x=>x=b) w w':=by
 subst a2
 obtain⟨b8,a7⟩:=h.cap
 obtain⟨i0,a5,b0,a3,a9⟩:=N0 Xh
 have hl:qs.length=n:=by have:=h.1;rw[YV H6]at this;omega
 have Z:(Q9 X9 qs).length=n*5:=h.1
 obtain⟨y,D⟩:=exr ((Q9 X9 qs).drop (j*5))
 have J:y.length=(n-j)*5:=by rw[D,KK,Z];omega
 have E:J2 w.drew (some ⟨b,0,none⟩) n c 29 5 (Q9 X9 qs):=h.below (J3 (Q2 _ w))
 obtain⟨A,hA,a4⟩: ∃A,(if c=j then some (⟨b,0,none⟩:Addr)else some ⟨b,j*5,none⟩)=some A/\Hid (∀t u,y[t]?=some u->w.drew.cell? (A.add t)=some u):=by
  by_cases a1:c=j
  ·refine⟨⟨b,0,none⟩,by simp[a1],fun t u C=> ?_⟩
   have h0:y.length=0:=by rw[J];omega
   rw[Zl.1 h0]at C;simp at C
  refine⟨⟨b,j*5,none⟩,by simp[a1],fun t u C=> ?_⟩;rw[BX];rw[D,FS]at C;obtain⟨g,hg,hc⟩:=E.cell C
  cases hg;exact hc
 have s1:Hid (y.length=(n-j)*5):=J
 have s2:Hid (∀u∈y,u.oneCell'=true):=by
  intro u C;rw[D]at C;exact LP JK qs u (YJ C)
 have s3:Hid (∀t,t<y.length->(w.drew.cell? ⟨b,0+i*5+t,none⟩).isSome=true/\w.drew.frozen? ⟨b,0+i*5+t,none⟩=false):=by
  intro t ht;rw[J]at ht;exact⟨E.some_ (by omega),E.frozen _⟩
 obtain⟨W1,U⟩:=exr (w.drew.setCells b (0+i*5) y)
 have N:J2 W1 (some ⟨b,0,none⟩) n c 29 5 (UG (Q9 X9 qs) (i*5) y):=by rw[U,QQ];exact E.sets _ _ _ _
 obtain⟨vs,b5,a8⟩:=TM (P:=prog) W1 47 29 0 (.agg #[I O 0,I O 0,I O 0,I O 0,I O 0]) 5 QM (fun _=>by kernel_rfl) rfl (by omega) (by intro v hv;simp[Value.cells]at hv;rcases hv with rfl|rfl|rfl|rfl|rfl<;>rfl) b ((i+ (n-j))*5) (n- (i+ (n-j))) (c- (i+ (n-j))) (by omega)
  (fun x hx=>N.some_ (by omega)) (fun x hx=>N.frozen _)
 have hp:=N.pop (i+ (n-j)) (by omega)
 rw[Zy _ _ _ (by rw[J,Z];omega),D]at hp
 have a0:=Ve (Q9 X9 qs) (i*5) (j*5) (by omega) (by omega)
 rw[Z,show i*5+ (n*5-j*5)=(i+ (n-j))*5 by omega]at a0
 rw[a0,Vu H6 _ _ _ (by omega)]at hp
 have hK:Q6 (fun x=>x=b) w W1:=by
  rw[U];exact(U1 (J3 (Q2 _ w)) _).trans (DU _ _ _ _) (fun i h=> .inl h)
 have HP:=Q0 hp
 have HK:=Q0 hK
 have hW:Hid (W1=w.drew.setCells b (0+i*5) y):=U
 have a6:i<=c:=by omega
 have b1:j<=c:=by omega
 clear hp hK U a0 N E J D Z hl h
 go_enter func66,ntmps66
 go_wp2_with fail
 go_region_law (refine step_append_room rfl (.tmp 22) (.tmp 25) 47 rfl 29 i0 5 QM a5 a3 b 0 i c (by simp[Act.eval,Act.put]) A (n-j) (c-j) y (by simp[Act.eval,Act.put]) s1 a4 s2 (by omega) s3 ?_;rw[<-hW.out])
 go_wp2
 go_ret
 exact⟨rfl,Je _ _ _ HP (Q4 _),HK.trans (DU _ _ _ _) (fun i h=> .inl h)⟩
def Jn0 (w:World) (S:Nat->Prop) (g:FuncId) (lb:Array Value) (F:Q8->Bool):Prop:=
 ∀W p,Q6 S w W->Calls prog g (#[X5 p]++lb) W fun e w'=>e= .returned (.bool (F p))/\Below W.heap.size W w'
theorem Qj7 g lb F (eg: ∀U w,(callFunc g U).run prog w= .ok (.enter g U) w) A n c ps w S
  (hp:Jn0 w S g lb F) (h:V4 w X9 5 A n ps) (hm:n<=1000000):
  Calls prog 64 #[.slice A n c,.func (.func g) #[] lb] w fun e w'=>Below w.heap.size w w'/\
   (((∀i (u:i<ps.length),F ps[i]=false)/\e= .returned (I O (-1)))\/ ∃(k:Nat) (hk:k<ps.length),F ps[k]=true/\(∀i (u:i<ps.length),i<k->F ps[i]=false)/\e= .returned (I O k)):=by
 have hl:=h.1
 have HP:=Q0 hp
 have HL:=Q0 hl
 have HH:=Q0 h
 clear hp hl h
 go_enter func64,ntmps64
 go_wp2
 go_loopg [5,8] n (fun gg _ s8 wr=> ∃j,j<=n/\gg=n-j/\s8=I O j/\Below w.heap.size w wr/\Hid (∀i (u:i<ps.length),i<j->F ps[i]=false))
 case atStart=>exact⟨0,V5 _,rfl,rfl,Q2 _ w,Q0 fun i _ u=>absurd u (Nat.not_lt_zero _)⟩
 obtain⟨j,a4,rfl,rfl,y,D⟩:=hrel
 by_cases a1:j<n
 ·obtain⟨b,a3,rfl,_,_⟩:=HH.2 (by omega)
  have Z:j<ps.length:=by have:=HL.out;omega
  obtain⟨x0,x1,x2,x3,x4⟩:=CW (HH.below y (Q4 _)) Z;have v:=HP.out wr ps[j] (U1 y _);have a0:(j:Int)< (n:Int):=by omega
  obtain⟨p,E⟩: ∃p,Hid (ps[j]=p):=⟨_,Q0 rfl⟩;rw[E.out]at x0 x1 x2 x3 x4 v;obtain⟨p0,p1,p2,p3,p4⟩:=p;unfold X5 at v;dsimp only at x0 x1 x2 x3 x4 v
  cases C:F ⟨p0,p1,p2,p3,p4⟩with
  |true=>
   rw[C]at v;have J:=Q0 C;clear C;go_wp2_with (go_at_fn g;refine v.mono ?_;rintro e w' ⟨rfl,N⟩)
   go_ret;exact⟨y.trans (N.mono y.size),.inr ⟨j,Z,by rw[E.out];exact J,D,rfl⟩⟩
  |false=>
   rw[C]at v;have J:=Q0 C;clear C;go_wp2_with (go_at_fn g;refine v.mono ?_;rintro e w' ⟨rfl,N⟩)
   go_roundg (n- (j+1))
   case measure=>omega
   refine⟨j+1,by omega,rfl,by go_num,y.trans (N.mono y.size),Q0 fun i u a2=> ?_⟩
   by_cases e:i=j
   ·subst e
    rw[E.out];exact J
   exact D i u (by omega)
 have a0: ¬(j:Int)< (n:Int):=by omega
 obtain rfl:j=n:=by omega
 go_wp2
 go_ret
 exact⟨y,.inl ⟨fun i u=>D i u (by have:=HL.out;omega),rfl⟩⟩
theorem Qj8 {w w' p v} (h:w.cell? p=some v) (i:Below w.heap.size w w'):w'.cell? p=some v:=(i.cell (V6 _ _ h)).trans h
theorem Qd1 w B id (j:Q1 w B 3 #[I O id]) o:
  Calls prog 65 #[X5 o,IP (some ⟨B,0,none⟩)] w fun e w'=>e= .returned (.bool (o.id ==id))/\Below w.heap.size w w':=by
 have i:Below w.heap.size w (w.alloc (.cells #[I O o.id,I O o.side,I O o.kind,I O o.price,I O o.qty] 29)):=(Q2 _ w).alloc (Q4 _) _
 have u:=Q0 i
 have v:w.cell? ⟨B,0,none⟩=some (I O id):=by rw[J0 j];rfl
 have y:=Qj8 v i
 have C:=J5 j
 clear j i
 unfold X5
 go_enter func65,ntmps65
 go_wp2
 go_ret
 exact⟨rfl,u⟩
section
variable {w w':World} {b a r:Nat} {F:Nat->Prop} {M:Int->Int->Option Q8} {n:Nat} {f:Int->Option Value} {H:Int->HS} {s:Int}
theorem Qj9 (S:U3 M n f H) {x s'} (u:Z4 s) (j:Z4 s') (i:x∈(H s).all) (v:s'≠s):D1 (H s').L x.2.id=(H s').L:=by
 rw[<-S.filter_id (XL u i) j,S.filter_other u j i v]
 rfl
theorem Ji9 {G} (S:U3 M n f H) {x} (Z:Z4 s) (C:x∈(H s).all) (v: ∀i,G i↔V0 b r F H i) (h:LS w w' b a r F n H s x.2.id):FX w w' b G (D1 (H 1).L x.2.id) (D1 (H 2).L x.2.id):=by
 obtain⟨F',D,f',j,reg',E,hS,y,U,J⟩:=h
 have key: ∀s',Z4 s'->D1 (H s').L x.2.id=(j s').L:=by
  intro s' N
  by_cases e:s'=s
  ·subst e;exact U.symm
  rw[J s' e];exact Qj9 S Z N C e
 refine⟨V0 b r F' j,⟨a,F',D,n-1,r,f',j,reg',E,hS,fun i=>ZP,key 1 (.inl rfl),key 2 (.inr rfl)⟩,y.1.mono (fun i u=>(v i).2 u),fun i u=>(y.2 i u).imp (fun h=>(v i).2 h) id⟩
theorem Xp (S:U3 M n f H) {x} (j:x∈B4 H):Y0 ((H 1).L++(H 2).L) x.2.id=some x.2:=by
 have e:(H 1).L++(H 2).L=U6 (B4 H):=(EE _ _).symm
 rw[e]
 unfold Y0
 cases i:(U6 (B4 H)).find? (fun o=>o.id ==x.2.id)with
 |none=>
  rw[EY]at i;have:=i x.2 (U4.2 ⟨x,j,rfl⟩);simp at this
 |some o=>
  have h1:=FP i;obtain⟨y,hy,rfl⟩:=U4.1 h1;have h2:=TG i;have u:y.2.id=x.2.id:=by simpa using h2
  rw[S.same_id hy j u]
theorem Xq (S:U3 M n f H) {id} (h:f id=none):Y0 ((H 1).L++(H 2).L) id=none:=by
 have e:(H 1).L++(H 2).L=U6 (B4 H):=(EE _ _).symm
 rw[e]
 unfold Y0
 rw[EY]
 intro o i
 obtain⟨y,hy,rfl⟩:=U4.1 i
 have:=S.none_.1 h y hy
 simpa using this
end
def Fb (w:World) (b:Nat) (G:Nat->Prop) (L1 L2:List Q8) (id:Int) (e:Ending) (w':World):Prop:=
 (Y0 (L1++L2) id=none/\e= .returned (.tuple #[.agg #[I O 0,I O 0,I O 0,I O 0,I O 0],U0 7])/\Below w.heap.size w w')\/
 (∃o,Y0 (L1++L2) id=some o/\e= .returned (.tuple #[X5 o,U0 0])/\FX w w' b G (D1 L1 id) (D1 L2 id))
theorem Jk w b G L1 L2 (h:QY w b G L1 L2) id:
  Calls prog 89 #[IP (some ⟨b,0,none⟩),I O id] w (Fb w b G L1 L2 id):=by
 obtain⟨a,F,M,n,r,f,H,reg,u,j,hG,rfl,rfl⟩:=h
 have y:=u.ar.le
 cases J:f id with
 |none=>
  refine(Sx w b a F M n r f H reg u id J).mono ?_;rintro e w' ⟨rfl,hb⟩;exact .inl ⟨Xq j J,rfl,hb⟩
 |some v=>
  obtain⟨x,Z,rfl⟩:=j.hk id v J;obtain⟨D,i⟩:=j.side_mem Z;have C: ∀s,Z4 s->x∈(H s).all-> ∀e w',(e= .returned (.tuple #[X5 x.2,U0 0])/\LS w w' b a r F n H s x.2.id)->Fb w b G (H 1).L (H 2).L x.2.id e w':=by
   rintro s D i e w' ⟨rfl,hl⟩;exact .inr ⟨x.2,Xp j Z,rfl,Ji9 j D i hG hl⟩
  generalize x.2.side=s at D i;rcases D with rfl|rfl
  ·rcases j.where_ Y4 i with⟨hk,_⟩|⟨hk,k,N,E,U⟩
   ·exact(Qs5 w b a F M n r f H reg u j x i hk y).mono (C 1 Y4 i)
   exact(Qs6 w b a F M n r f H reg u j x i hk y k N E U).mono (C 1 Y4 i)
  rcases j.where_ Y5 i with⟨hk,_⟩|⟨hk,k,N,E,U⟩
  ·exact(Qs7 w b a F M n r f H reg u j x i hk y).mono (C 2 Y5 i)
  exact(Qs8 w b a F M n r f H reg u j x i hk y k N E U).mono (C 2 Y5 i)
def addE (L1 L2:List Q8) (o:Q8):Int:=
 if XW o=false then 1 else if JH o=false then 2 else if(Y0 (L1++L2) o.id).isSome=true then 9 else if L1.length+L2.length=100 then 12 else 0
def KQ (s:Int) (L:List Q8) (o:Q8):List Q8:=if o.side=s then UW s L (V3 o)else L
def Nw (w:World) (b:Nat) (G:Nat->Prop) (L1 L2:List Q8) (o:Q8) (e:Ending) (w':World):Prop:=
 (addE L1 L2 o≠0/\e= .returned (U0 (addE L1 L2 o))/\Below w.heap.size w w')\/
 (addE L1 L2 o=0/\e= .returned (U0 0)/\FX w w' b G (KQ 1 L1 o) (KQ 2 L2 o))
theorem Jl5 {w w' b a r F G n H o} (hs:Z4 o.side) (y: ∀i,G i↔V0 b r F H i) (h:MQ w w' b a r F n H (V3 o)):FX w w' b G (KQ 1 (H 1).L o) (KQ 2 (H 2).L o):=by
 obtain⟨F',E,f',j,reg',J,U,D,u,C⟩:=h
 have es:(V3 o).side=o.side:=rfl
 rw[es]at u C
 have key: ∀s',Z4 s'->KQ s' (H s').L o=(j s').L:=by
  intro s' Z;unfold KQ
  by_cases e:o.side=s'
  ·rw[Q5 e];rw[e]at u;exact u.symm
  rw[Q3 e,C s' (fun N=>e N.symm)]
 refine⟨V0 b r F' j,⟨a,F',E,n+1,r,f',j,reg',J,U,fun i=>ZP,key 1 (.inl rfl),key 2 (.inr rfl)⟩,D.1.mono (fun i v=>(y i).2 v),fun i v=>(D.2 i v).imp (fun h=>(y i).2 h) id⟩
theorem FX.of_below {w w' b G L1 L2} (h:QY w b G L1 L2) (i:Below w.heap.size w w'):FX w w' b G L1 L2:=⟨G,h.below i,C1 i⟩
def KB (s p:Int) (o:Q8):Bool:=(o.kind ==2) || ((s ==1) &&decide (p<=o.price)) || ((s ==2) &&decide (o.price<=p))
def GN (s:Int) (a b:Q8):Prop:= ∀p,KB s p b=true->KB s p a=true
def GP (s:Int) (L:List Q8):Prop:=L.Pairwise (GN s)
theorem GN.trans {s a b c} (h:GN s a b) (k:GN s b c):GN s a c:=fun p hp=>h p (k p hp)
theorem Qs9 {s} (i:Z4 s) {o x} (h:KA s o x=true):GN s x o:=by
 intro p hp
 unfold KA JG at h
 unfold KB at hp|-
 rcases i with rfl|rfl
 ·simp at h hp|-
  omega
 simp at h hp|-
 omega
theorem Jc5 {s} (i:Z4 s) {o x} (h:KA s o x=false):GN s o x:=by
 intro p hp
 unfold KA JG at h
 unfold KB at hp|-
 rcases i with rfl|rfl
 ·simp at h hp|-
  omega
 simp at h hp|-
 omega
theorem Bv {α:Type} {q:α->Bool}: ∀ {l:List α} {a:α},a∈l.takeWhile q->q a=true
 | [],_,h=>by simp at h
 |b::l,a,h=>by
  rw[List.takeWhile_cons]at h
  split at h
  ·rename_i hq
   rcases D4.1 h with rfl|h
   ·exact hq
   exact Bv h
  cases h
theorem Bo {α:Type} {q:α->Bool}: ∀ {l:List α} {d:α} {r:List α},l.dropWhile q=d::r->q d=false
 | [],_,_,h=>by simp at h
 |a::l,d,r,h=>by
  rw[List.dropWhile_cons]at h
  split at h
  ·exact Bo h
  rename_i hq
  cases h;simpa using hq
theorem Fc {s} (u:Z4 s) {L} (h:GP s L) o:GP s (UW s L o):=by
 unfold UW GP at*
 have J:L.takeWhile (KA s o)++L.dropWhile (KA s o)=L:=FN
 rw[<-J,AR]at h
 obtain⟨h1,h2,D⟩:=h
 have C: ∀a∈L.takeWhile (KA s o),GN s a o:=fun a j=>Qs9 u (Bv j)
 have E: ∀b∈L.dropWhile (KA s o),GN s o b:=by
  cases v:L.dropWhile (KA s o)with
  |nil=>intro b i;cases i
  |cons d r=>
   have y:=Jc5 u (Bo v);rw[v]at h2;intro b i;rcases D4.1 i with rfl|i
   ·exact y
   exact y.trans ((LY.1 h2).1 b i)
 rw[AR]
 refine⟨h1,LY.2 ⟨E,h2⟩,fun a j b i=> ?_⟩
 rcases D4.1 i with rfl|i
 ·exact C a j
 exact D a j b i
def T5 (f:Q8->Int):List Q8->Int
 | []=>0
 |o::l=>f o+T5 f l
theorem Qt0 {f l l'} (h:l.Perm l'):T5 f l=T5 f l':=by
 induction h with
 |nil=>rfl
 |cons a _ i=>simp only[T5,i]
 |swap a b l=>simp only[T5];omega
 |trans _ _ h1 h2=>exact h1.trans h2
theorem Vm {f} l l':T5 f (l++l')=T5 f l+T5 f l':=by
 induction l with
 |nil=>simp[T5]
 |cons a l i=>simp only[List.cons_append,T5,i];omega
theorem Fe f l: ∀s,l.foldl (fun s o=>s+f o) s=s+T5 f l:=by
 induction l with
 |nil=>intro s;simp[T5]
 |cons a l i=>intro s;rw[QZ,i];simp only[T5];omega
theorem Ff {f g l} (h: ∀o∈l,f o=g o):T5 f l=T5 g l:=by
 induction l with
 |nil=>rfl
 |cons a l i=>simp only[T5];rw[h a (by simp),i (fun o j=>h o (by simp[j]))]
theorem Hd {f l} (h: ∀o∈l,f o=0):T5 f l=0:=by
 induction l with
 |nil=>rfl
 |cons a l i=>simp only[T5];rw[h a (by simp),i (fun o j=>h o (by simp[j]))];rfl
theorem Jj0 {f g l} (h: ∀o∈l,f o<=g o):T5 f l<=T5 g l:=by
 induction l with
 |nil=>simp[T5]
 |cons a l i=>
  have h1:=h a (by simp);have h2:=i (fun o j=>h o (by simp[j]));simp only[T5];omega
def C7 (s p:Int) (L:List Q8):Int:=T5 (fun o=>if KB s p o=true then o.qty else 0) L
def LJ (L:List Q8):Int:=T5 (fun o=>o.qty) L
def V9:List Q8->Int->List Q8
 | [],_=> []
 |o::t,a=>if a<=0 then o::t else if o.qty<=a then V9 t (a-o.qty)else B6 o a::t
def Qe (a q:Int):Int:=if a<=0 then 0 else if a<q then a else q
def MU:List Q8->Int->Int->Int
 | [],_,_=>0
 |o::t,a,id=>if o.id=id then Qe a o.qty else MU t (a-o.qty) id
theorem RV L {a} (h:a<=0):V9 L a=L:=by
 cases L with
 |nil=>rfl
 |cons o t=>unfold V9;rw[Q5 h]
theorem NV (id:Int): ∀(L:List Q8) {a:Int},a<=0->(∀o∈L,1<=o.qty)->MU L a id=0
 | [],_,_,_=>rfl
 |o::t,a,h,hq=>by
  unfold MU;have h1:=hq o (by simp)
  split
  ·unfold Qe;rw[Q5 h]
  exact NV id t (by omega) (fun o ho=>hq o (by simp[ho]))
theorem Xr {x:Q8}: ∀ {L:List Q8} {a:Int},x∈V9 L a-> ∃o∈L,o.id=x.id/\o.side=x.side/\o.kind=x.kind/\o.price=x.price/\x.qty<=o.qty
 | [],_,h=>by cases h
 |o::t,a,h=>by
  unfold V9 at h
  split at h
  ·exact⟨x,h,rfl,rfl,rfl,rfl,P8 _⟩
  split at h
  ·obtain⟨y,hy,h1⟩:=Xr h
   exact⟨y,EU _ hy,h1⟩
  rcases D4.1 h with rfl|h
  ·exact⟨o,by simp,rfl,rfl,rfl,rfl,by unfold B6;dsimp only;omega⟩
  exact⟨x,EU _ h,rfl,rfl,rfl,rfl,P8 _⟩
theorem WG: ∀ {L:List Q8} {a:Int},0<=a->a<LJ L->V9 L a≠ []
 | [],a,h0,h=>by simp[LJ,T5]at h;omega
 |o::t,a,h0,h=>by
  have e:LJ (o::t)=o.qty+LJ t:=rfl;unfold V9
  split
  ·simp
  split
  ·exact WG (by omega) (by omega)
  simp
theorem Vz {x:Q8} {t:List Q8} {n:Int}: ∀ {L:List Q8} {a:Int},(∀o∈L,1<=o.qty)->0<=a->V9 L a=x::t->1<=n->n<=x.qty->(if n=x.qty then t else B6 x n::t)=V9 L (a+n)
 | [],a,_,_,h,_,_=>by simp[V9]at h
 |o::s,a,hq,h0,h,h1,h2=>by
  have ho:=hq o (by simp);have hs: ∀o∈s,1<=o.qty:=fun y hy=>hq y (by simp[hy])
  unfold V9 at h
  by_cases ha:a<=0
  ·rw[Q5 ha]at h
   injection h with e1 e2
   subst e1;subst e2;unfold V9;rw[Q3 (show¬a+n<=0 by omega)]
   by_cases e:n=o.qty
   ·rw[Q5 e,Q5 (show o.qty<=a+n by omega),RV _ (by omega)]
   rw[Q3 e,Q3 (show¬o.qty<=a+n by omega)];have:a+n=n:=by omega
   rw[this]
  rw[Q3 ha]at h
  by_cases hb:o.qty<=a
  ·rw[Q5 hb]at h
   have ih:=Vz hs (by omega) h h1 h2;rw[ih]
   conv=>rhs;unfold V9
   rw[Q3 (show¬a+n<=0 by omega),Q5 (show o.qty<=a+n by omega)]
   congr 1
   omega
  rw[Q3 hb]at h;injection h with e1 e2
  subst e1;subst e2;have e3:(B6 o a).qty=o.qty-a:=rfl;rw[e3]at h2|-
  conv=>rhs;unfold V9
  rw[Q3 (show¬a+n<=0 by omega)]
  by_cases e:n=o.qty-a
  ·rw[Q5 e,Q5 (show o.qty<=a+n by omega),RV _ (by omega)]
  rw[Q3 e,Q3 (show¬o.qty<=a+n by omega)];have e4:B6 (B6 o a) n=B6 o (a+n):=by unfold B6;dsimp only;congr 1;omega
  rw[e4]
theorem Vn {x:Q8} {t:List Q8} {n:Int} (id:Int): ∀ {L:List Q8} {a:Int},(∀o∈L,1<=o.qty)->(L.map (·.id)).Nodup->0<=a->V9 L a=x::t->1<=n->n<=x.qty->
  MU L (a+n) id=MU L a id+ (if x.id=id then n else 0)
 | [],a,_,_,_,h,_,_=>by simp[V9]at h
 |o::s,a,hq,hn,h0,h,h1,h2=>by
  have ho:=hq o (by simp);have hs: ∀o∈s,1<=o.qty:=fun y hy=>hq y (by simp[hy])
  rw[S6,KT]at hn;unfold V9 at h;unfold MU
  by_cases ha:a<=0
  ·rw[Q5 ha]at h
   injection h with e1 e2
   subst e1
   by_cases e:o.id=id
   ·rw[Q5 e,Q5 e,Q5 e]
    unfold Qe;rw[Q3 (by omega),Q5 ha]
    split<;>omega
   rw[Q3 e,Q3 e,Q3 e,NV id s (by omega) hs,NV id s (by omega) hs]
   rfl
  rw[Q3 ha]at h
  by_cases hb:o.qty<=a
  ·rw[Q5 hb]at h
   have hx:x.id≠o.id:=by
    intro e;have hm:x∈V9 s (a-o.qty):=by rw[h];simp
    obtain⟨y,hy,hyi,_⟩:=Xr hm;exact hn.1 (U4.2 ⟨y,hy,hyi.trans e⟩)
   by_cases e:o.id=id
   ·rw[Q5 e,Q5 e,Q3 (by rw[<-e];exact hx)]
    unfold Qe;rw[Q3 (by omega),Q3 (by omega),Q3 (by omega),Q3 (by omega)];omega
   rw[Q3 e,Q3 e];have ih:=Vn id hs hn.2 (by omega) h h1 h2;rw[<-ih]
   congr 1
   omega
  rw[Q3 hb]at h;injection h with e1 e2
  subst e1;have e3:(B6 o a).qty=o.qty-a:=rfl;have e4:(B6 o a).id=o.id:=rfl;rw[e3]at h2;rw[e4]
  by_cases e:o.id=id
  ·rw[Q5 e,Q5 e,Q5 e]
   unfold Qe;rw[Q3 (show¬a+n<=0 by omega),Q3 ha,Q5 (show a<o.qty by omega)]
   split<;>omega
  rw[Q3 e,Q3 e,Q3 e,NV id s (by omega) hs,NV id s (by omega) hs]
  rfl
theorem Cm s p l l':C7 s p (l++l')=C7 s p l+C7 s p l':=Vm l l'
theorem Xs {s p L} (h: ∀o∈L,1<=o.qty):C7 s p L<=LJ L:=by
 refine Jj0 fun o i=> ?_
 have:=h o i
 split<;>omega
structure B5 where
 b:Int
 s:Int
 p:Int
 n:Int
def QH (g:B5->Int):List B5->Int
 | []=>0
 |f::l=>g f+QH g l
theorem Ur g l f:QH g (l++ [f])=QH g l+g f:=by
 induction l with
 |nil=>simp[QH]
 |cons a l i=>simp only[List.cons_append,QH,i];omega
structure CT (L1 L2:List Q8) (p a:Int) (F:List B5):Prop where
 one: ∀f∈F,f.p=p/\1<=f.n/\(∃o∈L1,o.id=f.b)/\(∃o∈L2,o.id=f.s)
 sum:QH (·.n) F=a
 buy: ∀id,QH (fun f=>if f.b=id then f.n else 0) F=MU L1 a id
 sell: ∀id,QH (fun f=>if f.s=id then f.n else 0) F=MU L2 a id
 len:(F.length:Int)<=a
theorem CT.start {L1 L2 p} (h1: ∀o∈L1,1<=o.qty) (h2: ∀o∈L2,1<=o.qty):CT L1 L2 p 0 []:=
 ⟨fun f i=>(by cases i),rfl,fun id=>(NV id L1 (P8 _) h1).symm,fun id=>(NV id L2 (P8 _) h2).symm,by simp⟩
theorem CT.step {L1 L2 p a n F} (h:CT L1 L2 p a F) (h1: ∀o∈L1,1<=o.qty) (h2: ∀o∈L2,1<=o.qty) (D:(L1.map (·.id)).Nodup) (E:(L2.map (·.id)).Nodup) (C:0<=a)
  {x y t u} (v:V9 L1 a=x::t) (hy:V9 L2 a=y::u) (j:1<=n) (N:n<=x.qty) (J:n<=y.qty):CT L1 L2 p (a+n) (F++ [⟨x.id,y.id,p,n⟩]):=by
 refine⟨?_, ?_, ?_, ?_, ?_⟩
 ·intro f i
  rcases Y7.1 i with i|i
  ·exact h.one f i
  rw[VK]at i;subst i;obtain⟨o,U,e,_⟩:=Xr (show x∈V9 L1 a by rw[v];simp);obtain⟨o',a0,Z,_⟩:=Xr (show y∈V9 L2 a by rw[hy];simp);exact⟨rfl,j,⟨o,U,e⟩,o',a0,Z⟩
 ·rw[Ur,h.sum]
 ·intro id
  rw[Ur,h.buy,Vn id h1 D C v j N]
 ·intro id
  rw[Ur,h.sell,Vn id h2 E C hy j J]
 have:=h.len
 rw[Y9]
 simp
 omega
theorem Us s L o:(UW s L o).Perm (o::L):=by
 unfold UW
 refine List.perm_middle.trans ?_
 rw[FN]
structure Rp (x L1 L2:List Q8):Prop where
 r1:GP 1 L1
 r2:GP 2 L2
 perm:(L1++L2).Perm (x.map V3)
 s1: ∀o∈L1,o.side=1
 s2: ∀o∈L2,o.side=2
theorem Rp.nil:Rp [] [] []:=⟨List.Pairwise.nil,List.Pairwise.nil,TL _,fun o h=>(by cases h),fun o h=>(by cases h)⟩
structure Rq (x:List Q8):Prop where
 id: ∀i (h:i<x.length),x[i].id=i+1
 ok: ∀o∈x,JA o=true
 price: ∀o∈x,1<=o.price/\o.price<=60
 len:x.length<=60
theorem Rq.side {x} (h:Rq x) {o} (i:o∈x):Z4 o.side:=by
 have:=h.ok o i
 unfold JA at this
 simp at this
 exact this.2
