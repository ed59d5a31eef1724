/- Parts. -/
import Derived.Test.YtnlngicnfegjgaaGreatDoorZq38
set_option linter.unusedVariables false
set_option maxRecDepth 100000
set_option maxHeartbeats 8000000
open Go.Proofs.Tryz
open Go.Value renaming int→I,pointer→IP
open Go.IntKind renaming i64→O
namespace Go.Proofs.YtnlngicnfegjgaaGreatDoor
open Go.RowKit
theorem Qm5 {l:List Q8} {p k} (hk:k<l.length) (h:p l[k]=true) (v: ∀i (y:i<l.length),i<k->p l[i]=false):l.findIdx p=k/\l.any p=true:=by
 refine⟨(List.findIdx_eq hk).2 ⟨h,fun j u=>v j (by omega) u⟩,TF.2 ⟨_,Y1 hk,h⟩⟩
theorem Dx {m id} (i:m.ph≠7) (j:CZ m id=false):UL m id=(if(Y0 (L6 m) id).isSome=true then 0 else 7)/\N4 m id=PJ m id:=by
 unfold UL N4
 rw[Q3 i,Q3 i,j]
 exact⟨rfl,rfl⟩
theorem Qu9 {m id k} (i:m.ph≠7) (j:CZ m id=true) (hk:(m.pk.findIdx fun o=>o.id ==id)=k):UL m id=0/\N4 m id= {m with pk:=S3 m.pk k}:=by
 unfold UL N4
 rw[Q3 i,Q3 i,Q5 j,Q5 j,hk]
 exact⟨rfl,rfl⟩
theorem Qe5 {w e F m} (h:C3 w e F m) (h9:m.pk.length<=100000) id:
  Calls prog 22 #[IP (some ⟨e,0,none⟩),I O id] w fun C w'=>C= .returned (U0 (UL m id))/\C0 w w' e F (N4 m id):=by
 have hE:=h
 obtain⟨cs,tb,bb,bk,im,T,tc,Al,lc,lv,bu,se,Ap,pc,es,mc,G,own,hM,hF⟩:=h
 have a5:Below w.heap.size w (w.alloc (.cells #[I O id] 3)):=(Q2 _ w).alloc (Q4 _) _
 have hB:=J9 w 3 #[I O id]
 obtain⟨wa,a7⟩:=exq (w.alloc (.cells #[I O id] 3))
 obtain⟨B,eB⟩:=exq w.heap.size
 rw[a7]at a5 hB
 rw[eB]at hB
 have a2:=hM.below a5
 have f5:=hE.below a5
 have f4: ∀k,¬own B k:=fun k hk=>by have:=hM.ok.lt B k hk;omega
 have f2:=a2.cell a2.ec.c14
 have b5:=a2.cell a2.ec.c12
 have g2:=a2.frozen 12
 have y:wa.cell? ⟨B,0,none⟩=some (I O id):=by rw[J0 hB];rfl
 obtain⟨ph,d2⟩:=exq m.ph
 obtain⟨n,hn⟩:=exq m.pk.length
 rw[d2]at f2
 rw[hn]at b5 h9
 have c3:=Q0 d2
 have HN:=Q0 hn
 have d1:=Q0 f5
 have c1:=Q0 a5
 have d9:=Q0 a2
 have HB:=Q0 hB
 have i0:=Q0 f4
 have HF:=Q0 hF
 clear hE hM hF a5 hB a2 f5 f4 d2 hn
 by_cases p7:ph=7
 ·have d7:=Z0 p7
  have HS:Hid (UL m id=6/\N4 m id=m):=Q0 (by unfold UL N4;rw[c3.out,Q5 p7,Q5 p7];exact⟨rfl,rfl⟩);clear p7;go_enter func22,ntmps22
  go_upto_region 1 with fail
  try rw[a7]
  try rw[eB]
  clear a7 eB;go_wp2_with fail
  go_ret;rw[HS.1,HS.2];exact⟨rfl,C0.pre c1 (DH d1 (Q2 _ _))⟩
 have d7:=X3 p7
 have H7:=Q0 p7
 clear p7
 have e2:=Qj7 65 #[IP (some ⟨B,0,none⟩)] (fun o=>o.id ==id) (XH func65 (by kernel_rfl) rfl) Ap n pc m.pk wa (fun _=>False) (fun W p hk=>Qd1 W B id (X0 HB hk (fun x=>x)) p) (by rw[<-HN.out];exact VV H6 (by omega) d9.park) (by omega)
 have e6:=Q0 e2
 clear e2
 go_enter func22,ntmps22
 go_upto_region 1 with fail
 try rw[a7]
 try rw[eB]
 clear a7 eB
 go_wp2_with fail
 refine e6.mono ?_
 rintro C w1 ⟨u,d8⟩
 have a1:=d9.below u
 have g6:=Q0 (d1.below u)
 have a0:=Q0 a1
 have d0:=Q0 (c1.trans (u.mono c1.size))
 have g8:=Q0 (J4 HB u)
 clear f2 b5 g2 y u e6 d1 d9 c1 HB
 rcases d8 with⟨e5,rfl⟩|⟨k,hk,hy,f3,rfl⟩
 ·have e3:Hid (CZ m id=false):=Q0 (by
   unfold CZ;rw[Bool.eq_false_iff];intro g9;obtain⟨o,ho,f0⟩:=TF.1 g9;obtain⟨i,hi,rfl⟩:=XG.1 ho;rw[e5 i hi]at f0
   cases f0)
  clear e5;have y:w1.cell? ⟨B,0,none⟩=some (I O id):=by rw[J0 g8.out];rfl
  have c8:=a1.cell a1.ec.c8;have d8: ∃oo v,(∀W,Below w1.heap.size w1 W->Calls prog 67 #[IP (some ⟨bk,0,none⟩),I O id] W fun C w'=>Below W.heap.size W w'/\C= .returned (.tuple #[X5 oo,v]))/\((Y0 (L6 m) id).isSome=true/\v= .nilIface\/(Y0 (L6 m) id).isSome=false/\v=U0 7):=by
   cases hg:Y0 (L6 m) id with
   |none=>
    refine⟨Y3,U0 7,fun W hW=>(By W bk G m.L1 m.L2 (a0.below hW).book id).mono ?_,.inr ⟨rfl,rfl⟩⟩;rintro C w' ⟨h1,h2|⟨o,h2,-⟩⟩
    ·exact⟨h1,h2.2⟩
    have h3:Y0 (m.L1++m.L2) id=none:=hg;rw[h3]at h2;cases h2
   |some o=>
    refine⟨o,.nilIface,fun W hW=>(By W bk G m.L1 m.L2 (a0.below hW).book id).mono ?_,.inl ⟨rfl,rfl⟩⟩;rintro C w' ⟨h1,h2|⟨o',h2,h3⟩⟩
    ·have h3:Y0 (m.L1++m.L2) id=some o:=hg
     rw[h3]at h2;cases h2.1
    have h4:Y0 (m.L1++m.L2) id=some o:=hg;rw[h4]at h2;cases h2;exact⟨h1,h3⟩
  obtain⟨⟨U,E,N,D,Z⟩,v,c0,f8⟩:=d8;unfold X5 at c0;dsimp only at c0;have HOr:=Q0 c0;have d6:=Q0 f8;clear c0 f8 a1;go_upto_region 7 with fail
  go_cut [7] (fun s7 wx=>s7=v/\Below w1.heap.size w1 wx)
  case first=>
   refine XF (fun t=> [].contains t) (fun W=>W.cell? ⟨e,8,none⟩=some (IP (some ⟨bk,0,none⟩))/\W.cell? ⟨B,0,none⟩=some (I O id)) (by kernel_rfl) ⟨c8,y⟩ (fun e9=> ?_);refine tM 0 (IP (some ⟨e,0,none⟩)) ?_;refine tM 1 (IP (some ⟨e,0,none⟩)) ?_;refine tM 2 (IP (some ⟨e,8,none⟩)) ?_;refine tM 3 (IP (some ⟨bk,0,none⟩)) ?_;refine tM 4 (I O id) ?_;refine UK (i:=5) (j:=9) (by kernel_rfl) ?_ ?_
   ·skip
    refine L9 5 rfl (fun K1 b2=> ?_);go_simp;refine(HOr _ (J3 (Q2 _ _))).mono ?_;rintro C w2 ⟨hq,rfl⟩;have u:Below w1.heap.size w1 w2:=(J3 (Q2 _ _)).trans hq;have b1:(fun W:World=>W.cell? ⟨e,8,none⟩=some (IP (some ⟨bk,0,none⟩))/\W.cell? ⟨B,0,none⟩=some (I O id)) w2:=⟨Z7 c8 u,Z7 y u⟩;refine b2 _ _ (fun _=>b1) ?_;clear b2 e9 hq;refine tM 6 (.tuple #[.agg #[I O U,I O E,I O N,I O D,I O Z],v]) ?_;refine tM 7 (.agg #[I O U,I O E,I O N,I O D,I O Z]) ?_;refine tM 8 v ?_;refine oM 9 fun K2 a4=> ?_
    go_simp;have J:Below w1.heap.size w1 (w2.alloc (.cells #[I O 0,I O 0,I O 0,I O 0,I O 0] 29)):=u.alloc u.size _;have a6:=J9 w2 29 #[I O 0,I O 0,I O 0,I O 0,I O 0];have a3:w1.heap.size<=w2.heap.size:=u.size;obtain⟨Y,eY⟩:=exq w2.heap.size;obtain⟨w3,e8⟩:=exq (w2.alloc (.cells #[I O 0,I O 0,I O 0,I O 0,I O 0] 29));rw[e8]at J a6|-;rw[eY]at a6 a3|-;have c4:(fun W:World=>W.cell? ⟨e,8,none⟩=some (IP (some ⟨bk,0,none⟩))/\W.cell? ⟨B,0,none⟩=some (I O id)) w3:=⟨Z7 c8 J,Z7 y J⟩;refine a4 _ _ (fun _=>c4) ?_;clear a4 e8 eY b1;refine oM 10 fun K5 b8=> ?_
    refine(Q5 (by rfl)).mpr ?_;refine M9 29 _ _ rfl Y #[I O U,I O E,I O N,I O D,I O Z] rfl rfl 29 #[I O 0,I O 0,I O 0,I O 0,I O 0] a6 (by show(prog.info? 29).map (·.size)=some 5;kernel_rfl) rfl (by simp[Value.oneCell']) ?_;have a9:=B7 w3 Y #[I O U,I O E,I O N,I O D,I O Z];obtain⟨w6,a8⟩:=exq (w3.setRow Y #[I O U,I O E,I O N,I O D,I O Z]);rw[a8]at a9|-;have h6:=J.trans (a9.below (fun i e=>e▸a3) J.size);have c7:(fun W:World=>W.cell? ⟨e,8,none⟩=some (IP (some ⟨bk,0,none⟩))/\W.cell? ⟨B,0,none⟩=some (I O id)) w6:=⟨Z7 c8 h6,Z7 y h6⟩;refine b8 _ _ (fun _=>c7) ?_;clear b8 a8;simp only[Act.put];refine tM 11 v ?_;refine D5 (by kernel_rfl) ?_ _;go_wp2_with fail
    go_meet;exact⟨rfl,h6⟩
   skip
   refine L9 9 rfl (fun K1 b2=> ?_);go_simp;have u:Below w1.heap.size w1 (w1.alloc (.cells #[I O 0,I O 0,I O 0,I O 0,I O 0] 29)).drew:=J3 ((Q2 _ _).alloc (Q4 _) _);have e1:=Z2 (J9 w1 29 #[I O 0,I O 0,I O 0,I O 0,I O 0]);have a3:w1.heap.size<=w1.heap.size:=Q4 _;obtain⟨Y,eY⟩:=exq w1.heap.size;obtain⟨w2,f7⟩:=exq ((w1.alloc (.cells #[I O 0,I O 0,I O 0,I O 0,I O 0] 29)).drew);rw[f7]at u e1|-;rw[eY]at e1|-;have a3:w1.heap.size<=Y:=YZ eY;have b1:(fun W:World=>W.cell? ⟨e,8,none⟩=some (IP (some ⟨bk,0,none⟩))/\W.cell? ⟨B,0,none⟩=some (I O id)) w2:=⟨Z7 c8 u,Z7 y u⟩;refine b2 _ _ (fun _=>b1) ?_;clear b2 f7 eY e9;refine oM 5 fun K2 a4=> ?_
   go_simp;refine(HOr _ u).mono ?_;rintro C w3 ⟨hq,rfl⟩;have J:=u.trans (hq.mono u.size);have a6:=J4 e1 hq;have c4:(fun W:World=>W.cell? ⟨e,8,none⟩=some (IP (some ⟨bk,0,none⟩))/\W.cell? ⟨B,0,none⟩=some (I O id)) w3:=⟨Z7 c8 J,Z7 y J⟩;refine a4 _ _ (fun _=>c4) ?_;clear a4 b1 hq;refine tM 6 (.tuple #[.agg #[I O U,I O E,I O N,I O D,I O Z],v]) ?_;refine tM 7 (.agg #[I O U,I O E,I O N,I O D,I O Z]) ?_;refine tM 8 v ?_;refine oM 10 fun K5 b8=> ?_
   refine(Q5 (by rfl)).mpr ?_;refine M9 29 _ _ rfl Y #[I O U,I O E,I O N,I O D,I O Z] rfl rfl 29 #[I O 0,I O 0,I O 0,I O 0,I O 0] a6 (by show(prog.info? 29).map (·.size)=some 5;kernel_rfl) rfl (by simp[Value.oneCell']) ?_;have a9:=B7 w3 Y #[I O U,I O E,I O N,I O D,I O Z];obtain⟨w6,a8⟩:=exq (w3.setRow Y #[I O U,I O E,I O N,I O D,I O Z]);rw[a8]at a9|-;have h6:=J.trans (a9.below (fun i e=>e▸a3) J.size);have c7:(fun W:World=>W.cell? ⟨e,8,none⟩=some (IP (some ⟨bk,0,none⟩))/\W.cell? ⟨B,0,none⟩=some (I O id)) w6:=⟨Z7 c8 h6,Z7 y h6⟩;refine b8 _ _ (fun _=>c7) ?_;clear b8 a8;simp only[Act.put];refine tM 11 v ?_;refine D5 (by kernel_rfl) ?_ _;go_wp2_with fail
   go_meet;exact⟨rfl,h6⟩
  obtain⟨rfl,b9⟩:=hcut;have f6:=Q0 (g6.below b9);have f9:=Q0 (d0.trans (b9.mono d0.size));have y:=Z7 y b9;clear b9 c8 HOr;rcases d6.out with⟨hs,he⟩|⟨hs,he⟩
  ·subst he
   have HS:Hid (UL m id=0/\N4 m id=PJ m id):=Q0 (by have h1:=Dx (fun x=>H7 (c3.symm.trans x)) e3;rw[Q5 hs]at h1;exact h1);have g3:=Q0 (Qt9 wc e F m f6 id);clear hs d6;go_wp2_with fail
   refine g3.mono ?_;rintro C w9 ⟨rfl,g1⟩;have h7:=Q0 g1;clear g1;go_wp2_with fail
   go_ret;rw[HS.1,HS.2];exact⟨rfl,C0.pre f9 h7⟩
  subst he;have HS:Hid (UL m id=7/\N4 m id=PJ m id):=Q0 (by have h1:=Dx (fun x=>H7 (c3.symm.trans x)) e3;rw[Q3 (by rw[hs];exact Bool.false_ne_true)]at h1;exact h1);have g5:Hid (Y0 (L6 m) id=none):=Q0 (by simpa using hs);have e7:U0 7= .iface 52 (I O 7):=rfl;rw[e7];clear hs d6;go_wp2_with fail
  go_ret;rw[HS.1,HS.2,Fl g5.out];exact⟨rfl,C0.pre f9 (DH f6 (Q2 _ _))⟩
 have c6:=Qm5 (p:=fun o=>o.id ==id) hk hy f3
 have HS:=Q0 (Qu9 (m:=m) (id:=id) (fun x=>H7 (c3.symm.trans x)) c6.2 c6.1)
 have h5:k<n:=by rw[<-HN.out];exact hk
 have g4:(0:Int)<=(k:Int):=by omega
 have dk:decide ((k:Int)>=0)=true:=Z5 g4
 have c2:=a1.park
 rw[HN.out]at c2
 obtain⟨ga,h0⟩:=QC c2 (by omega)
 subst h0
 have b5:=a1.cell a1.ec.c12
 rw[HN.out]at b5
 have f1:=Qd0 w1 ga n pc k (k+1) ((k:Int)+1) (by omega) m.pk c2 (by omega) (by omega) (by omega)
 have e4:=Q0 f1
 have i2:=Q0 h5
 clear c6 hk hy f3 a1 c2 f1
 go_wp2_with fail
 refine e4.mono ?_
 rintro C w3 ⟨rfl,g0,c5⟩
 have c9:(S3 m.pk k).length=k+ (n- (k+1)):=by unfold S3;rw[Y9,T6,KK,HN.out];omega
 obtain⟨own',d4,d3⟩:=a0.pkTo (P':=S3 m.pk k) (Ap':=some ⟨ga,0,none⟩) (pc':=pc) (c5.mono (fun i hi=>by rw[hi];rfl)) (by rw[c9];exact g0) (fun i hi=> .inl hi)
 rw[c9]at d4 d3
 have d5:Q1 w3 e 103 cs:=X0 a0.ind.blk c5 (fun x=>absurd (a0.ok.uni _ _ _ (a0.op _ (x▸rfl)) a0.oe) (by decide))
 have i1:w3.cell? ⟨e,12,none⟩=some (.slice (some ⟨ga,0,none⟩) n pc):=(J0 d5 12).trans (a0.ec.c12.trans (by rw[HN.out]))
 have g2:=J1 d5 12
 have g7:=Q0 d4
 have h8:=Q0 d3
 clear b5 g0 c5 c9 d4 d3 d5 e4
 go_wp2_with fail
 go_ret
 rw[HS.1,HS.2]
 exact⟨rfl,C0.pre d0 ⟨_,EW (m:= {m with pk:=S3 m.pk k}) g7 (fun _ _ _=>rfl),h8.bstep HF⟩⟩
theorem Qv0 {σ al tr}: ∀l o (t:σ),(V7 al tr l o t).fills.length<=l.length:=by
 intro l
 induction l with
 |nil=>intro o t;exact Q4 _
 |cons x r i=>
  intro o t;unfold V7
  split
  ·exact V5 _
  split
  ·exact Nat.le_succ_of_le (i o t)
  split
  ·exact V5 _
  split
  ·exact V5 _
  dsimp only;rw[XX,XX];exact PM (i _ _)
theorem Sz {sd F} (h: ∀f∈F,SX f) s k:ES sd F s k<=1000000*F.length:=by
 induction F with
 |nil=>exact P8 _
 |cons f t j=>
  rw[TN,XX];have h1:=j (fun g i=>h g (by simp[i]));have h2:=(h f (by simp)).n
  split<;>omega
theorem Yw {m} (h:B8 m.L1 m.L2) o:(D9 m o).fills.length<=100:=by
 have h1:(D9 m o).fills.length<=(X6 (3-o.side) m.L1 m.L2).length:=Qv0 _ _ _
 have h2:=h.cnt
 rw[Y9]at h2
 have i:(X6 (3-o.side) m.L1 m.L2).length<=m.L1.length+m.L2.length:=by
  unfold X6
  split<;>omega
 omega
theorem Kj {m:X7} (h:B8 m.L1 m.L2) sd: ∀x∈X6 sd m.L1 m.L2,JJ x:=fun x i=>by
 unfold X6 at i
 split at i
 ·exact h.ok x (S9 _ i)
 exact h.ok x (QB _ i)
theorem Nc {m} (h:B8 m.L1 m.L2) o: ∀f∈(D9 m o).fills,SX f:=Ql6 _ _ _ (Kj h _)
theorem VR m o:(C5 m o).now=m.now/\(C5 m o).tk=m.tk:=by
 unfold C5
 split
 ·exact⟨rfl,rfl⟩
 exact⟨rfl,rfl⟩
theorem Nd {w g n c t ps} (h:J2 w (some ⟨g,0,none⟩) n c t 4 (Q9 D8 ps)) {i} (v:i<ps.length):
  w.cell? ⟨g,i*4,none⟩=some (I O ps[i].b)/\w.cell? ⟨g,i*4+1,none⟩=some (I O ps[i].s)/\w.cell? ⟨g,i*4+2,none⟩=some (I O ps[i].p)/\w.cell? ⟨g,i*4+3,none⟩=some (I O ps[i].n):=by
 obtain⟨y,u,j⟩:=h.elem Cn (by omega) v
 cases u
 exact⟨j 0 _ rfl,j 1 _ rfl,j 2 _ rfl,j 3 _ rfl⟩
theorem Qm6 {m} (h:B8 m.L1 m.L2) {o} (j:Z4 o.side) s k:Y2 s k (L6 m)=Y2 s k (L6 (XU m o))+ES o.side (D9 m o).fills s k:=by
 have key:=Qu0 (al:=fun la p=>ZK m.st m.dy m.an la p) (tr:=fun _ p=>p) (sd:=o.side) s k (X6 (3-o.side) m.L1 m.L2) o m.la (fun x i=>by
  rcases j with e|e
  ·rw[e]at i|-
   exact h.s2 x i
  rw[e]at i|-;exact h.s1 x i)
 have u:(V7 (fun la p=>ZK m.st m.dy m.an la p) (fun _ p=>p) (X6 (3-o.side) m.L1 m.L2) o m.la)=D9 m o:=rfl
 rw[u]at key
 unfold L6 XU
 dsimp only
 rcases j with e|e
 ·rw[Q5 e,Q5 e,GU,GU]
  rw[show X6 (3-o.side) m.L1 m.L2=m.L2 by rw[e];rfl]at key;omega
 rw[Q3 (by omega),Q3 (by omega),GU,GU]
 rw[show X6 (3-o.side) m.L1 m.L2=m.L1 by rw[e];rfl]at key
 omega
structure DQ (w wr:World) (e tb bb bk im V X Y:Nat) (T:Option Addr) (tc:Nat) (Ap:Option Addr) (pc:Nat) (es:List MapEntry) (mc:Nat) (own:Nat->Nat->Prop) (A:Option Addr) (c:Nat) (F:List B5) (ob lb:Array Value) (m1:X7) (sd:Int) (k:Nat) (cs:Array Value) (Al:Option Addr) (lc:Nat) (lv:List X4) (bu se:Int) (G:Nat->Prop) (own2:Nat->Nat->Prop):Prop where
 eng:V1 wr e cs tb bb bk im T tc Al lc lv bu se Ap pc es mc G own2 (fun s q=>Y2 s q (L6 m1)+ES sd (F.drop k) s q) m1
 step:Z8 w wr own own2
 row:KX wr own2 A F.length c 89 4 (Q9 D8 F)
 fA: ∀i,Q7 A=some i->w.heap.size<=i
 v:Q1 wr V 37 #[IP (some ⟨e,0,none⟩)]/\ ∀k,¬own2 V k
 x:Q1 wr X 29 ob/\ ∀k,¬own2 X k
 y:Q1 wr Y 29 lb/\ ∀k,¬own2 Y k
 n:lv.length<=100+k
def SD (w wr:World) (e tb bb bk im V X Y:Nat) (T:Option Addr) (tc:Nat) (Ap:Option Addr) (pc:Nat) (es:List MapEntry) (mc:Nat) (own:Nat->Nat->Prop) (A:Option Addr) (c:Nat) (F:List B5) (ob lb:Array Value) (m1:X7) (sd:Int) (k:Nat):Prop:=
 ∃cs Al lc lv bu se G own2,DQ w wr e tb bb bk im V X Y T tc Ap pc es mc own A c F ob lb m1 sd k cs Al lc lv bu se G own2
section
variable {w w1 wr wz w':World} {e tb bb bk im V X Y:Nat} {cs:Array Value} {T:Option Addr} {tc:Nat} {Al:Option Addr} {lc:Nat} {lv lv':List X4} {bu se bu' se':Int} {Ap:Option Addr} {pc:Nat} {es:List MapEntry} {mc:Nat} {G:Nat->Prop} {own own2:Nat->Nat->Prop} {A:Option Addr} {c k:Nat} {F:List B5} {ob lb:Array Value} {m m1:X7} {sd:Int} {G2:Nat->Prop} {o:Q8}
theorem DQ.below (h:DQ w wr e tb bb bk im V X Y T tc Ap pc es mc own A c F ob lb m1 sd k cs Al lc lv bu se G own2) (i:Below wr.heap.size wr w'):DQ w w' e tb bb bk im V X Y T tc Ap pc es mc own A c F ob lb m1 sd k cs Al lc lv bu se G own2:=
 ⟨h.eng.below i,h.step.trans (F8 i),h.row.below i,h.fA,⟨J4 h.v.1 i,h.v.2⟩,⟨J4 h.x.1 i,h.x.2⟩,⟨J4 h.y.1 i,h.y.2⟩,h.n⟩
theorem DQ.cells {a1 a2 a3 a4 a5 b1 b2 b3 b4 b5} (h:DQ w wr e tb bb bk im V X Y T tc Ap pc es mc own A c F #[a1,a2,a3,a4,a5] #[b1,b2,b3,b4,b5] m1 sd k cs Al lc lv bu se G own2):
  wr.cell? ⟨V,0,none⟩=some (IP (some ⟨e,0,none⟩))/\wr.cell? ⟨X,1,none⟩=some a2/\wr.cell? ⟨Y,0,none⟩=some b1/\wr.cell? ⟨Y,1,none⟩=some b2/\wr.cell? ⟨Y,2,none⟩=some b3/\wr.cell? ⟨Y,3,none⟩=some b4/\wr.cell? ⟨Y,4,none⟩=some b5:=
 ⟨by rw[J0 h.v.1];rfl,by rw[J0 h.x.1];rfl,by rw[J0 h.y.1];rfl,by rw[J0 h.y.1];rfl,by rw[J0 h.y.1];rfl,by rw[J0 h.y.1];rfl,by rw[J0 h.y.1];rfl⟩
theorem AY.loop (h:AY w1 wr e tb bb bk im V X cs T tc Al lc lv bu se Ap pc es mc own (fun s q=>Y2 s q (L6 m)) A c (D9 m o).fills ob (XU m o) G2) (y:Below w.heap.size w w1) (C:w.heap.size<=V) (E:B8 m.L1 m.L2) (N:Z4 o.side) (U:lv.length<=100) (J:Q1 wr Y 29 lb) (D:SN (JQ w1 own G2 4) V X A Y):
  SD w wr e tb bb bk im V X Y T tc Ap pc es mc own A c (D9 m o).fills ob lb (XU m o) o.side 0:=by
 refine⟨cs,Al,lc,lv,bu,se,G2,JQ w1 own G2 4,⟨h.eng.lots (fun s q _=> ?_),⟨(U1 y _).trans h.keep (fun i v=> ?_),fun i j v=> ?_⟩,⟨h.row,fun i v j u=> ?_⟩,fun i v=>G0 y.size (h.fA i v).1,⟨h.var,fun j u=> ?_⟩,⟨h.box,fun j u=> ?_⟩,⟨J,D.1⟩,by omega⟩⟩
 ·exact Qm6 E N s q
 ·rcases v with v|rfl
  ·exact .inl v
  exact .inr C
 ·rcases hj':v with v|v
  ·exact .inl v
  exact .inr (G0 y.size v.1)
 ·have h1:=h.fA i v
  rcases u with u|u
  ·have:=h.o1.lt i j u;omega
  exact h1.2 u.2.1
 ·rcases u with u|u
  ·exact h.nv.1 j u
  have:=u.1;have:=h.nv.2.2.2.1;omega
 rcases u with u|u
 ·exact h.nv.2.1 j u
 have:=u.1;have:=h.nv.2.2.2.2;omega
theorem DQ.small (h:DQ w wr e tb bb bk im V X Y T tc Ap pc es mc own A c F ob lb m1 sd k cs Al lc lv bu se G own2) (v: ∀f∈F,SX f) (E:F.length<=100) (hk:k<=F.length):FY lv bu se:=by
 have u:=h.eng.book.lists
 have j: ∀f∈F.drop k,SX f:=fun f i=>v f (YJ i)
 refine(h.eng.is.mild h.eng.ind.ok (fun s q=> ?_) (by have:=h.n;omega)).small
 have h1:=RZ (s:=s) (k:=q) (BR u)
 have h2:=u.cnt
 have y:=Sz (sd:=sd) j s q
 have C:=Bh (sd:=sd) (fun f i=>(j f i).n.1) s q
 have D:(F.drop k).length<=100:=by rw[KK];omega
 show 0<=Y2 s q (L6 m1)+_/\Y2 s q (L6 m1)+_<=_
 unfold L6
 omega
theorem DQ.next (h:DQ w wr e tb bb bk im V X Y T tc Ap pc es mc own A c F ob lb m1 sd k cs Al lc lv bu se G own2) (D: ∀f∈F,SX f) (hk:k<F.length) (Z:Z4 sd) {f} (N:F[k]=f) (a4:ZD wr w' e 103 cs 9 Al lv' bu' se') (a5:DX lv bu se ⟨0,3-sd,1,f.p,f.n⟩ (-1) lv' bu' se'):
  SD w w' e tb bb bk im V X Y T tc Ap pc es mc own A c F ob lb m1 sd (k+1):=by
 have E:=D f (N▸Y1 hk)
 have u:F.drop k=f::F.drop (k+1):=by rw[UC hk,N]
 have j:(3-sd=1\/3-sd=2):=by rcases Z with e|e<;>omega
 have hr:UN ⟨0,3-sd,1,f.p,f.n⟩:=⟨j,E.n,.inr E.p⟩
 have a0: ∀g∈F.drop (k+1),1<=g.n:=fun g hg=>(D g (YJ hg)).n.1
 have J:S0 ⟨0,3-sd,1,f.p,f.n⟩=some f.p:=Q3 (show¬((1:Int)=2) by decide)
 have hq:(⟨0,3-sd,1,f.p,f.n⟩:Q8).qty<=AD lv bu se ⟨0,3-sd,1,f.p,f.n⟩:=by
  rw[h.eng.is.has j,J,u];show f.n<=Y2 (3-sd) (some f.p) (L6 m1)+ES sd (f::F.drop (k+1)) (3-sd) (some f.p);rw[TN,Q5 ⟨rfl,rfl⟩];have h1:=Bh (sd:=sd) a0 (3-sd) (some f.p);have h2:=(RZ (s:=3-sd) (k:=some f.p) (BR h.eng.book.lists)).1;unfold L6;omega
 obtain⟨-,C⟩:=Hr hr hq a5
 have U:=h.eng.is.chg j C
 obtain⟨a2,a1,a3,own',hM,i⟩:=h.eng.indTo a4 U
 refine⟨a2,a1,a3,lv',bu',se',G,own',⟨hM.lots (fun s q _=> ?_),h.step.trans i,h.row.step i,h.fA,NE h.v i,NE h.x i,NE h.y i,by have:=C.1;have:=h.n;omega⟩⟩
 rw[u,TN,J]
 show Y2 s q (L6 m1)+ ((if 3-sd=s/\some f.p=q then f.n else 0)+ES sd (F.drop (k+1)) s q)+ (if 3-sd=s/\some f.p=q then -1*f.n else 0)=_
 split<;>omega
structure SE (w wr:World) (e V:Nat) (F:Nat->Prop) (A:Option Addr) (c:Nat) (Fs:List B5) (m:X7) (F':Nat->Prop):Prop where
 eng:C3 wr e F' m
 step:Z3 w wr F F'
 row:J2 wr A Fs.length c 89 4 (Q9 D8 Fs)
 fA: ∀g,Q7 A=some g->w.heap.size<=g/\ ¬F' g
 v:Q1 wr V 37 #[IP (some ⟨e,0,none⟩)]/\ ¬F' V
theorem DQ.end_ {F0} (h:DQ w wr e tb bb bk im V X Y T tc Ap pc es mc own A c F ob lb m1 sd k cs Al lc lv bu se G own2) (C: ∀i,F0 i↔ ∃k,own i k) (hk:F.length<=k):SE w wr e V F0 A c F m1 (fun i=> ∃j,own2 i j):=by
 refine⟨EW h.eng (fun s q _=> ?_),h.step.bstep C,h.row.row,fun g y=>⟨h.fA g y,fun⟨j,u⟩=>h.row.far g y j u⟩,h.v.1,fun⟨j,u⟩=>h.v.2 j u⟩
 rw[CG hk]
 show _+0=_
 omega
theorem SE.then_ {F0 F1 Fs m'} (h:SE w wr e V F0 A c Fs m1 F1) (ht:C0 wr w' e F1 m'): ∃F2,SE w w' e V F0 A c Fs m' F2:=by
 obtain⟨F2,h1,h2⟩:=ht
 refine⟨F2,h1,h.step.trans h2,h.row.keeps h2.1 (fun g i=>(h.fA g i).2),fun g i=>⟨(h.fA g i).1,fun x=> ?_⟩,X0 h.v.1 h2.1 h.v.2,fun x=> ?_⟩
 ·rcases h2.2 g x with y|y
  ·exact(h.fA g i).2 y
  have:=h.row.lt i;omega
 rcases h2.2 V x with y|y
 ·exact h.v.2 y
 have:=J5 h.v.1;omega
theorem SE.fills {F0 F1 Fs P} (h:SE w wr e V F0 A c Fs m1 F1) (j:P Fs):N8 w wr e F0 P m1 (.returned (.slice A (List.length Fs) c)):=
 ⟨A,c,Fs,rfl,j,h.row,fun g i=>(h.fA g i).1,F1,h.eng,h.step,fun g i=>(h.fA g i).2⟩
end
theorem Je8 {w e F m} (h:C3 w e F m) (hI:VD m) oi ok op oq (hf:R9 ⟨oi,1,ok,op,oq⟩) (hq:0<=oq):
  Calls prog 47 #[IP (some ⟨e,0,none⟩),X5 ⟨oi,1,ok,op,oq⟩] w fun ev w'=>N8 w w' e F (fun Fs=>Fs=(D9 m ⟨oi,1,ok,op,oq⟩).fills) (M3 m ⟨oi,1,ok,op,oq⟩) ev:=by
 obtain⟨cs,tb,bb,bk,im,T,tc,Al,lc,lv,bu,se,Ap,pc,es,mc,G,own,hM,hF⟩:=h
 have c4:=Uv (al:=fun la p=>ZK m.st m.dy m.an la p) (tr:=fun _ p=>p) (X6 (3-1) m.L1 m.L2) ⟨oi,1,ok,op,oq⟩ m.la hf hq (Kj hM.book.lists _)
 have d6:=Nc hM.book.lists ⟨oi,1,ok,op,oq⟩
 have d4:=Yw hM.book.lists ⟨oi,1,ok,op,oq⟩
 have i8:V7 (fun la p=>ZK m.st m.dy m.an la p) (fun _ p=>p) (X6 (3-1) m.L1 m.L2) ⟨oi,1,ok,op,oq⟩ m.la=D9 m ⟨oi,1,ok,op,oq⟩:=rfl
 rw[i8]at c4
 obtain⟨r,hr⟩:=exq (D9 m ⟨oi,1,ok,op,oq⟩)
 rw[hr]at c4 d6 d4
 obtain⟨fl,⟨D,J,C,E,y⟩,U,st,rst⟩:=r
 dsimp only at c4 d6 d4
 have HR:=Q0 hr
 have j9:=Q0 c4.1
 have g8:=Q0 d6
 have j7:=Q0 d4
 have HI:=Q0 hI
 have HF:=Q0 hF
 have k8:=Q0 hM.book.lists
 have i0:Hid (lv.length<=100):=Q0 (by have h1:=hM.is.few hM.ind.ok;have h2:=hM.book.lists.cnt;unfold L6 at h1;omega)
 clear i8 hr c4 d6 d4 hI hF
 have e2:Below w.heap.size w (w.alloc (.cells #[IP (some ⟨e,0,none⟩)] 37)):=(Q2 _ w).alloc (Q4 _) _
 have hv:=J9 w 37 #[IP (some ⟨e,0,none⟩)]
 obtain⟨w0,e8⟩:=exq (w.alloc (.cells #[IP (some ⟨e,0,none⟩)] 37))
 rw[e8]at e2 hv
 have e1:Below w0.heap.size w0 (w0.alloc (.cells #[I O oi,I O 1,I O ok,I O op,I O oq] 29)):=(Q2 _ w0).alloc (Q4 _) _
 have hx:=J9 w0 29 #[I O oi,I O 1,I O ok,I O op,I O oq]
 obtain⟨w1,f2⟩:=exq (w0.alloc (.cells #[I O oi,I O 1,I O ok,I O op,I O oq] 29))
 rw[f2]at e1 hx
 have d8:Q1 w1 w.heap.size 37 #[IP (some ⟨e,0,none⟩)]:=J4 hv e1
 have f1:Below w.heap.size w w1:=e2.trans (e1.mono e2.size)
 have b0:=hM.below f1
 have d1:(∀k,¬own w.heap.size k)/\(∀k,¬own w0.heap.size k)/\w.heap.size≠w0.heap.size:=by
  have l1:=J5 hv;exact⟨fun k hk=>by have:=hM.ok.lt _ k hk;omega,fun k hk=>by have:=hM.ok.lt _ k hk;omega,by omega⟩
 obtain⟨V,eV⟩:=exq w.heap.size
 obtain⟨X,eX⟩:=exq w0.heap.size
 have h9:w.heap.size<=V:=by omega
 rw[eV]at d8 d1
 rw[eX]at hx d1
 have d9:=Q0 b0
 have HV:=Q0 d8
 have HX:=Q0 hx
 have b5:=Q0 d1
 have k5:=Q0 f1
 have k2:=Q0 h9
 have c8:=b0.cell b0.ec.c8
 have c7:=b0.cell b0.ec.c7
 have v0:w1.cell? ⟨V,0,none⟩=some (IP (some ⟨e,0,none⟩)):=by rw[J0 d8];rfl
 obtain⟨x0,x1,x2,x3,x4⟩:=A5 hx
 have h0: ∀W,Below w1.heap.size w1 W->Calls prog 94 #[IP (some ⟨bk,0,none⟩),.agg #[I O oi,I O 1,I O ok,I O op,I O oq],.func (.func 95) #[IP (some ⟨bb,0,none⟩)] #[],.func (.func 96) #[] #[IP (some ⟨V,0,none⟩)]] W fun ev w'=> ∃A c F' M1 M2,ev= .returned (.tuple #[.slice A (List.length fl) c,.agg #[I O D,I O J,I O C,I O E,I O y],.bool U])/\VC (SL e bb bk V cs m.st m.dy m.an) W w' st (kF G bb e V) F' M1 M2 A c fl/\X6 1 M1 M2=X6 1 m.L1 m.L2/\X6 (3-1) M1 M2=rst:=by
  intro W hb;have hW:=d9.below hb;have u: ∀ {i k k'},own i k->own i k'->k=k':=fun a b=>hW.ok.uni _ _ _ a b
  have hk:SL e bb bk V cs m.st m.dy m.an m.la m.L1 m.L2 (kF G bb e V) W:=⟨G,hW.book,hW.bands,hW.ind.blk,J4 HV hb,fun i=>ZP,fun x=>absurd (u (hW.oG _ x) hW.ob) (by decide),fun x=>absurd (u (hW.oG _ x) hW.oe) (by decide),fun x=>b5.1 _ (hW.oG _ x),fun x=>absurd (u hW.ob (x▸hW.oe)) (by decide),fun x=>b5.1 3 (x▸hW.ob),hW.ec.c7⟩;have hc:=Bq (Hs e bb bk V cs m.st m.dy m.an) (fun hk sd hs=>by obtain⟨G',hk⟩:=hk;exact PT _ bk G' _ _ hk.book sd hs) W m.la (kF G bb e V) m.L1 m.L2 hk rfl oi 1 ok op oq Y4 hf;refine hc.mono ?_;rintro ev w' ⟨A,c,F',M1,M2,he,b1,c5,b2⟩;have hr:V7 (fun la p=>ZK m.st m.dy m.an la p) (fun _ p=>p) (X6 (3-1) m.L1 m.L2) ⟨oi,1,ok,op,oq⟩ m.la=⟨fl,⟨D,J,C,E,y⟩,U,st,rst⟩:=HR.out;rw[hr]at he b1 b2;exact⟨A,c,F',M1,M2,he,b1,c5,b2⟩
 have g1:=Q0 h0
 clear h0 hM b0 e2 hv e1 hx d8 f1 d1 h9 hf hq
 unfold X5
 dsimp only
 go_enter func47,ntmps47
 go_upto_region 1 with fail
 try rw[e8]
 try rw[f2]
 try rw[eV]
 try rw[eX]
 clear e8 f2 eV eX
 go_cut [5,6,7] (fun s5 s6 s7 wx=> ∃A c Y G2,s5= .slice A (List.length fl) c/\s6= IP (some ⟨Y,0,none⟩)/\s7= .bool U/\Q1 wx Y 29 #[I O D,I O J,I O C,I O E,I O y]/\SN (JQ w1 own G2 4) V X A Y/\AY w1 wx e tb bb bk im V X cs T tc Al lc lv bu se Ap pc es mc own (fun s q=>Y2 s q (L6 m)) A c fl #[I O oi,I O 1,I O ok,I O op,I O oq] (XU m ⟨oi,1,ok,op,oq⟩) G2)
 case first=>
  refine XF (fun t=> [].contains t) (fun W=>W.cell? ⟨V,0,none⟩=some (IP (some ⟨e,0,none⟩))/\W.cell? ⟨e,8,none⟩=some (IP (some ⟨bk,0,none⟩))/\W.cell? ⟨e,7,none⟩=some (IP (some ⟨bb,0,none⟩))/\W.cell? ⟨X,0,none⟩=some (I O oi)/\W.cell? ⟨X,1,none⟩=some (I O 1)/\W.cell? ⟨X,2,none⟩=some (I O ok)/\W.cell? ⟨X,3,none⟩=some (I O op)/\W.cell? ⟨X,4,none⟩=some (I O oq)) (by kernel_rfl) ⟨v0,c8,c7,x0,x1,x2,x3,x4⟩ (fun i9=> ?_);refine tM 0 (IP (some ⟨e,0,none⟩)) ?_;refine tM 1 (IP (some ⟨e,0,none⟩)) ?_;refine tM 2 (IP (some ⟨e,8,none⟩)) ?_;refine tM 3 (IP (some ⟨bk,0,none⟩)) ?_;refine tM 4 (.agg #[I O oi,I O 1,I O ok,I O op,I O oq]) ?_;refine tM 5 (IP (some ⟨e,0,none⟩)) ?_;refine tM 6 (IP (some ⟨e,0,none⟩)) ?_;refine tM 7 (IP (some ⟨e,7,none⟩)) ?_;refine tM 8 (IP (some ⟨bb,0,none⟩)) ?_;refine tM 9 (.func (.func 95) #[IP (some ⟨bb,0,none⟩)] #[]) ?_;refine tM 10 (.func (.func 96) #[] #[IP (some ⟨V,0,none⟩)]) ?_;refine UK (i:=11) (j:=16) (by kernel_rfl) ?_ ?_
  ·skip
   refine L9 11 rfl (fun K1 c0=> ?_);go_simp;refine(g1 w1.drew (J3 (Q2 _ _))).mono ?_;rintro ev w4 ⟨A,c,F',M1,M2,rfl,b1,c5,b2⟩;obtain⟨G2,h4,m0⟩:=Xj d9 HV HX b5 (J3 (Q2 _ w1)) Y4 HR b1 c5 b2;have c9:=h4.cells;refine c0 _ _ (fun _=>c9) ?_;clear c0 i9;refine tM 12 (.tuple #[.slice A (List.length fl) c,.agg #[I O D,I O J,I O C,I O E,I O y],.bool U]) ?_;refine tM 13 (.slice A (List.length fl) c) ?_;refine tM 14 (.agg #[I O D,I O J,I O C,I O E,I O y]) ?_;refine tM 15 (.bool U) ?_;refine oM 16 fun K2 b8=> ?_
   go_simp;have a9:Below w4.heap.size w4 (w4.alloc (.cells #[I O 0,I O 0,I O 0,I O 0,I O 0] 29)):=(Q2 _ _).alloc (Q4 _) _;have a5:=J9 w4 29 #[I O 0,I O 0,I O 0,I O 0,I O 0];obtain⟨Y,eY⟩:=exq w4.heap.size;have e7:w4.heap.size<=Y:=YZ eY;have e4:w1.heap.size<=Y:=G0 h4.keep.size e7;obtain⟨w5,h8⟩:=exq (w4.alloc (.cells #[I O 0,I O 0,I O 0,I O 0,I O 0] 29));rw[h8]at a9 a5|-;rw[eY]at a5|-;have h5:=h4.below a9;refine b8 _ _ (fun _=>h5.cells) ?_;have j5:=h5.cells;clear b8 h8 eY c9;refine tM 17 (.slice A (List.length fl) c) ?_;refine oM 18 fun K5 d0=> ?_
   refine(Q5 (by rfl)).mpr ?_;refine M9 29 _ _ rfl Y #[I O D,I O J,I O C,I O E,I O y] rfl rfl 29 #[I O 0,I O 0,I O 0,I O 0,I O 0] a5 (by show(prog.info? 29).map (·.size)=some 5;kernel_rfl) rfl (by simp[Value.oneCell']) ?_;have c3:=D6 _ _ _ #[I O D,I O J,I O C,I O E,I O y] _ a5;have b9:=B7 w5 Y #[I O D,I O J,I O C,I O E,I O y];obtain⟨w6,c6⟩:=exq (w5.setRow Y #[I O D,I O J,I O C,I O E,I O y]);rw[c6]at c3 b9|-;have h6:=h5.keepY b9 (h4.far e7) e4;refine d0 _ _ (fun _=>h6.cells) ?_;have k4:=h6.cells;clear d0 c6;simp only[Act.put];refine tM 19 (.bool U) ?_;refine D5 (by kernel_rfl) ?_ _;go_wp2_with fail
   go_meet;exact⟨A,c,Y,G2,rfl,rfl,rfl,c3,(h4.far e7),h6⟩
  skip
  refine L9 16 rfl (fun K1 c0=> ?_);go_simp;have a2:Below w1.heap.size w1 (w1.alloc (.cells #[I O 0,I O 0,I O 0,I O 0,I O 0] 29)).drew:=J3 ((Q2 _ _).alloc (Q4 _) _);have f8:=Z2 (J9 w1 29 #[I O 0,I O 0,I O 0,I O 0,I O 0]);obtain⟨Y,eY⟩:=exq w1.heap.size;have e4:w1.heap.size<=Y:=YZ eY;obtain⟨w4,j0⟩:=exq ((w1.alloc (.cells #[I O 0,I O 0,I O 0,I O 0,I O 0] 29)).drew);rw[j0]at a2 f8|-;rw[eY]at f8|-;have c9:(fun W:World=>W.cell? ⟨V,0,none⟩=some (IP (some ⟨e,0,none⟩))/\W.cell? ⟨e,8,none⟩=some (IP (some ⟨bk,0,none⟩))/\W.cell? ⟨e,7,none⟩=some (IP (some ⟨bb,0,none⟩))/\W.cell? ⟨X,0,none⟩=some (I O oi)/\W.cell? ⟨X,1,none⟩=some (I O 1)/\W.cell? ⟨X,2,none⟩=some (I O ok)/\W.cell? ⟨X,3,none⟩=some (I O op)/\W.cell? ⟨X,4,none⟩=some (I O oq)) w4:=⟨Z7 v0 a2,Z7 c8 a2,Z7 c7 a2,Z7 x0 a2,Z7 x1 a2,Z7 x2 a2,Z7 x3 a2,Z7 x4 a2⟩;refine c0 _ _ (fun _=>c9) ?_;clear c0 j0 eY i9;refine oM 11 fun K2 b8=> ?_
  go_simp;refine(g1 w4 a2).mono ?_;rintro ev w5 ⟨A,c,F',M1,M2,rfl,b1,c5,b2⟩;obtain⟨G2,h5,k7⟩:=Xj d9 HV HX b5 a2 Y4 HR b1 c5 b2;have a5:=k7 _ _ _ f8 e4;have j5:=h5.cells;refine b8 _ _ (fun _=>j5) ?_;clear b8 c9;refine tM 12 (.tuple #[.slice A (List.length fl) c,.agg #[I O D,I O J,I O C,I O E,I O y],.bool U]) ?_;refine tM 13 (.slice A (List.length fl) c) ?_;refine tM 14 (.agg #[I O D,I O J,I O C,I O E,I O y]) ?_;refine tM 15 (.bool U) ?_;refine tM 17 (.slice A (List.length fl) c) ?_;refine oM 18 fun K5 d0=> ?_
  refine(Q5 (by rfl)).mpr ?_;refine M9 29 _ _ rfl Y #[I O D,I O J,I O C,I O E,I O y] rfl rfl 29 #[I O 0,I O 0,I O 0,I O 0,I O 0] a5.1 (by show(prog.info? 29).map (·.size)=some 5;kernel_rfl) rfl (by simp[Value.oneCell']) ?_;have c3:=D6 _ _ _ #[I O D,I O J,I O C,I O E,I O y] _ a5.1;have b9:=B7 w5 Y #[I O D,I O J,I O C,I O E,I O y];obtain⟨w6,c6⟩:=exq (w5.setRow Y #[I O D,I O J,I O C,I O E,I O y]);rw[c6]at c3 b9|-;have h6:=h5.keepY b9 a5.2 e4;refine d0 _ _ (fun _=>h6.cells) ?_;have k4:=h6.cells;clear d0 c6;simp only[Act.put];refine tM 19 (.bool U) ?_;refine D5 (by kernel_rfl) ?_ _;go_wp2_with fail
  go_meet;exact⟨A,c,Y,G2,rfl,rfl,rfl,c3,a5.2,h6⟩
 obtain⟨A,c,Y,G2,rfl,rfl,rfl,j2,h7,g2⟩:=hcut
 have g3:Hid (SD w wc e tb bb bk im V X Y T tc Ap pc es mc own A c fl #[I O oi,I O 1,I O ok,I O op,I O oq] #[I O D,I O J,I O C,I O E,I O y] (XU m ⟨oi,1,ok,op,oq⟩) 1 0):=by
  have h3:(D9 m ⟨oi,1,ok,op,oq⟩).fills=fl:=by rw[HR.out]
  rw[<-h3]at g2;have h1:=g2.loop k5 k2 k8 Y4 i0 j2 h7;rw[h3]at h1;exact Q0 h1
 have N:Hid ((D9 m ⟨oi,1,ok,op,oq⟩).left=⟨D,J,C,E,y⟩/\(D9 m ⟨oi,1,ok,op,oq⟩).stop=U/\(D9 m ⟨oi,1,ok,op,oq⟩).fills=fl):=Q0 (by rw[HR.out];exact⟨rfl,rfl,rfl⟩)
 obtain⟨m1,f0⟩:=exq (XU m ⟨oi,1,ok,op,oq⟩)
 rw[f0]at g3
 have e6:=Q0 f0
 clear j2 h7 g2 v0 c8 c7 x0 x1 x2 x3 x4 g1 d9 HV HX b5 i0 HR f0
 obtain⟨n,hn⟩:=exq fl.length
 rw[hn]at j7|-
 have HN:=Q0 hn
 have k0:=j7.out
 clear hn
 go_wp2_with fail
 go_loopg [29] n (fun gg l3 wr=> ∃k,k<=n/\gg=n-k/\l3=I O k/\Hid (SD w wr e tb bb bk im V X Y T tc Ap pc es mc own A c fl #[I O oi,I O 1,I O ok,I O op,I O oq] #[I O D,I O J,I O C,I O E,I O y] m1 1 k))
 case atStart=>exact⟨0,V5 _,rfl,rfl,g3⟩
 obtain⟨k,hk,rfl,rfl,HL⟩:=hrel
 clear g3
 obtain⟨cs2,l5,k6,j8,l6,l2,l8,own2,hL⟩:=HL.out
 have e3:=Q0 hL
 clear HL
 by_cases k1:k<n
 ·have f3:k<fl.length:=by rw[HN.out];exact k1
  obtain⟨ga,k3⟩:=QC hL.row.row (by omega);subst k3;obtain⟨y0,y1,y2,y3⟩:=Nd hL.row.row f3;obtain⟨⟨fb,fs,fp,fn⟩,g9⟩: ∃f,fl[k]=f:=⟨_,rfl⟩;rw[g9]at y0 y1 y2 y3;have l0:Hid (fl[k]'f3=⟨fb,fs,fp,fn⟩):=Q0 g9;have l4:(k:Int)< (n:Int):=by omega
  have l9:(0:Int)<=(k:Int):=by omega
  obtain⟨v0,x1,-,-,-,-,-⟩:=hL.cells;have c1:Below wr.heap.size wr (wr.alloc (.cells #[I O fb,I O fs,I O fp,I O fn] 89)):=(Q2 _ wr).alloc (Q4 _) _;have hP:=J9 wr 89 #[I O fb,I O fs,I O fp,I O fn];obtain⟨wp,g5⟩:=exq (wr.alloc (.cells #[I O fb,I O fs,I O fp,I O fn] 89));obtain⟨P,eP⟩:=exq wr.heap.size;rw[g5]at c1 hP;rw[eP]at hP;obtain⟨p0,p1,p2,p3⟩:=Qk hP;have g0:Below wp.heap.size wp (wp.alloc (.cells #[I O 0,I O 2,I O 1,I O fp,I O fn] 29)):=(Q2 _ wp).alloc (Q4 _) _;have hZ:=J9 wp 29 #[I O 0,I O 2,I O 1,I O fp,I O fn];obtain⟨wz,f5⟩:=exq (wp.alloc (.cells #[I O 0,I O 2,I O 1,I O fp,I O fn] 29));obtain⟨Z,eZ⟩:=exq wp.heap.size;rw[f5]at g0 hZ;rw[eZ]at hZ;have i6:Below wr.heap.size wr wz:=c1.trans (g0.mono c1.size);have g6:wr.heap.size<=Z:=by have:=c1.size;omega
  have d7:=Q0 i6;have l7:=Q0 g6;have HZ:=Q0 hZ;clear c1 hP g0 i6 hZ hL g6;go_upto_region 5 with fail
  try rw[g5]
  try rw[eP]
  clear g5 eP y0 y1 y2 y3;go_upto_region 6 with fail
  try rw[f5]
  try rw[eZ]
  clear f5 eZ p0 p1 p2 p3;have v0:=Z7 v0 d7;have x1:=Z7 x1 d7;obtain⟨z0,z1,z2,z3,z4⟩:=A5 HZ;have HQ:Hid (Below wr.heap.size wr wz):=Q0 d7;obtain⟨wq,f6⟩:=exq wz;have m3:Hid (Q1 wq Z 29 #[I O 0,I O 2,I O 1,I O fp,I O fn]):=Q0 (f6▸HZ.out);rw[f6]at HQ v0 x1 z0 z1 z2 z3 z4|-;clear HZ d7 f6;go_upto_region 8 with fail
  have e5:=e3.below (HQ.trans ((J3 (Q2 _ wq)).mono HQ.size));have f4:=Yl wq.drew e 103 cs2 9 l5 k6 j8 l6 l2 e5.eng.ind (e5.small g8 (by rw[HN.out];exact k0) (by omega)) ⟨0,2,1,fp,fn⟩;unfold X5 at f4;have j4:=Q0 f4;have j1:=Q0 e5;clear f4 e5 e3
  go_still_tail 4,(by kernel_rfl)
  change wpList _ _ _ _ _ wq.drew;go_wp2_with fail
  refine j4.mono ?_;rintro ev w9 ⟨rfl,lv',bu',se',i7,g7⟩;have k9:=Q0 (j1.next g8 f3 Y4 l0 i7 g7);clear i7 g7 z0 z1 z2 z3 z4 v0 x1 j4 j1;go_wp2_with fail
  go_roundg (n- (k+1))
  case measure=>omega
  exact⟨k+1,by omega,rfl,by go_num,k9⟩
 obtain rfl:k=n:=by omega
 have l4: ¬(k:Int)< (k:Int):=by omega
 have a4:=Q0 (e3.end_ HF (by rw[HN.out];exact Q4 _))
 obtain⟨v0,-,y0,y1,y2,y3,y4⟩:=hL.cells
 obtain⟨F1,j3⟩:=exq (fun i=> ∃j,own2 i j)
 rw[j3]at a4
 clear hL e3 j3
 by_cases a9:0<y
 ·have d5:=Z5 a9
  by_cases d2:C=2
  ·have d3:=Z0 d2
   have a3:Hid (C5 m ⟨oi,1,ok,op,oq⟩=m1):=Q0 (by unfold C5;rw[N.1,Q3 (fun x=>x.2 d2)];exact e6)
   cases U with
   |true=>
    have a0:=a4.eng;rw[<-a3.out]at a0;have a7:=Q0 (NQ a0 ⟨by have:=(VR m ⟨oi,1,ok,op,oq⟩).1;have:=HI.now;omega,by have:=(VR m ⟨oi,1,ok,op,oq⟩).1;have:=HI.now;omega⟩ (by rw[(VR m ⟨oi,1,ok,op,oq⟩).2];exact HI.tk));clear a0;go_wp2_with fail
    refine a7.mono ?_;rintro ev wf ⟨rfl,a6⟩;have a1:=a4.out;rw[<-a3.out]at a1;obtain⟨F9,a8⟩:=a1.then_ a6;have c2:=Q0 a8;clear a6 a1 a8 a7;go_wp2_with fail
    go_ret;have e9:M3 m ⟨oi,1,ok,op,oq⟩=VX (C5 m ⟨oi,1,ok,op,oq⟩):=by unfold M3;rw[N.2.1,Q5 rfl]
    rw[e9,<-HN.out];exact c2.fills N.2.2.symm
   |false=>
    go_wp2_with fail
    go_ret;have e9:M3 m ⟨oi,1,ok,op,oq⟩=(C5 m ⟨oi,1,ok,op,oq⟩):=by unfold M3;rw[N.2.1,Q3 (by decide)]
    rw[e9,a3.out,<-HN.out];exact a4.fills N.2.2.symm
  have d3:=X3 d2;have a3:Hid (C5 m ⟨oi,1,ok,op,oq⟩=M6 m1 ⟨D,J,C,E,y⟩):=Q0 (by unfold C5;rw[N.1,Q5 ⟨a9,d2⟩,e6.out]);have g4:=Q0 (Uu wr e F1 m1 a4.eng ⟨D,J,C,E,y⟩ j9);unfold X5 at g4;go_wp2_with fail
  refine g4.mono ?_;rintro ev w9 ⟨rfl,j6⟩;obtain⟨F2,f7⟩:=a4.then_ j6;have f9:=Q0 f7;have v0:=(show w9.cell? ⟨V,0,none⟩=some (IP (some ⟨e,0,none⟩)) by rw[J0 f7.v.1];rfl);clear j6 f7 y0 y1 y2 y3 y4 g4 a4
  cases U with
  |true=>
   have a0:=f9.eng;rw[<-a3.out]at a0;have a7:=Q0 (NQ a0 ⟨by have:=(VR m ⟨oi,1,ok,op,oq⟩).1;have:=HI.now;omega,by have:=(VR m ⟨oi,1,ok,op,oq⟩).1;have:=HI.now;omega⟩ (by rw[(VR m ⟨oi,1,ok,op,oq⟩).2];exact HI.tk));clear a0;go_wp2_with fail
   refine a7.mono ?_;rintro ev wf ⟨rfl,a6⟩;have a1:=f9.out;rw[<-a3.out]at a1;obtain⟨F9,a8⟩:=a1.then_ a6;have c2:=Q0 a8;clear a6 a1 a8 a7;go_wp2_with fail
   go_ret;have e9:M3 m ⟨oi,1,ok,op,oq⟩=VX (C5 m ⟨oi,1,ok,op,oq⟩):=by unfold M3;rw[N.2.1,Q5 rfl]
   rw[e9,<-HN.out];exact c2.fills N.2.2.symm
  |false=>
   go_wp2_with fail
   go_ret;have e9:M3 m ⟨oi,1,ok,op,oq⟩=(C5 m ⟨oi,1,ok,op,oq⟩):=by unfold M3;rw[N.2.1,Q3 (by decide)]
   rw[e9,a3.out,<-HN.out];exact f9.fills N.2.2.symm
 have d5:=Z1 a9
 have a3:Hid (C5 m ⟨oi,1,ok,op,oq⟩=m1):=Q0 (by unfold C5;rw[N.1,Q3 (fun x=>a9 x.1)];exact e6)
 cases U with
 |true=>
  have a0:=a4.eng;rw[<-a3.out]at a0;have a7:=Q0 (NQ a0 ⟨by have:=(VR m ⟨oi,1,ok,op,oq⟩).1;have:=HI.now;omega,by have:=(VR m ⟨oi,1,ok,op,oq⟩).1;have:=HI.now;omega⟩ (by rw[(VR m ⟨oi,1,ok,op,oq⟩).2];exact HI.tk));clear a0;go_wp2_with fail
  refine a7.mono ?_;rintro ev wf ⟨rfl,a6⟩;have a1:=a4.out;rw[<-a3.out]at a1;obtain⟨F9,a8⟩:=a1.then_ a6;have c2:=Q0 a8;clear a6 a1 a8 a7;go_wp2_with fail
  go_ret;have e9:M3 m ⟨oi,1,ok,op,oq⟩=VX (C5 m ⟨oi,1,ok,op,oq⟩):=by unfold M3;rw[N.2.1,Q5 rfl]
  rw[e9,<-HN.out];exact c2.fills N.2.2.symm
 |false=>
  go_wp2_with fail
  go_ret;have e9:M3 m ⟨oi,1,ok,op,oq⟩=(C5 m ⟨oi,1,ok,op,oq⟩):=by unfold M3;rw[N.2.1,Q3 (by decide)]
  rw[e9,a3.out,<-HN.out];exact a4.fills N.2.2.symm
