/- Parts. -/
import Derived.Test.YtnlngicnfegjgaaGreatDoorZq39
set_option linter.unusedVariables false
set_option maxRecDepth 100000
set_option maxHeartbeats 8000000
open Go.Proofs.Tryz
open Go.Value renaming int→I,pointer→IP
open Go.IntKind renaming i64→O
namespace Go.Proofs.YtnlngicnfegjgaaGreatDoor
open Go.RowKit
theorem Je9 {w e F m} (h:C3 w e F m) (hI:VD m) oi ok op oq (hf:R9 ⟨oi,2,ok,op,oq⟩) (hq:0<=oq):
  Calls prog 47 #[IP (some ⟨e,0,none⟩),X5 ⟨oi,2,ok,op,oq⟩] w fun ev w'=>N8 w w' e F (fun Fs=>Fs=(D9 m ⟨oi,2,ok,op,oq⟩).fills) (M3 m ⟨oi,2,ok,op,oq⟩) ev:=by
 obtain⟨cs,tb,bb,bk,im,T,tc,Al,lc,lv,bu,se,Ap,pc,es,mc,G,own,hM,hF⟩:=h
 have c6:=Uv (al:=fun la p=>ZK m.st m.dy m.an la p) (tr:=fun _ p=>p) (X6 (3-2) m.L1 m.L2) ⟨oi,2,ok,op,oq⟩ m.la hf hq (Kj hM.book.lists _)
 have d8:=Nc hM.book.lists ⟨oi,2,ok,op,oq⟩
 have d7:=Yw hM.book.lists ⟨oi,2,ok,op,oq⟩
 have i7:V7 (fun la p=>ZK m.st m.dy m.an la p) (fun _ p=>p) (X6 (3-2) m.L1 m.L2) ⟨oi,2,ok,op,oq⟩ m.la=D9 m ⟨oi,2,ok,op,oq⟩:=rfl
 rw[i7]at c6
 obtain⟨r,hr⟩:=exq (D9 m ⟨oi,2,ok,op,oq⟩)
 rw[hr]at c6 d8 d7
 obtain⟨fl,⟨D,J,C,E,y⟩,U,st,rst⟩:=r
 dsimp only at c6 d8 d7
 have HR:=Q0 hr
 have k1:=Q0 c6.1
 have g7:=Q0 d8
 have j8:=Q0 d7
 have HI:=Q0 hI
 have HF:=Q0 hF
 have l0:=Q0 hM.book.lists
 have h9:Hid (lv.length<=100):=Q0 (by have h1:=hM.is.few hM.ind.ok;have h2:=hM.book.lists.cnt;unfold L6 at h1;omega)
 clear i7 hr c6 d8 d7 hI hF
 have e3:Below w.heap.size w (w.alloc (.cells #[IP (some ⟨e,0,none⟩)] 37)):=(Q2 _ w).alloc (Q4 _) _
 have hv:=J9 w 37 #[IP (some ⟨e,0,none⟩)]
 obtain⟨w0,e8⟩:=exq (w.alloc (.cells #[IP (some ⟨e,0,none⟩)] 37))
 rw[e8]at e3 hv
 have e2:Below w0.heap.size w0 (w0.alloc (.cells #[I O oi,I O 2,I O ok,I O op,I O oq] 29)):=(Q2 _ w0).alloc (Q4 _) _
 have hx:=J9 w0 29 #[I O oi,I O 2,I O ok,I O op,I O oq]
 obtain⟨w1,f2⟩:=exq (w0.alloc (.cells #[I O oi,I O 2,I O ok,I O op,I O oq] 29))
 rw[f2]at e2 hx
 have d9:Q1 w1 w.heap.size 37 #[IP (some ⟨e,0,none⟩)]:=J4 hv e2
 have f1:Below w.heap.size w w1:=e3.trans (e2.mono e3.size)
 have b0:=hM.below f1
 have d4:(∀k,¬own w.heap.size k)/\(∀k,¬own w0.heap.size k)/\w.heap.size≠w0.heap.size:=by
  have l1:=J5 hv;exact⟨fun k hk=>by have:=hM.ok.lt _ k hk;omega,fun k hk=>by have:=hM.ok.lt _ k hk;omega,by omega⟩
 obtain⟨V,eV⟩:=exq w.heap.size
 obtain⟨X,eX⟩:=exq w0.heap.size
 have h8:w.heap.size<=V:=by omega
 rw[eV]at d9 d4
 rw[eX]at hx d4
 have e1:=Q0 b0
 have HV:=Q0 d9
 have HX:=Q0 hx
 have b8:=Q0 d4
 have k7:=Q0 f1
 have k4:=Q0 h8
 have c8:=b0.cell b0.ec.c8
 have c7:=b0.cell b0.ec.c7
 have v0:w1.cell? ⟨V,0,none⟩=some (IP (some ⟨e,0,none⟩)):=by rw[J0 d9];rfl
 obtain⟨x0,x1,x2,x3,x4⟩:=A5 hx
 have g9: ∀W,Below w1.heap.size w1 W->Calls prog 94 #[IP (some ⟨bk,0,none⟩),.agg #[I O oi,I O 2,I O ok,I O op,I O oq],.func (.func 95) #[IP (some ⟨bb,0,none⟩)] #[],.func (.func 96) #[] #[IP (some ⟨V,0,none⟩)]] W fun ev w'=> ∃A c F' M1 M2,ev= .returned (.tuple #[.slice A (List.length fl) c,.agg #[I O D,I O J,I O C,I O E,I O y],.bool U])/\VC (SL e bb bk V cs m.st m.dy m.an) W w' st (kF G bb e V) F' M1 M2 A c fl/\X6 2 M1 M2=X6 2 m.L1 m.L2/\X6 (3-2) M1 M2=rst:=by
  intro W hb;have hW:=e1.below hb;have u: ∀ {i k k'},own i k->own i k'->k=k':=fun a b=>hW.ok.uni _ _ _ a b
  have hk:SL e bb bk V cs m.st m.dy m.an m.la m.L1 m.L2 (kF G bb e V) W:=⟨G,hW.book,hW.bands,hW.ind.blk,J4 HV hb,fun i=>ZP,fun x=>absurd (u (hW.oG _ x) hW.ob) (by decide),fun x=>absurd (u (hW.oG _ x) hW.oe) (by decide),fun x=>b8.1 _ (hW.oG _ x),fun x=>absurd (u hW.ob (x▸hW.oe)) (by decide),fun x=>b8.1 3 (x▸hW.ob),hW.ec.c7⟩;have hc:=Bq (Hs e bb bk V cs m.st m.dy m.an) (fun hk sd hs=>by obtain⟨G',hk⟩:=hk;exact PT _ bk G' _ _ hk.book sd hs) W m.la (kF G bb e V) m.L1 m.L2 hk rfl oi 2 ok op oq Y5 hf;refine hc.mono ?_;rintro ev w' ⟨A,c,F',M1,M2,he,b1,c9,b2⟩;have hr:V7 (fun la p=>ZK m.st m.dy m.an la p) (fun _ p=>p) (X6 (3-2) m.L1 m.L2) ⟨oi,2,ok,op,oq⟩ m.la=⟨fl,⟨D,J,C,E,y⟩,U,st,rst⟩:=HR.out;rw[hr]at he b1 b2;exact⟨A,c,F',M1,M2,he,b1,c9,b2⟩
 have g0:=Q0 g9
 clear g9 hM b0 e3 hv e2 hx d9 f1 d4 h8 hf hq
 unfold X5
 dsimp only
 go_enter func47,ntmps47
 go_upto_region 1 with fail
 try rw[e8]
 try rw[f2]
 try rw[eV]
 try rw[eX]
 clear e8 f2 eV eX
 go_cut [5,6,7] (fun s5 s6 s7 wx=> ∃A c Y G2,s5= .slice A (List.length fl) c/\s6= IP (some ⟨Y,0,none⟩)/\s7= .bool U/\Q1 wx Y 29 #[I O D,I O J,I O C,I O E,I O y]/\SN (JQ w1 own G2 4) V X A Y/\AY w1 wx e tb bb bk im V X cs T tc Al lc lv bu se Ap pc es mc own (fun s q=>Y2 s q (L6 m)) A c fl #[I O oi,I O 2,I O ok,I O op,I O oq] (XU m ⟨oi,2,ok,op,oq⟩) G2)
 case first=>
  refine XF (fun t=> [].contains t) (fun W=>W.cell? ⟨V,0,none⟩=some (IP (some ⟨e,0,none⟩))/\W.cell? ⟨e,8,none⟩=some (IP (some ⟨bk,0,none⟩))/\W.cell? ⟨e,7,none⟩=some (IP (some ⟨bb,0,none⟩))/\W.cell? ⟨X,0,none⟩=some (I O oi)/\W.cell? ⟨X,1,none⟩=some (I O 2)/\W.cell? ⟨X,2,none⟩=some (I O ok)/\W.cell? ⟨X,3,none⟩=some (I O op)/\W.cell? ⟨X,4,none⟩=some (I O oq)) (by kernel_rfl) ⟨v0,c8,c7,x0,x1,x2,x3,x4⟩ (fun i8=> ?_);refine tM 0 (IP (some ⟨e,0,none⟩)) ?_;refine tM 1 (IP (some ⟨e,0,none⟩)) ?_;refine tM 2 (IP (some ⟨e,8,none⟩)) ?_;refine tM 3 (IP (some ⟨bk,0,none⟩)) ?_;refine tM 4 (.agg #[I O oi,I O 2,I O ok,I O op,I O oq]) ?_;refine tM 5 (IP (some ⟨e,0,none⟩)) ?_;refine tM 6 (IP (some ⟨e,0,none⟩)) ?_;refine tM 7 (IP (some ⟨e,7,none⟩)) ?_;refine tM 8 (IP (some ⟨bb,0,none⟩)) ?_;refine tM 9 (.func (.func 95) #[IP (some ⟨bb,0,none⟩)] #[]) ?_;refine tM 10 (.func (.func 96) #[] #[IP (some ⟨V,0,none⟩)]) ?_;refine UK (i:=11) (j:=16) (by kernel_rfl) ?_ ?_
  ·skip
   refine L9 11 rfl (fun K1 c2=> ?_);go_simp;refine(g0 w1.drew (J3 (Q2 _ _))).mono ?_;rintro ev w4 ⟨A,c,F',M1,M2,rfl,b1,c9,b2⟩;obtain⟨G2,h4,m3⟩:=Xj e1 HV HX b8 (J3 (Q2 _ w1)) Y5 HR b1 c9 b2;have d1:=h4.cells;refine c2 _ _ (fun _=>d1) ?_;clear c2 i8;refine tM 12 (.tuple #[.slice A (List.length fl) c,.agg #[I O D,I O J,I O C,I O E,I O y],.bool U]) ?_;refine tM 13 (.slice A (List.length fl) c) ?_;refine tM 14 (.agg #[I O D,I O J,I O C,I O E,I O y]) ?_;refine tM 15 (.bool U) ?_;refine oM 16 fun K2 b9=> ?_
   go_simp;have a9:Below w4.heap.size w4 (w4.alloc (.cells #[I O 0,I O 0,I O 0,I O 0,I O 0] 29)):=(Q2 _ _).alloc (Q4 _) _;have a5:=J9 w4 29 #[I O 0,I O 0,I O 0,I O 0,I O 0];obtain⟨Y,eY⟩:=exq w4.heap.size;have e7:w4.heap.size<=Y:=YZ eY;have e4:w1.heap.size<=Y:=G0 h4.keep.size e7;obtain⟨w5,h7⟩:=exq (w4.alloc (.cells #[I O 0,I O 0,I O 0,I O 0,I O 0] 29));rw[h7]at a9 a5|-;rw[eY]at a5|-;have h5:=h4.below a9;refine b9 _ _ (fun _=>h5.cells) ?_;have j5:=h5.cells;clear b9 h7 eY d1;refine tM 17 (.slice A (List.length fl) c) ?_;refine oM 18 fun K5 d2=> ?_
   refine(Q5 (by rfl)).mpr ?_;refine M9 29 _ _ rfl Y #[I O D,I O J,I O C,I O E,I O y] rfl rfl 29 #[I O 0,I O 0,I O 0,I O 0,I O 0] a5 (by show(prog.info? 29).map (·.size)=some 5;kernel_rfl) rfl (by simp[Value.oneCell']) ?_;have c5:=D6 _ _ _ #[I O D,I O J,I O C,I O E,I O y] _ a5;have c0:=B7 w5 Y #[I O D,I O J,I O C,I O E,I O y];obtain⟨w6,d0⟩:=exq (w5.setRow Y #[I O D,I O J,I O C,I O E,I O y]);rw[d0]at c5 c0|-;have h6:=h5.keepY c0 (h4.far e7) e4;refine d2 _ _ (fun _=>h6.cells) ?_;have k6:=h6.cells;clear d2 d0;simp only[Act.put];refine tM 19 (.bool U) ?_;refine D5 (by kernel_rfl) ?_ _;go_wp2_with fail
   go_meet;exact⟨A,c,Y,G2,rfl,rfl,rfl,c5,(h4.far e7),h6⟩
  skip
  refine L9 16 rfl (fun K1 c2=> ?_);go_simp;have a2:Below w1.heap.size w1 (w1.alloc (.cells #[I O 0,I O 0,I O 0,I O 0,I O 0] 29)).drew:=J3 ((Q2 _ _).alloc (Q4 _) _);have f7:=Z2 (J9 w1 29 #[I O 0,I O 0,I O 0,I O 0,I O 0]);obtain⟨Y,eY⟩:=exq w1.heap.size;have e4:w1.heap.size<=Y:=YZ eY;obtain⟨w4,i9⟩:=exq ((w1.alloc (.cells #[I O 0,I O 0,I O 0,I O 0,I O 0] 29)).drew);rw[i9]at a2 f7|-;rw[eY]at f7|-;have d1:(fun W:World=>W.cell? ⟨V,0,none⟩=some (IP (some ⟨e,0,none⟩))/\W.cell? ⟨e,8,none⟩=some (IP (some ⟨bk,0,none⟩))/\W.cell? ⟨e,7,none⟩=some (IP (some ⟨bb,0,none⟩))/\W.cell? ⟨X,0,none⟩=some (I O oi)/\W.cell? ⟨X,1,none⟩=some (I O 2)/\W.cell? ⟨X,2,none⟩=some (I O ok)/\W.cell? ⟨X,3,none⟩=some (I O op)/\W.cell? ⟨X,4,none⟩=some (I O oq)) w4:=⟨Z7 v0 a2,Z7 c8 a2,Z7 c7 a2,Z7 x0 a2,Z7 x1 a2,Z7 x2 a2,Z7 x3 a2,Z7 x4 a2⟩;refine c2 _ _ (fun _=>d1) ?_;clear c2 i9 eY i8;refine oM 11 fun K2 b9=> ?_
  go_simp;refine(g0 w4 a2).mono ?_;rintro ev w5 ⟨A,c,F',M1,M2,rfl,b1,c9,b2⟩;obtain⟨G2,h5,k9⟩:=Xj e1 HV HX b8 a2 Y5 HR b1 c9 b2;have a5:=k9 _ _ _ f7 e4;have j5:=h5.cells;refine b9 _ _ (fun _=>j5) ?_;clear b9 d1;refine tM 12 (.tuple #[.slice A (List.length fl) c,.agg #[I O D,I O J,I O C,I O E,I O y],.bool U]) ?_;refine tM 13 (.slice A (List.length fl) c) ?_;refine tM 14 (.agg #[I O D,I O J,I O C,I O E,I O y]) ?_;refine tM 15 (.bool U) ?_;refine tM 17 (.slice A (List.length fl) c) ?_;refine oM 18 fun K5 d2=> ?_
  refine(Q5 (by rfl)).mpr ?_;refine M9 29 _ _ rfl Y #[I O D,I O J,I O C,I O E,I O y] rfl rfl 29 #[I O 0,I O 0,I O 0,I O 0,I O 0] a5.1 (by show(prog.info? 29).map (·.size)=some 5;kernel_rfl) rfl (by simp[Value.oneCell']) ?_;have c5:=D6 _ _ _ #[I O D,I O J,I O C,I O E,I O y] _ a5.1;have c0:=B7 w5 Y #[I O D,I O J,I O C,I O E,I O y];obtain⟨w6,d0⟩:=exq (w5.setRow Y #[I O D,I O J,I O C,I O E,I O y]);rw[d0]at c5 c0|-;have h6:=h5.keepY c0 a5.2 e4;refine d2 _ _ (fun _=>h6.cells) ?_;have k6:=h6.cells;clear d2 d0;simp only[Act.put];refine tM 19 (.bool U) ?_;refine D5 (by kernel_rfl) ?_ _;go_wp2_with fail
  go_meet;exact⟨A,c,Y,G2,rfl,rfl,rfl,c5,a5.2,h6⟩
 obtain⟨A,c,Y,G2,rfl,rfl,rfl,j2,h3,g1⟩:=hcut
 have g2:Hid (SD w wc e tb bb bk im V X Y T tc Ap pc es mc own A c fl #[I O oi,I O 2,I O ok,I O op,I O oq] #[I O D,I O J,I O C,I O E,I O y] (XU m ⟨oi,2,ok,op,oq⟩) 2 0):=by
  have h0:(D9 m ⟨oi,2,ok,op,oq⟩).fills=fl:=by rw[HR.out]
  rw[<-h0]at g1;have h1:=g1.loop k7 k4 l0 Y5 h9 j2 h3;rw[h0]at h1;exact Q0 h1
 have N:Hid ((D9 m ⟨oi,2,ok,op,oq⟩).left=⟨D,J,C,E,y⟩/\(D9 m ⟨oi,2,ok,op,oq⟩).stop=U/\(D9 m ⟨oi,2,ok,op,oq⟩).fills=fl):=Q0 (by rw[HR.out];exact⟨rfl,rfl,rfl⟩)
 obtain⟨m1,f0⟩:=exq (XU m ⟨oi,2,ok,op,oq⟩)
 rw[f0]at g2
 have e6:=Q0 f0
 clear j2 h3 g1 v0 c8 c7 x0 x1 x2 x3 x4 g0 e1 HV HX b8 h9 HR f0
 obtain⟨n,hn⟩:=exq fl.length
 rw[hn]at j8|-
 have HN:=Q0 hn
 have k2:=j8.out
 clear hn
 go_wp2_with fail
 go_loopg [29] n (fun gg l5 wr=> ∃k,k<=n/\gg=n-k/\l5=I O k/\Hid (SD w wr e tb bb bk im V X Y T tc Ap pc es mc own A c fl #[I O oi,I O 2,I O ok,I O op,I O oq] #[I O D,I O J,I O C,I O E,I O y] m1 2 k))
 case atStart=>exact⟨0,V5 _,rfl,rfl,g2⟩
 obtain⟨k,hk,rfl,rfl,HL⟩:=hrel
 clear g2
 obtain⟨cs2,l7,k8,k0,l8,l4,l9,own2,hL⟩:=HL.out
 have b5:=Q0 hL
 clear HL
 by_cases k3:k<n
 ·have f3:k<fl.length:=by rw[HN.out];exact k3
  obtain⟨ga,k5⟩:=QC hL.row.row (by omega);subst k5;obtain⟨y0,y1,y2,y3⟩:=Nd hL.row.row f3;obtain⟨⟨fb,fs,fp,fn⟩,g8⟩: ∃f,fl[k]=f:=⟨_,rfl⟩;rw[g8]at y0 y1 y2 y3;have l3:Hid (fl[k]'f3=⟨fb,fs,fp,fn⟩):=Q0 g8;have l6:(k:Int)< (n:Int):=by omega
  have m0:(0:Int)<=(k:Int):=by omega
  obtain⟨v0,x1,-,-,-,-,-⟩:=hL.cells;have c3:Below wr.heap.size wr (wr.alloc (.cells #[I O fb,I O fs,I O fp,I O fn] 89)):=(Q2 _ wr).alloc (Q4 _) _;have hP:=J9 wr 89 #[I O fb,I O fs,I O fp,I O fn];obtain⟨wp,g4⟩:=exq (wr.alloc (.cells #[I O fb,I O fs,I O fp,I O fn] 89));obtain⟨P,eP⟩:=exq wr.heap.size;rw[g4]at c3 hP;rw[eP]at hP;obtain⟨p0,p1,p2,p3⟩:=Qk hP;have f9:Below wp.heap.size wp (wp.alloc (.cells #[I O 0,I O 2,I O 1,I O fp,I O fn] 29)):=(Q2 _ wp).alloc (Q4 _) _;have hZ:=J9 wp 29 #[I O 0,I O 2,I O 1,I O fp,I O fn];obtain⟨wz,f5⟩:=exq (wp.alloc (.cells #[I O 0,I O 2,I O 1,I O fp,I O fn] 29));obtain⟨Z,eZ⟩:=exq wp.heap.size;rw[f5]at f9 hZ;rw[eZ]at hZ;have i0:Below wr.heap.size wr wz:=c3.trans (f9.mono c3.size);have g5:wr.heap.size<=Z:=by have:=c3.size;omega
  have c1:=Q0 i0;have j9:=Q0 g5;have HZ:=Q0 hZ;clear c3 hP f9 i0 hZ hL g5;go_upto_region 5 with fail
  try rw[g4]
  try rw[eP]
  clear g4 eP y0 y1 y2 y3;go_upto_region 6 with fail
  try rw[f5]
  try rw[eZ]
  clear f5 eZ p0 p1 p2 p3;have v0:=Z7 v0 c1;have x1:=Z7 x1 c1;have z1:=(A5 HZ).2.1;have zf:=J1 HZ 1;go_upto_region 8 with fail
  have j6:=Q0 (J7 HZ 1 (I O 1));have HQ:Hid (Below wr.heap.size wr (wz.setCell ⟨Z,1,none⟩ (I O 1))):=Q0 (c1.trans ((V2 wz ⟨Z,1,none⟩ (I O 1)).below (fun i e=>e▸j9.out) c1.size));have v0:=Z7 (b5.cells).1 HQ;have x1:=Z7 (b5.cells).2.1 HQ;obtain⟨wq,j0⟩:=exq (wz.setCell ⟨Z,1,none⟩ (I O 1));rw[j0]at HQ j6 v0 x1|-;clear j0 HZ c1 z1 zf;obtain⟨z0,z1,z2,z3,z4⟩:=A5 j6;have e5:=b5.below (HQ.trans ((J3 (Q2 _ wq)).mono HQ.size));have f4:=Yl wq.drew e 103 cs2 9 l7 k8 k0 l8 l4 e5.eng.ind (e5.small g7 (by rw[HN.out];exact k2) (by omega)) ⟨0,1,1,fp,fn⟩;unfold X5 at f4;have j4:=Q0 f4;have j1:=Q0 e5;clear f4 e5 b5
  go_still_tail 4,(by kernel_rfl)
  change wpList _ _ _ _ _ wq.drew;go_wp2_with fail
  refine j4.mono ?_;rintro ev w9 ⟨rfl,lv',bu',se',i6,g6⟩;have l2:=Q0 (j1.next g7 f3 Y5 l3 i6 g6);clear i6 g6 z0 z1 z2 z3 z4 v0 x1 j4 j1;go_wp2_with fail
  go_roundg (n- (k+1))
  case measure=>omega
  exact⟨k+1,by omega,rfl,by go_num,l2⟩
 obtain rfl:k=n:=by omega
 have l6: ¬(k:Int)< (k:Int):=by omega
 have a4:=Q0 (b5.end_ HF (by rw[HN.out];exact Q4 _))
 obtain⟨v0,-,y0,y1,y2,y3,y4⟩:=hL.cells
 obtain⟨F1,j3⟩:=exq (fun i=> ∃j,own2 i j)
 rw[j3]at a4
 clear hL b5 j3
 by_cases a9:0<y
 ·have d5:=Z5 a9
  by_cases d6:C=2
  ·have d3:=Z0 d6
   have a3:Hid (C5 m ⟨oi,2,ok,op,oq⟩=m1):=Q0 (by unfold C5;rw[N.1,Q3 (fun x=>x.2 d6)];exact e6)
   cases U with
   |true=>
    have a0:=a4.eng;rw[<-a3.out]at a0;have a7:=Q0 (NQ a0 ⟨by have:=(VR m ⟨oi,2,ok,op,oq⟩).1;have:=HI.now;omega,by have:=(VR m ⟨oi,2,ok,op,oq⟩).1;have:=HI.now;omega⟩ (by rw[(VR m ⟨oi,2,ok,op,oq⟩).2];exact HI.tk));clear a0;go_wp2_with fail
    refine a7.mono ?_;rintro ev wf ⟨rfl,a6⟩;have a1:=a4.out;rw[<-a3.out]at a1;obtain⟨F9,a8⟩:=a1.then_ a6;have c4:=Q0 a8;clear a6 a1 a8 a7;go_wp2_with fail
    go_ret;have e9:M3 m ⟨oi,2,ok,op,oq⟩=VX (C5 m ⟨oi,2,ok,op,oq⟩):=by unfold M3;rw[N.2.1,Q5 rfl]
    rw[e9,<-HN.out];exact c4.fills N.2.2.symm
   |false=>
    go_wp2_with fail
    go_ret;have e9:M3 m ⟨oi,2,ok,op,oq⟩=(C5 m ⟨oi,2,ok,op,oq⟩):=by unfold M3;rw[N.2.1,Q3 (by decide)]
    rw[e9,a3.out,<-HN.out];exact a4.fills N.2.2.symm
  have d3:=X3 d6;have a3:Hid (C5 m ⟨oi,2,ok,op,oq⟩=M6 m1 ⟨D,J,C,E,y⟩):=Q0 (by unfold C5;rw[N.1,Q5 ⟨a9,d6⟩,e6.out]);have g3:=Q0 (Uu wr e F1 m1 a4.eng ⟨D,J,C,E,y⟩ k1);unfold X5 at g3;go_wp2_with fail
  refine g3.mono ?_;rintro ev w9 ⟨rfl,j7⟩;obtain⟨F2,f6⟩:=a4.then_ j7;have f8:=Q0 f6;have v0:=(show w9.cell? ⟨V,0,none⟩=some (IP (some ⟨e,0,none⟩)) by rw[J0 f6.v.1];rfl);clear j7 f6 y0 y1 y2 y3 y4 g3 a4
  cases U with
  |true=>
   have a0:=f8.eng;rw[<-a3.out]at a0;have a7:=Q0 (NQ a0 ⟨by have:=(VR m ⟨oi,2,ok,op,oq⟩).1;have:=HI.now;omega,by have:=(VR m ⟨oi,2,ok,op,oq⟩).1;have:=HI.now;omega⟩ (by rw[(VR m ⟨oi,2,ok,op,oq⟩).2];exact HI.tk));clear a0;go_wp2_with fail
   refine a7.mono ?_;rintro ev wf ⟨rfl,a6⟩;have a1:=f8.out;rw[<-a3.out]at a1;obtain⟨F9,a8⟩:=a1.then_ a6;have c4:=Q0 a8;clear a6 a1 a8 a7;go_wp2_with fail
   go_ret;have e9:M3 m ⟨oi,2,ok,op,oq⟩=VX (C5 m ⟨oi,2,ok,op,oq⟩):=by unfold M3;rw[N.2.1,Q5 rfl]
   rw[e9,<-HN.out];exact c4.fills N.2.2.symm
  |false=>
   go_wp2_with fail
   go_ret;have e9:M3 m ⟨oi,2,ok,op,oq⟩=(C5 m ⟨oi,2,ok,op,oq⟩):=by unfold M3;rw[N.2.1,Q3 (by decide)]
   rw[e9,a3.out,<-HN.out];exact f8.fills N.2.2.symm
 have d5:=Z1 a9
 have a3:Hid (C5 m ⟨oi,2,ok,op,oq⟩=m1):=Q0 (by unfold C5;rw[N.1,Q3 (fun x=>a9 x.1)];exact e6)
 cases U with
 |true=>
  have a0:=a4.eng;rw[<-a3.out]at a0;have a7:=Q0 (NQ a0 ⟨by have:=(VR m ⟨oi,2,ok,op,oq⟩).1;have:=HI.now;omega,by have:=(VR m ⟨oi,2,ok,op,oq⟩).1;have:=HI.now;omega⟩ (by rw[(VR m ⟨oi,2,ok,op,oq⟩).2];exact HI.tk));clear a0;go_wp2_with fail
  refine a7.mono ?_;rintro ev wf ⟨rfl,a6⟩;have a1:=a4.out;rw[<-a3.out]at a1;obtain⟨F9,a8⟩:=a1.then_ a6;have c4:=Q0 a8;clear a6 a1 a8 a7;go_wp2_with fail
  go_ret;have e9:M3 m ⟨oi,2,ok,op,oq⟩=VX (C5 m ⟨oi,2,ok,op,oq⟩):=by unfold M3;rw[N.2.1,Q5 rfl]
  rw[e9,<-HN.out];exact c4.fills N.2.2.symm
 |false=>
  go_wp2_with fail
  go_ret;have e9:M3 m ⟨oi,2,ok,op,oq⟩=(C5 m ⟨oi,2,ok,op,oq⟩):=by unfold M3;rw[N.2.1,Q3 (by decide)]
  rw[e9,a3.out,<-HN.out];exact a4.fills N.2.2.symm
def UQ (w w':World) (e:Nat) (F:Nat->Prop) (P:List B5->Prop) (m:X7) (E:Int) (ev:Ending):Prop:=
 ∃A c Fs,ev= .returned (.tuple #[.slice A (List.length Fs) c,U0 E])/\P Fs/\J2 w' A Fs.length c 89 4 (Q9 D8 Fs)/\(∀g,Q7 A=some g->w.heap.size<=g)/\ ∃F',C3 w' e F' m/\Z3 w w' F F'/\ ∀g,Q7 A=some g-> ¬F' g
theorem UQ.none_ {w w' e F P m E} (h:C0 w w' e F m) (j:P []):UQ w w' e F P m E (.returned (.tuple #[.slice none 0 0,U0 E])):=by
 obtain⟨F',h1,h2⟩:=h
 exact⟨none,0,[],rfl,j,JX _ _ _ _,fun g i=>by simp[Q7]at i,F',h1,h2,fun g i=>by simp[Q7]at i⟩
abbrev DY:=@UQ.none_
theorem N8.told {w w' e F P m A n c} (h:N8 w w' e F P m (.returned (.slice A n c))) E:UQ w w' e F P m E (.returned (.tuple #[.slice A n c,U0 E])):=by
 obtain⟨A',c',Fs,h1,h2,i,j,u⟩:=h
 cases h1
 exact⟨A,c,Fs,rfl,h2,i,j,u⟩
theorem N8.step {w w1 w2 e F P m m2 ev} (h:N8 w w1 e F P m ev) (k: ∀i,C3 w1 e i m->C0 w1 w2 e i m2):N8 w w2 e F P m2 ev:=by
 obtain⟨A,c,Fs,h1,h2,v,U,i,Z,J,u⟩:=h
 obtain⟨N,E,j⟩:=k i Z
 refine⟨A,c,Fs,h1,h2,v.keeps j.1 u,U,N,E,J.trans j,fun g y D=> ?_⟩
 rcases j.2 g D with C|C
 ·exact u g y C
 have:=v.lt y;omega
theorem N8.from_ {w w1 w' e F F1 P m ev} (i:Z3 w w1 F F1) (h:N8 w1 w' e F1 P m ev):N8 w w' e F P m ev:=by
 obtain⟨A,c,Fs,h1,h2,u,C,F',D,y,j⟩:=h
 exact⟨A,c,Fs,h1,h2,u,fun g v=>G0 i.1.size (C g v),F',D,i.trans y,j⟩
theorem C0.from_ {w w1 w' e F F1 m} (i:Z3 w w1 F F1) (h:C0 w1 w' e F1 m):C0 w w' e F m:=by
 obtain⟨F',h1,h2⟩:=h
 exact⟨F',h1,i.trans h2⟩
theorem Ud {w e cs tb bb bk im T tc Al lc lv bu se Ap pc es mc G own g m}
  (h:V1 w e cs tb bb bk im T tc Al lc lv bu se Ap pc es mc G own g m) (j:0<m.rows.length/\m.rows.length<=20) t W (v:Below w.heap.size w W) {a b} (hp:phAt m.rows t m.rows.length=(a,b)):
  Calls prog 37 #[IP (some ⟨tb,0,none⟩),I O t] W fun u w'=>u= .returned (.tuple #[I O a,I O b])/\Below W.heap.size W w':=by
 have i:=h.below v
 have key:=Qp9 tb T m.rows.length tc m.rows t W i.tabl i.tabp i.tabc j.1 j.2
 rw[hp]at key
 exact key
theorem Qv1 {w e F m} (h:C3 w e F m) (hI:VD m) (f1:VD (K0 m)):
  Calls prog 10 #[IP (some ⟨e,0,none⟩)] w fun ev w'=>UQ w w' e F (AV m) (N5 m) (DW m) ev:=by
 have hE:=h
 obtain⟨cs,tb,bb,bk,im,T,tc,Al,lc,lv,bu,se,Ap,pc,es,mc,G,own,N,hF⟩:=h
 have a3:=N.cell N.ec.c14
 by_cases U:m.ph=7
 ·have d7:=Z0 U
  have HS:Hid (AV m []/\N5 m=m/\DW m=6):=Q0 ⟨by unfold AV;rw[Q5 U],by unfold N5;rw[Q5 U],by unfold DW;rw[Q5 U]⟩;have HE:=Q0 hE;obtain⟨ph,b0⟩:=exq m.ph;rw[b0]at a3 d7;clear U hE N hF hI f1 b0;go_enter func10,ntmps10
  go_wp2;go_ret2;rw[HS.2.1,HS.2.2];exact DY (DH HE (Q2 _ _)) HS.1
 have d7:=X3 U
 obtain⟨⟨j,a2⟩,ha⟩: ∃q,phAt m.rows m.now m.rows.length=q:=⟨_,rfl⟩
 obtain⟨⟨y,b2⟩,hb⟩: ∃q,phAt m.rows (m.now+1) m.rows.length=q:=⟨_,rfl⟩
 have e2:=Q0 (fun W hW=>Ud N hI.tab m.now W hW ha)
 have HT:Hid (DW m=0/\N5 m=W7 j (K0 m)/\AV m=QP j (K0 m)/\C8 (K0 m) (K0 m).now=y):=by
  refine Q0 ⟨by unfold DW;rw[Q3 U], ?_, ?_, ?_⟩
  ·unfold N5 C8;rw[Q3 U,ha]
  ·funext Fs;unfold AV C8;rw[Q3 U,ha]
  exact E7 Prod.fst hb
 rw[HT.1,HT.2.1,HT.2.2.1]
 have c6:=N.cell N.ec.c6
 have u:=N.cell N.ec.c15
 have HM:=Q0 N
 have HF:=Q0 hF
 have HI:=Q0 f1
 have f6:=Q0 hI.tab
 have f4:=Q0 hb
 have i1:RowKit.wrap64 (m.now+1)=m.now+1:=by
  have h1:=hI.now;unfold RowKit.wrap64;omega
 obtain⟨E,c9⟩:=exq m.now
 rw[c9]at u e2 i1
 have c8:=Q0 c9
 obtain⟨ph,b0⟩:=exq m.ph
 rw[b0]at a3 d7
 have a0:=Q0 b0
 clear U hE N hF hI f1 b0 ha hb c9
 go_enter func10,ntmps10
 go_upto_region 3 with fail
 refine XF (fun t=> [].contains t) (fun W=>W.cell? ⟨e,6,none⟩=some (IP (some ⟨tb,0,none⟩))/\W.cell? ⟨e,15,none⟩=some (I O E)) (by kernel_rfl) ⟨c6,u⟩ (fun J=> ?_)
 refine tM 0 (IP (some ⟨e,0,none⟩)) ?_
 refine tM 1 (IP (some ⟨e,0,none⟩)) ?_
 refine tM 2 (IP (some ⟨e,6,none⟩)) ?_
 refine tM 3 (IP (some ⟨tb,0,none⟩)) ?_
 refine tM 4 (IP (some ⟨e,0,none⟩)) ?_
 refine tM 5 (IP (some ⟨e,0,none⟩)) ?_
 refine tM 6 (IP (some ⟨e,15,none⟩)) ?_
 refine tM 7 (I O E) ?_
 refine oM 8 fun K9 b9=> ?_
 go_simp
 refine(e2 w.drew (J3 (Q2 _ _))).mono ?_
 rintro ev w3 ⟨rfl,C⟩
 refine b9 _ _ (fun _=>⟨Z7 J.1 C,Z7 J.2 C⟩) ?_
 have f0:=And.intro (Z7 J.1 C) (Z7 J.2 C)
 clear b9 J
 refine tM 9 (.tuple #[I O j,I O a2]) ?_
 refine tM 10 (I O j) ?_
 refine tM 11 (I O a2) ?_
 refine tM 12 (I O j) ?_
 refine tM 13 (I O a2) ?_
 refine D5 (by kernel_rfl) ?_ _
 have e4:Below w.heap.size w w3:=(J3 (Q2 _ w)).trans C
 have c0:=HM.below e4
 have u:=c0.cell c0.ec.c15
 rw[c8.out]at u
 have g7:=c0.frozen 15
 obtain⟨a4,d0⟩:=c0.setNow (E+1)
 have g4:=Q0 e4
 clear c6 a3 f0 C e4 c0 e2
 go_upto_region 5 with fail
 obtain⟨w4,g1⟩:=exq (w3.setCell ⟨e,15,none⟩ (I O (E+1)))
 rw[g1]at a4 d0|-
 have em:({m with now:=E+1}:X7)=K0 m:=by unfold K0;rw[c8.out]
 rw[em]at a4
 have f9:=Q0 (fun W hW=>Ud (a:=y) (b:=b2) a4 f6 (E+1) W hW (by have h:=f4.out;rw[c8.out]at h;exact h))
 clear g1 u g7 i1
 have c6:=a4.cell a4.ec.c6
 have u:=a4.cell a4.ec.c15
 have e3:(K0 m).now=E+1:=by rw[<-em]
 rw[e3]at u
 have f3:=Q0 a4
 have g3:=Q0 d0
 have f7:=Q0 e3
 clear a4 d0 em e3
 refine XF (fun t=> [].contains t) (fun W=>W.cell? ⟨e,6,none⟩=some (IP (some ⟨tb,0,none⟩))/\W.cell? ⟨e,15,none⟩=some (I O (E+1))) (by kernel_rfl) ⟨c6,u⟩ (fun J=> ?_)
 refine tM 0 (IP (some ⟨e,0,none⟩)) ?_
 refine tM 1 (IP (some ⟨e,0,none⟩)) ?_
 refine tM 2 (IP (some ⟨e,6,none⟩)) ?_
 refine tM 3 (IP (some ⟨tb,0,none⟩)) ?_
 refine tM 4 (IP (some ⟨e,0,none⟩)) ?_
 refine tM 5 (IP (some ⟨e,0,none⟩)) ?_
 refine tM 6 (IP (some ⟨e,15,none⟩)) ?_
 refine tM 7 (I O (E+1)) ?_
 refine oM 8 fun K9 b9=> ?_
 go_simp
 refine(f9 w4.drew (J3 (Q2 _ _))).mono ?_
 rintro ev w5 ⟨rfl,C⟩
 refine b9 _ _ (fun _=>⟨Z7 J.1 C,Z7 J.2 C⟩) ?_
 have f0:=And.intro (Z7 J.1 C) (Z7 J.2 C)
 clear b9 J
 refine tM 9 (.tuple #[I O y,I O b2]) ?_
 refine tM 10 (I O y) ?_
 refine tM 11 (I O b2) ?_
 refine tM 12 (I O y) ?_
 refine tM 13 (I O b2) ?_
 refine D5 (by kernel_rfl) ?_ _
 have e6:Below w4.heap.size w4 w5:=(J3 (Q2 _ w4)).trans C
 have a7:=f3.below e6
 have e8:C3 w5 e _ (K0 m):=a7.at_ (fun _ _ _=>rfl)
 have d3:=(((F8 g4).trans g3).trans (F8 e6)).bstep HF
 obtain⟨F5,f8⟩:=exr (fun i=> ∃k,own i k)
 rw[<-f8]at e8 d3
 have a3:=a7.cell a7.ec.c14
 rw[show(K0 m).ph=m.ph from rfl,a0.out]at a3
 have u:=a7.cell a7.ec.c15
 rw[f7.out]at u
 have c3:=a7.cell a7.ec.c16
 have a9:=Q0 e8
 have a8:=Q0 d3
 have D:Hid (C8 (K0 m) (K0 m).now=y):=Q0 HT.2.2.2
 clear c6 f0 C e6 a7 e8 d3 f8 HM f3 g3 g4 f9 HF f4 f6
 by_cases v:y=7
 ·have e7:=Z0 v
  by_cases p5:ph=5
  ·have d5:=Z0 p5
   have HS:Hid (QP j (K0 m)=QW (K0 m)/\W7 j (K0 m)=YF (KJ (K0 m))):=by
    refine Q0 ⟨?_, ?_⟩
    ·funext Fs;unfold QP;rw[D.out,Q5 v,Q5 (show(K0 m).ph=5 from a0.trans p5)]
    unfold W7;rw[D.out,Q5 v,Q5 (show(K0 m).ph=5 from a0.trans p5)]
   clear v p5;go_wp2_with fail
   refine(Jr a9 HI.la).mono ?_;rintro ev w6 ⟨A,c,Fs,rfl,a5,Z,a6,F6,e9,d9,d2⟩;have c1:=Q0 (show N8 _ w6 e F5 (QW (K0 m)) (KJ (K0 m)) (.returned (.slice A (List.length Fs) c))from⟨A,c,Fs,rfl,a5,Z,a6,F6,e9,d9,d2⟩);have f5:=Q0 e9;have g2:=Q0 (And.intro Z (And.intro a6 (And.intro a5 (And.intro d9 d2))));clear a5 Z a6 e9 d9 d2 a3 u c3;go_wp2_with fail
   refine(Hw f5).mono ?_;rintro ev w7 ⟨rfl,F7,f2,c5⟩;have g8:Hid (N8 w5 w7 e F5 (QW (K0 m)) (YF (KJ (K0 m))) (.returned (.slice A (List.length Fs) c))):=by
    obtain⟨h1,h2,h3,h4,h5⟩:=g2.out;refine Q0 ⟨A,c,Fs,rfl,h3,h1.keeps c5.1 h5,h2,F7,f2,h4.trans c5,fun g hg hF=> ?_⟩;rcases c5.2 g hF with g0|g0
    ·exact h5 g hg g0
    have:=h1.lt hg;omega
   clear f2 c5 g2 f5 c1;go_wp2_with fail
   go_ret2;rw[HS.1,HS.2];exact(N8.from_ a8 g8).told 0
  have d5:=X3 p5;have HS:Hid (QP j (K0 m) []/\W7 j (K0 m)=YF (K0 m)):=by
   refine Q0 ⟨?_, ?_⟩
   ·unfold QP;rw[D.out,Q5 v,Q3 (show¬(K0 m).ph=5 from fun x=>p5 (a0.symm.trans x))]
   unfold W7;rw[D.out,Q5 v,Q3 (show¬(K0 m).ph=5 from fun x=>p5 (a0.symm.trans x))]
  clear v p5;go_wp2_with fail
  refine(Hw a9).mono ?_;rintro ev w7 ⟨rfl,g5⟩;have h6:=Q0 g5;clear g5 a3 u c3;go_wp2_with fail
  go_ret2;rw[HS.2];exact DY (C0.from_ a8 h6) HS.1
 have e7:=X3 v
 by_cases p6:ph=6
 ·have d6:=Z0 p6
  have HS:Hid (QP j (K0 m) []/\W7 j (K0 m)=K0 m):=by
   refine Q0 ⟨?_, ?_⟩
   ·unfold QP;rw[D.out,Q3 v,Q5 (show(K0 m).ph=6 from a0.trans p6)]
   unfold W7;rw[D.out,Q3 v,Q5 (show(K0 m).ph=6 from a0.trans p6)]
  clear v p6;go_wp2_with fail
  go_ret2;rw[HS.2];exact DY (C0.from_ a8 (DH a9 (Q2 _ _))) HS.1
 have d6:=X3 p6
 have q6: ¬(K0 m).ph=6:=fun x=>p6 ((show(K0 m).ph=m.ph from rfl).trans a0.out▸x)
 have b5:=Q0 q6
 have b8:=Q0 v
 by_cases ab:j=y
 ·have g6:=JW ab
  have c4:=Q0 ab;clear v p6 q6 ab;obtain⟨en,d1⟩:=exq m.ends;rw[show(K0 m).ends=m.ends from rfl,d1]at c3;have g9:=Q0 d1;clear d1;have e1:Hid (∀c,[Decidable c]->(c↔((K0 m).ph=4/\(K0 m).ends<=(K0 m).now))->(c->QP j (K0 m)=KU (K0 m)/\W7 j (K0 m)=QU (K0 m))/\(¬c->QP j (K0 m) []/\W7 j (K0 m)=K0 m)):=by
   refine Q0 (fun c _ hc=>⟨fun h=>⟨?_, ?_⟩,fun h=>⟨?_, ?_⟩⟩)
   ·funext Fs;unfold QP;rw[D.out,Q3 b8,Q3 b5,Q3 (fun x=>x c4),Q5 (hc.1 h)]
   ·unfold W7;rw[D.out,Q3 b8,Q3 b5,Q3 (fun x=>x c4),Q5 (hc.1 h)]
   ·unfold QP;rw[D.out,Q3 b8,Q3 b5,Q3 (fun x=>x c4),Q3 (fun x=>h (hc.2 x))]
   unfold W7;rw[D.out,Q3 b8,Q3 b5,Q3 (fun x=>x c4),Q3 (fun x=>h (hc.2 x))]
  have e5:Hid ((ph=4/\en<=E+1)↔((K0 m).ph=4/\(K0 m).ends<=(K0 m).now)):=Q0 (by rw[f7.out,show(K0 m).ph=m.ph from rfl,a0.out,show(K0 m).ends=m.ends from rfl,g9.out])
  by_cases p4:ph=4
  ·have d4:=Z0 p4
   by_cases c7:en<=E+1
   ·have d8:=Z5 c7
    have HS:=Q0 ((e1 _ e5).1 ⟨p4,c7⟩);clear p4;go_wp2_with fail
    go_quiet (fail)
    go_wp2_with fail
    refine(Wx (a9.below (U7 (Q2 _ _) _)) HI).mono ?_;rintro ev w6 h0;obtain⟨A,c,Fs,rfl,a5,Z,a6,c2⟩:=h0;have c1:=Q0 (show N8 _ w6 e F5 (KU (K0 m)) (QU (K0 m)) (.returned (.slice A (List.length Fs) c))from⟨A,c,Fs,rfl,a5,Z,a6,c2⟩);clear a5 Z a6 c2 a3 u c3;go_wp2_with fail
    go_ret2;rw[HS.1,HS.2];exact(N8.from_ a8 (N8.pre (U7 (Q2 _ _) _) c1)).told 0
   have d8:=Z1 c7;have HS:=Q0 ((e1 _ e5).2 (fun x=>c7 x.2));clear p4;go_wp2_with fail
   go_quiet (fail)
   go_wp2_with fail
   go_ret2;rw[HS.2];exact DY (C0.from_ a8 (DH a9 (U7 (Q2 _ _) _))) HS.1
  have d4:=X3 p4;have HS:=Q0 ((e1 _ e5).2 (fun x=>p4 x.1));clear p4;go_wp2_with fail
  go_quiet (fail)
  go_wp2_with fail
  go_ret2;rw[HS.2];exact DY (C0.from_ a8 (DH a9 (U7 (Q2 _ _) _))) HS.1
 have g6:=JF ab
 have HS:Hid (QP j (K0 m)=ZA (K0 m) y/\W7 j (K0 m)=JZ (K0 m) y):=by
  refine Q0 ⟨?_, ?_⟩
  ·funext Fs;unfold QP;rw[D.out,Q3 b8,Q3 b5,Q5 ab]
  unfold W7;rw[D.out,Q3 b8,Q3 b5,Q5 ab]
 clear v p6 q6 ab
 go_wp2_with fail
 refine(Qe4 a9 HI y).mono ?_
 rintro ev w6 ⟨A,c,Fs,rfl,a5,Z,a6,c2⟩
 have c1:=Q0 (show N8 _ w6 e F5 (ZA (K0 m) y) (JZ (K0 m) y) (.returned (.slice A (List.length Fs) c))from⟨A,c,Fs,rfl,a5,Z,a6,c2⟩)
 clear a5 Z a6 c2 a3 u c3
 go_wp2_with fail
 go_ret2
 rw[HS.1,HS.2]
 exact(N8.from_ a8 c1).told 0
theorem Qv2 {w e F m} (h:C3 w e F m) (U:VD m):
  Calls prog 27 #[IP (some ⟨e,0,none⟩)] w fun ev w'=>ev= .returned (U0 (EJ m))/\C0 w w' e F (QR m):=by
 have hE:=h
 obtain⟨cs,tb,bb,bk,im,T,tc,Al,lc,lv,bu,se,Ap,pc,es,mc,G,own,j,hF⟩:=h
 have a3:=j.cell j.ec.c14
 have HE:=Q0 hE
 by_cases u:m.ph=6
 ·have d6:=JW u
  obtain⟨⟨i,a2⟩,ha⟩: ∃q,phAt m.rows m.now m.rows.length=q:=⟨_,rfl⟩;have a0:=Q0 (fun W hW=>Ud j U.tab m.now W hW ha);obtain⟨SM,a6⟩:=exq (QR m);have y:Hid (EJ m=0/\SM=if i=3 then VX m else if i=5 then ZR m else {m with ph:=i}):=by
   refine Q0 ⟨by unfold EJ;rw[Q5 u], ?_⟩;rw[<-a6];unfold QR C8;rw[Q5 u,ha]
  rw[y.1,a6,BJ];clear a6;have c6:=j.cell j.ec.c6;have a4:=j.cell j.ec.c15;have HI:=Q0 U;obtain⟨nw,b0⟩:=exq m.now;rw[b0]at a4 a0;obtain⟨ph,E⟩:=exq m.ph;rw[E]at a3 d6;clear u hE j hF U E ha b0;go_enter func27,ntmps27
  go_upto_region 3 with fail
  refine XF (fun t=> [].contains t) (fun W=>W.cell? ⟨e,6,none⟩=some (IP (some ⟨tb,0,none⟩))/\W.cell? ⟨e,15,none⟩=some (I O nw)) (by kernel_rfl) ⟨c6,a4⟩ (fun J=> ?_);refine tM 0 (IP (some ⟨e,0,none⟩)) ?_;refine tM 1 (IP (some ⟨e,0,none⟩)) ?_;refine tM 2 (IP (some ⟨e,6,none⟩)) ?_;refine tM 3 (IP (some ⟨tb,0,none⟩)) ?_;refine tM 4 (IP (some ⟨e,0,none⟩)) ?_;refine tM 5 (IP (some ⟨e,0,none⟩)) ?_;refine tM 6 (IP (some ⟨e,15,none⟩)) ?_;refine tM 7 (I O nw) ?_;refine oM 8 fun K9 a9=> ?_
  go_simp;refine(a0 w.drew (J3 (Q2 _ _))).mono ?_;rintro ev w3 ⟨rfl,C⟩;refine a9 _ _ (fun _=>⟨Z7 J.1 C,Z7 J.2 C⟩) ?_;have b5:=And.intro (Z7 J.1 C) (Z7 J.2 C);clear a9 J;refine tM 9 (.tuple #[I O i,I O a2]) ?_;refine tM 10 (I O i) ?_;refine tM 11 (I O a2) ?_;refine tM 12 (I O i) ?_;refine tM 13 (I O a2) ?_;refine D5 (by kernel_rfl) ?_ _;have Z:Below w.heap.size w w3:=(J3 (Q2 _ w)).trans C;have a8:=Q0 (HE.below Z);have a7:=Q0 Z;have b1:=(HE.below Z).setPh i;have b2:=Q0 b1.1;obtain⟨-,x1,x2,-⟩:=b1;clear c6 a3 a4 b5 C Z a0 HE
  by_cases v:i=3
  ·have e3:=Z0 v
   have HS:Hid (SM=VX m):=Q0 (y.2.trans (Q5 v));clear v;go_wp2_with fail
   refine(NQ a8 (by have:=HI.now;omega) HI.tk).mono ?_;rintro ev w4 ⟨rfl,N⟩;have a5:=Q0 N;clear N x1 x2;go_wp2_with fail
   go_ret;rw[HS.out];exact⟨rfl,a5.pre a7⟩
  have e3:=X3 v
  by_cases D:i=5
  ·have e5:=Z0 D
   have HS:Hid (SM=ZR m):=Q0 (y.2.trans ((Q3 v).trans (Q5 D)));clear v D;go_wp2_with fail
   refine(Dr a8 HI.pk HI.pkn).mono ?_;rintro ev w4 ⟨rfl,N⟩;have a5:=Q0 N;clear N x1 x2;go_wp2_with fail
   go_ret;rw[HS.out];exact⟨rfl,a5.pre a7⟩
  have e5:=X3 D;have HS:Hid (SM= {m with ph:=i}):=Q0 (y.2.trans ((Q3 v).trans (Q3 D)));clear v D;go_wp2_with fail
  go_ret;rw[HS.out];exact⟨rfl,b2.pre a7⟩
 have d6:=JF u
 have y:Hid (EJ m=6/\QR m=m):=Q0 ⟨by unfold EJ;rw[Q3 u],by unfold QR;rw[Q3 u]⟩
 rw[y.1,y.2]
 obtain⟨ph,E⟩:=exq m.ph
 rw[E]at a3 d6
 clear u hE j hF U E
 go_enter func27,ntmps27
 go_wp2
 go_ret
 exact⟨rfl,DH HE (Q2 _ _)⟩
section
variable {m:X7}
theorem B9.in_ (h:B9 m) (j:0<=m.now/\m.now<=1000000000000):VD m:=
 ⟨⟨h.tab.1,h.tab.2.1⟩,by have:=h.tk;omega,h.la,j,by have:=h.lng;omega,fun o i=>(h.pk o i).1.1,by have:=h.cnt;omega⟩
theorem Qv3 {ps st dy p tk mo} (h:UV ps st dy p tk mo 0 (-1)):B9 (CE ps st dy p tk mo):=by
 rcases h with⟨-,h⟩|⟨-,-,h,-⟩|⟨-,-,-,h,-⟩|⟨ht,u,J,-,-⟩
 ·exact absurd rfl h
 ·cases h
 ·cases h
 rw[Bool.and_eq_true,WZ,WZ]at u
 obtain⟨⟨j,v,C,y⟩,⟨E,D,b3,b4⟩⟩:=u
 refine⟨ht,⟨C,y⟩,⟨b3,b4⟩,by show 1<=tk/\tk<=1000000;omega,by show 0<=mo/\mo<=10;omega,⟨j,v⟩,⟨j,v⟩,⟨MW,by simp[CE],fun o i=>(by cases i),fun o i=>(by cases i),fun o i=>(by cases i)⟩,fun o i=>(by cases i),by simp[CE],⟨by show(0:Int)<=0;omega,by show(0:Int)<=10;omega⟩⟩
