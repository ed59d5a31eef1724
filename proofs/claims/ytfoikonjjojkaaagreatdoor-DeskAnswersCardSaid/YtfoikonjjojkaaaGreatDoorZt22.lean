/- Parts. -/
import Derived.Test.YtfoikonjjojkaaaGreatDoorZt21
set_option linter.unusedVariables false
set_option maxRecDepth 100000
set_option maxHeartbeats 8000000
open Go.Proofs.Tryz
open Go.Value renaming int→I,pointer→IP
open Go.IntKind renaming i64→O
namespace Go.Proofs.YtfoikonjjojkaaaGreatDoor
open Go.RowKit
theorem Xe5{w e F m}(h:D8 w e F m)(hI:BJ m)oi os ok op oq(b5:V5 os)(hf:JV ⟨oi,os,ok,op,oq⟩)(hq:0<=oq):Calls prog 201 #[pA e,V6 ⟨oi,os,ok,op,oq⟩] w fun ev w'=>R9 w w' e F (fun Fs=>Fs=(S6 m ⟨oi,os,ok,op,oq⟩).fills) (XP m ⟨oi,os,ok,op,oq⟩) ev:=by
 obtain⟨cs,tb,bb,bk,im,T,tc,Al,lc,lv,bu,se,Ap,pc,es,mc,G,own,hM,hF⟩:=h;have d8:=Ta (al:=fun la p=>YA m.st m.dy m.an la p) (tr:=fun _ p=>p) (V1 (3-os) m.L1 m.L2) ⟨oi,os,ok,op,oq⟩ m.la hf hq (Fe hM.book.lists _);have e6:=Xe1 hM.book.lists ⟨oi,os,ok,op,oq⟩;have e8:=Xe0 hM.book.lists ⟨oi,os,ok,op,oq⟩;have k4:A4 (fun la p=>YA m.st m.dy m.an la p) (fun _ p=>p) (V1 (3-os) m.L1 m.L2) ⟨oi,os,ok,op,oq⟩ m.la=S6 m ⟨oi,os,ok,op,oq⟩:=rfl;rw[k4]at d8;obtain⟨r,hr⟩:=exq (S6 m ⟨oi,os,ok,op,oq⟩);rw[hr]at d8 e6 e8;obtain⟨fl,⟨D,E,y,J,C⟩,sp,st,rst⟩:=r;dsimp only at d8 e6 e8;obtain⟨HR,l4,i6,i7,HI,HF,l5⟩:=Xu1 hr d8.1 e6 e8 hI hF hM.book.lists;have i0:Hid (lv.length<=100):=J6 (by have h1:=hM.is.few hM.ind.ok;have h2:=hM.book.lists.cnt;unfold P1 at h1;omega);clear k4 hr d8 e6 e8 hI hF;have f2:Bz w (w.alloc (.cells #[IP (some ⟨e,0,none⟩)] 27)):=(J9 _ w).alloc Q2 _;have hv:=Z5 w 27 #[IP (some ⟨e,0,none⟩)];obtain⟨w0,g1⟩:=exq (w.alloc (.cells #[IP (some ⟨e,0,none⟩)] 27));rw[g1]at f2 hv;have f3:Bz w0 (w0.alloc (.cells #[I O oi,I O os,I O ok,I O op,I O oq] 84)):=(J9 _ w0).alloc Q2 _;have hx:=Z5 w0 84 #[I O oi,I O os,I O ok,I O op,I O oq];obtain⟨w1,g2⟩:=exq (w0.alloc (.cells #[I O oi,I O os,I O ok,I O op,I O oq] 84));rw[g2]at f3 hx;have f4:J7 w1 w.heap.size 27 #[IP (some ⟨e,0,none⟩)]:=Z4 hv f3;have g7:Bz w w1:=f2.trans (f3.mono f2.size);have b1:=hM.below g7;have f0:(∀k,¬own w.heap.size k)/\(∀k,¬own w0.heap.size k)/\w.heap.size≠w0.heap.size:=by have l1:=Z9 hv;exact⟨fun k hk=>by have:=hM.ok.lt _ k hk;omega,fun k hk=>by have:=hM.ok.lt _ k hk;omega,Q0⟩
 obtain⟨V,eV⟩:=exq w.heap.size;obtain⟨X,eX⟩:=exq w0.heap.size;have j6:w.heap.size<=V:=Q0;rw[eV]at f4 f0;rw[eX]at hx f0;obtain⟨e3,HV,HX,c5,l2,l7⟩:=Xu0 b1 f4 hx f0 g7 j6;have c8:=b1.cell b1.ec.c8;have c7:=b1.cell b1.ec.c7;have v0:w1.cell? ⟨V,0,none⟩=some (IP (some ⟨e,0,none⟩)):=by rw[X9 f4];rfl
 obtain⟨x0,x1,x2,x3,x4⟩:=S0 hx;have j9:∀W,Bz w1 W->Calls prog 223 #[IP (some ⟨bk,0,none⟩),.agg #[I O oi,I O os,I O ok,I O op,I O oq],.func (.func 224) #[IP (some ⟨bb,0,none⟩)] #[],.func (.func 225) #[] #[IP (some ⟨V,0,none⟩)]] W fun ev w'=>∃A c F' M1 M2,ev=.returned (.tuple #[.slice A (List.length fl) c,.agg #[I O D,I O E,I O y,I O J,I O C],.bool sp])/\AV (Ae e bb bk V cs m.st m.dy m.an) W w' st (kF G bb e V) F' M1 M2 A c fl/\V1 os M1 M2=V1 os m.L1 m.L2/\V1 (3-os) M1 M2=rst:=by
  intro W hb;have hW:=e3.below hb;have u:∀{i k k'},own i k->own i k'->k=k':=fun a b=>hW.ok.uni _ _ _ a b
  have hk:Ae e bb bk V cs m.st m.dy m.an m.la m.L1 m.L2 (kF G bb e V) W:=⟨G,hW.book,hW.bands,hW.ind.blk,Z4 HV hb,fun i=>KL,fun x=>absurd (u (hW.oG _ x) hW.ob) Q1,fun x=>absurd (u (hW.oG _ x) hW.oe) Q1,fun x=>c5.1 _ (hW.oG _ x),fun x=>absurd (u hW.ob (x▸hW.oe)) Q1,fun x=>c5.1 3 (x▸hW.ob),hW.ec.c7⟩;have hc:=Qn3 (Jr1 e bb bk V cs m.st m.dy m.an) (fun hk sd hs=>by obtain⟨G',hk⟩:=hk;exact Xw _ bk G' _ _ hk.book sd hs) W m.la (kF G bb e V) m.L1 m.L2 hk rfl oi os ok op oq b5 hf;refine hc.mono ?_;rintro ev w'⟨A,c,F',M1,M2,he,b2,d9,b8⟩;have hr:A4 (fun la p=>YA m.st m.dy m.an la p) (fun _ p=>p) (V1 (3-os) m.L1 m.L2) ⟨oi,os,ok,op,oq⟩ m.la=⟨fl,⟨D,E,y,J,C⟩,sp,st,rst⟩:=HR.out;rw[hr]at he b2 b8;exact⟨A,c,F',M1,M2,he,b2,d9,b8⟩
 have f9:=J6 j9;clear j9 hM b1 f2 hv f3 hx f4 g7 f0 j6 hf hq;unfold V6;dsimp only;go_enter func201,ntmps201
 go_upto_region 1 with fail
 try rw[g1]
 try rw[g2]
 try rw[eV]
 try rw[eX]
 clear g1 g2 eV eX
 go_cut [5,6,7] (fun s5 s6 s7 wx=>∃A c Y G2,s5=.slice A (List.length fl) c/\s6=IP (some ⟨Y,0,none⟩)/\s7=.bool sp/\J7 wx Y 84 #[I O D,I O E,I O y,I O J,I O C]/\Zt (KQ w1 own G2 4) V X A Y/\DR w1 wx e tb bb bk im V X cs T tc Al lc lv bu se Ap pc es mc own (fun s q=>C4 s q (P1 m)) A c fl #[I O oi,I O os,I O ok,I O op,I O oq] (VC m ⟨oi,os,ok,op,oq⟩) G2)
 case first=>
  refine VR (fun t=>[].contains t) (fun W=>W.cell? ⟨V,0,none⟩=some (IP (some ⟨e,0,none⟩))/\W.cell? ⟨e,8,none⟩=some (IP (some ⟨bk,0,none⟩))/\W.cell? ⟨e,7,none⟩=some (IP (some ⟨bb,0,none⟩))/\W.cell? ⟨X,0,none⟩=some (I O oi)/\W.cell? ⟨X,1,none⟩=some (I O os)/\W.cell? ⟨X,2,none⟩=some (I O ok)/\W.cell? ⟨X,3,none⟩=some (I O op)/\W.cell? ⟨X,4,none⟩=some (I O oq)) Q4 ⟨v0,c8,c7,x0,x1,x2,x3,x4⟩ (fun j4=>?_);refine tM 0 ?_;refine tM 1 ?_;refine tM 2 ?_;refine tM 3 ?_;refine tM 4 ?_;refine tM 5 ?_;refine tM 6 ?_;refine tM 7 ?_;refine tM 8 ?_;refine tM 9 ?_;refine tM 10 ?_;refine SX (i:=11) (j:=16) Q4 ?_ ?_
  ·skip
   refine BD 11 rfl (fun K1 c9=>?_);go_simp;refine(f9 w1.drew (Z2 Q5)).mono ?_;rintro ev w4⟨A,c,F',M1,M2,rfl,b2,d9,b8⟩;obtain⟨G2,h4,n7⟩:=Pv e3 HV HX c5 (Z2 (J9 _ w1)) b5 HR b2 d9 b8;have d4:=h4.cells;refine c9 _ _ (fun _=>d4) ?_;clear c9 j4;refine tM 12 ?_;refine tM 13 ?_;refine tM 14 ?_;refine tM 15 ?_;refine oM 16 fun K2 d0=>?_
   go_simp;have a9:Bz w4 (w4.alloc (.cells #[I O 0,I O 0,I O 0,I O 0,I O 0] 84)):=Q5.alloc Q2 _;have a5:=Z5 w4 84 #[I O 0,I O 0,I O 0,I O 0,I O 0];obtain⟨Y,eY⟩:=exq w4.heap.size;have g6:w4.heap.size<=Y:=CB eY;have e5:w1.heap.size<=Y:=U4 h4.keep.size g6;obtain⟨w5,j1⟩:=exq (w4.alloc (.cells #[I O 0,I O 0,I O 0,I O 0,I O 0] 84));rw[j1]at a9 a5|-;rw[eY]at a5|-;have h5:=h4.below a9;refine d0 _ _ (fun _=>h5.cells) ?_;have j5:=h5.cells;clear d0 j1 eY d4;refine tM 17 ?_;refine oM 18 fun K5 d2=>?_
   refine(X0 Q8).mpr ?_;refine DY 84 _ _ rfl Y #[I O D,I O E,I O y,I O J,I O C] rfl rfl 84 #[I O 0,I O 0,I O 0,I O 0,I O 0] a5 (by show(prog.info? 84).map (·.size)=some 5;kernel_rfl) rfl J0 ?_;have e1:=BH _ _ _ #[I O D,I O E,I O y,I O J,I O C] _ a5;have d7:=UP w5 Y #[I O D,I O E,I O y,I O J,I O C];obtain⟨w6,c6⟩:=exq (w5.setRow Y #[I O D,I O E,I O y,I O J,I O C]);rw[c6]at e1 d7|-;have h6:=h5.keepY d7 (h4.far g6) e5;refine d2 _ _ (fun _=>h6.cells) ?_;have m3:=h6.cells;clear d2 c6;simp only[Act.put];refine tM 19 ?_;refine XX Q4 ?_ _;go_wp2;go_meet;exact⟨A,c,Y,G2,rfl,rfl,rfl,e1,(h4.far g6),h6⟩
  skip
  refine BD 16 rfl (fun K1 c9=>?_);go_simp;have a3:Bz w1 (w1.alloc (.cells #[I O 0,I O 0,I O 0,I O 0,I O 0] 84)).drew:=Z2 (Q5.alloc Q2 _);have h9:=Y6 (Z5 w1 84 #[I O 0,I O 0,I O 0,I O 0,I O 0]);obtain⟨Y,eY⟩:=exq w1.heap.size;have e5:w1.heap.size<=Y:=CB eY;obtain⟨w4,j0⟩:=exq ((w1.alloc (.cells #[I O 0,I O 0,I O 0,I O 0,I O 0] 84)).drew);rw[j0]at a3 h9|-;rw[eY]at h9|-;have d4:(fun W:World=>W.cell? ⟨V,0,none⟩=some (IP (some ⟨e,0,none⟩))/\W.cell? ⟨e,8,none⟩=some (IP (some ⟨bk,0,none⟩))/\W.cell? ⟨e,7,none⟩=some (IP (some ⟨bb,0,none⟩))/\W.cell? ⟨X,0,none⟩=some (I O oi)/\W.cell? ⟨X,1,none⟩=some (I O os)/\W.cell? ⟨X,2,none⟩=some (I O ok)/\W.cell? ⟨X,3,none⟩=some (I O op)/\W.cell? ⟨X,4,none⟩=some (I O oq)) w4:=⟨U7 v0 a3,U7 c8 a3,U7 c7 a3,U7 x0 a3,U7 x1 a3,U7 x2 a3,U7 x3 a3,U7 x4 a3⟩;refine c9 _ _ (fun _=>d4) ?_;clear c9 j0 eY j4;refine oM 11 fun K2 d0=>?_
  go_simp;refine(f9 w4 a3).mono ?_;rintro ev w5⟨A,c,F',M1,M2,rfl,b2,d9,b8⟩;obtain⟨G2,h5,m8⟩:=Pv e3 HV HX c5 a3 b5 HR b2 d9 b8;have a5:=m8 _ _ _ h9 e5;have j5:=h5.cells;refine d0 _ _ (fun _=>j5) ?_;clear d0 d4;refine tM 12 ?_;refine tM 13 ?_;refine tM 14 ?_;refine tM 15 ?_;refine tM 17 ?_;refine oM 18 fun K5 d2=>?_
  refine(X0 Q8).mpr ?_;refine DY 84 _ _ rfl Y #[I O D,I O E,I O y,I O J,I O C] rfl rfl 84 #[I O 0,I O 0,I O 0,I O 0,I O 0] a5.1 (by show(prog.info? 84).map (·.size)=some 5;kernel_rfl) rfl J0 ?_;have e1:=BH _ _ _ #[I O D,I O E,I O y,I O J,I O C] _ a5.1;have d7:=UP w5 Y #[I O D,I O E,I O y,I O J,I O C];obtain⟨w6,c6⟩:=exq (w5.setRow Y #[I O D,I O E,I O y,I O J,I O C]);rw[c6]at e1 d7|-;have h6:=h5.keepY d7 a5.2 e5;refine d2 _ _ (fun _=>h6.cells) ?_;have m3:=h6.cells;clear d2 c6;simp only[Act.put];refine tM 19 ?_;refine XX Q4 ?_ _;go_wp2;go_meet;exact⟨A,c,Y,G2,rfl,rfl,rfl,e1,a5.2,h6⟩
 obtain⟨A,c,Y,G2,rfl,rfl,rfl,k8,k0,h3⟩:=hcut;have f6:Hid (Ab w wc e tb bb bk im V X Y T tc Ap pc es mc own A c fl #[I O oi,I O os,I O ok,I O op,I O oq] #[I O D,I O E,I O y,I O J,I O C] (VC m ⟨oi,os,ok,op,oq⟩) os 0):=by
  have k2:(S6 m ⟨oi,os,ok,op,oq⟩).fills=fl:=by rw[HR.out]
  rw[<-k2]at h3;have h1:=h3.loop l2 l7 l5 b5 i0 k8 k0;rw[k2]at h1;exact J6 h1
 have N:Hid ((S6 m ⟨oi,os,ok,op,oq⟩).left=⟨D,E,y,J,C⟩/\(S6 m ⟨oi,os,ok,op,oq⟩).stop=sp/\(S6 m ⟨oi,os,ok,op,oq⟩).fills=fl):=J6 (by rw[HR.out];exact⟨rfl,rfl,rfl⟩);obtain⟨m1,h0⟩:=exq (VC m ⟨oi,os,ok,op,oq⟩);rw[h0]at f6;have f8:=J6 h0;clear k8 k0 h3 v0 c8 c7 x0 x1 x2 x3 x4 f9 e3 HV HX c5 i0 HR h0;obtain⟨n,hn⟩:=exq fl.length;rw[hn]at i7|-;have HN:=J6 hn;have m7:=i7.out;clear hn;go_wp2_with fail
 go_loopg [29] n (fun gg n2 wr=>∃k,k<=n/\gg=n-k/\n2=I O k/\Hid (Ab w wr e tb bb bk im V X Y T tc Ap pc es mc own A c fl #[I O oi,I O os,I O ok,I O op,I O oq] #[I O D,I O E,I O y,I O J,I O C] m1 os k))
 case atStart=>exact⟨0,U9 _,rfl,rfl,f6⟩
 obtain⟨k,hk,rfl,rfl,HL⟩:=hrel;clear f6;obtain⟨cs2,k9,m9,n1,m0,n3,n5,own2,hL⟩:=HL.out;have e2:=J6 hL;clear HL
 by_cases m5:k<n
 ·have g9:k<fl.length:=by rw[HN.out];exact m5
  obtain⟨ga,m4⟩:=EL hL.row.row Q0;subst m4;obtain⟨y0,y1,y2,y3⟩:=Ek hL.row.row g9;obtain⟨⟨fb,fs,fp,fn⟩,k1⟩:∃f,fl[k]=f:=⟨_,rfl⟩;rw[k1]at y0 y1 y2 y3;have l3:Hid (fl[k]'g9=⟨fb,fs,fp,fn⟩):=J6 k1;have m6:(k:Int)<(n:Int):=Q0;have n6:(0:Int)<=(k:Int):=Q0;obtain⟨v0,x1,-,-,-,-,-⟩:=hL.cells;have d6:Bz wr (wr.alloc (.cells #[I O fb,I O fs,I O fp,I O fn] 127)):=(J9 _ wr).alloc Q2 _;have hP:=Z5 wr 127 #[I O fb,I O fs,I O fp,I O fn];obtain⟨wp,g3⟩:=exq (wr.alloc (.cells #[I O fb,I O fs,I O fp,I O fn] 127));obtain⟨P,eP⟩:=exq wr.heap.size;rw[g3]at d6 hP;rw[eP]at hP;obtain⟨p0,p1,p2,p3⟩:=Gc hP;have g8:Bz wp (wp.alloc (.cells #[I O 0,I O 2,I O 1,I O fp,I O fn] 84)):=(J9 _ wp).alloc Q2 _;have hZ:=Z5 wp 84 #[I O 0,I O 2,I O 1,I O fp,I O fn];obtain⟨wz,g4⟩:=exq (wp.alloc (.cells #[I O 0,I O 2,I O 1,I O fp,I O fn] 84));obtain⟨Z,eZ⟩:=exq wp.heap.size;rw[g4]at g8 hZ;rw[eZ]at hZ;have j8:Bz wr wz:=d6.trans (g8.mono d6.size);have j7:wr.heap.size<=Z:=by have:=d6.size;omega
  obtain⟨b0,l9,HZ⟩:=Xt7 j8 j7 hZ;clear d6 hP g8 j8 hZ hL j7;go_upto_region 5 with fail
  try rw[g3]
  try rw[eP]
  clear g3 eP y0 y1 y2 y3;go_upto_region 6 with fail
  try rw[g4]
  try rw[eZ]
  clear g4 eZ p0 p1 p2 p3;have n4:=v0;have v0:=U7 v0 b0;have x1:=U7 x1 b0;obtain⟨z0,z1,z2,z3,z4⟩:=S0 HZ;have f1:=K0 HZ 1;obtain⟨sd,k5⟩:=exq (3-os);have g0:=J6 k5;clear k5;go_upto_if 40 with fail
  go_cut [] (fun wx=>Hid (Bz wr wx/\J7 wx Z 84 #[I O 0,I O sd,I O 1,I O fp,I O fn]))
  case first=>
   obtain hs|hs:=b5
   ·have d1:=Z3 (show os≠2 by omega)
    go_wp2;go_meet;exact J6 ⟨b0,by have:=g0.out;rw[show sd=2 by omega];exact HZ⟩
   have d1:=V4 hs;go_wp2;go_meet;exact J6 ⟨b0.trans ((U1 wz ⟨Z,1,none⟩ (I O 1)).below (fun i e=>e▸l9.out) b0.size),by have:=g0.out;rw[show sd=1 by omega];exact Z0 HZ 1 (I O 1)⟩
  case rest=>
  clear HZ b0 z0 z1 z2 z3 z4 f1 v0 x1;obtain⟨k3,h7⟩:=hcut.out;obtain⟨HQ,l8⟩:=Xt6 k3 h7;clear hcut k3;obtain⟨z0,z1,z2,z3,z4⟩:=S0 h7;clear h7;have v0:=U7 n4 HQ;obtain⟨wq,j2⟩:=exq wc;rw[j2]at HQ l8 z0 z1 z2 z3 z4 v0|-;clear j2;go_upto_region 8 with fail
  have e4:=e2.below (HQ.trans ((Z2 (J9 _ wq)).mono HQ.size));have h8:=Qa0 wq.drew e 203 cs2 9 k9 m9 n1 m0 n3 e4.eng.ind (e4.small i6 (by rw[HN.out];exact m7) Q0) ⟨0,sd,1,fp,fn⟩;unfold V6 at h8;obtain⟨i9,i8⟩:=Xt6 h8 e4;clear h8 e4 e2
  go_still_tail 4,Q4
  change wpList _ _ _ _ _ wq.drew;go_wp2_with fail
  refine i9.mono ?_;rintro ev w9⟨rfl,lv',bu',se',hit,k6⟩;have l6:=J6 (i8.next i6 g9 b5 l3 hit (by rw[g0.out];exact k6));clear hit k6 z0 z1 z2 z3 z4 v0 i9 i8;go_wp2
  go_roundg (n-(k+1))
  case measure=>omega
  exact⟨k+1,Q0,rfl,J5,l6⟩
 obtain rfl:k=n:=by omega
 have m6:¬(k:Int)<(k:Int):=Q0;have a4:=J6 (e2.end_ HF (by rw[HN.out];exact X3 _));obtain⟨v0,-,y0,y1,y2,y3,y4⟩:=hL.cells;obtain⟨F1,j3⟩:=exq (fun i=>∃j,own2 i j);rw[j3]at a4;clear hL e2 j3
 by_cases a9:0<C
 ·have d5:=V7 a9
  by_cases e7:y=2
  ·have d3:=V4 e7
   have a0:Hid (T5 m ⟨oi,os,ok,op,oq⟩=m1):=J6 (by unfold T5;rw[N.1,J8 (fun x=>x.2 e7)];exact f8)
   cases sp with
   |true=>
    have a2:=a4.eng;rw[<-a0.out]at a2;have a6:=J6 (Vr a2 ⟨by have:=(PX m ⟨oi,os,ok,op,oq⟩).1;have:=HI.now;omega,by have:=(PX m ⟨oi,os,ok,op,oq⟩).1;have:=HI.now;omega⟩ (by rw[(PX m ⟨oi,os,ok,op,oq⟩).2];exact HI.tk));clear a2;go_wp2_with fail
    refine a6.mono ?_;rintro ev wf⟨rfl,a8⟩;have a1:=a4.out;rw[<-a0.out]at a1;obtain⟨F9,a7⟩:=a1.then_ a8;have b9:=J6 a7;clear a8 a1 a7 a6;go_wp2;go_ret;have e9:XP m ⟨oi,os,ok,op,oq⟩=BU (T5 m ⟨oi,os,ok,op,oq⟩):=by unfold XP;rw[N.2.1,X0 rfl]
    rw[e9,<-HN.out];exact b9.fills N.2.2.symm
   |false=>
    go_wp2;go_ret;have e9:XP m ⟨oi,os,ok,op,oq⟩=(T5 m ⟨oi,os,ok,op,oq⟩):=by unfold XP;rw[N.2.1,J8 Q1]
    rw[e9,a0.out,<-HN.out];exact a4.fills N.2.2.symm
  have d3:=Z3 e7;have a0:Hid (T5 m ⟨oi,os,ok,op,oq⟩=S3 m1 ⟨D,E,y,J,C⟩):=J6 (by unfold T5;rw[N.1,X0 ⟨a9,e7⟩,f8.out]);have f7:=J6 (Sy wr e F1 m1 a4.eng ⟨D,E,y,J,C⟩ l4);unfold V6 at f7;go_wp2_with fail
  refine f7.mono ?_;rintro ev w9⟨rfl,k7⟩;obtain⟨F2,g5⟩:=a4.then_ k7;have f5:=J6 g5;have v0:=(show w9.cell? ⟨V,0,none⟩=some (IP (some ⟨e,0,none⟩)) by rw[X9 g5.v.1];rfl);clear k7 g5 y0 y1 y2 y3 y4 f7 a4
  cases sp with
  |true=>
   have a2:=f5.eng;rw[<-a0.out]at a2;have a6:=J6 (Vr a2 ⟨by have:=(PX m ⟨oi,os,ok,op,oq⟩).1;have:=HI.now;omega,by have:=(PX m ⟨oi,os,ok,op,oq⟩).1;have:=HI.now;omega⟩ (by rw[(PX m ⟨oi,os,ok,op,oq⟩).2];exact HI.tk));clear a2;go_wp2_with fail
   refine a6.mono ?_;rintro ev wf⟨rfl,a8⟩;have a1:=f5.out;rw[<-a0.out]at a1;obtain⟨F9,a7⟩:=a1.then_ a8;have b9:=J6 a7;clear a8 a1 a7 a6;go_wp2;go_ret;have e9:XP m ⟨oi,os,ok,op,oq⟩=BU (T5 m ⟨oi,os,ok,op,oq⟩):=by unfold XP;rw[N.2.1,X0 rfl]
   rw[e9,<-HN.out];exact b9.fills N.2.2.symm
  |false=>
   go_wp2;go_ret;have e9:XP m ⟨oi,os,ok,op,oq⟩=(T5 m ⟨oi,os,ok,op,oq⟩):=by unfold XP;rw[N.2.1,J8 Q1]
   rw[e9,a0.out,<-HN.out];exact f5.fills N.2.2.symm
 have d5:=V9 a9;have a0:Hid (T5 m ⟨oi,os,ok,op,oq⟩=m1):=J6 (by unfold T5;rw[N.1,J8 (fun x=>a9 x.1)];exact f8)
 cases sp with
 |true=>
  have a2:=a4.eng;rw[<-a0.out]at a2;have a6:=J6 (Vr a2 ⟨by have:=(PX m ⟨oi,os,ok,op,oq⟩).1;have:=HI.now;omega,by have:=(PX m ⟨oi,os,ok,op,oq⟩).1;have:=HI.now;omega⟩ (by rw[(PX m ⟨oi,os,ok,op,oq⟩).2];exact HI.tk));clear a2;go_wp2_with fail
  refine a6.mono ?_;rintro ev wf⟨rfl,a8⟩;have a1:=a4.out;rw[<-a0.out]at a1;obtain⟨F9,a7⟩:=a1.then_ a8;have b9:=J6 a7;clear a8 a1 a7 a6;go_wp2;go_ret;have e9:XP m ⟨oi,os,ok,op,oq⟩=BU (T5 m ⟨oi,os,ok,op,oq⟩):=by unfold XP;rw[N.2.1,X0 rfl]
  rw[e9,<-HN.out];exact b9.fills N.2.2.symm
 |false=>
  go_wp2;go_ret;have e9:XP m ⟨oi,os,ok,op,oq⟩=(T5 m ⟨oi,os,ok,op,oq⟩):=by unfold XP;rw[N.2.1,J8 Q1]
  rw[e9,a0.out,<-HN.out];exact a4.fills N.2.2.symm
def UZ(w w':World)(e:Nat)(F:Nat->Prop)(P:List C6->Prop)(m:Z6)(E:Int)(ev:Ending):Prop:=
 ∃A c Fs,ev=.returned (.tuple #[.slice A (List.length Fs) c,Y9 E])/\P Fs/\X8 w' A Fs.length c 127 4 (X7 QT Fs)/\(∀g,X5 A=some g->w.heap.size<=g)/\∃F',D8 w' e F' m/\U2 w w' F F'/\∀g,X5 A=some g->¬F' g
theorem UZ.none_{w w' e F P m E}(h:A5 w w' e F m)(j:P []):UZ w w' e F P m E (.returned (.tuple #[.slice none 0 0,Y9 E])):=by obtain⟨F',h1,h2⟩:=h;exact⟨none,0,[],rfl,j,QY _ _ _ _,fun g i=>by simp[X5]at i,F',h1,h2,fun g i=>by simp[X5]at i⟩
abbrev GS:=@UZ.none_
theorem R9.told{w w' e F P m A n c}(h:R9 w w' e F P m (.returned (.slice A n c)))E:UZ w w' e F P m E (.returned (.tuple #[.slice A n c,Y9 E])):=by
 obtain⟨A',c',Fs,h1,h2,i,j,u⟩:=h
 cases h1;exact⟨A,c,Fs,rfl,h2,i,j,u⟩
theorem R9.step{w w1 w2 e F P m m2 ev}(h:R9 w w1 e F P m ev)(k:∀i,D8 w1 e i m->A5 w1 w2 e i m2):R9 w w2 e F P m2 ev:=by
 obtain⟨A,c,Fs,h1,h2,y,J,i,N,Z,C⟩:=h;obtain⟨E,h8,j⟩:=k i N;refine⟨A,c,Fs,h1,h2,y.keeps j.1 C,J,E,h8,Z.trans j,fun g D hF=>?_⟩;obtain u|u:=j.2 g hF
 ·exact C g D u
 have:=y.lt D;omega
theorem R9.as{w w' e F P P' m m' ev}(h:R9 w w' e F P m ev)(i:P=P')(j:m=m'):R9 w w' e F P' m' ev:=by subst i j;exact h
theorem R9.from_{w w1 w' e F F1 P m ev}(i:U2 w w1 F F1)(h:R9 w1 w' e F1 P m ev):R9 w w' e F P m ev:=by obtain⟨A,c,Fs,h1,h2,j,u,F',y,C,D⟩:=h;exact⟨A,c,Fs,h1,h2,j,fun g E=>U4 i.1.size (u g E),F',y,i.trans C,D⟩
theorem A5.from_{w w1 w' e F F1 m}(i:U2 w w1 F F1)(h:A5 w1 w' e F1 m):A5 w w' e F m:=by obtain⟨F',h1,h2⟩:=h;exact⟨F',h1,i.trans h2⟩
theorem Cl{w e cs tb bb bk im T tc Al lc lv bu se Ap pc es mc G own g m}(h:U8 w e cs tb bb bk im T tc Al lc lv bu se Ap pc es mc G own g m) (j:0<m.rows.length/\m.rows.length<=20) t W (y:Bz w W) {a b} (hp:phAt m.rows t m.rows.length=(a,b)):Calls prog 147 #[pA tb,I O t] W fun u w'=>u=.returned (.tuple #[I O a,I O b])/\Bz W w':=by have i:=h.below y;have key:=Jm7 tb T m.rows.length tc m.rows t W i.tabl i.tabp i.tabc j.1 j.2;rw[hp]at key;exact key
theorem Tj{w e F m}(h:D8 w e F m)(hI:BJ m)(e8:BJ (V2 m)):Calls prog 109 #[pA e] w fun ev w'=>UZ w w' e F (AZ m) (G9 m) (AT m) ev:=by
 have hE:=h;obtain⟨cs,tb,bb,bk,im,T,tc,Al,lc,lv,bu,se,Ap,pc,es,mc,G,own,N,hF⟩:=h;have a3:=N.cell N.ec.c14
 by_cases Z:m.ph=7
 ·have d7:=V4 Z
  have HS:Hid (AZ m []/\G9 m=m/\AT m=6):=J6 ⟨by unfold AZ;rw[X0 Z],by unfold G9;rw[X0 Z],by unfold AT;rw[X0 Z]⟩;have HE:=J6 hE;obtain⟨ph,b9⟩:=exq m.ph;rw[b9]at a3 d7;clear Z hE N hF hI e8 b9;go_enter func109,ntmps109
  go_wp2;go_ret2;rw[HS.2.1,HS.2.2];exact GS (LQ HE Q5) HS.1
 have d7:=Z3 Z;obtain⟨⟨j,a2⟩,ha⟩:∃q,phAt m.rows m.now m.rows.length=q:=⟨_,rfl⟩;obtain⟨⟨J,b2⟩,hb⟩:∃q,phAt m.rows (m.now+1) m.rows.length=q:=⟨_,rfl⟩;have e2:=J6 (fun W hW=>Cl N hI.tab m.now W hW ha);have HT:Hid (AT m=0/\G9 m=QR j (V2 m)/\AZ m=XY j (V2 m)/\L5 (V2 m) (V2 m).now=J):=by
  refine J6 ⟨by unfold AT;rw[J8 Z],?_,?_,?_⟩
  ·unfold G9 L5;rw[J8 Z,ha]
  ·funext Fs;unfold AZ L5;rw[J8 Z,ha]
  exact C5 Prod.fst hb
 rw[HT.1,HT.2.1,HT.2.2.1];have c6:=N.cell N.ec.c6;have u:=N.cell N.ec.c15;obtain⟨HM,HF,HI,g6,g1⟩:=Xt9 N hF e8 hI.tab hb;have i1:RowKit.wrap64 (m.now+1)=m.now+1:=by have h1:=hI.now;unfold RowKit.wrap64;omega
 obtain⟨nw,f4⟩:=exq m.now;rw[f4]at u e2 i1;have e1:=J6 f4;obtain⟨ph,b9⟩:=exq m.ph;rw[b9]at a3 d7;have a0:=J6 b9;clear Z hE N hF hI e8 b9 ha hb f4;go_enter func109,ntmps109
 go_upto_region 3 with fail
 refine VR (fun t=>[].contains t) (fun W=>W.cell? ⟨e,6,none⟩=some (IP (some ⟨tb,0,none⟩))/\W.cell? ⟨e,15,none⟩=some (I O nw)) Q4 ⟨c6,u⟩ (fun E=>?_);refine tM 0 ?_;refine tM 1 ?_;refine tM 2 ?_;refine tM 3 ?_;refine tM 4 ?_;refine tM 5 ?_;refine tM 6 ?_;refine tM 7 ?_;refine oM 8 fun K9 c8=>?_
 go_simp;refine(e2 w.drew (Z2 Q5)).mono ?_;rintro ev w3⟨rfl,C⟩;refine c8 _ _ (fun _=>⟨U7 E.1 C,U7 E.2 C⟩) ?_;have e9:=And.intro (U7 E.1 C) (U7 E.2 C);clear c8 E;refine tM 9 ?_;refine tM 10 ?_;refine tM 11 ?_;refine tM 12 ?_;refine tM 13 ?_;refine XX Q4 ?_ _;have f0:Bz w w3:=(Z2 (J9 _ w)).trans C;have c9:=HM.below f0;have u:=c9.cell c9.ec.c15;rw[e1.out]at u;have i2:=c9.frozen 15;obtain⟨a4,f5⟩:=c9.setNow (nw+1);have f8:=J6 f0;clear c6 a3 e9 C f0 c9 e2;go_upto_region 5 with fail
 obtain⟨w4,g7⟩:=exq (w3.setCell (aD e 15) (I O (nw+1)));rw[g7]at a4 f5|-;have em:({m with now:=nw+1}:Z6)=V2 m:=by unfold V2;rw[e1.out]
 rw[em]at a4;have g4:=J6 (fun W hW=>Cl (a:=J) (b:=b2) a4 g6 (nw+1) W hW (by have h:=g1.out;rw[e1.out]at h;exact h));clear g7 u i2 i1;have c6:=a4.cell a4.ec.c6;have u:=a4.cell a4.ec.c15;have e4:(V2 m).now=nw+1:=by rw[<-em]
 rw[e4]at u;obtain⟨g2,g3,f9⟩:=Xt7 a4 f5 e4;clear a4 f5 em e4;refine VR (fun t=>[].contains t) (fun W=>W.cell? ⟨e,6,none⟩=some (IP (some ⟨tb,0,none⟩))/\W.cell? ⟨e,15,none⟩=some (I O (nw+1))) Q4 ⟨c6,u⟩ (fun E=>?_);refine tM 0 ?_;refine tM 1 ?_;refine tM 2 ?_;refine tM 3 ?_;refine tM 4 ?_;refine tM 5 ?_;refine tM 6 ?_;refine tM 7 ?_;refine oM 8 fun K9 c8=>?_
 go_simp;refine(g4 w4.drew (Z2 Q5)).mono ?_;rintro ev w5⟨rfl,C⟩;refine c8 _ _ (fun _=>⟨U7 E.1 C,U7 E.2 C⟩) ?_;have e9:=And.intro (U7 E.1 C) (U7 E.2 C);clear c8 E;refine tM 9 ?_;refine tM 10 ?_;refine tM 11 ?_;refine tM 12 ?_;refine tM 13 ?_;refine XX Q4 ?_ _;have f1:Bz w4 w5:=(Z2 (J9 _ w4)).trans C;have a8:=g2.below f1;have e5:D8 w5 e _ (V2 m):=a8.at_ (fun _ _ _=>rfl);have f6:=(((N0 f8).trans g3).trans (N0 f1)).bstep HF;obtain⟨F5,h0⟩:=exr (fun i=>∃k,own i k);rw[<-h0]at e5 f6;have a3:=a8.cell a8.ec.c14;rw[show(V2 m).ph=m.ph from rfl,a0.out]at a3;have u:=a8.cell a8.ec.c15;rw[f9.out]at u;have c7:=a8.cell a8.ec.c16;obtain⟨a9,b0⟩:=Xt6 e5 f6;have D:Hid (L5 (V2 m) (V2 m).now=J):=J6 HT.2.2.2;clear c6 e9 C f1 a8 e5 f6 h0 HM g2 g3 f8 g4 HF g1 g6
 by_cases y:J=7
 ·have e7:=V4 y
  by_cases p5:ph=5
  ·have d5:=V4 p5
   have HS:Hid (XY j (V2 m)=XD (V2 m)/\QR j (V2 m)=CX (ZD (V2 m))):=by
    refine J6 ⟨?_,?_⟩
    ·funext Fs;unfold XY;rw[D.out,X0 y,X0 (show(V2 m).ph=5 from a0.trans p5)]
    unfold QR;rw[D.out,X0 y,X0 (show(V2 m).ph=5 from a0.trans p5)]
   clear y p5;go_wp2_with fail
   refine(Vu a9 HI.la).mono ?_;rintro ev w6⟨A,c,Fs,rfl,a7,a6,a5,F6,e6,f7,f3⟩;obtain⟨c5,g0,g5⟩:=Xt7 (show R9 _ w6 e F5 (XD (V2 m)) (ZD (V2 m)) (.returned (.slice A (List.length Fs) c))from⟨A,c,Fs,rfl,a7,a6,a5,F6,e6,f7,f3⟩) e6 (And.intro a6 (And.intro a5 (And.intro a7 (And.intro f7 f3))));clear a7 a6 a5 e6 f7 f3 a3 u c7;go_wp2_with fail
   refine(Tc g0).mono ?_;rintro ev w7⟨rfl,F7,g9,d3⟩;have h8:Hid (R9 w5 w7 e F5 (XD (V2 m)) (CX (ZD (V2 m))) (.returned (.slice A (List.length Fs) c))):=by
    obtain⟨h1,h2,h3,h4,h5⟩:=g5.out;refine J6 ⟨A,c,Fs,rfl,h3,h1.keeps d3.1 h5,h2,F7,g9,h4.trans d3,fun g hg hF=>?_⟩;obtain g8|g8:=d3.2 g hF
    ·exact h5 g hg g8
    have:=h1.lt hg;omega
   clear g9 d3 g5 g0 c5;go_wp2;go_ret2;rw[HS.1,HS.2];exact(R9.from_ b0 h8).told 0
  have d5:=Z3 p5;have HS:Hid (XY j (V2 m) []/\QR j (V2 m)=CX (V2 m)):=by
   refine J6 ⟨?_,?_⟩
   ·unfold XY;rw[D.out,X0 y,J8 (show¬(V2 m).ph=5 from fun x=>p5 (a0.symm.trans x))]
   unfold QR;rw[D.out,X0 y,J8 (show¬(V2 m).ph=5 from fun x=>p5 (a0.symm.trans x))]
  clear y p5;go_wp2_with fail
  refine(Tc a9).mono ?_;rintro ev w7⟨rfl,h6⟩;have h9:=J6 h6;clear h6 a3 u c7;go_wp2;go_ret2;rw[HS.2];exact GS (A5.from_ b0 h9) HS.1
 have e7:=Z3 y
 by_cases p6:ph=6
 ·have d6:=V4 p6
  have HS:Hid (XY j (V2 m) []/\QR j (V2 m)=V2 m):=by
   refine J6 ⟨?_,?_⟩
   ·unfold XY;rw[D.out,J8 y,X0 (show(V2 m).ph=6 from a0.trans p6)]
   unfold QR;rw[D.out,J8 y,X0 (show(V2 m).ph=6 from a0.trans p6)]
  clear y p6;go_wp2;go_ret2;rw[HS.2];exact GS (A5.from_ b0 (LQ a9 Q5)) HS.1
 have d6:=Z3 p6;have q6:¬(V2 m).ph=6:=fun x=>p6 ((show(V2 m).ph=m.ph from rfl).trans a0.out▸x)
 obtain⟨b8,b5⟩:=Xt6 q6 y
 by_cases ab:j=J
 ·have i0:=KN ab
  have d1:=J6 ab;clear y p6 q6 ab;obtain⟨en,f2⟩:=exq m.ends;rw[show(V2 m).ends=m.ends from rfl,f2]at c7;have h7:=J6 f2;clear f2;have e3:Hid (∀c,[Decidable c]->(c↔((V2 m).ph=4/\(V2 m).ends<=(V2 m).now))->(c->XY j (V2 m)=ZN (V2 m)/\QR j (V2 m)=JB (V2 m))/\(¬c->XY j (V2 m) []/\QR j (V2 m)=V2 m)):=by
   refine J6 (fun c _ hc=>⟨fun h=>⟨?_,?_⟩,fun h=>⟨?_,?_⟩⟩)
   ·funext Fs;unfold XY;rw[D.out,J8 b5,J8 b8,J8 (fun x=>x d1),X0 (hc.1 h)]
   ·unfold QR;rw[D.out,J8 b5,J8 b8,J8 (fun x=>x d1),X0 (hc.1 h)]
   ·unfold XY;rw[D.out,J8 b5,J8 b8,J8 (fun x=>x d1),J8 (fun x=>h (hc.2 x))]
   unfold QR;rw[D.out,J8 b5,J8 b8,J8 (fun x=>x d1),J8 (fun x=>h (hc.2 x))]
  have d9:Hid ((ph=4/\en<=nw+1)↔((V2 m).ph=4/\(V2 m).ends<=(V2 m).now)):=J6 (by rw[f9.out,show(V2 m).ph=m.ph from rfl,a0.out,show(V2 m).ends=m.ends from rfl,h7.out])
  by_cases p4:ph=4
  ·have d4:=V4 p4
   by_cases d2:en<=nw+1
   ·have d8:=V7 d2
    have HS:=J6 ((e3 _ d9).1 ⟨p4,d2⟩);clear p4;go_wp2_with fail
    go_quiet (fail)
    go_wp2_with fail
    refine(Qs7 (a9.below (Y5 Q5 _)) HI).mono ?_;rintro ev w6 i3;obtain⟨A,c,Fs,rfl,a7,a6,a5,d0⟩:=i3;have c5:=J6 (show R9 _ w6 e F5 (ZN (V2 m)) (JB (V2 m)) (.returned (.slice A (List.length Fs) c))from⟨A,c,Fs,rfl,a7,a6,a5,d0⟩);clear a7 a6 a5 d0 a3 u c7;go_wp2;go_ret2;rw[HS.1,HS.2];exact(R9.from_ b0 (R9.pre (Y5 Q5 _) c5)).told 0
   have d8:=V9 d2;have HS:=J6 ((e3 _ d9).2 (fun x=>d2 x.2));clear p4;go_wp2_with fail
   go_quiet (fail)
   go_wp2;go_ret2;rw[HS.2];exact GS (A5.from_ b0 (LQ a9 (Y5 Q5 _))) HS.1
  have d4:=Z3 p4;have HS:=J6 ((e3 _ d9).2 (fun x=>p4 x.1));clear p4;go_wp2_with fail
  go_quiet (fail)
  go_wp2;go_ret2;rw[HS.2];exact GS (A5.from_ b0 (LQ a9 (Y5 Q5 _))) HS.1
 have i0:=XQ ab;have HS:Hid (XY j (V2 m)=UY (V2 m) J/\QR j (V2 m)=XM (V2 m) J):=by
  refine J6 ⟨?_,?_⟩
  ·funext Fs;unfold XY;rw[D.out,J8 b5,J8 b8,X0 ab]
  unfold QR;rw[D.out,J8 b5,J8 b8,X0 ab]
 clear y p6 q6 ab;go_wp2_with fail
 refine(Qy5 a9 HI J).mono ?_;rintro ev w6⟨A,c,Fs,rfl,a7,a6,a5,d0⟩;have c5:=J6 (show R9 _ w6 e F5 (UY (V2 m) J) (XM (V2 m) J) (.returned (.slice A (List.length Fs) c))from⟨A,c,Fs,rfl,a7,a6,a5,d0⟩);clear a7 a6 a5 d0 a3 u c7;go_wp2;go_ret2;rw[HS.1,HS.2];exact(R9.from_ b0 c5).told 0
theorem Tk{w e F m}(h:D8 w e F m)(hI:BJ m):Calls prog 101 #[pA e] w fun ev w'=>ev=.returned (Y9 (AW m))/\A5 w w' e F (QK m):=by
 have hE:=h;obtain⟨cs,tb,bb,bk,im,T,tc,Al,lc,lv,bu,se,Ap,pc,es,mc,G,own,i,hF⟩:=h;have a6:=i.cell i.ec.c14;have HE:=J6 hE
 by_cases u:m.ph=6
 ·have d6:=KN u
  obtain⟨⟨C,a2⟩,ha⟩:∃q,phAt m.rows m.now m.rows.length=q:=⟨_,rfl⟩;have a4:=J6 (fun W hW=>Cl i hI.tab m.now W hW ha);obtain⟨SM,a8⟩:=exq (QK m);have y:Hid (AW m=0/\SM=if C=3 then BU m else if C=5 then VB m else {m with ph:=C}):=by refine J6 ⟨by unfold AW;rw[X0 u],?_⟩;rw[<-a8];unfold QK L5;rw[X0 u,ha]
  rw[y.1,a8,DB];clear a8;have c6:=i.cell i.ec.c6;have a7:=i.cell i.ec.c15;have HI:=J6 hI;obtain⟨nw,b1⟩:=exq m.now;rw[b1]at a7 a4;obtain⟨ph,N⟩:=exq m.ph;rw[N]at a6 d6;clear u hE i hF hI N ha b1;go_enter func101,ntmps101
  go_upto_region 3 with fail
  refine VR (fun t=>[].contains t) (fun W=>W.cell? ⟨e,6,none⟩=some (IP (some ⟨tb,0,none⟩))/\W.cell? ⟨e,15,none⟩=some (I O nw)) Q4 ⟨c6,a7⟩ (fun J=>?_);refine tM 0 ?_;refine tM 1 ?_;refine tM 2 ?_;refine tM 3 ?_;refine tM 4 ?_;refine tM 5 ?_;refine tM 6 ?_;refine tM 7 ?_;refine oM 8 fun K9 b0=>?_
  go_simp;refine(a4 w.drew (Z2 Q5)).mono ?_;rintro ev w3⟨rfl,D⟩;refine b0 _ _ (fun _=>⟨U7 J.1 D,U7 J.2 D⟩) ?_;have b8:=And.intro (U7 J.1 D) (U7 J.2 D);clear b0 J;refine tM 9 ?_;refine tM 10 ?_;refine tM 11 ?_;refine tM 12 ?_;refine tM 13 ?_;refine XX Q4 ?_ _;have a0:Bz w w3:=(Z2 (J9 _ w)).trans D;obtain⟨a9,a3⟩:=Xt6 (HE.below a0) a0;have b2:=(HE.below a0).setPh C;have b5:=J6 b2.1;obtain⟨-,x1,x2,-⟩:=b2;clear c6 a6 a7 b8 D a0 a4 HE
  by_cases j:C=3
  ·have e3:=V4 j
   have HS:Hid (SM=BU m):=J6 (y.2.trans (X0 j));clear j;go_wp2_with fail
   refine(Vr a9 (by have:=HI.now;omega) HI.tk).mono ?_;rintro ev w4⟨rfl,Z⟩;have a5:=J6 Z;clear Z x1 x2;go_wp2;go_ret;rw[HS.out];exact⟨rfl,a5.pre a3⟩
  have e3:=Z3 j
  by_cases E:C=5
  ·have e5:=V4 E
   have HS:Hid (SM=VB m):=J6 (y.2.trans ((J8 j).trans (X0 E)));clear j E;go_wp2_with fail
   refine(Mn a9 HI.pk HI.pkn).mono ?_;rintro ev w4⟨rfl,Z⟩;have a5:=J6 Z;clear Z x1 x2;go_wp2;go_ret;rw[HS.out];exact⟨rfl,a5.pre a3⟩
  have e5:=Z3 E;have HS:Hid (SM={m with ph:=C}):=J6 (y.2.trans ((J8 j).trans (J8 E)));clear j E;go_wp2;go_ret;rw[HS.out];exact⟨rfl,b5.pre a3⟩
 have d6:=XQ u;have y:Hid (AW m=6/\QK m=m):=J6 ⟨by unfold AW;rw[J8 u],by unfold QK;rw[J8 u]⟩;rw[y.1,y.2];obtain⟨ph,N⟩:=exq m.ph;rw[N]at a6 d6;clear u hE i hF hI N;go_enter func101,ntmps101
 go_wp2;go_ret;exact⟨rfl,LQ HE Q5⟩
section
variable {m:Z6}
theorem D5.in_(h:D5 m)(i:0<=m.now/\m.now<=1000000000000):BJ m:=
 ⟨⟨h.tab.1,h.tab.2.1⟩,by have:=h.tk;omega,h.la,i,by have:=h.lng;omega,fun o j=>(h.pk o j).1.1,by have:=h.cnt;omega⟩
theorem Js5{ps st dy p tk mo}(h:XR ps st dy p tk mo 0 (-1)):D5 (BA ps st dy p tk mo):=by
 rcases h with⟨-,h⟩|⟨-,-,h,-⟩|⟨-,-,-,h,-⟩|⟨ht,y,N,-,-⟩
 ·exact absurd rfl h
 ·cases h
 ·cases h
 rw[Bool.and_eq_true,Qc,Qc]at y;obtain⟨⟨j,u,C,D⟩,⟨E,J,b3,b4⟩⟩:=y;refine⟨ht,⟨C,D⟩,⟨b3,b4⟩,by show 1<=tk/\tk<=1000000;omega,by show 0<=mo/\mo<=10;omega,⟨j,u⟩,⟨j,u⟩,⟨TJ,by simp[BA],fun o i=>(by cases i),fun o i=>(by cases i),fun o i=>(by cases i)⟩,fun o i=>(by cases i),by simp[BA],⟨by show(0:Int)<=0;omega,by show(0:Int)<=10;omega⟩⟩
end
theorem Ql3{P:Program}{j:Func}{p u:Tmp}{i:TypeId}(h:j.results= #[.tmp u,.cell p i])(tmps:Array Value)(w:World)(g:Nat)(t:TypeId)(cs:Array Value)(v1:Value)(fr:Nat×Nat)(d:TypeDesc)(Z:tmps.getD u undef=v1) (hp:tmps.getD p undef=pA g) (C:w.heap[g]?=some (.cells cs t fr))(J:P.underlying i=some d) (y:(match d with| .struct _| .array _ _=>true|_=>false)=true) (D:(P.info? i).map (·.size)=some cs.size):(results j tmps).run P w=.ok (.tuple #[v1,.agg cs]) w:=by
 have N:tmps[u]?.getD undef=v1:=by simpa using Z
 have E:tmps[p]?.getD undef=pA g:=by simpa using hp
 simp[results,h,N,E,asAddr,run_loadVar_row w g t i cs fr d C J y D,Result.andThen]
theorem El{w a Q g v x y}(u:a.tmps.getD 12 undef=v)(hp:a.tmps.getD 13 undef=pA g)(i:a.defers=[])(j:J7 w g 80 #[x,y]) (h:Q (.returned (.tuple #[v,.agg #[x,y]])) w):bodyPost prog Tryz.f28 Q .ret a w:=
 QA (Ql3 Tryz.results28 a.tmps w g _ #[x,y] v (0,0) _ u hp j underlying80 rfl Q4) i h
theorem Ji1{ps pl}(h:TabIs ps 0 pl):KH ps/\pl= -1:=by
 rcases h with⟨-,h,-⟩|⟨-,h,-⟩|⟨-,-,i,-,-,h1,h2,-⟩|⟨h1,h2,j,-,u⟩
 ·cases h
 ·cases h
 ·exact absurd h2.symm h1
 exact⟨⟨h1,h2,j⟩,u⟩
def Xe6(ps:List (Int×Int))(st dy p tk mo:Int)(T:Option Addr)(w:World)(e:Ending)(w':World):Prop:=
 Bz w w'/\((∃n pl,e=.returned (.tuple #[.pointer none,.agg #[I O n,I O pl]])/\n≠0/\XR ps st dy p tk mo n pl)\/(XR ps st dy p tk mo 0 (-1)/\∃R F,e=.returned (.tuple #[pA R,.agg #[I O 0,I O (-1)]])/\N4 w' R F (BA ps st dy p tk mo)/\∀i,F i->w.heap.size<=i\/X5 T=some i))
theorem Xe7{w w' R ps st dy p tk mo T tc}(hp:JW w T ps.length tc ps)(C:Bz w w')(J:w.heap.size<=R)(u:∀g,X5 T=some g->g<w.heap.size)(y:J7 w' R 95 #[.slice T ps.length tc,I O st,I O dy,I O p,I O p,I O tk,I O mo,.slice none 0 0,.slice none 0 0,.slice none 0 0,I O 1,I O 0,I O 0,I O 0]):N4 w' R (fun i=>i=R\/X5 T=some i) (BA ps st dy p tk mo):=by
 refine⟨_,T,tc,none,none,0,none,0,fun i k=>(i=R/\k=1)\/(X5 T=some i/\k=2),[],⟨⟨rfl,rfl,rfl,rfl,rfl,rfl,rfl,rfl,rfl,rfl,rfl,rfl,rfl,rfl⟩,⟨y,⟨0,rfl,X3 _,U9 _⟩,⟨rfl,fun D=>absurd D Q1⟩,by simp[X5],fun g E=>by simp[X5]at E⟩,hp.keeps (B9 C (fun _=>False)) (fun _ _=>id),QY _ _ _ _,QY _ _ _ _,Qb7,Q3,⟨?_,?_⟩,.inl ⟨rfl,rfl⟩,fun i j=>.inr ⟨j,rfl⟩,fun i j=>by simp[X5]at j,fun i j=>by simp[X5]at j,fun i j=>by simp[X5]at j⟩,fun i=>?_⟩
 ·rintro i k N(⟨a1,a2⟩|⟨a1,a2⟩)(⟨b1,b2⟩|⟨b1,b2⟩)
  ·rw[a2,b2]
  ·have:=u i b1;omega
  ·have:=u i a1;omega
  rw[a2,b2]
 ·rintro i k(⟨a1,a2⟩|⟨a1,a2⟩)
  ·rw[a1];exact Z9 y
  exact D0 (u i a1) C.size
 constructor
 ·rintro(e|e)
  ·exact⟨1,.inl ⟨e,rfl⟩⟩
  exact⟨2,.inr ⟨e,rfl⟩⟩
 rintro⟨k,⟨e,-⟩|⟨e,-⟩⟩
 ·exact .inl e
 exact .inr e
theorem Xe8 T len tc ps st dy p tk mo w(h:JW w T len tc ps)(hm:len<=9223372036854775807)(hTl:∀g,X5 T=some g->g<w.heap.size):Calls prog 28 #[.slice T len tc,I O st,I O dy,I O p,I O tk,I O mo] w (Xe6 ps st dy p tk mo T w):=by
 have hl:=h.1;have hb1:Bz w (w.alloc (.cells #[I O 0,I O 0] 80)):=(J9 _ w).alloc Q2 _;have hX:=Z5 w 80 #[I O 0,I O 0];obtain⟨w1,ew1⟩:=exq (w.alloc (.cells #[I O 0,I O 0] 80));obtain⟨X,eX⟩:=exq w.heap.size;rw[ew1]at hb1 hX;rw[eX]at hX;have hXl:w.heap.size<=X:=CB eX;have hp1:JW w1 T len tc ps:=h.keeps (B9 hb1 (fun _=>False)) (fun _ _=>id);obtain⟨HTb,HX,HB1,HPs,HTl,HL⟩:=Xu0 (Jc0 T len tc ps w1 hp1 hm) hX hb1 h hTl hl;clear h hl hb1 hX hp1 hTl;go_enter func28,ntmps28
 go_upto_region 1 with fail
 try rw[ew1]
 try rw[eX]
 clear ew1 eX;go_wp2_with fail
 refine HTb.mono ?_;rintro e w2⟨hb2,f,pl,rfl,htab⟩;have HTab:=J6 htab;have hbz:Bz w2 (w2.alloc (.cells #[I O f,I O pl] 80)):=(J9 _ w2).alloc Q2 _;have hZ:=Z5 w2 80 #[I O f,I O pl];obtain⟨w3,ew3⟩:=exq (w2.alloc (.cells #[I O f,I O pl] 80));obtain⟨Z,eZ⟩:=exq w2.heap.size;rw[ew3]at hbz hZ;rw[eZ]at hZ;obtain⟨HX3,HB3,HZ⟩:=Xt7 (Z4 HX (hb2.trans (hbz.mono hb2.size))) (HB1.trans ((hb2.trans (hbz.mono hb2.size)).mono HB1.size)) hZ;clear hb2 htab hbz hZ HTb HX HB1;go_upto_region 2 with fail
 try rw[ew3]
 try rw[eZ]
 clear ew3 eZ;obtain⟨z0,z1⟩:w3.cell? ⟨Z,0,none⟩=some (I O f)/\w3.cell? ⟨Z,1,none⟩=some (I O pl):=⟨by rw[X9 HZ.out];rfl,by rw[X9 HZ.out];rfl⟩;obtain⟨x0,x1⟩:w3.cell? ⟨X,0,none⟩=some (I O 0)/\w3.cell? ⟨X,1,none⟩=some (I O 0):=⟨by rw[X9 HX3.out];rfl,by rw[X9 HX3.out];rfl⟩;have f0:=K0 HX3 0;have f1:=K0 HX3 1
 by_cases hf:f=0
 ·have d1:=KN hf
  subst hf;obtain⟨hT,hpl⟩:=Ji1 HTab;have HT:=J6 hT;clear hpl hT;obtain⟨b1,hb1⟩:=exq (JZ p 1);obtain⟨b2,hb2⟩:=exq (decide (0<=st) &&decide (st<=10000));obtain⟨b3,hb3⟩:=exq (decide (0<=dy) &&decide (dy<=10000));obtain⟨b4,hb4⟩:=exq (decide (1<=tk) &&decide (tk<=1000000));obtain⟨b5,hb5⟩:=exq (decide (0<=mo) &&decide (mo<=10));obtain⟨H1,H2,H3,H4,H5⟩:=Xt9 hb1 hb2 hb3 hb4 hb5;clear hb1 hb2 hb3 hb4 hb5;go_upto_region 4 with fail
  clear z0 z1
  go_cut [43] (fun s43 wx=>s43=.bool (!(b1 &&b2 &&b3 &&b4 &&b5))/\wx=w3)
  case first=>
   clear x0 x1 f0 f1
   cases b1 with
   |false=>
    go_wp2_with (first|(go_at_call 71;refine(MU _ _ _).mono ?_;rintro e w'⟨rfl,rfl⟩;rw[H1.out]))
    go_meet;exact⟨rfl,rfl⟩
   |true=>
    cases b2 with
    |false=>
     go_wp2_with (first|(go_at_call 71;refine(MU _ _ _).mono ?_;rintro e w'⟨rfl,rfl⟩;rw[H1.out])|(go_at_call 37;refine(VY _ _ _ _).mono ?_;rintro e w'⟨rfl,rfl⟩;first|rw[H2.out]|rw[H3.out]|rw[H4.out]|rw[H5.out]))
     go_meet;exact⟨rfl,rfl⟩
    |true=>
     cases b3 with
     |false=>
      go_wp2_with (first|(go_at_call 71;refine(MU _ _ _).mono ?_;rintro e w'⟨rfl,rfl⟩;rw[H1.out])|(go_at_call 37;refine(VY _ _ _ _).mono ?_;rintro e w'⟨rfl,rfl⟩;first|rw[H2.out]|rw[H3.out]|rw[H4.out]|rw[H5.out]))
      go_meet;exact⟨rfl,rfl⟩
     |true=>
      cases b4 with
      |false=>
       go_wp2_with (first|(go_at_call 71;refine(MU _ _ _).mono ?_;rintro e w'⟨rfl,rfl⟩;rw[H1.out])|(go_at_call 37;refine(VY _ _ _ _).mono ?_;rintro e w'⟨rfl,rfl⟩;first|rw[H2.out]|rw[H3.out]|rw[H4.out]|rw[H5.out]))
       go_meet;exact⟨rfl,rfl⟩
      |true=>
       go_wp2_with (first|(go_at_call 71;refine(MU _ _ _).mono ?_;rintro e w'⟨rfl,rfl⟩;rw[H1.out])|(go_at_call 37;refine(VY _ _ _ _).mono ?_;rintro e w'⟨rfl,rfl⟩;first|rw[H2.out]|rw[H3.out]|rw[H4.out]|rw[H5.out]))
       go_meet;exact⟨Q3,rfl⟩
  obtain⟨rfl,rfl⟩:=hcut;obtain⟨bb,hbb⟩:=exq (b1 &&b2 &&b3 &&b4 &&b5);rw[hbb];have hB:bb=true↔((QX p st &&QX p dy)=true/\¬(tk<1\/1000000<tk\/mo<0\/10<mo)):=by rw[<-hbb,<-H1.out,<-H2.out,<-H3.out,<-H4.out,<-H5.out];simp[QX,JZ];omega
  have HBb:=J6 hB;clear hB hbb
  cases bb with
  |false=>
   have HC:Hid (XR ps st dy p tk mo 2 (-1)):=J6 (by
    by_cases h1:(QX p st &&QX p dy)=true
    ·refine .inr (.inr (.inl ⟨HT,h1,?_,rfl,rfl⟩))
     by_cases h2:(tk<1\/1000000<tk\/mo<0\/10<mo)
     ·exact h2
     have:=HBb.2 ⟨h1,h2⟩;cases this
    exact .inr (.inl ⟨HT,by simpa using h1,rfl,rfl⟩))
   go_wp2_with fail
   refine(Kb 2 _).mono ?_;rintro e w5⟨rfl,hb5⟩;have hX5:=Z4 HX3 hb5;obtain⟨HX5,HB5⟩:=Xt6 hX5 (HB3.trans (hb5.mono HB3.size));clear x0 x1 f0 f1;obtain⟨x0,x1⟩:w5.cell? ⟨X,0,none⟩=some (I O 0)/\w5.cell? ⟨X,1,none⟩=some (I O 0):=⟨by rw[X9 hX5];rfl,by rw[X9 hX5];rfl⟩;have f0:=K0 hX5 0;have f1:=K0 hX5 1;clear hX5 hb5;go_wp2_with fail
   refine El (g:=X) (v:=.pointer none) (x:=I O 2) (y:=I O (-1)) Q6 Q6 Q6 (Z0 (Z0 HX5 0 _) 1 _) ?_;exact⟨(HB5.setCell hXl _).setCell hXl _,.inl ⟨2,-1,rfl,Q1,HC⟩⟩
  |true=>
   have HC:Hid (XR ps st dy p tk mo 0 (-1)):=J6 (.inr (.inr (.inr ⟨HT,(HBb.1 rfl).1,(HBb.1 rfl).2,rfl,rfl⟩)));go_upto_region 6 with fail
   obtain⟨w3,ew3⟩:=exq wc;rw[ew3]at HX3 HB3 x0 x1 f0 f1|-;clear ew3;have hbR:Bz w3 (w3.alloc (.cells #[.slice T len tc,I O st,I O dy,I O p,I O p,I O tk,I O mo,.slice none 0 0,.slice none 0 0,.slice none 0 0,I O 1,I O 0,I O 0,I O 0] 95)):=(J9 _ w3).alloc Q2 _;have hRb:=Z5 w3 95 #[.slice T len tc,I O st,I O dy,I O p,I O p,I O tk,I O mo,.slice none 0 0,.slice none 0 0,.slice none 0 0,I O 1,I O 0,I O 0,I O 0];obtain⟨w4,ew4⟩:=exq (w3.alloc (.cells #[.slice T len tc,I O st,I O dy,I O p,I O p,I O tk,I O mo,.slice none 0 0,.slice none 0 0,.slice none 0 0,I O 1,I O 0,I O 0,I O 0] 95));obtain⟨R,eR⟩:=exq w3.heap.size;rw[ew4]at hbR hRb;rw[eR]at hRb;have hRl:w.heap.size<=R:=by have:=HB3.size;omega
   have hXR:X≠R:=fun e=>by have:=Z9 HX3;omega
   go_wp2_with fail
   try rw[ew4]
   try rw[eR]
   refine(Kb 0 _).mono ?_;rintro e w5⟨rfl,hb5⟩;have hb35:=hbR.trans (hb5.mono hbR.size);have hX5:=Z4 HX3 hb35;have hR5:=Z4 hRb hb5;obtain⟨HX5,HR5,HB5⟩:=Xt7 hX5 hR5 (HB3.trans (hb35.mono HB3.size));clear x0 x1 f0 f1 ew4 eR;obtain⟨x0,x1⟩:w5.cell? ⟨X,0,none⟩=some (I O 0)/\w5.cell? ⟨X,1,none⟩=some (I O 0):=⟨by rw[X9 hX5];rfl,by rw[X9 hX5];rfl⟩;have f0:=K0 hX5 0;have f1:=K0 hX5 1;clear hX5 hb5 hR5 hbR hRb hb35;go_wp2_with fail
   refine El (g:=X) (v:=IP (some ⟨R,0,none⟩)) (x:=I O 0) (y:=I O (-1)) Q6 Q6 Q6 (Z0 (Z0 HX5 0 _) 1 _) ?_;have hbl:=(HB5.setCell hXl (I O 0) (p:=⟨X,0,none⟩)).setCell hXl (I O (-1)) (p:=⟨X,1,none⟩);refine⟨hbl,.inr ⟨HC,R,_,rfl,Xe7 (T:=T) (tc:=tc) (by have h1:=HPs.out;rw[<-HL.out]at h1;exact h1) hbl hRl HTl ?_,fun i hi=>hi.imp (fun e=>Q0) id⟩⟩;rw[HL.out];exact ZR (ZR HR5 (by show R≠X;omega) _) (by show R≠X;omega) _
 have d1:=XQ hf;have HC:Hid (XR ps st dy p tk mo f pl):=J6 (.inl ⟨HTab,hf⟩);have HNe:=J6 hf;clear hf;go_wp2_with fail
 go_region
 go_wp2_with fail
 refine El (g:=X) (v:=.pointer none) (x:=I O f) (y:=I O pl) Q6 Q6 Q6 (Y6 (Z0 (Z0 HX3 0 _) 1 _)) ?_;exact⟨Z2 ((HB3.setCell hXl _).setCell hXl _),.inl ⟨f,pl,rfl,HNe,HC⟩⟩
section
open Go
abbrev E9:=List UInt8
structure DS where
 rows:List (Int×Int)
 st:Int
 dy:Int
 p:Int
 tk:Int
 mo:Int
 e:Option Z6
def QU:DS:=⟨[],0,0,0,0,0,none⟩
inductive XJ where
 |ok (l:E9)
 |bad (n:Int)
def ZF(s:ByteArray):Option Int:=
 match Lib.atoiAll s.data.toList with
 | .ok v=>if Lib.itoa v=s.data.toList then some v else none
 |_=>none
def VJ:List ByteArray->Option (List Int)
 | []=>some []
 |s::l=>match ZF s with
  |none=>none
  |some v=>(VJ l).map (v:: ·)
def D6(w:List ByteArray)(n:Int):Option (List Int):=if 0<=n/\(w.length:Int)≠n then none else VJ w
def N8(l:List Int):E9:=Lib.join (l.map Lib.itoa) [32]
def YD(name:E9)(F:List C6):E9:=Lib.join (name::F.map fun f=>N8 [f.b,f.s,f.p,f.n]) [44,32]
def MG(l:List X6):E9:=Lib.join (l.map fun o=>N8 [o.id,o.kind,o.price,o.qty]) [44,32]
theorem Yc{l v}(h:Lib.atoiAll l=.ok v):V3 v:=by
 cases l with
 |nil=>cases h
 |cons c r=>
  unfold Lib.atoiAll at h;dsimp only at h
  cases hp:Lib.parseMag (if c.toNat=43\/c.toNat=45 then r else c::r)with
  |range=>rw[hp]at h;cases h
  |ok u=>
   rw[hp]at h;dsimp only at h
   split at h
   ·cases h
   split at h
   ·cases h
   cases h;unfold V3
   split<;>omega
  |_=>rw[hp]at h;cases h
theorem Xe9{s v}(h:ZF s=some v):V3 v:=by
 unfold ZF at h
 split at h
 ·rename_i u i
  split at h
  ·cases h;exact Yc i
  cases h
 cases h
theorem Tl:∀{w:List ByteArray}{l:List Int},VJ w=some l->l.length=w.length/\∀v∈l,V3 v
 | [],l,h=>by cases h;exact⟨rfl,fun v hv=>(by cases hv)⟩
 |s::w,l,h=>by
  unfold VJ at h
  split at h
  ·cases h
  rename_i v hv;obtain⟨l',h1,h2⟩:=Option.map_eq_some_iff.1 h;subst h2;obtain⟨h3,h4⟩:=Tl h1;refine⟨by simp[h3],fun u hu=>?_⟩;obtain e|e:=H8.1 hu
  ·rw[e];exact Xe9 hv
  exact h4 u e
theorem Rb:∀(w:List ByteArray)(s:ByteArray),VJ (w++[s])=match VJ w with
  |none=>none
  |some l=>(ZF s).map fun v=>l++[v]
 | [],s=>by
  show(match ZF s with|none=>none|some v=>(VJ []).map (v:: ·))=_
  cases ZF s<;>rfl
 |t::w,s=>by
  rw[DV];unfold VJ;rw[Rb w s]
  cases ZF t with
  |none=>rfl
  |some v=>
   cases VJ w with
   |none=>rfl
   |some l=>cases ZF s<;>rfl
theorem Js6{w w'}(h:VJ w=none):VJ (w++w')=none:=by
 induction w with
 |nil=>cases h
 |cons t w u=>
  rw[DV];unfold VJ at h|-
  cases i:ZF t with
  |none=>rfl
  |some v=>
   rw[i]at h;have h1:VJ w=none:=by
    cases j:VJ w with
    |none=>rfl
    |some l=>rw[j]at h;cases h
   show Option.map _ (VJ (w++w'))=none;rw[u h1]
   rfl
theorem VV{w n l}(h:D6 w n=some l):l.length=w.length/\(0<=n->(l.length:Int)=n)/\∀v∈l,V3 v:=by
 unfold D6 at h
 split at h
 ·cases h
 rename_i j;obtain⟨h1,h2⟩:=Tl h;refine⟨h1,fun i=>?_,h2⟩;rw[h1];exact Decidable.byContradiction fun u=>j ⟨i,u⟩
def V8(d:DS)(r:Option (List Int))(f:List Int->DS×XJ):DS×XJ:=
 match r with
 |none=>(d,.bad 3)
 |some l=>f l
def D3(d:DS)(f:Z6->DS×XJ):DS×XJ:=
 match d.e with
 |none=>(d,.bad 6)
 |some m=>f m
def YZ(d:DS)(r:DS×XJ):DS×XJ:=
 match d.e with
 |none=>r
 |some _=>(d,.bad 6)
def JQ(n:Int)(s:E9):XJ:=if n=0 then .ok s else .bad n
def JS:List Int->List (Int×Int)
 |a::b::l=>(a,b)::JS l
 |_=>[]
open Classical in
noncomputable def SF (d:DS):Int:=if h:∃n pl,XR d.rows d.st d.dy d.p d.tk d.mo n pl then h.choose else 0
open Classical in
noncomputable def Zp (m:Z6):List C6:=if h:∃F,AZ m F then h.choose else []
theorem Em{m F}(h:AZ m F):Zp m=F:=by have i:∃F,AZ m F:=⟨F,h⟩;unfold Zp;rw[dif_pos i];exact Qs4 i.choose_spec h
theorem Qf9{ps n pl n' pl'}(h:TabIs ps n pl)(D:TabIs ps n' pl'):n=n':=by
 unfold TabIs at h D;rcases h with⟨a,b,-⟩|⟨a,b,-⟩|⟨a,b,i,J,c,d,e,-⟩|⟨a,b,c,d,-⟩<;>rcases D with⟨j,u,-⟩|⟨j,u,-⟩|⟨j,u,C,N,c',y,E,-⟩|⟨j,u,c',y,-⟩<;>try omega
 ·obtain h|h|h:=Nat.lt_trichotomy i C
  ·exact absurd (c' i h) d
  ·rw[e,E,h]
  exact absurd (c C h) y
 ·exact absurd (c' i J) d
 exact absurd (c C N) y
theorem Xf0{ps}(h:KH ps):TabIs ps 0 (-1):=.inr (.inr (.inr ⟨h.1,h.2.1,h.2.2,rfl,rfl⟩))
theorem Xl0{ps st dy p tk mo n pl n' pl'}(h:XR ps st dy p tk mo n pl)(y:XR ps st dy p tk mo n' pl'):n=n':=by
 have T:∀{n pl},TabIs ps n pl->n≠0->¬KH ps:=fun h1 h2 C=>h2 (Qf9 h1 (Xf0 C))
 unfold XR at h y;rcases h with⟨a,b⟩|⟨a,b,c,-⟩|⟨a,b,c,d,-⟩|⟨a,b,c,d,-⟩<;>rcases y with⟨i,j⟩|⟨i,j,c',-⟩|⟨i,j,c',u,-⟩|⟨i,j,c',u,-⟩<;>
  first
  |exact Qf9 a i
  |exact absurd i (T a b)
  |exact absurd a (T i j)
  |exact absurd (b.symm.trans j) Q1
  |exact absurd c c'
  |exact absurd c' c
  |(rw[c,c'])
  |(rw[c,u])
  |(rw[d,c'])
  |(rw[d,u])
theorem Qq{d n pl}(h:XR d.rows d.st d.dy d.p d.tk d.mo n pl):SF d=n:=by have i:∃n pl,XR d.rows d.st d.dy d.p d.tk d.mo n pl:=⟨n,pl,h⟩;unfold SF;rw[dif_pos i];obtain⟨u,j⟩:=i.choose_spec;exact Xl0 j h
def YE(p:Int):E9:=([[],[112,114,101,111,112,101,110],[111,112,101,110,105,110,103],[116,114,97,100,105,110,103],[118,111,108,97,116,105,108,105,116,121],[99,108,111,115,105,110,103],[104,97,108,116],[101,110,100,101,100]]:List E9).getD p.toNat []
def AN(d:DS)(w:List ByteArray):DS×XJ:=V8 d (D6 w (-1)) fun l=>if l.length % 2=0 then YZ d ({d with rows:=JS l},.ok [116,97,98,108,101])else(d,.bad 3)
def EW(d:DS)(w:List ByteArray):DS×XJ:=V8 d (D6 w 3) fun l=>YZ d ({d with st:=l.getD 0 0,dy:=l.getD 1 0,p:=l.getD 2 0},.ok [98,97,110,100,115])
def EN(d:DS)(w:List ByteArray):DS×XJ:=V8 d (D6 w 2) fun l=>YZ d ({d with tk:=l.getD 0 0,mo:=l.getD 1 0},.ok [97,117,99,116,105,111,110])
noncomputable def FQ (d:DS) (w:List ByteArray):DS×XJ:=V8 d (D6 w 0) fun l=>YZ d (if SF d=0 then {d with e:=some (BA d.rows d.st d.dy d.p d.tk d.mo)}else d,JQ (SF d) [115,116,97,114,116])
def ZQ(s:Int)(l:List Int):X6:=⟨l.getD 0 0,s,l.getD 1 0,l.getD 2 0,l.getD 3 0⟩
def VE(s:Int)(d:DS)(w:List ByteArray):DS×XJ:=V8 d (D6 w 4) fun l=>D3 d fun m=>({d with e:=some (M8 m (ZQ s l))},JQ (P3 m (ZQ s l)) (YD [116,97,107,101,110] (ZT m (ZQ s l))))
def CF(d:DS)(w:List ByteArray):DS×XJ:=V8 d (D6 w 1) fun l=>D3 d fun m=>({d with e:=some (N3 m (l.getD 0 0))},JQ (ZP m (l.getD 0 0)) [99,97,110,99,101,108])
noncomputable def CN (d:DS) (w:List ByteArray):DS×XJ:=V8 d (D6 w 0) fun l=>D3 d fun m=>({d with e:=some (G9 m)},JQ (AT m) (YD (Lib.itoa (G9 m).now) (Zp m)))
def DW(d:DS)(w:List ByteArray):DS×XJ:=V8 d (D6 w 0) fun l=>D3 d fun m=>({d with e:=some (JN m)},JQ (UE m) [104,97,108,116])
def EJ(d:DS)(w:List ByteArray):DS×XJ:=V8 d (D6 w 0) fun l=>D3 d fun m=>({d with e:=some (QK m)},JQ (AW m) [111,112,101,110])
def FJ(d:DS)(w:List ByteArray):DS×XJ:=V8 d (D6 w 0) fun l=>D3 d fun m=>(d,.ok (YE m.ph))
def FX(d:DS)(w:List ByteArray):DS×XJ:=V8 d (D6 w 0) fun l=>D3 d fun m=>(d,.ok (N8 [(AX m).1,(AX m).2.1,(AX m).2.2]))
def FE(d:DS)(w:List ByteArray):DS×XJ:=V8 d (D6 w 0) fun l=>D3 d fun m=>(d,.ok (N8 [m.an,m.la]))
def PH(n:Int):Int:=if n=1\/n=2 then 0 else 1
def CP(d:DS)(w:List ByteArray):DS×XJ:=V8 d (D6 w 1) fun l=>D3 d fun m=>(d,JQ (PH (l.getD 0 0)) (MG (V1 (l.getD 0 0) m.L1 m.L2)))
def ES(d:DS)(w:List ByteArray):DS×XJ:=V8 d (D6 w 0) fun l=>D3 d fun m=>(d,.ok (MG m.pk))
def GA(d:DS)(w:List ByteArray):DS×XJ:=V8 d (D6 w 2) fun l=>(d,JQ (KM (l.getD 0 0) (l.getD 1 0)) (N8 [XV (l.getD 0 0) (l.getD 1 0),XU (l.getD 0 0) (l.getD 1 0)]))
def PD(d:DS)(w:List ByteArray):DS×XJ:=V8 d (D6 w 0) fun l=>(QU,.ok [99,108,101,97,114])
def En:E9:=[97,117,99,116,105,111,110,32,98,97,110,100,32,98,97,110,100,115,32,98,117,121,32,99,97,110,99,101,108,32,99,108,101,97,114,32,104,97,108,116,32,104,101,108,112,32,111,112,101,110,32,111,114,100,101,114,115,32,112,97,114,107,101,100,32,112,104,97,115,101,32,113,117,111,116,101,32,114,101,102,115,32,115,101,108,108,32,115,116,97,114,116,32,116,97,98,108,101,32,116,105,99,107]
def VX(d:DS)(w:List ByteArray):DS×XJ:=V8 d (D6 w 0) fun l=>(d,.ok En)
def QP:List E9:=[[97,117,99,116,105,111,110],[98,97,110,100],[98,97,110,100,115],[98,117,121],[99,97,110,99,101,108],[99,108,101,97,114],[104,97,108,116],[104,101,108,112],[111,112,101,110],[111,114,100,101,114,115],[112,97,114,107,101,100],[112,104,97,115,101],[113,117,111,116,101],[114,101,102,115],[115,101,108,108],[115,116,97,114,116],[116,97,98,108,101],[116,105,99,107]]
noncomputable def CR:List (DS->List ByteArray->DS×XJ):=[EN,GA,EW,VE 1,CF,PD,DW,VX,EJ,CP,ES,FJ,FX,FE,VE 2,FQ,AN,CN]
def H6(c:ByteArray):Nat:=QP.idxOf c.data.toList
def BB(n:Int):E9:=[101,114,114,111,114,32]++Lib.itoa n
def Zu:XJ->E9
 | .ok l=>l
 | .bad n=>BB n
noncomputable def Zh (d:DS):List ByteArray->DS×E9
 | []=>(d,[111,107])
 |c::w=>if H6 c<18 then(((CR.getD (H6 c) VX) d w).1,Zu ((CR.getD (H6 c) VX) d w).2)else(d,BB 3)
def ZW(x:Nat):Bool:=x ==32
noncomputable def XS (d:DS) (s:ByteArray):DS×E9:=Zh d (Lib.goFieldsP ZW s)
noncomputable def BN:DS->List E9->E9
 |_,[]=>[]
 |d,s::l=>(XS d ⟨s.toArray⟩).2++[10]++BN (XS d ⟨s.toArray⟩).1 l
noncomputable def JL:DS->List E9->DS
 |d,[]=>d
 |d,s::l=>JL (XS d ⟨s.toArray⟩).1 l
theorem Ho:∀(d:DS)(l l':List E9),BN d (l++l')=BN d l++BN (JL d l) l'
 |_,[],_=>rfl
 |d,s::l,l'=>by rw[DV,BN,BN,Ho,JL];simp only[List.append_assoc]
theorem Mv:∀(d:DS)(l:List E9)(s:E9),JL d (l++[s])=(XS (JL d l) ⟨s.toArray⟩).1
 |_,[],_=>rfl
 |d,t::l,s=>by rw[DV,JL,Mv,JL]
def E6:E9->List E9
 | []=>[[]]
 |c::l=>if c ==10 then []::E6 l else match E6 l with
  | []=>[[c]]
  |h::t=>(c::h)::t
theorem Ur:∀l:E9,E6 l≠[]
 | []=>by simp[E6]
 |c::l=>by
  unfold E6
  split
  ·simp
  split<;>simp
theorem Hu:∀(a b:E9),E6 (a++10::b)=E6 a++E6 b
 | [],b=>by simp[E6]
 |c::a,b=>by
  rw[DV,E6,Hu a b]
  conv=>rhs;rw[E6]
  split
  ·rfl
  cases h:E6 a with
  |nil=>exact absurd h (Ur a)
  |cons x t=>rfl
theorem Qy6{l}(h:∀c∈l,c≠10):E6 l=[l]:=by
 induction l with
 |nil=>rfl
 |cons c l j=>
  rw[E6,j (fun x i=>h x (VS _ i)),J8 (by simpa using h c FR)]
noncomputable def Ql (t:E9):E9:=if 20000<t.length then [101,114,114,111,114,32,52,10]else BN QU (E6 (Lib.trimSuffix t [10]))
theorem Js7(s:E9)(x:UInt8):Lib.trimSuffix (s++[x]) [10]=if x=10 then s else s++[x]:=by
 unfold Lib.trimSuffix Lib.hasSuffix
 by_cases h:x=10
 ·subst h
  rw[X0 rfl,X0 (by simp[List.isSuffixOf])];simp
 rw[J8 h,J8 (by simp[List.isSuffixOf];exact fun e=>h e.symm)]
def Zi:List Nat:=[47,48,49,50,51,52,53,54,55,56,57,58,59,60,61,62,63,64]
def NC(d i:Nat):Value:=if i<18 then .func (.func (Zi.getD i 0)) #[IP (some ⟨d,0,none⟩)] #[]else .nilFunc
def SA(f:Nat->Value):List E9->Nat->List MapEntry
 | [],_=>[]
 |n::ns,j=>⟨.string ⟨n.toArray⟩,f j,j⟩::SA f ns (j+1)
theorem Cm(f:Nat->Value)(c:ByteArray):∀(ns:List E9)(i j:Nat),Instr.findNow .string (.string c) (SA f ns j) i=some (if ns.idxOf c.data.toList<ns.length then some (i+ns.idxOf c.data.toList,f (j+ns.idxOf c.data.toList))else none)
 | [],i,j=>rfl
 |n::ns,i,j=>by
  unfold SA Instr.findNow Instr.sameNow
  by_cases h:c.data.toList=n
  ·have hb:(c == (⟨n.toArray⟩:ByteArray))=true:=by
    show(c.data ==n.toArray)=true;rw[beq_iff_eq,<-h]
   simp only[hb];rw[show(n::ns).idxOf c.data.toList=0 by rw[h];exact List.idxOf_cons_self];simp
  have hb:(c == (⟨n.toArray⟩:ByteArray))=false:=by show(c.data ==n.toArray)=false;exact Xa.2 fun e=>h (by rw[e])
  simp only[hb];rw[Cm f c ns (i+1) (j+1),show(n::ns).idxOf c.data.toList=ns.idxOf c.data.toList+1 by rw[List.idxOf_cons];simp[show(n ==c.data.toList)=false from beq_eq_false_iff_ne.2 fun e=>h e.symm]];have e1:i+1+ns.idxOf c.data.toList=i+(ns.idxOf c.data.toList+1):=Q0;have e2:j+1+ns.idxOf c.data.toList=j+(ns.idxOf c.data.toList+1):=Q0;simp only[List.length_cons,Nat.succ_lt_succ_iff,e1,e2]
theorem Xl1 w:(zeroValue 67).run prog w=.ok .nilFunc w:=Q4
theorem Ji2{w r n d}(h:M6 w r (SA (NC d) QP 0) n)c:(Instr.lookup 114 (.map (some r)) (.string c) false).run prog w=.ok (NC d (H6 c)) w:=by
 have i:=Cm (NC d) c QP 0 0;rw[Xt underlying114 underlying9 UK h (.string c) (Xl1 w) false _ i];rw[KC];have j:QP.length=18:=rfl;rw[j];show Result.ok ((Option.map (·.2) (if H6 c<18 then some (H6 c,NC d (H6 c))else none)).getD .nilFunc) w=_
 split
 ·rfl
 rename_i h;show Result.ok Value.nilFunc w=_;unfold NC;rw[J8 h]
theorem Xf1 d c w:Calls prog 22 #[pA d,.string c] w fun e w'=>e=.returned (NC d (H6 c))/\Bz w w':=by
 have b1:= @run_makeMap prog;have b0:∀i first cap w,(Instr.makeFunc i first cap).run prog w=.ok (.func i first cap) w:=fun _ _ _ _=>rfl
 go_enter func22,ntmps22
 go_wp2_with (first
  |((with_reducible (refine ZH (o:=⟨none,.insert 114 (.tmp 5) (.const (.string ⟨#[97,117,99,116,105,111,110]⟩)) (.tmp 7),_,_,_,_⟩) _ rfl (.tmp 5) (.const (.string ⟨#[97,117,99,116,105,111,110]⟩)) (.tmp 7) 114 rfl underlying114 underlying9 UK w.heap.size 0 [] (.string ⟨#[97,117,99,116,105,111,110]⟩) (.func (.func 47) #[IP (some ⟨d,0,none⟩)] #[]) Q6 Q6 Q6 (M6.made w) Q6 ?_));intro w1 h1 t1)
  |((with_reducible (refine ZH (o:=⟨none,.insert 114 (.tmp 5) (.const (.string ⟨#[98,97,110,100]⟩)) (.tmp 9),_,_,_,_⟩) _ rfl (.tmp 5) (.const (.string ⟨#[98,97,110,100]⟩)) (.tmp 9) 114 rfl underlying114 underlying9 UK w.heap.size 1 _ (.string ⟨#[98,97,110,100]⟩) (.func (.func 48) #[IP (some ⟨d,0,none⟩)] #[]) Q6 Q6 Q6 h1 Q6 ?_));intro w2 h2 t2)
  |((with_reducible (refine ZH (o:=⟨none,.insert 114 (.tmp 5) (.const (.string ⟨#[98,97,110,100,115]⟩)) (.tmp 11),_,_,_,_⟩) _ rfl (.tmp 5) (.const (.string ⟨#[98,97,110,100,115]⟩)) (.tmp 11) 114 rfl underlying114 underlying9 UK w.heap.size 2 _ (.string ⟨#[98,97,110,100,115]⟩) (.func (.func 49) #[IP (some ⟨d,0,none⟩)] #[]) Q6 Q6 Q6 h2 Q6 ?_));intro w3 h3 t3)
  |((with_reducible (refine ZH (o:=⟨none,.insert 114 (.tmp 5) (.const (.string ⟨#[98,117,121]⟩)) (.tmp 13),_,_,_,_⟩) _ rfl (.tmp 5) (.const (.string ⟨#[98,117,121]⟩)) (.tmp 13) 114 rfl underlying114 underlying9 UK w.heap.size 3 _ (.string ⟨#[98,117,121]⟩) (.func (.func 50) #[IP (some ⟨d,0,none⟩)] #[]) Q6 Q6 Q6 h3 Q6 ?_));intro w4 h4 t4)
  |((with_reducible (refine ZH (o:=⟨none,.insert 114 (.tmp 5) (.const (.string ⟨#[99,97,110,99,101,108]⟩)) (.tmp 15),_,_,_,_⟩) _ rfl (.tmp 5) (.const (.string ⟨#[99,97,110,99,101,108]⟩)) (.tmp 15) 114 rfl underlying114 underlying9 UK w.heap.size 4 _ (.string ⟨#[99,97,110,99,101,108]⟩) (.func (.func 51) #[IP (some ⟨d,0,none⟩)] #[]) Q6 Q6 Q6 h4 Q6 ?_));intro w5 h5 t5)
  |((with_reducible (refine ZH (o:=⟨none,.insert 114 (.tmp 5) (.const (.string ⟨#[99,108,101,97,114]⟩)) (.tmp 17),_,_,_,_⟩) _ rfl (.tmp 5) (.const (.string ⟨#[99,108,101,97,114]⟩)) (.tmp 17) 114 rfl underlying114 underlying9 UK w.heap.size 5 _ (.string ⟨#[99,108,101,97,114]⟩) (.func (.func 52) #[IP (some ⟨d,0,none⟩)] #[]) Q6 Q6 Q6 h5 Q6 ?_));intro w6 h6 t6)
  |((with_reducible (refine ZH (o:=⟨none,.insert 114 (.tmp 5) (.const (.string ⟨#[104,97,108,116]⟩)) (.tmp 19),_,_,_,_⟩) _ rfl (.tmp 5) (.const (.string ⟨#[104,97,108,116]⟩)) (.tmp 19) 114 rfl underlying114 underlying9 UK w.heap.size 6 _ (.string ⟨#[104,97,108,116]⟩) (.func (.func 53) #[IP (some ⟨d,0,none⟩)] #[]) Q6 Q6 Q6 h6 Q6 ?_));intro w7 h7 t7)
  |((with_reducible (refine ZH (o:=⟨none,.insert 114 (.tmp 5) (.const (.string ⟨#[104,101,108,112]⟩)) (.tmp 21),_,_,_,_⟩) _ rfl (.tmp 5) (.const (.string ⟨#[104,101,108,112]⟩)) (.tmp 21) 114 rfl underlying114 underlying9 UK w.heap.size 7 _ (.string ⟨#[104,101,108,112]⟩) (.func (.func 54) #[IP (some ⟨d,0,none⟩)] #[]) Q6 Q6 Q6 h7 Q6 ?_));intro w8 h8 t8)
  |((with_reducible (refine ZH (o:=⟨none,.insert 114 (.tmp 5) (.const (.string ⟨#[111,112,101,110]⟩)) (.tmp 23),_,_,_,_⟩) _ rfl (.tmp 5) (.const (.string ⟨#[111,112,101,110]⟩)) (.tmp 23) 114 rfl underlying114 underlying9 UK w.heap.size 8 _ (.string ⟨#[111,112,101,110]⟩) (.func (.func 55) #[IP (some ⟨d,0,none⟩)] #[]) Q6 Q6 Q6 h8 Q6 ?_));intro w9 h9 t9)
  |((with_reducible (refine ZH (o:=⟨none,.insert 114 (.tmp 5) (.const (.string ⟨#[111,114,100,101,114,115]⟩)) (.tmp 25),_,_,_,_⟩) _ rfl (.tmp 5) (.const (.string ⟨#[111,114,100,101,114,115]⟩)) (.tmp 25) 114 rfl underlying114 underlying9 UK w.heap.size 9 _ (.string ⟨#[111,114,100,101,114,115]⟩) (.func (.func 56) #[IP (some ⟨d,0,none⟩)] #[]) Q6 Q6 Q6 h9 Q6 ?_));intro b2 j a0)
  |((with_reducible (refine ZH (o:=⟨none,.insert 114 (.tmp 5) (.const (.string ⟨#[112,97,114,107,101,100]⟩)) (.tmp 27),_,_,_,_⟩) _ rfl (.tmp 5) (.const (.string ⟨#[112,97,114,107,101,100]⟩)) (.tmp 27) 114 rfl underlying114 underlying9 UK w.heap.size 10 _ (.string ⟨#[112,97,114,107,101,100]⟩) (.func (.func 57) #[IP (some ⟨d,0,none⟩)] #[]) Q6 Q6 Q6 j Q6 ?_));intro b5 u a1)
  |((with_reducible (refine ZH (o:=⟨none,.insert 114 (.tmp 5) (.const (.string ⟨#[112,104,97,115,101]⟩)) (.tmp 29),_,_,_,_⟩) _ rfl (.tmp 5) (.const (.string ⟨#[112,104,97,115,101]⟩)) (.tmp 29) 114 rfl underlying114 underlying9 UK w.heap.size 11 _ (.string ⟨#[112,104,97,115,101]⟩) (.func (.func 58) #[IP (some ⟨d,0,none⟩)] #[]) Q6 Q6 Q6 u Q6 ?_));intro b8 y a2)
  |((with_reducible (refine ZH (o:=⟨none,.insert 114 (.tmp 5) (.const (.string ⟨#[113,117,111,116,101]⟩)) (.tmp 31),_,_,_,_⟩) _ rfl (.tmp 5) (.const (.string ⟨#[113,117,111,116,101]⟩)) (.tmp 31) 114 rfl underlying114 underlying9 UK w.heap.size 12 _ (.string ⟨#[113,117,111,116,101]⟩) (.func (.func 59) #[IP (some ⟨d,0,none⟩)] #[]) Q6 Q6 Q6 y Q6 ?_));intro b9 C a3)
  |((with_reducible (refine ZH (o:=⟨none,.insert 114 (.tmp 5) (.const (.string ⟨#[114,101,102,115]⟩)) (.tmp 33),_,_,_,_⟩) _ rfl (.tmp 5) (.const (.string ⟨#[114,101,102,115]⟩)) (.tmp 33) 114 rfl underlying114 underlying9 UK w.heap.size 13 _ (.string ⟨#[114,101,102,115]⟩) (.func (.func 60) #[IP (some ⟨d,0,none⟩)] #[]) Q6 Q6 Q6 C Q6 ?_));intro c5 D a4)
  |((with_reducible (refine ZH (o:=⟨none,.insert 114 (.tmp 5) (.const (.string ⟨#[115,101,108,108]⟩)) (.tmp 35),_,_,_,_⟩) _ rfl (.tmp 5) (.const (.string ⟨#[115,101,108,108]⟩)) (.tmp 35) 114 rfl underlying114 underlying9 UK w.heap.size 14 _ (.string ⟨#[115,101,108,108]⟩) (.func (.func 61) #[IP (some ⟨d,0,none⟩)] #[]) Q6 Q6 Q6 D Q6 ?_));intro c6 E a5)
  |((with_reducible (refine ZH (o:=⟨none,.insert 114 (.tmp 5) (.const (.string ⟨#[115,116,97,114,116]⟩)) (.tmp 37),_,_,_,_⟩) _ rfl (.tmp 5) (.const (.string ⟨#[115,116,97,114,116]⟩)) (.tmp 37) 114 rfl underlying114 underlying9 UK w.heap.size 15 _ (.string ⟨#[115,116,97,114,116]⟩) (.func (.func 62) #[IP (some ⟨d,0,none⟩)] #[]) Q6 Q6 Q6 E Q6 ?_));intro c7 J a6)
  |((with_reducible (refine ZH (o:=⟨none,.insert 114 (.tmp 5) (.const (.string ⟨#[116,97,98,108,101]⟩)) (.tmp 39),_,_,_,_⟩) _ rfl (.tmp 5) (.const (.string ⟨#[116,97,98,108,101]⟩)) (.tmp 39) 114 rfl underlying114 underlying9 UK w.heap.size 16 _ (.string ⟨#[116,97,98,108,101]⟩) (.func (.func 63) #[IP (some ⟨d,0,none⟩)] #[]) Q6 Q6 Q6 J Q6 ?_));intro c8 N a7)
  |((with_reducible (refine ZH (o:=⟨none,.insert 114 (.tmp 5) (.const (.string ⟨#[116,105,99,107]⟩)) (.tmp 41),_,_,_,_⟩) _ rfl (.tmp 5) (.const (.string ⟨#[116,105,99,107]⟩)) (.tmp 41) 114 rfl underlying114 underlying9 UK w.heap.size 17 _ (.string ⟨#[116,105,99,107]⟩) (.func (.func 64) #[IP (some ⟨d,0,none⟩)] #[]) Q6 Q6 Q6 N Q6 ?_));intro c9 Z a8;have a9:=Ji2 Z c))
 go_ret;exact⟨rfl,((((((((((((((((((((J9 _ w).alloc Q2 _).trans (t1.below Q2)).trans (t2.below Q2)).trans (t3.below Q2)).trans (t4.below Q2)).trans (t5.below Q2)).trans (t6.below Q2)).trans (t7.below Q2)).trans (t8.below Q2)).trans (t9.below Q2)).trans (a0.below Q2)).trans (a1.below Q2)).trans (a2.below Q2)).trans (a3.below Q2)).trans (a4.below Q2)).trans (a5.below Q2)).trans (a6.below Q2)).trans (a7.below Q2)).trans (a8.below Q2))⟩
