/- Parts. -/
import Derived.Test.YtfoikonjjojkaaaGreatDoorZt12
set_option linter.unusedVariables false
set_option maxRecDepth 100000
set_option maxHeartbeats 8000000
open Go.Proofs.Tryz
open Go.Value renaming int→I,pointer→IP
open Go.IntKind renaming i64→O
namespace Go.Proofs.YtfoikonjjojkaaaGreatDoor
open Go.RowKit
attribute [local go_sem] Oper.semAt_some
theorem Qr5{β B J}(h:AbidesFrom B J){s:β}{W W'}(j:J s W)(i:Bz W W'):J s W':=
 h s W W' none j ⟨i.os,i.tape,i.output,i.size,fun k hk _=>i.block k hk⟩ (fun r e=>by cases e)
theorem Y0.under{w w' b a n r B F M f H reg}(h:Y0 w b a F M n r f H reg)(j:Below B w w')(u:∀i,Y1 b r F H i->i<B):Y0 w' b a F M n r f H reg:=by have hk:X4 (fun i=>B<=i) w w':=⟨j.os,j.tape,j.output,j.size,fun k _ C=>j.block k Q0⟩;exact h.keeps hk (fun i y e=>by have:=u i y;omega)
theorem Xq7{M n f H s}(j:V5 s)(i:B5 M n f H)(h2:n<=100):(H s).ms.length<=1000:=by have h1:=i.cnt;unfold E8 HS.all N6 at h1;simp only[List.length_append]at h1;obtain rfl|rfl:=j<;>omega
theorem BW{w g t a b c d e}(h:J7 w g t #[a,b,c,d,e]):w.cell? (aD g 0)=some a/\w.cell? (aD g 1)=some b/\w.cell? (aD g 2)=some c/\w.cell? (aD g 3)=some d/\w.cell? (aD g 4)=some e:=
 ⟨by rw[X9 h];rfl,by rw[X9 h];rfl,by rw[X9 h];rfl,by rw[X9 h];rfl,by rw[X9 h];rfl⟩
def Got(w wx:World)(o:X6)(s7:Value):Prop:=∃ob,s7=pA ob/\Bz w wx/\J7 wx ob 84 (Z8 o)
def Xs7(W0:World)(a:Nat)(h1 h2:Int)(o:X6):Prop:=
 ∀W,Bz W0 W->Calls prog 202 #[pA a,.agg #[I O h1,I O h2]] W fun e w'=>
  e=.returned (.tuple #[.agg #[I O o.id,I O o.side,I O o.kind,I O o.price,I O o.qty],.nilIface])/\Bz W w'
theorem Ex{w b a n r F M f H reg h1 h2 o}(i:Y0 w b a F M n r f H reg)(j:M h1 h2=some o):Xs7 w a h1 h2 o:=by intro W u;refine(Xi4 (i.ar.below u) h1 h2).mono ?_;rintro e w'⟨rfl,y⟩;exact⟨by unfold Jj Jk;rw[j];rfl,y⟩
theorem Ey w g a b c d e:X4 (fun i=>i=g) w (((((w.setCell (aD g 0) a).setCell (aD g 1) b).setCell (aD g 2) c).setCell (aD g 3) d).setCell (aD g 4) e):=
 ((((U1 w ⟨g,0,none⟩ a).trans (U1 _ ⟨g,1,none⟩ b) (fun i h=>.inl h)).trans (U1 _ ⟨g,2,none⟩ c) (fun i h=>.inl h)).trans (U1 _ ⟨g,3,none⟩ d) (fun i h=>.inl h)).trans (U1 _ ⟨g,4,none⟩ e) (fun i h=>.inl h)
section
variable {M:Int->Int->Option X6} {n:Nat} {f:Int->Option Value} {H:Int->HS} {s:Int} {q:QG} {h:HS}
theorem Xq8(u:V5 s)(j:B5 M n f H)(h2:n<=100):(H s).qs.length<=100000:=by
 have h1:=j.cnt;have E:(H s).qs.length<=(C9 (H s).qs).length:=by
  have i:=j.ne s u;generalize(H s).qs=l at i
  induction l with
  |nil=>simp
  |cons q l y=>
   have y:=y (fun q C=>i q (by simp[C]));have D:0<q.os.length:=RZ.2 (i q Q3);have e:C9 (q::l)=q.os++C9 l:=rfl;rw[e,B6,JA];omega
 unfold E8 HS.all N6 at h1;simp only[List.length_append]at h1;obtain rfl|rfl:=u<;>omega
theorem Xq9(j:V5 s)(i:B5 M n f H)(h2:n<=100){k}(hk:k<(H s).qs.length):(H s).qs[k].os.length<=1000:=by
 have h1:=i.cnt;have u:(H s).qs[k].os.length<=(C9 (H s).qs).length:=by rw[NT _ hk];simp only[List.length_append];omega
 unfold E8 HS.all N6 at h1;simp only[List.length_append]at h1;obtain rfl|rfl:=j<;>omega
theorem Jo9{qs:List QG}{j}(i:j<qs.length)(u:qs[j]=q):C9 (qs.take (j+1))=C9 (qs.take j)++q.os:=by rw[M9 i,u];unfold C9;rw[Vf];simp
theorem Xj3(h:HS)k:E7 (h.ms.take k) <+: h.L:=by refine⟨E7 (h.ms.drop k++C9 h.qs),?_⟩;unfold HS.L HS.all N6;rw[<-NP,<-VW,P9]
theorem Xj4{j}(u:j<h.qs.length)(y:h.qs[j]=q)i:E7 (h.ms++(C9 (h.qs.take j)++q.os.take i)) <+: h.L:=by
 refine⟨E7 (q.os.drop i++C9 (h.qs.drop (j+1))),?_⟩;unfold HS.L HS.all N6;rw[<-NP,NT h.qs u,y]
 congr 1
 simp only[List.append_assoc];rw[<-VW (q.os.take i),P9]
theorem Xa5{j i}(u:j<h.qs.length)(y:h.qs[j]=q)(C:i<q.os.length):(E7 (h.ms++(C9 (h.qs.take j)++q.os.take i))).length<h.L.length:=by unfold HS.L HS.all N6;rw[NT h.qs u,y];unfold E7;simp only[List.length_map,List.length_append,List.length_take];omega
end
attribute [local go_sem] Oper.semAt_some
theorem Xj5 n(hn:2<=n)s(hs:V5 s)l B1 B2 b a r S F M N f H reg(hS:B5 M N f H)(hN:N<=100)(J Jx:List X6->World->Prop)(hJ:∀pre W W',J pre W->Bz W W'->J pre W')(hY:∀pre x W,J pre W->pre.length<(H s).L.length->YieldAt Fence.wide (n-1) prog l #[V6 x] W fun e W'=>(e=.returned (.bool true)/\J (pre++[x]) W'/\X4 S W W')\/(e=.returned (.bool false)/\Jx (pre++[x]) W')) W (hM:Y0 W b a F M N r f H reg) (e6:∀i,Y1 b r F H i->¬S i) (f7:¬S B1) (d5:W.cell? (aD B1 0)=some (pA b)) (i1:W.cell? (aD B2 0)=some (I O s)) (h0:J [] W):CallsIn Fence.wide n prog 237 #[.func (.yield l) #[] #[],pA B1,pA B2] W fun e W'=>(∃v,e=.returned v)/\((∃ys,ys=(H s).L/\J ys W')\/(∃pre,pre <+: (H s).L/\Jx pre W')):=by
 have e5:=U5 W _ d5;obtain⟨HM,a6,HJ,HY,H0,b5,HN⟩:=Xu1 hM hS hJ hY h0 e6 hN;clear hM hS hJ hY h0 e6 hN;refine callsIn_of_wp func237 rfl trivial ?_ rfl;simp only[ntmps237,List.size_toArray,List.length_cons,List.length_nil,Nat.reduceAdd,Nat.reduceSub,Array.replicate_succ,Array.replicate_zero,List.push_toArray,List.append_toArray,List.nil_append,List.cons_append];obtain⟨kk,e8⟩:=exq (XB s);have c8:=J6 e8;clear e8
 gi_upto_region 0 with fail
 gi_cut [4]from 83 (fun s4 wx=>s4=IP (some ⟨b,kk,none⟩)/\Bz W wx)
 case first=>
  obtain rfl|rfl:=hs
  all_goals
   gi_quiet (fail)
   gi_wp2
   gi_meet
   exact⟨by rw[<-c8.out];rfl,Y5 Q5 _⟩
 case rest=>
 obtain⟨rfl,hq⟩:=hcut;have HQ:=J6 hq;have y2:=((HM.below hq).cellM hs).1;rw[c8.out]at y2;clear hq;obtain⟨m,hm⟩:=exq ((H s).ms.length);have Hm:=J6 hm;have i9:m<=1000:=by rw[<-hm];exact Xq7 hs a6 HN
 rw[hm]at y2;clear hm
 gi_wp2
 clear y2
 gi_loopg [26] m (fun gg h6 wr=>∃k,k<=m/\m-k<=gg/\h6=I O k/\J (E7 ((H s).ms.take k)) wr/\X4 S W wr)
 case atStart=>exact⟨0,U9 _,X3 _,rfl,HJ _ _ _ H0 HQ,B9 HQ S⟩
 obtain⟨k,hk,g7,rfl,E,y⟩:=hrel
 by_cases i8:k<m
 ·have a5:k<(H s).ms.length:=by have:=Hm.out;omega
  have C:=HM.keeps y b5;have a0:=(C.hx s hs).rm;obtain⟨g,hg,-⟩:=a0.elem NN Q0 (i:=k) (by simpa [N9]using a5);rw[hg]at a0;obtain⟨x0,x1⟩:=Yi a0 (i:=k) (by simpa [N9]using a5);obtain⟨x,hx⟩:=exq ((H s).ms[k]'a5);have ex:(N9 (H s).ms)[k]'(by simpa [N9]using a5)=x.1:=by rw[<-hx];simp[N9]
  rw[ex]at x0 x1;have b2:x∈E8 H:=BM hs (T9 _ (by rw[<-hx];exact C7 _));have a2:=J6 (show E7 ((H s).ms.take (k+1))=E7 ((H s).ms.take k)++[x.2] by rw[M9 a5,hx,NP];rfl);have a3:=a6.hM x b2;have b1:wr.cell? ⟨B1,0,none⟩=some (IP (some ⟨b,0,none⟩)):=(y.cell (p:=⟨B1,0,none⟩) e5 f7).trans d5;have y0:=C.cells.1;have d8:=J6 (show(E7 ((H s).ms.take k)).length<(H s).L.length by unfold HS.L HS.all N6 E7;simp;omega);obtain⟨⟨h1,h2⟩,o⟩:=x;dsimp only at x0 x1 a3;have a7:Bz wr (wr.alloc (.cells #[I O h1,I O h2] 261)):=Q5.alloc Q2 _;have a8:=Ex (C.below a7) a3;obtain⟨HG,Hj,HB⟩:=Xt7 a8 E y;have g5:B1<wr.heap.size:=by have:=y.size;omega
  have g6:=Z9 C.blk;have Hg:=J6 hg;have g8:=a0.lt (g:=g) rfl;have h4:(k:Int)<(m:Int):=Q0;have i5:(0:Int)<=(k:Int):=Q0;have i0:=J6 a5;clear hx hg C E y a8 ex a3 a0 a7 a5 b2;dsimp only at a2;rw[Hg.out]
  gi_upto_region 4 with fail
  gi_cut [7,8]from 83 (fun s7 s8 wx=>s8=.nilIface/\Got wr wx o s7)
  case first=>
   obtain⟨d3,d4,c9,HA,c6⟩:=Xt9 (show Bz wr (wr.alloc (.cells #[I O h1,I O h2] 261)).drew from Z2 (Q5.alloc Q2 _)) (show Bz wr ((wr.alloc (.cells #[I O h1,I O h2] 261)).alloc (.cells #[I O 0,I O 0,I O 0,I O 0,I O 0] 84)).drew from Z2 ((Q5.alloc Q2 _).alloc Q3 _)) (show J7 _ (wr.heap.size+1) 84 _ by simpa using Z5 (wr.alloc (.cells #[I O h1,I O h2] 261)) 84 #[I O 0,I O 0,I O 0,I O 0,I O 0]) (HG (wr.alloc (.cells #[I O h1,I O h2] 261)).drew (Z2 Q5)) (HG ((wr.alloc (.cells #[I O h1,I O h2] 261)).alloc (.cells #[I O 0,I O 0,I O 0,I O 0,I O 0] 84)).drew (Z2 (Q5.alloc Q2 _)));have h5:Fence.wide.fn 202:=trivial;have d2:1<=n:=Q0
   gi_region_with (first|(gi_at_call 202;refine(DU.2 HA).mono ?_;rintro e w5⟨rfl,D⟩;have Z:=J6 (d3.trans (D.mono (by simp<;>omega)));clear D)|(gi_at_call 202;refine(DU.2 c6).mono ?_;rintro e w5⟨rfl,D⟩;have u:=Z4 (Y6 c9) D;have Z:=J6 (d4.trans (D.mono (by simp<;>omega)));have z0:=(BW u).1;have z1:=(BW u).2.1;have z2:=(BW u).2.2.1;have z3:=(BW u).2.2.2.1;have z4:=(BW u).2.2.2.2;have f0:=K0 u 0;have f1:=K0 u 1;have f2:=K0 u 2;have f3:=K0 u 3;have f4:=K0 u 4;have c7:=J6 u;clear D u))
   all_goals gi_wp2
   all_goals gi_meet
   all_goals
    refine⟨rfl,_,rfl,?_,?_⟩
    ·first
     |(with_reducible exact Z.out.alloc Z.out.size _)
     |exact Z.trans ((Ey _ _ _ _ _ _ _).below (B:=wr.heap.size) (fun i e=>by have e':i=wr.heap.size+1:=e;omega) Z.size)
    unfold Z8
    first
    |(with_reducible exact Z5 _ _ _)
    |exact Z0 (Z0 (Z0 (Z0 (Z0 c7 0 _) 1 _) 2 _) 3 _) 4 _
  obtain⟨rfl,ob,rfl,a4,u⟩:=hcut;have a9:=HJ.out _ _ _ Hj a4;obtain⟨fn,tmps,g3,g4,hy,hR⟩:=HY.out _ o wc a9 d8;obtain⟨z0,z1,z2,z3,z4⟩:=D7 u;unfold V6 at hy;obtain⟨HR,d6⟩:=Xt6 hR (HB.then_ a4);have d2:1<=n:=Q0;clear hR a9 a4 u b1 y0 x0 x1
  gi_wp2
  refine HR.mono ?_;rintro e W3(⟨rfl,hj3,hk3⟩|⟨rfl,hjx3⟩)
  ·gi_wp2
   rw[<-Hg.out]
   gi_roundg (m-(k+1))
   case measure=>omega
   exact⟨k+1,Q0,X3 _,J5,by rw[a2.out];exact hj3,d6.trans hk3 (fun i h=>.inl h)⟩
  gi_wp2
  refine QA (YV rfl _ _ _) rfl ?_;exact⟨⟨_,rfl⟩,.inr ⟨_,by rw[<-a2.out];exact Xj3 _ _,hjx3⟩⟩
 obtain rfl:k=m:=by omega
 have h4:¬(k:Int)<(k:Int):=Q0;have C:=HM.keeps y b5;have y3:=(C.cellM hs).2;rw[c8.out]at y3;have e7:E7 ((H s).ms.take k)=E7 ((H s).ms++C9 ((H s).qs.take 0)):=by rw[M4 (by rw[Hm.out];exact X3 _)];simp[C9]
 rw[e7]at E;obtain⟨ql,c5⟩:=exq ((H s).qs.length);rw[c5]at y3;have e3:=J6 c5;have j1:ql<=100000:=by rw[<-c5];exact Xq8 hs a6 HN
 obtain⟨g1,f8⟩:=Xt6 E y;clear C e7 E y c5
 gi_wp2
 clear y3
 gi_loopg [53] ql (fun gg h7 wr=>∃j,j<=ql/\ql-j<=gg/\h7=I O j/\J (E7 ((H s).ms++C9 ((H s).qs.take j))) wr/\X4 S W wr)
 case atStart=>exact⟨0,U9 _,X3 _,rfl,g1,f8⟩
 obtain⟨j,E,g7,rfl,b0,y⟩:=hrel
 by_cases i7:j<ql
 ·have b8:j<(H s).qs.length:=by have:=e3.out;omega
  have C:=HM.keeps y b5;have f6:=(C.hx s hs).rq;obtain⟨qg,e9,d9⟩:=f6.elem MK Q0 (i:=j) (by simpa using b8);obtain⟨q,hq⟩:=exq ((H s).qs[j]'b8);have q0:wr.cell? ⟨qg,j*2,none⟩=some (I O q.price):=by have:=d9 0 _ rfl;rw[<-hq];simpa [QG.que]using this
  have q1:wr.cell? ⟨qg,j*2+1,none⟩=some (.slice q.A q.os.length q.c):=by have:=d9 1 _ rfl;rw[<-hq];simpa [QG.que]using this
  have f5:q∈(H s).qs:=by rw[<-hq];exact C7 _
  obtain⟨m2,b9⟩:=exq q.os.length;rw[b9]at q1;have j0:m2<=1000:=by rw[<-b9,<-hq];exact Xq9 hs a6 HN b8
  obtain⟨Hq,e4,e1,d1⟩:=Xt8 hq f5 b9 b8;have h3:(j:Int)<(ql:Int):=Q0;have i4:(0:Int)<=(j:Int):=Q0;have e2:=J6 e9;have d7:Bz wr (wr.alloc (.cells #[I O q.price,.slice q.A m2 q.c] 320)):=Q5.alloc Q2 _;obtain⟨g2,g0⟩:=Xt6 (HJ _ _ _ b0 d7) (y.then_ d7);clear C f6 d9 f5 b9 e9 b0 y d7;rw[e2.out]
  gi_wp2
  clear q0 q1
  gi_loopg [60] m2 (fun gg h8 wr=>∃i,i<=m2/\m2-i<=gg/\h8=I O i/\J (E7 ((H s).ms++(C9 ((H s).qs.take j)++q.os.take i))) wr/\X4 S W wr)
  case atStart=>exact⟨0,U9 _,X3 _,rfl,by simpa using g2.out,g0.out⟩
  obtain⟨i,hi,i2,rfl,E,y⟩:=hrel
  by_cases i6:i<m2
  ·have a1:i<q.os.length:=by have:=e1.out;omega
   have C:=HM.keeps y b5;have a0:=(C.hx s hs).rl q e4;obtain⟨g,hg,-⟩:=a0.elem NN Q0 (i:=i) (by simpa [N9]using a1);rw[hg]at a0;obtain⟨x0,x1⟩:=Yi a0 (i:=i) (by simpa [N9]using a1);obtain⟨x,hx⟩:=exq (q.os[i]'a1);have ex:(N9 q.os)[i]'(by simpa [N9]using a1)=x.1:=by rw[<-hx];simp[N9]
   rw[ex]at x0 x1;have b2:x∈E8 H:=BM hs (JJ _ (RU.2 ⟨q,e4,by rw[<-hx];exact C7 _⟩));have a2:=J6 (show E7 ((H s).ms++(C9 ((H s).qs.take j)++q.os.take (i+1)))=E7 ((H s).ms++(C9 ((H s).qs.take j)++q.os.take i))++[x.2] by rw[M9 a1,hx];simp[E7]);have a3:=a6.hM x b2;have b1:wr.cell? ⟨B1,0,none⟩=some (IP (some ⟨b,0,none⟩)):=(y.cell (p:=⟨B1,0,none⟩) e5 f7).trans d5;have y0:=C.cells.1;have d8:=J6 (show(E7 ((H s).ms++(C9 ((H s).qs.take j)++q.os.take i))).length<(H s).L.length from Xa5 d1 Hq a1);obtain⟨⟨h1,h2⟩,o⟩:=x;dsimp only at x0 x1 a3;have a7:Bz wr (wr.alloc (.cells #[I O h1,I O h2] 261)):=Q5.alloc Q2 _;have a8:=Ex (C.below a7) a3;obtain⟨HG,Hj,HB⟩:=Xt7 a8 E y;have g5:B1<wr.heap.size:=by have:=y.size;omega
   have g6:=Z9 C.blk;have Hg:=J6 hg;have g8:=a0.lt (g:=g) rfl;have g9:(i:Int)<(m2:Int):=Q0;have i3:(0:Int)<=(i:Int):=Q0;have h9:=J6 a1;clear hx hg C E y a8 ex a3 a0 a7 a1 b2;dsimp only at a2;rw[Hg.out]
   gi_upto_region 13 with fail
   gi_cut [13,14]from 83 (fun s7 s8 wx=>s8=.nilIface/\Got wr wx o s7)
   case first=>
    obtain⟨d3,d4,c9,HA,c6⟩:=Xt9 (show Bz wr (wr.alloc (.cells #[I O h1,I O h2] 261)).drew from Z2 (Q5.alloc Q2 _)) (show Bz wr ((wr.alloc (.cells #[I O h1,I O h2] 261)).alloc (.cells #[I O 0,I O 0,I O 0,I O 0,I O 0] 84)).drew from Z2 ((Q5.alloc Q2 _).alloc Q3 _)) (show J7 _ (wr.heap.size+1) 84 _ by simpa using Z5 (wr.alloc (.cells #[I O h1,I O h2] 261)) 84 #[I O 0,I O 0,I O 0,I O 0,I O 0]) (HG (wr.alloc (.cells #[I O h1,I O h2] 261)).drew (Z2 Q5)) (HG ((wr.alloc (.cells #[I O h1,I O h2] 261)).alloc (.cells #[I O 0,I O 0,I O 0,I O 0,I O 0] 84)).drew (Z2 (Q5.alloc Q2 _)));have h5:Fence.wide.fn 202:=trivial;have d2:1<=n:=Q0
    gi_region_with (first|(gi_at_call 202;refine(DU.2 HA).mono ?_;rintro e w5⟨rfl,D⟩;have Z:=J6 (d3.trans (D.mono (by simp<;>omega)));clear D)|(gi_at_call 202;refine(DU.2 c6).mono ?_;rintro e w5⟨rfl,D⟩;have u:=Z4 (Y6 c9) D;have Z:=J6 (d4.trans (D.mono (by simp<;>omega)));have z0:=(BW u).1;have z1:=(BW u).2.1;have z2:=(BW u).2.2.1;have z3:=(BW u).2.2.2.1;have z4:=(BW u).2.2.2.2;have f0:=K0 u 0;have f1:=K0 u 1;have f2:=K0 u 2;have f3:=K0 u 3;have f4:=K0 u 4;have c7:=J6 u;clear D u))
    all_goals gi_wp2
    all_goals gi_meet
    all_goals
     refine⟨rfl,_,rfl,?_,?_⟩
     ·first
      |(with_reducible exact Z.out.alloc Z.out.size _)
      |exact Z.trans ((Ey _ _ _ _ _ _ _).below (B:=wr.heap.size) (fun i e=>by have e':i=wr.heap.size+1:=e;omega) Z.size)
     unfold Z8
     first
     |(with_reducible exact Z5 _ _ _)
     |exact Z0 (Z0 (Z0 (Z0 (Z0 c7 0 _) 1 _) 2 _) 3 _) 4 _
   obtain⟨rfl,ob,rfl,a4,u⟩:=hcut;have a9:=HJ.out _ _ _ Hj a4;obtain⟨fn,tmps,g3,g4,hy,hR⟩:=HY.out _ o wc a9 d8;obtain⟨z0,z1,z2,z3,z4⟩:=D7 u;unfold V6 at hy;obtain⟨HR,d6⟩:=Xt6 hR (HB.then_ a4);have d2:1<=n:=Q0;clear hR a9 a4 u b1 y0 x0 x1
   gi_wp2
   refine HR.mono ?_;rintro e W3(⟨rfl,hj3,hk3⟩|⟨rfl,hjx3⟩)
   ·gi_wp2
    rw[<-Hg.out]
    gi_roundg (m2-(i+1))
    case measure=>omega
    exact⟨i+1,Q0,X3 _,J5,by rw[a2.out];exact hj3,d6.trans hk3 (fun i h=>.inl h)⟩
   gi_wp2
   refine QA (YV rfl _ _ _) rfl ?_;exact⟨⟨_,rfl⟩,.inr ⟨_,by rw[<-a2.out];exact Xj4 d1 Hq _,hjx3⟩⟩
  obtain rfl:i=m2:=by omega
  have g9:¬(i:Int)<(i:Int):=Q0;obtain⟨d0,f9⟩:=Xt6 (show J (E7 ((H s).ms++C9 ((H s).qs.take (j+1)))) wr by rw[Jo9 d1 Hq.out];rw[M4 (l:=q.os) (i:=i) (by rw[e1.out];exact X3 _)]at E;exact E) y;clear E y
  gi_wp2
  rw[<-e2.out]
  gi_roundg (ql-(j+1))
  case measure=>omega
  exact⟨j+1,Q0,X3 _,J5,d0,f9⟩
 obtain rfl:j=ql:=by omega
 have h3:¬(j:Int)<(j:Int):=Q0;have d0:=J6 (show J (H s).L wr by rw[M4 (by rw[e3.out];exact X3 _)]at b0;exact b0);clear b0 y
 gi_wp2
 go_end0
 exact⟨⟨_,rfl⟩,.inl d0⟩
def Zy:HS:=⟨none,0,none,0,[],[]⟩
theorem Bp w:Calls prog 158 #[] w fun e w'=>Bz w w'/\∃b G,(∀i,G i->w.heap.size<=i)/\e=.returned (pA b)/\JC w' b G [] []:=by
 have a1:Calls prog 209 #[I O 100] w _:=Xi5 w 100 Q0 Q0;have HN:=J6 a1;have a5:= @run_makeMap prog;clear a1;go_enter func158,ntmps158
 go_wp2_with (go_at_call 209;refine HN.mono ?_;rintro e w1⟨N,a,F,Z,rfl,J⟩;have E:=J6 N;have HF:=J6 Z;have D:=J6 J;clear N Z J)
 go_ret;have a4:Bz w1 (w1.alloc (.map #[] 0)):=Q5.alloc Q2 _;have a0:Bz w1 ((w1.alloc (.map #[] 0)).alloc (.cells (YY a w1.heap.size fun _=>Zy) 273)):=a4.alloc Q3 _;have a3:=D.below a0;have hM:QF ((w1.alloc (.map #[] 0)).alloc (.cells (YY a w1.heap.size fun _=>Zy) 273)) w1.heap.size (fun _=>none):=(QF.made w1).alloc _;have a2:=E.size;refine⟨E.trans (a0.mono a2),w1.heap.size+1,Y1 (w1.heap.size+1) w1.heap.size F (fun _=>Zy),?_,Q3,a,F,_,0,w1.heap.size,_,fun _=>Zy,fun i=>if i=w1.heap.size+1 then 1 else if i=w1.heap.size then 2 else 3,⟨?_,a3,hM,?_,X0 rfl,?_,?_⟩,?_,fun i=>KL,rfl,rfl⟩
 ·rintro i(rfl|rfl|j|j|j)
  ·omega
  ·exact a2
  ·exact HF i j
  ·obtain j|j|⟨q,u,_⟩:=j
   ·cases j
   ·cases j
   cases u
  obtain j|j|⟨q,u,_⟩:=j
  ·cases j
  ·cases j
  cases u
 ·have:=Z5 (w1.alloc (.map #[] 0)) 273 (YY a w1.heap.size fun _=>Zy)
  rwa [Xl]at this
 ·intro s hs
  exact⟨⟨rfl,.inl ⟨rfl,rfl⟩⟩,⟨rfl,.inl ⟨rfl,rfl⟩⟩,fun q u=>(by cases u),fun g C=>(by cases C),fun g C=>(by cases C),fun q u=>(by cases u),TJ⟩
 ·rw[J8 Q0,X0 rfl]
 ·intro i j
  have:=D.fp j;rw[J8 Q0,J8 Q0]
 exact⟨fun s hs=>⟨fun x y=>(by cases y),fun q u=>(by cases u),List.Pairwise.nil⟩,fun s hs q u=>(by cases u),fun x y=>(by cases y),fun x y=>(by cases y),fun k v hv=>(by cases hv),TJ,rfl,fun x y=>(by cases y)⟩
theorem Qr6 w b G L1 L2(h:JC w b G L1 L2):Calls prog 199 #[pA b] w fun e w'=>e=.returned (I O (L1.length+L2.length:Nat))/\w=w':=by
 obtain⟨a,F,M,n,r,f,H,reg,i,j,C,rfl,rfl⟩:=h;have D:=i.cells.1;have u:=J6 i.ar;have y:Hid (n=(H 1).L.length+(H 2).L.length):=J6 (by rw[j.cnt];simp[E8,HS.L,E7]);clear i j C;go_enter func199,ntmps199
 go_wp2_with (go_at_call 221;refine(Jz4 u).mono ?_;rintro e w'⟨rfl,rfl⟩)
 go_ret;exact⟨JK (by rw[y.out]),rfl⟩
def WU(f:Z7->Option Int)(x:Z7)(v:Option Int):Z7->Option Int:=fun y=>if y=x then v else f y
def AB(o:X6):Z7:=(o.side,o.kind,o.price)
def KT(x:Z7)(l:List X6):Int:=(l.map fun o=>if AB o=x then o.qty else 0).sum
theorem Mh{x l}(h:MS l):0<=KT x l:=by
 induction l with
 |nil=>exact T3 0
 |cons o t j=>
  have h1:=j (fun y i=>h y (by simp[i]));have h2:=WQ (h o Q3);unfold KT at*;rw[T2,YS]
  split<;>omega
theorem Xa6{l}(h:MS l){o}(i:o∈l):1<=KT (AB o) l:=by
 induction l with
 |nil=>cases i
 |cons y t C=>
  have j:MS t:=fun z u=>h z (by simp[u])
  have h1:=WQ (h y Q3);have h2:=Mh (x:=AB o) j;obtain rfl|i:=H8.1 i
  ·unfold KT at*
   rw[T2,YS,X0 rfl];omega
  have D:=C j i;unfold KT at*;rw[T2,YS]
  split<;>omega
theorem Sf{x l}(h:KT x l≠0):∃o∈l,AB o=x:=by
 induction l with
 |nil=>exact absurd rfl h
 |cons y t j=>
  by_cases e:AB y=x
  ·exact⟨y,Q3,e⟩
  obtain⟨o,h1,h2⟩:=j (fun i=>h (by unfold KT at*;rw[T2,YS,J8 e,i];rfl));exact⟨o,by simp[h1],h2⟩
theorem Xj6(g:Z7->Int)x q:∀K:List Z7,K.Nodup->(K.map fun y=>g y*(if x=y then q else 0)).sum=if x∈K then g x*q else 0:=by
 intro K
 induction K with
 |nil=>intro _;simp
 |cons y t j=>
  intro h;obtain⟨h1,h2⟩:=UX.1 h;rw[T2,YS,j h2]
  by_cases e:x=y
  ·subst e
   rw[X0 rfl,J8 h1,X0 Q3];omega
  rw[J8 e]
  by_cases i:x∈t
  ·rw[X0 i,X0 (by simp[i])]
   omega
  rw[J8 i,J8 (by simp[e,i])];omega
theorem Xj7(F G:Z7->Int)(K:List Z7):(K.map fun y=>F y+G y).sum=(K.map F).sum+(K.map G).sum:=by
 induction K with
 |nil=>rfl
 |cons y t i=>rw[T2,T2,T2,YS,YS,YS,i];omega
theorem Qa7(g:Z7->Int)(K:List Z7)(j:K.Nodup):∀l,(∀o∈l,AB o∈K)->(l.map fun o=>g (AB o)*o.qty).sum=(K.map fun x=>g x*KT x l).sum:=by
 intro l
 induction l with
 |nil=>
  intro _;have e:∀K:List Z7,(K.map fun x=>g x*KT x []).sum=0:=by
   intro K
   induction K with
   |nil=>rfl
   |cons y t i=>
    rw[T2,YS,i];unfold KT;simp
  rw[e];rfl
 |cons o t i=>
  intro h;rw[T2,YS,i (fun y u=>h y (by simp[u]))];have e:(fun x=>g x*KT x (o::t))=fun x=>g x*(if AB o=x then o.qty else 0)+g x*KT x t:=by
   funext x
   unfold KT;rw[T2,YS,Int.mul_add]
  rw[e,Xj7,Xj6 g (AB o) o.qty K j,X0 (h o Q3)]
theorem Sg F(l:List X6):∀s:Int,l.foldl (fun s o=>s+F o) s=s+(l.map F).sum:=by
 induction l with
 |nil=>intro s;simp
 |cons o t i=>intro s;rw[JF,i,T2,YS];omega
def gD(p:Int)(x:Z7):Int:=if x.1=1/\(x.2.1=2\/p<=x.2.2)then 1 else 0
def gS(p:Int)(x:Z7):Int:=if x.1=2/\(x.2.1=2\/x.2.2<=p)then 1 else 0
theorem Dz p l:XT p l=(l.map fun o=>gD p (AB o)*o.qty).sum:=by
 unfold XT;rw[Sg,Int.zero_add]
 congr 1
 refine UM fun o _=>?_
 unfold KP gD AB;dsimp only
 split<;>simp
theorem Ea p l:XW p l=(l.map fun o=>gS p (AB o)*o.qty).sum:=by
 unfold XW;rw[Sg,Int.zero_add]
 congr 1
 refine UM fun o _=>?_
 unfold KR gS AB;dsimp only
 split<;>simp
structure UH(lv:List Z7)(bu se:Int)(f:Z7->Option Int):Prop where
 b:(f (1,2,0)).getD 0=bu
 s:(f (2,2,0)).getD 0=se
 lb:∀p,(f (1,0,p)).getD 0=(F8 lv p).1
 ls:∀p,(f (2,0,p)).getD 0=(F8 lv p).2
 pos:∀x v,f x=some v->1<=v/\(x=(1,2,0)\/x=(2,2,0)\/∃p,1<=p/\p<=1000000/\(x=(1,0,p)\/x=(2,0,p)))
structure Jc(f:Z7->Option Int)(l:List X6):Prop where
 ok:MS l
 sum:∀x,KT x l=(f x).getD 0
theorem PV{lv}(h:UA lv){y}(i:y∈lv):F8 lv y.1=y.2:=by
 obtain⟨k,hk,rfl⟩:=ZX.1 i;have e:lv=lv.take k++lv[k]::lv.drop (k+1):=by rw[<-CZ hk,P9]
 have key:∀L,L=lv.take k++lv[k]::lv.drop (k+1)->UA L->F8 L lv[k].1=lv[k].2:=by rintro L rfl h2;exact Dt h2
 exact key lv e h
theorem Sh{lv p}(h:F8 lv p≠(0,0)):∃y∈lv,y.1=p:=by
 obtain h1|h1:=Classical.em (∃y∈lv,y.1=p)
 ·exact h1
 exact absurd (Ux fun x i e=>h1 ⟨x,i,e⟩) h
def PA(lv:List Z7):List Z7:=[((1,2,0):Z7),(2,2,0)]++(lv.map (fun y=>((1,0,y.1):Z7))++lv.map (fun y=>((2,0,y.1):Z7)))
theorem Pj{lv}(h:UA lv):(PA lv).Nodup:=by
 have u:∀s,(lv.map (fun y=>((s,0,y.1):Z7))).Nodup:=fun s=>by
  rw[List.Nodup,Xk];refine h.imp fun {a b}hab e=>?_
  injection e with _ e
  injection e with _ e
  omega
 unfold PA;refine BE.2 ⟨Q3,BE.2 ⟨u 1,u 2,?_⟩,?_⟩
 ·intro a j b i e
  obtain⟨y,-,rfl⟩:=Y4.1 j;obtain⟨z,-,rfl⟩:=Y4.1 i;injection e with e _
  omega
 intro a j b i e;subst e;obtain i|i:=B8.1 i
 all_goals
  obtain⟨y,-,rfl⟩:=Y4.1 i;simp at j
section
variable {lv:List Z7} {bu se more:Int} {f:Z7->Option Int} {l:List X6}
theorem Cd(C:UH lv bu se f)(J:Jc f l):∀o∈l,AB o∈PA lv:=by
 intro o N;have h1:=Xa6 J.ok N;rw[J.sum]at h1
 cases u:f (AB o)with
 |none=>rw[u]at h1;simp at h1
 |some v=>
  obtain⟨h2,i⟩:=C.pos _ _ u;unfold PA;obtain i|i|⟨p,-,-,i|i⟩:=i
  ·rw[i];simp
  ·rw[i];simp
  ·have j:=C.lb p
   rw[<-i,u]at j;obtain⟨y,D,E⟩:=Sh (lv:=lv) (p:=p) (fun e=>by rw[e]at j;simp at j;omega);rw[i];refine B8.2 (.inr (B8.2 (.inl (Y4.2 ⟨y,D,by rw[E]⟩))))
  have j:=C.ls p;rw[<-i,u]at j;obtain⟨y,D,E⟩:=Sh (lv:=lv) (p:=p) (fun e=>by rw[e]at j;simp at j;omega);rw[i];refine B8.2 (.inr (B8.2 (.inr (Y4.2 ⟨y,D,by rw[E]⟩))))
theorem Jp0 q:∀L:List Z7,P0 (L.filter q) 0=(L.map fun y=>if q y=true then y.2.1 else 0).sum:=by
 intro L
 induction L with
 |nil=>rfl
 |cons y t i=>
  rw[T2,YS,<-i]
  by_cases e:q y=true
  ·rw[RX e,X0 e]
   have h:=Kl (t.filter q) (0+y.2.1);have h2:P0 (y::t.filter q) 0=P0 (t.filter q) (0+y.2.1):=rfl;rw[h2,h];omega
  rw[ED e,J8 e];omega
theorem Jp1 q:∀L:List Z7,VM (L.filter q) 0=(L.map fun y=>if q y=true then y.2.2 else 0).sum:=by
 intro L
 induction L with
 |nil=>rfl
 |cons y t i=>
  rw[T2,YS,<-i]
  by_cases e:q y=true
  ·rw[RX e,X0 e]
   have h:=Se (t.filter q) (0+y.2.2);have h2:VM (y::t.filter q) 0=VM (t.filter q) (0+y.2.2):=rfl;rw[h2,h];omega
  rw[ED e,J8 e];omega
theorem Qa8{α:Type}(F:α->Int)(K:List α)(h:∀x∈K,F x=0):(K.map F).sum=0:=by
 induction K with
 |nil=>rfl
 |cons y t j=>rw[T2,YS,j (fun x i=>h x (by simp[i])),h y Q3];rfl
theorem Xa7(hk:CK lv)(j:UH lv bu se f)(i:Jc f l)p:XT p l=Zr lv bu p:=by
 rw[Dz,Qa7 (gD p) (PA lv) (Pj hk.rank) l (Cd j i)];unfold PA Zr;rw[Kl,Jp0,L6,Vn,L6,Vn,YT,YT];rw[Qa8 ((fun x=>gD p x*KT x l)∘fun y=>((2,0,y.1):Z7)) lv (fun y _=>by simp[gD])];have u:([((1,2,0):Z7),(2,2,0)].map fun x=>gD p x*KT x l).sum=bu:=by have h1:=i.sum (1,2,0);rw[j.b]at h1;simp[gD,h1]
 rw[u,NL]
 congr 2
 refine UM fun y C=>?_
 show gD p (1,0,y.1)*KT (1,0,y.1) l=_;rw[i.sum,j.lb,PV hk.rank C]
 by_cases e:p<=y.1
 ·rw[X0 (GR e)];simp[gD,e]
 rw[J8 Q7];simp[gD,e]
theorem Xa8(hk:CK lv)(j:UH lv bu se f)(i:Jc f l)p:XW p l=Zs lv se p:=by
 rw[Ea,Qa7 (gS p) (PA lv) (Pj hk.rank) l (Cd j i)];unfold PA Zs;rw[Se,Jp1,L6,Vn,L6,Vn,YT,YT];rw[Qa8 ((fun x=>gS p x*KT x l)∘fun y=>((1,0,y.1):Z7)) lv (fun y _=>by simp[gS])];have u:([((1,2,0):Z7),(2,2,0)].map fun x=>gS p x*KT x l).sum=se:=by have h1:=i.sum (2,2,0);rw[j.s]at h1;simp[gS,h1]
 rw[u,Int.zero_add]
 congr 2
 refine UM fun y C=>?_
 show gS p (2,0,y.1)*KT (2,0,y.1) l=_;rw[i.sum,j.ls,PV hk.rank C]
 by_cases e:y.1<=p
 ·rw[X0 (GR e)];simp[gS,e]
 rw[J8 Q7];simp[gS,e]
theorem Je4(hk:CK lv)(D:UH lv bu se f)(u:Jc f l)q:q∈R8 l more↔(∃x∈lv,x.1=q)\/(1<=more/\q=more):=by
 unfold R8;rw[Ki u.ok,B8];constructor
 ·rintro(h|h)
  ·split at h
   ·rename_i h1
    rw[UN]at h;exact .inr ⟨h1,h⟩
   cases h
  obtain⟨o,i,rfl⟩:=Y4.1 h;obtain⟨i,C⟩:=S4.1 i;have h1:=Cd D u o i;unfold PA AB at h1;simp at C;simp at h1;obtain h1|h1|⟨y,h1,h2,h3,E⟩|⟨y,h1,h2,h3,E⟩:=h1
  ·exact absurd h1.2.1 C
  ·exact absurd h1.2.1 C
  all_goals
   obtain⟨a,b,a0⟩:=h1;exact .inl ⟨(y,a,b),a0,E⟩
 rintro(⟨x,hx,rfl⟩|⟨h1,rfl⟩)
 ·refine .inr ?_
  have h1:=hk.nz x hx;have J:∀s,(s=1\/s=2)->KT (s,0,x.1) l≠0->x.1∈((l.filter fun o=> !(o.kind ==2)).map (·.price)):=fun s hs h2=>by
   obtain⟨o,i,j⟩:=Sf h2;unfold AB at j;injection j with e1 j
   injection j with N Z
   exact Y4.2 ⟨o,S4.2 ⟨i,by rw[N];rfl⟩,Z⟩
  obtain h2|h2:=h1.2.2
  ·exact J 1 (.inl rfl) (by rw[u.sum,D.lb,PV hk.rank hx];exact h2)
  exact J 2 (.inr rfl) (by rw[u.sum,D.ls,PV hk.rank hx];exact h2)
 exact .inl (by rw[X0 h1];simp)
theorem Qw6(hk:CK lv)(j:UH lv bu se f)(i:Jc f l):QJ l more=ZV lv bu se more:=by
 obtain⟨h1,h2,u⟩:=Qr4 (bu:=bu) (se:=se) (more:=more) hk.rank;have E:((ZV lv bu se more).map (·.1)).Nodup:=h2.imp (fun h=>Q0);have tr:∀a b c:Int,(decide (a<=b))=true->(decide (b<=c))=true->(decide (a<=c))=true:=fun a b c h1 h2=>by simp at*;omega
 have J:∀a b:Int,(decide (a<=b) ||decide (b<=a))=true:=fun a b=>Q7
 have C:dd ((R8 l more).mergeSort fun x y=>decide (x<=y))=(ZV lv bu se more).map (·.1):=by rw[Jl1 (R8 l more) ((ZV lv bu se more).map (·.1)) E (fun x=>(u x).trans (Je4 hk j i x).symm)];refine Aj (le:=fun a b=>a<=b) (fun a b _ _ h1 h2=>Q0) ((Jy tr J _).imp (fun h=>by simpa using h)) (h2.imp (fun h=>Q0)) (Aq _ _)
 unfold QJ;rw[C,Ki i.ok,YT];refine Eq.trans (UM fun e D=>?_) (List.map_id _);show DD l e.1=e;rw[h1 e D];unfold DD NB;dsimp only;rw[Xa7 hk j i,Xa8 hk j i]
def BV(o:X6):Z7:=if o.kind=2 then(o.side,2,0)else(o.side,0,o.price)
def LR(v:Int):Option Int:=if v=0 then none else some v
theorem Eb v:(LR v).getD 0=v:=by unfold LR;split<;>simp_all
theorem UH.has(h:UH lv bu se f){o}(j:o.side=1\/o.side=2):(f (BV o)).getD 0=BZ lv bu se o:=by
 unfold BV BZ T8
 by_cases hk:o.kind=2
 ·rw[X0 hk,X0 hk]
  obtain i|i:=j
  ·rw[i,X0 rfl];exact h.b
  rw[i,J8 Q1];exact h.s
 rw[J8 hk,J8 hk];obtain i|i:=j
 ·rw[i,X0 rfl];exact h.lb _
 rw[i,J8 Q1];exact h.ls _
def SQ(s:Int):Option Int->Z7
 |none=>(s,2,0)
 |some p=>(s,0,p)
def FL(s:Int)(x:Int×Int):Int:=if s=1 then x.1 else x.2
theorem Si{s s' k k'}(h:SQ s k=SQ s' k'):s=s'/\k=k':=by
 cases k<;>cases k'
 all_goals
  injection h with h1 h2
  injection h2 with h2 i
 ·exact⟨h1,rfl⟩
 ·omega
 ·omega
 exact⟨h1,by rw[i]⟩
theorem Ce o:BV o=SQ o.side (T8 o):=by
 unfold BV T8
 split<;>rfl
theorem UH.at_(h:UH lv bu se f)s(i:s=1\/s=2)k:(f (SQ s k)).getD 0=FL s (DL lv bu se k):=by
 obtain rfl|rfl:=i<;>cases k
 ·exact h.b
 ·exact h.lb _
 ·exact h.s
 exact h.ls _
theorem UH.of(h:∀s,(s=1\/s=2)->∀k,(f (SQ s k)).getD 0=FL s (DL lv bu se k))(hp:∀x v,f x=some v->1<=v/\(x=(1,2,0)\/x=(2,2,0)\/∃p,1<=p/\p<=1000000/\(x=(1,0,p)\/x=(2,0,p)))):UH lv bu se f:=
 ⟨h 1 (.inl rfl) none,h 2 (.inr rfl) none,fun p=>h 1 (.inl rfl) (some p),fun p=>h 2 (.inr rfl) (some p),hp⟩
theorem UH.turn(h:UH lv bu se f){o}(u:AH o){q}(Z:q=1\/q= -1)(hp:q= -1->o.qty<=BZ lv bu se o){lv' bu' se'}(J:Qo lv bu se o q lv' bu' se')(h0:0<=BZ lv bu se o):UH lv' bu' se' (WU f (BV o) (LR (BZ lv bu se o+q*o.qty))):=by
 have N:BZ lv bu se o=FL o.side (DL lv bu se (T8 o)):=rfl;refine UH.of (fun s E k=>?_) (fun x v i=>?_)
 ·rw[J.2 k]
  unfold WU
  by_cases e:SQ s k=BV o
  ·rw[X0 e,Eb]
   rw[Ce]at e;obtain⟨y,j⟩:=Si e;rw[X0 j,N,y,j];unfold FL dB dS
   by_cases h1:o.side=1
   ·simp only[if_pos h1]
   simp only[if_neg h1]
  rw[J8 e,h.at_ s E k]
  by_cases j:k=T8 o
  ·rw[X0 j]
   have D:s≠o.side:=fun y=>e (by rw[Ce,y,j])
   unfold FL dB dS;obtain h1|h1:=u.1<;>obtain rfl|rfl:=E
   ·exact absurd h1.symm D
   ·simp[h1]
   ·simp[h1]
   exact absurd h1.symm D
  rw[J8 j]
 unfold WU at i
 by_cases e:x=BV o
 ·rw[X0 e]at i
  unfold LR at i
  split at i
  ·cases i
  rename_i hz
  cases i;have a0:=u.2.1;refine⟨by obtain rfl|rfl:=Z<;>omega,?_⟩;rw[e];unfold BV
  by_cases hk:o.kind=2
  ·rw[X0 hk]
   obtain h1|h1:=u.1<;>simp[h1]
  rw[J8 hk];have C:=u.2.2.resolve_left hk;refine .inr (.inr ⟨o.price,C.1,C.2,?_⟩);obtain h1|h1:=u.1<;>simp[h1]
 rw[J8 e]at i;exact h.pos x v i
def PG(h:List Z7)(f:Z7->Option Int):Prop:=∀x v,f x=some v->v<=1000000*h.count x
theorem PG.add{h}(D:PG h f)x{q v}(J:q<=1000000)(j:v<=(f x).getD 0+q)(E:0<=(f x).getD 0):PG (x::h) (WU f x (LR v)):=by
 intro y u i;unfold WU at i
 by_cases e:y=x
 ·subst e
  rw[X0 rfl]at i;unfold LR at i
  split at i
  ·cases i
  cases i;rw[List.count_cons_self]
  cases C:f y with
  |none=>rw[C]at j;simp at j;omega
  |some a=>have:=D y a C;rw[C]at j;simp at j;omega
 rw[J8 e]at i;have h1:=D y u i;have h2:=List.count_le_count_cons (a:=y) (b:=x) (l:=h);omega
theorem PG.less{h}(D:PG h f)x{v}(j:v<=(f x).getD 0):PG h (WU f x (LR v)):=by
 intro y u i;unfold WU at i
 by_cases e:y=x
 ·subst e
  rw[X0 rfl]at i;unfold LR at i
  split at i
  ·cases i
  cases i
  cases C:f y with
  |none=>rw[C]at j;simp at j;omega
  |some a=>have:=D y a C;rw[C]at j;simp at j;omega
 rw[J8 e]at i;exact D y u i
theorem PG.bound{h}(j:PG h f)x(u:h.length<=100):(f x).getD 0<=100000000:=by
 cases i:f x with
 |none=>simp
 |some v=>
  have h1:=j x v i;have h2:=List.count_le_length (a:=x) (l:=h);simp;omega
theorem UH.nonneg(h:UH lv bu se f)x:0<=(f x).getD 0:=by
 cases i:f x with
 |none=>simp
 |some v=>have:=(h.pos x v i).1;simp;omega
theorem UH.mild(h:UH lv bu se f)(hk:CK lv){hs}(i:PG hs f)(j:hs.length<=100)(y:lv.length<=100):CT lv bu se:=by
 refine⟨?_,?_,fun x u=>?_,fun x u=>?_,Q0⟩
 ·have h1:=h.nonneg (1,2,0)
  have h2:=i.bound (1,2,0) j;rw[h.b]at h1 h2;omega
 ·have h1:=h.nonneg (2,2,0)
  have h2:=i.bound (2,2,0) j;rw[h.s]at h1 h2;omega
 ·have h1:=h.nonneg (1,0,x.1)
  have h2:=i.bound (1,0,x.1) j;rw[h.lb,PV hk.rank u]at h1 h2;omega
 have h1:=h.nonneg (2,0,x.1);have h2:=i.bound (2,0,x.1) j;rw[h.ls,PV hk.rank u]at h1 h2;omega
theorem CT.small(h:CT lv bu se):MT lv bu se:=
 ⟨⟨h.b.1,by have:=h.b.2;omega⟩,⟨h.s.1,by have:=h.s.2;omega⟩,fun x i=>⟨by have:=(h.lb x i).2;omega,by have:=(h.ls x i).2;omega⟩,h.n⟩
theorem Ec{l}(E:l.length<=100)(hp:∀o∈l,o.kind≠2->1<=o.price/\o.price<=1000000)(J:more<=1000000):∀y∈QJ l more,-1099511627776<=y.1/\y.1<=1099511627776/\0<=y.2.1/\y.2.1<=100000000/\0<=y.2.2/\y.2.2<=100000000:=by
 intro y u;obtain⟨q,i,rfl⟩:=Y4.1 u;have N:1<=q/\q<=1000000:=by
  have i:=(Fl _ _).1 i;unfold R8 at i;obtain i|i:=B8.1 i
  ·split at i
   ·simp at i;omega
   cases i
  obtain⟨o,j,rfl⟩:=Y4.1 i;obtain⟨h1,h2⟩:=S4.1 j;simp at h2;exact hp o (S4.1 h1).1 h2
 have h1:=Nn (p:=q) (Uv (l:=l));have h2:=No (p:=q) (Uv (l:=l));have C:(T6 l).length<=l.length:=NF XE l;have D:((T6 l).length:Int)<=100:=Q0;unfold DD;dsimp only;omega
end
theorem Ed{l l':List Int}(h:l.Perm l'):l.sum=l'.sum:=by
 induction h with
 |nil=>rfl
 |cons x _ i=>rw[YS,YS,i]
 |swap x y l=>simp only[List.sum_cons];omega
 |trans _ _ h1 h2=>exact h1.trans h2
def C4(s:Int)(k:Option Int)(l:List X6):Int:=(l.map fun o=>if o.side=s/\T8 o=k then o.qty else 0).sum
theorem PJ s k o l:C4 s k (o::l)=(if o.side=s/\T8 o=k then o.qty else 0)+C4 s k l:=by unfold C4;rw[T2,YS]
theorem NR s k l l':C4 s k (l++l')=C4 s k l+C4 s k l':=by unfold C4;rw[L6,Vn]
theorem Sj{s k l l'}(h:l.Perm l'):C4 s k l=C4 s k l':=Ed (h.map _)
theorem Qb{s k l}(h:∀o∈l,AH o):0<=C4 s k l/\C4 s k l<=1000000*l.length:=by
 induction l with
 |nil=>exact⟨T3 _,T3 _⟩
 |cons o t j=>
  rw[PJ,JA];have h1:=j (fun x i=>h x (by simp[i]));have h2:=(h o Q3).2.1
  split<;>omega
theorem Xa9{s k l}(h:C4 s k l≠0):∃o∈l,o.side=s/\T8 o=k:=by
 induction l with
 |nil=>exact absurd rfl h
 |cons o t u=>
  rw[PJ]at h
  by_cases e:o.side=s/\T8 o=k
  ·exact⟨o,Q3,e⟩
  rw[J8 e]at h;obtain⟨x,i,j⟩:=u Q0;exact⟨x,by simp[i],j⟩
theorem Xb0{l}(h:∀o∈l,AH o){o}(j:o∈l):o.qty<=C4 o.side (T8 o) l:=by obtain⟨a,b,rfl⟩:=List.append_of_mem j;rw[NR,PJ,X0 ⟨rfl,rfl⟩];have h1:=Qb (s:=o.side) (k:=T8 o) (l:=a) (fun x i=>h x (by simp[i]));have h2:=Qb (s:=o.side) (k:=T8 o) (l:=b) (fun x i=>h x (by simp[i]));omega
def UD(lv:List Z7)(bu se:Int)(g:Int->Option Int->Int):Prop:=∀s,(s=1\/s=2)->∀k,FL s (DL lv bu se k)=g s k
theorem UD.has{lv bu se g}(h:UD lv bu se g){o}(i:o.side=1\/o.side=2):BZ lv bu se o=g o.side (T8 o):=by
 rw[<-h o.side i (T8 o)]
 rfl
theorem UD.chg{lv lv' bu se bu' se' g}(h:UD lv bu se g){o}(j:o.side=1\/o.side=2){q}(u:Qo lv bu se o q lv' bu' se'):UD lv' bu' se' (fun s k=>g s k+if o.side=s/\T8 o=k then q*o.qty else 0):=by
 intro s i k;show FL s (DL lv' bu' se' k)=g s k+if o.side=s/\T8 o=k then q*o.qty else 0;rw[u.2 k]
 by_cases e:k=T8 o
 ·rw[X0 e]
  have h1:=h s i k;unfold FL at h1|-;unfold dB dS;obtain rfl|rfl:=i
  ·rw[X0 rfl]at h1|-
   dsimp only at h1|-;rw[h1];obtain h2|h2:=j
   ·rw[X0 h2,X0 ⟨h2,e.symm⟩]
   rw[J8 Q0,J8 Q0];omega
  rw[J8 Q1]at h1|-;dsimp only at h1|-;rw[h1];obtain h2|h2:=j
  ·rw[X0 h2,J8 Q0];omega
  rw[J8 Q0,X0 ⟨h2,e.symm⟩]
 rw[J8 e,J8 (fun x=>e x.2.symm),h s i k];simp
theorem UD.congr{lv bu se g g'}(h:UD lv bu se g)(e:∀s k,(s=1\/s=2)->g s k=g' s k):UD lv bu se g':=fun s i k=>(h s i k).trans (e s k i)
theorem Sk:UD [] 0 0 (fun s k=>C4 s k []):=by
 intro s i k;have e:DL [] 0 0 k=(0,0):=by cases k<;>rfl
 rw[e];unfold FL C4
 split<;>rfl
theorem Qa9:CK []:=⟨List.Pairwise.nil,fun x h=>(by cases h),fun x h=>(by cases h)⟩
theorem Sl{α:Type} [DecidableEq α]:∀{l l':List α},l.Nodup->(∀x∈l,x∈l')->l.length<=l'.length
 | [],_,_,_=>U9 _
 |a::t,l',h,hs=>by obtain⟨h1,h2⟩:=UX.1 h;have ha:=hs a Q3;have h3:=Sl (l':=l'.erase a) h2 (fun x hx=>(List.mem_erase_of_ne (fun e=>h1 (by rw[<-e];exact hx))).2 (hs x (by simp[hx])));rw[List.length_erase_of_mem ha]at h3;have:=List.length_pos_of_mem ha;rw[JA];omega
theorem UD.few{lv bu se l}(hk:CK lv)(h:UD lv bu se (fun s k=>C4 s k l)):lv.length<=l.length:=by
 have y:(lv.map (·.1)).Nodup:=by unfold List.Nodup;rw[Xk];exact List.Pairwise.imp (fun h=>Q0) hk.rank
 have E:∀p∈lv.map (·.1),p∈l.map (·.price):=by
  intro p hp;obtain⟨x,u,rfl⟩:=Y4.1 hp;have J:=(hk.nz x u).2.2;have j:=PV hk.rank u;have key:∃s,C4 s (some x.1) l≠0:=by
   obtain h1|h1:=J
   ·refine⟨1,fun e=>h1 ?_⟩
    have:=h 1 (.inl rfl) (some x.1);dsimp only at this;rw[e]at this;unfold FL at this;rw[X0 rfl,show DL lv bu se (some x.1)=F8 lv x.1 from rfl,j]at this;exact this
   refine⟨2,fun e=>h1 ?_⟩;have:=h 2 (.inr rfl) (some x.1);dsimp only at this;rw[e]at this;unfold FL at this;rw[J8 Q1,show DL lv bu se (some x.1)=F8 lv x.1 from rfl,j]at this;exact this
  obtain⟨s,D⟩:=key;obtain⟨o,C,-,i⟩:=Xa9 D;unfold T8 at i
  split at i
  ·cases i
  exact Y4.2 ⟨o,C,XG i⟩
 have:=Sl y E;simpa using this
theorem UD.mild{lv bu se g}(hk:CK lv)(h:UD lv bu se g)(j:∀s k,0<=g s k/\g s k<=1000000000)(D:lv.length<=99999):CT lv bu se:=by
 have y:∀x,FL 1 x=x.1:=fun x=>X0 rfl
 have C:∀x,FL 2 x=x.2:=fun x=>J8 Q1
 refine⟨?_,?_,fun x u=>?_,fun x u=>?_,D⟩
 ·have h1:=h 1 (.inl rfl) none
  have h2:=j 1 none;rw[y]at h1;have i:bu=g 1 none:=h1;omega
 ·have h1:=h 2 (.inr rfl) none
  have h2:=j 2 none;rw[C]at h1;have i:se=g 2 none:=h1;omega
 ·have h1:=h 1 (.inl rfl) (some x.1)
  have h2:=j 1 (some x.1);rw[y]at h1;have i:(F8 lv x.1).1=g 1 (some x.1):=h1;rw[PV hk.rank u]at i;omega
 have h1:=h 2 (.inr rfl) (some x.1);have h2:=j 2 (some x.1);rw[C]at h1;have i:(F8 lv x.1).2=g 2 (some x.1):=h1;rw[PV hk.rank u]at i;omega
def KZ(o:X6):X6:=⟨0,(BV o).1,(BV o).2.1,(BV o).2.2,o.qty⟩
theorem Jp2 o:AB (KZ o)=SQ o.side (T8 o):=by
 rw[<-Ce]
 rfl
theorem Db o:(KZ o).side=o.side:=by unfold KZ BV;split<;>rfl
theorem Uz o:(KZ o).qty=o.qty:=rfl
theorem WS o:(KZ o).kind=2↔o.kind=2:=by
 unfold KZ BV
 split
 ·simp_all
 simp_all
theorem Cf{o}(h:o.kind≠2):(KZ o).price=o.price:=by unfold KZ BV;rw[J8 h]
theorem Jp3 s k l:KT (SQ s k) (l.map KZ)=C4 s k l:=by
 unfold KT C4;rw[YT]
 congr 1
 refine UM fun o _=>?_
 simp only[Function.comp];rw[Jp2]
 by_cases e:o.side=s/\T8 o=k
 ·rw[X0 e,X0 (by rw[e.1,e.2]),Uz]
 rw[J8 e,J8 (fun x=>e (Si x))]
theorem Qe9 o:XE (KZ o)=XE o:=by unfold XE;rw[Db,Uz]
theorem Pk l:T6 (l.map KZ)=(T6 l).map KZ:=by
 unfold T6;rw[Xn]
 congr 1
 refine List.filter_congr fun o _=>?_
 simp only[Function.comp,Qe9]
theorem Lg{F G:X6->Int}:∀(l:List X6)s,(∀o∈l,F (KZ o)=G o)->(l.map KZ).foldl (fun s o=>s+F o) s=l.foldl (fun s o=>s+G o) s:=by
 intro l
 induction l with
 |nil=>intro s _;rfl
 |cons o t j=>
  intro s h;rw[T2,JF,JF,h o Q3,j _ (fun x i=>h x (by simp[i]))]
theorem Jp4 p l:XT p (l.map KZ)=XT p l:=by
 unfold XT;refine Lg l 0 fun o _=>?_
 unfold KP;rw[Db,Uz]
 by_cases hk:o.kind=2
 ·rw[(WS o).2 hk,hk]
  simp
 rw[Cf hk];have h2:¬(KZ o).kind=2:=fun e=>hk ((WS o).1 e)
 simp only[hk,h2]
theorem Jp5 p l:XW p (l.map KZ)=XW p l:=by
 unfold XW;refine Lg l 0 fun o _=>?_
 unfold KR;rw[Db,Uz]
 by_cases hk:o.kind=2
 ·rw[(WS o).2 hk,hk]
  simp
 rw[Cf hk];have h2:¬(KZ o).kind=2:=fun e=>hk ((WS o).1 e)
 simp only[hk,h2]
theorem Qr7 l more:R8 (l.map KZ) more=R8 l more:=by
 unfold R8;rw[Pk]
 congr 1
 rw[Xn,YT];have i:(T6 l).filter ((fun o=> !(o.kind ==2))∘KZ)=(T6 l).filter (fun o=> !(o.kind ==2)):=by
  refine List.filter_congr fun o _=>?_
  simp only[Function.comp]
  by_cases hk:o.kind=2
  ·rw[(WS o).2 hk,hk]
  have h2:¬(KZ o).kind=2:=fun e=>hk ((WS o).1 e)
  rw[Z3 h2,Z3 hk]
 rw[i];refine UM fun o j=>?_
 have:=(S4.1 j).2;exact Cf (by simpa using this)
theorem Qw7 l more:QJ (l.map KZ) more=QJ l more:=by
 unfold QJ;rw[Qr7,Pk];refine UM fun p _=>?_
 unfold DD;rw[Jp4,Jp5]
def Yq(l:List X6):Prop:=∀o∈l,AH o
theorem UD.rel{lv bu se l}(C:Yq l)(h:UD lv bu se (fun s k=>C4 s k l)):UH lv bu se (fun x=>LR (KT x (l.map KZ)))/\Jc (fun x=>LR (KT x (l.map KZ))) (l.map KZ):=by
 have y:MS (l.map KZ):=fun o j=>by
  obtain⟨z,u,rfl⟩:=Y4.1 j;rw[Qe9];have h1:=C z u;unfold XE;rw[V7 h1.2.1.1,V7 h1.2.1.2];obtain e|e:=h1.1
  ·rw[e];rfl
  rw[e];rfl
 refine⟨UH.of (fun s E k=>?_) (fun x v i=>?_),⟨y,fun x=>(Eb _).symm⟩⟩
 ·rw[Eb,Jp3,h s E k]
 unfold LR at i
 split at i
 ·cases i
 rename_i D
 cases i;have J:=Mh (x:=x) y;refine⟨Q0,?_⟩;obtain⟨o,j,rfl⟩:=Sf D;obtain⟨z,u,rfl⟩:=Y4.1 j;have h1:=C z u;unfold KZ;show BV z=_\/BV z=_\/_;unfold BV
 by_cases hk:z.kind=2
 ·rw[X0 hk]
  obtain e|e:=h1.1
  ·exact .inl (by rw[e])
  exact .inr (.inl (by rw[e]))
 rw[J8 hk];have h2:=h1.2.2.resolve_left hk;refine .inr (.inr ⟨z.price,h2.1,h2.2,?_⟩);obtain e|e:=h1.1
 ·exact .inl (by rw[e];rfl)
 exact .inr (by rw[e];rfl)
theorem UD.points{lv bu se l}(hk:CK lv)(i:Yq l)(h:UD lv bu se (fun s k=>C4 s k l))more:ZV lv bu se more=QJ l more:=by obtain⟨h1,h2⟩:=h.rel i;rw[<-Qw6 hk h1 h2,Qw7]
theorem Qw8{l l'}(h:l.Perm l')more:QJ l more=QJ l' more:=by
 have i:(T6 l).Perm (T6 l'):=h.filter _;have hp:(R8 l more).Perm (R8 l' more):=(Xq _).append ((i.filter _).map _);have tr:∀a b c:Int,(decide (a<=b))=true->(decide (b<=c))=true->(decide (a<=c))=true:=fun a b c h1 h2=>by simp at*;omega
 have j:∀a b:Int,(decide (a<=b) ||decide (b<=a))=true:=fun a b=>Q7
 have C:(R8 l more).mergeSort (fun x y=>decide (x<=y))=(R8 l' more).mergeSort (fun x y=>decide (x<=y)):=by refine Aj (le:=fun a b=>a<=b) (fun a b _ _ h1 h2=>Q0) ((Jy tr j _).imp (fun h=>by simpa using h)) ((Jy tr j _).imp (fun h=>by simpa using h)) (((Aq _ _).trans hp).trans (Aq _ _).symm)
 have u:∀p,XT p (T6 l)=XT p (T6 l'):=fun p=>by rw[Dz,Dz];exact Ed (i.map _)
 have D:∀p,XW p (T6 l)=XW p (T6 l'):=fun p=>by rw[Ea,Ea];exact Ed (i.map _)
 unfold QJ;rw[C];refine UM fun p _=>?_
 unfold DD;rw[u,D]
attribute [local go_sem] Oper.semAt_some
theorem Pl sd(hs:V5 sd)n(hn:2<=n)j u b a r S F M N f H reg(hS:B5 M N f H)(hN:N<=100) w (hM:Y0 w b a F M N r f H reg) (a2:∀i,Y1 b r F H i->¬S i) (a3:¬S j) (C:w.cell? (aD j 0)=some (pA b)) (D:w.cell? (aD u 0)=some (I O sd)):SeqStopsK Fence.wide n prog 237 #[pA j,pA u] (fun x:X6=> #[V6 x]) (X4 S) (fun ys=>ys=(H sd).L) (fun pre=>pre <+: (H sd).L) (H sd).L.length w:=by intro l J E W y hJ a4 hY Z;have a0:=U5 w _ C;have a1:=U5 w _ D;have c1:=(y.cell (p:=(aD j 0)) a0).trans C;have c2:=(y.cell (p:=(aD u 0)) a1).trans D;exact Xj5 n hn sd hs l j u b a r S F M N f H reg hS hN J E (fun pre W W' hj hb=>Qr5 hJ hj hb) hY W (hM.below y) a2 a3 c1 c2 Z
theorem Qb0{S}{w:World}(j:∀i,w.heap.size<=i->S i)W l o o'(C:w.heap.size<=l)(h1:W.heap[l]?=some o)(h2:o.isCells=false)(y:o.isWalk=false):X4 S W (W.putObj l o'):=
 ⟨rfl,rfl,rfl,by simp[World.putObj],fun k hk u=>DK (fun e=>u (j k Q0))⟩
theorem Sm n(i:1<=n)b sd w:CallsIn Fence.wide n prog 205 #[pA b,I O sd] w fun e w'=>e=.returned (.func (.func 237) #[] #[pA w.heap.size,pA (w.heap.size+1)])/\w'=(w.alloc (.cells #[pA b] 197)).alloc (.cells #[I O sd] 3):=by
 refine callsIn_of_wp func205 rfl trivial ?_ rfl;simp only[ntmps205,List.size_toArray,List.length_cons,List.length_nil,Nat.reduceAdd,Nat.reduceSub,Array.replicate_succ,Array.replicate_zero,List.push_toArray,List.append_toArray,List.nil_append,List.cons_append]
 gi_wp2
 go_ret;exact⟨rfl,rfl⟩
theorem Cg:(prog.info? 84).map (fun i=>(i.zero,i.size,i.bytes))=some (some (.agg #[I O 0,I O 0,I O 0,I O 0,I O 0]),5,40):=Q4
theorem Ee{W:World}{base base' e size v k xs}(y:base'<=base)(h:W.ownsRow base e size v k xs):W.ownsRow base' e size v k xs:=by
 refine⟨h.1,?_⟩;obtain j|⟨g,cap,i,h1,h2,u⟩:=h.2
 ·exact .inl j
 exact .inr ⟨g,cap,i,h1,U4 y h2,u⟩
theorem Jp6{W:World}{base e size v k xs}(h:W.ownsRow base e size v k xs):∃A c,v=.slice A k c/\∀g,X5 A=some g->base<=g:=by
 rcases h.2 with⟨h1,h2⟩|⟨g,cap,i,h1,h2,u⟩
 ·exact⟨none,0,by rw[h1,h2],fun g e=>by cases e⟩
 exact⟨_,cap,h1,fun j e=>by cases e;exact h2⟩
theorem Xs8{M n f H s}(j:V5 s)(i:B5 M n f H)(h2:n<=100):(H s).L.length<=100:=by have h1:=i.cnt;unfold HS.L E7;rw[UJ];unfold E8 at h1;rw[B6]at h1;obtain rfl|rfl:=j<;>omega
theorem Xj8 n(hn:5<=n)sd(y:V5 sd)b a r F M N f H reg(hS:B5 M N f H)(hN:N<=100)w(hM:Y0 w b a F M N r f H reg):CallsIn Fence.wide n prog 150 #[pA b,I O sd] w fun e w'=>Bz w w'/\∃A c,e=.returned (.tuple #[.slice A (H sd).L.length c,.nilIface])/\X8 w' A (H sd).L.length c 84 5 (X7 U0 (H sd).L)/\∀g,X5 A=some g->w.heap.size<=g:=by
 have h1:1<=n:=Q0;have h2:1<=n-1:=Q0;have d5:Fence.wide.fn 205:=trivial;obtain⟨i0,hi,c5,c6,c7⟩:=W8 Cg;obtain⟨HM,a6,HN⟩:=Xt7 hM hS hN;clear hM hS hN;obtain⟨L,a7⟩:=exq ((H sd).L);rw[a7];refine Av func150 rfl trivial ?_ rfl;simp only[ntmps150,List.size_toArray,List.length_cons,List.length_nil,Nat.reduceAdd,Nat.reduceSub,Array.replicate_succ,Array.replicate_zero,List.push_toArray,List.append_toArray,List.nil_append,List.cons_append]
 gi_upto_region 1 with fail
 gi_cut [13]from 8 (fun c9 wx=>c9=.bool false/\wx=w)
 case first=>
  obtain rfl|rfl:=y
  all_goals
   gi_wp2
   gi_meet
   exact⟨rfl,rfl⟩
 obtain⟨rfl,rfl⟩:=hcut
 gi_wp2_with (gi_at_call 205;refine(Sm _ Q0 b _ _).mono ?_;rintro e w'⟨rfl,rfl⟩)
 have bO:=((Boxed.new wc 91 (.slice none 0 0)).alloc (.cells #[IP (some ⟨b,0,none⟩)] 197)).alloc (.cells #[I O sd] 3);have bB:=(Boxed.new (wc.alloc (.cells #[.slice none 0 0] 91)) 197 (IP (some ⟨b,0,none⟩))).alloc (.cells #[I O sd] 3);have bS:=Boxed.new ((wc.alloc (.cells #[.slice none 0 0] 91)).alloc (.cells #[IP (some ⟨b,0,none⟩)] 197)) 3 (I O sd);simp only[World.size_alloc]at bB bS;have a2:Bz wc (((wc.alloc (.cells #[.slice none 0 0] 91)).alloc (.cells #[IP (some ⟨b,0,none⟩)] 197)).alloc (.cells #[I O sd] 3)):=(((J9 _ wc).alloc Q2 _).alloc Q3 _).alloc Q7 _;have b8:(((wc.alloc (.cells #[.slice none 0 0] 91)).alloc (.cells #[IP (some ⟨b,0,none⟩)] 197)).alloc (.cells #[I O sd] 3)).heap.size=wc.heap.size+3:=Q3;obtain⟨j,a8⟩:=exq (((wc.alloc (.cells #[.slice none 0 0] 91)).alloc (.cells #[IP (some ⟨b,0,none⟩)] 197)).alloc (.cells #[I O sd] 3));rw[a8]at bO bB bS a2 b8|-;clear a8;have hL:(H sd).L.length<=100:=Xs8 y a6 HN;have a4:=Pl sd y (n-1) Q0 (wc.heap.size+1) (wc.heap.size+1+1) b a r (fun i=>i=wc.heap.size\/j.heap.size<=i) F M N f H reg a6 HN j (HM.below a2)
  (fun i hi e=>by have:=HM.fp hi;obtain e|e:=e<;>omega) (fun e=>by obtain e|e:=e<;>omega) bB.cell bS.cell
 rw[a7]at hL a4;have b2:=J6 a4;clear a4;refine wpIn_rangeFunc_ownH rfl h1 (gf:=237) (lb:= #[IP (some ⟨wc.heap.size+1,0,none⟩),IP (some ⟨wc.heap.size+1+1,0,none⟩)]) rfl trivial (enters_of func237 Q4 rfl)
  b2 (fun h k=>h.trans k (fun i h=>.inl h)) (Qb0 (fun i hi=>.inr hi)) Q5 (fun _=>rfl)
  (fun pre W=>(∃v,Boxed W wc.heap.size 91 v/\W.ownsRow j.heap.size 84 5 v pre.length (X7 U0 pre)/\True)/\(Bz wc W/\j.heap.size<=W.heap.size))
  (fun _ _ _=>False)
  (OwnFrom.and (Own.from (holdsRow_own j.heap.size wc.heap.size 91 84 5 (fun pre:List X6=>pre.length) (fun pre=>X7 U0 pre) (fun _ _=>True)) _) (OwnFrom.and (ownFrom_below Q2 Q0) (fun _ X Y c8 y Z hr=>U4 y Z.size)))
  (fun _ _ _ _ _ y _ _=>y)
  ⟨⟨_,bO,⟨rfl,.inl ⟨rfl,rfl⟩⟩,trivial⟩,a2,X3 _⟩
  (fun x a' W=>∃E,j.heap.size<=E/\J7 W E 84 (Z8 x)/\a'={tmps:= #[IP (some ⟨b,0,none⟩),I O sd,undef,undef,.slice none 0 0,.nilIface,IP (some ⟨wc.heap.size,0,none⟩),IP (some ⟨E,0,none⟩),u8,u9,u10,u11,u12,.bool false,u14,IP (some ⟨b,0,none⟩),I O sd,.func (.func 237) #[] #[IP (some ⟨wc.heap.size+1,0,none⟩),IP (some ⟨wc.heap.size+1+1,0,none⟩)],V6 x,u19,u20,u21,u22,u23],defers:=[]})
  (fun x a' _ X Y c8 y Z hr=>by obtain⟨E,h1,h2,h3⟩:=y;exact⟨E,h1,h2.grown Z (fun e=>by obtain⟨_,o,ho,hc⟩:=hr E e.symm;rw[show X.heap[E]?=_ from h2]at ho;cases ho;cases hc),h3⟩)
  ?assign ?body ?done ?stop
 case assign=>
  rintro l pre x W K⟨⟨v,C,u,_⟩,J,a1⟩hK;obtain⟨id,side,d6,d7,d8⟩:=x;simp only[V6]
  gi_wp2
  exact hK _ _ ((KeepsOthers.alloc _ _).from _) (B9 ((J9 _ W).alloc Q2 _) _)
   ⟨⟨v,C.alloc _,u.alloc _,trivial⟩,J.alloc J.size _,Q7⟩ ⟨W.heap.size,a1,Z5 _ _ _,rfl⟩
 case body=>
  rintro l pre x a' W hl⟨rc,hr⟩⟨⟨v,C,u,_⟩,J,a1⟩⟨E,d1,bX,rfl⟩d3;have cO:=C.cell;obtain⟨x0,x1,x2,x3,x4⟩:=D7 bX;have d0:1<=n-1-1:=Q0;have d4:=C.lt;have d2:=J.size;have b1:wc.heap.size<=j.heap.size:=Q0
  gi_wp2_with (gi_at_builtin;refine wpListIn_append_own _ rfl _ _ 91 rfl j.heap.size 84 i0 _ 5 40 underlying91 hi c5 c6 c7 rfl Q1 _ _ _ rfl (u.alloc _) ⟨W.heap.size,0,none⟩ 1 1 (U0 x) rfl rfl (XF (cs:=Z8 x) (t:=84) (fr:=(0,0)) (QN W _)) (BL _) Q9 Q0 Q7 ?_;intro v' w1 a3 a9 _;have a5:Boxed w1 wc.heap.size 91 v:=(C.alloc _).kept a9 (C.not_row Q1 u);have c1:=a5.cell;have f1:=a5.frozen;obtain⟨gg,cap,rfl⟩:=ownsRow_succ a3;go_frame)
  have Z:(W.alloc (.cells (Z8 x) 84)).grownBy w1 v.ownBlock:=a9;obtain⟨-,b9,-,b5,a0⟩:=C.appended Q1 (Ee b1 u) J.size Q2 (Ee b1 a3) Z;have b0:w1.ownsRow j.heap.size 84 5 (.slice (some ⟨gg,0,none⟩) (pre.length+1) cap) (pre.length+1) (X7 U0 pre++U0 x):=a3;refine⟨b5.from _,⟨a0.os,a0.tape,a0.output,U4 Q3 (U4 Z.size (by simp[World.setCell])),fun k hk hn=>?_⟩,⟨_,b9,?_,trivial⟩,J.trans a0,U4 a1 (U4 Q3 (U4 Z.size (by simp[World.setCell])))⟩
  ·refine(Xf w1 _ _ k (fun e=>hn (.inl e))).trans ((Z.block k Q7 (fun e=>?_)).trans (Below.heap_alloc W _ k hk))
   exact hn (.inr (u.lt k e.symm).1)
  rw[B6,AQ];exact b0.kept (grownBy_setCell' w1 _ _) (.inr (a5.not_row Q1 b0).symm)
 case done=>
  rintro D zs W hD rfl⟨⟨v,C,u,_⟩,J,a1⟩hK;have cO:=C.cell
  gi_wp2
  refine⟨Q3,.inl ⟨_,_,rfl,run_takeDeferred hK,?_⟩⟩;obtain⟨A,c,rfl,hA⟩:=Jp6 u;refine⟨_,results_tmp2 rfl _ _ _,?_,A,c,rfl,Ee (U9 _) (ownsRow_putObj u _ hK rfl),fun g e=>?_⟩
  ·exact J.trans (belowK_b (w:=wc) Q2 W D _ _ Q0 hK rfl rfl)
  have:=hA g e;omega
 rintro D c pre W _ _ h _;exact h.elim
attribute [local go_sem] Oper.semAt_some
def Yw(L:List X6):X6:=L.headD D4
def Yx:List X6->Int
 | []=>8
 |_::_=>0
theorem Ql9{P:Program}{j:Func}{p q:Tmp}{i u:TypeId}(h:j.results= #[.cell p i,.cell q u])(tmps:Array Value)(w:World)(g g2:Nat)(t:TypeId)(cs:Array Value)(v:Value)(fr:Nat×Nat)(d:TypeDesc)(hp:tmps.getD p undef=pA g) (J:tmps.getD q undef=pA g2) (C:w.heap[g]?=some (.cells cs t fr))(Z:P.underlying i=some d) (y:(match d with| .struct _| .array _ _=>true|_=>false)=true) (D:(P.info? i).map (·.size)=some cs.size)
  (h2:(loadVar u (aD g2 0)).run P w=.ok v w):(results j tmps).run P w=.ok (.tuple #[.agg cs,v]) w:=by
 have E:tmps[p]?.getD undef=pA g:=by simpa using hp
 have N:tmps[q]?.getD undef=pA g2:=by simpa using J
 simp[results,h,E,N,asAddr,run_loadVar_row w g t i cs fr d C Z y D,h2,Sem.run_bind,Result.andThen]
theorem Xb1{w g v}(h:w.cell? (aD g 0)=some v):(loadVar 39 (aD g 0)).run prog w=.ok v w:=by simp[loadVar,go_sem,h]
theorem Lh{tmps W g o v}(i:tmps.getD 4 undef=pA g)(j:tmps.getD 5 undef=pA (g+1))(u:J7 W g 84 (Z8 o))(y:Boxed W (g+1) 39 v):(results Tryz.f254 tmps).run prog W=.ok (.tuple #[V6 o,v]) W:=
 Ql9 Tryz.results254 tmps W g (g+1) 84 (Z8 o) v (0,0) _ i j u underlying84 rfl (by show(prog.info? 84).map (·.size)=some 5;kernel_rfl) (Xb1 y.cell)
def Xn7(w:World)(c:Code)(pre:List X6)(W:World):Prop:=c=.ret/\(∃x,pre=[x]/\J7 W w.heap.size 84 (Z8 x))/\Boxed W (w.heap.size+1) 39 .nilIface/\Bz w W
def Xr0(w:World)(pre:List X6)(W:World):Prop:=pre=[]/\J7 W w.heap.size 84 (Z8 D4)/\Boxed W (w.heap.size+1) 39 .nilIface/\Bz w W
theorem Kc{X Y g B t cs row}(h:J7 X g t cs)(u:X.grownBy Y row)(y:∀r,row=some r->B<=r/\∃o,X.heap[r]?=some o/\o.isCells=false):J7 Y g t cs:=
 h.grown u (fun e=>by obtain⟨_,o,i,j⟩:=y g e.symm;rw[show X.heap[g]?=_ from h]at i;cases i;cases j)
theorem Qb1{W g o o' v v'}(y:J7 W g 84 (Z8 o))(j:Boxed W (g+1) 39 v)W'(e:W'=(((((W.setCell (aD g 0) (I O o'.id)).setCell (aD g 1) (I O o'.side)).setCell (aD g 2) (I O o'.kind)).setCell (aD g 3) (I O o'.price)).setCell (aD g 4) (I O o'.qty)).setCell (aD (g+1) 0) v'):J7 W' g 84 (Z8 o')/\Boxed W' (g+1) 39 v'/\KeepsOthers W W'/\(∀B,B<=g->Below B W W')/\W.heap.size<=W'.heap.size:=by
 subst e;have u:J7 W (g+1) 39 #[v]:=j;refine⟨?_,?_,?_,fun B i=>?_,by simp[World.setCell]⟩
 ·exact ZR (Z0 (Z0 (Z0 (Z0 (Z0 y 0 _) 1 _) 2 _) 3 _) 4 _) Q3 _
 ·exact Z0 (ZR (ZR (ZR (ZR (ZR u Q3 _) Q3 _) Q3 _) Q3 _) Q3 _) 0 _
 ·exact(((((Xd _ _ _).trans (Xd _ _ _)).trans (Xd _ _ _)).trans (Xd _ _ _)).trans (Xd _ _ _)).trans (Xd _ _ _)
 exact((((((J9 B W).setCell (p:=(aD g 0)) i _).setCell (p:=(aD g 1)) i _).setCell (p:=(aD g 2)) i _).setCell (p:=(aD g 3)) i _).setCell (p:=(aD g 4)) i _).setCell (p:=(aD (g+1) 0)) (by show B<=g+1;omega) _
theorem Xj9 n(hn:5<=n)sd(u:V5 sd)b a r F M N f H reg(hS:B5 M N f H)(hN:N<=100)w(hM:Y0 w b a F M N r f H reg):CallsIn Fence.wide n prog 254 #[pA b,I O sd] w fun e w'=>Bz w w'/\e=.returned (.tuple #[V6 (Yw (H sd).L),Y9 (Yx (H sd).L)]):=by
 have h1:1<=n:=Q0;have h2:1<=n-1:=Q0;have d0:Fence.wide.fn 205:=trivial;obtain⟨HM,b5,HN⟩:=Xt7 hM hS hN;clear hM hS hN;obtain⟨L,b0⟩:=exq ((H sd).L);rw[b0];refine Av func254 rfl trivial ?_ rfl;simp only[ntmps254,List.size_toArray,List.length_cons,List.length_nil,Nat.reduceAdd,Nat.reduceSub,Array.replicate_succ,Array.replicate_zero,List.push_toArray,List.append_toArray,List.nil_append,List.cons_append]
 gi_upto_region 1 with fail
 gi_cut [12]from 7 (fun c6 wx=>c6=.bool false/\wx=(w.alloc (.cells (Z8 D4) 84)).alloc (.cells #[.nilIface] 39))
 case first=>
  obtain rfl|rfl:=u
  all_goals
   gi_wp2
   gi_meet
   exact⟨rfl,rfl⟩
 obtain⟨rfl,rfl⟩:=hcut
 gi_wp2_with (gi_at_call 205;refine(Sm _ Q0 b _ _).mono ?_;rintro e w'⟨rfl,rfl⟩)
 have b2:=(((Z5 w 84 (Z8 D4)).alloc (.cells #[.nilIface] 39)).alloc (.cells #[IP (some ⟨b,0,none⟩)] 197)).alloc (.cells #[I O sd] 3);have a5:=((Boxed.new (w.alloc (.cells (Z8 D4) 84)) 39 .nilIface).alloc (.cells #[IP (some ⟨b,0,none⟩)] 197)).alloc (.cells #[I O sd] 3);have bB:=(Boxed.new ((w.alloc (.cells (Z8 D4) 84)).alloc (.cells #[.nilIface] 39)) 197 (IP (some ⟨b,0,none⟩))).alloc (.cells #[I O sd] 3);have bS:=Boxed.new (((w.alloc (.cells (Z8 D4) 84)).alloc (.cells #[.nilIface] 39)).alloc (.cells #[IP (some ⟨b,0,none⟩)] 197)) 3 (I O sd);simp only[World.size_alloc]at a5 bB bS;have a1:Bz w ((((w.alloc (.cells (Z8 D4) 84)).alloc (.cells #[.nilIface] 39)).alloc (.cells #[IP (some ⟨b,0,none⟩)] 197)).alloc (.cells #[I O sd] 3)):=((((J9 _ w).alloc Q2 _).alloc Q3 _).alloc Q7 _).alloc Q7 _;have c5:((((w.alloc (.cells (Z8 D4) 84)).alloc (.cells #[.nilIface] 39)).alloc (.cells #[IP (some ⟨b,0,none⟩)] 197)).alloc (.cells #[I O sd] 3)).heap.size=w.heap.size+4:=Q3;obtain⟨W0,b1⟩:=exq ((((w.alloc (.cells (Z8 D4) 84)).alloc (.cells #[.nilIface] 39)).alloc (.cells #[IP (some ⟨b,0,none⟩)] 197)).alloc (.cells #[I O sd] 3));rw[b1]at b2 a5 bB bS a1 c5|-;clear b1;have a7:=Pl sd u (n-1) Q0 (w.heap.size+1+1) (w.heap.size+1+1+1) b a r (fun i=>W0.heap.size<=i) F M N f H reg b5 HN W0 (HM.below a1)
  (fun i hi e=>by have:=HM.fp hi;omega) (fun e=>Q0) bB.cell bS.cell
 rw[b0]at a7;have b8:=J6 a7;clear a7;refine wpIn_rangeFunc_ownH rfl h1 (gf:=237) (lb:= #[IP (some ⟨w.heap.size+1+1,0,none⟩),IP (some ⟨w.heap.size+1+1+1,0,none⟩)]) rfl trivial (enters_of func237 Q4 rfl)
  b8 (fun h k=>h.trans k (fun i h=>.inl h)) (Qb0 (fun i hi=>hi)) Q5 (fun _=>rfl)
  (fun pre W=>Xr0 w pre W/\W0.heap.size<=W.heap.size) (Xn7 w)
  (OwnFrom.and (fun s X Y a8 u C E=>⟨u.1,Kc u.2.1 C E,Kc u.2.2.1 C E,u.2.2.2.grown C u.2.2.2.size (fun k e=>by have:=(E k e).1;omega)⟩) (fun _ X Y a8 u C E=>U4 u C.size))
  (fun c s X Y a8 u C E=>⟨u.1,u.2.1.imp (fun x h=>⟨h.1,Kc h.2 C E⟩),Kc u.2.2.1 C E,u.2.2.2.grown C u.2.2.2.size (fun k e=>by have:=(E k e).1;omega)⟩)
  ⟨⟨rfl,b2,a5,a1⟩,X3 _⟩
  (fun x a' W=>∃Z,W0.heap.size<=Z/\J7 W Z 84 (Z8 x)/\a'={tmps:= #[IP (some ⟨b,0,none⟩),I O sd,undef,undef,IP (some ⟨w.heap.size,0,none⟩),IP (some ⟨w.heap.size+1,0,none⟩),IP (some ⟨Z,0,none⟩),u7,u8,u9,u10,u11,.bool false,u13,u14,IP (some ⟨b,0,none⟩),I O sd,.func (.func 237) #[] #[IP (some ⟨w.heap.size+1+1,0,none⟩),IP (some ⟨w.heap.size+1+1+1,0,none⟩)],V6 x,u19,u20,u21],defers:=[]})
  (fun x a' _ X Y a8 u C E=>by obtain⟨Z,h1,h2,h3⟩:=u;exact⟨Z,h1,Kc h2 C E,h3⟩)
  ?assign ?body ?done ?stop
 case assign=>
  rintro l pre x W K⟨⟨hp,j,y,J⟩,a6⟩hK;simp only[V6]
  gi_wp2
  exact hK _ _ ((KeepsOthers.alloc _ _).from _) (B9 ((J9 _ W).alloc Q2 _) _)
   ⟨⟨hp,j.alloc _,y.alloc _,J.alloc J.size _⟩,Q7⟩ ⟨W.heap.size,a6,Z5 _ _ _,rfl⟩
 case body=>
  rintro l pre x a' W hl⟨rc,E⟩⟨⟨rfl,j,y,J⟩,a6⟩⟨Z,c8,bX,rfl⟩c9;obtain⟨x0,x1,x2,x3,x4⟩:=D7 bX;obtain⟨z0,z1,z2,z3,z4⟩:=D7 j;have f0:=K0 j 0;have f1:=K0 j 1;have f2:=K0 j 2;have f3:=K0 j 3;have f4:=K0 j 4;have cE:=y.cell;have fE:=y.frozen;have c7:1<=n-1-1:=Q0
  gi_wp2_with fail
  obtain⟨a4,a2,a3,a0,-⟩:=Qb1 (o':=x) (v':=.nilIface) j y _ rfl;exact⟨a3.from _,rfl,⟨x,rfl,a4⟩,a2,J.trans (a0 _ Q2)⟩
 case done=>
  rintro D zs W hD rfl⟨⟨hp,j,y,J⟩,a6⟩hK;subst hp;obtain⟨z0,z1,z2,z3,z4⟩:=D7 j;have f0:=K0 j 0;have f1:=K0 j 1;have f2:=K0 j 2;have f3:=K0 j 3;have f4:=K0 j 4;have cE:=y.cell;have fE:=y.frozen
  gi_wp2
  obtain⟨a4,a2,a3,a0,-⟩:=Qb1 (o':=D4) (v':=.iface 52 (I O 8)) j y _ rfl;have a9:=a3.same _ _ hK rfl;refine⟨Q3,.inl ⟨_,_,rfl,run_takeDeferred a9,?_⟩⟩;refine⟨_,Lh (g:=w.heap.size) rfl rfl ((DK Q0).trans a4) ((DK Q0).trans a2),?_,rfl⟩;exact(J.trans (a0 _ Q2)).trans (belowK_b (w:=w) Q2 _ D _ _ Q0 a9 rfl rfl)
 rintro D c pre W hD b9⟨rfl,⟨x,rfl,j⟩,y,J⟩hK;obtain⟨Lr,rfl⟩:∃Lr,L=x::Lr:=by obtain⟨t,rfl⟩:=b9;exact⟨t,rfl⟩
 gi_wp2
 refine⟨Q3,.inl ⟨_,_,rfl,run_takeDeferred hK,?_⟩⟩;refine⟨_,Lh (g:=w.heap.size) rfl rfl ((DK Q0).trans j) ((DK Q0).trans y),?_,rfl⟩;exact J.trans (belowK_b (w:=w) Q2 W D _ _ Q0 hK rfl rfl)
theorem Qb2{H:Int->HS}{sd}(i:V5 sd):V1 sd (H 1).L (H 2).L=(H sd).L:=by
 unfold V1;obtain rfl|rfl:=i
 ·rw[X0 rfl]
 rw[J8 Q1]
theorem Xw w b G L1 L2(h:JC w b G L1 L2)sd(j:V5 sd):Calls prog 150 #[pA b,I O sd] w fun e w'=>Bz w w'/\∃A c,e=.returned (.tuple #[.slice A (V1 sd L1 L2).length c,.nilIface])/\X8 w' A (V1 sd L1 L2).length c 84 5 (X7 U0 (V1 sd L1 L2))/\∀g,X5 A=some g->w.heap.size<=g:=by obtain⟨a,F,M,n,r,f,H,reg,i,u,y,rfl,rfl⟩:=h;rw[Qb2 j];exact DU.1 (Xj8 5 Q0 sd j b a r F M n f H reg u i.ar.le w i)
theorem Li w b G L1 L2(h:JC w b G L1 L2)sd(j:V5 sd):Calls prog 254 #[pA b,I O sd] w fun e w'=>Bz w w'/\e=.returned (.tuple #[V6 (Yw (V1 sd L1 L2)),Y9 (Yx (V1 sd L1 L2))]):=by obtain⟨a,F,M,n,r,f,H,reg,i,u,y,rfl,rfl⟩:=h;rw[Qb2 j];exact DU.1 (Xj9 5 Q0 sd j b a r F M n f H reg u i.ar.le w i)
def Zm(p s:Int):Int:=max 1 (p-p*s/10000)
def Ze(p s:Int):Int:=min 1000000 (p+p*s/10000)
theorem Xk0 p s w(h1:1<=p)(h2:p<=1000000)(i:0<=s)(j:s<=10000):Calls prog 96 #[I O p,I O s] w fun e w'=>e=.returned (.tuple #[I O (Zm p s),I O (Ze p s),.nilIface])/\Bz w w':=by
 go_enter func96,ntmps96
 have u:0<=p*s:=Int.mul_nonneg Q0 i;have y:p*s<=10000000000:=NH (Int.mul_le_mul h2 j i Q0) Q0;go_wp2_with (go_at_call 140;refine(RC _ _ _ _ _ Q3).mono ?_;rintro e w'⟨rfl,rfl⟩)
 all_goals
  go_ret3;exact⟨Qd4 (by unfold Zm;omega) (by unfold Ze;omega),(Q5.alloc Q2 _).alloc Q3 _⟩
theorem Xb2 p s w(h:¬(1<=p/\p<=1000000/\0<=s/\s<=10000)):Calls prog 96 #[I O p,I O s] w fun e w'=>e=.returned (.tuple #[I O 0,I O 0,.iface 52 (I O 2)])/\Bz w w':=by
 by_cases h1:1<=p
 ·by_cases h2:p<=1000000
  ·by_cases j:0<=s
   ·have i:decide (s<=10000)=false:=by simp;omega
    clear h;go_enter func96,ntmps96
    go_wp2_with (go_at_call 140;refine(RC _ _ _ _ _ Q3).mono ?_;rintro e w'⟨rfl,rfl⟩)
    go_ret3;exact⟨rfl,(Q5.alloc Q2 _).alloc Q3 _⟩
   have i:decide (0<=s)=false:=by simp;omega
   clear h j;go_enter func96,ntmps96
   go_wp2_with (go_at_call 140;refine(RC _ _ _ _ _ Q3).mono ?_;rintro e w'⟨rfl,rfl⟩)
   go_ret3;exact⟨rfl,(Q5.alloc Q2 _).alloc Q3 _⟩
  have i:decide (p<=1000000)=false:=by simp;omega
  clear h h2;go_enter func96,ntmps96
  go_wp2_with (go_at_call 140;refine(RC _ _ _ _ _ Q3).mono ?_;rintro e w'⟨rfl,rfl⟩)
  go_ret3;exact⟨rfl,Q5.alloc Q2 _⟩
 have i:decide (1<=p)=false:=by simp;omega
 clear h h1;go_enter func96,ntmps96
 go_wp2_with (go_at_call 140;refine(RC _ _ _ _ _ Q3).mono ?_;rintro e w'⟨rfl,rfl⟩)
 go_ret3;exact⟨rfl,Q5.alloc Q2 _⟩
