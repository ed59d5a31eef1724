/- Parts. -/
import Derived.Test.YtfoikonjjojkaaaGreatDoorZt14
set_option linter.unusedVariables false
set_option maxRecDepth 100000
set_option maxHeartbeats 8000000
open Go.Proofs.Tryz
open Go.Value renaming int→I,pointer→IP
open Go.IntKind renaming i64→O
namespace Go.Proofs.YtfoikonjjojkaaaGreatDoor
open Go.RowKit
set_option linter.unusedSimpArgs false
def KE(L:List X6)(o:X6):Int:=if UG o=false then 1 else if KS o=false then 2 else if(B4 L o.id).isSome=true then 9 else if 100<=L.length then 12 else 0
def CQ(L:List X6)(o:X6):List X6:=if KE L o=0 then L++[U6 o]else L
theorem Uj:(prog.info? 84).map (fun i=>(i.zero,i.size,i.bytes))=some (some (.agg #[I O 0,I O 0,I O 0,I O 0,I O 0]),5,40):=Q4
theorem Kd{w w1 row}(h:w.grownBy w1 row):X4 (fun i=>row=some i) w w1:=⟨h.os,h.tape,h.output,h.size,fun i j u=>h.block i j (fun e=>u e.symm)⟩
theorem WT{B w w1 w2 A}(h:Below B w w1)(C:w1.grownBy w2 (X5 A))(j:∀g,X5 A=some g->B<=g)(u:B<=w1.heap.size):Below B w w2:=h.trans ((Kd C).below (fun i e=>j i e) u)
theorem Qu{A1 A2 S B}(i:∀g,X5 A2=some g->X5 A1=some g\/g=S)(h1:∀g,X5 A1=some g->B<=g)(h2:B<=S):∀g,X5 A2=some g->B<=g:=fun g j=>by
 obtain e|e:=i g j
 ·exact h1 g e
 rw[e];exact h2
theorem Qp{g0 B}(h:B<=g0):∀g,X5 (sA g0)=some g->B<=g:=fun g i=>by have h2:some g0=some g:=i;have:=XG h2;omega
theorem Jp9{w g t p}(h:w.heap[g]?=some (.cells (Z8 p) t (0,0)))(Z:g<w.heap.size):C0 w U0 5 (sA g) 1 [p]:=by
 refine⟨rfl,fun _=>⟨g,0,rfl,Z,fun i E j u hu=>?_⟩⟩;have J:i=0:=by simp at E;omega
 subst J;have C:J7 w g t (Z8 p):=h;have D:=X9 C j;simp only[Nat.zero_mul,Nat.zero_add];rw[D];have a0:(U0 p)[j]?=some u:=hu;rw[<-a0,<-Array.getElem?_toList]
 rfl
def ZC(w0:World)(n N:Nat)(xs zs:List Value)(o:X6)(b1 b6 b8 b9:Bool)(v1 v6 v8 v9:Value)(w:World):Prop:=
 Bz w0 w/\(b6=true->b1=true)/\(b9=true->b6=true)/\∃g1 g8 A6 c6,(b1=true->v1=.slice (sA g1) 0 0/\w0.heap.size<=g1/\g1<w.heap.size/\(b6=false->X8 w (sA g1) 0 0 84 5 []))/\(b6=true->v6=.slice A6 n c6/\(∀g,X5 A6=some g->w0.heap.size<=g/\g<w.heap.size)/\(b9=false->X8 w A6 n c6 84 5 xs))/\(b8=true->v8=.slice (sA g8) 1 1/\g8<w.heap.size/\(b9=false->C0 w U0 5 (sA g8) 1 [o])/\(b1=true->g1≠g8)/\(b6=true->X5 A6≠some g8))/\(b9=true->∃A9 c9,v9=.slice A9 N c9/\X8 w A9 N c9 84 5 zs/\∀g,X5 A9=some g->w0.heap.size<=g)
section
variable {w0 w w':World} {n N:Nat} {xs zs:List Value} {o:X6} {b1 b6 b8 b9:Bool} {v1 v6 v8 v9:Value}
theorem ZC.start(h:Bz w0 w):ZC w0 n N xs zs o false false false false v1 v6 v8 v9 w:=
 ⟨h,fun e=>(by cases e),fun e=>(by cases e),0,0,none,0,fun e=>(by cases e),fun e=>(by cases e),fun e=>(by cases e),fun e=>(by cases e)⟩
theorem ZC.mk1(h:ZC w0 n N xs zs o false b6 b8 b9 v1 v6 v8 v9 w):ZC w0 n N xs zs o true b6 b8 b9 (.slice (sA w.heap.size) 0 0) v6 v8 v9 (w.alloc (.cells #[] 84)):=by
 obtain⟨u,E,Z,g1,D,A6,c6,-,-,J,-⟩:=h;have C:b6=false:=by cases b6 with|false=>rfl|true=>cases E rfl
 subst C;have i:b9=false:=by cases b9 with|false=>rfl|true=>cases Z rfl
 subst i;have j:Bz w (w.alloc (.cells #[] 84)):=Q5.alloc Q2 _;refine⟨u.trans (j.mono u.size),fun _=>rfl,fun e=>(by cases e),w.heap.size,D,none,0,fun _=>⟨rfl,u.size,Q3,fun _=>X8.made _ _ _⟩,fun e=>(by cases e),fun e=>?_,fun e=>(by cases e)⟩;obtain⟨k1,k2,k3,-⟩:=J e;exact⟨k1,D0 k2 j.size,fun i=>(k3 i).below j Q2,fun _ e=>Q0,fun e=>(by cases e)⟩
theorem ZC.mk8(h:ZC w0 n N xs zs o b1 b6 false false v1 v6 v8 v9 w):ZC w0 n N xs zs o b1 b6 true false v1 v6 (.slice (sA w.heap.size) 1 1) v9 (w.alloc (.cells (Z8 o) 84)):=by
 obtain⟨E,a0,a1,g1,g8,Z,c6,h1,D,-,-⟩:=h;have i:Bz w (w.alloc (.cells (Z8 o) 84)):=Q5.alloc Q2 _;refine⟨E.trans (i.mono E.size),a0,fun e=>(by cases e),g1,w.heap.size,Z,c6,fun e=>?_,fun e=>?_,fun _=>⟨rfl,Q3,fun _=>Jp9 (QN w _) Q3,fun e=>?_,fun e f=>?_⟩,fun e=>(by cases e)⟩
 ·obtain⟨u,j,C,k4⟩:=h1 e
  exact⟨u,j,D0 C i.size,fun e6=>(k4 e6).below i⟩
 ·obtain⟨u,j,C⟩:=D e
  exact⟨u,fun g J=>⟨(j g J).1,D0 (j g J).2 i.size⟩,fun e9=>(C e9).below i⟩
 ·have:=(h1 e).2.2.1;omega
 have:=((D e).2.1 _ f).2;omega
theorem ZC.get1(h:ZC w0 n N xs zs o true false b8 b9 v1 v6 v8 v9 w):∃j,v1=.slice (sA j) 0 0/\X8 w (sA j) 0 0 84 5 []/\∀A' c' w',X8 w' A' n c' 84 5 xs->w.grownBy w' (some j)->(∀g,X5 A'=some g->X5 (some ((aD j 0):Addr))=some g\/g=w.heap.size)->ZC w0 n N xs zs o true true b8 b9 v1 (.slice A' n c') v8 v9 w':=by
 obtain⟨C,a1,a0,j,g8,A6,c6,h1,-,h8,-⟩:=h;have u:b9=false:=by cases b9 with|false=>rfl|true=>cases a0 rfl
 subst u;obtain⟨J,Z,k3,k4⟩:=h1 rfl;refine⟨j,J,k4 rfl,fun A' c' w' E hg ha=>?_⟩;have hk:=Kd hg;have hs:=hk.size;have D:∀g,X5 A'=some g->g=j\/g=w.heap.size:=fun g e=>(ha g e).imp (fun e=>(XG e).symm) id
 refine⟨C.trans (hk.below (fun i e=>by cases e;exact Z) C.size),fun _=>rfl,fun e=>(by cases e),j,g8,A',c',fun _=>⟨J,Z,Q0,fun e=>(by cases e)⟩,fun _=>⟨rfl,fun g e=>⟨by have:=C.size;obtain e|e:=D g e<;>omega,E.lt e⟩,fun _=>E⟩,fun e=>?_,fun e=>(by cases e)⟩;obtain⟨q1,q2,q3,q4,-⟩:=h8 e;have q5:=q4 rfl;exact⟨q1,Q0,fun u=>(q3 u).keeps hk (fun g e f=>by cases e;cases f;exact q5 rfl),q4,fun _ f=>by obtain e|e:=D _ f<;>omega⟩
theorem ZC.get6(h:ZC w0 n N xs zs o b1 true b8 false v1 v6 v8 v9 w):∃i j,v6=.slice i n j/\X8 w i n j 84 5 xs/\(b8=true->∃u,v8=.slice (sA u) 1 1/\C0 w U0 5 (sA u) 1 [o])/\∀A' c' w',X8 w' A' N c' 84 5 zs->w.grownBy w' (X5 i)->(∀g,X5 A'=some g->X5 i=some g\/g=w.heap.size)->ZC w0 n N xs zs o b1 true b8 true v1 v6 v8 (.slice A' N c') w':=by
 obtain⟨E,a0,a1,g1,u,i,j,h1,h6,D,-⟩:=h;obtain⟨k1,C,k3⟩:=h6 rfl;refine⟨i,j,k1,k3 rfl,fun e=>⟨u,(D e).1,(D e).2.2.1 rfl⟩,fun A' c' w' hr Z ha=>?_⟩;have hs:=(Kd Z).size;refine⟨WT E Z (fun g e=>(C g e).1) E.size,a0,fun _=>rfl,g1,u,i,j,fun e=>?_,fun _=>⟨k1,fun g e=>⟨(C g e).1,by have:=(C g e).2;omega⟩,fun e=>(by cases e)⟩,fun e=>?_,fun _=>⟨A',c',rfl,hr,Qu ha (fun g e=>(C g e).1) E.size⟩⟩
 ·obtain⟨J,q2,q3,-⟩:=h1 e
  exact⟨J,q2,Q0,fun e=>(by cases e)⟩
 obtain⟨J,q2,-,q4⟩:=D e;exact⟨J,Q0,fun e=>(by cases e),q4⟩
end
theorem Xb6 w B t cs o0 A L(h:KY w B t cs o0 A L)(hn:L.length<=100000)o:Calls prog 75 #[IP (some (aD B o0)),V6 o] w fun e w'=>e=.returned (I O (KE L o))/\KV w w' B t cs o0 A (CQ L o):=by
 have d9:Bz w (w.alloc (.cells (Z8 o) 84)):=Q5.alloc Q2 _;obtain⟨HX,HR,HB⟩:=Xt7 (Z5 w 84 (Z8 o)) h d9;have f6:=h.blt;have e2:L.length<=100000:=hn;unfold V6;obtain⟨i0,e1,e4,e5,e6⟩:=W8 Uj;obtain⟨x0,x1,x2,x3,x4⟩:=D7 HX;have f3:=K0 HX 3;clear h d9 hn
 by_cases hs:¬(1<=o.side/\o.side<=2)
 ·have HS:=J6 (show(decide (1<=o.side) &&decide (o.side<=2))=false by simp;omega)
  have i:=J6 (show KE L o=1 by unfold KE;rw[X0 (by unfold UG;simp;omega)]);clear hs;go_enter func75,ntmps75
  go_wp2_with fail
  refine(VY _ _ _ _).mono ?_;rintro e w'⟨rfl,rfl⟩;rw[HS.out];go_wp2;go_ret;exact⟨JK (by rw[i.out]),by unfold CQ;rw[i.out,J8 Q1];exact RF HR HB⟩
 have e3:1<=o.side/\o.side<=2:=Q0;have HS:=J6 (show(decide (1<=o.side) &&decide (o.side<=2))=true by simp;omega)
 by_cases u:o.id<1
 ·have d1:=V7 u
  have i:=J6 (show KE L o=1 by unfold KE;rw[X0 (by unfold UG;simp;omega)]);clear u hs e3;go_enter func75,ntmps75
  go_wp2_with fail
  refine(VY _ _ _ _).mono ?_;rintro e w'⟨rfl,rfl⟩;rw[HS.out];go_wp2;go_ret;exact⟨JK (by rw[i.out]),by unfold CQ;rw[i.out,J8 Q1];exact RF HR HB⟩
 have d1:=V9 u;have a4:=J6 (show UG o=true by unfold UG;simp;omega);clear u hs e3;go_enter func75,ntmps75
 go_wp2_with fail
 refine(VY _ _ _ _).mono ?_;rintro e w'⟨rfl,rfl⟩;rw[HS.out];go_upto_if 16 with fail
 go_cut [17] (fun g2 wx=>J7 wx (zS w) 84 (Z8 (U6 o))/\Bz w wx)
 case first=>
  by_cases a3:o.kind=2
  ·have d2:=V4 a3
   have i:=J6 (show U6 o=⟨o.id,o.side,o.kind,1,o.qty⟩ by unfold U6;rw[X0 a3]);clear a3;go_wp2;go_meet;exact⟨by rw[i.out];exact Z5 w _ _,Q5.alloc Q2 _⟩
  have d2:=Z3 a3;have i:=J6 (show U6 o=o by unfold U6;rw[J8 a3]);clear a3;go_wp2;go_meet;exact⟨by rw[i.out];exact HX,HB⟩
 obtain⟨hX,hB⟩:=hcut;obtain⟨w1,rfl⟩:∃w1,w1=wc:=⟨_,rfl⟩;clear x0 x1 x2 x3 x4 f3;obtain⟨x0,x1,x2,x3,x4⟩:=D7 hX;obtain⟨HX,HB,c8,a7⟩:=Xt8 hX hB (show(U6 o).qty=o.qty from rfl) (show(U6 o).id=o.id from rfl);clear hX hB;obtain⟨p,EP⟩:∃p,Hid (U6 o=p):=⟨_,J6 rfl⟩;rw[EP.out]at x0 x1 x2 x3 x4 HX c8 a7;have d3:=J6 (show∀W,Calls prog 71 #[I O p.price,I O p.qty] W fun e w'=>e=.returned (.bool (KS o))/\W=w' from fun W=>(MU p.price p.qty W).mono fun e w'⟨h1,h2⟩=>⟨by rw[h1];unfold KS;rw[EP.out,c8.out],h2⟩)
 cases hr:KS o with
 |false=>
  obtain⟨i,a2⟩:=Xt6 (show KE L o=2 by unfold KE;rw[a4.out,J8 Q1,X0 hr]) hr;clear hr;go_wp2_with fail
  refine(d3 _).mono ?_;rintro e w'⟨rfl,rfl⟩;rw[a2.out];go_wp2;go_ret;exact⟨JK (by rw[i.out]),by unfold CQ;rw[i.out,J8 Q1];exact RF HR HB⟩
 |true=>
  obtain⟨a2,c7⟩:=Xt6 hr (Dc w1 B t cs o0 A L (HR.below HB) e2 p.id);clear hr;go_wp2_with fail
  refine(d3 _).mono ?_;rintro e w'⟨rfl,rfl⟩;rw[a2.out];go_wp2_with fail
  refine c7.mono ?_;rintro e w2⟨rfl,b2⟩;obtain⟨a1,d7⟩:=Xt6 (HB.trans (b2.mono HB.size)) (Z4 HX b2);clear x0 x1 x2 x3 x4 b2 c7 HX;rcases Ke L p.id with⟨hi,hg⟩|⟨k,hk,hi,-,f9,hg⟩
  ·have HG:=J6 (show(B4 L o.id).isSome=false by rw[<-a7.out,hg];rfl)
   rw[hi];have d2:¬(0:Int)<= -1:=Q0;clear hi hg;have a9:=HR.below a1;obtain⟨c,y0,-⟩:=a9.cell;obtain⟨n,hn⟩:=exq L.length;rw[hn]at y0 e2;obtain⟨HN,d0⟩:=Xt6 hn a9;clear hn a9
   by_cases hf:100<=n
   ·have d4:(100:Int)<=(n:Int):=by omega
    have i:=J6 (show KE L o=12 by unfold KE;rw[a4.out,J8 Q1,a2.out,J8 Q1,HG.out,J8 Q1,X0 (by rw[HN.out];exact hf)]);clear hf;go_wp2;go_ret;exact⟨JK (by rw[i.out]),by unfold CQ;rw[i.out,J8 Q1];exact RF HR a1⟩
   have d4:¬(100:Int)<=(n:Int):=by omega
   have i:=J6 (show KE L o=0 by unfold KE;rw[a4.out,J8 Q1,a2.out,J8 Q1,HG.out,J8 Q1,J8 (by rw[HN.out];exact hf)]);have f1:=J6 (show CQ L o=L++[p] by unfold CQ;rw[i.out,X0 rfl,EP.out]);have a8:=d0.els;rw[HN.out]at a8;have e7:=J6 a8;have g0:n<=1000:=Q0;clear hf a8;obtain⟨x0,x1,x2,x3,x4⟩:=D7 d7;have d5:=J6 (show∀W,Bz w2 W->(W.cell? (aD (zS w) 0)=some (I O p.id)/\W.cell? (aD (zS w) 1)=some (I O p.side)/\W.cell? (aD (zS w) 2)=some (I O p.kind)/\W.cell? (aD (zS w) 3)=some (I O p.price)/\W.cell? (aD (zS w) 4)=some (I O p.qty))/\W.cell? (aD B o0)=some (.slice A n c)from fun W hb=>by obtain⟨q0,q1,q2,q3,q4⟩:=D7 (Z4 d7 hb);exact⟨⟨q0,q1,q2,q3,q4⟩,(hb.cell (U5 w2 _ y0)).trans y0⟩)
   have e8:=J6 (show∀W A' c',Bz w2 W->X8 W A' (n+1) c' 84 5 (X7 U0 L++U0 p)->(∀g,X5 A'=some g->zS w2<=g)->KV w (W.setCell (aD B o0) (.slice A' (n+1) c')) B t cs o0 A (CQ L o)from fun W A' c' hb hr hg=>by rw[f1.out];exact HR.put (a1.trans (hb.mono a1.size)) (t':=84) (by rw[AQ];exact hr) (fun g h=>U4 a1.size (hg g h)))
   have f0:=J6 (show∀W,Bz w2 W->W.frozen? (aD B o0)=false from fun W hb=>K0 (Z4 d0.blk hb) o0);go_upto_region 11 with fail
   have HL:=J6 (show∀W,Bz w2 W->W.cell? (aD B o0)=some (.slice A n c)from fun W hb=>(d5 W hb).2);clear x0 x1 x2 x3 x4 y0;refine Bw (fun a0 ii a w=>(∀j,j<13->ii j=true)/\(∃W A' c',w=W.setCell ⟨B,o0,none⟩ (.slice A' (n+1) c')/\Bz w2 W/\X8 W A' (n+1) c' 84 5 (X7 U0 L++U0 p)/\∀g,X5 A'=some g->w2.heap.size<=g)/\(∃D v1 J Z v4 v5 v6 v7 v8 v9 E C,a=FK a0 [(35,D),(36,v1),(37,J),(38,Z),(39,v4),(40,v5),(41,v6),(42,v7),(43,v8),(44,v9),(45,E),(46,C)])\/ii 12=false/\∃D v1 J Z v4 v5 v6 v7 v8 v9 E C,a=FK a0 [(35,D),(36,v1),(37,J),(38,Z),(39,v4),(40,v5),(41,v6),(42,v7),(43,v8),(44,v9),(45,E),(46,C)]/\(ii 0=true->D=IP (some ⟨B,o0,none⟩))/\(ii 2=true->J=IP (some ⟨B,o0,none⟩))/\(ii 3=true->Z=IP (some ⟨B,o0,none⟩))/\(ii 4=true->v4=IP (some ⟨B,o0,none⟩))/\(ii 5=true->v5=.slice A n c)/\(ii 7=true->v7=.agg #[I O p.id,I O p.side,I O p.kind,I O p.price,I O p.qty])/\(ii 10=true->E=IP (some ⟨B,o0,none⟩))/\(ii 11=true->C=IP (some ⟨B,o0,none⟩)/\ii 10=true)/\(ii 9=true->ii 8=true)/\ZC w2 n (n+1) (X7 U0 L) (X7 U0 L++U0 p) p (ii 1) (ii 6) (ii 8) (ii 9) v1 v6 v8 v9 w) ?_ ?_ ?_
   ·exact .inr ⟨rfl,_,_,_,_,_,_,_,_,_,_,_,_,P6,fun e=>(by cases e),fun e=>(by cases e),fun e=>(by cases e),fun e=>(by cases e),fun e=>(by cases e),fun e=>(by cases e),fun e=>(by cases e),fun e=>(by cases e),fun e=>(by cases e),ZC.start (Z2 Q5)⟩
   ·refine⟨?_,?_,?_,?_,?_,?_,?_,?_,?_,?_,?_,?_,?_,trivial⟩
    all_goals
     rintro ii a w hL u(⟨a5,-⟩|⟨h12,D,v1,J,Z,v4,v5,v6,v7,v8,v9,E,C,rfl,h0,h2,h3,h4,h5,h7,hx,hy,h98,hI⟩)K hK
     ·cases hL.symm.trans (a5 _ Q1)
     simp only[FK,Act.put,List.setIfInBounds_toArray,List.set_cons_zero,List.set_cons_succ]
    ·go_simp
     exact hK _ _ (.inr ⟨h12,IP (some (aD B o0)),v1,J,Z,v4,v5,v6,v7,v8,v9,E,C,P6,fun _=>rfl,h2,h3,h4,h5,h7,hx,hy,h98,hI⟩)
    ·rw[hL]at hI;go_simp
     exact hK _ _ (.inr ⟨h12,D,_,J,Z,v4,v5,v6,v7,v8,v9,E,C,P6,h0,h2,h3,h4,h5,h7,hx,hy,h98,hI.mk1⟩)
    ·go_simp
     exact hK _ _ (.inr ⟨h12,D,v1,IP (some (aD B o0)),Z,v4,v5,v6,v7,v8,v9,E,C,P6,h0,fun _=>rfl,h3,h4,h5,h7,hx,hy,h98,hI⟩)
    ·obtain rfl:=h2 (KJ u 2);go_simp
     exact hK _ _ (.inr ⟨h12,D,v1,_,IP (some (aD B o0)),v4,v5,v6,v7,v8,v9,E,C,P6,h0,h2,fun _=>rfl,h4,h5,h7,hx,hy,h98,hI⟩)
    ·obtain rfl:=h3 (KJ u 3);go_simp
     exact hK _ _ (.inr ⟨h12,D,v1,J,_,IP (some (aD B o0)),v5,v6,v7,v8,v9,E,C,P6,h0,h2,h3,fun _=>rfl,h5,h7,hx,hy,h98,hI⟩)
    ·obtain rfl:=h4 (KJ u 4);have hc:=HL.out _ hI.1;go_simp
     exact hK _ _ (.inr ⟨h12,D,v1,J,Z,_,.slice A n c,v6,v7,v8,v9,E,C,P6,h0,h2,h3,h4,fun _=>rfl,h7,hx,hy,h98,hI⟩)
    ·obtain rfl:=h5 (KJ u 5)
     rw[hL,KJ u 1]at hI;obtain⟨g1,rfl,hr,c5⟩:=hI.get1;refine(X0 Q8).mpr ?_;refine WL JG BL _ _ _ Q8 84 i0 _ 40 underlying91 e1 e4 e5 e6 rfl Q0 (sA g1) 0 0 [] Q8 hr A n c L Q8 (e7.below hI.1 Q2) Q9 Q0 ?_;intro A' c' w' a6 b5 b0;rw[KC,EE]at a6;rw[KC];exact hK _ _ (.inr ⟨h12,D,_,J,Z,v4,_,_,v7,v8,v9,E,C,P6,h0,h2,h3,h4,h5,h7,hx,hy,h98,(show ZC _ _ _ _ _ _ (ii 1) _ _ _ _ _ _ _ _ by rw[KJ u 1];exact c5 _ _ _ a6 b5 b0)⟩)
    ·obtain⟨⟨x0,x1,x2,x3,x4⟩,-⟩:=d5.out _ hI.1;go_simp
     exact hK _ _ (.inr ⟨h12,D,v1,J,Z,v4,v5,v6,.agg #[I O p.id,I O p.side,I O p.kind,I O p.price,I O p.qty],v8,v9,E,C,P6,h0,h2,h3,h4,h5,fun _=>rfl,hx,hy,h98,hI⟩)
    ·obtain rfl:=h7 (KJ u 7)
     have e9:ii 9=false:=by cases e:ii 9 with|false=>rfl|true=>cases hL.symm.trans (h98 e)
     rw[hL,e9]at hI;go_simp;exact hK _ _ (.inr ⟨h12,D,v1,J,Z,v4,v5,v6,_,_,v9,E,C,P6,h0,h2,h3,h4,h5,h7,hx,hy,fun _=>rfl,(show ZC _ _ _ _ _ _ _ _ _ (ii 9) _ _ _ _ _ by rw[e9];exact hI.mk8)⟩)
    ·have d6:=KJ u 6;have d8:=KJ u 8
     rw[hL,d6,d8]at hI;obtain⟨A6,c6,rfl,hr,he,c5⟩:=hI.get6;obtain⟨g8,rfl,f4⟩:=he rfl;refine(X0 Q8).mpr ?_;refine WL JG BL _ _ _ Q8 84 i0 _ 40 underlying91 e1 e4 e5 e6 rfl Q0 A6 n c6 _ Q8 hr (sA g8) 1 1 [p] Q8 f4 Q9 Q0 ?_;intro A' c' w' a6 b5 b0;exact hK _ _ (.inr ⟨h12,D,v1,J,Z,v4,v5,_,v7,_,_,E,C,P6,h0,h2,h3,h4,h5,h7,hx,hy,fun _=>d8,(show ZC _ _ _ _ _ _ _ (ii 6) (ii 8) _ _ _ _ _ _ by rw[d6,d8];exact c5 _ _ _ a6 b5 b0)⟩)
    ·obtain rfl:=h0 (KJ u 0);go_simp
     exact hK _ _ (.inr ⟨h12,_,v1,J,Z,v4,v5,v6,v7,v8,v9,IP (some (aD B o0)),C,P6,h0,h2,h3,h4,h5,h7,fun _=>rfl,fun e=>⟨(hy e).1,rfl⟩,h98,hI⟩)
    ·obtain rfl:=hx (KJ u 10);go_simp
     exact hK _ _ (.inr ⟨h12,D,v1,J,Z,v4,v5,v6,v7,v8,v9,_,IP (some (aD B o0)),P6,h0,h2,h3,h4,h5,h7,hx,fun _=>⟨rfl,KJ u 10⟩,h98,hI⟩)
    obtain⟨rfl,f2⟩:=hy (KJ u 11);rw[KJ u 9]at hI;obtain⟨hb,-,-,_,_,_,_,-,-,-,f5⟩:=hI;obtain⟨A9,c9,rfl,hr,hf⟩:=f5 rfl;have f7:=HL.out _ hb;have f8:=f0.out _ hb;go_simp;exact hK _ _ (.inl ⟨Qd5 (m:=12) fun j hj=>if e:j=10 then e▸f2 else u j (by simp[WJ,Region.binds];omega),⟨_,_,_,rfl,hb,hr,hf⟩,_,_,_,_,_,_,_,_,_,_,_,_,P6⟩)
   rintro ii a w a5(⟨-,⟨W,A',c',rfl,hb,hr,hf⟩,D,v1,J,Z,v4,v5,v6,v7,v8,v9,E,C,rfl⟩|⟨h12,-⟩)
   ·simp only[FK,Act.put,List.setIfInBounds_toArray,List.set_cons_zero,List.set_cons_succ]
    clear a5;go_wp2;go_ret;exact⟨JK (by rw[i.out]),e8 _ _ _ hb hr hf⟩
   cases h12.symm.trans (a5 12 Q1)
  have i:=J6 (show KE L o=9 by unfold KE;rw[a4.out,J8 Q1,a2.out,J8 Q1,X0 (by rw[<-a7.out,hg];rfl)]);rw[hi];have d2:(0:Int)<=(k:Int):=Q0;clear hi hg;go_wp2;go_ret;exact⟨JK (by rw[i.out]),by unfold CQ;rw[i.out,J8 Q1];exact RF HR a1⟩
theorem Sp{w B t cs o0 A L}(h:KY w B t cs o0 A L)(j:L.length<=100000)side(hp:∀o∈G7 side L,-1000000000<=o.price/\o.price<=1000000000):Calls prog 39 #[IP (some (aD B o0)),I O side] w fun e w'=>Bz w w'/\∃A' c',e=.returned (.slice A' (KX side L).length c')/\X8 w' A' (KX side L).length c' 84 5 (X7 U0 (KX side L))/\∀g,X5 A'=some g->w.heap.size<=g:=by obtain⟨c,i,-⟩:=h.cell;exact Da w B o0 A L.length c L side i h.els j hp
attribute [local go_sem↓] Go.wp_at_zero Go.wp_at_succ
theorem De m st an p w(c1:w.cell? (aD m 1)=some (I O st))(c3:w.cell? (aD m 3)=some (I O an)):Calls prog 85 #[pA m,I O p] w fun e w'=>e=.returned (.bool (AS st an p))/\Bz w w':=by
 go_enter func85,ntmps85
 go_wp2
 go_region_held3 (fun w'=>w'.cell? ⟨m,1,none⟩=some (I O st)/\w'.cell? ⟨m,3,none⟩=some (I O an)) (first|go_keep)
  (first|(go_at_call 27;refine(Ui _ _ _).mono ?_;rintro e w1⟨rfl,rfl⟩))
 go_wp2_with fail
 refine(VY _ _ _ _).mono ?_;rintro e w1⟨rfl,rfl⟩;go_wp2;go_ret;exact⟨rfl,(J9 _ w).drew⟩
theorem Qx3 m st dy an la p w(c1:w.cell? (aD m 1)=some (I O st))(c2:w.cell? (aD m 2)=some (I O dy))(c3:w.cell? (aD m 3)=some (I O an))(c4:w.cell? (aD m 4)=some (I O la)):Calls prog 77 #[pA m,I O p] w fun e w'=>e=.returned (.bool (YA st dy an la p))/\Bz w w':=by
 unfold YA Zz
 by_cases i:AS st an p=true
 ·have E:=J6 (show(decide (XV la dy<=p) &&decide (p<=XU la dy))=(AS st an p && (decide (XV la dy<=p) &&decide (p<=XU la dy))) by rw[i];rfl)
  have j:=J6 i;clear i;go_enter func77,ntmps77
  go_wp2
  go_region_held3 (fun w'=>w'.cell? ⟨m,2,none⟩=some (I O dy)/\w'.cell? ⟨m,4,none⟩=some (I O la)) (first|go_keep)
   (first|(go_at_call 27;refine(Ui _ _ _).mono ?_;rintro e w1⟨rfl,rfl⟩))
  go_wp2_with fail
  refine(De m st an p w.drew c1 c3).mono ?_;rintro e w1⟨rfl,u⟩;rw[j.out];go_wp2_with fail
  refine(VY _ _ _ _).mono ?_;rintro e w1⟨rfl,rfl⟩;go_wp2;go_ret;exact⟨JH E,(J9 _ w).drew.trans u⟩
 have y:AS st an p=false:=by simpa using i
 obtain⟨E,j⟩:=Xt6 (show false=(AS st an p && (decide (XV la dy<=p) &&decide (p<=XU la dy))) by rw[y];rfl) y;clear i y;go_enter func77,ntmps77
 go_wp2
 go_region_held3 (fun w'=>w'.cell? ⟨m,2,none⟩=some (I O dy)/\w'.cell? ⟨m,4,none⟩=some (I O la)) (first|go_keep)
  (first|(go_at_call 27;refine(Ui _ _ _).mono ?_;rintro e w1⟨rfl,rfl⟩))
 go_wp2_with fail
 refine(De m st an p w.drew c1 c3).mono ?_;rintro e w1⟨rfl,u⟩;rw[j.out];go_wp2;go_ret;exact⟨JH E,(J9 _ w).drew.trans u⟩
theorem Qx4(w:World)(b a:Nat)(F:Nat->Prop)(M:Int->Int->Option X6)(n r:Nat)(f:Int->Option Value)(H:Int->HS)(reg:Nat->Int)(hM:Y0 w b a F M n r f H reg)(hS:B5 M n f H)(s:Int)(hs:V5 s)(x:HO)(hx:x∈(H s).all)(hn:n<=100):Calls prog 203 #[pA b,I O x.2.id] w fun e w'=>e=.returned (.tuple #[V6 x.2,Y9 0])/\Uy w w' b a r F n H s x.2.id:=by
 have hwh:=hS.where_ hs hx;have hf:=hS.hf x (BM hs hx);have hsd:=hS.side_of hs hx;have hMx:=hS.hM x (BM hs hx);obtain⟨⟨h1,h2⟩,o⟩:=x;dsimp only at hf hsd hMx hwh|-;obtain⟨mk,hmk⟩:∃mk,(o.kind ==2)=mk:=⟨_,rfl⟩;have hb0:Bz w (w.alloc (.cells #[I O 0,I O 0,I O 0,I O 0,I O 0] 84)):=(J9 _ w).alloc Q2 _;have hM0:=hM.below hb0;have hlk:=WN hM0.mp hf;dsimp only at hlk;rw[hsd,hmk]at hlk;obtain⟨y0,y1,y2,y3,y4,y5⟩:=hM0.cells;obtain⟨HM,HSm,HX,HWh,HMk,HSd,HMx,HN⟩:=Xu2 hM hS hx hwh hmk hsd hMx hn;have HM0:=J6 hM0;clear y0 y2 y3 y4 y5 hM hS hx hwh hsd hMx hn hM0 hf hmk hb0;go_enter func203,ntmps203
 go_upto_region 4 with fail
 clear hlk y1;obtain⟨hb1,hM1,hR1,hP1⟩:=Qr8 (h1:=h1) (h2:=h2) (sd:=s) (pr:=o.price) (mk:=mk) HM.out;obtain⟨hrb,hpb⟩:=Xt6 (show¬Y1 b r F H w.heap.size from fun h=>by have:=HM.out.fp h;omega) (show¬Y1 b r F H (w.heap.size+1)from fun h=>by have:=HM.out.fp h;omega);obtain⟨pb,hpbe⟩:∃pb,pb=w.heap.size+1:=⟨_,rfl⟩;obtain⟨rb,hrbe⟩:∃rb,rb=w.heap.size:=⟨_,rfl⟩;have hne:rb≠pb:=Q0;have HLT:=J6 (show w.heap.size<=rb/\w.heap.size<=pb by omega);rw[<-hpbe]at hP1 hpb|-;rw[<-hrbe]at hR1 hrb|-;generalize(w.alloc (.cells #[I O 0,I O 0,I O 0,I O 0,I O 0] 84)).alloc (.cells #[I O h1,I O h2,I O s,I O o.price,.bool mk] 263)=w1 at hb1 hM1 hR1 hP1|-;obtain⟨w2,hdel,hI2,hT2⟩:=Xk1 w1 r f hM1.mp o.id;obtain⟨hM2,hS2⟩:=hM1.map_ hT2 hI2;have HS2:=J6 ((S5 (G:=Y1 b r F H) hb1).trans hS2);have hP2:J7 w2 pb 263 #[I O h1,I O h2,I O s,I O o.price,.bool mk]:=J7.of_block hP1 (hT2.block pb (fun e=>hpb.out (.inr (.inl e))));have hR2:J7 w2 rb 84 #[I O 0,I O 0,I O 0,I O 0,I O 0]:=J7.of_block hR1 (hT2.block rb (fun e=>hrb.out (.inr (.inl e))));have y1:=hM1.cells.2.1;obtain⟨HM2,HP2,HR2⟩:=Xt7 hM2 hP2 hR2;obtain⟨p0,p1,p2,p3,p4⟩:=PR hP2;clear hM1 hR1 hP1 hT2 hI2 hM2 hS2 hP2 hR2 hb1 hpbe hrbe;obtain⟨kk,hkk⟩:∃k,XB s=k:=⟨_,rfl⟩;have HKk:=J6 hkk;clear hkk;go_upto_region 5 with(simp only[hdel])
 clear hdel y1
 go_cut [8] (fun s8 wx=>s8=IP (some ⟨b,kk,none⟩)/\Bz w2 wx)
 case first=>
  obtain rfl|rfl:=hs
  all_goals
   go_quiet (fail)
   go_wp2_with fail
   go_meet;exact⟨by rw[<-HKk.out];rfl,Y5 Q5 nq⟩
 case rest=>
 obtain⟨rfl,hq⟩:=hcut;obtain⟨HM3,HP3,HR3,HS3⟩:=Xt8 (HM2.out.below hq) (Z4 HP2.out hq) (Z4 HR2.out hq) (HS2.out.trans (S5 hq));clear hq p0 p1 p2 p3 p4 HM2 HP2 HR2 HS2;obtain⟨w3,ew3⟩:∃W,wc=W:=⟨_,rfl⟩;rw[ew3]at HM3 HP3 HR3 HS3|-;clear ew3;obtain⟨p0,p1,p2,p3,p4⟩:=PR HP3.out;obtain⟨ym,yq⟩:=HM3.out.cellM hs;rw[HKk.out]at ym yq;have hmf:∀(fn:Fn)(first cap:Array Value)(w:World),(Instr.makeFunc fn first cap).run prog w=.ok (.func fn first cap) w:=fun _ _ _ _=>rfl
 have eg:=R0 func228 Q4 rfl;have HBl:=J6 (Z9 HM3.out.blk);go_upto_if 39 with fail
 go_cut [] (fun wx=>Yr w wx b a r F M n (T7 f o.id none) H s o.id h1 h2 pb rb #[I O h1,I O h2,I O s,I O o.price,.bool mk])
 case first=>
  cases mk with
  |true=>
   have HKd:Hid (o.kind=2):=J6 (by simpa using HMk.out);obtain⟨m,hm⟩:∃m,(H s).ms.length=m:=⟨_,rfl⟩;rw[hm]at ym;have hmb:X5 (H s).mA≠some b:=fun e=>by have h5:s=1\/s=2:=hs;have h3:=(HM3.out.hx s hs).gm b e;have h4:=HM3.out.gb;omega
   have hdrop:=Wy w3 (H s).mA m (H s).mc (N9 (H s).ms) pb (h1,h2) (by rw[<-hm];exact(HM3.out.hx s hs).rm) (by have:=Xk2 hs HSm.out HN.out;omega) (fun e=>hpb.out (GQ s hs (.inl e))) p0 p1;obtain⟨HD,HMb,Hm⟩:=Xt7 hdrop hmb hm;clear ym yq hdrop hmb hm;have ym:w3.cell? ⟨b,kk,none⟩=some (.slice (H s).mA m (H s).mc):=by have:=(HM3.out.cellM hs).1;rw[HKk.out,Hm.out]at this;exact this
   go_wp2_with fail
   refine HD.out.mono ?_;rintro e w4⟨hk4,rfl,hr4⟩;have b4:=V0 HM3.out.blk hk4 HMb.out;have r0:w4.cell? ⟨b,kk,none⟩=some (.slice (H s).mA m (H s).mc):=(hk4.cell (p:=⟨b,kk,none⟩) HBl.out HMb.out).trans ym;have rf0:=K0 b4 kk;rw[Bb]at hr4|-;rw[<-Cc]at hr4;go_wp2_with fail
   go_meet;have e:=HKk.out;subst e;obtain⟨reg5,hM5,hB5⟩:=HM3.out.market hs (A':=(H s).mA) (c':=(H s).mc) (ms':=(H s).ms.filter (L3 (h1,h2))) hk4 hr4 (fun g hg=>.inl hg);have hq4:∀g,¬Y1 b r F H g->X5 (H s).mA≠some g/\g≠b:=fun g hg=>⟨fun e=>hg (GQ s hs (.inl e)),fun e=>hg (.inl e)⟩
   obtain⟨HP5,HR5⟩:=Xt6 (ZR (V0 HP3.out hk4 (hq4 _ hpb.out).1) (p:=⟨b,XB s,none⟩) (hq4 _ hpb.out).2 (.slice (H s).mA ((H s).ms.filter (L3 (h1,h2))).length (H s).mc)) (ZR (V0 HR3.out hk4 (hq4 _ hrb.out).1) (p:=⟨b,XB s,none⟩) (hq4 _ hrb.out).2 (.slice (H s).mA ((H s).ms.filter (L3 (h1,h2))).length (H s).mc));obtain⟨hS5,hL5⟩:=Qw5 HSm.out hs HX.out HKd.out (H s).mA (H s).mc;show Yr w (w4.setCell ⟨b,XB s,none⟩ (.slice (H s).mA ((H s).ms.filter (L3 (h1,h2))).length (H s).mc)) b a r F M n (T7 f o.id none) H s o.id h1 h2 pb rb #[I O h1,I O h2,I O s,I O o.price,.bool true];exact⟨_,reg5,hM5,HS3.out.trans hB5,hS5,hL5,fun s' h=>ZK h,HP5.out,HR5.out,by refine Ft hs ?_ hrb.out;exact fun i hi=>hi⟩
  |false=>
   have HKd:Hid (o.kind≠2):=J6 (by simpa using HMk.out);obtain⟨k,hkl,hxk,hpk⟩:∃k,∃hkl:k<(H s).qs.length,((h1,h2),o)∈(H s).qs[k].os/\(H s).qs[k].price=o.price:=by
    rcases HWh.out with⟨hk,_⟩|⟨_,h⟩
    ·exact absurd hk HKd.out
    exact h
   have hx3:=HM3.out.hx s hs;obtain⟨qg,hqg,hqc⟩:=hx3.rq.elem MK Q0 (i:=k) (by simpa using hkl);obtain⟨q,hqk⟩:∃q,(H s).qs[k]'hkl=q:=⟨_,rfl⟩;have hmem:q∈(H s).qs:=by rw[<-hqk];exact C7 _
   have q0:w3.cell? ⟨qg,k*2,none⟩=some (I O q.price):=by have:=hqc 0 _ rfl;rw[<-hqk];simpa [QG.que]using this
   have q1:w3.cell? ⟨qg,k*2+1,none⟩=some (.slice q.A q.os.length q.c):=by have:=hqc 1 _ rfl;rw[<-hqk];simpa [QG.que]using this
   have hqb:X5 (H s).qA=some qg:=by rw[hqg];rfl
   have hql:=hx3.rq.lt hqb;have hqm:X5 q.A≠some qg:=fun e=>by have h3:=hx3.gl _ hmem qg e;have h4:=hx3.gq qg hqb;omega
   have hqB:X5 q.A≠some b:=fun e=>by have h3:=hx3.gl _ hmem b e;have h4:=HM3.out.gb;omega
   have hqp:X5 q.A≠some pb:=fun e=>hpb.out (GQ s hs (.inr (.inr ⟨q,hmem,e⟩)))
   have hqs:=Qf0 hs HSm.out HN.out;have hos:q.os.length<=1000:=by rw[<-hqk];exact Xn8 hs HSm.out HN.out hkl
   have hfind:=Wu w3 b kk s o.price (H s).qA (H s).qs.length (H s).qc ((H s).qs.map QG.que) yq (CY MK Q0 hx3.rq) (HSm.out.is s hs).rank hqs;obtain⟨HFi,HqA,Hqk,Hkl,Hxk,Hpk,HRow,HQR⟩:=Xu2 hfind hqg hqk hkl hxk hpk (hx3.rl q hmem) hx3.rq;obtain⟨HQm,HQB,HQp,HQb2⟩:=Xt8 hqm hqB hqp (show b≠qg from fun e=>by have h3:=HM3.out.gb;have h4:=hx3.gq qg hqb;rw[e]at h3;omega);clear hfind hx3 hqc hmem hqm hqB hqp hqb hqk hxk hpk;go_wp2_with fail
   refine HFi.out.mono ?_;rintro e w4⟨hb4,k4,hk4,rfl⟩;obtain rfl:k4=k:=Xa4 (HSm.out.is s hs) Hkl.out Hpk.out hk4;obtain⟨fb,HFb⟩:∃fb,Hid (PU s o.price ((H s).qs.map QG.que) (H s).qs.length k4=fb):=⟨_,J6 rfl⟩;rw[HFb.out];obtain⟨HM4,HP4,HR4,HS4⟩:=Xt8 (HM3.out.below hb4) (Z4 HP3.out hb4) (Z4 HR3.out hb4) (HS3.out.trans (S5 hb4));obtain⟨hc4,hf4⟩:=Xr1 hb4;have q0':w4.cell? ⟨qg,k4*2,none⟩=some (I O q.price):=(hc4 _ _ hql).trans q0;have q1':w4.cell? ⟨qg,k4*2+1,none⟩=some (.slice q.A q.os.length q.c):=(hc4 _ _ hql).trans q1;have hrow4:=HRow.out.below hb4;have hqr4:=HQR.out.below hb4;have hql4:qg<w4.heap.size:=by have:=hb4.size;omega
   clear hk4 q0 q1 p0 p1 p2 p3 p4 ym yq hql hc4 hf4 hb4 HFi HM3 HP3 HR3 HS3 HRow HQR;obtain⟨l,hll⟩:∃l,(H s).qs.length=l:=⟨_,rfl⟩;obtain⟨m,hm⟩:∃m,q.os.length=m:=⟨_,rfl⟩;rw[hm]at q1' hrow4;have y3:w4.cell? ⟨b,kk+1,none⟩=some (.slice (some ⟨qg,0,none⟩) l (H s).qc):=by have:=(HM4.out.cellM hs).2;rw[HKk.out,hll,HqA.out]at this;exact this
   obtain⟨p0,p1,p2,p3,p4⟩:=PR HP4.out;have hkz:(k4:Int)<(l:Int):=Q0;have hk0:(0:Int)<=(k4:Int):=Q0;have hdrop:∀W,Bz w4 W->Calls prog 228 #[.slice q.A m q.c,IP (some ⟨pb,0,none⟩)] W _:=fun W hW=>Wy W q.A m q.c (N9 q.os) pb (h1,h2) (hrow4.below hW) Q0 HQp.out ((X9 (Z4 HP4.out hW) 0).trans rfl) ((X9 (Z4 HP4.out hW) 1).trans rfl)
   obtain⟨HD,HQR4,HL,Hm⟩:=Xt8 (hdrop w4.drew (Z2 Q5)) hqr4 hll hm;have hbl:=Z9 HM4.out.blk;clear hdrop hrow4 hqr4 hll hm hos hqs;go_upto_region 10 with fail
   go_cut [72] (fun s72 wx=>Fr w4 wx qg k4 q.A q.c q.os (h1,h2))
   case first=>
    go_region_with (go_at_call 228;refine HD.out.mono ?_;rintro e w5⟨hk5,rfl,hr5⟩;have z1:w5.cell? ⟨b,kk+1,none⟩=some (.slice (some ⟨qg,0,none⟩) l (H s).qc):=(hk5.cell (p:=⟨b,kk+1,none⟩) hbl HQB.out).trans y3;have z2:w5.cell? ⟨qg,k4*2+1,none⟩=some (.slice q.A m q.c):=(hk5.cell (p:=⟨qg,k4*2+1,none⟩) hql4 HQm.out).trans q1';have z3:=(hk5.frozen (p:=⟨qg,k4*2+1,none⟩) hql4 HQm.out).trans (X8.frozen (by rw[<-HqA.out];exact HQR4.out) (k4*2+1):w4.frozen? ⟨qg,k4*2+1,none⟩=false);have HK5:=J6 hk5;have HR5:=J6 hr5;clear hk5 hr5)
    all_goals go_wp2_with fail
    all_goals go_meet
    all_goals exact Jp7 HK5.out HR5.out
   have hX:=Je5 HM4.out HS4.out hs Hkl.out Hqk.out HqA.out hcut HP4.out HR4.out hpb.out hrb.out;have HX11:=J6 hX;obtain⟨reg6,hM6,_,_,_⟩:=hX;have hr6:=Xk3 hs HqA.out hM6;have HR6:=J6 hr6;clear p0 p1 p2 p3 p4 q0' q1' y3 HD hcut;have hbl6:=Z9 hM6.blk;have y3:wc.cell? ⟨b,kk+1,none⟩=some (.slice (some ⟨qg,0,none⟩) l (H s).qc):=by
    have h:=(hM6.cellM hs).2;have e:LH H s k4 q (h1,h2) s=⟨(H s).mA,(H s).mc,(H s).qA,(H s).qc,(H s).ms,(H s).qs.set k4 ⟨q.price,q.A,q.c,q.os.filter (L3 (h1,h2))⟩⟩:=by unfold LH;rw[XK]
    rw[e,HKk.out]at h;dsimp only at h;rw[HqA.out,XH,HL.out]at h;exact h
   have hf6:=K0 hM6.blk (kk+1);obtain⟨nl,hnl⟩:∃nl,(q.os.filter (L3 (h1,h2))).length=nl:=⟨_,rfl⟩;have q1:wc.cell? ⟨qg,k4*2+1,none⟩=some (.slice q.A nl q.c):=by
    obtain⟨g,hg,hc⟩:=hr6.elem MK Q0 (i:=k4) (by have:=Hkl.out;simpa using this)
    cases hg;have:=hc 1 _ rfl;rw[<-hnl];simpa [QG.que]using this
   have Hnl:=J6 hnl;have hl6:l<=100000:=by have h3:=Qf0 hs HSm.out HN.out;have h4:=HL.out;omega
   have hkl4:k4<l:=Q0;clear hr6 hM6 hnl;go_upto_if 84 with fail
   by_cases hz:nl=0
   ·have Hz:=J6 hz
    have t1:((nl:Int) ==0)=true:=V4 Q0;have hdel:=Bm Xs3 wc qg l (H s).qc k4 (k4+1) ((k4:Int)+1) Q0 _ (by rw[<-HL.out];exact HR6.out) hl6 Q0 Q0;have HDl:=J6 hdel;have hw1:IntKind.i64.wrap ((k4:Int)+1)=(k4:Int)+1:=by rw[YR];omega
    clear hdel hz;go_wp2_with fail
    refine HDl.out.mono ?_;rintro e w7⟨rfl,hr7,hk7⟩;have y7:w7.cell? ⟨b,kk+1,none⟩=some (.slice (some ⟨qg,0,none⟩) l (H s).qc):=(hk7.cell (p:=⟨b,kk+1,none⟩) hbl6 HQb2.out).trans y3;have f7:=(hk7.frozen (p:=⟨b,kk+1,none⟩) hbl6 HQb2.out).trans hf6;obtain⟨HR7,HK7⟩:=Xt6 hr7 hk7;clear hr7 hk7;go_wp2_with fail
    go_meet;have e:=HKk.out;subst e;have h9:=Qx0 HSm.out hs Hkl.out Hqk.out HqA.out (by rw[<-Hqk.out];exact Hxk.out) HX.out (Hnl.out.trans Hz.out) rfl HX11.out hpb.out hrb.out (by rw[HL.out];exact HR7.out) HK7.out;rw[HL.out]at h9;exact h9
   have Hz:=J6 hz;have t1:((nl:Int) ==0)=false:=Z3 Q0;clear hz;go_wp2_with fail
   go_meet;exact Qw9 HSm.out hs Hkl.out Hqk.out (by rw[<-Hqk.out];exact Hxk.out) HX.out (fun e=>Hz.out (Hnl.out.symm.trans e)) rfl HX11.out hrb.out
 have H13:=J6 hcut;clear hcut p0 p1 p2 p3 p4 ym yq eg hmf;obtain⟨H5,reg5,hM5,hB5,hS5,hL5,hO5,hP5,hR5,hn5⟩:=H13.out;have q0:=hM5.cells.1;obtain⟨p0,p1,p2,p3,p4⟩:=PR hP5;clear hM5 hB5 hS5 hL5 hO5 hP5 hR5 hn5;go_upto_region 13 with fail
 obtain⟨H5,reg5,hM5,hB5,hS5,hL5,hO5,hP5,hR5,hn5⟩:=H13.out;have hget:=Xb3 (M:=M) hM5 (Z2 (J9 wc.heap.size wc)) HMx.out;obtain⟨HG,HB5,HR5,HN5,HS5,HL5,HO5⟩:=Xu1 hget (hB5.trans (S5 (Z2 (J9 wc.heap.size wc)))) hR5 hn5 hS5 hL5 hO5;clear hget p2 p3 p4 hM5 hB5 hS5 hL5 hO5 hP5 hR5 hn5 H13
 go_cut [5,104] (fun s5 s104 wx=>s5=.nilIface/\Xo1 w wx b a r rb F M n (T7 f o.id none) H s o.id h1 h2 (Z8 o))
 case first=>as_aux_lemma=>
  go_region_with (go_at_call 233;refine HG.out.mono ?_;rintro e w6⟨rfl,F6,reg6,hM6,hB6⟩;have hr6:J7 w6 rb 84 #[I O 0,I O 0,I O 0,I O 0,I O 0]:=V0 (Y6 HR5.out) hB6.1 HN5.out;have z0:=(PR hr6).1;have z1:=(PR hr6).2.1;have z2:=(PR hr6).2.2.1;have z3:=(PR hr6).2.2.2.1;have z4:=(PR hr6).2.2.2.2;have f0:=K0 hr6 0;have f1:=K0 hr6 1;have f2:=K0 hr6 2;have f3:=K0 hr6 3;have f4:=K0 hr6 4;have HM6:=J6 hM6;have HB6:=J6 hB6;have HR6:=J6 hr6;clear hM6 hr6 hB6)
  all_goals go_wp2_with fail
  all_goals go_meet
  all_goals
   have hnb6:¬Y1 b r F6 H5 rb:=fun h=>(HB6.out.2 rb h).elim HN5.out (fun h3=>by have h4:=Z9 (Y6 HR5.out);omega)
   exact⟨rfl,Jp8 HM6.out (HB5.out.trans HB6.out) hnb6 HLT.out.1 HS5.out HL5.out HO5.out,Z0 (Z0 (Z0 (Z0 (Z0 HR6.out 0 _) 1 _) 2 _) 3 _) 4 _⟩
 obtain⟨rfl,hdone,hbox⟩:=hcut;obtain⟨HDn,HBx⟩:=Xt6 hdone hbox;clear hdone hbox;go_wp2_with fail
 refine Pm (g:=rb) (cs:=Z8 o) (v:=Y9 0) Q6 Q6 Q6 HBx.out rfl ?_;exact⟨rfl,HDn.out⟩
section
variable {w w':World} {b a r:Nat} {F:Nat->Prop} {M:Int->Int->Option X6} {n:Nat} {f:Int->Option Value} {H:Int->HS} {s:Int}
theorem Jf1(S:B5 M n f H){x s'}(i:V5 s)(j:V5 s')(u:x∈(H s).all)(y:s'≠s):L9 (H s').L x.2.id=(H s').L:=by
 rw[<-S.filter_id (BM i u) j,S.filter_other i j u y]
 rfl
theorem Xk5{G}(S:B5 M n f H){x}(hs:V5 s)(hx:x∈(H s).all)(C:∀i,G i↔Y1 b r F H i)(h:Uy w w' b a r F n H s x.2.id):GK w w' b G (L9 (H 1).L x.2.id) (L9 (H 2).L x.2.id):=by
 obtain⟨F',D,f',j,reg',J,Z,y,E,N⟩:=h;have key:∀s',V5 s'->L9 (H s').L x.2.id=(j s').L:=by
  intro s' a0
  by_cases e:s'=s
  ·subst e;exact E.symm
  rw[N s' e];exact Jf1 S hs a0 hx e
 refine⟨Y1 b r F' j,⟨a,F',D,n-1,r,f',j,reg',J,Z,fun i=>KL,key 1 (.inl rfl),key 2 (.inr rfl)⟩,y.1.mono (fun i u=>(C i).2 u),fun i u=>(y.2 i u).imp (fun h=>(C i).2 h) id⟩
theorem Uk(S:B5 M n f H){x}(j:x∈E8 H):B4 ((H 1).L++(H 2).L) x.2.id=some x.2:=by
 have e:(H 1).L++(H 2).L=E7 (E8 H):=(NP _ _).symm;rw[e];unfold B4
 cases i:(E7 (E8 H)).find? (fun o=>o.id ==x.2.id)with
 |none=>
  rw[GN]at i;have:=i x.2 (Y4.2 ⟨x,j,rfl⟩);simp at this
 |some o=>
  have h1:=NE i;obtain⟨y,C,rfl⟩:=Y4.1 h1;have h2:=Xo i;have u:y.2.id=x.2.id:=by simpa using h2
  rw[S.same_id C j u]
theorem Ul(S:B5 M n f H){id}(h:f id=none):B4 ((H 1).L++(H 2).L) id=none:=by have e:(H 1).L++(H 2).L=E7 (E8 H):=(NP _ _).symm;rw[e];unfold B4;rw[GN];intro o i;obtain⟨y,j,rfl⟩:=Y4.1 i;have:=S.none_.1 h y j;simpa using this
end
def Jf2(w:World)(b:Nat)(G:Nat->Prop)(L1 L2:List X6)(id:Int)(e:Ending)(w':World):Prop:=
 (B4 (L1++L2) id=none/\e=.returned (.tuple #[.agg #[I O 0,I O 0,I O 0,I O 0,I O 0],Y9 7])/\Bz w w')\/
 (∃o,B4 (L1++L2) id=some o/\e=.returned (.tuple #[V6 o,Y9 0])/\GK w w' b G (L9 L1 id) (L9 L2 id))
theorem Vo w b G L1 L2(h:JC w b G L1 L2)id:Calls prog 203 #[pA b,I O id] w (Jf2 w b G L1 L2 id):=by
 obtain⟨a,F,M,n,r,f,H,reg,j,i,E,rfl,rfl⟩:=h;have Z:=j.ar.le
 cases u:f id with
 |none=>
  refine(Qn1 w b a F M n r f H reg j id u).mono ?_;rintro e w'⟨rfl,J⟩;exact .inl ⟨Ul i u,rfl,J⟩
 |some v=>
  obtain⟨x,C,rfl⟩:=i.hk id v u;obtain⟨y,D⟩:=i.side_mem C;refine(Qx4 w b a F M n r f H reg j i _ y x D Z).mono ?_;rintro e w'⟨rfl,N⟩;exact .inr ⟨x.2,Uk i C,rfl,Xk5 i y D E N⟩
def addE(L1 L2:List X6)(o:X6):Int:=
 if UG o=false then 1 else if KS o=false then 2 else if(B4 (L1++L2) o.id).isSome=true then 9 else if L1.length+L2.length=100 then 12 else 0
def QD(s:Int)(L:List X6)(o:X6):List X6:=if o.side=s then UF s L (U6 o)else L
def Yk(w:World)(b:Nat)(G:Nat->Prop)(L1 L2:List X6)(o:X6)(e:Ending)(w':World):Prop:=
 (addE L1 L2 o≠0/\e=.returned (Y9 (addE L1 L2 o))/\Bz w w')\/
 (addE L1 L2 o=0/\e=.returned (Y9 0)/\GK w w' b G (QD 1 L1 o) (QD 2 L2 o))
theorem Xo2{w w' b a r F G n H o}(hs:V5 o.side)(D:∀i,G i↔Y1 b r F H i)(h:Yj w w' b a r F n H (U6 o)):GK w w' b G (QD 1 (H 1).L o) (QD 2 (H 2).L o):=by
 obtain⟨F',J,f',j,reg',Z,hS,C,u,E⟩:=h;have es:(U6 o).side=o.side:=rfl;rw[es]at u E;have key:∀s',V5 s'->QD s' (H s').L o=(j s').L:=by
  intro s' a0;unfold QD
  by_cases e:o.side=s'
  ·rw[X0 e];rw[e]at u;exact u.symm
  rw[J8 e,E s' (fun N=>e N.symm)]
 refine⟨Y1 b r F' j,⟨a,F',J,n+1,r,f',j,reg',Z,hS,fun i=>KL,key 1 (.inl rfl),key 2 (.inr rfl)⟩,C.1.mono (fun i y=>(D i).2 y),fun i y=>(C.2 i y).imp (fun h=>(D i).2 h) id⟩
def Jm(L1 L2:List X6)(o:X6):List X6×List X6:=if addE L1 L2 o=0 then(QD 1 L1 o,QD 2 L2 o)else(L1,L2)
theorem GK.of_below{w w' b G L1 L2}(h:JC w b G L1 L2)(i:Bz w w'):GK w w' b G L1 L2:=⟨G,h.below i,S5 i⟩
theorem Yk.to{w w' b G L1 L2 o e}(h:JC w b G L1 L2)(hp:Yk w b G L1 L2 o e w'):e=.returned (Y9 (addE L1 L2 o))/\GK w w' b G (Jm L1 L2 o).1 (Jm L1 L2 o).2:=by
 unfold Jm;rcases hp with⟨i,h1,h2⟩|⟨i,h1,h2⟩
 ·rw[J8 i];exact⟨h1,GK.of_below h h2⟩
 rw[X0 i,i];exact⟨h1,h2⟩
def VQ(s p:Int)(o:X6):Bool:=(o.kind ==2) || ((s ==1) &&decide (p<=o.price)) || ((s ==2) &&decide (o.price<=p))
def PB(s:Int)(a b:X6):Prop:=∀p,VQ s p b=true->VQ s p a=true
def PC(s:Int)(L:List X6):Prop:=L.Pairwise (PB s)
theorem PB.trans{s a b c}(h:PB s a b)(k:PB s b c):PB s a c:=fun p hp=>h p (k p hp)
theorem Jq0{s}(i:V5 s){o x}(h:ZA s o x=true):PB s x o:=by
 intro p hp;unfold ZA KU at h;unfold VQ at hp|-;obtain rfl|rfl:=i
 ·simp at h hp|-
  omega
 simp at h hp|-;omega
theorem Xb7{s}(i:V5 s){o x}(h:ZA s o x=false):PB s o x:=by
 intro p hp;unfold ZA KU at h;unfold VQ at hp|-;obtain rfl|rfl:=i
 ·simp at h hp|-
  omega
 simp at h hp|-;omega
theorem Hc{α:Type}{q:α->Bool}:∀{l:List α}{a:α},a∈l.takeWhile q->q a=true
 | [],_,h=>by simp at h
 |b::l,a,h=>by
  rw[List.takeWhile_cons]at h
  split at h
  ·rename_i hq
   obtain rfl|h:=H8.1 h
   ·exact hq
   exact Hc h
  cases h
theorem Gx{α:Type}{q:α->Bool}:∀{l:List α}{d:α}{r:List α},l.dropWhile q=d::r->q d=false
 | [],_,_,h=>by simp at h
 |a::l,d,r,h=>by
  rw[List.dropWhile_cons]at h
  split at h
  ·exact Gx h
  rename_i hq
  cases h;simpa using hq
theorem Ue{s}(C:V5 s){L}(h:PC s L)o:PC s (UF s L o):=by
 unfold UF PC at*;have J:L.takeWhile (ZA s o)++L.dropWhile (ZA s o)=L:=LS;rw[<-J,DZ]at h;obtain⟨h1,h2,D⟩:=h;have N:∀a∈L.takeWhile (ZA s o),PB s a o:=fun a j=>Jq0 C (Hc j)
 have E:∀b∈L.dropWhile (ZA s o),PB s o b:=by
  cases u:L.dropWhile (ZA s o)with
  |nil=>intro b i;cases i
  |cons d r=>
   have y:=Xb7 C (Gx u);rw[u]at h2;intro b i;obtain rfl|i:=H8.1 i
   ·exact y
   exact y.trans ((RV.1 h2).1 b i)
 rw[DZ];refine⟨h1,RV.2 ⟨E,h2⟩,fun a j b i=>?_⟩;obtain rfl|i:=H8.1 i
 ·exact N a j
 exact D a j b i
def QL(f:X6->Int):List X6->Int
 | []=>0
 |o::l=>f o+QL f l
theorem Jq1{f l l'}(h:l.Perm l'):QL f l=QL f l':=by
 induction h with
 |nil=>rfl
 |cons a _ i=>simp only[QL,i]
 |swap a b l=>simp only[QL];omega
 |trans _ _ h1 h2=>exact h1.trans h2
theorem Bq{f}l l':QL f (l++l')=QL f l+QL f l':=by
 induction l with
 |nil=>simp[QL]
 |cons a l i=>simp only[List.cons_append,QL,i];omega
theorem Pn f l:∀s,l.foldl (fun s o=>s+f o) s=s+QL f l:=by
 induction l with
 |nil=>intro s;simp[QL]
 |cons a l i=>intro s;rw[JF,i];simp only[QL];omega
theorem Po{f g l}(h:∀o∈l,f o=g o):QL f l=QL g l:=by
 induction l with
 |nil=>rfl
 |cons a l j=>simp only[QL];rw[h a Q3,j (fun o i=>h o (by simp[i]))]
theorem Sq{f l}(h:∀o∈l,f o=0):QL f l=0:=by
 induction l with
 |nil=>rfl
 |cons a l j=>simp only[QL];rw[h a Q3,j (fun o i=>h o (by simp[i]))];rfl
theorem Xk6{f g l}(h:∀o∈l,f o<=g o):QL f l<=QL g l:=by
 induction l with
 |nil=>simp[QL]
 |cons a l j=>
  have h1:=h a Q3;have h2:=j (fun o i=>h o (by simp[i]));simp only[QL];omega
def H9(s p:Int)(L:List X6):Int:=QL (fun o=>if VQ s p o=true then o.qty else 0) L
def PS(L:List X6):Int:=QL (fun o=>o.qty) L
def Y3:List X6->Int->List X6
 | [],_=>[]
 |o::t,a=>if a<=0 then o::t else if o.qty<=a then Y3 t (a-o.qty)else D9 o a::t
def Zf(a q:Int):Int:=if a<=0 then 0 else if a<q then a else q
def SJ:List X6->Int->Int->Int
 | [],_,_=>0
 |o::t,a,id=>if o.id=id then Zf a o.qty else SJ t (a-o.qty) id
theorem Qd L{a}(h:a<=0):Y3 L a=L:=by
 cases L with
 |nil=>rfl
 |cons o t=>unfold Y3;rw[X0 h]
theorem TU(id:Int):∀(L:List X6){a:Int},a<=0->(∀o∈L,1<=o.qty)->SJ L a id=0
 | [],_,_,_=>rfl
 |o::t,a,h,hq=>by
  unfold SJ;have h1:=hq o Q3
  split
  ·unfold Zf;rw[X0 h]
  exact TU id t Q0 (fun o ho=>hq o (by simp[ho]))
theorem Um{x:X6}:∀{L:List X6}{a:Int},x∈Y3 L a->∃o∈L,o.id=x.id/\o.side=x.side/\o.kind=x.kind/\o.price=x.price/\x.qty<=o.qty
 | [],_,h=>by cases h
 |o::t,a,h=>by
  unfold Y3 at h
  split at h
  ·exact⟨x,h,rfl,rfl,rfl,rfl,T3 _⟩
  split at h
  ·obtain⟨y,hy,h1⟩:=Um h
   exact⟨y,VS _ hy,h1⟩
  obtain rfl|h:=H8.1 h
  ·exact⟨o,Q3,rfl,rfl,rfl,rfl,by unfold D9;dsimp only;omega⟩
  exact⟨x,VS _ h,rfl,rfl,rfl,rfl,T3 _⟩
theorem Ku:∀{L:List X6}{a:Int},0<=a->a<PS L->Y3 L a≠[]
 | [],a,h0,h=>by simp[PS,QL]at h;omega
 |o::t,a,h0,h=>by
  have e:PS (o::t)=o.qty+PS t:=rfl;unfold Y3
  split
  ·simp
  split
  ·exact Ku Q0 Q0
  simp
theorem Ch{x:X6}{t:List X6}{n:Int}:∀{L:List X6}{a:Int},(∀o∈L,1<=o.qty)->0<=a->Y3 L a=x::t->1<=n->n<=x.qty->(if n=x.qty then t else D9 x n::t)=Y3 L (a+n)
 | [],a,_,_,h,_,_=>by simp[Y3]at h
 |o::s,a,hq,h0,h,h1,h2=>by
  have ho:=hq o Q3;have hs:∀o∈s,1<=o.qty:=fun y hy=>hq y (by simp[hy])
  unfold Y3 at h
  by_cases ha:a<=0
  ·rw[X0 ha]at h
   injection h with e1 e2
   subst e1;subst e2;unfold Y3;rw[J8 (show¬a+n<=0 by omega)]
   by_cases e:n=o.qty
   ·rw[X0 e,X0 (show o.qty<=a+n by omega),Qd _ Q0]
   rw[J8 e,J8 (show¬o.qty<=a+n by omega)];have:a+n=n:=Q0;rw[this]
  rw[J8 ha]at h
  by_cases hb:o.qty<=a
  ·rw[X0 hb]at h
   have ih:=Ch hs Q0 h h1 h2;rw[ih]
   conv=>rhs;unfold Y3
   rw[J8 (show¬a+n<=0 by omega),X0 (show o.qty<=a+n by omega)]
   congr 1
   omega
  rw[J8 hb]at h;injection h with e1 e2
  subst e1;subst e2;have e3:(D9 o a).qty=o.qty-a:=rfl;rw[e3]at h2|-
  conv=>rhs;unfold Y3
  rw[J8 (show¬a+n<=0 by omega)]
  by_cases e:n=o.qty-a
  ·rw[X0 e,X0 (show o.qty<=a+n by omega),Qd _ Q0]
  rw[J8 e,J8 (show¬o.qty<=a+n by omega)];have e4:D9 (D9 o a) n=D9 o (a+n):=by unfold D9;dsimp only;congr 1;omega
  rw[e4]
theorem Br{x:X6}{t:List X6}{n:Int}(id:Int):∀{L:List X6}{a:Int},(∀o∈L,1<=o.qty)->(L.map (·.id)).Nodup->0<=a->Y3 L a=x::t->1<=n->n<=x.qty->SJ L (a+n) id=SJ L a id+(if x.id=id then n else 0)
 | [],a,_,_,_,h,_,_=>by simp[Y3]at h
 |o::s,a,hq,hn,h0,h,h1,h2=>by
  have ho:=hq o Q3;have hs:∀o∈s,1<=o.qty:=fun y hy=>hq y (by simp[hy])
  rw[T2,UX]at hn;unfold Y3 at h;unfold SJ
  by_cases ha:a<=0
  ·rw[X0 ha]at h
   injection h with e1 e2
   subst e1
   by_cases e:o.id=id
   ·rw[X0 e,X0 e,X0 e]
    unfold Zf;rw[J8 Q0,X0 ha]
    split<;>omega
   rw[J8 e,J8 e,J8 e,TU id s Q0 hs,TU id s Q0 hs]
   rfl
  rw[J8 ha]at h
  by_cases hb:o.qty<=a
  ·rw[X0 hb]at h
   have hx:x.id≠o.id:=by
    intro e;have hm:x∈Y3 s (a-o.qty):=by rw[h];simp
    obtain⟨y,hy,hyi,_⟩:=Um hm;exact hn.1 (Y4.2 ⟨y,hy,hyi.trans e⟩)
   by_cases e:o.id=id
   ·rw[X0 e,X0 e,J8 (by rw[<-e];exact hx)]
    unfold Zf;rw[J8 Q0,J8 Q0,J8 Q0,J8 Q0];omega
   rw[J8 e,J8 e];have ih:=Br id hs hn.2 Q0 h h1 h2;rw[<-ih]
   congr 1
   omega
  rw[J8 hb]at h;injection h with e1 e2
  subst e1;have e3:(D9 o a).qty=o.qty-a:=rfl;have e4:(D9 o a).id=o.id:=rfl;rw[e3]at h2;rw[e4]
  by_cases e:o.id=id
  ·rw[X0 e,X0 e,X0 e]
   unfold Zf;rw[J8 (show¬a+n<=0 by omega),J8 ha,X0 (show a<o.qty by omega)]
   split<;>omega
  rw[J8 e,J8 e,J8 e,TU id s Q0 hs,TU id s Q0 hs]
  rfl
theorem Lk s p l l':H9 s p (l++l')=H9 s p l+H9 s p l':=Bq l l'
theorem Un{s p L}(h:∀o∈L,1<=o.qty):H9 s p L<=PS L:=by
 refine Xk6 fun o i=>?_
 have:=h o i
 split<;>omega
structure C6 where
 b:Int
 s:Int
 p:Int
 n:Int
def QZ(g:C6->Int):List C6->Int
 | []=>0
 |f::l=>g f+QZ g l
theorem Df g l f:QZ g (l++[f])=QZ g l+g f:=by
 induction l with
 |nil=>simp[QZ]
 |cons a l i=>simp only[List.cons_append,QZ,i];omega
structure GX(L1 L2:List X6)(p a:Int)(F:List C6):Prop where
 one:∀f∈F,f.p=p/\1<=f.n/\(∃o∈L1,o.id=f.b)/\(∃o∈L2,o.id=f.s)
 sum:QZ (·.n) F=a
 buy:∀id,QZ (fun f=>if f.b=id then f.n else 0) F=SJ L1 a id
 sell:∀id,QZ (fun f=>if f.s=id then f.n else 0) F=SJ L2 a id
 len:(F.length:Int)<=a
theorem GX.start{L1 L2 p}(h1:∀o∈L1,1<=o.qty)(h2:∀o∈L2,1<=o.qty):GX L1 L2 p 0 []:=
 ⟨fun f i=>(by cases i),rfl,fun id=>(TU id L1 (T3 _) h1).symm,fun id=>(TU id L2 (T3 _) h2).symm,Q3⟩
theorem GX.step{L1 L2 p a n F}(h:GX L1 L2 p a F)(h1:∀o∈L1,1<=o.qty)(h2:∀o∈L2,1<=o.qty)(J:(L1.map (·.id)).Nodup)(N:(L2.map (·.id)).Nodup)(C:0<=a){x y t u} (D:Y3 L1 a=x::t) (E:Y3 L2 a=y::u) (j:1<=n) (a0:n<=x.qty) (a1:n<=y.qty):GX L1 L2 p (a+n) (F++[⟨x.id,y.id,p,n⟩]):=by
 refine⟨?_,?_,?_,?_,?_⟩
 ·intro f i
  obtain i|i:=B8.1 i
  ·exact h.one f i
  rw[UN]at i;subst i;obtain⟨o,ho,e,_⟩:=Um (show x∈Y3 L1 a by rw[D];simp);obtain⟨o',a2,Z,_⟩:=Um (show y∈Y3 L2 a by rw[E];simp);exact⟨rfl,j,⟨o,ho,e⟩,o',a2,Z⟩
 ·rw[Df,h.sum]
 ·intro id
  rw[Df,h.buy,Br id h1 J C D j a0]
 ·intro id
  rw[Df,h.sell,Br id h2 N C E j a1]
 have:=h.len;rw[B6];simp;omega
theorem Km s L o:(UF s L o).Perm (o::L):=by unfold UF;refine List.perm_middle.trans ?_;rw[LS]
structure LF(x L1 L2:List X6):Prop where
 r1:PC 1 L1
 r2:PC 2 L2
 perm:(L1++L2).Perm (x.map U6)
 s1:∀o∈L1,o.side=1
 s2:∀o∈L2,o.side=2
theorem LF.nil:LF [] [] []:=⟨List.Pairwise.nil,List.Pairwise.nil,Xq _,fun o h=>(by cases h),fun o h=>(by cases h)⟩
theorem LF.add{x L1 L2}(h:LF x L1 L2){o}(i:V5 o.side):LF (x++[o]) (QD 1 L1 o) (QD 2 L2 o):=by
 obtain i|i:=i
 ·have u:QD 1 L1 o=UF 1 L1 (U6 o):=by unfold QD;rw[X0 i]
  have C:QD 2 L2 o=L2:=by unfold QD;rw[J8 Q0]
  rw[u,C];refine⟨Ue (.inl rfl) h.r1 _,h.r2,?_,fun y j=>?_,h.s2⟩
  ·rw[L6]
   exact((Km 1 L1 (U6 o)).append_right L2).trans ((h.perm.cons (U6 o)).trans (List.perm_append_singleton _ _).symm)
  obtain rfl|j:=Wr.1 j
  ·exact i
  exact h.s1 y j
 have u:QD 1 L1 o=L1:=by unfold QD;rw[J8 Q0]
 have C:QD 2 L2 o=UF 2 L2 (U6 o):=by unfold QD;rw[X0 i]
 rw[u,C];refine⟨h.r1,Ue (.inr rfl) h.r2 _,?_,h.s1,fun y j=>?_⟩
 ·rw[L6]
  exact((Km 2 L2 (U6 o)).append_left L1).trans (List.perm_middle.trans ((h.perm.cons (U6 o)).trans (List.perm_append_singleton _ _).symm))
 obtain rfl|j:=Wr.1 j
 ·exact i
 exact h.s2 y j
structure Zn(x:List X6):Prop where
 id:∀i(h:i<x.length),x[i].id=i+1
 ok:∀o∈x,XE o=true
 price:∀o∈x,1<=o.price/\o.price<=60
 len:x.length<=60
theorem LF.of{x L1 L2:List X6}{k}(h:LF (x.take k) L1 L2){o}(u:o∈L1++L2):∃i,∃j:i<x.length,i<k/\o=U6 x[i]:=by obtain⟨y,C,rfl⟩:=Y4.1 (h.perm.mem_iff.1 u);obtain⟨i,j,rfl⟩:=ZX.1 C;rw[R7]at j;exact⟨i,Q0,Q0,by rw[MQ]⟩
theorem Zn.side{x}(h:Zn x){o}(i:o∈x):V5 o.side:=by have:=h.ok o i;unfold XE at this;simp at this;exact this.2
theorem Zn.add{x L1 L2 k}(h:Zn x)(C:LF (x.take k) L1 L2)(hk:k<x.length):addE L1 L2 x[k]=0:=by
 have u:x[k]∈x:=C7 _;have h1:UG x[k]=true:=Kt.2 ⟨h.side u,by rw[h.id k hk];omega⟩;have h2:KS x[k]=true:=by
  have y:=h.price _ u;have j:=h.ok _ u;unfold XE at j;simp at j;unfold KS;rw[RD];refine⟨?_,?_,j.1.1,j.1.2⟩
  ·unfold U6;dsimp only;split<;>omega
  unfold U6;dsimp only;split<;>omega
 have y:B4 (L1++L2) x[k].id=none:=by unfold B4;rw[GN];intro o Z;obtain⟨i,N,a0,rfl⟩:=C.of Z;have D:(U6 x[i]).id=x[i].id:=rfl;have E:=h.id i N;have J:=h.id k hk;rw[D,E,J];simp;omega
 have j:L1.length+L2.length=k:=by have:=C.perm.length_eq;rw[B6,UJ,R7]at this;omega
 unfold addE;rw[J8 (by rw[h1];decide),J8 (by rw[h2];decide),y,J8 Q1,J8 (by have:=h.len;omega)]
theorem LF.snoc{x L1 L2 k}(h:Zn x)(i:LF (x.take k) L1 L2)(hk:k<x.length):LF (x.take (k+1)) (Jm L1 L2 x[k]).1 (Jm L1 L2 x[k]).2:=by have e:=h.add i hk;unfold Jm;rw[X0 e,M9 hk];exact i.add (h.side (C7 _))
def XC(id n:Int)(y:HO):HO:=if y.2.id=id then(y.1,D9 y.2 n)else y
def QG.cut(q:QG)(id n:Int):QG:=⟨q.price,q.A,q.c,q.os.map (XC id n)⟩
def HS.cut(h:HS)(id n:Int):HS:=⟨h.mA,h.mc,h.qA,h.qc,h.ms.map (XC id n),h.qs.map fun q=>q.cut id n⟩
section
variable {id k:Int}
theorem Qh6 y:(XC id k y).1=y.1:=by unfold XC;split<;>rfl
theorem Qv y:(XC id k y).2.id=y.2.id/\(XC id k y).2.side=y.2.side/\(XC id k y).2.kind=y.2.kind/\(XC id k y).2.price=y.2.price:=by unfold XC;split<;>exact⟨rfl,rfl,rfl,rfl⟩
theorem Jf3 y:AM (XC id k y)=AM y:=by obtain⟨_,h2,i,j⟩:=Qv (id:=id) (k:=k) y;unfold AM;rw[Qh6,h2,i,j]
theorem Qb5 l:N9 (l.map (XC id k))=N9 l:=by unfold N9;rw[YT];exact UM fun y _=>Qh6 y
theorem Qf1(q:QG):(q.cut id k).que=q.que:=by unfold QG.cut QG.que;simp
theorem Xb8 l:E7 (l.map (XC id k))=YX (E7 l) id k:=by
 unfold E7 YX;rw[YT,YT];refine UM fun y _=>?_
 show(XC id k y).2=if y.2.id=id then D9 y.2 k else y.2;unfold XC
 split<;>rfl
theorem Xb9 qs:C9 (qs.map fun q=>q.cut id k)=(C9 qs).map (XC id k):=by
 induction qs with
 |nil=>rfl
 |cons q qs u=>
  have i:C9 (q::qs)=q.os++C9 qs:=rfl;have j:C9 (List.map (fun q=>q.cut id k) (q::qs))=q.os.map (XC id k)++C9 (qs.map fun q=>q.cut id k):=rfl;rw[i,j,u,L6]
theorem Ez(h:HS):(h.cut id k).all=h.all.map (XC id k):=by show N6 _ _=List.map _ (N6 h.ms h.qs);unfold N6 HS.cut;dsimp only;rw[Xb9,L6]
theorem Qj4(h:HS):(h.cut id k).L=YX h.L id k:=by unfold HS.L;rw[Ez,Xb8]
def LY(H:Int->HS)(id k:Int):Int->HS:=fun s=>(H s).cut id k
theorem Ya H:E8 (LY H id k)=(E8 H).map (XC id k):=by unfold E8 LY;rw[Ez,Ez,L6]
variable {w w':World} {b a n r:Nat} {F:Nat->Prop} {M:Int->Int->Option X6} {f:Int->Option Value} {H:Int->HS} {reg:Nat->Int}
theorem PY.recut{s h}(X:PY w reg s h):PY w reg s (h.cut id k):=by
 refine⟨?_,?_,?_,X.gm,X.gq,?_,?_⟩
 ·show X8 w h.mA (h.ms.map (XC id k)).length h.mc _ 2 (X7 S7 (N9 (h.ms.map (XC id k))))
  rw[UJ,Qb5];exact X.rm
 ·show X8 w h.qA (h.qs.map fun q=>q.cut id k).length h.qc _ 2 (X7 YJ ((h.qs.map fun q=>q.cut id k).map QG.que))
  rw[UJ,YT];have e:(QG.que∘fun q=>q.cut id k)=QG.que:=by funext q;exact Qf1 q
  rw[e];exact X.rq
 ·intro q j
  obtain⟨i,u,rfl⟩:=Y4.1 j;show X8 w i.A (i.os.map (XC id k)).length i.c _ 2 (X7 S7 (N9 (i.os.map (XC id k))));rw[UJ,Qb5];exact X.rl i u
 ·intro q j
  obtain⟨i,u,rfl⟩:=Y4.1 j;exact X.gl i u
 show((h.qs.map fun q=>q.cut id k).filterMap fun q=>X5 q.A).Nodup;rw[List.filterMap_map];exact X.nd
theorem Qf2{h i}:DJ (h.cut id k) i↔DJ h i:=by
 unfold DJ HS.cut;dsimp only;constructor
 ·rintro(h1|h1|⟨q,hq,h1⟩)
  ·exact .inl h1
  ·exact .inr (.inl h1)
  obtain⟨u,j,rfl⟩:=Y4.1 hq;exact .inr (.inr ⟨u,j,h1⟩)
 rintro(h1|h1|⟨q,hq,h1⟩)
 ·exact .inl h1
 ·exact .inr (.inl h1)
 exact .inr (.inr ⟨q.cut id k,Y4.2 ⟨q,hq,rfl⟩,h1⟩)
theorem Xk7{i}:Y1 b r F (LY H id k) i↔Y1 b r F H i:=by unfold Y1 LY;rw[Qf2,Qf2]
theorem Y0.recut(h:Y0 w b a F M n r f H reg):Y0 w b a F M n r f (LY H id k) reg:=by
 refine⟨?_,h.ar,h.mp,fun s i=>(h.hx s i).recut,h.gb,h.gr,h.gF⟩;have e:YY a r (LY H id k)=YY a r H:=by unfold YY LY HS.cut;simp
 rw[e];exact h.blk
theorem B5.cut(S:B5 M n f H){x}(hx:x∈E8 H)(h1:1<=k)(h2:k<x.2.qty):B5 (XA M x.1.1 x.1.2 (some (D9 x.2 k))) n f (LY H x.2.id k):=by
 have N:∀y,y∈E8 (LY H x.2.id k)->∃y0∈E8 H,y=XC x.2.id k y0:=by intro y j;rw[Ya]at j;obtain⟨y0,h,rfl⟩:=Y4.1 j;exact⟨y0,h,rfl⟩
 refine⟨fun s hs=>?_,fun s hs=>?_,?_,?_,?_,?_,?_,?_⟩
 ·have X:=S.is s hs
  refine⟨?_,?_,?_⟩
  ·intro y j
   obtain⟨y0,h,rfl⟩:=Y4.1 j;obtain⟨_,E,J,_⟩:=Qv (id:=x.2.id) (k:=k) y0;rw[E,J];exact X.mkt y0 h
  ·intro q Z y j
   obtain⟨D,a0,rfl⟩:=Y4.1 Z;obtain⟨y0,h,rfl⟩:=Y4.1 (show y∈D.os.map _ from j);obtain⟨_,E,J,e4⟩:=Qv (id:=x.2.id) (k:=k) y0;rw[E,J,e4];exact X.qk D a0 y0 h
  show FY s (((H s).qs.map fun q=>q.cut x.2.id k).map QG.que);rw[YT];have e:(QG.que∘fun q=>q.cut x.2.id k)=QG.que:=by funext q;exact Qf1 q
  rw[e];exact X.rank
 ·intro q Z
  obtain⟨D,a0,rfl⟩:=Y4.1 Z;intro e;exact S.ne s hs D a0 (List.map_eq_nil_iff.1 (show D.os.map _=[]from e))
 ·intro y j
  obtain⟨y0,h,rfl⟩:=N y j
  by_cases e:y0.2.id=x.2.id
  ·have C:=S.same_id h hx e
   subst C;have u:XC y0.2.id k y0=(y0.1,D9 y0.2 k):=X0 rfl;rw[u];unfold XA;rw[X0 ⟨rfl,rfl⟩]
  have u:XC x.2.id k y0=y0:=J8 e;rw[u];unfold XA;rw[J8]
  ·exact S.hM y0 h
  rintro⟨h3,h4⟩;have C:=S.same_h h hx (Prod.ext h3 h4);exact e (by rw[C])
 ·intro y j
  obtain⟨y0,h,rfl⟩:=N y j;rw[Jf3,(Qv y0).1];exact S.hf y0 h
 ·intro i v hv
  obtain⟨y,j,e⟩:=S.hk i v hv;refine⟨XC x.2.id k y,?_,by rw[(Qv y).1];exact e⟩;rw[Ya];exact Y4.2 ⟨y,j,rfl⟩
 ·rw[Ya,YT]
  have e:((fun x:HO=>x.2.id)∘XC x.2.id k)=fun x:HO=>x.2.id:=by funext y;exact(Qv y).1
  rw[e];exact S.ids
 ·rw[Ya,UJ]
  exact S.cnt
 intro y j;obtain⟨y0,h,rfl⟩:=N y j;have ok:=S.ok y0 h
 by_cases e:y0.2.id=x.2.id
 ·have C:=S.same_id h hx e
  subst C;have u:XC y0.2.id k y0=(y0.1,D9 y0.2 k):=X0 rfl;rw[u];obtain⟨⟨f1,f2,f3,f4,f5⟩,o1,o2,o3⟩:=ok;unfold D9;refine⟨⟨f1,f2,f3,f4,?_⟩,o1,o2,?_⟩
  ·unfold V3 at*;dsimp only;omega
  dsimp only;omega
 have u:XC x.2.id k y0=y0:=J8 e;rw[u];exact ok
end
def QV(L:List X6)(o:X6)(n:Int):List X6:=if n=o.qty then L9 L o.id else YX L o.id n
theorem Sr{x t n}(h:∀y∈t,y.id≠x.id):QV (x::t) x n=if n=x.qty then t else D9 x n::t:=by
 unfold QV
 split
 ·unfold L9
  rw[List.filter_cons];simp;intro y i;exact h y i
 unfold YX;rw[T2,X0 rfl]
 congr 1
 refine(UM fun y i=>?_).trans (List.map_id _);rw[J8 (h y i)]
 rfl
theorem Ci{x L n}(h:∀y∈L,y.id≠x.id):QV L x n=L:=by
 unfold QV
 split
 ·unfold L9
  rw[VT];intro y i;simpa using h y i
 unfold YX;refine(UM fun y i=>?_).trans (List.map_id _);rw[J8 (h y i)]
 rfl
def EZ(L1 L2:List X6)(id n:Int):Int:=
 match B4 (L1++L2) id with
 |none=>7
 |some o=>if n<1\/o.qty<n then 2 else 0
def Xk8(w:World)(b:Nat)(G:Nat->Prop)(L1 L2:List X6)(id n:Int)(e:Ending)(w':World):Prop:=
 (EZ L1 L2 id n≠0/\e=.returned (Y9 (EZ L1 L2 id n))/\Bz w w')\/
 (∃o,B4 (L1++L2) id=some o/\1<=n/\n<=o.qty/\e=.returned (Y9 0)/\GK w w' b G (QV L1 o n) (QV L2 o n))
def Qf3:Prop:=∀w b G L1 L2,JC w b G L1 L2->∀id n,V3 n->Calls prog 255 #[pA b,I O id,I O n] w (Xk8 w b G L1 L2 id n)
theorem Qx5 w b G L1 L2(h:JC w b G L1 L2)o(Z:JV o):Calls prog 222 #[pA b,V6 o] w (Yk w b G L1 L2 o):=by
 obtain⟨a,F,M,n,r,f,H,reg,y,i,N,rfl,rfl⟩:=h;have hn:=y.ar.le;unfold Yk
 cases h1:UG o with
 |false=>
  have e:addE (H 1).L (H 2).L o=1:=by unfold addE;rw[X0 h1]
  rw[e];exact(Xi8 w b o h1).mono fun u w' h=>.inl ⟨Q1,h⟩
 |true=>
 cases h2:KS o with
 |false=>
  have e:addE (H 1).L (H 2).L o=2:=by unfold addE;rw[J8 (by rw[h1];decide),X0 h2]
  rw[e];exact(Jo3 w b o h1 h2).mono fun u w' h=>.inl ⟨Q1,h⟩
 |true=>
 cases C:f o.id with
 |some v=>
  obtain⟨x,J,J6⟩:=i.hk _ _ C;have E:=i.hf x J;rw[J6]at E;have j:(B4 ((H 1).L++(H 2).L) o.id).isSome=true:=by rw[<-J6,Uk i J];rfl
  have e:addE (H 1).L (H 2).L o=9:=by unfold addE;rw[J8 (by rw[h1];decide),J8 (by rw[h2];decide),X0 j]
  rw[e];exact(Jo4 w b o a F M n r f H reg y h1 h2 x E).mono fun u w' h=>.inl ⟨Q1,h⟩
 |none=>
 have j:¬(B4 ((H 1).L++(H 2).L) o.id).isSome=true:=by rw[Ul i C];decide
 have D:(H 1).L.length+(H 2).L.length=n:=by rw[i.cnt];unfold E8 HS.L E7;simp
 refine(Xb4 w b o a F M n r f H reg y i Z h1 h2 C hn).mono ?_;rintro u w'(⟨h3,h⟩|⟨h3,h⟩)
 ·have e:addE (H 1).L (H 2).L o=12:=by unfold addE;rw[J8 (by rw[h1];decide),J8 (by rw[h2];decide),J8 j,X0 (by rw[D];exact h3)]
  rw[e];exact .inl ⟨Q1,h⟩
 have e:addE (H 1).L (H 2).L o=0:=by unfold addE;rw[J8 (by rw[h1];decide),J8 (by rw[h2];decide),J8 j,J8 (by rw[D];omega)]
 rw[e];exact .inr ⟨rfl,h.1,Xo2 (Kt.1 h1).1 N h.2⟩
def QM(L:List X6)(k:Nat):List X6:=L.take k++L.drop (k+1)
def MW(s:Int)(L1 L2 L:List X6)(o:X6):List X6:=if addE L1 L2 o=0 then QD s L o else L
def Qj5(L1 L2:List X6)(id:Int):Int:=if(B4 (L1++L2) id).isSome=true then 0 else 7
def Qj6(L1 L2:List X6)(id:Int):X6:=(B4 (L1++L2) id).getD D4
theorem Uo{L id}(h:∀o∈L,o.id≠id):L9 L id=L:=VT.2 (fun o i=>by simpa using h o i)
def Zo(L1 L2 L:List X6)(id n:Int):List X6:=match B4 (L1++L2) id with
 |none=>L
 |some o=>if 1<=n/\n<=o.qty then QV L o n else L
