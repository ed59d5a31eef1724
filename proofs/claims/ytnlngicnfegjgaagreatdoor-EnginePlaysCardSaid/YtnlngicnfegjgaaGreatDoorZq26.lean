/- Parts. -/
import Derived.Test.YtnlngicnfegjgaaGreatDoorZq25
set_option linter.unusedVariables false
set_option maxRecDepth 100000
set_option maxHeartbeats 8000000
open Go.Proofs.Tryz
open Go.Value renaming int→I,pointer→IP
open Go.IntKind renaming i64→O
namespace Go.Proofs.YtnlngicnfegjgaaGreatDoor
open Go.RowKit
set_option linter.unusedSimpArgs false
theorem UH x i u w:Calls prog 55 #[I O x,I O i,I O u] w fun e w'=>e= .returned (.bool (decide (i<=x) &&decide (x<=u)))/\w=w':=by
 by_cases h1:i<=x
 ·have j:=Z5 h1
  go_enter NU,NK
  go_wp2;go_ret;exact⟨by simp[j],rfl⟩
 have j:=Z1 h1
 go_enter NU,NK
 go_wp2
 go_ret
 exact⟨by simp[j],rfl⟩
def JT (L:List Q8) (o:Q8):Int:=if XW o=false then 1 else if JH o=false then 2 else if(Y0 L o.id).isSome=true then 9 else if 100<=L.length then 12 else 0
def YE (L:List Q8) (o:Q8):List Q8:=if JT L o=0 then L++ [V3 o]else L
theorem Xo:(prog.info? 29).map (fun i=>(i.zero,i.size,i.bytes))=some (some (.agg #[I O 0,I O 0,I O 0,I O 0,I O 0]),5,40):=by kernel_rfl
theorem GY {w w1 row} (h:w.grownBy w1 row):Q6 (fun i=>row=some i) w w1:=⟨h.os,h.tape,h.output,h.size,fun i j u=>h.block i j (fun e=>u e.symm)⟩
theorem ZQ {B w w1 w2 A} (h:Below B w w1) (j:w1.grownBy w2 (Q7 A)) (v: ∀g,Q7 A=some g->B<=g) (u:B<=w1.heap.size):Below B w w2:=h.trans ((GY j).below (fun i e=>v i e) u)
theorem ZY {A1 A2 S B} (j: ∀g,Q7 A2=some g->Q7 A1=some g\/g=S) (h1: ∀g,Q7 A1=some g->B<=g) (h2:B<=S): ∀g,Q7 A2=some g->B<=g:=fun g i=>by
 rcases j g i with e|e
 ·exact h1 g e
 rw[e];exact h2
theorem KE {g0 B} (h:B<=g0): ∀g,Q7 (some ⟨g0,0,none⟩)=some g->B<=g:=fun g i=>by
 have h2:some g0=some g:=i
 have:=KZ h2
 omega
theorem RA {w g t p} (h:w.heap[g]?=some (.cells (J8 p) t (0,0))) (v:g<w.heap.size):V4 w X9 5 (some ⟨g,0,none⟩) 1 [p]:=by
 refine⟨rfl,fun _=>⟨g,0,rfl,v,fun i C j u E=> ?_⟩⟩
 have N:i=0:=by simp at C;omega
 subst N
 have J:Q1 w g t (J8 p):=h
 have y:=J0 J j
 simp only[Nat.zero_mul,Nat.zero_add]
 rw[y]
 have D:(X9 p)[j]?=some u:=E
 rw[<-D,<-Array.getElem?_toList]
 rfl
theorem Jc4 w B t cs o0 A L (h:JL w B t cs o0 A L) (hn:L.length<=100000) o:
  Calls prog 59 #[IP (some ⟨B,o0,none⟩),X5 o] w fun e w'=>e= .returned (I O (JT L o))/\JV w w' B t cs o0 A (YE L o):=by
 have f0:Below w.heap.size w (w.alloc (.cells (J8 o) 29)):=(Q2 _ _).alloc (Q4 _) _
 have HX:=Q0 (J9 w 29 (J8 o))
 have HR:=Q0 h
 have HB:=Q0 f0
 have f2:=h.blt
 have e7:L.length<=100000:=hn
 unfold X5
 obtain⟨i0,c4,c3,b8,c0⟩:=N0 Xo
 obtain⟨x0,x1,x2,x3,x4⟩:=Z6 HX
 have f3:=J1 HX 3
 clear h f0 hn
 by_cases hs: ¬(1<=o.side/\o.side<=2)
 ·have HS:=Q0 (show(decide (1<=o.side) &&decide (o.side<=2))=false by simp;omega)
  have v:=Q0 (show JT L o=1 by unfold JT;rw[Q5 (by unfold XW;simp;omega)]);clear hs;go_enter func59,ntmps59
  go_wp2_with fail
  refine(UH _ _ _ _).mono ?_;rintro e w' ⟨rfl,rfl⟩;rw[HS.out];go_wp2_with fail
  go_ret;exact⟨T3 (by rw[v.out]),by unfold YE;rw[v.out,Q3 (by decide)];exact LM HR HB⟩
 have e6:1<=o.side/\o.side<=2:=by omega
 have HS:=Q0 (show(decide (1<=o.side) &&decide (o.side<=2))=true by simp;omega)
 by_cases hd:o.id<1
 ·have d1:=Z5 hd
  have v:=Q0 (show JT L o=1 by unfold JT;rw[Q5 (by unfold XW;simp;omega)]);clear hd hs e6;go_enter func59,ntmps59
  go_wp2_with fail
  refine(UH _ _ _ _).mono ?_;rintro e w' ⟨rfl,rfl⟩;rw[HS.out];go_wp2_with fail
  go_ret;exact⟨T3 (by rw[v.out]),by unfold YE;rw[v.out,Q3 (by decide)];exact LM HR HB⟩
 have d1:=Z1 hd
 have d0:=Q0 (show XW o=true by unfold XW;simp;omega)
 clear hd hs e6
 go_enter func59,ntmps59
 go_wp2_with fail
 refine(UH _ _ _ _).mono ?_
 rintro e w' ⟨rfl,rfl⟩
 rw[HS.out]
 go_upto_if 16 with fail
 go_cut [17] (fun f8 wx=>Q1 wx w.heap.size 29 (J8 (V3 o))/\Below w.heap.size w wx)
 case first=>
  by_cases b2:o.kind=2
  ·have d2:=Z0 b2
   have v:=Q0 (show V3 o=⟨o.id,o.side,o.kind,1,o.qty⟩ by unfold V3;rw[Q5 b2]);clear b2;go_wp2_with fail
   go_meet;exact⟨by rw[v.out];exact J9 w _ _,(Q2 _ _).alloc (Q4 _) _⟩
  have d2:=X3 b2;have v:=Q0 (show V3 o=o by unfold V3;rw[Q3 b2]);clear b2;go_wp2_with fail
  go_meet;exact⟨by rw[v.out];exact HX,HB⟩
 obtain⟨hX,hB⟩:=hcut
 obtain⟨w1,rfl⟩: ∃w1,w1=wc:=⟨_,rfl⟩
 clear x0 x1 x2 x3 x4 f3
 obtain⟨x0,x1,x2,x3,x4⟩:=Z6 hX
 have HX:=Q0 hX
 have HB:=Q0 hB
 have e4:=Q0 (show(V3 o).qty=o.qty from rfl)
 have d5:=Q0 (show(V3 o).id=o.id from rfl)
 clear hX hB
 obtain⟨p,EP⟩: ∃p,Hid (V3 o=p):=⟨_,Q0 rfl⟩
 rw[EP.out]at x0 x1 x2 x3 x4 HX e4 d5
 have e8:=Q0 (show∀W,Calls prog 54 #[I O p.price,I O p.qty] W fun e w'=>e= .returned (.bool (JH o))/\W=w' from fun W=>(DG p.price p.qty W).mono fun e w' ⟨h1,h2⟩=>⟨by rw[h1];unfold JH;rw[EP.out,e4.out],h2⟩)
 cases hr:JH o with
 |false=>
  have v:=Q0 (show JT L o=2 by unfold JT;rw[d0.out,Q3 (by decide),Q5 hr]);have b9:=Q0 hr;clear hr;go_wp2_with fail
  refine(e8 _).mono ?_;rintro e w' ⟨rfl,rfl⟩;rw[b9.out];go_wp2_with fail
  go_ret;exact⟨T3 (by rw[v.out]),by unfold YE;rw[v.out,Q3 (by decide)];exact LM HR HB⟩
 |true=>
  have b9:=Q0 hr;have e3:=Q0 (Un w1 B t cs o0 A L (HR.below HB) e7 p.id);clear hr;go_wp2_with fail
  refine(e8 _).mono ?_;rintro e w' ⟨rfl,rfl⟩;rw[b9.out];go_wp2_with fail
  refine e3.mono ?_;rintro e w2 ⟨rfl,d6⟩;have b5:=Q0 (HB.trans (d6.mono HB.size));have e9:=Q0 (J4 HX d6);clear x0 x1 x2 x3 x4 d6 e3 HX;rcases WK L p.id with⟨hi,hg⟩|⟨k,hk,hi,-,f7,hg⟩
  ·have HG:=Q0 (show(Y0 L o.id).isSome=false by rw[<-d5.out,hg];rfl)
   rw[hi];have d2: ¬(0:Int)<= -1:=by omega
   clear hi hg;have d3:=HR.below b5;obtain⟨c,y0,-⟩:=d3.cell;obtain⟨n,hn⟩:=exq L.length;rw[hn]at y0 e7;have HN:=Q0 hn;have e5:=Q0 d3;clear hn d3
   by_cases hf:100<=n
   ·have d4:(100:Int)<=(n:Int):=by omega
    have v:=Q0 (show JT L o=12 by unfold JT;rw[d0.out,Q3 (by decide),b9.out,Q3 (by decide),HG.out,Q3 (by decide),Q5 (by rw[HN.out];exact hf)]);clear hf;go_wp2_with fail
    go_ret;exact⟨T3 (by rw[v.out]),by unfold YE;rw[v.out,Q3 (by decide)];exact LM HR b5⟩
   have d4: ¬(100:Int)<=(n:Int):=by omega
   have v:=Q0 (show JT L o=0 by unfold JT;rw[d0.out,Q3 (by decide),b9.out,Q3 (by decide),HG.out,Q3 (by decide),Q3 (by rw[HN.out];exact hf)]);have f1:=Q0 (show YE L o=L++ [p] by unfold YE;rw[v.out,Q5 rfl,EP.out]);have d8:=e5.els;rw[HN.out]at d8;have d9:=Q0 d8;have f4:n<=1000:=by omega
   clear hf d8;obtain⟨x0,x1,x2,x3,x4⟩:=Z6 e9;have C:=Q0 (show∀W,Below w2.heap.size w2 W->(W.cell? ⟨w.heap.size,0,none⟩=some (I O p.id)/\W.cell? ⟨w.heap.size,1,none⟩=some (I O p.side)/\W.cell? ⟨w.heap.size,2,none⟩=some (I O p.kind)/\W.cell? ⟨w.heap.size,3,none⟩=some (I O p.price)/\W.cell? ⟨w.heap.size,4,none⟩=some (I O p.qty))/\W.cell? ⟨B,o0,none⟩=some (.slice A n c)from fun W hb=>by
    obtain⟨q0,q1,q2,q3,q4⟩:=Z6 (J4 e9 hb);exact⟨⟨q0,q1,q2,q3,q4⟩,(hb.cell (V6 w2 _ y0)).trans y0⟩)
   have d7:=Q0 (show∀W A' c',Below w2.heap.size w2 W->J2 W A' (n+1) c' 29 5 (Q9 X9 L++X9 p)->(∀g,Q7 A'=some g->w2.heap.size<=g)->JV w (W.setCell ⟨B,o0,none⟩ (.slice A' (n+1) c')) B t cs o0 A (YE L o)from fun W A' c' hb hr hg=>by
    rw[f1.out];exact HR.put (b5.trans (hb.mono b5.size)) (t':=29) (by rw[UE];exact hr) (fun g h=>G0 b5.size (hg g h)))
   have e1:=Q0 (show∀W,Below w2.heap.size w2 W->W.frozen? ⟨B,o0,none⟩=false from fun W hb=>J1 (J4 e5.blk hb) o0);go_upto_region 11 with fail
   refine CH 12 (fun W=>(W.cell? ⟨w.heap.size,0,none⟩=some (I O p.id)/\W.cell? ⟨w.heap.size,1,none⟩=some (I O p.side)/\W.cell? ⟨w.heap.size,2,none⟩=some (I O p.kind)/\W.cell? ⟨w.heap.size,3,none⟩=some (I O p.price)/\W.cell? ⟨w.heap.size,4,none⟩=some (I O p.qty))/\W.cell? ⟨B,o0,none⟩=some (.slice A n c)) (by kernel_rfl) ⟨⟨x0,x1,x2,x3,x4⟩,y0⟩ (fun u=> ?_);refine tT 0 (IP (some ⟨B,o0,none⟩)) ?_;refine tT 2 (IP (some ⟨B,o0,none⟩)) ?_;refine tT 3 (IP (some ⟨B,o0,none⟩)) ?_;refine tT 4 (IP (some ⟨B,o0,none⟩)) ?_;refine tT 5 (.slice A n c) ?_;refine tT 7 (.agg #[I O p.id,I O p.side,I O p.kind,I O p.price,I O p.qty]) ?_;clear x0 x1 x2 x3 x4 y0 u;have i:=Q0 (show Below w2.heap.size w2 w2 from Q2 _ _);have y:=Q0 (Q4 w2.heap.size);refine Xa 1 8 (by kernel_rfl) rfl rfl (fun D j=> ?_) (fun D j=> ?_)
   ·go_simp
    obtain⟨v1,a2⟩:=exq ((w2.alloc (.cells #[] 29)).drew);have E:Below w2.heap.size w2 v1:=by rw[<-a2];exact J3 ((Q2 _ _).alloc (Q4 _) _)
    have a3:=Q0 (show J2 v1 (some ⟨w2.heap.size,0,none⟩) 0 0 29 5 [] by rw[<-a2];exact GA _ _ _);have i:=Q0 (i.trans (E.mono i.size));obtain⟨ge,a0⟩:=exq w2.heap.size;have a9:w2.heap.size<=ge:=by rw[<-a0];have:=y.out;exact this
    rw[a2,a0];rw[a0]at a3;clear a2 a0 E;have y:=Q0 i.size;refine j _ _ (C _ i) (fun u=> ?_);clear j u;refine Xa 6 8 (by kernel_rfl) rfl rfl (fun D j=> ?_) (fun D j=> ?_)
    ·refine KS H6 JK (by rfl) _ _ _ (by rfl) 29 i0 _ 40 QM c4 c3 b8 c0 rfl (by omega) (some ⟨ge,0,none⟩) 0 0 [] (by rfl) a3 (A) n c L (by rfl) (d9.below i (Q4 _)) (by unfold maxLen;omega) (by omega) ?_
     intro A1 c1 v2 N U a6;rw[QQ,VZ]at N;rw[QQ];have b0:=GY U;have b1:=Q0 N;have a5:=Q0 (ZY a6 (KE a9) y);have i:=Q0 (ZQ i U (KE a9) y);have y:=Q0 i.size;clear N U a6 b0;refine j _ _ (C _ i) (fun u=> ?_);clear j u;simp only[Act.put,List.setIfInBounds_toArray,List.set_cons_zero,List.set_cons_succ];refine Y8 8 (by kernel_rfl) rfl (fun D j=> ?_);go_simp;obtain⟨v3,c9⟩:=exq (v2.alloc (.cells #[I O p.id,I O p.side,I O p.kind,I O p.price,I O p.qty] 29));have E:Below v2.heap.size v2 v3:=by rw[<-c9];exact(Q2 _ _).alloc (Q4 _) _
     have b1:=Q0 (b1.below E);have J:=Q0 (show V4 v3 X9 5 (some ⟨v2.heap.size,0,none⟩) 1 [p] by rw[<-c9];exact RA (t:=29) (S5 v2 _) (by simp));have i:=Q0 (i.trans (E.mono i.size));obtain⟨gb,Z⟩:=exq v2.heap.size;rw[c9,Z];rw[Z]at J;clear c9 Z E;have y:=Q0 i.size;refine j _ _ (C _ i) (fun u=> ?_);clear j u;refine Y8 9 (by kernel_rfl) rfl (fun D j=> ?_);refine KS H6 JK (by rfl) _ _ _ (by rfl) 29 i0 _ 40 QM c4 c3 b8 c0 rfl (by omega) (A1) n c1 (Q9 X9 L) (by rfl) b1 (some ⟨gb,0,none⟩) 1 1 [p] (by rfl) J (by unfold maxLen;omega) (by omega) ?_;intro A2 c2 v4 a8 a7 a4;have c7:=Q0 a8;have c6:=Q0 (ZY a4 a5 y);have i:=Q0 (ZQ i a7 a5 y);clear a8 a7 a4;refine j _ _ (C _ i) (fun u=> ?_);clear j u;simp only[Act.put,List.setIfInBounds_toArray,List.set_cons_zero,List.set_cons_succ];refine Y8 10 (by kernel_rfl) rfl (fun D j=> ?_);go_simp;refine j _ _ (C _ i) (fun u=> ?_);clear j u;refine Y8 11 (by kernel_rfl) rfl (fun D j=> ?_);go_simp;refine j _ _ (C _ i) (fun u=> ?_);clear j u;have c8:=e1.out _ i;obtain⟨-,c5⟩:=C.out _ i;refine YY (by kernel_rfl) rfl (fun D j=> ?_);go_simp;refine j _ _ (YU (by kernel_rfl) ?_ _);clear j c8 c5;go_wp2_with fail
     go_ret;exact⟨T3 (by rw[v.out]),d7 _ _ _ i c7 c6⟩
    go_simp;obtain⟨v2,a1⟩:=exq (v1.alloc (.cells #[I O p.id,I O p.side,I O p.kind,I O p.price,I O p.qty] 29));have E:Below v1.heap.size v1 v2:=by rw[<-a1];exact(Q2 _ _).alloc (Q4 _) _
    have f6:ge<v1.heap.size:=a3.lt rfl;have a3:=Q0 (a3.below E);have J:=Q0 (show V4 v2 X9 5 (some ⟨v1.heap.size,0,none⟩) 1 [p] by rw[<-a1];exact RA (t:=29) (S5 v1 _) (by simp));have i:=Q0 (i.trans (E.mono i.size));obtain⟨gb,Z⟩:=exq v1.heap.size;have e2:ge≠gb:=by omega
    rw[a1,Z];rw[Z]at J;clear a1 Z E;have y:=Q0 i.size;refine j _ _ (C _ i) (fun u=> ?_);clear j u;refine Y8 6 (by kernel_rfl) rfl (fun D j=> ?_);refine KS H6 JK (by rfl) _ _ _ (by rfl) 29 i0 _ 40 QM c4 c3 b8 c0 rfl (by omega) (some ⟨ge,0,none⟩) 0 0 [] (by rfl) a3 (A) n c L (by rfl) (d9.below i (Q4 _)) (by unfold maxLen;omega) (by omega) ?_;intro A1 c1 v3 N U a6;rw[QQ,VZ]at N;rw[QQ];have b0:=GY U;have J:=Q0 (J.keeps b0 (fun g hg e=>by cases hg;have e:some ge=some gb:=e;exact e2 (KZ e)));have b1:=Q0 N;have a5:=Q0 (ZY a6 (KE a9) y);have i:=Q0 (ZQ i U (KE a9) y);have y:=Q0 i.size;clear N U a6 b0;refine j _ _ (C _ i) (fun u=> ?_);clear j u;simp only[Act.put,List.setIfInBounds_toArray,List.set_cons_zero,List.set_cons_succ];refine Y8 9 (by kernel_rfl) rfl (fun D j=> ?_);refine KS H6 JK (by rfl) _ _ _ (by rfl) 29 i0 _ 40 QM c4 c3 b8 c0 rfl (by omega) (A1) n c1 (Q9 X9 L) (by rfl) b1 (some ⟨gb,0,none⟩) 1 1 [p] (by rfl) J (by unfold maxLen;omega) (by omega) ?_;intro A2 c2 v4 a8 a7 a4;have c7:=Q0 a8;have c6:=Q0 (ZY a4 a5 y);have i:=Q0 (ZQ i a7 a5 y);clear a8 a7 a4;refine j _ _ (C _ i) (fun u=> ?_);clear j u;simp only[Act.put,List.setIfInBounds_toArray,List.set_cons_zero,List.set_cons_succ];refine Y8 10 (by kernel_rfl) rfl (fun D j=> ?_);go_simp;refine j _ _ (C _ i) (fun u=> ?_);clear j u;refine Y8 11 (by kernel_rfl) rfl (fun D j=> ?_);go_simp;refine j _ _ (C _ i) (fun u=> ?_);clear j u;have c8:=e1.out _ i;obtain⟨-,c5⟩:=C.out _ i;refine YY (by kernel_rfl) rfl (fun D j=> ?_);go_simp;refine j _ _ (YU (by kernel_rfl) ?_ _);clear j c8 c5;go_wp2_with fail
    go_ret;exact⟨T3 (by rw[v.out]),d7 _ _ _ i c7 c6⟩
   go_simp;obtain⟨v1,a2⟩:=exq ((w2.alloc (.cells #[I O p.id,I O p.side,I O p.kind,I O p.price,I O p.qty] 29)).drew);have E:Below w2.heap.size w2 v1:=by rw[<-a2];exact J3 ((Q2 _ _).alloc (Q4 _) _)
   have J:=Q0 (show V4 v1 X9 5 (some ⟨w2.heap.size,0,none⟩) 1 [p] by rw[<-a2];exact RA (t:=29) (S5 w2 _) (by simp));have i:=Q0 (i.trans (E.mono i.size));obtain⟨gb,Z⟩:=exq w2.heap.size;rw[a2,Z];rw[Z]at J;clear a2 Z E;have y:=Q0 i.size;refine j _ _ (C _ i) (fun u=> ?_);clear j u;refine Y8 1 (by kernel_rfl) rfl (fun D j=> ?_);go_simp;obtain⟨v2,a1⟩:=exq (v1.alloc (.cells #[] 29));have E:Below v1.heap.size v1 v2:=by rw[<-a1];exact(Q2 _ _).alloc (Q4 _) _
   have f5:gb<v1.heap.size:=by obtain⟨b,o,h1,h2,-⟩:=J.2 (by omega);cases h1;exact h2
   have J:=Q0 (J.below E (Q4 _));have a3:=Q0 (show J2 v2 (some ⟨v1.heap.size,0,none⟩) 0 0 29 5 [] by rw[<-a1];exact GA _ _ _);have i:=Q0 (i.trans (E.mono i.size));obtain⟨ge,a0⟩:=exq v1.heap.size;have a9:w2.heap.size<=ge:=by rw[<-a0];have:=y.out;exact this
   have e2:ge≠gb:=by omega
   rw[a1,a0];rw[a0]at a3;clear a1 a0 E;have y:=Q0 i.size;refine j _ _ (C _ i) (fun u=> ?_);clear j u;refine Y8 6 (by kernel_rfl) rfl (fun D j=> ?_);refine KS H6 JK (by rfl) _ _ _ (by rfl) 29 i0 _ 40 QM c4 c3 b8 c0 rfl (by omega) (some ⟨ge,0,none⟩) 0 0 [] (by rfl) a3 (A) n c L (by rfl) (d9.below i (Q4 _)) (by unfold maxLen;omega) (by omega) ?_;intro A1 c1 v3 N U a6;rw[QQ,VZ]at N;rw[QQ];have b0:=GY U;have J:=Q0 (J.keeps b0 (fun g hg e=>by cases hg;have e:some ge=some gb:=e;exact e2 (KZ e)));have b1:=Q0 N;have a5:=Q0 (ZY a6 (KE a9) y);have i:=Q0 (ZQ i U (KE a9) y);have y:=Q0 i.size;clear N U a6 b0;refine j _ _ (C _ i) (fun u=> ?_);clear j u;simp only[Act.put,List.setIfInBounds_toArray,List.set_cons_zero,List.set_cons_succ];refine Y8 9 (by kernel_rfl) rfl (fun D j=> ?_);refine KS H6 JK (by rfl) _ _ _ (by rfl) 29 i0 _ 40 QM c4 c3 b8 c0 rfl (by omega) (A1) n c1 (Q9 X9 L) (by rfl) b1 (some ⟨gb,0,none⟩) 1 1 [p] (by rfl) J (by unfold maxLen;omega) (by omega) ?_;intro A2 c2 v4 a8 a7 a4;have c7:=Q0 a8;have c6:=Q0 (ZY a4 a5 y);have i:=Q0 (ZQ i a7 a5 y);clear a8 a7 a4;refine j _ _ (C _ i) (fun u=> ?_);clear j u;simp only[Act.put,List.setIfInBounds_toArray,List.set_cons_zero,List.set_cons_succ];refine Y8 10 (by kernel_rfl) rfl (fun D j=> ?_);go_simp;refine j _ _ (C _ i) (fun u=> ?_);clear j u;refine Y8 11 (by kernel_rfl) rfl (fun D j=> ?_);go_simp;refine j _ _ (C _ i) (fun u=> ?_);clear j u;have c8:=e1.out _ i;obtain⟨-,c5⟩:=C.out _ i;refine YY (by kernel_rfl) rfl (fun D j=> ?_);go_simp;refine j _ _ (YU (by kernel_rfl) ?_ _);clear j c8 c5;go_wp2_with fail
   go_ret;exact⟨T3 (by rw[v.out]),d7 _ _ _ i c7 c6⟩
  have v:=Q0 (show JT L o=9 by unfold JT;rw[d0.out,Q3 (by decide),b9.out,Q3 (by decide),Q5 (by rw[<-d5.out,hg];rfl)]);rw[hi];have d2:(0:Int)<=(k:Int):=by omega
  clear hi hg;go_wp2_with fail
  go_ret;exact⟨T3 (by rw[v.out]),by unfold YE;rw[v.out,Q3 (by decide)];exact LM HR b5⟩
theorem Hc {w B t cs o0 A L} (h:JL w B t cs o0 A L) (i:L.length<=100000) side (hp: ∀o∈C4 side L,-1000000000<=o.price/\o.price<=1000000000):
  Calls prog 33 #[IP (some ⟨B,o0,none⟩),I O side] w fun e w'=>Below w.heap.size w w'/\ ∃A' c',e= .returned (.slice A' (JR side L).length c')/\J2 w' A' (JR side L).length c' 29 5 (Q9 X9 (JR side L))/\ ∀g,Q7 A'=some g->w.heap.size<=g:=by
 obtain⟨c,j,-⟩:=h.cell
 exact UF w B o0 A L.length c L side j h.els i hp
attribute [local go_sem↓] Go.wp_at_zero Go.wp_at_succ
theorem Uq m st an p w (i:w.cell? ⟨m,1,none⟩=some (I O st)) (j:w.cell? ⟨m,3,none⟩=some (I O an)):
  Calls prog 74 #[IP (some ⟨m,0,none⟩),I O p] w fun e w'=>e= .returned (.bool (US st an p))/\Below w.heap.size w w':=by
 go_enter func74,ntmps74
 go_wp2
 go_region_held3 (fun w'=>w'.cell? ⟨m,1,none⟩=some (I O st)/\w'.cell? ⟨m,3,none⟩=some (I O an)) (first|go_keep)
  (first|(go_at_call 107;refine(Up _ _ _).mono ?_;rintro e w1 ⟨rfl,rfl⟩))
 go_wp2_with fail
 refine(NS _ _ _ _).mono ?_
 rintro e w1 ⟨rfl,rfl⟩
 go_wp2
 go_ret
 exact⟨rfl,(Q2 _ w).drew⟩
theorem Qc9 m st dy an la p w (y:w.cell? ⟨m,1,none⟩=some (I O st)) (J:w.cell? ⟨m,2,none⟩=some (I O dy)) (C:w.cell? ⟨m,3,none⟩=some (I O an)) (D:w.cell? ⟨m,4,none⟩=some (I O la)):
  Calls prog 61 #[IP (some ⟨m,0,none⟩),I O p] w fun e w'=>e= .returned (.bool (ZK st dy an la p))/\Below w.heap.size w w':=by
 unfold ZK Qr
 by_cases i:US st an p=true
 ·have E:=Q0 (show(decide (ZV la dy<=p) &&decide (p<=ZU la dy))=(US st an p && (decide (ZV la dy<=p) &&decide (p<=ZU la dy))) by rw[i];rfl)
  have u:=Q0 i;clear i;go_enter func61,ntmps61
  go_wp2
  go_region_held3 (fun w'=>w'.cell? ⟨m,2,none⟩=some (I O dy)/\w'.cell? ⟨m,4,none⟩=some (I O la)) (first|go_keep)
   (first|(go_at_call 107;refine(Up _ _ _).mono ?_;rintro e w1 ⟨rfl,rfl⟩))
  go_wp2_with fail
  refine(Uq m st an p w.drew y C).mono ?_;rintro e w1 ⟨rfl,v⟩;rw[u.out];go_wp2_with fail
  refine(NS _ _ _ _).mono ?_;rintro e w1 ⟨rfl,rfl⟩;go_wp2;go_ret;exact⟨T2 E,(Q2 _ w).drew.trans v⟩
 have j:US st an p=false:=by simpa using i
 have E:=Q0 (show false=(US st an p && (decide (ZV la dy<=p) &&decide (p<=ZU la dy))) by rw[j];rfl)
 have u:=Q0 j
 clear i j
 go_enter func61,ntmps61
 go_wp2
 go_region_held3 (fun w'=>w'.cell? ⟨m,2,none⟩=some (I O dy)/\w'.cell? ⟨m,4,none⟩=some (I O la)) (first|go_keep)
  (first|(go_at_call 107;refine(Up _ _ _).mono ?_;rintro e w1 ⟨rfl,rfl⟩))
 go_wp2_with fail
 refine(Uq m st an p w.drew y C).mono ?_
 rintro e w1 ⟨rfl,v⟩
 rw[u.out]
 go_wp2
 go_ret
 exact⟨T2 E,(Q2 _ w).drew.trans v⟩
theorem Qs5 w b a F M n r f H reg (hM:Z9 w b a F M n r f H reg) (hS:U3 M n f H) x (hx:x∈(H 1).all) (hk:x.2.kind=2) (hn:n<=100):
  Calls prog 89 #[IP (some ⟨b,0,none⟩),I O x.2.id] w fun e w'=>e= .returned (.tuple #[X5 x.2,U0 0])/\LS w w' b a r F n H 1 x.2.id:=by
 have hf:=hS.hf x (XL Y4 hx)
 have a8:=hS.side_of Y4 hx
 have c3:=hS.hM x (XL Y4 hx)
 obtain⟨⟨h1,h2⟩,o⟩:=x
 dsimp only at hf a8 c3 hk|-
 have d6:(o.kind ==2)=true:=by simpa using hk
 have e9:Below w.heap.size w (w.alloc (.cells #[I O 0,I O 0,I O 0,I O 0,I O 0] 29)):=(Q2 _ w).alloc (Q4 _) _
 have a9:=hM.below e9
 have c9:=GQ a9.mp hf
 dsimp only at c9
 rw[a8,d6]at c9
 obtain⟨y0,y1,y2,y3,y4,y5⟩:=a9.cells
 have HM:=Q0 hM
 have e5:=Q0 hS
 have HX:=Q0 hx
 have h5:=Q0 hk
 have i2:=Q0 a8
 have h6:=Q0 c3
 have HN:=Q0 hn
 have h7:=Q0 a9
 clear y0 y2 y3 y4 y5 hM hS hx hk a8 c3 hn a9 hf d6 e9
 go_enter func89,ntmps89
 go_upto_region 4 with fail
 clear c9 y1
 obtain⟨c2,a1,b2,b5⟩:=Jp (h1:=h1) (h2:=h2) (sd:=1) (pr:=o.price) (mk:=true) HM
 have a0:=Q0 (show¬V0 b r F H w.heap.size from fun h=>by have:=HM.fp h;omega)
 have a4:=Q0 (show¬V0 b r F H (w.heap.size+1)from fun h=>by have:=HM.fp h;omega)
 obtain⟨pb,d8⟩:=exr (w.heap.size+1)
 obtain⟨rb,f7⟩:=exr w.heap.size
 have h8:rb≠pb:=by omega
 have g3:=Q0 (show w.heap.size<=rb/\w.heap.size<=pb by omega)
 rw[<-d8]at b5 a4|-
 rw[<-f7]at b2 a0|-
 generalize(w.alloc (.cells #[I O 0,I O 0,I O 0,I O 0,I O 0] 29)).alloc (.cells #[I O h1,I O h2,I O 1,I O o.price,.bool true] 188)=w1 at c2 a1 b2 b5|-
 obtain⟨w2,d0,d5,b9⟩:=Kh w1 r f a1.mp o.id
 obtain⟨e1,e6⟩:=a1.map_ b9 d5
 have f5:=Q0 ((C1 (G:=V0 b r F H) c2).trans e6)
 have c7:Q1 w2 pb 188 #[I O h1,I O h2,I O 1,I O o.price,.bool true]:=YT b5 (b9.block pb (fun e=>a4 (.inr (.inl e))))
 have d1:Q1 w2 rb 29 #[I O 0,I O 0,I O 0,I O 0,I O 0]:=YT b2 (b9.block rb (fun e=>a0 (.inr (.inl e))))
 have y1:=a1.cells.2.1
 have f9:=Q0 e1
 have f6:=Q0 c7
 have d4:=Q0 d1
 obtain⟨p0,N,J,Z,U⟩:=T7 c7
 clear a1 b2 b5 b9 d5 e1 e6 c7 d1 c2 d8 f7
 go_wp2_with (simp only[d0])
 clear d0 y1
 go_quiet (fail)
 have hq:Below w2.heap.size w2 (w2.drewN nq):=U7 (Q2 _ _) nq
 have u:=Q0 (f9.below hq)
 have b1:=Q0 (P9 f6 nq)
 have c4:=Q0 (P9 d4 nq)
 have c6:=Q0 (f5.trans (C1 hq))
 clear hq p0 N J Z U
 generalize w2.drewN nq=w3 at u b1 c4 c6|-
 clear f9 f6 d4 f5
 obtain⟨p0,N,J,Z,U⟩:=T7 b1
 obtain⟨y0,y1,y2,y3,y4,y5⟩:=u.cells
 have i0: ∀fn first cap w,(Instr.makeFunc fn first cap).run prog w= .ok (.func fn first cap) w:=fun _ _ _ _=>rfl
 have eg:=XH func122 (by kernel_rfl) rfl
 obtain⟨m,hm⟩:=exq ((H 1).ms.length)
 rw[hm]at y2
 have d7:Q7 (H 1).mA≠some b:=fun e=>by have h3:=(u.hx 1 Y4).gm b e;have h4:=u.gb;omega
 have e2:=Kb w3 (H 1).mA m (H 1).mc (A6 (H 1).ms) pb (h1,h2) (by rw[<-hm];exact(u.hx 1 Y4).rm) (by have:=Nu Y4 e5 HN;omega) (fun e=>a4 (VS 1 Y4 (.inl e))) p0 N
 have HD:=Q0 e2
 have g2:=Q0 d7
 have Hm:=Q0 hm
 clear y0 y1 y2 y3 y4 y5 e2 d7 hm
 have y2:w3.cell? ⟨b,2,none⟩=some (.slice (H 1).mA m (H 1).mc):=by rw[J0 u.blk];exact E7 (fun k=>some (Value.slice (H 1).mA k (H 1).mc)) Hm
 go_wp2_with fail
 refine HD.mono ?_
 rintro e w4 ⟨a6,rfl,a7⟩
 have b4:=X0 u.blk a6 g2
 have r0:w4.cell? ⟨b,2,none⟩=some (.slice (H 1).mA m (H 1).mc):=by rw[J0 b4];exact E7 (fun k=>some (Value.slice (H 1).mA k (H 1).mc)) Hm
 have h9:=J1 b4 2
 rw[Qz]at a7|-
 rw[<-Xg]at a7
 obtain⟨c5,y,C⟩:=u.market Y4 (A':=(H 1).mA) (c':=(H 1).mc) (ms':=(H 1).ms.filter (B3 (h1,h2))) a6 a7 (fun g hg=> .inl hg)
 have a3: ∀g,¬V0 b r F H g->Q7 (H 1).mA≠some g/\g≠b:=fun g hg=>⟨fun e=>hg (VS 1 Y4 (.inl e)),fun e=>hg (.inl e)⟩
 have d3:=Q0 (XP (X0 b1 a6 (a3 _ a4).1) (p:=⟨b,2,none⟩) (a3 _ a4).2 (.slice (H 1).mA ((H 1).ms.filter (B3 (h1,h2))).length (H 1).mc))
 have a5:=Q0 (XP (X0 c4 a6 (a3 _ a0).1) (p:=⟨b,2,none⟩) (a3 _ a0).2 (.slice (H 1).mA ((H 1).ms.filter (B3 (h1,h2))).length (H 1).mc))
 obtain⟨D,E⟩:=Dk e5 Y4 HX h5 (H 1).mA (H 1).mc
 have a2:=Q0 (show SQ w (w4.setCell ⟨b,2,none⟩ (.slice (H 1).mA ((H 1).ms.filter (B3 (h1,h2))).length (H 1).mc)) b a r F M n (D0 f o.id none) H 1 o.id h1 h2 pb rb #[I O h1,I O h2,I O 1,I O o.price,.bool true]from
  ⟨_,c5,y,c6.trans C,D,E,fun s' h=>XK h,d3,a5,Ks Y4 (fun i hi=>hi) a0⟩)
 clear y C D E a6 a7 b4 a3 p0 N J Z U y2 d3 a5 u b1 c4 c6
 obtain⟨nl,e7⟩:=exq (((H 1).ms.filter (B3 (h1,h2))).length)
 rw[e7]at a2|-
 clear e7
 obtain⟨H5,c5,y,C,D,E,c1,b0,b8,c0⟩:=a2.out
 have q0:=y.cells.1
 obtain⟨p0,N,J,Z,U⟩:=T7 b0
 clear y C D E c1 b0 b8 c0
 go_upto_region 13 with fail
 generalize(w4.setCell ⟨b,2,none⟩ (.slice (H 1).mA nl (H 1).mc))=w5 at a2 q0 p0 N J Z U|-
 obtain⟨H5,c5,y,C,D,E,c1,b0,b8,c0⟩:=a2.out
 have e4:=Kd (M:=M) y (J3 (Q2 w5.heap.size w5)) h6
 have HG:=Q0 e4
 have g7:=Q0 (C.trans (C1 (J3 (Q2 w5.heap.size w5))))
 have a5:=Q0 b8
 have d2:=Q0 c0
 have g1:=Q0 D
 have g8:=Q0 E
 have g9:=Q0 c1
 clear e4 J Z U y C D E c1 b0 b8 c0 a2
 go_cut [5,104] (fun s5 i1 wx=>s5= .nilIface/\Kt w wx b a r rb F M n (D0 f o.id none) H 1 o.id h1 h2 (J8 o))
 case first=>as_aux_lemma=>
  go_region_with (go_at_call 127;refine HG.mono ?_;rintro e w6 ⟨rfl,F6,reg6,e8,c8⟩;have j:Q1 w6 rb 29 #[I O 0,I O 0,I O 0,I O 0,I O 0]:=X0 (Z2 a5) c8.1 d2;have z0:=(T7 j).1;have z1:=(T7 j).2.1;have z2:=(T7 j).2.2.1;have z3:=(T7 j).2.2.2.1;have z4:=(T7 j).2.2.2.2;have f0:=J1 j 0;have f1:=J1 j 1;have f2:=J1 j 2;have f3:=J1 j 3;have f4:=J1 j 4;have g6:=Q0 e8;have f8:=Q0 c8;have h0:=Q0 j;clear e8 j c8)
  all_goals go_wp2_with fail
  all_goals go_meet
  all_goals
   have g5: ¬V0 b r F6 H5 rb:=fun h=>(f8.2 rb h).elim d2 (fun h3=>by have h4:=J5 (Z2 a5);omega)
   exact⟨rfl,Xn g6 (g7.trans f8) g5 g3.1 g1 g8 g9,J7 (J7 (J7 (J7 (J7 h0 0 _) 1 _) 2 _) 3 _) 4 _⟩
 obtain⟨rfl,d9,e3⟩:=hcut
 have g0:=Q0 d9
 have g4:=Q0 e3
 clear d9 e3
 go_wp2_with fail
 refine WX (g:=rb) (cs:=J8 o) (v:=U0 0) (by with_unfolding_all rfl) (by with_unfolding_all rfl) (by with_unfolding_all rfl) g4 rfl ?_
 exact⟨rfl,g0⟩
theorem Qs6 w b a F M n r f H reg (hM:Z9 w b a F M n r f H reg) (hS:U3 M n f H) x (hx:x∈(H 1).all) (hk:x.2.kind≠2) (hn:n<=100) k (c1:k< (H 1).qs.length) (j4:x∈(H 1).qs[k].os) (h7:(H 1).qs[k].price=x.2.price):
  Calls prog 89 #[IP (some ⟨b,0,none⟩),I O x.2.id] w fun e w'=>e= .returned (.tuple #[X5 x.2,U0 0])/\LS w w' b a r F n H 1 x.2.id:=by
 have hf:=hS.hf x (XL Y4 hx)
 have b2:=hS.side_of Y4 hx
 have d8:=hS.hM x (XL Y4 hx)
 obtain⟨⟨h1,h2⟩,o⟩:=x
 dsimp only at hf b2 d8 hk|-
 have g6:(o.kind ==2)=false:=by simpa using hk
 have j2:Below w.heap.size w (w.alloc (.cells #[I O 0,I O 0,I O 0,I O 0,I O 0] 29)):=(Q2 _ w).alloc (Q4 _) _
 have b5:=hM.below j2
 have e9:=GQ b5.mp hf
 dsimp only at e9
 rw[b2,g6]at e9
 obtain⟨y0,y1,y2,C,y4,y5⟩:=b5.cells
 have HM:=Q0 hM
 have N:=Q0 hS
 have HX:=Q0 hx
 have o4:=Q0 hk
 have o6:=Q0 b2
 have n0:=Q0 d8
 have HN:=Q0 hn
 have n4:=Q0 b5
 clear y0 y2 C y4 y5 hM hS hx hk b2 d8 hn b5 hf g6 j2
 go_enter func89,ntmps89
 go_upto_region 4 with fail
 clear e9 y1
 obtain⟨d5,a8,c0,c4⟩:=Jp (h1:=h1) (h2:=h2) (sd:=1) (pr:=o.price) (mk:=false) HM
 have a5:=Q0 (show¬V0 b r F H w.heap.size from fun h=>by have:=HM.fp h;omega)
 have b1:=Q0 (show¬V0 b r F H (w.heap.size+1)from fun h=>by have:=HM.fp h;omega)
 obtain⟨pb,g9⟩:=exr (w.heap.size+1)
 obtain⟨rb,j6⟩:=exr w.heap.size
 have n5:rb≠pb:=by omega
 have l0:=Q0 (show w.heap.size<=rb/\w.heap.size<=pb by omega)
 rw[<-g9]at c4 b1|-
 rw[<-j6]at c0 a5|-
 generalize(w.alloc (.cells #[I O 0,I O 0,I O 0,I O 0,I O 0] 29)).alloc (.cells #[I O h1,I O h2,I O 1,I O o.price,.bool false] 188)=w1 at d5 a8 c0 c4|-
 obtain⟨w2,a3,g5,c6⟩:=Kh w1 r f a8.mp o.id
 obtain⟨h8,i4⟩:=a8.map_ c6 g5
 have j3:=Q0 ((C1 (G:=V0 b r F H) d5).trans i4)
 have e4:Q1 w2 pb 188 #[I O h1,I O h2,I O 1,I O o.price,.bool false]:=YT c4 (c6.block pb (fun e=>b1 (.inr (.inl e))))
 have f9:Q1 w2 rb 29 #[I O 0,I O 0,I O 0,I O 0,I O 0]:=YT c0 (c6.block rb (fun e=>a5 (.inr (.inl e))))
 have y1:=a8.cells.2.1
 have k3:=Q0 h8
 have j5:=Q0 e4
 have g4:=Q0 f9
 obtain⟨p0,p1,J,Z,U⟩:=T7 e4
 clear a8 c0 c4 c6 g5 h8 i4 e4 f9 d5 g9 j6
 go_wp2_with (simp only[a3])
 clear a3 y1
 go_quiet (fail)
 have hq:Below w2.heap.size w2 (w2.drewN nq):=U7 (Q2 _ _) nq
 have a0:=Q0 (k3.below hq)
 have b9:=Q0 (P9 j5 nq)
 have e1:=Q0 (P9 g4 nq)
 have e3:=Q0 (j3.trans (C1 hq))
 clear hq p0 p1 J Z U
 generalize w2.drewN nq=w3 at a0 b9 e1 e3|-
 clear k3 j5 g4 j3
 obtain⟨p0,p1,J,Z,U⟩:=T7 b9
 obtain⟨y0,y1,y2,C,y4,y5⟩:=a0.cells
 have n8: ∀fn first cap w,(Instr.makeFunc fn first cap).run prog w= .ok (.func fn first cap) w:=fun _ _ _ _=>rfl
 have eg:=XH func122 (by kernel_rfl) rfl
 have y:=a0.hx 1 Y4
 obtain⟨qg,h5,f6⟩:=y.rq.elem JP (by omega) (i:=k) (by simpa using c1)
 obtain⟨q,a1⟩:=exq ((H 1).qs[k]'c1)
 have a7:q∈(H 1).qs:=by rw[<-a1];exact Y1 _
 have q0:w3.cell? ⟨qg,k*2,none⟩=some (I O q.price):=by have:=f6 0 _ rfl;rw[<-a1];simpa [QG.que]using this
 have q1:w3.cell? ⟨qg,k*2+1,none⟩=some (.slice q.A q.os.length q.c):=by have:=f6 1 _ rfl;rw[<-a1];simpa [QG.que]using this
 have d3:Q7 (H 1).qA=some qg:=by rw[h5];rfl
 have d6:=y.rq.lt d3
 have i6:Q7 q.A≠some qg:=fun e=>by have h3:=y.gl _ a7 qg e;have h4:=y.gq qg d3;omega
 have g8:Q7 q.A≠some b:=fun e=>by have h3:=y.gl _ a7 b e;have h4:=a0.gb;omega
 have j7:Q7 q.A≠some pb:=fun e=>b1 (VS 1 Y4 (.inr (.inr ⟨q,a7,e⟩)))
 have g7:=Ki Y4 N HN
 have m8:q.os.length<=1000:=by rw[<-a1];exact Pv Y4 N HN c1
 have i8:=Xy w3 b 2 1 o.price (H 1).qA (H 1).qs.length (H 1).qc ((H 1).qs.map QG.que) (by exact C) (VV JP (by omega) y.rq) (N.is 1 Y4).rank g7
 have j8:=Q0 i8
 have a2:=Q0 h5
 have a6:=Q0 a1
 have a4:=Q0 c1
 have f8:=Q0 j4
 have n2:=Q0 h7
 have i5:=Q0 (y.rl q a7)
 have j1:=Q0 y.rq
 have k2:=Q0 i6
 have l6:=Q0 g8
 have k8:=Q0 j7
 have j0:=Q0 (show b≠qg from fun e=>by have h3:=a0.gb;have h4:=y.gq qg d3;rw[e]at h3;omega)
 clear i8 y f6 a7 i6 g8 j7 d3 a1 j4 h7
 go_wp2_with fail
 refine j8.mono ?_
 rintro e w4 ⟨D,j,k1,rfl⟩
 obtain rfl:j=k:=Mm (N.is 1 Y4) a4 n2 k1
 obtain⟨fb,n3⟩: ∃fb,Hid (DN 1 o.price ((H 1).qs.map QG.que) (H 1).qs.length j=fb):=⟨_,Q0 rfl⟩
 rw[n3.out]
 have e2:=Q0 (a0.below D)
 have d2:=Q0 (J4 b9 D)
 have n1:=Q0 (J4 e1 D)
 have m7:=Q0 (e3.trans (C1 D))
 obtain⟨d9,m6⟩:=Rn D
 have m9:w4.cell? ⟨qg,j*2,none⟩=some (I O q.price):=(d9 _ _ d6).trans q0
 have f5:w4.cell? ⟨qg,j*2+1,none⟩=some (.slice q.A q.os.length q.c):=(d9 _ _ d6).trans q1
 have d4:=i5.below D
 have j9:=j1.below D
 have i9:qg<w4.heap.size:=by have:=D.size;omega
 clear k1 q0 q1 p0 p1 J Z U y0 y1 y2 C y4 y5 d6 d9 m6 D j8 a0 b9 e1 e3 i5 j1
 obtain⟨l,e5⟩:=exq ((H 1).qs.length)
 obtain⟨m,hm⟩:=exq q.os.length
 rw[hm]at f5 d4
 have C:w4.cell? ⟨b,3,none⟩=some (.slice (some ⟨qg,0,none⟩) l (H 1).qc):=by rw[J0 e2.blk];rw[<-a2.out,<-e5];rfl
 obtain⟨p0,p1,J,Z,U⟩:=T7 d2
 have n6:(j:Int)< (l:Int):=by omega
 have n7:(0:Int)<=(j:Int):=by omega
 have i0: ∀W,Below w4.heap.size w4 W->Calls prog 122 #[.slice q.A m q.c,IP (some ⟨pb,0,none⟩)] W _:=fun W hW=>Kb W q.A m q.c (A6 q.os) pb (h1,h2) (d4.below hW) (by omega) k8 ((J0 (J4 d2 hW) 0).trans rfl) ((J0 (J4 d2 hW) 1).trans rfl)
 have HD:=Q0 (i0 w4.drew (J3 (Q2 _ _)))
 have l3:=Q0 j9
 have HL:=Q0 e5
 have Hm:=Q0 hm
 have m5:=J5 e2.blk
 clear i0 d4 j9 e5 hm m8 g7
 go_upto_region 10 with fail
 go_cut [72] (fun o2 wx=>Kr w4 wx qg j q.A q.c q.os (h1,h2))
 case first=>
  go_region_with (go_at_call 122;refine HD.mono ?_;rintro e w5 ⟨b0,rfl,g2⟩;have z1:w5.cell? ⟨b,3,none⟩=some (.slice (some ⟨qg,0,none⟩) l (H 1).qc):=(b0.cell (p:=⟨b,3,none⟩) m5 l6).trans C;have z2:w5.cell? ⟨qg,j*2+1,none⟩=some (.slice q.A m q.c):=(b0.cell (p:=⟨qg,j*2+1,none⟩) i9 k2).trans f5;have z3:=(b0.frozen (p:=⟨qg,j*2+1,none⟩) i9 k2).trans (J2.frozen (by rw[<-a2.out];exact l3) (j*2+1):w4.frozen? ⟨qg,j*2+1,none⟩=false);have k9:=Q0 b0;have c8:=Q0 g2;clear b0 g2)
  all_goals go_wp2_with fail
  all_goals go_meet
  all_goals exact Ha k9 c8
 have hX:=Fa e2 m7 Y4 a4 a6 a2 hcut d2 n1 b1 a5
 have g3:=Q0 hX
 obtain⟨reg6,E,_,_,_⟩:=hX
 have u:=Nv Y4 a2 E
 have e7:=Q0 u
 clear p0 p1 J Z U m9 f5 C HD hcut
 have g0:=J5 E.blk
 have C:wc.cell? ⟨b,3,none⟩=some (.slice (some ⟨qg,0,none⟩) l (H 1).qc):=by
  rw[J0 E.blk];have e:VF H 1 j q (h1,h2) 1=⟨(H 1).mA,(H 1).mc,(H 1).qA,(H 1).qc,(H 1).ms,(H 1).qs.set j ⟨q.price,q.A,q.c,q.os.filter (B3 (h1,h2))⟩⟩:=by unfold VF;rw[QV]
  show some (Value.slice (VF H 1 j q (h1,h2) 1).qA (VF H 1 j q (h1,h2) 1).qs.length (VF H 1 j q (h1,h2) 1).qc)=_;rw[e];dsimp only;rw[a2.out,QN,HL.out]
 have i3:=J1 E.blk 3
 obtain⟨nl,e6⟩:=exq ((q.os.filter (B3 (h1,h2))).length)
 have q1:wc.cell? ⟨qg,j*2+1,none⟩=some (.slice q.A nl q.c):=by
  obtain⟨g,hg,hc⟩:=u.elem JP (by omega) (i:=j) (by have:=a4.out;simpa using this)
  cases hg;have:=hc 1 _ rfl;rw[<-e6];simpa [QG.que]using this
 have i7:=Q0 e6
 have l9:l<=100000:=by have h3:=Ki Y4 N HN;have h4:=HL.out;omega
 have o5:j<l:=by omega
 clear u E e6
 go_upto_if 84 with fail
 go_cut [85] (fun o1 wx=>SQ w wx b a r F M n (D0 f o.id none) H 1 o.id h1 h2 pb rb #[I O h1,I O h2,I O 1,I O o.price,.bool false])
 case first=>as_aux_lemma=>
  by_cases hz:nl=0
  ·have Hz:=Q0 hz
   have t1:((nl:Int) ==0)=true:=Z0 (by omega);have a3:=Da wc qg l (H 1).qc j (j+1) ((j:Int)+1) (by omega) _ (by rw[<-HL.out];exact e7) l9 (by omega) (by omega);have l5:=Q0 a3;have n9:IntKind.i64.wrap ((j:Int)+1)=(j:Int)+1:=by rw[AW];omega
   clear a3 hz;go_wp2_with fail
   refine l5.mono ?_;rintro e w7 ⟨rfl,h0,c3⟩;have y7:w7.cell? ⟨b,3,none⟩=some (.slice (some ⟨qg,0,none⟩) l (H 1).qc):=(c3.cell (p:=⟨b,3,none⟩) g0 j0).trans C;have f7:=(c3.frozen (p:=⟨b,3,none⟩) g0 j0).trans i3;have k6:=Q0 h0;have m0:=Q0 c3;clear h0 c3;go_wp2_with fail
   go_meet;have h9:=Dm N Y4 a4 a6 a2 (by rw[<-a6.out];exact f8) HX (i7.trans Hz) rfl g3 b1 a5 (by rw[HL.out];exact k6) m0;rw[HL.out]at h9;exact h9
  have Hz:=Q0 hz;have t1:((nl:Int) ==0)=false:=X3 (by omega);clear hz;go_wp2_with fail
  go_meet;exact Dl N Y4 a4 a6 (by rw[<-a6.out];exact f8) HX (fun e=>Hz (i7.symm.trans e)) rfl g3 a5
 have d7:=Q0 hcut
 clear q1 C i3 hcut
 obtain⟨H5,l7,a9,c2,c9,d0,d1,b8,c5,c7⟩:=d7.out
 have q0:=a9.cells.1
 obtain⟨p0,p1,J,Z,U⟩:=T7 b8
 clear a9 c2 c9 d0 d1 b8 c5 c7
 go_upto_region 13 with fail
 obtain⟨H5,l7,a9,c2,c9,d0,d1,b8,c5,c7⟩:=d7.out
 have i2:=Kd (M:=M) a9 (J3 (Q2 wc.heap.size wc)) n0
 have HG:=Q0 i2
 have l8:=Q0 (c2.trans (C1 (J3 (Q2 wc.heap.size wc))))
 have c8:=Q0 c5
 have g1:=Q0 c7
 have k7:=Q0 c9
 have m3:=Q0 d0
 have m4:=Q0 d1
 clear i2 J Z U a9 c2 c9 d0 d1 b8 c5 c7 d7
 go_cut [5,104] (fun s5 o3 wx=>s5= .nilIface/\Kt w wx b a r rb F M n (D0 f o.id none) H 1 o.id h1 h2 (J8 o))
 case first=>as_aux_lemma=>
  go_region_with (go_at_call 127;refine HG.mono ?_;rintro e w6 ⟨rfl,F6,reg6,E,e8⟩;have u:Q1 w6 rb 29 #[I O 0,I O 0,I O 0,I O 0,I O 0]:=X0 (Z2 c8) e8.1 g1;have z0:=(T7 u).1;have z1:=(T7 u).2.1;have z2:=(T7 u).2.2.1;have z3:=(T7 u).2.2.2.1;have z4:=(T7 u).2.2.2.2;have f0:=J1 u 0;have f1:=J1 u 1;have f2:=J1 u 2;have f3:=J1 u 3;have f4:=J1 u 4;have l4:=Q0 E;have k0:=Q0 e8;have e7:=Q0 u;clear E u e8)
  all_goals go_wp2_with fail
  all_goals go_meet
  all_goals
   have l2: ¬V0 b r F6 H5 rb:=fun h=>(k0.2 rb h).elim g1 (fun h3=>by have h4:=J5 (Z2 c8);omega)
   exact⟨rfl,Xn l4 (l8.trans k0) l2 l0.1 k7 m3 m4,J7 (J7 (J7 (J7 (J7 e7 0 _) 1 _) 2 _) 3 _) 4 _⟩
 obtain⟨rfl,h6,i1⟩:=hcut
 have k5:=Q0 h6
 have l1:=Q0 i1
 clear h6 i1
 go_wp2_with fail
 refine WX (g:=rb) (cs:=J8 o) (v:=U0 0) (by with_unfolding_all rfl) (by with_unfolding_all rfl) (by with_unfolding_all rfl) l1 rfl ?_
 exact⟨rfl,k5⟩
