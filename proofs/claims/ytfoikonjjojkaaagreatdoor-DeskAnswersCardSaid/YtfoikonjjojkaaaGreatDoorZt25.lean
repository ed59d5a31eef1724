/- Parts. -/
import Derived.Test.YtfoikonjjojkaaaGreatDoorZt24
set_option linter.unusedVariables false
set_option maxRecDepth 100000
set_option maxHeartbeats 8000000
open Go.Proofs.Tryz
open Go.Value renaming int→I,pointer→IP
open Go.IntKind renaming i64→O
namespace Go.Proofs.YtfoikonjjojkaaaGreatDoor
open Go Go.RowKit
theorem Yu{w A a}(h:QB w A ([a].map YL)):∃g o,A=some (aD g o)/\w.cell? (aD g o)=some (I O a):=by obtain⟨g,o,h1,h2⟩:=h 0 _ rfl;exact⟨g,o,h1,h2⟩
theorem Fv{w A a b}(h:QB w A ([a,b].map YL)):∃g o,A=some (aD g o)/\w.cell? (aD g o)=some (I O a)/\w.cell? (aD g (o+1))=some (I O b):=by
 obtain⟨g,o,h1,h2⟩:=h 0 _ rfl;obtain⟨u,o',i,j⟩:=h 1 _ rfl
 cases h1.symm.trans i;exact⟨g,o,h1,h2,j⟩
theorem Xo8{w A a b c}(h:QB w A ([a,b,c].map YL)):∃g o,A=some (aD g o)/\w.cell? (aD g o)=some (I O a)/\w.cell? (aD g (o+1))=some (I O b)/\w.cell? (aD g (o+2))=some (I O c):=by
 obtain⟨g,o,h1,h2⟩:=h 0 _ rfl;obtain⟨i,o',j,u⟩:=h 1 _ rfl
 cases h1.symm.trans j;obtain⟨i,o',y,C⟩:=h 2 _ rfl
 cases h1.symm.trans y;exact⟨g,o,h1,h2,u,C⟩
theorem Qi4{w A a b c d}(h:QB w A ([a,b,c,d].map YL)):∃g o,A=some (aD g o)/\w.cell? (aD g o)=some (I O a)/\w.cell? (aD g (o+1))=some (I O b)/\w.cell? (aD g (o+2))=some (I O c)/\w.cell? (aD g (o+3))=some (I O d):=by
 obtain⟨g,o,h1,h2⟩:=h 0 _ rfl;obtain⟨i,o',j,u⟩:=h 1 _ rfl
 cases h1.symm.trans j;obtain⟨i,o',y,C⟩:=h 2 _ rfl
 cases h1.symm.trans y;obtain⟨i,o',D,E⟩:=h 3 _ rfl
 cases h1.symm.trans D;exact⟨g,o,h1,h2,u,C,E⟩
theorem Qk1{l:List Int}(h:(l.length:Int)=1):∃a,l=[a]:=by
 match l,h with
 | [a],_=>exact⟨a,rfl⟩
 | [],h=>simp at h
 |_::_::_,h=>simp at h;omega
theorem Ge{l:List Int}(h:(l.length:Int)=2):∃a b,l=[a,b]:=by
 match l,h with
 | [a,b],_=>exact⟨a,b,rfl⟩
 | [],h=>simp at h
 | [_],h=>simp at h
 |_::_::_::_,h=>simp at h;omega
theorem Qk2{l:List Int}(h:(l.length:Int)=3):∃a b c,l=[a,b,c]:=by
 match l,h with
 | [a,b,c],_=>exact⟨a,b,c,rfl⟩
 | [],h=>simp at h
 | [_],h=>simp at h
 | [_,_],h=>simp at h
 |_::_::_::_::_,h=>simp at h;omega
theorem Xr5{l:List Int}(h:(l.length:Int)=4):∃a b c d,l=[a,b,c,d]:=by
 match l,h with
 | [a,b,c,d],_=>exact⟨a,b,c,d,rfl⟩
 | [],h=>simp at h
 | [_],h=>simp at h
 | [_,_],h=>simp at h
 | [_,_,_],h=>simp at h
 |_::_::_::_::_::_,h=>simp at h;omega
theorem Qz4 m i:V3 (ZP m i):=by
 unfold ZP
 split
 ·exact D1 Q0
 split
 ·exact D1 Q0
 split<;>exact D1 Q0
theorem Ji7 m o:V3 (P3 m o):=by
 unfold P3
 split
 ·exact D1 Q0
 split
 ·exact D1 Q0
 split
 ·exact D1 Q0
 split
 ·exact D1 Q0
 split<;>exact D1 Q0
theorem Tr p s:V3 (KM p s):=by unfold KM;split<;>exact D1 Q0
theorem Qd0 p s:V3 (XV p s)/\V3 (XU p s):=by
 unfold XV XU
 split
 ·rename_i h
  obtain⟨h1,h2,i,j⟩:=Qc.1 h;have u:0<=p*s:=Int.mul_nonneg Q0 Q0;unfold Zm Ze;exact⟨AF Q0,AF Q0⟩
 exact⟨D1 Q0,D1 Q0⟩
theorem Qz5{w d k n0 G s A ws}(h:M3 w d G k s A n0 ws)c:Calls prog 51 #[pA d,.slice A n0 c] w (VK w d G k (CF s ws)):=by
 have H:=J6 h;clear h
 cases D:D6 ws 1 with
 |none=>
  have J:=J6 (show CF s ws=(s,.bad 3) by unfold CF V8;rw[D]);go_enter func51,ntmps51
  go_wp2_with (go_at_call 94;refine(H.numbers_bad c D).mono ?_;rintro e w1⟨rfl,j⟩)
  exact⟨rfl,D2 J rfl (D1 Q0) (H.desk.to j)⟩
 |some l=>
  have HF:=J6 (VV D)
  cases C:s.e with
  |none=>
   have J:=J6 (show CF s ws=(s,.bad 6) by unfold CF V8 D3;rw[D];simp only[C]);go_enter func51,ntmps51
   go_wp2_with (first
    |(go_at_call 94;refine(H.numbers_ok c D).mono ?_;rintro e w1⟨A1,c1,rfl,j,hC,a2⟩)
    |(go_at_call 95;refine(H.ready_not C j).mono ?_;rintro e w2⟨rfl,y⟩))
   exact⟨rfl,D2 J rfl (D1 Q0) (H.desk.to (j.trans (y.mono j.size)))⟩
  |some m=>
   obtain⟨i,rfl⟩:=Qk1 (HF.2.1 Q0);have HO:=J6 (H.mok C)
   by_cases hz:ZP m i=0
   ·have J:=J6 (show CF s ws=({s with e:=some (N3 m i)},.ok [99,97,110,99,101,108]) by unfold CF V8 D3;rw[D];simp only[C];exact C5 _ (RS hz _))
    have HZ:=J6 hz;clear hz;go_enter func51,ntmps51
    go_wp2_with (first
     |(go_at_call 94;refine(H.numbers_ok c D).mono ?_;rintro e w1⟨A1,c1,rfl,j,hC,a2⟩;obtain⟨g1,o1,a5,Z⟩:=Yu hC;subst a5;clear hC a2)
     |(go_at_call 95;refine(H.ready_yes C j).mono ?_;rintro e w2⟨rfl,y⟩;have HB:=J6 (j.trans (y.mono j.size));have y0:=(y.cell (p:=⟨g1,o1,none⟩) (U5 w1 _ Z)).trans Z;clear Z;obtain⟨e,F,c6,hE,a0,a1⟩:=H.engine C HB;have HE:=J6 hE;have HX:=J6 a1;have a8:=J6 a0;clear hE a1 a0;clear j y))
    go_still_tail 7,Q4
    change wpList _ _ _ _ _ w2.drew;generalize E:w2.drew=N;obtain⟨a7,a4,a3⟩:=Xt7 (show Bz w N by rw[<-E];exact Y5 HB 1) (fun w3 m' u hM=>HX w3 m' (RL (w1:=N) (by rw[<-E];exact Y5 (J9 _ w2) 1) u) hM) (show D8 N e F m from HE.below (by rw[<-E];exact Y5 (J9 _ w2) 1));clear E;go_wp2_with (first
     |(go_at_call 99;refine(Mu a3 (by have:=HO.ok.cnt;omega) i).mono ?_;rintro ev w3⟨rfl,u⟩;have HN:=J6 (a4 _ _ u (HO.cancel i (A5.lists u)));clear u)
     |(go_at_call 23;refine(Qr _ HZ _).mono ?_;rintro e w4⟨rfl,a6⟩))
    go_ret;exact D2 J rfl (by show _<=10000000000;decide) (HN.2.2.2 _ a6)
   have J:=J6 (show CF s ws=({s with e:=some (N3 m i)},.bad (ZP m i)) by unfold CF V8 D3;rw[D];simp only[C];exact C5 _ (LK hz _));have HZ:=J6 hz;clear hz;go_enter func51,ntmps51
   go_wp2_with (first
    |(go_at_call 94;refine(H.numbers_ok c D).mono ?_;rintro e w1⟨A1,c1,rfl,j,hC,a2⟩;obtain⟨g1,o1,a5,Z⟩:=Yu hC;subst a5;clear hC a2)
    |(go_at_call 95;refine(H.ready_yes C j).mono ?_;rintro e w2⟨rfl,y⟩;have HB:=J6 (j.trans (y.mono j.size));have y0:=(y.cell (p:=⟨g1,o1,none⟩) (U5 w1 _ Z)).trans Z;clear Z;obtain⟨e,F,c6,hE,a0,a1⟩:=H.engine C HB;have HE:=J6 hE;have HX:=J6 a1;have a8:=J6 a0;clear hE a1 a0;clear j y))
   go_still_tail 7,Q4
   change wpList _ _ _ _ _ w2.drew;generalize E:w2.drew=N;obtain⟨a7,a4,a3⟩:=Xt7 (show Bz w N by rw[<-E];exact Y5 HB 1) (fun w3 m' u hM=>HX w3 m' (RL (w1:=N) (by rw[<-E];exact Y5 (J9 _ w2) 1) u) hM) (show D8 N e F m from HE.below (by rw[<-E];exact Y5 (J9 _ w2) 1));clear E;go_wp2_with (first
    |(go_at_call 99;refine(Mu a3 (by have:=HO.ok.cnt;omega) i).mono ?_;rintro ev w3⟨rfl,u⟩;have HN:=J6 (a4 _ _ u (HO.cancel i (A5.lists u)));clear u)
    |(go_at_call 23;refine(TP _ HZ _ HN.1).mono ?_;rintro e w4⟨rfl,a6⟩))
   exact⟨rfl,D2 J rfl (Qz4 m i) (HN.2.2.2 _ a6)⟩
theorem Rh{w d k n0 G s A ws}(h:M3 w d G k s A n0 ws)c sd(d1:V3 sd):Calls prog 98 #[pA d,I O sd,.slice A n0 c] w (VK w d G k (VE sd s ws)):=by
 have H:=J6 h;clear h
 cases hn:D6 ws 4 with
 |none=>
  have HP:=J6 (show VE sd s ws=(s,.bad 3) by unfold VE V8;rw[hn]);go_enter func98,ntmps98
  go_wp2_with (go_at_call 94;refine(H.numbers_bad c hn).mono ?_;rintro e w1⟨rfl,y⟩)
  exact⟨rfl,D2 HP rfl (D1 Q0) (H.desk.to y)⟩
 |some l=>
  have HF:=J6 (VV hn)
  cases N:s.e with
  |none=>
   have HP:=J6 (show VE sd s ws=(s,.bad 6) by unfold VE V8 D3;rw[hn];simp only[N]);go_enter func98,ntmps98
   go_wp2_with (first
    |(go_at_call 94;refine(H.numbers_ok c hn).mono ?_;rintro e w1⟨A1,c1,rfl,y,hC,a1⟩)
    |(go_at_call 95;refine(H.ready_not N y).mono ?_;rintro e w2⟨rfl,u⟩))
   exact⟨rfl,D2 HP rfl (D1 Q0) (H.desk.to (y.trans (u.mono y.size)))⟩
  |some m=>
   obtain⟨a,b,c3,j,rfl⟩:=Xr5 (HF.2.1 Q0);obtain⟨HO,a0⟩:=Xt6 (H.mok N) (Qc5 d1 rfl HF.2.2)
   by_cases hz:P3 m (ZQ sd [a,b,c3,j])=0
   ·have HP:=J6 (show VE sd s ws=({s with e:=some (M8 m (ZQ sd [a,b,c3,j]))},.ok (YD [116,97,107,101,110] (ZT m (ZQ sd [a,b,c3,j])))) by unfold VE V8 D3;rw[hn];simp only[N];exact C5 _ (RS hz _))
    have HZ:=J6 hz;clear hz;go_enter func98,ntmps98
    go_wp2_with (first
     |(go_at_call 94;refine(H.numbers_ok c hn).mono ?_;rintro e w1⟨A1,c1,rfl,y,hC,a1⟩;obtain⟨g1,i,b9,x0,x1,x2,x3⟩:=Qi4 hC;subst b9;have b5:=J6 (a1 g1 rfl);clear hC a1)
     |(go_at_call 95;refine(H.ready_yes N y).mono ?_;rintro e w2⟨rfl,u⟩;have HB:=J6 (y.trans (u.mono y.size));have Z:=D0 (U5 w1 _ x0) u.size;have y0:=(u.cell (p:=⟨g1,i,none⟩) (U5 w1 _ x0)).trans x0;have y1:=(u.cell (p:=⟨g1,i+1,none⟩) (U5 w1 _ x1)).trans x1;have y2:=(u.cell (p:=⟨g1,i+2,none⟩) (U5 w1 _ x2)).trans x2;have y3:=(u.cell (p:=⟨g1,i+3,none⟩) (U5 w1 _ x3)).trans x3;clear x0 x1 x2 x3;obtain⟨e,F,c6,hE,a8,a9⟩:=H.engine N HB;have HE:=J6 hE;have HX:=J6 a9;have a3:=J6 a8;clear hE a9 a8;clear y u))
    obtain⟨E3,c8⟩:∃E3,Hid (Y9 (P3 m (ZQ sd [a,b,c3,j]))=E3):=⟨_,J6 rfl⟩;refine AE [] (fun _=>True) (fun W=>W.cell? ⟨d,6,none⟩=some (IP (some ⟨e,0,none⟩))/\W.cell? ⟨g1,i,none⟩=some (I O a)/\W.cell? ⟨g1,i+1,none⟩=some (I O b)/\W.cell? ⟨g1,i+2,none⟩=some (I O c3)/\W.cell? ⟨g1,i+3,none⟩=some (I O j)) trivial ⟨c6,y0,y1,y2,y3⟩ (fun _ hU=>?_);have b1:=J6 (show D8 w2.drew e F m from HE.below (Y5 (J9 _ w2) 1));obtain⟨HOr,b8⟩:=Xt6 (Re b1 (HO.in_ H.k6) (ZQ sd [a,b,c3,j]) a0) (fun w3 m' C hM=>HX w3 m' (RL (w1:=w2.drew) (Y5 (J9 _ w2) 1) C) hM);unfold V6 ZQ at HOr;dsimp only[List.getD_cons_zero,List.getD_cons_succ]at HOr;refine tP 0 ?_;refine tP 1 ?_;refine tP 2 ?_;refine tP 3 ?_;refine tP 4 ?_;refine tP 5 ?_;refine tP 6 ?_;refine tP 7 ?_;refine tP 8 ?_;refine tP 9 ?_;refine tP 10 ?_;refine tP 11 ?_;refine tP 12 ?_;refine tP 13 ?_;refine tP 14 ?_;refine tP 15 ?_;refine tP 16 ?_;refine tP 17 ?_;refine oN 18 fun K1 a4=>?_
    go_simp
    go_at_call 141
    refine HOr.mono ?_;rintro ev w3 C;replace C:UZ w2.drew w3 e F (fun Fs=>Fs=ZT m (ZQ sd [a,b,c3,j])) (M8 m (ZQ sd [a,b,c3,j])) (P3 m (ZQ sd [a,b,c3,j])) ev:=C;have J:=C.to;have D:=J.keep;have HN:=J6 (b8 _ _ J (HO.order a0 J.lists));obtain⟨A2,c2,Fs,rfl,hF,c7,d2,c5⟩:=C;have b2:=J6 hF;have c9:=J6 c7;clear J d2 c5 hF c7;have a7:¬F d:=fun h=>(a3 d h).2 rfl
    have E:¬F g1:=fun h=>by have:=(a3 g1 h).1;have:=b5.out;omega
    have a6:d<(zS w2.drew):=U5 w2 (aD d 6) c6;have a5:w3.cell? (aD d 6)=some (pA e)/\w3.cell? (aD g1 i)=some (I O a)/\w3.cell? (aD g1 (i+1))=some (I O b)/\w3.cell? (aD g1 (i+2))=some (I O c3)/\w3.cell? (aD g1 (i+3))=some (I O j):=⟨(D.cell (p:=(aD d 6)) a6 a7).trans c6,(D.cell (p:=(aD g1 i)) Z E).trans y0,(D.cell (p:=(aD g1 (i+1))) Z E).trans y1,(D.cell (p:=(aD g1 (i+2))) Z E).trans y2,(D.cell (p:=(aD g1 (i+3))) Z E).trans y3⟩;refine a4 _ _ (fun _=>trivial) a5 ?_;clear a4 D a7 E a6;refine tP 19 ?_;refine tP 20 ?_;refine tP 21 ?_;refine tP 22 ?_;refine tP 23 ?_;refine YW ?_ Q4 _;clear a5 hU;go_wp2_with (first
     |(go_at_call 23;refine(Qr _ HZ _).mono ?_;rintro e w4⟨rfl,b0⟩;have a2:=J6 b0;clear b0)
     |(go_at_call 110;refine(Tq ⟨#[116,97,107,101,110]⟩ A2 Fs.length c2 Fs _ (HN.1.below a2 HN.2.1) (U4 HN.2.1 a2.size) (c9.below a2) (by rw[b2.out];exact(Kg HO.ok a0).1) (by rw[b2.out];exact(Kg HO.ok a0).2) Q1).mono ?_;rintro ev w7⟨rfl,d0⟩))
    go_ret;have d3:=Ko (nm:=[116,97,107,101,110]) Q1 (Kg HO.ok a0).1;have d5:=(Kg HO.ok a0).2;refine D2 HP ?_ ?_ (HN.2.2.2 _ (a2.trans (d0.mono a2.size)))
    ·rw[<-b2.out]
     rfl
    show _<=10000000000;omega
   have HP:=J6 (show VE sd s ws=({s with e:=some (M8 m (ZQ sd [a,b,c3,j]))},.bad (P3 m (ZQ sd [a,b,c3,j]))) by unfold VE V8 D3;rw[hn];simp only[N];exact C5 _ (LK hz _));have HZ:=J6 hz;clear hz;go_enter func98,ntmps98
   go_wp2_with (first
    |(go_at_call 94;refine(H.numbers_ok c hn).mono ?_;rintro e w1⟨A1,c1,rfl,y,hC,a1⟩;obtain⟨g1,i,b9,x0,x1,x2,x3⟩:=Qi4 hC;subst b9;have b5:=J6 (a1 g1 rfl);clear hC a1)
    |(go_at_call 95;refine(H.ready_yes N y).mono ?_;rintro e w2⟨rfl,u⟩;have HB:=J6 (y.trans (u.mono y.size));have Z:=D0 (U5 w1 _ x0) u.size;have y0:=(u.cell (p:=⟨g1,i,none⟩) (U5 w1 _ x0)).trans x0;have y1:=(u.cell (p:=⟨g1,i+1,none⟩) (U5 w1 _ x1)).trans x1;have y2:=(u.cell (p:=⟨g1,i+2,none⟩) (U5 w1 _ x2)).trans x2;have y3:=(u.cell (p:=⟨g1,i+3,none⟩) (U5 w1 _ x3)).trans x3;clear x0 x1 x2 x3;obtain⟨e,F,c6,hE,a8,a9⟩:=H.engine N HB;have HE:=J6 hE;have HX:=J6 a9;have a3:=J6 a8;clear hE a9 a8;clear y u))
   obtain⟨E3,c8⟩:∃E3,Hid (Y9 (P3 m (ZQ sd [a,b,c3,j]))=E3):=⟨_,J6 rfl⟩;refine AE [] (fun _=>True) (fun W=>W.cell? ⟨d,6,none⟩=some (IP (some ⟨e,0,none⟩))/\W.cell? ⟨g1,i,none⟩=some (I O a)/\W.cell? ⟨g1,i+1,none⟩=some (I O b)/\W.cell? ⟨g1,i+2,none⟩=some (I O c3)/\W.cell? ⟨g1,i+3,none⟩=some (I O j)) trivial ⟨c6,y0,y1,y2,y3⟩ (fun _ hU=>?_);have b1:=J6 (show D8 w2.drew e F m from HE.below (Y5 (J9 _ w2) 1));obtain⟨HOr,b8⟩:=Xt6 (Re b1 (HO.in_ H.k6) (ZQ sd [a,b,c3,j]) a0) (fun w3 m' C hM=>HX w3 m' (RL (w1:=w2.drew) (Y5 (J9 _ w2) 1) C) hM);unfold V6 ZQ at HOr;dsimp only[List.getD_cons_zero,List.getD_cons_succ]at HOr;refine tP 0 ?_;refine tP 1 ?_;refine tP 2 ?_;refine tP 3 ?_;refine tP 4 ?_;refine tP 5 ?_;refine tP 6 ?_;refine tP 7 ?_;refine tP 8 ?_;refine tP 9 ?_;refine tP 10 ?_;refine tP 11 ?_;refine tP 12 ?_;refine tP 13 ?_;refine tP 14 ?_;refine tP 15 ?_;refine tP 16 ?_;refine tP 17 ?_;refine oN 18 fun K1 a4=>?_
   go_simp
   go_at_call 141
   refine HOr.mono ?_;rintro ev w3 C;replace C:UZ w2.drew w3 e F (fun Fs=>Fs=ZT m (ZQ sd [a,b,c3,j])) (M8 m (ZQ sd [a,b,c3,j])) (P3 m (ZQ sd [a,b,c3,j])) ev:=C;have J:=C.to;have D:=J.keep;have HN:=J6 (b8 _ _ J (HO.order a0 J.lists));obtain⟨A2,c2,Fs,rfl,c5⟩:=C;clear J c5;have a7:¬F d:=fun h=>(a3 d h).2 rfl
   have E:¬F g1:=fun h=>by have:=(a3 g1 h).1;have:=b5.out;omega
   have a6:d<(zS w2.drew):=U5 w2 (aD d 6) c6;have a5:w3.cell? (aD d 6)=some (pA e)/\w3.cell? (aD g1 i)=some (I O a)/\w3.cell? (aD g1 (i+1))=some (I O b)/\w3.cell? (aD g1 (i+2))=some (I O c3)/\w3.cell? (aD g1 (i+3))=some (I O j):=⟨(D.cell (p:=(aD d 6)) a6 a7).trans c6,(D.cell (p:=(aD g1 i)) Z E).trans y0,(D.cell (p:=(aD g1 (i+1))) Z E).trans y1,(D.cell (p:=(aD g1 (i+2))) Z E).trans y2,(D.cell (p:=(aD g1 (i+3))) Z E).trans y3⟩;refine a4 _ _ (fun _=>trivial) a5 ?_;clear a4 D a7 E a6;refine tP 19 ?_;refine tP 20 ?_;refine tP 21 ?_;refine tP 22 ?_;refine tP 23 ?_;refine YW ?_ Q4 _;clear a5 hU;go_wp2_with (first
    |(go_at_call 23;refine(TP _ HZ _ HN.1).mono ?_;rintro e w4⟨rfl,b0⟩))
   exact⟨rfl,D2 HP rfl (Ji7 _ _) (HN.2.2.2 _ b0)⟩
theorem Xf7{w d k n0 G s A ws}(h:M3 w d G k s A n0 ws)c:Calls prog 50 #[pA d,.slice A n0 c] w (VK w d G k (VE 1 s ws)):=by
 have HO:=J6 (Rh h c 1 (D1 Q0));clear h
 cases i:(VE 1 s ws).2 with
 |ok x=>
  go_enter func50,ntmps50
  go_wp2_with (go_at_call 98;refine HO.mono ?_;rintro j w1⟨h1,h2,u⟩;replace h1:j=.returned (.string ⟨x.toArray⟩):=(by rw[h1,i];rfl);subst h1)
  go_ret;exact⟨by rw[i];rfl,h2,u⟩
 |bad x=>
  go_enter func50,ntmps50
  go_wp2_with (go_at_call 98;refine HO.mono ?_;rintro j w1⟨h1,h2,u⟩;replace h1:j=.panicked [{v:=.iface 62 (.agg #[I O x]),recovered:=false}]:=(by rw[h1,i];rfl);subst h1)
  exact⟨rfl,by rw[i];rfl,h2,u⟩
theorem Ju3{w d k n0 G s A ws}(h:M3 w d G k s A n0 ws)c:Calls prog 61 #[pA d,.slice A n0 c] w (VK w d G k (VE 2 s ws)):=by
 have HO:=J6 (Rh h c 2 (D1 Q0));clear h
 cases i:(VE 2 s ws).2 with
 |ok x=>
  go_enter func61,ntmps61
  go_wp2_with (go_at_call 98;refine HO.mono ?_;rintro j w1⟨h1,h2,u⟩;replace h1:j=.returned (.string ⟨x.toArray⟩):=(by rw[h1,i];rfl);subst h1)
  go_ret;exact⟨by rw[i];rfl,h2,u⟩
 |bad x=>
  go_enter func61,ntmps61
  go_wp2_with (go_at_call 98;refine HO.mono ?_;rintro j w1⟨h1,h2,u⟩;replace h1:j=.panicked [{v:=.iface 62 (.agg #[I O x]),recovered:=false}]:=(by rw[h1,i];rfl);subst h1)
  exact⟨rfl,by rw[i];rfl,h2,u⟩
theorem Xf8{sd:Int}(h:¬(sd=1\/sd=2)):(sd != 1)=true/\(sd != 2)=true:=⟨XQ Q0,XQ Q0⟩
theorem Ju4 B sd w(h:¬(sd=1\/sd=2)):Calls prog 150 #[pA B,I O sd] w fun e w'=>e=.returned (.tuple #[.slice none 0 0,Y9 1])/\Bz w w':=by
 obtain⟨i,j⟩:=Xf8 h;clear h;go_enter func150,ntmps150
 go_wp2;go_ret2;exact⟨rfl,J9 _ _⟩
theorem Ju5{w e F m}(h:D8 w e F m)sd(u:¬(sd=1\/sd=2)):Calls prog 102 #[pA e,I O sd] w fun j w'=>j=.returned (.tuple #[.slice none 0 0,Y9 1])/\Bz w w':=by
 obtain⟨cs,tb,bb,bk,im,T,tc,Al,lc,lv,bu,se,Ap,pc,es,mc,G,own,i,y⟩:=h;have c:=i.cell i.ec.c8;have HS:=J6 (fun W=>Ju4 bk sd W u);clear i y u;go_enter func102,ntmps102
 go_wp2_with (go_at_call 150;refine(HS _).mono ?_;rintro j w2⟨rfl,C⟩)
 go_ret2;exact⟨rfl,C⟩
theorem Xf9{m}(h:D5 m)sd:(∀o∈V1 sd m.L1 m.L2,JV o)/\(V1 sd m.L1 m.L2).length<=100:=by
 have:=h.ls.cnt;rw[B6]at this;unfold V1
 split
 ·exact⟨fun o i=>(h.ls.ok o (T9 _ i)).1,Q0⟩
 exact⟨fun o i=>(h.ls.ok o (JJ _ i)).1,Q0⟩
theorem Ju6{w d k n0 G s A ws}(h:M3 w d G k s A n0 ws)c:Calls prog 48 #[pA d,.slice A n0 c] w (VK w d G k (GA s ws)):=by
 have H:=J6 h;clear h
 cases N:D6 ws 2 with
 |none=>
  have HP:=J6 (show GA s ws=(s,.bad 3) by unfold GA V8;rw[N]);go_enter func48,ntmps48
  go_wp2_with (go_at_call 94;refine(H.numbers_bad c N).mono ?_;rintro e w1⟨rfl,E⟩)
  exact⟨rfl,D2 HP rfl (D1 Q0) (H.desk.to E)⟩
 |some l=>
  have HF:=J6 (VV N);obtain⟨a,b,rfl⟩:=Ge (HF.2.1 Q0);obtain⟨b5,b8⟩:=Qd0 a b;have a6:=J6 (Yt b5 b8);clear b5 b8;obtain⟨a7,b0,a1⟩:=Xt7 (fun W=>RM a b W) (Tr a b) (show GA s ws=(s,JQ (KM a b) (N8 [XV a b,XU a b])) by unfold GA V8;rw[N];rfl);obtain⟨x,hx⟩:=exq (XV a b);obtain⟨y,hy⟩:=exq (XU a b);obtain⟨z,u⟩:=exq (KM a b);rw[hx,hy,u]at a1;rw[hx,hy]at a6;rw[u]at b0;simp only[hx,hy,u]at a7;clear hx hy u
  by_cases u:z=0
  ·have HP:=J6 (show GA s ws=(s,.ok (N8 [x,y])) by rw[a1.out,RS u])
   have HZ:=J6 u;clear u a1;go_enter func48,ntmps48
   go_wp2_with (go_at_call 94;refine(H.numbers_ok c N).mono ?_;rintro e w1⟨A1,c1,rfl,E,hC,a9⟩;obtain⟨i,j,a8,J,x1⟩:=Fv hC;have a4:=U5 w1 _ J;subst a8;have Z:=J6 E;clear hC a9 E)
   refine AE [] (fun _=>True) (fun W=>W.cell? ⟨i,j,none⟩=some (I O a)/\W.cell? ⟨i,j+1,none⟩=some (I O b)) trivial ⟨J,x1⟩ (fun _ hU=>?_);refine tP 0 ?_;refine tP 1 ?_;refine tP 2 ?_;refine tP 3 ?_;refine tP 4 ?_;refine tP 5 ?_;refine oN 6 fun K1 a2=>?_
   go_simp
   go_at_call 96
   refine(a7 w1.drew).mono ?_;rintro ev w3⟨rfl,D⟩;have a3:w3.cell? (aD i j)=some (I O a)/\w3.cell? (aD i (j+1))=some (I O b):=⟨(D.cell (p:=(aD i j)) a4).trans J,(D.cell (p:=(aD i (j+1))) a4).trans x1⟩;refine a2 _ _ (fun _=>trivial) a3 ?_;clear a2;refine tP 7 ?_;refine tP 8 ?_;refine tP 9 ?_;refine tP 10 ?_;refine tP 11 ?_;refine tP 12 ?_;refine tP 13 ?_;refine YW ?_ Q4 _;have C:=J6 (Z.trans ((show Bz w1 w3 from(show Bz w1 w1.drew from Y5 (J9 _ w1) 1).trans D).mono Z.size));obtain⟨b1,c5⟩:=Xt6 (H.globs C) (H.sizes C);clear hU a3 D;go_wp2_with (first
    |(go_at_call 23;refine(Qr _ HZ _).mono ?_;rintro e w4⟨rfl,a5⟩;have a0:=J6 (C.trans (a5.mono C.size));have b9:=J6 (H.globs a0);have b2:=J6 (H.sizes a0);clear a5)
    |(go_at_call 97;refine(LB _ (.inl rfl) (some ⟨w4.heap.size,0,none⟩) 2 2 [x,y] _ (b9.below ((J9 _ w4).alloc Q2 _) b2) (by have:=b2.out;simp;omega) (MJ (Z5 w4 3 #[I O x,I O y])) rfl a6 Q0).mono ?_;rintro e w5⟨rfl,c6⟩))
   go_ret;have c7:=PZ (l:=[x,y]) a6;exact D2 HP rfl (by show _<=10000000000;simp only[List.length_cons,List.length_nil]at c7;omega) (H.desk.to ((a0.alloc a0.size _).trans (c6.mono (by have:=a0.size;simp;omega))))
  have HP:=J6 (show GA s ws=(s,.bad z) by rw[a1.out,LK u]);have HZ:=J6 u;clear u a1;go_enter func48,ntmps48
  go_wp2_with (go_at_call 94;refine(H.numbers_ok c N).mono ?_;rintro e w1⟨A1,c1,rfl,E,hC,a9⟩;obtain⟨i,j,a8,J,x1⟩:=Fv hC;have a4:=U5 w1 _ J;subst a8;have Z:=J6 E;clear hC a9 E)
  refine AE [] (fun _=>True) (fun W=>W.cell? ⟨i,j,none⟩=some (I O a)/\W.cell? ⟨i,j+1,none⟩=some (I O b)) trivial ⟨J,x1⟩ (fun _ hU=>?_);refine tP 0 ?_;refine tP 1 ?_;refine tP 2 ?_;refine tP 3 ?_;refine tP 4 ?_;refine tP 5 ?_;refine oN 6 fun K1 a2=>?_
  go_simp
  go_at_call 96
  refine(a7 w1.drew).mono ?_;rintro ev w3⟨rfl,D⟩;have a3:w3.cell? (aD i j)=some (I O a)/\w3.cell? (aD i (j+1))=some (I O b):=⟨(D.cell (p:=(aD i j)) a4).trans J,(D.cell (p:=(aD i (j+1))) a4).trans x1⟩;refine a2 _ _ (fun _=>trivial) a3 ?_;clear a2;refine tP 7 ?_;refine tP 8 ?_;refine tP 9 ?_;refine tP 10 ?_;refine tP 11 ?_;refine tP 12 ?_;refine tP 13 ?_;refine YW ?_ Q4 _;have C:=J6 (Z.trans ((show Bz w1 w3 from(show Bz w1 w1.drew from Y5 (J9 _ w1) 1).trans D).mono Z.size));obtain⟨b1,c5⟩:=Xt6 (H.globs C) (H.sizes C);clear hU a3 D;go_wp2_with (go_at_call 23;refine(TP _ HZ _ b1).mono ?_;rintro e w4⟨rfl,a5⟩)
  exact⟨rfl,D2 HP rfl b0 (H.desk.to (C.trans (a5.mono C.size)))⟩
theorem Ju7{w d k n0 G s A ws}(h:M3 w d G k s A n0 ws)c:Calls prog 56 #[pA d,.slice A n0 c] w (VK w d G k (CP s ws)):=by
 have H:=J6 h;clear h
 cases J:D6 ws 1 with
 |none=>
  have HP:=J6 (show CP s ws=(s,.bad 3) by unfold CP V8;rw[J]);go_enter func56,ntmps56
  go_wp2_with (go_at_call 94;refine(H.numbers_bad c J).mono ?_;rintro e w1⟨rfl,j⟩)
  exact⟨rfl,D2 HP rfl (D1 Q0) (H.desk.to j)⟩
 |some l=>
  have HF:=J6 (VV J)
  cases E:s.e with
  |none=>
   have HP:=J6 (show CP s ws=(s,.bad 6) by unfold CP V8 D3;rw[J];simp only[E]);go_enter func56,ntmps56
   go_wp2_with (first
    |(go_at_call 94;refine(H.numbers_ok c J).mono ?_;rintro e w1⟨A1,c1,rfl,j,hC,a8⟩)
    |(go_at_call 95;refine(H.ready_not E j).mono ?_;rintro e w2⟨rfl,u⟩))
   exact⟨rfl,D2 HP rfl (D1 Q0) (H.desk.to (j.trans (u.mono j.size)))⟩
  |some m=>
   obtain⟨i,rfl⟩:=Qk1 (HF.2.1 Q0);have HO:=J6 (H.mok E)
   by_cases hz:i=1\/i=2
   ·have HP:=J6 (show CP s ws=(s,.ok (MG (V1 i m.L1 m.L2))) by unfold CP V8 D3;rw[J];simp only[E];exact C5 _ (RS (show PH i=0 from X0 hz) _))
    have HZ:=J6 hz;clear hz;obtain⟨q,hq⟩:=exq (V1 i m.L1 m.L2);obtain⟨HQ,a0⟩:=Xt6 hq (Xf9 HO.ok i);rw[hq]at HP a0;clear hq;go_enter func56,ntmps56
    go_wp2_with (first
     |(go_at_call 94;refine(H.numbers_ok c J).mono ?_;rintro e w1⟨A1,c1,rfl,j,hC,a8⟩;obtain⟨C,N,b0,Z⟩:=Yu hC;subst b0;clear hC a8)
     |(go_at_call 95;refine(H.ready_yes E j).mono ?_;rintro e w2⟨rfl,u⟩;have HB:=J6 (j.trans (u.mono j.size));have b1:=D0 (U5 w1 _ Z) u.size;have y0:=(u.cell (p:=⟨C,N,none⟩) (U5 w1 _ Z)).trans Z;clear Z;obtain⟨e,F,c6,hE,a5,a6⟩:=H.engine E HB;have HE:=J6 hE;have HX:=J6 a6;have b8:=J6 a5;clear hE a6 a5;clear j u))
    refine AE [] (fun _=>True) (fun W=>W.cell? ⟨d,6,none⟩=some (IP (some ⟨e,0,none⟩))/\W.cell? ⟨C,N,none⟩=some (I O i)) trivial ⟨c6,y0⟩ (fun _ hU=>?_);have a9:=J6 (show D8 w2.drew e F m from HE.below (Y5 (J9 _ w2) 1));refine tP 0 ?_;refine tP 1 ?_;refine tP 2 ?_;refine tP 3 ?_;refine tP 4 ?_;refine tP 5 ?_;refine tP 6 ?_;refine oN 7 fun K1 a2=>?_
    go_simp
    go_at_call 102
    refine(Jr4 a9 i HZ).mono ?_;rw[HQ.out];rintro ev w3⟨D,A2,c2,rfl,b5,d1⟩;have c5:=J6 b5;clear b5 d1;have a4:d<(zS w2.drew):=U5 w2 (aD d 6) c6;have a3:w3.cell? (aD d 6)=some (pA e)/\w3.cell? (aD C N)=some (I O i):=⟨(D.cell (p:=(aD d 6)) a4).trans c6,(D.cell (p:=(aD C N)) b1).trans y0⟩;refine a2 _ _ (fun _=>trivial) a3 ?_;clear a2 a4;refine tP 8 ?_;refine tP 9 ?_;refine tP 10 ?_;refine tP 11 ?_;refine tP 12 ?_;refine YW ?_ Q4 _;have y:=J6 (HB.trans ((show Bz w2 w3 from(show Bz w2 w2.drew from Y5 (J9 _ w2) 1).trans D).mono HB.size));obtain⟨b2,c8⟩:=Xt6 (H.globs y) (H.sizes y);clear hU a3 D;go_wp2_with (first
     |(go_at_call 23;refine(Yd _).mono ?_;rintro e w4⟨rfl,a1⟩;have c7:=J6 (c5.below a1);have a7:=J6 (y.trans (a1.mono y.size));have b9:=J6 (H.globs a7);have c9:=J6 (H.sizes a7);clear a1)
     |(go_at_call 103;refine(Yf _ (.inl rfl) A2 q.length c2 q w4 b9 c9 c7 a0.1 (by have:=a0.2;omega)).mono ?_;rintro e w5⟨rfl,d0⟩))
    go_ret;have d2:=Kh a0.1;have d3:=a0.2;exact D2 HP rfl (by show _<=10000000000;omega) (H.desk.to (a7.trans (d0.mono a7.size)))
   have HP:=J6 (show CP s ws=(s,.bad 1) by unfold CP V8 D3;rw[J];simp only[E];exact C5 _ ((LK (show PH i≠0 from by rw[show PH i=1 from J8 hz];decide) _).trans (C5 _ (J8 hz))));have HZ:=J6 hz;clear hz;go_enter func56,ntmps56
   go_wp2_with (first
    |(go_at_call 94;refine(H.numbers_ok c J).mono ?_;rintro e w1⟨A1,c1,rfl,j,hC,a8⟩;obtain⟨C,N,b0,Z⟩:=Yu hC;subst b0;clear hC a8)
    |(go_at_call 95;refine(H.ready_yes E j).mono ?_;rintro e w2⟨rfl,u⟩;have HB:=J6 (j.trans (u.mono j.size));have b1:=D0 (U5 w1 _ Z) u.size;have y0:=(u.cell (p:=⟨C,N,none⟩) (U5 w1 _ Z)).trans Z;clear Z;obtain⟨e,F,c6,hE,a5,a6⟩:=H.engine E HB;have HE:=J6 hE;have HX:=J6 a6;have b8:=J6 a5;clear hE a6 a5;clear j u))
   refine AE [] (fun _=>True) (fun W=>W.cell? ⟨d,6,none⟩=some (IP (some ⟨e,0,none⟩))/\W.cell? ⟨C,N,none⟩=some (I O i)) trivial ⟨c6,y0⟩ (fun _ hU=>?_);have a9:=J6 (show D8 w2.drew e F m from HE.below (Y5 (J9 _ w2) 1));refine tP 0 ?_;refine tP 1 ?_;refine tP 2 ?_;refine tP 3 ?_;refine tP 4 ?_;refine tP 5 ?_;refine tP 6 ?_;refine oN 7 fun K1 a2=>?_
   go_simp
   go_at_call 102
   refine(Ju5 a9 i HZ).mono ?_;rintro ev w3⟨rfl,D⟩;have a4:d<(zS w2.drew):=U5 w2 (aD d 6) c6;have a3:w3.cell? (aD d 6)=some (pA e)/\w3.cell? (aD C N)=some (I O i):=⟨(D.cell (p:=(aD d 6)) a4).trans c6,(D.cell (p:=(aD C N)) b1).trans y0⟩;refine a2 _ _ (fun _=>trivial) a3 ?_;clear a2 a4;refine tP 8 ?_;refine tP 9 ?_;refine tP 10 ?_;refine tP 11 ?_;refine tP 12 ?_;refine YW ?_ Q4 _;have y:=J6 (HB.trans ((show Bz w2 w3 from(show Bz w2 w2.drew from Y5 (J9 _ w2) 1).trans D).mono HB.size));obtain⟨b2,c8⟩:=Xt6 (H.globs y) (H.sizes y);clear hU a3 D;go_wp2_with (go_at_call 23;refine(TP 1 Q0 _ b2).mono ?_;rintro e w4⟨rfl,a1⟩)
   exact⟨rfl,D2 HP rfl (D1 Q0) (H.desk.to (y.trans (a1.mono y.size)))⟩
theorem JM.blk{w d k G s}(h:JM w d G k s):G d/\∃j u y C D E J,J7 w d 29 #[j,u,y,C,D,E,J]:=by
 cases i:s.e with
 |none=>
  obtain⟨A,c,h1,-,-,h2⟩:=h.n i;exact⟨(h2 d).2 (.inl rfl),_,_,_,_,_,_,_,h1⟩
 |some m=>
  obtain⟨j,u,y,C,D,E,e,F,h1,-,-,h2⟩:=(h.e i).1;exact⟨(h2 d).2 (.inl rfl),_,_,_,_,_,_,_,h1⟩
theorem BC{w g t a b c d e f h}(H:J7 w g t #[a,b,c,d,e,f,h]):w.cell? (aD g 0)=some a/\w.cell? (aD g 1)=some b/\w.cell? (aD g 2)=some c/\w.cell? (aD g 3)=some d/\w.cell? (aD g 4)=some e/\w.cell? (aD g 5)=some f/\w.cell? (aD g 6)=some h:=
 ⟨by rw[X9 H];rfl,by rw[X9 H];rfl,by rw[X9 H];rfl,by rw[X9 H];rfl,by rw[X9 H];rfl,by rw[X9 H];rfl,by rw[X9 H];rfl⟩
theorem Yg{w w1 w2 d k G s' A c}(D:Bz w w1)(C:G d)(hk:X4 (fun i=>i=d) w1 w2)(E:s'.e=none)(h1:J7 w2 d 29 (AC A c s' none)) (h2:X8 w2 A s'.rows.length c 152 2 (X7 BX s'.rows)) (y:∀i,X5 A=some i->i≠d/\(G i\/w.heap.size<=i)):BP w w2 d G k s':=by
 refine⟨fun i=>i=d\/X5 A=some i,GB.at_ ⟨A,c,h1,h2,fun i j=>(y i j).1,fun i=>KL⟩ E,((X4.after D hk).mono (fun i j=>by rw[j];exact C)),fun i j=>?_⟩;obtain u|u:=j
 ·exact .inl (by rw[u];exact C)
 exact(y i u).2
theorem T4{w w2 d}(h:X4 (fun i=>i=d) w w2)i v:X4 (fun i=>i=d) w (w2.setCell (aD d i) v):=
 h.trans (U1 w2 (aD d i) v) (fun _ j=>.inl j)
theorem Ji8{w d k n0 G s A ws}(h:M3 w d G k s A n0 ws)c:Calls prog 52 #[pA d,.slice A n0 c] w (VK w d G k (PD s ws)):=by
 have H:=J6 h;clear h
 cases y:D6 ws 0 with
 |none=>
  have C:=J6 (show PD s ws=(s,.bad 3) by unfold PD V8;rw[y]);go_enter func52,ntmps52
  go_wp2_with (go_at_call 94;refine(H.numbers_bad c y).mono ?_;rintro e w1⟨rfl,u⟩)
  exact⟨rfl,D2 C rfl (D1 Q0) (H.desk.to u)⟩
 |some l=>
  have C:=J6 (show PD s ws=(QU,.ok [99,108,101,97,114]) by unfold PD V8;rw[y]);go_enter func52,ntmps52
  go_wp2_with (go_at_call 94;refine(H.numbers_ok c y).mono ?_;rintro e w1⟨A1,c1,rfl,u,E,Z⟩;obtain⟨J,v0,v1,v2,v3,v4,v5,v6,j⟩:=(H.desk.below u).blk;have D:=J6 j;obtain⟨x0,x1,x2,x3,x4,x5,x6⟩:=BC j;have f0:=K0 j 0;have f1:=K0 j 1;have f2:=K0 j 2;have f3:=K0 j 3;have f4:=K0 j 4;have f5:=K0 j 5;have f6:=K0 j 6;clear j E Z)
  go_ret;have j:=Z0 (Z0 (Z0 (Z0 (Z0 (Z0 (Z0 D 0 (.slice none 0 0)) 1 (I O 0)) 2 (I O 0)) 3 (I O 0)) 4 (I O 0)) 5 (I O 0)) 6 (.pointer none);exact D2 C rfl (by show _<=10000000000;decide) (Yg u J (T4 (T4 (T4 (T4 (T4 (T4 (T4 (BG _ _) 0 _) 1 _) 2 _) 3 _) 4 _) 5 _) 6 _) rfl (A:=none) (c:=0) (s':=QU) j (QY _ _ _ _) (fun i N=>by cases N))
theorem GB.parts{w d G s}(h:GB w d G s):∃A c,J7 w d 29 (AC A c s none)/\X8 w A s.rows.length c 152 2 (X7 BX s.rows)/\(∀i,X5 A=some i->i≠d/\G i)/\G d:=by obtain⟨A,c,h1,h2,y,j⟩:=h;exact⟨A,c,h1,h2,fun i u=>⟨y i u,(j i).2 (.inr u)⟩,(j d).2 (.inl rfl)⟩
theorem XZ{w:World}{p q v u}(h:w.cell? q=some u)(i:q.block≠p.block):(w.setCell p v).cell? q=some u:=(SR (Xf w p v q.block i)).trans h
theorem Ji9{w d k n0 G s A ws}(h:M3 w d G k s A n0 ws)c:Calls prog 49 #[pA d,.slice A n0 c] w (VK w d G k (EW s ws)):=by
 have H:=J6 h;clear h
 cases N:D6 ws 3 with
 |none=>
  have HP:=J6 (show EW s ws=(s,.bad 3) by unfold EW V8;rw[N]);go_enter func49,ntmps49
  go_wp2_with (go_at_call 94;refine(H.numbers_bad c N).mono ?_;rintro e w1⟨rfl,y⟩)
  exact⟨rfl,D2 HP rfl (D1 Q0) (H.desk.to y)⟩
 |some l=>
  have HF:=J6 (VV N)
  cases Z:s.e with
  |some m=>
   have HP:=J6 (show EW s ws=(s,.bad 6) by unfold EW V8 YZ;rw[N];simp only[Z]);go_enter func49,ntmps49
   go_wp2_with (first
    |(go_at_call 94;refine(H.numbers_ok c N).mono ?_;rintro e w1⟨A1,c1,rfl,y,hC,a2⟩)
    |(go_at_call 95;refine(H.ready_old Z y).mono ?_;rintro e w2⟨rfl,J⟩))
   exact⟨rfl,D2 HP rfl (D1 Q0) (H.desk.to (y.trans (J.mono y.size)))⟩
  |none=>
   obtain⟨a,b,c3,rfl⟩:=Qk2 (HF.2.1 Q0);have HP:=J6 (show EW s ws=({s with st:=a,dy:=b,p:=c3},.ok [98,97,110,100,115]) by unfold EW V8 YZ;rw[N];simp only[Z];rfl);go_enter func49,ntmps49
   go_wp2_with (first
    |(go_at_call 94;refine(H.numbers_ok c N).mono ?_;rintro e w1⟨A1,c1,rfl,y,hC,a2⟩;obtain⟨j,u,b0,x0,x1,x2⟩:=Xo8 hC;subst b0;have a9:=J6 (a2 j rfl);clear hC a2)
    |(go_at_call 95;refine(H.ready_new Z y).mono ?_;rintro e w2⟨rfl,J⟩;have HB:=J6 (y.trans (J.mono y.size));have y0:=(J.cell (p:=⟨j,u,none⟩) (U5 w1 _ x0)).trans x0;have y1:=(J.cell (p:=⟨j,u+1,none⟩) (U5 w1 _ x1)).trans x1;have y2:=(J.cell (p:=⟨j,u+2,none⟩) (U5 w1 _ x2)).trans x2;clear x0 x1 x2;obtain⟨A0,c0,C,a6,a5,b1⟩:=(((H.desk.n Z).below HB)).parts;have a7:=J6 C;have a8:=J6 a6;have a0:=J6 a5;unfold AC at C;obtain⟨z0,z1,z2,z3,z4,z5,z6⟩:=BC C;have f0:=K0 C 0;have f1:=K0 C 1;have f2:=K0 C 2;have f3:=K0 C 3;have f4:=K0 C 4;have f5:=K0 C 5;clear C a6 a5;clear y J))
   have d1:d<w.heap.size:=H.desk.blk.2.elim fun _ h=>h.elim fun _ h=>h.elim fun _ h=>h.elim fun _ h=>h.elim fun _ h=>h.elim fun _ h=>h.elim fun _ h=>h.lt
   have D:j≠d:=fun h=>by have:=a9.out;omega
   refine AE [] (fun _=>True) (fun W=>W.cell? ⟨j,u,none⟩=some (I O a)/\W.cell? ⟨j,u+1,none⟩=some (I O b)/\W.cell? ⟨j,u+2,none⟩=some (I O c3)) trivial ⟨y0,y1,y2⟩ (fun _ a1=>?_);replace a1:w2.drew.cell? ⟨j,u,none⟩=some (I O a)/\w2.drew.cell? ⟨j,u+1,none⟩=some (I O b)/\w2.drew.cell? ⟨j,u+2,none⟩=some (I O c3):=a1;refine tP 0 ?_;refine tP 1 ?_;refine tP 2 ?_;refine tP 3 ?_;refine tP 4 ?_;refine tP 5 ?_;refine tP 6 ?_;refine tP 7 ?_;refine tP 8 ?_;refine tP 9 ?_;refine tP 10 ?_;refine tP 11 ?_;refine tP 12 ?_;refine tP 13 ?_;refine tP 14 ?_;refine oN 15 fun K1 E=>?_
   go_simp;obtain⟨b5,c5,c8⟩:=a1;have a3:(w2.drew.setCell ⟨d,1,none⟩ (I O a)).cell? ⟨j,u,none⟩=some (I O a)/\(w2.drew.setCell ⟨d,1,none⟩ (I O a)).cell? ⟨j,u+1,none⟩=some (I O b)/\(w2.drew.setCell ⟨d,1,none⟩ (I O a)).cell? ⟨j,u+2,none⟩=some (I O c3):=⟨XZ b5 D,XZ c5 D,XZ c8 D⟩;refine E _ _ (fun _=>trivial) a3 ?_;clear E;refine tP 16 ?_;refine tP 17 ?_;refine tP 18 ?_;refine oN 19 fun K1 E=>?_
   go_simp;obtain⟨b8,c6,c9⟩:=a3;have a4:((w2.drew.setCell ⟨d,1,none⟩ (I O a)).setCell ⟨d,2,none⟩ (I O b)).cell? ⟨j,u,none⟩=some (I O a)/\((w2.drew.setCell ⟨d,1,none⟩ (I O a)).setCell ⟨d,2,none⟩ (I O b)).cell? ⟨j,u+1,none⟩=some (I O b)/\((w2.drew.setCell ⟨d,1,none⟩ (I O a)).setCell ⟨d,2,none⟩ (I O b)).cell? ⟨j,u+2,none⟩=some (I O c3):=⟨XZ b8 D,XZ c6 D,XZ c9 D⟩;refine E _ _ (fun _=>trivial) a4 ?_;clear E;refine tP 20 ?_;refine tP 21 ?_;refine tP 22 ?_;refine oN 23 fun K1 E=>?_
   go_simp;obtain⟨b9,c7,d0⟩:=a4;have b2:(((w2.drew.setCell ⟨d,1,none⟩ (I O a)).setCell ⟨d,2,none⟩ (I O b)).setCell ⟨d,3,none⟩ (I O c3)).cell? ⟨j,u,none⟩=some (I O a)/\(((w2.drew.setCell ⟨d,1,none⟩ (I O a)).setCell ⟨d,2,none⟩ (I O b)).setCell ⟨d,3,none⟩ (I O c3)).cell? ⟨j,u+1,none⟩=some (I O b)/\(((w2.drew.setCell ⟨d,1,none⟩ (I O a)).setCell ⟨d,2,none⟩ (I O b)).setCell ⟨d,3,none⟩ (I O c3)).cell? ⟨j,u+2,none⟩=some (I O c3):=⟨XZ b9 D,XZ c7 D,XZ d0 D⟩;refine E _ _ (fun _=>trivial) b2 ?_;clear E;refine YW ?_ Q4 _;go_wp2;go_ret;exact D2 HP rfl (by show _<=10000000000;decide) (Yg (w1:=w2.drew) (Y5 HB 1) b1 (T4 (T4 (T4 (BG _ _) 1 _) 2 _) 3 _) Z (A:=A0) (c:=c0) (Z0 (Z0 (Z0 a7 1 (I O a)) 2 (I O b)) 3 (I O c3)) (RB (a8.below (Y5 (J9 _ w2) 1)) (T4 (T4 (T4 (BG _ _) 1 _) 2 _) 3 _) (fun i hi=>(a0 i hi).1)) (fun i hi=>⟨(a0 i hi).1,.inl (a0 i hi).2⟩))
theorem Qt1{w d k n0 G s A ws}(h:M3 w d G k s A n0 ws)c:Calls prog 47 #[pA d,.slice A n0 c] w (VK w d G k (EN s ws)):=by
 have H:=J6 h;clear h
 cases D:D6 ws 2 with
 |none=>
  have N:=J6 (show EN s ws=(s,.bad 3) by unfold EN V8;rw[D]);go_enter func47,ntmps47
  go_wp2_with (go_at_call 94;refine(H.numbers_bad c D).mono ?_;rintro e w1⟨rfl,u⟩)
  exact⟨rfl,D2 N rfl (D1 Q0) (H.desk.to u)⟩
 |some l=>
  have HF:=J6 (VV D)
  cases J:s.e with
  |some m=>
   have N:=J6 (show EN s ws=(s,.bad 6) by unfold EN V8 YZ;rw[D];simp only[J]);go_enter func47,ntmps47
   go_wp2_with (first
    |(go_at_call 94;refine(H.numbers_ok c D).mono ?_;rintro e w1⟨A1,c1,rfl,u,hC,a3⟩)
    |(go_at_call 95;refine(H.ready_old J u).mono ?_;rintro e w2⟨rfl,E⟩))
   exact⟨rfl,D2 N rfl (D1 Q0) (H.desk.to (u.trans (E.mono u.size)))⟩
  |none=>
   obtain⟨a,b,rfl⟩:=Ge (HF.2.1 Q0);have N:=J6 (show EN s ws=({s with tk:=a,mo:=b},.ok [97,117,99,116,105,111,110]) by unfold EN V8 YZ;rw[D];simp only[J];rfl);go_enter func47,ntmps47
   go_wp2_with (first
    |(go_at_call 94;refine(H.numbers_ok c D).mono ?_;rintro e w1⟨A1,c1,rfl,u,hC,a3⟩;obtain⟨j,C,b0,x0,x1⟩:=Fv hC;subst b0;have a9:=J6 (a3 j rfl);clear hC a3)
    |(go_at_call 95;refine(H.ready_new J u).mono ?_;rintro e w2⟨rfl,E⟩;have HB:=J6 (u.trans (E.mono u.size));have y0:=(E.cell (p:=⟨j,C,none⟩) (U5 w1 _ x0)).trans x0;have y1:=(E.cell (p:=⟨j,C+1,none⟩) (U5 w1 _ x1)).trans x1;clear x0 x1;obtain⟨A0,c0,y,a6,a5,b1⟩:=(((H.desk.n J).below HB)).parts;have a7:=J6 y;have a8:=J6 a6;have a1:=J6 a5;unfold AC at y;obtain⟨z0,z1,z2,z3,z4,z5,z6⟩:=BC y;have f0:=K0 y 0;have f1:=K0 y 1;have f2:=K0 y 2;have f3:=K0 y 3;have f4:=K0 y 4;have f5:=K0 y 5;clear y a6 a5;clear u E))
   have c6:d<w.heap.size:=H.desk.blk.2.elim fun _ h=>h.elim fun _ h=>h.elim fun _ h=>h.elim fun _ h=>h.elim fun _ h=>h.elim fun _ h=>h.elim fun _ h=>h.lt
   have a0:j≠d:=fun h=>by have:=a9.out;omega
   refine AE [] (fun _=>True) (fun W=>W.cell? ⟨j,C,none⟩=some (I O a)/\W.cell? ⟨j,C+1,none⟩=some (I O b)) trivial ⟨y0,y1⟩ (fun _ a2=>?_);replace a2:w2.drew.cell? ⟨j,C,none⟩=some (I O a)/\w2.drew.cell? ⟨j,C+1,none⟩=some (I O b):=a2;refine tP 0 ?_;refine tP 1 ?_;refine tP 2 ?_;refine tP 3 ?_;refine tP 4 ?_;refine tP 5 ?_;refine tP 6 ?_;refine tP 7 ?_;refine tP 8 ?_;refine tP 9 ?_;refine tP 10 ?_;refine oN 11 fun K1 Z=>?_
   go_simp;obtain⟨b5,b9⟩:=a2;have a4:(w2.drew.setCell ⟨d,4,none⟩ (I O a)).cell? ⟨j,C,none⟩=some (I O a)/\(w2.drew.setCell ⟨d,4,none⟩ (I O a)).cell? ⟨j,C+1,none⟩=some (I O b):=⟨XZ b5 a0,XZ b9 a0⟩;refine Z _ _ (fun _=>trivial) a4 ?_;clear Z;refine tP 12 ?_;refine tP 13 ?_;refine tP 14 ?_;refine oN 15 fun K1 Z=>?_
   go_simp;obtain⟨b8,c5⟩:=a4;have b2:((w2.drew.setCell ⟨d,4,none⟩ (I O a)).setCell ⟨d,5,none⟩ (I O b)).cell? ⟨j,C,none⟩=some (I O a)/\((w2.drew.setCell ⟨d,4,none⟩ (I O a)).setCell ⟨d,5,none⟩ (I O b)).cell? ⟨j,C+1,none⟩=some (I O b):=⟨XZ b8 a0,XZ c5 a0⟩;refine Z _ _ (fun _=>trivial) b2 ?_;clear Z;refine YW ?_ Q4 _;go_wp2;go_ret;exact D2 N rfl (by show _<=10000000000;decide) (Yg (w1:=w2.drew) (Y5 HB 1) b1 (T4 (T4 (BG _ _) 4 _) 5 _) J (A:=A0) (c:=c0) (Z0 (Z0 a7 4 (I O a)) 5 (I O b)) (RB (a8.below (Y5 (J9 _ w2) 1)) (T4 (T4 (BG _ _) 4 _) 5 _) (fun i hi=>(a1 i hi).1)) (fun i hi=>⟨(a1 i hi).1,.inl (a1 i hi).2⟩))
theorem Lo{w A c t ps}(h:X8 w A ps.length c t 2 (X7 BX ps)):JW w A ps.length c ps:=by
 refine⟨rfl,fun D=>?_⟩;obtain⟨g,j,J⟩:=X8.elem Bj Q0 h D;refine⟨g,0,j,h.lt (by rw[j];rfl),fun i C=>?_⟩;obtain⟨E,u,y⟩:=X8.elem Bj Q0 h C;rw[j]at u
 cases u;have e:ps.getD i (0,0)=ps[i]:=by rw[Gj,JY C];rfl
 rw[e];exact⟨by have:=y 0 _ rfl;rw[KC];exact this,by have:=y 1 _ rfl;rw[KC];exact this⟩
theorem Qd1{w A c t ps}(h:X8 w A ps.length c t 2 (X7 BX ps)):ps.length<=9223372036854775807:=by
 cases A with
 |none=>
  have C:=YU Bj Q0 h;obtain⟨-,h2|⟨g,cap,j,i,-⟩⟩:=h
  ·rw[h2.2];omega
  cases i
 |some a=>
  obtain⟨-,h2|⟨g,cap,j,i,-,-,y,u,-⟩⟩:=h
  ·cases h2.1
  unfold maxLen at u;omega
theorem Qo7(ps:List (Int×Int)):∀i,0<=XL ps i/\XL ps i<=100
 |0=>by unfold XL;split<;>omega
 |k+1=>by have h:=Qu7 (ps.getD k (0,0)).1 (ps.getD k (0,0)).2 (ps.getD (k+1) (0,0)).1 (ps.getD (k+1) (0,0)).2;show 0<=UT _ _ _ _/\UT _ _ _ _<=100;omega
theorem Qg2{ps st dy p tk mo n pl}(h:XR ps st dy p tk mo n pl):V3 n:=by
 rcases h with⟨h,-⟩|⟨-,-,h,-⟩|⟨-,-,-,h,-⟩|⟨-,-,-,h,-⟩
 ·rcases h with⟨-,h,-⟩|⟨-,h,-⟩|⟨-,-,i,-,-,-,h,-⟩|⟨-,-,-,h,-⟩
  ·exact D1 Q0
  ·exact D1 Q0
  ·rw[h];exact D1 (Qo7 ps i)
  exact D1 Q0
 ·exact D1 Q0
 ·exact D1 Q0
 exact D1 Q0
theorem Jj0{w d k n0 G s A ws}(h:M3 w d G k s A n0 ws)c:Calls prog 62 #[pA d,.slice A n0 c] w (VK w d G k (FQ s ws)):=by
 have H:=J6 h;clear h
 cases hn:D6 ws 0 with
 |none=>
  have D:=J6 (show FQ s ws=(s,.bad 3) by unfold FQ V8;rw[hn]);go_enter func62,ntmps62
  go_wp2_with (go_at_call 94;refine(H.numbers_bad c hn).mono ?_;rintro e w1⟨rfl,j⟩)
  exact⟨rfl,D2 D rfl (D1 Q0) (H.desk.to j)⟩
 |some l=>
  cases Z:s.e with
  |some m=>
   have D:=J6 (show FQ s ws=(s,.bad 6) by unfold FQ V8 YZ;rw[hn];simp only[Z]);go_enter func62,ntmps62
   go_wp2_with (first
    |(go_at_call 94;refine(H.numbers_ok c hn).mono ?_;rintro e w1⟨A1,c1,rfl,j,y,d2⟩)
    |(go_at_call 95;refine(H.ready_old Z j).mono ?_;rintro e w2⟨rfl,a3⟩))
   exact⟨rfl,D2 D rfl (D1 Q0) (H.desk.to (j.trans (a3.mono j.size)))⟩
  |none=>
   obtain⟨D,b0⟩:=Xt6 (show FQ s ws=(if SF s=0 then {s with e:=some (BA s.rows s.st s.dy s.p s.tk s.mo)}else s,JQ (SF s) [115,116,97,114,116]) by unfold FQ V8 YZ;rw[hn];simp only[Z]) (fun A0 c0 W c8(hm:s.rows.length<=9223372036854775807)=>Xd9 A0 s.rows.length c0 s.rows s.st s.dy s.p s.tk s.mo W c8 hm);obtain⟨nr,a4⟩:=exq s.rows.length;have d1:nr<=9223372036854775807:=by obtain⟨A0,c0,-,a5,-⟩:=H.desk.n Z;rw[<-a4];exact Qd1 a5
   have a6:=J6 a4;simp only[a4]at b0;clear a4;go_enter func62,ntmps62
   go_wp2_with (first
    |(go_at_call 94;refine(H.numbers_ok c hn).mono ?_;rintro e w1⟨A1,c1,rfl,j,y,d2⟩)
    |(go_at_call 95;refine(H.ready_new Z j).mono ?_;rintro e w2⟨rfl,a3⟩;have u:=J6 (j.trans (a3.mono j.size));obtain⟨A0,c0,J,a5,b8,b2⟩:=(((H.desk.n Z).below u)).parts;have a9:=J6 J;have c7:=J6 a5;have d3:=J6 b8;unfold AC at J;rw[a6.out]at J;obtain⟨z0,z1,z2,z3,z4,z5,z6⟩:=BC J;have f6:=K0 J 6;clear J a5 b8 j a3)
    |(go_at_call 108;refine(b0 A0 c0 w2 (by have:=Lo c7;rw[a6.out]at this;exact this) d1).mono ?_;rintro ev w3⟨a0,(⟨v,n,pl,rfl,hE,a8,y⟩|⟨y,E,F,rfl,hE,hF⟩)⟩))
   ·have a1:=u.trans (a0.mono u.size)
    have hc:=Qq (d:=s) y;have hf:=Qg2 y;refine(Xl3 v n pl w3 (H.globs a1) hE a8).mono ?_;rintro e w4⟨b5,a2⟩;unfold AP at b5;subst b5;refine⟨rfl,D2 (s':=s) (a:=.bad n) ?_ rfl hf (H.desk.to (a1.trans (a2.mono a1.size)))⟩;rw[D.out,hc,J8 a8,LK a8]
   have a1:=u.trans (a0.mono u.size);have hc:=Qq (d:=s) y;have d0:=Qg0 y (k+1);obtain⟨HF,HE⟩:=Xt6 hF hE;refine(Yd w3).mono ?_;rintro e w4⟨rfl,a2⟩;have a7:=a0.trans (a2.mono a0.size);have N:=a9.keep a7;obtain⟨b9,c6,c5⟩:=Xt7 a7 (HE.below a2) N;unfold AC at N;rw[a6.out]at N;obtain⟨z0,z1,z2,z3,z4,z5,z6⟩:=BC N;have f6:=K0 N 6;clear N hE hF y a0 a7 a2 a1;go_wp2;go_ret;have d4:d<w2.heap.size:=a9.lt;have d5:d<w.heap.size:=by obtain⟨-,v0,v1,v2,v3,v4,v5,v6,h⟩:=H.desk.blk;exact h.lt
   have b1:∀i,F i->i≠d:=fun i C e=>by have:=HF.out i C;omega
   refine D2 (s':={s with e:=some (BA s.rows s.st s.dy s.p s.tk s.mo)}) (a:=.ok [115,116,97,114,116]) ?_ rfl (by show _<=10000000000;decide) ?_
   ·rw[D.out,hc,X0 rfl,RS rfl]
   have c9:=Z0 c5 6 (IP (some ⟨E,0,none⟩));refine⟨fun i=>i=d\/F i,FF.at_ ⟨_,_,_,_,_,_,E,F,c9,c6.keeps (U1 w4 ⟨d,6,none⟩ _) (fun i C e=>b1 i C e),fun h=>b1 d h rfl,fun i=>KL⟩ d0 rfl,?_,fun i C=>?_⟩
   ·exact(X4.after (u.trans (b9.mono u.size)) (U1 w4 ⟨d,6,none⟩ _)).mono (fun i C=>by rw[C];exact b2)
   obtain e1|e1:=C
   ·exact .inl (by rw[e1];exact b2)
   exact .inr (U4 u.size (HF i e1))
theorem Na:∀(n:Nat)(l:List Int)(a b:Int),l.length=2*n->JS (l++[a,b])=JS l++[(a,b)]
 |0,l,a,b,h=>by
  have:l=[]:=Va.1 Q0;subst this
  rfl
 |n+1,x::y::l,a,b,h=>by
  have h':l.length=2*n:=by simp at h;omega
  show(x,y)::JS (l++[a,b])=(x,y)::JS l++[(a,b)];rw[Na n l a b h']
  rfl
 |n+1,[x],a,b,h=>by simp at h;omega
theorem Nb{l:List Int}{j:Nat}(h:2*j+1<l.length):JS (l.take (2*(j+1)))=JS (l.take (2*j))++[(l[2*j],l[2*j+1])]:=by
 have h1:l.take (2*(j+1))=l.take (2*j)++[l[2*j],l[2*j+1]]:=by
  rw[show 2*(j+1)=2*j+1+1 by omega,M9 h,M9 Q0,VW]
  rfl
 rw[h1,Na j _ _ _ (by rw[R7];omega)]
theorem Cq:∀(n:Nat)(l:List Int),l.length=2*n->(JS l).length=n
 |0,l,h=>by
  have:l=[]:=Va.1 Q0;subst this
  rfl
 |n+1,x::y::l,h=>by show(JS l).length+1=n+1;rw[Cq n l (by simp at h;omega)]
 |n+1,[x],h=>by simp at h;omega
theorem Jj1{w d k n0 G s A ws}(h:M3 w d G k s A n0 ws)c:Calls prog 63 #[pA d,.slice A n0 c] w (VK w d G k (AN s ws)):=by
 have H:=J6 h;clear h
 cases N:D6 ws (-1)with
 |none=>
  have HP:=J6 (show AN s ws=(s,.bad 3) by unfold AN V8;rw[N]);go_enter func63,ntmps63
  go_wp2_with (go_at_call 94;refine(H.numbers_bad c N).mono ?_;rintro e w1⟨rfl,E⟩)
  exact⟨rfl,D2 HP rfl (D1 Q0) (H.desk.to E)⟩
 |some l=>
  have HF:=J6 (VV N);obtain⟨q,hq⟩:=exq l.length;have HQ:=J6 hq;have i9:q<=100000:=by have:=HF.1;have:=H.len;have:=H.n;omega
  by_cases b5:q % 2=0
  ·cases he:s.e with
   |some m=>
    have HP:=J6 (show AN s ws=(s,.bad 6) by unfold AN V8 YZ;rw[N];simp only[hq,b5,he,if_true]);have t1:(((q:Int)% 2) != 0)=false:=KN Q0;go_enter func63,ntmps63
    go_wp2_with (first
     |(go_at_call 94;refine(H.numbers_ok c N).mono ?_;rw[HQ.out];rintro e w1⟨A1,c1,rfl,E,hC,a0⟩)
     |(go_at_call 95;refine(H.ready_old he E).mono ?_;rintro e w2⟨rfl,a2⟩))
    exact⟨rfl,D2 HP rfl (D1 Q0) (H.desk.to (E.trans (a2.mono E.size)))⟩
   |none=>
    have HP:=J6 (show AN s ws=({s with rows:=JS l},.ok [116,97,98,108,101]) by unfold AN V8 YZ;rw[N];simp only[hq,b5,he,if_true]);have t1:(((q:Int)% 2) != 0)=false:=KN Q0;obtain⟨qn,f1⟩:∃qn,q=2*qn:=⟨q/2,Q0⟩;have a1:=J6 f1;obtain⟨i0,e5,f3,f4,f5⟩:=W8 Wl;clear hq b5 f1;go_enter func63,ntmps63
    go_wp2_with (first
     |(go_at_call 94;refine(H.numbers_ok c N).mono ?_;rw[HQ.out];rintro e w1⟨A1,c1,rfl,E,hC,a0⟩;have d2:=J6 hC;have g5:=J6 a0;clear hC a0)
     |(go_at_call 95;refine(H.ready_new he E).mono ?_;rintro e w2⟨rfl,a2⟩;have h5:=J6 E;have b8:=J6 a2;have HB:=J6 (E.trans (a2.mono E.size));obtain⟨A0,c0,Z,h4,g9,g7⟩:=(((H.desk.n he).below HB)).parts;have b9:=J6 Z;unfold AC at Z;have z0:=(BC Z).1;have f0:=K0 Z 0;clear Z h4 g9 E a2))
    have h9:d<w.heap.size:=by obtain⟨-,v0,v1,v2,v3,v4,v5,v6,h⟩:=H.desk.blk;exact h.lt
    go_loopg [6] qn (fun gg s6 wx=>∃(k j J:Nat)(A9:Option Addr),k=2*j/\j<=qn/\gg=qn-j/\s6=I O k/\X4 (fun i=>i=d) w2 wx/\J7 wx d 29 #[.slice A9 j J,I O s.st,I O s.dy,I O s.p,I O s.tk,I O s.mo,.pointer none]/\X8 wx A9 j J 152 2 (X7 BX (JS (l.take k)))/\∀g,X5 A9=some g->w2.heap.size<=g)
    case atStart=>exact⟨0,0,0,none,rfl,U9 _,rfl,rfl,U1 w2 ⟨d,0,none⟩ _,Z0 b9 0 (.slice none 0 0),QY _ _ _ _,by simp[X5]⟩
    obtain⟨k,j,J,A9,a6,hj,rfl,rfl,hK,Z,hR,a0⟩:=hrel;obtain⟨HK,c5,HR,a7,d3⟩:=Xt9 hK Z hR a0 a6;have f8:=(BC Z).1;have h7:=K0 Z 0;clear hK Z hR a0
    by_cases i6:k<q
    ·have e9:=a1.out
     have i2:(0:Int)<=(k:Int):=Q0;have i3:(k:Int)<(q:Int):=Q0;obtain⟨C,c8⟩:∃C:Nat,C=k+1:=⟨_,rfl⟩;have j0:RowKit.wrap64 ((k:Int)+1)=(C:Int):=by unfold RowKit.wrap64;omega
     have j1:IntKind.i64.wrap ((k:Int)+1)=(C:Int):=by rw[YR];omega
     have i4:(C:Int)<(q:Int):=Q0;have i5:(0:Int)<=(C:Int):=Q0;have h3:k<l.length:=by have:=HQ.out;omega
     have e7:k+1<l.length:=by have:=HQ.out;omega
     obtain⟨x,HX⟩:∃x,Hid (l[k]=x):=⟨_,J6 rfl⟩;obtain⟨y,HY⟩:∃y,Hid (l[k+1]=y):=⟨_,J6 rfl⟩;obtain⟨u,D,d5,cx⟩:=d2.out k (YL x) (by rw[GP,JY h3,HX.out];rfl);obtain⟨h8,j3,d6,cy⟩:=d2.out (k+1) (YL y) (by rw[GP,JY e7,HY.out];rfl)
     cases d5.symm.trans d6;subst d5;have b1:u≠d:=fun h=>by have:=g5.out u rfl;omega
     have b2:u<w2.heap.size:=D0 (U5 w1 _ cx) b8.size;have yx:wr.cell? ⟨u,D+k,none⟩=some (I O x):=((HK.cell (p:=⟨u,D+k,none⟩) b2 b1).trans (b8.cell (p:=⟨u,D+k,none⟩) (U5 w1 _ cx))).trans cx;have yy:wr.cell? ⟨u,D+C,none⟩=some (I O y):=by rw[c8];exact((HK.cell (p:=⟨u,D+(k+1),none⟩) b2 b1).trans (b8.cell (p:=⟨u,D+(k+1),none⟩) (U5 w1 _ cy))).trans cy
     have g4:=J6 (show JS (l.take (k+2))=JS (l.take k)++[(x,y)] by subst a6;rw[<-HX.out,<-HY.out];exact Nb e7)
     have h6:=J6 c8;clear cx cy e9 a6 d6 z0 f0 c8;go_wp2_with fail
     have f6:wr.drew.cell? ⟨d,0,none⟩=some (.slice A9 j J):=f8;refine AE [21] (fun W=>W.cell? ⟨d,0,none⟩=some (.slice A9 j J)) (fun W=>W.cell? ⟨u,D+k,none⟩=some (I O x)/\W.cell? ⟨u,D+C,none⟩=some (I O y)) f6 ⟨yx,yy⟩ (fun hS hU=>?_);refine tP 0 ?_;refine tP 1 ?_;refine tP 2 ?_;refine tP 3 ?_;refine tP 4 ?_;refine tN 5 ?_;refine tP 6 ?_;refine tP 7 ?_;refine tP 8 ?_;refine tP 9 ?_;refine tP 10 ?_;refine tP 11 ?_;refine tP 12 ?_;refine tP 13 ?_;refine tP 14 ?_;refine tP 15 ?_;refine oN 16 fun K1 d7=>?_
     go_simp;have a3:Bz wr (wr.alloc (.cells #[I O x,I O y] 152)).drew:=Z2 ((J9 _ wr).alloc Q2 _);have c7:u<wr.heap.size:=D0 b2 HK.size;have a9:(wr.alloc (.cells #[I O x,I O y] 152)).drew.cell? ⟨u,D+k,none⟩=some (I O x)/\(wr.alloc (.cells #[I O x,I O y] 152)).drew.cell? ⟨u,D+C,none⟩=some (I O y):=⟨(a3.cell (p:=⟨u,D+k,none⟩) c7).trans yx,(a3.cell (p:=⟨u,D+C,none⟩) c7).trans yy⟩;have e1:(wr.alloc (.cells #[I O x,I O y] 152)).drew.cell? ⟨d,0,none⟩=some (.slice A9 j J):=(a3.cell (p:=⟨d,0,none⟩) c5.lt).trans f8;refine d7 _ _ (fun _=>e1) a9 ?_;clear d7;have i1:j<=100000:=by have:=a1.out;omega
     refine oN 17 fun K2 d8=>?_
     refine(X0 Q8).mpr ?_;refine wp_append_lies _ _ _ 24 rfl 0 152 i0 _ 2 16 underlying24 e5 f3 f4 f5 rfl Q0 (.slice A9 j J) j _ rfl (CC HR a3) ⟨wr.heap.size,0,none⟩ 1 1 [I O x,I O y] rfl rfl (XF (cs:= #[I O x,I O y]) (t:=152) (fr:=(0,0)) (QN wr _)) J0 Q0 Q9 Q0 Q3 (wr.heap.size+1) Q3 ?_;intro gg cap w8 e8 e4 c6 i7;have a5:=e4;rw[C8]at a5 c6;have d1:∀i,i<w2.heap.size->some i≠X5 A9:=fun i hi e=>by have:=a7.out i e.symm;omega
     have g8:d<w2.heap.size:=b9.lt;have b0:=TE (c5.keep a3) a5 (d1 d g8);have f7:=(BC b0).1;have g6:=K0 b0 0;have d0:w8.heap[u]?=(wr.alloc (.cells #[I O x,I O y] 152)).drew.heap[u]?:=a5.block u (D0 c7 a3.size) (d1 u b2);have a8:w8.cell? ⟨u,D+k,none⟩=some (I O x)/\w8.cell? ⟨u,D+C,none⟩=some (I O y):=⟨(SR (a:=⟨u,D+k,none⟩) d0).trans a9.1,(SR (a:=⟨u,D+C,none⟩) d0).trans a9.2⟩;refine d8 _ _ (fun _=>f7) a8 ?_;obtain⟨g2,a4,f9,g0⟩:=Xt8 e8 a5 c6 b0;clear d8 e8 e4 a5 c6 b0 d0 a9 e1;refine tP 18 ?_;refine tP 19 ?_;refine tP 20 ?_;refine oN 21 fun K3 d9=>?_
     go_simp;have e2:(w8.setCell ⟨d,0,none⟩ (.slice (some ⟨gg,0,none⟩) (j+1) cap)).cell? ⟨u,D+k,none⟩=some (I O x)/\(w8.setCell ⟨d,0,none⟩ (.slice (some ⟨gg,0,none⟩) (j+1) cap)).cell? ⟨u,D+C,none⟩=some (I O y):=⟨XZ a8.1 b1,XZ a8.2 b1⟩;refine d9 _ _ (fun e=>absurd e Q1) e2 ?_;clear d9 e2 a8 f7 g6 hS hU e5 f3 f4 f5 f6;refine YW ?_ Q4 _;have j2:IntKind.i64.wrap ((k:Int)+2)=((k+2:Nat):Int):=by rw[YR];omega
     go_wp2
     go_roundg (qn-(j+1))
     case measure=>have:=a1.out;have:=d3.out;omega
     have e9:=a1.out;have a6:=d3.out;have C:=HK.then_ a3;have k2:X4 (fun i=>i=d) w2 w8:=⟨a4.os.trans C.os,a4.tape.trans C.tape,a4.output.trans C.output,U4 C.size a4.size,fun i hi N=>(a4.block i (D0 hi C.size) (d1 i hi)).trans (C.block i hi N)⟩;have h0:w2.heap.size<=gg:=by
      obtain h1|h1:=f9.out
      ·exact a7 _ h1
      have:=HK.size;omega
     refine⟨k+2,j+1,cap,some ⟨gg,0,none⟩,Q0,Q0,rfl,rfl,T4 k2 0 _,Z0 g0 0 _,?_,fun g hg=>by cases hg;exact h0⟩;rw[g4.out,AQ];exact RB (xs:=X7 BX (JS (l.take k))++BX (x,y)) g2 (U1 w8 ⟨d,0,none⟩ _) (fun g hg e=>by cases hg;have e:gg=d:=e;omega)
    have h2:k=q:=by have:=a1.out;omega
    have i8:¬(k:Int)<(q:Int):=Q0;have f2:l.take k=l:=M4 (by have:=HQ.out;omega);have e6:j=qn:=by have:=a1.out;omega
    obtain⟨d4,g3⟩:=Xt6 (show(JS l).length=j by rw[e6];exact Cq qn l (by rw[HQ.out];exact a1)) (show X8 wr A9 j J 152 2 (X7 BX (JS l)) by have:=HR.out;rw[f2]at this;exact this);clear f2 e6 a6 h2;go_wp2;go_ret;refine D2 HP rfl (by show _<=10000000000;decide) (Yg (s':={s with rows:=JS l}) HB g7 HK he (A:=A9) (c:=J) ?_ ?_ (fun i hi=>⟨fun e=>?_,.inr (U4 HB.size (a7 i hi))⟩))
    ·unfold AC
     show J7 wr d _ #[.slice A9 (JS l).length J,_,_,_,_,_,_];rw[d4.out];exact c5
    ·show X8 wr A9 (JS l).length J _ 2 _
     rw[d4.out];exact g3
    have:=a7.out i hi;have:=b9.lt;omega
  have HP:=J6 (show AN s ws=(s,.bad 3) by unfold AN V8;rw[N];simp only[hq,b5,if_false]);have t1:(((q:Int)% 2) != 0)=true:=XQ Q0;go_enter func63,ntmps63
  go_wp2_with (first
   |(go_at_call 94;refine(H.numbers_ok c N).mono ?_;rw[HQ.out];rintro e w1⟨A1,c1,rfl,E,hC,a0⟩;have HB:=J6 E;clear E hC a0)
   |(go_at_call 23;refine(TA 3 _ (H.globs HB)).mono ?_;rintro e w2⟨e3,a2⟩;unfold AP at e3;subst e3))
  exact⟨rfl,D2 HP rfl (D1 Q0) (H.desk.to (HB.trans (a2.mono HB.size)))⟩
theorem Jj2:∀i,i<18->∀(args:Array Value)(w:World),(callFunc (Zi.getD i 0) args).run prog w=.ok (.enter (Zi.getD i 0) args) w
 |0,_=>R0 func47 Q4 rfl
 |1,_=>R0 func48 Q4 rfl
 |2,_=>R0 func49 Q4 rfl
 |3,_=>R0 func50 Q4 rfl
 |4,_=>R0 func51 Q4 rfl
 |5,_=>R0 func52 Q4 rfl
 |6,_=>R0 func53 Q4 rfl
 |7,_=>R0 func54 Q4 rfl
 |8,_=>R0 func55 Q4 rfl
 |9,_=>R0 func56 Q4 rfl
 |10,_=>R0 func57 Q4 rfl
 |11,_=>R0 func58 Q4 rfl
 |12,_=>R0 func59 Q4 rfl
 |13,_=>R0 func60 Q4 rfl
 |14,_=>R0 func61 Q4 rfl
 |15,_=>R0 func62 Q4 rfl
 |16,_=>R0 func63 Q4 rfl
 |17,_=>R0 func64 Q4 rfl
 |n+18,h=>Q0
theorem Xg0{w:World}{d k n0:Nat}{G:Nat->Prop}{s:DS}{A:Option Addr}{ws:List ByteArray}(h:M3 w d G k s A n0 ws)(c:Nat):∀i,i<18->Calls prog (Zi.getD i 0) #[pA d,.slice A n0 c] w (VK w d G k ((CR.getD i VX) s ws))
 |0,_=>Qt1 h c
 |1,_=>Ju6 h c
 |2,_=>Ji9 h c
 |3,_=>Xf7 h c
 |4,_=>Qz5 h c
 |5,_=>Ji8 h c
 |6,_=>Jt8 h c
 |7,_=>Ju0 h c
 |8,_=>Jt9 h c
 |9,_=>Ju7 h c
 |10,_=>Qz3 h c
 |11,_=>Ji6 h c
 |12,_=>Ji5 h c
 |13,_=>Ju1 h c
 |14,_=>Ju3 h c
 |15,_=>Jj0 h c
 |16,_=>Jj1 h c
 |17,_=>Ju2 h c
 |n+18,h=>Q0
theorem Kp(p:Nat->Bool)(s:ByteArray):∀(f pos:Nat)(st:Option Nat)(acc:List (Nat×Nat)),(Lib.spansFromP p s f pos st acc).1.length<=acc.length+f
 |0,_,_,acc=>X3 _
 |f+1,pos,st,acc=>by
  unfold Lib.spansFromP
  split
  ·split
   ·cases st with
    |some a=>have h:=Kp p s f (pos+(Utf8.decode s pos).2) none (acc++[(a,pos)]);rw[B6]at h;simp at h|-;omega
    |none=>have h:=Kp p s f (pos+(Utf8.decode s pos).2) none acc;simp at h|-;omega
   cases st with
   |some a=>have h:=Kp p s f (pos+(Utf8.decode s pos).2) (some a) acc;simp at h|-;omega
   |none=>have h:=Kp p s f (pos+(Utf8.decode s pos).2) (some pos) acc;simp at h|-;omega
  simp
theorem Ts p s:(Lib.goFieldsP p s).length<=s.size+1:=by
 unfold Lib.goFieldsP Lib.spansOfP;rw[UJ];have h:=Kp p s s.size 0 none [];rw[List.length_nil,KC]at h;unfold Lib.closeSpans
 split
 ·rw[B6];simp;exact h
 omega
theorem Nc p s:∀x∈Lib.goFieldsP p s,x.size<=s.size:=fun x i=>by obtain⟨y,-,rfl⟩:=Y4.1 i;rw[ByteArray.size_extract];omega
theorem Jj3 w:PredAtRunes prog 21 #[] ZW w:=fun W x j i=>by
 show Calls prog 21 #[.int .i32 x] W fun e w'=>e=.returned (.bool (ZW x))/\∃q,w'=W.drewN q
 have u:((x:Int) ==32)=ZW x:=by
  unfold ZW
  by_cases h:x=32
  ·subst h;rfl
  rw[Z3 Q0];exact(Xa.2 h).symm
 go_enter func21,ntmps21
 go_wp2;go_ret;exact⟨rfl,0,rfl⟩
theorem Jj4 t(ht:t.size<=4294967296)w:Calls prog 20 #[.string t,.func (.func 21) #[] #[]] w fun e w'=>∃A,e=.returned (.slice (sA A) (Lib.goFieldsP ZW t).length (Lib.goFieldsP ZW t).length)/\QB w' (sA A) ((Lib.goFieldsP ZW t).map Value.string)/\Bz w w':=by refine(Any.strings_FieldsFunc_runes (P:=prog) (ρ:=laysD229_ren) laysD229 21 #[] (R0 func21 Q4 rfl) ZW t w ht (Jj3 w) Q4 Q4).mono ?_;rintro e w'⟨A,rfl,-,h2,i⟩;exact⟨A,rfl,QB.of_row (Ct h2),i⟩
