/- Contracts and walks that the law's proof needs. -/
import Derived.WalkKit
import Derived.WalkLawsBesides
import Derived.WalkSpells
import Derived.StillTailTactics
import Derived.Deep.LoopGhost
import Derived.Deep.QuietTactic
import Derived.BigQuiet
import Derived.Deep.DeepCutAuto
import Derived.Deep.CutBlock
import Derived.Test.YtnlngicnfegjgaaGreatZf53
import Derived.Test.YtnlngicnfegjgaaGreatZf52
import Derived.Test.YtnlngicnfegjgaaGreatZf45
import Derived.Test.YtnlngicnfegjgaaGreatZf3
set_option linter.unusedVariables false
set_option maxRecDepth 100000
set_option maxHeartbeats 8000000
namespace Go.Proofs.YtnlngicnfegjgaaGreat
open Go.ChangeMaps Go.RowKit
theorem Kr6 {w0 w:World} {D e L S:Nat} {A:Option Addr} {cap:Nat} {l:List Int} {c:Qn0} {F:Nat→Prop} {m:ZX} {lots side:Int→Int} {since:Int} {hands:Bool} {k:Nat} (h:Jd8 w0 w D e L S A cap l c F m lots side since hands k) (hk:k≤200) (q oi os ok op oq:Int):
  Calls Tryz.prog 6 #[.pointer (some ⟨D,0,none⟩),.agg #[.int .i64 q,.int .i64 oi,.int .i64 os,.int .i64 ok,.int .i64 op,.int .i64 oq]] w fun ev w'=>ev= .returned (.bool true)∧ ∃F' m' lots' side' since' hands',Jd8 w0 w' D e L S A cap l c F' m' lots' side' since' hands' (k+1):=by
 have HK:=QQ h
 have hmk:=h.plain.ok_
 have hin:Qj4 m:=hmk.in_ ⟨h.end_.now,by have:=h.now;omega⟩
 have hin1:Qj4 (JY m):=hmk.next.in_ ⟨by have:=h.end_.now;show 0≤m.now+1;omega,by have:=h.now;show m.now+1≤1000000000000;omega⟩
 have HIn:=QQ hin
 have HIn1:=QQ hin1
 have HD:=QQ (h.does #[.int .i64 q,.int .i64 oi,.int .i64 os,.int .i64 ok,.int .i64 op,.int .i64 oq])
 clear h hin hin1 hmk
 obtain⟨w1,ew1⟩: ∃W,w.alloc (.cells #[.int .i64 q,.int .i64 oi,.int .i64 os,.int .i64 ok,.int .i64 op,.int .i64 oq] 31)=W:=⟨_,rfl⟩
 obtain⟨X,eX⟩: ∃g,w.heap.size=g:=⟨_,rfl⟩
 rw[ew1,eX]at HD
 obtain⟨c0,-⟩:=HD.out.day.cells
 go_enter Tryz.func6,Tryz.ntmps6
 go_upto_region 1 with fail
 try rw[ew1]
 try rw[eX]
 clear ew1 eX
 go_wp2_with fail
 refine(Jd1 HD.out.day.eng).mono ?_
 rintro ev w2 ⟨rfl,hb2⟩
 have HD2:=QQ (HD.out.below hb2)
 clear c0 hb2
 go_wp2_with fail
 refine(Ki4 HD2.out.day.eng).mono ?_
 rintro ev w3 ⟨rfl,hb3⟩
 have HD3:=QQ (HD2.out.below hb3)
 clear hb3 HD HD2
 obtain⟨x0,x1,x2,x3,x4,x5⟩:=Xh8 HD3.out.box
 have HLt:=QQ HK.out.lts
 go_upto_block 0 with fail
 by_cases hdf:q=0∨q=1∨q=2∨q=3∨q=4
 case neg=>
  as_aux_lemma=>
   have d0:=UX (show q≠0 by omega);have d1:=UX (show q≠1 by omega);have d2:=UX (show q≠2 by omega);have d3:=UX (show q≠3 by omega);have d4:=UX (show q≠4 by omega);clear hdf;go_wp2_with fail
   go_ret;exact⟨rfl,_,_,_,_,_,_,HK.out.same HD3.out⟩
 go_cut [9] (fun s9 wx=>Kz1 w0 wx D e L S A cap l c X #[.int .i64 q,.int .i64 oi,.int .i64 os,.int .i64 ok,.int .i64 op,.int .i64 oq] q m since hands s9)
 case first=>
  by_cases c0:q=0
  ·as_aux_lemma=>
    have d0:=J3 c0;have HQ:=QQ c0;clear c0;have hO:=QJ.new w3 29 #[.int .i64 oi,.int .i64 os,.int .i64 ok,.int .i64 op,.int .i64 oq];have HD4:=QQ (HD3.out.below ((Below.refl _ _).alloc (Nat.le_refl _) (.cells #[.int .i64 oi,.int .i64 os,.int .i64 ok,.int .i64 op,.int .i64 oq] 29)));obtain⟨w4,ew4⟩: ∃W,w3.alloc (.cells #[.int .i64 oi,.int .i64 os,.int .i64 ok,.int .i64 op,.int .i64 oq] 29)=W:=⟨_,rfl⟩;obtain⟨O,eO⟩: ∃g,w3.heap.size=g:=⟨_,rfl⟩;rw[ew4]at hO HD4;rw[eO]at hO;go_upto_region 9 with fail
    have HO0:=QQ (Nat.le_of_eq eO);have Hb34:Hid (Below w3.heap.size w3 w4):=QQ (by rw[←ew4];exact(Below.refl _ _).alloc (Nat.le_refl _) _);clear ew4 eO;obtain⟨y0,y1,y2,y3,y4⟩:=Xr6 hO;have f0:=QJ.frozen hO 0;have f1:=QJ.frozen hO 1;have f2:=QJ.frozen hO 2;have hP1:=QQ (fun W=>Qa1 oi 500 W (by omega) (by omega));have hP2:=QQ (fun W=>Qa1 os 2 W (by omega) (by omega));have hP3:=QQ (fun W=>Qa1 ok 4 W (by omega) (by omega));have hPb:=QQ (And.intro (And.intro (Z3 oi 500 (by omega)) (Qn7 oi 500 (by omega))) (And.intro (And.intro (Z3 os 2 (by omega)) (Qn7 os 2 (by omega))) (And.intro (Z3 ok 4 (by omega)) (Qn7 ok 4 (by omega)))));obtain⟨p1,e1⟩: ∃x,pk oi 500=x:=⟨_,rfl⟩;obtain⟨p2,e2⟩: ∃x,pk os 2=x:=⟨_,rfl⟩;obtain⟨p3,e3⟩: ∃x,pk ok 4=x:=⟨_,rfl⟩;rw[e1]at hP1 hPb;rw[e2]at hP2 hPb;rw[e3]at hP3 hPb;clear e1 e2 e3;have v1:IntKind.i64.wrap (1+p1)=1+p1:=by have:=hPb.out;rw[IntWalk.i64_left];exact IntWalk.wrap64_in _ (by omega)
    have v2:IntKind.i64.wrap (1+p2)=1+p2:=by have:=hPb.out;rw[IntWalk.i64_left];exact IntWalk.wrap64_in _ (by omega)
    have v3:IntKind.i64.wrap (1+p3)=1+p3:=by have:=hPb.out;rw[IntWalk.i64_left];exact IntWalk.wrap64_in _ (by omega)
    refine I8 [13,15,17] (fun W=>W.cell? ⟨O,0,none⟩=some (.int .i64 oi)∧W.cell? ⟨O,1,none⟩=some (.int .i64 os)∧W.cell? ⟨O,2,none⟩=some (.int .i64 ok)) (fun _=>True) ⟨y0,y1,y2⟩ trivial (fun hS _=> ?_);refine tP 0 (.pointer (some ⟨O,0,none⟩)) ?_;refine tN 1 (.int .i64 oi) ?_;refine tP 4 (.pointer (some ⟨O,1,none⟩)) ?_;refine tN 5 (.int .i64 os) ?_;refine tP 8 (.pointer (some ⟨O,2,none⟩)) ?_;refine tN 9 (.int .i64 ok) ?_;refine oN 2 fun K1 hK1=> ?_
    go_simp
    go_at_call 11
    refine(hP1.out _).mono ?_;rintro ev w' ⟨rfl,rfl⟩;refine hK1 _ _ (fun _=>hS) trivial ?_;clear hK1;refine tP 3 (.int .i64 (1+p1)) ?_;refine tP 12 (.pointer (some ⟨O,0,none⟩)) ?_;refine oN 6 fun K1 hK1=> ?_
    go_simp
    go_at_call 11
    refine(hP2.out _).mono ?_;rintro ev w' ⟨rfl,rfl⟩;refine hK1 _ _ (fun _=>hS) trivial ?_;clear hK1;refine tP 7 (.int .i64 (1+p2)) ?_;refine oN 10 fun K1 hK1=> ?_
    go_simp
    go_at_call 11
    refine(hP3.out _).mono ?_;rintro ev w' ⟨rfl,rfl⟩;refine hK1 _ _ (fun _=>hS) trivial ?_;clear hK1;refine tP 11 (.int .i64 (1+p3)) ?_;refine oN 13 fun K1 hK1=> ?_
    go_simp;refine hK1 _ _ (fun e=>absurd e (by decide)) trivial ?_;clear hK1;refine tP 14 (.pointer (some ⟨O,1,none⟩)) ?_;refine oN 15 fun K1 hK1=> ?_
    go_simp;refine hK1 _ _ (fun e=>absurd e (by decide)) trivial ?_;clear hK1;refine tP 16 (.pointer (some ⟨O,2,none⟩)) ?_;refine oN 17 fun K1 hK1=> ?_
    go_simp;refine hK1 _ _ (fun e=>absurd e (by decide)) trivial ?_;clear hK1 hS;refine Qb7 ?_ (by kernel_rfl) _;have hO5:=QJ.drew (QJ.set_ (QJ.set_ (QJ.set_ hO 0 (.int .i64 (1+p1))) 1 (.int .i64 (1+p2))) 2 (.int .i64 (1+p3)));have hb5:Below w3.heap.size w3 (((w4.setCell ⟨O,0,none⟩ (.int .i64 (1+p1))).setCell ⟨O,1,none⟩ (.int .i64 (1+p2))).setCell ⟨O,2,none⟩ (.int .i64 (1+p3))).drew:=Below.drew (((Hb34.out.setCell (p:=⟨O,0,none⟩) HO0.out _).setCell (p:=⟨O,1,none⟩) HO0.out _).setCell (p:=⟨O,2,none⟩) HO0.out _);have HD5:=QQ (HD3.out.below hb5);obtain⟨w5,ew5⟩: ∃W,(((w4.setCell ⟨O,0,none⟩ (.int .i64 (1+p1))).setCell ⟨O,1,none⟩ (.int .i64 (1+p2))).setCell ⟨O,2,none⟩ (.int .i64 (1+p3))).drew=W:=⟨_,rfl⟩;rw[ew5]at hO5 HD5 hb5
    try rw[ew5]
    have hO5:QJ w5 O 29 #[.int .i64 (1+p1),.int .i64 (1+p2),.int .i64 (1+p3),.int .i64 op,.int .i64 oq]:=hO5;clear hO ew5 y0 y1 y2 y3 y4 f0 f1 f2 v1 v2 v3 HD4 hP1 hP2 hP3 Hb34;obtain⟨-,-,-,y3,y4⟩:=Xr6 hO5;obtain⟨-,-,-,-,k4,-⟩:=HD5.out.day.cells;have f3:=QJ.frozen hO5 3;have f4:=QJ.frozen hO5 4;have hpr:1≤c.pr∧c.pr≤1000000:=HK.out.c0.an;have hP4:=QQ (fun W=>Qa1 oq 30 W (by omega) (by omega));have hP5:=QQ (fun W=>Qa1 op 40 W (by omega) (by omega));have hPc:=QQ (And.intro (And.intro (Z3 oq 30 (by omega)) (Qn7 oq 30 (by omega))) (And.intro (Z3 op 40 (by omega)) (Qn7 op 40 (by omega))));obtain⟨p4,e4⟩: ∃x,pk oq 30=x:=⟨_,rfl⟩;obtain⟨p5,e5⟩: ∃x,pk op 40=x:=⟨_,rfl⟩;rw[e4]at hP4 hPc;rw[e5]at hP5 hPc;clear e4 e5;obtain⟨cp,ecp⟩: ∃x,c.pr=x:=⟨_,rfl⟩;rw[ecp]at k4 hpr;have v4:IntKind.i64.wrap (1+p4)=1+p4:=by have:=hPc.out;rw[IntWalk.i64_left];exact IntWalk.wrap64_in _ (by omega)
    have v5:IntKind.i64.wrap (cp-20)=cp-20:=by rw[IntWalk.i64_left];exact IntWalk.wrap64_in _ (by omega)
    have v6:IntKind.i64.wrap (cp-20+p5)=cp-20+p5:=by have:=hPc.out;rw[IntWalk.i64_left];exact IntWalk.wrap64_in _ (by omega)
    obtain⟨px,epx⟩: ∃x,max 1 (cp-20+p5)=x:=⟨_,rfl⟩;have hpx:1≤px∧px≤1000000000:=by have:=hPc.out;omega
    have HPx:=QQ hpx;have HO5:=QQ hO5;have Hb5:=QQ hb5;have hDO:D≠O:=by have h1:=QJ.lt HD3.out.day.box;have h2:=HO0.out;omega
    have HU1:=QQ (fun v:Value=>((QK.set_ w5 ⟨O,4,none⟩ v).cell (p:=⟨D,4,none⟩) (QJ.lt HD5.out.day.box) hDO).trans k4);have HU2:=QQ (fun v u:Value=>((QK.set_ (w5.setCell ⟨O,4,none⟩ v) ⟨O,3,none⟩ u).cell (p:=⟨D,4,none⟩) (by have:=(QK.set_ w5 ⟨O,4,none⟩ v).size;have:=QJ.lt HD5.out.day.box;show D<_;omega) hDO).trans (HU1.out v));clear hpx hO5 hb5 ecp hDO;go_upto_region 10 with fail
    go_cut [] (fun wx=>wx=((w5.setCell ⟨O,4,none⟩ (.int .i64 (1+p4))).setCell ⟨O,3,none⟩ (.int .i64 px)).drew)
    case first=>
     by_cases hm:1<cp-20+p5
     ·as_aux_lemma=>
       refine I8 [16,18] (fun W=>W.cell? ⟨O,3,none⟩=some (.int .i64 op)∧W.cell? ⟨O,4,none⟩=some (.int .i64 oq)) (fun W=>W.cell? ⟨D,4,none⟩=some (.int .i64 cp)) ⟨y3,y4⟩ k4 (fun hS hU=> ?_);refine tP 0 (.pointer (some ⟨O,4,none⟩)) ?_;refine tN 1 (.int .i64 oq) ?_;refine tP 4 (.pointer (some ⟨D,0,none⟩)) ?_;refine tP 5 (.pointer (some ⟨D,0,none⟩)) ?_;refine tP 6 (.pointer (some ⟨D,1,none⟩)) ?_;refine tP 7 (.pointer (some ⟨D,4,none⟩)) ?_;refine tP 8 (.int .i64 cp) ?_;refine tP 9 (.int .i64 (cp-20)) ?_;refine tP 10 (.pointer (some ⟨O,3,none⟩)) ?_;refine tN 11 (.int .i64 op) ?_;refine oN 2 fun K1 hK1=> ?_
       go_simp
       go_at_call 11
       refine(hP4.out _).mono ?_;rintro ev w' ⟨rfl,rfl⟩;refine hK1 _ _ (fun _=>hS) hU ?_;clear hK1;refine tP 3 (.int .i64 (1+p4)) ?_;refine tP 15 (.pointer (some ⟨O,4,none⟩)) ?_;refine oN 12 fun K1 hK1=> ?_
       go_simp
       go_at_call 11
       refine(hP5.out _).mono ?_;rintro ev w' ⟨rfl,rfl⟩;refine hK1 _ _ (fun _=>hS) hU ?_;clear hK1;refine tP 13 (.int .i64 (cp-20+p5)) ?_;refine tP 14 (.int .i64 (cp-20+p5)) ?_;refine oN 16 fun K1 hK1=> ?_
       go_simp;refine hK1 _ _ (fun e=>absurd e (by decide)) (HU1.out _) ?_;clear hK1 hU;have hU:=HU1.out (.int .i64 (1+p4));have hU:=show(w5.setCell ⟨O,4,none⟩ (.int .i64 (1+p4))).drew.cell? ⟨D,4,none⟩=some (.int .i64 cp)from hU
       refine tP 17 (.pointer (some ⟨O,3,none⟩)) ?_;refine oN 18 fun K1 hK1=> ?_
       go_simp;refine hK1 _ _ (fun e=>absurd e (by decide)) (HU2.out _ _) ?_;clear hK1 hS hU;refine Qb7 ?_ (by kernel_rfl) _;go_wp2_with fail
       go_meet;rw[←epx,show max 1 (cp-20+p5)=cp-20+p5 by omega]
     ·as_aux_lemma=>
       refine I8 [16,18] (fun W=>W.cell? ⟨O,3,none⟩=some (.int .i64 op)∧W.cell? ⟨O,4,none⟩=some (.int .i64 oq)) (fun W=>W.cell? ⟨D,4,none⟩=some (.int .i64 cp)) ⟨y3,y4⟩ k4 (fun hS hU=> ?_);refine tP 0 (.pointer (some ⟨O,4,none⟩)) ?_;refine tN 1 (.int .i64 oq) ?_;refine tP 4 (.pointer (some ⟨D,0,none⟩)) ?_;refine tP 5 (.pointer (some ⟨D,0,none⟩)) ?_;refine tP 6 (.pointer (some ⟨D,1,none⟩)) ?_;refine tP 7 (.pointer (some ⟨D,4,none⟩)) ?_;refine tP 8 (.int .i64 cp) ?_;refine tP 9 (.int .i64 (cp-20)) ?_;refine tP 10 (.pointer (some ⟨O,3,none⟩)) ?_;refine tN 11 (.int .i64 op) ?_;refine oN 2 fun K1 hK1=> ?_
       go_simp
       go_at_call 11
       refine(hP4.out _).mono ?_;rintro ev w' ⟨rfl,rfl⟩;refine hK1 _ _ (fun _=>hS) hU ?_;clear hK1;refine tP 3 (.int .i64 (1+p4)) ?_;refine tP 15 (.pointer (some ⟨O,4,none⟩)) ?_;refine oN 12 fun K1 hK1=> ?_
       go_simp
       go_at_call 11
       refine(hP5.out _).mono ?_;rintro ev w' ⟨rfl,rfl⟩;refine hK1 _ _ (fun _=>hS) hU ?_;clear hK1;refine tP 13 (.int .i64 (cp-20+p5)) ?_;refine tP 14 (.int .i64 1) ?_;refine oN 16 fun K1 hK1=> ?_
       go_simp;refine hK1 _ _ (fun e=>absurd e (by decide)) (HU1.out _) ?_;clear hK1 hU;have hU:=HU1.out (.int .i64 (1+p4));have hU:=show(w5.setCell ⟨O,4,none⟩ (.int .i64 (1+p4))).drew.cell? ⟨D,4,none⟩=some (.int .i64 cp)from hU
       refine tP 17 (.pointer (some ⟨O,3,none⟩)) ?_;refine oN 18 fun K1 hK1=> ?_
       go_simp;refine hK1 _ _ (fun e=>absurd e (by decide)) (HU2.out _ _) ?_;clear hK1 hS hU;refine Qb7 ?_ (by kernel_rfl) _;go_wp2_with fail
       go_meet;rw[←epx,show max 1 (cp-20+p5)=1 by omega]
    case rest=>
     as_aux_lemma=>
      have hO6:=QJ.drew (QJ.set_ (QJ.set_ HO5.out 4 (.int .i64 (1+p4))) 3 (.int .i64 px));have hb6:Below w3.heap.size w3 ((w5.setCell ⟨O,4,none⟩ (.int .i64 (1+p4))).setCell ⟨O,3,none⟩ (.int .i64 px)).drew:=Below.drew ((Hb5.out.setCell (p:=⟨O,4,none⟩) HO0.out _).setCell (p:=⟨O,3,none⟩) HO0.out _);have HD6:=QQ (HD3.out.below hb6);rw[←hcut]at hO6 HD6;clear hcut hb6 HU1 HU2 Hb5 y3 y4 k4 f3 f4 v4 v5 v6 hP4 hP5 epx hpr HO5 HD5;have hO6:QJ wc O 29 #[.int .i64 (1+p1),.int .i64 (1+p2),.int .i64 (1+p3),.int .i64 px,.int .i64 (1+p4)]:=hO6;obtain⟨y0,y1,y2,y3,y4⟩:=Xr6 hO6;have hfo:Qe5 ⟨1+p1,1+p2,1+p3,px,1+p4⟩:=by
       have a1:=hPb.out;have a2:=hPc.out;have a3:=HPx.out;unfold Qe5 U1;dsimp only;omega
      have HFo:=QQ hfo;have HO6:=QQ hO6;clear hfo hO6;go_wp2_with fail
      refine(Jd7 HD6.out.day.eng HIn.out ⟨1+p1,1+p2,1+p3,px,1+p4⟩ HFo.out).mono ?_;rintro ev w7 ht;have hkp:QK F wc w7:=by obtain⟨_,_,_,_,_,_,_,F',_,hs,_⟩:=ht;exact hs.1
      have hO7:=QJ.keeps HO6.out hkp (fun hF=>by have h1:=HD3.out.day.eng.lt hF;have h2:=HO0.out;omega);obtain⟨A1,c1,Fs,F1,rfl,hP,hR,hd7⟩:=HD6.out.fillsE ht (Qu0 m _).1;have HP:=QQ hP;have HR:=QQ hR;have HD7:=QQ hd7;have HO7:=QQ hO7;clear ht hkp hO7 hP hR hd7 HO6 y0 y1 y2 y3 y4;have hst:=U4.order HK.out.plain HK.out.end_ HLt.out HK.out.time HFo.out (by have:=hPc.out;show 1+p4≤30;omega) HD7.out.day.eng.lists;have HST:=QQ hst;obtain⟨nf,hnf⟩: ∃n,Fs.length=n:=⟨_,rfl⟩;rw[hnf];have Hnf:=QQ hnf;clear hst hnf
      by_cases e0:V0 m ⟨1+p1,1+p2,1+p3,px,1+p4⟩=0
      ·as_aux_lemma=>
        unfold Jv4 Xd4 at HST;rw[if_pos e0,if_pos e0]at HST;rw[e0,UV];clear e0;obtain⟨y0,y1,-,-,y4⟩:=Xr6 HO7.out;obtain⟨-,-,-,-,-,-,-,k7,k8,-⟩:=HD7.out.day.cells;go_upto_region 13 with fail
        have hLO:O≠L:=by have h1:=HD3.out.day.lots_.lt;have h2:=HO0.out;omega
        have hSO:O≠S:=by have h1:=HD3.out.day.side_.lt;have h2:=HO0.out;omega
        obtain⟨v0,st,wa,hme,hta,hes⟩:=(HD7.out.day.lots_.of_block (w':=w7.drew) rfl).entry (1+p1);obtain⟨wb,hsb,hIb,htb⟩:=hes wa (1+p4) rfl;have hta2:=hta.trans_ htb;obtain⟨v1,st1,wd,hmd,htd,hed⟩:=(HD7.out.day.side_.of_block (w':=wb) (hta2.block S (fun e=>HD7.out.day.ls e.symm))).entry (1+p1);obtain⟨we,hse,hIe,hte⟩:=hed wd (1+p2) rfl;have HDa:=(HD7.out.below (Below.drew (Below.refl _ _))).lotsTo hta2 hIb;have HDe:=QQ (HDa.sideTo (htd.trans_ hte) hIe);have HRe:=QQ (((HR.out.below (Below.drew (Below.refl _ _))).turnL hta2).turnS (htd.trans_ hte));have hU0: ∀ {W W':World} {r:Nat},IV W W' r→D≠r→O≠r→(W.cell? ⟨D,7,none⟩=some (.map (some L))∧W.cell? ⟨D,8,none⟩=some (.map (some S))∧W.cell? ⟨O,0,none⟩=some (.int .i64 (1+p1))∧W.cell? ⟨O,1,none⟩=some (.int .i64 (1+p2))∧W.cell? ⟨O,4,none⟩=some (.int .i64 (1+p4)))→
          (W'.cell? ⟨D,7,none⟩=some (.map (some L))∧W'.cell? ⟨D,8,none⟩=some (.map (some S))∧W'.cell? ⟨O,0,none⟩=some (.int .i64 (1+p1))∧W'.cell? ⟨O,1,none⟩=some (.int .i64 (1+p2))∧W'.cell? ⟨O,4,none⟩=some (.int .i64 (1+p4))):=
         fun ht h1 h2 ⟨a,b,c,d,e⟩=>⟨(ht.cell (p:=⟨D,7,none⟩) h1).trans a,(ht.cell (p:=⟨D,8,none⟩) h1).trans b,(ht.cell (p:=⟨O,0,none⟩) h2).trans c,(ht.cell (p:=⟨O,1,none⟩) h2).trans d,(ht.cell (p:=⟨O,4,none⟩) h2).trans e⟩
        have HUa:=QQ (hU0 hta HD7.out.day.dl hLO ⟨k7,k8,y0,y1,y4⟩);have HUb:=QQ (hU0 htb HD7.out.day.dl hLO HUa.out);have HUd:=QQ (hU0 htd HD7.out.day.ds hSO HUb.out);have HUe:=QQ (hU0 hte HD7.out.day.ds hSO HUd.out);clear hU0 hta htb htd hte hta2 hes hed hIb hIe HDa hLO hSO;refine I8 [] (fun _=>True) (fun W=>W.cell? ⟨D,7,none⟩=some (.map (some L))∧W.cell? ⟨D,8,none⟩=some (.map (some S))∧W.cell? ⟨O,0,none⟩=some (.int .i64 (1+p1))∧W.cell? ⟨O,1,none⟩=some (.int .i64 (1+p2))∧W.cell? ⟨O,4,none⟩=some (.int .i64 (1+p4))) trivial ⟨k7,k8,y0,y1,y4⟩ (fun _ hU=> ?_);refine tP 0 (.pointer (some ⟨D,0,none⟩)) ?_;refine tP 1 (.pointer (some ⟨D,0,none⟩)) ?_;refine tP 2 (.pointer (some ⟨D,7,none⟩)) ?_;refine tP 3 (.map (some L)) ?_;refine tP 4 (.pointer (some ⟨O,0,none⟩)) ?_;refine tP 5 (.int .i64 (1+p1)) ?_;refine tP 6 (.pointer (some ⟨D,0,none⟩)) ?_;refine tP 7 (.pointer (some ⟨D,0,none⟩)) ?_;refine tP 8 (.pointer (some ⟨D,8,none⟩)) ?_;refine tP 9 (.map (some S)) ?_;refine tP 10 (.pointer (some ⟨O,0,none⟩)) ?_;refine tP 11 (.int .i64 (1+p1)) ?_;refine tP 12 (.pointer (some ⟨O,4,none⟩)) ?_;refine tP 13 (.int .i64 (1+p4)) ?_;refine tP 14 (.pointer (some ⟨O,1,none⟩)) ?_;refine tP 15 (.int .i64 (1+p2)) ?_;refine oN 16 fun K1 hK1=> ?_
        go_simp;refine hK1 _ _ (fun _=>trivial) HUa.out ?_;clear hK1 hU;have hU:=HUa.out;refine tP 17 (.int .i64 st) ?_;refine oN 18 fun K1 hK1=> ?_
        go_simp;refine hK1 _ _ (fun _=>trivial) HUb.out ?_;clear hK1 hU;refine oN 19 fun K1 hK1=> ?_
        go_simp;refine hK1 _ _ (fun _=>trivial) HUd.out ?_;clear hK1;have hU:=HUd.out;refine tP 20 (.int .i64 st1) ?_;refine oN 21 fun K1 hK1=> ?_
        go_simp;refine hK1 _ _ (fun _=>trivial) HUe.out ?_;clear hK1 hU;refine Qb7 ?_ (by kernel_rfl) _;go_wp2_with fail
        go_meet;exact⟨A1,c1,Fs,F1,_,_,_,hands,by rw[Hnf.out],HRe.out,HDe.out,by rw[HQ.out,HP.out];exact HST.out⟩
      ·unfold Jv4 Xd4 at HST
       rw[if_neg e0,if_neg e0]at HST;unfold YZ;rw[if_neg e0];clear e0;go_wp2_with fail
       go_meet;exact⟨A1,c1,Fs,F1,_,lots,side,hands,by rw[Hnf.out],HR.out,HD7.out,by rw[HQ.out,HP.out];exact HST.out⟩
  ·have d0:=UX c0
   by_cases c1:q=1
   ·as_aux_lemma=>
     have d1:=J3 c1;have hpk:m.pk.length≤100000:=by have:=HK.out.plain.ok_.cnt;omega
     have HPk:=QQ hpk;have HQ:=QQ c1;clear c0 c1 hpk;have hP:=fun W=>Qa1 oi 500 W (by omega) (by omega)
     have hp1:=Z3 oi 500 (by omega);have hp2:=Qn7 oi 500 (by omega);obtain⟨pp,epp⟩: ∃x,pk oi 500=x:=⟨_,rfl⟩;rw[epp]at hP hp1 hp2;have h1w:IntKind.i64.wrap (1+pp)=1+pp:=by rw[IntWalk.i64_left];exact IntWalk.wrap64_in _ (by omega)
     have HP:=QQ hP;clear epp hP hp1 hp2;go_wp2_with fail
     refine(HP.out _).mono ?_;rintro ev w' ⟨rfl,rfl⟩;go_wp2_with fail
     refine(Xr1 HD3.out.day.eng HPk.out (1+pp)).mono ?_;rintro ev w4 ⟨rfl,ht⟩;obtain⟨F4,hd4⟩:=HD3.out.engTo ht (Qt9 m _);have hd:=QQ hd4;clear ht hd4;go_wp2_with fail
     go_meet;exact⟨none,0,[],F4,_,lots,side,hands,rfl,J1.none_ _ _ _ _ _,hd.out,by rw[HQ.out];exact U4.cancel HK.out.plain HK.out.end_ HLt.out HK.out.time _ hd.out.day.eng.lists⟩
   ·have d1:=UX c1
    by_cases c2:q=2
    ·as_aux_lemma=>
      have d2:=J3 c2;have HQ:=QQ c2;clear c0 c1 c2;go_wp2_with fail
      refine(Jk6 HD3.out.day.eng HIn.out HIn1.out).mono ?_;rintro ev w4 ht;obtain⟨A1,c1,Fs,F1,rfl,hP,hR,hd4⟩:=HD3.out.fillsE ht (Qy7 m);have hd:=QQ hd4;have HP:=QQ hP;have HR:=QQ hR;clear ht hd4 hP hR;obtain⟨nf,hnf⟩: ∃n,Fs.length=n:=⟨_,rfl⟩;rw[hnf];have Hnf:=QQ hnf;clear hnf
      by_cases p7:m.ph=7
      ·have e7:Jh0 m=6:=if_pos p7
       have z7:=J3 p7;rw[e7];unfold YZ;rw[if_neg (by decide)];clear e7 p7;go_wp2_with fail
       go_meet;exact⟨A1,c1,Fs,F1,_,lots,side,hands,by rw[Hnf.out],HR.out,hd.out,by rw[HQ.out];exact U4.tick HK.out.plain HK.out.end_ HLt.out HK.out.time HP.out hd.out.day.eng.lists⟩
      ·have e7:Jh0 m=0:=if_neg p7
       have z7:=UX p7;rw[e7,UV];clear e7 p7;go_wp2_with fail
       go_meet;exact⟨A1,c1,Fs,F1,_,lots,side,hands,by rw[Hnf.out],HR.out,hd.out,by rw[HQ.out];exact U4.tick HK.out.plain HK.out.end_ HLt.out HK.out.time HP.out hd.out.day.eng.lists⟩
    ·have d2:=UX c2
     by_cases c3:q=3
     ·as_aux_lemma=>
       have d3:=J3 c3;have HQ:=QQ c3;clear c0 c1 c2 c3;obtain⟨-,-,-,-,-,-,-,-,-,-,c10⟩:=HD3.out.day.cells;have f10:=QJ.frozen HD3.out.day.box 10
       cases hands with
       |true=>
        have hd:=QQ (HD3.out.handsTo true)
        skip
        go_wp2_with fail
        go_meet;exact⟨none,0,[],F,_,lots,side,true,rfl,J1.none_ _ _ _ _ _,hd.out,by rw[HQ.out];exact U4.none_ HK.out.plain HK.out.end_ HLt.out HK.out.time 3 (by decide) (by decide)⟩
       |false=>
        go_wp2_with fail
        refine(Ki5 HD3.out.day.eng).mono ?_;rintro ev w4 ⟨rfl,ht⟩;obtain⟨F4,hd4⟩:=HD3.out.engTo ht (Xr3 m);have hst:=U4.halt HK.out.plain HK.out.end_ HLt.out HK.out.time;have HST:=QQ hst;have f10:=QJ.frozen hd4.day.box 10;clear ht hst c10;obtain⟨-,-,-,-,-,-,-,-,-,-,c10⟩:=hd4.day.cells
        by_cases e0:Jb3 m=0
        ·have hd:=QQ (hd4.handsTo true)
         rw[e0]at HST;rw[e0,UV];clear e0 hd4;go_wp2_with fail
         go_meet;exact⟨none,0,[],F4,_,lots,side,true,rfl,J1.none_ _ _ _ _ _,hd.out,by rw[HQ.out];exact HST.out⟩
        ·have hd:=QQ (hd4.handsTo false)
         rw[OY e0]at HST;unfold YZ;rw[if_neg e0];clear e0 hd4;go_wp2_with fail
         go_meet;exact⟨none,0,[],F4,_,lots,side,false,rfl,J1.none_ _ _ _ _ _,hd.out,by rw[HQ.out];exact HST.out⟩
     ·have d3:=UX c3
      by_cases c4:q=4
      ·as_aux_lemma=>
        have d4:=J3 c4;have HQ:=QQ c4;clear c0 c1 c2 c3 c4;obtain⟨-,-,-,-,-,-,-,-,-,-,c10⟩:=HD3.out.day.cells;have f10:=QJ.frozen HD3.out.day.box 10
        cases hands with
        |true=>
         have hd:=QQ (HD3.out.handsTo true)
         skip
         go_wp2_with fail
         go_meet;exact⟨none,0,[],F,_,lots,side,true,rfl,J1.none_ _ _ _ _ _,hd.out,by rw[HQ.out];exact U4.none_ HK.out.plain HK.out.end_ HLt.out HK.out.time 4 (by decide) (by decide)⟩
        |false=>
         go_wp2_with fail
         refine(Kj1 HD3.out.day.eng HIn.out).mono ?_;rintro ev w4 ⟨rfl,ht⟩;obtain⟨F4,hd4⟩:=HD3.out.engTo ht (Jv7 m);have hst:=U4.open_ HK.out.plain HK.out.end_ HLt.out HK.out.time hd4.day.eng.lists;have HST:=QQ hst;have f10:=QJ.frozen hd4.day.box 10;clear ht hst c10;obtain⟨-,-,-,-,-,-,-,-,-,-,c10⟩:=hd4.day.cells
         by_cases e0:Jn6 m=0
         ·have hd:=QQ (hd4.handsTo true)
          rw[e0]at HST;rw[e0,UV];clear e0 hd4;go_wp2_with fail
          go_meet;exact⟨none,0,[],F4,_,lots,side,true,rfl,J1.none_ _ _ _ _ _,hd.out,by rw[HQ.out];exact HST.out⟩
         ·have hd:=QQ (hd4.handsTo false)
          rw[OY e0]at HST;unfold YZ;rw[if_neg e0];clear e0 hd4;go_wp2_with fail
          go_meet;exact⟨none,0,[],F4,_,lots,side,false,rfl,J1.none_ _ _ _ _ _,hd.out,by rw[HQ.out];exact HST.out⟩
      ·exact absurd hdf (by omega)
 case rest=>
  obtain⟨A1,c1,Fs,F1,m1,lots1,side1,hands1,rfl,hR,hD,hst⟩:=hcut;have HST:=QQ hst;have HR:=QQ hR;have HDc:=QQ hD;obtain⟨nf,hnf⟩: ∃n,Fs.length=n:=⟨_,rfl⟩;rw[hnf]at HR
  try rw[hnf]
  have Hnf:=QQ hnf;clear x0 x1 x2 x3 x4 x5 hR hD hst hnf HD3 HLt;go_upto_region 26 with fail
  go_wp2_with fail
  go_loopg [8,15] nf (fun gg s8 s15 wx=> ∃k:Nat,k≤nf∧gg=nf-k∧s8= .int .i64 (Qd2 q m.la Fs k)∧s15= .int .i64 k∧J1 wx D L S F1 A1 nf c1 Fs∧Y4 w0 wx D e L S A cap l c X #[.int .i64 q,.int .i64 oi,.int .i64 os,.int .i64 ok,.int .i64 op,.int .i64 oq] F1 m1 (JX lots1 (Fs.take k)) side1 since hands1)
  case atStart=>exact⟨0,Nat.zero_le _,rfl,by rw[Jw2],rfl,HR.out,by rw[List.take_zero,OQ];exact HDc.out⟩
  case round=>
   as_aux_lemma=>
    obtain⟨i,hi,rfl,rfl,rfl,hR,hD⟩:=hrel;have HRr:=QQ hR;have HDr:=QQ hD;clear hR hD
    by_cases hlt:i<nf
    ·as_aux_lemma=>
      have hil:i<Fs.length:=by have:=Hnf.out;omega
      have hltz:(i:Int)< (nf:Int):=by omega
      have hi0:(0:Int)≤(i:Int):=by omega
      have hEl:=XZ.of_row Qt3 (by omega) HRr.out.row;obtain⟨bA,oA,hA⟩: ∃b off,A1=some ⟨b,off,none⟩:=by obtain⟨b,off,h1,_⟩:=hEl.2 (by omega);exact⟨b,off,h1⟩
      subst hA;have z0:wr.cell? ⟨bA,oA+i*4,none⟩=some (.int .i64 Fs[i].b):=hEl.at_ hil (j:=0) rfl;have z1:=hEl.at_ hil (j:=1) rfl;have z2:=hEl.at_ hil (j:=2) rfl;have z3:=hEl.at_ hil (j:=3) rfl;have hfa:=Kc6 HST.out.good hil;have hls:=Kj8 lots1 Fs hil hfa.2.2.2.2.2;have hle:=Ji0 HST.out.good i;have hba:=fun e:q=0=>(Kr1 HK.out.plain.ok_ (HST.out.bands e).1 i (by omega))
      have hla:q=0→Qd2 q m.la Fs (i+1)=Fs[i].p:=fun e=>by subst e;exact Jw3 hil
      obtain⟨⟨fb,fs,fp,fn⟩,eo⟩: ∃o,Fs[i]=o:=⟨_,rfl⟩;rw[eo]at z0 z1 z2 z3 hfa hls hla;dsimp only at z0 z1 z2 z3 hfa hls hla;have hba2:q=0→(1≤Qd2 q m.la Fs i∧Qd2 q m.la Fs i≤1000000)∧(V5 m.an m.st≤fp∧fp≤V6 m.an m.st)∧V5 (Qd2 q m.la Fs i) m.dy≤fp∧fp≤V6 (Qd2 q m.la Fs i) m.dy:=fun e=>by
       have h1:=hba e;have h2:=h1.2 hil;rw[eo]at h2;dsimp only at h2;subst e;exact⟨h1.1,h2⟩
      have HBa:=QQ hba2;have HFa:=QQ hfa;have HLs:=QQ hls;have HLa:=QQ hla;obtain⟨g,hg⟩: ∃f,JX lots1 (Fs.take i)=f:=⟨_,rfl⟩;rw[hg]at HDr HFa HLs;have hgle:g fb≤30∧g fs≤30:=by have h1:=hle fb;have h2:=hle fs;rw[hg]at h1 h2;have h3:=HST.out.lts fb;have h4:=HST.out.lts fs;omega
      have HGle:=QQ hgle;obtain⟨ll,hll⟩: ∃x,Qd2 q m.la Fs i=x:=⟨_,rfl⟩;rw[hll]at HBa
      try rw[hll]
      have Hll:=QQ hll;clear hba hba2 hfa hls hla hle hgle hg eo hll hEl;have HD6:=QQ (HDr.out.below ((Below.refl _ _).alloc (Nat.le_refl _) (.cells #[.int .i64 fb,.int .i64 fs,.int .i64 fp,.int .i64 fn] 48)));have HR6:=QQ (HRr.out.below ((Below.refl _ _).alloc (Nat.le_refl _) (.cells #[.int .i64 fb,.int .i64 fs,.int .i64 fp,.int .i64 fn] 48)));have hY:=QJ.new wr 48 #[.int .i64 fb,.int .i64 fs,.int .i64 fp,.int .i64 fn];obtain⟨w6,ew6⟩: ∃W,wr.alloc (.cells #[.int .i64 fb,.int .i64 fs,.int .i64 fp,.int .i64 fn] 48)=W:=⟨_,rfl⟩;obtain⟨Y,eY⟩: ∃g,wr.heap.size=g:=⟨_,rfl⟩;rw[ew6]at HD6 HR6 hY;rw[eY]at hY;have HYl:Hid (Y≠L∧Y≠D∧Y≠S):=QQ (by have h1:=HDr.out.day.lots_.lt;have h2:=QJ.lt HDr.out.day.box;have h3:=HDr.out.day.side_.lt;omega);have HY:=QQ hY;clear hY;go_upto_region 30 with fail
      try rw[ew6]
      try rw[eY]
      clear ew6 eY z0 z1 z2 z3 HDr HRr;have y0:w6.cell? ⟨Y,0,none⟩=some (.int .i64 fb):=by rw[QJ.cell HY.out];rfl
      have y1:w6.cell? ⟨Y,1,none⟩=some (.int .i64 fs):=by rw[QJ.cell HY.out];rfl
      have y2:w6.cell? ⟨Y,2,none⟩=some (.int .i64 fp):=by rw[QJ.cell HY.out];rfl
      have y3:w6.cell? ⟨Y,3,none⟩=some (.int .i64 fn):=by rw[QJ.cell HY.out];rfl
      obtain⟨-,-,-,-,-,-,-,k7,k8,-⟩:=HD6.out.day.cells;have s1:=fun n=>(HD6.out.day.side_.of_block (w':=w6.drewN n) rfl).lookup fb
      have s2:=fun n=>(HD6.out.day.side_.of_block (w':=w6.drewN n) rfl).lookup fs
      have l1:=fun n=>(HD6.out.day.lots_.of_block (w':=w6.drewN n) rfl).lookup fb
      have l2:=fun n=>(HD6.out.day.lots_.of_block (w':=w6.drewN n) rfl).lookup fs
      have s10:=(HD6.out.day.side_).lookup fb;have s20:=(HD6.out.day.side_).lookup fs;have l10:=(HD6.out.day.lots_).lookup fb;have l20:=(HD6.out.day.lots_).lookup fs;rw[HFa.out.2.1]at s1 s10;rw[HFa.out.2.2.1]at s2 s20;obtain⟨gb,hgb⟩: ∃x,g fb=x:=⟨_,rfl⟩;obtain⟨gs,hgs⟩: ∃x,g fs=x:=⟨_,rfl⟩;rw[hgb]at l1 l10;rw[hgs]at l2 l20;have Hgb:=QQ (And.intro hgb hgs);have t1: ¬fn<1:=by have:=HFa.out.1;omega
      have t2: ¬gb<fn:=by have:=HFa.out.2.2.2.1;omega
      have t3: ¬gs<fn:=by have:=HFa.out.2.2.2.2.1;omega
      clear hgb hgs;go_quiet (fail)
      as_aux_lemma=>
       go_upto_region 32 with fail
       have HD7:=QQ (HD6.out.below (Below.drewN_ (Below.refl _ _) nq));have HR7:=QQ (HR6.out.below (Below.drewN_ (Below.refl _ _) nq));have HY7:Hid (QJ (w6.drewN nq) Y 48 #[.int .i64 fb,.int .i64 fs,.int .i64 fp,.int .i64 fn]):=QQ (QJ.keep HY.out (Below.drewN_ (Below.refl _ _) nq));obtain⟨w7,ew7⟩: ∃W,w6.drewN nq=W:=⟨_,rfl⟩;rw[ew7]at HD7 HR7 HY7⊢;clear ew7 s1 s2 l1 l2 s10 s20 l10 l20 y0 y1 y2 y3 k7 k8 HD6 HR6 HY t1;have y0:w7.cell? ⟨Y,0,none⟩=some (.int .i64 fb):=by rw[QJ.cell HY7.out];rfl
       have y3:w7.cell? ⟨Y,3,none⟩=some (.int .i64 fn):=by rw[QJ.cell HY7.out];rfl
       obtain⟨-,-,-,-,-,-,-,k7,-⟩:=HD7.out.day.cells;have lk:=(HD7.out.day.lots_.of_block (w':=w7.drew) rfl).lookup fb;rw[Hgb.out.1]at lk;have v1:IntKind.i64.wrap (gb-fn)=gb-fn:=by have h1:=HGle.out.1;rw[Hgb.out.1]at h1;have h2:=HFa.out.1;rw[IntWalk.i64_left];exact IntWalk.wrap64_in _ (by omega)
       obtain⟨w8,hup,hI8,ht8⟩:=(HD7.out.day.lots_.of_block (w':=w7.drew) rfl).update fb (gb-fn);have HD8:=QQ ((HD7.out.below (Below.drew (Below.refl _ _))).lotsTo ht8 hI8);have HR8:=QQ ((HR7.out.below (Below.drew (Below.refl _ _))).turnL ht8);have HY8:Hid (QJ w8 Y 48 #[.int .i64 fb,.int .i64 fs,.int .i64 fp,.int .i64 fn]):=QQ (QJ.keeps (QJ.drew HY7.out) ht8.keeps HYl.out.1);have HU8:=QQ (show w8.cell? ⟨D,7,none⟩=some (.map (some L))∧w8.cell? ⟨Y,0,none⟩=some (.int .i64 fb)∧w8.cell? ⟨Y,3,none⟩=some (.int .i64 fn)from⟨(ht8.cell (p:=⟨D,7,none⟩) HD7.out.day.dl).trans k7,(ht8.cell (p:=⟨Y,0,none⟩) HYl.out.1).trans y0,(ht8.cell (p:=⟨Y,3,none⟩) HYl.out.1).trans y3⟩);clear hI8 ht8;refine I8 [10] (fun W=>(Instr.lookup 51 (.map (some L)) (.int .i64 fb) false).run Tryz.prog W= .ok (.int .i64 gb) W) (fun W=>W.cell? ⟨D,7,none⟩=some (.map (some L))∧W.cell? ⟨Y,0,none⟩=some (.int .i64 fb)∧W.cell? ⟨Y,3,none⟩=some (.int .i64 fn)) lk ⟨k7,y0,y3⟩ (fun hS hU=> ?_);refine tP 0 (.pointer (some ⟨D,0,none⟩)) ?_;refine tP 1 (.pointer (some ⟨D,0,none⟩)) ?_;refine tP 2 (.pointer (some ⟨D,7,none⟩)) ?_;refine tP 3 (.map (some L)) ?_;refine tP 4 (.pointer (some ⟨Y,0,none⟩)) ?_;refine tP 5 (.int .i64 fb) ?_;refine tN 6 (.int .i64 gb) ?_;refine tP 7 (.pointer (some ⟨Y,3,none⟩)) ?_;refine tP 8 (.int .i64 fn) ?_;refine tP 9 (.int .i64 (gb-fn)) ?_;refine oN 10 fun K1 hK1=> ?_
       go_simp;refine hK1 _ _ (fun e=>absurd e (by decide)) HU8.out ?_;clear hK1 hS hU lk k7 y0 y3 hup v1 HD7 HR7 HY7;refine Qb7 ?_ (by kernel_rfl) _
       as_aux_lemma=>
        go_upto_region 33 with fail
        have y1:w8.cell? ⟨Y,1,none⟩=some (.int .i64 fs):=by rw[QJ.cell HY8.out];rfl
        have y3:w8.cell? ⟨Y,3,none⟩=some (.int .i64 fn):=by rw[QJ.cell HY8.out];rfl
        obtain⟨-,-,-,-,-,-,-,k7,-⟩:=HD8.out.day.cells;have lk:=(HD8.out.day.lots_.of_block (w':=w8.drew) rfl).lookup fs;have hg2:Qg8 g fb (gb-fn) fs=gs:=by unfold Qg8;rw[if_neg (fun e=>HFa.out.2.2.2.2.2 e.symm)];exact Hgb.out.2
        rw[hg2]at lk;have v1:IntKind.i64.wrap (gs-fn)=gs-fn:=by have h1:=HGle.out.2;rw[Hgb.out.2]at h1;have h2:=HFa.out.1;rw[IntWalk.i64_left];exact IntWalk.wrap64_in _ (by omega)
        obtain⟨w9,hup,hI9,ht9⟩:=(HD8.out.day.lots_.of_block (w':=w8.drew) rfl).update fs (gs-fn);have e9:Qg8 (Qg8 g fb (gb-fn)) fs (gs-fn)=JX lots1 (Fs.take (i+1)):=by rw[HLs.out,Hgb.out.1,Hgb.out.2]
        rw[e9]at hI9;have HD9:=QQ ((HD8.out.below (Below.drew (Below.refl _ _))).lotsTo ht9 hI9);have HR9:=QQ ((HR8.out.below (Below.drew (Below.refl _ _))).turnL ht9);have HY9:Hid (QJ w9 Y 48 #[.int .i64 fb,.int .i64 fs,.int .i64 fp,.int .i64 fn]):=QQ (QJ.keeps (QJ.drew HY8.out) ht9.keeps HYl.out.1);have HU9:=QQ (show w9.cell? ⟨D,7,none⟩=some (.map (some L))∧w9.cell? ⟨Y,1,none⟩=some (.int .i64 fs)∧w9.cell? ⟨Y,3,none⟩=some (.int .i64 fn)from⟨(ht9.cell (p:=⟨D,7,none⟩) HD8.out.day.dl).trans k7,(ht9.cell (p:=⟨Y,1,none⟩) HYl.out.1).trans y1,(ht9.cell (p:=⟨Y,3,none⟩) HYl.out.1).trans y3⟩);clear hI9 ht9 e9 hg2;refine I8 [10] (fun W=>(Instr.lookup 51 (.map (some L)) (.int .i64 fs) false).run Tryz.prog W= .ok (.int .i64 gs) W) (fun W=>W.cell? ⟨D,7,none⟩=some (.map (some L))∧W.cell? ⟨Y,1,none⟩=some (.int .i64 fs)∧W.cell? ⟨Y,3,none⟩=some (.int .i64 fn)) lk ⟨k7,y1,y3⟩ (fun hS hU=> ?_);refine tP 0 (.pointer (some ⟨D,0,none⟩)) ?_;refine tP 1 (.pointer (some ⟨D,0,none⟩)) ?_;refine tP 2 (.pointer (some ⟨D,7,none⟩)) ?_;refine tP 3 (.map (some L)) ?_;refine tP 4 (.pointer (some ⟨Y,1,none⟩)) ?_;refine tP 5 (.int .i64 fs) ?_;refine tN 6 (.int .i64 gs) ?_;refine tP 7 (.pointer (some ⟨Y,3,none⟩)) ?_;refine tP 8 (.int .i64 fn) ?_;refine tP 9 (.int .i64 (gs-fn)) ?_;refine oN 10 fun K1 hK1=> ?_
        go_simp;refine hK1 _ _ (fun e=>absurd e (by decide)) HU9.out ?_;clear hK1 hS hU lk k7 y1 y3 hup v1 HD8 HR8 HY8 HU8 HU9 HLs HGle Hgb t2 t3;refine Qb7 ?_ (by kernel_rfl) _;have hb63:nf≤9223372036854775807:=by
         rcases HR9.out.row.2 with⟨-,h0⟩|⟨g,c0,cur,hv,-⟩
         ·omega
         ·cases hv;have:=QY.cap HR9.out.row;omega
        obtain⟨x0,-⟩:=Xh8 HD9.out.box
        by_cases c0:q=0
        ·as_aux_lemma=>
          have d0:=J3 c0;obtain⟨⟨hl1,hl2⟩,⟨b1,b2⟩,b3,b4⟩:=HBa.out c0;have HLa0:=QQ (HLa.out c0);clear c0;go_upto_region 35 with fail
          obtain⟨-,-,k2,k3,-⟩:=HD9.out.day.cells;rw[show c.st=m.st from HK.out.day.cfg.st.symm]at k2;rw[show c.dy=m.dy from HK.out.day.cfg.dy.symm]at k3;have hmk:=HK.out.plain.ok_;have o1:Qm3 m.an m.st=0:=if_pos (Qa0.2 ⟨hmk.an.1,hmk.an.2,hmk.st.1,hmk.st.2⟩);have o2:Qm3 ll m.dy=0:=if_pos (Qa0.2 ⟨hl1,hl2,hmk.dy.1,hmk.dy.2⟩);obtain⟨an,ean⟩: ∃x,m.an=x:=⟨_,rfl⟩;obtain⟨st,est⟩: ∃x,m.st=x:=⟨_,rfl⟩;obtain⟨dy,edy⟩: ∃x,m.dy=x:=⟨_,rfl⟩;rw[est]at k2;rw[edy]at k3;rw[ean,est]at b1 b2 o1;rw[edy]at b3 b4 o2
          try rw[ean]
          have HO:=QQ (And.intro o1 o2);have HEan:=QQ ean;clear o1 o2 hmk ean est edy hl1 hl2;have HB12:=QQ (And.intro (And.intro b1 b2) (And.intro b3 b4));clear b1 b2 b3 b4;have hV:=QJ.new w9 58 #[.int .i64 an,.int .i64 st,.int .i64 ll,.int .i64 dy];have hb10:Below w9.heap.size w9 (w9.alloc (.cells #[.int .i64 an,.int .i64 st,.int .i64 ll,.int .i64 dy] 58)).drew:=Below.drew ((Below.refl _ w9).alloc (Nat.le_refl _) _);have HU10:=QQ (show(w9.alloc (.cells #[.int .i64 an,.int .i64 st,.int .i64 ll,.int .i64 dy] 58)).drew.cell? ⟨D,2,none⟩=some (.int .i64 st)∧(w9.alloc (.cells #[.int .i64 an,.int .i64 st,.int .i64 ll,.int .i64 dy] 58)).drew.cell? ⟨D,3,none⟩=some (.int .i64 dy)from⟨(hb10.cell (p:=⟨D,2,none⟩) (QJ.lt HD9.out.day.box)).trans k2,(hb10.cell (p:=⟨D,3,none⟩) (QJ.lt HD9.out.day.box)).trans k3⟩);refine I8 [] (fun _=>True) (fun W=>W.cell? ⟨D,2,none⟩=some (.int .i64 st)∧W.cell? ⟨D,3,none⟩=some (.int .i64 dy)) trivial ⟨k2,k3⟩ (fun _ hU=> ?_);refine tP 0 (.int .i64 an) ?_;refine tP 1 (.pointer (some ⟨D,0,none⟩)) ?_;refine tP 2 (.pointer (some ⟨D,0,none⟩)) ?_;refine tP 3 (.pointer (some ⟨D,1,none⟩)) ?_;refine tP 4 (.pointer (some ⟨D,2,none⟩)) ?_;refine tP 5 (.int .i64 st) ?_;refine tP 6 (.agg #[.int .i64 an,.int .i64 st]) ?_;refine tP 7 (.int .i64 ll) ?_;refine tP 8 (.pointer (some ⟨D,0,none⟩)) ?_;refine tP 9 (.pointer (some ⟨D,0,none⟩)) ?_;refine tP 10 (.pointer (some ⟨D,1,none⟩)) ?_;refine tP 11 (.pointer (some ⟨D,3,none⟩)) ?_;refine tP 12 (.int .i64 dy) ?_;refine tP 13 (.agg #[.int .i64 ll,.int .i64 dy]) ?_;refine tP 16 (.int .i64 0) ?_;refine oN 14 fun K1 hK1=> ?_
          go_simp;refine hK1 _ _ (fun _=>trivial) HU10.out ?_;clear hK1 hU k2 k3;have hU:=HU10.out;refine tP 15 (.int .i64 2) ?_;refine Qb7 ?_ (by kernel_rfl) _;have HD10:=QQ (HD9.out.below hb10);have HR10:=QQ (HR9.out.below hb10);have HY10:Hid (QJ (w9.alloc (.cells #[.int .i64 an,.int .i64 st,.int .i64 ll,.int .i64 dy] 58)).drew Y 48 #[.int .i64 fb,.int .i64 fs,.int .i64 fp,.int .i64 fn]):=QQ (QJ.keep HY9.out hb10);have HV10:Hid (QJ (w9.alloc (.cells #[.int .i64 an,.int .i64 st,.int .i64 ll,.int .i64 dy] 58)).drew w9.heap.size 58 #[.int .i64 an,.int .i64 st,.int .i64 ll,.int .i64 dy]):=QQ (QJ.drew hV);obtain⟨w10,ew10⟩: ∃W,(w9.alloc (.cells #[.int .i64 an,.int .i64 st,.int .i64 ll,.int .i64 dy] 58)).drew=W:=⟨_,rfl⟩;obtain⟨V,eV⟩: ∃g,w9.heap.size=g:=⟨_,rfl⟩;rw[ew10]at HD10 HR10 HY10 HV10;rw[eV]at HV10
          try rw[ew10]
          try rw[eV]
          clear ew10 eV hU HU10 hb10 hV HD9 HR9 HY9 x0;go_upto_region 36 with fail
          go_loopg [247] 2 (fun gg s247 wx=> ∃j:Nat,gg=2-j∧s247= .int .i64 j∧(0=j∨1=j∨2=j)∧Below w10.heap.size w10 wx)
          case atStart=>exact⟨0,rfl,rfl,.inl rfl,Below.refl _ _⟩
          case round=>
           obtain⟨j,rfl,rfl,hj,hB⟩:=hrel;have HB:=QQ hB;have HVr:=QQ (QJ.keep HV10.out hB);have HYr:=QQ (QJ.keep HY10.out hB);clear hB;rcases hj with hj|hj|hj<;>subst hj
           ·have v0:wr.cell? ⟨V,0,none⟩=some (.int .i64 an):=by rw[QJ.cell HVr.out];rfl
            have v1:wr.cell? ⟨V,1,none⟩=some (.int .i64 st):=by rw[QJ.cell HVr.out];rfl
            have hZ:=QJ.new wr 58 #[.int .i64 an,.int .i64 st];have hbz:Below wr.heap.size wr (wr.alloc (.cells #[.int .i64 an,.int .i64 st] 58)):=(Below.refl _ _).alloc (Nat.le_refl _) _;go_upto_region 38 with fail
            obtain⟨w11,ew11⟩: ∃W,wr.alloc (.cells #[.int .i64 an,.int .i64 st] 58)=W:=⟨_,rfl⟩;obtain⟨Z,eZ⟩: ∃g,wr.heap.size=g:=⟨_,rfl⟩;have HB11:=QQ (HB.out.trans (hbz.mono HB.out.size));have HY11:=QQ (QJ.keep HYr.out hbz);rw[ew11]at hZ HB11 HY11;rw[eZ]at hZ
            try rw[ew11]
            try rw[eZ]
            have q0:w11.cell? ⟨Z,0,none⟩=some (.int .i64 an):=by rw[QJ.cell hZ];rfl
            have q1:w11.cell? ⟨Z,1,none⟩=some (.int .i64 st):=by rw[QJ.cell hZ];rfl
            clear ew11 eZ hbz hZ v0 v1 HVr HYr HB;go_wp2_with fail
            refine(Qg0 an st _).mono ?_;rintro ev w12 ⟨rfl,hb12⟩;rw[HO.out.1,UV];have y2:w12.cell? ⟨Y,2,none⟩=some (.int .i64 fp):=by rw[QJ.cell (QJ.keep HY11.out hb12)];rfl
            have HBd:=HB12.out.1;obtain⟨lo,elo⟩: ∃x,V5 an st=x:=⟨_,rfl⟩;obtain⟨hh,ehh⟩: ∃x,V6 an st=x:=⟨_,rfl⟩;rw[elo,ehh]at HBd;rw[elo,ehh];have n1: ¬fp<lo:=by omega
            have n2: ¬hh<fp:=by omega
            have HB13:=QQ (HB11.out.trans (hb12.mono HB11.out.size));clear elo ehh HBd q0 q1 hb12;go_wp2_with fail
            go_roundg (2- (0+1))
            case measure=>omega
            case rel=>exact⟨0+1,rfl,by go_num,.inr (.inl rfl),HB13.out⟩
           ·have v0:wr.cell? ⟨V,2,none⟩=some (.int .i64 ll):=by rw[QJ.cell HVr.out];rfl
            have v1:wr.cell? ⟨V,3,none⟩=some (.int .i64 dy):=by rw[QJ.cell HVr.out];rfl
            have hZ:=QJ.new wr 58 #[.int .i64 ll,.int .i64 dy];have hbz:Below wr.heap.size wr (wr.alloc (.cells #[.int .i64 ll,.int .i64 dy] 58)):=(Below.refl _ _).alloc (Nat.le_refl _) _;go_upto_region 38 with fail
            obtain⟨w11,ew11⟩: ∃W,wr.alloc (.cells #[.int .i64 ll,.int .i64 dy] 58)=W:=⟨_,rfl⟩;obtain⟨Z,eZ⟩: ∃g,wr.heap.size=g:=⟨_,rfl⟩;have HB11:=QQ (HB.out.trans (hbz.mono HB.out.size));have HY11:=QQ (QJ.keep HYr.out hbz);rw[ew11]at hZ HB11 HY11;rw[eZ]at hZ
            try rw[ew11]
            try rw[eZ]
            have q0:w11.cell? ⟨Z,0,none⟩=some (.int .i64 ll):=by rw[QJ.cell hZ];rfl
            have q1:w11.cell? ⟨Z,1,none⟩=some (.int .i64 dy):=by rw[QJ.cell hZ];rfl
            clear ew11 eZ hbz hZ v0 v1 HVr HYr HB;go_wp2_with fail
            refine(Qg0 ll dy _).mono ?_;rintro ev w12 ⟨rfl,hb12⟩;rw[HO.out.2,UV];have y2:w12.cell? ⟨Y,2,none⟩=some (.int .i64 fp):=by rw[QJ.cell (QJ.keep HY11.out hb12)];rfl
            have HBd:=HB12.out.2;obtain⟨lo,elo⟩: ∃x,V5 ll dy=x:=⟨_,rfl⟩;obtain⟨hh,ehh⟩: ∃x,V6 ll dy=x:=⟨_,rfl⟩;rw[elo,ehh]at HBd;rw[elo,ehh];have n1: ¬fp<lo:=by omega
            have n2: ¬hh<fp:=by omega
            have HB13:=QQ (HB11.out.trans (hb12.mono HB11.out.size));clear elo ehh HBd q0 q1 hb12;go_wp2_with fail
            go_roundg (2- (1+1))
            case measure=>omega
            case rel=>exact⟨1+1,rfl,by go_num,.inr (.inr rfl),HB13.out⟩
           ·have y2:wr.cell? ⟨Y,2,none⟩=some (.int .i64 fp):=by rw[QJ.cell HYr.out];rfl
            have HDe:=QQ (HD10.out.below HB.out);have HRe:=QQ (HR10.out.below HB.out);go_wp2_with fail
            rw[←HEan.out]
            go_roundg (nf- (i+1))
            case measure=>omega
            case rel=>exact⟨i+1,by omega,rfl,by rw[HLa0.out],by go_num,HRe.out,HDe.out⟩
        ·have d0:=UX c0
         have hlq:=Kr0 c0 m.la Fs i (i+1);rw[Hll.out]at hlq;have Hlq:=QQ hlq;clear c0 hlq;go_wp2_with fail
         go_roundg (nf- (i+1))
         case measure=>omega
         case rel=>exact⟨i+1,by omega,rfl,by rw[Hlq.out],by go_num,HR9.out,HD9.out⟩
    ·as_aux_lemma=>
      obtain rfl:i=nf:=by omega
      have hltz: ¬(i:Int)< (i:Int):=by omega
      have eT:Fs.take i=Fs:=List.take_of_length_le (by have:=Hnf.out;omega);rw[eT]at HDr;clear eT;have h43:q=0→0<i→m.ph=3:=fun e hp=>(HST.out.bands e).2 (fun h0=>by have:=Hnf.out;rw[h0]at this;simp at this;omega)
      have H43:=QQ h43;clear h43 hi HRr;obtain⟨x0,-⟩:=Xh8 HDr.out.box;obtain⟨ll,hll⟩: ∃x,Qd2 q m.la Fs i=x:=⟨_,rfl⟩
      try rw[hll]
      clear hll;go_upto_region 43 with fail
      go_cut [288] (fun s wx=>s= .bool false∧wx=wr)
      case first=>
       as_aux_lemma=>
        by_cases c0:q=0
        ·have d0:=J3 c0
         rcases Nat.eq_zero_or_pos i with hz|hz
         ·have z1: ¬(0:Int)< (i:Int):=by omega
          clear hz c0;go_wp2_with fail
          go_meet;exact⟨rfl,rfl⟩
         ·have z1:(0:Int)< (i:Int):=by omega
          have z2:=Ji1 (H43.out c0 hz);clear hz c0;go_wp2_with fail
          go_meet;exact⟨rfl,rfl⟩
        ·have d0:=UX c0
         clear c0;go_wp2_with fail
         go_meet;exact⟨rfl,rfl⟩
      case rest=>
       as_aux_lemma=>
        obtain⟨rfl,rfl⟩:=hcut;clear H43 x0;go_wp2_with fail
        refine(Jd1 HDr.out.day.eng).mono ?_;rintro ev w20 ⟨rfl,hb20⟩;have HD20:=QQ (HDr.out.below hb20);clear hb20 HDr;go_upto_region 46 with fail
        go_cut [297] (fun s wx=>s= .bool false∧Below w20.heap.size w20 wx)
        case first=>
         as_aux_lemma=>
          by_cases p3:m1.ph=3
          ·have d3:=J3 p3
           have hap:=HST.out.plain.tr p3;have hhas:=HST.out.plain.w.has;have hcnt:=HST.out.plain.ok_.cnt;have HA:=QQ (Kj6 HD20.out.day (fun o ho=>⟨hap.1 o ho,(hhas o (List.mem_append_left _ ho)).1⟩) hap.2 (by omega));clear p3 hap hhas hcnt;go_wp2_with fail
           refine HA.out.mono ?_;rintro ev w21 ⟨rfl,hb21⟩;go_wp2_with fail
           go_meet;exact⟨rfl,hb21⟩
          ·have d3:=UX p3
           clear p3;go_wp2_with fail
           go_meet;exact⟨rfl,Below.refl _ _⟩
        case rest=>
         as_aux_lemma=>
          obtain⟨rfl,hb21⟩:=hcut;have HD21:=QQ (HD20.out.below hb21);clear hb21 HD20;obtain⟨x0,-⟩:=Xh8 HD21.out.box;obtain⟨bb,hbb⟩: ∃b,decide (q=2∧m.ph=4)=b:=⟨_,rfl⟩;have Hbb:=QQ hbb;go_upto_region 48 with fail
          go_cut [304] (fun s wx=>s= .bool bb∧wx=wc)
          case first=>
           as_aux_lemma=>
            by_cases c2:q=2
            ·have d2:=J3 c2
             by_cases c4:m.ph=4
             ·have d4:=J3 c4
              have hb:bb=true:=by rw[←hbb];exact decide_eq_true ⟨c2,c4⟩
              clear c2 c4 hbb;go_wp2_with fail
              go_meet;exact⟨by rw[hb],rfl⟩
             ·have d4:=UX c4
              have hb:bb=false:=by rw[←hbb];exact decide_eq_false (fun h=>c4 h.2)
              clear c2 c4 hbb;go_wp2_with fail
              go_meet;exact⟨by rw[hb],rfl⟩
            ·have d2:=UX c2
             have hb:bb=false:=by rw[←hbb];exact decide_eq_false (fun h=>c2 h.1)
             clear c2 hbb;go_wp2_with fail
             go_meet;exact⟨by rw[hb],rfl⟩
          case rest=>
           as_aux_lemma=>
            obtain⟨rfl,rfl⟩:=hcut;clear hbb x0
            by_cases p4:m1.ph=4
            ·cases bb with
             |true=>
              as_aux_lemma=>
               obtain⟨-,-,-,-,-,-,-,-,-,k9,-⟩:=HD21.out.day.cells;have f9:=QJ.frozen HD21.out.day.box 9;have v9:IntKind.i64.wrap (since+1)=since+1:=by have:=HK.out.snc;rw[IntWalk.i64_left];exact IntWalk.wrap64_in _ (by omega)
               have HDa:=QQ (HD21.out.sinceTo (since+1));have n4:=Ji1 p4;have HDf:=HDa;have es:sinceN q m m1 since=since+1:=by unfold sinceN;rw[if_pos p4,if_pos (of_decide_eq_true Hbb.out)]
               have Hes:=QQ es;clear es p4;go_upto_region 52 with fail
               obtain⟨-,-,-,-,-,k5,k6,-,-,k9,k10⟩:=HD21.out.day.cells;have Hlt:Hid (hands1=false→since+1<c.tk* (1+c.mo)):=QQ (fun e=>by
                have h1:=((HST.out.time e).2).lt HST.out.plain.ok_;rw[HDf.out.day.cfg.tk,HDf.out.day.cfg.mo,Hes.out]at h1;exact h1)
               have hmo:=HK.out.c0.mo;have htk:=HK.out.c0.tk;have hmo:0≤c.mo∧c.mo≤10:=hmo;have htk:1≤c.tk∧c.tk≤1000000:=htk;have hmul:0≤c.tk* (1+c.mo)∧c.tk* (1+c.mo)≤11000000:=⟨Int.mul_nonneg (by omega) (by omega),Int.le_trans (Int.mul_le_mul htk.2 (show 1+c.mo≤11 by omega) (by omega) (by omega)) (by omega)⟩;obtain⟨tk,etk⟩: ∃x,c.tk=x:=⟨_,rfl⟩;obtain⟨mo,emo⟩: ∃x,c.mo=x:=⟨_,rfl⟩;rw[etk,emo]at Hlt hmul;rw[etk]at k5;rw[emo]at k6 hmo;have v1:IntKind.i64.wrap (1+mo)=1+mo:=by rw[IntWalk.i64_left];exact IntWalk.wrap64_in _ (by omega)
               have v2:IntKind.i64.wrap (tk* (1+mo))=tk* (1+mo):=by rw[IntWalk.i64_left];exact IntWalk.wrap64_in _ (by omega)
               clear hmo htk hmul etk emo
               cases hands1 with
               |true=>
                clear Hlt;go_quiet (fail)
                go_wp2_with fail
                go_ret;exact⟨rfl,_,_,_,_,_,_,HK.out.next HST.out (by rw[Hes.out];exact HDf.out.below (Below.drewN_ (Below.refl _ _) _))⟩
               |false=>
                have hlt:=Hlt.out rfl;clear Hlt;go_quiet (fail)
                go_wp2_with fail
                go_ret;exact⟨rfl,_,_,_,_,_,_,HK.out.next HST.out (by rw[Hes.out];exact HDf.out.below (Below.drewN_ (Below.refl _ _) _))⟩
             |false=>
              as_aux_lemma=>
               have HDa:=HD21;have n4:=Ji1 p4;have HDf:=HDa;have es:sinceN q m m1 since=since:=by unfold sinceN;rw[if_pos p4,if_neg (of_decide_eq_false Hbb.out)]
               have Hes:=QQ es;clear es p4;go_upto_region 52 with fail
               obtain⟨-,-,-,-,-,k5,k6,-,-,k9,k10⟩:=HD21.out.day.cells;have Hlt:Hid (hands1=false→since<c.tk* (1+c.mo)):=QQ (fun e=>by
                have h1:=((HST.out.time e).2).lt HST.out.plain.ok_;rw[HDf.out.day.cfg.tk,HDf.out.day.cfg.mo,Hes.out]at h1;exact h1)
               have hmo:=HK.out.c0.mo;have htk:=HK.out.c0.tk;have hmo:0≤c.mo∧c.mo≤10:=hmo;have htk:1≤c.tk∧c.tk≤1000000:=htk;have hmul:0≤c.tk* (1+c.mo)∧c.tk* (1+c.mo)≤11000000:=⟨Int.mul_nonneg (by omega) (by omega),Int.le_trans (Int.mul_le_mul htk.2 (show 1+c.mo≤11 by omega) (by omega) (by omega)) (by omega)⟩;obtain⟨tk,etk⟩: ∃x,c.tk=x:=⟨_,rfl⟩;obtain⟨mo,emo⟩: ∃x,c.mo=x:=⟨_,rfl⟩;rw[etk,emo]at Hlt hmul;rw[etk]at k5;rw[emo]at k6 hmo;have v1:IntKind.i64.wrap (1+mo)=1+mo:=by rw[IntWalk.i64_left];exact IntWalk.wrap64_in _ (by omega)
               have v2:IntKind.i64.wrap (tk* (1+mo))=tk* (1+mo):=by rw[IntWalk.i64_left];exact IntWalk.wrap64_in _ (by omega)
               clear hmo htk hmul etk emo
               cases hands1 with
               |true=>
                clear Hlt;go_quiet (fail)
                go_wp2_with fail
                go_ret;exact⟨rfl,_,_,_,_,_,_,HK.out.next HST.out (by rw[Hes.out];exact HDf.out.below (Below.drewN_ (Below.refl _ _) _))⟩
               |false=>
                have hlt:=Hlt.out rfl;clear Hlt;go_quiet (fail)
                go_wp2_with fail
                go_ret;exact⟨rfl,_,_,_,_,_,_,HK.out.next HST.out (by rw[Hes.out];exact HDf.out.below (Below.drewN_ (Below.refl _ _) _))⟩
            ·cases bb with
             |true=>
              as_aux_lemma=>
               obtain⟨-,-,-,-,-,-,-,-,-,k9,-⟩:=HD21.out.day.cells;have f9:=QJ.frozen HD21.out.day.box 9;have v9:IntKind.i64.wrap (since+1)=since+1:=by have:=HK.out.snc;rw[IntWalk.i64_left];exact IntWalk.wrap64_in _ (by omega)
               have HDa:=QQ (HD21.out.sinceTo (since+1));have n4:=Ji2 p4;have g9:=QJ.frozen HDa.out.day.box 9;have HDf:=QQ (HDa.out.sinceTo 0);have es:sinceN q m m1 since=0:=by unfold sinceN;rw[if_neg p4]
               have Hes:=QQ es;clear es p4;go_upto_region 52 with fail
               obtain⟨-,-,-,-,-,k5,k6,-,-,k9,k10⟩:=HD21.out.day.cells;have Hlt:Hid (hands1=false→0<c.tk* (1+c.mo)):=QQ (fun e=>by
                have h1:=((HST.out.time e).2).lt HST.out.plain.ok_;rw[HDf.out.day.cfg.tk,HDf.out.day.cfg.mo,Hes.out]at h1;exact h1)
               have hmo:=HK.out.c0.mo;have htk:=HK.out.c0.tk;have hmo:0≤c.mo∧c.mo≤10:=hmo;have htk:1≤c.tk∧c.tk≤1000000:=htk;have hmul:0≤c.tk* (1+c.mo)∧c.tk* (1+c.mo)≤11000000:=⟨Int.mul_nonneg (by omega) (by omega),Int.le_trans (Int.mul_le_mul htk.2 (show 1+c.mo≤11 by omega) (by omega) (by omega)) (by omega)⟩;obtain⟨tk,etk⟩: ∃x,c.tk=x:=⟨_,rfl⟩;obtain⟨mo,emo⟩: ∃x,c.mo=x:=⟨_,rfl⟩;rw[etk,emo]at Hlt hmul;rw[etk]at k5;rw[emo]at k6 hmo;have v1:IntKind.i64.wrap (1+mo)=1+mo:=by rw[IntWalk.i64_left];exact IntWalk.wrap64_in _ (by omega)
               have v2:IntKind.i64.wrap (tk* (1+mo))=tk* (1+mo):=by rw[IntWalk.i64_left];exact IntWalk.wrap64_in _ (by omega)
               clear hmo htk hmul etk emo
               cases hands1 with
               |true=>
                clear Hlt;go_quiet (fail)
                go_wp2_with fail
                go_ret;exact⟨rfl,_,_,_,_,_,_,HK.out.next HST.out (by rw[Hes.out];exact HDf.out.below (Below.drewN_ (Below.refl _ _) _))⟩
               |false=>
                have hlt:=Hlt.out rfl;clear Hlt;go_quiet (fail)
                go_wp2_with fail
                go_ret;exact⟨rfl,_,_,_,_,_,_,HK.out.next HST.out (by rw[Hes.out];exact HDf.out.below (Below.drewN_ (Below.refl _ _) _))⟩
             |false=>
              as_aux_lemma=>
               have HDa:=HD21;have n4:=Ji2 p4;have g9:=QJ.frozen HDa.out.day.box 9;have HDf:=QQ (HDa.out.sinceTo 0);have es:sinceN q m m1 since=0:=by unfold sinceN;rw[if_neg p4]
               obtain⟨-,-,-,-,-,-,-,-,-,k9,-⟩:=HD21.out.day.cells;have Hes:=QQ es;clear es p4;go_upto_region 52 with fail
               obtain⟨-,-,-,-,-,k5,k6,-,-,k9,k10⟩:=HD21.out.day.cells;have Hlt:Hid (hands1=false→0<c.tk* (1+c.mo)):=QQ (fun e=>by
                have h1:=((HST.out.time e).2).lt HST.out.plain.ok_;rw[HDf.out.day.cfg.tk,HDf.out.day.cfg.mo,Hes.out]at h1;exact h1)
               have hmo:=HK.out.c0.mo;have htk:=HK.out.c0.tk;have hmo:0≤c.mo∧c.mo≤10:=hmo;have htk:1≤c.tk∧c.tk≤1000000:=htk;have hmul:0≤c.tk* (1+c.mo)∧c.tk* (1+c.mo)≤11000000:=⟨Int.mul_nonneg (by omega) (by omega),Int.le_trans (Int.mul_le_mul htk.2 (show 1+c.mo≤11 by omega) (by omega) (by omega)) (by omega)⟩;obtain⟨tk,etk⟩: ∃x,c.tk=x:=⟨_,rfl⟩;obtain⟨mo,emo⟩: ∃x,c.mo=x:=⟨_,rfl⟩;rw[etk,emo]at Hlt hmul;rw[etk]at k5;rw[emo]at k6 hmo;have v1:IntKind.i64.wrap (1+mo)=1+mo:=by rw[IntWalk.i64_left];exact IntWalk.wrap64_in _ (by omega)
               have v2:IntKind.i64.wrap (tk* (1+mo))=tk* (1+mo):=by rw[IntWalk.i64_left];exact IntWalk.wrap64_in _ (by omega)
               clear hmo htk hmul etk emo
               cases hands1 with
               |true=>
                clear Hlt;go_quiet (fail)
                go_wp2_with fail
                go_ret;exact⟨rfl,_,_,_,_,_,_,HK.out.next HST.out (by rw[Hes.out];exact HDf.out.below (Below.drewN_ (Below.refl _ _) _))⟩
               |false=>
                have hlt:=Hlt.out rfl;clear Hlt;go_quiet (fail)
                go_wp2_with fail
                go_ret;exact⟨rfl,_,_,_,_,_,_,HK.out.next HST.out (by rw[Hes.out];exact HDf.out.below (Below.drewN_ (Below.refl _ _) _))⟩
end Go.Proofs.YtnlngicnfegjgaaGreat
