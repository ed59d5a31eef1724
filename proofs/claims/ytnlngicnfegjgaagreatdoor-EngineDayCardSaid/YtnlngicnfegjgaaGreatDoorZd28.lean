/- Contracts and walks that the law's proof needs. -/
import Derived.WalkKit
import Derived.WalkLawsBesides
import Derived.WalkSpells
import Derived.Deep.QuietTactic
import Derived.BigQuiet
import Derived.Deep.LoopGhost
import Derived.Deep.DeepCutAuto
import Derived.Deep.CutBlock
import Derived.Deep.AppendLies
import Derived.Shelf.Abstract
import Derived.Laws.EntriesVeiled
import Derived.Test.YtnlngicnfegjgaaGreatDoorZd27
import Derived.StillTailTactics
import Derived.Test.YtnlngicnfegjgaaGreatDoorZd23
set_option linter.unusedVariables false
set_option maxRecDepth 100000
set_option maxHeartbeats 8000000
namespace Go.Proofs.YtnlngicnfegjgaaGreatDoor
open Go.RowKit
theorem Xi7 {σ:Type} {K:σ→List QX→List QX→(Nat→Prop)→World→Prop} {al:σ→Int→Bool} {tr:σ→Int→σ} {cnt:σ→Nat} {ga gt:FuncId} {fa ca ct:Array Value} {b:Nat}
  (hs:Qa3 K al tr cnt ga gt fa ca ct 119 (.pointer (some ⟨b,0,none⟩)) .nilIface)
  (hside: ∀ {s:σ} {L1 L2:List QX} {F:Nat→Prop} {w:World},K s L1 L2 F w→ ∀sd,VV sd→Calls Tryz.prog 42 #[.pointer (some ⟨b,0,none⟩),.int .i64 sd] w fun e w'=>Below w.heap.size w w'∧ ∃A c,e= .returned (.tuple #[.slice A (JY sd L1 L2).length c,.nilIface])∧QY w' A (JY sd L1 L2).length c 29 5 (QW U7 (JY sd L1 L2))∧ ∀g,QZ A=some g→w.heap.size≤g)
  (w:World) (s0:σ) (G:Nat→Prop) (L1 L2:List QX) (h:K s0 L1 L2 G w) (h0:cnt s0=0) (oi ok op oq:Int) (hf:Qd5 ⟨oi,2,ok,op,oq⟩):
  Calls Tryz.prog 94 #[.pointer (some ⟨b,0,none⟩),KQ ⟨oi,2,ok,op,oq⟩,.func (.func ga) fa ca,.func (.func gt) #[] ct] w fun e w'=>Ji1 K w w' G 2 L1 L2 (ZX al tr (JY 1 L1 L2) ⟨oi,2,ok,op,oq⟩ s0) e:=by
 have HS:=QQ hs
 have ega:=hs.ega
 have egt:=hs.egt
 have hlt:=hs.lt h
 have hlists:=hs.ok h
 obtain⟨l,hl⟩: ∃l,JY 1 L1 L2=l:=⟨_,rfl⟩
 rw[hl]
 have hok: ∀x∈l,OkO x:=fun x hx=>by
  rw[←hl]at hx;refine hlists.ok x ?_;unfold JY at hx
  split at hx
  ·exact List.mem_append_left _ hx
  ·exact List.mem_append_right _ hx
 have hlen:l.length≤100:=by
  have h1:=hlists.cnt;rw[List.length_append]at h1;rw[←hl];unfold JY
  split<;>omega
 obtain⟨n,hn⟩: ∃n,l.length=n:=⟨_,rfl⟩
 rw[hn]at hlen
 have hA1:Below w.heap.size w (w.alloc (.cells (KZ ⟨oi,2,ok,op,oq⟩) 29)):=(Below.refl _ w).alloc (Nat.le_refl _) _
 have hA2:Below w.heap.size w ((w.alloc (.cells (KZ ⟨oi,2,ok,op,oq⟩) 29)).alloc (.cells (KZ noO) 29)):=hA1.alloc (by simp) _
 have hX:=QJ.alloc (QJ.new w 29 (KZ ⟨oi,2,ok,op,oq⟩)) (.cells (KZ noO) 29)
 have hY:QJ ((w.alloc (.cells (KZ ⟨oi,2,ok,op,oq⟩) 29)).alloc (.cells (KZ noO) 29)) (w.heap.size+1) 29 (KZ noO):=by
  have:=QJ.new (w.alloc (.cells (KZ ⟨oi,2,ok,op,oq⟩) 29)) 29 (KZ noO);rw[World.size_alloc]at this;exact this
 obtain⟨w2,ew2⟩: ∃W,((w.alloc (.cells (KZ ⟨oi,2,ok,op,oq⟩) 29)).alloc (.cells (KZ noO) 29))=W:=⟨_,rfl⟩
 rw[ew2]at hA2 hX hY
 have hK2:=hs.keep h (QK.of_below hA2 (fun _=>False)) (fun _ _=>id)
 have hcall:=hside hK2 1 KX
 rw[hl,hn]at hcall
 have HC:=QQ hcall
 have HX:=QQ hX
 have HY:=QQ hY
 have HA2:=QQ hA2
 have HLt:=QQ hlt
 have HK2:=QQ hK2
 have HOk:=QQ hok
 have HN:=QQ hn
 have HL:=QQ hl
 have hxs:=hX.lt
 have hys:=hY.lt
 have hqf:V3 oq:=hf.2.2.2.2
 obtain⟨x0,x1,x2,x3,x4⟩:=JW hX
 dsimp only at x0 x1 x2 x3 x4
 clear hs h hside hlists hok hA1 hA2 hX hY hK2 hcall hn hlt hf
 unfold KZ noO at ew2
 dsimp only at ew2
 show Calls Tryz.prog 94 #[.pointer (some ⟨b,0,none⟩),.agg #[.int .i64 oi,.int .i64 2,.int .i64 ok,.int .i64 op,.int .i64 oq],.func (.func ga) fa ca,.func (.func gt) #[] ct] w _
 go_enter Tryz.func94,Tryz.ntmps94
 go_upto_region 2 with fail
 try rw[ew2]
 clear ew2
 go_wp2_with fail
 refine HC.out.mono ?_
 rintro e w3 ⟨hb3,AL,cl,rfl,hrow3,hnew3⟩
 have hw2:w.heap.size≤w2.heap.size:=HA2.out.size
 have HST:=QQ (show Qv0 K al tr cnt w w3 s0 s0 G G L1 L2 L1 L2 l oi 2 ok op oq oq w.heap.size (w.heap.size+1) AL n cl none 0 [] [] 0 from
  ⟨⟨⟨HS.out.keep HK2.out (QK.of_below hb3 (fun _=>False)) (fun _ _=>id),XW.of_below (HA2.out.trans (hb3.mono HA2.out.size)),World.ownsRow_nil _ _ _ _,fun g hg=>by simp[QZ]at hg⟩,
   QJ.keep HX.out hb3,QJ.keep HY.out hb3,fun e=>Nat.lt_irrefl _ (HLt.out _ e),fun e=>by have:=HLt.out _ e;omega,by simp[QZ],by simp[QZ],by omega,hrow3,fun g hg=>⟨fun e=>by have:=HLt.out _ e;have:=hnew3 g hg;omega,by simp[QZ],by have:=hnew3 g hg;omega,by have:=hnew3 g hg;omega⟩,Nat.le_refl _,by omega⟩,by rw[List.drop_zero];rfl,rfl,by rw[List.drop_zero,List.nil_append];exact HL.out,Nat.zero_le _,hqf,by rw[h0];exact Nat.zero_le _⟩)
 clear hb3 hrow3 hnew3 x0 x1 x2 x3 x4 HX HY HC HK2 HLt
 obtain⟨X,eX⟩: ∃X,w.heap.size=X:=⟨_,rfl⟩
 obtain⟨Y,eY⟩: ∃Y,w.heap.size+1=Y:=⟨_,rfl⟩
 rw[eY,eX]at HST⊢
 have HEX:=QQ eX
 clear eX eY hxs hys HA2 hw2
 go_wp2_with fail
 go_loopg [11,28] n (fun gg s11 s28 wr=> ∃(k:Nat) (q:Int) (s:σ) (G':Nat→Prop) (M1 M2:List QX) (A:Option Addr) (c:Nat) (F:List JV) (R:List QX),k≤n∧gg=n-k∧s28= .int .i64 k∧s11= .slice A F.length c∧Hid (Qv0 K al tr cnt w wr s0 s G G' L1 L2 M1 M2 l oi 2 ok op oq q X Y AL n cl A c F R k))
 case atStart=>exact⟨0,oq,s0,G,L1,L2,none,0,[],[],Nat.zero_le _,rfl,rfl,rfl,HST⟩
 case round=>
  obtain⟨k,q,s,G',M1,M2,A,c,F,R,hk,rfl,rfl,rfl,HW⟩:=hrel;clear HST
  by_cases hlt:k<n
  ·have hkl:k<l.length:=by rw[HN.out];exact hlt
   obtain⟨gl,hgl⟩:=Qc6 HW.out.v.lr (by omega);subst hgl;obtain⟨y0,y1,y2,y3,y4⟩:=Qz7 HW.out.v.lr hkl;have hdrop:=List.drop_eq_getElem_cons hkl;have hxok:=HOk.out l[k] (List.getElem_mem hkl);obtain⟨x,hx⟩: ∃x,l[k]=x:=⟨_,rfl⟩;rw[hx]at y0 y1 y2 y3 y4 hdrop hxok;have HDrop:=QQ hdrop;have HXok:=QQ hxok;have hltz:(k:Int)< (n:Int):=by omega
   have hk7:(0:Int)≤(k:Int):=by omega
   clear hdrop hxok hx;go_upto_region 6 with fail
   obtain⟨wa,ewa⟩: ∃W,(wr.alloc (.cells #[.int .i64 x.id,.int .i64 x.side,.int .i64 x.kind,.int .i64 x.price,.int .i64 x.qty] 29))=W:=⟨_,rfl⟩;obtain⟨Z,eZ⟩: ∃Z,wr.heap.size=Z:=⟨_,rfl⟩;have hZ:=QJ.new wr 29 (KZ x);unfold KZ at hZ;have hWa:=HW.out.below HS.out ((Below.refl wr.heap.size wr).alloc (Nat.le_refl _) (.cells #[.int .i64 x.id,.int .i64 x.side,.int .i64 x.kind,.int .i64 x.price,.int .i64 x.qty] 29));have hGZ: ¬G' wr.heap.size:=fun e=>Nat.lt_irrefl _ (HS.out.lt HW.out.v.m.mk_ _ e)
   have hZA:QZ A≠some wr.heap.size:=fun e=>Nat.lt_irrefl _ (HW.out.v.m.row.lt e)
   have hZX:wr.heap.size≠X:=fun e=>by have:=QJ.lt HW.out.v.bx;omega
   rw[ewa]at hZ hWa⊢;rw[eZ]at hZ hGZ hZA hZX⊢;have HZA:=QQ hZA;have HZX:=QQ hZX;clear hZA hZX;obtain⟨x0,x1,x2,x3,x4⟩:=JW hWa.v.bx;obtain⟨z0,z1,z2,z3,z4⟩:=Y4 hZ;dsimp only at x0 x1 x2 x3 x4;have HWa:=QQ hWa;have HZ:=QQ hZ;have HGZ:=QQ hGZ;clear hWa hZ hGZ HW ewa eZ y0 y1 y2 y3 y4
   by_cases c0:q<1
   ·have d0:decide (q<1)=true:=J5 c0
    have HC0:=QQ c0;clear c0;have hY:=HWa.out.v.by_;obtain⟨v0,v1,v2,v3,v4⟩:=JW hY;have f0:=QJ.frozen hY 0;have f1:=QJ.frozen hY 1;have f2:=QJ.frozen hY 2;have f3:=QJ.frozen hY 3;have f4:=QJ.frozen hY 4;obtain⟨hy1,hy2⟩:=Qj5 hY (.int .i64 oi) (.int .i64 2) (.int .i64 ok) (.int .i64 op) (.int .i64 q);have HY1:=QQ hy1;have HY2:=QQ hy2;clear hY hy1 hy2;go_wp2_with fail
    go_region
    go_wp2_with fail
    exact Qj6 rfl (o:=⟨oi,2,ok,op,q⟩) Y rfl rfl rfl rfl (QJ.drew HY1.out) (HWa.out.done HS.out (by rw[HDrop.out];exact Xa6 HC0.out) (HY2.out.then_ (Below.drew (Below.refl _ _))))
   ·have d0:decide (q<1)=false:=IQ c0
    have HC0:Hid (1≤q):=QQ (by omega);clear c0
    by_cases c1:x.kind=2
    ·have d1:=J4 c1
     have HC1:=QQ c1;clear c1;go_wp2_with fail
     go_roundg (n- (k+1))
     case measure=>omega
     case rel=>exact⟨k+1,q,s,G',M1,M2,A,c,F,R++ [x],by omega,rfl,by go_num,rfl,QQ (HWa.out.pass HDrop.out (by have:=HC0.out;omega) HC1.out)⟩
    ·have d1:=UQ c1
     have HC1:=QQ c1;clear c1;go_upto_region 9 with fail
     go_cut [42] (fun s42 wx=>s42= .bool (YQ ⟨oi,2,ok,op,q⟩ x)∧wx=wa)
     case first=>
      by_cases c2:ok=2
      ·have d2:=Ji5 c2
       have HE:Hid (YQ ⟨oi,2,ok,op,q⟩ x=false):=QQ (by unfold YQ;dsimp only;rw[J4 c2];rfl);clear c2;go_wp2_with fail
       go_meet;exact⟨by rw[HE.out],rfl⟩
      ·have d2:=Ji6 c2
       by_cases c3:x.price<op
       ·have d3:=J5 c3
        have HE:Hid (YQ ⟨oi,2,ok,op,q⟩ x=true):=QQ (by unfold YQ;dsimp only;rw[UQ c2];simp;exact c3);clear c2 c3;go_wp2_with fail
        go_meet;exact⟨by rw[HE.out],rfl⟩
       ·have d3:=IQ c3
        have HE:Hid (YQ ⟨oi,2,ok,op,q⟩ x=false):=QQ (by unfold YQ;dsimp only;rw[UQ c2];simp;omega);clear c2 c3;go_wp2_with fail
        go_meet;exact⟨by rw[HE.out],rfl⟩
     case rest=>
      obtain⟨rfl,rfl⟩:=hcut;obtain⟨bb,hbb⟩: ∃bb,YQ ⟨oi,2,ok,op,q⟩ x=bb:=⟨_,rfl⟩;rw[hbb];have HBB:=QQ hbb;clear hbb
      cases bb with
      |true=>
       have hY:=HWa.out.v.by_;obtain⟨v0,v1,v2,v3,v4⟩:=JW hY;have f0:=QJ.frozen hY 0;have f1:=QJ.frozen hY 1;have f2:=QJ.frozen hY 2;have f3:=QJ.frozen hY 3;have f4:=QJ.frozen hY 4;obtain⟨hy1,hy2⟩:=Qj5 hY (.int .i64 oi) (.int .i64 2) (.int .i64 ok) (.int .i64 op) (.int .i64 q);have HY1:=QQ hy1;have HY2:=QQ hy2;clear hY hy1 hy2;go_wp2_with fail
       go_region
       go_wp2_with fail
       exact Qj6 rfl (o:=⟨oi,2,ok,op,q⟩) Y rfl rfl rfl rfl (QJ.drew HY1.out) (HWa.out.done HS.out (by rw[HDrop.out];exact Jn1 (by have:=HC0.out;show¬q<1;omega) HC1.out HBB.out) (HY2.out.then_ (Below.drew (Below.refl _ _))))
      |false=>
       go_wp2_with fail
       go_at_fn ga
       refine(HS.out.allows x.price HWa.out.v.m.mk_ ⟨HXok.out.2.2.1.1,HXok.out.2.2.1.2⟩).mono ?_;rintro e wb ⟨rfl,hbb⟩;have hWb:=HWa.out.below HS.out hbb;have hZb:=QJ.keep HZ.out hbb;obtain⟨ab,hab⟩: ∃ab,al s x.price=ab:=⟨_,rfl⟩;rw[hab];have HAB:=QQ hab;have HWa:=QQ hWb;have HZ:=QQ hZb;obtain⟨x0,x1,x2,x3,x4⟩:=JW hWb.v.bx;obtain⟨z0,z1,z2,z3,z4⟩:=Y4 hZb;dsimp only at x0 x1 x2 x3 x4;clear hWb hZb hbb hab
       cases ab with
       |false=>
        have hY:=HWa.out.v.by_;obtain⟨v0,v1,v2,v3,v4⟩:=JW hY;have f0:=QJ.frozen hY 0;have f1:=QJ.frozen hY 1;have f2:=QJ.frozen hY 2;have f3:=QJ.frozen hY 3;have f4:=QJ.frozen hY 4;obtain⟨hy1,hy2⟩:=Qj5 hY (.int .i64 oi) (.int .i64 2) (.int .i64 ok) (.int .i64 op) (.int .i64 q);have HY1:=QQ hy1;have HY2:=QQ hy2;clear hY hy1 hy2;go_wp2_with fail
        go_region
        go_wp2_with fail
        exact Qj6 rfl (o:=⟨oi,2,ok,op,q⟩) Y rfl rfl rfl rfl (QJ.drew HY1.out) (HWa.out.done HS.out (by rw[HDrop.out];exact Xa7 (by have:=HC0.out;show¬q<1;omega) HC1.out HBB.out HAB.out) (HY2.out.then_ (Below.drew (Below.refl _ _))))
       |true=>
        clear x0 x1 x2 x3 x4 z0 z1 z2 z3 z4;obtain⟨m,hm⟩: ∃m,min q x.qty=m:=⟨_,rfl⟩;have hq1:=HC0.out;have hxq:=HXok.out.2.2.2;have hqb:=HWa.out.qb;unfold V3 at hqb;have hm1:1≤m:=by omega
        have hmx:m≤x.qty:=by omega
        have hmq:m≤q:=by omega
        have HM:=QQ hm;clear hm;go_upto_region 13 with fail
        obtain⟨x0,x1,x2,x3,x4⟩:=JW HWa.out.v.bx;obtain⟨z0,z1,z2,z3,z4⟩:=Y4 HZ.out;dsimp only at x0 x1 x2 x3 x4
        go_cut [16] (fun s16 wx=>s16= .int .i64 m∧wx=wb)
        case first=>
         go_wp2_with fail
         all_goals go_meet
         all_goals refine⟨?_,rfl⟩
         all_goals rw[←HM.out]
         all_goals congr 1
         all_goals omega
        case rest=>
         obtain⟨rfl,rfl⟩:=hcut;have hF1:F.length≤100000000:=by have:=HWa.out.fl;omega
         have HCn:Hid (cnt s≤F.length):=QQ HWa.out.cn;have HCk:Hid (cnt s≤1000):=QQ (by have:=HWa.out.fl;have:=HWa.out.cn;omega);obtain⟨i0,hi0,hz0,hz1,hz2⟩:=info_parts Jk2;go_upto_region 15 with fail
         have hal:Below wc.heap.size wc (wc.alloc (.cells #[.int .i64 oi,.int .i64 x.id,.int .i64 x.price,.int .i64 m] 89)):=(Below.refl _ _).alloc (Nat.le_refl _) _;have hQ:=QJ.new wc 89 #[.int .i64 oi,.int .i64 x.id,.int .i64 x.price,.int .i64 m];obtain⟨Q,eQ⟩: ∃Q,wc.heap.size=Q:=⟨_,rfl⟩;have HQ0:Hid (wc.heap.size≤Q):=QQ (by omega);obtain⟨wf,ewf⟩: ∃W,wc.alloc (.cells #[.int .i64 oi,.int .i64 x.id,.int .i64 x.price,.int .i64 m] 89)=W:=⟨_,rfl⟩;have hWf:=HWa.out.below HS.out hal;have hXQ:X≠wc.heap.size:=fun e=>by have:=QJ.lt HWa.out.v.bx;omega
         have hZf:=QJ.keep HZ.out hal;rw[ewf]at hQ hWf hZf hal⊢;have HAL:=QQ hal;rw[eQ]at hQ hXQ⊢;have HXQ:=QQ hXQ;clear hXQ;have HWf:=QQ hWf;have HZf:=QQ hZf;have HQ:=QQ hQ;clear x0 x1 x2 x3 x4 z0 z1 z2 z3 z4 hal ewf eQ hWf hZf;obtain⟨x0,x1,x2,x3,x4⟩:=JW HWf.out.v.bx;obtain⟨z0,z1,z2,z3,z4⟩:=Y4 HZf.out;obtain⟨q0,q1,q2,q3⟩:=Xr9 hQ;dsimp only at x0 x1 x2 x3 x4;clear hQ;have f0:=QJ.frozen HQ.out 0;have f1:=QJ.frozen HQ.out 1;have hk1:=QK.set_ wf ⟨Q,0,none⟩ (.int .i64 x.id);have hxq2:=(hk1.cell (p:=⟨X,0,none⟩) (QJ.lt HWf.out.v.bx) (fun e=>HXQ.out e)).trans x0;have hq1:=QJ.set_ HQ.out 0 (.int .i64 x.id);have g1:(wf.setCell ⟨Q,0,none⟩ (.int .i64 x.id)).cell? ⟨Q,1,none⟩=some (.int .i64 x.id):=by rw[QJ.cell hq1];rfl
         have g2:=QJ.frozen hq1 1;clear hk1 hq1;go_upto_region 16 with fail
         go_region
         have hkk:=((QK.set_ wf ⟨Q,0,none⟩ (.int .i64 x.id)).trans (QK.set_ _ ⟨Q,1,none⟩ (.int .i64 oi)) (fun _ h=> .inl h)).then_ (Below.drew (Below.refl _ _));have hb2:=HAL.out.trans (hkk.below (fun i e=>e▸HQ0.out) HAL.out.size);have hW2:=HWa.out.below HS.out hb2;have hZ2:=QJ.keep HZ.out hb2;have hQ2:QJ ((wf.setCell ⟨Q,0,none⟩ (.int .i64 x.id)).setCell ⟨Q,1,none⟩ (.int .i64 oi)).drew Q 89 #[.int .i64 x.id,.int .i64 oi,.int .i64 x.price,.int .i64 m]:=QJ.drew (QJ.set_ (QJ.set_ HQ.out 0 _) 1 _);obtain⟨wg,ewg⟩: ∃W,((wf.setCell ⟨Q,0,none⟩ (.int .i64 x.id)).setCell ⟨Q,1,none⟩ (.int .i64 oi)).drew=W:=⟨_,rfl⟩;rw[ewg]at hW2 hZ2 hQ2⊢;clear x0 x1 x2 x3 x4 z0 z1 z2 z3 z4 q0 q1 q2 q3 hkk hb2 ewg f0 f1 hxq2 g1 g2 HWf HZf HQ;have HWf:=QQ hW2;have HZf:=QQ hZ2;obtain⟨x0,x1,x2,x3,x4⟩:=JW HWf.out.v.bx;obtain⟨z0,z1,z2,z3,z4⟩:=Y4 HZf.out;obtain⟨q0,q1,q2,q3⟩:=Xr9 hQ2;dsimp only at x0 x1 x2 x3 x4;have HQ:=QQ hQ2;clear hW2 hZ2 hQ2;have HO1:=QQ (World.ownsRow.alloc (show wg.ownsRow 0 89 4 (.slice A F.length c) F.length (QW Qb1 F)from HWf.out.v.m.row) (.cells #[.int .i64 x.id,.int .i64 oi,.int .i64 x.price,.int .i64 m] 89));go_upto_region 18 with(at_builtin;refine wpList_append_lies _ rfl _ _ 42 rfl 0 89 i0 _ 4 32 Tryz.underlying42 hi0 hz0 hz1 hz2 rfl (by omega) (.slice A F.length c) F.length _ rfl HO1.out ⟨wg.heap.size,0,none⟩ 1 1 [.int .i64 x.id,.int .i64 oi,.int .i64 x.price,.int .i64 m] rfl rfl (World.news_of_block (cs:= #[.int .i64 x.id,.int .i64 oi,.int .i64 x.price,.int .i64 m]) (t:=89) (fr:=(0,0)) (heap_alloc_new wg _)) (by simp[Value.oneCell']) (by omega) (by unfold maxLen;omega) (by omega) (by simp) (wg.heap.size+1) (by simp) ?_;intro gg cap w6 hown hgrow hat6 hlt6)
         have hk6:=Ql1 hgrow;rw[XV]at hk6 hat6;have hV6:=HWf.out.v.fill HS.out (f:=⟨x.id,oi,x.price,m⟩) hk6 hown (hat6.imp id (fun e=>by omega));have hZ6:=QJ.keeps HZf.out hk6 HZA.out;obtain⟨hget,hown6,hoth6⟩:=Xo3 (n:=m) (HS.out.ok hV6.m.mk_) KK (HWf.out.oth.trans (by rw[HDrop.out]));have hcc:=HS.out.cut x m hV6.m.mk_ hget hm1 hmx;have HCC:=QQ hcc;have HV6:=QQ hV6;have HZ6:=QQ hZ6;have HOwn:=QQ (hown6.trans HWf.out.own);have HOth:=QQ hoth6;have HEq:=QQ (show ZX al tr l ⟨oi,2,ok,op,oq⟩ s0=O9.join (F++ [⟨x.id,oi,x.price,m⟩]) (R++Qg4 x m) (ZX al tr (l.drop (k+1)) ⟨oi,2,ok,op,q-m⟩ (tr s x.price))from HWf.out.eq.trans (by rw[HDrop.out];exact Jt5 (by have:=HC0.out;show¬q<1;omega) HC1.out HBB.out HAB.out HM.out));have HFl:=QQ HWf.out.fl;clear x0 x1 x2 x3 x4 z0 z1 z2 z3 z4 q0 q1 q2 q3 hk6 hown hgrow hat6 hlt6 hV6 hZ6 hget hown6 hoth6 hcc HO1 hi0 hz0 hz1 hz2 HWf HZf HQ HWa HZ;obtain⟨z0,z1,z2,z3,z4⟩:=Y4 HZ6.out;go_wp2_with fail
         refine HCC.out.mono ?_;rintro e w7 ⟨rfl,G2,hk7,hb7⟩;have hV7:=HV6.out.turn hk7 hb7;have hZ7:=QJ.keeps HZ6.out hb7.1 (fun e=>HGZ.out e);have hV8:=hV7.lots HS.out (q':=q-m);have hZ8:=QJ.keeps hZ7 (QK.set_ w7 ⟨X,4,none⟩ (.int .i64 (q-m))) HZX.out;have i1:RowKit.wrap64 (q-m)=q-m:=by unfold RowKit.wrap64;omega
         have f4:=QJ.frozen hV7.bx 4;obtain⟨x0,x1,x2,x3,x4⟩:=JW hV7.bx;dsimp only at x0 x1 x2 x3 x4;have HV8:=QQ hV8;have HZ8:=QQ hZ8;clear hV7 hZ7 hV8 hZ8 hk7 hb7 z0 z1 z2 z3 z4 HV6 HZ6 HCC;go_upto_region 20 with fail
         obtain⟨w8,ew8⟩: ∃W,w7.setCell ⟨X,4,none⟩ (.int .i64 (q-m))=W:=⟨_,rfl⟩;rw[ew8]at HV8 HZ8⊢;clear ew8 x0 x1 x2 x3 x4 f4;obtain⟨z0,z1,z2,z3,z4⟩:=Y4 HZ8.out;go_wp2_with fail
         go_at_fn gt
         refine(HS.out.trades x.price HV8.out.m.mk_ ⟨HXok.out.2.2.1.1,HXok.out.2.2.1.2⟩ HCk.out).mono ?_;rintro e w9 ⟨rfl,G3,hk9,hb9⟩;have HV9:=QQ (HV8.out.turn hk9 hb9);clear hk9 hb9 z0 z1 z2 z3 z4 HV8 HZ8 i1;go_wp2_with fail
         go_roundg (n- (k+1))
         case measure=>omega
         case rel=>exact⟨k+1,q-m,tr s x.price,G3,Qf6 M1 x m,Qf6 M2 x m,some ⟨gg,0,none⟩,cap,F++ [⟨x.id,oi,x.price,m⟩],R++Qg4 x m,by omega,rfl,by go_num,by simp,QQ ⟨HV9.out,HEq.out,HOwn.out,HOth.out,by rw[List.length_append,List.length_singleton];exact Nat.succ_le_succ HFl.out,by unfold V3;omega,by have h1:=HS.out.cnt_ s x.price;have h2:=HCn.out;rw[List.length_append,List.length_singleton];omega⟩⟩
  ·obtain rfl:k=n:=by omega
   have hltz: ¬(k:Int)< (k:Int):=by omega
   have hY:=HW.out.v.by_;obtain⟨v0,v1,v2,v3,v4⟩:=JW hY;obtain⟨x0,x1,x2,x3,x4⟩:=JW HW.out.v.bx;dsimp only at x0 x1 x2 x3 x4;have f0:=QJ.frozen hY 0;have f1:=QJ.frozen hY 1;have f2:=QJ.frozen hY 2;have f3:=QJ.frozen hY 3;have f4:=QJ.frozen hY 4;obtain⟨hy1,hy2⟩:=Qj5 hY (.int .i64 oi) (.int .i64 2) (.int .i64 ok) (.int .i64 op) (.int .i64 q);have HY1:=QQ hy1;have HY2:=QQ hy2;clear hY hy1 hy2;go_wp2_with fail
   go_region
   go_wp2_with fail
   have hdn:l.drop k= []:=List.drop_eq_nil_of_le (by rw[HN.out];exact Nat.le_refl _);exact Qj6 rfl (o:=⟨oi,2,ok,op,q⟩) Y rfl rfl rfl rfl (QJ.drew HY1.out) (HW.out.done HS.out (by rw[hdn,Xo0,List.append_nil]) (HY2.out.then_ (Below.drew (Below.refl _ _))))
theorem Qy7 {σ:Type} {K:σ→List QX→List QX→(Nat→Prop)→World→Prop} {al:σ→Int→Bool} {tr:σ→Int→σ} {cnt:σ→Nat} {ga gt:FuncId} {fa ca ct:Array Value} {b:Nat}
  (hs:Qa3 K al tr cnt ga gt fa ca ct 119 (.pointer (some ⟨b,0,none⟩)) .nilIface)
  (hside: ∀ {s:σ} {L1 L2:List QX} {F:Nat→Prop} {w:World},K s L1 L2 F w→ ∀sd,VV sd→Calls Tryz.prog 42 #[.pointer (some ⟨b,0,none⟩),.int .i64 sd] w fun e w'=>Below w.heap.size w w'∧ ∃A c,e= .returned (.tuple #[.slice A (JY sd L1 L2).length c,.nilIface])∧QY w' A (JY sd L1 L2).length c 29 5 (QW U7 (JY sd L1 L2))∧ ∀g,QZ A=some g→w.heap.size≤g)
  (w:World) (s0:σ) (G:Nat→Prop) (L1 L2:List QX) (h:K s0 L1 L2 G w) (h0:cnt s0=0) (oi sd ok op oq:Int) (hsd:VV sd) (hf:Qd5 ⟨oi,sd,ok,op,oq⟩):
  Calls Tryz.prog 94 #[.pointer (some ⟨b,0,none⟩),.agg #[.int .i64 oi,.int .i64 sd,.int .i64 ok,.int .i64 op,.int .i64 oq],.func (.func ga) fa ca,.func (.func gt) #[] ct] w fun e w'=>Ji1 K w w' G sd L1 L2 (ZX al tr (JY (3-sd) L1 L2) ⟨oi,sd,ok,op,oq⟩ s0) e:=by
 rcases hsd with rfl|rfl
 ·exact Xi6 hs hside w s0 G L1 L2 h h0 oi ok op oq hf
 ·exact Xi7 hs hside w s0 G L1 L2 h h0 oi ok op oq hf
theorem Ks2 {w:World} {e:Nat} {F:Nat→Prop} {m:ZJ} (h:UK w e F m) (hI:Qj3 m) (oi ok op oq:Int) (hf:Qd5 ⟨oi,1,ok,op,oq⟩) (hq:0≤oq):
  Calls Tryz.prog 47 #[.pointer (some ⟨e,0,none⟩),KQ ⟨oi,1,ok,op,oq⟩] w fun ev w'=>ZV w w' e F (fun Fs=>Fs=(ZW m ⟨oi,1,ok,op,oq⟩).fills) (Z2 m ⟨oi,1,ok,op,oq⟩) ev:=by
 obtain⟨cs,tb,bb,bk,im,T,tc,Al,lc,lv,bu,se,Ap,pc,es,mc,G,own,hM,hF⟩:=h
 have hle:=Xe0 (al:=fun la p=>X4 m.st m.dy m.an la p) (tr:=fun _ p=>p) (JY (3-1) m.L1 m.L2) ⟨oi,1,ok,op,oq⟩ m.la hf hq (Xi5 hM.book.lists _)
 have hins:=Xr7 hM.book.lists ⟨oi,1,ok,op,oq⟩
 have hlen:=Xr6 hM.book.lists ⟨oi,1,ok,op,oq⟩
 have hr0:ZX (fun la p=>X4 m.st m.dy m.an la p) (fun _ p=>p) (JY (3-1) m.L1 m.L2) ⟨oi,1,ok,op,oq⟩ m.la=ZW m ⟨oi,1,ok,op,oq⟩:=rfl
 rw[hr0]at hle
 obtain⟨r,hr⟩: ∃r,ZW m ⟨oi,1,ok,op,oq⟩=r:=⟨_,rfl⟩
 rw[hr]at hle hins hlen
 obtain⟨fl,⟨i1,i2,i3,i4,i5⟩,sp,st,rst⟩:=r
 dsimp only at hle hins hlen
 have HR:=QQ hr
 have HLe:=QQ hle.1
 have HIns:=QQ hins
 have HLen:=QQ hlen
 have HI:=QQ hI
 have HF:=QQ hF
 have HLs:=QQ hM.book.lists
 have HFew:Hid (lv.length≤100):=QQ (by have h1:=hM.is.few hM.ind.ok;have h2:=hM.book.lists.cnt;unfold Qc0 at h1;omega)
 clear hr0 hr hle hins hlen hI hF
 have hqv:Below w.heap.size w (w.alloc (.cells #[.pointer (some ⟨e,0,none⟩)] 37)):=(Below.refl _ w).alloc (Nat.le_refl _) _
 have hv:=QJ.new w 37 #[.pointer (some ⟨e,0,none⟩)]
 obtain⟨w0,ew0⟩: ∃W,w.alloc (.cells #[.pointer (some ⟨e,0,none⟩)] 37)=W:=⟨_,rfl⟩
 rw[ew0]at hqv hv
 have hqx:Below w0.heap.size w0 (w0.alloc (.cells #[.int .i64 oi,.int .i64 1,.int .i64 ok,.int .i64 op,.int .i64 oq] 29)):=(Below.refl _ w0).alloc (Nat.le_refl _) _
 have hx:=QJ.new w0 29 #[.int .i64 oi,.int .i64 1,.int .i64 ok,.int .i64 op,.int .i64 oq]
 obtain⟨w1,ew1⟩: ∃W,w0.alloc (.cells #[.int .i64 oi,.int .i64 1,.int .i64 ok,.int .i64 op,.int .i64 oq] 29)=W:=⟨_,rfl⟩
 rw[ew1]at hqx hx
 have hvx:QJ w1 w.heap.size 37 #[.pointer (some ⟨e,0,none⟩)]:=QJ.keep hv hqx
 have hb1:Below w.heap.size w w1:=hqv.trans (hqx.mono hqv.size)
 have hM1:=hM.below hb1
 have hnv:(∀k,¬own w.heap.size k)∧(∀k,¬own w0.heap.size k)∧w.heap.size≠w0.heap.size:=by
  have l1:=QJ.lt hv;exact⟨fun k hk=>by have:=hM.ok.lt _ k hk;omega,fun k hk=>by have:=hM.ok.lt _ k hk;omega,by omega⟩
 obtain⟨V,eV⟩: ∃g,w.heap.size=g:=⟨_,rfl⟩
 obtain⟨X,eX⟩: ∃g,w0.heap.size=g:=⟨_,rfl⟩
 have hVl:w.heap.size≤V:=by omega
 rw[eV]at hvx hnv
 rw[eX]at hx hnv
 have HM1:=QQ hM1
 have HV:=QQ hvx
 have HX:=QQ hx
 have HNV:=QQ hnv
 have HB1:=QQ hb1
 have HVl:=QQ hVl
 have c8:=hM1.cell hM1.ec.c8
 have c7:=hM1.cell hM1.ec.c7
 have v0:w1.cell? ⟨V,0,none⟩=some (.pointer (some ⟨e,0,none⟩)):=by rw[QJ.cell hvx];rfl
 obtain⟨x0,x1,x2,x3,x4⟩:=Y4 hx
 have hcall: ∀W,Below w1.heap.size w1 W→Calls Tryz.prog 94 #[.pointer (some ⟨bk,0,none⟩),.agg #[.int .i64 oi,.int .i64 1,.int .i64 ok,.int .i64 op,.int .i64 oq],.func (.func 95) #[.pointer (some ⟨bb,0,none⟩)] #[],.func (.func 96) #[] #[.pointer (some ⟨V,0,none⟩)]] W fun ev w'=> ∃A c F' M1 M2,ev= .returned (.tuple #[.slice A (List.length fl) c,.agg #[.int .i64 i1,.int .i64 i2,.int .i64 i3,.int .i64 i4,.int .i64 i5],.bool sp])∧Qj4 (Kk5 e bb bk V cs m.st m.dy m.an) W w' st (kF G bb e V) F' M1 M2 A c fl∧JY 1 M1 M2=JY 1 m.L1 m.L2∧JY (3-1) M1 M2=rst:=by
  intro W hb;have hW:=HM1.out.below hb;have u: ∀ {i k k':Nat},own i k→own i k'→k=k':=fun a b=>hW.ok.uni _ _ _ a b
  have hk:Kk5 e bb bk V cs m.st m.dy m.an m.la m.L1 m.L2 (kF G bb e V) W:=⟨G,hW.book,hW.bands,hW.ind.blk,QJ.keep HV.out hb,fun i=>Iff.rfl,fun x=>absurd (u (hW.oG _ x) hW.ob) (by decide),fun x=>absurd (u (hW.oG _ x) hW.oe) (by decide),fun x=>HNV.out.1 _ (hW.oG _ x),fun x=>absurd (u hW.ob (x▸hW.oe)) (by decide),fun x=>HNV.out.1 3 (x▸hW.ob),hW.ec.c7⟩;have hc:=Qy7 (Xd9 e bb bk V cs m.st m.dy m.an) (fun hk sd hs=>by obtain⟨G',hk⟩:=hk;exact Qc5 _ bk G' _ _ hk.book sd hs) W m.la (kF G bb e V) m.L1 m.L2 hk rfl oi 1 ok op oq KX hf;refine hc.mono ?_;rintro ev w' ⟨A,c,F',M1,M2,he,hmm,hs1,hs2⟩;have hr:ZX (fun la p=>X4 m.st m.dy m.an la p) (fun _ p=>p) (JY (3-1) m.L1 m.L2) ⟨oi,1,ok,op,oq⟩ m.la=⟨fl,⟨i1,i2,i3,i4,i5⟩,sp,st,rst⟩:=HR.out;rw[hr]at he hmm hs2;exact⟨A,c,F',M1,M2,he,hmm,hs1,hs2⟩
 have HMt:=QQ hcall
 clear hcall hM hM1 hqv hv hqx hx hvx hb1 hnv hVl hf hq
 unfold KQ
 dsimp only
 go_enter Tryz.func47,Tryz.ntmps47
 go_upto_region 1 with fail
 try rw[ew0]
 try rw[ew1]
 try rw[eV]
 try rw[eX]
 clear ew0 ew1 eV eX
 go_cut [5,6,7] (fun s5 s6 s7 wx=> ∃A c Y G2,s5= .slice A (List.length fl) c∧s6= .pointer (some ⟨Y,0,none⟩)∧s7= .bool sp∧QJ wx Y 29 #[.int .i64 i1,.int .i64 i2,.int .i64 i3,.int .i64 i4,.int .i64 i5]∧Kk6 (Qr5 w1 own G2 4) V X A Y∧Qn1 w1 wx e tb bb bk im V X cs T tc Al lc lv bu se Ap pc es mc own (fun s q=>Q2 s q (Qc0 m)) A c fl #[.int .i64 oi,.int .i64 1,.int .i64 ok,.int .i64 op,.int .i64 oq] (UY m ⟨oi,1,ok,op,oq⟩) G2)
 case first=>
  refine XK (fun t=> [].contains t) (fun W=>W.cell? ⟨V,0,none⟩=some (.pointer (some ⟨e,0,none⟩))∧W.cell? ⟨e,8,none⟩=some (.pointer (some ⟨bk,0,none⟩))∧W.cell? ⟨e,7,none⟩=some (.pointer (some ⟨bb,0,none⟩))∧W.cell? ⟨X,0,none⟩=some (.int .i64 oi)∧W.cell? ⟨X,1,none⟩=some (.int .i64 1)∧W.cell? ⟨X,2,none⟩=some (.int .i64 ok)∧W.cell? ⟨X,3,none⟩=some (.int .i64 op)∧W.cell? ⟨X,4,none⟩=some (.int .i64 oq)) (by kernel_rfl) ⟨v0,c8,c7,x0,x1,x2,x3,x4⟩ (fun hS0=> ?_);refine tM 0 (.pointer (some ⟨e,0,none⟩)) ?_;refine tM 1 (.pointer (some ⟨e,0,none⟩)) ?_;refine tM 2 (.pointer (some ⟨e,8,none⟩)) ?_;refine tM 3 (.pointer (some ⟨bk,0,none⟩)) ?_;refine tM 4 (.agg #[.int .i64 oi,.int .i64 1,.int .i64 ok,.int .i64 op,.int .i64 oq]) ?_;refine tM 5 (.pointer (some ⟨e,0,none⟩)) ?_;refine tM 6 (.pointer (some ⟨e,0,none⟩)) ?_;refine tM 7 (.pointer (some ⟨e,7,none⟩)) ?_;refine tM 8 (.pointer (some ⟨bb,0,none⟩)) ?_;refine tM 9 (.func (.func 95) #[.pointer (some ⟨bb,0,none⟩)] #[]) ?_;refine tM 10 (.func (.func 96) #[] #[.pointer (some ⟨V,0,none⟩)]) ?_;refine Jo3 (i:=11) (j:=16) (by kernel_rfl) ?_ ?_
  ·skip
   refine opM 11 rfl (fun K1 hK1=> ?_);go_simp;refine(HMt.out w1.drew (Below.drew (Below.refl _ _))).mono ?_;rintro ev w4 ⟨A,c,F',M1,M2,rfl,hmm,hs1,hs2⟩;obtain⟨G2,h4,ho4⟩:=Qu2 HM1.out HV.out HX.out HNV.out (Below.drew (Below.refl _ w1)) KX HR.out hmm hs1 hs2;have hS4:=h4.cells;refine hK1 _ _ (fun _=>hS4) ?_;clear hK1 hS0;refine tM 12 (.tuple #[.slice A (List.length fl) c,.agg #[.int .i64 i1,.int .i64 i2,.int .i64 i3,.int .i64 i4,.int .i64 i5],.bool sp]) ?_;refine tM 13 (.slice A (List.length fl) c) ?_;refine tM 14 (.agg #[.int .i64 i1,.int .i64 i2,.int .i64 i3,.int .i64 i4,.int .i64 i5]) ?_;refine tM 15 (.bool sp) ?_;refine oM 16 fun K2 hK2=> ?_
   go_simp;have hq5:Below w4.heap.size w4 (w4.alloc (.cells #[.int .i64 0,.int .i64 0,.int .i64 0,.int .i64 0,.int .i64 0] 29)):=(Below.refl _ _).alloc (Nat.le_refl _) _;have hy5:=QJ.new w4 29 #[.int .i64 0,.int .i64 0,.int .i64 0,.int .i64 0,.int .i64 0];obtain⟨Y,eY⟩: ∃g,w4.heap.size=g:=⟨_,rfl⟩;have hYn4:w4.heap.size≤Y:=Nat.le_of_eq eY;have hYn:w1.heap.size≤Y:=Nat.le_trans h4.keep.size hYn4;obtain⟨w5,ew5⟩: ∃W,w4.alloc (.cells #[.int .i64 0,.int .i64 0,.int .i64 0,.int .i64 0,.int .i64 0] 29)=W:=⟨_,rfl⟩;rw[ew5]at hq5 hy5⊢;rw[eY]at hy5⊢;have h5:=h4.below hq5;refine hK2 _ _ (fun _=>h5.cells) ?_;have hS5:=h5.cells;clear hK2 ew5 eY hS4;refine tM 17 (.slice A (List.length fl) c) ?_;refine oM 18 fun K5 hK5=> ?_
   refine(if_pos (by rfl)).mpr ?_;refine wp_store_row 29 _ _ rfl Y #[.int .i64 i1,.int .i64 i2,.int .i64 i3,.int .i64 i4,.int .i64 i5] rfl rfl 29 #[.int .i64 0,.int .i64 0,.int .i64 0,.int .i64 0,.int .i64 0] hy5 (by show(Tryz.prog.info? 29).map (·.size)=some 5;kernel_rfl) rfl (by simp[Value.oneCell']) ?_;have hy6:=QJ.setRow _ _ _ #[.int .i64 i1,.int .i64 i2,.int .i64 i3,.int .i64 i4,.int .i64 i5] _ hy5;have hk6:=QK.setRow w5 Y #[.int .i64 i1,.int .i64 i2,.int .i64 i3,.int .i64 i4,.int .i64 i5];obtain⟨w6,ew6⟩: ∃W,w5.setRow Y #[.int .i64 i1,.int .i64 i2,.int .i64 i3,.int .i64 i4,.int .i64 i5]=W:=⟨_,rfl⟩;rw[ew6]at hy6 hk6⊢;have h6:=h5.keepY hk6 (h4.far hYn4) hYn;refine hK5 _ _ (fun _=>h6.cells) ?_;have hS6:=h6.cells;clear hK5 ew6;simp only[Act.put];refine tM 19 (.bool sp) ?_;refine ZZ (by kernel_rfl) ?_ _;go_wp2_with fail
   go_meet;exact⟨A,c,Y,G2,rfl,rfl,rfl,hy6,(h4.far hYn4),h6⟩
  ·skip
   refine opM 16 rfl (fun K1 hK1=> ?_);go_simp;have hq4:Below w1.heap.size w1 (w1.alloc (.cells #[.int .i64 0,.int .i64 0,.int .i64 0,.int .i64 0,.int .i64 0] 29)).drew:=Below.drew ((Below.refl _ _).alloc (Nat.le_refl _) _);have hy4:=QJ.drew (QJ.new w1 29 #[.int .i64 0,.int .i64 0,.int .i64 0,.int .i64 0,.int .i64 0]);obtain⟨Y,eY⟩: ∃g,w1.heap.size=g:=⟨_,rfl⟩;have hYn:w1.heap.size≤Y:=Nat.le_of_eq eY;obtain⟨w4,ew4⟩: ∃W,(w1.alloc (.cells #[.int .i64 0,.int .i64 0,.int .i64 0,.int .i64 0,.int .i64 0] 29)).drew=W:=⟨_,rfl⟩;rw[ew4]at hq4 hy4⊢;rw[eY]at hy4⊢;have hS4:(fun W:World=>W.cell? ⟨V,0,none⟩=some (.pointer (some ⟨e,0,none⟩))∧W.cell? ⟨e,8,none⟩=some (.pointer (some ⟨bk,0,none⟩))∧W.cell? ⟨e,7,none⟩=some (.pointer (some ⟨bb,0,none⟩))∧W.cell? ⟨X,0,none⟩=some (.int .i64 oi)∧W.cell? ⟨X,1,none⟩=some (.int .i64 1)∧W.cell? ⟨X,2,none⟩=some (.int .i64 ok)∧W.cell? ⟨X,3,none⟩=some (.int .i64 op)∧W.cell? ⟨X,4,none⟩=some (.int .i64 oq)) w4:=⟨QV v0 hq4,QV c8 hq4,QV c7 hq4,QV x0 hq4,QV x1 hq4,QV x2 hq4,QV x3 hq4,QV x4 hq4⟩;refine hK1 _ _ (fun _=>hS4) ?_;clear hK1 ew4 eY hS0;refine oM 11 fun K2 hK2=> ?_
   go_simp;refine(HMt.out w4 hq4).mono ?_;rintro ev w5 ⟨A,c,F',M1,M2,rfl,hmm,hs1,hs2⟩;obtain⟨G2,h5,ho5⟩:=Qu2 HM1.out HV.out HX.out HNV.out hq4 KX HR.out hmm hs1 hs2;have hy5:=ho5 _ _ _ hy4 hYn;have hS5:=h5.cells;refine hK2 _ _ (fun _=>hS5) ?_;clear hK2 hS4;refine tM 12 (.tuple #[.slice A (List.length fl) c,.agg #[.int .i64 i1,.int .i64 i2,.int .i64 i3,.int .i64 i4,.int .i64 i5],.bool sp]) ?_;refine tM 13 (.slice A (List.length fl) c) ?_;refine tM 14 (.agg #[.int .i64 i1,.int .i64 i2,.int .i64 i3,.int .i64 i4,.int .i64 i5]) ?_;refine tM 15 (.bool sp) ?_;refine tM 17 (.slice A (List.length fl) c) ?_;refine oM 18 fun K5 hK5=> ?_
   refine(if_pos (by rfl)).mpr ?_;refine wp_store_row 29 _ _ rfl Y #[.int .i64 i1,.int .i64 i2,.int .i64 i3,.int .i64 i4,.int .i64 i5] rfl rfl 29 #[.int .i64 0,.int .i64 0,.int .i64 0,.int .i64 0,.int .i64 0] hy5.1 (by show(Tryz.prog.info? 29).map (·.size)=some 5;kernel_rfl) rfl (by simp[Value.oneCell']) ?_;have hy6:=QJ.setRow _ _ _ #[.int .i64 i1,.int .i64 i2,.int .i64 i3,.int .i64 i4,.int .i64 i5] _ hy5.1;have hk6:=QK.setRow w5 Y #[.int .i64 i1,.int .i64 i2,.int .i64 i3,.int .i64 i4,.int .i64 i5];obtain⟨w6,ew6⟩: ∃W,w5.setRow Y #[.int .i64 i1,.int .i64 i2,.int .i64 i3,.int .i64 i4,.int .i64 i5]=W:=⟨_,rfl⟩;rw[ew6]at hy6 hk6⊢;have h6:=h5.keepY hk6 hy5.2 hYn;refine hK5 _ _ (fun _=>h6.cells) ?_;have hS6:=h6.cells;clear hK5 ew6;simp only[Act.put];refine tM 19 (.bool sp) ?_;refine ZZ (by kernel_rfl) ?_ _;go_wp2_with fail
   go_meet;exact⟨A,c,Y,G2,rfl,rfl,rfl,hy6,hy5.2,h6⟩
 case rest=>
  obtain⟨A,c,Y,G2,rfl,rfl,rfl,hyb,hfar,hma⟩:=hcut;have HL0:Hid (Xe1 w wc e tb bb bk im V X Y T tc Ap pc es mc own A c fl #[.int .i64 oi,.int .i64 1,.int .i64 ok,.int .i64 op,.int .i64 oq] #[.int .i64 i1,.int .i64 i2,.int .i64 i3,.int .i64 i4,.int .i64 i5] (UY m ⟨oi,1,ok,op,oq⟩) 1 0):=by
   have hfl:(ZW m ⟨oi,1,ok,op,oq⟩).fills=fl:=by rw[HR.out]
   rw[←hfl]at hma;have h1:=hma.loop HB1.out HVl.out HLs.out KX HFew.out hyb hfar;rw[hfl]at h1;exact QQ h1
  have HLx:Hid ((ZW m ⟨oi,1,ok,op,oq⟩).left=⟨i1,i2,i3,i4,i5⟩∧(ZW m ⟨oi,1,ok,op,oq⟩).stop=sp∧(ZW m ⟨oi,1,ok,op,oq⟩).fills=fl):=QQ (by rw[HR.out];exact⟨rfl,rfl,rfl⟩);obtain⟨m1,hm1⟩: ∃M,UY m ⟨oi,1,ok,op,oq⟩=M:=⟨_,rfl⟩;rw[hm1]at HL0;have HM0:=QQ hm1;clear hyb hfar hma v0 c8 c7 x0 x1 x2 x3 x4 HMt HM1 HV HX HNV HFew HR hm1;obtain⟨n,hn⟩: ∃n,fl.length=n:=⟨_,rfl⟩;rw[hn]at HLen⊢;have HN:=QQ hn;have hn100:=HLen.out;clear hn;go_wp2_with fail
  go_loopg [29] n (fun gg s29 wr=> ∃k:Nat,k≤n∧gg=n-k∧s29= .int .i64 k∧Hid (Xe1 w wr e tb bb bk im V X Y T tc Ap pc es mc own A c fl #[.int .i64 oi,.int .i64 1,.int .i64 ok,.int .i64 op,.int .i64 oq] #[.int .i64 i1,.int .i64 i2,.int .i64 i3,.int .i64 i4,.int .i64 i5] m1 1 k))
  case atStart=>exact⟨0,Nat.zero_le _,rfl,rfl,HL0⟩
  case round=>
   obtain⟨k,hk,rfl,rfl,HL⟩:=hrel;clear HL0;obtain⟨cs2,Al2,lc2,lv2,bu2,se2,G2',own2,hL⟩:=HL.out;have HL2:=QQ hL;clear HL
   by_cases hlt:k<n
   ·have hkl:k<fl.length:=by rw[HN.out];exact hlt
    obtain⟨ga,hga⟩:=Qc6 hL.row.row (by omega);subst hga;obtain⟨y0,y1,y2,y3⟩:=Xr8 hL.row.row hkl;obtain⟨⟨fb,fs,fp,fn⟩,hfe⟩: ∃f,fl[k]=f:=⟨_,rfl⟩;rw[hfe]at y0 y1 y2 y3;have HFe:Hid (fl[k]'hkl=⟨fb,fs,fp,fn⟩):=QQ hfe;have hltz:(k:Int)< (n:Int):=by omega
    have hk7:(0:Int)≤(k:Int):=by omega
    obtain⟨v0,x1,-,-,-,-,-⟩:=hL.cells;have hbp:Below wr.heap.size wr (wr.alloc (.cells #[.int .i64 fb,.int .i64 fs,.int .i64 fp,.int .i64 fn] 89)):=(Below.refl _ wr).alloc (Nat.le_refl _) _;have hP:=QJ.new wr 89 #[.int .i64 fb,.int .i64 fs,.int .i64 fp,.int .i64 fn];obtain⟨wp,ewp⟩: ∃W,wr.alloc (.cells #[.int .i64 fb,.int .i64 fs,.int .i64 fp,.int .i64 fn] 89)=W:=⟨_,rfl⟩;obtain⟨P,eP⟩: ∃g,wr.heap.size=g:=⟨_,rfl⟩;rw[ewp]at hbp hP;rw[eP]at hP;obtain⟨p0,p1,p2,p3⟩:=Xr9 hP;have hbz:Below wp.heap.size wp (wp.alloc (.cells #[.int .i64 0,.int .i64 2,.int .i64 1,.int .i64 fp,.int .i64 fn] 29)):=(Below.refl _ wp).alloc (Nat.le_refl _) _;have hZ:=QJ.new wp 29 #[.int .i64 0,.int .i64 2,.int .i64 1,.int .i64 fp,.int .i64 fn];obtain⟨wz,ewz⟩: ∃W,wp.alloc (.cells #[.int .i64 0,.int .i64 2,.int .i64 1,.int .i64 fp,.int .i64 fn] 29)=W:=⟨_,rfl⟩;obtain⟨Z,eZ⟩: ∃g,wp.heap.size=g:=⟨_,rfl⟩;rw[ewz]at hbz hZ;rw[eZ]at hZ;have hbw:Below wr.heap.size wr wz:=hbp.trans (hbz.mono hbp.size);have hZl:wr.heap.size≤Z:=by have:=hbp.size;omega
    have HBw:=QQ hbw;have HZl:=QQ hZl;have HZ:=QQ hZ;clear hbp hP hbz hbw hZ hL hZl;go_upto_region 5 with fail
    try rw[ewp]
    try rw[eP]
    clear ewp eP y0 y1 y2 y3;go_upto_region 6 with fail
    try rw[ewz]
    try rw[eZ]
    clear ewz eZ p0 p1 p2 p3;have v0:=QV v0 HBw.out;have x1:=QV x1 HBw.out;obtain⟨z0,z1,z2,z3,z4⟩:=Y4 HZ.out;have HQ:Hid (Below wr.heap.size wr wz):=QQ HBw.out;obtain⟨wq,ewq⟩: ∃W,wz=W:=⟨_,rfl⟩;have HZ2:Hid (QJ wq Z 29 #[.int .i64 0,.int .i64 2,.int .i64 1,.int .i64 fp,.int .i64 fn]):=QQ (ewq▸HZ.out);rw[ewq]at HQ v0 x1 z0 z1 z2 z3 z4⊢;clear HZ HBw ewq;go_upto_region 8 with fail
    have hLq:=HL2.out.below (HQ.out.trans ((Below.drew (Below.refl _ wq)).mono HQ.out.size));have htake:=Ju1 wq.drew e 103 cs2 9 Al2 lc2 lv2 bu2 se2 hLq.eng.ind (hLq.small HIns.out (by rw[HN.out];exact hn100) (by omega)) ⟨0,2,1,fp,fn⟩;unfold KQ at htake;have HTk:=QQ htake;have HLq:=QQ hLq;clear htake hLq HL2
    go_still_tail 4,(by kernel_rfl)
    change wpList _ _ _ _ _ wq.drew;go_wp2_with fail
    refine HTk.out.mono ?_;rintro ev w9 ⟨rfl,lv',bu',se',hit,htd⟩;have HNx:=QQ (HLq.out.next HIns.out hkl KX HFe.out hit htd);clear hit htd z0 z1 z2 z3 z4 v0 x1 HTk HLq;go_wp2_with fail
    go_roundg (n- (k+1))
    case measure=>omega
    case rel=>exact⟨k+1,by omega,rfl,by go_num,HNx⟩
   ·obtain rfl:k=n:=by omega
    have hltz: ¬(k:Int)< (k:Int):=by omega
    have HE0:=QQ (HL2.out.end_ HF.out (by rw[HN.out];exact Nat.le_refl _));obtain⟨v0,-,y0,y1,y2,y3,y4⟩:=hL.cells;obtain⟨F1,hF1⟩: ∃S,(fun i=> ∃j,own2 i j)=S:=⟨_,rfl⟩;rw[hF1]at HE0;clear hL HL2 hF1
    by_cases hq5:0<i5
    ·have d5:=J5 hq5
     by_cases hk3:i3=2
     ·have d3:=J4 hk3
      have HS2:Hid (VK m ⟨oi,1,ok,op,oq⟩=m1):=QQ (by unfold VK;rw[HLx.out.1,if_neg (fun x=>x.2 hk3)];exact HM0.out)
      cases sp with
      |true=>
       have hme:=HE0.out.eng;rw[←HS2.out]at hme;have HVo:=QQ (O0 hme ⟨by have:=(Q0 m ⟨oi,1,ok,op,oq⟩).1;have:=HI.out.now;omega,by have:=(Q0 m ⟨oi,1,ok,op,oq⟩).1;have:=HI.out.now;omega⟩ (by rw[(Q0 m ⟨oi,1,ok,op,oq⟩).2];exact HI.out.tk));clear hme;go_wp2_with fail
       refine HVo.out.mono ?_;rintro ev wf ⟨rfl,htv⟩;have hEe:=HE0.out;rw[←HS2.out]at hEe;obtain⟨F9,hE9⟩:=hEe.then_ htv;have HE9:=QQ hE9;clear htv hEe hE9 HVo;go_wp2_with fail
       go_ret;have e9:Z2 m ⟨oi,1,ok,op,oq⟩=Jh2 (VK m ⟨oi,1,ok,op,oq⟩):=by unfold Z2;rw[HLx.out.2.1,if_pos rfl]
       rw[e9,←HN.out];exact HE9.out.fills HLx.out.2.2.symm
      |false=>
       go_wp2_with fail
       go_ret;have e9:Z2 m ⟨oi,1,ok,op,oq⟩=(VK m ⟨oi,1,ok,op,oq⟩):=by unfold Z2;rw[HLx.out.2.1,if_neg (by decide)]
       rw[e9,HS2.out,←HN.out];exact HE0.out.fills HLx.out.2.2.symm
     ·have d3:=UQ hk3
      have HS2:Hid (VK m ⟨oi,1,ok,op,oq⟩=Qc8 m1 ⟨i1,i2,i3,i4,i5⟩):=QQ (by unfold VK;rw[HLx.out.1,if_pos ⟨hq5,hk3⟩,HM0.out]);have HLi:=QQ (Jk6 wr e F1 m1 HE0.out.eng ⟨i1,i2,i3,i4,i5⟩ HLe.out);unfold KQ at HLi;go_wp2_with fail
      refine HLi.out.mono ?_;rintro ev w9 ⟨rfl,hto⟩;obtain⟨F2,hE2⟩:=HE0.out.then_ hto;have HE2:=QQ hE2;have v0:=(show w9.cell? ⟨V,0,none⟩=some (.pointer (some ⟨e,0,none⟩)) by rw[QJ.cell hE2.v.1];rfl);clear hto hE2 y0 y1 y2 y3 y4 HLi HE0
      cases sp with
      |true=>
       have hme:=HE2.out.eng;rw[←HS2.out]at hme;have HVo:=QQ (O0 hme ⟨by have:=(Q0 m ⟨oi,1,ok,op,oq⟩).1;have:=HI.out.now;omega,by have:=(Q0 m ⟨oi,1,ok,op,oq⟩).1;have:=HI.out.now;omega⟩ (by rw[(Q0 m ⟨oi,1,ok,op,oq⟩).2];exact HI.out.tk));clear hme;go_wp2_with fail
       refine HVo.out.mono ?_;rintro ev wf ⟨rfl,htv⟩;have hEe:=HE2.out;rw[←HS2.out]at hEe;obtain⟨F9,hE9⟩:=hEe.then_ htv;have HE9:=QQ hE9;clear htv hEe hE9 HVo;go_wp2_with fail
       go_ret;have e9:Z2 m ⟨oi,1,ok,op,oq⟩=Jh2 (VK m ⟨oi,1,ok,op,oq⟩):=by unfold Z2;rw[HLx.out.2.1,if_pos rfl]
       rw[e9,←HN.out];exact HE9.out.fills HLx.out.2.2.symm
      |false=>
       go_wp2_with fail
       go_ret;have e9:Z2 m ⟨oi,1,ok,op,oq⟩=(VK m ⟨oi,1,ok,op,oq⟩):=by unfold Z2;rw[HLx.out.2.1,if_neg (by decide)]
       rw[e9,HS2.out,←HN.out];exact HE2.out.fills HLx.out.2.2.symm
    ·have d5:=IQ hq5
     have HS2:Hid (VK m ⟨oi,1,ok,op,oq⟩=m1):=QQ (by unfold VK;rw[HLx.out.1,if_neg (fun x=>hq5 x.1)];exact HM0.out)
     cases sp with
     |true=>
      have hme:=HE0.out.eng;rw[←HS2.out]at hme;have HVo:=QQ (O0 hme ⟨by have:=(Q0 m ⟨oi,1,ok,op,oq⟩).1;have:=HI.out.now;omega,by have:=(Q0 m ⟨oi,1,ok,op,oq⟩).1;have:=HI.out.now;omega⟩ (by rw[(Q0 m ⟨oi,1,ok,op,oq⟩).2];exact HI.out.tk));clear hme;go_wp2_with fail
      refine HVo.out.mono ?_;rintro ev wf ⟨rfl,htv⟩;have hEe:=HE0.out;rw[←HS2.out]at hEe;obtain⟨F9,hE9⟩:=hEe.then_ htv;have HE9:=QQ hE9;clear htv hEe hE9 HVo;go_wp2_with fail
      go_ret;have e9:Z2 m ⟨oi,1,ok,op,oq⟩=Jh2 (VK m ⟨oi,1,ok,op,oq⟩):=by unfold Z2;rw[HLx.out.2.1,if_pos rfl]
      rw[e9,←HN.out];exact HE9.out.fills HLx.out.2.2.symm
     |false=>
      go_wp2_with fail
      go_ret;have e9:Z2 m ⟨oi,1,ok,op,oq⟩=(VK m ⟨oi,1,ok,op,oq⟩):=by unfold Z2;rw[HLx.out.2.1,if_neg (by decide)]
      rw[e9,HS2.out,←HN.out];exact HE0.out.fills HLx.out.2.2.symm
end Go.Proofs.YtnlngicnfegjgaaGreatDoor
