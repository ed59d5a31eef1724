/- Contracts and walks that the law's proof needs. -/
import Derived.WalkKit
import Derived.WalkLawsBesides
import Derived.WalkSpells
import Derived.Deep.QuietTactic
import Derived.BigQuiet
import Derived.Deep.LoopGhost
import Derived.Deep.DeepCutAuto
import Derived.Deep.CutBlock
import Derived.Deep.AppendLies
import Derived.Shelf.Abstract
import Derived.Laws.EntriesVeiled
import Derived.Test.YtnlngicnfegjgaaGreatZf34
import Derived.Test.YtnlngicnfegjgaaGreatZf35
import Derived.Test.YtnlngicnfegjgaaGreatZf24
import Derived.Test.YtnlngicnfegjgaaGreatZf25
import Derived.Test.YtnlngicnfegjgaaGreatZf26
import Derived.Test.YtnlngicnfegjgaaGreatZf27
import Derived.Test.YtnlngicnfegjgaaGreatZf28
import Derived.Test.YtnlngicnfegjgaaGreatZf31
set_option linter.unusedVariables false
set_option maxRecDepth 100000
set_option maxHeartbeats 8000000
namespace Go.Proofs.YtnlngicnfegjgaaGreat
open Go.RowKit
theorem Xh4 {σ:Type} {K:σ→List QX→List QX→(Nat→Prop)→World→Prop} {al:σ→Int→Bool} {tr:σ→Int→σ} {cnt:σ→Nat} {ga gt:FuncId} {fa ca ct:Array Value} {b:Nat}
  (hs:Qa4 K al tr cnt ga gt fa ca ct 64 (.pointer (some ⟨b,0,none⟩)) .nilIface)
  (hside: ∀ {s:σ} {L1 L2:List QX} {F:Nat→Prop} {w:World},K s L1 L2 F w→ ∀sd,VV sd→Calls Tryz.prog 47 #[.pointer (some ⟨b,0,none⟩),.int .i64 sd] w fun e w'=>Below w.heap.size w w'∧ ∃A c,e= .returned (.tuple #[.slice A (XQ sd L1 L2).length c,.nilIface])∧QY w' A (XQ sd L1 L2).length c 29 5 (QW I1 (XQ sd L1 L2))∧ ∀g,QV A=some g→w.heap.size≤g)
  (w:World) (s0:σ) (G:Nat→Prop) (L1 L2:List QX) (h:K s0 L1 L2 G w) (h0:cnt s0=0) (oi ok op oq:Int) (hf:Qe5 ⟨oi,2,ok,op,oq⟩):
  Calls Tryz.prog 53 #[.pointer (some ⟨b,0,none⟩),KQ ⟨oi,2,ok,op,oq⟩,.func (.func ga) fa ca,.func (.func gt) #[] ct] w fun e w'=>Jh2 K w w' G 2 L1 L2 (ZJ al tr (XQ 1 L1 L2) ⟨oi,2,ok,op,oq⟩ s0) e:=by
 have HS:=QQ hs
 have ega:=hs.ega
 have egt:=hs.egt
 have hlt:=hs.lt h
 have hlists:=hs.ok h
 obtain⟨l,hl⟩: ∃l,XQ 1 L1 L2=l:=⟨_,rfl⟩
 rw[hl]
 have hok: ∀x∈l,OkO x:=fun x hx=>by
  rw[←hl]at hx;refine hlists.ok x ?_;unfold XQ at hx
  split at hx
  ·exact List.mem_append_left _ hx
  ·exact List.mem_append_right _ hx
 have hlen:l.length≤100:=by
  have h1:=hlists.cnt;rw[List.length_append]at h1;rw[←hl];unfold XQ
  split<;>omega
 obtain⟨n,hn⟩: ∃n,l.length=n:=⟨_,rfl⟩
 rw[hn]at hlen
 have hA1:Below w.heap.size w (w.alloc (.cells (KZ ⟨oi,2,ok,op,oq⟩) 29)):=(Below.refl _ w).alloc (Nat.le_refl _) _
 have hA2:Below w.heap.size w ((w.alloc (.cells (KZ ⟨oi,2,ok,op,oq⟩) 29)).alloc (.cells (KZ noO) 29)):=hA1.alloc (by simp) _
 have hX:=QJ.alloc (QJ.new w 29 (KZ ⟨oi,2,ok,op,oq⟩)) (.cells (KZ noO) 29)
 have hY:QJ ((w.alloc (.cells (KZ ⟨oi,2,ok,op,oq⟩) 29)).alloc (.cells (KZ noO) 29)) (w.heap.size+1) 29 (KZ noO):=by
  have:=QJ.new (w.alloc (.cells (KZ ⟨oi,2,ok,op,oq⟩) 29)) 29 (KZ noO);rw[World.size_alloc]at this;exact this
 obtain⟨w2,ew2⟩: ∃W,((w.alloc (.cells (KZ ⟨oi,2,ok,op,oq⟩) 29)).alloc (.cells (KZ noO) 29))=W:=⟨_,rfl⟩
 rw[ew2]at hA2 hX hY
 have hK2:=hs.keep h (QK.of_below hA2 (fun _=>False)) (fun _ _=>id)
 have hcall:=hside hK2 1 KX
 rw[hl,hn]at hcall
 have HC:=QQ hcall
 have HX:=QQ hX
 have HY:=QQ hY
 have HA2:=QQ hA2
 have HLt:=QQ hlt
 have HK2:=QQ hK2
 have HOk:=QQ hok
 have HN:=QQ hn
 have HL:=QQ hl
 have hxs:=hX.lt
 have hys:=hY.lt
 have hqf:U1 oq:=hf.2.2.2.2
 obtain⟨x0,x1,x2,x3,x4⟩:=JW hX
 dsimp only at x0 x1 x2 x3 x4
 clear hs h hside hlists hok hA1 hA2 hX hY hK2 hcall hn hlt hf
 unfold KZ noO at ew2
 dsimp only at ew2
 show Calls Tryz.prog 53 #[.pointer (some ⟨b,0,none⟩),.agg #[.int .i64 oi,.int .i64 2,.int .i64 ok,.int .i64 op,.int .i64 oq],.func (.func ga) fa ca,.func (.func gt) #[] ct] w _
 go_enter Tryz.func53,Tryz.ntmps53
 go_upto_region 2 with fail
 try rw[ew2]
 clear ew2
 go_wp2_with fail
 refine HC.out.mono ?_
 rintro e w3 ⟨hb3,AL,cl,rfl,hrow3,hnew3⟩
 have hw2:w.heap.size≤w2.heap.size:=HA2.out.size
 have HST:=QQ (show Qu6 K al tr cnt w w3 s0 s0 G G L1 L2 L1 L2 l oi 2 ok op oq oq w.heap.size (w.heap.size+1) AL n cl none 0 [] [] 0 from
  ⟨⟨⟨HS.out.keep HK2.out (QK.of_below hb3 (fun _=>False)) (fun _ _=>id),XW.of_below (HA2.out.trans (hb3.mono HA2.out.size)),World.ownsRow_nil _ _ _ _,fun g hg=>by simp[QV]at hg⟩,
   QJ.keep HX.out hb3,QJ.keep HY.out hb3,fun e=>Nat.lt_irrefl _ (HLt.out _ e),fun e=>by have:=HLt.out _ e;omega,by simp[QV],by simp[QV],by omega,hrow3,fun g hg=>⟨fun e=>by have:=HLt.out _ e;have:=hnew3 g hg;omega,by simp[QV],by have:=hnew3 g hg;omega,by have:=hnew3 g hg;omega⟩,Nat.le_refl _,by omega⟩,by rw[List.drop_zero];rfl,rfl,by rw[List.drop_zero,List.nil_append];exact HL.out,Nat.zero_le _,hqf,by rw[h0];exact Nat.zero_le _⟩)
 clear hb3 hrow3 hnew3 x0 x1 x2 x3 x4 HX HY HC HK2 HLt
 obtain⟨X,eX⟩: ∃X,w.heap.size=X:=⟨_,rfl⟩
 obtain⟨Y,eY⟩: ∃Y,w.heap.size+1=Y:=⟨_,rfl⟩
 rw[eY,eX]at HST⊢
 have HEX:=QQ eX
 clear eX eY hxs hys HA2 hw2
 go_wp2_with fail
 go_loopg [11,28] n (fun gg s11 s28 wr=> ∃(k:Nat) (q:Int) (s:σ) (G':Nat→Prop) (M1 M2:List QX) (A:Option Addr) (c:Nat) (F:List JV) (R:List QX),k≤n∧gg=n-k∧s28= .int .i64 k∧s11= .slice A F.length c∧Hid (Qu6 K al tr cnt w wr s0 s G G' L1 L2 M1 M2 l oi 2 ok op oq q X Y AL n cl A c F R k))
 case atStart=>exact⟨0,oq,s0,G,L1,L2,none,0,[],[],Nat.zero_le _,rfl,rfl,rfl,HST⟩
 case round=>
  obtain⟨k,q,s,G',M1,M2,A,c,F,R,hk,rfl,rfl,rfl,HW⟩:=hrel;clear HST
  by_cases hlt:k<n
  ·have hkl:k<l.length:=by rw[HN.out];exact hlt
   obtain⟨gl,hgl⟩:=Qc7 HW.out.v.lr (by omega);subst hgl;obtain⟨y0,y1,y2,y3,y4⟩:=Qz0 HW.out.v.lr hkl;have hdrop:=List.drop_eq_getElem_cons hkl;have hxok:=HOk.out l[k] (List.getElem_mem hkl);obtain⟨x,hx⟩: ∃x,l[k]=x:=⟨_,rfl⟩;rw[hx]at y0 y1 y2 y3 y4 hdrop hxok;have HDrop:=QQ hdrop;have HXok:=QQ hxok;have hltz:(k:Int)< (n:Int):=by omega
   have hk7:(0:Int)≤(k:Int):=by omega
   clear hdrop hxok hx;go_upto_region 6 with fail
   obtain⟨wa,ewa⟩: ∃W,(wr.alloc (.cells #[.int .i64 x.id,.int .i64 x.side,.int .i64 x.kind,.int .i64 x.price,.int .i64 x.qty] 29))=W:=⟨_,rfl⟩;obtain⟨Z,eZ⟩: ∃Z,wr.heap.size=Z:=⟨_,rfl⟩;have hZ:=QJ.new wr 29 (KZ x);unfold KZ at hZ;have hWa:=HW.out.below HS.out ((Below.refl wr.heap.size wr).alloc (Nat.le_refl _) (.cells #[.int .i64 x.id,.int .i64 x.side,.int .i64 x.kind,.int .i64 x.price,.int .i64 x.qty] 29));have hGZ: ¬G' wr.heap.size:=fun e=>Nat.lt_irrefl _ (HS.out.lt HW.out.v.m.mk_ _ e)
   have hZA:QV A≠some wr.heap.size:=fun e=>Nat.lt_irrefl _ (HW.out.v.m.row.lt e)
   have hZX:wr.heap.size≠X:=fun e=>by have:=QJ.lt HW.out.v.bx;omega
   rw[ewa]at hZ hWa⊢;rw[eZ]at hZ hGZ hZA hZX⊢;have HZA:=QQ hZA;have HZX:=QQ hZX;clear hZA hZX;obtain⟨x0,x1,x2,x3,x4⟩:=JW hWa.v.bx;obtain⟨z0,z1,z2,z3,z4⟩:=Y2 hZ;dsimp only at x0 x1 x2 x3 x4;have HWa:=QQ hWa;have HZ:=QQ hZ;have HGZ:=QQ hGZ;clear hWa hZ hGZ HW ewa eZ y0 y1 y2 y3 y4
   by_cases c0:q<1
   ·have d0:decide (q<1)=true:=J4 c0
    have HC0:=QQ c0;clear c0;have hY:=HWa.out.v.by_;obtain⟨v0,v1,v2,v3,v4⟩:=JW hY;have f0:=QJ.frozen hY 0;have f1:=QJ.frozen hY 1;have f2:=QJ.frozen hY 2;have f3:=QJ.frozen hY 3;have f4:=QJ.frozen hY 4;obtain⟨hy1,hy2⟩:=Qj1 hY (.int .i64 oi) (.int .i64 2) (.int .i64 ok) (.int .i64 op) (.int .i64 q);have HY1:=QQ hy1;have HY2:=QQ hy2;clear hY hy1 hy2;go_wp2_with fail
    go_region
    go_wp2_with fail
    exact Qj2 rfl (o:=⟨oi,2,ok,op,q⟩) Y rfl rfl rfl rfl (QJ.drew HY1.out) (HWa.out.done HS.out (by rw[HDrop.out];exact Xb4 HC0.out) (HY2.out.then_ (Below.drew (Below.refl _ _))))
   ·have d0:decide (q<1)=false:=OY c0
    have HC0:Hid (1≤q):=QQ (by omega);clear c0
    by_cases c1:x.kind=2
    ·have d1:=J3 c1
     have HC1:=QQ c1;clear c1;go_wp2_with fail
     go_roundg (n- (k+1))
     case measure=>omega
     case rel=>exact⟨k+1,q,s,G',M1,M2,A,c,F,R++ [x],by omega,rfl,by go_num,rfl,QQ (HWa.out.pass HDrop.out (by have:=HC0.out;omega) HC1.out)⟩
    ·have d1:=UX c1
     have HC1:=QQ c1;clear c1;go_upto_region 9 with fail
     go_cut [42] (fun s42 wx=>s42= .bool (YQ ⟨oi,2,ok,op,q⟩ x)∧wx=wa)
     case first=>
      by_cases c2:ok=2
      ·have d2:=Ji1 c2
       have HE:Hid (YQ ⟨oi,2,ok,op,q⟩ x=false):=QQ (by unfold YQ;dsimp only;rw[J3 c2];rfl);clear c2;go_wp2_with fail
       go_meet;exact⟨by rw[HE.out],rfl⟩
      ·have d2:=Ji2 c2
       by_cases c3:x.price<op
       ·have d3:=J4 c3
        have HE:Hid (YQ ⟨oi,2,ok,op,q⟩ x=true):=QQ (by unfold YQ;dsimp only;rw[UX c2];simp;exact c3);clear c2 c3;go_wp2_with fail
        go_meet;exact⟨by rw[HE.out],rfl⟩
       ·have d3:=OY c3
        have HE:Hid (YQ ⟨oi,2,ok,op,q⟩ x=false):=QQ (by unfold YQ;dsimp only;rw[UX c2];simp;omega);clear c2 c3;go_wp2_with fail
        go_meet;exact⟨by rw[HE.out],rfl⟩
     case rest=>
      obtain⟨rfl,rfl⟩:=hcut;obtain⟨bb,hbb⟩: ∃bb,YQ ⟨oi,2,ok,op,q⟩ x=bb:=⟨_,rfl⟩;rw[hbb];have HBB:=QQ hbb;clear hbb
      cases bb with
      |true=>
       have hY:=HWa.out.v.by_;obtain⟨v0,v1,v2,v3,v4⟩:=JW hY;have f0:=QJ.frozen hY 0;have f1:=QJ.frozen hY 1;have f2:=QJ.frozen hY 2;have f3:=QJ.frozen hY 3;have f4:=QJ.frozen hY 4;obtain⟨hy1,hy2⟩:=Qj1 hY (.int .i64 oi) (.int .i64 2) (.int .i64 ok) (.int .i64 op) (.int .i64 q);have HY1:=QQ hy1;have HY2:=QQ hy2;clear hY hy1 hy2;go_wp2_with fail
       go_region
       go_wp2_with fail
       exact Qj2 rfl (o:=⟨oi,2,ok,op,q⟩) Y rfl rfl rfl rfl (QJ.drew HY1.out) (HWa.out.done HS.out (by rw[HDrop.out];exact Jn5 (by have:=HC0.out;show¬q<1;omega) HC1.out HBB.out) (HY2.out.then_ (Below.drew (Below.refl _ _))))
      |false=>
       go_wp2_with fail
       go_at_fn ga
       refine(HS.out.allows x.price HWa.out.v.m.mk_ ⟨HXok.out.2.2.1.1,HXok.out.2.2.1.2⟩).mono ?_;rintro e wb ⟨rfl,hbb⟩;have hWb:=HWa.out.below HS.out hbb;have hZb:=QJ.keep HZ.out hbb;obtain⟨ab,hab⟩: ∃ab,al s x.price=ab:=⟨_,rfl⟩;rw[hab];have HAB:=QQ hab;have HWa:=QQ hWb;have HZ:=QQ hZb;obtain⟨x0,x1,x2,x3,x4⟩:=JW hWb.v.bx;obtain⟨z0,z1,z2,z3,z4⟩:=Y2 hZb;dsimp only at x0 x1 x2 x3 x4;clear hWb hZb hbb hab
       cases ab with
       |false=>
        have hY:=HWa.out.v.by_;obtain⟨v0,v1,v2,v3,v4⟩:=JW hY;have f0:=QJ.frozen hY 0;have f1:=QJ.frozen hY 1;have f2:=QJ.frozen hY 2;have f3:=QJ.frozen hY 3;have f4:=QJ.frozen hY 4;obtain⟨hy1,hy2⟩:=Qj1 hY (.int .i64 oi) (.int .i64 2) (.int .i64 ok) (.int .i64 op) (.int .i64 q);have HY1:=QQ hy1;have HY2:=QQ hy2;clear hY hy1 hy2;go_wp2_with fail
        go_region
        go_wp2_with fail
        exact Qj2 rfl (o:=⟨oi,2,ok,op,q⟩) Y rfl rfl rfl rfl (QJ.drew HY1.out) (HWa.out.done HS.out (by rw[HDrop.out];exact Xb5 (by have:=HC0.out;show¬q<1;omega) HC1.out HBB.out HAB.out) (HY2.out.then_ (Below.drew (Below.refl _ _))))
       |true=>
        clear x0 x1 x2 x3 x4 z0 z1 z2 z3 z4;obtain⟨m,hm⟩: ∃m,min q x.qty=m:=⟨_,rfl⟩;have hq1:=HC0.out;have hxq:=HXok.out.2.2.2;have hqb:=HWa.out.qb;unfold U1 at hqb;have hm1:1≤m:=by omega
        have hmx:m≤x.qty:=by omega
        have hmq:m≤q:=by omega
        have HM:=QQ hm;clear hm;go_upto_region 13 with fail
        obtain⟨x0,x1,x2,x3,x4⟩:=JW HWa.out.v.bx;obtain⟨z0,z1,z2,z3,z4⟩:=Y2 HZ.out;dsimp only at x0 x1 x2 x3 x4
        go_cut [16] (fun s16 wx=>s16= .int .i64 m∧wx=wb)
        case first=>
         go_wp2_with fail
         all_goals go_meet
         all_goals refine⟨?_,rfl⟩
         all_goals rw[←HM.out]
         all_goals congr 1
         all_goals omega
        case rest=>
         obtain⟨rfl,rfl⟩:=hcut;have hF1:F.length≤100000000:=by have:=HWa.out.fl;omega
         have HCn:Hid (cnt s≤F.length):=QQ HWa.out.cn;have HCk:Hid (cnt s≤1000):=QQ (by have:=HWa.out.fl;have:=HWa.out.cn;omega);obtain⟨i0,hi0,hz0,hz1,hz2⟩:=info_parts Jk1;go_upto_region 15 with fail
         have hal:Below wc.heap.size wc (wc.alloc (.cells #[.int .i64 oi,.int .i64 x.id,.int .i64 x.price,.int .i64 m] 48)):=(Below.refl _ _).alloc (Nat.le_refl _) _;have hQ:=QJ.new wc 48 #[.int .i64 oi,.int .i64 x.id,.int .i64 x.price,.int .i64 m];obtain⟨Q,eQ⟩: ∃Q,wc.heap.size=Q:=⟨_,rfl⟩;have HQ0:Hid (wc.heap.size≤Q):=QQ (by omega);obtain⟨wf,ewf⟩: ∃W,wc.alloc (.cells #[.int .i64 oi,.int .i64 x.id,.int .i64 x.price,.int .i64 m] 48)=W:=⟨_,rfl⟩;have hWf:=HWa.out.below HS.out hal;have hXQ:X≠wc.heap.size:=fun e=>by have:=QJ.lt HWa.out.v.bx;omega
         have hZf:=QJ.keep HZ.out hal;rw[ewf]at hQ hWf hZf hal⊢;have HAL:=QQ hal;rw[eQ]at hQ hXQ⊢;have HXQ:=QQ hXQ;clear hXQ;have HWf:=QQ hWf;have HZf:=QQ hZf;have HQ:=QQ hQ;clear x0 x1 x2 x3 x4 z0 z1 z2 z3 z4 hal ewf eQ hWf hZf;obtain⟨x0,x1,x2,x3,x4⟩:=JW HWf.out.v.bx;obtain⟨z0,z1,z2,z3,z4⟩:=Y2 HZf.out;obtain⟨q0,q1,q2,q3⟩:=Xp5 hQ;dsimp only at x0 x1 x2 x3 x4;clear hQ;have f0:=QJ.frozen HQ.out 0;have f1:=QJ.frozen HQ.out 1;have hk1:=QK.set_ wf ⟨Q,0,none⟩ (.int .i64 x.id);have hxq2:=(hk1.cell (p:=⟨X,0,none⟩) (QJ.lt HWf.out.v.bx) (fun e=>HXQ.out e)).trans x0;have hq1:=QJ.set_ HQ.out 0 (.int .i64 x.id);have g1:(wf.setCell ⟨Q,0,none⟩ (.int .i64 x.id)).cell? ⟨Q,1,none⟩=some (.int .i64 x.id):=by rw[QJ.cell hq1];rfl
         have g2:=QJ.frozen hq1 1;clear hk1 hq1;go_upto_region 16 with fail
         go_region
         have hkk:=((QK.set_ wf ⟨Q,0,none⟩ (.int .i64 x.id)).trans (QK.set_ _ ⟨Q,1,none⟩ (.int .i64 oi)) (fun _ h=> .inl h)).then_ (Below.drew (Below.refl _ _));have hb2:=HAL.out.trans (hkk.below (fun i e=>e▸HQ0.out) HAL.out.size);have hW2:=HWa.out.below HS.out hb2;have hZ2:=QJ.keep HZ.out hb2;have hQ2:QJ ((wf.setCell ⟨Q,0,none⟩ (.int .i64 x.id)).setCell ⟨Q,1,none⟩ (.int .i64 oi)).drew Q 48 #[.int .i64 x.id,.int .i64 oi,.int .i64 x.price,.int .i64 m]:=QJ.drew (QJ.set_ (QJ.set_ HQ.out 0 _) 1 _);obtain⟨wg,ewg⟩: ∃W,((wf.setCell ⟨Q,0,none⟩ (.int .i64 x.id)).setCell ⟨Q,1,none⟩ (.int .i64 oi)).drew=W:=⟨_,rfl⟩;rw[ewg]at hW2 hZ2 hQ2⊢;clear x0 x1 x2 x3 x4 z0 z1 z2 z3 z4 q0 q1 q2 q3 hkk hb2 ewg f0 f1 hxq2 g1 g2 HWf HZf HQ;have HWf:=QQ hW2;have HZf:=QQ hZ2;obtain⟨x0,x1,x2,x3,x4⟩:=JW HWf.out.v.bx;obtain⟨z0,z1,z2,z3,z4⟩:=Y2 HZf.out;obtain⟨q0,q1,q2,q3⟩:=Xp5 hQ2;dsimp only at x0 x1 x2 x3 x4;have HQ:=QQ hQ2;clear hW2 hZ2 hQ2;have HO1:=QQ (World.ownsRow.alloc (show wg.ownsRow 0 48 4 (.slice A F.length c) F.length (QW Qb1 F)from HWf.out.v.m.row) (.cells #[.int .i64 x.id,.int .i64 oi,.int .i64 x.price,.int .i64 m] 48));go_upto_region 18 with(at_builtin;refine wpList_append_lies _ rfl _ _ 43 rfl 0 48 i0 _ 4 32 Tryz.underlying43 hi0 hz0 hz1 hz2 rfl (by omega) (.slice A F.length c) F.length _ rfl HO1.out ⟨wg.heap.size,0,none⟩ 1 1 [.int .i64 x.id,.int .i64 oi,.int .i64 x.price,.int .i64 m] rfl rfl (World.news_of_block (cs:= #[.int .i64 x.id,.int .i64 oi,.int .i64 x.price,.int .i64 m]) (t:=48) (fr:=(0,0)) (heap_alloc_new wg _)) (by simp[Value.oneCell']) (by omega) (by unfold maxLen;omega) (by omega) (by simp) (wg.heap.size+1) (by simp) ?_;intro gg cap w6 hown hgrow hat6 hlt6)
         have hk6:=Ql0 hgrow;rw[XV]at hk6 hat6;have hV6:=HWf.out.v.fill HS.out (f:=⟨x.id,oi,x.price,m⟩) hk6 hown (hat6.imp id (fun e=>by omega));have hZ6:=QJ.keeps HZf.out hk6 HZA.out;obtain⟨hget,hown6,hoth6⟩:=Xp4 (n:=m) (HS.out.ok hV6.m.mk_) KK (HWf.out.oth.trans (by rw[HDrop.out]));have hcc:=HS.out.cut x m hV6.m.mk_ hget hm1 hmx;have HCC:=QQ hcc;have HV6:=QQ hV6;have HZ6:=QQ hZ6;have HOwn:=QQ (hown6.trans HWf.out.own);have HOth:=QQ hoth6;have HEq:=QQ (show ZJ al tr l ⟨oi,2,ok,op,oq⟩ s0=O9.join (F++ [⟨x.id,oi,x.price,m⟩]) (R++Qg5 x m) (ZJ al tr (l.drop (k+1)) ⟨oi,2,ok,op,q-m⟩ (tr s x.price))from HWf.out.eq.trans (by rw[HDrop.out];exact Ju4 (by have:=HC0.out;show¬q<1;omega) HC1.out HBB.out HAB.out HM.out));have HFl:=QQ HWf.out.fl;clear x0 x1 x2 x3 x4 z0 z1 z2 z3 z4 q0 q1 q2 q3 hk6 hown hgrow hat6 hlt6 hV6 hZ6 hget hown6 hoth6 hcc HO1 hi0 hz0 hz1 hz2 HWf HZf HQ HWa HZ;obtain⟨z0,z1,z2,z3,z4⟩:=Y2 HZ6.out;go_wp2_with fail
         refine HCC.out.mono ?_;rintro e w7 ⟨rfl,G2,hk7,hb7⟩;have hV7:=HV6.out.turn hk7 hb7;have hZ7:=QJ.keeps HZ6.out hb7.1 (fun e=>HGZ.out e);have hV8:=hV7.lots HS.out (q':=q-m);have hZ8:=QJ.keeps hZ7 (QK.set_ w7 ⟨X,4,none⟩ (.int .i64 (q-m))) HZX.out;have i1:RowKit.wrap64 (q-m)=q-m:=by unfold RowKit.wrap64;omega
         have f4:=QJ.frozen hV7.bx 4;obtain⟨x0,x1,x2,x3,x4⟩:=JW hV7.bx;dsimp only at x0 x1 x2 x3 x4;have HV8:=QQ hV8;have HZ8:=QQ hZ8;clear hV7 hZ7 hV8 hZ8 hk7 hb7 z0 z1 z2 z3 z4 HV6 HZ6 HCC;go_upto_region 20 with fail
         obtain⟨w8,ew8⟩: ∃W,w7.setCell ⟨X,4,none⟩ (.int .i64 (q-m))=W:=⟨_,rfl⟩;rw[ew8]at HV8 HZ8⊢;clear ew8 x0 x1 x2 x3 x4 f4;obtain⟨z0,z1,z2,z3,z4⟩:=Y2 HZ8.out;go_wp2_with fail
         go_at_fn gt
         refine(HS.out.trades x.price HV8.out.m.mk_ ⟨HXok.out.2.2.1.1,HXok.out.2.2.1.2⟩ HCk.out).mono ?_;rintro e w9 ⟨rfl,G3,hk9,hb9⟩;have HV9:=QQ (HV8.out.turn hk9 hb9);clear hk9 hb9 z0 z1 z2 z3 z4 HV8 HZ8 i1;go_wp2_with fail
         go_roundg (n- (k+1))
         case measure=>omega
         case rel=>exact⟨k+1,q-m,tr s x.price,G3,Qf6 M1 x m,Qf6 M2 x m,some ⟨gg,0,none⟩,cap,F++ [⟨x.id,oi,x.price,m⟩],R++Qg5 x m,by omega,rfl,by go_num,by simp,QQ ⟨HV9.out,HEq.out,HOwn.out,HOth.out,by rw[List.length_append,List.length_singleton];exact Nat.succ_le_succ HFl.out,by unfold U1;omega,by have h1:=HS.out.cnt_ s x.price;have h2:=HCn.out;rw[List.length_append,List.length_singleton];omega⟩⟩
  ·obtain rfl:k=n:=by omega
   have hltz: ¬(k:Int)< (k:Int):=by omega
   have hY:=HW.out.v.by_;obtain⟨v0,v1,v2,v3,v4⟩:=JW hY;obtain⟨x0,x1,x2,x3,x4⟩:=JW HW.out.v.bx;dsimp only at x0 x1 x2 x3 x4;have f0:=QJ.frozen hY 0;have f1:=QJ.frozen hY 1;have f2:=QJ.frozen hY 2;have f3:=QJ.frozen hY 3;have f4:=QJ.frozen hY 4;obtain⟨hy1,hy2⟩:=Qj1 hY (.int .i64 oi) (.int .i64 2) (.int .i64 ok) (.int .i64 op) (.int .i64 q);have HY1:=QQ hy1;have HY2:=QQ hy2;clear hY hy1 hy2;go_wp2_with fail
   go_region
   go_wp2_with fail
   have hdn:l.drop k= []:=List.drop_eq_nil_of_le (by rw[HN.out];exact Nat.le_refl _);exact Qj2 rfl (o:=⟨oi,2,ok,op,q⟩) Y rfl rfl rfl rfl (QJ.drew HY1.out) (HW.out.done HS.out (by rw[hdn,Xp1,List.append_nil]) (HY2.out.then_ (Below.drew (Below.refl _ _))))
theorem Qy0 {σ:Type} {K:σ→List QX→List QX→(Nat→Prop)→World→Prop} {al:σ→Int→Bool} {tr:σ→Int→σ} {cnt:σ→Nat} {ga gt:FuncId} {fa ca ct:Array Value} {b:Nat}
  (hs:Qa4 K al tr cnt ga gt fa ca ct 64 (.pointer (some ⟨b,0,none⟩)) .nilIface)
  (hside: ∀ {s:σ} {L1 L2:List QX} {F:Nat→Prop} {w:World},K s L1 L2 F w→ ∀sd,VV sd→Calls Tryz.prog 47 #[.pointer (some ⟨b,0,none⟩),.int .i64 sd] w fun e w'=>Below w.heap.size w w'∧ ∃A c,e= .returned (.tuple #[.slice A (XQ sd L1 L2).length c,.nilIface])∧QY w' A (XQ sd L1 L2).length c 29 5 (QW I1 (XQ sd L1 L2))∧ ∀g,QV A=some g→w.heap.size≤g)
  (w:World) (s0:σ) (G:Nat→Prop) (L1 L2:List QX) (h:K s0 L1 L2 G w) (h0:cnt s0=0) (oi sd ok op oq:Int) (hsd:VV sd) (hf:Qe5 ⟨oi,sd,ok,op,oq⟩):
  Calls Tryz.prog 53 #[.pointer (some ⟨b,0,none⟩),.agg #[.int .i64 oi,.int .i64 sd,.int .i64 ok,.int .i64 op,.int .i64 oq],.func (.func ga) fa ca,.func (.func gt) #[] ct] w fun e w'=>Jh2 K w w' G sd L1 L2 (ZJ al tr (XQ (3-sd) L1 L2) ⟨oi,sd,ok,op,oq⟩ s0) e:=by
 rcases hsd with rfl|rfl
 ·exact Xh3 hs hside w s0 G L1 L2 h h0 oi ok op oq hf
 ·exact Xh4 hs hside w s0 G L1 L2 h h0 oi ok op oq hf
theorem Xp6 (w:World) (b:Nat) (G:Nat→Prop) (L1 L2:List QX) (h:Q1 w b G L1 L2) (o:QX) (hfit:Qe5 o):
  Calls Tryz.prog 52 #[.pointer (some ⟨b,0,none⟩),KQ o] w (Jp2 w b G L1 L2 o):=by
 obtain⟨a,F,M,n,r,f,H,reg,hM,hS,hG,rfl,rfl⟩:=h
 have hn:=hM.ar.le
 unfold Jp2
 cases h1:Ja3 o with
 |false=>
  have e:Qk8 (H 1).L (H 2).L o=1:=by unfold Qk8;rw[if_pos h1]
  rw[e];exact(Ks8 w b o h1).mono fun e' w' h=> .inl ⟨by decide,h⟩
 |true=>
 cases h2:Qq5 o with
 |false=>
  have e:Qk8 (H 1).L (H 2).L o=2:=by unfold Qk8;rw[if_neg (by rw[h1];decide),if_pos h2]
  rw[e];exact(Kg0 w b o h1 h2).mono fun e' w' h=> .inl ⟨by decide,h⟩
 |true=>
 cases hf:f o.id with
 |some v=>
  obtain⟨x,hx,QQ⟩:=hS.hk _ _ hf;have hv:=hS.hf x hx;rw[QQ]at hv;have hg:(Qb3 ((H 1).L++(H 2).L) o.id).isSome=true:=by rw[←QQ,Qz9 hS hx];rfl
  have e:Qk8 (H 1).L (H 2).L o=9:=by unfold Qk8;rw[if_neg (by rw[h1];decide),if_neg (by rw[h2];decide),if_pos hg]
  rw[e];exact(Kg1 w b o a F M n r f H reg hM h1 h2 x hv).mono fun e' w' h=> .inl ⟨by decide,h⟩
 |none=>
 have hg: ¬(Qb3 ((H 1).L++(H 2).L) o.id).isSome=true:=by rw[Ja0 hS hf];decide
 have hcnt:(H 1).L.length+ (H 2).L.length=n:=by
  rw[hS.cnt];unfold X4 HS.L IW;simp
 by_cases h3:n=100
 ·have e:Qk8 (H 1).L (H 2).L o=12:=by unfold Qk8;rw[if_neg (by rw[h1];decide),if_neg (by rw[h2];decide),if_neg hg,if_pos (by rw[hcnt];exact h3)]
  rw[e];exact(Ko6 w b o a F M n r f H reg hM hS hfit h1 h2 hf h3).mono fun e' w' h=> .inl ⟨by decide,h⟩
 ·have e:Qk8 (H 1).L (H 2).L o=0:=by unfold Qk8;rw[if_neg (by rw[h1];decide),if_neg (by rw[h2];decide),if_neg hg,if_neg (by rw[hcnt];exact h3)]
  rw[e];have h100:n<100:=by omega
  have key:Calls Tryz.prog 52 #[.pointer (some ⟨b,0,none⟩),KQ o] w fun e w'=>e= .returned (YZ 0)∧Qo0 w w' b a r F n H (JJ o):=by
   rcases(Qd9.1 h1).1 with hs|hs
   ·cases hk:o.kind ==2 with
    |true=>exact Xv9 w b o a F M n r f H reg hM hS hfit h1 h2 hf h100 hs hk
    |false=>exact Xw0 w b o a F M n r f H reg hM hS hfit h1 h2 hf h100 hs hk
   ·cases hk:o.kind ==2 with
    |true=>exact Xw1 w b o a F M n r f H reg hM hS hfit h1 h2 hf h100 hs hk
    |false=>exact Xw2 w b o a F M n r f H reg hM hS hfit h1 h2 hf h100 hs hk
  exact key.mono fun e' w' h=> .inr ⟨rfl,h.1,Kx4 (Qd9.1 h1).1 hG h.2⟩
end Go.Proofs.YtnlngicnfegjgaaGreat
