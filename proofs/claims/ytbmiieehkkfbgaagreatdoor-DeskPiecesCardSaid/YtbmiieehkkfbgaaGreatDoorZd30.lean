/- Contracts and walks that the law's proof needs. -/
import Derived.WalkKit
import Derived.WalkLawsBesides
import Derived.WalkSpells
import Derived.Deep.QuietTactic
import Derived.BigQuiet
import Derived.Deep.LoopGhost
import Derived.Deep.DeepCutAuto
import Derived.Deep.CutBlock
import Derived.Deep.AppendLies
import Derived.Shelf.Abstract
import Derived.Laws.EntriesVeiled
import Derived.Test.YtbmiieehkkfbgaaGreatDoorZd29
import Derived.Test.YtbmiieehkkfbgaaGreatDoorZd21
import Derived.Test.YtbmiieehkkfbgaaGreatDoorZd22
import Derived.Test.YtbmiieehkkfbgaaGreatDoorZd23
import Derived.Test.YtbmiieehkkfbgaaGreatDoorZd24
import Derived.Test.YtbmiieehkkfbgaaGreatDoorZd25
import Derived.Test.YtbmiieehkkfbgaaGreatDoorZd26
import Derived.Test.YtbmiieehkkfbgaaGreatDoorZd28
import Derived.Test.YtbmiieehkkfbgaaGreatDoorZd1
set_option linter.unusedVariables false
set_option maxRecDepth 100000
set_option maxHeartbeats 8000000
namespace Go.Proofs.YtbmiieehkkfbgaaGreatDoor
open Go.RowKit
theorem Xl8 {σ:Type} {K:σ→List QX→List QX→(Nat→Prop)→World→Prop} {al:σ→Int→Bool} {tr:σ→Int→σ} {cnt:σ→Nat} {ga gt:FuncId} {fa ca ct:Array Value} {b:Nat}
  (hs:Qa1 K al tr cnt ga gt fa ca ct 175 (.pointer (some ⟨b,0,none⟩)) .nilIface)
  (hside: ∀ {s:σ} {L1 L2:List QX} {F:Nat→Prop} {w:World},K s L1 L2 F w→ ∀sd,UQ sd→Calls Tryz.prog 86 #[.pointer (some ⟨b,0,none⟩),.int .i64 sd] w fun e w'=>Below w.heap.size w w'∧ ∃A c,e= .returned (.tuple #[.slice A (JY sd L1 L2).length c,.nilIface])∧QW w' A (JY sd L1 L2).length c 117 5 (JQ I6 (JY sd L1 L2))∧ ∀g,QZ A=some g→w.heap.size≤g)
  (w:World) (s0:σ) (G:Nat→Prop) (L1 L2:List QX) (h:K s0 L1 L2 G w) (h0:cnt s0=0) (oi ok op oq:Int) (hf:Qf4 ⟨oi,2,ok,op,oq⟩):
  Calls Tryz.prog 143 #[.pointer (some ⟨b,0,none⟩),KJ ⟨oi,2,ok,op,oq⟩,.func (.func ga) fa ca,.func (.func gt) #[] ct] w fun e w'=>Jj1 K w w' G 2 L1 L2 (VX al tr (JY 1 L1 L2) ⟨oi,2,ok,op,oq⟩ s0) e:=by
 have HS:=QQ hs
 have ega:=hs.ega
 have egt:=hs.egt
 have hlt:=hs.lt h
 have hlists:=hs.ok h
 obtain⟨l,hl⟩: ∃l,JY 1 L1 L2=l:=⟨_,rfl⟩
 rw[hl]
 have hok: ∀x∈l,OkO x:=fun x hx=>by
  rw[←hl]at hx;refine hlists.ok x ?_;unfold JY at hx
  split at hx
  ·exact List.mem_append_left _ hx
  ·exact List.mem_append_right _ hx
 have hlen:l.length≤100:=by
  have h1:=hlists.cnt;rw[List.length_append]at h1;rw[←hl];unfold JY
  split<;>omega
 obtain⟨n,hn⟩: ∃n,l.length=n:=⟨_,rfl⟩
 rw[hn]at hlen
 have hA1:Below w.heap.size w (w.alloc (.cells (KV ⟨oi,2,ok,op,oq⟩) 117)):=(Below.refl _ w).alloc (Nat.le_refl _) _
 have hA2:Below w.heap.size w ((w.alloc (.cells (KV ⟨oi,2,ok,op,oq⟩) 117)).alloc (.cells (KV noO) 117)):=hA1.alloc (by simp) _
 have hX:=QJ.alloc (QJ.new w 117 (KV ⟨oi,2,ok,op,oq⟩)) (.cells (KV noO) 117)
 have hY:QJ ((w.alloc (.cells (KV ⟨oi,2,ok,op,oq⟩) 117)).alloc (.cells (KV noO) 117)) (w.heap.size+1) 117 (KV noO):=by
  have:=QJ.new (w.alloc (.cells (KV ⟨oi,2,ok,op,oq⟩) 117)) 117 (KV noO);rw[World.size_alloc]at this;exact this
 obtain⟨w2,ew2⟩: ∃W,((w.alloc (.cells (KV ⟨oi,2,ok,op,oq⟩) 117)).alloc (.cells (KV noO) 117))=W:=⟨_,rfl⟩
 rw[ew2]at hA2 hX hY
 have hK2:=hs.keep h (QK.of_below hA2 (fun _=>False)) (fun _ _=>id)
 have hcall:=hside hK2 1 ZQ
 rw[hl,hn]at hcall
 have HC:=QQ hcall
 have HX:=QQ hX
 have HY:=QQ hY
 have HA2:=QQ hA2
 have HLt:=QQ hlt
 have HK2:=QQ hK2
 have HOk:=QQ hok
 have HN:=QQ hn
 have HL:=QQ hl
 have hxs:=hX.lt
 have hys:=hY.lt
 have hqf:KZ oq:=hf.2.2.2.2
 obtain⟨x0,x1,x2,x3,x4⟩:=JV hX
 dsimp only at x0 x1 x2 x3 x4
 clear hs h hside hlists hok hA1 hA2 hX hY hK2 hcall hn hlt hf
 unfold KV noO at ew2
 dsimp only at ew2
 show Calls Tryz.prog 143 #[.pointer (some ⟨b,0,none⟩),.agg #[.int .i64 oi,.int .i64 2,.int .i64 ok,.int .i64 op,.int .i64 oq],.func (.func ga) fa ca,.func (.func gt) #[] ct] w _
 go_enter Tryz.func143,Tryz.ntmps143
 go_upto_region 2 with fail
 try rw[ew2]
 clear ew2
 go_wp2_with fail
 refine HC.out.mono ?_
 rintro e w3 ⟨hb3,AL,cl,rfl,hrow3,hnew3⟩
 have hw2:w.heap.size≤w2.heap.size:=HA2.out.size
 have HST:=QQ (show Qv9 K al tr cnt w w3 s0 s0 G G L1 L2 L1 L2 l oi 2 ok op oq oq w.heap.size (w.heap.size+1) AL n cl none 0 [] [] 0 from
  ⟨⟨⟨HS.out.keep HK2.out (QK.of_below hb3 (fun _=>False)) (fun _ _=>id),KQ.of_below (HA2.out.trans (hb3.mono HA2.out.size)),World.ownsRow_nil _ _ _ _,fun g hg=>by simp[QZ]at hg⟩,
   QJ.keep HX.out hb3,QJ.keep HY.out hb3,fun e=>Nat.lt_irrefl _ (HLt.out _ e),fun e=>by have:=HLt.out _ e;omega,by simp[QZ],by simp[QZ],by omega,hrow3,fun g hg=>⟨fun e=>by have:=HLt.out _ e;have:=hnew3 g hg;omega,by simp[QZ],by have:=hnew3 g hg;omega,by have:=hnew3 g hg;omega⟩,Nat.le_refl _,by omega⟩,by rw[List.drop_zero];rfl,rfl,by rw[List.drop_zero,List.nil_append];exact HL.out,Nat.zero_le _,hqf,by rw[h0];exact Nat.zero_le _⟩)
 clear hb3 hrow3 hnew3 x0 x1 x2 x3 x4 HX HY HC HK2 HLt
 obtain⟨X,eX⟩: ∃X,w.heap.size=X:=⟨_,rfl⟩
 obtain⟨Y,eY⟩: ∃Y,w.heap.size+1=Y:=⟨_,rfl⟩
 rw[eY,eX]at HST⊢
 have HEX:=QQ eX
 clear eX eY hxs hys HA2 hw2
 go_wp2_with fail
 go_loopg [11,28] n (fun gg s11 s28 wr=> ∃(k:Nat) (q:Int) (s:σ) (G':Nat→Prop) (M1 M2:List QX) (A:Option Addr) (c:Nat) (F:List XQ) (R:List QX),k≤n∧gg=n-k∧s28= .int .i64 k∧s11= .slice A F.length c∧Hid (Qv9 K al tr cnt w wr s0 s G G' L1 L2 M1 M2 l oi 2 ok op oq q X Y AL n cl A c F R k))
 case atStart=>exact⟨0,oq,s0,G,L1,L2,none,0,[],[],Nat.zero_le _,rfl,rfl,rfl,HST⟩
 case round=>
  obtain⟨k,q,s,G',M1,M2,A,c,F,R,hk,rfl,rfl,rfl,HW⟩:=hrel;clear HST
  by_cases hlt:k<n
  ·have hkl:k<l.length:=by rw[HN.out];exact hlt
   obtain⟨gl,hgl⟩:=Qc1 HW.out.v.lr (by omega);subst hgl;obtain⟨y0,y1,y2,y3,y4⟩:=Qs7 HW.out.v.lr hkl;have hdrop:=List.drop_eq_getElem_cons hkl;have hxok:=HOk.out l[k] (List.getElem_mem hkl);obtain⟨x,hx⟩: ∃x,l[k]=x:=⟨_,rfl⟩;rw[hx]at y0 y1 y2 y3 y4 hdrop hxok;have HDrop:=QQ hdrop;have HXok:=QQ hxok;have hltz:(k:Int)< (n:Int):=by omega
   have hk7:(0:Int)≤(k:Int):=by omega
   clear hdrop hxok hx;go_upto_region 6 with fail
   obtain⟨wa,ewa⟩: ∃W,(wr.alloc (.cells #[.int .i64 x.id,.int .i64 x.side,.int .i64 x.kind,.int .i64 x.price,.int .i64 x.qty] 117))=W:=⟨_,rfl⟩;obtain⟨Z,eZ⟩: ∃Z,wr.heap.size=Z:=⟨_,rfl⟩;have hZ:=QJ.new wr 117 (KV x);unfold KV at hZ;have hWa:=HW.out.below HS.out ((Below.refl wr.heap.size wr).alloc (Nat.le_refl _) (.cells #[.int .i64 x.id,.int .i64 x.side,.int .i64 x.kind,.int .i64 x.price,.int .i64 x.qty] 117));have hGZ: ¬G' wr.heap.size:=fun e=>Nat.lt_irrefl _ (HS.out.lt HW.out.v.m.mk_ _ e)
   have hZA:QZ A≠some wr.heap.size:=fun e=>Nat.lt_irrefl _ (HW.out.v.m.row.lt e)
   have hZX:wr.heap.size≠X:=fun e=>by have:=QJ.lt HW.out.v.bx;omega
   rw[ewa]at hZ hWa⊢;rw[eZ]at hZ hGZ hZA hZX⊢;have HZA:=QQ hZA;have HZX:=QQ hZX;clear hZA hZX;obtain⟨x0,x1,x2,x3,x4⟩:=JV hWa.v.bx;obtain⟨z0,z1,z2,z3,z4⟩:=U9 hZ;dsimp only at x0 x1 x2 x3 x4;have HWa:=QQ hWa;have HZ:=QQ hZ;have HGZ:=QQ hGZ;clear hWa hZ hGZ HW ewa eZ y0 y1 y2 y3 y4
   by_cases c0:q<1
   ·have d0:decide (q<1)=true:=J0 c0
    have HC0:=QQ c0;clear c0;have hY:=HWa.out.v.by_;obtain⟨v0,v1,v2,v3,v4⟩:=JV hY;have f0:=QJ.frozen hY 0;have f1:=QJ.frozen hY 1;have f2:=QJ.frozen hY 2;have f3:=QJ.frozen hY 3;have f4:=QJ.frozen hY 4;obtain⟨hy1,hy2⟩:=Qj0 hY (.int .i64 oi) (.int .i64 2) (.int .i64 ok) (.int .i64 op) (.int .i64 q);have HY1:=QQ hy1;have HY2:=QQ hy2;clear hY hy1 hy2;go_wp2_with fail
    go_region
    go_wp2_with fail
    exact Qj1 rfl (o:=⟨oi,2,ok,op,q⟩) Y rfl rfl rfl rfl (QJ.drew HY1.out) (HWa.out.done HS.out (by rw[HDrop.out];exact Xf7 HC0.out) (HY2.out.then_ (Below.drew (Below.refl _ _))))
   ·have d0:decide (q<1)=false:=OY c0
    have HC0:Hid (1≤q):=QQ (by omega);clear c0
    by_cases c1:x.kind=2
    ·have d1:=Z2 c1
     have HC1:=QQ c1;clear c1;go_wp2_with fail
     go_roundg (n- (k+1))
     case measure=>omega
     case rel=>exact⟨k+1,q,s,G',M1,M2,A,c,F,R++ [x],by omega,rfl,by go_num,rfl,QQ (HWa.out.pass HDrop.out (by have:=HC0.out;omega) HC1.out)⟩
    ·have d1:=YW c1
     have HC1:=QQ c1;clear c1;go_upto_region 9 with fail
     go_cut [42] (fun s42 wx=>s42= .bool (X6 ⟨oi,2,ok,op,q⟩ x)∧wx=wa)
     case first=>
      by_cases c2:ok=2
      ·have d2:=Jk1 c2
       have HE:Hid (X6 ⟨oi,2,ok,op,q⟩ x=false):=QQ (by unfold X6;dsimp only;rw[Z2 c2];rfl);clear c2;go_wp2_with fail
       go_meet;exact⟨by rw[HE.out],rfl⟩
      ·have d2:=Je0 c2
       by_cases c3:x.price<op
       ·have d3:=J0 c3
        have HE:Hid (X6 ⟨oi,2,ok,op,q⟩ x=true):=QQ (by unfold X6;dsimp only;rw[YW c2];simp;exact c3);clear c2 c3;go_wp2_with fail
        go_meet;exact⟨by rw[HE.out],rfl⟩
       ·have d3:=OY c3
        have HE:Hid (X6 ⟨oi,2,ok,op,q⟩ x=false):=QQ (by unfold X6;dsimp only;rw[YW c2];simp;omega);clear c2 c3;go_wp2_with fail
        go_meet;exact⟨by rw[HE.out],rfl⟩
     case rest=>
      obtain⟨rfl,rfl⟩:=hcut;obtain⟨bb,hbb⟩: ∃bb,X6 ⟨oi,2,ok,op,q⟩ x=bb:=⟨_,rfl⟩;rw[hbb];have HBB:=QQ hbb;clear hbb
      cases bb with
      |true=>
       have hY:=HWa.out.v.by_;obtain⟨v0,v1,v2,v3,v4⟩:=JV hY;have f0:=QJ.frozen hY 0;have f1:=QJ.frozen hY 1;have f2:=QJ.frozen hY 2;have f3:=QJ.frozen hY 3;have f4:=QJ.frozen hY 4;obtain⟨hy1,hy2⟩:=Qj0 hY (.int .i64 oi) (.int .i64 2) (.int .i64 ok) (.int .i64 op) (.int .i64 q);have HY1:=QQ hy1;have HY2:=QQ hy2;clear hY hy1 hy2;go_wp2_with fail
       go_region
       go_wp2_with fail
       exact Qj1 rfl (o:=⟨oi,2,ok,op,q⟩) Y rfl rfl rfl rfl (QJ.drew HY1.out) (HWa.out.done HS.out (by rw[HDrop.out];exact Jq0 (by have:=HC0.out;show¬q<1;omega) HC1.out HBB.out) (HY2.out.then_ (Below.drew (Below.refl _ _))))
      |false=>
       go_wp2_with fail
       go_at_fn ga
       refine(HS.out.allows x.price HWa.out.v.m.mk_ ⟨HXok.out.2.2.1.1,HXok.out.2.2.1.2⟩).mono ?_;rintro e wb ⟨rfl,hbb⟩;have hWb:=HWa.out.below HS.out hbb;have hZb:=QJ.keep HZ.out hbb;obtain⟨ab,hab⟩: ∃ab,al s x.price=ab:=⟨_,rfl⟩;rw[hab];have HAB:=QQ hab;have HWa:=QQ hWb;have HZ:=QQ hZb;obtain⟨x0,x1,x2,x3,x4⟩:=JV hWb.v.bx;obtain⟨z0,z1,z2,z3,z4⟩:=U9 hZb;dsimp only at x0 x1 x2 x3 x4;clear hWb hZb hbb hab
       cases ab with
       |false=>
        have hY:=HWa.out.v.by_;obtain⟨v0,v1,v2,v3,v4⟩:=JV hY;have f0:=QJ.frozen hY 0;have f1:=QJ.frozen hY 1;have f2:=QJ.frozen hY 2;have f3:=QJ.frozen hY 3;have f4:=QJ.frozen hY 4;obtain⟨hy1,hy2⟩:=Qj0 hY (.int .i64 oi) (.int .i64 2) (.int .i64 ok) (.int .i64 op) (.int .i64 q);have HY1:=QQ hy1;have HY2:=QQ hy2;clear hY hy1 hy2;go_wp2_with fail
        go_region
        go_wp2_with fail
        exact Qj1 rfl (o:=⟨oi,2,ok,op,q⟩) Y rfl rfl rfl rfl (QJ.drew HY1.out) (HWa.out.done HS.out (by rw[HDrop.out];exact Xf8 (by have:=HC0.out;show¬q<1;omega) HC1.out HBB.out HAB.out) (HY2.out.then_ (Below.drew (Below.refl _ _))))
       |true=>
        clear x0 x1 x2 x3 x4 z0 z1 z2 z3 z4;obtain⟨m,hm⟩: ∃m,min q x.qty=m:=⟨_,rfl⟩;have hq1:=HC0.out;have hxq:=HXok.out.2.2.2;have hqb:=HWa.out.qb;unfold KZ at hqb;have hm1:1≤m:=by omega
        have hmx:m≤x.qty:=by omega
        have hmq:m≤q:=by omega
        have HM:=QQ hm;clear hm;go_upto_region 13 with fail
        obtain⟨x0,x1,x2,x3,x4⟩:=JV HWa.out.v.bx;obtain⟨z0,z1,z2,z3,z4⟩:=U9 HZ.out;dsimp only at x0 x1 x2 x3 x4
        go_cut [16] (fun s16 wx=>s16= .int .i64 m∧wx=wb)
        case first=>
         go_wp2_with fail
         all_goals go_meet
         all_goals refine⟨?_,rfl⟩
         all_goals rw[←HM.out]
         all_goals congr 1
         all_goals omega
        case rest=>
         obtain⟨rfl,rfl⟩:=hcut;have hF1:F.length≤100000000:=by have:=HWa.out.fl;omega
         have HCn:Hid (cnt s≤F.length):=QQ HWa.out.cn;have HCk:Hid (cnt s≤1000):=QQ (by have:=HWa.out.fl;have:=HWa.out.cn;omega);obtain⟨i0,hi0,hz0,hz1,hz2⟩:=info_parts Jl9;go_upto_region 15 with fail
         have hal:Below wc.heap.size wc (wc.alloc (.cells #[.int .i64 oi,.int .i64 x.id,.int .i64 x.price,.int .i64 m] 145)):=(Below.refl _ _).alloc (Nat.le_refl _) _;have hQ:=QJ.new wc 145 #[.int .i64 oi,.int .i64 x.id,.int .i64 x.price,.int .i64 m];obtain⟨Q,eQ⟩: ∃Q,wc.heap.size=Q:=⟨_,rfl⟩;have HQ0:Hid (wc.heap.size≤Q):=QQ (by omega);obtain⟨wf,ewf⟩: ∃W,wc.alloc (.cells #[.int .i64 oi,.int .i64 x.id,.int .i64 x.price,.int .i64 m] 145)=W:=⟨_,rfl⟩;have hWf:=HWa.out.below HS.out hal;have hXQ:X≠wc.heap.size:=fun e=>by have:=QJ.lt HWa.out.v.bx;omega
         have hZf:=QJ.keep HZ.out hal;rw[ewf]at hQ hWf hZf hal⊢;have HAL:=QQ hal;rw[eQ]at hQ hXQ⊢;have HXQ:=QQ hXQ;clear hXQ;have HWf:=QQ hWf;have HZf:=QQ hZf;have HQ:=QQ hQ;clear x0 x1 x2 x3 x4 z0 z1 z2 z3 z4 hal ewf eQ hWf hZf;obtain⟨x0,x1,x2,x3,x4⟩:=JV HWf.out.v.bx;obtain⟨z0,z1,z2,z3,z4⟩:=U9 HZf.out;obtain⟨q0,q1,q2,q3⟩:=Xu6 hQ;dsimp only at x0 x1 x2 x3 x4;clear hQ;have f0:=QJ.frozen HQ.out 0;have f1:=QJ.frozen HQ.out 1;have hk1:=QK.set_ wf ⟨Q,0,none⟩ (.int .i64 x.id);have hxq2:=(hk1.cell (p:=⟨X,0,none⟩) (QJ.lt HWf.out.v.bx) (fun e=>HXQ.out e)).trans x0;have hq1:=QJ.set_ HQ.out 0 (.int .i64 x.id);have g1:(wf.setCell ⟨Q,0,none⟩ (.int .i64 x.id)).cell? ⟨Q,1,none⟩=some (.int .i64 x.id):=by rw[QJ.cell hq1];rfl
         have g2:=QJ.frozen hq1 1;clear hk1 hq1;go_upto_region 16 with fail
         go_region
         have hkk:=((QK.set_ wf ⟨Q,0,none⟩ (.int .i64 x.id)).trans (QK.set_ _ ⟨Q,1,none⟩ (.int .i64 oi)) (fun _ h=> .inl h)).then_ (Below.drew (Below.refl _ _));have hb2:=HAL.out.trans (hkk.below (fun i e=>e▸HQ0.out) HAL.out.size);have hW2:=HWa.out.below HS.out hb2;have hZ2:=QJ.keep HZ.out hb2;have hQ2:QJ ((wf.setCell ⟨Q,0,none⟩ (.int .i64 x.id)).setCell ⟨Q,1,none⟩ (.int .i64 oi)).drew Q 145 #[.int .i64 x.id,.int .i64 oi,.int .i64 x.price,.int .i64 m]:=QJ.drew (QJ.set_ (QJ.set_ HQ.out 0 _) 1 _);obtain⟨wg,ewg⟩: ∃W,((wf.setCell ⟨Q,0,none⟩ (.int .i64 x.id)).setCell ⟨Q,1,none⟩ (.int .i64 oi)).drew=W:=⟨_,rfl⟩;rw[ewg]at hW2 hZ2 hQ2⊢;clear x0 x1 x2 x3 x4 z0 z1 z2 z3 z4 q0 q1 q2 q3 hkk hb2 ewg f0 f1 hxq2 g1 g2 HWf HZf HQ;have HWf:=QQ hW2;have HZf:=QQ hZ2;obtain⟨x0,x1,x2,x3,x4⟩:=JV HWf.out.v.bx;obtain⟨z0,z1,z2,z3,z4⟩:=U9 HZf.out;obtain⟨q0,q1,q2,q3⟩:=Xu6 hQ2;dsimp only at x0 x1 x2 x3 x4;have HQ:=QQ hQ2;clear hW2 hZ2 hQ2;have HO1:=QQ (World.ownsRow.alloc (show wg.ownsRow 0 145 4 (.slice A F.length c) F.length (JQ Qb3 F)from HWf.out.v.m.row) (.cells #[.int .i64 x.id,.int .i64 oi,.int .i64 x.price,.int .i64 m] 145));go_upto_region 18 with(at_builtin;refine wpList_append_lies _ rfl _ _ 94 rfl 0 145 i0 _ 4 32 Tryz.underlying94 hi0 hz0 hz1 hz2 rfl (by omega) (.slice A F.length c) F.length _ rfl HO1.out ⟨wg.heap.size,0,none⟩ 1 1 [.int .i64 x.id,.int .i64 oi,.int .i64 x.price,.int .i64 m] rfl rfl (World.news_of_block (cs:= #[.int .i64 x.id,.int .i64 oi,.int .i64 x.price,.int .i64 m]) (t:=145) (fr:=(0,0)) (heap_alloc_new wg _)) (by simp[Value.oneCell']) (by omega) (by unfold maxLen;omega) (by omega) (by simp) (wg.heap.size+1) (by simp) ?_;intro gg cap w6 hown hgrow hat6 hlt6)
         have hk6:=Ql2 hgrow;rw[JW]at hk6 hat6;have hV6:=HWf.out.v.fill HS.out (f:=⟨x.id,oi,x.price,m⟩) hk6 hown (hat6.imp id (fun e=>by omega));have hZ6:=QJ.keeps HZf.out hk6 HZA.out;obtain⟨hget,hown6,hoth6⟩:=Xu5 (n:=m) (HS.out.ok hV6.m.mk_) ZJ (HWf.out.oth.trans (by rw[HDrop.out]));have hcc:=HS.out.cut x m hV6.m.mk_ hget hm1 hmx;have HCC:=QQ hcc;have HV6:=QQ hV6;have HZ6:=QQ hZ6;have HOwn:=QQ (hown6.trans HWf.out.own);have HOth:=QQ hoth6;have HEq:=QQ (show VX al tr l ⟨oi,2,ok,op,oq⟩ s0=U8.join (F++ [⟨x.id,oi,x.price,m⟩]) (R++Qr9 x m) (VX al tr (l.drop (k+1)) ⟨oi,2,ok,op,q-m⟩ (tr s x.price))from HWf.out.eq.trans (by rw[HDrop.out];exact Jx9 (by have:=HC0.out;show¬q<1;omega) HC1.out HBB.out HAB.out HM.out));have HFl:=QQ HWf.out.fl;clear x0 x1 x2 x3 x4 z0 z1 z2 z3 z4 q0 q1 q2 q3 hk6 hown hgrow hat6 hlt6 hV6 hZ6 hget hown6 hoth6 hcc HO1 hi0 hz0 hz1 hz2 HWf HZf HQ HWa HZ;obtain⟨z0,z1,z2,z3,z4⟩:=U9 HZ6.out;go_wp2_with fail
         refine HCC.out.mono ?_;rintro e w7 ⟨rfl,G2,hk7,hb7⟩;have hV7:=HV6.out.turn hk7 hb7;have hZ7:=QJ.keeps HZ6.out hb7.1 (fun e=>HGZ.out e);have hV8:=hV7.lots HS.out (q':=q-m);have hZ8:=QJ.keeps hZ7 (QK.set_ w7 ⟨X,4,none⟩ (.int .i64 (q-m))) HZX.out;have i1:RowKit.wrap64 (q-m)=q-m:=by unfold RowKit.wrap64;omega
         have f4:=QJ.frozen hV7.bx 4;obtain⟨x0,x1,x2,x3,x4⟩:=JV hV7.bx;dsimp only at x0 x1 x2 x3 x4;have HV8:=QQ hV8;have HZ8:=QQ hZ8;clear hV7 hZ7 hV8 hZ8 hk7 hb7 z0 z1 z2 z3 z4 HV6 HZ6 HCC;go_upto_region 20 with fail
         obtain⟨w8,ew8⟩: ∃W,w7.setCell ⟨X,4,none⟩ (.int .i64 (q-m))=W:=⟨_,rfl⟩;rw[ew8]at HV8 HZ8⊢;clear ew8 x0 x1 x2 x3 x4 f4;obtain⟨z0,z1,z2,z3,z4⟩:=U9 HZ8.out;go_wp2_with fail
         go_at_fn gt
         refine(HS.out.trades x.price HV8.out.m.mk_ ⟨HXok.out.2.2.1.1,HXok.out.2.2.1.2⟩ HCk.out).mono ?_;rintro e w9 ⟨rfl,G3,hk9,hb9⟩;have HV9:=QQ (HV8.out.turn hk9 hb9);clear hk9 hb9 z0 z1 z2 z3 z4 HV8 HZ8 i1;go_wp2_with fail
         go_roundg (n- (k+1))
         case measure=>omega
         case rel=>exact⟨k+1,q-m,tr s x.price,G3,Qf2 M1 x m,Qf2 M2 x m,some ⟨gg,0,none⟩,cap,F++ [⟨x.id,oi,x.price,m⟩],R++Qr9 x m,by omega,rfl,by go_num,by simp,QQ ⟨HV9.out,HEq.out,HOwn.out,HOth.out,by rw[List.length_append,List.length_singleton];exact Nat.succ_le_succ HFl.out,by unfold KZ;omega,by have h1:=HS.out.cnt_ s x.price;have h2:=HCn.out;rw[List.length_append,List.length_singleton];omega⟩⟩
  ·obtain rfl:k=n:=by omega
   have hltz: ¬(k:Int)< (k:Int):=by omega
   have hY:=HW.out.v.by_;obtain⟨v0,v1,v2,v3,v4⟩:=JV hY;obtain⟨x0,x1,x2,x3,x4⟩:=JV HW.out.v.bx;dsimp only at x0 x1 x2 x3 x4;have f0:=QJ.frozen hY 0;have f1:=QJ.frozen hY 1;have f2:=QJ.frozen hY 2;have f3:=QJ.frozen hY 3;have f4:=QJ.frozen hY 4;obtain⟨hy1,hy2⟩:=Qj0 hY (.int .i64 oi) (.int .i64 2) (.int .i64 ok) (.int .i64 op) (.int .i64 q);have HY1:=QQ hy1;have HY2:=QQ hy2;clear hY hy1 hy2;go_wp2_with fail
   go_region
   go_wp2_with fail
   have hdn:l.drop k= []:=List.drop_eq_nil_of_le (by rw[HN.out];exact Nat.le_refl _);exact Qj1 rfl (o:=⟨oi,2,ok,op,q⟩) Y rfl rfl rfl rfl (QJ.drew HY1.out) (HW.out.done HS.out (by rw[hdn,Xu3,List.append_nil]) (HY2.out.then_ (Below.drew (Below.refl _ _))))
theorem Qy8 {σ:Type} {K:σ→List QX→List QX→(Nat→Prop)→World→Prop} {al:σ→Int→Bool} {tr:σ→Int→σ} {cnt:σ→Nat} {ga gt:FuncId} {fa ca ct:Array Value} {b:Nat}
  (hs:Qa1 K al tr cnt ga gt fa ca ct 175 (.pointer (some ⟨b,0,none⟩)) .nilIface)
  (hside: ∀ {s:σ} {L1 L2:List QX} {F:Nat→Prop} {w:World},K s L1 L2 F w→ ∀sd,UQ sd→Calls Tryz.prog 86 #[.pointer (some ⟨b,0,none⟩),.int .i64 sd] w fun e w'=>Below w.heap.size w w'∧ ∃A c,e= .returned (.tuple #[.slice A (JY sd L1 L2).length c,.nilIface])∧QW w' A (JY sd L1 L2).length c 117 5 (JQ I6 (JY sd L1 L2))∧ ∀g,QZ A=some g→w.heap.size≤g)
  (w:World) (s0:σ) (G:Nat→Prop) (L1 L2:List QX) (h:K s0 L1 L2 G w) (h0:cnt s0=0) (oi sd ok op oq:Int) (hsd:UQ sd) (hf:Qf4 ⟨oi,sd,ok,op,oq⟩):
  Calls Tryz.prog 143 #[.pointer (some ⟨b,0,none⟩),.agg #[.int .i64 oi,.int .i64 sd,.int .i64 ok,.int .i64 op,.int .i64 oq],.func (.func ga) fa ca,.func (.func gt) #[] ct] w fun e w'=>Jj1 K w w' G sd L1 L2 (VX al tr (JY (3-sd) L1 L2) ⟨oi,sd,ok,op,oq⟩ s0) e:=by
 rcases hsd with rfl|rfl
 ·exact Xl7 hs hside w s0 G L1 L2 h h0 oi ok op oq hf
 ·exact Xl8 hs hside w s0 G L1 L2 h h0 oi ok op oq hf
theorem Xu7 (w:World) (b:Nat) (G:Nat→Prop) (L1 L2:List QX) (h:Q1 w b G L1 L2) (o:QX) (hfit:Qf4 o):
  Calls Tryz.prog 142 #[.pointer (some ⟨b,0,none⟩),KJ o] w (Js4 w b G L1 L2 o):=by
 obtain⟨a,F,M,n,r,f,H,reg,hM,hS,hG,rfl,rfl⟩:=h
 have hn:=hM.ar.le
 unfold Js4
 cases h1:Jc0 o with
 |false=>
  have e:Qm5 (H 1).L (H 2).L o=1:=by unfold Qm5;rw[if_pos h1]
  rw[e];exact(Ze2 w b o h1).mono fun e' w' h=> .inl ⟨by decide,h⟩
 |true=>
 cases h2:Qr3 o with
 |false=>
  have e:Qm5 (H 1).L (H 2).L o=2:=by unfold Qm5;rw[if_neg (by rw[h1];decide),if_pos h2]
  rw[e];exact(Km6 w b o h1 h2).mono fun e' w' h=> .inl ⟨by decide,h⟩
 |true=>
 cases hf:f o.id with
 |some v=>
  obtain⟨x,hx,QQ⟩:=hS.hk _ _ hf;have hv:=hS.hf x hx;rw[QQ]at hv;have hg:(Qa8 ((H 1).L++(H 2).L) o.id).isSome=true:=by rw[←QQ,Jb3 hS hx];rfl
  have e:Qm5 (H 1).L (H 2).L o=9:=by unfold Qm5;rw[if_neg (by rw[h1];decide),if_neg (by rw[h2];decide),if_pos hg]
  rw[e];exact(Km7 w b o a F M n r f H reg hM h1 h2 x hv).mono fun e' w' h=> .inl ⟨by decide,h⟩
 |none=>
 have hg: ¬(Qa8 ((H 1).L++(H 2).L) o.id).isSome=true:=by rw[Jb4 hS hf];decide
 have hcnt:(H 1).L.length+ (H 2).L.length=n:=by
  rw[hS.cnt];unfold X0 HS.L IX;simp
 by_cases h3:n=100
 ·have e:Qm5 (H 1).L (H 2).L o=12:=by unfold Qm5;rw[if_neg (by rw[h1];decide),if_neg (by rw[h2];decide),if_neg hg,if_pos (by rw[hcnt];exact h3)]
  rw[e];exact(Kx9 w b o a F M n r f H reg hM hS hfit h1 h2 hf h3).mono fun e' w' h=> .inl ⟨by decide,h⟩
 ·have e:Qm5 (H 1).L (H 2).L o=0:=by unfold Qm5;rw[if_neg (by rw[h1];decide),if_neg (by rw[h2];decide),if_neg hg,if_neg (by rw[hcnt];exact h3)]
  rw[e];have h100:n<100:=by omega
  have key:Calls Tryz.prog 142 #[.pointer (some ⟨b,0,none⟩),KJ o] w fun e w'=>e= .returned (VZ 0)∧Qo4 w w' b a r F n H (JJ o):=by
   rcases(Qd2.1 h1).1 with hs|hs
   ·cases hk:o.kind ==2 with
    |true=>exact Kb5 w b o a F M n r f H reg hM hS hfit h1 h2 hf h100 hs hk
    |false=>exact Kb6 w b o a F M n r f H reg hM hS hfit h1 h2 hf h100 hs hk
   ·cases hk:o.kind ==2 with
    |true=>exact Kb7 w b o a F M n r f H reg hM hS hfit h1 h2 hf h100 hs hk
    |false=>exact Kb8 w b o a F M n r f H reg hM hS hfit h1 h2 hf h100 hs hk
  exact key.mono fun e' w' h=> .inr ⟨rfl,h.1,Zj9 (Qd2.1 h1).1 hG h.2⟩
end Go.Proofs.YtbmiieehkkfbgaaGreatDoor
namespace Go.Proofs.YtbmiieehkkfbgaaGreatDoor
open Go.ChangeMaps Go.RowKit
structure Jf4 (cs:Array Value) (tb bb bk im:Nat) (Ap:Option Addr) (pc:Nat) (m:VQ):Prop where
 sz:cs.size=18
 c4:cs[4]?=some (.int .i64 m.tk)
 c5:cs[5]?=some (.int .i64 m.mo)
 c6:cs[6]?=some (.pointer (some ⟨tb,0,none⟩))
 c7:cs[7]?=some (.pointer (some ⟨bb,0,none⟩))
 c8:cs[8]?=some (.pointer (some ⟨bk,0,none⟩))
 c12:cs[12]?=some (.slice Ap m.pk.length pc)
 c13:cs[13]?=some (.map (some im))
 c14:cs[14]?=some (.int .i64 m.ph)
 c15:cs[15]?=some (.int .i64 m.now)
 c16:cs[16]?=some (.int .i64 m.ends)
 c17:cs[17]?=some (.int .i64 m.lng)
structure Jj2 (w:World) (own:Nat→Nat→Prop):Prop where
 uni: ∀i k k',own i k→own i k'→k=k'
 lt: ∀i k,own i k→i<w.heap.size
def Qs2 (w:World) (own:Nat→Nat→Prop) (N:Nat→Prop) (K:Nat) (i k:Nat):Prop:=own i k∨(w.heap.size≤i∧N i∧k=K)
def VW (w w':World) (own own':Nat→Nat→Prop):Prop:=QK (fun i=> ∃k,own i k) w w'∧ ∀i k,own' i k→own i k∨w.heap.size≤i
theorem VW.trans {w w1 w2:World} {o o1 o2:Nat→Nat→Prop} (h:VW w w1 o o1) (k:VW w1 w2 o1 o2):VW w w2 o o2:=by
 refine⟨h.1.trans k.1 (fun i ⟨n,hn⟩=> ?_),fun i n hn=> ?_⟩
 ·rcases h.2 i n hn with e|e
  ·exact .inl ⟨n,e⟩
  ·exact .inr e
 ·rcases k.2 i n hn with e|e
  ·exact h.2 i n e
  ·exact .inr (Nat.le_trans h.1.size e)
theorem VW.of_below {w w':World} {o:Nat→Nat→Prop} (h:Below w.heap.size w w'):VW w w' o o:=⟨QK.of_below h _,fun i k hi=> .inl hi⟩
theorem Jj2.mono {w w':World} {own:Nat→Nat→Prop} (h:Jj2 w own) (hs:w.heap.size≤w'.heap.size):Jj2 w' own:=⟨h.uni,fun i k hi=>Nat.lt_of_lt_of_le (h.lt i k hi) hs⟩
theorem Jj2.new_ {w w':World} {own:Nat→Nat→Prop} (h:Jj2 w own) (hs:w.heap.size≤w'.heap.size) {N:Nat→Prop} (hN: ∀i,N i→i<w'.heap.size) (K:Nat):Jj2 w' (Qs2 w own N K):=by
 refine⟨fun i k k' h1 h2=> ?_,fun i k h1=> ?_⟩
 ·rcases h1 with h1|⟨a1,b1,c1⟩
  ·rcases h2 with h2|⟨a2,b2,c2⟩
   ·exact h.uni i k k' h1 h2
   ·have:=h.lt i k h1;omega
  ·rcases h2 with h2|⟨a2,b2,c2⟩
   ·have:=h.lt i k' h2;omega
   ·rw[c1,c2]
 ·rcases h1 with h1|⟨a1,b1,c1⟩
  ·exact Nat.lt_of_lt_of_le (h.lt i k h1) hs
  ·exact hN i b1
structure UZ (w:World) (e:Nat) (cs:Array Value) (tb bb bk im:Nat) (T:Option Addr) (tc:Nat) (Al:Option Addr) (lc:Nat) (lv:List XJ) (bu se:Int) (Ap:Option Addr) (pc:Nat) (es:List MapEntry) (mc:Nat) (G:Nat→Prop) (own:Nat→Nat→Prop) (g:Int→Option Int→Int) (m:VQ):Prop where
 ind:Qi4 w e 126 cs 9 Al lc lv bu se
 ec:Jf4 cs tb bb bk im Ap pc m
 is:Qd3 lv bu se g
 tabl:tb<w.heap.size
 tabc:w.cell? ⟨tb,0,none⟩=some (.slice T m.rows.length tc)
 tabp:I8 w T m.rows.length tc m.rows
 bands:Q9 w bb m.st m.dy m.an m.la
 book:Q1 w bk G m.L1 m.L2
 park:QW w Ap m.pk.length pc 117 5 (JQ I6 m.pk)
 map_:J2 w im es mc
 keys:Qn7 es
 ids: ∀k,V7 es k=if k∈m.ids then some (.bool true)else none
 ok:Jj2 w own
 oe:own e 1
 ot:own tb 2
 oT: ∀i,QZ T=some i→own i 2
 ob:own bb 3
 oG: ∀i,G i→own i 4
 ol: ∀i,QZ Al=some i→own i 5
 op: ∀i,QZ Ap=some i→own i 6
 oi:own im 7
def Zn2 (w:World) (e:Nat) (F:Nat→Prop) (g:Int→Option Int→Int) (m:VQ):Prop:=
 ∃cs tb bb bk im T tc Al lc lv bu se Ap pc es mc G own,UZ w e cs tb bb bk im T tc Al lc lv bu se Ap pc es mc G own g m∧ ∀i,F i↔ ∃k,own i k
def YQ (w:World) (e:Nat) (F:Nat→Prop) (m:VQ):Prop:=Zn2 w e F (fun s k=>Q3 s k (Qa4 m)) m
def ZZ (w w':World) (e:Nat) (F:Nat→Prop) (m:VQ):Prop:= ∃F',YQ w' e F' m∧KQ w w' F F'
section
variable {w w':World} {e:Nat} {cs:Array Value} {tb bb bk im:Nat} {T:Option Addr} {tc:Nat} {Al:Option Addr} {lc:Nat} {lv:List XJ} {bu se:Int} {Ap:Option Addr} {pc:Nat} {es:List MapEntry} {mc:Nat} {G:Nat→Prop} {own:Nat→Nat→Prop} {g:Int→Option Int→Int} {m:VQ}
theorem I8.keeps {A:Option Addr} {n c:Nat} {ps:List (Int×Int)} {S:Nat→Prop} (h:I8 w A n c ps) (hk:QK S w w') (hn: ∀i,QZ A=some i→ ¬S i):I8 w' A n c ps:=by
 refine⟨h.1,fun hl=> ?_⟩
 obtain⟨b,off,hA,hlt,hc⟩:=h.2 hl
 have hb: ¬S b:=hn b (by rw[hA];rfl)
 exact⟨b,off,hA,Nat.lt_of_lt_of_le hlt hk.size,fun i hi=>⟨(hk.cell (p:=⟨b,_,none⟩) hlt hb).trans (hc i hi).1,(hk.cell (p:=⟨b,_,none⟩) hlt hb).trans (hc i hi).2⟩⟩
theorem UZ.cell (h:UZ w e cs tb bb bk im T tc Al lc lv bu se Ap pc es mc G own g m) {i:Nat} {v:Value} (hv:cs[i]?=some v):w.cell? ⟨e,i,none⟩=some v:=by rw[QJ.cell h.ind.blk];exact hv
theorem UZ.fit {S:Nat→Prop} (h:UZ w e cs tb bb bk im T tc Al lc lv bu se Ap pc es mc G own g m) {K:Nat} (hS: ∀i,S i→own i K) {i k:Nat} (hi:own i k) (hk:k≠K): ¬S i:=fun hs=>hk (h.ok.uni i k K hi (hS i hs))
theorem UZ.keeps {S:Nat→Prop} (h:UZ w e cs tb bb bk im T tc Al lc lv bu se Ap pc es mc G own g m) (hk:QK S w w') (hS: ∀i k,own i k→ ¬S i):UZ w' e cs tb bb bk im T tc Al lc lv bu se Ap pc es mc G own g m:=
 ⟨h.ind.keeps hk (hS _ _ h.oe) (fun i hi=>hS i _ (h.ol i hi)),h.ec,h.is,Nat.lt_of_lt_of_le h.tabl hk.size,(hk.cell (p:=⟨tb,0,none⟩) h.tabl (hS _ _ h.ot)).trans h.tabc,h.tabp.keeps hk (fun i hi=>hS i _ (h.oT i hi)),QJ.keeps h.bands hk (hS _ _ h.ob),h.book.keeps hk (fun i hi=>hS i _ (h.oG i hi)),h.park.keeps hk (fun i hi=>hS i _ (h.op i hi)),h.map_.of_block (hk.block _ h.map_.lt (hS _ _ h.oi)),h.keys,h.ids,h.ok.mono hk.size,h.oe,h.ot,h.oT,h.ob,h.oG,h.ol,h.op,h.oi⟩
theorem UZ.below (h:UZ w e cs tb bb bk im T tc Al lc lv bu se Ap pc es mc G own g m) (hb:Below w.heap.size w w'):UZ w' e cs tb bb bk im T tc Al lc lv bu se Ap pc es mc G own g m:=
 h.keeps (QK.of_below hb (fun _=>False)) (fun _ _ _=>id)
theorem Ko5 {S N:Nat→Prop} {K:Nat} (hk:QK S w w') (hS: ∀i,S i→own i K):VW w w' own (Qs2 w own N K):=
 ⟨hk.mono (fun i hi=>⟨K,hS i hi⟩),fun i k hi=>hi.imp id (fun x=>x.1)⟩
theorem UZ.bookStep {M1 M2:List QX} {G':Nat→Prop} (h:UZ w e cs tb bb bk im T tc Al lc lv bu se Ap pc es mc G own g m) (hB:Q1 w' bk G' M1 M2) (ht:KQ w w' G G'):
  UZ w' e cs tb bb bk im T tc Al lc lv bu se Ap pc es mc G' (Qs2 w own G' 4) g {m with L1:=M1,L2:=M2}∧VW w w' own (Qs2 w own G' 4):=by
 obtain⟨hk,hg⟩:=ht
 have f: ∀ {i k:Nat},own i k→k≠4→ ¬G i:=fun hi hne=>h.fit h.oG hi hne
 have n: ∀ {i k:Nat},own i k→Qs2 w own G' 4 i k:=fun hi=> .inl hi
 refine⟨⟨h.ind.keeps hk (f h.oe (by decide)) (fun i hi=>f (h.ol i hi) (by decide)),⟨h.ec.sz,h.ec.c4,h.ec.c5,h.ec.c6,h.ec.c7,h.ec.c8,h.ec.c12,h.ec.c13,h.ec.c14,h.ec.c15,h.ec.c16,h.ec.c17⟩,h.is,Nat.lt_of_lt_of_le h.tabl hk.size,(hk.cell (p:=⟨tb,0,none⟩) h.tabl (f h.ot (by decide))).trans h.tabc,h.tabp.keeps hk (fun i hi=>f (h.oT i hi) (by decide)),QJ.keeps h.bands hk (f h.ob (by decide)),hB,h.park.keeps hk (fun i hi=>f (h.op i hi) (by decide)),h.map_.of_block (hk.block _ h.map_.lt (f h.oi (by decide))),h.keys,h.ids,h.ok.new_ hk.size (fun i hi=>hB.fp hi) 4,n h.oe,n h.ot,fun i hi=>n (h.oT i hi),n h.ob,fun i hi=> ?_,fun i hi=>n (h.ol i hi),fun i hi=>n (h.op i hi),n h.oi⟩,Ko5 hk h.oG⟩
 rcases hg i hi with e1|e1
 ·exact n (h.oG i e1)
 ·exact .inr ⟨e1,hi,rfl⟩
theorem UZ.bookTo {M1 M2:List QX} (h:UZ w e cs tb bb bk im T tc Al lc lv bu se Ap pc es mc G own g m) (ht:Qj9 w w' bk G M1 M2):
  ∃G' own',UZ w' e cs tb bb bk im T tc Al lc lv bu se Ap pc es mc G' own' g {m with L1:=M1,L2:=M2}∧VW w w' own own':=by
 obtain⟨G',hB,hs⟩:=ht
 obtain⟨h1,h2⟩:=h.bookStep hB hs
 exact⟨G',_,h1,h2⟩
theorem UZ.indTo {lv':List XJ} {bu' se':Int} {g':Int→Option Int→Int} (h:UZ w e cs tb bb bk im T tc Al lc lv bu se Ap pc es mc G own g m) (ht:Qd1 w w' e 126 cs 9 Al lv' bu' se') (hi:Qd3 lv' bu' se' g'):
  ∃cs' Al' lc' own',UZ w' e cs' tb bb bk im T tc Al' lc' lv' bu' se' Ap pc es mc G own' g' m∧VW w w' own own':=by
 obtain⟨cs',Al',lc',hM,hsz,hcs,hk,hg⟩:=ht
 have f: ∀ {i k:Nat},own i k→k≠1→k≠5→ ¬(i=e∨QZ Al=some i):=fun hi h1 h5 hs=>by
  rcases hs with rfl|hs
  ·exact h1 (h.ok.uni _ _ _ hi h.oe)
  ·exact h5 (h.ok.uni _ _ _ hi (h.ol _ hs))
 have n: ∀ {i k:Nat},own i k→Qs2 w own (fun i=>QZ Al'=some i) 5 i k:=fun hi=> .inl hi
 have c: ∀i v,cs[i]?=some v→i≠9→i≠10→i≠11→cs'[i]?=some v:=fun i v hv h9 h10 h11=>(hcs i h9 h10 h11).trans hv
 refine⟨cs',Al',lc',Qs2 w own (fun i=>QZ Al'=some i) 5,⟨hM,⟨hsz.trans h.ec.sz,c _ _ h.ec.c4 (by decide) (by decide) (by decide),c _ _ h.ec.c5 (by decide) (by decide) (by decide),c _ _ h.ec.c6 (by decide) (by decide) (by decide),c _ _ h.ec.c7 (by decide) (by decide) (by decide),c _ _ h.ec.c8 (by decide) (by decide) (by decide),c _ _ h.ec.c12 (by decide) (by decide) (by decide),c _ _ h.ec.c13 (by decide) (by decide) (by decide),c _ _ h.ec.c14 (by decide) (by decide) (by decide),c _ _ h.ec.c15 (by decide) (by decide) (by decide),c _ _ h.ec.c16 (by decide) (by decide) (by decide),c _ _ h.ec.c17 (by decide) (by decide) (by decide)⟩,hi,Nat.lt_of_lt_of_le h.tabl hk.size,(hk.cell (p:=⟨tb,0,none⟩) h.tabl (f h.ot (by decide) (by decide))).trans h.tabc,h.tabp.keeps hk (fun i hi=>f (h.oT i hi) (by decide) (by decide)),QJ.keeps h.bands hk (f h.ob (by decide) (by decide)),h.book.keeps hk (fun i hi=>f (h.oG i hi) (by decide) (by decide)),h.park.keeps hk (fun i hi=>f (h.op i hi) (by decide) (by decide)),h.map_.of_block (hk.block _ h.map_.lt (f h.oi (by decide) (by decide))),h.keys,h.ids,h.ok.new_ hk.size (fun i hi=>hM.row.lt hi) 5,n h.oe,n h.ot,fun i hi=>n (h.oT i hi),n h.ob,fun i hi=>n (h.oG i hi),fun i hi=> ?_,fun i hi=>n (h.op i hi),n h.oi⟩,hk.mono (fun i hi=> ?_),fun i k hi=>hi.imp id (fun x=>x.1)⟩
 ·rcases hg i hi with e1|e1
  ·exact n (h.ol i e1)
  ·exact .inr ⟨e1,hi,rfl⟩
 ·rcases hi with rfl|hi
  ·exact⟨1,h.oe⟩
  ·exact⟨5,h.ol i hi⟩
theorem UZ.bandsTo {an la:Int} (h:UZ w e cs tb bb bk im T tc Al lc lv bu se Ap pc es mc G own g m) (hb:Q9 w' bb m.st m.dy an la) (hk:QK (fun i=>i=bb) w w'):
  UZ w' e cs tb bb bk im T tc Al lc lv bu se Ap pc es mc G own g {m with an:=an,la:=la}∧VW w w' own own:=by
 have f: ∀ {i k:Nat},own i k→k≠3→ ¬i=bb:=fun hi hne=>h.fit (S:=fun i=>i=bb) (fun i hi=>hi▸h.ob) hi hne
 exact⟨⟨h.ind.keeps hk (f h.oe (by decide)) (fun i hi=>f (h.ol i hi) (by decide)),⟨h.ec.sz,h.ec.c4,h.ec.c5,h.ec.c6,h.ec.c7,h.ec.c8,h.ec.c12,h.ec.c13,h.ec.c14,h.ec.c15,h.ec.c16,h.ec.c17⟩,h.is,Nat.lt_of_lt_of_le h.tabl hk.size,(hk.cell (p:=⟨tb,0,none⟩) h.tabl (f h.ot (by decide))).trans h.tabc,h.tabp.keeps hk (fun i hi=>f (h.oT i hi) (by decide)),hb,h.book.keeps hk (fun i hi=>f (h.oG i hi) (by decide)),h.park.keeps hk (fun i hi=>f (h.op i hi) (by decide)),h.map_.of_block (hk.block _ h.map_.lt (f h.oi (by decide))),h.keys,h.ids,h.ok.mono hk.size,h.oe,h.ot,h.oT,h.ob,h.oG,h.ol,h.op,h.oi⟩,hk.mono (fun i hi=>⟨3,hi▸h.ob⟩),fun i k hi=> .inl hi⟩
theorem UZ.cellsTo {cs':Array Value} {m':VQ} (h:UZ w e cs tb bb bk im T tc Al lc lv bu se Ap pc es mc G own g m) (hb:QJ w' e 126 cs') (hk:QK (fun i=>i=e) w w') (hc:Jf4 cs' tb bb bk im Ap pc m') (h9:cs'[9]?=cs[9]?) (h10:cs'[10]?=cs[10]?) (h11:cs'[11]?=cs[11]?)
  (hm:m'.rows=m.rows∧m'.st=m.st∧m'.dy=m.dy∧m'.an=m.an∧m'.la=m.la∧m'.L1=m.L1∧m'.L2=m.L2∧m'.pk=m.pk∧m'.ids=m.ids):
  UZ w' e cs' tb bb bk im T tc Al lc lv bu se Ap pc es mc G own g m'∧VW w w' own own:=by
 obtain⟨e1,e2,e3,e4,e5,e6,e7,e8,e9⟩:=hm
 have f: ∀ {i k:Nat},own i k→k≠1→ ¬i=e:=fun hi hne=>h.fit (S:=fun i=>i=e) (fun i hi=>hi▸h.oe) hi hne
 have hr:=h.ind
 refine⟨⟨⟨hb,h9.trans hr.c0,h10.trans hr.c1,h11.trans hr.c2,hr.row.keeps hk (fun i hi=>f (h.ol i hi) (by decide)),hr.na,hr.ok⟩,hc,h.is,Nat.lt_of_lt_of_le h.tabl hk.size, ?_, ?_, ?_, ?_, ?_,h.map_.of_block (hk.block _ h.map_.lt (f h.oi (by decide))),h.keys, ?_,h.ok.mono hk.size,h.oe,h.ot,h.oT,h.ob,h.oG,h.ol,h.op,h.oi⟩,hk.mono (fun i hi=>⟨1,hi▸h.oe⟩),fun i k hi=> .inl hi⟩
 ·rw[e1];exact(hk.cell (p:=⟨tb,0,none⟩) h.tabl (f h.ot (by decide))).trans h.tabc
 ·rw[e1];exact h.tabp.keeps hk (fun i hi=>f (h.oT i hi) (by decide))
 ·rw[e2,e3,e4,e5];exact QJ.keeps h.bands hk (f h.ob (by decide))
 ·rw[e6,e7];exact h.book.keeps hk (fun i hi=>f (h.oG i hi) (by decide))
 ·rw[e8];exact h.park.keeps hk (fun i hi=>f (h.op i hi) (by decide))
 ·rw[e9];exact h.ids
theorem UZ.at_ (h:UZ w e cs tb bb bk im T tc Al lc lv bu se Ap pc es mc G own g m) (hg: ∀s k,(s=1∨s=2)→g s k=Q3 s k (Qa4 m)):YQ w e (fun i=> ∃k,own i k) m:=
 ⟨cs,tb,bb,bk,im,T,tc,Al,lc,lv,bu,se,Ap,pc,es,mc,G,own,⟨h.ind,h.ec,h.is.congr hg,h.tabl,h.tabc,h.tabp,h.bands,h.book,h.park,h.map_,h.keys,h.ids,h.ok,h.oe,h.ot,h.oT,h.ob,h.oG,h.ol,h.op,h.oi⟩,fun i=>Iff.rfl⟩
theorem VW.bstep {F:Nat→Prop} {own':Nat→Nat→Prop} (h:VW w w' own own') (hF: ∀i,F i↔ ∃k,own i k):KQ w w' F (fun i=> ∃k,own' i k):=by
 refine⟨h.1.mono (fun i hi=>(hF i).2 hi),fun i ⟨k,hi⟩=> ?_⟩
 rcases h.2 i k hi with e1|e1
 ·exact .inl ((hF i).2 ⟨k,e1⟩)
 ·exact .inr e1
theorem YQ.below {F:Nat→Prop} (h:YQ w e F m) (hb:Below w.heap.size w w'):YQ w' e F m:=by
 obtain⟨cs,tb,bb,bk,im,T,tc,Al,lc,lv,bu,se,Ap,pc,es,mc,G,own,hM,hF⟩:=h
 exact⟨cs,tb,bb,bk,im,T,tc,Al,lc,lv,bu,se,Ap,pc,es,mc,G,own,hM.below hb,hF⟩
theorem YQ.keeps {F S:Nat→Prop} (h:YQ w e F m) (hk:QK S w w') (hS: ∀i,F i→ ¬S i):YQ w' e F m:=by
 obtain⟨cs,tb,bb,bk,im,T,tc,Al,lc,lv,bu,se,Ap,pc,es,mc,G,own,hM,hF⟩:=h
 exact⟨cs,tb,bb,bk,im,T,tc,Al,lc,lv,bu,se,Ap,pc,es,mc,G,own,hM.keeps hk (fun i k hi=>hS i ((hF i).2 ⟨k,hi⟩)),hF⟩
theorem YQ.lt {F:Nat→Prop} (h:YQ w e F m) {i:Nat} (hi:F i):i<w.heap.size:=by
 obtain⟨cs,tb,bb,bk,im,T,tc,Al,lc,lv,bu,se,Ap,pc,es,mc,G,own,hM,hF⟩:=h
 obtain⟨k,hk⟩:=(hF i).1 hi
 exact hM.ok.lt i k hk
theorem ZZ.same {F:Nat→Prop} (h:YQ w e F m) (hb:Below w.heap.size w w'):ZZ w w' e F m:=⟨F,h.below hb,KQ.of_below hb⟩
theorem ZZ.then_ {F:Nat→Prop} {w'':World} (h:ZZ w w' e F m) (hb:Below w'.heap.size w' w''):ZZ w w'' e F m:=by
 obtain⟨F',h1,h2⟩:=h
 exact⟨F',h1.below hb,h2.trans (KQ.of_below hb)⟩
end
end Go.Proofs.YtbmiieehkkfbgaaGreatDoor
