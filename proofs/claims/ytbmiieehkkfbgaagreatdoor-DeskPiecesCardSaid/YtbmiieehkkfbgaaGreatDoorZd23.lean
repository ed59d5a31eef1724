/- Contracts and walks that the law's proof needs. -/
import Derived.Test.YtbmiieehkkfbgaaGreatDoorZd17
set_option linter.unusedVariables false
set_option maxRecDepth 100000
set_option maxHeartbeats 8000000
namespace Go.Proofs.YtbmiieehkkfbgaaGreatDoor
open Go.RowKit
theorem Kb7 (w:World) (b:Nat) (o:QX) (a:Nat) (F:Nat→Prop) (M:Int→Int→Option QX) (n r:Nat) (f:Int→Option Value) (H:Int→HS) (reg:Nat→Int) (hM:XK w b a F M n r f H reg)
  (hS:ZX M n f H) (hfit:Qf4 o)
  (h:Jc0 o=true) (hr:Qr3 o=true) (hf:f o.id=none) (hn:n<100) (hsd:o.side=2) (hkd:(o.kind ==2)=true):
  Calls Tryz.prog 142 #[.pointer (some ⟨b,0,none⟩),KJ o] w fun e w'=>e= .returned (VZ 0)∧Qo4 w w' b a r F n H (JJ o):=by
 obtain⟨hs,hi⟩:=Qd2.1 h
 obtain⟨mk,hmk,hmkv⟩: ∃mk,(o.kind ==2)=mk∧mk=true:=⟨_,rfl,hkd⟩
 have HMkv:=QQ hmkv
 clear hmkv hkd
 obtain⟨o',ho'⟩: ∃o',JJ o=o':=⟨_,rfl⟩
 have HSide:=QQ hsd
 have HM:=QQ hM
 clear hsd
 have HR:=QQ (show J4 o'.price o.qty=true by rw[←ho'];exact hr)
 have HF:=QQ hf
 have HK:=QQ hmk
 have HN:=QQ hn
 have HSd:=QQ hs
 have HO:=QQ ho'
 have HI:=QQ hi
 have HSm:=QQ hS
 have HOk:=QQ (show OkO o' by
  have hp:=V3.1 (show J4 o'.price o.qty=true by rw[←ho'];exact hr);rw[←ho']at hp⊢;obtain⟨f1,f2,f3,f4,f5⟩:=hfit;exact⟨⟨f1,f2,f3,by unfold KZ;omega,f5⟩,hi,⟨hp.1,hp.2.1⟩,⟨hp.2.2.1,hp.2.2.2⟩⟩)
 have B0:=QJ.new w 117 (KV o)
 have hB0:Below w.heap.size w (w.alloc (.cells (KV o) 117)):=(Below.refl _ w).alloc (Nat.le_refl _) _
 have HX0:=QQ B0
 have HB0:=QQ hB0
 unfold KJ
 clear h hi hr hM hf hn hs hS hfit ho' hmk B0 hB0
 go_enter Tryz.func142,Tryz.ntmps142
 go_upto_region 1 with fail
 go_cut [25] (fun s25 wx=>s25= .bool false∧Qr4 w wx b a F M n r f H reg o)
 case first=>
  obtain⟨id,side,kind,price,qty⟩:=o;have d1:decide (id<1)=false:=OY (by have:=HI.out;dsimp only at this;omega);rcases HSd.out with h1|h1
  ·dsimp only at h1
   subst h1;go_wp2_with fail
   go_meet;exact⟨rfl,HB0.out,HM.out.below HB0.out,HX0.out⟩
  ·dsimp only at h1
   subst h1;go_wp2_with fail
   go_meet;exact⟨rfl,HB0.out,HM.out.below HB0.out,HX0.out⟩
 case rest=>
  obtain⟨rfl,h8⟩:=hcut;have H8:=QQ h8;obtain⟨x0,x1,x2,x3,x4⟩:=JV h8.2.2;have xf:=QJ.frozen h8.2.2 3;have t1:=HK.out;clear h8;go_upto_if 30 with fail
  go_cut [31] (fun s31 wx=>Qr4 w wx b a F M n r f H reg o')
  case first=>
   cases mk with
   |true=>
    have t2:=QQ t1;clear t1;go_wp2_with fail
    go_meet;rw[←HO.out];exact Qm2 HM.out H8.out t2.out
   |false=>
    have t2:=QQ t1;clear t1;go_wp2_with fail
    go_meet;rw[←HO.out,Qr5 t2.out];exact H8.out
  case rest=>
   clear x0 x1 x2 x3 x4 xf H8 HX0 HB0;have e4:o'.qty=o.qty:=by rw[←HO.out];rfl
   have e0:o'.id=o.id:=by rw[←HO.out];rfl
   have e1:o'.side=o.side:=by rw[←HO.out];rfl
   have e2:o'.kind=o.kind:=by rw[←HO.out];rfl
   have H8:=QQ hcut;obtain⟨x0,x1,x2,x3,x4⟩:=JV hcut.2.2;rw[e4]at x4;rw[e0]at x0;rw[e1]at x1;rw[e2]at x2;clear t1 hcut;have E4:=QQ e4;have E0:=QQ e0;have E1:=QQ e1;have E2:=QQ e2;clear e4 e0 e1 e2;go_wp2_with fail
   refine(U2 _ _ _).mono ?_;rintro e w1 ⟨rfl,hb⟩;rw[HR.out];clear x0 x1 x2 x3 x4;have h8:=Qh5 H8.out hb;clear H8 HR;have H8:=QQ h8;have hl1:=QJ.lt h8.2.2;have hl2:=QJ.lt h8.2.1.blk;obtain⟨x0,x1,x2,x3,x4⟩:=JV h8.2.2;obtain⟨y0,y1,y2,y3,y4,y5⟩:=h8.2.1.cells;rw[E4.out]at x4;rw[E0.out]at x0;rw[E1.out]at x1;rw[E2.out]at x2;have hlk:=OW (w:=(w1.alloc (.cells #[.int .i64 0,.int .i64 0,.int .i64 0,.int .i64 0,.bool false] 172)).drew) (h8.2.1.mp.alloc _) HF.out;have hlk2:=OW (w:=w1.drew) h8.2.1.mp HF.out;clear h8 hb;go_upto_region 8 with fail
   go_cut [7] (fun s7 wx=>s7= .bool false∧Qr4 w wx b a F M n r f H reg o')
   case first=>
    clear y0 y2 y3 y4 y5 x1 x2 x3 x4
    as_aux_lemma=>
    go_region_law (fail)
    all_goals go_wp2_with fail
    all_goals go_meet
    all_goals exact⟨rfl,Qh5 H8.out (Below.drew ((Below.refl _ w1).alloc (Nat.le_refl _) _))⟩
   case rest=>
    clear x0 x1 x2 x3 x4 y0 y1 y2 y3 y4 y5 hlk hlk2 hl1 hl2 H8;obtain⟨rfl,h8⟩:=hcut;have H8:=QQ h8;have hl1:=QJ.lt h8.2.2;have hl2:=QJ.lt h8.2.1.blk;have hao:KJ o'= .agg #[.int .i64 o.id,.int .i64 o.side,.int .i64 o.kind,.int .i64 o'.price,.int .i64 o.qty]:=by unfold KJ;rw[E0.out,E1.out,E2.out,E4.out]
    have hput: ∀W,Below wc.heap.size wc W→Calls Tryz.prog 181 #[.pointer (some ⟨a,0,none⟩),.agg #[.int .i64 o.id,.int .i64 o.side,.int .i64 o.kind,.int .i64 o'.price,.int .i64 o.qty]] W (Ze6 W a F M n o'):=by
     intro W hW;rw[←hao];refine(Jh8 (h8.2.1.ar.below hW) (by omega) o').mono ?_;rintro e w' (⟨h1,_,_⟩|⟨_,sl,ag,h1,h2,h3⟩)
     ·have:=HN.out;omega
     ·exact⟨sl,ag,h1,h2,h3⟩
    have HPA:=QQ (hput ((wc.alloc (.cells #[.int .i64 0,.int .i64 0] 170)).drew) (Below.drew ((Below.refl _ _).alloc (Nat.le_refl _) _)));have HPB:=QQ (hput wc.drew (Below.drew (Below.refl _ _)));obtain⟨x0,x1,x2,x3,x4⟩:=JV h8.2.2;obtain⟨y0,y1,y2,y3,y4,y5⟩:=h8.2.1.cells;rw[E4.out]at x4;rw[E0.out]at x0;rw[E1.out]at x1;rw[E2.out]at x2;clear h8 hput hao;go_upto_region 11 with fail
    go_cut [8,9] (fun s8 s9 wx=>s9= .nilIface∧Xs6 w wx b a F M n r f H o' s8)
    case first=>
     clear y1 y2 y3 y4 y5
     as_aux_lemma=>
     go_region_with (first|(go_at_call 181;refine HPA.out.mono ?_;rintro e w5 ⟨sl,ag,hno,rfl,hto⟩;have hb5:=Js1 H8.out.2.1.ar hto;have z0:w5.cell? ⟨wc.heap.size,0,none⟩=some (.int .i64 0):=(by rw[QJ.cell hb5];rfl);have z1:w5.cell? ⟨wc.heap.size,1,none⟩=some (.int .i64 0):=(by rw[QJ.cell hb5];rfl);have f0:=QJ.frozen hb5 0;have f1:=QJ.frozen hb5 1;have HB5:=QQ hb5;have HT5:=QQ hto;have HNo:=QQ hno;clear hto hno hb5)|(go_at_call 181;refine HPB.out.mono ?_;rintro e w5 ⟨sl,ag,hno,rfl,hto⟩;have HT5:=QQ hto;have HNo:=QQ hno;clear hto hno))
     all_goals go_wp2_with fail
     all_goals go_meet
     all_goals
      refine⟨rfl, ?_⟩
      first
       |exact Qi5 HM.out H8.out (Below.drew ((Below.refl _ _).alloc (Nat.le_refl _) _)) HNo.out HT5.out (Jb0 _ _ 0 1 _ _) (.inl (by simp)) (Nat.le_refl _) (QJ.set_ (QJ.set_ HB5.out 0 _) 1 _)
       |exact Qi5 HM.out H8.out (Below.drew (Below.refl _ _)) HNo.out HT5.out (QK.of_below ((Below.refl _ _).alloc (Nat.le_refl _) _) _) (.inr (Nat.le_refl _)) (Nat.le_trans (Below.drew (Below.refl wc.heap.size wc)).size HT5.out.choose_spec.2.1.size) (QJ.new _ _ _)
    case rest=>
     obtain⟨rfl,hd,pb,F',reg',rfl,hno,hPb,hX,hM3,hS3,hnp,hnx⟩:=hcut;clear x0 x1 x2 x3 x4 y0 y1 y2 y3 y4 y5 hl1 hl2 H8 HPA HPB;have hI0:I7 wc.drew r f:=hM3.mp.of_block rfl;obtain⟨w4,hup,hI4,hT4⟩:=hI0.update (P:=Tryz.prog) (t:=175) Tryz.underlying175 Tryz.underlying3 o.id (.agg #[.int .i64 hd.1,.int .i64 hd.2,.int .i64 o.side,.int .i64 o'.price,.bool mk]);have hB3:Below wc.heap.size wc wc.drew:=Below.drew (Below.refl _ _);obtain⟨hM4,hS4⟩:=(hM3.below hB3).map_ hT4 hI4;have hS34:=(hS3.trans (KQ.of_below hB3)).trans hS4;have hPb4:QJ w4 pb 170 #[.int .i64 hd.1,.int .i64 hd.2]:=QJ.of_block (QJ.drew hPb) (hT4.block pb (fun e=>hnp (.inr (.inl e))));have hX4:QJ w4 w.heap.size 117 (KV o'):=QJ.of_block (QJ.drew hX) (hT4.block _ (fun e=>hnx (.inr (.inl e))));obtain⟨x0,x1,x2,x3,x4⟩:=JV hX;rw[E0.out]at x0;rw[E1.out]at x1;have p0:wc.cell? ⟨pb,0,none⟩=some (.int .i64 hd.1):=by rw[QJ.cell hPb];rfl
     have p1:wc.cell? ⟨pb,1,none⟩=some (.int .i64 hd.2):=by rw[QJ.cell hPb];rfl
     have y1:=hM3.cells.2.1;have HM4:=QQ hM4;have HS34:=QQ hS34;have HPb:=QQ hPb4;have HX4:=QQ hX4;have HNo:=QQ hno;have HNp:=QQ hnp;have HNx:=QQ hnx;clear hI0 hI4 hT4 hM4 hS4 hS34 hPb4 hX4 hPb hX hM3 hS3 hno hnp hnx hB3 x2 x4;go_upto_region 14 with fail
     go_cut [75] (fun s75 wx=>wx=w4)
     case first=>
      go_still_tail 13,(by kernel_rfl)
      change wpList _ _ _ _ _ wc.drew;go_wp2_with fail
      go_meet
      rfl
     case rest=>
      subst hcut;clear x0 x1 x3 p0 p1 y1 hup;have hpv:Value.agg #[.int .i64 hd.1,.int .i64 hd.2,.int .i64 o.side,.int .i64 o'.price,.bool mk]=X3 (hd,o'):=by
       unfold X3;dsimp only;rw[E1.out,E2.out,HK.out]
      have HMp:=QQ (show XK wc b a F' (Z1 M hd.1 hd.2 (some o')) (n+1) r (V1 f o'.id (some (X3 (hd,o')))) H reg' by rw[←hpv,E0.out];exact HM4.out);clear hpv HM4;have hs:=HSide.out;have hs':o'.side=2:=E1.out.trans hs;have HSd1:=QQ hs';obtain⟨y0,y1,y2,y3,y4,y5⟩:=HMp.out.cells;have x1:wc.cell? ⟨w.heap.size,1,none⟩=some (.int .i64 2):=by rw[QJ.cell HX4.out];show some (Value.int .i64 o'.side)=_;rw[hs']
      have HSd2:=QQ hs;clear y0 y1 y2 y3 y4 y5 hs hs';have hmk2:=HMkv.out;subst hmk2;have HKm:Hid (o'.kind=2):=QQ (by rw[E2.out];simpa using HK.out);go_wp2_with fail
      go_quiet (fail)
      have hq:Below wc.heap.size wc (wc.drewN nq):=QY (Below.refl _ _) nq;have HM5:=QQ (HMp.out.below hq);have HPb5:=QQ (QJ.drewN HPb.out nq);have HS5:=QQ (HS34.out.trans (KQ.of_below hq));clear x1 hq;generalize wc.drewN nq=w5 at HM5 HPb5 HS5⊢;obtain⟨y0,y1,y2,y3,y4,y5⟩:=HM5.out.cells;obtain⟨m,hm⟩: ∃m,(H 2).ms.length=m:=⟨_,rfl⟩;rw[hm]at y4;have HRow:=QQ (show QW w5 (H 2).mA m (H 2).mc 170 2 (JQ V9 (J7 (H 2).ms)) by rw[←hm];exact(HM5.out.hx 2 ZJ).rm);have Hm:=QQ hm;have hm100:m≤1000:=Kw3 ZJ hm HSm.out.cnt HN.out;have hmb:QZ (H 2).mA≠some b:=fun e=>by have:=(HM5.out.hx 2 ZJ).gm b e;have:=HM5.out.gb;omega
      have HMb:=QQ hmb;obtain⟨p0,p1⟩:w5.cell? ⟨pb,0,none⟩=some (.int .i64 hd.1)∧w5.cell? ⟨pb,1,none⟩=some (.int .i64 hd.2):=⟨by rw[QJ.cell HPb5.out];rfl,by rw[QJ.cell HPb5.out];rfl⟩;have hbl:=QJ.lt HM5.out.blk;have hpl:=QJ.lt HPb5.out;obtain⟨i0,hi0,hz0,hz1,hz2⟩:=info_parts Qo5;clear hm hmb y0 y1;go_upto_region 17 with fail
      go_region_law ((refine step_append_lies _ (by rfl) _ _ _ (by rfl) 0 170 i0 _ 2 16 Tryz.underlying176 hi0 hz0 hz1 hz2 rfl (by omega) (.slice (H 2).mA m (H 2).mc) m _ (by rfl) ((World.ownsRow.alloc HRow.out _).drew) ⟨w5.heap.size,0,none⟩ 1 1 (V9 hd) (by rfl) (by rfl) (World.news_of_block (cs:= #[.int .i64 hd.1,.int .i64 hd.2]) (t:=170) (fr:=(0,0)) (heap_alloc_new w5 _)) (Jh5 _) (by omega) (by unfold maxLen;omega) (by omega) (by simp) (w5.heap.size+1) (by simp) ?_;intro gg cap w6 hown hgrow hat hlt;have hk6:=OV hgrow;have b6:=QJ.keeps HM5.out.blk hk6 (fun e=>by rw[JW]at e;exact HMb.out e);have r0:w6.cell? ⟨b,4,none⟩=some (.slice (H 2).mA m (H 2).mc):=(by rw[QJ.cell b6];exact congrArg (fun k=>some (Value.slice (H 2).mA k (H 2).mc)) Hm.out);have rf0:=QJ.frozen b6 4;have HK6:=QQ hk6;have HO6:=QQ hown;have HA6:=QQ hat;clear b6 hgrow hk6 hown hat))
      all_goals go_wp2_with fail
      all_goals
       go_ret;refine⟨rfl, ?_⟩;rw[HO.out];exact Qx8 HSm.out ZJ HSd1.out HKm.out HOk.out HNo.out (by rw[E0.out];exact HF.out) HM5.out HS5.out Hm.out HK6.out HO6.out HA6.out
end Go.Proofs.YtbmiieehkkfbgaaGreatDoor
