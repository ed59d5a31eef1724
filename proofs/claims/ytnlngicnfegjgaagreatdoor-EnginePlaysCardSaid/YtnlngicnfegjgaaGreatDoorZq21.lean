/- Parts. -/
import Derived.Test.YtnlngicnfegjgaaGreatDoorZq18
set_option linter.unusedVariables false
set_option maxRecDepth 100000
set_option maxHeartbeats 8000000
open Go.Proofs.Tryz
open Go.Value renaming int→I,pointer→IP
open Go.IntKind renaming i64→O
namespace Go.Proofs.YtnlngicnfegjgaaGreatDoor
open Go.RowKit
theorem Qj0 w b o a F M n r f H reg (hM:Z9 w b a F M n r f H reg)
  (hS:U3 M n f H) (hfit:R9 o)
  (h:XW o=true) (hr:JH o=true) (hf:f o.id=none) (hn:n<100) (hsd:o.side=1) (hkd:(o.kind ==2)=true):
  Calls prog 93 #[IP (some ⟨b,0,none⟩),X5 o] w fun e w'=>e= .returned (U0 0)/\MQ w w' b a r F n H (V3 o):=by
 obtain⟨hs,hi⟩:=GG.1 h
 obtain⟨mk,hmk,hmkv⟩: ∃mk,(o.kind ==2)=mk/\mk=true:=⟨_,rfl,hkd⟩
 have HMkv:=Q0 hmkv
 clear hmkv hkd
 obtain⟨o',ho'⟩: ∃o',V3 o=o':=⟨_,rfl⟩
 have HSide:=Q0 hsd
 have HM:=Q0 hM
 clear hsd
 have HR:=Q0 (show H9 o'.price o.qty=true by rw[<-ho'];exact hr)
 have HF:=Q0 hf
 have HK:=Q0 hmk
 have HN:=Q0 hn
 have HSd:=Q0 hs
 have HO:=Q0 ho'
 have HI:=Q0 hi
 have HSm:=Q0 hS
 have HOk:=Q0 (show JJ o' by
  have hp:=DF.1 (show H9 o'.price o.qty=true by rw[<-ho'];exact hr);rw[<-ho']at hp|-;obtain⟨f1,f2,f3,f4,f5⟩:=hfit;exact⟨⟨f1,f2,f3,by unfold G8;omega,f5⟩,hi,⟨hp.1,hp.2.1⟩,⟨hp.2.2.1,hp.2.2.2⟩⟩)
 have B0:=J9 w 29 (J8 o)
 have hB0:Below w.heap.size w (w.alloc (.cells (J8 o) 29)):=(Q2 _ w).alloc (Q4 _) _
 have HX0:=Q0 B0
 have HB0:=Q0 hB0
 unfold X5
 clear h hi hr hM hf hn hs hS hfit ho' hmk B0 hB0
 go_enter DD,DA
 go_upto_region 1 with fail
 go_cut [25] (fun s25 wx=>s25= .bool false/\VJ w wx b a F M n r f H reg o)
 case first=>
  obtain⟨id,side,kind,price,qty⟩:=o;have d1:decide (id<1)=false:=Z1 (by have:=HI.out;dsimp only at this;omega);rcases HSd.out with h1|h1
  ·dsimp only at h1
   subst h1;go_wp2_with fail
   go_meet;exact⟨rfl,HB0.out,HM.out.below HB0.out,HX0.out⟩
  dsimp only at h1;subst h1;go_wp2_with fail
  go_meet;exact⟨rfl,HB0.out,HM.out.below HB0.out,HX0.out⟩
 obtain⟨rfl,h8⟩:=hcut
 have H8:=Q0 h8
 obtain⟨x0,x1,x2,x3,x4⟩:=Z6 h8.2.2
 have xf:=J1 h8.2.2 3
 have t1:=HK.out
 clear h8
 go_upto_if 30 with fail
 go_cut [31] (fun s31 wx=>VJ w wx b a F M n r f H reg o')
 case first=>
  cases mk with
  |true=>
   have t2:=Q0 t1;clear t1;go_wp2_with fail
   go_meet;rw[<-HO.out];exact WJ HM.out H8.out t2.out
  |false=>
   have t2:=Q0 t1;clear t1;go_wp2_with fail
   go_meet;rw[<-HO.out,WC t2.out];exact H8.out
 clear x0 x1 x2 x3 x4 xf H8 HX0 HB0
 have e4:o'.qty=o.qty:=by rw[<-HO.out];rfl
 have e0:o'.id=o.id:=by rw[<-HO.out];rfl
 have e1:o'.side=o.side:=by rw[<-HO.out];rfl
 have e2:o'.kind=o.kind:=by rw[<-HO.out];rfl
 have H8:=Q0 hcut
 obtain⟨x0,x1,x2,x3,x4⟩:=Z6 hcut.2.2
 rw[e4]at x4
 rw[e0]at x0
 rw[e1]at x1
 rw[e2]at x2
 clear t1 hcut
 have E4:=Q0 e4
 have E0:=Q0 e0
 have E1:=Q0 e1
 have E2:=Q0 e2
 clear e4 e0 e1 e2
 go_wp2_with fail
 refine(CS _ _ _).mono ?_
 rintro e w1 ⟨rfl,hb⟩
 rw[HR.out]
 clear x0 x1 x2 x3 x4
 have h8:=FQ H8.out hb
 clear H8 HR
 have H8:=Q0 h8
 have hl1:=J5 h8.2.2
 have hl2:=J5 h8.2.1.blk
 obtain⟨x0,x1,x2,x3,x4⟩:=Z6 h8.2.2
 obtain⟨y0,y1,y2,y3,y4,y5⟩:=h8.2.1.cells
 rw[E4.out]at x4
 rw[E0.out]at x0
 rw[E1.out]at x1
 rw[E2.out]at x2
 have hlk:=CM (w:=(w1.alloc (.cells #[I O 0,I O 0,I O 0,I O 0,.bool false] 188)).drew) (h8.2.1.mp.alloc _) HF.out
 have hlk2:=CM (w:=w1.drew) h8.2.1.mp HF.out
 clear h8 hb
 go_upto_region 8 with fail
 go_cut [7] (fun s7 wx=>s7= .bool false/\VJ w wx b a F M n r f H reg o')
 case first=>
  clear y0 y2 y3 y4 y5 x1 x2 x3 x4
  as_aux_lemma=>
  go_region_law (fail)
  all_goals go_wp2_with fail
  all_goals go_meet
  all_goals exact⟨rfl,FQ H8.out (J3 ((Q2 _ w1).alloc (Q4 _) _))⟩
 clear x0 x1 x2 x3 x4 y0 y1 y2 y3 y4 y5 hlk hlk2 hl1 hl2 H8
 obtain⟨rfl,h8⟩:=hcut
 have H8:=Q0 h8
 have hl1:=J5 h8.2.2
 have hl2:=J5 h8.2.1.blk
 have hao:X5 o'= .agg #[I O o.id,I O o.side,I O o.kind,I O o'.price,I O o.qty]:=by unfold X5;rw[E0.out,E1.out,E2.out,E4.out]
 have hput: ∀W,Below wc.heap.size wc W->Calls prog 130 #[IP (some ⟨a,0,none⟩),.agg #[I O o.id,I O o.side,I O o.kind,I O o'.price,I O o.qty]] W (Zf W a F M n o'):=by
  intro W hW;rw[<-hao];refine(WW (h8.2.1.ar.below hW) (by omega) o').mono ?_;rintro e w' (⟨h1,_,_⟩|⟨_,sl,ag,h1,h2,h3⟩)
  ·have:=HN.out;omega
  exact⟨sl,ag,h1,h2,h3⟩
 have HPA:=Q0 (hput ((wc.alloc (.cells #[I O 0,I O 0] 186)).drew) (J3 ((Q2 _ _).alloc (Q4 _) _)))
 have HPB:=Q0 (hput wc.drew (J3 (Q2 _ _)))
 obtain⟨x0,x1,x2,x3,x4⟩:=Z6 h8.2.2
 obtain⟨y0,y1,y2,y3,y4,y5⟩:=h8.2.1.cells
 rw[E4.out]at x4
 rw[E0.out]at x0
 rw[E1.out]at x1
 rw[E2.out]at x2
 clear h8 hput hao
 go_upto_region 11 with fail
 go_cut [8,9] (fun s8 s9 wx=>s9= .nilIface/\Qi w wx b a F M n r f H o' s8)
 case first=>
  clear y1 y2 y3 y4 y5
  as_aux_lemma=>
  go_region_with (first|(go_at_call 130;refine HPA.out.mono ?_;rintro e w5 ⟨sl,ag,hno,rfl,hto⟩;have hb5:=Kg H8.out.2.1.ar hto;have z0:w5.cell? ⟨wc.heap.size,0,none⟩=some (I O 0):=(by rw[J0 hb5];rfl);have z1:w5.cell? ⟨wc.heap.size,1,none⟩=some (I O 0):=(by rw[J0 hb5];rfl);have f0:=J1 hb5 0;have f1:=J1 hb5 1;have HB5:=Q0 hb5;have HT5:=Q0 hto;have HNo:=Q0 hno;clear hto hno hb5)|(go_at_call 130;refine HPB.out.mono ?_;rintro e w5 ⟨sl,ag,hno,rfl,hto⟩;have HT5:=Q0 hto;have HNo:=Q0 hno;clear hto hno))
  all_goals go_wp2_with fail
  all_goals go_meet
  all_goals
   refine⟨rfl, ?_⟩
   first
    |exact LR HM.out H8.out (J3 ((Q2 _ _).alloc (Q4 _) _)) HNo.out HT5.out (RS _ _ 0 1 _ _) (.inl (by simp)) (Q4 _) (J7 (J7 HB5.out 0 _) 1 _)
    |exact LR HM.out H8.out (J3 (Q2 _ _)) HNo.out HT5.out (U1 ((Q2 _ _).alloc (Q4 _) _) _) (.inr (Q4 _)) (G0 (J3 (Q2 wc.heap.size wc)).size HT5.out.choose_spec.2.1.size) (J9 _ _ _)
 obtain⟨rfl,hd,pb,F',reg',rfl,hno,hPb,hX,hM3,hS3,hnp,hnx⟩:=hcut
 clear x0 x1 x2 x3 x4 y0 y1 y2 y3 y4 y5 hl1 hl2 H8 HPA HPB
 have hI0:P7 wc.drew r f:=hM3.mp.of_block rfl
 obtain⟨w4,hup,hI4,hT4⟩:=hI0.update (P:=prog) (t:=150) PD VN o.id (.agg #[I O hd.1,I O hd.2,I O o.side,I O o'.price,.bool mk])
 have hB3:Below wc.heap.size wc wc.drew:=J3 (Q2 _ _)
 obtain⟨hM4,hS4⟩:=(hM3.below hB3).map_ hT4 hI4
 have hS34:=(hS3.trans (C1 hB3)).trans hS4
 have hPb4:Q1 w4 pb 186 #[I O hd.1,I O hd.2]:=YT (Z2 hPb) (hT4.block pb (fun e=>hnp (.inr (.inl e))))
 have hX4:Q1 w4 w.heap.size 29 (J8 o'):=YT (Z2 hX) (hT4.block _ (fun e=>hnx (.inr (.inl e))))
 obtain⟨x0,x1,x2,x3,x4⟩:=Z6 hX
 rw[E0.out]at x0
 rw[E1.out]at x1
 have p0:wc.cell? ⟨pb,0,none⟩=some (I O hd.1):=by rw[J0 hPb];rfl
 have p1:wc.cell? ⟨pb,1,none⟩=some (I O hd.2):=by rw[J0 hPb];rfl
 have y1:=hM3.cells.2.1
 have HM4:=Q0 hM4
 have HS34:=Q0 hS34
 have HPb:=Q0 hPb4
 have HX4:=Q0 hX4
 have HNo:=Q0 hno
 have HNp:=Q0 hnp
 have HNx:=Q0 hnx
 clear hI0 hI4 hT4 hM4 hS4 hS34 hPb4 hX4 hPb hX hM3 hS3 hno hnp hnx hB3 x2 x4
 go_upto_region 14 with fail
 go_cut [75] (fun s75 wx=>wx=w4)
 case first=>
  go_still_tail 13,(by kernel_rfl)
  change wpList _ _ _ _ _ wc.drew;go_wp2_with fail
  go_meet
  rfl
 subst hcut
 clear x0 x1 x3 p0 p1 y1 hup
 have hpv:Value.agg #[I O hd.1,I O hd.2,I O o.side,I O o'.price,.bool mk]=JC (hd,o'):=by
  unfold JC;dsimp only;rw[E1.out,E2.out,HK.out]
 have HMp:=Q0 (show Z9 wc b a F' (W8 M hd.1 hd.2 (some o')) (n+1) r (D0 f o'.id (some (JC (hd,o')))) H reg' by rw[<-hpv,E0.out];exact HM4.out)
 clear hpv HM4
 have hs:=HSide.out
 have hs':o'.side=1:=E1.out.trans hs
 have HSd1:=Q0 hs'
 obtain⟨y0,y1,y2,y3,y4,y5⟩:=HMp.out.cells
 have x1:wc.cell? ⟨w.heap.size,1,none⟩=some (I O 1):=by rw[J0 HX4.out];show some (Value.int .i64 o'.side)=_;rw[hs']
 have HSd2:=Q0 hs
 clear y0 y1 y2 y3 y4 y5 hs hs'
 have hmk2:=HMkv.out
 subst hmk2
 have HKm:Hid (o'.kind=2):=Q0 (by rw[E2.out];simpa using HK.out)
 go_wp2_with fail
 go_quiet (fail)
 have hq:Below wc.heap.size wc (wc.drewN nq):=U7 (Q2 _ _) nq
 have HM5:=Q0 (HMp.out.below hq)
 have HPb5:=Q0 (P9 HPb.out nq)
 have HS5:=Q0 (HS34.out.trans (C1 hq))
 clear x1 hq
 generalize wc.drewN nq=w5 at HM5 HPb5 HS5|-
 obtain⟨y0,y1,y2,y3,y4,y5⟩:=HM5.out.cells
 obtain⟨m,hm⟩: ∃m,(H 1).ms.length=m:=⟨_,rfl⟩
 rw[hm]at y2
 have HRow:=Q0 (show J2 w5 (H 1).mA m (H 1).mc 186 2 (Q9 E8 (A6 (H 1).ms)) by rw[<-hm];exact(HM5.out.hx 1 Y4).rm)
 have Hm:=Q0 hm
 have hm100:m<=1000:=Pu Y4 hm HSm.out.cnt HN.out
 have hmb:Q7 (H 1).mA≠some b:=fun e=>by have:=(HM5.out.hx 1 Y4).gm b e;have:=HM5.out.gb;omega
 have HMb:=Q0 hmb
 obtain⟨p0,p1⟩:w5.cell? ⟨pb,0,none⟩=some (I O hd.1)/\w5.cell? ⟨pb,1,none⟩=some (I O hd.2):=⟨by rw[J0 HPb5.out];rfl,by rw[J0 HPb5.out];rfl⟩
 have hbl:=J5 HM5.out.blk
 have hpl:=J5 HPb5.out
 obtain⟨i0,hi0,hz0,hz1,hz2⟩:=N0 Jv
 clear hm hmb y0 y1
 go_upto_region 17 with fail
 go_region_law ((refine PH _ (by rfl) _ _ _ (by rfl) 0 186 i0 _ 2 16 Qx hi0 hz0 hz1 hz2 rfl (by omega) (.slice (H 1).mA m (H 1).mc) m _ (by rfl) ((YM HRow.out _).drew) ⟨w5.heap.size,0,none⟩ 1 1 (E8 hd) (by rfl) (by rfl) (JB (cs:= #[I O hd.1,I O hd.2]) (t:=186) (fr:=(0,0)) (S5 w5 _)) (Ka _) (by omega) (by unfold maxLen;omega) (by omega) (by simp) (w5.heap.size+1) (by simp) ?_;intro gg cap w6 hown hgrow hat hlt;have hk6:=EB hgrow;have b6:=X0 HM5.out.blk hk6 (fun e=>by rw[A7]at e;exact HMb.out e);have r0:w6.cell? ⟨b,2,none⟩=some (.slice (H 1).mA m (H 1).mc):=(by rw[J0 b6];exact E7 (fun k=>some (Value.slice (H 1).mA k (H 1).mc)) Hm.out);have rf0:=J1 b6 2;have HK6:=Q0 hk6;have HO6:=Q0 hown;have HA6:=Q0 hat;clear b6 hgrow hk6 hown hat))
 all_goals go_wp2_with fail
 all_goals
  go_ret;refine⟨rfl, ?_⟩;rw[HO.out];exact Bn HSm.out Y4 HSd1.out HKm.out HOk.out HNo.out (by rw[E0.out];exact HF.out) HM5.out HS5.out Hm.out HK6.out HO6.out HA6.out
