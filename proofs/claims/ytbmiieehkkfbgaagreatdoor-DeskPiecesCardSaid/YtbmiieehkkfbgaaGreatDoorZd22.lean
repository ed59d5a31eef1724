/- Contracts and walks that the law's proof needs. -/
import Derived.Test.YtbmiieehkkfbgaaGreatDoorZd17
import Derived.Test.YtbmiieehkkfbgaaGreatDoorZd2
set_option linter.unusedVariables false
set_option maxRecDepth 100000
set_option maxHeartbeats 8000000
namespace Go.Proofs.YtbmiieehkkfbgaaGreatDoor
open Go.RowKit
theorem Kb6 (w:World) (b:Nat) (o:QX) (a:Nat) (F:Nat→Prop) (M:Int→Int→Option QX) (n r:Nat) (f:Int→Option Value) (H:Int→HS) (reg:Nat→Int) (hM:XK w b a F M n r f H reg)
  (hS:ZX M n f H) (hfit:Qf4 o)
  (h:Jc0 o=true) (hr:Qr3 o=true) (hf:f o.id=none) (hn:n<100) (hsd:o.side=1) (hkd:(o.kind ==2)=false):
  Calls Tryz.prog 142 #[.pointer (some ⟨b,0,none⟩),KJ o] w fun e w'=>e= .returned (VZ 0)∧Qo4 w w' b a r F n H (JJ o):=by
 obtain⟨hs,hi⟩:=Qd2.1 h
 obtain⟨mk,hmk,hmkv⟩: ∃mk,(o.kind ==2)=mk∧mk=false:=⟨_,rfl,hkd⟩
 have HMkv:=QQ hmkv
 clear hmkv hkd
 obtain⟨o',ho'⟩: ∃o',JJ o=o':=⟨_,rfl⟩
 have HSide:=QQ hsd
 have HM:=QQ hM
 clear hsd
 have HR:=QQ (show J4 o'.price o.qty=true by rw[←ho'];exact hr)
 have HF:=QQ hf
 have HK:=QQ hmk
 have HN:=QQ hn
 have HSd:=QQ hs
 have HO:=QQ ho'
 have HI:=QQ hi
 have HSm:=QQ hS
 have HOk:=QQ (show OkO o' by
  have hp:=V3.1 (show J4 o'.price o.qty=true by rw[←ho'];exact hr);rw[←ho']at hp⊢;obtain⟨f1,f2,f3,f4,f5⟩:=hfit;exact⟨⟨f1,f2,f3,by unfold KZ;omega,f5⟩,hi,⟨hp.1,hp.2.1⟩,⟨hp.2.2.1,hp.2.2.2⟩⟩)
 have B0:=QJ.new w 117 (KV o)
 have hB0:Below w.heap.size w (w.alloc (.cells (KV o) 117)):=(Below.refl _ w).alloc (Nat.le_refl _) _
 have HX0:=QQ B0
 have HB0:=QQ hB0
 unfold KJ
 clear h hi hr hM hf hn hs hS hfit ho' hmk B0 hB0
 go_enter Tryz.func142,Tryz.ntmps142
 go_upto_region 1 with fail
 go_cut [25] (fun s25 wx=>s25= .bool false∧Qr4 w wx b a F M n r f H reg o)
 case first=>
  obtain⟨id,side,kind,price,qty⟩:=o;have d1:decide (id<1)=false:=OY (by have:=HI.out;dsimp only at this;omega);rcases HSd.out with h1|h1
  ·dsimp only at h1
   subst h1;go_wp2_with fail
   go_meet;exact⟨rfl,HB0.out,HM.out.below HB0.out,HX0.out⟩
  ·dsimp only at h1
   subst h1;go_wp2_with fail
   go_meet;exact⟨rfl,HB0.out,HM.out.below HB0.out,HX0.out⟩
 case rest=>
  obtain⟨rfl,h8⟩:=hcut;have H8:=QQ h8;obtain⟨x0,x1,x2,x3,x4⟩:=JV h8.2.2;have xf:=QJ.frozen h8.2.2 3;have t1:=HK.out;clear h8;go_upto_if 30 with fail
  go_cut [31] (fun s31 wx=>Qr4 w wx b a F M n r f H reg o')
  case first=>
   cases mk with
   |true=>
    have t2:=QQ t1;clear t1;go_wp2_with fail
    go_meet;rw[←HO.out];exact Qm2 HM.out H8.out t2.out
   |false=>
    have t2:=QQ t1;clear t1;go_wp2_with fail
    go_meet;rw[←HO.out,Qr5 t2.out];exact H8.out
  case rest=>
   clear x0 x1 x2 x3 x4 xf H8 HX0 HB0;have e4:o'.qty=o.qty:=by rw[←HO.out];rfl
   have e0:o'.id=o.id:=by rw[←HO.out];rfl
   have e1:o'.side=o.side:=by rw[←HO.out];rfl
   have e2:o'.kind=o.kind:=by rw[←HO.out];rfl
   have H8:=QQ hcut;obtain⟨x0,x1,x2,x3,x4⟩:=JV hcut.2.2;rw[e4]at x4;rw[e0]at x0;rw[e1]at x1;rw[e2]at x2;clear t1 hcut;have E4:=QQ e4;have E0:=QQ e0;have E1:=QQ e1;have E2:=QQ e2;clear e4 e0 e1 e2;go_wp2_with fail
   refine(U2 _ _ _).mono ?_;rintro e w1 ⟨rfl,hb⟩;rw[HR.out];clear x0 x1 x2 x3 x4;have h8:=Qh5 H8.out hb;clear H8 HR;have H8:=QQ h8;have hl1:=QJ.lt h8.2.2;have hl2:=QJ.lt h8.2.1.blk;obtain⟨x0,x1,x2,x3,x4⟩:=JV h8.2.2;obtain⟨y0,y1,y2,y3,y4,y5⟩:=h8.2.1.cells;rw[E4.out]at x4;rw[E0.out]at x0;rw[E1.out]at x1;rw[E2.out]at x2;have hlk:=OW (w:=(w1.alloc (.cells #[.int .i64 0,.int .i64 0,.int .i64 0,.int .i64 0,.bool false] 172)).drew) (h8.2.1.mp.alloc _) HF.out;have hlk2:=OW (w:=w1.drew) h8.2.1.mp HF.out;clear h8 hb;go_upto_region 8 with fail
   go_cut [7] (fun s7 wx=>s7= .bool false∧Qr4 w wx b a F M n r f H reg o')
   case first=>
    clear y0 y2 y3 y4 y5 x1 x2 x3 x4
    as_aux_lemma=>
    go_region_law (fail)
    all_goals go_wp2_with fail
    all_goals go_meet
    all_goals exact⟨rfl,Qh5 H8.out (Below.drew ((Below.refl _ w1).alloc (Nat.le_refl _) _))⟩
   case rest=>
    clear x0 x1 x2 x3 x4 y0 y1 y2 y3 y4 y5 hlk hlk2 hl1 hl2 H8;obtain⟨rfl,h8⟩:=hcut;have H8:=QQ h8;have hl1:=QJ.lt h8.2.2;have hl2:=QJ.lt h8.2.1.blk;have hao:KJ o'= .agg #[.int .i64 o.id,.int .i64 o.side,.int .i64 o.kind,.int .i64 o'.price,.int .i64 o.qty]:=by unfold KJ;rw[E0.out,E1.out,E2.out,E4.out]
    have hput: ∀W,Below wc.heap.size wc W→Calls Tryz.prog 181 #[.pointer (some ⟨a,0,none⟩),.agg #[.int .i64 o.id,.int .i64 o.side,.int .i64 o.kind,.int .i64 o'.price,.int .i64 o.qty]] W (Ze6 W a F M n o'):=by
     intro W hW;rw[←hao];refine(Jh8 (h8.2.1.ar.below hW) (by omega) o').mono ?_;rintro e w' (⟨h1,_,_⟩|⟨_,sl,ag,h1,h2,h3⟩)
     ·have:=HN.out;omega
     ·exact⟨sl,ag,h1,h2,h3⟩
    have HPA:=QQ (hput ((wc.alloc (.cells #[.int .i64 0,.int .i64 0] 170)).drew) (Below.drew ((Below.refl _ _).alloc (Nat.le_refl _) _)));have HPB:=QQ (hput wc.drew (Below.drew (Below.refl _ _)));obtain⟨x0,x1,x2,x3,x4⟩:=JV h8.2.2;obtain⟨y0,y1,y2,y3,y4,y5⟩:=h8.2.1.cells;rw[E4.out]at x4;rw[E0.out]at x0;rw[E1.out]at x1;rw[E2.out]at x2;clear h8 hput hao;go_upto_region 11 with fail
    go_cut [8,9] (fun s8 s9 wx=>s9= .nilIface∧Xs6 w wx b a F M n r f H o' s8)
    case first=>
     clear y1 y2 y3 y4 y5
     as_aux_lemma=>
     go_region_with (first|(go_at_call 181;refine HPA.out.mono ?_;rintro e w5 ⟨sl,ag,hno,rfl,hto⟩;have hb5:=Js1 H8.out.2.1.ar hto;have z0:w5.cell? ⟨wc.heap.size,0,none⟩=some (.int .i64 0):=(by rw[QJ.cell hb5];rfl);have z1:w5.cell? ⟨wc.heap.size,1,none⟩=some (.int .i64 0):=(by rw[QJ.cell hb5];rfl);have f0:=QJ.frozen hb5 0;have f1:=QJ.frozen hb5 1;have HB5:=QQ hb5;have HT5:=QQ hto;have HNo:=QQ hno;clear hto hno hb5)|(go_at_call 181;refine HPB.out.mono ?_;rintro e w5 ⟨sl,ag,hno,rfl,hto⟩;have HT5:=QQ hto;have HNo:=QQ hno;clear hto hno))
     all_goals go_wp2_with fail
     all_goals go_meet
     all_goals
      refine⟨rfl, ?_⟩
      first
       |exact Qi5 HM.out H8.out (Below.drew ((Below.refl _ _).alloc (Nat.le_refl _) _)) HNo.out HT5.out (Jb0 _ _ 0 1 _ _) (.inl (by simp)) (Nat.le_refl _) (QJ.set_ (QJ.set_ HB5.out 0 _) 1 _)
       |exact Qi5 HM.out H8.out (Below.drew (Below.refl _ _)) HNo.out HT5.out (QK.of_below ((Below.refl _ _).alloc (Nat.le_refl _) _) _) (.inr (Nat.le_refl _)) (Nat.le_trans (Below.drew (Below.refl wc.heap.size wc)).size HT5.out.choose_spec.2.1.size) (QJ.new _ _ _)
    case rest=>
     obtain⟨rfl,hd,pb,F',reg',rfl,hno,hPb,hX,hM3,hS3,hnp,hnx⟩:=hcut;clear x0 x1 x2 x3 x4 y0 y1 y2 y3 y4 y5 hl1 hl2 H8 HPA HPB;have hI0:I7 wc.drew r f:=hM3.mp.of_block rfl;obtain⟨w4,hup,hI4,hT4⟩:=hI0.update (P:=Tryz.prog) (t:=175) Tryz.underlying175 Tryz.underlying3 o.id (.agg #[.int .i64 hd.1,.int .i64 hd.2,.int .i64 o.side,.int .i64 o'.price,.bool mk]);have hB3:Below wc.heap.size wc wc.drew:=Below.drew (Below.refl _ _);obtain⟨hM4,hS4⟩:=(hM3.below hB3).map_ hT4 hI4;have hS34:=(hS3.trans (KQ.of_below hB3)).trans hS4;have hPb4:QJ w4 pb 170 #[.int .i64 hd.1,.int .i64 hd.2]:=QJ.of_block (QJ.drew hPb) (hT4.block pb (fun e=>hnp (.inr (.inl e))));have hX4:QJ w4 w.heap.size 117 (KV o'):=QJ.of_block (QJ.drew hX) (hT4.block _ (fun e=>hnx (.inr (.inl e))));obtain⟨x0,x1,x2,x3,x4⟩:=JV hX;rw[E0.out]at x0;rw[E1.out]at x1;have p0:wc.cell? ⟨pb,0,none⟩=some (.int .i64 hd.1):=by rw[QJ.cell hPb];rfl
     have p1:wc.cell? ⟨pb,1,none⟩=some (.int .i64 hd.2):=by rw[QJ.cell hPb];rfl
     have y1:=hM3.cells.2.1;have HM4:=QQ hM4;have HS34:=QQ hS34;have HPb:=QQ hPb4;have HX4:=QQ hX4;have HNo:=QQ hno;have HNp:=QQ hnp;have HNx:=QQ hnx;clear hI0 hI4 hT4 hM4 hS4 hS34 hPb4 hX4 hPb hX hM3 hS3 hno hnp hnx hB3 x2 x4;go_upto_region 14 with fail
     go_cut [75] (fun s75 wx=>wx=w4)
     case first=>
      go_still_tail 13,(by kernel_rfl)
      change wpList _ _ _ _ _ wc.drew;go_wp2_with fail
      go_meet
      rfl
     case rest=>
      subst hcut;clear x0 x1 x3 p0 p1 y1 hup;have hpv:Value.agg #[.int .i64 hd.1,.int .i64 hd.2,.int .i64 o.side,.int .i64 o'.price,.bool mk]=X3 (hd,o'):=by
       unfold X3;dsimp only;rw[E1.out,E2.out,HK.out]
      have HMp:=QQ (show XK wc b a F' (Z1 M hd.1 hd.2 (some o')) (n+1) r (V1 f o'.id (some (X3 (hd,o')))) H reg' by rw[←hpv,E0.out];exact HM4.out);clear hpv HM4;have hs:=HSide.out;have hs':o'.side=1:=E1.out.trans hs;have HSd1:=QQ hs';obtain⟨y0,y1,y2,y3,y4,y5⟩:=HMp.out.cells;have x1:wc.cell? ⟨w.heap.size,1,none⟩=some (.int .i64 1):=by rw[QJ.cell HX4.out];show some (Value.int .i64 o'.side)=_;rw[hs']
      have HSd2:=QQ hs;clear y0 y1 y2 y3 y4 y5 hs hs';have hmk2:=HMkv.out;subst hmk2;have HKm:Hid (o'.kind≠2):=QQ (by rw[E2.out];simpa using HK.out);have x3:wc.cell? ⟨w.heap.size,3,none⟩=some (.int .i64 o'.price):=by rw[QJ.cell HX4.out];rfl
      go_wp2_with fail
      go_quiet (fail)
      have hq:Below wc.heap.size wc (wc.drewN nq):=QY (Below.refl _ _) nq;have HM5:=QQ (HMp.out.below hq);have HPb5:=QQ (QJ.drewN HPb.out nq);have HX5:=QQ (QJ.drewN HX4.out nq);have HS5:=QQ (HS34.out.trans (KQ.of_below hq));clear hq;generalize wc.drewN nq=w5 at HM5 HPb5 HX5 HS5⊢;clear x1 x3;have x1:w5.cell? ⟨w.heap.size,1,none⟩=some (.int .i64 1):=by rw[QJ.cell HX5.out];show some (Value.int .i64 o'.side)=_;rw[HSd1.out]
      have x3:w5.cell? ⟨w.heap.size,3,none⟩=some (.int .i64 o'.price):=by rw[QJ.cell HX5.out];rfl
      have hfind:=Jh3 w5 b 2 1 o'.price _ _ _ _ (HM5.out.cells).2.2.2.1 (by
       have:=ZV.of_row KX (by omega) (HM5.out.hx 1 ZQ).rq;exact this) (HSm.out.is 1 ZQ).rank (Xk0 ZQ HSm.out HN.out)
      have HFi:=QQ hfind;clear hfind;go_wp2_with fail
      refine HFi.out.mono ?_;rintro e w7 ⟨hb7,k,hk7,rfl⟩;have HM7:=QQ (HM5.out.below hb7);have HPb7:=QQ (QJ.keep HPb5.out hb7);have HX7:=QQ (QJ.keep HX5.out hb7);have HS7:=QQ (HS5.out.trans (KQ.of_below hb7));have HK7:=QQ hk7;clear x1 x3 hb7 hk7 HM5 HPb5 HX5 HS5 HFi;obtain⟨fb,HFb⟩: ∃fb,Hid (Qm1 1 o'.price ((H 1).qs.map QG.que) (H 1).qs.length k=fb):=⟨_,QQ rfl⟩;rw[HFb.out];go_upto_if 104 with fail
      go_cut [105] (fun s105 wx=>Kh0 w wx b a r F F' (Z1 M hd.1 hd.2 (some o')) n (V1 f o'.id (some (X3 (hd,o')))) H 1 o'.price k pb∧QJ wx pb 170 #[.int .i64 hd.1,.int .i64 hd.2])
      case first=>
       cases fb with
       |true=>
        go_wp2_with fail
        go_meet;exact⟨Jp2 HNp.out HSm.out ZQ HM7.out HS7.out HFb.out,HPb7.out⟩
       |false=>
        have hvb:Below w7.heap.size w7 ((w7.alloc (.cells #[.int .i64 o'.price,.slice none 0 0] 236)).drew):=Below.drew ((Below.refl _ _).alloc (Nat.le_refl _) _);have hM7:=HM7.out.below hvb;have hins:=Jo3 ((w7.alloc (.cells #[.int .i64 o'.price,.slice none 0 0] 236)).drew) (H 1).qA (H 1).qs.length (H 1).qc k ((H 1).qs.map QG.que) w7.heap.size (o'.price,none,0,0) (hM7.hx 1 ZQ).rq (QJ.drew (QJ.new w7 _ _)) (fun e=>by have:=(HM7.out.hx 1 ZQ).rq.lt e;omega) (Xk0 ZQ HSm.out HN.out) HK7.out.1;have HIns:=QQ hins;obtain⟨z0,z1,z2,z3,z4,z5⟩:=HM7.out.cells;have x3:w7.cell? ⟨w.heap.size,3,none⟩=some (.int .i64 o'.price):=by rw[QJ.cell HX7.out];rfl
        have hbl:=QJ.lt HM7.out.blk;have hxl:=QJ.lt HX7.out;have HM8:=QQ hM7;have HV8:=QQ hvb;clear hins hM7 hvb z0 z1 z2 z4 z5;go_wp2_with fail
        as_aux_lemma=>
        go_region_with (go_at_call 182;refine HIns.out.mono ?_;rintro e w8 ⟨A8,c8,rfl,hI8⟩;have b8:=QJ.keeps HM8.out.blk hI8.2.1 (fun e=>by have h1:=(HM8.out.hx 1 ZQ).gq b e;have h2:=HM8.out.gb;omega);have r0:w8.cell? ⟨b,3,none⟩=some (.slice (H 1).qA (H 1).qs.length (H 1).qc):=(by rw[QJ.cell b8];rfl);have rf0:=QJ.frozen b8 3;have HI8:=QQ hI8;clear hI8 b8)
        all_goals go_wp2_with fail
        all_goals go_meet
        all_goals
         refine⟨Xd9 HNp.out (QJ.lt (QJ.keep HPb7.out HV8.out)) HSm.out ZQ HM8.out (HS7.out.trans (KQ.of_below HV8.out)) HK7.out HFb.out HI8.out rfl, ?_⟩;refine QJ.far (QJ.keeps (QJ.keep HPb7.out HV8.out) HI8.out.2.1 (fun e=> ?_)) (fun e=> ?_) _
         ·exact HNp.out (XK.fpH 1 ZQ (.inr (.inl e)))
         ·exact HNp.out (.inl e)
      case rest=>
       obtain⟨⟨H1,reg1,qA,qc,qs,hM9,hS9,hH1,hi9,ha9,hnp9,hkl,hp9,hne9⟩,hPb9⟩:=hcut;have e1:H1 1=⟨(H 1).mA,(H 1).mc,qA,qc,(H 1).ms,qs⟩:=by rw[hH1];exact VV _ _ _
       have hx9:=hM9.hx 1 ZQ;rw[e1]at hx9;obtain⟨qg,hqg,hqc⟩:=hx9.rq.elem KX (by omega) (i:=k) (by simpa using hkl);dsimp only at hqg;subst hqg;obtain⟨y0,y1,y2,y3,y4,y5⟩:=hM9.cells;rw[e1]at y3;dsimp only at y3;obtain⟨q,hqk⟩: ∃q,qs[k]'hkl=q:=⟨_,rfl⟩;obtain⟨m,hm⟩: ∃m,q.os.length=m:=⟨_,rfl⟩;have q0:wc.cell? ⟨qg,k*2,none⟩=some (.int .i64 q.price):=by have:=hqc 0 _ rfl;rw[←hqk];simpa [QG.que]using this
       have q1:wc.cell? ⟨qg,k*2+1,none⟩=some (.slice q.A m q.c):=by have:=hqc 1 _ rfl;rw[←hm,←hqk];simpa [QG.que]using this
       have hmem:q∈qs:=by rw[←hqk];exact List.getElem_mem _
       have HRow:=QQ (show QW wc q.A m q.c 170 2 (JQ V9 (J7 q.os)) by rw[←hm];exact hx9.rl _ hmem);have HQR:=QQ hx9.rq;have hqb:(QZ (some (⟨qg,0,none⟩:Addr)))=some qg:=rfl;have hgq:=hx9.gq qg hqb;have hql:=hx9.rq.lt hqb;have hqm:QZ q.A≠some qg:=fun e=>by have:=hx9.gl _ hmem qg e;omega
       have HQm:=QQ hqm;have HQp:=QQ (show QZ q.A≠some pb from fun e=>hnp9 (XK.fpH 1 ZQ (.inr (.inr ⟨q,by rw[e1];exact hmem,e⟩))));have HQp2:=QQ (show qg≠pb from fun e=>hnp9 (XK.fpH 1 ZQ (.inr (.inl (by rw[e1,←e];rfl)))));have HQb2:=QQ (show qg≠b from fun e=>by have h2:=hM9.gb;rw[←e]at h2;omega);have HQb:=QQ (show QZ q.A≠some b from fun e=>by have h1:=hx9.gl _ hmem b e;have h2:=hM9.gb;omega);obtain⟨l,hll⟩: ∃l,qs.length=l:=⟨_,rfl⟩;have hm100:m≤1000:=by
        have h1:=HSm.out.cnt;have h2:=HN.out;have h3:m≤(V2 (H 1).ms qs).length:=by
         unfold V2;rw[Y1 qs hkl,hqk];simp only[List.length_append];omega
        rw[ha9]at h3;unfold X0 at h1;simp only[List.length_append]at h1;omega
       rw[hll]at y3;have HM9:=QQ hM9;have HS9:=QQ hS9;have HH1:=QQ hH1;have HI9:=QQ hi9;have HA9:=QQ ha9;have HP9:=QQ hp9;have HNe9:=QQ hne9;have HPb9:=QQ hPb9;have Hm:=QQ hm;have Hkl:=QQ hkl;have hkz:(k:Int)< (l:Int):=by omega
       have hk0:(0:Int)≤(k:Int):=by omega
       obtain⟨p0,p1⟩:wc.cell? ⟨pb,0,none⟩=some (.int .i64 hd.1)∧wc.cell? ⟨pb,1,none⟩=some (.int .i64 hd.2):=⟨by rw[QJ.cell hPb9];rfl,by rw[QJ.cell hPb9];rfl⟩;have hbl:=QJ.lt hM9.blk;have hpl:=QJ.lt hPb9;obtain⟨i0,hi0,hz0,hz1,hz2⟩:=info_parts Qo5;clear hnp9 hM9 hS9 hH1 hi9 ha9 hp9 hne9 hPb9 hm hqm hgq hqb hmem e1 hx9 hqc hll y0 y1 y2 y4 y5;have Hqk:=QQ hqk;clear hqk;go_upto_region 22 with fail
       go_cut [133] (fun s133 wx=>Zh1 wc wx qg k m q.A q.c (JQ V9 (J7 q.os)++V9 hd))
       case first=>
        as_aux_lemma=>
        refine U4 18 (fun W=>W.cell? ⟨qg,k*2+1,none⟩=some (.slice q.A m q.c)∧W.cell? ⟨b,3,none⟩=some (.slice (some ⟨qg,0,none⟩) l qc)∧W.cell? ⟨pb,0,none⟩=some (.int .i64 hd.1)∧W.cell? ⟨pb,1,none⟩=some (.int .i64 hd.2)) (by kernel_rfl) ⟨q1,y3,p0,p1⟩ (fun hS=> ?_);refine tT 0 (.pointer (some ⟨b,2,none⟩)) ?_;refine tT 1 (.pointer (some ⟨b,2,none⟩)) ?_;refine tT 2 (.pointer (some ⟨b,3,none⟩)) ?_;refine tT 3 (.slice (some ⟨qg,0,none⟩) l qc) ?_;refine tT 4 (.int .i64 k) ?_;refine tT 5 (.pointer (some ⟨b,2,none⟩)) ?_;refine tT 6 (.pointer (some ⟨b,2,none⟩)) ?_;refine tT 7 (.pointer (some ⟨b,3,none⟩)) ?_;refine tT 8 (.slice (some ⟨qg,0,none⟩) l qc) ?_;refine tT 9 (.int .i64 k) ?_;refine tT 10 (.pointer (some ⟨qg,k*2,none⟩)) ?_;refine tT 11 (.pointer (some ⟨qg,k*2+1,none⟩)) ?_;refine tT 12 (.slice q.A m q.c) ?_;refine tT 13 (.agg #[.int .i64 hd.1,.int .i64 hd.2]) ?_;refine Y0 14 (by kernel_rfl) rfl (fun K1 hK1=> ?_);go_simp;have hal:Below wc.heap.size wc (wc.alloc (.cells #[.int .i64 hd.1,.int .i64 hd.2] 170)).drew:=Below.drew ((Below.refl _ wc).alloc (Nat.le_refl _) _);refine hK1 _ _ ⟨(hal.cell (p:=⟨qg,k*2+1,none⟩) hql).trans q1,(hal.cell (p:=⟨b,3,none⟩) hbl).trans y3,(hal.cell (p:=⟨pb,0,none⟩) hpl).trans p0,(hal.cell (p:=⟨pb,1,none⟩) hpl).trans p1⟩ (fun hS=> ?_);clear hK1 hal;refine Y0 15 (by kernel_rfl) rfl (fun K1 hK1=> ?_);refine step_append_lies _ (by rfl) _ _ _ (by rfl) 0 170 i0 _ 2 16 Tryz.underlying176 hi0 hz0 hz1 hz2 rfl (by omega) (.slice q.A m q.c) m _ (by rfl) ((World.ownsRow.alloc HRow.out _).drew) ⟨wc.heap.size,0,none⟩ 1 1 (V9 hd) (by rfl) (by rfl) (World.news_of_block (cs:= #[.int .i64 hd.1,.int .i64 hd.2]) (t:=170) (fr:=(0,0)) (heap_alloc_new wc _)) (Jh5 _) (by omega) (by unfold maxLen;omega) (by omega) (by simp) (wc.heap.size+1) (by simp) ?_;intro gg cap w6 hown hgrow hat hlt;have hk6:=OV hgrow;have R6:=QW.keeps HQR.out hk6 (fun g hg e=>by rw[JW]at e;cases hg;exact HQm.out e);have r1:w6.cell? ⟨qg,k*2+1,none⟩=some (.slice q.A m q.c):=(hk6.cell (p:=⟨qg,k*2+1,none⟩) hql (fun e=>by rw[JW]at e;exact HQm.out e)).trans q1;have r2:w6.cell? ⟨b,3,none⟩=some (.slice (some ⟨qg,0,none⟩) l qc):=(hk6.cell (p:=⟨b,3,none⟩) hbl (fun e=>by rw[JW]at e;exact HQb.out e)).trans y3;have r3:w6.cell? ⟨pb,0,none⟩=some (.int .i64 hd.1):=(hk6.cell (p:=⟨pb,0,none⟩) hpl (fun e=>by rw[JW]at e;exact HQp.out e)).trans p0;have r4:w6.cell? ⟨pb,1,none⟩=some (.int .i64 hd.2):=(hk6.cell (p:=⟨pb,1,none⟩) hpl (fun e=>by rw[JW]at e;exact HQp.out e)).trans p1;have rf1:=QW.frozen R6 (k*2+1);have HK6:=QQ hk6;have HO6:=QQ hown;have HA6:=QQ hat;clear R6 hgrow hk6 hown hat;refine hK1 _ _ ⟨r1,r2,r3,r4⟩ (fun hS=> ?_);clear hK1;simp only[Act.put,List.setIfInBounds_toArray,List.set_cons_zero,List.set_cons_succ];refine Y0 16 (by kernel_rfl) rfl (fun K1 hK1=> ?_);go_simp;refine hK1 _ _ ⟨r1,r2,r3,r4⟩ (fun hS=> ?_);clear hK1;refine Y0 17 (by kernel_rfl) rfl (fun K1 hK1=> ?_);go_simp;refine hK1 _ _ ⟨r1,r2,r3,r4⟩ (fun hS=> ?_);clear hK1;refine Qn9 (by kernel_rfl) rfl (fun K1 hK1=> ?_);go_simp;refine hK1 _ _ (Qn8 (by kernel_rfl) ?_ _);clear hK1;go_wp2_with fail
        go_meet;exact⟨gg,cap,w6,rfl,HK6.out,HO6.out,HA6.out⟩
       case rest=>
        obtain⟨gg,cap,w6,rfl,hk6,ho6,ha6⟩:=hcut;have HK6:=QQ hk6;have HO6:=QQ ho6;have HA6:=QQ ha6;clear hk6 ho6 ha6;go_wp2_with fail
        go_ret;refine⟨rfl, ?_⟩;rw[HO.out];have hkl:=Hkl.out;have e:qs[k]=q:=Hqk.out;refine Jc6 (k:=k) (qg:=qg) (qs:=qs) (qA:=some ⟨qg,0,none⟩) (qc:=qc) HSm.out ZQ HSd1.out HKm.out HOk.out HNo.out (by rw[E0.out];exact HF.out) HM9.out HS9.out HH1.out HI9.out HA9.out hkl (HP9.out) HNe9.out rfl (by rw[e];exact Hm.out) ?_ ?_ ?_
        ·rw[e];exact HK6.out
        ·rw[e];exact HO6.out
        ·rw[e];exact HA6.out
end Go.Proofs.YtbmiieehkkfbgaaGreatDoor
