/- Contracts and walks that the law's proof needs. -/
import Derived.Test.YtnlngicnfegjgaaGreatDoorZd9
import Derived.Test.YtnlngicnfegjgaaGreatDoorZd14
import Derived.Test.YtnlngicnfegjgaaGreatDoorZd18
import Derived.Test.YtnlngicnfegjgaaGreatDoorZd11
import Derived.Test.YtnlngicnfegjgaaGreatDoorZd17
import Derived.Test.YtnlngicnfegjgaaGreatDoorZd3
set_option linter.unusedVariables false
set_option maxRecDepth 100000
set_option maxHeartbeats 8000000
namespace Go.Proofs.YtnlngicnfegjgaaGreatDoor
open Go.RowKit
theorem Xx7 (w:World) (b:Nat) (o:QX) (a:Nat) (F:Nat→Prop) (M:Int→Int→Option QX) (n r:Nat) (f:Int→Option Value) (H:Int→HS) (reg:Nat→Int) (hM:XX w b a F M n r f H reg)
  (hS:KY M n f H) (hfit:Qd5 o)
  (h:Jb1 o=true) (hr:Qq6 o=true) (hf:f o.id=none) (hn:n<100) (hsd:o.side=2) (hkd:(o.kind ==2)=false):
  Calls Tryz.prog 93 #[.pointer (some ⟨b,0,none⟩),KQ o] w fun e w'=>e= .returned (YV 0)∧Qn9 w w' b a r F n H (JJ o):=by
 obtain⟨hs,hi⟩:=Qd8.1 h
 obtain⟨mk,hmk,hmkv⟩: ∃mk,(o.kind ==2)=mk∧mk=false:=⟨_,rfl,hkd⟩
 have HMkv:=QQ hmkv
 clear hmkv hkd
 obtain⟨o',ho'⟩: ∃o',JJ o=o':=⟨_,rfl⟩
 have HSide:=QQ hsd
 have HM:=QQ hM
 clear hsd
 have HR:=QQ (show J6 o'.price o.qty=true by rw[←ho'];exact hr)
 have HF:=QQ hf
 have HK:=QQ hmk
 have HN:=QQ hn
 have HSd:=QQ hs
 have HO:=QQ ho'
 have HI:=QQ hi
 have HSm:=QQ hS
 have HOk:=QQ (show OkO o' by
  have hp:=V5.1 (show J6 o'.price o.qty=true by rw[←ho'];exact hr);rw[←ho']at hp⊢;obtain⟨f1,f2,f3,f4,f5⟩:=hfit;exact⟨⟨f1,f2,f3,by unfold V3;omega,f5⟩,hi,⟨hp.1,hp.2.1⟩,⟨hp.2.2.1,hp.2.2.2⟩⟩)
 have B0:=QJ.new w 29 (KZ o)
 have hB0:Below w.heap.size w (w.alloc (.cells (KZ o) 29)):=(Below.refl _ w).alloc (Nat.le_refl _) _
 have HX0:=QQ B0
 have HB0:=QQ hB0
 unfold KQ
 clear h hi hr hM hf hn hs hS hfit ho' hmk B0 hB0
 go_enter Tryz.func93,Tryz.ntmps93
 go_upto_region 1 with fail
 go_cut [25] (fun s25 wx=>s25= .bool false∧Qq7 w wx b a F M n r f H reg o)
 case first=>
  obtain⟨id,side,kind,price,qty⟩:=o;have d1:decide (id<1)=false:=IQ (by have:=HI.out;dsimp only at this;omega);rcases HSd.out with h1|h1
  ·dsimp only at h1
   subst h1;go_wp2_with fail
   go_meet;exact⟨rfl,HB0.out,HM.out.below HB0.out,HX0.out⟩
  ·dsimp only at h1
   subst h1;go_wp2_with fail
   go_meet;exact⟨rfl,HB0.out,HM.out.below HB0.out,HX0.out⟩
 case rest=>
  obtain⟨rfl,h8⟩:=hcut;have H8:=QQ h8;obtain⟨x0,x1,x2,x3,x4⟩:=JW h8.2.2;have xf:=QJ.frozen h8.2.2 3;have t1:=HK.out;clear h8;go_upto_if 30 with fail
  go_cut [31] (fun s31 wx=>Qq7 w wx b a F M n r f H reg o')
  case first=>
   cases mk with
   |true=>
    have t2:=QQ t1;clear t1;go_wp2_with fail
    go_meet;rw[←HO.out];exact Qm2 HM.out H8.out t2.out
   |false=>
    have t2:=QQ t1;clear t1;go_wp2_with fail
    go_meet;rw[←HO.out,Qq8 t2.out];exact H8.out
  case rest=>
   clear x0 x1 x2 x3 x4 xf H8 HX0 HB0;have e4:o'.qty=o.qty:=by rw[←HO.out];rfl
   have e0:o'.id=o.id:=by rw[←HO.out];rfl
   have e1:o'.side=o.side:=by rw[←HO.out];rfl
   have e2:o'.kind=o.kind:=by rw[←HO.out];rfl
   have H8:=QQ hcut;obtain⟨x0,x1,x2,x3,x4⟩:=JW hcut.2.2;rw[e4]at x4;rw[e0]at x0;rw[e1]at x1;rw[e2]at x2;clear t1 hcut;have E4:=QQ e4;have E0:=QQ e0;have E1:=QQ e1;have E2:=QQ e2;clear e4 e0 e1 e2;go_wp2_with fail
   refine(U5 _ _ _).mono ?_;rintro e w1 ⟨rfl,hb⟩;rw[HR.out];clear x0 x1 x2 x3 x4;have h8:=Qi2 H8.out hb;clear H8 HR;have H8:=QQ h8;have hl1:=QJ.lt h8.2.2;have hl2:=QJ.lt h8.2.1.blk;obtain⟨x0,x1,x2,x3,x4⟩:=JW h8.2.2;obtain⟨y0,y1,y2,y3,y4,y5⟩:=h8.2.1.cells;rw[E4.out]at x4;rw[E0.out]at x0;rw[E1.out]at x1;rw[E2.out]at x2;have hlk:=IX (w:=(w1.alloc (.cells #[.int .i64 0,.int .i64 0,.int .i64 0,.int .i64 0,.bool false] 188)).drew) (h8.2.1.mp.alloc _) HF.out;have hlk2:=IX (w:=w1.drew) h8.2.1.mp HF.out;clear h8 hb;go_upto_region 8 with fail
   go_cut [7] (fun s7 wx=>s7= .bool false∧Qq7 w wx b a F M n r f H reg o')
   case first=>
    clear y0 y2 y3 y4 y5 x1 x2 x3 x4
    as_aux_lemma=>
    go_region_law (fail)
    all_goals go_wp2_with fail
    all_goals go_meet
    all_goals exact⟨rfl,Qi2 H8.out (Below.drew ((Below.refl _ w1).alloc (Nat.le_refl _) _))⟩
   case rest=>
    clear x0 x1 x2 x3 x4 y0 y1 y2 y3 y4 y5 hlk hlk2 hl1 hl2 H8;obtain⟨rfl,h8⟩:=hcut;have H8:=QQ h8;have hl1:=QJ.lt h8.2.2;have hl2:=QJ.lt h8.2.1.blk;have hao:KQ o'= .agg #[.int .i64 o.id,.int .i64 o.side,.int .i64 o.kind,.int .i64 o'.price,.int .i64 o.qty]:=by unfold KQ;rw[E0.out,E1.out,E2.out,E4.out]
    have hput: ∀W,Below wc.heap.size wc W→Calls Tryz.prog 130 #[.pointer (some ⟨a,0,none⟩),.agg #[.int .i64 o.id,.int .i64 o.side,.int .i64 o.kind,.int .i64 o'.price,.int .i64 o.qty]] W (Kv0 W a F M n o'):=by
     intro W hW;rw[←hao];refine(Jf3 (h8.2.1.ar.below hW) (by omega) o').mono ?_;rintro e w' (⟨h1,_,_⟩|⟨_,sl,ag,h1,h2,h3⟩)
     ·have:=HN.out;omega
     ·exact⟨sl,ag,h1,h2,h3⟩
    have HPA:=QQ (hput ((wc.alloc (.cells #[.int .i64 0,.int .i64 0] 186)).drew) (Below.drew ((Below.refl _ _).alloc (Nat.le_refl _) _)));have HPB:=QQ (hput wc.drew (Below.drew (Below.refl _ _)));obtain⟨x0,x1,x2,x3,x4⟩:=JW h8.2.2;obtain⟨y0,y1,y2,y3,y4,y5⟩:=h8.2.1.cells;rw[E4.out]at x4;rw[E0.out]at x0;rw[E1.out]at x1;rw[E2.out]at x2;clear h8 hput hao;go_upto_region 11 with fail
    go_cut [8,9] (fun s8 s9 wx=>s9= .nilIface∧Xn0 w wx b a F M n r f H o' s8)
    case first=>
     clear y1 y2 y3 y4 y5
     as_aux_lemma=>
     go_region_with (first|(go_at_call 130;refine HPA.out.mono ?_;rintro e w5 ⟨sl,ag,hno,rfl,hto⟩;have hb5:=Jp3 H8.out.2.1.ar hto;have z0:w5.cell? ⟨wc.heap.size,0,none⟩=some (.int .i64 0):=(by rw[QJ.cell hb5];rfl);have z1:w5.cell? ⟨wc.heap.size,1,none⟩=some (.int .i64 0):=(by rw[QJ.cell hb5];rfl);have f0:=QJ.frozen hb5 0;have f1:=QJ.frozen hb5 1;have HB5:=QQ hb5;have HT5:=QQ hto;have HNo:=QQ hno;clear hto hno hb5)|(go_at_call 130;refine HPB.out.mono ?_;rintro e w5 ⟨sl,ag,hno,rfl,hto⟩;have HT5:=QQ hto;have HNo:=QQ hno;clear hto hno))
     all_goals go_wp2_with fail
     all_goals go_meet
     all_goals
      refine⟨rfl, ?_⟩
      first
       |exact Qi8 HM.out H8.out (Below.drew ((Below.refl _ _).alloc (Nat.le_refl _) _)) HNo.out HT5.out (Ja2 _ _ 0 1 _ _) (.inl (by simp)) (Nat.le_refl _) (QJ.set_ (QJ.set_ HB5.out 0 _) 1 _)
       |exact Qi8 HM.out H8.out (Below.drew (Below.refl _ _)) HNo.out HT5.out (QK.of_below ((Below.refl _ _).alloc (Nat.le_refl _) _) _) (.inr (Nat.le_refl _)) (Nat.le_trans (Below.drew (Below.refl wc.heap.size wc)).size HT5.out.choose_spec.2.1.size) (QJ.new _ _ _)
    case rest=>
     obtain⟨rfl,hd,pb,F',reg',rfl,hno,hPb,hX,hM3,hS3,hnp,hnx⟩:=hcut;clear x0 x1 x2 x3 x4 y0 y1 y2 y3 y4 y5 hl1 hl2 H8 HPA HPB;have hI0:I6 wc.drew r f:=hM3.mp.of_block rfl;obtain⟨w4,hup,hI4,hT4⟩:=hI0.update (P:=Tryz.prog) (t:=150) Tryz.underlying150 Tryz.underlying3 o.id (.agg #[.int .i64 hd.1,.int .i64 hd.2,.int .i64 o.side,.int .i64 o'.price,.bool mk]);have hB3:Below wc.heap.size wc wc.drew:=Below.drew (Below.refl _ _);obtain⟨hM4,hS4⟩:=(hM3.below hB3).map_ hT4 hI4;have hS34:=(hS3.trans (XW.of_below hB3)).trans hS4;have hPb4:QJ w4 pb 186 #[.int .i64 hd.1,.int .i64 hd.2]:=QJ.of_block (QJ.drew hPb) (hT4.block pb (fun e=>hnp (.inr (.inl e))));have hX4:QJ w4 w.heap.size 29 (KZ o'):=QJ.of_block (QJ.drew hX) (hT4.block _ (fun e=>hnx (.inr (.inl e))));obtain⟨x0,x1,x2,x3,x4⟩:=JW hX;rw[E0.out]at x0;rw[E1.out]at x1;have p0:wc.cell? ⟨pb,0,none⟩=some (.int .i64 hd.1):=by rw[QJ.cell hPb];rfl
     have p1:wc.cell? ⟨pb,1,none⟩=some (.int .i64 hd.2):=by rw[QJ.cell hPb];rfl
     have y1:=hM3.cells.2.1;have HM4:=QQ hM4;have HS34:=QQ hS34;have HPb:=QQ hPb4;have HX4:=QQ hX4;have HNo:=QQ hno;have HNp:=QQ hnp;have HNx:=QQ hnx;clear hI0 hI4 hT4 hM4 hS4 hS34 hPb4 hX4 hPb hX hM3 hS3 hno hnp hnx hB3 x2 x4;go_upto_region 14 with fail
     go_cut [75] (fun s75 wx=>wx=w4)
     case first=>
      go_still_tail 13,(by kernel_rfl)
      change wpList _ _ _ _ _ wc.drew;go_wp2_with fail
      go_meet
      rfl
     case rest=>
      subst hcut;clear x0 x1 x3 p0 p1 y1 hup;have hpv:Value.agg #[.int .i64 hd.1,.int .i64 hd.2,.int .i64 o.side,.int .i64 o'.price,.bool mk]=X7 (hd,o'):=by
       unfold X7;dsimp only;rw[E1.out,E2.out,HK.out]
      have HMp:=QQ (show XX wc b a F' (Z8 M hd.1 hd.2 (some o')) (n+1) r (Z7 f o'.id (some (X7 (hd,o')))) H reg' by rw[←hpv,E0.out];exact HM4.out);clear hpv HM4;have hs:=HSide.out;have hs':o'.side=2:=E1.out.trans hs;have HSd1:=QQ hs';obtain⟨y0,y1,y2,y3,y4,y5⟩:=HMp.out.cells;have x1:wc.cell? ⟨w.heap.size,1,none⟩=some (.int .i64 2):=by rw[QJ.cell HX4.out];show some (Value.int .i64 o'.side)=_;rw[hs']
      have HSd2:=QQ hs;clear y0 y1 y2 y3 y4 y5 hs hs';have hmk2:=HMkv.out;subst hmk2;have HKm:Hid (o'.kind≠2):=QQ (by rw[E2.out];simpa using HK.out);have x3:wc.cell? ⟨w.heap.size,3,none⟩=some (.int .i64 o'.price):=by rw[QJ.cell HX4.out];rfl
      go_wp2_with fail
      go_quiet (fail)
      have hq:Below wc.heap.size wc (wc.drewN nq):=JQ (Below.refl _ _) nq;have HM5:=QQ (HMp.out.below hq);have HPb5:=QQ (QJ.drewN HPb.out nq);have HX5:=QQ (QJ.drewN HX4.out nq);have HS5:=QQ (HS34.out.trans (XW.of_below hq));clear hq;generalize wc.drewN nq=w5 at HM5 HPb5 HX5 HS5⊢;clear x1 x3;have x1:w5.cell? ⟨w.heap.size,1,none⟩=some (.int .i64 2):=by rw[QJ.cell HX5.out];show some (Value.int .i64 o'.side)=_;rw[HSd1.out]
      have x3:w5.cell? ⟨w.heap.size,3,none⟩=some (.int .i64 o'.price):=by rw[QJ.cell HX5.out];rfl
      have hfind:=Jf5 w5 b 4 2 o'.price _ _ _ _ (HM5.out.cells).2.2.2.2.2 (by
       have:=XZ.of_row KJ (by omega) (HM5.out.hx 2 KK).rq;exact this) (HSm.out.is 2 KK).rank (Xg0 KK HSm.out HN.out)
      have HFi:=QQ hfind;clear hfind;go_wp2_with fail
      refine HFi.out.mono ?_;rintro e w7 ⟨hb7,k,hk7,rfl⟩;have HM7:=QQ (HM5.out.below hb7);have HPb7:=QQ (QJ.keep HPb5.out hb7);have HX7:=QQ (QJ.keep HX5.out hb7);have HS7:=QQ (HS5.out.trans (XW.of_below hb7));have HK7:=QQ hk7;clear x1 x3 hb7 hk7 HM5 HPb5 HX5 HS5 HFi;obtain⟨fb,HFb⟩: ∃fb,Hid (Qm1 2 o'.price ((H 2).qs.map QG.que) (H 2).qs.length k=fb):=⟨_,QQ rfl⟩;rw[HFb.out];go_upto_if 104 with fail
      go_cut [105] (fun s105 wx=>Kb9 w wx b a r F F' (Z8 M hd.1 hd.2 (some o')) n (Z7 f o'.id (some (X7 (hd,o')))) H 2 o'.price k pb∧QJ wx pb 186 #[.int .i64 hd.1,.int .i64 hd.2])
      case first=>
       cases fb with
       |true=>
        go_wp2_with fail
        go_meet;exact⟨Jm4 HNp.out HSm.out KK HM7.out HS7.out HFb.out,HPb7.out⟩
       |false=>
        have hvb:Below w7.heap.size w7 ((w7.alloc (.cells #[.int .i64 o'.price,.slice none 0 0] 214)).drew):=Below.drew ((Below.refl _ _).alloc (Nat.le_refl _) _);have hM7:=HM7.out.below hvb;have hins:=Jm1 ((w7.alloc (.cells #[.int .i64 o'.price,.slice none 0 0] 214)).drew) (H 2).qA (H 2).qs.length (H 2).qc k ((H 2).qs.map QG.que) w7.heap.size (o'.price,none,0,0) (hM7.hx 2 KK).rq (QJ.drew (QJ.new w7 _ _)) (fun e=>by have:=(HM7.out.hx 2 KK).rq.lt e;omega) (Xg0 KK HSm.out HN.out) HK7.out.1;have HIns:=QQ hins;obtain⟨z0,z1,z2,z3,z4,z5⟩:=HM7.out.cells;have x3:w7.cell? ⟨w.heap.size,3,none⟩=some (.int .i64 o'.price):=by rw[QJ.cell HX7.out];rfl
        have hbl:=QJ.lt HM7.out.blk;have hxl:=QJ.lt HX7.out;have HM8:=QQ hM7;have HV8:=QQ hvb;clear hins hM7 hvb z0 z1 z2 z3 z4;go_wp2_with fail
        as_aux_lemma=>
        go_region_with (go_at_call 131;refine HIns.out.mono ?_;rintro e w8 ⟨A8,c8,rfl,hI8⟩;have b8:=QJ.keeps HM8.out.blk hI8.2.1 (fun e=>by have h1:=(HM8.out.hx 2 KK).gq b e;have h2:=HM8.out.gb;omega);have r0:w8.cell? ⟨b,5,none⟩=some (.slice (H 2).qA (H 2).qs.length (H 2).qc):=(by rw[QJ.cell b8];rfl);have rf0:=QJ.frozen b8 5;have HI8:=QQ hI8;clear hI8 b8)
        all_goals go_wp2_with fail
        all_goals go_meet
        all_goals
         refine⟨Jz9 HNp.out (QJ.lt (QJ.keep HPb7.out HV8.out)) HSm.out KK HM8.out (HS7.out.trans (XW.of_below HV8.out)) HK7.out HFb.out HI8.out rfl, ?_⟩;refine QJ.far (QJ.keeps (QJ.keep HPb7.out HV8.out) HI8.out.2.1 (fun e=> ?_)) (fun e=> ?_) _
         ·exact HNp.out (XX.fpH 2 KK (.inr (.inl e)))
         ·exact HNp.out (.inl e)
      case rest=>
       obtain⟨⟨H1,reg1,qA,qc,qs,hM9,hS9,hH1,hi9,ha9,hnp9,hkl,hp9,hne9⟩,hPb9⟩:=hcut;have e1:H1 2=⟨(H 2).mA,(H 2).mc,qA,qc,(H 2).ms,qs⟩:=by rw[hH1];exact VX _ _ _
       have hx9:=hM9.hx 2 KK;rw[e1]at hx9;obtain⟨qg,hqg,hqc⟩:=hx9.rq.elem KJ (by omega) (i:=k) (by simpa using hkl);dsimp only at hqg;subst hqg;obtain⟨y0,y1,y2,y3,y4,y5⟩:=hM9.cells;rw[e1]at y5;dsimp only at y5;obtain⟨q,hqk⟩: ∃q,qs[k]'hkl=q:=⟨_,rfl⟩;obtain⟨m,hm⟩: ∃m,q.os.length=m:=⟨_,rfl⟩;have q0:wc.cell? ⟨qg,k*2,none⟩=some (.int .i64 q.price):=by have:=hqc 0 _ rfl;rw[←hqk];simpa [QG.que]using this
       have q1:wc.cell? ⟨qg,k*2+1,none⟩=some (.slice q.A m q.c):=by have:=hqc 1 _ rfl;rw[←hm,←hqk];simpa [QG.que]using this
       have hmem:q∈qs:=by rw[←hqk];exact List.getElem_mem _
       have HRow:=QQ (show QY wc q.A m q.c 186 2 (QW U3 (J9 q.os)) by rw[←hm];exact hx9.rl _ hmem);have HQR:=QQ hx9.rq;have hqb:(QZ (some (⟨qg,0,none⟩:Addr)))=some qg:=rfl;have hgq:=hx9.gq qg hqb;have hql:=hx9.rq.lt hqb;have hqm:QZ q.A≠some qg:=fun e=>by have:=hx9.gl _ hmem qg e;omega
       have HQm:=QQ hqm;have HQp:=QQ (show QZ q.A≠some pb from fun e=>hnp9 (XX.fpH 2 KK (.inr (.inr ⟨q,by rw[e1];exact hmem,e⟩))));have HQp2:=QQ (show qg≠pb from fun e=>hnp9 (XX.fpH 2 KK (.inr (.inl (by rw[e1,←e];rfl)))));have HQb2:=QQ (show qg≠b from fun e=>by have h2:=hM9.gb;rw[←e]at h2;omega);have HQb:=QQ (show QZ q.A≠some b from fun e=>by have h1:=hx9.gl _ hmem b e;have h2:=hM9.gb;omega);obtain⟨l,hll⟩: ∃l,qs.length=l:=⟨_,rfl⟩;have hm100:m≤1000:=by
        have h1:=HSm.out.cnt;have h2:=HN.out;have h3:m≤(V4 (H 2).ms qs).length:=by
         unfold V4;rw[Y6 qs hkl,hqk];simp only[List.length_append];omega
        rw[ha9]at h3;unfold X5 at h1;simp only[List.length_append]at h1;omega
       rw[hll]at y5;have HM9:=QQ hM9;have HS9:=QQ hS9;have HH1:=QQ hH1;have HI9:=QQ hi9;have HA9:=QQ ha9;have HP9:=QQ hp9;have HNe9:=QQ hne9;have HPb9:=QQ hPb9;have Hm:=QQ hm;have Hkl:=QQ hkl;have hkz:(k:Int)< (l:Int):=by omega
       have hk0:(0:Int)≤(k:Int):=by omega
       obtain⟨p0,p1⟩:wc.cell? ⟨pb,0,none⟩=some (.int .i64 hd.1)∧wc.cell? ⟨pb,1,none⟩=some (.int .i64 hd.2):=⟨by rw[QJ.cell hPb9];rfl,by rw[QJ.cell hPb9];rfl⟩;have hbl:=QJ.lt hM9.blk;have hpl:=QJ.lt hPb9;obtain⟨i0,hi0,hz0,hz1,hz2⟩:=info_parts Qo0;clear hnp9 hM9 hS9 hH1 hi9 ha9 hp9 hne9 hPb9 hm hqm hgq hqb hmem e1 hx9 hqc hll y0 y1 y2 y3 y4;have Hqk:=QQ hqk;clear hqk;go_upto_region 22 with fail
       go_cut [133] (fun s133 wx=>Kx6 wc wx qg k m q.A q.c (QW U3 (J9 q.os)++U3 hd))
       case first=>
        as_aux_lemma=>
        refine Y1 18 (fun W=>W.cell? ⟨qg,k*2+1,none⟩=some (.slice q.A m q.c)∧W.cell? ⟨b,5,none⟩=some (.slice (some ⟨qg,0,none⟩) l qc)∧W.cell? ⟨pb,0,none⟩=some (.int .i64 hd.1)∧W.cell? ⟨pb,1,none⟩=some (.int .i64 hd.2)) (by kernel_rfl) ⟨q1,y5,p0,p1⟩ (fun hS=> ?_);refine tT 0 (.pointer (some ⟨b,4,none⟩)) ?_;refine tT 1 (.pointer (some ⟨b,4,none⟩)) ?_;refine tT 2 (.pointer (some ⟨b,5,none⟩)) ?_;refine tT 3 (.slice (some ⟨qg,0,none⟩) l qc) ?_;refine tT 4 (.int .i64 k) ?_;refine tT 5 (.pointer (some ⟨b,4,none⟩)) ?_;refine tT 6 (.pointer (some ⟨b,4,none⟩)) ?_;refine tT 7 (.pointer (some ⟨b,5,none⟩)) ?_;refine tT 8 (.slice (some ⟨qg,0,none⟩) l qc) ?_;refine tT 9 (.int .i64 k) ?_;refine tT 10 (.pointer (some ⟨qg,k*2,none⟩)) ?_;refine tT 11 (.pointer (some ⟨qg,k*2+1,none⟩)) ?_;refine tT 12 (.slice q.A m q.c) ?_;refine tT 13 (.agg #[.int .i64 hd.1,.int .i64 hd.2]) ?_;refine Y8 14 (by kernel_rfl) rfl (fun K1 hK1=> ?_);go_simp;have hal:Below wc.heap.size wc (wc.alloc (.cells #[.int .i64 hd.1,.int .i64 hd.2] 186)).drew:=Below.drew ((Below.refl _ wc).alloc (Nat.le_refl _) _);refine hK1 _ _ ⟨(hal.cell (p:=⟨qg,k*2+1,none⟩) hql).trans q1,(hal.cell (p:=⟨b,5,none⟩) hbl).trans y5,(hal.cell (p:=⟨pb,0,none⟩) hpl).trans p0,(hal.cell (p:=⟨pb,1,none⟩) hpl).trans p1⟩ (fun hS=> ?_);clear hK1 hal;refine Y8 15 (by kernel_rfl) rfl (fun K1 hK1=> ?_);refine step_append_lies _ (by rfl) _ _ _ (by rfl) 0 186 i0 _ 2 16 Tryz.underlying151 hi0 hz0 hz1 hz2 rfl (by omega) (.slice q.A m q.c) m _ (by rfl) ((World.ownsRow.alloc HRow.out _).drew) ⟨wc.heap.size,0,none⟩ 1 1 (U3 hd) (by rfl) (by rfl) (World.news_of_block (cs:= #[.int .i64 hd.1,.int .i64 hd.2]) (t:=186) (fr:=(0,0)) (heap_alloc_new wc _)) (Jf6 _) (by omega) (by unfold maxLen;omega) (by omega) (by simp) (wc.heap.size+1) (by simp) ?_;intro gg cap w6 hown hgrow hat hlt;have hk6:=IJ hgrow;have R6:=QY.keeps HQR.out hk6 (fun g hg e=>by rw[XV]at e;cases hg;exact HQm.out e);have r1:w6.cell? ⟨qg,k*2+1,none⟩=some (.slice q.A m q.c):=(hk6.cell (p:=⟨qg,k*2+1,none⟩) hql (fun e=>by rw[XV]at e;exact HQm.out e)).trans q1;have r2:w6.cell? ⟨b,5,none⟩=some (.slice (some ⟨qg,0,none⟩) l qc):=(hk6.cell (p:=⟨b,5,none⟩) hbl (fun e=>by rw[XV]at e;exact HQb.out e)).trans y5;have r3:w6.cell? ⟨pb,0,none⟩=some (.int .i64 hd.1):=(hk6.cell (p:=⟨pb,0,none⟩) hpl (fun e=>by rw[XV]at e;exact HQp.out e)).trans p0;have r4:w6.cell? ⟨pb,1,none⟩=some (.int .i64 hd.2):=(hk6.cell (p:=⟨pb,1,none⟩) hpl (fun e=>by rw[XV]at e;exact HQp.out e)).trans p1;have rf1:=QY.frozen R6 (k*2+1);have HK6:=QQ hk6;have HO6:=QQ hown;have HA6:=QQ hat;clear R6 hgrow hk6 hown hat;refine hK1 _ _ ⟨r1,r2,r3,r4⟩ (fun hS=> ?_);clear hK1;simp only[Act.put,List.setIfInBounds_toArray,List.set_cons_zero,List.set_cons_succ];refine Y8 16 (by kernel_rfl) rfl (fun K1 hK1=> ?_);go_simp;refine hK1 _ _ ⟨r1,r2,r3,r4⟩ (fun hS=> ?_);clear hK1;refine Y8 17 (by kernel_rfl) rfl (fun K1 hK1=> ?_);go_simp;refine hK1 _ _ ⟨r1,r2,r3,r4⟩ (fun hS=> ?_);clear hK1;refine Qo4 (by kernel_rfl) rfl (fun K1 hK1=> ?_);go_simp;refine hK1 _ _ (Qo3 (by kernel_rfl) ?_ _);clear hK1;go_wp2_with fail
        go_meet;exact⟨gg,cap,w6,rfl,HK6.out,HO6.out,HA6.out⟩
       case rest=>
        obtain⟨gg,cap,w6,rfl,hk6,ho6,ha6⟩:=hcut;have HK6:=QQ hk6;have HO6:=QQ ho6;have HA6:=QQ ha6;clear hk6 ho6 ha6;go_wp2_with fail
        go_ret;refine⟨rfl, ?_⟩;rw[HO.out];have hkl:=Hkl.out;have e:qs[k]=q:=Hqk.out;refine Jb7 (k:=k) (qg:=qg) (qs:=qs) (qA:=some ⟨qg,0,none⟩) (qc:=qc) HSm.out KK HSd1.out HKm.out HOk.out HNo.out (by rw[E0.out];exact HF.out) HM9.out HS9.out HH1.out HI9.out HA9.out hkl (HP9.out) HNe9.out rfl (by rw[e];exact Hm.out) ?_ ?_ ?_
        ·rw[e];exact HK6.out
        ·rw[e];exact HO6.out
        ·rw[e];exact HA6.out
theorem Kr0 (w:World) (b:Nat) (o:QX) (a:Nat) (F:Nat→Prop) (M:Int→Int→Option QX) (n r:Nat) (f:Int→Option Value) (H:Int→HS) (reg:Nat→Int) (hM:XX w b a F M n r f H reg)
  (hS:KY M n f H) (hfit:Qd5 o)
  (h:Jb1 o=true) (hr:Qq6 o=true) (hf:f o.id=none) (hn:n=100):
  Calls Tryz.prog 93 #[.pointer (some ⟨b,0,none⟩),KQ o] w fun e w'=>e= .returned (YV 12)∧Below w.heap.size w w':=by
 obtain⟨hs,hi⟩:=Qd8.1 h
 obtain⟨mk,hmk⟩: ∃mk,(o.kind ==2)=mk:=⟨_,rfl⟩
 obtain⟨o',ho'⟩: ∃o',JJ o=o':=⟨_,rfl⟩
 have HM:=QQ hM
 have HR:=QQ (show J6 o'.price o.qty=true by rw[←ho'];exact hr)
 have HF:=QQ hf
 have HK:=QQ hmk
 have HN:=QQ hn
 have HSd:=QQ hs
 have HO:=QQ ho'
 have HI:=QQ hi
 have HSm:=QQ hS
 have HOk:=QQ (show OkO o' by
  have hp:=V5.1 (show J6 o'.price o.qty=true by rw[←ho'];exact hr);rw[←ho']at hp⊢;obtain⟨f1,f2,f3,f4,f5⟩:=hfit;exact⟨⟨f1,f2,f3,by unfold V3;omega,f5⟩,hi,⟨hp.1,hp.2.1⟩,⟨hp.2.2.1,hp.2.2.2⟩⟩)
 have B0:=QJ.new w 29 (KZ o)
 have hB0:Below w.heap.size w (w.alloc (.cells (KZ o) 29)):=(Below.refl _ w).alloc (Nat.le_refl _) _
 have HX0:=QQ B0
 have HB0:=QQ hB0
 unfold KQ
 clear h hi hr hM hf hn hs hS hfit ho' hmk B0 hB0
 go_enter Tryz.func93,Tryz.ntmps93
 go_upto_region 1 with fail
 go_cut [25] (fun s25 wx=>s25= .bool false∧Qq7 w wx b a F M n r f H reg o)
 case first=>
  obtain⟨id,side,kind,price,qty⟩:=o;have d1:decide (id<1)=false:=IQ (by have:=HI.out;dsimp only at this;omega);rcases HSd.out with h1|h1
  ·dsimp only at h1
   subst h1;go_wp2_with fail
   go_meet;exact⟨rfl,HB0.out,HM.out.below HB0.out,HX0.out⟩
  ·dsimp only at h1
   subst h1;go_wp2_with fail
   go_meet;exact⟨rfl,HB0.out,HM.out.below HB0.out,HX0.out⟩
 case rest=>
  obtain⟨rfl,h8⟩:=hcut;have H8:=QQ h8;obtain⟨x0,x1,x2,x3,x4⟩:=JW h8.2.2;have xf:=QJ.frozen h8.2.2 3;have t1:=HK.out;clear h8;go_upto_if 30 with fail
  go_cut [31] (fun s31 wx=>Qq7 w wx b a F M n r f H reg o')
  case first=>
   cases mk with
   |true=>
    have t2:=QQ t1;clear t1;go_wp2_with fail
    go_meet;rw[←HO.out];exact Qm2 HM.out H8.out t2.out
   |false=>
    have t2:=QQ t1;clear t1;go_wp2_with fail
    go_meet;rw[←HO.out,Qq8 t2.out];exact H8.out
  case rest=>
   clear x0 x1 x2 x3 x4 xf H8 HX0 HB0;have e4:o'.qty=o.qty:=by rw[←HO.out];rfl
   have e0:o'.id=o.id:=by rw[←HO.out];rfl
   have e1:o'.side=o.side:=by rw[←HO.out];rfl
   have e2:o'.kind=o.kind:=by rw[←HO.out];rfl
   have H8:=QQ hcut;obtain⟨x0,x1,x2,x3,x4⟩:=JW hcut.2.2;rw[e4]at x4;rw[e0]at x0;rw[e1]at x1;rw[e2]at x2;clear t1 hcut;have E4:=QQ e4;have E0:=QQ e0;have E1:=QQ e1;have E2:=QQ e2;clear e4 e0 e1 e2;go_wp2_with fail
   refine(U5 _ _ _).mono ?_;rintro e w1 ⟨rfl,hb⟩;rw[HR.out];clear x0 x1 x2 x3 x4;have h8:=Qi2 H8.out hb;clear H8 HR;have H8:=QQ h8;have hl1:=QJ.lt h8.2.2;have hl2:=QJ.lt h8.2.1.blk;obtain⟨x0,x1,x2,x3,x4⟩:=JW h8.2.2;obtain⟨y0,y1,y2,y3,y4,y5⟩:=h8.2.1.cells;rw[E4.out]at x4;rw[E0.out]at x0;rw[E1.out]at x1;rw[E2.out]at x2;have hlk:=IX (w:=(w1.alloc (.cells #[.int .i64 0,.int .i64 0,.int .i64 0,.int .i64 0,.bool false] 188)).drew) (h8.2.1.mp.alloc _) HF.out;have hlk2:=IX (w:=w1.drew) h8.2.1.mp HF.out;clear h8 hb;go_upto_region 8 with fail
   go_cut [7] (fun s7 wx=>s7= .bool false∧Qq7 w wx b a F M n r f H reg o')
   case first=>
    clear y0 y2 y3 y4 y5 x1 x2 x3 x4
    as_aux_lemma=>
    go_region_law (fail)
    all_goals go_wp2_with fail
    all_goals go_meet
    all_goals exact⟨rfl,Qi2 H8.out (Below.drew ((Below.refl _ w1).alloc (Nat.le_refl _) _))⟩
   case rest=>
    clear x0 x1 x2 x3 x4 y0 y1 y2 y3 y4 y5 hlk hlk2 hl1 hl2 H8;obtain⟨rfl,h8⟩:=hcut;have H8:=QQ h8;have hl1:=QJ.lt h8.2.2;have hl2:=QJ.lt h8.2.1.blk;have hao:KQ o'= .agg #[.int .i64 o.id,.int .i64 o.side,.int .i64 o.kind,.int .i64 o'.price,.int .i64 o.qty]:=by unfold KQ;rw[E0.out,E1.out,E2.out,E4.out]
    have hput: ∀W,Below wc.heap.size wc W→Calls Tryz.prog 130 #[.pointer (some ⟨a,0,none⟩),.agg #[.int .i64 o.id,.int .i64 o.side,.int .i64 o.kind,.int .i64 o'.price,.int .i64 o.qty]] W fun e w'=>e= .returned (.tuple #[.agg #[.int .i64 0,.int .i64 0],.iface 52 (.int .i64 12)])∧Below W.heap.size W w':=by
     intro W hW;rw[←hao];refine(Jf3 (h8.2.1.ar.below hW) (by omega) o').mono ?_;rintro e w' (⟨_,h2,h3⟩|⟨h1,_⟩)
     ·exact⟨h2,h3⟩
     ·have:=HN.out;omega
    have HPA:=QQ (hput ((wc.alloc (.cells #[.int .i64 0,.int .i64 0] 186)).drew) (Below.drew ((Below.refl _ _).alloc (Nat.le_refl _) _)));have HPB:=QQ (hput wc.drew (Below.drew (Below.refl _ _)));have hX0:QJ (wc.alloc (.cells #[.int .i64 0,.int .i64 0] 186)).drew wc.heap.size 186 #[.int .i64 0,.int .i64 0]:=QJ.drew (QJ.new wc _ _);have HX0:=QQ hX0;have hBA:=QQ (show Below wc.heap.size wc (wc.alloc (.cells #[.int .i64 0,.int .i64 0] 186)).drew from Below.drew ((Below.refl _ _).alloc (Nat.le_refl _) _));have hBB:=QQ (show Below wc.heap.size wc wc.drew from Below.drew (Below.refl _ _));obtain⟨x0,x1,x2,x3,x4⟩:=JW h8.2.2;have y0:=h8.2.1.cells.1;rw[E4.out]at x4;rw[E0.out]at x0;rw[E1.out]at x1;rw[E2.out]at x2;clear h8 hput hao hX0;go_upto_region 11 with fail
    go_cut [9] (fun s9 wx=>s9= .iface 52 (.int .i64 12)∧Below wc.heap.size wc wx)
    case first=>
     go_region_with (first|(go_at_call 130;refine HPA.out.mono ?_;rintro e w5 ⟨rfl,hb⟩;have hb5:=QJ.keep HX0.out hb;have z0:w5.cell? ⟨wc.heap.size,0,none⟩=some (.int .i64 0):=(by rw[QJ.cell hb5];rfl);have z1:w5.cell? ⟨wc.heap.size,1,none⟩=some (.int .i64 0):=(by rw[QJ.cell hb5];rfl);have f0:=QJ.frozen hb5 0;have f1:=QJ.frozen hb5 1;have HB5:=QQ (hBA.out.trans (hb.mono hBA.out.size));clear hb hb5)|(go_at_call 130;refine HPB.out.mono ?_;rintro e w5 ⟨rfl,hb⟩;have HB5:=QQ (hBB.out.trans (hb.mono hBB.out.size));clear hb))
     all_goals go_wp2_with fail
     all_goals go_meet
     all_goals
      refine⟨rfl, ?_⟩
      first
       |exact HB5.out.trans ((Ja2 w5 wc.heap.size 0 1 _ _).below (B:=wc.heap.size) (fun i e=>by have e':i=wc.heap.size:=e;omega) HB5.out.size)
       |exact HB5.out.alloc HB5.out.size _
    case rest=>
     obtain⟨rfl,hb⟩:=hcut;clear x0 x1 x2 x3 x4 y0 HPA HPB;have HB:=QQ (H8.out.1.trans (hb.mono H8.out.1.size));clear hb;go_wp2_with fail
     go_ret;exact⟨rfl,HB.out⟩
theorem Xp7 (w:World) (b:Nat) (G:Nat→Prop) (L1 L2:List QX) (h:Q1 w b G L1 L2) (o:QX) (hfit:Qd5 o):
  Calls Tryz.prog 93 #[.pointer (some ⟨b,0,none⟩),KQ o] w (Jp6 w b G L1 L2 o):=by
 obtain⟨a,F,M,n,r,f,H,reg,hM,hS,hG,rfl,rfl⟩:=h
 have hn:=hM.ar.le
 unfold Jp6
 cases h1:Jb1 o with
 |false=>
  have e:Qk9 (H 1).L (H 2).L o=1:=by unfold Qk9;rw[if_pos h1]
  rw[e];exact(Ku6 w b o h1).mono fun e' w' h=> .inl ⟨by decide,h⟩
 |true=>
 cases h2:Qq6 o with
 |false=>
  have e:Qk9 (H 1).L (H 2).L o=2:=by unfold Qk9;rw[if_neg (by rw[h1];decide),if_pos h2]
  rw[e];exact(Kg9 w b o h1 h2).mono fun e' w' h=> .inl ⟨by decide,h⟩
 |true=>
 cases hf:f o.id with
 |some v=>
  obtain⟨x,hx,QQ⟩:=hS.hk _ _ hf;have hv:=hS.hf x hx;rw[QQ]at hv;have hg:(Qb3 ((H 1).L++(H 2).L) o.id).isSome=true:=by rw[←QQ,Ja4 hS hx];rfl
  have e:Qk9 (H 1).L (H 2).L o=9:=by unfold Qk9;rw[if_neg (by rw[h1];decide),if_neg (by rw[h2];decide),if_pos hg]
  rw[e];exact(Kh0 w b o a F M n r f H reg hM h1 h2 x hv).mono fun e' w' h=> .inl ⟨by decide,h⟩
 |none=>
 have hg: ¬(Qb3 ((H 1).L++(H 2).L) o.id).isSome=true:=by rw[Ja5 hS hf];decide
 have hcnt:(H 1).L.length+ (H 2).L.length=n:=by
  rw[hS.cnt];unfold X5 HS.L IW;simp
 by_cases h3:n=100
 ·have e:Qk9 (H 1).L (H 2).L o=12:=by unfold Qk9;rw[if_neg (by rw[h1];decide),if_neg (by rw[h2];decide),if_neg hg,if_pos (by rw[hcnt];exact h3)]
  rw[e];exact(Kr0 w b o a F M n r f H reg hM hS hfit h1 h2 hf h3).mono fun e' w' h=> .inl ⟨by decide,h⟩
 ·have e:Qk9 (H 1).L (H 2).L o=0:=by unfold Qk9;rw[if_neg (by rw[h1];decide),if_neg (by rw[h2];decide),if_neg hg,if_neg (by rw[hcnt];exact h3)]
  rw[e];have h100:n<100:=by omega
  have key:Calls Tryz.prog 93 #[.pointer (some ⟨b,0,none⟩),KQ o] w fun e w'=>e= .returned (YV 0)∧Qn9 w w' b a r F n H (JJ o):=by
   rcases(Qd8.1 h1).1 with hs|hs
   ·cases hk:o.kind ==2 with
    |true=>exact Xx4 w b o a F M n r f H reg hM hS hfit h1 h2 hf h100 hs hk
    |false=>exact Xx5 w b o a F M n r f H reg hM hS hfit h1 h2 hf h100 hs hk
   ·cases hk:o.kind ==2 with
    |true=>exact Xx6 w b o a F M n r f H reg hM hS hfit h1 h2 hf h100 hs hk
    |false=>exact Xx7 w b o a F M n r f H reg hM hS hfit h1 h2 hf h100 hs hk
  exact key.mono fun e' w' h=> .inr ⟨rfl,h.1,Kz8 (Qd8.1 h1).1 hG h.2⟩
end Go.Proofs.YtnlngicnfegjgaaGreatDoor
namespace Go.Proofs.YtnlngicnfegjgaaGreatDoor
open Go.ChangeMaps Go.RowKit
structure Jd9 (cs:Array Value) (tb bb bk im:Nat) (Ap:Option Addr) (pc:Nat) (m:ZJ):Prop where
 sz:cs.size=18
 c4:cs[4]?=some (.int .i64 m.tk)
 c5:cs[5]?=some (.int .i64 m.mo)
 c6:cs[6]?=some (.pointer (some ⟨tb,0,none⟩))
 c7:cs[7]?=some (.pointer (some ⟨bb,0,none⟩))
 c8:cs[8]?=some (.pointer (some ⟨bk,0,none⟩))
 c12:cs[12]?=some (.slice Ap m.pk.length pc)
 c13:cs[13]?=some (.map (some im))
 c14:cs[14]?=some (.int .i64 m.ph)
 c15:cs[15]?=some (.int .i64 m.now)
 c16:cs[16]?=some (.int .i64 m.ends)
 c17:cs[17]?=some (.int .i64 m.lng)
structure Jh6 (w:World) (own:Nat→Nat→Prop):Prop where
 uni: ∀i k k',own i k→own i k'→k=k'
 lt: ∀i k,own i k→i<w.heap.size
def Qr5 (w:World) (own:Nat→Nat→Prop) (N:Nat→Prop) (K:Nat) (i k:Nat):Prop:=own i k∨(w.heap.size≤i∧N i∧k=K)
def VZ (w w':World) (own own':Nat→Nat→Prop):Prop:=QK (fun i=> ∃k,own i k) w w'∧ ∀i k,own' i k→own i k∨w.heap.size≤i
theorem VZ.trans {w w1 w2:World} {o o1 o2:Nat→Nat→Prop} (h:VZ w w1 o o1) (k:VZ w1 w2 o1 o2):VZ w w2 o o2:=by
 refine⟨h.1.trans k.1 (fun i ⟨n,hn⟩=> ?_),fun i n hn=> ?_⟩
 ·rcases h.2 i n hn with e|e
  ·exact .inl ⟨n,e⟩
  ·exact .inr e
 ·rcases k.2 i n hn with e|e
  ·exact h.2 i n e
  ·exact .inr (Nat.le_trans h.1.size e)
theorem VZ.of_below {w w':World} {o:Nat→Nat→Prop} (h:Below w.heap.size w w'):VZ w w' o o:=⟨QK.of_below h _,fun i k hi=> .inl hi⟩
theorem Jh6.mono {w w':World} {own:Nat→Nat→Prop} (h:Jh6 w own) (hs:w.heap.size≤w'.heap.size):Jh6 w' own:=⟨h.uni,fun i k hi=>Nat.lt_of_lt_of_le (h.lt i k hi) hs⟩
theorem Jh6.new_ {w w':World} {own:Nat→Nat→Prop} (h:Jh6 w own) (hs:w.heap.size≤w'.heap.size) {N:Nat→Prop} (hN: ∀i,N i→i<w'.heap.size) (K:Nat):Jh6 w' (Qr5 w own N K):=by
 refine⟨fun i k k' h1 h2=> ?_,fun i k h1=> ?_⟩
 ·rcases h1 with h1|⟨a1,b1,c1⟩
  ·rcases h2 with h2|⟨a2,b2,c2⟩
   ·exact h.uni i k k' h1 h2
   ·have:=h.lt i k h1;omega
  ·rcases h2 with h2|⟨a2,b2,c2⟩
   ·have:=h.lt i k' h2;omega
   ·rw[c1,c2]
 ·rcases h1 with h1|⟨a1,b1,c1⟩
  ·exact Nat.lt_of_lt_of_le (h.lt i k h1) hs
  ·exact hN i b1
structure UX (w:World) (e:Nat) (cs:Array Value) (tb bb bk im:Nat) (T:Option Addr) (tc:Nat) (Al:Option Addr) (lc:Nat) (lv:List XJ) (bu se:Int) (Ap:Option Addr) (pc:Nat) (es:List MapEntry) (mc:Nat) (G:Nat→Prop) (own:Nat→Nat→Prop) (g:Int→Option Int→Int) (m:ZJ):Prop where
 ind:Qj1 w e 103 cs 9 Al lc lv bu se
 ec:Jd9 cs tb bb bk im Ap pc m
 is:Qe1 lv bu se g
 tabl:tb<w.heap.size
 tabc:w.cell? ⟨tb,0,none⟩=some (.slice T m.rows.length tc)
 tabp:O2 w T m.rows.length tc m.rows
 bands:J1 w bb m.st m.dy m.an m.la
 book:Q1 w bk G m.L1 m.L2
 park:QY w Ap m.pk.length pc 29 5 (QW U7 m.pk)
 map_:Q4 w im es mc
 keys:Qh1 es
 ids: ∀k,Z4 es k=if k∈m.ids then some (.bool true)else none
 ok:Jh6 w own
 oe:own e 1
 ot:own tb 2
 oT: ∀i,QZ T=some i→own i 2
 ob:own bb 3
 oG: ∀i,G i→own i 4
 ol: ∀i,QZ Al=some i→own i 5
 op: ∀i,QZ Ap=some i→own i 6
 oi:own im 7
def Zc9 (w:World) (e:Nat) (F:Nat→Prop) (g:Int→Option Int→Int) (m:ZJ):Prop:=
 ∃cs tb bb bk im T tc Al lc lv bu se Ap pc es mc G own,UX w e cs tb bb bk im T tc Al lc lv bu se Ap pc es mc G own g m∧ ∀i,F i↔ ∃k,own i k
def UK (w:World) (e:Nat) (F:Nat→Prop) (m:ZJ):Prop:=Zc9 w e F (fun s k=>Q2 s k (Qc0 m)) m
def YZ (w w':World) (e:Nat) (F:Nat→Prop) (m:ZJ):Prop:= ∃F',UK w' e F' m∧XW w w' F F'
section
variable {w w':World} {e:Nat} {cs:Array Value} {tb bb bk im:Nat} {T:Option Addr} {tc:Nat} {Al:Option Addr} {lc:Nat} {lv:List XJ} {bu se:Int} {Ap:Option Addr} {pc:Nat} {es:List MapEntry} {mc:Nat} {G:Nat→Prop} {own:Nat→Nat→Prop} {g:Int→Option Int→Int} {m:ZJ}
theorem O2.keeps {A:Option Addr} {n c:Nat} {ps:List (Int×Int)} {S:Nat→Prop} (h:O2 w A n c ps) (hk:QK S w w') (hn: ∀i,QZ A=some i→ ¬S i):O2 w' A n c ps:=by
 refine⟨h.1,fun hl=> ?_⟩
 obtain⟨b,off,hA,hlt,hc⟩:=h.2 hl
 have hb: ¬S b:=hn b (by rw[hA];rfl)
 exact⟨b,off,hA,Nat.lt_of_lt_of_le hlt hk.size,fun i hi=>⟨(hk.cell (p:=⟨b,_,none⟩) hlt hb).trans (hc i hi).1,(hk.cell (p:=⟨b,_,none⟩) hlt hb).trans (hc i hi).2⟩⟩
theorem UX.cell (h:UX w e cs tb bb bk im T tc Al lc lv bu se Ap pc es mc G own g m) {i:Nat} {v:Value} (hv:cs[i]?=some v):w.cell? ⟨e,i,none⟩=some v:=by rw[QJ.cell h.ind.blk];exact hv
theorem UX.fit {S:Nat→Prop} (h:UX w e cs tb bb bk im T tc Al lc lv bu se Ap pc es mc G own g m) {K:Nat} (hS: ∀i,S i→own i K) {i k:Nat} (hi:own i k) (hk:k≠K): ¬S i:=fun hs=>hk (h.ok.uni i k K hi (hS i hs))
theorem UX.keeps {S:Nat→Prop} (h:UX w e cs tb bb bk im T tc Al lc lv bu se Ap pc es mc G own g m) (hk:QK S w w') (hS: ∀i k,own i k→ ¬S i):UX w' e cs tb bb bk im T tc Al lc lv bu se Ap pc es mc G own g m:=
 ⟨h.ind.keeps hk (hS _ _ h.oe) (fun i hi=>hS i _ (h.ol i hi)),h.ec,h.is,Nat.lt_of_lt_of_le h.tabl hk.size,(hk.cell (p:=⟨tb,0,none⟩) h.tabl (hS _ _ h.ot)).trans h.tabc,h.tabp.keeps hk (fun i hi=>hS i _ (h.oT i hi)),QJ.keeps h.bands hk (hS _ _ h.ob),h.book.keeps hk (fun i hi=>hS i _ (h.oG i hi)),h.park.keeps hk (fun i hi=>hS i _ (h.op i hi)),h.map_.of_block (hk.block _ h.map_.lt (hS _ _ h.oi)),h.keys,h.ids,h.ok.mono hk.size,h.oe,h.ot,h.oT,h.ob,h.oG,h.ol,h.op,h.oi⟩
theorem UX.below (h:UX w e cs tb bb bk im T tc Al lc lv bu se Ap pc es mc G own g m) (hb:Below w.heap.size w w'):UX w' e cs tb bb bk im T tc Al lc lv bu se Ap pc es mc G own g m:=
 h.keeps (QK.of_below hb (fun _=>False)) (fun _ _ _=>id)
theorem Kj1 {S N:Nat→Prop} {K:Nat} (hk:QK S w w') (hS: ∀i,S i→own i K):VZ w w' own (Qr5 w own N K):=
 ⟨hk.mono (fun i hi=>⟨K,hS i hi⟩),fun i k hi=>hi.imp id (fun x=>x.1)⟩
theorem UX.bookStep {M1 M2:List QX} {G':Nat→Prop} (h:UX w e cs tb bb bk im T tc Al lc lv bu se Ap pc es mc G own g m) (hB:Q1 w' bk G' M1 M2) (ht:XW w w' G G'):
  UX w' e cs tb bb bk im T tc Al lc lv bu se Ap pc es mc G' (Qr5 w own G' 4) g {m with L1:=M1,L2:=M2}∧VZ w w' own (Qr5 w own G' 4):=by
 obtain⟨hk,hg⟩:=ht
 have f: ∀ {i k:Nat},own i k→k≠4→ ¬G i:=fun hi hne=>h.fit h.oG hi hne
 have n: ∀ {i k:Nat},own i k→Qr5 w own G' 4 i k:=fun hi=> .inl hi
 refine⟨⟨h.ind.keeps hk (f h.oe (by decide)) (fun i hi=>f (h.ol i hi) (by decide)),⟨h.ec.sz,h.ec.c4,h.ec.c5,h.ec.c6,h.ec.c7,h.ec.c8,h.ec.c12,h.ec.c13,h.ec.c14,h.ec.c15,h.ec.c16,h.ec.c17⟩,h.is,Nat.lt_of_lt_of_le h.tabl hk.size,(hk.cell (p:=⟨tb,0,none⟩) h.tabl (f h.ot (by decide))).trans h.tabc,h.tabp.keeps hk (fun i hi=>f (h.oT i hi) (by decide)),QJ.keeps h.bands hk (f h.ob (by decide)),hB,h.park.keeps hk (fun i hi=>f (h.op i hi) (by decide)),h.map_.of_block (hk.block _ h.map_.lt (f h.oi (by decide))),h.keys,h.ids,h.ok.new_ hk.size (fun i hi=>hB.fp hi) 4,n h.oe,n h.ot,fun i hi=>n (h.oT i hi),n h.ob,fun i hi=> ?_,fun i hi=>n (h.ol i hi),fun i hi=>n (h.op i hi),n h.oi⟩,Kj1 hk h.oG⟩
 rcases hg i hi with e1|e1
 ·exact n (h.oG i e1)
 ·exact .inr ⟨e1,hi,rfl⟩
theorem UX.bookTo {M1 M2:List QX} (h:UX w e cs tb bb bk im T tc Al lc lv bu se Ap pc es mc G own g m) (ht:Qj9 w w' bk G M1 M2):
  ∃G' own',UX w' e cs tb bb bk im T tc Al lc lv bu se Ap pc es mc G' own' g {m with L1:=M1,L2:=M2}∧VZ w w' own own':=by
 obtain⟨G',hB,hs⟩:=ht
 obtain⟨h1,h2⟩:=h.bookStep hB hs
 exact⟨G',_,h1,h2⟩
theorem UX.indTo {lv':List XJ} {bu' se':Int} {g':Int→Option Int→Int} (h:UX w e cs tb bb bk im T tc Al lc lv bu se Ap pc es mc G own g m) (ht:Qe0 w w' e 103 cs 9 Al lv' bu' se') (hi:Qe1 lv' bu' se' g'):
  ∃cs' Al' lc' own',UX w' e cs' tb bb bk im T tc Al' lc' lv' bu' se' Ap pc es mc G own' g' m∧VZ w w' own own':=by
 obtain⟨cs',Al',lc',hM,hsz,hcs,hk,hg⟩:=ht
 have f: ∀ {i k:Nat},own i k→k≠1→k≠5→ ¬(i=e∨QZ Al=some i):=fun hi h1 h5 hs=>by
  rcases hs with rfl|hs
  ·exact h1 (h.ok.uni _ _ _ hi h.oe)
  ·exact h5 (h.ok.uni _ _ _ hi (h.ol _ hs))
 have n: ∀ {i k:Nat},own i k→Qr5 w own (fun i=>QZ Al'=some i) 5 i k:=fun hi=> .inl hi
 have c: ∀i v,cs[i]?=some v→i≠9→i≠10→i≠11→cs'[i]?=some v:=fun i v hv h9 h10 h11=>(hcs i h9 h10 h11).trans hv
 refine⟨cs',Al',lc',Qr5 w own (fun i=>QZ Al'=some i) 5,⟨hM,⟨hsz.trans h.ec.sz,c _ _ h.ec.c4 (by decide) (by decide) (by decide),c _ _ h.ec.c5 (by decide) (by decide) (by decide),c _ _ h.ec.c6 (by decide) (by decide) (by decide),c _ _ h.ec.c7 (by decide) (by decide) (by decide),c _ _ h.ec.c8 (by decide) (by decide) (by decide),c _ _ h.ec.c12 (by decide) (by decide) (by decide),c _ _ h.ec.c13 (by decide) (by decide) (by decide),c _ _ h.ec.c14 (by decide) (by decide) (by decide),c _ _ h.ec.c15 (by decide) (by decide) (by decide),c _ _ h.ec.c16 (by decide) (by decide) (by decide),c _ _ h.ec.c17 (by decide) (by decide) (by decide)⟩,hi,Nat.lt_of_lt_of_le h.tabl hk.size,(hk.cell (p:=⟨tb,0,none⟩) h.tabl (f h.ot (by decide) (by decide))).trans h.tabc,h.tabp.keeps hk (fun i hi=>f (h.oT i hi) (by decide) (by decide)),QJ.keeps h.bands hk (f h.ob (by decide) (by decide)),h.book.keeps hk (fun i hi=>f (h.oG i hi) (by decide) (by decide)),h.park.keeps hk (fun i hi=>f (h.op i hi) (by decide) (by decide)),h.map_.of_block (hk.block _ h.map_.lt (f h.oi (by decide) (by decide))),h.keys,h.ids,h.ok.new_ hk.size (fun i hi=>hM.row.lt hi) 5,n h.oe,n h.ot,fun i hi=>n (h.oT i hi),n h.ob,fun i hi=>n (h.oG i hi),fun i hi=> ?_,fun i hi=>n (h.op i hi),n h.oi⟩,hk.mono (fun i hi=> ?_),fun i k hi=>hi.imp id (fun x=>x.1)⟩
 ·rcases hg i hi with e1|e1
  ·exact n (h.ol i e1)
  ·exact .inr ⟨e1,hi,rfl⟩
 ·rcases hi with rfl|hi
  ·exact⟨1,h.oe⟩
  ·exact⟨5,h.ol i hi⟩
theorem UX.bandsTo {an la:Int} (h:UX w e cs tb bb bk im T tc Al lc lv bu se Ap pc es mc G own g m) (hb:J1 w' bb m.st m.dy an la) (hk:QK (fun i=>i=bb) w w'):
  UX w' e cs tb bb bk im T tc Al lc lv bu se Ap pc es mc G own g {m with an:=an,la:=la}∧VZ w w' own own:=by
 have f: ∀ {i k:Nat},own i k→k≠3→ ¬i=bb:=fun hi hne=>h.fit (S:=fun i=>i=bb) (fun i hi=>hi▸h.ob) hi hne
 exact⟨⟨h.ind.keeps hk (f h.oe (by decide)) (fun i hi=>f (h.ol i hi) (by decide)),⟨h.ec.sz,h.ec.c4,h.ec.c5,h.ec.c6,h.ec.c7,h.ec.c8,h.ec.c12,h.ec.c13,h.ec.c14,h.ec.c15,h.ec.c16,h.ec.c17⟩,h.is,Nat.lt_of_lt_of_le h.tabl hk.size,(hk.cell (p:=⟨tb,0,none⟩) h.tabl (f h.ot (by decide))).trans h.tabc,h.tabp.keeps hk (fun i hi=>f (h.oT i hi) (by decide)),hb,h.book.keeps hk (fun i hi=>f (h.oG i hi) (by decide)),h.park.keeps hk (fun i hi=>f (h.op i hi) (by decide)),h.map_.of_block (hk.block _ h.map_.lt (f h.oi (by decide))),h.keys,h.ids,h.ok.mono hk.size,h.oe,h.ot,h.oT,h.ob,h.oG,h.ol,h.op,h.oi⟩,hk.mono (fun i hi=>⟨3,hi▸h.ob⟩),fun i k hi=> .inl hi⟩
theorem UX.cellsTo {cs':Array Value} {m':ZJ} (h:UX w e cs tb bb bk im T tc Al lc lv bu se Ap pc es mc G own g m) (hb:QJ w' e 103 cs') (hk:QK (fun i=>i=e) w w') (hc:Jd9 cs' tb bb bk im Ap pc m') (h9:cs'[9]?=cs[9]?) (h10:cs'[10]?=cs[10]?) (h11:cs'[11]?=cs[11]?)
  (hm:m'.rows=m.rows∧m'.st=m.st∧m'.dy=m.dy∧m'.an=m.an∧m'.la=m.la∧m'.L1=m.L1∧m'.L2=m.L2∧m'.pk=m.pk∧m'.ids=m.ids):
  UX w' e cs' tb bb bk im T tc Al lc lv bu se Ap pc es mc G own g m'∧VZ w w' own own:=by
 obtain⟨e1,e2,e3,e4,e5,e6,e7,e8,e9⟩:=hm
 have f: ∀ {i k:Nat},own i k→k≠1→ ¬i=e:=fun hi hne=>h.fit (S:=fun i=>i=e) (fun i hi=>hi▸h.oe) hi hne
 have hr:=h.ind
 refine⟨⟨⟨hb,h9.trans hr.c0,h10.trans hr.c1,h11.trans hr.c2,hr.row.keeps hk (fun i hi=>f (h.ol i hi) (by decide)),hr.na,hr.ok⟩,hc,h.is,Nat.lt_of_lt_of_le h.tabl hk.size, ?_, ?_, ?_, ?_, ?_,h.map_.of_block (hk.block _ h.map_.lt (f h.oi (by decide))),h.keys, ?_,h.ok.mono hk.size,h.oe,h.ot,h.oT,h.ob,h.oG,h.ol,h.op,h.oi⟩,hk.mono (fun i hi=>⟨1,hi▸h.oe⟩),fun i k hi=> .inl hi⟩
 ·rw[e1];exact(hk.cell (p:=⟨tb,0,none⟩) h.tabl (f h.ot (by decide))).trans h.tabc
 ·rw[e1];exact h.tabp.keeps hk (fun i hi=>f (h.oT i hi) (by decide))
 ·rw[e2,e3,e4,e5];exact QJ.keeps h.bands hk (f h.ob (by decide))
 ·rw[e6,e7];exact h.book.keeps hk (fun i hi=>f (h.oG i hi) (by decide))
 ·rw[e8];exact h.park.keeps hk (fun i hi=>f (h.op i hi) (by decide))
 ·rw[e9];exact h.ids
theorem UX.at_ (h:UX w e cs tb bb bk im T tc Al lc lv bu se Ap pc es mc G own g m) (hg: ∀s k,(s=1∨s=2)→g s k=Q2 s k (Qc0 m)):UK w e (fun i=> ∃k,own i k) m:=
 ⟨cs,tb,bb,bk,im,T,tc,Al,lc,lv,bu,se,Ap,pc,es,mc,G,own,⟨h.ind,h.ec,h.is.congr hg,h.tabl,h.tabc,h.tabp,h.bands,h.book,h.park,h.map_,h.keys,h.ids,h.ok,h.oe,h.ot,h.oT,h.ob,h.oG,h.ol,h.op,h.oi⟩,fun i=>Iff.rfl⟩
theorem VZ.bstep {F:Nat→Prop} {own':Nat→Nat→Prop} (h:VZ w w' own own') (hF: ∀i,F i↔ ∃k,own i k):XW w w' F (fun i=> ∃k,own' i k):=by
 refine⟨h.1.mono (fun i hi=>(hF i).2 hi),fun i ⟨k,hi⟩=> ?_⟩
 rcases h.2 i k hi with e1|e1
 ·exact .inl ((hF i).2 ⟨k,e1⟩)
 ·exact .inr e1
theorem UK.below {F:Nat→Prop} (h:UK w e F m) (hb:Below w.heap.size w w'):UK w' e F m:=by
 obtain⟨cs,tb,bb,bk,im,T,tc,Al,lc,lv,bu,se,Ap,pc,es,mc,G,own,hM,hF⟩:=h
 exact⟨cs,tb,bb,bk,im,T,tc,Al,lc,lv,bu,se,Ap,pc,es,mc,G,own,hM.below hb,hF⟩
theorem UK.keeps {F S:Nat→Prop} (h:UK w e F m) (hk:QK S w w') (hS: ∀i,F i→ ¬S i):UK w' e F m:=by
 obtain⟨cs,tb,bb,bk,im,T,tc,Al,lc,lv,bu,se,Ap,pc,es,mc,G,own,hM,hF⟩:=h
 exact⟨cs,tb,bb,bk,im,T,tc,Al,lc,lv,bu,se,Ap,pc,es,mc,G,own,hM.keeps hk (fun i k hi=>hS i ((hF i).2 ⟨k,hi⟩)),hF⟩
theorem UK.lt {F:Nat→Prop} (h:UK w e F m) {i:Nat} (hi:F i):i<w.heap.size:=by
 obtain⟨cs,tb,bb,bk,im,T,tc,Al,lc,lv,bu,se,Ap,pc,es,mc,G,own,hM,hF⟩:=h
 obtain⟨k,hk⟩:=(hF i).1 hi
 exact hM.ok.lt i k hk
theorem YZ.same {F:Nat→Prop} (h:UK w e F m) (hb:Below w.heap.size w w'):YZ w w' e F m:=⟨F,h.below hb,XW.of_below hb⟩
theorem YZ.then_ {F:Nat→Prop} {w'':World} (h:YZ w w' e F m) (hb:Below w'.heap.size w' w''):YZ w w'' e F m:=by
 obtain⟨F',h1,h2⟩:=h
 exact⟨F',h1.below hb,h2.trans (XW.of_below hb)⟩
end
end Go.Proofs.YtnlngicnfegjgaaGreatDoor
