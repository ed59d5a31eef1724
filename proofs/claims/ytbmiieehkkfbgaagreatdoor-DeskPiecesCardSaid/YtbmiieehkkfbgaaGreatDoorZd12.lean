/- Contracts and walks that the law's proof needs. -/
import Derived.WalkKit
import Derived.WalkLawsBesides
import Derived.WalkSpells
import Derived.Deep.DeepCutAuto
import Derived.Deep.CutBlock
import Derived.Deep.QuietTactic
import Derived.BigQuiet
import Derived.Deep.RegionWith
import Derived.Test.YtbmiieehkkfbgaaGreatDoorZd2
import Derived.Test.YtbmiieehkkfbgaaGreatDoorZd10
import Derived.Deep.LoopGhost
import Derived.Deep.AppendLies
import Derived.Deep.AppendSrc
import Derived.BigRegion
set_option linter.unusedVariables false
set_option maxRecDepth 100000
set_option maxHeartbeats 8000000
namespace Go.Proofs.YtbmiieehkkfbgaaGreatDoor
open Go.RowKit
theorem Xb8 (w:World) (X:Nat) (t:TypeId) (cs:Array Value) (o:Nat) (A:Option Addr) (c:Nat) (lv:List XJ) (bu se:Int) (h:Qi4 w X t cs o A c lv bu se) (hs:Jc5 lv bu se) (z:QX) (hr:Qb0 z) (hk:z.kind=2) (q:Int) (hq:q=1∨q= -1) (hp:q= -1→z.qty≤(if z.side=1 then bu else se)):
  Calls Tryz.prog 156 #[.pointer (some ⟨X,o,none⟩),KJ z,.int .i64 q] w fun e w'=>(∃v,e= .returned v)∧Qd1 w w' X t cs o A lv (bu+q*dB z) (se+q*dS z):=by
 obtain⟨⟨hb1,hb2⟩,⟨hs1,hs2⟩,-,-⟩:=hs
 obtain⟨hsd,⟨hq1,hq2⟩,-⟩:=hr
 have hbx:Below w.heap.size w (w.alloc (.cells #[.int .i64 z.id,.int .i64 z.side,.int .i64 z.kind,.int .i64 z.price,.int .i64 z.qty] 117)):=(Below.refl _ w).alloc (Nat.le_refl _) _
 have h':=h.below hbx
 obtain⟨y0,y1,y2⟩:=h'.cells
 have f1:=QJ.frozen h'.blk (o+1)
 have f2:=QJ.frozen h'.blk (o+2)
 have hX:=QJ.lt h.blk
 have t1:=Z2 hk
 have H:=QQ h
 have HBx:=QQ hbx
 unfold KJ
 have hm1:RowKit.wrap64 (z.qty*q)=z.qty*q:=by rcases hq with rfl|rfl<;>(unfold RowKit.wrap64;omega)
 obtain⟨m,hm⟩: ∃m,z.qty*q=m:=⟨_,rfl⟩
 have hmq:m=q*z.qty:=by rw[←hm,Int.mul_comm]
 have hmb: -1000000≤m∧m≤1000000:=by rcases hq with rfl|rfl<;>omega
 rw[hm]at hm1
 rcases hsd with hsd|hsd
 ·have t2:=Z2 hsd
  have i1:RowKit.wrap64 (bu+m)=bu+m:=by unfold RowKit.wrap64;omega
  have e1:bu+q*dB z=bu+m:=by unfold dB;rw[if_pos hsd,hmq]
  have e2:se+q*dS z=se:=by unfold dS;rw[if_pos hsd];omega
  rw[e1,e2];clear h h' hbx hk hsd hq hp hm1 hmq hb1 hb2 hs1 hs2 hq1 hq2 e1 e2 y0 y2 f2;go_enter Tryz.func156,Tryz.ntmps156
  go_wp2_with fail
  refine bodyPost_ret (results_none rfl _ _ _) rfl ?_;exact⟨⟨_,rfl⟩,(H.out.market (Below.refl _ _) _ _ 1 _ (.inl ⟨rfl,rfl,rfl⟩)).then_ ((Below.refl _ _).alloc (Nat.le_refl _) _)⟩
 ·have t2:=YW (show¬z.side=1 by omega)
  have i1:RowKit.wrap64 (se+m)=se+m:=by unfold RowKit.wrap64;omega
  have e1:bu+q*dB z=bu:=by unfold dB;rw[if_neg (by omega)];omega
  have e2:se+q*dS z=se+m:=by unfold dS;rw[if_neg (by omega),hmq]
  rw[e1,e2];clear h h' hbx hk hsd hq hp hm1 hmq hb1 hb2 hs1 hs2 hq1 hq2 e1 e2 y0 y1 f1;go_enter Tryz.func156,Tryz.ntmps156
  go_wp2_with fail
  refine bodyPost_ret (results_none rfl _ _ _) rfl ?_;exact⟨⟨_,rfl⟩,(H.out.market (Below.refl _ _) _ _ 2 _ (.inr ⟨rfl,rfl,rfl⟩)).then_ ((Below.refl _ _).alloc (Nat.le_refl _) _)⟩
theorem Zd8 {lv2:List XJ} {n1 k m2:Nat} (h:lv2.length=n1) (hk:k<lv2.length) (e:k+ (n1- (k+1))=m2):lv2.length=m2+1:=by omega
theorem Kv1 {n k:Nat} (hn:n≤99999) (hk:k≤n):RowKit.wrap64 ((k:Int)+1)=(k:Int)+1:=by unfold RowKit.wrap64;omega
theorem Xj5 (w:World) (X:Nat) (t:TypeId) (cs:Array Value) (o:Nat) (A:Option Addr) (c:Nat) (lv:List XJ) (bu se:Int) (h:Qi4 w X t cs o A c lv bu se) (hs:Jc5 lv bu se) (z:QX) (hr:Qb0 z) (hk:z.kind≠2) (q:Int) (hq:q=1∨q= -1) (hp:q= -1→z.qty≤(if z.side=1 then(YV lv z.price).1 else(YV lv z.price).2)):
  Calls Tryz.prog 156 #[.pointer (some ⟨X,o,none⟩),KJ z,.int .i64 q] w fun e w'=>(∃v,e= .returned v)∧ ∃lv',Qd1 w w' X t cs o A lv' bu se∧lv'.length≤lv.length+1∧ ∀p,YV lv' p=if p=z.price then((YV lv p).1+q*dB z,(YV lv p).2+q*dS z)else YV lv p:=by
 obtain⟨hsd,⟨hq1,hq2⟩,hpr⟩:=hr
 have hpr:1≤z.price∧z.price≤1000000:=hpr.resolve_left hk
 have hbx:Below w.heap.size w (w.alloc (.cells #[.int .i64 z.id,.int .i64 z.side,.int .i64 z.kind,.int .i64 z.price,.int .i64 z.qty] 117)):=(Below.refl _ w).alloc (Nat.le_refl _) _
 have h':=h.below hbx
 obtain⟨n,hn⟩: ∃n,lv.length=n:=⟨_,rfl⟩
 have hn1:n≤99999:=by have:=hs.n;omega
 have y0:=h'.cells.1
 rw[hn]at y0
 obtain⟨w1,hw1⟩: ∃w1,w.alloc (.cells #[.int .i64 z.id,.int .i64 z.side,.int .i64 z.kind,.int .i64 z.price,.int .i64 z.qty] 117)=w1:=⟨_,rfl⟩
 obtain⟨Bx,hBx⟩: ∃Bx,w.heap.size=Bx:=⟨_,rfl⟩
 have hB1:=QJ.new w 117 #[.int .i64 z.id,.int .i64 z.side,.int .i64 z.kind,.int .i64 z.price,.int .i64 z.qty]
 rw[hw1]at hbx h' y0 hB1
 rw[hBx]at hB1
 have hXl:=QJ.lt h'.blk
 have hXB:X<Bx:=by rw[←hBx];exact QJ.lt h.blk
 have hBl:=QJ.lt hB1
 obtain⟨x0,x1,x2,x3,x4⟩:=(show w1.cell? ⟨Bx,0,none⟩=some (.int .i64 z.id)∧w1.cell? ⟨Bx,1,none⟩=some (.int .i64 z.side)∧w1.cell? ⟨Bx,2,none⟩=some (.int .i64 z.kind)∧w1.cell? ⟨Bx,3,none⟩=some (.int .i64 z.price)∧w1.cell? ⟨Bx,4,none⟩=some (.int .i64 z.qty)from⟨by rw[QJ.cell hB1];rfl,by rw[QJ.cell hB1];rfl,by rw[QJ.cell hB1];rfl,by rw[QJ.cell hB1];rfl,by rw[QJ.cell hB1];rfl⟩)
 have hse:=Jo1 z.price 190 #[] A n c lv w1.drew (by rw[←hn];exact ZV.of_row JX (by omega) (h'.below (Below.drew (Below.refl _ _))).row) h.ok.rank (by omega) (Go.Proofs.enters_of Tryz.func190 (by kernel_rfl) rfl)
  (fun W q hm hW=>Xb4 q.1 q.2.1 q.2.2 z.price (by have:=h.ok.pr q hm;unfold Qp3;omega) (by unfold Qp3;omega) W)
 have HSe:=QQ hse
 have t1:=YW hk
 have H:=QQ h
 have HS:=QQ hs
 have Hn:=QQ hn
 have HNb:=QQ (show QZ A≠some Bx from fun e=>by have:=h.row.lt e;omega)
 have HBx:=QQ hbx
 have HB1:=QQ hB1
 have hm1:RowKit.wrap64 (z.qty*q)=z.qty*q:=by rcases hq with rfl|rfl<;>(unfold RowKit.wrap64;omega)
 obtain⟨m,hm⟩: ∃m,z.qty*q=m:=⟨_,rfl⟩
 have hmq:q*z.qty=m:=by rw[←hm,Int.mul_comm]
 replace hm1:RowKit.wrap64 (z.qty*q)=m:=hm1.trans hm
 have Hm:=QQ hmq
 have Hq:=QQ hq
 have Hp:=QQ hp
 have Hsd:=QQ hsd
 have Hq12:=QQ (show 1≤z.qty∧z.qty≤1000000 from⟨hq1,hq2⟩)
 unfold KJ
 clear h h' hs hse hbx hB1 hk hpr hq hp hm hmq hsd hn hq1 hq2
 go_enter Tryz.func156,Tryz.ntmps156
 go_upto_region 1 with fail
 clear hw1 hBx
 go_wp2_with fail
 refine U4 11 (fun W=>W.cell? ⟨X,o,none⟩=some (.slice A n c)∧W.cell? ⟨Bx,3,none⟩=some (.int .i64 z.price)) (by kernel_rfl) ⟨y0,x3⟩ (fun hS=> ?_)
 refine tT 0 (.pointer (some ⟨X,o,none⟩)) ?_
 refine tT 1 (.pointer (some ⟨X,o,none⟩)) ?_
 refine tT 2 (.pointer (some ⟨X,o,none⟩)) ?_
 refine tT 3 (.slice A n c) ?_
 refine tT 4 (.pointer (some ⟨Bx,3,none⟩)) ?_
 refine tT 5 (.int .i64 z.price) ?_
 refine Y0 6 (by kernel_rfl) rfl (fun K1 hK1=> ?_)
 go_simp
 refine HSe.out.mono ?_
 rintro e w2 ⟨hb2,k,hkn,hk1,hk2,rfl⟩
 obtain⟨fb,hfb⟩: ∃fb,Ql9 lv z.price n k=fb:=⟨_,rfl⟩
 rw[hfb]
 have hy0:=(hb2.cell (p:=⟨X,o,none⟩) hXl).trans y0
 have hx3:=(hb2.cell (p:=⟨Bx,3,none⟩) hBl).trans x3
 refine hK1 _ _ ⟨hy0,hx3⟩ (fun hS=> ?_)
 clear hK1
 refine tT 7 (.tuple #[.int .i64 k,.bool fb]) ?_
 refine tT 8 (.int .i64 k) ?_
 refine tT 9 (.bool fb) ?_
 refine tT 10 (.int .i64 k) ?_
 refine Qn9 (by kernel_rfl) rfl (fun K1 hK1=> ?_)
 go_simp
 refine hK1 _ _ (Qn8 (by kernel_rfl) ?_ _)
 clear hK1
 have HB2:=QQ hb2
 clear hb2 hS
 go_upto_if 47 with fail
 obtain⟨⟨lb1,lb2⟩,⟨ls1,ls2⟩⟩:=HS.out.lot H.out.ok z.price
 obtain⟨b0,hb0⟩: ∃b0,(YV lv z.price).1=b0:=⟨_,rfl⟩
 obtain⟨s0,hs0⟩: ∃s0,(YV lv z.price).2=s0:=⟨_,rfl⟩
 have hlot:YV lv z.price=(b0,s0):=by rw[←hb0,←hs0]
 rw[hb0]at lb1 lb2
 rw[hs0]at ls1 ls2
 have HLot:=QQ hlot
 clear hb0 hs0 hlot
 have HW2:=QQ (show Below w.heap.size w w2 from HBx.out.trans ((Below.drew (Below.refl _ w1)).trans (HB2.out.mono HBx.out.size)))
 have HBb2:=QQ (QJ.keep (QJ.drew HB1.out) HB2.out)
 have HFb:=QQ hfb
 have HK1:=QQ hk1
 have HK2:=QQ hk2
 have hXl2:X<w2.heap.size:=Nat.lt_of_lt_of_le (QJ.lt H.out.blk) HW2.out.size
 have HP:=QQ (hpr.resolve_left (fun e=>by rw[Z2 e]at t1;cases t1))
 clear hfb hk1 hk2 HSe HB1 HB2 HBx x0 x1 x2 x3 x4 y0 hXl hBl hpr t1
 go_cut [48] (fun s48 wx=> ∃cs1 A1 c1 lv1,Qe8 w wx X t cs o A lv bu se z.price k cs1 A1 c1 lv1 b0 s0∧QJ wx Bx 117 #[.int .i64 z.id,.int .i64 z.side,.int .i64 z.kind,.int .i64 z.price,.int .i64 z.qty])
 case first=>
  cases fb with
  |true=>
   go_wp2_with fail
   go_meet;obtain⟨hkl,hkp⟩:=Jo0 Hn.out HFb.out;obtain⟨e1,e2⟩:=Qe8.found H.out HW2.out hkl hkp;rw[HLot.out]at e2;obtain⟨rfl,rfl⟩:=Prod.mk.inj e2;exact⟨_,_,_,_,e1,HBb2.out⟩
  |false=>
   have hvb:Below w2.heap.size w2 ((w2.alloc (.cells #[.int .i64 z.price,.int .i64 0,.int .i64 0] 249)).drew):=Below.drew ((Below.refl _ _).alloc (Nat.le_refl _) _);have hM2:=(H.out.below HW2.out).below hvb;have hr2:=hM2.row;rw[Hn.out]at hr2;have hins:=Xq1 ((w2.alloc (.cells #[.int .i64 z.price,.int .i64 0,.int .i64 0] 249)).drew) A n c k lv w2.heap.size (z.price,0,0) hr2 (QJ.drew (QJ.new w2 _ _)) (fun e=>by have:=(H.out.below HW2.out).row.lt e;omega) (by omega) hkn;have HIns:=QQ hins;have HM2:=QQ hM2;have HV2:=QQ hvb;have HBv:=QQ (QJ.keep HBb2.out hvb);have hnn:lv.length=n:=Hn.out;have HNn:=QQ hnn;clear hM2 hvb hr2 hins hnn hS;go_wp2_with fail
   go_region_with (go_at_call 191;refine HIns.out.mono ?_;rintro e w3 ⟨A3,c3,rfl,hI3⟩;have b3:=QJ.keeps HM2.out.blk hI3.2.1 (fun e=>HM2.out.na e);have r0:w3.cell? ⟨X,o,none⟩=some (.slice A n c):=(by rw[QJ.cell b3,←HNn.out];exact HM2.out.c0);have rf0:=QJ.frozen b3 o;have HI3:=QQ hI3;clear hI3 b3)
   all_goals go_wp2_with fail
   all_goals go_meet
   all_goals
    have h3:=HI3.out;have hb3:=QJ.keeps HBv.out h3.2.1 HNb.out;rw[←Hn.out]at h3;obtain⟨e1,e2⟩:=Qe8.new_ H.out (HW2.out.trans (HV2.out.mono HW2.out.size)) (by have:=Hn.out;omega) HK1.out HK2.out (Jh1 Hn.out H.out.ok.rank HFb.out HK1.out HK2.out) h3;rw[Hn.out]at e1;rw[HLot.out]at e2;obtain⟨rfl,rfl⟩:=Prod.mk.inj e2;exact⟨_,_,_,_,e1,QJ.far hb3 (by show Bx≠X;omega) _⟩
 case rest=>
  obtain⟨cs1,A1,c1,lv1,hM,hB⟩:=hcut;obtain⟨hkl,hkv,-⟩:=hM.parts;obtain⟨g,hA1,-⟩:=hM.row.elem JX (by omega) hkl;subst hA1;obtain⟨n1,hn1'⟩: ∃n1,lv1.length=n1:=⟨_,rfl⟩;have y0:wc.cell? ⟨X,o,none⟩=some (.slice (some ⟨g,0,none⟩) n1 c1):=by rw[QJ.cell hM.blk,←hn1'];exact hM.c0
  obtain⟨l0,l1,l2⟩:=Qx4 hM.row hkl;rw[hkv]at l1 l2;dsimp only at l1 l2;have x1:wc.cell? ⟨Bx,1,none⟩=some (.int .i64 z.side):=by rw[QJ.cell hB];rfl
  have hkz:(k:Int)< (n1:Int):=by omega
  have hk0:(0:Int)≤(k:Int):=by omega
  have f1:=hM.row.frozen (k*3+1);have f2:=hM.row.frozen (k*3+2);have HM:=QQ hM;have Hn1:=QQ hn1';have hmq:=Hm.out;have hq12:=Hq12.out;have hmb: -1000000≤m∧m≤1000000:=by rcases Hq.out with rfl|rfl<;>omega
  have hnn:0≤b0+q*dB z∧0≤s0+q*dS z:=by
   have hp:=Hp.out;rw[HLot.out]at hp;unfold dB dS;rcases Hq.out with rfl|rfl
   ·split<;>omega
   ·have hp:=hp rfl
    split at hp<;>(dsimp only at hp;split<;>omega)
  obtain⟨hz1,hz2⟩:=hnn;obtain⟨b',hb'⟩: ∃b',b0+q*dB z=b':=⟨_,rfl⟩;obtain⟨s',hs'⟩: ∃s',s0+q*dS z=s':=⟨_,rfl⟩;rw[hb']at hz1;rw[hs']at hz2;have Hz:=QQ (And.intro hz1 hz2);have Hbs:=QQ (And.intro hb' hs');have Hmq:=QQ hmq;have Hmb:=QQ hmb;clear hM hB l0 hkl hkv hn1' hz1 hz2 hb' hs' hmq hmb hq12 Hq Hp;go_upto_if 69 with fail
  go_cut [70] (fun s70 wx=> ∃lv2,lv2.length=n1∧Qe8 w wx X t cs o A lv bu se z.price k cs1 (some ⟨g,0,none⟩) c1 lv2 b' s')
  case first=>
   rcases Hsd.out with hsd|hsd
   ·have t2:=Z2 hsd
    have i1:RowKit.wrap64 (b0+m)=b0+m:=by have:=Hmb.out;unfold RowKit.wrap64;omega
    have HSd:=QQ hsd;clear hsd l2 f2;go_wp2_with fail
    go_meet;refine⟨_, ?_,HM.out.put 1 (b0+m) (.inl ⟨rfl, ?_, ?_⟩)⟩
    ·rw[List.length_set];exact Hn1.out
    ·have:=Hbs.out.1
     unfold dB at this;rw[if_pos HSd.out,Hmq.out]at this;exact this.symm
    ·have:=Hbs.out.2
     unfold dS at this;rw[if_pos HSd.out]at this;omega
   ·have t2:=YW (show¬z.side=1 by omega)
    have i1:RowKit.wrap64 (s0+m)=s0+m:=by have:=Hmb.out;unfold RowKit.wrap64;omega
    have HSd:=QQ (show¬z.side=1 by omega);clear hsd l1 f1;go_wp2_with fail
    go_meet;refine⟨_, ?_,HM.out.put 2 (s0+m) (.inr ⟨rfl, ?_, ?_⟩)⟩
    ·rw[List.length_set];exact Hn1.out
    ·have:=Hbs.out.1
     unfold dB at this;rw[if_neg HSd.out]at this;omega
    ·have:=Hbs.out.2
     unfold dS at this;rw[if_neg HSd.out,Hmq.out]at this;exact this.symm
  case rest=>
   obtain⟨lv2,hl2,hM2⟩:=hcut;obtain⟨hkl,hkv,-⟩:=hM2.parts;obtain⟨-,l1,l2⟩:=Qx4 hM2.row hkl;rw[hkv]at l1 l2;dsimp only at l1 l2;have HM2:=QQ hM2;have Hl2:=QQ hl2;have hfin: ∀lv':List XJ,(∀p',YV lv' p'=if p'=z.price then(b',s')else YV lv p')→ ∀p',YV lv' p'=if p'=z.price then((YV lv p').1+q*dB z,(YV lv p').2+q*dS z)else YV lv p':=fun lv' h p'=>by
    rw[h p']
    by_cases e:p'=z.price
    ·rw[if_pos e,if_pos e,e,HLot.out,Hbs.out.1,Hbs.out.2]
    ·rw[if_neg e,if_neg e]
   have HFin:=QQ hfin
   by_cases hz1:b'=0
   ·by_cases hz2:s'=0
    ·subst hz1
     subst hz2;have hrow:=hM2.row;rw[hl2]at hrow;have h0z:((0:Int) ==0)=true:=rfl;have hdel:=Xq6 wc g n1 c1 k (k+1) ((k:Int)+1) (by omega) lv2 hrow (by have:=hM2.len;have:=Hn.out;omega) (by omega) (by omega);obtain⟨m2,hm2⟩: ∃m2,k+ (n1- (k+1))=m2:=⟨_,rfl⟩;rw[hm2]at hdel;have y0:wc.cell? ⟨X,o,none⟩=some (.slice (some ⟨g,0,none⟩) n1 c1):=by rw[QJ.cell hM2.blk,←hl2];exact hM2.c0
     have i3:RowKit.wrap64 ((k:Int)+1)=(k:Int)+1:=Kv1 (by have:=Hn.out;omega) hkn;have HDel:=QQ hdel;have Hm2:=QQ (Zd8 hl2 hkl hm2);clear hdel hm2 hrow hM2 hkl hkv hfin;go_wp2_with fail
     refine HDel.out.mono ?_;rintro e w4 ⟨rfl,hr4,hk4⟩
     (have b4:=QJ.keeps HM2.out.blk hk4 (fun e=>HM2.out.na (by rw[e];rfl));have r0:w4.cell? ⟨X,o,none⟩=some (.slice (some ⟨g,0,none⟩) n1 c1):=(by rw[QJ.cell b4,←Hl2.out];exact HM2.out.c0);have rf0:=QJ.frozen b4 o;have HR4:=QQ hr4;have HK4:=QQ hk4;clear hr4 hk4 b4)
     all_goals go_wp2_with fail
     all_goals
      refine bodyPost_end (results_none rfl _ _ _) rfl ?_;obtain⟨lv',h1,h2,h3⟩:=HM2.out.del H.out.ok (Below.refl _ _) Hm2.out HR4.out HK4.out;exact⟨⟨_,rfl⟩,lv',h1,h2,HFin.out lv' h3⟩
    ·have h0z:((0:Int) ==0)=true:=rfl
     have d2:=YW hz2;have Hz2:=QQ hz2;subst hz1;clear hz2 hM2 hkl hkv hfin;go_wp2_with fail
     refine bodyPost_end (results_none rfl _ _ _) rfl ?_;obtain⟨lv',h1,h2,h3⟩:=HM2.out.done H.out.ok HP.out Hz.out.1 Hz.out.2 (fun e=>Hz2.out e.2);exact⟨⟨_,rfl⟩,lv',h1,h2,HFin.out lv' h3⟩
   ·have d1:=YW hz1
    have Hz1:=QQ hz1;clear hz1 hM2 hkl hkv hfin;go_wp2_with fail
    refine bodyPost_end (results_none rfl _ _ _) rfl ?_;obtain⟨lv',h1,h2,h3⟩:=HM2.out.done H.out.ok HP.out Hz.out.1 Hz.out.2 (fun e=>Hz1.out e.1);exact⟨⟨_,rfl⟩,lv',h1,h2,HFin.out lv' h3⟩
def Y2 (l:List XJ) (s:Int):Int:=l.foldl (fun s x=>s+x.2.1) s
def Qn5 (l:List XJ) (s:Int):Int:=l.foldl (fun s x=>s+x.2.2) s
theorem Xd6 (l:List XJ) (x:XJ) (s:Int):Y2 (l++ [x]) s=Y2 l s+x.2.1:=by unfold Y2;rw[List.foldl_append];rfl
theorem Kl4 (l:List XJ) (x:XJ) (s:Int):Qn5 (l++ [x]) s=Qn5 l s+x.2.2:=by unfold Qn5;rw[List.foldl_append];rfl
theorem Jv1 (l:List XJ) (h: ∀x∈l,0≤x.2.1∧x.2.1≤1000000000000): ∀s:Int,s≤Y2 l s∧Y2 l s≤s+1000000000000*l.length:=by
 induction l with
 |nil=>intro s;unfold Y2;simp
 |cons x t ih=>
  intro s;have h1:=h x (by simp);have h2:=ih (fun y hy=>h y (by simp[hy])) (s+x.2.1);unfold Y2 at*;rw[List.foldl_cons,List.length_cons];omega
theorem Xz9 (l:List XJ) (h: ∀x∈l,0≤x.2.2∧x.2.2≤1000000000000): ∀s:Int,s≤Qn5 l s∧Qn5 l s≤s+1000000000000*l.length:=by
 induction l with
 |nil=>intro s;unfold Qn5;simp
 |cons x t ih=>
  intro s;have h1:=h x (by simp);have h2:=ih (fun y hy=>h y (by simp[hy])) (s+x.2.2);unfold Qn5 at*;rw[List.foldl_cons,List.length_cons];omega
structure Je7 (lv:List XJ) (bu se:Int):Prop where
 b:0≤bu∧bu≤1000000000000
 s:0≤se∧se≤1000000000000
 lb: ∀x∈lv,0≤x.2.1∧x.2.1≤1000000000000
 ls: ∀x∈lv,0≤x.2.2∧x.2.2≤1000000000000
 n:lv.length≤99999
theorem Je7.b_bound {lv:List XJ} {bu se:Int} (h:Je7 lv bu se) (k:Nat):0≤Y2 (lv.take k) bu∧Y2 (lv.take k) bu≤200000000000000000:=by
 have h1:=Jv1 (lv.take k) (fun x hx=>h.lb x (List.mem_of_mem_take hx)) bu
 have h2:=h.n
 have h3:=h.b
 have h4:=List.length_take_le' k lv
 omega
theorem Je7.s_bound {lv:List XJ} {bu se:Int} (h:Je7 lv bu se) (k:Nat):0≤Qn5 (lv.take k) se∧Qn5 (lv.take k) se≤200000000000000000:=by
 have h1:=Xz9 (lv.take k) (fun x hx=>h.ls x (List.mem_of_mem_take hx)) se
 have h2:=h.n
 have h3:=h.s
 have h4:=List.length_take_le' k lv
 omega
def ptT (more:Int) (told:Bool) (x:XJ):Bool:=told ||decide (more≤x.1)
def ptO (more d s:Int) (told:Bool) (x:XJ) (out:List XJ):List XJ:=if told=false∧more<x.1 then out++ [(more,d,s)]else out
structure PtS where
 d:Int
 s:Int
 told:Bool
 out:List XJ
def ptF (more:Int) (s:PtS) (x:XJ):PtS:=⟨s.d-x.2.1,s.s+x.2.2,ptT more s.told x,ptO more s.d s.s s.told x s.out++ [(x.1,s.d,s.s+x.2.2)]⟩
def ptS (lv:List XJ) (bu se more:Int) (l:List XJ):PtS:=l.foldl (ptF more) ⟨Y2 lv bu,se,decide (more<1),[]⟩
def Q8 (lv:List XJ) (bu se more:Int):List XJ:=let s:=ptS lv bu se more lv;if s.told=false then s.out++ [(more,s.d,s.s)]else s.out
theorem Xr4 (lv:List XJ) (bu se more:Int) (l:List XJ) (x:XJ):ptS lv bu se more (l++ [x])=ptF more (ptS lv bu se more l) x:=by unfold ptS;rw[List.foldl_append];rfl
theorem Zh0 (lv:List XJ) (bu se more:Int) (l:List XJ):(ptS lv bu se more l).d=Y2 lv bu- (Y2 l 0):=by
 have key: ∀(l:List XJ) (s:PtS),(l.foldl (ptF more) s).d=s.d-Y2 l 0:=by
  intro l
  induction l with
  |nil=>intro s;unfold Y2;simp
  |cons x t ih=>
   intro s;rw[List.foldl_cons,ih];have h0: ∀(t:List XJ) (a:Int),Y2 t a=a+Y2 t 0:=by
    intro t
    induction t with
    |nil=>intro a;unfold Y2;simp
    |cons y u ih2=>
     intro a;have e1:=ih2 (a+y.2.1);have e2:=ih2 (0+y.2.1);unfold Y2 at*;rw[List.foldl_cons,List.foldl_cons,e1,e2];omega
   have h1:=h0 t (0+x.2.1);have h2:Y2 (x::t) 0=Y2 t (0+x.2.1):=rfl;rw[h2,h1];show s.d-x.2.1-_=_;omega
 exact key l _
theorem Kv2 (lv:List XJ) (bu se more:Int) (l:List XJ):(ptS lv bu se more l).s=Qn5 l se:=by
 have key: ∀(l:List XJ) (s:PtS),(l.foldl (ptF more) s).s=Qn5 l s.s:=by
  intro l
  induction l with
  |nil=>intro s;rfl
  |cons x t ih=>intro s;rw[List.foldl_cons,ih];rfl
 exact key l _
theorem Je7.ptd {lv:List XJ} {bu se:Int} (h:Je7 lv bu se) (more:Int) (k:Nat): -300000000000000000≤(ptS lv bu se more (lv.take k)).d∧(ptS lv bu se more (lv.take k)).d≤300000000000000000:=by
 rw[Zh0]
 have h1:=h.b_bound lv.length
 rw[List.take_length]at h1
 have h2:=Jv1 (lv.take k) (fun x hx=>h.lb x (List.mem_of_mem_take hx)) 0
 have h3:=h.n
 have h4:=List.length_take_le' k lv
 omega
theorem Je7.pts {lv:List XJ} {bu se:Int} (h:Je7 lv bu se) (more:Int) (k:Nat):0≤(ptS lv bu se more (lv.take k)).s∧(ptS lv bu se more (lv.take k)).s≤300000000000000000:=by
 rw[Kv2]
 have h1:=h.s_bound k
 omega
theorem Kv3:(Tryz.prog.info? 241).map (fun i=>(i.zero,i.size,i.bytes))=some (some (.agg #[.int .i64 0,.int .i64 0,.int .i64 0]),3,24):=by kernel_rfl
theorem Ka0 (w:World) (X:Nat) (t:TypeId) (cs:Array Value) (o:Nat) (A:Option Addr) (c:Nat) (lv:List XJ) (bu se:Int) (h:Qi4 w X t cs o A c lv bu se) (hs:Je7 lv bu se) (more:Int):
  Calls Tryz.prog 123 #[.pointer (some ⟨X,o,none⟩),.int .i64 more] w fun e w'=>Below w.heap.size w w'∧ ∃A' c',e= .returned (.slice A' (Q8 lv bu se more).length c')∧QW w' A' (Q8 lv bu se more).length c' 241 3 (JQ KW (Q8 lv bu se more)):=by
 obtain⟨y0,y1,y2⟩:=h.cells
 obtain⟨n,hn⟩: ∃n,lv.length=n:=⟨_,rfl⟩
 rw[hn]at y0
 have hr:=h.row
 rw[hn]at hr
 have hXl:=QJ.lt h.blk
 have H:=QQ h
 have HR:=QQ hr
 have HN:=QQ hn
 have HS:=QQ hs
 have hn1:n≤99999:=by have:=hs.n;omega
 clear h hr hn hs
 go_enter Tryz.func123,Tryz.ntmps123
 go_wp2_with fail
 go_region
 go_wp2_with fail
 go_loopg [5,26] n (fun gg s5 s26 wx=> ∃k:Nat,k≤n∧gg=n-k∧s26= .int .i64 k∧s5= .int .i64 (Y2 (lv.take k) bu)∧Below w.heap.size w wx)
 case atStart=>exact⟨0,Nat.zero_le _,rfl,rfl,rfl,by first|exact Below.drew (Below.refl _ _)|exact Below.refl _ _⟩
 case round=>
  obtain⟨k,hk,rfl,rfl,rfl,hB⟩:=hrel
  by_cases hlt:k<n
  ·have hkl:k<lv.length:=by have:=HN.out;omega
   obtain⟨g,hA,-⟩:=HR.out.elem JX (by omega) hkl;subst hA;obtain⟨x0,x1,x2⟩:=Qx4 (HR.out.below hB) hkl;have hltz:(k:Int)< (n:Int):=by omega
   have hk0:(0:Int)≤(k:Int):=by omega
   have HT:=QQ (List.take_succ_eq_append_getElem hkl);have hb1:=HS.out.b_bound k;have hb2:=HS.out.b_bound (k+1);rw[HT.out,Xd6]at hb2;have hi1:RowKit.wrap64 (Y2 (lv.take k) bu+lv[k].2.1)=Y2 (lv.take k) bu+lv[k].2.1:=by unfold RowKit.wrap64;omega
   have HI:Hid (Y2 (lv.take (k+1)) bu=Y2 (lv.take k) bu+lv[k].2.1):=QQ (by rw[HT.out,Xd6]);have HB:=QQ (hB.alloc hB.size (.cells #[.int .i64 lv[k].1,.int .i64 lv[k].2.1,.int .i64 lv[k].2.2] 249));generalize Y2 (lv.take k) bu=S at hi1 HI⊢;generalize lv[k].1=q0 at x0 HB;generalize lv[k].2.1=q1 at x1 hi1 HI HB;generalize lv[k].2.2=q2 at x2 HB;clear hb1 hb2 hB;go_wp2_with fail
   go_roundg (n- (k+1))
   case measure=>omega
   case rel=>exact⟨k+1,by omega,rfl,by go_num,by rw[HI.out];first|rfl|rw[hi1],HB.out⟩
  ·obtain rfl:n=k:=by omega
   have hltz: ¬(n:Int)< (n:Int):=by omega
   have etk:lv.take n=lv:=List.take_of_length_le (by rw[HN.out];exact Nat.le_refl _);rw[etk];have hD:Y2 lv bu=(ptS lv bu se more []).d:=rfl;rw[hD];obtain⟨wo,rfl⟩: ∃wo:World,wo=wr:=⟨_,rfl⟩;have y0':=(hB.cell (p:=⟨X,o,none⟩) hXl).trans y0;have HB:=QQ hB;obtain⟨tb,htb⟩: ∃tb,decide (more<1)=tb:=⟨_,rfl⟩;have HTb:=QQ (show tb=(ptS lv bu se more []).told from htb.symm);clear hB etk hD y1 y2;go_wp2_with fail
   obtain⟨i0,hi0,hz0,hz1,hz2⟩:=info_parts Kv3
   go_loopg [5,6,9,10,42] n (fun gg s5 s6 s9 s10 s42 wx=> ∃(k:Nat) (A9:Option Addr) (n9 c9:Nat),k≤n∧gg=n-k∧s42= .int .i64 k∧s5= .int .i64 (ptS lv bu se more (lv.take k)).d∧s6= .int .i64 (ptS lv bu se more (lv.take k)).s∧s10= .bool (ptS lv bu se more (lv.take k)).told∧s9= .slice A9 n9 c9∧n9≤2*k∧Below wo.heap.size wo wx∧QW wx A9 n9 c9 241 3 (JQ KW (ptS lv bu se more (lv.take k)).out)∧ ∀g,QZ A9=some g→wo.heap.size≤g)
   case atStart=>exact⟨0,none,0,0,Nat.zero_le _,rfl,rfl,rfl,rfl,by rw[HTb.out];rfl,rfl,Nat.le_refl _,Below.refl _ _,World.ownsRow_nil _ _ _ _,by simp[QZ]⟩
   case round=>
    obtain⟨j,A9,n9,c9,hj,rfl,rfl,rfl,rfl,rfl,rfl,hn9,hB,hR9,hup⟩:=hrel;have dd0:=HS.out.ptd more j;have ss0:=HS.out.pts more j;have hdr: ∀b:Bool,b=true∨b=false:=fun b=>by cases b<;>simp
    by_cases hlt2:j<n
    ·have hkl:j<lv.length:=by have:=HN.out;omega
     obtain⟨g,hA,-⟩:=HR.out.elem JX (by omega) hkl;subst hA;obtain⟨x0,x1,x2⟩:=Qx4 (HR.out.below (HB.out.trans (hB.mono HB.out.size))) hkl;have hltz2:(j:Int)< (n:Int):=by omega
     have hk0:(0:Int)≤(j:Int):=by omega
     have HT:=QQ (List.take_succ_eq_append_getElem hkl);have HP:=QQ (show ptS lv bu se more (lv.take (j+1))=ptF more (ptS lv bu se more (lv.take j)) lv[j] by rw[HT.out,Xr4]);have dd1:=HS.out.ptd more (j+1);have ss1:=HS.out.pts more (j+1);rw[HP.out]at dd1 ss1;obtain⟨⟨d,su,td,out⟩,E⟩: ∃st,Hid (ptS lv bu se more (lv.take j)=st):=⟨_,QQ rfl⟩;rw[E.out]at dd0 ss0 dd1 ss1 hR9 HP⊢;dsimp only at dd0 ss0 hR9⊢;unfold ptF at dd1 ss1;dsimp only at dd1 ss1;obtain⟨⟨q0,q1,q2⟩,EQ⟩: ∃q,Hid (lv[j]=q):=⟨_,QQ rfl⟩;rw[EQ.out]at x0 x1 x2 dd1 ss1 HP;dsimp only at x0 x1 x2 dd1 ss1;have i1:RowKit.wrap64 (su+q2)=su+q2:=by unfold RowKit.wrap64;omega
     have i2:RowKit.wrap64 (d-q1)=d-q1:=by unfold RowKit.wrap64;omega
     obtain⟨w1,hw1⟩: ∃w1,wr.alloc (.cells #[.int .i64 q0,.int .i64 q1,.int .i64 q2] 249)=w1:=⟨_,rfl⟩;obtain⟨bx,hbx⟩: ∃bx,wr.heap.size=bx:=⟨_,rfl⟩;have hX1:=QJ.new wr 249 #[.int .i64 q0,.int .i64 q1,.int .i64 q2];have hb1:=hB.alloc hB.size (.cells #[.int .i64 q0,.int .i64 q1,.int .i64 q2] 249);have hr1:=hR9.below ((Below.refl _ wr).alloc (Nat.le_refl _) (.cells #[.int .i64 q0,.int .i64 q1,.int .i64 q2] 249));rw[hw1]at hX1 hb1 hr1;rw[hbx]at hX1;have hbxo:wo.heap.size≤bx:=by rw[←hbx];exact hB.size
     have hbnA:QZ A9≠some bx:=fun e=>by have h2:=hR9.lt e;omega
     have HX1:=QQ hX1;have HB1:=QQ hb1;have HR1:=QQ hr1;have HUp:=QQ hup;have HJ:=QQ hn9;have b0:w1.cell? ⟨bx,0,none⟩=some (.int .i64 q0):=by rw[QJ.cell hX1];rfl
     clear dd0 ss0 dd1 ss1 hX1 hb1 hr1 hR9 hup hB hn9 y0';obtain⟨cb,hcb⟩: ∃cb,(!td &&decide (more≤q0))=cb:=⟨_,rfl⟩;go_upto_region 12 with fail
     clear hw1 hbx x0 x1 x2
     go_cut [53] (fun s53 wx=>s53= .bool cb∧wx=w1)
     case first=>
      cases td with
      |true=>
       have HE:=QQ (show false=cb by rw[←hcb];rfl);clear hcb;go_wp2_with fail
       go_meet;exact⟨by rw[HE.out],rfl⟩
      |false=>
       by_cases m1:more≤q0
       ·have d1:=J0 m1
        have HE:=QQ (show true=cb by rw[←hcb,d1];rfl);clear hcb m1;go_wp2_with fail
        go_meet;exact⟨by rw[HE.out],rfl⟩
       ·have d1:=OY m1
        have HE:=QQ (show false=cb by rw[←hcb,d1];rfl);clear hcb m1;go_wp2_with fail
        go_meet;exact⟨by rw[HE.out],rfl⟩
     case rest=>
      obtain⟨rfl,rfl⟩:=hcut;obtain⟨w1,rfl⟩: ∃w1:World,w1=wc:=⟨_,rfl⟩;have HCb:=QQ hcb;clear hcb;go_upto_if 53 with fail
      go_cut [9,10] (fun s9 s10 wx=> ∃(A1:Option Addr) (n1 c1:Nat),s9= .slice A1 n1 c1∧s10= .bool (ptT more td (q0,q1,q2))∧n1≤2*j+1∧Below wo.heap.size wo wx∧QW wx A1 n1 c1 241 3 (JQ KW (ptO more d su td (q0,q1,q2) out))∧(∀g,QZ A1=some g→wo.heap.size≤g∧g≠bx)∧QJ wx bx 249 #[.int .i64 q0,.int .i64 q1,.int .i64 q2])
      case first=>
       cases cb with
       |false=>
        have HE1:=QQ (show ptT more td (q0,q1,q2)=td by unfold ptT;have:=HCb.out;cases td<;>simp at this⊢;exact this);have HE2:=QQ (show ptO more d su td (q0,q1,q2) out=out by unfold ptO;rw[if_neg];rintro⟨rfl,h2⟩;have:=HCb.out;simp at this;dsimp only at h2;omega);go_wp2_with fail
        go_meet;exact⟨A9,n9,c9,rfl,by rw[HE1.out],by have:=HJ.out;omega,HB1.out,by rw[HE2.out];exact HR1.out,fun g hg=>⟨HUp.out g hg,fun e=>hbnA (by rw[hg,e])⟩,HX1.out⟩
       |true=>
        obtain⟨rfl,hmq⟩:td=false∧more≤q0:=by have:=HCb.out;cases td<;>simp at this;exact⟨rfl,this⟩
        have HE1:=QQ (show ptT more false (q0,q1,q2)=true by unfold ptT;simp;exact hmq)
        by_cases m2:more<q0
        ·have d2:=J0 m2
         have HE2:=QQ (show ptO more d su false (q0,q1,q2) out=out++ [(more,d,su)] by unfold ptO;rw[if_pos ⟨rfl,m2⟩]);have HOa:=QQ (show World.ownsRow (w1.alloc (.cells #[.int .i64 more,.int .i64 d,.int .i64 su] 241)) 0 241 3 (.slice A9 n9 c9) n9 (JQ KW out)from HR1.out.below ((Below.refl _ w1).alloc (Nat.le_refl _) _));have HNWa:=QQ (heap_alloc_new w1 (.cells #[.int .i64 more,.int .i64 d,.int .i64 su] 241));have hxb:=QJ.alloc HX1.out (.cells #[.int .i64 more,.int .i64 d,.int .i64 su] 241);have HXb:=QQ hxb;have hbxl:=QJ.lt HX1.out;have HBa:=QQ (HB1.out.alloc HB1.out.size (.cells #[.int .i64 more,.int .i64 d,.int .i64 su] 241));have hn9':n9≤300000:=by have:=HJ.out;omega
         have hsz1:=HB1.out.size;clear m2 hmq hxb;go_wp2_with (at_builtin;(refine wpList_append_lies _ rfl _ _ 191 rfl 0 241 i0 _ 3 24 Tryz.underlying191 hi0 hz0 hz1 hz2 rfl (by omega) (.slice A9 n9 c9) n9 _ rfl HOa.out ⟨w1.heap.size,0,none⟩ 1 1 (KW (more,d,su)) rfl rfl (World.news_of_block (cs:=(KW (more,d,su)).toArray) (t:=241) (fr:=(0,0)) HNWa.out) (Qc9 _) (by omega) (by unfold maxLen;omega) (by omega) (by simp) (w1.heap.size+1) (by simp) ?_);intro gg cap w3 hown hgrow hat hlt3;have HOw:=QQ hown;have HGr:=QQ hgrow;have HAt:=QQ hat;clear hown hgrow hat)
         go_meet;have hat:=HAt.out;rw[JW]at hat;refine⟨some ⟨gg,0,none⟩,n9+1,cap,rfl,by rw[HE1.out],by have:=HJ.out;omega,HBa.out.grown HGr.out (by simp;omega) (fun x hx=>HUp.out x (by rw[←JW A9 n9 c9];exact hx)), ?_,fun g hg=> ?_,QJ.grown HXb.out HGr.out (by rw[JW];exact fun e=>hbnA e.symm)⟩
         ·rw[HE2.out,Y7];exact HOw.out
         ·cases hg
          rcases hat with h1|h1
          ·exact⟨HUp.out _ h1,fun e=>hbnA (by rw[h1];exact congrArg some e)⟩
          ·exact⟨by show wo.heap.size≤gg;omega,by show gg≠bx;omega⟩
        ·have d2:=OY m2
         have HE2:=QQ (show ptO more d su false (q0,q1,q2) out=out by unfold ptO;rw[if_neg];rintro⟨-,h2⟩;exact m2 h2);clear m2 hmq;go_wp2_with fail
         go_meet;exact⟨A9,n9,c9,rfl,by rw[HE1.out],by have:=HJ.out;omega,HB1.out,by rw[HE2.out];exact HR1.out,fun g hg=>⟨HUp.out g hg,fun e=>hbnA (by rw[hg,e])⟩,HX1.out⟩
      case rest=>
       obtain⟨A1,n1,c1,rfl,rfl,hn1',hB2,hR2,hup2,hX2⟩:=hcut;obtain⟨w2,rfl⟩: ∃w2:World,w2=wc:=⟨_,rfl⟩;have c1':w2.cell? ⟨bx,1,none⟩=some (.int .i64 q1):=by rw[QJ.cell hX2];rfl
       have c2':w2.cell? ⟨bx,2,none⟩=some (.int .i64 q2):=by rw[QJ.cell hX2];rfl
       have c0':w2.cell? ⟨bx,0,none⟩=some (.int .i64 q0):=by rw[QJ.cell hX2];rfl
       have HR2:=QQ hR2;have HB2:=QQ hB2;have HUp2:=QQ hup2;have HX2:=QQ hX2;have hbxl:=QJ.lt hX2;have HOb:=QQ (show World.ownsRow (w2.alloc (.cells #[.int .i64 q0,.int .i64 d,.int .i64 (su+q2)] 241)) 0 241 3 (.slice A1 n1 c1) n1 (JQ KW (ptO more d su td (q0,q1,q2) out))from HR2.out.below ((Below.refl _ w2).alloc (Nat.le_refl _) _));have HNWb:=QQ (heap_alloc_new w2 (.cells #[.int .i64 q0,.int .i64 d,.int .i64 (su+q2)] 241));have HBb:=QQ (HB2.out.alloc HB2.out.size (.cells #[.int .i64 q0,.int .i64 d,.int .i64 (su+q2)] 241));have hne:some bx≠(Value.slice A1 n1 c1).ownBlock:=by rw[JW];exact fun e=>(hup2 bx e.symm).2 rfl
       have hc1:(w2.alloc (.cells #[.int .i64 q0,.int .i64 d,.int .i64 (su+q2)] 241)).cell? ⟨bx,1,none⟩=some (.int .i64 q1):=by rw[QJ.cell (QJ.alloc hX2 _)];rfl
       have hsz1:=hB2.size;have hn1'':n1≤300000:=by omega
       have HN1:=QQ hn1';clear b0 hR2 hB2 hup2 hX2 hn1';go_wp2_with (at_builtin;(refine wpList_append_lies _ rfl _ _ 191 rfl 0 241 i0 _ 3 24 Tryz.underlying191 hi0 hz0 hz1 hz2 rfl (by omega) (.slice A1 n1 c1) n1 _ rfl HOb.out ⟨w2.heap.size,0,none⟩ 1 1 (KW (q0,d,su+q2)) rfl rfl (World.news_of_block (cs:=(KW (q0,d,su+q2)).toArray) (t:=241) (fr:=(0,0)) HNWb.out) (Qc9 _) (by omega) (by unfold maxLen;omega) (by omega) (by simp) (w2.heap.size+1) (by simp) ?_);intro gg cap w3 hown hgrow hat hlt3;have zz1:=hgrow.cell hc1 hne;have HOw:=QQ hown;have HGr:=QQ hgrow;have HAt:=QQ hat;clear hown hgrow hat)
       go_roundg (n- (j+1))
       case measure=>omega
       case rel=>
        have hat:=HAt.out;rw[JW]at hat;refine⟨j+1,some ⟨gg,0,none⟩,n1+1,cap,by omega,rfl,by go_num,by rw[HP.out,i2];rfl,by rw[HP.out];rfl,by rw[HP.out];rfl,rfl,by have:=HN1.out;omega,HBb.out.grown HGr.out (by simp;omega) (fun x hx=>(HUp2.out x (by rw[←JW A1 n1 c1];exact hx)).1), ?_,fun g hg=> ?_⟩
        ·rw[HP.out]
         show QW _ _ _ _ _ _ (JQ KW (ptO more d su td (q0,q1,q2) out++ [(q0,d,su+q2)]));rw[Y7];exact HOw.out
        ·cases hg
         rcases hat with h1|h1
         ·exact(HUp2.out _ h1).1
         ·show wo.heap.size≤gg;omega
    ·obtain rfl:n=j:=by omega
     have hltz2: ¬(n:Int)< (n:Int):=by omega
     have etk:lv.take n=lv:=List.take_of_length_le (by rw[HN.out];exact Nat.le_refl _);rw[etk]at hR9 dd0 ss0⊢;have HPt:Hid (Q8 lv bu se more=if(ptS lv bu se more lv).told=false then(ptS lv bu se more lv).out++ [(more,(ptS lv bu se more lv).d,(ptS lv bu se more lv).s)]else(ptS lv bu se more lv).out):=QQ rfl;obtain⟨⟨d,su,td,out⟩,E⟩: ∃st,Hid (ptS lv bu se more lv=st):=⟨_,QQ rfl⟩;rw[E.out]at dd0 ss0 hR9 HPt⊢;dsimp only at dd0 ss0 hR9 HPt⊢;obtain⟨w1,rfl⟩: ∃w1:World,w1=wr:=⟨_,rfl⟩;have HR1:=QQ hR9;have HB1:=QQ hB;have HUp:=QQ hup;have hsz1:=hB.size
     cases td with
     |true=>
      rw[if_neg (by simp)]at HPt;have hl:=V0 JX (by omega) hR9;have HL:=QQ hl;clear hR9 hB hup hl;go_wp2_with fail
      refine bodyPost_ret (results_tmp rfl _ _ _) rfl ?_;rw[HPt.out,HL.out];exact⟨HB.out.trans (HB1.out.mono HB.out.size),A9,c9,rfl,HR1.out⟩
     |false=>
      rw[if_pos rfl]at HPt;have hl:=V0 JX (by omega) hR9;have HL:Hid ((out++ [(more,d,su)]).length=n9+1):=QQ (by simp[hl]);have HOa:=QQ (show World.ownsRow (w1.alloc (.cells #[.int .i64 more,.int .i64 d,.int .i64 su] 241)) 0 241 3 (.slice A9 n9 c9) n9 (JQ KW out)from HR1.out.below ((Below.refl _ w1).alloc (Nat.le_refl _) _));have HNWa:=QQ (heap_alloc_new w1 (.cells #[.int .i64 more,.int .i64 d,.int .i64 su] 241));have HBa:=QQ (HB1.out.alloc HB1.out.size (.cells #[.int .i64 more,.int .i64 d,.int .i64 su] 241));clear hR9 hB hup hl;go_wp2_with (at_builtin;(refine wpList_append_lies _ rfl _ _ 191 rfl 0 241 i0 _ 3 24 Tryz.underlying191 hi0 hz0 hz1 hz2 rfl (by omega) (.slice A9 n9 c9) n9 _ rfl HOa.out ⟨w1.heap.size,0,none⟩ 1 1 (KW (more,d,su)) rfl rfl (World.news_of_block (cs:=(KW (more,d,su)).toArray) (t:=241) (fr:=(0,0)) HNWa.out) (Qc9 _) (by omega) (by unfold maxLen;omega) (by omega) (by simp) (w1.heap.size+1) (by simp) ?_);intro gg cap w3 hown hgrow hat hlt3;have HOw:=QQ hown;have HGr:=QQ hgrow;have HAt:=QQ hat;clear hown hgrow hat)
      refine bodyPost_ret (results_tmp rfl _ _ _) rfl ?_;rw[HPt.out,HL.out];refine⟨HB.out.trans ((HBa.out.grown HGr.out (by simp;omega) (fun x hx=>HUp.out x (by rw[←JW A9 n9 c9];exact hx))).mono HB.out.size),_,_,rfl, ?_⟩;rw[Y7];exact HOw.out
end Go.Proofs.YtbmiieehkkfbgaaGreatDoor
