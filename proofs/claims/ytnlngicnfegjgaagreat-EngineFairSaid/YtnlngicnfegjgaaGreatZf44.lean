/- Contracts and walks that the law's proof needs. -/
import Derived.WalkKit
import Derived.WalkLawsBesides
import Derived.WalkSpells
import Derived.StillTailTactics
import Derived.Deep.QuietTactic
import Derived.BigQuiet
import Derived.BigRegion
import Derived.Deep.DeepCutAuto
import Derived.Deep.CutBlock
import Derived.Test.YtnlngicnfegjgaaGreatZf43
import Derived.Test.YtnlngicnfegjgaaGreatZf38
import Derived.Test.YtnlngicnfegjgaaGreatZf39
set_option linter.unusedVariables false
set_option maxRecDepth 100000
set_option maxHeartbeats 8000000
namespace Go.Proofs.YtnlngicnfegjgaaGreat
open Go.RowKit
theorem Xh9 {w:World} {e:Nat} {F:Nat→Prop} {m:ZX} (h:UY w e F m) (hI:Qj4 m):
  Calls Tryz.prog 25 #[.pointer (some ⟨e,0,none⟩)] w fun ev w'=>VQ w w' e F (Qb2 m) (OV m) ev:=by
 have hE:=h
 obtain⟨cs,tb,bb,bk,im,T,tc,Al,lc,lv,bu,se,Ap,pc,es,mc,G,own,hM,hF⟩:=h
 have c7:=hM.cell hM.ec.c7
 have HM:=QQ hM
 have HF:=QQ hF
 have HI:=QQ hI
 have HE:=QQ hE
 obtain⟨⟨t0,t1,t2⟩,ht⟩: ∃q,YW m=q:=⟨_,rfl⟩
 have HT:=QQ ht
 have hw2:=fun W hW=>Xc2 hM hI.la W hW
 rw[ht]at hw2
 unfold Qv2 at hw2
 dsimp only at hw2
 have HW:=QQ hw2
 clear hM hF hw2 ht hE hI
 go_enter Tryz.func25,Tryz.ntmps25
 go_upto_region 1 with fail
 go_cut [3] (fun s3 wx=> ∃g,s3= .pointer (some ⟨g,0,none⟩)∧QJ wx g 114 #[.int .i64 t0,.int .i64 t1,.int .i64 t2]∧Below w.heap.size w wx∧w.heap.size≤g)
 case first=>
  have HBd:=QQ HM.out.bands;have hb0:Below w.heap.size w w.drew:=Below.drew (Below.refl _ _);refine XK (fun t=> [10].contains t) (fun W=>W.cell? ⟨e,7,none⟩=some (.pointer (some ⟨bb,0,none⟩))) (by kernel_rfl) (show w.drew.cell? ⟨e,7,none⟩=some (.pointer (some ⟨bb,0,none⟩))from c7) (fun hS0=> ?_);obtain⟨w0,ew0⟩: ∃W,w.drew=W:=⟨_,rfl⟩;rw[ew0]at hb0 hS0⊢;clear ew0;refine tM 0 (.pointer (some ⟨e,0,none⟩)) ?_;refine tM 1 (.pointer (some ⟨e,0,none⟩)) ?_;refine tM 2 (.pointer (some ⟨e,9,none⟩)) ?_;refine tM 3 (.pointer (some ⟨e,0,none⟩)) ?_;refine tM 4 (.pointer (some ⟨e,0,none⟩)) ?_;refine tM 5 (.pointer (some ⟨e,7,none⟩)) ?_;refine tM 6 (.pointer (some ⟨bb,0,none⟩)) ?_;refine Jk8 (i:=7) (j:=9) (by kernel_rfl) ?_ ?_
  ·skip
   refine opM 7 rfl (fun K1 hK1=> ?_);go_simp
   go_at_call 32
   refine(Qx4 bb m.st m.dy m.an m.la _ (QJ.keep HBd.out hb0)).mono ?_;rintro ev wx ⟨rfl,rfl⟩;refine hK1 _ _ (fun _=>hS0) ?_;clear hK1;refine Jk8 (i:=8) (j:=9) (by kernel_rfl) ?_ ?_
   ·skip
    refine opM 8 rfl (fun K2 hK2=> ?_);go_simp
    go_at_call 44
    refine(HW.out _ hb0).mono ?_;rintro ev w2 ⟨rfl,hq2⟩;have hb2:=hb0.trans (hq2.mono hb0.size);have hS2:=QZ hS0 hq2;refine hK2 _ _ (fun _=>hS2) ?_;clear hK2;refine oM 9 fun K3 hK3=> ?_
    go_simp;have hq3:Below w2.heap.size w2 (w2.alloc (.cells #[.int .i64 0,.int .i64 0,.int .i64 0] 114)):=(Below.refl _ _).alloc (Nat.le_refl _) _;have hx3:=QJ.new w2 114 #[.int .i64 0,.int .i64 0,.int .i64 0];have hg3:w.heap.size≤w2.heap.size:=hb2.size;obtain⟨g3,eg3⟩: ∃g,w2.heap.size=g:=⟨_,rfl⟩;obtain⟨w3,ew3⟩: ∃W,w2.alloc (.cells #[.int .i64 0,.int .i64 0,.int .i64 0] 114)=W:=⟨_,rfl⟩;rw[ew3]at hq3 hx3⊢;have hb3:=hb2.trans (hq3.mono hb2.size);have hS3:=QZ hS2 hq3;rw[eg3]at hx3 hg3⊢;clear ew3 eg3;refine hK3 _ _ (fun _=>hS3) ?_;clear hK3;refine oM 10 fun K4 hK4=> ?_
    refine(if_pos (by rfl)).mpr ?_;refine wp_store_row 114 _ _ rfl (g3) #[.int .i64 t0,.int .i64 t1,.int .i64 t2] rfl rfl 114 #[.int .i64 0,.int .i64 0,.int .i64 0] hx3 (by show(Tryz.prog.info? 114).map (·.size)=some 3;kernel_rfl) rfl (by simp[Value.oneCell']) ?_;have hx4:=QJ.setRow _ _ _ #[.int .i64 t0,.int .i64 t1,.int .i64 t2] _ hx3;have hk4:=QK.setRow w3 (g3) #[.int .i64 t0,.int .i64 t1,.int .i64 t2];obtain⟨w4,ew4⟩: ∃W,w3.setRow (g3) #[.int .i64 t0,.int .i64 t1,.int .i64 t2]=W:=⟨_,rfl⟩;rw[ew4]at hx4 hk4⊢;clear ew4;refine hK4 _ _ (fun e=>absurd e (by decide)) ?_;clear hK4;have hb4:=hb3.trans (hk4.below (fun i e=>e▸hg3) hb3.size);simp only[Act.put];refine ZK (by kernel_rfl) ?_ _;go_wp2_with fail
    go_meet;exact⟨_,rfl,hx4,hb4,hg3⟩
   ·skip
    refine opM 9 rfl (fun K5 hK5=> ?_);go_simp;have hq5:Below w0.heap.size w0 (w0.alloc (.cells #[.int .i64 0,.int .i64 0,.int .i64 0] 114)):=(Below.refl _ _).alloc (Nat.le_refl _) _;have hx5:=QJ.new w0 114 #[.int .i64 0,.int .i64 0,.int .i64 0];have hg5:w.heap.size≤w0.heap.size:=hb0.size;obtain⟨g5,eg5⟩: ∃g,w0.heap.size=g:=⟨_,rfl⟩;obtain⟨w5,ew5⟩: ∃W,w0.alloc (.cells #[.int .i64 0,.int .i64 0,.int .i64 0] 114)=W:=⟨_,rfl⟩;rw[ew5]at hq5 hx5⊢;have hb5:=hb0.trans (hq5.mono hb0.size);have hS5:=QZ hS0 hq5;rw[eg5]at hx5 hg5⊢;clear ew5 eg5;refine hK5 _ _ (fun _=>hS5) ?_;clear hK5;refine oM 8 fun K6 hK6=> ?_
    go_simp
    go_at_call 44
    refine(HW.out _ hb5).mono ?_;rintro ev w6 ⟨rfl,hq6⟩;have hb6:=hb5.trans (hq6.mono hb5.size);have hS6:=QZ hS5 hq6;refine hK6 _ _ (fun _=>hS6) ?_;clear hK6;have hy5:=QJ.keep hx5 hq6;refine oM 10 fun K7 hK7=> ?_
    refine(if_pos (by rfl)).mpr ?_;refine wp_store_row 114 _ _ rfl (g5) #[.int .i64 t0,.int .i64 t1,.int .i64 t2] rfl rfl 114 #[.int .i64 0,.int .i64 0,.int .i64 0] hy5 (by show(Tryz.prog.info? 114).map (·.size)=some 3;kernel_rfl) rfl (by simp[Value.oneCell']) ?_;have hx7:=QJ.setRow _ _ _ #[.int .i64 t0,.int .i64 t1,.int .i64 t2] _ hy5;have hk7:=QK.setRow w6 (g5) #[.int .i64 t0,.int .i64 t1,.int .i64 t2];obtain⟨w7,ew7⟩: ∃W,w6.setRow (g5) #[.int .i64 t0,.int .i64 t1,.int .i64 t2]=W:=⟨_,rfl⟩;rw[ew7]at hx7 hk7⊢;clear ew7;refine hK7 _ _ (fun e=>absurd e (by decide)) ?_;clear hK7;have hb7:=hb6.trans (hk7.below (fun i e=>e▸hg5) hb6.size);simp only[Act.put];refine ZK (by kernel_rfl) ?_ _;go_wp2_with fail
    go_meet;exact⟨_,rfl,hx7,hb7,hg5⟩
  ·skip
   refine opM 9 rfl (fun K8 hK8=> ?_);go_simp;have hq8:Below w0.heap.size w0 (w0.alloc (.cells #[.int .i64 0,.int .i64 0,.int .i64 0] 114)):=(Below.refl _ _).alloc (Nat.le_refl _) _;have hx8:=QJ.new w0 114 #[.int .i64 0,.int .i64 0,.int .i64 0];have hg8:w.heap.size≤w0.heap.size:=hb0.size;obtain⟨g8,eg8⟩: ∃g,w0.heap.size=g:=⟨_,rfl⟩;obtain⟨w8,ew8⟩: ∃W,w0.alloc (.cells #[.int .i64 0,.int .i64 0,.int .i64 0] 114)=W:=⟨_,rfl⟩;rw[ew8]at hq8 hx8⊢;have hb8:=hb0.trans (hq8.mono hb0.size);have hS8:=QZ hS0 hq8;rw[eg8]at hx8 hg8⊢;clear ew8 eg8;refine hK8 _ _ (fun _=>hS8) ?_;clear hK8;refine oM 7 fun K9 hK9=> ?_
   go_simp
   go_at_call 32
   refine(Qx4 bb m.st m.dy m.an m.la _ (QJ.keep HBd.out hb8)).mono ?_;rintro ev wx ⟨rfl,rfl⟩;refine hK9 _ _ (fun _=>hS8) ?_;clear hK9;refine oM 8 fun K10 hK10=> ?_
   go_simp
   go_at_call 44
   refine(HW.out _ hb8).mono ?_;rintro ev w10 ⟨rfl,hq10⟩;have hb10:=hb8.trans (hq10.mono hb8.size);have hS10:=QZ hS8 hq10;refine hK10 _ _ (fun _=>hS10) ?_;clear hK10;have hy8:=QJ.keep hx8 hq10;refine oM 10 fun K11 hK11=> ?_
   refine(if_pos (by rfl)).mpr ?_;refine wp_store_row 114 _ _ rfl (g8) #[.int .i64 t0,.int .i64 t1,.int .i64 t2] rfl rfl 114 #[.int .i64 0,.int .i64 0,.int .i64 0] hy8 (by show(Tryz.prog.info? 114).map (·.size)=some 3;kernel_rfl) rfl (by simp[Value.oneCell']) ?_;have hx11:=QJ.setRow _ _ _ #[.int .i64 t0,.int .i64 t1,.int .i64 t2] _ hy8;have hk11:=QK.setRow w10 (g8) #[.int .i64 t0,.int .i64 t1,.int .i64 t2];obtain⟨w11,ew11⟩: ∃W,w10.setRow (g8) #[.int .i64 t0,.int .i64 t1,.int .i64 t2]=W:=⟨_,rfl⟩;rw[ew11]at hx11 hk11⊢;clear ew11;refine hK11 _ _ (fun e=>absurd e (by decide)) ?_;clear hK11;have hb11:=hb10.trans (hk11.below (fun i e=>e▸hg8) hb10.size);simp only[Act.put];refine ZK (by kernel_rfl) ?_ _;go_wp2_with fail
   go_meet;exact⟨_,rfl,hx11,hb11,hg8⟩
 case rest=>
  obtain⟨gq,rfl,hq,hb,hg⟩:=hcut;have hMc:=HM.out.below hb;have hEc:=HE.out.below hb;have c7:=hMc.cell hMc.ec.c7;obtain⟨q0,q1,q2⟩:=Jk4 hq;have HCm:=QQ (fun W (hW:Below wc.heap.size wc W)=>Xo7 bb m.st m.dy m.an m.la t0 W (QJ.keep hMc.bands hW));have HMc:=QQ hMc;have HEc:=QQ hEc;have HB:=QQ hb;have HOB:=QQ (VZ.of_below (o:=own) hb);have HBs:=QQ (XW.of_below (G:=F) hb);obtain⟨cb,hcb⟩: ∃b,Qu4 m.st m.an t0=b:=⟨_,rfl⟩;rw[hcb]at HCm;have hcalm:Jg9 m↔(t1=0∨cb=true):=by unfold Jg9;rw[HT.out,←hcb]
  have HCalm:=QQ hcalm;clear hMc hEc hb hq hg hcb hcalm HW
  by_cases h1:t1=0
  ·have d1:=J3 h1
   have HS:Hid (Qb2 m=Qt4 m∧OV m= {Qr1 m with ph:=3}):=QQ ⟨by funext F;unfold Qb2;rw[if_pos (HCalm.out.2 (.inl h1))],by unfold OV;rw[if_pos (HCalm.out.2 (.inl h1))]⟩;clear h1;go_wp2_with fail
   go_quiet (fail)
   go_wp2_with fail
   refine(Ql2 (HEc.out.below (JQ (Below.refl _ _) _)) HI.out.la).mono ?_;rintro ev w6 ⟨A,c,Fs,rfl,hunc,hrow,hnew,F2,hE2,hs2,hno⟩;have HFt:=QQ (show VQ _ w6 e F (Qt4 m) (Qr1 m) (.returned (.slice A (List.length Fs) c))from⟨A,c,Fs,rfl,hunc,hrow,hnew,F2,hE2,hs2,hno⟩);obtain⟨-,x1,x2,-⟩:=hE2.setPh 3;clear hunc hrow hnew hE2 hs2 hno;go_wp2_with fail
   go_ret;rw[HS.out.1,HS.out.2];exact(HFt.out.setPh 3).pre (HB.out.trans ((show Below wc.heap.size wc _ from(JQ (Below.refl _ _) _)).mono HB.out.size))
  ·have d1:=UX h1
   cases cb with
   |true=>
    have HS:Hid (Qb2 m=Qt4 m∧OV m= {Qr1 m with ph:=3}):=QQ ⟨by funext F;unfold Qb2;rw[if_pos (HCalm.out.2 (.inr rfl))],by unfold OV;rw[if_pos (HCalm.out.2 (.inr rfl))]⟩;clear h1;go_wp2_with fail
    go_still_tail 10,(by kernel_rfl)
    change wpList _ _ _ _ _ wc.drew;go_wp2_with fail
    refine(HCm.out wc.drew (Below.drew (Below.refl _ _))).mono ?_;rintro ev w5 ⟨rfl,hb5⟩;have hbw:=(Below.drew (Below.refl _ wc)).trans hb5;have HBw:=QQ hbw;clear q0 q1 q2 c7 hb5 hbw HCm;go_wp2_with fail
    go_wp2_with fail
    refine(Ql2 (HEc.out.below HBw.out) HI.out.la).mono ?_;rintro ev w6 ⟨A,c,Fs,rfl,hunc,hrow,hnew,F2,hE2,hs2,hno⟩;have HFt:=QQ (show VQ _ w6 e F (Qt4 m) (Qr1 m) (.returned (.slice A (List.length Fs) c))from⟨A,c,Fs,rfl,hunc,hrow,hnew,F2,hE2,hs2,hno⟩);obtain⟨-,x1,x2,-⟩:=hE2.setPh 3;clear hunc hrow hnew hE2 hs2 hno;go_wp2_with fail
    go_ret;rw[HS.out.1,HS.out.2];exact(HFt.out.setPh 3).pre (HB.out.trans ((show Below wc.heap.size wc _ from HBw.out).mono HB.out.size))
   |false=>
    have HC0:=QQ (fun h=>(HCalm.out.1 h).elim h1 (fun h=>by cases h));have c7:=c7;go_wp2_with fail
    go_still_tail 10,(by kernel_rfl)
    change wpList _ _ _ _ _ wc.drew;go_wp2_with fail
    refine(HCm.out wc.drew (Below.drew (Below.refl _ _))).mono ?_;rintro ev w5 ⟨rfl,hb5⟩;have hbw:=(Below.drew (Below.refl _ wc)).trans hb5;have HBw:=QQ hbw;have hM5:=HMc.out.below hbw;have c17:=hM5.cell hM5.ec.c17;have c5:=hM5.cell hM5.ec.c5;have f17:=hM5.frozen 17;have c14:=hM5.cell hM5.ec.c14;have f14:=hM5.frozen 14;clear q0 q1 q2 c7 hb5 hbw HCm;obtain⟨lg,hlg⟩: ∃v,m.lng=v:=⟨_,rfl⟩;obtain⟨mo,hmo⟩: ∃v,m.mo=v:=⟨_,rfl⟩;rw[hlg]at c17;rw[hmo]at c5;have HLg:=QQ (And.intro hlg hmo);have hI:=HI.out;have hlr:=hI.lng;rw[hlg]at hlr;have HM5:=QQ hM5;clear hlg hmo hI hM5
    by_cases h2:lg<mo
    ·have d2:=J4 h2
     have HS:Hid (Qb2 m []∧OV m= {m with lng:=m.lng+1,ends:=m.now+m.tk}):=QQ ⟨by unfold Qb2;rw[if_neg HC0.out],by unfold OV;rw[if_neg HC0.out,if_pos (by rw[HLg.out.1,HLg.out.2];exact h2)]⟩;have i1:RowKit.wrap64 (lg+1)=lg+1:=by unfold RowKit.wrap64;omega
     clear h2;go_wp2_with fail
     go_quiet (fail)
     go_upto_region 9 with fail
     obtain⟨hM6,ho6⟩:=(HM5.out.below (JQ (Below.refl _ w5) nq)).setLng (lg+1);obtain⟨w6,ew6⟩: ∃W,(w5.drewN nq).setCell ⟨e,17,none⟩ (.int .i64 (lg+1))=W:=⟨_,rfl⟩;rw[ew6]at hM6 ho6⊢;clear c17 f17 c14 f14 c5 i1 ew6;have c15:=hM6.cell hM6.ec.c15;have c4:=hM6.cell hM6.ec.c4;have c16:=hM6.cell hM6.ec.c16;have f16:=hM6.frozen 16;have i2:RowKit.wrap64 (m.now+m.tk)=m.now+m.tk:=by
      have h1:=HI.out.now;have h2:=HI.out.tk;unfold RowKit.wrap64;omega
     obtain⟨hM7,ho7⟩:=(hM6.below (Below.drew (Below.refl _ w6))).setEnds (m.now+m.tk);have HM7:=QQ hM7;have HO7:=QQ ((ho6.trans (VZ.of_below (Below.drew (Below.refl _ w6)))).trans ho7);clear hM6 hM7 ho6 ho7
     go_still_tail 13,(by kernel_rfl)
     change wpList _ _ _ _ _ w6.drew;go_wp2_with fail
     go_ret;rw[HS.out.2,HLg.out.1];have hb5:Below w.heap.size w (w5.drewN nq):=HB.out.trans ((JQ HBw.out nq).mono HB.out.size);exact VQ.none_ ⟨_,UJ.at_ HM7.out (fun _ _ _=>rfl),(((VZ.of_below hb5).trans HO7.out)).bstep HF.out⟩ HS.out.1
    ·have d2:=OY h2
     have HS:Hid (Qb2 m []∧OV m= {m with ph:=6}):=QQ ⟨by unfold Qb2;rw[if_neg HC0.out],by unfold OV;rw[if_neg HC0.out,if_neg (by rw[HLg.out.1,HLg.out.2];exact h2)]⟩;clear h2;go_wp2_with fail
     go_quiet (fail)
     go_wp2_with fail
     go_ret;rw[HS.out.2];have hb5:Below w.heap.size w (w5.drewN nq):=HB.out.trans ((JQ HBw.out nq).mono HB.out.size);obtain⟨hM7,ho7⟩:=(HM5.out.below (JQ (Below.refl _ w5) nq)).setPh 6;exact VQ.none_ ⟨_,UJ.at_ hM7 (fun _ _ _=>rfl),(((VZ.of_below hb5).trans ho7)).bstep HF.out⟩ HS.out.1
theorem Ki9 {σ:Type} {al:σ→Int→Bool} {tr:σ→Int→σ}: ∀(l:List QX) (o:QX) (t:σ),(ZJ al tr l o t).fills.length≤l.length:=by
 intro l
 induction l with
 |nil=>intro o t;exact Nat.le_refl _
 |cons x r ih=>
  intro o t;unfold ZJ
  split
  ·exact Nat.zero_le _
  ·split
   ·exact Nat.le_succ_of_le (ih o t)
   ·split
    ·exact Nat.zero_le _
    ·split
     ·exact Nat.zero_le _
     ·dsimp only
      rw[List.length_cons,List.length_cons];exact Nat.succ_le_succ (ih _ _)
theorem Jv6 {sd:Int} {F:List JV} (h: ∀f∈F,Jk3 f) (s:Int) (k:Option Int):Qe2 sd F s k≤1000000*F.length:=by
 induction F with
 |nil=>exact Int.le_refl _
 |cons f t ih=>
  rw[Qe3,List.length_cons];have h1:=ih (fun g hg=>h g (by simp[hg]));have h2:=(h f (by simp)).n
  split<;>omega
theorem Xq8 {m:ZX} (h:XY m.L1 m.L2) (o:QX):(ZV m o).fills.length≤100:=by
 have h1:(ZV m o).fills.length≤(XQ (3-o.side) m.L1 m.L2).length:=Ki9 _ _ _
 have h2:=h.cnt
 rw[List.length_append]at h2
 have h3:(XQ (3-o.side) m.L1 m.L2).length≤m.L1.length+m.L2.length:=by
  unfold XQ
  split<;>omega
 omega
theorem Xi0 {m:ZX} (h:XY m.L1 m.L2) (sd:Int): ∀x∈XQ sd m.L1 m.L2,OkO x:=fun x hx=>by
 unfold XQ at hx
 split at hx
 ·exact h.ok x (List.mem_append_left _ hx)
 ·exact h.ok x (List.mem_append_right _ hx)
theorem Xq9 {m:ZX} (h:XY m.L1 m.L2) (o:QX): ∀f∈(ZV m o).fills,Jk3 f:=Xx5 _ _ _ (Xi0 h _)
theorem Q0 (m:ZX) (o:QX):(VK m o).now=m.now∧(VK m o).tk=m.tk:=by
 unfold VK
 split
 ·exact⟨rfl,rfl⟩
 ·exact⟨rfl,rfl⟩
theorem Xr0 {w:World} {g n c:Nat} {t:TypeId} {ps:List JV} (h:QY w (some ⟨g,0,none⟩) n c t 4 (QW Qb1 ps)) {i:Nat} (hi:i<ps.length):
  w.cell? ⟨g,i*4,none⟩=some (.int .i64 ps[i].b)∧w.cell? ⟨g,i*4+1,none⟩=some (.int .i64 ps[i].s)∧w.cell? ⟨g,i*4+2,none⟩=some (.int .i64 ps[i].p)∧w.cell? ⟨g,i*4+3,none⟩=some (.int .i64 ps[i].n):=by
 obtain⟨g',hg,hc⟩:=h.elem Qt3 (by omega) hi
 cases hg
 exact⟨hc 0 _ rfl,hc 1 _ rfl,hc 2 _ rfl,hc 3 _ rfl⟩
theorem Xy5 {m:ZX} (h:XY m.L1 m.L2) {o:QX} (ho:VV o.side) (s:Int) (k:Option Int):Q2 s k (Qc1 m)=Q2 s k (Qc1 (UW m o))+Qe2 o.side (ZV m o).fills s k:=by
 have key:=Ki3 (al:=fun la p=>X3 m.st m.dy m.an la p) (tr:=fun _ p=>p) (sd:=o.side) s k (XQ (3-o.side) m.L1 m.L2) o m.la (fun x hx=>by
  rcases ho with e|e
  ·rw[e]at hx⊢
   exact h.s2 x hx
  ·rw[e]at hx⊢
   exact h.s1 x hx)
 have e1:(ZJ (fun la p=>X3 m.st m.dy m.an la p) (fun _ p=>p) (XQ (3-o.side) m.L1 m.L2) o m.la)=ZV m o:=rfl
 rw[e1]at key
 unfold Qc1 UW
 dsimp only
 rcases ho with e|e
 ·rw[if_pos e,if_pos e,Y0,Y0]
  rw[show XQ (3-o.side) m.L1 m.L2=m.L2 by rw[e];rfl]at key;omega
 ·rw[if_neg (by omega),if_neg (by omega),Y0,Y0]
  rw[show XQ (3-o.side) m.L1 m.L2=m.L1 by rw[e];rfl]at key;omega
structure Qk1 (w wr:World) (e tb bb bk im V X Y:Nat) (T:Option Addr) (tc:Nat) (Ap:Option Addr) (pc:Nat) (es:List MapEntry) (mc:Nat) (own:Nat→Nat→Prop) (A:Option Addr) (c:Nat) (F:List JV) (ob lb:Array Value) (m1:ZX) (sd:Int) (k:Nat) (cs:Array Value) (Al:Option Addr) (lc:Nat) (lv:List XJ) (bu se:Int) (G:Nat→Prop) (own2:Nat→Nat→Prop):Prop where
 eng:UJ wr e cs tb bb bk im T tc Al lc lv bu se Ap pc es mc G own2 (fun s q=>Q2 s q (Qc1 m1)+Qe2 sd (F.drop k) s q) m1
 step:VZ w wr own own2
 row:Qp5 wr own2 A F.length c 48 4 (QW Qb1 F)
 fA: ∀i,QV A=some i→w.heap.size≤i
 v:QJ wr V 33 #[.pointer (some ⟨e,0,none⟩)]∧ ∀k,¬own2 V k
 x:QJ wr X 29 ob∧ ∀k,¬own2 X k
 y:QJ wr Y 29 lb∧ ∀k,¬own2 Y k
 n:lv.length≤100+k
def Xd5 (w wr:World) (e tb bb bk im V X Y:Nat) (T:Option Addr) (tc:Nat) (Ap:Option Addr) (pc:Nat) (es:List MapEntry) (mc:Nat) (own:Nat→Nat→Prop) (A:Option Addr) (c:Nat) (F:List JV) (ob lb:Array Value) (m1:ZX) (sd:Int) (k:Nat):Prop:=
 ∃cs Al lc lv bu se G own2,Qk1 w wr e tb bb bk im V X Y T tc Ap pc es mc own A c F ob lb m1 sd k cs Al lc lv bu se G own2
section
variable {w w1 wr wz w':World} {e tb bb bk im V X Y:Nat} {cs:Array Value} {T:Option Addr} {tc:Nat} {Al:Option Addr} {lc:Nat} {lv lv':List XJ} {bu se bu' se':Int} {Ap:Option Addr} {pc:Nat} {es:List MapEntry} {mc:Nat} {G:Nat→Prop} {own own2:Nat→Nat→Prop} {A:Option Addr} {c k:Nat} {F:List JV} {ob lb:Array Value} {m m1:ZX} {sd:Int} {G2:Nat→Prop} {o:QX}
theorem Qk1.below (h:Qk1 w wr e tb bb bk im V X Y T tc Ap pc es mc own A c F ob lb m1 sd k cs Al lc lv bu se G own2) (hb:Below wr.heap.size wr w'):Qk1 w w' e tb bb bk im V X Y T tc Ap pc es mc own A c F ob lb m1 sd k cs Al lc lv bu se G own2:=
 ⟨h.eng.below hb,h.step.trans (VZ.of_below hb),h.row.below hb,h.fA,⟨QJ.keep h.v.1 hb,h.v.2⟩,⟨QJ.keep h.x.1 hb,h.x.2⟩,⟨QJ.keep h.y.1 hb,h.y.2⟩,h.n⟩
theorem Qk1.cells {a1 a2 a3 a4 a5 b1 b2 b3 b4 b5:Value} (h:Qk1 w wr e tb bb bk im V X Y T tc Ap pc es mc own A c F #[a1,a2,a3,a4,a5] #[b1,b2,b3,b4,b5] m1 sd k cs Al lc lv bu se G own2):
  wr.cell? ⟨V,0,none⟩=some (.pointer (some ⟨e,0,none⟩))∧wr.cell? ⟨X,1,none⟩=some a2∧wr.cell? ⟨Y,0,none⟩=some b1∧wr.cell? ⟨Y,1,none⟩=some b2∧wr.cell? ⟨Y,2,none⟩=some b3∧wr.cell? ⟨Y,3,none⟩=some b4∧wr.cell? ⟨Y,4,none⟩=some b5:=
 ⟨by rw[QJ.cell h.v.1];rfl,by rw[QJ.cell h.x.1];rfl,by rw[QJ.cell h.y.1];rfl,by rw[QJ.cell h.y.1];rfl,by rw[QJ.cell h.y.1];rfl,by rw[QJ.cell h.y.1];rfl,by rw[QJ.cell h.y.1];rfl⟩
theorem Qm5.loop (h:Qm5 w1 wr e tb bb bk im V X cs T tc Al lc lv bu se Ap pc es mc own (fun s q=>Q2 s q (Qc1 m)) A c (ZV m o).fills ob (UW m o) G2) (hb:Below w.heap.size w w1) (hV:w.heap.size≤V) (hls:XY m.L1 m.L2) (ho:VV o.side) (hn:lv.length≤100) (hY:QJ wr Y 29 lb) (hf:Ki2 (Qr3 w1 own G2 4) V X A Y):
  Xd5 w wr e tb bb bk im V X Y T tc Ap pc es mc own A c (ZV m o).fills ob lb (UW m o) o.side 0:=by
 refine⟨cs,Al,lc,lv,bu,se,G2,Qr3 w1 own G2 4,⟨h.eng.lots (fun s q _=> ?_),⟨(QK.of_below hb _).trans h.keep (fun i hi=> ?_),fun i j hi=> ?_⟩,⟨h.row,fun i hi j hj=> ?_⟩,fun i hi=>Nat.le_trans hb.size (h.fA i hi).1,⟨h.var,fun j hj=> ?_⟩,⟨h.box,fun j hj=> ?_⟩,⟨hY,hf.1⟩,by omega⟩⟩
 ·exact Xy5 hls ho s q
 ·rcases hi with hi|rfl
  ·exact .inl hi
  ·exact .inr hV
 ·rcases hj':hi with hi|hi
  ·exact .inl hi
  ·exact .inr (Nat.le_trans hb.size hi.1)
 ·have h1:=h.fA i hi
  rcases hj with hj|hj
  ·have:=h.o1.lt i j hj;omega
  ·exact h1.2 hj.2.1
 ·rcases hj with hj|hj
  ·exact h.nv.1 j hj
  ·have:=hj.1;have:=h.nv.2.2.2.1;omega
 ·rcases hj with hj|hj
  ·exact h.nv.2.1 j hj
  ·have:=hj.1;have:=h.nv.2.2.2.2;omega
theorem Qk1.small (h:Qk1 w wr e tb bb bk im V X Y T tc Ap pc es mc own A c F ob lb m1 sd k cs Al lc lv bu se G own2) (hF: ∀f∈F,Jk3 f) (hl:F.length≤100) (hk:k≤F.length):Ja8 lv bu se:=by
 have hls:=h.eng.book.lists
 have hd: ∀f∈F.drop k,Jk3 f:=fun f hf=>hF f (List.mem_of_mem_drop hf)
 refine(h.eng.is.mild h.eng.ind.ok (fun s q=> ?_) (by have:=h.n;omega)).small
 have h1:=Qh6 (s:=s) (k:=q) (J9 hls)
 have h2:=hls.cnt
 have h3:=Jv6 (sd:=sd) hd s q
 have h4:=Qu7 (sd:=sd) (fun f hf=>(hd f hf).n.1) s q
 have h5:(F.drop k).length≤100:=by rw[List.length_drop];omega
 show 0≤Q2 s q (Qc1 m1)+_∧Q2 s q (Qc1 m1)+_≤_
 unfold Qc1
 omega
theorem Qk1.next (h:Qk1 w wr e tb bb bk im V X Y T tc Ap pc es mc own A c F ob lb m1 sd k cs Al lc lv bu se G own2) (hF: ∀f∈F,Jk3 f) (hk:k<F.length) (hsd:VV sd) {f:JV} (hf:F[k]=f) (hit:Qd8 wr w' e 77 cs 9 Al lv' bu' se') (htd:Qu3 lv bu se ⟨0,3-sd,1,f.p,f.n⟩ (-1) lv' bu' se'):
  Xd5 w w' e tb bb bk im V X Y T tc Ap pc es mc own A c F ob lb m1 sd (k+1):=by
 have hfi:=hF f (hf▸List.getElem_mem hk)
 have hd:F.drop k=f::F.drop (k+1):=by rw[List.drop_eq_getElem_cons hk,hf]
 have h12:(3-sd=1∨3-sd=2):=by rcases hsd with e|e<;>omega
 have hr:Qb8 ⟨0,3-sd,1,f.p,f.n⟩:=⟨h12,hfi.n,.inr hfi.p⟩
 have hd2: ∀g∈F.drop (k+1),1≤g.n:=fun g hg=>(hF g (List.mem_of_mem_drop hg)).n.1
 have hkey:Qa2 ⟨0,3-sd,1,f.p,f.n⟩=some f.p:=if_neg (show¬((1:Int)=2) by decide)
 have hq:(⟨0,3-sd,1,f.p,f.n⟩:QX).qty≤Qw8 lv bu se ⟨0,3-sd,1,f.p,f.n⟩:=by
  rw[h.eng.is.has h12,hkey,hd];show f.n≤Q2 (3-sd) (some f.p) (Qc1 m1)+Qe2 sd (f::F.drop (k+1)) (3-sd) (some f.p);rw[Qe3,if_pos ⟨rfl,rfl⟩];have h1:=Qu7 (sd:=sd) hd2 (3-sd) (some f.p);have h2:=(Qh6 (s:=3-sd) (k:=some f.p) (J9 h.eng.book.lists)).1;unfold Qc1;omega
 obtain⟨-,hchg⟩:=Xb7 hr hq htd
 have his:=h.eng.is.chg h12 hchg
 obtain⟨cs',Al',lc',own',hM,ho⟩:=h.eng.indTo hit his
 refine⟨cs',Al',lc',lv',bu',se',G,own',⟨hM.lots (fun s q _=> ?_),h.step.trans ho,h.row.step ho,h.fA,Qm6 h.v ho,Qm6 h.x ho,Qm6 h.y ho,by have:=hchg.1;have:=h.n;omega⟩⟩
 rw[hd,Qe3,hkey]
 show Q2 s q (Qc1 m1)+ ((if 3-sd=s∧some f.p=q then f.n else 0)+Qe2 sd (F.drop (k+1)) s q)+ (if 3-sd=s∧some f.p=q then -1*f.n else 0)=_
 split<;>omega
structure Xd6 (w wr:World) (e V:Nat) (F:Nat→Prop) (A:Option Addr) (c:Nat) (Fs:List JV) (m:ZX) (F':Nat→Prop):Prop where
 eng:UY wr e F' m
 step:XW w wr F F'
 row:QY wr A Fs.length c 48 4 (QW Qb1 Fs)
 fA: ∀g,QV A=some g→w.heap.size≤g∧ ¬F' g
 v:QJ wr V 33 #[.pointer (some ⟨e,0,none⟩)]∧ ¬F' V
theorem Qk1.end_ {F0:Nat→Prop} (h:Qk1 w wr e tb bb bk im V X Y T tc Ap pc es mc own A c F ob lb m1 sd k cs Al lc lv bu se G own2) (hF: ∀i,F0 i↔ ∃k,own i k) (hk:F.length≤k):Xd6 w wr e V F0 A c F m1 (fun i=> ∃j,own2 i j):=by
 refine⟨UJ.at_ h.eng (fun s q _=> ?_),h.step.bstep hF,h.row.row,fun g hg=>⟨h.fA g hg,fun⟨j,hj⟩=>h.row.far g hg j hj⟩,h.v.1,fun⟨j,hj⟩=>h.v.2 j hj⟩
 rw[List.drop_eq_nil_of_le hk]
 show _+0=_
 omega
theorem Xd6.then_ {F0 F1:Nat→Prop} {Fs:List JV} {m':ZX} (h:Xd6 w wr e V F0 A c Fs m1 F1) (ht:YK wr w' e F1 m'): ∃F2,Xd6 w w' e V F0 A c Fs m' F2:=by
 obtain⟨F2,h1,h2⟩:=ht
 refine⟨F2,h1,h.step.trans h2,h.row.keeps h2.1 (fun g hg=>(h.fA g hg).2),fun g hg=>⟨(h.fA g hg).1,fun x=> ?_⟩,QJ.keeps h.v.1 h2.1 h.v.2,fun x=> ?_⟩
 ·rcases h2.2 g x with y|y
  ·exact(h.fA g hg).2 y
  ·have:=h.row.lt hg;omega
 ·rcases h2.2 V x with y|y
  ·exact h.v.2 y
  ·have:=QJ.lt h.v.1;omega
theorem Xd6.fills {F0 F1:Nat→Prop} {Fs:List JV} {P:List JV→Prop} (h:Xd6 w wr e V F0 A c Fs m1 F1) (hP:P Fs):VQ w wr e F0 P m1 (.returned (.slice A (List.length Fs) c)):=
 ⟨A,c,Fs,rfl,hP,h.row,fun g hg=>(h.fA g hg).1,F1,h.eng,h.step,fun g hg=>(h.fA g hg).2⟩
end
end Go.Proofs.YtnlngicnfegjgaaGreat
