/- Contracts and walks that the law's proof needs. -/
import Derived.WalkKit
import Derived.WalkLawsBesides
import Derived.WalkSpells
import Derived.StillTailTactics
import Derived.Deep.QuietTactic
import Derived.BigQuiet
import Derived.Deep.DeepCutAuto
import Derived.Deep.CutBlock
import Derived.Shelf.Abstract
import Derived.Test.YtnlngicnfegjgaaGreatZf41
import Derived.Test.YtnlngicnfegjgaaGreatZf39
import Derived.Test.YtnlngicnfegjgaaGreatZf43
import Derived.Test.YtnlngicnfegjgaaGreatZf30
set_option linter.unusedVariables false
set_option maxRecDepth 100000
set_option maxHeartbeats 8000000
namespace Go.Proofs.YtnlngicnfegjgaaGreat
open Go.RowKit
theorem Xy6 {l:List QX} {p:QX→Bool} {k:Nat} (hk:k<l.length) (h:p l[k]=true) (hn: ∀i (hi:i<l.length),i<k→p l[i]=false):l.findIdx p=k∧l.any p=true:=by
 refine⟨(List.findIdx_eq hk).2 ⟨h,fun j hj=>hn j (by omega) hj⟩,List.any_eq_true.2 ⟨_,List.getElem_mem hk,h⟩⟩
theorem Jo0 {m:ZX} {id:Int} (h7:m.ph≠7) (hn:Ju5 m id=false):Ql1 m id=(if(Qb3 (Qc1 m) id).isSome=true then 0 else 7)∧YJ m id=Ju8 m id:=by
 unfold Ql1 YJ
 rw[if_neg h7,if_neg h7,hn]
 exact⟨rfl,rfl⟩
theorem Kj0 {m:ZX} {id:Int} {k:Nat} (h7:m.ph≠7) (hn:Ju5 m id=true) (hk:(m.pk.findIdx fun o=>o.id ==id)=k):Ql1 m id=0∧YJ m id= {m with pk:=Jk0 m.pk k}:=by
 unfold Ql1 YJ
 rw[if_neg h7,if_neg h7,if_pos hn,if_pos hn,hk]
 exact⟨rfl,rfl⟩
theorem Xr1 {w:World} {e:Nat} {F:Nat→Prop} {m:ZX} (h:UY w e F m) (hpk:m.pk.length≤100000) (id:Int):
  Calls Tryz.prog 13 #[.pointer (some ⟨e,0,none⟩),.int .i64 id] w fun ev w'=>ev= .returned (YZ (Ql1 m id))∧YK w w' e F (YJ m id):=by
 have hE:=h
 obtain⟨cs,tb,bb,bk,im,T,tc,Al,lc,lv,bu,se,Ap,pc,es,mc,G,own,hM,hF⟩:=h
 have hb1:Below w.heap.size w (w.alloc (.cells #[.int .i64 id] 3)):=(Below.refl _ w).alloc (Nat.le_refl _) _
 have hB:=QJ.new w 3 #[.int .i64 id]
 obtain⟨wa,ew1⟩: ∃W,w.alloc (.cells #[.int .i64 id] 3)=W:=⟨_,rfl⟩
 obtain⟨B,eB⟩: ∃g,w.heap.size=g:=⟨_,rfl⟩
 rw[ew1]at hb1 hB
 rw[eB]at hB
 have hM1:=hM.below hb1
 have hE1:=hE.below hb1
 have hBo: ∀k,¬own B k:=fun k hk=>by have:=hM.ok.lt B k hk;omega
 have c14:=hM1.cell hM1.ec.c14
 have c12:=hM1.cell hM1.ec.c12
 have f12:=hM1.frozen 12
 have b0:wa.cell? ⟨B,0,none⟩=some (.int .i64 id):=by rw[QJ.cell hB];rfl
 obtain⟨ph,hph⟩: ∃p,m.ph=p:=⟨_,rfl⟩
 obtain⟨n,hn⟩: ∃n,m.pk.length=n:=⟨_,rfl⟩
 rw[hph]at c14
 rw[hn]at c12 hpk
 have HPh:=QQ hph
 have HN:=QQ hn
 have HE1:=QQ hE1
 have HB1:=QQ hb1
 have HM1:=QQ hM1
 have HB:=QQ hB
 have HBo:=QQ hBo
 have HF:=QQ hF
 clear hE hM hF hb1 hB hM1 hE1 hBo hph hn
 by_cases p7:ph=7
 ·have d7:=J3 p7
  have HS:Hid (Ql1 m id=6∧YJ m id=m):=QQ (by unfold Ql1 YJ;rw[HPh.out,if_pos p7,if_pos p7];exact⟨rfl,rfl⟩);clear p7;go_enter Tryz.func13,Tryz.ntmps13
  go_upto_region 1 with fail
  try rw[ew1]
  try rw[eB]
  clear ew1 eB;go_wp2_with fail
  go_ret;rw[HS.out.1,HS.out.2];exact⟨rfl,YK.pre HB1.out (YK.same HE1.out (Below.refl _ _))⟩
 ·have d7:=UX p7
  have H7:=QQ p7;clear p7;have hix:=Xw6 34 #[.pointer (some ⟨B,0,none⟩)] (fun o=>o.id ==id) (Go.Proofs.enters_of Tryz.func34 (by kernel_rfl) rfl) Ap n pc m.pk wa (fun _=>False) (fun W p hk=>Xo9 W B id (QJ.keeps HB.out hk (fun x=>x)) p) (by rw[←HN.out];exact XZ.of_row X9 (by omega) HM1.out.park) (by omega);have HIx:=QQ hix;clear hix;go_enter Tryz.func13,Tryz.ntmps13
  go_upto_region 1 with fail
  try rw[ew1]
  try rw[eB]
  clear ew1 eB;go_wp2_with fail
  refine HIx.out.mono ?_;rintro ev w1 ⟨hb2,hor⟩;have hM2:=HM1.out.below hb2;have HE2:=QQ (HE1.out.below hb2);have HM2:=QQ hM2;have HB2:=QQ (HB1.out.trans (hb2.mono HB1.out.size));have HBb:=QQ (QJ.keep HB.out hb2);clear c14 c12 f12 b0 hb2 HIx HE1 HM1 HB1 HB;rcases hor with⟨hno,rfl⟩|⟨k,hk,hy,hbf,rfl⟩
  ·have HNo:Hid (Ju5 m id=false):=QQ (by
    unfold Ju5;rw[Bool.eq_false_iff];intro hany;obtain⟨o,ho,ho2⟩:=List.any_eq_true.1 hany;obtain⟨i,hi,rfl⟩:=List.mem_iff_getElem.1 ho;rw[hno i hi]at ho2
    cases ho2)
   clear hno;have b0:w1.cell? ⟨B,0,none⟩=some (.int .i64 id):=by rw[QJ.cell HBb.out];rfl
   have c8:=hM2.cell hM2.ec.c8;have hor: ∃(oo:QX) (er:Value),(∀W,Below w1.heap.size w1 W→Calls Tryz.prog 36 #[.pointer (some ⟨bk,0,none⟩),.int .i64 id] W fun ev w'=>Below W.heap.size W w'∧ev= .returned (.tuple #[KQ oo,er]))∧((Qb3 (Qc1 m) id).isSome=true∧er= .nilIface∨(Qb3 (Qc1 m) id).isSome=false∧er=YZ 7):=by
    cases hg:Qb3 (Qc1 m) id with
    |none=>
     refine⟨noO,YZ 7,fun W hW=>(Jb2 W bk G m.L1 m.L2 (HM2.out.below hW).book id).mono ?_,.inr ⟨rfl,rfl⟩⟩;rintro ev w' ⟨h1,h2|⟨o,h2,-⟩⟩
     ·exact⟨h1,h2.2⟩
     ·have h3:Qb3 (m.L1++m.L2) id=none:=hg
      rw[h3]at h2;cases h2
    |some o=>
     refine⟨o,.nilIface,fun W hW=>(Jb2 W bk G m.L1 m.L2 (HM2.out.below hW).book id).mono ?_,.inl ⟨rfl,rfl⟩⟩;rintro ev w' ⟨h1,h2|⟨o',h2,h3⟩⟩
     ·have h3:Qb3 (m.L1++m.L2) id=some o:=hg
      rw[h3]at h2;cases h2.1
     ·have h4:Qb3 (m.L1++m.L2) id=some o:=hg
      rw[h4]at h2;cases h2;exact⟨h1,h3⟩
   obtain⟨⟨o1,o2,o3,o4,o5⟩,er,hor1,hor2⟩:=hor;unfold KQ at hor1;dsimp only at hor1;have HOr:=QQ hor1;have HEr:=QQ hor2;clear hor1 hor2 hM2;go_upto_region 7 with fail
   go_cut [7] (fun s7 wx=>s7=er∧Below w1.heap.size w1 wx)
   case first=>
    refine XK (fun t=> [].contains t) (fun W=>W.cell? ⟨e,8,none⟩=some (.pointer (some ⟨bk,0,none⟩))∧W.cell? ⟨B,0,none⟩=some (.int .i64 id)) (by kernel_rfl) ⟨c8,b0⟩ (fun hS0=> ?_);refine tM 0 (.pointer (some ⟨e,0,none⟩)) ?_;refine tM 1 (.pointer (some ⟨e,0,none⟩)) ?_;refine tM 2 (.pointer (some ⟨e,8,none⟩)) ?_;refine tM 3 (.pointer (some ⟨bk,0,none⟩)) ?_;refine tM 4 (.int .i64 id) ?_;refine Jk8 (i:=5) (j:=9) (by kernel_rfl) ?_ ?_
    ·skip
     refine opM 5 rfl (fun K1 hK1=> ?_);go_simp;refine(HOr.out _ (Below.drew (Below.refl _ _))).mono ?_;rintro ev w2 ⟨hq,rfl⟩;have hb2:Below w1.heap.size w1 w2:=(Below.drew (Below.refl _ _)).trans hq;have hS2:(fun W:World=>W.cell? ⟨e,8,none⟩=some (.pointer (some ⟨bk,0,none⟩))∧W.cell? ⟨B,0,none⟩=some (.int .i64 id)) w2:=⟨QZ c8 hb2,QZ b0 hb2⟩;refine hK1 _ _ (fun _=>hS2) ?_;clear hK1 hS0 hq;refine tM 6 (.tuple #[.agg #[.int .i64 o1,.int .i64 o2,.int .i64 o3,.int .i64 o4,.int .i64 o5],er]) ?_;refine tM 7 (.agg #[.int .i64 o1,.int .i64 o2,.int .i64 o3,.int .i64 o4,.int .i64 o5]) ?_;refine tM 8 er ?_;refine oM 9 fun K2 hK2=> ?_
     go_simp;have hb3:Below w1.heap.size w1 (w2.alloc (.cells #[.int .i64 0,.int .i64 0,.int .i64 0,.int .i64 0,.int .i64 0] 29)):=hb2.alloc hb2.size _;have hy3:=QJ.new w2 29 #[.int .i64 0,.int .i64 0,.int .i64 0,.int .i64 0,.int .i64 0];have hYl:w1.heap.size≤w2.heap.size:=hb2.size;obtain⟨Y,eY⟩: ∃g,w2.heap.size=g:=⟨_,rfl⟩;obtain⟨w3,ew3⟩: ∃W,w2.alloc (.cells #[.int .i64 0,.int .i64 0,.int .i64 0,.int .i64 0,.int .i64 0] 29)=W:=⟨_,rfl⟩;rw[ew3]at hb3 hy3⊢;rw[eY]at hy3 hYl⊢;have hS3:(fun W:World=>W.cell? ⟨e,8,none⟩=some (.pointer (some ⟨bk,0,none⟩))∧W.cell? ⟨B,0,none⟩=some (.int .i64 id)) w3:=⟨QZ c8 hb3,QZ b0 hb3⟩;refine hK2 _ _ (fun _=>hS3) ?_;clear hK2 ew3 eY hS2;refine oM 10 fun K5 hK5=> ?_
     refine(if_pos (by rfl)).mpr ?_;refine wp_store_row 29 _ _ rfl Y #[.int .i64 o1,.int .i64 o2,.int .i64 o3,.int .i64 o4,.int .i64 o5] rfl rfl 29 #[.int .i64 0,.int .i64 0,.int .i64 0,.int .i64 0,.int .i64 0] hy3 (by show(Tryz.prog.info? 29).map (·.size)=some 5;kernel_rfl) rfl (by simp[Value.oneCell']) ?_;have hk6:=QK.setRow w3 Y #[.int .i64 o1,.int .i64 o2,.int .i64 o3,.int .i64 o4,.int .i64 o5];obtain⟨w6,ew6⟩: ∃W,w3.setRow Y #[.int .i64 o1,.int .i64 o2,.int .i64 o3,.int .i64 o4,.int .i64 o5]=W:=⟨_,rfl⟩;rw[ew6]at hk6⊢;have h6:=hb3.trans (hk6.below (fun i e=>e▸hYl) hb3.size);have hS6:(fun W:World=>W.cell? ⟨e,8,none⟩=some (.pointer (some ⟨bk,0,none⟩))∧W.cell? ⟨B,0,none⟩=some (.int .i64 id)) w6:=⟨QZ c8 h6,QZ b0 h6⟩;refine hK5 _ _ (fun _=>hS6) ?_;clear hK5 ew6;simp only[Act.put];refine tM 11 er ?_;refine ZK (by kernel_rfl) ?_ _;go_wp2_with fail
     go_meet;exact⟨rfl,h6⟩
    ·skip
     refine opM 9 rfl (fun K1 hK1=> ?_);go_simp;have hb2:Below w1.heap.size w1 (w1.alloc (.cells #[.int .i64 0,.int .i64 0,.int .i64 0,.int .i64 0,.int .i64 0] 29)).drew:=Below.drew ((Below.refl _ _).alloc (Nat.le_refl _) _);have hy2:=QJ.drew (QJ.new w1 29 #[.int .i64 0,.int .i64 0,.int .i64 0,.int .i64 0,.int .i64 0]);have hYl:w1.heap.size≤w1.heap.size:=Nat.le_refl _;obtain⟨Y,eY⟩: ∃g,w1.heap.size=g:=⟨_,rfl⟩;obtain⟨w2,ew2⟩: ∃W,(w1.alloc (.cells #[.int .i64 0,.int .i64 0,.int .i64 0,.int .i64 0,.int .i64 0] 29)).drew=W:=⟨_,rfl⟩;rw[ew2]at hb2 hy2⊢;rw[eY]at hy2⊢;have hYl:w1.heap.size≤Y:=Nat.le_of_eq eY;have hS2:(fun W:World=>W.cell? ⟨e,8,none⟩=some (.pointer (some ⟨bk,0,none⟩))∧W.cell? ⟨B,0,none⟩=some (.int .i64 id)) w2:=⟨QZ c8 hb2,QZ b0 hb2⟩;refine hK1 _ _ (fun _=>hS2) ?_;clear hK1 ew2 eY hS0;refine oM 5 fun K2 hK2=> ?_
     go_simp;refine(HOr.out _ hb2).mono ?_;rintro ev w3 ⟨hq,rfl⟩;have hb3:=hb2.trans (hq.mono hb2.size);have hy3:=QJ.keep hy2 hq;have hS3:(fun W:World=>W.cell? ⟨e,8,none⟩=some (.pointer (some ⟨bk,0,none⟩))∧W.cell? ⟨B,0,none⟩=some (.int .i64 id)) w3:=⟨QZ c8 hb3,QZ b0 hb3⟩;refine hK2 _ _ (fun _=>hS3) ?_;clear hK2 hS2 hq;refine tM 6 (.tuple #[.agg #[.int .i64 o1,.int .i64 o2,.int .i64 o3,.int .i64 o4,.int .i64 o5],er]) ?_;refine tM 7 (.agg #[.int .i64 o1,.int .i64 o2,.int .i64 o3,.int .i64 o4,.int .i64 o5]) ?_;refine tM 8 er ?_;refine oM 10 fun K5 hK5=> ?_
     refine(if_pos (by rfl)).mpr ?_;refine wp_store_row 29 _ _ rfl Y #[.int .i64 o1,.int .i64 o2,.int .i64 o3,.int .i64 o4,.int .i64 o5] rfl rfl 29 #[.int .i64 0,.int .i64 0,.int .i64 0,.int .i64 0,.int .i64 0] hy3 (by show(Tryz.prog.info? 29).map (·.size)=some 5;kernel_rfl) rfl (by simp[Value.oneCell']) ?_;have hk6:=QK.setRow w3 Y #[.int .i64 o1,.int .i64 o2,.int .i64 o3,.int .i64 o4,.int .i64 o5];obtain⟨w6,ew6⟩: ∃W,w3.setRow Y #[.int .i64 o1,.int .i64 o2,.int .i64 o3,.int .i64 o4,.int .i64 o5]=W:=⟨_,rfl⟩;rw[ew6]at hk6⊢;have h6:=hb3.trans (hk6.below (fun i e=>e▸hYl) hb3.size);have hS6:(fun W:World=>W.cell? ⟨e,8,none⟩=some (.pointer (some ⟨bk,0,none⟩))∧W.cell? ⟨B,0,none⟩=some (.int .i64 id)) w6:=⟨QZ c8 h6,QZ b0 h6⟩;refine hK5 _ _ (fun _=>hS6) ?_;clear hK5 ew6;simp only[Act.put];refine tM 11 er ?_;refine ZK (by kernel_rfl) ?_ _;go_wp2_with fail
     go_meet;exact⟨rfl,h6⟩
   case rest=>
    obtain⟨rfl,hbc⟩:=hcut;have HEc:=QQ (HE2.out.below hbc);have HBc:=QQ (HB2.out.trans (hbc.mono HB2.out.size));have b0:=QZ b0 hbc;clear hbc c8 HOr;rcases HEr.out with⟨hs,he⟩|⟨hs,he⟩
    ·subst he
     have HS:Hid (Ql1 m id=0∧YJ m id=Ju8 m id):=QQ (by have h1:=Jo0 (fun x=>H7.out (HPh.out.symm.trans x)) HNo.out;rw[if_pos hs]at h1;exact h1);have HGo:=QQ (Ki0 wc e F m HEc.out id);clear hs HEr;go_wp2_with fail
     refine HGo.out.mono ?_;rintro ev w9 ⟨rfl,hto⟩;have HTo:=QQ hto;clear hto;go_wp2_with fail
     go_ret;rw[HS.out.1,HS.out.2];exact⟨rfl,YK.pre HBc.out HTo.out⟩
    ·subst he
     have HS:Hid (Ql1 m id=7∧YJ m id=Ju8 m id):=QQ (by have h1:=Jo0 (fun x=>H7.out (HPh.out.symm.trans x)) HNo.out;rw[if_neg (by rw[hs];exact Bool.false_ne_true)]at h1;exact h1);have HNn:Hid (Qb3 (Qc1 m) id=none):=QQ (by simpa using hs);have e7:YZ 7= .iface 68 (.int .i64 7):=rfl;rw[e7];clear hs HEr;go_wp2_with fail
     go_ret;rw[HS.out.1,HS.out.2,Ju9 HNn.out];exact⟨rfl,YK.pre HBc.out (YK.same HEc.out (Below.refl _ _))⟩
  ·have hfi:=Xy6 (p:=fun o=>o.id ==id) hk hy hbf
   have HS:=QQ (Kj0 (m:=m) (id:=id) (fun x=>H7.out (HPh.out.symm.trans x)) hfi.2 hfi.1);have hkn:k<n:=by rw[←HN.out];exact hk
   have hk0:(0:Int)≤(k:Int):=by omega
   have dk:decide ((k:Int)≥0)=true:=J4 hk0;have hrow:=hM2.park;rw[HN.out]at hrow;obtain⟨ga,hga⟩:=Qc7 hrow (by omega);subst hga;have c12:=hM2.cell hM2.ec.c12;rw[HN.out]at c12;have hdel:=Xo8 w1 ga n pc k (k+1) ((k:Int)+1) (by omega) m.pk hrow (by omega) (by omega) (by omega);have HDel:=QQ hdel;have HKn:=QQ hkn;clear hfi hk hy hbf hM2 hrow hdel;go_wp2_with fail
   refine HDel.out.mono ?_;rintro ev w3 ⟨rfl,hr3,hk3⟩;have hcl:(Jk0 m.pk k).length=k+ (n- (k+1)):=by unfold Jk0;rw[List.length_append,List.length_take,List.length_drop,HN.out];omega
   obtain⟨own',hM9,ho9⟩:=HM2.out.pkTo (P':=Jk0 m.pk k) (Ap':=some ⟨ga,0,none⟩) (pc':=pc) (hk3.mono (fun i hi=>by rw[hi];rfl)) (by rw[hcl];exact hr3) (fun i hi=> .inl hi);rw[hcl]at hM9 ho9;have hEk:QJ w3 e 77 cs:=QJ.keeps HM2.out.ind.blk hk3 (fun x=>absurd (HM2.out.ok.uni _ _ _ (HM2.out.op _ (x▸rfl)) HM2.out.oe) (by decide));have c123:w3.cell? ⟨e,12,none⟩=some (.slice (some ⟨ga,0,none⟩) n pc):=(QJ.cell hEk 12).trans (HM2.out.ec.c12.trans (by rw[HN.out]));have f12:=QJ.frozen hEk 12;have HM9:=QQ hM9;have HO9:=QQ ho9;clear c12 hr3 hk3 hcl hM9 ho9 hEk HDel;go_wp2_with fail
   go_ret;rw[HS.out.1,HS.out.2];exact⟨rfl,YK.pre HB2.out ⟨_,UJ.at_ (m:= {m with pk:=Jk0 m.pk k}) HM9.out (fun _ _ _=>rfl),HO9.out.bstep HF.out⟩⟩
end Go.Proofs.YtnlngicnfegjgaaGreat
