/- Contracts and walks that the law's proof needs. -/
import Derived.Test.YtnlngicnfegjgaaGreatZf37
import Derived.Test.YtnlngicnfegjgaaGreatZf33
import Derived.WalkKit
import Derived.WalkLawsBesides
import Derived.WalkSpells
import Derived.StillTailTactics
import Derived.Deep.QuietTactic
import Derived.BigQuiet
import Derived.BigRegion
import Derived.Deep.CutBlock
import Derived.Laws.ResultCell
import Derived.Test.YtnlngicnfegjgaaGreatZf38
import Derived.Test.YtnlngicnfegjgaaGreatZf18
import Derived.Test.YtnlngicnfegjgaaGreatZf23
import Derived.Deep.LoopGhost
import Derived.Deep.DeepCutAuto
set_option linter.unusedVariables false
set_option maxRecDepth 100000
set_option maxHeartbeats 8000000
namespace Go.Proofs.YtnlngicnfegjgaaGreat
open Go.RowKit
def Qe2 (sd:Int) (F:List JV) (s:Int) (k:Option Int):Int:=(F.map fun f=>if 3-sd=s∧some f.p=k then f.n else 0).sum
theorem Qe3 (sd:Int) (f:JV) (F:List JV) (s:Int) (k:Option Int):Qe2 sd (f::F) s k=(if 3-sd=s∧some f.p=k then f.n else 0)+Qe2 sd F s k:=by unfold Qe2;rw[List.map_cons,List.sum_cons]
theorem Qu7 {sd:Int} {F:List JV} (h: ∀f∈F,1≤f.n) (s:Int) (k:Option Int):0≤Qe2 sd F s k:=by
 induction F with
 |nil=>exact Int.le_refl _
 |cons f t ih=>
  rw[Qe3];have h1:=ih (fun g hg=>h g (by simp[hg]));have h2:=h f (by simp)
  split<;>omega
theorem Kb9 (o x:QX) (n:Int):(Jg7 o x n).p=x.price:=by unfold Jg7;split<;>rfl
theorem Kc0 (o x:QX) (n:Int):(Jg7 o x n).n=n:=by unfold Jg7;split<;>rfl
theorem Xx4 (x:QX) (n:Int) (s:Int) (k:Option Int):Q2 s k (Qg5 x n)=(if x.side=s∧Qa2 x=k then x.qty-n else 0):=by
 unfold Qg5
 by_cases h:n=x.qty
 ·rw[if_pos h,h]
  unfold Q2;simp
 ·rw[if_neg h]
  rw[Qc4,show Q2 s k ([]:List QX)=0 from rfl,Int.add_zero]
  rfl
section
variable {σ:Type} {al:σ→Int→Bool} {tr:σ→Int→σ}
theorem Ki3 {sd:Int} (s:Int) (k:Option Int): ∀(l:List QX) (o:QX) (t:σ),(∀x∈l,x.side=3-sd)→Q2 s k l=Q2 s k (ZJ al tr l o t).rest+Qe2 sd (ZJ al tr l o t).fills s k:=by
 intro l
 induction l with
 |nil=>intro o t _;rfl
 |cons x r ih=>
  intro o t h;have hx:=h x (by simp);have hr:=fun y hy=>h y (List.mem_cons_of_mem x hy)
  unfold ZJ
  split
  ·show Q2 s k (x::r)=Q2 s k (x::r)+0
   omega
  ·split
   ·have:=ih o t hr
    dsimp only;rw[Qc4,Qc4];omega
   ·split
    ·show Q2 s k (x::r)=Q2 s k (x::r)+0
     omega
    ·split
     ·show Q2 s k (x::r)=Q2 s k (x::r)+0
      omega
     ·rename_i hk _ _
      have:=ih (U9 o (min o.qty x.qty)) (tr t x.price) hr;dsimp only;rw[Y0,Xx4,Qe3,Kb9,Kc0,Qc4];have hkey:Qa2 x=some x.price:=by unfold Qa2;rw[if_neg hk]
      rw[hkey]
      by_cases e:x.side=s∧some x.price=k
      ·rw[if_pos e,if_pos e,if_pos ⟨hx.symm.trans e.1,e.2⟩]
       omega
      ·rw[if_neg e,if_neg e,if_neg (fun y=>e ⟨hx.trans y.1,y.2⟩)]
       omega
structure Jk3 (f:JV):Prop where
 n:1≤f.n∧f.n≤1000000
 p:1≤f.p∧f.p≤1000000
theorem Xx5: ∀(l:List QX) (o:QX) (t:σ),(∀x∈l,OkO x)→ ∀f∈(ZJ al tr l o t).fills,Jk3 f:=by
 intro l
 induction l with
 |nil=>intro o t _ f hf;cases hf
 |cons x r ih=>
  intro o t h f hf;have hx:=h x (by simp);have hr:=fun y hy=>h y (List.mem_cons_of_mem x hy)
  unfold ZJ at hf
  split at hf
  ·cases hf
  ·rename_i hq
   split at hf
   ·exact ih o t hr f hf
   ·split at hf
    ·cases hf
    ·split at hf
     ·cases hf
     ·dsimp only at hf
      rcases List.mem_cons.1 hf with rfl|hf
      ·have h1:=hx.2.2.2
       have h2:=hx.2.2.1;exact⟨by rw[Kc0];omega,by rw[Kb9];exact h2⟩
      ·exact ih _ _ hr f hf
theorem Xb9: ∀(l:List QX) (o:QX) (t:σ),Qe5 o→0≤o.qty→(∀x∈l,OkO x)→Qe5 (ZJ al tr l o t).left∧(ZJ al tr l o t).left.id=o.id∧(ZJ al tr l o t).left.side=o.side∧(ZJ al tr l o t).left.kind=o.kind∧(ZJ al tr l o t).left.price=o.price∧0≤(ZJ al tr l o t).left.qty∧(ZJ al tr l o t).left.qty≤o.qty:=by
 intro l
 induction l with
 |nil=>intro o t hf hq _;exact⟨hf,rfl,rfl,rfl,rfl,hq,Int.le_refl _⟩
 |cons x r ih=>
  intro o t hf hq0 h;have hx:=h x (by simp);have hr:=fun y hy=>h y (List.mem_cons_of_mem x hy)
  unfold ZJ
  split
  ·exact⟨hf,rfl,rfl,rfl,rfl,hq0,Int.le_refl _⟩
  ·rename_i hq
   split
   ·exact ih o t hf hq0 hr
   ·split
    ·exact⟨hf,rfl,rfl,rfl,rfl,hq0,Int.le_refl _⟩
    ·split
     ·exact⟨hf,rfl,rfl,rfl,rfl,hq0,Int.le_refl _⟩
     ·have h1:=hx.2.2.2
      have hf2:=hf.2.2.2.2;unfold U1 at hf2;obtain⟨a1,a2,a3,a4,a5,a6,a7⟩:=ih (U9 o (min o.qty x.qty)) (tr t x.price) ⟨hf.1,hf.2.1,hf.2.2.1,hf.2.2.2.1,by unfold U1 U9;dsimp only;omega⟩ (by unfold U9;dsimp only;omega) hr;have h8:(U9 o (min o.qty x.qty)).qty≤o.qty:=by unfold U9;dsimp only;omega
      exact⟨a1,a2,a3,a4,a5,a6,Int.le_trans a7 h8⟩
end
section
variable {w:World} {e:Nat} {F:Nat→Prop} {m:ZX}
theorem Jd1 (h:UY w e F m):Calls Tryz.prog 10 #[.pointer (some ⟨e,0,none⟩)] w fun ev w'=>ev= .returned (.int .i64 m.ph)∧Below w.heap.size w w':=by
 obtain⟨cs,tb,bb,bk,im,T,tc,Al,lc,lv,bu,se,Ap,pc,es,mc,G,own,hM,hF⟩:=h
 have c:=hM.cell hM.ec.c14
 clear hM hF
 go_enter Tryz.func10,Tryz.ntmps10
 go_wp2
 go_ret
 exact⟨rfl,Below.refl _ _⟩
theorem Ki4 (h:UY w e F m):Calls Tryz.prog 12 #[.pointer (some ⟨e,0,none⟩)] w fun ev w'=>ev= .returned (.tuple #[.int .i64 m.an,.int .i64 m.la])∧Below w.heap.size w w':=by
 obtain⟨cs,tb,bb,bk,im,T,tc,Al,lc,lv,bu,se,Ap,pc,es,mc,G,own,hM,hF⟩:=h
 have c:=hM.cell hM.ec.c7
 have HB:=QQ hM.bands
 clear hM hF
 go_enter Tryz.func12,Tryz.ntmps12
 go_wp2_with fail
 go_quiet (first|(go_at_call 31;exact Calls.quiet_of_same ((Xw3 bb m.st m.dy m.an m.la _ (by first|exact HB.out|exact QJ.drew HB.out|exact QJ.drewN HB.out _)).mono (fun _ _ ⟨h1,h2⟩=>⟨h1,h2.symm⟩)))|(go_at_call 32;exact Calls.quiet_of_same ((Qx4 bb m.st m.dy m.an m.la _ (by first|exact HB.out|exact QJ.drew HB.out|exact QJ.drewN HB.out _)).mono (fun _ _ ⟨h1,h2⟩=>⟨h1,h2.symm⟩))))
 go_wp2
 go_ret2
 exact⟨rfl,JQ (Below.refl _ _) _⟩
theorem Xc0 (h:UY w e F m) (sd:Int) (hs:VV sd):Calls Tryz.prog 41 #[.pointer (some ⟨e,0,none⟩),.int .i64 sd] w fun ev w'=>Below w.heap.size w w'∧ ∃A c,ev= .returned (.tuple #[.slice A (XQ sd m.L1 m.L2).length c,.nilIface])∧QY w' A (XQ sd m.L1 m.L2).length c 29 5 (QW I1 (XQ sd m.L1 m.L2))∧ ∀g,QV A=some g→w.heap.size≤g:=by
 obtain⟨cs,tb,bb,bk,im,T,tc,Al,lc,lv,bu,se,Ap,pc,es,mc,G,own,hM,hF⟩:=h
 have c:=hM.cell hM.ec.c8
 have HS:=QQ (Qc5 w bk G m.L1 m.L2 hM.book sd hs)
 clear hM hF hs
 obtain⟨l,hl⟩: ∃l,XQ sd m.L1 m.L2=l:=⟨_,rfl⟩
 rw[hl]at HS⊢
 go_enter Tryz.func41,Tryz.ntmps41
 go_wp2_with fail
 refine HS.out.mono ?_
 rintro ev w2 ⟨hb,A,cc,rfl,hr,hg⟩
 have HR:=QQ hr
 have HG:=QQ hg
 clear hr hg
 go_wp2_with fail
 go_ret2
 exact⟨hb,A,cc,rfl,HR.out,HG.out⟩
theorem Ki5 (h:UY w e F m):Calls Tryz.prog 14 #[.pointer (some ⟨e,0,none⟩)] w fun ev w'=>ev= .returned (YZ (Jb3 m))∧YK w w' e F (Qe1 m):=by
 obtain⟨cs,tb,bb,bk,im,T,tc,Al,lc,lv,bu,se,Ap,pc,es,mc,G,own,hM,hF⟩:=h
 have c:=hM.cell hM.ec.c14
 have f:=hM.frozen 14
 have HM:=QQ hM
 have HF:=QQ hF
 clear hM hF
 obtain⟨p,hp⟩: ∃p,m.ph=p:=⟨_,rfl⟩
 rw[hp]at c
 have HP:=QQ hp
 clear hp
 by_cases c6:p=6
 ·have d:=J3 c6
  have HE:Hid (Jb3 m=6∧Qe1 m=m):=QQ (by unfold Jb3 Qe1;rw[HP.out,if_pos (.inl c6),if_pos (.inl c6)];exact⟨rfl,rfl⟩);clear c6;rw[HE.out.1,HE.out.2];go_enter Tryz.func14,Tryz.ntmps14
  go_wp2;go_ret;exact⟨rfl,_,HM.out.at_ (fun _ _ _=>rfl),(VZ.of_below (Below.refl _ _)).bstep HF.out⟩
 ·have d:=UX c6
  by_cases c7:p=7
  ·have d7:=J3 c7
   have HE:Hid (Jb3 m=6∧Qe1 m=m):=QQ (by unfold Jb3 Qe1;rw[HP.out,if_pos (.inr c7),if_pos (.inr c7)];exact⟨rfl,rfl⟩);clear c6 c7;rw[HE.out.1,HE.out.2];go_enter Tryz.func14,Tryz.ntmps14
   go_wp2;go_ret;exact⟨rfl,_,HM.out.at_ (fun _ _ _=>rfl),(VZ.of_below (Below.refl _ _)).bstep HF.out⟩
  ·have d7:=UX c7
   have HE:Hid (Jb3 m=0∧Qe1 m= {m with ph:=6}):=QQ (by unfold Jb3 Qe1;rw[HP.out,if_neg (by omega),if_neg (by omega)];exact⟨rfl,rfl⟩);clear c6 c7;rw[HE.out.1,HE.out.2];go_enter Tryz.func14,Tryz.ntmps14
   go_wp2;go_ret;obtain⟨hM2,ho⟩:=HM.out.setPh 6;exact⟨rfl,_,hM2.at_ (fun _ _ _=>rfl),ho.bstep HF.out⟩
theorem Y9 (h:UY w e F m) (hn: -1000000000000≤m.now∧m.now≤1000000000000) (ht:0≤m.tk∧m.tk≤1000000):Calls Tryz.prog 38 #[.pointer (some ⟨e,0,none⟩)] w fun ev w'=>ev= .returned (.tuple #[])∧YK w w' e F (Jg8 m):=by
 obtain⟨cs,tb,bb,bk,im,T,tc,Al,lc,lv,bu,se,Ap,pc,es,mc,G,own,hM,hF⟩:=h
 have c4:=hM.cell hM.ec.c4
 have c15:=hM.cell hM.ec.c15
 have c14:=hM.cell hM.ec.c14
 have c16:=hM.cell hM.ec.c16
 have c17:=hM.cell hM.ec.c17
 have f14:=hM.frozen 14
 have f16:=hM.frozen 16
 have f17:=hM.frozen 17
 have i1:RowKit.wrap64 (m.now+m.tk)=m.now+m.tk:=by unfold RowKit.wrap64;omega
 have HM:=QQ hM
 have HF:=QQ hF
 clear hM hF hn ht
 go_enter Tryz.func38,Tryz.ntmps38
 go_region
 go_wp2
 refine bodyPost_end (results_none rfl _ _ _) rfl ?_
 obtain⟨hM1,ho1⟩:=HM.out.setPh 4
 obtain⟨hM2,ho2⟩:=hM1.setEnds (m.now+m.tk)
 obtain⟨hM3,ho3⟩:=hM2.setLng 0
 have hd:=Below.drew (Below.refl (((w.setCell ⟨e,14,none⟩ (.int .i64 4)).setCell ⟨e,16,none⟩ (.int .i64 (m.now+m.tk))).setCell ⟨e,17,none⟩ (.int .i64 0)).heap.size (((w.setCell ⟨e,14,none⟩ (.int .i64 4)).setCell ⟨e,16,none⟩ (.int .i64 (m.now+m.tk))).setCell ⟨e,17,none⟩ (.int .i64 0)))
 exact⟨rfl,_,(hM3.below hd).at_ (m:=Jg8 m) (fun _ _ _=>rfl),(((ho1.trans ho2).trans ho3).trans (VZ.of_below hd)).bstep HF.out⟩
end
theorem Xc1 {w:World} {e:Nat} {F:Nat→Prop} {m:ZX} (h:UY w e F m):
  Calls Tryz.prog 23 #[.pointer (some ⟨e,0,none⟩)] w fun ev w'=>ev= .returned (.tuple #[])∧YK w w' e F (Qu5 m):=by
 obtain⟨cs,tb,bb,bk,im,T,tc,Al,lc,lv,bu,se,Ap,pc,es,mc,G,own,hM,hF⟩:=h
 have HN:=QQ (Qx1 w)
 have HM:=QQ hM
 have HF:=QQ hF
 clear hM hF
 go_enter Tryz.func23,Tryz.ntmps23
 go_wp2_with fail
 refine HN.out.mono ?_
 rintro ev w2 ⟨hb2,b,G2,hG2,rfl,hB2⟩
 have hM2:=HM.out.below hb2
 obtain⟨hM3,ho3⟩:=hM2.setPh 7
 obtain⟨own4,hM4,ho4⟩:=hM3.pkNil
 have hB4:=(hB2.keeps (QK.set_ w2 ⟨e,14,none⟩ (.int .i64 7)) (fun i hi hie=>by have h1:=hG2 i hi;have h2:=QJ.lt HM.out.ind.blk;have h3:i=e:=hie;omega)).keeps (QK.set_ (w2.setCell ⟨e,14,none⟩ (.int .i64 7)) ⟨e,12,none⟩ (.slice none 0 0)) (fun i hi hie=>by have h1:=hG2 i hi;have h2:=QJ.lt HM.out.ind.blk;have h3:i=e:=hie;omega)
 have hs3:=ho3.1.size
 obtain⟨own5,hM5,hk5,hg5⟩:=hM4.otherBook (M1:= []) (M2:= []) hB4 (fun i k hi hk=>by
  have h1:=hG2 i hi;have h2:=hB2.fp hi;rcases ho4.2 i k hk with h3|h3
  ·have:=HM.out.ok.lt i k h3;omega
  ·omega)
 obtain⟨hM6,ho6⟩:=hM5.indNil
 have c14:=hM2.cell hM2.ec.c14
 have c12:=hM3.cell hM3.ec.c12
 have c8:=hM4.cell hM4.ec.c8
 have c9:=hM5.ind.cells
 have f14:=hM2.frozen 14
 have f12:=hM3.frozen 12
 have f8:=hM4.frozen 8
 have f9:=hM5.frozen 9
 have f10:=hM5.frozen 10
 have f11:=hM5.frozen 11
 obtain⟨c9,c10,c11⟩:=c9
 have HM6:=QQ hM6
 have HO:=QQ (And.intro hb2 (And.intro ho3 (And.intro ho4 (And.intro hk5 (And.intro hg5 ho6)))))
 have HG2:=QQ hG2
 clear hM2 hM3 hM4 hM5 hM6 ho3 ho4 hk5 hg5 ho6 hb2 hG2 hB2 hB4 hs3 HN
 go_wp2_with fail
 refine bodyPost_end (results_none rfl _ _ _) rfl ?_
 obtain⟨hb2,ho3,ho4,hk5,hg5,ho6⟩:=HO.out
 refine⟨rfl,_,UJ.at_ (m:=Qu5 m) HM6.out (fun _ _ _=>rfl), ?_⟩
 have o4:=((VZ.of_below hb2).trans ho3).trans ho4
 have o5:VZ w _ own own5:=⟨o4.1.trans hk5 (fun i ⟨k,hk⟩=>(o4.2 i k hk).imp (fun x=>⟨k,x⟩) id),fun i k hi=> ?_⟩
 ·exact(o5.trans ho6).bstep HF.out
 ·rcases hg5 i k hi with h1|h1
  ·exact o4.2 i k h1
  ·exact .inr (HG2.out i h1)
theorem Ki6 (l:List QX): ∀m:ZX,(UK m l).pk=m.pk:=by
 induction l with
 |nil=>intro m;rfl
 |cons o t ih=>intro m;exact ih (Qc8 m o)
theorem Xp8 (m:ZX) (l:List QX) (o:QX):UK m (l++ [o])=Qc8 (UK m l) o:=by unfold UK;rw[List.foldl_append];rfl
theorem Jn7 {w:World} {e:Nat} {F:Nat→Prop} {m:ZX} (h:UY w e F m) (hpk: ∀o∈m.pk,Qe5 o) (hcnt:m.pk.length≤100000):
  Calls Tryz.prog 39 #[.pointer (some ⟨e,0,none⟩)] w fun ev w'=>ev= .returned (.tuple #[])∧YK w w' e F (Qg6 m):=by
 obtain⟨cs,tb,bb,bk,im,T,tc,Al,lc,lv,bu,se,Ap,pc,es,mc,G,own,hM,hF⟩:=h
 obtain⟨hM1,ho1⟩:=hM.setPh 5
 have c14:=hM.cell hM.ec.c14
 have f14:=hM.frozen 14
 have c12:=hM1.cell hM1.ec.c12
 have hcap:=hM.park.1
 have HM1:=QQ hM1
 have HO1:=QQ ho1
 have HF:=QQ hF
 have HPk:=QQ hpk
 obtain⟨n,hn⟩: ∃n,m.pk.length=n:=⟨_,rfl⟩
 have HN:=QQ hn
 rw[hn]at hcnt
 have e12:({m with ph:=5}:ZX).pk.length=n:=hn
 rw[e12]at c12
 clear hM hM1 ho1 hF hpk hcap e12 hn
 go_enter Tryz.func39,Tryz.ntmps39
 go_upto_region 1 with fail
 obtain⟨w1,ew1⟩: ∃W,w.setCell ⟨e,14,none⟩ (.int .i64 5)=W:=⟨_,rfl⟩
 rw[ew1]at c12 HM1 HO1⊢
 clear ew1 c14 f14
 go_wp2_with fail
 go_loopg [12] n (fun gg s12 wr=> ∃(k:Nat),k≤n∧gg=n-k∧s12= .int .i64 k∧Hid (Ku5 w1 wr e tb bb bk im T tc Ap pc es mc own (UK {m with ph:=5} (m.pk.take k))))
 case atStart=>exact⟨0,Nat.zero_le _,rfl,rfl,QQ ⟨_,_,_,_,_,_,_,_,HM1.out,VZ.of_below (Below.refl _ _)⟩⟩
 case round=>
  obtain⟨k,hk,rfl,rfl,HL⟩:=hrel;obtain⟨cs1,Al1,lc1,lv1,bu1,se1,G1,own1,hMr,hor⟩:=HL.out;have HMr:=QQ hMr;have HOr:=QQ hor;clear hMr hor HL
  by_cases hlt:k<n
  ·have hkl:k<m.pk.length:=by rw[HN.out];exact hlt
   have hpark:=HMr.out.park;rw[Ki6]at hpark;obtain⟨gp,hgp⟩:=Qc7 hpark (by show 0<m.pk.length;omega);subst hgp;obtain⟨y0,y1,y2,y3,y4⟩:=Qz0 hpark hkl;have hfit:=HPk.out _ (List.getElem_mem hkl);have htake:m.pk.take (k+1)=m.pk.take k++ [m.pk[k]]:=List.take_succ_eq_append_getElem hkl;obtain⟨x,hx⟩: ∃x,m.pk[k]=x:=⟨_,rfl⟩;rw[hx]at y0 y1 y2 y3 y4 hfit htake;have HTake:=QQ htake;have hltz:(k:Int)< (n:Int):=by omega
   have hk7:(0:Int)≤(k:Int):=by omega
   have hbx:Below wr.heap.size wr (wr.alloc (.cells #[.int .i64 x.id,.int .i64 x.side,.int .i64 x.kind,.int .i64 x.price,.int .i64 x.qty] 29)):=(Below.refl _ wr).alloc (Nat.le_refl _) _;have hZ:=QJ.new wr 29 #[.int .i64 x.id,.int .i64 x.side,.int .i64 x.kind,.int .i64 x.price,.int .i64 x.qty];have hMz:=HMr.out.below hbx;obtain⟨wz,ewz⟩: ∃W,wr.alloc (.cells #[.int .i64 x.id,.int .i64 x.side,.int .i64 x.kind,.int .i64 x.price,.int .i64 x.qty] 29)=W:=⟨_,rfl⟩;rw[ewz]at hbx hZ hMz;have hlie:=Kb8 hMz x hfit;unfold KQ at hlie;have HLie:=QQ hlie;have HBx:=QQ hbx;have HZ:=QQ hZ;clear htake hx hfit hpark hbx hZ hMz hlie;go_upto_region 4 with fail
   try rw[ewz]
   clear ewz y0 y1 y2 y3 y4;obtain⟨z0,z1,z2,z3,z4⟩:=Jx6 HZ.out;go_wp2_with fail
   refine HLie.out.mono ?_;rintro ev w4 ⟨rfl,cs4,Al4,lc4,lv4,bu4,se4,G4,own4,hM4,ho4⟩;have HM4:=QQ hM4;have HO4:=QQ ho4;clear hM4 ho4 z0 z1 z2 z3 z4;go_wp2_with fail
   go_roundg (n- (k+1))
   case measure=>omega
   case rel=>exact⟨k+1,by omega,rfl,by go_num,QQ ⟨_,_,_,_,_,_,_,_,by rw[HTake.out,Xp8];exact HM4.out,(HOr.out.trans (VZ.of_below HBx.out)).trans HO4.out⟩⟩
  ·obtain rfl:k=n:=by omega
   have hltz: ¬(k:Int)< (k:Int):=by omega
   have d12:=HMr.out.cell HMr.out.ec.c12;have g12:=HMr.out.frozen 12;go_wp2_with fail
   refine bodyPost_end (results_none rfl _ _ _) rfl ?_;obtain⟨own5,hM5,ho5⟩:=HMr.out.pkNil;rw[List.take_of_length_le (by rw[HN.out];exact Nat.le_refl _)]at hM5;exact⟨rfl,_,UJ.at_ (m:=Qg6 m) hM5 (fun _ _ _=>rfl),((HO1.out.trans HOr.out).trans ho5).bstep HF.out⟩
section
variable {w w':World} {e:Nat} {F:Nat→Prop} {cs:Array Value} {tb bb bk im:Nat} {T:Option Addr} {tc:Nat} {Al:Option Addr} {lc:Nat} {lv:List XJ} {bu se:Int} {Ap:Option Addr} {pc:Nat} {es:List MapEntry} {mc:Nat} {G:Nat→Prop} {own:Nat→Nat→Prop} {m:ZX}
theorem Xc2 (hM:UJ w e cs tb bb bk im T tc Al lc lv bu se Ap pc es mc G own (fun s k=>Q2 s k (Qc1 m)) m) (hla:1≤m.la∧m.la≤1000000) (W:World) (hW:Below w.heap.size w W):
  Calls Tryz.prog 44 #[.pointer (some ⟨e,9,none⟩),.int .i64 m.la] W fun ev w'=>ev= .returned (Qv2 (YW m))∧Below W.heap.size W w':=by
 have hl:=hM.book.lists
 have hr:=J9 hl
 have hp:=hM.is.points hM.ind.ok hr m.la
 have hcnt:(Qc1 m).length≤100:=hl.cnt
 have hnear:=Kn8 (l:=Qc1 m) (more:=m.la) hcnt (fun o ho hk=>(hr o ho).2.2.resolve_left hk) hla.2
 have hN: ∀p∈Q9 lv bu se m.la,Je4 p:=fun p h=>by
  have h1:=hnear p (hp▸h);exact⟨⟨h1.1,h1.2.1⟩,⟨by omega,by omega⟩,⟨by omega,by omega⟩⟩
 have hlen:(Q9 lv bu se m.la).length≤100000:=by
  have h1:=Xs4 (Qc1 m) m.la;have h2:(Q9 lv bu se m.la).length=(Z9 (Qc1 m) m.la).length:=congrArg List.length hp;omega
 have key:=Kf8 W e 77 cs 9 Al lc lv bu se (hM.below hW).ind (Ju6 hl hM.ind.ok hM.is) m.la (by omega) hN hlen
 have e2:Q7 (Q9 lv bu se m.la) m.la=YW m:=by
  unfold YW;rw[hp]
  rfl
 rw[e2]at key
 exact key
end
theorem Xc3 {L1 L2:List QX} (h:XY L1 L2) (p:Int):Qo5 p (L1++L2)=V7 1 p L1:=by
 have e1:Qo5 p (L1++L2)=Qb4 (Jb7 p) (L1++L2):=by unfold Qo5;rw[Jt6];omega
 have e3:Qb4 (Jb7 p) L2=0:=Xa9 fun o ho=>by unfold Jb7;rw[if_neg (by have:=h.s2 o ho;omega)]
 have e4:Qb4 (Jb7 p) L1=V7 1 p L1:=Jt7 fun o ho=>by
  have:=h.s1 o ho;unfold Jb7 O2
  by_cases hk:o.kind=2<;>by_cases hp:p≤o.price<;>simp[this,hk,hp]
 rw[e1,Qx6,e3,e4]
 omega
theorem Xc4 {L1 L2:List QX} (h:XY L1 L2) (p:Int):Qo6 p (L1++L2)=V7 2 p L2:=by
 have e1:Qo6 p (L1++L2)=Qb4 (Jb8 p) (L1++L2):=by unfold Qo6;rw[Jt6];omega
 have e3:Qb4 (Jb8 p) L1=0:=Xa9 fun o ho=>by unfold Jb8;rw[if_neg (by have:=h.s1 o ho;omega)]
 have e4:Qb4 (Jb8 p) L2=V7 2 p L2:=Jt7 fun o ho=>by
  have:=h.s2 o ho;unfold Jb8 O2
  by_cases hk:o.kind=2<;>by_cases hp:o.price≤p<;>simp[this,hk,hp]
 rw[e1,Qx6,e3,e4]
 omega
theorem Jn8 {L1 L2:List QX} (h:XY L1 L2):Ja5 (L1++L2):=fun o ho=>by
 have h1:=J9 h o ho
 unfold okO
 rw[J4 h1.2.1.1,J4 h1.2.1.2]
 rcases h1.1 with e|e
 ·rw[e];rfl
 ·rw[e];rfl
theorem Xp9 {L1 L2:List QX} (h:XY L1 L2) {more:Int} (hm:1≤more∧more≤1000000): ∀y∈Z9 (L1++L2) more,1≤y.1∧y.1≤1000000:=by
 intro y hy
 obtain⟨q,hq,rfl⟩:=List.mem_map.1 hy
 have hq:=(Xs5 _ _).1 hq
 show 1≤q∧q≤1000000
 unfold V9 at hq
 rcases List.mem_append.1 hq with hq|hq
 ·rw[if_pos hm.1]at hq
  simp at hq;omega
 ·obtain⟨o,ho,rfl⟩:=List.mem_map.1 hq
  have h1:=(List.mem_filter.1 (List.mem_filter.1 ho).1).1;exact(h.ok o h1).2.2.1
theorem Ja1 {m:ZX} (h:XY m.L1 m.L2) (hla:1≤m.la∧m.la≤1000000) (hq:0< (YW m).2.1):
  (YW m).2.1≤V7 1 (YW m).1 m.L1∧(YW m).2.1≤V7 2 (YW m).1 m.L2∧1≤(YW m).1∧(YW m).1≤1000000:=by
 have hb:=(Jz4 (Jn8 h) hla.1 m.la).2 hq
 have h1:=hb.1
 rw[Xc3 h,Xc4 h]at h1
 have h2:(YW m).2.1=min (V7 1 (YW m).1 m.L1) (V7 2 (YW m).1 m.L2):=h1
 refine⟨by omega,by omega, ?_⟩
 rcases choose_spec (Z9 (Qc1 m) m.la) m.la with⟨e,-⟩|⟨y,hy,e,-,-⟩
 ·have:(YW m).2.1=0:=by unfold YW;rw[e]
  omega
 ·have e2:(YW m).1=y.1:=by unfold YW;rw[e]
  rw[e2];exact Xp9 h hla y hy
def Qb5 (L:List QX):List QX:=L.filter fun o=>o.kind ==1
theorem Qp4 {L:List QX} {o:QX} (h:o.kind=1):Qb5 (L++ [o])=Qb5 L++ [o]:=by unfold Qb5;rw[List.filter_append,List.filter_cons_of_pos (by simp[h])];rfl
theorem Qt7 {L:List QX} {o:QX} (h:o.kind≠1):Qb5 (L++ [o])=Qb5 L:=by unfold Qb5;rw[List.filter_append,List.filter_cons_of_neg (by simpa using h)];simp
theorem Qy1 {L:List QX} {o:QX} (h:o∈Qb5 L):o∈L:=(List.mem_filter.1 h).1
def Qy2 (l:List QX) (k:Nat):List QX:=Qb5 (l.take k)++l.drop k
theorem Xc5 (l:List QX):Qy2 l 0=l:=by unfold Qy2;rw[List.take_zero,List.drop_zero];rfl
theorem Xq0 {l:List QX} {k:Nat} (h:l.length≤k):Qy2 l k=Qb5 l:=by unfold Qy2;rw[List.take_of_length_le h,List.drop_eq_nil_of_le h,List.append_nil]
theorem Xq1 {l:List QX} {k:Nat} (hk:k<l.length) (h:l[k].kind=1):Qy2 l (k+1)=Qy2 l k:=by
 unfold Qy2
 rw[List.take_succ_eq_append_getElem hk,Qp4 h,List.drop_eq_getElem_cons hk]
 simp
theorem Kc1 {l:List QX} {k:Nat} (hk:k<l.length) (h:l[k].kind≠1) (hn:(l.map (·.id)).Nodup):O6 (Qy2 l k) l[k].id=Qy2 l (k+1)∧l[k]∈Qy2 l k:=by
 have hd:=List.drop_eq_getElem_cons hk
 have e:l=l.take k++l[k]::l.drop (k+1):=by rw[←hd,List.take_append_drop]
 have hn2:((l.take k++l[k]::l.drop (k+1)).map (·.id)).Nodup:=by rw[←e];exact hn
 rw[List.map_append,List.map_cons,List.nodup_append,List.nodup_cons]at hn2
 refine⟨?_,List.mem_append_right _ (by rw[hd];exact List.mem_cons_self)⟩
 unfold Qy2
 rw[List.take_succ_eq_append_getElem hk,Qt7 h,hd]
 unfold O6
 rw[List.filter_append,List.filter_cons_of_neg (by simp),List.filter_eq_self.2 (fun y hy=> ?_),List.filter_eq_self.2 (fun y hy=> ?_)]
 ·have:y.id≠l[k].id:=fun e2=>hn2.2.1.1 (by rw[←e2];exact List.mem_map.2 ⟨y,hy,rfl⟩)
  simpa using this
 ·have:=hn2.2.2 _ (List.mem_map.2 ⟨y,Qy1 hy,rfl⟩) _ (List.mem_cons_self)
  simpa using this
end Go.Proofs.YtnlngicnfegjgaaGreat
