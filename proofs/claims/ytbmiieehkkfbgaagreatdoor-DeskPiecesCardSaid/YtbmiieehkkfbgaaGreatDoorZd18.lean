/- Contracts and walks that the law's proof needs. -/
import Derived.RangeFuncNested
import Derived.RangeFuncBound
import Derived.RangeFuncCalls
import Derived.RangeFuncLeaves
import Derived.Shelf.Abstract
import Derived.Shelf.RegionOpen
import Derived.WalkKit
import Derived.OwnWalkIn
import Derived.TacticsInMore
import Derived.LoopNIn
import Derived.LoopIn
import Derived.Stop.RegionWithIn
import Derived.Sort.LoopGhostIn
import Derived.Sort.CutIn
import Derived.Sort.QuietTacIn
import Derived.Sort.BigQuietIn
import Derived.Test.YtbmiieehkkfbgaaGreatDoorZd14
set_option linter.unusedVariables false
set_option maxRecDepth 100000
set_option maxHeartbeats 8000000
namespace Go.Proofs.YtbmiieehkkfbgaaGreatDoor
open Go.RowKit
attribute [local go_sem] Oper.semAt_some
theorem Ji1 {β:Type} {B:Nat} {J:β→World→Prop} (h:AbidesFrom B J) {s:β} {W W':World} (hs:J s W) (hb:Below W.heap.size W W'):J s W':=
 h s W W' none hs ⟨hb.os,hb.tape,hb.output,hb.size,fun k hk _=>hb.block k hk⟩ (fun r e=>by cases e)
theorem XK.under {w w':World} {b a n r B:Nat} {F:Nat→Prop} {M:Int→Int→Option QX} {f:Int→Option Value} {H:Int→HS} {reg:Nat→Int} (h:XK w b a F M n r f H reg) (hb:Below B w w') (hB: ∀i,V6 b r F H i→i<B):XK w' b a F M n r f H reg:=by
 have hk:QK (fun i=>B≤i) w w':=⟨hb.os,hb.tape,hb.output,hb.size,fun k _ hn=>hb.block k (by omega)⟩
 exact h.keeps hk (fun i hi e=>by have:=hB i hi;omega)
theorem Qo6:UQ 1:= .inl rfl
theorem Zh2 {M:Int→Int→Option QX} {n:Nat} {f:Int→Option Value} {H:Int→HS} {s:Int} (hs:UQ s) (hS:ZX M n f H) (h2:n≤100):(H s).ms.length≤1000:=by
 have h1:=hS.cnt
 unfold X0 HS.all V2 at h1
 simp only[List.length_append]at h1
 rcases hs with rfl|rfl<;>omega
theorem O7 {w:World} {g:Nat} {t:TypeId} {a b c d e:Value} (h:QJ w g t #[a,b,c,d,e]):
  w.cell? ⟨g,0,none⟩=some a∧w.cell? ⟨g,1,none⟩=some b∧w.cell? ⟨g,2,none⟩=some c∧w.cell? ⟨g,3,none⟩=some d∧w.cell? ⟨g,4,none⟩=some e:=
 ⟨by rw[QJ.cell h];rfl,by rw[QJ.cell h];rfl,by rw[QJ.cell h];rfl,by rw[QJ.cell h];rfl,by rw[QJ.cell h];rfl⟩
def Got (w wx:World) (o:QX) (s7:Value):Prop:= ∃ob,s7= .pointer (some ⟨ob,0,none⟩)∧Below w.heap.size w wx∧QJ wx ob 117 (KV o)
def Zn0 (W0:World) (a:Nat) (h1 h2:Int) (o:QX):Prop:=
 ∀W,Below W0.heap.size W0 W→Calls Tryz.prog 118 #[.pointer (some ⟨a,0,none⟩),.agg #[.int .i64 h1,.int .i64 h2]] W fun e w'=>
  e= .returned (.tuple #[.agg #[.int .i64 o.id,.int .i64 o.side,.int .i64 o.kind,.int .i64 o.price,.int .i64 o.qty],.nilIface])∧Below W.heap.size W w'
theorem Ji2 {w:World} {b a n r:Nat} {F:Nat→Prop} {M:Int→Int→Option QX} {f:Int→Option Value} {H:Int→HS} {reg:Nat→Int} {h1 h2:Int} {o:QX} (hM:XK w b a F M n r f H reg) (hMx:M h1 h2=some o):Zn0 w a h1 h2 o:=by
 intro W hW
 refine(Zd9 (hM.ar.below hW) h1 h2).mono ?_
 rintro e w' ⟨rfl,hb⟩
 exact⟨by unfold Kl6 Kl7;rw[hMx];rfl,hb⟩
theorem Qo7:UQ 2:= .inr rfl
theorem Ji3 (w:World) (g:Nat) (a b c d e:Value):QK (fun i=>i=g) w (((((w.setCell ⟨g,0,none⟩ a).setCell ⟨g,1,none⟩ b).setCell ⟨g,2,none⟩ c).setCell ⟨g,3,none⟩ d).setCell ⟨g,4,none⟩ e):=
 ((((QK.set_ w ⟨g,0,none⟩ a).trans (QK.set_ _ ⟨g,1,none⟩ b) (fun i h=> .inl h)).trans (QK.set_ _ ⟨g,2,none⟩ c) (fun i h=> .inl h)).trans (QK.set_ _ ⟨g,3,none⟩ d) (fun i h=> .inl h)).trans (QK.set_ _ ⟨g,4,none⟩ e) (fun i h=> .inl h)
section
variable {M:Int→Int→Option QX} {n:Nat} {f:Int→Option Value} {H:Int→HS} {s:Int} {q:QG} {h:HS}
theorem Zh3 (hs:UQ s) (hS:ZX M n f H) (h2:n≤100):(H s).qs.length≤100000:=by
 have h1:=hS.cnt
 have h3:(H s).qs.length≤(IJ (H s).qs).length:=by
  have hne:=hS.ne s hs;generalize(H s).qs=l at hne
  induction l with
  |nil=>simp
  |cons q l ih=>
   have ih:=ih (fun q hq=>hne q (by simp[hq]));have h0:0<q.os.length:=List.length_pos_iff.2 (hne q (by simp));have e:IJ (q::l)=q.os++IJ l:=rfl;rw[e,List.length_append,List.length_cons];omega
 unfold X0 HS.all V2 at h1
 simp only[List.length_append]at h1
 rcases hs with rfl|rfl<;>omega
theorem Zh4 (hs:UQ s) (hS:ZX M n f H) (h2:n≤100) {k:Nat} (hk:k< (H s).qs.length):(H s).qs[k].os.length≤1000:=by
 have h1:=hS.cnt
 have h3:(H s).qs[k].os.length≤(IJ (H s).qs).length:=by
  rw[Y1 _ hk];simp only[List.length_append];omega
 unfold X0 HS.all V2 at h1
 simp only[List.length_append]at h1
 rcases hs with rfl|rfl<;>omega
theorem Xe0 {qs:List QG} {j:Nat} (hj:j<qs.length) (hq:qs[j]=q):IJ (qs.take (j+1))=IJ (qs.take j)++q.os:=by
 rw[List.take_succ_eq_append_getElem hj,hq]
 unfold IJ
 rw[List.flatMap_append]
 simp
theorem Kh1 (h:HS) (k:Nat):IX (h.ms.take k) <+: h.L:=by
 refine⟨IX (h.ms.drop k++IJ h.qs), ?_⟩
 unfold HS.L HS.all V2
 rw[←Z7,←List.append_assoc,List.take_append_drop]
theorem Kh2 {j:Nat} (hj:j<h.qs.length) (hq:h.qs[j]=q) (i:Nat):IX (h.ms++(IJ (h.qs.take j)++q.os.take i)) <+: h.L:=by
 refine⟨IX (q.os.drop i++IJ (h.qs.drop (j+1))), ?_⟩
 unfold HS.L HS.all V2
 rw[←Z7,Y1 h.qs hj,hq]
 congr 1
 simp only[List.append_assoc]
 rw[←List.append_assoc (q.os.take i),List.take_append_drop]
theorem Xs8 {j i:Nat} (hj:j<h.qs.length) (hq:h.qs[j]=q) (hi:i<q.os.length):(IX (h.ms++(IJ (h.qs.take j)++q.os.take i))).length<h.L.length:=by
 unfold HS.L HS.all V2
 rw[Y1 h.qs hj,hq]
 unfold IX
 simp only[List.length_map,List.length_append,List.length_take]
 omega
end
attribute [local go_sem] Oper.semAt_some
theorem Kw4 (n:Nat) (hn:2≤n) (l B1 B2 b a r:Nat) (S:Nat→Prop) (F:Nat→Prop) (M:Int→Int→Option QX) (N:Nat) (f:Int→Option Value) (H:Int→HS) (reg:Nat→Int) (hS:ZX M N f H) (hN:N≤100) (J Jx:List QX→World→Prop)
  (hJ: ∀pre W W',J pre W→Below W.heap.size W W'→J pre W')
  (hY: ∀pre x W,J pre W→pre.length< (H 1).L.length→YieldAt Fence.wide (n-1) Tryz.prog l #[KJ x] W fun e W'=>
   (e= .returned (.bool true)∧J (pre++ [x]) W'∧QK S W W')∨(e= .returned (.bool false)∧Jx (pre++ [x]) W'))
  (W:World) (hM:XK W b a F M N r f H reg) (hfp: ∀i,V6 b r F H i→ ¬S i) (hs1: ¬S B1) (hB1:W.cell? ⟨B1,0,none⟩=some (.pointer (some ⟨b,0,none⟩))) (hB2:W.cell? ⟨B2,0,none⟩=some (.int .i64 1)) (h0:J [] W):
  CallsIn Fence.wide n Tryz.prog 157 #[.func (.yield l) #[] #[],.pointer (some ⟨B1,0,none⟩),.pointer (some ⟨B2,0,none⟩)] W fun e W'=>(∃v,e= .returned v)∧
   ((∃ys,ys=(H 1).L∧J ys W')∨(∃pre,pre <+: (H 1).L∧Jx pre W')):=by
 have y2:=hM.cells.2.2.1
 have hb1:=World.block_lt_of_cell? W _ hB1
 have HM:=QQ hM
 have HSm:=QQ hS
 have HJ:=QQ hJ
 have HY:=QQ hY
 have H0:=QQ h0
 have Hfp:=QQ hfp
 have HN:=QQ hN
 clear hM hS hJ hY h0 hfp hN
 refine callsIn_of_wp Tryz.func157 rfl trivial ?_ rfl
 simp only[Tryz.ntmps157,List.size_toArray,List.length_cons,List.length_nil,Nat.reduceAdd,Nat.reduceSub,Array.replicate_succ,Array.replicate_zero,List.push_toArray,List.append_toArray,List.nil_append,List.cons_append]
 gi_wp2
 gi_quiet (fail)
 gi_wp2
 obtain⟨m,hm⟩: ∃m,(H 1).ms.length=m:=⟨_,rfl⟩
 have Hm:=QQ hm
 have hm1:m≤1000:=by rw[←hm];exact Zh2 Qo6 HSm.out HN.out
 rw[hm]
 clear y2 hm
 gi_loopg [26] m (fun gg s26 wr=> ∃k:Nat,k≤m∧m-k≤gg∧s26= .int .i64 k∧J (IX ((H 1).ms.take k)) wr∧QK S W wr)
 case atStart=>exact⟨0,Nat.zero_le _,Nat.le_refl _,rfl,HJ.out _ _ _ H0.out (QY (Below.refl _ _) _),QK.of_below (QY (Below.refl _ _) _) S⟩
 case round=>
  obtain⟨k,hk,hgk,rfl,hj,hB⟩:=hrel
  by_cases hlt:k<m
  ·have hkl:k< (H 1).ms.length:=by have:=Hm.out;omega
   have hMr:=HM.out.keeps hB Hfp.out;have hrow:=(hMr.hx 1 Qo6).rm;obtain⟨g,hg,-⟩:=hrow.elem X8 (by omega) (i:=k) (by simpa [J7]using hkl);rw[hg]at hrow;obtain⟨x0,x1⟩:=Ja9 hrow (i:=k) (by simpa [J7]using hkl);obtain⟨x,hx⟩: ∃x,(H 1).ms[k]'hkl=x:=⟨_,rfl⟩;have ex:(J7 (H 1).ms)[k]'(by simpa [J7]using hkl)=x.1:=by rw[←hx];simp[J7]
   rw[ex]at x0 x1;have hxm:x∈X0 H:=OX Qo6 (List.mem_append_left _ (by rw[←hx];exact List.getElem_mem _));have Hpre:=QQ (show IX ((H 1).ms.take (k+1))=IX ((H 1).ms.take k)++ [x.2] by rw[List.take_succ_eq_append_getElem hkl,hx,Z7];rfl);have hMx:=HSm.out.hM x hxm;have b1:wr.cell? ⟨B1,0,none⟩=some (.pointer (some ⟨b,0,none⟩)):=(hB.cell (p:=⟨B1,0,none⟩) hb1 hs1).trans hB1;have y0:=hMr.cells.1;have hlen:=QQ (show(IX ((H 1).ms.take k)).length< (H 1).L.length by unfold HS.L HS.all V2 IX;simp;omega);obtain⟨⟨h1,h2⟩,o⟩:=x;dsimp only at x0 x1 hMx;have hbox:Below wr.heap.size wr (wr.alloc (.cells #[.int .i64 h1,.int .i64 h2] 170)):=(Below.refl _ _).alloc (Nat.le_refl _) _;have hget:=Ji2 (hMr.below hbox) hMx;have HG:=QQ hget;have Hj:=QQ hj;have HB:=QQ hB;have hb1l:B1<wr.heap.size:=by have:=hB.size;omega
   have hbl:=QJ.lt hMr.blk;have Hg:=QQ hg;have hgl:=hrow.lt (g:=g) rfl;have hltz:(k:Int)< (m:Int):=by omega
   have hk0:(0:Int)≤(k:Int):=by omega
   have Hkl:=QQ hkl;clear hx hg hMr hj hB hget ex hMx hrow hbox hkl hxm;dsimp only at Hpre;rw[Hg.out]
   gi_upto_region 4 with fail
   gi_cut [7,8]from 83 (fun s7 s8 wx=>s8= .nilIface∧Got wr wx o s7)
   case first=>
    have hB0:=QQ (show Below wr.heap.size wr (wr.alloc (.cells #[.int .i64 h1,.int .i64 h2] 170)).drew from Below.drew ((Below.refl _ _).alloc (Nat.le_refl _) _));have hB00:=QQ (show Below wr.heap.size wr ((wr.alloc (.cells #[.int .i64 h1,.int .i64 h2] 170)).alloc (.cells #[.int .i64 0,.int .i64 0,.int .i64 0,.int .i64 0,.int .i64 0] 117)).drew from Below.drew (((Below.refl _ _).alloc (Nat.le_refl _) _).alloc (by simp) _));have HX0:=QQ (show QJ _ (wr.heap.size+1) 117 _ by simpa using QJ.new (wr.alloc (.cells #[.int .i64 h1,.int .i64 h2] 170)) 117 #[.int .i64 0,.int .i64 0,.int .i64 0,.int .i64 0,.int .i64 0]);have HA:=QQ (HG.out (wr.alloc (.cells #[.int .i64 h1,.int .i64 h2] 170)).drew (Below.drew (Below.refl _ _)));have HA2:=QQ (HG.out ((wr.alloc (.cells #[.int .i64 h1,.int .i64 h2] 170)).alloc (.cells #[.int .i64 0,.int .i64 0,.int .i64 0,.int .i64 0,.int .i64 0] 117)).drew (Below.drew ((Below.refl _ _).alloc (Nat.le_refl _) _)));have hw65:Fence.wide.fn 118:=trivial;have h1n:1≤n:=by omega
    gi_region_with (first|(gi_at_call 118;refine(callsIn_wide.2 HA.out).mono ?_;rintro e w5 ⟨rfl,hb5⟩;have HB5:=QQ (hB0.out.trans (hb5.mono (by simp<;>omega)));clear hb5)|(gi_at_call 118;refine(callsIn_wide.2 HA2.out).mono ?_;rintro e w5 ⟨rfl,hb5⟩;have hbx:=QJ.keep (QJ.drew HX0.out) hb5;have HB5:=QQ (hB00.out.trans (hb5.mono (by simp<;>omega)));have z0:=(O7 hbx).1;have z1:=(O7 hbx).2.1;have z2:=(O7 hbx).2.2.1;have z3:=(O7 hbx).2.2.2.1;have z4:=(O7 hbx).2.2.2.2;have f0:=QJ.frozen hbx 0;have f1:=QJ.frozen hbx 1;have f2:=QJ.frozen hbx 2;have f3:=QJ.frozen hbx 3;have f4:=QJ.frozen hbx 4;have HBx:=QQ hbx;clear hb5 hbx))
    all_goals gi_wp2
    all_goals gi_meet
    all_goals
     refine⟨rfl,_,rfl, ?_, ?_⟩
     ·first
      |(with_reducible exact HB5.out.alloc HB5.out.size _)
      |exact HB5.out.trans ((Ji3 _ _ _ _ _ _ _).below (B:=wr.heap.size) (fun i e=>by have e':i=wr.heap.size+1:=e;omega) HB5.out.size)
     ·unfold KV
      first
      |(with_reducible exact QJ.new _ _ _)
      |exact QJ.set_ (QJ.set_ (QJ.set_ (QJ.set_ (QJ.set_ HBx.out 0 _) 1 _) 2 _) 3 _) 4 _
   case rest=>
    obtain⟨rfl,ob,rfl,hbo,hbx⟩:=hcut;have hjc:=HJ.out _ _ _ Hj.out hbo;obtain⟨fn,tmps,assign,body,hy,hR⟩:=HY.out _ o wc hjc hlen.out;obtain⟨z0,z1,z2,z3,z4⟩:=JV hbx;unfold KJ at hy;have HR:=QQ hR;have hBc:=QQ (HB.out.then_ hbo);have h1n:1≤n:=by omega
    clear hR hjc hbo hbx b1 y0 x0 x1
    gi_wp2
    refine HR.out.mono ?_;rintro e W3 (⟨rfl,hj3,hk3⟩|⟨rfl,hjx3⟩)
    ·gi_wp2
     rw[←Hg.out]
     gi_roundg (m- (k+1))
     case measure=>omega
     case rel=>exact⟨k+1,by omega,Nat.le_refl _,by go_num,by rw[Hpre.out];exact hj3,hBc.out.trans hk3 (fun i h=> .inl h)⟩
    ·gi_wp2
     refine bodyPost_ret (results_none rfl _ _ _) rfl ?_;exact⟨⟨_,rfl⟩,.inr ⟨_,by rw[←Hpre.out];exact Kh1 _ _,hjx3⟩⟩
  ·obtain rfl:k=m:=by omega
   have hltz: ¬(k:Int)< (k:Int):=by omega
   have hMr:=HM.out.keeps hB Hfp.out;have y3:=hMr.cells.2.2.2.1;have hfull:IX ((H 1).ms.take k)=IX ((H 1).ms++IJ ((H 1).qs.take 0)):=by rw[List.take_of_length_le (by rw[Hm.out];exact Nat.le_refl _)];simp[IJ]
   rw[hfull]at hj;obtain⟨ql,hql⟩: ∃ql,(H 1).qs.length=ql:=⟨_,rfl⟩;rw[hql]at y3;have Hql:=QQ hql;have hql1:ql≤100000:=by rw[←hql];exact Zh3 Qo6 HSm.out HN.out
   have Hj0:=QQ hj;have HB0:=QQ hB;clear hMr hfull hj hB hql
   gi_wp2
   clear y3
   gi_loopg [53] ql (fun gg s53 wr=> ∃j:Nat,j≤ql∧ql-j≤gg∧s53= .int .i64 j∧J (IX ((H 1).ms++IJ ((H 1).qs.take j))) wr∧QK S W wr)
   case atStart=>exact⟨0,Nat.zero_le _,Nat.le_refl _,rfl,Hj0.out,HB0.out⟩
   case round=>
    obtain⟨j,hj,hgk,rfl,hjj,hB⟩:=hrel
    by_cases hlq:j<ql
    ·have hjl:j< (H 1).qs.length:=by have:=Hql.out;omega
     have hMr:=HM.out.keeps hB Hfp.out;have hrq:=(hMr.hx 1 Qo6).rq;obtain⟨qg,hqg,hqc⟩:=hrq.elem KX (by omega) (i:=j) (by simpa using hjl);obtain⟨q,hq⟩: ∃q,(H 1).qs[j]'hjl=q:=⟨_,rfl⟩;have q0:wr.cell? ⟨qg,j*2,none⟩=some (.int .i64 q.price):=by have:=hqc 0 _ rfl;rw[←hq];simpa [QG.que]using this
     have q1:wr.cell? ⟨qg,j*2+1,none⟩=some (.slice q.A q.os.length q.c):=by have:=hqc 1 _ rfl;rw[←hq];simpa [QG.que]using this
     have hqm:q∈(H 1).qs:=by rw[←hq];exact List.getElem_mem _
     obtain⟨m2,hm2⟩: ∃m2,q.os.length=m2:=⟨_,rfl⟩;rw[hm2]at q1;have hm2l:m2≤1000:=by rw[←hm2,←hq];exact Zh4 Qo6 HSm.out HN.out hjl
     have Hq:=QQ hq;have Hqm:=QQ hqm;have Hm2:=QQ hm2;have Hjl:=QQ hjl;have hlqz:(j:Int)< (ql:Int):=by omega
     have hj0:(0:Int)≤(j:Int):=by omega
     have HqA:=QQ hqg;have hba:Below wr.heap.size wr (wr.alloc (.cells #[.int .i64 q.price,.slice q.A m2 q.c] 236)):=(Below.refl _ _).alloc (Nat.le_refl _) _;have Hjj:=QQ (HJ.out _ _ _ hjj hba);have HBj:=QQ (hB.then_ hba);clear hMr hrq hqc hqm hm2 hqg hjj hB hba;rw[HqA.out]
     gi_wp2
     clear q0 q1
     gi_loopg [60] m2 (fun gg s60 wr=> ∃i:Nat,i≤m2∧m2-i≤gg∧s60= .int .i64 i∧J (IX ((H 1).ms++(IJ ((H 1).qs.take j)++q.os.take i))) wr∧QK S W wr)
     case atStart=>exact⟨0,Nat.zero_le _,Nat.le_refl _,rfl,by simpa using Hjj.out,HBj.out⟩
     case round=>
      obtain⟨i,hi,hgk2,rfl,hj,hB⟩:=hrel
      by_cases hli:i<m2
      ·have hil:i<q.os.length:=by have:=Hm2.out;omega
       have hMr:=HM.out.keeps hB Hfp.out;have hrow:=(hMr.hx 1 Qo6).rl q Hqm.out;obtain⟨g,hg,-⟩:=hrow.elem X8 (by omega) (i:=i) (by simpa [J7]using hil);rw[hg]at hrow;obtain⟨x0,x1⟩:=Ja9 hrow (i:=i) (by simpa [J7]using hil);obtain⟨x,hx⟩: ∃x,q.os[i]'hil=x:=⟨_,rfl⟩;have ex:(J7 q.os)[i]'(by simpa [J7]using hil)=x.1:=by rw[←hx];simp[J7]
       rw[ex]at x0 x1;have hxm:x∈X0 H:=OX Qo6 (List.mem_append_right _ (List.mem_flatMap.2 ⟨q,Hqm.out,by rw[←hx];exact List.getElem_mem _⟩));have Hpre:=QQ (show IX ((H 1).ms++(IJ ((H 1).qs.take j)++q.os.take (i+1)))=IX ((H 1).ms++(IJ ((H 1).qs.take j)++q.os.take i))++ [x.2] by rw[List.take_succ_eq_append_getElem hil,hx];simp[IX]);have hMx:=HSm.out.hM x hxm;have b1:wr.cell? ⟨B1,0,none⟩=some (.pointer (some ⟨b,0,none⟩)):=(hB.cell (p:=⟨B1,0,none⟩) hb1 hs1).trans hB1;have y0:=hMr.cells.1;have hlen:=QQ (show(IX ((H 1).ms++(IJ ((H 1).qs.take j)++q.os.take i))).length< (H 1).L.length from Xs8 Hjl.out Hq.out hil);obtain⟨⟨h1,h2⟩,o⟩:=x;dsimp only at x0 x1 hMx;have hbox:Below wr.heap.size wr (wr.alloc (.cells #[.int .i64 h1,.int .i64 h2] 170)):=(Below.refl _ _).alloc (Nat.le_refl _) _;have hget:=Ji2 (hMr.below hbox) hMx;have HG:=QQ hget;have Hj:=QQ hj;have HB:=QQ hB;have hb1l:B1<wr.heap.size:=by have:=hB.size;omega
       have hbl:=QJ.lt hMr.blk;have Hg:=QQ hg;have hgl:=hrow.lt (g:=g) rfl;have hliz:(i:Int)< (m2:Int):=by omega
       have hi0:(0:Int)≤(i:Int):=by omega
       have Hil:=QQ hil;clear hx hg hMr hj hB hget ex hMx hrow hbox hil hxm;dsimp only at Hpre;rw[Hg.out]
       gi_upto_region 13 with fail
       gi_cut [13,14]from 83 (fun s7 s8 wx=>s8= .nilIface∧Got wr wx o s7)
       case first=>
        have hB0:=QQ (show Below wr.heap.size wr (wr.alloc (.cells #[.int .i64 h1,.int .i64 h2] 170)).drew from Below.drew ((Below.refl _ _).alloc (Nat.le_refl _) _));have hB00:=QQ (show Below wr.heap.size wr ((wr.alloc (.cells #[.int .i64 h1,.int .i64 h2] 170)).alloc (.cells #[.int .i64 0,.int .i64 0,.int .i64 0,.int .i64 0,.int .i64 0] 117)).drew from Below.drew (((Below.refl _ _).alloc (Nat.le_refl _) _).alloc (by simp) _));have HX0:=QQ (show QJ _ (wr.heap.size+1) 117 _ by simpa using QJ.new (wr.alloc (.cells #[.int .i64 h1,.int .i64 h2] 170)) 117 #[.int .i64 0,.int .i64 0,.int .i64 0,.int .i64 0,.int .i64 0]);have HA:=QQ (HG.out (wr.alloc (.cells #[.int .i64 h1,.int .i64 h2] 170)).drew (Below.drew (Below.refl _ _)));have HA2:=QQ (HG.out ((wr.alloc (.cells #[.int .i64 h1,.int .i64 h2] 170)).alloc (.cells #[.int .i64 0,.int .i64 0,.int .i64 0,.int .i64 0,.int .i64 0] 117)).drew (Below.drew ((Below.refl _ _).alloc (Nat.le_refl _) _)));have hw65:Fence.wide.fn 118:=trivial;have h1n:1≤n:=by omega
        gi_region_with (first|(gi_at_call 118;refine(callsIn_wide.2 HA.out).mono ?_;rintro e w5 ⟨rfl,hb5⟩;have HB5:=QQ (hB0.out.trans (hb5.mono (by simp<;>omega)));clear hb5)|(gi_at_call 118;refine(callsIn_wide.2 HA2.out).mono ?_;rintro e w5 ⟨rfl,hb5⟩;have hbx:=QJ.keep (QJ.drew HX0.out) hb5;have HB5:=QQ (hB00.out.trans (hb5.mono (by simp<;>omega)));have z0:=(O7 hbx).1;have z1:=(O7 hbx).2.1;have z2:=(O7 hbx).2.2.1;have z3:=(O7 hbx).2.2.2.1;have z4:=(O7 hbx).2.2.2.2;have f0:=QJ.frozen hbx 0;have f1:=QJ.frozen hbx 1;have f2:=QJ.frozen hbx 2;have f3:=QJ.frozen hbx 3;have f4:=QJ.frozen hbx 4;have HBx:=QQ hbx;clear hb5 hbx))
        all_goals gi_wp2
        all_goals gi_meet
        all_goals
         refine⟨rfl,_,rfl, ?_, ?_⟩
         ·first
          |(with_reducible exact HB5.out.alloc HB5.out.size _)
          |exact HB5.out.trans ((Ji3 _ _ _ _ _ _ _).below (B:=wr.heap.size) (fun i e=>by have e':i=wr.heap.size+1:=e;omega) HB5.out.size)
         ·unfold KV
          first
          |(with_reducible exact QJ.new _ _ _)
          |exact QJ.set_ (QJ.set_ (QJ.set_ (QJ.set_ (QJ.set_ HBx.out 0 _) 1 _) 2 _) 3 _) 4 _
       case rest=>
        obtain⟨rfl,ob,rfl,hbo,hbx⟩:=hcut;have hjc:=HJ.out _ _ _ Hj.out hbo;obtain⟨fn,tmps,assign,body,hy,hR⟩:=HY.out _ o wc hjc hlen.out;obtain⟨z0,z1,z2,z3,z4⟩:=JV hbx;unfold KJ at hy;have HR:=QQ hR;have hBc:=QQ (HB.out.then_ hbo);have h1n:1≤n:=by omega
        clear hR hjc hbo hbx b1 y0 x0 x1
        gi_wp2
        refine HR.out.mono ?_;rintro e W3 (⟨rfl,hj3,hk3⟩|⟨rfl,hjx3⟩)
        ·gi_wp2
         rw[←Hg.out]
         gi_roundg (m2- (i+1))
         case measure=>omega
         case rel=>exact⟨i+1,by omega,Nat.le_refl _,by go_num,by rw[Hpre.out];exact hj3,hBc.out.trans hk3 (fun i h=> .inl h)⟩
        ·gi_wp2
         refine bodyPost_ret (results_none rfl _ _ _) rfl ?_;exact⟨⟨_,rfl⟩,.inr ⟨_,by rw[←Hpre.out];exact Kh2 Hjl.out Hq.out _,hjx3⟩⟩
      ·obtain rfl:i=m2:=by omega
       have hliz: ¬(i:Int)< (i:Int):=by omega
       have Hj2:=QQ (show J (IX ((H 1).ms++IJ ((H 1).qs.take (j+1)))) wr by rw[Xe0 Hjl.out Hq.out];rw[List.take_of_length_le (l:=q.os) (i:=i) (by rw[Hm2.out];exact Nat.le_refl _)]at hj;exact hj);have HB2:=QQ hB;clear hj hB
       gi_wp2
       rw[←HqA.out]
       gi_roundg (ql- (j+1))
       case measure=>omega
       case rel=>exact⟨j+1,by omega,Nat.le_refl _,by go_num,Hj2.out,HB2.out⟩
    ·obtain rfl:j=ql:=by omega
     have hlqz: ¬(j:Int)< (j:Int):=by omega
     have Hj2:=QQ (show J (H 1).L wr by rw[List.take_of_length_le (by rw[Hql.out];exact Nat.le_refl _)]at hjj;exact hjj);clear hjj hB
     gi_wp2
     go_end0
     exact⟨⟨_,rfl⟩,.inl Hj2.out⟩
attribute [local go_sem] Oper.semAt_some
theorem Kw5 (n:Nat) (hn:2≤n) (l B1 B2 b a r:Nat) (S:Nat→Prop) (F:Nat→Prop) (M:Int→Int→Option QX) (N:Nat) (f:Int→Option Value) (H:Int→HS) (reg:Nat→Int) (hS:ZX M N f H) (hN:N≤100) (J Jx:List QX→World→Prop)
  (hJ: ∀pre W W',J pre W→Below W.heap.size W W'→J pre W')
  (hY: ∀pre x W,J pre W→pre.length< (H 2).L.length→YieldAt Fence.wide (n-1) Tryz.prog l #[KJ x] W fun e W'=>
   (e= .returned (.bool true)∧J (pre++ [x]) W'∧QK S W W')∨(e= .returned (.bool false)∧Jx (pre++ [x]) W'))
  (W:World) (hM:XK W b a F M N r f H reg) (hfp: ∀i,V6 b r F H i→ ¬S i) (hs1: ¬S B1) (hB1:W.cell? ⟨B1,0,none⟩=some (.pointer (some ⟨b,0,none⟩))) (hB2:W.cell? ⟨B2,0,none⟩=some (.int .i64 2)) (h0:J [] W):
  CallsIn Fence.wide n Tryz.prog 157 #[.func (.yield l) #[] #[],.pointer (some ⟨B1,0,none⟩),.pointer (some ⟨B2,0,none⟩)] W fun e W'=>(∃v,e= .returned v)∧
   ((∃ys,ys=(H 2).L∧J ys W')∨(∃pre,pre <+: (H 2).L∧Jx pre W')):=by
 have y2:=hM.cells.2.2.2.2.1
 have hb1:=World.block_lt_of_cell? W _ hB1
 have HM:=QQ hM
 have HSm:=QQ hS
 have HJ:=QQ hJ
 have HY:=QQ hY
 have H0:=QQ h0
 have Hfp:=QQ hfp
 have HN:=QQ hN
 clear hM hS hJ hY h0 hfp hN
 refine callsIn_of_wp Tryz.func157 rfl trivial ?_ rfl
 simp only[Tryz.ntmps157,List.size_toArray,List.length_cons,List.length_nil,Nat.reduceAdd,Nat.reduceSub,Array.replicate_succ,Array.replicate_zero,List.push_toArray,List.append_toArray,List.nil_append,List.cons_append]
 gi_wp2
 gi_quiet (fail)
 gi_wp2
 obtain⟨m,hm⟩: ∃m,(H 2).ms.length=m:=⟨_,rfl⟩
 have Hm:=QQ hm
 have hm1:m≤1000:=by rw[←hm];exact Zh2 Qo7 HSm.out HN.out
 rw[hm]
 clear y2 hm
 gi_loopg [26] m (fun gg s26 wr=> ∃k:Nat,k≤m∧m-k≤gg∧s26= .int .i64 k∧J (IX ((H 2).ms.take k)) wr∧QK S W wr)
 case atStart=>exact⟨0,Nat.zero_le _,Nat.le_refl _,rfl,HJ.out _ _ _ H0.out (QY (Below.refl _ _) _),QK.of_below (QY (Below.refl _ _) _) S⟩
 case round=>
  obtain⟨k,hk,hgk,rfl,hj,hB⟩:=hrel
  by_cases hlt:k<m
  ·have hkl:k< (H 2).ms.length:=by have:=Hm.out;omega
   have hMr:=HM.out.keeps hB Hfp.out;have hrow:=(hMr.hx 2 Qo7).rm;obtain⟨g,hg,-⟩:=hrow.elem X8 (by omega) (i:=k) (by simpa [J7]using hkl);rw[hg]at hrow;obtain⟨x0,x1⟩:=Ja9 hrow (i:=k) (by simpa [J7]using hkl);obtain⟨x,hx⟩: ∃x,(H 2).ms[k]'hkl=x:=⟨_,rfl⟩;have ex:(J7 (H 2).ms)[k]'(by simpa [J7]using hkl)=x.1:=by rw[←hx];simp[J7]
   rw[ex]at x0 x1;have hxm:x∈X0 H:=OX Qo7 (List.mem_append_left _ (by rw[←hx];exact List.getElem_mem _));have Hpre:=QQ (show IX ((H 2).ms.take (k+1))=IX ((H 2).ms.take k)++ [x.2] by rw[List.take_succ_eq_append_getElem hkl,hx,Z7];rfl);have hMx:=HSm.out.hM x hxm;have b1:wr.cell? ⟨B1,0,none⟩=some (.pointer (some ⟨b,0,none⟩)):=(hB.cell (p:=⟨B1,0,none⟩) hb1 hs1).trans hB1;have y0:=hMr.cells.1;have hlen:=QQ (show(IX ((H 2).ms.take k)).length< (H 2).L.length by unfold HS.L HS.all V2 IX;simp;omega);obtain⟨⟨h1,h2⟩,o⟩:=x;dsimp only at x0 x1 hMx;have hbox:Below wr.heap.size wr (wr.alloc (.cells #[.int .i64 h1,.int .i64 h2] 170)):=(Below.refl _ _).alloc (Nat.le_refl _) _;have hget:=Ji2 (hMr.below hbox) hMx;have HG:=QQ hget;have Hj:=QQ hj;have HB:=QQ hB;have hb1l:B1<wr.heap.size:=by have:=hB.size;omega
   have hbl:=QJ.lt hMr.blk;have Hg:=QQ hg;have hgl:=hrow.lt (g:=g) rfl;have hltz:(k:Int)< (m:Int):=by omega
   have hk0:(0:Int)≤(k:Int):=by omega
   have Hkl:=QQ hkl;clear hx hg hMr hj hB hget ex hMx hrow hbox hkl hxm;dsimp only at Hpre;rw[Hg.out]
   gi_upto_region 4 with fail
   gi_cut [7,8]from 83 (fun s7 s8 wx=>s8= .nilIface∧Got wr wx o s7)
   case first=>
    have hB0:=QQ (show Below wr.heap.size wr (wr.alloc (.cells #[.int .i64 h1,.int .i64 h2] 170)).drew from Below.drew ((Below.refl _ _).alloc (Nat.le_refl _) _));have hB00:=QQ (show Below wr.heap.size wr ((wr.alloc (.cells #[.int .i64 h1,.int .i64 h2] 170)).alloc (.cells #[.int .i64 0,.int .i64 0,.int .i64 0,.int .i64 0,.int .i64 0] 117)).drew from Below.drew (((Below.refl _ _).alloc (Nat.le_refl _) _).alloc (by simp) _));have HX0:=QQ (show QJ _ (wr.heap.size+1) 117 _ by simpa using QJ.new (wr.alloc (.cells #[.int .i64 h1,.int .i64 h2] 170)) 117 #[.int .i64 0,.int .i64 0,.int .i64 0,.int .i64 0,.int .i64 0]);have HA:=QQ (HG.out (wr.alloc (.cells #[.int .i64 h1,.int .i64 h2] 170)).drew (Below.drew (Below.refl _ _)));have HA2:=QQ (HG.out ((wr.alloc (.cells #[.int .i64 h1,.int .i64 h2] 170)).alloc (.cells #[.int .i64 0,.int .i64 0,.int .i64 0,.int .i64 0,.int .i64 0] 117)).drew (Below.drew ((Below.refl _ _).alloc (Nat.le_refl _) _)));have hw65:Fence.wide.fn 118:=trivial;have h1n:1≤n:=by omega
    gi_region_with (first|(gi_at_call 118;refine(callsIn_wide.2 HA.out).mono ?_;rintro e w5 ⟨rfl,hb5⟩;have HB5:=QQ (hB0.out.trans (hb5.mono (by simp<;>omega)));clear hb5)|(gi_at_call 118;refine(callsIn_wide.2 HA2.out).mono ?_;rintro e w5 ⟨rfl,hb5⟩;have hbx:=QJ.keep (QJ.drew HX0.out) hb5;have HB5:=QQ (hB00.out.trans (hb5.mono (by simp<;>omega)));have z0:=(O7 hbx).1;have z1:=(O7 hbx).2.1;have z2:=(O7 hbx).2.2.1;have z3:=(O7 hbx).2.2.2.1;have z4:=(O7 hbx).2.2.2.2;have f0:=QJ.frozen hbx 0;have f1:=QJ.frozen hbx 1;have f2:=QJ.frozen hbx 2;have f3:=QJ.frozen hbx 3;have f4:=QJ.frozen hbx 4;have HBx:=QQ hbx;clear hb5 hbx))
    all_goals gi_wp2
    all_goals gi_meet
    all_goals
     refine⟨rfl,_,rfl, ?_, ?_⟩
     ·first
      |(with_reducible exact HB5.out.alloc HB5.out.size _)
      |exact HB5.out.trans ((Ji3 _ _ _ _ _ _ _).below (B:=wr.heap.size) (fun i e=>by have e':i=wr.heap.size+1:=e;omega) HB5.out.size)
     ·unfold KV
      first
      |(with_reducible exact QJ.new _ _ _)
      |exact QJ.set_ (QJ.set_ (QJ.set_ (QJ.set_ (QJ.set_ HBx.out 0 _) 1 _) 2 _) 3 _) 4 _
   case rest=>
    obtain⟨rfl,ob,rfl,hbo,hbx⟩:=hcut;have hjc:=HJ.out _ _ _ Hj.out hbo;obtain⟨fn,tmps,assign,body,hy,hR⟩:=HY.out _ o wc hjc hlen.out;obtain⟨z0,z1,z2,z3,z4⟩:=JV hbx;unfold KJ at hy;have HR:=QQ hR;have hBc:=QQ (HB.out.then_ hbo);have h1n:1≤n:=by omega
    clear hR hjc hbo hbx b1 y0 x0 x1
    gi_wp2
    refine HR.out.mono ?_;rintro e W3 (⟨rfl,hj3,hk3⟩|⟨rfl,hjx3⟩)
    ·gi_wp2
     rw[←Hg.out]
     gi_roundg (m- (k+1))
     case measure=>omega
     case rel=>exact⟨k+1,by omega,Nat.le_refl _,by go_num,by rw[Hpre.out];exact hj3,hBc.out.trans hk3 (fun i h=> .inl h)⟩
    ·gi_wp2
     refine bodyPost_ret (results_none rfl _ _ _) rfl ?_;exact⟨⟨_,rfl⟩,.inr ⟨_,by rw[←Hpre.out];exact Kh1 _ _,hjx3⟩⟩
  ·obtain rfl:k=m:=by omega
   have hltz: ¬(k:Int)< (k:Int):=by omega
   have hMr:=HM.out.keeps hB Hfp.out;have y3:=hMr.cells.2.2.2.2.2;have hfull:IX ((H 2).ms.take k)=IX ((H 2).ms++IJ ((H 2).qs.take 0)):=by rw[List.take_of_length_le (by rw[Hm.out];exact Nat.le_refl _)];simp[IJ]
   rw[hfull]at hj;obtain⟨ql,hql⟩: ∃ql,(H 2).qs.length=ql:=⟨_,rfl⟩;rw[hql]at y3;have Hql:=QQ hql;have hql1:ql≤100000:=by rw[←hql];exact Zh3 Qo7 HSm.out HN.out
   have Hj0:=QQ hj;have HB0:=QQ hB;clear hMr hfull hj hB hql
   gi_wp2
   clear y3
   gi_loopg [53] ql (fun gg s53 wr=> ∃j:Nat,j≤ql∧ql-j≤gg∧s53= .int .i64 j∧J (IX ((H 2).ms++IJ ((H 2).qs.take j))) wr∧QK S W wr)
   case atStart=>exact⟨0,Nat.zero_le _,Nat.le_refl _,rfl,Hj0.out,HB0.out⟩
   case round=>
    obtain⟨j,hj,hgk,rfl,hjj,hB⟩:=hrel
    by_cases hlq:j<ql
    ·have hjl:j< (H 2).qs.length:=by have:=Hql.out;omega
     have hMr:=HM.out.keeps hB Hfp.out;have hrq:=(hMr.hx 2 Qo7).rq;obtain⟨qg,hqg,hqc⟩:=hrq.elem KX (by omega) (i:=j) (by simpa using hjl);obtain⟨q,hq⟩: ∃q,(H 2).qs[j]'hjl=q:=⟨_,rfl⟩;have q0:wr.cell? ⟨qg,j*2,none⟩=some (.int .i64 q.price):=by have:=hqc 0 _ rfl;rw[←hq];simpa [QG.que]using this
     have q1:wr.cell? ⟨qg,j*2+1,none⟩=some (.slice q.A q.os.length q.c):=by have:=hqc 1 _ rfl;rw[←hq];simpa [QG.que]using this
     have hqm:q∈(H 2).qs:=by rw[←hq];exact List.getElem_mem _
     obtain⟨m2,hm2⟩: ∃m2,q.os.length=m2:=⟨_,rfl⟩;rw[hm2]at q1;have hm2l:m2≤1000:=by rw[←hm2,←hq];exact Zh4 Qo7 HSm.out HN.out hjl
     have Hq:=QQ hq;have Hqm:=QQ hqm;have Hm2:=QQ hm2;have Hjl:=QQ hjl;have hlqz:(j:Int)< (ql:Int):=by omega
     have hj0:(0:Int)≤(j:Int):=by omega
     have HqA:=QQ hqg;have hba:Below wr.heap.size wr (wr.alloc (.cells #[.int .i64 q.price,.slice q.A m2 q.c] 236)):=(Below.refl _ _).alloc (Nat.le_refl _) _;have Hjj:=QQ (HJ.out _ _ _ hjj hba);have HBj:=QQ (hB.then_ hba);clear hMr hrq hqc hqm hm2 hqg hjj hB hba;rw[HqA.out]
     gi_wp2
     clear q0 q1
     gi_loopg [60] m2 (fun gg s60 wr=> ∃i:Nat,i≤m2∧m2-i≤gg∧s60= .int .i64 i∧J (IX ((H 2).ms++(IJ ((H 2).qs.take j)++q.os.take i))) wr∧QK S W wr)
     case atStart=>exact⟨0,Nat.zero_le _,Nat.le_refl _,rfl,by simpa using Hjj.out,HBj.out⟩
     case round=>
      obtain⟨i,hi,hgk2,rfl,hj,hB⟩:=hrel
      by_cases hli:i<m2
      ·have hil:i<q.os.length:=by have:=Hm2.out;omega
       have hMr:=HM.out.keeps hB Hfp.out;have hrow:=(hMr.hx 2 Qo7).rl q Hqm.out;obtain⟨g,hg,-⟩:=hrow.elem X8 (by omega) (i:=i) (by simpa [J7]using hil);rw[hg]at hrow;obtain⟨x0,x1⟩:=Ja9 hrow (i:=i) (by simpa [J7]using hil);obtain⟨x,hx⟩: ∃x,q.os[i]'hil=x:=⟨_,rfl⟩;have ex:(J7 q.os)[i]'(by simpa [J7]using hil)=x.1:=by rw[←hx];simp[J7]
       rw[ex]at x0 x1;have hxm:x∈X0 H:=OX Qo7 (List.mem_append_right _ (List.mem_flatMap.2 ⟨q,Hqm.out,by rw[←hx];exact List.getElem_mem _⟩));have Hpre:=QQ (show IX ((H 2).ms++(IJ ((H 2).qs.take j)++q.os.take (i+1)))=IX ((H 2).ms++(IJ ((H 2).qs.take j)++q.os.take i))++ [x.2] by rw[List.take_succ_eq_append_getElem hil,hx];simp[IX]);have hMx:=HSm.out.hM x hxm;have b1:wr.cell? ⟨B1,0,none⟩=some (.pointer (some ⟨b,0,none⟩)):=(hB.cell (p:=⟨B1,0,none⟩) hb1 hs1).trans hB1;have y0:=hMr.cells.1;have hlen:=QQ (show(IX ((H 2).ms++(IJ ((H 2).qs.take j)++q.os.take i))).length< (H 2).L.length from Xs8 Hjl.out Hq.out hil);obtain⟨⟨h1,h2⟩,o⟩:=x;dsimp only at x0 x1 hMx;have hbox:Below wr.heap.size wr (wr.alloc (.cells #[.int .i64 h1,.int .i64 h2] 170)):=(Below.refl _ _).alloc (Nat.le_refl _) _;have hget:=Ji2 (hMr.below hbox) hMx;have HG:=QQ hget;have Hj:=QQ hj;have HB:=QQ hB;have hb1l:B1<wr.heap.size:=by have:=hB.size;omega
       have hbl:=QJ.lt hMr.blk;have Hg:=QQ hg;have hgl:=hrow.lt (g:=g) rfl;have hliz:(i:Int)< (m2:Int):=by omega
       have hi0:(0:Int)≤(i:Int):=by omega
       have Hil:=QQ hil;clear hx hg hMr hj hB hget ex hMx hrow hbox hil hxm;dsimp only at Hpre;rw[Hg.out]
       gi_upto_region 13 with fail
       gi_cut [13,14]from 83 (fun s7 s8 wx=>s8= .nilIface∧Got wr wx o s7)
       case first=>
        have hB0:=QQ (show Below wr.heap.size wr (wr.alloc (.cells #[.int .i64 h1,.int .i64 h2] 170)).drew from Below.drew ((Below.refl _ _).alloc (Nat.le_refl _) _));have hB00:=QQ (show Below wr.heap.size wr ((wr.alloc (.cells #[.int .i64 h1,.int .i64 h2] 170)).alloc (.cells #[.int .i64 0,.int .i64 0,.int .i64 0,.int .i64 0,.int .i64 0] 117)).drew from Below.drew (((Below.refl _ _).alloc (Nat.le_refl _) _).alloc (by simp) _));have HX0:=QQ (show QJ _ (wr.heap.size+1) 117 _ by simpa using QJ.new (wr.alloc (.cells #[.int .i64 h1,.int .i64 h2] 170)) 117 #[.int .i64 0,.int .i64 0,.int .i64 0,.int .i64 0,.int .i64 0]);have HA:=QQ (HG.out (wr.alloc (.cells #[.int .i64 h1,.int .i64 h2] 170)).drew (Below.drew (Below.refl _ _)));have HA2:=QQ (HG.out ((wr.alloc (.cells #[.int .i64 h1,.int .i64 h2] 170)).alloc (.cells #[.int .i64 0,.int .i64 0,.int .i64 0,.int .i64 0,.int .i64 0] 117)).drew (Below.drew ((Below.refl _ _).alloc (Nat.le_refl _) _)));have hw65:Fence.wide.fn 118:=trivial;have h1n:1≤n:=by omega
        gi_region_with (first|(gi_at_call 118;refine(callsIn_wide.2 HA.out).mono ?_;rintro e w5 ⟨rfl,hb5⟩;have HB5:=QQ (hB0.out.trans (hb5.mono (by simp<;>omega)));clear hb5)|(gi_at_call 118;refine(callsIn_wide.2 HA2.out).mono ?_;rintro e w5 ⟨rfl,hb5⟩;have hbx:=QJ.keep (QJ.drew HX0.out) hb5;have HB5:=QQ (hB00.out.trans (hb5.mono (by simp<;>omega)));have z0:=(O7 hbx).1;have z1:=(O7 hbx).2.1;have z2:=(O7 hbx).2.2.1;have z3:=(O7 hbx).2.2.2.1;have z4:=(O7 hbx).2.2.2.2;have f0:=QJ.frozen hbx 0;have f1:=QJ.frozen hbx 1;have f2:=QJ.frozen hbx 2;have f3:=QJ.frozen hbx 3;have f4:=QJ.frozen hbx 4;have HBx:=QQ hbx;clear hb5 hbx))
        all_goals gi_wp2
        all_goals gi_meet
        all_goals
         refine⟨rfl,_,rfl, ?_, ?_⟩
         ·first
          |(with_reducible exact HB5.out.alloc HB5.out.size _)
          |exact HB5.out.trans ((Ji3 _ _ _ _ _ _ _).below (B:=wr.heap.size) (fun i e=>by have e':i=wr.heap.size+1:=e;omega) HB5.out.size)
         ·unfold KV
          first
          |(with_reducible exact QJ.new _ _ _)
          |exact QJ.set_ (QJ.set_ (QJ.set_ (QJ.set_ (QJ.set_ HBx.out 0 _) 1 _) 2 _) 3 _) 4 _
       case rest=>
        obtain⟨rfl,ob,rfl,hbo,hbx⟩:=hcut;have hjc:=HJ.out _ _ _ Hj.out hbo;obtain⟨fn,tmps,assign,body,hy,hR⟩:=HY.out _ o wc hjc hlen.out;obtain⟨z0,z1,z2,z3,z4⟩:=JV hbx;unfold KJ at hy;have HR:=QQ hR;have hBc:=QQ (HB.out.then_ hbo);have h1n:1≤n:=by omega
        clear hR hjc hbo hbx b1 y0 x0 x1
        gi_wp2
        refine HR.out.mono ?_;rintro e W3 (⟨rfl,hj3,hk3⟩|⟨rfl,hjx3⟩)
        ·gi_wp2
         rw[←Hg.out]
         gi_roundg (m2- (i+1))
         case measure=>omega
         case rel=>exact⟨i+1,by omega,Nat.le_refl _,by go_num,by rw[Hpre.out];exact hj3,hBc.out.trans hk3 (fun i h=> .inl h)⟩
        ·gi_wp2
         refine bodyPost_ret (results_none rfl _ _ _) rfl ?_;exact⟨⟨_,rfl⟩,.inr ⟨_,by rw[←Hpre.out];exact Kh2 Hjl.out Hq.out _,hjx3⟩⟩
      ·obtain rfl:i=m2:=by omega
       have hliz: ¬(i:Int)< (i:Int):=by omega
       have Hj2:=QQ (show J (IX ((H 2).ms++IJ ((H 2).qs.take (j+1)))) wr by rw[Xe0 Hjl.out Hq.out];rw[List.take_of_length_le (l:=q.os) (i:=i) (by rw[Hm2.out];exact Nat.le_refl _)]at hj;exact hj);have HB2:=QQ hB;clear hj hB
       gi_wp2
       rw[←HqA.out]
       gi_roundg (ql- (j+1))
       case measure=>omega
       case rel=>exact⟨j+1,by omega,Nat.le_refl _,by go_num,Hj2.out,HB2.out⟩
    ·obtain rfl:j=ql:=by omega
     have hlqz: ¬(j:Int)< (j:Int):=by omega
     have Hj2:=QQ (show J (H 2).L wr by rw[List.take_of_length_le (by rw[Hql.out];exact Nat.le_refl _)]at hjj;exact hjj);clear hjj hB
     gi_wp2
     go_end0
     exact⟨⟨_,rfl⟩,.inl Hj2.out⟩
end Go.Proofs.YtbmiieehkkfbgaaGreatDoor
