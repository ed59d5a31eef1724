/- Parts. -/
import Derived.Test.YtnlngicnfegjgaaGreatDoorZq14
import Derived.Test.YtnlngicnfegjgaaGreatDoorZq17
set_option linter.unusedVariables false
set_option maxRecDepth 100000
set_option maxHeartbeats 8000000
open Go.Proofs.Tryz
open Go.Value renaming int→I,pointer→IP
open Go.IntKind renaming i64→O
namespace Go.Proofs.YtnlngicnfegjgaaGreatDoor
open Go.RowKit
attribute [local go_sem] Oper.semAt_some
theorem Ch {β B J} (h:AbidesFrom B J) {s:β} {W W'} (j:J s W) (i:Below W.heap.size W W'):J s W':=
 h s W W' none j ⟨i.os,i.tape,i.output,i.size,fun k hk _=>i.block k hk⟩ (fun r e=>by cases e)
theorem MJ:Z4 1:= .inl rfl
theorem Rk {M n f H s} (i:Z4 s) (j:U3 M n f H) (h2:n<=100):(H s).ms.length<=1000:=by
 have h1:=j.cnt
 unfold B4 HS.all D2 at h1
 simp only[List.length_append]at h1
 rcases i with rfl|rfl<;>omega
theorem JS {w g t a b c d e} (h:Q1 w g t #[a,b,c,d,e]):
  w.cell? ⟨g,0,none⟩=some a/\w.cell? ⟨g,1,none⟩=some b/\w.cell? ⟨g,2,none⟩=some c/\w.cell? ⟨g,3,none⟩=some d/\w.cell? ⟨g,4,none⟩=some e:=
 ⟨by rw[J0 h];rfl,by rw[J0 h];rfl,by rw[J0 h];rfl,by rw[J0 h];rfl,by rw[J0 h];rfl⟩
def Zj (w wx:World) (o:Q8) (s7:Value):Prop:= ∃ob,s7= IP (some ⟨ob,0,none⟩)/\Below w.heap.size w wx/\Q1 wx ob 29 (J8 o)
def Jn5 (W0:World) (a:Nat) (h1 h2:Int) (o:Q8):Prop:=
 ∀W,Below W0.heap.size W0 W->Calls prog 108 #[IP (some ⟨a,0,none⟩),.agg #[I O h1,I O h2]] W fun e w'=>
  e= .returned (.tuple #[.agg #[I O o.id,I O o.side,I O o.kind,I O o.price,I O o.qty],.nilIface])/\Below W.heap.size W w'
theorem Qa {w b a n r F M f H reg h1 h2 o} (u:Z9 w b a F M n r f H reg) (j:M h1 h2=some o):Jn5 w a h1 h2 o:=by
 intro W i
 refine(Jh5 (u.ar.below i) h1 h2).mono ?_
 rintro e w' ⟨rfl,v⟩
 exact⟨by unfold SF SG;rw[j];rfl,v⟩
theorem MX:Z4 2:= .inr rfl
theorem Qb w g a b c d e:Q6 (fun i=>i=g) w (((((w.setCell ⟨g,0,none⟩ a).setCell ⟨g,1,none⟩ b).setCell ⟨g,2,none⟩ c).setCell ⟨g,3,none⟩ d).setCell ⟨g,4,none⟩ e):=
 ((((V2 w ⟨g,0,none⟩ a).trans (V2 _ ⟨g,1,none⟩ b) (fun i h=> .inl h)).trans (V2 _ ⟨g,2,none⟩ c) (fun i h=> .inl h)).trans (V2 _ ⟨g,3,none⟩ d) (fun i h=> .inl h)).trans (V2 _ ⟨g,4,none⟩ e) (fun i h=> .inl h)
section
variable {M:Int->Int->Option Q8} {n:Nat} {f:Int->Option Value} {H:Int->HS} {s:Int} {q:QG} {h:HS}
theorem Rl (v:Z4 s) (j:U3 M n f H) (h2:n<=100):(H s).qs.length<=100000:=by
 have h1:=j.cnt
 have C:(H s).qs.length<=(U5 (H s).qs).length:=by
  have i:=j.ne s v;generalize(H s).qs=l at i
  induction l with
  |nil=>simp
  |cons q l u=>
   have u:=u (fun q y=>i q (by simp[y]));have D:0<q.os.length:=PB.2 (i q (by simp));have e:U5 (q::l)=q.os++U5 l:=rfl;rw[e,Y9,XX];omega
 unfold B4 HS.all D2 at h1
 simp only[List.length_append]at h1
 rcases v with rfl|rfl<;>omega
theorem Rm (i:Z4 s) (j:U3 M n f H) (h2:n<=100) {k} (hk:k< (H s).qs.length):(H s).qs[k].os.length<=1000:=by
 have h1:=j.cnt
 have u:(H s).qs[k].os.length<=(U5 (H s).qs).length:=by
  rw[EG _ hk];simp only[List.length_append];omega
 unfold B4 HS.all D2 at h1
 simp only[List.length_append]at h1
 rcases i with rfl|rfl<;>omega
theorem Gv {qs:List QG} {j} (u:j<qs.length) (i:qs[j]=q):U5 (qs.take (j+1))=U5 (qs.take j)++q.os:=by
 rw[M8 u,i]
 unfold U5
 rw[TV]
 simp
theorem Nr (h:HS) k:U6 (h.ms.take k) <+: h.L:=by
 refine⟨U6 (h.ms.drop k++U5 h.qs), ?_⟩
 unfold HS.L HS.all D2
 rw[<-EE,<-VM,P2]
theorem Ns {j} (v:j<h.qs.length) (u:h.qs[j]=q) i:U6 (h.ms++(U5 (h.qs.take j)++q.os.take i)) <+: h.L:=by
 refine⟨U6 (q.os.drop i++U5 (h.qs.drop (j+1))), ?_⟩
 unfold HS.L HS.all D2
 rw[<-EE,EG h.qs v,u]
 congr 1
 simp only[List.append_assoc]
 rw[<-VM (q.os.take i),P2]
theorem Mn {j i} (v:j<h.qs.length) (u:h.qs[j]=q) (y:i<q.os.length):(U6 (h.ms++(U5 (h.qs.take j)++q.os.take i))).length<h.L.length:=by
 unfold HS.L HS.all D2
 rw[EG h.qs v,u]
 unfold U6
 simp only[List.length_map,List.length_append,List.length_take]
 omega
end
attribute [local go_sem] Oper.semAt_some
theorem Jb6 n (hn:2<=n) l B1 B2 b a r S F M N f H reg (hS:U3 M N f H) (hN:N<=100) (J Jx:List Q8->World->Prop)
  (hJ: ∀pre W W',J pre W->Below W.heap.size W W'->J pre W')
  (hY: ∀pre x W,J pre W->pre.length< (H 1).L.length->YieldAt Fence.wide (n-1) prog l #[X5 x] W fun e W'=>
   (e= .returned (.bool true)/\J (pre++ [x]) W'/\Q6 S W W')\/(e= .returned (.bool false)/\Jx (pre++ [x]) W'))
  W (hM:Z9 W b a F M N r f H reg) (hfp: ∀i,V0 b r F H i-> ¬S i) (hs1: ¬S B1) (hB1:W.cell? ⟨B1,0,none⟩=some (IP (some ⟨b,0,none⟩))) (hB2:W.cell? ⟨B2,0,none⟩=some (I O 1)) (h0:J [] W):
  CallsIn Fence.wide n prog 129 #[.func (.yield l) #[] #[],IP (some ⟨B1,0,none⟩),IP (some ⟨B2,0,none⟩)] W fun e W'=>(∃v,e= .returned v)/\
   ((∃ys,ys=(H 1).L/\J ys W')\/(∃pre,pre <+: (H 1).L/\Jx pre W')):=by
 have y2:=hM.cells.2.2.1
 have hb1:=V6 W _ hB1
 have HM:=Q0 hM
 have HSm:=Q0 hS
 have HJ:=Q0 hJ
 have HY:=Q0 hY
 have H0:=Q0 h0
 have Hfp:=Q0 hfp
 have HN:=Q0 hN
 clear hM hS hJ hY h0 hfp hN
 refine callsIn_of_wp func129 rfl trivial ?_ rfl
 simp only[ntmps129,List.size_toArray,List.length_cons,List.length_nil,Nat.reduceAdd,Nat.reduceSub,Array.replicate_succ,Array.replicate_zero,List.push_toArray,List.append_toArray,List.nil_append,List.cons_append]
 gi_wp2
 gi_quiet (fail)
 gi_wp2
 obtain⟨m,hm⟩:=exq ((H 1).ms.length)
 have Hm:=Q0 hm
 have hm1:m<=1000:=by rw[<-hm];exact Rk MJ HSm HN
 rw[hm]
 clear y2 hm
 gi_loopg [26] m (fun gg s26 wr=> ∃k:Nat,k<=m/\m-k<=gg/\s26=I O k/\J (U6 ((H 1).ms.take k)) wr/\Q6 S W wr)
 case atStart=>exact⟨0,V5 _,Q4 _,rfl,HJ _ _ _ H0 (U7 (Q2 _ _) _),U1 (U7 (Q2 _ _) _) S⟩
 obtain⟨k,hk,hgk,rfl,hj,hB⟩:=hrel
 by_cases hlt:k<m
 ·have hkl:k< (H 1).ms.length:=by have:=Hm.out;omega
  have hMr:=HM.keeps hB Hfp;have hrow:=(hMr.hx 1 MJ).rm;obtain⟨g,hg,-⟩:=hrow.elem DC (by omega) (i:=k) (by simpa [A6]using hkl);rw[hg]at hrow;obtain⟨x0,x1⟩:=RR hrow (i:=k) (by simpa [A6]using hkl);obtain⟨x,hx⟩:=exq ((H 1).ms[k]'hkl);have ex:(A6 (H 1).ms)[k]'(by simpa [A6]using hkl)=x.1:=by rw[<-hx];simp[A6]
  rw[ex]at x0 x1;have hxm:x∈B4 H:=XL MJ (S9 _ (by rw[<-hx];exact Y1 _));have Hpre:=Q0 (show U6 ((H 1).ms.take (k+1))=U6 ((H 1).ms.take k)++ [x.2] by rw[M8 hkl,hx,EE];rfl);have hMx:=HSm.hM x hxm;have b1:wr.cell? ⟨B1,0,none⟩=some (IP (some ⟨b,0,none⟩)):=(hB.cell (p:=⟨B1,0,none⟩) hb1 hs1).trans hB1;have y0:=hMr.cells.1;have hlen:=Q0 (show(U6 ((H 1).ms.take k)).length< (H 1).L.length by unfold HS.L HS.all D2 U6;simp;omega);obtain⟨⟨h1,h2⟩,o⟩:=x;dsimp only at x0 x1 hMx;have hbox:Below wr.heap.size wr (wr.alloc (.cells #[I O h1,I O h2] 186)):=(Q2 _ _).alloc (Q4 _) _;have hget:=Qa (hMr.below hbox) hMx;have HG:=Q0 hget;have Hj:=Q0 hj;have HB:=Q0 hB;have hb1l:B1<wr.heap.size:=by have:=hB.size;omega
  have hbl:=J5 hMr.blk;have Hg:=Q0 hg;have hgl:=hrow.lt (g:=g) rfl;have hltz:(k:Int)< (m:Int):=by omega
  have hk0:(0:Int)<=(k:Int):=by omega
  have Hkl:=Q0 hkl;clear hx hg hMr hj hB hget ex hMx hrow hbox hkl hxm;dsimp only at Hpre;rw[Hg.out]
  gi_upto_region 4 with fail
  gi_cut [7,8]from 83 (fun s7 s8 wx=>s8= .nilIface/\Zj wr wx o s7)
  case first=>
   have hB0:=Q0 (show Below wr.heap.size wr (wr.alloc (.cells #[I O h1,I O h2] 186)).drew from J3 ((Q2 _ _).alloc (Q4 _) _));have hB00:=Q0 (show Below wr.heap.size wr ((wr.alloc (.cells #[I O h1,I O h2] 186)).alloc (.cells #[I O 0,I O 0,I O 0,I O 0,I O 0] 29)).drew from J3 (((Q2 _ _).alloc (Q4 _) _).alloc (by simp) _));have HX0:=Q0 (show Q1 _ (wr.heap.size+1) 29 _ by simpa using J9 (wr.alloc (.cells #[I O h1,I O h2] 186)) 29 #[I O 0,I O 0,I O 0,I O 0,I O 0]);have HA:=Q0 (HG (wr.alloc (.cells #[I O h1,I O h2] 186)).drew (J3 (Q2 _ _)));have HA2:=Q0 (HG ((wr.alloc (.cells #[I O h1,I O h2] 186)).alloc (.cells #[I O 0,I O 0,I O 0,I O 0,I O 0] 29)).drew (J3 ((Q2 _ _).alloc (Q4 _) _)));have hw65:Fence.wide.fn 108:=trivial;have h1n:1<=n:=by omega
   gi_region_with (first|(gi_at_call 108;refine(GV.2 HA).mono ?_;rintro e w5 ⟨rfl,hb5⟩;have HB5:=Q0 (hB0.trans (hb5.mono (by simp<;>omega)));clear hb5)|(gi_at_call 108;refine(GV.2 HA2).mono ?_;rintro e w5 ⟨rfl,hb5⟩;have hbx:=J4 (Z2 HX0) hb5;have HB5:=Q0 (hB00.trans (hb5.mono (by simp<;>omega)));have z0:=(JS hbx).1;have z1:=(JS hbx).2.1;have z2:=(JS hbx).2.2.1;have z3:=(JS hbx).2.2.2.1;have z4:=(JS hbx).2.2.2.2;have f0:=J1 hbx 0;have f1:=J1 hbx 1;have f2:=J1 hbx 2;have f3:=J1 hbx 3;have f4:=J1 hbx 4;have HBx:=Q0 hbx;clear hb5 hbx))
   all_goals gi_wp2
   all_goals gi_meet
   all_goals
    refine⟨rfl,_,rfl, ?_, ?_⟩
    ·first
     |(with_reducible exact HB5.out.alloc HB5.out.size _)
     |exact HB5.trans ((Qb _ _ _ _ _ _ _).below (B:=wr.heap.size) (fun i e=>by have e':i=wr.heap.size+1:=e;omega) HB5.size)
    unfold J8
    first
    |(with_reducible exact J9 _ _ _)
    |exact J7 (J7 (J7 (J7 (J7 HBx 0 _) 1 _) 2 _) 3 _) 4 _
  obtain⟨rfl,ob,rfl,hbo,hbx⟩:=hcut;have hjc:=HJ.out _ _ _ Hj hbo;obtain⟨fn,tmps,assign,body,hy,hR⟩:=HY.out _ o wc hjc hlen;obtain⟨z0,z1,z2,z3,z4⟩:=Z6 hbx;unfold X5 at hy;have HR:=Q0 hR;have hBc:=Q0 (HB.then_ hbo);have h1n:1<=n:=by omega
  clear hR hjc hbo hbx b1 y0 x0 x1
  gi_wp2
  refine HR.mono ?_;rintro e W3 (⟨rfl,hj3,hk3⟩|⟨rfl,hjx3⟩)
  ·gi_wp2
   rw[<-Hg.out]
   gi_roundg (m- (k+1))
   case measure=>omega
   exact⟨k+1,by omega,Q4 _,by go_num,by rw[Hpre.out];exact hj3,hBc.trans hk3 (fun i h=> .inl h)⟩
  gi_wp2
  refine P4 (KW rfl _ _ _) rfl ?_;exact⟨⟨_,rfl⟩,.inr ⟨_,by rw[<-Hpre.out];exact Nr _ _,hjx3⟩⟩
 obtain rfl:k=m:=by omega
 have hltz: ¬(k:Int)< (k:Int):=by omega
 have hMr:=HM.keeps hB Hfp
 have y3:=hMr.cells.2.2.2.1
 have hfull:U6 ((H 1).ms.take k)=U6 ((H 1).ms++U5 ((H 1).qs.take 0)):=by rw[N7 (by rw[Hm.out];exact Q4 _)];simp[U5]
 rw[hfull]at hj
 obtain⟨ql,hql⟩:=exq ((H 1).qs.length)
 rw[hql]at y3
 have Hql:=Q0 hql
 have hql1:ql<=100000:=by rw[<-hql];exact Rl MJ HSm HN
 have Hj0:=Q0 hj
 have HB0:=Q0 hB
 clear hMr hfull hj hB hql
 gi_wp2
 clear y3
 gi_loopg [53] ql (fun gg s53 wr=> ∃j:Nat,j<=ql/\ql-j<=gg/\s53=I O j/\J (U6 ((H 1).ms++U5 ((H 1).qs.take j))) wr/\Q6 S W wr)
 case atStart=>exact⟨0,V5 _,Q4 _,rfl,Hj0,HB0⟩
 obtain⟨j,hj,hgk,rfl,hjj,hB⟩:=hrel
 by_cases hlq:j<ql
 ·have hjl:j< (H 1).qs.length:=by have:=Hql.out;omega
  have hMr:=HM.keeps hB Hfp;have hrq:=(hMr.hx 1 MJ).rq;obtain⟨qg,hqg,hqc⟩:=hrq.elem JP (by omega) (i:=j) (by simpa using hjl);obtain⟨q,hq⟩:=exq ((H 1).qs[j]'hjl);have q0:wr.cell? ⟨qg,j*2,none⟩=some (I O q.price):=by have:=hqc 0 _ rfl;rw[<-hq];simpa [QG.que]using this
  have q1:wr.cell? ⟨qg,j*2+1,none⟩=some (.slice q.A q.os.length q.c):=by have:=hqc 1 _ rfl;rw[<-hq];simpa [QG.que]using this
  have hqm:q∈(H 1).qs:=by rw[<-hq];exact Y1 _
  obtain⟨m2,hm2⟩:=exq q.os.length;rw[hm2]at q1;have hm2l:m2<=1000:=by rw[<-hm2,<-hq];exact Rm MJ HSm HN hjl
  have Hq:=Q0 hq;have Hqm:=Q0 hqm;have Hm2:=Q0 hm2;have Hjl:=Q0 hjl;have hlqz:(j:Int)< (ql:Int):=by omega
  have hj0:(0:Int)<=(j:Int):=by omega
  have HqA:=Q0 hqg;have hba:Below wr.heap.size wr (wr.alloc (.cells #[I O q.price,.slice q.A m2 q.c] 214)):=(Q2 _ _).alloc (Q4 _) _;have Hjj:=Q0 (HJ _ _ _ hjj hba);have HBj:=Q0 (hB.then_ hba);clear hMr hrq hqc hqm hm2 hqg hjj hB hba;rw[HqA.out]
  gi_wp2
  clear q0 q1
  gi_loopg [60] m2 (fun gg s60 wr=> ∃i:Nat,i<=m2/\m2-i<=gg/\s60=I O i/\J (U6 ((H 1).ms++(U5 ((H 1).qs.take j)++q.os.take i))) wr/\Q6 S W wr)
  case atStart=>exact⟨0,V5 _,Q4 _,rfl,by simpa using Hjj.out,HBj.out⟩
  obtain⟨i,hi,hgk2,rfl,hj,hB⟩:=hrel
  by_cases hli:i<m2
  ·have hil:i<q.os.length:=by have:=Hm2.out;omega
   have hMr:=HM.keeps hB Hfp;have hrow:=(hMr.hx 1 MJ).rl q Hqm;obtain⟨g,hg,-⟩:=hrow.elem DC (by omega) (i:=i) (by simpa [A6]using hil);rw[hg]at hrow;obtain⟨x0,x1⟩:=RR hrow (i:=i) (by simpa [A6]using hil);obtain⟨x,hx⟩:=exq (q.os[i]'hil);have ex:(A6 q.os)[i]'(by simpa [A6]using hil)=x.1:=by rw[<-hx];simp[A6]
   rw[ex]at x0 x1;have hxm:x∈B4 H:=XL MJ (QB _ (FT.2 ⟨q,Hqm,by rw[<-hx];exact Y1 _⟩));have Hpre:=Q0 (show U6 ((H 1).ms++(U5 ((H 1).qs.take j)++q.os.take (i+1)))=U6 ((H 1).ms++(U5 ((H 1).qs.take j)++q.os.take i))++ [x.2] by rw[M8 hil,hx];simp[U6]);have hMx:=HSm.hM x hxm;have b1:wr.cell? ⟨B1,0,none⟩=some (IP (some ⟨b,0,none⟩)):=(hB.cell (p:=⟨B1,0,none⟩) hb1 hs1).trans hB1;have y0:=hMr.cells.1;have hlen:=Q0 (show(U6 ((H 1).ms++(U5 ((H 1).qs.take j)++q.os.take i))).length< (H 1).L.length from Mn Hjl Hq hil);obtain⟨⟨h1,h2⟩,o⟩:=x;dsimp only at x0 x1 hMx;have hbox:Below wr.heap.size wr (wr.alloc (.cells #[I O h1,I O h2] 186)):=(Q2 _ _).alloc (Q4 _) _;have hget:=Qa (hMr.below hbox) hMx;have HG:=Q0 hget;have Hj:=Q0 hj;have HB:=Q0 hB;have hb1l:B1<wr.heap.size:=by have:=hB.size;omega
   have hbl:=J5 hMr.blk;have Hg:=Q0 hg;have hgl:=hrow.lt (g:=g) rfl;have hliz:(i:Int)< (m2:Int):=by omega
   have hi0:(0:Int)<=(i:Int):=by omega
   have Hil:=Q0 hil;clear hx hg hMr hj hB hget ex hMx hrow hbox hil hxm;dsimp only at Hpre;rw[Hg.out]
   gi_upto_region 13 with fail
   gi_cut [13,14]from 83 (fun s7 s8 wx=>s8= .nilIface/\Zj wr wx o s7)
   case first=>
    have hB0:=Q0 (show Below wr.heap.size wr (wr.alloc (.cells #[I O h1,I O h2] 186)).drew from J3 ((Q2 _ _).alloc (Q4 _) _));have hB00:=Q0 (show Below wr.heap.size wr ((wr.alloc (.cells #[I O h1,I O h2] 186)).alloc (.cells #[I O 0,I O 0,I O 0,I O 0,I O 0] 29)).drew from J3 (((Q2 _ _).alloc (Q4 _) _).alloc (by simp) _));have HX0:=Q0 (show Q1 _ (wr.heap.size+1) 29 _ by simpa using J9 (wr.alloc (.cells #[I O h1,I O h2] 186)) 29 #[I O 0,I O 0,I O 0,I O 0,I O 0]);have HA:=Q0 (HG (wr.alloc (.cells #[I O h1,I O h2] 186)).drew (J3 (Q2 _ _)));have HA2:=Q0 (HG ((wr.alloc (.cells #[I O h1,I O h2] 186)).alloc (.cells #[I O 0,I O 0,I O 0,I O 0,I O 0] 29)).drew (J3 ((Q2 _ _).alloc (Q4 _) _)));have hw65:Fence.wide.fn 108:=trivial;have h1n:1<=n:=by omega
    gi_region_with (first|(gi_at_call 108;refine(GV.2 HA).mono ?_;rintro e w5 ⟨rfl,hb5⟩;have HB5:=Q0 (hB0.trans (hb5.mono (by simp<;>omega)));clear hb5)|(gi_at_call 108;refine(GV.2 HA2).mono ?_;rintro e w5 ⟨rfl,hb5⟩;have hbx:=J4 (Z2 HX0) hb5;have HB5:=Q0 (hB00.trans (hb5.mono (by simp<;>omega)));have z0:=(JS hbx).1;have z1:=(JS hbx).2.1;have z2:=(JS hbx).2.2.1;have z3:=(JS hbx).2.2.2.1;have z4:=(JS hbx).2.2.2.2;have f0:=J1 hbx 0;have f1:=J1 hbx 1;have f2:=J1 hbx 2;have f3:=J1 hbx 3;have f4:=J1 hbx 4;have HBx:=Q0 hbx;clear hb5 hbx))
    all_goals gi_wp2
    all_goals gi_meet
    all_goals
     refine⟨rfl,_,rfl, ?_, ?_⟩
     ·first
      |(with_reducible exact HB5.out.alloc HB5.out.size _)
      |exact HB5.trans ((Qb _ _ _ _ _ _ _).below (B:=wr.heap.size) (fun i e=>by have e':i=wr.heap.size+1:=e;omega) HB5.size)
     unfold J8
     first
     |(with_reducible exact J9 _ _ _)
     |exact J7 (J7 (J7 (J7 (J7 HBx 0 _) 1 _) 2 _) 3 _) 4 _
   obtain⟨rfl,ob,rfl,hbo,hbx⟩:=hcut;have hjc:=HJ.out _ _ _ Hj hbo;obtain⟨fn,tmps,assign,body,hy,hR⟩:=HY.out _ o wc hjc hlen;obtain⟨z0,z1,z2,z3,z4⟩:=Z6 hbx;unfold X5 at hy;have HR:=Q0 hR;have hBc:=Q0 (HB.then_ hbo);have h1n:1<=n:=by omega
   clear hR hjc hbo hbx b1 y0 x0 x1
   gi_wp2
   refine HR.mono ?_;rintro e W3 (⟨rfl,hj3,hk3⟩|⟨rfl,hjx3⟩)
   ·gi_wp2
    rw[<-Hg.out]
    gi_roundg (m2- (i+1))
    case measure=>omega
    exact⟨i+1,by omega,Q4 _,by go_num,by rw[Hpre.out];exact hj3,hBc.trans hk3 (fun i h=> .inl h)⟩
   gi_wp2
   refine P4 (KW rfl _ _ _) rfl ?_;exact⟨⟨_,rfl⟩,.inr ⟨_,by rw[<-Hpre.out];exact Ns Hjl Hq _,hjx3⟩⟩
  obtain rfl:i=m2:=by omega
  have hliz: ¬(i:Int)< (i:Int):=by omega
  have Hj2:=Q0 (show J (U6 ((H 1).ms++U5 ((H 1).qs.take (j+1)))) wr by rw[Gv Hjl Hq.out];rw[N7 (l:=q.os) (i:=i) (by rw[Hm2.out];exact Q4 _)]at hj;exact hj);have HB2:=Q0 hB;clear hj hB
  gi_wp2
  rw[<-HqA.out]
  gi_roundg (ql- (j+1))
  case measure=>omega
  exact⟨j+1,by omega,Q4 _,by go_num,Hj2,HB2⟩
 obtain rfl:j=ql:=by omega
 have hlqz: ¬(j:Int)< (j:Int):=by omega
 have Hj2:=Q0 (show J (H 1).L wr by rw[N7 (by rw[Hql.out];exact Q4 _)]at hjj;exact hjj)
 clear hjj hB
 gi_wp2
 go_end0
 exact⟨⟨_,rfl⟩,.inl Hj2⟩
attribute [local go_sem] Oper.semAt_some
theorem Jb7 n (hn:2<=n) l B1 B2 b a r S F M N f H reg (hS:U3 M N f H) (hN:N<=100) (J Jx:List Q8->World->Prop)
  (hJ: ∀pre W W',J pre W->Below W.heap.size W W'->J pre W')
  (hY: ∀pre x W,J pre W->pre.length< (H 2).L.length->YieldAt Fence.wide (n-1) prog l #[X5 x] W fun e W'=>
   (e= .returned (.bool true)/\J (pre++ [x]) W'/\Q6 S W W')\/(e= .returned (.bool false)/\Jx (pre++ [x]) W'))
  W (hM:Z9 W b a F M N r f H reg) (hfp: ∀i,V0 b r F H i-> ¬S i) (hs1: ¬S B1) (hB1:W.cell? ⟨B1,0,none⟩=some (IP (some ⟨b,0,none⟩))) (hB2:W.cell? ⟨B2,0,none⟩=some (I O 2)) (h0:J [] W):
  CallsIn Fence.wide n prog 129 #[.func (.yield l) #[] #[],IP (some ⟨B1,0,none⟩),IP (some ⟨B2,0,none⟩)] W fun e W'=>(∃v,e= .returned v)/\
   ((∃ys,ys=(H 2).L/\J ys W')\/(∃pre,pre <+: (H 2).L/\Jx pre W')):=by
 have y2:=hM.cells.2.2.2.2.1
 have hb1:=V6 W _ hB1
 have HM:=Q0 hM
 have HSm:=Q0 hS
 have HJ:=Q0 hJ
 have HY:=Q0 hY
 have H0:=Q0 h0
 have Hfp:=Q0 hfp
 have HN:=Q0 hN
 clear hM hS hJ hY h0 hfp hN
 refine callsIn_of_wp func129 rfl trivial ?_ rfl
 simp only[ntmps129,List.size_toArray,List.length_cons,List.length_nil,Nat.reduceAdd,Nat.reduceSub,Array.replicate_succ,Array.replicate_zero,List.push_toArray,List.append_toArray,List.nil_append,List.cons_append]
 gi_wp2
 gi_quiet (fail)
 gi_wp2
 obtain⟨m,hm⟩:=exq ((H 2).ms.length)
 have Hm:=Q0 hm
 have hm1:m<=1000:=by rw[<-hm];exact Rk MX HSm HN
 rw[hm]
 clear y2 hm
 gi_loopg [26] m (fun gg s26 wr=> ∃k:Nat,k<=m/\m-k<=gg/\s26=I O k/\J (U6 ((H 2).ms.take k)) wr/\Q6 S W wr)
 case atStart=>exact⟨0,V5 _,Q4 _,rfl,HJ _ _ _ H0 (U7 (Q2 _ _) _),U1 (U7 (Q2 _ _) _) S⟩
 obtain⟨k,hk,hgk,rfl,hj,hB⟩:=hrel
 by_cases hlt:k<m
 ·have hkl:k< (H 2).ms.length:=by have:=Hm.out;omega
  have hMr:=HM.keeps hB Hfp;have hrow:=(hMr.hx 2 MX).rm;obtain⟨g,hg,-⟩:=hrow.elem DC (by omega) (i:=k) (by simpa [A6]using hkl);rw[hg]at hrow;obtain⟨x0,x1⟩:=RR hrow (i:=k) (by simpa [A6]using hkl);obtain⟨x,hx⟩:=exq ((H 2).ms[k]'hkl);have ex:(A6 (H 2).ms)[k]'(by simpa [A6]using hkl)=x.1:=by rw[<-hx];simp[A6]
  rw[ex]at x0 x1;have hxm:x∈B4 H:=XL MX (S9 _ (by rw[<-hx];exact Y1 _));have Hpre:=Q0 (show U6 ((H 2).ms.take (k+1))=U6 ((H 2).ms.take k)++ [x.2] by rw[M8 hkl,hx,EE];rfl);have hMx:=HSm.hM x hxm;have b1:wr.cell? ⟨B1,0,none⟩=some (IP (some ⟨b,0,none⟩)):=(hB.cell (p:=⟨B1,0,none⟩) hb1 hs1).trans hB1;have y0:=hMr.cells.1;have hlen:=Q0 (show(U6 ((H 2).ms.take k)).length< (H 2).L.length by unfold HS.L HS.all D2 U6;simp;omega);obtain⟨⟨h1,h2⟩,o⟩:=x;dsimp only at x0 x1 hMx;have hbox:Below wr.heap.size wr (wr.alloc (.cells #[I O h1,I O h2] 186)):=(Q2 _ _).alloc (Q4 _) _;have hget:=Qa (hMr.below hbox) hMx;have HG:=Q0 hget;have Hj:=Q0 hj;have HB:=Q0 hB;have hb1l:B1<wr.heap.size:=by have:=hB.size;omega
  have hbl:=J5 hMr.blk;have Hg:=Q0 hg;have hgl:=hrow.lt (g:=g) rfl;have hltz:(k:Int)< (m:Int):=by omega
  have hk0:(0:Int)<=(k:Int):=by omega
  have Hkl:=Q0 hkl;clear hx hg hMr hj hB hget ex hMx hrow hbox hkl hxm;dsimp only at Hpre;rw[Hg.out]
  gi_upto_region 4 with fail
  gi_cut [7,8]from 83 (fun s7 s8 wx=>s8= .nilIface/\Zj wr wx o s7)
  case first=>
   have hB0:=Q0 (show Below wr.heap.size wr (wr.alloc (.cells #[I O h1,I O h2] 186)).drew from J3 ((Q2 _ _).alloc (Q4 _) _));have hB00:=Q0 (show Below wr.heap.size wr ((wr.alloc (.cells #[I O h1,I O h2] 186)).alloc (.cells #[I O 0,I O 0,I O 0,I O 0,I O 0] 29)).drew from J3 (((Q2 _ _).alloc (Q4 _) _).alloc (by simp) _));have HX0:=Q0 (show Q1 _ (wr.heap.size+1) 29 _ by simpa using J9 (wr.alloc (.cells #[I O h1,I O h2] 186)) 29 #[I O 0,I O 0,I O 0,I O 0,I O 0]);have HA:=Q0 (HG (wr.alloc (.cells #[I O h1,I O h2] 186)).drew (J3 (Q2 _ _)));have HA2:=Q0 (HG ((wr.alloc (.cells #[I O h1,I O h2] 186)).alloc (.cells #[I O 0,I O 0,I O 0,I O 0,I O 0] 29)).drew (J3 ((Q2 _ _).alloc (Q4 _) _)));have hw65:Fence.wide.fn 108:=trivial;have h1n:1<=n:=by omega
   gi_region_with (first|(gi_at_call 108;refine(GV.2 HA).mono ?_;rintro e w5 ⟨rfl,hb5⟩;have HB5:=Q0 (hB0.trans (hb5.mono (by simp<;>omega)));clear hb5)|(gi_at_call 108;refine(GV.2 HA2).mono ?_;rintro e w5 ⟨rfl,hb5⟩;have hbx:=J4 (Z2 HX0) hb5;have HB5:=Q0 (hB00.trans (hb5.mono (by simp<;>omega)));have z0:=(JS hbx).1;have z1:=(JS hbx).2.1;have z2:=(JS hbx).2.2.1;have z3:=(JS hbx).2.2.2.1;have z4:=(JS hbx).2.2.2.2;have f0:=J1 hbx 0;have f1:=J1 hbx 1;have f2:=J1 hbx 2;have f3:=J1 hbx 3;have f4:=J1 hbx 4;have HBx:=Q0 hbx;clear hb5 hbx))
   all_goals gi_wp2
   all_goals gi_meet
   all_goals
    refine⟨rfl,_,rfl, ?_, ?_⟩
    ·first
     |(with_reducible exact HB5.out.alloc HB5.out.size _)
     |exact HB5.trans ((Qb _ _ _ _ _ _ _).below (B:=wr.heap.size) (fun i e=>by have e':i=wr.heap.size+1:=e;omega) HB5.size)
    unfold J8
    first
    |(with_reducible exact J9 _ _ _)
    |exact J7 (J7 (J7 (J7 (J7 HBx 0 _) 1 _) 2 _) 3 _) 4 _
  obtain⟨rfl,ob,rfl,hbo,hbx⟩:=hcut;have hjc:=HJ.out _ _ _ Hj hbo;obtain⟨fn,tmps,assign,body,hy,hR⟩:=HY.out _ o wc hjc hlen;obtain⟨z0,z1,z2,z3,z4⟩:=Z6 hbx;unfold X5 at hy;have HR:=Q0 hR;have hBc:=Q0 (HB.then_ hbo);have h1n:1<=n:=by omega
  clear hR hjc hbo hbx b1 y0 x0 x1
  gi_wp2
  refine HR.mono ?_;rintro e W3 (⟨rfl,hj3,hk3⟩|⟨rfl,hjx3⟩)
  ·gi_wp2
   rw[<-Hg.out]
   gi_roundg (m- (k+1))
   case measure=>omega
   exact⟨k+1,by omega,Q4 _,by go_num,by rw[Hpre.out];exact hj3,hBc.trans hk3 (fun i h=> .inl h)⟩
  gi_wp2
  refine P4 (KW rfl _ _ _) rfl ?_;exact⟨⟨_,rfl⟩,.inr ⟨_,by rw[<-Hpre.out];exact Nr _ _,hjx3⟩⟩
 obtain rfl:k=m:=by omega
 have hltz: ¬(k:Int)< (k:Int):=by omega
 have hMr:=HM.keeps hB Hfp
 have y3:=hMr.cells.2.2.2.2.2
 have hfull:U6 ((H 2).ms.take k)=U6 ((H 2).ms++U5 ((H 2).qs.take 0)):=by rw[N7 (by rw[Hm.out];exact Q4 _)];simp[U5]
 rw[hfull]at hj
 obtain⟨ql,hql⟩:=exq ((H 2).qs.length)
 rw[hql]at y3
 have Hql:=Q0 hql
 have hql1:ql<=100000:=by rw[<-hql];exact Rl MX HSm HN
 have Hj0:=Q0 hj
 have HB0:=Q0 hB
 clear hMr hfull hj hB hql
 gi_wp2
 clear y3
 gi_loopg [53] ql (fun gg s53 wr=> ∃j:Nat,j<=ql/\ql-j<=gg/\s53=I O j/\J (U6 ((H 2).ms++U5 ((H 2).qs.take j))) wr/\Q6 S W wr)
 case atStart=>exact⟨0,V5 _,Q4 _,rfl,Hj0,HB0⟩
 obtain⟨j,hj,hgk,rfl,hjj,hB⟩:=hrel
 by_cases hlq:j<ql
 ·have hjl:j< (H 2).qs.length:=by have:=Hql.out;omega
  have hMr:=HM.keeps hB Hfp;have hrq:=(hMr.hx 2 MX).rq;obtain⟨qg,hqg,hqc⟩:=hrq.elem JP (by omega) (i:=j) (by simpa using hjl);obtain⟨q,hq⟩:=exq ((H 2).qs[j]'hjl);have q0:wr.cell? ⟨qg,j*2,none⟩=some (I O q.price):=by have:=hqc 0 _ rfl;rw[<-hq];simpa [QG.que]using this
  have q1:wr.cell? ⟨qg,j*2+1,none⟩=some (.slice q.A q.os.length q.c):=by have:=hqc 1 _ rfl;rw[<-hq];simpa [QG.que]using this
  have hqm:q∈(H 2).qs:=by rw[<-hq];exact Y1 _
  obtain⟨m2,hm2⟩:=exq q.os.length;rw[hm2]at q1;have hm2l:m2<=1000:=by rw[<-hm2,<-hq];exact Rm MX HSm HN hjl
  have Hq:=Q0 hq;have Hqm:=Q0 hqm;have Hm2:=Q0 hm2;have Hjl:=Q0 hjl;have hlqz:(j:Int)< (ql:Int):=by omega
  have hj0:(0:Int)<=(j:Int):=by omega
  have HqA:=Q0 hqg;have hba:Below wr.heap.size wr (wr.alloc (.cells #[I O q.price,.slice q.A m2 q.c] 214)):=(Q2 _ _).alloc (Q4 _) _;have Hjj:=Q0 (HJ _ _ _ hjj hba);have HBj:=Q0 (hB.then_ hba);clear hMr hrq hqc hqm hm2 hqg hjj hB hba;rw[HqA.out]
  gi_wp2
  clear q0 q1
  gi_loopg [60] m2 (fun gg s60 wr=> ∃i:Nat,i<=m2/\m2-i<=gg/\s60=I O i/\J (U6 ((H 2).ms++(U5 ((H 2).qs.take j)++q.os.take i))) wr/\Q6 S W wr)
  case atStart=>exact⟨0,V5 _,Q4 _,rfl,by simpa using Hjj.out,HBj.out⟩
  obtain⟨i,hi,hgk2,rfl,hj,hB⟩:=hrel
  by_cases hli:i<m2
  ·have hil:i<q.os.length:=by have:=Hm2.out;omega
   have hMr:=HM.keeps hB Hfp;have hrow:=(hMr.hx 2 MX).rl q Hqm;obtain⟨g,hg,-⟩:=hrow.elem DC (by omega) (i:=i) (by simpa [A6]using hil);rw[hg]at hrow;obtain⟨x0,x1⟩:=RR hrow (i:=i) (by simpa [A6]using hil);obtain⟨x,hx⟩:=exq (q.os[i]'hil);have ex:(A6 q.os)[i]'(by simpa [A6]using hil)=x.1:=by rw[<-hx];simp[A6]
   rw[ex]at x0 x1;have hxm:x∈B4 H:=XL MX (QB _ (FT.2 ⟨q,Hqm,by rw[<-hx];exact Y1 _⟩));have Hpre:=Q0 (show U6 ((H 2).ms++(U5 ((H 2).qs.take j)++q.os.take (i+1)))=U6 ((H 2).ms++(U5 ((H 2).qs.take j)++q.os.take i))++ [x.2] by rw[M8 hil,hx];simp[U6]);have hMx:=HSm.hM x hxm;have b1:wr.cell? ⟨B1,0,none⟩=some (IP (some ⟨b,0,none⟩)):=(hB.cell (p:=⟨B1,0,none⟩) hb1 hs1).trans hB1;have y0:=hMr.cells.1;have hlen:=Q0 (show(U6 ((H 2).ms++(U5 ((H 2).qs.take j)++q.os.take i))).length< (H 2).L.length from Mn Hjl Hq hil);obtain⟨⟨h1,h2⟩,o⟩:=x;dsimp only at x0 x1 hMx;have hbox:Below wr.heap.size wr (wr.alloc (.cells #[I O h1,I O h2] 186)):=(Q2 _ _).alloc (Q4 _) _;have hget:=Qa (hMr.below hbox) hMx;have HG:=Q0 hget;have Hj:=Q0 hj;have HB:=Q0 hB;have hb1l:B1<wr.heap.size:=by have:=hB.size;omega
   have hbl:=J5 hMr.blk;have Hg:=Q0 hg;have hgl:=hrow.lt (g:=g) rfl;have hliz:(i:Int)< (m2:Int):=by omega
   have hi0:(0:Int)<=(i:Int):=by omega
   have Hil:=Q0 hil;clear hx hg hMr hj hB hget ex hMx hrow hbox hil hxm;dsimp only at Hpre;rw[Hg.out]
   gi_upto_region 13 with fail
   gi_cut [13,14]from 83 (fun s7 s8 wx=>s8= .nilIface/\Zj wr wx o s7)
   case first=>
    have hB0:=Q0 (show Below wr.heap.size wr (wr.alloc (.cells #[I O h1,I O h2] 186)).drew from J3 ((Q2 _ _).alloc (Q4 _) _));have hB00:=Q0 (show Below wr.heap.size wr ((wr.alloc (.cells #[I O h1,I O h2] 186)).alloc (.cells #[I O 0,I O 0,I O 0,I O 0,I O 0] 29)).drew from J3 (((Q2 _ _).alloc (Q4 _) _).alloc (by simp) _));have HX0:=Q0 (show Q1 _ (wr.heap.size+1) 29 _ by simpa using J9 (wr.alloc (.cells #[I O h1,I O h2] 186)) 29 #[I O 0,I O 0,I O 0,I O 0,I O 0]);have HA:=Q0 (HG (wr.alloc (.cells #[I O h1,I O h2] 186)).drew (J3 (Q2 _ _)));have HA2:=Q0 (HG ((wr.alloc (.cells #[I O h1,I O h2] 186)).alloc (.cells #[I O 0,I O 0,I O 0,I O 0,I O 0] 29)).drew (J3 ((Q2 _ _).alloc (Q4 _) _)));have hw65:Fence.wide.fn 108:=trivial;have h1n:1<=n:=by omega
    gi_region_with (first|(gi_at_call 108;refine(GV.2 HA).mono ?_;rintro e w5 ⟨rfl,hb5⟩;have HB5:=Q0 (hB0.trans (hb5.mono (by simp<;>omega)));clear hb5)|(gi_at_call 108;refine(GV.2 HA2).mono ?_;rintro e w5 ⟨rfl,hb5⟩;have hbx:=J4 (Z2 HX0) hb5;have HB5:=Q0 (hB00.trans (hb5.mono (by simp<;>omega)));have z0:=(JS hbx).1;have z1:=(JS hbx).2.1;have z2:=(JS hbx).2.2.1;have z3:=(JS hbx).2.2.2.1;have z4:=(JS hbx).2.2.2.2;have f0:=J1 hbx 0;have f1:=J1 hbx 1;have f2:=J1 hbx 2;have f3:=J1 hbx 3;have f4:=J1 hbx 4;have HBx:=Q0 hbx;clear hb5 hbx))
    all_goals gi_wp2
    all_goals gi_meet
    all_goals
     refine⟨rfl,_,rfl, ?_, ?_⟩
     ·first
      |(with_reducible exact HB5.out.alloc HB5.out.size _)
      |exact HB5.trans ((Qb _ _ _ _ _ _ _).below (B:=wr.heap.size) (fun i e=>by have e':i=wr.heap.size+1:=e;omega) HB5.size)
     unfold J8
     first
     |(with_reducible exact J9 _ _ _)
     |exact J7 (J7 (J7 (J7 (J7 HBx 0 _) 1 _) 2 _) 3 _) 4 _
   obtain⟨rfl,ob,rfl,hbo,hbx⟩:=hcut;have hjc:=HJ.out _ _ _ Hj hbo;obtain⟨fn,tmps,assign,body,hy,hR⟩:=HY.out _ o wc hjc hlen;obtain⟨z0,z1,z2,z3,z4⟩:=Z6 hbx;unfold X5 at hy;have HR:=Q0 hR;have hBc:=Q0 (HB.then_ hbo);have h1n:1<=n:=by omega
   clear hR hjc hbo hbx b1 y0 x0 x1
   gi_wp2
   refine HR.mono ?_;rintro e W3 (⟨rfl,hj3,hk3⟩|⟨rfl,hjx3⟩)
   ·gi_wp2
    rw[<-Hg.out]
    gi_roundg (m2- (i+1))
    case measure=>omega
    exact⟨i+1,by omega,Q4 _,by go_num,by rw[Hpre.out];exact hj3,hBc.trans hk3 (fun i h=> .inl h)⟩
   gi_wp2
   refine P4 (KW rfl _ _ _) rfl ?_;exact⟨⟨_,rfl⟩,.inr ⟨_,by rw[<-Hpre.out];exact Ns Hjl Hq _,hjx3⟩⟩
  obtain rfl:i=m2:=by omega
  have hliz: ¬(i:Int)< (i:Int):=by omega
  have Hj2:=Q0 (show J (U6 ((H 2).ms++U5 ((H 2).qs.take (j+1)))) wr by rw[Gv Hjl Hq.out];rw[N7 (l:=q.os) (i:=i) (by rw[Hm2.out];exact Q4 _)]at hj;exact hj);have HB2:=Q0 hB;clear hj hB
  gi_wp2
  rw[<-HqA.out]
  gi_roundg (ql- (j+1))
  case measure=>omega
  exact⟨j+1,by omega,Q4 _,by go_num,Hj2,HB2⟩
 obtain rfl:j=ql:=by omega
 have hlqz: ¬(j:Int)< (j:Int):=by omega
 have Hj2:=Q0 (show J (H 2).L wr by rw[N7 (by rw[Hql.out];exact Q4 _)]at hjj;exact hjj)
 clear hjj hB
 gi_wp2
 go_end0
 exact⟨⟨_,rfl⟩,.inl Hj2⟩
def Qq:HS:=⟨none,0,none,0,[],[]⟩
theorem Vl w:Calls prog 52 #[] w fun e w'=>Below w.heap.size w w'/\ ∃b G,(∀i,G i->w.heap.size<=i)/\e= .returned (IP (some ⟨b,0,none⟩))/\QY w' b G [] []:=by
 have U:Calls prog 104 #[I O 100] w _:=Jh6 w 100 (by omega) (by omega)
 have HN:=Q0 U
 have a2:= @run_makeMap prog
 clear U
 go_enter func52,ntmps52
 go_wp2_with (go_at_call 104;refine HN.mono ?_;rintro e w1 ⟨hB,a,F,Z,rfl,E⟩;have HB:=Q0 hB;have HF:=Q0 Z;have D:=Q0 E;clear hB Z E)
 go_ret
 have a0:Below w1.heap.size w1 (w1.alloc (.map #[] 0)):=(Q2 _ _).alloc (Q4 _) _
 have J:Below w1.heap.size w1 ((w1.alloc (.map #[] 0)).alloc (.cells (VU a w1.heap.size fun _=>Qq) 157)):=a0.alloc (by simp) _
 have a1:=D.below J
 have hM:P7 ((w1.alloc (.map #[] 0)).alloc (.cells (VU a w1.heap.size fun _=>Qq) 157)) w1.heap.size (fun _=>none):=(P7.made w1).alloc _
 have N:=HB.size
 refine⟨HB.trans (J.mono N),w1.heap.size+1,V0 (w1.heap.size+1) w1.heap.size F (fun _=>Qq), ?_,by simp,a,F,_,0,w1.heap.size,_,fun _=>Qq,fun i=>if i=w1.heap.size+1 then 1 else if i=w1.heap.size then 2 else 3,⟨?_,a1,hM, ?_,Q5 rfl, ?_, ?_⟩, ?_,fun i=>ZP,rfl,rfl⟩
 ·rintro i (rfl|rfl|j|j|j)
  ·omega
  ·exact N
  ·exact HF i j
  ·rcases j with j|j|⟨q,u,_⟩
   ·cases j
   ·cases j
   cases u
  rcases j with j|j|⟨q,u,_⟩
  ·cases j
  ·cases j
  cases u
 ·have:=J9 (w1.alloc (.map #[] 0)) 157 (VU a w1.heap.size fun _=>Qq)
  rwa [PL]at this
 ·intro s hs
  exact⟨⟨rfl,.inl ⟨rfl,rfl⟩⟩,⟨rfl,.inl ⟨rfl,rfl⟩⟩,fun q u=>(by cases u),fun g C=>(by cases C),fun g C=>(by cases C),fun q u=>(by cases u),MW⟩
 ·rw[Q3 (by omega),Q5 rfl]
 ·intro i j
  have:=D.fp j;rw[Q3 (by omega),Q3 (by omega)]
 exact⟨fun s hs=>⟨fun x y=>(by cases y),fun q u=>(by cases u),List.Pairwise.nil⟩,fun s hs q u=>(by cases u),fun x y=>(by cases y),fun x y=>(by cases y),fun k v hv=>(by cases hv),MW,rfl,fun x y=>(by cases y)⟩
theorem Wl w b G L1 L2 (h:QY w b G L1 L2):Calls prog 45 #[IP (some ⟨b,0,none⟩)] w fun e w'=>e= .returned (I O (L1.length+L2.length:Nat))/\w=w':=by
 obtain⟨a,F,M,n,r,f,H,reg,i,j,u,rfl,rfl⟩:=h
 have C:=i.cells.1
 have v:=Q0 i.ar
 have y:Hid (n=(H 1).L.length+ (H 2).L.length):=Q0 (by rw[j.cnt];simp[B4,HS.L,U6])
 clear i j u
 go_enter func45,ntmps45
 go_wp2_with (go_at_call 92;refine(Ja4 v).mono ?_;rintro e w' ⟨rfl,rfl⟩)
 go_ret
 exact⟨T3 (by rw[y.out]),rfl⟩
theorem Yq {l l':List Int} (h:l.Perm l'):l.sum=l'.sum:=by
 induction h with
 |nil=>rfl
 |cons x _ i=>rw[VP,VP,i]
 |swap x y l=>simp only[List.sum_cons];omega
 |trans _ _ h1 h2=>exact h1.trans h2
def Y2 (s:Int) (k:Option Int) (l:List Q8):Int:=(l.map fun o=>if o.side=s/\S0 o=k then o.qty else 0).sum
theorem GD s k o l:Y2 s k (o::l)=(if o.side=s/\S0 o=k then o.qty else 0)+Y2 s k l:=by unfold Y2;rw[S6,VP]
theorem GU s k l l':Y2 s k (l++l')=Y2 s k l+Y2 s k l':=by unfold Y2;rw[T1,Ji]
theorem Gw {s k l l'} (h:l.Perm l'):Y2 s k l=Y2 s k l':=Yq (h.map _)
theorem RZ {s k l} (h: ∀o∈l,UN o):0<=Y2 s k l/\Y2 s k l<=1000000*l.length:=by
 induction l with
 |nil=>exact⟨P8 _,P8 _⟩
 |cons o t i=>
  rw[GD,XX];have h1:=i (fun x j=>h x (by simp[j]));have h2:=(h o (by simp)).2.1
  split<;>omega
theorem Jb8 {s k l} (h:Y2 s k l≠0): ∃o∈l,o.side=s/\S0 o=k:=by
 induction l with
 |nil=>exact absurd rfl h
 |cons o t i=>
  rw[GD]at h
  by_cases e:o.side=s/\S0 o=k
  ·exact⟨o,by simp,e⟩
  rw[Q3 e]at h;obtain⟨x,j,u⟩:=i (by omega);exact⟨x,by simp[j],u⟩
theorem Jb9 {l} (h: ∀o∈l,UN o) {o} (j:o∈l):o.qty<=Y2 o.side (S0 o) l:=by
 obtain⟨a,b,rfl⟩:=List.append_of_mem j
 rw[GU,GD,Q5 ⟨rfl,rfl⟩]
 have h1:=RZ (s:=o.side) (k:=S0 o) (l:=a) (fun x i=>h x (by simp[i]))
 have h2:=RZ (s:=o.side) (k:=S0 o) (l:=b) (fun x i=>h x (by simp[i]))
 omega
def ZE (lv:List X4) (bu se:Int) (g:Int->Option Int->Int):Prop:= ∀s,(s=1\/s=2)-> ∀k,CB s (BC lv bu se k)=g s k
theorem ZE.has {lv bu se g} (h:ZE lv bu se g) {o} (i:o.side=1\/o.side=2):AD lv bu se o=g o.side (S0 o):=by
 rw[<-h o.side i (S0 o)]
 rfl
theorem ZE.chg {lv lv' bu se bu' se' g} (h:ZE lv bu se g) {o} (j:o.side=1\/o.side=2) {q} (u:RT lv bu se o q lv' bu' se'):
  ZE lv' bu' se' (fun s k=>g s k+if o.side=s/\S0 o=k then q*o.qty else 0):=by
 intro s i k
 show CB s (BC lv' bu' se' k)=g s k+if o.side=s/\S0 o=k then q*o.qty else 0
 rw[u.2 k]
 by_cases e:k=S0 o
 ·rw[Q5 e]
  have h1:=h s i k;unfold CB at h1|-;unfold dB dS;rcases i with rfl|rfl
  ·rw[Q5 rfl]at h1|-
   dsimp only at h1|-;rw[h1];rcases j with h2|h2
   ·rw[Q5 h2,Q5 ⟨h2,e.symm⟩]
   rw[Q3 (by omega),Q3 (by omega)];omega
  rw[Q3 (by decide)]at h1|-;dsimp only at h1|-;rw[h1];rcases j with h2|h2
  ·rw[Q5 h2,Q3 (by omega)];omega
  rw[Q3 (by omega),Q5 ⟨h2,e.symm⟩]
 rw[Q3 e,Q3 (fun x=>e x.2.symm),h s i k]
 simp
theorem ZE.congr {lv bu se g g'} (h:ZE lv bu se g) (e: ∀s k,(s=1\/s=2)->g s k=g' s k):ZE lv bu se g':=fun s i k=>(h s i k).trans (e s k i)
theorem Gx:ZE [] 0 0 (fun s k=>Y2 s k []):=by
 intro s i k
 have e:BC [] 0 0 k=(0,0):=by cases k<;>rfl
 rw[e]
 unfold CB Y2
 split<;>rfl
theorem Mo:AC []:=⟨List.Pairwise.nil,fun x h=>(by cases h),fun x h=>(by cases h)⟩
theorem Gy {α:Type} [DecidableEq α]: ∀ {l l':List α},l.Nodup->(∀x∈l,x∈l')->l.length<=l'.length
 | [],_,_,_=>V5 _
 |a::t,l',h,hs=>by
  obtain⟨h1,h2⟩:=KT.1 h;have ha:=hs a (by simp);have h3:=Gy (l':=l'.erase a) h2 (fun x hx=>(List.mem_erase_of_ne (fun e=>h1 (by rw[<-e];exact hx))).2 (hs x (by simp[hx])));rw[List.length_erase_of_mem ha]at h3;have:=List.length_pos_of_mem ha;rw[XX];omega
theorem ZE.few {lv bu se l} (hk:AC lv) (h:ZE lv bu se (fun s k=>Y2 s k l)):lv.length<=l.length:=by
 have y:(lv.map (·.1)).Nodup:=by
  unfold List.Nodup;rw[TE];exact List.Pairwise.imp (fun h=>by omega) hk.rank
 have D: ∀p∈lv.map (·.1),p∈l.map (·.price):=by
  intro p hp;obtain⟨x,u,rfl⟩:=U4.1 hp;have C:=(hk.nz x u).2.2;have j:=NN hk.rank u;have key: ∃s,Y2 s (some x.1) l≠0:=by
   rcases C with h1|h1
   ·refine⟨1,fun e=>h1 ?_⟩
    have:=h 1 (.inl rfl) (some x.1);dsimp only at this;rw[e]at this;unfold CB at this;rw[Q5 rfl,show BC lv bu se (some x.1)=C2 lv x.1 from rfl,j]at this;exact this
   refine⟨2,fun e=>h1 ?_⟩;have:=h 2 (.inr rfl) (some x.1);dsimp only at this;rw[e]at this;unfold CB at this;rw[Q3 (by decide),show BC lv bu se (some x.1)=C2 lv x.1 from rfl,j]at this;exact this
  obtain⟨s,v⟩:=key;obtain⟨o,E,-,i⟩:=Jb8 v;unfold S0 at i
  split at i
  ·cases i
  exact U4.2 ⟨o,E,KZ i⟩
 have:=Gy y D
 simpa using this
theorem ZE.mild {lv bu se g} (hk:AC lv) (h:ZE lv bu se g) (j: ∀s k,0<=g s k/\g s k<=1000000000) (C:lv.length<=99999):BG lv bu se:=by
 have y: ∀x,CB 1 x=x.1:=fun x=>Q5 rfl
 have v: ∀x,CB 2 x=x.2:=fun x=>Q3 (by decide)
 refine⟨?_, ?_,fun x u=> ?_,fun x u=> ?_,C⟩
 ·have h1:=h 1 (.inl rfl) none
  have h2:=j 1 none;rw[y]at h1;have i:bu=g 1 none:=h1;omega
 ·have h1:=h 2 (.inr rfl) none
  have h2:=j 2 none;rw[v]at h1;have i:se=g 2 none:=h1;omega
 ·have h1:=h 1 (.inl rfl) (some x.1)
  have h2:=j 1 (some x.1);rw[y]at h1;have i:(C2 lv x.1).1=g 1 (some x.1):=h1;rw[NN hk.rank u]at i;omega
 have h1:=h 2 (.inr rfl) (some x.1)
 have h2:=j 2 (some x.1)
 rw[v]at h1
 have i:(C2 lv x.1).2=g 2 (some x.1):=h1
 rw[NN hk.rank u]at i
 omega
def JE (o:Q8):Q8:=⟨0,(AF o).1,(AF o).2.1,(AF o).2.2,o.qty⟩
theorem Qs0 o:UA (JE o)=MV o.side (S0 o):=by
 rw[<-Vx]
 rfl
theorem Um o:(JE o).side=o.side:=by unfold JE AF;split<;>rfl
theorem Kc o:(JE o).qty=o.qty:=rfl
theorem RJ o:(JE o).kind=2↔o.kind=2:=by
 unfold JE AF
 split
 ·simp_all
 simp_all
theorem Vy {o} (h:o.kind≠2):(JE o).price=o.price:=by unfold JE AF;rw[Q3 h]
theorem Qs1 s k l:XC (MV s k) (l.map JE)=Y2 s k l:=by
 unfold XC Y2
 rw[BQ]
 congr 1
 refine YN fun o _=> ?_
 simp only[Function.comp]
 rw[Qs0]
 by_cases e:o.side=s/\S0 o=k
 ·rw[Q5 e,Q5 (by rw[e.1,e.2]),Kc]
 rw[Q3 e,Q3 (fun x=>e (Gt x))]
theorem Nt o:JA (JE o)=JA o:=by unfold JA;rw[Um,Kc]
theorem Ey l:P6 (l.map JE)=(P6 l).map JE:=by
 unfold P6
 rw[Jh]
 congr 1
 refine List.filter_congr fun o _=> ?_
 simp only[Function.comp,Nt]
theorem Ci {F G:Q8->Int}: ∀(l:List Q8) s,(∀o∈l,F (JE o)=G o)->(l.map JE).foldl (fun s o=>s+F o) s=l.foldl (fun s o=>s+G o) s:=by
 intro l
 induction l with
 |nil=>intro s _;rfl
 |cons o t i=>
  intro s h;rw[S6,QZ,QZ,h o (by simp),i _ (fun x j=>h x (by simp[j]))]
theorem Qs2 p l:JU p (l.map JE)=JU p l:=by
 unfold JU
 refine Ci l 0 fun o _=> ?_
 unfold XA
 rw[Um,Kc]
 by_cases hk:o.kind=2
 ·rw[(RJ o).2 hk,hk]
  simp
 rw[Vy hk]
 have h2: ¬(JE o).kind=2:=fun e=>hk ((RJ o).1 e)
 simp only[hk,h2]
theorem Qs3 p l:JY p (l.map JE)=JY p l:=by
 unfold JY
 refine Ci l 0 fun o _=> ?_
 unfold XB
 rw[Um,Kc]
 by_cases hk:o.kind=2
 ·rw[(RJ o).2 hk,hk]
  simp
 rw[Vy hk]
 have h2: ¬(JE o).kind=2:=fun e=>hk ((RJ o).1 e)
 simp only[hk,h2]
theorem Wm l more:N3 (l.map JE) more=N3 l more:=by
 unfold N3
 rw[Ey]
 congr 1
 rw[Jh,BQ]
 have i:(P6 l).filter ((fun o=> !(o.kind ==2))∘JE)=(P6 l).filter (fun o=> !(o.kind ==2)):=by
  refine List.filter_congr fun o _=> ?_
  simp only[Function.comp]
  by_cases hk:o.kind=2
  ·rw[(RJ o).2 hk,hk]
  have h2: ¬(JE o).kind=2:=fun e=>hk ((RJ o).1 e)
  rw[X3 h2,X3 hk]
 rw[i]
 refine YN fun o j=> ?_
 have:=(P3.1 j).2
 exact Vy (by simpa using this)
theorem Qc6 l more:S7 (l.map JE) more=S7 l more:=by
 unfold S7
 rw[Wm,Ey]
 refine YN fun p _=> ?_
 unfold BV
 rw[Qs2,Qs3]
def Kp (l:List Q8):Prop:= ∀o∈l,UN o
theorem ZE.rel {lv bu se l} (C:Kp l) (h:ZE lv bu se (fun s k=>Y2 s k l)):AE lv bu se (fun x=>LZ (XC x (l.map JE)))/\SY (fun x=>LZ (XC x (l.map JE))) (l.map JE):=by
 have y:FV (l.map JE):=fun o u=>by
  obtain⟨z,j,rfl⟩:=U4.1 u;rw[Nt];have h1:=C z j;unfold JA;rw[Z5 h1.2.1.1,Z5 h1.2.1.2];rcases h1.1 with e|e
  ·rw[e];rfl
  rw[e];rfl
 refine⟨AE.of (fun s D k=> ?_) (fun x v i=> ?_),⟨y,fun x=>(Yo _).symm⟩⟩
 ·rw[Yo,Qs1,h s D k]
 unfold LZ at i
 split at i
 ·cases i
 rename_i E
 cases i
 have J:=Di (x:=x) y
 refine⟨by omega, ?_⟩
 obtain⟨o,u,rfl⟩:=Gq E
 obtain⟨z,j,rfl⟩:=U4.1 u
 have h1:=C z j
 unfold JE
 show AF z=_\/AF z=_\/_
 unfold AF
 by_cases hk:z.kind=2
 ·rw[Q5 hk]
  rcases h1.1 with e|e
  ·exact .inl (by rw[e])
  exact .inr (.inl (by rw[e]))
 rw[Q3 hk]
 have h2:=h1.2.2.resolve_left hk
 refine .inr (.inr ⟨z.price,h2.1,h2.2, ?_⟩)
 rcases h1.1 with e|e
 ·exact .inl (by rw[e];rfl)
 exact .inr (by rw[e];rfl)
theorem ZE.points {lv bu se l} (hk:AC lv) (i:Kp l) (h:ZE lv bu se (fun s k=>Y2 s k l)) more:XM lv bu se more=S7 l more:=by
 obtain⟨h1,h2⟩:=h.rel i
 rw[<-Qc3 hk h1 h2,Qc6]
theorem Qc7 {l l'} (h:l.Perm l') more:S7 l more=S7 l' more:=by
 have i:(P6 l).Perm (P6 l'):=h.filter _
 have hp:(N3 l more).Perm (N3 l' more):=(TL _).append ((i.filter _).map _)
 have tr: ∀a b c:Int,(decide (a<=b))=true->(decide (b<=c))=true->(decide (a<=c))=true:=fun a b c h1 h2=>by simp at*;omega
 have j: ∀a b:Int,(decide (a<=b) ||decide (b<=a))=true:=fun a b=>by simp;omega
 have C:(N3 l more).mergeSort (fun x y=>decide (x<=y))=(N3 l' more).mergeSort (fun x y=>decide (x<=y)):=by
  refine Zk (le:=fun a b=>a<=b) (fun a b _ _ h1 h2=>by omega) ((TX tr j _).imp (fun h=>by simpa using h)) ((TX tr j _).imp (fun h=>by simpa using h)) (((Zo _ _).trans hp).trans (Zo _ _).symm)
 have u: ∀p,JU p (P6 l)=JU p (P6 l'):=fun p=>by
  rw[Ym,Ym];exact Yq (i.map _)
 have v: ∀p,JY p (P6 l)=JY p (P6 l'):=fun p=>by
  rw[Yn,Yn];exact Yq (i.map _)
 unfold S7
 rw[C]
 refine YN fun p _=> ?_
 unfold BV
 rw[u,v]
