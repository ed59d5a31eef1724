/- Contracts and walks that the law's proof needs. -/
import Derived.Test.YtbmiieehkkfbgaaGreatDoorZd31
import Derived.Test.YtbmiieehkkfbgaaGreatDoorZd32
import Derived.Test.YtbmiieehkkfbgaaGreatDoorZd35
import Derived.WalkKit
import Derived.WalkLawsBesides
import Derived.WalkSpells
import Derived.StillTailTactics
import Derived.Deep.QuietTactic
import Derived.BigQuiet
import Derived.Deep.DeepCutAuto
import Derived.Deep.CutBlock
import Derived.Shelf.Abstract
import Derived.Test.YtbmiieehkkfbgaaGreatDoorZd34
import Derived.Test.YtbmiieehkkfbgaaGreatDoorZd26
set_option linter.unusedVariables false
set_option maxRecDepth 100000
set_option maxHeartbeats 8000000
namespace Go.Proofs.YtbmiieehkkfbgaaGreatDoor
open Go.RowKit
theorem Kp9 {σ:Type} {al:σ→Int→Bool} {tr:σ→Int→σ}: ∀(l:List QX) (o:QX) (t:σ),(VX al tr l o t).fills.length≤l.length:=by
 intro l
 induction l with
 |nil=>intro o t;exact Nat.le_refl _
 |cons x r ih=>
  intro o t;unfold VX
  split
  ·exact Nat.zero_le _
  ·split
   ·exact Nat.le_succ_of_le (ih o t)
   ·split
    ·exact Nat.zero_le _
    ·split
     ·exact Nat.zero_le _
     ·dsimp only
      rw[List.length_cons,List.length_cons];exact Nat.succ_le_succ (ih _ _)
theorem Jz3 {sd:Int} {F:List XQ} (h: ∀f∈F,Jm1 f) (s:Int) (k:Option Int):Qd5 sd F s k≤1000000*F.length:=by
 induction F with
 |nil=>exact Int.le_refl _
 |cons f t ih=>
  rw[Qd6,List.length_cons];have h1:=ih (fun g hg=>h g (by simp[hg]));have h2:=(h f (by simp)).n
  split<;>omega
theorem Xv9 {m:VQ} (h:ZW m.L1 m.L2) (o:QX):(Q6 m o).fills.length≤100:=by
 have h1:(Q6 m o).fills.length≤(JY (3-o.side) m.L1 m.L2).length:=Kp9 _ _ _
 have h2:=h.cnt
 rw[List.length_append]at h2
 have h3:(JY (3-o.side) m.L1 m.L2).length≤m.L1.length+m.L2.length:=by
  unfold JY
  split<;>omega
 omega
theorem Xm2 {m:VQ} (h:ZW m.L1 m.L2) (sd:Int): ∀x∈JY sd m.L1 m.L2,OkO x:=fun x hx=>by
 unfold JY at hx
 split at hx
 ·exact h.ok x (List.mem_append_left _ hx)
 ·exact h.ok x (List.mem_append_right _ hx)
theorem Xw0 {m:VQ} (h:ZW m.L1 m.L2) (o:QX): ∀f∈(Q6 m o).fills,Jm1 f:=Kd3 _ _ _ (Xm2 h _)
theorem IY (m:VQ) (o:QX):(UK m o).now=m.now∧(UK m o).tk=m.tk:=by
 unfold UK
 split
 ·exact⟨rfl,rfl⟩
 ·exact⟨rfl,rfl⟩
theorem Jz4 {w:World} {g n c:Nat} {t:TypeId} {ps:List XQ} (h:QW w (some ⟨g,0,none⟩) n c t 4 (JQ Qb3 ps)) {i:Nat} (hi:i<ps.length):
  w.cell? ⟨g,i*4,none⟩=some (.int .i64 ps[i].b)∧w.cell? ⟨g,i*4+1,none⟩=some (.int .i64 ps[i].s)∧w.cell? ⟨g,i*4+2,none⟩=some (.int .i64 ps[i].p)∧w.cell? ⟨g,i*4+3,none⟩=some (.int .i64 ps[i].n):=by
 obtain⟨g',hg,hc⟩:=h.elem Qu6 (by omega) hi
 cases hg
 exact⟨hc 0 _ rfl,hc 1 _ rfl,hc 2 _ rfl,hc 3 _ rfl⟩
theorem Ke3 {m:VQ} (h:ZW m.L1 m.L2) {o:QX} (ho:UQ o.side) (s:Int) (k:Option Int):Q3 s k (Qa4 m)=Q3 s k (Qa4 (Qa5 m o))+Qd5 o.side (Q6 m o).fills s k:=by
 have key:=Ko9 (al:=fun la p=>I5 m.st m.dy m.an la p) (tr:=fun _ p=>p) (sd:=o.side) s k (JY (3-o.side) m.L1 m.L2) o m.la (fun x hx=>by
  rcases ho with e|e
  ·rw[e]at hx⊢
   exact h.s2 x hx
  ·rw[e]at hx⊢
   exact h.s1 x hx)
 have e1:(VX (fun la p=>I5 m.st m.dy m.an la p) (fun _ p=>p) (JY (3-o.side) m.L1 m.L2) o m.la)=Q6 m o:=rfl
 rw[e1]at key
 unfold Qa4 Qa5
 dsimp only
 rcases ho with e|e
 ·rw[if_pos e,if_pos e,U7,U7]
  rw[show JY (3-o.side) m.L1 m.L2=m.L2 by rw[e];rfl]at key;omega
 ·rw[if_neg (by omega),if_neg (by omega),U7,U7]
  rw[show JY (3-o.side) m.L1 m.L2=m.L1 by rw[e];rfl]at key;omega
structure Qk2 (w wr:World) (e tb bb bk im V X Y:Nat) (T:Option Addr) (tc:Nat) (Ap:Option Addr) (pc:Nat) (es:List MapEntry) (mc:Nat) (own:Nat→Nat→Prop) (A:Option Addr) (c:Nat) (F:List XQ) (ob lb:Array Value) (m1:VQ) (sd:Int) (k:Nat) (cs:Array Value) (Al:Option Addr) (lc:Nat) (lv:List XJ) (bu se:Int) (G:Nat→Prop) (own2:Nat→Nat→Prop):Prop where
 eng:UZ wr e cs tb bb bk im T tc Al lc lv bu se Ap pc es mc G own2 (fun s q=>Q3 s q (Qa4 m1)+Qd5 sd (F.drop k) s q) m1
 step:VW w wr own own2
 row:Qq1 wr own2 A F.length c 145 4 (JQ Qb3 F)
 fA: ∀i,QZ A=some i→w.heap.size≤i
 v:QJ wr V 27 #[.pointer (some ⟨e,0,none⟩)]∧ ∀k,¬own2 V k
 x:QJ wr X 117 ob∧ ∀k,¬own2 X k
 y:QJ wr Y 117 lb∧ ∀k,¬own2 Y k
 n:lv.length≤100+k
def Xh1 (w wr:World) (e tb bb bk im V X Y:Nat) (T:Option Addr) (tc:Nat) (Ap:Option Addr) (pc:Nat) (es:List MapEntry) (mc:Nat) (own:Nat→Nat→Prop) (A:Option Addr) (c:Nat) (F:List XQ) (ob lb:Array Value) (m1:VQ) (sd:Int) (k:Nat):Prop:=
 ∃cs Al lc lv bu se G own2,Qk2 w wr e tb bb bk im V X Y T tc Ap pc es mc own A c F ob lb m1 sd k cs Al lc lv bu se G own2
section
variable {w w1 wr wz w':World} {e tb bb bk im V X Y:Nat} {cs:Array Value} {T:Option Addr} {tc:Nat} {Al:Option Addr} {lc:Nat} {lv lv':List XJ} {bu se bu' se':Int} {Ap:Option Addr} {pc:Nat} {es:List MapEntry} {mc:Nat} {G:Nat→Prop} {own own2:Nat→Nat→Prop} {A:Option Addr} {c k:Nat} {F:List XQ} {ob lb:Array Value} {m m1:VQ} {sd:Int} {G2:Nat→Prop} {o:QX}
theorem Qk2.below (h:Qk2 w wr e tb bb bk im V X Y T tc Ap pc es mc own A c F ob lb m1 sd k cs Al lc lv bu se G own2) (hb:Below wr.heap.size wr w'):Qk2 w w' e tb bb bk im V X Y T tc Ap pc es mc own A c F ob lb m1 sd k cs Al lc lv bu se G own2:=
 ⟨h.eng.below hb,h.step.trans (VW.of_below hb),h.row.below hb,h.fA,⟨QJ.keep h.v.1 hb,h.v.2⟩,⟨QJ.keep h.x.1 hb,h.x.2⟩,⟨QJ.keep h.y.1 hb,h.y.2⟩,h.n⟩
theorem Qk2.cells {a1 a2 a3 a4 a5 b1 b2 b3 b4 b5:Value} (h:Qk2 w wr e tb bb bk im V X Y T tc Ap pc es mc own A c F #[a1,a2,a3,a4,a5] #[b1,b2,b3,b4,b5] m1 sd k cs Al lc lv bu se G own2):
  wr.cell? ⟨V,0,none⟩=some (.pointer (some ⟨e,0,none⟩))∧wr.cell? ⟨X,1,none⟩=some a2∧wr.cell? ⟨Y,0,none⟩=some b1∧wr.cell? ⟨Y,1,none⟩=some b2∧wr.cell? ⟨Y,2,none⟩=some b3∧wr.cell? ⟨Y,3,none⟩=some b4∧wr.cell? ⟨Y,4,none⟩=some b5:=
 ⟨by rw[QJ.cell h.v.1];rfl,by rw[QJ.cell h.x.1];rfl,by rw[QJ.cell h.y.1];rfl,by rw[QJ.cell h.y.1];rfl,by rw[QJ.cell h.y.1];rfl,by rw[QJ.cell h.y.1];rfl,by rw[QJ.cell h.y.1];rfl⟩
theorem Qm8.loop (h:Qm8 w1 wr e tb bb bk im V X cs T tc Al lc lv bu se Ap pc es mc own (fun s q=>Q3 s q (Qa4 m)) A c (Q6 m o).fills ob (Qa5 m o) G2) (hb:Below w.heap.size w w1) (hV:w.heap.size≤V) (hls:ZW m.L1 m.L2) (ho:UQ o.side) (hn:lv.length≤100) (hY:QJ wr Y 117 lb) (hf:Ko8 (Qs2 w1 own G2 4) V X A Y):
  Xh1 w wr e tb bb bk im V X Y T tc Ap pc es mc own A c (Q6 m o).fills ob lb (Qa5 m o) o.side 0:=by
 refine⟨cs,Al,lc,lv,bu,se,G2,Qs2 w1 own G2 4,⟨h.eng.lots (fun s q _=> ?_),⟨(QK.of_below hb _).trans h.keep (fun i hi=> ?_),fun i j hi=> ?_⟩,⟨h.row,fun i hi j hj=> ?_⟩,fun i hi=>Nat.le_trans hb.size (h.fA i hi).1,⟨h.var,fun j hj=> ?_⟩,⟨h.box,fun j hj=> ?_⟩,⟨hY,hf.1⟩,by omega⟩⟩
 ·exact Ke3 hls ho s q
 ·rcases hi with hi|rfl
  ·exact .inl hi
  ·exact .inr hV
 ·rcases hj':hi with hi|hi
  ·exact .inl hi
  ·exact .inr (Nat.le_trans hb.size hi.1)
 ·have h1:=h.fA i hi
  rcases hj with hj|hj
  ·have:=h.o1.lt i j hj;omega
  ·exact h1.2 hj.2.1
 ·rcases hj with hj|hj
  ·exact h.nv.1 j hj
  ·have:=hj.1;have:=h.nv.2.2.2.1;omega
 ·rcases hj with hj|hj
  ·exact h.nv.2.1 j hj
  ·have:=hj.1;have:=h.nv.2.2.2.2;omega
theorem Qk2.small (h:Qk2 w wr e tb bb bk im V X Y T tc Ap pc es mc own A c F ob lb m1 sd k cs Al lc lv bu se G own2) (hF: ∀f∈F,Jm1 f) (hl:F.length≤100) (hk:k≤F.length):Jc5 lv bu se:=by
 have hls:=h.eng.book.lists
 have hd: ∀f∈F.drop k,Jm1 f:=fun f hf=>hF f (List.mem_of_mem_drop hf)
 refine(h.eng.is.mild h.eng.ind.ok (fun s q=> ?_) (by have:=h.n;omega)).small
 have h1:=Qh2 (s:=s) (k:=q) (J8 hls)
 have h2:=hls.cnt
 have h3:=Jz3 (sd:=sd) hd s q
 have h4:=Qw0 (sd:=sd) (fun f hf=>(hd f hf).n.1) s q
 have h5:(F.drop k).length≤100:=by rw[List.length_drop];omega
 show 0≤Q3 s q (Qa4 m1)+_∧Q3 s q (Qa4 m1)+_≤_
 unfold Qa4
 omega
theorem Qk2.next (h:Qk2 w wr e tb bb bk im V X Y T tc Ap pc es mc own A c F ob lb m1 sd k cs Al lc lv bu se G own2) (hF: ∀f∈F,Jm1 f) (hk:k<F.length) (hsd:UQ sd) {f:XQ} (hf:F[k]=f) (hit:Qd1 wr w' e 126 cs 9 Al lv' bu' se') (htd:Qv6 lv bu se ⟨0,3-sd,1,f.p,f.n⟩ (-1) lv' bu' se'):
  Xh1 w w' e tb bb bk im V X Y T tc Ap pc es mc own A c F ob lb m1 sd (k+1):=by
 have hfi:=hF f (hf▸List.getElem_mem hk)
 have hd:F.drop k=f::F.drop (k+1):=by rw[List.drop_eq_getElem_cons hk,hf]
 have h12:(3-sd=1∨3-sd=2):=by rcases hsd with e|e<;>omega
 have hr:Qb0 ⟨0,3-sd,1,f.p,f.n⟩:=⟨h12,hfi.n,.inr hfi.p⟩
 have hd2: ∀g∈F.drop (k+1),1≤g.n:=fun g hg=>(hF g (List.mem_of_mem_drop hg)).n.1
 have hkey:Qa0 ⟨0,3-sd,1,f.p,f.n⟩=some f.p:=if_neg (show¬((1:Int)=2) by decide)
 have hq:(⟨0,3-sd,1,f.p,f.n⟩:QX).qty≤Qx6 lv bu se ⟨0,3-sd,1,f.p,f.n⟩:=by
  rw[h.eng.is.has h12,hkey,hd];show f.n≤Q3 (3-sd) (some f.p) (Qa4 m1)+Qd5 sd (f::F.drop (k+1)) (3-sd) (some f.p);rw[Qd6,if_pos ⟨rfl,rfl⟩];have h1:=Qw0 (sd:=sd) hd2 (3-sd) (some f.p);have h2:=(Qh2 (s:=3-sd) (k:=some f.p) (J8 h.eng.book.lists)).1;unfold Qa4;omega
 obtain⟨-,hchg⟩:=Xg0 hr hq htd
 have his:=h.eng.is.chg h12 hchg
 obtain⟨cs',Al',lc',own',hM,ho⟩:=h.eng.indTo hit his
 refine⟨cs',Al',lc',lv',bu',se',G,own',⟨hM.lots (fun s q _=> ?_),h.step.trans ho,h.row.step ho,h.fA,Qm9 h.v ho,Qm9 h.x ho,Qm9 h.y ho,by have:=hchg.1;have:=h.n;omega⟩⟩
 rw[hd,Qd6,hkey]
 show Q3 s q (Qa4 m1)+ ((if 3-sd=s∧some f.p=q then f.n else 0)+Qd5 sd (F.drop (k+1)) s q)+ (if 3-sd=s∧some f.p=q then -1*f.n else 0)=_
 split<;>omega
structure Xh2 (w wr:World) (e V:Nat) (F:Nat→Prop) (A:Option Addr) (c:Nat) (Fs:List XQ) (m:VQ) (F':Nat→Prop):Prop where
 eng:YQ wr e F' m
 step:KQ w wr F F'
 row:QW wr A Fs.length c 145 4 (JQ Qb3 Fs)
 fA: ∀g,QZ A=some g→w.heap.size≤g∧ ¬F' g
 v:QJ wr V 27 #[.pointer (some ⟨e,0,none⟩)]∧ ¬F' V
theorem Qk2.end_ {F0:Nat→Prop} (h:Qk2 w wr e tb bb bk im V X Y T tc Ap pc es mc own A c F ob lb m1 sd k cs Al lc lv bu se G own2) (hF: ∀i,F0 i↔ ∃k,own i k) (hk:F.length≤k):Xh2 w wr e V F0 A c F m1 (fun i=> ∃j,own2 i j):=by
 refine⟨UZ.at_ h.eng (fun s q _=> ?_),h.step.bstep hF,h.row.row,fun g hg=>⟨h.fA g hg,fun⟨j,hj⟩=>h.row.far g hg j hj⟩,h.v.1,fun⟨j,hj⟩=>h.v.2 j hj⟩
 rw[List.drop_eq_nil_of_le hk]
 show _+0=_
 omega
theorem Xh2.then_ {F0 F1:Nat→Prop} {Fs:List XQ} {m':VQ} (h:Xh2 w wr e V F0 A c Fs m1 F1) (ht:ZZ wr w' e F1 m'): ∃F2,Xh2 w w' e V F0 A c Fs m' F2:=by
 obtain⟨F2,h1,h2⟩:=ht
 refine⟨F2,h1,h.step.trans h2,h.row.keeps h2.1 (fun g hg=>(h.fA g hg).2),fun g hg=>⟨(h.fA g hg).1,fun x=> ?_⟩,QJ.keeps h.v.1 h2.1 h.v.2,fun x=> ?_⟩
 ·rcases h2.2 g x with y|y
  ·exact(h.fA g hg).2 y
  ·have:=h.row.lt hg;omega
 ·rcases h2.2 V x with y|y
  ·exact h.v.2 y
  ·have:=QJ.lt h.v.1;omega
theorem Xh2.fills {F0 F1:Nat→Prop} {Fs:List XQ} {P:List XQ→Prop} (h:Xh2 w wr e V F0 A c Fs m1 F1) (hP:P Fs):ZY w wr e F0 P m1 (.returned (.slice A (List.length Fs) c)):=
 ⟨A,c,Fs,rfl,hP,h.row,fun g hg=>(h.fA g hg).1,F1,h.eng,h.step,fun g hg=>(h.fA g hg).2⟩
end
theorem Ke4 {l:List QX} {p:QX→Bool} {k:Nat} (hk:k<l.length) (h:p l[k]=true) (hn: ∀i (hi:i<l.length),i<k→p l[i]=false):l.findIdx p=k∧l.any p=true:=by
 refine⟨(List.findIdx_eq hk).2 ⟨h,fun j hj=>hn j (by omega) hj⟩,List.any_eq_true.2 ⟨_,List.getElem_mem hk,h⟩⟩
theorem Jq6 {m:VQ} {id:Int} (h7:m.ph≠7) (hn:Jy0 m id=false):Qa7 m id=(if(Qa8 (Qa4 m) id).isSome=true then 0 else 7)∧UW m id=Jy3 m id:=by
 unfold Qa7 UW
 rw[if_neg h7,if_neg h7,hn]
 exact⟨rfl,rfl⟩
theorem Kq0 {m:VQ} {id:Int} {k:Nat} (h7:m.ph≠7) (hn:Jy0 m id=true) (hk:(m.pk.findIdx fun o=>o.id ==id)=k):Qa7 m id=0∧UW m id= {m with pk:=Jl8 m.pk k}:=by
 unfold Qa7 UW
 rw[if_neg h7,if_neg h7,if_pos hn,if_pos hn,hk]
 exact⟨rfl,rfl⟩
theorem Jq7 {w:World} {e:Nat} {F:Nat→Prop} {m:VQ} (h:YQ w e F m) (hpk:m.pk.length≤100000) (id:Int):
  Calls Tryz.prog 52 #[.pointer (some ⟨e,0,none⟩),.int .i64 id] w fun ev w'=>ev= .returned (VZ (Qa7 m id))∧ZZ w w' e F (UW m id):=by
 have hE:=h
 obtain⟨cs,tb,bb,bk,im,T,tc,Al,lc,lv,bu,se,Ap,pc,es,mc,G,own,hM,hF⟩:=h
 have hb1:Below w.heap.size w (w.alloc (.cells #[.int .i64 id] 3)):=(Below.refl _ w).alloc (Nat.le_refl _) _
 have hB:=QJ.new w 3 #[.int .i64 id]
 obtain⟨wa,ew1⟩: ∃W,w.alloc (.cells #[.int .i64 id] 3)=W:=⟨_,rfl⟩
 obtain⟨B,eB⟩: ∃g,w.heap.size=g:=⟨_,rfl⟩
 rw[ew1]at hb1 hB
 rw[eB]at hB
 have hM1:=hM.below hb1
 have hE1:=hE.below hb1
 have hBo: ∀k,¬own B k:=fun k hk=>by have:=hM.ok.lt B k hk;omega
 have c14:=hM1.cell hM1.ec.c14
 have c12:=hM1.cell hM1.ec.c12
 have f12:=hM1.frozen 12
 have b0:wa.cell? ⟨B,0,none⟩=some (.int .i64 id):=by rw[QJ.cell hB];rfl
 obtain⟨ph,hph⟩: ∃p,m.ph=p:=⟨_,rfl⟩
 obtain⟨n,hn⟩: ∃n,m.pk.length=n:=⟨_,rfl⟩
 rw[hph]at c14
 rw[hn]at c12 hpk
 have HPh:=QQ hph
 have HN:=QQ hn
 have HE1:=QQ hE1
 have HB1:=QQ hb1
 have HM1:=QQ hM1
 have HB:=QQ hB
 have HBo:=QQ hBo
 have HF:=QQ hF
 clear hE hM hF hb1 hB hM1 hE1 hBo hph hn
 by_cases p7:ph=7
 ·have d7:=Z2 p7
  have HS:Hid (Qa7 m id=6∧UW m id=m):=QQ (by unfold Qa7 UW;rw[HPh.out,if_pos p7,if_pos p7];exact⟨rfl,rfl⟩);clear p7;go_enter Tryz.func52,Tryz.ntmps52
  go_upto_region 1 with fail
  try rw[ew1]
  try rw[eB]
  clear ew1 eB;go_wp2_with fail
  go_ret;rw[HS.out.1,HS.out.2];exact⟨rfl,ZZ.pre HB1.out (ZZ.same HE1.out (Below.refl _ _))⟩
 ·have d7:=YW p7
  have H7:=QQ p7;clear p7;have hix:=Kc2 79 #[.pointer (some ⟨B,0,none⟩)] (fun o=>o.id ==id) (Go.Proofs.enters_of Tryz.func79 (by kernel_rfl) rfl) Ap n pc m.pk wa (fun _=>False) (fun W p hk=>Xu1 W B id (QJ.keeps HB.out hk (fun x=>x)) p) (by rw[←HN.out];exact ZV.of_row O6 (by omega) HM1.out.park) (by omega);have HIx:=QQ hix;clear hix;go_enter Tryz.func52,Tryz.ntmps52
  go_upto_region 1 with fail
  try rw[ew1]
  try rw[eB]
  clear ew1 eB;go_wp2_with fail
  refine HIx.out.mono ?_;rintro ev w1 ⟨hb2,hor⟩;have hM2:=HM1.out.below hb2;have HE2:=QQ (HE1.out.below hb2);have HM2:=QQ hM2;have HB2:=QQ (HB1.out.trans (hb2.mono HB1.out.size));have HBb:=QQ (QJ.keep HB.out hb2);clear c14 c12 f12 b0 hb2 HIx HE1 HM1 HB1 HB;rcases hor with⟨hno,rfl⟩|⟨k,hk,hy,hbf,rfl⟩
  ·have HNo:Hid (Jy0 m id=false):=QQ (by
    unfold Jy0;rw[Bool.eq_false_iff];intro hany;obtain⟨o,ho,ho2⟩:=List.any_eq_true.1 hany;obtain⟨i,hi,rfl⟩:=List.mem_iff_getElem.1 ho;rw[hno i hi]at ho2
    cases ho2)
   clear hno;have b0:w1.cell? ⟨B,0,none⟩=some (.int .i64 id):=by rw[QJ.cell HBb.out];rfl
   have c8:=hM2.cell hM2.ec.c8;have hor: ∃(oo:QX) (er:Value),(∀W,Below w1.heap.size w1 W→Calls Tryz.prog 81 #[.pointer (some ⟨bk,0,none⟩),.int .i64 id] W fun ev w'=>Below W.heap.size W w'∧ev= .returned (.tuple #[KJ oo,er]))∧((Qa8 (Qa4 m) id).isSome=true∧er= .nilIface∨(Qa8 (Qa4 m) id).isSome=false∧er=VZ 7):=by
    cases hg:Qa8 (Qa4 m) id with
    |none=>
     refine⟨noO,VZ 7,fun W hW=>(Jd0 W bk G m.L1 m.L2 (HM2.out.below hW).book id).mono ?_,.inr ⟨rfl,rfl⟩⟩;rintro ev w' ⟨h1,h2|⟨o,h2,-⟩⟩
     ·exact⟨h1,h2.2⟩
     ·have h3:Qa8 (m.L1++m.L2) id=none:=hg
      rw[h3]at h2;cases h2
    |some o=>
     refine⟨o,.nilIface,fun W hW=>(Jd0 W bk G m.L1 m.L2 (HM2.out.below hW).book id).mono ?_,.inl ⟨rfl,rfl⟩⟩;rintro ev w' ⟨h1,h2|⟨o',h2,h3⟩⟩
     ·have h3:Qa8 (m.L1++m.L2) id=some o:=hg
      rw[h3]at h2;cases h2.1
     ·have h4:Qa8 (m.L1++m.L2) id=some o:=hg
      rw[h4]at h2;cases h2;exact⟨h1,h3⟩
   obtain⟨⟨o1,o2,o3,o4,o5⟩,er,hor1,hor2⟩:=hor;unfold KJ at hor1;dsimp only at hor1;have HOr:=QQ hor1;have HEr:=QQ hor2;clear hor1 hor2 hM2;go_upto_region 7 with fail
   go_cut [7] (fun s7 wx=>s7=er∧Below w1.heap.size w1 wx)
   case first=>
    refine XY (fun t=> [].contains t) (fun W=>W.cell? ⟨e,8,none⟩=some (.pointer (some ⟨bk,0,none⟩))∧W.cell? ⟨B,0,none⟩=some (.int .i64 id)) (by kernel_rfl) ⟨c8,b0⟩ (fun hS0=> ?_);refine tM 0 (.pointer (some ⟨e,0,none⟩)) ?_;refine tM 1 (.pointer (some ⟨e,0,none⟩)) ?_;refine tM 2 (.pointer (some ⟨e,8,none⟩)) ?_;refine tM 3 (.pointer (some ⟨bk,0,none⟩)) ?_;refine tM 4 (.int .i64 id) ?_;refine Jn2 (i:=5) (j:=9) (by kernel_rfl) ?_ ?_
    ·skip
     refine opM 5 rfl (fun K1 hK1=> ?_);go_simp;refine(HOr.out _ (Below.drew (Below.refl _ _))).mono ?_;rintro ev w2 ⟨hq,rfl⟩;have hb2:Below w1.heap.size w1 w2:=(Below.drew (Below.refl _ _)).trans hq;have hS2:(fun W:World=>W.cell? ⟨e,8,none⟩=some (.pointer (some ⟨bk,0,none⟩))∧W.cell? ⟨B,0,none⟩=some (.int .i64 id)) w2:=⟨QV c8 hb2,QV b0 hb2⟩;refine hK1 _ _ (fun _=>hS2) ?_;clear hK1 hS0 hq;refine tM 6 (.tuple #[.agg #[.int .i64 o1,.int .i64 o2,.int .i64 o3,.int .i64 o4,.int .i64 o5],er]) ?_;refine tM 7 (.agg #[.int .i64 o1,.int .i64 o2,.int .i64 o3,.int .i64 o4,.int .i64 o5]) ?_;refine tM 8 er ?_;refine oM 9 fun K2 hK2=> ?_
     go_simp;have hb3:Below w1.heap.size w1 (w2.alloc (.cells #[.int .i64 0,.int .i64 0,.int .i64 0,.int .i64 0,.int .i64 0] 117)):=hb2.alloc hb2.size _;have hy3:=QJ.new w2 117 #[.int .i64 0,.int .i64 0,.int .i64 0,.int .i64 0,.int .i64 0];have hYl:w1.heap.size≤w2.heap.size:=hb2.size;obtain⟨Y,eY⟩: ∃g,w2.heap.size=g:=⟨_,rfl⟩;obtain⟨w3,ew3⟩: ∃W,w2.alloc (.cells #[.int .i64 0,.int .i64 0,.int .i64 0,.int .i64 0,.int .i64 0] 117)=W:=⟨_,rfl⟩;rw[ew3]at hb3 hy3⊢;rw[eY]at hy3 hYl⊢;have hS3:(fun W:World=>W.cell? ⟨e,8,none⟩=some (.pointer (some ⟨bk,0,none⟩))∧W.cell? ⟨B,0,none⟩=some (.int .i64 id)) w3:=⟨QV c8 hb3,QV b0 hb3⟩;refine hK2 _ _ (fun _=>hS3) ?_;clear hK2 ew3 eY hS2;refine oM 10 fun K5 hK5=> ?_
     refine(if_pos (by rfl)).mpr ?_;refine wp_store_row 117 _ _ rfl Y #[.int .i64 o1,.int .i64 o2,.int .i64 o3,.int .i64 o4,.int .i64 o5] rfl rfl 117 #[.int .i64 0,.int .i64 0,.int .i64 0,.int .i64 0,.int .i64 0] hy3 (by show(Tryz.prog.info? 117).map (·.size)=some 5;kernel_rfl) rfl (by simp[Value.oneCell']) ?_;have hk6:=QK.setRow w3 Y #[.int .i64 o1,.int .i64 o2,.int .i64 o3,.int .i64 o4,.int .i64 o5];obtain⟨w6,ew6⟩: ∃W,w3.setRow Y #[.int .i64 o1,.int .i64 o2,.int .i64 o3,.int .i64 o4,.int .i64 o5]=W:=⟨_,rfl⟩;rw[ew6]at hk6⊢;have h6:=hb3.trans (hk6.below (fun i e=>e▸hYl) hb3.size);have hS6:(fun W:World=>W.cell? ⟨e,8,none⟩=some (.pointer (some ⟨bk,0,none⟩))∧W.cell? ⟨B,0,none⟩=some (.int .i64 id)) w6:=⟨QV c8 h6,QV b0 h6⟩;refine hK5 _ _ (fun _=>hS6) ?_;clear hK5 ew6;simp only[Act.put];refine tM 11 er ?_;refine VJ (by kernel_rfl) ?_ _;go_wp2_with fail
     go_meet;exact⟨rfl,h6⟩
    ·skip
     refine opM 9 rfl (fun K1 hK1=> ?_);go_simp;have hb2:Below w1.heap.size w1 (w1.alloc (.cells #[.int .i64 0,.int .i64 0,.int .i64 0,.int .i64 0,.int .i64 0] 117)).drew:=Below.drew ((Below.refl _ _).alloc (Nat.le_refl _) _);have hy2:=QJ.drew (QJ.new w1 117 #[.int .i64 0,.int .i64 0,.int .i64 0,.int .i64 0,.int .i64 0]);have hYl:w1.heap.size≤w1.heap.size:=Nat.le_refl _;obtain⟨Y,eY⟩: ∃g,w1.heap.size=g:=⟨_,rfl⟩;obtain⟨w2,ew2⟩: ∃W,(w1.alloc (.cells #[.int .i64 0,.int .i64 0,.int .i64 0,.int .i64 0,.int .i64 0] 117)).drew=W:=⟨_,rfl⟩;rw[ew2]at hb2 hy2⊢;rw[eY]at hy2⊢;have hYl:w1.heap.size≤Y:=Nat.le_of_eq eY;have hS2:(fun W:World=>W.cell? ⟨e,8,none⟩=some (.pointer (some ⟨bk,0,none⟩))∧W.cell? ⟨B,0,none⟩=some (.int .i64 id)) w2:=⟨QV c8 hb2,QV b0 hb2⟩;refine hK1 _ _ (fun _=>hS2) ?_;clear hK1 ew2 eY hS0;refine oM 5 fun K2 hK2=> ?_
     go_simp;refine(HOr.out _ hb2).mono ?_;rintro ev w3 ⟨hq,rfl⟩;have hb3:=hb2.trans (hq.mono hb2.size);have hy3:=QJ.keep hy2 hq;have hS3:(fun W:World=>W.cell? ⟨e,8,none⟩=some (.pointer (some ⟨bk,0,none⟩))∧W.cell? ⟨B,0,none⟩=some (.int .i64 id)) w3:=⟨QV c8 hb3,QV b0 hb3⟩;refine hK2 _ _ (fun _=>hS3) ?_;clear hK2 hS2 hq;refine tM 6 (.tuple #[.agg #[.int .i64 o1,.int .i64 o2,.int .i64 o3,.int .i64 o4,.int .i64 o5],er]) ?_;refine tM 7 (.agg #[.int .i64 o1,.int .i64 o2,.int .i64 o3,.int .i64 o4,.int .i64 o5]) ?_;refine tM 8 er ?_;refine oM 10 fun K5 hK5=> ?_
     refine(if_pos (by rfl)).mpr ?_;refine wp_store_row 117 _ _ rfl Y #[.int .i64 o1,.int .i64 o2,.int .i64 o3,.int .i64 o4,.int .i64 o5] rfl rfl 117 #[.int .i64 0,.int .i64 0,.int .i64 0,.int .i64 0,.int .i64 0] hy3 (by show(Tryz.prog.info? 117).map (·.size)=some 5;kernel_rfl) rfl (by simp[Value.oneCell']) ?_;have hk6:=QK.setRow w3 Y #[.int .i64 o1,.int .i64 o2,.int .i64 o3,.int .i64 o4,.int .i64 o5];obtain⟨w6,ew6⟩: ∃W,w3.setRow Y #[.int .i64 o1,.int .i64 o2,.int .i64 o3,.int .i64 o4,.int .i64 o5]=W:=⟨_,rfl⟩;rw[ew6]at hk6⊢;have h6:=hb3.trans (hk6.below (fun i e=>e▸hYl) hb3.size);have hS6:(fun W:World=>W.cell? ⟨e,8,none⟩=some (.pointer (some ⟨bk,0,none⟩))∧W.cell? ⟨B,0,none⟩=some (.int .i64 id)) w6:=⟨QV c8 h6,QV b0 h6⟩;refine hK5 _ _ (fun _=>hS6) ?_;clear hK5 ew6;simp only[Act.put];refine tM 11 er ?_;refine VJ (by kernel_rfl) ?_ _;go_wp2_with fail
     go_meet;exact⟨rfl,h6⟩
   case rest=>
    obtain⟨rfl,hbc⟩:=hcut;have HEc:=QQ (HE2.out.below hbc);have HBc:=QQ (HB2.out.trans (hbc.mono HB2.out.size));have b0:=QV b0 hbc;clear hbc c8 HOr;rcases HEr.out with⟨hs,he⟩|⟨hs,he⟩
    ·subst he
     have HS:Hid (Qa7 m id=0∧UW m id=Jy3 m id):=QQ (by have h1:=Jq6 (fun x=>H7.out (HPh.out.symm.trans x)) HNo.out;rw[if_pos hs]at h1;exact h1);have HGo:=QQ (Ko6 wc e F m HEc.out id);clear hs HEr;go_wp2_with fail
     refine HGo.out.mono ?_;rintro ev w9 ⟨rfl,hto⟩;have HTo:=QQ hto;clear hto;go_wp2_with fail
     go_ret;rw[HS.out.1,HS.out.2];exact⟨rfl,ZZ.pre HBc.out HTo.out⟩
    ·subst he
     have HS:Hid (Qa7 m id=7∧UW m id=Jy3 m id):=QQ (by have h1:=Jq6 (fun x=>H7.out (HPh.out.symm.trans x)) HNo.out;rw[if_neg (by rw[hs];exact Bool.false_ne_true)]at h1;exact h1);have HNn:Hid (Qa8 (Qa4 m) id=none):=QQ (by simpa using hs);have e7:VZ 7= .iface 45 (.int .i64 7):=rfl;rw[e7];clear hs HEr;go_wp2_with fail
     go_ret;rw[HS.out.1,HS.out.2,Jy4 HNn.out];exact⟨rfl,ZZ.pre HBc.out (ZZ.same HEc.out (Below.refl _ _))⟩
  ·have hfi:=Ke4 (p:=fun o=>o.id ==id) hk hy hbf
   have HS:=QQ (Kq0 (m:=m) (id:=id) (fun x=>H7.out (HPh.out.symm.trans x)) hfi.2 hfi.1);have hkn:k<n:=by rw[←HN.out];exact hk
   have hk0:(0:Int)≤(k:Int):=by omega
   have dk:decide ((k:Int)≥0)=true:=J0 hk0;have hrow:=hM2.park;rw[HN.out]at hrow;obtain⟨ga,hga⟩:=Qc1 hrow (by omega);subst hga;have c12:=hM2.cell hM2.ec.c12;rw[HN.out]at c12;have hdel:=Xu0 w1 ga n pc k (k+1) ((k:Int)+1) (by omega) m.pk hrow (by omega) (by omega) (by omega);have HDel:=QQ hdel;have HKn:=QQ hkn;clear hfi hk hy hbf hM2 hrow hdel;go_wp2_with fail
   refine HDel.out.mono ?_;rintro ev w3 ⟨rfl,hr3,hk3⟩;have hcl:(Jl8 m.pk k).length=k+ (n- (k+1)):=by unfold Jl8;rw[List.length_append,List.length_take,List.length_drop,HN.out];omega
   obtain⟨own',hM9,ho9⟩:=HM2.out.pkTo (P':=Jl8 m.pk k) (Ap':=some ⟨ga,0,none⟩) (pc':=pc) (hk3.mono (fun i hi=>by rw[hi];rfl)) (by rw[hcl];exact hr3) (fun i hi=> .inl hi);rw[hcl]at hM9 ho9;have hEk:QJ w3 e 126 cs:=QJ.keeps HM2.out.ind.blk hk3 (fun x=>absurd (HM2.out.ok.uni _ _ _ (HM2.out.op _ (x▸rfl)) HM2.out.oe) (by decide));have c123:w3.cell? ⟨e,12,none⟩=some (.slice (some ⟨ga,0,none⟩) n pc):=(QJ.cell hEk 12).trans (HM2.out.ec.c12.trans (by rw[HN.out]));have f12:=QJ.frozen hEk 12;have HM9:=QQ hM9;have HO9:=QQ ho9;clear c12 hr3 hk3 hcl hM9 ho9 hEk HDel;go_wp2_with fail
   go_ret;rw[HS.out.1,HS.out.2];exact⟨rfl,ZZ.pre HB2.out ⟨_,UZ.at_ (m:= {m with pk:=Jl8 m.pk k}) HM9.out (fun _ _ _=>rfl),HO9.out.bstep HF.out⟩⟩
end Go.Proofs.YtbmiieehkkfbgaaGreatDoor
