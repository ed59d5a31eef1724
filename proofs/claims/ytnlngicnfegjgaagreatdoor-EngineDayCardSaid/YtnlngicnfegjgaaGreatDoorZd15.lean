/- Contracts and walks that the law's proof needs. -/
import Derived.WalkKit
import Derived.WalkLawsBesides
import Derived.WalkSpells
import Derived.Deep.RegionLaw
import Derived.Test.YtnlngicnfegjgaaGreatDoorZd14
import Derived.Deep.LoopGhost
import Derived.Deep.DeepCutAuto
import Derived.Deep.CutBlock
import Derived.Shelf.Abstract
import Derived.Laws.EntriesVeiled
import Derived.Test.YtnlngicnfegjgaaGreatDoorZd1
import Derived.Deep.QuietTactic
import Derived.BigQuiet
import Derived.Deep.RegionWith
set_option linter.unusedVariables false
set_option maxRecDepth 100000
set_option maxHeartbeats 8000000
namespace Go.Proofs.YtnlngicnfegjgaaGreatDoor
open Go.RowKit
theorem Xo7 (w:World) (b n c i j:Nat) (jz:Int) (hjz:jz=j) (qs:List XJ) (h:QY w (some ⟨b,0,none⟩) n c 252 3 (QW KV qs)) (hn:n≤100000) (hij:i<j) (hj:j≤n):
  Calls Tryz.prog 174 #[.slice (some ⟨b,0,none⟩) n c,.int .i64 i,.int .i64 jz] w fun e w'=>
   e= .returned (.slice (some ⟨b,0,none⟩) (i+ (n-j)) c)∧QY w' (some ⟨b,0,none⟩) (i+ (n-j)) c 252 3 (QW KV (qs.take i++qs.drop j))∧QK (fun x=>x=b) w w':=by
 subst hjz
 obtain⟨hnc,hcm⟩:=h.cap
 obtain⟨i0,hi0,hz0,hz1,hz2⟩:=info_parts Qt4
 have hl:qs.length=n:=by have:=h.1;rw[OJ JK]at this;omega
 have hfl:(QW KV qs).length=n*3:=h.1
 obtain⟨news,hnews⟩: ∃news,news=(QW KV qs).drop (j*3):=⟨_,rfl⟩
 have hlen:news.length=(n-j)*3:=by rw[hnews,List.length_drop,hfl];omega
 have hR:QY w.drew (some ⟨b,0,none⟩) n c 252 3 (QW KV qs):=h.below (Below.drew (Below.refl _ w))
 obtain⟨A,hA,hsrc⟩: ∃A:Addr,(if c=j then some (⟨b,0,none⟩:Addr)else some ⟨b,j*3,none⟩)=some A∧Hid (∀t u,news[t]?=some u→w.drew.cell? (A.add t)=some u):=by
  by_cases hcj:c=j
  ·refine⟨⟨b,0,none⟩,by simp[hcj],fun t u hu=> ?_⟩
   have h0:news.length=0:=by rw[hlen];omega
   rw[List.length_eq_zero_iff.1 h0]at hu;simp at hu
  ·refine⟨⟨b,j*3,none⟩,by simp[hcj],fun t u hu=> ?_⟩
   rw[U6];rw[hnews,List.getElem?_drop]at hu;obtain⟨g,hg,hc⟩:=hR.cell hu
   cases hg;exact hc
 have s1:Hid (news.length=(n-j)*3):=hlen
 have s2:Hid (∀u∈news,u.oneCell'=true):=by
  intro u hu;rw[hnews]at hu;exact Qi4 Qd7 qs u (List.mem_of_mem_drop hu)
 have s3:Hid (∀t,t<news.length→(w.drew.cell? ⟨b,0+i*3+t,none⟩).isSome=true∧w.drew.frozen? ⟨b,0+i*3+t,none⟩=false):=by
  intro t ht;rw[hlen]at ht;exact⟨hR.some_ (by omega),hR.frozen _⟩
 obtain⟨W1,hW1⟩: ∃W1,W1=w.drew.setCells b (0+i*3) news:=⟨_,rfl⟩
 have hR1:QY W1 (some ⟨b,0,none⟩) n c 252 3 (Z0 (QW KV qs) (i*3) news):=by rw[hW1,Nat.zero_add];exact hR.sets _ _ _ _
 obtain⟨vs,hvl,hcl⟩:=Qd6 (P:=Tryz.prog) W1 98 252 0 (.agg #[.int .i64 0,.int .i64 0,.int .i64 0]) 3 Tryz.underlying98 (fun _=>by kernel_rfl) rfl (by omega) (by intro v hv;simp[Value.cells]at hv;rcases hv with rfl|rfl|rfl<;>rfl) b ((i+ (n-j))*3) (n- (i+ (n-j))) (c- (i+ (n-j))) (by omega)
  (fun x hx=>hR1.some_ (by omega)) (fun x hx=>hR1.frozen _)
 have hp:=hR1.pop (i+ (n-j)) (by omega)
 rw[Qj8 _ _ _ (by rw[hlen,hfl];omega),hnews]at hp
 have hsc:=Qs3 (QW KV qs) (i*3) (j*3) (by omega) (by omega)
 rw[hfl,show i*3+ (n*3-j*3)=(i+ (n-j))*3 by omega]at hsc
 rw[hsc,Jd1 JK _ _ _ (by omega)]at hp
 have hK:QK (fun x=>x=b) w W1:=by
  rw[hW1];exact(QK.of_below (Below.drew (Below.refl _ w)) _).trans (QK.setCells _ _ _ _) (fun i h=> .inl h)
 have HP:=QQ hp
 have HK:=QQ hK
 have hW:Hid (W1=w.drew.setCells b (0+i*3) news):=hW1
 have hic:i≤c:=by omega
 have hjc:j≤c:=by omega
 clear hp hK hW1 hsc hR1 hR hlen hnews hfl hl h
 go_enter Tryz.func174,Tryz.ntmps174
 go_wp2_with fail
 go_region_law (refine step_append_room rfl (.tmp 22) (.tmp 25) 98 rfl 252 i0 3 Tryz.underlying98 hi0 hz1 b 0 i c (by simp[Act.eval,Act.put]) A (n-j) (c-j) news (by simp[Act.eval,Act.put]) s1.out hsrc.out s2.out (by omega) s3.out ?_;rw[←hW.out])
 go_wp2
 go_ret
 exact⟨rfl,QY.sets_past _ _ _ HP.out (Nat.le_refl _),HK.out.trans (QK.setCells _ _ _ _) (fun i h=> .inl h)⟩
def Qe8 (a p:Int):Int:=a-p
def Qd9 (qs:List XJ):Prop:=qs.Pairwise fun x y=>x.1<y.1
theorem Jn2 {p:Int} {qs:List XJ} (h:Qd9 qs) {i j:Nat} (hj:j<qs.length) (hij:i≤j) (hc:Qe8 qs[j].1 p<0):Qe8 (qs[i]'(by omega)).1 p<0:=by
 unfold Qe8 at*
 rcases Nat.lt_or_eq_of_le hij with hlt|rfl
 ·have:=List.pairwise_iff_getElem.1 h i j (by omega) hj hlt
  omega
 ·exact hc
def Qm7 (qs:List XJ) (p:Int) (n k:Nat):Bool:=decide (k<n) && (match qs[k]? with|some q=>Qe8 q.1 p ==0|none=>false)
theorem Jn3 {qs:List XJ} {p:Int} {n k:Nat} (hn:qs.length=n) (h:Qm7 qs p n k=true): ∃hk:k<qs.length,qs[k].1=p:=by
 unfold Qm7 at h
 rw[Bool.and_eq_true,decide_eq_true_eq]at h
 have hk:k<qs.length:=by omega
 rw[List.getElem?_eq_getElem hk]at h
 exact⟨hk,by have h2:(Qe8 qs[k].1 p ==0)=true:=h.2;rw[beq_iff_eq]at h2;unfold Qe8 at h2;omega⟩
theorem Jg7 {qs:List XJ} {p:Int} {n k:Nat} (hn:qs.length=n) (hr:Qd9 qs) (h:Qm7 qs p n k=false) (h1: ∀i (hi:i<qs.length),i<k→Qe8 qs[i].1 p<0) (h2: ∀i (hi:i<qs.length),k≤i→0≤Qe8 qs[i].1 p): ∀x∈qs,x.1≠p:=by
 intro x hx e
 obtain⟨i,hi,rfl⟩:=List.mem_iff_getElem.1 hx
 have hik: ¬i<k:=fun hik=>by have:=h1 i hi hik;unfold Qe8 at this;omega
 have hk:k<qs.length:=by omega
 have h3:Qe8 qs[k].1 p≠0:=by
  unfold Qm7 at h;rw[J5 (by omega:k<n),List.getElem?_eq_getElem hk]at h;exact fun e=>by
   have h4:(Qe8 qs[k].1 p ==0)=false:=h;rw[e]at h4;cases h4
 have h4:=h2 k hk (Nat.le_refl _)
 have h5:qs[k].1≤qs[i].1:=by
  rcases Nat.lt_or_eq_of_le (by omega:k≤i)with hlt|rfl
  ·exact Int.le_of_lt (List.pairwise_iff_getElem.1 hr k i hk hi hlt)
  ·exact Int.le_refl _
 unfold Qe8 at h3 h4
 omega
def Qp4 (a:Int):Prop:= -1099511627776≤a∧a≤1099511627776
theorem Jx8 (a b c p:Int) (ha:Qp4 a) (hp:Qp4 p) (w:World):Calls Tryz.prog 172 #[.agg #[.int .i64 a,.int .i64 b,.int .i64 c],.int .i64 p] w fun e w'=>e= .returned (.int .i64 (Qe8 a p))∧Below w.heap.size w w':=by
 have i1:RowKit.wrap64 (a-p)=a-p:=by unfold Qp4 at*;unfold RowKit.wrap64;omega
 have HB:=QQ (show Below w.heap.size w (w.alloc (.cells #[.int .i64 a,.int .i64 b,.int .i64 c] 252))from(Below.refl _ w).alloc (Nat.le_refl _) _)
 clear ha hp
 go_enter Tryz.func172,Tryz.ntmps172
 go_wp2
 go_ret
 exact⟨O5 (by unfold Qe8;first|rfl|omega|(rw[i1])),HB.out⟩
theorem Xw4 (a b c p:Int) (ha:Qp4 a) (hp:Qp4 p) (w:World):Calls Tryz.prog 181 #[.agg #[.int .i64 a,.int .i64 b,.int .i64 c],.int .i64 p] w fun e w'=>e= .returned (.int .i64 (Qe8 a p))∧Below w.heap.size w w':=by
 have i1:RowKit.wrap64 (a-p)=a-p:=by unfold Qp4 at*;unfold RowKit.wrap64;omega
 have HB:=QQ (show Below w.heap.size w (w.alloc (.cells #[.int .i64 a,.int .i64 b,.int .i64 c] 252))from(Below.refl _ w).alloc (Nat.le_refl _) _)
 clear ha hp
 go_enter Tryz.func181,Tryz.ntmps181
 go_wp2
 go_ret
 exact⟨O5 (by unfold Qe8;first|rfl|omega|(rw[i1])),HB.out⟩
theorem Jn4 (p:Int) (g:FuncId) (lb:Array Value) (A:Option Addr) (n c:Nat) (qs:List XJ) (w:World) (h:XZ w KV 3 A n qs) (hr:Qd9 qs) (hm:n≤100000)
  (eg: ∀args w,(callFunc g args).run Tryz.prog w= .ok (.enter g args) w)
  (hcmp: ∀W (q:XJ),q∈qs→Below w.heap.size w W→Calls Tryz.prog g (#[.agg #[.int .i64 q.1,.int .i64 q.2.1,.int .i64 q.2.2],.int .i64 p]++lb) W fun e w'=>e= .returned (.int .i64 (Qe8 q.1 p))∧Below W.heap.size W w'):
  Calls Tryz.prog 171 #[.slice A n c,.int .i64 p,.func (.func g) #[] lb] w fun e w'=>Below w.heap.size w w'∧ ∃k:Nat,k≤n∧(∀i (hi:i<qs.length),i<k→Qe8 qs[i].1 p<0)∧(∀i (hi:i<qs.length),k≤i→0≤Qe8 qs[i].1 p)∧
   e= .returned (.tuple #[.int .i64 k,.bool (Qm7 qs p n k)]):=by
 have HH:=QQ h
 have hl:=h.1
 have HL:=QQ hl
 have HR:=QQ hr
 have HC:=QQ hcmp
 clear h hr hcmp hl
 go_enter Tryz.func171,Tryz.ntmps171
 go_wp2_with fail
 go_loopg [9,10] n (fun gg s9 s10 wx=> ∃lo hi:Nat,lo≤hi∧hi≤n∧gg=hi-lo∧s9= .int .i64 lo∧s10= .int .i64 hi∧Below w.heap.size w wx∧Hid ((∀i (hi:i<qs.length),i<lo→Qe8 qs[i].1 p<0)∧(∀i (hx:i<qs.length),hi≤i→0≤Qe8 qs[i].1 p)))
 case atStart=>exact⟨0,n,Nat.zero_le _,Nat.le_refl _,rfl,rfl,rfl,Below.refl _ _,QQ ⟨fun i _ h=>absurd h (by omega),fun i hx h=>by have:=HL.out;omega⟩⟩
 case round=>
  obtain⟨lo,hi,hlh,hhn,rfl,rfl,rfl,hB,HI⟩:=hrel
  by_cases hlt:lo<hi
  ·have hltz:(lo:Int)< (hi:Int):=by omega
   go_upto_region 5 with fail
   have em:((lo:Int)+ (hi:Int))/2=(((lo+hi)/2:Nat):Int):=by omega
   have hm1:lo≤(lo+hi)/2:=by omega
   have hm2:(lo+hi)/2<hi:=by omega
   rw[em];generalize(lo+hi)/2=m at hm1 hm2⊢;clear em;have hml:m<qs.length:=by have:=HL.out;omega
   obtain⟨b,off,hA⟩: ∃b off,A=some ⟨b,off,none⟩:=by obtain⟨b,off,h1,_⟩:=HH.out.2 (by omega);exact⟨b,off,h1⟩
   subst hA;have hE:=HH.out.below hB (Nat.le_refl _);have x0:wr.cell? ⟨b,off+m*3,none⟩=some (.int .i64 qs[m].1):=hE.at_ hml (j:=0) rfl;have x1:wr.cell? ⟨b,off+m*3+1,none⟩=some (.int .i64 qs[m].2.1):=hE.at_ hml (j:=1) rfl;have x2:wr.cell? ⟨b,off+m*3+2,none⟩=some (.int .i64 qs[m].2.2):=hE.at_ hml (j:=2) rfl;have hcall:=HC.out wr qs[m] (List.getElem_mem hml) hB;have hi7:(0:Int)≤(m:Int):=by omega
   have hi8:(m:Int)< (n:Int):=by omega
   obtain⟨v,EV⟩: ∃v,Hid (Qe8 qs[m].1 p=v):=⟨_,QQ rfl⟩;rw[EV.out]at hcall;generalize qs[m].2.1=l0 at x1 hcall;generalize qs[m].2.2=l1 at x2 hcall;obtain⟨pr,EP⟩: ∃v,Hid (qs[m].1=v):=⟨_,QQ rfl⟩;rw[EP.out]at x0 hcall;have hsz:=hB.size;have HB:=QQ hB;clear hE hB
   by_cases hv:v<0
   ·have d1:decide (v<0)=true:=J5 hv
    have HV:=QQ hv;clear hv;go_wp2_with (go_at_fn g;refine hcall.mono ?_;rintro e w2 ⟨rfl,hb2⟩)
    go_roundg (hi- (m+1))
    case measure=>omega
    case rel=>exact⟨m+1,hi,by omega,hhn,rfl,by go_num,rfl,HB.out.trans (hb2.mono hsz),QQ ⟨fun i hx h=>Jn2 HR.out hml (by omega) (by rw[EV.out];exact HV.out),HI.out.2⟩⟩
   ·have d1:decide (v<0)=false:=IQ hv
    have HV:=QQ hv;clear hv;go_wp2_with (go_at_fn g;refine hcall.mono ?_;rintro e w2 ⟨rfl,hb2⟩)
    go_roundg (m-lo)
    case measure=>omega
    case rel=>exact⟨lo,m,by omega,by omega,rfl,rfl,by go_num,HB.out.trans (hb2.mono hsz),QQ ⟨HI.out.1,fun i hx h=>by
     rcases Int.lt_or_le (Qe8 qs[i].1 p) 0 with h1|h1
     ·have:=Jn2 HR.out hx h h1
      rw[EV.out]at this;have h5:=HV.out;omega
     ·exact h1⟩⟩
  ·obtain rfl:lo=hi:=by omega
   have hltz: ¬(lo:Int)< (lo:Int):=by omega
   have HB:=QQ hB
   by_cases hkn:lo<n
   ·have hml:lo<qs.length:=by have:=HL.out;omega
    obtain⟨b,off,hA⟩: ∃b off,A=some ⟨b,off,none⟩:=by obtain⟨b,off,h1,_⟩:=HH.out.2 (by omega);exact⟨b,off,h1⟩
    subst hA;have hE:=HH.out.below hB (Nat.le_refl _);have x0:wr.cell? ⟨b,off+lo*3,none⟩=some (.int .i64 qs[lo].1):=hE.at_ hml (j:=0) rfl;have x1:wr.cell? ⟨b,off+lo*3+1,none⟩=some (.int .i64 qs[lo].2.1):=hE.at_ hml (j:=1) rfl;have x2:wr.cell? ⟨b,off+lo*3+2,none⟩=some (.int .i64 qs[lo].2.2):=hE.at_ hml (j:=2) rfl;have hcall:=HC.out wr qs[lo] (List.getElem_mem hml) hB;have hi7:(0:Int)≤(lo:Int):=by omega
    have hi8:(lo:Int)< (n:Int):=by omega
    have d1:decide ((lo:Int)< (n:Int))=true:=J5 hi8;have HG:Hid (Qm7 qs p n lo=(Qe8 qs[lo].1 p ==0)):=QQ (by unfold Qm7;rw[J5 hkn,List.getElem?_eq_getElem hml];rfl);generalize qs[lo].2.1=l0 at x1 hcall;generalize qs[lo].2.2=l1 at x2 hcall;obtain⟨v,EV⟩: ∃v,Hid (Qe8 qs[lo].1 p=v):=⟨_,QQ rfl⟩;rw[EV.out]at hcall;obtain⟨pr,EP⟩: ∃v,Hid (qs[lo].1=v):=⟨_,QQ rfl⟩;rw[EP.out]at x0 hcall;have hsz:=hB.size;clear hE hB;go_wp2_with (go_at_fn g;refine hcall.mono ?_;rintro e w2 ⟨rfl,hb2⟩)
    go_ret2;exact⟨HB.out.trans (hb2.mono hsz),lo,hhn,HI.out.1,HI.out.2,by rw[HG.out,EV.out];rfl⟩
   ·have d1:decide ((lo:Int)< (n:Int))=false:=IQ (by omega)
    have hi8: ¬(lo:Int)< (n:Int):=by omega
    have HG:Hid (Qm7 qs p n lo=false):=QQ (by unfold Qm7;rw[IQ hkn];rfl);clear hB;go_wp2_with fail
    go_ret2;exact⟨HB.out,lo,hhn,HI.out.1,HI.out.2,by rw[HG.out];rfl⟩
def YW (lv:List XJ) (p:Int):Int×Int:=((lv.find? fun x=>x.1 ==p).map (·.2)).getD (0,0)
structure Jb2 (lv:List XJ):Prop where
 rank:Qd9 lv
 nz: ∀x∈lv,0≤x.2.1∧0≤x.2.2∧(x.2.1≠0∨x.2.2≠0)
 pr: ∀x∈lv,1≤x.1∧x.1≤1000000
theorem Ja6 {pre post:List XJ} {x:XJ} {p:Int} (h:p≠x.1):YW (pre++x::post) p=YW (pre++post) p:=by
 unfold YW
 rw[List.find?_append,List.find?_append,List.find?_cons_of_neg (by simp;exact fun e=>h e.symm)]
theorem Jg8 {lv:List XJ} {p:Int} (h: ∀x∈lv,x.1≠p):YW lv p=(0,0):=by
 unfold YW
 rw[List.find?_eq_none.2 (fun x hx=>by simpa using h x hx)]
 rfl
theorem Qh7 {pre post:List XJ} {x:XJ} (h:Qd9 (pre++x::post)):(∀y∈pre,y.1<x.1)∧(∀y∈post,x.1<y.1)∧Qd9 (pre++post):=by
 unfold Qd9 at*
 rw[List.pairwise_append,List.pairwise_cons]at h
 obtain⟨h1,⟨h2,h3⟩,h4⟩:=h
 refine⟨fun y hy=>h4 y hy x (by simp),h2, ?_⟩
 rw[List.pairwise_append]
 exact⟨h1,h3,fun a ha b hb=>h4 a ha b (by simp[hb])⟩
theorem Xo8 {pre post:List XJ} {x:XJ} (h:Qd9 (pre++post)) (h1: ∀y∈pre,y.1<x.1) (h2: ∀y∈post,x.1<y.1):Qd9 (pre++x::post):=by
 unfold Qd9 at*
 rw[List.pairwise_append]at h
 rw[List.pairwise_append,List.pairwise_cons]
 refine⟨h.1,⟨h2,h.2.1⟩,fun a ha b hb=> ?_⟩
 rcases List.mem_cons.1 hb with rfl|hb
 ·exact h1 a ha
 ·exact h.2.2 a ha b hb
theorem Jt9 {pre post:List XJ} {x:XJ} (h:Qd9 (pre++x::post)):YW (pre++x::post) x.1=x.2:=by
 obtain⟨h1,-,-⟩:=Qh7 h
 unfold YW
 rw[List.find?_append,List.find?_eq_none.2 (fun y hy=>by have:=h1 y hy;simp;omega),List.find?_cons_of_pos (by simp)]
 rfl
theorem Kp1 {pre post:List XJ} {x:XJ} (h:Qd9 (pre++x::post)):YW (pre++post) x.1=(0,0):=by
 obtain⟨h1,h2,-⟩:=Qh7 h
 refine Jg8 fun y hy=> ?_
 rcases List.mem_append.1 hy with hy|hy
 ·have:=h1 y hy;omega
 ·have:=h2 y hy;omega
theorem Xo9 {lv:List XJ} {p:Int} {k:Nat} (hk:k≤lv.length) (h1: ∀i (hi:i<lv.length),i<k→Qe8 lv[i].1 p<0) (h2: ∀i (hi:i<lv.length),k≤i→0≤Qe8 lv[i].1 p):
  lv=lv.take k++lv.drop k∧(∀y∈lv.take k,y.1<p)∧(∀y∈lv.drop k,p≤y.1):=by
 refine⟨(List.take_append_drop k lv).symm,fun y hy=> ?_,fun y hy=> ?_⟩
 ·obtain⟨i,hi,rfl⟩:=List.mem_iff_getElem.1 hy
  rw[List.length_take]at hi;rw[List.getElem_take];have:=h1 i (by omega) (by omega);unfold Qe8 at this;omega
 ·obtain⟨i,hi,rfl⟩:=List.mem_iff_getElem.1 hy
  rw[List.length_drop]at hi;rw[List.getElem_drop];have:=h2 (k+i) (by omega) (by omega);unfold Qe8 at this;omega
structure Qj1 (w:World) (X:Nat) (t:TypeId) (cs:Array Value) (o:Nat) (A:Option Addr) (c:Nat) (lv:List XJ) (bu se:Int):Prop where
 blk:QJ w X t cs
 c0:cs[o]?=some (.slice A lv.length c)
 c1:cs[o+1]?=some (.int .i64 bu)
 c2:cs[o+2]?=some (.int .i64 se)
 row:QY w A lv.length c 252 3 (QW KV lv)
 na:QZ A≠some X
 ok:Jb2 lv
def Qe0 (w w':World) (X:Nat) (t:TypeId) (cs:Array Value) (o:Nat) (A:Option Addr) (lv':List XJ) (bu' se':Int):Prop:=
 ∃cs' A' c',Qj1 w' X t cs' o A' c' lv' bu' se'∧cs'.size=cs.size∧(∀i,i≠o→i≠o+1→i≠o+2→cs'[i]?=cs[i]?)∧QK (fun i=>i=X∨QZ A=some i) w w'∧ ∀g,QZ A'=some g→QZ A=some g∨w.heap.size≤g
section
variable {w w':World} {X:Nat} {t:TypeId} {cs:Array Value} {o:Nat} {A:Option Addr} {c:Nat} {lv:List XJ} {bu se:Int}
theorem Qj1.cells (h:Qj1 w X t cs o A c lv bu se):w.cell? ⟨X,o,none⟩=some (.slice A lv.length c)∧w.cell? ⟨X,o+1,none⟩=some (.int .i64 bu)∧w.cell? ⟨X,o+2,none⟩=some (.int .i64 se):=
 ⟨by rw[QJ.cell h.blk];exact h.c0,by rw[QJ.cell h.blk];exact h.c1,by rw[QJ.cell h.blk];exact h.c2⟩
theorem Qj1.keeps {S:Nat→Prop} (h:Qj1 w X t cs o A c lv bu se) (hk:QK S w w') (h1: ¬S X) (h2: ∀g,QZ A=some g→ ¬S g):Qj1 w' X t cs o A c lv bu se:=
 ⟨QJ.keeps h.blk hk h1,h.c0,h.c1,h.c2,h.row.keeps hk h2,h.na,h.ok⟩
theorem Qj1.below (h:Qj1 w X t cs o A c lv bu se) (hb:Below w.heap.size w w'):Qj1 w' X t cs o A c lv bu se:=h.keeps (QK.of_below hb (fun _=>False)) id (fun _ _=>id)
theorem Qe0.same (h:Qj1 w X t cs o A c lv bu se) (hb:Below w.heap.size w w'):Qe0 w w' X t cs o A lv bu se:=
 ⟨cs,A,c,h.below hb,rfl,fun _ _ _ _=>rfl,QK.of_below hb _,fun g hg=> .inl hg⟩
theorem Qe0.then_ {w'':World} {lv':List XJ} {bu' se':Int} (h:Qe0 w w' X t cs o A lv' bu' se') (hb:Below w'.heap.size w' w''):Qe0 w w'' X t cs o A lv' bu' se':=by
 obtain⟨cs',A',c',h1,h2,h3,h4,h5⟩:=h
 exact⟨cs',A',c',h1.below hb,h2,h3,h4.then_ hb,h5⟩
theorem Qj1.market (h:Qj1 w X t cs o A c lv bu se) (hb:Below w.heap.size w w') (bu' se':Int) (j:Nat) (v:Int) (hj:(j=1∧bu'=v∧se'=se)∨(j=2∧bu'=bu∧se'=v)):
  Qe0 w (w'.setCell ⟨X,o+j,none⟩ (.int .i64 v)) X t cs o A lv bu' se':=by
 have hs: ∀i:Nat,(∃u,cs[i]?=some u)→i<cs.size:=fun i ⟨u,hu⟩=>(Array.getElem?_eq_some_iff.1 hu).1
 have s1:=hs _ ⟨_,h.c1⟩
 have s2:=hs _ ⟨_,h.c2⟩
 have h':=h.below hb
 have hk:=QK.set_ w' ⟨X,o+j,none⟩ (.int .i64 v)
 refine⟨cs.setIfInBounds (o+j) (.int .i64 v),A,c,⟨QJ.set_ h'.blk (o+j) _, ?_, ?_, ?_,h'.row.keeps hk (fun g hg e=>h.na (by rw[hg];exact congrArg some e)),h.na,h.ok⟩,by simp,fun i h1 h2 h3=> ?_,(QK.of_below hb _).trans hk (fun i e=> .inl (.inl e)),fun g hg=> .inl hg⟩
 ·rw[Array.getElem?_setIfInBounds_ne (by rcases hj with⟨rfl,_⟩|⟨rfl,_⟩<;>omega)];exact h.c0
 ·rcases hj with⟨rfl,rfl,rfl⟩|⟨rfl,rfl,rfl⟩
  ·rw[Array.getElem?_setIfInBounds_self_of_lt s1]
  ·rw[Array.getElem?_setIfInBounds_ne (by omega)];exact h.c1
 ·rcases hj with⟨rfl,rfl,rfl⟩|⟨rfl,rfl,rfl⟩
  ·rw[Array.getElem?_setIfInBounds_ne (by omega)];exact h.c2
  ·rw[Array.getElem?_setIfInBounds_self_of_lt s2]
 ·rw[Array.getElem?_setIfInBounds_ne (by rcases hj with⟨rfl,_⟩|⟨rfl,_⟩<;>omega)]
end
def dB (o:QX):Int:=if o.side=1 then o.qty else 0
def dS (o:QX):Int:=if o.side=1 then 0 else o.qty
def Qb9 (o:QX):Prop:=(o.side=1∨o.side=2)∧(1≤o.qty∧o.qty≤1000000)∧(o.kind=2∨(1≤o.price∧o.price≤1000000))
structure Jb9 (lv:List XJ) (bu se:Int):Prop where
 b:0≤bu∧bu≤1000000000000000
 s:0≤se∧se≤1000000000000000
 l: ∀x∈lv,x.2.1≤1000000000000000∧x.2.2≤1000000000000000
 n:lv.length≤99999
theorem Xb0 {lv:List XJ} {k:Nat} (hk:k<lv.length) (y:XJ) (h:y.1=lv[k].1):((QW KV lv).set (k*3+1) (.int .i64 y.2.1)).set (k*3+2) (.int .i64 y.2.2)=QW KV (lv.set k y):=by
 have h0:(QW KV lv)[k*3+0]?=some (.int .i64 y.1):=by rw[h];exact Qd4 JK lv k hk 0 (by omega)
 refine Eq.trans ?_ (Qp9 JK y lv k hk)
 show _=(((QW KV lv).set (k*3) (.int .i64 y.1)).set (k*3+1) (.int .i64 y.2.1)).set (k*3+2) (.int .i64 y.2.2)
 have hs:(QW KV lv).set (k*3) (.int .i64 y.1)=QW KV lv:=by
  apply List.ext_getElem?;intro j
  by_cases e:k*3=j
  ·subst e
   have hi:=(List.getElem?_eq_some_iff.1 h0).1;rw[List.getElem?_set_self (by simpa using hi)];exact h0.symm
  ·rw[List.getElem?_set_ne e]
 rw[hs]
theorem Xw5 {lv:List XJ} {k:Nat} (hk:k<lv.length) (v:Int):(QW KV lv).set (k*3+1) (.int .i64 v)=QW KV (lv.set k (lv[k].1,v,lv[k].2.2)):=by
 rw[←Xb0 hk (lv[k].1,v,lv[k].2.2) rfl]
 dsimp only
 have h2:(QW KV lv)[k*3+2]?=some (.int .i64 lv[k].2.2):=Qd4 JK lv k hk 2 (by omega)
 apply List.ext_getElem?
 intro j
 by_cases e:k*3+2=j
 ·subst e
  have hi:=(List.getElem?_eq_some_iff.1 h2).1;rw[List.getElem?_set_self (by simpa using hi),List.getElem?_set_ne (by omega)];exact h2
 ·rw[List.getElem?_set_ne e]
theorem Xw6 {lv:List XJ} {k:Nat} (hk:k<lv.length) (v:Int):(QW KV lv).set (k*3+2) (.int .i64 v)=QW KV (lv.set k (lv[k].1,lv[k].2.1,v)):=by
 rw[←Xb0 hk (lv[k].1,lv[k].2.1,v) rfl]
 dsimp only
 have h2:(QW KV lv)[k*3+1]?=some (.int .i64 lv[k].2.1):=Qd4 JK lv k hk 1 (by omega)
 congr 1
 apply List.ext_getElem?
 intro j
 by_cases e:k*3+1=j
 ·subst e
  have hi:=(List.getElem?_eq_some_iff.1 h2).1;rw[List.getElem?_set_self (by simpa using hi)];exact h2
 ·rw[List.getElem?_set_ne e]
theorem Qx1 {w:World} {g n c:Nat} {lv:List XJ} (h:QY w (some ⟨g,0,none⟩) n c 252 3 (QW KV lv)) {k:Nat} (hk:k<lv.length):
  w.cell? ⟨g,k*3,none⟩=some (.int .i64 lv[k].1)∧w.cell? ⟨g,k*3+1,none⟩=some (.int .i64 lv[k].2.1)∧w.cell? ⟨g,k*3+2,none⟩=some (.int .i64 lv[k].2.2):=by
 obtain⟨g0,hg,hc⟩:=h.elem JK (by omega) hk
 cases hg
 exact⟨hc 0 _ rfl,hc 1 _ rfl,hc 2 _ rfl⟩
structure Qf3 (w wx:World) (X:Nat) (t:TypeId) (cs:Array Value) (o:Nat) (A:Option Addr) (lv:List XJ) (bu se:Int) (p:Int) (k:Nat) (cs1:Array Value) (A1:Option Addr) (c1:Nat) (lv1:List XJ) (b s:Int):Prop where
 blk:QJ wx X t cs1
 c0:cs1[o]?=some (.slice A1 lv1.length c1)
 c1_:cs1[o+1]?=some (.int .i64 bu)
 c2:cs1[o+2]?=some (.int .i64 se)
 size:cs1.size=cs.size
 rest: ∀i,i≠o→i≠o+1→i≠o+2→cs1[i]?=cs[i]?
 row:QY wx A1 lv1.length c1 252 3 (QW KV lv1)
 na:QZ A1≠some X
 kk:lv1[k]?=some (p,b,s)
 rank:Qd9 lv1
 old: ∀x∈lv1,x.1≠p→x∈lv
 same: ∀p',p'≠p→YW lv1 p'=YW lv p'
 len:lv1.length≤lv.length+1
 keep:QK (fun i=>i=X∨QZ A=some i) w wx
 fresh: ∀g,QZ A1=some g→QZ A=some g∨w.heap.size≤g
section
variable {w w' wx:World} {X:Nat} {t:TypeId} {cs:Array Value} {o:Nat} {A:Option Addr} {c:Nat} {lv:List XJ} {bu se p:Int} {k:Nat}
theorem Qf3.found (h:Qj1 w X t cs o A c lv bu se) (hb:Below w.heap.size w wx) (hk:k<lv.length) (hp:lv[k].1=p):Qf3 w wx X t cs o A lv bu se p k cs A c lv lv[k].2.1 lv[k].2.2∧YW lv p=(lv[k].2.1,lv[k].2.2):=by
 have h':=h.below hb
 have e:lv=lv.take k++lv[k]::lv.drop (k+1):=by rw[←List.drop_eq_getElem_cons hk,List.take_append_drop]
 refine⟨⟨h'.blk,h.c0,h.c1,h.c2,rfl,fun _ _ _ _=>rfl,h'.row,h.na, ?_,h.ok.rank,fun x hx _=>hx,fun _ _=>rfl,Nat.le_succ _,QK.of_below hb _,fun g hg=> .inl hg⟩, ?_⟩
 ·rw[List.getElem?_eq_getElem hk,←hp]
 ·have h1:=Jt9 (pre:=lv.take k) (post:=lv.drop (k+1)) (x:=lv[k]) (by rw[←e];exact h.ok.rank)
  rw[←e,hp]at h1;exact h1
theorem Qf3.new_ {w3:World} {A1:Option Addr} {c1:Nat} (h:Qj1 w X t cs o A c lv bu se) (hb:Below w.heap.size w wx) (hk:k≤lv.length) (h1: ∀i (hi:i<lv.length),i<k→Qe8 lv[i].1 p<0) (h2: ∀i (hi:i<lv.length),k≤i→0≤Qe8 lv[i].1 p) (hn: ∀x∈lv,x.1≠p)
  (hi:Jt8 wx w3 A A1 (lv.length+1) c1 (lv.take k++(p,0,0)::lv.drop k)):
  Qf3 w (w3.setCell ⟨X,o,none⟩ (.slice A1 (lv.length+1) c1)) X t cs o A lv bu se p k (cs.setIfInBounds o (.slice A1 (lv.length+1) c1)) A1 c1 (lv.take k++(p,0,0)::lv.drop k) 0 0∧YW lv p=(0,0):=by
 obtain⟨hr,hke,hf⟩:=hi
 have h':=h.below hb
 have hXl:=QJ.lt h.blk
 have so:o<cs.size:=(Array.getElem?_eq_some_iff.1 h.c0).1
 have hX3:QJ w3 X t cs:=QJ.keeps h'.blk hke (fun e=>h.na e)
 have hna:QZ A1≠some X:=fun e=>by
  rcases hf X e with h3|h3
  ·exact h.na h3
  ·have:=hb.size;omega
 have hlen:(lv.take k++(p,0,0)::lv.drop k).length=lv.length+1:=by simp;omega
 have hkS:=QK.set_ w3 ⟨X,o,none⟩ (.slice A1 (lv.length+1) c1)
 obtain⟨e0,e1,e2⟩:=Xo9 hk h1 h2
 have hrk:Qd9 (lv.take k++(p,0,0)::lv.drop k):=Xo8 (by rw[←e0];exact h.ok.rank) e1 (fun y hy=>by
  have h3:=e2 y hy;have h4:=hn y (List.mem_of_mem_drop hy);omega)
 refine⟨⟨QJ.set_ hX3 o _, ?_, ?_, ?_,by simp,fun i h3 h4 h5=> ?_, ?_,hna, ?_,hrk,fun x hx hne=> ?_,fun p' hp'=> ?_,by rw[hlen];exact Nat.le_refl _, ?_,fun g hg=> ?_⟩,Jg8 hn⟩
 ·rw[Array.getElem?_setIfInBounds_self_of_lt so,hlen]
 ·rw[Array.getElem?_setIfInBounds_ne (by omega)];exact h.c1
 ·rw[Array.getElem?_setIfInBounds_ne (by omega)];exact h.c2
 ·rw[Array.getElem?_setIfInBounds_ne (by omega)]
 ·rw[hlen]
  exact hr.keeps hkS (fun g hg e=>hna (by rw[hg];exact congrArg some e))
 ·have hl:(lv.take k).length=k:=by rw[List.length_take];omega
  rw[List.getElem?_append_right (by omega),hl,Nat.sub_self]
  rfl
 ·rcases List.mem_append.1 hx with hx|hx
  ·exact List.mem_of_mem_take hx
  ·rcases List.mem_cons.1 hx with rfl|hx
   ·exact absurd rfl hne
   ·exact List.mem_of_mem_drop hx
 ·rw[Ja6 (x:=(p,0,0)) hp',←e0]
 ·exact((QK.of_below hb _).trans hke (fun i e=> .inl (.inr e))).trans hkS (fun i e=> .inl (.inl e))
 ·rcases hf g hg with h3|h3
  ·exact .inl h3
  ·exact .inr (Nat.le_trans hb.size h3)
theorem Jb9.lot (hs:Jb9 lv bu se) (hk:Jb2 lv) (p:Int):(0≤(YW lv p).1∧(YW lv p).1≤1000000000000000)∧(0≤(YW lv p).2∧(YW lv p).2≤1000000000000000):=by
 unfold YW
 cases hf:lv.find? (fun x=>x.1 ==p)with
 |none=>exact⟨⟨Int.le_refl 0,by decide⟩,⟨Int.le_refl 0,by decide⟩⟩
 |some x=>
  have hm:=List.mem_of_find?_eq_some hf;have h1:=hk.nz x hm;have h2:=hs.l x hm;exact⟨⟨h1.1,h2.1⟩,⟨h1.2.1,h2.2⟩⟩
theorem Qf3.parts {cs1:Array Value} {A1:Option Addr} {c1:Nat} {lv1:List XJ} {b s:Int} (h:Qf3 w wx X t cs o A lv bu se p k cs1 A1 c1 lv1 b s): ∃(hk:k<lv1.length),lv1[k]=(p,b,s)∧lv1=lv1.take k++(p,b,s)::lv1.drop (k+1):=by
 obtain⟨hk,e⟩:=List.getElem?_eq_some_iff.1 h.kk
 exact⟨hk,e,by rw[←e,←List.drop_eq_getElem_cons hk,List.take_append_drop]⟩
theorem Qf3.put {cs1:Array Value} {g c1:Nat} {lv1:List XJ} {b s b' s':Int} (h:Qf3 w wx X t cs o A lv bu se p k cs1 (some ⟨g,0,none⟩) c1 lv1 b s) (j:Nat) (v:Int) (hj:(j=1∧b'=v∧s'=s)∨(j=2∧b'=b∧s'=v)):
  Qf3 w (wx.setCell ⟨g,k*3+j,none⟩ (.int .i64 v)) X t cs o A lv bu se p k cs1 (some ⟨g,0,none⟩) c1 (lv1.set k (p,b',s')) b' s':=by
 obtain⟨hk,hkv,he⟩:=h.parts
 have hgX:X≠g:=fun e=>h.na (by rw[e];rfl)
 have hks:=QK.set_ wx ⟨g,k*3+j,none⟩ (.int .i64 v)
 have hes:lv1.set k (p,b',s')=lv1.take k++(p,b',s')::lv1.drop (k+1):=by
  rw[List.set_eq_take_append_cons_drop,if_pos hk]
 have hr:=h.rank
 rw[he]at hr
 obtain⟨r1,r2,r3⟩:=Qh7 hr
 have hrw:=h.row.set (k*3+j) (.int .i64 v)
 refine⟨QJ.keeps h.blk hks hgX,by rw[List.length_set];exact h.c0,h.c1_,h.c2,h.size,h.rest, ?_,h.na,by rw[List.getElem?_set_self hk],by rw[hes];exact Xo8 r3 r1 r2,fun x hx hne=> ?_,fun p' hp'=> ?_,by rw[List.length_set];exact h.len,h.keep.trans hks (fun i e=> ?_),h.fresh⟩
 ·rw[List.length_set]
  rcases hj with⟨rfl,rfl,rfl⟩|⟨rfl,rfl,rfl⟩
  ·rw[Xw5 hk,hkv]at hrw;exact hrw
  ·rw[Xw6 hk,hkv]at hrw;exact hrw
 ·rcases List.mem_or_eq_of_mem_set hx with hx|rfl
  ·exact h.old x hx hne
  ·exact absurd rfl hne
 ·rw[hes,Ja6 (x:=(p,b',s')) hp',←Ja6 (x:=(p,b,s)) hp',←he]
  exact h.same p' hp'
 ·have e:i=g:=e
  subst e;exact(h.fresh i rfl).imp .inr id
theorem Qf3.ok {cs1:Array Value} {A1:Option Addr} {c1:Nat} {lv1:List XJ} {b s:Int} (h:Qf3 w wx X t cs o A lv bu se p k cs1 A1 c1 lv1 b s) (hk:Jb2 lv) {x:XJ} (hx:x∈lv1) (hne:x.1≠p):(0≤x.2.1∧0≤x.2.2∧(x.2.1≠0∨x.2.2≠0))∧(1≤x.1∧x.1≤1000000):=
 ⟨hk.nz x (h.old x hx hne),hk.pr x (h.old x hx hne)⟩
theorem Qf3.done {cs1:Array Value} {A1:Option Addr} {c1:Nat} {lv1:List XJ} {b s:Int} (h:Qf3 w wx X t cs o A lv bu se p k cs1 A1 c1 lv1 b s) (hk:Jb2 lv) (hp:1≤p∧p≤1000000) (hb:0≤b) (hs:0≤s) (hz: ¬(b=0∧s=0)):
  ∃lv',Qe0 w wx X t cs o A lv' bu se∧lv'.length≤lv.length+1∧ ∀p',YW lv' p'=if p'=p then(b,s)else YW lv p':=by
 obtain⟨hkk,hkv,he⟩:=h.parts
 refine⟨lv1,⟨cs1,A1,c1,⟨h.blk,h.c0,h.c1_,h.c2,h.row,h.na,⟨h.rank,fun x hx=> ?_,fun x hx=> ?_⟩⟩,h.size,h.rest,h.keep,h.fresh⟩,h.len,fun p'=> ?_⟩
 ·by_cases e:x.1=p
  ·have hr:=h.rank
   rw[he]at hr hx;obtain⟨r1,r2,-⟩:=Qh7 hr;rcases List.mem_append.1 hx with hx|hx
   ·have h1:x.1<p:=r1 x hx;omega
   ·rcases List.mem_cons.1 hx with rfl|hx
    ·exact⟨hb,hs,by dsimp only;omega⟩
    ·have h1:p<x.1:=r2 x hx;omega
  ·exact(h.ok hk hx e).1
 ·by_cases e:x.1=p
  ·rw[e];exact hp
  ·exact(h.ok hk hx e).2
 ·by_cases e:p'=p
  ·rw[if_pos e,e,he]
   exact Jt9 (x:=(p,b,s)) (by rw[←he];exact h.rank)
  ·rw[if_neg e]
   exact h.same p' e
theorem Qf3.del {w3:World} {cs1:Array Value} {g c1 m:Nat} {lv1:List XJ} (h:Qf3 w wx X t cs o A lv bu se p k cs1 (some ⟨g,0,none⟩) c1 lv1 0 0) (hk:Jb2 lv) (hb:Below wx.heap.size wx w') (hm:lv1.length=m+1)
  (hr:QY w3 (some ⟨g,0,none⟩) m c1 252 3 (QW KV (lv1.take k++lv1.drop (k+1)))) (hke:QK (fun x=>x=g) w' w3):
  ∃lv',Qe0 w (w3.setCell ⟨X,o,none⟩ (.slice (some ⟨g,0,none⟩) m c1)) X t cs o A lv' bu se∧lv'.length≤lv.length+1∧ ∀p',YW lv' p'=if p'=p then(0,0)else YW lv p':=by
 obtain⟨hkk,hkv,he⟩:=h.parts
 have hgX:X≠g:=fun e=>h.na (by rw[e];rfl)
 have so:o<cs1.size:=(Array.getElem?_eq_some_iff.1 h.c0).1
 have hl:(lv1.take k++lv1.drop (k+1)).length=m:=by simp;omega
 have hkS:=QK.set_ w3 ⟨X,o,none⟩ (.slice (some ⟨g,0,none⟩) m c1)
 have hB3:QJ w3 X t cs1:=QJ.keeps (QJ.keep h.blk hb) hke hgX
 have hrk:=h.rank
 rw[he]at hrk
 obtain⟨r1,r2,r3⟩:=Qh7 hrk
 have hin: ∀x∈lv1.take k++lv1.drop (k+1),x∈lv1∧x.1≠p:=fun x hx=>by
  rcases List.mem_append.1 hx with hx|hx
  ·have h1:x.1<p:=r1 x hx
   exact⟨List.mem_of_mem_take hx,by omega⟩
  ·have h1:p<x.1:=r2 x hx
   exact⟨List.mem_of_mem_drop hx,by omega⟩
 refine⟨_,⟨cs1.setIfInBounds o (.slice (some ⟨g,0,none⟩) m c1),some ⟨g,0,none⟩,c1,⟨QJ.set_ hB3 o _, ?_, ?_, ?_, ?_,h.na,⟨r3,fun x hx=>(h.ok hk (hin x hx).1 (hin x hx).2).1,fun x hx=>(h.ok hk (hin x hx).1 (hin x hx).2).2⟩⟩,by simp[h.size],fun i h1 h2 h3=> ?_, ?_,h.fresh⟩,by rw[hl];have:=h.len;omega,fun p'=> ?_⟩
 ·rw[Array.getElem?_setIfInBounds_self_of_lt so,hl]
 ·rw[Array.getElem?_setIfInBounds_ne (by omega)];exact h.c1_
 ·rw[Array.getElem?_setIfInBounds_ne (by omega)];exact h.c2
 ·rw[hl]
  exact hr.keeps hkS (fun g' hg e=>hgX (by cases hg;exact e.symm))
 ·rw[Array.getElem?_setIfInBounds_ne (by omega)];exact h.rest i h1 h2 h3
 ·refine((h.keep.trans (QK.of_below hb (fun _=>False)) (fun _ e=>e.elim)).trans hke (fun i e=> ?_)).trans hkS (fun i e=> .inl (.inl e))
  have e:i=g:=e;subst e;exact(h.fresh i rfl).imp .inr id
 ·by_cases e:p'=p
  ·rw[if_pos e,e]
   exact Kp1 (x:=(p,0,0)) hrk
  ·rw[if_neg e,←Ja6 (x:=(p,0,0)) e,←he]
   exact h.same p' e
end
theorem Jx9 (w:World) (X:Nat) (t:TypeId) (cs:Array Value) (o:Nat) (A:Option Addr) (c:Nat) (lv:List XJ) (bu se:Int) (h:Qj1 w X t cs o A c lv bu se) (hs:Jb9 lv bu se) (z:QX) (hr:Qb9 z) (hk:z.kind=2) (q:Int) (hq:q=1∨q= -1) (hp:q= -1→z.qty≤(if z.side=1 then bu else se)):
  Calls Tryz.prog 121 #[.pointer (some ⟨X,o,none⟩),KQ z,.int .i64 q] w fun e w'=>(∃v,e= .returned v)∧Qe0 w w' X t cs o A lv (bu+q*dB z) (se+q*dS z):=by
 obtain⟨⟨hb1,hb2⟩,⟨hs1,hs2⟩,-,-⟩:=hs
 obtain⟨hsd,⟨hq1,hq2⟩,-⟩:=hr
 have hbx:Below w.heap.size w (w.alloc (.cells #[.int .i64 z.id,.int .i64 z.side,.int .i64 z.kind,.int .i64 z.price,.int .i64 z.qty] 29)):=(Below.refl _ w).alloc (Nat.le_refl _) _
 have h':=h.below hbx
 obtain⟨y0,y1,y2⟩:=h'.cells
 have f1:=QJ.frozen h'.blk (o+1)
 have f2:=QJ.frozen h'.blk (o+2)
 have hX:=QJ.lt h.blk
 have t1:=J4 hk
 have H:=QQ h
 have HBx:=QQ hbx
 unfold KQ
 have hm1:RowKit.wrap64 (z.qty*q)=z.qty*q:=by rcases hq with rfl|rfl<;>(unfold RowKit.wrap64;omega)
 obtain⟨m,hm⟩: ∃m,z.qty*q=m:=⟨_,rfl⟩
 have hmq:m=q*z.qty:=by rw[←hm,Int.mul_comm]
 have hmb: -1000000≤m∧m≤1000000:=by rcases hq with rfl|rfl<;>omega
 rw[hm]at hm1
 rcases hsd with hsd|hsd
 ·have t2:=J4 hsd
  have i1:RowKit.wrap64 (bu+m)=bu+m:=by unfold RowKit.wrap64;omega
  have e1:bu+q*dB z=bu+m:=by unfold dB;rw[if_pos hsd,hmq]
  have e2:se+q*dS z=se:=by unfold dS;rw[if_pos hsd];omega
  rw[e1,e2];clear h h' hbx hk hsd hq hp hm1 hmq hb1 hb2 hs1 hs2 hq1 hq2 e1 e2 y0 y2 f2;go_enter Tryz.func121,Tryz.ntmps121
  go_wp2_with fail
  refine bodyPost_ret (results_none rfl _ _ _) rfl ?_;exact⟨⟨_,rfl⟩,(H.out.market (Below.refl _ _) _ _ 1 _ (.inl ⟨rfl,rfl,rfl⟩)).then_ ((Below.refl _ _).alloc (Nat.le_refl _) _)⟩
 ·have t2:=UQ (show¬z.side=1 by omega)
  have i1:RowKit.wrap64 (se+m)=se+m:=by unfold RowKit.wrap64;omega
  have e1:bu+q*dB z=bu:=by unfold dB;rw[if_neg (by omega)];omega
  have e2:se+q*dS z=se+m:=by unfold dS;rw[if_neg (by omega),hmq]
  rw[e1,e2];clear h h' hbx hk hsd hq hp hm1 hmq hb1 hb2 hs1 hs2 hq1 hq2 e1 e2 y0 y1 f1;go_enter Tryz.func121,Tryz.ntmps121
  go_wp2_with fail
  refine bodyPost_ret (results_none rfl _ _ _) rfl ?_;exact⟨⟨_,rfl⟩,(H.out.market (Below.refl _ _) _ _ 2 _ (.inr ⟨rfl,rfl,rfl⟩)).then_ ((Below.refl _ _).alloc (Nat.le_refl _) _)⟩
theorem Kv9 {lv2:List XJ} {n1 k m2:Nat} (h:lv2.length=n1) (hk:k<lv2.length) (e:k+ (n1- (k+1))=m2):lv2.length=m2+1:=by omega
theorem Kp2 {n k:Nat} (hn:n≤99999) (hk:k≤n):RowKit.wrap64 ((k:Int)+1)=(k:Int)+1:=by unfold RowKit.wrap64;omega
theorem Xh1 (w:World) (X:Nat) (t:TypeId) (cs:Array Value) (o:Nat) (A:Option Addr) (c:Nat) (lv:List XJ) (bu se:Int) (h:Qj1 w X t cs o A c lv bu se) (hs:Jb9 lv bu se) (z:QX) (hr:Qb9 z) (hk:z.kind≠2) (q:Int) (hq:q=1∨q= -1) (hp:q= -1→z.qty≤(if z.side=1 then(YW lv z.price).1 else(YW lv z.price).2)):
  Calls Tryz.prog 121 #[.pointer (some ⟨X,o,none⟩),KQ z,.int .i64 q] w fun e w'=>(∃v,e= .returned v)∧ ∃lv',Qe0 w w' X t cs o A lv' bu se∧lv'.length≤lv.length+1∧ ∀p,YW lv' p=if p=z.price then((YW lv p).1+q*dB z,(YW lv p).2+q*dS z)else YW lv p:=by
 obtain⟨hsd,⟨hq1,hq2⟩,hpr⟩:=hr
 have hpr:1≤z.price∧z.price≤1000000:=hpr.resolve_left hk
 have hbx:Below w.heap.size w (w.alloc (.cells #[.int .i64 z.id,.int .i64 z.side,.int .i64 z.kind,.int .i64 z.price,.int .i64 z.qty] 29)):=(Below.refl _ w).alloc (Nat.le_refl _) _
 have h':=h.below hbx
 obtain⟨n,hn⟩: ∃n,lv.length=n:=⟨_,rfl⟩
 have hn1:n≤99999:=by have:=hs.n;omega
 have y0:=h'.cells.1
 rw[hn]at y0
 obtain⟨w1,hw1⟩: ∃w1,w.alloc (.cells #[.int .i64 z.id,.int .i64 z.side,.int .i64 z.kind,.int .i64 z.price,.int .i64 z.qty] 29)=w1:=⟨_,rfl⟩
 obtain⟨Bx,hBx⟩: ∃Bx,w.heap.size=Bx:=⟨_,rfl⟩
 have hB1:=QJ.new w 29 #[.int .i64 z.id,.int .i64 z.side,.int .i64 z.kind,.int .i64 z.price,.int .i64 z.qty]
 rw[hw1]at hbx h' y0 hB1
 rw[hBx]at hB1
 have hXl:=QJ.lt h'.blk
 have hXB:X<Bx:=by rw[←hBx];exact QJ.lt h.blk
 have hBl:=QJ.lt hB1
 obtain⟨x0,x1,x2,x3,x4⟩:=(show w1.cell? ⟨Bx,0,none⟩=some (.int .i64 z.id)∧w1.cell? ⟨Bx,1,none⟩=some (.int .i64 z.side)∧w1.cell? ⟨Bx,2,none⟩=some (.int .i64 z.kind)∧w1.cell? ⟨Bx,3,none⟩=some (.int .i64 z.price)∧w1.cell? ⟨Bx,4,none⟩=some (.int .i64 z.qty)from⟨by rw[QJ.cell hB1];rfl,by rw[QJ.cell hB1];rfl,by rw[QJ.cell hB1];rfl,by rw[QJ.cell hB1];rfl,by rw[QJ.cell hB1];rfl⟩)
 have hse:=Jn4 z.price 172 #[] A n c lv w1.drew (by rw[←hn];exact XZ.of_row JK (by omega) (h'.below (Below.drew (Below.refl _ _))).row) h.ok.rank (by omega) (Go.Proofs.enters_of Tryz.func172 (by kernel_rfl) rfl)
  (fun W q hm hW=>Jx8 q.1 q.2.1 q.2.2 z.price (by have:=h.ok.pr q hm;unfold Qp4;omega) (by unfold Qp4;omega) W)
 have HSe:=QQ hse
 have t1:=UQ hk
 have H:=QQ h
 have HS:=QQ hs
 have Hn:=QQ hn
 have HNb:=QQ (show QZ A≠some Bx from fun e=>by have:=h.row.lt e;omega)
 have HBx:=QQ hbx
 have HB1:=QQ hB1
 have hm1:RowKit.wrap64 (z.qty*q)=z.qty*q:=by rcases hq with rfl|rfl<;>(unfold RowKit.wrap64;omega)
 obtain⟨m,hm⟩: ∃m,z.qty*q=m:=⟨_,rfl⟩
 have hmq:q*z.qty=m:=by rw[←hm,Int.mul_comm]
 replace hm1:RowKit.wrap64 (z.qty*q)=m:=hm1.trans hm
 have Hm:=QQ hmq
 have Hq:=QQ hq
 have Hp:=QQ hp
 have Hsd:=QQ hsd
 have Hq12:=QQ (show 1≤z.qty∧z.qty≤1000000 from⟨hq1,hq2⟩)
 unfold KQ
 clear h h' hs hse hbx hB1 hk hpr hq hp hm hmq hsd hn hq1 hq2
 go_enter Tryz.func121,Tryz.ntmps121
 go_upto_region 1 with fail
 clear hw1 hBx
 go_wp2_with fail
 refine Y1 11 (fun W=>W.cell? ⟨X,o,none⟩=some (.slice A n c)∧W.cell? ⟨Bx,3,none⟩=some (.int .i64 z.price)) (by kernel_rfl) ⟨y0,x3⟩ (fun hS=> ?_)
 refine tT 0 (.pointer (some ⟨X,o,none⟩)) ?_
 refine tT 1 (.pointer (some ⟨X,o,none⟩)) ?_
 refine tT 2 (.pointer (some ⟨X,o,none⟩)) ?_
 refine tT 3 (.slice A n c) ?_
 refine tT 4 (.pointer (some ⟨Bx,3,none⟩)) ?_
 refine tT 5 (.int .i64 z.price) ?_
 refine Y8 6 (by kernel_rfl) rfl (fun K1 hK1=> ?_)
 go_simp
 refine HSe.out.mono ?_
 rintro e w2 ⟨hb2,k,hkn,hk1,hk2,rfl⟩
 obtain⟨fb,hfb⟩: ∃fb,Qm7 lv z.price n k=fb:=⟨_,rfl⟩
 rw[hfb]
 have hy0:=(hb2.cell (p:=⟨X,o,none⟩) hXl).trans y0
 have hx3:=(hb2.cell (p:=⟨Bx,3,none⟩) hBl).trans x3
 refine hK1 _ _ ⟨hy0,hx3⟩ (fun hS=> ?_)
 clear hK1
 refine tT 7 (.tuple #[.int .i64 k,.bool fb]) ?_
 refine tT 8 (.int .i64 k) ?_
 refine tT 9 (.bool fb) ?_
 refine tT 10 (.int .i64 k) ?_
 refine Qo4 (by kernel_rfl) rfl (fun K1 hK1=> ?_)
 go_simp
 refine hK1 _ _ (Qo3 (by kernel_rfl) ?_ _)
 clear hK1
 have HB2:=QQ hb2
 clear hb2 hS
 go_upto_if 47 with fail
 obtain⟨⟨lb1,lb2⟩,⟨ls1,ls2⟩⟩:=HS.out.lot H.out.ok z.price
 obtain⟨b0,hb0⟩: ∃b0,(YW lv z.price).1=b0:=⟨_,rfl⟩
 obtain⟨s0,hs0⟩: ∃s0,(YW lv z.price).2=s0:=⟨_,rfl⟩
 have hlot:YW lv z.price=(b0,s0):=by rw[←hb0,←hs0]
 rw[hb0]at lb1 lb2
 rw[hs0]at ls1 ls2
 have HLot:=QQ hlot
 clear hb0 hs0 hlot
 have HW2:=QQ (show Below w.heap.size w w2 from HBx.out.trans ((Below.drew (Below.refl _ w1)).trans (HB2.out.mono HBx.out.size)))
 have HBb2:=QQ (QJ.keep (QJ.drew HB1.out) HB2.out)
 have HFb:=QQ hfb
 have HK1:=QQ hk1
 have HK2:=QQ hk2
 have hXl2:X<w2.heap.size:=Nat.lt_of_lt_of_le (QJ.lt H.out.blk) HW2.out.size
 have HP:=QQ (hpr.resolve_left (fun e=>by rw[J4 e]at t1;cases t1))
 clear hfb hk1 hk2 HSe HB1 HB2 HBx x0 x1 x2 x3 x4 y0 hXl hBl hpr t1
 go_cut [48] (fun s48 wx=> ∃cs1 A1 c1 lv1,Qf3 w wx X t cs o A lv bu se z.price k cs1 A1 c1 lv1 b0 s0∧QJ wx Bx 29 #[.int .i64 z.id,.int .i64 z.side,.int .i64 z.kind,.int .i64 z.price,.int .i64 z.qty])
 case first=>
  cases fb with
  |true=>
   go_wp2_with fail
   go_meet;obtain⟨hkl,hkp⟩:=Jn3 Hn.out HFb.out;obtain⟨e1,e2⟩:=Qf3.found H.out HW2.out hkl hkp;rw[HLot.out]at e2;obtain⟨rfl,rfl⟩:=Prod.mk.inj e2;exact⟨_,_,_,_,e1,HBb2.out⟩
  |false=>
   have hvb:Below w2.heap.size w2 ((w2.alloc (.cells #[.int .i64 z.price,.int .i64 0,.int .i64 0] 252)).drew):=Below.drew ((Below.refl _ _).alloc (Nat.le_refl _) _);have hM2:=(H.out.below HW2.out).below hvb;have hr2:=hM2.row;rw[Hn.out]at hr2;have hins:=Xo6 ((w2.alloc (.cells #[.int .i64 z.price,.int .i64 0,.int .i64 0] 252)).drew) A n c k lv w2.heap.size (z.price,0,0) hr2 (QJ.drew (QJ.new w2 _ _)) (fun e=>by have:=(H.out.below HW2.out).row.lt e;omega) (by omega) hkn;have HIns:=QQ hins;have HM2:=QQ hM2;have HV2:=QQ hvb;have HBv:=QQ (QJ.keep HBb2.out hvb);have hnn:lv.length=n:=Hn.out;have HNn:=QQ hnn;clear hM2 hvb hr2 hins hnn hS;go_wp2_with fail
   go_region_with (go_at_call 173;refine HIns.out.mono ?_;rintro e w3 ⟨A3,c3,rfl,hI3⟩;have b3:=QJ.keeps HM2.out.blk hI3.2.1 (fun e=>HM2.out.na e);have r0:w3.cell? ⟨X,o,none⟩=some (.slice A n c):=(by rw[QJ.cell b3,←HNn.out];exact HM2.out.c0);have rf0:=QJ.frozen b3 o;have HI3:=QQ hI3;clear hI3 b3)
   all_goals go_wp2_with fail
   all_goals go_meet
   all_goals
    have h3:=HI3.out;have hb3:=QJ.keeps HBv.out h3.2.1 HNb.out;rw[←Hn.out]at h3;obtain⟨e1,e2⟩:=Qf3.new_ H.out (HW2.out.trans (HV2.out.mono HW2.out.size)) (by have:=Hn.out;omega) HK1.out HK2.out (Jg7 Hn.out H.out.ok.rank HFb.out HK1.out HK2.out) h3;rw[Hn.out]at e1;rw[HLot.out]at e2;obtain⟨rfl,rfl⟩:=Prod.mk.inj e2;exact⟨_,_,_,_,e1,QJ.far hb3 (by show Bx≠X;omega) _⟩
 case rest=>
  obtain⟨cs1,A1,c1,lv1,hM,hB⟩:=hcut;obtain⟨hkl,hkv,-⟩:=hM.parts;obtain⟨g,hA1,-⟩:=hM.row.elem JK (by omega) hkl;subst hA1;obtain⟨n1,hn1'⟩: ∃n1,lv1.length=n1:=⟨_,rfl⟩;have y0:wc.cell? ⟨X,o,none⟩=some (.slice (some ⟨g,0,none⟩) n1 c1):=by rw[QJ.cell hM.blk,←hn1'];exact hM.c0
  obtain⟨l0,l1,l2⟩:=Qx1 hM.row hkl;rw[hkv]at l1 l2;dsimp only at l1 l2;have x1:wc.cell? ⟨Bx,1,none⟩=some (.int .i64 z.side):=by rw[QJ.cell hB];rfl
  have hkz:(k:Int)< (n1:Int):=by omega
  have hk0:(0:Int)≤(k:Int):=by omega
  have f1:=hM.row.frozen (k*3+1);have f2:=hM.row.frozen (k*3+2);have HM:=QQ hM;have Hn1:=QQ hn1';have hmq:=Hm.out;have hq12:=Hq12.out;have hmb: -1000000≤m∧m≤1000000:=by rcases Hq.out with rfl|rfl<;>omega
  have hnn:0≤b0+q*dB z∧0≤s0+q*dS z:=by
   have hp:=Hp.out;rw[HLot.out]at hp;unfold dB dS;rcases Hq.out with rfl|rfl
   ·split<;>omega
   ·have hp:=hp rfl
    split at hp<;>(dsimp only at hp;split<;>omega)
  obtain⟨hz1,hz2⟩:=hnn;obtain⟨b',hb'⟩: ∃b',b0+q*dB z=b':=⟨_,rfl⟩;obtain⟨s',hs'⟩: ∃s',s0+q*dS z=s':=⟨_,rfl⟩;rw[hb']at hz1;rw[hs']at hz2;have Hz:=QQ (And.intro hz1 hz2);have Hbs:=QQ (And.intro hb' hs');have Hmq:=QQ hmq;have Hmb:=QQ hmb;clear hM hB l0 hkl hkv hn1' hz1 hz2 hb' hs' hmq hmb hq12 Hq Hp;go_upto_if 69 with fail
  go_cut [70] (fun s70 wx=> ∃lv2,lv2.length=n1∧Qf3 w wx X t cs o A lv bu se z.price k cs1 (some ⟨g,0,none⟩) c1 lv2 b' s')
  case first=>
   rcases Hsd.out with hsd|hsd
   ·have t2:=J4 hsd
    have i1:RowKit.wrap64 (b0+m)=b0+m:=by have:=Hmb.out;unfold RowKit.wrap64;omega
    have HSd:=QQ hsd;clear hsd l2 f2;go_wp2_with fail
    go_meet;refine⟨_, ?_,HM.out.put 1 (b0+m) (.inl ⟨rfl, ?_, ?_⟩)⟩
    ·rw[List.length_set];exact Hn1.out
    ·have:=Hbs.out.1
     unfold dB at this;rw[if_pos HSd.out,Hmq.out]at this;exact this.symm
    ·have:=Hbs.out.2
     unfold dS at this;rw[if_pos HSd.out]at this;omega
   ·have t2:=UQ (show¬z.side=1 by omega)
    have i1:RowKit.wrap64 (s0+m)=s0+m:=by have:=Hmb.out;unfold RowKit.wrap64;omega
    have HSd:=QQ (show¬z.side=1 by omega);clear hsd l1 f1;go_wp2_with fail
    go_meet;refine⟨_, ?_,HM.out.put 2 (s0+m) (.inr ⟨rfl, ?_, ?_⟩)⟩
    ·rw[List.length_set];exact Hn1.out
    ·have:=Hbs.out.1
     unfold dB at this;rw[if_neg HSd.out]at this;omega
    ·have:=Hbs.out.2
     unfold dS at this;rw[if_neg HSd.out,Hmq.out]at this;exact this.symm
  case rest=>
   obtain⟨lv2,hl2,hM2⟩:=hcut;obtain⟨hkl,hkv,-⟩:=hM2.parts;obtain⟨-,l1,l2⟩:=Qx1 hM2.row hkl;rw[hkv]at l1 l2;dsimp only at l1 l2;have HM2:=QQ hM2;have Hl2:=QQ hl2;have hfin: ∀lv':List XJ,(∀p',YW lv' p'=if p'=z.price then(b',s')else YW lv p')→ ∀p',YW lv' p'=if p'=z.price then((YW lv p').1+q*dB z,(YW lv p').2+q*dS z)else YW lv p':=fun lv' h p'=>by
    rw[h p']
    by_cases e:p'=z.price
    ·rw[if_pos e,if_pos e,e,HLot.out,Hbs.out.1,Hbs.out.2]
    ·rw[if_neg e,if_neg e]
   have HFin:=QQ hfin
   by_cases hz1:b'=0
   ·by_cases hz2:s'=0
    ·subst hz1
     subst hz2;have hrow:=hM2.row;rw[hl2]at hrow;have h0z:((0:Int) ==0)=true:=rfl;have hdel:=Xo7 wc g n1 c1 k (k+1) ((k:Int)+1) (by omega) lv2 hrow (by have:=hM2.len;have:=Hn.out;omega) (by omega) (by omega);obtain⟨m2,hm2⟩: ∃m2,k+ (n1- (k+1))=m2:=⟨_,rfl⟩;rw[hm2]at hdel;have y0:wc.cell? ⟨X,o,none⟩=some (.slice (some ⟨g,0,none⟩) n1 c1):=by rw[QJ.cell hM2.blk,←hl2];exact hM2.c0
     have i3:RowKit.wrap64 ((k:Int)+1)=(k:Int)+1:=Kp2 (by have:=Hn.out;omega) hkn;have HDel:=QQ hdel;have Hm2:=QQ (Kv9 hl2 hkl hm2);clear hdel hm2 hrow hM2 hkl hkv hfin;go_wp2_with fail
     refine HDel.out.mono ?_;rintro e w4 ⟨rfl,hr4,hk4⟩
     (have b4:=QJ.keeps HM2.out.blk hk4 (fun e=>HM2.out.na (by rw[e];rfl));have r0:w4.cell? ⟨X,o,none⟩=some (.slice (some ⟨g,0,none⟩) n1 c1):=(by rw[QJ.cell b4,←Hl2.out];exact HM2.out.c0);have rf0:=QJ.frozen b4 o;have HR4:=QQ hr4;have HK4:=QQ hk4;clear hr4 hk4 b4)
     all_goals go_wp2_with fail
     all_goals
      refine bodyPost_end (results_none rfl _ _ _) rfl ?_;obtain⟨lv',h1,h2,h3⟩:=HM2.out.del H.out.ok (Below.refl _ _) Hm2.out HR4.out HK4.out;exact⟨⟨_,rfl⟩,lv',h1,h2,HFin.out lv' h3⟩
    ·have h0z:((0:Int) ==0)=true:=rfl
     have d2:=UQ hz2;have Hz2:=QQ hz2;subst hz1;clear hz2 hM2 hkl hkv hfin;go_wp2_with fail
     refine bodyPost_end (results_none rfl _ _ _) rfl ?_;obtain⟨lv',h1,h2,h3⟩:=HM2.out.done H.out.ok HP.out Hz.out.1 Hz.out.2 (fun e=>Hz2.out e.2);exact⟨⟨_,rfl⟩,lv',h1,h2,HFin.out lv' h3⟩
   ·have d1:=UQ hz1
    have Hz1:=QQ hz1;clear hz1 hM2 hkl hkv hfin;go_wp2_with fail
    refine bodyPost_end (results_none rfl _ _ _) rfl ?_;obtain⟨lv',h1,h2,h3⟩:=HM2.out.done H.out.ok HP.out Hz.out.1 Hz.out.2 (fun e=>Hz1.out e.1);exact⟨⟨_,rfl⟩,lv',h1,h2,HFin.out lv' h3⟩
end Go.Proofs.YtnlngicnfegjgaaGreatDoor
