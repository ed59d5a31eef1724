/- Contracts and walks that the law's proof needs. -/
import Derived.WalkKit
import Derived.WalkLawsBesides
import Derived.WalkSpells
import Derived.Deep.RegionLaw
import Derived.Test.YtbmiieehkkfbgaaGreatDoorZd9
import Derived.Test.YtbmiieehkkfbgaaGreatDoorZd7
set_option linter.unusedVariables false
set_option maxRecDepth 100000
set_option maxHeartbeats 8000000
namespace Go.Proofs.YtbmiieehkkfbgaaGreatDoor
open Go.RowKit
theorem Xq6 (w:World) (b n c i j:Nat) (jz:Int) (hjz:jz=j) (qs:List XJ) (h:QW w (some ⟨b,0,none⟩) n c 249 3 (JQ KW qs)) (hn:n≤100000) (hij:i<j) (hj:j≤n):
  Calls Tryz.prog 192 #[.slice (some ⟨b,0,none⟩) n c,.int .i64 i,.int .i64 jz] w fun e w'=>
   e= .returned (.slice (some ⟨b,0,none⟩) (i+ (n-j)) c)∧QW w' (some ⟨b,0,none⟩) (i+ (n-j)) c 249 3 (JQ KW (qs.take i++qs.drop j))∧QK (fun x=>x=b) w w':=by
 subst hjz
 obtain⟨hnc,hcm⟩:=h.cap
 obtain⟨i0,hi0,hz0,hz1,hz2⟩:=info_parts Qt3
 have hl:qs.length=n:=by have:=h.1;rw[YY JX]at this;omega
 have hfl:(JQ KW qs).length=n*3:=h.1
 obtain⟨news,hnews⟩: ∃news,news=(JQ KW qs).drop (j*3):=⟨_,rfl⟩
 have hlen:news.length=(n-j)*3:=by rw[hnews,List.length_drop,hfl];omega
 have hR:QW w.drew (some ⟨b,0,none⟩) n c 249 3 (JQ KW qs):=h.below (Below.drew (Below.refl _ w))
 obtain⟨A,hA,hsrc⟩: ∃A:Addr,(if c=j then some (⟨b,0,none⟩:Addr)else some ⟨b,j*3,none⟩)=some A∧Hid (∀t u,news[t]?=some u→w.drew.cell? (A.add t)=some u):=by
  by_cases hcj:c=j
  ·refine⟨⟨b,0,none⟩,by simp[hcj],fun t u hu=> ?_⟩
   have h0:news.length=0:=by rw[hlen];omega
   rw[List.length_eq_zero_iff.1 h0]at hu;simp at hu
  ·refine⟨⟨b,j*3,none⟩,by simp[hcj],fun t u hu=> ?_⟩
   rw[U3];rw[hnews,List.getElem?_drop]at hu;obtain⟨g,hg,hc⟩:=hR.cell hu
   cases hg;exact hc
 have s1:Hid (news.length=(n-j)*3):=hlen
 have s2:Hid (∀u∈news,u.oneCell'=true):=by
  intro u hu;rw[hnews]at hu;exact Qh9 Qc9 qs u (List.mem_of_mem_drop hu)
 have s3:Hid (∀t,t<news.length→(w.drew.cell? ⟨b,0+i*3+t,none⟩).isSome=true∧w.drew.frozen? ⟨b,0+i*3+t,none⟩=false):=by
  intro t ht;rw[hlen]at ht;exact⟨hR.some_ (by omega),hR.frozen _⟩
 obtain⟨W1,hW1⟩: ∃W1,W1=w.drew.setCells b (0+i*3) news:=⟨_,rfl⟩
 have hR1:QW W1 (some ⟨b,0,none⟩) n c 249 3 (X7 (JQ KW qs) (i*3) news):=by rw[hW1,Nat.zero_add];exact hR.sets _ _ _ _
 obtain⟨vs,hvl,hcl⟩:=Qc8 (P:=Tryz.prog) W1 121 249 0 (.agg #[.int .i64 0,.int .i64 0,.int .i64 0]) 3 Tryz.underlying121 (fun _=>by kernel_rfl) rfl (by omega) (by intro v hv;simp[Value.cells]at hv;rcases hv with rfl|rfl|rfl<;>rfl) b ((i+ (n-j))*3) (n- (i+ (n-j))) (c- (i+ (n-j))) (by omega)
  (fun x hx=>hR1.some_ (by omega)) (fun x hx=>hR1.frozen _)
 have hp:=hR1.pop (i+ (n-j)) (by omega)
 rw[Qj8 _ _ _ (by rw[hlen,hfl];omega),hnews]at hp
 have hsc:=Qt0 (JQ KW qs) (i*3) (j*3) (by omega) (by omega)
 rw[hfl,show i*3+ (n*3-j*3)=(i+ (n-j))*3 by omega]at hsc
 rw[hsc,Je5 JX _ _ _ (by omega)]at hp
 have hK:QK (fun x=>x=b) w W1:=by
  rw[hW1];exact(QK.of_below (Below.drew (Below.refl _ w)) _).trans (QK.setCells _ _ _ _) (fun i h=> .inl h)
 have HP:=QQ hp
 have HK:=QQ hK
 have hW:Hid (W1=w.drew.setCells b (0+i*3) news):=hW1
 have hic:i≤c:=by omega
 have hjc:j≤c:=by omega
 clear hp hK hW1 hsc hR1 hR hlen hnews hfl hl h
 go_enter Tryz.func192,Tryz.ntmps192
 go_wp2_with fail
 go_region_law (refine step_append_room rfl (.tmp 22) (.tmp 25) 121 rfl 249 i0 3 Tryz.underlying121 hi0 hz1 b 0 i c (by simp[Act.eval,Act.put]) A (n-j) (c-j) news (by simp[Act.eval,Act.put]) s1.out hsrc.out s2.out (by omega) s3.out ?_;rw[←hW.out])
 go_wp2
 go_ret
 exact⟨rfl,QW.sets_past _ _ _ HP.out (Nat.le_refl _),HK.out.trans (QK.setCells _ _ _ _) (fun i h=> .inl h)⟩
def U6 (ps:List (Int×Int)):Prop:=0<ps.length∧ps.length≤20∧ ∀j,j<ps.length→IV ps j=0
theorem Js0.good {ps:List (Int×Int)} {w w':World} {e:Ending} (h:Js0 ps w e w') (hok:U6 ps):
  Below w.heap.size w w'∧ ∃t A cap,e= .returned (.tuple #[.pointer (some ⟨t,0,none⟩),.nilIface])∧
   w.heap.size≤t∧t<w'.heap.size∧w'.cell? ⟨t,0,none⟩=some (.slice A ps.length cap)∧I8 w' A ps.length cap ps:=by
 obtain⟨hB,h⟩:=h
 obtain⟨h1,h2,h3⟩:=hok
 refine⟨hB, ?_⟩
 rcases h with h|h|⟨_,_,i,hi,_,hn,_⟩|⟨_,_,_,h⟩
 ·omega
 ·omega
 ·exact absurd (h3 i hi) hn
 ·exact h
theorem Js0.bad {ps:List (Int×Int)} {w w':World} {e:Ending} (h:Js0 ps w e w') (hok: ¬U6 ps):
  Below w.heap.size w w'∧ ∃t v,e= .returned (.tuple #[.pointer none,.iface t v]):=by
 obtain⟨hB,h⟩:=h
 refine⟨hB, ?_⟩
 rcases h with⟨_,h⟩|⟨_,h⟩|⟨_,_,i,_,_,_,g,h,_⟩|⟨h1,h2,h3,_⟩
 ·exact⟨_,_,h⟩
 ·exact⟨_,_,h⟩
 ·exact⟨_,_,h⟩
 ·exact absurd ⟨h1,h2,h3⟩ hok
theorem Xj2 {p0 p:Int} (h:Qk5 (YZ p0) p=true):p0<p:=by
 unfold Qk5 YZ at h
 by_cases h1:p0=1
 ·simp[h1]at h;omega
 by_cases h2:p0=2
 ·simp[h2]at h;omega
 by_cases h3:p0=3
 ·simp[h3]at h;omega
 by_cases h5:p0=5
 ·simp[h5]at h;omega
 simp[h1,h2,h3,h5]at h
theorem U6.step {ps:List (Int×Int)} (h:U6 ps) (k:Nat) (hk:k+1<ps.length):
  (ps.getD k (0,0)).1< (ps.getD (k+1) (0,0)).1∧(ps.getD k (0,0)).2< (ps.getD (k+1) (0,0)).2:=by
 have hw:=h.2.2 (k+1) hk
 simp only[IV,I1]at hw
 split at hw
 ·cases hw
 ·rename_i ha
  split at hw
  ·cases hw
  ·rename_i hb
   exact⟨by omega,Xj2 (by simpa using ha)⟩
theorem U6.zero {ps:List (Int×Int)} (h:U6 ps):(ps.getD 0 (0,0))=(0,1):=by
 have hw:=h.2.2 0 h.1
 simp only[IV]at hw
 split at hw
 ·assumption
 ·cases hw
theorem Xq7 (ps:List (Int×Int)) (now:Int) (h0:(ps.getD 0 (0,0)).1≤now): ∀m,0<m→m≤ps.length→
  ∃k,k<m∧(ps.getD k (0,0)).1≤now∧(∀j,k<j→j<m→now< (ps.getD j (0,0)).1)∧
   Qp4 ps now m=((ps.getD k (0,0)).2,if k+1<ps.length then(ps.getD (k+1) (0,0)).1 else -1)
 |0,h,_=>absurd h (by omega)
 |m+1,_,hm=>by
  by_cases hc:(ps.getD m (0,0)).1≤now∨m=0
  ·refine⟨m,by omega, ?_,fun j h1 h2=>by omega,by simp only[Qp4];rw[if_pos hc]⟩
   rcases hc with h|h
   ·exact h
   ·rw[h];exact h0
  ·obtain⟨k,hk,h1,h2,h3⟩:=Xq7 ps now h0 m (by omega) (by omega)
   refine⟨k,by omega,h1,fun j hj1 hj2=> ?_,by simp only[Qp4];rw[if_neg hc];exact h3⟩;rcases Nat.lt_or_ge j m with h|h
   ·exact h2 j hj1 h
   ·have:j=m:=by omega
    subst this;omega
def TabIs (ps:List (Int×Int)) (f pl:Int):Prop:=
 (ps.length=0∧f=8∧pl= -1)∨(20<ps.length∧f=4∧pl= -1)∨
 (0<ps.length∧ps.length≤20∧ ∃i:Nat,i<ps.length∧(∀j,j<i→IV ps j=0)∧IV ps i≠0∧f=IV ps i∧pl=i)∨
 (0<ps.length∧ps.length≤20∧(∀j,j<ps.length→IV ps j=0)∧f=0∧pl= -1)
def YV (lv:List XJ) (p:Int):Int×Int:=((lv.find? fun x=>x.1 ==p).map (·.2)).getD (0,0)
structure Jb9 (lv:List XJ):Prop where
 rank:Qd0 lv
 nz: ∀x∈lv,0≤x.2.1∧0≤x.2.2∧(x.2.1≠0∨x.2.2≠0)
 pr: ∀x∈lv,1≤x.1∧x.1≤1000000
theorem Ja8 {pre post:List XJ} {x:XJ} {p:Int} (h:p≠x.1):YV (pre++x::post) p=YV (pre++post) p:=by
 unfold YV
 rw[List.find?_append,List.find?_append,List.find?_cons_of_neg (by simp;exact fun e=>h e.symm)]
theorem Jh4 {lv:List XJ} {p:Int} (h: ∀x∈lv,x.1≠p):YV lv p=(0,0):=by
 unfold YV
 rw[List.find?_eq_none.2 (fun x hx=>by simpa using h x hx)]
 rfl
theorem Qh0 {pre post:List XJ} {x:XJ} (h:Qd0 (pre++x::post)):(∀y∈pre,y.1<x.1)∧(∀y∈post,x.1<y.1)∧Qd0 (pre++post):=by
 unfold Qd0 at*
 rw[List.pairwise_append,List.pairwise_cons]at h
 obtain⟨h1,⟨h2,h3⟩,h4⟩:=h
 refine⟨fun y hy=>h4 y hy x (by simp),h2, ?_⟩
 rw[List.pairwise_append]
 exact⟨h1,h3,fun a ha b hb=>h4 a ha b (by simp[hb])⟩
theorem Xq8 {pre post:List XJ} {x:XJ} (h:Qd0 (pre++post)) (h1: ∀y∈pre,y.1<x.1) (h2: ∀y∈post,x.1<y.1):Qd0 (pre++x::post):=by
 unfold Qd0 at*
 rw[List.pairwise_append]at h
 rw[List.pairwise_append,List.pairwise_cons]
 refine⟨h.1,⟨h2,h.2.1⟩,fun a ha b hb=> ?_⟩
 rcases List.mem_cons.1 hb with rfl|hb
 ·exact h1 a ha
 ·exact h.2.2 a ha b hb
theorem Ju8 {pre post:List XJ} {x:XJ} (h:Qd0 (pre++x::post)):YV (pre++x::post) x.1=x.2:=by
 obtain⟨h1,-,-⟩:=Qh0 h
 unfold YV
 rw[List.find?_append,List.find?_eq_none.2 (fun y hy=>by have:=h1 y hy;simp;omega),List.find?_cons_of_pos (by simp)]
 rfl
theorem Ku7 {pre post:List XJ} {x:XJ} (h:Qd0 (pre++x::post)):YV (pre++post) x.1=(0,0):=by
 obtain⟨h1,h2,-⟩:=Qh0 h
 refine Jh4 fun y hy=> ?_
 rcases List.mem_append.1 hy with hy|hy
 ·have:=h1 y hy;omega
 ·have:=h2 y hy;omega
theorem Xq9 {lv:List XJ} {p:Int} {k:Nat} (hk:k≤lv.length) (h1: ∀i (hi:i<lv.length),i<k→Qe1 lv[i].1 p<0) (h2: ∀i (hi:i<lv.length),k≤i→0≤Qe1 lv[i].1 p):
  lv=lv.take k++lv.drop k∧(∀y∈lv.take k,y.1<p)∧(∀y∈lv.drop k,p≤y.1):=by
 refine⟨(List.take_append_drop k lv).symm,fun y hy=> ?_,fun y hy=> ?_⟩
 ·obtain⟨i,hi,rfl⟩:=List.mem_iff_getElem.1 hy
  rw[List.length_take]at hi;rw[List.getElem_take];have:=h1 i (by omega) (by omega);unfold Qe1 at this;omega
 ·obtain⟨i,hi,rfl⟩:=List.mem_iff_getElem.1 hy
  rw[List.length_drop]at hi;rw[List.getElem_drop];have:=h2 (k+i) (by omega) (by omega);unfold Qe1 at this;omega
structure Qi4 (w:World) (X:Nat) (t:TypeId) (cs:Array Value) (o:Nat) (A:Option Addr) (c:Nat) (lv:List XJ) (bu se:Int):Prop where
 blk:QJ w X t cs
 c0:cs[o]?=some (.slice A lv.length c)
 c1:cs[o+1]?=some (.int .i64 bu)
 c2:cs[o+2]?=some (.int .i64 se)
 row:QW w A lv.length c 249 3 (JQ KW lv)
 na:QZ A≠some X
 ok:Jb9 lv
def Qd1 (w w':World) (X:Nat) (t:TypeId) (cs:Array Value) (o:Nat) (A:Option Addr) (lv':List XJ) (bu' se':Int):Prop:=
 ∃cs' A' c',Qi4 w' X t cs' o A' c' lv' bu' se'∧cs'.size=cs.size∧(∀i,i≠o→i≠o+1→i≠o+2→cs'[i]?=cs[i]?)∧QK (fun i=>i=X∨QZ A=some i) w w'∧ ∀g,QZ A'=some g→QZ A=some g∨w.heap.size≤g
section
variable {w w':World} {X:Nat} {t:TypeId} {cs:Array Value} {o:Nat} {A:Option Addr} {c:Nat} {lv:List XJ} {bu se:Int}
theorem Qi4.cells (h:Qi4 w X t cs o A c lv bu se):w.cell? ⟨X,o,none⟩=some (.slice A lv.length c)∧w.cell? ⟨X,o+1,none⟩=some (.int .i64 bu)∧w.cell? ⟨X,o+2,none⟩=some (.int .i64 se):=
 ⟨by rw[QJ.cell h.blk];exact h.c0,by rw[QJ.cell h.blk];exact h.c1,by rw[QJ.cell h.blk];exact h.c2⟩
theorem Qi4.keeps {S:Nat→Prop} (h:Qi4 w X t cs o A c lv bu se) (hk:QK S w w') (h1: ¬S X) (h2: ∀g,QZ A=some g→ ¬S g):Qi4 w' X t cs o A c lv bu se:=
 ⟨QJ.keeps h.blk hk h1,h.c0,h.c1,h.c2,h.row.keeps hk h2,h.na,h.ok⟩
theorem Qi4.below (h:Qi4 w X t cs o A c lv bu se) (hb:Below w.heap.size w w'):Qi4 w' X t cs o A c lv bu se:=h.keeps (QK.of_below hb (fun _=>False)) id (fun _ _=>id)
theorem Qd1.same (h:Qi4 w X t cs o A c lv bu se) (hb:Below w.heap.size w w'):Qd1 w w' X t cs o A lv bu se:=
 ⟨cs,A,c,h.below hb,rfl,fun _ _ _ _=>rfl,QK.of_below hb _,fun g hg=> .inl hg⟩
theorem Qd1.then_ {w'':World} {lv':List XJ} {bu' se':Int} (h:Qd1 w w' X t cs o A lv' bu' se') (hb:Below w'.heap.size w' w''):Qd1 w w'' X t cs o A lv' bu' se':=by
 obtain⟨cs',A',c',h1,h2,h3,h4,h5⟩:=h
 exact⟨cs',A',c',h1.below hb,h2,h3,h4.then_ hb,h5⟩
theorem Qi4.market (h:Qi4 w X t cs o A c lv bu se) (hb:Below w.heap.size w w') (bu' se':Int) (j:Nat) (v:Int) (hj:(j=1∧bu'=v∧se'=se)∨(j=2∧bu'=bu∧se'=v)):
  Qd1 w (w'.setCell ⟨X,o+j,none⟩ (.int .i64 v)) X t cs o A lv bu' se':=by
 have hs: ∀i:Nat,(∃u,cs[i]?=some u)→i<cs.size:=fun i ⟨u,hu⟩=>(Array.getElem?_eq_some_iff.1 hu).1
 have s1:=hs _ ⟨_,h.c1⟩
 have s2:=hs _ ⟨_,h.c2⟩
 have h':=h.below hb
 have hk:=QK.set_ w' ⟨X,o+j,none⟩ (.int .i64 v)
 refine⟨cs.setIfInBounds (o+j) (.int .i64 v),A,c,⟨QJ.set_ h'.blk (o+j) _, ?_, ?_, ?_,h'.row.keeps hk (fun g hg e=>h.na (by rw[hg];exact congrArg some e)),h.na,h.ok⟩,by simp,fun i h1 h2 h3=> ?_,(QK.of_below hb _).trans hk (fun i e=> .inl (.inl e)),fun g hg=> .inl hg⟩
 ·rw[Array.getElem?_setIfInBounds_ne (by rcases hj with⟨rfl,_⟩|⟨rfl,_⟩<;>omega)];exact h.c0
 ·rcases hj with⟨rfl,rfl,rfl⟩|⟨rfl,rfl,rfl⟩
  ·rw[Array.getElem?_setIfInBounds_self_of_lt s1]
  ·rw[Array.getElem?_setIfInBounds_ne (by omega)];exact h.c1
 ·rcases hj with⟨rfl,rfl,rfl⟩|⟨rfl,rfl,rfl⟩
  ·rw[Array.getElem?_setIfInBounds_ne (by omega)];exact h.c2
  ·rw[Array.getElem?_setIfInBounds_self_of_lt s2]
 ·rw[Array.getElem?_setIfInBounds_ne (by rcases hj with⟨rfl,_⟩|⟨rfl,_⟩<;>omega)]
end
def dB (o:QX):Int:=if o.side=1 then o.qty else 0
def dS (o:QX):Int:=if o.side=1 then 0 else o.qty
def Qb0 (o:QX):Prop:=(o.side=1∨o.side=2)∧(1≤o.qty∧o.qty≤1000000)∧(o.kind=2∨(1≤o.price∧o.price≤1000000))
structure Jc5 (lv:List XJ) (bu se:Int):Prop where
 b:0≤bu∧bu≤1000000000000000
 s:0≤se∧se≤1000000000000000
 l: ∀x∈lv,x.2.1≤1000000000000000∧x.2.2≤1000000000000000
 n:lv.length≤99999
theorem Xd5 {lv:List XJ} {k:Nat} (hk:k<lv.length) (y:XJ) (h:y.1=lv[k].1):((JQ KW lv).set (k*3+1) (.int .i64 y.2.1)).set (k*3+2) (.int .i64 y.2.2)=JQ KW (lv.set k y):=by
 have h0:(JQ KW lv)[k*3+0]?=some (.int .i64 y.1):=by rw[h];exact Qc7 JX lv k hk 0 (by omega)
 refine Eq.trans ?_ (Qq3 JX y lv k hk)
 show _=(((JQ KW lv).set (k*3) (.int .i64 y.1)).set (k*3+1) (.int .i64 y.2.1)).set (k*3+2) (.int .i64 y.2.2)
 have hs:(JQ KW lv).set (k*3) (.int .i64 y.1)=JQ KW lv:=by
  apply List.ext_getElem?;intro j
  by_cases e:k*3=j
  ·subst e
   have hi:=(List.getElem?_eq_some_iff.1 h0).1;rw[List.getElem?_set_self (by simpa using hi)];exact h0.symm
  ·rw[List.getElem?_set_ne e]
 rw[hs]
theorem Xz5 {lv:List XJ} {k:Nat} (hk:k<lv.length) (v:Int):(JQ KW lv).set (k*3+1) (.int .i64 v)=JQ KW (lv.set k (lv[k].1,v,lv[k].2.2)):=by
 rw[←Xd5 hk (lv[k].1,v,lv[k].2.2) rfl]
 dsimp only
 have h2:(JQ KW lv)[k*3+2]?=some (.int .i64 lv[k].2.2):=Qc7 JX lv k hk 2 (by omega)
 apply List.ext_getElem?
 intro j
 by_cases e:k*3+2=j
 ·subst e
  have hi:=(List.getElem?_eq_some_iff.1 h2).1;rw[List.getElem?_set_self (by simpa using hi),List.getElem?_set_ne (by omega)];exact h2
 ·rw[List.getElem?_set_ne e]
theorem Xz6 {lv:List XJ} {k:Nat} (hk:k<lv.length) (v:Int):(JQ KW lv).set (k*3+2) (.int .i64 v)=JQ KW (lv.set k (lv[k].1,lv[k].2.1,v)):=by
 rw[←Xd5 hk (lv[k].1,lv[k].2.1,v) rfl]
 dsimp only
 have h2:(JQ KW lv)[k*3+1]?=some (.int .i64 lv[k].2.1):=Qc7 JX lv k hk 1 (by omega)
 congr 1
 apply List.ext_getElem?
 intro j
 by_cases e:k*3+1=j
 ·subst e
  have hi:=(List.getElem?_eq_some_iff.1 h2).1;rw[List.getElem?_set_self (by simpa using hi)];exact h2
 ·rw[List.getElem?_set_ne e]
theorem Qx4 {w:World} {g n c:Nat} {lv:List XJ} (h:QW w (some ⟨g,0,none⟩) n c 249 3 (JQ KW lv)) {k:Nat} (hk:k<lv.length):
  w.cell? ⟨g,k*3,none⟩=some (.int .i64 lv[k].1)∧w.cell? ⟨g,k*3+1,none⟩=some (.int .i64 lv[k].2.1)∧w.cell? ⟨g,k*3+2,none⟩=some (.int .i64 lv[k].2.2):=by
 obtain⟨g0,hg,hc⟩:=h.elem JX (by omega) hk
 cases hg
 exact⟨hc 0 _ rfl,hc 1 _ rfl,hc 2 _ rfl⟩
structure Qe8 (w wx:World) (X:Nat) (t:TypeId) (cs:Array Value) (o:Nat) (A:Option Addr) (lv:List XJ) (bu se:Int) (p:Int) (k:Nat) (cs1:Array Value) (A1:Option Addr) (c1:Nat) (lv1:List XJ) (b s:Int):Prop where
 blk:QJ wx X t cs1
 c0:cs1[o]?=some (.slice A1 lv1.length c1)
 c1_:cs1[o+1]?=some (.int .i64 bu)
 c2:cs1[o+2]?=some (.int .i64 se)
 size:cs1.size=cs.size
 rest: ∀i,i≠o→i≠o+1→i≠o+2→cs1[i]?=cs[i]?
 row:QW wx A1 lv1.length c1 249 3 (JQ KW lv1)
 na:QZ A1≠some X
 kk:lv1[k]?=some (p,b,s)
 rank:Qd0 lv1
 old: ∀x∈lv1,x.1≠p→x∈lv
 same: ∀p',p'≠p→YV lv1 p'=YV lv p'
 len:lv1.length≤lv.length+1
 keep:QK (fun i=>i=X∨QZ A=some i) w wx
 fresh: ∀g,QZ A1=some g→QZ A=some g∨w.heap.size≤g
section
variable {w w' wx:World} {X:Nat} {t:TypeId} {cs:Array Value} {o:Nat} {A:Option Addr} {c:Nat} {lv:List XJ} {bu se p:Int} {k:Nat}
theorem Qe8.found (h:Qi4 w X t cs o A c lv bu se) (hb:Below w.heap.size w wx) (hk:k<lv.length) (hp:lv[k].1=p):Qe8 w wx X t cs o A lv bu se p k cs A c lv lv[k].2.1 lv[k].2.2∧YV lv p=(lv[k].2.1,lv[k].2.2):=by
 have h':=h.below hb
 have e:lv=lv.take k++lv[k]::lv.drop (k+1):=by rw[←List.drop_eq_getElem_cons hk,List.take_append_drop]
 refine⟨⟨h'.blk,h.c0,h.c1,h.c2,rfl,fun _ _ _ _=>rfl,h'.row,h.na, ?_,h.ok.rank,fun x hx _=>hx,fun _ _=>rfl,Nat.le_succ _,QK.of_below hb _,fun g hg=> .inl hg⟩, ?_⟩
 ·rw[List.getElem?_eq_getElem hk,←hp]
 ·have h1:=Ju8 (pre:=lv.take k) (post:=lv.drop (k+1)) (x:=lv[k]) (by rw[←e];exact h.ok.rank)
  rw[←e,hp]at h1;exact h1
theorem Qe8.new_ {w3:World} {A1:Option Addr} {c1:Nat} (h:Qi4 w X t cs o A c lv bu se) (hb:Below w.heap.size w wx) (hk:k≤lv.length) (h1: ∀i (hi:i<lv.length),i<k→Qe1 lv[i].1 p<0) (h2: ∀i (hi:i<lv.length),k≤i→0≤Qe1 lv[i].1 p) (hn: ∀x∈lv,x.1≠p)
  (hi:Ju7 wx w3 A A1 (lv.length+1) c1 (lv.take k++(p,0,0)::lv.drop k)):
  Qe8 w (w3.setCell ⟨X,o,none⟩ (.slice A1 (lv.length+1) c1)) X t cs o A lv bu se p k (cs.setIfInBounds o (.slice A1 (lv.length+1) c1)) A1 c1 (lv.take k++(p,0,0)::lv.drop k) 0 0∧YV lv p=(0,0):=by
 obtain⟨hr,hke,hf⟩:=hi
 have h':=h.below hb
 have hXl:=QJ.lt h.blk
 have so:o<cs.size:=(Array.getElem?_eq_some_iff.1 h.c0).1
 have hX3:QJ w3 X t cs:=QJ.keeps h'.blk hke (fun e=>h.na e)
 have hna:QZ A1≠some X:=fun e=>by
  rcases hf X e with h3|h3
  ·exact h.na h3
  ·have:=hb.size;omega
 have hlen:(lv.take k++(p,0,0)::lv.drop k).length=lv.length+1:=by simp;omega
 have hkS:=QK.set_ w3 ⟨X,o,none⟩ (.slice A1 (lv.length+1) c1)
 obtain⟨e0,e1,e2⟩:=Xq9 hk h1 h2
 have hrk:Qd0 (lv.take k++(p,0,0)::lv.drop k):=Xq8 (by rw[←e0];exact h.ok.rank) e1 (fun y hy=>by
  have h3:=e2 y hy;have h4:=hn y (List.mem_of_mem_drop hy);omega)
 refine⟨⟨QJ.set_ hX3 o _, ?_, ?_, ?_,by simp,fun i h3 h4 h5=> ?_, ?_,hna, ?_,hrk,fun x hx hne=> ?_,fun p' hp'=> ?_,by rw[hlen];exact Nat.le_refl _, ?_,fun g hg=> ?_⟩,Jh4 hn⟩
 ·rw[Array.getElem?_setIfInBounds_self_of_lt so,hlen]
 ·rw[Array.getElem?_setIfInBounds_ne (by omega)];exact h.c1
 ·rw[Array.getElem?_setIfInBounds_ne (by omega)];exact h.c2
 ·rw[Array.getElem?_setIfInBounds_ne (by omega)]
 ·rw[hlen]
  exact hr.keeps hkS (fun g hg e=>hna (by rw[hg];exact congrArg some e))
 ·have hl:(lv.take k).length=k:=by rw[List.length_take];omega
  rw[List.getElem?_append_right (by omega),hl,Nat.sub_self]
  rfl
 ·rcases List.mem_append.1 hx with hx|hx
  ·exact List.mem_of_mem_take hx
  ·rcases List.mem_cons.1 hx with rfl|hx
   ·exact absurd rfl hne
   ·exact List.mem_of_mem_drop hx
 ·rw[Ja8 (x:=(p,0,0)) hp',←e0]
 ·exact((QK.of_below hb _).trans hke (fun i e=> .inl (.inr e))).trans hkS (fun i e=> .inl (.inl e))
 ·rcases hf g hg with h3|h3
  ·exact .inl h3
  ·exact .inr (Nat.le_trans hb.size h3)
theorem Jc5.lot (hs:Jc5 lv bu se) (hk:Jb9 lv) (p:Int):(0≤(YV lv p).1∧(YV lv p).1≤1000000000000000)∧(0≤(YV lv p).2∧(YV lv p).2≤1000000000000000):=by
 unfold YV
 cases hf:lv.find? (fun x=>x.1 ==p)with
 |none=>exact⟨⟨Int.le_refl 0,by decide⟩,⟨Int.le_refl 0,by decide⟩⟩
 |some x=>
  have hm:=List.mem_of_find?_eq_some hf;have h1:=hk.nz x hm;have h2:=hs.l x hm;exact⟨⟨h1.1,h2.1⟩,⟨h1.2.1,h2.2⟩⟩
theorem Qe8.parts {cs1:Array Value} {A1:Option Addr} {c1:Nat} {lv1:List XJ} {b s:Int} (h:Qe8 w wx X t cs o A lv bu se p k cs1 A1 c1 lv1 b s): ∃(hk:k<lv1.length),lv1[k]=(p,b,s)∧lv1=lv1.take k++(p,b,s)::lv1.drop (k+1):=by
 obtain⟨hk,e⟩:=List.getElem?_eq_some_iff.1 h.kk
 exact⟨hk,e,by rw[←e,←List.drop_eq_getElem_cons hk,List.take_append_drop]⟩
theorem Qe8.put {cs1:Array Value} {g c1:Nat} {lv1:List XJ} {b s b' s':Int} (h:Qe8 w wx X t cs o A lv bu se p k cs1 (some ⟨g,0,none⟩) c1 lv1 b s) (j:Nat) (v:Int) (hj:(j=1∧b'=v∧s'=s)∨(j=2∧b'=b∧s'=v)):
  Qe8 w (wx.setCell ⟨g,k*3+j,none⟩ (.int .i64 v)) X t cs o A lv bu se p k cs1 (some ⟨g,0,none⟩) c1 (lv1.set k (p,b',s')) b' s':=by
 obtain⟨hk,hkv,he⟩:=h.parts
 have hgX:X≠g:=fun e=>h.na (by rw[e];rfl)
 have hks:=QK.set_ wx ⟨g,k*3+j,none⟩ (.int .i64 v)
 have hes:lv1.set k (p,b',s')=lv1.take k++(p,b',s')::lv1.drop (k+1):=by
  rw[List.set_eq_take_append_cons_drop,if_pos hk]
 have hr:=h.rank
 rw[he]at hr
 obtain⟨r1,r2,r3⟩:=Qh0 hr
 have hrw:=h.row.set (k*3+j) (.int .i64 v)
 refine⟨QJ.keeps h.blk hks hgX,by rw[List.length_set];exact h.c0,h.c1_,h.c2,h.size,h.rest, ?_,h.na,by rw[List.getElem?_set_self hk],by rw[hes];exact Xq8 r3 r1 r2,fun x hx hne=> ?_,fun p' hp'=> ?_,by rw[List.length_set];exact h.len,h.keep.trans hks (fun i e=> ?_),h.fresh⟩
 ·rw[List.length_set]
  rcases hj with⟨rfl,rfl,rfl⟩|⟨rfl,rfl,rfl⟩
  ·rw[Xz5 hk,hkv]at hrw;exact hrw
  ·rw[Xz6 hk,hkv]at hrw;exact hrw
 ·rcases List.mem_or_eq_of_mem_set hx with hx|rfl
  ·exact h.old x hx hne
  ·exact absurd rfl hne
 ·rw[hes,Ja8 (x:=(p,b',s')) hp',←Ja8 (x:=(p,b,s)) hp',←he]
  exact h.same p' hp'
 ·have e:i=g:=e
  subst e;exact(h.fresh i rfl).imp .inr id
theorem Qe8.ok {cs1:Array Value} {A1:Option Addr} {c1:Nat} {lv1:List XJ} {b s:Int} (h:Qe8 w wx X t cs o A lv bu se p k cs1 A1 c1 lv1 b s) (hk:Jb9 lv) {x:XJ} (hx:x∈lv1) (hne:x.1≠p):(0≤x.2.1∧0≤x.2.2∧(x.2.1≠0∨x.2.2≠0))∧(1≤x.1∧x.1≤1000000):=
 ⟨hk.nz x (h.old x hx hne),hk.pr x (h.old x hx hne)⟩
theorem Qe8.done {cs1:Array Value} {A1:Option Addr} {c1:Nat} {lv1:List XJ} {b s:Int} (h:Qe8 w wx X t cs o A lv bu se p k cs1 A1 c1 lv1 b s) (hk:Jb9 lv) (hp:1≤p∧p≤1000000) (hb:0≤b) (hs:0≤s) (hz: ¬(b=0∧s=0)):
  ∃lv',Qd1 w wx X t cs o A lv' bu se∧lv'.length≤lv.length+1∧ ∀p',YV lv' p'=if p'=p then(b,s)else YV lv p':=by
 obtain⟨hkk,hkv,he⟩:=h.parts
 refine⟨lv1,⟨cs1,A1,c1,⟨h.blk,h.c0,h.c1_,h.c2,h.row,h.na,⟨h.rank,fun x hx=> ?_,fun x hx=> ?_⟩⟩,h.size,h.rest,h.keep,h.fresh⟩,h.len,fun p'=> ?_⟩
 ·by_cases e:x.1=p
  ·have hr:=h.rank
   rw[he]at hr hx;obtain⟨r1,r2,-⟩:=Qh0 hr;rcases List.mem_append.1 hx with hx|hx
   ·have h1:x.1<p:=r1 x hx;omega
   ·rcases List.mem_cons.1 hx with rfl|hx
    ·exact⟨hb,hs,by dsimp only;omega⟩
    ·have h1:p<x.1:=r2 x hx;omega
  ·exact(h.ok hk hx e).1
 ·by_cases e:x.1=p
  ·rw[e];exact hp
  ·exact(h.ok hk hx e).2
 ·by_cases e:p'=p
  ·rw[if_pos e,e,he]
   exact Ju8 (x:=(p,b,s)) (by rw[←he];exact h.rank)
  ·rw[if_neg e]
   exact h.same p' e
theorem Qe8.del {w3:World} {cs1:Array Value} {g c1 m:Nat} {lv1:List XJ} (h:Qe8 w wx X t cs o A lv bu se p k cs1 (some ⟨g,0,none⟩) c1 lv1 0 0) (hk:Jb9 lv) (hb:Below wx.heap.size wx w') (hm:lv1.length=m+1)
  (hr:QW w3 (some ⟨g,0,none⟩) m c1 249 3 (JQ KW (lv1.take k++lv1.drop (k+1)))) (hke:QK (fun x=>x=g) w' w3):
  ∃lv',Qd1 w (w3.setCell ⟨X,o,none⟩ (.slice (some ⟨g,0,none⟩) m c1)) X t cs o A lv' bu se∧lv'.length≤lv.length+1∧ ∀p',YV lv' p'=if p'=p then(0,0)else YV lv p':=by
 obtain⟨hkk,hkv,he⟩:=h.parts
 have hgX:X≠g:=fun e=>h.na (by rw[e];rfl)
 have so:o<cs1.size:=(Array.getElem?_eq_some_iff.1 h.c0).1
 have hl:(lv1.take k++lv1.drop (k+1)).length=m:=by simp;omega
 have hkS:=QK.set_ w3 ⟨X,o,none⟩ (.slice (some ⟨g,0,none⟩) m c1)
 have hB3:QJ w3 X t cs1:=QJ.keeps (QJ.keep h.blk hb) hke hgX
 have hrk:=h.rank
 rw[he]at hrk
 obtain⟨r1,r2,r3⟩:=Qh0 hrk
 have hin: ∀x∈lv1.take k++lv1.drop (k+1),x∈lv1∧x.1≠p:=fun x hx=>by
  rcases List.mem_append.1 hx with hx|hx
  ·have h1:x.1<p:=r1 x hx
   exact⟨List.mem_of_mem_take hx,by omega⟩
  ·have h1:p<x.1:=r2 x hx
   exact⟨List.mem_of_mem_drop hx,by omega⟩
 refine⟨_,⟨cs1.setIfInBounds o (.slice (some ⟨g,0,none⟩) m c1),some ⟨g,0,none⟩,c1,⟨QJ.set_ hB3 o _, ?_, ?_, ?_, ?_,h.na,⟨r3,fun x hx=>(h.ok hk (hin x hx).1 (hin x hx).2).1,fun x hx=>(h.ok hk (hin x hx).1 (hin x hx).2).2⟩⟩,by simp[h.size],fun i h1 h2 h3=> ?_, ?_,h.fresh⟩,by rw[hl];have:=h.len;omega,fun p'=> ?_⟩
 ·rw[Array.getElem?_setIfInBounds_self_of_lt so,hl]
 ·rw[Array.getElem?_setIfInBounds_ne (by omega)];exact h.c1_
 ·rw[Array.getElem?_setIfInBounds_ne (by omega)];exact h.c2
 ·rw[hl]
  exact hr.keeps hkS (fun g' hg e=>hgX (by cases hg;exact e.symm))
 ·rw[Array.getElem?_setIfInBounds_ne (by omega)];exact h.rest i h1 h2 h3
 ·refine((h.keep.trans (QK.of_below hb (fun _=>False)) (fun _ e=>e.elim)).trans hke (fun i e=> ?_)).trans hkS (fun i e=> .inl (.inl e))
  have e:i=g:=e;subst e;exact(h.fresh i rfl).imp .inr id
 ·by_cases e:p'=p
  ·rw[if_pos e,e]
   exact Ku7 (x:=(p,0,0)) hrk
  ·rw[if_neg e,←Ja8 (x:=(p,0,0)) e,←he]
   exact h.same p' e
end
end Go.Proofs.YtbmiieehkkfbgaaGreatDoor
