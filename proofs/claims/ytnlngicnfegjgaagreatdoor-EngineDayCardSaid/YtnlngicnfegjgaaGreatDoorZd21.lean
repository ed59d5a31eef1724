/- Contracts and walks that the law's proof needs. -/
import Derived.Test.YtnlngicnfegjgaaGreatDoorZd20
set_option linter.unusedVariables false
set_option maxRecDepth 100000
set_option maxHeartbeats 8000000
namespace Go.Proofs.YtnlngicnfegjgaaGreatDoor
open Go.RowKit
section
variable {m:ZJ}
theorem Je0 (m:ZJ) (o:QX):(Qc8 m o).L1.length+ (Qc8 m o).L2.length≤m.L1.length+m.L2.length+1:=by
 show(Jt6 1 m.L1 m.L2 m.L1 o).length+ (Jt6 2 m.L1 m.L2 m.L2 o).length≤_
 unfold Jt6 Qb8
 split
 ·by_cases h1:o.side=1
  ·rw[if_pos h1,if_neg (by omega),Jm0];omega
  ·rw[if_neg h1]
   split
   ·rw[Jm0];omega
   ·omega
 ·omega
theorem Jc1: ∀(l:List QX) (m:ZJ),(UZ m l).L1.length+ (UZ m l).L2.length≤m.L1.length+m.L2.length+l.length
 | [],m=>by simp[UZ]
 |o::l,m=>by
  have h1:=Jc1 l (Qc8 m o);have h2:=Je0 m o;have e:UZ m (o::l)=UZ (Qc8 m o) l:=rfl;rw[e,List.length_cons];omega
theorem Qc1: ∀(l:List QX) (m:ZJ),(UZ m l).rows=m.rows∧(UZ m l).st=m.st∧(UZ m l).dy=m.dy∧(UZ m l).tk=m.tk∧(UZ m l).mo=m.mo∧(UZ m l).an=m.an∧(UZ m l).la=m.la∧(UZ m l).pk=m.pk∧(UZ m l).ids=m.ids∧(UZ m l).ph=m.ph∧(UZ m l).now=m.now∧(UZ m l).ends=m.ends∧(UZ m l).lng=m.lng
 | [],m=>⟨rfl,rfl,rfl,rfl,rfl,rfl,rfl,rfl,rfl,rfl,rfl,rfl,rfl⟩
 |o::l,m=>Qc1 l (Qc8 m o)
theorem Jh7: ∀(L:List QX) (a:Int),(ZK L a).length≤L.length
 | [],a=>by simp[ZK]
 |o::t,a=>by
  unfold ZK
  split
  ·exact Nat.le_refl _
  ·split
   ·have:=Jh7 t (a-o.qty)
    rw[List.length_cons];omega
   ·simp
theorem Jn9 (m:ZJ) (L:List QX):(Qp6 m L).length≤L.length:=by
 unfold Qp6
 refine Nat.le_trans (List.length_filter_le _ _) ?_
 split
 ·exact Jh7 _ _
 ·exact Nat.le_refl _
theorem Xh8 (x:QX) (n:Int):(Qg4 x n).length≤1:=by unfold Qg4;split<;>simp
theorem Qt9 {σ:Type} (al:σ→Int→Bool) (tr:σ→Int→σ): ∀(L:List QX) (o:QX) (s:σ),(ZX al tr L o s).rest.length≤L.length
 | [],o,s=>by simp[ZX]
 |x::t,o,s=>by
  unfold ZX
  split
  ·exact Nat.le_refl _
  ·split
   ·have:=Qt9 al tr t o s
    simp only[List.length_cons];omega
   ·split
    ·exact Nat.le_refl _
    ·split
     ·exact Nat.le_refl _
     ·have h1:=Qt9 al tr t (U9 o (min o.qty x.qty)) (tr s x.price)
      have h2:=Xh8 x (min o.qty x.qty);simp only[List.length_append,List.length_cons];omega
theorem Qx9 (al:Int→Int→Bool): ∀(L:List QX) (o:QX) (s:Int),(∀x∈L,1≤x.price∧x.price≤1000000)→1≤s∧s≤1000000→1≤(ZX al (fun _ p=>p) L o s).st∧(ZX al (fun _ p=>p) L o s).st≤1000000
 | [],o,s,_,h=>by simpa [ZX]using h
 |x::t,o,s,hL,h=>by
  have ht: ∀y∈t,1≤y.price∧y.price≤1000000:=fun y hy=>hL y (List.mem_cons_of_mem _ hy)
  unfold ZX
  split
  ·exact h
  ·split
   ·exact Qx9 al t o s ht h
   ·split
    ·exact h
    ·split
     ·exact h
     ·exact Qx9 al t _ _ ht (hL x List.mem_cons_self)
theorem Xq3 (L:List QX) (k:Nat):(Jk3 L k).length≤L.length:=by
 unfold Jk3
 rw[List.length_append,List.length_take,List.length_drop]
 omega
theorem Xq4 {L:List QX} {k:Nat} {o:QX} (h:o∈Jk3 L k):o∈L:=by
 unfold Jk3 at h
 rcases List.mem_append.1 h with h|h
 ·exact List.mem_of_mem_take h
 ·exact List.mem_of_mem_drop h
theorem VW.unc (h:VW m) (hl:XY (Qr4 m).L1 (Qr4 m).L2):VW (Qr4 m):=by
 have hp: ∀p,1≤p∧p≤1000000→1≤Qe9 m p∧Qe9 m p≤1000000:=fun p hp=>by
  unfold Qe9
  split
  ·rename_i hq
   have:=Ja9 h.ls h.la hq;exact⟨this.2.2.1,this.2.2.2⟩
  ·exact hp
 refine⟨h.tab,h.st,h.dy,h.tk,h.mo,hp _ h.an,hp _ h.la,hl,h.pk, ?_,h.lng⟩
 have h1:=Jn9 m m.L1
 have h2:=Jn9 m m.L2
 have:=h.cnt
 show(Qp6 m m.L1).length+ (Qp6 m m.L2).length+m.pk.length≤100
 omega
theorem VW.close (h:VW m) (hl:XY (Qg6 m).L1 (Qg6 m).L2):VW (Qg6 m):=by
 obtain⟨e1,e2,e3,e4,e5,e6,e7,e8,e9,e10,e11,e12,e13⟩:=Qc1 m.pk {m with ph:=5}
 refine⟨?_, ?_, ?_, ?_, ?_, ?_, ?_,hl,fun o ho=>(by cases ho), ?_, ?_⟩
 ·show Z5 (UZ {m with ph:=5} m.pk).rows;rw[e1];exact h.tab
 ·show 0≤(UZ {m with ph:=5} m.pk).st∧(UZ {m with ph:=5} m.pk).st≤10000;rw[e2];exact h.st
 ·show 0≤(UZ {m with ph:=5} m.pk).dy∧(UZ {m with ph:=5} m.pk).dy≤10000;rw[e3];exact h.dy
 ·show 1≤(UZ {m with ph:=5} m.pk).tk∧(UZ {m with ph:=5} m.pk).tk≤1000000;rw[e4];exact h.tk
 ·show 0≤(UZ {m with ph:=5} m.pk).mo∧(UZ {m with ph:=5} m.pk).mo≤10;rw[e5];exact h.mo
 ·show 1≤(UZ {m with ph:=5} m.pk).an∧(UZ {m with ph:=5} m.pk).an≤1000000;rw[e6];exact h.an
 ·show 1≤(UZ {m with ph:=5} m.pk).la∧(UZ {m with ph:=5} m.pk).la≤1000000;rw[e7];exact h.la
 ·have h1:=Jc1 m.pk {m with ph:=5}
  have h2:=h.cnt;show(UZ {m with ph:=5} m.pk).L1.length+ (UZ {m with ph:=5} m.pk).L2.length+0≤100;have e:(({m with ph:=5}:ZJ).L1.length+ ({m with ph:=5}:ZJ).L2.length)=m.L1.length+m.L2.length:=rfl;omega
 ·show 0≤(UZ {m with ph:=5} m.pk).lng∧(UZ {m with ph:=5} m.pk).lng≤10;rw[e13];exact h.lng
theorem VW.setPh (h:VW m) (p:Int):VW {m with ph:=p}:=⟨h.tab,h.st,h.dy,h.tk,h.mo,h.an,h.la,h.ls,h.pk,h.cnt,h.lng⟩
theorem VW.vol (h:VW m):VW (Jh2 m):=⟨h.tab,h.st,h.dy,h.tk,h.mo,h.an,h.la,h.ls,h.pk,h.cnt,⟨by show(0:Int)≤0;omega,by show(0:Int)≤10;omega⟩⟩
theorem VW.next (h:VW m):VW (XQ m):=⟨h.tab,h.st,h.dy,h.tk,h.mo,h.an,h.la,h.ls,h.pk,h.cnt,h.lng⟩
theorem VW.over (h:VW m):VW (Qu8 m):=⟨h.tab,h.st,h.dy,h.tk,h.mo,h.an,h.la,⟨List.nodup_nil,by simp[Qu8],fun o ho=>(by cases ho),fun o ho=>(by cases ho),fun o ho=>(by cases ho)⟩,fun o ho=>(by cases ho),by simp[Qu8],h.lng⟩
theorem VW.halt (h:VW m):VW (Qe2 m):=by
 unfold Qe2
 split
 ·exact h
 ·exact h.setPh 6
theorem VW.open_ (h:VW m) (hl:XY (Qa2 m).L1 (Qa2 m).L2):VW (Qa2 m):=by
 unfold Qa2 at hl⊢
 by_cases h6:m.ph=6
 ·rw[if_pos h6]at hl⊢
  by_cases h3:VJ m m.now=3
  ·rw[if_pos h3];exact h.vol
  ·rw[if_neg h3]at hl⊢
   by_cases h5:VJ m m.now=5
   ·rw[if_pos h5]at hl⊢;exact h.close hl
   ·rw[if_neg h5];exact h.setPh _
 ·rw[if_neg h6];exact h
theorem VW.enter (h:VW m) (p:Int) (hl:XY (X8 m p).L1 (X8 m p).L2):VW (X8 m p):=by
 unfold X8 at hl⊢
 by_cases h3:p=3
 ·rw[if_pos h3]at hl⊢;exact(h.unc hl).setPh 3
 ·rw[if_neg h3]at hl⊢
  by_cases h5:p=5
  ·rw[if_pos h5]at hl⊢;exact h.close hl
  ·rw[if_neg h5];exact h.setPh _
theorem VW.settle (h:VW m) (hl:XY (OW m).L1 (OW m).L2):VW (OW m):=by
 unfold OW at hl⊢
 by_cases h3:Jh3 m
 ·rw[if_pos h3]at hl⊢;exact(h.unc hl).setPh 3
 ·rw[if_neg h3]at hl⊢
  by_cases h5:m.lng<m.mo
  ·rw[if_pos h5]
   exact⟨h.tab,h.st,h.dy,h.tk,h.mo,h.an,h.la,h.ls,h.pk,h.cnt,⟨by have:=h.lng;show 0≤m.lng+1;omega,by have:=h.mo;show m.lng+1≤10;omega⟩⟩
  ·rw[if_neg h5];exact h.setPh _
theorem VW.tick (h:VW m) (hl:XY (Q8 m).L1 (Q8 m).L2):VW (Q8 m):=by
 unfold Q8 at hl⊢
 by_cases h7:m.ph=7
 ·rw[if_pos h7];exact h
 ·rw[if_neg h7]at hl⊢
  have hn:=h.next;unfold I1 at hl⊢
  by_cases e7:VJ (XQ m) (XQ m).now=7
  ·rw[if_pos e7]
   by_cases e5:(XQ m).ph=5
   ·rw[if_pos e5]
    exact⟨h.tab,h.st,h.dy,h.tk,h.mo,by
     have: ∀p,1≤p∧p≤1000000→1≤Qe9 (XQ m) p∧Qe9 (XQ m) p≤1000000:=fun p hp=>by
      unfold Qe9
      split
      ·rename_i hq
       have:=Ja9 hn.ls hn.la hq;exact⟨this.2.2.1,this.2.2.2⟩
      ·exact hp
     exact this _ hn.an,by
     have: ∀p,1≤p∧p≤1000000→1≤Qe9 (XQ m) p∧Qe9 (XQ m) p≤1000000:=fun p hp=>by
      unfold Qe9
      split
      ·rename_i hq
       have:=Ja9 hn.ls hn.la hq;exact⟨this.2.2.1,this.2.2.2⟩
      ·exact hp
     exact this _ hn.la,⟨List.nodup_nil,by simp[Qu8],fun o ho=>(by cases ho),fun o ho=>(by cases ho),fun o ho=>(by cases ho)⟩,fun o ho=>(by cases ho),by simp[Qu8],h.lng⟩
   ·rw[if_neg e5];exact hn.over
  ·rw[if_neg e7]at hl⊢
   by_cases e6:(XQ m).ph=6
   ·rw[if_pos e6];exact hn
   ·rw[if_neg e6]at hl⊢
    by_cases ew:VJ m m.now≠VJ (XQ m) (XQ m).now
    ·rw[if_pos ew]at hl⊢;exact hn.enter _ hl
    ·rw[if_neg ew]at hl⊢
     by_cases e4:(XQ m).ph=4∧(XQ m).ends≤(XQ m).now
     ·rw[if_pos e4]at hl⊢;exact hn.settle hl
     ·rw[if_neg e4];exact hn
theorem VW.cancel (h:VW m) (id:Int) (hl:XY (YJ m id).L1 (YJ m id).L2):VW (YJ m id):=by
 unfold YJ at hl⊢
 by_cases h7:m.ph=7
 ·rw[if_pos h7];exact h
 ·rw[if_neg h7]at hl⊢
  by_cases hk:Ju6 m id=true
  ·rw[if_pos hk]at hl⊢
   refine⟨h.tab,h.st,h.dy,h.tk,h.mo,h.an,h.la,h.ls,fun o ho=>h.pk o (Xq4 ho), ?_,h.lng⟩;have h1:=Xq3 m.pk (m.pk.findIdx fun o=>o.id ==id);have:=h.cnt;show m.L1.length+m.L2.length+ (Jk3 m.pk (m.pk.findIdx fun o=>o.id ==id)).length≤100;omega
  ·rw[if_neg hk]at hl⊢
   refine⟨h.tab,h.st,h.dy,h.tk,h.mo,h.an,h.la,hl,h.pk, ?_,h.lng⟩;have h1:(O7 m.L1 id).length≤m.L1.length:=List.length_filter_le _ _;have h2:(O7 m.L2 id).length≤m.L2.length:=List.length_filter_le _ _;have:=h.cnt;show(O7 m.L1 id).length+ (O7 m.L2 id).length+m.pk.length≤100;omega
theorem Qy0 {o:QX} (h:X9 m o=0):Xh6 o=false∧Qq6 o=true∧Qh4 m.ph o.kind=true∧o.id∉m.ids∧m.L1.length+m.L2.length+m.pk.length<100:=by
 unfold X9 at h
 by_cases h1:Xh6 o=true
 ·rw[if_pos h1]at h;cases h
 ·rw[if_neg h1]at h
  by_cases h2:Qq6 o=false
  ·rw[if_pos h2]at h;cases h
  ·rw[if_neg h2]at h
   by_cases h3:Qh4 m.ph o.kind=false
   ·rw[if_pos h3]at h;cases h
   ·rw[if_neg h3]at h
    by_cases h4:o.id∈m.ids
    ·rw[if_pos h4]at h;cases h
    ·rw[if_neg h4]at h
     by_cases h5:100≤m.L1.length+m.L2.length+m.pk.length
     ·rw[if_pos h5]at h;cases h
     ·exact⟨by simpa using h1,by simpa using h2,by simpa using h3,h4,by omega⟩
theorem Xc7 {o:QX} (hf:Qd5 o) (hb:Xh6 o=false) (hr:Qq6 o=true):OkO (JJ o)∧VV (JJ o).side∧1≤o.kind∧o.kind≤4:=by
 have hb': ¬(o.side≠1∧o.side≠2∨o.kind<1∨4<o.kind∨o.id<1):=by
  unfold Xh6 at hb;exact of_decide_eq_false hb
 have hr':=V5.1 hr
 refine⟨⟨⟨hf.1,hf.2.1,hf.2.2.1, ?_,hf.2.2.2.2⟩,by show 1≤o.id;omega,⟨hr'.1,hr'.2.1⟩,hr'.2.2⟩, ?_,by omega,by omega⟩
 ·have:=hr'.1
  have:=hr'.2.1;unfold V3;omega
 ·show o.side=1∨o.side=2
  omega
theorem VW.order (h:VW m) {o:QX} (hf:Qd5 o) (hl:XY (OK m o).L1 (OK m o).L2):VW (OK m o):=by
 unfold OK at hl⊢
 by_cases he:X9 m o=0
 ·rw[if_pos he]at hl⊢
  obtain⟨h1,h2,h3,h4,h5⟩:=Qy0 he;obtain⟨p1,p2,p3,p4⟩:=Xc7 hf h1 h2;unfold Qe5 at hl⊢
  by_cases hp:(JJ o).kind=4∧(YX m (JJ o)).ph≠5
  ·rw[if_pos hp]
   refine⟨h.tab,h.st,h.dy,h.tk,h.mo,h.an,h.la,h.ls,fun x hx=> ?_, ?_,h.lng⟩
   ·rcases List.mem_append.1 hx with hx|hx
    ·exact h.pk x hx
    ·rw[List.mem_singleton]at hx
     subst hx;exact⟨p1,p2⟩
   ·show m.L1.length+m.L2.length+ (m.pk++ [JJ o]).length≤100
    rw[List.length_append,List.length_singleton];omega
  ·rw[if_neg hp]at hl⊢
   have hlie:=Je0 (YX m (JJ o)) (JJ o)
   by_cases h3':(YX m (JJ o)).ph≠3
   ·rw[if_pos h3']at hl⊢
    refine⟨h.tab,h.st,h.dy,h.tk,h.mo,h.an,h.la,hl,h.pk, ?_,h.lng⟩;show(Qc8 (YX m (JJ o)) (JJ o)).L1.length+ (Qc8 (YX m (JJ o)) (JJ o)).L2.length+m.pk.length≤100;have e:(YX m (JJ o)).L1.length+ (YX m (JJ o)).L2.length=m.L1.length+m.L2.length:=rfl;omega
   ·rw[if_neg h3']at hl⊢
    obtain⟨M,hM⟩: ∃M,YX m (JJ o)=M:=⟨_,rfl⟩;have hMo:VW M:=by rw[←hM];exact⟨h.tab,h.st,h.dy,h.tk,h.mo,h.an,h.la,h.ls,h.pk,h.cnt,h.lng⟩
    have hMc:M.L1.length+M.L2.length+M.pk.length<100:=by rw[←hM];exact h5
    rw[hM]at hl⊢;clear hM h3' hp hlie;obtain⟨q,hq⟩: ∃q,JJ o=q:=⟨_,rfl⟩;rw[hq]at hl p1 p2⊢;have hside: ∀x∈JY (3-q.side) M.L1 M.L2,1≤x.price∧x.price≤1000000:=fun x hx=>by
     have:x∈M.L1++M.L2:=by
      unfold JY at hx
      split at hx
      ·exact List.mem_append_left _ hx
      ·exact List.mem_append_right _ hx
     exact(hMo.ls.ok x this).2.2.1
    have hla:=Qx9 (fun la p=>X4 M.st M.dy M.an la p) (JY (3-q.side) M.L1 M.L2) q M.la hside hMo.la;have hlen:=Qt9 (fun la p=>X4 M.st M.dy M.an la p) (fun(_:Int) p=>p) (JY (3-q.side) M.L1 M.L2) q M.la;have c1:(UY M q).L1.length+ (UY M q).L2.length≤M.L1.length+M.L2.length:=by
     show(if q.side=1 then M.L1 else(ZW M q).rest).length+ (if q.side=1 then(ZW M q).rest else M.L2).length≤_;have hlen':(ZW M q).rest.length≤(JY (3-q.side) M.L1 M.L2).length:=hlen;unfold JY at hlen'
     by_cases hs:q.side=1
     ·rw[if_pos hs,if_pos hs]
      rw[if_neg (by omega)]at hlen';omega
     ·rw[if_neg hs,if_neg hs]
      have hs2:q.side=2:=p2.resolve_left hs;rw[if_pos (by omega)]at hlen';omega
    have c2:(VK M q).L1.length+ (VK M q).L2.length≤M.L1.length+M.L2.length+1:=by
     unfold VK
     split
     ·have:=Je0 (UY M q) (ZW M q).left
      omega
     ·omega
    have hk: ∀ {K:ZJ},K.rows=M.rows→K.st=M.st→K.dy=M.dy→K.tk=M.tk→K.mo=M.mo→K.an=M.an→K.la=(ZW M q).st→K.pk=M.pk→0≤K.lng∧K.lng≤10→XY K.L1 K.L2→K.L1.length+K.L2.length≤M.L1.length+M.L2.length+1→VW K:=by
     intro K a1 a2 a3 a4 a5 a6 a7 a8 a9 a10 a11;refine⟨a1▸hMo.tab,a2▸hMo.st,a3▸hMo.dy,a4▸hMo.tk,a5▸hMo.mo,a6▸hMo.an,a7▸hla,a10,a8▸hMo.pk, ?_,a9⟩;rw[a8];omega
    have m2:(VK M q).rows=M.rows∧(VK M q).st=M.st∧(VK M q).dy=M.dy∧(VK M q).tk=M.tk∧(VK M q).mo=M.mo∧(VK M q).an=M.an∧(VK M q).la=(ZW M q).st∧(VK M q).pk=M.pk∧(VK M q).lng=M.lng:=by
     unfold VK
     split<;>exact⟨rfl,rfl,rfl,rfl,rfl,rfl,rfl,rfl,rfl⟩
    obtain⟨b1,b2,b3,b4,b5,b6,b7,b8,b9⟩:=m2;unfold Z2 at hl⊢
    by_cases hst:(ZW M q).stop=true
    ·rw[if_pos hst]at hl⊢
     exact hk b1 b2 b3 b4 b5 b6 b7 b8 ⟨by show(0:Int)≤0;omega,by show(0:Int)≤10;omega⟩ hl c2
    ·rw[if_neg hst]at hl⊢
     exact hk b1 b2 b3 b4 b5 b6 b7 b8 (b9▸hMo.lng) hl c2
 ·rw[if_neg he];exact h
end
theorem UK.lists {w:World} {e:Nat} {F:Nat→Prop} {m:ZJ} (h:UK w e F m):XY m.L1 m.L2:=by
 obtain⟨cs,tb,bb,bk,im,T,tc,Al,lc,lv,bu,se,Ap,pc,es,mc,G,own,hM,hF⟩:=h
 exact hM.book.lists
end Go.Proofs.YtnlngicnfegjgaaGreatDoor
