/- Contracts and walks that the law's proof needs. -/
import Derived.Test.YtnlngicnfegjgaaGreatZf39
import Derived.Test.YtnlngicnfegjgaaGreatZf38
set_option linter.unusedVariables false
set_option maxRecDepth 100000
set_option maxHeartbeats 8000000
namespace Go.Proofs.YtnlngicnfegjgaaGreat
open Go.RowKit
section
variable {m:ZX}
theorem Jd2 (m:ZX) (o:QX):(Qc8 m o).L1.length+ (Qc8 m o).L2.length≤m.L1.length+m.L2.length+1:=by
 show(Ju0 1 m.L1 m.L2 m.L1 o).length+ (Ju0 2 m.L1 m.L2 m.L2 o).length≤_
 unfold Ju0 Qc0
 split
 ·by_cases h1:o.side=1
  ·rw[if_pos h1,if_neg (by omega),Jl6];omega
  ·rw[if_neg h1]
   split
   ·rw[Jl6];omega
   ·omega
 ·omega
theorem Jb4: ∀(l:List QX) (m:ZX),(UK m l).L1.length+ (UK m l).L2.length≤m.L1.length+m.L2.length+l.length
 | [],m=>by simp[UK]
 |o::l,m=>by
  have h1:=Jb4 l (Qc8 m o);have h2:=Jd2 m o;have e:UK m (o::l)=UK (Qc8 m o) l:=rfl;rw[e,List.length_cons];omega
theorem Qc2: ∀(l:List QX) (m:ZX),(UK m l).rows=m.rows∧(UK m l).st=m.st∧(UK m l).dy=m.dy∧(UK m l).tk=m.tk∧(UK m l).mo=m.mo∧(UK m l).an=m.an∧(UK m l).la=m.la∧(UK m l).pk=m.pk∧(UK m l).ids=m.ids∧(UK m l).ph=m.ph∧(UK m l).now=m.now∧(UK m l).ends=m.ends∧(UK m l).lng=m.lng
 | [],m=>⟨rfl,rfl,rfl,rfl,rfl,rfl,rfl,rfl,rfl,rfl,rfl,rfl,rfl⟩
 |o::l,m=>Qc2 l (Qc8 m o)
theorem Jh4: ∀(L:List QX) (a:Int),(ZZ L a).length≤L.length
 | [],a=>by simp[ZZ]
 |o::t,a=>by
  unfold ZZ
  split
  ·exact Nat.le_refl _
  ·split
   ·have:=Jh4 t (a-o.qty)
    rw[List.length_cons];omega
   ·simp
theorem Jn9 (m:ZX) (L:List QX):(Qp3 m L).length≤L.length:=by
 unfold Qp3
 refine Nat.le_trans (List.length_filter_le _ _) ?_
 split
 ·exact Jh4 _ _
 ·exact Nat.le_refl _
theorem Xh5 (x:QX) (n:Int):(Qg5 x n).length≤1:=by unfold Qg5;split<;>simp
theorem Qt8 {σ:Type} (al:σ→Int→Bool) (tr:σ→Int→σ): ∀(L:List QX) (o:QX) (s:σ),(ZJ al tr L o s).rest.length≤L.length
 | [],o,s=>by simp[ZJ]
 |x::t,o,s=>by
  unfold ZJ
  split
  ·exact Nat.le_refl _
  ·split
   ·have:=Qt8 al tr t o s
    simp only[List.length_cons];omega
   ·split
    ·exact Nat.le_refl _
    ·split
     ·exact Nat.le_refl _
     ·have h1:=Qt8 al tr t (U9 o (min o.qty x.qty)) (tr s x.price)
      have h2:=Xh5 x (min o.qty x.qty);simp only[List.length_append,List.length_cons];omega
theorem Qy3 (al:Int→Int→Bool): ∀(L:List QX) (o:QX) (s:Int),(∀x∈L,1≤x.price∧x.price≤1000000)→1≤s∧s≤1000000→1≤(ZJ al (fun _ p=>p) L o s).st∧(ZJ al (fun _ p=>p) L o s).st≤1000000
 | [],o,s,_,h=>by simpa [ZJ]using h
 |x::t,o,s,hL,h=>by
  have ht: ∀y∈t,1≤y.price∧y.price≤1000000:=fun y hy=>hL y (List.mem_cons_of_mem _ hy)
  unfold ZJ
  split
  ·exact h
  ·split
   ·exact Qy3 al t o s ht h
   ·split
    ·exact h
    ·split
     ·exact h
     ·exact Qy3 al t _ _ ht (hL x List.mem_cons_self)
theorem Xq2 (L:List QX) (k:Nat):(Jk0 L k).length≤L.length:=by
 unfold Jk0
 rw[List.length_append,List.length_take,List.length_drop]
 omega
theorem Xq3 {L:List QX} {k:Nat} {o:QX} (h:o∈Jk0 L k):o∈L:=by
 unfold Jk0 at h
 rcases List.mem_append.1 h with h|h
 ·exact List.mem_of_mem_take h
 ·exact List.mem_of_mem_drop h
theorem VW.unc (h:VW m) (hl:XY (Qr1 m).L1 (Qr1 m).L2):VW (Qr1 m):=by
 have hp: ∀p,1≤p∧p≤1000000→1≤Qe9 m p∧Qe9 m p≤1000000:=fun p hp=>by
  unfold Qe9
  split
  ·rename_i hq
   have:=Ja1 h.ls h.la hq;exact⟨this.2.2.1,this.2.2.2⟩
  ·exact hp
 refine⟨h.tab,h.st,h.dy,h.tk,h.mo,hp _ h.an,hp _ h.la,hl,h.pk, ?_,h.lng⟩
 have h1:=Jn9 m m.L1
 have h2:=Jn9 m m.L2
 have:=h.cnt
 show(Qp3 m m.L1).length+ (Qp3 m m.L2).length+m.pk.length≤100
 omega
theorem VW.close (h:VW m) (hl:XY (Qg6 m).L1 (Qg6 m).L2):VW (Qg6 m):=by
 obtain⟨e1,e2,e3,e4,e5,e6,e7,e8,e9,e10,e11,e12,e13⟩:=Qc2 m.pk {m with ph:=5}
 refine⟨?_, ?_, ?_, ?_, ?_, ?_, ?_,hl,fun o ho=>(by cases ho), ?_, ?_⟩
 ·show Z4 (UK {m with ph:=5} m.pk).rows;rw[e1];exact h.tab
 ·show 0≤(UK {m with ph:=5} m.pk).st∧(UK {m with ph:=5} m.pk).st≤10000;rw[e2];exact h.st
 ·show 0≤(UK {m with ph:=5} m.pk).dy∧(UK {m with ph:=5} m.pk).dy≤10000;rw[e3];exact h.dy
 ·show 1≤(UK {m with ph:=5} m.pk).tk∧(UK {m with ph:=5} m.pk).tk≤1000000;rw[e4];exact h.tk
 ·show 0≤(UK {m with ph:=5} m.pk).mo∧(UK {m with ph:=5} m.pk).mo≤10;rw[e5];exact h.mo
 ·show 1≤(UK {m with ph:=5} m.pk).an∧(UK {m with ph:=5} m.pk).an≤1000000;rw[e6];exact h.an
 ·show 1≤(UK {m with ph:=5} m.pk).la∧(UK {m with ph:=5} m.pk).la≤1000000;rw[e7];exact h.la
 ·have h1:=Jb4 m.pk {m with ph:=5}
  have h2:=h.cnt;show(UK {m with ph:=5} m.pk).L1.length+ (UK {m with ph:=5} m.pk).L2.length+0≤100;have e:(({m with ph:=5}:ZX).L1.length+ ({m with ph:=5}:ZX).L2.length)=m.L1.length+m.L2.length:=rfl;omega
 ·show 0≤(UK {m with ph:=5} m.pk).lng∧(UK {m with ph:=5} m.pk).lng≤10;rw[e13];exact h.lng
theorem VW.setPh (h:VW m) (p:Int):VW {m with ph:=p}:=⟨h.tab,h.st,h.dy,h.tk,h.mo,h.an,h.la,h.ls,h.pk,h.cnt,h.lng⟩
theorem VW.vol (h:VW m):VW (Jg8 m):=⟨h.tab,h.st,h.dy,h.tk,h.mo,h.an,h.la,h.ls,h.pk,h.cnt,⟨by show(0:Int)≤0;omega,by show(0:Int)≤10;omega⟩⟩
theorem VW.next (h:VW m):VW (JY m):=⟨h.tab,h.st,h.dy,h.tk,h.mo,h.an,h.la,h.ls,h.pk,h.cnt,h.lng⟩
theorem VW.over (h:VW m):VW (Qu5 m):=⟨h.tab,h.st,h.dy,h.tk,h.mo,h.an,h.la,⟨List.nodup_nil,by simp[Qu5],fun o ho=>(by cases ho),fun o ho=>(by cases ho),fun o ho=>(by cases ho)⟩,fun o ho=>(by cases ho),by simp[Qu5],h.lng⟩
theorem VW.halt (h:VW m):VW (Qe1 m):=by
 unfold Qe1
 split
 ·exact h
 ·exact h.setPh 6
theorem VW.open_ (h:VW m) (hl:XY (Qa3 m).L1 (Qa3 m).L2):VW (Qa3 m):=by
 unfold Qa3 at hl⊢
 by_cases h6:m.ph=6
 ·rw[if_pos h6]at hl⊢
  by_cases h3:VJ m m.now=3
  ·rw[if_pos h3];exact h.vol
  ·rw[if_neg h3]at hl⊢
   by_cases h5:VJ m m.now=5
   ·rw[if_pos h5]at hl⊢;exact h.close hl
   ·rw[if_neg h5];exact h.setPh _
 ·rw[if_neg h6];exact h
theorem VW.enter (h:VW m) (p:Int) (hl:XY (X6 m p).L1 (X6 m p).L2):VW (X6 m p):=by
 unfold X6 at hl⊢
 by_cases h3:p=3
 ·rw[if_pos h3]at hl⊢;exact(h.unc hl).setPh 3
 ·rw[if_neg h3]at hl⊢
  by_cases h5:p=5
  ·rw[if_pos h5]at hl⊢;exact h.close hl
  ·rw[if_neg h5];exact h.setPh _
theorem VW.settle (h:VW m) (hl:XY (OV m).L1 (OV m).L2):VW (OV m):=by
 unfold OV at hl⊢
 by_cases h3:Jg9 m
 ·rw[if_pos h3]at hl⊢;exact(h.unc hl).setPh 3
 ·rw[if_neg h3]at hl⊢
  by_cases h5:m.lng<m.mo
  ·rw[if_pos h5]
   exact⟨h.tab,h.st,h.dy,h.tk,h.mo,h.an,h.la,h.ls,h.pk,h.cnt,⟨by have:=h.lng;show 0≤m.lng+1;omega,by have:=h.mo;show m.lng+1≤10;omega⟩⟩
  ·rw[if_neg h5];exact h.setPh _
theorem VW.tick (h:VW m) (hl:XY (J2 m).L1 (J2 m).L2):VW (J2 m):=by
 unfold J2 at hl⊢
 by_cases h7:m.ph=7
 ·rw[if_pos h7];exact h
 ·rw[if_neg h7]at hl⊢
  have hn:=h.next;unfold I0 at hl⊢
  by_cases e7:VJ (JY m) (JY m).now=7
  ·rw[if_pos e7]
   by_cases e5:(JY m).ph=5
   ·rw[if_pos e5]
    exact⟨h.tab,h.st,h.dy,h.tk,h.mo,by
     have: ∀p,1≤p∧p≤1000000→1≤Qe9 (JY m) p∧Qe9 (JY m) p≤1000000:=fun p hp=>by
      unfold Qe9
      split
      ·rename_i hq
       have:=Ja1 hn.ls hn.la hq;exact⟨this.2.2.1,this.2.2.2⟩
      ·exact hp
     exact this _ hn.an,by
     have: ∀p,1≤p∧p≤1000000→1≤Qe9 (JY m) p∧Qe9 (JY m) p≤1000000:=fun p hp=>by
      unfold Qe9
      split
      ·rename_i hq
       have:=Ja1 hn.ls hn.la hq;exact⟨this.2.2.1,this.2.2.2⟩
      ·exact hp
     exact this _ hn.la,⟨List.nodup_nil,by simp[Qu5],fun o ho=>(by cases ho),fun o ho=>(by cases ho),fun o ho=>(by cases ho)⟩,fun o ho=>(by cases ho),by simp[Qu5],h.lng⟩
   ·rw[if_neg e5];exact hn.over
  ·rw[if_neg e7]at hl⊢
   by_cases e6:(JY m).ph=6
   ·rw[if_pos e6];exact hn
   ·rw[if_neg e6]at hl⊢
    by_cases ew:VJ m m.now≠VJ (JY m) (JY m).now
    ·rw[if_pos ew]at hl⊢;exact hn.enter _ hl
    ·rw[if_neg ew]at hl⊢
     by_cases e4:(JY m).ph=4∧(JY m).ends≤(JY m).now
     ·rw[if_pos e4]at hl⊢;exact hn.settle hl
     ·rw[if_neg e4];exact hn
theorem VW.cancel (h:VW m) (id:Int) (hl:XY (YJ m id).L1 (YJ m id).L2):VW (YJ m id):=by
 unfold YJ at hl⊢
 by_cases h7:m.ph=7
 ·rw[if_pos h7];exact h
 ·rw[if_neg h7]at hl⊢
  by_cases hk:Ju5 m id=true
  ·rw[if_pos hk]at hl⊢
   refine⟨h.tab,h.st,h.dy,h.tk,h.mo,h.an,h.la,h.ls,fun o ho=>h.pk o (Xq3 ho), ?_,h.lng⟩;have h1:=Xq2 m.pk (m.pk.findIdx fun o=>o.id ==id);have:=h.cnt;show m.L1.length+m.L2.length+ (Jk0 m.pk (m.pk.findIdx fun o=>o.id ==id)).length≤100;omega
  ·rw[if_neg hk]at hl⊢
   refine⟨h.tab,h.st,h.dy,h.tk,h.mo,h.an,h.la,hl,h.pk, ?_,h.lng⟩;have h1:(O6 m.L1 id).length≤m.L1.length:=List.length_filter_le _ _;have h2:(O6 m.L2 id).length≤m.L2.length:=List.length_filter_le _ _;have:=h.cnt;show(O6 m.L1 id).length+ (O6 m.L2 id).length+m.pk.length≤100;omega
theorem Qy4 {o:QX} (h:V0 m o=0):Xh2 o=false∧Qq5 o=true∧Qh2 m.ph o.kind=true∧o.id∉m.ids∧m.L1.length+m.L2.length+m.pk.length<100:=by
 unfold V0 at h
 by_cases h1:Xh2 o=true
 ·rw[if_pos h1]at h;cases h
 ·rw[if_neg h1]at h
  by_cases h2:Qq5 o=false
  ·rw[if_pos h2]at h;cases h
  ·rw[if_neg h2]at h
   by_cases h3:Qh2 m.ph o.kind=false
   ·rw[if_pos h3]at h;cases h
   ·rw[if_neg h3]at h
    by_cases h4:o.id∈m.ids
    ·rw[if_pos h4]at h;cases h
    ·rw[if_neg h4]at h
     by_cases h5:100≤m.L1.length+m.L2.length+m.pk.length
     ·rw[if_pos h5]at h;cases h
     ·exact⟨by simpa using h1,by simpa using h2,by simpa using h3,h4,by omega⟩
theorem Xc6 {o:QX} (hf:Qe5 o) (hb:Xh2 o=false) (hr:Qq5 o=true):OkO (JJ o)∧VV (JJ o).side∧1≤o.kind∧o.kind≤4:=by
 have hb': ¬(o.side≠1∧o.side≠2∨o.kind<1∨4<o.kind∨o.id<1):=by
  unfold Xh2 at hb;exact of_decide_eq_false hb
 have hr':=V4.1 hr
 refine⟨⟨⟨hf.1,hf.2.1,hf.2.2.1, ?_,hf.2.2.2.2⟩,by show 1≤o.id;omega,⟨hr'.1,hr'.2.1⟩,hr'.2.2⟩, ?_,by omega,by omega⟩
 ·have:=hr'.1
  have:=hr'.2.1;unfold U1;omega
 ·show o.side=1∨o.side=2
  omega
theorem VW.order (h:VW m) {o:QX} (hf:Qe5 o) (hl:XY (IQ m o).L1 (IQ m o).L2):VW (IQ m o):=by
 unfold IQ at hl⊢
 by_cases he:V0 m o=0
 ·rw[if_pos he]at hl⊢
  obtain⟨h1,h2,h3,h4,h5⟩:=Qy4 he;obtain⟨p1,p2,p3,p4⟩:=Xc6 hf h1 h2;unfold Qe4 at hl⊢
  by_cases hp:(JJ o).kind=4∧(YX m (JJ o)).ph≠5
  ·rw[if_pos hp]
   refine⟨h.tab,h.st,h.dy,h.tk,h.mo,h.an,h.la,h.ls,fun x hx=> ?_, ?_,h.lng⟩
   ·rcases List.mem_append.1 hx with hx|hx
    ·exact h.pk x hx
    ·rw[List.mem_singleton]at hx
     subst hx;exact⟨p1,p2⟩
   ·show m.L1.length+m.L2.length+ (m.pk++ [JJ o]).length≤100
    rw[List.length_append,List.length_singleton];omega
  ·rw[if_neg hp]at hl⊢
   have hlie:=Jd2 (YX m (JJ o)) (JJ o)
   by_cases h3':(YX m (JJ o)).ph≠3
   ·rw[if_pos h3']at hl⊢
    refine⟨h.tab,h.st,h.dy,h.tk,h.mo,h.an,h.la,hl,h.pk, ?_,h.lng⟩;show(Qc8 (YX m (JJ o)) (JJ o)).L1.length+ (Qc8 (YX m (JJ o)) (JJ o)).L2.length+m.pk.length≤100;have e:(YX m (JJ o)).L1.length+ (YX m (JJ o)).L2.length=m.L1.length+m.L2.length:=rfl;omega
   ·rw[if_neg h3']at hl⊢
    obtain⟨M,hM⟩: ∃M,YX m (JJ o)=M:=⟨_,rfl⟩;have hMo:VW M:=by rw[←hM];exact⟨h.tab,h.st,h.dy,h.tk,h.mo,h.an,h.la,h.ls,h.pk,h.cnt,h.lng⟩
    have hMc:M.L1.length+M.L2.length+M.pk.length<100:=by rw[←hM];exact h5
    rw[hM]at hl⊢;clear hM h3' hp hlie;obtain⟨q,hq⟩: ∃q,JJ o=q:=⟨_,rfl⟩;rw[hq]at hl p1 p2⊢;have hside: ∀x∈XQ (3-q.side) M.L1 M.L2,1≤x.price∧x.price≤1000000:=fun x hx=>by
     have:x∈M.L1++M.L2:=by
      unfold XQ at hx
      split at hx
      ·exact List.mem_append_left _ hx
      ·exact List.mem_append_right _ hx
     exact(hMo.ls.ok x this).2.2.1
    have hla:=Qy3 (fun la p=>X3 M.st M.dy M.an la p) (XQ (3-q.side) M.L1 M.L2) q M.la hside hMo.la;have hlen:=Qt8 (fun la p=>X3 M.st M.dy M.an la p) (fun(_:Int) p=>p) (XQ (3-q.side) M.L1 M.L2) q M.la;have c1:(UW M q).L1.length+ (UW M q).L2.length≤M.L1.length+M.L2.length:=by
     show(if q.side=1 then M.L1 else(ZV M q).rest).length+ (if q.side=1 then(ZV M q).rest else M.L2).length≤_;have hlen':(ZV M q).rest.length≤(XQ (3-q.side) M.L1 M.L2).length:=hlen;unfold XQ at hlen'
     by_cases hs:q.side=1
     ·rw[if_pos hs,if_pos hs]
      rw[if_neg (by omega)]at hlen';omega
     ·rw[if_neg hs,if_neg hs]
      have hs2:q.side=2:=p2.resolve_left hs;rw[if_pos (by omega)]at hlen';omega
    have c2:(VK M q).L1.length+ (VK M q).L2.length≤M.L1.length+M.L2.length+1:=by
     unfold VK
     split
     ·have:=Jd2 (UW M q) (ZV M q).left
      omega
     ·omega
    have hk: ∀ {K:ZX},K.rows=M.rows→K.st=M.st→K.dy=M.dy→K.tk=M.tk→K.mo=M.mo→K.an=M.an→K.la=(ZV M q).st→K.pk=M.pk→0≤K.lng∧K.lng≤10→XY K.L1 K.L2→K.L1.length+K.L2.length≤M.L1.length+M.L2.length+1→VW K:=by
     intro K a1 a2 a3 a4 a5 a6 a7 a8 a9 a10 a11;refine⟨a1▸hMo.tab,a2▸hMo.st,a3▸hMo.dy,a4▸hMo.tk,a5▸hMo.mo,a6▸hMo.an,a7▸hla,a10,a8▸hMo.pk, ?_,a9⟩;rw[a8];omega
    have m2:(VK M q).rows=M.rows∧(VK M q).st=M.st∧(VK M q).dy=M.dy∧(VK M q).tk=M.tk∧(VK M q).mo=M.mo∧(VK M q).an=M.an∧(VK M q).la=(ZV M q).st∧(VK M q).pk=M.pk∧(VK M q).lng=M.lng:=by
     unfold VK
     split<;>exact⟨rfl,rfl,rfl,rfl,rfl,rfl,rfl,rfl,rfl⟩
    obtain⟨b1,b2,b3,b4,b5,b6,b7,b8,b9⟩:=m2;unfold Z1 at hl⊢
    by_cases hst:(ZV M q).stop=true
    ·rw[if_pos hst]at hl⊢
     exact hk b1 b2 b3 b4 b5 b6 b7 b8 ⟨by show(0:Int)≤0;omega,by show(0:Int)≤10;omega⟩ hl c2
    ·rw[if_neg hst]at hl⊢
     exact hk b1 b2 b3 b4 b5 b6 b7 b8 (b9▸hMo.lng) hl c2
 ·rw[if_neg he];exact h
end
theorem UY.lists {w:World} {e:Nat} {F:Nat→Prop} {m:ZX} (h:UY w e F m):XY m.L1 m.L2:=by
 obtain⟨cs,tb,bb,bk,im,T,tc,Al,lc,lv,bu,se,Ap,pc,es,mc,G,own,hM,hF⟩:=h
 exact hM.book.lists
end Go.Proofs.YtnlngicnfegjgaaGreat
