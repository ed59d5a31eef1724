/- Contracts and walks that the law's proof needs. -/
import Derived.Test.YtbmiieehkkfbgaaGreatDoorZd15
import Derived.Test.YtbmiieehkkfbgaaGreatDoorZd32
import Derived.Test.YtbmiieehkkfbgaaGreatDoorZd28
set_option linter.unusedVariables false
set_option maxRecDepth 100000
set_option maxHeartbeats 8000000
namespace Go.Proofs.YtbmiieehkkfbgaaGreatDoor
open Go.RowKit
theorem Kp3 {L1 L2:List QX} (h:ZW L1 L2) (p:Int):Qp1 p (L1++L2)=O2 1 p L1:=by
 have e1:Qp1 p (L1++L2)=Qf1 (Je1 p) (L1++L2):=by unfold Qp1;rw[Jw9];omega
 have e3:Qf1 (Je1 p) L2=0:=Xf2 fun o ho=>by unfold Je1;rw[if_neg (by have:=h.s2 o ho;omega)]
 have e4:Qf1 (Je1 p) L1=O2 1 p L1:=Jx0 fun o ho=>by
  have:=h.s1 o ho;unfold Je1 Qk3
  by_cases hk:o.kind=2<;>by_cases hp:p≤o.price<;>simp[this,hk,hp]
 rw[e1,Qy3,e3,e4]
 omega
theorem Kp4 {L1 L2:List QX} (h:ZW L1 L2) (p:Int):Qp2 p (L1++L2)=O2 2 p L2:=by
 have e1:Qp2 p (L1++L2)=Qf1 (Je2 p) (L1++L2):=by unfold Qp2;rw[Jw9];omega
 have e3:Qf1 (Je2 p) L1=0:=Xf2 fun o ho=>by unfold Je2;rw[if_neg (by have:=h.s1 o ho;omega)]
 have e4:Qf1 (Je2 p) L2=O2 2 p L2:=Jx0 fun o ho=>by
  have:=h.s2 o ho;unfold Je2 Qk3
  by_cases hk:o.kind=2<;>by_cases hp:o.price≤p<;>simp[this,hk,hp]
 rw[e1,Qy3,e3,e4]
 omega
theorem Xv1 {L1 L2:List QX} (h:ZW L1 L2):Jc2 (L1++L2):=fun o ho=>by
 have h1:=J8 h o ho
 unfold okO
 rw[J0 h1.2.1.1,J0 h1.2.1.2]
 rcases h1.1 with e|e
 ·rw[e];rfl
 ·rw[e];rfl
theorem Jq3 {L1 L2:List QX} (h:ZW L1 L2) {more:Int} (hm:1≤more∧more≤1000000): ∀y∈Z5 (L1++L2) more,1≤y.1∧y.1≤1000000:=by
 intro y hy
 obtain⟨q,hq,rfl⟩:=List.mem_map.1 hy
 have hq:=(Xy2 _ _).1 hq
 show 1≤q∧q≤1000000
 unfold V5 at hq
 rcases List.mem_append.1 hq with hq|hq
 ·rw[if_pos hm.1]at hq
  simp at hq;omega
 ·obtain⟨o,ho,rfl⟩:=List.mem_map.1 hq
  have h1:=(List.mem_filter.1 (List.mem_filter.1 ho).1).1;exact(h.ok o h1).2.2.1
theorem Qs3 {m:VQ} (h:ZW m.L1 m.L2) (hla:1≤m.la∧m.la≤1000000) (hq:0< (YX m).2.1):
  (YX m).2.1≤O2 1 (YX m).1 m.L1∧(YX m).2.1≤O2 2 (YX m).1 m.L2∧1≤(YX m).1∧(YX m).1≤1000000:=by
 have hb:=(Km2 (Xv1 h) hla.1 m.la).2 hq
 have h1:=hb.1
 rw[Kp3 h,Kp4 h]at h1
 have h2:(YX m).2.1=min (O2 1 (YX m).1 m.L1) (O2 2 (YX m).1 m.L2):=h1
 refine⟨by omega,by omega, ?_⟩
 rcases choose_spec (Z5 (Qa4 m) m.la) m.la with⟨e,-⟩|⟨y,hy,e,-,-⟩
 ·have:(YX m).2.1=0:=by unfold YX;rw[e]
  omega
 ·have e2:(YX m).1=y.1:=by unfold YX;rw[e]
  rw[e2];exact Jq3 h hla y hy
def Qa9 (L:List QX):List QX:=L.filter fun o=>o.kind ==1
theorem Qq0 {L:List QX} {o:QX} (h:o.kind=1):Qa9 (L++ [o])=Qa9 L++ [o]:=by unfold Qa9;rw[List.filter_append,List.filter_cons_of_pos (by simp[h])];rfl
theorem Qu9 {L:List QX} {o:QX} (h:o.kind≠1):Qa9 (L++ [o])=Qa9 L:=by unfold Qa9;rw[List.filter_append,List.filter_cons_of_neg (by simpa using h)];simp
theorem Qy9 {L:List QX} {o:QX} (h:o∈Qa9 L):o∈L:=(List.mem_filter.1 h).1
def Qz0 (l:List QX) (k:Nat):List QX:=Qa9 (l.take k)++l.drop k
theorem Xg5 (l:List QX):Qz0 l 0=l:=by unfold Qz0;rw[List.take_zero,List.drop_zero];rfl
theorem Xv2 {l:List QX} {k:Nat} (h:l.length≤k):Qz0 l k=Qa9 l:=by unfold Qz0;rw[List.take_of_length_le h,List.drop_eq_nil_of_le h,List.append_nil]
theorem Xv3 {l:List QX} {k:Nat} (hk:k<l.length) (h:l[k].kind=1):Qz0 l (k+1)=Qz0 l k:=by
 unfold Qz0
 rw[List.take_succ_eq_append_getElem hk,Qq0 h,List.drop_eq_getElem_cons hk]
 simp
theorem Ki8 {l:List QX} {k:Nat} (hk:k<l.length) (h:l[k].kind≠1) (hn:(l.map (·.id)).Nodup):O0 (Qz0 l k) l[k].id=Qz0 l (k+1)∧l[k]∈Qz0 l k:=by
 have hd:=List.drop_eq_getElem_cons hk
 have e:l=l.take k++l[k]::l.drop (k+1):=by rw[←hd,List.take_append_drop]
 have hn2:((l.take k++l[k]::l.drop (k+1)).map (·.id)).Nodup:=by rw[←e];exact hn
 rw[List.map_append,List.map_cons,List.nodup_append,List.nodup_cons]at hn2
 refine⟨?_,List.mem_append_right _ (by rw[hd];exact List.mem_cons_self)⟩
 unfold Qz0
 rw[List.take_succ_eq_append_getElem hk,Qu9 h,hd]
 unfold O0
 rw[List.filter_append,List.filter_cons_of_neg (by simp),List.filter_eq_self.2 (fun y hy=> ?_),List.filter_eq_self.2 (fun y hy=> ?_)]
 ·have:y.id≠l[k].id:=fun e2=>hn2.2.1.1 (by rw[←e2];exact List.mem_map.2 ⟨y,hy,rfl⟩)
  simpa using this
 ·have:=hn2.2.2 _ (List.mem_map.2 ⟨y,Qy9 hy,rfl⟩) _ (List.mem_cons_self)
  simpa using this
section
variable {m:VQ}
theorem Jf5 (m:VQ) (o:QX):(Qf3 m o).L1.length+ (Qf3 m o).L2.length≤m.L1.length+m.L2.length+1:=by
 show(Jx4 1 m.L1 m.L2 m.L1 o).length+ (Jx4 2 m.L1 m.L2 m.L2 o).length≤_
 unfold Jx4 Qd4
 split
 ·by_cases h1:o.side=1
  ·rw[if_pos h1,if_neg (by omega),Jo2];omega
  ·rw[if_neg h1]
   split
   ·rw[Jo2];omega
   ·omega
 ·omega
theorem Jd3: ∀(l:List QX) (m:VQ),(UY m l).L1.length+ (UY m l).L2.length≤m.L1.length+m.L2.length+l.length
 | [],m=>by simp[UY]
 |o::l,m=>by
  have h1:=Jd3 l (Qf3 m o);have h2:=Jf5 m o;have e:UY m (o::l)=UY (Qf3 m o) l:=rfl;rw[e,List.length_cons];omega
theorem O8: ∀(l:List QX) (m:VQ),(UY m l).rows=m.rows∧(UY m l).st=m.st∧(UY m l).dy=m.dy∧(UY m l).tk=m.tk∧(UY m l).mo=m.mo∧(UY m l).an=m.an∧(UY m l).la=m.la∧(UY m l).pk=m.pk∧(UY m l).ids=m.ids∧(UY m l).ph=m.ph∧(UY m l).now=m.now∧(UY m l).ends=m.ends∧(UY m l).lng=m.lng
 | [],m=>⟨rfl,rfl,rfl,rfl,rfl,rfl,rfl,rfl,rfl,rfl,rfl,rfl,rfl⟩
 |o::l,m=>O8 l (Qf3 m o)
theorem Jj3: ∀(L:List QX) (a:Int),(VY L a).length≤L.length
 | [],a=>by simp[VY]
 |o::t,a=>by
  unfold VY
  split
  ·exact Nat.le_refl _
  ·split
   ·have:=Jj3 t (a-o.qty)
    rw[List.length_cons];omega
   ·simp
theorem Jq4 (m:VQ) (L:List QX):(Xc1 m L).length≤L.length:=by
 unfold Xc1
 refine Nat.le_trans (List.length_filter_le _ _) ?_
 split
 ·exact Jj3 _ _
 ·exact Nat.le_refl _
theorem Xl9 (x:QX) (n:Int):(Qr9 x n).length≤1:=by unfold Qr9;split<;>simp
theorem Qv0 {σ:Type} (al:σ→Int→Bool) (tr:σ→Int→σ): ∀(L:List QX) (o:QX) (s:σ),(VX al tr L o s).rest.length≤L.length
 | [],o,s=>by simp[VX]
 |x::t,o,s=>by
  unfold VX
  split
  ·exact Nat.le_refl _
  ·split
   ·have:=Qv0 al tr t o s
    simp only[List.length_cons];omega
   ·split
    ·exact Nat.le_refl _
    ·split
     ·exact Nat.le_refl _
     ·have h1:=Qv0 al tr t (I9 o (min o.qty x.qty)) (tr s x.price)
      have h2:=Xl9 x (min o.qty x.qty);simp only[List.length_append,List.length_cons];omega
theorem Qz1 (al:Int→Int→Bool): ∀(L:List QX) (o:QX) (s:Int),(∀x∈L,1≤x.price∧x.price≤1000000)→1≤s∧s≤1000000→1≤(VX al (fun _ p=>p) L o s).st∧(VX al (fun _ p=>p) L o s).st≤1000000
 | [],o,s,_,h=>by simpa [VX]using h
 |x::t,o,s,hL,h=>by
  have ht: ∀y∈t,1≤y.price∧y.price≤1000000:=fun y hy=>hL y (List.mem_cons_of_mem _ hy)
  unfold VX
  split
  ·exact h
  ·split
   ·exact Qz1 al t o s ht h
   ·split
    ·exact h
    ·split
     ·exact h
     ·exact Qz1 al t _ _ ht (hL x List.mem_cons_self)
theorem Xv4 (L:List QX) (k:Nat):(Jl8 L k).length≤L.length:=by
 unfold Jl8
 rw[List.length_append,List.length_take,List.length_drop]
 omega
theorem Xv5 {L:List QX} {k:Nat} {o:QX} (h:o∈Jl8 L k):o∈L:=by
 unfold Jl8 at h
 rcases List.mem_append.1 h with h|h
 ·exact List.mem_of_mem_take h
 ·exact List.mem_of_mem_drop h
theorem YJ.unc (h:YJ m) (hl:ZW (Qw3 m).L1 (Qw3 m).L2):YJ (Qw3 m):=by
 have hp: ∀p,1≤p∧p≤1000000→1≤Qe2 m p∧Qe2 m p≤1000000:=fun p hp=>by
  unfold Qe2
  split
  ·rename_i hq
   have:=Qs3 h.ls h.la hq;exact⟨this.2.2.1,this.2.2.2⟩
  ·exact hp
 refine⟨h.tab,h.st,h.dy,h.tk,h.mo,hp _ h.an,hp _ h.la,hl,h.pk, ?_,h.lng⟩
 have h1:=Jq4 m m.L1
 have h2:=Jq4 m m.L2
 have:=h.cnt
 show(Xc1 m m.L1).length+ (Xc1 m m.L2).length+m.pk.length≤100
 omega
theorem YJ.close (h:YJ m) (hl:ZW (Qc4 m).L1 (Qc4 m).L2):YJ (Qc4 m):=by
 obtain⟨e1,e2,e3,e4,e5,e6,e7,e8,e9,e10,e11,e12,e13⟩:=O8 m.pk {m with ph:=5}
 refine⟨?_, ?_, ?_, ?_, ?_, ?_, ?_,hl,fun o ho=>(by cases ho), ?_, ?_⟩
 ·show U6 (UY {m with ph:=5} m.pk).rows;rw[e1];exact h.tab
 ·show 0≤(UY {m with ph:=5} m.pk).st∧(UY {m with ph:=5} m.pk).st≤10000;rw[e2];exact h.st
 ·show 0≤(UY {m with ph:=5} m.pk).dy∧(UY {m with ph:=5} m.pk).dy≤10000;rw[e3];exact h.dy
 ·show 1≤(UY {m with ph:=5} m.pk).tk∧(UY {m with ph:=5} m.pk).tk≤1000000;rw[e4];exact h.tk
 ·show 0≤(UY {m with ph:=5} m.pk).mo∧(UY {m with ph:=5} m.pk).mo≤10;rw[e5];exact h.mo
 ·show 1≤(UY {m with ph:=5} m.pk).an∧(UY {m with ph:=5} m.pk).an≤1000000;rw[e6];exact h.an
 ·show 1≤(UY {m with ph:=5} m.pk).la∧(UY {m with ph:=5} m.pk).la≤1000000;rw[e7];exact h.la
 ·have h1:=Jd3 m.pk {m with ph:=5}
  have h2:=h.cnt;show(UY {m with ph:=5} m.pk).L1.length+ (UY {m with ph:=5} m.pk).L2.length+0≤100;have e:(({m with ph:=5}:VQ).L1.length+ ({m with ph:=5}:VQ).L2.length)=m.L1.length+m.L2.length:=rfl;omega
 ·show 0≤(UY {m with ph:=5} m.pk).lng∧(UY {m with ph:=5} m.pk).lng≤10;rw[e13];exact h.lng
theorem YJ.setPh (h:YJ m) (p:Int):YJ {m with ph:=p}:=⟨h.tab,h.st,h.dy,h.tk,h.mo,h.an,h.la,h.ls,h.pk,h.cnt,h.lng⟩
theorem YJ.vol (h:YJ m):YJ (Jj0 m):=⟨h.tab,h.st,h.dy,h.tk,h.mo,h.an,h.la,h.ls,h.pk,h.cnt,⟨by show(0:Int)≤0;omega,by show(0:Int)≤10;omega⟩⟩
theorem YJ.next (h:YJ m):YJ (XX m):=⟨h.tab,h.st,h.dy,h.tk,h.mo,h.an,h.la,h.ls,h.pk,h.cnt,h.lng⟩
theorem YJ.over (h:YJ m):YJ (Qv7 m):=⟨h.tab,h.st,h.dy,h.tk,h.mo,h.an,h.la,⟨List.nodup_nil,by simp[Qv7],fun o ho=>(by cases ho),fun o ho=>(by cases ho),fun o ho=>(by cases ho)⟩,fun o ho=>(by cases ho),by simp[Qv7],h.lng⟩
theorem YJ.halt (h:YJ m):YJ (Qf0 m):=by
 unfold Qf0
 split
 ·exact h
 ·exact h.setPh 6
theorem YJ.open_ (h:YJ m) (hl:ZW (Y4 m).L1 (Y4 m).L2):YJ (Y4 m):=by
 unfold Y4 at hl⊢
 by_cases h6:m.ph=6
 ·rw[if_pos h6]at hl⊢
  by_cases h3:UV m m.now=3
  ·rw[if_pos h3];exact h.vol
  ·rw[if_neg h3]at hl⊢
   by_cases h5:UV m m.now=5
   ·rw[if_pos h5]at hl⊢;exact h.close hl
   ·rw[if_neg h5];exact h.setPh _
 ·rw[if_neg h6];exact h
theorem YJ.enter (h:YJ m) (p:Int) (hl:ZW (O3 m p).L1 (O3 m p).L2):YJ (O3 m p):=by
 unfold O3 at hl⊢
 by_cases h3:p=3
 ·rw[if_pos h3]at hl⊢;exact(h.unc hl).setPh 3
 ·rw[if_neg h3]at hl⊢
  by_cases h5:p=5
  ·rw[if_pos h5]at hl⊢;exact h.close hl
  ·rw[if_neg h5];exact h.setPh _
theorem YJ.settle (h:YJ m) (hl:ZW (J5 m).L1 (J5 m).L2):YJ (J5 m):=by
 unfold J5 at hl⊢
 by_cases h3:Jq1 m
 ·rw[if_pos h3]at hl⊢;exact(h.unc hl).setPh 3
 ·rw[if_neg h3]at hl⊢
  by_cases h5:m.lng<m.mo
  ·rw[if_pos h5]
   exact⟨h.tab,h.st,h.dy,h.tk,h.mo,h.an,h.la,h.ls,h.pk,h.cnt,⟨by have:=h.lng;show 0≤m.lng+1;omega,by have:=h.mo;show m.lng+1≤10;omega⟩⟩
  ·rw[if_neg h5];exact h.setPh _
theorem YJ.tick (h:YJ m) (hl:ZW (J6 m).L1 (J6 m).L2):YJ (J6 m):=by
 unfold J6 at hl⊢
 by_cases h7:m.ph=7
 ·rw[if_pos h7];exact h
 ·rw[if_neg h7]at hl⊢
  have hn:=h.next;unfold O4 at hl⊢
  by_cases e7:UV (XX m) (XX m).now=7
  ·rw[if_pos e7]
   by_cases e5:(XX m).ph=5
   ·rw[if_pos e5]
    exact⟨h.tab,h.st,h.dy,h.tk,h.mo,by
     have: ∀p,1≤p∧p≤1000000→1≤Qe2 (XX m) p∧Qe2 (XX m) p≤1000000:=fun p hp=>by
      unfold Qe2
      split
      ·rename_i hq
       have:=Qs3 hn.ls hn.la hq;exact⟨this.2.2.1,this.2.2.2⟩
      ·exact hp
     exact this _ hn.an,by
     have: ∀p,1≤p∧p≤1000000→1≤Qe2 (XX m) p∧Qe2 (XX m) p≤1000000:=fun p hp=>by
      unfold Qe2
      split
      ·rename_i hq
       have:=Qs3 hn.ls hn.la hq;exact⟨this.2.2.1,this.2.2.2⟩
      ·exact hp
     exact this _ hn.la,⟨List.nodup_nil,by simp[Qv7],fun o ho=>(by cases ho),fun o ho=>(by cases ho),fun o ho=>(by cases ho)⟩,fun o ho=>(by cases ho),by simp[Qv7],h.lng⟩
   ·rw[if_neg e5];exact hn.over
  ·rw[if_neg e7]at hl⊢
   by_cases e6:(XX m).ph=6
   ·rw[if_pos e6];exact hn
   ·rw[if_neg e6]at hl⊢
    by_cases ew:UV m m.now≠UV (XX m) (XX m).now
    ·rw[if_pos ew]at hl⊢;exact hn.enter _ hl
    ·rw[if_neg ew]at hl⊢
     by_cases e4:(XX m).ph=4∧(XX m).ends≤(XX m).now
     ·rw[if_pos e4]at hl⊢;exact hn.settle hl
     ·rw[if_neg e4];exact hn
theorem YJ.cancel (h:YJ m) (id:Int) (hl:ZW (UW m id).L1 (UW m id).L2):YJ (UW m id):=by
 unfold UW at hl⊢
 by_cases h7:m.ph=7
 ·rw[if_pos h7];exact h
 ·rw[if_neg h7]at hl⊢
  by_cases hk:Jy0 m id=true
  ·rw[if_pos hk]at hl⊢
   refine⟨h.tab,h.st,h.dy,h.tk,h.mo,h.an,h.la,h.ls,fun o ho=>h.pk o (Xv5 ho), ?_,h.lng⟩;have h1:=Xv4 m.pk (m.pk.findIdx fun o=>o.id ==id);have:=h.cnt;show m.L1.length+m.L2.length+ (Jl8 m.pk (m.pk.findIdx fun o=>o.id ==id)).length≤100;omega
  ·rw[if_neg hk]at hl⊢
   refine⟨h.tab,h.st,h.dy,h.tk,h.mo,h.an,h.la,hl,h.pk, ?_,h.lng⟩;have h1:(O0 m.L1 id).length≤m.L1.length:=List.length_filter_le _ _;have h2:(O0 m.L2 id).length≤m.L2.length:=List.length_filter_le _ _;have:=h.cnt;show(O0 m.L1 id).length+ (O0 m.L2 id).length+m.pk.length≤100;omega
theorem Qz2 {o:QX} (h:IK m o=0):Xl4 o=false∧Qr3 o=true∧Qj7 m.ph o.kind=true∧o.id∉m.ids∧m.L1.length+m.L2.length+m.pk.length<100:=by
 unfold IK at h
 by_cases h1:Xl4 o=true
 ·rw[if_pos h1]at h;cases h
 ·rw[if_neg h1]at h
  by_cases h2:Qr3 o=false
  ·rw[if_pos h2]at h;cases h
  ·rw[if_neg h2]at h
   by_cases h3:Qj7 m.ph o.kind=false
   ·rw[if_pos h3]at h;cases h
   ·rw[if_neg h3]at h
    by_cases h4:o.id∈m.ids
    ·rw[if_pos h4]at h;cases h
    ·rw[if_neg h4]at h
     by_cases h5:100≤m.L1.length+m.L2.length+m.pk.length
     ·rw[if_pos h5]at h;cases h
     ·exact⟨by simpa using h1,by simpa using h2,by simpa using h3,h4,by omega⟩
theorem Xg6 {o:QX} (hf:Qf4 o) (hb:Xl4 o=false) (hr:Qr3 o=true):OkO (JJ o)∧UQ (JJ o).side∧1≤o.kind∧o.kind≤4:=by
 have hb': ¬(o.side≠1∧o.side≠2∨o.kind<1∨4<o.kind∨o.id<1):=by
  unfold Xl4 at hb;exact of_decide_eq_false hb
 have hr':=V3.1 hr
 refine⟨⟨⟨hf.1,hf.2.1,hf.2.2.1, ?_,hf.2.2.2.2⟩,by show 1≤o.id;omega,⟨hr'.1,hr'.2.1⟩,hr'.2.2⟩, ?_,by omega,by omega⟩
 ·have:=hr'.1
  have:=hr'.2.1;unfold KZ;omega
 ·show o.side=1∨o.side=2
  omega
theorem YJ.order (h:YJ m) {o:QX} (hf:Qf4 o) (hl:ZW (IZ m o).L1 (IZ m o).L2):YJ (IZ m o):=by
 unfold IZ at hl⊢
 by_cases he:IK m o=0
 ·rw[if_pos he]at hl⊢
  obtain⟨h1,h2,h3,h4,h5⟩:=Qz2 he;obtain⟨p1,p2,p3,p4⟩:=Xg6 hf h1 h2;unfold Qh6 at hl⊢
  by_cases hp:(JJ o).kind=4∧(OK m (JJ o)).ph≠5
  ·rw[if_pos hp]
   refine⟨h.tab,h.st,h.dy,h.tk,h.mo,h.an,h.la,h.ls,fun x hx=> ?_, ?_,h.lng⟩
   ·rcases List.mem_append.1 hx with hx|hx
    ·exact h.pk x hx
    ·rw[List.mem_singleton]at hx
     subst hx;exact⟨p1,p2⟩
   ·show m.L1.length+m.L2.length+ (m.pk++ [JJ o]).length≤100
    rw[List.length_append,List.length_singleton];omega
  ·rw[if_neg hp]at hl⊢
   have hlie:=Jf5 (OK m (JJ o)) (JJ o)
   by_cases h3':(OK m (JJ o)).ph≠3
   ·rw[if_pos h3']at hl⊢
    refine⟨h.tab,h.st,h.dy,h.tk,h.mo,h.an,h.la,hl,h.pk, ?_,h.lng⟩;show(Qf3 (OK m (JJ o)) (JJ o)).L1.length+ (Qf3 (OK m (JJ o)) (JJ o)).L2.length+m.pk.length≤100;have e:(OK m (JJ o)).L1.length+ (OK m (JJ o)).L2.length=m.L1.length+m.L2.length:=rfl;omega
   ·rw[if_neg h3']at hl⊢
    obtain⟨M,hM⟩: ∃M,OK m (JJ o)=M:=⟨_,rfl⟩;have hMo:YJ M:=by rw[←hM];exact⟨h.tab,h.st,h.dy,h.tk,h.mo,h.an,h.la,h.ls,h.pk,h.cnt,h.lng⟩
    have hMc:M.L1.length+M.L2.length+M.pk.length<100:=by rw[←hM];exact h5
    rw[hM]at hl⊢;clear hM h3' hp hlie;obtain⟨q,hq⟩: ∃q,JJ o=q:=⟨_,rfl⟩;rw[hq]at hl p1 p2⊢;have hside: ∀x∈JY (3-q.side) M.L1 M.L2,1≤x.price∧x.price≤1000000:=fun x hx=>by
     have:x∈M.L1++M.L2:=by
      unfold JY at hx
      split at hx
      ·exact List.mem_append_left _ hx
      ·exact List.mem_append_right _ hx
     exact(hMo.ls.ok x this).2.2.1
    have hla:=Qz1 (fun la p=>I5 M.st M.dy M.an la p) (JY (3-q.side) M.L1 M.L2) q M.la hside hMo.la;have hlen:=Qv0 (fun la p=>I5 M.st M.dy M.an la p) (fun(_:Int) p=>p) (JY (3-q.side) M.L1 M.L2) q M.la;have c1:(Qa5 M q).L1.length+ (Qa5 M q).L2.length≤M.L1.length+M.L2.length:=by
     show(if q.side=1 then M.L1 else(Q6 M q).rest).length+ (if q.side=1 then(Q6 M q).rest else M.L2).length≤_;have hlen':(Q6 M q).rest.length≤(JY (3-q.side) M.L1 M.L2).length:=hlen;unfold JY at hlen'
     by_cases hs:q.side=1
     ·rw[if_pos hs,if_pos hs]
      rw[if_neg (by omega)]at hlen';omega
     ·rw[if_neg hs,if_neg hs]
      have hs2:q.side=2:=p2.resolve_left hs;rw[if_pos (by omega)]at hlen';omega
    have c2:(UK M q).L1.length+ (UK M q).L2.length≤M.L1.length+M.L2.length+1:=by
     unfold UK
     split
     ·have:=Jf5 (Qa5 M q) (Q6 M q).left
      omega
     ·omega
    have hk: ∀ {K:VQ},K.rows=M.rows→K.st=M.st→K.dy=M.dy→K.tk=M.tk→K.mo=M.mo→K.an=M.an→K.la=(Q6 M q).st→K.pk=M.pk→0≤K.lng∧K.lng≤10→ZW K.L1 K.L2→K.L1.length+K.L2.length≤M.L1.length+M.L2.length+1→YJ K:=by
     intro K a1 a2 a3 a4 a5 a6 a7 a8 a9 a10 a11;refine⟨a1▸hMo.tab,a2▸hMo.st,a3▸hMo.dy,a4▸hMo.tk,a5▸hMo.mo,a6▸hMo.an,a7▸hla,a10,a8▸hMo.pk, ?_,a9⟩;rw[a8];omega
    have m2:(UK M q).rows=M.rows∧(UK M q).st=M.st∧(UK M q).dy=M.dy∧(UK M q).tk=M.tk∧(UK M q).mo=M.mo∧(UK M q).an=M.an∧(UK M q).la=(Q6 M q).st∧(UK M q).pk=M.pk∧(UK M q).lng=M.lng:=by
     unfold UK
     split<;>exact⟨rfl,rfl,rfl,rfl,rfl,rfl,rfl,rfl,rfl⟩
    obtain⟨b1,b2,b3,b4,b5,b6,b7,b8,b9⟩:=m2;unfold Z8 at hl⊢
    by_cases hst:(Q6 M q).stop=true
    ·rw[if_pos hst]at hl⊢
     exact hk b1 b2 b3 b4 b5 b6 b7 b8 ⟨by show(0:Int)≤0;omega,by show(0:Int)≤10;omega⟩ hl c2
    ·rw[if_neg hst]at hl⊢
     exact hk b1 b2 b3 b4 b5 b6 b7 b8 (b9▸hMo.lng) hl c2
 ·rw[if_neg he];exact h
end
theorem YQ.lists {w:World} {e:Nat} {F:Nat→Prop} {m:VQ} (h:YQ w e F m):ZW m.L1 m.L2:=by
 obtain⟨cs,tb,bb,bk,im,T,tc,Al,lc,lv,bu,se,Ap,pc,es,mc,G,own,hM,hF⟩:=h
 exact hM.book.lists
end Go.Proofs.YtbmiieehkkfbgaaGreatDoor
