/- Contracts and walks that the law's proof needs. -/
import Derived.Test.YtnlngicnfegjgaaGreatZf21
set_option linter.unusedVariables false
set_option maxRecDepth 100000
set_option maxHeartbeats 8000000
namespace Go.Proofs.YtnlngicnfegjgaaGreat
open Go.RowKit
theorem Kn9 {l l':List Int} (h:l.Perm l'):l.sum=l'.sum:=by
 induction h with
 |nil=>rfl
 |cons x _ ih=>rw[List.sum_cons,List.sum_cons,ih]
 |swap x y l=>simp only[List.sum_cons];omega
 |trans _ _ h1 h2=>exact h1.trans h2
def Q2 (s:Int) (k:Option Int) (l:List QX):Int:=(l.map fun o=>if o.side=s∧Qa2 o=k then o.qty else 0).sum
theorem Qc4 (s:Int) (k:Option Int) (o:QX) (l:List QX):Q2 s k (o::l)=(if o.side=s∧Qa2 o=k then o.qty else 0)+Q2 s k l:=by unfold Q2;rw[List.map_cons,List.sum_cons]
theorem Y0 (s:Int) (k:Option Int) (l l':List QX):Q2 s k (l++l')=Q2 s k l+Q2 s k l':=by unfold Q2;rw[List.map_append,List.sum_append]
theorem Xa4 {s:Int} {k:Option Int} {l l':List QX} (h:l.Perm l'):Q2 s k l=Q2 s k l':=Kn9 (h.map _)
theorem Qh6 {s:Int} {k:Option Int} {l:List QX} (h: ∀o∈l,Qb8 o):0≤Q2 s k l∧Q2 s k l≤1000000*l.length:=by
 induction l with
 |nil=>exact⟨Int.le_refl _,Int.le_refl _⟩
 |cons o t ih=>
  rw[Qc4,List.length_cons];have h1:=ih (fun x hx=>h x (by simp[hx]));have h2:=(h o (by simp)).2.1
  split<;>omega
theorem Ko0 {s:Int} {k:Option Int} {l:List QX} (h:Q2 s k l≠0): ∃o∈l,o.side=s∧Qa2 o=k:=by
 induction l with
 |nil=>exact absurd rfl h
 |cons o t ih=>
  rw[Qc4]at h
  by_cases e:o.side=s∧Qa2 o=k
  ·exact⟨o,by simp,e⟩
  ·rw[if_neg e]at h
   obtain⟨x,hx,hx2⟩:=ih (by omega);exact⟨x,by simp[hx],hx2⟩
theorem Ko1 {l:List QX} (h: ∀o∈l,Qb8 o) {o:QX} (ho:o∈l):o.qty≤Q2 o.side (Qa2 o) l:=by
 obtain⟨a,b,rfl⟩:=List.append_of_mem ho
 rw[Y0,Qc4,if_pos ⟨rfl,rfl⟩]
 have h1:=Qh6 (s:=o.side) (k:=Qa2 o) (l:=a) (fun x hx=>h x (by simp[hx]))
 have h2:=Qh6 (s:=o.side) (k:=Qa2 o) (l:=b) (fun x hx=>h x (by simp[hx]))
 omega
def Qe0 (lv:List XJ) (bu se:Int) (g:Int→Option Int→Int):Prop:= ∀s,(s=1∨s=2)→ ∀k,Jj3 s (Qn9 lv bu se k)=g s k
theorem Qe0.has {lv:List XJ} {bu se:Int} {g:Int→Option Int→Int} (h:Qe0 lv bu se g) {o:QX} (ho:o.side=1∨o.side=2):Qw8 lv bu se o=g o.side (Qa2 o):=by
 rw[←h o.side ho (Qa2 o)]
 rfl
theorem Qe0.chg {lv lv':List XJ} {bu se bu' se':Int} {g:Int→Option Int→Int} (h:Qe0 lv bu se g) {o:QX} (ho:o.side=1∨o.side=2) {q:Int} (hc:Qz7 lv bu se o q lv' bu' se'):
  Qe0 lv' bu' se' (fun s k=>g s k+if o.side=s∧Qa2 o=k then q*o.qty else 0):=by
 intro s hs k
 show Jj3 s (Qn9 lv' bu' se' k)=g s k+if o.side=s∧Qa2 o=k then q*o.qty else 0
 rw[hc.2 k]
 by_cases e:k=Qa2 o
 ·rw[if_pos e]
  have h1:=h s hs k;unfold Jj3 at h1⊢;unfold dB dS;rcases hs with rfl|rfl
  ·rw[if_pos rfl]at h1⊢
   dsimp only at h1⊢;rw[h1];rcases ho with h2|h2
   ·rw[if_pos h2,if_pos ⟨h2,e.symm⟩]
   ·rw[if_neg (by omega),if_neg (by omega)];omega
  ·rw[if_neg (by decide)]at h1⊢
   dsimp only at h1⊢;rw[h1];rcases ho with h2|h2
   ·rw[if_pos h2,if_neg (by omega)];omega
   ·rw[if_neg (by omega),if_pos ⟨h2,e.symm⟩]
 ·rw[if_neg e,if_neg (fun x=>e x.2.symm),h s hs k]
  simp
theorem Qe0.congr {lv:List XJ} {bu se:Int} {g g':Int→Option Int→Int} (h:Qe0 lv bu se g) (e: ∀s k,(s=1∨s=2)→g s k=g' s k):Qe0 lv bu se g':=fun s hs k=>(h s hs k).trans (e s k hs)
theorem Xa5:Qe0 [] 0 0 (fun s k=>Q2 s k []):=by
 intro s hs k
 have e:Qn9 [] 0 0 k=(0,0):=by cases k<;>rfl
 rw[e]
 unfold Jj3 Q2
 split<;>rfl
theorem Xo0:Ja2 []:=⟨List.Pairwise.nil,fun x h=>(by cases h),fun x h=>(by cases h)⟩
theorem Xa6 {α:Type} [DecidableEq α]: ∀ {l l':List α},l.Nodup→(∀x∈l,x∈l')→l.length≤l'.length
 | [],_,_,_=>Nat.zero_le _
 |a::t,l',h,hs=>by
  obtain⟨h1,h2⟩:=List.nodup_cons.1 h;have ha:=hs a (by simp);have h3:=Xa6 (l':=l'.erase a) h2 (fun x hx=>(List.mem_erase_of_ne (fun e=>h1 (by rw[←e];exact hx))).2 (hs x (by simp[hx])));rw[List.length_erase_of_mem ha]at h3;have:=List.length_pos_of_mem ha;rw[List.length_cons];omega
theorem Qe0.few {lv:List XJ} {bu se:Int} {l:List QX} (hk:Ja2 lv) (h:Qe0 lv bu se (fun s k=>Q2 s k l)):lv.length≤l.length:=by
 have hnd:(lv.map (·.1)).Nodup:=by
  unfold List.Nodup;rw[List.pairwise_map];exact List.Pairwise.imp (fun h=>by omega) hk.rank
 have hsub: ∀p∈lv.map (·.1),p∈l.map (·.price):=by
  intro p hp;obtain⟨x,hx,rfl⟩:=List.mem_map.1 hp;have hz:=(hk.nz x hx).2.2;have hl:=Qk6 hk.rank hx;have key: ∃s,Q2 s (some x.1) l≠0:=by
   rcases hz with h1|h1
   ·refine⟨1,fun e=>h1 ?_⟩
    have:=h 1 (.inl rfl) (some x.1);dsimp only at this;rw[e]at this;unfold Jj3 at this;rw[if_pos rfl,show Qn9 lv bu se (some x.1)=YV lv x.1 from rfl,hl]at this;exact this
   ·refine⟨2,fun e=>h1 ?_⟩
    have:=h 2 (.inr rfl) (some x.1);dsimp only at this;rw[e]at this;unfold Jj3 at this;rw[if_neg (by decide),show Qn9 lv bu se (some x.1)=YV lv x.1 from rfl,hl]at this;exact this
  obtain⟨s,hs⟩:=key;obtain⟨o,ho,-,hk2⟩:=Ko0 hs;unfold Qa2 at hk2
  split at hk2
  ·cases hk2
  ·exact List.mem_map.2 ⟨o,ho,Option.some.inj hk2⟩
 have:=Xa6 hnd hsub
 simpa using this
theorem Qe0.mild {lv:List XJ} {bu se:Int} {g:Int→Option Int→Int} (hk:Ja2 lv) (h:Qe0 lv bu se g) (hb: ∀s k,0≤g s k∧g s k≤1000000000) (hn:lv.length≤99999):Jc3 lv bu se:=by
 have v1: ∀x,Jj3 1 x=x.1:=fun x=>if_pos rfl
 have v2: ∀x,Jj3 2 x=x.2:=fun x=>if_neg (by decide)
 refine⟨?_, ?_,fun x hx=> ?_,fun x hx=> ?_,hn⟩
 ·have h1:=h 1 (.inl rfl) none
  have h2:=hb 1 none;rw[v1]at h1;have h3:bu=g 1 none:=h1;omega
 ·have h1:=h 2 (.inr rfl) none
  have h2:=hb 2 none;rw[v2]at h1;have h3:se=g 2 none:=h1;omega
 ·have h1:=h 1 (.inl rfl) (some x.1)
  have h2:=hb 1 (some x.1);rw[v1]at h1;have h3:(YV lv x.1).1=g 1 (some x.1):=h1;rw[Qk6 hk.rank hx]at h3;omega
 ·have h1:=h 2 (.inr rfl) (some x.1)
  have h2:=hb 2 (some x.1);rw[v2]at h1;have h3:(YV lv x.1).2=g 2 (some x.1):=h1;rw[Qk6 hk.rank hx]at h3;omega
def O7 (o:QX):QX:=⟨0,(Qx2 o).1,(Qx2 o).2.1,(Qx2 o).2.2,o.qty⟩
theorem Kg6 (o:QX):Qu9 (O7 o)=Qx3 o.side (Qa2 o):=by
 rw[←Jc6]
 rfl
theorem Jj4 (o:QX):(O7 o).side=o.side:=by unfold O7 Qx2;split<;>rfl
theorem Jg1 (o:QX):(O7 o).qty=o.qty:=rfl
theorem Qf4 (o:QX):(O7 o).kind=2↔o.kind=2:=by
 unfold O7 Qx2
 split
 ·simp_all
 ·simp_all
theorem Jc7 {o:QX} (h:o.kind≠2):(O7 o).price=o.price:=by unfold O7 Qx2;rw[if_neg h]
theorem Kg7 (s:Int) (k:Option Int) (l:List QX):Qj9 (Qx3 s k) (l.map O7)=Q2 s k l:=by
 unfold Qj9 Q2
 rw[List.map_map]
 congr 1
 refine List.map_congr_left fun o _=> ?_
 simp only[Function.comp]
 rw[Kg6]
 by_cases e:o.side=s∧Qa2 o=k
 ·rw[if_pos e,if_pos (by rw[e.1,e.2]),Jg1]
 ·rw[if_neg e,if_neg (fun x=>e (Xa2 x))]
theorem Ka7 (o:QX):okO (O7 o)=okO o:=by unfold okO;rw[Jj4,Jg1]
theorem Js9 (l:List QX):Qn4 (l.map O7)=(Qn4 l).map O7:=by
 unfold Qn4
 rw[List.filter_map]
 congr 1
 refine List.filter_congr fun o _=> ?_
 simp only[Function.comp,Ka7]
theorem Jg2 {F G:QX→Int}: ∀(l:List QX) (s:Int),(∀o∈l,F (O7 o)=G o)→(l.map O7).foldl (fun s o=>s+F o) s=l.foldl (fun s o=>s+G o) s:=by
 intro l
 induction l with
 |nil=>intro s _;rfl
 |cons o t ih=>
  intro s h;rw[List.map_cons,List.foldl_cons,List.foldl_cons,h o (by simp),ih _ (fun x hx=>h x (by simp[hx]))]
theorem Kg8 (p:Int) (l:List QX):Qo5 p (l.map O7)=Qo5 p l:=by
 unfold Qo5
 refine Jg2 l 0 fun o _=> ?_
 unfold Jb7
 rw[Jj4,Jg1]
 by_cases hk:o.kind=2
 ·rw[(Qf4 o).2 hk,hk]
  simp
 ·rw[Jc7 hk]
  have h2: ¬(O7 o).kind=2:=fun e=>hk ((Qf4 o).1 e)
  simp only[hk,h2]
theorem Kg9 (p:Int) (l:List QX):Qo6 p (l.map O7)=Qo6 p l:=by
 unfold Qo6
 refine Jg2 l 0 fun o _=> ?_
 unfold Jb8
 rw[Jj4,Jg1]
 by_cases hk:o.kind=2
 ·rw[(Qf4 o).2 hk,hk]
  simp
 ·rw[Jc7 hk]
  have h2: ¬(O7 o).kind=2:=fun e=>hk ((Qf4 o).1 e)
  simp only[hk,h2]
theorem Xg2 (l:List QX) (more:Int):V9 (l.map O7) more=V9 l more:=by
 unfold V9
 rw[Js9]
 congr 1
 rw[List.filter_map,List.map_map]
 have e1:(Qn4 l).filter ((fun o=> !(o.kind ==2))∘O7)=(Qn4 l).filter (fun o=> !(o.kind ==2)):=by
  refine List.filter_congr fun o _=> ?_
  simp only[Function.comp]
  by_cases hk:o.kind=2
  ·rw[(Qf4 o).2 hk,hk]
  ·have h2: ¬(O7 o).kind=2:=fun e=>hk ((Qf4 o).1 e)
   rw[UX h2,UX hk]
 rw[e1]
 refine List.map_congr_left fun o ho=> ?_
 have:=(List.mem_filter.1 ho).2
 exact Jc7 (by simpa using this)
theorem Xo1 (l:List QX) (more:Int):Z9 (l.map O7) more=Z9 l more:=by
 unfold Z9
 rw[Xg2,Js9]
 refine List.map_congr_left fun p _=> ?_
 unfold Qz1
 rw[Kg8,Kg9]
def Xg3 (l:List QX):Prop:= ∀o∈l,Qb8 o
theorem Qe0.rel {lv:List XJ} {bu se:Int} {l:List QX} (hl:Xg3 l) (h:Qe0 lv bu se (fun s k=>Q2 s k l)):Qp1 lv bu se (fun x=>nzO (Qj9 x (l.map O7)))∧Xa0 (fun x=>nzO (Qj9 x (l.map O7))) (l.map O7):=by
 have hall:Ja5 (l.map O7):=fun o ho=>by
  obtain⟨z,hz,rfl⟩:=List.mem_map.1 ho;rw[Ka7];have h1:=hl z hz;unfold okO;rw[J4 h1.2.1.1,J4 h1.2.1.2];rcases h1.1 with e|e
  ·rw[e];rfl
  ·rw[e];rfl
 refine⟨Qp1.of (fun s hs k=> ?_) (fun x v hx=> ?_),⟨hall,fun x=>(Js8 _).symm⟩⟩
 ·rw[Js8,Kg7,h s hs k]
 ·unfold nzO at hx
  split at hx
  ·cases hx
  ·rename_i hne
   cases hx;have hpos:=Jm8 (x:=x) hall;refine⟨by omega, ?_⟩;obtain⟨o,ho,rfl⟩:=Jz8 hne;obtain⟨z,hz,rfl⟩:=List.mem_map.1 ho;have h1:=hl z hz;unfold O7;show Qx2 z=_∨Qx2 z=_∨_;unfold Qx2
   by_cases hk:z.kind=2
   ·rw[if_pos hk]
    rcases h1.1 with e|e
    ·exact .inl (by rw[e])
    ·exact .inr (.inl (by rw[e]))
   ·rw[if_neg hk]
    have h2:=h1.2.2.resolve_left hk;refine .inr (.inr ⟨z.price,h2.1,h2.2, ?_⟩);rcases h1.1 with e|e
    ·exact .inl (by rw[e];rfl)
    ·exact .inr (by rw[e];rfl)
theorem Qe0.points {lv:List XJ} {bu se:Int} {l:List QX} (hk:Ja2 lv) (hl:Xg3 l) (h:Qe0 lv bu se (fun s k=>Q2 s k l)) (more:Int):Q9 lv bu se more=Z9 l more:=by
 obtain⟨h1,h2⟩:=h.rel hl
 rw[←Xn9 hk h1 h2,Xo1]
end Go.Proofs.YtnlngicnfegjgaaGreat
