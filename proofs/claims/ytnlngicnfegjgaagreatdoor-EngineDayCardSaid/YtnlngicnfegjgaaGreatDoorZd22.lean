/- Contracts and walks that the law's proof needs. -/
import Derived.Test.YtnlngicnfegjgaaGreatDoorZd21
set_option linter.unusedVariables false
set_option maxRecDepth 100000
set_option maxHeartbeats 8000000
namespace Go.Proofs.YtnlngicnfegjgaaGreatDoor
open Go.RowKit
def Qd1 (o:QX):Int×Int×Int×Int:=(o.id,o.side,o.kind,o.price)
def Kd7 (s p:Int) (k:Int×Int×Int×Int):Bool:=(k.2.2.1 ==2) || ((s ==1) &&decide (p≤k.2.2.2)) || ((s ==2) &&decide (k.2.2.2≤p))
def VQ (K L:List QX):Prop:=(K.map Qd1).Sublist (L.map Qd1)
section
variable {K L K' L' M:List QX} {s:Int}
theorem VQ.refl (L:List QX):VQ L L:=List.Sublist.refl _
theorem VQ.trans (h:VQ K L) (h':VQ L M):VQ K M:=List.Sublist.trans h h'
theorem VQ.of_sub (h:K.Sublist L):VQ K L:=h.map _
theorem VQ.append (h:VQ K L) (h':VQ K' L'):VQ (K++K') (L++L'):=by
 unfold VQ
 rw[List.map_append,List.map_append]
 exact List.Sublist.append h h'
theorem VQ.nil (L:List QX):VQ [] L:=List.nil_sublist _
theorem VQ.cons {x y:QX} (h:VQ K L) (e:Qd1 x=Qd1 y):VQ (x::K) (y::L):=by
 unfold VQ
 rw[List.map_cons,List.map_cons,e]
 exact List.Sublist.cons_cons _ h
theorem VQ.skip (h:VQ K L) (y:QX):VQ K (y::L):=List.Sublist.cons _ h
theorem VQ.mem (h:VQ K L) {x:QX} (hx:x∈K): ∃o∈L,Qd1 o=Qd1 x:=by
 have h1:=h.subset (List.mem_map.2 ⟨x,hx,rfl⟩)
 obtain⟨o,ho,e⟩:=List.mem_map.1 h1
 exact⟨o,ho,e⟩
theorem VQ.ranked (h:VQ K L) (hr:Qg1 s L):Qg1 s K:=by
 have h1:(L.map Qd1).Pairwise (fun a b=> ∀p,Kd7 s p b=true→Kd7 s p a=true):=List.pairwise_map.2 hr
 have h2:(K.map Qd1).Pairwise (fun a b=> ∀p,Kd7 s p b=true→Kd7 s p a=true):=h1.sublist h
 rw[List.pairwise_map]at h2
 exact h2
theorem Xy0 (L:List QX):L.map (·.id)=(L.map Qd1).map (·.1):=by rw[List.map_map];rfl
theorem VQ.nodup (h:VQ K L) (hn:(L.map (·.id)).Nodup):(K.map (·.id)).Nodup:=by
 rw[Xy0]at hn⊢
 exact List.Nodup.sublist (List.Sublist.map _ h) hn
theorem Qa7 {x o:QX} (h:Qd1 o=Qd1 x):x.id=o.id∧x.side=o.side∧x.kind=o.kind∧x.price=o.price:=by
 unfold Qd1 at h
 simp only[Prod.mk.injEq]at h
 exact⟨h.1.symm,h.2.1.symm,h.2.2.1.symm,h.2.2.2.symm⟩
end
theorem Qj2: ∀(L:List QX) (a:Int),VQ (ZK L a) L
 | [],a=>VQ.refl _
 |o::t,a=>by
  unfold ZK
  split
  ·exact VQ.refl _
  ·split
   ·exact(Qj2 t _).skip o
   ·exact(VQ.refl t).cons rfl
theorem Jv1 (m:ZJ) (L:List QX):VQ (Qp6 m L) L:=by
 unfold Qp6
 refine(VQ.of_sub List.filter_sublist).trans ?_
 split
 ·exact Qj2 _ _
 ·exact VQ.refl _
theorem Xq5 (x:QX) (n:Int):VQ (Qg4 x n) [x]:=by
 unfold Qg4
 split
 ·exact VQ.nil _
 ·exact(VQ.refl []).cons rfl
theorem Qy1 {σ:Type} (al:σ→Int→Bool) (tr:σ→Int→σ): ∀(L:List QX) (o:QX) (s:σ),VQ (ZX al tr L o s).rest L
 | [],o,s=>VQ.refl _
 |x::t,o,s=>by
  unfold ZX
  split
  ·exact VQ.refl _
  ·split
   ·exact(Qy1 al tr t o s).cons rfl
   ·split
    ·exact VQ.refl _
    ·split
     ·exact VQ.refl _
     ·exact(Xq5 x _).append (Qy1 al tr t _ _)
theorem Jv2 (L:List QX) (id:Int):VQ (O7 L id) L:=VQ.of_sub List.filter_sublist
theorem Xy1 (L:List QX) (k:Nat):VQ (Jk3 L k) L:=by
 refine VQ.of_sub ?_
 unfold Jk3
 have h:(L.take k++L.drop (k+1)).Sublist (L.take k++L.drop k):=List.Sublist.append (List.Sublist.refl _) (by
  have e:L.drop (k+1)=(L.drop k).drop 1:=by rw[List.drop_drop]
  rw[e];exact List.drop_sublist _ _)
 rw[List.take_append_drop]at h
 exact h
theorem Jh8 (g:JV→Int) (l l':List JV):I2 g (l++l')=I2 g l+I2 g l':=by
 induction l with
 |nil=>show I2 g l'=0+I2 g l';omega
 |cons f t ih=>show g f+I2 g (t++l')=g f+I2 g t+I2 g l';omega
theorem Jh9 {g:JV→Int} {l:List JV} (h: ∀f∈l,0≤g f):0≤I2 g l:=by
 induction l with
 |nil=>exact Int.le_refl _
 |cons f t ih=>
  have h1:=h f (List.mem_cons_self);have h2:=ih (fun z hz=>h z (List.mem_cons_of_mem _ hz));show 0≤g f+I2 g t;omega
theorem Kd8 {g:JV→Int} {l:List JV} (h: ∀f∈l,g f=0):I2 g l=0:=by
 induction l with
 |nil=>rfl
 |cons f t ih=>
  have h1:=h f (List.mem_cons_self);have h2:=ih (fun z hz=>h z (List.mem_cons_of_mem _ hz));show g f+I2 g t=0;omega
def Qm9 (F:List JV) (id:Int):Int:=I2 (fun f=>if f.b=id then f.n else 0) F
def Je1 (F:List JV) (id:Int):Int:=I2 (fun f=>if f.s=id then f.n else 0) F
def Z9 (F:List JV) (id:Int):Int:=Qm9 F id+Je1 F id
theorem Qi0 (id:Int):Z9 [] id=0:=rfl
theorem Qy2 (f:JV) (F:List JV) (id:Int):Z9 (f::F) id=((if f.b=id then f.n else 0)+ (if f.s=id then f.n else 0))+Z9 F id:=by
 unfold Z9 Qm9 Je1
 show(if f.b=id then f.n else 0)+I2 _ F+ ((if f.s=id then f.n else 0)+I2 _ F)=_
 omega
theorem Xq6 (F:List JV) (f:JV) (id:Int):Z9 (F++ [f]) id=Z9 F id+ ((if f.b=id then f.n else 0)+ (if f.s=id then f.n else 0)):=by
 unfold Z9 Qm9 Je1
 rw[Jh8,Jh8]
 show I2 _ F+ ((if f.b=id then f.n else 0)+0)+ (I2 _ F+ ((if f.s=id then f.n else 0)+0))=_
 omega
def JX (lots:Int→Int) (F:List JV) (id:Int):Int:=lots id-Z9 F id
def ZY (lots side:Int→Int) (F:List JV):Prop:=
 ∀F1 f F2,F=F1++f::F2→1≤f.n∧side f.b=1∧side f.s=2∧f.n≤lots f.b-Z9 F1 f.b∧f.n≤lots f.s-Z9 F1 f.s
theorem ZY.nil (lots side:Int→Int):ZY lots side []:=fun F1 f F2 h=>by cases F1<;>cases h
theorem ZY.cons {lots side:Int→Int} {f:JV} {F:List JV} (h1:1≤f.n) (hb:side f.b=1) (hs:side f.s=2) (lb:f.n≤lots f.b) (ls:f.n≤lots f.s)
  (h:ZY (fun id=>lots id- ((if f.b=id then f.n else 0)+ (if f.s=id then f.n else 0))) side F):ZY lots side (f::F):=by
 intro F1 g F2 e
 cases F1 with
 |nil=>
  rw[List.nil_append]at e
  cases e;exact⟨h1,hb,hs,by rw[Qi0];omega,by rw[Qi0];omega⟩
 |cons z F1=>
  rw[List.cons_append]at e
  cases e;obtain⟨a1,a2,a3,a4,a5⟩:=h F1 g F2 rfl;refine⟨a1,a2,a3, ?_, ?_⟩
  ·rw[Qy2];dsimp only at a4;omega
  ·rw[Qy2];dsimp only at a5;omega
def Jk7 (la:Int):List JV→Int
 | []=>la
 |f::F=>Jk7 f.p F
theorem Xq7 (la:Int) (F:List JV) (f:JV):Jk7 la (F++ [f])=f.p:=by
 induction F generalizing la with
 |nil=>rfl
 |cons g F ih=>exact ih g.p
def IY (al:Int→Int→Bool) (la:Int) (F:List JV):Prop:= ∀F1 f F2,F=F1++f::F2→al (Jk7 la F1) f.p=true
theorem IY.nil (al:Int→Int→Bool) (la:Int):IY al la []:=fun F1 f F2 h=>by cases F1<;>cases h
theorem IY.cons {al:Int→Int→Bool} {la:Int} {f:JV} {F:List JV} (h1:al la f.p=true) (h:IY al f.p F):IY al la (f::F):=by
 intro F1 g F2 e
 cases F1 with
 |nil=>
  rw[List.nil_append]at e
  cases e;exact h1
 |cons z F1=>
  rw[List.cons_append]at e
  cases e;exact h F1 g F2 rfl
theorem Xc8 {L:List QX} (hn:(L.map (·.id)).Nodup) (hq: ∀o∈L,1≤o.qty) {o:QX} (ho:o∈L) (a:Int):Y7 L a o.id≤o.qty:=by
 obtain⟨pre,post,rfl⟩:=List.append_of_mem ho
 rw[Kh8 hn]
 have:=hq o ho
 unfold Qt2
 split
 ·omega
 ·split<;>omega
theorem Je2 {lots:Int→Int} {x:QX}: ∀ {L:List QX} {a:Int},(L.map (·.id)).Nodup→(∀o∈L,1≤o.qty)→(∀o∈L,lots o.id=o.qty)→x∈ZK L a→x.qty=lots x.id-Y7 L a x.id
 | [],a,_,_,_,h=>by cases h
 |o::t,a,hn,hq,hl,h=>by
  rw[List.map_cons,List.nodup_cons]at hn;have ho:=hl o (by simp);have hoq:=hq o (by simp);have ht: ∀y∈t,y.id≠o.id:=fun y hy e=>hn.1 (by rw[←e];exact List.mem_map.2 ⟨y,hy,rfl⟩)
  have hlt: ∀y∈t,lots y.id=y.qty:=fun y hy=>hl y (by simp[hy])
  have hqt: ∀y∈t,1≤y.qty:=fun y hy=>hq y (by simp[hy])
  by_cases ha:a≤0
  ·rw[Qh6 _ ha]at h
   rw[Y0 x.id (o::t) ha hq,hl x h];omega
  ·unfold ZK at h
   rw[if_neg ha]at h
   by_cases hb:o.qty≤a
   ·rw[if_pos hb]at h
    have ih:=Je2 hn.2 hqt hlt h;obtain⟨y,hy,e⟩:=(Qj2 t (a-o.qty)).mem h;have e1:=(Qa7 e).1;have hne:o.id≠x.id:=fun e2=>ht y hy (by rw[←e1,e2])
    rw[ih];unfold Y7;rw[if_neg hne]
    cases t with
    |nil=>rfl
    |cons _ _=>rfl
   ·rw[if_neg hb]at h
    rcases List.mem_cons.1 h with rfl|h
    ·show o.qty-a=lots o.id-Y7 (o::t) a o.id
     unfold Y7;rw[if_pos rfl,ho];unfold Qt2;rw[if_neg ha,if_pos (by omega)]
    ·have hne:o.id≠x.id:=fun e2=>ht x h e2.symm
     unfold Y7;rw[if_neg hne];have:=Y0 x.id t (a:=a-o.qty) (by omega) hqt;have e3:=hlt x h;omega
theorem Xy2 {m:ZJ} {lots side:Int→Int} {F:List JV} (hl:XY m.L1 m.L2) (h1: ∀o∈m.L1++m.L2,lots o.id=o.qty∧side o.id=o.side) (hF:Qt6 m F):
  ZY lots side F∧(∀o∈Qp6 m m.L1++Qp6 m m.L2,o.qty=JX lots F o.id)∧ ∀id,(∀o∈m.L1++m.L2,o.id≠id)→JX lots F id=lots id:=by
 obtain⟨d1,d2,d12⟩:=O8 hl
 have q1: ∀o∈m.L1,1≤o.qty:=fun o ho=>(hl.ok o (List.mem_append_left _ ho)).2.2.2.1
 have q2: ∀o∈m.L2,1≤o.qty:=fun o ho=>(hl.ok o (List.mem_append_right _ ho)).2.2.2.1
 have l1: ∀o∈m.L1,lots o.id=o.qty∧side o.id=o.side:=fun o ho=>h1 o (List.mem_append_left _ ho)
 have l2: ∀o∈m.L2,lots o.id=o.qty∧side o.id=o.side:=fun o ho=>h1 o (List.mem_append_right _ ho)
 unfold Qt6 at hF
 by_cases hq:0< (YY m).2.1
 ·rw[if_pos hq]at hF
  have hF:=hF.1;have hn: ∀f∈F,1≤f.n:=fun f hf=>(hF.one f hf).2.1
  have nb: ∀(G:List JV),(∀f∈G,f∈F)→ ∀id,(∀o∈m.L1,o.id≠id)→Qm9 G id=0:=fun G hG id QQ=>Kd8 fun f hf=>if_neg fun e=>by
   obtain⟨o,ho,e2⟩:=(hF.one f (hG f hf)).2.2.1;exact QQ o ho (by rw[e2,e])
  have ns: ∀(G:List JV),(∀f∈G,f∈F)→ ∀id,(∀o∈m.L2,o.id≠id)→Je1 G id=0:=fun G hG id QQ=>Kd8 fun f hf=>if_neg fun e=>by
   obtain⟨o,ho,e2⟩:=(hF.one f (hG f hf)).2.2.2;exact QQ o ho (by rw[e2,e])
  refine⟨fun F1 f F2 e=> ?_,fun x hx=> ?_,fun id QQ=> ?_⟩
  ·have hf:f∈F:=by rw[e];simp
   have hF1: ∀g∈F1,g∈F:=fun g hg=>by rw[e];simp[hg]
   have hF2: ∀g∈F2,g∈F:=fun g hg=>by rw[e];simp[hg]
   obtain⟨o,ho,eo⟩:=(hF.one f hf).2.2.1;obtain⟨y,hy,ey⟩:=(hF.one f hf).2.2.2;have a1:=Xc8 d1 q1 ho (YY m).2.1;have a2:=Xc8 d2 q2 hy (YY m).2.1;rw[←hF.buy o.id,e,Jh8]at a1;rw[←hF.sell y.id,e,Jh8]at a2;have b1:I2 (fun f=>if f.b=o.id then f.n else 0) (f::F2)=f.n+I2 (fun f=>if f.b=o.id then f.n else 0) F2:=by
    show(if f.b=o.id then f.n else 0)+_=_;rw[if_pos eo.symm]
   have b2:I2 (fun f=>if f.s=y.id then f.n else 0) (f::F2)=f.n+I2 (fun f=>if f.s=y.id then f.n else 0) F2:=by
    show(if f.s=y.id then f.n else 0)+_=_;rw[if_pos ey.symm]
   have c1:0≤I2 (fun f=>if f.b=o.id then f.n else 0) F2:=Jh9 fun g hg=>by
    have:=hn g (hF2 g hg)
    split<;>omega
   have c2:0≤I2 (fun f=>if f.s=y.id then f.n else 0) F2:=Jh9 fun g hg=>by
    have:=hn g (hF2 g hg)
    split<;>omega
   have s1:=ns F1 hF1 o.id (fun z hz e3=>d12 o ho z hz e3.symm);have s2:=nb F1 hF1 y.id (fun z hz e3=>d12 z hz y hy e3);have t1:Qm9 F1 o.id=I2 (fun f=>if f.b=o.id then f.n else 0) F1:=rfl;have t2:Je1 F1 y.id=I2 (fun f=>if f.s=y.id then f.n else 0) F1:=rfl;refine⟨hn f hf, ?_, ?_, ?_, ?_⟩
   ·rw[←eo,(l1 o ho).2];exact hl.s1 o ho
   ·rw[←ey,(l2 y hy).2];exact hl.s2 y hy
   ·rw[←eo,(l1 o ho).1];unfold Z9;omega
   ·rw[←ey,(l2 y hy).1];unfold Z9;omega
  ·unfold JX Z9
   have hx':(x∈ZK m.L1 (YY m).2.1)∨(x∈ZK m.L2 (YY m).2.1):=by
    rcases List.mem_append.1 hx with hx|hx
    ·unfold Qp6 at hx
     rw[if_pos hq]at hx;exact .inl (List.mem_filter.1 hx).1
    ·unfold Qp6 at hx
     rw[if_pos hq]at hx;exact .inr (List.mem_filter.1 hx).1
   rcases hx' with hx|hx
   ·have e:=Je2 d1 q1 (fun o ho=>(l1 o ho).1) hx
    obtain⟨o,ho,ek⟩:=(Qj2 _ _).mem hx;have ek1:=(Qa7 ek).1;have s1:=ns F (fun _ h=>h) x.id (fun z hz e3=>d12 o ho z hz (by rw[e3,ek1]));have t1:Qm9 F x.id=Y7 m.L1 (YY m).2.1 x.id:=hF.buy x.id;omega
   ·have e:=Je2 d2 q2 (fun o ho=>(l2 o ho).1) hx
    obtain⟨o,ho,ek⟩:=(Qj2 _ _).mem hx;have ek1:=(Qa7 ek).1;have s1:=nb F (fun _ h=>h) x.id (fun z hz e3=>d12 z hz o ho (by rw[e3,ek1]));have t1:Je1 F x.id=Y7 m.L2 (YY m).2.1 x.id:=hF.sell x.id;omega
  ·have s1:=nb F (fun _ h=>h) id (fun o ho=>QQ o (List.mem_append_left _ ho))
   have s2:=ns F (fun _ h=>h) id (fun o ho=>QQ o (List.mem_append_right _ ho));unfold JX Z9;omega
 ·rw[if_neg hq]at hF
  subst hF;have e0: ∀id,JX lots [] id=lots id:=fun id=>by unfold JX;rw[Qi0];omega
  refine⟨ZY.nil _ _,fun x hx=> ?_,fun id _=>e0 id⟩;rw[e0];have:x∈m.L1++m.L2:=by
   unfold Qp6 at hx;rw[if_neg hq,if_neg hq]at hx;rcases List.mem_append.1 hx with hx|hx
   ·exact List.mem_append_left _ (List.mem_filter.1 hx).1
   ·exact List.mem_append_right _ (List.mem_filter.1 hx).1
  exact(h1 x this).1.symm
def Xy3 (L1 L2:List QX):Prop:=(∀o∈L1++L2,o.kind=1)∧ ∀x∈L1,∀y∈L2,x.price<y.price
theorem Xc9 {m:ZJ} (hl:XY m.L1 m.L2) (r1:Qg1 1 m.L1) (r2:Qg1 2 m.L2) (hla:1≤m.la):Xy3 (Qp6 m m.L1) (Qp6 m m.L2):=by
 have q1: ∀o∈m.L1,1≤o.qty:=fun o ho=>(hl.ok o (List.mem_append_left _ ho)).2.2.2.1
 have q2: ∀o∈m.L2,1≤o.qty:=fun o ho=>(hl.ok o (List.mem_append_right _ ho)).2.2.2.1
 have hb:=(Jz1 (Jn8 hl) hla m.la).1
 have hm: ∀ {x:QX} {L:List QX},x∈Qp6 m L→x.kind=1∧x∈ZK L (YY m).2.1:=fun {x L} hx=>by
  unfold Qp6 at hx;obtain⟨h1,h2⟩:=List.mem_filter.1 hx;refine⟨by simpa using h2, ?_⟩
  by_cases hq:0< (YY m).2.1
  ·rw[if_pos hq]at h1;exact h1
  ·rw[if_neg hq]at h1
   rw[Qh6 _ (by omega)];exact h1
 refine⟨fun o ho=> ?_,fun x hx y hy=> ?_⟩
 ·rcases List.mem_append.1 ho with ho|ho
  ·exact(hm ho).1
  ·exact(hm ho).1
 ·obtain⟨kx,dx⟩:=hm hx
  obtain⟨ky,dy⟩:=hm hy;rcases Int.lt_or_le x.price y.price with h|h
  ·exact h
  ·exfalso
   have a1:=Jj9 (p:=y.price) r1 q1 dx (by unfold O3;simp[h]);have a2:=Jj9 (p:=y.price) r2 q2 dy (by unfold O3;simp);have a3:=hb y.price;rw[Xc4 hl,Xc5 hl]at a3;have e:(YY m).2.1=(Q9 (V0 (m.L1++m.L2) m.la) m.la).2.1:=rfl;omega
theorem Xy4 {σ:Type} (al:σ→Int→Bool) (tr:σ→Int→σ) (L:List QX) (o:QX) (s:σ) (h:o.qty<1):(ZX al tr L o s).left=o:=by
 cases L with
 |nil=>rfl
 |cons x t=>unfold ZX;rw[if_pos h]
theorem Je3 {o o' x:QX} (h:Qd1 o=Qd1 o'):YQ o x=YQ o' x:=by
 obtain⟨e1,e2,e3,e4⟩:=Qa7 h
 unfold YQ
 rw[e2,e3,e4]
structure Kw5 (lots side:Int→Int) (al:Int→Int→Bool) (L:List QX) (o:QX) (s:Int) (r:O9 Int):Prop where
 good:ZY lots side r.fills
 bands:IY al s r.fills
 left:r.left.qty=JX lots r.fills o.id
 key:Qd1 r.left=Qd1 o
 pos:0≤r.left.qty
 rest: ∀x∈r.rest,x.qty=JX lots r.fills x.id
 other: ∀id,id≠o.id→(∀x∈L,x.id≠id)→JX lots r.fills id=lots id
 stop:r.stop=false→r.left.qty<1∨ ∀x∈r.rest,YQ o x=true
theorem Xd0 {side:Int→Int} {al:Int→Int→Bool}: ∀(L:List QX) (o:QX) (s:Int) (lots:Int→Int),VV o.side→side o.id=o.side→lots o.id=o.qty→0≤o.qty→(∀x∈L,x.kind≠2∧lots x.id=x.qty∧1≤x.qty∧side x.id=3-o.side∧x.id≠o.id)→(L.map (·.id)).Nodup→
  L.Pairwise (fun a b=>YQ o a=true→YQ o b=true)→Kw5 lots side al L o s (ZX al (fun _ p=>p) L o s)
 | [],o,s,lots,h1,h2,h3,h4,h5,h6,h7=>by
  have e0: ∀id,JX lots [] id=lots id:=fun id=>by unfold JX;rw[Qi0];omega
  exact⟨ZY.nil _ _,IY.nil _ _,by show o.qty=JX lots [] o.id;rw[e0,h3],rfl,h4,fun x hx=>(by cases hx),fun id _ _=>e0 id,fun _=> .inr fun x hx=>(by cases hx)⟩
 |x::t,o,s,lots,h1,h2,h3,h4,h5,h6,h7=>by
  have e0: ∀id,JX lots [] id=lots id:=fun id=>by unfold JX;rw[Qi0];omega
  obtain⟨x1,x2,x3,x4,x5⟩:=h5 x (by simp);have ht: ∀y∈t,y.kind≠2∧lots y.id=y.qty∧1≤y.qty∧side y.id=3-o.side∧y.id≠o.id:=fun y hy=>h5 y (by simp[hy])
  rw[List.map_cons,List.nodup_cons]at h6;have hxt: ∀y∈t,y.id≠x.id:=fun y hy e=>h6.1 (by rw[←e];exact List.mem_map.2 ⟨y,hy,rfl⟩)
  have h7':=List.pairwise_cons.1 h7;unfold ZX
  by_cases hq:o.qty<1
  ·rw[if_pos hq]
   exact⟨ZY.nil _ _,IY.nil _ _,by show o.qty=JX lots [] o.id;rw[e0,h3],rfl,h4,fun y hy=>by show y.qty=JX lots [] y.id;rw[e0,(h5 y hy).2.1],fun id _ _=>e0 id,fun _=> .inl hq⟩
  ·rw[if_neg hq,if_neg x1]
   by_cases hb:YQ o x=true
   ·rw[if_pos hb]
    refine⟨ZY.nil _ _,IY.nil _ _,by show o.qty=JX lots [] o.id;rw[e0,h3],rfl,h4,fun y hy=>by show y.qty=JX lots [] y.id;rw[e0,(h5 y hy).2.1],fun id _ _=>e0 id,fun _=> .inr fun y hy=> ?_⟩;rcases List.mem_cons.1 hy with rfl|hy
    ·exact hb
    ·exact h7'.1 y hy hb
   ·rw[if_neg hb]
    by_cases ha:al s x.price=false
    ·rw[if_pos ha]
     exact⟨ZY.nil _ _,IY.nil _ _,by show o.qty=JX lots [] o.id;rw[e0,h3],rfl,h4,fun y hy=>by show y.qty=JX lots [] y.id;rw[e0,(h5 y hy).2.1],fun id _ _=>e0 id,fun e=>by cases e⟩
    ·rw[if_neg ha]
     obtain⟨n,hn⟩: ∃n,min o.qty x.qty=n:=⟨_,rfl⟩;rw[hn];have n1:1≤n:=by omega
     have n2:n≤o.qty:=by omega
     have n3:n≤x.qty:=by omega
     obtain⟨f,hf⟩: ∃f,Jg6 o x n=f:=⟨_,rfl⟩;rw[hf];have fp:f.p=x.price∧f.n=n:=by
      rw[←hf];unfold Jg6;split<;>exact⟨rfl,rfl⟩
     have fid:(f.b=o.id∧f.s=x.id∧side f.b=1∧side f.s=2)∨(f.b=x.id∧f.s=o.id∧side f.b=1∧side f.s=2):=by
      rw[←hf];unfold Jg6;rcases h1 with e|e
      ·rw[if_neg (by omega)]
       exact .inl ⟨rfl,rfl,by show side o.id=1;omega,by show side x.id=2;omega⟩
      ·rw[if_pos e]
       exact .inr ⟨rfl,rfl,by show side x.id=1;omega,by show side o.id=2;omega⟩
     have hd: ∀id,((if f.b=id then f.n else 0)+ (if f.s=id then f.n else 0))=(if id=o.id then n else 0)+ (if id=x.id then n else 0):=by
      intro id;rw[fp.2];rcases fid with⟨e1,e2,-,-⟩|⟨e1,e2,-,-⟩
      ·rw[e1,e2]
       by_cases a1:o.id=id
       ·rw[if_pos a1,if_pos a1.symm]
        by_cases a2:x.id=id
        ·rw[if_pos a2,if_pos a2.symm]
        ·rw[if_neg a2,if_neg (Ne.symm a2)]
       ·rw[if_neg a1,if_neg (Ne.symm a1)]
        by_cases a2:x.id=id
        ·rw[if_pos a2,if_pos a2.symm]
        ·rw[if_neg a2,if_neg (Ne.symm a2)]
      ·rw[e1,e2]
       by_cases a1:o.id=id
       ·rw[if_pos a1,if_pos a1.symm]
        by_cases a2:x.id=id
        ·rw[if_pos a2,if_pos a2.symm]
        ·rw[if_neg a2,if_neg (Ne.symm a2)];omega
       ·rw[if_neg a1,if_neg (Ne.symm a1)]
        by_cases a2:x.id=id
        ·rw[if_pos a2,if_pos a2.symm];omega
        ·rw[if_neg a2,if_neg (Ne.symm a2)]
     obtain⟨lots2,hl2⟩: ∃l:Int→Int,(fun id=>lots id- ((if f.b=id then f.n else 0)+ (if f.s=id then f.n else 0)))=l:=⟨_,rfl⟩;have el: ∀id,lots2 id=lots id- ((if id=o.id then n else 0)+ (if id=x.id then n else 0)):=fun id=>by rw[←hl2];dsimp only;rw[hd]
     have eo:lots2 o.id=o.qty-n:=by rw[el,if_pos rfl,if_neg (Ne.symm x5),h3];omega
     have ex:lots2 x.id=x.qty-n:=by rw[el,if_neg x5,if_pos rfl,x2];omega
     have ey: ∀id,id≠o.id→id≠x.id→lots2 id=lots id:=fun id a b=>by rw[el,if_neg a,if_neg b];omega
     have ih:=Xd0 (al:=al) t (U9 o n) x.price lots2 h1 h2 eo (by show 0≤o.qty-n;omega) (fun y hy=>by
      obtain⟨y1,y2,y3,y4,y5⟩:=ht y hy;exact⟨y1,by rw[ey y.id y5 (hxt y hy)];exact y2,y3,y4,y5⟩) h6.2 (by
      refine h7'.2.imp ?_;intro a b hab;rw[Je3 (show Qd1 (U9 o n)=Qd1 o from rfl),Je3 (show Qd1 (U9 o n)=Qd1 o from rfl)];exact hab)
     have hdone:=Xy4 al (fun _ p=>p) t (U9 o n) x.price;obtain⟨r,hr⟩: ∃r,ZX al (fun _ p=>p) t (U9 o n) x.price=r:=⟨_,rfl⟩;rw[hr]at ih hdone⊢;have ela: ∀id,JX lots (f::r.fills) id=JX lots2 r.fills id:=fun id=>by
      unfold JX;rw[Qy2,←hl2];dsimp only;omega
     refine⟨?_, ?_, ?_,ih.key,ih.pos, ?_, ?_, ?_⟩
     ·have g1:f.n≤lots f.b∧f.n≤lots f.s:=by
       rw[fp.2];rcases fid with⟨e1,e2,-,-⟩|⟨e1,e2,-,-⟩
       ·rw[e1,e2,h3,x2];exact⟨n2,n3⟩
       ·rw[e1,e2,h3,x2];exact⟨n3,n2⟩
      have g2:side f.b=1∧side f.s=2:=by
       rcases fid with⟨-,-,e1,e2⟩|⟨-,-,e1,e2⟩<;>exact⟨e1,e2⟩
      exact ZY.cons (by omega) g2.1 g2.2 g1.1 g1.2 (by rw[hl2];exact ih.good)
     ·refine IY.cons ?_ ?_
      ·rw[fp.1];simpa using ha
      ·rw[fp.1];exact ih.bands
     ·show r.left.qty=JX lots (f::r.fills) o.id
      rw[ela];exact ih.left
     ·intro y hy
      show y.qty=JX lots (f::r.fills) y.id;rw[ela];have hy:y∈Qg4 x n++r.rest:=hy;rcases List.mem_append.1 hy with hy|hy
      ·unfold Qg4 at hy
       by_cases hnx:n=x.qty
       ·rw[if_pos hnx]at hy;cases hy
       ·rw[if_neg hnx,List.mem_singleton]at hy
        subst hy;show x.qty-n=JX lots2 r.fills x.id;rw[ih.other x.id x5 (fun z hz=>hxt z hz),ex]
      ·exact ih.rest y hy
     ·intro id QQ hL
      show JX lots (f::r.fills) id=lots id;rw[ela,ih.other id QQ (fun z hz=>hL z (List.mem_cons_of_mem _ hz)),ey id QQ (fun e=>hL x (List.mem_cons_self) e.symm)]
     ·intro hst
      show r.left.qty<1∨ ∀y∈Qg4 x n++r.rest,YQ o y=true
      by_cases hnx:n=x.qty
      ·have e:Qg4 x n= []:=if_pos hnx
       rw[e,List.nil_append];rcases ih.stop hst with h|h
       ·exact .inl h
       ·exact .inr fun y hy=>(Je3 (show Qd1 o=Qd1 (U9 o n)from rfl)).trans (h y hy)
      ·left
       have:(U9 o n).qty<1:=by show o.qty-n<1;omega
       rw[hdone this];exact this
structure Qf1 (m:ZJ) (lots side:Int→Int):Prop where
 has: ∀o∈m.L1++m.L2++m.pk,lots o.id=o.qty∧side o.id=o.side∧o.id∈m.ids
 one:((m.L1++m.L2++m.pk).map (·.id)).Nodup
 r1:Qg1 1 m.L1
 r2:Qg1 2 m.L2
section
variable {m m':ZJ} {lots lots' side side':Int→Int}
theorem Qf1.under (h:Qf1 m lots side) (u1:VQ m'.L1 m.L1) (u2:VQ m'.L2 m.L2) (u3:VQ m'.pk m.pk) (hi:m'.ids=m.ids) (hq: ∀o∈m'.L1++m'.L2++m'.pk,o.qty=lots' o.id):Qf1 m' lots' side:=by
 have u:=(u1.append u2).append u3
 refine⟨fun o ho=> ?_,u.nodup h.one,u1.ranked h.r1,u2.ranked h.r2⟩
 obtain⟨x,hx,e⟩:=u.mem ho
 obtain⟨a1,a2,a3⟩:=h.has x hx
 obtain⟨e1,e2,e3,e4⟩:=Qa7 e
 exact⟨(hq o ho).symm,by rw[e1,a2,e2],by rw[hi,e1];exact a3⟩
theorem Qf1.same (h:Qf1 m lots side) (e1:m'.L1=m.L1) (e2:m'.L2=m.L2) (e3:m'.pk=m.pk) (e4:m'.ids=m.ids):Qf1 m' lots side:=
 ⟨by rw[e1,e2,e3,e4];exact h.has,by rw[e1,e2,e3];exact h.one,by rw[e1];exact h.r1,by rw[e2];exact h.r2⟩
theorem Qf1.lie (h:Qf1 m lots side) {o:QX} (hs:VV o.side) (hl:lots o.id=o.qty) (hd:side o.id=o.side) (hi:o.id∈m.ids) (hf: ∀x∈m.L1++m.L2++m.pk,x.id≠o.id):Qf1 (Qc8 m o) lots side:=by
 by_cases ha:Qk9 m.L1 m.L2 o=0
 ·have e1:(Qc8 m o).L1=Qb8 1 m.L1 o:=if_pos ha
  have e2:(Qc8 m o).L2=Qb8 2 m.L2 o:=if_pos ha;have hp:((Qc8 m o).L1++(Qc8 m o).L2++(Qc8 m o).pk).Perm (JJ o:: (m.L1++m.L2++m.pk)):=by
   rw[e1,e2];show(Qb8 1 m.L1 o++Qb8 2 m.L2 o++m.pk).Perm _;unfold Qb8;rcases hs with e|e
   ·rw[if_pos e,if_neg (by omega),←List.cons_append,←List.cons_append]
    exact((Qr0 1 m.L1 (JJ o)).append_right _).append_right _
   ·rw[if_neg (by omega),if_pos e,←List.cons_append]
    exact(((Qr0 2 m.L2 (JJ o)).append_left _).trans List.perm_middle).append_right _
  refine⟨fun x hx=> ?_, ?_, ?_, ?_⟩
  ·rcases List.mem_cons.1 (hp.mem_iff.1 hx)with rfl|hx
   ·exact⟨hl,hd,hi⟩
   ·exact h.has x hx
  ·refine(hp.map (·.id)).nodup_iff.2 ?_
   rw[List.map_cons,List.nodup_cons];refine⟨fun hm=> ?_,h.one⟩;obtain⟨x,hx,e⟩:=List.mem_map.1 hm;exact hf x hx e
  ·rw[e1]
   unfold Qb8
   split
   ·exact Qt1 (.inl rfl) h.r1 _
   ·exact h.r1
  ·rw[e2]
   unfold Qb8
   split
   ·exact Qt1 (.inr rfl) h.r2 _
   ·exact h.r2
 ·have e1:(Qc8 m o).L1=m.L1:=if_neg ha
  have e2:(Qc8 m o).L2=m.L2:=if_neg ha;exact h.same e1 e2 rfl rfl
theorem Jv3: ∀(l:List QX) (m:ZJ),Qf1 {m with pk:=l} lots side→(∀o∈l,VV o.side)→Qf1 {UZ m l with pk:= []} lots side
 | [],m,h,_=>h
 |o::t,m,h,hs=>by
  have ho:=h.has o (by simp);have h1:Qf1 {m with pk:=t} lots side:=h.under (VQ.refl _) (VQ.refl _) ((VQ.refl t).skip o) rfl (fun x hx=>(h.has x (by
   show x∈m.L1++m.L2++(o::t);rcases List.mem_append.1 hx with hx|hx
   ·exact List.mem_append_left _ hx
   ·exact List.mem_append_right _ (List.mem_cons_of_mem _ hx))).1.symm)
  have hone:=h.one;have hone:((m.L1++m.L2++(o::t)).map (·.id)).Nodup:=hone;have hp:(m.L1++m.L2++(o::t)).Perm (o:: (m.L1++m.L2++t)):=List.perm_middle;have hone2:=(hp.map (·.id)).nodup_iff.1 hone;rw[List.map_cons,List.nodup_cons]at hone2;have h2:=h1.lie (o:=o) (hs o (by simp)) ho.1 ho.2.1 ho.2.2 (fun x hx e=>hone2.1 (List.mem_map.2 ⟨x,hx,e⟩));exact Jv3 t (Qc8 m o) h2 (fun x hx=>hs x (by simp[hx]))
end
structure Qg7 (m:ZJ) (lots side:Int→Int):Prop where
 ok_:VW m
 w:Qf1 m lots side
 tr:m.ph=3→Xy3 m.L1 m.L2
section
variable {m:ZJ} {lots side:Int→Int}
theorem Xd1 (h:Qf1 m lots side) (hs: ∀o∈m.pk,VV o.side):Qf1 (Qg6 m) lots side:=by
 have h1:Qf1 {({m with ph:=5}:ZJ)with pk:=m.pk} lots side:=h.same rfl rfl rfl rfl
 exact Jv3 m.pk {m with ph:=5} h1 hs
theorem Xh9 (h:Qf1 m lots side) (hl:XY m.L1 m.L2) {F:List JV} (hF:Qt6 m F):ZY lots side F∧Qf1 (Qr4 m) (JX lots F) side:=by
 obtain⟨a1,a2,a3⟩:=Xy2 (lots:=lots) (side:=side) hl (fun o ho=>⟨(h.has o (List.mem_append_left _ ho)).1,(h.has o (List.mem_append_left _ ho)).2.1⟩) hF
 refine⟨a1,h.under (m':=Qr4 m) (Jv1 _ _) (Jv1 _ _) (VQ.refl _) rfl (fun o ho=> ?_)⟩
 rcases List.mem_append.1 ho with ho|ho
 ·exact a2 o ho
 ·rw[a3 o.id (fun x hx e=> ?_)]
  ·exact(h.has o (List.mem_append_right _ ho)).1.symm
  ·have:=h.one
   rw[List.map_append,List.nodup_append]at this;exact this.2.2 _ (List.mem_map.2 ⟨x,hx,rfl⟩) _ (List.mem_map.2 ⟨o,ho,rfl⟩) e
theorem OQ (lots:Int→Int):JX lots []=lots:=by funext id;unfold JX;rw[Qi0];omega
theorem Qf1.setPh (h:Qf1 m lots side) (p:Int):Qf1 {m with ph:=p} lots side:=h.same rfl rfl rfl rfl
theorem Qf1.vol (h:Qf1 m lots side):Qf1 (Jh2 m) lots side:=h.same rfl rfl rfl rfl
theorem Qf1.over (h:Qf1 m lots side) {lots':Int→Int}:Qf1 (Qu8 m) lots' side:=h.under (VQ.nil _) (VQ.nil _) (VQ.nil _) rfl (fun o ho=>(by cases ho))
theorem Qg7.halt (h:Qg7 m lots side):Qg7 (Qe2 m) lots side:=by
 refine⟨h.ok_.halt, ?_, ?_⟩
 ·unfold Qe2
  split
  ·exact h.w
  ·exact h.w.setPh 6
 ·unfold Qe2
  split
  ·exact h.tr
  ·intro e;exact absurd e (by show¬((6:Int)=3);omega)
theorem Qr6 (m:ZJ):(Qg6 m).ph=5:=(Qc1 m.pk {m with ph:=5}).2.2.2.2.2.2.2.2.2.1
theorem Qg7.open_ (h:Qg7 m lots side) (hl:XY (Qa2 m).L1 (Qa2 m).L2):Qg7 (Qa2 m) lots side:=by
 refine⟨h.ok_.open_ hl, ?_, ?_⟩
 ·unfold Qa2
  split
  ·split
   ·exact h.w.vol
   ·split
    ·exact Xd1 h.w (fun o ho=>(h.ok_.pk o ho).2)
    ·exact h.w.setPh _
  ·exact h.w
 ·unfold Qa2
  split
  ·split
   ·intro e;exact absurd e (by show¬((4:Int)=3);omega)
   ·split
    ·intro e;rw[Qr6]at e;cases e
    ·rename_i h3 _
     intro e;exact absurd e h3
  ·exact h.tr
theorem Qg7.cancel (h:Qg7 m lots side) (id:Int) (hl:XY (YJ m id).L1 (YJ m id).L2):Qg7 (YJ m id) lots side:=by
 refine⟨h.ok_.cancel id hl, ?_, ?_⟩
 ·unfold YJ
  split
  ·exact h.w
  ·split
   ·exact h.w.under (VQ.refl _) (VQ.refl _) (Xy1 _ _) rfl (fun o ho=>(h.w.has o (by
     rcases List.mem_append.1 ho with ho|ho
     ·exact List.mem_append_left _ ho
     ·exact List.mem_append_right _ (Xq4 ho))).1.symm)
   ·exact h.w.under (Jv2 _ _) (Jv2 _ _) (VQ.refl _) rfl (fun o ho=>(h.w.has o (by
     rcases List.mem_append.1 ho with ho|ho
     ·rcases List.mem_append.1 ho with ho|ho
      ·exact List.mem_append_left _ (List.mem_append_left _ (List.mem_filter.1 ho).1)
      ·exact List.mem_append_left _ (List.mem_append_right _ (List.mem_filter.1 ho).1)
     ·exact List.mem_append_right _ ho)).1.symm)
 ·unfold YJ
  split
  ·exact h.tr
  ·split
   ·exact h.tr
   ·intro e
    obtain⟨a1,a2⟩:=h.tr e;refine⟨fun o ho=> ?_,fun x hx y hy=>a2 x (List.mem_filter.1 hx).1 y (List.mem_filter.1 hy).1⟩;rcases List.mem_append.1 ho with ho|ho
    ·exact a1 o (List.mem_append_left _ (List.mem_filter.1 ho).1)
    ·exact a1 o (List.mem_append_right _ (List.mem_filter.1 ho).1)
theorem Kj7 (h:Qg7 m lots side) (p:Int) {F:List JV} (hF:Qk1 m p F) (hl:XY (X8 m p).L1 (X8 m p).L2):ZY lots side F∧Qg7 (X8 m p) (JX lots F) side:=by
 unfold Qk1 at hF
 by_cases h3:p=3
 ·rw[if_pos h3]at hF
  obtain⟨g1,g2⟩:=Xh9 h.w h.ok_.ls hF;refine⟨g1,h.ok_.enter p hl, ?_, ?_⟩
  ·unfold X8;rw[if_pos h3];exact g2.setPh 3
  ·unfold X8;rw[if_pos h3];intro _;exact Xc9 h.ok_.ls h.w.r1 h.w.r2 h.ok_.la.1
 ·rw[if_neg h3]at hF
  subst hF;rw[OQ];refine⟨ZY.nil _ _,h.ok_.enter p hl, ?_, ?_⟩
  ·unfold X8
   rw[if_neg h3]
   split
   ·exact Xd1 h.w (fun o ho=>(h.ok_.pk o ho).2)
   ·exact h.w.setPh _
  ·unfold X8
   rw[if_neg h3]
   split
   ·intro e;rw[Qr6]at e;cases e
   ·intro e;exact absurd e h3
theorem Xy5 (h:Qg7 m lots side) {F:List JV} (hF:Qb2 m F) (hl:XY (OW m).L1 (OW m).L2) (h4:m.ph=4):ZY lots side F∧Qg7 (OW m) (JX lots F) side:=by
 unfold Qb2 at hF
 by_cases hc:Jh3 m
 ·rw[if_pos hc]at hF
  obtain⟨g1,g2⟩:=Xh9 h.w h.ok_.ls hF;refine⟨g1,h.ok_.settle hl, ?_, ?_⟩
  ·unfold OW;rw[if_pos hc];exact g2.setPh 3
  ·unfold OW;rw[if_pos hc];intro _;exact Xc9 h.ok_.ls h.w.r1 h.w.r2 h.ok_.la.1
 ·rw[if_neg hc]at hF
  subst hF;rw[OQ];refine⟨ZY.nil _ _,h.ok_.settle hl, ?_, ?_⟩
  ·unfold OW
   rw[if_neg hc]
   split
   ·exact h.w.same rfl rfl rfl rfl
   ·exact h.w.setPh _
  ·unfold OW
   rw[if_neg hc]
   split
   ·intro e;have e:m.ph=3:=e;omega
   ·intro e;exact absurd e (by show¬((6:Int)=3);omega)
theorem Qg7.next (h:Qg7 m lots side):Qg7 (XQ m) lots side:=⟨h.ok_.next,h.w.same rfl rfl rfl rfl,h.tr⟩
theorem Kr5 (h:Qg7 m lots side) {F:List JV} (hF:Jh5 m F) (hl:XY (Q8 m).L1 (Q8 m).L2):ZY lots side F∧Qg7 (Q8 m) (JX lots F) side:=by
 have hmk:=h.ok_.tick hl
 unfold Jh5 at hF
 by_cases h7:m.ph=7
 ·rw[if_pos h7]at hF
  subst hF;rw[OQ];refine⟨ZY.nil _ _, ?_⟩;unfold Q8;rw[if_pos h7];exact h
 ·rw[if_neg h7]at hF
  have hn:=h.next;unfold Q8 at hl hmk⊢;rw[if_neg h7]at hl hmk⊢;unfold Qf0 at hF;unfold I1 at hl hmk⊢
  by_cases e7:VJ (XQ m) (XQ m).now=7
  ·rw[if_pos e7]at hF hmk⊢
   by_cases e5:(XQ m).ph=5
   ·rw[if_pos e5]at hF hmk⊢
    obtain⟨g1,g2⟩:=Xh9 hn.w hn.ok_.ls hF;exact⟨g1,hmk,g2.over,fun e=>absurd e (by show¬((7:Int)=3);omega)⟩
   ·rw[if_neg e5]at hF hmk⊢
    subst hF;exact⟨ZY.nil _ _,hmk,hn.w.over,fun e=>absurd e (by show¬((7:Int)=3);omega)⟩
  ·rw[if_neg e7]at hF hl⊢
   by_cases e6:(XQ m).ph=6
   ·rw[if_pos e6]at hF⊢
    subst hF;rw[OQ];exact⟨ZY.nil _ _,hn⟩
   ·rw[if_neg e6]at hF hl⊢
    by_cases ew:VJ m m.now≠VJ (XQ m) (XQ m).now
    ·rw[if_pos ew]at hF hl⊢
     exact Kj7 hn _ hF hl
    ·rw[if_neg ew]at hF hl⊢
     by_cases e4:(XQ m).ph=4∧(XQ m).ends≤(XQ m).now
     ·rw[if_pos e4]at hF hl⊢
      exact Xy5 hn hF hl e4.1
     ·rw[if_neg e4]at hF⊢
      subst hF;rw[OQ];exact⟨ZY.nil _ _,hn⟩
def Qg8 (f:Int→Int) (i v:Int):Int→Int:=fun k=>if k=i then v else f k
def Jv4 (m:ZJ) (lots:Int→Int) (o:QX):Int→Int:=if X9 m o=0 then Qg8 lots o.id o.qty else lots
def Xd2 (m:ZJ) (side:Int→Int) (o:QX):Int→Int:=if X9 m o=0 then Qg8 side o.id o.side else side
theorem Jy1 {o:QX} (hs:VV o.side) {L:List QX} (hr:Qg1 (3-o.side) L) (hk: ∀x∈L,x.kind≠2):L.Pairwise (fun a b=>YQ o a=true→YQ o b=true):=by
 refine List.Pairwise.imp_of_mem ?_ hr
 intro a b ha hb hab
 have ka:=hk a ha
 have kb:=hk b hb
 unfold YQ
 intro h
 rw[Bool.and_eq_true]at h⊢
 refine⟨h.1, ?_⟩
 have h2:=h.2
 rcases hs with e|e
 ·rw[e]at hab h2⊢
  have:=hab b.price (by unfold O3;simp);unfold O3 at this;simp[ka]at this h2⊢;omega
 ·rw[e]at hab h2⊢
  have:=hab b.price (by unfold O3;simp);unfold O3 at this;simp[ka]at this h2⊢;omega
theorem Kj8 (h:Qg7 m lots side) {o:QX} (hf:Qd5 o) (hl:XY (OK m o).L1 (OK m o).L2):
  ZY (Jv4 m lots o) (Xd2 m side o) (Qd3 m o)∧IY (fun la p=>X4 m.st m.dy m.an la p) m.la (Qd3 m o)∧(Qd3 m o≠ []→m.ph=3)∧Qg7 (OK m o) (JX (Jv4 m lots o) (Qd3 m o)) (Xd2 m side o):=by
 have hmk:=h.ok_.order hf hl
 unfold Jv4 Xd2
 by_cases he:X9 m o=0
 ·rw[if_pos he,if_pos he]
  obtain⟨h1,h2,h3,h4,h5⟩:=Qy0 he;obtain⟨p1,p2,p3,p4⟩:=Xc7 hf h1 h2;have eS:OK m o=Qe5 (YX m (JJ o)) (JJ o):=if_pos he;have eF:Qd3 m o=Qi3 (YX m (JJ o)) (JJ o):=if_pos he;rw[eS]at hl hmk⊢;rw[eF];have q1:(JJ o).id=o.id:=rfl;have q2:(JJ o).side=o.side:=rfl;have q3:(JJ o).kind=o.kind:=rfl;have q4:(JJ o).qty=o.qty:=rfl;obtain⟨q,hq⟩: ∃q,JJ o=q:=⟨_,rfl⟩;rw[hq]at hl hmk p1 p2 q1 q2 q3 q4⊢;rw[←q3]at h3;rw[←q1]at h4;rw[←q1,←q2,←q4];have hfresh: ∀x∈m.L1++m.L2++m.pk,x.id≠q.id:=fun x hx e=>h4 (by rw[←e];exact(h.w.has x hx).2.2)
  have hM:Qf1 (YX m q) (Qg8 lots q.id q.qty) (Qg8 side q.id q.side):=by
   refine⟨fun x hx=> ?_,h.w.one,h.w.r1,h.w.r2⟩;have hne:=hfresh x hx;obtain⟨a1,a2,a3⟩:=h.w.has x hx;unfold Qg8;rw[if_neg hne,if_neg hne];exact⟨a1,a2,List.mem_append_left _ a3⟩
  have lq:Qg8 lots q.id q.qty q.id=q.qty:=if_pos rfl;have sq:Qg8 side q.id q.side q.id=q.side:=if_pos rfl;have iq:q.id∈(YX m q).ids:=List.mem_append_right _ (by simp);unfold Qi3 Qe5 at*
  by_cases hp:q.kind=4∧(YX m q).ph≠5
  ·rw[if_pos hp]at hl hmk⊢
   rw[if_pos hp,OQ];refine⟨ZY.nil _ _,IY.nil _ _,fun e=>absurd rfl e,hmk, ?_,h.tr⟩;refine⟨fun x hx=> ?_, ?_,hM.r1,hM.r2⟩
   ·have hx:x∈m.L1++m.L2++(m.pk++ [q]):=hx
    rw[←List.append_assoc]at hx;rcases List.mem_append.1 hx with hx|hx
    ·exact hM.has x hx
    ·rw[List.mem_singleton]at hx
     subst hx;exact⟨lq,sq,iq⟩
   ·show((m.L1++m.L2++(m.pk++ [q])).map (·.id)).Nodup
    rw[←List.append_assoc,List.map_append,List.nodup_append];refine⟨h.w.one,by simp,fun a ha b hb e=> ?_⟩;obtain⟨x,hx,rfl⟩:=List.mem_map.1 ha;rw[List.map_singleton,List.mem_singleton]at hb;exact hfresh x hx (e.trans hb)
  ·rw[if_neg hp]at hl hmk⊢
   rw[if_neg hp]
   by_cases hph:(YX m q).ph≠3
   ·rw[if_pos hph]at hl hmk⊢
    rw[if_pos hph,OQ];exact⟨ZY.nil _ _,IY.nil _ _,fun e=>absurd rfl e,hmk,hM.lie p2 lq sq iq hfresh,fun e=>absurd e hph⟩
   ·rw[if_neg hph]at hl hmk⊢
    rw[if_neg hph];have e3:m.ph=3:=by
     have: ¬m.ph≠3:=hph;omega
    obtain⟨a1,a2⟩:=h.tr e3;have hk4:q.kind≠4:=fun e=>hp ⟨e,by show m.ph≠5;omega⟩
    have hk:q.kind=1∨q.kind=2:=by
     rw[e3]at h3;unfold Qh4 at h3;rw[if_neg (by decide),if_neg (by decide),if_pos rfl]at h3;have:=of_decide_eq_true h3;omega
    obtain⟨M,hMM⟩: ∃M,YX m q=M:=⟨_,rfl⟩;have c1:M.L1=m.L1:=by rw[←hMM];rfl
    have c2:M.L2=m.L2:=by rw[←hMM];rfl
    have c3:M.st=m.st∧M.dy=m.dy∧M.an=m.an∧M.la=m.la∧M.ph=m.ph:=by rw[←hMM];exact⟨rfl,rfl,rfl,rfl,rfl⟩
    have c4:M.pk=m.pk:=by rw[←hMM];rfl
    have hlM:XY M.L1 M.L2:=by rw[c1,c2];exact h.ok_.ls
    rw[hMM]at hl hmk hM iq⊢;rw[←c1,←c2]at a1 a2;rw[←c1,←c2,←c4]at hfresh;obtain⟨b1,b2,b3,b4,b5⟩:=c3;have hside: ∀x∈JY (3-q.side) M.L1 M.L2,x∈M.L1++M.L2∧x.side=3-q.side:=fun x hx=>by
     unfold JY at hx;rcases p2 with e|e
     ·rw[if_neg (by omega)]at hx
      exact⟨List.mem_append_right _ hx,by rw[hlM.s2 x hx];omega⟩
     ·rw[if_pos (by omega)]at hx
      exact⟨List.mem_append_left _ hx,by rw[hlM.s1 x hx];omega⟩
    have hrk:Qg1 (3-q.side) (JY (3-q.side) M.L1 M.L2):=by
     unfold JY;rcases p2 with e|e
     ·rw[if_neg (by omega),e];exact hM.r2
     ·rw[if_pos (by omega),e];exact hM.r1
    have hmeet:=Xd0 (side:=Qg8 side q.id q.side) (al:=fun la p=>X4 M.st M.dy M.an la p) (JY (3-q.side) M.L1 M.L2) q M.la (Qg8 lots q.id q.qty) p2 sq lq (by have:=p1.2.2.2.1;omega) (fun x hx=>by
      obtain⟨d1,d2⟩:=hside x hx;obtain⟨f1,f2,f3⟩:=hM.has x (List.mem_append_left _ d1);exact⟨by rw[a1 x d1];decide,f1,(hlM.ok x d1).2.2.2.1,by rw[f2,d2],hfresh x (List.mem_append_left _ d1)⟩) (Xo2 hlM _) (Jy1 p2 hrk (fun x hx=>by rw[a1 x (hside x hx).1];decide))
    have hund:=Qy1 (fun la p=>X4 M.st M.dy M.an la p) (fun(_:Int) p=>p) (JY (3-q.side) M.L1 M.L2) q M.la;have er:ZW M q=ZX (fun la p=>X4 M.st M.dy M.an la p) (fun _ p=>p) (JY (3-q.side) M.L1 M.L2) q M.la:=rfl;rw[←er]at hmeet hund;have u12:VQ (UY M q).L1 M.L1∧VQ (UY M q).L2 M.L2:=by
     show VQ (if q.side=1 then M.L1 else(ZW M q).rest) M.L1∧VQ (if q.side=1 then(ZW M q).rest else M.L2) M.L2;unfold JY at hund;rcases p2 with e|e
     ·rw[if_pos e,if_pos e]
      rw[if_neg (by omega)]at hund;exact⟨VQ.refl _,hund⟩
     ·rw[if_neg (by omega),if_neg (by omega)]
      rw[if_pos (by omega)]at hund;exact⟨hund,VQ.refl _⟩
    have hqty: ∀x∈(UY M q).L1++(UY M q).L2++(UY M q).pk,x.qty=JX (Qg8 lots q.id q.qty) (ZW M q).fills x.id:=by
     have hkeep: ∀x∈M.L1++M.L2++M.pk,(∀y∈JY (3-q.side) M.L1 M.L2,y.id≠x.id)→x.qty=JX (Qg8 lots q.id q.qty) (ZW M q).fills x.id:=fun x hx hy=>by
      rw[hmeet.other x.id (hfresh x hx) hy];exact(hM.has x hx).1.symm
     have d12:=(O8 hlM).2.2;have hpk: ∀x∈M.pk,∀y∈JY (3-q.side) M.L1 M.L2,y.id≠x.id:=fun x hx y hy e=>by
      have:=hM.one;rw[List.map_append,List.nodup_append]at this;exact this.2.2 _ (List.mem_map.2 ⟨y,(hside y hy).1,rfl⟩) _ (List.mem_map.2 ⟨x,hx,rfl⟩) e
     intro x hx;have hx:x∈((if q.side=1 then M.L1 else(ZW M q).rest)++(if q.side=1 then(ZW M q).rest else M.L2))++M.pk:=hx;rcases List.mem_append.1 hx with hx|hx
     ·rcases p2 with e|e
      ·rw[if_pos e,if_pos e]at hx
       rcases List.mem_append.1 hx with hx|hx
       ·refine hkeep x (List.mem_append_left _ (List.mem_append_left _ hx)) (fun y hy e2=> ?_)
        unfold JY at hy;rw[if_neg (by omega)]at hy;exact d12 x hx y hy e2.symm
       ·exact hmeet.rest x hx
      ·rw[if_neg (by omega),if_neg (by omega)]at hx
       rcases List.mem_append.1 hx with hx|hx
       ·exact hmeet.rest x hx
       ·refine hkeep x (List.mem_append_left _ (List.mem_append_right _ hx)) (fun y hy e2=> ?_)
        unfold JY at hy;rw[if_pos (by omega)]at hy;exact d12 y hy x hx e2
     ·exact hkeep x (List.mem_append_right _ hx) (hpk x hx)
    have w1:Qf1 (UY M q) (JX (Qg8 lots q.id q.qty) (ZW M q).fills) (Qg8 side q.id q.side):=hM.under u12.1 u12.2 (VQ.refl _) rfl hqty;obtain⟨k1,k2,k3,k4⟩:=Qa7 hmeet.key.symm;have hfr1: ∀x∈(UY M q).L1++(UY M q).L2++(UY M q).pk,x.id≠(ZW M q).left.id:=fun x hx e=>by
     obtain⟨y,hy,ey⟩:=((u12.1.append u12.2).append (VQ.refl M.pk)).mem hx;exact hfresh y hy (by rw[←(Qa7 ey).1,e,k1])
    have w2:Qf1 (VK M q) (JX (Qg8 lots q.id q.qty) (ZW M q).fills) (Qg8 side q.id q.side):=by
     unfold VK
     split
     ·exact w1.lie (by rw[k2];exact p2) (by rw[k1];exact hmeet.left.symm) (by rw[k1,k2];exact sq) (by rw[k1];exact iq) hfr1
     ·exact w1
    have w3:Qf1 (Z2 M q) (JX (Qg8 lots q.id q.qty) (ZW M q).fills) (Qg8 side q.id q.side):=by
     unfold Z2
     split
     ·exact w2.vol
     ·exact w2
    refine⟨hmeet.good, ?_,fun _=>e3,hmk,w3, ?_⟩
    ·rw[←b1,←b2,←b3,←b4];exact hmeet.bands
    ·intro hph3
     unfold Z2 at hph3⊢
     by_cases hst:(ZW M q).stop=true
     ·rw[if_pos hst]at hph3
      exact absurd hph3 (by show¬((4:Int)=3);omega)
     ·rw[if_neg hst]
      have ap1:Xy3 (UY M q).L1 (UY M q).L2:=by
       refine⟨fun x hx=> ?_,fun x hx y hy=> ?_⟩
       ·obtain⟨y,hy,ey⟩:=(u12.1.append u12.2).mem hx
        rw[(Qa7 ey).2.2.1];exact a1 y hy
       ·obtain⟨x',hx',ex⟩:=u12.1.mem hx
        obtain⟨y',hy',ey⟩:=u12.2.mem hy;rw[(Qa7 ex).2.2.2,(Qa7 ey).2.2.2];exact a2 x' hx' y' hy'
      unfold VK
      by_cases hlie:0< (ZW M q).left.qty∧(ZW M q).left.kind≠2
      ·rw[if_pos hlie]
       have hb:=(hmeet.stop (by simpa using hst)).resolve_left (by omega);have kq:q.kind=1:=by
        rcases hk with e|e
        ·exact e
        ·exact absurd (k3.trans e) hlie.2
       by_cases had:Qk9 (UY M q).L1 (UY M q).L2 (ZW M q).left=0
       ·have e1:(Qc8 (UY M q) (ZW M q).left).L1=Qb8 1 (UY M q).L1 (ZW M q).left:=if_pos had
        have e2:(Qc8 (UY M q) (ZW M q).left).L2=Qb8 2 (UY M q).L2 (ZW M q).left:=if_pos had;rw[e1,e2];have epr:JJ (ZW M q).left=(ZW M q).left:=by
         obtain⟨z,hz⟩: ∃z,(ZW M q).left=z:=⟨_,rfl⟩;rw[hz]at k3⊢;unfold JJ;rw[if_neg (by rw[k3,kq];decide)]
        unfold Qb8;rw[epr];have hbey: ∀x∈(ZW M q).rest,(q.side=1→q.price<x.price)∧(q.side=2→x.price<q.price):=fun x hx=>by
         have:=hb x hx;unfold YQ at this;rw[kq]at this;simp at this;exact⟨fun e=>by omega,fun e=>by omega⟩
        rcases p2 with e|e
        ·have es:(ZW M q).left.side=1:=k2.trans e
         rw[if_pos es,if_neg (by omega)];have er2:(UY M q).L2=(ZW M q).rest:=if_pos e;refine⟨fun x hx=> ?_,fun x hx y hy=> ?_⟩
         ·rcases List.mem_append.1 hx with hx|hx
          ·rcases Qq4.1 hx with rfl|hx
           ·exact k3.trans kq
           ·exact ap1.1 x (List.mem_append_left _ hx)
          ·exact ap1.1 x (List.mem_append_right _ hx)
         ·rcases Qq4.1 hx with rfl|hx
          ·rw[k4]
           exact(hbey y (er2▸hy)).1 e
          ·exact ap1.2 x hx y hy
        ·have es:(ZW M q).left.side=2:=k2.trans e
         rw[if_neg (by omega),if_pos es];have er2:(UY M q).L1=(ZW M q).rest:=if_neg (by omega);refine⟨fun x hx=> ?_,fun x hx y hy=> ?_⟩
         ·rcases List.mem_append.1 hx with hx|hx
          ·exact ap1.1 x (List.mem_append_left _ hx)
          ·rcases Qq4.1 hx with rfl|hx
           ·exact k3.trans kq
           ·exact ap1.1 x (List.mem_append_right _ hx)
         ·rcases Qq4.1 hy with rfl|hy
          ·rw[k4]
           exact(hbey x (er2▸hx)).2 e
          ·exact ap1.2 x hx y hy
       ·have e1:(Qc8 (UY M q) (ZW M q).left).L1=(UY M q).L1:=if_neg had
        have e2:(Qc8 (UY M q) (ZW M q).left).L2=(UY M q).L2:=if_neg had;rw[e1,e2];exact ap1
      ·rw[if_neg hlie]
       exact ap1
 ·rw[if_neg he,if_neg he]
  have eS:OK m o=m:=if_neg he;have eF:Qd3 m o= []:=if_neg he;rw[eS,eF,OQ];exact⟨ZY.nil _ _,IY.nil _ _,fun e=>absurd rfl e,h⟩
end
end Go.Proofs.YtnlngicnfegjgaaGreatDoor
