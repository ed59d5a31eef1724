/- Contracts and walks that the law's proof needs. -/
import Derived.Test.YtnlngicnfegjgaaGreatZf40
set_option linter.unusedVariables false
set_option maxRecDepth 100000
set_option maxHeartbeats 8000000
namespace Go.Proofs.YtnlngicnfegjgaaGreat
open Go.RowKit
def Qd1 (o:QX):Int×Int×Int×Int:=(o.id,o.side,o.kind,o.price)
def Kc2 (s p:Int) (k:Int×Int×Int×Int):Bool:=(k.2.2.1 ==2) || ((s ==1) &&decide (p≤k.2.2.2)) || ((s ==2) &&decide (k.2.2.2≤p))
def ZY (K L:List QX):Prop:=(K.map Qd1).Sublist (L.map Qd1)
section
variable {K L K' L' M:List QX} {s:Int}
theorem ZY.refl (L:List QX):ZY L L:=List.Sublist.refl _
theorem ZY.trans (h:ZY K L) (h':ZY L M):ZY K M:=List.Sublist.trans h h'
theorem ZY.of_sub (h:K.Sublist L):ZY K L:=h.map _
theorem ZY.append (h:ZY K L) (h':ZY K' L'):ZY (K++K') (L++L'):=by
 unfold ZY
 rw[List.map_append,List.map_append]
 exact List.Sublist.append h h'
theorem ZY.nil (L:List QX):ZY [] L:=List.nil_sublist _
theorem ZY.cons {x y:QX} (h:ZY K L) (e:Qd1 x=Qd1 y):ZY (x::K) (y::L):=by
 unfold ZY
 rw[List.map_cons,List.map_cons,e]
 exact List.Sublist.cons_cons _ h
theorem ZY.skip (h:ZY K L) (y:QX):ZY K (y::L):=List.Sublist.cons _ h
theorem ZY.mem (h:ZY K L) {x:QX} (hx:x∈K): ∃o∈L,Qd1 o=Qd1 x:=by
 have h1:=h.subset (List.mem_map.2 ⟨x,hx,rfl⟩)
 obtain⟨o,ho,e⟩:=List.mem_map.1 h1
 exact⟨o,ho,e⟩
theorem ZY.ranked (h:ZY K L) (hr:Qg2 s L):Qg2 s K:=by
 have h1:(L.map Qd1).Pairwise (fun a b=> ∀p,Kc2 s p b=true→Kc2 s p a=true):=List.pairwise_map.2 hr
 have h2:(K.map Qd1).Pairwise (fun a b=> ∀p,Kc2 s p b=true→Kc2 s p a=true):=h1.sublist h
 rw[List.pairwise_map]at h2
 exact h2
theorem Xx8 (L:List QX):L.map (·.id)=(L.map Qd1).map (·.1):=by rw[List.map_map];rfl
theorem ZY.nodup (h:ZY K L) (hn:(L.map (·.id)).Nodup):(K.map (·.id)).Nodup:=by
 rw[Xx8]at hn⊢
 exact List.Nodup.sublist (List.Sublist.map _ h) hn
theorem Qa7 {x o:QX} (h:Qd1 o=Qd1 x):x.id=o.id∧x.side=o.side∧x.kind=o.kind∧x.price=o.price:=by
 unfold Qd1 at h
 simp only[Prod.mk.injEq]at h
 exact⟨h.1.symm,h.2.1.symm,h.2.2.1.symm,h.2.2.2.symm⟩
end
theorem Qj3: ∀(L:List QX) (a:Int),ZY (ZZ L a) L
 | [],a=>ZY.refl _
 |o::t,a=>by
  unfold ZZ
  split
  ·exact ZY.refl _
  ·split
   ·exact(Qj3 t _).skip o
   ·exact(ZY.refl t).cons rfl
theorem Jv1 (m:ZX) (L:List QX):ZY (Qp3 m L) L:=by
 unfold Qp3
 refine(ZY.of_sub List.filter_sublist).trans ?_
 split
 ·exact Qj3 _ _
 ·exact ZY.refl _
theorem Xq4 (x:QX) (n:Int):ZY (Qg5 x n) [x]:=by
 unfold Qg5
 split
 ·exact ZY.nil _
 ·exact(ZY.refl []).cons rfl
theorem Qy5 {σ:Type} (al:σ→Int→Bool) (tr:σ→Int→σ): ∀(L:List QX) (o:QX) (s:σ),ZY (ZJ al tr L o s).rest L
 | [],o,s=>ZY.refl _
 |x::t,o,s=>by
  unfold ZJ
  split
  ·exact ZY.refl _
  ·split
   ·exact(Qy5 al tr t o s).cons rfl
   ·split
    ·exact ZY.refl _
    ·split
     ·exact ZY.refl _
     ·exact(Xq4 x _).append (Qy5 al tr t _ _)
theorem Jv2 (L:List QX) (id:Int):ZY (O6 L id) L:=ZY.of_sub List.filter_sublist
theorem Xx9 (L:List QX) (k:Nat):ZY (Jk0 L k) L:=by
 refine ZY.of_sub ?_
 unfold Jk0
 have h:(L.take k++L.drop (k+1)).Sublist (L.take k++L.drop k):=List.Sublist.append (List.Sublist.refl _) (by
  have e:L.drop (k+1)=(L.drop k).drop 1:=by rw[List.drop_drop]
  rw[e];exact List.drop_sublist _ _)
 rw[List.take_append_drop]at h
 exact h
theorem Jh5 (g:JV→Int) (l l':List JV):I2 g (l++l')=I2 g l+I2 g l':=by
 induction l with
 |nil=>show I2 g l'=0+I2 g l';omega
 |cons f t ih=>show g f+I2 g (t++l')=g f+I2 g t+I2 g l';omega
theorem Jh6 {g:JV→Int} {l:List JV} (h: ∀f∈l,0≤g f):0≤I2 g l:=by
 induction l with
 |nil=>exact Int.le_refl _
 |cons f t ih=>
  have h1:=h f (List.mem_cons_self);have h2:=ih (fun z hz=>h z (List.mem_cons_of_mem _ hz));show 0≤g f+I2 g t;omega
theorem Kc3 {g:JV→Int} {l:List JV} (h: ∀f∈l,g f=0):I2 g l=0:=by
 induction l with
 |nil=>rfl
 |cons f t ih=>
  have h1:=h f (List.mem_cons_self);have h2:=ih (fun z hz=>h z (List.mem_cons_of_mem _ hz));show g f+I2 g t=0;omega
def Qm7 (F:List JV) (id:Int):Int:=I2 (fun f=>if f.b=id then f.n else 0) F
def Jd3 (F:List JV) (id:Int):Int:=I2 (fun f=>if f.s=id then f.n else 0) F
def Z7 (F:List JV) (id:Int):Int:=Qm7 F id+Jd3 F id
theorem Qh8 (id:Int):Z7 [] id=0:=rfl
theorem Qy6 (f:JV) (F:List JV) (id:Int):Z7 (f::F) id=((if f.b=id then f.n else 0)+ (if f.s=id then f.n else 0))+Z7 F id:=by
 unfold Z7 Qm7 Jd3
 show(if f.b=id then f.n else 0)+I2 _ F+ ((if f.s=id then f.n else 0)+I2 _ F)=_
 omega
theorem Xq5 (F:List JV) (f:JV) (id:Int):Z7 (F++ [f]) id=Z7 F id+ ((if f.b=id then f.n else 0)+ (if f.s=id then f.n else 0)):=by
 unfold Z7 Qm7 Jd3
 rw[Jh5,Jh5]
 show I2 _ F+ ((if f.b=id then f.n else 0)+0)+ (I2 _ F+ ((if f.s=id then f.n else 0)+0))=_
 omega
def JX (lots:Int→Int) (F:List JV) (id:Int):Int:=lots id-Z7 F id
def ZW (lots side:Int→Int) (F:List JV):Prop:=
 ∀F1 f F2,F=F1++f::F2→1≤f.n∧side f.b=1∧side f.s=2∧f.n≤lots f.b-Z7 F1 f.b∧f.n≤lots f.s-Z7 F1 f.s
theorem ZW.nil (lots side:Int→Int):ZW lots side []:=fun F1 f F2 h=>by cases F1<;>cases h
theorem ZW.cons {lots side:Int→Int} {f:JV} {F:List JV} (h1:1≤f.n) (hb:side f.b=1) (hs:side f.s=2) (lb:f.n≤lots f.b) (ls:f.n≤lots f.s)
  (h:ZW (fun id=>lots id- ((if f.b=id then f.n else 0)+ (if f.s=id then f.n else 0))) side F):ZW lots side (f::F):=by
 intro F1 g F2 e
 cases F1 with
 |nil=>
  rw[List.nil_append]at e
  cases e;exact⟨h1,hb,hs,by rw[Qh8];omega,by rw[Qh8];omega⟩
 |cons z F1=>
  rw[List.cons_append]at e
  cases e;obtain⟨a1,a2,a3,a4,a5⟩:=h F1 g F2 rfl;refine⟨a1,a2,a3, ?_, ?_⟩
  ·rw[Qy6];dsimp only at a4;omega
  ·rw[Qy6];dsimp only at a5;omega
def Jk5 (la:Int):List JV→Int
 | []=>la
 |f::F=>Jk5 f.p F
theorem Xq6 (la:Int) (F:List JV) (f:JV):Jk5 la (F++ [f])=f.p:=by
 induction F generalizing la with
 |nil=>rfl
 |cons g F ih=>exact ih g.p
def IY (al:Int→Int→Bool) (la:Int) (F:List JV):Prop:= ∀F1 f F2,F=F1++f::F2→al (Jk5 la F1) f.p=true
theorem IY.nil (al:Int→Int→Bool) (la:Int):IY al la []:=fun F1 f F2 h=>by cases F1<;>cases h
theorem IY.cons {al:Int→Int→Bool} {la:Int} {f:JV} {F:List JV} (h1:al la f.p=true) (h:IY al f.p F):IY al la (f::F):=by
 intro F1 g F2 e
 cases F1 with
 |nil=>
  rw[List.nil_append]at e
  cases e;exact h1
 |cons z F1=>
  rw[List.cons_append]at e
  cases e;exact h F1 g F2 rfl
theorem Xd0 {L:List QX} (hn:(L.map (·.id)).Nodup) (hq: ∀o∈L,1≤o.qty) {o:QX} (ho:o∈L) (a:Int):Y8 L a o.id≤o.qty:=by
 obtain⟨pre,post,rfl⟩:=List.append_of_mem ho
 rw[Kh6 hn]
 have:=hq o ho
 unfold Qt2
 split
 ·omega
 ·split<;>omega
theorem Jd4 {lots:Int→Int} {x:QX}: ∀ {L:List QX} {a:Int},(L.map (·.id)).Nodup→(∀o∈L,1≤o.qty)→(∀o∈L,lots o.id=o.qty)→x∈ZZ L a→x.qty=lots x.id-Y8 L a x.id
 | [],a,_,_,_,h=>by cases h
 |o::t,a,hn,hq,hl,h=>by
  rw[List.map_cons,List.nodup_cons]at hn;have ho:=hl o (by simp);have hoq:=hq o (by simp);have ht: ∀y∈t,y.id≠o.id:=fun y hy e=>hn.1 (by rw[←e];exact List.mem_map.2 ⟨y,hy,rfl⟩)
  have hlt: ∀y∈t,lots y.id=y.qty:=fun y hy=>hl y (by simp[hy])
  have hqt: ∀y∈t,1≤y.qty:=fun y hy=>hq y (by simp[hy])
  by_cases ha:a≤0
  ·rw[Qh7 _ ha]at h
   rw[Y1 x.id (o::t) ha hq,hl x h];omega
  ·unfold ZZ at h
   rw[if_neg ha]at h
   by_cases hb:o.qty≤a
   ·rw[if_pos hb]at h
    have ih:=Jd4 hn.2 hqt hlt h;obtain⟨y,hy,e⟩:=(Qj3 t (a-o.qty)).mem h;have e1:=(Qa7 e).1;have hne:o.id≠x.id:=fun e2=>ht y hy (by rw[←e1,e2])
    rw[ih];unfold Y8;rw[if_neg hne]
    cases t with
    |nil=>rfl
    |cons _ _=>rfl
   ·rw[if_neg hb]at h
    rcases List.mem_cons.1 h with rfl|h
    ·show o.qty-a=lots o.id-Y8 (o::t) a o.id
     unfold Y8;rw[if_pos rfl,ho];unfold Qt2;rw[if_neg ha,if_pos (by omega)]
    ·have hne:o.id≠x.id:=fun e2=>ht x h e2.symm
     unfold Y8;rw[if_neg hne];have:=Y1 x.id t (a:=a-o.qty) (by omega) hqt;have e3:=hlt x h;omega
theorem Xy0 {m:ZX} {lots side:Int→Int} {F:List JV} (hl:XY m.L1 m.L2) (h1: ∀o∈m.L1++m.L2,lots o.id=o.qty∧side o.id=o.side) (hF:Qt4 m F):
  ZW lots side F∧(∀o∈Qp3 m m.L1++Qp3 m m.L2,o.qty=JX lots F o.id)∧ ∀id,(∀o∈m.L1++m.L2,o.id≠id)→JX lots F id=lots id:=by
 obtain⟨d1,d2,d12⟩:=O8 hl
 have q1: ∀o∈m.L1,1≤o.qty:=fun o ho=>(hl.ok o (List.mem_append_left _ ho)).2.2.2.1
 have q2: ∀o∈m.L2,1≤o.qty:=fun o ho=>(hl.ok o (List.mem_append_right _ ho)).2.2.2.1
 have l1: ∀o∈m.L1,lots o.id=o.qty∧side o.id=o.side:=fun o ho=>h1 o (List.mem_append_left _ ho)
 have l2: ∀o∈m.L2,lots o.id=o.qty∧side o.id=o.side:=fun o ho=>h1 o (List.mem_append_right _ ho)
 unfold Qt4 at hF
 by_cases hq:0< (YW m).2.1
 ·rw[if_pos hq]at hF
  have hF:=hF.1;have hn: ∀f∈F,1≤f.n:=fun f hf=>(hF.one f hf).2.1
  have nb: ∀(G:List JV),(∀f∈G,f∈F)→ ∀id,(∀o∈m.L1,o.id≠id)→Qm7 G id=0:=fun G hG id QQ=>Kc3 fun f hf=>if_neg fun e=>by
   obtain⟨o,ho,e2⟩:=(hF.one f (hG f hf)).2.2.1;exact QQ o ho (by rw[e2,e])
  have ns: ∀(G:List JV),(∀f∈G,f∈F)→ ∀id,(∀o∈m.L2,o.id≠id)→Jd3 G id=0:=fun G hG id QQ=>Kc3 fun f hf=>if_neg fun e=>by
   obtain⟨o,ho,e2⟩:=(hF.one f (hG f hf)).2.2.2;exact QQ o ho (by rw[e2,e])
  refine⟨fun F1 f F2 e=> ?_,fun x hx=> ?_,fun id QQ=> ?_⟩
  ·have hf:f∈F:=by rw[e];simp
   have hF1: ∀g∈F1,g∈F:=fun g hg=>by rw[e];simp[hg]
   have hF2: ∀g∈F2,g∈F:=fun g hg=>by rw[e];simp[hg]
   obtain⟨o,ho,eo⟩:=(hF.one f hf).2.2.1;obtain⟨y,hy,ey⟩:=(hF.one f hf).2.2.2;have a1:=Xd0 d1 q1 ho (YW m).2.1;have a2:=Xd0 d2 q2 hy (YW m).2.1;rw[←hF.buy o.id,e,Jh5]at a1;rw[←hF.sell y.id,e,Jh5]at a2;have b1:I2 (fun f=>if f.b=o.id then f.n else 0) (f::F2)=f.n+I2 (fun f=>if f.b=o.id then f.n else 0) F2:=by
    show(if f.b=o.id then f.n else 0)+_=_;rw[if_pos eo.symm]
   have b2:I2 (fun f=>if f.s=y.id then f.n else 0) (f::F2)=f.n+I2 (fun f=>if f.s=y.id then f.n else 0) F2:=by
    show(if f.s=y.id then f.n else 0)+_=_;rw[if_pos ey.symm]
   have c1:0≤I2 (fun f=>if f.b=o.id then f.n else 0) F2:=Jh6 fun g hg=>by
    have:=hn g (hF2 g hg)
    split<;>omega
   have c2:0≤I2 (fun f=>if f.s=y.id then f.n else 0) F2:=Jh6 fun g hg=>by
    have:=hn g (hF2 g hg)
    split<;>omega
   have s1:=ns F1 hF1 o.id (fun z hz e3=>d12 o ho z hz e3.symm);have s2:=nb F1 hF1 y.id (fun z hz e3=>d12 z hz y hy e3);have t1:Qm7 F1 o.id=I2 (fun f=>if f.b=o.id then f.n else 0) F1:=rfl;have t2:Jd3 F1 y.id=I2 (fun f=>if f.s=y.id then f.n else 0) F1:=rfl;refine⟨hn f hf, ?_, ?_, ?_, ?_⟩
   ·rw[←eo,(l1 o ho).2];exact hl.s1 o ho
   ·rw[←ey,(l2 y hy).2];exact hl.s2 y hy
   ·rw[←eo,(l1 o ho).1];unfold Z7;omega
   ·rw[←ey,(l2 y hy).1];unfold Z7;omega
  ·unfold JX Z7
   have hx':(x∈ZZ m.L1 (YW m).2.1)∨(x∈ZZ m.L2 (YW m).2.1):=by
    rcases List.mem_append.1 hx with hx|hx
    ·unfold Qp3 at hx
     rw[if_pos hq]at hx;exact .inl (List.mem_filter.1 hx).1
    ·unfold Qp3 at hx
     rw[if_pos hq]at hx;exact .inr (List.mem_filter.1 hx).1
   rcases hx' with hx|hx
   ·have e:=Jd4 d1 q1 (fun o ho=>(l1 o ho).1) hx
    obtain⟨o,ho,ek⟩:=(Qj3 _ _).mem hx;have ek1:=(Qa7 ek).1;have s1:=ns F (fun _ h=>h) x.id (fun z hz e3=>d12 o ho z hz (by rw[e3,ek1]));have t1:Qm7 F x.id=Y8 m.L1 (YW m).2.1 x.id:=hF.buy x.id;omega
   ·have e:=Jd4 d2 q2 (fun o ho=>(l2 o ho).1) hx
    obtain⟨o,ho,ek⟩:=(Qj3 _ _).mem hx;have ek1:=(Qa7 ek).1;have s1:=nb F (fun _ h=>h) x.id (fun z hz e3=>d12 z hz o ho (by rw[e3,ek1]));have t1:Jd3 F x.id=Y8 m.L2 (YW m).2.1 x.id:=hF.sell x.id;omega
  ·have s1:=nb F (fun _ h=>h) id (fun o ho=>QQ o (List.mem_append_left _ ho))
   have s2:=ns F (fun _ h=>h) id (fun o ho=>QQ o (List.mem_append_right _ ho));unfold JX Z7;omega
 ·rw[if_neg hq]at hF
  subst hF;have e0: ∀id,JX lots [] id=lots id:=fun id=>by unfold JX;rw[Qh8];omega
  refine⟨ZW.nil _ _,fun x hx=> ?_,fun id _=>e0 id⟩;rw[e0];have:x∈m.L1++m.L2:=by
   unfold Qp3 at hx;rw[if_neg hq,if_neg hq]at hx;rcases List.mem_append.1 hx with hx|hx
   ·exact List.mem_append_left _ (List.mem_filter.1 hx).1
   ·exact List.mem_append_right _ (List.mem_filter.1 hx).1
  exact(h1 x this).1.symm
def Xy1 (L1 L2:List QX):Prop:=(∀o∈L1++L2,o.kind=1)∧ ∀x∈L1,∀y∈L2,x.price<y.price
theorem Xd1 {m:ZX} (hl:XY m.L1 m.L2) (r1:Qg2 1 m.L1) (r2:Qg2 2 m.L2) (hla:1≤m.la):Xy1 (Qp3 m m.L1) (Qp3 m m.L2):=by
 have q1: ∀o∈m.L1,1≤o.qty:=fun o ho=>(hl.ok o (List.mem_append_left _ ho)).2.2.2.1
 have q2: ∀o∈m.L2,1≤o.qty:=fun o ho=>(hl.ok o (List.mem_append_right _ ho)).2.2.2.1
 have hb:=(Jz4 (Jn8 hl) hla m.la).1
 have hm: ∀ {x:QX} {L:List QX},x∈Qp3 m L→x.kind=1∧x∈ZZ L (YW m).2.1:=fun {x L} hx=>by
  unfold Qp3 at hx;obtain⟨h1,h2⟩:=List.mem_filter.1 hx;refine⟨by simpa using h2, ?_⟩
  by_cases hq:0< (YW m).2.1
  ·rw[if_pos hq]at h1;exact h1
  ·rw[if_neg hq]at h1
   rw[Qh7 _ (by omega)];exact h1
 refine⟨fun o ho=> ?_,fun x hx y hy=> ?_⟩
 ·rcases List.mem_append.1 ho with ho|ho
  ·exact(hm ho).1
  ·exact(hm ho).1
 ·obtain⟨kx,dx⟩:=hm hx
  obtain⟨ky,dy⟩:=hm hy;rcases Int.lt_or_le x.price y.price with h|h
  ·exact h
  ·exfalso
   have a1:=Jj7 (p:=y.price) r1 q1 dx (by unfold O2;simp[h]);have a2:=Jj7 (p:=y.price) r2 q2 dy (by unfold O2;simp);have a3:=hb y.price;rw[Xc3 hl,Xc4 hl]at a3;have e:(YW m).2.1=(Q7 (Z9 (m.L1++m.L2) m.la) m.la).2.1:=rfl;omega
theorem Xy2 {σ:Type} (al:σ→Int→Bool) (tr:σ→Int→σ) (L:List QX) (o:QX) (s:σ) (h:o.qty<1):(ZJ al tr L o s).left=o:=by
 cases L with
 |nil=>rfl
 |cons x t=>unfold ZJ;rw[if_pos h]
theorem Jd5 {o o' x:QX} (h:Qd1 o=Qd1 o'):YQ o x=YQ o' x:=by
 obtain⟨e1,e2,e3,e4⟩:=Qa7 h
 unfold YQ
 rw[e2,e3,e4]
structure Ku6 (lots side:Int→Int) (al:Int→Int→Bool) (L:List QX) (o:QX) (s:Int) (r:O9 Int):Prop where
 good:ZW lots side r.fills
 bands:IY al s r.fills
 left:r.left.qty=JX lots r.fills o.id
 key:Qd1 r.left=Qd1 o
 pos:0≤r.left.qty
 rest: ∀x∈r.rest,x.qty=JX lots r.fills x.id
 other: ∀id,id≠o.id→(∀x∈L,x.id≠id)→JX lots r.fills id=lots id
 stop:r.stop=false→r.left.qty<1∨ ∀x∈r.rest,YQ o x=true
theorem Xd2 {side:Int→Int} {al:Int→Int→Bool}: ∀(L:List QX) (o:QX) (s:Int) (lots:Int→Int),VV o.side→side o.id=o.side→lots o.id=o.qty→0≤o.qty→(∀x∈L,x.kind≠2∧lots x.id=x.qty∧1≤x.qty∧side x.id=3-o.side∧x.id≠o.id)→(L.map (·.id)).Nodup→
  L.Pairwise (fun a b=>YQ o a=true→YQ o b=true)→Ku6 lots side al L o s (ZJ al (fun _ p=>p) L o s)
 | [],o,s,lots,h1,h2,h3,h4,h5,h6,h7=>by
  have e0: ∀id,JX lots [] id=lots id:=fun id=>by unfold JX;rw[Qh8];omega
  exact⟨ZW.nil _ _,IY.nil _ _,by show o.qty=JX lots [] o.id;rw[e0,h3],rfl,h4,fun x hx=>(by cases hx),fun id _ _=>e0 id,fun _=> .inr fun x hx=>(by cases hx)⟩
 |x::t,o,s,lots,h1,h2,h3,h4,h5,h6,h7=>by
  have e0: ∀id,JX lots [] id=lots id:=fun id=>by unfold JX;rw[Qh8];omega
  obtain⟨x1,x2,x3,x4,x5⟩:=h5 x (by simp);have ht: ∀y∈t,y.kind≠2∧lots y.id=y.qty∧1≤y.qty∧side y.id=3-o.side∧y.id≠o.id:=fun y hy=>h5 y (by simp[hy])
  rw[List.map_cons,List.nodup_cons]at h6;have hxt: ∀y∈t,y.id≠x.id:=fun y hy e=>h6.1 (by rw[←e];exact List.mem_map.2 ⟨y,hy,rfl⟩)
  have h7':=List.pairwise_cons.1 h7;unfold ZJ
  by_cases hq:o.qty<1
  ·rw[if_pos hq]
   exact⟨ZW.nil _ _,IY.nil _ _,by show o.qty=JX lots [] o.id;rw[e0,h3],rfl,h4,fun y hy=>by show y.qty=JX lots [] y.id;rw[e0,(h5 y hy).2.1],fun id _ _=>e0 id,fun _=> .inl hq⟩
  ·rw[if_neg hq,if_neg x1]
   by_cases hb:YQ o x=true
   ·rw[if_pos hb]
    refine⟨ZW.nil _ _,IY.nil _ _,by show o.qty=JX lots [] o.id;rw[e0,h3],rfl,h4,fun y hy=>by show y.qty=JX lots [] y.id;rw[e0,(h5 y hy).2.1],fun id _ _=>e0 id,fun _=> .inr fun y hy=> ?_⟩;rcases List.mem_cons.1 hy with rfl|hy
    ·exact hb
    ·exact h7'.1 y hy hb
   ·rw[if_neg hb]
    by_cases ha:al s x.price=false
    ·rw[if_pos ha]
     exact⟨ZW.nil _ _,IY.nil _ _,by show o.qty=JX lots [] o.id;rw[e0,h3],rfl,h4,fun y hy=>by show y.qty=JX lots [] y.id;rw[e0,(h5 y hy).2.1],fun id _ _=>e0 id,fun e=>by cases e⟩
    ·rw[if_neg ha]
     obtain⟨n,hn⟩: ∃n,min o.qty x.qty=n:=⟨_,rfl⟩;rw[hn];have n1:1≤n:=by omega
     have n2:n≤o.qty:=by omega
     have n3:n≤x.qty:=by omega
     obtain⟨f,hf⟩: ∃f,Jg7 o x n=f:=⟨_,rfl⟩;rw[hf];have fp:f.p=x.price∧f.n=n:=by
      rw[←hf];unfold Jg7;split<;>exact⟨rfl,rfl⟩
     have fid:(f.b=o.id∧f.s=x.id∧side f.b=1∧side f.s=2)∨(f.b=x.id∧f.s=o.id∧side f.b=1∧side f.s=2):=by
      rw[←hf];unfold Jg7;rcases h1 with e|e
      ·rw[if_neg (by omega)]
       exact .inl ⟨rfl,rfl,by show side o.id=1;omega,by show side x.id=2;omega⟩
      ·rw[if_pos e]
       exact .inr ⟨rfl,rfl,by show side x.id=1;omega,by show side o.id=2;omega⟩
     have hd: ∀id,((if f.b=id then f.n else 0)+ (if f.s=id then f.n else 0))=(if id=o.id then n else 0)+ (if id=x.id then n else 0):=by
      intro id;rw[fp.2];rcases fid with⟨e1,e2,-,-⟩|⟨e1,e2,-,-⟩
      ·rw[e1,e2]
       by_cases a1:o.id=id
       ·rw[if_pos a1,if_pos a1.symm]
        by_cases a2:x.id=id
        ·rw[if_pos a2,if_pos a2.symm]
        ·rw[if_neg a2,if_neg (Ne.symm a2)]
       ·rw[if_neg a1,if_neg (Ne.symm a1)]
        by_cases a2:x.id=id
        ·rw[if_pos a2,if_pos a2.symm]
        ·rw[if_neg a2,if_neg (Ne.symm a2)]
      ·rw[e1,e2]
       by_cases a1:o.id=id
       ·rw[if_pos a1,if_pos a1.symm]
        by_cases a2:x.id=id
        ·rw[if_pos a2,if_pos a2.symm]
        ·rw[if_neg a2,if_neg (Ne.symm a2)];omega
       ·rw[if_neg a1,if_neg (Ne.symm a1)]
        by_cases a2:x.id=id
        ·rw[if_pos a2,if_pos a2.symm];omega
        ·rw[if_neg a2,if_neg (Ne.symm a2)]
     obtain⟨lots2,hl2⟩: ∃l:Int→Int,(fun id=>lots id- ((if f.b=id then f.n else 0)+ (if f.s=id then f.n else 0)))=l:=⟨_,rfl⟩;have el: ∀id,lots2 id=lots id- ((if id=o.id then n else 0)+ (if id=x.id then n else 0)):=fun id=>by rw[←hl2];dsimp only;rw[hd]
     have eo:lots2 o.id=o.qty-n:=by rw[el,if_pos rfl,if_neg (Ne.symm x5),h3];omega
     have ex:lots2 x.id=x.qty-n:=by rw[el,if_neg x5,if_pos rfl,x2];omega
     have ey: ∀id,id≠o.id→id≠x.id→lots2 id=lots id:=fun id a b=>by rw[el,if_neg a,if_neg b];omega
     have ih:=Xd2 (al:=al) t (U9 o n) x.price lots2 h1 h2 eo (by show 0≤o.qty-n;omega) (fun y hy=>by
      obtain⟨y1,y2,y3,y4,y5⟩:=ht y hy;exact⟨y1,by rw[ey y.id y5 (hxt y hy)];exact y2,y3,y4,y5⟩) h6.2 (by
      refine h7'.2.imp ?_;intro a b hab;rw[Jd5 (show Qd1 (U9 o n)=Qd1 o from rfl),Jd5 (show Qd1 (U9 o n)=Qd1 o from rfl)];exact hab)
     have hdone:=Xy2 al (fun _ p=>p) t (U9 o n) x.price;obtain⟨r,hr⟩: ∃r,ZJ al (fun _ p=>p) t (U9 o n) x.price=r:=⟨_,rfl⟩;rw[hr]at ih hdone⊢;have ela: ∀id,JX lots (f::r.fills) id=JX lots2 r.fills id:=fun id=>by
      unfold JX;rw[Qy6,←hl2];dsimp only;omega
     refine⟨?_, ?_, ?_,ih.key,ih.pos, ?_, ?_, ?_⟩
     ·have g1:f.n≤lots f.b∧f.n≤lots f.s:=by
       rw[fp.2];rcases fid with⟨e1,e2,-,-⟩|⟨e1,e2,-,-⟩
       ·rw[e1,e2,h3,x2];exact⟨n2,n3⟩
       ·rw[e1,e2,h3,x2];exact⟨n3,n2⟩
      have g2:side f.b=1∧side f.s=2:=by
       rcases fid with⟨-,-,e1,e2⟩|⟨-,-,e1,e2⟩<;>exact⟨e1,e2⟩
      exact ZW.cons (by omega) g2.1 g2.2 g1.1 g1.2 (by rw[hl2];exact ih.good)
     ·refine IY.cons ?_ ?_
      ·rw[fp.1];simpa using ha
      ·rw[fp.1];exact ih.bands
     ·show r.left.qty=JX lots (f::r.fills) o.id
      rw[ela];exact ih.left
     ·intro y hy
      show y.qty=JX lots (f::r.fills) y.id;rw[ela];have hy:y∈Qg5 x n++r.rest:=hy;rcases List.mem_append.1 hy with hy|hy
      ·unfold Qg5 at hy
       by_cases hnx:n=x.qty
       ·rw[if_pos hnx]at hy;cases hy
       ·rw[if_neg hnx,List.mem_singleton]at hy
        subst hy;show x.qty-n=JX lots2 r.fills x.id;rw[ih.other x.id x5 (fun z hz=>hxt z hz),ex]
      ·exact ih.rest y hy
     ·intro id QQ hL
      show JX lots (f::r.fills) id=lots id;rw[ela,ih.other id QQ (fun z hz=>hL z (List.mem_cons_of_mem _ hz)),ey id QQ (fun e=>hL x (List.mem_cons_self) e.symm)]
     ·intro hst
      show r.left.qty<1∨ ∀y∈Qg5 x n++r.rest,YQ o y=true
      by_cases hnx:n=x.qty
      ·have e:Qg5 x n= []:=if_pos hnx
       rw[e,List.nil_append];rcases ih.stop hst with h|h
       ·exact .inl h
       ·exact .inr fun y hy=>(Jd5 (show Qd1 o=Qd1 (U9 o n)from rfl)).trans (h y hy)
      ·left
       have:(U9 o n).qty<1:=by show o.qty-n<1;omega
       rw[hdone this];exact this
structure Qf1 (m:ZX) (lots side:Int→Int):Prop where
 has: ∀o∈m.L1++m.L2++m.pk,lots o.id=o.qty∧side o.id=o.side∧o.id∈m.ids
 one:((m.L1++m.L2++m.pk).map (·.id)).Nodup
 r1:Qg2 1 m.L1
 r2:Qg2 2 m.L2
section
variable {m m':ZX} {lots lots' side side':Int→Int}
theorem Qf1.under (h:Qf1 m lots side) (u1:ZY m'.L1 m.L1) (u2:ZY m'.L2 m.L2) (u3:ZY m'.pk m.pk) (hi:m'.ids=m.ids) (hq: ∀o∈m'.L1++m'.L2++m'.pk,o.qty=lots' o.id):Qf1 m' lots' side:=by
 have u:=(u1.append u2).append u3
 refine⟨fun o ho=> ?_,u.nodup h.one,u1.ranked h.r1,u2.ranked h.r2⟩
 obtain⟨x,hx,e⟩:=u.mem ho
 obtain⟨a1,a2,a3⟩:=h.has x hx
 obtain⟨e1,e2,e3,e4⟩:=Qa7 e
 exact⟨(hq o ho).symm,by rw[e1,a2,e2],by rw[hi,e1];exact a3⟩
theorem Qf1.same (h:Qf1 m lots side) (e1:m'.L1=m.L1) (e2:m'.L2=m.L2) (e3:m'.pk=m.pk) (e4:m'.ids=m.ids):Qf1 m' lots side:=
 ⟨by rw[e1,e2,e3,e4];exact h.has,by rw[e1,e2,e3];exact h.one,by rw[e1];exact h.r1,by rw[e2];exact h.r2⟩
theorem Qf1.lie (h:Qf1 m lots side) {o:QX} (hs:VV o.side) (hl:lots o.id=o.qty) (hd:side o.id=o.side) (hi:o.id∈m.ids) (hf: ∀x∈m.L1++m.L2++m.pk,x.id≠o.id):Qf1 (Qc8 m o) lots side:=by
 by_cases ha:Qk8 m.L1 m.L2 o=0
 ·have e1:(Qc8 m o).L1=Qc0 1 m.L1 o:=if_pos ha
  have e2:(Qc8 m o).L2=Qc0 2 m.L2 o:=if_pos ha;have hp:((Qc8 m o).L1++(Qc8 m o).L2++(Qc8 m o).pk).Perm (JJ o:: (m.L1++m.L2++m.pk)):=by
   rw[e1,e2];show(Qc0 1 m.L1 o++Qc0 2 m.L2 o++m.pk).Perm _;unfold Qc0;rcases hs with e|e
   ·rw[if_pos e,if_neg (by omega),←List.cons_append,←List.cons_append]
    exact((Qq9 1 m.L1 (JJ o)).append_right _).append_right _
   ·rw[if_neg (by omega),if_pos e,←List.cons_append]
    exact(((Qq9 2 m.L2 (JJ o)).append_left _).trans List.perm_middle).append_right _
  refine⟨fun x hx=> ?_, ?_, ?_, ?_⟩
  ·rcases List.mem_cons.1 (hp.mem_iff.1 hx)with rfl|hx
   ·exact⟨hl,hd,hi⟩
   ·exact h.has x hx
  ·refine(hp.map (·.id)).nodup_iff.2 ?_
   rw[List.map_cons,List.nodup_cons];refine⟨fun hm=> ?_,h.one⟩;obtain⟨x,hx,e⟩:=List.mem_map.1 hm;exact hf x hx e
  ·rw[e1]
   unfold Qc0
   split
   ·exact Qt1 (.inl rfl) h.r1 _
   ·exact h.r1
  ·rw[e2]
   unfold Qc0
   split
   ·exact Qt1 (.inr rfl) h.r2 _
   ·exact h.r2
 ·have e1:(Qc8 m o).L1=m.L1:=if_neg ha
  have e2:(Qc8 m o).L2=m.L2:=if_neg ha;exact h.same e1 e2 rfl rfl
theorem Jv3: ∀(l:List QX) (m:ZX),Qf1 {m with pk:=l} lots side→(∀o∈l,VV o.side)→Qf1 {UK m l with pk:= []} lots side
 | [],m,h,_=>h
 |o::t,m,h,hs=>by
  have ho:=h.has o (by simp);have h1:Qf1 {m with pk:=t} lots side:=h.under (ZY.refl _) (ZY.refl _) ((ZY.refl t).skip o) rfl (fun x hx=>(h.has x (by
   show x∈m.L1++m.L2++(o::t);rcases List.mem_append.1 hx with hx|hx
   ·exact List.mem_append_left _ hx
   ·exact List.mem_append_right _ (List.mem_cons_of_mem _ hx))).1.symm)
  have hone:=h.one;have hone:((m.L1++m.L2++(o::t)).map (·.id)).Nodup:=hone;have hp:(m.L1++m.L2++(o::t)).Perm (o:: (m.L1++m.L2++t)):=List.perm_middle;have hone2:=(hp.map (·.id)).nodup_iff.1 hone;rw[List.map_cons,List.nodup_cons]at hone2;have h2:=h1.lie (o:=o) (hs o (by simp)) ho.1 ho.2.1 ho.2.2 (fun x hx e=>hone2.1 (List.mem_map.2 ⟨x,hx,e⟩));exact Jv3 t (Qc8 m o) h2 (fun x hx=>hs x (by simp[hx]))
end
structure Qg7 (m:ZX) (lots side:Int→Int):Prop where
 ok_:VW m
 w:Qf1 m lots side
 tr:m.ph=3→Xy1 m.L1 m.L2
section
variable {m:ZX} {lots side:Int→Int}
theorem Xd3 (h:Qf1 m lots side) (hs: ∀o∈m.pk,VV o.side):Qf1 (Qg6 m) lots side:=by
 have h1:Qf1 {({m with ph:=5}:ZX)with pk:=m.pk} lots side:=h.same rfl rfl rfl rfl
 exact Jv3 m.pk {m with ph:=5} h1 hs
theorem Xh7 (h:Qf1 m lots side) (hl:XY m.L1 m.L2) {F:List JV} (hF:Qt4 m F):ZW lots side F∧Qf1 (Qr1 m) (JX lots F) side:=by
 obtain⟨a1,a2,a3⟩:=Xy0 (lots:=lots) (side:=side) hl (fun o ho=>⟨(h.has o (List.mem_append_left _ ho)).1,(h.has o (List.mem_append_left _ ho)).2.1⟩) hF
 refine⟨a1,h.under (m':=Qr1 m) (Jv1 _ _) (Jv1 _ _) (ZY.refl _) rfl (fun o ho=> ?_)⟩
 rcases List.mem_append.1 ho with ho|ho
 ·exact a2 o ho
 ·rw[a3 o.id (fun x hx e=> ?_)]
  ·exact(h.has o (List.mem_append_right _ ho)).1.symm
  ·have:=h.one
   rw[List.map_append,List.nodup_append]at this;exact this.2.2 _ (List.mem_map.2 ⟨x,hx,rfl⟩) _ (List.mem_map.2 ⟨o,ho,rfl⟩) e
theorem OQ (lots:Int→Int):JX lots []=lots:=by funext id;unfold JX;rw[Qh8];omega
theorem Qf1.setPh (h:Qf1 m lots side) (p:Int):Qf1 {m with ph:=p} lots side:=h.same rfl rfl rfl rfl
theorem Qf1.vol (h:Qf1 m lots side):Qf1 (Jg8 m) lots side:=h.same rfl rfl rfl rfl
theorem Qf1.over (h:Qf1 m lots side) {lots':Int→Int}:Qf1 (Qu5 m) lots' side:=h.under (ZY.nil _) (ZY.nil _) (ZY.nil _) rfl (fun o ho=>(by cases ho))
theorem Qg7.halt (h:Qg7 m lots side):Qg7 (Qe1 m) lots side:=by
 refine⟨h.ok_.halt, ?_, ?_⟩
 ·unfold Qe1
  split
  ·exact h.w
  ·exact h.w.setPh 6
 ·unfold Qe1
  split
  ·exact h.tr
  ·intro e;exact absurd e (by show¬((6:Int)=3);omega)
theorem Qr4 (m:ZX):(Qg6 m).ph=5:=(Qc2 m.pk {m with ph:=5}).2.2.2.2.2.2.2.2.2.1
theorem Qg7.open_ (h:Qg7 m lots side) (hl:XY (Qa3 m).L1 (Qa3 m).L2):Qg7 (Qa3 m) lots side:=by
 refine⟨h.ok_.open_ hl, ?_, ?_⟩
 ·unfold Qa3
  split
  ·split
   ·exact h.w.vol
   ·split
    ·exact Xd3 h.w (fun o ho=>(h.ok_.pk o ho).2)
    ·exact h.w.setPh _
  ·exact h.w
 ·unfold Qa3
  split
  ·split
   ·intro e;exact absurd e (by show¬((4:Int)=3);omega)
   ·split
    ·intro e;rw[Qr4]at e;cases e
    ·rename_i h3 _
     intro e;exact absurd e h3
  ·exact h.tr
theorem Qg7.cancel (h:Qg7 m lots side) (id:Int) (hl:XY (YJ m id).L1 (YJ m id).L2):Qg7 (YJ m id) lots side:=by
 refine⟨h.ok_.cancel id hl, ?_, ?_⟩
 ·unfold YJ
  split
  ·exact h.w
  ·split
   ·exact h.w.under (ZY.refl _) (ZY.refl _) (Xx9 _ _) rfl (fun o ho=>(h.w.has o (by
     rcases List.mem_append.1 ho with ho|ho
     ·exact List.mem_append_left _ ho
     ·exact List.mem_append_right _ (Xq3 ho))).1.symm)
   ·exact h.w.under (Jv2 _ _) (Jv2 _ _) (ZY.refl _) rfl (fun o ho=>(h.w.has o (by
     rcases List.mem_append.1 ho with ho|ho
     ·rcases List.mem_append.1 ho with ho|ho
      ·exact List.mem_append_left _ (List.mem_append_left _ (List.mem_filter.1 ho).1)
      ·exact List.mem_append_left _ (List.mem_append_right _ (List.mem_filter.1 ho).1)
     ·exact List.mem_append_right _ ho)).1.symm)
 ·unfold YJ
  split
  ·exact h.tr
  ·split
   ·exact h.tr
   ·intro e
    obtain⟨a1,a2⟩:=h.tr e;refine⟨fun o ho=> ?_,fun x hx y hy=>a2 x (List.mem_filter.1 hx).1 y (List.mem_filter.1 hy).1⟩;rcases List.mem_append.1 ho with ho|ho
    ·exact a1 o (List.mem_append_left _ (List.mem_filter.1 ho).1)
    ·exact a1 o (List.mem_append_right _ (List.mem_filter.1 ho).1)
theorem Ki7 (h:Qg7 m lots side) (p:Int) {F:List JV} (hF:Qk0 m p F) (hl:XY (X6 m p).L1 (X6 m p).L2):ZW lots side F∧Qg7 (X6 m p) (JX lots F) side:=by
 unfold Qk0 at hF
 by_cases h3:p=3
 ·rw[if_pos h3]at hF
  obtain⟨g1,g2⟩:=Xh7 h.w h.ok_.ls hF;refine⟨g1,h.ok_.enter p hl, ?_, ?_⟩
  ·unfold X6;rw[if_pos h3];exact g2.setPh 3
  ·unfold X6;rw[if_pos h3];intro _;exact Xd1 h.ok_.ls h.w.r1 h.w.r2 h.ok_.la.1
 ·rw[if_neg h3]at hF
  subst hF;rw[OQ];refine⟨ZW.nil _ _,h.ok_.enter p hl, ?_, ?_⟩
  ·unfold X6
   rw[if_neg h3]
   split
   ·exact Xd3 h.w (fun o ho=>(h.ok_.pk o ho).2)
   ·exact h.w.setPh _
  ·unfold X6
   rw[if_neg h3]
   split
   ·intro e;rw[Qr4]at e;cases e
   ·intro e;exact absurd e h3
theorem Xy3 (h:Qg7 m lots side) {F:List JV} (hF:Qb2 m F) (hl:XY (OV m).L1 (OV m).L2) (h4:m.ph=4):ZW lots side F∧Qg7 (OV m) (JX lots F) side:=by
 unfold Qb2 at hF
 by_cases hc:Jg9 m
 ·rw[if_pos hc]at hF
  obtain⟨g1,g2⟩:=Xh7 h.w h.ok_.ls hF;refine⟨g1,h.ok_.settle hl, ?_, ?_⟩
  ·unfold OV;rw[if_pos hc];exact g2.setPh 3
  ·unfold OV;rw[if_pos hc];intro _;exact Xd1 h.ok_.ls h.w.r1 h.w.r2 h.ok_.la.1
 ·rw[if_neg hc]at hF
  subst hF;rw[OQ];refine⟨ZW.nil _ _,h.ok_.settle hl, ?_, ?_⟩
  ·unfold OV
   rw[if_neg hc]
   split
   ·exact h.w.same rfl rfl rfl rfl
   ·exact h.w.setPh _
  ·unfold OV
   rw[if_neg hc]
   split
   ·intro e;have e:m.ph=3:=e;omega
   ·intro e;exact absurd e (by show¬((6:Int)=3);omega)
theorem Qg7.next (h:Qg7 m lots side):Qg7 (JY m) lots side:=⟨h.ok_.next,h.w.same rfl rfl rfl rfl,h.tr⟩
theorem Kp8 (h:Qg7 m lots side) {F:List JV} (hF:Jh1 m F) (hl:XY (J2 m).L1 (J2 m).L2):ZW lots side F∧Qg7 (J2 m) (JX lots F) side:=by
 have hmk:=h.ok_.tick hl
 unfold Jh1 at hF
 by_cases h7:m.ph=7
 ·rw[if_pos h7]at hF
  subst hF;rw[OQ];refine⟨ZW.nil _ _, ?_⟩;unfold J2;rw[if_pos h7];exact h
 ·rw[if_neg h7]at hF
  have hn:=h.next;unfold J2 at hl hmk⊢;rw[if_neg h7]at hl hmk⊢;unfold Qf0 at hF;unfold I0 at hl hmk⊢
  by_cases e7:VJ (JY m) (JY m).now=7
  ·rw[if_pos e7]at hF hmk⊢
   by_cases e5:(JY m).ph=5
   ·rw[if_pos e5]at hF hmk⊢
    obtain⟨g1,g2⟩:=Xh7 hn.w hn.ok_.ls hF;exact⟨g1,hmk,g2.over,fun e=>absurd e (by show¬((7:Int)=3);omega)⟩
   ·rw[if_neg e5]at hF hmk⊢
    subst hF;exact⟨ZW.nil _ _,hmk,hn.w.over,fun e=>absurd e (by show¬((7:Int)=3);omega)⟩
  ·rw[if_neg e7]at hF hl⊢
   by_cases e6:(JY m).ph=6
   ·rw[if_pos e6]at hF⊢
    subst hF;rw[OQ];exact⟨ZW.nil _ _,hn⟩
   ·rw[if_neg e6]at hF hl⊢
    by_cases ew:VJ m m.now≠VJ (JY m) (JY m).now
    ·rw[if_pos ew]at hF hl⊢
     exact Ki7 hn _ hF hl
    ·rw[if_neg ew]at hF hl⊢
     by_cases e4:(JY m).ph=4∧(JY m).ends≤(JY m).now
     ·rw[if_pos e4]at hF hl⊢
      exact Xy3 hn hF hl e4.1
     ·rw[if_neg e4]at hF⊢
      subst hF;rw[OQ];exact⟨ZW.nil _ _,hn⟩
def Qg8 (f:Int→Int) (i v:Int):Int→Int:=fun k=>if k=i then v else f k
def Jv4 (m:ZX) (lots:Int→Int) (o:QX):Int→Int:=if V0 m o=0 then Qg8 lots o.id o.qty else lots
def Xd4 (m:ZX) (side:Int→Int) (o:QX):Int→Int:=if V0 m o=0 then Qg8 side o.id o.side else side
theorem Jx8 {o:QX} (hs:VV o.side) {L:List QX} (hr:Qg2 (3-o.side) L) (hk: ∀x∈L,x.kind≠2):L.Pairwise (fun a b=>YQ o a=true→YQ o b=true):=by
 refine List.Pairwise.imp_of_mem ?_ hr
 intro a b ha hb hab
 have ka:=hk a ha
 have kb:=hk b hb
 unfold YQ
 intro h
 rw[Bool.and_eq_true]at h⊢
 refine⟨h.1, ?_⟩
 have h2:=h.2
 rcases hs with e|e
 ·rw[e]at hab h2⊢
  have:=hab b.price (by unfold O2;simp);unfold O2 at this;simp[ka]at this h2⊢;omega
 ·rw[e]at hab h2⊢
  have:=hab b.price (by unfold O2;simp);unfold O2 at this;simp[ka]at this h2⊢;omega
theorem Ki8 (h:Qg7 m lots side) {o:QX} (hf:Qe5 o) (hl:XY (IQ m o).L1 (IQ m o).L2):
  ZW (Jv4 m lots o) (Xd4 m side o) (Qd3 m o)∧IY (fun la p=>X3 m.st m.dy m.an la p) m.la (Qd3 m o)∧(Qd3 m o≠ []→m.ph=3)∧Qg7 (IQ m o) (JX (Jv4 m lots o) (Qd3 m o)) (Xd4 m side o):=by
 have hmk:=h.ok_.order hf hl
 unfold Jv4 Xd4
 by_cases he:V0 m o=0
 ·rw[if_pos he,if_pos he]
  obtain⟨h1,h2,h3,h4,h5⟩:=Qy4 he;obtain⟨p1,p2,p3,p4⟩:=Xc6 hf h1 h2;have eS:IQ m o=Qe4 (YX m (JJ o)) (JJ o):=if_pos he;have eF:Qd3 m o=Qi1 (YX m (JJ o)) (JJ o):=if_pos he;rw[eS]at hl hmk⊢;rw[eF];have q1:(JJ o).id=o.id:=rfl;have q2:(JJ o).side=o.side:=rfl;have q3:(JJ o).kind=o.kind:=rfl;have q4:(JJ o).qty=o.qty:=rfl;obtain⟨q,hq⟩: ∃q,JJ o=q:=⟨_,rfl⟩;rw[hq]at hl hmk p1 p2 q1 q2 q3 q4⊢;rw[←q3]at h3;rw[←q1]at h4;rw[←q1,←q2,←q4];have hfresh: ∀x∈m.L1++m.L2++m.pk,x.id≠q.id:=fun x hx e=>h4 (by rw[←e];exact(h.w.has x hx).2.2)
  have hM:Qf1 (YX m q) (Qg8 lots q.id q.qty) (Qg8 side q.id q.side):=by
   refine⟨fun x hx=> ?_,h.w.one,h.w.r1,h.w.r2⟩;have hne:=hfresh x hx;obtain⟨a1,a2,a3⟩:=h.w.has x hx;unfold Qg8;rw[if_neg hne,if_neg hne];exact⟨a1,a2,List.mem_append_left _ a3⟩
  have lq:Qg8 lots q.id q.qty q.id=q.qty:=if_pos rfl;have sq:Qg8 side q.id q.side q.id=q.side:=if_pos rfl;have iq:q.id∈(YX m q).ids:=List.mem_append_right _ (by simp);unfold Qi1 Qe4 at*
  by_cases hp:q.kind=4∧(YX m q).ph≠5
  ·rw[if_pos hp]at hl hmk⊢
   rw[if_pos hp,OQ];refine⟨ZW.nil _ _,IY.nil _ _,fun e=>absurd rfl e,hmk, ?_,h.tr⟩;refine⟨fun x hx=> ?_, ?_,hM.r1,hM.r2⟩
   ·have hx:x∈m.L1++m.L2++(m.pk++ [q]):=hx
    rw[←List.append_assoc]at hx;rcases List.mem_append.1 hx with hx|hx
    ·exact hM.has x hx
    ·rw[List.mem_singleton]at hx
     subst hx;exact⟨lq,sq,iq⟩
   ·show((m.L1++m.L2++(m.pk++ [q])).map (·.id)).Nodup
    rw[←List.append_assoc,List.map_append,List.nodup_append];refine⟨h.w.one,by simp,fun a ha b hb e=> ?_⟩;obtain⟨x,hx,rfl⟩:=List.mem_map.1 ha;rw[List.map_singleton,List.mem_singleton]at hb;exact hfresh x hx (e.trans hb)
  ·rw[if_neg hp]at hl hmk⊢
   rw[if_neg hp]
   by_cases hph:(YX m q).ph≠3
   ·rw[if_pos hph]at hl hmk⊢
    rw[if_pos hph,OQ];exact⟨ZW.nil _ _,IY.nil _ _,fun e=>absurd rfl e,hmk,hM.lie p2 lq sq iq hfresh,fun e=>absurd e hph⟩
   ·rw[if_neg hph]at hl hmk⊢
    rw[if_neg hph];have e3:m.ph=3:=by
     have: ¬m.ph≠3:=hph;omega
    obtain⟨a1,a2⟩:=h.tr e3;have hk4:q.kind≠4:=fun e=>hp ⟨e,by show m.ph≠5;omega⟩
    have hk:q.kind=1∨q.kind=2:=by
     rw[e3]at h3;unfold Qh2 at h3;rw[if_neg (by decide),if_neg (by decide),if_pos rfl]at h3;have:=of_decide_eq_true h3;omega
    obtain⟨M,hMM⟩: ∃M,YX m q=M:=⟨_,rfl⟩;have c1:M.L1=m.L1:=by rw[←hMM];rfl
    have c2:M.L2=m.L2:=by rw[←hMM];rfl
    have c3:M.st=m.st∧M.dy=m.dy∧M.an=m.an∧M.la=m.la∧M.ph=m.ph:=by rw[←hMM];exact⟨rfl,rfl,rfl,rfl,rfl⟩
    have c4:M.pk=m.pk:=by rw[←hMM];rfl
    have hlM:XY M.L1 M.L2:=by rw[c1,c2];exact h.ok_.ls
    rw[hMM]at hl hmk hM iq⊢;rw[←c1,←c2]at a1 a2;rw[←c1,←c2,←c4]at hfresh;obtain⟨b1,b2,b3,b4,b5⟩:=c3;have hside: ∀x∈XQ (3-q.side) M.L1 M.L2,x∈M.L1++M.L2∧x.side=3-q.side:=fun x hx=>by
     unfold XQ at hx;rcases p2 with e|e
     ·rw[if_neg (by omega)]at hx
      exact⟨List.mem_append_right _ hx,by rw[hlM.s2 x hx];omega⟩
     ·rw[if_pos (by omega)]at hx
      exact⟨List.mem_append_left _ hx,by rw[hlM.s1 x hx];omega⟩
    have hrk:Qg2 (3-q.side) (XQ (3-q.side) M.L1 M.L2):=by
     unfold XQ;rcases p2 with e|e
     ·rw[if_neg (by omega),e];exact hM.r2
     ·rw[if_pos (by omega),e];exact hM.r1
    have hmeet:=Xd2 (side:=Qg8 side q.id q.side) (al:=fun la p=>X3 M.st M.dy M.an la p) (XQ (3-q.side) M.L1 M.L2) q M.la (Qg8 lots q.id q.qty) p2 sq lq (by have:=p1.2.2.2.1;omega) (fun x hx=>by
      obtain⟨d1,d2⟩:=hside x hx;obtain⟨f1,f2,f3⟩:=hM.has x (List.mem_append_left _ d1);exact⟨by rw[a1 x d1];decide,f1,(hlM.ok x d1).2.2.2.1,by rw[f2,d2],hfresh x (List.mem_append_left _ d1)⟩) (Xp3 hlM _) (Jx8 p2 hrk (fun x hx=>by rw[a1 x (hside x hx).1];decide))
    have hund:=Qy5 (fun la p=>X3 M.st M.dy M.an la p) (fun(_:Int) p=>p) (XQ (3-q.side) M.L1 M.L2) q M.la;have er:ZV M q=ZJ (fun la p=>X3 M.st M.dy M.an la p) (fun _ p=>p) (XQ (3-q.side) M.L1 M.L2) q M.la:=rfl;rw[←er]at hmeet hund;have u12:ZY (UW M q).L1 M.L1∧ZY (UW M q).L2 M.L2:=by
     show ZY (if q.side=1 then M.L1 else(ZV M q).rest) M.L1∧ZY (if q.side=1 then(ZV M q).rest else M.L2) M.L2;unfold XQ at hund;rcases p2 with e|e
     ·rw[if_pos e,if_pos e]
      rw[if_neg (by omega)]at hund;exact⟨ZY.refl _,hund⟩
     ·rw[if_neg (by omega),if_neg (by omega)]
      rw[if_pos (by omega)]at hund;exact⟨hund,ZY.refl _⟩
    have hqty: ∀x∈(UW M q).L1++(UW M q).L2++(UW M q).pk,x.qty=JX (Qg8 lots q.id q.qty) (ZV M q).fills x.id:=by
     have hkeep: ∀x∈M.L1++M.L2++M.pk,(∀y∈XQ (3-q.side) M.L1 M.L2,y.id≠x.id)→x.qty=JX (Qg8 lots q.id q.qty) (ZV M q).fills x.id:=fun x hx hy=>by
      rw[hmeet.other x.id (hfresh x hx) hy];exact(hM.has x hx).1.symm
     have d12:=(O8 hlM).2.2;have hpk: ∀x∈M.pk,∀y∈XQ (3-q.side) M.L1 M.L2,y.id≠x.id:=fun x hx y hy e=>by
      have:=hM.one;rw[List.map_append,List.nodup_append]at this;exact this.2.2 _ (List.mem_map.2 ⟨y,(hside y hy).1,rfl⟩) _ (List.mem_map.2 ⟨x,hx,rfl⟩) e
     intro x hx;have hx:x∈((if q.side=1 then M.L1 else(ZV M q).rest)++(if q.side=1 then(ZV M q).rest else M.L2))++M.pk:=hx;rcases List.mem_append.1 hx with hx|hx
     ·rcases p2 with e|e
      ·rw[if_pos e,if_pos e]at hx
       rcases List.mem_append.1 hx with hx|hx
       ·refine hkeep x (List.mem_append_left _ (List.mem_append_left _ hx)) (fun y hy e2=> ?_)
        unfold XQ at hy;rw[if_neg (by omega)]at hy;exact d12 x hx y hy e2.symm
       ·exact hmeet.rest x hx
      ·rw[if_neg (by omega),if_neg (by omega)]at hx
       rcases List.mem_append.1 hx with hx|hx
       ·exact hmeet.rest x hx
       ·refine hkeep x (List.mem_append_left _ (List.mem_append_right _ hx)) (fun y hy e2=> ?_)
        unfold XQ at hy;rw[if_pos (by omega)]at hy;exact d12 y hy x hx e2
     ·exact hkeep x (List.mem_append_right _ hx) (hpk x hx)
    have w1:Qf1 (UW M q) (JX (Qg8 lots q.id q.qty) (ZV M q).fills) (Qg8 side q.id q.side):=hM.under u12.1 u12.2 (ZY.refl _) rfl hqty;obtain⟨k1,k2,k3,k4⟩:=Qa7 hmeet.key.symm;have hfr1: ∀x∈(UW M q).L1++(UW M q).L2++(UW M q).pk,x.id≠(ZV M q).left.id:=fun x hx e=>by
     obtain⟨y,hy,ey⟩:=((u12.1.append u12.2).append (ZY.refl M.pk)).mem hx;exact hfresh y hy (by rw[←(Qa7 ey).1,e,k1])
    have w2:Qf1 (VK M q) (JX (Qg8 lots q.id q.qty) (ZV M q).fills) (Qg8 side q.id q.side):=by
     unfold VK
     split
     ·exact w1.lie (by rw[k2];exact p2) (by rw[k1];exact hmeet.left.symm) (by rw[k1,k2];exact sq) (by rw[k1];exact iq) hfr1
     ·exact w1
    have w3:Qf1 (Z1 M q) (JX (Qg8 lots q.id q.qty) (ZV M q).fills) (Qg8 side q.id q.side):=by
     unfold Z1
     split
     ·exact w2.vol
     ·exact w2
    refine⟨hmeet.good, ?_,fun _=>e3,hmk,w3, ?_⟩
    ·rw[←b1,←b2,←b3,←b4];exact hmeet.bands
    ·intro hph3
     unfold Z1 at hph3⊢
     by_cases hst:(ZV M q).stop=true
     ·rw[if_pos hst]at hph3
      exact absurd hph3 (by show¬((4:Int)=3);omega)
     ·rw[if_neg hst]
      have ap1:Xy1 (UW M q).L1 (UW M q).L2:=by
       refine⟨fun x hx=> ?_,fun x hx y hy=> ?_⟩
       ·obtain⟨y,hy,ey⟩:=(u12.1.append u12.2).mem hx
        rw[(Qa7 ey).2.2.1];exact a1 y hy
       ·obtain⟨x',hx',ex⟩:=u12.1.mem hx
        obtain⟨y',hy',ey⟩:=u12.2.mem hy;rw[(Qa7 ex).2.2.2,(Qa7 ey).2.2.2];exact a2 x' hx' y' hy'
      unfold VK
      by_cases hlie:0< (ZV M q).left.qty∧(ZV M q).left.kind≠2
      ·rw[if_pos hlie]
       have hb:=(hmeet.stop (by simpa using hst)).resolve_left (by omega);have kq:q.kind=1:=by
        rcases hk with e|e
        ·exact e
        ·exact absurd (k3.trans e) hlie.2
       by_cases had:Qk8 (UW M q).L1 (UW M q).L2 (ZV M q).left=0
       ·have e1:(Qc8 (UW M q) (ZV M q).left).L1=Qc0 1 (UW M q).L1 (ZV M q).left:=if_pos had
        have e2:(Qc8 (UW M q) (ZV M q).left).L2=Qc0 2 (UW M q).L2 (ZV M q).left:=if_pos had;rw[e1,e2];have epr:JJ (ZV M q).left=(ZV M q).left:=by
         obtain⟨z,hz⟩: ∃z,(ZV M q).left=z:=⟨_,rfl⟩;rw[hz]at k3⊢;unfold JJ;rw[if_neg (by rw[k3,kq];decide)]
        unfold Qc0;rw[epr];have hbey: ∀x∈(ZV M q).rest,(q.side=1→q.price<x.price)∧(q.side=2→x.price<q.price):=fun x hx=>by
         have:=hb x hx;unfold YQ at this;rw[kq]at this;simp at this;exact⟨fun e=>by omega,fun e=>by omega⟩
        rcases p2 with e|e
        ·have es:(ZV M q).left.side=1:=k2.trans e
         rw[if_pos es,if_neg (by omega)];have er2:(UW M q).L2=(ZV M q).rest:=if_pos e;refine⟨fun x hx=> ?_,fun x hx y hy=> ?_⟩
         ·rcases List.mem_append.1 hx with hx|hx
          ·rcases Qq1.1 hx with rfl|hx
           ·exact k3.trans kq
           ·exact ap1.1 x (List.mem_append_left _ hx)
          ·exact ap1.1 x (List.mem_append_right _ hx)
         ·rcases Qq1.1 hx with rfl|hx
          ·rw[k4]
           exact(hbey y (er2▸hy)).1 e
          ·exact ap1.2 x hx y hy
        ·have es:(ZV M q).left.side=2:=k2.trans e
         rw[if_neg (by omega),if_pos es];have er2:(UW M q).L1=(ZV M q).rest:=if_neg (by omega);refine⟨fun x hx=> ?_,fun x hx y hy=> ?_⟩
         ·rcases List.mem_append.1 hx with hx|hx
          ·exact ap1.1 x (List.mem_append_left _ hx)
          ·rcases Qq1.1 hx with rfl|hx
           ·exact k3.trans kq
           ·exact ap1.1 x (List.mem_append_right _ hx)
         ·rcases Qq1.1 hy with rfl|hy
          ·rw[k4]
           exact(hbey x (er2▸hx)).2 e
          ·exact ap1.2 x hx y hy
       ·have e1:(Qc8 (UW M q) (ZV M q).left).L1=(UW M q).L1:=if_neg had
        have e2:(Qc8 (UW M q) (ZV M q).left).L2=(UW M q).L2:=if_neg had;rw[e1,e2];exact ap1
      ·rw[if_neg hlie]
       exact ap1
 ·rw[if_neg he,if_neg he]
  have eS:IQ m o=m:=if_neg he;have eF:Qd3 m o= []:=if_neg he;rw[eS,eF,OQ];exact⟨ZW.nil _ _,IY.nil _ _,fun e=>absurd rfl e,h⟩
end
end Go.Proofs.YtnlngicnfegjgaaGreat
