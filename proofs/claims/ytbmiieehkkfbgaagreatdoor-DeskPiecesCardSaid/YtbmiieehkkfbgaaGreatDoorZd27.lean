/- Contracts and walks that the law's proof needs. -/
import Derived.Test.YtbmiieehkkfbgaaGreatDoorZd26
import Derived.Test.YtbmiieehkkfbgaaGreatDoorZd3
import Derived.Laws.Rows
import Derived.Deep.RegionWith
import Derived.Test.YtbmiieehkkfbgaaGreatDoorZd15
import Derived.Test.YtbmiieehkkfbgaaGreatDoorZd18
set_option linter.unusedVariables false
set_option maxRecDepth 100000
set_option maxHeartbeats 8000000
namespace Go.Proofs.YtbmiieehkkfbgaaGreatDoor
open Go.RowKit
def Qk3 (s p:Int) (o:QX):Bool:=(o.kind ==2) || ((s ==1) &&decide (p≤o.price)) || ((s ==2) &&decide (o.price≤p))
def Qu2 (s:Int) (a b:QX):Prop:= ∀p,Qk3 s p b=true→Qk3 s p a=true
def Qu3 (s:Int) (L:List QX):Prop:=L.Pairwise (Qu2 s)
theorem Qu2.trans {s:Int} {a b c:QX} (h:Qu2 s a b) (k:Qu2 s b c):Qu2 s a c:=fun p hp=>h p (k p hp)
theorem Ko1 {s:Int} (hs:UQ s) {o x:QX} (h:I2 s o x=true):Qu2 s x o:=by
 intro p hp
 unfold I2 Qi3 at h
 unfold Qk3 at hp⊢
 rcases hs with rfl|rfl
 ·simp at h hp⊢
  omega
 ·simp at h hp⊢
  omega
theorem Ky0 {s:Int} (hs:UQ s) {o x:QX} (h:I2 s o x=false):Qu2 s o x:=by
 intro p hp
 unfold I2 Qi3 at h
 unfold Qk3 at hp⊢
 rcases hs with rfl|rfl
 ·simp at h hp⊢
  omega
 ·simp at h hp⊢
  omega
theorem Jc8 {α:Type} {q:α→Bool}: ∀ {l:List α} {a:α},a∈l.takeWhile q→q a=true
 | [],_,h=>by simp at h
 |b::l,a,h=>by
  rw[List.takeWhile_cons]at h
  split at h
  ·rename_i hq
   rcases List.mem_cons.1 h with rfl|h
   ·exact hq
   ·exact Jc8 h
  ·cases h
theorem Qy2 {α:Type} {q:α→Bool}: ∀ {l:List α} {d:α} {r:List α},l.dropWhile q=d::r→q d=false
 | [],_,_,h=>by simp at h
 |a::l,d,r,h=>by
  rw[List.dropWhile_cons]at h
  split at h
  ·exact Qy2 h
  ·rename_i hq
   cases h;simpa using hq
theorem Qu4 {s:Int} (hs:UQ s) {L:List QX} (h:Qu3 s L) (o:QX):Qu3 s (Qt1 s L o):=by
 unfold Qt1 Qu3 at*
 have hsp:L.takeWhile (I2 s o)++L.dropWhile (I2 s o)=L:=List.takeWhile_append_dropWhile
 rw[←hsp,List.pairwise_append]at h
 obtain⟨h1,h2,h3⟩:=h
 have hyes: ∀a∈L.takeWhile (I2 s o),Qu2 s a o:=fun a ha=>Ko1 hs (Jc8 ha)
 have hno: ∀b∈L.dropWhile (I2 s o),Qu2 s o b:=by
  cases hd:L.dropWhile (I2 s o)with
  |nil=>intro b hb;cases hb
  |cons d r=>
   have hdn:=Ky0 hs (Qy2 hd);rw[hd]at h2;intro b hb;rcases List.mem_cons.1 hb with rfl|hb
   ·exact hdn
   ·exact hdn.trans ((List.pairwise_cons.1 h2).1 b hb)
 rw[List.pairwise_append]
 refine⟨h1,List.pairwise_cons.2 ⟨hno,h2⟩,fun a ha b hb=> ?_⟩
 rcases List.mem_cons.1 hb with rfl|hb
 ·exact hyes a ha
 ·exact h3 a ha b hb
def Qf1 (f:QX→Int):List QX→Int
 | []=>0
 |o::l=>f o+Qf1 f l
theorem Qy3 {f:QX→Int} (l l':List QX):Qf1 f (l++l')=Qf1 f l+Qf1 f l':=by
 induction l with
 |nil=>simp[Qf1]
 |cons a l ih=>simp only[List.cons_append,Qf1,ih];omega
theorem Jw9 (f:QX→Int) (l:List QX): ∀s:Int,l.foldl (fun s o=>s+f o) s=s+Qf1 f l:=by
 induction l with
 |nil=>intro s;simp[Qf1]
 |cons a l ih=>intro s;rw[List.foldl_cons,ih];simp only[Qf1];omega
theorem Jx0 {f g:QX→Int} {l:List QX} (h: ∀o∈l,f o=g o):Qf1 f l=Qf1 g l:=by
 induction l with
 |nil=>rfl
 |cons a l ih=>simp only[Qf1];rw[h a (by simp),ih (fun o ho=>h o (by simp[ho]))]
theorem Xf2 {f:QX→Int} {l:List QX} (h: ∀o∈l,f o=0):Qf1 f l=0:=by
 induction l with
 |nil=>rfl
 |cons a l ih=>simp only[Qf1];rw[h a (by simp),ih (fun o ho=>h o (by simp[ho]))];rfl
theorem Zf4 {f g:QX→Int} {l:List QX} (h: ∀o∈l,f o≤g o):Qf1 f l≤Qf1 g l:=by
 induction l with
 |nil=>simp[Qf1]
 |cons a l ih=>
  have h1:=h a (by simp);have h2:=ih (fun o ho=>h o (by simp[ho]));simp only[Qf1];omega
def O2 (s p:Int) (L:List QX):Int:=Qf1 (fun o=>if Qk3 s p o=true then o.qty else 0) L
def Kc5 (L:List QX):Int:=Qf1 (fun o=>o.qty) L
def VY:List QX→Int→List QX
 | [],_=> []
 |o::t,a=>if a≤0 then o::t else if o.qty≤a then VY t (a-o.qty)else I9 o a::t
def Jx1 (a q:Int):Int:=if a≤0 then 0 else if a<q then a else q
def Qy4:List QX→Int→Int→Int
 | [],_,_=>0
 |o::t,a,id=>if o.id=id then Jx1 a o.qty else Qy4 t (a-o.qty) id
theorem Qu5 (L:List QX) {a:Int} (h:a≤0):VY L a=L:=by
 cases L with
 |nil=>rfl
 |cons o t=>unfold VY;rw[if_pos h]
theorem Qb2 (id:Int): ∀(L:List QX) {a:Int},a≤0→(∀o∈L,1≤o.qty)→Qy4 L a id=0
 | [],_,_,_=>rfl
 |o::t,a,h,hq=>by
  unfold Qy4;have h1:=hq o (by simp)
  split
  ·unfold Jx1;rw[if_pos h]
  ·exact Qb2 id t (by omega) (fun o ho=>hq o (by simp[ho]))
theorem Jb5 {x:QX}: ∀ {L:List QX} {a:Int},x∈VY L a→ ∃o∈L,o.id=x.id∧o.side=x.side∧o.kind=x.kind∧o.price=x.price∧x.qty≤o.qty
 | [],_,h=>by cases h
 |o::t,a,h=>by
  unfold VY at h
  split at h
  ·exact⟨x,h,rfl,rfl,rfl,rfl,Int.le_refl _⟩
  ·split at h
   ·obtain⟨y,hy,h1⟩:=Jb5 h
    exact⟨y,List.mem_cons_of_mem _ hy,h1⟩
   ·rcases List.mem_cons.1 h with rfl|h
    ·exact⟨o,by simp,rfl,rfl,rfl,rfl,by unfold I9;dsimp only;omega⟩
    ·exact⟨x,List.mem_cons_of_mem _ h,rfl,rfl,rfl,rfl,Int.le_refl _⟩
theorem Jx2: ∀ {L:List QX} {a:Int},0≤a→a<Kc5 L→VY L a≠ []
 | [],a,h0,h=>by simp[Kc5,Qf1]at h;omega
 |o::t,a,h0,h=>by
  have e:Kc5 (o::t)=o.qty+Kc5 t:=rfl;unfold VY
  split
  ·simp
  ·split
   ·exact Jx2 (by omega) (by omega)
   ·simp
theorem Jf2 {x:QX} {t:List QX} {n:Int}: ∀ {L:List QX} {a:Int},(∀o∈L,1≤o.qty)→0≤a→VY L a=x::t→1≤n→n≤x.qty→(if n=x.qty then t else I9 x n::t)=VY L (a+n)
 | [],a,_,_,h,_,_=>by simp[VY]at h
 |o::s,a,hq,h0,h,h1,h2=>by
  have ho:=hq o (by simp);have hs: ∀o∈s,1≤o.qty:=fun y hy=>hq y (by simp[hy])
  unfold VY at h
  by_cases ha:a≤0
  ·rw[if_pos ha]at h
   injection h with e1 e2
   subst e1;subst e2;unfold VY;rw[if_neg (show¬a+n≤0 by omega)]
   by_cases e:n=o.qty
   ·rw[if_pos e,if_pos (show o.qty≤a+n by omega),Qu5 _ (by omega)]
   ·rw[if_neg e,if_neg (show¬o.qty≤a+n by omega)]
    have:a+n=n:=by omega
    rw[this]
  ·rw[if_neg ha]at h
   by_cases hb:o.qty≤a
   ·rw[if_pos hb]at h
    have ih:=Jf2 hs (by omega) h h1 h2;rw[ih]
    conv=>rhs;unfold VY
    rw[if_neg (show¬a+n≤0 by omega),if_pos (show o.qty≤a+n by omega)]
    congr 1
    omega
   ·rw[if_neg hb]at h
    injection h with e1 e2
    subst e1;subst e2;have e3:(I9 o a).qty=o.qty-a:=rfl;rw[e3]at h2⊢
    conv=>rhs;unfold VY
    rw[if_neg (show¬a+n≤0 by omega)]
    by_cases e:n=o.qty-a
    ·rw[if_pos e,if_pos (show o.qty≤a+n by omega),Qu5 _ (by omega)]
    ·rw[if_neg e,if_neg (show¬o.qty≤a+n by omega)]
     have e4:I9 (I9 o a) n=I9 o (a+n):=by unfold I9;dsimp only;congr 1;omega
     rw[e4]
theorem Qy5 {x:QX} {t:List QX} {n:Int} (id:Int): ∀ {L:List QX} {a:Int},(∀o∈L,1≤o.qty)→(L.map (·.id)).Nodup→0≤a→VY L a=x::t→1≤n→n≤x.qty→
  Qy4 L (a+n) id=Qy4 L a id+ (if x.id=id then n else 0)
 | [],a,_,_,_,h,_,_=>by simp[VY]at h
 |o::s,a,hq,hn,h0,h,h1,h2=>by
  have ho:=hq o (by simp);have hs: ∀o∈s,1≤o.qty:=fun y hy=>hq y (by simp[hy])
  rw[List.map_cons,List.nodup_cons]at hn;unfold VY at h;unfold Qy4
  by_cases ha:a≤0
  ·rw[if_pos ha]at h
   injection h with e1 e2
   subst e1
   by_cases e:o.id=id
   ·rw[if_pos e,if_pos e,if_pos e]
    unfold Jx1;rw[if_neg (by omega),if_pos ha]
    split<;>omega
   ·rw[if_neg e,if_neg e,if_neg e,Qb2 id s (by omega) hs,Qb2 id s (by omega) hs]
    rfl
  ·rw[if_neg ha]at h
   by_cases hb:o.qty≤a
   ·rw[if_pos hb]at h
    have hx:x.id≠o.id:=by
     intro e;have hm:x∈VY s (a-o.qty):=by rw[h];simp
     obtain⟨y,hy,hyi,_⟩:=Jb5 hm;exact hn.1 (List.mem_map.2 ⟨y,hy,hyi.trans e⟩)
    by_cases e:o.id=id
    ·rw[if_pos e,if_pos e,if_neg (by rw[←e];exact hx)]
     unfold Jx1;rw[if_neg (by omega),if_neg (by omega),if_neg (by omega),if_neg (by omega)];omega
    ·rw[if_neg e,if_neg e]
     have ih:=Qy5 id hs hn.2 (by omega) h h1 h2;rw[←ih]
     congr 1
     omega
   ·rw[if_neg hb]at h
    injection h with e1 e2
    subst e1;have e3:(I9 o a).qty=o.qty-a:=rfl;have e4:(I9 o a).id=o.id:=rfl;rw[e3]at h2;rw[e4]
    by_cases e:o.id=id
    ·rw[if_pos e,if_pos e,if_pos e]
     unfold Jx1;rw[if_neg (show¬a+n≤0 by omega),if_neg ha,if_pos (show a<o.qty by omega)]
     split<;>omega
    ·rw[if_neg e,if_neg e,if_neg e,Qb2 id s (by omega) hs,Qb2 id s (by omega) hs]
     rfl
theorem Xk9 (s p:Int) (l l':List QX):O2 s p (l++l')=O2 s p l+O2 s p l':=Qy3 l l'
theorem Xf3 {s p:Int} {L:List QX} (h: ∀o∈L,1≤o.qty):O2 s p L≤Kc5 L:=by
 refine Zf4 fun o ho=> ?_
 have:=h o ho
 split<;>omega
structure XQ where
 b:Int
 s:Int
 p:Int
 n:Int
def Qa3 (g:XQ→Int):List XQ→Int
 | []=>0
 |f::l=>g f+Qa3 g l
theorem Jl6 (g:XQ→Int) (l:List XQ) (f:XQ):Qa3 g (l++ [f])=Qa3 g l+g f:=by
 induction l with
 |nil=>simp[Qa3]
 |cons a l ih=>simp only[List.cons_append,Qa3,ih];omega
structure Ql1 (L1 L2:List QX) (p a:Int) (F:List XQ):Prop where
 one: ∀f∈F,f.p=p∧1≤f.n∧(∃o∈L1,o.id=f.b)∧(∃o∈L2,o.id=f.s)
 sum:Qa3 (·.n) F=a
 buy: ∀id,Qa3 (fun f=>if f.b=id then f.n else 0) F=Qy4 L1 a id
 sell: ∀id,Qa3 (fun f=>if f.s=id then f.n else 0) F=Qy4 L2 a id
 len:(F.length:Int)≤a
theorem Ql1.start {L1 L2:List QX} {p:Int} (h1: ∀o∈L1,1≤o.qty) (h2: ∀o∈L2,1≤o.qty):Ql1 L1 L2 p 0 []:=
 ⟨fun f hf=>(by cases hf),rfl,fun id=>(Qb2 id L1 (Int.le_refl _) h1).symm,fun id=>(Qb2 id L2 (Int.le_refl _) h2).symm,by simp⟩
theorem Ql1.step {L1 L2:List QX} {p a n:Int} {F:List XQ} (h:Ql1 L1 L2 p a F) (h1: ∀o∈L1,1≤o.qty) (h2: ∀o∈L2,1≤o.qty) (d1:(L1.map (·.id)).Nodup) (d2:(L2.map (·.id)).Nodup) (h0:0≤a)
  {x y:QX} {t u:List QX} (hx:VY L1 a=x::t) (hy:VY L2 a=y::u) (hn:1≤n) (hnx:n≤x.qty) (hny:n≤y.qty):Ql1 L1 L2 p (a+n) (F++ [⟨x.id,y.id,p,n⟩]):=by
 refine⟨?_, ?_, ?_, ?_, ?_⟩
 ·intro f hf
  rcases List.mem_append.1 hf with hf|hf
  ·exact h.one f hf
  ·rw[List.mem_singleton]at hf
   subst hf;obtain⟨o,ho,e,_⟩:=Jb5 (show x∈VY L1 a by rw[hx];simp);obtain⟨o',ho',e',_⟩:=Jb5 (show y∈VY L2 a by rw[hy];simp);exact⟨rfl,hn,⟨o,ho,e⟩,o',ho',e'⟩
 ·rw[Jl6,h.sum]
 ·intro id
  rw[Jl6,h.buy,Qy5 id h1 d1 h0 hx hn hnx]
 ·intro id
  rw[Jl6,h.sell,Qy5 id h2 d2 h0 hy hn hny]
 ·have:=h.len
  rw[List.length_append];simp;omega
theorem Qr7 (s:Int) (L:List QX) (o:QX):(Qt1 s L o).Perm (o::L):=by
 unfold Qt1
 refine List.perm_middle.trans ?_
 rw[List.takeWhile_append_dropWhile]
structure Jp7 (x L1 L2:List QX):Prop where
 r1:Qu3 1 L1
 r2:Qu3 2 L2
 perm:(L1++L2).Perm (x.map JJ)
 s1: ∀o∈L1,o.side=1
 s2: ∀o∈L2,o.side=2
theorem Jp7.nil:Jp7 [] [] []:=⟨List.Pairwise.nil,List.Pairwise.nil,List.Perm.refl _,fun o h=>(by cases h),fun o h=>(by cases h)⟩
theorem Jp7.add {x L1 L2:List QX} (h:Jp7 x L1 L2) {o:QX} (hs:UQ o.side):Jp7 (x++ [o]) (Qd4 1 L1 o) (Qd4 2 L2 o):=by
 rcases hs with hs|hs
 ·have e1:Qd4 1 L1 o=Qt1 1 L1 (JJ o):=by unfold Qd4;rw[if_pos hs]
  have e2:Qd4 2 L2 o=L2:=by unfold Qd4;rw[if_neg (by omega)]
  rw[e1,e2];refine⟨Qu4 (.inl rfl) h.r1 _,h.r2, ?_,fun y hy=> ?_,h.s2⟩
  ·rw[List.map_append]
   exact((Qr7 1 L1 (JJ o)).append_right L2).trans ((h.perm.cons (JJ o)).trans (List.perm_append_singleton _ _).symm)
  ·rcases Xp5.1 hy with rfl|hy
   ·exact hs
   ·exact h.s1 y hy
 ·have e1:Qd4 1 L1 o=L1:=by unfold Qd4;rw[if_neg (by omega)]
  have e2:Qd4 2 L2 o=Qt1 2 L2 (JJ o):=by unfold Qd4;rw[if_pos hs]
  rw[e1,e2];refine⟨h.r1,Qu4 (.inr rfl) h.r2 _, ?_,h.s1,fun y hy=> ?_⟩
  ·rw[List.map_append]
   exact((Qr7 2 L2 (JJ o)).append_left L1).trans (List.perm_middle.trans ((h.perm.cons (JJ o)).trans (List.perm_append_singleton _ _).symm))
  ·rcases Xp5.1 hy with rfl|hy
   ·exact hs
   ·exact h.s2 y hy
structure Kh9 (x:List QX):Prop where
 id: ∀i (h:i<x.length),x[i].id=i+1
 ok: ∀o∈x,okO o=true
 price: ∀o∈x,1≤o.price∧o.price≤60
 len:x.length≤60
theorem Jp7.of {x L1 L2:List QX} {k:Nat} (h:Jp7 (x.take k) L1 L2) {o:QX} (ho:o∈L1++L2): ∃i,∃hi:i<x.length,i<k∧o=JJ x[i]:=by
 obtain⟨y,hy,rfl⟩:=List.mem_map.1 (h.perm.mem_iff.1 ho)
 obtain⟨i,hi,rfl⟩:=List.mem_iff_getElem.1 hy
 rw[List.length_take]at hi
 exact⟨i,by omega,by omega,by rw[List.getElem_take]⟩
theorem Kh9.side {x:List QX} (h:Kh9 x) {o:QX} (ho:o∈x):UQ o.side:=by
 have:=h.ok o ho
 unfold okO at this
 simp at this
 exact this.2
theorem Kh9.add {x L1 L2:List QX} {k:Nat} (h:Kh9 x) (hb:Jp7 (x.take k) L1 L2) (hk:k<x.length):Qm5 L1 L2 x[k]=0:=by
 have hm:x[k]∈x:=List.getElem_mem _
 have h1:Jc0 x[k]=true:=Qd2.2 ⟨h.side hm,by rw[h.id k hk];omega⟩
 have h2:Qr3 x[k]=true:=by
  have h3:=h.price _ hm;have h4:=h.ok _ hm;unfold okO at h4;simp at h4;unfold Qr3;rw[V3];refine⟨?_, ?_,h4.1.1,h4.1.2⟩
  ·unfold JJ;dsimp only;split<;>omega
  ·unfold JJ;dsimp only;split<;>omega
 have h3:Qa8 (L1++L2) x[k].id=none:=by
  unfold Qa8;rw[List.find?_eq_none];intro o ho;obtain⟨i,hi,hik,rfl⟩:=hb.of ho;have e1:(JJ x[i]).id=x[i].id:=rfl;have e2:=h.id i hi;have e3:=h.id k hk;rw[e1,e2,e3];simp;omega
 have h4:L1.length+L2.length=k:=by
  have:=hb.perm.length_eq;rw[List.length_append,List.length_map,List.length_take]at this;omega
 unfold Qm5
 rw[if_neg (by rw[h1];decide),if_neg (by rw[h2];decide),h3,if_neg (by decide),if_neg (by have:=h.len;omega)]
def Qg2 (id n:Int) (y:HO):HO:=if y.2.id=id then(y.1,I9 y.2 n)else y
def QG.cut (q:QG) (id n:Int):QG:=⟨q.price,q.A,q.c,q.os.map (Qg2 id n)⟩
def HS.cut (h:HS) (id n:Int):HS:=⟨h.mA,h.mc,h.qA,h.qc,h.ms.map (Qg2 id n),h.qs.map fun q=>q.cut id n⟩
section
variable {id k:Int}
theorem Ky1 (y:HO):(Qg2 id k y).1=y.1:=by unfold Qg2;split<;>rfl
theorem Jl7 (y:HO):(Qg2 id k y).2.id=y.2.id∧(Qg2 id k y).2.side=y.2.side∧(Qg2 id k y).2.kind=y.2.kind∧(Qg2 id k y).2.price=y.2.price:=by unfold Qg2;split<;>exact⟨rfl,rfl,rfl,rfl⟩
theorem Kc6 (y:HO):X3 (Qg2 id k y)=X3 y:=by
 obtain⟨_,h2,h3,h4⟩:=Jl7 (id:=id) (k:=k) y
 unfold X3
 rw[Ky1,h2,h3,h4]
theorem Xu2 (l:List HO):J7 (l.map (Qg2 id k))=J7 l:=by
 unfold J7
 rw[List.map_map]
 exact List.map_congr_left fun y _=>Ky1 y
theorem Ki0 (q:QG):(q.cut id k).que=q.que:=by unfold QG.cut QG.que;simp
theorem Ky2 (l:List HO):IX (l.map (Qg2 id k))=Xp4 (IX l) id k:=by
 unfold IX Xp4
 rw[List.map_map,List.map_map]
 refine List.map_congr_left fun y _=> ?_
 show(Qg2 id k y).2=if y.2.id=id then I9 y.2 k else y.2
 unfold Qg2
 split<;>rfl
theorem Ky3 (qs:List QG):IJ (qs.map fun q=>q.cut id k)=(IJ qs).map (Qg2 id k):=by
 induction qs with
 |nil=>rfl
 |cons q qs ih=>
  have e1:IJ (q::qs)=q.os++IJ qs:=rfl;have e2:IJ (List.map (fun q=>q.cut id k) (q::qs))=q.os.map (Qg2 id k)++IJ (qs.map fun q=>q.cut id k):=rfl;rw[e1,e2,ih,List.map_append]
theorem Xl0 (h:HS):(h.cut id k).all=h.all.map (Qg2 id k):=by
 show V2 _ _=List.map _ (V2 h.ms h.qs)
 unfold V2 HS.cut
 dsimp only
 rw[Ky3,List.map_append]
theorem Zh6 (h:HS):(h.cut id k).L=Xp4 h.L id k:=by
 unfold HS.L
 rw[Xl0,Ky2]
def Qm6 (H:Int→HS) (id k:Int):Int→HS:=fun s=>(H s).cut id k
theorem Ji9 (H:Int→HS):X0 (Qm6 H id k)=(X0 H).map (Qg2 id k):=by
 unfold X0 Qm6
 rw[Xl0,Xl0,List.map_append]
variable {w w':World} {b a n r:Nat} {F:Nat→Prop} {M:Int→Int→Option QX} {f:Int→Option Value} {H:Int→HS} {reg:Nat→Int}
theorem Qt6.recut {s:Int} {h:HS} (X:Qt6 w reg s h):Qt6 w reg s (h.cut id k):=by
 refine⟨?_, ?_, ?_,X.gm,X.gq, ?_, ?_⟩
 ·show QW w h.mA (h.ms.map (Qg2 id k)).length h.mc _ 2 (JQ V9 (J7 (h.ms.map (Qg2 id k))))
  rw[List.length_map,Xu2];exact X.rm
 ·show QW w h.qA (h.qs.map fun q=>q.cut id k).length h.qc _ 2 (JQ OQ ((h.qs.map fun q=>q.cut id k).map QG.que))
  rw[List.length_map,List.map_map];have e:(QG.que∘fun q=>q.cut id k)=QG.que:=by funext q;exact Ki0 q
  rw[e];exact X.rq
 ·intro q hq
  obtain⟨q0,hq0,rfl⟩:=List.mem_map.1 hq;show QW w q0.A (q0.os.map (Qg2 id k)).length q0.c _ 2 (JQ V9 (J7 (q0.os.map (Qg2 id k))));rw[List.length_map,Xu2];exact X.rl q0 hq0
 ·intro q hq
  obtain⟨q0,hq0,rfl⟩:=List.mem_map.1 hq;exact X.gl q0 hq0
 ·show((h.qs.map fun q=>q.cut id k).filterMap fun q=>QZ q.A).Nodup
  rw[List.filterMap_map];exact X.nd
theorem Ki1 {h:HS} {i:Nat}:HFp (h.cut id k) i↔HFp h i:=by
 unfold HFp HS.cut
 dsimp only
 constructor
 ·rintro(h1|h1|⟨q,hq,h1⟩)
  ·exact .inl h1
  ·exact .inr (.inl h1)
  ·obtain⟨q0,hq0,rfl⟩:=List.mem_map.1 hq
   exact .inr (.inr ⟨q0,hq0,h1⟩)
 ·rintro(h1|h1|⟨q,hq,h1⟩)
  ·exact .inl h1
  ·exact .inr (.inl h1)
  ·exact .inr (.inr ⟨q.cut id k,List.mem_map.2 ⟨q,hq,rfl⟩,h1⟩)
theorem Zf5 {i:Nat}:V6 b r F (Qm6 H id k) i↔V6 b r F H i:=by
 unfold V6 Qm6
 rw[Ki1,Ki1]
theorem XK.recut (h:XK w b a F M n r f H reg):XK w b a F M n r f (Qm6 H id k) reg:=by
 refine⟨?_,h.ar,h.mp,fun s hs=>(h.hx s hs).recut,h.gb,h.gr,h.gF⟩
 have e:IQ a r (Qm6 H id k)=IQ a r H:=by
  unfold IQ Qm6 HS.cut;simp
 rw[e]
 exact h.blk
theorem ZX.cut (S:ZX M n f H) {x:HO} (hx:x∈X0 H) (h1:1≤k) (h2:k<x.2.qty):ZX (Z1 M x.1.1 x.1.2 (some (I9 x.2 k))) n f (Qm6 H x.2.id k):=by
 have hmem: ∀y,y∈X0 (Qm6 H x.2.id k)→ ∃y0∈X0 H,y=Qg2 x.2.id k y0:=by
  intro y hy;rw[Ji9]at hy;obtain⟨y0,h,rfl⟩:=List.mem_map.1 hy;exact⟨y0,h,rfl⟩
 refine⟨fun s hs=> ?_,fun s hs=> ?_, ?_, ?_, ?_, ?_, ?_, ?_⟩
 ·have X:=S.is s hs
  refine⟨?_, ?_, ?_⟩
  ·intro y hy
   obtain⟨y0,h,rfl⟩:=List.mem_map.1 hy;obtain⟨_,e2,e3,_⟩:=Jl7 (id:=x.2.id) (k:=k) y0;rw[e2,e3];exact X.mkt y0 h
  ·intro q hq y hy
   obtain⟨q0,hq0,rfl⟩:=List.mem_map.1 hq;obtain⟨y0,h,rfl⟩:=List.mem_map.1 (show y∈q0.os.map _ from hy);obtain⟨_,e2,e3,e4⟩:=Jl7 (id:=x.2.id) (k:=k) y0;rw[e2,e3,e4];exact X.qk q0 hq0 y0 h
  ·show Qq9 s (((H s).qs.map fun q=>q.cut x.2.id k).map QG.que)
   rw[List.map_map];have e:(QG.que∘fun q=>q.cut x.2.id k)=QG.que:=by funext q;exact Ki0 q
   rw[e];exact X.rank
 ·intro q hq
  obtain⟨q0,hq0,rfl⟩:=List.mem_map.1 hq;intro e;exact S.ne s hs q0 hq0 (List.map_eq_nil_iff.1 (show q0.os.map _= []from e))
 ·intro y hy
  obtain⟨y0,h,rfl⟩:=hmem y hy
  by_cases e:y0.2.id=x.2.id
  ·have e':=S.same_id h hx e
   subst e';have ec:Qg2 y0.2.id k y0=(y0.1,I9 y0.2 k):=if_pos rfl;rw[ec];unfold Z1;rw[if_pos ⟨rfl,rfl⟩]
  ·have ec:Qg2 x.2.id k y0=y0:=if_neg e
   rw[ec];unfold Z1;rw[if_neg]
   ·exact S.hM y0 h
   ·rintro⟨h3,h4⟩
    have e':=S.same_h h hx (Prod.ext h3 h4);exact e (by rw[e'])
 ·intro y hy
  obtain⟨y0,h,rfl⟩:=hmem y hy;rw[Kc6,(Jl7 y0).1];exact S.hf y0 h
 ·intro i v hv
  obtain⟨y,hy,e⟩:=S.hk i v hv;refine⟨Qg2 x.2.id k y, ?_,by rw[(Jl7 y).1];exact e⟩;rw[Ji9];exact List.mem_map.2 ⟨y,hy,rfl⟩
 ·rw[Ji9,List.map_map]
  have e:((fun x:HO=>x.2.id)∘Qg2 x.2.id k)=fun x:HO=>x.2.id:=by funext y;exact(Jl7 y).1
  rw[e];exact S.ids
 ·rw[Ji9,List.length_map]
  exact S.cnt
 ·intro y hy
  obtain⟨y0,h,rfl⟩:=hmem y hy;have ok:=S.ok y0 h
  by_cases e:y0.2.id=x.2.id
  ·have e':=S.same_id h hx e
   subst e';have ec:Qg2 y0.2.id k y0=(y0.1,I9 y0.2 k):=if_pos rfl;rw[ec];obtain⟨⟨f1,f2,f3,f4,f5⟩,o1,o2,o3⟩:=ok;unfold I9;refine⟨⟨f1,f2,f3,f4, ?_⟩,o1,o2, ?_⟩
   ·unfold KZ at*;dsimp only;omega
   ·dsimp only;omega
  ·have ec:Qg2 x.2.id k y0=y0:=if_neg e
   rw[ec];exact ok
end
def Qf2 (L:List QX) (o:QX) (n:Int):List QX:=if n=o.qty then O0 L o.id else Xp4 L o.id n
theorem Xf4 {x:QX} {t:List QX} {n:Int} (h: ∀y∈t,y.id≠x.id):Qf2 (x::t) x n=if n=x.qty then t else I9 x n::t:=by
 unfold Qf2
 split
 ·unfold O0
  rw[List.filter_cons];simp;intro y hy;exact h y hy
 ·unfold Xp4
  rw[List.map_cons,if_pos rfl]
  congr 1
  refine(List.map_congr_left fun y hy=> ?_).trans (List.map_id _);rw[if_neg (h y hy)]
  rfl
theorem Jf3 {x:QX} {L:List QX} {n:Int} (h: ∀y∈L,y.id≠x.id):Qf2 L x n=L:=by
 unfold Qf2
 split
 ·unfold O0
  rw[List.filter_eq_self];intro y hy;simpa using h y hy
 ·unfold Xp4
  refine(List.map_congr_left fun y hy=> ?_).trans (List.map_id _);rw[if_neg (h y hy)]
  rfl
def Jx3 (L1 L2:List QX) (id n:Int):Int:=
 match Qa8 (L1++L2) id with
 |none=>7
 |some o=>if n<1∨o.qty<n then 2 else 0
def Zf6 (w:World) (b:Nat) (G:Nat→Prop) (L1 L2:List QX) (id n:Int) (e:Ending) (w':World):Prop:=
 (Jx3 L1 L2 id n≠0∧e= .returned (VZ (Jx3 L1 L2 id n))∧Below w.heap.size w w')∨
 (∃o,Qa8 (L1++L2) id=some o∧1≤n∧n≤o.qty∧e= .returned (VZ 0)∧Qj9 w w' b G (Qf2 L1 o n) (Qf2 L2 o n))
def Ki2:Prop:= ∀(w:World) (b:Nat) (G:Nat→Prop) (L1 L2:List QX),Q1 w b G L1 L2→ ∀id n:Int,KZ n→Calls Tryz.prog 175 #[.pointer (some ⟨b,0,none⟩),.int .i64 id,.int .i64 n] w (Zf6 w b G L1 L2 id n)
def Jl8 (L:List QX) (k:Nat):List QX:=L.take k++L.drop (k+1)
def Jx4 (s:Int) (L1 L2 L:List QX) (o:QX):List QX:=if Qm5 L1 L2 o=0 then Qd4 s L o else L
theorem Xf5 {L:List QX} {id:Int} (h: ∀o∈L,o.id≠id):O0 L id=L:=List.filter_eq_self.2 (fun o ho=>by simpa using h o ho)
theorem Xf6 {w:World} {t:Act} {Q:Ending→World→Prop} {g:Nat} {cs:Array Value} {v:Value} (hp:t.tmps.getD 4 undef= .pointer (some ⟨g,0,none⟩)) (h5:t.tmps.getD 5 undef=v) (hd:t.defers= [])
  (hg:QJ w g 117 cs) (hs:cs.size=5) (h:Q (.returned (.tuple #[.agg cs,v])) w):bodyPost Tryz.prog Tryz.f81 Q .ret t w:=by
 refine bodyPost_ret (v:= .tuple #[.agg cs,v]) ?_ hd h
 have hl:=run_loadVar_row (P:=Tryz.prog) w g _ 117 cs (0,0) _ hg Tryz.underlying117 rfl (by rw[hs];kernel_rfl)
 have hp':t.tmps[4]?.getD undef= .pointer (some ⟨g,0,none⟩):=by simpa using hp
 have h5':t.tmps[5]?.getD undef=v:=by simpa using h5
 simp[results,Tryz.results81,hp',h5',asAddr,hl]
theorem Jc9 (w:World) (b a:Nat) (F:Nat→Prop) (M:Int→Int→Option QX) (n r:Nat) (f:Int→Option Value) (H:Int→HS) (reg:Nat→Int) (hM:XK w b a F M n r f H reg) (id:Int) (hf:f id=none):
  Calls Tryz.prog 81 #[.pointer (some ⟨b,0,none⟩),.int .i64 id] w fun e w'=>e= .returned (.tuple #[.agg #[.int .i64 0,.int .i64 0,.int .i64 0,.int .i64 0,.int .i64 0],VZ 7])∧Below w.heap.size w w':=by
 have hb0:Below w.heap.size w (w.alloc (.cells #[.int .i64 0,.int .i64 0,.int .i64 0,.int .i64 0,.int .i64 0] 117)):=(Below.refl _ w).alloc (Nat.le_refl _) _
 have hM0:=hM.below hb0
 have hlk:=OW hM0.mp hf
 obtain⟨y0,y1,y2,y3,y4,y5⟩:=hM0.cells
 have HR:=QQ (QJ.new w 117 #[.int .i64 0,.int .i64 0,.int .i64 0,.int .i64 0,.int .i64 0])
 have HB:=QQ hb0
 clear y0 y2 y3 y4 y5 hM hM0 hf hb0
 go_enter Tryz.func81,Tryz.ntmps81
 go_wp2_with fail
 refine Xf6 (g:=w.heap.size) (cs:= #[.int .i64 0,.int .i64 0,.int .i64 0,.int .i64 0,.int .i64 0]) (v:=VZ 7) (by with_unfolding_all rfl) (by with_unfolding_all rfl) (by with_unfolding_all rfl) (QJ.alloc HR.out _) rfl ?_
 exact⟨rfl,HB.out.alloc (by simp) _⟩
theorem Jx5 (w:World) (b a:Nat) (F:Nat→Prop) (M:Int→Int→Option QX) (n r:Nat) (f:Int→Option Value) (H:Int→HS) (reg:Nat→Int) (hM:XK w b a F M n r f H reg) (id:Int) (x:HO) (hf:f id=some (X3 x)) (hMx:M x.1.1 x.1.2=some x.2):
  Calls Tryz.prog 81 #[.pointer (some ⟨b,0,none⟩),.int .i64 id] w fun e w'=>e= .returned (.tuple #[KJ x.2,.nilIface])∧Below w.heap.size w w':=by
 have hb0:Below w.heap.size w (w.alloc (.cells #[.int .i64 0,.int .i64 0,.int .i64 0,.int .i64 0,.int .i64 0] 117)):=(Below.refl _ w).alloc (Nat.le_refl _) _
 have hM0:=hM.below hb0
 have hlk:=X5 hM0.mp hf
 obtain⟨y0,y1,y2,y3,y4,y5⟩:=hM0.cells
 obtain⟨⟨h1,h2⟩,o⟩:=x
 dsimp only at hlk hMx
 have HX:=QQ (QJ.alloc (QJ.new w 117 #[.int .i64 0,.int .i64 0,.int .i64 0,.int .i64 0,.int .i64 0]) (.cells #[.int .i64 h1,.int .i64 h2,.int .i64 o.side,.int .i64 o.price,.bool (o.kind ==2)] 172))
 have hb1:Below w.heap.size w ((w.alloc (.cells #[.int .i64 0,.int .i64 0,.int .i64 0,.int .i64 0,.int .i64 0] 117)).alloc (.cells #[.int .i64 h1,.int .i64 h2,.int .i64 o.side,.int .i64 o.price,.bool (o.kind ==2)] 172)):=hb0.alloc (by simp) _
 have HG:=QQ (Ji2 (hM.below hb1) hMx _ (Below.drew (Below.refl _ _)))
 have HB:=QQ hb1
 have hbl:=QJ.lt hM.blk
 clear y2 y3 y4 y5 hM hM0 hf hb0 hb1 hMx
 go_enter Tryz.func81,Tryz.ntmps81
 go_wp2_with fail
 go_region_with (go_at_call 118;refine HG.out.mono ?_;rintro e w5 ⟨rfl,hb5⟩;have hbx:=QJ.keep (QJ.drew HX.out) hb5;have z0:=(O7 hbx).1;have z1:=(O7 hbx).2.1;have z2:=(O7 hbx).2.2.1;have z3:=(O7 hbx).2.2.2.1;have z4:=(O7 hbx).2.2.2.2;have f0:=QJ.frozen hbx 0;have f1:=QJ.frozen hbx 1;have f2:=QJ.frozen hbx 2;have f3:=QJ.frozen hbx 3;have f4:=QJ.frozen hbx 4;have HBx:=QQ hbx;have HB5:=QQ (HB.out.trans ((Below.drew (Below.refl _ _)).trans (hb5.mono (Nat.le_refl _)) |>.mono HB.out.size));clear hb5 hbx)
 all_goals go_wp2_with fail
 all_goals
  refine Xf6 (g:=w.heap.size) (cs:=KV o) (v:= .nilIface) (by with_unfolding_all rfl) (by with_unfolding_all rfl) (by with_unfolding_all rfl) ?_ rfl ?_
  ·exact QJ.set_ (QJ.set_ (QJ.set_ (QJ.set_ (QJ.set_ HBx.out 0 _) 1 _) 2 _) 3 _) 4 _
  ·refine⟨rfl,HB5.out.trans ?_⟩
   exact(Ji3 _ _ _ _ _ _ _).below (B:=w.heap.size) (fun i e=>by have e':i=w.heap.size:=e;omega) HB5.out.size
theorem Jd0 (w:World) (b:Nat) (G:Nat→Prop) (L1 L2:List QX) (h:Q1 w b G L1 L2) (id:Int):
  Calls Tryz.prog 81 #[.pointer (some ⟨b,0,none⟩),.int .i64 id] w fun e w'=>Below w.heap.size w w'∧((Qa8 (L1++L2) id=none∧e= .returned (.tuple #[KJ noO,VZ 7]))∨(∃o,Qa8 (L1++L2) id=some o∧e= .returned (.tuple #[KJ o,.nilIface]))):=by
 obtain⟨a,F,M,n,r,f,H,reg,hM,hS,hG,rfl,rfl⟩:=h
 cases hf:f id with
 |none=>
  refine(Jc9 w b a F M n r f H reg hM id hf).mono ?_;rintro e w' ⟨rfl,hb⟩;exact⟨hb,.inl ⟨Jb4 hS hf,rfl⟩⟩
 |some v=>
  obtain⟨x,hx,QQ⟩:=hS.hk _ _ hf;have hv:=hS.hf x hx;rw[QQ]at hv;refine(Jx5 w b a F M n r f H reg hM id x hv (hS.hM x hx)).mono ?_;rintro e w' ⟨rfl,hb⟩;exact⟨hb,.inr ⟨x.2,by rw[←QQ];exact Jb3 hS hx,rfl⟩⟩
theorem Qy6 {w:World} {r:Nat} {f:Int→Option Value} (h:I7 w r f) {k:Int} {x:HO} (e:f k=some (X3 x)):(Instr.lookup 175 (.map (some r)) (.int .i64 k) false).run Tryz.prog w=
  .ok (.agg #[.int .i64 x.1.1,.int .i64 x.1.2,.int .i64 x.2.side,.int .i64 x.2.price,.bool (x.2.kind ==2)]) w:=by
 have:=h.lookup (P:=Tryz.prog) Tryz.underlying175 Tryz.underlying3 (z:= .agg #[.int .i64 0,.int .i64 0,.int .i64 0,.int .i64 0,.bool false]) (by kernel_rfl) k false
 rw[e]at this
 exact this
theorem Xl1 (w:World) (a b c d:Value) (e:Value):(Instr.field 172 (.agg #[a,b,c,d,e]) 0).run Tryz.prog w= .ok (.agg #[a,b]) w:=by kernel_rfl
theorem Zk1 {w w':World} {b a r n:Nat} {F F' G:Nat→Prop} {M:Int→Int→Option QX} {f:Int→Option Value} {H:Int→HS} {reg':Nat→Int} {x:HO} {k:Int} (hS:ZX M n f H) (hx:x∈X0 H) (h1:1≤k) (h2:k<x.2.qty)
  (hG: ∀i,G i↔V6 b r F H i) (hM:XK w' b a F' (Z1 M x.1.1 x.1.2 (some (I9 x.2 k))) n r f H reg') (hB:KQ w w' (V6 b r F H) (V6 b r F' H)):Qj9 w w' b G (Qf2 (H 1).L x.2 k) (Qf2 (H 2).L x.2 k):=by
 have e: ∀L,Qf2 L x.2 k=Xp4 L x.2.id k:=fun L=>by unfold Qf2;rw[if_neg (by omega)]
 rw[e,e]
 refine⟨V6 b r F' (Qm6 H x.2.id k),⟨a,F',_,n,r,f,Qm6 H x.2.id k,reg',hM.recut,hS.cut hx h1 h2,fun i=>Iff.rfl,(Zh6 _).symm,(Zh6 _).symm⟩,hB.1.mono (fun i hi=>(hG i).2 hi),fun i hi=> ?_⟩
 exact(hB.2 i (Zf5.1 hi)).imp (fun h=>(hG i).2 h) id
theorem Jp8:Ki2:=by
 intro w b G L1 L2 h id n hfit
 have hat:=h
 obtain⟨a,F,M,m,r,f,H,reg,hM,hS,hG,rfl,rfl⟩:=h
 cases hf:f id with
 |none=>
  have hg:=Jb4 hS hf;have hE:Jx3 (H 1).L (H 2).L id n=7:=by unfold Jx3;rw[hg]
  have HC:=QQ (Jc9 w b a F M m r f H reg hM id hf);have HE:=QQ hE;clear hM hS hG hf hg hE hat;go_enter Tryz.func175,Tryz.ntmps175
  go_wp2_with fail
  refine HC.out.mono ?_;rintro e w1 ⟨rfl,hb⟩;have HB:=QQ (hb.alloc hb.size (.cells #[.int .i64 0,.int .i64 0,.int .i64 0,.int .i64 0,.int .i64 0] 117));rw[show VZ 7= .iface 45 (.int .i64 7)from rfl];clear hb;go_wp2_with fail
  go_ret;refine .inl ⟨?_, ?_,HB.out⟩
  ·rw[HE.out];decide
  ·rw[HE.out];rfl
 |some v=>
  obtain⟨x,hx,hxi⟩:=hS.hk _ _ hf;have hv:=hS.hf x hx;rw[hxi]at hv;have hg:=Jb3 hS hx;rw[hxi]at hg;have hok:=hS.ok x hx;have HC:=QQ (Jx5 w b a F M m r f H reg hM id x hv (hS.hM x hx));have HM:=QQ hM;have HS_:=QQ hS;have HG:=QQ hG;have Hx:=QQ hx;have Hxi:=QQ hxi;have Hv:=QQ hv;have Hg:=QQ hg;have Hat:=QQ hat;have hq1:=hok.2.2.2;have Hfit:=QQ hfit;clear hM hS hG hf hg hat hx hxi hv hok hfit v;obtain⟨⟨h1,h2⟩,o⟩:=x;dsimp only at HC Hxi Hg hq1;unfold KJ at HC
  by_cases c1:n<1
  ·have d1:decide (n<1)=true:=J0 c1
   have hE:Jx3 (H 1).L (H 2).L id n=2:=by unfold Jx3;rw[Hg.out];exact if_pos (.inl c1)
   have HE:=QQ hE;clear hE c1;go_enter Tryz.func175,Tryz.ntmps175
   go_wp2_with fail
   refine HC.out.mono ?_;rintro e w1 ⟨rfl,hb⟩;have HB:=QQ (hb.alloc hb.size (.cells #[.int .i64 o.id,.int .i64 o.side,.int .i64 o.kind,.int .i64 o.price,.int .i64 o.qty] 117));clear hb;go_wp2_with fail
   go_ret;refine .inl ⟨?_, ?_,HB.out⟩
   ·rw[HE.out];decide
   ·rw[HE.out];rfl
  ·have d1:decide (n<1)=false:=OY c1
   by_cases c2:o.qty<n
   ·have d2:decide (o.qty<n)=true:=J0 c2
    have hE:Jx3 (H 1).L (H 2).L id n=2:=by unfold Jx3;rw[Hg.out];exact if_pos (.inr c2)
    have HE:=QQ hE;clear hE c1 c2;go_enter Tryz.func175,Tryz.ntmps175
    go_wp2_with fail
    refine HC.out.mono ?_;rintro e w1 ⟨rfl,hb⟩;have HB:=QQ (hb.alloc hb.size (.cells #[.int .i64 o.id,.int .i64 o.side,.int .i64 o.kind,.int .i64 o.price,.int .i64 o.qty] 117));clear hb;go_wp2_with fail
    go_ret;refine .inl ⟨?_, ?_,HB.out⟩
    ·rw[HE.out];decide
    ·rw[HE.out];rfl
   ·have d2:decide (o.qty<n)=false:=OY c2
    by_cases c3:n=o.qty
    ·subst c3
     have d3:(o.qty ==o.qty)=true:=Z2 rfl;go_enter Tryz.func175,Tryz.ntmps175
     go_wp2_with fail
     refine HC.out.mono ?_;rintro e w1 ⟨rfl,hb⟩;have hb2:=hb.alloc hb.size (.cells #[.int .i64 o.id,.int .i64 o.side,.int .i64 o.kind,.int .i64 o.price,.int .i64 o.qty] 117);have HCa:=QQ (Qg1 _ b G _ _ (Hat.out.below hb2) id);have HB:=QQ hb2;clear hb hb2;go_wp2_with fail
     refine HCa.out.mono ?_;rintro e w2 (⟨h0,-,-⟩|⟨o',h0,rfl,hto⟩)
     ·rw[Hg.out]at h0
      cases h0
     ·have Hto:=QQ hto
      clear hto h0;rw[K0];go_wp2_with fail
      go_ret;obtain⟨G',hA',hB'⟩:=Hto.out;refine .inr ⟨o,Hg.out,by omega,Int.le_refl _,rfl,G', ?_,(KQ.of_below HB.out).trans hB'⟩;unfold Qf2;rw[if_pos rfl,if_pos rfl,Hxi.out];exact hA'
    ·have d3:(n ==o.qty)=false:=YW c3
     have hw:RowKit.wrap64 (o.qty-n)=o.qty-n:=by unfold RowKit.wrap64;omega
     go_enter Tryz.func175,Tryz.ntmps175
     go_wp2_with fail
     refine HC.out.mono ?_;rintro e w1 ⟨rfl,hb⟩;have hb2:=(hb.alloc hb.size (.cells #[.int .i64 o.id,.int .i64 o.side,.int .i64 o.kind,.int .i64 o.price,.int .i64 (o.qty-n)] 117));have hM2:=HM.out.below hb2;obtain⟨y0,y1,-,-,-,-⟩:=hM2.cells;have hset:=Ze1 (w:=(w1.alloc (.cells #[.int .i64 o.id,.int .i64 o.side,.int .i64 o.kind,.int .i64 o.price,.int .i64 (o.qty-n)] 117)).drew) (hM2.below (Below.drew (Below.refl _ _))).ar h1 h2 (by have:=HS_.out.hM _ Hx.out;dsimp only at this;rw[this];rfl) (I9 o n);unfold KJ I9 at hset;dsimp only at hset;have HSet:=QQ hset;have hl1:=Qy6 hM2.mp Hv.out;have hl2:=Qy6 (w:=(w1.alloc (.cells #[.int .i64 o.id,.int .i64 o.side,.int .i64 o.kind,.int .i64 o.price,.int .i64 (o.qty-n)] 117)).drew) (hM2.below (Below.drew (Below.refl _ _))).mp Hv.out;dsimp only at hl1 hl2;have HM2:=QQ (hM2.below (Below.drew (Below.refl _ _)));have hbx:=QJ.new w1 117 #[.int .i64 o.id,.int .i64 o.side,.int .i64 o.kind,.int .i64 o.price,.int .i64 (o.qty-n)];obtain⟨z0,z1,z2,z3,z4⟩:=O7 hbx;have hbl:=QJ.lt hM2.blk;have hpf:=fun(W:World) (c d e:Value)=>Xl1 W (.int .i64 h1) (.int .i64 h2) c d e
     have HB:=QQ (hb2.trans ((Below.drew (Below.refl _ _):Below _ _ (w1.alloc (.cells #[.int .i64 o.id,.int .i64 o.side,.int .i64 o.kind,.int .i64 o.price,.int .i64 (o.qty-n)] 117)).drew).mono hb2.size));clear hb hb2 hM2 hset hbx;go_wp2_with fail
     go_region_with (go_at_call 195;refine HSet.out.mono ?_;rintro e w5 ⟨rfl,hto⟩;have HT:=QQ hto;clear hto)
     all_goals go_wp2_with fail
     all_goals
      go_ret;obtain⟨F',reg',hM5,hB5⟩:=HM2.out.arena HT.out;exact .inr ⟨o,Hg.out,c1,c2,rfl,Zk1 (x:=((h1,h2),o)) HS_.out Hx.out c1 (by dsimp only;omega) HG.out hM5 ((KQ.of_below HB.out).trans hB5)⟩
end Go.Proofs.YtbmiieehkkfbgaaGreatDoor
