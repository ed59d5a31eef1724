/- Contracts and walks that the law's proof needs. -/
import Derived.Test.YtnlngicnfegjgaaGreatDoorZd2
import Derived.Test.YtnlngicnfegjgaaGreatDoorZd1
import Derived.WalkKit
import Derived.Maps.OwnSet
import Derived.WalkLawsBesides
import Derived.WalkSpells
import Derived.Deep.RegionHeld3
import Derived.Deep.DrawnRows
import Derived.Deep.QuietTactic
import Derived.BigQuiet
import Derived.Test.YtnlngicnfegjgaaGreatDoorRows
set_option linter.unusedVariables false
set_option maxRecDepth 100000
set_option maxHeartbeats 8000000
namespace Go.Proofs.YtnlngicnfegjgaaGreatDoor
open Go.RowKit
def Xu0 (x:Int):Int:=if x<0 then -x else x
def Je9 (p:XJ):Int:=Xu0 (p.2.1-p.2.2)
def U2 (l:List XJ):Int:=l.foldl (fun m p=>max m (ZQ p)) 0
def Qo9 (most:Int) (l:List XJ):Int×Bool:=l.foldl (fun s p=>if ZQ p=most∧(s.2=false∨Je9 p<s.1)then(Je9 p,true)else s) (0,false)
def Jl1 (most least:Int) (l:List XJ):List XJ:=l.filter fun p=>(ZQ p ==most) && (Je9 p ==least)
def Jl2 (l:List XJ):Bool:=l.all fun p=>decide (p.2.2<p.2.1)
def Qs0 (l:List XJ):Bool:=l.all fun p=>decide (p.2.1<p.2.2)
def Qk4 (buys sells:Bool) (r:Int) (p x:XJ):Bool:=
 if buys then decide (x.1<p.1)else if sells then decide (p.1<x.1)else decide (Xu0 (p.1-r)<Xu0 (x.1-r)) || (Xu0 (p.1-r) ==Xu0 (x.1-r) &&decide (p.1<x.1))
def Jl3 (buys sells:Bool) (r:Int) (x:XJ) (l:List XJ):XJ:=l.foldl (fun x p=>if Qk4 buys sells r p x=true then p else x) x
def Zb1 (r:Int):List XJ→XJ
 | []=>(0,0,0)
 |x::b=>Jp2 [Jl3 (Jl2 (x::b)) (Qs0 (x::b)) r x (x::b)]
def Jq0 (l:List XJ) (r:Int):XJ:=if U2 l<1 then(0,0,0)else Zb1 r (Jl1 (U2 l) (Qo9 (U2 l) l).1 l)
theorem Kb3 (x:Int):Xu0 x=max x (-x):=by unfold Xu0;split<;>omega
theorem Xf0 (p:XJ):Je9 p=Qe6 p:=by unfold Je9 Qe6;rw[Kb3];omega
theorem Xu1 (l:List XJ): ∀m:Int,(l.foldl (fun m p=>max m (ZQ p)) m=m∨ ∃p∈l,ZQ p=l.foldl (fun m p=>max m (ZQ p)) m)∧m≤l.foldl (fun m p=>max m (ZQ p)) m∧ ∀p∈l,ZQ p≤l.foldl (fun m p=>max m (ZQ p)) m:=by
 induction l with
 |nil=>intro m;exact⟨.inl rfl,Int.le_refl _,fun p hp=>by cases hp⟩
 |cons a l ih=>
  intro m;obtain⟨h1,h2,h3⟩:=ih (max m (ZQ a));rw[List.foldl_cons];have e1:=Int.le_max_left m (ZQ a);have e2:=Int.le_max_right m (ZQ a);refine⟨?_,by omega,fun p hp=> ?_⟩
  ·rcases h1 with h1|⟨p,hp,e⟩
   ·rcases Int.le_total m (ZQ a)with h|h
    ·right;exact⟨a,by simp,by rw[h1];omega⟩
    ·left;rw[h1];omega
   ·exact .inr ⟨p,by simp[hp],e⟩
  ·rcases List.mem_cons.1 hp with rfl|hp
   ·omega
   ·exact h3 p hp
theorem Qs1 (l:List XJ):(U2 l=0∨ ∃p∈l,ZQ p=U2 l)∧0≤U2 l∧ ∀p∈l,ZQ p≤U2 l:=Xu1 l 0
theorem Xj7 (m:Int) (l:List XJ): ∀s:Int×Bool,
  let t:=l.foldl (fun s p=>if ZQ p=m∧(s.2=false∨Je9 p<s.1)then(Je9 p,true)else s) s
  (t=s∨(t.2=true∧ ∃p∈l,ZQ p=m∧Je9 p=t.1))∧(s.2=true→t.2=true∧t.1≤s.1)∧ ∀p∈l,ZQ p=m→t.2=true∧t.1≤Je9 p:=by
 induction l with
 |nil=>intro s;exact⟨.inl rfl,fun h=>⟨h,Int.le_refl _⟩,fun p hp=>by cases hp⟩
 |cons a l ih=>
  intro s;rw[List.foldl_cons]
  by_cases hc:ZQ a=m∧(s.2=false∨Je9 a<s.1)
  ·rw[if_pos hc]
   obtain⟨h1,h2,h3⟩:=ih (Je9 a,true);obtain⟨g1,g2⟩:=h2 rfl;refine⟨?_,fun hs=>⟨g1, ?_⟩,fun p hp ht=> ?_⟩
   ·rcases h1 with h1|⟨e,p,hp,e2⟩
    ·exact .inr ⟨g1,a,by simp,hc.1,by rw[h1]⟩
    ·exact .inr ⟨e,p,by simp[hp],e2⟩
   ·rcases hc.2 with h|h
    ·rw[hs]at h;cases h
    ·exact Int.le_trans g2 (Int.le_of_lt h)
   ·rcases List.mem_cons.1 hp with rfl|hp
    ·exact⟨g1,g2⟩
    ·exact h3 p hp ht
  ·rw[if_neg hc]
   obtain⟨h1,h2,h3⟩:=ih s;refine⟨?_,h2,fun p hp ht=> ?_⟩
   ·rcases h1 with h1|⟨e,p,hp,e2⟩
    ·exact .inl h1
    ·exact .inr ⟨e,p,by simp[hp],e2⟩
   ·rcases List.mem_cons.1 hp with rfl|hp
    ·have hs:s.2=true:=by
      cases h:s.2 with
      |true=>rfl
      |false=>exact absurd ⟨ht,.inl h⟩ hc
     obtain⟨g1,g2⟩:=h2 hs;refine⟨g1, ?_⟩;rcases Int.lt_or_le (Je9 p) s.1 with h|h
     ·exact absurd ⟨ht,.inr h⟩ hc
     ·exact Int.le_trans g2 h
    ·exact h3 p hp ht
theorem Jl4 (m:Int) (l:List XJ) (h: ∃p∈l,ZQ p=m):(∃p∈l,ZQ p=m∧Je9 p=(Qo9 m l).1)∧ ∀p∈l,ZQ p=m→(Qo9 m l).1≤Je9 p:=by
 obtain⟨h1,_,h3⟩:=Xj7 m l (0,false)
 obtain⟨p,hp,e⟩:=h
 refine⟨?_,fun q hq ht=>(h3 q hq ht).2⟩
 rcases h1 with h1|⟨_,h1⟩
 ·have h4:=(h3 p hp e).1
  rw[h1]at h4
  cases h4
 ·exact h1
theorem Xj8 (l:List XJ) (h:1≤U2 l):Jl1 (U2 l) (Qo9 (U2 l) l).1 l≠ []:=by
 obtain⟨h1,_,_⟩:=Qs1 l
 rcases h1 with h1|h1
 ·omega
 ·obtain⟨⟨p,hp,e1,e2⟩,_⟩:=Jl4 (U2 l) l h1
  intro h0;have:p∈Jl1 (U2 l) (Qo9 (U2 l) l).1 l:=List.mem_filter.2 ⟨hp,by simp[e1,e2]⟩;rw[h0]at this
  cases this
theorem Qw1 {F:XJ→Int} {ps:List XJ} {m:Int} (h1: ∃p∈ps,F p=m) (h2: ∀p∈ps,F p≤m):Q3 F ps=ps.filter fun p=>F p ==m:=by
 have hne:ps≠ []:=by
  obtain⟨p,hp,_⟩:=h1;intro h;rw[h]at hp;cases hp
 obtain⟨⟨q,hq,e⟩,hall⟩:=Jy8 F ps hne
 obtain⟨p,hp,e2⟩:=h1
 have:Xe9 F ps=m:=by
  have:=hall p hp;have:=h2 q hq;omega
 unfold Q3
 rw[this]
theorem Kf3 (ps:List XJ) (h:1≤U2 ps):Q3 ZQ ps=ps.filter (fun p=>ZQ p ==U2 ps)∧Q3 (fun p=> -Qe6 p) (Q3 ZQ ps)=Jl1 (U2 ps) (Qo9 (U2 ps) ps).1 ps:=by
 obtain⟨h1,h0,h2⟩:=Qs1 ps
 have h3: ∃p∈ps,ZQ p=U2 ps:=h1.resolve_left (by omega)
 have e1:=Qw1 h3 h2
 obtain⟨⟨p,hp,e2,e3⟩,h4⟩:=Jl4 (U2 ps) ps h3
 refine⟨e1, ?_⟩
 rw[e1,Qw1 (m:= -(Qo9 (U2 ps) ps).1)]
 ·unfold Jl1
  rw[List.filter_filter]
  congr 1
  funext q
  rw[←Xf0];rw[Bool.eq_iff_iff];simp;omega
 ·exact⟨p,List.mem_filter.2 ⟨hp,by simp[e2]⟩,by rw[←Xf0,e3]⟩
 ·intro q hq
  obtain⟨hq1,hq2⟩:=List.mem_filter.1 hq;have:=h4 q hq1 (by simpa using hq2);rw[←Xf0];omega
theorem Km4 (K1 K2:XJ→Int) (better:XJ→XJ→Bool) (hb: ∀p x,better p x=true↔(K1 x<K1 p∨(K1 x=K1 p∧K2 x<K2 p))) (l:List XJ): ∀(pre:List XJ) (x:XJ) (post:List XJ),
  (∀q∈pre,better x q=true)→(∀q∈post,better q x=false)→
  ∃pre' y post',pre++x::post++l=pre'++y::post'∧l.foldl (fun x p=>if better p x=true then p else x) x=y∧(∀q∈pre',better y q=true)∧(∀q∈post',better q y=false):=by
 induction l with
 |nil=>intro pre x post h1 h2;exact⟨pre,x,post,by simp,rfl,h1,h2⟩
 |cons a l ih=>
  intro pre x post h1 h2;rw[List.foldl_cons]
  by_cases hc:better a x=true
  ·rw[if_pos hc]
   obtain⟨pre',y,post',e,e2,g1,g2⟩:=ih (pre++x::post) a [] (fun q hq=>by
    have ha:=(hb a x).1 hc;rcases List.mem_append.1 hq with hq|hq
    ·have:=(hb x q).1 (h1 q hq)
     exact(hb a q).2 (by omega)
    ·rcases List.mem_cons.1 hq with rfl|hq
     ·exact hc
     ·have h3:=h2 q hq
      have h4: ¬(K1 x<K1 q∨(K1 x=K1 q∧K2 x<K2 q)):=fun h=>by rw[(hb q x).2 h]at h3;cases h3
      exact(hb a q).2 (by omega)) (fun q hq=>by cases hq)
   exact⟨pre',y,post',by rw[←e];simp,e2,g1,g2⟩
  ·rw[if_neg hc]
   obtain⟨pre',y,post',e,e2,g1,g2⟩:=ih pre x (post++ [a]) h1 (fun q hq=>by
    rcases List.mem_append.1 hq with hq|hq
    ·exact h2 q hq
    ·simp at hq;subst hq;simpa using hc)
   exact⟨pre',y,post',by rw[←e];simp,e2,g1,g2⟩
theorem Jq1 (K1 K2:XJ→Int) (better:XJ→XJ→Bool) (hb: ∀p x,better p x=true↔(K1 x<K1 p∨(K1 x=K1 p∧K2 x<K2 p))) (x:XJ) (l:List XJ):
  ∃t,Q3 K2 (Q3 K1 (x::l))=(x::l).foldl (fun x p=>if better p x=true then p else x) x::t:=by
 have hxx:better x x=false:=by
  cases h:better x x with
  |false=>rfl
  |true=>have:=(hb x x).1 h;omega
 obtain⟨pre,y,post,e,e2,g1,g2⟩:=Km4 K1 K2 better hb l [] x [] (fun q hq=>by cases hq) (fun q hq=>by cases hq)
 rw[List.foldl_cons,if_neg (by rw[hxx];simp),e2]
 have e3:x::l=pre++y::post:=by simpa using e
 rw[e3]
 have lt1: ∀q∈pre,K1 q<K1 y∨(K1 q=K1 y∧K2 q<K2 y):=fun q hq=>(hb y q).1 (g1 q hq)
 have le1: ∀q∈post,¬(K1 y<K1 q∨(K1 y=K1 q∧K2 y<K2 q)):=fun q hq h=>by have:=g2 q hq;rw[(hb q y).2 h]at this;cases this
 rw[Qw1 (F:=K1) (m:=K1 y) ⟨y,by simp,rfl⟩ (fun q hq=>by
  rcases List.mem_append.1 hq with hq|hq
  ·have:=lt1 q hq;omega
  ·rcases List.mem_cons.1 hq with rfl|hq
   ·exact Int.le_refl _
   ·have:=le1 q hq;omega)]
 rw[Qw1 (F:=K2) (m:=K2 y) ⟨y,by simp,rfl⟩ (fun q hq=>by
  obtain⟨hq1,hq2⟩:=List.mem_filter.1 hq;have hk:K1 q=K1 y:=by simpa using hq2
  rcases List.mem_append.1 hq1 with hq|hq
  ·have:=lt1 q hq;omega
  ·rcases List.mem_cons.1 hq with rfl|hq
   ·exact Int.le_refl _
   ·have:=le1 q hq;omega)]
 rw[List.filter_filter,List.filter_append]
 have h0:pre.filter (fun a=>(K2 a ==K2 y) && (K1 a ==K1 y))= []:=by
  rw[List.filter_eq_nil_iff];intro q hq;have:=lt1 q hq;simp;omega
 rw[h0,List.filter_cons]
 simp
theorem Jl5 (ps:List XJ):Q3 (fun _=>0) ps=ps:=by
 cases ps with
 |nil=>rfl
 |cons a l=>rw[Qw1 (m:=0) ⟨a,by simp,rfl⟩ (fun _ _=>Int.le_refl _)];simp
theorem Xu2 (r:Int) (x:XJ) (b:List XJ): ∃t,Qu4 r (x::b)=Jl3 (Jl2 (x::b)) (Qs0 (x::b)) r x (x::b)::t:=by
 have hbuy:((x::b).any (fun p=>decide ((p.2.1-p.2.2)*1≤0))=false)↔Jl2 (x::b)=true:=by
  unfold Jl2;rw[List.any_eq_false,List.all_eq_true];constructor
  ·intro h p hp;have:=h p hp;simp at this⊢;omega
  ·intro h p hp;have:=h p hp;simp at this⊢;omega
 have hsell:((x::b).any (fun p=>decide ((p.2.1-p.2.2)* -1≤0))=false)↔Qs0 (x::b)=true:=by
  unfold Qs0;rw[List.any_eq_false,List.all_eq_true];constructor
  ·intro h p hp;have:=h p hp;simp at this⊢;omega
  ·intro h p hp;have:=h p hp;simp at this⊢;omega
 unfold Qu4 Jl3
 by_cases h1:Jl2 (x::b)=true
 ·rw[if_pos (hbuy.2 h1),h1]
  have:=Jq1 (fun p=>p.1) (fun _=>0) (Qk4 true (Qs0 (x::b)) r) (fun p y=>by simp[Qk4]) x b;rw[Jl5]at this;exact this
 ·rw[if_neg (fun h=>h1 (hbuy.1 h))]
  have h1':Jl2 (x::b)=false:=by simpa using h1
  by_cases h2:Qs0 (x::b)=true
  ·rw[if_pos (hsell.2 h2),h1',h2]
   have:=Jq1 (fun p=> -p.1) (fun _=>0) (Qk4 false true r) (fun p y=>by simp[Qk4]) x b;rw[Jl5]at this;exact this
  ·rw[if_neg (fun h=>h2 (hsell.1 h))]
   have h2':Qs0 (x::b)=false:=by simpa using h2
   rw[h1',h2'];exact Jq1 (fun p=> -max (p.1-r) (r-p.1)) (fun p=> -p.1) (Qk4 false false r) (fun p y=>by simp[Qk4,Kb3];omega) x b
theorem Xj9 (ps:List XJ) (r:Int):Q9 ps r=Jq0 ps r:=by
 obtain⟨h1,h0,h2⟩:=Qs1 ps
 unfold Q9 Jq0
 by_cases hm:U2 ps<1
 ·rw[if_pos hm]
  cases hk:Q3 ZQ ps with
  |nil=>rfl
  |cons p l=>
   have hp:p∈ps:=Jy9 (F:=ZQ) (by rw[hk];simp);have:=h2 p hp;show(if ZQ p<1 then _ else _)=_;rw[if_pos (by omega)]
 ·rw[if_neg hm]
  obtain⟨e1,e2⟩:=Kf3 ps (by omega)
  cases hk:Q3 ZQ ps with
  |nil=>
   exfalso
   obtain⟨p,hp,e⟩:=h1.resolve_left (by omega);have:p∈Q3 ZQ ps:=by rw[e1];exact List.mem_filter.2 ⟨hp,by simp[e]⟩
   rw[hk]at this
   cases this
  |cons p l=>
   have hp:p∈ps.filter (fun p=>ZQ p ==U2 ps):=by rw[←e1,hk];simp
   have ht:ZQ p=U2 ps:=by simpa using(List.mem_filter.1 hp).2
   show(if ZQ p<1 then _ else Jp2 (Qu4 r (Q3 (fun p=> -Qe6 p) (p::l))))=_;rw[if_neg (by omega),←hk,e2]
   cases hb:Jl1 (U2 ps) (Qo9 (U2 ps) ps).1 ps with
   |nil=>exact absurd hb (Xj8 ps (by omega))
   |cons x b=>
    obtain⟨t,e3⟩:=Xu2 r x b;rw[e3]
    rfl
theorem Kz1 (L:List Int) (h:L≠ []): ∃q∈L,∀r∈L,r≤q:=by
 induction L with
 |nil=>exact absurd rfl h
 |cons a L ih=>
  by_cases hL:L= []
  ·subst hL;exact⟨a,by simp,fun r hr=>by simp at hr;omega⟩
  ·obtain⟨q,hq,h1⟩:=ih hL
   by_cases hc:a≤q
   ·exact⟨q,by simp[hq],fun r hr=>by rcases List.mem_cons.1 hr with rfl|hr;exact hc;exact h1 r hr⟩
   ·exact⟨a,by simp,fun r hr=>by rcases List.mem_cons.1 hr with rfl|hr;exact Int.le_refl _;have:=h1 r hr;omega⟩
theorem Xu3 (p:Int) (L:List Int):(∃q∈L,p≤q∧ ∀r∈L,p≤r→q≤r)∨ ∀r∈L,r<p:=by
 induction L with
 |nil=>right;intro r hr;cases hr
 |cons a L ih=>
  rcases ih with⟨q,hq,h1,h2⟩|h
  ·by_cases hc:p≤a∧a≤q
   ·left
    exact⟨a,by simp,hc.1,fun r hr hp=>by rcases List.mem_cons.1 hr with rfl|hr;exact Int.le_refl _;have:=h2 r hr hp;omega⟩
   ·left
    exact⟨q,by simp[hq],h1,fun r hr hp=>by rcases List.mem_cons.1 hr with rfl|hr;omega;exact h2 r hr hp⟩
  ·by_cases hc:p≤a
   ·left
    exact⟨a,by simp,hc,fun r hr hp=>by rcases List.mem_cons.1 hr with rfl|hr;exact Int.le_refl _;have:=h r hr;omega⟩
   ·right
    intro r hr;rcases List.mem_cons.1 hr with rfl|hr
    ·omega
    ·exact h r hr
theorem Km5 (p:Int) (L:List Int) (h:L≠ []): ∃q∈L,(∀r∈L,p≤r→q≤r)∧ ∀r∈L,r≤p→r≤q:=by
 rcases Xu3 p L with⟨q,hq,h1,h2⟩|h1
 ·exact⟨q,hq,h2,fun r hr hp=>by omega⟩
 ·obtain⟨q,hq,h2⟩:=Kz1 L h
  exact⟨q,hq,fun r hr hp=>by have:=h1 r hr;omega,fun r hr _=>h2 r hr⟩
theorem Jz0 (F G:QX→Int) (l:List QX) (h: ∀o∈l,F o≤G o): ∀s t:Int,s≤t→l.foldl (fun s o=>s+F o) s≤l.foldl (fun s o=>s+G o) t:=by
 induction l with
 |nil=>intro s t h;exact h
 |cons a l ih=>
  intro s t hs;rw[List.foldl_cons,List.foldl_cons];have:=h a (by simp);exact ih (fun o ho=>h o (by simp[ho])) _ _ (by omega)
theorem Kb4 {l:List QX} {more:Int} (h:Jb4 l) (hm:1≤more) (p:Int): ∃y∈V0 l more,min (Qo7 p l) (Qo8 p l)≤ZQ y:=by
 have hne:U0 l more≠ []:=by unfold U0;rw[if_pos hm];simp
 obtain⟨q,hq,h1,h2⟩:=Km5 p (U0 l more) hne
 refine⟨Qz8 (Qn5 l) q,List.mem_map.2 ⟨q,(Xt5 _ _).2 hq,rfl⟩, ?_⟩
 rw[Qq1 h]
 have d1:Qo7 p l≤Qo7 q l:=Jz0 (Jc6 p) (Jc6 q) l (fun o ho=>by
  have hb:=Qz9 (h o ho);unfold Jc6
  by_cases hk:o.kind=2
  ·simp[hk]
  ·have:=h1 o.price (Jp8 h ho hk)
   by_cases hs:o.side=1<;>by_cases hp:p≤o.price<;>by_cases hp2:q≤o.price<;>simp[hk,hs,hp,hp2]<;>omega) 0 0 (Int.le_refl _)
 have d2:Qo8 p l≤Qo8 q l:=Jz0 (Jc7 p) (Jc7 q) l (fun o ho=>by
  have hb:=Qz9 (h o ho);unfold Jc7
  by_cases hk:o.kind=2
  ·simp[hk]
  ·have:=h2 o.price (Jp8 h ho hk)
   by_cases hs:o.side=2<;>by_cases hp:o.price≤p<;>by_cases hp2:o.price≤q<;>simp[hk,hs,hp,hp2]<;>omega) 0 0 (Int.le_refl _)
 show min (Qo7 p l) (Qo8 p l)≤min (Qo7 q l) (Qo8 q l)
 omega
theorem Kf4 (b1 b2:Bool) (r:Int) (l:List XJ): ∀x,Jl3 b1 b2 r x l=x∨Jl3 b1 b2 r x l∈l:=by
 induction l with
 |nil=>intro x;left;rfl
 |cons a l ih=>
  intro x;have e:Jl3 b1 b2 r x (a::l)=Jl3 b1 b2 r (if Qk4 b1 b2 r a x=true then a else x) l:=rfl;rw[e]
  by_cases hc:Qk4 b1 b2 r a x=true
  ·rw[if_pos hc]
   rcases ih a with h|h
   ·right;rw[h];simp
   ·right;simp[h]
  ·rw[if_neg hc]
   rcases ih x with h|h
   ·left;exact h
   ·right;simp[h]
theorem choose_spec (l:List XJ) (r:Int):(Q9 l r=(0,0,0)∧ ∀y∈l,ZQ y≤0)∨ ∃y∈l,Q9 l r=(y.1,ZQ y,y.2.1-y.2.2)∧1≤ZQ y∧ ∀z∈l,ZQ z≤ZQ y:=by
 rw[Xj9]
 obtain⟨h1,h0,h2⟩:=Qs1 l
 unfold Jq0
 by_cases hm:U2 l<1
 ·left
  rw[if_pos hm];exact⟨rfl,fun y hy=>by have:=h2 y hy;omega⟩
 ·right
  rw[if_neg hm];have hne:=Xj8 l (by omega)
  cases hb:Jl1 (U2 l) (Qo9 (U2 l) l).1 l with
  |nil=>exact absurd hb hne
  |cons x b=>
   have hmem:Jl3 (Jl2 (x::b)) (Qs0 (x::b)) r x (x::b)∈Jl1 (U2 l) (Qo9 (U2 l) l).1 l:=by
    rw[hb];rcases Kf4 (Jl2 (x::b)) (Qs0 (x::b)) r (x::b) x with h|h
    ·rw[h];simp
    ·exact h
   obtain⟨g1,g2⟩:=List.mem_filter.1 hmem;simp only[Bool.and_eq_true,beq_iff_eq]at g2;refine⟨_,g1,rfl,by rw[g2.1];omega,fun z hz=>by rw[g2.1];exact h2 z hz⟩
theorem Jz1 {l:List QX} {more:Int} (h:Jb4 l) (hm:1≤more) (r:Int):
  (∀p,min (Qo7 p l) (Qo8 p l)≤(Q9 (V0 l more) r).2.1)∧
  (0< (Q9 (V0 l more) r).2.1→(Q9 (V0 l more) r).2.1=min (Qo7 (Q9 (V0 l more) r).1 l) (Qo8 (Q9 (V0 l more) r).1 l)∧(Q9 (V0 l more) r).2.2=Qo7 (Q9 (V0 l more) r).1 l-Qo8 (Q9 (V0 l more) r).1 l):=by
 rcases choose_spec (V0 l more) r with⟨e,h1⟩|⟨y,hy,e,hy1,h1⟩
 ·rw[e]
  refine⟨fun p=> ?_,fun h0=>absurd h0 (by simp)⟩;obtain⟨z,hz,hz2⟩:=Kb4 h hm p;have:=h1 z hz;show _≤(0:Int);omega
 ·rw[e]
  refine⟨fun p=> ?_,fun _=> ?_⟩
  ·obtain⟨z,hz,hz2⟩:=Kb4 h hm p
   have:=h1 z hz;show _≤ZQ y;omega
  ·obtain⟨q,hq,rfl⟩:=List.mem_map.1 hy
   rw[Qq1 h];exact⟨rfl,rfl⟩
end Go.Proofs.YtnlngicnfegjgaaGreatDoor
namespace Go.Proofs.YtnlngicnfegjgaaGreatDoor
open Go.ChangeMaps Go.RowKit
structure IV (w w':World) (r:Nat):Prop where
 os:w'.os=w.os
 tape:w'.tape=w.tape
 output:w'.output=w.output
 size:w'.heap.size=w.heap.size
 block: ∀k,k≠r→w'.heap[k]?=w.heap[k]?
theorem IV.grown {w w':World} {r:Nat} (h:IV w w' r):w.grownBy w' (some r):=
 ⟨h.os,h.tape,h.output,Nat.le_of_eq h.size.symm,fun k _ hk=>h.block k (fun e=>hk (by rw[e]))⟩
theorem IV.below {w w':World} {r B:Nat} (h:IV w w' r) (hB:B≤r):Below B w w':=
 ⟨h.os,h.tape,h.output,Nat.le_of_eq h.size.symm,fun k hk=>h.block k (by omega)⟩
theorem IV.cell {w w':World} {r:Nat} (h:IV w w' r) {p:Addr} (hp:p.block≠r):w'.cell? p=w.cell? p:=World.cell?_of_block (h.block _ hp)
theorem UV (w:World) (r:Nat) (o:Obj):IV w (setBlock w r o) r:=
 ⟨rfl,rfl,rfl,by simp[setBlock],fun k hk=>by simp only[setBlock];rw[Array.getElem?_setIfInBounds_ne (by omega)]⟩
def Km6 (kd:TypeDesc):Prop:=(∃q,kd= .int q)∨kd= .string∨kd= .bool
theorem J8 {q:IntKind}:Km6 (.int q):= .inl ⟨q,rfl⟩
def Q4 (w:World) (r:Nat) (es:List MapEntry) (c:Nat):Prop:=w.heap[r]?=some (.map es.toArray c)
section
variable {w w':World} {r c:Nat} {es:List MapEntry}
theorem Q4.lt (h:Q4 w r es c):r<w.heap.size:=(Array.getElem?_eq_some_iff.1 h).1
theorem Q4.of_block (h:Q4 w r es c) (hb:w'.heap[r]?=w.heap[r]?):Q4 w' r es c:=hb.trans h
theorem Q4.kept {row:Option Nat} (h:Q4 w r es c) (hg:w.grownBy w' row) (hne:some r≠row):Q4 w' r es c:=(hg.block r h.lt hne).trans h
theorem Q4.alloc (h:Q4 w r es c) (o:Obj):Q4 (w.alloc o) r es c:=h.kept (World.grownBy_alloc w o none) (by simp)
theorem Q4.made (w:World):Q4 (w.alloc (.map #[] 0)) w.heap.size [] 0:=heap_alloc_new w _
theorem Q4.below {B:Nat} (h:Q4 w r es c) (hb:Below B w w') (hr:r<B):Q4 w' r es c:=(hb.block r hr).trans h
theorem Q4.set (h:Q4 w r es c) (es':List MapEntry) (c':Nat):Q4 (setBlock w r (.map es'.toArray c')) r es' c':=by
 have:=h.lt
 simp only[Q4,setBlock]
 rw[Array.getElem?_setIfInBounds_self_of_lt this]
end
def Jq2 (kd:TypeDesc) (k:Value) (es:List MapEntry):Option (Option (Nat×Value)):=Instr.findNow kd k es 0
section
variable {P:Program} {t kt et:TypeId} {kd:TypeDesc} (ht:P.underlying t=some (.map kt et)) (hk:P.underlying kt=some kd) (hp:Km6 kd) {w:World} {r c:Nat} {es:List MapEntry} (h:Q4 w r es c) (key val:Value)
include hk
theorem I3 (x:Option (Nat×Value)) (hf:Jq2 kd key es=some x) (w:World):(Instr.findKey kt key es).run P w= .ok x w:=by
 unfold Jq2 at hf
 simp[Instr.findKey,run_underlying hk,hf]
include hp
theorem U8 (em:Bool) (n:Nat) (v:Value) (w:World):(Instr.checkKey em (n+1) kt v).run P w= .ok () w:=by
 rcases hp with⟨q,rfl⟩|rfl|rfl<;>simp[Instr.checkKey,run_underlying hk]
include ht h
theorem Qa8 (hf:Jq2 kd key es=some none):
  (Instr.mapUpdate t (.map (some r)) key val).run P w= .ok () (setBlock w r (.map (es++ [(MapEntry.mk key val c)]).toArray (c+1))):=by
 have hr:w.heap[r]?=some (.map es.toArray c):=h
 simp[Instr.mapUpdate,run_underlying ht,getObj,Sem.run,hr,U8 hk hp,I3 hk key none hf,setObj,setBlock]
theorem Qp0 {z:Value} (hz:(zeroValue et).run P w= .ok z w) (ok:Bool) (x:Option (Nat×Value)) (hf:Jq2 kd key es=some x):
  (Instr.lookup t (.map (some r)) key ok).run P w= .ok (if ok then .tuple #[(x.map (·.2)).getD z,.bool x.isSome]else(x.map (·.2)).getD z) w:=by
 have hr:w.heap[r]?=some (.map es.toArray c):=h
 rcases x with _|⟨i,v⟩<;>
  simp[Instr.lookup,run_underlying ht,getObj,Sem.run,hr,U8 hk hp,I3 hk key _ hf,hz]
end
theorem Qa9 {P:Program} (w:World) {ops:Array Oper} {rest:List Oper} {o:Oper} {a:Act} {Q:Exit→Act→World→Prop}
  (hg:o.guard=none) (m x v:Operand) (t:TypeId) (hop:o.op=Op.insert t m x v) {kt et:TypeId} {kd:TypeDesc} (ht:P.underlying t=some (.map kt et)) (hk:P.underlying kt=some kd) (hp:Km6 kd)
  (r c:Nat) (es:List MapEntry) (key val:Value) (hm:a.eval m= .map (some r)) (hx:a.eval x=key) (hv:a.eval v=val) (h:Q4 w r es c) (hf:Jq2 kd key es=some none)
  (hK: ∀w1,Q4 w1 r (es++ [MapEntry.mk key val c]) (c+1)→IV w w1 r→wpList P ops Q rest (a.put o.dst undef) w1):wpList P ops Q (o::rest) a w:=by
 refine wpList_plain hg fun K' hK'=> ?_
 have hrun:=Qa8 ht hk hp h key val hf
 unfold Oper.wp
 simp only[execOp,hop,hm,hx,hv]
 simp[hrun]
 exact hK' _ _ (hK _ (h.set _ _) (UV _ _ _))
def Z4 (es:List MapEntry) (k:Int):Option Value:=(es.find? fun e=>match e.key with| .int .i64 n=>n ==k|_=>false).map (·.val)
def Qh1 (es:List MapEntry):Prop:= ∀e∈es,∃n:Int,e.key= .int .i64 n
def Jf0 (e:MapEntry):Int:=match e.key with| .int .i64 n=>n|_=>0
theorem I4: ∀(es:List MapEntry) (k:Int) (i:Nat),Qh1 es→
  ∃x,Instr.findNow (.int .i64) (.int .i64 k) es i=some x∧x.map (·.2)=Z4 es k∧
   (∀j v,x=some (j,v)→i≤j∧ ∃(hj:j-i<es.length),(es[j-i]).key= .int .i64 k∧es[j-i].val=v∧ ∀m (hm:m<j-i),(es[m]'(by omega)).key≠ .int .i64 k)∧(x=none→ ∀e∈es,e.key≠ .int .i64 k)
 | [],k,i,_=>⟨none,rfl,rfl,by simp,by simp⟩
 |e::es,k,i,h=>by
  obtain⟨n,hn⟩:=h e (by simp);obtain⟨x,hx,hl,hs,hnn⟩:=I4 es k (i+1) (fun e' he'=>h e' (by simp[he']))
  by_cases hkn:k=n
  ·subst hkn
   refine⟨some (i,e.val),by simp[Instr.findNow,Instr.sameNow,hn],by simp[Z4,hn], ?_,by simp⟩;rintro j v hjv;simp only[Option.some.injEq,Prod.mk.injEq]at hjv;obtain⟨rfl,rfl⟩:=hjv;refine⟨Nat.le_refl _,by simp,by simpa using hn,by simp,fun m hm=>by omega⟩
  ·have hb:(k ==n)=false:=by simpa using hkn
   have hb':(n ==k)=false:=by simpa using fun e=>hkn e.symm
   refine⟨x,by simp[Instr.findNow,Instr.sameNow,hn,hb,hx],by rw[hl];simp[Z4,hn,hb'], ?_, ?_⟩
   ·rintro j v hjv
    obtain⟨h1,h2,h3,h4,h5⟩:=hs j v hjv;have e1:j-i=(j- (i+1))+1:=by omega
    refine⟨by omega,by simp only[List.length_cons];omega, ?_, ?_, ?_⟩
    ·simp only[e1,List.getElem_cons_succ];exact h3
    ·simp only[e1,List.getElem_cons_succ];exact h4
    ·intro m hm
     rcases m with _|m
     ·simp only[List.getElem_cons_zero,hn]
      intro e;injection e with _ e;exact hkn e.symm
     ·simp only[List.getElem_cons_succ]
      exact h5 m (by omega)
   ·rintro rfl e' he'
    rcases List.mem_cons.1 he' with rfl|he'
    ·rw[hn];intro e;injection e with _ e;exact hkn e.symm
    ·exact hnn rfl e' he'
def I6 (w:World) (r:Nat) (f:Int→Option Value):Prop:=
 ∃es c,Q4 w r es c∧Qh1 es∧(es.map Jf0).Nodup∧ ∀k,Z4 es k=f k
def Z7 (f:Int→Option Value) (k:Int) (v:Option Value):Int→Option Value:=fun j=>if j=k then v else f j
section
variable {w w':World} {r:Nat} {f:Int→Option Value}
theorem I6.lt (h:I6 w r f):r<w.heap.size:=by obtain⟨es,c,h,_⟩:=h;exact h.lt
theorem I6.of_block (h:I6 w r f) (hb:w'.heap[r]?=w.heap[r]?):I6 w' r f:=by
 obtain⟨es,c,h,hr⟩:=h
 exact⟨es,c,h.of_block hb,hr⟩
theorem I6.kept {row:Option Nat} (h:I6 w r f) (hg:w.grownBy w' row) (hne:some r≠row):I6 w' r f:=h.of_block (hg.block r h.lt hne)
theorem I6.below {B:Nat} (h:I6 w r f) (hb:Below B w w') (hr:r<B):I6 w' r f:=h.of_block (hb.block r hr)
theorem I6.alloc (h:I6 w r f) (o:Obj):I6 (w.alloc o) r f:=h.kept (World.grownBy_alloc w o none) (by simp)
theorem I6.made (w:World):I6 (w.alloc (.map #[] 0)) w.heap.size fun _=>none:=
 ⟨[],0,Q4.made w,by simp[Qh1],by simp,by simp[Z4]⟩
variable {P:Program} {t kt et:TypeId} (ht:P.underlying t=some (.map kt et)) (hk:P.underlying kt=some (.int .i64))
theorem Qn6 {e:MapEntry} {n:Int} (h:e.key= .int .i64 n):Jf0 e=n:=by simp[Jf0,h]
include ht hk in
theorem I6.lookup (h:I6 w r f) {z:Value} (hz:(zeroValue et).run P w= .ok z w) (k:Int) (ok:Bool):
  (Instr.lookup t (.map (some r)) (.int .i64 k) ok).run P w= .ok (if ok then .tuple #[(f k).getD z,.bool (f k).isSome]else(f k).getD z) w:=by
 obtain⟨es,c,h,hK,_,hf⟩:=h
 obtain⟨x,hx,hl,_⟩:=I4 es k 0 hK
 rw[Qp0 ht hk J8 h _ hz ok x hx,hl,hf]
 have:x.isSome=(f k).isSome:=by rw[←hf,←hl];simp
 rw[this]
theorem Qk5: ∀(es:List MapEntry) (i:Nat) (k:Int) (v:Value),Qh1 es→(es.map Jf0).Nodup→(hi:i<es.length)→es[i].key= .int .i64 k→
  ∀j,Z4 (es.modify i fun e=> {e with key:= .int .i64 k,val:=v}) j=Z7 (Z4 es) k (some v) j
 | [],i,k,v,_,_,hi,_=>by simp at hi
 |e::es,0,k,v,hK,hN,_,hkey=>by
  intro j;simp only[List.getElem_cons_zero]at hkey
  by_cases hj:j=k
  ·subst hj;simp[Z4,Z7]
  ·have hb:(k ==j)=false:=by simpa using fun e=>hj e.symm
   simp[Z4,Z7,hj,hkey,hb]
 |e::es,i+1,k,v,hK,hN,hi,hkey=>by
  intro j;simp only[List.getElem_cons_succ]at hkey;simp only[List.map_cons,List.nodup_cons]at hN;have ih:=Qk5 es i k v (fun e' he'=>hK e' (by simp[he'])) hN.2 (by simpa using hi) hkey j;obtain⟨n,hn⟩:=hK e (by simp);have hne:n≠k:=by
   rintro rfl;apply hN.1;rw[Qn6 hn];exact List.mem_map.2 ⟨es[i]'(by simpa using hi),List.getElem_mem _,Qn6 hkey⟩
  simp only[List.modify_succ_cons]
  by_cases hj:n=j
  ·subst hj
   simp[Z4,Z7,hn,hne]
  ·have hb:(n ==j)=false:=by simpa using hj
   simp only[Z4,List.find?_cons,hn,hb,Z7]at ih⊢;exact ih
theorem Qk6 (es:List MapEntry) (e:MapEntry) (k:Int) (hkey:e.key= .int .i64 k) (hno: ∀e'∈es,e'.key≠ .int .i64 k) (hK:Qh1 es):
  ∀j,Z4 (es++ [e]) j=Z7 (Z4 es) k (some e.val) j:=by
 intro j
 by_cases hj:j=k
 ·subst hj
  have:es.find? (fun e=>match e.key with| .int .i64 n=>n ==j|_=>false)=none:=by
   rw[List.find?_eq_none];intro e' he';obtain⟨n,hn⟩:=hK e' he';have:=hno e' he';rw[hn]at this⊢;simp only[beq_iff_eq];rintro rfl;exact this rfl
  simp[Z4,Z7,List.find?_append,this,hkey]
 ·have hb:(k ==j)=false:=by simpa using fun e=>hj e.symm
  simp[Z4,Z7,List.find?_append,hkey,hb,hj]
theorem Ql6 {es:List MapEntry} {i:Nat} {k:Int} {v:Value} (hK:Qh1 es):Qh1 (es.modify i fun e=> {e with key:= .int .i64 k,val:=v}):=by
 intro e he
 obtain⟨j,hj,rfl⟩:=List.mem_iff_getElem.1 he
 rw[List.getElem_modify]
 split
 ·exact⟨k,rfl⟩
 ·exact hK _ (List.getElem_mem _)
theorem Qj7 {es:List MapEntry} {i:Nat} {k:Int} {v:Value} (hi:i<es.length) (hkey:es[i].key= .int .i64 k):
  (es.modify i fun e=> {e with key:= .int .i64 k,val:=v}).map Jf0=es.map Jf0:=by
 apply List.ext_getElem
 ·simp
 ·intro j h1 h2
  simp only[List.getElem_map,List.getElem_modify]
  split
  ·rename_i hij
   subst hij;simp[Jf0,hkey]
  ·rfl
include ht hk in
theorem I6.update (h:I6 w r f) (k:Int) (v:Value):
  ∃w',(Instr.mapUpdate t (.map (some r)) (.int .i64 k) v).run P w= .ok () w'∧I6 w' r (Z7 f k (some v))∧IV w w' r:=by
 obtain⟨es,c,h,hK,hN,hf⟩:=h
 obtain⟨x,hx,hl,hs,hno⟩:=I4 es k 0 hK
 have hfe:Z4 es=f:=funext hf
 rcases x with _|⟨i,v0⟩
 ·refine⟨_,Qa8 ht hk J8 h _ v hx,⟨_,_,h.set _ _, ?_, ?_, ?_⟩,UV _ _ _⟩
  ·intro e he
   rcases List.mem_append.1 he with he|he
   ·exact hK e he
   ·simp at he;subst he;exact⟨k,rfl⟩
  ·rw[List.map_append,List.nodup_append]
   refine⟨hN,by simp, ?_⟩;intro a ha b hb;simp[Jf0]at hb;subst hb;obtain⟨e,he,rfl⟩:=List.mem_map.1 ha;obtain⟨n,hn⟩:=hK e he;rw[Qn6 hn];rintro rfl;exact hno rfl e he hn
  ·rw[←hfe]
   exact Qk6 es (MapEntry.mk (.int .i64 k) v c) k rfl (hno rfl) hK
 ·obtain⟨_,h2,h3,h4,h5⟩:=hs i v0 rfl
  simp only[Nat.sub_zero]at h2 h3 h4;have hr:w.heap[r]?=some (.map es.toArray c):=h;refine⟨setBlock w r (.map (es.modify i fun e=> {e with key:= .int .i64 k,val:=v}).toArray c), ?_,⟨_,_,h.set _ _,Ql6 hK, ?_, ?_⟩,UV _ _ _⟩
  ·have hst: ∀w0:World,(Instr.keyThatStays (.int .i64 k) (.int .i64 k)).run P w0= .ok (.int .i64 k) w0:=by
    intro w0;simp[Instr.keyThatStays,Instr.sameBits]
   have hidx:es[i]?=some es[i]:=by simp[h2]
   have e3:Instr.findNow (.int .i64) (.int .i64 k) es 0=some (some (i,v0)):=hx;simp[Instr.mapUpdate,run_underlying ht,getObj,Sem.run,hr,U8 hk J8,I3 hk (.int .i64 k) (some (i,v0)) e3,setObj,setBlock,hidx,h3,hst]
  ·rw[Qj7 h2 h3];exact hN
  ·rw[←hfe]
   exact Qk5 es i k v hK hN h2 h3
theorem Qw2: ∀(es:List MapEntry) (i:Nat) (k:Int),Qh1 es→(es.map Jf0).Nodup→(hi:i<es.length)→es[i].key= .int .i64 k→
  ∀j,Z4 (es.eraseIdx i) j=Z7 (Z4 es) k none j
 | [],i,k,_,_,hi,_=>by simp at hi
 |e::es,0,k,hK,hN,_,hkey=>by
  intro j;simp only[List.getElem_cons_zero]at hkey;simp only[List.map_cons,List.nodup_cons,Qn6 hkey]at hN
  by_cases hj:j=k
  ·subst hj
   have:es.find? (fun e=>match e.key with| .int .i64 n=>n ==j|_=>false)=none:=by
    rw[List.find?_eq_none];intro e' he';obtain⟨n,hn⟩:=hK e' (by simp[he']);rw[hn];simp only[beq_iff_eq];rintro rfl;exact hN.1 (List.mem_map.2 ⟨e',he',Qn6 hn⟩)
   simp[Z4,Z7,this]
  ·have hb:(k ==j)=false:=by simpa using fun e=>hj e.symm
   simp[Z4,Z7,hj,hkey,hb]
 |e::es,i+1,k,hK,hN,hi,hkey=>by
  intro j;simp only[List.getElem_cons_succ]at hkey;simp only[List.map_cons,List.nodup_cons]at hN;have ih:=Qw2 es i k (fun e' he'=>hK e' (by simp[he'])) hN.2 (by simpa using hi) hkey j;obtain⟨n,hn⟩:=hK e (by simp);have hne:n≠k:=by
   rintro rfl;apply hN.1;rw[Qn6 hn];exact List.mem_map.2 ⟨es[i]'(by simpa using hi),List.getElem_mem _,Qn6 hkey⟩
  simp only[List.eraseIdx_cons_succ]
  by_cases hj:n=j
  ·subst hj
   simp[Z4,Z7,hn,hne]
  ·have hb:(n ==j)=false:=by simpa using hj
   simp only[Z4,List.find?_cons,hn,hb,Z7]at ih⊢;exact ih
include ht hk in
theorem I6.delete (h:I6 w r f) (k:Int) (a1 ty:TypeId):
  ∃w',(Builtin.delete_ #[t,a1] ty #[.map (some r),.int .i64 k]).run P w= .ok (.tuple #[]) w'∧I6 w' r (Z7 f k none)∧IV w w' r:=by
 obtain⟨es,c,h,hK,hN,hf⟩:=h
 obtain⟨x,hx,hl,hs,hno⟩:=I4 es k 0 hK
 have hfe:Z4 es=f:=funext hf
 have hr:w.heap[r]?=some (.map es.toArray c):=h
 rcases x with _|⟨i,v0⟩
 ·refine⟨setBlock w r (.map es.toArray c), ?_,⟨_,_,h.set _ _,hK,hN, ?_⟩,UV _ _ _⟩
  ·have e3:Instr.findNow (.int .i64) (.int .i64 k) es 0=some none:=hx
   simp[Builtin.delete_,run_underlying ht,getObj,Sem.run,hr,U8 hk J8,I3 hk (.int .i64 k) none e3,setObj,setBlock]
  ·intro j
   rw[hf,Z7]
   split
   ·rename_i e;subst e;rw[←hf,←hl];rfl
   ·rfl
 ·obtain⟨_,h2,h3,h4,h5⟩:=hs i v0 rfl
  simp only[Nat.sub_zero]at h2 h3 h4;refine⟨setBlock w r (.map (es.eraseIdx i).toArray c), ?_,⟨_,_,h.set _ _,fun e he=>hK e (List.mem_of_mem_eraseIdx he), ?_, ?_⟩,UV _ _ _⟩
  ·have e3:Instr.findNow (.int .i64) (.int .i64 k) es 0=some (some (i,v0)):=hx
   simp[Builtin.delete_,run_underlying ht,getObj,Sem.run,hr,U8 hk J8,I3 hk (.int .i64 k) (some (i,v0)) e3,setObj,setBlock]
  ·exact List.Nodup.sublist ((List.eraseIdx_sublist es i).map Jf0) hN
  ·rw[←hfe]
   exact Qw2 es i k hK hN h2 h3
end
end Go.Proofs.YtnlngicnfegjgaaGreatDoor
namespace Go.Proofs.YtnlngicnfegjgaaGreatDoor
open Go.RowKit
def Qc3 (w:World) (r:Nat):Prop:=
 Q4 w r [MapEntry.mk (.int .i64 1) (.slice (some ⟨r+1,0,none⟩) 1 1) 0,MapEntry.mk (.int .i64 2) (.slice (some ⟨r+2,0,none⟩) 1 1) 1,MapEntry.mk (.int .i64 3) (.slice (some ⟨r+3,0,none⟩) 2 2) 2,MapEntry.mk (.int .i64 5) (.slice (some ⟨r+4,0,none⟩) 1 1) 3] 4∧
 w.cell? ⟨r+1,0,none⟩=some (.int .i64 2)∧w.cell? ⟨r+2,0,none⟩=some (.int .i64 3)∧w.cell? ⟨r+3,0,none⟩=some (.int .i64 5)∧w.cell? ⟨r+3,1,none⟩=some (.int .i64 7)∧w.cell? ⟨r+4,0,none⟩=some (.int .i64 7)∧
 w.heap.size=r+5
theorem Jl6 (w:World):Calls Tryz.prog 137 #[] w fun e w'=>e= .returned (.map (some w.heap.size))∧Qc3 w' w.heap.size∧Below w.heap.size w w':=by
 have hmm:= @run_makeMap Tryz.prog
 go_enter Tryz.func137,Tryz.ntmps137
 go_wp2_with (first
  |((with_reducible (refine Qa9 (o:=⟨none,.insert 234 (.tmp 1) (.const (.int .i64 1)) (.tmp 2),_,_,_,_⟩) _ rfl (.tmp 1) (.const (.int .i64 1)) (.tmp 2) 234 rfl Tryz.underlying234 Tryz.underlying3 J8 w.heap.size 0 [] (.int .i64 1) (.slice (some ⟨w.heap.size+1,0,none⟩) 1 1) (by with_unfolding_all rfl) (by with_unfolding_all rfl) (by with_unfolding_all rfl) ((Q4.made w).alloc _) (by with_unfolding_all rfl) ?_));intro w1 h1 t1;have s1:w1.heap.size=w.heap.size+2:=by rw[t1.size];simp)
  |((with_reducible (refine Qa9 (o:=⟨none,.insert 234 (.tmp 1) (.const (.int .i64 2)) (.tmp 3),_,_,_,_⟩) _ rfl (.tmp 1) (.const (.int .i64 2)) (.tmp 3) 234 rfl Tryz.underlying234 Tryz.underlying3 J8 w.heap.size 1 _ (.int .i64 2) (.slice (some ⟨w.heap.size+2,0,none⟩) 1 1) (by with_unfolding_all rfl) (by with_unfolding_all rfl) (by with_unfolding_all rfl) (h1.alloc _) (by with_unfolding_all rfl) ?_));intro w2 h2 t2;have s2:w2.heap.size=w.heap.size+3:=by rw[t2.size];simp[s1])
  |((with_reducible (refine Qa9 (o:=⟨none,.insert 234 (.tmp 1) (.const (.int .i64 3)) (.tmp 4),_,_,_,_⟩) _ rfl (.tmp 1) (.const (.int .i64 3)) (.tmp 4) 234 rfl Tryz.underlying234 Tryz.underlying3 J8 w.heap.size 2 _ (.int .i64 3) (.slice (some ⟨w.heap.size+3,0,none⟩) 2 2) (by with_unfolding_all rfl) (by with_unfolding_all rfl) (by with_unfolding_all rfl) (h2.alloc _) (by with_unfolding_all rfl) ?_));intro w3 h3 t3;have s3:w3.heap.size=w.heap.size+4:=by rw[t3.size];simp[s2])
  |((with_reducible (refine Qa9 (o:=⟨none,.insert 234 (.tmp 1) (.const (.int .i64 5)) (.tmp 5),_,_,_,_⟩) _ rfl (.tmp 1) (.const (.int .i64 5)) (.tmp 5) 234 rfl Tryz.underlying234 Tryz.underlying3 J8 w.heap.size 3 _ (.int .i64 5) (.slice (some ⟨w.heap.size+4,0,none⟩) 1 1) (by with_unfolding_all rfl) (by with_unfolding_all rfl) (by with_unfolding_all rfl) (h3.alloc _) (by with_unfolding_all rfl) ?_));intro w4 h4 t4;have s4:w4.heap.size=w.heap.size+5:=by rw[t4.size];simp[s3]))
 go_ret
 have c10_1:w1.cell? ⟨w.heap.size+1,0,none⟩=some (.int .i64 2):=(t1.cell (by simp)).trans (by simp)
 have c10_2:w2.cell? ⟨w.heap.size+1,0,none⟩=some (.int .i64 2):=(t2.cell (by simp)).trans ((World.cell?_alloc_lt _ _ _ (by simp[s1])).trans c10_1)
 have c10_3:w3.cell? ⟨w.heap.size+1,0,none⟩=some (.int .i64 2):=(t3.cell (by simp)).trans ((World.cell?_alloc_lt _ _ _ (by simp[s2])).trans c10_2)
 have c10_4:w4.cell? ⟨w.heap.size+1,0,none⟩=some (.int .i64 2):=(t4.cell (by simp)).trans ((World.cell?_alloc_lt _ _ _ (by simp[s3])).trans c10_3)
 have c20_2:w2.cell? ⟨w.heap.size+2,0,none⟩=some (.int .i64 3):=(t2.cell (by simp)).trans (by rw[←s1];simp)
 have c20_3:w3.cell? ⟨w.heap.size+2,0,none⟩=some (.int .i64 3):=(t3.cell (by simp)).trans ((World.cell?_alloc_lt _ _ _ (by simp[s2])).trans c20_2)
 have c20_4:w4.cell? ⟨w.heap.size+2,0,none⟩=some (.int .i64 3):=(t4.cell (by simp)).trans ((World.cell?_alloc_lt _ _ _ (by simp[s3])).trans c20_3)
 have c30_3:w3.cell? ⟨w.heap.size+3,0,none⟩=some (.int .i64 5):=(t3.cell (by simp)).trans (by rw[←s2];simp)
 have c30_4:w4.cell? ⟨w.heap.size+3,0,none⟩=some (.int .i64 5):=(t4.cell (by simp)).trans ((World.cell?_alloc_lt _ _ _ (by simp[s3])).trans c30_3)
 have c31_3:w3.cell? ⟨w.heap.size+3,1,none⟩=some (.int .i64 7):=(t3.cell (by simp)).trans (by rw[←s2];simp)
 have c31_4:w4.cell? ⟨w.heap.size+3,1,none⟩=some (.int .i64 7):=(t4.cell (by simp)).trans ((World.cell?_alloc_lt _ _ _ (by simp[s3])).trans c31_3)
 have c40_4:w4.cell? ⟨w.heap.size+4,0,none⟩=some (.int .i64 7):=(t4.cell (by simp)).trans (by rw[←s3];simp)
 refine⟨rfl,⟨h4,c10_4,c20_4,c30_4,c31_4,c40_4,s4⟩, ?_⟩
 exact(((((((Below.refl _ w).alloc (Nat.le_refl _) _).alloc (by simp) _).trans (t1.below (Nat.le_refl _))).alloc (by omega) _).trans (t2.below (Nat.le_refl _))).alloc (by omega) _).trans (t3.below (Nat.le_refl _)) |>.alloc (by omega) _ |>.trans (t4.below (Nat.le_refl _))
def Ql7 (r:Nat) (p:Int):Value:=
 if p=1 then .slice (some ⟨r+1,0,none⟩) 1 1 else if p=2 then .slice (some ⟨r+2,0,none⟩) 1 1
 else if p=3 then .slice (some ⟨r+3,0,none⟩) 2 2 else if p=5 then .slice (some ⟨r+4,0,none⟩) 1 1 else .slice none 0 0
theorem Kf5 (w:World):(zeroValue 22).run Tryz.prog w= .ok (.slice none 0 0) w:=by kernel_rfl
theorem Qc3.look {w:World} {r:Nat} (h:Qc3 w r) (p:Int):
  (Instr.lookup 234 (.map (some r)) (.int .i64 p) false).run Tryz.prog w= .ok (Ql7 r p) w:=by
 have key: ∃x,Jq2 (.int .i64) (.int .i64 p) [MapEntry.mk (.int .i64 1) (.slice (some ⟨r+1,0,none⟩) 1 1) 0,MapEntry.mk (.int .i64 2) (.slice (some ⟨r+2,0,none⟩) 1 1) 1,MapEntry.mk (.int .i64 3) (.slice (some ⟨r+3,0,none⟩) 2 2) 2,MapEntry.mk (.int .i64 5) (.slice (some ⟨r+4,0,none⟩) 1 1) 3]=some x∧(x.map (·.2)).getD (.slice none 0 0)=Ql7 r p:=by
  unfold Jq2 Ql7;simp only[Instr.findNow,Instr.sameNow,if_true]
  by_cases h1:p=1
  ·subst h1;exact⟨_,rfl,rfl⟩
  by_cases h2:p=2
  ·subst h2;exact⟨_,rfl,rfl⟩
  by_cases h3:p=3
  ·subst h3;exact⟨_,rfl,rfl⟩
  by_cases h5:p=5
  ·subst h5;exact⟨_,rfl,rfl⟩
  rw[UQ h1,UQ h2,UQ h3,UQ h5,if_neg h1,if_neg h2,if_neg h3,if_neg h5];exact⟨none,rfl,rfl⟩
 obtain⟨x,hx,he⟩:=key
 rw[Qp0 Tryz.underlying234 Tryz.underlying3 J8 h.1 _ (Kf5 w) false x hx,←he]
 rfl
attribute [local go_sem↓] Go.wp_at_zero Go.wp_at_succ
def OZ (p:Int):List Int:=if p=1 then [2]else if p=2 then [3]else if p=3 then [5,7]else if p=5 then [7]else []
def Ql8 (L:List Int) (p:Int):Bool:=L.any fun x=>x ==p
theorem Kf6 (L:List Int) (p:Int) (j:Nat) (h:j<L.length):Ql8 (L.take (j+1)) p=(Ql8 (L.take j) p || (L[j] ==p)):=by
 unfold Ql8
 rw[List.take_succ_eq_append_getElem h,List.any_append]
 simp
theorem Qc3.list {w:World} {r:Nat} (h:Qc3 w r) (p:Int):
  (OZ p= []∧Ql7 r p= .slice none 0 0)∨
  ∃g L,OZ p=L∧L.length≤2∧Ql7 r p= .slice (some ⟨g,0,none⟩) L.length L.length∧ ∀j (hj:j<L.length),w.cell? ⟨g,j,none⟩=some (.int .i64 L[j]):=by
 obtain⟨_,c1,c2,c3,c4,c5,_⟩:=h
 unfold OZ Ql7
 by_cases h1:p=1
 ·right;subst h1;exact⟨r+1,[2],rfl,by simp,rfl,fun j hj=>by simp at hj;subst hj;exact c1⟩
 by_cases h2:p=2
 ·right;subst h2;exact⟨r+2,[3],rfl,by simp,rfl,fun j hj=>by simp at hj;subst hj;exact c2⟩
 by_cases h3:p=3
 ·right;subst h3
  refine⟨r+3,[5,7],rfl,by simp,rfl,fun j hj=> ?_⟩
  match j,hj with
  |0,_=>exact c3
  |1,_=>exact c4
 by_cases h5:p=5
 ·right;subst h5;exact⟨r+4,[7],rfl,by simp,rfl,fun j hj=>by simp at hj;subst hj;exact c5⟩
 left
 simp[h1,h2,h3,h5]
theorem Qc3.look_nil {w:World} {r:Nat} {p:Int} (h:Qc3 w r) (hL:Hid (OZ p= [])):
  (Instr.lookup 234 (.map (some r)) (.int .i64 p) false).run Tryz.prog w= .ok (.slice none 0 0) w:=by
 rw[h.look]
 rcases h.list p with h1|⟨g,L,h1,h2,h3,h4⟩
 ·rw[h1.2]
 ·rw[hL.out]at h1
  subst h1;unfold Ql7;have:=hL.out;unfold OZ at this
  by_cases h1:p=1
  ·simp[h1]at this
  by_cases h2:p=2
  ·simp[h2]at this
  by_cases h3:p=3
  ·simp[h3]at this
  by_cases h5:p=5
  ·simp[h5]at this
  simp[h1,h2,h3,h5]
theorem Qc3.look_some {w:World} {r:Nat} {p:Int} {L:List Int} (h:Qc3 w r) (hL:Hid (OZ p=L)) (hne:L≠ []):
  ∃g,(Instr.lookup 234 (.map (some r)) (.int .i64 p) false).run Tryz.prog w= .ok (.slice (some ⟨g,0,none⟩) L.length L.length) w∧ ∀j (hj:j<L.length),w.cell? ⟨g,j,none⟩=some (.int .i64 L[j]):=by
 rw[h.look]
 rcases h.list p with h1|⟨g,L',h1,h2,h3,h4⟩
 ·exact absurd (hL.out.symm.trans h1.1) hne
 ·obtain rfl:L'=L:=h1.symm.trans hL.out
  exact⟨g,by rw[h3],h4⟩
theorem Xf1 (p:Int):(OZ p).length≤2:=by
 unfold OZ
 repeat(split<;>try simp)
def Qh2 (a0 p0 a p:Int):Int:=if Ql8 (OZ p0) p=false then 1 else if a≤a0 then 10 else if 1000000<a then 2 else 0
theorem Xk0 {a0 p0 a p:Int} (h:Ql8 (OZ p0) p=false):Qh2 a0 p0 a p=1:=by simp[Qh2,h]
theorem Kf7 {a0 p0 a p:Int} (h:Ql8 (OZ p0) p=true) (h1:a≤a0):Qh2 a0 p0 a p=10:=by simp[Qh2,h,h1]
theorem Km7 {a0 p0 a p:Int} (h:Ql8 (OZ p0) p=true) (h1:a0<a) (h2:1000000<a):Qh2 a0 p0 a p=2:=by simp[Qh2,h,h2];omega
theorem Xk1 {a0 p0 a p:Int} (h:Ql8 (OZ p0) p=true) (h1:a0<a) (h2:a≤1000000):Qh2 a0 p0 a p=0:=by simp[Qh2,h];omega
theorem Xu4 (b off len cap k:Nat) (a0 a p0 p:Int) (w:World) (hk:k+1<len) (hlen:len≤20) (hb:b<w.heap.size)
  (c0:w.cell? ⟨b,off+k*2,none⟩=some (.int .i64 a0)) (c1:w.cell? ⟨b,off+k*2+1,none⟩=some (.int .i64 p0))
  (c2:w.cell? ⟨b,off+ (k+1)*2,none⟩=some (.int .i64 a)) (c3:w.cell? ⟨b,off+ (k+1)*2+1,none⟩=some (.int .i64 p)):
  Calls Tryz.prog 103 #[.slice (some ⟨b,off,none⟩) len cap,.int .i64 ((k:Int)+1)] w fun e w'=>e= .returned (.int .i64 (Qh2 a0 p0 a p))∧Below w.heap.size w w':=by
 have z1:((k:Int)+1 ==0)=false:=by simp;omega
 have i1:IntKind.i64.wrap ((k:Int)+1-1)=(k:Int):=by rw[IntKind.wrap_i64];omega
 have i4:IntKind.i64.wrap (k:Int)=(k:Int):=by rw[IntKind.wrap_i64];omega
 have i2:(0:Int)≤(k:Int):=by omega
 have i3:(k:Int)< (len:Int):=by omega
 have i5:(k:Int)+1< (len:Int):=by omega
 rcases(show OZ p0= []∨OZ p0≠ []from by by_cases h:OZ p0= []<;>simp[h])with hL|hL
 ·have Hw:=QQ (Xk0 (a0:=a0) (a:=a) (p:=p) (p0:=p0) (by rw[hL];rfl))
  have HL:=QQ hL;clear hL;go_enter Tryz.func103,Tryz.ntmps103
  go_wp2
  go_region_held3 (fun w'=>w'.cell? ⟨b,off+k*2+1,none⟩=some (.int .i64 p0)) (first|go_keep|(refine(hB.cell ?_).trans c1;simpa using hb))
   (first|(go_at_call 137;refine(Jl6 _).mono ?_;rintro e w1 ⟨rfl,hF,hB⟩;have hlk:(Instr.lookup 234 (.map (some w.heap.size)) (.int .i64 p0) false).run Tryz.prog w1= .ok (.slice none 0 0) w1:=hF.look_nil HL))
  go_wp2;refine wp_loop_rounds 1 ?_;rw[rounds_succ];go_wp2;go_ret;exact⟨by rw[Hw.out];rfl,(Below.refl _ w).drew.trans hB⟩
 ·obtain⟨L,hLL⟩: ∃L,OZ p0=L:=⟨_,rfl⟩
  have hne:L≠ []:=hLL▸hL;have hlen2:L.length≤2:=hLL▸Xf1 p0;have HL:=QQ hLL;clear hLL hL;go_enter Tryz.func103,Tryz.ntmps103
  go_wp2
  go_region_held3 (fun w'=>w'.cell? ⟨b,off+k*2+1,none⟩=some (.int .i64 p0)) (first|go_keep|(refine(hB.cell ?_).trans c1;simpa using hb))
   (first|(go_at_call 137;refine(Jl6 _).mono ?_;rintro e w1 ⟨rfl,hF,hB⟩;obtain⟨g,hlk,hg⟩:=hF.look_some HL hne;have hlk':(Instr.lookup 234 (.map (some w.heap.size)) (.int .i64 p0) false).run Tryz.prog w1= .ok (.slice (some ⟨g,0,none⟩) L.length L.length) w1:=hlk;clear hlk))
  go_wp2;have hBw:Below w.heap.size w w1:=(Below.refl _ w).drew.trans hB;have d2:w1.cell? ⟨b,off+ (k+1)*2,none⟩=some (.int .i64 a):=(hBw.cell hb).trans c2;have d3:w1.cell? ⟨b,off+ (k+1)*2+1,none⟩=some (.int .i64 p):=(hBw.cell hb).trans c3;have d0:w1.cell? ⟨b,off+k*2,none⟩=some (.int .i64 a0):=(hBw.cell hb).trans c0;clear hlk' hF hB c0 c1 c2 c3
  go_loop [5,24] (fun o i=> ∃j:Nat,j≤L.length∧i= .int .i64 j∧o= .bool (Ql8 (L.take j) p)) (fun _ i=>L.length- (RowKit.intOf i).toNat)
  case atStart=>exact⟨0,Nat.zero_le _,rfl,rfl⟩
  case round=>
   obtain⟨j,hj,rfl,rfl⟩:=hrel
   by_cases hlt:j<L.length
   ·have hgj:=hg j hlt
    have hstep:=Kf6 L p j hlt
    by_cases hany:Ql8 (L.take j) p=true
    ·have hn:=QQ (show Ql8 (L.take (j+1)) p=true by rw[hstep,hany];rfl)
     rw[hany];clear hstep hany hg;go_wp2
     go_round
     case rel=>exact⟨j+1,by omega,by go_num,by rw[hn.out]⟩
     case measure=>simp[RowKit.intOf];omega
    ·have hany':Ql8 (L.take j) p=false:=by simpa using hany
     have hn:=QQ (show Ql8 (L.take (j+1)) p=(L[j] ==p) by rw[hstep,hany'];rfl);rw[hany'];clear hstep hany hany' hg
     by_cases he:L[j]=p
     ·have he':(L[j] ==p)=true:=J4 he
      have hn':=QQ (show Ql8 (L.take (j+1)) p=true by rw[hn.out,he']);clear hn he;go_wp2
      go_round
      case rel=>exact⟨j+1,by omega,by go_num,by rw[hn'.out]⟩
      case measure=>simp[RowKit.intOf];omega
     ·have he':(L[j] ==p)=false:=UQ he
      have hn':=QQ (show Ql8 (L.take (j+1)) p=false by rw[hn.out,he']);clear hn he;go_wp2
      go_round
      case rel=>exact⟨j+1,by omega,by go_num,by rw[hn'.out]⟩
      case measure=>simp[RowKit.intOf];omega
   ·have hall:Ql8 (L.take j) p=Ql8 (OZ p0) p:=by rw[HL.out,List.take_of_length_le (by omega)]
    rw[hall];clear hall hg
    by_cases hany:Ql8 (OZ p0) p=true
    ·rw[hany]
     by_cases h1:a≤a0
     ·have Hw:=QQ (Kf7 hany h1)
      clear hany;go_wp2;go_quiet (fail)
      go_wp2;go_ret;exact⟨by rw[Hw.out];rfl,JQ hBw _⟩
     ·by_cases h2:1000000<a
      ·have Hw:=QQ (Km7 (a0:=a0) hany (by omega) h2)
       have f1:decide (a≤a0)=false:=IQ h1;clear hany;go_wp2;go_quiet (fail)
       go_wp2;go_ret;exact⟨by rw[Hw.out];rfl,JQ hBw _⟩
      ·have Hw:=QQ (Xk1 (a0:=a0) (a:=a) hany (by omega) (by omega))
       have f1:decide (a≤a0)=false:=IQ h1;have f2:decide (1000000<a)=false:=IQ h2;clear hany;go_wp2;go_quiet (fail)
       go_wp2;go_ret;exact⟨by rw[Hw.out];rfl,JQ hBw _⟩
    ·have hany':Ql8 (OZ p0) p=false:=by simpa using hany
     have Hw:=QQ (Xk0 (a0:=a0) (a:=a) hany');rw[hany'];clear hany hany';go_wp2;go_ret;exact⟨by rw[Hw.out];rfl,hBw⟩
end Go.Proofs.YtnlngicnfegjgaaGreatDoor
