/- Contracts and walks that the law's proof needs. -/
import Derived.Test.YtnlngicnfegjgaaGreatZf5
import Derived.WalkKit
import Derived.Test.YtnlngicnfegjgaaGreatZf7
import Derived.Test.YtnlngicnfegjgaaGreatZf12
set_option linter.unusedVariables false
set_option maxRecDepth 100000
set_option maxHeartbeats 8000000
namespace Go.Proofs.YtnlngicnfegjgaaGreat
open Go.RowKit
def Xu5 (x:Int):Int:=if x<0 then -x else x
def Jf4 (p:XJ):Int:=Xu5 (p.2.1-p.2.2)
def U2 (l:List XJ):Int:=l.foldl (fun m p=>max m (ZQ p)) 0
def Qo8 (most:Int) (l:List XJ):Int×Bool:=l.foldl (fun s p=>if ZQ p=most∧(s.2=false∨Jf4 p<s.1)then(Jf4 p,true)else s) (0,false)
def Jl9 (most least:Int) (l:List XJ):List XJ:=l.filter fun p=>(ZQ p ==most) && (Jf4 p ==least)
def Jm0 (l:List XJ):Bool:=l.all fun p=>decide (p.2.2<p.2.1)
def Qs2 (l:List XJ):Bool:=l.all fun p=>decide (p.2.1<p.2.2)
def Qk5 (buys sells:Bool) (r:Int) (p x:XJ):Bool:=
 if buys then decide (x.1<p.1)else if sells then decide (p.1<x.1)else decide (Xu5 (p.1-r)<Xu5 (x.1-r)) || (Xu5 (p.1-r) ==Xu5 (x.1-r) &&decide (p.1<x.1))
def Jm1 (buys sells:Bool) (r:Int) (x:XJ) (l:List XJ):XJ:=l.foldl (fun x p=>if Qk5 buys sells r p x=true then p else x) x
def Ky5 (r:Int):List XJ→XJ
 | []=>(0,0,0)
 |x::b=>Jo8 [Jm1 (Jm0 (x::b)) (Qs2 (x::b)) r x (x::b)]
def Jr8 (l:List XJ) (r:Int):XJ:=if U2 l<1 then(0,0,0)else Ky5 r (Jl9 (U2 l) (Qo8 (U2 l) l).1 l)
theorem Xz9 (x:Int):Xu5 x=max x (-x):=by unfold Xu5;split<;>omega
theorem Xf6 (p:XJ):Jf4 p=Qe6 p:=by unfold Jf4 Qe6;rw[Xz9];omega
theorem Xu6 (l:List XJ): ∀m:Int,(l.foldl (fun m p=>max m (ZQ p)) m=m∨ ∃p∈l,ZQ p=l.foldl (fun m p=>max m (ZQ p)) m)∧m≤l.foldl (fun m p=>max m (ZQ p)) m∧ ∀p∈l,ZQ p≤l.foldl (fun m p=>max m (ZQ p)) m:=by
 induction l with
 |nil=>intro m;exact⟨.inl rfl,Int.le_refl _,fun p hp=>by cases hp⟩
 |cons a l ih=>
  intro m;obtain⟨h1,h2,h3⟩:=ih (max m (ZQ a));rw[List.foldl_cons];have e1:=Int.le_max_left m (ZQ a);have e2:=Int.le_max_right m (ZQ a);refine⟨?_,by omega,fun p hp=> ?_⟩
  ·rcases h1 with h1|⟨p,hp,e⟩
   ·rcases Int.le_total m (ZQ a)with h|h
    ·right;exact⟨a,by simp,by rw[h1];omega⟩
    ·left;rw[h1];omega
   ·exact .inr ⟨p,by simp[hp],e⟩
  ·rcases List.mem_cons.1 hp with rfl|hp
   ·omega
   ·exact h3 p hp
theorem Qs3 (l:List XJ):(U2 l=0∨ ∃p∈l,ZQ p=U2 l)∧0≤U2 l∧ ∀p∈l,ZQ p≤U2 l:=Xu6 l 0
theorem Xm3 (m:Int) (l:List XJ): ∀s:Int×Bool,
  let t:=l.foldl (fun s p=>if ZQ p=m∧(s.2=false∨Jf4 p<s.1)then(Jf4 p,true)else s) s
  (t=s∨(t.2=true∧ ∃p∈l,ZQ p=m∧Jf4 p=t.1))∧(s.2=true→t.2=true∧t.1≤s.1)∧ ∀p∈l,ZQ p=m→t.2=true∧t.1≤Jf4 p:=by
 induction l with
 |nil=>intro s;exact⟨.inl rfl,fun h=>⟨h,Int.le_refl _⟩,fun p hp=>by cases hp⟩
 |cons a l ih=>
  intro s;rw[List.foldl_cons]
  by_cases hc:ZQ a=m∧(s.2=false∨Jf4 a<s.1)
  ·rw[if_pos hc]
   obtain⟨h1,h2,h3⟩:=ih (Jf4 a,true);obtain⟨g1,g2⟩:=h2 rfl;refine⟨?_,fun hs=>⟨g1, ?_⟩,fun p hp ht=> ?_⟩
   ·rcases h1 with h1|⟨e,p,hp,e2⟩
    ·exact .inr ⟨g1,a,by simp,hc.1,by rw[h1]⟩
    ·exact .inr ⟨e,p,by simp[hp],e2⟩
   ·rcases hc.2 with h|h
    ·rw[hs]at h;cases h
    ·exact Int.le_trans g2 (Int.le_of_lt h)
   ·rcases List.mem_cons.1 hp with rfl|hp
    ·exact⟨g1,g2⟩
    ·exact h3 p hp ht
  ·rw[if_neg hc]
   obtain⟨h1,h2,h3⟩:=ih s;refine⟨?_,h2,fun p hp ht=> ?_⟩
   ·rcases h1 with h1|⟨e,p,hp,e2⟩
    ·exact .inl h1
    ·exact .inr ⟨e,p,by simp[hp],e2⟩
   ·rcases List.mem_cons.1 hp with rfl|hp
    ·have hs:s.2=true:=by
      cases h:s.2 with
      |true=>rfl
      |false=>exact absurd ⟨ht,.inl h⟩ hc
     obtain⟨g1,g2⟩:=h2 hs;refine⟨g1, ?_⟩;rcases Int.lt_or_le (Jf4 p) s.1 with h|h
     ·exact absurd ⟨ht,.inr h⟩ hc
     ·exact Int.le_trans g2 h
    ·exact h3 p hp ht
theorem Jm2 (m:Int) (l:List XJ) (h: ∃p∈l,ZQ p=m):(∃p∈l,ZQ p=m∧Jf4 p=(Qo8 m l).1)∧ ∀p∈l,ZQ p=m→(Qo8 m l).1≤Jf4 p:=by
 obtain⟨h1,_,h3⟩:=Xm3 m l (0,false)
 obtain⟨p,hp,e⟩:=h
 refine⟨?_,fun q hq ht=>(h3 q hq ht).2⟩
 rcases h1 with h1|⟨_,h1⟩
 ·have h4:=(h3 p hp e).1
  rw[h1]at h4
  cases h4
 ·exact h1
theorem Xm4 (l:List XJ) (h:1≤U2 l):Jl9 (U2 l) (Qo8 (U2 l) l).1 l≠ []:=by
 obtain⟨h1,_,_⟩:=Qs3 l
 rcases h1 with h1|h1
 ·omega
 ·obtain⟨⟨p,hp,e1,e2⟩,_⟩:=Jm2 (U2 l) l h1
  intro h0;have:p∈Jl9 (U2 l) (Qo8 (U2 l) l).1 l:=List.mem_filter.2 ⟨hp,by simp[e1,e2]⟩;rw[h0]at this
  cases this
theorem Qw7 {F:XJ→Int} {ps:List XJ} {m:Int} (h1: ∃p∈ps,F p=m) (h2: ∀p∈ps,F p≤m):Q4 F ps=ps.filter fun p=>F p ==m:=by
 have hne:ps≠ []:=by
  obtain⟨p,hp,_⟩:=h1;intro h;rw[h]at hp;cases hp
 obtain⟨⟨q,hq,e⟩,hall⟩:=Jy2 F ps hne
 obtain⟨p,hp,e2⟩:=h1
 have:Xe5 F ps=m:=by
  have:=hall p hp;have:=h2 q hq;omega
 unfold Q4
 rw[this]
theorem Kf0 (ps:List XJ) (h:1≤U2 ps):Q4 ZQ ps=ps.filter (fun p=>ZQ p ==U2 ps)∧Q4 (fun p=> -Qe6 p) (Q4 ZQ ps)=Jl9 (U2 ps) (Qo8 (U2 ps) ps).1 ps:=by
 obtain⟨h1,h0,h2⟩:=Qs3 ps
 have h3: ∃p∈ps,ZQ p=U2 ps:=h1.resolve_left (by omega)
 have e1:=Qw7 h3 h2
 obtain⟨⟨p,hp,e2,e3⟩,h4⟩:=Jm2 (U2 ps) ps h3
 refine⟨e1, ?_⟩
 rw[e1,Qw7 (m:= -(Qo8 (U2 ps) ps).1)]
 ·unfold Jl9
  rw[List.filter_filter]
  congr 1
  funext q
  rw[←Xf6];rw[Bool.eq_iff_iff];simp;omega
 ·exact⟨p,List.mem_filter.2 ⟨hp,by simp[e2]⟩,by rw[←Xf6,e3]⟩
 ·intro q hq
  obtain⟨hq1,hq2⟩:=List.mem_filter.1 hq;have:=h4 q hq1 (by simpa using hq2);rw[←Xf6];omega
theorem Km0 (K1 K2:XJ→Int) (better:XJ→XJ→Bool) (hb: ∀p x,better p x=true↔(K1 x<K1 p∨(K1 x=K1 p∧K2 x<K2 p))) (l:List XJ): ∀(pre:List XJ) (x:XJ) (post:List XJ),
  (∀q∈pre,better x q=true)→(∀q∈post,better q x=false)→
  ∃pre' y post',pre++x::post++l=pre'++y::post'∧l.foldl (fun x p=>if better p x=true then p else x) x=y∧(∀q∈pre',better y q=true)∧(∀q∈post',better q y=false):=by
 induction l with
 |nil=>intro pre x post h1 h2;exact⟨pre,x,post,by simp,rfl,h1,h2⟩
 |cons a l ih=>
  intro pre x post h1 h2;rw[List.foldl_cons]
  by_cases hc:better a x=true
  ·rw[if_pos hc]
   obtain⟨pre',y,post',e,e2,g1,g2⟩:=ih (pre++x::post) a [] (fun q hq=>by
    have ha:=(hb a x).1 hc;rcases List.mem_append.1 hq with hq|hq
    ·have:=(hb x q).1 (h1 q hq)
     exact(hb a q).2 (by omega)
    ·rcases List.mem_cons.1 hq with rfl|hq
     ·exact hc
     ·have h3:=h2 q hq
      have h4: ¬(K1 x<K1 q∨(K1 x=K1 q∧K2 x<K2 q)):=fun h=>by rw[(hb q x).2 h]at h3;cases h3
      exact(hb a q).2 (by omega)) (fun q hq=>by cases hq)
   exact⟨pre',y,post',by rw[←e];simp,e2,g1,g2⟩
  ·rw[if_neg hc]
   obtain⟨pre',y,post',e,e2,g1,g2⟩:=ih pre x (post++ [a]) h1 (fun q hq=>by
    rcases List.mem_append.1 hq with hq|hq
    ·exact h2 q hq
    ·simp at hq;subst hq;simpa using hc)
   exact⟨pre',y,post',by rw[←e];simp,e2,g1,g2⟩
theorem Jr9 (K1 K2:XJ→Int) (better:XJ→XJ→Bool) (hb: ∀p x,better p x=true↔(K1 x<K1 p∨(K1 x=K1 p∧K2 x<K2 p))) (x:XJ) (l:List XJ):
  ∃t,Q4 K2 (Q4 K1 (x::l))=(x::l).foldl (fun x p=>if better p x=true then p else x) x::t:=by
 have hxx:better x x=false:=by
  cases h:better x x with
  |false=>rfl
  |true=>have:=(hb x x).1 h;omega
 obtain⟨pre,y,post,e,e2,g1,g2⟩:=Km0 K1 K2 better hb l [] x [] (fun q hq=>by cases hq) (fun q hq=>by cases hq)
 rw[List.foldl_cons,if_neg (by rw[hxx];simp),e2]
 have e3:x::l=pre++y::post:=by simpa using e
 rw[e3]
 have lt1: ∀q∈pre,K1 q<K1 y∨(K1 q=K1 y∧K2 q<K2 y):=fun q hq=>(hb y q).1 (g1 q hq)
 have le1: ∀q∈post,¬(K1 y<K1 q∨(K1 y=K1 q∧K2 y<K2 q)):=fun q hq h=>by have:=g2 q hq;rw[(hb q y).2 h]at this;cases this
 rw[Qw7 (F:=K1) (m:=K1 y) ⟨y,by simp,rfl⟩ (fun q hq=>by
  rcases List.mem_append.1 hq with hq|hq
  ·have:=lt1 q hq;omega
  ·rcases List.mem_cons.1 hq with rfl|hq
   ·exact Int.le_refl _
   ·have:=le1 q hq;omega)]
 rw[Qw7 (F:=K2) (m:=K2 y) ⟨y,by simp,rfl⟩ (fun q hq=>by
  obtain⟨hq1,hq2⟩:=List.mem_filter.1 hq;have hk:K1 q=K1 y:=by simpa using hq2
  rcases List.mem_append.1 hq1 with hq|hq
  ·have:=lt1 q hq;omega
  ·rcases List.mem_cons.1 hq with rfl|hq
   ·exact Int.le_refl _
   ·have:=le1 q hq;omega)]
 rw[List.filter_filter,List.filter_append]
 have h0:pre.filter (fun a=>(K2 a ==K2 y) && (K1 a ==K1 y))= []:=by
  rw[List.filter_eq_nil_iff];intro q hq;have:=lt1 q hq;simp;omega
 rw[h0,List.filter_cons]
 simp
theorem Jm3 (ps:List XJ):Q4 (fun _=>0) ps=ps:=by
 cases ps with
 |nil=>rfl
 |cons a l=>rw[Qw7 (m:=0) ⟨a,by simp,rfl⟩ (fun _ _=>Int.le_refl _)];simp
theorem Xu7 (r:Int) (x:XJ) (b:List XJ): ∃t,Qu1 r (x::b)=Jm1 (Jm0 (x::b)) (Qs2 (x::b)) r x (x::b)::t:=by
 have hbuy:((x::b).any (fun p=>decide ((p.2.1-p.2.2)*1≤0))=false)↔Jm0 (x::b)=true:=by
  unfold Jm0;rw[List.any_eq_false,List.all_eq_true];constructor
  ·intro h p hp;have:=h p hp;simp at this⊢;omega
  ·intro h p hp;have:=h p hp;simp at this⊢;omega
 have hsell:((x::b).any (fun p=>decide ((p.2.1-p.2.2)* -1≤0))=false)↔Qs2 (x::b)=true:=by
  unfold Qs2;rw[List.any_eq_false,List.all_eq_true];constructor
  ·intro h p hp;have:=h p hp;simp at this⊢;omega
  ·intro h p hp;have:=h p hp;simp at this⊢;omega
 unfold Qu1 Jm1
 by_cases h1:Jm0 (x::b)=true
 ·rw[if_pos (hbuy.2 h1),h1]
  have:=Jr9 (fun p=>p.1) (fun _=>0) (Qk5 true (Qs2 (x::b)) r) (fun p y=>by simp[Qk5]) x b;rw[Jm3]at this;exact this
 ·rw[if_neg (fun h=>h1 (hbuy.1 h))]
  have h1':Jm0 (x::b)=false:=by simpa using h1
  by_cases h2:Qs2 (x::b)=true
  ·rw[if_pos (hsell.2 h2),h1',h2]
   have:=Jr9 (fun p=> -p.1) (fun _=>0) (Qk5 false true r) (fun p y=>by simp[Qk5]) x b;rw[Jm3]at this;exact this
  ·rw[if_neg (fun h=>h2 (hsell.1 h))]
   have h2':Qs2 (x::b)=false:=by simpa using h2
   rw[h1',h2'];exact Jr9 (fun p=> -max (p.1-r) (r-p.1)) (fun p=> -p.1) (Qk5 false false r) (fun p y=>by simp[Qk5,Xz9];omega) x b
theorem Xm5 (ps:List XJ) (r:Int):Q7 ps r=Jr8 ps r:=by
 obtain⟨h1,h0,h2⟩:=Qs3 ps
 unfold Q7 Jr8
 by_cases hm:U2 ps<1
 ·rw[if_pos hm]
  cases hk:Q4 ZQ ps with
  |nil=>rfl
  |cons p l=>
   have hp:p∈ps:=Jy3 (F:=ZQ) (by rw[hk];simp);have:=h2 p hp;show(if ZQ p<1 then _ else _)=_;rw[if_pos (by omega)]
 ·rw[if_neg hm]
  obtain⟨e1,e2⟩:=Kf0 ps (by omega)
  cases hk:Q4 ZQ ps with
  |nil=>
   exfalso
   obtain⟨p,hp,e⟩:=h1.resolve_left (by omega);have:p∈Q4 ZQ ps:=by rw[e1];exact List.mem_filter.2 ⟨hp,by simp[e]⟩
   rw[hk]at this
   cases this
  |cons p l=>
   have hp:p∈ps.filter (fun p=>ZQ p ==U2 ps):=by rw[←e1,hk];simp
   have ht:ZQ p=U2 ps:=by simpa using(List.mem_filter.1 hp).2
   show(if ZQ p<1 then _ else Jo8 (Qu1 r (Q4 (fun p=> -Qe6 p) (p::l))))=_;rw[if_neg (by omega),←hk,e2]
   cases hb:Jl9 (U2 ps) (Qo8 (U2 ps) ps).1 ps with
   |nil=>exact absurd hb (Xm4 ps (by omega))
   |cons x b=>
    obtain⟨t,e3⟩:=Xu7 r x b;rw[e3]
    rfl
def OAr (w:World) (a:Nat) (F:Nat→Prop) (M:Int→Int→Option QX) (most n:Nat):Prop:=
 ∃A c B d ss fr,KW w a A c B d ss fr (most:Nat) (n:Nat)∧Ji9 ss fr most∧Qi4 ss=n∧(∀s g,M s g=O5 ss s g)∧ ∀i,F i↔OFp a A B i
def Z6 (M:Int→Int→Option QX) (s g:Int) (x:Option QX):Int→Int→Option QX:=fun s' g'=>if s'=s∧g'=g then x else M s' g'
def Kf1 (M:Int→Int→Option QX) (s g:Int):QX:=(M s g).getD noO
def Kf2 (M:Int→Int→Option QX) (s g:Int):Int:=if(M s g).isSome=true then 0 else 7
section
variable {w w':World} {a:Nat} {F:Nat→Prop} {M:Int→Int→Option QX} {most n:Nat}
theorem OAr.fp (h:OAr w a F M most n) {i:Nat} (hi:F i):i<w.heap.size:=by
 obtain⟨A,c,B,d,ss,fr,hA,_,_,_,hF⟩:=h
 exact hA.fp ((hF i).1 hi)
theorem OAr.keeps {S:Nat→Prop} (h:OAr w a F M most n) (hk:QK S w w') (hn: ∀i,F i→ ¬S i):OAr w' a F M most n:=by
 obtain⟨A,c,B,d,ss,fr,hA,hI,hL,hM,hF⟩:=h
 exact⟨A,c,B,d,ss,fr,hA.keeps hk (fun i hi=>hn i ((hF i).2 hi)),hI,hL,hM,hF⟩
theorem OAr.below (h:OAr w a F M most n) (hb:Below w.heap.size w w'):OAr w' a F M most n:=h.keeps (QK.of_below hb (fun _=>False)) (fun _ _=>id)
theorem OAr.le (h:OAr w a F M most n):n≤most:=by
 obtain⟨A,c,B,d,ss,fr,hA,hI,hL,hM,hF⟩:=h
 have h1:=hI.count
 have h2:=hI.cap
 omega
def Js0 (w w':World) (a:Nat) (F:Nat→Prop) (M:Int→Int→Option QX) (most n:Nat):Prop:=
 ∃F',OAr w' a F' M most n∧QK F w w'∧ ∀i,F' i→F i∨w.heap.size≤i
theorem Km1 (h:OAr w a F M most n):Calls Tryz.prog 51 #[.pointer (some ⟨a,0,none⟩)] w fun e w'=>e= .returned (.int .i64 n)∧w=w':=by
 obtain⟨A,c,B,d,ss,fr,hA,hI,hL,hM,hF⟩:=h
 exact Jp9 w a A c B d ss fr _ _ hA
theorem Ks5 (h:OAr w a F M most n) (s g:Int):Calls Tryz.prog 58 #[.pointer (some ⟨a,0,none⟩),.agg #[.int .i64 s,.int .i64 g]] w fun e w'=>
  e= .returned (.tuple #[KQ (Kf1 M s g),YZ (Kf2 M s g)])∧Below w.heap.size w w':=by
 obtain⟨A,c,B,d,ss,fr,hA,hI,hL,hM,hF⟩:=h
 refine(Jw9 w a A c B d ss fr _ _ s g hA).mono ?_
 rintro e w' ⟨rfl,hB⟩
 refine⟨?_,hB⟩
 unfold Kf1 Kf2
 rw[hM,Jy8,Jy9]
theorem Jf5 (h:OAr w a F M most n) (hm:most≤1000) (x:QX):Calls Tryz.prog 75 #[.pointer (some ⟨a,0,none⟩),KQ x] w fun e w'=>
  (n=most∧e= .returned (.tuple #[.agg #[.int .i64 0,.int .i64 0],YZ 12])∧Below w.heap.size w w')∨
  (n<most∧ ∃s g,M s g=none∧e= .returned (.tuple #[.agg #[.int .i64 s,.int .i64 g],YZ 0])∧Js0 w w' a F (Z6 M s g (some x)) most (n+1)):=by
 obtain⟨A,c,B,d,ss,fr,hA,hI,hL,hM,hF⟩:=h
 have hcap:=hI.cap
 have hcnt:=hI.count
 by_cases hn:n=most
 ·refine(Xf3 w a A c B d ss fr _ _ x hA (by omega)).mono ?_
  rintro e w' ⟨rfl,hB⟩;exact .inl ⟨hn,rfl,hB⟩
 ·have hw:RowKit.wrap64 ((n:Int)+1)=((n+1:Nat):Int):=by unfold RowKit.wrap64;omega
  rcases List.eq_nil_or_concat fr with rfl|⟨fr0,i,rfl⟩
  ·refine(Xm0 w a A c B d ss _ _ x hA (by omega) (by omega)).mono ?_
   rintro e w' ⟨rfl,A',c',B',d',hA',hK,hf⟩;rw[hw]at hA';refine .inr ⟨by omega,_,_, ?_,rfl,OFp a A' B',⟨A',c',B',d',_,_,hA',hI.new_ (by omega) x, ?_, ?_,fun i=>Iff.rfl⟩,hK.mono (fun i hi=>(hF i).2 hi),fun i hi=>(hf i hi).imp (fun h=>(hF i).2 h) id⟩
   ·rw[hM];unfold O5;simp
   ·rw[Je7,hL];rfl
   ·intro s g
    rw[Xe7];unfold Z6;rw[hM]
    by_cases e1:s=(ss.length:Nat)
    ·subst e1
     by_cases e2:g=0
     ·subst e2;simp
     ·have:O5 ss (ss.length:Nat) g=none:=by unfold O5;simp
      rw[if_neg (by simp[e2]),this,if_pos rfl,if_neg (by simp;omega)]
    ·rw[if_neg (by simp[e1]),if_neg e1]
  ·rw[List.concat_eq_append]at hA hI hcnt
   obtain⟨k,rfl,hk0,_⟩:=hI.free i (by simp);obtain⟨hk,hkf,hI',hL'⟩:=hI.old_ x (ss[k].2.1);refine(Xl9 w a A c B d ss fr0 k _ _ x hA (by omega) hk (by simp at hcnt;omega)).mono ?_;rintro e w' ⟨rfl,A',c',B',d',hA',hK,hf⟩;rw[hw]at hA';refine .inr ⟨by omega,_,_, ?_,rfl,OFp a A' B',⟨A',c',B',d',_,_,hA',hI', ?_, ?_,fun i=>Iff.rfl⟩,hK.mono (fun i hi=>(hF i).2 hi),fun i hi=>(hf i hi).imp (fun h=>(hF i).2 h) id⟩
   ·rw[hM];exact Jq4 hk hkf _
   ·rw[hL',hL]
   ·intro s g
    rw[Ji7 hk];unfold Z6;rw[hM]
    by_cases e1:s=(k:Int)
    ·subst e1
     by_cases e2:g=ss[k].2.1
     ·subst e2;simp
     ·rw[if_neg (by simp[e2]),Jq4 hk hkf,if_pos rfl,if_neg (by simp;omega)]
    ·rw[if_neg (by simp[e1]),if_neg e1]
theorem Km2 (h:OAr w a F M most n) (hm:most≤1000) (s g:Int):Calls Tryz.prog 73 #[.pointer (some ⟨a,0,none⟩),.agg #[.int .i64 s,.int .i64 g]] w fun e w'=>
  e= .returned (.tuple #[KQ (Kf1 M s g),YZ (Kf2 M s g)])∧((M s g=none∧Below w.heap.size w w')∨((M s g).isSome=true∧1≤n∧Js0 w w' a F (Z6 M s g none) most (n-1))):=by
 obtain⟨A,c,B,d,ss,fr,hA,hI,hL,hM,hF⟩:=h
 have hcap:=hI.cap
 have hcnt:=hI.count
 refine(Jq3 w a A c B d ss fr _ _ s g hA (by omega)).mono ?_
 rintro e w' ⟨rfl,hcase⟩
 refine⟨by unfold Kf1 Kf2;rw[hM,Jy8,Jy9], ?_⟩
 rcases hcase with⟨hf,hB⟩|⟨hf,A',c',B',d',hA',hK,hfp⟩
 ·rw[Qp9]at hf
  refine .inl ⟨?_,hB⟩;rw[hM]
  cases hv:O5 ss s g with
  |none=>rfl
  |some v=>rw[hv]at hf;cases hf
 ·rw[Qp9]at hf
  obtain⟨x,hx⟩: ∃x,O5 ss s g=some x:=Option.isSome_iff_exists.1 hf;obtain⟨k,rfl,hk,h1,h2,h3⟩:=Kl0 hx;obtain⟨hI',hL'⟩:=hI.take_ hk h1 noO (RowKit.wrap64 (ss[k].2.1+1));have hw:RowKit.wrap64 ((n:Int)-1)=((n-1:Nat):Int):=by unfold RowKit.wrap64;omega
  rw[hw,Jy6 hk]at hA';refine .inr ⟨by rw[hM];exact hf,by omega,OFp a A' B',⟨A',c',B',d',_,_,hA',hI',by omega, ?_,fun i=>Iff.rfl⟩,hK.mono (fun i hi=>(hF i).2 hi),fun i hi=>(hfp i hi).imp (fun h=>(hF i).2 h) id⟩;intro s' g';rw[Ji7 hk];unfold Z6;rw[hM]
  by_cases e1:s'=(k:Int)
  ·subst e1
   rw[if_pos rfl]
   by_cases e2:g'=g
   ·subst e2;simp
   ·have:O5 ss (k:Nat) g'=none:=by
     unfold O5;have hh:ss[((k:Nat):Int).toNat]?=some ss[k]:=by simp[hk]
     rw[if_pos (by omega),hh];simp[h2];intro _ e;exact absurd e.symm e2
    rw[if_neg (by simp[e2]),this,if_neg (by simp)]
  ·rw[if_neg (by simp[e1]),if_neg e1]
end
theorem Ks6 (w:World) (most:Nat) (h1:1≤most) (h2:most≤1000):Calls Tryz.prog 43 #[.int .i64 most] w fun e w'=>
  Below w.heap.size w w'∧ ∃a F,(∀i,F i→w.heap.size≤i)∧e= .returned (.tuple #[.pointer (some ⟨a,0,none⟩),.nilIface])∧OAr w' a F (fun _ _=>none) most 0:=by
 refine(Jw8 (most:Int) w).mono ?_
 rintro e w' ⟨hB,⟨hbad,_⟩|⟨_,a,ha,rfl,hA⟩⟩
 ·omega
 ·refine⟨hB,a,OFp a none none, ?_,rfl,none,0,none,0,[],[],hA,Ji9.empty most,rfl,fun s g=>(Xk2 s g).symm,fun i=>Iff.rfl⟩
  rintro i (rfl|hi|hi)
  ·exact ha
  ·cases hi
  ·cases hi
end Go.Proofs.YtnlngicnfegjgaaGreat
