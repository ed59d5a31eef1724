/- Contracts and walks that the law's proof needs. -/
import Derived.Test.YtbmiieehkkfbgaaGreatDoorZd4
import Derived.WalkKit
import Derived.Test.YtbmiieehkkfbgaaGreatDoorZd6
import Derived.Test.YtbmiieehkkfbgaaGreatDoorZd11
set_option linter.unusedVariables false
set_option maxRecDepth 100000
set_option maxHeartbeats 8000000
namespace Go.Proofs.YtbmiieehkkfbgaaGreatDoor
open Go.RowKit
def Ka1 (x:Int):Int:=if x<0 then -x else x
def Jh7 (p:XJ):Int:=Ka1 (p.2.1-p.2.2)
def V8 (l:List XJ):Int:=l.foldl (fun m p=>max m (KK p)) 0
def Qp5 (most:Int) (l:List XJ):Int×Bool:=l.foldl (fun s p=>if KK p=most∧(s.2=false∨Jh7 p<s.1)then(Jh7 p,true)else s) (0,false)
def Jo5 (most least:Int) (l:List XJ):List XJ:=l.filter fun p=>(KK p ==most) && (Jh7 p ==least)
def Jo6 (l:List XJ):Bool:=l.all fun p=>decide (p.2.2<p.2.1)
def Qt4 (l:List XJ):Bool:=l.all fun p=>decide (p.2.1<p.2.2)
def Qk8 (buys sells:Bool) (r:Int) (p x:XJ):Bool:=
 if buys then decide (x.1<p.1)else if sells then decide (p.1<x.1)else decide (Ka1 (p.1-r)<Ka1 (x.1-r)) || (Ka1 (p.1-r) ==Ka1 (x.1-r) &&decide (p.1<x.1))
def Jo7 (buys sells:Bool) (r:Int) (x:XJ) (l:List XJ):XJ:=l.foldl (fun x p=>if Qk8 buys sells r p x=true then p else x) x
def Zl7 (r:Int):List XJ→XJ
 | []=>(0,0,0)
 |x::b=>Jr9 [Jo7 (Jo6 (x::b)) (Qt4 (x::b)) r x (x::b)]
def Jv2 (l:List XJ) (r:Int):XJ:=if V8 l<1 then(0,0,0)else Zl7 r (Jo5 (V8 l) (Qp5 (V8 l) l).1 l)
theorem Kg5 (x:Int):Ka1 x=max x (-x):=by unfold Ka1;split<;>omega
theorem Xj6 (p:XJ):Jh7 p=Qd9 p:=by unfold Jh7 Qd9;rw[Kg5];omega
theorem Ka2 (l:List XJ): ∀m:Int,(l.foldl (fun m p=>max m (KK p)) m=m∨ ∃p∈l,KK p=l.foldl (fun m p=>max m (KK p)) m)∧m≤l.foldl (fun m p=>max m (KK p)) m∧ ∀p∈l,KK p≤l.foldl (fun m p=>max m (KK p)) m:=by
 induction l with
 |nil=>intro m;exact⟨.inl rfl,Int.le_refl _,fun p hp=>by cases hp⟩
 |cons a l ih=>
  intro m;obtain⟨h1,h2,h3⟩:=ih (max m (KK a));rw[List.foldl_cons];have e1:=Int.le_max_left m (KK a);have e2:=Int.le_max_right m (KK a);refine⟨?_,by omega,fun p hp=> ?_⟩
  ·rcases h1 with h1|⟨p,hp,e⟩
   ·rcases Int.le_total m (KK a)with h|h
    ·right;exact⟨a,by simp,by rw[h1];omega⟩
    ·left;rw[h1];omega
   ·exact .inr ⟨p,by simp[hp],e⟩
  ·rcases List.mem_cons.1 hp with rfl|hp
   ·omega
   ·exact h3 p hp
theorem Qt5 (l:List XJ):(V8 l=0∨ ∃p∈l,KK p=V8 l)∧0≤V8 l∧ ∀p∈l,KK p≤V8 l:=Ka2 l 0
theorem Xr5 (m:Int) (l:List XJ): ∀s:Int×Bool,
  let t:=l.foldl (fun s p=>if KK p=m∧(s.2=false∨Jh7 p<s.1)then(Jh7 p,true)else s) s
  (t=s∨(t.2=true∧ ∃p∈l,KK p=m∧Jh7 p=t.1))∧(s.2=true→t.2=true∧t.1≤s.1)∧ ∀p∈l,KK p=m→t.2=true∧t.1≤Jh7 p:=by
 induction l with
 |nil=>intro s;exact⟨.inl rfl,fun h=>⟨h,Int.le_refl _⟩,fun p hp=>by cases hp⟩
 |cons a l ih=>
  intro s;rw[List.foldl_cons]
  by_cases hc:KK a=m∧(s.2=false∨Jh7 a<s.1)
  ·rw[if_pos hc]
   obtain⟨h1,h2,h3⟩:=ih (Jh7 a,true);obtain⟨g1,g2⟩:=h2 rfl;refine⟨?_,fun hs=>⟨g1, ?_⟩,fun p hp ht=> ?_⟩
   ·rcases h1 with h1|⟨e,p,hp,e2⟩
    ·exact .inr ⟨g1,a,by simp,hc.1,by rw[h1]⟩
    ·exact .inr ⟨e,p,by simp[hp],e2⟩
   ·rcases hc.2 with h|h
    ·rw[hs]at h;cases h
    ·exact Int.le_trans g2 (Int.le_of_lt h)
   ·rcases List.mem_cons.1 hp with rfl|hp
    ·exact⟨g1,g2⟩
    ·exact h3 p hp ht
  ·rw[if_neg hc]
   obtain⟨h1,h2,h3⟩:=ih s;refine⟨?_,h2,fun p hp ht=> ?_⟩
   ·rcases h1 with h1|⟨e,p,hp,e2⟩
    ·exact .inl h1
    ·exact .inr ⟨e,p,by simp[hp],e2⟩
   ·rcases List.mem_cons.1 hp with rfl|hp
    ·have hs:s.2=true:=by
      cases h:s.2 with
      |true=>rfl
      |false=>exact absurd ⟨ht,.inl h⟩ hc
     obtain⟨g1,g2⟩:=h2 hs;refine⟨g1, ?_⟩;rcases Int.lt_or_le (Jh7 p) s.1 with h|h
     ·exact absurd ⟨ht,.inr h⟩ hc
     ·exact Int.le_trans g2 h
    ·exact h3 p hp ht
theorem Jo8 (m:Int) (l:List XJ) (h: ∃p∈l,KK p=m):(∃p∈l,KK p=m∧Jh7 p=(Qp5 m l).1)∧ ∀p∈l,KK p=m→(Qp5 m l).1≤Jh7 p:=by
 obtain⟨h1,_,h3⟩:=Xr5 m l (0,false)
 obtain⟨p,hp,e⟩:=h
 refine⟨?_,fun q hq ht=>(h3 q hq ht).2⟩
 rcases h1 with h1|⟨_,h1⟩
 ·have h4:=(h3 p hp e).1
  rw[h1]at h4
  cases h4
 ·exact h1
theorem Xr6 (l:List XJ) (h:1≤V8 l):Jo5 (V8 l) (Qp5 (V8 l) l).1 l≠ []:=by
 obtain⟨h1,_,_⟩:=Qt5 l
 rcases h1 with h1|h1
 ·omega
 ·obtain⟨⟨p,hp,e1,e2⟩,_⟩:=Jo8 (V8 l) l h1
  intro h0;have:p∈Jo5 (V8 l) (Qp5 (V8 l) l).1 l:=List.mem_filter.2 ⟨hp,by simp[e1,e2]⟩;rw[h0]at this
  cases this
theorem Qx5 {F:XJ→Int} {ps:List XJ} {m:Int} (h1: ∃p∈ps,F p=m) (h2: ∀p∈ps,F p≤m):Q4 F ps=ps.filter fun p=>F p ==m:=by
 have hne:ps≠ []:=by
  obtain⟨p,hp,_⟩:=h1;intro h;rw[h]at hp;cases hp
 obtain⟨⟨q,hq,e⟩,hall⟩:=Xc7 F ps hne
 obtain⟨p,hp,e2⟩:=h1
 have:Xi4 F ps=m:=by
  have:=hall p hp;have:=h2 q hq;omega
 unfold Q4
 rw[this]
theorem Kl5 (ps:List XJ) (h:1≤V8 ps):Q4 KK ps=ps.filter (fun p=>KK p ==V8 ps)∧Q4 (fun p=> -Qd9 p) (Q4 KK ps)=Jo5 (V8 ps) (Qp5 (V8 ps) ps).1 ps:=by
 obtain⟨h1,h0,h2⟩:=Qt5 ps
 have h3: ∃p∈ps,KK p=V8 ps:=h1.resolve_left (by omega)
 have e1:=Qx5 h3 h2
 obtain⟨⟨p,hp,e2,e3⟩,h4⟩:=Jo8 (V8 ps) ps h3
 refine⟨e1, ?_⟩
 rw[e1,Qx5 (m:= -(Qp5 (V8 ps) ps).1)]
 ·unfold Jo5
  rw[List.filter_filter]
  congr 1
  funext q
  rw[←Xj6];rw[Bool.eq_iff_iff];simp;omega
 ·exact⟨p,List.mem_filter.2 ⟨hp,by simp[e2]⟩,by rw[←Xj6,e3]⟩
 ·intro q hq
  obtain⟨hq1,hq2⟩:=List.mem_filter.1 hq;have:=h4 q hq1 (by simpa using hq2);rw[←Xj6];omega
theorem Kv4 (K1 K2:XJ→Int) (better:XJ→XJ→Bool) (hb: ∀p x,better p x=true↔(K1 x<K1 p∨(K1 x=K1 p∧K2 x<K2 p))) (l:List XJ): ∀(pre:List XJ) (x:XJ) (post:List XJ),
  (∀q∈pre,better x q=true)→(∀q∈post,better q x=false)→
  ∃pre' y post',pre++x::post++l=pre'++y::post'∧l.foldl (fun x p=>if better p x=true then p else x) x=y∧(∀q∈pre',better y q=true)∧(∀q∈post',better q y=false):=by
 induction l with
 |nil=>intro pre x post h1 h2;exact⟨pre,x,post,by simp,rfl,h1,h2⟩
 |cons a l ih=>
  intro pre x post h1 h2;rw[List.foldl_cons]
  by_cases hc:better a x=true
  ·rw[if_pos hc]
   obtain⟨pre',y,post',e,e2,g1,g2⟩:=ih (pre++x::post) a [] (fun q hq=>by
    have ha:=(hb a x).1 hc;rcases List.mem_append.1 hq with hq|hq
    ·have:=(hb x q).1 (h1 q hq)
     exact(hb a q).2 (by omega)
    ·rcases List.mem_cons.1 hq with rfl|hq
     ·exact hc
     ·have h3:=h2 q hq
      have h4: ¬(K1 x<K1 q∨(K1 x=K1 q∧K2 x<K2 q)):=fun h=>by rw[(hb q x).2 h]at h3;cases h3
      exact(hb a q).2 (by omega)) (fun q hq=>by cases hq)
   exact⟨pre',y,post',by rw[←e];simp,e2,g1,g2⟩
  ·rw[if_neg hc]
   obtain⟨pre',y,post',e,e2,g1,g2⟩:=ih pre x (post++ [a]) h1 (fun q hq=>by
    rcases List.mem_append.1 hq with hq|hq
    ·exact h2 q hq
    ·simp at hq;subst hq;simpa using hc)
   exact⟨pre',y,post',by rw[←e];simp,e2,g1,g2⟩
theorem Jv3 (K1 K2:XJ→Int) (better:XJ→XJ→Bool) (hb: ∀p x,better p x=true↔(K1 x<K1 p∨(K1 x=K1 p∧K2 x<K2 p))) (x:XJ) (l:List XJ):
  ∃t,Q4 K2 (Q4 K1 (x::l))=(x::l).foldl (fun x p=>if better p x=true then p else x) x::t:=by
 have hxx:better x x=false:=by
  cases h:better x x with
  |false=>rfl
  |true=>have:=(hb x x).1 h;omega
 obtain⟨pre,y,post,e,e2,g1,g2⟩:=Kv4 K1 K2 better hb l [] x [] (fun q hq=>by cases hq) (fun q hq=>by cases hq)
 rw[List.foldl_cons,if_neg (by rw[hxx];simp),e2]
 have e3:x::l=pre++y::post:=by simpa using e
 rw[e3]
 have lt1: ∀q∈pre,K1 q<K1 y∨(K1 q=K1 y∧K2 q<K2 y):=fun q hq=>(hb y q).1 (g1 q hq)
 have le1: ∀q∈post,¬(K1 y<K1 q∨(K1 y=K1 q∧K2 y<K2 q)):=fun q hq h=>by have:=g2 q hq;rw[(hb q y).2 h]at this;cases this
 rw[Qx5 (F:=K1) (m:=K1 y) ⟨y,by simp,rfl⟩ (fun q hq=>by
  rcases List.mem_append.1 hq with hq|hq
  ·have:=lt1 q hq;omega
  ·rcases List.mem_cons.1 hq with rfl|hq
   ·exact Int.le_refl _
   ·have:=le1 q hq;omega)]
 rw[Qx5 (F:=K2) (m:=K2 y) ⟨y,by simp,rfl⟩ (fun q hq=>by
  obtain⟨hq1,hq2⟩:=List.mem_filter.1 hq;have hk:K1 q=K1 y:=by simpa using hq2
  rcases List.mem_append.1 hq1 with hq|hq
  ·have:=lt1 q hq;omega
  ·rcases List.mem_cons.1 hq with rfl|hq
   ·exact Int.le_refl _
   ·have:=le1 q hq;omega)]
 rw[List.filter_filter,List.filter_append]
 have h0:pre.filter (fun a=>(K2 a ==K2 y) && (K1 a ==K1 y))= []:=by
  rw[List.filter_eq_nil_iff];intro q hq;have:=lt1 q hq;simp;omega
 rw[h0,List.filter_cons]
 simp
theorem Jo9 (ps:List XJ):Q4 (fun _=>0) ps=ps:=by
 cases ps with
 |nil=>rfl
 |cons a l=>rw[Qx5 (m:=0) ⟨a,by simp,rfl⟩ (fun _ _=>Int.le_refl _)];simp
theorem Ka3 (r:Int) (x:XJ) (b:List XJ): ∃t,Qv4 r (x::b)=Jo7 (Jo6 (x::b)) (Qt4 (x::b)) r x (x::b)::t:=by
 have hbuy:((x::b).any (fun p=>decide ((p.2.1-p.2.2)*1≤0))=false)↔Jo6 (x::b)=true:=by
  unfold Jo6;rw[List.any_eq_false,List.all_eq_true];constructor
  ·intro h p hp;have:=h p hp;simp at this⊢;omega
  ·intro h p hp;have:=h p hp;simp at this⊢;omega
 have hsell:((x::b).any (fun p=>decide ((p.2.1-p.2.2)* -1≤0))=false)↔Qt4 (x::b)=true:=by
  unfold Qt4;rw[List.any_eq_false,List.all_eq_true];constructor
  ·intro h p hp;have:=h p hp;simp at this⊢;omega
  ·intro h p hp;have:=h p hp;simp at this⊢;omega
 unfold Qv4 Jo7
 by_cases h1:Jo6 (x::b)=true
 ·rw[if_pos (hbuy.2 h1),h1]
  have:=Jv3 (fun p=>p.1) (fun _=>0) (Qk8 true (Qt4 (x::b)) r) (fun p y=>by simp[Qk8]) x b;rw[Jo9]at this;exact this
 ·rw[if_neg (fun h=>h1 (hbuy.1 h))]
  have h1':Jo6 (x::b)=false:=by simpa using h1
  by_cases h2:Qt4 (x::b)=true
  ·rw[if_pos (hsell.2 h2),h1',h2]
   have:=Jv3 (fun p=> -p.1) (fun _=>0) (Qk8 false true r) (fun p y=>by simp[Qk8]) x b;rw[Jo9]at this;exact this
  ·rw[if_neg (fun h=>h2 (hsell.1 h))]
   have h2':Qt4 (x::b)=false:=by simpa using h2
   rw[h1',h2'];exact Jv3 (fun p=> -max (p.1-r) (r-p.1)) (fun p=> -p.1) (Qk8 false false r) (fun p y=>by simp[Qk8,Kg5];omega) x b
theorem Xr7 (ps:List XJ) (r:Int):J3 ps r=Jv2 ps r:=by
 obtain⟨h1,h0,h2⟩:=Qt5 ps
 unfold J3 Jv2
 by_cases hm:V8 ps<1
 ·rw[if_pos hm]
  cases hk:Q4 KK ps with
  |nil=>rfl
  |cons p l=>
   have hp:p∈ps:=Xc8 (F:=KK) (by rw[hk];simp);have:=h2 p hp;show(if KK p<1 then _ else _)=_;rw[if_pos (by omega)]
 ·rw[if_neg hm]
  obtain⟨e1,e2⟩:=Kl5 ps (by omega)
  cases hk:Q4 KK ps with
  |nil=>
   exfalso
   obtain⟨p,hp,e⟩:=h1.resolve_left (by omega);have:p∈Q4 KK ps:=by rw[e1];exact List.mem_filter.2 ⟨hp,by simp[e]⟩
   rw[hk]at this
   cases this
  |cons p l=>
   have hp:p∈ps.filter (fun p=>KK p ==V8 ps):=by rw[←e1,hk];simp
   have ht:KK p=V8 ps:=by simpa using(List.mem_filter.1 hp).2
   show(if KK p<1 then _ else Jr9 (Qv4 r (Q4 (fun p=> -Qd9 p) (p::l))))=_;rw[if_neg (by omega),←hk,e2]
   cases hb:Jo5 (V8 ps) (Qp5 (V8 ps) ps).1 ps with
   |nil=>exact absurd hb (Xr6 ps (by omega))
   |cons x b=>
    obtain⟨t,e3⟩:=Ka3 r x b;rw[e3]
    rfl
def OAr (w:World) (a:Nat) (F:Nat→Prop) (M:Int→Int→Option QX) (most n:Nat):Prop:=
 ∃A c B d ss fr,KY w a A c B d ss fr (most:Nat) (n:Nat)∧Jk8 ss fr most∧Qi2 ss=n∧(∀s g,M s g=Y9 ss s g)∧ ∀i,F i↔OFp a A B i
def Z1 (M:Int→Int→Option QX) (s g:Int) (x:Option QX):Int→Int→Option QX:=fun s' g'=>if s'=s∧g'=g then x else M s' g'
def Kl6 (M:Int→Int→Option QX) (s g:Int):QX:=(M s g).getD noO
def Kl7 (M:Int→Int→Option QX) (s g:Int):Int:=if(M s g).isSome=true then 0 else 7
section
variable {w w':World} {a:Nat} {F:Nat→Prop} {M:Int→Int→Option QX} {most n:Nat}
theorem OAr.fp (h:OAr w a F M most n) {i:Nat} (hi:F i):i<w.heap.size:=by
 obtain⟨A,c,B,d,ss,fr,hA,_,_,_,hF⟩:=h
 exact hA.fp ((hF i).1 hi)
theorem OAr.keeps {S:Nat→Prop} (h:OAr w a F M most n) (hk:QK S w w') (hn: ∀i,F i→ ¬S i):OAr w' a F M most n:=by
 obtain⟨A,c,B,d,ss,fr,hA,hI,hL,hM,hF⟩:=h
 exact⟨A,c,B,d,ss,fr,hA.keeps hk (fun i hi=>hn i ((hF i).2 hi)),hI,hL,hM,hF⟩
theorem OAr.below (h:OAr w a F M most n) (hb:Below w.heap.size w w'):OAr w' a F M most n:=h.keeps (QK.of_below hb (fun _=>False)) (fun _ _=>id)
theorem OAr.le (h:OAr w a F M most n):n≤most:=by
 obtain⟨A,c,B,d,ss,fr,hA,hI,hL,hM,hF⟩:=h
 have h1:=hI.count
 have h2:=hI.cap
 omega
def Jv4 (w w':World) (a:Nat) (F:Nat→Prop) (M:Int→Int→Option QX) (most n:Nat):Prop:=
 ∃F',OAr w' a F' M most n∧QK F w w'∧ ∀i,F' i→F i∨w.heap.size≤i
theorem Kv5 (h:OAr w a F M most n):Calls Tryz.prog 141 #[.pointer (some ⟨a,0,none⟩)] w fun e w'=>e= .returned (.int .i64 n)∧w=w':=by
 obtain⟨A,c,B,d,ss,fr,hA,hI,hL,hM,hF⟩:=h
 exact Jt3 w a A c B d ss fr _ _ hA
theorem Zd9 (h:OAr w a F M most n) (s g:Int):Calls Tryz.prog 118 #[.pointer (some ⟨a,0,none⟩),.agg #[.int .i64 s,.int .i64 g]] w fun e w'=>
  e= .returned (.tuple #[KJ (Kl6 M s g),VZ (Kl7 M s g)])∧Below w.heap.size w w':=by
 obtain⟨A,c,B,d,ss,fr,hA,hI,hL,hM,hF⟩:=h
 refine(Xb3 w a A c B d ss fr _ _ s g hA).mono ?_
 rintro e w' ⟨rfl,hB⟩
 refine⟨?_,hB⟩
 unfold Kl6 Kl7
 rw[hM,Xd3,Xd4]
theorem Jh8 (h:OAr w a F M most n) (hm:most≤1000) (x:QX):Calls Tryz.prog 181 #[.pointer (some ⟨a,0,none⟩),KJ x] w fun e w'=>
  (n=most∧e= .returned (.tuple #[.agg #[.int .i64 0,.int .i64 0],VZ 12])∧Below w.heap.size w w')∨
  (n<most∧ ∃s g,M s g=none∧e= .returned (.tuple #[.agg #[.int .i64 s,.int .i64 g],VZ 0])∧Jv4 w w' a F (Z1 M s g (some x)) most (n+1)):=by
 obtain⟨A,c,B,d,ss,fr,hA,hI,hL,hM,hF⟩:=h
 have hcap:=hI.cap
 have hcnt:=hI.count
 by_cases hn:n=most
 ·refine(Xj3 w a A c B d ss fr _ _ x hA (by omega)).mono ?_
  rintro e w' ⟨rfl,hB⟩;exact .inl ⟨hn,rfl,hB⟩
 ·have hw:RowKit.wrap64 ((n:Int)+1)=((n+1:Nat):Int):=by unfold RowKit.wrap64;omega
  rcases List.eq_nil_or_concat fr with rfl|⟨fr0,i,rfl⟩
  ·refine(Xr2 w a A c B d ss _ _ x hA (by omega) (by omega)).mono ?_
   rintro e w' ⟨rfl,A',c',B',d',hA',hK,hf⟩;rw[hw]at hA';refine .inr ⟨by omega,_,_, ?_,rfl,OFp a A' B',⟨A',c',B',d',_,_,hA',hI.new_ (by omega) x, ?_, ?_,fun i=>Iff.rfl⟩,hK.mono (fun i hi=>(hF i).2 hi),fun i hi=>(hf i hi).imp (fun h=>(hF i).2 h) id⟩
   ·rw[hM];unfold Y9;simp
   ·rw[Jg9,hL];rfl
   ·intro s g
    rw[Xi7];unfold Z1;rw[hM]
    by_cases e1:s=(ss.length:Nat)
    ·subst e1
     by_cases e2:g=0
     ·subst e2;simp
     ·have:Y9 ss (ss.length:Nat) g=none:=by unfold Y9;simp
      rw[if_neg (by simp[e2]),this,if_pos rfl,if_neg (by simp;omega)]
    ·rw[if_neg (by simp[e1]),if_neg e1]
  ·rw[List.concat_eq_append]at hA hI hcnt
   obtain⟨k,rfl,hk0,_⟩:=hI.free i (by simp);obtain⟨hk,hkf,hI',hL'⟩:=hI.old_ x (ss[k].2.1);refine(Xr1 w a A c B d ss fr0 k _ _ x hA (by omega) hk (by simp at hcnt;omega)).mono ?_;rintro e w' ⟨rfl,A',c',B',d',hA',hK,hf⟩;rw[hw]at hA';refine .inr ⟨by omega,_,_, ?_,rfl,OFp a A' B',⟨A',c',B',d',_,_,hA',hI', ?_, ?_,fun i=>Iff.rfl⟩,hK.mono (fun i hi=>(hF i).2 hi),fun i hi=>(hf i hi).imp (fun h=>(hF i).2 h) id⟩
   ·rw[hM];exact Jt8 hk hkf _
   ·rw[hL',hL]
   ·intro s g
    rw[Jk6 hk];unfold Z1;rw[hM]
    by_cases e1:s=(k:Int)
    ·subst e1
     by_cases e2:g=ss[k].2.1
     ·subst e2;simp
     ·rw[if_neg (by simp[e2]),Jt8 hk hkf,if_pos rfl,if_neg (by simp;omega)]
    ·rw[if_neg (by simp[e1]),if_neg e1]
theorem Kv6 (h:OAr w a F M most n) (hm:most≤1000) (s g:Int):Calls Tryz.prog 153 #[.pointer (some ⟨a,0,none⟩),.agg #[.int .i64 s,.int .i64 g]] w fun e w'=>
  e= .returned (.tuple #[KJ (Kl6 M s g),VZ (Kl7 M s g)])∧((M s g=none∧Below w.heap.size w w')∨((M s g).isSome=true∧1≤n∧Jv4 w w' a F (Z1 M s g none) most (n-1))):=by
 obtain⟨A,c,B,d,ss,fr,hA,hI,hL,hM,hF⟩:=h
 have hcap:=hI.cap
 have hcnt:=hI.count
 refine(Jt7 w a A c B d ss fr _ _ s g hA (by omega)).mono ?_
 rintro e w' ⟨rfl,hcase⟩
 refine⟨by unfold Kl6 Kl7;rw[hM,Xd3,Xd4], ?_⟩
 rcases hcase with⟨hf,hB⟩|⟨hf,A',c',B',d',hA',hK,hfp⟩
 ·rw[Qq8]at hf
  refine .inl ⟨?_,hB⟩;rw[hM]
  cases hv:Y9 ss s g with
  |none=>rfl
  |some v=>rw[hv]at hf;cases hf
 ·rw[Qq8]at hf
  obtain⟨x,hx⟩: ∃x,Y9 ss s g=some x:=Option.isSome_iff_exists.1 hf;obtain⟨k,rfl,hk,h1,h2,h3⟩:=Ku0 hx;obtain⟨hI',hL'⟩:=hI.take_ hk h1 noO (RowKit.wrap64 (ss[k].2.1+1));have hw:RowKit.wrap64 ((n:Int)-1)=((n-1:Nat):Int):=by unfold RowKit.wrap64;omega
  rw[hw,Xd1 hk]at hA';refine .inr ⟨by rw[hM];exact hf,by omega,OFp a A' B',⟨A',c',B',d',_,_,hA',hI',by omega, ?_,fun i=>Iff.rfl⟩,hK.mono (fun i hi=>(hF i).2 hi),fun i hi=>(hfp i hi).imp (fun h=>(hF i).2 h) id⟩;intro s' g';rw[Jk6 hk];unfold Z1;rw[hM]
  by_cases e1:s'=(k:Int)
  ·subst e1
   rw[if_pos rfl]
   by_cases e2:g'=g
   ·subst e2;simp
   ·have:Y9 ss (k:Nat) g'=none:=by
     unfold Y9;have hh:ss[((k:Nat):Int).toNat]?=some ss[k]:=by simp[hk]
     rw[if_pos (by omega),hh];simp[h2];intro _ e;exact absurd e.symm e2
    rw[if_neg (by simp[e2]),this,if_neg (by simp)]
  ·rw[if_neg (by simp[e1]),if_neg e1]
end
theorem Ze0 (w:World) (most:Nat) (h1:1≤most) (h2:most≤1000):Calls Tryz.prog 125 #[.int .i64 most] w fun e w'=>
  Below w.heap.size w w'∧ ∃a F,(∀i,F i→w.heap.size≤i)∧e= .returned (.tuple #[.pointer (some ⟨a,0,none⟩),.nilIface])∧OAr w' a F (fun _ _=>none) most 0:=by
 refine(Xb2 (most:Int) w).mono ?_
 rintro e w' ⟨hB,⟨hbad,_⟩|⟨_,a,ha,rfl,hA⟩⟩
 ·omega
 ·refine⟨hB,a,OFp a none none, ?_,rfl,none,0,none,0,[],[],hA,Jk8.empty most,rfl,fun s g=>(Xp2 s g).symm,fun i=>Iff.rfl⟩
  rintro i (rfl|hi|hi)
  ·exact ha
  ·cases hi
  ·cases hi
end Go.Proofs.YtbmiieehkkfbgaaGreatDoor
