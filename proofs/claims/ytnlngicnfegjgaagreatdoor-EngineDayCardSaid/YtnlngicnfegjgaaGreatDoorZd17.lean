/- Contracts and walks that the law's proof needs. -/
import Derived.Test.YtnlngicnfegjgaaGreatDoorZd1
import Derived.Test.YtnlngicnfegjgaaGreatDoorZd16
import Derived.Test.YtnlngicnfegjgaaGreatDoorZd4
import Derived.Test.YtnlngicnfegjgaaGreatDoorZd10
import Derived.Test.YtnlngicnfegjgaaGreatDoorZd2
import Derived.Test.YtnlngicnfegjgaaGreatDoorZd14
set_option linter.unusedVariables false
set_option maxRecDepth 100000
set_option maxHeartbeats 8000000
namespace Go.Proofs.YtnlngicnfegjgaaGreatDoor
open Go.RowKit
def Kp5 (lv:List XJ) (bu p:Int):Int:=Y9 (lv.filter fun y=>decide (p≤y.1)) bu
def Kp6 (lv:List XJ) (se p:Int):Int:=Qn3 (lv.filter fun y=>decide (y.1≤p)) se
def ptI (lv:List XJ) (bu se p:Int):XJ:=(p,Kp5 lv bu p,Kp6 lv se p)
theorem Qr3 (l:List XJ): ∀a:Int,Y9 l a=a+Y9 l 0:=by
 induction l with
 |nil=>intro a;unfold Y9;simp
 |cons y u ih=>
  intro a;have e1:=ih (a+y.2.1);have e2:=ih (0+y.2.1);unfold Y9 at*;rw[List.foldl_cons,List.foldl_cons,e1,e2];omega
theorem Xb2 (l:List XJ): ∀a:Int,Qn3 l a=a+Qn3 l 0:=by
 induction l with
 |nil=>intro a;unfold Qn3;simp
 |cons y u ih=>
  intro a;have e1:=ih (a+y.2.2);have e2:=ih (0+y.2.2);unfold Qn3 at*;rw[List.foldl_cons,List.foldl_cons,e1,e2];omega
theorem Xp1 (l l':List XJ) (a:Int):Y9 (l++l') a=Y9 l' (Y9 l a):=by unfold Y9;rw[List.foldl_append]
theorem Jn5 {α:Type} {q:α→Bool} {l:List α} (h: ∀x∈l,q x=false):l.filter q= []:=List.filter_eq_nil_iff.2 (fun x hx=>by rw[h x hx];simp)
theorem Jg9 {α:Type} {q:α→Bool} {l:List α} (h: ∀x∈l,q x=true):l.filter q=l:=List.filter_eq_self.2 h
theorem Xx0 {pre post:List XJ} {bu p:Int} (h1: ∀x∈pre,x.1<p) (h2: ∀x∈post,p≤x.1):Kp5 (pre++post) bu p=Y9 post bu:=by
 unfold Kp5
 rw[List.filter_append,Jn5 (fun x hx=>decide_eq_false (by have:=h1 x hx;omega)),Jg9 (fun x hx=>decide_eq_true (h2 x hx)),List.nil_append]
theorem Xx1 {pre post:List XJ} {se p:Int} (h1: ∀x∈pre,x.1≤p) (h2: ∀x∈post,p<x.1):Kp6 (pre++post) se p=Qn3 pre se:=by
 unfold Kp6
 rw[List.filter_append,Jn5 (l:=post) (fun x hx=>decide_eq_false (by have:=h2 x hx;omega)),Jg9 (l:=pre) (fun x hx=>decide_eq_true (h1 x hx)),List.append_nil]
structure Xx2 (lv:List XJ) (bu se more:Int) (pre:List XJ) (s:PtS):Prop where
 told:s.told=(decide (more<1) ||pre.any fun x=>decide (more≤x.1))
 out: ∀e∈s.out,e=ptI lv bu se e.1
 asc:(s.out.map (·.1)).Pairwise (· < ·)
 mem: ∀q,q∈s.out.map (·.1)↔(∃x∈pre,x.1=q)∨(1≤more∧s.told=true∧q=more)
 up:s.told=false→1≤more∧ ∀x∈pre,x.1<more
 below: ∀e∈s.out,∀x,(∀y∈pre,y.1<x)→more<x∨s.told=false∨more<1→e.1<x
theorem Kd3 {more:Int} {pre:List XJ} {t:Bool} (h:t=(decide (more<1) ||pre.any fun x=>decide (more≤x.1))) (ht:t=false):1≤more∧ ∀x∈pre,x.1<more:=by
 rw[ht]at h
 have h:=h.symm
 rw[Bool.or_eq_false_iff,decide_eq_false_iff_not,List.any_eq_false]at h
 refine⟨by omega,fun x hx=> ?_⟩
 have:=h.2 x hx
 simp at this
 exact this
theorem Kp7 (lv:List XJ) (bu se more:Int):Xx2 lv bu se more [] (ptS lv bu se more []):=by
 have h0:(ptS lv bu se more []).told=(decide (more<1) || ([]:List XJ).any fun x=>decide (more≤x.1)):=by show decide (more<1)=_;simp
 refine⟨h0,fun e he=>(by cases he),List.Pairwise.nil,fun q=> ?_,Kd3 h0,fun e he=>(by cases he)⟩
 constructor
 ·intro h;cases h
 ·rintro(⟨x,hx,-⟩|⟨h1,h2,-⟩)
  ·cases hx
  ·have h2:decide (more<1)=true:=h2
   rw[decide_eq_true_eq]at h2;omega
theorem Kp8 {pre post:List XJ} {bu se more:Int}:(ptS (pre++post) bu se more pre).d=Y9 post bu:=by
 rw[Ky2,Xp1,Qr3 post (Y9 pre bu),Qr3 pre bu,Qr3 post bu]
 omega
theorem Ki4 {pre post:List XJ} {x:XJ} {bu se more:Int} (hr:Qd9 (pre++x::post)) (h:Xx2 (pre++x::post) bu se more pre (ptS (pre++x::post) bu se more pre)):
  Xx2 (pre++x::post) bu se more (pre++ [x]) (ptS (pre++x::post) bu se more (pre++ [x])):=by
 obtain⟨r1,r2,-⟩:=Qh7 hr
 have hd:(ptS (pre++x::post) bu se more pre).d=Y9 (x::post) bu:=Kp8
 have hs:(ptS (pre++x::post) bu se more pre).s=Qn3 pre se:=Kp3 _ _ _ _ _
 rw[Xp0]
 generalize hst:ptS (pre++x::post) bu se more pre=st at h hd hs
 obtain⟨d,s,td,out⟩:=st
 dsimp only at hd hs
 obtain⟨a1,a2,a3,a4,a5,a6⟩:=h
 dsimp only at a1 a2 a3 a4 a5 a6
 have hpx:ptI (pre++x::post) bu se x.1=(x.1,d,s+x.2.2):=by
  unfold ptI;rw[Xx0 r1 (fun y hy=>by
   rcases List.mem_cons.1 hy with rfl|hy
   ·exact Int.le_refl _
   ·exact Int.le_of_lt (r2 y hy)),←hd]
  have e:pre++x::post=(pre++ [x])++post:=by simp
  rw[e,Xx1 (fun y hy=>by
   rcases List.mem_append.1 hy with hy|hy
   ·exact Int.le_of_lt (r1 y hy)
   ·rw[List.mem_singleton]at hy;subst hy;exact Int.le_refl _) r2,Ki3,←hs]
 have hpm:td=false→more<x.1→ptI (pre++x::post) bu se more=(more,d,s):=fun ht hm=>by
  obtain⟨b1,b2⟩:=a5 ht;unfold ptI;rw[Xx0 b2 (fun y hy=>by
   rcases List.mem_cons.1 hy with rfl|hy
   ·exact Int.le_of_lt hm
   ·have:=r2 y hy;omega),←hd,Xx1 (fun y hy=>Int.le_of_lt (b2 y hy)) (fun y hy=>by
   rcases List.mem_cons.1 hy with rfl|hy
   ·exact hm
   ·have:=r2 y hy;omega),←hs]
 have hto:(ptT more td x)=(decide (more<1) || (pre++ [x]).any fun x=>decide (more≤x.1)):=by
  unfold ptT;rw[a1,List.any_append];simp[Bool.or_assoc]
 have hbx: ∀e∈out,e.1<x.1∨(td=true∧1≤more∧x.1≤more):=fun e he=>by
  by_cases h1:more<x.1∨td=false∨more<1
  ·exact .inl (a6 e he x.1 r1 h1)
  ·refine .inr ⟨?_,by omega,by omega⟩
   cases td with
   |true=>rfl
   |false=>exact absurd (.inr (.inl rfl)) h1
 have hbx: ∀e∈out,e.1<x.1:=fun e he=>by
  rcases hbx e he with h1|⟨h1,h2,h3⟩
  ·exact h1
  ·rw[h1]at a1
   have a1:=a1.symm;rw[Bool.or_eq_true,decide_eq_true_eq,List.any_eq_true]at a1;rcases a1 with a1|⟨y,hy,hy2⟩
   ·omega
   ·rw[decide_eq_true_eq]at hy2
    have:=r1 y hy;omega
 unfold ptF ptO
 dsimp only
 have hmid: ∀out':List XJ,(∀e∈out',e=ptI (pre++x::post) bu se e.1)→(out'.map (·.1)).Pairwise (· < ·)→(∀e∈out',e.1<x.1)→
   (∀q,q∈out'.map (·.1)↔(∃y∈pre,y.1=q)∨(1≤more∧(td=true∨more<x.1)∧q=more))→
   Xx2 (pre++x::post) bu se more (pre++ [x]) ⟨d-x.2.1,s+x.2.2,ptT more td x,out'++ [(x.1,d,s+x.2.2)]⟩:=fun out' c1 c2 c3 c4=>by
  refine⟨hto,fun e he=> ?_, ?_,fun q=> ?_,Kd3 hto,fun e he z hz1 hz2=> ?_⟩
  ·rcases List.mem_append.1 he with he|he
   ·exact c1 e he
   ·rw[List.mem_singleton]at he
    subst he;exact hpx.symm
  ·dsimp only
   rw[List.map_append,List.pairwise_append];refine⟨c2,List.pairwise_singleton _ _,fun a ha b hb=> ?_⟩;obtain⟨e,he,rfl⟩:=List.mem_map.1 ha;simp at hb;subst hb;exact c3 e he
  ·dsimp only
   rw[List.map_append,List.mem_append,c4];have ht:ptT more td x=true↔(td=true∨more≤x.1):=by unfold ptT;simp
   rw[ht];constructor
   ·rintro((⟨y,hy,rfl⟩|⟨h1,h2,h3⟩)|h)
    ·exact .inl ⟨y,by simp[hy],rfl⟩
    ·refine .inr ⟨h1, ?_,h3⟩
     rcases h2 with h2|h2
     ·exact .inl h2
     ·exact .inr (by omega)
    ·simp at h
     exact .inl ⟨x,by simp,h.symm⟩
   ·rintro(⟨y,hy,rfl⟩|⟨h1,h2,h3⟩)
    ·rcases List.mem_append.1 hy with hy|hy
     ·exact .inl (.inl ⟨y,hy,rfl⟩)
     ·rw[List.mem_singleton]at hy
      subst hy;exact .inr (by simp)
    ·rcases h2 with h2|h2
     ·exact .inl (.inr ⟨h1,.inl h2,h3⟩)
     ·by_cases e:more=x.1
      ·exact .inr (by simp;omega)
      ·exact .inl (.inr ⟨h1,.inr (by omega),h3⟩)
  ·have hxz:x.1<z:=hz1 x (by simp)
   rcases List.mem_append.1 he with he|he
   ·have:=c3 e he;omega
   ·rw[List.mem_singleton]at he
    subst he;exact hxz
 by_cases hc:td=false∧more<x.1
 ·rw[if_pos hc]
  obtain⟨ht,hm⟩:=hc;obtain⟨b1,b2⟩:=a5 ht;refine hmid _ (fun e he=> ?_) ?_ (fun e he=> ?_) (fun q=> ?_)
  ·rcases List.mem_append.1 he with he|he
   ·exact a2 e he
   ·rw[List.mem_singleton]at he
    subst he;exact(hpm ht hm).symm
  ·rw[List.map_append,List.pairwise_append]
   refine⟨a3,List.pairwise_singleton _ _,fun a ha b hb=> ?_⟩;obtain⟨e,he,rfl⟩:=List.mem_map.1 ha;simp at hb;rw[hb];exact a6 e he more b2 (.inr (.inl ht))
  ·rcases List.mem_append.1 he with he|he
   ·exact hbx e he
   ·rw[List.mem_singleton]at he
    subst he;exact hm
  ·rw[List.map_append,List.mem_append,a4]
   constructor
   ·rintro((h|⟨h1,h2,h3⟩)|h)
    ·exact .inl h
    ·exact .inr ⟨h1,.inl h2,h3⟩
    ·simp at h
     exact .inr ⟨b1,.inr hm,h⟩
   ·rintro(h|⟨h1,h2,h3⟩)
    ·exact .inl (.inl h)
    ·exact .inr (by simp[h3])
 ·rw[if_neg hc]
  refine hmid _ a2 a3 hbx (fun q=> ?_);rw[a4];constructor
  ·rintro(h|⟨h1,h2,h3⟩)
   ·exact .inl h
   ·exact .inr ⟨h1,.inl h2,h3⟩
  ·rintro(h|⟨h1,h2,h3⟩)
   ·exact .inl h
   ·refine .inr ⟨h1, ?_,h3⟩
    rcases h2 with h2|h2
    ·exact h2
    ·cases td with
     |true=>rfl
     |false=>exact absurd ⟨rfl,h2⟩ hc
theorem Kp9 {lv:List XJ} {bu se more:Int} (hr:Qd9 lv): ∀k,k≤lv.length→Xx2 lv bu se more (lv.take k) (ptS lv bu se more (lv.take k)):=by
 intro k
 induction k with
 |zero=>intro _;exact Kp7 lv bu se more
 |succ k ih=>
  intro hk;have h1:=ih (by omega);have e:lv=lv.take k++lv[k]::lv.drop (k+1):=by rw[←List.drop_eq_getElem_cons (by omega),List.take_append_drop]
  have e2:lv.take (k+1)=lv.take k++ [lv[k]]:=List.take_succ_eq_append_getElem (by omega);have key: ∀L:List XJ,L=lv.take k++lv[k]::lv.drop (k+1)→Qd9 L→Xx2 L bu se more (lv.take k) (ptS L bu se more (lv.take k))→Xx2 L bu se more (lv.take k++ [lv[k]]) (ptS L bu se more (lv.take k++ [lv[k]])):=by
   rintro L rfl h2 h3;exact Ki4 h2 h3
  rw[e2];exact key lv e hr h1
theorem Xh3 {lv:List XJ} {bu se more:Int} (hr:Qd9 lv):
  (∀e∈J2 lv bu se more,e=ptI lv bu se e.1)∧((J2 lv bu se more).map (·.1)).Pairwise (· < ·)∧ ∀q,q∈(J2 lv bu se more).map (·.1)↔(∃x∈lv,x.1=q)∨(1≤more∧q=more):=by
 have h:=Kp9 (bu:=bu) (se:=se) (more:=more) hr lv.length (Nat.le_refl _)
 rw[List.take_length]at h
 have hd:(ptS lv bu se more lv).d=bu:=by
  have h2:=Kp8 (pre:=lv) (post:= []) (bu:=bu) (se:=se) (more:=more);rw[List.append_nil]at h2;rw[h2];rfl
 have hs:(ptS lv bu se more lv).s=Qn3 lv se:=Kp3 _ _ _ _ _
 unfold J2
 dsimp only
 generalize hst:ptS lv bu se more lv=st at h hd hs
 obtain⟨d,s,td,out⟩:=st
 dsimp only at hd hs
 obtain⟨a1,a2,a3,a4,a5,a6⟩:=h
 dsimp only at a1 a2 a3 a4 a5 a6⊢
 cases td with
 |true=>
  rw[if_neg (by simp)];refine⟨a2,a3,fun q=> ?_⟩;rw[a4];constructor
  ·rintro(h|⟨h1,-,h3⟩)
   ·exact .inl h
   ·exact .inr ⟨h1,h3⟩
  ·rintro(h|⟨h1,h3⟩)
   ·exact .inl h
   ·exact .inr ⟨h1,rfl,h3⟩
 |false=>
  rw[if_pos rfl];obtain⟨b1,b2⟩:=a5 rfl;have hp:ptI lv bu se more=(more,d,s):=by
   have e:lv=lv++ []:=by simp
   unfold ptI;rw[e,Xx0 b2 (fun y hy=>by cases hy),Xx1 (fun y hy=>Int.le_of_lt (b2 y hy)) (fun y hy=>by cases hy),hd,hs]
   rfl
  refine⟨fun e he=> ?_, ?_,fun q=> ?_⟩
  ·rcases List.mem_append.1 he with he|he
   ·exact a2 e he
   ·rw[List.mem_singleton]at he
    subst he;exact hp.symm
  ·rw[List.map_append,List.pairwise_append]
   refine⟨a3,List.pairwise_singleton _ _,fun a ha b hb=> ?_⟩;obtain⟨e,he,rfl⟩:=List.mem_map.1 ha;simp at hb;rw[hb];exact a6 e he more b2 (.inr (.inl rfl))
  ·rw[List.map_append,List.mem_append,a4]
   constructor
   ·rintro((h|⟨h1,h2,h3⟩)|h)
    ·exact .inl h
    ·cases h2
    ·simp at h;exact .inr ⟨b1,h⟩
   ·rintro(h|⟨h1,h3⟩)
    ·exact .inl (.inl h)
    ·exact .inr (by simp[h3])
def Kq0 (f:XJ→Option Int) (x:XJ) (v:Option Int):XJ→Option Int:=fun y=>if y=x then v else f y
def Qv1 (o:QX):XJ:=(o.side,o.kind,o.price)
def Qk0 (x:XJ) (l:List QX):Int:=(l.map fun o=>if Qv1 o=x then o.qty else 0).sum
theorem Jn6 {x:XJ} {l:List QX} (h:Jb4 l):0≤Qk0 x l:=by
 induction l with
 |nil=>exact Int.le_refl 0
 |cons o t ih=>
  have h1:=ih (fun y hy=>h y (by simp[hy]));have h2:=Qz9 (h o (by simp));unfold Qk0 at*;rw[List.map_cons,List.sum_cons]
  split<;>omega
theorem Kq1 {l:List QX} (h:Jb4 l) {o:QX} (ho:o∈l):1≤Qk0 (Qv1 o) l:=by
 induction l with
 |nil=>cases ho
 |cons y t ih=>
  have h0:Jb4 t:=fun z hz=>h z (by simp[hz])
  have h1:=Qz9 (h y (by simp));have h2:=Jn6 (x:=Qv1 o) h0;rcases List.mem_cons.1 ho with rfl|ho
  ·unfold Qk0 at*
   rw[List.map_cons,List.sum_cons,if_pos rfl];omega
  ·have h3:=ih h0 ho
   unfold Qk0 at*;rw[List.map_cons,List.sum_cons]
   split<;>omega
theorem Xb3 {x:XJ} {l:List QX} (h:Qk0 x l≠0): ∃o∈l,Qv1 o=x:=by
 induction l with
 |nil=>exact absurd rfl h
 |cons y t ih=>
  by_cases e:Qv1 y=x
  ·exact⟨y,by simp,e⟩
  ·obtain⟨o,h1,h2⟩:=ih (fun h0=>h (by unfold Qk0 at*;rw[List.map_cons,List.sum_cons,if_neg e,h0];rfl))
   exact⟨o,by simp[h1],h2⟩
theorem Kw0 (g:XJ→Int) (x:XJ) (q:Int): ∀K:List XJ,K.Nodup→(K.map fun y=>g y* (if x=y then q else 0)).sum=if x∈K then g x*q else 0:=by
 intro K
 induction K with
 |nil=>intro _;simp
 |cons y t ih=>
  intro h;obtain⟨h1,h2⟩:=List.nodup_cons.1 h;rw[List.map_cons,List.sum_cons,ih h2]
  by_cases e:x=y
  ·subst e
   rw[if_pos rfl,if_neg h1,if_pos (by simp)];omega
  ·rw[if_neg e]
   by_cases e2:x∈t
   ·rw[if_pos e2,if_pos (by simp[e2])]
    omega
   ·rw[if_neg e2,if_neg (by simp[e,e2])]
    omega
theorem Kw1 (F G:XJ→Int) (K:List XJ):(K.map fun y=>F y+G y).sum=(K.map F).sum+ (K.map G).sum:=by
 induction K with
 |nil=>rfl
 |cons y t ih=>rw[List.map_cons,List.map_cons,List.map_cons,List.sum_cons,List.sum_cons,List.sum_cons,ih];omega
theorem Xp2 (g:XJ→Int) (K:List XJ) (hK:K.Nodup): ∀l:List QX,(∀o∈l,Qv1 o∈K)→(l.map fun o=>g (Qv1 o)*o.qty).sum=(K.map fun x=>g x*Qk0 x l).sum:=by
 intro l
 induction l with
 |nil=>
  intro _;have e: ∀K:List XJ,(K.map fun x=>g x*Qk0 x []).sum=0:=by
   intro K
   induction K with
   |nil=>rfl
   |cons y t ih=>
    rw[List.map_cons,List.sum_cons,ih];unfold Qk0;simp
  rw[e];rfl
 |cons o t ih=>
  intro h;rw[List.map_cons,List.sum_cons,ih (fun y hy=>h y (by simp[hy]))];have e:(fun x=>g x*Qk0 x (o::t))=fun x=>g x* (if Qv1 o=x then o.qty else 0)+g x*Qk0 x t:=by
   funext x
   unfold Qk0;rw[List.map_cons,List.sum_cons,Int.mul_add]
  rw[e,Kw1,Kw0 g (Qv1 o) o.qty K hK,if_pos (h o (by simp))]
theorem Xb4 (F:QX→Int) (l:List QX): ∀s:Int,l.foldl (fun s o=>s+F o) s=s+ (l.map F).sum:=by
 induction l with
 |nil=>intro s;simp
 |cons o t ih=>intro s;rw[List.foldl_cons,ih,List.map_cons,List.sum_cons];omega
def gD (p:Int) (x:XJ):Int:=if x.1=1∧(x.2.1=2∨p≤x.2.2)then 1 else 0
def gS (p:Int) (x:XJ):Int:=if x.1=2∧(x.2.1=2∨x.2.2≤p)then 1 else 0
theorem Kq2 (p:Int) (l:List QX):Qo7 p l=(l.map fun o=>gD p (Qv1 o)*o.qty).sum:=by
 unfold Qo7
 rw[Xb4,Int.zero_add]
 congr 1
 refine List.map_congr_left fun o _=> ?_
 unfold Jc6 gD Qv1
 dsimp only
 split<;>simp
theorem Kq3 (p:Int) (l:List QX):Qo8 p l=(l.map fun o=>gS p (Qv1 o)*o.qty).sum:=by
 unfold Qo8
 rw[Xb4,Int.zero_add]
 congr 1
 refine List.map_congr_left fun o _=> ?_
 unfold Jc7 gS Qv1
 dsimp only
 split<;>simp
structure Qp5 (lv:List XJ) (bu se:Int) (f:XJ→Option Int):Prop where
 b:(f (1,2,0)).getD 0=bu
 s:(f (2,2,0)).getD 0=se
 lb: ∀p,(f (1,0,p)).getD 0=(YW lv p).1
 ls: ∀p,(f (2,0,p)).getD 0=(YW lv p).2
 pos: ∀x v,f x=some v→1≤v∧(x=(1,2,0)∨x=(2,2,0)∨ ∃p,1≤p∧p≤1000000∧(x=(1,0,p)∨x=(2,0,p)))
structure Xb5 (f:XJ→Option Int) (l:List QX):Prop where
 ok:Jb4 l
 sum: ∀x,Qk0 x l=(f x).getD 0
theorem Ql2 {lv:List XJ} (h:Qd9 lv) {y:XJ} (hy:y∈lv):YW lv y.1=y.2:=by
 obtain⟨k,hk,rfl⟩:=List.mem_iff_getElem.1 hy
 have e:lv=lv.take k++lv[k]::lv.drop (k+1):=by rw[←List.drop_eq_getElem_cons hk,List.take_append_drop]
 have key: ∀L:List XJ,L=lv.take k++lv[k]::lv.drop (k+1)→Qd9 L→YW L lv[k].1=lv[k].2:=by
  rintro L rfl h2;exact Jt9 h2
 exact key lv e h
theorem Xb6 {lv:List XJ} {p:Int} (h:YW lv p≠(0,0)): ∃y∈lv,y.1=p:=by
 rcases Classical.em (∃y∈lv,y.1=p)with h1|h1
 ·exact h1
 ·exact absurd (Jg8 fun x hx e=>h1 ⟨x,hx,e⟩) h
def Qt5 (lv:List XJ):List XJ:= [((1,2,0):XJ),(2,2,0)]++(lv.map (fun y=>((1,0,y.1):XJ))++lv.map (fun y=>((2,0,y.1):XJ)))
theorem Ju3 {lv:List XJ} (h:Qd9 lv):(Qt5 lv).Nodup:=by
 have hn: ∀s:Int,(lv.map (fun y=>((s,0,y.1):XJ))).Nodup:=fun s=>by
  rw[List.Nodup,List.pairwise_map];refine h.imp fun {a b} hab e=> ?_
  injection e with _ e
  injection e with _ e
  omega
 unfold Qt5
 refine List.nodup_append.2 ⟨by simp,List.nodup_append.2 ⟨hn 1,hn 2, ?_⟩, ?_⟩
 ·intro a ha b hb e
  obtain⟨y,-,rfl⟩:=List.mem_map.1 ha;obtain⟨z,-,rfl⟩:=List.mem_map.1 hb;injection e with e _
  omega
 ·intro a ha b hb e
  subst e;rcases List.mem_append.1 hb with hb|hb
  all_goals
   obtain⟨y,-,rfl⟩:=List.mem_map.1 hb;simp at ha
section
variable {lv:List XJ} {bu se more:Int} {f:XJ→Option Int} {l:List QX}
theorem Jd6 (hr:Qp5 lv bu se f) (hm:Xb5 f l): ∀o∈l,Qv1 o∈Qt5 lv:=by
 intro o ho
 have h1:=Kq1 hm.ok ho
 rw[hm.sum]at h1
 cases hf:f (Qv1 o)with
 |none=>rw[hf]at h1;simp at h1
 |some v=>
  obtain⟨h2,h3⟩:=hr.pos _ _ hf;unfold Qt5;rcases h3 with h3|h3|⟨p,-,-,h3|h3⟩
  ·rw[h3];simp
  ·rw[h3];simp
  ·have h4:=hr.lb p
   rw[←h3,hf]at h4;obtain⟨y,hy,hyp⟩:=Xb6 (lv:=lv) (p:=p) (fun e=>by rw[e]at h4;simp at h4;omega);rw[h3];refine List.mem_append.2 (.inr (List.mem_append.2 (.inl (List.mem_map.2 ⟨y,hy,by rw[hyp]⟩))))
  ·have h4:=hr.ls p
   rw[←h3,hf]at h4;obtain⟨y,hy,hyp⟩:=Xb6 (lv:=lv) (p:=p) (fun e=>by rw[e]at h4;simp at h4;omega);rw[h3];refine List.mem_append.2 (.inr (List.mem_append.2 (.inr (List.mem_map.2 ⟨y,hy,by rw[hyp]⟩))))
theorem Ki5 (q:XJ→Bool): ∀L:List XJ,Y9 (L.filter q) 0=(L.map fun y=>if q y=true then y.2.1 else 0).sum:=by
 intro L
 induction L with
 |nil=>rfl
 |cons y t ih=>
  rw[List.map_cons,List.sum_cons,←ih]
  by_cases e:q y=true
  ·rw[List.filter_cons_of_pos e,if_pos e]
   have h:=Qr3 (t.filter q) (0+y.2.1);have h2:Y9 (y::t.filter q) 0=Y9 (t.filter q) (0+y.2.1):=rfl;rw[h2,h];omega
  ·rw[List.filter_cons_of_neg e,if_neg e];omega
theorem Ki6 (q:XJ→Bool): ∀L:List XJ,Qn3 (L.filter q) 0=(L.map fun y=>if q y=true then y.2.2 else 0).sum:=by
 intro L
 induction L with
 |nil=>rfl
 |cons y t ih=>
  rw[List.map_cons,List.sum_cons,←ih]
  by_cases e:q y=true
  ·rw[List.filter_cons_of_pos e,if_pos e]
   have h:=Xb2 (t.filter q) (0+y.2.2);have h2:Qn3 (y::t.filter q) 0=Qn3 (t.filter q) (0+y.2.2):=rfl;rw[h2,h];omega
  ·rw[List.filter_cons_of_neg e,if_neg e];omega
theorem Xp3 {α:Type} (F:α→Int) (K:List α) (h: ∀x∈K,F x=0):(K.map F).sum=0:=by
 induction K with
 |nil=>rfl
 |cons y t ih=>rw[List.map_cons,List.sum_cons,ih (fun x hx=>h x (by simp[hx])),h y (by simp)];rfl
theorem Kq4 (hk:Jb2 lv) (hr:Qp5 lv bu se f) (hm:Xb5 f l) (p:Int):Qo7 p l=Kp5 lv bu p:=by
 rw[Kq2,Xp2 (gD p) (Qt5 lv) (Ju3 hk.rank) l (Jd6 hr hm)]
 unfold Qt5 Kp5
 rw[Qr3,Ki5,List.map_append,List.sum_append,List.map_append,List.sum_append,List.map_map,List.map_map]
 rw[Xp3 ((fun x=>gD p x*Qk0 x l)∘fun y=>((2,0,y.1):XJ)) lv (fun y _=>by simp[gD])]
 have e1:([((1,2,0):XJ),(2,2,0)].map fun x=>gD p x*Qk0 x l).sum=bu:=by
  have h1:=hm.sum (1,2,0);rw[hr.b]at h1;simp[gD,h1]
 rw[e1,Int.add_zero]
 congr 2
 refine List.map_congr_left fun y hy=> ?_
 show gD p (1,0,y.1)*Qk0 (1,0,y.1) l=_
 rw[hm.sum,hr.lb,Ql2 hk.rank hy]
 by_cases e:p≤y.1
 ·rw[if_pos (decide_eq_true e)];simp[gD,e]
 ·rw[if_neg (by simp;omega)];simp[gD,e]
theorem Kq5 (hk:Jb2 lv) (hr:Qp5 lv bu se f) (hm:Xb5 f l) (p:Int):Qo8 p l=Kp6 lv se p:=by
 rw[Kq3,Xp2 (gS p) (Qt5 lv) (Ju3 hk.rank) l (Jd6 hr hm)]
 unfold Qt5 Kp6
 rw[Xb2,Ki6,List.map_append,List.sum_append,List.map_append,List.sum_append,List.map_map,List.map_map]
 rw[Xp3 ((fun x=>gS p x*Qk0 x l)∘fun y=>((1,0,y.1):XJ)) lv (fun y _=>by simp[gS])]
 have e1:([((1,2,0):XJ),(2,2,0)].map fun x=>gS p x*Qk0 x l).sum=se:=by
  have h1:=hm.sum (2,2,0);rw[hr.s]at h1;simp[gS,h1]
 rw[e1,Int.zero_add]
 congr 2
 refine List.map_congr_left fun y hy=> ?_
 show gS p (2,0,y.1)*Qk0 (2,0,y.1) l=_
 rw[hm.sum,hr.ls,Ql2 hk.rank hy]
 by_cases e:y.1≤p
 ·rw[if_pos (decide_eq_true e)];simp[gS,e]
 ·rw[if_neg (by simp;omega)];simp[gS,e]
theorem Xx3 (hk:Jb2 lv) (hr:Qp5 lv bu se f) (hm:Xb5 f l) (q:Int):q∈U0 l more↔(∃x∈lv,x.1=q)∨(1≤more∧q=more):=by
 unfold U0
 rw[Qq1 hm.ok,List.mem_append]
 constructor
 ·rintro(h|h)
  ·split at h
   ·rename_i h1
    rw[List.mem_singleton]at h;exact .inr ⟨h1,h⟩
   ·cases h
  ·obtain⟨o,ho,rfl⟩:=List.mem_map.1 h
   obtain⟨ho,hk2⟩:=List.mem_filter.1 ho;have h1:=Jd6 hr hm o ho;unfold Qt5 Qv1 at h1;simp at hk2;simp at h1;rcases h1 with h1|h1|⟨y,h1,h2,h3,h4⟩|⟨y,h1,h2,h3,h4⟩
   ·exact absurd h1.2.1 hk2
   ·exact absurd h1.2.1 hk2
   all_goals
    obtain⟨a,b,hm2⟩:=h1;exact .inl ⟨(y,a,b),hm2,h4⟩
 ·rintro(⟨x,hx,rfl⟩|⟨h1,rfl⟩)
  ·refine .inr ?_
   have h1:=hk.nz x hx;have hx1: ∀s:Int,(s=1∨s=2)→Qk0 (s,0,x.1) l≠0→x.1∈((l.filter fun o=> !(o.kind ==2)).map (·.price)):=fun s hs h2=>by
    obtain⟨o,ho,hko⟩:=Xb3 h2;unfold Qv1 at hko;injection hko with e1 hko
    injection hko with e2 e3
    exact List.mem_map.2 ⟨o,List.mem_filter.2 ⟨ho,by rw[e2];rfl⟩,e3⟩
   rcases h1.2.2 with h2|h2
   ·exact hx1 1 (.inl rfl) (by rw[hm.sum,hr.lb,Ql2 hk.rank hx];exact h2)
   ·exact hx1 2 (.inr rfl) (by rw[hm.sum,hr.ls,Ql2 hk.rank hx];exact h2)
  ·exact .inl (by rw[if_pos h1];simp)
theorem Xp4 (hk:Jb2 lv) (hr:Qp5 lv bu se f) (hm:Xb5 f l):V0 l more=J2 lv bu se more:=by
 obtain⟨h1,h2,h3⟩:=Xh3 (bu:=bu) (se:=se) (more:=more) hk.rank
 have hnd:((J2 lv bu se more).map (·.1)).Nodup:=h2.imp (fun h=>by omega)
 have tr: ∀a b c:Int,(decide (a≤b))=true→(decide (b≤c))=true→(decide (a≤c))=true:=fun a b c h1 h2=>by simp at*;omega
 have tot: ∀a b:Int,(decide (a≤b) ||decide (b≤a))=true:=fun a b=>by simp;omega
 have hdd:dd ((U0 l more).mergeSort fun x y=>decide (x≤y))=(J2 lv bu se more).map (·.1):=by
  rw[Ke8 (U0 l more) ((J2 lv bu se more).map (·.1)) hnd (fun x=>(h3 x).trans (Xx3 hk hr hm x).symm)];refine List.Perm.eq_of_pairwise (le:=fun a b=>a≤b) (fun a b _ _ h1 h2=>by omega) ((List.pairwise_mergeSort tr tot _).imp (fun h=>by simpa using h)) (h2.imp (fun h=>by omega)) (List.mergeSort_perm _ _)
 unfold V0
 rw[hdd,Qq1 hm.ok,List.map_map]
 refine Eq.trans (List.map_congr_left fun e he=> ?_) (List.map_id _)
 show Qz8 l e.1=e
 rw[h1 e he]
 unfold Qz8 ptI
 dsimp only
 rw[Kq4 hk hr hm,Kq5 hk hr hm]
def Qx4 (o:QX):XJ:=if o.kind=2 then(o.side,2,0)else(o.side,0,o.price)
def nzO (v:Int):Option Int:=if v=0 then none else some v
theorem Ju4 (v:Int):(nzO v).getD 0=v:=by unfold nzO;split<;>simp_all
theorem Qp5.has (h:Qp5 lv bu se f) {o:QX} (ho:o.side=1∨o.side=2):(f (Qx4 o)).getD 0=Qx2 lv bu se o:=by
 unfold Qx4 Qx2 Qa1
 by_cases hk:o.kind=2
 ·rw[if_pos hk,if_pos hk]
  rcases ho with hs|hs
  ·rw[hs,if_pos rfl];exact h.b
  ·rw[hs,if_neg (by decide)];exact h.s
 ·rw[if_neg hk,if_neg hk]
  rcases ho with hs|hs
  ·rw[hs,if_pos rfl];exact h.lb _
  ·rw[hs,if_neg (by decide)];exact h.ls _
def Qx5 (s:Int):Option Int→XJ
 |none=>(s,2,0)
 |some p=>(s,0,p)
def Jk4 (s:Int) (x:Int×Int):Int:=if s=1 then x.1 else x.2
theorem Xb7 {s s':Int} {k k':Option Int} (h:Qx5 s k=Qx5 s' k'):s=s'∧k=k':=by
 cases k<;>cases k'
 all_goals
  injection h with h1 h2
  injection h2 with h2 h3
 ·exact⟨h1,rfl⟩
 ·omega
 ·omega
 ·exact⟨h1,by rw[h3]⟩
theorem Jd7 (o:QX):Qx4 o=Qx5 o.side (Qa1 o):=by
 unfold Qx4 Qa1
 split<;>rfl
theorem Qp5.at_ (h:Qp5 lv bu se f) (s:Int) (hs:s=1∨s=2) (k:Option Int):(f (Qx5 s k)).getD 0=Jk4 s (Qo5 lv bu se k):=by
 rcases hs with rfl|rfl<;>cases k
 ·exact h.b
 ·exact h.lb _
 ·exact h.s
 ·exact h.ls _
theorem Qp5.of (h: ∀s,(s=1∨s=2)→ ∀k,(f (Qx5 s k)).getD 0=Jk4 s (Qo5 lv bu se k)) (hp: ∀x v,f x=some v→1≤v∧(x=(1,2,0)∨x=(2,2,0)∨ ∃p,1≤p∧p≤1000000∧(x=(1,0,p)∨x=(2,0,p)))):Qp5 lv bu se f:=
 ⟨h 1 (.inl rfl) none,h 2 (.inr rfl) none,fun p=>h 1 (.inl rfl) (some p),fun p=>h 2 (.inr rfl) (some p),hp⟩
theorem Qp5.turn (h:Qp5 lv bu se f) {o:QX} (ho:Qb9 o) {q:Int} (hq:q=1∨q= -1) (hp:q= -1→o.qty≤Qx2 lv bu se o) {lv':List XJ} {bu' se':Int} (hc:Ja7 lv bu se o q lv' bu' se') (h0:0≤Qx2 lv bu se o):
  Qp5 lv' bu' se' (Kq0 f (Qx4 o) (nzO (Qx2 lv bu se o+q*o.qty))):=by
 have hhas:Qx2 lv bu se o=Jk4 o.side (Qo5 lv bu se (Qa1 o)):=rfl
 refine Qp5.of (fun s hs k=> ?_) (fun x v hx=> ?_)
 ·rw[hc.2 k]
  unfold Kq0
  by_cases e:Qx5 s k=Qx4 o
  ·rw[if_pos e,Ju4]
   rw[Jd7]at e;obtain⟨e1,e2⟩:=Xb7 e;rw[if_pos e2,hhas,e1,e2];unfold Jk4 dB dS
   by_cases h1:o.side=1
   ·simp only[if_pos h1]
   ·simp only[if_neg h1]
  ·rw[if_neg e,h.at_ s hs k]
   by_cases e2:k=Qa1 o
   ·rw[if_pos e2]
    have hne:s≠o.side:=fun e1=>e (by rw[Jd7,e1,e2])
    unfold Jk4 dB dS;rcases ho.1 with h1|h1<;>rcases hs with rfl|rfl
    ·exact absurd h1.symm hne
    ·simp[h1]
    ·simp[h1]
    ·exact absurd h1.symm hne
   ·rw[if_neg e2]
 ·unfold Kq0 at hx
  by_cases e:x=Qx4 o
  ·rw[if_pos e]at hx
   unfold nzO at hx
   split at hx
   ·cases hx
   ·rename_i hz
    cases hx;have hq2:=ho.2.1;refine⟨by rcases hq with rfl|rfl<;>omega, ?_⟩;rw[e];unfold Qx4
    by_cases hk:o.kind=2
    ·rw[if_pos hk]
     rcases ho.1 with h1|h1<;>simp[h1]
    ·rw[if_neg hk]
     have h3:=ho.2.2.resolve_left hk;refine .inr (.inr ⟨o.price,h3.1,h3.2, ?_⟩);rcases ho.1 with h1|h1<;>simp[h1]
  ·rw[if_neg e]at hx
   exact h.pos x v hx
def Xb8 (h:List XJ) (f:XJ→Option Int):Prop:= ∀x v,f x=some v→v≤1000000*h.count x
theorem Xb8.add {h:List XJ} (hh:Xb8 h f) (x:XJ) {q v:Int} (hq:q≤1000000) (hv:v≤(f x).getD 0+q) (h0:0≤(f x).getD 0):Xb8 (x::h) (Kq0 f x (nzO v)):=by
 intro y u hu
 unfold Kq0 at hu
 by_cases e:y=x
 ·subst e
  rw[if_pos rfl]at hu;unfold nzO at hu
  split at hu
  ·cases hu
  ·cases hu
   rw[List.count_cons_self]
   cases hf:f y with
   |none=>rw[hf]at hv;simp at hv;omega
   |some a=>have:=hh y a hf;rw[hf]at hv;simp at hv;omega
 ·rw[if_neg e]at hu
  have h1:=hh y u hu;have h2:=List.count_le_count_cons (a:=y) (b:=x) (l:=h);omega
theorem Xb8.bound {h:List XJ} (hh:Xb8 h f) (x:XJ) (hl:h.length≤100):(f x).getD 0≤100000000:=by
 cases hf:f x with
 |none=>simp
 |some v=>
  have h1:=hh x v hf;have h2:=List.count_le_length (a:=x) (l:=h);simp;omega
theorem Qp5.nonneg (h:Qp5 lv bu se f) (x:XJ):0≤(f x).getD 0:=by
 cases hf:f x with
 |none=>simp
 |some v=>have:=(h.pos x v hf).1;simp;omega
theorem Qp5.mild (h:Qp5 lv bu se f) (hk:Jb2 lv) {hs:List XJ} (hh:Xb8 hs f) (hl:hs.length≤100) (hn:lv.length≤100):Jd5 lv bu se:=by
 refine⟨?_, ?_,fun x hx=> ?_,fun x hx=> ?_,by omega⟩
 ·have h1:=h.nonneg (1,2,0)
  have h2:=hh.bound (1,2,0) hl;rw[h.b]at h1 h2;omega
 ·have h1:=h.nonneg (2,2,0)
  have h2:=hh.bound (2,2,0) hl;rw[h.s]at h1 h2;omega
 ·have h1:=h.nonneg (1,0,x.1)
  have h2:=hh.bound (1,0,x.1) hl;rw[h.lb,Ql2 hk.rank hx]at h1 h2;omega
 ·have h1:=h.nonneg (2,0,x.1)
  have h2:=hh.bound (2,0,x.1) hl;rw[h.ls,Ql2 hk.rank hx]at h1 h2;omega
theorem Jd5.small (h:Jd5 lv bu se):Jb9 lv bu se:=
 ⟨⟨h.b.1,by have:=h.b.2;omega⟩,⟨h.s.1,by have:=h.s.2;omega⟩,fun x hx=>⟨by have:=(h.lb x hx).2;omega,by have:=(h.ls x hx).2;omega⟩,h.n⟩
theorem Kq6 {l:List QX} (hl:l.length≤100) (hp: ∀o∈l,o.kind≠2→1≤o.price∧o.price≤1000000) (hm:more≤1000000): ∀y∈V0 l more,-1099511627776≤y.1∧y.1≤1099511627776∧0≤y.2.1∧y.2.1≤100000000∧0≤y.2.2∧y.2.2≤100000000:=by
 intro y hy
 obtain⟨q,hq,rfl⟩:=List.mem_map.1 hy
 have hq2:1≤q∧q≤1000000:=by
  have hq:=(Xt5 _ _).1 hq;unfold U0 at hq;rcases List.mem_append.1 hq with hq|hq
  ·split at hq
   ·simp at hq;omega
   ·cases hq
  ·obtain⟨o,ho,rfl⟩:=List.mem_map.1 hq
   obtain⟨h1,h2⟩:=List.mem_filter.1 ho;simp at h2;exact hp o (List.mem_filter.1 h1).1 h2
 have h1:=Xt2 (p:=q) (Xj4 (l:=l))
 have h2:=Xt3 (p:=q) (Xj4 (l:=l))
 have h3:(Qn5 l).length≤l.length:=List.length_filter_le okO l
 have h4:((Qn5 l).length:Int)≤100:=by omega
 unfold Qz8
 dsimp only
 omega
end
theorem Kq7 {l l':List Int} (h:l.Perm l'):l.sum=l'.sum:=by
 induction h with
 |nil=>rfl
 |cons x _ ih=>rw[List.sum_cons,List.sum_cons,ih]
 |swap x y l=>simp only[List.sum_cons];omega
 |trans _ _ h1 h2=>exact h1.trans h2
def Q2 (s:Int) (k:Option Int) (l:List QX):Int:=(l.map fun o=>if o.side=s∧Qa1 o=k then o.qty else 0).sum
theorem Qc7 (s:Int) (k:Option Int) (o:QX) (l:List QX):Q2 s k (o::l)=(if o.side=s∧Qa1 o=k then o.qty else 0)+Q2 s k l:=by unfold Q2;rw[List.map_cons,List.sum_cons]
theorem Y2 (s:Int) (k:Option Int) (l l':List QX):Q2 s k (l++l')=Q2 s k l+Q2 s k l':=by unfold Q2;rw[List.map_append,List.sum_append]
theorem Xb9 {s:Int} {k:Option Int} {l l':List QX} (h:l.Perm l'):Q2 s k l=Q2 s k l':=Kq7 (h.map _)
theorem Qh9 {s:Int} {k:Option Int} {l:List QX} (h: ∀o∈l,Qb9 o):0≤Q2 s k l∧Q2 s k l≤1000000*l.length:=by
 induction l with
 |nil=>exact⟨Int.le_refl _,Int.le_refl _⟩
 |cons o t ih=>
  rw[Qc7,List.length_cons];have h1:=ih (fun x hx=>h x (by simp[hx]));have h2:=(h o (by simp)).2.1
  split<;>omega
theorem Kq8 {s:Int} {k:Option Int} {l:List QX} (h:Q2 s k l≠0): ∃o∈l,o.side=s∧Qa1 o=k:=by
 induction l with
 |nil=>exact absurd rfl h
 |cons o t ih=>
  rw[Qc7]at h
  by_cases e:o.side=s∧Qa1 o=k
  ·exact⟨o,by simp,e⟩
  ·rw[if_neg e]at h
   obtain⟨x,hx,hx2⟩:=ih (by omega);exact⟨x,by simp[hx],hx2⟩
theorem Kq9 {l:List QX} (h: ∀o∈l,Qb9 o) {o:QX} (ho:o∈l):o.qty≤Q2 o.side (Qa1 o) l:=by
 obtain⟨a,b,rfl⟩:=List.append_of_mem ho
 rw[Y2,Qc7,if_pos ⟨rfl,rfl⟩]
 have h1:=Qh9 (s:=o.side) (k:=Qa1 o) (l:=a) (fun x hx=>h x (by simp[hx]))
 have h2:=Qh9 (s:=o.side) (k:=Qa1 o) (l:=b) (fun x hx=>h x (by simp[hx]))
 omega
def Qe1 (lv:List XJ) (bu se:Int) (g:Int→Option Int→Int):Prop:= ∀s,(s=1∨s=2)→ ∀k,Jk4 s (Qo5 lv bu se k)=g s k
theorem Qe1.has {lv:List XJ} {bu se:Int} {g:Int→Option Int→Int} (h:Qe1 lv bu se g) {o:QX} (ho:o.side=1∨o.side=2):Qx2 lv bu se o=g o.side (Qa1 o):=by
 rw[←h o.side ho (Qa1 o)]
 rfl
theorem Qe1.chg {lv lv':List XJ} {bu se bu' se':Int} {g:Int→Option Int→Int} (h:Qe1 lv bu se g) {o:QX} (ho:o.side=1∨o.side=2) {q:Int} (hc:Ja7 lv bu se o q lv' bu' se'):
  Qe1 lv' bu' se' (fun s k=>g s k+if o.side=s∧Qa1 o=k then q*o.qty else 0):=by
 intro s hs k
 show Jk4 s (Qo5 lv' bu' se' k)=g s k+if o.side=s∧Qa1 o=k then q*o.qty else 0
 rw[hc.2 k]
 by_cases e:k=Qa1 o
 ·rw[if_pos e]
  have h1:=h s hs k;unfold Jk4 at h1⊢;unfold dB dS;rcases hs with rfl|rfl
  ·rw[if_pos rfl]at h1⊢
   dsimp only at h1⊢;rw[h1];rcases ho with h2|h2
   ·rw[if_pos h2,if_pos ⟨h2,e.symm⟩]
   ·rw[if_neg (by omega),if_neg (by omega)];omega
  ·rw[if_neg (by decide)]at h1⊢
   dsimp only at h1⊢;rw[h1];rcases ho with h2|h2
   ·rw[if_pos h2,if_neg (by omega)];omega
   ·rw[if_neg (by omega),if_pos ⟨h2,e.symm⟩]
 ·rw[if_neg e,if_neg (fun x=>e x.2.symm),h s hs k]
  simp
theorem Qe1.congr {lv:List XJ} {bu se:Int} {g g':Int→Option Int→Int} (h:Qe1 lv bu se g) (e: ∀s k,(s=1∨s=2)→g s k=g' s k):Qe1 lv bu se g':=fun s hs k=>(h s hs k).trans (e s k hs)
theorem Xc0:Qe1 [] 0 0 (fun s k=>Q2 s k []):=by
 intro s hs k
 have e:Qo5 [] 0 0 k=(0,0):=by cases k<;>rfl
 rw[e]
 unfold Jk4 Q2
 split<;>rfl
theorem Xp5:Jb2 []:=⟨List.Pairwise.nil,fun x h=>(by cases h),fun x h=>(by cases h)⟩
theorem Xc1 {α:Type} [DecidableEq α]: ∀ {l l':List α},l.Nodup→(∀x∈l,x∈l')→l.length≤l'.length
 | [],_,_,_=>Nat.zero_le _
 |a::t,l',h,hs=>by
  obtain⟨h1,h2⟩:=List.nodup_cons.1 h;have ha:=hs a (by simp);have h3:=Xc1 (l':=l'.erase a) h2 (fun x hx=>(List.mem_erase_of_ne (fun e=>h1 (by rw[←e];exact hx))).2 (hs x (by simp[hx])));rw[List.length_erase_of_mem ha]at h3;have:=List.length_pos_of_mem ha;rw[List.length_cons];omega
theorem Qe1.few {lv:List XJ} {bu se:Int} {l:List QX} (hk:Jb2 lv) (h:Qe1 lv bu se (fun s k=>Q2 s k l)):lv.length≤l.length:=by
 have hnd:(lv.map (·.1)).Nodup:=by
  unfold List.Nodup;rw[List.pairwise_map];exact List.Pairwise.imp (fun h=>by omega) hk.rank
 have hsub: ∀p∈lv.map (·.1),p∈l.map (·.price):=by
  intro p hp;obtain⟨x,hx,rfl⟩:=List.mem_map.1 hp;have hz:=(hk.nz x hx).2.2;have hl:=Ql2 hk.rank hx;have key: ∃s,Q2 s (some x.1) l≠0:=by
   rcases hz with h1|h1
   ·refine⟨1,fun e=>h1 ?_⟩
    have:=h 1 (.inl rfl) (some x.1);dsimp only at this;rw[e]at this;unfold Jk4 at this;rw[if_pos rfl,show Qo5 lv bu se (some x.1)=YW lv x.1 from rfl,hl]at this;exact this
   ·refine⟨2,fun e=>h1 ?_⟩
    have:=h 2 (.inr rfl) (some x.1);dsimp only at this;rw[e]at this;unfold Jk4 at this;rw[if_neg (by decide),show Qo5 lv bu se (some x.1)=YW lv x.1 from rfl,hl]at this;exact this
  obtain⟨s,hs⟩:=key;obtain⟨o,ho,-,hk2⟩:=Kq8 hs;unfold Qa1 at hk2
  split at hk2
  ·cases hk2
  ·exact List.mem_map.2 ⟨o,ho,Option.some.inj hk2⟩
 have:=Xc1 hnd hsub
 simpa using this
theorem Qe1.mild {lv:List XJ} {bu se:Int} {g:Int→Option Int→Int} (hk:Jb2 lv) (h:Qe1 lv bu se g) (hb: ∀s k,0≤g s k∧g s k≤1000000000) (hn:lv.length≤99999):Jd5 lv bu se:=by
 have v1: ∀x,Jk4 1 x=x.1:=fun x=>if_pos rfl
 have v2: ∀x,Jk4 2 x=x.2:=fun x=>if_neg (by decide)
 refine⟨?_, ?_,fun x hx=> ?_,fun x hx=> ?_,hn⟩
 ·have h1:=h 1 (.inl rfl) none
  have h2:=hb 1 none;rw[v1]at h1;have h3:bu=g 1 none:=h1;omega
 ·have h1:=h 2 (.inr rfl) none
  have h2:=hb 2 none;rw[v2]at h1;have h3:se=g 2 none:=h1;omega
 ·have h1:=h 1 (.inl rfl) (some x.1)
  have h2:=hb 1 (some x.1);rw[v1]at h1;have h3:(YW lv x.1).1=g 1 (some x.1):=h1;rw[Ql2 hk.rank hx]at h3;omega
 ·have h1:=h 2 (.inr rfl) (some x.1)
  have h2:=hb 2 (some x.1);rw[v2]at h1;have h3:(YW lv x.1).2=g 2 (some x.1):=h1;rw[Ql2 hk.rank hx]at h3;omega
def I0 (o:QX):QX:=⟨0,(Qx4 o).1,(Qx4 o).2.1,(Qx4 o).2.2,o.qty⟩
theorem Ki7 (o:QX):Qv1 (I0 o)=Qx5 o.side (Qa1 o):=by
 rw[←Jd7]
 rfl
theorem Jk5 (o:QX):(I0 o).side=o.side:=by unfold I0 Qx4;split<;>rfl
theorem Jh0 (o:QX):(I0 o).qty=o.qty:=rfl
theorem Qf4 (o:QX):(I0 o).kind=2↔o.kind=2:=by
 unfold I0 Qx4
 split
 ·simp_all
 ·simp_all
theorem Jd8 {o:QX} (h:o.kind≠2):(I0 o).price=o.price:=by unfold I0 Qx4;rw[if_neg h]
theorem Ki8 (s:Int) (k:Option Int) (l:List QX):Qk0 (Qx5 s k) (l.map I0)=Q2 s k l:=by
 unfold Qk0 Q2
 rw[List.map_map]
 congr 1
 refine List.map_congr_left fun o _=> ?_
 simp only[Function.comp]
 rw[Ki7]
 by_cases e:o.side=s∧Qa1 o=k
 ·rw[if_pos e,if_pos (by rw[e.1,e.2]),Jh0]
 ·rw[if_neg e,if_neg (fun x=>e (Xb7 x))]
theorem Kd4 (o:QX):okO (I0 o)=okO o:=by unfold okO;rw[Jk5,Jh0]
theorem Ju5 (l:List QX):Qn5 (l.map I0)=(Qn5 l).map I0:=by
 unfold Qn5
 rw[List.filter_map]
 congr 1
 refine List.filter_congr fun o _=> ?_
 simp only[Function.comp,Kd4]
theorem Jh1 {F G:QX→Int}: ∀(l:List QX) (s:Int),(∀o∈l,F (I0 o)=G o)→(l.map I0).foldl (fun s o=>s+F o) s=l.foldl (fun s o=>s+G o) s:=by
 intro l
 induction l with
 |nil=>intro s _;rfl
 |cons o t ih=>
  intro s h;rw[List.map_cons,List.foldl_cons,List.foldl_cons,h o (by simp),ih _ (fun x hx=>h x (by simp[hx]))]
theorem Ki9 (p:Int) (l:List QX):Qo7 p (l.map I0)=Qo7 p l:=by
 unfold Qo7
 refine Jh1 l 0 fun o _=> ?_
 unfold Jc6
 rw[Jk5,Jh0]
 by_cases hk:o.kind=2
 ·rw[(Qf4 o).2 hk,hk]
  simp
 ·rw[Jd8 hk]
  have h2: ¬(I0 o).kind=2:=fun e=>hk ((Qf4 o).1 e)
  simp only[hk,h2]
theorem Kj0 (p:Int) (l:List QX):Qo8 p (l.map I0)=Qo8 p l:=by
 unfold Qo8
 refine Jh1 l 0 fun o _=> ?_
 unfold Jc7
 rw[Jk5,Jh0]
 by_cases hk:o.kind=2
 ·rw[(Qf4 o).2 hk,hk]
  simp
 ·rw[Jd8 hk]
  have h2: ¬(I0 o).kind=2:=fun e=>hk ((Qf4 o).1 e)
  simp only[hk,h2]
theorem Xh4 (l:List QX) (more:Int):U0 (l.map I0) more=U0 l more:=by
 unfold U0
 rw[Ju5]
 congr 1
 rw[List.filter_map,List.map_map]
 have e1:(Qn5 l).filter ((fun o=> !(o.kind ==2))∘I0)=(Qn5 l).filter (fun o=> !(o.kind ==2)):=by
  refine List.filter_congr fun o _=> ?_
  simp only[Function.comp]
  by_cases hk:o.kind=2
  ·rw[(Qf4 o).2 hk,hk]
  ·have h2: ¬(I0 o).kind=2:=fun e=>hk ((Qf4 o).1 e)
   rw[UQ h2,UQ hk]
 rw[e1]
 refine List.map_congr_left fun o ho=> ?_
 have:=(List.mem_filter.1 ho).2
 exact Jd8 (by simpa using this)
theorem Xp6 (l:List QX) (more:Int):V0 (l.map I0) more=V0 l more:=by
 unfold V0
 rw[Xh4,Ju5]
 refine List.map_congr_left fun p _=> ?_
 unfold Qz8
 rw[Ki9,Kj0]
def Xh5 (l:List QX):Prop:= ∀o∈l,Qb9 o
theorem Qe1.rel {lv:List XJ} {bu se:Int} {l:List QX} (hl:Xh5 l) (h:Qe1 lv bu se (fun s k=>Q2 s k l)):Qp5 lv bu se (fun x=>nzO (Qk0 x (l.map I0)))∧Xb5 (fun x=>nzO (Qk0 x (l.map I0))) (l.map I0):=by
 have hall:Jb4 (l.map I0):=fun o ho=>by
  obtain⟨z,hz,rfl⟩:=List.mem_map.1 ho;rw[Kd4];have h1:=hl z hz;unfold okO;rw[J5 h1.2.1.1,J5 h1.2.1.2];rcases h1.1 with e|e
  ·rw[e];rfl
  ·rw[e];rfl
 refine⟨Qp5.of (fun s hs k=> ?_) (fun x v hx=> ?_),⟨hall,fun x=>(Ju4 _).symm⟩⟩
 ·rw[Ju4,Ki8,h s hs k]
 ·unfold nzO at hx
  split at hx
  ·cases hx
  ·rename_i hne
   cases hx;have hpos:=Jn6 (x:=x) hall;refine⟨by omega, ?_⟩;obtain⟨o,ho,rfl⟩:=Xb3 hne;obtain⟨z,hz,rfl⟩:=List.mem_map.1 ho;have h1:=hl z hz;unfold I0;show Qx4 z=_∨Qx4 z=_∨_;unfold Qx4
   by_cases hk:z.kind=2
   ·rw[if_pos hk]
    rcases h1.1 with e|e
    ·exact .inl (by rw[e])
    ·exact .inr (.inl (by rw[e]))
   ·rw[if_neg hk]
    have h2:=h1.2.2.resolve_left hk;refine .inr (.inr ⟨z.price,h2.1,h2.2, ?_⟩);rcases h1.1 with e|e
    ·exact .inl (by rw[e];rfl)
    ·exact .inr (by rw[e];rfl)
theorem Qe1.points {lv:List XJ} {bu se:Int} {l:List QX} (hk:Jb2 lv) (hl:Xh5 l) (h:Qe1 lv bu se (fun s k=>Q2 s k l)) (more:Int):J2 lv bu se more=V0 l more:=by
 obtain⟨h1,h2⟩:=h.rel hl
 rw[←Xp4 hk h1 h2,Xp6]
structure ZJ where
 rows:List (Int×Int)
 st:Int
 dy:Int
 tk:Int
 mo:Int
 an:Int
 la:Int
 L1:List QX
 L2:List QX
 pk:List QX
 ids:List Int
 ph:Int
 now:Int
 ends:Int
 lng:Int
def VJ (m:ZJ) (t:Int):Int:=(Ql9 m.rows t m.rows.length).1
def Qc0 (m:ZJ):List QX:=m.L1++m.L2
def YY (m:ZJ):XJ:=Q9 (V0 (Qc0 m) m.la) m.la
def Kw2 (p t:Int) (L1 L2:List QX) (F:List JV):Prop:=Ql0 L1 L2 p t F∧Qg3 t L1 L2 F
def Qt6 (m:ZJ) (F:List JV):Prop:=if 0< (YY m).2.1 then Kw2 (YY m).1 (YY m).2.1 m.L1 m.L2 F else F= []
def Qp6 (m:ZJ) (L:List QX):List QX:=(if 0< (YY m).2.1 then ZK L (YY m).2.1 else L).filter fun o=>o.kind ==1
def Qe9 (m:ZJ) (p:Int):Int:=if 0< (YY m).2.1 then(YY m).1 else p
def Qr4 (m:ZJ):ZJ:= {m with L1:=Qp6 m m.L1,L2:=Qp6 m m.L2,an:=Qe9 m m.an,la:=Qe9 m m.la}
def Qc8 (m:ZJ) (o:QX):ZJ:= {m with L1:=Jt6 1 m.L1 m.L2 m.L1 o,L2:=Jt6 2 m.L1 m.L2 m.L2 o}
def UZ (m:ZJ) (l:List QX):ZJ:=l.foldl Qc8 m
def Qg6 (m:ZJ):ZJ:= {UZ {m with ph:=5} m.pk with pk:= []}
def Jh2 (m:ZJ):ZJ:= {m with ph:=4,ends:=m.now+m.tk,lng:=0}
def Qu8 (m:ZJ):ZJ:= {m with ph:=7,pk:= [],L1:= [],L2:= []}
def X8 (m:ZJ) (p:Int):ZJ:=if p=3 then {Qr4 m with ph:=3}else if p=5 then Qg6 m else {m with ph:=p}
def Qk1 (m:ZJ) (p:Int) (F:List JV):Prop:=if p=3 then Qt6 m F else F= []
def Jh3 (m:ZJ):Prop:=(YY m).2.1=0∨Qu6 m.st m.an (YY m).1=true
instance(m:ZJ):Decidable (Jh3 m):=by unfold Jh3;infer_instance
def OW (m:ZJ):ZJ:=
 if Jh3 m then {Qr4 m with ph:=3}else if m.lng<m.mo then {m with lng:=m.lng+1,ends:=m.now+m.tk}else {m with ph:=6}
def Qb2 (m:ZJ) (F:List JV):Prop:=if Jh3 m then Qt6 m F else F= []
def XQ (m:ZJ):ZJ:= {m with now:=m.now+1}
def I1 (was:Int) (m:ZJ):ZJ:=
 if VJ m m.now=7 then Qu8 (if m.ph=5 then Qr4 m else m)
 else if m.ph=6 then m
 else if was≠VJ m m.now then X8 m (VJ m m.now)
 else if m.ph=4∧m.ends≤m.now then OW m else m
def Qf0 (was:Int) (m:ZJ) (F:List JV):Prop:=
 if VJ m m.now=7 then(if m.ph=5 then Qt6 m F else F= [])
 else if m.ph=6 then F= []
 else if was≠VJ m m.now then Qk1 m (VJ m m.now) F
 else if m.ph=4∧m.ends≤m.now then Qb2 m F else F= []
def Jh4 (m:ZJ):Int:=if m.ph=7 then 6 else 0
def Q8 (m:ZJ):ZJ:=if m.ph=7 then m else I1 (VJ m m.now) (XQ m)
def Jh5 (m:ZJ) (F:List JV):Prop:=if m.ph=7 then F= []else Qf0 (VJ m m.now) (XQ m) F
def Jc0 (m:ZJ):Int:=if m.ph=6∨m.ph=7 then 6 else 0
def Qe2 (m:ZJ):ZJ:=if m.ph=6∨m.ph=7 then m else {m with ph:=6}
def Jn7 (m:ZJ):Int:=if m.ph=6 then 0 else 6
def Qa2 (m:ZJ):ZJ:=if m.ph=6 then(if VJ m m.now=3 then Jh2 m else if VJ m m.now=5 then Qg6 m else {m with ph:=VJ m m.now})else m
def Ju6 (m:ZJ) (id:Int):Bool:=m.pk.any fun o=>o.id ==id
def Ql3 (m:ZJ) (id:Int):Int:=if m.ph=7 then 6 else if Ju6 m id=true then 0 else if(Qb3 (Qc0 m) id).isSome=true then 0 else 7
def YJ (m:ZJ) (id:Int):ZJ:=if m.ph=7 then m else if Ju6 m id=true then {m with pk:=Jk3 m.pk (m.pk.findIdx fun o=>o.id ==id)}else {m with L1:=O7 m.L1 id,L2:=O7 m.L2 id}
def Xh6 (o:QX):Bool:=decide (o.side≠1∧o.side≠2∨o.kind<1∨4<o.kind∨o.id<1)
def X9 (m:ZJ) (o:QX):Int:=
 if Xh6 o=true then 1 else if Qq6 o=false then 2 else if Qh4 m.ph o.kind=false then 6 else if o.id∈m.ids then 9 else if 100≤m.L1.length+m.L2.length+m.pk.length then 12 else 0
def ZW (m:ZJ) (o:QX):O9 Int:=ZX (fun la p=>X4 m.st m.dy m.an la p) (fun _ p=>p) (JY (3-o.side) m.L1 m.L2) o m.la
def UY (m:ZJ) (o:QX):ZJ:= {m with L1:=if o.side=1 then m.L1 else(ZW m o).rest,L2:=if o.side=1 then(ZW m o).rest else m.L2,la:=(ZW m o).st}
def VK (m:ZJ) (o:QX):ZJ:=if 0< (ZW m o).left.qty∧(ZW m o).left.kind≠2 then Qc8 (UY m o) (ZW m o).left else UY m o
def Z2 (m:ZJ) (o:QX):ZJ:=if(ZW m o).stop=true then Jh2 (VK m o)else VK m o
def YX (m:ZJ) (o:QX):ZJ:= {m with ids:=m.ids++ [o.id]}
def Qe5 (m:ZJ) (o:QX):ZJ:=if o.kind=4∧m.ph≠5 then {m with pk:=m.pk++ [o]}else if m.ph≠3 then Qc8 m o else Z2 m o
def Qi3 (m:ZJ) (o:QX):List JV:=if o.kind=4∧m.ph≠5 then []else if m.ph≠3 then []else(ZW m o).fills
def OK (m:ZJ) (o:QX):ZJ:=if X9 m o=0 then Qe5 (YX m (JJ o)) (JJ o)else m
def Qd3 (m:ZJ) (o:QX):List JV:=if X9 m o=0 then Qi3 (YX m (JJ o)) (JJ o)else []
structure VW (m:ZJ):Prop where
 tab:Z5 m.rows
 st:0≤m.st∧m.st≤10000
 dy:0≤m.dy∧m.dy≤10000
 tk:1≤m.tk∧m.tk≤1000000
 mo:0≤m.mo∧m.mo≤10
 an:1≤m.an∧m.an≤1000000
 la:1≤m.la∧m.la≤1000000
 ls:XY m.L1 m.L2
 pk: ∀o∈m.pk,OkO o∧VV o.side
 cnt:m.L1.length+m.L2.length+m.pk.length≤100
 lng:0≤m.lng∧m.lng≤10
end Go.Proofs.YtnlngicnfegjgaaGreatDoor
