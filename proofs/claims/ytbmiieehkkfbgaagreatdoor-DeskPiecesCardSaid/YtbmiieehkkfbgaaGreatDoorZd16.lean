/- Contracts and walks that the law's proof needs. -/
import Derived.Test.YtbmiieehkkfbgaaGreatDoorZd3
import Derived.Test.YtbmiieehkkfbgaaGreatDoorZd15
import Derived.Test.YtbmiieehkkfbgaaGreatDoorZd12
set_option linter.unusedVariables false
set_option maxRecDepth 100000
set_option maxHeartbeats 8000000
namespace Go.Proofs.YtbmiieehkkfbgaaGreatDoor
open Go.RowKit
def Kv8 (lv:List XJ) (bu p:Int):Int:=Y2 (lv.filter fun y=>decide (p≤y.1)) bu
def Kv9 (lv:List XJ) (se p:Int):Int:=Qn5 (lv.filter fun y=>decide (y.1≤p)) se
def ptI (lv:List XJ) (bu se p:Int):XJ:=(p,Kv8 lv bu p,Kv9 lv se p)
theorem Qr2 (l:List XJ): ∀a:Int,Y2 l a=a+Y2 l 0:=by
 induction l with
 |nil=>intro a;unfold Y2;simp
 |cons y u ih=>
  intro a;have e1:=ih (a+y.2.1);have e2:=ih (0+y.2.1);unfold Y2 at*;rw[List.foldl_cons,List.foldl_cons,e1,e2];omega
theorem Xd8 (l:List XJ): ∀a:Int,Qn5 l a=a+Qn5 l 0:=by
 induction l with
 |nil=>intro a;unfold Qn5;simp
 |cons y u ih=>
  intro a;have e1:=ih (a+y.2.2);have e2:=ih (0+y.2.2);unfold Qn5 at*;rw[List.foldl_cons,List.foldl_cons,e1,e2];omega
theorem Xr9 (l l':List XJ) (a:Int):Y2 (l++l') a=Y2 l' (Y2 l a):=by unfold Y2;rw[List.foldl_append]
theorem Jp1 {α:Type} {q:α→Bool} {l:List α} (h: ∀x∈l,q x=false):l.filter q= []:=List.filter_eq_nil_iff.2 (fun x hx=>by rw[h x hx];simp)
theorem Jh9 {α:Type} {q:α→Bool} {l:List α} (h: ∀x∈l,q x=true):l.filter q=l:=List.filter_eq_self.2 h
theorem Ka7 {pre post:List XJ} {bu p:Int} (h1: ∀x∈pre,x.1<p) (h2: ∀x∈post,p≤x.1):Kv8 (pre++post) bu p=Y2 post bu:=by
 unfold Kv8
 rw[List.filter_append,Jp1 (fun x hx=>decide_eq_false (by have:=h1 x hx;omega)),Jh9 (fun x hx=>decide_eq_true (h2 x hx)),List.nil_append]
theorem Ka8 {pre post:List XJ} {se p:Int} (h1: ∀x∈pre,x.1≤p) (h2: ∀x∈post,p<x.1):Kv9 (pre++post) se p=Qn5 pre se:=by
 unfold Kv9
 rw[List.filter_append,Jp1 (l:=post) (fun x hx=>decide_eq_false (by have:=h2 x hx;omega)),Jh9 (l:=pre) (fun x hx=>decide_eq_true (h1 x hx)),List.append_nil]
structure Ka9 (lv:List XJ) (bu se more:Int) (pre:List XJ) (s:PtS):Prop where
 told:s.told=(decide (more<1) ||pre.any fun x=>decide (more≤x.1))
 out: ∀e∈s.out,e=ptI lv bu se e.1
 asc:(s.out.map (·.1)).Pairwise (· < ·)
 mem: ∀q,q∈s.out.map (·.1)↔(∃x∈pre,x.1=q)∨(1≤more∧s.told=true∧q=more)
 up:s.told=false→1≤more∧ ∀x∈pre,x.1<more
 below: ∀e∈s.out,∀x,(∀y∈pre,y.1<x)→more<x∨s.told=false∨more<1→e.1<x
theorem Kg8 {more:Int} {pre:List XJ} {t:Bool} (h:t=(decide (more<1) ||pre.any fun x=>decide (more≤x.1))) (ht:t=false):1≤more∧ ∀x∈pre,x.1<more:=by
 rw[ht]at h
 have h:=h.symm
 rw[Bool.or_eq_false_iff,decide_eq_false_iff_not,List.any_eq_false]at h
 refine⟨by omega,fun x hx=> ?_⟩
 have:=h.2 x hx
 simp at this
 exact this
theorem Kw0 (lv:List XJ) (bu se more:Int):Ka9 lv bu se more [] (ptS lv bu se more []):=by
 have h0:(ptS lv bu se more []).told=(decide (more<1) || ([]:List XJ).any fun x=>decide (more≤x.1)):=by show decide (more<1)=_;simp
 refine⟨h0,fun e he=>(by cases he),List.Pairwise.nil,fun q=> ?_,Kg8 h0,fun e he=>(by cases he)⟩
 constructor
 ·intro h;cases h
 ·rintro(⟨x,hx,-⟩|⟨h1,h2,-⟩)
  ·cases hx
  ·have h2:decide (more<1)=true:=h2
   rw[decide_eq_true_eq]at h2;omega
theorem Kw1 {pre post:List XJ} {bu se more:Int}:(ptS (pre++post) bu se more pre).d=Y2 post bu:=by
 rw[Zh0,Xr9,Qr2 post (Y2 pre bu),Qr2 pre bu,Qr2 post bu]
 omega
theorem Km5 {pre post:List XJ} {x:XJ} {bu se more:Int} (hr:Qd0 (pre++x::post)) (h:Ka9 (pre++x::post) bu se more pre (ptS (pre++x::post) bu se more pre)):
  Ka9 (pre++x::post) bu se more (pre++ [x]) (ptS (pre++x::post) bu se more (pre++ [x])):=by
 obtain⟨r1,r2,-⟩:=Qh0 hr
 have hd:(ptS (pre++x::post) bu se more pre).d=Y2 (x::post) bu:=Kw1
 have hs:(ptS (pre++x::post) bu se more pre).s=Qn5 pre se:=Kv2 _ _ _ _ _
 rw[Xr4]
 generalize hst:ptS (pre++x::post) bu se more pre=st at h hd hs
 obtain⟨d,s,td,out⟩:=st
 dsimp only at hd hs
 obtain⟨a1,a2,a3,a4,a5,a6⟩:=h
 dsimp only at a1 a2 a3 a4 a5 a6
 have hpx:ptI (pre++x::post) bu se x.1=(x.1,d,s+x.2.2):=by
  unfold ptI;rw[Ka7 r1 (fun y hy=>by
   rcases List.mem_cons.1 hy with rfl|hy
   ·exact Int.le_refl _
   ·exact Int.le_of_lt (r2 y hy)),←hd]
  have e:pre++x::post=(pre++ [x])++post:=by simp
  rw[e,Ka8 (fun y hy=>by
   rcases List.mem_append.1 hy with hy|hy
   ·exact Int.le_of_lt (r1 y hy)
   ·rw[List.mem_singleton]at hy;subst hy;exact Int.le_refl _) r2,Kl4,←hs]
 have hpm:td=false→more<x.1→ptI (pre++x::post) bu se more=(more,d,s):=fun ht hm=>by
  obtain⟨b1,b2⟩:=a5 ht;unfold ptI;rw[Ka7 b2 (fun y hy=>by
   rcases List.mem_cons.1 hy with rfl|hy
   ·exact Int.le_of_lt hm
   ·have:=r2 y hy;omega),←hd,Ka8 (fun y hy=>Int.le_of_lt (b2 y hy)) (fun y hy=>by
   rcases List.mem_cons.1 hy with rfl|hy
   ·exact hm
   ·have:=r2 y hy;omega),←hs]
 have hto:(ptT more td x)=(decide (more<1) || (pre++ [x]).any fun x=>decide (more≤x.1)):=by
  unfold ptT;rw[a1,List.any_append];simp[Bool.or_assoc]
 have hbx: ∀e∈out,e.1<x.1∨(td=true∧1≤more∧x.1≤more):=fun e he=>by
  by_cases h1:more<x.1∨td=false∨more<1
  ·exact .inl (a6 e he x.1 r1 h1)
  ·refine .inr ⟨?_,by omega,by omega⟩
   cases td with
   |true=>rfl
   |false=>exact absurd (.inr (.inl rfl)) h1
 have hbx: ∀e∈out,e.1<x.1:=fun e he=>by
  rcases hbx e he with h1|⟨h1,h2,h3⟩
  ·exact h1
  ·rw[h1]at a1
   have a1:=a1.symm;rw[Bool.or_eq_true,decide_eq_true_eq,List.any_eq_true]at a1;rcases a1 with a1|⟨y,hy,hy2⟩
   ·omega
   ·rw[decide_eq_true_eq]at hy2
    have:=r1 y hy;omega
 unfold ptF ptO
 dsimp only
 have hmid: ∀out':List XJ,(∀e∈out',e=ptI (pre++x::post) bu se e.1)→(out'.map (·.1)).Pairwise (· < ·)→(∀e∈out',e.1<x.1)→
   (∀q,q∈out'.map (·.1)↔(∃y∈pre,y.1=q)∨(1≤more∧(td=true∨more<x.1)∧q=more))→
   Ka9 (pre++x::post) bu se more (pre++ [x]) ⟨d-x.2.1,s+x.2.2,ptT more td x,out'++ [(x.1,d,s+x.2.2)]⟩:=fun out' c1 c2 c3 c4=>by
  refine⟨hto,fun e he=> ?_, ?_,fun q=> ?_,Kg8 hto,fun e he z hz1 hz2=> ?_⟩
  ·rcases List.mem_append.1 he with he|he
   ·exact c1 e he
   ·rw[List.mem_singleton]at he
    subst he;exact hpx.symm
  ·dsimp only
   rw[List.map_append,List.pairwise_append];refine⟨c2,List.pairwise_singleton _ _,fun a ha b hb=> ?_⟩;obtain⟨e,he,rfl⟩:=List.mem_map.1 ha;simp at hb;subst hb;exact c3 e he
  ·dsimp only
   rw[List.map_append,List.mem_append,c4];have ht:ptT more td x=true↔(td=true∨more≤x.1):=by unfold ptT;simp
   rw[ht];constructor
   ·rintro((⟨y,hy,rfl⟩|⟨h1,h2,h3⟩)|h)
    ·exact .inl ⟨y,by simp[hy],rfl⟩
    ·refine .inr ⟨h1, ?_,h3⟩
     rcases h2 with h2|h2
     ·exact .inl h2
     ·exact .inr (by omega)
    ·simp at h
     exact .inl ⟨x,by simp,h.symm⟩
   ·rintro(⟨y,hy,rfl⟩|⟨h1,h2,h3⟩)
    ·rcases List.mem_append.1 hy with hy|hy
     ·exact .inl (.inl ⟨y,hy,rfl⟩)
     ·rw[List.mem_singleton]at hy
      subst hy;exact .inr (by simp)
    ·rcases h2 with h2|h2
     ·exact .inl (.inr ⟨h1,.inl h2,h3⟩)
     ·by_cases e:more=x.1
      ·exact .inr (by simp;omega)
      ·exact .inl (.inr ⟨h1,.inr (by omega),h3⟩)
  ·have hxz:x.1<z:=hz1 x (by simp)
   rcases List.mem_append.1 he with he|he
   ·have:=c3 e he;omega
   ·rw[List.mem_singleton]at he
    subst he;exact hxz
 by_cases hc:td=false∧more<x.1
 ·rw[if_pos hc]
  obtain⟨ht,hm⟩:=hc;obtain⟨b1,b2⟩:=a5 ht;refine hmid _ (fun e he=> ?_) ?_ (fun e he=> ?_) (fun q=> ?_)
  ·rcases List.mem_append.1 he with he|he
   ·exact a2 e he
   ·rw[List.mem_singleton]at he
    subst he;exact(hpm ht hm).symm
  ·rw[List.map_append,List.pairwise_append]
   refine⟨a3,List.pairwise_singleton _ _,fun a ha b hb=> ?_⟩;obtain⟨e,he,rfl⟩:=List.mem_map.1 ha;simp at hb;rw[hb];exact a6 e he more b2 (.inr (.inl ht))
  ·rcases List.mem_append.1 he with he|he
   ·exact hbx e he
   ·rw[List.mem_singleton]at he
    subst he;exact hm
  ·rw[List.map_append,List.mem_append,a4]
   constructor
   ·rintro((h|⟨h1,h2,h3⟩)|h)
    ·exact .inl h
    ·exact .inr ⟨h1,.inl h2,h3⟩
    ·simp at h
     exact .inr ⟨b1,.inr hm,h⟩
   ·rintro(h|⟨h1,h2,h3⟩)
    ·exact .inl (.inl h)
    ·exact .inr (by simp[h3])
 ·rw[if_neg hc]
  refine hmid _ a2 a3 hbx (fun q=> ?_);rw[a4];constructor
  ·rintro(h|⟨h1,h2,h3⟩)
   ·exact .inl h
   ·exact .inr ⟨h1,.inl h2,h3⟩
  ·rintro(h|⟨h1,h2,h3⟩)
   ·exact .inl h
   ·refine .inr ⟨h1, ?_,h3⟩
    rcases h2 with h2|h2
    ·exact h2
    ·cases td with
     |true=>rfl
     |false=>exact absurd ⟨rfl,h2⟩ hc
theorem Kw2 {lv:List XJ} {bu se more:Int} (hr:Qd0 lv): ∀k,k≤lv.length→Ka9 lv bu se more (lv.take k) (ptS lv bu se more (lv.take k)):=by
 intro k
 induction k with
 |zero=>intro _;exact Kw0 lv bu se more
 |succ k ih=>
  intro hk;have h1:=ih (by omega);have e:lv=lv.take k++lv[k]::lv.drop (k+1):=by rw[←List.drop_eq_getElem_cons (by omega),List.take_append_drop]
  have e2:lv.take (k+1)=lv.take k++ [lv[k]]:=List.take_succ_eq_append_getElem (by omega);have key: ∀L:List XJ,L=lv.take k++lv[k]::lv.drop (k+1)→Qd0 L→Ka9 L bu se more (lv.take k) (ptS L bu se more (lv.take k))→Ka9 L bu se more (lv.take k++ [lv[k]]) (ptS L bu se more (lv.take k++ [lv[k]])):=by
   rintro L rfl h2 h3;exact Km5 h2 h3
  rw[e2];exact key lv e hr h1
theorem Xj9 {lv:List XJ} {bu se more:Int} (hr:Qd0 lv):
  (∀e∈Q8 lv bu se more,e=ptI lv bu se e.1)∧((Q8 lv bu se more).map (·.1)).Pairwise (· < ·)∧ ∀q,q∈(Q8 lv bu se more).map (·.1)↔(∃x∈lv,x.1=q)∨(1≤more∧q=more):=by
 have h:=Kw2 (bu:=bu) (se:=se) (more:=more) hr lv.length (Nat.le_refl _)
 rw[List.take_length]at h
 have hd:(ptS lv bu se more lv).d=bu:=by
  have h2:=Kw1 (pre:=lv) (post:= []) (bu:=bu) (se:=se) (more:=more);rw[List.append_nil]at h2;rw[h2];rfl
 have hs:(ptS lv bu se more lv).s=Qn5 lv se:=Kv2 _ _ _ _ _
 unfold Q8
 dsimp only
 generalize hst:ptS lv bu se more lv=st at h hd hs
 obtain⟨d,s,td,out⟩:=st
 dsimp only at hd hs
 obtain⟨a1,a2,a3,a4,a5,a6⟩:=h
 dsimp only at a1 a2 a3 a4 a5 a6⊢
 cases td with
 |true=>
  rw[if_neg (by simp)];refine⟨a2,a3,fun q=> ?_⟩;rw[a4];constructor
  ·rintro(h|⟨h1,-,h3⟩)
   ·exact .inl h
   ·exact .inr ⟨h1,h3⟩
  ·rintro(h|⟨h1,h3⟩)
   ·exact .inl h
   ·exact .inr ⟨h1,rfl,h3⟩
 |false=>
  rw[if_pos rfl];obtain⟨b1,b2⟩:=a5 rfl;have hp:ptI lv bu se more=(more,d,s):=by
   have e:lv=lv++ []:=by simp
   unfold ptI;rw[e,Ka7 b2 (fun y hy=>by cases hy),Ka8 (fun y hy=>Int.le_of_lt (b2 y hy)) (fun y hy=>by cases hy),hd,hs]
   rfl
  refine⟨fun e he=> ?_, ?_,fun q=> ?_⟩
  ·rcases List.mem_append.1 he with he|he
   ·exact a2 e he
   ·rw[List.mem_singleton]at he
    subst he;exact hp.symm
  ·rw[List.map_append,List.pairwise_append]
   refine⟨a3,List.pairwise_singleton _ _,fun a ha b hb=> ?_⟩;obtain⟨e,he,rfl⟩:=List.mem_map.1 ha;simp at hb;rw[hb];exact a6 e he more b2 (.inr (.inl rfl))
  ·rw[List.map_append,List.mem_append,a4]
   constructor
   ·rintro((h|⟨h1,h2,h3⟩)|h)
    ·exact .inl h
    ·cases h2
    ·simp at h;exact .inr ⟨b1,h⟩
   ·rintro(h|⟨h1,h3⟩)
    ·exact .inl (.inl h)
    ·exact .inr (by simp[h3])
end Go.Proofs.YtbmiieehkkfbgaaGreatDoor
