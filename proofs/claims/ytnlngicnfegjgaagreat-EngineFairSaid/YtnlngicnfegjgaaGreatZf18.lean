/- Contracts and walks that the law's proof needs. -/
import Derived.Test.YtnlngicnfegjgaaGreatZf4
import Derived.Test.YtnlngicnfegjgaaGreatZf15
import Derived.WalkKit
import Derived.WalkLawsBesides
import Derived.WalkSpells
import Derived.Deep.QuietTactic
import Derived.BigQuiet
import Derived.Deep.DeepCutAuto
import Derived.Deep.CutBlock
import Derived.Laws.ResultCell
import Derived.Test.YtnlngicnfegjgaaGreatZf14
import Derived.Test.YtnlngicnfegjgaaGreatZf5
import Derived.Test.YtnlngicnfegjgaaGreatZf17
set_option linter.unusedVariables false
set_option maxRecDepth 100000
set_option maxHeartbeats 8000000
namespace Go.Proofs.YtnlngicnfegjgaaGreat
open Go.RowKit
theorem Kx0 (L:List Int) (h:L≠ []): ∃q∈L,∀r∈L,r≤q:=by
 induction L with
 |nil=>exact absurd rfl h
 |cons a L ih=>
  by_cases hL:L= []
  ·subst hL;exact⟨a,by simp,fun r hr=>by simp at hr;omega⟩
  ·obtain⟨q,hq,h1⟩:=ih hL
   by_cases hc:a≤q
   ·exact⟨q,by simp[hq],fun r hr=>by rcases List.mem_cons.1 hr with rfl|hr;exact hc;exact h1 r hr⟩
   ·exact⟨a,by simp,fun r hr=>by rcases List.mem_cons.1 hr with rfl|hr;exact Int.le_refl _;have:=h1 r hr;omega⟩
theorem Xv0 (p:Int) (L:List Int):(∃q∈L,p≤q∧ ∀r∈L,p≤r→q≤r)∨ ∀r∈L,r<p:=by
 induction L with
 |nil=>right;intro r hr;cases hr
 |cons a L ih=>
  rcases ih with⟨q,hq,h1,h2⟩|h
  ·by_cases hc:p≤a∧a≤q
   ·left
    exact⟨a,by simp,hc.1,fun r hr hp=>by rcases List.mem_cons.1 hr with rfl|hr;exact Int.le_refl _;have:=h2 r hr hp;omega⟩
   ·left
    exact⟨q,by simp[hq],h1,fun r hr hp=>by rcases List.mem_cons.1 hr with rfl|hr;omega;exact h2 r hr hp⟩
  ·by_cases hc:p≤a
   ·left
    exact⟨a,by simp,hc,fun r hr hp=>by rcases List.mem_cons.1 hr with rfl|hr;exact Int.le_refl _;have:=h r hr;omega⟩
   ·right
    intro r hr;rcases List.mem_cons.1 hr with rfl|hr
    ·omega
    ·exact h r hr
theorem Km3 (p:Int) (L:List Int) (h:L≠ []): ∃q∈L,(∀r∈L,p≤r→q≤r)∧ ∀r∈L,r≤p→r≤q:=by
 rcases Xv0 p L with⟨q,hq,h1,h2⟩|h1
 ·exact⟨q,hq,h2,fun r hr hp=>by omega⟩
 ·obtain⟨q,hq,h2⟩:=Kx0 L h
  exact⟨q,hq,fun r hr hp=>by have:=h1 r hr;omega,fun r hr _=>h2 r hr⟩
theorem Jz3 (F G:QX→Int) (l:List QX) (h: ∀o∈l,F o≤G o): ∀s t:Int,s≤t→l.foldl (fun s o=>s+F o) s≤l.foldl (fun s o=>s+G o) t:=by
 induction l with
 |nil=>intro s t h;exact h
 |cons a l ih=>
  intro s t hs;rw[List.foldl_cons,List.foldl_cons];have:=h a (by simp);exact ih (fun o ho=>h o (by simp[ho])) _ _ (by omega)
theorem Ka1 {l:List QX} {more:Int} (h:Ja5 l) (hm:1≤more) (p:Int): ∃y∈Z9 l more,min (Qo5 p l) (Qo6 p l)≤ZQ y:=by
 have hne:V9 l more≠ []:=by unfold V9;rw[if_pos hm];simp
 obtain⟨q,hq,h1,h2⟩:=Km3 p (V9 l more) hne
 refine⟨Qz1 (Qn4 l) q,List.mem_map.2 ⟨q,(Xs5 _ _).2 hq,rfl⟩, ?_⟩
 rw[Qp8 h]
 have d1:Qo5 p l≤Qo5 q l:=Jz3 (Jb7 p) (Jb7 q) l (fun o ho=>by
  have hb:=Qz2 (h o ho);unfold Jb7
  by_cases hk:o.kind=2
  ·simp[hk]
  ·have:=h1 o.price (Jp7 h ho hk)
   by_cases hs:o.side=1<;>by_cases hp:p≤o.price<;>by_cases hp2:q≤o.price<;>simp[hk,hs,hp,hp2]<;>omega) 0 0 (Int.le_refl _)
 have d2:Qo6 p l≤Qo6 q l:=Jz3 (Jb8 p) (Jb8 q) l (fun o ho=>by
  have hb:=Qz2 (h o ho);unfold Jb8
  by_cases hk:o.kind=2
  ·simp[hk]
  ·have:=h2 o.price (Jp7 h ho hk)
   by_cases hs:o.side=2<;>by_cases hp:o.price≤p<;>by_cases hp2:o.price≤q<;>simp[hk,hs,hp,hp2]<;>omega) 0 0 (Int.le_refl _)
 show min (Qo5 p l) (Qo6 p l)≤min (Qo5 q l) (Qo6 q l)
 omega
theorem Kf6 (b1 b2:Bool) (r:Int) (l:List XJ): ∀x,Jm1 b1 b2 r x l=x∨Jm1 b1 b2 r x l∈l:=by
 induction l with
 |nil=>intro x;left;rfl
 |cons a l ih=>
  intro x;have e:Jm1 b1 b2 r x (a::l)=Jm1 b1 b2 r (if Qk5 b1 b2 r a x=true then a else x) l:=rfl;rw[e]
  by_cases hc:Qk5 b1 b2 r a x=true
  ·rw[if_pos hc]
   rcases ih a with h|h
   ·right;rw[h];simp
   ·right;simp[h]
  ·rw[if_neg hc]
   rcases ih x with h|h
   ·left;exact h
   ·right;simp[h]
theorem choose_spec (l:List XJ) (r:Int):(Q7 l r=(0,0,0)∧ ∀y∈l,ZQ y≤0)∨ ∃y∈l,Q7 l r=(y.1,ZQ y,y.2.1-y.2.2)∧1≤ZQ y∧ ∀z∈l,ZQ z≤ZQ y:=by
 rw[Xm5]
 obtain⟨h1,h0,h2⟩:=Qs3 l
 unfold Jr8
 by_cases hm:U2 l<1
 ·left
  rw[if_pos hm];exact⟨rfl,fun y hy=>by have:=h2 y hy;omega⟩
 ·right
  rw[if_neg hm];have hne:=Xm4 l (by omega)
  cases hb:Jl9 (U2 l) (Qo8 (U2 l) l).1 l with
  |nil=>exact absurd hb hne
  |cons x b=>
   have hmem:Jm1 (Jm0 (x::b)) (Qs2 (x::b)) r x (x::b)∈Jl9 (U2 l) (Qo8 (U2 l) l).1 l:=by
    rw[hb];rcases Kf6 (Jm0 (x::b)) (Qs2 (x::b)) r (x::b) x with h|h
    ·rw[h];simp
    ·exact h
   obtain⟨g1,g2⟩:=List.mem_filter.1 hmem;simp only[Bool.and_eq_true,beq_iff_eq]at g2;refine⟨_,g1,rfl,by rw[g2.1];omega,fun z hz=>by rw[g2.1];exact h2 z hz⟩
theorem Jz4 {l:List QX} {more:Int} (h:Ja5 l) (hm:1≤more) (r:Int):
  (∀p,min (Qo5 p l) (Qo6 p l)≤(Q7 (Z9 l more) r).2.1)∧
  (0< (Q7 (Z9 l more) r).2.1→(Q7 (Z9 l more) r).2.1=min (Qo5 (Q7 (Z9 l more) r).1 l) (Qo6 (Q7 (Z9 l more) r).1 l)∧(Q7 (Z9 l more) r).2.2=Qo5 (Q7 (Z9 l more) r).1 l-Qo6 (Q7 (Z9 l more) r).1 l):=by
 rcases choose_spec (Z9 l more) r with⟨e,h1⟩|⟨y,hy,e,hy1,h1⟩
 ·rw[e]
  refine⟨fun p=> ?_,fun h0=>absurd h0 (by simp)⟩;obtain⟨z,hz,hz2⟩:=Ka1 h hm p;have:=h1 z hz;show _≤(0:Int);omega
 ·rw[e]
  refine⟨fun p=> ?_,fun _=> ?_⟩
  ·obtain⟨z,hz,hz2⟩:=Ka1 h hm p
   have:=h1 z hz;show _≤ZQ y;omega
  ·obtain⟨q,hq,rfl⟩:=List.mem_map.1 hy
   rw[Qp8 h];exact⟨rfl,rfl⟩
theorem Kf7 {w:World} {a:Act} {Q:Ending→World→Prop} {g:Nat} {cs:Array Value} (hp:a.tmps.getD 4 undef= .pointer (some ⟨g,0,none⟩)) (hd:a.defers= [])
  (hg:QJ w g 114 cs) (h2:cs.size=3) (h:Q (.returned (.agg cs)) w):bodyPost Tryz.prog Tryz.f44 Q .ret a w:=
 bodyPost_ret (results_cell_row Tryz.results44 a.tmps w g _ cs (0,0) _ hp hg Tryz.underlying114 rfl (by rw[h2];kernel_rfl)) hd h
theorem Kf8 (w:World) (X:Nat) (t:TypeId) (cs:Array Value) (o:Nat) (A:Option Addr) (c:Nat) (lv:List XJ) (bu se:Int) (h:Qi6 w X t cs o A c lv bu se) (hs:Jc3 lv bu se) (r:Int) (hr: -1099511627776≤r∧r≤1099511627776) (hN: ∀p∈Q9 lv bu se r,Je4 p) (hl:(Q9 lv bu se r).length≤100000):
  Calls Tryz.prog 44 #[.pointer (some ⟨X,o,none⟩),.int .i64 r] w fun e w'=>e= .returned (Qv2 (Q7 (Q9 lv bu se r) r))∧Below w.heap.size w w':=by
 have hb1:Below w.heap.size w (w.alloc (.cells #[.int .i64 0,.int .i64 0,.int .i64 0] 114)):=(Below.refl _ w).alloc (Nat.le_refl _) _
 have HP:=QQ (Xu4 _ X t cs o A c lv bu se (h.below hb1) hs r)
 have HC:=QQ (fun(W:World) (A:Option Addr) (c:Nat) (hR:QY W A (Q9 lv bu se r).length c 159 3 (QW KV (Q9 lv bu se r)))=>Xs9 A _ c r hr (Q9 lv bu se r) W (XZ.of_row JK (by omega) hR) hN hl)
 have HB:=QQ hb1
 have HX:=QQ (QJ.new w 114 #[.int .i64 0,.int .i64 0,.int .i64 0])
 obtain⟨⟨t0,t1,t2⟩,ET⟩: ∃q,Hid (Q7 (Q9 lv bu se r) r=q):=⟨_,QQ rfl⟩
 rw[ET.out]
 clear h hs hN hl hb1
 go_enter Tryz.func44,Tryz.ntmps44
 go_wp2_with fail
 refine HP.out.mono ?_
 rintro e w2 ⟨hb2,A2,c2,rfl,hR2⟩
 have hC:=HC.out w2 A2 c2 hR2
 rw[ET.out]at hC
 unfold Qv2 at hC
 dsimp only at hC
 have HC2:=QQ hC
 have HB2:=QQ hb2
 clear hC hb2 hR2 HC HP
 go_wp2_with fail
 refine HC2.out.mono ?_
 rintro e w3 ⟨rfl,hb3⟩
 have hX3:=QJ.keep (QJ.keep HX.out HB2.out) hb3
 have hf0:=QJ.frozen hX3 0
 have hf1:=QJ.frozen hX3 1
 have hf2:=QJ.frozen hX3 2
 obtain⟨z0,z1,z2⟩:w3.cell? ⟨w.heap.size,0,none⟩=some (.int .i64 0)∧w3.cell? ⟨w.heap.size,1,none⟩=some (.int .i64 0)∧w3.cell? ⟨w.heap.size,2,none⟩=some (.int .i64 0):=⟨by rw[QJ.cell hX3];rfl,by rw[QJ.cell hX3];rfl,by rw[QJ.cell hX3];rfl⟩
 have HX3:=QQ hX3
 have HB3:=QQ (HB.out.trans ((HB2.out.trans (hb3.mono HB2.out.size)).mono HB.out.size))
 clear hX3 hb3 HC2
 go_wp2_with fail
 refine Kf7 (g:=w.heap.size) (cs:= #[.int .i64 t0,.int .i64 t1,.int .i64 t2]) (by with_unfolding_all rfl) (by with_unfolding_all rfl) (QJ.set_ (QJ.set_ (QJ.set_ HX3.out 0 _) 1 _) 2 _) rfl ?_
 exact⟨rfl,((HB3.out.setCell (Nat.le_refl _) _).setCell (Nat.le_refl _) _).setCell (Nat.le_refl _) _⟩
def Km4 (lv:List XJ) (bu p:Int):Int:=Y7 (lv.filter fun y=>decide (p≤y.1)) bu
def Km5 (lv:List XJ) (se p:Int):Int:=Qm9 (lv.filter fun y=>decide (y.1≤p)) se
def ptI (lv:List XJ) (bu se p:Int):XJ:=(p,Km4 lv bu p,Km5 lv se p)
theorem Qq4 (l:List XJ): ∀a:Int,Y7 l a=a+Y7 l 0:=by
 induction l with
 |nil=>intro a;unfold Y7;simp
 |cons y u ih=>
  intro a;have e1:=ih (a+y.2.1);have e2:=ih (0+y.2.1);unfold Y7 at*;rw[List.foldl_cons,List.foldl_cons,e1,e2];omega
theorem Jz5 (l:List XJ): ∀a:Int,Qm9 l a=a+Qm9 l 0:=by
 induction l with
 |nil=>intro a;unfold Qm9;simp
 |cons y u ih=>
  intro a;have e1:=ih (a+y.2.2);have e2:=ih (0+y.2.2);unfold Qm9 at*;rw[List.foldl_cons,List.foldl_cons,e1,e2];omega
theorem Xm7 (l l':List XJ) (a:Int):Y7 (l++l') a=Y7 l' (Y7 l a):=by unfold Y7;rw[List.foldl_append]
theorem Jm5 {α:Type} {q:α→Bool} {l:List α} (h: ∀x∈l,q x=false):l.filter q= []:=List.filter_eq_nil_iff.2 (fun x hx=>by rw[h x hx];simp)
theorem Jf6 {α:Type} {q:α→Bool} {l:List α} (h: ∀x∈l,q x=true):l.filter q=l:=List.filter_eq_self.2 h
theorem Xv1 {pre post:List XJ} {bu p:Int} (h1: ∀x∈pre,x.1<p) (h2: ∀x∈post,p≤x.1):Km4 (pre++post) bu p=Y7 post bu:=by
 unfold Km4
 rw[List.filter_append,Jm5 (fun x hx=>decide_eq_false (by have:=h1 x hx;omega)),Jf6 (fun x hx=>decide_eq_true (h2 x hx)),List.nil_append]
theorem Xv2 {pre post:List XJ} {se p:Int} (h1: ∀x∈pre,x.1≤p) (h2: ∀x∈post,p<x.1):Km5 (pre++post) se p=Qm9 pre se:=by
 unfold Km5
 rw[List.filter_append,Jm5 (l:=post) (fun x hx=>decide_eq_false (by have:=h2 x hx;omega)),Jf6 (l:=pre) (fun x hx=>decide_eq_true (h1 x hx)),List.append_nil]
structure Xv3 (lv:List XJ) (bu se more:Int) (pre:List XJ) (s:PtS):Prop where
 told:s.told=(decide (more<1) ||pre.any fun x=>decide (more≤x.1))
 out: ∀e∈s.out,e=ptI lv bu se e.1
 asc:(s.out.map (·.1)).Pairwise (· < ·)
 mem: ∀q,q∈s.out.map (·.1)↔(∃x∈pre,x.1=q)∨(1≤more∧s.told=true∧q=more)
 up:s.told=false→1≤more∧ ∀x∈pre,x.1<more
 below: ∀e∈s.out,∀x,(∀y∈pre,y.1<x)→more<x∨s.told=false∨more<1→e.1<x
theorem Ka2 {more:Int} {pre:List XJ} {t:Bool} (h:t=(decide (more<1) ||pre.any fun x=>decide (more≤x.1))) (ht:t=false):1≤more∧ ∀x∈pre,x.1<more:=by
 rw[ht]at h
 have h:=h.symm
 rw[Bool.or_eq_false_iff,decide_eq_false_iff_not,List.any_eq_false]at h
 refine⟨by omega,fun x hx=> ?_⟩
 have:=h.2 x hx
 simp at this
 exact this
theorem Km6 (lv:List XJ) (bu se more:Int):Xv3 lv bu se more [] (ptS lv bu se more []):=by
 have h0:(ptS lv bu se more []).told=(decide (more<1) || ([]:List XJ).any fun x=>decide (more≤x.1)):=by show decide (more<1)=_;simp
 refine⟨h0,fun e he=>(by cases he),List.Pairwise.nil,fun q=> ?_,Ka2 h0,fun e he=>(by cases he)⟩
 constructor
 ·intro h;cases h
 ·rintro(⟨x,hx,-⟩|⟨h1,h2,-⟩)
  ·cases hx
  ·have h2:decide (more<1)=true:=h2
   rw[decide_eq_true_eq]at h2;omega
theorem Km7 {pre post:List XJ} {bu se more:Int}:(ptS (pre++post) bu se more pre).d=Y7 post bu:=by
 rw[Kv2,Xm7,Qq4 post (Y7 pre bu),Qq4 pre bu,Qq4 post bu]
 omega
theorem Kf9 {pre post:List XJ} {x:XJ} {bu se more:Int} (hr:Qd7 (pre++x::post)) (h:Xv3 (pre++x::post) bu se more pre (ptS (pre++x::post) bu se more pre)):
  Xv3 (pre++x::post) bu se more (pre++ [x]) (ptS (pre++x::post) bu se more (pre++ [x])):=by
 obtain⟨r1,r2,-⟩:=Qh4 hr
 have hd:(ptS (pre++x::post) bu se more pre).d=Y7 (x::post) bu:=Km7
 have hs:(ptS (pre++x::post) bu se more pre).s=Qm9 pre se:=Kl8 _ _ _ _ _
 rw[Xm2]
 generalize hst:ptS (pre++x::post) bu se more pre=st at h hd hs
 obtain⟨d,s,td,out⟩:=st
 dsimp only at hd hs
 obtain⟨a1,a2,a3,a4,a5,a6⟩:=h
 dsimp only at a1 a2 a3 a4 a5 a6
 have hpx:ptI (pre++x::post) bu se x.1=(x.1,d,s+x.2.2):=by
  unfold ptI;rw[Xv1 r1 (fun y hy=>by
   rcases List.mem_cons.1 hy with rfl|hy
   ·exact Int.le_refl _
   ·exact Int.le_of_lt (r2 y hy)),←hd]
  have e:pre++x::post=(pre++ [x])++post:=by simp
  rw[e,Xv2 (fun y hy=>by
   rcases List.mem_append.1 hy with hy|hy
   ·exact Int.le_of_lt (r1 y hy)
   ·rw[List.mem_singleton]at hy;subst hy;exact Int.le_refl _) r2,Ke9,←hs]
 have hpm:td=false→more<x.1→ptI (pre++x::post) bu se more=(more,d,s):=fun ht hm=>by
  obtain⟨b1,b2⟩:=a5 ht;unfold ptI;rw[Xv1 b2 (fun y hy=>by
   rcases List.mem_cons.1 hy with rfl|hy
   ·exact Int.le_of_lt hm
   ·have:=r2 y hy;omega),←hd,Xv2 (fun y hy=>Int.le_of_lt (b2 y hy)) (fun y hy=>by
   rcases List.mem_cons.1 hy with rfl|hy
   ·exact hm
   ·have:=r2 y hy;omega),←hs]
 have hto:(ptT more td x)=(decide (more<1) || (pre++ [x]).any fun x=>decide (more≤x.1)):=by
  unfold ptT;rw[a1,List.any_append];simp[Bool.or_assoc]
 have hbx: ∀e∈out,e.1<x.1∨(td=true∧1≤more∧x.1≤more):=fun e he=>by
  by_cases h1:more<x.1∨td=false∨more<1
  ·exact .inl (a6 e he x.1 r1 h1)
  ·refine .inr ⟨?_,by omega,by omega⟩
   cases td with
   |true=>rfl
   |false=>exact absurd (.inr (.inl rfl)) h1
 have hbx: ∀e∈out,e.1<x.1:=fun e he=>by
  rcases hbx e he with h1|⟨h1,h2,h3⟩
  ·exact h1
  ·rw[h1]at a1
   have a1:=a1.symm;rw[Bool.or_eq_true,decide_eq_true_eq,List.any_eq_true]at a1;rcases a1 with a1|⟨y,hy,hy2⟩
   ·omega
   ·rw[decide_eq_true_eq]at hy2
    have:=r1 y hy;omega
 unfold ptF ptO
 dsimp only
 have hmid: ∀out':List XJ,(∀e∈out',e=ptI (pre++x::post) bu se e.1)→(out'.map (·.1)).Pairwise (· < ·)→(∀e∈out',e.1<x.1)→
   (∀q,q∈out'.map (·.1)↔(∃y∈pre,y.1=q)∨(1≤more∧(td=true∨more<x.1)∧q=more))→
   Xv3 (pre++x::post) bu se more (pre++ [x]) ⟨d-x.2.1,s+x.2.2,ptT more td x,out'++ [(x.1,d,s+x.2.2)]⟩:=fun out' c1 c2 c3 c4=>by
  refine⟨hto,fun e he=> ?_, ?_,fun q=> ?_,Ka2 hto,fun e he z hz1 hz2=> ?_⟩
  ·rcases List.mem_append.1 he with he|he
   ·exact c1 e he
   ·rw[List.mem_singleton]at he
    subst he;exact hpx.symm
  ·dsimp only
   rw[List.map_append,List.pairwise_append];refine⟨c2,List.pairwise_singleton _ _,fun a ha b hb=> ?_⟩;obtain⟨e,he,rfl⟩:=List.mem_map.1 ha;simp at hb;subst hb;exact c3 e he
  ·dsimp only
   rw[List.map_append,List.mem_append,c4];have ht:ptT more td x=true↔(td=true∨more≤x.1):=by unfold ptT;simp
   rw[ht];constructor
   ·rintro((⟨y,hy,rfl⟩|⟨h1,h2,h3⟩)|h)
    ·exact .inl ⟨y,by simp[hy],rfl⟩
    ·refine .inr ⟨h1, ?_,h3⟩
     rcases h2 with h2|h2
     ·exact .inl h2
     ·exact .inr (by omega)
    ·simp at h
     exact .inl ⟨x,by simp,h.symm⟩
   ·rintro(⟨y,hy,rfl⟩|⟨h1,h2,h3⟩)
    ·rcases List.mem_append.1 hy with hy|hy
     ·exact .inl (.inl ⟨y,hy,rfl⟩)
     ·rw[List.mem_singleton]at hy
      subst hy;exact .inr (by simp)
    ·rcases h2 with h2|h2
     ·exact .inl (.inr ⟨h1,.inl h2,h3⟩)
     ·by_cases e:more=x.1
      ·exact .inr (by simp;omega)
      ·exact .inl (.inr ⟨h1,.inr (by omega),h3⟩)
  ·have hxz:x.1<z:=hz1 x (by simp)
   rcases List.mem_append.1 he with he|he
   ·have:=c3 e he;omega
   ·rw[List.mem_singleton]at he
    subst he;exact hxz
 by_cases hc:td=false∧more<x.1
 ·rw[if_pos hc]
  obtain⟨ht,hm⟩:=hc;obtain⟨b1,b2⟩:=a5 ht;refine hmid _ (fun e he=> ?_) ?_ (fun e he=> ?_) (fun q=> ?_)
  ·rcases List.mem_append.1 he with he|he
   ·exact a2 e he
   ·rw[List.mem_singleton]at he
    subst he;exact(hpm ht hm).symm
  ·rw[List.map_append,List.pairwise_append]
   refine⟨a3,List.pairwise_singleton _ _,fun a ha b hb=> ?_⟩;obtain⟨e,he,rfl⟩:=List.mem_map.1 ha;simp at hb;rw[hb];exact a6 e he more b2 (.inr (.inl ht))
  ·rcases List.mem_append.1 he with he|he
   ·exact hbx e he
   ·rw[List.mem_singleton]at he
    subst he;exact hm
  ·rw[List.map_append,List.mem_append,a4]
   constructor
   ·rintro((h|⟨h1,h2,h3⟩)|h)
    ·exact .inl h
    ·exact .inr ⟨h1,.inl h2,h3⟩
    ·simp at h
     exact .inr ⟨b1,.inr hm,h⟩
   ·rintro(h|⟨h1,h2,h3⟩)
    ·exact .inl (.inl h)
    ·exact .inr (by simp[h3])
 ·rw[if_neg hc]
  refine hmid _ a2 a3 hbx (fun q=> ?_);rw[a4];constructor
  ·rintro(h|⟨h1,h2,h3⟩)
   ·exact .inl h
   ·exact .inr ⟨h1,.inl h2,h3⟩
  ·rintro(h|⟨h1,h2,h3⟩)
   ·exact .inl h
   ·refine .inr ⟨h1, ?_,h3⟩
    rcases h2 with h2|h2
    ·exact h2
    ·cases td with
     |true=>rfl
     |false=>exact absurd ⟨rfl,h2⟩ hc
theorem Km8 {lv:List XJ} {bu se more:Int} (hr:Qd7 lv): ∀k,k≤lv.length→Xv3 lv bu se more (lv.take k) (ptS lv bu se more (lv.take k)):=by
 intro k
 induction k with
 |zero=>intro _;exact Km6 lv bu se more
 |succ k ih=>
  intro hk;have h1:=ih (by omega);have e:lv=lv.take k++lv[k]::lv.drop (k+1):=by rw[←List.drop_eq_getElem_cons (by omega),List.take_append_drop]
  have e2:lv.take (k+1)=lv.take k++ [lv[k]]:=List.take_succ_eq_append_getElem (by omega);have key: ∀L:List XJ,L=lv.take k++lv[k]::lv.drop (k+1)→Qd7 L→Xv3 L bu se more (lv.take k) (ptS L bu se more (lv.take k))→Xv3 L bu se more (lv.take k++ [lv[k]]) (ptS L bu se more (lv.take k++ [lv[k]])):=by
   rintro L rfl h2 h3;exact Kf9 h2 h3
  rw[e2];exact key lv e hr h1
theorem Xf9 {lv:List XJ} {bu se more:Int} (hr:Qd7 lv):
  (∀e∈Q9 lv bu se more,e=ptI lv bu se e.1)∧((Q9 lv bu se more).map (·.1)).Pairwise (· < ·)∧ ∀q,q∈(Q9 lv bu se more).map (·.1)↔(∃x∈lv,x.1=q)∨(1≤more∧q=more):=by
 have h:=Km8 (bu:=bu) (se:=se) (more:=more) hr lv.length (Nat.le_refl _)
 rw[List.take_length]at h
 have hd:(ptS lv bu se more lv).d=bu:=by
  have h2:=Km7 (pre:=lv) (post:= []) (bu:=bu) (se:=se) (more:=more);rw[List.append_nil]at h2;rw[h2];rfl
 have hs:(ptS lv bu se more lv).s=Qm9 lv se:=Kl8 _ _ _ _ _
 unfold Q9
 dsimp only
 generalize hst:ptS lv bu se more lv=st at h hd hs
 obtain⟨d,s,td,out⟩:=st
 dsimp only at hd hs
 obtain⟨a1,a2,a3,a4,a5,a6⟩:=h
 dsimp only at a1 a2 a3 a4 a5 a6⊢
 cases td with
 |true=>
  rw[if_neg (by simp)];refine⟨a2,a3,fun q=> ?_⟩;rw[a4];constructor
  ·rintro(h|⟨h1,-,h3⟩)
   ·exact .inl h
   ·exact .inr ⟨h1,h3⟩
  ·rintro(h|⟨h1,h3⟩)
   ·exact .inl h
   ·exact .inr ⟨h1,rfl,h3⟩
 |false=>
  rw[if_pos rfl];obtain⟨b1,b2⟩:=a5 rfl;have hp:ptI lv bu se more=(more,d,s):=by
   have e:lv=lv++ []:=by simp
   unfold ptI;rw[e,Xv1 b2 (fun y hy=>by cases hy),Xv2 (fun y hy=>Int.le_of_lt (b2 y hy)) (fun y hy=>by cases hy),hd,hs]
   rfl
  refine⟨fun e he=> ?_, ?_,fun q=> ?_⟩
  ·rcases List.mem_append.1 he with he|he
   ·exact a2 e he
   ·rw[List.mem_singleton]at he
    subst he;exact hp.symm
  ·rw[List.map_append,List.pairwise_append]
   refine⟨a3,List.pairwise_singleton _ _,fun a ha b hb=> ?_⟩;obtain⟨e,he,rfl⟩:=List.mem_map.1 ha;simp at hb;rw[hb];exact a6 e he more b2 (.inr (.inl rfl))
  ·rw[List.map_append,List.mem_append,a4]
   constructor
   ·rintro((h|⟨h1,h2,h3⟩)|h)
    ·exact .inl h
    ·cases h2
    ·simp at h;exact .inr ⟨b1,h⟩
   ·rintro(h|⟨h1,h3⟩)
    ·exact .inl (.inl h)
    ·exact .inr (by simp[h3])
end Go.Proofs.YtnlngicnfegjgaaGreat
