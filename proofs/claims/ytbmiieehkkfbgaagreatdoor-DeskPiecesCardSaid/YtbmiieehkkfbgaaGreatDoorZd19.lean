/- Contracts and walks that the law's proof needs. -/
import Derived.WalkKit
import Derived.WalkLawsBesides
import Derived.WalkSpells
import Derived.Maps.Own
import Derived.Test.YtbmiieehkkfbgaaGreatDoorZd14
import Derived.Test.YtbmiieehkkfbgaaGreatDoorZd16
set_option linter.unusedVariables false
set_option maxRecDepth 100000
set_option maxHeartbeats 8000000
namespace Go.Proofs.YtbmiieehkkfbgaaGreatDoor
open Go.RowKit
def noH:HS:=⟨none,0,none,0,[],[]⟩
theorem Qx9 (w:World):Calls Tryz.prog 94 #[] w fun e w'=>Below w.heap.size w w'∧ ∃b G,(∀i,G i→w.heap.size≤i)∧e= .returned (.pointer (some ⟨b,0,none⟩))∧Q1 w' b G [] []:=by
 have hnew:Calls Tryz.prog 125 #[.int .i64 100] w _:=Ze0 w 100 (by omega) (by omega)
 have HN:=QQ hnew
 have hmm:= @run_makeMap Tryz.prog
 clear hnew
 go_enter Tryz.func94,Tryz.ntmps94
 go_wp2_with (go_at_call 125;refine HN.out.mono ?_;rintro e w1 ⟨hB,a,F,hF,rfl,hA⟩;have HB:=QQ hB;have HF:=QQ hF;have HA:=QQ hA;clear hB hF hA)
 go_ret
 have hb1:Below w1.heap.size w1 (w1.alloc (.map #[] 0)):=(Below.refl _ _).alloc (Nat.le_refl _) _
 have hb2:Below w1.heap.size w1 ((w1.alloc (.map #[] 0)).alloc (.cells (IQ a w1.heap.size fun _=>noH) 182)):=hb1.alloc (by simp) _
 have hA2:=HA.out.below hb2
 have hM:I7 ((w1.alloc (.map #[] 0)).alloc (.cells (IQ a w1.heap.size fun _=>noH) 182)) w1.heap.size (fun _=>none):=(I7.made w1).alloc _
 have hsz:=HB.out.size
 refine⟨HB.out.trans (hb2.mono hsz),w1.heap.size+1,V6 (w1.heap.size+1) w1.heap.size F (fun _=>noH), ?_,by simp,a,F,_,0,w1.heap.size,_,fun _=>noH,fun i=>if i=w1.heap.size+1 then 1 else if i=w1.heap.size then 2 else 3,⟨?_,hA2,hM, ?_,if_pos rfl, ?_, ?_⟩, ?_,fun i=>Iff.rfl,rfl,rfl⟩
 ·rintro i (rfl|rfl|hi|hi|hi)
  ·omega
  ·exact hsz
  ·exact HF.out i hi
  ·rcases hi with hi|hi|⟨q,hq,_⟩
   ·cases hi
   ·cases hi
   ·cases hq
  ·rcases hi with hi|hi|⟨q,hq,_⟩
   ·cases hi
   ·cases hi
   ·cases hq
 ·have:=QJ.new (w1.alloc (.map #[] 0)) 182 (IQ a w1.heap.size fun _=>noH)
  rwa [World.size_alloc]at this
 ·intro s hs
  exact⟨⟨rfl,.inl ⟨rfl,rfl⟩⟩,⟨rfl,.inl ⟨rfl,rfl⟩⟩,fun q hq=>(by cases hq),fun g hg=>(by cases hg),fun g hg=>(by cases hg),fun q hq=>(by cases hq),List.nodup_nil⟩
 ·rw[if_neg (by omega),if_pos rfl]
 ·intro i hi
  have:=HA.out.fp hi;rw[if_neg (by omega),if_neg (by omega)]
 ·exact⟨fun s hs=>⟨fun x hx=>(by cases hx),fun q hq=>(by cases hq),List.Pairwise.nil⟩,fun s hs q hq=>(by cases hq),fun x hx=>(by cases hx),fun x hx=>(by cases hx),fun k v hv=>(by cases hv),List.nodup_nil,rfl,fun x hx=>(by cases hx)⟩
theorem Xk1 (w:World) (b:Nat) (G:Nat→Prop) (L1 L2:List QX) (h:Q1 w b G L1 L2):Calls Tryz.prog 115 #[.pointer (some ⟨b,0,none⟩)] w fun e w'=>e= .returned (.int .i64 (L1.length+L2.length:Nat))∧w=w':=by
 obtain⟨a,F,M,n,r,f,H,reg,hM,hS,hG,rfl,rfl⟩:=h
 have z0:=hM.cells.1
 have HA:=QQ hM.ar
 have HE:Hid (n=(H 1).L.length+ (H 2).L.length):=QQ (by rw[hS.cnt];simp[X0,HS.L,IX])
 clear hM hS hG
 go_enter Tryz.func115,Tryz.ntmps115
 go_wp2_with (go_at_call 141;refine(Kv5 HA.out).mono ?_;rintro e w' ⟨rfl,rfl⟩)
 go_ret
 exact⟨O9 (by rw[HE.out]),rfl⟩
def Kw6 (f:XJ→Option Int) (x:XJ) (v:Option Int):XJ→Option Int:=fun y=>if y=x then v else f y
def Qw2 (o:QX):XJ:=(o.side,o.kind,o.price)
def Qk0 (x:XJ) (l:List QX):Int:=(l.map fun o=>if Qw2 o=x then o.qty else 0).sum
theorem Jp4 {x:XJ} {l:List QX} (h:Jc2 l):0≤Qk0 x l:=by
 induction l with
 |nil=>exact Int.le_refl 0
 |cons o t ih=>
  have h1:=ih (fun y hy=>h y (by simp[hy]));have h2:=Ja6 (h o (by simp));unfold Qk0 at*;rw[List.map_cons,List.sum_cons]
  split<;>omega
theorem Kw7 {l:List QX} (h:Jc2 l) {o:QX} (ho:o∈l):1≤Qk0 (Qw2 o) l:=by
 induction l with
 |nil=>cases ho
 |cons y t ih=>
  have h0:Jc2 t:=fun z hz=>h z (by simp[hz])
  have h1:=Ja6 (h y (by simp));have h2:=Jp4 (x:=Qw2 o) h0;rcases List.mem_cons.1 ho with rfl|ho
  ·unfold Qk0 at*
   rw[List.map_cons,List.sum_cons,if_pos rfl];omega
  ·have h3:=ih h0 ho
   unfold Qk0 at*;rw[List.map_cons,List.sum_cons]
   split<;>omega
theorem Xe1 {x:XJ} {l:List QX} (h:Qk0 x l≠0): ∃o∈l,Qw2 o=x:=by
 induction l with
 |nil=>exact absurd rfl h
 |cons y t ih=>
  by_cases e:Qw2 y=x
  ·exact⟨y,by simp,e⟩
  ·obtain⟨o,h1,h2⟩:=ih (fun h0=>h (by unfold Qk0 at*;rw[List.map_cons,List.sum_cons,if_neg e,h0];rfl))
   exact⟨o,by simp[h1],h2⟩
theorem Ze7 (g:XJ→Int) (x:XJ) (q:Int): ∀K:List XJ,K.Nodup→(K.map fun y=>g y* (if x=y then q else 0)).sum=if x∈K then g x*q else 0:=by
 intro K
 induction K with
 |nil=>intro _;simp
 |cons y t ih=>
  intro h;obtain⟨h1,h2⟩:=List.nodup_cons.1 h;rw[List.map_cons,List.sum_cons,ih h2]
  by_cases e:x=y
  ·subst e
   rw[if_pos rfl,if_neg h1,if_pos (by simp)];omega
  ·rw[if_neg e]
   by_cases e2:x∈t
   ·rw[if_pos e2,if_pos (by simp[e2])]
    omega
   ·rw[if_neg e2,if_neg (by simp[e,e2])]
    omega
theorem Ze8 (F G:XJ→Int) (K:List XJ):(K.map fun y=>F y+G y).sum=(K.map F).sum+ (K.map G).sum:=by
 induction K with
 |nil=>rfl
 |cons y t ih=>rw[List.map_cons,List.map_cons,List.map_cons,List.sum_cons,List.sum_cons,List.sum_cons,ih];omega
theorem Xs9 (g:XJ→Int) (K:List XJ) (hK:K.Nodup): ∀l:List QX,(∀o∈l,Qw2 o∈K)→(l.map fun o=>g (Qw2 o)*o.qty).sum=(K.map fun x=>g x*Qk0 x l).sum:=by
 intro l
 induction l with
 |nil=>
  intro _;have e: ∀K:List XJ,(K.map fun x=>g x*Qk0 x []).sum=0:=by
   intro K
   induction K with
   |nil=>rfl
   |cons y t ih=>
    rw[List.map_cons,List.sum_cons,ih];unfold Qk0;simp
  rw[e];rfl
 |cons o t ih=>
  intro h;rw[List.map_cons,List.sum_cons,ih (fun y hy=>h y (by simp[hy]))];have e:(fun x=>g x*Qk0 x (o::t))=fun x=>g x* (if Qw2 o=x then o.qty else 0)+g x*Qk0 x t:=by
   funext x
   unfold Qk0;rw[List.map_cons,List.sum_cons,Int.mul_add]
  rw[e,Ze8,Ze7 g (Qw2 o) o.qty K hK,if_pos (h o (by simp))]
theorem Xe2 (F:QX→Int) (l:List QX): ∀s:Int,l.foldl (fun s o=>s+F o) s=s+ (l.map F).sum:=by
 induction l with
 |nil=>intro s;simp
 |cons o t ih=>intro s;rw[List.foldl_cons,ih,List.map_cons,List.sum_cons];omega
def gD (p:Int) (x:XJ):Int:=if x.1=1∧(x.2.1=2∨p≤x.2.2)then 1 else 0
def gS (p:Int) (x:XJ):Int:=if x.1=2∧(x.2.1=2∨x.2.2≤p)then 1 else 0
theorem Kw8 (p:Int) (l:List QX):Qp1 p l=(l.map fun o=>gD p (Qw2 o)*o.qty).sum:=by
 unfold Qp1
 rw[Xe2,Int.zero_add]
 congr 1
 refine List.map_congr_left fun o _=> ?_
 unfold Je1 gD Qw2
 dsimp only
 split<;>simp
theorem Kw9 (p:Int) (l:List QX):Qp2 p l=(l.map fun o=>gS p (Qw2 o)*o.qty).sum:=by
 unfold Qp2
 rw[Xe2,Int.zero_add]
 congr 1
 refine List.map_congr_left fun o _=> ?_
 unfold Je2 gS Qw2
 dsimp only
 split<;>simp
structure Qp8 (lv:List XJ) (bu se:Int) (f:XJ→Option Int):Prop where
 b:(f (1,2,0)).getD 0=bu
 s:(f (2,2,0)).getD 0=se
 lb: ∀p,(f (1,0,p)).getD 0=(YV lv p).1
 ls: ∀p,(f (2,0,p)).getD 0=(YV lv p).2
 pos: ∀x v,f x=some v→1≤v∧(x=(1,2,0)∨x=(2,2,0)∨ ∃p,1≤p∧p≤1000000∧(x=(1,0,p)∨x=(2,0,p)))
structure Xe3 (f:XJ→Option Int) (l:List QX):Prop where
 ok:Jc2 l
 sum: ∀x,Qk0 x l=(f x).getD 0
theorem Qk9 {lv:List XJ} (h:Qd0 lv) {y:XJ} (hy:y∈lv):YV lv y.1=y.2:=by
 obtain⟨k,hk,rfl⟩:=List.mem_iff_getElem.1 hy
 have e:lv=lv.take k++lv[k]::lv.drop (k+1):=by rw[←List.drop_eq_getElem_cons hk,List.take_append_drop]
 have key: ∀L:List XJ,L=lv.take k++lv[k]::lv.drop (k+1)→Qd0 L→YV L lv[k].1=lv[k].2:=by
  rintro L rfl h2;exact Ju8 h2
 exact key lv e h
theorem Xe4 {lv:List XJ} {p:Int} (h:YV lv p≠(0,0)): ∃y∈lv,y.1=p:=by
 rcases Classical.em (∃y∈lv,y.1=p)with h1|h1
 ·exact h1
 ·exact absurd (Jh4 fun x hx e=>h1 ⟨x,hx,e⟩) h
def Qt9 (lv:List XJ):List XJ:= [((1,2,0):XJ),(2,2,0)]++(lv.map (fun y=>((1,0,y.1):XJ))++lv.map (fun y=>((2,0,y.1):XJ)))
theorem Jw1 {lv:List XJ} (h:Qd0 lv):(Qt9 lv).Nodup:=by
 have hn: ∀s:Int,(lv.map (fun y=>((s,0,y.1):XJ))).Nodup:=fun s=>by
  rw[List.Nodup,List.pairwise_map];refine h.imp fun {a b} hab e=> ?_
  injection e with _ e
  injection e with _ e
  omega
 unfold Qt9
 refine List.nodup_append.2 ⟨by simp,List.nodup_append.2 ⟨hn 1,hn 2, ?_⟩, ?_⟩
 ·intro a ha b hb e
  obtain⟨y,-,rfl⟩:=List.mem_map.1 ha;obtain⟨z,-,rfl⟩:=List.mem_map.1 hb;injection e with e _
  omega
 ·intro a ha b hb e
  subst e;rcases List.mem_append.1 hb with hb|hb
  all_goals
   obtain⟨y,-,rfl⟩:=List.mem_map.1 hb;simp at ha
section
variable {lv:List XJ} {bu se more:Int} {f:XJ→Option Int} {l:List QX}
theorem Je9 (hr:Qp8 lv bu se f) (hm:Xe3 f l): ∀o∈l,Qw2 o∈Qt9 lv:=by
 intro o ho
 have h1:=Kw7 hm.ok ho
 rw[hm.sum]at h1
 cases hf:f (Qw2 o)with
 |none=>rw[hf]at h1;simp at h1
 |some v=>
  obtain⟨h2,h3⟩:=hr.pos _ _ hf;unfold Qt9;rcases h3 with h3|h3|⟨p,-,-,h3|h3⟩
  ·rw[h3];simp
  ·rw[h3];simp
  ·have h4:=hr.lb p
   rw[←h3,hf]at h4;obtain⟨y,hy,hyp⟩:=Xe4 (lv:=lv) (p:=p) (fun e=>by rw[e]at h4;simp at h4;omega);rw[h3];refine List.mem_append.2 (.inr (List.mem_append.2 (.inl (List.mem_map.2 ⟨y,hy,by rw[hyp]⟩))))
  ·have h4:=hr.ls p
   rw[←h3,hf]at h4;obtain⟨y,hy,hyp⟩:=Xe4 (lv:=lv) (p:=p) (fun e=>by rw[e]at h4;simp at h4;omega);rw[h3];refine List.mem_append.2 (.inr (List.mem_append.2 (.inr (List.mem_map.2 ⟨y,hy,by rw[hyp]⟩))))
theorem Kn0 (q:XJ→Bool): ∀L:List XJ,Y2 (L.filter q) 0=(L.map fun y=>if q y=true then y.2.1 else 0).sum:=by
 intro L
 induction L with
 |nil=>rfl
 |cons y t ih=>
  rw[List.map_cons,List.sum_cons,←ih]
  by_cases e:q y=true
  ·rw[List.filter_cons_of_pos e,if_pos e]
   have h:=Qr2 (t.filter q) (0+y.2.1);have h2:Y2 (y::t.filter q) 0=Y2 (t.filter q) (0+y.2.1):=rfl;rw[h2,h];omega
  ·rw[List.filter_cons_of_neg e,if_neg e];omega
theorem Kn1 (q:XJ→Bool): ∀L:List XJ,Qn5 (L.filter q) 0=(L.map fun y=>if q y=true then y.2.2 else 0).sum:=by
 intro L
 induction L with
 |nil=>rfl
 |cons y t ih=>
  rw[List.map_cons,List.sum_cons,←ih]
  by_cases e:q y=true
  ·rw[List.filter_cons_of_pos e,if_pos e]
   have h:=Xd8 (t.filter q) (0+y.2.2);have h2:Qn5 (y::t.filter q) 0=Qn5 (t.filter q) (0+y.2.2):=rfl;rw[h2,h];omega
  ·rw[List.filter_cons_of_neg e,if_neg e];omega
theorem Xt0 {α:Type} (F:α→Int) (K:List α) (h: ∀x∈K,F x=0):(K.map F).sum=0:=by
 induction K with
 |nil=>rfl
 |cons y t ih=>rw[List.map_cons,List.sum_cons,ih (fun x hx=>h x (by simp[hx])),h y (by simp)];rfl
theorem Kx0 (hk:Jb9 lv) (hr:Qp8 lv bu se f) (hm:Xe3 f l) (p:Int):Qp1 p l=Kv8 lv bu p:=by
 rw[Kw8,Xs9 (gD p) (Qt9 lv) (Jw1 hk.rank) l (Je9 hr hm)]
 unfold Qt9 Kv8
 rw[Qr2,Kn0,List.map_append,List.sum_append,List.map_append,List.sum_append,List.map_map,List.map_map]
 rw[Xt0 ((fun x=>gD p x*Qk0 x l)∘fun y=>((2,0,y.1):XJ)) lv (fun y _=>by simp[gD])]
 have e1:([((1,2,0):XJ),(2,2,0)].map fun x=>gD p x*Qk0 x l).sum=bu:=by
  have h1:=hm.sum (1,2,0);rw[hr.b]at h1;simp[gD,h1]
 rw[e1,Int.add_zero]
 congr 2
 refine List.map_congr_left fun y hy=> ?_
 show gD p (1,0,y.1)*Qk0 (1,0,y.1) l=_
 rw[hm.sum,hr.lb,Qk9 hk.rank hy]
 by_cases e:p≤y.1
 ·rw[if_pos (decide_eq_true e)];simp[gD,e]
 ·rw[if_neg (by simp;omega)];simp[gD,e]
theorem Kx1 (hk:Jb9 lv) (hr:Qp8 lv bu se f) (hm:Xe3 f l) (p:Int):Qp2 p l=Kv9 lv se p:=by
 rw[Kw9,Xs9 (gS p) (Qt9 lv) (Jw1 hk.rank) l (Je9 hr hm)]
 unfold Qt9 Kv9
 rw[Xd8,Kn1,List.map_append,List.sum_append,List.map_append,List.sum_append,List.map_map,List.map_map]
 rw[Xt0 ((fun x=>gS p x*Qk0 x l)∘fun y=>((1,0,y.1):XJ)) lv (fun y _=>by simp[gS])]
 have e1:([((1,2,0):XJ),(2,2,0)].map fun x=>gS p x*Qk0 x l).sum=se:=by
  have h1:=hm.sum (2,2,0);rw[hr.s]at h1;simp[gS,h1]
 rw[e1,Int.zero_add]
 congr 2
 refine List.map_congr_left fun y hy=> ?_
 show gS p (2,0,y.1)*Qk0 (2,0,y.1) l=_
 rw[hm.sum,hr.ls,Qk9 hk.rank hy]
 by_cases e:y.1≤p
 ·rw[if_pos (decide_eq_true e)];simp[gS,e]
 ·rw[if_neg (by simp;omega)];simp[gS,e]
theorem Kb4 (hk:Jb9 lv) (hr:Qp8 lv bu se f) (hm:Xe3 f l) (q:Int):q∈V5 l more↔(∃x∈lv,x.1=q)∨(1≤more∧q=more):=by
 unfold V5
 rw[Qq6 hm.ok,List.mem_append]
 constructor
 ·rintro(h|h)
  ·split at h
   ·rename_i h1
    rw[List.mem_singleton]at h;exact .inr ⟨h1,h⟩
   ·cases h
  ·obtain⟨o,ho,rfl⟩:=List.mem_map.1 h
   obtain⟨ho,hk2⟩:=List.mem_filter.1 ho;have h1:=Je9 hr hm o ho;unfold Qt9 Qw2 at h1;simp at hk2;simp at h1;rcases h1 with h1|h1|⟨y,h1,h2,h3,h4⟩|⟨y,h1,h2,h3,h4⟩
   ·exact absurd h1.2.1 hk2
   ·exact absurd h1.2.1 hk2
   all_goals
    obtain⟨a,b,hm2⟩:=h1;exact .inl ⟨(y,a,b),hm2,h4⟩
 ·rintro(⟨x,hx,rfl⟩|⟨h1,rfl⟩)
  ·refine .inr ?_
   have h1:=hk.nz x hx;have hx1: ∀s:Int,(s=1∨s=2)→Qk0 (s,0,x.1) l≠0→x.1∈((l.filter fun o=> !(o.kind ==2)).map (·.price)):=fun s hs h2=>by
    obtain⟨o,ho,hko⟩:=Xe1 h2;unfold Qw2 at hko;injection hko with e1 hko
    injection hko with e2 e3
    exact List.mem_map.2 ⟨o,List.mem_filter.2 ⟨ho,by rw[e2];rfl⟩,e3⟩
   rcases h1.2.2 with h2|h2
   ·exact hx1 1 (.inl rfl) (by rw[hm.sum,hr.lb,Qk9 hk.rank hx];exact h2)
   ·exact hx1 2 (.inr rfl) (by rw[hm.sum,hr.ls,Qk9 hk.rank hx];exact h2)
  ·exact .inl (by rw[if_pos h1];simp)
theorem Xt1 (hk:Jb9 lv) (hr:Qp8 lv bu se f) (hm:Xe3 f l):Z5 l more=Q8 lv bu se more:=by
 obtain⟨h1,h2,h3⟩:=Xj9 (bu:=bu) (se:=se) (more:=more) hk.rank
 have hnd:((Q8 lv bu se more).map (·.1)).Nodup:=h2.imp (fun h=>by omega)
 have tr: ∀a b c:Int,(decide (a≤b))=true→(decide (b≤c))=true→(decide (a≤c))=true:=fun a b c h1 h2=>by simp at*;omega
 have tot: ∀a b:Int,(decide (a≤b) ||decide (b≤a))=true:=fun a b=>by simp;omega
 have hdd:dd ((V5 l more).mergeSort fun x y=>decide (x≤y))=(Q8 lv bu se more).map (·.1):=by
  rw[Kj7 (V5 l more) ((Q8 lv bu se more).map (·.1)) hnd (fun x=>(h3 x).trans (Kb4 hk hr hm x).symm)];refine List.Perm.eq_of_pairwise (le:=fun a b=>a≤b) (fun a b _ _ h1 h2=>by omega) ((List.pairwise_mergeSort tr tot _).imp (fun h=>by simpa using h)) (h2.imp (fun h=>by omega)) (List.mergeSort_perm _ _)
 unfold Z5
 rw[hdd,Qq6 hm.ok,List.map_map]
 refine Eq.trans (List.map_congr_left fun e he=> ?_) (List.map_id _)
 show Ja5 l e.1=e
 rw[h1 e he]
 unfold Ja5 ptI
 dsimp only
 rw[Kx0 hk hr hm,Kx1 hk hr hm]
def Qy0 (o:QX):XJ:=if o.kind=2 then(o.side,2,0)else(o.side,0,o.price)
def nzO (v:Int):Option Int:=if v=0 then none else some v
theorem Jw2 (v:Int):(nzO v).getD 0=v:=by unfold nzO;split<;>simp_all
theorem Qp8.has (h:Qp8 lv bu se f) {o:QX} (ho:o.side=1∨o.side=2):(f (Qy0 o)).getD 0=Qx6 lv bu se o:=by
 unfold Qy0 Qx6 Qa0
 by_cases hk:o.kind=2
 ·rw[if_pos hk,if_pos hk]
  rcases ho with hs|hs
  ·rw[hs,if_pos rfl];exact h.b
  ·rw[hs,if_neg (by decide)];exact h.s
 ·rw[if_neg hk,if_neg hk]
  rcases ho with hs|hs
  ·rw[hs,if_pos rfl];exact h.lb _
  ·rw[hs,if_neg (by decide)];exact h.ls _
def Qy1 (s:Int):Option Int→XJ
 |none=>(s,2,0)
 |some p=>(s,0,p)
def Jl2 (s:Int) (x:Int×Int):Int:=if s=1 then x.1 else x.2
theorem Xe5 {s s':Int} {k k':Option Int} (h:Qy1 s k=Qy1 s' k'):s=s'∧k=k':=by
 cases k<;>cases k'
 all_goals
  injection h with h1 h2
  injection h2 with h2 h3
 ·exact⟨h1,rfl⟩
 ·omega
 ·omega
 ·exact⟨h1,by rw[h3]⟩
theorem Jf0 (o:QX):Qy0 o=Qy1 o.side (Qa0 o):=by
 unfold Qy0 Qa0
 split<;>rfl
theorem Qp8.at_ (h:Qp8 lv bu se f) (s:Int) (hs:s=1∨s=2) (k:Option Int):(f (Qy1 s k)).getD 0=Jl2 s (Qo3 lv bu se k):=by
 rcases hs with rfl|rfl<;>cases k
 ·exact h.b
 ·exact h.lb _
 ·exact h.s
 ·exact h.ls _
theorem Qp8.of (h: ∀s,(s=1∨s=2)→ ∀k,(f (Qy1 s k)).getD 0=Jl2 s (Qo3 lv bu se k)) (hp: ∀x v,f x=some v→1≤v∧(x=(1,2,0)∨x=(2,2,0)∨ ∃p,1≤p∧p≤1000000∧(x=(1,0,p)∨x=(2,0,p)))):Qp8 lv bu se f:=
 ⟨h 1 (.inl rfl) none,h 2 (.inr rfl) none,fun p=>h 1 (.inl rfl) (some p),fun p=>h 2 (.inr rfl) (some p),hp⟩
theorem Qp8.turn (h:Qp8 lv bu se f) {o:QX} (ho:Qb0 o) {q:Int} (hq:q=1∨q= -1) (hp:q= -1→o.qty≤Qx6 lv bu se o) {lv':List XJ} {bu' se':Int} (hc:Jb1 lv bu se o q lv' bu' se') (h0:0≤Qx6 lv bu se o):
  Qp8 lv' bu' se' (Kw6 f (Qy0 o) (nzO (Qx6 lv bu se o+q*o.qty))):=by
 have hhas:Qx6 lv bu se o=Jl2 o.side (Qo3 lv bu se (Qa0 o)):=rfl
 refine Qp8.of (fun s hs k=> ?_) (fun x v hx=> ?_)
 ·rw[hc.2 k]
  unfold Kw6
  by_cases e:Qy1 s k=Qy0 o
  ·rw[if_pos e,Jw2]
   rw[Jf0]at e;obtain⟨e1,e2⟩:=Xe5 e;rw[if_pos e2,hhas,e1,e2];unfold Jl2 dB dS
   by_cases h1:o.side=1
   ·simp only[if_pos h1]
   ·simp only[if_neg h1]
  ·rw[if_neg e,h.at_ s hs k]
   by_cases e2:k=Qa0 o
   ·rw[if_pos e2]
    have hne:s≠o.side:=fun e1=>e (by rw[Jf0,e1,e2])
    unfold Jl2 dB dS;rcases ho.1 with h1|h1<;>rcases hs with rfl|rfl
    ·exact absurd h1.symm hne
    ·simp[h1]
    ·simp[h1]
    ·exact absurd h1.symm hne
   ·rw[if_neg e2]
 ·unfold Kw6 at hx
  by_cases e:x=Qy0 o
  ·rw[if_pos e]at hx
   unfold nzO at hx
   split at hx
   ·cases hx
   ·rename_i hz
    cases hx;have hq2:=ho.2.1;refine⟨by rcases hq with rfl|rfl<;>omega, ?_⟩;rw[e];unfold Qy0
    by_cases hk:o.kind=2
    ·rw[if_pos hk]
     rcases ho.1 with h1|h1<;>simp[h1]
    ·rw[if_neg hk]
     have h3:=ho.2.2.resolve_left hk;refine .inr (.inr ⟨o.price,h3.1,h3.2, ?_⟩);rcases ho.1 with h1|h1<;>simp[h1]
  ·rw[if_neg e]at hx
   exact h.pos x v hx
def Xe6 (h:List XJ) (f:XJ→Option Int):Prop:= ∀x v,f x=some v→v≤1000000*h.count x
theorem Xe6.add {h:List XJ} (hh:Xe6 h f) (x:XJ) {q v:Int} (hq:q≤1000000) (hv:v≤(f x).getD 0+q) (h0:0≤(f x).getD 0):Xe6 (x::h) (Kw6 f x (nzO v)):=by
 intro y u hu
 unfold Kw6 at hu
 by_cases e:y=x
 ·subst e
  rw[if_pos rfl]at hu;unfold nzO at hu
  split at hu
  ·cases hu
  ·cases hu
   rw[List.count_cons_self]
   cases hf:f y with
   |none=>rw[hf]at hv;simp at hv;omega
   |some a=>have:=hh y a hf;rw[hf]at hv;simp at hv;omega
 ·rw[if_neg e]at hu
  have h1:=hh y u hu;have h2:=List.count_le_count_cons (a:=y) (b:=x) (l:=h);omega
theorem Xe6.bound {h:List XJ} (hh:Xe6 h f) (x:XJ) (hl:h.length≤100):(f x).getD 0≤100000000:=by
 cases hf:f x with
 |none=>simp
 |some v=>
  have h1:=hh x v hf;have h2:=List.count_le_length (a:=x) (l:=h);simp;omega
theorem Qp8.nonneg (h:Qp8 lv bu se f) (x:XJ):0≤(f x).getD 0:=by
 cases hf:f x with
 |none=>simp
 |some v=>have:=(h.pos x v hf).1;simp;omega
theorem Qp8.mild (h:Qp8 lv bu se f) (hk:Jb9 lv) {hs:List XJ} (hh:Xe6 hs f) (hl:hs.length≤100) (hn:lv.length≤100):Je7 lv bu se:=by
 refine⟨?_, ?_,fun x hx=> ?_,fun x hx=> ?_,by omega⟩
 ·have h1:=h.nonneg (1,2,0)
  have h2:=hh.bound (1,2,0) hl;rw[h.b]at h1 h2;omega
 ·have h1:=h.nonneg (2,2,0)
  have h2:=hh.bound (2,2,0) hl;rw[h.s]at h1 h2;omega
 ·have h1:=h.nonneg (1,0,x.1)
  have h2:=hh.bound (1,0,x.1) hl;rw[h.lb,Qk9 hk.rank hx]at h1 h2;omega
 ·have h1:=h.nonneg (2,0,x.1)
  have h2:=hh.bound (2,0,x.1) hl;rw[h.ls,Qk9 hk.rank hx]at h1 h2;omega
theorem Je7.small (h:Je7 lv bu se):Jc5 lv bu se:=
 ⟨⟨h.b.1,by have:=h.b.2;omega⟩,⟨h.s.1,by have:=h.s.2;omega⟩,fun x hx=>⟨by have:=(h.lb x hx).2;omega,by have:=(h.ls x hx).2;omega⟩,h.n⟩
theorem Xt2 {l:List QX} (hl:l.length≤100) (hp: ∀o∈l,o.kind≠2→1≤o.price∧o.price≤1000000) (hm:more≤1000000): ∀y∈Z5 l more,-1099511627776≤y.1∧y.1≤1099511627776∧0≤y.2.1∧y.2.1≤100000000∧0≤y.2.2∧y.2.2≤100000000:=by
 intro y hy
 obtain⟨q,hq,rfl⟩:=List.mem_map.1 hy
 have hq2:1≤q∧q≤1000000:=by
  have hq:=(Xy2 _ _).1 hq;unfold V5 at hq;rcases List.mem_append.1 hq with hq|hq
  ·split at hq
   ·simp at hq;omega
   ·cases hq
  ·obtain⟨o,ho,rfl⟩:=List.mem_map.1 hq
   obtain⟨h1,h2⟩:=List.mem_filter.1 ho;simp at h2;exact hp o (List.mem_filter.1 h1).1 h2
 have h1:=Xx9 (p:=q) (Xo1 (l:=l))
 have h2:=Xy0 (p:=q) (Xo1 (l:=l))
 have h3:(Qo0 l).length≤l.length:=List.length_filter_le okO l
 have h4:((Qo0 l).length:Int)≤100:=by omega
 unfold Ja5
 dsimp only
 omega
end
theorem Kx2 {l l':List Int} (h:l.Perm l'):l.sum=l'.sum:=by
 induction h with
 |nil=>rfl
 |cons x _ ih=>rw[List.sum_cons,List.sum_cons,ih]
 |swap x y l=>simp only[List.sum_cons];omega
 |trans _ _ h1 h2=>exact h1.trans h2
def Q3 (s:Int) (k:Option Int) (l:List QX):Int:=(l.map fun o=>if o.side=s∧Qa0 o=k then o.qty else 0).sum
theorem Qb8 (s:Int) (k:Option Int) (o:QX) (l:List QX):Q3 s k (o::l)=(if o.side=s∧Qa0 o=k then o.qty else 0)+Q3 s k l:=by unfold Q3;rw[List.map_cons,List.sum_cons]
theorem U7 (s:Int) (k:Option Int) (l l':List QX):Q3 s k (l++l')=Q3 s k l+Q3 s k l':=by unfold Q3;rw[List.map_append,List.sum_append]
theorem Xe7 {s:Int} {k:Option Int} {l l':List QX} (h:l.Perm l'):Q3 s k l=Q3 s k l':=Kx2 (h.map _)
theorem Qh2 {s:Int} {k:Option Int} {l:List QX} (h: ∀o∈l,Qb0 o):0≤Q3 s k l∧Q3 s k l≤1000000*l.length:=by
 induction l with
 |nil=>exact⟨Int.le_refl _,Int.le_refl _⟩
 |cons o t ih=>
  rw[Qb8,List.length_cons];have h1:=ih (fun x hx=>h x (by simp[hx]));have h2:=(h o (by simp)).2.1
  split<;>omega
theorem Kx3 {s:Int} {k:Option Int} {l:List QX} (h:Q3 s k l≠0): ∃o∈l,o.side=s∧Qa0 o=k:=by
 induction l with
 |nil=>exact absurd rfl h
 |cons o t ih=>
  rw[Qb8]at h
  by_cases e:o.side=s∧Qa0 o=k
  ·exact⟨o,by simp,e⟩
  ·rw[if_neg e]at h
   obtain⟨x,hx,hx2⟩:=ih (by omega);exact⟨x,by simp[hx],hx2⟩
theorem Kx4 {l:List QX} (h: ∀o∈l,Qb0 o) {o:QX} (ho:o∈l):o.qty≤Q3 o.side (Qa0 o) l:=by
 obtain⟨a,b,rfl⟩:=List.append_of_mem ho
 rw[U7,Qb8,if_pos ⟨rfl,rfl⟩]
 have h1:=Qh2 (s:=o.side) (k:=Qa0 o) (l:=a) (fun x hx=>h x (by simp[hx]))
 have h2:=Qh2 (s:=o.side) (k:=Qa0 o) (l:=b) (fun x hx=>h x (by simp[hx]))
 omega
def Qd3 (lv:List XJ) (bu se:Int) (g:Int→Option Int→Int):Prop:= ∀s,(s=1∨s=2)→ ∀k,Jl2 s (Qo3 lv bu se k)=g s k
theorem Qd3.has {lv:List XJ} {bu se:Int} {g:Int→Option Int→Int} (h:Qd3 lv bu se g) {o:QX} (ho:o.side=1∨o.side=2):Qx6 lv bu se o=g o.side (Qa0 o):=by
 rw[←h o.side ho (Qa0 o)]
 rfl
theorem Qd3.chg {lv lv':List XJ} {bu se bu' se':Int} {g:Int→Option Int→Int} (h:Qd3 lv bu se g) {o:QX} (ho:o.side=1∨o.side=2) {q:Int} (hc:Jb1 lv bu se o q lv' bu' se'):
  Qd3 lv' bu' se' (fun s k=>g s k+if o.side=s∧Qa0 o=k then q*o.qty else 0):=by
 intro s hs k
 show Jl2 s (Qo3 lv' bu' se' k)=g s k+if o.side=s∧Qa0 o=k then q*o.qty else 0
 rw[hc.2 k]
 by_cases e:k=Qa0 o
 ·rw[if_pos e]
  have h1:=h s hs k;unfold Jl2 at h1⊢;unfold dB dS;rcases hs with rfl|rfl
  ·rw[if_pos rfl]at h1⊢
   dsimp only at h1⊢;rw[h1];rcases ho with h2|h2
   ·rw[if_pos h2,if_pos ⟨h2,e.symm⟩]
   ·rw[if_neg (by omega),if_neg (by omega)];omega
  ·rw[if_neg (by decide)]at h1⊢
   dsimp only at h1⊢;rw[h1];rcases ho with h2|h2
   ·rw[if_pos h2,if_neg (by omega)];omega
   ·rw[if_neg (by omega),if_pos ⟨h2,e.symm⟩]
 ·rw[if_neg e,if_neg (fun x=>e x.2.symm),h s hs k]
  simp
theorem Qd3.congr {lv:List XJ} {bu se:Int} {g g':Int→Option Int→Int} (h:Qd3 lv bu se g) (e: ∀s k,(s=1∨s=2)→g s k=g' s k):Qd3 lv bu se g':=fun s hs k=>(h s hs k).trans (e s k hs)
theorem Xe8:Qd3 [] 0 0 (fun s k=>Q3 s k []):=by
 intro s hs k
 have e:Qo3 [] 0 0 k=(0,0):=by cases k<;>rfl
 rw[e]
 unfold Jl2 Q3
 split<;>rfl
theorem Xt3:Jb9 []:=⟨List.Pairwise.nil,fun x h=>(by cases h),fun x h=>(by cases h)⟩
theorem Xe9 {α:Type} [DecidableEq α]: ∀ {l l':List α},l.Nodup→(∀x∈l,x∈l')→l.length≤l'.length
 | [],_,_,_=>Nat.zero_le _
 |a::t,l',h,hs=>by
  obtain⟨h1,h2⟩:=List.nodup_cons.1 h;have ha:=hs a (by simp);have h3:=Xe9 (l':=l'.erase a) h2 (fun x hx=>(List.mem_erase_of_ne (fun e=>h1 (by rw[←e];exact hx))).2 (hs x (by simp[hx])));rw[List.length_erase_of_mem ha]at h3;have:=List.length_pos_of_mem ha;rw[List.length_cons];omega
theorem Qd3.few {lv:List XJ} {bu se:Int} {l:List QX} (hk:Jb9 lv) (h:Qd3 lv bu se (fun s k=>Q3 s k l)):lv.length≤l.length:=by
 have hnd:(lv.map (·.1)).Nodup:=by
  unfold List.Nodup;rw[List.pairwise_map];exact List.Pairwise.imp (fun h=>by omega) hk.rank
 have hsub: ∀p∈lv.map (·.1),p∈l.map (·.price):=by
  intro p hp;obtain⟨x,hx,rfl⟩:=List.mem_map.1 hp;have hz:=(hk.nz x hx).2.2;have hl:=Qk9 hk.rank hx;have key: ∃s,Q3 s (some x.1) l≠0:=by
   rcases hz with h1|h1
   ·refine⟨1,fun e=>h1 ?_⟩
    have:=h 1 (.inl rfl) (some x.1);dsimp only at this;rw[e]at this;unfold Jl2 at this;rw[if_pos rfl,show Qo3 lv bu se (some x.1)=YV lv x.1 from rfl,hl]at this;exact this
   ·refine⟨2,fun e=>h1 ?_⟩
    have:=h 2 (.inr rfl) (some x.1);dsimp only at this;rw[e]at this;unfold Jl2 at this;rw[if_neg (by decide),show Qo3 lv bu se (some x.1)=YV lv x.1 from rfl,hl]at this;exact this
  obtain⟨s,hs⟩:=key;obtain⟨o,ho,-,hk2⟩:=Kx3 hs;unfold Qa0 at hk2
  split at hk2
  ·cases hk2
  ·exact List.mem_map.2 ⟨o,ho,Option.some.inj hk2⟩
 have:=Xe9 hnd hsub
 simpa using this
theorem Qd3.mild {lv:List XJ} {bu se:Int} {g:Int→Option Int→Int} (hk:Jb9 lv) (h:Qd3 lv bu se g) (hb: ∀s k,0≤g s k∧g s k≤1000000000) (hn:lv.length≤99999):Je7 lv bu se:=by
 have v1: ∀x,Jl2 1 x=x.1:=fun x=>if_pos rfl
 have v2: ∀x,Jl2 2 x=x.2:=fun x=>if_neg (by decide)
 refine⟨?_, ?_,fun x hx=> ?_,fun x hx=> ?_,hn⟩
 ·have h1:=h 1 (.inl rfl) none
  have h2:=hb 1 none;rw[v1]at h1;have h3:bu=g 1 none:=h1;omega
 ·have h1:=h 2 (.inr rfl) none
  have h2:=hb 2 none;rw[v2]at h1;have h3:se=g 2 none:=h1;omega
 ·have h1:=h 1 (.inl rfl) (some x.1)
  have h2:=hb 1 (some x.1);rw[v1]at h1;have h3:(YV lv x.1).1=g 1 (some x.1):=h1;rw[Qk9 hk.rank hx]at h3;omega
 ·have h1:=h 2 (.inr rfl) (some x.1)
  have h2:=hb 2 (some x.1);rw[v2]at h1;have h3:(YV lv x.1).2=g 2 (some x.1):=h1;rw[Qk9 hk.rank hx]at h3;omega
def O1 (o:QX):QX:=⟨0,(Qy0 o).1,(Qy0 o).2.1,(Qy0 o).2.2,o.qty⟩
theorem Kn2 (o:QX):Qw2 (O1 o)=Qy1 o.side (Qa0 o):=by
 rw[←Jf0]
 rfl
theorem Jl3 (o:QX):(O1 o).side=o.side:=by unfold O1 Qy0;split<;>rfl
theorem Ji4 (o:QX):(O1 o).qty=o.qty:=rfl
theorem Qe9 (o:QX):(O1 o).kind=2↔o.kind=2:=by
 unfold O1 Qy0
 split
 ·simp_all
 ·simp_all
theorem Jf1 {o:QX} (h:o.kind≠2):(O1 o).price=o.price:=by unfold O1 Qy0;rw[if_neg h]
theorem Kn3 (s:Int) (k:Option Int) (l:List QX):Qk0 (Qy1 s k) (l.map O1)=Q3 s k l:=by
 unfold Qk0 Q3
 rw[List.map_map]
 congr 1
 refine List.map_congr_left fun o _=> ?_
 simp only[Function.comp]
 rw[Kn2]
 by_cases e:o.side=s∧Qa0 o=k
 ·rw[if_pos e,if_pos (by rw[e.1,e.2]),Ji4]
 ·rw[if_neg e,if_neg (fun x=>e (Xe5 x))]
theorem Kh3 (o:QX):okO (O1 o)=okO o:=by unfold okO;rw[Jl3,Ji4]
theorem Jw3 (l:List QX):Qo0 (l.map O1)=(Qo0 l).map O1:=by
 unfold Qo0
 rw[List.filter_map]
 congr 1
 refine List.filter_congr fun o _=> ?_
 simp only[Function.comp,Kh3]
theorem Ji5 {F G:QX→Int}: ∀(l:List QX) (s:Int),(∀o∈l,F (O1 o)=G o)→(l.map O1).foldl (fun s o=>s+F o) s=l.foldl (fun s o=>s+G o) s:=by
 intro l
 induction l with
 |nil=>intro s _;rfl
 |cons o t ih=>
  intro s h;rw[List.map_cons,List.foldl_cons,List.foldl_cons,h o (by simp),ih _ (fun x hx=>h x (by simp[hx]))]
theorem Kn4 (p:Int) (l:List QX):Qp1 p (l.map O1)=Qp1 p l:=by
 unfold Qp1
 refine Ji5 l 0 fun o _=> ?_
 unfold Je1
 rw[Jl3,Ji4]
 by_cases hk:o.kind=2
 ·rw[(Qe9 o).2 hk,hk]
  simp
 ·rw[Jf1 hk]
  have h2: ¬(O1 o).kind=2:=fun e=>hk ((Qe9 o).1 e)
  simp only[hk,h2]
theorem Kn5 (p:Int) (l:List QX):Qp2 p (l.map O1)=Qp2 p l:=by
 unfold Qp2
 refine Ji5 l 0 fun o _=> ?_
 unfold Je2
 rw[Jl3,Ji4]
 by_cases hk:o.kind=2
 ·rw[(Qe9 o).2 hk,hk]
  simp
 ·rw[Jf1 hk]
  have h2: ¬(O1 o).kind=2:=fun e=>hk ((Qe9 o).1 e)
  simp only[hk,h2]
theorem Xk2 (l:List QX) (more:Int):V5 (l.map O1) more=V5 l more:=by
 unfold V5
 rw[Jw3]
 congr 1
 rw[List.filter_map,List.map_map]
 have e1:(Qo0 l).filter ((fun o=> !(o.kind ==2))∘O1)=(Qo0 l).filter (fun o=> !(o.kind ==2)):=by
  refine List.filter_congr fun o _=> ?_
  simp only[Function.comp]
  by_cases hk:o.kind=2
  ·rw[(Qe9 o).2 hk,hk]
  ·have h2: ¬(O1 o).kind=2:=fun e=>hk ((Qe9 o).1 e)
   rw[YW h2,YW hk]
 rw[e1]
 refine List.map_congr_left fun o ho=> ?_
 have:=(List.mem_filter.1 ho).2
 exact Jf1 (by simpa using this)
theorem Xt4 (l:List QX) (more:Int):Z5 (l.map O1) more=Z5 l more:=by
 unfold Z5
 rw[Xk2,Jw3]
 refine List.map_congr_left fun p _=> ?_
 unfold Ja5
 rw[Kn4,Kn5]
def Xk3 (l:List QX):Prop:= ∀o∈l,Qb0 o
theorem Qd3.rel {lv:List XJ} {bu se:Int} {l:List QX} (hl:Xk3 l) (h:Qd3 lv bu se (fun s k=>Q3 s k l)):Qp8 lv bu se (fun x=>nzO (Qk0 x (l.map O1)))∧Xe3 (fun x=>nzO (Qk0 x (l.map O1))) (l.map O1):=by
 have hall:Jc2 (l.map O1):=fun o ho=>by
  obtain⟨z,hz,rfl⟩:=List.mem_map.1 ho;rw[Kh3];have h1:=hl z hz;unfold okO;rw[J0 h1.2.1.1,J0 h1.2.1.2];rcases h1.1 with e|e
  ·rw[e];rfl
  ·rw[e];rfl
 refine⟨Qp8.of (fun s hs k=> ?_) (fun x v hx=> ?_),⟨hall,fun x=>(Jw2 _).symm⟩⟩
 ·rw[Jw2,Kn3,h s hs k]
 ·unfold nzO at hx
  split at hx
  ·cases hx
  ·rename_i hne
   cases hx;have hpos:=Jp4 (x:=x) hall;refine⟨by omega, ?_⟩;obtain⟨o,ho,rfl⟩:=Xe1 hne;obtain⟨z,hz,rfl⟩:=List.mem_map.1 ho;have h1:=hl z hz;unfold O1;show Qy0 z=_∨Qy0 z=_∨_;unfold Qy0
   by_cases hk:z.kind=2
   ·rw[if_pos hk]
    rcases h1.1 with e|e
    ·exact .inl (by rw[e])
    ·exact .inr (.inl (by rw[e]))
   ·rw[if_neg hk]
    have h2:=h1.2.2.resolve_left hk;refine .inr (.inr ⟨z.price,h2.1,h2.2, ?_⟩);rcases h1.1 with e|e
    ·exact .inl (by rw[e];rfl)
    ·exact .inr (by rw[e];rfl)
theorem Qd3.points {lv:List XJ} {bu se:Int} {l:List QX} (hk:Jb9 lv) (hl:Xk3 l) (h:Qd3 lv bu se (fun s k=>Q3 s k l)) (more:Int):Q8 lv bu se more=Z5 l more:=by
 obtain⟨h1,h2⟩:=h.rel hl
 rw[←Xt1 hk h1 h2,Xt4]
end Go.Proofs.YtbmiieehkkfbgaaGreatDoor
