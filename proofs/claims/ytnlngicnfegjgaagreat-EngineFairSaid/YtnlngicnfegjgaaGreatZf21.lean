/- Contracts and walks that the law's proof needs. -/
import Derived.WalkKit
import Derived.WalkLawsBesides
import Derived.WalkSpells
import Derived.Maps.Own
import Derived.Test.YtnlngicnfegjgaaGreatZf16
import Derived.Test.YtnlngicnfegjgaaGreatZf18
set_option linter.unusedVariables false
set_option maxRecDepth 100000
set_option maxHeartbeats 8000000
namespace Go.Proofs.YtnlngicnfegjgaaGreat
open Go.RowKit
def noH:HS:=⟨none,0,none,0,[],[]⟩
theorem Qx1 (w:World):Calls Tryz.prog 20 #[] w fun e w'=>Below w.heap.size w w'∧ ∃b G,(∀i,G i→w.heap.size≤i)∧e= .returned (.pointer (some ⟨b,0,none⟩))∧Q1 w' b G [] []:=by
 have hnew:Calls Tryz.prog 43 #[.int .i64 100] w _:=Ks6 w 100 (by omega) (by omega)
 have HN:=QQ hnew
 have hmm:= @run_makeMap Tryz.prog
 clear hnew
 go_enter Tryz.func20,Tryz.ntmps20
 go_wp2_with (go_at_call 43;refine HN.out.mono ?_;rintro e w1 ⟨hB,a,F,hF,rfl,hA⟩;have HB:=QQ hB;have HF:=QQ hF;have HA:=QQ hA;clear hB hF hA)
 go_ret
 have hb1:Below w1.heap.size w1 (w1.alloc (.map #[] 0)):=(Below.refl _ _).alloc (Nat.le_refl _) _
 have hb2:Below w1.heap.size w1 ((w1.alloc (.map #[] 0)).alloc (.cells (IK a w1.heap.size fun _=>noH) 112)):=hb1.alloc (by simp) _
 have hA2:=HA.out.below hb2
 have hM:I6 ((w1.alloc (.map #[] 0)).alloc (.cells (IK a w1.heap.size fun _=>noH) 112)) w1.heap.size (fun _=>none):=(I6.made w1).alloc _
 have hsz:=HB.out.size
 refine⟨HB.out.trans (hb2.mono hsz),w1.heap.size+1,U0 (w1.heap.size+1) w1.heap.size F (fun _=>noH), ?_,by simp,a,F,_,0,w1.heap.size,_,fun _=>noH,fun i=>if i=w1.heap.size+1 then 1 else if i=w1.heap.size then 2 else 3,⟨?_,hA2,hM, ?_,if_pos rfl, ?_, ?_⟩, ?_,fun i=>Iff.rfl,rfl,rfl⟩
 ·rintro i (rfl|rfl|hi|hi|hi)
  ·omega
  ·exact hsz
  ·exact HF.out i hi
  ·rcases hi with hi|hi|⟨q,hq,_⟩
   ·cases hi
   ·cases hi
   ·cases hq
  ·rcases hi with hi|hi|⟨q,hq,_⟩
   ·cases hi
   ·cases hi
   ·cases hq
 ·have:=QJ.new (w1.alloc (.map #[] 0)) 112 (IK a w1.heap.size fun _=>noH)
  rwa [World.size_alloc]at this
 ·intro s hs
  exact⟨⟨rfl,.inl ⟨rfl,rfl⟩⟩,⟨rfl,.inl ⟨rfl,rfl⟩⟩,fun q hq=>(by cases hq),fun g hg=>(by cases hg),fun g hg=>(by cases hg),fun q hq=>(by cases hq),List.nodup_nil⟩
 ·rw[if_neg (by omega),if_pos rfl]
 ·intro i hi
  have:=HA.out.fp hi;rw[if_neg (by omega),if_neg (by omega)]
 ·exact⟨fun s hs=>⟨fun x hx=>(by cases hx),fun q hq=>(by cases hq),List.Pairwise.nil⟩,fun s hs q hq=>(by cases hq),fun x hx=>(by cases hx),fun x hx=>(by cases hx),fun k v hv=>(by cases hv),List.nodup_nil,rfl,fun x hx=>(by cases hx)⟩
theorem Xg1 (w:World) (b:Nat) (G:Nat→Prop) (L1 L2:List QX) (h:Q1 w b G L1 L2):Calls Tryz.prog 28 #[.pointer (some ⟨b,0,none⟩)] w fun e w'=>e= .returned (.int .i64 (L1.length+L2.length:Nat))∧w=w':=by
 obtain⟨a,F,M,n,r,f,H,reg,hM,hS,hG,rfl,rfl⟩:=h
 have z0:=hM.cells.1
 have HA:=QQ hM.ar
 have HE:Hid (n=(H 1).L.length+ (H 2).L.length):=QQ (by rw[hS.cnt];simp[X4,HS.L,IW])
 clear hM hS hG
 go_enter Tryz.func28,Tryz.ntmps28
 go_wp2_with (go_at_call 51;refine(Km1 HA.out).mono ?_;rintro e w' ⟨rfl,rfl⟩)
 go_ret
 exact⟨O4 (by rw[HE.out]),rfl⟩
def Kn2 (f:XJ→Option Int) (x:XJ) (v:Option Int):XJ→Option Int:=fun y=>if y=x then v else f y
def Qu9 (o:QX):XJ:=(o.side,o.kind,o.price)
def Qj9 (x:XJ) (l:List QX):Int:=(l.map fun o=>if Qu9 o=x then o.qty else 0).sum
theorem Jm8 {x:XJ} {l:List QX} (h:Ja5 l):0≤Qj9 x l:=by
 induction l with
 |nil=>exact Int.le_refl 0
 |cons o t ih=>
  have h1:=ih (fun y hy=>h y (by simp[hy]));have h2:=Qz2 (h o (by simp));unfold Qj9 at*;rw[List.map_cons,List.sum_cons]
  split<;>omega
theorem Kn3 {l:List QX} (h:Ja5 l) {o:QX} (ho:o∈l):1≤Qj9 (Qu9 o) l:=by
 induction l with
 |nil=>cases ho
 |cons y t ih=>
  have h0:Ja5 t:=fun z hz=>h z (by simp[hz])
  have h1:=Qz2 (h y (by simp));have h2:=Jm8 (x:=Qu9 o) h0;rcases List.mem_cons.1 ho with rfl|ho
  ·unfold Qj9 at*
   rw[List.map_cons,List.sum_cons,if_pos rfl];omega
  ·have h3:=ih h0 ho
   unfold Qj9 at*;rw[List.map_cons,List.sum_cons]
   split<;>omega
theorem Jz8 {x:XJ} {l:List QX} (h:Qj9 x l≠0): ∃o∈l,Qu9 o=x:=by
 induction l with
 |nil=>exact absurd rfl h
 |cons y t ih=>
  by_cases e:Qu9 y=x
  ·exact⟨y,by simp,e⟩
  ·obtain⟨o,h1,h2⟩:=ih (fun h0=>h (by unfold Qj9 at*;rw[List.map_cons,List.sum_cons,if_neg e,h0];rfl))
   exact⟨o,by simp[h1],h2⟩
theorem Kt3 (g:XJ→Int) (x:XJ) (q:Int): ∀K:List XJ,K.Nodup→(K.map fun y=>g y* (if x=y then q else 0)).sum=if x∈K then g x*q else 0:=by
 intro K
 induction K with
 |nil=>intro _;simp
 |cons y t ih=>
  intro h;obtain⟨h1,h2⟩:=List.nodup_cons.1 h;rw[List.map_cons,List.sum_cons,ih h2]
  by_cases e:x=y
  ·subst e
   rw[if_pos rfl,if_neg h1,if_pos (by simp)];omega
  ·rw[if_neg e]
   by_cases e2:x∈t
   ·rw[if_pos e2,if_pos (by simp[e2])]
    omega
   ·rw[if_neg e2,if_neg (by simp[e,e2])]
    omega
theorem Kt4 (F G:XJ→Int) (K:List XJ):(K.map fun y=>F y+G y).sum=(K.map F).sum+ (K.map G).sum:=by
 induction K with
 |nil=>rfl
 |cons y t ih=>rw[List.map_cons,List.map_cons,List.map_cons,List.sum_cons,List.sum_cons,List.sum_cons,ih];omega
theorem Xn7 (g:XJ→Int) (K:List XJ) (hK:K.Nodup): ∀l:List QX,(∀o∈l,Qu9 o∈K)→(l.map fun o=>g (Qu9 o)*o.qty).sum=(K.map fun x=>g x*Qj9 x l).sum:=by
 intro l
 induction l with
 |nil=>
  intro _;have e: ∀K:List XJ,(K.map fun x=>g x*Qj9 x []).sum=0:=by
   intro K
   induction K with
   |nil=>rfl
   |cons y t ih=>
    rw[List.map_cons,List.sum_cons,ih];unfold Qj9;simp
  rw[e];rfl
 |cons o t ih=>
  intro h;rw[List.map_cons,List.sum_cons,ih (fun y hy=>h y (by simp[hy]))];have e:(fun x=>g x*Qj9 x (o::t))=fun x=>g x* (if Qu9 o=x then o.qty else 0)+g x*Qj9 x t:=by
   funext x
   unfold Qj9;rw[List.map_cons,List.sum_cons,Int.mul_add]
  rw[e,Kt4,Kt3 g (Qu9 o) o.qty K hK,if_pos (h o (by simp))]
theorem Jz9 (F:QX→Int) (l:List QX): ∀s:Int,l.foldl (fun s o=>s+F o) s=s+ (l.map F).sum:=by
 induction l with
 |nil=>intro s;simp
 |cons o t ih=>intro s;rw[List.foldl_cons,ih,List.map_cons,List.sum_cons];omega
def gD (p:Int) (x:XJ):Int:=if x.1=1∧(x.2.1=2∨p≤x.2.2)then 1 else 0
def gS (p:Int) (x:XJ):Int:=if x.1=2∧(x.2.1=2∨x.2.2≤p)then 1 else 0
theorem Kn4 (p:Int) (l:List QX):Qo5 p l=(l.map fun o=>gD p (Qu9 o)*o.qty).sum:=by
 unfold Qo5
 rw[Jz9,Int.zero_add]
 congr 1
 refine List.map_congr_left fun o _=> ?_
 unfold Jb7 gD Qu9
 dsimp only
 split<;>simp
theorem Kn5 (p:Int) (l:List QX):Qo6 p l=(l.map fun o=>gS p (Qu9 o)*o.qty).sum:=by
 unfold Qo6
 rw[Jz9,Int.zero_add]
 congr 1
 refine List.map_congr_left fun o _=> ?_
 unfold Jb8 gS Qu9
 dsimp only
 split<;>simp
structure Qp1 (lv:List XJ) (bu se:Int) (f:XJ→Option Int):Prop where
 b:(f (1,2,0)).getD 0=bu
 s:(f (2,2,0)).getD 0=se
 lb: ∀p,(f (1,0,p)).getD 0=(YV lv p).1
 ls: ∀p,(f (2,0,p)).getD 0=(YV lv p).2
 pos: ∀x v,f x=some v→1≤v∧(x=(1,2,0)∨x=(2,2,0)∨ ∃p,1≤p∧p≤1000000∧(x=(1,0,p)∨x=(2,0,p)))
structure Xa0 (f:XJ→Option Int) (l:List QX):Prop where
 ok:Ja5 l
 sum: ∀x,Qj9 x l=(f x).getD 0
theorem Qk6 {lv:List XJ} (h:Qd7 lv) {y:XJ} (hy:y∈lv):YV lv y.1=y.2:=by
 obtain⟨k,hk,rfl⟩:=List.mem_iff_getElem.1 hy
 have e:lv=lv.take k++lv[k]::lv.drop (k+1):=by rw[←List.drop_eq_getElem_cons hk,List.take_append_drop]
 have key: ∀L:List XJ,L=lv.take k++lv[k]::lv.drop (k+1)→Qd7 L→YV L lv[k].1=lv[k].2:=by
  rintro L rfl h2;exact Jr4 h2
 exact key lv e h
theorem Xa1 {lv:List XJ} {p:Int} (h:YV lv p≠(0,0)): ∃y∈lv,y.1=p:=by
 rcases Classical.em (∃y∈lv,y.1=p)with h1|h1
 ·exact h1
 ·exact absurd (Jf1 fun x hx e=>h1 ⟨x,hx,e⟩) h
def Qs7 (lv:List XJ):List XJ:= [((1,2,0):XJ),(2,2,0)]++(lv.map (fun y=>((1,0,y.1):XJ))++lv.map (fun y=>((2,0,y.1):XJ)))
theorem Js7 {lv:List XJ} (h:Qd7 lv):(Qs7 lv).Nodup:=by
 have hn: ∀s:Int,(lv.map (fun y=>((s,0,y.1):XJ))).Nodup:=fun s=>by
  rw[List.Nodup,List.pairwise_map];refine h.imp fun {a b} hab e=> ?_
  injection e with _ e
  injection e with _ e
  omega
 unfold Qs7
 refine List.nodup_append.2 ⟨by simp,List.nodup_append.2 ⟨hn 1,hn 2, ?_⟩, ?_⟩
 ·intro a ha b hb e
  obtain⟨y,-,rfl⟩:=List.mem_map.1 ha;obtain⟨z,-,rfl⟩:=List.mem_map.1 hb;injection e with e _
  omega
 ·intro a ha b hb e
  subst e;rcases List.mem_append.1 hb with hb|hb
  all_goals
   obtain⟨y,-,rfl⟩:=List.mem_map.1 hb;simp at ha
section
variable {lv:List XJ} {bu se more:Int} {f:XJ→Option Int} {l:List QX}
theorem Jc5 (hr:Qp1 lv bu se f) (hm:Xa0 f l): ∀o∈l,Qu9 o∈Qs7 lv:=by
 intro o ho
 have h1:=Kn3 hm.ok ho
 rw[hm.sum]at h1
 cases hf:f (Qu9 o)with
 |none=>rw[hf]at h1;simp at h1
 |some v=>
  obtain⟨h2,h3⟩:=hr.pos _ _ hf;unfold Qs7;rcases h3 with h3|h3|⟨p,-,-,h3|h3⟩
  ·rw[h3];simp
  ·rw[h3];simp
  ·have h4:=hr.lb p
   rw[←h3,hf]at h4;obtain⟨y,hy,hyp⟩:=Xa1 (lv:=lv) (p:=p) (fun e=>by rw[e]at h4;simp at h4;omega);rw[h3];refine List.mem_append.2 (.inr (List.mem_append.2 (.inl (List.mem_map.2 ⟨y,hy,by rw[hyp]⟩))))
  ·have h4:=hr.ls p
   rw[←h3,hf]at h4;obtain⟨y,hy,hyp⟩:=Xa1 (lv:=lv) (p:=p) (fun e=>by rw[e]at h4;simp at h4;omega);rw[h3];refine List.mem_append.2 (.inr (List.mem_append.2 (.inr (List.mem_map.2 ⟨y,hy,by rw[hyp]⟩))))
theorem Kg4 (q:XJ→Bool): ∀L:List XJ,Y7 (L.filter q) 0=(L.map fun y=>if q y=true then y.2.1 else 0).sum:=by
 intro L
 induction L with
 |nil=>rfl
 |cons y t ih=>
  rw[List.map_cons,List.sum_cons,←ih]
  by_cases e:q y=true
  ·rw[List.filter_cons_of_pos e,if_pos e]
   have h:=Qq4 (t.filter q) (0+y.2.1);have h2:Y7 (y::t.filter q) 0=Y7 (t.filter q) (0+y.2.1):=rfl;rw[h2,h];omega
  ·rw[List.filter_cons_of_neg e,if_neg e];omega
theorem Kg5 (q:XJ→Bool): ∀L:List XJ,Qm9 (L.filter q) 0=(L.map fun y=>if q y=true then y.2.2 else 0).sum:=by
 intro L
 induction L with
 |nil=>rfl
 |cons y t ih=>
  rw[List.map_cons,List.sum_cons,←ih]
  by_cases e:q y=true
  ·rw[List.filter_cons_of_pos e,if_pos e]
   have h:=Jz5 (t.filter q) (0+y.2.2);have h2:Qm9 (y::t.filter q) 0=Qm9 (t.filter q) (0+y.2.2):=rfl;rw[h2,h];omega
  ·rw[List.filter_cons_of_neg e,if_neg e];omega
theorem Xn8 {α:Type} (F:α→Int) (K:List α) (h: ∀x∈K,F x=0):(K.map F).sum=0:=by
 induction K with
 |nil=>rfl
 |cons y t ih=>rw[List.map_cons,List.sum_cons,ih (fun x hx=>h x (by simp[hx])),h y (by simp)];rfl
theorem Kn6 (hk:Ja2 lv) (hr:Qp1 lv bu se f) (hm:Xa0 f l) (p:Int):Qo5 p l=Km4 lv bu p:=by
 rw[Kn4,Xn7 (gD p) (Qs7 lv) (Js7 hk.rank) l (Jc5 hr hm)]
 unfold Qs7 Km4
 rw[Qq4,Kg4,List.map_append,List.sum_append,List.map_append,List.sum_append,List.map_map,List.map_map]
 rw[Xn8 ((fun x=>gD p x*Qj9 x l)∘fun y=>((2,0,y.1):XJ)) lv (fun y _=>by simp[gD])]
 have e1:([((1,2,0):XJ),(2,2,0)].map fun x=>gD p x*Qj9 x l).sum=bu:=by
  have h1:=hm.sum (1,2,0);rw[hr.b]at h1;simp[gD,h1]
 rw[e1,Int.add_zero]
 congr 2
 refine List.map_congr_left fun y hy=> ?_
 show gD p (1,0,y.1)*Qj9 (1,0,y.1) l=_
 rw[hm.sum,hr.lb,Qk6 hk.rank hy]
 by_cases e:p≤y.1
 ·rw[if_pos (decide_eq_true e)];simp[gD,e]
 ·rw[if_neg (by simp;omega)];simp[gD,e]
theorem Kn7 (hk:Ja2 lv) (hr:Qp1 lv bu se f) (hm:Xa0 f l) (p:Int):Qo6 p l=Km5 lv se p:=by
 rw[Kn5,Xn7 (gS p) (Qs7 lv) (Js7 hk.rank) l (Jc5 hr hm)]
 unfold Qs7 Km5
 rw[Jz5,Kg5,List.map_append,List.sum_append,List.map_append,List.sum_append,List.map_map,List.map_map]
 rw[Xn8 ((fun x=>gS p x*Qj9 x l)∘fun y=>((1,0,y.1):XJ)) lv (fun y _=>by simp[gS])]
 have e1:([((1,2,0):XJ),(2,2,0)].map fun x=>gS p x*Qj9 x l).sum=se:=by
  have h1:=hm.sum (2,2,0);rw[hr.s]at h1;simp[gS,h1]
 rw[e1,Int.zero_add]
 congr 2
 refine List.map_congr_left fun y hy=> ?_
 show gS p (2,0,y.1)*Qj9 (2,0,y.1) l=_
 rw[hm.sum,hr.ls,Qk6 hk.rank hy]
 by_cases e:y.1≤p
 ·rw[if_pos (decide_eq_true e)];simp[gS,e]
 ·rw[if_neg (by simp;omega)];simp[gS,e]
theorem Xv8 (hk:Ja2 lv) (hr:Qp1 lv bu se f) (hm:Xa0 f l) (q:Int):q∈V9 l more↔(∃x∈lv,x.1=q)∨(1≤more∧q=more):=by
 unfold V9
 rw[Qp8 hm.ok,List.mem_append]
 constructor
 ·rintro(h|h)
  ·split at h
   ·rename_i h1
    rw[List.mem_singleton]at h;exact .inr ⟨h1,h⟩
   ·cases h
  ·obtain⟨o,ho,rfl⟩:=List.mem_map.1 h
   obtain⟨ho,hk2⟩:=List.mem_filter.1 ho;have h1:=Jc5 hr hm o ho;unfold Qs7 Qu9 at h1;simp at hk2;simp at h1;rcases h1 with h1|h1|⟨y,h1,h2,h3,h4⟩|⟨y,h1,h2,h3,h4⟩
   ·exact absurd h1.2.1 hk2
   ·exact absurd h1.2.1 hk2
   all_goals
    obtain⟨a,b,hm2⟩:=h1;exact .inl ⟨(y,a,b),hm2,h4⟩
 ·rintro(⟨x,hx,rfl⟩|⟨h1,rfl⟩)
  ·refine .inr ?_
   have h1:=hk.nz x hx;have hx1: ∀s:Int,(s=1∨s=2)→Qj9 (s,0,x.1) l≠0→x.1∈((l.filter fun o=> !(o.kind ==2)).map (·.price)):=fun s hs h2=>by
    obtain⟨o,ho,hko⟩:=Jz8 h2;unfold Qu9 at hko;injection hko with e1 hko
    injection hko with e2 e3
    exact List.mem_map.2 ⟨o,List.mem_filter.2 ⟨ho,by rw[e2];rfl⟩,e3⟩
   rcases h1.2.2 with h2|h2
   ·exact hx1 1 (.inl rfl) (by rw[hm.sum,hr.lb,Qk6 hk.rank hx];exact h2)
   ·exact hx1 2 (.inr rfl) (by rw[hm.sum,hr.ls,Qk6 hk.rank hx];exact h2)
  ·exact .inl (by rw[if_pos h1];simp)
theorem Xn9 (hk:Ja2 lv) (hr:Qp1 lv bu se f) (hm:Xa0 f l):Z9 l more=Q9 lv bu se more:=by
 obtain⟨h1,h2,h3⟩:=Xf9 (bu:=bu) (se:=se) (more:=more) hk.rank
 have hnd:((Q9 lv bu se more).map (·.1)).Nodup:=h2.imp (fun h=>by omega)
 have tr: ∀a b c:Int,(decide (a≤b))=true→(decide (b≤c))=true→(decide (a≤c))=true:=fun a b c h1 h2=>by simp at*;omega
 have tot: ∀a b:Int,(decide (a≤b) ||decide (b≤a))=true:=fun a b=>by simp;omega
 have hdd:dd ((V9 l more).mergeSort fun x y=>decide (x≤y))=(Q9 lv bu se more).map (·.1):=by
  rw[Kd3 (V9 l more) ((Q9 lv bu se more).map (·.1)) hnd (fun x=>(h3 x).trans (Xv8 hk hr hm x).symm)];refine List.Perm.eq_of_pairwise (le:=fun a b=>a≤b) (fun a b _ _ h1 h2=>by omega) ((List.pairwise_mergeSort tr tot _).imp (fun h=>by simpa using h)) (h2.imp (fun h=>by omega)) (List.mergeSort_perm _ _)
 unfold Z9
 rw[hdd,Qp8 hm.ok,List.map_map]
 refine Eq.trans (List.map_congr_left fun e he=> ?_) (List.map_id _)
 show Qz1 l e.1=e
 rw[h1 e he]
 unfold Qz1 ptI
 dsimp only
 rw[Kn6 hk hr hm,Kn7 hk hr hm]
def Qx2 (o:QX):XJ:=if o.kind=2 then(o.side,2,0)else(o.side,0,o.price)
def nzO (v:Int):Option Int:=if v=0 then none else some v
theorem Js8 (v:Int):(nzO v).getD 0=v:=by unfold nzO;split<;>simp_all
theorem Qp1.has (h:Qp1 lv bu se f) {o:QX} (ho:o.side=1∨o.side=2):(f (Qx2 o)).getD 0=Qw8 lv bu se o:=by
 unfold Qx2 Qw8 Qa2
 by_cases hk:o.kind=2
 ·rw[if_pos hk,if_pos hk]
  rcases ho with hs|hs
  ·rw[hs,if_pos rfl];exact h.b
  ·rw[hs,if_neg (by decide)];exact h.s
 ·rw[if_neg hk,if_neg hk]
  rcases ho with hs|hs
  ·rw[hs,if_pos rfl];exact h.lb _
  ·rw[hs,if_neg (by decide)];exact h.ls _
def Qx3 (s:Int):Option Int→XJ
 |none=>(s,2,0)
 |some p=>(s,0,p)
def Jj3 (s:Int) (x:Int×Int):Int:=if s=1 then x.1 else x.2
theorem Xa2 {s s':Int} {k k':Option Int} (h:Qx3 s k=Qx3 s' k'):s=s'∧k=k':=by
 cases k<;>cases k'
 all_goals
  injection h with h1 h2
  injection h2 with h2 h3
 ·exact⟨h1,rfl⟩
 ·omega
 ·omega
 ·exact⟨h1,by rw[h3]⟩
theorem Jc6 (o:QX):Qx2 o=Qx3 o.side (Qa2 o):=by
 unfold Qx2 Qa2
 split<;>rfl
theorem Qp1.at_ (h:Qp1 lv bu se f) (s:Int) (hs:s=1∨s=2) (k:Option Int):(f (Qx3 s k)).getD 0=Jj3 s (Qn9 lv bu se k):=by
 rcases hs with rfl|rfl<;>cases k
 ·exact h.b
 ·exact h.lb _
 ·exact h.s
 ·exact h.ls _
theorem Qp1.of (h: ∀s,(s=1∨s=2)→ ∀k,(f (Qx3 s k)).getD 0=Jj3 s (Qn9 lv bu se k)) (hp: ∀x v,f x=some v→1≤v∧(x=(1,2,0)∨x=(2,2,0)∨ ∃p,1≤p∧p≤1000000∧(x=(1,0,p)∨x=(2,0,p)))):Qp1 lv bu se f:=
 ⟨h 1 (.inl rfl) none,h 2 (.inr rfl) none,fun p=>h 1 (.inl rfl) (some p),fun p=>h 2 (.inr rfl) (some p),hp⟩
theorem Qp1.turn (h:Qp1 lv bu se f) {o:QX} (ho:Qb8 o) {q:Int} (hq:q=1∨q= -1) (hp:q= -1→o.qty≤Qw8 lv bu se o) {lv':List XJ} {bu' se':Int} (hc:Qz7 lv bu se o q lv' bu' se') (h0:0≤Qw8 lv bu se o):
  Qp1 lv' bu' se' (Kn2 f (Qx2 o) (nzO (Qw8 lv bu se o+q*o.qty))):=by
 have hhas:Qw8 lv bu se o=Jj3 o.side (Qn9 lv bu se (Qa2 o)):=rfl
 refine Qp1.of (fun s hs k=> ?_) (fun x v hx=> ?_)
 ·rw[hc.2 k]
  unfold Kn2
  by_cases e:Qx3 s k=Qx2 o
  ·rw[if_pos e,Js8]
   rw[Jc6]at e;obtain⟨e1,e2⟩:=Xa2 e;rw[if_pos e2,hhas,e1,e2];unfold Jj3 dB dS
   by_cases h1:o.side=1
   ·simp only[if_pos h1]
   ·simp only[if_neg h1]
  ·rw[if_neg e,h.at_ s hs k]
   by_cases e2:k=Qa2 o
   ·rw[if_pos e2]
    have hne:s≠o.side:=fun e1=>e (by rw[Jc6,e1,e2])
    unfold Jj3 dB dS;rcases ho.1 with h1|h1<;>rcases hs with rfl|rfl
    ·exact absurd h1.symm hne
    ·simp[h1]
    ·simp[h1]
    ·exact absurd h1.symm hne
   ·rw[if_neg e2]
 ·unfold Kn2 at hx
  by_cases e:x=Qx2 o
  ·rw[if_pos e]at hx
   unfold nzO at hx
   split at hx
   ·cases hx
   ·rename_i hz
    cases hx;have hq2:=ho.2.1;refine⟨by rcases hq with rfl|rfl<;>omega, ?_⟩;rw[e];unfold Qx2
    by_cases hk:o.kind=2
    ·rw[if_pos hk]
     rcases ho.1 with h1|h1<;>simp[h1]
    ·rw[if_neg hk]
     have h3:=ho.2.2.resolve_left hk;refine .inr (.inr ⟨o.price,h3.1,h3.2, ?_⟩);rcases ho.1 with h1|h1<;>simp[h1]
  ·rw[if_neg e]at hx
   exact h.pos x v hx
def Xa3 (h:List XJ) (f:XJ→Option Int):Prop:= ∀x v,f x=some v→v≤1000000*h.count x
theorem Xa3.add {h:List XJ} (hh:Xa3 h f) (x:XJ) {q v:Int} (hq:q≤1000000) (hv:v≤(f x).getD 0+q) (h0:0≤(f x).getD 0):Xa3 (x::h) (Kn2 f x (nzO v)):=by
 intro y u hu
 unfold Kn2 at hu
 by_cases e:y=x
 ·subst e
  rw[if_pos rfl]at hu;unfold nzO at hu
  split at hu
  ·cases hu
  ·cases hu
   rw[List.count_cons_self]
   cases hf:f y with
   |none=>rw[hf]at hv;simp at hv;omega
   |some a=>have:=hh y a hf;rw[hf]at hv;simp at hv;omega
 ·rw[if_neg e]at hu
  have h1:=hh y u hu;have h2:=List.count_le_count_cons (a:=y) (b:=x) (l:=h);omega
theorem Xa3.bound {h:List XJ} (hh:Xa3 h f) (x:XJ) (hl:h.length≤100):(f x).getD 0≤100000000:=by
 cases hf:f x with
 |none=>simp
 |some v=>
  have h1:=hh x v hf;have h2:=List.count_le_length (a:=x) (l:=h);simp;omega
theorem Qp1.nonneg (h:Qp1 lv bu se f) (x:XJ):0≤(f x).getD 0:=by
 cases hf:f x with
 |none=>simp
 |some v=>have:=(h.pos x v hf).1;simp;omega
theorem Qp1.mild (h:Qp1 lv bu se f) (hk:Ja2 lv) {hs:List XJ} (hh:Xa3 hs f) (hl:hs.length≤100) (hn:lv.length≤100):Jc3 lv bu se:=by
 refine⟨?_, ?_,fun x hx=> ?_,fun x hx=> ?_,by omega⟩
 ·have h1:=h.nonneg (1,2,0)
  have h2:=hh.bound (1,2,0) hl;rw[h.b]at h1 h2;omega
 ·have h1:=h.nonneg (2,2,0)
  have h2:=hh.bound (2,2,0) hl;rw[h.s]at h1 h2;omega
 ·have h1:=h.nonneg (1,0,x.1)
  have h2:=hh.bound (1,0,x.1) hl;rw[h.lb,Qk6 hk.rank hx]at h1 h2;omega
 ·have h1:=h.nonneg (2,0,x.1)
  have h2:=hh.bound (2,0,x.1) hl;rw[h.ls,Qk6 hk.rank hx]at h1 h2;omega
theorem Jc3.small (h:Jc3 lv bu se):Ja8 lv bu se:=
 ⟨⟨h.b.1,by have:=h.b.2;omega⟩,⟨h.s.1,by have:=h.s.2;omega⟩,fun x hx=>⟨by have:=(h.lb x hx).2;omega,by have:=(h.ls x hx).2;omega⟩,h.n⟩
theorem Kn8 {l:List QX} (hl:l.length≤100) (hp: ∀o∈l,o.kind≠2→1≤o.price∧o.price≤1000000) (hm:more≤1000000): ∀y∈Z9 l more,-1099511627776≤y.1∧y.1≤1099511627776∧0≤y.2.1∧y.2.1≤100000000∧0≤y.2.2∧y.2.2≤100000000:=by
 intro y hy
 obtain⟨q,hq,rfl⟩:=List.mem_map.1 hy
 have hq2:1≤q∧q≤1000000:=by
  have hq:=(Xs5 _ _).1 hq;unfold V9 at hq;rcases List.mem_append.1 hq with hq|hq
  ·split at hq
   ·simp at hq;omega
   ·cases hq
  ·obtain⟨o,ho,rfl⟩:=List.mem_map.1 hq
   obtain⟨h1,h2⟩:=List.mem_filter.1 ho;simp at h2;exact hp o (List.mem_filter.1 h1).1 h2
 have h1:=Xs2 (p:=q) (Xj0 (l:=l))
 have h2:=Xs3 (p:=q) (Xj0 (l:=l))
 have h3:(Qn4 l).length≤l.length:=List.length_filter_le okO l
 have h4:((Qn4 l).length:Int)≤100:=by omega
 unfold Qz1
 dsimp only
 omega
end
end Go.Proofs.YtnlngicnfegjgaaGreat
