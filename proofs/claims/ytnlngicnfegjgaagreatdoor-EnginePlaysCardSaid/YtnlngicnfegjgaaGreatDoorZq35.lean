/- Parts. -/
import Derived.Test.YtnlngicnfegjgaaGreatDoorZq34
set_option linter.unusedVariables false
set_option maxRecDepth 100000
set_option maxHeartbeats 8000000
open Go.Proofs.Tryz
open Go.Value renaming int→I,pointer→IP
open Go.IntKind renaming i64→O
namespace Go.Proofs.YtnlngicnfegjgaaGreatDoor
open Go.RowKit
section
open Go.ChangeMaps
section
variable {w w':World} {e:Nat} {cs:Array Value} {tb bb bk im:Nat} {T:Option Addr} {tc:Nat} {Al:Option Addr} {lc:Nat} {lv:List X4} {bu se:Int} {Ap:Option Addr} {pc:Nat} {es:List MapEntry} {mc:Nat} {G:Nat->Prop} {own:Nat->Nat->Prop} {g:Int->Option Int->Int} {m:X7}
theorem J6 {i j v u} (h:cs[i]?=some v) (y:j≠i):(cs.setIfInBounds j u)[i]?=some v:=by rw[UB y];exact h
theorem UX {j u} (h:j<cs.size):(cs.setIfInBounds j u)[j]?=some u:=SS h
theorem AH.setPh (h:AH cs tb bb bk im Ap pc m) v:AH (cs.setIfInBounds 14 (I O v)) tb bb bk im Ap pc {m with ph:=v}:=
 ⟨by rw[AN];exact h.sz,J6 h.c4 (by decide),J6 h.c5 (by decide),J6 h.c6 (by decide),J6 h.c7 (by decide),J6 h.c8 (by decide),J6 h.c12 (by decide),J6 h.c13 (by decide),UX (by have:=h.sz;omega),J6 h.c15 (by decide),J6 h.c16 (by decide),J6 h.c17 (by decide)⟩
theorem AH.setNow (h:AH cs tb bb bk im Ap pc m) v:AH (cs.setIfInBounds 15 (I O v)) tb bb bk im Ap pc {m with now:=v}:=
 ⟨by rw[AN];exact h.sz,J6 h.c4 (by decide),J6 h.c5 (by decide),J6 h.c6 (by decide),J6 h.c7 (by decide),J6 h.c8 (by decide),J6 h.c12 (by decide),J6 h.c13 (by decide),J6 h.c14 (by decide),UX (by have:=h.sz;omega),J6 h.c16 (by decide),J6 h.c17 (by decide)⟩
theorem AH.setEnds (h:AH cs tb bb bk im Ap pc m) v:AH (cs.setIfInBounds 16 (I O v)) tb bb bk im Ap pc {m with ends:=v}:=
 ⟨by rw[AN];exact h.sz,J6 h.c4 (by decide),J6 h.c5 (by decide),J6 h.c6 (by decide),J6 h.c7 (by decide),J6 h.c8 (by decide),J6 h.c12 (by decide),J6 h.c13 (by decide),J6 h.c14 (by decide),J6 h.c15 (by decide),UX (by have:=h.sz;omega),J6 h.c17 (by decide)⟩
theorem AH.setLng (h:AH cs tb bb bk im Ap pc m) v:AH (cs.setIfInBounds 17 (I O v)) tb bb bk im Ap pc {m with lng:=v}:=
 ⟨by rw[AN];exact h.sz,J6 h.c4 (by decide),J6 h.c5 (by decide),J6 h.c6 (by decide),J6 h.c7 (by decide),J6 h.c8 (by decide),J6 h.c12 (by decide),J6 h.c13 (by decide),J6 h.c14 (by decide),J6 h.c15 (by decide),J6 h.c16 (by decide),UX (by have:=h.sz;omega)⟩
theorem V1.setCell_ {j v m'} (h:V1 w e cs tb bb bk im T tc Al lc lv bu se Ap pc es mc G own g m) (i:j≠9/\j≠10/\j≠11) (u:AH (cs.setIfInBounds j v) tb bb bk im Ap pc m')
  (y:m'.rows=m.rows/\m'.st=m.st/\m'.dy=m.dy/\m'.an=m.an/\m'.la=m.la/\m'.L1=m.L1/\m'.L2=m.L2/\m'.pk=m.pk/\m'.ids=m.ids):
  V1 (w.setCell ⟨e,j,none⟩ v) e (cs.setIfInBounds j v) tb bb bk im T tc Al lc lv bu se Ap pc es mc G own g m'/\Z8 w (w.setCell ⟨e,j,none⟩ v) own own:=
 h.cellsTo (J7 h.ind.blk j v) (V2 w ⟨e,j,none⟩ v) u (UB i.1) (UB i.2.1) (UB i.2.2) y
theorem V1.setPh (h:V1 w e cs tb bb bk im T tc Al lc lv bu se Ap pc es mc G own g m) v:
  V1 (w.setCell ⟨e,14,none⟩ (I O v)) e (cs.setIfInBounds 14 (I O v)) tb bb bk im T tc Al lc lv bu se Ap pc es mc G own g {m with ph:=v}/\Z8 w (w.setCell ⟨e,14,none⟩ (I O v)) own own:=
 h.setCell_ (by decide) (h.ec.setPh v) ⟨rfl,rfl,rfl,rfl,rfl,rfl,rfl,rfl,rfl⟩
theorem V1.setNow (h:V1 w e cs tb bb bk im T tc Al lc lv bu se Ap pc es mc G own g m) v:
  V1 (w.setCell ⟨e,15,none⟩ (I O v)) e (cs.setIfInBounds 15 (I O v)) tb bb bk im T tc Al lc lv bu se Ap pc es mc G own g {m with now:=v}/\Z8 w (w.setCell ⟨e,15,none⟩ (I O v)) own own:=
 h.setCell_ (by decide) (h.ec.setNow v) ⟨rfl,rfl,rfl,rfl,rfl,rfl,rfl,rfl,rfl⟩
theorem V1.setEnds (h:V1 w e cs tb bb bk im T tc Al lc lv bu se Ap pc es mc G own g m) v:
  V1 (w.setCell ⟨e,16,none⟩ (I O v)) e (cs.setIfInBounds 16 (I O v)) tb bb bk im T tc Al lc lv bu se Ap pc es mc G own g {m with ends:=v}/\Z8 w (w.setCell ⟨e,16,none⟩ (I O v)) own own:=
 h.setCell_ (by decide) (h.ec.setEnds v) ⟨rfl,rfl,rfl,rfl,rfl,rfl,rfl,rfl,rfl⟩
theorem V1.setLng (h:V1 w e cs tb bb bk im T tc Al lc lv bu se Ap pc es mc G own g m) v:
  V1 (w.setCell ⟨e,17,none⟩ (I O v)) e (cs.setIfInBounds 17 (I O v)) tb bb bk im T tc Al lc lv bu se Ap pc es mc G own g {m with lng:=v}/\Z8 w (w.setCell ⟨e,17,none⟩ (I O v)) own own:=
 h.setCell_ (by decide) (h.ec.setLng v) ⟨rfl,rfl,rfl,rfl,rfl,rfl,rfl,rfl,rfl⟩
theorem V1.frozen (h:V1 w e cs tb bb bk im T tc Al lc lv bu se Ap pc es mc G own g m) i:w.frozen? ⟨e,i,none⟩=false:=J1 h.ind.blk i
theorem V1.pkTo {P' Ap' pc'} (h:V1 w e cs tb bb bk im T tc Al lc lv bu se Ap pc es mc G own g m) (hk:Q6 (fun i=>Q7 Ap=some i) w w') (N:J2 w' Ap' P'.length pc' 29 5 (Q9 X9 P')) (J: ∀i,Q7 Ap'=some i->Q7 Ap=some i\/w.heap.size<=i):
  ∃own',V1 (w'.setCell ⟨e,12,none⟩ (.slice Ap' P'.length pc')) e (cs.setIfInBounds 12 (.slice Ap' P'.length pc')) tb bb bk im T tc Al lc lv bu se Ap' pc' es mc G own' g {m with pk:=P'}/\Z8 w (w'.setCell ⟨e,12,none⟩ (.slice Ap' P'.length pc')) own own':=by
 have f: ∀ {i k},own i k->k≠6-> ¬Q7 Ap=some i:=fun j D=>h.fit (S:=fun i=>Q7 Ap=some i) h.op j D
 have f1: ∀ {i k},own i k->k≠1-> ¬i=e:=fun j D=>h.fit (S:=fun i=>i=e) (fun i j=>j▸h.oe) j D
 have n: ∀ {i k},own i k->JQ w own (fun i=>Q7 Ap'=some i) 6 i k:=fun j=> .inl j
 have he:e<w.heap.size:=J5 h.ind.blk
 have E:=V2 w' ⟨e,12,none⟩ (.slice Ap' P'.length pc')
 have v:Q6 (fun i=>Q7 Ap=some i\/i=e) w (w'.setCell ⟨e,12,none⟩ (.slice Ap' P'.length pc')):=(hk.mono (fun i j=> .inl j)).trans E (fun i j=> .inl (.inr j))
 have q: ∀ {i k},own i k->k≠6->k≠1-> ¬(Q7 Ap=some i\/i=e):=fun j U h1 x=>x.elim (f j U) (f1 j h1)
 have y:=h.ind
 have D: ∀i,Q7 Ap'=some i-> ¬i=e:=fun i j Z=>by
  rcases J i j with C|C
  ·exact f h.oe (by decide) (Z▸C)
  omega
 have a0:=hk.size
 refine⟨JQ w own (fun i=>Q7 Ap'=some i) 6,⟨⟨J7 (X0 y.blk hk (f h.oe (by decide))) 12 _, ?_, ?_, ?_,y.row.keeps v (fun i j=>q (h.ol i j) (by decide) (by decide)),y.na,y.ok⟩, ?_,h.is,T8 h.tabl v.size,(v.cell (p:=⟨tb,0,none⟩) h.tabl (q h.ot (by decide) (by decide))).trans h.tabc,h.tabp.keeps v (fun i j=>q (h.oT i j) (by decide) (by decide)),X0 h.bands v (q h.ob (by decide) (by decide)),h.book.keeps v (fun i j=>q (h.oG i j) (by decide) (by decide)),N.keeps E D,h.map_.of_block (v.block _ h.map_.lt (q h.oi (by decide) (by decide))),h.keys,h.ids,h.ok.new_ v.size (fun i j=>T8 (N.lt j) E.size) 6,n h.oe,n h.ot,fun i j=>n (h.oT i j),n h.ob,fun i j=>n (h.oG i j),fun i j=>n (h.ol i j),fun i j=> ?_,n h.oi⟩,v.mono (fun i j=> ?_),fun i k j=>j.imp id (fun x=>x.1)⟩
 ·exact J6 y.c0 (by decide)
 ·exact J6 y.c1 (by decide)
 ·exact J6 y.c2 (by decide)
 ·have u:=h.ec
  exact⟨by rw[AN];exact u.sz,J6 u.c4 (by decide),J6 u.c5 (by decide),J6 u.c6 (by decide),J6 u.c7 (by decide),J6 u.c8 (by decide),UX (by have:=u.sz;omega),J6 u.c13 (by decide),J6 u.c14 (by decide),J6 u.c15 (by decide),J6 u.c16 (by decide),J6 u.c17 (by decide)⟩
 ·rcases J i j with C|C
  ·exact n (h.op i C)
  exact .inr ⟨C,j,rfl⟩
 rcases j with j|rfl
 ·exact⟨6,h.op i j⟩
 exact⟨1,h.oe⟩
theorem V1.pkNil (h:V1 w e cs tb bb bk im T tc Al lc lv bu se Ap pc es mc G own g m):
  ∃own',V1 (w.setCell ⟨e,12,none⟩ (.slice none 0 0)) e (cs.setIfInBounds 12 (.slice none 0 0)) tb bb bk im T tc Al lc lv bu se none 0 es mc G own' g {m with pk:= []}/\Z8 w (w.setCell ⟨e,12,none⟩ (.slice none 0 0)) own own':=
 h.pkTo (P':= []) (U1 (Q2 _ _) _) (JX _ _ _ _) (fun i j=>by simp[Q7]at j)
theorem V1.indNil (h:V1 w e cs tb bb bk im T tc Al lc lv bu se Ap pc es mc G own g m):
  V1 (((w.setCell ⟨e,9,none⟩ (.slice none 0 0)).setCell ⟨e,10,none⟩ (I O 0)).setCell ⟨e,11,none⟩ (I O 0)) e (((cs.setIfInBounds 9 (.slice none 0 0)).setIfInBounds 10 (I O 0)).setIfInBounds 11 (I O 0)) tb bb bk im T tc none 0 [] 0 0 Ap pc es mc G own (fun s k=>Y2 s k []) m/\Z8 w (((w.setCell ⟨e,9,none⟩ (.slice none 0 0)).setCell ⟨e,10,none⟩ (I O 0)).setCell ⟨e,11,none⟩ (I O 0)) own own:=by
 have hk:=((V2 w ⟨e,9,none⟩ (.slice none 0 0)).trans (V2 _ ⟨e,10,none⟩ (I O 0)) (fun i j=> .inl j)).trans (V2 _ ⟨e,11,none⟩ (I O 0)) (fun i j=> .inl j)
 have f: ∀ {i k},own i k->k≠1-> ¬i=e:=fun j E=>h.fit (S:=fun i=>i=e) (fun i j=>j▸h.oe) j E
 have u:=h.ec
 have N:=u.sz
 have c: ∀i v,cs[i]?=some v->i≠9->i≠10->i≠11->(((cs.setIfInBounds 9 (.slice none 0 0)).setIfInBounds 10 (I O 0)).setIfInBounds 11 (I O 0))[i]?=some v:=fun i v y C J D=>J6 (J6 (J6 y (XV C)) (XV J)) (XV D)
 refine⟨⟨⟨J7 (J7 (J7 h.ind.blk 9 _) 10 _) 11 _,J6 (J6 (UX (by omega)) (by decide)) (by decide),J6 (UX (by simp;omega)) (by decide),UX (by simp;omega),JX _ _ _ _,by simp[Q7],Mo⟩,⟨by simp;exact N,c _ _ u.c4 (by decide) (by decide) (by decide),c _ _ u.c5 (by decide) (by decide) (by decide),c _ _ u.c6 (by decide) (by decide) (by decide),c _ _ u.c7 (by decide) (by decide) (by decide),c _ _ u.c8 (by decide) (by decide) (by decide),c _ _ u.c12 (by decide) (by decide) (by decide),c _ _ u.c13 (by decide) (by decide) (by decide),c _ _ u.c14 (by decide) (by decide) (by decide),c _ _ u.c15 (by decide) (by decide) (by decide),c _ _ u.c16 (by decide) (by decide) (by decide),c _ _ u.c17 (by decide) (by decide) (by decide)⟩,Gx,T8 h.tabl hk.size,(hk.cell (p:=⟨tb,0,none⟩) h.tabl (f h.ot (by decide))).trans h.tabc,h.tabp.keeps hk (fun i j=>f (h.oT i j) (by decide)),X0 h.bands hk (f h.ob (by decide)),h.book.keeps hk (fun i j=>f (h.oG i j) (by decide)),h.park.keeps hk (fun i j=>f (h.op i j) (by decide)),h.map_.of_block (hk.block _ h.map_.lt (f h.oi (by decide))),h.keys,h.ids,h.ok.mono hk.size,h.oe,h.ot,h.oT,h.ob,h.oG,fun i j=>by simp[Q7]at j,h.op,h.oi⟩,hk.mono (fun i j=>⟨1,j▸h.oe⟩),fun i k j=> .inl j⟩
theorem V1.otherBook {b' G' M1 M2} (h:V1 w e cs tb bb bk im T tc Al lc lv bu se Ap pc es mc G own g m) (U:QY w b' G' M1 M2) (y: ∀i k,G' i-> ¬own i k):
  ∃own',V1 (w.setCell ⟨e,8,none⟩ (IP (some ⟨b',0,none⟩))) e (cs.setIfInBounds 8 (IP (some ⟨b',0,none⟩))) tb bb b' im T tc Al lc lv bu se Ap pc es mc G' own' g {m with L1:=M1,L2:=M2}/\Q6 (fun i=> ∃k,own i k) w (w.setCell ⟨e,8,none⟩ (IP (some ⟨b',0,none⟩)))/\ ∀i k,own' i k->own i k\/G' i:=by
 have hk:=V2 w ⟨e,8,none⟩ (IP (some ⟨b',0,none⟩))
 have f: ∀ {i k},own i k->k≠1-> ¬i=e:=fun j a3=>h.fit (S:=fun i=>i=e) (fun i j=>j▸h.oe) j a3
 have u:=h.ec
 have v:=h.ind
 have n: ∀ {i k},own i k->own i k\/(G' i/\k=4):=fun j=> .inl j
 refine⟨fun i k=>own i k\/(G' i/\k=4),⟨⟨J7 v.blk 8 _,J6 v.c0 (by decide),J6 v.c1 (by decide),J6 v.c2 (by decide),v.row.keeps hk (fun i j=>f (h.ol i j) (by decide)),v.na,v.ok⟩,⟨by simp;exact u.sz,J6 u.c4 (by decide),J6 u.c5 (by decide),J6 u.c6 (by decide),J6 u.c7 (by decide),UX (by have:=u.sz;omega),J6 u.c12 (by decide),J6 u.c13 (by decide),J6 u.c14 (by decide),J6 u.c15 (by decide),J6 u.c16 (by decide),J6 u.c17 (by decide)⟩,h.is,T8 h.tabl hk.size,(hk.cell (p:=⟨tb,0,none⟩) h.tabl (f h.ot (by decide))).trans h.tabc,h.tabp.keeps hk (fun i j=>f (h.oT i j) (by decide)),X0 h.bands hk (f h.ob (by decide)),U.keeps hk (fun i j a0=>y i 1 j (by have Z:i=e:=a0;rw[Z];exact h.oe)),h.park.keeps hk (fun i j=>f (h.op i j) (by decide)),h.map_.of_block (hk.block _ h.map_.lt (f h.oi (by decide))),h.keys,h.ids,⟨fun i k E h1 h2=> ?_,fun i k h1=> ?_⟩,n h.oe,n h.ot,fun i j=>n (h.oT i j),n h.ob,fun i j=> .inr ⟨j,rfl⟩,fun i j=>n (h.ol i j),fun i j=>n (h.op i j),n h.oi⟩,hk.mono (fun i j=>⟨1,j▸h.oe⟩),fun i k j=>j.imp id (fun x=>x.1)⟩
 ·rcases h1 with h1|⟨C,N⟩
  ·rcases h2 with h2|⟨D,J⟩
   ·exact h.ok.uni i k E h1 h2
   exact absurd h1 (y i k D)
  rcases h2 with h2|⟨D,J⟩
  ·exact absurd h2 (y i E C)
  rw[N,J]
 rcases h1 with h1|⟨C,N⟩
 ·exact T8 (h.ok.lt i k h1) hk.size
 exact T8 (U.fp C) hk.size
theorem V1.mapTo {es' mc' id} (h:V1 w e cs tb bb bk im T tc Al lc lv bu se Ap pc es mc G own g m) (ht:BY w w' im) (C:R8 w' im es' mc') (u:BB es') (Q0: ∀k,QE es' k=if k∈m.ids++ [id]then some (.bool true)else none):
  V1 w' e cs tb bb bk im T tc Al lc lv bu se Ap pc es' mc' G own g {m with ids:=m.ids++ [id]}/\Z8 w w' own own:=by
 have hk:Q6 (fun i=>i=im) w w':=⟨ht.os,ht.tape,ht.output,YZ ht.size.symm,fun i _ y=>ht.block i y⟩
 have f: ∀ {i k},own i k->k≠7-> ¬i=im:=fun j v=>h.fit (S:=fun i=>i=im) (fun i j=>j▸h.oi) j v
 exact⟨⟨h.ind.keeps hk (f h.oe (by decide)) (fun i j=>f (h.ol i j) (by decide)),⟨h.ec.sz,h.ec.c4,h.ec.c5,h.ec.c6,h.ec.c7,h.ec.c8,h.ec.c12,h.ec.c13,h.ec.c14,h.ec.c15,h.ec.c16,h.ec.c17⟩,h.is,T8 h.tabl hk.size,(hk.cell (p:=⟨tb,0,none⟩) h.tabl (f h.ot (by decide))).trans h.tabc,h.tabp.keeps hk (fun i j=>f (h.oT i j) (by decide)),X0 h.bands hk (f h.ob (by decide)),h.book.keeps hk (fun i j=>f (h.oG i j) (by decide)),h.park.keeps hk (fun i j=>f (h.op i j) (by decide)),C,u,Q0,h.ok.mono hk.size,h.oe,h.ot,h.oT,h.ob,h.oG,h.ol,h.op,h.oi⟩,hk.mono (fun i j=>⟨7,j▸h.oi⟩),fun i k j=> .inl j⟩
end
end
def ES (sd:Int) (F:List B5) (s:Int) (k:Option Int):Int:=(F.map fun f=>if 3-sd=s/\some f.p=k then f.n else 0).sum
theorem TN sd f F s k:ES sd (f::F) s k=(if 3-sd=s/\some f.p=k then f.n else 0)+ES sd F s k:=by unfold ES;rw[S6,VP]
theorem Bh {sd F} (h: ∀f∈F,1<=f.n) s k:0<=ES sd F s k:=by
 induction F with
 |nil=>exact P8 _
 |cons f t j=>
  rw[TN];have h1:=j (fun g i=>h g (by simp[i]));have h2:=h f (by simp)
  split<;>omega
theorem Pd o x n:(SB o x n).p=x.price:=by unfold SB;split<;>rfl
theorem Pe o x n:(SB o x n).n=n:=by unfold SB;split<;>rfl
theorem Ql5 x n s k:Y2 s k (ZF x n)=(if x.side=s/\S0 x=k then x.qty-n else 0):=by
 unfold ZF
 by_cases h:n=x.qty
 ·rw[Q5 h,h]
  unfold Y2;simp
 rw[Q3 h]
 rw[GD,show Y2 s k ([]:List Q8)=0 from rfl,GZ]
 rfl
section
variable {σ:Type} {al:σ->Int->Bool} {tr:σ->Int->σ}
theorem Qu0 {sd} s k: ∀l o t,(∀x∈l,x.side=3-sd)->Y2 s k l=Y2 s k (V7 al tr l o t).rest+ES sd (V7 al tr l o t).fills s k:=by
 intro l
 induction l with
 |nil=>intro o t _;rfl
 |cons x r j=>
  intro o t h;have i:=h x (by simp);have u:=fun y hy=>h y (EU x hy)
  unfold V7
  split
  ·show Y2 s k (x::r)=Y2 s k (x::r)+0
   omega
  split
  ·have:=j o t u
   dsimp only;rw[GD,GD];omega
  split
  ·show Y2 s k (x::r)=Y2 s k (x::r)+0
   omega
  split
  ·show Y2 s k (x::r)=Y2 s k (x::r)+0
   omega
  rename_i hk _ _;have:=j (B6 o (min o.qty x.qty)) (tr t x.price) u;dsimp only;rw[GU,Ql5,TN,Pd,Pe,GD];have v:S0 x=some x.price:=by unfold S0;rw[Q3 hk]
  rw[v]
  by_cases e:x.side=s/\some x.price=k
  ·rw[Q5 e,Q5 e,Q5 ⟨i.symm.trans e.1,e.2⟩]
   omega
  rw[Q3 e,Q3 e,Q3 (fun y=>e ⟨i.trans y.1,y.2⟩)];omega
structure SX (f:B5):Prop where
 n:1<=f.n/\f.n<=1000000
 p:1<=f.p/\f.p<=1000000
theorem Ql6: ∀l o t,(∀x∈l,JJ x)-> ∀f∈(V7 al tr l o t).fills,SX f:=by
 intro l
 induction l with
 |nil=>intro o t _ f i;cases i
 |cons x r u=>
  intro o t h f i;have j:=h x (by simp);have v:=fun y hy=>h y (EU x hy)
  unfold V7 at i
  split at i
  ·cases i
  rename_i C
  split at i
  ·exact u o t v f i
  split at i
  ·cases i
  split at i
  ·cases i
  dsimp only at i;rcases D4.1 i with rfl|i
  ·have h1:=j.2.2.2
   have h2:=j.2.2.1;exact⟨by rw[Pe];omega,by rw[Pd];exact h2⟩
  exact u _ _ v f i
theorem Uv: ∀l o t,R9 o->0<=o.qty->(∀x∈l,JJ x)->R9 (V7 al tr l o t).left/\(V7 al tr l o t).left.id=o.id/\(V7 al tr l o t).left.side=o.side/\(V7 al tr l o t).left.kind=o.kind/\(V7 al tr l o t).left.price=o.price/\0<=(V7 al tr l o t).left.qty/\(V7 al tr l o t).left.qty<=o.qty:=by
 intro l
 induction l with
 |nil=>intro o t i u _;exact⟨i,rfl,rfl,rfl,rfl,u,P8 _⟩
 |cons x r v=>
  intro o t i j h;have D:=h x (by simp);have C:=fun y hy=>h y (EU x hy)
  unfold V7
  split
  ·exact⟨i,rfl,rfl,rfl,rfl,j,P8 _⟩
  rename_i u
  split
  ·exact v o t i j C
  split
  ·exact⟨i,rfl,rfl,rfl,rfl,j,P8 _⟩
  split
  ·exact⟨i,rfl,rfl,rfl,rfl,j,P8 _⟩
  have h1:=D.2.2.2;have E:=i.2.2.2.2;unfold G8 at E;obtain⟨a1,U,a3,a4,a5,J,N⟩:=v (B6 o (min o.qty x.qty)) (tr t x.price) ⟨i.1,i.2.1,i.2.2.1,i.2.2.2.1,by unfold G8 B6;dsimp only;omega⟩ (by unfold B6;dsimp only;omega) C;have Z:(B6 o (min o.qty x.qty)).qty<=o.qty:=by unfold B6;dsimp only;omega
  exact⟨a1,U,a3,a4,a5,J,GK N Z⟩
end
section
variable {w:World} {e:Nat} {F:Nat->Prop} {m:X7}
theorem Ql7 (h:C3 w e F m):Calls prog 9 #[IP (some ⟨e,0,none⟩)] w fun u w'=>u= .returned (I O m.ph)/\Below w.heap.size w w':=by
 obtain⟨cs,tb,bb,bk,im,T,tc,Al,lc,lv,bu,se,Ap,pc,es,mc,G,own,i,j⟩:=h
 have c:=i.cell i.ec.c14
 clear i j
 go_enter func9,ntmps9
 go_wp2
 go_ret
 exact⟨rfl,Q2 _ _⟩
theorem Je2 (h:C3 w e F m):Calls prog 8 #[IP (some ⟨e,0,none⟩)] w fun u w'=>u= .returned (I O m.now)/\Below w.heap.size w w':=by
 obtain⟨cs,tb,bb,bk,im,T,tc,Al,lc,lv,bu,se,Ap,pc,es,mc,G,own,i,j⟩:=h
 have c:=i.cell i.ec.c15
 clear i j
 go_enter func8,ntmps8
 go_wp2
 go_ret
 exact⟨rfl,Q2 _ _⟩
theorem Qu1 (h:C3 w e F m):Calls prog 29 #[IP (some ⟨e,0,none⟩)] w fun v w'=>v= .returned (.tuple #[I O m.an,I O m.la])/\Below w.heap.size w w':=by
 obtain⟨cs,tb,bb,bk,im,T,tc,Al,lc,lv,bu,se,Ap,pc,es,mc,G,own,j,u⟩:=h
 have c:=j.cell j.ec.c7
 have i:=Q0 j.bands
 clear j u
 go_enter func29,ntmps29
 go_wp2_with fail
 go_quiet (first|(go_at_call 77;exact TU ((Qj4 bb m.st m.dy m.an m.la _ (by first|exact i|exact Z2 i|exact P9 i _)).mono (fun _ _ ⟨h1,h2⟩=>⟨h1,h2.symm⟩)))|(go_at_call 78;exact TU ((RG bb m.st m.dy m.an m.la _ (by first|exact i|exact Z2 i|exact P9 i _)).mono (fun _ _ ⟨h1,h2⟩=>⟨h1,h2.symm⟩))))
 go_wp2
 go_ret2
 exact⟨rfl,U7 (Q2 _ _) _⟩
theorem Hu (h:C3 w e F m) sd (j:Z4 sd):Calls prog 11 #[IP (some ⟨e,0,none⟩),I O sd] w fun v w'=>Below w.heap.size w w'/\ ∃A c,v= .returned (.tuple #[.slice A (X6 sd m.L1 m.L2).length c,.nilIface])/\J2 w' A (X6 sd m.L1 m.L2).length c 29 5 (Q9 X9 (X6 sd m.L1 m.L2))/\ ∀g,Q7 A=some g->w.heap.size<=g:=by
 obtain⟨cs,tb,bb,bk,im,T,tc,Al,lc,lv,bu,se,Ap,pc,es,mc,G,own,i,E⟩:=h
 have c:=i.cell i.ec.c8
 have HS:=Q0 (PT w bk G m.L1 m.L2 i.book sd j)
 clear i E j
 obtain⟨l,D⟩:=exq (X6 sd m.L1 m.L2)
 rw[D]at HS|-
 go_enter func11,ntmps11
 go_wp2_with fail
 refine HS.mono ?_
 rintro v w2 ⟨J,A,N,rfl,y,u⟩
 have C:=Q0 y
 have U:=Q0 u
 clear y u
 go_wp2_with fail
 go_ret2
 exact⟨J,A,N,rfl,C,U⟩
theorem Qu2 (h:C3 w e F m):Calls prog 25 #[IP (some ⟨e,0,none⟩)] w fun Z w'=>Z= .returned (U0 (AU m))/\C0 w w' e F (XY m):=by
 obtain⟨cs,tb,bb,bk,im,T,tc,Al,lc,lv,bu,se,Ap,pc,es,mc,G,own,v,E⟩:=h
 have c:=v.cell v.ec.c14
 have f:=v.frozen 14
 have C:=Q0 v
 have y:=Q0 E
 clear v E
 obtain⟨p,hp⟩:=exq m.ph
 rw[hp]at c
 have D:=Q0 hp
 clear hp
 by_cases j:p=6
 ·have d:=Z0 j
  have i:Hid (AU m=6/\XY m=m):=Q0 (by unfold AU XY;rw[D.out,Q5 (.inl j),Q5 (.inl j)];exact⟨rfl,rfl⟩);clear j;rw[i.1,i.2];go_enter func25,ntmps25
  go_wp2;go_ret;exact⟨rfl,_,C.at_ (fun _ _ _=>rfl),(F8 (Q2 _ _)).bstep y⟩
 have d:=X3 j
 by_cases u:p=7
 ·have U:=Z0 u
  have i:Hid (AU m=6/\XY m=m):=Q0 (by unfold AU XY;rw[D.out,Q5 (.inr u),Q5 (.inr u)];exact⟨rfl,rfl⟩);clear j u;rw[i.1,i.2];go_enter func25,ntmps25
  go_wp2;go_ret;exact⟨rfl,_,C.at_ (fun _ _ _=>rfl),(F8 (Q2 _ _)).bstep y⟩
 have U:=X3 u
 have i:Hid (AU m=0/\XY m= {m with ph:=6}):=Q0 (by unfold AU XY;rw[D.out,Q3 (by omega),Q3 (by omega)];exact⟨rfl,rfl⟩)
 clear j u
 rw[i.1,i.2]
 go_enter func25,ntmps25
 go_wp2
 go_ret
 obtain⟨N,J⟩:=C.setPh 6
 exact⟨rfl,_,N.at_ (fun _ _ _=>rfl),J.bstep y⟩
theorem NQ (h:C3 w e F m) (U: -1000000000000<=m.now/\m.now<=1000000000000) (ht:0<=m.tk/\m.tk<=1000000):Calls prog 75 #[IP (some ⟨e,0,none⟩)] w fun ev w'=>ev= .returned (.tuple #[])/\C0 w w' e F (VX m):=by
 obtain⟨cs,tb,bb,bk,im,T,tc,Al,lc,lv,bu,se,Ap,pc,es,mc,G,own,i,u⟩:=h
 have c4:=i.cell i.ec.c4
 have a1:=i.cell i.ec.c15
 have a3:=i.cell i.ec.c14
 have a6:=i.cell i.ec.c16
 have a0:=i.cell i.ec.c17
 have a2:=i.frozen 14
 have a5:=i.frozen 16
 have a4:=i.frozen 17
 have i1:RowKit.wrap64 (m.now+m.tk)=m.now+m.tk:=by unfold RowKit.wrap64;omega
 have J:=Q0 i
 have v:=Q0 u
 clear i u U ht
 go_enter func75,ntmps75
 go_region
 go_wp2
 refine BP (KW rfl _ _ _) rfl ?_
 obtain⟨N,y⟩:=J.setPh 4
 obtain⟨E,C⟩:=N.setEnds (m.now+m.tk)
 obtain⟨D,Z⟩:=E.setLng 0
 have j:=J3 (Q2 (((w.setCell ⟨e,14,none⟩ (I O 4)).setCell ⟨e,16,none⟩ (I O (m.now+m.tk))).setCell ⟨e,17,none⟩ (I O 0)).heap.size (((w.setCell ⟨e,14,none⟩ (I O 4)).setCell ⟨e,16,none⟩ (I O (m.now+m.tk))).setCell ⟨e,17,none⟩ (I O 0)))
 exact⟨rfl,_,(D.below j).at_ (m:=VX m) (fun _ _ _=>rfl),(((y.trans C).trans Z).trans (F8 j)).bstep v⟩
end
theorem Hw {w e F m} (h:C3 w e F m):
  Calls prog 39 #[IP (some ⟨e,0,none⟩)] w fun ev w'=>ev= .returned (.tuple #[])/\C0 w w' e F (YF m):=by
 obtain⟨cs,tb,bb,bk,im,T,tc,Al,lc,lv,bu,se,Ap,pc,es,mc,G,own,hM,hF⟩:=h
 have HN:=Q0 (Vl w)
 have U:=Q0 hM
 have HF:=Q0 hF
 clear hM hF
 go_enter func39,ntmps39
 go_wp2_with fail
 refine HN.mono ?_
 rintro ev w2 ⟨E,b,G2,D,rfl,a3⟩
 have J:=U.below E
 obtain⟨v,N⟩:=J.setPh 7
 obtain⟨c1,C,y⟩:=v.pkNil
 have a5:=(a3.keeps (V2 w2 ⟨e,14,none⟩ (I O 7)) (fun i j a4=>by have h1:=D i j;have h2:=J5 U.ind.blk;have Z:i=e:=a4;omega)).keeps (V2 (w2.setCell ⟨e,14,none⟩ (I O 7)) ⟨e,12,none⟩ (.slice none 0 0)) (fun i j a4=>by have h1:=D i j;have h2:=J5 U.ind.blk;have Z:i=e:=a4;omega)
 have a7:=N.1.size
 obtain⟨own5,u,a0,a1⟩:=C.otherBook (M1:= []) (M2:= []) a5 (fun i k j hk=>by
  have h1:=D i j;have h2:=a3.fp j;rcases y.2 i k hk with Z|Z
  ·have:=U.ok.lt i k Z;omega
  omega)
 obtain⟨a6,a2⟩:=u.indNil
 have b1:=J.cell J.ec.c14
 have b8:=v.cell v.ec.c12
 have c8:=C.cell C.ec.c8
 have c9:=u.ind.cells
 have b0:=J.frozen 14
 have c2:=v.frozen 12
 have f8:=C.frozen 8
 have f9:=u.frozen 9
 have c0:=u.frozen 10
 have b9:=u.frozen 11
 obtain⟨c9,b2,b5⟩:=c9
 have a9:=Q0 a6
 have HO:=Q0 (And.intro E (And.intro N (And.intro y (And.intro a0 (And.intro a1 a2)))))
 have a8:=Q0 D
 clear J v C u a6 N y a0 a1 a2 E D a3 a5 a7 HN
 go_wp2_with fail
 refine BP (KW rfl _ _ _) rfl ?_
 obtain⟨E,N,y,a0,a1,a2⟩:=HO.out
 refine⟨rfl,_,EW (m:=YF m) a9 (fun _ _ _=>rfl), ?_⟩
 have o4:=((F8 E).trans N).trans y
 have o5:Z8 w _ own own5:=⟨o4.1.trans a0 (fun i ⟨k,hk⟩=>(o4.2 i k hk).imp (fun x=>⟨k,x⟩) id),fun i k j=> ?_⟩
 ·exact(o5.trans a2).bstep HF
 rcases a1 i k j with h1|h1
 ·exact o4.2 i k h1
 exact .inr (a8 i h1)
theorem La l: ∀m,(L3 m l).pk=m.pk:=by
 induction l with
 |nil=>intro m;rfl
 |cons o t i=>intro m;exact i (M6 m o)
theorem Dq m l o:L3 m (l++ [o])=M6 (L3 m l) o:=by unfold L3;rw[CL];rfl
theorem Dr {w e F m} (h:C3 w e F m) (b1: ∀o∈m.pk,R9 o) (c3:m.pk.length<=100000):
  Calls prog 76 #[IP (some ⟨e,0,none⟩)] w fun ev w'=>ev= .returned (.tuple #[])/\C0 w w' e F (ZR m):=by
 obtain⟨cs,tb,bb,bk,im,T,tc,Al,lc,lv,bu,se,Ap,pc,es,mc,G,own,j,hF⟩:=h
 obtain⟨v,a6⟩:=j.setPh 5
 have c5:=j.cell j.ec.c14
 have c4:=j.frozen 14
 have b0:=v.cell v.ec.c12
 have b5:=j.park.1
 have a8:=Q0 v
 have a7:=Q0 a6
 have HF:=Q0 hF
 have c0:=Q0 b1
 obtain⟨n,C⟩:=exq m.pk.length
 have HN:=Q0 C
 rw[C]at c3
 have a1:({m with ph:=5}:X7).pk.length=n:=C
 rw[a1]at b0
 clear j v a6 hF b1 b5 a1 C
 go_enter func76,ntmps76
 go_upto_region 1 with fail
 obtain⟨w1,a4⟩:=exq (w.setCell ⟨e,14,none⟩ (I O 5))
 rw[a4]at b0 a8 a7|-
 clear a4 c5 c4
 go_wp2_with fail
 go_loopg [12] n (fun gg c6 wr=> ∃k,k<=n/\gg=n-k/\c6=I O k/\Hid (Zg w1 wr e tb bb bk im T tc Ap pc es mc own (L3 {m with ph:=5} (m.pk.take k))))
 case atStart=>exact⟨0,V5 _,rfl,rfl,Q0 ⟨_,_,_,_,_,_,_,_,a8,F8 (Q2 _ _)⟩⟩
 obtain⟨k,hk,rfl,rfl,HL⟩:=hrel
 obtain⟨d7,d9,e2,e1,e4,e5,G1,d6,a9,a5⟩:=HL.out
 have i:=Q0 a9
 have HOr:=Q0 a5
 clear a9 a5 HL
 by_cases c8:k<n
 ·have E:k<m.pk.length:=by rw[HN.out];exact c8
  have y:=i.park;rw[La]at y;obtain⟨gp,c2⟩:=QC y (by show 0<m.pk.length;omega);subst c2;obtain⟨y0,y1,y2,y3,y4⟩:=BZ y E;have J:=c0.out _ (Y1 E);have D:m.pk.take (k+1)=m.pk.take k++ [m.pk[k]]:=M8 E;obtain⟨x,hx⟩:=exq (m.pk[k]);rw[hx]at y0 y1 y2 y3 y4 J D;have d0:=Q0 D;have d1:(k:Int)< (n:Int):=by omega
  have e7:(0:Int)<=(k:Int):=by omega
  have u:Below wr.heap.size wr (wr.alloc (.cells #[I O x.id,I O x.side,I O x.kind,I O x.price,I O x.qty] 29)):=(Q2 _ wr).alloc (Q4 _) _;have U:=J9 wr 29 #[I O x.id,I O x.side,I O x.kind,I O x.price,I O x.qty];have N:=i.below u;obtain⟨wz,a0⟩:=exq (wr.alloc (.cells #[I O x.id,I O x.side,I O x.kind,I O x.price,I O x.qty] 29));rw[a0]at u U N;have Z:=Pc N x J;unfold X5 at Z;have b9:=Q0 Z;have c9:=Q0 u;have HZ:=Q0 U;clear D hx J y u U N Z;go_upto_region 4 with fail
  try rw[a0]
  clear a0 y0 y1 y2 y3 y4;obtain⟨z0,z1,z2,z3,z4⟩:=FF HZ;go_wp2_with fail
  refine b9.mono ?_;rintro ev w4 ⟨rfl,e9,f0,d8,e6,d2,d4,G4,e8,a3,a2⟩;have b8:=Q0 a3;have c1:=Q0 a2;clear a3 a2 z0 z1 z2 z3 z4;go_wp2_with fail
  go_roundg (n- (k+1))
  case measure=>omega
  exact⟨k+1,by omega,rfl,by go_num,Q0 ⟨_,_,_,_,_,_,_,_,by rw[d0.out,Dq];exact b8,(HOr.trans (F8 c9)).trans c1⟩⟩
 obtain rfl:k=n:=by omega
 have d1: ¬(k:Int)< (k:Int):=by omega
 have e3:=i.cell i.ec.c12
 have d5:=i.frozen 12
 go_wp2_with fail
 refine BP (KW rfl _ _ _) rfl ?_
 obtain⟨d3,b2,c7⟩:=i.pkNil
 rw[N7 (by rw[HN.out];exact Q4 _)]at b2
 exact⟨rfl,_,EW (m:=ZR m) b2 (fun _ _ _=>rfl),((a7.trans HOr).trans c7).bstep HF⟩
section
variable {w w':World} {e:Nat} {F:Nat->Prop} {cs:Array Value} {tb bb bk im:Nat} {T:Option Addr} {tc:Nat} {Al:Option Addr} {lc:Nat} {lv:List X4} {bu se:Int} {Ap:Option Addr} {pc:Nat} {es:List MapEntry} {mc:Nat} {G:Nat->Prop} {own:Nat->Nat->Prop} {m:X7}
theorem Uw (i:V1 w e cs tb bb bk im T tc Al lc lv bu se Ap pc es mc G own (fun s k=>Y2 s k (L6 m)) m) (Z:1<=m.la/\m.la<=1000000) W (E:Below w.heap.size w W):
  Calls prog 80 #[IP (some ⟨e,9,none⟩),I O m.la] W fun D w'=>D= .returned (QX (P5 m))/\Below W.heap.size W w':=by
 have j:=i.book.lists
 have u:=BR j
 have hp:=i.is.points i.ind.ok u m.la
 have y:(L6 m).length<=100:=j.cnt
 have C:=Mh (l:=L6 m) (more:=m.la) y (fun o v hk=>(u o v).2.2.resolve_left hk) Z.2
 have U: ∀p∈XM lv bu se m.la,UU p:=fun p h=>by
  have h1:=C p (hp▸h);exact⟨⟨h1.1,h1.2.1⟩,⟨by omega,by omega⟩,⟨by omega,by omega⟩⟩
 have J:(XM lv bu se m.la).length<=100000:=by
  have h1:=Ee (L6 m) m.la;have h2:(XM lv bu se m.la).length=(S7 (L6 m) m.la).length:=E7 List.length hp;omega
 have key:=Qr0 W e 103 cs 9 Al lc lv bu se (i.below E).ind (Yt j i.ind.ok i.is) m.la (by omega) U J
 have N:KV (XM lv bu se m.la) m.la=P5 m:=by
  unfold P5;rw[hp]
  rfl
 rw[N]at key
 exact key
end
theorem Fm {w a Q g cs} (hp:a.tmps.getD 2 undef= IP (some ⟨g,0,none⟩)) (j:a.defers= [])
  (i:Q1 w g 83 cs) (h2:cs.size=3) (h:Q (.returned (.agg cs)) w):bodyPost prog Tryz.f30 Q .ret a w:=
 P4 (PG Tryz.results30 a.tmps w g _ cs (0,0) _ hp i TC rfl (by rw[h2];kernel_rfl)) j h
theorem Ql8 {w e F m} (h:C3 w e F m) (a2:1<=m.la/\m.la<=1000000):
  Calls prog 30 #[IP (some ⟨e,0,none⟩)] w fun E w'=>E= .returned (QX (NT m))/\Below w.heap.size w w':=by
 obtain⟨cs,tb,bb,bk,im,T,tc,Al,lc,lv,bu,se,Ap,pc,es,mc,G,own,hM,hF⟩:=h
 have y:Below w.heap.size w (w.alloc (.cells #[I O 0,I O 0,I O 0] 83)):=(Q2 _ w).alloc (Q4 _) _
 have i:=J9 w 83 #[I O 0,I O 0,I O 0]
 have u:=hM.below y
 obtain⟨w1,N⟩:=exq (w.alloc (.cells #[I O 0,I O 0,I O 0] 83))
 rw[N]at y i u
 have a8:=u.cell u.ec.c14
 have c7:=u.cell u.ec.c7
 have HW:=Q0 (fun W hW=>Uw u a2 W hW)
 have a6:=Q0 u
 have HX:=Q0 i
 have U:=Q0 y
 have f0:=J1 i 0
 have f1:=J1 i 1
 have f2:=J1 i 2
 obtain⟨z0,Z,z2⟩:w1.cell? ⟨w.heap.size,0,none⟩=some (I O 0)/\w1.cell? ⟨w.heap.size,1,none⟩=some (I O 0)/\w1.cell? ⟨w.heap.size,2,none⟩=some (I O 0):=⟨by rw[J0 i];rfl,by rw[J0 i];rfl,by rw[J0 i];rfl⟩
 clear hM y i u hF a2
 obtain⟨ab,J⟩:=exq (GC m.ph)
 have D:=Q0 (Tx m.ph w1)
 rw[J]at D
 have a0:=Q0 J
 clear J
 go_enter func30,ntmps30
 go_upto_region 1 with fail
 try rw[N]
 clear N
 go_wp2_with fail
 refine D.mono ?_
 rintro E wa ⟨rfl,rfl⟩
 cases ab with
 |false=>
  go_wp2_with fail
  have a3:=J7 (J7 (J7 HX 0 (I O 0)) 1 (I O 0)) 2 (I O 0);refine Fm (g:=w.heap.size) (cs:= #[I O 0,I O 0,I O 0]) (by with_unfolding_all rfl) (by with_unfolding_all rfl) a3 rfl ?_;refine⟨?_,((U.setCell (Q4 _) _).setCell (Q4 _) _).setCell (Q4 _) _⟩;unfold NT;rw[a0.out]
  rfl
 |true=>
  clear z0 Z z2 f0 f1 f2 D;obtain⟨⟨t0,t1,t2⟩,ht⟩: ∃q,P5 m=q:=⟨_,rfl⟩;have HT:=Q0 ht;have v:=HW.out w1.drew (J3 (Q2 _ w1));rw[ht]at v;unfold QX at v;dsimp only at v;have a1:=Q0 v;have a5:=Q0 (RG bb m.st m.dy m.an m.la w1.drew (Z2 a6.bands));clear v ht HW;go_wp2_with fail
  go_still_tail 8,(by kernel_rfl)
  still_call (a5.mono (fun _ _ ⟨h1,h2⟩=>⟨h1,h2.symm⟩))
  refine wpStill_nil ?_;change wpList _ _ _ _ _ w1.drew;go_wp2_with fail
  refine a1.mono ?_;rintro E w3 ⟨rfl,C⟩;have j:=J4 (Z2 HX) C;have f0:=J1 j 0;have f1:=J1 j 1;have f2:=J1 j 2;obtain⟨z0,Z,z2⟩:w3.cell? ⟨w.heap.size,0,none⟩=some (I O 0)/\w3.cell? ⟨w.heap.size,1,none⟩=some (I O 0)/\w3.cell? ⟨w.heap.size,2,none⟩=some (I O 0):=⟨by rw[J0 j];rfl,by rw[J0 j];rfl,by rw[J0 j];rfl⟩;have a4:=Q0 j;have a7:=Q0 (U.trans (((J3 (Q2 _ w1)).trans C).mono U.size));clear j C a1;go_wp2_with fail
  refine Fm (g:=w.heap.size) (cs:= #[I O t0,I O t1,I O t2]) (by with_unfolding_all rfl) (by with_unfolding_all rfl) (J7 (J7 (J7 a4 0 _) 1 _) 2 _) rfl ?_;refine⟨?_,((a7.setCell (Q4 _) _).setCell (Q4 _) _).setCell (Q4 _) _⟩;unfold NT;rw[a0.out,Q5 rfl,HT.out]
  rfl
theorem Qu3 {L1 L2} (h:B8 L1 L2) p:JU p (L1++L2)=C7 1 p L1:=by
 have j:JU p (L1++L2)=T5 (XA p) (L1++L2):=by unfold JU;rw[Fe];omega
 have u:T5 (XA p) L2=0:=Hd fun o i=>by unfold XA;rw[Q3 (by have:=h.s2 o i;omega)]
 have v:T5 (XA p) L1=C7 1 p L1:=Ff fun o i=>by
  have:=h.s1 o i;unfold XA KB
  by_cases hk:o.kind=2<;>by_cases hp:p<=o.price<;>simp[this,hk,hp]
 rw[j,Vm,u,v]
 omega
theorem Qu4 {L1 L2} (h:B8 L1 L2) p:JY p (L1++L2)=C7 2 p L2:=by
 have j:JY p (L1++L2)=T5 (XB p) (L1++L2):=by unfold JY;rw[Fe];omega
 have u:T5 (XB p) L1=0:=Hd fun o i=>by unfold XB;rw[Q3 (by have:=h.s1 o i;omega)]
 have v:T5 (XB p) L2=C7 2 p L2:=Ff fun o i=>by
  have:=h.s2 o i;unfold XB KB
  by_cases hk:o.kind=2<;>by_cases hp:o.price<=p<;>simp[this,hk,hp]
 rw[j,Vm,u,v]
 omega
theorem Qe1 {L1 L2} (h:B8 L1 L2):FV (L1++L2):=fun o i=>by
 have h1:=BR h o i
 unfold JA
 rw[Z5 h1.2.1.1,Z5 h1.2.1.2]
 rcases h1.1 with e|e
 ·rw[e];rfl
 rw[e];rfl
theorem Qe2 {L1 L2} (h:B8 L1 L2) {more} (j:1<=more/\more<=1000000): ∀y∈S7 (L1++L2) more,1<=y.1/\y.1<=1000000:=by
 intro y hy
 obtain⟨q,i,rfl⟩:=U4.1 hy
 have i:=(Ar _ _).1 i
 show 1<=q/\q<=1000000
 unfold N3 at i
 rcases Y7.1 i with i|i
 ·rw[Q5 j.1]at i
  simp at i;omega
 obtain⟨o,u,rfl⟩:=U4.1 i
 have h1:=(P3.1 (P3.1 u).1).1
 exact(h.ok o h1).2.2.1
theorem RC {m} (h:B8 m.L1 m.L2) (i:1<=m.la/\m.la<=1000000) (j:0< (P5 m).2.1):
  (P5 m).2.1<=C7 1 (P5 m).1 m.L1/\(P5 m).2.1<=C7 2 (P5 m).1 m.L2/\1<=(P5 m).1/\(P5 m).1<=1000000:=by
 have u:=(Qq8 (Qe1 h) i.1 m.la).2 j
 have h1:=u.1
 rw[Qu3 h,Qu4 h]at h1
 have h2:(P5 m).2.1=min (C7 1 (P5 m).1 m.L1) (C7 2 (P5 m).1 m.L2):=h1
 refine⟨by omega,by omega, ?_⟩
 rcases choose_spec (S7 (L6 m) m.la) m.la with⟨e,-⟩|⟨y,hy,e,-,-⟩
 ·have:(P5 m).2.1=0:=by unfold P5;rw[e]
  omega
 have v:(P5 m).1=y.1:=by unfold P5;rw[e]
 rw[v]
 exact Qe2 h i y hy
def D3 (L:List Q8):List Q8:=L.filter fun o=>o.kind ==1
theorem Jn {L o} (h:o.kind=1):D3 (L++ [o])=D3 L++ [o]:=by unfold D3;rw[QL,ML (by simp[h])];rfl
theorem Jq {L o} (h:o.kind≠1):D3 (L++ [o])=D3 L:=by unfold D3;rw[QL,CF (by simpa using h)];simp
theorem WL {L o} (h:o∈D3 L):o∈L:=(P3.1 h).1
def YQ (l:List Q8) (k:Nat):List Q8:=D3 (l.take k)++l.drop k
theorem Lb l:YQ l 0=l:=by unfold YQ;rw[List.take_zero,FW];rfl
theorem Mw {l k} (h:l.length<=k):YQ l k=D3 l:=by unfold YQ;rw[N7 h,CG h,YP]
theorem Mx {l k} (hk:k<l.length) (h:l[k].kind=1):YQ l (k+1)=YQ l k:=by
 unfold YQ
 rw[M8 hk,Jn h,UC hk]
 simp
theorem Pf {l k} (hk:k<l.length) (h:l[k].kind≠1) (v:(l.map (·.id)).Nodup):D1 (YQ l k) l[k].id=YQ l (k+1)/\l[k]∈YQ l k:=by
 have i:=UC hk
 have e:l=l.take k++l[k]::l.drop (k+1):=by rw[<-i,P2]
 have j:((l.take k++l[k]::l.drop (k+1)).map (·.id)).Nodup:=by rw[<-e];exact v
 rw[T1,S6,YX,KT]at j
 refine⟨?_,QB _ (by rw[i];exact PE)⟩
 unfold YQ
 rw[M8 hk,Jq h,i]
 unfold D1
 rw[QL,CF (by simp),KR.2 (fun y hy=> ?_),KR.2 (fun y hy=> ?_)]
 ·have:y.id≠l[k].id:=fun u=>j.2.1.1 (by rw[<-u];exact U4.2 ⟨y,hy,rfl⟩)
  simpa using this
 have:=j.2.2 _ (U4.2 ⟨y,WL hy,rfl⟩) _ (PE)
 simpa using this
