/- Contracts and walks that the law's proof needs. -/
import Derived.Test.YtbmiieehkkfbgaaGreatDoorZd31
import Derived.Test.YtbmiieehkkfbgaaGreatDoorZd19
import Derived.Test.YtbmiieehkkfbgaaGreatDoorZd28
import Derived.WalkKit
import Derived.WalkLawsBesides
import Derived.WalkSpells
import Derived.StillTailTactics
import Derived.Deep.QuietTactic
import Derived.BigQuiet
import Derived.BigRegion
import Derived.Deep.CutBlock
import Derived.Laws.ResultCell
import Derived.Test.YtbmiieehkkfbgaaGreatDoorZd15
import Derived.Test.YtbmiieehkkfbgaaGreatDoorZd20
import Derived.Deep.LoopGhost
import Derived.Deep.DeepCutAuto
set_option linter.unusedVariables false
set_option maxRecDepth 100000
set_option maxHeartbeats 8000000
namespace Go.Proofs.YtbmiieehkkfbgaaGreatDoor
open Go.ChangeMaps Go.RowKit
section
variable {w w':World} {e:Nat} {cs:Array Value} {tb bb bk im:Nat} {T:Option Addr} {tc:Nat} {Al:Option Addr} {lc:Nat} {lv:List XJ} {bu se:Int} {Ap:Option Addr} {pc:Nat} {es:List MapEntry} {mc:Nat} {G:Nat→Prop} {own:Nat→Nat→Prop} {g:Int→Option Int→Int} {m:VQ}
theorem JK {i j:Nat} {v u:Value} (h:cs[i]?=some v) (hne:j≠i):(cs.setIfInBounds j u)[i]?=some v:=by rw[Array.getElem?_setIfInBounds_ne hne];exact h
theorem Qu8 {j:Nat} {u:Value} (h:j<cs.size):(cs.setIfInBounds j u)[j]?=some u:=Array.getElem?_setIfInBounds_self_of_lt h
theorem Jf4.setPh (h:Jf4 cs tb bb bk im Ap pc m) (v:Int):Jf4 (cs.setIfInBounds 14 (.int .i64 v)) tb bb bk im Ap pc {m with ph:=v}:=
 ⟨by rw[Array.size_setIfInBounds];exact h.sz,JK h.c4 (by decide),JK h.c5 (by decide),JK h.c6 (by decide),JK h.c7 (by decide),JK h.c8 (by decide),JK h.c12 (by decide),JK h.c13 (by decide),Qu8 (by have:=h.sz;omega),JK h.c15 (by decide),JK h.c16 (by decide),JK h.c17 (by decide)⟩
theorem Jf4.setNow (h:Jf4 cs tb bb bk im Ap pc m) (v:Int):Jf4 (cs.setIfInBounds 15 (.int .i64 v)) tb bb bk im Ap pc {m with now:=v}:=
 ⟨by rw[Array.size_setIfInBounds];exact h.sz,JK h.c4 (by decide),JK h.c5 (by decide),JK h.c6 (by decide),JK h.c7 (by decide),JK h.c8 (by decide),JK h.c12 (by decide),JK h.c13 (by decide),JK h.c14 (by decide),Qu8 (by have:=h.sz;omega),JK h.c16 (by decide),JK h.c17 (by decide)⟩
theorem Jf4.setEnds (h:Jf4 cs tb bb bk im Ap pc m) (v:Int):Jf4 (cs.setIfInBounds 16 (.int .i64 v)) tb bb bk im Ap pc {m with ends:=v}:=
 ⟨by rw[Array.size_setIfInBounds];exact h.sz,JK h.c4 (by decide),JK h.c5 (by decide),JK h.c6 (by decide),JK h.c7 (by decide),JK h.c8 (by decide),JK h.c12 (by decide),JK h.c13 (by decide),JK h.c14 (by decide),JK h.c15 (by decide),Qu8 (by have:=h.sz;omega),JK h.c17 (by decide)⟩
theorem Jf4.setLng (h:Jf4 cs tb bb bk im Ap pc m) (v:Int):Jf4 (cs.setIfInBounds 17 (.int .i64 v)) tb bb bk im Ap pc {m with lng:=v}:=
 ⟨by rw[Array.size_setIfInBounds];exact h.sz,JK h.c4 (by decide),JK h.c5 (by decide),JK h.c6 (by decide),JK h.c7 (by decide),JK h.c8 (by decide),JK h.c12 (by decide),JK h.c13 (by decide),JK h.c14 (by decide),JK h.c15 (by decide),JK h.c16 (by decide),Qu8 (by have:=h.sz;omega)⟩
theorem UZ.setCell_ {j:Nat} {v:Value} {m':VQ} (h:UZ w e cs tb bb bk im T tc Al lc lv bu se Ap pc es mc G own g m) (hj:j≠9∧j≠10∧j≠11) (hc:Jf4 (cs.setIfInBounds j v) tb bb bk im Ap pc m')
  (hm:m'.rows=m.rows∧m'.st=m.st∧m'.dy=m.dy∧m'.an=m.an∧m'.la=m.la∧m'.L1=m.L1∧m'.L2=m.L2∧m'.pk=m.pk∧m'.ids=m.ids):
  UZ (w.setCell ⟨e,j,none⟩ v) e (cs.setIfInBounds j v) tb bb bk im T tc Al lc lv bu se Ap pc es mc G own g m'∧VW w (w.setCell ⟨e,j,none⟩ v) own own:=
 h.cellsTo (QJ.set_ h.ind.blk j v) (QK.set_ w ⟨e,j,none⟩ v) hc (Array.getElem?_setIfInBounds_ne hj.1) (Array.getElem?_setIfInBounds_ne hj.2.1) (Array.getElem?_setIfInBounds_ne hj.2.2) hm
theorem UZ.setPh (h:UZ w e cs tb bb bk im T tc Al lc lv bu se Ap pc es mc G own g m) (v:Int):
  UZ (w.setCell ⟨e,14,none⟩ (.int .i64 v)) e (cs.setIfInBounds 14 (.int .i64 v)) tb bb bk im T tc Al lc lv bu se Ap pc es mc G own g {m with ph:=v}∧VW w (w.setCell ⟨e,14,none⟩ (.int .i64 v)) own own:=
 h.setCell_ (by decide) (h.ec.setPh v) ⟨rfl,rfl,rfl,rfl,rfl,rfl,rfl,rfl,rfl⟩
theorem UZ.setNow (h:UZ w e cs tb bb bk im T tc Al lc lv bu se Ap pc es mc G own g m) (v:Int):
  UZ (w.setCell ⟨e,15,none⟩ (.int .i64 v)) e (cs.setIfInBounds 15 (.int .i64 v)) tb bb bk im T tc Al lc lv bu se Ap pc es mc G own g {m with now:=v}∧VW w (w.setCell ⟨e,15,none⟩ (.int .i64 v)) own own:=
 h.setCell_ (by decide) (h.ec.setNow v) ⟨rfl,rfl,rfl,rfl,rfl,rfl,rfl,rfl,rfl⟩
theorem UZ.setEnds (h:UZ w e cs tb bb bk im T tc Al lc lv bu se Ap pc es mc G own g m) (v:Int):
  UZ (w.setCell ⟨e,16,none⟩ (.int .i64 v)) e (cs.setIfInBounds 16 (.int .i64 v)) tb bb bk im T tc Al lc lv bu se Ap pc es mc G own g {m with ends:=v}∧VW w (w.setCell ⟨e,16,none⟩ (.int .i64 v)) own own:=
 h.setCell_ (by decide) (h.ec.setEnds v) ⟨rfl,rfl,rfl,rfl,rfl,rfl,rfl,rfl,rfl⟩
theorem UZ.setLng (h:UZ w e cs tb bb bk im T tc Al lc lv bu se Ap pc es mc G own g m) (v:Int):
  UZ (w.setCell ⟨e,17,none⟩ (.int .i64 v)) e (cs.setIfInBounds 17 (.int .i64 v)) tb bb bk im T tc Al lc lv bu se Ap pc es mc G own g {m with lng:=v}∧VW w (w.setCell ⟨e,17,none⟩ (.int .i64 v)) own own:=
 h.setCell_ (by decide) (h.ec.setLng v) ⟨rfl,rfl,rfl,rfl,rfl,rfl,rfl,rfl,rfl⟩
theorem UZ.frozen (h:UZ w e cs tb bb bk im T tc Al lc lv bu se Ap pc es mc G own g m) (i:Nat):w.frozen? ⟨e,i,none⟩=false:=QJ.frozen h.ind.blk i
theorem UZ.pkTo {P':List QX} {Ap':Option Addr} {pc':Nat} (h:UZ w e cs tb bb bk im T tc Al lc lv bu se Ap pc es mc G own g m) (hk:QK (fun i=>QZ Ap=some i) w w') (hr:QW w' Ap' P'.length pc' 117 5 (JQ I6 P')) (hg: ∀i,QZ Ap'=some i→QZ Ap=some i∨w.heap.size≤i):
  ∃own',UZ (w'.setCell ⟨e,12,none⟩ (.slice Ap' P'.length pc')) e (cs.setIfInBounds 12 (.slice Ap' P'.length pc')) tb bb bk im T tc Al lc lv bu se Ap' pc' es mc G own' g {m with pk:=P'}∧VW w (w'.setCell ⟨e,12,none⟩ (.slice Ap' P'.length pc')) own own':=by
 have f: ∀ {i k:Nat},own i k→k≠6→ ¬QZ Ap=some i:=fun hi hne=>h.fit (S:=fun i=>QZ Ap=some i) h.op hi hne
 have f1: ∀ {i k:Nat},own i k→k≠1→ ¬i=e:=fun hi hne=>h.fit (S:=fun i=>i=e) (fun i hi=>hi▸h.oe) hi hne
 have n: ∀ {i k:Nat},own i k→Qs2 w own (fun i=>QZ Ap'=some i) 6 i k:=fun hi=> .inl hi
 have he:e<w.heap.size:=QJ.lt h.ind.blk
 have hk2:=QK.set_ w' ⟨e,12,none⟩ (.slice Ap' P'.length pc')
 have hk':QK (fun i=>QZ Ap=some i∨i=e) w (w'.setCell ⟨e,12,none⟩ (.slice Ap' P'.length pc')):=(hk.mono (fun i hi=> .inl hi)).trans hk2 (fun i hi=> .inl (.inr hi))
 have q: ∀ {i k:Nat},own i k→k≠6→k≠1→ ¬(QZ Ap=some i∨i=e):=fun hi h6 h1 x=>x.elim (f hi h6) (f1 hi h1)
 have hr2:=h.ind
 have hne: ∀i,QZ Ap'=some i→ ¬i=e:=fun i hi hie=>by
  rcases hg i hi with e1|e1
  ·exact f h.oe (by decide) (hie▸e1)
  ·omega
 have hsz:=hk.size
 refine⟨Qs2 w own (fun i=>QZ Ap'=some i) 6,⟨⟨QJ.set_ (QJ.keeps hr2.blk hk (f h.oe (by decide))) 12 _, ?_, ?_, ?_,hr2.row.keeps hk' (fun i hi=>q (h.ol i hi) (by decide) (by decide)),hr2.na,hr2.ok⟩, ?_,h.is,Nat.lt_of_lt_of_le h.tabl hk'.size,(hk'.cell (p:=⟨tb,0,none⟩) h.tabl (q h.ot (by decide) (by decide))).trans h.tabc,h.tabp.keeps hk' (fun i hi=>q (h.oT i hi) (by decide) (by decide)),QJ.keeps h.bands hk' (q h.ob (by decide) (by decide)),h.book.keeps hk' (fun i hi=>q (h.oG i hi) (by decide) (by decide)),hr.keeps hk2 hne,h.map_.of_block (hk'.block _ h.map_.lt (q h.oi (by decide) (by decide))),h.keys,h.ids,h.ok.new_ hk'.size (fun i hi=>Nat.lt_of_lt_of_le (hr.lt hi) hk2.size) 6,n h.oe,n h.ot,fun i hi=>n (h.oT i hi),n h.ob,fun i hi=>n (h.oG i hi),fun i hi=>n (h.ol i hi),fun i hi=> ?_,n h.oi⟩,hk'.mono (fun i hi=> ?_),fun i k hi=>hi.imp id (fun x=>x.1)⟩
 ·exact JK hr2.c0 (by decide)
 ·exact JK hr2.c1 (by decide)
 ·exact JK hr2.c2 (by decide)
 ·have hc:=h.ec
  exact⟨by rw[Array.size_setIfInBounds];exact hc.sz,JK hc.c4 (by decide),JK hc.c5 (by decide),JK hc.c6 (by decide),JK hc.c7 (by decide),JK hc.c8 (by decide),Qu8 (by have:=hc.sz;omega),JK hc.c13 (by decide),JK hc.c14 (by decide),JK hc.c15 (by decide),JK hc.c16 (by decide),JK hc.c17 (by decide)⟩
 ·rcases hg i hi with e1|e1
  ·exact n (h.op i e1)
  ·exact .inr ⟨e1,hi,rfl⟩
 ·rcases hi with hi|rfl
  ·exact⟨6,h.op i hi⟩
  ·exact⟨1,h.oe⟩
theorem UZ.pkNil (h:UZ w e cs tb bb bk im T tc Al lc lv bu se Ap pc es mc G own g m):
  ∃own',UZ (w.setCell ⟨e,12,none⟩ (.slice none 0 0)) e (cs.setIfInBounds 12 (.slice none 0 0)) tb bb bk im T tc Al lc lv bu se none 0 es mc G own' g {m with pk:= []}∧VW w (w.setCell ⟨e,12,none⟩ (.slice none 0 0)) own own':=
 h.pkTo (P':= []) (QK.of_below (Below.refl _ _) _) (World.ownsRow_nil _ _ _ _) (fun i hi=>by simp[QZ]at hi)
theorem UZ.indNil (h:UZ w e cs tb bb bk im T tc Al lc lv bu se Ap pc es mc G own g m):
  UZ (((w.setCell ⟨e,9,none⟩ (.slice none 0 0)).setCell ⟨e,10,none⟩ (.int .i64 0)).setCell ⟨e,11,none⟩ (.int .i64 0)) e (((cs.setIfInBounds 9 (.slice none 0 0)).setIfInBounds 10 (.int .i64 0)).setIfInBounds 11 (.int .i64 0)) tb bb bk im T tc none 0 [] 0 0 Ap pc es mc G own (fun s k=>Q3 s k []) m∧VW w (((w.setCell ⟨e,9,none⟩ (.slice none 0 0)).setCell ⟨e,10,none⟩ (.int .i64 0)).setCell ⟨e,11,none⟩ (.int .i64 0)) own own:=by
 have hk:=((QK.set_ w ⟨e,9,none⟩ (.slice none 0 0)).trans (QK.set_ _ ⟨e,10,none⟩ (.int .i64 0)) (fun i hi=> .inl hi)).trans (QK.set_ _ ⟨e,11,none⟩ (.int .i64 0)) (fun i hi=> .inl hi)
 have f: ∀ {i k:Nat},own i k→k≠1→ ¬i=e:=fun hi hne=>h.fit (S:=fun i=>i=e) (fun i hi=>hi▸h.oe) hi hne
 have hc:=h.ec
 have hs:=hc.sz
 have c: ∀i v,cs[i]?=some v→i≠9→i≠10→i≠11→(((cs.setIfInBounds 9 (.slice none 0 0)).setIfInBounds 10 (.int .i64 0)).setIfInBounds 11 (.int .i64 0))[i]?=some v:=fun i v hv h9 h10 h11=>JK (JK (JK hv (Ne.symm h9)) (Ne.symm h10)) (Ne.symm h11)
 refine⟨⟨⟨QJ.set_ (QJ.set_ (QJ.set_ h.ind.blk 9 _) 10 _) 11 _,JK (JK (Qu8 (by omega)) (by decide)) (by decide),JK (Qu8 (by simp;omega)) (by decide),Qu8 (by simp;omega),World.ownsRow_nil _ _ _ _,by simp[QZ],Xt3⟩,⟨by simp;exact hs,c _ _ hc.c4 (by decide) (by decide) (by decide),c _ _ hc.c5 (by decide) (by decide) (by decide),c _ _ hc.c6 (by decide) (by decide) (by decide),c _ _ hc.c7 (by decide) (by decide) (by decide),c _ _ hc.c8 (by decide) (by decide) (by decide),c _ _ hc.c12 (by decide) (by decide) (by decide),c _ _ hc.c13 (by decide) (by decide) (by decide),c _ _ hc.c14 (by decide) (by decide) (by decide),c _ _ hc.c15 (by decide) (by decide) (by decide),c _ _ hc.c16 (by decide) (by decide) (by decide),c _ _ hc.c17 (by decide) (by decide) (by decide)⟩,Xe8,Nat.lt_of_lt_of_le h.tabl hk.size,(hk.cell (p:=⟨tb,0,none⟩) h.tabl (f h.ot (by decide))).trans h.tabc,h.tabp.keeps hk (fun i hi=>f (h.oT i hi) (by decide)),QJ.keeps h.bands hk (f h.ob (by decide)),h.book.keeps hk (fun i hi=>f (h.oG i hi) (by decide)),h.park.keeps hk (fun i hi=>f (h.op i hi) (by decide)),h.map_.of_block (hk.block _ h.map_.lt (f h.oi (by decide))),h.keys,h.ids,h.ok.mono hk.size,h.oe,h.ot,h.oT,h.ob,h.oG,fun i hi=>by simp[QZ]at hi,h.op,h.oi⟩,hk.mono (fun i hi=>⟨1,hi▸h.oe⟩),fun i k hi=> .inl hi⟩
theorem UZ.otherBook {b':Nat} {G':Nat→Prop} {M1 M2:List QX} (h:UZ w e cs tb bb bk im T tc Al lc lv bu se Ap pc es mc G own g m) (hB:Q1 w b' G' M1 M2) (hG: ∀i k,G' i→ ¬own i k):
  ∃own',UZ (w.setCell ⟨e,8,none⟩ (.pointer (some ⟨b',0,none⟩))) e (cs.setIfInBounds 8 (.pointer (some ⟨b',0,none⟩))) tb bb b' im T tc Al lc lv bu se Ap pc es mc G' own' g {m with L1:=M1,L2:=M2}∧QK (fun i=> ∃k,own i k) w (w.setCell ⟨e,8,none⟩ (.pointer (some ⟨b',0,none⟩)))∧ ∀i k,own' i k→own i k∨G' i:=by
 have hk:=QK.set_ w ⟨e,8,none⟩ (.pointer (some ⟨b',0,none⟩))
 have f: ∀ {i k:Nat},own i k→k≠1→ ¬i=e:=fun hi hne=>h.fit (S:=fun i=>i=e) (fun i hi=>hi▸h.oe) hi hne
 have hc:=h.ec
 have hr2:=h.ind
 have n: ∀ {i k:Nat},own i k→own i k∨(G' i∧k=4):=fun hi=> .inl hi
 refine⟨fun i k=>own i k∨(G' i∧k=4),⟨⟨QJ.set_ hr2.blk 8 _,JK hr2.c0 (by decide),JK hr2.c1 (by decide),JK hr2.c2 (by decide),hr2.row.keeps hk (fun i hi=>f (h.ol i hi) (by decide)),hr2.na,hr2.ok⟩,⟨by simp;exact hc.sz,JK hc.c4 (by decide),JK hc.c5 (by decide),JK hc.c6 (by decide),JK hc.c7 (by decide),Qu8 (by have:=hc.sz;omega),JK hc.c12 (by decide),JK hc.c13 (by decide),JK hc.c14 (by decide),JK hc.c15 (by decide),JK hc.c16 (by decide),JK hc.c17 (by decide)⟩,h.is,Nat.lt_of_lt_of_le h.tabl hk.size,(hk.cell (p:=⟨tb,0,none⟩) h.tabl (f h.ot (by decide))).trans h.tabc,h.tabp.keeps hk (fun i hi=>f (h.oT i hi) (by decide)),QJ.keeps h.bands hk (f h.ob (by decide)),hB.keeps hk (fun i hi hie=>hG i 1 hi (by have h3:i=e:=hie;rw[h3];exact h.oe)),h.park.keeps hk (fun i hi=>f (h.op i hi) (by decide)),h.map_.of_block (hk.block _ h.map_.lt (f h.oi (by decide))),h.keys,h.ids,⟨fun i k k' h1 h2=> ?_,fun i k h1=> ?_⟩,n h.oe,n h.ot,fun i hi=>n (h.oT i hi),n h.ob,fun i hi=> .inr ⟨hi,rfl⟩,fun i hi=>n (h.ol i hi),fun i hi=>n (h.op i hi),n h.oi⟩,hk.mono (fun i hi=>⟨1,hi▸h.oe⟩),fun i k hi=>hi.imp id (fun x=>x.1)⟩
 ·rcases h1 with h1|⟨a1,b1⟩
  ·rcases h2 with h2|⟨a2,b2⟩
   ·exact h.ok.uni i k k' h1 h2
   ·exact absurd h1 (hG i k a2)
  ·rcases h2 with h2|⟨a2,b2⟩
   ·exact absurd h2 (hG i k' a1)
   ·rw[b1,b2]
 ·rcases h1 with h1|⟨a1,b1⟩
  ·exact Nat.lt_of_lt_of_le (h.ok.lt i k h1) hk.size
  ·exact Nat.lt_of_lt_of_le (hB.fp a1) hk.size
theorem UZ.mapTo {es':List MapEntry} {mc':Nat} {id:Int} (h:UZ w e cs tb bb bk im T tc Al lc lv bu se Ap pc es mc G own g m) (ht:Qf5 w w' im) (hm:J2 w' im es' mc') (hks:Qn7 es') (QQ: ∀k,V7 es' k=if k∈m.ids++ [id]then some (.bool true)else none):
  UZ w' e cs tb bb bk im T tc Al lc lv bu se Ap pc es' mc' G own g {m with ids:=m.ids++ [id]}∧VW w w' own own:=by
 have hk:QK (fun i=>i=im) w w':=⟨ht.os,ht.tape,ht.output,Nat.le_of_eq ht.size.symm,fun i _ hn=>ht.block i hn⟩
 have f: ∀ {i k:Nat},own i k→k≠7→ ¬i=im:=fun hi hne=>h.fit (S:=fun i=>i=im) (fun i hi=>hi▸h.oi) hi hne
 exact⟨⟨h.ind.keeps hk (f h.oe (by decide)) (fun i hi=>f (h.ol i hi) (by decide)),⟨h.ec.sz,h.ec.c4,h.ec.c5,h.ec.c6,h.ec.c7,h.ec.c8,h.ec.c12,h.ec.c13,h.ec.c14,h.ec.c15,h.ec.c16,h.ec.c17⟩,h.is,Nat.lt_of_lt_of_le h.tabl hk.size,(hk.cell (p:=⟨tb,0,none⟩) h.tabl (f h.ot (by decide))).trans h.tabc,h.tabp.keeps hk (fun i hi=>f (h.oT i hi) (by decide)),QJ.keeps h.bands hk (f h.ob (by decide)),h.book.keeps hk (fun i hi=>f (h.oG i hi) (by decide)),h.park.keeps hk (fun i hi=>f (h.op i hi) (by decide)),hm,hks,QQ,h.ok.mono hk.size,h.oe,h.ot,h.oT,h.ob,h.oG,h.ol,h.op,h.oi⟩,hk.mono (fun i hi=>⟨7,hi▸h.oi⟩),fun i k hi=> .inl hi⟩
end
end Go.Proofs.YtbmiieehkkfbgaaGreatDoor
namespace Go.Proofs.YtbmiieehkkfbgaaGreatDoor
open Go.RowKit
def Qd5 (sd:Int) (F:List XQ) (s:Int) (k:Option Int):Int:=(F.map fun f=>if 3-sd=s∧some f.p=k then f.n else 0).sum
theorem Qd6 (sd:Int) (f:XQ) (F:List XQ) (s:Int) (k:Option Int):Qd5 sd (f::F) s k=(if 3-sd=s∧some f.p=k then f.n else 0)+Qd5 sd F s k:=by unfold Qd5;rw[List.map_cons,List.sum_cons]
theorem Qw0 {sd:Int} {F:List XQ} (h: ∀f∈F,1≤f.n) (s:Int) (k:Option Int):0≤Qd5 sd F s k:=by
 induction F with
 |nil=>exact Int.le_refl _
 |cons f t ih=>
  rw[Qd6];have h1:=ih (fun g hg=>h g (by simp[hg]));have h2:=h f (by simp)
  split<;>omega
theorem Ki6 (o x:QX) (n:Int):(Jx8 o x n).p=x.price:=by unfold Jx8;split<;>rfl
theorem Ki7 (o x:QX) (n:Int):(Jx8 o x n).n=n:=by unfold Jx8;split<;>rfl
theorem Kd2 (x:QX) (n:Int) (s:Int) (k:Option Int):Q3 s k (Qr9 x n)=(if x.side=s∧Qa0 x=k then x.qty-n else 0):=by
 unfold Qr9
 by_cases h:n=x.qty
 ·rw[if_pos h,h]
  unfold Q3;simp
 ·rw[if_neg h]
  rw[Qb8,show Q3 s k ([]:List QX)=0 from rfl,Int.add_zero]
  rfl
section
variable {σ:Type} {al:σ→Int→Bool} {tr:σ→Int→σ}
theorem Ko9 {sd:Int} (s:Int) (k:Option Int): ∀(l:List QX) (o:QX) (t:σ),(∀x∈l,x.side=3-sd)→Q3 s k l=Q3 s k (VX al tr l o t).rest+Qd5 sd (VX al tr l o t).fills s k:=by
 intro l
 induction l with
 |nil=>intro o t _;rfl
 |cons x r ih=>
  intro o t h;have hx:=h x (by simp);have hr:=fun y hy=>h y (List.mem_cons_of_mem x hy)
  unfold VX
  split
  ·show Q3 s k (x::r)=Q3 s k (x::r)+0
   omega
  ·split
   ·have:=ih o t hr
    dsimp only;rw[Qb8,Qb8];omega
   ·split
    ·show Q3 s k (x::r)=Q3 s k (x::r)+0
     omega
    ·split
     ·show Q3 s k (x::r)=Q3 s k (x::r)+0
      omega
     ·rename_i hk _ _
      have:=ih (I9 o (min o.qty x.qty)) (tr t x.price) hr;dsimp only;rw[U7,Kd2,Qd6,Ki6,Ki7,Qb8];have hkey:Qa0 x=some x.price:=by unfold Qa0;rw[if_neg hk]
      rw[hkey]
      by_cases e:x.side=s∧some x.price=k
      ·rw[if_pos e,if_pos e,if_pos ⟨hx.symm.trans e.1,e.2⟩]
       omega
      ·rw[if_neg e,if_neg e,if_neg (fun y=>e ⟨hx.trans y.1,y.2⟩)]
       omega
structure Jm1 (f:XQ):Prop where
 n:1≤f.n∧f.n≤1000000
 p:1≤f.p∧f.p≤1000000
theorem Kd3: ∀(l:List QX) (o:QX) (t:σ),(∀x∈l,OkO x)→ ∀f∈(VX al tr l o t).fills,Jm1 f:=by
 intro l
 induction l with
 |nil=>intro o t _ f hf;cases hf
 |cons x r ih=>
  intro o t h f hf;have hx:=h x (by simp);have hr:=fun y hy=>h y (List.mem_cons_of_mem x hy)
  unfold VX at hf
  split at hf
  ·cases hf
  ·rename_i hq
   split at hf
   ·exact ih o t hr f hf
   ·split at hf
    ·cases hf
    ·split at hf
     ·cases hf
     ·dsimp only at hf
      rcases List.mem_cons.1 hf with rfl|hf
      ·have h1:=hx.2.2.2
       have h2:=hx.2.2.1;exact⟨by rw[Ki7];omega,by rw[Ki6];exact h2⟩
      ·exact ih _ _ hr f hf
theorem Xg2: ∀(l:List QX) (o:QX) (t:σ),Qf4 o→0≤o.qty→(∀x∈l,OkO x)→Qf4 (VX al tr l o t).left∧(VX al tr l o t).left.id=o.id∧(VX al tr l o t).left.side=o.side∧(VX al tr l o t).left.kind=o.kind∧(VX al tr l o t).left.price=o.price∧0≤(VX al tr l o t).left.qty∧(VX al tr l o t).left.qty≤o.qty:=by
 intro l
 induction l with
 |nil=>intro o t hf hq _;exact⟨hf,rfl,rfl,rfl,rfl,hq,Int.le_refl _⟩
 |cons x r ih=>
  intro o t hf hq0 h;have hx:=h x (by simp);have hr:=fun y hy=>h y (List.mem_cons_of_mem x hy)
  unfold VX
  split
  ·exact⟨hf,rfl,rfl,rfl,rfl,hq0,Int.le_refl _⟩
  ·rename_i hq
   split
   ·exact ih o t hf hq0 hr
   ·split
    ·exact⟨hf,rfl,rfl,rfl,rfl,hq0,Int.le_refl _⟩
    ·split
     ·exact⟨hf,rfl,rfl,rfl,rfl,hq0,Int.le_refl _⟩
     ·have h1:=hx.2.2.2
      have hf2:=hf.2.2.2.2;unfold KZ at hf2;obtain⟨a1,a2,a3,a4,a5,a6,a7⟩:=ih (I9 o (min o.qty x.qty)) (tr t x.price) ⟨hf.1,hf.2.1,hf.2.2.1,hf.2.2.2.1,by unfold KZ I9;dsimp only;omega⟩ (by unfold I9;dsimp only;omega) hr;have h8:(I9 o (min o.qty x.qty)).qty≤o.qty:=by unfold I9;dsimp only;omega
      exact⟨a1,a2,a3,a4,a5,a6,Int.le_trans a7 h8⟩
end
section
variable {w:World} {e:Nat} {F:Nat→Prop} {m:VQ}
theorem Kd4 (h:YQ w e F m):Calls Tryz.prog 58 #[.pointer (some ⟨e,0,none⟩)] w fun ev w'=>ev= .returned (.int .i64 m.ph)∧Below w.heap.size w w':=by
 obtain⟨cs,tb,bb,bk,im,T,tc,Al,lc,lv,bu,se,Ap,pc,es,mc,G,own,hM,hF⟩:=h
 have c:=hM.cell hM.ec.c14
 clear hM hF
 go_enter Tryz.func58,Tryz.ntmps58
 go_wp2
 go_ret
 exact⟨rfl,Below.refl _ _⟩
theorem Kz1 (h:YQ w e F m):Calls Tryz.prog 64 #[.pointer (some ⟨e,0,none⟩)] w fun ev w'=>ev= .returned (.int .i64 m.now)∧Below w.heap.size w w':=by
 obtain⟨cs,tb,bb,bk,im,T,tc,Al,lc,lv,bu,se,Ap,pc,es,mc,G,own,hM,hF⟩:=h
 have c:=hM.cell hM.ec.c15
 clear hM hF
 go_enter Tryz.func64,Tryz.ntmps64
 go_wp2
 go_ret
 exact⟨rfl,Below.refl _ _⟩
theorem Kp0 (h:YQ w e F m):Calls Tryz.prog 60 #[.pointer (some ⟨e,0,none⟩)] w fun ev w'=>ev= .returned (.tuple #[.int .i64 m.an,.int .i64 m.la])∧Below w.heap.size w w':=by
 obtain⟨cs,tb,bb,bk,im,T,tc,Al,lc,lv,bu,se,Ap,pc,es,mc,G,own,hM,hF⟩:=h
 have c:=hM.cell hM.ec.c7
 have HB:=QQ hM.bands
 clear hM hF
 go_enter Tryz.func60,Tryz.ntmps60
 go_wp2_with fail
 go_quiet (first|(go_at_call 91;exact Calls.quiet_of_same ((Kb9 bb m.st m.dy m.an m.la _ (by first|exact HB.out|exact QJ.drew HB.out|exact QJ.drewN HB.out _)).mono (fun _ _ ⟨h1,h2⟩=>⟨h1,h2.symm⟩)))|(go_at_call 90;exact Calls.quiet_of_same ((Qr6 bb m.st m.dy m.an m.la _ (by first|exact HB.out|exact QJ.drew HB.out|exact QJ.drewN HB.out _)).mono (fun _ _ ⟨h1,h2⟩=>⟨h1,h2.symm⟩))))
 go_wp2
 go_ret2
 exact⟨rfl,QY (Below.refl _ _) _⟩
theorem Kp1 (h:YQ w e F m) (sd:Int) (hs:UQ sd):Calls Tryz.prog 55 #[.pointer (some ⟨e,0,none⟩),.int .i64 sd] w fun ev w'=>Below w.heap.size w w'∧ ∃A c,ev= .returned (.tuple #[.slice A (JY sd m.L1 m.L2).length c,.nilIface])∧QW w' A (JY sd m.L1 m.L2).length c 117 5 (JQ I6 (JY sd m.L1 m.L2))∧ ∀g,QZ A=some g→w.heap.size≤g:=by
 obtain⟨cs,tb,bb,bk,im,T,tc,Al,lc,lv,bu,se,Ap,pc,es,mc,G,own,hM,hF⟩:=h
 have c:=hM.cell hM.ec.c8
 have HS:=QQ (Qb9 w bk G m.L1 m.L2 hM.book sd hs)
 clear hM hF hs
 obtain⟨l,hl⟩: ∃l,JY sd m.L1 m.L2=l:=⟨_,rfl⟩
 rw[hl]at HS⊢
 go_enter Tryz.func55,Tryz.ntmps55
 go_wp2_with fail
 refine HS.out.mono ?_
 rintro ev w2 ⟨hb,A,cc,rfl,hr,hg⟩
 have HR:=QQ hr
 have HG:=QQ hg
 clear hr hg
 go_wp2_with fail
 go_ret2
 exact⟨hb,A,cc,rfl,HR.out,HG.out⟩
theorem Xg3 (h:YQ w e F m):Calls Tryz.prog 53 #[.pointer (some ⟨e,0,none⟩)] w fun ev w'=>ev= .returned (VZ (Qv8 m))∧ZZ w w' e F (Qf0 m):=by
 obtain⟨cs,tb,bb,bk,im,T,tc,Al,lc,lv,bu,se,Ap,pc,es,mc,G,own,hM,hF⟩:=h
 have c:=hM.cell hM.ec.c14
 have f:=hM.frozen 14
 have HM:=QQ hM
 have HF:=QQ hF
 clear hM hF
 obtain⟨p,hp⟩: ∃p,m.ph=p:=⟨_,rfl⟩
 rw[hp]at c
 have HP:=QQ hp
 clear hp
 by_cases c6:p=6
 ·have d:=Z2 c6
  have HE:Hid (Qv8 m=6∧Qf0 m=m):=QQ (by unfold Qv8 Qf0;rw[HP.out,if_pos (.inl c6),if_pos (.inl c6)];exact⟨rfl,rfl⟩);clear c6;rw[HE.out.1,HE.out.2];go_enter Tryz.func53,Tryz.ntmps53
  go_wp2;go_ret;exact⟨rfl,_,HM.out.at_ (fun _ _ _=>rfl),(VW.of_below (Below.refl _ _)).bstep HF.out⟩
 ·have d:=YW c6
  by_cases c7:p=7
  ·have d7:=Z2 c7
   have HE:Hid (Qv8 m=6∧Qf0 m=m):=QQ (by unfold Qv8 Qf0;rw[HP.out,if_pos (.inr c7),if_pos (.inr c7)];exact⟨rfl,rfl⟩);clear c6 c7;rw[HE.out.1,HE.out.2];go_enter Tryz.func53,Tryz.ntmps53
   go_wp2;go_ret;exact⟨rfl,_,HM.out.at_ (fun _ _ _=>rfl),(VW.of_below (Below.refl _ _)).bstep HF.out⟩
  ·have d7:=YW c7
   have HE:Hid (Qv8 m=0∧Qf0 m= {m with ph:=6}):=QQ (by unfold Qv8 Qf0;rw[HP.out,if_neg (by omega),if_neg (by omega)];exact⟨rfl,rfl⟩);clear c6 c7;rw[HE.out.1,HE.out.2];go_enter Tryz.func53,Tryz.ntmps53
   go_wp2;go_ret;obtain⟨hM2,ho⟩:=HM.out.setPh 6;exact⟨rfl,_,hM2.at_ (fun _ _ _=>rfl),ho.bstep HF.out⟩
theorem Y3 (h:YQ w e F m) (hn: -1000000000000≤m.now∧m.now≤1000000000000) (ht:0≤m.tk∧m.tk≤1000000):Calls Tryz.prog 84 #[.pointer (some ⟨e,0,none⟩)] w fun ev w'=>ev= .returned (.tuple #[])∧ZZ w w' e F (Jj0 m):=by
 obtain⟨cs,tb,bb,bk,im,T,tc,Al,lc,lv,bu,se,Ap,pc,es,mc,G,own,hM,hF⟩:=h
 have c4:=hM.cell hM.ec.c4
 have c15:=hM.cell hM.ec.c15
 have c14:=hM.cell hM.ec.c14
 have c16:=hM.cell hM.ec.c16
 have c17:=hM.cell hM.ec.c17
 have f14:=hM.frozen 14
 have f16:=hM.frozen 16
 have f17:=hM.frozen 17
 have i1:RowKit.wrap64 (m.now+m.tk)=m.now+m.tk:=by unfold RowKit.wrap64;omega
 have HM:=QQ hM
 have HF:=QQ hF
 clear hM hF hn ht
 go_enter Tryz.func84,Tryz.ntmps84
 go_region
 go_wp2
 refine bodyPost_end (results_none rfl _ _ _) rfl ?_
 obtain⟨hM1,ho1⟩:=HM.out.setPh 4
 obtain⟨hM2,ho2⟩:=hM1.setEnds (m.now+m.tk)
 obtain⟨hM3,ho3⟩:=hM2.setLng 0
 have hd:=Below.drew (Below.refl (((w.setCell ⟨e,14,none⟩ (.int .i64 4)).setCell ⟨e,16,none⟩ (.int .i64 (m.now+m.tk))).setCell ⟨e,17,none⟩ (.int .i64 0)).heap.size (((w.setCell ⟨e,14,none⟩ (.int .i64 4)).setCell ⟨e,16,none⟩ (.int .i64 (m.now+m.tk))).setCell ⟨e,17,none⟩ (.int .i64 0)))
 exact⟨rfl,_,(hM3.below hd).at_ (m:=Jj0 m) (fun _ _ _=>rfl),(((ho1.trans ho2).trans ho3).trans (VW.of_below hd)).bstep HF.out⟩
end
theorem Xg4 {w:World} {e:Nat} {F:Nat→Prop} {m:VQ} (h:YQ w e F m):
  Calls Tryz.prog 96 #[.pointer (some ⟨e,0,none⟩)] w fun ev w'=>ev= .returned (.tuple #[])∧ZZ w w' e F (Qv7 m):=by
 obtain⟨cs,tb,bb,bk,im,T,tc,Al,lc,lv,bu,se,Ap,pc,es,mc,G,own,hM,hF⟩:=h
 have HN:=QQ (Qx9 w)
 have HM:=QQ hM
 have HF:=QQ hF
 clear hM hF
 go_enter Tryz.func96,Tryz.ntmps96
 go_wp2_with fail
 refine HN.out.mono ?_
 rintro ev w2 ⟨hb2,b,G2,hG2,rfl,hB2⟩
 have hM2:=HM.out.below hb2
 obtain⟨hM3,ho3⟩:=hM2.setPh 7
 obtain⟨own4,hM4,ho4⟩:=hM3.pkNil
 have hB4:=(hB2.keeps (QK.set_ w2 ⟨e,14,none⟩ (.int .i64 7)) (fun i hi hie=>by have h1:=hG2 i hi;have h2:=QJ.lt HM.out.ind.blk;have h3:i=e:=hie;omega)).keeps (QK.set_ (w2.setCell ⟨e,14,none⟩ (.int .i64 7)) ⟨e,12,none⟩ (.slice none 0 0)) (fun i hi hie=>by have h1:=hG2 i hi;have h2:=QJ.lt HM.out.ind.blk;have h3:i=e:=hie;omega)
 have hs3:=ho3.1.size
 obtain⟨own5,hM5,hk5,hg5⟩:=hM4.otherBook (M1:= []) (M2:= []) hB4 (fun i k hi hk=>by
  have h1:=hG2 i hi;have h2:=hB2.fp hi;rcases ho4.2 i k hk with h3|h3
  ·have:=HM.out.ok.lt i k h3;omega
  ·omega)
 obtain⟨hM6,ho6⟩:=hM5.indNil
 have c14:=hM2.cell hM2.ec.c14
 have c12:=hM3.cell hM3.ec.c12
 have c8:=hM4.cell hM4.ec.c8
 have c9:=hM5.ind.cells
 have f14:=hM2.frozen 14
 have f12:=hM3.frozen 12
 have f8:=hM4.frozen 8
 have f9:=hM5.frozen 9
 have f10:=hM5.frozen 10
 have f11:=hM5.frozen 11
 obtain⟨c9,c10,c11⟩:=c9
 have HM6:=QQ hM6
 have HO:=QQ (And.intro hb2 (And.intro ho3 (And.intro ho4 (And.intro hk5 (And.intro hg5 ho6)))))
 have HG2:=QQ hG2
 clear hM2 hM3 hM4 hM5 hM6 ho3 ho4 hk5 hg5 ho6 hb2 hG2 hB2 hB4 hs3 HN
 go_wp2_with fail
 refine bodyPost_end (results_none rfl _ _ _) rfl ?_
 obtain⟨hb2,ho3,ho4,hk5,hg5,ho6⟩:=HO.out
 refine⟨rfl,_,UZ.at_ (m:=Qv7 m) HM6.out (fun _ _ _=>rfl), ?_⟩
 have o4:=((VW.of_below hb2).trans ho3).trans ho4
 have o5:VW w _ own own5:=⟨o4.1.trans hk5 (fun i ⟨k,hk⟩=>(o4.2 i k hk).imp (fun x=>⟨k,x⟩) id),fun i k hi=> ?_⟩
 ·exact(o5.trans ho6).bstep HF.out
 ·rcases hg5 i k hi with h1|h1
  ·exact o4.2 i k h1
  ·exact .inr (HG2.out i h1)
theorem Kp2 (l:List QX): ∀m:VQ,(UY m l).pk=m.pk:=by
 induction l with
 |nil=>intro m;rfl
 |cons o t ih=>intro m;exact ih (Qf3 m o)
theorem Xv0 (m:VQ) (l:List QX) (o:QX):UY m (l++ [o])=Qf3 (UY m l) o:=by unfold UY;rw[List.foldl_append];rfl
theorem Jq2 {w:World} {e:Nat} {F:Nat→Prop} {m:VQ} (h:YQ w e F m) (hpk: ∀o∈m.pk,Qf4 o) (hcnt:m.pk.length≤100000):
  Calls Tryz.prog 85 #[.pointer (some ⟨e,0,none⟩)] w fun ev w'=>ev= .returned (.tuple #[])∧ZZ w w' e F (Qc4 m):=by
 obtain⟨cs,tb,bb,bk,im,T,tc,Al,lc,lv,bu,se,Ap,pc,es,mc,G,own,hM,hF⟩:=h
 obtain⟨hM1,ho1⟩:=hM.setPh 5
 have c14:=hM.cell hM.ec.c14
 have f14:=hM.frozen 14
 have c12:=hM1.cell hM1.ec.c12
 have hcap:=hM.park.1
 have HM1:=QQ hM1
 have HO1:=QQ ho1
 have HF:=QQ hF
 have HPk:=QQ hpk
 obtain⟨n,hn⟩: ∃n,m.pk.length=n:=⟨_,rfl⟩
 have HN:=QQ hn
 rw[hn]at hcnt
 have e12:({m with ph:=5}:VQ).pk.length=n:=hn
 rw[e12]at c12
 clear hM hM1 ho1 hF hpk hcap e12 hn
 go_enter Tryz.func85,Tryz.ntmps85
 go_upto_region 1 with fail
 obtain⟨w1,ew1⟩: ∃W,w.setCell ⟨e,14,none⟩ (.int .i64 5)=W:=⟨_,rfl⟩
 rw[ew1]at c12 HM1 HO1⊢
 clear ew1 c14 f14
 go_wp2_with fail
 go_loopg [12] n (fun gg s12 wr=> ∃(k:Nat),k≤n∧gg=n-k∧s12= .int .i64 k∧Hid (Zf8 w1 wr e tb bb bk im T tc Ap pc es mc own (UY {m with ph:=5} (m.pk.take k))))
 case atStart=>exact⟨0,Nat.zero_le _,rfl,rfl,QQ ⟨_,_,_,_,_,_,_,_,HM1.out,VW.of_below (Below.refl _ _)⟩⟩
 case round=>
  obtain⟨k,hk,rfl,rfl,HL⟩:=hrel;obtain⟨cs1,Al1,lc1,lv1,bu1,se1,G1,own1,hMr,hor⟩:=HL.out;have HMr:=QQ hMr;have HOr:=QQ hor;clear hMr hor HL
  by_cases hlt:k<n
  ·have hkl:k<m.pk.length:=by rw[HN.out];exact hlt
   have hpark:=HMr.out.park;rw[Kp2]at hpark;obtain⟨gp,hgp⟩:=Qc1 hpark (by show 0<m.pk.length;omega);subst hgp;obtain⟨y0,y1,y2,y3,y4⟩:=Qs7 hpark hkl;have hfit:=HPk.out _ (List.getElem_mem hkl);have htake:m.pk.take (k+1)=m.pk.take k++ [m.pk[k]]:=List.take_succ_eq_append_getElem hkl;obtain⟨x,hx⟩: ∃x,m.pk[k]=x:=⟨_,rfl⟩;rw[hx]at y0 y1 y2 y3 y4 hfit htake;have HTake:=QQ htake;have hltz:(k:Int)< (n:Int):=by omega
   have hk7:(0:Int)≤(k:Int):=by omega
   have hbx:Below wr.heap.size wr (wr.alloc (.cells #[.int .i64 x.id,.int .i64 x.side,.int .i64 x.kind,.int .i64 x.price,.int .i64 x.qty] 117)):=(Below.refl _ wr).alloc (Nat.le_refl _) _;have hZ:=QJ.new wr 117 #[.int .i64 x.id,.int .i64 x.side,.int .i64 x.kind,.int .i64 x.price,.int .i64 x.qty];have hMz:=HMr.out.below hbx;obtain⟨wz,ewz⟩: ∃W,wr.alloc (.cells #[.int .i64 x.id,.int .i64 x.side,.int .i64 x.kind,.int .i64 x.price,.int .i64 x.qty] 117)=W:=⟨_,rfl⟩;rw[ewz]at hbx hZ hMz;have hlie:=Ki5 hMz x hfit;unfold KJ at hlie;have HLie:=QQ hlie;have HBx:=QQ hbx;have HZ:=QQ hZ;clear htake hx hfit hpark hbx hZ hMz hlie;go_upto_region 4 with fail
   try rw[ewz]
   clear ewz y0 y1 y2 y3 y4;obtain⟨z0,z1,z2,z3,z4⟩:=Xc0 HZ.out;go_wp2_with fail
   refine HLie.out.mono ?_;rintro ev w4 ⟨rfl,cs4,Al4,lc4,lv4,bu4,se4,G4,own4,hM4,ho4⟩;have HM4:=QQ hM4;have HO4:=QQ ho4;clear hM4 ho4 z0 z1 z2 z3 z4;go_wp2_with fail
   go_roundg (n- (k+1))
   case measure=>omega
   case rel=>exact⟨k+1,by omega,rfl,by go_num,QQ ⟨_,_,_,_,_,_,_,_,by rw[HTake.out,Xv0];exact HM4.out,(HOr.out.trans (VW.of_below HBx.out)).trans HO4.out⟩⟩
  ·obtain rfl:k=n:=by omega
   have hltz: ¬(k:Int)< (k:Int):=by omega
   have d12:=HMr.out.cell HMr.out.ec.c12;have g12:=HMr.out.frozen 12;go_wp2_with fail
   refine bodyPost_end (results_none rfl _ _ _) rfl ?_;obtain⟨own5,hM5,ho5⟩:=HMr.out.pkNil;rw[List.take_of_length_le (by rw[HN.out];exact Nat.le_refl _)]at hM5;exact⟨rfl,_,UZ.at_ (m:=Qc4 m) hM5 (fun _ _ _=>rfl),((HO1.out.trans HOr.out).trans ho5).bstep HF.out⟩
section
variable {w w':World} {e:Nat} {F:Nat→Prop} {cs:Array Value} {tb bb bk im:Nat} {T:Option Addr} {tc:Nat} {Al:Option Addr} {lc:Nat} {lv:List XJ} {bu se:Int} {Ap:Option Addr} {pc:Nat} {es:List MapEntry} {mc:Nat} {G:Nat→Prop} {own:Nat→Nat→Prop} {m:VQ}
theorem Jm2 (hM:UZ w e cs tb bb bk im T tc Al lc lv bu se Ap pc es mc G own (fun s k=>Q3 s k (Qa4 m)) m) (hla:1≤m.la∧m.la≤1000000) (W:World) (hW:Below w.heap.size w W):
  Calls Tryz.prog 89 #[.pointer (some ⟨e,9,none⟩),.int .i64 m.la] W fun ev w'=>ev= .returned (Qq4 (YX m))∧Below W.heap.size W w':=by
 have hl:=hM.book.lists
 have hr:=J8 hl
 have hp:=hM.is.points hM.ind.ok hr m.la
 have hcnt:(Qa4 m).length≤100:=hl.cnt
 have hnear:=Xt2 (l:=Qa4 m) (more:=m.la) hcnt (fun o ho hk=>(hr o ho).2.2.resolve_left hk) hla.2
 have hN: ∀p∈Q8 lv bu se m.la,Jg6 p:=fun p h=>by
  have h1:=hnear p (hp▸h);exact⟨⟨h1.1,h1.2.1⟩,⟨by omega,by omega⟩,⟨by omega,by omega⟩⟩
 have hlen:(Q8 lv bu se m.la).length≤100000:=by
  have h1:=Xy1 (Qa4 m) m.la;have h2:(Q8 lv bu se m.la).length=(Z5 (Qa4 m) m.la).length:=congrArg List.length hp;omega
 have key:=Km4 W e 126 cs 9 Al lc lv bu se (hM.below hW).ind (Jy1 hl hM.ind.ok hM.is) m.la (by omega) hN hlen
 have e2:J3 (Q8 lv bu se m.la) m.la=YX m:=by
  unfold YX;rw[hp]
  rfl
 rw[e2]at key
 exact key
end
theorem Jy5 {w:World} {a:Act} {Q:Ending→World→Prop} {g:Nat} {cs:Array Value} (hp:a.tmps.getD 2 undef= .pointer (some ⟨g,0,none⟩)) (hd:a.defers= [])
  (hg:QJ w g 86 cs) (h2:cs.size=3) (h:Q (.returned (.agg cs)) w):bodyPost Tryz.prog Tryz.f59 Q .ret a w:=
 bodyPost_ret (results_cell_row Tryz.results59 a.tmps w g _ cs (0,0) _ hp hg Tryz.underlying86 rfl (by rw[h2];kernel_rfl)) hd h
theorem Kd5 {w:World} {e:Nat} {F:Nat→Prop} {m:VQ} (h:YQ w e F m) (hla:1≤m.la∧m.la≤1000000):
  Calls Tryz.prog 59 #[.pointer (some ⟨e,0,none⟩)] w fun ev w'=>ev= .returned (Qq4 (Qm7 m))∧Below w.heap.size w w':=by
 obtain⟨cs,tb,bb,bk,im,T,tc,Al,lc,lv,bu,se,Ap,pc,es,mc,G,own,hM,hF⟩:=h
 have hb1:Below w.heap.size w (w.alloc (.cells #[.int .i64 0,.int .i64 0,.int .i64 0] 86)):=(Below.refl _ w).alloc (Nat.le_refl _) _
 have hX:=QJ.new w 86 #[.int .i64 0,.int .i64 0,.int .i64 0]
 have hM1:=hM.below hb1
 obtain⟨w1,ew1⟩: ∃W,w.alloc (.cells #[.int .i64 0,.int .i64 0,.int .i64 0] 86)=W:=⟨_,rfl⟩
 rw[ew1]at hb1 hX hM1
 have c14:=hM1.cell hM1.ec.c14
 have c7:=hM1.cell hM1.ec.c7
 have HW:=QQ (fun W hW=>Jm2 hM1 hla W hW)
 have HM1:=QQ hM1
 have HX:=QQ hX
 have HB1:=QQ hb1
 have f0:=QJ.frozen hX 0
 have f1:=QJ.frozen hX 1
 have f2:=QJ.frozen hX 2
 obtain⟨z0,z1,z2⟩:w1.cell? ⟨w.heap.size,0,none⟩=some (.int .i64 0)∧w1.cell? ⟨w.heap.size,1,none⟩=some (.int .i64 0)∧w1.cell? ⟨w.heap.size,2,none⟩=some (.int .i64 0):=⟨by rw[QJ.cell hX];rfl,by rw[QJ.cell hX];rfl,by rw[QJ.cell hX];rfl⟩
 clear hM hb1 hX hM1 hF hla
 obtain⟨ab,hab⟩: ∃ab,Qq7 m.ph=ab:=⟨_,rfl⟩
 have HAu:=QQ (Xi6 m.ph w1)
 rw[hab]at HAu
 have HAb:=QQ hab
 clear hab
 go_enter Tryz.func59,Tryz.ntmps59
 go_upto_region 1 with fail
 try rw[ew1]
 clear ew1
 go_wp2_with fail
 refine HAu.out.mono ?_
 rintro ev wa ⟨rfl,rfl⟩
 cases ab with
 |false=>
  go_wp2_with fail
  have hX2:=QJ.set_ (QJ.set_ (QJ.set_ HX.out 0 (.int .i64 0)) 1 (.int .i64 0)) 2 (.int .i64 0);refine Jy5 (g:=w.heap.size) (cs:= #[.int .i64 0,.int .i64 0,.int .i64 0]) (by with_unfolding_all rfl) (by with_unfolding_all rfl) hX2 rfl ?_;refine⟨?_,((HB1.out.setCell (Nat.le_refl _) _).setCell (Nat.le_refl _) _).setCell (Nat.le_refl _) _⟩;unfold Qm7;rw[HAb.out]
  rfl
 |true=>
  clear z0 z1 z2 f0 f1 f2 HAu;obtain⟨⟨t0,t1,t2⟩,ht⟩: ∃q,YX m=q:=⟨_,rfl⟩;have HT:=QQ ht;have hw2:=HW.out w1.drew (Below.drew (Below.refl _ w1));rw[ht]at hw2;unfold Qq4 at hw2;dsimp only at hw2;have HW2:=QQ hw2;have HLa:=QQ (Qr6 bb m.st m.dy m.an m.la w1.drew (QJ.drew HM1.out.bands));clear hw2 ht HW;go_wp2_with fail
  go_still_tail 8,(by kernel_rfl)
  still_call (HLa.out.mono (fun _ _ ⟨h1,h2⟩=>⟨h1,h2.symm⟩))
  refine wpStill_nil ?_;change wpList _ _ _ _ _ w1.drew;go_wp2_with fail
  refine HW2.out.mono ?_;rintro ev w3 ⟨rfl,hb3⟩;have hX3:=QJ.keep (QJ.drew HX.out) hb3;have f0:=QJ.frozen hX3 0;have f1:=QJ.frozen hX3 1;have f2:=QJ.frozen hX3 2;obtain⟨z0,z1,z2⟩:w3.cell? ⟨w.heap.size,0,none⟩=some (.int .i64 0)∧w3.cell? ⟨w.heap.size,1,none⟩=some (.int .i64 0)∧w3.cell? ⟨w.heap.size,2,none⟩=some (.int .i64 0):=⟨by rw[QJ.cell hX3];rfl,by rw[QJ.cell hX3];rfl,by rw[QJ.cell hX3];rfl⟩;have HX3:=QQ hX3;have HB3:=QQ (HB1.out.trans (((Below.drew (Below.refl _ w1)).trans hb3).mono HB1.out.size));clear hX3 hb3 HW2;go_wp2_with fail
  refine Jy5 (g:=w.heap.size) (cs:= #[.int .i64 t0,.int .i64 t1,.int .i64 t2]) (by with_unfolding_all rfl) (by with_unfolding_all rfl) (QJ.set_ (QJ.set_ (QJ.set_ HX3.out 0 _) 1 _) 2 _) rfl ?_;refine⟨?_,((HB3.out.setCell (Nat.le_refl _) _).setCell (Nat.le_refl _) _).setCell (Nat.le_refl _) _⟩;unfold Qm7;rw[HAb.out,if_pos rfl,HT.out]
  rfl
end Go.Proofs.YtbmiieehkkfbgaaGreatDoor
