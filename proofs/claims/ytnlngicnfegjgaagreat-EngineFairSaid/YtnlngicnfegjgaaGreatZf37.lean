/- Contracts and walks that the law's proof needs. -/
import Derived.Test.YtnlngicnfegjgaaGreatZf33
import Derived.Test.YtnlngicnfegjgaaGreatZf2
import Derived.Test.YtnlngicnfegjgaaGreatZf36
import Derived.WalkKit
import Derived.WalkLawsBesides
import Derived.WalkSpells
import Derived.StillTailTactics
import Derived.Deep.QuietTactic
import Derived.BigQuiet
import Derived.Deep.CutBlock
import Derived.Test.YtnlngicnfegjgaaGreatZf31
set_option linter.unusedVariables false
set_option maxRecDepth 100000
set_option maxHeartbeats 8000000
namespace Go.Proofs.YtnlngicnfegjgaaGreat
open Go.ChangeMaps Go.RowKit
structure Jd0 (cs:Array Value) (tb bb bk im:Nat) (Ap:Option Addr) (pc:Nat) (m:ZX):Prop where
 sz:cs.size=18
 c4:cs[4]?=some (.int .i64 m.tk)
 c5:cs[5]?=some (.int .i64 m.mo)
 c6:cs[6]?=some (.pointer (some ⟨tb,0,none⟩))
 c7:cs[7]?=some (.pointer (some ⟨bb,0,none⟩))
 c8:cs[8]?=some (.pointer (some ⟨bk,0,none⟩))
 c12:cs[12]?=some (.slice Ap m.pk.length pc)
 c13:cs[13]?=some (.map (some im))
 c14:cs[14]?=some (.int .i64 m.ph)
 c15:cs[15]?=some (.int .i64 m.now)
 c16:cs[16]?=some (.int .i64 m.ends)
 c17:cs[17]?=some (.int .i64 m.lng)
structure Jh3 (w:World) (own:Nat→Nat→Prop):Prop where
 uni: ∀i k k',own i k→own i k'→k=k'
 lt: ∀i k,own i k→i<w.heap.size
def Qr3 (w:World) (own:Nat→Nat→Prop) (N:Nat→Prop) (K:Nat) (i k:Nat):Prop:=own i k∨(w.heap.size≤i∧N i∧k=K)
def VZ (w w':World) (own own':Nat→Nat→Prop):Prop:=QK (fun i=> ∃k,own i k) w w'∧ ∀i k,own' i k→own i k∨w.heap.size≤i
theorem VZ.trans {w w1 w2:World} {o o1 o2:Nat→Nat→Prop} (h:VZ w w1 o o1) (k:VZ w1 w2 o1 o2):VZ w w2 o o2:=by
 refine⟨h.1.trans k.1 (fun i ⟨n,hn⟩=> ?_),fun i n hn=> ?_⟩
 ·rcases h.2 i n hn with e|e
  ·exact .inl ⟨n,e⟩
  ·exact .inr e
 ·rcases k.2 i n hn with e|e
  ·exact h.2 i n e
  ·exact .inr (Nat.le_trans h.1.size e)
theorem VZ.of_below {w w':World} {o:Nat→Nat→Prop} (h:Below w.heap.size w w'):VZ w w' o o:=⟨QK.of_below h _,fun i k hi=> .inl hi⟩
theorem Jh3.mono {w w':World} {own:Nat→Nat→Prop} (h:Jh3 w own) (hs:w.heap.size≤w'.heap.size):Jh3 w' own:=⟨h.uni,fun i k hi=>Nat.lt_of_lt_of_le (h.lt i k hi) hs⟩
theorem Jh3.new_ {w w':World} {own:Nat→Nat→Prop} (h:Jh3 w own) (hs:w.heap.size≤w'.heap.size) {N:Nat→Prop} (hN: ∀i,N i→i<w'.heap.size) (K:Nat):Jh3 w' (Qr3 w own N K):=by
 refine⟨fun i k k' h1 h2=> ?_,fun i k h1=> ?_⟩
 ·rcases h1 with h1|⟨a1,b1,c1⟩
  ·rcases h2 with h2|⟨a2,b2,c2⟩
   ·exact h.uni i k k' h1 h2
   ·have:=h.lt i k h1;omega
  ·rcases h2 with h2|⟨a2,b2,c2⟩
   ·have:=h.lt i k' h2;omega
   ·rw[c1,c2]
 ·rcases h1 with h1|⟨a1,b1,c1⟩
  ·exact Nat.lt_of_lt_of_le (h.lt i k h1) hs
  ·exact hN i b1
structure UJ (w:World) (e:Nat) (cs:Array Value) (tb bb bk im:Nat) (T:Option Addr) (tc:Nat) (Al:Option Addr) (lc:Nat) (lv:List XJ) (bu se:Int) (Ap:Option Addr) (pc:Nat) (es:List MapEntry) (mc:Nat) (G:Nat→Prop) (own:Nat→Nat→Prop) (g:Int→Option Int→Int) (m:ZX):Prop where
 ind:Qi6 w e 77 cs 9 Al lc lv bu se
 ec:Jd0 cs tb bb bk im Ap pc m
 is:Qe0 lv bu se g
 tabl:tb<w.heap.size
 tabc:w.cell? ⟨tb,0,none⟩=some (.slice T m.rows.length tc)
 tabp:O1 w T m.rows.length tc m.rows
 bands:J0 w bb m.st m.dy m.an m.la
 book:Q1 w bk G m.L1 m.L2
 park:QY w Ap m.pk.length pc 29 5 (QW I1 m.pk)
 map_:Q3 w im es mc
 keys:Qg9 es
 ids: ∀k,Z2 es k=if k∈m.ids then some (.bool true)else none
 ok:Jh3 w own
 oe:own e 1
 ot:own tb 2
 oT: ∀i,QV T=some i→own i 2
 ob:own bb 3
 oG: ∀i,G i→own i 4
 ol: ∀i,QV Al=some i→own i 5
 op: ∀i,QV Ap=some i→own i 6
 oi:own im 7
def Kz6 (w:World) (e:Nat) (F:Nat→Prop) (g:Int→Option Int→Int) (m:ZX):Prop:=
 ∃cs tb bb bk im T tc Al lc lv bu se Ap pc es mc G own,UJ w e cs tb bb bk im T tc Al lc lv bu se Ap pc es mc G own g m∧ ∀i,F i↔ ∃k,own i k
def UY (w:World) (e:Nat) (F:Nat→Prop) (m:ZX):Prop:=Kz6 w e F (fun s k=>Q2 s k (Qc1 m)) m
def YK (w w':World) (e:Nat) (F:Nat→Prop) (m:ZX):Prop:= ∃F',UY w' e F' m∧XW w w' F F'
section
variable {w w':World} {e:Nat} {cs:Array Value} {tb bb bk im:Nat} {T:Option Addr} {tc:Nat} {Al:Option Addr} {lc:Nat} {lv:List XJ} {bu se:Int} {Ap:Option Addr} {pc:Nat} {es:List MapEntry} {mc:Nat} {G:Nat→Prop} {own:Nat→Nat→Prop} {g:Int→Option Int→Int} {m:ZX}
theorem O1.keeps {A:Option Addr} {n c:Nat} {ps:List (Int×Int)} {S:Nat→Prop} (h:O1 w A n c ps) (hk:QK S w w') (hn: ∀i,QV A=some i→ ¬S i):O1 w' A n c ps:=by
 refine⟨h.1,fun hl=> ?_⟩
 obtain⟨b,off,hA,hlt,hc⟩:=h.2 hl
 have hb: ¬S b:=hn b (by rw[hA];rfl)
 exact⟨b,off,hA,Nat.lt_of_lt_of_le hlt hk.size,fun i hi=>⟨(hk.cell (p:=⟨b,_,none⟩) hlt hb).trans (hc i hi).1,(hk.cell (p:=⟨b,_,none⟩) hlt hb).trans (hc i hi).2⟩⟩
theorem UJ.cell (h:UJ w e cs tb bb bk im T tc Al lc lv bu se Ap pc es mc G own g m) {i:Nat} {v:Value} (hv:cs[i]?=some v):w.cell? ⟨e,i,none⟩=some v:=by rw[QJ.cell h.ind.blk];exact hv
theorem UJ.fit {S:Nat→Prop} (h:UJ w e cs tb bb bk im T tc Al lc lv bu se Ap pc es mc G own g m) {K:Nat} (hS: ∀i,S i→own i K) {i k:Nat} (hi:own i k) (hk:k≠K): ¬S i:=fun hs=>hk (h.ok.uni i k K hi (hS i hs))
theorem UJ.keeps {S:Nat→Prop} (h:UJ w e cs tb bb bk im T tc Al lc lv bu se Ap pc es mc G own g m) (hk:QK S w w') (hS: ∀i k,own i k→ ¬S i):UJ w' e cs tb bb bk im T tc Al lc lv bu se Ap pc es mc G own g m:=
 ⟨h.ind.keeps hk (hS _ _ h.oe) (fun i hi=>hS i _ (h.ol i hi)),h.ec,h.is,Nat.lt_of_lt_of_le h.tabl hk.size,(hk.cell (p:=⟨tb,0,none⟩) h.tabl (hS _ _ h.ot)).trans h.tabc,h.tabp.keeps hk (fun i hi=>hS i _ (h.oT i hi)),QJ.keeps h.bands hk (hS _ _ h.ob),h.book.keeps hk (fun i hi=>hS i _ (h.oG i hi)),h.park.keeps hk (fun i hi=>hS i _ (h.op i hi)),h.map_.of_block (hk.block _ h.map_.lt (hS _ _ h.oi)),h.keys,h.ids,h.ok.mono hk.size,h.oe,h.ot,h.oT,h.ob,h.oG,h.ol,h.op,h.oi⟩
theorem UJ.below (h:UJ w e cs tb bb bk im T tc Al lc lv bu se Ap pc es mc G own g m) (hb:Below w.heap.size w w'):UJ w' e cs tb bb bk im T tc Al lc lv bu se Ap pc es mc G own g m:=
 h.keeps (QK.of_below hb (fun _=>False)) (fun _ _ _=>id)
theorem Kh9 {S N:Nat→Prop} {K:Nat} (hk:QK S w w') (hS: ∀i,S i→own i K):VZ w w' own (Qr3 w own N K):=
 ⟨hk.mono (fun i hi=>⟨K,hS i hi⟩),fun i k hi=>hi.imp id (fun x=>x.1)⟩
theorem UJ.bookStep {M1 M2:List QX} {G':Nat→Prop} (h:UJ w e cs tb bb bk im T tc Al lc lv bu se Ap pc es mc G own g m) (hB:Q1 w' bk G' M1 M2) (ht:XW w w' G G'):
  UJ w' e cs tb bb bk im T tc Al lc lv bu se Ap pc es mc G' (Qr3 w own G' 4) g {m with L1:=M1,L2:=M2}∧VZ w w' own (Qr3 w own G' 4):=by
 obtain⟨hk,hg⟩:=ht
 have f: ∀ {i k:Nat},own i k→k≠4→ ¬G i:=fun hi hne=>h.fit h.oG hi hne
 have n: ∀ {i k:Nat},own i k→Qr3 w own G' 4 i k:=fun hi=> .inl hi
 refine⟨⟨h.ind.keeps hk (f h.oe (by decide)) (fun i hi=>f (h.ol i hi) (by decide)),⟨h.ec.sz,h.ec.c4,h.ec.c5,h.ec.c6,h.ec.c7,h.ec.c8,h.ec.c12,h.ec.c13,h.ec.c14,h.ec.c15,h.ec.c16,h.ec.c17⟩,h.is,Nat.lt_of_lt_of_le h.tabl hk.size,(hk.cell (p:=⟨tb,0,none⟩) h.tabl (f h.ot (by decide))).trans h.tabc,h.tabp.keeps hk (fun i hi=>f (h.oT i hi) (by decide)),QJ.keeps h.bands hk (f h.ob (by decide)),hB,h.park.keeps hk (fun i hi=>f (h.op i hi) (by decide)),h.map_.of_block (hk.block _ h.map_.lt (f h.oi (by decide))),h.keys,h.ids,h.ok.new_ hk.size (fun i hi=>hB.fp hi) 4,n h.oe,n h.ot,fun i hi=>n (h.oT i hi),n h.ob,fun i hi=> ?_,fun i hi=>n (h.ol i hi),fun i hi=>n (h.op i hi),n h.oi⟩,Kh9 hk h.oG⟩
 rcases hg i hi with e1|e1
 ·exact n (h.oG i e1)
 ·exact .inr ⟨e1,hi,rfl⟩
theorem UJ.bookTo {M1 M2:List QX} (h:UJ w e cs tb bb bk im T tc Al lc lv bu se Ap pc es mc G own g m) (ht:Qj8 w w' bk G M1 M2):
  ∃G' own',UJ w' e cs tb bb bk im T tc Al lc lv bu se Ap pc es mc G' own' g {m with L1:=M1,L2:=M2}∧VZ w w' own own':=by
 obtain⟨G',hB,hs⟩:=ht
 obtain⟨h1,h2⟩:=h.bookStep hB hs
 exact⟨G',_,h1,h2⟩
theorem UJ.indTo {lv':List XJ} {bu' se':Int} {g':Int→Option Int→Int} (h:UJ w e cs tb bb bk im T tc Al lc lv bu se Ap pc es mc G own g m) (ht:Qd8 w w' e 77 cs 9 Al lv' bu' se') (hi:Qe0 lv' bu' se' g'):
  ∃cs' Al' lc' own',UJ w' e cs' tb bb bk im T tc Al' lc' lv' bu' se' Ap pc es mc G own' g' m∧VZ w w' own own':=by
 obtain⟨cs',Al',lc',hM,hsz,hcs,hk,hg⟩:=ht
 have f: ∀ {i k:Nat},own i k→k≠1→k≠5→ ¬(i=e∨QV Al=some i):=fun hi h1 h5 hs=>by
  rcases hs with rfl|hs
  ·exact h1 (h.ok.uni _ _ _ hi h.oe)
  ·exact h5 (h.ok.uni _ _ _ hi (h.ol _ hs))
 have n: ∀ {i k:Nat},own i k→Qr3 w own (fun i=>QV Al'=some i) 5 i k:=fun hi=> .inl hi
 have c: ∀i v,cs[i]?=some v→i≠9→i≠10→i≠11→cs'[i]?=some v:=fun i v hv h9 h10 h11=>(hcs i h9 h10 h11).trans hv
 refine⟨cs',Al',lc',Qr3 w own (fun i=>QV Al'=some i) 5,⟨hM,⟨hsz.trans h.ec.sz,c _ _ h.ec.c4 (by decide) (by decide) (by decide),c _ _ h.ec.c5 (by decide) (by decide) (by decide),c _ _ h.ec.c6 (by decide) (by decide) (by decide),c _ _ h.ec.c7 (by decide) (by decide) (by decide),c _ _ h.ec.c8 (by decide) (by decide) (by decide),c _ _ h.ec.c12 (by decide) (by decide) (by decide),c _ _ h.ec.c13 (by decide) (by decide) (by decide),c _ _ h.ec.c14 (by decide) (by decide) (by decide),c _ _ h.ec.c15 (by decide) (by decide) (by decide),c _ _ h.ec.c16 (by decide) (by decide) (by decide),c _ _ h.ec.c17 (by decide) (by decide) (by decide)⟩,hi,Nat.lt_of_lt_of_le h.tabl hk.size,(hk.cell (p:=⟨tb,0,none⟩) h.tabl (f h.ot (by decide) (by decide))).trans h.tabc,h.tabp.keeps hk (fun i hi=>f (h.oT i hi) (by decide) (by decide)),QJ.keeps h.bands hk (f h.ob (by decide) (by decide)),h.book.keeps hk (fun i hi=>f (h.oG i hi) (by decide) (by decide)),h.park.keeps hk (fun i hi=>f (h.op i hi) (by decide) (by decide)),h.map_.of_block (hk.block _ h.map_.lt (f h.oi (by decide) (by decide))),h.keys,h.ids,h.ok.new_ hk.size (fun i hi=>hM.row.lt hi) 5,n h.oe,n h.ot,fun i hi=>n (h.oT i hi),n h.ob,fun i hi=>n (h.oG i hi),fun i hi=> ?_,fun i hi=>n (h.op i hi),n h.oi⟩,hk.mono (fun i hi=> ?_),fun i k hi=>hi.imp id (fun x=>x.1)⟩
 ·rcases hg i hi with e1|e1
  ·exact n (h.ol i e1)
  ·exact .inr ⟨e1,hi,rfl⟩
 ·rcases hi with rfl|hi
  ·exact⟨1,h.oe⟩
  ·exact⟨5,h.ol i hi⟩
theorem UJ.bandsTo {an la:Int} (h:UJ w e cs tb bb bk im T tc Al lc lv bu se Ap pc es mc G own g m) (hb:J0 w' bb m.st m.dy an la) (hk:QK (fun i=>i=bb) w w'):
  UJ w' e cs tb bb bk im T tc Al lc lv bu se Ap pc es mc G own g {m with an:=an,la:=la}∧VZ w w' own own:=by
 have f: ∀ {i k:Nat},own i k→k≠3→ ¬i=bb:=fun hi hne=>h.fit (S:=fun i=>i=bb) (fun i hi=>hi▸h.ob) hi hne
 exact⟨⟨h.ind.keeps hk (f h.oe (by decide)) (fun i hi=>f (h.ol i hi) (by decide)),⟨h.ec.sz,h.ec.c4,h.ec.c5,h.ec.c6,h.ec.c7,h.ec.c8,h.ec.c12,h.ec.c13,h.ec.c14,h.ec.c15,h.ec.c16,h.ec.c17⟩,h.is,Nat.lt_of_lt_of_le h.tabl hk.size,(hk.cell (p:=⟨tb,0,none⟩) h.tabl (f h.ot (by decide))).trans h.tabc,h.tabp.keeps hk (fun i hi=>f (h.oT i hi) (by decide)),hb,h.book.keeps hk (fun i hi=>f (h.oG i hi) (by decide)),h.park.keeps hk (fun i hi=>f (h.op i hi) (by decide)),h.map_.of_block (hk.block _ h.map_.lt (f h.oi (by decide))),h.keys,h.ids,h.ok.mono hk.size,h.oe,h.ot,h.oT,h.ob,h.oG,h.ol,h.op,h.oi⟩,hk.mono (fun i hi=>⟨3,hi▸h.ob⟩),fun i k hi=> .inl hi⟩
theorem UJ.cellsTo {cs':Array Value} {m':ZX} (h:UJ w e cs tb bb bk im T tc Al lc lv bu se Ap pc es mc G own g m) (hb:QJ w' e 77 cs') (hk:QK (fun i=>i=e) w w') (hc:Jd0 cs' tb bb bk im Ap pc m') (h9:cs'[9]?=cs[9]?) (h10:cs'[10]?=cs[10]?) (h11:cs'[11]?=cs[11]?)
  (hm:m'.rows=m.rows∧m'.st=m.st∧m'.dy=m.dy∧m'.an=m.an∧m'.la=m.la∧m'.L1=m.L1∧m'.L2=m.L2∧m'.pk=m.pk∧m'.ids=m.ids):
  UJ w' e cs' tb bb bk im T tc Al lc lv bu se Ap pc es mc G own g m'∧VZ w w' own own:=by
 obtain⟨e1,e2,e3,e4,e5,e6,e7,e8,e9⟩:=hm
 have f: ∀ {i k:Nat},own i k→k≠1→ ¬i=e:=fun hi hne=>h.fit (S:=fun i=>i=e) (fun i hi=>hi▸h.oe) hi hne
 have hr:=h.ind
 refine⟨⟨⟨hb,h9.trans hr.c0,h10.trans hr.c1,h11.trans hr.c2,hr.row.keeps hk (fun i hi=>f (h.ol i hi) (by decide)),hr.na,hr.ok⟩,hc,h.is,Nat.lt_of_lt_of_le h.tabl hk.size, ?_, ?_, ?_, ?_, ?_,h.map_.of_block (hk.block _ h.map_.lt (f h.oi (by decide))),h.keys, ?_,h.ok.mono hk.size,h.oe,h.ot,h.oT,h.ob,h.oG,h.ol,h.op,h.oi⟩,hk.mono (fun i hi=>⟨1,hi▸h.oe⟩),fun i k hi=> .inl hi⟩
 ·rw[e1];exact(hk.cell (p:=⟨tb,0,none⟩) h.tabl (f h.ot (by decide))).trans h.tabc
 ·rw[e1];exact h.tabp.keeps hk (fun i hi=>f (h.oT i hi) (by decide))
 ·rw[e2,e3,e4,e5];exact QJ.keeps h.bands hk (f h.ob (by decide))
 ·rw[e6,e7];exact h.book.keeps hk (fun i hi=>f (h.oG i hi) (by decide))
 ·rw[e8];exact h.park.keeps hk (fun i hi=>f (h.op i hi) (by decide))
 ·rw[e9];exact h.ids
theorem UJ.at_ (h:UJ w e cs tb bb bk im T tc Al lc lv bu se Ap pc es mc G own g m) (hg: ∀s k,(s=1∨s=2)→g s k=Q2 s k (Qc1 m)):UY w e (fun i=> ∃k,own i k) m:=
 ⟨cs,tb,bb,bk,im,T,tc,Al,lc,lv,bu,se,Ap,pc,es,mc,G,own,⟨h.ind,h.ec,h.is.congr hg,h.tabl,h.tabc,h.tabp,h.bands,h.book,h.park,h.map_,h.keys,h.ids,h.ok,h.oe,h.ot,h.oT,h.ob,h.oG,h.ol,h.op,h.oi⟩,fun i=>Iff.rfl⟩
theorem VZ.bstep {F:Nat→Prop} {own':Nat→Nat→Prop} (h:VZ w w' own own') (hF: ∀i,F i↔ ∃k,own i k):XW w w' F (fun i=> ∃k,own' i k):=by
 refine⟨h.1.mono (fun i hi=>(hF i).2 hi),fun i ⟨k,hi⟩=> ?_⟩
 rcases h.2 i k hi with e1|e1
 ·exact .inl ((hF i).2 ⟨k,e1⟩)
 ·exact .inr e1
theorem UY.below {F:Nat→Prop} (h:UY w e F m) (hb:Below w.heap.size w w'):UY w' e F m:=by
 obtain⟨cs,tb,bb,bk,im,T,tc,Al,lc,lv,bu,se,Ap,pc,es,mc,G,own,hM,hF⟩:=h
 exact⟨cs,tb,bb,bk,im,T,tc,Al,lc,lv,bu,se,Ap,pc,es,mc,G,own,hM.below hb,hF⟩
theorem UY.keeps {F S:Nat→Prop} (h:UY w e F m) (hk:QK S w w') (hS: ∀i,F i→ ¬S i):UY w' e F m:=by
 obtain⟨cs,tb,bb,bk,im,T,tc,Al,lc,lv,bu,se,Ap,pc,es,mc,G,own,hM,hF⟩:=h
 exact⟨cs,tb,bb,bk,im,T,tc,Al,lc,lv,bu,se,Ap,pc,es,mc,G,own,hM.keeps hk (fun i k hi=>hS i ((hF i).2 ⟨k,hi⟩)),hF⟩
theorem UY.lt {F:Nat→Prop} (h:UY w e F m) {i:Nat} (hi:F i):i<w.heap.size:=by
 obtain⟨cs,tb,bb,bk,im,T,tc,Al,lc,lv,bu,se,Ap,pc,es,mc,G,own,hM,hF⟩:=h
 obtain⟨k,hk⟩:=(hF i).1 hi
 exact hM.ok.lt i k hk
theorem YK.same {F:Nat→Prop} (h:UY w e F m) (hb:Below w.heap.size w w'):YK w w' e F m:=⟨F,h.below hb,XW.of_below hb⟩
theorem YK.then_ {F:Nat→Prop} {w'':World} (h:YK w w' e F m) (hb:Below w'.heap.size w' w''):YK w w'' e F m:=by
 obtain⟨F',h1,h2⟩:=h
 exact⟨F',h1.below hb,h2.trans (XW.of_below hb)⟩
end
end Go.Proofs.YtnlngicnfegjgaaGreat
namespace Go.Proofs.YtnlngicnfegjgaaGreat
open Go.RowKit
theorem J9 {L1 L2:List QX} (h:XY L1 L2):Xg3 (L1++L2):=fun o ho=>by
 have h1:=h.ok o ho
 refine⟨?_,h1.2.2.2,.inr h1.2.2.1⟩
 rcases List.mem_append.1 ho with h2|h2
 ·exact .inl (h.s1 o h2)
 ·exact .inr (h.s2 o h2)
theorem Xx1 {L1 L2:List QX} (h:XY L1 L2) (s:Int) (k:Option Int):0≤Q2 s k (L1++L2)∧Q2 s k (L1++L2)≤1000000000:=by
 have h1:=Qh6 (s:=s) (k:=k) (J9 h)
 have h2:=h.cnt
 omega
theorem Ju6 {L1 L2:List QX} {lv:List XJ} {bu se:Int} (h:XY L1 L2) (hk:Ja2 lv) (hi:Qe0 lv bu se (fun s k=>Q2 s k (L1++L2))):Jc3 lv bu se:=
 hi.mild hk (fun s k=>Xx1 h s k) (by have:=hi.few hk;have:=h.cnt;omega)
theorem Xp7 (z:QX):Qa2 (JJ z)=Qa2 z:=by
 unfold Qa2 JJ
 dsimp only
 split<;>rfl
theorem Kp4 {L1 L2:List QX} {z:QX} (hz:VV z.side) (s:Int) (k:Option Int):Q2 s k (Qc0 1 L1 z++Qc0 2 L2 z)=Q2 s k (L1++L2)+if z.side=s∧Qa2 z=k then 1*z.qty else 0:=by
 have key: ∀s' L,Q2 s k (Qr9 s' L (JJ z))=(if z.side=s∧Qa2 z=k then z.qty else 0)+Q2 s k L:=fun s' L=>by
  rw[Xa4 (Qq9 s' L (JJ z)),Qc4,Xp7]
  rfl
 rw[Y0,Y0]
 unfold Qc0
 rcases hz with e|e
 ·rw[if_pos e,if_neg (by omega),key,Int.one_mul]
  omega
 ·rw[if_neg (by omega),if_pos e,key,Int.one_mul]
  omega
theorem Xx2 {L1 L2:List QX} {z:QX} (h:Qk8 L1 L2 z=0):Qb8 z:=by
 unfold Qk8 at h
 cases h1:Ja3 z with
 |false=>rw[h1]at h;simp at h
 |true=>
  cases h2:Qq5 z with
  |false=>rw[h1,h2]at h;simp at h
  |true=>
   unfold Ja3 at h1;unfold Qq5 at h2;rw[V4]at h2;simp at h1;refine⟨h1.1,h2.2.2, ?_⟩;unfold JJ at h2;dsimp only at h2
   by_cases hk:z.kind=2
   ·exact .inl hk
   ·rw[if_neg hk]at h2
    exact .inr ⟨h2.1,h2.2.1⟩
theorem Ju7 {lv lv':List XJ} {bu se bu' se':Int} {z:QX} (hz:Qb8 z) (h:Qu3 lv bu se z 1 lv' bu' se'):Qf9 lv bu se z 1=0∧Qz7 lv bu se z 1 lv' bu' se':=by
 have e:Qf9 lv bu se z 1=0:=by
  unfold Qf9;rw[if_pos ((Qh5 z).2 hz),if_neg (by intro x;exact absurd x.1 (by decide))]
 unfold Qu3 at h
 rw[if_pos e]at h
 exact⟨e,h⟩
theorem Ku4 {m:ZX} {z:QX} (h:Qk8 m.L1 m.L2 z≠0):Qc8 m z=m:=by
 unfold Qc8 Ju0
 rw[if_neg h,if_neg h]
theorem Kp5 {m:ZX} {z:QX} (h:Qk8 m.L1 m.L2 z=0):Qc8 m z= {m with L1:=Qc0 1 m.L1 z,L2:=Qc0 2 m.L2 z}:=by
 unfold Qc8 Ju0
 rw[if_pos h,if_pos h]
def Ku5 (w w':World) (e tb bb bk im:Nat) (T:Option Addr) (tc:Nat) (Ap:Option Addr) (pc:Nat) (es:List MapEntry) (mc:Nat) (own:Nat→Nat→Prop) (m:ZX):Prop:=
 ∃cs Al lc lv bu se G own',UJ w' e cs tb bb bk im T tc Al lc lv bu se Ap pc es mc G own' (fun s k=>Q2 s k (Qc1 m)) m∧VZ w w' own own'
theorem Ku5.to {w w':World} {e tb bb bk im:Nat} {T:Option Addr} {tc:Nat} {Ap:Option Addr} {pc:Nat} {es:List MapEntry} {mc:Nat} {own:Nat→Nat→Prop} {m:ZX} {F:Nat→Prop} (h:Ku5 w w' e tb bb bk im T tc Ap pc es mc own m) (hF: ∀i,F i↔ ∃k,own i k):YK w w' e F m:=by
 obtain⟨cs,Al,lc,lv,bu,se,G,own',hM,ho⟩:=h
 exact⟨_,hM.at_ (fun _ _ _=>rfl),ho.bstep hF⟩
theorem UJ.lots {w:World} {e:Nat} {cs:Array Value} {tb bb bk im:Nat} {T:Option Addr} {tc:Nat} {Al:Option Addr} {lc:Nat} {lv:List XJ} {bu se:Int} {Ap:Option Addr} {pc:Nat} {es:List MapEntry} {mc:Nat} {G:Nat→Prop} {own:Nat→Nat→Prop} {g g':Int→Option Int→Int} {m:ZX}
  (h:UJ w e cs tb bb bk im T tc Al lc lv bu se Ap pc es mc G own g m) (hg: ∀s k,(s=1∨s=2)→g s k=g' s k):UJ w e cs tb bb bk im T tc Al lc lv bu se Ap pc es mc G own g' m:=
 ⟨h.ind,h.ec,h.is.congr hg,h.tabl,h.tabc,h.tabp,h.bands,h.book,h.park,h.map_,h.keys,h.ids,h.ok,h.oe,h.ot,h.oT,h.ob,h.oG,h.ol,h.op,h.oi⟩
theorem Kb8 {w:World} {e:Nat} {cs:Array Value} {tb bb bk im:Nat} {T:Option Addr} {tc:Nat} {Al:Option Addr} {lc:Nat} {lv:List XJ} {bu se:Int} {Ap:Option Addr} {pc:Nat} {es:List MapEntry} {mc:Nat} {G:Nat→Prop} {own:Nat→Nat→Prop} {m:ZX}
  (hM:UJ w e cs tb bb bk im T tc Al lc lv bu se Ap pc es mc G own (fun s k=>Q2 s k (Qc1 m)) m) (z:QX) (hf:Qe5 z):
  Calls Tryz.prog 29 #[.pointer (some ⟨e,0,none⟩),KQ z] w fun ev w'=>ev= .returned (.tuple #[])∧Ku5 w w' e tb bb bk im T tc Ap pc es mc own (Qc8 m z):=by
 have hb1:Below w.heap.size w (w.alloc (.cells (KZ z) 29)):=(Below.refl _ w).alloc (Nat.le_refl _) _
 have hX:=QJ.new w 29 (KZ z)
 have hM1:=hM.below hb1
 obtain⟨w1,ew1⟩: ∃W,w.alloc (.cells (KZ z) 29)=W:=⟨_,rfl⟩
 rw[ew1]at hb1 hX hM1
 have hadd:=Xp6 w1.drew bk G m.L1 m.L2 (hM1.book.below (Below.drew (Below.refl _ _))) z hf
 unfold KZ at ew1
 unfold KQ at hadd⊢
 have HAdd:=QQ hadd
 have HM1:=QQ hM1
 have HX:=QQ hX
 have HB1:=QQ hb1
 have HO:=QQ hM.ok
 have HFit:=QQ hf
 have c8:=hM1.cell hM1.ec.c8
 obtain⟨x0,x1,x2,x3,x4⟩:=JW hX
 clear hM hb1 hX hM1 hadd hf
 go_enter Tryz.func29,Tryz.ntmps29
 go_upto_region 1 with fail
 try rw[ew1]
 clear ew1
 go_still_tail 5,(by kernel_rfl)
 change wpList _ _ _ _ _ w1.drew
 go_wp2_with fail
 refine HAdd.out.mono ?_
 rintro ev w2 (⟨hne,rfl,hb2⟩|⟨hz,rfl,hto⟩)
 ·have hb12:Below w1.heap.size w1 w2:=(Below.drew (Below.refl _ w1)).trans hb2
  have HB12:=QQ hb12;have HNe:=QQ hne;clear hb2 hb12 c8 x0 x1 x2 x3 x4;unfold YZ;rw[if_neg hne];clear hne HAdd;go_wp2_with fail
  refine bodyPost_end (results_none rfl _ _ _) rfl ?_;rw[Ku4 HNe.out];exact⟨rfl,_,_,_,_,_,_,_,_,HM1.out.below HB12.out,VZ.of_below (HB1.out.trans (HB12.out.mono HB1.out.size))⟩
 ·rw[UV]
  obtain⟨G2,own2,hM2,ho2⟩:=(HM1.out.below (Below.drew (Below.refl _ w1))).bookTo hto;have hX2:=QJ.keeps (QJ.drew HX.out) ho2.1 (fun⟨k,hk⟩=>Nat.lt_irrefl _ (HO.out.lt _ _ hk));have hml:=Ju6 HM1.out.book.lists HM1.out.ind.ok HM1.out.is;have hind:=Xf8 w2.drew e 77 cs 9 Al lc lv bu se (hM2.below (Below.drew (Below.refl _ w2))).ind hml.small z;unfold KQ at hind;have HInd:=QQ hind;have HM2:=QQ hM2;have HO2:=QQ ho2;have HZ:=QQ hz;obtain⟨x0,x1,x2,x3,x4⟩:=JW hX2;clear hto hM2 ho2 hX2 hml hind hz HAdd c8;go_wp2_with fail
  go_still_tail 4,(by kernel_rfl)
  change wpList _ _ _ _ _ w2.drew;go_wp2_with fail
  refine HInd.out.mono ?_;rintro ev w3 ⟨rfl,lv',bu',se',hit,htd⟩;clear x0 x1 x2 x3 x4;go_wp2_with fail
  refine bodyPost_end (results_none rfl _ _ _) rfl ?_;have hr:=Xx2 HZ.out;obtain⟨-,hchg⟩:=Ju7 hr htd;have his:=(HM2.out.is).chg hr.1 hchg;obtain⟨cs3,Al3,lc3,own3,hM3,ho3⟩:=(HM2.out.below (Below.drew (Below.refl _ w2))).indTo hit his;rw[Kp5 HZ.out];refine⟨rfl,_,_,_,_,_,_,_,_,hM3.lots (fun s k hs=> ?_),(((VZ.of_below (HB1.out.trans ((Below.drew (Below.refl _ w1)).mono HB1.out.size))).trans HO2.out).trans (VZ.of_below (Below.drew (Below.refl _ w2)))).trans ho3⟩;exact(Kp4 hr.1 s k).symm
theorem Jk2 (w:World) (e:Nat) (F:Nat→Prop) (m:ZX) (h:UY w e F m) (z:QX) (hf:Qe5 z):
  Calls Tryz.prog 29 #[.pointer (some ⟨e,0,none⟩),KQ z] w fun ev w'=>ev= .returned (.tuple #[])∧YK w w' e F (Qc8 m z):=by
 obtain⟨cs,tb,bb,bk,im,T,tc,Al,lc,lv,bu,se,Ap,pc,es,mc,G,own,hM,hF⟩:=h
 exact(Kb8 hM z hf).mono fun ev w' ⟨h1,h2⟩=>⟨h1,h2.to hF⟩
theorem Kp6 {L:List QX} (hn:(L.map (·.id)).Nodup) {id:Int} {o:QX} (h:Qb3 L id=some o):L.Perm (o::O6 L id):=by
 have QQ:o.id=id:=by
  have:=List.find?_some h;simpa using this
 obtain⟨A,B,rfl⟩:=List.append_of_mem (List.mem_of_find?_eq_some h)
 rw[List.map_append,List.map_cons,List.nodup_append,List.nodup_cons]at hn
 have e:O6 (A++o::B) id=A++B:=by
  unfold O6;rw[List.filter_append,List.filter_cons_of_neg (by simp[QQ]),List.filter_eq_self.2 (fun y hy=> ?_),List.filter_eq_self.2 (fun y hy=> ?_)]
  ·have:y.id≠id:=fun e=>hn.2.1.1 (by rw[QQ,←e];exact List.mem_map.2 ⟨y,hy,rfl⟩)
   simpa using this
  ·have:=hn.2.2 _ (List.mem_map.2 ⟨y,hy,rfl⟩) _ (List.mem_cons_self)
   rw[QQ]at this;simpa using this
 rw[e]
 exact List.perm_middle
theorem Kp7 {L1 L2:List QX} (hl:XY L1 L2) {id:Int} {o:QX} (h:Qb3 (L1++L2) id=some o) (s:Int) (k:Option Int):Q2 s k (O6 L1 id++O6 L2 id)=Q2 s k (L1++L2)+if o.side=s∧Qa2 o=k then -1*o.qty else 0:=by
 have e:O6 L1 id++O6 L2 id=O6 (L1++L2) id:=(List.filter_append _ _).symm
 rw[e,Xa4 (Kp6 hl.ids h),Qc4]
 split<;>omega
theorem Xb7 {lv lv':List XJ} {bu se bu' se':Int} {z:QX} (hz:Qb8 z) (hq:z.qty≤Qw8 lv bu se z) (h:Qu3 lv bu se z (-1) lv' bu' se'):Qf9 lv bu se z (-1)=0∧Qz7 lv bu se z (-1) lv' bu' se':=by
 have e:Qf9 lv bu se z (-1)=0:=by
  unfold Qf9;rw[if_pos ((Qh5 z).2 hz),if_neg (by omega)]
 unfold Qu3 at h
 rw[if_pos e]at h
 exact⟨e,h⟩
def Ju8 (m:ZX) (id:Int):ZX:= {m with L1:=O6 m.L1 id,L2:=O6 m.L2 id}
theorem Ju9 {m:ZX} {id:Int} (h:Qb3 (Qc1 m) id=none):Ju8 m id=m:=by
 unfold Ju8
 unfold Qb3 at h
 rw[List.find?_eq_none]at h
 have e: ∀L:List QX,(∀o∈L,o∈Qc1 m)→O6 L id=L:=fun L hL=>List.filter_eq_self.2 (fun o ho=>by have:=h o (hL o ho);simpa using this)
 rw[e _ (fun o ho=>List.mem_append_left _ ho),e _ (fun o ho=>List.mem_append_right _ ho)]
theorem Ki0 (w:World) (e:Nat) (F:Nat→Prop) (m:ZX) (h:UY w e F m) (id:Int):
  Calls Tryz.prog 37 #[.pointer (some ⟨e,0,none⟩),.int .i64 id] w fun ev w'=>ev= .returned (.tuple #[])∧YK w w' e F (Ju8 m id):=by
 obtain⟨cs,tb,bb,bk,im,T,tc,Al,lc,lv,bu,se,Ap,pc,es,mc,G,own,hM,hF⟩:=h
 have hcan:=Qg1 w bk G m.L1 m.L2 hM.book id
 have HCan:=QQ hcan
 have HM:=QQ hM
 have HF:=QQ hF
 have c8:=hM.cell hM.ec.c8
 clear hM hcan hF
 go_enter Tryz.func37,Tryz.ntmps37
 go_wp2_with fail
 refine HCan.out.mono ?_
 rintro ev w2 (⟨hno,rfl,hb2⟩|⟨o,hgo,rfl,hto⟩)
 ·have HNo:=QQ hno
  have HB2:=QQ hb2;clear hno hb2 HCan c8;have e7:YZ 7= .iface 68 (.int .i64 7):=rfl;rw[e7];go_wp2_with fail
  refine bodyPost_end (results_none rfl _ _ _) rfl ?_;rw[Ju9 HNo.out];have hb3:Below w.heap.size w (w2.alloc (.cells (KZ noO) 29)):=HB2.out.alloc HB2.out.size _;exact⟨rfl,_,(HM.out.below hb3).at_ (fun _ _ _=>rfl),(VZ.of_below hb3).bstep HF.out⟩
 ·obtain⟨G2,own2,hM2,ho2⟩:=HM.out.bookTo hto
  have hb3:Below w2.heap.size w2 (w2.alloc (.cells (KZ o) 29)):=(Below.refl _ w2).alloc (Nat.le_refl _) _;have hX:=QJ.new w2 29 (KZ o);have hM3:=hM2.below hb3;obtain⟨w3,ew3⟩: ∃W,w2.alloc (.cells (KZ o) 29)=W:=⟨_,rfl⟩;rw[ew3]at hb3 hX hM3;have hml:=Ju6 HM.out.book.lists HM.out.ind.ok HM.out.is;have hind:=Js3 w3.drew e 77 cs 9 Al lc lv bu se (hM3.below (Below.drew (Below.refl _ w3))).ind hml.small o;unfold KQ at hind;have HInd:=QQ hind;have HM3:=QQ hM3;have HO2:=QQ ho2;have HB3:=QQ hb3;have HGo:=QQ hgo;obtain⟨x0,x1,x2,x3,x4⟩:=JW hX;clear hto hM2 ho2 hX hml hind hgo HCan c8 hM3 hb3;unfold KZ at ew3;unfold KQ;rw[UV];go_upto_region 1 with fail
  try rw[ew3]
  clear ew3;go_wp2_with fail
  go_still_tail 4,(by kernel_rfl)
  change wpList _ _ _ _ _ w3.drew;go_wp2_with fail
  refine HInd.out.mono ?_;rintro ev w4 ⟨rfl,lv',bu',se',hit,htd⟩;clear x0 x1 x2 x3 x4;go_wp2_with fail
  refine bodyPost_end (results_none rfl _ _ _) rfl ?_;have hr:Qb8 o:=J9 HM.out.book.lists o (List.mem_of_find?_eq_some HGo.out);have hq:o.qty≤Qw8 lv bu se o:=by
   rw[HM.out.is.has hr.1];exact Ko1 (J9 HM.out.book.lists) (List.mem_of_find?_eq_some HGo.out)
  obtain⟨-,hchg⟩:=Xb7 hr hq htd;have his:=(HM3.out.is).chg hr.1 hchg;obtain⟨cs3,Al3,lc3,own3,hM4,ho4⟩:=(HM3.out.below (Below.drew (Below.refl _ w3))).indTo hit his;refine⟨rfl,_,UJ.at_ (m:=Ju8 m id) hM4 (fun s k hs=> ?_),((HO2.out.trans (VZ.of_below (HB3.out.trans ((Below.drew (Below.refl _ w3)).mono HB3.out.size)))).trans ho4).bstep HF.out⟩;exact(Kp7 HM.out.book.lists HGo.out s k).symm
end Go.Proofs.YtnlngicnfegjgaaGreat
