/- Parts. -/
import Derived.Test.YtnlngicnfegjgaaGreatDoorZq32
import Derived.Test.YtnlngicnfegjgaaGreatDoorZq31
import Derived.Test.YtnlngicnfegjgaaGreatDoorZq21
import Derived.Test.YtnlngicnfegjgaaGreatDoorZq22
import Derived.Test.YtnlngicnfegjgaaGreatDoorZq23
import Derived.Test.YtnlngicnfegjgaaGreatDoorZq24
set_option linter.unusedVariables false
set_option maxRecDepth 100000
set_option maxHeartbeats 8000000
open Go.Proofs.Tryz
open Go.Value renaming int→I,pointer→IP
open Go.IntKind renaming i64→O
namespace Go.Proofs.YtnlngicnfegjgaaGreatDoor
open Go.RowKit
theorem Bq {σ K al tr cnt ga gt fa ca ct b}
  (v:YA K al tr cnt ga gt fa ca ct 119 (IP (some ⟨b,0,none⟩)) .nilIface)
  (u: ∀ {s:σ} {L1 L2 F w},K s L1 L2 F w-> ∀sd,Z4 sd->Calls prog 42 #[IP (some ⟨b,0,none⟩),I O sd] w fun e w'=>Below w.heap.size w w'/\ ∃A c,e= .returned (.tuple #[.slice A (X6 sd L1 L2).length c,.nilIface])/\J2 w' A (X6 sd L1 L2).length c 29 5 (Q9 X9 (X6 sd L1 L2))/\ ∀g,Q7 A=some g->w.heap.size<=g)
  w s0 G L1 L2 (h:K s0 L1 L2 G w) (j:cnt s0=0) oi sd ok op oq (y:Z4 sd) (i:R9 ⟨oi,sd,ok,op,oq⟩):
  Calls prog 94 #[IP (some ⟨b,0,none⟩),.agg #[I O oi,I O sd,I O ok,I O op,I O oq],.func (.func ga) fa ca,.func (.func gt) #[] ct] w fun e w'=>ND K w w' G sd L1 L2 (V7 al tr (X6 (3-sd) L1 L2) ⟨oi,sd,ok,op,oq⟩ s0) e:=by
 rcases y with rfl|rfl
 ·exact Wt v u w s0 G L1 L2 h j oi ok op oq i
 exact Wu v u w s0 G L1 L2 h j oi ok op oq i
theorem Wv {σ K al tr cnt ga gt fa ca ct b o0}
  (v:YA K al tr cnt ga gt fa ca ct 106 (IP (some ⟨b,o0,none⟩)) (I O 0))
  (u: ∀ {s:σ} {L1 L2 F w},K s L1 L2 F w-> ∀sd,Z4 sd->Calls prog 33 #[IP (some ⟨b,o0,none⟩),I O sd] w fun e w'=>Below w.heap.size w w'/\ ∃A c,e= .returned (.slice A (X6 sd L1 L2).length c)/\J2 w' A (X6 sd L1 L2).length c 29 5 (Q9 X9 (X6 sd L1 L2))/\ ∀g,Q7 A=some g->w.heap.size<=g)
  w s0 G L1 L2 (h:K s0 L1 L2 G w) (j:cnt s0=0) oi sd ok op oq (y:Z4 sd) (i:R9 ⟨oi,sd,ok,op,oq⟩):
  Calls prog 60 #[IP (some ⟨b,o0,none⟩),.agg #[I O oi,I O sd,I O ok,I O op,I O oq],.func (.func ga) fa ca,.func (.func gt) #[] ct] w fun e w'=>ND K w w' G sd L1 L2 (V7 al tr (X6 (3-sd) L1 L2) ⟨oi,sd,ok,op,oq⟩ s0) e:=by
 rcases y with rfl|rfl
 ·exact Qk6 v u w s0 G L1 L2 h j oi ok op oq i
 exact Qk7 v u w s0 G L1 L2 h j oi ok op oq i
theorem Qd8 w b G L1 L2 (h:QY w b G L1 L2) o (y:R9 o):
  Calls prog 93 #[IP (some ⟨b,0,none⟩),X5 o] w (Nw w b G L1 L2 o):=by
 obtain⟨a,F,M,n,r,f,H,reg,u,i,hG,rfl,rfl⟩:=h
 have hn:=u.ar.le
 unfold Nw
 cases h1:XW o with
 |false=>
  have e:addE (H 1).L (H 2).L o=1:=by unfold addE;rw[Q5 h1]
  rw[e];exact(Ji1 w b o h1).mono fun J w' h=> .inl ⟨by decide,h⟩
 |true=>
 cases h2:JH o with
 |false=>
  have e:addE (H 1).L (H 2).L o=2:=by unfold addE;rw[Q3 (by rw[h1];decide),Q5 h2]
  rw[e];exact(Qr6 w b o h1 h2).mono fun J w' h=> .inl ⟨by decide,h⟩
 |true=>
 cases j:f o.id with
 |some v=>
  obtain⟨x,Z,Q0⟩:=i.hk _ _ j;have hv:=i.hf x Z;rw[Q0]at hv;have E:(Y0 ((H 1).L++(H 2).L) o.id).isSome=true:=by rw[<-Q0,Xp i Z];rfl
  have e:addE (H 1).L (H 2).L o=9:=by unfold addE;rw[Q3 (by rw[h1];decide),Q3 (by rw[h2];decide),Q5 E]
  rw[e];exact(Qr7 w b o a F M n r f H reg u h1 h2 x hv).mono fun J w' h=> .inl ⟨by decide,h⟩
 |none=>
 have E: ¬(Y0 ((H 1).L++(H 2).L) o.id).isSome=true:=by rw[Xq i j];decide
 have U:(H 1).L.length+ (H 2).L.length=n:=by
  rw[i.cnt];unfold B4 HS.L U6;simp
 by_cases N:n=100
 ·have e:addE (H 1).L (H 2).L o=12:=by unfold addE;rw[Q3 (by rw[h1];decide),Q3 (by rw[h2];decide),Q3 E,Q5 (by rw[U];exact N)]
  rw[e];exact(Jc2 w b o a F M n r f H reg u i y h1 h2 j N).mono fun J w' h=> .inl ⟨by decide,h⟩
 have e:addE (H 1).L (H 2).L o=0:=by unfold addE;rw[Q3 (by rw[h1];decide),Q3 (by rw[h2];decide),Q3 E,Q3 (by rw[U];exact N)]
 rw[e]
 have D:n<100:=by omega
 have key:Calls prog 93 #[IP (some ⟨b,0,none⟩),X5 o] w fun e w'=>e= .returned (U0 0)/\MQ w w' b a r F n H (V3 o):=by
  rcases(GG.1 h1).1 with C|C
  ·cases hk:o.kind ==2 with
   |true=>exact Qj0 w b o a F M n r f H reg u i y h1 h2 j D C hk
   |false=>exact Qj1 w b o a F M n r f H reg u i y h1 h2 j D C hk
  cases hk:o.kind ==2 with
  |true=>exact Qj2 w b o a F M n r f H reg u i y h1 h2 j D C hk
  |false=>exact Qj3 w b o a F M n r f H reg u i y h1 h2 j D C hk
 exact key.mono fun J w' h=> .inr ⟨rfl,h.1,Jl5 (GG.1 h1).1 hG h.2⟩
section
open Go.ChangeMaps
structure AH (cs:Array Value) (tb bb bk im:Nat) (Ap:Option Addr) (pc:Nat) (m:X7):Prop where
 sz:cs.size=18
 c4:cs[4]?=some (I O m.tk)
 c5:cs[5]?=some (I O m.mo)
 c6:cs[6]?=some (IP (some ⟨tb,0,none⟩))
 c7:cs[7]?=some (IP (some ⟨bb,0,none⟩))
 c8:cs[8]?=some (IP (some ⟨bk,0,none⟩))
 c12:cs[12]?=some (.slice Ap m.pk.length pc)
 c13:cs[13]?=some (.map (some im))
 c14:cs[14]?=some (I O m.ph)
 c15:cs[15]?=some (I O m.now)
 c16:cs[16]?=some (I O m.ends)
 c17:cs[17]?=some (I O m.lng)
structure FC (w:World) (own:Nat->Nat->Prop):Prop where
 uni: ∀i k k',own i k->own i k'->k=k'
 lt: ∀i k,own i k->i<w.heap.size
def JQ (w:World) (own:Nat->Nat->Prop) (N:Nat->Prop) (K:Nat) (i k:Nat):Prop:=own i k\/(w.heap.size<=i/\N i/\k=K)
def Z8 (w w':World) (own own':Nat->Nat->Prop):Prop:=Q6 (fun i=> ∃k,own i k) w w'/\ ∀i k,own' i k->own i k\/w.heap.size<=i
theorem Z8.trans {w w1 w2 o o1 o2} (h:Z8 w w1 o o1) (k:Z8 w1 w2 o1 o2):Z8 w w2 o o2:=by
 refine⟨h.1.trans k.1 (fun i ⟨n,j⟩=> ?_),fun i n j=> ?_⟩
 ·rcases h.2 i n j with e|e
  ·exact .inl ⟨n,e⟩
  exact .inr e
 rcases k.2 i n j with e|e
 ·exact h.2 i n e
 exact .inr (G0 h.1.size e)
theorem Z8.of_below {w w' o} (h:Below w.heap.size w w'):Z8 w w' o o:=⟨U1 h _,fun i k j=> .inl j⟩
abbrev F8:=@Z8.of_below
theorem FC.mono {w w' own} (h:FC w own) (j:w.heap.size<=w'.heap.size):FC w' own:=⟨h.uni,fun i k u=>T8 (h.lt i k u) j⟩
theorem FC.new_ {w w' own} (h:FC w own) (U:w.heap.size<=w'.heap.size) {N} (J: ∀i,N i->i<w'.heap.size) K:FC w' (JQ w own N K):=by
 refine⟨fun i k j h1 h2=> ?_,fun i k h1=> ?_⟩
 ·rcases h1 with h1|⟨C,y,u⟩
  ·rcases h2 with h2|⟨E,D,v⟩
   ·exact h.uni i k j h1 h2
   have:=h.lt i k h1;omega
  rcases h2 with h2|⟨E,D,v⟩
  ·have:=h.lt i j h2;omega
  rw[u,v]
 rcases h1 with h1|⟨C,y,u⟩
 ·exact T8 (h.lt i k h1) U
 exact J i y
structure V1 (w:World) (e:Nat) (cs:Array Value) (tb bb bk im:Nat) (T:Option Addr) (tc:Nat) (Al:Option Addr) (lc:Nat) (lv:List X4) (bu se:Int) (Ap:Option Addr) (pc:Nat) (es:List MapEntry) (mc:Nat) (G:Nat->Prop) (own:Nat->Nat->Prop) (g:Int->Option Int->Int) (m:X7):Prop where
 ind:XQ w e 103 cs 9 Al lc lv bu se
 ec:AH cs tb bb bk im Ap pc m
 is:ZE lv bu se g
 tabl:tb<w.heap.size
 tabc:w.cell? ⟨tb,0,none⟩=some (.slice T m.rows.length tc)
 tabp:T4 w T m.rows.length tc m.rows
 bands:XN w bb m.st m.dy m.an m.la
 book:QY w bk G m.L1 m.L2
 park:J2 w Ap m.pk.length pc 29 5 (Q9 X9 m.pk)
 map_:R8 w im es mc
 keys:BB es
 ids: ∀k,QE es k=if k∈m.ids then some (.bool true)else none
 ok:FC w own
 oe:own e 1
 ot:own tb 2
 oT: ∀i,Q7 T=some i->own i 2
 ob:own bb 3
 oG: ∀i,G i->own i 4
 ol: ∀i,Q7 Al=some i->own i 5
 op: ∀i,Q7 Ap=some i->own i 6
 oi:own im 7
def Jn7 (w:World) (e:Nat) (F:Nat->Prop) (g:Int->Option Int->Int) (m:X7):Prop:=
 ∃cs tb bb bk im T tc Al lc lv bu se Ap pc es mc G own,V1 w e cs tb bb bk im T tc Al lc lv bu se Ap pc es mc G own g m/\ ∀i,F i↔ ∃k,own i k
def C3 (w:World) (e:Nat) (F:Nat->Prop) (m:X7):Prop:=Jn7 w e F (fun s k=>Y2 s k (L6 m)) m
def C0 (w w':World) (e:Nat) (F:Nat->Prop) (m:X7):Prop:= ∃F',C3 w' e F' m/\Z3 w w' F F'
section
variable {w w':World} {e:Nat} {cs:Array Value} {tb bb bk im:Nat} {T:Option Addr} {tc:Nat} {Al:Option Addr} {lc:Nat} {lv:List X4} {bu se:Int} {Ap:Option Addr} {pc:Nat} {es:List MapEntry} {mc:Nat} {G:Nat->Prop} {own:Nat->Nat->Prop} {g:Int->Option Int->Int} {m:X7}
theorem T4.keeps {A n c ps S} (h:T4 w A n c ps) (hk:Q6 S w w') (J: ∀i,Q7 A=some i-> ¬S i):T4 w' A n c ps:=by
 refine⟨h.1,fun E=> ?_⟩
 obtain⟨b,D,v,j,C⟩:=h.2 E
 have u: ¬S b:=J b (by rw[v];rfl)
 exact⟨b,D,v,T8 j hk.size,fun i y=>⟨(hk.cell (p:=⟨b,_,none⟩) j u).trans (C i y).1,(hk.cell (p:=⟨b,_,none⟩) j u).trans (C i y).2⟩⟩
theorem V1.cell (h:V1 w e cs tb bb bk im T tc Al lc lv bu se Ap pc es mc G own g m) {i v} (j:cs[i]?=some v):w.cell? ⟨e,i,none⟩=some v:=by rw[J0 h.ind.blk];exact j
theorem V1.fit {S:Nat->Prop} (h:V1 w e cs tb bb bk im T tc Al lc lv bu se Ap pc es mc G own g m) {K} (v: ∀i,S i->own i K) {i k} (u:own i k) (hk:k≠K): ¬S i:=fun j=>hk (h.ok.uni i k K u (v i j))
theorem V1.keeps {S} (h:V1 w e cs tb bb bk im T tc Al lc lv bu se Ap pc es mc G own g m) (hk:Q6 S w w') (j: ∀i k,own i k-> ¬S i):V1 w' e cs tb bb bk im T tc Al lc lv bu se Ap pc es mc G own g m:=
 ⟨h.ind.keeps hk (j _ _ h.oe) (fun i u=>j i _ (h.ol i u)),h.ec,h.is,T8 h.tabl hk.size,(hk.cell (p:=⟨tb,0,none⟩) h.tabl (j _ _ h.ot)).trans h.tabc,h.tabp.keeps hk (fun i u=>j i _ (h.oT i u)),X0 h.bands hk (j _ _ h.ob),h.book.keeps hk (fun i u=>j i _ (h.oG i u)),h.park.keeps hk (fun i u=>j i _ (h.op i u)),h.map_.of_block (hk.block _ h.map_.lt (j _ _ h.oi)),h.keys,h.ids,h.ok.mono hk.size,h.oe,h.ot,h.oT,h.ob,h.oG,h.ol,h.op,h.oi⟩
theorem V1.below (h:V1 w e cs tb bb bk im T tc Al lc lv bu se Ap pc es mc G own g m) (i:Below w.heap.size w w'):V1 w' e cs tb bb bk im T tc Al lc lv bu se Ap pc es mc G own g m:=
 h.keeps (U1 i (fun _=>False)) (fun _ _ _=>id)
theorem Qt8 {S N K} (hk:Q6 S w w') (u: ∀i,S i->own i K):Z8 w w' own (JQ w own N K):=
 ⟨hk.mono (fun i j=>⟨K,u i j⟩),fun i k j=>j.imp id (fun x=>x.1)⟩
theorem V1.bookStep {M1 M2 G'} (h:V1 w e cs tb bb bk im T tc Al lc lv bu se Ap pc es mc G own g m) (v:QY w' bk G' M1 M2) (ht:Z3 w w' G G'):
  V1 w' e cs tb bb bk im T tc Al lc lv bu se Ap pc es mc G' (JQ w own G' 4) g {m with L1:=M1,L2:=M2}/\Z8 w w' own (JQ w own G' 4):=by
 obtain⟨hk,y⟩:=ht
 have f: ∀ {i k},own i k->k≠4-> ¬G i:=fun j C=>h.fit h.oG j C
 have n: ∀ {i k},own i k->JQ w own G' 4 i k:=fun j=> .inl j
 refine⟨⟨h.ind.keeps hk (f h.oe (by decide)) (fun i j=>f (h.ol i j) (by decide)),⟨h.ec.sz,h.ec.c4,h.ec.c5,h.ec.c6,h.ec.c7,h.ec.c8,h.ec.c12,h.ec.c13,h.ec.c14,h.ec.c15,h.ec.c16,h.ec.c17⟩,h.is,T8 h.tabl hk.size,(hk.cell (p:=⟨tb,0,none⟩) h.tabl (f h.ot (by decide))).trans h.tabc,h.tabp.keeps hk (fun i j=>f (h.oT i j) (by decide)),X0 h.bands hk (f h.ob (by decide)),v,h.park.keeps hk (fun i j=>f (h.op i j) (by decide)),h.map_.of_block (hk.block _ h.map_.lt (f h.oi (by decide))),h.keys,h.ids,h.ok.new_ hk.size (fun i j=>v.fp j) 4,n h.oe,n h.ot,fun i j=>n (h.oT i j),n h.ob,fun i j=> ?_,fun i j=>n (h.ol i j),fun i j=>n (h.op i j),n h.oi⟩,Qt8 hk h.oG⟩
 rcases y i j with u|u
 ·exact n (h.oG i u)
 exact .inr ⟨u,j,rfl⟩
theorem V1.bookTo {M1 M2} (h:V1 w e cs tb bb bk im T tc Al lc lv bu se Ap pc es mc G own g m) (ht:FX w w' bk G M1 M2):
  ∃G' own',V1 w' e cs tb bb bk im T tc Al lc lv bu se Ap pc es mc G' own' g {m with L1:=M1,L2:=M2}/\Z8 w w' own own':=by
 obtain⟨G',i,j⟩:=ht
 obtain⟨h1,h2⟩:=h.bookStep i j
 exact⟨G',_,h1,h2⟩
theorem V1.indTo {lv' bu' se' g'} (h:V1 w e cs tb bb bk im T tc Al lc lv bu se Ap pc es mc G own g m) (ht:ZD w w' e 103 cs 9 Al lv' bu' se') (j:ZE lv' bu' se' g'):
  ∃y u D own',V1 w' e y tb bb bk im T tc u D lv' bu' se' Ap pc es mc G own' g' m/\Z8 w w' own own':=by
 obtain⟨y,u,D,J,a0,a1,hk,N⟩:=ht
 have f: ∀ {i k},own i k->k≠1->k≠5-> ¬(i=e\/Q7 Al=some i):=fun j h1 h5 E=>by
  rcases E with rfl|E
  ·exact h1 (h.ok.uni _ _ _ j h.oe)
  exact h5 (h.ok.uni _ _ _ j (h.ol _ E))
 have n: ∀ {i k},own i k->JQ w own (fun i=>Q7 u=some i) 5 i k:=fun j=> .inl j
 have c: ∀i v,cs[i]?=some v->i≠9->i≠10->i≠11->y[i]?=some v:=fun i v Z h9 a2 U=>(a1 i h9 a2 U).trans Z
 refine⟨y,u,D,JQ w own (fun i=>Q7 u=some i) 5,⟨J,⟨a0.trans h.ec.sz,c _ _ h.ec.c4 (by decide) (by decide) (by decide),c _ _ h.ec.c5 (by decide) (by decide) (by decide),c _ _ h.ec.c6 (by decide) (by decide) (by decide),c _ _ h.ec.c7 (by decide) (by decide) (by decide),c _ _ h.ec.c8 (by decide) (by decide) (by decide),c _ _ h.ec.c12 (by decide) (by decide) (by decide),c _ _ h.ec.c13 (by decide) (by decide) (by decide),c _ _ h.ec.c14 (by decide) (by decide) (by decide),c _ _ h.ec.c15 (by decide) (by decide) (by decide),c _ _ h.ec.c16 (by decide) (by decide) (by decide),c _ _ h.ec.c17 (by decide) (by decide) (by decide)⟩,j,T8 h.tabl hk.size,(hk.cell (p:=⟨tb,0,none⟩) h.tabl (f h.ot (by decide) (by decide))).trans h.tabc,h.tabp.keeps hk (fun i j=>f (h.oT i j) (by decide) (by decide)),X0 h.bands hk (f h.ob (by decide) (by decide)),h.book.keeps hk (fun i j=>f (h.oG i j) (by decide) (by decide)),h.park.keeps hk (fun i j=>f (h.op i j) (by decide) (by decide)),h.map_.of_block (hk.block _ h.map_.lt (f h.oi (by decide) (by decide))),h.keys,h.ids,h.ok.new_ hk.size (fun i j=>J.row.lt j) 5,n h.oe,n h.ot,fun i j=>n (h.oT i j),n h.ob,fun i j=>n (h.oG i j),fun i j=> ?_,fun i j=>n (h.op i j),n h.oi⟩,hk.mono (fun i j=> ?_),fun i k j=>j.imp id (fun x=>x.1)⟩
 ·rcases N i j with C|C
  ·exact n (h.ol i C)
  exact .inr ⟨C,j,rfl⟩
 rcases j with rfl|j
 ·exact⟨1,h.oe⟩
 exact⟨5,h.ol i j⟩
theorem V1.bandsTo {an la} (h:V1 w e cs tb bb bk im T tc Al lc lv bu se Ap pc es mc G own g m) (u:XN w' bb m.st m.dy an la) (hk:Q6 (fun i=>i=bb) w w'):
  V1 w' e cs tb bb bk im T tc Al lc lv bu se Ap pc es mc G own g {m with an:=an,la:=la}/\Z8 w w' own own:=by
 have f: ∀ {i k},own i k->k≠3-> ¬i=bb:=fun j v=>h.fit (S:=fun i=>i=bb) (fun i j=>j▸h.ob) j v
 exact⟨⟨h.ind.keeps hk (f h.oe (by decide)) (fun i j=>f (h.ol i j) (by decide)),⟨h.ec.sz,h.ec.c4,h.ec.c5,h.ec.c6,h.ec.c7,h.ec.c8,h.ec.c12,h.ec.c13,h.ec.c14,h.ec.c15,h.ec.c16,h.ec.c17⟩,h.is,T8 h.tabl hk.size,(hk.cell (p:=⟨tb,0,none⟩) h.tabl (f h.ot (by decide))).trans h.tabc,h.tabp.keeps hk (fun i j=>f (h.oT i j) (by decide)),u,h.book.keeps hk (fun i j=>f (h.oG i j) (by decide)),h.park.keeps hk (fun i j=>f (h.op i j) (by decide)),h.map_.of_block (hk.block _ h.map_.lt (f h.oi (by decide))),h.keys,h.ids,h.ok.mono hk.size,h.oe,h.ot,h.oT,h.ob,h.oG,h.ol,h.op,h.oi⟩,hk.mono (fun i j=>⟨3,j▸h.ob⟩),fun i k j=> .inl j⟩
theorem V1.cellsTo {cs' m'} (h:V1 w e cs tb bb bk im T tc Al lc lv bu se Ap pc es mc G own g m) (D:Q1 w' e 103 cs') (hk:Q6 (fun i=>i=e) w w') (J:AH cs' tb bb bk im Ap pc m') (h9:cs'[9]?=cs[9]?) (a1:cs'[10]?=cs[10]?) (E:cs'[11]?=cs[11]?)
  (N:m'.rows=m.rows/\m'.st=m.st/\m'.dy=m.dy/\m'.an=m.an/\m'.la=m.la/\m'.L1=m.L1/\m'.L2=m.L2/\m'.pk=m.pk/\m'.ids=m.ids):
  V1 w' e cs' tb bb bk im T tc Al lc lv bu se Ap pc es mc G own g m'/\Z8 w w' own own:=by
 obtain⟨v,e2,e3,Z,U,e6,y,C,e9⟩:=N
 have f: ∀ {i k},own i k->k≠1-> ¬i=e:=fun j a0=>h.fit (S:=fun i=>i=e) (fun i j=>j▸h.oe) j a0
 have u:=h.ind
 refine⟨⟨⟨D,h9.trans u.c0,a1.trans u.c1,E.trans u.c2,u.row.keeps hk (fun i j=>f (h.ol i j) (by decide)),u.na,u.ok⟩,J,h.is,T8 h.tabl hk.size, ?_, ?_, ?_, ?_, ?_,h.map_.of_block (hk.block _ h.map_.lt (f h.oi (by decide))),h.keys, ?_,h.ok.mono hk.size,h.oe,h.ot,h.oT,h.ob,h.oG,h.ol,h.op,h.oi⟩,hk.mono (fun i j=>⟨1,j▸h.oe⟩),fun i k j=> .inl j⟩
 ·rw[v];exact(hk.cell (p:=⟨tb,0,none⟩) h.tabl (f h.ot (by decide))).trans h.tabc
 ·rw[v];exact h.tabp.keeps hk (fun i j=>f (h.oT i j) (by decide))
 ·rw[e2,e3,Z,U];exact X0 h.bands hk (f h.ob (by decide))
 ·rw[e6,y];exact h.book.keeps hk (fun i j=>f (h.oG i j) (by decide))
 ·rw[C];exact h.park.keeps hk (fun i j=>f (h.op i j) (by decide))
 rw[e9];exact h.ids
theorem V1.at_ (h:V1 w e cs tb bb bk im T tc Al lc lv bu se Ap pc es mc G own g m) (j: ∀s k,(s=1\/s=2)->g s k=Y2 s k (L6 m)):C3 w e (fun i=> ∃k,own i k) m:=
 ⟨cs,tb,bb,bk,im,T,tc,Al,lc,lv,bu,se,Ap,pc,es,mc,G,own,⟨h.ind,h.ec,h.is.congr j,h.tabl,h.tabc,h.tabp,h.bands,h.book,h.park,h.map_,h.keys,h.ids,h.ok,h.oe,h.ot,h.oT,h.ob,h.oG,h.ol,h.op,h.oi⟩,fun i=>ZP⟩
abbrev EW:=@V1.at_
theorem Z8.bstep {F own'} (h:Z8 w w' own own') (v: ∀i,F i↔ ∃k,own i k):Z3 w w' F (fun i=> ∃k,own' i k):=by
 refine⟨h.1.mono (fun i u=>(v i).2 u),fun i ⟨k,u⟩=> ?_⟩
 rcases h.2 i k u with j|j
 ·exact .inl ((v i).2 ⟨k,j⟩)
 exact .inr j
theorem C3.below {F} (h:C3 w e F m) (j:Below w.heap.size w w'):C3 w' e F m:=by
 obtain⟨cs,tb,bb,bk,im,T,tc,Al,lc,lv,bu,se,Ap,pc,es,mc,G,own,u,i⟩:=h
 exact⟨cs,tb,bb,bk,im,T,tc,Al,lc,lv,bu,se,Ap,pc,es,mc,G,own,u.below j,i⟩
theorem C3.keeps {F S} (h:C3 w e F m) (hk:Q6 S w w') (v: ∀i,F i-> ¬S i):C3 w' e F m:=by
 obtain⟨cs,tb,bb,bk,im,T,tc,Al,lc,lv,bu,se,Ap,pc,es,mc,G,own,y,j⟩:=h
 exact⟨cs,tb,bb,bk,im,T,tc,Al,lc,lv,bu,se,Ap,pc,es,mc,G,own,y.keeps hk (fun i k u=>v i ((j i).2 ⟨k,u⟩)),j⟩
theorem C3.lt {F} (h:C3 w e F m) {i} (j:F i):i<w.heap.size:=by
 obtain⟨cs,tb,bb,bk,im,T,tc,Al,lc,lv,bu,se,Ap,pc,es,mc,G,own,v,u⟩:=h
 obtain⟨k,hk⟩:=(u i).1 j
 exact v.ok.lt i k hk
theorem C0.same {F} (h:C3 w e F m) (i:Below w.heap.size w w'):C0 w w' e F m:=⟨F,h.below i,C1 i⟩
abbrev DH:=@C0.same
theorem C0.then_ {F w''} (h:C0 w w' e F m) (i:Below w'.heap.size w' w''):C0 w w'' e F m:=by
 obtain⟨F',h1,h2⟩:=h
 exact⟨F',h1.below i,h2.trans (C1 i)⟩
end
end
theorem BR {L1 L2} (h:B8 L1 L2):Kp (L1++L2):=fun o i=>by
 have h1:=h.ok o i
 refine⟨?_,h1.2.2.2,.inr h1.2.2.1⟩
 rcases Y7.1 i with h2|h2
 ·exact .inl (h.s1 o h2)
 exact .inr (h.s2 o h2)
theorem Ql1 {L1 L2} (h:B8 L1 L2) s k:0<=Y2 s k (L1++L2)/\Y2 s k (L1++L2)<=1000000000:=by
 have h1:=RZ (s:=s) (k:=k) (BR h)
 have h2:=h.cnt
 omega
theorem Yt {L1 L2 lv bu se} (h:B8 L1 L2) (hk:AC lv) (i:ZE lv bu se (fun s k=>Y2 s k (L1++L2))):BG lv bu se:=
 i.mild hk (fun s k=>Ql1 h s k) (by have:=i.few hk;have:=h.cnt;omega)
theorem Qd9 z:S0 (V3 z)=S0 z:=by
 unfold S0 V3
 dsimp only
 split<;>rfl
theorem Jd8 {L1 L2 z} (i:Z4 z.side) s k:Y2 s k (KQ 1 L1 z++KQ 2 L2 z)=Y2 s k (L1++L2)+if z.side=s/\S0 z=k then 1*z.qty else 0:=by
 have key: ∀s' L,Y2 s k (UW s' L (V3 z))=(if z.side=s/\S0 z=k then z.qty else 0)+Y2 s k L:=fun s' L=>by
  rw[Gw (Us s' L (V3 z)),GD,Qd9]
  rfl
 rw[GU,GU]
 unfold KQ
 rcases i with e|e
 ·rw[Q5 e,Q3 (by omega),key,Int.one_mul]
  omega
 rw[Q3 (by omega),Q5 e,key,Int.one_mul]
 omega
theorem Ql2 {L1 L2 z} (h:addE L1 L2 z=0):UN z:=by
 unfold addE at h
 cases h1:XW z with
 |false=>rw[h1]at h;simp at h
 |true=>
  cases h2:JH z with
  |false=>rw[h1,h2]at h;simp at h
  |true=>
   unfold XW at h1;unfold JH at h2;rw[DF]at h2;simp at h1;refine⟨h1.1,h2.2.2, ?_⟩;unfold V3 at h2;dsimp only at h2
   by_cases hk:z.kind=2
   ·exact .inl hk
   rw[Q3 hk]at h2;exact .inr ⟨h2.1,h2.2.1⟩
theorem Yu {lv lv' bu se bu' se' z} (i:UN z) (h:DX lv bu se z 1 lv' bu' se'):VB lv bu se z 1=0/\RT lv bu se z 1 lv' bu' se':=by
 have e:VB lv bu se z 1=0:=by
  unfold VB;rw[Q5 ((RK z).2 i),Q3 (by intro x;exact absurd x.1 (by decide))]
 unfold DX at h
 rw[Q5 e]at h
 exact⟨e,h⟩
theorem Jj4 {m z} (h:addE m.L1 m.L2 z≠0):M6 m z=m:=by
 unfold M6 FA
 rw[Q3 h,Q3 h]
theorem Jd9 {m z} (h:addE m.L1 m.L2 z=0):M6 m z= {m with L1:=KQ 1 m.L1 z,L2:=KQ 2 m.L2 z}:=by
 unfold M6 FA
 rw[Q5 h,Q5 h]
def Zg (w w':World) (e tb bb bk im:Nat) (T:Option Addr) (tc:Nat) (Ap:Option Addr) (pc:Nat) (es:List MapEntry) (mc:Nat) (own:Nat->Nat->Prop) (m:X7):Prop:=
 ∃cs Al lc lv bu se G own',V1 w' e cs tb bb bk im T tc Al lc lv bu se Ap pc es mc G own' (fun s k=>Y2 s k (L6 m)) m/\Z8 w w' own own'
theorem Zg.to {w w' e tb bb bk im T tc Ap pc es mc own m F} (h:Zg w w' e tb bb bk im T tc Ap pc es mc own m) (j: ∀i,F i↔ ∃k,own i k):C0 w w' e F m:=by
 obtain⟨cs,Al,lc,lv,bu,se,G,own',v,u⟩:=h
 exact⟨_,v.at_ (fun _ _ _=>rfl),u.bstep j⟩
theorem V1.lots {w e cs tb bb bk im T tc Al lc lv bu se Ap pc es mc G own g g' m}
  (h:V1 w e cs tb bb bk im T tc Al lc lv bu se Ap pc es mc G own g m) (i: ∀s k,(s=1\/s=2)->g s k=g' s k):V1 w e cs tb bb bk im T tc Al lc lv bu se Ap pc es mc G own g' m:=
 ⟨h.ind,h.ec,h.is.congr i,h.tabl,h.tabc,h.tabp,h.bands,h.book,h.park,h.map_,h.keys,h.ids,h.ok,h.oe,h.ot,h.oT,h.ob,h.oG,h.ol,h.op,h.oi⟩
theorem Pc {w e cs tb bb bk im T tc Al lc lv bu se Ap pc es mc G own m}
  (hM:V1 w e cs tb bb bk im T tc Al lc lv bu se Ap pc es mc G own (fun s k=>Y2 s k (L6 m)) m) z (N:R9 z):
  Calls prog 46 #[IP (some ⟨e,0,none⟩),X5 z] w fun ev w'=>ev= .returned (.tuple #[])/\Zg w w' e tb bb bk im T tc Ap pc es mc own (M6 m z):=by
 have C:Below w.heap.size w (w.alloc (.cells (J8 z) 29)):=(Q2 _ w).alloc (Q4 _) _
 have v:=J9 w 29 (J8 z)
 have i:=hM.below C
 obtain⟨w1,u⟩:=exq (w.alloc (.cells (J8 z) 29))
 rw[u]at C v i
 have a0:=Qd8 w1.drew bk G m.L1 m.L2 (i.book.below (J3 (Q2 _ _))) z N
 unfold J8 at u
 unfold X5 at a0|-
 have HAdd:=Q0 a0
 have j:=Q0 i
 have HX:=Q0 v
 have y:=Q0 C
 have HO:=Q0 hM.ok
 have c2:=Q0 N
 have c8:=i.cell i.ec.c8
 obtain⟨U,x1,Z,x3,x4⟩:=Z6 v
 clear hM C v i a0 N
 go_enter func46,ntmps46
 go_upto_region 1 with fail
 try rw[u]
 clear u
 go_still_tail 5,(by kernel_rfl)
 change wpList _ _ _ _ _ w1.drew
 go_wp2_with fail
 refine HAdd.mono ?_
 rintro ev w2 (⟨hne,rfl,hb2⟩|⟨hz,rfl,hto⟩)
 ·have a3:Below w1.heap.size w1 w2:=(J3 (Q2 _ w1)).trans hb2
  have a4:=Q0 a3;have a8:=Q0 hne;clear hb2 a3 c8 U x1 Z x3 x4;unfold U0;rw[Q3 hne];clear hne HAdd;go_wp2_with fail
  refine BP (KW rfl _ _ _) rfl ?_;rw[Jj4 a8.out];exact⟨rfl,_,_,_,_,_,_,_,_,j.below a4,F8 (y.trans (a4.mono y.size))⟩
 rw[BJ]
 obtain⟨G2,own2,J,E⟩:=(j.below (J3 (Q2 _ w1))).bookTo hto
 have a2:=X0 (Z2 HX) E.1 (fun⟨k,hk⟩=>YK _ (HO.lt _ _ hk))
 have a1:=Yt j.book.lists j.ind.ok j.is
 have D:=Ac w2.drew e 103 cs 9 Al lc lv bu se (J.below (J3 (Q2 _ w2))).ind a1.small z
 unfold X5 at D
 have b1:=Q0 D
 have a5:=Q0 J
 have b8:=Q0 E
 have HZ:=Q0 hz
 obtain⟨U,x1,Z,x3,x4⟩:=Z6 a2
 clear hto J E a2 a1 D hz HAdd c8
 go_wp2_with fail
 go_still_tail 4,(by kernel_rfl)
 change wpList _ _ _ _ _ w2.drew
 go_wp2_with fail
 refine b1.mono ?_
 rintro ev w3 ⟨rfl,lv',bu',se',b0,b5⟩
 clear U x1 Z x3 x4
 go_wp2_with fail
 refine BP (KW rfl _ _ _) rfl ?_
 have hr:=Ql2 HZ
 obtain⟨-,a7⟩:=Yu hr b5
 have a6:=(a5.is).chg hr.1 a7
 obtain⟨c0,c1,c3,b9,a9,b2⟩:=(a5.below (J3 (Q2 _ w2))).indTo b0 a6
 rw[Jd9 HZ.out]
 refine⟨rfl,_,_,_,_,_,_,_,_,a9.lots (fun s k hs=> ?_),(((F8 (y.trans ((J3 (Q2 _ w1)).mono y.size))).trans b8).trans (F8 (J3 (Q2 _ w2)))).trans b2⟩
 exact(Jd8 hr.1 s k).symm
theorem Uu w e F m (h:C3 w e F m) z (j:R9 z):
  Calls prog 46 #[IP (some ⟨e,0,none⟩),X5 z] w fun i w'=>i= .returned (.tuple #[])/\C0 w w' e F (M6 m z):=by
 obtain⟨cs,tb,bb,bk,im,T,tc,Al,lc,lv,bu,se,Ap,pc,es,mc,G,own,v,u⟩:=h
 exact(Pc v z j).mono fun i w' ⟨h1,h2⟩=>⟨h1,h2.to u⟩
theorem Je0 {L} (i:(L.map (·.id)).Nodup) {id o} (h:Y0 L id=some o):L.Perm (o::D1 L id):=by
 have Q0:o.id=id:=by
  have:=TG h;simpa using this
 obtain⟨A,B,rfl⟩:=List.append_of_mem (FP h)
 rw[T1,S6,YX,KT]at i
 have e:D1 (A++o::B) id=A++B:=by
  unfold D1;rw[QL,CF (by simp[Q0]),KR.2 (fun y hy=> ?_),KR.2 (fun y hy=> ?_)]
  ·have:y.id≠id:=fun e=>i.2.1.1 (by rw[Q0,<-e];exact U4.2 ⟨y,hy,rfl⟩)
   simpa using this
  have:=i.2.2 _ (U4.2 ⟨y,hy,rfl⟩) _ (PE);rw[Q0]at this;simpa using this
 rw[e]
 exact Jd
theorem Je1 {L1 L2} (i:B8 L1 L2) {id o} (h:Y0 (L1++L2) id=some o) s k:Y2 s k (D1 L1 id++D1 L2 id)=Y2 s k (L1++L2)+if o.side=s/\S0 o=k then -1*o.qty else 0:=by
 have e:D1 L1 id++D1 L2 id=D1 (L1++L2) id:=(QL _ _).symm
 rw[e,Gw (Je0 i.ids h),GD]
 split<;>omega
theorem Hr {lv lv' bu se bu' se' z} (i:UN z) (j:z.qty<=AD lv bu se z) (h:DX lv bu se z (-1) lv' bu' se'):VB lv bu se z (-1)=0/\RT lv bu se z (-1) lv' bu' se':=by
 have e:VB lv bu se z (-1)=0:=by
  unfold VB;rw[Q5 ((RK z).2 i),Q3 (by omega)]
 unfold DX at h
 rw[Q5 e]at h
 exact⟨e,h⟩
def PJ (m:X7) (id:Int):X7:= {m with L1:=D1 m.L1 id,L2:=D1 m.L2 id}
theorem Fl {m id} (h:Y0 (L6 m) id=none):PJ m id=m:=by
 unfold PJ
 unfold Y0 at h
 rw[EY]at h
 have e: ∀L,(∀o∈L,o∈L6 m)->D1 L id=L:=fun L j=>KR.2 (fun o i=>by have:=h o (j o i);simpa using this)
 rw[e _ (fun o i=>S9 _ i),e _ (fun o i=>QB _ i)]
theorem Qt9 w e F m (h:C3 w e F m) id:
  Calls prog 68 #[IP (some ⟨e,0,none⟩),I O id] w fun J w'=>J= .returned (.tuple #[])/\C0 w w' e F (PJ m id):=by
 obtain⟨cs,tb,bb,bk,im,T,tc,Al,lc,lv,bu,se,Ap,pc,es,mc,G,own,u,hF⟩:=h
 have a2:=Jk w bk G m.L1 m.L2 u.book id
 have E:=Q0 a2
 have i:=Q0 u
 have HF:=Q0 hF
 have c8:=u.cell u.ec.c8
 clear u a2 hF
 go_enter func68,ntmps68
 go_wp2_with fail
 refine E.mono ?_
 rintro J w2 (⟨hno,rfl,hb2⟩|⟨o,hgo,rfl,hto⟩)
 ·have a8:=Q0 hno
  have a1:=Q0 hb2;clear hno hb2 E c8;have e7:U0 7= .iface 52 (I O 7):=rfl;rw[e7];go_wp2_with fail
  refine BP (KW rfl _ _ _) rfl ?_;rw[Fl a8.out];have j:Below w.heap.size w (w2.alloc (.cells (J8 Y3) 29)):=a1.alloc a1.size _;exact⟨rfl,_,(i.below j).at_ (fun _ _ _=>rfl),(F8 j).bstep HF⟩
 obtain⟨G2,own2,a4,a0⟩:=i.bookTo hto
 have j:Below w2.heap.size w2 (w2.alloc (.cells (J8 o) 29)):=(Q2 _ w2).alloc (Q4 _) _
 have C:=J9 w2 29 (J8 o)
 have v:=a4.below j
 obtain⟨w3,y⟩:=exq (w2.alloc (.cells (J8 o) 29))
 rw[y]at j C v
 have a3:=Yt i.book.lists i.ind.ok i.is
 have N:=Yl w3.drew e 103 cs 9 Al lc lv bu se (v.below (J3 (Q2 _ w3))).ind a3.small o
 unfold X5 at N
 have b5:=Q0 N
 have Z:=Q0 v
 have a7:=Q0 a0
 have a5:=Q0 j
 have D:=Q0 hgo
 obtain⟨x0,x1,x2,x3,x4⟩:=Z6 C
 clear hto a4 a0 C a3 N hgo E c8 v j
 unfold J8 at y
 unfold X5
 rw[BJ]
 go_upto_region 1 with fail
 try rw[y]
 clear y
 go_wp2_with fail
 go_still_tail 4,(by kernel_rfl)
 change wpList _ _ _ _ _ w3.drew
 go_wp2_with fail
 refine b5.mono ?_
 rintro J w4 ⟨rfl,lv',bu',se',b2,b8⟩
 clear x0 x1 x2 x3 x4
 go_wp2_with fail
 refine BP (KW rfl _ _ _) rfl ?_
 have U:UN o:=BR i.book.lists o (FP D)
 have hq:o.qty<=AD lv bu se o:=by
  rw[i.is.has U.1];exact Jb9 (BR i.book.lists) (FP D)
 obtain⟨-,b1⟩:=Hr U hq b8
 have b0:=(Z.is).chg U.1 b1
 obtain⟨c2,c0,c1,b9,a9,a6⟩:=(Z.below (J3 (Q2 _ w3))).indTo b2 b0
 refine⟨rfl,_,EW (m:=PJ m id) a9 (fun s k hs=> ?_),((a7.trans (F8 (a5.trans ((J3 (Q2 _ w3)).mono a5.size)))).trans a6).bstep HF⟩
 exact(Je1 i.book.lists D s k).symm
theorem Ql3 w A n c l (h:J2 w A n c 29 5 (Q9 X9 l)) (hn:n<=100000):
  Calls prog 48 #[.slice A n c] w fun e w'=>Below w.heap.size w w'/\ ∃A' c',e= .returned (.slice A' n c')/\J2 w' A' n c' 29 5 (Q9 X9 l)/\ ∀g,Q7 A'=some g->w.heap.size<=g:=by
 rcases h.2 with⟨u,h0⟩|⟨g,cap,a1,u,-⟩
 ·cases u
  have v:Q9 X9 l= []:=BN (by have:=h.1;omega);rw[v];have a0: ∀wx,(binOp .eql 47 (.slice none 0 0) (.slice none 0 0)).run prog wx= .ok (.bool true) wx:=fun wx=>Qu (P:=prog) wx 47 29 none 0 0 0 0 QM
  clear h v;go_enter func48,ntmps48
  go_wp2;go_ret;exact⟨Q2 _ _,none,0,rfl,JX _ _ _ _,fun g j=>by simp[Q7]at j⟩
 cases u
 obtain⟨i0,Z,N,D,C⟩:=N0 Xh
 have hE:=Q0 ((VV H6 (by omega) h).below ((Q2 _ w).alloc (Q4 _) (.cells #[] 29)) (Q4 _))
 have U:=Q0 (GA w 29 5)
 have a0: ∀wx,(binOp .eql 47 (.slice (some ⟨g,0,none⟩) n c) (.slice none 0 0)).run prog wx= .ok (.bool false) wx:=fun wx=>Qu (P:=prog) wx 47 29 (some ⟨g,0,none⟩) n c 0 0 QM
 clear h
 go_enter func48,ntmps48
 go_wp2_with (at_builtin;refine Bc H6 JK rfl (.tmp 5) (.tmp 6) 47 rfl 29 i0 _ 40 QM Z N D C rfl (by omega) (some ⟨w.heap.size,0,none⟩) 0 0 [] rfl U (some ⟨g,0,none⟩) n c l rfl hE (by unfold maxLen;omega) (by omega) ?_;intro A' c' w2 y j E)
 go_ret
 have J:Below w.heap.size w w2:=((Q2 _ w).alloc (Q4 _) (.cells #[] 29)).grown j (by simp) (fun q i=>by simp[Q7]at i;omega)
 simp only[Nat.zero_add,List.nil_append]at y
 refine⟨J,A',c',rfl,y,fun q i=> ?_⟩
 rcases E q i with x|x
 ·have:w.heap.size=q:=by simpa [Q7]using x
  omega
 have:q=w.heap.size+1:=by simpa using x
 omega
theorem Qe0 {w e F m} (h:C3 w e F m) (y:m.pk.length<=100000):
  Calls prog 13 #[IP (some ⟨e,0,none⟩)] w fun C w'=>Below w.heap.size w w'/\ ∃A c,C= .returned (.slice A m.pk.length c)/\J2 w' A m.pk.length c 29 5 (Q9 X9 m.pk)/\ ∀g,Q7 A=some g->w.heap.size<=g:=by
 obtain⟨cs,tb,bb,bk,im,T,tc,Al,lc,lv,bu,se,Ap,pc,es,mc,G,own,i,N⟩:=h
 have J:=i.cell i.ec.c12
 have j:=Q0 (Ql3 w Ap m.pk.length pc m.pk i.park y)
 clear i N
 obtain⟨n,v⟩:=exq m.pk.length
 rw[v]at J j|-
 clear v y
 go_enter func13,ntmps13
 go_wp2_with fail
 refine j.mono ?_
 rintro C w2 ⟨U,A,c,rfl,D,u⟩
 have E:=Q0 D
 have Z:=Q0 u
 clear D u j
 go_wp2_with fail
 go_ret
 exact⟨U,A,c,rfl,E,Z⟩
structure Ru (e bb bk V:Nat) (cs:Array Value) (st dy an la:Int) (L1 L2:List Q8) (F G:Nat->Prop) (w:World):Prop where
 book:QY w bk G L1 L2
 bands:XN w bb st dy an la
 eng:Q1 w e 103 cs
 var:Q1 w V 37 #[IP (some ⟨e,0,none⟩)]
 fp: ∀i,F i↔(G i\/i=bb\/i=e\/i=V)
 gb: ¬G bb
 ge: ¬G e
 gv: ¬G V
 be:bb≠e
 bv:bb≠V
 c7:cs[7]?=some (IP (some ⟨bb,0,none⟩))
def SL (e bb bk V:Nat) (cs:Array Value) (st dy an:Int) (la:Int) (L1 L2:List Q8) (F:Nat->Prop) (w:World):Prop:= ∃G,Ru e bb bk V cs st dy an la L1 L2 F G w
theorem Ql4 {e bb bk V cs st dy an la L1 L2 F G w} (h:Ru e bb bk V cs st dy an la L1 L2 F G w) p (hp:1<=p/\p<=1000000):
  Calls prog 96 #[I O p,IP (some ⟨V,0,none⟩)] w fun j w'=>j= .returned (.tuple #[])/\XN w' bb st dy an p/\Q6 (fun i=>i=bb) w w':=by
 have D:w.cell? ⟨V,0,none⟩=some (IP (some ⟨e,0,none⟩)):=by rw[J0 h.var];rfl
 have C:w.cell? ⟨e,7,none⟩=some (IP (some ⟨bb,0,none⟩)):=by rw[J0 h.eng];exact h.c7
 have ht:=Uo bb st dy an la p w h.bands
 have u:H9 p 1=true:=by rw[DF];omega
 rw[u]at ht
 simp only[if_true]at ht
 have y:=Q0 ht
 clear h ht u hp
 go_enter func96,ntmps96
 go_wp2_with fail
 refine y.mono ?_
 rintro j w2 ⟨rfl,v,hk⟩
 go_wp2_with fail
 refine BP (KW rfl _ _ _) rfl ?_
 exact⟨rfl,v,hk⟩
theorem Hs (e bb bk V:Nat) (cs:Array Value) (st dy an:Int):
  YA (SL e bb bk V cs st dy an) (fun la p=>ZK st dy an la p) (fun _ p=>p) (fun _=>0) 95 96 #[IP (some ⟨bb,0,none⟩)] #[] #[IP (some ⟨V,0,none⟩)] 119 (IP (some ⟨bk,0,none⟩)) .nilIface where
 keep:=by
  rintro s L1 L2 F w w' S ⟨G,h⟩ hk hF;have hf: ∀i,(G i\/i=bb\/i=e\/i=V)-> ¬S i:=fun i hi=>hF i ((h.fp i).2 hi)
  exact⟨G,h.book.keeps hk (fun i hi=>hf i (.inl hi)),X0 h.bands hk (hf bb (by simp)),X0 h.eng hk (hf e (by simp)),X0 h.var hk (hf V (by simp)),h.fp,h.gb,h.ge,h.gv,h.be,h.bv,h.c7⟩
 lt:=by
  rintro s L1 L2 F w ⟨G,h⟩ i hi;rcases(h.fp i).1 hi with h1|rfl|rfl|rfl
  ·exact h.book.fp h1
  ·exact J5 h.bands
  ·exact J5 h.eng
  exact J5 h.var
 ok:=by
  rintro s L1 L2 F w ⟨G,h⟩;exact h.book.lists
 allows:=by
  rintro s L1 L2 F w p ⟨G,h⟩-;exact Qj6 bb st dy an s p w h.bands
 trades:=by
  rintro s L1 L2 F w p ⟨G,h⟩ hp-;refine(Ql4 h p hp).mono ?_;rintro ev w' ⟨rfl,hb,hk⟩;refine⟨rfl,F,⟨G,h.book.keeps hk (fun i hi hie=>h.gb (by have e1:i=bb:=hie;exact e1▸hi)),hb,X0 h.eng hk (fun x=>h.be x.symm),X0 h.var hk (fun x=>h.bv x.symm),h.fp,h.gb,h.ge,h.gv,h.be,h.bv,h.c7⟩,hk.mono (fun i hi=>(h.fp i).2 (.inr (.inl hi))),fun i hi=> .inl hi⟩
 cut:=by
  rintro s L1 L2 F w x n ⟨G,h⟩ hx h1 h2;have hok:JJ x:=h.book.lists.ok x (FP hx);have hxq:=hok.2.2.2.2;refine(Dn w bk G L1 L2 h.book x.id n (by unfold G8;omega)).mono ?_;rintro ev w' (⟨h3,rfl,hb⟩|⟨o,h3,h4,h5,rfl,G',hB,hk,hg⟩)
  ·exfalso
   apply h3;unfold BH;rw[hx];exact Q3 (by omega)
  rw[hx]at h3
  cases h3;have l1:=J5 h.bands;have l2:=J5 h.eng;have l3:=J5 h.var;have n: ∀i,i<w.heap.size-> ¬G i-> ¬G' i:=fun i hi hn hG=>by
   rcases hg i hG with e1|e1
   ·exact hn e1
   omega
  refine⟨rfl,fun i=>G' i\/i=bb\/i=e\/i=V,⟨G',hB,X0 h.bands hk h.gb,X0 h.eng hk h.ge,X0 h.var hk h.gv,fun i=>ZP,n _ l1 h.gb,n _ l2 h.ge,n _ l3 h.gv,h.be,h.bv,h.c7⟩,hk.mono (fun i hi=>(h.fp i).2 (.inl hi)),fun i hi=> ?_⟩;rcases hi with hi|hi
  ·rcases hg i hi with e1|e1
   ·exact .inl ((h.fp i).2 (.inl e1))
   exact .inr e1
  exact .inl ((h.fp i).2 (.inr hi))
 cnt_:=fun s p=>V5 _
 ega:=XH func95 (by kernel_rfl) rfl
 egt:=XH func96 (by kernel_rfl) rfl
theorem V1.meetTo {w w' e cs tb bb bk im T tc Al lc lv bu se Ap pc es mc G own g m M1 M2 la G2 S}
  (h:V1 w e cs tb bb bk im T tc Al lc lv bu se Ap pc es mc G own g m) (hk:Q6 S w w') (J: ∀i,S i->G i\/i=bb\/i=e\/ ∀k,¬own i k) (y:QY w' bk G2 M1 M2) (D:XN w' bb m.st m.dy m.an la) (E:Q1 w' e 103 cs) (C: ∀i,G2 i->G i\/w.heap.size<=i):
  V1 w' e cs tb bb bk im T tc Al lc lv bu se Ap pc es mc G2 (JQ w own G2 4) g {m with L1:=M1,L2:=M2,la:=la}:=by
 have f: ∀ {i k},own i k->k≠4->k≠3->k≠1-> ¬S i:=fun {i k} j h4 h3 h1 hs=>by
  rcases J i hs with x|x|x|x
  ·exact h4 (h.ok.uni _ _ _ j (h.oG i x))
  ·exact h3 (h.ok.uni _ _ _ j (x▸h.ob))
  ·exact h1 (h.ok.uni _ _ _ j (x▸h.oe))
  exact x k j
 have n: ∀ {i k},own i k->JQ w own G2 4 i k:=fun j=> .inl j
 have u:=h.ind
 refine⟨⟨E,u.c0,u.c1,u.c2,u.row.keeps hk (fun i j=>f (h.ol i j) (by decide) (by decide) (by decide)),u.na,u.ok⟩,⟨h.ec.sz,h.ec.c4,h.ec.c5,h.ec.c6,h.ec.c7,h.ec.c8,h.ec.c12,h.ec.c13,h.ec.c14,h.ec.c15,h.ec.c16,h.ec.c17⟩,h.is,T8 h.tabl hk.size,(hk.cell (p:=⟨tb,0,none⟩) h.tabl (f h.ot (by decide) (by decide) (by decide))).trans h.tabc,h.tabp.keeps hk (fun i j=>f (h.oT i j) (by decide) (by decide) (by decide)),D,y,h.park.keeps hk (fun i j=>f (h.op i j) (by decide) (by decide) (by decide)),h.map_.of_block (hk.block _ h.map_.lt (f h.oi (by decide) (by decide) (by decide))),h.keys,h.ids,h.ok.new_ hk.size (fun i j=>y.fp j) 4,n h.oe,n h.ot,fun i j=>n (h.oT i j),n h.ob,fun i j=> ?_,fun i j=>n (h.ol i j),fun i j=>n (h.op i j),n h.oi⟩
 rcases C i j with v|v
 ·exact n (h.oG i v)
 exact .inr ⟨v,j,rfl⟩
def SN (own:Nat->Nat->Prop) (V X:Nat) (A:Option Addr) (Y:Nat):Prop:=(∀k,¬own Y k)/\Y≠V/\Y≠X/\Q7 A≠some Y
structure AY (w1 wr:World) (e tb bb bk im V X:Nat) (cs:Array Value) (T:Option Addr) (tc:Nat) (Al:Option Addr) (lc:Nat) (lv:List X4) (bu se:Int) (Ap:Option Addr) (pc:Nat) (es:List MapEntry) (mc:Nat) (own:Nat->Nat->Prop) (g:Int->Option Int->Int) (A:Option Addr) (c:Nat) (F:List B5) (ob:Array Value) (m1:X7) (G2:Nat->Prop):Prop where
 eng:V1 wr e cs tb bb bk im T tc Al lc lv bu se Ap pc es mc G2 (JQ w1 own G2 4) g m1
 keep:Q6 (fun i=>(∃k,own i k)\/i=V) w1 wr
 row:J2 wr A F.length c 89 4 (Q9 D8 F)
 fA: ∀i,Q7 A=some i->w1.heap.size<=i/\ ¬G2 i
 var:Q1 wr V 37 #[IP (some ⟨e,0,none⟩)]
 box:Q1 wr X 29 ob
 o1:FC w1 own
 nv:(∀k,¬own V k)/\(∀k,¬own X k)/\V≠X/\V<w1.heap.size/\X<w1.heap.size
section
variable {w1 wr w':World} {e tb bb bk im V X:Nat} {cs:Array Value} {T:Option Addr} {tc:Nat} {Al:Option Addr} {lc:Nat} {lv:List X4} {bu se:Int} {Ap:Option Addr} {pc:Nat} {es:List MapEntry} {mc:Nat} {G:Nat->Prop} {own:Nat->Nat->Prop} {g:Int->Option Int->Int} {A:Option Addr} {c:Nat} {Fs:List B5} {ob:Array Value} {m m1:X7} {G2:Nat->Prop}
theorem AY.below (h:AY w1 wr e tb bb bk im V X cs T tc Al lc lv bu se Ap pc es mc own g A c Fs ob m1 G2) (i:Below wr.heap.size wr w'):AY w1 w' e tb bb bk im V X cs T tc Al lc lv bu se Ap pc es mc own g A c Fs ob m1 G2:=
 ⟨h.eng.below i,h.keep.then_ i,h.row.below i,h.fA,J4 h.var i,J4 h.box i,h.o1,h.nv⟩
theorem AY.far (h:AY w1 wr e tb bb bk im V X cs T tc Al lc lv bu se Ap pc es mc own g A c Fs ob m1 G2) {Y} (i:wr.heap.size<=Y):SN (JQ w1 own G2 4) V X A Y:=
 ⟨fun k hk=>by have:=h.eng.ok.lt Y k hk;omega,fun x=>by have:=J5 h.var;omega,fun x=>by have:=J5 h.box;omega,fun x=>by have:=h.row.lt x;omega⟩
theorem AY.keepY (h:AY w1 wr e tb bb bk im V X cs T tc Al lc lv bu se Ap pc es mc own g A c Fs ob m1 G2) {Y} (hk:Q6 (fun i=>i=Y) wr w') (v:SN (JQ w1 own G2 4) V X A Y) (C:w1.heap.size<=Y):AY w1 w' e tb bb bk im V X cs T tc Al lc lv bu se Ap pc es mc own g A c Fs ob m1 G2:=
 ⟨h.eng.keeps hk (fun i k j y=>v.1 k (by have u:i=Y:=y;exact u▸j)),h.keep.trans hk (fun i j=> .inr (by have u:i=Y:=j;omega)),h.row.keeps hk (fun i j y=>v.2.2.2 (by have u:i=Y:=y;exact u▸j)),h.fA,X0 h.var hk (fun x=>v.2.1 x.symm),X0 h.box hk (fun x=>v.2.2.1 x.symm),h.o1,h.nv⟩
theorem AY.cells {a1 a2 a3 a4 a5} (h:AY w1 wr e tb bb bk im V X cs T tc Al lc lv bu se Ap pc es mc own g A c Fs #[a1,a2,a3,a4,a5] m1 G2):
  wr.cell? ⟨V,0,none⟩=some (IP (some ⟨e,0,none⟩))/\wr.cell? ⟨e,8,none⟩=some (IP (some ⟨bk,0,none⟩))/\wr.cell? ⟨e,7,none⟩=some (IP (some ⟨bb,0,none⟩))/\wr.cell? ⟨X,0,none⟩=some a1/\wr.cell? ⟨X,1,none⟩=some a2/\wr.cell? ⟨X,2,none⟩=some a3/\wr.cell? ⟨X,3,none⟩=some a4/\wr.cell? ⟨X,4,none⟩=some a5:=
 ⟨by rw[J0 h.var];rfl,h.eng.cell h.eng.ec.c8,h.eng.cell h.eng.ec.c7,by rw[J0 h.box];rfl,by rw[J0 h.box];rfl,by rw[J0 h.box];rfl,by rw[J0 h.box];rfl,by rw[J0 h.box];rfl⟩
def kF (G:Nat->Prop) (bb e V:Nat) (i:Nat):Prop:=G i\/i=bb\/i=e\/i=V
theorem Xj {W w4 M1 M2 F' r o} (h:V1 w1 e cs tb bb bk im T tc Al lc lv bu se Ap pc es mc G own g m) (hV:Q1 w1 V 37 #[IP (some ⟨e,0,none⟩)]) (hX:Q1 w1 X 29 ob) (v:(∀k,¬own V k)/\(∀k,¬own X k)/\V≠X) (hb:Below w1.heap.size w1 W) (a1:Z4 o.side) (hr:D9 m o=r)
  (u:VC (SL e bb bk V cs m.st m.dy m.an) W w4 r.st (kF G bb e V) F' M1 M2 A c r.fills) (C:X6 o.side M1 M2=X6 o.side m.L1 m.L2) (D:X6 (3-o.side) M1 M2=r.rest):
  ∃G2,AY w1 w4 e tb bb bk im V X cs T tc Al lc lv bu se Ap pc es mc own g A c r.fills ob (XU m o) G2/\ ∀i t J,Q1 W i t J->w1.heap.size<=i->Q1 w4 i t J/\SN (JQ w1 own G2 4) V X A i:=by
 obtain⟨G2,hk⟩:=u.mk_
 have hW:=hb.size
 have Z:=J5 hV
 have lX:=J5 hX
 have a0: ∀i,kF G bb e V i->i<w1.heap.size:=fun i j=>by
  rcases j with x|x|x|x
  ·exact h.book.fp x
  ·exact x▸J5 h.bands
  ·exact x▸J5 h.ind.blk
  exact x▸Z
 have E:Q6 (kF G bb e V) w1 w4:=(U1 hb _).trans u.step.1 (fun i j=> .inl j)
 have a2: ∀i,G2 i->G i\/w1.heap.size<=i:=fun i j=>by
  rcases u.step.2 i ((hk.fp i).2 (.inl j))with x|x
  ·rcases x with x|x|x|x
   ·exact .inl x
   ·exact absurd j (x▸hk.gb)
   ·exact absurd j (x▸hk.ge)
   exact absurd j (x▸hk.gv)
  exact .inr (by omega)
 have e1:({m with L1:=M1,L2:=M2,la:=r.st}:X7)=XU m o:=by
  unfold XU;rw[hr];have hL:M1=(if o.side=1 then m.L1 else r.rest)/\M2=(if o.side=1 then r.rest else m.L2):=by
   rcases a1 with N|N
   ·rw[N]at C D|-
    rw[Q5 rfl,Q5 rfl];exact⟨C,D⟩
   rw[N]at C D|-;rw[Q3 (by decide),Q3 (by decide)];exact⟨D,C⟩
  rw[<-hL.1,<-hL.2]
 have hE:=h.meetTo E (fun i j=>by
  rcases j with x|x|x|x
  ·exact .inl x
  ·exact .inr (.inl x)
  ·exact .inr (.inr (.inl x))
  exact .inr (.inr (.inr (x▸v.1)))) hk.book hk.bands hk.eng a2
 rw[e1]at hE
 have fX: ¬kF G bb e V X:=by
  rintro(x|x|x|x)
  ·exact v.2.1 4 (h.oG X x)
  ·exact v.2.1 3 (x▸h.ob)
  ·exact v.2.1 1 (x▸h.oe)
  exact v.2.2 x.symm
 have hA: ∀i,Q7 A=some i->w1.heap.size<=i/\ ¬G2 i:=fun i j=>⟨G0 hW (u.fpA i j).2,fun x=>(u.fpA i j).1 ((hk.fp i).2 (.inl x))⟩
 refine⟨G2,⟨hE,E.mono (fun i j=> ?_),u.row,hA,hk.var,X0 hX E fX,h.ok,v.1,v.2.1,v.2.2,Z,lX⟩,fun i t J U j=>⟨X0 U u.step.1 (fun x=>by have:=a0 i x;omega),fun k a3=> ?_,by omega,by omega,fun x=>by have:=(u.fpA i x).2;have:=J5 U;omega⟩⟩
 ·rcases j with x|x|x|x
  ·exact .inl ⟨4,h.oG i x⟩
  ·exact .inl ⟨3,x▸h.ob⟩
  ·exact .inl ⟨1,x▸h.oe⟩
  exact .inr x
 rcases a3 with x|⟨-,x,-⟩
 ·have:=h.ok.lt i k x;omega
 rcases u.step.2 i ((hk.fp i).2 (.inl x))with y|y
 ·have:=a0 i y;omega
 have:=J5 U;omega
