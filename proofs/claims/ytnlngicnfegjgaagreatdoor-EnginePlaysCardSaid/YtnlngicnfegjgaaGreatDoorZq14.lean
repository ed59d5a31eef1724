/- Parts. -/
import Derived.Test.YtnlngicnfegjgaaGreatDoorZq13
set_option linter.unusedVariables false
set_option maxRecDepth 100000
set_option maxHeartbeats 8000000
open Go.Proofs.Tryz
open Go.Value renaming int→I,pointer→IP
open Go.IntKind renaming i64→O
namespace Go.Proofs.YtnlngicnfegjgaaGreatDoor
open Go.RowKit
structure HS where
 mA:Option Addr
 mc:Nat
 qA:Option Addr
 qc:Nat
 ms:List HO
 qs:List QG
def HS.all (h:HS):List HO:=D2 h.ms h.qs
def HS.L (h:HS):List Q8:=U6 h.all
def AM (h:HS) (i:Nat):Prop:=Q7 h.mA=some i\/Q7 h.qA=some i\/ ∃q∈h.qs,Q7 q.A=some i
def Z4 (s:Int):Prop:=s=1\/s=2
structure GL (w:World) (reg:Nat->Int) (s:Int) (h:HS):Prop where
 rm:J2 w h.mA h.ms.length h.mc 186 2 (Q9 E8 (A6 h.ms))
 rq:J2 w h.qA h.qs.length h.qc 214 2 (Q9 U2 (h.qs.map QG.que))
 rl: ∀q∈h.qs,J2 w q.A q.os.length q.c 186 2 (Q9 E8 (A6 q.os))
 gm: ∀g,Q7 h.mA=some g->reg g=s*10+1
 gq: ∀g,Q7 h.qA=some g->reg g=s*10+2
 gl: ∀q∈h.qs,∀g,Q7 q.A=some g->reg g=s*10+3
 nd:(h.qs.filterMap fun q=>Q7 q.A).Nodup
section
variable {w w':World} {reg reg':Nat->Int} {s:Int} {h:HS}
theorem GL.fp (H:GL w reg s h) {i} (j:AM h i):i<w.heap.size/\(reg i=s*10+1\/reg i=s*10+2\/reg i=s*10+3):=by
 rcases j with j|j|⟨q,u,j⟩
 ·exact⟨H.rm.lt j,.inl (H.gm i j)⟩
 ·exact⟨H.rq.lt j,.inr (.inl (H.gq i j))⟩
 exact⟨(H.rl q u).lt j,.inr (.inr (H.gl q u i j))⟩
theorem GL.later {S} (H:GL w reg s h) (hk:Q6 S w w') (y: ∀i,S i->i<w.heap.size->reg i≠s*10+1/\reg i≠s*10+2/\reg i≠s*10+3) (C: ∀i,i<w.heap.size->reg' i=reg i):GL w' reg' s h:=by
 refine⟨H.rm.keeps hk ?_,H.rq.keeps hk ?_,fun q u=>(H.rl q u).keeps hk ?_,fun g j=>(C g (H.rm.lt j)).trans (H.gm g j),fun g j=>(C g (H.rq.lt j)).trans (H.gq g j),fun q u g j=>(C g ((H.rl q u).lt j)).trans (H.gl q u g j),H.nd⟩
 ·intro g j v;exact(y g v (H.rm.lt j)).1 (H.gm g j)
 ·intro g j v;exact(y g v (H.rq.lt j)).2.1 (H.gq g j)
 intro g j v;exact(y g v ((H.rl q u).lt j)).2.2 (H.gl q u g j)
end
def ZG (s:Int):Nat:=if s=1 then 2 else 4
def VU (a r:Nat) (H:Int->HS):Array Value:=
 #[IP (some ⟨a,0,none⟩),.map (some r),.slice (H 1).mA (H 1).ms.length (H 1).mc,.slice (H 1).qA (H 1).qs.length (H 1).qc,.slice (H 2).mA (H 2).ms.length (H 2).mc,.slice (H 2).qA (H 2).qs.length (H 2).qc]
def M7 (H:Int->HS) (s:Int) (h:HS):Int->HS:=fun s'=>if s'=s then h else H s'
theorem QV H s h:M7 H s h s=h:=Q5 rfl
theorem XK {H s s' h} (e:s'≠s):M7 H s h s'=H s':=Q3 e
structure Z9 (w:World) (b a:Nat) (F:Nat->Prop) (M:Int->Int->Option Q8) (n r:Nat) (f:Int->Option Value) (H:Int->HS) (reg:Nat->Int):Prop where
 blk:Q1 w b 157 (VU a r H)
 ar:VL w a F M 100 n
 mp:P7 w r f
 hx: ∀s,Z4 s->GL w reg s (H s)
 gb:reg b=1
 gr:reg r=2
 gF: ∀i,F i->reg i=3
def V0 (b r:Nat) (F:Nat->Prop) (H:Int->HS) (i:Nat):Prop:=i=b\/i=r\/F i\/AM (H 1) i\/AM (H 2) i
def Z3 (w w':World) (G G':Nat->Prop):Prop:=Q6 G w w'/\ ∀i,G' i->G i\/w.heap.size<=i
theorem Z3.trans {w w1 w2 G G1 G2} (h:Z3 w w1 G G1) (k:Z3 w1 w2 G1 G2):Z3 w w2 G G2:=by
 have v:=h.1.size
 refine⟨h.1.trans k.1 h.2,fun i u=> ?_⟩
 rcases k.2 i u with j|j
 ·exact h.2 i j
 exact .inr (by omega)
theorem Z3.of_below {w w' G} (h:Below w.heap.size w w'):Z3 w w' G G:=⟨U1 h _,fun i h=> .inl h⟩
abbrev C1:=@Z3.of_below
section
variable {w w':World} {b a n r:Nat} {F:Nat->Prop} {M:Int->Int->Option Q8} {f:Int->Option Value} {H:Int->HS} {reg:Nat->Int}
theorem Z9.cells (h:Z9 w b a F M n r f H reg):w.cell? ⟨b,0,none⟩=some (IP (some ⟨a,0,none⟩))/\w.cell? ⟨b,1,none⟩=some (.map (some r))/\
  w.cell? ⟨b,2,none⟩=some (.slice (H 1).mA (H 1).ms.length (H 1).mc)/\w.cell? ⟨b,3,none⟩=some (.slice (H 1).qA (H 1).qs.length (H 1).qc)/\
  w.cell? ⟨b,4,none⟩=some (.slice (H 2).mA (H 2).ms.length (H 2).mc)/\w.cell? ⟨b,5,none⟩=some (.slice (H 2).qA (H 2).qs.length (H 2).qc):=by
 refine⟨?_, ?_, ?_, ?_, ?_, ?_⟩<;>(rw[J0 h.blk];rfl)
theorem Z9.fp (h:Z9 w b a F M n r f H reg) {i} (j:V0 b r F H i):i<w.heap.size:=by
 rcases j with rfl|rfl|j|j|j
 ·exact J5 h.blk
 ·exact h.mp.lt
 ·exact h.ar.fp j
 ·exact((h.hx 1 (.inl rfl)).fp j).1
 exact((h.hx 2 (.inr rfl)).fp j).1
theorem Z9.fpH s (u:Z4 s) {i} (j:AM (H s) i):V0 b r F H i:=by
 rcases u with rfl|rfl
 ·exact .inr (.inr (.inr (.inl j)))
 exact .inr (.inr (.inr (.inr j)))
abbrev VS:=@Z9.fpH
theorem Z9.keeps {S} (h:Z9 w b a F M n r f H reg) (hk:Q6 S w w') (j: ∀i,V0 b r F H i-> ¬S i):Z9 w' b a F M n r f H reg:=by
 refine⟨X0 h.blk hk (j b (.inl rfl)),h.ar.keeps hk (fun i C=>j i (.inr (.inr (.inl C)))),h.mp.of_block (hk.block r h.mp.lt (j r (.inr (.inl rfl)))),fun s v=> ?_,h.gb,h.gr,h.gF⟩
 have X:=h.hx s v
 exact⟨X.rm.keeps hk (fun g u=>j g (fpH s v (.inl u))),X.rq.keeps hk (fun g u=>j g (fpH s v (.inr (.inl u)))),fun q y=>(X.rl q y).keeps hk (fun g u=>j g (fpH s v (.inr (.inr ⟨q,y,u⟩)))),X.gm,X.gq,X.gl,X.nd⟩
theorem Z9.below (h:Z9 w b a F M n r f H reg) (i:Below w.heap.size w w'):Z9 w' b a F M n r f H reg:=h.keeps (U1 i (fun _=>False)) (fun _ _=>id)
theorem Z9.arena {M' n'} (h:Z9 w b a F M n r f H reg) (ht:PQ w w' a F M' 100 n'):
  ∃F' reg',Z9 w' b a F' M' n' r f H reg'/\Z3 w w' (V0 b r F H) (V0 b r F' H):=by
 obtain⟨F',C,u,v⟩:=ht
 refine⟨F',fun i=>if i<w.heap.size then reg i else 3,⟨X0 h.blk u ?_,C,h.mp.of_block (u.block r h.mp.lt ?_),fun s y=>(h.hx s y).later u ?_ (fun i j=>Q5 j), ?_, ?_, ?_⟩,u.mono (fun i j=> .inr (.inr (.inl j))), ?_⟩
 ·intro e;have:=h.gF b e;have:=h.gb;omega
 ·intro e;have:=h.gF r e;have:=h.gr;omega
 ·intro i j _
  have:=h.gF i j;rcases y with rfl|rfl<;>omega
 ·rw[Q5 (J5 h.blk)];exact h.gb
 ·rw[Q5 h.mp.lt];exact h.gr
 ·intro i j
  rcases v i j with h1|h1
  ·rw[Q5 (h.ar.fp h1)];exact h.gF i h1
  rw[Q3 (by omega)]
 rintro i (rfl|rfl|j|j|j)
 ·exact .inl (.inl rfl)
 ·exact .inl (.inr (.inl rfl))
 ·exact(v i j).imp (fun h=> .inr (.inr (.inl h))) id
 ·exact .inl (.inr (.inr (.inr (.inl j))))
 exact .inl (.inr (.inr (.inr (.inr j))))
theorem Z9.map_ {f'} (h:Z9 w b a F M n r f H reg) (ht:BY w w' r) (y:P7 w' r f'):Z9 w' b a F M n r f' H reg/\Z3 w w' (V0 b r F H) (V0 b r F H):=by
 have u:Q6 (fun i=>i=r) w w':=(Zx ht.grown).mono (fun i e=>by cases e;rfl)
 refine⟨⟨X0 h.blk u ?_,h.ar.keeps u ?_,y,fun s v=>(h.hx s v).later u ?_ (fun i j=>rfl),h.gb,h.gr,h.gF⟩,u.mono (fun i j=> .inr (.inl j)),fun i j=> .inl j⟩
 ·intro e;have:=h.gb;have:=h.gr;rw[e]at*;omega
 ·intro i j e;have:=h.gF i j;have:=h.gr;rw[e]at*;omega
 intro i j _
 have:=h.gr
 rw[j]
 rcases v with rfl|rfl<;>omega
theorem De {α:Type} {g:α->Option Nat}: ∀ {l:List α} {i k:Nat} {x:Nat} (_:(l.filterMap g).Nodup) (hi:i<l.length) (hk:k<l.length),i≠k->g l[i]=some x->g l[k]=some x->False
 | [],i,k,x,_,hi,_,_,_,_=>by simp at hi
 |a::l,i,k,x,h,hi,hk,hne,h1,h2=>by
  have ht:(l.filterMap g).Nodup:=by
   cases e:g a with
   |none=>rwa [TJ e]at h
   |some y=>rw[MH e]at h;exact(KT.1 h).2
  cases i with
  |zero=>
   cases k with
   |zero=>exact hne rfl
   |succ k=>
    have h1':g a=some x:=h1;rw[MH h1']at h;exact(KT.1 h).1 (TB.2 ⟨l[k]'(by simpa using hk),Y1 _,by simpa using h2⟩)
  |succ i=>
   cases k with
   |zero=>
    have h2':g a=some x:=h2;rw[MH h2']at h;exact(KT.1 h).1 (TB.2 ⟨l[i]'(by simpa using hi),Y1 _,by simpa using h1⟩)
   |succ k=>exact De ht (by simpa using hi) (by simpa using hk) (fun e=>hne (by rw[e])) (by simpa using h1) (by simpa using h2)
theorem Vf {α:Type} (g:α->Option Nat) (q':α): ∀(l:List α) (k:Nat) (hk:k<l.length),(l.filterMap g).Nodup->(∀x,g q'=some x->g l[k]=some x\/ ∀y∈l,g y≠some x)->((l.set k q').filterMap g).Nodup
 | [],k,hk,_,_=>by simp at hk
 |a::l,0,hk,h,hq=>by
  rw[Zt]
  cases e:g q' with
  |none=>
   rw[TJ e]
   cases e2:g a with
   |none=>rwa [TJ e2]at h
   |some y=>rw[MH e2]at h;exact(KT.1 h).2
  |some x=>
   rw[MH e];rcases hq x e with h1|h1
   ·have h1':g a=some x:=h1
    rwa [MH h1']at h
   refine KT.2 ⟨fun hx=> ?_, ?_⟩
   ·obtain⟨y,hy,hy2⟩:=TB.1 hx
    exact h1 y (EU _ hy) hy2
   cases e2:g a with
   |none=>rwa [TJ e2]at h
   |some y=>rw[MH e2]at h;exact(KT.1 h).2
 |a::l,k+1,hk,h,hq=>by
  rw[List.set_cons_succ];have hq': ∀x,g q'=some x->g (l[k]'(by simpa using hk))=some x\/ ∀y∈l,g y≠some x:=fun x hx=>(hq x hx).imp (fun h=>by simpa using h) (fun h y hy=>h y (EU _ hy))
  cases e2:g a with
  |none=>
   rw[TJ e2]at h|-;exact Vf g q' l k (by simpa using hk) h hq'
  |some y=>
   rw[MH e2]at h|-;obtain⟨h1,h2⟩:=KT.1 h;refine KT.2 ⟨fun hx=> ?_,Vf g q' l k (by simpa using hk) h2 hq'⟩;obtain⟨z,hz,hz2⟩:=TB.1 hx;rcases LV hz with hz|rfl
   ·exact h1 (TB.2 ⟨z,hz,hz2⟩)
   rcases hq y hz2 with h3|h3
   ·exact h1 (TB.2 ⟨l[k]'(by simpa using hk),Y1 _,by simpa using h3⟩)
   exact h3 a (by simp) e2
theorem Sc H {s} (y:Z4 s) i (u:i.qA=(H s).qA) (j:i.qc=(H s).qc) (v:i.qs.length=(H s).qs.length):
  (VU a r H).setIfInBounds (ZG s) (.slice i.mA i.ms.length i.mc)=VU a r (M7 H s i):=by
 rcases y with rfl|rfl
 ·unfold VU ZG
  rw[QV,XK (by decide),u,j,v]
  rfl
 unfold VU ZG
 rw[QV,XK (by decide),u,j,v]
 rfl
theorem Sd H {s} (y:Z4 s) i (u:i.mA=(H s).mA) (j:i.mc=(H s).mc) (v:i.ms.length=(H s).ms.length):
  (VU a r H).setIfInBounds (ZG s+1) (.slice i.qA i.qs.length i.qc)=VU a r (M7 H s i):=by
 rcases y with rfl|rfl
 ·unfold VU ZG
  rw[QV,XK (by decide),u,j,v]
  rfl
 unfold VU ZG
 rw[QV,XK (by decide),u,j,v]
 rfl
theorem Ss H {s} (E:Z4 s) i (C:i.mA=(H s).mA) (y:i.mc=(H s).mc) (v:i.ms.length=(H s).ms.length) (D:i.qA=(H s).qA) (j:i.qc=(H s).qc) (u:i.qs.length=(H s).qs.length):
  VU a r (M7 H s i)=VU a r H:=by
 rcases E with rfl|rfl
 ·unfold VU
  rw[QV,XK (by decide),C,y,v,D,j,u]
 unfold VU
 rw[QV,XK (by decide),C,y,v,D,j,u]
theorem Kn {s} (j:Z4 s) {h' m} (u: ∀i,AM h' i->AM (H s) i\/m<=i): ∀i,V0 b r F (M7 H s h') i->V0 b r F H i\/m<=i:=by
 rintro i (rfl|rfl|hi|hi|hi)
 ·exact .inl (.inl rfl)
 ·exact .inl (.inr (.inl rfl))
 ·exact .inl (.inr (.inr (.inl hi)))
 ·rcases j with rfl|rfl
  ·rw[QV]at hi
   exact(u i hi).imp (fun h=> .inr (.inr (.inr (.inl h)))) id
  rw[XK (by decide)]at hi;exact .inl (.inr (.inr (.inr (.inl hi))))
 rcases j with rfl|rfl
 ·rw[XK (by decide)]at hi
  exact .inl (.inr (.inr (.inr (.inr hi))))
 rw[QV]at hi
 exact(u i hi).imp (fun h=> .inr (.inr (.inr (.inr h)))) id
theorem Z9.market (h:Z9 w b a F M n r f H reg) {s} (u:Z4 s) {w3 A' c' ms'}
  (E:Q6 (fun i=>Q7 (H s).mA=some i) w w3) (hR:J2 w3 A' ms'.length c' 186 2 (Q9 E8 (A6 ms'))) (C: ∀g,Q7 A'=some g->Q7 (H s).mA=some g\/w.heap.size<=g):
  ∃reg',Z9 (w3.setCell ⟨b,ZG s,none⟩ (.slice A' ms'.length c')) b a F M n r f (M7 H s ⟨A',c',(H s).qA,(H s).qc,ms',(H s).qs⟩) reg'/\
   Z3 w (w3.setCell ⟨b,ZG s,none⟩ (.slice A' ms'.length c')) (V0 b r F H) (V0 b r F (M7 H s ⟨A',c',(H s).qA,(H s).qc,ms',(H s).qs⟩)):=by
 have X:=h.hx s u
 have a0:=J5 h.blk
 have D:=h.gb
 have N:Q7 (H s).mA≠some b:=fun e=>by have:=X.gm b e;rcases u with rfl|rfl<;>omega
 have Z:=V2 w3 ⟨b,ZG s,none⟩ (.slice A' ms'.length c')
 have hk:Q6 (fun i=>Q7 (H s).mA=some i\/i=b) w (w3.setCell ⟨b,ZG s,none⟩ (.slice A' ms'.length c')):=(E.mono (fun i h=> .inl h)).trans Z (fun i h=> .inl (.inr h))
 have y: ∀i,(Q7 (H s).mA=some i\/i=b)->reg i=s*10+1\/reg i=1:=by
  rintro i (j|rfl)
  ·exact .inl (X.gm i j)
  exact .inr D
 have a1: ∀g,Q7 A'=some g->g≠b:=by
  intro g v e;subst e;rcases C g v with h1|h1
  ·exact N h1
  omega
 refine⟨fun i=>if i<w.heap.size then reg i else s*10+1,⟨?_, ?_, ?_, ?_, ?_, ?_, ?_⟩,hk.mono ?_,Kn u ?_⟩
 ·have:=J7 (X0 h.blk E N) (ZG s) (.slice A' ms'.length c')
  rwa [Sc H u ⟨A',c',(H s).qA,(H s).qc,ms',(H s).qs⟩ rfl rfl rfl]at this
 ·refine h.ar.keeps hk (fun i j h1=> ?_)
  have:=h.gF i j;have:=y i h1;rcases u with rfl|rfl<;>omega
 ·refine h.mp.of_block (hk.block r h.mp.lt (fun h1=> ?_))
  have:=h.gr;have:=y r h1;rcases u with rfl|rfl<;>omega
 ·intro s' U
  by_cases e:s'=s
  ·subst e
   rw[QV];have Y:=X.later (reg':=fun i=>if i<w.heap.size then reg i else s'*10+1) (s:=s') (S:=fun _=>False) (Q6.refl _ w) (fun i h=>h.elim) (fun i j=>Q5 j);refine⟨hR.keeps Z (fun g v e=>a1 g v e),X.rq.keeps hk (fun g v h1=> ?_),fun q J=>(X.rl q J).keeps hk (fun g v h1=> ?_), ?_,Y.gq,Y.gl,X.nd⟩
   ·have:=X.gq g v;have:=y g h1;rcases u with rfl|rfl<;>omega
   ·have:=X.gl q J g v;have:=y g h1;rcases u with rfl|rfl<;>omega
   intro g v
   split
   ·rename_i a2
    rcases C g v with h1|h1
    ·exact X.gm g h1
    omega
   rfl
  rw[XK e];refine(h.hx s' U).later hk (fun i j _=> ?_) (fun i j=>Q5 j);have:=y i j;rcases u with rfl|rfl<;>rcases U with rfl|rfl<;>first|exact absurd rfl e|omega
 ·rw[Q5 a0];exact D
 ·rw[Q5 h.mp.lt];exact h.gr
 ·intro i j;rw[Q5 (h.ar.fp j)];exact h.gF i j
 ·rintro i (j|rfl)
  ·exact VS s u (.inl j)
  exact .inl rfl
 rintro i (j|j|j)
 ·exact(C i j).imp (fun h=> .inl h) id
 ·exact .inl (.inr (.inl j))
 exact .inl (.inr (.inr j))
theorem Z9.queues (h:Z9 w b a F M n r f H reg) {s} (v:Z4 s) {w3 A' c' qs'}
  (U:Q6 (fun i=>Q7 (H s).qA=some i) w w3) (hR:J2 w3 A' qs'.length c' 214 2 (Q9 U2 (qs'.map QG.que))) (E: ∀g,Q7 A'=some g->Q7 (H s).qA=some g\/w.heap.size<=g)
  (J: ∀q∈qs',q∈(H s).qs\/(q.A=none/\q.c=0/\q.os= [])) (a2:(qs'.filterMap fun q=>Q7 q.A).Nodup):
  ∃reg',Z9 (w3.setCell ⟨b,ZG s+1,none⟩ (.slice A' qs'.length c')) b a F M n r f (M7 H s ⟨(H s).mA,(H s).mc,A',c',(H s).ms,qs'⟩) reg'/\
   Z3 w (w3.setCell ⟨b,ZG s+1,none⟩ (.slice A' qs'.length c')) (V0 b r F H) (V0 b r F (M7 H s ⟨(H s).mA,(H s).mc,A',c',(H s).ms,qs'⟩)):=by
 have X:=h.hx s v
 have a3:=J5 h.blk
 have N:=h.gb
 have Z:Q7 (H s).qA≠some b:=fun e=>by have:=X.gq b e;rcases v with rfl|rfl<;>omega
 have a1:=V2 w3 ⟨b,ZG s+1,none⟩ (.slice A' qs'.length c')
 have hk:Q6 (fun i=>Q7 (H s).qA=some i\/i=b) w (w3.setCell ⟨b,ZG s+1,none⟩ (.slice A' qs'.length c')):=(U.mono (fun i h=> .inl h)).trans a1 (fun i h=> .inl (.inr h))
 have C: ∀i,(Q7 (H s).qA=some i\/i=b)->reg i=s*10+2\/reg i=1:=by
  rintro i (j|rfl)
  ·exact .inl (X.gq i j)
  exact .inr N
 have a4: ∀g,Q7 A'=some g->g≠b:=by
  intro g u e;subst e;rcases E g u with h1|h1
  ·exact Z h1
  omega
 refine⟨fun i=>if i<w.heap.size then reg i else s*10+2,⟨?_, ?_, ?_, ?_, ?_, ?_, ?_⟩,hk.mono ?_,Kn v ?_⟩
 ·have:=J7 (X0 h.blk U Z) (ZG s+1) (.slice A' qs'.length c')
  rwa [Sd H v ⟨(H s).mA,(H s).mc,A',c',(H s).ms,qs'⟩ rfl rfl rfl]at this
 ·refine h.ar.keeps hk (fun i j h1=> ?_)
  have:=h.gF i j;have:=C i h1;rcases v with rfl|rfl<;>omega
 ·refine h.mp.of_block (hk.block r h.mp.lt (fun h1=> ?_))
  have:=h.gr;have:=C r h1;rcases v with rfl|rfl<;>omega
 ·intro s' a0
  by_cases e:s'=s
  ·subst e
   rw[QV];have Y:=X.later (reg':=fun i=>if i<w.heap.size then reg i else s'*10+2) (s:=s') (S:=fun _=>False) (Q6.refl _ w) (fun i h=>h.elim) (fun i j=>Q5 j);refine⟨X.rm.keeps hk (fun g u h1=> ?_),hR.keeps a1 (fun g u e=>a4 g u e),fun q y=> ?_,Y.gm, ?_,fun q y=> ?_,a2⟩
   ·have:=X.gm g u;have:=C g h1;rcases v with rfl|rfl<;>omega
   ·rcases J q y with h1|⟨h1,h2,D⟩
    ·refine(X.rl q h1).keeps hk (fun g u h2=> ?_)
     have:=X.gl q h1 g u;have:=C g h2;rcases v with rfl|rfl<;>omega
    rw[h1,h2,D];exact⟨rfl,.inl ⟨rfl,rfl⟩⟩
   ·intro g u
    split
    ·rename_i a5
     rcases E g u with h1|h1
     ·exact X.gq g h1
     omega
    rfl
   rcases J q y with h1|⟨h1,h2,D⟩
   ·exact Y.gl q h1
   intro g u;rw[h1]at u
   cases u
  rw[XK e];refine(h.hx s' a0).later hk (fun i j _=> ?_) (fun i j=>Q5 j);have:=C i j;rcases v with rfl|rfl<;>rcases a0 with rfl|rfl<;>first|exact absurd rfl e|omega
 ·rw[Q5 a3];exact N
 ·rw[Q5 h.mp.lt];exact h.gr
 ·intro i j;rw[Q5 (h.ar.fp j)];exact h.gF i j
 ·rintro i (j|rfl)
  ·exact VS s v (.inr (.inl j))
  exact .inl rfl
 rintro i (j|j|⟨q,y,j⟩)
 ·exact .inl (.inl j)
 ·exact(E i j).imp (fun h=> .inr (.inl h)) id
 rcases J q y with h1|⟨h1,h2,D⟩
 ·exact .inl (.inr (.inr ⟨q,h1,j⟩))
 rw[h1]at j;cases j
theorem Qq4 l {k} (hk:k<l.length) A n c:(Q9 U2 l).set (k*2+1) (.slice A n c)=Q9 U2 (l.set k (l[k].1,A,n,c)):=by
 rw[<-NY JP (l[k].1,A,n,c) l k hk]
 have j:(Q9 U2 l)[k*2+0]?=some (I O l[k].1):=EM JP l k hk 0 (by omega)
 have e:(Q9 U2 l).set (k*2) (I O l[k].1)=Q9 U2 l:=by
  apply Jb;intro i;rw[List.getElem?_set]
  split
  ·rename_i u
   subst u;rw[Nat.add_zero]at j
   split
   ·rw[j]
   rw[DV (by omega)]
  rfl
 show _=UG ((Q9 U2 l).set (k*2) (I O l[k].1)) (k*2+1) [.slice A n c]
 rw[e];rfl
theorem Z9.queue (h:Z9 w b a F M n r f H reg) {s} (v:Z4 s) {w3 k} (hk:k< (H s).qs.length) {qg} (U:(H s).qA=some ⟨qg,0,none⟩) {A' c' os'}
  (hK:Q6 (fun i=>Q7 (H s).qs[k].A=some i) w w3) (hR:J2 w3 A' os'.length c' 186 2 (Q9 E8 (A6 os'))) (N: ∀g,Q7 A'=some g->Q7 (H s).qs[k].A=some g\/w.heap.size<=g):
  ∃reg',Z9 (w3.setCell ⟨qg,k*2+1,none⟩ (.slice A' os'.length c')) b a F M n r f (M7 H s ⟨(H s).mA,(H s).mc,(H s).qA,(H s).qc,(H s).ms,(H s).qs.set k ⟨(H s).qs[k].price,A',c',os'⟩⟩) reg'/\
   Z3 w (w3.setCell ⟨qg,k*2+1,none⟩ (.slice A' os'.length c')) (V0 b r F H) (V0 b r F (M7 H s ⟨(H s).mA,(H s).mc,(H s).qA,(H s).qc,(H s).ms,(H s).qs.set k ⟨(H s).qs[k].price,A',c',os'⟩⟩)):=by
 have X:=h.hx s v
 have a6:=J5 h.blk
 have gb:=h.gb
 have a1:Q7 (H s).qA=some qg:=by rw[U];rfl
 have a8:=X.rq.lt a1
 have gq:=X.gq qg a1
 have E:(H s).qs[k]∈(H s).qs:=Y1 _
 have a3:=V2 w3 ⟨qg,k*2+1,none⟩ (.slice A' os'.length c')
 have D:Q6 (fun i=>Q7 (H s).qs[k].A=some i\/i=qg) w (w3.setCell ⟨qg,k*2+1,none⟩ (.slice A' os'.length c')):=(hK.mono (fun i h=> .inl h)).trans a3 (fun i h=> .inl (.inr h))
 have J: ∀i,(Q7 (H s).qs[k].A=some i\/i=qg)->reg i=s*10+3\/reg i=s*10+2:=by
  rintro i (j|rfl)
  ·exact .inl (X.gl _ E i j)
  exact .inr gq
 have a5: ∀g,Q7 A'=some g->g≠qg:=by
  intro g u e;subst e;rcases N g u with h1|h1
  ·have:=X.gl _ E g h1;omega
  omega
 have a4: ∀q∈(H s).qs.set k ⟨(H s).qs[k].price,A',c',os'⟩,(q∈(H s).qs\/q=⟨(H s).qs[k].price,A',c',os'⟩):=fun q C=>LV C
 refine⟨fun i=>if i<w.heap.size then reg i else s*10+3,⟨?_, ?_, ?_, ?_, ?_, ?_, ?_⟩,D.mono ?_,Kn v ?_⟩
 ·rw[Ss H v ⟨(H s).mA,(H s).mc,(H s).qA,(H s).qc,(H s).ms,(H s).qs.set k ⟨(H s).qs[k].price,A',c',os'⟩⟩ rfl rfl rfl rfl rfl (by simp)]
  refine X0 h.blk D (fun h1=> ?_);have:=J b h1;rcases v with rfl|rfl<;>omega
 ·refine h.ar.keeps D (fun i j h1=> ?_)
  have:=h.gF i j;have:=J i h1;rcases v with rfl|rfl<;>omega
 ·refine h.mp.of_block (D.block r h.mp.lt (fun h1=> ?_))
  have:=h.gr;have:=J r h1;rcases v with rfl|rfl<;>omega
 ·intro s' a2
  by_cases e:s'=s
  ·subst e
   rw[QV];have Y:=X.later (reg':=fun i=>if i<w.heap.size then reg i else s'*10+3) (s:=s') (S:=fun _=>False) (Q6.refl _ w) (fun i h=>h.elim) (fun i j=>Q5 j);refine⟨X.rm.keeps D (fun g u h1=> ?_), ?_,fun q C=> ?_,Y.gm,Y.gq,fun q C=> ?_, ?_⟩
   ·have:=X.gm g u;have:=J g h1;rcases v with rfl|rfl<;>omega
   ·have R3:=X.rq.keeps hK (fun g u h1=>by have:=X.gq g u;have:=X.gl _ E g h1;omega)
    have R4:J2 w3 (some ⟨qg,0,none⟩) (H s').qs.length (H s').qc 214 2 (Q9 U2 ((H s').qs.map QG.que)):=by rw[<-U];exact R3
    have R5:=R4.set (k*2+1) (.slice A' os'.length c');rw[Qq4 _ (by simpa using hk)]at R5;have e2:((H s').qs.set k ⟨(H s').qs[k].price,A',c',os'⟩).map QG.que=((H s').qs.map QG.que).set k ((((H s').qs.map QG.que)[k]'(by simpa using hk)).1,A',os'.length,c'):=by
     rw[List.map_set];simp[QG.que]
    rw[e2,U];simpa using R5
   ·by_cases Z:q=⟨(H s').qs[k].price,A',c',os'⟩
    ·subst Z
     exact hR.keeps a3 (fun g u e=>a5 g u e)
    obtain⟨i,j,rfl⟩:=XG.1 C;have a7:i< (H s').qs.length:=by simpa using j
    by_cases a0:i=k
    ·subst a0;rw[MM]at Z;exact absurd rfl Z
    rw[PA (fun e=>a0 e.symm)];refine(X.rl _ (Y1 _)).keeps D ?_;rintro g u (h1|rfl)
    ·exact De (g:=fun q:QG=>Q7 q.A) X.nd a7 hk a0 u h1
    have:=X.gl _ (Y1 _) g u;omega
   ·intro g u
    rcases a4 q C with h1|rfl
    ·exact Y.gl q h1 g u
    split
    ·rename_i a9
     rcases N g u with h1|h1
     ·exact X.gl _ E g h1
     omega
    rfl
   refine Vf (fun q:QG=>Q7 q.A) _ _ k hk X.nd (fun x hx=> ?_);rcases N x hx with h1|h1
   ·exact .inl h1
   exact .inr (fun y hy e=>by have:=(X.rl y hy).lt e;omega)
  rw[XK e];refine(h.hx s' a2).later D (fun i j _=> ?_) (fun i j=>Q5 j);have:=J i j;rcases v with rfl|rfl<;>rcases a2 with rfl|rfl<;>first|exact absurd rfl e|omega
 ·rw[Q5 a6];exact gb
 ·rw[Q5 h.mp.lt];exact h.gr
 ·intro i j;rw[Q5 (h.ar.fp j)];exact h.gF i j
 ·rintro i (j|rfl)
  ·exact VS s v (.inr (.inr ⟨_,E,j⟩))
  exact VS s v (.inr (.inl a1))
 rintro i (j|j|⟨q,C,j⟩)
 ·exact .inl (.inl j)
 ·exact .inl (.inr (.inl j))
 rcases a4 q C with h1|rfl
 ·exact .inl (.inr (.inr ⟨q,h1,j⟩))
 exact(N i j).imp (fun h=> .inr (.inr ⟨_,E,h⟩)) id
end
def JC (x:HO):Value:= .agg #[I O x.1.1,I O x.1.2,I O x.2.side,I O x.2.price,.bool (x.2.kind ==2)]
def JJ (o:Q8):Prop:=R9 o/\1<=o.id/\(1<=o.price/\o.price<=1000000)/\(1<=o.qty/\o.qty<=1000000)
def B4 (H:Int->HS):List HO:=(H 1).all++(H 2).all
structure U3 (M:Int->Int->Option Q8) (n:Nat) (f:Int->Option Value) (H:Int->HS):Prop where
 is: ∀s,Z4 s->DM s (H s).ms (H s).qs
 ne: ∀s,Z4 s-> ∀q∈(H s).qs,q.os≠ []
 hM: ∀x∈B4 H,M x.1.1 x.1.2=some x.2
 hf: ∀x∈B4 H,f x.2.id=some (JC x)
 hk: ∀k v,f k=some v-> ∃x∈B4 H,x.2.id=k
 ids:((B4 H).map fun x=>x.2.id).Nodup
 cnt:n=(B4 H).length
 ok: ∀x∈B4 H,JJ x.2
section
variable {M:Int->Int->Option Q8} {n:Nat} {f:Int->Option Value} {H:Int->HS}
theorem PS {α β:Type} {g:α->β}: ∀ {l:List α},(l.map g).Nodup-> ∀ {x y:α},x∈l->y∈l->g x=g y->x=y
 | [],_,x,y,hx,_,_=>by simp at hx
 |a::l,h,x,y,hx,hy,e=>by
  rw[S6,KT]at h;rcases D4.1 hx with rfl|hx'
  ·rcases D4.1 hy with rfl|hy'
   ·rfl
   exact absurd (U4.2 ⟨y,hy',e.symm⟩) h.1
  rcases D4.1 hy with rfl|hy'
  ·exact absurd (U4.2 ⟨x,hx',e⟩) h.1
  exact PS h.2 hx' hy' e
theorem U3.same_id (S:U3 M n f H) {x y} (i:x∈B4 H) (hy:y∈B4 H) (e:x.2.id=y.2.id):x=y:=PS (g:=fun x:HO=>x.2.id) S.ids i hy e
theorem U3.same_h (S:U3 M n f H) {x y} (i:x∈B4 H) (hy:y∈B4 H) (e:x.1=y.1):x=y:=by
 have h1:=S.hM x i
 have h2:=S.hM y hy
 rw[e,h2]at h1
 exact S.same_id i hy (by rw[KZ h1])
theorem XL {s} (j:Z4 s) {x} (i:x∈(H s).all):x∈B4 H:=by
 rcases j with rfl|rfl
 ·exact S9 _ i
 exact QB _ i
theorem U3.none_ (S:U3 M n f H) {k}:f k=none↔ ∀x∈B4 H,x.2.id≠k:=by
 constructor
 ·intro h x i e
  have:=S.hf x i;rw[e,h]at this
  cases this
 intro h
 cases e:f k with
 |none=>rfl
 |some v=>
  obtain⟨x,i,h2⟩:=S.hk k v e;exact absurd h2 (h x i)
theorem U3.side_of (S:U3 M n f H) {s} (i:Z4 s) {x} (j:x∈(H s).all):x.2.side=s:=by
 rcases Y7.1 j with h|h
 ·exact((S.is s i).mkt x h).2
 obtain⟨q,u,v⟩:=FT.1 h
 exact((S.is s i).qk q u x v).2.1
theorem U3.side_mem (S:U3 M n f H) {x} (i:x∈B4 H):Z4 x.2.side/\x∈(H x.2.side).all:=by
 rcases Y7.1 i with h|h
 ·rw[S.side_of (.inl rfl) h];exact⟨.inl rfl,h⟩
 rw[S.side_of (.inr rfl) h];exact⟨.inr rfl,h⟩
theorem U3.add (S:U3 M n f H) {s} (J:Z4 s) {x h'} (hp:h'.all.Perm (x:: (H s).all)) (Z:DM s h'.ms h'.qs) (E: ∀q∈h'.qs,q.os≠ []) (hM:M x.1.1 x.1.2=none) (N:f x.2.id=none) (a0:JJ x.2):
  U3 (W8 M x.1.1 x.1.2 (some x.2)) (n+1) (D0 f x.2.id (some (JC x))) (M7 H s h'):=by
 have i:(B4 (M7 H s h')).Perm (x::B4 H):=by
  unfold B4;rcases J with rfl|rfl
  ·rw[QV,XK (by decide)]
   exact hp.append_right _
  rw[QV,XK (by decide)];exact(hp.append_left _).trans Jd
 have C:=S.none_.1 N
 have D: ∀y∈B4 H,¬(y.1.1=x.1.1/\y.1.2=x.1.2):=by
  rintro y hy ⟨e1,e2⟩;have:=S.hM y hy;rw[e1,e2,hM]at this
  cases this
 refine⟨fun s' u=> ?_,fun s' u=> ?_,fun y hy=> ?_,fun y hy=> ?_,fun k v j=> ?_, ?_, ?_,fun y hy=> ?_⟩
 ·by_cases e:s'=s
  ·subst e;rw[QV];exact Z
  rw[XK e];exact S.is s' u
 ·by_cases e:s'=s
  ·subst e;rw[QV];exact E
  rw[XK e];exact S.ne s' u
 ·rcases D4.1 (i.mem_iff.1 hy)with rfl|hy
  ·exact Q5 ⟨rfl,rfl⟩
  unfold W8;rw[Q3 (D y hy)];exact S.hM y hy
 ·rcases D4.1 (i.mem_iff.1 hy)with rfl|hy
  ·exact Q5 rfl
  unfold D0;rw[Q3 (C y hy)];exact S.hf y hy
 ·unfold D0 at j
  by_cases e:k=x.2.id
  ·exact⟨x,i.mem_iff.2 (by simp),e.symm⟩
  rw[Q3 e]at j;obtain⟨y,hy,h2⟩:=S.hk k v j;exact⟨y,i.mem_iff.2 (EU _ hy),h2⟩
 ·rw[(i.map _).nodup_iff,S6,KT]
  refine⟨fun U=> ?_,S.ids⟩;obtain⟨y,hy,e⟩:=U4.1 U;exact C y hy e
 ·rw[i.length_eq,XX,S.cnt]
 rcases D4.1 (i.mem_iff.1 hy)with rfl|hy
 ·exact a0
 exact S.ok y hy
def B3 (h:Int×Int) (y:HO):Bool:= !PK h y.1
theorem GF {h y}:B3 h y=true↔y.1≠h:=by
 unfold B3
 rw[Bool.not_eq_true',<-Bool.not_eq_true,Ne,<-Jl0]
theorem U3.filter_id (S:U3 M n f H) {x} (i:x∈B4 H) {s} (u:Z4 s):U6 ((H s).all.filter (B3 x.1))=D1 (H s).L x.2.id:=by
 unfold HS.L D1 U6
 rw[Jh]
 congr 1
 apply List.filter_congr
 intro y hy
 have j:=XL u hy
 rw[Jg,GF]
 simp only[Function.comp,Bool.not_eq_true',beq_eq_false_iff_ne]
 constructor
 ·intro h e;exact h (by rw[S.same_id j i e])
 intro h e;exact h (by rw[S.same_h j i e])
theorem U3.filter_other (S:U3 M n f H) {x s s'} (j:Z4 s) (u:Z4 s') (i:x∈(H s).all) (v:s'≠s):(H s').all.filter (B3 x.1)=(H s').all:=by
 rw[KR]
 intro y hy
 rw[GF]
 intro e
 have:=S.same_h (XL u hy) (XL j i) e
 subst this
 exact v ((S.side_of u hy).symm.trans (S.side_of j i))
theorem Qh9 {l:List HO} {x} (u:x∈l) (h: ∀y∈l,y.1=x.1->y=x) (i:l.Nodup):(l.filter (B3 x.1)).length+1=l.length:=by
 obtain⟨l1,l2,rfl⟩:=List.append_of_mem u
 rw[YX]at i
 have h2:=KT.1 i.2.1
 have C:l1.filter (B3 x.1)=l1:=by
  rw[KR];intro y hy;rw[GF];intro e;exact i.2.2 y hy x (by simp) (h y (by simp[hy]) e)
 have j:l2.filter (B3 x.1)=l2:=by
  rw[KR];intro y hy;rw[GF];intro e;exact h2.1 (by rw[<-h y (by simp[hy]) e];exact hy)
 have v:B3 x.1 x=false:=by
  rw[<-Bool.not_eq_true,GF];simp
 rw[QL,CF (by simp[v]),C,j]
 simp
 omega
theorem U3.remove (S:U3 M n f H) {s} (J:Z4 s) {x} (D:x∈(H s).all) {h'} (N:h'.all=(H s).all.filter (B3 x.1)) (hi:DM s h'.ms h'.qs) (U: ∀q∈h'.qs,q.os≠ []):
  U3 (W8 M x.1.1 x.1.2 none) (n-1) (D0 f x.2.id none) (M7 H s h'):=by
 have u:=XL J D
 have j:B4 (M7 H s h')=(B4 H).filter (B3 x.1):=by
  unfold B4;rw[QL];rcases J with rfl|rfl
  ·rw[QV,XK (by decide),N,S.filter_other (.inl rfl) (.inr rfl) D (by decide)]
  rw[QV,XK (by decide),N,S.filter_other (.inr rfl) (.inl rfl) D (by decide)]
 have E: ∀y,y∈B4 (M7 H s h')->y∈B4 H/\y.1≠x.1:=by
  intro y hy;rw[j,P3,GF]at hy;exact hy
 have Z:(B4 H).Nodup:=List.Pairwise.imp (fun h e=>h (by rw[e])) (TE.1 S.ids)
 refine⟨fun s' C=> ?_,fun s' C=> ?_,fun y hy=> ?_,fun y hy=> ?_,fun k v i=> ?_, ?_, ?_,fun y hy=> ?_⟩
 ·by_cases e:s'=s
  ·subst e;rw[QV];exact hi
  rw[XK e];exact S.is s' C
 ·by_cases e:s'=s
  ·subst e;rw[QV];exact U
  rw[XK e];exact S.ne s' C
 ·obtain⟨h1,h2⟩:=E y hy
  unfold W8;rw[Q3 (fun e=>h2 (Prod.ext e.1 e.2))];exact S.hM y h1
 ·obtain⟨h1,h2⟩:=E y hy
  unfold D0;rw[Q3 (fun e=>h2 (by rw[S.same_id h1 u e]))];exact S.hf y h1
 ·unfold D0 at i
  by_cases e:k=x.2.id
  ·rw[Q5 e]at i;cases i
  rw[Q3 e]at i;obtain⟨y,hy,h2⟩:=S.hk k v i;refine⟨y, ?_,h2⟩;rw[j,P3,GF];exact⟨hy,fun e2=>e (by rw[<-h2,S.same_h hy u e2])⟩
 ·rw[j]
  exact TA (List.Sublist.map _ Zr) S.ids
 ·rw[j]
  have:=Qh9 u (fun y hy e=>S.same_h hy u e) Z;have:=S.cnt;omega
 exact S.ok y (E y hy).1
end
def QY (w:World) (b:Nat) (G:Nat->Prop) (L1 L2:List Q8):Prop:=
 ∃a F M n r f H reg,Z9 w b a F M n r f H reg/\U3 M n f H/\(∀i,G i↔V0 b r F H i)/\L1=(H 1).L/\L2=(H 2).L
def FX (w w':World) (b:Nat) (G:Nat->Prop) (L1 L2:List Q8):Prop:= ∃G',QY w' b G' L1 L2/\Z3 w w' G G'
def X6 (s:Int) (L1 L2:List Q8):List Q8:=if s=1 then L1 else L2
section
variable {w w':World} {b:Nat} {G:Nat->Prop} {L1 L2:List Q8}
theorem QY.fp (h:QY w b G L1 L2) {i} (u:G i):i<w.heap.size:=by
 obtain⟨a,F,M,n,r,f,H,reg,v,y,j,_⟩:=h
 exact v.fp ((j i).1 u)
theorem QY.keeps {S} (h:QY w b G L1 L2) (hk:Q6 S w w') (u: ∀i,G i-> ¬S i):QY w' b G L1 L2:=by
 obtain⟨a,F,M,n,r,f,H,reg,C,y,j,v⟩:=h
 exact⟨a,F,M,n,r,f,H,reg,C.keeps hk (fun i D=>u i ((j i).2 D)),y,j,v⟩
theorem QY.below (h:QY w b G L1 L2) (i:Below w.heap.size w w'):QY w' b G L1 L2:=h.keeps (U1 i (fun _=>False)) (fun _ _=>id)
structure B8 (L1 L2:List Q8):Prop where
 ids:((L1++L2).map (·.id)).Nodup
 cnt:(L1++L2).length<=100
 ok: ∀o∈L1++L2,JJ o
 s1: ∀o∈L1,o.side=1
 s2: ∀o∈L2,o.side=2
theorem Qb9 l:(U6 l).map (·.id)=l.map fun x=>x.2.id:=by simp[U6]
theorem QY.lists (h:QY w b G L1 L2):B8 L1 L2:=by
 obtain⟨a,F,M,n,r,f,H,reg,v,j,y,rfl,rfl⟩:=h
 have e:(H 1).L++(H 2).L=U6 (B4 H):=(EE _ _).symm
 refine⟨?_, ?_, ?_, ?_, ?_⟩
 ·rw[e,Qb9];exact j.ids
 ·rw[e]
  have h1:=j.cnt;have h2:=v.ar.le;unfold U6;rw[MT];omega
 ·rw[e]
  intro o i;obtain⟨x,u,rfl⟩:=U4.1 i;exact j.ok x u
 ·intro o i
  obtain⟨x,u,rfl⟩:=U4.1 i;exact j.side_of (.inl rfl) u
 intro o i
 obtain⟨x,u,rfl⟩:=U4.1 i
 exact j.side_of (.inr rfl) u
end
theorem Qq5 {w1 a c d B ss fr most many gs k} (H:R0 w1 a (some ⟨gs,0,none⟩) c B d ss fr most many) (hk:k<ss.length) x:
  R0 (MF w1 gs (k*7) x) a (some ⟨gs,0,none⟩) c B d (ss.set k (x,ss[k].2.1,ss[k].2.2)) fr most many/\Q6 (JN a (some ⟨gs,0,none⟩) B) w1 (MF w1 gs (k*7) x):=by
 have j:Q6 (fun i=>i=gs) w1 (MF w1 gs (k*7) x):=Jz w1 gs (k*7) x
 have u:=Yd H.slots (k*7) x
 have v:(Q9 KL ss)[k*7+5]?=some (I O ss[k].2.1):=EM TS ss k hk 5 (by omega)
 have C:(Q9 KL ss)[k*7+6]?=some (.bool ss[k].2.2):=EM TS ss k hk 6 (by omega)
 have e0:((((((Q9 KL ss).set (k*7) (I O x.id)).set (k*7+1) (I O x.side)).set (k*7+2) (I O x.kind)).set (k*7+3) (I O x.price)).set (k*7+4) (I O x.qty))=Q9 KL (ss.set k (x,ss[k].2.1,ss[k].2.2)):=by
  refine Eq.trans ?_ (Ui ss k hk (x,ss[k].2.1,ss[k].2.2));dsimp only;rw[Yc (i:=k*7+5),Yc (i:=k*7+6)]
  ·rw[ZH (by omega),ZH (by omega),ZH (by omega),ZH (by omega),ZH (by omega)]
   exact C
  rw[ZH (by omega),ZH (by omega),ZH (by omega),ZH (by omega),ZH (by omega)];exact v
 rw[e0]at u
 refine⟨⟨?_, ?_, ?_,H.na,H.nb,H.nab⟩,j.mono (fun i h=> .inr (.inl (by rw[h];rfl)))⟩
 ·rw[QN];exact X0 H.blk j (fun h=>H.na (E7 some h.symm))
 ·rw[QN];exact u
 exact H.free.keeps j (fun g y h=>H.nab gs rfl (by rw[y,h]))
theorem Tm w a A c B d ss fr most many s g x (h:R0 w a A c B d ss fr most many) (Z:KG ss s g=true):
  Calls prog 170 #[IP (some ⟨a,0,none⟩),.agg #[I O s,I O g],X5 x] w fun e w'=>
   e= .returned (U0 0)/\ ∃k,∃hk:k<ss.length,s=k/\ss[k].2.2=true/\ss[k].2.1=g/\Xx w w' a A B (ss.set k (x,ss[k].2.1,ss[k].2.2)) fr most many:=by
 have y:Below w.heap.size w ((w.alloc (.cells #[I O s,I O g] 186)).alloc (.cells (J8 x) 29)):=((Q2 _ w).alloc (Q4 _) _).alloc (by simp) _
 have U:Q1 ((w.alloc (.cells #[I O s,I O g] 186)).alloc (.cells (J8 x) 29)) (w.heap.size+1) 29 (J8 x):=by simpa using J9 (w.alloc (.cells #[I O s,I O g] 186)) 29 (J8 x)
 have HX:=Q0 U
 have H:=Q0 (h.below y)
 have J:=Q0 y
 have Hh:=Q0 Z
 clear y U h Z
 unfold X5
 go_enter func170,ntmps170
 go_wp2_with fail
 refine(Uh _ a A c B d ss fr most many s g H).mono ?_
 rintro e w1 ⟨v,⟨u,rfl⟩|⟨u,k,E,rfl,hk,rfl,rfl⟩⟩
 ·rw[Hh.out]at u
  cases u
 have j:=H.below v
 have D:=J4 HX v
 obtain⟨x0,x1,x2,x3,x4⟩:=Z6 D
 obtain⟨a2,he,s0,s1,s2,s3,s4,_,_⟩:=j.slot hk
 cases he
 have f0:=j.slots.frozen (k*7)
 have f1:=j.slots.frozen (k*7+1)
 have f2:=j.slots.frozen (k*7+2)
 have f3:=j.slots.frozen (k*7+3)
 have f4:=j.slots.frozen (k*7+4)
 have a1:=j.slots.lt (g:=E) rfl
 rw[Lq hk]at u
 have a0:ss[k].2.2=true/\ss[k].2.1=g:=by simpa using u
 have HO:=Q0 (Qq5 j hk x)
 have N:=Q0 a0
 have HB:=Q0 v
 clear u a0 D j v
 go_wp2_with fail
 go_ret
 obtain⟨hO,hK⟩:=HO.out
 refine⟨rfl,k,hk,rfl,N.1,N.2,some ⟨E,0,none⟩,c,B,d,hO, ?_,fun i C=> .inl C⟩
 exact(U1 (J.trans (HB.mono J.size)) _).trans hK (fun i C=> .inl C)
theorem Jh7 {w a F M most n} (h:VL w a F M most n) s g (hy:(M s g).isSome=true) x:
  Calls prog 170 #[IP (some ⟨a,0,none⟩),.agg #[I O s,I O g],X5 x] w fun e w'=>e= .returned (U0 0)/\PQ w w' a F (W8 M s g (some x)) most n:=by
 obtain⟨A,c,B,d,ss,fr,hA,y,hL,Z,N⟩:=h
 refine(Tm w a A c B d ss fr _ _ s g x hA (by rw[WY,<-Z];exact hy)).mono ?_
 rintro e w' ⟨rfl,k,hk,rfl,h1,h2,A',c',U,d',a0,hK,a1⟩
 have hl:=Uk ss (x,ss[k].2.1,ss[k].2.2) k hk
 have D:UP (ss.set k (x,ss[k].2.1,ss[k].2.2))=UP ss:=by
  dsimp only at hl;omega
 refine⟨rfl,JN a A' U,⟨A',c',U,d',_,_,a0,⟨y.nodup, ?_, ?_, ?_⟩,by rw[D];exact hL, ?_,fun i=>ZP⟩,hK.mono (fun i u=>(N i).2 u),fun i u=>(a1 i u).imp (fun h=>(N i).2 h) id⟩
 ·intro i u
  obtain⟨j,rfl,hj,J⟩:=y.free i u;refine⟨j,rfl,by rw[QN];exact hj, ?_⟩;rw[List.getElem_set]
  split
  ·rename_i e
   subst e;exact J
  exact J
 ·rw[QN,D];exact y.count
 ·rw[QN];exact y.cap
 intro s' E
 rw[Uj hk]
 unfold W8
 rw[Z]
 by_cases C:s'=(k:Int)
 ·subst C
  rw[Q5 rfl]
  by_cases v:E=g
  ·subst v;simp[h1,h2]
  have:JD ss (k:Nat) E=none:=by
   unfold JD;have hh:ss[((k:Nat):Int).toNat]?=some ss[k]:=by simp[hk]
   rw[Q5 (by omega),hh];simp[h2];intro _ e;exact absurd e.symm v
  rw[Q3 (by simp[v]),this,Q3];rintro⟨_,e⟩;dsimp only at e;rw[h2]at e;exact v e.symm
 rw[Q3 (by simp[C]),Q3 C]
