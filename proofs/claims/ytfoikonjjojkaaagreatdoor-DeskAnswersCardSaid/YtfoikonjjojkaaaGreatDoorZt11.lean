/- Parts. -/
import Derived.Test.YtfoikonjjojkaaaGreatDoorZt10
set_option linter.unusedVariables false
set_option maxRecDepth 100000
set_option maxHeartbeats 8000000
open Go.Proofs.Tryz
open Go.Value renaming int→I,pointer→IP
open Go.IntKind renaming i64→O
namespace Go.Proofs.YtfoikonjjojkaaaGreatDoor
open Go.RowKit
structure HS where
 mA:Option Addr
 mc:Nat
 qA:Option Addr
 qc:Nat
 ms:List HO
 qs:List QG
def HS.all(h:HS):List HO:=N6 h.ms h.qs
def HS.L(h:HS):List X6:=E7 h.all
def DJ(h:HS)(i:Nat):Prop:=X5 h.mA=some i\/X5 h.qA=some i\/∃q∈h.qs,X5 q.A=some i
def V5(s:Int):Prop:=s=1\/s=2
structure PY(w:World)(reg:Nat->Int)(s:Int)(h:HS):Prop where
 rm:X8 w h.mA h.ms.length h.mc 261 2 (X7 S7 (N9 h.ms))
 rq:X8 w h.qA h.qs.length h.qc 320 2 (X7 YJ (h.qs.map QG.que))
 rl:∀q∈h.qs,X8 w q.A q.os.length q.c 261 2 (X7 S7 (N9 q.os))
 gm:∀g,X5 h.mA=some g->reg g=s*10+1
 gq:∀g,X5 h.qA=some g->reg g=s*10+2
 gl:∀q∈h.qs,∀g,X5 q.A=some g->reg g=s*10+3
 nd:(h.qs.filterMap fun q=>X5 q.A).Nodup
section
variable {w w':World} {reg reg':Nat->Int} {s:Int} {h:HS}
theorem PY.fp(H:PY w reg s h){i}(j:DJ h i):i<w.heap.size/\(reg i=s*10+1\/reg i=s*10+2\/reg i=s*10+3):=by
 obtain j|j|⟨q,u,j⟩:=j
 ·exact⟨H.rm.lt j,.inl (H.gm i j)⟩
 ·exact⟨H.rq.lt j,.inr (.inl (H.gq i j))⟩
 exact⟨(H.rl q u).lt j,.inr (.inr (H.gl q u i j))⟩
theorem PY.later{S}(H:PY w reg s h)(hk:X4 S w w')(C:∀i,S i->i<w.heap.size->reg i≠s*10+1/\reg i≠s*10+2/\reg i≠s*10+3)(D:∀i,i<w.heap.size->reg' i=reg i):PY w' reg' s h:=by
 refine⟨H.rm.keeps hk ?_,H.rq.keeps hk ?_,fun q u=>(H.rl q u).keeps hk ?_,fun g j=>(D g (H.rm.lt j)).trans (H.gm g j),fun g j=>(D g (H.rq.lt j)).trans (H.gq g j),fun q u g j=>(D g ((H.rl q u).lt j)).trans (H.gl q u g j),H.nd⟩
 ·intro g j y;exact(C g y (H.rm.lt j)).1 (H.gm g j)
 ·intro g j y;exact(C g y (H.rq.lt j)).2.1 (H.gq g j)
 intro g j y;exact(C g y ((H.rl q u).lt j)).2.2 (H.gl q u g j)
end
def XB(s:Int):Nat:=if s=1 then 2 else 4
def YY(a r:Nat)(H:Int->HS):Array Value:=
 #[IP (some ⟨a,0,none⟩),.map (some r),.slice (H 1).mA (H 1).ms.length (H 1).mc,.slice (H 1).qA (H 1).qs.length (H 1).qc,.slice (H 2).mA (H 2).ms.length (H 2).mc,.slice (H 2).qA (H 2).qs.length (H 2).qc]
def P8(H:Int->HS)(s:Int)(h:HS):Int->HS:=fun s'=>if s'=s then h else H s'
theorem XK H s h:P8 H s h s=h:=X0 rfl
theorem ZK{H s s' h}(e:s'≠s):P8 H s h s'=H s':=J8 e
structure Y0(w:World)(b a:Nat)(F:Nat->Prop)(M:Int->Int->Option X6)(n r:Nat)(f:Int->Option Value)(H:Int->HS)(reg:Nat->Int):Prop where
 blk:J7 w b 273 (YY a r H)
 ar:YP w a F M 100 n
 mp:QF w r f
 hx:∀s,V5 s->PY w reg s (H s)
 gb:reg b=1
 gr:reg r=2
 gF:∀i,F i->reg i=3
def Y1(b r:Nat)(F:Nat->Prop)(H:Int->HS)(i:Nat):Prop:=i=b\/i=r\/F i\/DJ (H 1) i\/DJ (H 2) i
def U2(w w':World)(G G':Nat->Prop):Prop:=X4 G w w'/\∀i,G' i->G i\/w.heap.size<=i
theorem U2.trans{w w1 w2 G G1 G2}(h:U2 w w1 G G1)(k:U2 w1 w2 G1 G2):U2 w w2 G G2:=by
 have y:=h.1.size;refine⟨h.1.trans k.1 h.2,fun i u=>?_⟩;obtain j|j:=k.2 i u
 ·exact h.2 i j
 exact .inr Q0
theorem U2.of_below{w w' G}(h:Bz w w'):U2 w w' G G:=⟨B9 h _,fun i h=>.inl h⟩
abbrev S5:=@U2.of_below
section
variable {w w':World} {b a n r:Nat} {F:Nat->Prop} {M:Int->Int->Option X6} {f:Int->Option Value} {H:Int->HS} {reg:Nat->Int}
theorem Y0.cells(h:Y0 w b a F M n r f H reg):w.cell? (aD b 0)=some (pA a)/\w.cell? (aD b 1)=some (.map (some r))/\w.cell? (aD b 2)=some (.slice (H 1).mA (H 1).ms.length (H 1).mc)/\w.cell? (aD b 3)=some (.slice (H 1).qA (H 1).qs.length (H 1).qc)/\w.cell? (aD b 4)=some (.slice (H 2).mA (H 2).ms.length (H 2).mc)/\w.cell? (aD b 5)=some (.slice (H 2).qA (H 2).qs.length (H 2).qc):=by refine⟨?_,?_,?_,?_,?_,?_⟩<;>(rw[X9 h.blk];rfl)
theorem Y0.cellM(h:Y0 w b a F M n r f H reg){s}(y:V5 s):w.cell? (aD b (XB s))=some (.slice (H s).mA (H s).ms.length (H s).mc)/\w.cell? (aD b (XB s+1))=some (.slice (H s).qA (H s).qs.length (H s).qc):=by
 obtain⟨-,-,h2,i,j,u⟩:=h.cells;obtain rfl|rfl:=y
 ·exact⟨h2,i⟩
 exact⟨j,u⟩
theorem Y0.fp(h:Y0 w b a F M n r f H reg){i}(j:Y1 b r F H i):i<w.heap.size:=by
 obtain rfl|rfl|j|j|j:=j
 ·exact Z9 h.blk
 ·exact h.mp.lt
 ·exact h.ar.fp j
 ·exact((h.hx 1 (.inl rfl)).fp j).1
 exact((h.hx 2 (.inr rfl)).fp j).1
theorem Y0.fpH s(u:V5 s){i}(j:DJ (H s) i):Y1 b r F H i:=by
 obtain rfl|rfl:=u
 ·exact .inr (.inr (.inr (.inl j)))
 exact .inr (.inr (.inr (.inr j)))
abbrev GQ:=@Y0.fpH
theorem Y0.keeps{S}(h:Y0 w b a F M n r f H reg)(hk:X4 S w w')(j:∀i,Y1 b r F H i->¬S i):Y0 w' b a F M n r f H reg:=by refine⟨V0 h.blk hk (j b (.inl rfl)),h.ar.keeps hk (fun i D=>j i (.inr (.inr (.inl D)))),h.mp.of_block (hk.block r h.mp.lt (j r (.inr (.inl rfl)))),fun s y=>?_,h.gb,h.gr,h.gF⟩;have X:=h.hx s y;exact⟨X.rm.keeps hk (fun g u=>j g (fpH s y (.inl u))),X.rq.keeps hk (fun g u=>j g (fpH s y (.inr (.inl u)))),fun q C=>(X.rl q C).keeps hk (fun g u=>j g (fpH s y (.inr (.inr ⟨q,C,u⟩)))),X.gm,X.gq,X.gl,X.nd⟩
theorem Y0.below(h:Y0 w b a F M n r f H reg)(i:Bz w w'):Y0 w' b a F M n r f H reg:=h.keeps (B9 i (fun _=>False)) (fun _ _=>id)
theorem Y0.arena{M' n'}(h:Y0 w b a F M n r f H reg)(ht:WX w w' a F M' 100 n'):∃F' reg',Y0 w' b a F' M' n' r f H reg'/\U2 w w' (Y1 b r F H) (Y1 b r F' H):=by
 obtain⟨F',D,u,y⟩:=ht;refine⟨F',fun i=>if i<w.heap.size then reg i else 3,⟨V0 h.blk u ?_,D,h.mp.of_block (u.block r h.mp.lt ?_),fun s C=>(h.hx s C).later u ?_ (fun i j=>X0 j),?_,?_,?_⟩,u.mono (fun i j=>.inr (.inr (.inl j))),?_⟩
 ·intro e;have:=h.gF b e;have:=h.gb;omega
 ·intro e;have:=h.gF r e;have:=h.gr;omega
 ·intro i j _
  have:=h.gF i j;obtain rfl|rfl:=C<;>omega
 ·rw[X0 (Z9 h.blk)];exact h.gb
 ·rw[X0 h.mp.lt];exact h.gr
 ·intro i j
  obtain h1|h1:=y i j
  ·rw[X0 (h.ar.fp h1)];exact h.gF i h1
  rw[J8 Q0]
 rintro i(rfl|rfl|j|j|j)
 ·exact .inl (.inl rfl)
 ·exact .inl (.inr (.inl rfl))
 ·exact(y i j).imp (fun h=>.inr (.inr (.inl h))) id
 ·exact .inl (.inr (.inr (.inr (.inl j))))
 exact .inl (.inr (.inr (.inr (.inr j))))
theorem Y0.map_{f'}(h:Y0 w b a F M n r f H reg)(ht:CG w w' r)(C:QF w' r f'):Y0 w' b a F M n r f' H reg/\U2 w w' (Y1 b r F H) (Y1 b r F H):=by
 have u:X4 (fun i=>i=r) w w':=(Gm ht.grown).mono (fun i e=>by cases e;rfl);refine⟨⟨V0 h.blk u ?_,h.ar.keeps u ?_,C,fun s y=>(h.hx s y).later u ?_ (fun i j=>rfl),h.gb,h.gr,h.gF⟩,u.mono (fun i j=>.inr (.inl j)),fun i j=>.inl j⟩
 ·intro e;have:=h.gb;have:=h.gr;rw[e]at*;omega
 ·intro i j e;have:=h.gF i j;have:=h.gr;rw[e]at*;omega
 intro i j _;have:=h.gr;rw[j];obtain rfl|rfl:=y<;>omega
theorem Md{α:Type}{g:α->Option Nat}:∀{l:List α}{i k:Nat}{x:Nat}(_:(l.filterMap g).Nodup)(hi:i<l.length)(hk:k<l.length),i≠k->g l[i]=some x->g l[k]=some x->False
 | [],i,k,x,_,hi,_,_,_,_=>by simp at hi
 |a::l,i,k,x,h,hi,hk,hne,h1,h2=>by
  have ht:(l.filterMap g).Nodup:=by
   cases e:g a with
   |none=>rwa [Jw e]at h
   |some y=>rw[SH e]at h;exact(UX.1 h).2
  cases i with
  |zero=>
   cases k with
   |zero=>exact hne rfl
   |succ k=>
    have h1':g a=some x:=h1;rw[SH h1']at h;exact(UX.1 h).1 (Xh.2 ⟨l[k]'(by simpa using hk),C7 _,by simpa using h2⟩)
  |succ i=>
   cases k with
   |zero=>
    have h2':g a=some x:=h2;rw[SH h2']at h;exact(UX.1 h).1 (Xh.2 ⟨l[i]'(by simpa using hi),C7 _,by simpa using h1⟩)
   |succ k=>exact Md ht (by simpa using hi) (by simpa using hk) (fun e=>hne (by rw[e])) (by simpa using h1) (by simpa using h2)
theorem Bg{α:Type}(g:α->Option Nat)(q':α):∀(l:List α)(k:Nat)(hk:k<l.length),(l.filterMap g).Nodup->(∀x,g q'=some x->g l[k]=some x\/∀y∈l,g y≠some x)->((l.set k q').filterMap g).Nodup
 | [],k,hk,_,_=>by simp at hk
 |a::l,0,hk,h,hq=>by
  rw[Ax]
  cases e:g q' with
  |none=>
   rw[Jw e]
   cases e2:g a with
   |none=>rwa [Jw e2]at h
   |some y=>rw[SH e2]at h;exact(UX.1 h).2
  |some x=>
   rw[SH e];obtain h1|h1:=hq x e
   ·have h1':g a=some x:=h1
    rwa [SH h1']at h
   refine UX.2 ⟨fun hx=>?_,?_⟩
   ·obtain⟨y,hy,hy2⟩:=Xh.1 hx
    exact h1 y (VS _ hy) hy2
   cases e2:g a with
   |none=>rwa [Jw e2]at h
   |some y=>rw[SH e2]at h;exact(UX.1 h).2
 |a::l,k+1,hk,h,hq=>by
  rw[Aw];have hq':∀x,g q'=some x->g (l[k]'(by simpa using hk))=some x\/∀y∈l,g y≠some x:=fun x hx=>(hq x hx).imp (fun h=>by simpa using h) (fun h y hy=>h y (VS _ hy))
  cases e2:g a with
  |none=>
   rw[Jw e2]at h|-;exact Bg g q' l k (by simpa using hk) h hq'
  |some y=>
   rw[SH e2]at h|-;obtain⟨h1,h2⟩:=UX.1 h;refine UX.2 ⟨fun hx=>?_,Bg g q' l k (by simpa using hk) h2 hq'⟩;obtain⟨z,hz,hz2⟩:=Xh.1 hx;obtain hz|rfl:=RJ hz
   ·exact h1 (Xh.2 ⟨z,hz,hz2⟩)
   obtain h3|h3:=hq y hz2
   ·exact h1 (Xh.2 ⟨l[k]'(by simpa using hk),C7 _,by simpa using h3⟩)
   exact h3 a Q3 e2
theorem Ql1 H{s}(C:V5 s)i(j:i.qA=(H s).qA)(u:i.qc=(H s).qc)(y:i.qs.length=(H s).qs.length):(YY a r H).setIfInBounds (XB s) (.slice i.mA i.ms.length i.mc)=YY a r (P8 H s i):=by
 obtain rfl|rfl:=C
 ·unfold YY XB
  rw[XK,ZK Q1,j,u,y]
  rfl
 unfold YY XB;rw[XK,ZK Q1,j,u,y]
 rfl
theorem Ql2 H{s}(C:V5 s)i(j:i.mA=(H s).mA)(u:i.mc=(H s).mc)(y:i.ms.length=(H s).ms.length):(YY a r H).setIfInBounds (XB s+1) (.slice i.qA i.qs.length i.qc)=YY a r (P8 H s i):=by
 obtain rfl|rfl:=C
 ·unfold YY XB
  rw[XK,ZK Q1,j,u,y]
  rfl
 unfold YY XB;rw[XK,ZK Q1,j,u,y]
 rfl
theorem Qm6 H{s}(J:V5 s)i(j:i.mA=(H s).mA)(u:i.mc=(H s).mc)(y:i.ms.length=(H s).ms.length)(C:i.qA=(H s).qA)(D:i.qc=(H s).qc)(E:i.qs.length=(H s).qs.length):YY a r (P8 H s i)=YY a r H:=by
 obtain rfl|rfl:=J
 ·unfold YY
  rw[XK,ZK Q1,j,u,y,C,D,E]
 unfold YY;rw[XK,ZK Q1,j,u,y,C,D,E]
theorem Yp{s}(u:V5 s){h' m}(j:∀i,DJ h' i->DJ (H s) i\/m<=i):∀i,Y1 b r F (P8 H s h') i->Y1 b r F H i\/m<=i:=by
 rintro i(rfl|rfl|hi|hi|hi)
 ·exact .inl (.inl rfl)
 ·exact .inl (.inr (.inl rfl))
 ·exact .inl (.inr (.inr (.inl hi)))
 ·obtain rfl|rfl:=u
  ·rw[XK]at hi
   exact(j i hi).imp (fun h=>.inr (.inr (.inr (.inl h)))) id
  rw[ZK Q1]at hi;exact .inl (.inr (.inr (.inr (.inl hi))))
 obtain rfl|rfl:=u
 ·rw[ZK Q1]at hi
  exact .inl (.inr (.inr (.inr (.inr hi))))
 rw[XK]at hi;exact(j i hi).imp (fun h=>.inr (.inr (.inr (.inr h)))) id
theorem Y0.market(h:Y0 w b a F M n r f H reg){s}(u:V5 s){w3 A' c' ms'}(J:X4 (fun i=>X5 (H s).mA=some i) w w3) (hR:X8 w3 A' ms'.length c' 261 2 (X7 S7 (N9 ms'))) (D:∀g,X5 A'=some g->X5 (H s).mA=some g\/w.heap.size<=g):∃reg',Y0 (w3.setCell (aD b (XB s)) (.slice A' ms'.length c')) b a F M n r f (P8 H s ⟨A',c',(H s).qA,(H s).qc,ms',(H s).qs⟩) reg'/\U2 w (w3.setCell (aD b (XB s)) (.slice A' ms'.length c')) (Y1 b r F H) (Y1 b r F (P8 H s ⟨A',c',(H s).qA,(H s).qc,ms',(H s).qs⟩)):=by
 have X:=h.hx s u;have a2:=Z9 h.blk;have E:=h.gb;have N:X5 (H s).mA≠some b:=fun e=>by have:=X.gm b e;obtain rfl|rfl:=u<;>omega
 have Z:=U1 w3 ⟨b,XB s,none⟩ (.slice A' ms'.length c');have hk:X4 (fun i=>X5 (H s).mA=some i\/i=b) w (w3.setCell ⟨b,XB s,none⟩ (.slice A' ms'.length c')):=(J.mono (fun i h=>.inl h)).trans Z (fun i h=>.inl (.inr h));have C:∀i,(X5 (H s).mA=some i\/i=b)->reg i=s*10+1\/reg i=1:=by
  rintro i(j|rfl)
  ·exact .inl (X.gm i j)
  exact .inr E
 have a1:∀g,X5 A'=some g->g≠b:=by
  intro g y e;subst e;obtain h1|h1:=D g y
  ·exact N h1
  omega
 refine⟨fun i=>if i<w.heap.size then reg i else s*10+1,⟨?_,?_,?_,?_,?_,?_,?_⟩,hk.mono ?_,Yp u ?_⟩
 ·have:=Z0 (V0 h.blk J N) (XB s) (.slice A' ms'.length c')
  rwa [Ql1 H u ⟨A',c',(H s).qA,(H s).qc,ms',(H s).qs⟩ rfl rfl rfl]at this
 ·refine h.ar.keeps hk (fun i j h1=>?_)
  have:=h.gF i j;have:=C i h1;obtain rfl|rfl:=u<;>omega
 ·refine h.mp.of_block (hk.block r h.mp.lt (fun h1=>?_))
  have:=h.gr;have:=C r h1;obtain rfl|rfl:=u<;>omega
 ·intro s' a0
  by_cases e:s'=s
  ·subst e
   rw[XK];have Y:=X.later (reg':=fun i=>if i<w.heap.size then reg i else s'*10+1) (s:=s') (S:=fun _=>False) (BG _ w) (fun i h=>h.elim) (fun i j=>X0 j);refine⟨hR.keeps Z (fun g y e=>a1 g y e),X.rq.keeps hk (fun g y h1=>?_),fun q hq=>(X.rl q hq).keeps hk (fun g y h1=>?_),?_,Y.gq,Y.gl,X.nd⟩
   ·have:=X.gq g y;have:=C g h1;obtain rfl|rfl:=u<;>omega
   ·have:=X.gl q hq g y;have:=C g h1;obtain rfl|rfl:=u<;>omega
   intro g y
   split
   ·rename_i a3
    obtain h1|h1:=D g y
    ·exact X.gm g h1
    omega
   rfl
  rw[ZK e];refine(h.hx s' a0).later hk (fun i j _=>?_) (fun i j=>X0 j);have:=C i j;obtain rfl|rfl:=u<;>obtain rfl|rfl:=a0<;>first|exact absurd rfl e|omega
 ·rw[X0 a2];exact E
 ·rw[X0 h.mp.lt];exact h.gr
 ·intro i j;rw[X0 (h.ar.fp j)];exact h.gF i j
 ·rintro i(j|rfl)
  ·exact GQ s u (.inl j)
  exact .inl rfl
 rintro i(j|j|j)
 ·exact(D i j).imp (fun h=>.inl h) id
 ·exact .inl (.inr (.inl j))
 exact .inl (.inr (.inr j))
theorem Y0.queues(h:Y0 w b a F M n r f H reg){s}(y:V5 s){w3 A' c' qs'}(hK:X4 (fun i=>X5 (H s).qA=some i) w w3) (hR:X8 w3 A' qs'.length c' 320 2 (X7 YJ (qs'.map QG.que))) (J:∀g,X5 A'=some g->X5 (H s).qA=some g\/w.heap.size<=g)(N:∀q∈qs',q∈(H s).qs\/(q.A=none/\q.c=0/\q.os=[])) (a5:(qs'.filterMap fun q=>X5 q.A).Nodup):∃reg',Y0 (w3.setCell (aD b (XB s+1)) (.slice A' qs'.length c')) b a F M n r f (P8 H s ⟨(H s).mA,(H s).mc,A',c',(H s).ms,qs'⟩) reg'/\U2 w (w3.setCell (aD b (XB s+1)) (.slice A' qs'.length c')) (Y1 b r F H) (Y1 b r F (P8 H s ⟨(H s).mA,(H s).mc,A',c',(H s).ms,qs'⟩)):=by
 have X:=h.hx s y;have a4:=Z9 h.blk;have Z:=h.gb;have a0:X5 (H s).qA≠some b:=fun e=>by have:=X.gq b e;obtain rfl|rfl:=y<;>omega
 have a1:=U1 w3 ⟨b,XB s+1,none⟩ (.slice A' qs'.length c');have hk:X4 (fun i=>X5 (H s).qA=some i\/i=b) w (w3.setCell ⟨b,XB s+1,none⟩ (.slice A' qs'.length c')):=(hK.mono (fun i h=>.inl h)).trans a1 (fun i h=>.inl (.inr h));have D:∀i,(X5 (H s).qA=some i\/i=b)->reg i=s*10+2\/reg i=1:=by
  rintro i(j|rfl)
  ·exact .inl (X.gq i j)
  exact .inr Z
 have a3:∀g,X5 A'=some g->g≠b:=by
  intro g u e;subst e;obtain h1|h1:=J g u
  ·exact a0 h1
  omega
 refine⟨fun i=>if i<w.heap.size then reg i else s*10+2,⟨?_,?_,?_,?_,?_,?_,?_⟩,hk.mono ?_,Yp y ?_⟩
 ·have:=Z0 (V0 h.blk hK a0) (XB s+1) (.slice A' qs'.length c')
  rwa [Ql2 H y ⟨(H s).mA,(H s).mc,A',c',(H s).ms,qs'⟩ rfl rfl rfl]at this
 ·refine h.ar.keeps hk (fun i j h1=>?_)
  have:=h.gF i j;have:=D i h1;obtain rfl|rfl:=y<;>omega
 ·refine h.mp.of_block (hk.block r h.mp.lt (fun h1=>?_))
  have:=h.gr;have:=D r h1;obtain rfl|rfl:=y<;>omega
 ·intro s' a2
  by_cases e:s'=s
  ·subst e
   rw[XK];have Y:=X.later (reg':=fun i=>if i<w.heap.size then reg i else s'*10+2) (s:=s') (S:=fun _=>False) (BG _ w) (fun i h=>h.elim) (fun i j=>X0 j);refine⟨X.rm.keeps hk (fun g u h1=>?_),hR.keeps a1 (fun g u e=>a3 g u e),fun q C=>?_,Y.gm,?_,fun q C=>?_,a5⟩
   ·have:=X.gm g u;have:=D g h1;obtain rfl|rfl:=y<;>omega
   ·obtain h1|⟨h1,h2,E⟩:=N q C
    ·refine(X.rl q h1).keeps hk (fun g u h2=>?_)
     have:=X.gl q h1 g u;have:=D g h2;obtain rfl|rfl:=y<;>omega
    rw[h1,h2,E];exact⟨rfl,.inl ⟨rfl,rfl⟩⟩
   ·intro g u
    split
    ·rename_i a6
     obtain h1|h1:=J g u
     ·exact X.gq g h1
     omega
    rfl
   obtain h1|⟨h1,h2,E⟩:=N q C
   ·exact Y.gl q h1
   intro g u;rw[h1]at u
   cases u
  rw[ZK e];refine(h.hx s' a2).later hk (fun i j _=>?_) (fun i j=>X0 j);have:=D i j;obtain rfl|rfl:=y<;>obtain rfl|rfl:=a2<;>first|exact absurd rfl e|omega
 ·rw[X0 a4];exact Z
 ·rw[X0 h.mp.lt];exact h.gr
 ·intro i j;rw[X0 (h.ar.fp j)];exact h.gF i j
 ·rintro i(j|rfl)
  ·exact GQ s y (.inr (.inl j))
  exact .inl rfl
 rintro i(j|j|⟨q,C,j⟩)
 ·exact .inl (.inl j)
 ·exact(J i j).imp (fun h=>.inr (.inl h)) id
 obtain h1|⟨h1,h2,E⟩:=N q C
 ·exact .inl (.inr (.inr ⟨q,h1,j⟩))
 rw[h1]at j;cases j
theorem Jn6 l{k}(hk:k<l.length)A n c:(X7 YJ l).set (k*2+1) (.slice A n c)=X7 YJ (l.set k (l[k].1,A,n,c)):=by
 rw[<-TB MK (l[k].1,A,n,c) l k hk];have j:(X7 YJ l)[k*2+0]?=some (I O l[k].1):=MB MK l k hk 0 Q0;have e:(X7 YJ l).set (k*2) (I O l[k].1)=X7 YJ l:=by
  apply Vh;intro i;rw[List.getElem?_set]
  split
  ·rename_i u
   subst u;rw[Nat.add_zero]at j
   split
   ·rw[j]
   rw[GL Q0]
  rfl
 show _=CD ((X7 YJ l).set (k*2) (I O l[k].1)) (k*2+1) [.slice A n c];rw[e];rfl
theorem Y0.queue(h:Y0 w b a F M n r f H reg){s}(C:V5 s){w3 k}(hk:k<(H s).qs.length){qg}(a2:(H s).qA=sA qg){A' c' os'}(hK:X4 (fun i=>X5 (H s).qs[k].A=some i) w w3) (hR:X8 w3 A' os'.length c' 261 2 (X7 S7 (N9 os'))) (Z:∀g,X5 A'=some g->X5 (H s).qs[k].A=some g\/w.heap.size<=g):∃reg',Y0 (w3.setCell (aD qg (k*2+1)) (.slice A' os'.length c')) b a F M n r f (P8 H s ⟨(H s).mA,(H s).mc,(H s).qA,(H s).qc,(H s).ms,(H s).qs.set k ⟨(H s).qs[k].price,A',c',os'⟩⟩) reg'/\U2 w (w3.setCell (aD qg (k*2+1)) (.slice A' os'.length c')) (Y1 b r F H) (Y1 b r F (P8 H s ⟨(H s).mA,(H s).mc,(H s).qA,(H s).qc,(H s).ms,(H s).qs.set k ⟨(H s).qs[k].price,A',c',os'⟩⟩)):=by
 have X:=h.hx s C;have a7:=Z9 h.blk;have gb:=h.gb;have a1:X5 (H s).qA=some qg:=by rw[a2];rfl
 have b0:=X.rq.lt a1;have gq:=X.gq qg a1;have J:(H s).qs[k]∈(H s).qs:=C7 _;have a3:=U1 w3 ⟨qg,k*2+1,none⟩ (.slice A' os'.length c');have D:X4 (fun i=>X5 (H s).qs[k].A=some i\/i=qg) w (w3.setCell ⟨qg,k*2+1,none⟩ (.slice A' os'.length c')):=(hK.mono (fun i h=>.inl h)).trans a3 (fun i h=>.inl (.inr h));have N:∀i,(X5 (H s).qs[k].A=some i\/i=qg)->reg i=s*10+3\/reg i=s*10+2:=by
  rintro i(j|rfl)
  ·exact .inl (X.gl _ J i j)
  exact .inr gq
 have a6:∀g,X5 A'=some g->g≠qg:=by
  intro g u e;subst e;obtain h1|h1:=Z g u
  ·have:=X.gl _ J g h1;omega
  omega
 have a5:∀q∈(H s).qs.set k ⟨(H s).qs[k].price,A',c',os'⟩,(q∈(H s).qs\/q=⟨(H s).qs[k].price,A',c',os'⟩):=fun q E=>RJ E
 refine⟨fun i=>if i<w.heap.size then reg i else s*10+3,⟨?_,?_,?_,?_,?_,?_,?_⟩,D.mono ?_,Yp C ?_⟩
 ·rw[Qm6 H C ⟨(H s).mA,(H s).mc,(H s).qA,(H s).qc,(H s).ms,(H s).qs.set k ⟨(H s).qs[k].price,A',c',os'⟩⟩ rfl rfl rfl rfl rfl Q3]
  refine V0 h.blk D (fun h1=>?_);have:=N b h1;obtain rfl|rfl:=C<;>omega
 ·refine h.ar.keeps D (fun i j h1=>?_)
  have:=h.gF i j;have:=N i h1;obtain rfl|rfl:=C<;>omega
 ·refine h.mp.of_block (D.block r h.mp.lt (fun h1=>?_))
  have:=h.gr;have:=N r h1;obtain rfl|rfl:=C<;>omega
 ·intro s' a4
  by_cases e:s'=s
  ·subst e
   rw[XK];have Y:=X.later (reg':=fun i=>if i<w.heap.size then reg i else s'*10+3) (s:=s') (S:=fun _=>False) (BG _ w) (fun i h=>h.elim) (fun i j=>X0 j);refine⟨X.rm.keeps D (fun g u h1=>?_),?_,fun q E=>?_,Y.gm,Y.gq,fun q E=>?_,?_⟩
   ·have:=X.gm g u;have:=N g h1;obtain rfl|rfl:=C<;>omega
   ·have R3:=X.rq.keeps hK (fun g u h1=>by have:=X.gq g u;have:=X.gl _ J g h1;omega)
    have R4:X8 w3 (sA qg) (H s').qs.length (H s').qc 320 2 (X7 YJ ((H s').qs.map QG.que)):=by rw[<-a2];exact R3
    have R5:=R4.set (k*2+1) (.slice A' os'.length c');rw[Jn6 _ (by simpa using hk)]at R5;have e2:((H s').qs.set k ⟨(H s').qs[k].price,A',c',os'⟩).map QG.que=((H s').qs.map QG.que).set k ((((H s').qs.map QG.que)[k]'(by simpa using hk)).1,A',os'.length,c'):=by rw[List.map_set];simp[QG.que]
    rw[e2,a2];simpa using R5
   ·by_cases eq:q=⟨(H s').qs[k].price,A',c',os'⟩
    ·subst eq
     exact hR.keeps a3 (fun g u e=>a6 g u e)
    obtain⟨i,j,rfl⟩:=ZX.1 E;have a8:i<(H s').qs.length:=by simpa using j
    by_cases a0:i=k
    ·subst a0;rw[SL]at eq;exact absurd rfl eq
    rw[WD (fun e=>a0 e.symm)];refine(X.rl _ (C7 _)).keeps D ?_;rintro g u(h1|rfl)
    ·exact Md (g:=fun q:QG=>X5 q.A) X.nd a8 hk a0 u h1
    have:=X.gl _ (C7 _) g u;omega
   ·intro g u
    obtain h1|rfl:=a5 q E
    ·exact Y.gl q h1 g u
    split
    ·rename_i a9
     obtain h1|h1:=Z g u
     ·exact X.gl _ J g h1
     omega
    rfl
   refine Bg (fun q:QG=>X5 q.A) _ _ k hk X.nd (fun x hx=>?_);obtain h1|h1:=Z x hx
   ·exact .inl h1
   exact .inr (fun y hy e=>by have:=(X.rl y hy).lt e;omega)
  rw[ZK e];refine(h.hx s' a4).later D (fun i j _=>?_) (fun i j=>X0 j);have:=N i j;obtain rfl|rfl:=C<;>obtain rfl|rfl:=a4<;>first|exact absurd rfl e|omega
 ·rw[X0 a7];exact gb
 ·rw[X0 h.mp.lt];exact h.gr
 ·intro i j;rw[X0 (h.ar.fp j)];exact h.gF i j
 ·rintro i(j|rfl)
  ·exact GQ s C (.inr (.inr ⟨_,J,j⟩))
  exact GQ s C (.inr (.inl a1))
 rintro i(j|j|⟨q,E,j⟩)
 ·exact .inl (.inl j)
 ·exact .inl (.inr (.inl j))
 obtain h1|rfl:=a5 q E
 ·exact .inl (.inr (.inr ⟨q,h1,j⟩))
 exact(Z i j).imp (fun h=>.inr (.inr ⟨_,J,h⟩)) id
end
def AM(x:HO):Value:=.agg #[I O x.1.1,I O x.1.2,I O x.2.side,I O x.2.price,.bool (x.2.kind ==2)]
def KG(o:X6):Prop:=JV o/\1<=o.id/\(1<=o.price/\o.price<=1000000)/\(1<=o.qty/\o.qty<=1000000)
def E8(H:Int->HS):List HO:=(H 1).all++(H 2).all
structure B5(M:Int->Int->Option X6)(n:Nat)(f:Int->Option Value)(H:Int->HS):Prop where
 is:∀s,V5 s->LU s (H s).ms (H s).qs
 ne:∀s,V5 s->∀q∈(H s).qs,q.os≠[]
 hM:∀x∈E8 H,M x.1.1 x.1.2=some x.2
 hf:∀x∈E8 H,f x.2.id=some (AM x)
 hk:∀k v,f k=some v->∃x∈E8 H,x.2.id=k
 ids:((E8 H).map fun x=>x.2.id).Nodup
 cnt:n=(E8 H).length
 ok:∀x∈E8 H,KG x.2
section
variable {M:Int->Int->Option X6} {n:Nat} {f:Int->Option Value} {H:Int->HS}
theorem WM{α β:Type}{g:α->β}:∀{l:List α},(l.map g).Nodup->∀{x y:α},x∈l->y∈l->g x=g y->x=y
 | [],_,x,y,hx,_,_=>by simp at hx
 |a::l,h,x,y,hx,hy,e=>by
  rw[T2,UX]at h;obtain rfl|hx':=H8.1 hx
  ·obtain rfl|hy':=H8.1 hy
   ·rfl
   exact absurd (Y4.2 ⟨y,hy',e.symm⟩) h.1
  obtain rfl|hy':=H8.1 hy
  ·exact absurd (Y4.2 ⟨x,hx',e⟩) h.1
  exact WM h.2 hx' hy' e
theorem B5.same_id(S:B5 M n f H){x y}(i:x∈E8 H)(j:y∈E8 H)(e:x.2.id=y.2.id):x=y:=WM (g:=fun x:HO=>x.2.id) S.ids i j e
theorem B5.same_h(S:B5 M n f H){x y}(i:x∈E8 H)(j:y∈E8 H)(e:x.1=y.1):x=y:=by have h1:=S.hM x i;have h2:=S.hM y j;rw[e,h2]at h1;exact S.same_id i j (by rw[XG h1])
theorem BM{s}(j:V5 s){x}(i:x∈(H s).all):x∈E8 H:=by
 obtain rfl|rfl:=j
 ·exact T9 _ i
 exact JJ _ i
theorem B5.none_(S:B5 M n f H){k}:f k=none↔∀x∈E8 H,x.2.id≠k:=by
 constructor
 ·intro h x i e
  have:=S.hf x i;rw[e,h]at this
  cases this
 intro h
 cases e:f k with
 |none=>rfl
 |some v=>
  obtain⟨x,i,h2⟩:=S.hk k v e;exact absurd h2 (h x i)
theorem B5.side_of(S:B5 M n f H){s}(i:V5 s){x}(u:x∈(H s).all):x.2.side=s:=by
 obtain h|h:=B8.1 u
 ·exact((S.is s i).mkt x h).2
 obtain⟨q,j,y⟩:=RU.1 h;exact((S.is s i).qk q j x y).2.1
theorem B5.side_mem(S:B5 M n f H){x}(i:x∈E8 H):V5 x.2.side/\x∈(H x.2.side).all:=by
 obtain h|h:=B8.1 i
 ·rw[S.side_of (.inl rfl) h];exact⟨.inl rfl,h⟩
 rw[S.side_of (.inr rfl) h];exact⟨.inr rfl,h⟩
theorem B5.add(S:B5 M n f H){s}(hs:V5 s){x h'}(hp:h'.all.Perm (x:: (H s).all))(hi:LU s h'.ms h'.qs)(a1:∀q∈h'.qs,q.os≠[])(N:M x.1.1 x.1.2=none)(Z:f x.2.id=none)(a2:KG x.2):B5 (XA M x.1.1 x.1.2 (some x.2)) (n+1) (T7 f x.2.id (some (AM x))) (P8 H s h'):=by
 have j:(E8 (P8 H s h')).Perm (x::E8 H):=by
  unfold E8;obtain rfl|rfl:=hs
  ·rw[XK,ZK Q1]
   exact hp.append_right _
  rw[XK,ZK Q1];exact(hp.append_left _).trans Vk
 have D:=S.none_.1 Z;have a0:∀y∈E8 H,¬(y.1.1=x.1.1/\y.1.2=x.1.2):=by
  rintro y i⟨E,J⟩;have:=S.hM y i;rw[E,J,N]at this
  cases this
 refine⟨fun s' u=>?_,fun s' u=>?_,fun y i=>?_,fun y i=>?_,fun k v C=>?_,?_,?_,fun y i=>?_⟩
 ·by_cases e:s'=s
  ·subst e;rw[XK];exact hi
  rw[ZK e];exact S.is s' u
 ·by_cases e:s'=s
  ·subst e;rw[XK];exact a1
  rw[ZK e];exact S.ne s' u
 ·obtain rfl|i:=H8.1 (j.mem_iff.1 i)
  ·exact X0 ⟨rfl,rfl⟩
  unfold XA;rw[J8 (a0 y i)];exact S.hM y i
 ·obtain rfl|i:=H8.1 (j.mem_iff.1 i)
  ·exact X0 rfl
  unfold T7;rw[J8 (D y i)];exact S.hf y i
 ·unfold T7 at C
  by_cases e:k=x.2.id
  ·exact⟨x,j.mem_iff.2 Q3,e.symm⟩
  rw[J8 e]at C;obtain⟨y,i,h2⟩:=S.hk k v C;exact⟨y,j.mem_iff.2 (VS _ i),h2⟩
 ·rw[(j.map _).nodup_iff,T2,UX]
  refine⟨fun hx=>?_,S.ids⟩;obtain⟨y,i,e⟩:=Y4.1 hx;exact D y i e
 ·rw[j.length_eq,JA,S.cnt]
 obtain rfl|i:=H8.1 (j.mem_iff.1 i)
 ·exact a2
 exact S.ok y i
def L3(h:Int×Int)(y:HO):Bool:= !WA h y.1
theorem PK{h y}:L3 h y=true↔y.1≠h:=by unfold L3;rw[Bool.not_eq_true',<-Bool.not_eq_true,Ne,<-Xn4]
theorem B5.filter_id(S:B5 M n f H){x}(i:x∈E8 H){s}(u:V5 s):E7 ((H s).all.filter (L3 x.1))=L9 (H s).L x.2.id:=by
 unfold HS.L L9 E7;rw[Xn]
 congr 1
 apply List.filter_congr;intro y C;have j:=BM u C;rw[Vm,PK];simp only[Function.comp,Bool.not_eq_true',beq_eq_false_iff_ne];constructor
 ·intro h e;exact h (by rw[S.same_id j i e])
 intro h e;exact h (by rw[S.same_h j i e])
theorem B5.filter_other(S:B5 M n f H){x s s'}(i:V5 s)(j:V5 s')(u:x∈(H s).all)(D:s'≠s):(H s').all.filter (L3 x.1)=(H s').all:=by rw[VT];intro y C;rw[PK];intro e;have:=S.same_h (BM j C) (BM i u) e;subst this;exact D ((S.side_of j C).symm.trans (S.side_of i u))
theorem Jd6{l:List HO}{x}(E:x∈l)(h:∀y∈l,y.1=x.1->y=x)(j:l.Nodup):(l.filter (L3 x.1)).length+1=l.length:=by
 obtain⟨l1,l2,rfl⟩:=List.append_of_mem E;rw[BE]at j;have h2:=UX.1 j.2.1;have u:l1.filter (L3 x.1)=l1:=by rw[VT];intro y i;rw[PK];intro e;exact j.2.2 y i x Q3 (h y (by simp[i]) e)
 have C:l2.filter (L3 x.1)=l2:=by rw[VT];intro y i;rw[PK];intro e;exact h2.1 (by rw[<-h y (by simp[i]) e];exact i)
 have D:L3 x.1 x=false:=by rw[<-Bool.not_eq_true,PK];simp
 rw[JE,ED (by simp[D]),u,C];simp;omega
theorem B5.remove(S:B5 M n f H){s}(Z:V5 s){x}(J:x∈(H s).all){h'}(N:h'.all=(H s).all.filter (L3 x.1))(hi:LU s h'.ms h'.qs)(a1:∀q∈h'.qs,q.os≠[]):B5 (XA M x.1.1 x.1.2 none) (n-1) (T7 f x.2.id none) (P8 H s h'):=by
 have C:=BM Z J;have u:E8 (P8 H s h')=(E8 H).filter (L3 x.1):=by
  unfold E8;rw[JE];obtain rfl|rfl:=Z
  ·rw[XK,ZK Q1,N,S.filter_other (.inl rfl) (.inr rfl) J Q1]
  rw[XK,ZK Q1,N,S.filter_other (.inr rfl) (.inl rfl) J Q1]
 have D:∀y,y∈E8 (P8 H s h')->y∈E8 H/\y.1≠x.1:=by intro y i;rw[u,S4,PK]at i;exact i
 have a0:(E8 H).Nodup:=List.Pairwise.imp (fun h e=>h (by rw[e])) (Xk.1 S.ids);refine⟨fun s' E=>?_,fun s' E=>?_,fun y i=>?_,fun y i=>?_,fun k v j=>?_,?_,?_,fun y i=>?_⟩
 ·by_cases e:s'=s
  ·subst e;rw[XK];exact hi
  rw[ZK e];exact S.is s' E
 ·by_cases e:s'=s
  ·subst e;rw[XK];exact a1
  rw[ZK e];exact S.ne s' E
 ·obtain⟨h1,h2⟩:=D y i
  unfold XA;rw[J8 (fun e=>h2 (Prod.ext e.1 e.2))];exact S.hM y h1
 ·obtain⟨h1,h2⟩:=D y i
  unfold T7;rw[J8 (fun e=>h2 (by rw[S.same_id h1 C e]))];exact S.hf y h1
 ·unfold T7 at j
  by_cases e:k=x.2.id
  ·rw[X0 e]at j;cases j
  rw[J8 e]at j;obtain⟨y,i,h2⟩:=S.hk k v j;refine⟨y,?_,h2⟩;rw[u,S4,PK];exact⟨i,fun e2=>e (by rw[<-h2,S.same_h i C e2])⟩
 ·rw[u]
  exact Xe (List.Sublist.map _ At) S.ids
 ·rw[u]
  have:=Jd6 C (fun y i e=>S.same_h i C e) a0;have:=S.cnt;omega
 exact S.ok y (D y i).1
end
def JC(w:World)(b:Nat)(G:Nat->Prop)(L1 L2:List X6):Prop:=
 ∃a F M n r f H reg,Y0 w b a F M n r f H reg/\B5 M n f H/\(∀i,G i↔Y1 b r F H i)/\L1=(H 1).L/\L2=(H 2).L
def GK(w w':World)(b:Nat)(G:Nat->Prop)(L1 L2:List X6):Prop:=∃G',JC w' b G' L1 L2/\U2 w w' G G'
def V1(s:Int)(L1 L2:List X6):List X6:=if s=1 then L1 else L2
section
variable {w w':World} {b:Nat} {G:Nat->Prop} {L1 L2:List X6}
theorem JC.fp(h:JC w b G L1 L2){i}(y:G i):i<w.heap.size:=by obtain⟨a,F,M,n,r,f,H,reg,u,C,j,_⟩:=h;exact u.fp ((j i).1 y)
theorem JC.keeps{S}(h:JC w b G L1 L2)(hk:X4 S w w')(E:∀i,G i->¬S i):JC w' b G L1 L2:=by obtain⟨a,F,M,n,r,f,H,reg,y,C,j,u⟩:=h;exact⟨a,F,M,n,r,f,H,reg,y.keeps hk (fun i D=>E i ((j i).2 D)),C,j,u⟩
theorem JC.below(h:JC w b G L1 L2)(i:Bz w w'):JC w' b G L1 L2:=h.keeps (B9 i (fun _=>False)) (fun _ _=>id)
structure E5(L1 L2:List X6):Prop where
 ids:((L1++L2).map (·.id)).Nodup
 cnt:(L1++L2).length<=100
 ok:∀o∈L1++L2,KG o
 s1:∀o∈L1,o.side=1
 s2:∀o∈L2,o.side=2
theorem Qv9 l:(E7 l).map (·.id)=l.map fun x=>x.2.id:=by simp[E7]
theorem JC.lists(h:JC w b G L1 L2):E5 L1 L2:=by
 obtain⟨a,F,M,n,r,f,H,reg,y,i,C,rfl,rfl⟩:=h;have e:(H 1).L++(H 2).L=E7 (E8 H):=(NP _ _).symm;refine⟨?_,?_,?_,?_,?_⟩
 ·rw[e,Qv9];exact i.ids
 ·rw[e]
  have h1:=i.cnt;have h2:=y.ar.le;unfold E7;rw[UJ];omega
 ·rw[e]
  intro o j;obtain⟨x,u,rfl⟩:=Y4.1 j;exact i.ok x u
 ·intro o j
  obtain⟨x,u,rfl⟩:=Y4.1 j;exact i.side_of (.inl rfl) u
 intro o j;obtain⟨x,u,rfl⟩:=Y4.1 j;exact i.side_of (.inr rfl) u
end
set_option linter.unusedSimpArgs false
def T8(o:X6):Option Int:=if o.kind=2 then none else some o.price
def DL(lv:List Z7)(bu se:Int):Option Int->Int×Int
 |none=>(bu,se)
 |some p=>F8 lv p
def BZ(lv:List Z7)(bu se:Int)(o:X6):Int:=if o.side=1 then(DL lv bu se (T8 o)).1 else(DL lv bu se (T8 o)).2
def Qo(lv:List Z7)(bu se:Int)(o:X6)(q:Int)(lv':List Z7)(bu' se':Int):Prop:=
 lv'.length<=lv.length+1/\∀k,DL lv' bu' se' k=if k=T8 o then((DL lv bu se k).1+q*dB o,(DL lv bu se k).2+q*dS o)else DL lv bu se k
section
variable(w:World) (X:Nat) (t:TypeId) (cs:Array Value) (o:Nat) (A:Option Addr) (c:Nat) (lv:List Z7) (bu se:Int) (h:KF w X t cs o A c lv bu se) (z:X6)
theorem Pf(h:KF w X t cs o A c lv bu se)(y:MT lv bu se)(u:AH z)q(j:q=1\/q= -1)(hp:q= -1->z.qty<=BZ lv bu se z):Calls prog 236 #[IP (some (aD X o)),V6 z,I O q] w fun e w'=>(∃v,e=.returned v)/\∃lv' bu' se',UC w w' X t cs o A lv' bu' se'/\Qo lv bu se z q lv' bu' se':=by
 by_cases hk:z.kind=2
 ·have i:T8 z=none:=X0 hk
  refine(Qo3 w X t cs o A c lv bu se h y z u hk q j (fun e=>by have:=hp e;unfold BZ at this;rw[i]at this;exact this)).mono ?_;rintro e w'⟨h1,h2⟩;refine⟨h1,_,_,_,h2,Nat.le_succ _,fun k=>?_⟩;rw[i]
  cases k with
  |none=>rw[X0 rfl];rfl
  |some p=>rw[J8 Q3];rfl
 have i:T8 z=some z.price:=J8 hk;refine(Qr1 w X t cs o A c lv bu se h y z u hk q j (fun e=>by have:=hp e;unfold BZ at this;rw[i]at this;exact this)).mono ?_;rintro e w'⟨h1,lv',h2,C,D⟩;refine⟨h1,_,_,_,h2,C,fun k=>?_⟩;rw[i]
 cases k with
 |none=>rw[J8 Q3];rfl
 |some p=>
  show F8 lv' p=_;rw[D p]
  by_cases e:p=z.price
  ·rw[X0 e,X0 (by rw[e])];rfl
  rw[J8 e,J8 (fun h=>e (XG h))];rfl
end
def RW(o:X6):Bool:=((o.side ==1 ||o.side ==2) &&decide (1<=o.qty) &&decide (o.qty<=1000000)) && (o.kind ==2 || (decide (1<=o.price) &&decide (o.price<=1000000)))
theorem Qa o:RW o=true↔AH o:=by
 unfold RW AH;simp only[Bool.and_eq_true,Bool.or_eq_true,decide_eq_true_eq,beq_iff_eq];constructor
 ·rintro⟨⟨⟨a,b⟩,c⟩,d⟩;exact⟨a,⟨b,c⟩,d⟩
 rintro⟨a,⟨b,c⟩,d⟩;exact⟨⟨⟨a,b⟩,c⟩,d⟩
theorem Kk w z:Calls prog 234 #[V6 z] w fun e w'=>e=.returned (.bool (RW z))/\Bz w w':=by
 have E:=J6 (show Bz w (w.alloc (.cells #[I O z.id,I O z.side,I O z.kind,I O z.price,I O z.qty] 84))from(J9 _ w).alloc Q2 _);obtain⟨zi,zs,zk,N,Z⟩:=z;obtain⟨bb,i⟩:=exq (RW ⟨zi,zs,zk,N,Z⟩);rw[i];unfold RW at i;unfold V6;dsimp only at i E|-;go_enter func234,ntmps234
 by_cases u:zs=1
 ·have a4:=V4 u
  by_cases j:1<=Z
  ·have a2:=V7 j
   by_cases y:Z<=1000000
   ·have a3:=V7 y
    by_cases k:zk=2
    ·have k_:=V4 k
     have e:bb=true:=by rw[<-i];simp[u,j,y,k]
     subst e;clear i u j y k;go_wp2;go_ret;exact⟨rfl,E⟩
    have k_:=Z3 k
    by_cases C:1<=N
    ·have a0:=V7 C
     by_cases J:N<=1000000
     ·have a1:=V7 J
      have e:bb=true:=by rw[<-i];simp[u,j,y,k,C,J]
      subst e;clear i u j y k C J;go_wp2;go_ret;exact⟨rfl,E⟩
     have a1:=V9 J;have e:bb=false:=by rw[<-i];simp[u,j,y,k,C,J]
     subst e;clear i u j y k C J;go_wp2;go_ret;exact⟨rfl,E⟩
    have a0:=V9 C;have e:bb=false:=by rw[<-i];simp[u,j,y,k,C]
    subst e;clear i u j y k C;go_wp2;go_ret;exact⟨rfl,E⟩
   have a3:=V9 y;have e:bb=false:=by rw[<-i];simp[u,j,y]
   subst e;clear i u j y;go_wp2;go_ret;exact⟨rfl,E⟩
  have a2:=V9 j;have e:bb=false:=by rw[<-i];simp[u,j]
  subst e;clear i u j;go_wp2;go_ret;exact⟨rfl,E⟩
 have a4:=Z3 u
 by_cases D:zs=2
 ·have a5:=V4 D
  by_cases j:1<=Z
  ·have a2:=V7 j
   by_cases y:Z<=1000000
   ·have a3:=V7 y
    by_cases k:zk=2
    ·have k_:=V4 k
     have e:bb=true:=by rw[<-i];simp[u,D,j,y,k]
     subst e;clear i u D j y k;go_wp2;go_ret;exact⟨rfl,E⟩
    have k_:=Z3 k
    by_cases C:1<=N
    ·have a0:=V7 C
     by_cases J:N<=1000000
     ·have a1:=V7 J
      have e:bb=true:=by rw[<-i];simp[u,D,j,y,k,C,J]
      subst e;clear i u D j y k C J;go_wp2;go_ret;exact⟨rfl,E⟩
     have a1:=V9 J;have e:bb=false:=by rw[<-i];simp[u,D,j,y,k,C,J]
     subst e;clear i u D j y k C J;go_wp2;go_ret;exact⟨rfl,E⟩
    have a0:=V9 C;have e:bb=false:=by rw[<-i];simp[u,D,j,y,k,C]
    subst e;clear i u D j y k C;go_wp2;go_ret;exact⟨rfl,E⟩
   have a3:=V9 y;have e:bb=false:=by rw[<-i];simp[u,D,j,y]
   subst e;clear i u D j y;go_wp2;go_ret;exact⟨rfl,E⟩
  have a2:=V9 j;have e:bb=false:=by rw[<-i];simp[u,D,j]
  subst e;clear i u D j;go_wp2;go_ret;exact⟨rfl,E⟩
 have a5:=Z3 D;have e:bb=false:=by rw[<-i];simp[u,D]
 subst e;clear i u D;go_wp2;go_ret;exact⟨rfl,E⟩
theorem Jd7 w X t cs o A c lv bu se(h:KF w X t cs o A c lv bu se)z(i:z.side=1\/z.side=2)(hk:z.kind=2):Calls prog 235 #[IP (some (aD X o)),V6 z] w fun e w'=>e=.returned (I O (if z.side=1 then bu else se))/\Bz w w':=by
 have C:Bz w (w.alloc (.cells #[I O z.id,I O z.side,I O z.kind,I O z.price,I O z.qty] 84)):=(J9 _ w).alloc Q2 _;have y:=h.below C;obtain⟨y0,y1,y2⟩:=y.cells;have t1:=V4 hk;obtain⟨w1,N⟩:=exq (w.alloc (.cells #[I O z.id,I O z.side,I O z.kind,I O z.price,I O z.qty] 84));obtain⟨Z,J⟩:=exq w.heap.size;have u:=Z5 w 84 #[I O z.id,I O z.side,I O z.kind,I O z.price,I O z.qty];rw[N]at C y y0 y1 y2 u;rw[J]at u;have a1:=Z9 y.blk;have a0:=Z9 u;obtain⟨x1,x2⟩:=(show w1.cell? ⟨Z,1,none⟩=some (I O z.side)/\w1.cell? ⟨Z,2,none⟩=some (I O z.kind)from⟨by rw[X9 u];rfl,by rw[X9 u];rfl⟩);have j:=J6 C;obtain⟨v,D⟩:=exq (if z.side=1 then bu else se);rw[D];have Hv:=J6 D;unfold V6;clear h y C u y0;obtain i|i:=i
 ·have i1:RowKit.wrap64 (z.side-1)=0:=by unfold RowKit.wrap64;omega
  have E:=J6 i;clear i D hk;go_enter func235,ntmps235
  go_upto_region 1 with fail
  clear N J;go_wp2_with fail
  go_region
  all_goals go_wp2_with fail
  all_goals
   refine QA (DA rfl _ _ _) rfl ?_;refine⟨JK ?_,j.trans ?_⟩
   ·have h1:=Hv.out
    rw[X0 E.out]at h1;exact h1
   first
   |exact((Z2 Q5).alloc j.size _)
   |exact Z2 (Q5.alloc j.size _)
 have i1:RowKit.wrap64 (z.side-1)=1:=by unfold RowKit.wrap64;omega
 have E:=J6 i;clear i D hk;go_enter func235,ntmps235
 go_upto_region 1 with fail
 clear N J;go_wp2_with fail
 go_region
 all_goals go_wp2_with fail
 all_goals
  refine QA (DA rfl _ _ _) rfl ?_;refine⟨JK ?_,j.trans ?_⟩
  ·have h1:=Hv.out
   rw[J8 (by have:=E.out;omega)]at h1;exact h1
  first
  |exact((Z2 Q5).alloc j.size _)
  |exact Z2 (Q5.alloc j.size _)
theorem Jn7 w X t cs o A c lv bu se(h:KF w X t cs o A c lv bu se)(hs:lv.length<=99999)z(y:z.side=1\/z.side=2)(hk:z.kind≠2)(d3:1<=z.price/\z.price<=1000000):Calls prog 235 #[IP (some (aD X o)),V6 z] w fun e w'=>e=.returned (I O (if z.side=1 then(F8 lv z.price).1 else(F8 lv z.price).2))/\Bz w w':=by
 have Z:Bz w (w.alloc (.cells #[I O z.id,I O z.side,I O z.kind,I O z.price,I O z.qty] 84)):=(J9 _ w).alloc Q2 _;have C:=h.below Z;obtain⟨n,hn⟩:=exq lv.length;have b9:n<=99999:=Q0;have E:=C.cells.1;rw[hn]at E;obtain⟨w1,c6⟩:=exq (w.alloc (.cells #[I O z.id,I O z.side,I O z.kind,I O z.price,I O z.qty] 84));obtain⟨j,b1⟩:=exq w.heap.size;have u:=Z5 w 84 #[I O z.id,I O z.side,I O z.kind,I O z.price,I O z.qty];rw[c6]at Z C E u;rw[b1]at u;have d2:=Z9 C.blk;have a9:=Z9 u;obtain⟨x1,x2,x3⟩:=(show w1.cell? ⟨j,1,none⟩=some (I O z.side)/\w1.cell? ⟨j,2,none⟩=some (I O z.kind)/\w1.cell? ⟨j,3,none⟩=some (I O z.price)from⟨by rw[X9 u];rfl,by rw[X9 u];rfl,by rw[X9 u];rfl⟩);have c5:=Lu z.price 268 #[] A n c lv w1.drew (by rw[<-hn];exact CY QE Q0 (C.below (Z2 Q5)).row) h.ok.rank Q0 (R0 func268 Q4 rfl)
  (fun W q hm hW=>Jb3 q.1 q.2.1 q.2.2 z.price (by have:=h.ok.pr q hm;unfold MM;omega) (by unfold MM;omega) W)
 have c9:=J6 c5;have t1:=Z3 hk;obtain⟨H,Hn,a7,d6,d0⟩:=Xt9 h hn Z u y;obtain⟨v,hv⟩:=exq (if z.side=1 then(F8 lv z.price).1 else(F8 lv z.price).2);rw[hv];have Hv:=J6 hv;unfold V6;clear h C c5 Z u hk d3 y hn hv;go_enter func235,ntmps235
 go_upto_region 1 with fail
 clear c6 b1;go_wp2_with fail
 refine SP 11 (fun W=>W.cell? ⟨X,o,none⟩=some (.slice A n c)/\W.cell? ⟨j,3,none⟩=some (I O z.price)) Q4 ⟨E,x3⟩ (fun hS=>?_);refine tT 0 ?_;refine tT 1 ?_;refine tT 2 ?_;refine tT 3 ?_;refine tT 4 ?_;refine tT 5 ?_;refine VU 6 Q4 rfl (fun K1 D=>?_);go_simp;refine c9.mono ?_;rintro e w2⟨N,k,b5,a5,a6,rfl⟩;obtain⟨fb,a0⟩:=exq (LV lv z.price n k);rw[a0];have d5:=(N.cell (p:=⟨X,o,none⟩) d2).trans E;have d4:=(N.cell (p:=⟨j,3,none⟩) a9).trans x3;refine D _ _ ⟨d5,d4⟩ (fun hS=>?_);clear D;refine tT 7 ?_;refine tT 8 ?_;refine tT 9 ?_;refine tT 10 ?_;refine TV Q4 rfl (fun K1 D=>?_);go_simp;refine D _ _ (TZ Q4 ?_ _);clear D;have a2:=J6 N;clear N hS;have i:=J6 (show Bz w w2 from a7.trans ((Z2 (J9 _ w1)).trans (a2.mono a7.size)));have d9:w2.cell? ⟨j,1,none⟩=some (I O z.side):=(a2.cell (p:=⟨j,1,none⟩) a9).trans x1
 cases fb with
 |false=>
  obtain⟨c7,c8⟩:=Xt6 a5 a6;clear a5 a6;go_wp2_with fail
  refine QA (DA rfl _ _ _) rfl ?_;refine⟨JK ?_,i⟩;have h1:=Ux (Le Hn H.ok.rank a0 c7 c8);have h2:=Hv.out;rw[h1]at h2;rw[<-h2]
  split<;>rfl
 |true=>
  obtain⟨a1,b8⟩:=Lt Hn a0;obtain⟨-,J⟩:=UW.found H i a1 b8;have a4:=H.below i;obtain⟨g,d1,-⟩:=a4.row.elem QE Q0 a1;subst d1;obtain⟨-,l1,l2⟩:=Kr a4.row a1;generalize lv[k].2.1=b0 at l1 J;generalize lv[k].2.2=s0 at l2 J;have a8:=J6 J;have d8:(k:Int)<(n:Int):=by have:=Hn.out;omega
  have d7:(0:Int)<=(k:Int):=Q0;have b2:j<w2.heap.size:=by have:=a2.size;have:w1.heap.size<=w2.heap.size:=this;omega
  clear a0 a5 a6 a4 a1 b8 J E x1 x2 x3;obtain y|y:=d0.out
  ·have i1:RowKit.wrap64 (z.side-1)=0:=by unfold RowKit.wrap64;clear b9 b5 b2;omega
   have a3:=J6 y;clear y;go_wp2_with fail
   go_region
   all_goals go_wp2_with fail
   all_goals
    refine QA (DA rfl _ _ _) rfl ?_;refine⟨JK ?_,i.trans ?_⟩
    ·have h1:=Hv.out
     rw[X0 a3.out,a8.out]at h1;exact h1
    first
    |exact((Z2 Q5).alloc i.size _)
    |exact Z2 (Q5.alloc i.size _)
  have i1:RowKit.wrap64 (z.side-1)=1:=by unfold RowKit.wrap64;clear b9 b5 b2;omega
  have a3:=J6 y;clear y;go_wp2_with fail
  go_region
  all_goals go_wp2_with fail
  all_goals
   refine QA (DA rfl _ _ _) rfl ?_;refine⟨JK ?_,i.trans ?_⟩
   ·have h1:=Hv.out
    rw[J8 (by have:=a3.out;omega),a8.out]at h1;exact h1
   first
   |exact((Z2 Q5).alloc i.size _)
   |exact Z2 (Q5.alloc i.size _)
theorem Qe5 w X t cs o A c lv bu se(h:KF w X t cs o A c lv bu se)(j:lv.length<=99999)z(i:AH z):Calls prog 235 #[IP (some (aD X o)),V6 z] w fun e w'=>e=.returned (I O (BZ lv bu se z))/\Bz w w':=by
 unfold BZ
 by_cases hk:z.kind=2
 ·rw[show T8 z=none from X0 hk]
  exact Jd7 w X t cs o A c lv bu se h z i.1 hk
 rw[show T8 z=some z.price from J8 hk];exact Jn7 w X t cs o A c lv bu se h j z i.1 hk (i.2.2.resolve_left hk)
theorem NU{w g t a b c d e}(h:J7 w g t #[a,b,c,d,e]):w.cell? (aD g 0)=some a/\w.cell? (aD g 1)=some b/\w.cell? (aD g 2)=some c/\w.cell? (aD g 3)=some d/\w.cell? (aD g 4)=some e:=
 ⟨by rw[X9 h];rfl,by rw[X9 h];rfl,by rw[X9 h];rfl,by rw[X9 h];rfl,by rw[X9 h];rfl⟩
theorem UC.pre{w w1 w' X t cs o A lv' bu' se'}(h:UC w1 w' X t cs o A lv' bu' se')(j:Bz w w1):UC w w' X t cs o A lv' bu' se':=by obtain⟨u,A',c',h1,h2,y,C,D⟩:=h;exact⟨u,A',c',h1,h2,y,(B9 j _).trans C (fun i e=>.inl e),fun g E=>(D g E).imp id (fun e=>U4 j.size e)⟩
def YG(lv:List Z7)(bu se:Int)(z:X6)(q:Int):Int:=if RW z=true then(if q= -1/\BZ lv bu se z<z.qty then 8 else 0)else 1
def GU(lv:List Z7)(bu se:Int)(z:X6)(q:Int)(lv':List Z7)(bu' se':Int):Prop:=if YG lv bu se z q=0 then Qo lv bu se z q lv' bu' se' else lv'=lv/\bu'=bu/\se'=se
theorem Ew w X t cs o A c lv bu se(h:KF w X t cs o A c lv bu se)(N:MT lv bu se)z:Calls prog 212 #[IP (some (aD X o)),V6 z] w fun e w'=>e=.returned (Y9 (YG lv bu se z 1))/\∃lv' bu' se',UC w w' X t cs o A lv' bu' se'/\GU lv bu se z 1 lv' bu' se':=by
 have E:Bz w (w.alloc (.cells #[I O z.id,I O z.side,I O z.kind,I O z.price,I O z.qty] 84)):=(J9 _ w).alloc Q2 _;have D:=Z5 w 84 #[I O z.id,I O z.side,I O z.kind,I O z.price,I O z.qty];obtain⟨H,HS,y,Z⟩:=Xt8 h N E D;have a0:=Z9 D;clear h N E D;unfold V6
 cases C:RW z with
 |false=>
  have i:=J6 C;clear C;go_enter func212,ntmps212
  go_wp2_with (go_at_call 234;refine(Kk _ z).mono ?_;rintro e w2⟨rfl,j⟩;rw[i.out];have u:=J6 j;clear j)
  refine QA (DA rfl _ _ _) rfl ?_;have ht:YG lv bu se z 1=1:=by unfold YG;rw[i.out];rfl
  refine⟨by rw[ht];rfl,lv,bu,se,UC.same H (y.trans (u.mono y.size)),?_⟩;unfold GU;rw[ht,J8 Q1];exact⟨rfl,rfl,rfl⟩
 |true=>
  have i:=J6 C;clear C;go_enter func212,ntmps212
  go_wp2_with (first|(go_at_call 234;refine(Kk _ z).mono ?_;rintro e w2⟨rfl,j⟩;rw[i.out];obtain⟨x0,x1,x2,x3,x4⟩:=NU (Z4 Z j);have u:=J6 (y.trans (j.mono y.size));clear j)|(go_at_call 236;refine(Pf _ X t cs o A c lv bu se z (H.below u) HS ((Qa z).1 i) 1 (.inl rfl) (fun e=>by cases e)).mono ?_;rintro e w3⟨⟨v,rfl⟩,J⟩;have HD:=J6 J;clear J))
  refine QA (DA rfl _ _ _) rfl ?_;have ht:YG lv bu se z 1=0:=by unfold YG;rw[i.out];rfl
  obtain⟨lv',bu',se',h1,h2⟩:=HD.out;refine⟨by rw[ht];rfl,lv',bu',se',h1.pre u,?_⟩;unfold GU;rw[ht,X0 rfl];exact h2
theorem Qa0 w X t cs o A c lv bu se(h:KF w X t cs o A c lv bu se)(hs:MT lv bu se)z:Calls prog 204 #[IP (some (aD X o)),V6 z] w fun e w'=>e=.returned (Y9 (YG lv bu se z (-1)))/\∃lv' bu' se',UC w w' X t cs o A lv' bu' se'/\GU lv bu se z (-1) lv' bu' se':=by
 have a2:Bz w (w.alloc (.cells #[I O z.id,I O z.side,I O z.kind,I O z.price,I O z.qty] 84)):=(J9 _ w).alloc Q2 _;have a1:=Z5 w 84 #[I O z.id,I O z.side,I O z.kind,I O z.price,I O z.qty];obtain⟨H,HS,C,E⟩:=Xt8 h hs a2 a1;have a3:=Z9 a1;clear h hs a2 a1;unfold V6
 cases Z:RW z with
 |false=>
  have j:=J6 Z;clear Z;go_enter func204,ntmps204
  go_wp2_with (go_at_call 234;refine(Kk _ z).mono ?_;rintro e w2⟨rfl,i⟩;rw[j.out];have u:=J6 i;clear i)
  refine QA (DA rfl _ _ _) rfl ?_;have ht:YG lv bu se z (-1)=1:=by unfold YG;rw[j.out];rfl
  refine⟨by rw[ht];rfl,lv,bu,se,UC.same H (C.trans (u.mono C.size)),?_⟩;unfold GU;rw[ht,J8 Q1];exact⟨rfl,rfl,rfl⟩
 |true=>
  have j:=J6 Z;clear Z
  by_cases D:BZ lv bu se z<z.qty
  ·have d1:=V7 D
   have N:=J6 D;clear D;go_enter func204,ntmps204
   go_wp2_with (go_at_call 234;refine(Kk _ z).mono ?_;rintro e w2⟨rfl,i⟩;rw[j.out];obtain⟨x0,x1,x2,x3,x4⟩:=NU (Z4 E i);have u:=J6 (C.trans (i.mono C.size));have a0:=J6 (Z4 E i);clear i)
   go_region_with (go_at_call 235;refine(Qe5 _ X t cs o A c lv bu se (H.below (Z2 u)) HS.n z ((Qa z).1 j)).mono ?_;rintro e w3⟨rfl,y⟩;obtain⟨y0,y1,y2,y3,y4⟩:=NU (Z4 (Y6 a0) y);have J:=J6 ((Z2 u).trans (y.mono u.size));clear y)
   all_goals go_wp2_with fail
   all_goals
    refine QA (DA rfl _ _ _) rfl ?_;have ht:YG lv bu se z (-1)=8:=by unfold YG;rw[j.out,X0 rfl,X0 ⟨rfl,N.out⟩]
    refine⟨by rw[ht];rfl,lv,bu,se,UC.same H J,?_⟩;unfold GU;rw[ht,J8 Q1];exact⟨rfl,rfl,rfl⟩
  have d1:=V9 D;have N:=J6 D;clear D;go_enter func204,ntmps204
  go_wp2_with (go_at_call 234;refine(Kk _ z).mono ?_;rintro e w2⟨rfl,i⟩;rw[j.out];obtain⟨x0,x1,x2,x3,x4⟩:=NU (Z4 E i);have u:=J6 (C.trans (i.mono C.size));have a0:=J6 (Z4 E i);clear i)
  go_region_with (go_at_call 235;refine(Qe5 _ X t cs o A c lv bu se (H.below (Z2 u)) HS.n z ((Qa z).1 j)).mono ?_;rintro e w3⟨rfl,y⟩;obtain⟨y0,y1,y2,y3,y4⟩:=NU (Z4 (Y6 a0) y);have J:=J6 ((Z2 u).trans (y.mono u.size));clear y)
  all_goals go_wp2_with (go_at_call 236;refine(Pf _ X t cs o A c lv bu se z (H.below J) HS ((Qa z).1 j) (-1) (.inr rfl) (fun _=>by have:=N.out;omega)).mono ?_;rintro e w4⟨⟨v,rfl⟩,hd⟩;have HD:=J6 hd;clear hd)
  all_goals
   refine QA (DA rfl _ _ _) rfl ?_;have ht:YG lv bu se z (-1)=0:=by unfold YG;rw[j.out,X0 rfl,J8 (fun e=>by have:=N.out;have:=e.2;omega)]
   obtain⟨lv',bu',se',h1,h2⟩:=HD.out;refine⟨by rw[ht];rfl,lv',bu',se',h1.pre J,?_⟩;unfold GU;rw[ht,X0 rfl];exact h2
section
open Go.Lib
theorem Jn8:(prog.info? 84).map (fun i=>(i.hasPointers,i.bytes,i.size))=some (false,40,5):=Q4
theorem Jd8:(prog.info? 91).map (fun i=>i.desc)=some (.slice 84):=Q4
theorem Me:∃ie,prog.info? 84=some ie/\ie.hasPointers=false/\ie.bytes=40/\ie.size=5:=by
 have h:=Jn8
 cases hi:prog.info? 84 with
 |none=>rw[hi]at h;cases h
 |some ie=>
  rw[hi]at h;injection h with h
  injection h with h1 h2
  injection h2 with h2 h3
  exact⟨ie,rfl,h1,h2,h3⟩
theorem Qr2:∃i,prog.info? 91=some i/\i.desc=.slice 84:=by
 have h:=Jd8
 cases hi:prog.info? 91 with
 |none=>rw[hi]at h;cases h
 |some ie=>
  rw[hi]at h;injection h with h
  exact⟨ie,rfl,h⟩
theorem Jz9 : Tryz.prog.funcs.findIdx? (·.name == "internal/reflectlite" ++ ".Swapper$" ++ toString 1) = some 182 := by kernel_rfl
theorem Xa0 : Tryz.prog.funcs.findIdx? (·.name == "internal/reflectlite" ++ ".Swapper$" ++ toString 2) = some 183 := by kernel_rfl
theorem Xa1 : Tryz.prog.funcs.findIdx? (·.name == "internal/reflectlite" ++ ".Swapper$" ++ toString 9) = some 190 := by kernel_rfl
def LD(n:Nat):Nat:=if n=0 then 182 else if n=1 then 183 else 190
def SY(P:Program)(p:Option Addr)(n c:Nat):Array Value:=if n<=1 then #[]else #[.slice p n c,typeHandle P 84]
def Jb(p:Option Addr)(n c:Nat)(w:World):World:=(w.alloc (.cells #[.slice p n c] 91)).alloc (.cells #[IP (some ⟨12,91,none⟩),IP (some ⟨w.heap.size,0,none⟩),.int .u64 151] 183)
theorem Qm7(p:Option Addr)(n c:Nat)(hn:n<=1000000)(lf:Fn)(la lb:Array Value)(w:World)(R:World->Prop)(hp:Calls prog 132 #[.agg #[.func lf la lb,.func (.func (LD n)) #[] (SY prog p n c)],I O n] (Jb p n c w) fun e w'=>e=.returned (.tuple #[])/\R w'):Calls prog 89 #[.iface 91 (.slice p n c),.func lf la lb] w fun e w'=>e=.returned (.tuple #[])/\R w':=by
 obtain⟨ie,hie,q1,q2,q3⟩:=Me;obtain⟨i,hi,hd⟩:=Qr2
 have hf : Tryz.prog.funcs.findIdx? (·.name == "internal/reflectlite" ++ ".Swapper$" ++ toString (swapperK n ie 25)) = some (LD n) := by
  by_cases h0:n=0
  ·subst h0
   have e:swapperK 0 ie 25=1:=by simp[swapperK]
   rw[e];unfold LD;rw[X0 rfl];exact Jz9
  by_cases h1:n=1
  ·subst h1
   have e:swapperK 1 ie 25=2:=by simp[swapperK]
   rw[e];unfold LD;rw[J8 h0,X0 rfl];exact Xa0
  have e:swapperK n ie 25=9:=by have c1:(n ==0)=false:=Q7;have c2:(n ==1)=false:=Q7;simp[swapperK,q1,q2,c1,c2]
  rw[e];unfold LD;rw[J8 h0,J8 h1];exact Xa1
 have hb:(if swapperK n ie 25<=2 then(#[]:Array Value)else #[.slice p n c,typeHandle prog 84])=SY prog p n c:=by
  unfold SY
  by_cases h1:n<=1
  ·have:swapperK n ie 25<=2:=by
    rcases(by omega:n=0\/n=1)with rfl|rfl
    ·simp[swapperK]
    simp[swapperK]
   rw[X0 h1,X0 this]
  have e:swapperK n ie 25=9:=by have c1:(n ==0)=false:=Q7;have c2:(n ==1)=false:=Q7;simp[swapperK,q1,q2,c1,c2]
  rw[J8 h1,e,J8 Q0]
 have hv:=run_valueOf_slice (P:=prog) 91 84 i hi hd p n c w;have hs:=fun w=>run_swapper_slice (P:=prog) 91 84 i ie hi hd hie 25 (fun _=>Q4) p n c (LD n) hf w
 have hl:=fun a w ha=>run_valueLen_slice (P:=prog) 91 84 i hi hd Q4 a p n c w ha
 unfold Jb at hp;rw[hb]at hs;generalize SY prog p n c=B at hs hp;generalize LD n=f at hs hp;have hg:prog.globals.size=12:=Q4;simp only[typeHandle,hg]at hv hl;have HP:=J6 hp;clear hp hf hb hi hd hie q1 q2 q3;go_enter func89,ntmps89
 go_wp2_with fail
 rw[As func130 Q4 Q4 Q4 (e:=fun args=>Extern.ReflectliteValue.unpack (args.getD 0 (.tuple #[]))) Q4,show Sem.run prog ((fun args:Array Value=>Extern.ReflectliteValue.unpack (args.getD 0 (.tuple #[]))) #[.iface 91 (.slice p n c)]) w=_ from hv];simp only[Result.andThen];rw[Oper.upon_value];go_wp2_with fail
 rw [run_callFunc_extern Tryz.func131 (by kernel_rfl) (by kernel_rfl) (by kernel_rfl) (e := Extern.ReflectliteSwapper.swapper "internal/reflectlite" (Extern.ReflectliteValue.valueError "Swapper")) (by kernel_rfl), hs];simp only[Result.andThen];rw[Oper.upon_value];go_wp2_with fail
 rw [run_callFunc_extern Tryz.func133 (by kernel_rfl) (by kernel_rfl) (by kernel_rfl) (e := Extern.ReflectliteValue.method (Extern.ReflectliteValue.valueError "reflectlite.Value.Len" 0) Extern.ReflectliteValue.len) (by kernel_rfl),
  hl _ _ Q3]
 simp only[Result.andThen];rw[Oper.upon_value];go_wp2_with fail
 refine HP.out.mono ?_;rintro e w'⟨rfl,hR⟩;go_wp2_with fail
 go_end0
 exact⟨rfl,hR⟩
structure MN(w0:World)(bs bo br g c:Nat)(side:Int)(n:Nat)(W:World)(l:List X6):Prop where
 row:X8 W (sA g) n c 84 5 (X7 U0 l)
 len:l.length=n
 price:∀o∈l,-1000000000<=o.price/\o.price<=1000000000
 cbo:W.cell? (aD bo 0)=some (.slice (sA g) n c)
 cbr:W.cell? (aD br 0)=some (.func (.func 88) #[] #[pA bs])
 cbs:W.cell? (aD bs 0)=some (I O side)
 ne:bo≠g/\br≠g/\bs≠g
 keep:X4 (fun k=>k=g) w0 W
section
variable {w0 W W':World} {bs bo br g c n:Nat} {side:Int} {l:List X6}
theorem MN.lt(h:MN w0 bs bo br g c side n W l):g<W.heap.size:=h.row.lt rfl
theorem MN.below(h:MN w0 bs bo br g c side n W l)(hb:Bz W W'):MN w0 bs bo br g c side n W' l:=
 ⟨h.row.below hb,h.len,h.price,(hb.cell (U5 W _ h.cbo)).trans h.cbo,(hb.cell (U5 W _ h.cbr)).trans h.cbr,(hb.cell (U5 W _ h.cbs)).trans h.cbs,h.ne,h.keep.then_ hb⟩
theorem MN.put(h:MN w0 bs bo br g c side n W l){l':List X6}(hl:l'.length=n)(hp:∀o∈l',o∈l)(hr:X8 W' (sA g) n c 84 5 (X7 U0 l'))(hk:X4 (fun k=>k=g) W W'):MN w0 bs bo br g c side n W' l':=
 ⟨hr,hl,fun o ho=>h.price o (hp o ho),(hk.cell (U5 W _ h.cbo) h.ne.1).trans h.cbo,(hk.cell (U5 W _ h.cbr) h.ne.2.1).trans h.cbr,(hk.cell (U5 W _ h.cbs) h.ne.2.2).trans h.cbs,h.ne,h.keep.trans hk (fun i e=>.inl e)⟩
theorem Jn9{α:Type}{l:List α}{i j:Nat}{x:α}(h:x∈BS l i j):x∈l:=by
 unfold BS at h
 split at h
 ·rename_i a b h1 h2
  obtain h|rfl:=RJ h
  ·obtain h|rfl:=RJ h
   ·exact h
   exact Ve h2
  exact Ve h1
 exact h
theorem Xi7(h2:2<=n):CE 90 #[pA br,pA bo] (LD n) (SY prog (sA g) n c) g n (VG side) (MN w0 bs bo br g c side n)where
 eg:=R0 func90 Q4 rfl
 less:=fun W l i j h hl hi hj hij=>by obtain⟨x0,x1,x2,x3,x4⟩:=ER h.row hi;obtain⟨y0,y1,y2,y3,y4⟩:=ER h.row hj;have hx:=h.price _ (C7 hi);have hy:=h.price _ (C7 hj);have hc:=Jy4 bs bo br g n c i j side l[i] l[j] W ⟨h.cbs,h.cbo,h.cbr,x0,x1,x2,x3,x4,y0,y1,y2,y3,y4,J9 _ _⟩ Q0 Q0 hx.1 hx.2 hy.1 hy.2;exact hc.mono fun e w'⟨h1,h2⟩=>⟨h1,h.below h2,B9 h2 _⟩
 swap:=fun W l i j h hl hi hj hij=>by
  obtain⟨ie,hie,q1,q2,q3⟩:=Me;have hi':i<l.length:=Q0;have hj':j<l.length:=Q0;have cc:∀x,(hx:x<l.length)->∀u v,(U0 l[x])[u]?=some v->W.cell? ⟨g,0+x*ie.size+u,none⟩=some v:=fun x hx u v hv=>by
   obtain⟨g',hg,hcell⟩:=h.row.elem JG Q0 hx
   cases hg;rw[q3,KC];exact hcell u v hv
  have hsw:=run_swap_cells (P:=prog) false 84 ie hie (fun _=>Q4) g 0 n c i j hi hj (U0 l[i]) (U0 l[j]) (by rw[q3];rfl) (by rw[q3];rfl) (BL _) (BL _) W (cc i hi') (cc j hj')
   (fun k _=>h.row.frozen _) (fun k _=>h.row.frozen _)
  have ef:LD n=190:=by unfold LD;rw[J8 Q0,J8 Q0]
  have eb:SY prog (some ⟨g,0,none⟩) n c= #[.slice (some ⟨g,0,none⟩) n c,typeHandle prog 84]:=by unfold SY;rw[J8 Q0]
  rw[ef,eb];refine⟨(W.setCells g (0+i*ie.size) (U0 l[j])).setCells g (0+j*ie.size) (U0 l[i]),?_,?_,?_⟩
  ·rw[As func190 Q4 Q4 Q4 (e:=Extern.ReflectliteSwapper.swap false) Q4,show(#[Value.int .i64 (i:Int),Value.int .i64 (j:Int)]++ #[Value.slice (some ⟨g,0,none⟩) n c,typeHandle prog 84])= #[I O i,I O j,.slice (some ⟨g,0,none⟩) n c,typeHandle prog 84]from rfl,hsw]
   rfl
  ·refine h.put (by rw[Qq4];exact hl) (fun o ho=>Jn9 ho) ?_ ((TQ _ _ _ _).trans (TQ _ _ _ _) (fun i e=>.inl e))
   rw[Jy0 hi' hj',q3,KC,KC];have r1:=h.row.sets (U0 l[j]) W _ (i*5);rw[TB JG _ _ _ hi']at r1;have r2:=r1.sets (U0 l[i]) _ _ (j*5)
   rwa [TB JG _ _ _ (by simpa using hj')]at r2
  exact(TQ _ _ _ _).trans (TQ _ _ _ _) (fun i e=>.inl e)
 alloc:=fun W l o h=>h.below (Q5.alloc Q2 _)
 lt:=fun W l h=>h.lt
end
def NY(l:List X6):List (X6×Nat):=l.zipIdx
theorem Sd(l:List X6):PP (NY l):=by unfold PP NY;rw[GG];intro i j hi hj hij;simp;exact hij
theorem Qa1(l:List X6):(NY l).map (·.1)=l:=by unfold NY;simp
theorem Qm8(w:World)(bs bo br c n:Nat)(A:Option Addr)(side:Int)(l:List X6)(hn:n<=100000)(hr:X8 w A n c 84 5 (X7 U0 l))(hp:∀o∈l,-1000000000<=o.price/\o.price<=1000000000)(h1:w.cell? (aD bo 0)=some (.slice A n c)) (h2:w.cell? (aD br 0)=some (.func (.func 88) #[] #[pA bs])) (h3:w.cell? (aD bs 0)=some (I O side)) (hne:∀g,X5 A=some g->bo≠g/\br≠g/\bs≠g):Calls prog 89 #[.iface 91 (.slice A n c),.func (.func 90) #[] #[pA br,pA bo]] w fun e w'=>e=.returned (.tuple #[])/\(X8 w' A n c 84 5 (X7 U0 (BR (VG side) l))/\X4 (fun k=>X5 A=some k) w w'):=by
 have hl:l.length=n:=YU JG Q0 hr;have hbw:Bz w (Jb A n c w):=((J9 _ w).alloc Q2 _).alloc Q3 _;refine Qm7 A n c Q0 _ _ _ w _ ?_
 by_cases hs:2<=n
 ·obtain⟨g,hA,-⟩:=hr.elem JG Q0 (i:=0) Q0
  subst hA;obtain⟨n1,n2,n3⟩:=hne g rfl;have hst:MN w bs bo br g c side n (Jb (some ⟨g,0,none⟩) n c w) l:=
   ⟨hr.below hbw,hl,hp,(hbw.cell (U5 w _ h1)).trans h1,(hbw.cell (U5 w _ h2)).trans h2,(hbw.cell (U5 w _ h3)).trans h3,⟨n1,n2,n3⟩,B9 hbw _⟩
  have E:=(Xi7 (w0:=w) (bs:=bs) (bo:=bo) (br:=br) (g:=g) (c:=c) (side:=side) hs).tag;have hc:=Pd E Q0 (Jb (some ⟨g,0,none⟩) n c w) (NY l) (Sd l) (by rw[Qa1];exact hst) (by unfold NY;simpa using hl);refine hc.mono ?_;rintro e w'⟨rfl,⟨T,hpT,hsT,hST⟩,-⟩;have e1:T.map (·.1)=BR (VG side) l:=Ro hpT hsT;rw[e1]at hST;exact⟨rfl,hST.row,hST.keep.mono (fun i e=>by rw[e];rfl)⟩
 have E:CE (α:=X6×Nat) 90 #[IP (some ⟨br,0,none⟩),IP (some ⟨bo,0,none⟩)] (LD n) (SY prog A n c) bo n (fun x=>VG side x.1) (fun W T=>Bz w W/\T=NY l):=
  {eg:=R0 func90 Q4 rfl,less:=fun W l i j h hl hi hj hij=>absurd hij Q0,swap:=fun W l i j h hl hi hj hij=>absurd hij Q0,alloc:=fun W l o h=>⟨h.1.alloc h.1.size _,h.2⟩,lt:=fun W l h=>D0 (U5 w _ h1) h.1.size}
 have hc:=Pd E Q0 (Jb A n c w) (NY l) (Sd l) ⟨hbw,rfl⟩ (by unfold NY;simpa using hl);refine hc.mono ?_;rintro e w'⟨rfl,⟨T,hpT,hsT,hB,rfl⟩,-⟩;have e1:(NY l).map (·.1)=BR (VG side) l:=Ro hpT hsT;rw[Qa1]at e1;exact⟨rfl,by rw[<-e1];exact hr.below hB,B9 hB _⟩
end
theorem Jo0{w a Q g cs}(hp:a.tmps.getD 4 undef=pA g)(i:a.defers=[])(j:J7 w g 99 cs) (h2:cs.size=3) (h:Q (.returned (.agg cs)) w):bodyPost prog Tryz.f153 Q .ret a w:=
 QA (WE Tryz.results153 a.tmps w g _ cs (0,0) _ hp j underlying99 rfl (by rw[h2];kernel_rfl)) i h
theorem Jo1 w X t cs o A c lv bu se(h:KF w X t cs o A c lv bu se)(hs:CT lv bu se)r(hr: -1099511627776<=r/\r<=1099511627776)(hN:∀p∈ZV lv bu se r,AY p)(hl:(ZV lv bu se r).length<=100000):Calls prog 153 #[IP (some (aD X o)),I O r] w fun e w'=>e=.returned (QW (ZM (ZV lv bu se r) r))/\Bz w w':=by
 have y:Bz w (w.alloc (.cells #[I O 0,I O 0,I O 0] 99)):=(J9 _ w).alloc Q2 _;obtain⟨Z,J,E,HX⟩:=Xt8 (Jd0 _ X t cs o A c lv bu se (h.below y) hs r) (fun(W:World)(A:Option Addr)(c:Nat)(hR:X8 W A (ZV lv bu se r).length c 323 3 (X7 Y8 (ZV lv bu se r)))=>Jb0 A _ c r hr (ZV lv bu se r) W (CY QE Q0 hR) hN hl) y (Z5 w 99 #[I O 0,I O 0,I O 0]);obtain⟨⟨t0,t1,t2⟩,D⟩:∃q,Hid (ZM (ZV lv bu se r) r=q):=⟨_,J6 rfl⟩;rw[D.out];clear h hs hN hl y;go_enter func153,ntmps153
 go_wp2_with fail
 refine Z.mono ?_;rintro e w2⟨a1,A2,c2,rfl,a0⟩;have j:=J.out w2 A2 c2 a0;rw[D.out]at j;unfold QW at j;dsimp only at j;obtain⟨N,u⟩:=Xt6 j a1;clear j a1 a0 J Z;go_wp2_with fail
 refine N.mono ?_;rintro e w3⟨rfl,C⟩;have i:=Z4 (Z4 HX u) C;have a4:=K0 i 0;have a5:=K0 i 1;have a6:=K0 i 2;obtain⟨z0,z1,z2⟩:w3.cell? (aD (zS w) 0)=some (I O 0)/\w3.cell? (aD (zS w) 1)=some (I O 0)/\w3.cell? (aD (zS w) 2)=some (I O 0):=⟨by rw[X9 i];rfl,by rw[X9 i];rfl,by rw[X9 i];rfl⟩;obtain⟨a3,a2⟩:=Xt6 i (E.trans ((u.trans (C.mono u.size)).mono E.size));clear i C N;go_wp2_with fail
 refine Jo0 (g:=zS w) (cs:= #[I O t0,I O t1,I O t2]) Q6 Q6 (Z0 (Z0 (Z0 a3 0 _) 1 _) 2 _) rfl ?_;exact⟨rfl,((a2.setCell Q2 _).setCell Q2 _).setCell Q2 _⟩
