/- Contracts and walks that the law's proof needs. -/
import Derived.Test.YtbmiieehkkfbgaaGreatDoorZd13
import Derived.Test.YtbmiieehkkfbgaaGreatDoorZd8
import Derived.Test.YtbmiieehkkfbgaaGreatDoorZd11
import Derived.Test.YtbmiieehkkfbgaaGreatDoorZd1
set_option linter.unusedVariables false
set_option maxRecDepth 100000
set_option maxHeartbeats 8000000
namespace Go.Proofs.YtbmiieehkkfbgaaGreatDoor
open Go.RowKit
structure HS where
 mA:Option Addr
 mc:Nat
 qA:Option Addr
 qc:Nat
 ms:List HO
 qs:List QG
def HS.all (h:HS):List HO:=V2 h.ms h.qs
def HS.L (h:HS):List QX:=IX h.all
def HFp (h:HS) (i:Nat):Prop:=QZ h.mA=some i∨QZ h.qA=some i∨ ∃q∈h.qs,QZ q.A=some i
def UQ (s:Int):Prop:=s=1∨s=2
structure Qt6 (w:World) (reg:Nat→Int) (s:Int) (h:HS):Prop where
 rm:QW w h.mA h.ms.length h.mc 170 2 (JQ V9 (J7 h.ms))
 rq:QW w h.qA h.qs.length h.qc 236 2 (JQ OQ (h.qs.map QG.que))
 rl: ∀q∈h.qs,QW w q.A q.os.length q.c 170 2 (JQ V9 (J7 q.os))
 gm: ∀g,QZ h.mA=some g→reg g=s*10+1
 gq: ∀g,QZ h.qA=some g→reg g=s*10+2
 gl: ∀q∈h.qs,∀g,QZ q.A=some g→reg g=s*10+3
 nd:(h.qs.filterMap fun q=>QZ q.A).Nodup
section
variable {w w':World} {reg reg':Nat→Int} {s:Int} {h:HS}
theorem Qt6.fp (H:Qt6 w reg s h) {i:Nat} (hi:HFp h i):i<w.heap.size∧(reg i=s*10+1∨reg i=s*10+2∨reg i=s*10+3):=by
 rcases hi with hi|hi|⟨q,hq,hi⟩
 ·exact⟨H.rm.lt hi,.inl (H.gm i hi)⟩
 ·exact⟨H.rq.lt hi,.inr (.inl (H.gq i hi))⟩
 ·exact⟨(H.rl q hq).lt hi,.inr (.inr (H.gl q hq i hi))⟩
theorem Qt6.later {S:Nat→Prop} (H:Qt6 w reg s h) (hk:QK S w w') (hS: ∀i,S i→i<w.heap.size→reg i≠s*10+1∧reg i≠s*10+2∧reg i≠s*10+3) (hr: ∀i,i<w.heap.size→reg' i=reg i):Qt6 w' reg' s h:=by
 refine⟨H.rm.keeps hk ?_,H.rq.keeps hk ?_,fun q hq=>(H.rl q hq).keeps hk ?_,fun g hg=>(hr g (H.rm.lt hg)).trans (H.gm g hg),fun g hg=>(hr g (H.rq.lt hg)).trans (H.gq g hg),fun q hq g hg=>(hr g ((H.rl q hq).lt hg)).trans (H.gl q hq g hg),H.nd⟩
 ·intro g hg hs;exact(hS g hs (H.rm.lt hg)).1 (H.gm g hg)
 ·intro g hg hs;exact(hS g hs (H.rq.lt hg)).2.1 (H.gq g hg)
 ·intro g hg hs;exact(hS g hs ((H.rl q hq).lt hg)).2.2 (H.gl q hq g hg)
end
def Qp6 (s:Int):Nat:=if s=1 then 2 else 4
def IQ (a r:Nat) (H:Int→HS):Array Value:=
 #[.pointer (some ⟨a,0,none⟩),.map (some r),.slice (H 1).mA (H 1).ms.length (H 1).mc,.slice (H 1).qA (H 1).qs.length (H 1).qc,.slice (H 2).mA (H 2).ms.length (H 2).mc,.slice (H 2).qA (H 2).qs.length (H 2).qc]
def upH (H:Int→HS) (s:Int) (h:HS):Int→HS:=fun s'=>if s'=s then h else H s'
theorem VV (H:Int→HS) (s:Int) (h:HS):upH H s h s=h:=if_pos rfl
theorem UJ {H:Int→HS} {s s':Int} {h:HS} (e:s'≠s):upH H s h s'=H s':=if_neg e
structure XK (w:World) (b a:Nat) (F:Nat→Prop) (M:Int→Int→Option QX) (n r:Nat) (f:Int→Option Value) (H:Int→HS) (reg:Nat→Int):Prop where
 blk:QJ w b 182 (IQ a r H)
 ar:OAr w a F M 100 n
 mp:I7 w r f
 hx: ∀s,UQ s→Qt6 w reg s (H s)
 gb:reg b=1
 gr:reg r=2
 gF: ∀i,F i→reg i=3
def V6 (b r:Nat) (F:Nat→Prop) (H:Int→HS) (i:Nat):Prop:=i=b∨i=r∨F i∨HFp (H 1) i∨HFp (H 2) i
def KQ (w w':World) (G G':Nat→Prop):Prop:=QK G w w'∧ ∀i,G' i→G i∨w.heap.size≤i
theorem KQ.trans {w w1 w2:World} {G G1 G2:Nat→Prop} (h:KQ w w1 G G1) (k:KQ w1 w2 G1 G2):KQ w w2 G G2:=by
 have hs:=h.1.size
 refine⟨h.1.trans k.1 h.2,fun i hi=> ?_⟩
 rcases k.2 i hi with h'|h'
 ·exact h.2 i h'
 ·exact .inr (by omega)
theorem KQ.of_below {w w':World} {G:Nat→Prop} (h:Below w.heap.size w w'):KQ w w' G G:=⟨QK.of_below h _,fun i h=> .inl h⟩
section
variable {w w':World} {b a n r:Nat} {F:Nat→Prop} {M:Int→Int→Option QX} {f:Int→Option Value} {H:Int→HS} {reg:Nat→Int}
theorem XK.cells (h:XK w b a F M n r f H reg):w.cell? ⟨b,0,none⟩=some (.pointer (some ⟨a,0,none⟩))∧w.cell? ⟨b,1,none⟩=some (.map (some r))∧
  w.cell? ⟨b,2,none⟩=some (.slice (H 1).mA (H 1).ms.length (H 1).mc)∧w.cell? ⟨b,3,none⟩=some (.slice (H 1).qA (H 1).qs.length (H 1).qc)∧
  w.cell? ⟨b,4,none⟩=some (.slice (H 2).mA (H 2).ms.length (H 2).mc)∧w.cell? ⟨b,5,none⟩=some (.slice (H 2).qA (H 2).qs.length (H 2).qc):=by
 refine⟨?_, ?_, ?_, ?_, ?_, ?_⟩<;>(rw[QJ.cell h.blk];rfl)
theorem XK.fp (h:XK w b a F M n r f H reg) {i:Nat} (hi:V6 b r F H i):i<w.heap.size:=by
 rcases hi with rfl|rfl|hi|hi|hi
 ·exact QJ.lt h.blk
 ·exact h.mp.lt
 ·exact h.ar.fp hi
 ·exact((h.hx 1 (.inl rfl)).fp hi).1
 ·exact((h.hx 2 (.inr rfl)).fp hi).1
theorem XK.fpH (s:Int) (hs:UQ s) {i:Nat} (hi:HFp (H s) i):V6 b r F H i:=by
 rcases hs with rfl|rfl
 ·exact .inr (.inr (.inr (.inl hi)))
 ·exact .inr (.inr (.inr (.inr hi)))
theorem XK.keeps {S:Nat→Prop} (h:XK w b a F M n r f H reg) (hk:QK S w w') (hn: ∀i,V6 b r F H i→ ¬S i):XK w' b a F M n r f H reg:=by
 refine⟨QJ.keeps h.blk hk (hn b (.inl rfl)),h.ar.keeps hk (fun i hi=>hn i (.inr (.inr (.inl hi)))),h.mp.of_block (hk.block r h.mp.lt (hn r (.inr (.inl rfl)))),fun s hs=> ?_,h.gb,h.gr,h.gF⟩
 have X:=h.hx s hs
 exact⟨X.rm.keeps hk (fun g hg=>hn g (fpH s hs (.inl hg))),X.rq.keeps hk (fun g hg=>hn g (fpH s hs (.inr (.inl hg)))),fun q hq=>(X.rl q hq).keeps hk (fun g hg=>hn g (fpH s hs (.inr (.inr ⟨q,hq,hg⟩)))),X.gm,X.gq,X.gl,X.nd⟩
theorem XK.below (h:XK w b a F M n r f H reg) (hb:Below w.heap.size w w'):XK w' b a F M n r f H reg:=h.keeps (QK.of_below hb (fun _=>False)) (fun _ _=>id)
theorem XK.arena {M':Int→Int→Option QX} {n':Nat} (h:XK w b a F M n r f H reg) (ht:Jv4 w w' a F M' 100 n'):
  ∃F' reg',XK w' b a F' M' n' r f H reg'∧KQ w w' (V6 b r F H) (V6 b r F' H):=by
 obtain⟨F',hA,hK,hF⟩:=ht
 refine⟨F',fun i=>if i<w.heap.size then reg i else 3,⟨QJ.keeps h.blk hK ?_,hA,h.mp.of_block (hK.block r h.mp.lt ?_),fun s hs=>(h.hx s hs).later hK ?_ (fun i hi=>if_pos hi), ?_, ?_, ?_⟩,hK.mono (fun i hi=> .inr (.inr (.inl hi))), ?_⟩
 ·intro e;have:=h.gF b e;have:=h.gb;omega
 ·intro e;have:=h.gF r e;have:=h.gr;omega
 ·intro i hi _
  have:=h.gF i hi;rcases hs with rfl|rfl<;>omega
 ·rw[if_pos (QJ.lt h.blk)];exact h.gb
 ·rw[if_pos h.mp.lt];exact h.gr
 ·intro i hi
  rcases hF i hi with h1|h1
  ·rw[if_pos (h.ar.fp h1)];exact h.gF i h1
  ·rw[if_neg (by omega)]
 ·rintro i (rfl|rfl|hi|hi|hi)
  ·exact .inl (.inl rfl)
  ·exact .inl (.inr (.inl rfl))
  ·exact(hF i hi).imp (fun h=> .inr (.inr (.inl h))) id
  ·exact .inl (.inr (.inr (.inr (.inl hi))))
  ·exact .inl (.inr (.inr (.inr (.inr hi))))
theorem XK.map_ {f':Int→Option Value} (h:XK w b a F M n r f H reg) (ht:Qf5 w w' r) (hm:I7 w' r f'):XK w' b a F M n r f' H reg∧KQ w w' (V6 b r F H) (V6 b r F H):=by
 have hK:QK (fun i=>i=r) w w':=(Qg9 ht.grown).mono (fun i e=>by cases e;rfl)
 refine⟨⟨QJ.keeps h.blk hK ?_,h.ar.keeps hK ?_,hm,fun s hs=>(h.hx s hs).later hK ?_ (fun i hi=>rfl),h.gb,h.gr,h.gF⟩,hK.mono (fun i hi=> .inr (.inl hi)),fun i hi=> .inl hi⟩
 ·intro e;have:=h.gb;have:=h.gr;rw[e]at*;omega
 ·intro i hi e;have:=h.gF i hi;have:=h.gr;rw[e]at*;omega
 ·intro i hi _
  have:=h.gr;rw[hi];rcases hs with rfl|rfl<;>omega
theorem Jp0 {α:Type} {g:α→Option Nat}: ∀ {l:List α} {i k:Nat} {x:Nat} (_:(l.filterMap g).Nodup) (hi:i<l.length) (hk:k<l.length),i≠k→g l[i]=some x→g l[k]=some x→False
 | [],i,k,x,_,hi,_,_,_,_=>by simp at hi
 |a::l,i,k,x,h,hi,hk,hne,h1,h2=>by
  have ht:(l.filterMap g).Nodup:=by
   cases e:g a with
   |none=>rwa [List.filterMap_cons_none e]at h
   |some y=>rw[List.filterMap_cons_some e]at h;exact(List.nodup_cons.1 h).2
  cases i with
  |zero=>
   cases k with
   |zero=>exact hne rfl
   |succ k=>
    have h1':g a=some x:=h1;rw[List.filterMap_cons_some h1']at h;exact(List.nodup_cons.1 h).1 (List.mem_filterMap.2 ⟨l[k]'(by simpa using hk),List.getElem_mem _,by simpa using h2⟩)
  |succ i=>
   cases k with
   |zero=>
    have h2':g a=some x:=h2;rw[List.filterMap_cons_some h2']at h;exact(List.nodup_cons.1 h).1 (List.mem_filterMap.2 ⟨l[i]'(by simpa using hi),List.getElem_mem _,by simpa using h1⟩)
   |succ k=>exact Jp0 ht (by simpa using hi) (by simpa using hk) (fun e=>hne (by rw[e])) (by simpa using h1) (by simpa using h2)
theorem Qt7 {α:Type} (g:α→Option Nat) (q':α): ∀(l:List α) (k:Nat) (hk:k<l.length),(l.filterMap g).Nodup→(∀x,g q'=some x→g l[k]=some x∨ ∀y∈l,g y≠some x)→((l.set k q').filterMap g).Nodup
 | [],k,hk,_,_=>by simp at hk
 |a::l,0,hk,h,hq=>by
  rw[List.set_cons_zero]
  cases e:g q' with
  |none=>
   rw[List.filterMap_cons_none e]
   cases e2:g a with
   |none=>rwa [List.filterMap_cons_none e2]at h
   |some y=>rw[List.filterMap_cons_some e2]at h;exact(List.nodup_cons.1 h).2
  |some x=>
   rw[List.filterMap_cons_some e];rcases hq x e with h1|h1
   ·have h1':g a=some x:=h1
    rwa [List.filterMap_cons_some h1']at h
   ·refine List.nodup_cons.2 ⟨fun hx=> ?_, ?_⟩
    ·obtain⟨y,hy,hy2⟩:=List.mem_filterMap.1 hx
     exact h1 y (List.mem_cons_of_mem _ hy) hy2
    ·cases e2:g a with
     |none=>rwa [List.filterMap_cons_none e2]at h
     |some y=>rw[List.filterMap_cons_some e2]at h;exact(List.nodup_cons.1 h).2
 |a::l,k+1,hk,h,hq=>by
  rw[List.set_cons_succ];have hq': ∀x,g q'=some x→g (l[k]'(by simpa using hk))=some x∨ ∀y∈l,g y≠some x:=fun x hx=>(hq x hx).imp (fun h=>by simpa using h) (fun h y hy=>h y (List.mem_cons_of_mem _ hy))
  cases e2:g a with
  |none=>
   rw[List.filterMap_cons_none e2]at h⊢;exact Qt7 g q' l k (by simpa using hk) h hq'
  |some y=>
   rw[List.filterMap_cons_some e2]at h⊢;obtain⟨h1,h2⟩:=List.nodup_cons.1 h;refine List.nodup_cons.2 ⟨fun hx=> ?_,Qt7 g q' l k (by simpa using hk) h2 hq'⟩;obtain⟨z,hz,hz2⟩:=List.mem_filterMap.1 hx;rcases List.mem_or_eq_of_mem_set hz with hz|rfl
   ·exact h1 (List.mem_filterMap.2 ⟨z,hz,hz2⟩)
   ·rcases hq y hz2 with h3|h3
    ·exact h1 (List.mem_filterMap.2 ⟨l[k]'(by simpa using hk),List.getElem_mem _,by simpa using h3⟩)
    ·exact h3 a (by simp) e2
theorem Jl0 (H:Int→HS) {s:Int} (hs:UQ s) (h':HS) (e1:h'.qA=(H s).qA) (e2:h'.qc=(H s).qc) (e3:h'.qs.length=(H s).qs.length):
  (IQ a r H).setIfInBounds (Qp6 s) (.slice h'.mA h'.ms.length h'.mc)=IQ a r (upH H s h'):=by
 rcases hs with rfl|rfl
 ·unfold IQ Qp6
  rw[VV,UJ (by decide),e1,e2,e3]
  rfl
 ·unfold IQ Qp6
  rw[VV,UJ (by decide),e1,e2,e3]
  rfl
theorem Jl1 (H:Int→HS) {s:Int} (hs:UQ s) (h':HS) (e1:h'.mA=(H s).mA) (e2:h'.mc=(H s).mc) (e3:h'.ms.length=(H s).ms.length):
  (IQ a r H).setIfInBounds (Qp6 s+1) (.slice h'.qA h'.qs.length h'.qc)=IQ a r (upH H s h'):=by
 rcases hs with rfl|rfl
 ·unfold IQ Qp6
  rw[VV,UJ (by decide),e1,e2,e3]
  rfl
 ·unfold IQ Qp6
  rw[VV,UJ (by decide),e1,e2,e3]
  rfl
theorem Jv5 (H:Int→HS) {s:Int} (hs:UQ s) (h':HS) (e1:h'.mA=(H s).mA) (e2:h'.mc=(H s).mc) (e3:h'.ms.length=(H s).ms.length) (e4:h'.qA=(H s).qA) (e5:h'.qc=(H s).qc) (e6:h'.qs.length=(H s).qs.length):
  IQ a r (upH H s h')=IQ a r H:=by
 rcases hs with rfl|rfl
 ·unfold IQ
  rw[VV,UJ (by decide),e1,e2,e3,e4,e5,e6]
 ·unfold IQ
  rw[VV,UJ (by decide),e1,e2,e3,e4,e5,e6]
theorem Xj7 {s:Int} (hs:UQ s) {h':HS} {m:Nat} (hh: ∀i,HFp h' i→HFp (H s) i∨m≤i): ∀i,V6 b r F (upH H s h') i→V6 b r F H i∨m≤i:=by
 rintro i (rfl|rfl|hi|hi|hi)
 ·exact .inl (.inl rfl)
 ·exact .inl (.inr (.inl rfl))
 ·exact .inl (.inr (.inr (.inl hi)))
 ·rcases hs with rfl|rfl
  ·rw[VV]at hi
   exact(hh i hi).imp (fun h=> .inr (.inr (.inr (.inl h)))) id
  ·rw[UJ (by decide)]at hi
   exact .inl (.inr (.inr (.inr (.inl hi))))
 ·rcases hs with rfl|rfl
  ·rw[UJ (by decide)]at hi
   exact .inl (.inr (.inr (.inr (.inr hi))))
  ·rw[VV]at hi
   exact(hh i hi).imp (fun h=> .inr (.inr (.inr (.inr h)))) id
theorem XK.market (h:XK w b a F M n r f H reg) {s:Int} (hs:UQ s) {w3:World} {A':Option Addr} {c':Nat} {ms':List HO}
  (hK:QK (fun i=>QZ (H s).mA=some i) w w3) (hR:QW w3 A' ms'.length c' 170 2 (JQ V9 (J7 ms'))) (hat: ∀g,QZ A'=some g→QZ (H s).mA=some g∨w.heap.size≤g):
  ∃reg',XK (w3.setCell ⟨b,Qp6 s,none⟩ (.slice A' ms'.length c')) b a F M n r f (upH H s ⟨A',c',(H s).qA,(H s).qc,ms',(H s).qs⟩) reg'∧
   KQ w (w3.setCell ⟨b,Qp6 s,none⟩ (.slice A' ms'.length c')) (V6 b r F H) (V6 b r F (upH H s ⟨A',c',(H s).qA,(H s).qc,ms',(H s).qs⟩)):=by
 have X:=h.hx s hs
 have hbl:=QJ.lt h.blk
 have gb:=h.gb
 have hbm:QZ (H s).mA≠some b:=fun e=>by have:=X.gm b e;rcases hs with rfl|rfl<;>omega
 have hk4:=QK.set_ w3 ⟨b,Qp6 s,none⟩ (.slice A' ms'.length c')
 have hk:QK (fun i=>QZ (H s).mA=some i∨i=b) w (w3.setCell ⟨b,Qp6 s,none⟩ (.slice A' ms'.length c')):=(hK.mono (fun i h=> .inl h)).trans hk4 (fun i h=> .inl (.inr h))
 have hreg: ∀i,(QZ (H s).mA=some i∨i=b)→reg i=s*10+1∨reg i=1:=by
  rintro i (hi|rfl)
  ·exact .inl (X.gm i hi)
  ·exact .inr gb
 have hA'b: ∀g,QZ A'=some g→g≠b:=by
  intro g hg e;subst e;rcases hat g hg with h1|h1
  ·exact hbm h1
  ·omega
 refine⟨fun i=>if i<w.heap.size then reg i else s*10+1,⟨?_, ?_, ?_, ?_, ?_, ?_, ?_⟩,hk.mono ?_,Xj7 hs ?_⟩
 ·have:=QJ.set_ (QJ.keeps h.blk hK hbm) (Qp6 s) (.slice A' ms'.length c')
  rwa [Jl0 H hs ⟨A',c',(H s).qA,(H s).qc,ms',(H s).qs⟩ rfl rfl rfl]at this
 ·refine h.ar.keeps hk (fun i hi h1=> ?_)
  have:=h.gF i hi;have:=hreg i h1;rcases hs with rfl|rfl<;>omega
 ·refine h.mp.of_block (hk.block r h.mp.lt (fun h1=> ?_))
  have:=h.gr;have:=hreg r h1;rcases hs with rfl|rfl<;>omega
 ·intro s' hs'
  by_cases e:s'=s
  ·subst e
   rw[VV];have Y:=X.later (reg':=fun i=>if i<w.heap.size then reg i else s'*10+1) (s:=s') (S:=fun _=>False) (QK.refl _ w) (fun i h=>h.elim) (fun i hi=>if_pos hi);refine⟨hR.keeps hk4 (fun g hg e=>hA'b g hg e),X.rq.keeps hk (fun g hg h1=> ?_),fun q hq=>(X.rl q hq).keeps hk (fun g hg h1=> ?_), ?_,Y.gq,Y.gl,X.nd⟩
   ·have:=X.gq g hg;have:=hreg g h1;rcases hs with rfl|rfl<;>omega
   ·have:=X.gl q hq g hg;have:=hreg g h1;rcases hs with rfl|rfl<;>omega
   ·intro g hg
    split
    ·rename_i hlt
     rcases hat g hg with h1|h1
     ·exact X.gm g h1
     ·omega
    ·rfl
  ·rw[UJ e]
   refine(h.hx s' hs').later hk (fun i hi _=> ?_) (fun i hi=>if_pos hi);have:=hreg i hi;rcases hs with rfl|rfl<;>rcases hs' with rfl|rfl<;>first|exact absurd rfl e|omega
 ·rw[if_pos hbl];exact gb
 ·rw[if_pos h.mp.lt];exact h.gr
 ·intro i hi;rw[if_pos (h.ar.fp hi)];exact h.gF i hi
 ·rintro i (hi|rfl)
  ·exact XK.fpH s hs (.inl hi)
  ·exact .inl rfl
 ·rintro i (hi|hi|hi)
  ·exact(hat i hi).imp (fun h=> .inl h) id
  ·exact .inl (.inr (.inl hi))
  ·exact .inl (.inr (.inr hi))
theorem XK.queues (h:XK w b a F M n r f H reg) {s:Int} (hs:UQ s) {w3:World} {A':Option Addr} {c':Nat} {qs':List QG}
  (hK:QK (fun i=>QZ (H s).qA=some i) w w3) (hR:QW w3 A' qs'.length c' 236 2 (JQ OQ (qs'.map QG.que))) (hat: ∀g,QZ A'=some g→QZ (H s).qA=some g∨w.heap.size≤g)
  (hsub: ∀q∈qs',q∈(H s).qs∨(q.A=none∧q.c=0∧q.os= [])) (hnd:(qs'.filterMap fun q=>QZ q.A).Nodup):
  ∃reg',XK (w3.setCell ⟨b,Qp6 s+1,none⟩ (.slice A' qs'.length c')) b a F M n r f (upH H s ⟨(H s).mA,(H s).mc,A',c',(H s).ms,qs'⟩) reg'∧
   KQ w (w3.setCell ⟨b,Qp6 s+1,none⟩ (.slice A' qs'.length c')) (V6 b r F H) (V6 b r F (upH H s ⟨(H s).mA,(H s).mc,A',c',(H s).ms,qs'⟩)):=by
 have X:=h.hx s hs
 have hbl:=QJ.lt h.blk
 have gb:=h.gb
 have hbm:QZ (H s).qA≠some b:=fun e=>by have:=X.gq b e;rcases hs with rfl|rfl<;>omega
 have hk4:=QK.set_ w3 ⟨b,Qp6 s+1,none⟩ (.slice A' qs'.length c')
 have hk:QK (fun i=>QZ (H s).qA=some i∨i=b) w (w3.setCell ⟨b,Qp6 s+1,none⟩ (.slice A' qs'.length c')):=(hK.mono (fun i h=> .inl h)).trans hk4 (fun i h=> .inl (.inr h))
 have hreg: ∀i,(QZ (H s).qA=some i∨i=b)→reg i=s*10+2∨reg i=1:=by
  rintro i (hi|rfl)
  ·exact .inl (X.gq i hi)
  ·exact .inr gb
 have hA'b: ∀g,QZ A'=some g→g≠b:=by
  intro g hg e;subst e;rcases hat g hg with h1|h1
  ·exact hbm h1
  ·omega
 refine⟨fun i=>if i<w.heap.size then reg i else s*10+2,⟨?_, ?_, ?_, ?_, ?_, ?_, ?_⟩,hk.mono ?_,Xj7 hs ?_⟩
 ·have:=QJ.set_ (QJ.keeps h.blk hK hbm) (Qp6 s+1) (.slice A' qs'.length c')
  rwa [Jl1 H hs ⟨(H s).mA,(H s).mc,A',c',(H s).ms,qs'⟩ rfl rfl rfl]at this
 ·refine h.ar.keeps hk (fun i hi h1=> ?_)
  have:=h.gF i hi;have:=hreg i h1;rcases hs with rfl|rfl<;>omega
 ·refine h.mp.of_block (hk.block r h.mp.lt (fun h1=> ?_))
  have:=h.gr;have:=hreg r h1;rcases hs with rfl|rfl<;>omega
 ·intro s' hs'
  by_cases e:s'=s
  ·subst e
   rw[VV];have Y:=X.later (reg':=fun i=>if i<w.heap.size then reg i else s'*10+2) (s:=s') (S:=fun _=>False) (QK.refl _ w) (fun i h=>h.elim) (fun i hi=>if_pos hi);refine⟨X.rm.keeps hk (fun g hg h1=> ?_),hR.keeps hk4 (fun g hg e=>hA'b g hg e),fun q hq=> ?_,Y.gm, ?_,fun q hq=> ?_,hnd⟩
   ·have:=X.gm g hg;have:=hreg g h1;rcases hs with rfl|rfl<;>omega
   ·rcases hsub q hq with h1|⟨h1,h2,h3⟩
    ·refine(X.rl q h1).keeps hk (fun g hg h2=> ?_)
     have:=X.gl q h1 g hg;have:=hreg g h2;rcases hs with rfl|rfl<;>omega
    ·rw[h1,h2,h3]
     exact⟨rfl,.inl ⟨rfl,rfl⟩⟩
   ·intro g hg
    split
    ·rename_i hlt
     rcases hat g hg with h1|h1
     ·exact X.gq g h1
     ·omega
    ·rfl
   ·rcases hsub q hq with h1|⟨h1,h2,h3⟩
    ·exact Y.gl q h1
    ·intro g hg
     rw[h1]at hg
     cases hg
  ·rw[UJ e]
   refine(h.hx s' hs').later hk (fun i hi _=> ?_) (fun i hi=>if_pos hi);have:=hreg i hi;rcases hs with rfl|rfl<;>rcases hs' with rfl|rfl<;>first|exact absurd rfl e|omega
 ·rw[if_pos hbl];exact gb
 ·rw[if_pos h.mp.lt];exact h.gr
 ·intro i hi;rw[if_pos (h.ar.fp hi)];exact h.gF i hi
 ·rintro i (hi|rfl)
  ·exact XK.fpH s hs (.inr (.inl hi))
  ·exact .inl rfl
 ·rintro i (hi|hi|⟨q,hq,hi⟩)
  ·exact .inl (.inl hi)
  ·exact(hat i hi).imp (fun h=> .inr (.inl h)) id
  ·rcases hsub q hq with h1|⟨h1,h2,h3⟩
   ·exact .inl (.inr (.inr ⟨q,h1,hi⟩))
   ·rw[h1]at hi;cases hi
theorem Kl8 (l:List Que) {k:Nat} (hk:k<l.length) (A:Option Addr) (n c:Nat):(JQ OQ l).set (k*2+1) (.slice A n c)=JQ OQ (l.set k (l[k].1,A,n,c)):=by
 rw[←Qq3 KX (l[k].1,A,n,c) l k hk]
 have h0:(JQ OQ l)[k*2+0]?=some (.int .i64 l[k].1):=Qc7 KX l k hk 0 (by omega)
 have e:(JQ OQ l).set (k*2) (.int .i64 l[k].1)=JQ OQ l:=by
  apply List.ext_getElem?;intro i;rw[List.getElem?_set]
  split
  ·rename_i hi
   subst hi;rw[Nat.add_zero]at h0
   split
   ·rw[h0]
   ·rw[List.getElem?_eq_none (by omega)]
  ·rfl
 show _=X7 ((JQ OQ l).set (k*2) (.int .i64 l[k].1)) (k*2+1) [.slice A n c]
 rw[e];rfl
theorem XK.queue (h:XK w b a F M n r f H reg) {s:Int} (hs:UQ s) {w3:World} {k:Nat} (hk:k< (H s).qs.length) {qg:Nat} (hqg:(H s).qA=some ⟨qg,0,none⟩) {A':Option Addr} {c':Nat} {os':List HO}
  (hK:QK (fun i=>QZ (H s).qs[k].A=some i) w w3) (hR:QW w3 A' os'.length c' 170 2 (JQ V9 (J7 os'))) (hat: ∀g,QZ A'=some g→QZ (H s).qs[k].A=some g∨w.heap.size≤g):
  ∃reg',XK (w3.setCell ⟨qg,k*2+1,none⟩ (.slice A' os'.length c')) b a F M n r f (upH H s ⟨(H s).mA,(H s).mc,(H s).qA,(H s).qc,(H s).ms,(H s).qs.set k ⟨(H s).qs[k].price,A',c',os'⟩⟩) reg'∧
   KQ w (w3.setCell ⟨qg,k*2+1,none⟩ (.slice A' os'.length c')) (V6 b r F H) (V6 b r F (upH H s ⟨(H s).mA,(H s).mc,(H s).qA,(H s).qc,(H s).ms,(H s).qs.set k ⟨(H s).qs[k].price,A',c',os'⟩⟩)):=by
 have X:=h.hx s hs
 have hbl:=QJ.lt h.blk
 have gb:=h.gb
 have hqb:QZ (H s).qA=some qg:=by rw[hqg];rfl
 have hql:=X.rq.lt hqb
 have gq:=X.gq qg hqb
 have hmem:(H s).qs[k]∈(H s).qs:=List.getElem_mem _
 have hk4:=QK.set_ w3 ⟨qg,k*2+1,none⟩ (.slice A' os'.length c')
 have hkk:QK (fun i=>QZ (H s).qs[k].A=some i∨i=qg) w (w3.setCell ⟨qg,k*2+1,none⟩ (.slice A' os'.length c')):=(hK.mono (fun i h=> .inl h)).trans hk4 (fun i h=> .inl (.inr h))
 have hreg: ∀i,(QZ (H s).qs[k].A=some i∨i=qg)→reg i=s*10+3∨reg i=s*10+2:=by
  rintro i (hi|rfl)
  ·exact .inl (X.gl _ hmem i hi)
  ·exact .inr gq
 have hA'q: ∀g,QZ A'=some g→g≠qg:=by
  intro g hg e;subst e;rcases hat g hg with h1|h1
  ·have:=X.gl _ hmem g h1;omega
  ·omega
 have hsub: ∀q∈(H s).qs.set k ⟨(H s).qs[k].price,A',c',os'⟩,(q∈(H s).qs∨q=⟨(H s).qs[k].price,A',c',os'⟩):=fun q hq=>List.mem_or_eq_of_mem_set hq
 refine⟨fun i=>if i<w.heap.size then reg i else s*10+3,⟨?_, ?_, ?_, ?_, ?_, ?_, ?_⟩,hkk.mono ?_,Xj7 hs ?_⟩
 ·rw[Jv5 H hs ⟨(H s).mA,(H s).mc,(H s).qA,(H s).qc,(H s).ms,(H s).qs.set k ⟨(H s).qs[k].price,A',c',os'⟩⟩ rfl rfl rfl rfl rfl (by simp)]
  refine QJ.keeps h.blk hkk (fun h1=> ?_);have:=hreg b h1;rcases hs with rfl|rfl<;>omega
 ·refine h.ar.keeps hkk (fun i hi h1=> ?_)
  have:=h.gF i hi;have:=hreg i h1;rcases hs with rfl|rfl<;>omega
 ·refine h.mp.of_block (hkk.block r h.mp.lt (fun h1=> ?_))
  have:=h.gr;have:=hreg r h1;rcases hs with rfl|rfl<;>omega
 ·intro s' hs'
  by_cases e:s'=s
  ·subst e
   rw[VV];have Y:=X.later (reg':=fun i=>if i<w.heap.size then reg i else s'*10+3) (s:=s') (S:=fun _=>False) (QK.refl _ w) (fun i h=>h.elim) (fun i hi=>if_pos hi);refine⟨X.rm.keeps hkk (fun g hg h1=> ?_), ?_,fun q hq=> ?_,Y.gm,Y.gq,fun q hq=> ?_, ?_⟩
   ·have:=X.gm g hg;have:=hreg g h1;rcases hs with rfl|rfl<;>omega
   ·have R3:=X.rq.keeps hK (fun g hg h1=>by have:=X.gq g hg;have:=X.gl _ hmem g h1;omega)
    have R4:QW w3 (some ⟨qg,0,none⟩) (H s').qs.length (H s').qc 236 2 (JQ OQ ((H s').qs.map QG.que)):=by rw[←hqg];exact R3
    have R5:=R4.set (k*2+1) (.slice A' os'.length c');rw[Kl8 _ (by simpa using hk)]at R5;have e2:((H s').qs.set k ⟨(H s').qs[k].price,A',c',os'⟩).map QG.que=((H s').qs.map QG.que).set k ((((H s').qs.map QG.que)[k]'(by simpa using hk)).1,A',os'.length,c'):=by
     rw[List.map_set];simp[QG.que]
    rw[e2,hqg];simpa using R5
   ·by_cases eq:q=⟨(H s').qs[k].price,A',c',os'⟩
    ·subst eq
     exact hR.keeps hk4 (fun g hg e=>hA'q g hg e)
    ·obtain⟨i,hi,rfl⟩:=List.mem_iff_getElem.1 hq
     have hi':i< (H s').qs.length:=by simpa using hi
     by_cases hik:i=k
     ·subst hik;rw[List.getElem_set_self]at eq;exact absurd rfl eq
     ·rw[List.getElem_set_ne (fun e=>hik e.symm)]
      refine(X.rl _ (List.getElem_mem _)).keeps hkk ?_;rintro g hg (h1|rfl)
      ·exact Jp0 (g:=fun q:QG=>QZ q.A) X.nd hi' hk hik hg h1
      ·have:=X.gl _ (List.getElem_mem _) g hg;omega
   ·intro g hg
    rcases hsub q hq with h1|rfl
    ·exact Y.gl q h1 g hg
    ·split
     ·rename_i hlt
      rcases hat g hg with h1|h1
      ·exact X.gl _ hmem g h1
      ·omega
     ·rfl
   ·refine Qt7 (fun q:QG=>QZ q.A) _ _ k hk X.nd (fun x hx=> ?_)
    rcases hat x hx with h1|h1
    ·exact .inl h1
    ·exact .inr (fun y hy e=>by have:=(X.rl y hy).lt e;omega)
  ·rw[UJ e]
   refine(h.hx s' hs').later hkk (fun i hi _=> ?_) (fun i hi=>if_pos hi);have:=hreg i hi;rcases hs with rfl|rfl<;>rcases hs' with rfl|rfl<;>first|exact absurd rfl e|omega
 ·rw[if_pos hbl];exact gb
 ·rw[if_pos h.mp.lt];exact h.gr
 ·intro i hi;rw[if_pos (h.ar.fp hi)];exact h.gF i hi
 ·rintro i (hi|rfl)
  ·exact XK.fpH s hs (.inr (.inr ⟨_,hmem,hi⟩))
  ·exact XK.fpH s hs (.inr (.inl hqb))
 ·rintro i (hi|hi|⟨q,hq,hi⟩)
  ·exact .inl (.inl hi)
  ·exact .inl (.inr (.inl hi))
  ·rcases hsub q hq with h1|rfl
   ·exact .inl (.inr (.inr ⟨q,h1,hi⟩))
   ·exact(hat i hi).imp (fun h=> .inr (.inr ⟨_,hmem,h⟩)) id
end
def X3 (x:HO):Value:= .agg #[.int .i64 x.1.1,.int .i64 x.1.2,.int .i64 x.2.side,.int .i64 x.2.price,.bool (x.2.kind ==2)]
def OkO (o:QX):Prop:=Qf4 o∧1≤o.id∧(1≤o.price∧o.price≤1000000)∧(1≤o.qty∧o.qty≤1000000)
def X0 (H:Int→HS):List HO:=(H 1).all++(H 2).all
structure ZX (M:Int→Int→Option QX) (n:Nat) (f:Int→Option Value) (H:Int→HS):Prop where
 is: ∀s,UQ s→Qm0 s (H s).ms (H s).qs
 ne: ∀s,UQ s→ ∀q∈(H s).qs,q.os≠ []
 hM: ∀x∈X0 H,M x.1.1 x.1.2=some x.2
 hf: ∀x∈X0 H,f x.2.id=some (X3 x)
 hk: ∀k v,f k=some v→ ∃x∈X0 H,x.2.id=k
 ids:((X0 H).map fun x=>x.2.id).Nodup
 cnt:n=(X0 H).length
 ok: ∀x∈X0 H,OkO x.2
section
variable {M:Int→Int→Option QX} {n:Nat} {f:Int→Option Value} {H:Int→HS}
theorem Qp7 {α β:Type} {g:α→β}: ∀ {l:List α},(l.map g).Nodup→ ∀ {x y:α},x∈l→y∈l→g x=g y→x=y
 | [],_,x,y,hx,_,_=>by simp at hx
 |a::l,h,x,y,hx,hy,e=>by
  rw[List.map_cons,List.nodup_cons]at h;rcases List.mem_cons.1 hx with rfl|hx'
  ·rcases List.mem_cons.1 hy with rfl|hy'
   ·rfl
   ·exact absurd (List.mem_map.2 ⟨y,hy',e.symm⟩) h.1
  ·rcases List.mem_cons.1 hy with rfl|hy'
   ·exact absurd (List.mem_map.2 ⟨x,hx',e⟩) h.1
   ·exact Qp7 h.2 hx' hy' e
theorem ZX.same_id (S:ZX M n f H) {x y:HO} (hx:x∈X0 H) (hy:y∈X0 H) (e:x.2.id=y.2.id):x=y:=Qp7 (g:=fun x:HO=>x.2.id) S.ids hx hy e
theorem ZX.same_h (S:ZX M n f H) {x y:HO} (hx:x∈X0 H) (hy:y∈X0 H) (e:x.1=y.1):x=y:=by
 have h1:=S.hM x hx
 have h2:=S.hM y hy
 rw[e,h2]at h1
 exact S.same_id hx hy (by rw[Option.some.inj h1])
theorem OX {s:Int} (hs:UQ s) {x:HO} (hx:x∈(H s).all):x∈X0 H:=by
 rcases hs with rfl|rfl
 ·exact List.mem_append_left _ hx
 ·exact List.mem_append_right _ hx
theorem ZX.none_ (S:ZX M n f H) {k:Int}:f k=none↔ ∀x∈X0 H,x.2.id≠k:=by
 constructor
 ·intro h x hx e
  have:=S.hf x hx;rw[e,h]at this
  cases this
 ·intro h
  cases e:f k with
  |none=>rfl
  |some v=>
   obtain⟨x,hx,h2⟩:=S.hk k v e;exact absurd h2 (h x hx)
theorem ZX.side_of (S:ZX M n f H) {s:Int} (hs:UQ s) {x:HO} (hx:x∈(H s).all):x.2.side=s:=by
 rcases List.mem_append.1 hx with h|h
 ·exact((S.is s hs).mkt x h).2
 ·obtain⟨q,hq,hxq⟩:=List.mem_flatMap.1 h
  exact((S.is s hs).qk q hq x hxq).2.1
theorem ZX.side_mem (S:ZX M n f H) {x:HO} (hx:x∈X0 H):UQ x.2.side∧x∈(H x.2.side).all:=by
 rcases List.mem_append.1 hx with h|h
 ·rw[S.side_of (.inl rfl) h];exact⟨.inl rfl,h⟩
 ·rw[S.side_of (.inr rfl) h];exact⟨.inr rfl,h⟩
theorem ZX.add (S:ZX M n f H) {s:Int} (hs:UQ s) {x:HO} {h':HS} (hp:h'.all.Perm (x:: (H s).all)) (hi:Qm0 s h'.ms h'.qs) (hne: ∀q∈h'.qs,q.os≠ []) (hM:M x.1.1 x.1.2=none) (hf:f x.2.id=none) (hok:OkO x.2):
  ZX (Z1 M x.1.1 x.1.2 (some x.2)) (n+1) (V1 f x.2.id (some (X3 x))) (upH H s h'):=by
 have hperm:(X0 (upH H s h')).Perm (x::X0 H):=by
  unfold X0;rcases hs with rfl|rfl
  ·rw[VV,UJ (by decide)]
   exact hp.append_right _
  ·rw[VV,UJ (by decide)]
   exact(hp.append_left _).trans List.perm_middle
 have hno:=S.none_.1 hf
 have hnM: ∀y∈X0 H,¬(y.1.1=x.1.1∧y.1.2=x.1.2):=by
  rintro y hy ⟨e1,e2⟩;have:=S.hM y hy;rw[e1,e2,hM]at this
  cases this
 refine⟨fun s' hs'=> ?_,fun s' hs'=> ?_,fun y hy=> ?_,fun y hy=> ?_,fun k v hv=> ?_, ?_, ?_,fun y hy=> ?_⟩
 ·by_cases e:s'=s
  ·subst e;rw[VV];exact hi
  ·rw[UJ e];exact S.is s' hs'
 ·by_cases e:s'=s
  ·subst e;rw[VV];exact hne
  ·rw[UJ e];exact S.ne s' hs'
 ·rcases List.mem_cons.1 (hperm.mem_iff.1 hy)with rfl|hy
  ·exact if_pos ⟨rfl,rfl⟩
  ·unfold Z1
   rw[if_neg (hnM y hy)];exact S.hM y hy
 ·rcases List.mem_cons.1 (hperm.mem_iff.1 hy)with rfl|hy
  ·exact if_pos rfl
  ·unfold V1
   rw[if_neg (hno y hy)];exact S.hf y hy
 ·unfold V1 at hv
  by_cases e:k=x.2.id
  ·exact⟨x,hperm.mem_iff.2 (by simp),e.symm⟩
  ·rw[if_neg e]at hv
   obtain⟨y,hy,h2⟩:=S.hk k v hv;exact⟨y,hperm.mem_iff.2 (List.mem_cons_of_mem _ hy),h2⟩
 ·rw[(hperm.map _).nodup_iff,List.map_cons,List.nodup_cons]
  refine⟨fun hx=> ?_,S.ids⟩;obtain⟨y,hy,e⟩:=List.mem_map.1 hx;exact hno y hy e
 ·rw[hperm.length_eq,List.length_cons,S.cnt]
 ·rcases List.mem_cons.1 (hperm.mem_iff.1 hy)with rfl|hy
  ·exact hok
  ·exact S.ok y hy
def J9 (h:Int×Int) (y:HO):Bool:= !isH h y.1
theorem Qf9 {h:Int×Int} {y:HO}:J9 h y=true↔y.1≠h:=by
 unfold J9
 rw[Bool.not_eq_true',←Bool.not_eq_true,Ne,←Zj4]
theorem ZX.filter_id (S:ZX M n f H) {x:HO} (hx:x∈X0 H) {s:Int} (hs:UQ s):IX ((H s).all.filter (J9 x.1))=O0 (H s).L x.2.id:=by
 unfold HS.L O0 IX
 rw[List.filter_map]
 congr 1
 apply List.filter_congr
 intro y hy
 have hy':=OX hs hy
 rw[Bool.eq_iff_iff,Qf9]
 simp only[Function.comp,Bool.not_eq_true',beq_eq_false_iff_ne]
 constructor
 ·intro h e;exact h (by rw[S.same_id hy' hx e])
 ·intro h e;exact h (by rw[S.same_h hy' hx e])
theorem ZX.filter_other (S:ZX M n f H) {x:HO} {s s':Int} (hs:UQ s) (hs':UQ s') (hx:x∈(H s).all) (hne:s'≠s):(H s').all.filter (J9 x.1)=(H s').all:=by
 rw[List.filter_eq_self]
 intro y hy
 rw[Qf9]
 intro e
 have:=S.same_h (OX hs' hy) (OX hs hx) e
 subst this
 exact hne ((S.side_of hs' hy).symm.trans (S.side_of hs hx))
theorem Ka4 {l:List HO} {x:HO} (hx:x∈l) (h: ∀y∈l,y.1=x.1→y=x) (hn:l.Nodup):(l.filter (J9 x.1)).length+1=l.length:=by
 obtain⟨l1,l2,rfl⟩:=List.append_of_mem hx
 rw[List.nodup_append]at hn
 have h2:=List.nodup_cons.1 hn.2.1
 have f1:l1.filter (J9 x.1)=l1:=by
  rw[List.filter_eq_self];intro y hy;rw[Qf9];intro e;exact hn.2.2 y hy x (by simp) (h y (by simp[hy]) e)
 have f2:l2.filter (J9 x.1)=l2:=by
  rw[List.filter_eq_self];intro y hy;rw[Qf9];intro e;exact h2.1 (by rw[←h y (by simp[hy]) e];exact hy)
 have f3:J9 x.1 x=false:=by
  rw[←Bool.not_eq_true,Qf9];simp
 rw[List.filter_append,List.filter_cons_of_neg (by simp[f3]),f1,f2]
 simp
 omega
theorem ZX.remove (S:ZX M n f H) {s:Int} (hs:UQ s) {x:HO} (hx:x∈(H s).all) {h':HS} (ha:h'.all=(H s).all.filter (J9 x.1)) (hi:Qm0 s h'.ms h'.qs) (hne: ∀q∈h'.qs,q.os≠ []):
  ZX (Z1 M x.1.1 x.1.2 none) (n-1) (V1 f x.2.id none) (upH H s h'):=by
 have hxa:=OX hs hx
 have hall:X0 (upH H s h')=(X0 H).filter (J9 x.1):=by
  unfold X0;rw[List.filter_append];rcases hs with rfl|rfl
  ·rw[VV,UJ (by decide),ha,S.filter_other (.inl rfl) (.inr rfl) hx (by decide)]
  ·rw[VV,UJ (by decide),ha,S.filter_other (.inr rfl) (.inl rfl) hx (by decide)]
 have hmem: ∀y,y∈X0 (upH H s h')→y∈X0 H∧y.1≠x.1:=by
  intro y hy;rw[hall,List.mem_filter,Qf9]at hy;exact hy
 have hnd:(X0 H).Nodup:=List.Pairwise.imp (fun h e=>h (by rw[e])) (List.pairwise_map.1 S.ids)
 refine⟨fun s' hs'=> ?_,fun s' hs'=> ?_,fun y hy=> ?_,fun y hy=> ?_,fun k v hv=> ?_, ?_, ?_,fun y hy=> ?_⟩
 ·by_cases e:s'=s
  ·subst e;rw[VV];exact hi
  ·rw[UJ e];exact S.is s' hs'
 ·by_cases e:s'=s
  ·subst e;rw[VV];exact hne
  ·rw[UJ e];exact S.ne s' hs'
 ·obtain⟨h1,h2⟩:=hmem y hy
  unfold Z1;rw[if_neg (fun e=>h2 (Prod.ext e.1 e.2))];exact S.hM y h1
 ·obtain⟨h1,h2⟩:=hmem y hy
  unfold V1;rw[if_neg (fun e=>h2 (by rw[S.same_id h1 hxa e]))];exact S.hf y h1
 ·unfold V1 at hv
  by_cases e:k=x.2.id
  ·rw[if_pos e]at hv;cases hv
  ·rw[if_neg e]at hv
   obtain⟨y,hy,h2⟩:=S.hk k v hv;refine⟨y, ?_,h2⟩;rw[hall,List.mem_filter,Qf9];exact⟨hy,fun e2=>e (by rw[←h2,S.same_h hy hxa e2])⟩
 ·rw[hall]
  exact List.Nodup.sublist (List.Sublist.map _ List.filter_sublist) S.ids
 ·rw[hall]
  have:=Ka4 hxa (fun y hy e=>S.same_h hy hxa e) hnd;have:=S.cnt;omega
 ·exact S.ok y (hmem y hy).1
end
def Q1 (w:World) (b:Nat) (G:Nat→Prop) (L1 L2:List QX):Prop:=
 ∃a F M n r f H reg,XK w b a F M n r f H reg∧ZX M n f H∧(∀i,G i↔V6 b r F H i)∧L1=(H 1).L∧L2=(H 2).L
def Qj9 (w w':World) (b:Nat) (G:Nat→Prop) (L1 L2:List QX):Prop:= ∃G',Q1 w' b G' L1 L2∧KQ w w' G G'
def JY (s:Int) (L1 L2:List QX):List QX:=if s=1 then L1 else L2
section
variable {w w':World} {b:Nat} {G:Nat→Prop} {L1 L2:List QX}
theorem Q1.fp (h:Q1 w b G L1 L2) {i:Nat} (hi:G i):i<w.heap.size:=by
 obtain⟨a,F,M,n,r,f,H,reg,hM,hS,hG,_⟩:=h
 exact hM.fp ((hG i).1 hi)
theorem Q1.keeps {S:Nat→Prop} (h:Q1 w b G L1 L2) (hk:QK S w w') (hn: ∀i,G i→ ¬S i):Q1 w' b G L1 L2:=by
 obtain⟨a,F,M,n,r,f,H,reg,hM,hS,hG,hL⟩:=h
 exact⟨a,F,M,n,r,f,H,reg,hM.keeps hk (fun i hi=>hn i ((hG i).2 hi)),hS,hG,hL⟩
theorem Q1.below (h:Q1 w b G L1 L2) (hb:Below w.heap.size w w'):Q1 w' b G L1 L2:=h.keeps (QK.of_below hb (fun _=>False)) (fun _ _=>id)
structure ZW (L1 L2:List QX):Prop where
 ids:((L1++L2).map (·.id)).Nodup
 cnt:(L1++L2).length≤100
 ok: ∀o∈L1++L2,OkO o
 s1: ∀o∈L1,o.side=1
 s2: ∀o∈L2,o.side=2
theorem Xr8 (l:List HO):(IX l).map (·.id)=l.map fun x=>x.2.id:=by simp[IX]
theorem Q1.lists (h:Q1 w b G L1 L2):ZW L1 L2:=by
 obtain⟨a,F,M,n,r,f,H,reg,hM,hS,hG,rfl,rfl⟩:=h
 have e:(H 1).L++(H 2).L=IX (X0 H):=(Z7 _ _).symm
 refine⟨?_, ?_, ?_, ?_, ?_⟩
 ·rw[e,Xr8];exact hS.ids
 ·rw[e]
  have h1:=hS.cnt;have h2:=hM.ar.le;unfold IX;rw[List.length_map];omega
 ·rw[e]
  intro o ho;obtain⟨x,hx,rfl⟩:=List.mem_map.1 ho;exact hS.ok x hx
 ·intro o ho
  obtain⟨x,hx,rfl⟩:=List.mem_map.1 ho;exact hS.side_of (.inl rfl) hx
 ·intro o ho
  obtain⟨x,hx,rfl⟩:=List.mem_map.1 ho;exact hS.side_of (.inr rfl) hx
end
end Go.Proofs.YtbmiieehkkfbgaaGreatDoor
