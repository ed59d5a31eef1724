/- Contracts and walks that the law's proof needs. -/
import Derived.Test.YtbmiieehkkfbgaaGreatDoorZd28
import Derived.WalkKit
import Derived.WalkLawsBesides
import Derived.WalkSpells
import Derived.Deep.QuietTactic
import Derived.BigQuiet
import Derived.Deep.LoopGhost
import Derived.Deep.DeepCutAuto
import Derived.Deep.CutBlock
import Derived.Deep.AppendLies
import Derived.Shelf.Abstract
import Derived.Laws.EntriesVeiled
set_option linter.unusedVariables false
set_option maxRecDepth 100000
set_option maxHeartbeats 8000000
namespace Go.Proofs.YtbmiieehkkfbgaaGreatDoor
open Go.RowKit
structure Qa1 {σ:Type} (K:σ→List QX→List QX→(Nat→Prop)→World→Prop) (al:σ→Int→Bool) (tr:σ→Int→σ) (cnt:σ→Nat) (ga gt:FuncId) (fa ca ct:Array Value) (cutF:FuncId) (bp e0:Value):Prop where
 keep: ∀ {s:σ} {L1 L2:List QX} {F:Nat→Prop} {w w':World} {S:Nat→Prop},K s L1 L2 F w→QK S w w'→(∀i,F i→ ¬S i)→K s L1 L2 F w'
 lt: ∀ {s:σ} {L1 L2:List QX} {F:Nat→Prop} {w:World},K s L1 L2 F w→ ∀i,F i→i<w.heap.size
 ok: ∀ {s:σ} {L1 L2:List QX} {F:Nat→Prop} {w:World},K s L1 L2 F w→ZW L1 L2
 allows: ∀ {s:σ} {L1 L2:List QX} {F:Nat→Prop} {w:World} (p:Int),K s L1 L2 F w→1≤p∧p≤1000000→Calls Tryz.prog ga (fa++ #[.int .i64 p]++ca) w fun e w'=>e= .returned (.bool (al s p))∧Below w.heap.size w w'
 trades: ∀ {s:σ} {L1 L2:List QX} {F:Nat→Prop} {w:World} (p:Int),K s L1 L2 F w→1≤p∧p≤1000000→cnt s≤1000→Calls Tryz.prog gt (#[.int .i64 p]++ct) w fun e w'=>e= .returned (.tuple #[])∧ ∃F',K (tr s p) L1 L2 F' w'∧KQ w w' F F'
 cut: ∀ {s:σ} {L1 L2:List QX} {F:Nat→Prop} {w:World} (x:QX) (n:Int),K s L1 L2 F w→Qa8 (L1++L2) x.id=some x→1≤n→n≤x.qty→Calls Tryz.prog cutF #[bp,.int .i64 x.id,.int .i64 n] w fun e w'=>e= .returned e0∧ ∃F',K s (Qf2 L1 x n) (Qf2 L2 x n) F' w'∧KQ w w' F F'
 cnt_: ∀s p,cnt (tr s p)≤cnt s+1
 ega: ∀args w,(callFunc ga args).run Tryz.prog w= .ok (.enter ga args) w
 egt: ∀args w,(callFunc gt args).run Tryz.prog w= .ok (.enter gt args) w
structure Qi9 {σ:Type} (K:σ→List QX→List QX→(Nat→Prop)→World→Prop) (w wr:World) (s:σ) (G G':Nat→Prop) (M1 M2:List QX) (A:Option Addr) (c:Nat) (F:List XQ):Prop where
 mk_:K s M1 M2 G' wr
 step:KQ w wr G G'
 row:QW wr A F.length c 145 4 (JQ Qb3 F)
 fpA: ∀g,QZ A=some g→ ¬G' g∧w.heap.size≤g
section
variable {σ:Type} {K:σ→List QX→List QX→(Nat→Prop)→World→Prop} {al:σ→Int→Bool} {tr:σ→Int→σ} {cnt:σ→Nat} {ga gt:FuncId} {fa ca ct:Array Value} {cutF:FuncId} {bp e0:Value}
variable {w wr w':World} {s s':σ} {G G' G2:Nat→Prop} {M1 M2 N1 N2:List QX} {A:Option Addr} {c:Nat} {F:List XQ}
theorem Qi9.below (hs:Qa1 K al tr cnt ga gt fa ca ct cutF bp e0) (h:Qi9 K w wr s G G' M1 M2 A c F) (hb:Below wr.heap.size wr w'):Qi9 K w w' s G G' M1 M2 A c F:=
 ⟨hs.keep h.mk_ (QK.of_below hb (fun _=>False)) (fun _ _=>id),h.step.trans (KQ.of_below hb),h.row.below hb,h.fpA⟩
theorem Qi9.keep (hs:Qa1 K al tr cnt ga gt fa ca ct cutF bp e0) (h:Qi9 K w wr s G G' M1 M2 A c F) {X:Nat} (hk:QK (fun i=>i=X) wr w') (hX: ¬G' X) (hXA:QZ A≠some X) (hXw:w.heap.size≤X):Qi9 K w w' s G G' M1 M2 A c F:=
 ⟨hs.keep h.mk_ hk (fun i hi e=>hX (e▸hi)),⟨h.step.1.trans hk (fun i hi=> .inr (hi▸hXw)),h.step.2⟩,h.row.keeps hk (fun g hg e=>hXA (e▸hg)),h.fpA⟩
theorem Qi9.fill (hs:Qa1 K al tr cnt ga gt fa ca ct cutF bp e0) {f:XQ} {gg cap:Nat} (h:Qi9 K w wr s G G' M1 M2 A c F) (hk:QK (fun i=>QZ A=some i) wr w') (ho:w'.ownsRow 0 145 4 (.slice (some ⟨gg,0,none⟩) (F.length+1) cap) (F.length+1) (JQ Qb3 F++Qb3 f)) (hat:QZ A=some gg∨wr.heap.size≤gg):
  Qi9 K w w' s G G' M1 M2 (some ⟨gg,0,none⟩) cap (F++ [f]):=by
 refine⟨hs.keep h.mk_ hk (fun i hi e=>(h.fpA i e).1 hi),⟨h.step.1.trans hk (fun i hi=> .inr (h.fpA i hi).2),h.step.2⟩, ?_,fun g hg=> ?_⟩
 ·show w'.ownsRow 0 145 4 _ _ _
  rw[Y7,List.length_append];exact ho
 ·have e:gg=g:=by simpa [QZ]using hg
  subst e;rcases hat with h1|h1
  ·exact h.fpA _ h1
  ·refine⟨fun hG=> ?_,Nat.le_trans h.step.1.size h1⟩
   have:=hs.lt h.mk_ _ hG;omega
theorem Qi9.turn (h:Qi9 K w wr s G G' M1 M2 A c F) (hk:K s' N1 N2 G2 w') (hb:KQ wr w' G' G2):Qi9 K w w' s' G G2 N1 N2 A c F:=by
 refine⟨hk,h.step.trans hb,h.row.keeps hb.1 (fun g hg=>(h.fpA g hg).1),fun g hg=>⟨fun hG=> ?_,(h.fpA g hg).2⟩⟩
 rcases hb.2 g hG with h1|h1
 ·exact(h.fpA g hg).1 h1
 ·have:=h.row.lt hg;omega
end
def Jj1 {σ:Type} (K:σ→List QX→List QX→(Nat→Prop)→World→Prop) (w w':World) (G:Nat→Prop) (sd:Int) (L1 L2:List QX) (r:U8 σ) (e:Ending):Prop:=
 ∃A c G' M1 M2,e= .returned (.tuple #[.slice A r.fills.length c,KJ r.left,.bool r.stop])∧Qi9 K w w' r.st G G' M1 M2 A c r.fills∧JY sd M1 M2=JY sd L1 L2∧JY (3-sd) M1 M2=r.rest
theorem Jc1 {P:Program} {fn:Func} {p q u:Tmp} {ty:TypeId} (h:fn.results= #[.tmp u,.cell p ty,.tmp q]) (tmps:Array Value) (w:World) (g:Nat) (t:TypeId) (cs:Array Value) (v1 v2:Value) (fr:Nat×Nat) (d:TypeDesc)
  (hu1:tmps.getD u undef=v1) (hp:tmps.getD p undef= .pointer (some ⟨g,0,none⟩)) (hq:tmps.getD q undef=v2) (hg:w.heap[g]?=some (.cells cs t fr))
  (hu:P.underlying ty=some d) (hd:(match d with| .struct _| .array _ _=>true|_=>false)=true) (hi:(P.info? ty).map (·.size)=some cs.size):(results fn tmps).run P w= .ok (.tuple #[v1,.agg cs,v2]) w:=by
 have hu':tmps[u]?.getD undef=v1:=by simpa using hu1
 have hp':tmps[p]?.getD undef= .pointer (some ⟨g,0,none⟩):=by simpa using hp
 have hq':tmps[q]?.getD undef=v2:=by simpa using hq
 simp[results,h,hu',hp',hq',asAddr,run_loadVar_row w g t ty cs fr d hg hu hd hi,Result.andThen]
theorem U9 {w:World} {g:Nat} {t:TypeId} {a b c d e:Value} (h:QJ w g t #[a,b,c,d,e]):w.cell? ⟨g,0,none⟩=some a∧w.cell? ⟨g,1,none⟩=some b∧w.cell? ⟨g,2,none⟩=some c∧w.cell? ⟨g,3,none⟩=some d∧w.cell? ⟨g,4,none⟩=some e:=
 ⟨by rw[QJ.cell h];rfl,by rw[QJ.cell h];rfl,by rw[QJ.cell h];rfl,by rw[QJ.cell h];rfl,by rw[QJ.cell h];rfl⟩
theorem Xu6 {w:World} {g:Nat} {t:TypeId} {a b c d:Value} (h:QJ w g t #[a,b,c,d]):w.cell? ⟨g,0,none⟩=some a∧w.cell? ⟨g,1,none⟩=some b∧w.cell? ⟨g,2,none⟩=some c∧w.cell? ⟨g,3,none⟩=some d:=
 ⟨by rw[QJ.cell h];rfl,by rw[QJ.cell h];rfl,by rw[QJ.cell h];rfl,by rw[QJ.cell h];rfl⟩
theorem Qj0 {w:World} {Y:Nat} {t:TypeId} {a0 b0 c0 d0 e0:Value} (h:QJ w Y t #[a0,b0,c0,d0,e0]) (a b c d e:Value):
  QJ (((((w.setCell ⟨Y,0,none⟩ a).setCell ⟨Y,1,none⟩ b).setCell ⟨Y,2,none⟩ c).setCell ⟨Y,3,none⟩ d).setCell ⟨Y,4,none⟩ e) Y t #[a,b,c,d,e]∧QK (fun i=>i=Y) w (((((w.setCell ⟨Y,0,none⟩ a).setCell ⟨Y,1,none⟩ b).setCell ⟨Y,2,none⟩ c).setCell ⟨Y,3,none⟩ d).setCell ⟨Y,4,none⟩ e):=
 ⟨QJ.set_ (QJ.set_ (QJ.set_ (QJ.set_ (QJ.set_ h 0 a) 1 b) 2 c) 3 d) 4 e,
  ((((QK.set_ w ⟨Y,0,none⟩ a).trans (QK.set_ _ ⟨Y,1,none⟩ b) (fun _ h=> .inl h)).trans (QK.set_ _ ⟨Y,2,none⟩ c) (fun _ h=> .inl h)).trans (QK.set_ _ ⟨Y,3,none⟩ d) (fun _ h=> .inl h)).trans (QK.set_ _ ⟨Y,4,none⟩ e) (fun _ h=> .inl h)⟩
theorem Qj1 {fn:Func} (hf:fn.results= #[.tmp 8,.cell 9 117,.tmp 10]) {w:World} {a:Act} {Q:Ending→World→Prop} {o:QX} {v1 v2:Value} (g:Nat) (h9:a.tmps.getD 9 undef= .pointer (some ⟨g,0,none⟩)) (h8:a.tmps.getD 8 undef=v1) (h10:a.tmps.getD 10 undef=v2) (hd:a.defers= [])
  (hg:QJ w g 117 (KV o)) (h:Q (.returned (.tuple #[v1,KJ o,v2])) w):bodyPost Tryz.prog fn Q .ret a w:=
 bodyPost_ret (Jc1 hf a.tmps w g 117 (KV o) v1 v2 (0,0) _ h8 h9 h10 hg Tryz.underlying117 rfl (by show(Tryz.prog.info? 117).map (·.size)=some 5;kernel_rfl)) hd h
structure Qs1 {σ:Type} (K:σ→List QX→List QX→(Nat→Prop)→World→Prop) (w wr:World) (s:σ) (G G':Nat→Prop) (M1 M2 l:List QX) (ob:QX) (X Y:Nat) (AL:Option Addr) (n cl:Nat) (A:Option Addr) (c:Nat) (F:List XQ):Prop where
 m:Qi9 K w wr s G G' M1 M2 A c F
 bx:QJ wr X 117 (KV ob)
 by_:QJ wr Y 117 (KV noO)
 xg: ¬G' X
 yg: ¬G' Y
 xa:QZ A≠some X
 ya:QZ A≠some Y
 xy:X≠Y
 lr:QW wr AL n cl 117 5 (JQ I6 l)
 lg: ∀g,QZ AL=some g→ ¬G' g∧QZ A≠some g∧g≠X∧g≠Y
 wx:w.heap.size≤X
 wy:w.heap.size≤Y
structure Qv9 {σ:Type} (K:σ→List QX→List QX→(Nat→Prop)→World→Prop) (al:σ→Int→Bool) (tr:σ→Int→σ) (cnt:σ→Nat) (w wr:World) (s0 s:σ) (G G':Nat→Prop) (L1 L2 M1 M2:List QX) (l:List QX) (oi sd ok op oq q:Int) (X Y:Nat) (AL:Option Addr) (n cl:Nat) (A:Option Addr) (c:Nat) (F:List XQ) (R:List QX) (k:Nat):Prop where
 v:Qs1 K w wr s G G' M1 M2 l ⟨oi,sd,ok,op,q⟩ X Y AL n cl A c F
 eq:VX al tr l ⟨oi,sd,ok,op,oq⟩ s0=U8.join F R (VX al tr (l.drop k) ⟨oi,sd,ok,op,q⟩ s)
 own:JY sd M1 M2=JY sd L1 L2
 oth:JY (3-sd) M1 M2=R++l.drop k
 fl:F.length≤k
 qb:KZ q
 cn:cnt s≤F.length
section
variable {σ:Type} {K:σ→List QX→List QX→(Nat→Prop)→World→Prop} {al:σ→Int→Bool} {tr:σ→Int→σ} {cnt:σ→Nat} {ga gt:FuncId} {fa ca ct:Array Value} {cutF:FuncId} {bp e0:Value}
variable {w wr w':World} {s0 s s':σ} {G G' G2:Nat→Prop} {L1 L2 M1 M2 N1 N2 l R R':List QX} {ob:QX} {oi sd ok op oq q:Int} {X Y:Nat} {AL A:Option Addr} {n cl c k:Nat} {F:List XQ}
theorem Qs1.below (hs:Qa1 K al tr cnt ga gt fa ca ct cutF bp e0) (h:Qs1 K w wr s G G' M1 M2 l ob X Y AL n cl A c F) (hb:Below wr.heap.size wr w'):Qs1 K w w' s G G' M1 M2 l ob X Y AL n cl A c F:=
 ⟨h.m.below hs hb,QJ.keep h.bx hb,QJ.keep h.by_ hb,h.xg,h.yg,h.xa,h.ya,h.xy,h.lr.below hb,h.lg,h.wx,h.wy⟩
theorem Qv9.below (hs:Qa1 K al tr cnt ga gt fa ca ct cutF bp e0) (h:Qv9 K al tr cnt w wr s0 s G G' L1 L2 M1 M2 l oi sd ok op oq q X Y AL n cl A c F R k) (hb:Below wr.heap.size wr w'):Qv9 K al tr cnt w w' s0 s G G' L1 L2 M1 M2 l oi sd ok op oq q X Y AL n cl A c F R k:=
 ⟨h.v.below hs hb,h.eq,h.own,h.oth,h.fl,h.qb,h.cn⟩
theorem Qv9.pass {x:QX} {t:List QX} (h:Qv9 K al tr cnt w wr s0 s G G' L1 L2 M1 M2 l oi sd ok op oq q X Y AL n cl A c F R k) (hd:l.drop k=x::t) (hq: ¬q<1) (hk:x.kind=2):Qv9 K al tr cnt w wr s0 s G G' L1 L2 M1 M2 l oi sd ok op oq q X Y AL n cl A c F (R++ [x]) (k+1):=by
 have e:l.drop (k+1)=t:=by rw[←List.drop_drop,hd];rfl
 refine⟨h.v, ?_,h.own, ?_,Nat.le_succ_of_le h.fl,h.qb,h.cn⟩
 ·rw[h.eq,hd,e,Xu4 (by exact hq) hk]
 ·rw[h.oth,hd,e];simp
theorem Qs1.fill (hs:Qa1 K al tr cnt ga gt fa ca ct cutF bp e0) {f:XQ} {gg cap:Nat} (h:Qs1 K w wr s G G' M1 M2 l ob X Y AL n cl A c F) (hk:QK (fun i=>QZ A=some i) wr w') (ho:w'.ownsRow 0 145 4 (.slice (some ⟨gg,0,none⟩) (F.length+1) cap) (F.length+1) (JQ Qb3 F++Qb3 f)) (hat:QZ A=some gg∨wr.heap.size≤gg):
  Qs1 K w w' s G G' M1 M2 l ob X Y AL n cl (some ⟨gg,0,none⟩) cap (F++ [f]):=by
 have hX:=QJ.lt h.bx
 have hY:=QJ.lt h.by_
 refine⟨h.m.fill hs hk ho hat,QJ.keeps h.bx hk h.xa,QJ.keeps h.by_ hk h.ya,h.xg,h.yg,fun e=> ?_,fun e=> ?_,h.xy,h.lr.keeps hk (fun g hg=>(h.lg g hg).2.1),fun g hg=>⟨(h.lg g hg).1,fun e=> ?_,(h.lg g hg).2.2⟩,h.wx,h.wy⟩
 ·have e:gg=X:=by simpa [QZ]using e
  subst e;rcases hat with h1|h1
  ·exact h.xa h1
  ·omega
 ·have e:gg=Y:=by simpa [QZ]using e
  subst e;rcases hat with h1|h1
  ·exact h.ya h1
  ·omega
 ·have e:gg=g:=by simpa [QZ]using e
  subst e;rcases hat with h1|h1
  ·exact(h.lg _ hg).2.1 h1
  ·have:=h.lr.lt hg;omega
theorem Qs1.turn (h:Qs1 K w wr s G G' M1 M2 l ob X Y AL n cl A c F) (hk:K s' N1 N2 G2 w') (hb:KQ wr w' G' G2):Qs1 K w w' s' G G2 N1 N2 l ob X Y AL n cl A c F:=by
 have hX:=QJ.lt h.bx
 have hY:=QJ.lt h.by_
 refine⟨h.m.turn hk hb,QJ.keeps h.bx hb.1 h.xg,QJ.keeps h.by_ hb.1 h.yg,fun e=> ?_,fun e=> ?_,h.xa,h.ya,h.xy,h.lr.keeps hb.1 (fun g hg=>(h.lg g hg).1),fun g hg=>⟨fun e=> ?_,(h.lg g hg).2⟩,h.wx,h.wy⟩
 ·rcases hb.2 _ e with h1|h1
  ·exact h.xg h1
  ·omega
 ·rcases hb.2 _ e with h1|h1
  ·exact h.yg h1
  ·omega
 ·rcases hb.2 _ e with h1|h1
  ·exact(h.lg g hg).1 h1
  ·have:=h.lr.lt hg;omega
theorem Qs1.lots (hs:Qa1 K al tr cnt ga gt fa ca ct cutF bp e0) {q':Int} (h:Qs1 K w wr s G G' M1 M2 l ⟨oi,sd,ok,op,q⟩ X Y AL n cl A c F):Qs1 K w (wr.setCell ⟨X,4,none⟩ (.int .i64 q')) s G G' M1 M2 l ⟨oi,sd,ok,op,q'⟩ X Y AL n cl A c F:=by
 have hk:=QK.set_ wr ⟨X,4,none⟩ (.int .i64 q')
 exact⟨h.m.keep hs hk h.xg h.xa h.wx,QJ.set_ h.bx 4 _,QJ.keeps h.by_ hk (fun e=>h.xy e.symm),h.xg,h.yg,h.xa,h.ya,h.xy,h.lr.keeps hk (fun g hg e=>(h.lg g hg).2.2.1 e),h.lg,h.wx,h.wy⟩
theorem Qv9.done (hs:Qa1 K al tr cnt ga gt fa ca ct cutF bp e0) (h:Qv9 K al tr cnt w wr s0 s G G' L1 L2 M1 M2 l oi sd ok op oq q X Y AL n cl A c F R k) {st:Bool} (hr:U8.join F R (VX al tr (l.drop k) ⟨oi,sd,ok,op,q⟩ s)=⟨F,⟨oi,sd,ok,op,q⟩,st,s,R++l.drop k⟩) (hk:QK (fun i=>i=Y) wr w'):
  Jj1 K w w' G sd L1 L2 (VX al tr l ⟨oi,sd,ok,op,oq⟩ s0) (.returned (.tuple #[.slice A F.length c,KJ ⟨oi,sd,ok,op,q⟩,.bool st])):=by
 have e:=h.eq.trans hr
 rw[e]
 exact⟨A,c,G',M1,M2,rfl,h.v.m.keep hs hk h.v.yg h.v.ya h.v.wy,h.own,h.oth⟩
end
theorem Xl7 {σ:Type} {K:σ→List QX→List QX→(Nat→Prop)→World→Prop} {al:σ→Int→Bool} {tr:σ→Int→σ} {cnt:σ→Nat} {ga gt:FuncId} {fa ca ct:Array Value} {b:Nat}
  (hs:Qa1 K al tr cnt ga gt fa ca ct 175 (.pointer (some ⟨b,0,none⟩)) .nilIface)
  (hside: ∀ {s:σ} {L1 L2:List QX} {F:Nat→Prop} {w:World},K s L1 L2 F w→ ∀sd,UQ sd→Calls Tryz.prog 86 #[.pointer (some ⟨b,0,none⟩),.int .i64 sd] w fun e w'=>Below w.heap.size w w'∧ ∃A c,e= .returned (.tuple #[.slice A (JY sd L1 L2).length c,.nilIface])∧QW w' A (JY sd L1 L2).length c 117 5 (JQ I6 (JY sd L1 L2))∧ ∀g,QZ A=some g→w.heap.size≤g)
  (w:World) (s0:σ) (G:Nat→Prop) (L1 L2:List QX) (h:K s0 L1 L2 G w) (h0:cnt s0=0) (oi ok op oq:Int) (hf:Qf4 ⟨oi,1,ok,op,oq⟩):
  Calls Tryz.prog 143 #[.pointer (some ⟨b,0,none⟩),KJ ⟨oi,1,ok,op,oq⟩,.func (.func ga) fa ca,.func (.func gt) #[] ct] w fun e w'=>Jj1 K w w' G 1 L1 L2 (VX al tr (JY 2 L1 L2) ⟨oi,1,ok,op,oq⟩ s0) e:=by
 have HS:=QQ hs
 have ega:=hs.ega
 have egt:=hs.egt
 have hlt:=hs.lt h
 have hlists:=hs.ok h
 obtain⟨l,hl⟩: ∃l,JY 2 L1 L2=l:=⟨_,rfl⟩
 rw[hl]
 have hok: ∀x∈l,OkO x:=fun x hx=>by
  rw[←hl]at hx;refine hlists.ok x ?_;unfold JY at hx
  split at hx
  ·exact List.mem_append_left _ hx
  ·exact List.mem_append_right _ hx
 have hlen:l.length≤100:=by
  have h1:=hlists.cnt;rw[List.length_append]at h1;rw[←hl];unfold JY
  split<;>omega
 obtain⟨n,hn⟩: ∃n,l.length=n:=⟨_,rfl⟩
 rw[hn]at hlen
 have hA1:Below w.heap.size w (w.alloc (.cells (KV ⟨oi,1,ok,op,oq⟩) 117)):=(Below.refl _ w).alloc (Nat.le_refl _) _
 have hA2:Below w.heap.size w ((w.alloc (.cells (KV ⟨oi,1,ok,op,oq⟩) 117)).alloc (.cells (KV noO) 117)):=hA1.alloc (by simp) _
 have hX:=QJ.alloc (QJ.new w 117 (KV ⟨oi,1,ok,op,oq⟩)) (.cells (KV noO) 117)
 have hY:QJ ((w.alloc (.cells (KV ⟨oi,1,ok,op,oq⟩) 117)).alloc (.cells (KV noO) 117)) (w.heap.size+1) 117 (KV noO):=by
  have:=QJ.new (w.alloc (.cells (KV ⟨oi,1,ok,op,oq⟩) 117)) 117 (KV noO);rw[World.size_alloc]at this;exact this
 obtain⟨w2,ew2⟩: ∃W,((w.alloc (.cells (KV ⟨oi,1,ok,op,oq⟩) 117)).alloc (.cells (KV noO) 117))=W:=⟨_,rfl⟩
 rw[ew2]at hA2 hX hY
 have hK2:=hs.keep h (QK.of_below hA2 (fun _=>False)) (fun _ _=>id)
 have hcall:=hside hK2 2 ZJ
 rw[hl,hn]at hcall
 have HC:=QQ hcall
 have HX:=QQ hX
 have HY:=QQ hY
 have HA2:=QQ hA2
 have HLt:=QQ hlt
 have HK2:=QQ hK2
 have HOk:=QQ hok
 have HN:=QQ hn
 have HL:=QQ hl
 have hxs:=hX.lt
 have hys:=hY.lt
 have hqf:KZ oq:=hf.2.2.2.2
 obtain⟨x0,x1,x2,x3,x4⟩:=JV hX
 dsimp only at x0 x1 x2 x3 x4
 clear hs h hside hlists hok hA1 hA2 hX hY hK2 hcall hn hlt hf
 unfold KV noO at ew2
 dsimp only at ew2
 show Calls Tryz.prog 143 #[.pointer (some ⟨b,0,none⟩),.agg #[.int .i64 oi,.int .i64 1,.int .i64 ok,.int .i64 op,.int .i64 oq],.func (.func ga) fa ca,.func (.func gt) #[] ct] w _
 go_enter Tryz.func143,Tryz.ntmps143
 go_upto_region 2 with fail
 try rw[ew2]
 clear ew2
 go_wp2_with fail
 refine HC.out.mono ?_
 rintro e w3 ⟨hb3,AL,cl,rfl,hrow3,hnew3⟩
 have hw2:w.heap.size≤w2.heap.size:=HA2.out.size
 have HST:=QQ (show Qv9 K al tr cnt w w3 s0 s0 G G L1 L2 L1 L2 l oi 1 ok op oq oq w.heap.size (w.heap.size+1) AL n cl none 0 [] [] 0 from
  ⟨⟨⟨HS.out.keep HK2.out (QK.of_below hb3 (fun _=>False)) (fun _ _=>id),KQ.of_below (HA2.out.trans (hb3.mono HA2.out.size)),World.ownsRow_nil _ _ _ _,fun g hg=>by simp[QZ]at hg⟩,
   QJ.keep HX.out hb3,QJ.keep HY.out hb3,fun e=>Nat.lt_irrefl _ (HLt.out _ e),fun e=>by have:=HLt.out _ e;omega,by simp[QZ],by simp[QZ],by omega,hrow3,fun g hg=>⟨fun e=>by have:=HLt.out _ e;have:=hnew3 g hg;omega,by simp[QZ],by have:=hnew3 g hg;omega,by have:=hnew3 g hg;omega⟩,Nat.le_refl _,by omega⟩,by rw[List.drop_zero];rfl,rfl,by rw[List.drop_zero,List.nil_append];exact HL.out,Nat.zero_le _,hqf,by rw[h0];exact Nat.zero_le _⟩)
 clear hb3 hrow3 hnew3 x0 x1 x2 x3 x4 HX HY HC HK2 HLt
 obtain⟨X,eX⟩: ∃X,w.heap.size=X:=⟨_,rfl⟩
 obtain⟨Y,eY⟩: ∃Y,w.heap.size+1=Y:=⟨_,rfl⟩
 rw[eY,eX]at HST⊢
 have HEX:=QQ eX
 clear eX eY hxs hys HA2 hw2
 go_wp2_with fail
 go_loopg [11,28] n (fun gg s11 s28 wr=> ∃(k:Nat) (q:Int) (s:σ) (G':Nat→Prop) (M1 M2:List QX) (A:Option Addr) (c:Nat) (F:List XQ) (R:List QX),k≤n∧gg=n-k∧s28= .int .i64 k∧s11= .slice A F.length c∧Hid (Qv9 K al tr cnt w wr s0 s G G' L1 L2 M1 M2 l oi 1 ok op oq q X Y AL n cl A c F R k))
 case atStart=>exact⟨0,oq,s0,G,L1,L2,none,0,[],[],Nat.zero_le _,rfl,rfl,rfl,HST⟩
 case round=>
  obtain⟨k,q,s,G',M1,M2,A,c,F,R,hk,rfl,rfl,rfl,HW⟩:=hrel;clear HST
  by_cases hlt:k<n
  ·have hkl:k<l.length:=by rw[HN.out];exact hlt
   obtain⟨gl,hgl⟩:=Qc1 HW.out.v.lr (by omega);subst hgl;obtain⟨y0,y1,y2,y3,y4⟩:=Qs7 HW.out.v.lr hkl;have hdrop:=List.drop_eq_getElem_cons hkl;have hxok:=HOk.out l[k] (List.getElem_mem hkl);obtain⟨x,hx⟩: ∃x,l[k]=x:=⟨_,rfl⟩;rw[hx]at y0 y1 y2 y3 y4 hdrop hxok;have HDrop:=QQ hdrop;have HXok:=QQ hxok;have hltz:(k:Int)< (n:Int):=by omega
   have hk7:(0:Int)≤(k:Int):=by omega
   clear hdrop hxok hx;go_upto_region 6 with fail
   obtain⟨wa,ewa⟩: ∃W,(wr.alloc (.cells #[.int .i64 x.id,.int .i64 x.side,.int .i64 x.kind,.int .i64 x.price,.int .i64 x.qty] 117))=W:=⟨_,rfl⟩;obtain⟨Z,eZ⟩: ∃Z,wr.heap.size=Z:=⟨_,rfl⟩;have hZ:=QJ.new wr 117 (KV x);unfold KV at hZ;have hWa:=HW.out.below HS.out ((Below.refl wr.heap.size wr).alloc (Nat.le_refl _) (.cells #[.int .i64 x.id,.int .i64 x.side,.int .i64 x.kind,.int .i64 x.price,.int .i64 x.qty] 117));have hGZ: ¬G' wr.heap.size:=fun e=>Nat.lt_irrefl _ (HS.out.lt HW.out.v.m.mk_ _ e)
   have hZA:QZ A≠some wr.heap.size:=fun e=>Nat.lt_irrefl _ (HW.out.v.m.row.lt e)
   have hZX:wr.heap.size≠X:=fun e=>by have:=QJ.lt HW.out.v.bx;omega
   rw[ewa]at hZ hWa⊢;rw[eZ]at hZ hGZ hZA hZX⊢;have HZA:=QQ hZA;have HZX:=QQ hZX;clear hZA hZX;obtain⟨x0,x1,x2,x3,x4⟩:=JV hWa.v.bx;obtain⟨z0,z1,z2,z3,z4⟩:=U9 hZ;dsimp only at x0 x1 x2 x3 x4;have HWa:=QQ hWa;have HZ:=QQ hZ;have HGZ:=QQ hGZ;clear hWa hZ hGZ HW ewa eZ y0 y1 y2 y3 y4
   by_cases c0:q<1
   ·have d0:decide (q<1)=true:=J0 c0
    have HC0:=QQ c0;clear c0;have hY:=HWa.out.v.by_;obtain⟨v0,v1,v2,v3,v4⟩:=JV hY;have f0:=QJ.frozen hY 0;have f1:=QJ.frozen hY 1;have f2:=QJ.frozen hY 2;have f3:=QJ.frozen hY 3;have f4:=QJ.frozen hY 4;obtain⟨hy1,hy2⟩:=Qj0 hY (.int .i64 oi) (.int .i64 1) (.int .i64 ok) (.int .i64 op) (.int .i64 q);have HY1:=QQ hy1;have HY2:=QQ hy2;clear hY hy1 hy2;go_wp2_with fail
    go_region
    go_wp2_with fail
    exact Qj1 rfl (o:=⟨oi,1,ok,op,q⟩) Y rfl rfl rfl rfl (QJ.drew HY1.out) (HWa.out.done HS.out (by rw[HDrop.out];exact Xf7 HC0.out) (HY2.out.then_ (Below.drew (Below.refl _ _))))
   ·have d0:decide (q<1)=false:=OY c0
    have HC0:Hid (1≤q):=QQ (by omega);clear c0
    by_cases c1:x.kind=2
    ·have d1:=Z2 c1
     have HC1:=QQ c1;clear c1;go_wp2_with fail
     go_roundg (n- (k+1))
     case measure=>omega
     case rel=>exact⟨k+1,q,s,G',M1,M2,A,c,F,R++ [x],by omega,rfl,by go_num,rfl,QQ (HWa.out.pass HDrop.out (by have:=HC0.out;omega) HC1.out)⟩
    ·have d1:=YW c1
     have HC1:=QQ c1;clear c1;go_upto_region 9 with fail
     go_cut [42] (fun s42 wx=>s42= .bool (X6 ⟨oi,1,ok,op,q⟩ x)∧wx=wa)
     case first=>
      by_cases c2:ok=2
      ·have d2:=Jk1 c2
       have HE:Hid (X6 ⟨oi,1,ok,op,q⟩ x=false):=QQ (by unfold X6;dsimp only;rw[Z2 c2];rfl);clear c2;go_wp2_with fail
       go_meet;exact⟨by rw[HE.out],rfl⟩
      ·have d2:=Je0 c2
       by_cases c3:op<x.price
       ·have d3:=J0 c3
        have HE:Hid (X6 ⟨oi,1,ok,op,q⟩ x=true):=QQ (by unfold X6;dsimp only;rw[YW c2];simp;exact c3);clear c2 c3;go_wp2_with fail
        go_meet;exact⟨by rw[HE.out],rfl⟩
       ·have d3:=OY c3
        have HE:Hid (X6 ⟨oi,1,ok,op,q⟩ x=false):=QQ (by unfold X6;dsimp only;rw[YW c2];simp;omega);clear c2 c3;go_wp2_with fail
        go_meet;exact⟨by rw[HE.out],rfl⟩
     case rest=>
      obtain⟨rfl,rfl⟩:=hcut;obtain⟨bb,hbb⟩: ∃bb,X6 ⟨oi,1,ok,op,q⟩ x=bb:=⟨_,rfl⟩;rw[hbb];have HBB:=QQ hbb;clear hbb
      cases bb with
      |true=>
       have hY:=HWa.out.v.by_;obtain⟨v0,v1,v2,v3,v4⟩:=JV hY;have f0:=QJ.frozen hY 0;have f1:=QJ.frozen hY 1;have f2:=QJ.frozen hY 2;have f3:=QJ.frozen hY 3;have f4:=QJ.frozen hY 4;obtain⟨hy1,hy2⟩:=Qj0 hY (.int .i64 oi) (.int .i64 1) (.int .i64 ok) (.int .i64 op) (.int .i64 q);have HY1:=QQ hy1;have HY2:=QQ hy2;clear hY hy1 hy2;go_wp2_with fail
       go_region
       go_wp2_with fail
       exact Qj1 rfl (o:=⟨oi,1,ok,op,q⟩) Y rfl rfl rfl rfl (QJ.drew HY1.out) (HWa.out.done HS.out (by rw[HDrop.out];exact Jq0 (by have:=HC0.out;show¬q<1;omega) HC1.out HBB.out) (HY2.out.then_ (Below.drew (Below.refl _ _))))
      |false=>
       go_wp2_with fail
       go_at_fn ga
       refine(HS.out.allows x.price HWa.out.v.m.mk_ ⟨HXok.out.2.2.1.1,HXok.out.2.2.1.2⟩).mono ?_;rintro e wb ⟨rfl,hbb⟩;have hWb:=HWa.out.below HS.out hbb;have hZb:=QJ.keep HZ.out hbb;obtain⟨ab,hab⟩: ∃ab,al s x.price=ab:=⟨_,rfl⟩;rw[hab];have HAB:=QQ hab;have HWa:=QQ hWb;have HZ:=QQ hZb;obtain⟨x0,x1,x2,x3,x4⟩:=JV hWb.v.bx;obtain⟨z0,z1,z2,z3,z4⟩:=U9 hZb;dsimp only at x0 x1 x2 x3 x4;clear hWb hZb hbb hab
       cases ab with
       |false=>
        have hY:=HWa.out.v.by_;obtain⟨v0,v1,v2,v3,v4⟩:=JV hY;have f0:=QJ.frozen hY 0;have f1:=QJ.frozen hY 1;have f2:=QJ.frozen hY 2;have f3:=QJ.frozen hY 3;have f4:=QJ.frozen hY 4;obtain⟨hy1,hy2⟩:=Qj0 hY (.int .i64 oi) (.int .i64 1) (.int .i64 ok) (.int .i64 op) (.int .i64 q);have HY1:=QQ hy1;have HY2:=QQ hy2;clear hY hy1 hy2;go_wp2_with fail
        go_region
        go_wp2_with fail
        exact Qj1 rfl (o:=⟨oi,1,ok,op,q⟩) Y rfl rfl rfl rfl (QJ.drew HY1.out) (HWa.out.done HS.out (by rw[HDrop.out];exact Xf8 (by have:=HC0.out;show¬q<1;omega) HC1.out HBB.out HAB.out) (HY2.out.then_ (Below.drew (Below.refl _ _))))
       |true=>
        clear x0 x1 x2 x3 x4 z0 z1 z2 z3 z4;obtain⟨m,hm⟩: ∃m,min q x.qty=m:=⟨_,rfl⟩;have hq1:=HC0.out;have hxq:=HXok.out.2.2.2;have hqb:=HWa.out.qb;unfold KZ at hqb;have hm1:1≤m:=by omega
        have hmx:m≤x.qty:=by omega
        have hmq:m≤q:=by omega
        have HM:=QQ hm;clear hm;go_upto_region 13 with fail
        obtain⟨x0,x1,x2,x3,x4⟩:=JV HWa.out.v.bx;obtain⟨z0,z1,z2,z3,z4⟩:=U9 HZ.out;dsimp only at x0 x1 x2 x3 x4
        go_cut [16] (fun s16 wx=>s16= .int .i64 m∧wx=wb)
        case first=>
         go_wp2_with fail
         all_goals go_meet
         all_goals refine⟨?_,rfl⟩
         all_goals rw[←HM.out]
         all_goals congr 1
         all_goals omega
        case rest=>
         obtain⟨rfl,rfl⟩:=hcut;have hF1:F.length≤100000000:=by have:=HWa.out.fl;omega
         have HCn:Hid (cnt s≤F.length):=QQ HWa.out.cn;have HCk:Hid (cnt s≤1000):=QQ (by have:=HWa.out.fl;have:=HWa.out.cn;omega);obtain⟨i0,hi0,hz0,hz1,hz2⟩:=info_parts Jl9;go_upto_region 15 with fail
         have hal:Below wc.heap.size wc (wc.alloc (.cells #[.int .i64 oi,.int .i64 x.id,.int .i64 x.price,.int .i64 m] 145)):=(Below.refl _ _).alloc (Nat.le_refl _) _;have hQ:=QJ.new wc 145 #[.int .i64 oi,.int .i64 x.id,.int .i64 x.price,.int .i64 m];obtain⟨Q,eQ⟩: ∃Q,wc.heap.size=Q:=⟨_,rfl⟩;have HQ0:Hid (wc.heap.size≤Q):=QQ (by omega);obtain⟨wf,ewf⟩: ∃W,wc.alloc (.cells #[.int .i64 oi,.int .i64 x.id,.int .i64 x.price,.int .i64 m] 145)=W:=⟨_,rfl⟩;have hWf:=HWa.out.below HS.out hal;have hXQ:X≠wc.heap.size:=fun e=>by have:=QJ.lt HWa.out.v.bx;omega
         have hZf:=QJ.keep HZ.out hal;rw[ewf]at hQ hWf hZf hal⊢;have HAL:=QQ hal;rw[eQ]at hQ hXQ⊢;have HXQ:=QQ hXQ;clear hXQ;have HWf:=QQ hWf;have HZf:=QQ hZf;have HQ:=QQ hQ;clear x0 x1 x2 x3 x4 z0 z1 z2 z3 z4 hal ewf eQ hWf hZf;obtain⟨x0,x1,x2,x3,x4⟩:=JV HWf.out.v.bx;obtain⟨z0,z1,z2,z3,z4⟩:=U9 HZf.out;obtain⟨q0,q1,q2,q3⟩:=Xu6 hQ;dsimp only at x0 x1 x2 x3 x4;clear hQ;have HO1:=QQ (World.ownsRow.alloc (show wf.ownsRow 0 145 4 (.slice A F.length c) F.length (JQ Qb3 F)from HWf.out.v.m.row) (.cells #[.int .i64 oi,.int .i64 x.id,.int .i64 x.price,.int .i64 m] 145));go_upto_region 18 with(at_builtin;refine wpList_append_lies _ rfl _ _ 94 rfl 0 145 i0 _ 4 32 Tryz.underlying94 hi0 hz0 hz1 hz2 rfl (by omega) (.slice A F.length c) F.length _ rfl HO1.out ⟨wf.heap.size,0,none⟩ 1 1 [.int .i64 oi,.int .i64 x.id,.int .i64 x.price,.int .i64 m] rfl rfl (World.news_of_block (cs:= #[.int .i64 oi,.int .i64 x.id,.int .i64 x.price,.int .i64 m]) (t:=145) (fr:=(0,0)) (heap_alloc_new wf _)) (by simp[Value.oneCell']) (by omega) (by unfold maxLen;omega) (by omega) (by simp) (wf.heap.size+1) (by simp) ?_;intro gg cap w6 hown hgrow hat6 hlt6)
         have hk6:=Ql2 hgrow;rw[JW]at hk6 hat6;have hV6:=HWf.out.v.fill HS.out (f:=⟨oi,x.id,x.price,m⟩) hk6 hown (hat6.imp id (fun e=>by omega));have hZ6:=QJ.keeps HZf.out hk6 HZA.out;obtain⟨hget,hown6,hoth6⟩:=Xu5 (n:=m) (HS.out.ok hV6.m.mk_) ZQ (HWf.out.oth.trans (by rw[HDrop.out]));have hcc:=HS.out.cut x m hV6.m.mk_ hget hm1 hmx;have HCC:=QQ hcc;have HV6:=QQ hV6;have HZ6:=QQ hZ6;have HOwn:=QQ (hown6.trans HWf.out.own);have HOth:=QQ hoth6;have HEq:=QQ (show VX al tr l ⟨oi,1,ok,op,oq⟩ s0=U8.join (F++ [⟨oi,x.id,x.price,m⟩]) (R++Qr9 x m) (VX al tr (l.drop (k+1)) ⟨oi,1,ok,op,q-m⟩ (tr s x.price))from HWf.out.eq.trans (by rw[HDrop.out];exact Jx9 (by have:=HC0.out;show¬q<1;omega) HC1.out HBB.out HAB.out HM.out));have HFl:=QQ HWf.out.fl;clear x0 x1 x2 x3 x4 z0 z1 z2 z3 z4 q0 q1 q2 q3 hk6 hown hgrow hat6 hlt6 hV6 hZ6 hget hown6 hoth6 hcc HO1 hi0 hz0 hz1 hz2 HWf HZf HQ HWa HZ;obtain⟨z0,z1,z2,z3,z4⟩:=U9 HZ6.out;go_wp2_with fail
         refine HCC.out.mono ?_;rintro e w7 ⟨rfl,G2,hk7,hb7⟩;have hV7:=HV6.out.turn hk7 hb7;have hZ7:=QJ.keeps HZ6.out hb7.1 (fun e=>HGZ.out e);have hV8:=hV7.lots HS.out (q':=q-m);have hZ8:=QJ.keeps hZ7 (QK.set_ w7 ⟨X,4,none⟩ (.int .i64 (q-m))) HZX.out;have i1:RowKit.wrap64 (q-m)=q-m:=by unfold RowKit.wrap64;omega
         have f4:=QJ.frozen hV7.bx 4;obtain⟨x0,x1,x2,x3,x4⟩:=JV hV7.bx;dsimp only at x0 x1 x2 x3 x4;have HV8:=QQ hV8;have HZ8:=QQ hZ8;clear hV7 hZ7 hV8 hZ8 hk7 hb7 z0 z1 z2 z3 z4 HV6 HZ6 HCC;go_upto_region 20 with fail
         obtain⟨w8,ew8⟩: ∃W,w7.setCell ⟨X,4,none⟩ (.int .i64 (q-m))=W:=⟨_,rfl⟩;rw[ew8]at HV8 HZ8⊢;clear ew8 x0 x1 x2 x3 x4 f4;obtain⟨z0,z1,z2,z3,z4⟩:=U9 HZ8.out;go_wp2_with fail
         go_at_fn gt
         refine(HS.out.trades x.price HV8.out.m.mk_ ⟨HXok.out.2.2.1.1,HXok.out.2.2.1.2⟩ HCk.out).mono ?_;rintro e w9 ⟨rfl,G3,hk9,hb9⟩;have HV9:=QQ (HV8.out.turn hk9 hb9);clear hk9 hb9 z0 z1 z2 z3 z4 HV8 HZ8 i1;go_wp2_with fail
         go_roundg (n- (k+1))
         case measure=>omega
         case rel=>exact⟨k+1,q-m,tr s x.price,G3,Qf2 M1 x m,Qf2 M2 x m,some ⟨gg,0,none⟩,cap,F++ [⟨oi,x.id,x.price,m⟩],R++Qr9 x m,by omega,rfl,by go_num,by simp,QQ ⟨HV9.out,HEq.out,HOwn.out,HOth.out,by rw[List.length_append,List.length_singleton];exact Nat.succ_le_succ HFl.out,by unfold KZ;omega,by have h1:=HS.out.cnt_ s x.price;have h2:=HCn.out;rw[List.length_append,List.length_singleton];omega⟩⟩
  ·obtain rfl:k=n:=by omega
   have hltz: ¬(k:Int)< (k:Int):=by omega
   have hY:=HW.out.v.by_;obtain⟨v0,v1,v2,v3,v4⟩:=JV hY;obtain⟨x0,x1,x2,x3,x4⟩:=JV HW.out.v.bx;dsimp only at x0 x1 x2 x3 x4;have f0:=QJ.frozen hY 0;have f1:=QJ.frozen hY 1;have f2:=QJ.frozen hY 2;have f3:=QJ.frozen hY 3;have f4:=QJ.frozen hY 4;obtain⟨hy1,hy2⟩:=Qj0 hY (.int .i64 oi) (.int .i64 1) (.int .i64 ok) (.int .i64 op) (.int .i64 q);have HY1:=QQ hy1;have HY2:=QQ hy2;clear hY hy1 hy2;go_wp2_with fail
   go_region
   go_wp2_with fail
   have hdn:l.drop k= []:=List.drop_eq_nil_of_le (by rw[HN.out];exact Nat.le_refl _);exact Qj1 rfl (o:=⟨oi,1,ok,op,q⟩) Y rfl rfl rfl rfl (QJ.drew HY1.out) (HW.out.done HS.out (by rw[hdn,Xu3,List.append_nil]) (HY2.out.then_ (Below.drew (Below.refl _ _))))
end Go.Proofs.YtbmiieehkkfbgaaGreatDoor
