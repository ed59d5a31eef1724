/- Contracts and walks that the law's proof needs. -/
import Derived.Test.YtnlngicnfegjgaaGreatZf33
set_option linter.unusedVariables false
set_option maxRecDepth 100000
set_option maxHeartbeats 8000000
namespace Go.Proofs.YtnlngicnfegjgaaGreat
open Go.RowKit
structure Qa4 {σ:Type} (K:σ→List QX→List QX→(Nat→Prop)→World→Prop) (al:σ→Int→Bool) (tr:σ→Int→σ) (cnt:σ→Nat) (ga gt:FuncId) (fa ca ct:Array Value) (cutF:FuncId) (bp e0:Value):Prop where
 keep: ∀ {s:σ} {L1 L2:List QX} {F:Nat→Prop} {w w':World} {S:Nat→Prop},K s L1 L2 F w→QK S w w'→(∀i,F i→ ¬S i)→K s L1 L2 F w'
 lt: ∀ {s:σ} {L1 L2:List QX} {F:Nat→Prop} {w:World},K s L1 L2 F w→ ∀i,F i→i<w.heap.size
 ok: ∀ {s:σ} {L1 L2:List QX} {F:Nat→Prop} {w:World},K s L1 L2 F w→XY L1 L2
 allows: ∀ {s:σ} {L1 L2:List QX} {F:Nat→Prop} {w:World} (p:Int),K s L1 L2 F w→1≤p∧p≤1000000→Calls Tryz.prog ga (fa++ #[.int .i64 p]++ca) w fun e w'=>e= .returned (.bool (al s p))∧Below w.heap.size w w'
 trades: ∀ {s:σ} {L1 L2:List QX} {F:Nat→Prop} {w:World} (p:Int),K s L1 L2 F w→1≤p∧p≤1000000→cnt s≤1000→Calls Tryz.prog gt (#[.int .i64 p]++ct) w fun e w'=>e= .returned (.tuple #[])∧ ∃F',K (tr s p) L1 L2 F' w'∧XW w w' F F'
 cut: ∀ {s:σ} {L1 L2:List QX} {F:Nat→Prop} {w:World} (x:QX) (n:Int),K s L1 L2 F w→Qb3 (L1++L2) x.id=some x→1≤n→n≤x.qty→Calls Tryz.prog cutF #[bp,.int .i64 x.id,.int .i64 n] w fun e w'=>e= .returned e0∧ ∃F',K s (Qf6 L1 x n) (Qf6 L2 x n) F' w'∧XW w w' F F'
 cnt_: ∀s p,cnt (tr s p)≤cnt s+1
 ega: ∀args w,(callFunc ga args).run Tryz.prog w= .ok (.enter ga args) w
 egt: ∀args w,(callFunc gt args).run Tryz.prog w= .ok (.enter gt args) w
structure Qj0 {σ:Type} (K:σ→List QX→List QX→(Nat→Prop)→World→Prop) (w wr:World) (s:σ) (G G':Nat→Prop) (M1 M2:List QX) (A:Option Addr) (c:Nat) (F:List JV):Prop where
 mk_:K s M1 M2 G' wr
 step:XW w wr G G'
 row:QY wr A F.length c 48 4 (QW Qb1 F)
 fpA: ∀g,QV A=some g→ ¬G' g∧w.heap.size≤g
section
variable {σ:Type} {K:σ→List QX→List QX→(Nat→Prop)→World→Prop} {al:σ→Int→Bool} {tr:σ→Int→σ} {cnt:σ→Nat} {ga gt:FuncId} {fa ca ct:Array Value} {cutF:FuncId} {bp e0:Value}
variable {w wr w':World} {s s':σ} {G G' G2:Nat→Prop} {M1 M2 N1 N2:List QX} {A:Option Addr} {c:Nat} {F:List JV}
theorem Qj0.below (hs:Qa4 K al tr cnt ga gt fa ca ct cutF bp e0) (h:Qj0 K w wr s G G' M1 M2 A c F) (hb:Below wr.heap.size wr w'):Qj0 K w w' s G G' M1 M2 A c F:=
 ⟨hs.keep h.mk_ (QK.of_below hb (fun _=>False)) (fun _ _=>id),h.step.trans (XW.of_below hb),h.row.below hb,h.fpA⟩
theorem Qj0.keep (hs:Qa4 K al tr cnt ga gt fa ca ct cutF bp e0) (h:Qj0 K w wr s G G' M1 M2 A c F) {X:Nat} (hk:QK (fun i=>i=X) wr w') (hX: ¬G' X) (hXA:QV A≠some X) (hXw:w.heap.size≤X):Qj0 K w w' s G G' M1 M2 A c F:=
 ⟨hs.keep h.mk_ hk (fun i hi e=>hX (e▸hi)),⟨h.step.1.trans hk (fun i hi=> .inr (hi▸hXw)),h.step.2⟩,h.row.keeps hk (fun g hg e=>hXA (e▸hg)),h.fpA⟩
theorem Qj0.fill (hs:Qa4 K al tr cnt ga gt fa ca ct cutF bp e0) {f:JV} {gg cap:Nat} (h:Qj0 K w wr s G G' M1 M2 A c F) (hk:QK (fun i=>QV A=some i) wr w') (ho:w'.ownsRow 0 48 4 (.slice (some ⟨gg,0,none⟩) (F.length+1) cap) (F.length+1) (QW Qb1 F++Qb1 f)) (hat:QV A=some gg∨wr.heap.size≤gg):
  Qj0 K w w' s G G' M1 M2 (some ⟨gg,0,none⟩) cap (F++ [f]):=by
 refine⟨hs.keep h.mk_ hk (fun i hi e=>(h.fpA i e).1 hi),⟨h.step.1.trans hk (fun i hi=> .inr (h.fpA i hi).2),h.step.2⟩, ?_,fun g hg=> ?_⟩
 ·show w'.ownsRow 0 48 4 _ _ _
  rw[Qa5,List.length_append];exact ho
 ·have e:gg=g:=by simpa [QV]using hg
  subst e;rcases hat with h1|h1
  ·exact h.fpA _ h1
  ·refine⟨fun hG=> ?_,Nat.le_trans h.step.1.size h1⟩
   have:=hs.lt h.mk_ _ hG;omega
theorem Qj0.turn (h:Qj0 K w wr s G G' M1 M2 A c F) (hk:K s' N1 N2 G2 w') (hb:XW wr w' G' G2):Qj0 K w w' s' G G2 N1 N2 A c F:=by
 refine⟨hk,h.step.trans hb,h.row.keeps hb.1 (fun g hg=>(h.fpA g hg).1),fun g hg=>⟨fun hG=> ?_,(h.fpA g hg).2⟩⟩
 rcases hb.2 g hG with h1|h1
 ·exact(h.fpA g hg).1 h1
 ·have:=h.row.lt hg;omega
end
def Jh2 {σ:Type} (K:σ→List QX→List QX→(Nat→Prop)→World→Prop) (w w':World) (G:Nat→Prop) (sd:Int) (L1 L2:List QX) (r:O9 σ) (e:Ending):Prop:=
 ∃A c G' M1 M2,e= .returned (.tuple #[.slice A r.fills.length c,KQ r.left,.bool r.stop])∧Qj0 K w w' r.st G G' M1 M2 A c r.fills∧XQ sd M1 M2=XQ sd L1 L2∧XQ (3-sd) M1 M2=r.rest
theorem Ja4 {P:Program} {fn:Func} {p q u:Tmp} {ty:TypeId} (h:fn.results= #[.tmp u,.cell p ty,.tmp q]) (tmps:Array Value) (w:World) (g:Nat) (t:TypeId) (cs:Array Value) (v1 v2:Value) (fr:Nat×Nat) (d:TypeDesc)
  (hu1:tmps.getD u undef=v1) (hp:tmps.getD p undef= .pointer (some ⟨g,0,none⟩)) (hq:tmps.getD q undef=v2) (hg:w.heap[g]?=some (.cells cs t fr))
  (hu:P.underlying ty=some d) (hd:(match d with| .struct _| .array _ _=>true|_=>false)=true) (hi:(P.info? ty).map (·.size)=some cs.size):(results fn tmps).run P w= .ok (.tuple #[v1,.agg cs,v2]) w:=by
 have hu':tmps[u]?.getD undef=v1:=by simpa using hu1
 have hp':tmps[p]?.getD undef= .pointer (some ⟨g,0,none⟩):=by simpa using hp
 have hq':tmps[q]?.getD undef=v2:=by simpa using hq
 simp[results,h,hu',hp',hq',asAddr,run_loadVar_row w g t ty cs fr d hg hu hd hi,Result.andThen]
theorem Y2 {w:World} {g:Nat} {t:TypeId} {a b c d e:Value} (h:QJ w g t #[a,b,c,d,e]):w.cell? ⟨g,0,none⟩=some a∧w.cell? ⟨g,1,none⟩=some b∧w.cell? ⟨g,2,none⟩=some c∧w.cell? ⟨g,3,none⟩=some d∧w.cell? ⟨g,4,none⟩=some e:=
 ⟨by rw[QJ.cell h];rfl,by rw[QJ.cell h];rfl,by rw[QJ.cell h];rfl,by rw[QJ.cell h];rfl,by rw[QJ.cell h];rfl⟩
theorem Xp5 {w:World} {g:Nat} {t:TypeId} {a b c d:Value} (h:QJ w g t #[a,b,c,d]):w.cell? ⟨g,0,none⟩=some a∧w.cell? ⟨g,1,none⟩=some b∧w.cell? ⟨g,2,none⟩=some c∧w.cell? ⟨g,3,none⟩=some d:=
 ⟨by rw[QJ.cell h];rfl,by rw[QJ.cell h];rfl,by rw[QJ.cell h];rfl,by rw[QJ.cell h];rfl⟩
theorem Qj1 {w:World} {Y:Nat} {t:TypeId} {a0 b0 c0 d0 e0:Value} (h:QJ w Y t #[a0,b0,c0,d0,e0]) (a b c d e:Value):
  QJ (((((w.setCell ⟨Y,0,none⟩ a).setCell ⟨Y,1,none⟩ b).setCell ⟨Y,2,none⟩ c).setCell ⟨Y,3,none⟩ d).setCell ⟨Y,4,none⟩ e) Y t #[a,b,c,d,e]∧QK (fun i=>i=Y) w (((((w.setCell ⟨Y,0,none⟩ a).setCell ⟨Y,1,none⟩ b).setCell ⟨Y,2,none⟩ c).setCell ⟨Y,3,none⟩ d).setCell ⟨Y,4,none⟩ e):=
 ⟨QJ.set_ (QJ.set_ (QJ.set_ (QJ.set_ (QJ.set_ h 0 a) 1 b) 2 c) 3 d) 4 e,
  ((((QK.set_ w ⟨Y,0,none⟩ a).trans (QK.set_ _ ⟨Y,1,none⟩ b) (fun _ h=> .inl h)).trans (QK.set_ _ ⟨Y,2,none⟩ c) (fun _ h=> .inl h)).trans (QK.set_ _ ⟨Y,3,none⟩ d) (fun _ h=> .inl h)).trans (QK.set_ _ ⟨Y,4,none⟩ e) (fun _ h=> .inl h)⟩
theorem Qj2 {fn:Func} (hf:fn.results= #[.tmp 8,.cell 9 29,.tmp 10]) {w:World} {a:Act} {Q:Ending→World→Prop} {o:QX} {v1 v2:Value} (g:Nat) (h9:a.tmps.getD 9 undef= .pointer (some ⟨g,0,none⟩)) (h8:a.tmps.getD 8 undef=v1) (h10:a.tmps.getD 10 undef=v2) (hd:a.defers= [])
  (hg:QJ w g 29 (KZ o)) (h:Q (.returned (.tuple #[v1,KQ o,v2])) w):bodyPost Tryz.prog fn Q .ret a w:=
 bodyPost_ret (Ja4 hf a.tmps w g 29 (KZ o) v1 v2 (0,0) _ h8 h9 h10 hg Tryz.underlying29 rfl (by show(Tryz.prog.info? 29).map (·.size)=some 5;kernel_rfl)) hd h
structure Qr2 {σ:Type} (K:σ→List QX→List QX→(Nat→Prop)→World→Prop) (w wr:World) (s:σ) (G G':Nat→Prop) (M1 M2 l:List QX) (ob:QX) (X Y:Nat) (AL:Option Addr) (n cl:Nat) (A:Option Addr) (c:Nat) (F:List JV):Prop where
 m:Qj0 K w wr s G G' M1 M2 A c F
 bx:QJ wr X 29 (KZ ob)
 by_:QJ wr Y 29 (KZ noO)
 xg: ¬G' X
 yg: ¬G' Y
 xa:QV A≠some X
 ya:QV A≠some Y
 xy:X≠Y
 lr:QY wr AL n cl 29 5 (QW I1 l)
 lg: ∀g,QV AL=some g→ ¬G' g∧QV A≠some g∧g≠X∧g≠Y
 wx:w.heap.size≤X
 wy:w.heap.size≤Y
structure Qu6 {σ:Type} (K:σ→List QX→List QX→(Nat→Prop)→World→Prop) (al:σ→Int→Bool) (tr:σ→Int→σ) (cnt:σ→Nat) (w wr:World) (s0 s:σ) (G G':Nat→Prop) (L1 L2 M1 M2:List QX) (l:List QX) (oi sd ok op oq q:Int) (X Y:Nat) (AL:Option Addr) (n cl:Nat) (A:Option Addr) (c:Nat) (F:List JV) (R:List QX) (k:Nat):Prop where
 v:Qr2 K w wr s G G' M1 M2 l ⟨oi,sd,ok,op,q⟩ X Y AL n cl A c F
 eq:ZJ al tr l ⟨oi,sd,ok,op,oq⟩ s0=O9.join F R (ZJ al tr (l.drop k) ⟨oi,sd,ok,op,q⟩ s)
 own:XQ sd M1 M2=XQ sd L1 L2
 oth:XQ (3-sd) M1 M2=R++l.drop k
 fl:F.length≤k
 qb:U1 q
 cn:cnt s≤F.length
section
variable {σ:Type} {K:σ→List QX→List QX→(Nat→Prop)→World→Prop} {al:σ→Int→Bool} {tr:σ→Int→σ} {cnt:σ→Nat} {ga gt:FuncId} {fa ca ct:Array Value} {cutF:FuncId} {bp e0:Value}
variable {w wr w':World} {s0 s s':σ} {G G' G2:Nat→Prop} {L1 L2 M1 M2 N1 N2 l R R':List QX} {ob:QX} {oi sd ok op oq q:Int} {X Y:Nat} {AL A:Option Addr} {n cl c k:Nat} {F:List JV}
theorem Qr2.below (hs:Qa4 K al tr cnt ga gt fa ca ct cutF bp e0) (h:Qr2 K w wr s G G' M1 M2 l ob X Y AL n cl A c F) (hb:Below wr.heap.size wr w'):Qr2 K w w' s G G' M1 M2 l ob X Y AL n cl A c F:=
 ⟨h.m.below hs hb,QJ.keep h.bx hb,QJ.keep h.by_ hb,h.xg,h.yg,h.xa,h.ya,h.xy,h.lr.below hb,h.lg,h.wx,h.wy⟩
theorem Qu6.below (hs:Qa4 K al tr cnt ga gt fa ca ct cutF bp e0) (h:Qu6 K al tr cnt w wr s0 s G G' L1 L2 M1 M2 l oi sd ok op oq q X Y AL n cl A c F R k) (hb:Below wr.heap.size wr w'):Qu6 K al tr cnt w w' s0 s G G' L1 L2 M1 M2 l oi sd ok op oq q X Y AL n cl A c F R k:=
 ⟨h.v.below hs hb,h.eq,h.own,h.oth,h.fl,h.qb,h.cn⟩
theorem Qu6.pass {x:QX} {t:List QX} (h:Qu6 K al tr cnt w wr s0 s G G' L1 L2 M1 M2 l oi sd ok op oq q X Y AL n cl A c F R k) (hd:l.drop k=x::t) (hq: ¬q<1) (hk:x.kind=2):Qu6 K al tr cnt w wr s0 s G G' L1 L2 M1 M2 l oi sd ok op oq q X Y AL n cl A c F (R++ [x]) (k+1):=by
 have e:l.drop (k+1)=t:=by rw[←List.drop_drop,hd];rfl
 refine⟨h.v, ?_,h.own, ?_,Nat.le_succ_of_le h.fl,h.qb,h.cn⟩
 ·rw[h.eq,hd,e,Xp2 (by exact hq) hk]
 ·rw[h.oth,hd,e];simp
theorem Qr2.fill (hs:Qa4 K al tr cnt ga gt fa ca ct cutF bp e0) {f:JV} {gg cap:Nat} (h:Qr2 K w wr s G G' M1 M2 l ob X Y AL n cl A c F) (hk:QK (fun i=>QV A=some i) wr w') (ho:w'.ownsRow 0 48 4 (.slice (some ⟨gg,0,none⟩) (F.length+1) cap) (F.length+1) (QW Qb1 F++Qb1 f)) (hat:QV A=some gg∨wr.heap.size≤gg):
  Qr2 K w w' s G G' M1 M2 l ob X Y AL n cl (some ⟨gg,0,none⟩) cap (F++ [f]):=by
 have hX:=QJ.lt h.bx
 have hY:=QJ.lt h.by_
 refine⟨h.m.fill hs hk ho hat,QJ.keeps h.bx hk h.xa,QJ.keeps h.by_ hk h.ya,h.xg,h.yg,fun e=> ?_,fun e=> ?_,h.xy,h.lr.keeps hk (fun g hg=>(h.lg g hg).2.1),fun g hg=>⟨(h.lg g hg).1,fun e=> ?_,(h.lg g hg).2.2⟩,h.wx,h.wy⟩
 ·have e:gg=X:=by simpa [QV]using e
  subst e;rcases hat with h1|h1
  ·exact h.xa h1
  ·omega
 ·have e:gg=Y:=by simpa [QV]using e
  subst e;rcases hat with h1|h1
  ·exact h.ya h1
  ·omega
 ·have e:gg=g:=by simpa [QV]using e
  subst e;rcases hat with h1|h1
  ·exact(h.lg _ hg).2.1 h1
  ·have:=h.lr.lt hg;omega
theorem Qr2.turn (h:Qr2 K w wr s G G' M1 M2 l ob X Y AL n cl A c F) (hk:K s' N1 N2 G2 w') (hb:XW wr w' G' G2):Qr2 K w w' s' G G2 N1 N2 l ob X Y AL n cl A c F:=by
 have hX:=QJ.lt h.bx
 have hY:=QJ.lt h.by_
 refine⟨h.m.turn hk hb,QJ.keeps h.bx hb.1 h.xg,QJ.keeps h.by_ hb.1 h.yg,fun e=> ?_,fun e=> ?_,h.xa,h.ya,h.xy,h.lr.keeps hb.1 (fun g hg=>(h.lg g hg).1),fun g hg=>⟨fun e=> ?_,(h.lg g hg).2⟩,h.wx,h.wy⟩
 ·rcases hb.2 _ e with h1|h1
  ·exact h.xg h1
  ·omega
 ·rcases hb.2 _ e with h1|h1
  ·exact h.yg h1
  ·omega
 ·rcases hb.2 _ e with h1|h1
  ·exact(h.lg g hg).1 h1
  ·have:=h.lr.lt hg;omega
theorem Qr2.lots (hs:Qa4 K al tr cnt ga gt fa ca ct cutF bp e0) {q':Int} (h:Qr2 K w wr s G G' M1 M2 l ⟨oi,sd,ok,op,q⟩ X Y AL n cl A c F):Qr2 K w (wr.setCell ⟨X,4,none⟩ (.int .i64 q')) s G G' M1 M2 l ⟨oi,sd,ok,op,q'⟩ X Y AL n cl A c F:=by
 have hk:=QK.set_ wr ⟨X,4,none⟩ (.int .i64 q')
 exact⟨h.m.keep hs hk h.xg h.xa h.wx,QJ.set_ h.bx 4 _,QJ.keeps h.by_ hk (fun e=>h.xy e.symm),h.xg,h.yg,h.xa,h.ya,h.xy,h.lr.keeps hk (fun g hg e=>(h.lg g hg).2.2.1 e),h.lg,h.wx,h.wy⟩
theorem Qu6.done (hs:Qa4 K al tr cnt ga gt fa ca ct cutF bp e0) (h:Qu6 K al tr cnt w wr s0 s G G' L1 L2 M1 M2 l oi sd ok op oq q X Y AL n cl A c F R k) {st:Bool} (hr:O9.join F R (ZJ al tr (l.drop k) ⟨oi,sd,ok,op,q⟩ s)=⟨F,⟨oi,sd,ok,op,q⟩,st,s,R++l.drop k⟩) (hk:QK (fun i=>i=Y) wr w'):
  Jh2 K w w' G sd L1 L2 (ZJ al tr l ⟨oi,sd,ok,op,oq⟩ s0) (.returned (.tuple #[.slice A F.length c,KQ ⟨oi,sd,ok,op,q⟩,.bool st])):=by
 have e:=h.eq.trans hr
 rw[e]
 exact⟨A,c,G',M1,M2,rfl,h.v.m.keep hs hk h.v.yg h.v.ya h.v.wy,h.own,h.oth⟩
end
end Go.Proofs.YtnlngicnfegjgaaGreat
