/- Contracts and walks that the law's proof needs. -/
import Derived.Test.YtnlngicnfegjgaaGreatDoorZd26
import Derived.Test.YtnlngicnfegjgaaGreatDoorZd24
import Derived.WalkKit
import Derived.WalkLawsBesides
import Derived.WalkSpells
import Derived.Deep.QuietTactic
import Derived.BigQuiet
import Derived.Deep.LoopGhost
import Derived.Deep.DeepCutAuto
import Derived.Deep.CutBlock
import Derived.Deep.AppendLies
import Derived.Shelf.Abstract
import Derived.Laws.EntriesVeiled
set_option linter.unusedVariables false
set_option maxRecDepth 100000
set_option maxHeartbeats 8000000
namespace Go.Proofs.YtnlngicnfegjgaaGreatDoor
open Go.RowKit
theorem Kk8 {σ:Type} {al:σ→Int→Bool} {tr:σ→Int→σ}: ∀(l:List QX) (o:QX) (t:σ),(ZX al tr l o t).fills.length≤l.length:=by
 intro l
 induction l with
 |nil=>intro o t;exact Nat.le_refl _
 |cons x r ih=>
  intro o t;unfold ZX
  split
  ·exact Nat.zero_le _
  ·split
   ·exact Nat.le_succ_of_le (ih o t)
   ·split
    ·exact Nat.zero_le _
    ·split
     ·exact Nat.zero_le _
     ·dsimp only
      rw[List.length_cons,List.length_cons];exact Nat.succ_le_succ (ih _ _)
theorem Jw0 {sd:Int} {F:List JV} (h: ∀f∈F,Jk9 f) (s:Int) (k:Option Int):Qe3 sd F s k≤1000000*F.length:=by
 induction F with
 |nil=>exact Int.le_refl _
 |cons f t ih=>
  rw[Qe4,List.length_cons];have h1:=ih (fun g hg=>h g (by simp[hg]));have h2:=(h f (by simp)).n
  split<;>omega
theorem Xr6 {m:ZJ} (h:XY m.L1 m.L2) (o:QX):(ZW m o).fills.length≤100:=by
 have h1:(ZW m o).fills.length≤(JY (3-o.side) m.L1 m.L2).length:=Kk8 _ _ _
 have h2:=h.cnt
 rw[List.length_append]at h2
 have h3:(JY (3-o.side) m.L1 m.L2).length≤m.L1.length+m.L2.length:=by
  unfold JY
  split<;>omega
 omega
theorem Xi5 {m:ZJ} (h:XY m.L1 m.L2) (sd:Int): ∀x∈JY sd m.L1 m.L2,OkO x:=fun x hx=>by
 unfold JY at hx
 split at hx
 ·exact h.ok x (List.mem_append_left _ hx)
 ·exact h.ok x (List.mem_append_right _ hx)
theorem Xr7 {m:ZJ} (h:XY m.L1 m.L2) (o:QX): ∀f∈(ZW m o).fills,Jk9 f:=Xz4 _ _ _ (Xi5 h _)
theorem Q0 (m:ZJ) (o:QX):(VK m o).now=m.now∧(VK m o).tk=m.tk:=by
 unfold VK
 split
 ·exact⟨rfl,rfl⟩
 ·exact⟨rfl,rfl⟩
theorem Xr8 {w:World} {g n c:Nat} {t:TypeId} {ps:List JV} (h:QY w (some ⟨g,0,none⟩) n c t 4 (QW Qb1 ps)) {i:Nat} (hi:i<ps.length):
  w.cell? ⟨g,i*4,none⟩=some (.int .i64 ps[i].b)∧w.cell? ⟨g,i*4+1,none⟩=some (.int .i64 ps[i].s)∧w.cell? ⟨g,i*4+2,none⟩=some (.int .i64 ps[i].p)∧w.cell? ⟨g,i*4+3,none⟩=some (.int .i64 ps[i].n):=by
 obtain⟨g',hg,hc⟩:=h.elem Qt3 (by omega) hi
 cases hg
 exact⟨hc 0 _ rfl,hc 1 _ rfl,hc 2 _ rfl,hc 3 _ rfl⟩
theorem Xz5 {m:ZJ} (h:XY m.L1 m.L2) {o:QX} (ho:VV o.side) (s:Int) (k:Option Int):Q2 s k (Qc0 m)=Q2 s k (Qc0 (UY m o))+Qe3 o.side (ZW m o).fills s k:=by
 have key:=Kk7 (al:=fun la p=>X4 m.st m.dy m.an la p) (tr:=fun _ p=>p) (sd:=o.side) s k (JY (3-o.side) m.L1 m.L2) o m.la (fun x hx=>by
  rcases ho with e|e
  ·rw[e]at hx⊢
   exact h.s2 x hx
  ·rw[e]at hx⊢
   exact h.s1 x hx)
 have e1:(ZX (fun la p=>X4 m.st m.dy m.an la p) (fun _ p=>p) (JY (3-o.side) m.L1 m.L2) o m.la)=ZW m o:=rfl
 rw[e1]at key
 unfold Qc0 UY
 dsimp only
 rcases ho with e|e
 ·rw[if_pos e,if_pos e,Y2,Y2]
  rw[show JY (3-o.side) m.L1 m.L2=m.L2 by rw[e];rfl]at key;omega
 ·rw[if_neg (by omega),if_neg (by omega),Y2,Y2]
  rw[show JY (3-o.side) m.L1 m.L2=m.L1 by rw[e];rfl]at key;omega
structure Qk2 (w wr:World) (e tb bb bk im V X Y:Nat) (T:Option Addr) (tc:Nat) (Ap:Option Addr) (pc:Nat) (es:List MapEntry) (mc:Nat) (own:Nat→Nat→Prop) (A:Option Addr) (c:Nat) (F:List JV) (ob lb:Array Value) (m1:ZJ) (sd:Int) (k:Nat) (cs:Array Value) (Al:Option Addr) (lc:Nat) (lv:List XJ) (bu se:Int) (G:Nat→Prop) (own2:Nat→Nat→Prop):Prop where
 eng:UX wr e cs tb bb bk im T tc Al lc lv bu se Ap pc es mc G own2 (fun s q=>Q2 s q (Qc0 m1)+Qe3 sd (F.drop k) s q) m1
 step:VZ w wr own own2
 row:Qp8 wr own2 A F.length c 89 4 (QW Qb1 F)
 fA: ∀i,QZ A=some i→w.heap.size≤i
 v:QJ wr V 37 #[.pointer (some ⟨e,0,none⟩)]∧ ∀k,¬own2 V k
 x:QJ wr X 29 ob∧ ∀k,¬own2 X k
 y:QJ wr Y 29 lb∧ ∀k,¬own2 Y k
 n:lv.length≤100+k
def Xe1 (w wr:World) (e tb bb bk im V X Y:Nat) (T:Option Addr) (tc:Nat) (Ap:Option Addr) (pc:Nat) (es:List MapEntry) (mc:Nat) (own:Nat→Nat→Prop) (A:Option Addr) (c:Nat) (F:List JV) (ob lb:Array Value) (m1:ZJ) (sd:Int) (k:Nat):Prop:=
 ∃cs Al lc lv bu se G own2,Qk2 w wr e tb bb bk im V X Y T tc Ap pc es mc own A c F ob lb m1 sd k cs Al lc lv bu se G own2
section
variable {w w1 wr wz w':World} {e tb bb bk im V X Y:Nat} {cs:Array Value} {T:Option Addr} {tc:Nat} {Al:Option Addr} {lc:Nat} {lv lv':List XJ} {bu se bu' se':Int} {Ap:Option Addr} {pc:Nat} {es:List MapEntry} {mc:Nat} {G:Nat→Prop} {own own2:Nat→Nat→Prop} {A:Option Addr} {c k:Nat} {F:List JV} {ob lb:Array Value} {m m1:ZJ} {sd:Int} {G2:Nat→Prop} {o:QX}
theorem Qk2.below (h:Qk2 w wr e tb bb bk im V X Y T tc Ap pc es mc own A c F ob lb m1 sd k cs Al lc lv bu se G own2) (hb:Below wr.heap.size wr w'):Qk2 w w' e tb bb bk im V X Y T tc Ap pc es mc own A c F ob lb m1 sd k cs Al lc lv bu se G own2:=
 ⟨h.eng.below hb,h.step.trans (VZ.of_below hb),h.row.below hb,h.fA,⟨QJ.keep h.v.1 hb,h.v.2⟩,⟨QJ.keep h.x.1 hb,h.x.2⟩,⟨QJ.keep h.y.1 hb,h.y.2⟩,h.n⟩
theorem Qk2.cells {a1 a2 a3 a4 a5 b1 b2 b3 b4 b5:Value} (h:Qk2 w wr e tb bb bk im V X Y T tc Ap pc es mc own A c F #[a1,a2,a3,a4,a5] #[b1,b2,b3,b4,b5] m1 sd k cs Al lc lv bu se G own2):
  wr.cell? ⟨V,0,none⟩=some (.pointer (some ⟨e,0,none⟩))∧wr.cell? ⟨X,1,none⟩=some a2∧wr.cell? ⟨Y,0,none⟩=some b1∧wr.cell? ⟨Y,1,none⟩=some b2∧wr.cell? ⟨Y,2,none⟩=some b3∧wr.cell? ⟨Y,3,none⟩=some b4∧wr.cell? ⟨Y,4,none⟩=some b5:=
 ⟨by rw[QJ.cell h.v.1];rfl,by rw[QJ.cell h.x.1];rfl,by rw[QJ.cell h.y.1];rfl,by rw[QJ.cell h.y.1];rfl,by rw[QJ.cell h.y.1];rfl,by rw[QJ.cell h.y.1];rfl,by rw[QJ.cell h.y.1];rfl⟩
theorem Qn1.loop (h:Qn1 w1 wr e tb bb bk im V X cs T tc Al lc lv bu se Ap pc es mc own (fun s q=>Q2 s q (Qc0 m)) A c (ZW m o).fills ob (UY m o) G2) (hb:Below w.heap.size w w1) (hV:w.heap.size≤V) (hls:XY m.L1 m.L2) (ho:VV o.side) (hn:lv.length≤100) (hY:QJ wr Y 29 lb) (hf:Kk6 (Qr5 w1 own G2 4) V X A Y):
  Xe1 w wr e tb bb bk im V X Y T tc Ap pc es mc own A c (ZW m o).fills ob lb (UY m o) o.side 0:=by
 refine⟨cs,Al,lc,lv,bu,se,G2,Qr5 w1 own G2 4,⟨h.eng.lots (fun s q _=> ?_),⟨(QK.of_below hb _).trans h.keep (fun i hi=> ?_),fun i j hi=> ?_⟩,⟨h.row,fun i hi j hj=> ?_⟩,fun i hi=>Nat.le_trans hb.size (h.fA i hi).1,⟨h.var,fun j hj=> ?_⟩,⟨h.box,fun j hj=> ?_⟩,⟨hY,hf.1⟩,by omega⟩⟩
 ·exact Xz5 hls ho s q
 ·rcases hi with hi|rfl
  ·exact .inl hi
  ·exact .inr hV
 ·rcases hj':hi with hi|hi
  ·exact .inl hi
  ·exact .inr (Nat.le_trans hb.size hi.1)
 ·have h1:=h.fA i hi
  rcases hj with hj|hj
  ·have:=h.o1.lt i j hj;omega
  ·exact h1.2 hj.2.1
 ·rcases hj with hj|hj
  ·exact h.nv.1 j hj
  ·have:=hj.1;have:=h.nv.2.2.2.1;omega
 ·rcases hj with hj|hj
  ·exact h.nv.2.1 j hj
  ·have:=hj.1;have:=h.nv.2.2.2.2;omega
theorem Qk2.small (h:Qk2 w wr e tb bb bk im V X Y T tc Ap pc es mc own A c F ob lb m1 sd k cs Al lc lv bu se G own2) (hF: ∀f∈F,Jk9 f) (hl:F.length≤100) (hk:k≤F.length):Jb9 lv bu se:=by
 have hls:=h.eng.book.lists
 have hd: ∀f∈F.drop k,Jk9 f:=fun f hf=>hF f (List.mem_of_mem_drop hf)
 refine(h.eng.is.mild h.eng.ind.ok (fun s q=> ?_) (by have:=h.n;omega)).small
 have h1:=Qh9 (s:=s) (k:=q) (X0 hls)
 have h2:=hls.cnt
 have h3:=Jw0 (sd:=sd) hd s q
 have h4:=Qu9 (sd:=sd) (fun f hf=>(hd f hf).n.1) s q
 have h5:(F.drop k).length≤100:=by rw[List.length_drop];omega
 show 0≤Q2 s q (Qc0 m1)+_∧Q2 s q (Qc0 m1)+_≤_
 unfold Qc0
 omega
theorem Qk2.next (h:Qk2 w wr e tb bb bk im V X Y T tc Ap pc es mc own A c F ob lb m1 sd k cs Al lc lv bu se G own2) (hF: ∀f∈F,Jk9 f) (hk:k<F.length) (hsd:VV sd) {f:JV} (hf:F[k]=f) (hit:Qe0 wr w' e 103 cs 9 Al lv' bu' se') (htd:Qu7 lv bu se ⟨0,3-sd,1,f.p,f.n⟩ (-1) lv' bu' se'):
  Xe1 w w' e tb bb bk im V X Y T tc Ap pc es mc own A c F ob lb m1 sd (k+1):=by
 have hfi:=hF f (hf▸List.getElem_mem hk)
 have hd:F.drop k=f::F.drop (k+1):=by rw[List.drop_eq_getElem_cons hk,hf]
 have h12:(3-sd=1∨3-sd=2):=by rcases hsd with e|e<;>omega
 have hr:Qb9 ⟨0,3-sd,1,f.p,f.n⟩:=⟨h12,hfi.n,.inr hfi.p⟩
 have hd2: ∀g∈F.drop (k+1),1≤g.n:=fun g hg=>(hF g (List.mem_of_mem_drop hg)).n.1
 have hkey:Qa1 ⟨0,3-sd,1,f.p,f.n⟩=some f.p:=if_neg (show¬((1:Int)=2) by decide)
 have hq:(⟨0,3-sd,1,f.p,f.n⟩:QX).qty≤Qx2 lv bu se ⟨0,3-sd,1,f.p,f.n⟩:=by
  rw[h.eng.is.has h12,hkey,hd];show f.n≤Q2 (3-sd) (some f.p) (Qc0 m1)+Qe3 sd (f::F.drop (k+1)) (3-sd) (some f.p);rw[Qe4,if_pos ⟨rfl,rfl⟩];have h1:=Qu9 (sd:=sd) hd2 (3-sd) (some f.p);have h2:=(Qh9 (s:=3-sd) (k:=some f.p) (X0 h.eng.book.lists)).1;unfold Qc0;omega
 obtain⟨-,hchg⟩:=Xc2 hr hq htd
 have his:=h.eng.is.chg h12 hchg
 obtain⟨cs',Al',lc',own',hM,ho⟩:=h.eng.indTo hit his
 refine⟨cs',Al',lc',lv',bu',se',G,own',⟨hM.lots (fun s q _=> ?_),h.step.trans ho,h.row.step ho,h.fA,Qn0 h.v ho,Qn0 h.x ho,Qn0 h.y ho,by have:=hchg.1;have:=h.n;omega⟩⟩
 rw[hd,Qe4,hkey]
 show Q2 s q (Qc0 m1)+ ((if 3-sd=s∧some f.p=q then f.n else 0)+Qe3 sd (F.drop (k+1)) s q)+ (if 3-sd=s∧some f.p=q then -1*f.n else 0)=_
 split<;>omega
structure Xe2 (w wr:World) (e V:Nat) (F:Nat→Prop) (A:Option Addr) (c:Nat) (Fs:List JV) (m:ZJ) (F':Nat→Prop):Prop where
 eng:UK wr e F' m
 step:XW w wr F F'
 row:QY wr A Fs.length c 89 4 (QW Qb1 Fs)
 fA: ∀g,QZ A=some g→w.heap.size≤g∧ ¬F' g
 v:QJ wr V 37 #[.pointer (some ⟨e,0,none⟩)]∧ ¬F' V
theorem Qk2.end_ {F0:Nat→Prop} (h:Qk2 w wr e tb bb bk im V X Y T tc Ap pc es mc own A c F ob lb m1 sd k cs Al lc lv bu se G own2) (hF: ∀i,F0 i↔ ∃k,own i k) (hk:F.length≤k):Xe2 w wr e V F0 A c F m1 (fun i=> ∃j,own2 i j):=by
 refine⟨UX.at_ h.eng (fun s q _=> ?_),h.step.bstep hF,h.row.row,fun g hg=>⟨h.fA g hg,fun⟨j,hj⟩=>h.row.far g hg j hj⟩,h.v.1,fun⟨j,hj⟩=>h.v.2 j hj⟩
 rw[List.drop_eq_nil_of_le hk]
 show _+0=_
 omega
theorem Xe2.then_ {F0 F1:Nat→Prop} {Fs:List JV} {m':ZJ} (h:Xe2 w wr e V F0 A c Fs m1 F1) (ht:YZ wr w' e F1 m'): ∃F2,Xe2 w w' e V F0 A c Fs m' F2:=by
 obtain⟨F2,h1,h2⟩:=ht
 refine⟨F2,h1,h.step.trans h2,h.row.keeps h2.1 (fun g hg=>(h.fA g hg).2),fun g hg=>⟨(h.fA g hg).1,fun x=> ?_⟩,QJ.keeps h.v.1 h2.1 h.v.2,fun x=> ?_⟩
 ·rcases h2.2 g x with y|y
  ·exact(h.fA g hg).2 y
  ·have:=h.row.lt hg;omega
 ·rcases h2.2 V x with y|y
  ·exact h.v.2 y
  ·have:=QJ.lt h.v.1;omega
theorem Xe2.fills {F0 F1:Nat→Prop} {Fs:List JV} {P:List JV→Prop} (h:Xe2 w wr e V F0 A c Fs m1 F1) (hP:P Fs):ZV w wr e F0 P m1 (.returned (.slice A (List.length Fs) c)):=
 ⟨A,c,Fs,rfl,hP,h.row,fun g hg=>(h.fA g hg).1,F1,h.eng,h.step,fun g hg=>(h.fA g hg).2⟩
end
theorem Jb3 {P:Program} {fn:Func} {p q u:Tmp} {ty:TypeId} (h:fn.results= #[.tmp u,.cell p ty,.tmp q]) (tmps:Array Value) (w:World) (g:Nat) (t:TypeId) (cs:Array Value) (v1 v2:Value) (fr:Nat×Nat) (d:TypeDesc)
  (hu1:tmps.getD u undef=v1) (hp:tmps.getD p undef= .pointer (some ⟨g,0,none⟩)) (hq:tmps.getD q undef=v2) (hg:w.heap[g]?=some (.cells cs t fr))
  (hu:P.underlying ty=some d) (hd:(match d with| .struct _| .array _ _=>true|_=>false)=true) (hi:(P.info? ty).map (·.size)=some cs.size):(results fn tmps).run P w= .ok (.tuple #[v1,.agg cs,v2]) w:=by
 have hu':tmps[u]?.getD undef=v1:=by simpa using hu1
 have hp':tmps[p]?.getD undef= .pointer (some ⟨g,0,none⟩):=by simpa using hp
 have hq':tmps[q]?.getD undef=v2:=by simpa using hq
 simp[results,h,hu',hp',hq',asAddr,run_loadVar_row w g t ty cs fr d hg hu hd hi,Result.andThen]
theorem Y4 {w:World} {g:Nat} {t:TypeId} {a b c d e:Value} (h:QJ w g t #[a,b,c,d,e]):w.cell? ⟨g,0,none⟩=some a∧w.cell? ⟨g,1,none⟩=some b∧w.cell? ⟨g,2,none⟩=some c∧w.cell? ⟨g,3,none⟩=some d∧w.cell? ⟨g,4,none⟩=some e:=
 ⟨by rw[QJ.cell h];rfl,by rw[QJ.cell h];rfl,by rw[QJ.cell h];rfl,by rw[QJ.cell h];rfl,by rw[QJ.cell h];rfl⟩
theorem Xr9 {w:World} {g:Nat} {t:TypeId} {a b c d:Value} (h:QJ w g t #[a,b,c,d]):w.cell? ⟨g,0,none⟩=some a∧w.cell? ⟨g,1,none⟩=some b∧w.cell? ⟨g,2,none⟩=some c∧w.cell? ⟨g,3,none⟩=some d:=
 ⟨by rw[QJ.cell h];rfl,by rw[QJ.cell h];rfl,by rw[QJ.cell h];rfl,by rw[QJ.cell h];rfl⟩
theorem Qj5 {w:World} {Y:Nat} {t:TypeId} {a0 b0 c0 d0 e0:Value} (h:QJ w Y t #[a0,b0,c0,d0,e0]) (a b c d e:Value):
  QJ (((((w.setCell ⟨Y,0,none⟩ a).setCell ⟨Y,1,none⟩ b).setCell ⟨Y,2,none⟩ c).setCell ⟨Y,3,none⟩ d).setCell ⟨Y,4,none⟩ e) Y t #[a,b,c,d,e]∧QK (fun i=>i=Y) w (((((w.setCell ⟨Y,0,none⟩ a).setCell ⟨Y,1,none⟩ b).setCell ⟨Y,2,none⟩ c).setCell ⟨Y,3,none⟩ d).setCell ⟨Y,4,none⟩ e):=
 ⟨QJ.set_ (QJ.set_ (QJ.set_ (QJ.set_ (QJ.set_ h 0 a) 1 b) 2 c) 3 d) 4 e,
  ((((QK.set_ w ⟨Y,0,none⟩ a).trans (QK.set_ _ ⟨Y,1,none⟩ b) (fun _ h=> .inl h)).trans (QK.set_ _ ⟨Y,2,none⟩ c) (fun _ h=> .inl h)).trans (QK.set_ _ ⟨Y,3,none⟩ d) (fun _ h=> .inl h)).trans (QK.set_ _ ⟨Y,4,none⟩ e) (fun _ h=> .inl h)⟩
theorem Qj6 {fn:Func} (hf:fn.results= #[.tmp 8,.cell 9 29,.tmp 10]) {w:World} {a:Act} {Q:Ending→World→Prop} {o:QX} {v1 v2:Value} (g:Nat) (h9:a.tmps.getD 9 undef= .pointer (some ⟨g,0,none⟩)) (h8:a.tmps.getD 8 undef=v1) (h10:a.tmps.getD 10 undef=v2) (hd:a.defers= [])
  (hg:QJ w g 29 (KZ o)) (h:Q (.returned (.tuple #[v1,KQ o,v2])) w):bodyPost Tryz.prog fn Q .ret a w:=
 bodyPost_ret (Jb3 hf a.tmps w g 29 (KZ o) v1 v2 (0,0) _ h8 h9 h10 hg Tryz.underlying29 rfl (by show(Tryz.prog.info? 29).map (·.size)=some 5;kernel_rfl)) hd h
structure Qr7 {σ:Type} (K:σ→List QX→List QX→(Nat→Prop)→World→Prop) (w wr:World) (s:σ) (G G':Nat→Prop) (M1 M2 l:List QX) (ob:QX) (X Y:Nat) (AL:Option Addr) (n cl:Nat) (A:Option Addr) (c:Nat) (F:List JV):Prop where
 m:Qj4 K w wr s G G' M1 M2 A c F
 bx:QJ wr X 29 (KZ ob)
 by_:QJ wr Y 29 (KZ noO)
 xg: ¬G' X
 yg: ¬G' Y
 xa:QZ A≠some X
 ya:QZ A≠some Y
 xy:X≠Y
 lr:QY wr AL n cl 29 5 (QW U7 l)
 lg: ∀g,QZ AL=some g→ ¬G' g∧QZ A≠some g∧g≠X∧g≠Y
 wx:w.heap.size≤X
 wy:w.heap.size≤Y
structure Qv0 {σ:Type} (K:σ→List QX→List QX→(Nat→Prop)→World→Prop) (al:σ→Int→Bool) (tr:σ→Int→σ) (cnt:σ→Nat) (w wr:World) (s0 s:σ) (G G':Nat→Prop) (L1 L2 M1 M2:List QX) (l:List QX) (oi sd ok op oq q:Int) (X Y:Nat) (AL:Option Addr) (n cl:Nat) (A:Option Addr) (c:Nat) (F:List JV) (R:List QX) (k:Nat):Prop where
 v:Qr7 K w wr s G G' M1 M2 l ⟨oi,sd,ok,op,q⟩ X Y AL n cl A c F
 eq:ZX al tr l ⟨oi,sd,ok,op,oq⟩ s0=O9.join F R (ZX al tr (l.drop k) ⟨oi,sd,ok,op,q⟩ s)
 own:JY sd M1 M2=JY sd L1 L2
 oth:JY (3-sd) M1 M2=R++l.drop k
 fl:F.length≤k
 qb:V3 q
 cn:cnt s≤F.length
section
variable {σ:Type} {K:σ→List QX→List QX→(Nat→Prop)→World→Prop} {al:σ→Int→Bool} {tr:σ→Int→σ} {cnt:σ→Nat} {ga gt:FuncId} {fa ca ct:Array Value} {cutF:FuncId} {bp e0:Value}
variable {w wr w':World} {s0 s s':σ} {G G' G2:Nat→Prop} {L1 L2 M1 M2 N1 N2 l R R':List QX} {ob:QX} {oi sd ok op oq q:Int} {X Y:Nat} {AL A:Option Addr} {n cl c k:Nat} {F:List JV}
theorem Qr7.below (hs:Qa3 K al tr cnt ga gt fa ca ct cutF bp e0) (h:Qr7 K w wr s G G' M1 M2 l ob X Y AL n cl A c F) (hb:Below wr.heap.size wr w'):Qr7 K w w' s G G' M1 M2 l ob X Y AL n cl A c F:=
 ⟨h.m.below hs hb,QJ.keep h.bx hb,QJ.keep h.by_ hb,h.xg,h.yg,h.xa,h.ya,h.xy,h.lr.below hb,h.lg,h.wx,h.wy⟩
theorem Qv0.below (hs:Qa3 K al tr cnt ga gt fa ca ct cutF bp e0) (h:Qv0 K al tr cnt w wr s0 s G G' L1 L2 M1 M2 l oi sd ok op oq q X Y AL n cl A c F R k) (hb:Below wr.heap.size wr w'):Qv0 K al tr cnt w w' s0 s G G' L1 L2 M1 M2 l oi sd ok op oq q X Y AL n cl A c F R k:=
 ⟨h.v.below hs hb,h.eq,h.own,h.oth,h.fl,h.qb,h.cn⟩
theorem Qv0.pass {x:QX} {t:List QX} (h:Qv0 K al tr cnt w wr s0 s G G' L1 L2 M1 M2 l oi sd ok op oq q X Y AL n cl A c F R k) (hd:l.drop k=x::t) (hq: ¬q<1) (hk:x.kind=2):Qv0 K al tr cnt w wr s0 s G G' L1 L2 M1 M2 l oi sd ok op oq q X Y AL n cl A c F (R++ [x]) (k+1):=by
 have e:l.drop (k+1)=t:=by rw[←List.drop_drop,hd];rfl
 refine⟨h.v, ?_,h.own, ?_,Nat.le_succ_of_le h.fl,h.qb,h.cn⟩
 ·rw[h.eq,hd,e,Xo1 (by exact hq) hk]
 ·rw[h.oth,hd,e];simp
theorem Qr7.fill (hs:Qa3 K al tr cnt ga gt fa ca ct cutF bp e0) {f:JV} {gg cap:Nat} (h:Qr7 K w wr s G G' M1 M2 l ob X Y AL n cl A c F) (hk:QK (fun i=>QZ A=some i) wr w') (ho:w'.ownsRow 0 89 4 (.slice (some ⟨gg,0,none⟩) (F.length+1) cap) (F.length+1) (QW Qb1 F++Qb1 f)) (hat:QZ A=some gg∨wr.heap.size≤gg):
  Qr7 K w w' s G G' M1 M2 l ob X Y AL n cl (some ⟨gg,0,none⟩) cap (F++ [f]):=by
 have hX:=QJ.lt h.bx
 have hY:=QJ.lt h.by_
 refine⟨h.m.fill hs hk ho hat,QJ.keeps h.bx hk h.xa,QJ.keeps h.by_ hk h.ya,h.xg,h.yg,fun e=> ?_,fun e=> ?_,h.xy,h.lr.keeps hk (fun g hg=>(h.lg g hg).2.1),fun g hg=>⟨(h.lg g hg).1,fun e=> ?_,(h.lg g hg).2.2⟩,h.wx,h.wy⟩
 ·have e:gg=X:=by simpa [QZ]using e
  subst e;rcases hat with h1|h1
  ·exact h.xa h1
  ·omega
 ·have e:gg=Y:=by simpa [QZ]using e
  subst e;rcases hat with h1|h1
  ·exact h.ya h1
  ·omega
 ·have e:gg=g:=by simpa [QZ]using e
  subst e;rcases hat with h1|h1
  ·exact(h.lg _ hg).2.1 h1
  ·have:=h.lr.lt hg;omega
theorem Qr7.turn (h:Qr7 K w wr s G G' M1 M2 l ob X Y AL n cl A c F) (hk:K s' N1 N2 G2 w') (hb:XW wr w' G' G2):Qr7 K w w' s' G G2 N1 N2 l ob X Y AL n cl A c F:=by
 have hX:=QJ.lt h.bx
 have hY:=QJ.lt h.by_
 refine⟨h.m.turn hk hb,QJ.keeps h.bx hb.1 h.xg,QJ.keeps h.by_ hb.1 h.yg,fun e=> ?_,fun e=> ?_,h.xa,h.ya,h.xy,h.lr.keeps hb.1 (fun g hg=>(h.lg g hg).1),fun g hg=>⟨fun e=> ?_,(h.lg g hg).2⟩,h.wx,h.wy⟩
 ·rcases hb.2 _ e with h1|h1
  ·exact h.xg h1
  ·omega
 ·rcases hb.2 _ e with h1|h1
  ·exact h.yg h1
  ·omega
 ·rcases hb.2 _ e with h1|h1
  ·exact(h.lg g hg).1 h1
  ·have:=h.lr.lt hg;omega
theorem Qr7.lots (hs:Qa3 K al tr cnt ga gt fa ca ct cutF bp e0) {q':Int} (h:Qr7 K w wr s G G' M1 M2 l ⟨oi,sd,ok,op,q⟩ X Y AL n cl A c F):Qr7 K w (wr.setCell ⟨X,4,none⟩ (.int .i64 q')) s G G' M1 M2 l ⟨oi,sd,ok,op,q'⟩ X Y AL n cl A c F:=by
 have hk:=QK.set_ wr ⟨X,4,none⟩ (.int .i64 q')
 exact⟨h.m.keep hs hk h.xg h.xa h.wx,QJ.set_ h.bx 4 _,QJ.keeps h.by_ hk (fun e=>h.xy e.symm),h.xg,h.yg,h.xa,h.ya,h.xy,h.lr.keeps hk (fun g hg e=>(h.lg g hg).2.2.1 e),h.lg,h.wx,h.wy⟩
theorem Qv0.done (hs:Qa3 K al tr cnt ga gt fa ca ct cutF bp e0) (h:Qv0 K al tr cnt w wr s0 s G G' L1 L2 M1 M2 l oi sd ok op oq q X Y AL n cl A c F R k) {st:Bool} (hr:O9.join F R (ZX al tr (l.drop k) ⟨oi,sd,ok,op,q⟩ s)=⟨F,⟨oi,sd,ok,op,q⟩,st,s,R++l.drop k⟩) (hk:QK (fun i=>i=Y) wr w'):
  Ji1 K w w' G sd L1 L2 (ZX al tr l ⟨oi,sd,ok,op,oq⟩ s0) (.returned (.tuple #[.slice A F.length c,KQ ⟨oi,sd,ok,op,q⟩,.bool st])):=by
 have e:=h.eq.trans hr
 rw[e]
 exact⟨A,c,G',M1,M2,rfl,h.v.m.keep hs hk h.v.yg h.v.ya h.v.wy,h.own,h.oth⟩
end
theorem Xi6 {σ:Type} {K:σ→List QX→List QX→(Nat→Prop)→World→Prop} {al:σ→Int→Bool} {tr:σ→Int→σ} {cnt:σ→Nat} {ga gt:FuncId} {fa ca ct:Array Value} {b:Nat}
  (hs:Qa3 K al tr cnt ga gt fa ca ct 119 (.pointer (some ⟨b,0,none⟩)) .nilIface)
  (hside: ∀ {s:σ} {L1 L2:List QX} {F:Nat→Prop} {w:World},K s L1 L2 F w→ ∀sd,VV sd→Calls Tryz.prog 42 #[.pointer (some ⟨b,0,none⟩),.int .i64 sd] w fun e w'=>Below w.heap.size w w'∧ ∃A c,e= .returned (.tuple #[.slice A (JY sd L1 L2).length c,.nilIface])∧QY w' A (JY sd L1 L2).length c 29 5 (QW U7 (JY sd L1 L2))∧ ∀g,QZ A=some g→w.heap.size≤g)
  (w:World) (s0:σ) (G:Nat→Prop) (L1 L2:List QX) (h:K s0 L1 L2 G w) (h0:cnt s0=0) (oi ok op oq:Int) (hf:Qd5 ⟨oi,1,ok,op,oq⟩):
  Calls Tryz.prog 94 #[.pointer (some ⟨b,0,none⟩),KQ ⟨oi,1,ok,op,oq⟩,.func (.func ga) fa ca,.func (.func gt) #[] ct] w fun e w'=>Ji1 K w w' G 1 L1 L2 (ZX al tr (JY 2 L1 L2) ⟨oi,1,ok,op,oq⟩ s0) e:=by
 have HS:=QQ hs
 have ega:=hs.ega
 have egt:=hs.egt
 have hlt:=hs.lt h
 have hlists:=hs.ok h
 obtain⟨l,hl⟩: ∃l,JY 2 L1 L2=l:=⟨_,rfl⟩
 rw[hl]
 have hok: ∀x∈l,OkO x:=fun x hx=>by
  rw[←hl]at hx;refine hlists.ok x ?_;unfold JY at hx
  split at hx
  ·exact List.mem_append_left _ hx
  ·exact List.mem_append_right _ hx
 have hlen:l.length≤100:=by
  have h1:=hlists.cnt;rw[List.length_append]at h1;rw[←hl];unfold JY
  split<;>omega
 obtain⟨n,hn⟩: ∃n,l.length=n:=⟨_,rfl⟩
 rw[hn]at hlen
 have hA1:Below w.heap.size w (w.alloc (.cells (KZ ⟨oi,1,ok,op,oq⟩) 29)):=(Below.refl _ w).alloc (Nat.le_refl _) _
 have hA2:Below w.heap.size w ((w.alloc (.cells (KZ ⟨oi,1,ok,op,oq⟩) 29)).alloc (.cells (KZ noO) 29)):=hA1.alloc (by simp) _
 have hX:=QJ.alloc (QJ.new w 29 (KZ ⟨oi,1,ok,op,oq⟩)) (.cells (KZ noO) 29)
 have hY:QJ ((w.alloc (.cells (KZ ⟨oi,1,ok,op,oq⟩) 29)).alloc (.cells (KZ noO) 29)) (w.heap.size+1) 29 (KZ noO):=by
  have:=QJ.new (w.alloc (.cells (KZ ⟨oi,1,ok,op,oq⟩) 29)) 29 (KZ noO);rw[World.size_alloc]at this;exact this
 obtain⟨w2,ew2⟩: ∃W,((w.alloc (.cells (KZ ⟨oi,1,ok,op,oq⟩) 29)).alloc (.cells (KZ noO) 29))=W:=⟨_,rfl⟩
 rw[ew2]at hA2 hX hY
 have hK2:=hs.keep h (QK.of_below hA2 (fun _=>False)) (fun _ _=>id)
 have hcall:=hside hK2 2 KK
 rw[hl,hn]at hcall
 have HC:=QQ hcall
 have HX:=QQ hX
 have HY:=QQ hY
 have HA2:=QQ hA2
 have HLt:=QQ hlt
 have HK2:=QQ hK2
 have HOk:=QQ hok
 have HN:=QQ hn
 have HL:=QQ hl
 have hxs:=hX.lt
 have hys:=hY.lt
 have hqf:V3 oq:=hf.2.2.2.2
 obtain⟨x0,x1,x2,x3,x4⟩:=JW hX
 dsimp only at x0 x1 x2 x3 x4
 clear hs h hside hlists hok hA1 hA2 hX hY hK2 hcall hn hlt hf
 unfold KZ noO at ew2
 dsimp only at ew2
 show Calls Tryz.prog 94 #[.pointer (some ⟨b,0,none⟩),.agg #[.int .i64 oi,.int .i64 1,.int .i64 ok,.int .i64 op,.int .i64 oq],.func (.func ga) fa ca,.func (.func gt) #[] ct] w _
 go_enter Tryz.func94,Tryz.ntmps94
 go_upto_region 2 with fail
 try rw[ew2]
 clear ew2
 go_wp2_with fail
 refine HC.out.mono ?_
 rintro e w3 ⟨hb3,AL,cl,rfl,hrow3,hnew3⟩
 have hw2:w.heap.size≤w2.heap.size:=HA2.out.size
 have HST:=QQ (show Qv0 K al tr cnt w w3 s0 s0 G G L1 L2 L1 L2 l oi 1 ok op oq oq w.heap.size (w.heap.size+1) AL n cl none 0 [] [] 0 from
  ⟨⟨⟨HS.out.keep HK2.out (QK.of_below hb3 (fun _=>False)) (fun _ _=>id),XW.of_below (HA2.out.trans (hb3.mono HA2.out.size)),World.ownsRow_nil _ _ _ _,fun g hg=>by simp[QZ]at hg⟩,
   QJ.keep HX.out hb3,QJ.keep HY.out hb3,fun e=>Nat.lt_irrefl _ (HLt.out _ e),fun e=>by have:=HLt.out _ e;omega,by simp[QZ],by simp[QZ],by omega,hrow3,fun g hg=>⟨fun e=>by have:=HLt.out _ e;have:=hnew3 g hg;omega,by simp[QZ],by have:=hnew3 g hg;omega,by have:=hnew3 g hg;omega⟩,Nat.le_refl _,by omega⟩,by rw[List.drop_zero];rfl,rfl,by rw[List.drop_zero,List.nil_append];exact HL.out,Nat.zero_le _,hqf,by rw[h0];exact Nat.zero_le _⟩)
 clear hb3 hrow3 hnew3 x0 x1 x2 x3 x4 HX HY HC HK2 HLt
 obtain⟨X,eX⟩: ∃X,w.heap.size=X:=⟨_,rfl⟩
 obtain⟨Y,eY⟩: ∃Y,w.heap.size+1=Y:=⟨_,rfl⟩
 rw[eY,eX]at HST⊢
 have HEX:=QQ eX
 clear eX eY hxs hys HA2 hw2
 go_wp2_with fail
 go_loopg [11,28] n (fun gg s11 s28 wr=> ∃(k:Nat) (q:Int) (s:σ) (G':Nat→Prop) (M1 M2:List QX) (A:Option Addr) (c:Nat) (F:List JV) (R:List QX),k≤n∧gg=n-k∧s28= .int .i64 k∧s11= .slice A F.length c∧Hid (Qv0 K al tr cnt w wr s0 s G G' L1 L2 M1 M2 l oi 1 ok op oq q X Y AL n cl A c F R k))
 case atStart=>exact⟨0,oq,s0,G,L1,L2,none,0,[],[],Nat.zero_le _,rfl,rfl,rfl,HST⟩
 case round=>
  obtain⟨k,q,s,G',M1,M2,A,c,F,R,hk,rfl,rfl,rfl,HW⟩:=hrel;clear HST
  by_cases hlt:k<n
  ·have hkl:k<l.length:=by rw[HN.out];exact hlt
   obtain⟨gl,hgl⟩:=Qc6 HW.out.v.lr (by omega);subst hgl;obtain⟨y0,y1,y2,y3,y4⟩:=Qz7 HW.out.v.lr hkl;have hdrop:=List.drop_eq_getElem_cons hkl;have hxok:=HOk.out l[k] (List.getElem_mem hkl);obtain⟨x,hx⟩: ∃x,l[k]=x:=⟨_,rfl⟩;rw[hx]at y0 y1 y2 y3 y4 hdrop hxok;have HDrop:=QQ hdrop;have HXok:=QQ hxok;have hltz:(k:Int)< (n:Int):=by omega
   have hk7:(0:Int)≤(k:Int):=by omega
   clear hdrop hxok hx;go_upto_region 6 with fail
   obtain⟨wa,ewa⟩: ∃W,(wr.alloc (.cells #[.int .i64 x.id,.int .i64 x.side,.int .i64 x.kind,.int .i64 x.price,.int .i64 x.qty] 29))=W:=⟨_,rfl⟩;obtain⟨Z,eZ⟩: ∃Z,wr.heap.size=Z:=⟨_,rfl⟩;have hZ:=QJ.new wr 29 (KZ x);unfold KZ at hZ;have hWa:=HW.out.below HS.out ((Below.refl wr.heap.size wr).alloc (Nat.le_refl _) (.cells #[.int .i64 x.id,.int .i64 x.side,.int .i64 x.kind,.int .i64 x.price,.int .i64 x.qty] 29));have hGZ: ¬G' wr.heap.size:=fun e=>Nat.lt_irrefl _ (HS.out.lt HW.out.v.m.mk_ _ e)
   have hZA:QZ A≠some wr.heap.size:=fun e=>Nat.lt_irrefl _ (HW.out.v.m.row.lt e)
   have hZX:wr.heap.size≠X:=fun e=>by have:=QJ.lt HW.out.v.bx;omega
   rw[ewa]at hZ hWa⊢;rw[eZ]at hZ hGZ hZA hZX⊢;have HZA:=QQ hZA;have HZX:=QQ hZX;clear hZA hZX;obtain⟨x0,x1,x2,x3,x4⟩:=JW hWa.v.bx;obtain⟨z0,z1,z2,z3,z4⟩:=Y4 hZ;dsimp only at x0 x1 x2 x3 x4;have HWa:=QQ hWa;have HZ:=QQ hZ;have HGZ:=QQ hGZ;clear hWa hZ hGZ HW ewa eZ y0 y1 y2 y3 y4
   by_cases c0:q<1
   ·have d0:decide (q<1)=true:=J5 c0
    have HC0:=QQ c0;clear c0;have hY:=HWa.out.v.by_;obtain⟨v0,v1,v2,v3,v4⟩:=JW hY;have f0:=QJ.frozen hY 0;have f1:=QJ.frozen hY 1;have f2:=QJ.frozen hY 2;have f3:=QJ.frozen hY 3;have f4:=QJ.frozen hY 4;obtain⟨hy1,hy2⟩:=Qj5 hY (.int .i64 oi) (.int .i64 1) (.int .i64 ok) (.int .i64 op) (.int .i64 q);have HY1:=QQ hy1;have HY2:=QQ hy2;clear hY hy1 hy2;go_wp2_with fail
    go_region
    go_wp2_with fail
    exact Qj6 rfl (o:=⟨oi,1,ok,op,q⟩) Y rfl rfl rfl rfl (QJ.drew HY1.out) (HWa.out.done HS.out (by rw[HDrop.out];exact Xa6 HC0.out) (HY2.out.then_ (Below.drew (Below.refl _ _))))
   ·have d0:decide (q<1)=false:=IQ c0
    have HC0:Hid (1≤q):=QQ (by omega);clear c0
    by_cases c1:x.kind=2
    ·have d1:=J4 c1
     have HC1:=QQ c1;clear c1;go_wp2_with fail
     go_roundg (n- (k+1))
     case measure=>omega
     case rel=>exact⟨k+1,q,s,G',M1,M2,A,c,F,R++ [x],by omega,rfl,by go_num,rfl,QQ (HWa.out.pass HDrop.out (by have:=HC0.out;omega) HC1.out)⟩
    ·have d1:=UQ c1
     have HC1:=QQ c1;clear c1;go_upto_region 9 with fail
     go_cut [42] (fun s42 wx=>s42= .bool (YQ ⟨oi,1,ok,op,q⟩ x)∧wx=wa)
     case first=>
      by_cases c2:ok=2
      ·have d2:=Ji5 c2
       have HE:Hid (YQ ⟨oi,1,ok,op,q⟩ x=false):=QQ (by unfold YQ;dsimp only;rw[J4 c2];rfl);clear c2;go_wp2_with fail
       go_meet;exact⟨by rw[HE.out],rfl⟩
      ·have d2:=Ji6 c2
       by_cases c3:op<x.price
       ·have d3:=J5 c3
        have HE:Hid (YQ ⟨oi,1,ok,op,q⟩ x=true):=QQ (by unfold YQ;dsimp only;rw[UQ c2];simp;exact c3);clear c2 c3;go_wp2_with fail
        go_meet;exact⟨by rw[HE.out],rfl⟩
       ·have d3:=IQ c3
        have HE:Hid (YQ ⟨oi,1,ok,op,q⟩ x=false):=QQ (by unfold YQ;dsimp only;rw[UQ c2];simp;omega);clear c2 c3;go_wp2_with fail
        go_meet;exact⟨by rw[HE.out],rfl⟩
     case rest=>
      obtain⟨rfl,rfl⟩:=hcut;obtain⟨bb,hbb⟩: ∃bb,YQ ⟨oi,1,ok,op,q⟩ x=bb:=⟨_,rfl⟩;rw[hbb];have HBB:=QQ hbb;clear hbb
      cases bb with
      |true=>
       have hY:=HWa.out.v.by_;obtain⟨v0,v1,v2,v3,v4⟩:=JW hY;have f0:=QJ.frozen hY 0;have f1:=QJ.frozen hY 1;have f2:=QJ.frozen hY 2;have f3:=QJ.frozen hY 3;have f4:=QJ.frozen hY 4;obtain⟨hy1,hy2⟩:=Qj5 hY (.int .i64 oi) (.int .i64 1) (.int .i64 ok) (.int .i64 op) (.int .i64 q);have HY1:=QQ hy1;have HY2:=QQ hy2;clear hY hy1 hy2;go_wp2_with fail
       go_region
       go_wp2_with fail
       exact Qj6 rfl (o:=⟨oi,1,ok,op,q⟩) Y rfl rfl rfl rfl (QJ.drew HY1.out) (HWa.out.done HS.out (by rw[HDrop.out];exact Jn1 (by have:=HC0.out;show¬q<1;omega) HC1.out HBB.out) (HY2.out.then_ (Below.drew (Below.refl _ _))))
      |false=>
       go_wp2_with fail
       go_at_fn ga
       refine(HS.out.allows x.price HWa.out.v.m.mk_ ⟨HXok.out.2.2.1.1,HXok.out.2.2.1.2⟩).mono ?_;rintro e wb ⟨rfl,hbb⟩;have hWb:=HWa.out.below HS.out hbb;have hZb:=QJ.keep HZ.out hbb;obtain⟨ab,hab⟩: ∃ab,al s x.price=ab:=⟨_,rfl⟩;rw[hab];have HAB:=QQ hab;have HWa:=QQ hWb;have HZ:=QQ hZb;obtain⟨x0,x1,x2,x3,x4⟩:=JW hWb.v.bx;obtain⟨z0,z1,z2,z3,z4⟩:=Y4 hZb;dsimp only at x0 x1 x2 x3 x4;clear hWb hZb hbb hab
       cases ab with
       |false=>
        have hY:=HWa.out.v.by_;obtain⟨v0,v1,v2,v3,v4⟩:=JW hY;have f0:=QJ.frozen hY 0;have f1:=QJ.frozen hY 1;have f2:=QJ.frozen hY 2;have f3:=QJ.frozen hY 3;have f4:=QJ.frozen hY 4;obtain⟨hy1,hy2⟩:=Qj5 hY (.int .i64 oi) (.int .i64 1) (.int .i64 ok) (.int .i64 op) (.int .i64 q);have HY1:=QQ hy1;have HY2:=QQ hy2;clear hY hy1 hy2;go_wp2_with fail
        go_region
        go_wp2_with fail
        exact Qj6 rfl (o:=⟨oi,1,ok,op,q⟩) Y rfl rfl rfl rfl (QJ.drew HY1.out) (HWa.out.done HS.out (by rw[HDrop.out];exact Xa7 (by have:=HC0.out;show¬q<1;omega) HC1.out HBB.out HAB.out) (HY2.out.then_ (Below.drew (Below.refl _ _))))
       |true=>
        clear x0 x1 x2 x3 x4 z0 z1 z2 z3 z4;obtain⟨m,hm⟩: ∃m,min q x.qty=m:=⟨_,rfl⟩;have hq1:=HC0.out;have hxq:=HXok.out.2.2.2;have hqb:=HWa.out.qb;unfold V3 at hqb;have hm1:1≤m:=by omega
        have hmx:m≤x.qty:=by omega
        have hmq:m≤q:=by omega
        have HM:=QQ hm;clear hm;go_upto_region 13 with fail
        obtain⟨x0,x1,x2,x3,x4⟩:=JW HWa.out.v.bx;obtain⟨z0,z1,z2,z3,z4⟩:=Y4 HZ.out;dsimp only at x0 x1 x2 x3 x4
        go_cut [16] (fun s16 wx=>s16= .int .i64 m∧wx=wb)
        case first=>
         go_wp2_with fail
         all_goals go_meet
         all_goals refine⟨?_,rfl⟩
         all_goals rw[←HM.out]
         all_goals congr 1
         all_goals omega
        case rest=>
         obtain⟨rfl,rfl⟩:=hcut;have hF1:F.length≤100000000:=by have:=HWa.out.fl;omega
         have HCn:Hid (cnt s≤F.length):=QQ HWa.out.cn;have HCk:Hid (cnt s≤1000):=QQ (by have:=HWa.out.fl;have:=HWa.out.cn;omega);obtain⟨i0,hi0,hz0,hz1,hz2⟩:=info_parts Jk2;go_upto_region 15 with fail
         have hal:Below wc.heap.size wc (wc.alloc (.cells #[.int .i64 oi,.int .i64 x.id,.int .i64 x.price,.int .i64 m] 89)):=(Below.refl _ _).alloc (Nat.le_refl _) _;have hQ:=QJ.new wc 89 #[.int .i64 oi,.int .i64 x.id,.int .i64 x.price,.int .i64 m];obtain⟨Q,eQ⟩: ∃Q,wc.heap.size=Q:=⟨_,rfl⟩;have HQ0:Hid (wc.heap.size≤Q):=QQ (by omega);obtain⟨wf,ewf⟩: ∃W,wc.alloc (.cells #[.int .i64 oi,.int .i64 x.id,.int .i64 x.price,.int .i64 m] 89)=W:=⟨_,rfl⟩;have hWf:=HWa.out.below HS.out hal;have hXQ:X≠wc.heap.size:=fun e=>by have:=QJ.lt HWa.out.v.bx;omega
         have hZf:=QJ.keep HZ.out hal;rw[ewf]at hQ hWf hZf hal⊢;have HAL:=QQ hal;rw[eQ]at hQ hXQ⊢;have HXQ:=QQ hXQ;clear hXQ;have HWf:=QQ hWf;have HZf:=QQ hZf;have HQ:=QQ hQ;clear x0 x1 x2 x3 x4 z0 z1 z2 z3 z4 hal ewf eQ hWf hZf;obtain⟨x0,x1,x2,x3,x4⟩:=JW HWf.out.v.bx;obtain⟨z0,z1,z2,z3,z4⟩:=Y4 HZf.out;obtain⟨q0,q1,q2,q3⟩:=Xr9 hQ;dsimp only at x0 x1 x2 x3 x4;clear hQ;have HO1:=QQ (World.ownsRow.alloc (show wf.ownsRow 0 89 4 (.slice A F.length c) F.length (QW Qb1 F)from HWf.out.v.m.row) (.cells #[.int .i64 oi,.int .i64 x.id,.int .i64 x.price,.int .i64 m] 89));go_upto_region 18 with(at_builtin;refine wpList_append_lies _ rfl _ _ 42 rfl 0 89 i0 _ 4 32 Tryz.underlying42 hi0 hz0 hz1 hz2 rfl (by omega) (.slice A F.length c) F.length _ rfl HO1.out ⟨wf.heap.size,0,none⟩ 1 1 [.int .i64 oi,.int .i64 x.id,.int .i64 x.price,.int .i64 m] rfl rfl (World.news_of_block (cs:= #[.int .i64 oi,.int .i64 x.id,.int .i64 x.price,.int .i64 m]) (t:=89) (fr:=(0,0)) (heap_alloc_new wf _)) (by simp[Value.oneCell']) (by omega) (by unfold maxLen;omega) (by omega) (by simp) (wf.heap.size+1) (by simp) ?_;intro gg cap w6 hown hgrow hat6 hlt6)
         have hk6:=Ql1 hgrow;rw[XV]at hk6 hat6;have hV6:=HWf.out.v.fill HS.out (f:=⟨oi,x.id,x.price,m⟩) hk6 hown (hat6.imp id (fun e=>by omega));have hZ6:=QJ.keeps HZf.out hk6 HZA.out;obtain⟨hget,hown6,hoth6⟩:=Xo3 (n:=m) (HS.out.ok hV6.m.mk_) KX (HWf.out.oth.trans (by rw[HDrop.out]));have hcc:=HS.out.cut x m hV6.m.mk_ hget hm1 hmx;have HCC:=QQ hcc;have HV6:=QQ hV6;have HZ6:=QQ hZ6;have HOwn:=QQ (hown6.trans HWf.out.own);have HOth:=QQ hoth6;have HEq:=QQ (show ZX al tr l ⟨oi,1,ok,op,oq⟩ s0=O9.join (F++ [⟨oi,x.id,x.price,m⟩]) (R++Qg4 x m) (ZX al tr (l.drop (k+1)) ⟨oi,1,ok,op,q-m⟩ (tr s x.price))from HWf.out.eq.trans (by rw[HDrop.out];exact Jt5 (by have:=HC0.out;show¬q<1;omega) HC1.out HBB.out HAB.out HM.out));have HFl:=QQ HWf.out.fl;clear x0 x1 x2 x3 x4 z0 z1 z2 z3 z4 q0 q1 q2 q3 hk6 hown hgrow hat6 hlt6 hV6 hZ6 hget hown6 hoth6 hcc HO1 hi0 hz0 hz1 hz2 HWf HZf HQ HWa HZ;obtain⟨z0,z1,z2,z3,z4⟩:=Y4 HZ6.out;go_wp2_with fail
         refine HCC.out.mono ?_;rintro e w7 ⟨rfl,G2,hk7,hb7⟩;have hV7:=HV6.out.turn hk7 hb7;have hZ7:=QJ.keeps HZ6.out hb7.1 (fun e=>HGZ.out e);have hV8:=hV7.lots HS.out (q':=q-m);have hZ8:=QJ.keeps hZ7 (QK.set_ w7 ⟨X,4,none⟩ (.int .i64 (q-m))) HZX.out;have i1:RowKit.wrap64 (q-m)=q-m:=by unfold RowKit.wrap64;omega
         have f4:=QJ.frozen hV7.bx 4;obtain⟨x0,x1,x2,x3,x4⟩:=JW hV7.bx;dsimp only at x0 x1 x2 x3 x4;have HV8:=QQ hV8;have HZ8:=QQ hZ8;clear hV7 hZ7 hV8 hZ8 hk7 hb7 z0 z1 z2 z3 z4 HV6 HZ6 HCC;go_upto_region 20 with fail
         obtain⟨w8,ew8⟩: ∃W,w7.setCell ⟨X,4,none⟩ (.int .i64 (q-m))=W:=⟨_,rfl⟩;rw[ew8]at HV8 HZ8⊢;clear ew8 x0 x1 x2 x3 x4 f4;obtain⟨z0,z1,z2,z3,z4⟩:=Y4 HZ8.out;go_wp2_with fail
         go_at_fn gt
         refine(HS.out.trades x.price HV8.out.m.mk_ ⟨HXok.out.2.2.1.1,HXok.out.2.2.1.2⟩ HCk.out).mono ?_;rintro e w9 ⟨rfl,G3,hk9,hb9⟩;have HV9:=QQ (HV8.out.turn hk9 hb9);clear hk9 hb9 z0 z1 z2 z3 z4 HV8 HZ8 i1;go_wp2_with fail
         go_roundg (n- (k+1))
         case measure=>omega
         case rel=>exact⟨k+1,q-m,tr s x.price,G3,Qf6 M1 x m,Qf6 M2 x m,some ⟨gg,0,none⟩,cap,F++ [⟨oi,x.id,x.price,m⟩],R++Qg4 x m,by omega,rfl,by go_num,by simp,QQ ⟨HV9.out,HEq.out,HOwn.out,HOth.out,by rw[List.length_append,List.length_singleton];exact Nat.succ_le_succ HFl.out,by unfold V3;omega,by have h1:=HS.out.cnt_ s x.price;have h2:=HCn.out;rw[List.length_append,List.length_singleton];omega⟩⟩
  ·obtain rfl:k=n:=by omega
   have hltz: ¬(k:Int)< (k:Int):=by omega
   have hY:=HW.out.v.by_;obtain⟨v0,v1,v2,v3,v4⟩:=JW hY;obtain⟨x0,x1,x2,x3,x4⟩:=JW HW.out.v.bx;dsimp only at x0 x1 x2 x3 x4;have f0:=QJ.frozen hY 0;have f1:=QJ.frozen hY 1;have f2:=QJ.frozen hY 2;have f3:=QJ.frozen hY 3;have f4:=QJ.frozen hY 4;obtain⟨hy1,hy2⟩:=Qj5 hY (.int .i64 oi) (.int .i64 1) (.int .i64 ok) (.int .i64 op) (.int .i64 q);have HY1:=QQ hy1;have HY2:=QQ hy2;clear hY hy1 hy2;go_wp2_with fail
   go_region
   go_wp2_with fail
   have hdn:l.drop k= []:=List.drop_eq_nil_of_le (by rw[HN.out];exact Nat.le_refl _);exact Qj6 rfl (o:=⟨oi,1,ok,op,q⟩) Y rfl rfl rfl rfl (QJ.drew HY1.out) (HW.out.done HS.out (by rw[hdn,Xo0,List.append_nil]) (HY2.out.then_ (Below.drew (Below.refl _ _))))
end Go.Proofs.YtnlngicnfegjgaaGreatDoor
