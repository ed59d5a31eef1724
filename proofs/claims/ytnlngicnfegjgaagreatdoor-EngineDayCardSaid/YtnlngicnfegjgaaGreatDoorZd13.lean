/- Contracts and walks that the law's proof needs. -/
import Derived.RangeFuncBox
import Derived.Maps.AppendAt
import Derived.Test.YtnlngicnfegjgaaGreatDoorZd12
import Derived.Test.YtnlngicnfegjgaaGreatDoorZd1
import Derived.Laws.Rows
import Derived.WalkKit
import Derived.WalkLawsBesides
import Derived.WalkSpells
import Derived.Deep.QuietTactic
import Derived.BigQuiet
import Derived.Deep.LoopGhost
import Derived.Deep.DeepCutAuto
import Derived.Deep.CutBlock
import Derived.Laws.EntriesVeiled
import Derived.Test.YtnlngicnfegjgaaGreatDoorZd11
set_option linter.unusedVariables false
set_option maxRecDepth 100000
set_option maxHeartbeats 8000000
namespace Go.Proofs.YtnlngicnfegjgaaGreatDoor
open Go.RowKit
attribute [local go_sem] Oper.semAt_some
theorem Jt0 (sd:Int) (hs:VV sd) (n:Nat) (hn:2≤n) (B1 B2 b a r:Nat) (S:Nat→Prop) (F:Nat→Prop) (M:Int→Int→Option QX) (N:Nat) (f:Int→Option Value) (H:Int→HS) (reg:Nat→Int) (hS:KY M N f H) (hN:N≤100)
  (w:World) (hM:XX w b a F M N r f H reg) (hfp: ∀i,U1 b r F H i→ ¬S i) (hs1: ¬S B1) (hB1:w.cell? ⟨B1,0,none⟩=some (.pointer (some ⟨b,0,none⟩))) (hB2:w.cell? ⟨B2,0,none⟩=some (.int .i64 sd)):
  SeqStopsK Fence.wide n Tryz.prog 129 #[.pointer (some ⟨B1,0,none⟩),.pointer (some ⟨B2,0,none⟩)] (fun x:QX=> #[KQ x]) (QK S) (fun ys=>ys=(H sd).L) (fun pre=>pre <+: (H sd).L) (H sd).L.length w:=by
 intro l J Jx W hW hJ hJx hY h0
 have hb1:=World.block_lt_of_cell? w _ hB1
 have hb2:=World.block_lt_of_cell? w _ hB2
 have c1:=(hW.cell (p:=⟨B1,0,none⟩) hb1).trans hB1
 have c2:=(hW.cell (p:=⟨B2,0,none⟩) hb2).trans hB2
 rcases hs with rfl|rfl
 ·exact Ko3 n hn l B1 B2 b a r S F M N f H reg hS hN J Jx (fun pre W W' hj hb=>Jg0 hJ hj hb) hY W (hM.below hW) hfp hs1 c1 c2 h0
 ·exact Ko4 n hn l B1 B2 b a r S F M N f H reg hS hN J Jx (fun pre W W' hj hb=>Jg0 hJ hj hb) hY W (hM.below hW) hfp hs1 c1 c2 h0
theorem Xn6 {S:Nat→Prop} {w:World} (hS: ∀i,w.heap.size≤i→S i) (W:World) (l:Nat) (o o':Obj) (hl:w.heap.size≤l) (h1:W.heap[l]?=some o) (h2:o.isCells=false) (h3:o.isWalk=false):QK S W (W.putObj l o'):=
 ⟨rfl,rfl,rfl,by simp[World.putObj],fun k hk hn=>World.putObj_heap_other (fun e=>hn (hS k (by omega)))⟩
theorem Xa4 (n:Nat) (hn:1≤n) (b:Nat) (sd:Int) (w:World):
  CallsIn Fence.wide n Tryz.prog 91 #[.pointer (some ⟨b,0,none⟩),.int .i64 sd] w fun e w'=>
   e= .returned (.func (.func 129) #[] #[.pointer (some ⟨w.heap.size,0,none⟩),.pointer (some ⟨w.heap.size+1,0,none⟩)])∧w'=(w.alloc (.cells #[.pointer (some ⟨b,0,none⟩)] 97)).alloc (.cells #[.int .i64 sd] 3):=by
 refine callsIn_of_wp Tryz.func91 rfl trivial ?_ rfl
 simp only[Tryz.ntmps91,List.size_toArray,List.length_cons,List.length_nil,Nat.reduceAdd,Nat.reduceSub,Array.replicate_succ,Array.replicate_zero,List.push_toArray,List.append_toArray,List.nil_append,List.cons_append]
 gi_wp2
 go_ret
 exact⟨rfl,rfl⟩
theorem Qm5:(Tryz.prog.info? 29).map (fun i=>(i.zero,i.size,i.bytes))=some (some (.agg #[.int .i64 0,.int .i64 0,.int .i64 0,.int .i64 0,.int .i64 0]),5,40):=by kernel_rfl
theorem Jt1 {W:World} {base base':Nat} {e:TypeId} {size:Nat} {v:Value} {k:Nat} {xs:List Value} (hb:base'≤base) (h:W.ownsRow base e size v k xs):W.ownsRow base' e size v k xs:=by
 refine⟨h.1, ?_⟩
 rcases h.2 with h'|⟨g,cap,cur,h1,h2,h3⟩
 ·exact .inl h'
 ·exact .inr ⟨g,cap,cur,h1,Nat.le_trans hb h2,h3⟩
theorem Kh9 {W:World} {base:Nat} {e:TypeId} {size:Nat} {v:Value} {k:Nat} {xs:List Value} (h:W.ownsRow base e size v k xs): ∃A c,v= .slice A k c∧ ∀g,QZ A=some g→base≤g:=by
 rcases h.2 with⟨h1,h2⟩|⟨g,cap,cur,h1,h2,h3⟩
 ·exact⟨none,0,by rw[h1,h2],fun g e=>by cases e⟩
 ·exact⟨_,cap,h1,fun g' e=>by cases e;exact h2⟩
theorem Zc8 {M:Int→Int→Option QX} {n:Nat} {f:Int→Option Value} {H:Int→HS} {s:Int} (hs:VV s) (hS:KY M n f H) (h2:n≤100):(H s).L.length≤100:=by
 have h1:=hS.cnt
 unfold HS.L IW
 rw[List.length_map]
 unfold X5 at h1
 rw[List.length_append]at h1
 rcases hs with rfl|rfl<;>omega
theorem Kv5 (n:Nat) (hn:5≤n) (sd:Int) (hs:VV sd) (b a r:Nat) (F:Nat→Prop) (M:Int→Int→Option QX) (N:Nat) (f:Int→Option Value) (H:Int→HS) (reg:Nat→Int) (hS:KY M N f H) (hN:N≤100) (w:World) (hM:XX w b a F M N r f H reg):
  CallsIn Fence.wide n Tryz.prog 42 #[.pointer (some ⟨b,0,none⟩),.int .i64 sd] w fun e w'=>Below w.heap.size w w'∧ ∃A c,e= .returned (.tuple #[.slice A (H sd).L.length c,.nilIface])∧QY w' A (H sd).L.length c 29 5 (QW U7 (H sd).L)∧ ∀g,QZ A=some g→w.heap.size≤g:=by
 have h1:1≤n:=by omega
 have h2:1≤n-1:=by omega
 have hw44:Fence.wide.fn 91:=trivial
 obtain⟨i0,hi,hz0,hz1,hz2⟩:=info_parts Qm5
 have HM:=QQ hM
 have HSm:=QQ hS
 have HN:=QQ hN
 clear hM hS hN
 obtain⟨L,hLe⟩: ∃L,(H sd).L=L:=⟨_,rfl⟩
 rw[hLe]
 refine callsIn_of_wp_marks Tryz.func42 rfl trivial ?_ rfl
 simp only[Tryz.ntmps42,List.size_toArray,List.length_cons,List.length_nil,Nat.reduceAdd,Nat.reduceSub,Array.replicate_succ,Array.replicate_zero,List.push_toArray,List.append_toArray,List.nil_append,List.cons_append]
 gi_upto_region 1 with fail
 gi_cut [13]from 8 (fun s13 wx=>s13= .bool false∧wx=w)
 case first=>
  rcases hs with rfl|rfl
  all_goals
   gi_wp2
   gi_meet
   exact⟨rfl,rfl⟩
 case rest=>
  obtain⟨rfl,rfl⟩:=hcut
  gi_wp2_with (gi_at_call 91;refine(Xa4 _ (by omega) b _ _).mono ?_;rintro e w' ⟨rfl,rfl⟩)
  have bO:=((Boxed.new wc 47 (.slice none 0 0)).alloc (.cells #[.pointer (some ⟨b,0,none⟩)] 97)).alloc (.cells #[.int .i64 sd] 3);have bB:=(Boxed.new (wc.alloc (.cells #[.slice none 0 0] 47)) 97 (.pointer (some ⟨b,0,none⟩))).alloc (.cells #[.int .i64 sd] 3);have bS:=Boxed.new ((wc.alloc (.cells #[.slice none 0 0] 47)).alloc (.cells #[.pointer (some ⟨b,0,none⟩)] 97)) 3 (.int .i64 sd);simp only[World.size_alloc]at bB bS;have hB0:Below wc.heap.size wc (((wc.alloc (.cells #[.slice none 0 0] 47)).alloc (.cells #[.pointer (some ⟨b,0,none⟩)] 97)).alloc (.cells #[.int .i64 sd] 3)):=(((Below.refl _ wc).alloc (Nat.le_refl _) _).alloc (by simp) _).alloc (by simp;omega) _;have hsz:(((wc.alloc (.cells #[.slice none 0 0] 47)).alloc (.cells #[.pointer (some ⟨b,0,none⟩)] 97)).alloc (.cells #[.int .i64 sd] 3)).heap.size=wc.heap.size+3:=by simp
  obtain⟨W0,hW0⟩: ∃W0,((wc.alloc (.cells #[.slice none 0 0] 47)).alloc (.cells #[.pointer (some ⟨b,0,none⟩)] 97)).alloc (.cells #[.int .i64 sd] 3)=W0:=⟨_,rfl⟩;rw[hW0]at bO bB bS hB0 hsz⊢;clear hW0;have hL:(H sd).L.length≤100:=Zc8 hs HSm.out HN.out;have hseq:=Jt0 sd hs (n-1) (by omega) (wc.heap.size+1) (wc.heap.size+1+1) b a r (fun i=>i=wc.heap.size∨W0.heap.size≤i) F M N f H reg HSm.out HN.out W0 (HM.out.below hB0)
   (fun i hi e=>by have:=HM.out.fp hi;rcases e with e|e<;>omega) (fun e=>by rcases e with e|e<;>omega) bB.cell bS.cell
  rw[hLe]at hL hseq;have HSq:=QQ hseq;clear hseq;refine wpIn_rangeFunc_ownH rfl h1 (gf:=129) (lb:= #[.pointer (some ⟨wc.heap.size+1,0,none⟩),.pointer (some ⟨wc.heap.size+1+1,0,none⟩)]) rfl trivial (enters_of Tryz.func129 (by kernel_rfl) rfl)
   HSq.out (fun h k=>h.trans k (fun i h=> .inl h)) (Xn6 (fun i hi=> .inr hi)) (Below.refl _ _) (fun _=>rfl)
   (fun pre W=>(∃v,Boxed W wc.heap.size 47 v∧W.ownsRow W0.heap.size 29 5 v pre.length (QW U7 pre)∧True)∧(Below wc.heap.size wc W∧W0.heap.size≤W.heap.size))
   (fun _ _ _=>False)
   (OwnFrom.and (Own.from (holdsRow_own W0.heap.size wc.heap.size 47 29 5 (fun pre:List QX=>pre.length) (fun pre=>QW U7 pre) (fun _ _=>True)) _) (OwnFrom.and (ownFrom_below (Nat.le_refl _) (by omega)) (fun _ X Y row hs hg hr=>Nat.le_trans hs hg.size)))
   (fun _ _ _ _ _ hs _ _=>hs)
   ⟨⟨_,bO,⟨rfl,.inl ⟨rfl,rfl⟩⟩,trivial⟩,hB0,Nat.le_refl _⟩
   (fun x a' W=> ∃Bx,W0.heap.size≤Bx∧QJ W Bx 29 (KZ x)∧a'= {tmps:= #[.pointer (some ⟨b,0,none⟩),.int .i64 sd,undef,undef,.slice none 0 0,.nilIface,.pointer (some ⟨wc.heap.size,0,none⟩),.pointer (some ⟨Bx,0,none⟩),u8,u9,u10,u11,u12,.bool false,u14,.pointer (some ⟨b,0,none⟩),.int .i64 sd,.func (.func 129) #[] #[.pointer (some ⟨wc.heap.size+1,0,none⟩),.pointer (some ⟨wc.heap.size+1+1,0,none⟩)],KQ x,u19,u20,u21,u22,u23],defers:= []})
   (fun x a' _ X Y row hs hg hr=>by
    obtain⟨Bx,h1,h2,h3⟩:=hs;exact⟨Bx,h1,h2.grown hg (fun e=>by obtain⟨_,o,ho,hc⟩:=hr Bx e.symm;rw[show X.heap[Bx]?=_ from h2]at ho;cases ho;cases hc),h3⟩)
   ?assign ?body ?done ?stop
  case assign=>
   rintro l pre x W K ⟨⟨v,hv,hrow,_⟩,hB1,hsW⟩ hK;obtain⟨id,side,kind,price,qty⟩:=x;simp only[KQ]
   gi_wp2
   exact hK _ _ ((KeepsOthers.alloc _ _).from _) (QK.of_below ((Below.refl _ W).alloc (Nat.le_refl _) _) _)
    ⟨⟨v,hv.alloc _,hrow.alloc _,trivial⟩,hB1.alloc hB1.size _,by simp;omega⟩ ⟨W.heap.size,hsW,QJ.new _ _ _,rfl⟩
  case body=>
   rintro l pre x a' W hl ⟨rc,hr⟩ ⟨⟨v,hv,hrow,_⟩,hB1,hsW⟩ ⟨Bx,hBx,bX,rfl⟩ hlt;have cO:=hv.cell;obtain⟨x0,x1,x2,x3,x4⟩:=JW bX;have h1':1≤n-1-1:=by omega
   have hvl:=hv.lt;have hbl:=hB1.size;have hsz':wc.heap.size≤W0.heap.size:=by omega
   gi_wp2_with (gi_at_builtin;refine wpListIn_append_own _ rfl _ _ 47 rfl W0.heap.size 29 i0 _ 5 40 Tryz.underlying47 hi hz0 hz1 hz2 rfl (by decide) _ _ _ rfl (hrow.alloc _) ⟨W.heap.size,0,none⟩ 1 1 (U7 x) rfl rfl (World.news_of_block (cs:=KZ x) (t:=29) (fr:=(0,0)) (heap_alloc_new W _)) (Qv6 _) (by unfold maxLen;omega) (by omega) (by simp;omega) ?_;intro v' w1 hown' hgrow _;have hv1:Boxed w1 wc.heap.size 47 v:=(hv.alloc _).kept hgrow (hv.not_row (by decide) hrow);have c1:=hv1.cell;have f1:=hv1.frozen;obtain⟨gg,cap,rfl⟩:=ownsRow_succ hown';go_frame)
   have hg:(W.alloc (.cells (KZ x) 29)).grownBy w1 v.ownBlock:=hgrow;obtain⟨-,hv2,-,hk2,hb2⟩:=hv.appended (by decide) (Jt1 hsz' hrow) hB1.size (Nat.le_refl _) (Jt1 hsz' hown') hg;have hown2:w1.ownsRow W0.heap.size 29 5 (.slice (some ⟨gg,0,none⟩) (pre.length+1) cap) (pre.length+1) (QW U7 pre++U7 x):=hown';refine⟨hk2.from _,⟨hb2.os,hb2.tape,hb2.output,Nat.le_trans (by simp) (Nat.le_trans hg.size (by simp[World.setCell])),fun k hk hn=> ?_⟩,⟨_,hv2, ?_,trivial⟩,hB1.trans hb2,Nat.le_trans hsW (Nat.le_trans (by simp) (Nat.le_trans hg.size (by simp[World.setCell])))⟩
   ·refine(Below.heap_setCell w1 _ _ k (fun e=>hn (.inl e))).trans ((hg.block k (by simp;omega) (fun e=> ?_)).trans (Below.heap_alloc W _ k hk))
    exact hn (.inr (hrow.lt k e.symm).1)
   ·rw[List.length_append,Qa5]
    exact hown2.kept (grownBy_setCell' w1 _ _) (.inr (hv1.not_row (by decide) hown2).symm)
  case done=>
   rintro D zs W hD rfl ⟨⟨v,hv,hrow,_⟩,hB1,hsW⟩ hK;have cO:=hv.cell
   gi_wp2
   refine⟨by simp,.inl ⟨_,_,rfl,run_takeDeferred hK, ?_⟩⟩;obtain⟨A,c,rfl,hA⟩:=Kh9 hrow;refine⟨_,results_tmp2 rfl _ _ _, ?_,A,c,rfl,Jt1 (Nat.zero_le _) (ownsRow_putObj hrow _ hK rfl),fun g e=> ?_⟩
   ·exact hB1.trans (belowK_b (w:=wc) (Nat.le_refl _) W D _ _ (by omega) hK rfl rfl)
   ·have:=hA g e;omega
  case stop=>
   rintro D c pre W _ _ h _;exact h.elim
attribute [local go_sem] Oper.semAt_some
def Kc5 (L:List QX):QX:=L.headD noO
def Kc6:List QX→Int
 | []=>8
 |_::_=>0
theorem Jo6 {P:Program} {fn:Func} {p q:Tmp} {ty ty2:TypeId} (h:fn.results= #[.cell p ty,.cell q ty2]) (tmps:Array Value) (w:World) (g g2:Nat) (t:TypeId) (cs:Array Value) (v:Value) (fr:Nat×Nat) (d:TypeDesc)
  (hp:tmps.getD p undef= .pointer (some ⟨g,0,none⟩)) (hq:tmps.getD q undef= .pointer (some ⟨g2,0,none⟩)) (hg:w.heap[g]?=some (.cells cs t fr))
  (hu:P.underlying ty=some d) (hd:(match d with| .struct _| .array _ _=>true|_=>false)=true) (hi:(P.info? ty).map (·.size)=some cs.size)
  (h2:(loadVar ty2 ⟨g2,0,none⟩).run P w= .ok v w):(results fn tmps).run P w= .ok (.tuple #[.agg cs,v]) w:=by
 have hp':tmps[p]?.getD undef= .pointer (some ⟨g,0,none⟩):=by simpa using hp
 have hq':tmps[q]?.getD undef= .pointer (some ⟨g2,0,none⟩):=by simpa using hq
 simp[results,h,hp',hq',asAddr,run_loadVar_row w g t ty cs fr d hg hu hd hi,h2,Sem.run_bind,Result.andThen]
theorem Ko5 {w:World} {g:Nat} {v:Value} (h:w.cell? ⟨g,0,none⟩=some v):(loadVar 44 ⟨g,0,none⟩).run Tryz.prog w= .ok v w:=by
 simp[loadVar,go_sem,h]
theorem Jg3 {tmps:Array Value} {W:World} {g:Nat} {o:QX} {v:Value} (h4:tmps.getD 4 undef= .pointer (some ⟨g,0,none⟩)) (h5:tmps.getD 5 undef= .pointer (some ⟨g+1,0,none⟩)) (hb:QJ W g 29 (KZ o)) (he:Boxed W (g+1) 44 v):
  (results Tryz.f118 tmps).run Tryz.prog W= .ok (.tuple #[KQ o,v]) W:=
 Jo6 Tryz.results118 tmps W g (g+1) 29 (KZ o) v (0,0) _ h4 h5 hb Tryz.underlying29 rfl (by show(Tryz.prog.info? 29).map (·.size)=some 5;kernel_rfl) (Ko5 he.cell)
def Za0 (w:World) (c:Code) (pre:List QX) (W:World):Prop:=c= .ret∧(∃x,pre= [x]∧QJ W w.heap.size 29 (KZ x))∧Boxed W (w.heap.size+1) 44 .nilIface∧Below w.heap.size w W
def Zb2 (w:World) (pre:List QX) (W:World):Prop:=pre= []∧QJ W w.heap.size 29 (KZ noO)∧Boxed W (w.heap.size+1) 44 .nilIface∧Below w.heap.size w W
theorem Qj0 {X Y:World} {g B:Nat} {t:TypeId} {cs:Array Value} {row:Option Nat} (h:QJ X g t cs) (hg:X.grownBy Y row) (hr: ∀r,row=some r→B≤r∧ ∃o:Obj,X.heap[r]?=some o∧o.isCells=false):QJ Y g t cs:=
 h.grown hg (fun e=>by obtain⟨_,o,ho,hc⟩:=hr g e.symm;rw[show X.heap[g]?=_ from h]at ho;cases ho;cases hc)
theorem Xn7 {W:World} {g:Nat} {o o':QX} {v v':Value} (hX:QJ W g 29 (KZ o)) (hE:Boxed W (g+1) 44 v) (W':World)
  (e:W'=(((((W.setCell ⟨g,0,none⟩ (.int .i64 o'.id)).setCell ⟨g,1,none⟩ (.int .i64 o'.side)).setCell ⟨g,2,none⟩ (.int .i64 o'.kind)).setCell ⟨g,3,none⟩ (.int .i64 o'.price)).setCell ⟨g,4,none⟩ (.int .i64 o'.qty)).setCell ⟨g+1,0,none⟩ v'):
  QJ W' g 29 (KZ o')∧Boxed W' (g+1) 44 v'∧KeepsOthers W W'∧(∀B,B≤g→Below B W W')∧W.heap.size≤W'.heap.size:=by
 subst e
 have hE':QJ W (g+1) 44 #[v]:=hE
 refine⟨?_, ?_, ?_,fun B hB=> ?_,by simp[World.setCell]⟩
 ·exact QJ.far (QJ.set_ (QJ.set_ (QJ.set_ (QJ.set_ (QJ.set_ hX 0 _) 1 _) 2 _) 3 _) 4 _) (by simp) _
 ·exact QJ.set_ (QJ.far (QJ.far (QJ.far (QJ.far (QJ.far hE' (by simp) _) (by simp) _) (by simp) _) (by simp) _) (by simp) _) 0 _
 ·exact(((((KeepsOthers.setCell _ _ _).trans (KeepsOthers.setCell _ _ _)).trans (KeepsOthers.setCell _ _ _)).trans (KeepsOthers.setCell _ _ _)).trans (KeepsOthers.setCell _ _ _)).trans (KeepsOthers.setCell _ _ _)
 ·exact((((((Below.refl B W).setCell (p:=⟨g,0,none⟩) hB _).setCell (p:=⟨g,1,none⟩) hB _).setCell (p:=⟨g,2,none⟩) hB _).setCell (p:=⟨g,3,none⟩) hB _).setCell (p:=⟨g,4,none⟩) hB _).setCell (p:=⟨g+1,0,none⟩) (by show B≤g+1;omega) _
theorem Kv6 (n:Nat) (hn:5≤n) (sd:Int) (hs:VV sd) (b a r:Nat) (F:Nat→Prop) (M:Int→Int→Option QX) (N:Nat) (f:Int→Option Value) (H:Int→HS) (reg:Nat→Int) (hS:KY M N f H) (hN:N≤100) (w:World) (hM:XX w b a F M N r f H reg):
  CallsIn Fence.wide n Tryz.prog 118 #[.pointer (some ⟨b,0,none⟩),.int .i64 sd] w fun e w'=>Below w.heap.size w w'∧e= .returned (.tuple #[KQ (Kc5 (H sd).L),YV (Kc6 (H sd).L)]):=by
 have h1:1≤n:=by omega
 have h2:1≤n-1:=by omega
 have hw44:Fence.wide.fn 91:=trivial
 have HM:=QQ hM
 have HSm:=QQ hS
 have HN:=QQ hN
 clear hM hS hN
 obtain⟨L,hLe⟩: ∃L,(H sd).L=L:=⟨_,rfl⟩
 rw[hLe]
 refine callsIn_of_wp_marks Tryz.func118 rfl trivial ?_ rfl
 simp only[Tryz.ntmps118,List.size_toArray,List.length_cons,List.length_nil,Nat.reduceAdd,Nat.reduceSub,Array.replicate_succ,Array.replicate_zero,List.push_toArray,List.append_toArray,List.nil_append,List.cons_append]
 gi_upto_region 1 with fail
 gi_cut [12]from 7 (fun s12 wx=>s12= .bool false∧wx=(w.alloc (.cells (KZ noO) 29)).alloc (.cells #[.nilIface] 44))
 case first=>
  rcases hs with rfl|rfl
  all_goals
   gi_wp2
   gi_meet
   exact⟨rfl,rfl⟩
 case rest=>
  obtain⟨rfl,rfl⟩:=hcut
  gi_wp2_with (gi_at_call 91;refine(Xa4 _ (by omega) b _ _).mono ?_;rintro e w' ⟨rfl,rfl⟩)
  have hX1:=(((QJ.new w 29 (KZ noO)).alloc (.cells #[.nilIface] 44)).alloc (.cells #[.pointer (some ⟨b,0,none⟩)] 97)).alloc (.cells #[.int .i64 sd] 3);have hX2:=((Boxed.new (w.alloc (.cells (KZ noO) 29)) 44 .nilIface).alloc (.cells #[.pointer (some ⟨b,0,none⟩)] 97)).alloc (.cells #[.int .i64 sd] 3);have bB:=(Boxed.new ((w.alloc (.cells (KZ noO) 29)).alloc (.cells #[.nilIface] 44)) 97 (.pointer (some ⟨b,0,none⟩))).alloc (.cells #[.int .i64 sd] 3);have bS:=Boxed.new (((w.alloc (.cells (KZ noO) 29)).alloc (.cells #[.nilIface] 44)).alloc (.cells #[.pointer (some ⟨b,0,none⟩)] 97)) 3 (.int .i64 sd);simp only[World.size_alloc]at hX2 bB bS;have hB0:Below w.heap.size w ((((w.alloc (.cells (KZ noO) 29)).alloc (.cells #[.nilIface] 44)).alloc (.cells #[.pointer (some ⟨b,0,none⟩)] 97)).alloc (.cells #[.int .i64 sd] 3)):=((((Below.refl _ w).alloc (Nat.le_refl _) _).alloc (by simp) _).alloc (by simp;omega) _).alloc (by simp;omega) _;have hsz:((((w.alloc (.cells (KZ noO) 29)).alloc (.cells #[.nilIface] 44)).alloc (.cells #[.pointer (some ⟨b,0,none⟩)] 97)).alloc (.cells #[.int .i64 sd] 3)).heap.size=w.heap.size+4:=by simp
  obtain⟨W0,hW0⟩: ∃W0,(((w.alloc (.cells (KZ noO) 29)).alloc (.cells #[.nilIface] 44)).alloc (.cells #[.pointer (some ⟨b,0,none⟩)] 97)).alloc (.cells #[.int .i64 sd] 3)=W0:=⟨_,rfl⟩;rw[hW0]at hX1 hX2 bB bS hB0 hsz⊢;clear hW0;have hseq:=Jt0 sd hs (n-1) (by omega) (w.heap.size+1+1) (w.heap.size+1+1+1) b a r (fun i=>W0.heap.size≤i) F M N f H reg HSm.out HN.out W0 (HM.out.below hB0)
   (fun i hi e=>by have:=HM.out.fp hi;omega) (fun e=>by omega) bB.cell bS.cell
  rw[hLe]at hseq;have HSq:=QQ hseq;clear hseq;refine wpIn_rangeFunc_ownH rfl h1 (gf:=129) (lb:= #[.pointer (some ⟨w.heap.size+1+1,0,none⟩),.pointer (some ⟨w.heap.size+1+1+1,0,none⟩)]) rfl trivial (enters_of Tryz.func129 (by kernel_rfl) rfl)
   HSq.out (fun h k=>h.trans k (fun i h=> .inl h)) (Xn6 (fun i hi=>hi)) (Below.refl _ _) (fun _=>rfl)
   (fun pre W=>Zb2 w pre W∧W0.heap.size≤W.heap.size) (Za0 w)
   (OwnFrom.and (fun s X Y row hs hg hr=>⟨hs.1,Qj0 hs.2.1 hg hr,Qj0 hs.2.2.1 hg hr,hs.2.2.2.grown hg hs.2.2.2.size (fun k e=>by have:=(hr k e).1;omega)⟩) (fun _ X Y row hs hg hr=>Nat.le_trans hs hg.size))
   (fun c s X Y row hs hg hr=>⟨hs.1,hs.2.1.imp (fun x h=>⟨h.1,Qj0 h.2 hg hr⟩),Qj0 hs.2.2.1 hg hr,hs.2.2.2.grown hg hs.2.2.2.size (fun k e=>by have:=(hr k e).1;omega)⟩)
   ⟨⟨rfl,hX1,hX2,hB0⟩,Nat.le_refl _⟩
   (fun x a' W=> ∃Bx,W0.heap.size≤Bx∧QJ W Bx 29 (KZ x)∧a'= {tmps:= #[.pointer (some ⟨b,0,none⟩),.int .i64 sd,undef,undef,.pointer (some ⟨w.heap.size,0,none⟩),.pointer (some ⟨w.heap.size+1,0,none⟩),.pointer (some ⟨Bx,0,none⟩),u7,u8,u9,u10,u11,.bool false,u13,u14,.pointer (some ⟨b,0,none⟩),.int .i64 sd,.func (.func 129) #[] #[.pointer (some ⟨w.heap.size+1+1,0,none⟩),.pointer (some ⟨w.heap.size+1+1+1,0,none⟩)],KQ x,u19,u20,u21],defers:= []})
   (fun x a' _ X Y row hs hg hr=>by
    obtain⟨Bx,h1,h2,h3⟩:=hs;exact⟨Bx,h1,Qj0 h2 hg hr,h3⟩)
   ?assign ?body ?done ?stop
  case assign=>
   rintro l pre x W K ⟨⟨hp,hX,hE,hB1⟩,hsW⟩ hK;simp only[KQ]
   gi_wp2
   exact hK _ _ ((KeepsOthers.alloc _ _).from _) (QK.of_below ((Below.refl _ W).alloc (Nat.le_refl _) _) _)
    ⟨⟨hp,hX.alloc _,hE.alloc _,hB1.alloc hB1.size _⟩,by simp;omega⟩ ⟨W.heap.size,hsW,QJ.new _ _ _,rfl⟩
  case body=>
   rintro l pre x a' W hl ⟨rc,hr⟩ ⟨⟨rfl,hX,hE,hB1⟩,hsW⟩ ⟨Bx,hBx,bX,rfl⟩ hlt;obtain⟨x0,x1,x2,x3,x4⟩:=JW bX;obtain⟨z0,z1,z2,z3,z4⟩:=JW hX;have f0:=QJ.frozen hX 0;have f1:=QJ.frozen hX 1;have f2:=QJ.frozen hX 2;have f3:=QJ.frozen hX 3;have f4:=QJ.frozen hX 4;have cE:=hE.cell;have fE:=hE.frozen;have h1':1≤n-1-1:=by omega
   gi_wp2_with fail
   obtain⟨hX',hE',hK',hB',-⟩:=Xn7 (o':=x) (v':= .nilIface) hX hE _ rfl;exact⟨hK'.from _,rfl,⟨x,rfl,hX'⟩,hE',hB1.trans (hB' _ (Nat.le_refl _))⟩
  case done=>
   rintro D zs W hD rfl ⟨⟨hp,hX,hE,hB1⟩,hsW⟩ hK;subst hp;obtain⟨z0,z1,z2,z3,z4⟩:=JW hX;have f0:=QJ.frozen hX 0;have f1:=QJ.frozen hX 1;have f2:=QJ.frozen hX 2;have f3:=QJ.frozen hX 3;have f4:=QJ.frozen hX 4;have cE:=hE.cell;have fE:=hE.frozen
   gi_wp2
   obtain⟨hX',hE',hK',hB',-⟩:=Xn7 (o':=noO) (v':= .iface 52 (.int .i64 8)) hX hE _ rfl;have hD':=hK'.same _ _ hK rfl;refine⟨by simp,.inl ⟨_,_,rfl,run_takeDeferred hD', ?_⟩⟩;refine⟨_,Jg3 (g:=w.heap.size) rfl rfl ((World.putObj_heap_other (by omega)).trans hX') ((World.putObj_heap_other (by omega)).trans hE'), ?_,rfl⟩;exact(hB1.trans (hB' _ (Nat.le_refl _))).trans (belowK_b (w:=w) (Nat.le_refl _) _ D _ _ (by omega) hD' rfl rfl)
  case stop=>
   rintro D c pre W hD hpre ⟨rfl,⟨x,rfl,hX⟩,hE,hB1⟩ hK;obtain⟨Lr,rfl⟩: ∃Lr,L=x::Lr:=by
    obtain⟨t,rfl⟩:=hpre;exact⟨t,rfl⟩
   gi_wp2
   refine⟨by simp,.inl ⟨_,_,rfl,run_takeDeferred hK, ?_⟩⟩;refine⟨_,Jg3 (g:=w.heap.size) rfl rfl ((World.putObj_heap_other (by omega)).trans hX) ((World.putObj_heap_other (by omega)).trans hE), ?_,rfl⟩;exact hB1.trans (belowK_b (w:=w) (Nat.le_refl _) W D _ _ (by omega) hK rfl rfl)
theorem Xn8 {H:Int→HS} {sd:Int} (hs:VV sd):JY sd (H 1).L (H 2).L=(H sd).L:=by
 unfold JY
 rcases hs with rfl|rfl
 ·rw[if_pos rfl]
 ·rw[if_neg (by decide)]
theorem Qc5 (w:World) (b:Nat) (G:Nat→Prop) (L1 L2:List QX) (h:Q1 w b G L1 L2) (sd:Int) (hs:VV sd):
  Calls Tryz.prog 42 #[.pointer (some ⟨b,0,none⟩),.int .i64 sd] w fun e w'=>Below w.heap.size w w'∧ ∃A c,e= .returned (.tuple #[.slice A (JY sd L1 L2).length c,.nilIface])∧QY w' A (JY sd L1 L2).length c 29 5 (QW U7 (JY sd L1 L2))∧ ∀g,QZ A=some g→w.heap.size≤g:=by
 obtain⟨a,F,M,n,r,f,H,reg,hM,hS,hG,rfl,rfl⟩:=h
 rw[Xn8 hs]
 exact callsIn_wide.1 (Kv5 5 (by omega) sd hs b a r F M n f H reg hS hM.ar.le w hM)
theorem Jg4 (w:World) (b:Nat) (G:Nat→Prop) (L1 L2:List QX) (h:Q1 w b G L1 L2) (sd:Int) (hs:VV sd):
  Calls Tryz.prog 118 #[.pointer (some ⟨b,0,none⟩),.int .i64 sd] w fun e w'=>Below w.heap.size w w'∧e= .returned (.tuple #[KQ (Kc5 (JY sd L1 L2)),YV (Kc6 (JY sd L1 L2))]):=by
 obtain⟨a,F,M,n,r,f,H,reg,hM,hS,hG,rfl,rfl⟩:=h
 rw[Xn8 hs]
 exact callsIn_wide.1 (Kv6 5 (by omega) sd hs b a r F M n f H reg hS hM.ar.le w hM)
theorem Ko6 (w:World) (B1 B2:Nat) (s p:Int) (hs:VV s) (o:QX) (c1:w.cell? ⟨B1,0,none⟩=some (.int .i64 s)) (c2:w.cell? ⟨B2,0,none⟩=some (.int .i64 p)):
  Calls Tryz.prog 169 #[KQ o,.pointer (some ⟨B1,0,none⟩),.pointer (some ⟨B2,0,none⟩)] w fun e w'=>e= .returned (.bool (O3 s p o))∧Below w.heap.size w w':=by
 unfold KQ
 have hA:Below w.heap.size w (w.alloc (.cells #[.int .i64 o.id,.int .i64 o.side,.int .i64 o.kind,.int .i64 o.price,.int .i64 o.qty] 29)):=(Below.refl _ _).alloc (Nat.le_refl _) _
 have k1:=(hA.cell (p:=⟨B1,0,none⟩) (World.block_lt_of_cell? w _ c1)).trans c1
 have k2:=(hA.cell (p:=⟨B2,0,none⟩) (World.block_lt_of_cell? w _ c2)).trans c2
 have HA:=QQ hA
 clear hA c1 c2
 by_cases hk:o.kind=2
 ·have t1:=J4 hk
  have HE:Hid (O3 s p o=true):=QQ (by unfold O3;rw[t1];rfl);clear hk hs;go_enter Tryz.func169,Tryz.ntmps169
  go_wp2;go_ret;exact⟨Q6 (by rw[HE.out]),HA.out⟩
 ·have t1:=UQ hk
  rcases hs with rfl|rfl
  ·have HE:Hid (O3 1 p o=decide (p≤o.price)):=QQ (by unfold O3;rw[t1];simp)
   by_cases hp:p≤o.price
   ·have t4:=J5 hp
    clear hk hp;go_enter Tryz.func169,Tryz.ntmps169
    go_wp2;go_ret;exact⟨Q6 (by rw[HE.out,t4]),HA.out⟩
   ·have t4:=IQ hp
    clear hk hp;go_enter Tryz.func169,Tryz.ntmps169
    go_wp2;go_ret;exact⟨Q6 (by rw[HE.out,t4]),HA.out⟩
  ·have HE:Hid (O3 2 p o=decide (o.price≤p)):=QQ (by unfold O3;rw[t1];simp)
   by_cases hp:o.price≤p
   ·have t4:=J5 hp
    clear hk hp;go_enter Tryz.func169,Tryz.ntmps169
    go_wp2;go_ret;exact⟨Q6 (by rw[HE.out,t4]),HA.out⟩
   ·have t4:=IQ hp
    clear hk hp;go_enter Tryz.func169,Tryz.ntmps169
    go_wp2;go_ret;exact⟨Q6 (by rw[HE.out,t4]),HA.out⟩
structure Jt2 (w wr:World) (A:Option Addr) (c:Nat) (L:List QX) (B1 B2:Nat) (s p:Int):Prop where
 row:QY wr A L.length c 29 5 (QW U7 L)
 c1:wr.cell? ⟨B1,0,none⟩=some (.int .i64 s)
 c2:wr.cell? ⟨B2,0,none⟩=some (.int .i64 p)
 old:Below w.heap.size w wr
theorem Jt2.below {w wr w':World} {A:Option Addr} {c:Nat} {L:List QX} {B1 B2:Nat} {s p:Int} (h:Jt2 w wr A c L B1 B2 s p) (hb:Below wr.heap.size wr w'):Jt2 w w' A c L B1 B2 s p:=
 ⟨h.row.below hb,(hb.cell (p:=⟨B1,0,none⟩) (World.block_lt_of_cell? wr _ h.c1)).trans h.c1,(hb.cell (p:=⟨B2,0,none⟩) (World.block_lt_of_cell? wr _ h.c2)).trans h.c2,h.old.trans (hb.mono h.old.size)⟩
theorem Jn0 {s p:Int} {L:List QX} (h: ∀o∈L,1≤o.qty∧o.qty≤1000000):0≤V8 s p L∧V8 s p L≤1000000*L.length:=by
 unfold V8
 induction L with
 |nil=>simp[Qb4]
 |cons o t ih=>
  have h1:=h o (by simp);have h2:=ih (fun y hy=>h y (by simp[hy]));simp only[Qb4,List.length_cons]
  split<;>omega
theorem Qc6 {w:World} {A:Option Addr} {n c sz:Nat} {t:TypeId} {xs:List Value} (h:QY w A n c t sz xs) (hn:0<n): ∃g,A=some ⟨g,0,none⟩:=by
 rcases h.2 with⟨_,h0⟩|⟨g,cap,cur,hv,_⟩
 ·omega
 ·cases hv;exact⟨g,rfl⟩
theorem Qr1 (w:World) (b:Nat) (G:Nat→Prop) (L1 L2:List QX) (h:Q1 w b G L1 L2) (s p:Int) (hs:VV s):
  Calls Tryz.prog 117 #[.pointer (some ⟨b,0,none⟩),.int .i64 s,.int .i64 p] w fun e w'=>e= .returned (.int .i64 (V8 s p (JY s L1 L2)))∧Below w.heap.size w w':=by
 have hmf: ∀(fn:Fn) (first cap:Array Value) (w:World),(Instr.makeFunc fn first cap).run Tryz.prog w= .ok (.func fn first cap) w:=fun _ _ _ _=>rfl
 have eg:=Go.Proofs.enters_of Tryz.func169 (by kernel_rfl) rfl
 have hl:=h.lists
 obtain⟨L,hL⟩: ∃L,JY s L1 L2=L:=⟨_,rfl⟩
 have hok: ∀o∈L,1≤o.qty∧o.qty≤1000000:=by
  intro o ho;rw[←hL]at ho;have hm:o∈L1++L2:=by
   unfold JY at ho
   split at ho
   ·exact List.mem_append_left _ ho
   ·exact List.mem_append_right _ ho
  exact(hl.ok o hm).2.2.2
 have hlen:L.length≤100:=by
  have h1:=hl.cnt;rw[List.length_append]at h1;rw[←hL];unfold JY
  split<;>omega
 have hA1:Below w.heap.size w (w.alloc (.cells #[.int .i64 s] 3)):=(Below.refl _ w).alloc (Nat.le_refl _) _
 have hA2:Below w.heap.size w ((w.alloc (.cells #[.int .i64 s] 3)).alloc (.cells #[.int .i64 p] 3)):=hA1.alloc (by simp) _
 have hc1:((w.alloc (.cells #[.int .i64 s] 3)).alloc (.cells #[.int .i64 p] 3)).cell? ⟨w.heap.size,0,none⟩=some (.int .i64 s):=QJ.cell (QJ.alloc (QJ.new w 3 #[.int .i64 s]) _) 0
 have hc2:((w.alloc (.cells #[.int .i64 s] 3)).alloc (.cells #[.int .i64 p] 3)).cell? ⟨w.heap.size+1,0,none⟩=some (.int .i64 p):=by
  have:=QJ.cell (QJ.new (w.alloc (.cells #[.int .i64 s] 3)) 3 #[.int .i64 p]) 0;rw[World.size_alloc]at this;exact this
 have HC:=QQ (Qc5 _ b G L1 L2 (h.below hA2) s hs)
 rw[hL]at HC⊢
 have HA2:=QQ hA2
 have Hc1:=QQ hc1
 have Hc2:=QQ hc2
 have HOk:=QQ hok
 have HS:=QQ hs
 clear hA1 hA2 hc1 hc2 h hl hL hs hok
 go_enter Tryz.func117,Tryz.ntmps117
 go_wp2_with fail
 refine HC.out.mono ?_
 rintro e w3 ⟨hb3,A,c,rfl,hr3,-⟩
 have HW:=QQ (show Jt2 w w3 A c L w.heap.size (w.heap.size+1) s p from⟨hr3,(hb3.cell (p:=⟨w.heap.size,0,none⟩) (World.block_lt_of_cell? _ _ Hc1.out)).trans Hc1.out,(hb3.cell (p:=⟨w.heap.size+1,0,none⟩) (World.block_lt_of_cell? _ _ Hc2.out)).trans Hc2.out,HA2.out.trans (hb3.mono HA2.out.size)⟩)
 obtain⟨n,hn⟩: ∃n,L.length=n:=⟨_,rfl⟩
 rw[hn]
 have Hn:=QQ hn
 have hn100:n≤100:=by omega
 clear hb3 hr3 HC HA2 Hc1 Hc2 hlen hn
 go_wp2_with fail
 go_loopg [7,22] n (fun g s7 s22 wr=> ∃i:Nat,i≤n∧g=n-i∧s22= .int .i64 i∧s7= .int .i64 (V8 s p (L.take i))∧Hid (Jt2 w wr A c L w.heap.size (w.heap.size+1) s p))
 case atStart=>exact⟨0,Nat.zero_le _,rfl,rfl,rfl,HW⟩
 case round=>
  obtain⟨i,hi,rfl,rfl,rfl,HR⟩:=hrel;clear HW
  by_cases hlt:i<n
  ·have hil:i<L.length:=by rw[Hn.out];exact hlt
   obtain⟨g,hg⟩:=Qc6 HR.out.row (by omega);subst hg;obtain⟨x0,x1,x2,x3,x4⟩:=Qz7 HR.out.row hil;obtain⟨o,ho⟩: ∃o,L[i]=o:=⟨_,rfl⟩;have hoq:=HOk.out o (by rw[←ho];exact List.getElem_mem _);rw[ho]at x0 x1 x2 x3 x4;have Ht:=QQ (show V8 s p (L.take (i+1))=V8 s p (L.take i)+ (if O3 s p o=true then o.qty else 0) by
    rw[List.take_succ_eq_append_getElem hil,Xg5,ho];unfold V8;simp only[Qb4];omega)
   have hbd:=Jn0 (s:=s) (p:=p) (fun y hy=>HOk.out y (List.mem_of_mem_take hy): ∀y∈L.take i,_);rw[List.length_take,Hn.out,Nat.min_eq_left (by omega)]at hbd;obtain⟨acc,hacc⟩: ∃acc,V8 s p (L.take i)=acc:=⟨_,rfl⟩;rw[hacc]at Ht hbd⊢;have i1:RowKit.wrap64 (acc+o.qty)=acc+o.qty:=by unfold RowKit.wrap64;omega
   have hbx:Below wr.heap.size wr (wr.alloc (.cells #[.int .i64 o.id,.int .i64 o.side,.int .i64 o.kind,.int .i64 o.price,.int .i64 o.qty] 29)):=(Below.refl _ _).alloc (Nat.le_refl _) _;have hW2:=HR.out.below hbx;have hcall:=Ko6 _ w.heap.size (w.heap.size+1) s p HS.out o hW2.c1 hW2.c2;unfold KQ at hcall;have HC:=QQ hcall;have HBX:=QQ (QJ.new wr 29 #[.int .i64 o.id,.int .i64 o.side,.int .i64 o.kind,.int .i64 o.price,.int .i64 o.qty]);have HW2:=QQ hW2;have hltz:(i:Int)< (n:Int):=by omega
   have hi7:(0:Int)≤(i:Int):=by omega
   clear hcall hW2 hbx ho hacc;go_wp2_with fail
   refine HC.out.mono ?_;rintro e w5 ⟨rfl,hb5⟩;have hbx5:=QJ.keep HBX.out hb5;have z4:w5.cell? ⟨wr.heap.size,4,none⟩=some (.int .i64 o.qty):=by rw[QJ.cell hbx5];rfl
   have HW5:=QQ (HW2.out.below hb5);obtain⟨q,hq⟩: ∃q,O3 s p o=q:=⟨_,rfl⟩;rw[hq]at Ht⊢;clear hbx5 hb5 HC HW2 HBX HR x0 x1 x2 x3 x4 hq
   cases q with
   |true=>
    have Hs:=QQ (show acc+o.qty=V8 s p (L.take (i+1)) by rw[Ht.out,if_pos rfl]);go_wp2_with fail
    go_roundg (n- (i+1))
    case measure=>omega
    case rel=>exact⟨i+1,by omega,rfl,by go_num,by rw[←Hs.out],HW5⟩
   |false=>
    have Hs:=QQ (show acc=V8 s p (L.take (i+1)) by rw[Ht.out,if_neg (by decide)];omega);go_wp2_with fail
    go_roundg (n- (i+1))
    case measure=>omega
    case rel=>exact⟨i+1,by omega,rfl,by go_num,by rw[←Hs.out],HW5⟩
  ·obtain rfl:i=n:=by omega
   have hltz: ¬(i:Int)< (i:Int):=by omega
   have hfull:L.take i=L:=List.take_of_length_le (by rw[Hn.out];exact Nat.le_refl _);rw[hfull];have HO:=QQ HR.out.old;clear HR;go_wp2_with fail
   go_ret;exact⟨rfl,HO.out⟩
def Qg2 (id n:Int) (y:HO):HO:=if y.2.id=id then(y.1,U9 y.2 n)else y
def QG.cut (q:QG) (id n:Int):QG:=⟨q.price,q.A,q.c,q.os.map (Qg2 id n)⟩
def HS.cut (h:HS) (id n:Int):HS:=⟨h.mA,h.mc,h.qA,h.qc,h.ms.map (Qg2 id n),h.qs.map fun q=>q.cut id n⟩
section
variable {id k:Int}
theorem Ko7 (y:HO):(Qg2 id k y).1=y.1:=by unfold Qg2;split<;>rfl
theorem Jk1 (y:HO):(Qg2 id k y).2.id=y.2.id∧(Qg2 id k y).2.side=y.2.side∧(Qg2 id k y).2.kind=y.2.kind∧(Qg2 id k y).2.price=y.2.price:=by unfold Qg2;split<;>exact⟨rfl,rfl,rfl,rfl⟩
theorem Xw1 (y:HO):X7 (Qg2 id k y)=X7 y:=by
 obtain⟨_,h2,h3,h4⟩:=Jk1 (id:=id) (k:=k) y
 unfold X7
 rw[Ko7,h2,h3,h4]
theorem Xn9 (l:List HO):J9 (l.map (Qg2 id k))=J9 l:=by
 unfold J9
 rw[List.map_map]
 exact List.map_congr_left fun y _=>Ko7 y
theorem Kc7 (q:QG):(q.cut id k).que=q.que:=by unfold QG.cut QG.que;simp
theorem Ko8 (l:List HO):IW (l.map (Qg2 id k))=Xl7 (IW l) id k:=by
 unfold IW Xl7
 rw[List.map_map,List.map_map]
 refine List.map_congr_left fun y _=> ?_
 show(Qg2 id k y).2=if y.2.id=id then U9 y.2 k else y.2
 unfold Qg2
 split<;>rfl
theorem Ko9 (qs:List QG):IZ (qs.map fun q=>q.cut id k)=(IZ qs).map (Qg2 id k):=by
 induction qs with
 |nil=>rfl
 |cons q qs ih=>
  have e1:IZ (q::qs)=q.os++IZ qs:=rfl;have e2:IZ (List.map (fun q=>q.cut id k) (q::qs))=q.os.map (Qg2 id k)++IZ (qs.map fun q=>q.cut id k):=rfl;rw[e1,e2,ih,List.map_append]
theorem Xg6 (h:HS):(h.cut id k).all=h.all.map (Qg2 id k):=by
 show V4 _ _=List.map _ (V4 h.ms h.qs)
 unfold V4 HS.cut
 dsimp only
 rw[Ko9,List.map_append]
theorem Ky1 (h:HS):(h.cut id k).L=Xl7 h.L id k:=by
 unfold HS.L
 rw[Xg6,Ko8]
def Qm6 (H:Int→HS) (id k:Int):Int→HS:=fun s=>(H s).cut id k
theorem Jg5 (H:Int→HS):X5 (Qm6 H id k)=(X5 H).map (Qg2 id k):=by
 unfold X5 Qm6
 rw[Xg6,Xg6,List.map_append]
variable {w w':World} {b a n r:Nat} {F:Nat→Prop} {M:Int→Int→Option QX} {f:Int→Option Value} {H:Int→HS} {reg:Nat→Int}
theorem Qs6.recut {s:Int} {h:HS} (X:Qs6 w reg s h):Qs6 w reg s (h.cut id k):=by
 refine⟨?_, ?_, ?_,X.gm,X.gq, ?_, ?_⟩
 ·show QY w h.mA (h.ms.map (Qg2 id k)).length h.mc _ 2 (QW U3 (J9 (h.ms.map (Qg2 id k))))
  rw[List.length_map,Xn9];exact X.rm
 ·show QY w h.qA (h.qs.map fun q=>q.cut id k).length h.qc _ 2 (QW OX ((h.qs.map fun q=>q.cut id k).map QG.que))
  rw[List.length_map,List.map_map];have e:(QG.que∘fun q=>q.cut id k)=QG.que:=by funext q;exact Kc7 q
  rw[e];exact X.rq
 ·intro q hq
  obtain⟨q0,hq0,rfl⟩:=List.mem_map.1 hq;show QY w q0.A (q0.os.map (Qg2 id k)).length q0.c _ 2 (QW U3 (J9 (q0.os.map (Qg2 id k))));rw[List.length_map,Xn9];exact X.rl q0 hq0
 ·intro q hq
  obtain⟨q0,hq0,rfl⟩:=List.mem_map.1 hq;exact X.gl q0 hq0
 ·show((h.qs.map fun q=>q.cut id k).filterMap fun q=>QZ q.A).Nodup
  rw[List.filterMap_map];exact X.nd
theorem Kc8 {h:HS} {i:Nat}:HFp (h.cut id k) i↔HFp h i:=by
 unfold HFp HS.cut
 dsimp only
 constructor
 ·rintro(h1|h1|⟨q,hq,h1⟩)
  ·exact .inl h1
  ·exact .inr (.inl h1)
  ·obtain⟨q0,hq0,rfl⟩:=List.mem_map.1 hq
   exact .inr (.inr ⟨q0,hq0,h1⟩)
 ·rintro(h1|h1|⟨q,hq,h1⟩)
  ·exact .inl h1
  ·exact .inr (.inl h1)
  ·exact .inr (.inr ⟨q.cut id k,List.mem_map.2 ⟨q,hq,rfl⟩,h1⟩)
theorem Kv7 {i:Nat}:U1 b r F (Qm6 H id k) i↔U1 b r F H i:=by
 unfold U1 Qm6
 rw[Kc8,Kc8]
theorem XX.recut (h:XX w b a F M n r f H reg):XX w b a F M n r f (Qm6 H id k) reg:=by
 refine⟨?_,h.ar,h.mp,fun s hs=>(h.hx s hs).recut,h.gb,h.gr,h.gF⟩
 have e:IK a r (Qm6 H id k)=IK a r H:=by
  unfold IK Qm6 HS.cut;simp
 rw[e]
 exact h.blk
theorem KY.cut (S:KY M n f H) {x:HO} (hx:x∈X5 H) (h1:1≤k) (h2:k<x.2.qty):KY (Z8 M x.1.1 x.1.2 (some (U9 x.2 k))) n f (Qm6 H x.2.id k):=by
 have hmem: ∀y,y∈X5 (Qm6 H x.2.id k)→ ∃y0∈X5 H,y=Qg2 x.2.id k y0:=by
  intro y hy;rw[Jg5]at hy;obtain⟨y0,h,rfl⟩:=List.mem_map.1 hy;exact⟨y0,h,rfl⟩
 refine⟨fun s hs=> ?_,fun s hs=> ?_, ?_, ?_, ?_, ?_, ?_, ?_⟩
 ·have X:=S.is s hs
  refine⟨?_, ?_, ?_⟩
  ·intro y hy
   obtain⟨y0,h,rfl⟩:=List.mem_map.1 hy;obtain⟨_,e2,e3,_⟩:=Jk1 (id:=x.2.id) (k:=k) y0;rw[e2,e3];exact X.mkt y0 h
  ·intro q hq y hy
   obtain⟨q0,hq0,rfl⟩:=List.mem_map.1 hq;obtain⟨y0,h,rfl⟩:=List.mem_map.1 (show y∈q0.os.map _ from hy);obtain⟨_,e2,e3,e4⟩:=Jk1 (id:=x.2.id) (k:=k) y0;rw[e2,e3,e4];exact X.qk q0 hq0 y0 h
  ·show Qq3 s (((H s).qs.map fun q=>q.cut x.2.id k).map QG.que)
   rw[List.map_map];have e:(QG.que∘fun q=>q.cut x.2.id k)=QG.que:=by funext q;exact Kc7 q
   rw[e];exact X.rank
 ·intro q hq
  obtain⟨q0,hq0,rfl⟩:=List.mem_map.1 hq;intro e;exact S.ne s hs q0 hq0 (List.map_eq_nil_iff.1 (show q0.os.map _= []from e))
 ·intro y hy
  obtain⟨y0,h,rfl⟩:=hmem y hy
  by_cases e:y0.2.id=x.2.id
  ·have e':=S.same_id h hx e
   subst e';have ec:Qg2 y0.2.id k y0=(y0.1,U9 y0.2 k):=if_pos rfl;rw[ec];unfold Z8;rw[if_pos ⟨rfl,rfl⟩]
  ·have ec:Qg2 x.2.id k y0=y0:=if_neg e
   rw[ec];unfold Z8;rw[if_neg]
   ·exact S.hM y0 h
   ·rintro⟨h3,h4⟩
    have e':=S.same_h h hx (Prod.ext h3 h4);exact e (by rw[e'])
 ·intro y hy
  obtain⟨y0,h,rfl⟩:=hmem y hy;rw[Xw1,(Jk1 y0).1];exact S.hf y0 h
 ·intro i v hv
  obtain⟨y,hy,e⟩:=S.hk i v hv;refine⟨Qg2 x.2.id k y, ?_,by rw[(Jk1 y).1];exact e⟩;rw[Jg5];exact List.mem_map.2 ⟨y,hy,rfl⟩
 ·rw[Jg5,List.map_map]
  have e:((fun x:HO=>x.2.id)∘Qg2 x.2.id k)=fun x:HO=>x.2.id:=by funext y;exact(Jk1 y).1
  rw[e];exact S.ids
 ·rw[Jg5,List.length_map]
  exact S.cnt
 ·intro y hy
  obtain⟨y0,h,rfl⟩:=hmem y hy;have ok:=S.ok y0 h
  by_cases e:y0.2.id=x.2.id
  ·have e':=S.same_id h hx e
   subst e';have ec:Qg2 y0.2.id k y0=(y0.1,U9 y0.2 k):=if_pos rfl;rw[ec];obtain⟨⟨f1,f2,f3,f4,f5⟩,o1,o2,o3⟩:=ok;unfold U9;refine⟨⟨f1,f2,f3,f4, ?_⟩,o1,o2, ?_⟩
   ·unfold V3 at*;dsimp only;omega
   ·dsimp only;omega
  ·have ec:Qg2 x.2.id k y0=y0:=if_neg e
   rw[ec];exact ok
end
def Qf6 (L:List QX) (o:QX) (n:Int):List QX:=if n=o.qty then O7 L o.id else Xl7 L o.id n
theorem Xa5 {x:QX} {t:List QX} {n:Int} (h: ∀y∈t,y.id≠x.id):Qf6 (x::t) x n=if n=x.qty then t else U9 x n::t:=by
 unfold Qf6
 split
 ·unfold O7
  rw[List.filter_cons];simp;intro y hy;exact h y hy
 ·unfold Xl7
  rw[List.map_cons,if_pos rfl]
  congr 1
  refine(List.map_congr_left fun y hy=> ?_).trans (List.map_id _);rw[if_neg (h y hy)]
  rfl
theorem Jd4 {x:QX} {L:List QX} {n:Int} (h: ∀y∈L,y.id≠x.id):Qf6 L x n=L:=by
 unfold Qf6
 split
 ·unfold O7
  rw[List.filter_eq_self];intro y hy;simpa using h y hy
 ·unfold Xl7
  refine(List.map_congr_left fun y hy=> ?_).trans (List.map_id _);rw[if_neg (h y hy)]
  rfl
def Jt3 (L1 L2:List QX) (id n:Int):Int:=
 match Qb3 (L1++L2) id with
 |none=>7
 |some o=>if n<1∨o.qty<n then 2 else 0
def Kv8 (w:World) (b:Nat) (G:Nat→Prop) (L1 L2:List QX) (id n:Int) (e:Ending) (w':World):Prop:=
 (Jt3 L1 L2 id n≠0∧e= .returned (YV (Jt3 L1 L2 id n))∧Below w.heap.size w w')∨
 (∃o,Qb3 (L1++L2) id=some o∧1≤n∧n≤o.qty∧e= .returned (YV 0)∧Qj9 w w' b G (Qf6 L1 o n) (Qf6 L2 o n))
def Kc9:Prop:= ∀(w:World) (b:Nat) (G:Nat→Prop) (L1 L2:List QX),Q1 w b G L1 L2→ ∀id n:Int,V3 n→Calls Tryz.prog 119 #[.pointer (some ⟨b,0,none⟩),.int .i64 id,.int .i64 n] w (Kv8 w b G L1 L2 id n)
end Go.Proofs.YtnlngicnfegjgaaGreatDoor
