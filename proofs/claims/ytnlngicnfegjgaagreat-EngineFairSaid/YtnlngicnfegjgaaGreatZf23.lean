/- Contracts and walks that the law's proof needs. -/
import Derived.RangeFuncBox
import Derived.Maps.AppendAt
import Derived.Test.YtnlngicnfegjgaaGreatZf20
import Derived.Test.YtnlngicnfegjgaaGreatZf1
import Derived.Laws.Rows
import Derived.WalkKit
import Derived.WalkLawsBesides
import Derived.WalkSpells
import Derived.Test.YtnlngicnfegjgaaGreatRows
import Derived.Test.YtnlngicnfegjgaaGreatZf19
set_option linter.unusedVariables false
set_option maxRecDepth 100000
set_option maxHeartbeats 8000000
namespace Go.Proofs.YtnlngicnfegjgaaGreat
open Go.RowKit
attribute [local go_sem] Oper.semAt_some
theorem Jt0 (sd:Int) (hs:VV sd) (n:Nat) (hn:2≤n) (B1 B2 b a r:Nat) (S:Nat→Prop) (F:Nat→Prop) (M:Int→Int→Option QX) (N:Nat) (f:Int→Option Value) (H:Int→HS) (reg:Nat→Int) (hS:KY M N f H) (hN:N≤100)
  (w:World) (hM:XX w b a F M N r f H reg) (hfp: ∀i,U0 b r F H i→ ¬S i) (hs1: ¬S B1) (hB1:w.cell? ⟨B1,0,none⟩=some (.pointer (some ⟨b,0,none⟩))) (hB2:w.cell? ⟨B2,0,none⟩=some (.int .i64 sd)):
  SeqStopsK Fence.wide n Tryz.prog 96 #[.pointer (some ⟨B1,0,none⟩),.pointer (some ⟨B2,0,none⟩)] (fun x:QX=> #[KQ x]) (QK S) (fun ys=>ys=(H sd).L) (fun pre=>pre <+: (H sd).L) (H sd).L.length w:=by
 intro l J Jx W hW hJ hJx hY h0
 have hb1:=World.block_lt_of_cell? w _ hB1
 have hb2:=World.block_lt_of_cell? w _ hB2
 have c1:=(hW.cell (p:=⟨B1,0,none⟩) hb1).trans hB1
 have c2:=(hW.cell (p:=⟨B2,0,none⟩) hb2).trans hB2
 rcases hs with rfl|rfl
 ·exact Kn0 n hn l B1 B2 b a r S F M N f H reg hS hN J Jx (fun pre W W' hj hb=>Jf8 hJ hj hb) hY W (hM.below hW) hfp hs1 c1 c2 h0
 ·exact Kn1 n hn l B1 B2 b a r S F M N f H reg hS hN J Jx (fun pre W W' hj hb=>Jf8 hJ hj hb) hY W (hM.below hW) hfp hs1 c1 c2 h0
theorem Xo2 {S:Nat→Prop} {w:World} (hS: ∀i,w.heap.size≤i→S i) (W:World) (l:Nat) (o o':Obj) (hl:w.heap.size≤l) (h1:W.heap[l]?=some o) (h2:o.isCells=false) (h3:o.isWalk=false):QK S W (W.putObj l o'):=
 ⟨rfl,rfl,rfl,by simp[World.putObj],fun k hk hn=>World.putObj_heap_other (fun e=>hn (hS k (by omega)))⟩
theorem Xa7 (n:Nat) (hn:1≤n) (b:Nat) (sd:Int) (w:World):
  CallsIn Fence.wide n Tryz.prog 65 #[.pointer (some ⟨b,0,none⟩),.int .i64 sd] w fun e w'=>
   e= .returned (.func (.func 96) #[] #[.pointer (some ⟨w.heap.size,0,none⟩),.pointer (some ⟨w.heap.size+1,0,none⟩)])∧w'=(w.alloc (.cells #[.pointer (some ⟨b,0,none⟩)] 69)).alloc (.cells #[.int .i64 sd] 3):=by
 refine callsIn_of_wp Tryz.func65 rfl trivial ?_ rfl
 simp only[Tryz.ntmps65,List.size_toArray,List.length_cons,List.length_nil,Nat.reduceAdd,Nat.reduceSub,Array.replicate_succ,Array.replicate_zero,List.push_toArray,List.append_toArray,List.nil_append,List.cons_append]
 gi_wp2
 go_ret
 exact⟨rfl,rfl⟩
theorem Qs8:(Tryz.prog.info? 29).map (fun i=>(i.zero,i.size,i.bytes))=some (some (.agg #[.int .i64 0,.int .i64 0,.int .i64 0,.int .i64 0,.int .i64 0]),5,40):=by kernel_rfl
theorem Jt1 {W:World} {base base':Nat} {e:TypeId} {size:Nat} {v:Value} {k:Nat} {xs:List Value} (hb:base'≤base) (h:W.ownsRow base e size v k xs):W.ownsRow base' e size v k xs:=by
 refine⟨h.1, ?_⟩
 rcases h.2 with h'|⟨g,cap,cur,h1,h2,h3⟩
 ·exact .inl h'
 ·exact .inr ⟨g,cap,cur,h1,Nat.le_trans hb h2,h3⟩
theorem Kh0 {W:World} {base:Nat} {e:TypeId} {size:Nat} {v:Value} {k:Nat} {xs:List Value} (h:W.ownsRow base e size v k xs): ∃A c,v= .slice A k c∧ ∀g,QV A=some g→base≤g:=by
 rcases h.2 with⟨h1,h2⟩|⟨g,cap,cur,h1,h2,h3⟩
 ·exact⟨none,0,by rw[h1,h2],fun g e=>by cases e⟩
 ·exact⟨_,cap,h1,fun g' e=>by cases e;exact h2⟩
theorem Kz5 {M:Int→Int→Option QX} {n:Nat} {f:Int→Option Value} {H:Int→HS} {s:Int} (hs:VV s) (hS:KY M n f H) (h2:n≤100):(H s).L.length≤100:=by
 have h1:=hS.cnt
 unfold HS.L IW
 rw[List.length_map]
 unfold X4 at h1
 rw[List.length_append]at h1
 rcases hs with rfl|rfl<;>omega
theorem Kt5 (n:Nat) (hn:5≤n) (sd:Int) (hs:VV sd) (b a r:Nat) (F:Nat→Prop) (M:Int→Int→Option QX) (N:Nat) (f:Int→Option Value) (H:Int→HS) (reg:Nat→Int) (hS:KY M N f H) (hN:N≤100) (w:World) (hM:XX w b a F M N r f H reg):
  CallsIn Fence.wide n Tryz.prog 47 #[.pointer (some ⟨b,0,none⟩),.int .i64 sd] w fun e w'=>Below w.heap.size w w'∧ ∃A c,e= .returned (.tuple #[.slice A (H sd).L.length c,.nilIface])∧QY w' A (H sd).L.length c 29 5 (QW I1 (H sd).L)∧ ∀g,QV A=some g→w.heap.size≤g:=by
 have h1:1≤n:=by omega
 have h2:1≤n-1:=by omega
 have hw44:Fence.wide.fn 65:=trivial
 obtain⟨i0,hi,hz0,hz1,hz2⟩:=info_parts Qs8
 have HM:=QQ hM
 have HSm:=QQ hS
 have HN:=QQ hN
 clear hM hS hN
 obtain⟨L,hLe⟩: ∃L,(H sd).L=L:=⟨_,rfl⟩
 rw[hLe]
 refine callsIn_of_wp_marks Tryz.func47 rfl trivial ?_ rfl
 simp only[Tryz.ntmps47,List.size_toArray,List.length_cons,List.length_nil,Nat.reduceAdd,Nat.reduceSub,Array.replicate_succ,Array.replicate_zero,List.push_toArray,List.append_toArray,List.nil_append,List.cons_append]
 gi_upto_region 1 with fail
 gi_cut [13]from 8 (fun s13 wx=>s13= .bool false∧wx=w)
 case first=>
  rcases hs with rfl|rfl
  all_goals
   gi_wp2
   gi_meet
   exact⟨rfl,rfl⟩
 case rest=>
  obtain⟨rfl,rfl⟩:=hcut
  gi_wp2_with (gi_at_call 65;refine(Xa7 _ (by omega) b _ _).mono ?_;rintro e w' ⟨rfl,rfl⟩)
  have bO:=((Boxed.new wc 75 (.slice none 0 0)).alloc (.cells #[.pointer (some ⟨b,0,none⟩)] 69)).alloc (.cells #[.int .i64 sd] 3);have bB:=(Boxed.new (wc.alloc (.cells #[.slice none 0 0] 75)) 69 (.pointer (some ⟨b,0,none⟩))).alloc (.cells #[.int .i64 sd] 3);have bS:=Boxed.new ((wc.alloc (.cells #[.slice none 0 0] 75)).alloc (.cells #[.pointer (some ⟨b,0,none⟩)] 69)) 3 (.int .i64 sd);simp only[World.size_alloc]at bB bS;have hB0:Below wc.heap.size wc (((wc.alloc (.cells #[.slice none 0 0] 75)).alloc (.cells #[.pointer (some ⟨b,0,none⟩)] 69)).alloc (.cells #[.int .i64 sd] 3)):=(((Below.refl _ wc).alloc (Nat.le_refl _) _).alloc (by simp) _).alloc (by simp;omega) _;have hsz:(((wc.alloc (.cells #[.slice none 0 0] 75)).alloc (.cells #[.pointer (some ⟨b,0,none⟩)] 69)).alloc (.cells #[.int .i64 sd] 3)).heap.size=wc.heap.size+3:=by simp
  obtain⟨W0,hW0⟩: ∃W0,((wc.alloc (.cells #[.slice none 0 0] 75)).alloc (.cells #[.pointer (some ⟨b,0,none⟩)] 69)).alloc (.cells #[.int .i64 sd] 3)=W0:=⟨_,rfl⟩;rw[hW0]at bO bB bS hB0 hsz⊢;clear hW0;have hL:(H sd).L.length≤100:=Kz5 hs HSm.out HN.out;have hseq:=Jt0 sd hs (n-1) (by omega) (wc.heap.size+1) (wc.heap.size+1+1) b a r (fun i=>i=wc.heap.size∨W0.heap.size≤i) F M N f H reg HSm.out HN.out W0 (HM.out.below hB0)
   (fun i hi e=>by have:=HM.out.fp hi;rcases e with e|e<;>omega) (fun e=>by rcases e with e|e<;>omega) bB.cell bS.cell
  rw[hLe]at hL hseq;have HSq:=QQ hseq;clear hseq;refine wpIn_rangeFunc_ownH rfl h1 (gf:=96) (lb:= #[.pointer (some ⟨wc.heap.size+1,0,none⟩),.pointer (some ⟨wc.heap.size+1+1,0,none⟩)]) rfl trivial (enters_of Tryz.func96 (by kernel_rfl) rfl)
   HSq.out (fun h k=>h.trans k (fun i h=> .inl h)) (Xo2 (fun i hi=> .inr hi)) (Below.refl _ _) (fun _=>rfl)
   (fun pre W=>(∃v,Boxed W wc.heap.size 75 v∧W.ownsRow W0.heap.size 29 5 v pre.length (QW I1 pre)∧True)∧(Below wc.heap.size wc W∧W0.heap.size≤W.heap.size))
   (fun _ _ _=>False)
   (OwnFrom.and (Own.from (holdsRow_own W0.heap.size wc.heap.size 75 29 5 (fun pre:List QX=>pre.length) (fun pre=>QW I1 pre) (fun _ _=>True)) _) (OwnFrom.and (ownFrom_below (Nat.le_refl _) (by omega)) (fun _ X Y row hs hg hr=>Nat.le_trans hs hg.size)))
   (fun _ _ _ _ _ hs _ _=>hs)
   ⟨⟨_,bO,⟨rfl,.inl ⟨rfl,rfl⟩⟩,trivial⟩,hB0,Nat.le_refl _⟩
   (fun x a' W=> ∃Bx,W0.heap.size≤Bx∧QJ W Bx 29 (KZ x)∧a'= {tmps:= #[.pointer (some ⟨b,0,none⟩),.int .i64 sd,undef,undef,.slice none 0 0,.nilIface,.pointer (some ⟨wc.heap.size,0,none⟩),.pointer (some ⟨Bx,0,none⟩),u8,u9,u10,u11,u12,.bool false,u14,.pointer (some ⟨b,0,none⟩),.int .i64 sd,.func (.func 96) #[] #[.pointer (some ⟨wc.heap.size+1,0,none⟩),.pointer (some ⟨wc.heap.size+1+1,0,none⟩)],KQ x,u19,u20,u21,u22,u23],defers:= []})
   (fun x a' _ X Y row hs hg hr=>by
    obtain⟨Bx,h1,h2,h3⟩:=hs;exact⟨Bx,h1,h2.grown hg (fun e=>by obtain⟨_,o,ho,hc⟩:=hr Bx e.symm;rw[show X.heap[Bx]?=_ from h2]at ho;cases ho;cases hc),h3⟩)
   ?assign ?body ?done ?stop
  case assign=>
   rintro l pre x W K ⟨⟨v,hv,hrow,_⟩,hB1,hsW⟩ hK;obtain⟨id,side,kind,price,qty⟩:=x;simp only[KQ]
   gi_wp2
   exact hK _ _ ((KeepsOthers.alloc _ _).from _) (QK.of_below ((Below.refl _ W).alloc (Nat.le_refl _) _) _)
    ⟨⟨v,hv.alloc _,hrow.alloc _,trivial⟩,hB1.alloc hB1.size _,by simp;omega⟩ ⟨W.heap.size,hsW,QJ.new _ _ _,rfl⟩
  case body=>
   rintro l pre x a' W hl ⟨rc,hr⟩ ⟨⟨v,hv,hrow,_⟩,hB1,hsW⟩ ⟨Bx,hBx,bX,rfl⟩ hlt;have cO:=hv.cell;obtain⟨x0,x1,x2,x3,x4⟩:=JW bX;have h1':1≤n-1-1:=by omega
   have hvl:=hv.lt;have hbl:=hB1.size;have hsz':wc.heap.size≤W0.heap.size:=by omega
   gi_wp2_with (gi_at_builtin;refine wpListIn_append_own _ rfl _ _ 75 rfl W0.heap.size 29 i0 _ 5 40 Tryz.underlying75 hi hz0 hz1 hz2 rfl (by decide) _ _ _ rfl (hrow.alloc _) ⟨W.heap.size,0,none⟩ 1 1 (I1 x) rfl rfl (World.news_of_block (cs:=KZ x) (t:=29) (fr:=(0,0)) (heap_alloc_new W _)) (Je0 _) (by unfold maxLen;omega) (by omega) (by simp;omega) ?_;intro v' w1 hown' hgrow _;have hv1:Boxed w1 wc.heap.size 75 v:=(hv.alloc _).kept hgrow (hv.not_row (by decide) hrow);have c1:=hv1.cell;have f1:=hv1.frozen;obtain⟨gg,cap,rfl⟩:=ownsRow_succ hown';go_frame)
   have hg:(W.alloc (.cells (KZ x) 29)).grownBy w1 v.ownBlock:=hgrow;obtain⟨-,hv2,-,hk2,hb2⟩:=hv.appended (by decide) (Jt1 hsz' hrow) hB1.size (Nat.le_refl _) (Jt1 hsz' hown') hg;have hown2:w1.ownsRow W0.heap.size 29 5 (.slice (some ⟨gg,0,none⟩) (pre.length+1) cap) (pre.length+1) (QW I1 pre++I1 x):=hown';refine⟨hk2.from _,⟨hb2.os,hb2.tape,hb2.output,Nat.le_trans (by simp) (Nat.le_trans hg.size (by simp[World.setCell])),fun k hk hn=> ?_⟩,⟨_,hv2, ?_,trivial⟩,hB1.trans hb2,Nat.le_trans hsW (Nat.le_trans (by simp) (Nat.le_trans hg.size (by simp[World.setCell])))⟩
   ·refine(Below.heap_setCell w1 _ _ k (fun e=>hn (.inl e))).trans ((hg.block k (by simp;omega) (fun e=> ?_)).trans (Below.heap_alloc W _ k hk))
    exact hn (.inr (hrow.lt k e.symm).1)
   ·rw[List.length_append,Qa5]
    exact hown2.kept (grownBy_setCell' w1 _ _) (.inr (hv1.not_row (by decide) hown2).symm)
  case done=>
   rintro D zs W hD rfl ⟨⟨v,hv,hrow,_⟩,hB1,hsW⟩ hK;have cO:=hv.cell
   gi_wp2
   refine⟨by simp,.inl ⟨_,_,rfl,run_takeDeferred hK, ?_⟩⟩;obtain⟨A,c,rfl,hA⟩:=Kh0 hrow;refine⟨_,results_tmp2 rfl _ _ _, ?_,A,c,rfl,Jt1 (Nat.zero_le _) (ownsRow_putObj hrow _ hK rfl),fun g e=> ?_⟩
   ·exact hB1.trans (belowK_b (w:=wc) (Nat.le_refl _) W D _ _ (by omega) hK rfl rfl)
   ·have:=hA g e;omega
  case stop=>
   rintro D c pre W _ _ h _;exact h.elim
attribute [local go_sem] Oper.semAt_some
def Ka8 (L:List QX):QX:=L.headD noO
def Ka9:List QX→Int
 | []=>8
 |_::_=>0
theorem Jo4 {P:Program} {fn:Func} {p q:Tmp} {ty ty2:TypeId} (h:fn.results= #[.cell p ty,.cell q ty2]) (tmps:Array Value) (w:World) (g g2:Nat) (t:TypeId) (cs:Array Value) (v:Value) (fr:Nat×Nat) (d:TypeDesc)
  (hp:tmps.getD p undef= .pointer (some ⟨g,0,none⟩)) (hq:tmps.getD q undef= .pointer (some ⟨g2,0,none⟩)) (hg:w.heap[g]?=some (.cells cs t fr))
  (hu:P.underlying ty=some d) (hd:(match d with| .struct _| .array _ _=>true|_=>false)=true) (hi:(P.info? ty).map (·.size)=some cs.size)
  (h2:(loadVar ty2 ⟨g2,0,none⟩).run P w= .ok v w):(results fn tmps).run P w= .ok (.tuple #[.agg cs,v]) w:=by
 have hp':tmps[p]?.getD undef= .pointer (some ⟨g,0,none⟩):=by simpa using hp
 have hq':tmps[q]?.getD undef= .pointer (some ⟨g2,0,none⟩):=by simpa using hq
 simp[results,h,hp',hq',asAddr,run_loadVar_row w g t ty cs fr d hg hu hd hi,h2,Sem.run_bind,Result.andThen]
theorem Ko2 {w:World} {g:Nat} {v:Value} (h:w.cell? ⟨g,0,none⟩=some v):(loadVar 35 ⟨g,0,none⟩).run Tryz.prog w= .ok v w:=by
 simp[loadVar,go_sem,h]
theorem Jg3 {tmps:Array Value} {W:World} {g:Nat} {o:QX} {v:Value} (h4:tmps.getD 4 undef= .pointer (some ⟨g,0,none⟩)) (h5:tmps.getD 5 undef= .pointer (some ⟨g+1,0,none⟩)) (hb:QJ W g 29 (KZ o)) (he:Boxed W (g+1) 35 v):
  (results Tryz.f63 tmps).run Tryz.prog W= .ok (.tuple #[KQ o,v]) W:=
 Jo4 Tryz.results63 tmps W g (g+1) 29 (KZ o) v (0,0) _ h4 h5 hb Tryz.underlying29 rfl (by show(Tryz.prog.info? 29).map (·.size)=some 5;kernel_rfl) (Ko2 he.cell)
def Kx1 (w:World) (c:Code) (pre:List QX) (W:World):Prop:=c= .ret∧(∃x,pre= [x]∧QJ W w.heap.size 29 (KZ x))∧Boxed W (w.heap.size+1) 35 .nilIface∧Below w.heap.size w W
def Ky6 (w:World) (pre:List QX) (W:World):Prop:=pre= []∧QJ W w.heap.size 29 (KZ noO)∧Boxed W (w.heap.size+1) 35 .nilIface∧Below w.heap.size w W
theorem Qi9 {X Y:World} {g B:Nat} {t:TypeId} {cs:Array Value} {row:Option Nat} (h:QJ X g t cs) (hg:X.grownBy Y row) (hr: ∀r,row=some r→B≤r∧ ∃o:Obj,X.heap[r]?=some o∧o.isCells=false):QJ Y g t cs:=
 h.grown hg (fun e=>by obtain⟨_,o,ho,hc⟩:=hr g e.symm;rw[show X.heap[g]?=_ from h]at ho;cases ho;cases hc)
theorem Xo3 {W:World} {g:Nat} {o o':QX} {v v':Value} (hX:QJ W g 29 (KZ o)) (hE:Boxed W (g+1) 35 v) (W':World)
  (e:W'=(((((W.setCell ⟨g,0,none⟩ (.int .i64 o'.id)).setCell ⟨g,1,none⟩ (.int .i64 o'.side)).setCell ⟨g,2,none⟩ (.int .i64 o'.kind)).setCell ⟨g,3,none⟩ (.int .i64 o'.price)).setCell ⟨g,4,none⟩ (.int .i64 o'.qty)).setCell ⟨g+1,0,none⟩ v'):
  QJ W' g 29 (KZ o')∧Boxed W' (g+1) 35 v'∧KeepsOthers W W'∧(∀B,B≤g→Below B W W')∧W.heap.size≤W'.heap.size:=by
 subst e
 have hE':QJ W (g+1) 35 #[v]:=hE
 refine⟨?_, ?_, ?_,fun B hB=> ?_,by simp[World.setCell]⟩
 ·exact QJ.far (QJ.set_ (QJ.set_ (QJ.set_ (QJ.set_ (QJ.set_ hX 0 _) 1 _) 2 _) 3 _) 4 _) (by simp) _
 ·exact QJ.set_ (QJ.far (QJ.far (QJ.far (QJ.far (QJ.far hE' (by simp) _) (by simp) _) (by simp) _) (by simp) _) (by simp) _) 0 _
 ·exact(((((KeepsOthers.setCell _ _ _).trans (KeepsOthers.setCell _ _ _)).trans (KeepsOthers.setCell _ _ _)).trans (KeepsOthers.setCell _ _ _)).trans (KeepsOthers.setCell _ _ _)).trans (KeepsOthers.setCell _ _ _)
 ·exact((((((Below.refl B W).setCell (p:=⟨g,0,none⟩) hB _).setCell (p:=⟨g,1,none⟩) hB _).setCell (p:=⟨g,2,none⟩) hB _).setCell (p:=⟨g,3,none⟩) hB _).setCell (p:=⟨g,4,none⟩) hB _).setCell (p:=⟨g+1,0,none⟩) (by show B≤g+1;omega) _
theorem Kt6 (n:Nat) (hn:5≤n) (sd:Int) (hs:VV sd) (b a r:Nat) (F:Nat→Prop) (M:Int→Int→Option QX) (N:Nat) (f:Int→Option Value) (H:Int→HS) (reg:Nat→Int) (hS:KY M N f H) (hN:N≤100) (w:World) (hM:XX w b a F M N r f H reg):
  CallsIn Fence.wide n Tryz.prog 63 #[.pointer (some ⟨b,0,none⟩),.int .i64 sd] w fun e w'=>Below w.heap.size w w'∧e= .returned (.tuple #[KQ (Ka8 (H sd).L),YZ (Ka9 (H sd).L)]):=by
 have h1:1≤n:=by omega
 have h2:1≤n-1:=by omega
 have hw44:Fence.wide.fn 65:=trivial
 have HM:=QQ hM
 have HSm:=QQ hS
 have HN:=QQ hN
 clear hM hS hN
 obtain⟨L,hLe⟩: ∃L,(H sd).L=L:=⟨_,rfl⟩
 rw[hLe]
 refine callsIn_of_wp_marks Tryz.func63 rfl trivial ?_ rfl
 simp only[Tryz.ntmps63,List.size_toArray,List.length_cons,List.length_nil,Nat.reduceAdd,Nat.reduceSub,Array.replicate_succ,Array.replicate_zero,List.push_toArray,List.append_toArray,List.nil_append,List.cons_append]
 gi_upto_region 1 with fail
 gi_cut [12]from 7 (fun s12 wx=>s12= .bool false∧wx=(w.alloc (.cells (KZ noO) 29)).alloc (.cells #[.nilIface] 35))
 case first=>
  rcases hs with rfl|rfl
  all_goals
   gi_wp2
   gi_meet
   exact⟨rfl,rfl⟩
 case rest=>
  obtain⟨rfl,rfl⟩:=hcut
  gi_wp2_with (gi_at_call 65;refine(Xa7 _ (by omega) b _ _).mono ?_;rintro e w' ⟨rfl,rfl⟩)
  have hX1:=(((QJ.new w 29 (KZ noO)).alloc (.cells #[.nilIface] 35)).alloc (.cells #[.pointer (some ⟨b,0,none⟩)] 69)).alloc (.cells #[.int .i64 sd] 3);have hX2:=((Boxed.new (w.alloc (.cells (KZ noO) 29)) 35 .nilIface).alloc (.cells #[.pointer (some ⟨b,0,none⟩)] 69)).alloc (.cells #[.int .i64 sd] 3);have bB:=(Boxed.new ((w.alloc (.cells (KZ noO) 29)).alloc (.cells #[.nilIface] 35)) 69 (.pointer (some ⟨b,0,none⟩))).alloc (.cells #[.int .i64 sd] 3);have bS:=Boxed.new (((w.alloc (.cells (KZ noO) 29)).alloc (.cells #[.nilIface] 35)).alloc (.cells #[.pointer (some ⟨b,0,none⟩)] 69)) 3 (.int .i64 sd);simp only[World.size_alloc]at hX2 bB bS;have hB0:Below w.heap.size w ((((w.alloc (.cells (KZ noO) 29)).alloc (.cells #[.nilIface] 35)).alloc (.cells #[.pointer (some ⟨b,0,none⟩)] 69)).alloc (.cells #[.int .i64 sd] 3)):=((((Below.refl _ w).alloc (Nat.le_refl _) _).alloc (by simp) _).alloc (by simp;omega) _).alloc (by simp;omega) _;have hsz:((((w.alloc (.cells (KZ noO) 29)).alloc (.cells #[.nilIface] 35)).alloc (.cells #[.pointer (some ⟨b,0,none⟩)] 69)).alloc (.cells #[.int .i64 sd] 3)).heap.size=w.heap.size+4:=by simp
  obtain⟨W0,hW0⟩: ∃W0,(((w.alloc (.cells (KZ noO) 29)).alloc (.cells #[.nilIface] 35)).alloc (.cells #[.pointer (some ⟨b,0,none⟩)] 69)).alloc (.cells #[.int .i64 sd] 3)=W0:=⟨_,rfl⟩;rw[hW0]at hX1 hX2 bB bS hB0 hsz⊢;clear hW0;have hseq:=Jt0 sd hs (n-1) (by omega) (w.heap.size+1+1) (w.heap.size+1+1+1) b a r (fun i=>W0.heap.size≤i) F M N f H reg HSm.out HN.out W0 (HM.out.below hB0)
   (fun i hi e=>by have:=HM.out.fp hi;omega) (fun e=>by omega) bB.cell bS.cell
  rw[hLe]at hseq;have HSq:=QQ hseq;clear hseq;refine wpIn_rangeFunc_ownH rfl h1 (gf:=96) (lb:= #[.pointer (some ⟨w.heap.size+1+1,0,none⟩),.pointer (some ⟨w.heap.size+1+1+1,0,none⟩)]) rfl trivial (enters_of Tryz.func96 (by kernel_rfl) rfl)
   HSq.out (fun h k=>h.trans k (fun i h=> .inl h)) (Xo2 (fun i hi=>hi)) (Below.refl _ _) (fun _=>rfl)
   (fun pre W=>Ky6 w pre W∧W0.heap.size≤W.heap.size) (Kx1 w)
   (OwnFrom.and (fun s X Y row hs hg hr=>⟨hs.1,Qi9 hs.2.1 hg hr,Qi9 hs.2.2.1 hg hr,hs.2.2.2.grown hg hs.2.2.2.size (fun k e=>by have:=(hr k e).1;omega)⟩) (fun _ X Y row hs hg hr=>Nat.le_trans hs hg.size))
   (fun c s X Y row hs hg hr=>⟨hs.1,hs.2.1.imp (fun x h=>⟨h.1,Qi9 h.2 hg hr⟩),Qi9 hs.2.2.1 hg hr,hs.2.2.2.grown hg hs.2.2.2.size (fun k e=>by have:=(hr k e).1;omega)⟩)
   ⟨⟨rfl,hX1,hX2,hB0⟩,Nat.le_refl _⟩
   (fun x a' W=> ∃Bx,W0.heap.size≤Bx∧QJ W Bx 29 (KZ x)∧a'= {tmps:= #[.pointer (some ⟨b,0,none⟩),.int .i64 sd,undef,undef,.pointer (some ⟨w.heap.size,0,none⟩),.pointer (some ⟨w.heap.size+1,0,none⟩),.pointer (some ⟨Bx,0,none⟩),u7,u8,u9,u10,u11,.bool false,u13,u14,.pointer (some ⟨b,0,none⟩),.int .i64 sd,.func (.func 96) #[] #[.pointer (some ⟨w.heap.size+1+1,0,none⟩),.pointer (some ⟨w.heap.size+1+1+1,0,none⟩)],KQ x,u19,u20,u21],defers:= []})
   (fun x a' _ X Y row hs hg hr=>by
    obtain⟨Bx,h1,h2,h3⟩:=hs;exact⟨Bx,h1,Qi9 h2 hg hr,h3⟩)
   ?assign ?body ?done ?stop
  case assign=>
   rintro l pre x W K ⟨⟨hp,hX,hE,hB1⟩,hsW⟩ hK;simp only[KQ]
   gi_wp2
   exact hK _ _ ((KeepsOthers.alloc _ _).from _) (QK.of_below ((Below.refl _ W).alloc (Nat.le_refl _) _) _)
    ⟨⟨hp,hX.alloc _,hE.alloc _,hB1.alloc hB1.size _⟩,by simp;omega⟩ ⟨W.heap.size,hsW,QJ.new _ _ _,rfl⟩
  case body=>
   rintro l pre x a' W hl ⟨rc,hr⟩ ⟨⟨rfl,hX,hE,hB1⟩,hsW⟩ ⟨Bx,hBx,bX,rfl⟩ hlt;obtain⟨x0,x1,x2,x3,x4⟩:=JW bX;obtain⟨z0,z1,z2,z3,z4⟩:=JW hX;have f0:=QJ.frozen hX 0;have f1:=QJ.frozen hX 1;have f2:=QJ.frozen hX 2;have f3:=QJ.frozen hX 3;have f4:=QJ.frozen hX 4;have cE:=hE.cell;have fE:=hE.frozen;have h1':1≤n-1-1:=by omega
   gi_wp2_with fail
   obtain⟨hX',hE',hK',hB',-⟩:=Xo3 (o':=x) (v':= .nilIface) hX hE _ rfl;exact⟨hK'.from _,rfl,⟨x,rfl,hX'⟩,hE',hB1.trans (hB' _ (Nat.le_refl _))⟩
  case done=>
   rintro D zs W hD rfl ⟨⟨hp,hX,hE,hB1⟩,hsW⟩ hK;subst hp;obtain⟨z0,z1,z2,z3,z4⟩:=JW hX;have f0:=QJ.frozen hX 0;have f1:=QJ.frozen hX 1;have f2:=QJ.frozen hX 2;have f3:=QJ.frozen hX 3;have f4:=QJ.frozen hX 4;have cE:=hE.cell;have fE:=hE.frozen
   gi_wp2
   obtain⟨hX',hE',hK',hB',-⟩:=Xo3 (o':=noO) (v':= .iface 68 (.int .i64 8)) hX hE _ rfl;have hD':=hK'.same _ _ hK rfl;refine⟨by simp,.inl ⟨_,_,rfl,run_takeDeferred hD', ?_⟩⟩;refine⟨_,Jg3 (g:=w.heap.size) rfl rfl ((World.putObj_heap_other (by omega)).trans hX') ((World.putObj_heap_other (by omega)).trans hE'), ?_,rfl⟩;exact(hB1.trans (hB' _ (Nat.le_refl _))).trans (belowK_b (w:=w) (Nat.le_refl _) _ D _ _ (by omega) hD' rfl rfl)
  case stop=>
   rintro D c pre W hD hpre ⟨rfl,⟨x,rfl,hX⟩,hE,hB1⟩ hK;obtain⟨Lr,rfl⟩: ∃Lr,L=x::Lr:=by
    obtain⟨t,rfl⟩:=hpre;exact⟨t,rfl⟩
   gi_wp2
   refine⟨by simp,.inl ⟨_,_,rfl,run_takeDeferred hK, ?_⟩⟩;refine⟨_,Jg3 (g:=w.heap.size) rfl rfl ((World.putObj_heap_other (by omega)).trans hX) ((World.putObj_heap_other (by omega)).trans hE), ?_,rfl⟩;exact hB1.trans (belowK_b (w:=w) (Nat.le_refl _) W D _ _ (by omega) hK rfl rfl)
theorem Xo4 {H:Int→HS} {sd:Int} (hs:VV sd):XQ sd (H 1).L (H 2).L=(H sd).L:=by
 unfold XQ
 rcases hs with rfl|rfl
 ·rw[if_pos rfl]
 ·rw[if_neg (by decide)]
theorem Qc5 (w:World) (b:Nat) (G:Nat→Prop) (L1 L2:List QX) (h:Q1 w b G L1 L2) (sd:Int) (hs:VV sd):
  Calls Tryz.prog 47 #[.pointer (some ⟨b,0,none⟩),.int .i64 sd] w fun e w'=>Below w.heap.size w w'∧ ∃A c,e= .returned (.tuple #[.slice A (XQ sd L1 L2).length c,.nilIface])∧QY w' A (XQ sd L1 L2).length c 29 5 (QW I1 (XQ sd L1 L2))∧ ∀g,QV A=some g→w.heap.size≤g:=by
 obtain⟨a,F,M,n,r,f,H,reg,hM,hS,hG,rfl,rfl⟩:=h
 rw[Xo4 hs]
 exact callsIn_wide.1 (Kt5 5 (by omega) sd hs b a r F M n f H reg hS hM.ar.le w hM)
theorem Jg4 (w:World) (b:Nat) (G:Nat→Prop) (L1 L2:List QX) (h:Q1 w b G L1 L2) (sd:Int) (hs:VV sd):
  Calls Tryz.prog 63 #[.pointer (some ⟨b,0,none⟩),.int .i64 sd] w fun e w'=>Below w.heap.size w w'∧e= .returned (.tuple #[KQ (Ka8 (XQ sd L1 L2)),YZ (Ka9 (XQ sd L1 L2))]):=by
 obtain⟨a,F,M,n,r,f,H,reg,hM,hS,hG,rfl,rfl⟩:=h
 rw[Xo4 hs]
 exact callsIn_wide.1 (Kt6 5 (by omega) sd hs b a r F M n f H reg hS hM.ar.le w hM)
def Xo5 (p s:Int):Int:=max 1 (p-p*s/10000)
def Jt2 (p s:Int):Int:=min 1000000 (p+p*s/10000)
theorem Kt7 (p s:Int) (w:World) (h1:1≤p) (h2:p≤1000000) (h3:0≤s) (h4:s≤10000):
  Calls Tryz.prog 16 #[.int .i64 p,.int .i64 s] w fun e w'=>
   e= .returned (.tuple #[.int .i64 (Xo5 p s),.int .i64 (Jt2 p s),.nilIface])∧Below w.heap.size w w':=by
 go_enter Tryz.func16,Tryz.ntmps16
 have hm:0≤p*s:=Int.mul_nonneg (by omega) h3
 have hm2:p*s≤10000000000:=Int.le_trans (Int.mul_le_mul h2 h4 h3 (by omega)) (by omega)
 go_wp2_with (go_at_call 40;refine(Qb9 _ _ _ _ _ (by simp)).mono ?_;rintro e w' ⟨rfl,rfl⟩)
 all_goals
  go_ret3;exact⟨Kr7 (by unfold Xo5;omega) (by unfold Jt2;omega),((Below.refl _ _).alloc (Nat.le_refl _) _).alloc (by simp) _⟩
theorem Ko3 (p s:Int) (w:World) (h: ¬(1≤p∧p≤1000000∧0≤s∧s≤10000)):
  Calls Tryz.prog 16 #[.int .i64 p,.int .i64 s] w fun e w'=>
   e= .returned (.tuple #[.int .i64 0,.int .i64 0,.iface 68 (.int .i64 2)])∧Below w.heap.size w w':=by
 by_cases h1:1≤p
 ·by_cases h2:p≤1000000
  ·by_cases h3:0≤s
   ·have h4:decide (s≤10000)=false:=by simp;omega
    clear h;go_enter Tryz.func16,Tryz.ntmps16
    go_wp2_with (go_at_call 40;refine(Qb9 _ _ _ _ _ (by simp)).mono ?_;rintro e w' ⟨rfl,rfl⟩)
    go_ret3;exact⟨rfl,((Below.refl _ _).alloc (Nat.le_refl _) _).alloc (by simp) _⟩
   ·have h4:decide (0≤s)=false:=by simp;omega
    clear h h3;go_enter Tryz.func16,Tryz.ntmps16
    go_wp2_with (go_at_call 40;refine(Qb9 _ _ _ _ _ (by simp)).mono ?_;rintro e w' ⟨rfl,rfl⟩)
    go_ret3;exact⟨rfl,((Below.refl _ _).alloc (Nat.le_refl _) _).alloc (by simp) _⟩
  ·have h4:decide (p≤1000000)=false:=by simp;omega
   clear h h2;go_enter Tryz.func16,Tryz.ntmps16
   go_wp2_with (go_at_call 40;refine(Qb9 _ _ _ _ _ (by simp)).mono ?_;rintro e w' ⟨rfl,rfl⟩)
   go_ret3;exact⟨rfl,(Below.refl _ _).alloc (Nat.le_refl _) _⟩
 ·have h4:decide (1≤p)=false:=by simp;omega
  clear h h1;go_enter Tryz.func16,Tryz.ntmps16
  go_wp2_with (go_at_call 40;refine(Qb9 _ _ _ _ _ (by simp)).mono ?_;rintro e w' ⟨rfl,rfl⟩)
  go_ret3;exact⟨rfl,(Below.refl _ _).alloc (Nat.le_refl _) _⟩
end Go.Proofs.YtnlngicnfegjgaaGreat
