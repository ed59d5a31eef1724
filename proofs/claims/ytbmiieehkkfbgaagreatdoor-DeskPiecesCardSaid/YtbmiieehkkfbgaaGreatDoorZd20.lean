/- Contracts and walks that the law's proof needs. -/
import Derived.RangeFuncBox
import Derived.Maps.AppendAt
import Derived.Test.YtbmiieehkkfbgaaGreatDoorZd18
import Derived.Test.YtbmiieehkkfbgaaGreatDoorZd1
import Derived.Laws.Rows
import Derived.WalkKit
import Derived.WalkLawsBesides
import Derived.WalkSpells
import Derived.Test.YtbmiieehkkfbgaaGreatDoorRows
import Derived.Test.YtbmiieehkkfbgaaGreatDoorZd17
set_option linter.unusedVariables false
set_option maxRecDepth 100000
set_option maxHeartbeats 8000000
namespace Go.Proofs.YtbmiieehkkfbgaaGreatDoor
open Go.RowKit
attribute [local go_sem] Oper.semAt_some
theorem Jw4 (sd:Int) (hs:UQ sd) (n:Nat) (hn:2≤n) (B1 B2 b a r:Nat) (S:Nat→Prop) (F:Nat→Prop) (M:Int→Int→Option QX) (N:Nat) (f:Int→Option Value) (H:Int→HS) (reg:Nat→Int) (hS:ZX M N f H) (hN:N≤100)
  (w:World) (hM:XK w b a F M N r f H reg) (hfp: ∀i,V6 b r F H i→ ¬S i) (hs1: ¬S B1) (hB1:w.cell? ⟨B1,0,none⟩=some (.pointer (some ⟨b,0,none⟩))) (hB2:w.cell? ⟨B2,0,none⟩=some (.int .i64 sd)):
  SeqStopsK Fence.wide n Tryz.prog 157 #[.pointer (some ⟨B1,0,none⟩),.pointer (some ⟨B2,0,none⟩)] (fun x:QX=> #[KJ x]) (QK S) (fun ys=>ys=(H sd).L) (fun pre=>pre <+: (H sd).L) (H sd).L.length w:=by
 intro l J Jx W hW hJ hJx hY h0
 have hb1:=World.block_lt_of_cell? w _ hB1
 have hb2:=World.block_lt_of_cell? w _ hB2
 have c1:=(hW.cell (p:=⟨B1,0,none⟩) hb1).trans hB1
 have c2:=(hW.cell (p:=⟨B2,0,none⟩) hb2).trans hB2
 rcases hs with rfl|rfl
 ·exact Kw4 n hn l B1 B2 b a r S F M N f H reg hS hN J Jx (fun pre W W' hj hb=>Ji1 hJ hj hb) hY W (hM.below hW) hfp hs1 c1 c2 h0
 ·exact Kw5 n hn l B1 B2 b a r S F M N f H reg hS hN J Jx (fun pre W W' hj hb=>Ji1 hJ hj hb) hY W (hM.below hW) hfp hs1 c1 c2 h0
theorem Xt5 {S:Nat→Prop} {w:World} (hS: ∀i,w.heap.size≤i→S i) (W:World) (l:Nat) (o o':Obj) (hl:w.heap.size≤l) (h1:W.heap[l]?=some o) (h2:o.isCells=false) (h3:o.isWalk=false):QK S W (W.putObj l o'):=
 ⟨rfl,rfl,rfl,by simp[World.putObj],fun k hk hn=>World.putObj_heap_other (fun e=>hn (hS k (by omega)))⟩
theorem Xf0 (n:Nat) (hn:1≤n) (b:Nat) (sd:Int) (w:World):
  CallsIn Fence.wide n Tryz.prog 121 #[.pointer (some ⟨b,0,none⟩),.int .i64 sd] w fun e w'=>
   e= .returned (.func (.func 157) #[] #[.pointer (some ⟨w.heap.size,0,none⟩),.pointer (some ⟨w.heap.size+1,0,none⟩)])∧w'=(w.alloc (.cells #[.pointer (some ⟨b,0,none⟩)] 120)).alloc (.cells #[.int .i64 sd] 3):=by
 refine callsIn_of_wp Tryz.func121 rfl trivial ?_ rfl
 simp only[Tryz.ntmps121,List.size_toArray,List.length_cons,List.length_nil,Nat.reduceAdd,Nat.reduceSub,Array.replicate_succ,Array.replicate_zero,List.push_toArray,List.append_toArray,List.nil_append,List.cons_append]
 gi_wp2
 go_ret
 exact⟨rfl,rfl⟩
theorem Qu0:(Tryz.prog.info? 117).map (fun i=>(i.zero,i.size,i.bytes))=some (some (.agg #[.int .i64 0,.int .i64 0,.int .i64 0,.int .i64 0,.int .i64 0]),5,40):=by kernel_rfl
theorem Jw5 {W:World} {base base':Nat} {e:TypeId} {size:Nat} {v:Value} {k:Nat} {xs:List Value} (hb:base'≤base) (h:W.ownsRow base e size v k xs):W.ownsRow base' e size v k xs:=by
 refine⟨h.1, ?_⟩
 rcases h.2 with h'|⟨g,cap,cur,h1,h2,h3⟩
 ·exact .inl h'
 ·exact .inr ⟨g,cap,cur,h1,Nat.le_trans hb h2,h3⟩
theorem Kn6 {W:World} {base:Nat} {e:TypeId} {size:Nat} {v:Value} {k:Nat} {xs:List Value} (h:W.ownsRow base e size v k xs): ∃A c,v= .slice A k c∧ ∀g,QZ A=some g→base≤g:=by
 rcases h.2 with⟨h1,h2⟩|⟨g,cap,cur,h1,h2,h3⟩
 ·exact⟨none,0,by rw[h1,h2],fun g e=>by cases e⟩
 ·exact⟨_,cap,h1,fun g' e=>by cases e;exact h2⟩
theorem Zn1 {M:Int→Int→Option QX} {n:Nat} {f:Int→Option Value} {H:Int→HS} {s:Int} (hs:UQ s) (hS:ZX M n f H) (h2:n≤100):(H s).L.length≤100:=by
 have h1:=hS.cnt
 unfold HS.L IX
 rw[List.length_map]
 unfold X0 at h1
 rw[List.length_append]at h1
 rcases hs with rfl|rfl<;>omega
theorem Ze9 (n:Nat) (hn:5≤n) (sd:Int) (hs:UQ sd) (b a r:Nat) (F:Nat→Prop) (M:Int→Int→Option QX) (N:Nat) (f:Int→Option Value) (H:Int→HS) (reg:Nat→Int) (hS:ZX M N f H) (hN:N≤100) (w:World) (hM:XK w b a F M N r f H reg):
  CallsIn Fence.wide n Tryz.prog 86 #[.pointer (some ⟨b,0,none⟩),.int .i64 sd] w fun e w'=>Below w.heap.size w w'∧ ∃A c,e= .returned (.tuple #[.slice A (H sd).L.length c,.nilIface])∧QW w' A (H sd).L.length c 117 5 (JQ I6 (H sd).L)∧ ∀g,QZ A=some g→w.heap.size≤g:=by
 have h1:1≤n:=by omega
 have h2:1≤n-1:=by omega
 have hw44:Fence.wide.fn 121:=trivial
 obtain⟨i0,hi,hz0,hz1,hz2⟩:=info_parts Qu0
 have HM:=QQ hM
 have HSm:=QQ hS
 have HN:=QQ hN
 clear hM hS hN
 obtain⟨L,hLe⟩: ∃L,(H sd).L=L:=⟨_,rfl⟩
 rw[hLe]
 refine callsIn_of_wp_marks Tryz.func86 rfl trivial ?_ rfl
 simp only[Tryz.ntmps86,List.size_toArray,List.length_cons,List.length_nil,Nat.reduceAdd,Nat.reduceSub,Array.replicate_succ,Array.replicate_zero,List.push_toArray,List.append_toArray,List.nil_append,List.cons_append]
 gi_upto_region 1 with fail
 gi_cut [13]from 8 (fun s13 wx=>s13= .bool false∧wx=w)
 case first=>
  rcases hs with rfl|rfl
  all_goals
   gi_wp2
   gi_meet
   exact⟨rfl,rfl⟩
 case rest=>
  obtain⟨rfl,rfl⟩:=hcut
  gi_wp2_with (gi_at_call 121;refine(Xf0 _ (by omega) b _ _).mono ?_;rintro e w' ⟨rfl,rfl⟩)
  have bO:=((Boxed.new wc 78 (.slice none 0 0)).alloc (.cells #[.pointer (some ⟨b,0,none⟩)] 120)).alloc (.cells #[.int .i64 sd] 3);have bB:=(Boxed.new (wc.alloc (.cells #[.slice none 0 0] 78)) 120 (.pointer (some ⟨b,0,none⟩))).alloc (.cells #[.int .i64 sd] 3);have bS:=Boxed.new ((wc.alloc (.cells #[.slice none 0 0] 78)).alloc (.cells #[.pointer (some ⟨b,0,none⟩)] 120)) 3 (.int .i64 sd);simp only[World.size_alloc]at bB bS;have hB0:Below wc.heap.size wc (((wc.alloc (.cells #[.slice none 0 0] 78)).alloc (.cells #[.pointer (some ⟨b,0,none⟩)] 120)).alloc (.cells #[.int .i64 sd] 3)):=(((Below.refl _ wc).alloc (Nat.le_refl _) _).alloc (by simp) _).alloc (by simp;omega) _;have hsz:(((wc.alloc (.cells #[.slice none 0 0] 78)).alloc (.cells #[.pointer (some ⟨b,0,none⟩)] 120)).alloc (.cells #[.int .i64 sd] 3)).heap.size=wc.heap.size+3:=by simp
  obtain⟨W0,hW0⟩: ∃W0,((wc.alloc (.cells #[.slice none 0 0] 78)).alloc (.cells #[.pointer (some ⟨b,0,none⟩)] 120)).alloc (.cells #[.int .i64 sd] 3)=W0:=⟨_,rfl⟩;rw[hW0]at bO bB bS hB0 hsz⊢;clear hW0;have hL:(H sd).L.length≤100:=Zn1 hs HSm.out HN.out;have hseq:=Jw4 sd hs (n-1) (by omega) (wc.heap.size+1) (wc.heap.size+1+1) b a r (fun i=>i=wc.heap.size∨W0.heap.size≤i) F M N f H reg HSm.out HN.out W0 (HM.out.below hB0)
   (fun i hi e=>by have:=HM.out.fp hi;rcases e with e|e<;>omega) (fun e=>by rcases e with e|e<;>omega) bB.cell bS.cell
  rw[hLe]at hL hseq;have HSq:=QQ hseq;clear hseq;refine wpIn_rangeFunc_ownH rfl h1 (gf:=157) (lb:= #[.pointer (some ⟨wc.heap.size+1,0,none⟩),.pointer (some ⟨wc.heap.size+1+1,0,none⟩)]) rfl trivial (enters_of Tryz.func157 (by kernel_rfl) rfl)
   HSq.out (fun h k=>h.trans k (fun i h=> .inl h)) (Xt5 (fun i hi=> .inr hi)) (Below.refl _ _) (fun _=>rfl)
   (fun pre W=>(∃v,Boxed W wc.heap.size 78 v∧W.ownsRow W0.heap.size 117 5 v pre.length (JQ I6 pre)∧True)∧(Below wc.heap.size wc W∧W0.heap.size≤W.heap.size))
   (fun _ _ _=>False)
   (OwnFrom.and (Own.from (holdsRow_own W0.heap.size wc.heap.size 78 117 5 (fun pre:List QX=>pre.length) (fun pre=>JQ I6 pre) (fun _ _=>True)) _) (OwnFrom.and (ownFrom_below (Nat.le_refl _) (by omega)) (fun _ X Y row hs hg hr=>Nat.le_trans hs hg.size)))
   (fun _ _ _ _ _ hs _ _=>hs)
   ⟨⟨_,bO,⟨rfl,.inl ⟨rfl,rfl⟩⟩,trivial⟩,hB0,Nat.le_refl _⟩
   (fun x a' W=> ∃Bx,W0.heap.size≤Bx∧QJ W Bx 117 (KV x)∧a'= {tmps:= #[.pointer (some ⟨b,0,none⟩),.int .i64 sd,undef,undef,.slice none 0 0,.nilIface,.pointer (some ⟨wc.heap.size,0,none⟩),.pointer (some ⟨Bx,0,none⟩),u8,u9,u10,u11,u12,.bool false,u14,.pointer (some ⟨b,0,none⟩),.int .i64 sd,.func (.func 157) #[] #[.pointer (some ⟨wc.heap.size+1,0,none⟩),.pointer (some ⟨wc.heap.size+1+1,0,none⟩)],KJ x,u19,u20,u21,u22,u23],defers:= []})
   (fun x a' _ X Y row hs hg hr=>by
    obtain⟨Bx,h1,h2,h3⟩:=hs;exact⟨Bx,h1,h2.grown hg (fun e=>by obtain⟨_,o,ho,hc⟩:=hr Bx e.symm;rw[show X.heap[Bx]?=_ from h2]at ho;cases ho;cases hc),h3⟩)
   ?assign ?body ?done ?stop
  case assign=>
   rintro l pre x W K ⟨⟨v,hv,hrow,_⟩,hB1,hsW⟩ hK;obtain⟨id,side,kind,price,qty⟩:=x;simp only[KJ]
   gi_wp2
   exact hK _ _ ((KeepsOthers.alloc _ _).from _) (QK.of_below ((Below.refl _ W).alloc (Nat.le_refl _) _) _)
    ⟨⟨v,hv.alloc _,hrow.alloc _,trivial⟩,hB1.alloc hB1.size _,by simp;omega⟩ ⟨W.heap.size,hsW,QJ.new _ _ _,rfl⟩
  case body=>
   rintro l pre x a' W hl ⟨rc,hr⟩ ⟨⟨v,hv,hrow,_⟩,hB1,hsW⟩ ⟨Bx,hBx,bX,rfl⟩ hlt;have cO:=hv.cell;obtain⟨x0,x1,x2,x3,x4⟩:=JV bX;have h1':1≤n-1-1:=by omega
   have hvl:=hv.lt;have hbl:=hB1.size;have hsz':wc.heap.size≤W0.heap.size:=by omega
   gi_wp2_with (gi_at_builtin;refine wpListIn_append_own _ rfl _ _ 78 rfl W0.heap.size 117 i0 _ 5 40 Tryz.underlying78 hi hz0 hz1 hz2 rfl (by decide) _ _ _ rfl (hrow.alloc _) ⟨W.heap.size,0,none⟩ 1 1 (I6 x) rfl rfl (World.news_of_block (cs:=KV x) (t:=117) (fr:=(0,0)) (heap_alloc_new W _)) (Js5 _) (by unfold maxLen;omega) (by omega) (by simp;omega) ?_;intro v' w1 hown' hgrow _;have hv1:Boxed w1 wc.heap.size 78 v:=(hv.alloc _).kept hgrow (hv.not_row (by decide) hrow);have c1:=hv1.cell;have f1:=hv1.frozen;obtain⟨gg,cap,rfl⟩:=ownsRow_succ hown';go_frame)
   have hg:(W.alloc (.cells (KV x) 117)).grownBy w1 v.ownBlock:=hgrow;obtain⟨-,hv2,-,hk2,hb2⟩:=hv.appended (by decide) (Jw5 hsz' hrow) hB1.size (Nat.le_refl _) (Jw5 hsz' hown') hg;have hown2:w1.ownsRow W0.heap.size 117 5 (.slice (some ⟨gg,0,none⟩) (pre.length+1) cap) (pre.length+1) (JQ I6 pre++I6 x):=hown';refine⟨hk2.from _,⟨hb2.os,hb2.tape,hb2.output,Nat.le_trans (by simp) (Nat.le_trans hg.size (by simp[World.setCell])),fun k hk hn=> ?_⟩,⟨_,hv2, ?_,trivial⟩,hB1.trans hb2,Nat.le_trans hsW (Nat.le_trans (by simp) (Nat.le_trans hg.size (by simp[World.setCell])))⟩
   ·refine(Below.heap_setCell w1 _ _ k (fun e=>hn (.inl e))).trans ((hg.block k (by simp;omega) (fun e=> ?_)).trans (Below.heap_alloc W _ k hk))
    exact hn (.inr (hrow.lt k e.symm).1)
   ·rw[List.length_append,Y7]
    exact hown2.kept (grownBy_setCell' w1 _ _) (.inr (hv1.not_row (by decide) hown2).symm)
  case done=>
   rintro D zs W hD rfl ⟨⟨v,hv,hrow,_⟩,hB1,hsW⟩ hK;have cO:=hv.cell
   gi_wp2
   refine⟨by simp,.inl ⟨_,_,rfl,run_takeDeferred hK, ?_⟩⟩;obtain⟨A,c,rfl,hA⟩:=Kn6 hrow;refine⟨_,results_tmp2 rfl _ _ _, ?_,A,c,rfl,Jw5 (Nat.zero_le _) (ownsRow_putObj hrow _ hK rfl),fun g e=> ?_⟩
   ·exact hB1.trans (belowK_b (w:=wc) (Nat.le_refl _) W D _ _ (by omega) hK rfl rfl)
   ·have:=hA g e;omega
  case stop=>
   rintro D c pre W _ _ h _;exact h.elim
attribute [local go_sem] Oper.semAt_some
def Kh4 (L:List QX):QX:=L.headD noO
def Kh5:List QX→Int
 | []=>8
 |_::_=>0
theorem Jr6 {P:Program} {fn:Func} {p q:Tmp} {ty ty2:TypeId} (h:fn.results= #[.cell p ty,.cell q ty2]) (tmps:Array Value) (w:World) (g g2:Nat) (t:TypeId) (cs:Array Value) (v:Value) (fr:Nat×Nat) (d:TypeDesc)
  (hp:tmps.getD p undef= .pointer (some ⟨g,0,none⟩)) (hq:tmps.getD q undef= .pointer (some ⟨g2,0,none⟩)) (hg:w.heap[g]?=some (.cells cs t fr))
  (hu:P.underlying ty=some d) (hd:(match d with| .struct _| .array _ _=>true|_=>false)=true) (hi:(P.info? ty).map (·.size)=some cs.size)
  (h2:(loadVar ty2 ⟨g2,0,none⟩).run P w= .ok v w):(results fn tmps).run P w= .ok (.tuple #[.agg cs,v]) w:=by
 have hp':tmps[p]?.getD undef= .pointer (some ⟨g,0,none⟩):=by simpa using hp
 have hq':tmps[q]?.getD undef= .pointer (some ⟨g2,0,none⟩):=by simpa using hq
 simp[results,h,hp',hq',asAddr,run_loadVar_row w g t ty cs fr d hg hu hd hi,h2,Sem.run_bind,Result.andThen]
theorem Kx5 {w:World} {g:Nat} {v:Value} (h:w.cell? ⟨g,0,none⟩=some v):(loadVar 39 ⟨g,0,none⟩).run Tryz.prog w= .ok v w:=by
 simp[loadVar,go_sem,h]
theorem Ji6 {tmps:Array Value} {W:World} {g:Nat} {o:QX} {v:Value} (h4:tmps.getD 4 undef= .pointer (some ⟨g,0,none⟩)) (h5:tmps.getD 5 undef= .pointer (some ⟨g+1,0,none⟩)) (hb:QJ W g 117 (KV o)) (he:Boxed W (g+1) 39 v):
  (results Tryz.f174 tmps).run Tryz.prog W= .ok (.tuple #[KJ o,v]) W:=
 Jr6 Tryz.results174 tmps W g (g+1) 117 (KV o) v (0,0) _ h4 h5 hb Tryz.underlying117 rfl (by show(Tryz.prog.info? 117).map (·.size)=some 5;kernel_rfl) (Kx5 he.cell)
def Zj6 (w:World) (c:Code) (pre:List QX) (W:World):Prop:=c= .ret∧(∃x,pre= [x]∧QJ W w.heap.size 117 (KV x))∧Boxed W (w.heap.size+1) 39 .nilIface∧Below w.heap.size w W
def Zl8 (w:World) (pre:List QX) (W:World):Prop:=pre= []∧QJ W w.heap.size 117 (KV noO)∧Boxed W (w.heap.size+1) 39 .nilIface∧Below w.heap.size w W
theorem Qi7 {X Y:World} {g B:Nat} {t:TypeId} {cs:Array Value} {row:Option Nat} (h:QJ X g t cs) (hg:X.grownBy Y row) (hr: ∀r,row=some r→B≤r∧ ∃o:Obj,X.heap[r]?=some o∧o.isCells=false):QJ Y g t cs:=
 h.grown hg (fun e=>by obtain⟨_,o,ho,hc⟩:=hr g e.symm;rw[show X.heap[g]?=_ from h]at ho;cases ho;cases hc)
theorem Xt6 {W:World} {g:Nat} {o o':QX} {v v':Value} (hX:QJ W g 117 (KV o)) (hE:Boxed W (g+1) 39 v) (W':World)
  (e:W'=(((((W.setCell ⟨g,0,none⟩ (.int .i64 o'.id)).setCell ⟨g,1,none⟩ (.int .i64 o'.side)).setCell ⟨g,2,none⟩ (.int .i64 o'.kind)).setCell ⟨g,3,none⟩ (.int .i64 o'.price)).setCell ⟨g,4,none⟩ (.int .i64 o'.qty)).setCell ⟨g+1,0,none⟩ v'):
  QJ W' g 117 (KV o')∧Boxed W' (g+1) 39 v'∧KeepsOthers W W'∧(∀B,B≤g→Below B W W')∧W.heap.size≤W'.heap.size:=by
 subst e
 have hE':QJ W (g+1) 39 #[v]:=hE
 refine⟨?_, ?_, ?_,fun B hB=> ?_,by simp[World.setCell]⟩
 ·exact QJ.far (QJ.set_ (QJ.set_ (QJ.set_ (QJ.set_ (QJ.set_ hX 0 _) 1 _) 2 _) 3 _) 4 _) (by simp) _
 ·exact QJ.set_ (QJ.far (QJ.far (QJ.far (QJ.far (QJ.far hE' (by simp) _) (by simp) _) (by simp) _) (by simp) _) (by simp) _) 0 _
 ·exact(((((KeepsOthers.setCell _ _ _).trans (KeepsOthers.setCell _ _ _)).trans (KeepsOthers.setCell _ _ _)).trans (KeepsOthers.setCell _ _ _)).trans (KeepsOthers.setCell _ _ _)).trans (KeepsOthers.setCell _ _ _)
 ·exact((((((Below.refl B W).setCell (p:=⟨g,0,none⟩) hB _).setCell (p:=⟨g,1,none⟩) hB _).setCell (p:=⟨g,2,none⟩) hB _).setCell (p:=⟨g,3,none⟩) hB _).setCell (p:=⟨g,4,none⟩) hB _).setCell (p:=⟨g+1,0,none⟩) (by show B≤g+1;omega) _
theorem Zf0 (n:Nat) (hn:5≤n) (sd:Int) (hs:UQ sd) (b a r:Nat) (F:Nat→Prop) (M:Int→Int→Option QX) (N:Nat) (f:Int→Option Value) (H:Int→HS) (reg:Nat→Int) (hS:ZX M N f H) (hN:N≤100) (w:World) (hM:XK w b a F M N r f H reg):
  CallsIn Fence.wide n Tryz.prog 174 #[.pointer (some ⟨b,0,none⟩),.int .i64 sd] w fun e w'=>Below w.heap.size w w'∧e= .returned (.tuple #[KJ (Kh4 (H sd).L),VZ (Kh5 (H sd).L)]):=by
 have h1:1≤n:=by omega
 have h2:1≤n-1:=by omega
 have hw44:Fence.wide.fn 121:=trivial
 have HM:=QQ hM
 have HSm:=QQ hS
 have HN:=QQ hN
 clear hM hS hN
 obtain⟨L,hLe⟩: ∃L,(H sd).L=L:=⟨_,rfl⟩
 rw[hLe]
 refine callsIn_of_wp_marks Tryz.func174 rfl trivial ?_ rfl
 simp only[Tryz.ntmps174,List.size_toArray,List.length_cons,List.length_nil,Nat.reduceAdd,Nat.reduceSub,Array.replicate_succ,Array.replicate_zero,List.push_toArray,List.append_toArray,List.nil_append,List.cons_append]
 gi_upto_region 1 with fail
 gi_cut [12]from 7 (fun s12 wx=>s12= .bool false∧wx=(w.alloc (.cells (KV noO) 117)).alloc (.cells #[.nilIface] 39))
 case first=>
  rcases hs with rfl|rfl
  all_goals
   gi_wp2
   gi_meet
   exact⟨rfl,rfl⟩
 case rest=>
  obtain⟨rfl,rfl⟩:=hcut
  gi_wp2_with (gi_at_call 121;refine(Xf0 _ (by omega) b _ _).mono ?_;rintro e w' ⟨rfl,rfl⟩)
  have hX1:=(((QJ.new w 117 (KV noO)).alloc (.cells #[.nilIface] 39)).alloc (.cells #[.pointer (some ⟨b,0,none⟩)] 120)).alloc (.cells #[.int .i64 sd] 3);have hX2:=((Boxed.new (w.alloc (.cells (KV noO) 117)) 39 .nilIface).alloc (.cells #[.pointer (some ⟨b,0,none⟩)] 120)).alloc (.cells #[.int .i64 sd] 3);have bB:=(Boxed.new ((w.alloc (.cells (KV noO) 117)).alloc (.cells #[.nilIface] 39)) 120 (.pointer (some ⟨b,0,none⟩))).alloc (.cells #[.int .i64 sd] 3);have bS:=Boxed.new (((w.alloc (.cells (KV noO) 117)).alloc (.cells #[.nilIface] 39)).alloc (.cells #[.pointer (some ⟨b,0,none⟩)] 120)) 3 (.int .i64 sd);simp only[World.size_alloc]at hX2 bB bS;have hB0:Below w.heap.size w ((((w.alloc (.cells (KV noO) 117)).alloc (.cells #[.nilIface] 39)).alloc (.cells #[.pointer (some ⟨b,0,none⟩)] 120)).alloc (.cells #[.int .i64 sd] 3)):=((((Below.refl _ w).alloc (Nat.le_refl _) _).alloc (by simp) _).alloc (by simp;omega) _).alloc (by simp;omega) _;have hsz:((((w.alloc (.cells (KV noO) 117)).alloc (.cells #[.nilIface] 39)).alloc (.cells #[.pointer (some ⟨b,0,none⟩)] 120)).alloc (.cells #[.int .i64 sd] 3)).heap.size=w.heap.size+4:=by simp
  obtain⟨W0,hW0⟩: ∃W0,(((w.alloc (.cells (KV noO) 117)).alloc (.cells #[.nilIface] 39)).alloc (.cells #[.pointer (some ⟨b,0,none⟩)] 120)).alloc (.cells #[.int .i64 sd] 3)=W0:=⟨_,rfl⟩;rw[hW0]at hX1 hX2 bB bS hB0 hsz⊢;clear hW0;have hseq:=Jw4 sd hs (n-1) (by omega) (w.heap.size+1+1) (w.heap.size+1+1+1) b a r (fun i=>W0.heap.size≤i) F M N f H reg HSm.out HN.out W0 (HM.out.below hB0)
   (fun i hi e=>by have:=HM.out.fp hi;omega) (fun e=>by omega) bB.cell bS.cell
  rw[hLe]at hseq;have HSq:=QQ hseq;clear hseq;refine wpIn_rangeFunc_ownH rfl h1 (gf:=157) (lb:= #[.pointer (some ⟨w.heap.size+1+1,0,none⟩),.pointer (some ⟨w.heap.size+1+1+1,0,none⟩)]) rfl trivial (enters_of Tryz.func157 (by kernel_rfl) rfl)
   HSq.out (fun h k=>h.trans k (fun i h=> .inl h)) (Xt5 (fun i hi=>hi)) (Below.refl _ _) (fun _=>rfl)
   (fun pre W=>Zl8 w pre W∧W0.heap.size≤W.heap.size) (Zj6 w)
   (OwnFrom.and (fun s X Y row hs hg hr=>⟨hs.1,Qi7 hs.2.1 hg hr,Qi7 hs.2.2.1 hg hr,hs.2.2.2.grown hg hs.2.2.2.size (fun k e=>by have:=(hr k e).1;omega)⟩) (fun _ X Y row hs hg hr=>Nat.le_trans hs hg.size))
   (fun c s X Y row hs hg hr=>⟨hs.1,hs.2.1.imp (fun x h=>⟨h.1,Qi7 h.2 hg hr⟩),Qi7 hs.2.2.1 hg hr,hs.2.2.2.grown hg hs.2.2.2.size (fun k e=>by have:=(hr k e).1;omega)⟩)
   ⟨⟨rfl,hX1,hX2,hB0⟩,Nat.le_refl _⟩
   (fun x a' W=> ∃Bx,W0.heap.size≤Bx∧QJ W Bx 117 (KV x)∧a'= {tmps:= #[.pointer (some ⟨b,0,none⟩),.int .i64 sd,undef,undef,.pointer (some ⟨w.heap.size,0,none⟩),.pointer (some ⟨w.heap.size+1,0,none⟩),.pointer (some ⟨Bx,0,none⟩),u7,u8,u9,u10,u11,.bool false,u13,u14,.pointer (some ⟨b,0,none⟩),.int .i64 sd,.func (.func 157) #[] #[.pointer (some ⟨w.heap.size+1+1,0,none⟩),.pointer (some ⟨w.heap.size+1+1+1,0,none⟩)],KJ x,u19,u20,u21],defers:= []})
   (fun x a' _ X Y row hs hg hr=>by
    obtain⟨Bx,h1,h2,h3⟩:=hs;exact⟨Bx,h1,Qi7 h2 hg hr,h3⟩)
   ?assign ?body ?done ?stop
  case assign=>
   rintro l pre x W K ⟨⟨hp,hX,hE,hB1⟩,hsW⟩ hK;simp only[KJ]
   gi_wp2
   exact hK _ _ ((KeepsOthers.alloc _ _).from _) (QK.of_below ((Below.refl _ W).alloc (Nat.le_refl _) _) _)
    ⟨⟨hp,hX.alloc _,hE.alloc _,hB1.alloc hB1.size _⟩,by simp;omega⟩ ⟨W.heap.size,hsW,QJ.new _ _ _,rfl⟩
  case body=>
   rintro l pre x a' W hl ⟨rc,hr⟩ ⟨⟨rfl,hX,hE,hB1⟩,hsW⟩ ⟨Bx,hBx,bX,rfl⟩ hlt;obtain⟨x0,x1,x2,x3,x4⟩:=JV bX;obtain⟨z0,z1,z2,z3,z4⟩:=JV hX;have f0:=QJ.frozen hX 0;have f1:=QJ.frozen hX 1;have f2:=QJ.frozen hX 2;have f3:=QJ.frozen hX 3;have f4:=QJ.frozen hX 4;have cE:=hE.cell;have fE:=hE.frozen;have h1':1≤n-1-1:=by omega
   gi_wp2_with fail
   obtain⟨hX',hE',hK',hB',-⟩:=Xt6 (o':=x) (v':= .nilIface) hX hE _ rfl;exact⟨hK'.from _,rfl,⟨x,rfl,hX'⟩,hE',hB1.trans (hB' _ (Nat.le_refl _))⟩
  case done=>
   rintro D zs W hD rfl ⟨⟨hp,hX,hE,hB1⟩,hsW⟩ hK;subst hp;obtain⟨z0,z1,z2,z3,z4⟩:=JV hX;have f0:=QJ.frozen hX 0;have f1:=QJ.frozen hX 1;have f2:=QJ.frozen hX 2;have f3:=QJ.frozen hX 3;have f4:=QJ.frozen hX 4;have cE:=hE.cell;have fE:=hE.frozen
   gi_wp2
   obtain⟨hX',hE',hK',hB',-⟩:=Xt6 (o':=noO) (v':= .iface 45 (.int .i64 8)) hX hE _ rfl;have hD':=hK'.same _ _ hK rfl;refine⟨by simp,.inl ⟨_,_,rfl,run_takeDeferred hD', ?_⟩⟩;refine⟨_,Ji6 (g:=w.heap.size) rfl rfl ((World.putObj_heap_other (by omega)).trans hX') ((World.putObj_heap_other (by omega)).trans hE'), ?_,rfl⟩;exact(hB1.trans (hB' _ (Nat.le_refl _))).trans (belowK_b (w:=w) (Nat.le_refl _) _ D _ _ (by omega) hD' rfl rfl)
  case stop=>
   rintro D c pre W hD hpre ⟨rfl,⟨x,rfl,hX⟩,hE,hB1⟩ hK;obtain⟨Lr,rfl⟩: ∃Lr,L=x::Lr:=by
    obtain⟨t,rfl⟩:=hpre;exact⟨t,rfl⟩
   gi_wp2
   refine⟨by simp,.inl ⟨_,_,rfl,run_takeDeferred hK, ?_⟩⟩;refine⟨_,Ji6 (g:=w.heap.size) rfl rfl ((World.putObj_heap_other (by omega)).trans hX) ((World.putObj_heap_other (by omega)).trans hE), ?_,rfl⟩;exact hB1.trans (belowK_b (w:=w) (Nat.le_refl _) W D _ _ (by omega) hK rfl rfl)
theorem Xt7 {H:Int→HS} {sd:Int} (hs:UQ sd):JY sd (H 1).L (H 2).L=(H sd).L:=by
 unfold JY
 rcases hs with rfl|rfl
 ·rw[if_pos rfl]
 ·rw[if_neg (by decide)]
theorem Qb9 (w:World) (b:Nat) (G:Nat→Prop) (L1 L2:List QX) (h:Q1 w b G L1 L2) (sd:Int) (hs:UQ sd):
  Calls Tryz.prog 86 #[.pointer (some ⟨b,0,none⟩),.int .i64 sd] w fun e w'=>Below w.heap.size w w'∧ ∃A c,e= .returned (.tuple #[.slice A (JY sd L1 L2).length c,.nilIface])∧QW w' A (JY sd L1 L2).length c 117 5 (JQ I6 (JY sd L1 L2))∧ ∀g,QZ A=some g→w.heap.size≤g:=by
 obtain⟨a,F,M,n,r,f,H,reg,hM,hS,hG,rfl,rfl⟩:=h
 rw[Xt7 hs]
 exact callsIn_wide.1 (Ze9 5 (by omega) sd hs b a r F M n f H reg hS hM.ar.le w hM)
theorem Ji7 (w:World) (b:Nat) (G:Nat→Prop) (L1 L2:List QX) (h:Q1 w b G L1 L2) (sd:Int) (hs:UQ sd):
  Calls Tryz.prog 174 #[.pointer (some ⟨b,0,none⟩),.int .i64 sd] w fun e w'=>Below w.heap.size w w'∧e= .returned (.tuple #[KJ (Kh4 (JY sd L1 L2)),VZ (Kh5 (JY sd L1 L2))]):=by
 obtain⟨a,F,M,n,r,f,H,reg,hM,hS,hG,rfl,rfl⟩:=h
 rw[Xt7 hs]
 exact callsIn_wide.1 (Zf0 5 (by omega) sd hs b a r F M n f H reg hS hM.ar.le w hM)
def Kh6 (p s:Int):Int:=max 1 (p-p*s/10000)
def Xk4 (p s:Int):Int:=min 1000000 (p+p*s/10000)
theorem Zf1 (p s:Int) (w:World) (h1:1≤p) (h2:p≤1000000) (h3:0≤s) (h4:s≤10000):
  Calls Tryz.prog 49 #[.int .i64 p,.int .i64 s] w fun e w'=>
   e= .returned (.tuple #[.int .i64 (Kh6 p s),.int .i64 (Xk4 p s),.nilIface])∧Below w.heap.size w w':=by
 go_enter Tryz.func49,Tryz.ntmps49
 have hm:0≤p*s:=Int.mul_nonneg (by omega) h3
 have hm2:p*s≤10000000000:=Int.le_trans (Int.mul_le_mul h2 h4 h3 (by omega)) (by omega)
 go_wp2_with (go_at_call 75;refine(Qb1 _ _ _ _ _ (by simp)).mono ?_;rintro e w' ⟨rfl,rfl⟩)
 all_goals
  go_ret3;exact⟨Zc4 (by unfold Kh6;omega) (by unfold Xk4;omega),((Below.refl _ _).alloc (Nat.le_refl _) _).alloc (by simp) _⟩
theorem Kx6 (p s:Int) (w:World) (h: ¬(1≤p∧p≤1000000∧0≤s∧s≤10000)):
  Calls Tryz.prog 49 #[.int .i64 p,.int .i64 s] w fun e w'=>
   e= .returned (.tuple #[.int .i64 0,.int .i64 0,.iface 45 (.int .i64 2)])∧Below w.heap.size w w':=by
 by_cases h1:1≤p
 ·by_cases h2:p≤1000000
  ·by_cases h3:0≤s
   ·have h4:decide (s≤10000)=false:=by simp;omega
    clear h;go_enter Tryz.func49,Tryz.ntmps49
    go_wp2_with (go_at_call 75;refine(Qb1 _ _ _ _ _ (by simp)).mono ?_;rintro e w' ⟨rfl,rfl⟩)
    go_ret3;exact⟨rfl,((Below.refl _ _).alloc (Nat.le_refl _) _).alloc (by simp) _⟩
   ·have h4:decide (0≤s)=false:=by simp;omega
    clear h h3;go_enter Tryz.func49,Tryz.ntmps49
    go_wp2_with (go_at_call 75;refine(Qb1 _ _ _ _ _ (by simp)).mono ?_;rintro e w' ⟨rfl,rfl⟩)
    go_ret3;exact⟨rfl,((Below.refl _ _).alloc (Nat.le_refl _) _).alloc (by simp) _⟩
  ·have h4:decide (p≤1000000)=false:=by simp;omega
   clear h h2;go_enter Tryz.func49,Tryz.ntmps49
   go_wp2_with (go_at_call 75;refine(Qb1 _ _ _ _ _ (by simp)).mono ?_;rintro e w' ⟨rfl,rfl⟩)
   go_ret3;exact⟨rfl,(Below.refl _ _).alloc (Nat.le_refl _) _⟩
 ·have h4:decide (1≤p)=false:=by simp;omega
  clear h h1;go_enter Tryz.func49,Tryz.ntmps49
  go_wp2_with (go_at_call 75;refine(Qb1 _ _ _ _ _ (by simp)).mono ?_;rintro e w' ⟨rfl,rfl⟩)
  go_ret3;exact⟨rfl,(Below.refl _ _).alloc (Nat.le_refl _) _⟩
end Go.Proofs.YtbmiieehkkfbgaaGreatDoor
