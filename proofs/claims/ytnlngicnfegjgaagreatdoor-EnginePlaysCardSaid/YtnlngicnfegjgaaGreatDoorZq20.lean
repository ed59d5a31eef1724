/- Parts. -/
import Derived.Test.YtnlngicnfegjgaaGreatDoorZq19
import Derived.Test.YtnlngicnfegjgaaGreatDoorZq18
set_option linter.unusedVariables false
set_option maxRecDepth 100000
set_option maxHeartbeats 8000000
open Go.Proofs.Tryz
open Go.Value renaming int→I,pointer→IP
open Go.IntKind renaming i64→O
namespace Go.Proofs.YtnlngicnfegjgaaGreatDoor
open Go.RowKit
attribute [local go_sem] Oper.semAt_some
theorem Ez sd (hs:Z4 sd) n (hn:2<=n) j u b a r S F M N f H reg (hS:U3 M N f H) (U:N<=100)
  w (hM:Z9 w b a F M N r f H reg) (a1: ∀i,V0 b r F H i-> ¬S i) (a0: ¬S j) (Z:w.cell? ⟨j,0,none⟩=some (IP (some ⟨b,0,none⟩))) (a2:w.cell? ⟨u,0,none⟩=some (I O sd)):
  SeqStopsK Fence.wide n prog 129 #[IP (some ⟨j,0,none⟩),IP (some ⟨u,0,none⟩)] (fun x:Q8=> #[X5 x]) (Q6 S) (fun ys=>ys=(H sd).L) (fun pre=>pre <+: (H sd).L) (H sd).L.length w:=by
 intro l J Jx W v D a5 hY h0
 have a4:=V6 w _ Z
 have a3:=V6 w _ a2
 have c1:=(v.cell (p:=⟨j,0,none⟩) a4).trans Z
 have E:=(v.cell (p:=⟨u,0,none⟩) a3).trans a2
 rcases hs with rfl|rfl
 ·exact Jb6 n hn l j u b a r S F M N f H reg hS U J Jx (fun pre W W' C y=>Ch D C y) hY W (hM.below v) a1 a0 c1 E h0
 exact Jb7 n hn l j u b a r S F M N f H reg hS U J Jx (fun pre W W' C y=>Ch D C y) hY W (hM.below v) a1 a0 c1 E h0
theorem Mp {S} {w:World} (j: ∀i,w.heap.size<=i->S i) W l o o' (y:w.heap.size<=l) (h1:W.heap[l]?=some o) (h2:o.isCells=false) (v:o.isWalk=false):Q6 S W (W.putObj l o'):=
 ⟨rfl,rfl,rfl,by simp[World.putObj],fun k hk u=>Qs (fun e=>u (j k (by omega)))⟩
theorem Gz n (i:1<=n) b sd w:
  CallsIn Fence.wide n prog 91 #[IP (some ⟨b,0,none⟩),I O sd] w fun e w'=>
   e= .returned (.func (.func 129) #[] #[IP (some ⟨w.heap.size,0,none⟩),IP (some ⟨w.heap.size+1,0,none⟩)])/\w'=(w.alloc (.cells #[IP (some ⟨b,0,none⟩)] 97)).alloc (.cells #[I O sd] 3):=by
 refine callsIn_of_wp func91 rfl trivial ?_ rfl
 simp only[ntmps91,List.size_toArray,List.length_cons,List.length_nil,Nat.reduceAdd,Nat.reduceSub,Array.replicate_succ,Array.replicate_zero,List.push_toArray,List.append_toArray,List.nil_append,List.cons_append]
 gi_wp2
 go_ret
 exact⟨rfl,rfl⟩
theorem Xh:(prog.info? 29).map (fun i=>(i.zero,i.size,i.bytes))=some (some (.agg #[I O 0,I O 0,I O 0,I O 0,I O 0]),5,40):=by kernel_rfl
theorem Yr {W:World} {base base' e size v k xs} (u:base'<=base) (h:W.ownsRow base e size v k xs):W.ownsRow base' e size v k xs:=by
 refine⟨h.1, ?_⟩
 rcases h.2 with j|⟨g,cap,y,h1,h2,i⟩
 ·exact .inl j
 exact .inr ⟨g,cap,y,h1,G0 u h2,i⟩
theorem Qs4 {W:World} {base e size v k xs} (h:W.ownsRow base e size v k xs): ∃A c,v= .slice A k c/\ ∀g,Q7 A=some g->base<=g:=by
 rcases h.2 with⟨h1,h2⟩|⟨g,cap,u,h1,h2,i⟩
 ·exact⟨none,0,by rw[h1,h2],fun g e=>by cases e⟩
 exact⟨_,cap,h1,fun j e=>by cases e;exact h2⟩
theorem Jn6 {M n f H s} (i:Z4 s) (j:U3 M n f H) (h2:n<=100):(H s).L.length<=100:=by
 have h1:=j.cnt
 unfold HS.L U6
 rw[MT]
 unfold B4 at h1
 rw[Y9]at h1
 rcases i with rfl|rfl<;>omega
theorem Ji5 n (hn:5<=n) sd (y:Z4 sd) b a r F M N f H reg (hS:U3 M N f H) (hN:N<=100) w (hM:Z9 w b a F M N r f H reg):
  CallsIn Fence.wide n prog 42 #[IP (some ⟨b,0,none⟩),I O sd] w fun e w'=>Below w.heap.size w w'/\ ∃A c,e= .returned (.tuple #[.slice A (H sd).L.length c,.nilIface])/\J2 w' A (H sd).L.length c 29 5 (Q9 X9 (H sd).L)/\ ∀g,Q7 A=some g->w.heap.size<=g:=by
 have h1:1<=n:=by omega
 have h2:1<=n-1:=by omega
 have c8:Fence.wide.fn 91:=trivial
 obtain⟨i0,Z,c4,b5,c3⟩:=N0 Xh
 have HM:=Q0 hM
 have b1:=Q0 hS
 have HN:=Q0 hN
 clear hM hS hN
 obtain⟨L,a9⟩:=exq ((H sd).L)
 rw[a9]
 refine callsIn_of_wp_marks func42 rfl trivial ?_ rfl
 simp only[ntmps42,List.size_toArray,List.length_cons,List.length_nil,Nat.reduceAdd,Nat.reduceSub,Array.replicate_succ,Array.replicate_zero,List.push_toArray,List.append_toArray,List.nil_append,List.cons_append]
 gi_upto_region 1 with fail
 gi_cut [13]from 8 (fun b9 wx=>b9= .bool false/\wx=w)
 case first=>
  rcases y with rfl|rfl
  all_goals
   gi_wp2
   gi_meet
   exact⟨rfl,rfl⟩
 obtain⟨rfl,rfl⟩:=hcut
 gi_wp2_with (gi_at_call 91;refine(Gz _ (by omega) b _ _).mono ?_;rintro e w' ⟨rfl,rfl⟩)
 have bO:=((Boxed.new wc 47 (.slice none 0 0)).alloc (.cells #[IP (some ⟨b,0,none⟩)] 97)).alloc (.cells #[I O sd] 3)
 have bB:=(Boxed.new (wc.alloc (.cells #[.slice none 0 0] 47)) 97 (IP (some ⟨b,0,none⟩))).alloc (.cells #[I O sd] 3)
 have bS:=Boxed.new ((wc.alloc (.cells #[.slice none 0 0] 47)).alloc (.cells #[IP (some ⟨b,0,none⟩)] 97)) 3 (I O sd)
 simp only[World.size_alloc]at bB bS
 have a3:Below wc.heap.size wc (((wc.alloc (.cells #[.slice none 0 0] 47)).alloc (.cells #[IP (some ⟨b,0,none⟩)] 97)).alloc (.cells #[I O sd] 3)):=(((Q2 _ wc).alloc (Q4 _) _).alloc (by simp) _).alloc (by simp;omega) _
 have c0:(((wc.alloc (.cells #[.slice none 0 0] 47)).alloc (.cells #[IP (some ⟨b,0,none⟩)] 97)).alloc (.cells #[I O sd] 3)).heap.size=wc.heap.size+3:=by simp
 obtain⟨j,a7⟩:=exq (((wc.alloc (.cells #[.slice none 0 0] 47)).alloc (.cells #[IP (some ⟨b,0,none⟩)] 97)).alloc (.cells #[I O sd] 3))
 rw[a7]at bO bB bS a3 c0|-
 clear a7
 have hL:(H sd).L.length<=100:=Jn6 y b1 HN
 have a4:=Ez sd y (n-1) (by omega) (wc.heap.size+1) (wc.heap.size+1+1) b a r (fun i=>i=wc.heap.size\/j.heap.size<=i) F M N f H reg b1 HN j (HM.below a3)
  (fun i Z e=>by have:=HM.fp Z;rcases e with e|e<;>omega) (fun e=>by rcases e with e|e<;>omega) bB.cell bS.cell
 rw[a9]at hL a4
 have b8:=Q0 a4
 clear a4
 refine wpIn_rangeFunc_ownH rfl h1 (gf:=129) (lb:= #[IP (some ⟨wc.heap.size+1,0,none⟩),IP (some ⟨wc.heap.size+1+1,0,none⟩)]) rfl trivial (enters_of func129 (by kernel_rfl) rfl)
  b8 (fun h k=>h.trans k (fun i h=> .inl h)) (Mp (fun i Z=> .inr Z)) (Q2 _ _) (fun _=>rfl)
  (fun pre W=>(∃v,Boxed W wc.heap.size 47 v/\W.ownsRow j.heap.size 29 5 v pre.length (Q9 X9 pre)/\True)/\(Below wc.heap.size wc W/\j.heap.size<=W.heap.size))
  (fun _ _ _=>False)
  (OwnFrom.and (Own.from (holdsRow_own j.heap.size wc.heap.size 47 29 5 (fun pre:List Q8=>pre.length) (fun pre=>Q9 X9 pre) (fun _ _=>True)) _) (OwnFrom.and (ownFrom_below (Q4 _) (by omega)) (fun _ X Y c2 y U hr=>G0 y U.size)))
  (fun _ _ _ _ _ y _ _=>y)
  ⟨⟨_,bO,⟨rfl,.inl ⟨rfl,rfl⟩⟩,trivial⟩,a3,Q4 _⟩
  (fun x a' W=> ∃J,j.heap.size<=J/\Q1 W J 29 (J8 x)/\a'= {tmps:= #[IP (some ⟨b,0,none⟩),I O sd,undef,undef,.slice none 0 0,.nilIface,IP (some ⟨wc.heap.size,0,none⟩),IP (some ⟨J,0,none⟩),u8,u9,u10,u11,u12,.bool false,u14,IP (some ⟨b,0,none⟩),I O sd,.func (.func 129) #[] #[IP (some ⟨wc.heap.size+1,0,none⟩),IP (some ⟨wc.heap.size+1+1,0,none⟩)],X5 x,u19,u20,u21,u22,u23],defers:= []})
  (fun x a' _ X Y c2 y U hr=>by
   obtain⟨J,h1,h2,h3⟩:=y;exact⟨J,h1,h2.grown U (fun e=>by obtain⟨_,o,ho,hc⟩:=hr J e.symm;rw[show X.heap[J]?=_ from h2]at ho;cases ho;cases hc),h3⟩)
  ?assign ?body ?done ?stop
 case assign=>
  rintro l pre x W K ⟨⟨v,u,C,_⟩,E,a0⟩ hK;obtain⟨id,side,c9,d1,c6⟩:=x;simp only[X5]
  gi_wp2
  exact hK _ _ ((KeepsOthers.alloc _ _).from _) (U1 ((Q2 _ W).alloc (Q4 _) _) _)
   ⟨⟨v,u.alloc _,C.alloc _,trivial⟩,E.alloc E.size _,by simp;omega⟩ ⟨W.heap.size,a0,J9 _ _ _,rfl⟩
 case body=>
  rintro l pre x a' W hl ⟨rc,hr⟩ ⟨⟨v,u,C,_⟩,E,a0⟩ ⟨J,d4,bX,rfl⟩ d0;have cO:=u.cell;obtain⟨x0,x1,x2,x3,x4⟩:=Z6 bX;have d2:1<=n-1-1:=by omega
  have d3:=u.lt;have c7:=E.size;have b0:wc.heap.size<=j.heap.size:=by omega
  gi_wp2_with (gi_at_builtin;refine wpListIn_append_own _ rfl _ _ 47 rfl j.heap.size 29 i0 _ 5 40 QM Z c4 b5 c3 rfl (by decide) _ _ _ rfl (C.alloc _) ⟨W.heap.size,0,none⟩ 1 1 (X9 x) rfl rfl (JB (cs:=J8 x) (t:=29) (fr:=(0,0)) (S5 W _)) (JK _) (by unfold maxLen;omega) (by omega) (by simp;omega) ?_;intro v' w1 a5 a6 _;have a2:Boxed w1 wc.heap.size 47 v:=(u.alloc _).kept a6 (u.not_row (by decide) C);have c1:=a2.cell;have f1:=a2.frozen;obtain⟨gg,cap,rfl⟩:=ownsRow_succ a5;go_frame)
  have U:(W.alloc (.cells (J8 x) 29)).grownBy w1 v.ownBlock:=a6;obtain⟨-,c5,-,b2,a1⟩:=u.appended (by decide) (Yr b0 C) E.size (Q4 _) (Yr b0 a5) U;have a8:w1.ownsRow j.heap.size 29 5 (.slice (some ⟨gg,0,none⟩) (pre.length+1) cap) (pre.length+1) (Q9 X9 pre++X9 x):=a5;refine⟨b2.from _,⟨a1.os,a1.tape,a1.output,G0 (by simp) (G0 U.size (by simp[World.setCell])),fun k hk hn=> ?_⟩,⟨_,c5, ?_,trivial⟩,E.trans a1,G0 a0 (G0 (by simp) (G0 U.size (by simp[World.setCell])))⟩
  ·refine(Below.heap_setCell w1 _ _ k (fun e=>hn (.inl e))).trans ((U.block k (by simp;omega) (fun e=> ?_)).trans (Below.heap_alloc W _ k hk))
   exact hn (.inr (C.lt k e.symm).1)
  rw[Y9,UE];exact a8.kept (grownBy_setCell' w1 _ _) (.inr (a2.not_row (by decide) a8).symm)
 case done=>
  rintro D zs W hD rfl ⟨⟨v,u,C,_⟩,E,a0⟩ hK;have cO:=u.cell
  gi_wp2
  refine⟨by simp,.inl ⟨_,_,rfl,run_takeDeferred hK, ?_⟩⟩;obtain⟨A,c,rfl,hA⟩:=Qs4 C;refine⟨_,results_tmp2 rfl _ _ _, ?_,A,c,rfl,Yr (V5 _) (ownsRow_putObj C _ hK rfl),fun g e=> ?_⟩
  ·exact E.trans (belowK_b (w:=wc) (Q4 _) W D _ _ (by omega) hK rfl rfl)
  have:=hA g e;omega
 rintro D c pre W _ _ h _
 exact h.elim
attribute [local go_sem] Oper.semAt_some
def Kx (L:List Q8):Q8:=L.headD Y3
def Ky:List Q8->Int
 | []=>8
 |_::_=>0
theorem Sk {P:Program} {y:Func} {p q:Tmp} {i u:TypeId} (h:y.results= #[.cell p i,.cell q u]) (tmps:Array Value) (w:World) (g j:Nat) (t:TypeId) (cs:Array Value) (v:Value) (fr:Nat×Nat) (d:TypeDesc)
  (hp:tmps.getD p undef= IP (some ⟨g,0,none⟩)) (J:tmps.getD q undef= IP (some ⟨j,0,none⟩)) (D:w.heap[g]?=some (.cells cs t fr))
  (N:P.underlying i=some d) (U:(match d with| .struct _| .array _ _=>true|_=>false)=true) (Z:(P.info? i).map (·.size)=some cs.size)
  (h2:(loadVar u ⟨j,0,none⟩).run P w= .ok v w):(results y tmps).run P w= .ok (.tuple #[.agg cs,v]) w:=by
 have E:tmps[p]?.getD undef= IP (some ⟨g,0,none⟩):=by simpa using hp
 have C:tmps[q]?.getD undef= IP (some ⟨j,0,none⟩):=by simpa using J
 simp[results,h,E,C,asAddr,run_loadVar_row w g t i cs fr d D N U Z,h2,Sem.run_bind,Result.andThen]
theorem Jc0 {w g v} (h:w.cell? ⟨g,0,none⟩=some v):(loadVar 44 ⟨g,0,none⟩).run prog w= .ok v w:=by
 simp[loadVar,go_sem,h]
theorem Cj {tmps W g o v} (u:tmps.getD 4 undef= IP (some ⟨g,0,none⟩)) (j:tmps.getD 5 undef= IP (some ⟨g+1,0,none⟩)) (y:Q1 W g 29 (J8 o)) (i:Boxed W (g+1) 44 v):
  (results Tryz.f118 tmps).run prog W= .ok (.tuple #[X5 o,v]) W:=
 Sk Tryz.results118 tmps W g (g+1) 29 (J8 o) v (0,0) _ u j y PF rfl (by show(prog.info? 29).map (·.size)=some 5;kernel_rfl) (Jc0 i.cell)
def Jl2 (w:World) (c:Code) (pre:List Q8) (W:World):Prop:=c= .ret/\(∃x,pre= [x]/\Q1 W w.heap.size 29 (J8 x))/\Boxed W (w.heap.size+1) 44 .nilIface/\Below w.heap.size w W
def Jm9 (w:World) (pre:List Q8) (W:World):Prop:=pre= []/\Q1 W w.heap.size 29 (J8 Y3)/\Boxed W (w.heap.size+1) 44 .nilIface/\Below w.heap.size w W
theorem TW {X Y g B t cs row} (h:Q1 X g t cs) (j:X.grownBy Y row) (v: ∀r,row=some r->B<=r/\ ∃o,X.heap[r]?=some o/\o.isCells=false):Q1 Y g t cs:=
 h.grown j (fun e=>by obtain⟨_,o,i,u⟩:=v g e.symm;rw[show X.heap[g]?=_ from h]at i;cases i;cases u)
theorem Mq {W g o o' v v'} (j:Q1 W g 29 (J8 o)) (u:Boxed W (g+1) 44 v) W'
  (e:W'=(((((W.setCell ⟨g,0,none⟩ (I O o'.id)).setCell ⟨g,1,none⟩ (I O o'.side)).setCell ⟨g,2,none⟩ (I O o'.kind)).setCell ⟨g,3,none⟩ (I O o'.price)).setCell ⟨g,4,none⟩ (I O o'.qty)).setCell ⟨g+1,0,none⟩ v'):
  Q1 W' g 29 (J8 o')/\Boxed W' (g+1) 44 v'/\KeepsOthers W W'/\(∀B,B<=g->Below B W W')/\W.heap.size<=W'.heap.size:=by
 subst e
 have y:Q1 W (g+1) 44 #[v]:=u
 refine⟨?_, ?_, ?_,fun B i=> ?_,by simp[World.setCell]⟩
 ·exact XP (J7 (J7 (J7 (J7 (J7 j 0 _) 1 _) 2 _) 3 _) 4 _) (by simp) _
 ·exact J7 (XP (XP (XP (XP (XP y (by simp) _) (by simp) _) (by simp) _) (by simp) _) (by simp) _) 0 _
 ·exact(((((TY _ _ _).trans (TY _ _ _)).trans (TY _ _ _)).trans (TY _ _ _)).trans (TY _ _ _)).trans (TY _ _ _)
 exact((((((Q2 B W).setCell (p:=⟨g,0,none⟩) i _).setCell (p:=⟨g,1,none⟩) i _).setCell (p:=⟨g,2,none⟩) i _).setCell (p:=⟨g,3,none⟩) i _).setCell (p:=⟨g,4,none⟩) i _).setCell (p:=⟨g+1,0,none⟩) (by show B<=g+1;omega) _
theorem Ji6 n (hn:5<=n) sd (u:Z4 sd) b a r F M N f H reg (hS:U3 M N f H) (hN:N<=100) w (hM:Z9 w b a F M N r f H reg):
  CallsIn Fence.wide n prog 118 #[IP (some ⟨b,0,none⟩),I O sd] w fun e w'=>Below w.heap.size w w'/\e= .returned (.tuple #[X5 (Kx (H sd).L),U0 (Ky (H sd).L)]):=by
 have h1:1<=n:=by omega
 have h2:1<=n-1:=by omega
 have c2:Fence.wide.fn 91:=trivial
 have HM:=Q0 hM
 have c1:=Q0 hS
 have HN:=Q0 hN
 clear hM hS hN
 obtain⟨L,b1⟩:=exq ((H sd).L)
 rw[b1]
 refine callsIn_of_wp_marks func118 rfl trivial ?_ rfl
 simp only[ntmps118,List.size_toArray,List.length_cons,List.length_nil,Nat.reduceAdd,Nat.reduceSub,Array.replicate_succ,Array.replicate_zero,List.push_toArray,List.append_toArray,List.nil_append,List.cons_append]
 gi_upto_region 1 with fail
 gi_cut [12]from 7 (fun c0 wx=>c0= .bool false/\wx=(w.alloc (.cells (J8 Y3) 29)).alloc (.cells #[.nilIface] 44))
 case first=>
  rcases u with rfl|rfl
  all_goals
   gi_wp2
   gi_meet
   exact⟨rfl,rfl⟩
 obtain⟨rfl,rfl⟩:=hcut
 gi_wp2_with (gi_at_call 91;refine(Gz _ (by omega) b _ _).mono ?_;rintro e w' ⟨rfl,rfl⟩)
 have b0:=(((J9 w 29 (J8 Y3)).alloc (.cells #[.nilIface] 44)).alloc (.cells #[IP (some ⟨b,0,none⟩)] 97)).alloc (.cells #[I O sd] 3)
 have a0:=((Boxed.new (w.alloc (.cells (J8 Y3) 29)) 44 .nilIface).alloc (.cells #[IP (some ⟨b,0,none⟩)] 97)).alloc (.cells #[I O sd] 3)
 have bB:=(Boxed.new ((w.alloc (.cells (J8 Y3) 29)).alloc (.cells #[.nilIface] 44)) 97 (IP (some ⟨b,0,none⟩))).alloc (.cells #[I O sd] 3)
 have bS:=Boxed.new (((w.alloc (.cells (J8 Y3) 29)).alloc (.cells #[.nilIface] 44)).alloc (.cells #[IP (some ⟨b,0,none⟩)] 97)) 3 (I O sd)
 simp only[World.size_alloc]at a0 bB bS
 have a4:Below w.heap.size w ((((w.alloc (.cells (J8 Y3) 29)).alloc (.cells #[.nilIface] 44)).alloc (.cells #[IP (some ⟨b,0,none⟩)] 97)).alloc (.cells #[I O sd] 3)):=((((Q2 _ w).alloc (Q4 _) _).alloc (by simp) _).alloc (by simp;omega) _).alloc (by simp;omega) _
 have b9:((((w.alloc (.cells (J8 Y3) 29)).alloc (.cells #[.nilIface] 44)).alloc (.cells #[IP (some ⟨b,0,none⟩)] 97)).alloc (.cells #[I O sd] 3)).heap.size=w.heap.size+4:=by simp
 obtain⟨Z,a9⟩:=exq ((((w.alloc (.cells (J8 Y3) 29)).alloc (.cells #[.nilIface] 44)).alloc (.cells #[IP (some ⟨b,0,none⟩)] 97)).alloc (.cells #[I O sd] 3))
 rw[a9]at b0 a0 bB bS a4 b9|-
 clear a9
 have a5:=Ez sd u (n-1) (by omega) (w.heap.size+1+1) (w.heap.size+1+1+1) b a r (fun i=>Z.heap.size<=i) F M N f H reg c1 HN Z (HM.below a4)
  (fun i hi e=>by have:=HM.fp hi;omega) (fun e=>by omega) bB.cell bS.cell
 rw[b1]at a5
 have b8:=Q0 a5
 clear a5
 refine wpIn_rangeFunc_ownH rfl h1 (gf:=129) (lb:= #[IP (some ⟨w.heap.size+1+1,0,none⟩),IP (some ⟨w.heap.size+1+1+1,0,none⟩)]) rfl trivial (enters_of func129 (by kernel_rfl) rfl)
  b8 (fun h k=>h.trans k (fun i h=> .inl h)) (Mp (fun i hi=>hi)) (Q2 _ _) (fun _=>rfl)
  (fun pre W=>Jm9 w pre W/\Z.heap.size<=W.heap.size) (Jl2 w)
  (OwnFrom.and (fun s X Y a6 u C v=>⟨u.1,TW u.2.1 C v,TW u.2.2.1 C v,u.2.2.2.grown C u.2.2.2.size (fun k e=>by have:=(v k e).1;omega)⟩) (fun _ X Y a6 u C v=>G0 u C.size))
  (fun c s X Y a6 u C v=>⟨u.1,u.2.1.imp (fun x h=>⟨h.1,TW h.2 C v⟩),TW u.2.2.1 C v,u.2.2.2.grown C u.2.2.2.size (fun k e=>by have:=(v k e).1;omega)⟩)
  ⟨⟨rfl,b0,a0,a4⟩,Q4 _⟩
  (fun x a' W=> ∃J,Z.heap.size<=J/\Q1 W J 29 (J8 x)/\a'= {tmps:= #[IP (some ⟨b,0,none⟩),I O sd,undef,undef,IP (some ⟨w.heap.size,0,none⟩),IP (some ⟨w.heap.size+1,0,none⟩),IP (some ⟨J,0,none⟩),u7,u8,u9,u10,u11,.bool false,u13,u14,IP (some ⟨b,0,none⟩),I O sd,.func (.func 129) #[] #[IP (some ⟨w.heap.size+1+1,0,none⟩),IP (some ⟨w.heap.size+1+1+1,0,none⟩)],X5 x,u19,u20,u21],defers:= []})
  (fun x a' _ X Y a6 u C v=>by
   obtain⟨J,h1,h2,h3⟩:=u;exact⟨J,h1,TW h2 C v,h3⟩)
  ?assign ?body ?done ?stop
 case assign=>
  rintro l pre x W K ⟨⟨hp,j,y,E⟩,a2⟩ U;simp only[X5]
  gi_wp2
  exact U _ _ ((KeepsOthers.alloc _ _).from _) (U1 ((Q2 _ W).alloc (Q4 _) _) _)
   ⟨⟨hp,j.alloc _,y.alloc _,E.alloc E.size _⟩,by simp;omega⟩ ⟨W.heap.size,a2,J9 _ _ _,rfl⟩
 case body=>
  rintro l pre x a' W hl ⟨rc,v⟩ ⟨⟨rfl,j,y,E⟩,a2⟩ ⟨J,c5,bX,rfl⟩ c3;obtain⟨x0,x1,x2,x3,x4⟩:=Z6 bX;obtain⟨z0,z1,z2,z3,z4⟩:=Z6 j;have f0:=J1 j 0;have f1:=J1 j 1;have f2:=J1 j 2;have f3:=J1 j 3;have f4:=J1 j 4;have cE:=y.cell;have fE:=y.frozen;have c4:1<=n-1-1:=by omega
  gi_wp2_with fail
  obtain⟨a1,a8,a7,a3,-⟩:=Mq (o':=x) (v':= .nilIface) j y _ rfl;exact⟨a7.from _,rfl,⟨x,rfl,a1⟩,a8,E.trans (a3 _ (Q4 _))⟩
 case done=>
  rintro D zs W hD rfl ⟨⟨hp,j,y,E⟩,a2⟩ U;subst hp;obtain⟨z0,z1,z2,z3,z4⟩:=Z6 j;have f0:=J1 j 0;have f1:=J1 j 1;have f2:=J1 j 2;have f3:=J1 j 3;have f4:=J1 j 4;have cE:=y.cell;have fE:=y.frozen
  gi_wp2
  obtain⟨a1,a8,a7,a3,-⟩:=Mq (o':=Y3) (v':= .iface 52 (I O 8)) j y _ rfl;have b2:=a7.same _ _ U rfl;refine⟨by simp,.inl ⟨_,_,rfl,run_takeDeferred b2, ?_⟩⟩;refine⟨_,Cj (g:=w.heap.size) rfl rfl ((Qs (by omega)).trans a1) ((Qs (by omega)).trans a8), ?_,rfl⟩;exact(E.trans (a3 _ (Q4 _))).trans (belowK_b (w:=w) (Q4 _) _ D _ _ (by omega) b2 rfl rfl)
 rintro D c pre W hD b5 ⟨rfl,⟨x,rfl,j⟩,y,E⟩ U
 obtain⟨Lr,rfl⟩: ∃Lr,L=x::Lr:=by
  obtain⟨t,rfl⟩:=b5;exact⟨t,rfl⟩
 gi_wp2
 refine⟨by simp,.inl ⟨_,_,rfl,run_takeDeferred U, ?_⟩⟩
 refine⟨_,Cj (g:=w.heap.size) rfl rfl ((Qs (by omega)).trans j) ((Qs (by omega)).trans y), ?_,rfl⟩
 exact E.trans (belowK_b (w:=w) (Q4 _) W D _ _ (by omega) U rfl rfl)
theorem Mr {H:Int->HS} {sd} (i:Z4 sd):X6 sd (H 1).L (H 2).L=(H sd).L:=by
 unfold X6
 rcases i with rfl|rfl
 ·rw[Q5 rfl]
 rw[Q3 (by decide)]
theorem PT w b G L1 L2 (h:QY w b G L1 L2) sd (i:Z4 sd):
  Calls prog 42 #[IP (some ⟨b,0,none⟩),I O sd] w fun e w'=>Below w.heap.size w w'/\ ∃A c,e= .returned (.tuple #[.slice A (X6 sd L1 L2).length c,.nilIface])/\J2 w' A (X6 sd L1 L2).length c 29 5 (Q9 X9 (X6 sd L1 L2))/\ ∀g,Q7 A=some g->w.heap.size<=g:=by
 obtain⟨a,F,M,n,r,f,H,reg,j,u,v,rfl,rfl⟩:=h
 rw[Mr i]
 exact GV.1 (Ji5 5 (by omega) sd i b a r F M n f H reg u j.ar.le w j)
theorem Ck w b G L1 L2 (h:QY w b G L1 L2) sd (i:Z4 sd):
  Calls prog 118 #[IP (some ⟨b,0,none⟩),I O sd] w fun e w'=>Below w.heap.size w w'/\e= .returned (.tuple #[X5 (Kx (X6 sd L1 L2)),U0 (Ky (X6 sd L1 L2))]):=by
 obtain⟨a,F,M,n,r,f,H,reg,j,u,v,rfl,rfl⟩:=h
 rw[Mr i]
 exact GV.1 (Ji6 5 (by omega) sd i b a r F M n f H reg u j.ar.le w j)
def Kz (p s:Int):Int:=max 1 (p-p*s/10000)
def Kq (p s:Int):Int:=min 1000000 (p+p*s/10000)
theorem Ji7 p s w (h1:1<=p) (h2:p<=1000000) (i:0<=s) (j:s<=10000):
  Calls prog 35 #[I O p,I O s] w fun e w'=>
   e= .returned (.tuple #[I O (Kz p s),I O (Kq p s),.nilIface])/\Below w.heap.size w w':=by
 go_enter func35,ntmps35
 have v:0<=p*s:=Int.mul_nonneg (by omega) i
 have u:p*s<=10000000000:=GK (Int.mul_le_mul h2 j i (by omega)) (by omega)
 go_wp2_with (go_at_call 85;refine(LL _ _ _ _ _ (by simp)).mono ?_;rintro e w' ⟨rfl,rfl⟩)
 all_goals
  go_ret3;exact⟨Nf (by unfold Kz;omega) (by unfold Kq;omega),((Q2 _ _).alloc (Q4 _) _).alloc (by simp) _⟩
theorem Jc1 p s w (h: ¬(1<=p/\p<=1000000/\0<=s/\s<=10000)):
  Calls prog 35 #[I O p,I O s] w fun e w'=>
   e= .returned (.tuple #[I O 0,I O 0,.iface 52 (I O 2)])/\Below w.heap.size w w':=by
 by_cases h1:1<=p
 ·by_cases h2:p<=1000000
  ·by_cases j:0<=s
   ·have i:decide (s<=10000)=false:=by simp;omega
    clear h;go_enter func35,ntmps35
    go_wp2_with (go_at_call 85;refine(LL _ _ _ _ _ (by simp)).mono ?_;rintro e w' ⟨rfl,rfl⟩)
    go_ret3;exact⟨rfl,((Q2 _ _).alloc (Q4 _) _).alloc (by simp) _⟩
   have i:decide (0<=s)=false:=by simp;omega
   clear h j;go_enter func35,ntmps35
   go_wp2_with (go_at_call 85;refine(LL _ _ _ _ _ (by simp)).mono ?_;rintro e w' ⟨rfl,rfl⟩)
   go_ret3;exact⟨rfl,((Q2 _ _).alloc (Q4 _) _).alloc (by simp) _⟩
  have i:decide (p<=1000000)=false:=by simp;omega
  clear h h2;go_enter func35,ntmps35
  go_wp2_with (go_at_call 85;refine(LL _ _ _ _ _ (by simp)).mono ?_;rintro e w' ⟨rfl,rfl⟩)
  go_ret3;exact⟨rfl,(Q2 _ _).alloc (Q4 _) _⟩
 have i:decide (1<=p)=false:=by simp;omega
 clear h h1
 go_enter func35,ntmps35
 go_wp2_with (go_at_call 85;refine(LL _ _ _ _ _ (by simp)).mono ?_;rintro e w' ⟨rfl,rfl⟩)
 go_ret3
 exact⟨rfl,(Q2 _ _).alloc (Q4 _) _⟩
theorem T7 {w g t a b c d e} (h:Q1 w g t #[a,b,c,d,e]):
  w.cell? ⟨g,0,none⟩=some a/\w.cell? ⟨g,1,none⟩=some b/\w.cell? ⟨g,2,none⟩=some c/\w.cell? ⟨g,3,none⟩=some d/\w.cell? ⟨g,4,none⟩=some e:=
 ⟨by rw[J0 h];rfl,by rw[J0 h];rfl,by rw[J0 h];rfl,by rw[J0 h];rfl,by rw[J0 h];rfl⟩
theorem Rn {W w1} (i:Below W.heap.size W w1):(∀b o,b<W.heap.size->w1.cell? ⟨b,o,none⟩=W.cell? ⟨b,o,none⟩)/\(∀b o,b<W.heap.size->w1.frozen? ⟨b,o,none⟩=W.frozen? ⟨b,o,none⟩):=
 ⟨fun b o h=>i.cell (p:=⟨b,o,none⟩) h,fun b o h=>i.frozen (p:=⟨b,o,none⟩) h⟩
theorem Q6.drew0 {S w w'} (h:Q6 S w.drew w'):Q6 S w w':=⟨h.os,h.tape,h.output,h.size,h.block⟩
theorem Jp {w b a n r F M f H reg h1 h2 sd pr mk} (j:Z9 w b a F M n r f H reg):
  let W:=(w.alloc (.cells #[I O 0,I O 0,I O 0,I O 0,I O 0] 29)).alloc (.cells #[I O h1,I O h2,I O sd,I O pr,.bool mk] 188)
  Below w.heap.size w W/\Z9 W b a F M n r f H reg/\Q1 W w.heap.size 29 #[I O 0,I O 0,I O 0,I O 0,I O 0]/\Q1 W (w.heap.size+1) 188 #[I O h1,I O h2,I O sd,I O pr,.bool mk]:=by
 intro W
 have i:Below w.heap.size w W:=((Q2 _ w).alloc (Q4 _) _).alloc (by simp) _
 refine⟨i,j.below i,G7 (J9 w _ _) _, ?_⟩
 have:=J9 (w.alloc (.cells #[I O 0,I O 0,I O 0,I O 0,I O 0] 29)) 188 #[I O h1,I O h2,I O sd,I O pr,.bool mk]
 rwa [PL]at this
theorem Kh w r f (h:P7 w r f) id:
  ∃w',(∀i,(Builtin.delete_ #[150,3] i #[.map (some r),I O id]).run prog w= .ok (.tuple #[]) w')/\P7 w' r (D0 f id none)/\BY w w' r:=by
 obtain⟨w',h1,h2,j⟩:=h.delete (P:=prog) (t:=150) PD VN id 3 0
 exact⟨w',fun i=>h1,h2,j⟩
section
variable {M:Int->Int->Option Q8} {n m:Nat} {f:Int->Option Value} {H:Int->HS} {s:Int}
theorem Nu (i:Z4 s) (j:U3 M n f H) (h2:n<=100):(H s).ms.length<=1000:=by
 have h1:=j.cnt
 unfold B4 HS.all D2 at h1
 simp only[List.length_append]at h1
 rcases i with rfl|rfl<;>omega
theorem Ki (u:Z4 s) (v:U3 M n f H) (h2:n<=100):(H s).qs.length<=100000:=by
 have h1:=v.cnt
 have C:(H s).qs.length<=(U5 (H s).qs).length:=by
  have i:=v.ne s u;generalize(H s).qs=l at i
  induction l with
  |nil=>simp
  |cons q l j=>
   have j:=j (fun q y=>i q (by simp[y]));have D:0<q.os.length:=PB.2 (i q (by simp));have e:U5 (q::l)=q.os++U5 l:=rfl;rw[e,Y9,XX];omega
 unfold B4 HS.all D2 at h1
 simp only[List.length_append]at h1
 rcases u with rfl|rfl<;>omega
theorem Pv (j:Z4 s) (i:U3 M n f H) (h2:n<=100) {k} (hk:k< (H s).qs.length):(H s).qs[k].os.length<=1000:=by
 have h1:=i.cnt
 have u:(H s).qs[k].os.length<=(U5 (H s).qs).length:=by
  rw[EG _ hk];simp only[List.length_append];omega
 unfold B4 HS.all D2 at h1
 simp only[List.length_append]at h1
 rcases j with rfl|rfl<;>omega
end
def Kr (w wx:World) (qg k:Nat) (A:Option Addr) (c:Nat) (os:List HO) (h:Int×Int):Prop:=
 ∃w5,wx=World.setCell w5 ⟨qg,k*2+1,none⟩ (.slice A (os.filter (B3 h)).length c)/\Q6 (fun i=>Q7 A=some i) w w5/\J2 w5 A (os.filter (B3 h)).length c 186 2 (Q9 E8 (A6 (os.filter (B3 h))))
theorem Ha {w w5 qg k A c os h} (hk:Q6 (fun i=>Q7 A=some i) w.drew w5) (j:J2 w5 A ((A6 os).filter fun p=> !PK h p).length c 186 2 (Q9 E8 ((A6 os).filter fun p=> !PK h p))):
  Kr w (w5.setCell ⟨qg,k*2+1,none⟩ (.slice A ((A6 os).filter fun p=> !PK h p).length c)) qg k A c os h:=by
 refine⟨w5,by rw[Qz],hk.drew0, ?_⟩
 rw[Qz,<-Xg]at j
 exact j
def SQ (w wx:World) (b a r:Nat) (F:Nat->Prop) (M:Int->Int->Option Q8) (n:Nat) (f':Int->Option Value) (H:Int->HS) (s id h1 h2:Int) (pb rb:Nat) (place:Array Value):Prop:=
 ∃(H5:Int->HS) (reg5:Nat->Int),Z9 wx b a F M n r f' H5 reg5/\Z3 w wx (V0 b r F H) (V0 b r F H5)/\U3 (W8 M h1 h2 none) (n-1) f' H5/\(H5 s).L=D1 (H s).L id/\(∀s',s'≠s->H5 s'=H s')/\
  Q1 wx pb 188 place/\Q1 wx rb 29 #[I O 0,I O 0,I O 0,I O 0,I O 0]/\ ¬V0 b r F H5 rb
section
variable {w5:World} {b a n r:Nat} {F:Nat->Prop} {M:Int->Int->Option Q8} {f:Int->Option Value} {H:Int->HS} {reg:Nat->Int} {s:Int}
theorem Ks (y:Z4 s) {h'} (v: ∀i,AM h' i->AM (H s) i) {i} (h: ¬V0 b r F H i): ¬V0 b r F (M7 H s h') i:=fun C=>
 (Kn y (m:=i+1) (fun j u=> .inl (v j u)) i C).elim h (by omega)
theorem Kd {W h1 h2 o} (v:Z9 w5 b a F M n r f H reg) (C:Below w5.heap.size w5 W) (j:M h1 h2=some o):
  Calls prog 127 #[IP (some ⟨a,0,none⟩),.agg #[I O h1,I O h2]] W fun e w'=>
   e= .returned (.tuple #[.agg #[I O o.id,I O o.side,I O o.kind,I O o.price,I O o.qty],.nilIface])/\ ∃u reg6,Z9 w' b a u (W8 M h1 h2 none) (n-1) r f H reg6/\Z3 W w' (V0 b r F H) (V0 b r u H):=by
 have i:=v.below C
 refine(Ja5 i.ar (by omega) h1 h2).mono ?_
 rintro e w' ⟨rfl,D⟩
 refine⟨by unfold SF SG;rw[j];rfl, ?_⟩
 rcases D with⟨h,_⟩|⟨_,_,y⟩
 ·rw[j]at h;cases h
 exact i.arena y
theorem WX {w t Q g cs v} (hp:t.tmps.getD 4 undef= IP (some ⟨g,0,none⟩)) (y:t.tmps.getD 5 undef=v) (u:t.defers= [])
  (C:Q1 w g 29 cs) (E:cs.size=5) (h:Q (.returned (.tuple #[.agg cs,v])) w):bodyPost prog Tryz.f89 Q .ret t w:=by
 refine P4 (v:= .tuple #[.agg cs,v]) ?_ u h
 have D:=Jf (P:=prog) w g _ 29 cs (0,0) _ C PF rfl (by rw[E];kernel_rfl)
 have j:t.tmps[4]?.getD undef= IP (some ⟨g,0,none⟩):=by simpa using hp
 have i:t.tmps[5]?.getD undef=v:=by simpa using y
 simp[results,Tryz.results89,j,i,asAddr,D]
end
theorem Jl3 w g a b c d e:Q6 (fun i=>i=g) w (((((w.setCell ⟨g,0,none⟩ a).setCell ⟨g,1,none⟩ b).setCell ⟨g,2,none⟩ c).setCell ⟨g,3,none⟩ d).setCell ⟨g,4,none⟩ e):=
 ((((V2 w ⟨g,0,none⟩ a).trans (V2 _ ⟨g,1,none⟩ b) (fun i h=> .inl h)).trans (V2 _ ⟨g,2,none⟩ c) (fun i h=> .inl h)).trans (V2 _ ⟨g,3,none⟩ d) (fun i h=> .inl h)).trans (V2 _ ⟨g,4,none⟩ e) (fun i h=> .inl h)
theorem Xn {w w6 b a n r rb F F6 M' f' H H5 reg6 s id x0 x1 x2 x3 x4} (u:Z9 w6 b a F6 M' (n-1) r f' H5 reg6) (j:Z3 w w6 (V0 b r F H) (V0 b r F6 H5))
  (D: ¬V0 b r F6 H5 rb) (v:w.heap.size<=rb) (J:U3 M' (n-1) f' H5) (C:(H5 s).L=D1 (H s).L id) (y: ∀s',s'≠s->H5 s'=H s'):
  LS w (((((w6.setCell ⟨rb,0,none⟩ x0).setCell ⟨rb,1,none⟩ x1).setCell ⟨rb,2,none⟩ x2).setCell ⟨rb,3,none⟩ x3).setCell ⟨rb,4,none⟩ x4) b a r F n H s id:=by
 have hk:=Jl3 w6 rb x0 x1 x2 x3 x4
 exact⟨F6,M',f',H5,reg6,u.keeps hk (fun i E e=>D (by rw[<-e];exact E)),J,⟨j.1.trans hk (fun i e=> .inr (by rw[e];exact v)),j.2⟩,C,y⟩
section
variable {w w4 wx w7:World} {b a n r k qg pb rb:Nat} {F:Nat->Prop} {M:Int->Int->Option Q8} {f f':Int->Option Value} {H:Int->HS} {reg4 reg6:Nat->Int} {s:Int} {q:QG} {h:Int×Int} {o:Q8} {pl:Array Value}
def VF (H:Int->HS) (s:Int) (k:Nat) (q:QG) (h:Int×Int):Int->HS:=M7 H s ⟨(H s).mA,(H s).mc,(H s).qA,(H s).qc,(H s).ms,(H s).qs.set k ⟨q.price,q.A,q.c,q.os.filter (B3 h)⟩⟩
def Ba (w wx:World) (b a r:Nat) (F:Nat->Prop) (M:Int->Int->Option Q8) (n:Nat) (f':Int->Option Value) (H:Int->HS) (s:Int) (k:Nat) (q:QG) (h:Int×Int) (pb rb:Nat) (pl:Array Value):Prop:=
 ∃reg6,Z9 wx b a F M n r f' (VF H s k q h) reg6/\Z3 w wx (V0 b r F H) (V0 b r F (VF H s k q h))/\Q1 wx pb 188 pl/\Q1 wx rb 29 #[I O 0,I O 0,I O 0,I O 0,I O 0]
theorem Jl4 (u:Z4 s) (hk:k< (H s).qs.length) (j:(H s).qs[k]=q): ∀i,AM ⟨(H s).mA,(H s).mc,(H s).qA,(H s).qc,(H s).ms,(H s).qs.set k ⟨q.price,q.A,q.c,q.os.filter (B3 h)⟩⟩ i->AM (H s) i:=by
 rintro i (hi|hi|⟨q',hq',hi⟩)
 ·exact .inl hi
 ·exact .inr (.inl hi)
 rcases LV hq' with h1|rfl
 ·exact .inr (.inr ⟨q',h1,hi⟩)
 exact .inr (.inr ⟨q,by rw[<-j];exact Y1 _,hi⟩)
theorem Fa (E:Z9 w4 b a F M n r f' H reg4) (U:Z3 w w4 (V0 b r F H) (V0 b r F H)) (v:Z4 s) (hk:k< (H s).qs.length) (Z:(H s).qs[k]=q) (C:(H s).qA=some ⟨qg,0,none⟩) (hD:Kr w4 wx qg k q.A q.c q.os h)
  (hP:Q1 w4 pb 188 pl) (hR:Q1 w4 rb 29 #[I O 0,I O 0,I O 0,I O 0,I O 0]) (y: ¬V0 b r F H pb) (D: ¬V0 b r F H rb):Ba w wx b a r F M n f' H s k q h pb rb pl:=by
 subst Z
 obtain⟨w5,rfl,u,J⟩:=hD
 obtain⟨reg6,N,a0⟩:=E.queue v hk C u J (fun g i=> .inl i)
 have j: ∀g,¬V0 b r F H g->Q7 (H s).qs[k].A≠some g/\g≠qg:=fun g i=>⟨fun e=>i (VS s v (.inr (.inr ⟨_,Y1 _,e⟩))),fun e=>i (VS s v (.inr (.inl (by rw[C,e];rfl))))⟩
 exact⟨reg6,N,U.trans a0,XP (X0 hP u (j _ y).1) (p:=⟨qg,k*2+1,none⟩) (j _ y).2 _,XP (X0 hR u (j _ D).1) (p:=⟨qg,k*2+1,none⟩) (j _ D).2 _⟩
theorem Dl (hS:U3 M n f H) (i:Z4 s) (hk:k< (H s).qs.length) (D:(H s).qs[k]=q) (j:(h,o)∈q.os) (u:(h,o)∈(H s).all) (a0:(q.os.filter (B3 h)).length≠0) (N:f'=D0 f o.id none)
  (J:Ba w wx b a r F M n f' H s k q h pb rb pl) (y: ¬V0 b r F H rb):SQ w wx b a r F M n f' H s o.id h.1 h.2 pb rb pl:=by
 subst N
 obtain⟨reg6,v,Z,E,U⟩:=J
 subst D
 obtain⟨h1,h2⟩:=Qi9 hS i hk j u (fun e=>a0 (by rw[e];rfl)) (H s).qs[k].A (H s).qs[k].c
 exact⟨_,reg6,v,Z,h1,h2,fun s' C=>XK C,E,U,Ks i (Jl4 i hk rfl) y⟩
theorem Nv (u:Z4 s) (j:(H s).qA=some ⟨qg,0,none⟩) (i:Z9 wx b a F M n r f' (VF H s k q h) reg6):
  J2 wx (some ⟨qg,0,none⟩) (H s).qs.length (H s).qc 214 2 (Q9 U2 (((H s).qs.set k ⟨q.price,q.A,q.c,q.os.filter (B3 h)⟩).map QG.que)):=by
 have h1:=(i.hx s u).rq
 have e:VF H s k q h s=⟨(H s).mA,(H s).mc,(H s).qA,(H s).qc,(H s).ms,(H s).qs.set k ⟨q.price,q.A,q.c,q.os.filter (B3 h)⟩⟩:=by unfold VF;rw[QV]
 rw[e]at h1
 dsimp only at h1
 rw[j,QN]at h1
 exact h1
theorem Dm (hS:U3 M n f H) (u:Z4 s) (hk:k< (H s).qs.length) (a5:(H s).qs[k]=q) (D:(H s).qA=some ⟨qg,0,none⟩) (hx:(h,o)∈q.os) (a8:(h,o)∈(H s).all) (a7:(q.os.filter (B3 h)).length=0) (hf:f'=D0 f o.id none)
  (y:Ba w wx b a r F M n f' H s k q h pb rb pl) (a2: ¬V0 b r F H pb) (a0: ¬V0 b r F H rb)
  (a3:J2 w7 (some ⟨qg,0,none⟩) (k+ ((H s).qs.length- (k+1))) (H s).qc 214 2 (Q9 U2 ((((H s).qs.set k ⟨q.price,q.A,q.c,q.os.filter (B3 h)⟩).map QG.que).take k++(((H s).qs.set k ⟨q.price,q.A,q.c,q.os.filter (B3 h)⟩).map QG.que).drop (k+1))))
  (Z:Q6 (fun x=>x=qg) wx w7):
  SQ w (w7.setCell ⟨b,ZG s+1,none⟩ (.slice (some ⟨qg,0,none⟩) (k+ ((H s).qs.length- (k+1))) (H s).qc)) b a r F M n f' H s o.id h.1 h.2 pb rb pl:=by
 subst hf
 obtain⟨reg6,hM,hB,hP,hR⟩:=y
 subst a5
 have e:VF H s k (H s).qs[k] h s=⟨(H s).mA,(H s).mc,(H s).qA,(H s).qc,(H s).ms,(H s).qs.set k ⟨(H s).qs[k].price,(H s).qs[k].A,(H s).qs[k].c,(H s).qs[k].os.filter (B3 h)⟩⟩:=by unfold VF;rw[QV]
 have hl:((H s).qs.take k++(H s).qs.drop (k+1)).length=k+ ((H s).qs.length- (k+1)):=by simp;omega
 have a1:((H s).qs.set k ⟨(H s).qs[k].price,(H s).qs[k].A,(H s).qs[k].c,(H s).qs[k].os.filter (B3 h)⟩).take k=(H s).qs.take k:=TZ (Q4 _)
 have U:((H s).qs.set k ⟨(H s).qs[k].price,(H s).qs[k].A,(H s).qs[k].c,(H s).qs[k].os.filter (B3 h)⟩).drop (k+1)=(H s).qs.drop (k+1):=Zp (by omega)
 rw[<-List.map_take,<-List.map_drop,a1,U,<-T1,<-hl]at a3
 have y:=hM.queues (s:=s) u (w3:=w7) (A':=some ⟨qg,0,none⟩) (c':=(H s).qc) (qs':=(H s).qs.take k++(H s).qs.drop (k+1))
  (by rw[e];dsimp only;rw[D];exact Z.mono (fun i e=>by rw[e];rfl)) a3 (fun g v=> .inl (by rw[e];dsimp only;rw[D];exact v))
  (fun q j=> .inl (by
   rw[e];dsimp only;rcases Y7.1 j with j|j
   ·rw[<-a1]at j;exact AT j
   rw[<-U]at j;exact YJ j))
  (by
   have E:=Sw (fun q:QG=>Q7 q.A) _ k (hM.hx s u).nd;rw[e]at E;dsimp only at E;rw[a1,U]at E;exact E)
 rw[hl]at y
 obtain⟨a6,J,C⟩:=y
 rw[e]at J C
 dsimp only at J C
 have e2:M7 (VF H s k (H s).qs[k] h) s ⟨(H s).mA,(H s).mc,some ⟨qg,0,none⟩,(H s).qc,(H s).ms,(H s).qs.take k++(H s).qs.drop (k+1)⟩=M7 H s ⟨(H s).mA,(H s).mc,some ⟨qg,0,none⟩,(H s).qc,(H s).ms,(H s).qs.take k++(H s).qs.drop (k+1)⟩:=by
  funext s'
  unfold VF M7
  split<;>rfl
 rw[e2]at J C
 obtain⟨h1,h2⟩:=Qr9 hS u hk hx a8 (Zl.1 a7) (some ⟨qg,0,none⟩) (H s).qc
 have a9: ∀i,AM ⟨(H s).mA,(H s).mc,some ⟨qg,0,none⟩,(H s).qc,(H s).ms,(H s).qs.take k++(H s).qs.drop (k+1)⟩ i->AM (H s) i:=by
  rintro i (hi|hi|⟨q',hq',hi⟩)
  ·exact .inl hi
  ·exact .inr (.inl (by rw[D];exact hi))
  refine .inr (.inr ⟨q', ?_,hi⟩);rcases Y7.1 hq' with j|j
  ·exact AT j
  exact YJ j
 have N: ∀g,¬V0 b r F H g->g≠qg/\g≠b:=fun g v=>⟨fun e=>v (VS s u (.inr (.inl (by rw[D,e];rfl)))),fun e=>v (.inl e)⟩
 exact⟨_,a6,J,hB.trans C,h1,h2,fun s' a4=>XK a4,XP (X0 hP Z (N _ a2).1) (p:=⟨b,ZG s+1,none⟩) (N _ a2).2 _,XP (X0 hR Z (N _ a0).1) (p:=⟨b,ZG s+1,none⟩) (N _ a0).2 _,Ks u a9 a0⟩
end
def Kt (w wx:World) (b a r rb:Nat) (F:Nat->Prop) (M:Int->Int->Option Q8) (n:Nat) (f':Int->Option Value) (H:Int->HS) (s id h1 h2:Int) (cs:Array Value):Prop:=
 LS w wx b a r F n H s id/\Q1 wx rb 29 cs
theorem Sx w b a F M n r f H reg (u:Z9 w b a F M n r f H reg) id (y:f id=none):
  Calls prog 89 #[IP (some ⟨b,0,none⟩),I O id] w fun e w'=>e= .returned (.tuple #[.agg #[I O 0,I O 0,I O 0,I O 0,I O 0],U0 7])/\Below w.heap.size w w':=by
 have i:Below w.heap.size w (w.alloc (.cells #[I O 0,I O 0,I O 0,I O 0,I O 0] 29)):=(Q2 _ w).alloc (Q4 _) _
 have j:=u.below i
 have a0:=CM j.mp y
 obtain⟨D,y1,Z,N,E,U⟩:=j.cells
 have C:=Q0 (J9 w 29 #[I O 0,I O 0,I O 0,I O 0,I O 0])
 have J:=Q0 i
 clear D Z N E U u j y i
 go_enter func89,ntmps89
 go_wp2_with fail
 refine WX (g:=w.heap.size) (cs:= #[I O 0,I O 0,I O 0,I O 0,I O 0]) (v:=U0 7) (by with_unfolding_all rfl) (by with_unfolding_all rfl) (by with_unfolding_all rfl) (G7 C _) rfl ?_
 exact⟨rfl,J.alloc (by simp) _⟩
