/- Contracts and walks that the law's proof needs. -/
import Derived.Test.YtnlngicnfegjgaaGreatZf19
import Derived.WalkKit
import Derived.WalkLawsBesides
import Derived.WalkSpells
import Derived.Test.YtnlngicnfegjgaaGreatZf23
import Derived.Test.YtnlngicnfegjgaaGreatZf1
import Derived.Deep.RegionHeld3
import Derived.Deep.DrawnRows
set_option linter.unusedVariables false
set_option maxRecDepth 100000
set_option maxHeartbeats 8000000
namespace Go.Proofs.YtnlngicnfegjgaaGreat
open Go.RowKit
theorem Ko6 (w:World) (b:Nat) (o:QX) (a:Nat) (F:Nat→Prop) (M:Int→Int→Option QX) (n r:Nat) (f:Int→Option Value) (H:Int→HS) (reg:Nat→Int) (hM:XX w b a F M n r f H reg)
  (hS:KY M n f H) (hfit:Qe5 o)
  (h:Ja3 o=true) (hr:Qq5 o=true) (hf:f o.id=none) (hn:n=100):
  Calls Tryz.prog 52 #[.pointer (some ⟨b,0,none⟩),KQ o] w fun e w'=>e= .returned (YZ 12)∧Below w.heap.size w w':=by
 obtain⟨hs,hi⟩:=Qd9.1 h
 obtain⟨mk,hmk⟩: ∃mk,(o.kind ==2)=mk:=⟨_,rfl⟩
 obtain⟨o',ho'⟩: ∃o',JJ o=o':=⟨_,rfl⟩
 have HM:=QQ hM
 have HR:=QQ (show J5 o'.price o.qty=true by rw[←ho'];exact hr)
 have HF:=QQ hf
 have HK:=QQ hmk
 have HN:=QQ hn
 have HSd:=QQ hs
 have HO:=QQ ho'
 have HI:=QQ hi
 have HSm:=QQ hS
 have HOk:=QQ (show OkO o' by
  have hp:=V4.1 (show J5 o'.price o.qty=true by rw[←ho'];exact hr);rw[←ho']at hp⊢;obtain⟨f1,f2,f3,f4,f5⟩:=hfit;exact⟨⟨f1,f2,f3,by unfold U1;omega,f5⟩,hi,⟨hp.1,hp.2.1⟩,⟨hp.2.2.1,hp.2.2.2⟩⟩)
 have B0:=QJ.new w 29 (KZ o)
 have hB0:Below w.heap.size w (w.alloc (.cells (KZ o) 29)):=(Below.refl _ w).alloc (Nat.le_refl _) _
 have HX0:=QQ B0
 have HB0:=QQ hB0
 unfold KQ
 clear h hi hr hM hf hn hs hS hfit ho' hmk B0 hB0
 go_enter Tryz.func52,Tryz.ntmps52
 go_upto_region 1 with fail
 go_cut [25] (fun s25 wx=>s25= .bool false∧Qq6 w wx b a F M n r f H reg o)
 case first=>
  obtain⟨id,side,kind,price,qty⟩:=o;have d1:decide (id<1)=false:=OY (by have:=HI.out;dsimp only at this;omega);rcases HSd.out with h1|h1
  ·dsimp only at h1
   subst h1;go_wp2_with fail
   go_meet;exact⟨rfl,HB0.out,HM.out.below HB0.out,HX0.out⟩
  ·dsimp only at h1
   subst h1;go_wp2_with fail
   go_meet;exact⟨rfl,HB0.out,HM.out.below HB0.out,HX0.out⟩
 case rest=>
  obtain⟨rfl,h8⟩:=hcut;have H8:=QQ h8;obtain⟨x0,x1,x2,x3,x4⟩:=JW h8.2.2;have xf:=QJ.frozen h8.2.2 3;have t1:=HK.out;clear h8;go_upto_if 30 with fail
  go_cut [31] (fun s31 wx=>Qq6 w wx b a F M n r f H reg o')
  case first=>
   cases mk with
   |true=>
    have t2:=QQ t1;clear t1;go_wp2_with fail
    go_meet;rw[←HO.out];exact Qm1 HM.out H8.out t2.out
   |false=>
    have t2:=QQ t1;clear t1;go_wp2_with fail
    go_meet;rw[←HO.out,Qq7 t2.out];exact H8.out
  case rest=>
   clear x0 x1 x2 x3 x4 xf H8 HX0 HB0;have e4:o'.qty=o.qty:=by rw[←HO.out];rfl
   have e0:o'.id=o.id:=by rw[←HO.out];rfl
   have e1:o'.side=o.side:=by rw[←HO.out];rfl
   have e2:o'.kind=o.kind:=by rw[←HO.out];rfl
   have H8:=QQ hcut;obtain⟨x0,x1,x2,x3,x4⟩:=JW hcut.2.2;rw[e4]at x4;rw[e0]at x0;rw[e1]at x1;rw[e2]at x2;clear t1 hcut;have E4:=QQ e4;have E0:=QQ e0;have E1:=QQ e1;have E2:=QQ e2;clear e4 e0 e1 e2;go_wp2_with fail
   refine(U5 _ _ _).mono ?_;rintro e w1 ⟨rfl,hb⟩;rw[HR.out];clear x0 x1 x2 x3 x4;have h8:=Qi0 H8.out hb;clear H8 HR;have H8:=QQ h8;have hl1:=QJ.lt h8.2.2;have hl2:=QJ.lt h8.2.1.blk;obtain⟨x0,x1,x2,x3,x4⟩:=JW h8.2.2;obtain⟨y0,y1,y2,y3,y4,y5⟩:=h8.2.1.cells;rw[E4.out]at x4;rw[E0.out]at x0;rw[E1.out]at x1;rw[E2.out]at x2;have hlk:=IX (w:=(w1.alloc (.cells #[.int .i64 0,.int .i64 0,.int .i64 0,.int .i64 0,.bool false] 124)).drew) (h8.2.1.mp.alloc _) HF.out;have hlk2:=IX (w:=w1.drew) h8.2.1.mp HF.out;clear h8 hb;go_upto_region 8 with fail
   go_cut [7] (fun s7 wx=>s7= .bool false∧Qq6 w wx b a F M n r f H reg o')
   case first=>
    clear y0 y2 y3 y4 y5 x1 x2 x3 x4
    as_aux_lemma=>
    go_region_law (fail)
    all_goals go_wp2_with fail
    all_goals go_meet
    all_goals exact⟨rfl,Qi0 H8.out (Below.drew ((Below.refl _ w1).alloc (Nat.le_refl _) _))⟩
   case rest=>
    clear x0 x1 x2 x3 x4 y0 y1 y2 y3 y4 y5 hlk hlk2 hl1 hl2 H8;obtain⟨rfl,h8⟩:=hcut;have H8:=QQ h8;have hl1:=QJ.lt h8.2.2;have hl2:=QJ.lt h8.2.1.blk;have hao:KQ o'= .agg #[.int .i64 o.id,.int .i64 o.side,.int .i64 o.kind,.int .i64 o'.price,.int .i64 o.qty]:=by unfold KQ;rw[E0.out,E1.out,E2.out,E4.out]
    have hput: ∀W,Below wc.heap.size wc W→Calls Tryz.prog 75 #[.pointer (some ⟨a,0,none⟩),.agg #[.int .i64 o.id,.int .i64 o.side,.int .i64 o.kind,.int .i64 o'.price,.int .i64 o.qty]] W fun e w'=>e= .returned (.tuple #[.agg #[.int .i64 0,.int .i64 0],.iface 68 (.int .i64 12)])∧Below W.heap.size W w':=by
     intro W hW;rw[←hao];refine(Jf5 (h8.2.1.ar.below hW) (by omega) o').mono ?_;rintro e w' (⟨_,h2,h3⟩|⟨h1,_⟩)
     ·exact⟨h2,h3⟩
     ·have:=HN.out;omega
    have HPA:=QQ (hput ((wc.alloc (.cells #[.int .i64 0,.int .i64 0] 122)).drew) (Below.drew ((Below.refl _ _).alloc (Nat.le_refl _) _)));have HPB:=QQ (hput wc.drew (Below.drew (Below.refl _ _)));have hX0:QJ (wc.alloc (.cells #[.int .i64 0,.int .i64 0] 122)).drew wc.heap.size 122 #[.int .i64 0,.int .i64 0]:=QJ.drew (QJ.new wc _ _);have HX0:=QQ hX0;have hBA:=QQ (show Below wc.heap.size wc (wc.alloc (.cells #[.int .i64 0,.int .i64 0] 122)).drew from Below.drew ((Below.refl _ _).alloc (Nat.le_refl _) _));have hBB:=QQ (show Below wc.heap.size wc wc.drew from Below.drew (Below.refl _ _));obtain⟨x0,x1,x2,x3,x4⟩:=JW h8.2.2;have y0:=h8.2.1.cells.1;rw[E4.out]at x4;rw[E0.out]at x0;rw[E1.out]at x1;rw[E2.out]at x2;clear h8 hput hao hX0;go_upto_region 11 with fail
    go_cut [9] (fun s9 wx=>s9= .iface 68 (.int .i64 12)∧Below wc.heap.size wc wx)
    case first=>
     go_region_with (first|(go_at_call 75;refine HPA.out.mono ?_;rintro e w5 ⟨rfl,hb⟩;have hb5:=QJ.keep HX0.out hb;have z0:w5.cell? ⟨wc.heap.size,0,none⟩=some (.int .i64 0):=(by rw[QJ.cell hb5];rfl);have z1:w5.cell? ⟨wc.heap.size,1,none⟩=some (.int .i64 0):=(by rw[QJ.cell hb5];rfl);have f0:=QJ.frozen hb5 0;have f1:=QJ.frozen hb5 1;have HB5:=QQ (hBA.out.trans (hb.mono hBA.out.size));clear hb hb5)|(go_at_call 75;refine HPB.out.mono ?_;rintro e w5 ⟨rfl,hb⟩;have HB5:=QQ (hBB.out.trans (hb.mono hBB.out.size));clear hb))
     all_goals go_wp2_with fail
     all_goals go_meet
     all_goals
      refine⟨rfl, ?_⟩
      first
       |exact HB5.out.trans ((Qz6 w5 wc.heap.size 0 1 _ _).below (B:=wc.heap.size) (fun i e=>by have e':i=wc.heap.size:=e;omega) HB5.out.size)
       |exact HB5.out.alloc HB5.out.size _
    case rest=>
     obtain⟨rfl,hb⟩:=hcut;clear x0 x1 x2 x3 x4 y0 HPA HPB;have HB:=QQ (H8.out.1.trans (hb.mono H8.out.1.size));clear hb;go_wp2_with fail
     go_ret;exact⟨rfl,HB.out⟩
def Q5 (p s:Int):Bool:=(decide (1≤p) &&decide (p≤1000000)) && (decide (0≤s) &&decide (s≤10000))
theorem Qa0 {p s:Int}:Q5 p s=true↔1≤p∧p≤1000000∧0≤s∧s≤10000:=by simp[Q5,and_assoc]
def V5 (p s:Int):Int:=if Q5 p s=true then Xo5 p s else 0
def V6 (p s:Int):Int:=if Q5 p s=true then Jt2 p s else 0
def Qm3 (p s:Int):Int:=if Q5 p s=true then 0 else 2
theorem Qg0 (p s:Int) (w:World):Calls Tryz.prog 16 #[.int .i64 p,.int .i64 s] w fun e w'=>
  e= .returned (.tuple #[.int .i64 (V5 p s),.int .i64 (V6 p s),YZ (Qm3 p s)])∧Below w.heap.size w w':=by
 by_cases h:Q5 p s=true
 ·obtain⟨h1,h2,h3,h4⟩:=Qa0.1 h
  refine(Kt7 p s w h1 h2 h3 h4).mono ?_;rintro e w' ⟨rfl,hb⟩;exact⟨by rw[V5,V6,Qm3,if_pos h,if_pos h,if_pos h];rfl,hb⟩
 ·refine(Ko3 p s w (fun h'=>h (Qa0.2 h'))).mono ?_
  rintro e w' ⟨rfl,hb⟩;exact⟨by rw[V5,V6,Qm3,if_neg h,if_neg h,if_neg h];rfl,hb⟩
attribute [local go_sem↓] Go.wp_at_zero Go.wp_at_succ
def J0 (w:World) (b:Nat) (st dy an la:Int):Prop:=QJ w b 101 #[.int .i64 st,.int .i64 dy,.int .i64 an,.int .i64 la]
section
variable {w:World} {b:Nat} {st dy an la:Int} (h:J0 w b st dy an la)
include h
theorem J0.c0:w.cell? ⟨b,0,none⟩=some (.int .i64 st):=by rw[QJ.cell h];rfl
theorem J0.c1:w.cell? ⟨b,1,none⟩=some (.int .i64 dy):=by rw[QJ.cell h];rfl
theorem J0.c2:w.cell? ⟨b,2,none⟩=some (.int .i64 an):=by rw[QJ.cell h];rfl
theorem J0.c3:w.cell? ⟨b,3,none⟩=some (.int .i64 la):=by rw[QJ.cell h];rfl
end
theorem Xw3 (b:Nat) (st dy an la:Int) (w:World) (h:J0 w b st dy an la):Calls Tryz.prog 31 #[.pointer (some ⟨b,0,none⟩)] w fun e w'=>e= .returned (.int .i64 an)∧w=w':=by
 have c:=h.c2
 go_enter Tryz.func31,Tryz.ntmps31
 go_wp2
 go_ret
 exact⟨rfl,rfl⟩
theorem Qx4 (b:Nat) (st dy an la:Int) (w:World) (h:J0 w b st dy an la):Calls Tryz.prog 32 #[.pointer (some ⟨b,0,none⟩)] w fun e w'=>e= .returned (.int .i64 la)∧w=w':=by
 have c:=h.c3
 go_enter Tryz.func32,Tryz.ntmps32
 go_wp2
 go_ret
 exact⟨rfl,rfl⟩
theorem Xw4 (b:Nat) (st dy an la:Int) (w:World) (h:J0 w b st dy an la):Calls Tryz.prog 74 #[.pointer (some ⟨b,0,none⟩)] w fun e w'=>
  e= .returned (.tuple #[.int .i64 (V5 an st),.int .i64 (V6 an st)])∧Below w.heap.size w w':=by
 have c0:=h.c0
 have c2:=h.c2
 go_enter Tryz.func74,Tryz.ntmps74
 go_wp2
 go_region_held3 (fun w'=>w'.cell? ⟨b,0,none⟩=some (.int .i64 st)∧w'.cell? ⟨b,2,none⟩=some (.int .i64 an))
  (first|go_keep|exact⟨(hB.cell (p:=⟨b,0,none⟩) (QJ.lt h)).trans c0,(hB.cell (p:=⟨b,2,none⟩) (QJ.lt h)).trans c2⟩)
  (first|(go_at_call 16;refine(Qg0 _ _ _).mono ?_;rintro e w1 ⟨rfl,hB⟩))
 go_wp2
 go_ret2
 exact⟨rfl,(Below.refl _ w).drew.trans hB⟩
theorem Xo6 (b:Nat) (st dy an la:Int) (w:World) (h:J0 w b st dy an la):Calls Tryz.prog 77 #[.pointer (some ⟨b,0,none⟩)] w fun e w'=>
  e= .returned (.tuple #[.int .i64 (V5 la dy),.int .i64 (V6 la dy)])∧Below w.heap.size w w':=by
 have c1:=h.c1
 have c3:=h.c3
 go_enter Tryz.func77,Tryz.ntmps77
 go_wp2
 go_region_held3 (fun w'=>w'.cell? ⟨b,1,none⟩=some (.int .i64 dy)∧w'.cell? ⟨b,3,none⟩=some (.int .i64 la))
  (first|go_keep|exact⟨(hB.cell (p:=⟨b,1,none⟩) (QJ.lt h)).trans c1,(hB.cell (p:=⟨b,3,none⟩) (QJ.lt h)).trans c3⟩)
  (first|(go_at_call 16;refine(Qg0 _ _ _).mono ?_;rintro e w1 ⟨rfl,hB⟩))
 go_wp2
 go_ret2
 exact⟨rfl,(Below.refl _ w).drew.trans hB⟩
def inB (p lo hi:Int):Bool:=decide (lo≤p) &&decide (p≤hi)
def Qu4 (st an p:Int):Bool:=inB p (V5 an st) (V6 an st)
def X3 (st dy an la p:Int):Bool:=Qu4 st an p &&inB p (V5 la dy) (V6 la dy)
theorem Xo7 (b:Nat) (st dy an la p:Int) (w:World) (h:J0 w b st dy an la):Calls Tryz.prog 50 #[.pointer (some ⟨b,0,none⟩),.int .i64 p] w fun e w'=>
  e= .returned (.bool (Qu4 st an p))∧Below w.heap.size w w':=by
 unfold Qu4 inB
 go_enter Tryz.func50,Tryz.ntmps50
 go_wp2_with fail
 refine(Xw4 b st dy an la w h).mono ?_
 rintro e w1 ⟨rfl,hB⟩
 by_cases h1:V5 an st≤p
 ·have d1:=J4 h1
  have E:=QQ (show decide (p≤V6 an st)=(decide (V5 an st≤p) &&decide (p≤V6 an st)) by rw[d1];rfl);go_wp2;go_ret;exact⟨Q6 E.out,hB⟩
 ·have d1:=OY h1
  have E:=QQ (show false=(decide (V5 an st≤p) &&decide (p≤V6 an st)) by rw[d1];rfl);clear h1;go_wp2;go_ret;exact⟨Q6 E.out,hB⟩
theorem Xw5 (b:Nat) (st dy an la p:Int) (w:World) (h:J0 w b st dy an la):Calls Tryz.prog 54 #[.pointer (some ⟨b,0,none⟩),.int .i64 p] w fun e w'=>
  e= .returned (.bool (X3 st dy an la p))∧Below w.heap.size w w':=by
 unfold X3 inB
 go_enter Tryz.func54,Tryz.ntmps54
 go_wp2_with fail
 refine(Xo6 b st dy an la w h).mono ?_
 rintro e w1 ⟨rfl,hB⟩
 go_wp2_with fail
 refine(Xo7 b st dy an la p w1 (QJ.keep h hB)).mono ?_
 rintro e w2 ⟨rfl,hB2⟩
 have hB12:Below w.heap.size w w2:=hB.trans (hB2.mono hB.size)
 by_cases hc:Qu4 st an p=true
 ·by_cases h1:V5 la dy≤p
  ·have d1:=J4 h1
   have E:=QQ (show decide (p≤V6 la dy)=(Qu4 st an p && (decide (V5 la dy≤p) &&decide (p≤V6 la dy))) by rw[d1,hc];rfl);rw[hc];clear hc;go_wp2;go_ret;exact⟨Q6 E.out,hB12⟩
  ·have d1:=OY h1
   have E:=QQ (show false=(Qu4 st an p && (decide (V5 la dy≤p) &&decide (p≤V6 la dy))) by rw[d1,hc];rfl);rw[hc];clear h1 hc;go_wp2;go_ret;exact⟨Q6 E.out,hB12⟩
 ·have hc':Qu4 st an p=false:=by simpa using hc
  have E:=QQ (show false=(Qu4 st an p && (decide (V5 la dy≤p) &&decide (p≤V6 la dy))) by rw[hc'];rfl);rw[hc'];clear hc hc';go_wp2;go_ret;exact⟨Q6 E.out,hB12⟩
theorem Jj6 (b:Nat) (st dy an la p:Int) (w:World) (h:J0 w b st dy an la):Calls Tryz.prog 56 #[.pointer (some ⟨b,0,none⟩),.int .i64 p] w fun e w'=>
  e= .returned (YZ (if J5 p 1=true then 0 else 2))∧J0 w' b st dy an (if J5 p 1=true then p else la)∧QK (fun i=>i=b) w w':=by
 by_cases hr:J5 p 1=true
 ·rw[if_pos hr,if_pos hr,UV]
  have Hr:=QQ hr;clear hr;go_enter Tryz.func56,Tryz.ntmps56
  go_wp2_with fail
  refine(U5 p 1 w).mono ?_;rintro e w1 ⟨rfl,hB⟩;rw[Hr.out];have h1:J0 w1 b st dy an la:=QJ.keep h hB;have c3:=h1.c3;have f3:=QJ.frozen h1 3;go_wp2;go_ret;exact⟨rfl,QJ.set_ h1 3 _,QK.after hB (QK.set_ _ ⟨b,3,none⟩ _)⟩
 ·have hr':J5 p 1=false:=by simpa using hr
  rw[if_neg hr,if_neg hr,Qp7];have Hr:=QQ hr';clear hr hr';go_enter Tryz.func56,Tryz.ntmps56
  go_wp2_with fail
  refine(U5 p 1 w).mono ?_;rintro e w1 ⟨rfl,hB⟩;rw[Hr.out];go_wp2;go_ret;exact⟨rfl,QJ.keep h hB,QK.of_below hB _⟩
theorem Kt8 (b:Nat) (st dy an la p:Int) (w:World) (h:J0 w b st dy an la):Calls Tryz.prog 46 #[.pointer (some ⟨b,0,none⟩),.int .i64 p] w fun e w'=>
  e= .returned (YZ (if J5 p 1=true then 0 else 2))∧J0 w' b st dy (if J5 p 1=true then p else an) (if J5 p 1=true then p else la)∧QK (fun i=>i=b) w w':=by
 by_cases hr:J5 p 1=true
 ·rw[if_pos hr,if_pos hr,if_pos hr,UV]
  go_enter Tryz.func46,Tryz.ntmps46
  go_wp2_with fail
  refine(Jj6 b st dy an la p w h).mono ?_;rintro e w1 ⟨rfl,h1,hK⟩;rw[if_pos hr]at h1;rw[if_pos hr,UV];have f2:=QJ.frozen h1 2;have c2:=J0.c2 h1;clear hr;go_wp2;go_ret;exact⟨rfl,QJ.set_ h1 2 _,hK.trans (QK.set_ _ ⟨b,2,none⟩ _) (fun i h=> .inl h)⟩
 ·rw[if_neg hr,if_neg hr,if_neg hr,Qp7]
  go_enter Tryz.func46,Tryz.ntmps46
  go_wp2_with fail
  refine(Jj6 b st dy an la p w h).mono ?_;rintro e w1 ⟨rfl,h1,hK⟩;rw[if_neg hr]at h1;rw[if_neg hr,Qp7];clear hr;go_wp2;go_ret;exact⟨rfl,h1,hK⟩
theorem Xg7 (st dy p:Int) (w:World):Calls Tryz.prog 19 #[.int .i64 st,.int .i64 dy,.int .i64 p] w fun e w'=>
  Below w.heap.size w w'∧((Q5 p st &&Q5 p dy)=true∧(∃b,w.heap.size≤b∧e= .returned (.tuple #[.pointer (some ⟨b,0,none⟩),.nilIface])∧J0 w' b st dy p p)∨
   (Q5 p st &&Q5 p dy)=false∧e= .returned (.tuple #[.pointer none,YZ 2])):=by
 have i0: ∀w,(Instr.index 58 (.agg #[.int .i64 st,.int .i64 dy]) (.int .i64 0)).run Tryz.prog w= .ok (.int .i64 st) w:=fun _=>by kernel_rfl
 have i1: ∀w,(Instr.index 58 (.agg #[.int .i64 st,.int .i64 dy]) (.int .i64 1)).run Tryz.prog w= .ok (.int .i64 dy) w:=fun _=>by kernel_rfl
 by_cases h1:Q5 p st=true
 ·by_cases h2:Q5 p dy=true
  ·have e1:Qm3 p st=0:=by rw[Qm3,if_pos h1]
   have e2:Qm3 p dy=0:=by rw[Qm3,if_pos h2]
   have H:=QQ (show(Q5 p st &&Q5 p dy)=true by rw[h1,h2];rfl);have E1:=QQ e1;have E2:=QQ e2;clear h1 h2 e1 e2;go_enter Tryz.func19,Tryz.ntmps19
   go_wp2;refine wp_loop_rounds 3 ?_;rw[rounds_succ];go_wp2_with fail
   refine(Qg0 _ _ _).mono ?_;rintro e w1 ⟨rfl,hB1⟩;rw[E1.out,UV];go_wp2;rw[rounds_succ];go_wp2_with fail
   refine(Qg0 _ _ _).mono ?_;rintro e w2 ⟨rfl,hB2⟩;rw[E2.out,UV];go_wp2;rw[rounds_succ];go_wp2;go_ret2;have hB:Below w.heap.size w w2:=hB1.trans (hB2.mono hB1.size);exact⟨hB.alloc hB.size _,.inl ⟨H.out,_,hB.size,rfl,QJ.new _ _ _⟩⟩
  ·have h2':Q5 p dy=false:=by simpa using h2
   have e1:Qm3 p st=0:=by rw[Qm3,if_pos h1]
   have e2:Qm3 p dy=2:=by rw[Qm3,if_neg h2]
   have H:=QQ (show(Q5 p st &&Q5 p dy)=false by rw[h1,h2'];rfl);have E1:=QQ e1;have E2:=QQ e2;clear h1 h2 h2' e1 e2;go_enter Tryz.func19,Tryz.ntmps19
   go_wp2;refine wp_loop_rounds 2 ?_;rw[rounds_succ];go_wp2_with fail
   refine(Qg0 _ _ _).mono ?_;rintro e w1 ⟨rfl,hB1⟩;rw[E1.out,UV];go_wp2;rw[rounds_succ];go_wp2_with fail
   refine(Qg0 _ _ _).mono ?_;rintro e w2 ⟨rfl,hB2⟩;rw[E2.out,Qp7];go_wp2;go_ret2;have hB:Below w.heap.size w w2:=hB1.trans (hB2.mono hB1.size);exact⟨hB,.inr ⟨H.out,rfl⟩⟩
 ·have h1':Q5 p st=false:=by simpa using h1
  have e1:Qm3 p st=2:=by rw[Qm3,if_neg h1]
  have H:=QQ (show(Q5 p st &&Q5 p dy)=false by rw[h1'];rfl);have E1:=QQ e1;clear h1 h1' e1;go_enter Tryz.func19,Tryz.ntmps19
  go_wp2;refine wp_loop_rounds 1 ?_;rw[rounds_succ];go_wp2_with fail
  refine(Qg0 _ _ _).mono ?_;rintro e w1 ⟨rfl,hB1⟩;rw[E1.out,Qp7];go_wp2;go_ret2;exact⟨hB1,.inr ⟨H.out,rfl⟩⟩
end Go.Proofs.YtnlngicnfegjgaaGreat
