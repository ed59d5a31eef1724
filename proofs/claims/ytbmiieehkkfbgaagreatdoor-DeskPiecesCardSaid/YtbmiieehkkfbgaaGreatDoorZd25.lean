/- Contracts and walks that the law's proof needs. -/
import Derived.Test.YtbmiieehkkfbgaaGreatDoorZd17
import Derived.WalkKit
import Derived.WalkLawsBesides
import Derived.WalkSpells
import Derived.Test.YtbmiieehkkfbgaaGreatDoorZd20
import Derived.Test.YtbmiieehkkfbgaaGreatDoorZd1
import Derived.Deep.RegionHeld3
import Derived.Deep.DrawnRows
import Derived.Test.YtbmiieehkkfbgaaGreatDoorZd21
set_option linter.unusedVariables false
set_option maxRecDepth 100000
set_option maxHeartbeats 8000000
namespace Go.Proofs.YtbmiieehkkfbgaaGreatDoor
open Go.RowKit
theorem Kx9 (w:World) (b:Nat) (o:QX) (a:Nat) (F:Nat→Prop) (M:Int→Int→Option QX) (n r:Nat) (f:Int→Option Value) (H:Int→HS) (reg:Nat→Int) (hM:XK w b a F M n r f H reg)
  (hS:ZX M n f H) (hfit:Qf4 o)
  (h:Jc0 o=true) (hr:Qr3 o=true) (hf:f o.id=none) (hn:n=100):
  Calls Tryz.prog 142 #[.pointer (some ⟨b,0,none⟩),KJ o] w fun e w'=>e= .returned (VZ 12)∧Below w.heap.size w w':=by
 obtain⟨hs,hi⟩:=Qd2.1 h
 obtain⟨mk,hmk⟩: ∃mk,(o.kind ==2)=mk:=⟨_,rfl⟩
 obtain⟨o',ho'⟩: ∃o',JJ o=o':=⟨_,rfl⟩
 have HM:=QQ hM
 have HR:=QQ (show J4 o'.price o.qty=true by rw[←ho'];exact hr)
 have HF:=QQ hf
 have HK:=QQ hmk
 have HN:=QQ hn
 have HSd:=QQ hs
 have HO:=QQ ho'
 have HI:=QQ hi
 have HSm:=QQ hS
 have HOk:=QQ (show OkO o' by
  have hp:=V3.1 (show J4 o'.price o.qty=true by rw[←ho'];exact hr);rw[←ho']at hp⊢;obtain⟨f1,f2,f3,f4,f5⟩:=hfit;exact⟨⟨f1,f2,f3,by unfold KZ;omega,f5⟩,hi,⟨hp.1,hp.2.1⟩,⟨hp.2.2.1,hp.2.2.2⟩⟩)
 have B0:=QJ.new w 117 (KV o)
 have hB0:Below w.heap.size w (w.alloc (.cells (KV o) 117)):=(Below.refl _ w).alloc (Nat.le_refl _) _
 have HX0:=QQ B0
 have HB0:=QQ hB0
 unfold KJ
 clear h hi hr hM hf hn hs hS hfit ho' hmk B0 hB0
 go_enter Tryz.func142,Tryz.ntmps142
 go_upto_region 1 with fail
 go_cut [25] (fun s25 wx=>s25= .bool false∧Qr4 w wx b a F M n r f H reg o)
 case first=>
  obtain⟨id,side,kind,price,qty⟩:=o;have d1:decide (id<1)=false:=OY (by have:=HI.out;dsimp only at this;omega);rcases HSd.out with h1|h1
  ·dsimp only at h1
   subst h1;go_wp2_with fail
   go_meet;exact⟨rfl,HB0.out,HM.out.below HB0.out,HX0.out⟩
  ·dsimp only at h1
   subst h1;go_wp2_with fail
   go_meet;exact⟨rfl,HB0.out,HM.out.below HB0.out,HX0.out⟩
 case rest=>
  obtain⟨rfl,h8⟩:=hcut;have H8:=QQ h8;obtain⟨x0,x1,x2,x3,x4⟩:=JV h8.2.2;have xf:=QJ.frozen h8.2.2 3;have t1:=HK.out;clear h8;go_upto_if 30 with fail
  go_cut [31] (fun s31 wx=>Qr4 w wx b a F M n r f H reg o')
  case first=>
   cases mk with
   |true=>
    have t2:=QQ t1;clear t1;go_wp2_with fail
    go_meet;rw[←HO.out];exact Qm2 HM.out H8.out t2.out
   |false=>
    have t2:=QQ t1;clear t1;go_wp2_with fail
    go_meet;rw[←HO.out,Qr5 t2.out];exact H8.out
  case rest=>
   clear x0 x1 x2 x3 x4 xf H8 HX0 HB0;have e4:o'.qty=o.qty:=by rw[←HO.out];rfl
   have e0:o'.id=o.id:=by rw[←HO.out];rfl
   have e1:o'.side=o.side:=by rw[←HO.out];rfl
   have e2:o'.kind=o.kind:=by rw[←HO.out];rfl
   have H8:=QQ hcut;obtain⟨x0,x1,x2,x3,x4⟩:=JV hcut.2.2;rw[e4]at x4;rw[e0]at x0;rw[e1]at x1;rw[e2]at x2;clear t1 hcut;have E4:=QQ e4;have E0:=QQ e0;have E1:=QQ e1;have E2:=QQ e2;clear e4 e0 e1 e2;go_wp2_with fail
   refine(U2 _ _ _).mono ?_;rintro e w1 ⟨rfl,hb⟩;rw[HR.out];clear x0 x1 x2 x3 x4;have h8:=Qh5 H8.out hb;clear H8 HR;have H8:=QQ h8;have hl1:=QJ.lt h8.2.2;have hl2:=QJ.lt h8.2.1.blk;obtain⟨x0,x1,x2,x3,x4⟩:=JV h8.2.2;obtain⟨y0,y1,y2,y3,y4,y5⟩:=h8.2.1.cells;rw[E4.out]at x4;rw[E0.out]at x0;rw[E1.out]at x1;rw[E2.out]at x2;have hlk:=OW (w:=(w1.alloc (.cells #[.int .i64 0,.int .i64 0,.int .i64 0,.int .i64 0,.bool false] 172)).drew) (h8.2.1.mp.alloc _) HF.out;have hlk2:=OW (w:=w1.drew) h8.2.1.mp HF.out;clear h8 hb;go_upto_region 8 with fail
   go_cut [7] (fun s7 wx=>s7= .bool false∧Qr4 w wx b a F M n r f H reg o')
   case first=>
    clear y0 y2 y3 y4 y5 x1 x2 x3 x4
    as_aux_lemma=>
    go_region_law (fail)
    all_goals go_wp2_with fail
    all_goals go_meet
    all_goals exact⟨rfl,Qh5 H8.out (Below.drew ((Below.refl _ w1).alloc (Nat.le_refl _) _))⟩
   case rest=>
    clear x0 x1 x2 x3 x4 y0 y1 y2 y3 y4 y5 hlk hlk2 hl1 hl2 H8;obtain⟨rfl,h8⟩:=hcut;have H8:=QQ h8;have hl1:=QJ.lt h8.2.2;have hl2:=QJ.lt h8.2.1.blk;have hao:KJ o'= .agg #[.int .i64 o.id,.int .i64 o.side,.int .i64 o.kind,.int .i64 o'.price,.int .i64 o.qty]:=by unfold KJ;rw[E0.out,E1.out,E2.out,E4.out]
    have hput: ∀W,Below wc.heap.size wc W→Calls Tryz.prog 181 #[.pointer (some ⟨a,0,none⟩),.agg #[.int .i64 o.id,.int .i64 o.side,.int .i64 o.kind,.int .i64 o'.price,.int .i64 o.qty]] W fun e w'=>e= .returned (.tuple #[.agg #[.int .i64 0,.int .i64 0],.iface 45 (.int .i64 12)])∧Below W.heap.size W w':=by
     intro W hW;rw[←hao];refine(Jh8 (h8.2.1.ar.below hW) (by omega) o').mono ?_;rintro e w' (⟨_,h2,h3⟩|⟨h1,_⟩)
     ·exact⟨h2,h3⟩
     ·have:=HN.out;omega
    have HPA:=QQ (hput ((wc.alloc (.cells #[.int .i64 0,.int .i64 0] 170)).drew) (Below.drew ((Below.refl _ _).alloc (Nat.le_refl _) _)));have HPB:=QQ (hput wc.drew (Below.drew (Below.refl _ _)));have hX0:QJ (wc.alloc (.cells #[.int .i64 0,.int .i64 0] 170)).drew wc.heap.size 170 #[.int .i64 0,.int .i64 0]:=QJ.drew (QJ.new wc _ _);have HX0:=QQ hX0;have hBA:=QQ (show Below wc.heap.size wc (wc.alloc (.cells #[.int .i64 0,.int .i64 0] 170)).drew from Below.drew ((Below.refl _ _).alloc (Nat.le_refl _) _));have hBB:=QQ (show Below wc.heap.size wc wc.drew from Below.drew (Below.refl _ _));obtain⟨x0,x1,x2,x3,x4⟩:=JV h8.2.2;have y0:=h8.2.1.cells.1;rw[E4.out]at x4;rw[E0.out]at x0;rw[E1.out]at x1;rw[E2.out]at x2;clear h8 hput hao hX0;go_upto_region 11 with fail
    go_cut [9] (fun s9 wx=>s9= .iface 45 (.int .i64 12)∧Below wc.heap.size wc wx)
    case first=>
     go_region_with (first|(go_at_call 181;refine HPA.out.mono ?_;rintro e w5 ⟨rfl,hb⟩;have hb5:=QJ.keep HX0.out hb;have z0:w5.cell? ⟨wc.heap.size,0,none⟩=some (.int .i64 0):=(by rw[QJ.cell hb5];rfl);have z1:w5.cell? ⟨wc.heap.size,1,none⟩=some (.int .i64 0):=(by rw[QJ.cell hb5];rfl);have f0:=QJ.frozen hb5 0;have f1:=QJ.frozen hb5 1;have HB5:=QQ (hBA.out.trans (hb.mono hBA.out.size));clear hb hb5)|(go_at_call 181;refine HPB.out.mono ?_;rintro e w5 ⟨rfl,hb⟩;have HB5:=QQ (hBB.out.trans (hb.mono hBB.out.size));clear hb))
     all_goals go_wp2_with fail
     all_goals go_meet
     all_goals
      refine⟨rfl, ?_⟩
      first
       |exact HB5.out.trans ((Jb0 w5 wc.heap.size 0 1 _ _).below (B:=wc.heap.size) (fun i e=>by have e':i=wc.heap.size:=e;omega) HB5.out.size)
       |exact HB5.out.alloc HB5.out.size _
    case rest=>
     obtain⟨rfl,hb⟩:=hcut;clear x0 x1 x2 x3 x4 y0 HPA HPB;have HB:=QQ (H8.out.1.trans (hb.mono H8.out.1.size));clear hb;go_wp2_with fail
     go_ret;exact⟨rfl,HB.out⟩
def X9 (p s:Int):Bool:=(decide (1≤p) &&decide (p≤1000000)) && (decide (0≤s) &&decide (s≤10000))
theorem Qm4 {p s:Int}:X9 p s=true↔1≤p∧p≤1000000∧0≤s∧s≤10000:=by simp[X9,and_assoc]
def I3 (p s:Int):Int:=if X9 p s=true then Kh6 p s else 0
def I4 (p s:Int):Int:=if X9 p s=true then Xk4 p s else 0
def Qg6 (p s:Int):Int:=if X9 p s=true then 0 else 2
theorem Qi8 (p s:Int) (w:World):Calls Tryz.prog 49 #[.int .i64 p,.int .i64 s] w fun e w'=>
  e= .returned (.tuple #[.int .i64 (I3 p s),.int .i64 (I4 p s),VZ (Qg6 p s)])∧Below w.heap.size w w':=by
 by_cases h:X9 p s=true
 ·obtain⟨h1,h2,h3,h4⟩:=Qm4.1 h
  refine(Zf1 p s w h1 h2 h3 h4).mono ?_;rintro e w' ⟨rfl,hb⟩;exact⟨by rw[I3,I4,Qg6,if_pos h,if_pos h,if_pos h];rfl,hb⟩
 ·refine(Kx6 p s w (fun h'=>h (Qm4.2 h'))).mono ?_
  rintro e w' ⟨rfl,hb⟩;exact⟨by rw[I3,I4,Qg6,if_neg h,if_neg h,if_neg h];rfl,hb⟩
attribute [local go_sem↓] Go.wp_at_zero Go.wp_at_succ
def Q9 (w:World) (b:Nat) (st dy an la:Int):Prop:=QJ w b 194 #[.int .i64 st,.int .i64 dy,.int .i64 an,.int .i64 la]
section
variable {w:World} {b:Nat} {st dy an la:Int} (h:Q9 w b st dy an la)
include h
theorem Q9.c0:w.cell? ⟨b,0,none⟩=some (.int .i64 st):=by rw[QJ.cell h];rfl
theorem Q9.c1:w.cell? ⟨b,1,none⟩=some (.int .i64 dy):=by rw[QJ.cell h];rfl
theorem Q9.c2:w.cell? ⟨b,2,none⟩=some (.int .i64 an):=by rw[QJ.cell h];rfl
theorem Q9.c3:w.cell? ⟨b,3,none⟩=some (.int .i64 la):=by rw[QJ.cell h];rfl
end
theorem Kb9 (b:Nat) (st dy an la:Int) (w:World) (h:Q9 w b st dy an la):Calls Tryz.prog 91 #[.pointer (some ⟨b,0,none⟩)] w fun e w'=>e= .returned (.int .i64 an)∧w=w':=by
 have c:=h.c2
 go_enter Tryz.func91,Tryz.ntmps91
 go_wp2
 go_ret
 exact⟨rfl,rfl⟩
theorem Qr6 (b:Nat) (st dy an la:Int) (w:World) (h:Q9 w b st dy an la):Calls Tryz.prog 90 #[.pointer (some ⟨b,0,none⟩)] w fun e w'=>e= .returned (.int .i64 la)∧w=w':=by
 have c:=h.c3
 go_enter Tryz.func90,Tryz.ntmps90
 go_wp2
 go_ret
 exact⟨rfl,rfl⟩
theorem Kc0 (b:Nat) (st dy an la:Int) (w:World) (h:Q9 w b st dy an la):Calls Tryz.prog 176 #[.pointer (some ⟨b,0,none⟩)] w fun e w'=>
  e= .returned (.tuple #[.int .i64 (I3 an st),.int .i64 (I4 an st)])∧Below w.heap.size w w':=by
 have c0:=h.c0
 have c2:=h.c2
 go_enter Tryz.func176,Tryz.ntmps176
 go_wp2
 go_region_held3 (fun w'=>w'.cell? ⟨b,0,none⟩=some (.int .i64 st)∧w'.cell? ⟨b,2,none⟩=some (.int .i64 an))
  (first|go_keep|exact⟨(hB.cell (p:=⟨b,0,none⟩) (QJ.lt h)).trans c0,(hB.cell (p:=⟨b,2,none⟩) (QJ.lt h)).trans c2⟩)
  (first|(go_at_call 49;refine(Qi8 _ _ _).mono ?_;rintro e w1 ⟨rfl,hB⟩))
 go_wp2
 go_ret2
 exact⟨rfl,(Below.refl _ w).drew.trans hB⟩
theorem Xt8 (b:Nat) (st dy an la:Int) (w:World) (h:Q9 w b st dy an la):Calls Tryz.prog 183 #[.pointer (some ⟨b,0,none⟩)] w fun e w'=>
  e= .returned (.tuple #[.int .i64 (I3 la dy),.int .i64 (I4 la dy)])∧Below w.heap.size w w':=by
 have c1:=h.c1
 have c3:=h.c3
 go_enter Tryz.func183,Tryz.ntmps183
 go_wp2
 go_region_held3 (fun w'=>w'.cell? ⟨b,1,none⟩=some (.int .i64 dy)∧w'.cell? ⟨b,3,none⟩=some (.int .i64 la))
  (first|go_keep|exact⟨(hB.cell (p:=⟨b,1,none⟩) (QJ.lt h)).trans c1,(hB.cell (p:=⟨b,3,none⟩) (QJ.lt h)).trans c3⟩)
  (first|(go_at_call 49;refine(Qi8 _ _ _).mono ?_;rintro e w1 ⟨rfl,hB⟩))
 go_wp2
 go_ret2
 exact⟨rfl,(Below.refl _ w).drew.trans hB⟩
def inB (p lo hi:Int):Bool:=decide (lo≤p) &&decide (p≤hi)
def Jc7 (st an p:Int):Bool:=inB p (I3 an st) (I4 an st)
def I5 (st dy an la p:Int):Bool:=Jc7 st an p &&inB p (I3 la dy) (I4 la dy)
theorem Xt9 (b:Nat) (st dy an la p:Int) (w:World) (h:Q9 w b st dy an la):Calls Tryz.prog 129 #[.pointer (some ⟨b,0,none⟩),.int .i64 p] w fun e w'=>
  e= .returned (.bool (Jc7 st an p))∧Below w.heap.size w w':=by
 unfold Jc7 inB
 go_enter Tryz.func129,Tryz.ntmps129
 go_wp2_with fail
 refine(Kc0 b st dy an la w h).mono ?_
 rintro e w1 ⟨rfl,hB⟩
 by_cases h1:I3 an st≤p
 ·have d1:=J0 h1
  have E:=QQ (show decide (p≤I4 an st)=(decide (I3 an st≤p) &&decide (p≤I4 an st)) by rw[d1];rfl);go_wp2;go_ret;exact⟨Q5 E.out,hB⟩
 ·have d1:=OY h1
  have E:=QQ (show false=(decide (I3 an st≤p) &&decide (p≤I4 an st)) by rw[d1];rfl);clear h1;go_wp2;go_ret;exact⟨Q5 E.out,hB⟩
theorem Kc1 (b:Nat) (st dy an la p:Int) (w:World) (h:Q9 w b st dy an la):Calls Tryz.prog 144 #[.pointer (some ⟨b,0,none⟩),.int .i64 p] w fun e w'=>
  e= .returned (.bool (I5 st dy an la p))∧Below w.heap.size w w':=by
 unfold I5 inB
 go_enter Tryz.func144,Tryz.ntmps144
 go_wp2_with fail
 refine(Xt8 b st dy an la w h).mono ?_
 rintro e w1 ⟨rfl,hB⟩
 go_wp2_with fail
 refine(Xt9 b st dy an la p w1 (QJ.keep h hB)).mono ?_
 rintro e w2 ⟨rfl,hB2⟩
 have hB12:Below w.heap.size w w2:=hB.trans (hB2.mono hB.size)
 by_cases hc:Jc7 st an p=true
 ·by_cases h1:I3 la dy≤p
  ·have d1:=J0 h1
   have E:=QQ (show decide (p≤I4 la dy)=(Jc7 st an p && (decide (I3 la dy≤p) &&decide (p≤I4 la dy))) by rw[d1,hc];rfl);rw[hc];clear hc;go_wp2;go_ret;exact⟨Q5 E.out,hB12⟩
  ·have d1:=OY h1
   have E:=QQ (show false=(Jc7 st an p && (decide (I3 la dy≤p) &&decide (p≤I4 la dy))) by rw[d1,hc];rfl);rw[hc];clear h1 hc;go_wp2;go_ret;exact⟨Q5 E.out,hB12⟩
 ·have hc':Jc7 st an p=false:=by simpa using hc
  have E:=QQ (show false=(Jc7 st an p && (decide (I3 la dy≤p) &&decide (p≤I4 la dy))) by rw[hc'];rfl);rw[hc'];clear hc hc';go_wp2;go_ret;exact⟨Q5 E.out,hB12⟩
theorem Jl5 (b:Nat) (st dy an la p:Int) (w:World) (h:Q9 w b st dy an la):Calls Tryz.prog 146 #[.pointer (some ⟨b,0,none⟩),.int .i64 p] w fun e w'=>
  e= .returned (VZ (if J4 p 1=true then 0 else 2))∧Q9 w' b st dy an (if J4 p 1=true then p else la)∧QK (fun i=>i=b) w w':=by
 by_cases hr:J4 p 1=true
 ·rw[if_pos hr,if_pos hr,K0]
  have Hr:=QQ hr;clear hr;go_enter Tryz.func146,Tryz.ntmps146
  go_wp2_with fail
  refine(U2 p 1 w).mono ?_;rintro e w1 ⟨rfl,hB⟩;rw[Hr.out];have h1:Q9 w1 b st dy an la:=QJ.keep h hB;have c3:=h1.c3;have f3:=QJ.frozen h1 3;go_wp2;go_ret;exact⟨rfl,QJ.set_ h1 3 _,QK.after hB (QK.set_ _ ⟨b,3,none⟩ _)⟩
 ·have hr':J4 p 1=false:=by simpa using hr
  rw[if_neg hr,if_neg hr,Qq5];have Hr:=QQ hr';clear hr hr';go_enter Tryz.func146,Tryz.ntmps146
  go_wp2_with fail
  refine(U2 p 1 w).mono ?_;rintro e w1 ⟨rfl,hB⟩;rw[Hr.out];go_wp2;go_ret;exact⟨rfl,QJ.keep h hB,QK.of_below hB _⟩
theorem Zf2 (b:Nat) (st dy an la p:Int) (w:World) (h:Q9 w b st dy an la):Calls Tryz.prog 127 #[.pointer (some ⟨b,0,none⟩),.int .i64 p] w fun e w'=>
  e= .returned (VZ (if J4 p 1=true then 0 else 2))∧Q9 w' b st dy (if J4 p 1=true then p else an) (if J4 p 1=true then p else la)∧QK (fun i=>i=b) w w':=by
 by_cases hr:J4 p 1=true
 ·rw[if_pos hr,if_pos hr,if_pos hr,K0]
  go_enter Tryz.func127,Tryz.ntmps127
  go_wp2_with fail
  refine(Jl5 b st dy an la p w h).mono ?_;rintro e w1 ⟨rfl,h1,hK⟩;rw[if_pos hr]at h1;rw[if_pos hr,K0];have f2:=QJ.frozen h1 2;have c2:=Q9.c2 h1;clear hr;go_wp2;go_ret;exact⟨rfl,QJ.set_ h1 2 _,hK.trans (QK.set_ _ ⟨b,2,none⟩ _) (fun i h=> .inl h)⟩
 ·rw[if_neg hr,if_neg hr,if_neg hr,Qq5]
  go_enter Tryz.func127,Tryz.ntmps127
  go_wp2_with fail
  refine(Jl5 b st dy an la p w h).mono ?_;rintro e w1 ⟨rfl,h1,hK⟩;rw[if_neg hr]at h1;rw[if_neg hr,Qq5];clear hr;go_wp2;go_ret;exact⟨rfl,h1,hK⟩
theorem Xk8 (st dy p:Int) (w:World):Calls Tryz.prog 93 #[.int .i64 st,.int .i64 dy,.int .i64 p] w fun e w'=>
  Below w.heap.size w w'∧((X9 p st &&X9 p dy)=true∧(∃b,w.heap.size≤b∧e= .returned (.tuple #[.pointer (some ⟨b,0,none⟩),.nilIface])∧Q9 w' b st dy p p)∨
   (X9 p st &&X9 p dy)=false∧e= .returned (.tuple #[.pointer none,VZ 2])):=by
 have i0: ∀w,(Instr.index 199 (.agg #[.int .i64 st,.int .i64 dy]) (.int .i64 0)).run Tryz.prog w= .ok (.int .i64 st) w:=fun _=>by kernel_rfl
 have i1: ∀w,(Instr.index 199 (.agg #[.int .i64 st,.int .i64 dy]) (.int .i64 1)).run Tryz.prog w= .ok (.int .i64 dy) w:=fun _=>by kernel_rfl
 by_cases h1:X9 p st=true
 ·by_cases h2:X9 p dy=true
  ·have e1:Qg6 p st=0:=by rw[Qg6,if_pos h1]
   have e2:Qg6 p dy=0:=by rw[Qg6,if_pos h2]
   have H:=QQ (show(X9 p st &&X9 p dy)=true by rw[h1,h2];rfl);have E1:=QQ e1;have E2:=QQ e2;clear h1 h2 e1 e2;go_enter Tryz.func93,Tryz.ntmps93
   go_wp2;refine wp_loop_rounds 3 ?_;rw[rounds_succ];go_wp2_with fail
   refine(Qi8 _ _ _).mono ?_;rintro e w1 ⟨rfl,hB1⟩;rw[E1.out,K0];go_wp2;rw[rounds_succ];go_wp2_with fail
   refine(Qi8 _ _ _).mono ?_;rintro e w2 ⟨rfl,hB2⟩;rw[E2.out,K0];go_wp2;rw[rounds_succ];go_wp2;go_ret2;have hB:Below w.heap.size w w2:=hB1.trans (hB2.mono hB1.size);exact⟨hB.alloc hB.size _,.inl ⟨H.out,_,hB.size,rfl,QJ.new _ _ _⟩⟩
  ·have h2':X9 p dy=false:=by simpa using h2
   have e1:Qg6 p st=0:=by rw[Qg6,if_pos h1]
   have e2:Qg6 p dy=2:=by rw[Qg6,if_neg h2]
   have H:=QQ (show(X9 p st &&X9 p dy)=false by rw[h1,h2'];rfl);have E1:=QQ e1;have E2:=QQ e2;clear h1 h2 h2' e1 e2;go_enter Tryz.func93,Tryz.ntmps93
   go_wp2;refine wp_loop_rounds 2 ?_;rw[rounds_succ];go_wp2_with fail
   refine(Qi8 _ _ _).mono ?_;rintro e w1 ⟨rfl,hB1⟩;rw[E1.out,K0];go_wp2;rw[rounds_succ];go_wp2_with fail
   refine(Qi8 _ _ _).mono ?_;rintro e w2 ⟨rfl,hB2⟩;rw[E2.out,Qq5];go_wp2;go_ret2;have hB:Below w.heap.size w w2:=hB1.trans (hB2.mono hB1.size);exact⟨hB,.inr ⟨H.out,rfl⟩⟩
 ·have h1':X9 p st=false:=by simpa using h1
  have e1:Qg6 p st=2:=by rw[Qg6,if_neg h1]
  have H:=QQ (show(X9 p st &&X9 p dy)=false by rw[h1'];rfl);have E1:=QQ e1;clear h1 h1' e1;go_enter Tryz.func93,Tryz.ntmps93
  go_wp2;refine wp_loop_rounds 1 ?_;rw[rounds_succ];go_wp2_with fail
  refine(Qi8 _ _ _).mono ?_;rintro e w1 ⟨rfl,hB1⟩;rw[E1.out,Qq5];go_wp2;go_ret2;exact⟨hB1,.inr ⟨H.out,rfl⟩⟩
theorem Kn7 (w:World) (b a:Nat) (F:Nat→Prop) (M:Int→Int→Option QX) (n r:Nat) (f:Int→Option Value) (H:Int→HS) (reg:Nat→Int) (hM:XK w b a F M n r f H reg) (hS:ZX M n f H) (x:HO) (hx:x∈(H 1).all) (hk:x.2.kind=2) (hn:n≤100):
  Calls Tryz.prog 119 #[.pointer (some ⟨b,0,none⟩),.int .i64 x.2.id] w fun e w'=>e= .returned (.tuple #[KJ x.2,VZ 0])∧Qi6 w w' b a r F n H 1 x.2.id:=by
 have hf:=hS.hf x (OX ZQ hx)
 have hsd:=hS.side_of ZQ hx
 have hMx:=hS.hM x (OX ZQ hx)
 obtain⟨⟨h1,h2⟩,o⟩:=x
 dsimp only at hf hsd hMx hk⊢
 have hmk:(o.kind ==2)=true:=by simpa using hk
 have hb0:Below w.heap.size w (w.alloc (.cells #[.int .i64 0,.int .i64 0,.int .i64 0,.int .i64 0,.int .i64 0] 117)):=(Below.refl _ w).alloc (Nat.le_refl _) _
 have hM0:=hM.below hb0
 have hlk:=X5 hM0.mp hf
 dsimp only at hlk
 rw[hsd,hmk]at hlk
 obtain⟨y0,y1,y2,y3,y4,y5⟩:=hM0.cells
 have HM:=QQ hM
 have HSm:=QQ hS
 have HX:=QQ hx
 have HKd:=QQ hk
 have HSd:=QQ hsd
 have HMx:=QQ hMx
 have HN:=QQ hn
 have HM0:=QQ hM0
 clear y0 y2 y3 y4 y5 hM hS hx hk hsd hMx hn hM0 hf hmk hb0
 go_enter Tryz.func119,Tryz.ntmps119
 go_upto_region 4 with fail
 clear hlk y1
 obtain⟨hb1,hM1,hR1,hP1⟩:=Ql0 (h1:=h1) (h2:=h2) (sd:=1) (pr:=o.price) (mk:=true) HM.out
 have hrb:=QQ (show¬V6 b r F H w.heap.size from fun h=>by have:=HM.out.fp h;omega)
 have hpb:=QQ (show¬V6 b r F H (w.heap.size+1)from fun h=>by have:=HM.out.fp h;omega)
 obtain⟨pb,hpbe⟩: ∃pb,pb=w.heap.size+1:=⟨_,rfl⟩
 obtain⟨rb,hrbe⟩: ∃rb,rb=w.heap.size:=⟨_,rfl⟩
 have hne:rb≠pb:=by omega
 have HLT:=QQ (show w.heap.size≤rb∧w.heap.size≤pb by omega)
 rw[←hpbe]at hP1 hpb⊢
 rw[←hrbe]at hR1 hrb⊢
 generalize(w.alloc (.cells #[.int .i64 0,.int .i64 0,.int .i64 0,.int .i64 0,.int .i64 0] 117)).alloc (.cells #[.int .i64 h1,.int .i64 h2,.int .i64 1,.int .i64 o.price,.bool true] 172)=w1 at hb1 hM1 hR1 hP1⊢
 obtain⟨w2,hdel,hI2,hT2⟩:=Js2 w1 r f hM1.mp o.id
 obtain⟨hM2,hS2⟩:=hM1.map_ hT2 hI2
 have HS2:=QQ ((KQ.of_below (G:=V6 b r F H) hb1).trans hS2)
 have hP2:QJ w2 pb 172 #[.int .i64 h1,.int .i64 h2,.int .i64 1,.int .i64 o.price,.bool true]:=QJ.of_block hP1 (hT2.block pb (fun e=>hpb.out (.inr (.inl e))))
 have hR2:QJ w2 rb 117 #[.int .i64 0,.int .i64 0,.int .i64 0,.int .i64 0,.int .i64 0]:=QJ.of_block hR1 (hT2.block rb (fun e=>hrb.out (.inr (.inl e))))
 have y1:=hM1.cells.2.1
 have HM2:=QQ hM2
 have HP2:=QQ hP2
 have HR2:=QQ hR2
 obtain⟨p0,p1,p2,p3,p4⟩:=Qc0 hP2
 clear hM1 hR1 hP1 hT2 hI2 hM2 hS2 hP2 hR2 hb1 hpbe hrbe
 go_wp2_with (simp only[hdel])
 clear hdel y1
 go_quiet (fail)
 have hq:Below w2.heap.size w2 (w2.drewN nq):=QY (Below.refl _ _) nq
 have HM3:=QQ (HM2.out.below hq)
 have HP3:=QQ (QJ.drewN HP2.out nq)
 have HR3:=QQ (QJ.drewN HR2.out nq)
 have HS3:=QQ (HS2.out.trans (KQ.of_below hq))
 clear hq p0 p1 p2 p3 p4
 generalize w2.drewN nq=w3 at HM3 HP3 HR3 HS3⊢
 clear HM2 HP2 HR2 HS2
 obtain⟨p0,p1,p2,p3,p4⟩:=Qc0 HP3.out
 obtain⟨y0,y1,y2,y3,y4,y5⟩:=HM3.out.cells
 have hmf: ∀(fn:Fn) (first cap:Array Value) (w:World),(Instr.makeFunc fn first cap).run Tryz.prog w= .ok (.func fn first cap) w:=fun _ _ _ _=>rfl
 have eg:=Go.Proofs.enters_of Tryz.func148 (by kernel_rfl) rfl
 obtain⟨m,hm⟩: ∃m,(H 1).ms.length=m:=⟨_,rfl⟩
 rw[hm]at y2
 have hmb:QZ (H 1).mA≠some b:=fun e=>by have h3:=(HM3.out.hx 1 ZQ).gm b e;have h4:=HM3.out.gb;omega
 have hdrop:=Jh6 w3 (H 1).mA m (H 1).mc (J7 (H 1).ms) pb (h1,h2) (by rw[←hm];exact(HM3.out.hx 1 ZQ).rm) (by have:=Kh7 ZQ HSm.out HN.out;omega) (fun e=>hpb.out (XK.fpH 1 ZQ (.inl e))) p0 p1
 have HD:=QQ hdrop
 have HMb:=QQ hmb
 have Hm:=QQ hm
 clear y0 y1 y2 y3 y4 y5 hdrop hmb hm
 have y2:w3.cell? ⟨b,2,none⟩=some (.slice (H 1).mA m (H 1).mc):=by rw[QJ.cell HM3.out.blk];exact congrArg (fun k=>some (Value.slice (H 1).mA k (H 1).mc)) Hm.out
 go_wp2_with fail
 refine HD.out.mono ?_
 rintro e w4 ⟨hk4,rfl,hr4⟩
 have b4:=QJ.keeps HM3.out.blk hk4 HMb.out
 have r0:w4.cell? ⟨b,2,none⟩=some (.slice (H 1).mA m (H 1).mc):=by rw[QJ.cell b4];exact congrArg (fun k=>some (Value.slice (H 1).mA k (H 1).mc)) Hm.out
 have rf0:=QJ.frozen b4 2
 rw[Qa6]at hr4⊢
 rw[←Qt8]at hr4
 obtain⟨reg5,hM5,hB5⟩:=HM3.out.market ZQ (A':=(H 1).mA) (c':=(H 1).mc) (ms':=(H 1).ms.filter (J9 (h1,h2))) hk4 hr4 (fun g hg=> .inl hg)
 have hq4: ∀g,¬V6 b r F H g→QZ (H 1).mA≠some g∧g≠b:=fun g hg=>⟨fun e=>hg (XK.fpH 1 ZQ (.inl e)),fun e=>hg (.inl e)⟩
 have HP5:=QQ (QJ.far (QJ.keeps HP3.out hk4 (hq4 _ hpb.out).1) (p:=⟨b,2,none⟩) (hq4 _ hpb.out).2 (.slice (H 1).mA ((H 1).ms.filter (J9 (h1,h2))).length (H 1).mc))
 have HR5:=QQ (QJ.far (QJ.keeps HR3.out hk4 (hq4 _ hrb.out).1) (p:=⟨b,2,none⟩) (hq4 _ hrb.out).2 (.slice (H 1).mA ((H 1).ms.filter (J9 (h1,h2))).length (H 1).mc))
 obtain⟨hS5,hL5⟩:=Jp3 HSm.out ZQ HX.out HKd.out (H 1).mA (H 1).mc
 have H13:=QQ (show Jl4 w (w4.setCell ⟨b,2,none⟩ (.slice (H 1).mA ((H 1).ms.filter (J9 (h1,h2))).length (H 1).mc)) b a r F M n (V1 f o.id none) H 1 o.id h1 h2 pb rb #[.int .i64 h1,.int .i64 h2,.int .i64 1,.int .i64 o.price,.bool true]from
  ⟨_,reg5,hM5,HS3.out.trans hB5,hS5,hL5,fun s' h=>UJ h,HP5.out,HR5.out,Xk6 ZQ (fun i hi=>hi) hrb.out⟩)
 clear hM5 hB5 hS5 hL5 hk4 hr4 b4 hq4 p0 p1 p2 p3 p4 y2 HP5 HR5 HM3 HP3 HR3 HS3
 obtain⟨nl,hnl⟩: ∃nl,((H 1).ms.filter (J9 (h1,h2))).length=nl:=⟨_,rfl⟩
 rw[hnl]at H13⊢
 clear hnl
 obtain⟨H5,reg5,hM5,hB5,hS5,hL5,hO5,hP5,hR5,hn5⟩:=H13.out
 have q0:=hM5.cells.1
 obtain⟨p0,p1,p2,p3,p4⟩:=Qc0 hP5
 clear hM5 hB5 hS5 hL5 hO5 hP5 hR5 hn5
 go_upto_region 13 with fail
 generalize(w4.setCell ⟨b,2,none⟩ (.slice (H 1).mA nl (H 1).mc))=w5 at H13 q0 p0 p1 p2 p3 p4⊢
 obtain⟨H5,reg5,hM5,hB5,hS5,hL5,hO5,hP5,hR5,hn5⟩:=H13.out
 have hget:=Ji8 (M:=M) hM5 (Below.drew (Below.refl w5.heap.size w5)) HMx.out
 have HG:=QQ hget
 have HB5:=QQ (hB5.trans (KQ.of_below (Below.drew (Below.refl w5.heap.size w5))))
 have HR5:=QQ hR5
 have HN5:=QQ hn5
 have HS5:=QQ hS5
 have HL5:=QQ hL5
 have HO5:=QQ hO5
 clear hget p2 p3 p4 hM5 hB5 hS5 hL5 hO5 hP5 hR5 hn5 H13
 go_cut [5,104] (fun s5 s104 wx=>s5= .nilIface∧Xk7 w wx b a r rb F M n (V1 f o.id none) H 1 o.id h1 h2 (KV o))
 case first=>as_aux_lemma=>
  go_region_with (go_at_call 153;refine HG.out.mono ?_;rintro e w6 ⟨rfl,F6,reg6,hM6,hB6⟩;have hr6:QJ w6 rb 117 #[.int .i64 0,.int .i64 0,.int .i64 0,.int .i64 0,.int .i64 0]:=QJ.keeps (QJ.drew HR5.out) hB6.1 HN5.out;have z0:=(Qc0 hr6).1;have z1:=(Qc0 hr6).2.1;have z2:=(Qc0 hr6).2.2.1;have z3:=(Qc0 hr6).2.2.2.1;have z4:=(Qc0 hr6).2.2.2.2;have f0:=QJ.frozen hr6 0;have f1:=QJ.frozen hr6 1;have f2:=QJ.frozen hr6 2;have f3:=QJ.frozen hr6 3;have f4:=QJ.frozen hr6 4;have HM6:=QQ hM6;have HB6:=QQ hB6;have HR6:=QQ hr6;clear hM6 hr6 hB6)
  all_goals go_wp2_with fail
  all_goals go_meet
  all_goals
   have hnb6: ¬V6 b r F6 H5 rb:=fun h=>(HB6.out.2 rb h).elim HN5.out (fun h3=>by have h4:=QJ.lt (QJ.drew HR5.out);omega)
   exact⟨rfl,Jb2 HM6.out (HB5.out.trans HB6.out) hnb6 HLT.out.1 HS5.out HL5.out HO5.out,QJ.set_ (QJ.set_ (QJ.set_ (QJ.set_ (QJ.set_ HR6.out 0 _) 1 _) 2 _) 3 _) 4 _⟩
 case rest=>
  obtain⟨rfl,hdone,hbox⟩:=hcut;have HDn:=QQ hdone;have HBx:=QQ hbox;clear hdone hbox;go_wp2_with fail
  refine Qm3 (g:=rb) (cs:=KV o) (v:=VZ 0) (by with_unfolding_all rfl) (by with_unfolding_all rfl) (by with_unfolding_all rfl) HBx.out rfl ?_;exact⟨rfl,HDn.out⟩
theorem Kn8 (w:World) (b a:Nat) (F:Nat→Prop) (M:Int→Int→Option QX) (n r:Nat) (f:Int→Option Value) (H:Int→HS) (reg:Nat→Int) (hM:XK w b a F M n r f H reg) (hS:ZX M n f H) (x:HO) (hx:x∈(H 1).all) (hk:x.2.kind≠2) (hn:n≤100) (k:Nat) (hkl:k< (H 1).qs.length) (hxk:x∈(H 1).qs[k].os) (hpk:(H 1).qs[k].price=x.2.price):
  Calls Tryz.prog 119 #[.pointer (some ⟨b,0,none⟩),.int .i64 x.2.id] w fun e w'=>e= .returned (.tuple #[KJ x.2,VZ 0])∧Qi6 w w' b a r F n H 1 x.2.id:=by
 have hf:=hS.hf x (OX ZQ hx)
 have hsd:=hS.side_of ZQ hx
 have hMx:=hS.hM x (OX ZQ hx)
 obtain⟨⟨h1,h2⟩,o⟩:=x
 dsimp only at hf hsd hMx hk⊢
 have hmk:(o.kind ==2)=false:=by simpa using hk
 have hb0:Below w.heap.size w (w.alloc (.cells #[.int .i64 0,.int .i64 0,.int .i64 0,.int .i64 0,.int .i64 0] 117)):=(Below.refl _ w).alloc (Nat.le_refl _) _
 have hM0:=hM.below hb0
 have hlk:=X5 hM0.mp hf
 dsimp only at hlk
 rw[hsd,hmk]at hlk
 obtain⟨y0,y1,y2,y3,y4,y5⟩:=hM0.cells
 have HM:=QQ hM
 have HSm:=QQ hS
 have HX:=QQ hx
 have HKd:=QQ hk
 have HSd:=QQ hsd
 have HMx:=QQ hMx
 have HN:=QQ hn
 have HM0:=QQ hM0
 clear y0 y2 y3 y4 y5 hM hS hx hk hsd hMx hn hM0 hf hmk hb0
 go_enter Tryz.func119,Tryz.ntmps119
 go_upto_region 4 with fail
 clear hlk y1
 obtain⟨hb1,hM1,hR1,hP1⟩:=Ql0 (h1:=h1) (h2:=h2) (sd:=1) (pr:=o.price) (mk:=false) HM.out
 have hrb:=QQ (show¬V6 b r F H w.heap.size from fun h=>by have:=HM.out.fp h;omega)
 have hpb:=QQ (show¬V6 b r F H (w.heap.size+1)from fun h=>by have:=HM.out.fp h;omega)
 obtain⟨pb,hpbe⟩: ∃pb,pb=w.heap.size+1:=⟨_,rfl⟩
 obtain⟨rb,hrbe⟩: ∃rb,rb=w.heap.size:=⟨_,rfl⟩
 have hne:rb≠pb:=by omega
 have HLT:=QQ (show w.heap.size≤rb∧w.heap.size≤pb by omega)
 rw[←hpbe]at hP1 hpb⊢
 rw[←hrbe]at hR1 hrb⊢
 generalize(w.alloc (.cells #[.int .i64 0,.int .i64 0,.int .i64 0,.int .i64 0,.int .i64 0] 117)).alloc (.cells #[.int .i64 h1,.int .i64 h2,.int .i64 1,.int .i64 o.price,.bool false] 172)=w1 at hb1 hM1 hR1 hP1⊢
 obtain⟨w2,hdel,hI2,hT2⟩:=Js2 w1 r f hM1.mp o.id
 obtain⟨hM2,hS2⟩:=hM1.map_ hT2 hI2
 have HS2:=QQ ((KQ.of_below (G:=V6 b r F H) hb1).trans hS2)
 have hP2:QJ w2 pb 172 #[.int .i64 h1,.int .i64 h2,.int .i64 1,.int .i64 o.price,.bool false]:=QJ.of_block hP1 (hT2.block pb (fun e=>hpb.out (.inr (.inl e))))
 have hR2:QJ w2 rb 117 #[.int .i64 0,.int .i64 0,.int .i64 0,.int .i64 0,.int .i64 0]:=QJ.of_block hR1 (hT2.block rb (fun e=>hrb.out (.inr (.inl e))))
 have y1:=hM1.cells.2.1
 have HM2:=QQ hM2
 have HP2:=QQ hP2
 have HR2:=QQ hR2
 obtain⟨p0,p1,p2,p3,p4⟩:=Qc0 hP2
 clear hM1 hR1 hP1 hT2 hI2 hM2 hS2 hP2 hR2 hb1 hpbe hrbe
 go_wp2_with (simp only[hdel])
 clear hdel y1
 go_quiet (fail)
 have hq:Below w2.heap.size w2 (w2.drewN nq):=QY (Below.refl _ _) nq
 have HM3:=QQ (HM2.out.below hq)
 have HP3:=QQ (QJ.drewN HP2.out nq)
 have HR3:=QQ (QJ.drewN HR2.out nq)
 have HS3:=QQ (HS2.out.trans (KQ.of_below hq))
 clear hq p0 p1 p2 p3 p4
 generalize w2.drewN nq=w3 at HM3 HP3 HR3 HS3⊢
 clear HM2 HP2 HR2 HS2
 obtain⟨p0,p1,p2,p3,p4⟩:=Qc0 HP3.out
 obtain⟨y0,y1,y2,y3,y4,y5⟩:=HM3.out.cells
 have hmf: ∀(fn:Fn) (first cap:Array Value) (w:World),(Instr.makeFunc fn first cap).run Tryz.prog w= .ok (.func fn first cap) w:=fun _ _ _ _=>rfl
 have eg:=Go.Proofs.enters_of Tryz.func148 (by kernel_rfl) rfl
 have hx3:=HM3.out.hx 1 ZQ
 obtain⟨qg,hqg,hqc⟩:=hx3.rq.elem KX (by omega) (i:=k) (by simpa using hkl)
 obtain⟨q,hqk⟩: ∃q,(H 1).qs[k]'hkl=q:=⟨_,rfl⟩
 have hmem:q∈(H 1).qs:=by rw[←hqk];exact List.getElem_mem _
 have q0:w3.cell? ⟨qg,k*2,none⟩=some (.int .i64 q.price):=by have:=hqc 0 _ rfl;rw[←hqk];simpa [QG.que]using this
 have q1:w3.cell? ⟨qg,k*2+1,none⟩=some (.slice q.A q.os.length q.c):=by have:=hqc 1 _ rfl;rw[←hqk];simpa [QG.que]using this
 have hqb:QZ (H 1).qA=some qg:=by rw[hqg];rfl
 have hql:=hx3.rq.lt hqb
 have hqm:QZ q.A≠some qg:=fun e=>by have h3:=hx3.gl _ hmem qg e;have h4:=hx3.gq qg hqb;omega
 have hqB:QZ q.A≠some b:=fun e=>by have h3:=hx3.gl _ hmem b e;have h4:=HM3.out.gb;omega
 have hqp:QZ q.A≠some pb:=fun e=>hpb.out (XK.fpH 1 ZQ (.inr (.inr ⟨q,hmem,e⟩)))
 have hqs:=Js3 ZQ HSm.out HN.out
 have hos:q.os.length≤1000:=by rw[←hqk];exact Kx7 ZQ HSm.out HN.out hkl
 have hfind:=Jh3 w3 b 2 1 o.price (H 1).qA (H 1).qs.length (H 1).qc ((H 1).qs.map QG.que) (by exact y3) (ZV.of_row KX (by omega) hx3.rq) (HSm.out.is 1 ZQ).rank hqs
 have HFi:=QQ hfind
 have HqA:=QQ hqg
 have Hqk:=QQ hqk
 have Hkl:=QQ hkl
 have Hxk:=QQ hxk
 have Hpk:=QQ hpk
 have HRow:=QQ (hx3.rl q hmem)
 have HQR:=QQ hx3.rq
 have HQm:=QQ hqm
 have HQB:=QQ hqB
 have HQp:=QQ hqp
 have HQb2:=QQ (show b≠qg from fun e=>by have h3:=HM3.out.gb;have h4:=hx3.gq qg hqb;rw[e]at h3;omega)
 clear hfind hx3 hqc hmem hqm hqB hqp hqb hqk hxk hpk
 go_wp2_with fail
 refine HFi.out.mono ?_
 rintro e w4 ⟨hb4,k4,hk4,rfl⟩
 obtain rfl:k4=k:=Xs7 (HSm.out.is 1 ZQ) Hkl.out Hpk.out hk4
 obtain⟨fb,HFb⟩: ∃fb,Hid (Qm1 1 o.price ((H 1).qs.map QG.que) (H 1).qs.length k4=fb):=⟨_,QQ rfl⟩
 rw[HFb.out]
 have HM4:=QQ (HM3.out.below hb4)
 have HP4:=QQ (QJ.keep HP3.out hb4)
 have HR4:=QQ (QJ.keep HR3.out hb4)
 have HS4:=QQ (HS3.out.trans (KQ.of_below hb4))
 obtain⟨hc4,hf4⟩:=Zh5 hb4
 have q0':w4.cell? ⟨qg,k4*2,none⟩=some (.int .i64 q.price):=(hc4 _ _ hql).trans q0
 have q1':w4.cell? ⟨qg,k4*2+1,none⟩=some (.slice q.A q.os.length q.c):=(hc4 _ _ hql).trans q1
 have hrow4:=HRow.out.below hb4
 have hqr4:=HQR.out.below hb4
 have hql4:qg<w4.heap.size:=by have:=hb4.size;omega
 clear hk4 q0 q1 p0 p1 p2 p3 p4 y0 y1 y2 y3 y4 y5 hql hc4 hf4 hb4 HFi HM3 HP3 HR3 HS3 HRow HQR
 obtain⟨l,hll⟩: ∃l,(H 1).qs.length=l:=⟨_,rfl⟩
 obtain⟨m,hm⟩: ∃m,q.os.length=m:=⟨_,rfl⟩
 rw[hm]at q1' hrow4
 have y3:w4.cell? ⟨b,3,none⟩=some (.slice (some ⟨qg,0,none⟩) l (H 1).qc):=by rw[QJ.cell HM4.out.blk];rw[←HqA.out,←hll];rfl
 obtain⟨p0,p1,p2,p3,p4⟩:=Qc0 HP4.out
 have hkz:(k4:Int)< (l:Int):=by omega
 have hk0:(0:Int)≤(k4:Int):=by omega
 have hdrop: ∀W,Below w4.heap.size w4 W→Calls Tryz.prog 148 #[.slice q.A m q.c,.pointer (some ⟨pb,0,none⟩)] W _:=fun W hW=>Jh6 W q.A m q.c (J7 q.os) pb (h1,h2) (hrow4.below hW) (by omega) HQp.out ((QJ.cell (QJ.keep HP4.out hW) 0).trans rfl) ((QJ.cell (QJ.keep HP4.out hW) 1).trans rfl)
 have HD:=QQ (hdrop w4.drew (Below.drew (Below.refl _ _)))
 have HQR4:=QQ hqr4
 have HL:=QQ hll
 have Hm:=QQ hm
 have hbl:=QJ.lt HM4.out.blk
 clear hdrop hrow4 hqr4 hll hm hos hqs
 go_upto_region 10 with fail
 go_cut [72] (fun s72 wx=>Xk5 w4 wx qg k4 q.A q.c q.os (h1,h2))
 case first=>
  go_region_with (go_at_call 148;refine HD.out.mono ?_;rintro e w5 ⟨hk5,rfl,hr5⟩;have z1:w5.cell? ⟨b,3,none⟩=some (.slice (some ⟨qg,0,none⟩) l (H 1).qc):=(hk5.cell (p:=⟨b,3,none⟩) hbl HQB.out).trans y3;have z2:w5.cell? ⟨qg,k4*2+1,none⟩=some (.slice q.A m q.c):=(hk5.cell (p:=⟨qg,k4*2+1,none⟩) hql4 HQm.out).trans q1';have z3:=(hk5.frozen (p:=⟨qg,k4*2+1,none⟩) hql4 HQm.out).trans (QW.frozen (by rw[←HqA.out];exact HQR4.out) (k4*2+1):w4.frozen? ⟨qg,k4*2+1,none⟩=false);have HK5:=QQ hk5;have HR5:=QQ hr5;clear hk5 hr5)
  all_goals go_wp2_with fail
  all_goals go_meet
  all_goals exact Xf1 HK5.out HR5.out
 case rest=>
  have hX:=Jw6 HM4.out HS4.out ZQ Hkl.out Hqk.out HqA.out hcut HP4.out HR4.out hpb.out hrb.out;have HX11:=QQ hX;obtain⟨reg6,hM6,_,_,_⟩:=hX;have hr6:=Kh8 ZQ HqA.out hM6;have HR6:=QQ hr6;clear p0 p1 p2 p3 p4 q0' q1' y3 HD hcut;have hbl6:=QJ.lt hM6.blk;have y3:wc.cell? ⟨b,3,none⟩=some (.slice (some ⟨qg,0,none⟩) l (H 1).qc):=by
   rw[QJ.cell hM6.blk];have e:Qu1 H 1 k4 q (h1,h2) 1=⟨(H 1).mA,(H 1).mc,(H 1).qA,(H 1).qc,(H 1).ms,(H 1).qs.set k4 ⟨q.price,q.A,q.c,q.os.filter (J9 (h1,h2))⟩⟩:=by unfold Qu1;rw[VV]
   show some (Value.slice (Qu1 H 1 k4 q (h1,h2) 1).qA (Qu1 H 1 k4 q (h1,h2) 1).qs.length (Qu1 H 1 k4 q (h1,h2) 1).qc)=_;rw[e];dsimp only;rw[HqA.out,List.length_set,HL.out]
  have hf6:=QJ.frozen hM6.blk 3;obtain⟨nl,hnl⟩: ∃nl,(q.os.filter (J9 (h1,h2))).length=nl:=⟨_,rfl⟩;have q1:wc.cell? ⟨qg,k4*2+1,none⟩=some (.slice q.A nl q.c):=by
   obtain⟨g,hg,hc⟩:=hr6.elem KX (by omega) (i:=k4) (by have:=Hkl.out;simpa using this)
   cases hg;have:=hc 1 _ rfl;rw[←hnl];simpa [QG.que]using this
  have Hnl:=QQ hnl;have hl6:l≤100000:=by have h3:=Js3 ZQ HSm.out HN.out;have h4:=HL.out;omega
  have hkl4:k4<l:=by omega
  clear hr6 hM6 hnl;go_upto_if 84 with fail
  go_cut [85] (fun s85 wx=>Jl4 w wx b a r F M n (V1 f o.id none) H 1 o.id h1 h2 pb rb #[.int .i64 h1,.int .i64 h2,.int .i64 1,.int .i64 o.price,.bool false])
  case first=>as_aux_lemma=>
   by_cases hz:nl=0
   ·have Hz:=QQ hz
    have t1:((nl:Int) ==0)=true:=Z2 (by omega);have hdel:=Jo4 wc qg l (H 1).qc k4 (k4+1) ((k4:Int)+1) (by omega) _ (by rw[←HL.out];exact HR6.out) hl6 (by omega) (by omega);have HDl:=QQ hdel;have hw1:IntKind.i64.wrap ((k4:Int)+1)=(k4:Int)+1:=by rw[IntKind.wrap_i64];omega
    clear hdel hz;go_wp2_with fail
    refine HDl.out.mono ?_;rintro e w7 ⟨rfl,hr7,hk7⟩;have y7:w7.cell? ⟨b,3,none⟩=some (.slice (some ⟨qg,0,none⟩) l (H 1).qc):=(hk7.cell (p:=⟨b,3,none⟩) hbl6 HQb2.out).trans y3;have f7:=(hk7.frozen (p:=⟨b,3,none⟩) hbl6 HQb2.out).trans hf6;have HR7:=QQ hr7;have HK7:=QQ hk7;clear hr7 hk7;go_wp2_with fail
    go_meet;have h9:=Jp6 HSm.out ZQ Hkl.out Hqk.out HqA.out (by rw[←Hqk.out];exact Hxk.out) HX.out (Hnl.out.trans Hz.out) rfl HX11.out hpb.out hrb.out (by rw[HL.out];exact HR7.out) HK7.out;rw[HL.out]at h9;exact h9
   ·have Hz:=QQ hz
    have t1:((nl:Int) ==0)=false:=YW (by omega);clear hz;go_wp2_with fail
    go_meet;exact Jp5 HSm.out ZQ Hkl.out Hqk.out (by rw[←Hqk.out];exact Hxk.out) HX.out (fun e=>Hz.out (Hnl.out.symm.trans e)) rfl HX11.out hrb.out
  case rest=>
   have H13:=QQ hcut;clear q1 y3 hf6 hcut;obtain⟨H5,reg5,hM5,hB5,hS5,hL5,hO5,hP5,hR5,hn5⟩:=H13.out;have q0:=hM5.cells.1;obtain⟨p0,p1,p2,p3,p4⟩:=Qc0 hP5;clear hM5 hB5 hS5 hL5 hO5 hP5 hR5 hn5;go_upto_region 13 with fail
   obtain⟨H5,reg5,hM5,hB5,hS5,hL5,hO5,hP5,hR5,hn5⟩:=H13.out;have hget:=Ji8 (M:=M) hM5 (Below.drew (Below.refl wc.heap.size wc)) HMx.out;have HG:=QQ hget;have HB5:=QQ (hB5.trans (KQ.of_below (Below.drew (Below.refl wc.heap.size wc))));have HR5:=QQ hR5;have HN5:=QQ hn5;have HS5:=QQ hS5;have HL5:=QQ hL5;have HO5:=QQ hO5;clear hget p2 p3 p4 hM5 hB5 hS5 hL5 hO5 hP5 hR5 hn5 H13
   go_cut [5,104] (fun s5 s104 wx=>s5= .nilIface∧Xk7 w wx b a r rb F M n (V1 f o.id none) H 1 o.id h1 h2 (KV o))
   case first=>as_aux_lemma=>
    go_region_with (go_at_call 153;refine HG.out.mono ?_;rintro e w6 ⟨rfl,F6,reg6,hM6,hB6⟩;have hr6:QJ w6 rb 117 #[.int .i64 0,.int .i64 0,.int .i64 0,.int .i64 0,.int .i64 0]:=QJ.keeps (QJ.drew HR5.out) hB6.1 HN5.out;have z0:=(Qc0 hr6).1;have z1:=(Qc0 hr6).2.1;have z2:=(Qc0 hr6).2.2.1;have z3:=(Qc0 hr6).2.2.2.1;have z4:=(Qc0 hr6).2.2.2.2;have f0:=QJ.frozen hr6 0;have f1:=QJ.frozen hr6 1;have f2:=QJ.frozen hr6 2;have f3:=QJ.frozen hr6 3;have f4:=QJ.frozen hr6 4;have HM6:=QQ hM6;have HB6:=QQ hB6;have HR6:=QQ hr6;clear hM6 hr6 hB6)
    all_goals go_wp2_with fail
    all_goals go_meet
    all_goals
     have hnb6: ¬V6 b r F6 H5 rb:=fun h=>(HB6.out.2 rb h).elim HN5.out (fun h3=>by have h4:=QJ.lt (QJ.drew HR5.out);omega)
     exact⟨rfl,Jb2 HM6.out (HB5.out.trans HB6.out) hnb6 HLT.out.1 HS5.out HL5.out HO5.out,QJ.set_ (QJ.set_ (QJ.set_ (QJ.set_ (QJ.set_ HR6.out 0 _) 1 _) 2 _) 3 _) 4 _⟩
   case rest=>
    obtain⟨rfl,hdone,hbox⟩:=hcut;have HDn:=QQ hdone;have HBx:=QQ hbox;clear hdone hbox;go_wp2_with fail
    refine Qm3 (g:=rb) (cs:=KV o) (v:=VZ 0) (by with_unfolding_all rfl) (by with_unfolding_all rfl) (by with_unfolding_all rfl) HBx.out rfl ?_;exact⟨rfl,HDn.out⟩
end Go.Proofs.YtbmiieehkkfbgaaGreatDoor
