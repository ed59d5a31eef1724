/- Contracts and walks that the law's proof needs. -/
import Derived.WalkKit
import Derived.WalkLawsBesides
import Derived.WalkSpells
import Derived.Deep.RegionHeld3
import Derived.Deep.DrawnRows
import Derived.Test.YtnlngicnfegjgaaGreatDoorZd9
import Derived.Test.YtnlngicnfegjgaaGreatDoorZd1
import Derived.Deep.RegionLaw
import Derived.Deep.QuietTactic
import Derived.Deep.RegionWith
import Derived.BigQuiet
import Derived.StillTailTactics
import Derived.Deep.DeepCutAuto
import Derived.Deep.CutBlock
import Derived.Test.YtnlngicnfegjgaaGreatDoorZd7
set_option linter.unusedVariables false
set_option maxRecDepth 100000
set_option maxHeartbeats 8000000
namespace Go.Proofs.YtnlngicnfegjgaaGreatDoor
open Go.RowKit
attribute [local go_sem↓] Go.wp_at_zero Go.wp_at_succ
def J1 (w:World) (b:Nat) (st dy an la:Int):Prop:=QJ w b 175 #[.int .i64 st,.int .i64 dy,.int .i64 an,.int .i64 la]
section
variable {w:World} {b:Nat} {st dy an la:Int} (h:J1 w b st dy an la)
include h
theorem J1.c0:w.cell? ⟨b,0,none⟩=some (.int .i64 st):=by rw[QJ.cell h];rfl
theorem J1.c1:w.cell? ⟨b,1,none⟩=some (.int .i64 dy):=by rw[QJ.cell h];rfl
theorem J1.c2:w.cell? ⟨b,2,none⟩=some (.int .i64 an):=by rw[QJ.cell h];rfl
theorem J1.c3:w.cell? ⟨b,3,none⟩=some (.int .i64 la):=by rw[QJ.cell h];rfl
end
theorem Xv7 (b:Nat) (st dy an la:Int) (w:World) (h:J1 w b st dy an la):Calls Tryz.prog 77 #[.pointer (some ⟨b,0,none⟩)] w fun e w'=>e= .returned (.int .i64 an)∧w=w':=by
 have c:=h.c2
 go_enter Tryz.func77,Tryz.ntmps77
 go_wp2
 go_ret
 exact⟨rfl,rfl⟩
theorem Qw5 (b:Nat) (st dy an la:Int) (w:World) (h:J1 w b st dy an la):Calls Tryz.prog 78 #[.pointer (some ⟨b,0,none⟩)] w fun e w'=>e= .returned (.int .i64 la)∧w=w':=by
 have c:=h.c3
 go_enter Tryz.func78,Tryz.ntmps78
 go_wp2
 go_ret
 exact⟨rfl,rfl⟩
theorem Xv8 (b:Nat) (st dy an la:Int) (w:World) (h:J1 w b st dy an la):Calls Tryz.prog 128 #[.pointer (some ⟨b,0,none⟩)] w fun e w'=>
  e= .returned (.tuple #[.int .i64 (V6 an st),.int .i64 (V7 an st)])∧Below w.heap.size w w':=by
 have c0:=h.c0
 have c2:=h.c2
 go_enter Tryz.func128,Tryz.ntmps128
 go_wp2
 go_region_held3 (fun w'=>w'.cell? ⟨b,0,none⟩=some (.int .i64 st)∧w'.cell? ⟨b,2,none⟩=some (.int .i64 an))
  (first|go_keep|exact⟨(hB.cell (p:=⟨b,0,none⟩) (QJ.lt h)).trans c0,(hB.cell (p:=⟨b,2,none⟩) (QJ.lt h)).trans c2⟩)
  (first|(go_at_call 35;refine(Qf9 _ _ _).mono ?_;rintro e w1 ⟨rfl,hB⟩))
 go_wp2
 go_ret2
 exact⟨rfl,(Below.refl _ w).drew.trans hB⟩
theorem Xn3 (b:Nat) (st dy an la:Int) (w:World) (h:J1 w b st dy an la):Calls Tryz.prog 132 #[.pointer (some ⟨b,0,none⟩)] w fun e w'=>
  e= .returned (.tuple #[.int .i64 (V6 la dy),.int .i64 (V7 la dy)])∧Below w.heap.size w w':=by
 have c1:=h.c1
 have c3:=h.c3
 go_enter Tryz.func132,Tryz.ntmps132
 go_wp2
 go_region_held3 (fun w'=>w'.cell? ⟨b,1,none⟩=some (.int .i64 dy)∧w'.cell? ⟨b,3,none⟩=some (.int .i64 la))
  (first|go_keep|exact⟨(hB.cell (p:=⟨b,1,none⟩) (QJ.lt h)).trans c1,(hB.cell (p:=⟨b,3,none⟩) (QJ.lt h)).trans c3⟩)
  (first|(go_at_call 35;refine(Qf9 _ _ _).mono ?_;rintro e w1 ⟨rfl,hB⟩))
 go_wp2
 go_ret2
 exact⟨rfl,(Below.refl _ w).drew.trans hB⟩
def inB (p lo hi:Int):Bool:=decide (lo≤p) &&decide (p≤hi)
def Qu6 (st an p:Int):Bool:=inB p (V6 an st) (V7 an st)
def X4 (st dy an la p:Int):Bool:=Qu6 st an p &&inB p (V6 la dy) (V7 la dy)
theorem Xn4 (b:Nat) (st dy an la p:Int) (w:World) (h:J1 w b st dy an la):Calls Tryz.prog 90 #[.pointer (some ⟨b,0,none⟩),.int .i64 p] w fun e w'=>
  e= .returned (.bool (Qu6 st an p))∧Below w.heap.size w w':=by
 unfold Qu6 inB
 go_enter Tryz.func90,Tryz.ntmps90
 go_wp2_with fail
 refine(Xv8 b st dy an la w h).mono ?_
 rintro e w1 ⟨rfl,hB⟩
 by_cases h1:V6 an st≤p
 ·have d1:=J5 h1
  have E:=QQ (show decide (p≤V7 an st)=(decide (V6 an st≤p) &&decide (p≤V7 an st)) by rw[d1];rfl);go_wp2;go_ret;exact⟨Q6 E.out,hB⟩
 ·have d1:=IQ h1
  have E:=QQ (show false=(decide (V6 an st≤p) &&decide (p≤V7 an st)) by rw[d1];rfl);clear h1;go_wp2;go_ret;exact⟨Q6 E.out,hB⟩
theorem Xv9 (b:Nat) (st dy an la p:Int) (w:World) (h:J1 w b st dy an la):Calls Tryz.prog 95 #[.pointer (some ⟨b,0,none⟩),.int .i64 p] w fun e w'=>
  e= .returned (.bool (X4 st dy an la p))∧Below w.heap.size w w':=by
 unfold X4 inB
 go_enter Tryz.func95,Tryz.ntmps95
 go_wp2_with fail
 refine(Xn3 b st dy an la w h).mono ?_
 rintro e w1 ⟨rfl,hB⟩
 go_wp2_with fail
 refine(Xn4 b st dy an la p w1 (QJ.keep h hB)).mono ?_
 rintro e w2 ⟨rfl,hB2⟩
 have hB12:Below w.heap.size w w2:=hB.trans (hB2.mono hB.size)
 by_cases hc:Qu6 st an p=true
 ·by_cases h1:V6 la dy≤p
  ·have d1:=J5 h1
   have E:=QQ (show decide (p≤V7 la dy)=(Qu6 st an p && (decide (V6 la dy≤p) &&decide (p≤V7 la dy))) by rw[d1,hc];rfl);rw[hc];clear hc;go_wp2;go_ret;exact⟨Q6 E.out,hB12⟩
  ·have d1:=IQ h1
   have E:=QQ (show false=(Qu6 st an p && (decide (V6 la dy≤p) &&decide (p≤V7 la dy))) by rw[d1,hc];rfl);rw[hc];clear h1 hc;go_wp2;go_ret;exact⟨Q6 E.out,hB12⟩
 ·have hc':Qu6 st an p=false:=by simpa using hc
  have E:=QQ (show false=(Qu6 st an p && (decide (V6 la dy≤p) &&decide (p≤V7 la dy))) by rw[hc'];rfl);rw[hc'];clear hc hc';go_wp2;go_ret;exact⟨Q6 E.out,hB12⟩
theorem Jj7 (b:Nat) (st dy an la p:Int) (w:World) (h:J1 w b st dy an la):Calls Tryz.prog 97 #[.pointer (some ⟨b,0,none⟩),.int .i64 p] w fun e w'=>
  e= .returned (YV (if J6 p 1=true then 0 else 2))∧J1 w' b st dy an (if J6 p 1=true then p else la)∧QK (fun i=>i=b) w w':=by
 by_cases hr:J6 p 1=true
 ·rw[if_pos hr,if_pos hr,UW]
  have Hr:=QQ hr;clear hr;go_enter Tryz.func97,Tryz.ntmps97
  go_wp2_with fail
  refine(U5 p 1 w).mono ?_;rintro e w1 ⟨rfl,hB⟩;rw[Hr.out];have h1:J1 w1 b st dy an la:=QJ.keep h hB;have c3:=h1.c3;have f3:=QJ.frozen h1 3;go_wp2;go_ret;exact⟨rfl,QJ.set_ h1 3 _,QK.after hB (QK.set_ _ ⟨b,3,none⟩ _)⟩
 ·have hr':J6 p 1=false:=by simpa using hr
  rw[if_neg hr,if_neg hr,Qq0];have Hr:=QQ hr';clear hr hr';go_enter Tryz.func97,Tryz.ntmps97
  go_wp2_with fail
  refine(U5 p 1 w).mono ?_;rintro e w1 ⟨rfl,hB⟩;rw[Hr.out];go_wp2;go_ret;exact⟨rfl,QJ.keep h hB,QK.of_below hB _⟩
theorem Kv2 (b:Nat) (st dy an la p:Int) (w:World) (h:J1 w b st dy an la):Calls Tryz.prog 87 #[.pointer (some ⟨b,0,none⟩),.int .i64 p] w fun e w'=>
  e= .returned (YV (if J6 p 1=true then 0 else 2))∧J1 w' b st dy (if J6 p 1=true then p else an) (if J6 p 1=true then p else la)∧QK (fun i=>i=b) w w':=by
 by_cases hr:J6 p 1=true
 ·rw[if_pos hr,if_pos hr,if_pos hr,UW]
  go_enter Tryz.func87,Tryz.ntmps87
  go_wp2_with fail
  refine(Jj7 b st dy an la p w h).mono ?_;rintro e w1 ⟨rfl,h1,hK⟩;rw[if_pos hr]at h1;rw[if_pos hr,UW];have f2:=QJ.frozen h1 2;have c2:=J1.c2 h1;clear hr;go_wp2;go_ret;exact⟨rfl,QJ.set_ h1 2 _,hK.trans (QK.set_ _ ⟨b,2,none⟩ _) (fun i h=> .inl h)⟩
 ·rw[if_neg hr,if_neg hr,if_neg hr,Qq0]
  go_enter Tryz.func87,Tryz.ntmps87
  go_wp2_with fail
  refine(Jj7 b st dy an la p w h).mono ?_;rintro e w1 ⟨rfl,h1,hK⟩;rw[if_neg hr]at h1;rw[if_neg hr,Qq0];clear hr;go_wp2;go_ret;exact⟨rfl,h1,hK⟩
theorem Xg1 (st dy p:Int) (w:World):Calls Tryz.prog 51 #[.int .i64 st,.int .i64 dy,.int .i64 p] w fun e w'=>
  Below w.heap.size w w'∧((Q5 p st &&Q5 p dy)=true∧(∃b,w.heap.size≤b∧e= .returned (.tuple #[.pointer (some ⟨b,0,none⟩),.nilIface])∧J1 w' b st dy p p)∨
   (Q5 p st &&Q5 p dy)=false∧e= .returned (.tuple #[.pointer none,YV 2])):=by
 have i0: ∀w,(Instr.index 91 (.agg #[.int .i64 st,.int .i64 dy]) (.int .i64 0)).run Tryz.prog w= .ok (.int .i64 st) w:=fun _=>by kernel_rfl
 have i1: ∀w,(Instr.index 91 (.agg #[.int .i64 st,.int .i64 dy]) (.int .i64 1)).run Tryz.prog w= .ok (.int .i64 dy) w:=fun _=>by kernel_rfl
 by_cases h1:Q5 p st=true
 ·by_cases h2:Q5 p dy=true
  ·have e1:Qm3 p st=0:=by rw[Qm3,if_pos h1]
   have e2:Qm3 p dy=0:=by rw[Qm3,if_pos h2]
   have H:=QQ (show(Q5 p st &&Q5 p dy)=true by rw[h1,h2];rfl);have E1:=QQ e1;have E2:=QQ e2;clear h1 h2 e1 e2;go_enter Tryz.func51,Tryz.ntmps51
   go_wp2;refine wp_loop_rounds 3 ?_;rw[rounds_succ];go_wp2_with fail
   refine(Qf9 _ _ _).mono ?_;rintro e w1 ⟨rfl,hB1⟩;rw[E1.out,UW];go_wp2;rw[rounds_succ];go_wp2_with fail
   refine(Qf9 _ _ _).mono ?_;rintro e w2 ⟨rfl,hB2⟩;rw[E2.out,UW];go_wp2;rw[rounds_succ];go_wp2;go_ret2;have hB:Below w.heap.size w w2:=hB1.trans (hB2.mono hB1.size);exact⟨hB.alloc hB.size _,.inl ⟨H.out,_,hB.size,rfl,QJ.new _ _ _⟩⟩
  ·have h2':Q5 p dy=false:=by simpa using h2
   have e1:Qm3 p st=0:=by rw[Qm3,if_pos h1]
   have e2:Qm3 p dy=2:=by rw[Qm3,if_neg h2]
   have H:=QQ (show(Q5 p st &&Q5 p dy)=false by rw[h1,h2'];rfl);have E1:=QQ e1;have E2:=QQ e2;clear h1 h2 h2' e1 e2;go_enter Tryz.func51,Tryz.ntmps51
   go_wp2;refine wp_loop_rounds 2 ?_;rw[rounds_succ];go_wp2_with fail
   refine(Qf9 _ _ _).mono ?_;rintro e w1 ⟨rfl,hB1⟩;rw[E1.out,UW];go_wp2;rw[rounds_succ];go_wp2_with fail
   refine(Qf9 _ _ _).mono ?_;rintro e w2 ⟨rfl,hB2⟩;rw[E2.out,Qq0];go_wp2;go_ret2;have hB:Below w.heap.size w w2:=hB1.trans (hB2.mono hB1.size);exact⟨hB,.inr ⟨H.out,rfl⟩⟩
 ·have h1':Q5 p st=false:=by simpa using h1
  have e1:Qm3 p st=2:=by rw[Qm3,if_neg h1]
  have H:=QQ (show(Q5 p st &&Q5 p dy)=false by rw[h1'];rfl);have E1:=QQ e1;clear h1 h1' e1;go_enter Tryz.func51,Tryz.ntmps51
  go_wp2;refine wp_loop_rounds 1 ?_;rw[rounds_succ];go_wp2_with fail
  refine(Qf9 _ _ _).mono ?_;rintro e w1 ⟨rfl,hB1⟩;rw[E1.out,Qq0];go_wp2;go_ret2;exact⟨hB1,.inr ⟨H.out,rfl⟩⟩
theorem Qc4 {w:World} {g:Nat} {t:TypeId} {a b c d e:Value} (h:QJ w g t #[a,b,c,d,e]):
  w.cell? ⟨g,0,none⟩=some a∧w.cell? ⟨g,1,none⟩=some b∧w.cell? ⟨g,2,none⟩=some c∧w.cell? ⟨g,3,none⟩=some d∧w.cell? ⟨g,4,none⟩=some e:=
 ⟨by rw[QJ.cell h];rfl,by rw[QJ.cell h];rfl,by rw[QJ.cell h];rfl,by rw[QJ.cell h];rfl,by rw[QJ.cell h];rfl⟩
theorem Kx7 {W w1:World} (hb:Below W.heap.size W w1):(∀b o,b<W.heap.size→w1.cell? ⟨b,o,none⟩=W.cell? ⟨b,o,none⟩)∧(∀b o,b<W.heap.size→w1.frozen? ⟨b,o,none⟩=W.frozen? ⟨b,o,none⟩):=
 ⟨fun b o h=>hb.cell (p:=⟨b,o,none⟩) h,fun b o h=>hb.frozen (p:=⟨b,o,none⟩) h⟩
theorem QK.drew0 {S:Nat→Prop} {w w':World} (h:QK S w.drew w'):QK S w w':=⟨h.os,h.tape,h.output,h.size,h.block⟩
theorem Qk8 {w:World} {b a n r:Nat} {F:Nat→Prop} {M:Int→Int→Option QX} {f:Int→Option Value} {H:Int→HS} {reg:Nat→Int} {h1 h2 sd pr:Int} {mk:Bool} (hM:XX w b a F M n r f H reg):
  let W:=(w.alloc (.cells #[.int .i64 0,.int .i64 0,.int .i64 0,.int .i64 0,.int .i64 0] 29)).alloc (.cells #[.int .i64 h1,.int .i64 h2,.int .i64 sd,.int .i64 pr,.bool mk] 188)
  Below w.heap.size w W∧XX W b a F M n r f H reg∧QJ W w.heap.size 29 #[.int .i64 0,.int .i64 0,.int .i64 0,.int .i64 0,.int .i64 0]∧QJ W (w.heap.size+1) 188 #[.int .i64 h1,.int .i64 h2,.int .i64 sd,.int .i64 pr,.bool mk]:=by
 intro W
 have hb:Below w.heap.size w W:=((Below.refl _ w).alloc (Nat.le_refl _) _).alloc (by simp) _
 refine⟨hb,hM.below hb,QJ.alloc (QJ.new w _ _) _, ?_⟩
 have:=QJ.new (w.alloc (.cells #[.int .i64 0,.int .i64 0,.int .i64 0,.int .i64 0,.int .i64 0] 29)) 188 #[.int .i64 h1,.int .i64 h2,.int .i64 sd,.int .i64 pr,.bool mk]
 rwa [World.size_alloc]at this
theorem Jp4 (w:World) (r:Nat) (f:Int→Option Value) (h:I6 w r f) (id:Int):
  ∃w',(∀ty,(Builtin.delete_ #[150,3] ty #[.map (some r),.int .i64 id]).run Tryz.prog w= .ok (.tuple #[]) w')∧I6 w' r (Z7 f id none)∧IV w w' r:=by
 obtain⟨w',h1,h2,h3⟩:=h.delete (P:=Tryz.prog) (t:=150) Tryz.underlying150 Tryz.underlying3 id 3 0
 exact⟨w',fun ty=>h1,h2,h3⟩
section
variable {M:Int→Int→Option QX} {n m:Nat} {f:Int→Option Value} {H:Int→HS} {s:Int}
theorem Kc0 (hs:VV s) (hS:KY M n f H) (h2:n≤100):(H s).ms.length≤1000:=by
 have h1:=hS.cnt
 unfold X5 HS.all V4 at h1
 simp only[List.length_append]at h1
 rcases hs with rfl|rfl<;>omega
theorem Jp5 (hs:VV s) (hS:KY M n f H) (h2:n≤100):(H s).qs.length≤100000:=by
 have h1:=hS.cnt
 have h3:(H s).qs.length≤(IZ (H s).qs).length:=by
  have hne:=hS.ne s hs;generalize(H s).qs=l at hne
  induction l with
  |nil=>simp
  |cons q l ih=>
   have ih:=ih (fun q hq=>hne q (by simp[hq]));have h0:0<q.os.length:=List.length_pos_iff.2 (hne q (by simp));have e:IZ (q::l)=q.os++IZ l:=rfl;rw[e,List.length_append,List.length_cons];omega
 unfold X5 HS.all V4 at h1
 simp only[List.length_append]at h1
 rcases hs with rfl|rfl<;>omega
theorem Kn9 (hs:VV s) (hS:KY M n f H) (h2:n≤100) {k:Nat} (hk:k< (H s).qs.length):(H s).qs[k].os.length≤1000:=by
 have h1:=hS.cnt
 have h3:(H s).qs[k].os.length≤(IZ (H s).qs).length:=by
  rw[Y6 _ hk];simp only[List.length_append];omega
 unfold X5 HS.all V4 at h1
 simp only[List.length_append]at h1
 rcases hs with rfl|rfl<;>omega
end
def Xg2 (w wx:World) (qg k:Nat) (A:Option Addr) (c:Nat) (os:List HO) (h:Int×Int):Prop:=
 ∃w5,wx=World.setCell w5 ⟨qg,k*2+1,none⟩ (.slice A (os.filter (X3 h)).length c)∧QK (fun i=>QZ A=some i) w w5∧QY w5 A (os.filter (X3 h)).length c 186 2 (QW U3 (J9 (os.filter (X3 h))))
theorem Xa0 {w w5:World} {qg k:Nat} {A:Option Addr} {c:Nat} {os:List HO} {h:Int×Int} (hk:QK (fun i=>QZ A=some i) w.drew w5) (hr:QY w5 A ((J9 os).filter fun p=> !isH h p).length c 186 2 (QW U3 ((J9 os).filter fun p=> !isH h p))):
  Xg2 w (w5.setCell ⟨qg,k*2+1,none⟩ (.slice A ((J9 os).filter fun p=> !isH h p).length c)) qg k A c os h:=by
 refine⟨w5,by rw[Qb0],hk.drew0, ?_⟩
 rw[Qb0,←Qs8]at hr
 exact hr
def Jj8 (w wx:World) (b a r:Nat) (F:Nat→Prop) (M:Int→Int→Option QX) (n:Nat) (f':Int→Option Value) (H:Int→HS) (s id h1 h2:Int) (pb rb:Nat) (place:Array Value):Prop:=
 ∃(H5:Int→HS) (reg5:Nat→Int),XX wx b a F M n r f' H5 reg5∧XW w wx (U1 b r F H) (U1 b r F H5)∧KY (Z8 M h1 h2 none) (n-1) f' H5∧(H5 s).L=O7 (H s).L id∧(∀s',s'≠s→H5 s'=H s')∧
  QJ wx pb 188 place∧QJ wx rb 29 #[.int .i64 0,.int .i64 0,.int .i64 0,.int .i64 0,.int .i64 0]∧ ¬U1 b r F H5 rb
section
variable {w5:World} {b a n r:Nat} {F:Nat→Prop} {M:Int→Int→Option QX} {f:Int→Option Value} {H:Int→HS} {reg:Nat→Int} {s:Int}
theorem Xg3 (hs:VV s) {h':HS} (hh: ∀i,HFp h' i→HFp (H s) i) {i:Nat} (h: ¬U1 b r F H i): ¬U1 b r F (upH H s h') i:=fun hi=>
 (Xf9 hs (m:=i+1) (fun j hj=> .inl (hh j hj)) i hi).elim h (by omega)
theorem Jf9 {W:World} {h1 h2:Int} {o:QX} (hM:XX w5 b a F M n r f H reg) (hW:Below w5.heap.size w5 W) (hMx:M h1 h2=some o):
  Calls Tryz.prog 127 #[.pointer (some ⟨a,0,none⟩),.agg #[.int .i64 h1,.int .i64 h2]] W fun e w'=>
   e= .returned (.tuple #[.agg #[.int .i64 o.id,.int .i64 o.side,.int .i64 o.kind,.int .i64 o.price,.int .i64 o.qty],.nilIface])∧ ∃F6 reg6,XX w' b a F6 (Z8 M h1 h2 none) (n-1) r f H reg6∧XW W w' (U1 b r F H) (U1 b r F6 H):=by
 have hMW:=hM.below hW
 refine(Kn4 hMW.ar (by omega) h1 h2).mono ?_
 rintro e w' ⟨rfl,hc⟩
 refine⟨by unfold Kg4 Kg5;rw[hMx];rfl, ?_⟩
 rcases hc with⟨h,_⟩|⟨_,_,hto⟩
 ·rw[hMx]at h;cases h
 ·exact hMW.arena hto
theorem Qm4 {w:World} {t:Act} {Q:Ending→World→Prop} {g:Nat} {cs:Array Value} {v:Value} (hp:t.tmps.getD 4 undef= .pointer (some ⟨g,0,none⟩)) (h5:t.tmps.getD 5 undef=v) (hd:t.defers= [])
  (hg:QJ w g 29 cs) (hs:cs.size=5) (h:Q (.returned (.tuple #[.agg cs,v])) w):bodyPost Tryz.prog Tryz.f89 Q .ret t w:=by
 refine bodyPost_ret (v:= .tuple #[.agg cs,v]) ?_ hd h
 have hl:=run_loadVar_row (P:=Tryz.prog) w g _ 29 cs (0,0) _ hg Tryz.underlying29 rfl (by rw[hs];kernel_rfl)
 have hp':t.tmps[4]?.getD undef= .pointer (some ⟨g,0,none⟩):=by simpa using hp
 have h5':t.tmps[5]?.getD undef=v:=by simpa using h5
 simp[results,Tryz.results89,hp',h5',asAddr,hl]
end
theorem Kz6 (w:World) (g:Nat) (a b c d e:Value):QK (fun i=>i=g) w (((((w.setCell ⟨g,0,none⟩ a).setCell ⟨g,1,none⟩ b).setCell ⟨g,2,none⟩ c).setCell ⟨g,3,none⟩ d).setCell ⟨g,4,none⟩ e):=
 ((((QK.set_ w ⟨g,0,none⟩ a).trans (QK.set_ _ ⟨g,1,none⟩ b) (fun i h=> .inl h)).trans (QK.set_ _ ⟨g,2,none⟩ c) (fun i h=> .inl h)).trans (QK.set_ _ ⟨g,3,none⟩ d) (fun i h=> .inl h)).trans (QK.set_ _ ⟨g,4,none⟩ e) (fun i h=> .inl h)
theorem Ja3 {w w6:World} {b a n r rb:Nat} {F F6:Nat→Prop} {M':Int→Int→Option QX} {f':Int→Option Value} {H H5:Int→HS} {reg6:Nat→Int} {s id:Int} {x0 x1 x2 x3 x4:Value} (hM:XX w6 b a F6 M' (n-1) r f' H5 reg6) (hB:XW w w6 (U1 b r F H) (U1 b r F6 H5))
  (hn: ¬U1 b r F6 H5 rb) (hrb:w.heap.size≤rb) (hS:KY M' (n-1) f' H5) (hL:(H5 s).L=O7 (H s).L id) (hO: ∀s',s'≠s→H5 s'=H s'):
  Qi9 w (((((w6.setCell ⟨rb,0,none⟩ x0).setCell ⟨rb,1,none⟩ x1).setCell ⟨rb,2,none⟩ x2).setCell ⟨rb,3,none⟩ x3).setCell ⟨rb,4,none⟩ x4) b a r F n H s id:=by
 have hk:=Kz6 w6 rb x0 x1 x2 x3 x4
 exact⟨F6,M',f',H5,reg6,hM.keeps hk (fun i hi e=>hn (by rw[←e];exact hi)),hS,⟨hB.1.trans hk (fun i e=> .inr (by rw[e];exact hrb)),hB.2⟩,hL,hO⟩
section
variable {w w4 wx w7:World} {b a n r k qg pb rb:Nat} {F:Nat→Prop} {M:Int→Int→Option QX} {f f':Int→Option Value} {H:Int→HS} {reg4 reg6:Nat→Int} {s:Int} {q:QG} {h:Int×Int} {o:QX} {pl:Array Value}
def Qs9 (H:Int→HS) (s:Int) (k:Nat) (q:QG) (h:Int×Int):Int→HS:=upH H s ⟨(H s).mA,(H s).mc,(H s).qA,(H s).qc,(H s).ms,(H s).qs.set k ⟨q.price,q.A,q.c,q.os.filter (X3 h)⟩⟩
def Ko0 (w wx:World) (b a r:Nat) (F:Nat→Prop) (M:Int→Int→Option QX) (n:Nat) (f':Int→Option Value) (H:Int→HS) (s:Int) (k:Nat) (q:QG) (h:Int×Int) (pb rb:Nat) (pl:Array Value):Prop:=
 ∃reg6,XX wx b a F M n r f' (Qs9 H s k q h) reg6∧XW w wx (U1 b r F H) (U1 b r F (Qs9 H s k q h))∧QJ wx pb 188 pl∧QJ wx rb 29 #[.int .i64 0,.int .i64 0,.int .i64 0,.int .i64 0,.int .i64 0]
theorem Kz7 (hs:VV s) (hk:k< (H s).qs.length) (hqk:(H s).qs[k]=q): ∀i,HFp ⟨(H s).mA,(H s).mc,(H s).qA,(H s).qc,(H s).ms,(H s).qs.set k ⟨q.price,q.A,q.c,q.os.filter (X3 h)⟩⟩ i→HFp (H s) i:=by
 rintro i (hi|hi|⟨q',hq',hi⟩)
 ·exact .inl hi
 ·exact .inr (.inl hi)
 ·rcases List.mem_or_eq_of_mem_set hq' with h1|rfl
  ·exact .inr (.inr ⟨q',h1,hi⟩)
  ·exact .inr (.inr ⟨q,by rw[←hqk];exact List.getElem_mem _,hi⟩)
theorem Js4 (hM4:XX w4 b a F M n r f' H reg4) (hS4:XW w w4 (U1 b r F H) (U1 b r F H)) (hs:VV s) (hk:k< (H s).qs.length) (hqk:(H s).qs[k]=q) (hqA:(H s).qA=some ⟨qg,0,none⟩) (hD:Xg2 w4 wx qg k q.A q.c q.os h)
  (hP:QJ w4 pb 188 pl) (hR:QJ w4 rb 29 #[.int .i64 0,.int .i64 0,.int .i64 0,.int .i64 0,.int .i64 0]) (hpb: ¬U1 b r F H pb) (hrb: ¬U1 b r F H rb):Ko0 w wx b a r F M n f' H s k q h pb rb pl:=by
 subst hqk
 obtain⟨w5,rfl,hk5,hr5⟩:=hD
 obtain⟨reg6,hM6,hB6⟩:=hM4.queue hs hk hqA hk5 hr5 (fun g hg=> .inl hg)
 have hq4: ∀g,¬U1 b r F H g→QZ (H s).qs[k].A≠some g∧g≠qg:=fun g hg=>⟨fun e=>hg (XX.fpH s hs (.inr (.inr ⟨_,List.getElem_mem _,e⟩))),fun e=>hg (XX.fpH s hs (.inr (.inl (by rw[hqA,e];rfl))))⟩
 exact⟨reg6,hM6,hS4.trans hB6,QJ.far (QJ.keeps hP hk5 (hq4 _ hpb).1) (p:=⟨qg,k*2+1,none⟩) (hq4 _ hpb).2 _,QJ.far (QJ.keeps hR hk5 (hq4 _ hrb).1) (p:=⟨qg,k*2+1,none⟩) (hq4 _ hrb).2 _⟩
theorem Jm6 (hS:KY M n f H) (hs:VV s) (hk:k< (H s).qs.length) (hqk:(H s).qs[k]=q) (hx:(h,o)∈q.os) (hxa:(h,o)∈(H s).all) (hne:(q.os.filter (X3 h)).length≠0) (hf:f'=Z7 f o.id none)
  (hX:Ko0 w wx b a r F M n f' H s k q h pb rb pl) (hrb: ¬U1 b r F H rb):Jj8 w wx b a r F M n f' H s o.id h.1 h.2 pb rb pl:=by
 subst hf
 obtain⟨reg6,hM,hB,hP,hR⟩:=hX
 subst hqk
 obtain⟨h1,h2⟩:=Xv6 hS hs hk hx hxa (fun e=>hne (by rw[e];rfl)) (H s).qs[k].A (H s).qs[k].c
 exact⟨_,reg6,hM,hB,h1,h2,fun s' hs'=>VY hs',hP,hR,Xg3 hs (Kz7 hs hk rfl) hrb⟩
theorem Kc1 (hs:VV s) (hqA:(H s).qA=some ⟨qg,0,none⟩) (hM:XX wx b a F M n r f' (Qs9 H s k q h) reg6):
  QY wx (some ⟨qg,0,none⟩) (H s).qs.length (H s).qc 214 2 (QW OX (((H s).qs.set k ⟨q.price,q.A,q.c,q.os.filter (X3 h)⟩).map QG.que)):=by
 have h1:=(hM.hx s hs).rq
 have e:Qs9 H s k q h s=⟨(H s).mA,(H s).mc,(H s).qA,(H s).qc,(H s).ms,(H s).qs.set k ⟨q.price,q.A,q.c,q.os.filter (X3 h)⟩⟩:=by unfold Qs9;rw[VX]
 rw[e]at h1
 dsimp only at h1
 rw[hqA,List.length_set]at h1
 exact h1
theorem Jm7 (hS:KY M n f H) (hs:VV s) (hk:k< (H s).qs.length) (hqk:(H s).qs[k]=q) (hqA:(H s).qA=some ⟨qg,0,none⟩) (hx:(h,o)∈q.os) (hxa:(h,o)∈(H s).all) (hne:(q.os.filter (X3 h)).length=0) (hf:f'=Z7 f o.id none)
  (hX:Ko0 w wx b a r F M n f' H s k q h pb rb pl) (hpb: ¬U1 b r F H pb) (hrb: ¬U1 b r F H rb)
  (hR7:QY w7 (some ⟨qg,0,none⟩) (k+ ((H s).qs.length- (k+1))) (H s).qc 214 2 (QW OX ((((H s).qs.set k ⟨q.price,q.A,q.c,q.os.filter (X3 h)⟩).map QG.que).take k++(((H s).qs.set k ⟨q.price,q.A,q.c,q.os.filter (X3 h)⟩).map QG.que).drop (k+1))))
  (hK7:QK (fun x=>x=qg) wx w7):
  Jj8 w (w7.setCell ⟨b,Qp1 s+1,none⟩ (.slice (some ⟨qg,0,none⟩) (k+ ((H s).qs.length- (k+1))) (H s).qc)) b a r F M n f' H s o.id h.1 h.2 pb rb pl:=by
 subst hf
 obtain⟨reg6,hM,hB,hP,hR⟩:=hX
 subst hqk
 have e:Qs9 H s k (H s).qs[k] h s=⟨(H s).mA,(H s).mc,(H s).qA,(H s).qc,(H s).ms,(H s).qs.set k ⟨(H s).qs[k].price,(H s).qs[k].A,(H s).qs[k].c,(H s).qs[k].os.filter (X3 h)⟩⟩:=by unfold Qs9;rw[VX]
 have hl:((H s).qs.take k++(H s).qs.drop (k+1)).length=k+ ((H s).qs.length- (k+1)):=by simp;omega
 have hset:((H s).qs.set k ⟨(H s).qs[k].price,(H s).qs[k].A,(H s).qs[k].c,(H s).qs[k].os.filter (X3 h)⟩).take k=(H s).qs.take k:=List.take_set_of_le (Nat.le_refl _)
 have hset2:((H s).qs.set k ⟨(H s).qs[k].price,(H s).qs[k].A,(H s).qs[k].c,(H s).qs[k].os.filter (X3 h)⟩).drop (k+1)=(H s).qs.drop (k+1):=List.drop_set_of_lt (by omega)
 rw[←List.map_take,←List.map_drop,hset,hset2,←List.map_append,←hl]at hR7
 have hX:=hM.queues (s:=s) hs (w3:=w7) (A':=some ⟨qg,0,none⟩) (c':=(H s).qc) (qs':=(H s).qs.take k++(H s).qs.drop (k+1))
  (by rw[e];dsimp only;rw[hqA];exact hK7.mono (fun i e=>by rw[e];rfl)) hR7 (fun g hg=> .inl (by rw[e];dsimp only;rw[hqA];exact hg))
  (fun q hq=> .inl (by
   rw[e];dsimp only;rcases List.mem_append.1 hq with hq|hq
   ·rw[←hset]at hq;exact List.mem_of_mem_take hq
   ·rw[←hset2]at hq;exact List.mem_of_mem_drop hq))
  (by
   have h3:=Js2 (fun q:QG=>QZ q.A) _ k (hM.hx s hs).nd;rw[e]at h3;dsimp only at h3;rw[hset,hset2]at h3;exact h3)
 rw[hl]at hX
 obtain⟨reg7,hM7,hB7⟩:=hX
 rw[e]at hM7 hB7
 dsimp only at hM7 hB7
 have e2:upH (Qs9 H s k (H s).qs[k] h) s ⟨(H s).mA,(H s).mc,some ⟨qg,0,none⟩,(H s).qc,(H s).ms,(H s).qs.take k++(H s).qs.drop (k+1)⟩=upH H s ⟨(H s).mA,(H s).mc,some ⟨qg,0,none⟩,(H s).qc,(H s).ms,(H s).qs.take k++(H s).qs.drop (k+1)⟩:=by
  funext s'
  unfold Qs9 upH
  split<;>rfl
 rw[e2]at hM7 hB7
 obtain⟨h1,h2⟩:=Kh2 hS hs hk hx hxa (List.length_eq_zero_iff.1 hne) (some ⟨qg,0,none⟩) (H s).qc
 have hfp: ∀i,HFp ⟨(H s).mA,(H s).mc,some ⟨qg,0,none⟩,(H s).qc,(H s).ms,(H s).qs.take k++(H s).qs.drop (k+1)⟩ i→HFp (H s) i:=by
  rintro i (hi|hi|⟨q',hq',hi⟩)
  ·exact .inl hi
  ·exact .inr (.inl (by rw[hqA];exact hi))
  ·refine .inr (.inr ⟨q', ?_,hi⟩)
   rcases List.mem_append.1 hq' with hq|hq
   ·exact List.mem_of_mem_take hq
   ·exact List.mem_of_mem_drop hq
 have hq4: ∀g,¬U1 b r F H g→g≠qg∧g≠b:=fun g hg=>⟨fun e=>hg (XX.fpH s hs (.inr (.inl (by rw[hqA,e];rfl)))),fun e=>hg (.inl e)⟩
 exact⟨_,reg7,hM7,hB.trans hB7,h1,h2,fun s' hs'=>VY hs',QJ.far (QJ.keeps hP hK7 (hq4 _ hpb).1) (p:=⟨b,Qp1 s+1,none⟩) (hq4 _ hpb).2 _,QJ.far (QJ.keeps hR hK7 (hq4 _ hrb).1) (p:=⟨b,Qp1 s+1,none⟩) (hq4 _ hrb).2 _,Xg3 hs hfp hrb⟩
end
def Xg4 (w wx:World) (b a r rb:Nat) (F:Nat→Prop) (M:Int→Int→Option QX) (n:Nat) (f':Int→Option Value) (H:Int→HS) (s id h1 h2:Int) (cs:Array Value):Prop:=
 Qi9 w wx b a r F n H s id∧QJ wx rb 29 cs
theorem Js5 (w:World) (b a:Nat) (F:Nat→Prop) (M:Int→Int→Option QX) (n r:Nat) (f:Int→Option Value) (H:Int→HS) (reg:Nat→Int) (hM:XX w b a F M n r f H reg) (id:Int) (hf:f id=none):
  Calls Tryz.prog 89 #[.pointer (some ⟨b,0,none⟩),.int .i64 id] w fun e w'=>e= .returned (.tuple #[.agg #[.int .i64 0,.int .i64 0,.int .i64 0,.int .i64 0,.int .i64 0],YV 7])∧Below w.heap.size w w':=by
 have hb0:Below w.heap.size w (w.alloc (.cells #[.int .i64 0,.int .i64 0,.int .i64 0,.int .i64 0,.int .i64 0] 29)):=(Below.refl _ w).alloc (Nat.le_refl _) _
 have hM0:=hM.below hb0
 have hlk:=IX hM0.mp hf
 obtain⟨y0,y1,y2,y3,y4,y5⟩:=hM0.cells
 have HR:=QQ (QJ.new w 29 #[.int .i64 0,.int .i64 0,.int .i64 0,.int .i64 0,.int .i64 0])
 have HB:=QQ hb0
 clear y0 y2 y3 y4 y5 hM hM0 hf hb0
 go_enter Tryz.func89,Tryz.ntmps89
 go_wp2_with fail
 refine Qm4 (g:=w.heap.size) (cs:= #[.int .i64 0,.int .i64 0,.int .i64 0,.int .i64 0,.int .i64 0]) (v:=YV 7) (by with_unfolding_all rfl) (by with_unfolding_all rfl) (by with_unfolding_all rfl) (QJ.alloc HR.out _) rfl ?_
 exact⟨rfl,HB.out.alloc (by simp) _⟩
theorem Kh3 (w:World) (b a:Nat) (F:Nat→Prop) (M:Int→Int→Option QX) (n r:Nat) (f:Int→Option Value) (H:Int→HS) (reg:Nat→Int) (hM:XX w b a F M n r f H reg) (hS:KY M n f H) (x:HO) (hx:x∈(H 1).all) (hk:x.2.kind=2) (hn:n≤100):
  Calls Tryz.prog 89 #[.pointer (some ⟨b,0,none⟩),.int .i64 x.2.id] w fun e w'=>e= .returned (.tuple #[KQ x.2,YV 0])∧Qi9 w w' b a r F n H 1 x.2.id:=by
 have hf:=hS.hf x (OV KX hx)
 have hsd:=hS.side_of KX hx
 have hMx:=hS.hM x (OV KX hx)
 obtain⟨⟨h1,h2⟩,o⟩:=x
 dsimp only at hf hsd hMx hk⊢
 have hmk:(o.kind ==2)=true:=by simpa using hk
 have hb0:Below w.heap.size w (w.alloc (.cells #[.int .i64 0,.int .i64 0,.int .i64 0,.int .i64 0,.int .i64 0] 29)):=(Below.refl _ w).alloc (Nat.le_refl _) _
 have hM0:=hM.below hb0
 have hlk:=K0 hM0.mp hf
 dsimp only at hlk
 rw[hsd,hmk]at hlk
 obtain⟨y0,y1,y2,y3,y4,y5⟩:=hM0.cells
 have HM:=QQ hM
 have HSm:=QQ hS
 have HX:=QQ hx
 have HKd:=QQ hk
 have HSd:=QQ hsd
 have HMx:=QQ hMx
 have HN:=QQ hn
 have HM0:=QQ hM0
 clear y0 y2 y3 y4 y5 hM hS hx hk hsd hMx hn hM0 hf hmk hb0
 go_enter Tryz.func89,Tryz.ntmps89
 go_upto_region 4 with fail
 clear hlk y1
 obtain⟨hb1,hM1,hR1,hP1⟩:=Qk8 (h1:=h1) (h2:=h2) (sd:=1) (pr:=o.price) (mk:=true) HM.out
 have hrb:=QQ (show¬U1 b r F H w.heap.size from fun h=>by have:=HM.out.fp h;omega)
 have hpb:=QQ (show¬U1 b r F H (w.heap.size+1)from fun h=>by have:=HM.out.fp h;omega)
 obtain⟨pb,hpbe⟩: ∃pb,pb=w.heap.size+1:=⟨_,rfl⟩
 obtain⟨rb,hrbe⟩: ∃rb,rb=w.heap.size:=⟨_,rfl⟩
 have hne:rb≠pb:=by omega
 have HLT:=QQ (show w.heap.size≤rb∧w.heap.size≤pb by omega)
 rw[←hpbe]at hP1 hpb⊢
 rw[←hrbe]at hR1 hrb⊢
 generalize(w.alloc (.cells #[.int .i64 0,.int .i64 0,.int .i64 0,.int .i64 0,.int .i64 0] 29)).alloc (.cells #[.int .i64 h1,.int .i64 h2,.int .i64 1,.int .i64 o.price,.bool true] 188)=w1 at hb1 hM1 hR1 hP1⊢
 obtain⟨w2,hdel,hI2,hT2⟩:=Jp4 w1 r f hM1.mp o.id
 obtain⟨hM2,hS2⟩:=hM1.map_ hT2 hI2
 have HS2:=QQ ((XW.of_below (G:=U1 b r F H) hb1).trans hS2)
 have hP2:QJ w2 pb 188 #[.int .i64 h1,.int .i64 h2,.int .i64 1,.int .i64 o.price,.bool true]:=QJ.of_block hP1 (hT2.block pb (fun e=>hpb.out (.inr (.inl e))))
 have hR2:QJ w2 rb 29 #[.int .i64 0,.int .i64 0,.int .i64 0,.int .i64 0,.int .i64 0]:=QJ.of_block hR1 (hT2.block rb (fun e=>hrb.out (.inr (.inl e))))
 have y1:=hM1.cells.2.1
 have HM2:=QQ hM2
 have HP2:=QQ hP2
 have HR2:=QQ hR2
 obtain⟨p0,p1,p2,p3,p4⟩:=Qc4 hP2
 clear hM1 hR1 hP1 hT2 hI2 hM2 hS2 hP2 hR2 hb1 hpbe hrbe
 go_wp2_with (simp only[hdel])
 clear hdel y1
 go_quiet (fail)
 have hq:Below w2.heap.size w2 (w2.drewN nq):=JQ (Below.refl _ _) nq
 have HM3:=QQ (HM2.out.below hq)
 have HP3:=QQ (QJ.drewN HP2.out nq)
 have HR3:=QQ (QJ.drewN HR2.out nq)
 have HS3:=QQ (HS2.out.trans (XW.of_below hq))
 clear hq p0 p1 p2 p3 p4
 generalize w2.drewN nq=w3 at HM3 HP3 HR3 HS3⊢
 clear HM2 HP2 HR2 HS2
 obtain⟨p0,p1,p2,p3,p4⟩:=Qc4 HP3.out
 obtain⟨y0,y1,y2,y3,y4,y5⟩:=HM3.out.cells
 have hmf: ∀(fn:Fn) (first cap:Array Value) (w:World),(Instr.makeFunc fn first cap).run Tryz.prog w= .ok (.func fn first cap) w:=fun _ _ _ _=>rfl
 have eg:=Go.Proofs.enters_of Tryz.func122 (by kernel_rfl) rfl
 obtain⟨m,hm⟩: ∃m,(H 1).ms.length=m:=⟨_,rfl⟩
 rw[hm]at y2
 have hmb:QZ (H 1).mA≠some b:=fun e=>by have h3:=(HM3.out.hx 1 KX).gm b e;have h4:=HM3.out.gb;omega
 have hdrop:=Jf7 w3 (H 1).mA m (H 1).mc (J9 (H 1).ms) pb (h1,h2) (by rw[←hm];exact(HM3.out.hx 1 KX).rm) (by have:=Kc0 KX HSm.out HN.out;omega) (fun e=>hpb.out (XX.fpH 1 KX (.inl e))) p0 p1
 have HD:=QQ hdrop
 have HMb:=QQ hmb
 have Hm:=QQ hm
 clear y0 y1 y2 y3 y4 y5 hdrop hmb hm
 have y2:w3.cell? ⟨b,2,none⟩=some (.slice (H 1).mA m (H 1).mc):=by rw[QJ.cell HM3.out.blk];exact congrArg (fun k=>some (Value.slice (H 1).mA k (H 1).mc)) Hm.out
 go_wp2_with fail
 refine HD.out.mono ?_
 rintro e w4 ⟨hk4,rfl,hr4⟩
 have b4:=QJ.keeps HM3.out.blk hk4 HMb.out
 have r0:w4.cell? ⟨b,2,none⟩=some (.slice (H 1).mA m (H 1).mc):=by rw[QJ.cell b4];exact congrArg (fun k=>some (Value.slice (H 1).mA k (H 1).mc)) Hm.out
 have rf0:=QJ.frozen b4 2
 rw[Qb0]at hr4⊢
 rw[←Qs8]at hr4
 obtain⟨reg5,hM5,hB5⟩:=HM3.out.market KX (A':=(H 1).mA) (c':=(H 1).mc) (ms':=(H 1).ms.filter (X3 (h1,h2))) hk4 hr4 (fun g hg=> .inl hg)
 have hq4: ∀g,¬U1 b r F H g→QZ (H 1).mA≠some g∧g≠b:=fun g hg=>⟨fun e=>hg (XX.fpH 1 KX (.inl e)),fun e=>hg (.inl e)⟩
 have HP5:=QQ (QJ.far (QJ.keeps HP3.out hk4 (hq4 _ hpb.out).1) (p:=⟨b,2,none⟩) (hq4 _ hpb.out).2 (.slice (H 1).mA ((H 1).ms.filter (X3 (h1,h2))).length (H 1).mc))
 have HR5:=QQ (QJ.far (QJ.keeps HR3.out hk4 (hq4 _ hrb.out).1) (p:=⟨b,2,none⟩) (hq4 _ hrb.out).2 (.slice (H 1).mA ((H 1).ms.filter (X3 (h1,h2))).length (H 1).mc))
 obtain⟨hS5,hL5⟩:=Jm5 HSm.out KX HX.out HKd.out (H 1).mA (H 1).mc
 have H13:=QQ (show Jj8 w (w4.setCell ⟨b,2,none⟩ (.slice (H 1).mA ((H 1).ms.filter (X3 (h1,h2))).length (H 1).mc)) b a r F M n (Z7 f o.id none) H 1 o.id h1 h2 pb rb #[.int .i64 h1,.int .i64 h2,.int .i64 1,.int .i64 o.price,.bool true]from
  ⟨_,reg5,hM5,HS3.out.trans hB5,hS5,hL5,fun s' h=>VY h,HP5.out,HR5.out,Xg3 KX (fun i hi=>hi) hrb.out⟩)
 clear hM5 hB5 hS5 hL5 hk4 hr4 b4 hq4 p0 p1 p2 p3 p4 y2 HP5 HR5 HM3 HP3 HR3 HS3
 obtain⟨nl,hnl⟩: ∃nl,((H 1).ms.filter (X3 (h1,h2))).length=nl:=⟨_,rfl⟩
 rw[hnl]at H13⊢
 clear hnl
 obtain⟨H5,reg5,hM5,hB5,hS5,hL5,hO5,hP5,hR5,hn5⟩:=H13.out
 have q0:=hM5.cells.1
 obtain⟨p0,p1,p2,p3,p4⟩:=Qc4 hP5
 clear hM5 hB5 hS5 hL5 hO5 hP5 hR5 hn5
 go_upto_region 13 with fail
 generalize(w4.setCell ⟨b,2,none⟩ (.slice (H 1).mA nl (H 1).mc))=w5 at H13 q0 p0 p1 p2 p3 p4⊢
 obtain⟨H5,reg5,hM5,hB5,hS5,hL5,hO5,hP5,hR5,hn5⟩:=H13.out
 have hget:=Jf9 (M:=M) hM5 (Below.drew (Below.refl w5.heap.size w5)) HMx.out
 have HG:=QQ hget
 have HB5:=QQ (hB5.trans (XW.of_below (Below.drew (Below.refl w5.heap.size w5))))
 have HR5:=QQ hR5
 have HN5:=QQ hn5
 have HS5:=QQ hS5
 have HL5:=QQ hL5
 have HO5:=QQ hO5
 clear hget p2 p3 p4 hM5 hB5 hS5 hL5 hO5 hP5 hR5 hn5 H13
 go_cut [5,104] (fun s5 s104 wx=>s5= .nilIface∧Xg4 w wx b a r rb F M n (Z7 f o.id none) H 1 o.id h1 h2 (KZ o))
 case first=>as_aux_lemma=>
  go_region_with (go_at_call 127;refine HG.out.mono ?_;rintro e w6 ⟨rfl,F6,reg6,hM6,hB6⟩;have hr6:QJ w6 rb 29 #[.int .i64 0,.int .i64 0,.int .i64 0,.int .i64 0,.int .i64 0]:=QJ.keeps (QJ.drew HR5.out) hB6.1 HN5.out;have z0:=(Qc4 hr6).1;have z1:=(Qc4 hr6).2.1;have z2:=(Qc4 hr6).2.2.1;have z3:=(Qc4 hr6).2.2.2.1;have z4:=(Qc4 hr6).2.2.2.2;have f0:=QJ.frozen hr6 0;have f1:=QJ.frozen hr6 1;have f2:=QJ.frozen hr6 2;have f3:=QJ.frozen hr6 3;have f4:=QJ.frozen hr6 4;have HM6:=QQ hM6;have HB6:=QQ hB6;have HR6:=QQ hr6;clear hM6 hr6 hB6)
  all_goals go_wp2_with fail
  all_goals go_meet
  all_goals
   have hnb6: ¬U1 b r F6 H5 rb:=fun h=>(HB6.out.2 rb h).elim HN5.out (fun h3=>by have h4:=QJ.lt (QJ.drew HR5.out);omega)
   exact⟨rfl,Ja3 HM6.out (HB5.out.trans HB6.out) hnb6 HLT.out.1 HS5.out HL5.out HO5.out,QJ.set_ (QJ.set_ (QJ.set_ (QJ.set_ (QJ.set_ HR6.out 0 _) 1 _) 2 _) 3 _) 4 _⟩
 case rest=>
  obtain⟨rfl,hdone,hbox⟩:=hcut;have HDn:=QQ hdone;have HBx:=QQ hbox;clear hdone hbox;go_wp2_with fail
  refine Qm4 (g:=rb) (cs:=KZ o) (v:=YV 0) (by with_unfolding_all rfl) (by with_unfolding_all rfl) (by with_unfolding_all rfl) HBx.out rfl ?_;exact⟨rfl,HDn.out⟩
theorem Kh4 (w:World) (b a:Nat) (F:Nat→Prop) (M:Int→Int→Option QX) (n r:Nat) (f:Int→Option Value) (H:Int→HS) (reg:Nat→Int) (hM:XX w b a F M n r f H reg) (hS:KY M n f H) (x:HO) (hx:x∈(H 1).all) (hk:x.2.kind≠2) (hn:n≤100) (k:Nat) (hkl:k< (H 1).qs.length) (hxk:x∈(H 1).qs[k].os) (hpk:(H 1).qs[k].price=x.2.price):
  Calls Tryz.prog 89 #[.pointer (some ⟨b,0,none⟩),.int .i64 x.2.id] w fun e w'=>e= .returned (.tuple #[KQ x.2,YV 0])∧Qi9 w w' b a r F n H 1 x.2.id:=by
 have hf:=hS.hf x (OV KX hx)
 have hsd:=hS.side_of KX hx
 have hMx:=hS.hM x (OV KX hx)
 obtain⟨⟨h1,h2⟩,o⟩:=x
 dsimp only at hf hsd hMx hk⊢
 have hmk:(o.kind ==2)=false:=by simpa using hk
 have hb0:Below w.heap.size w (w.alloc (.cells #[.int .i64 0,.int .i64 0,.int .i64 0,.int .i64 0,.int .i64 0] 29)):=(Below.refl _ w).alloc (Nat.le_refl _) _
 have hM0:=hM.below hb0
 have hlk:=K0 hM0.mp hf
 dsimp only at hlk
 rw[hsd,hmk]at hlk
 obtain⟨y0,y1,y2,y3,y4,y5⟩:=hM0.cells
 have HM:=QQ hM
 have HSm:=QQ hS
 have HX:=QQ hx
 have HKd:=QQ hk
 have HSd:=QQ hsd
 have HMx:=QQ hMx
 have HN:=QQ hn
 have HM0:=QQ hM0
 clear y0 y2 y3 y4 y5 hM hS hx hk hsd hMx hn hM0 hf hmk hb0
 go_enter Tryz.func89,Tryz.ntmps89
 go_upto_region 4 with fail
 clear hlk y1
 obtain⟨hb1,hM1,hR1,hP1⟩:=Qk8 (h1:=h1) (h2:=h2) (sd:=1) (pr:=o.price) (mk:=false) HM.out
 have hrb:=QQ (show¬U1 b r F H w.heap.size from fun h=>by have:=HM.out.fp h;omega)
 have hpb:=QQ (show¬U1 b r F H (w.heap.size+1)from fun h=>by have:=HM.out.fp h;omega)
 obtain⟨pb,hpbe⟩: ∃pb,pb=w.heap.size+1:=⟨_,rfl⟩
 obtain⟨rb,hrbe⟩: ∃rb,rb=w.heap.size:=⟨_,rfl⟩
 have hne:rb≠pb:=by omega
 have HLT:=QQ (show w.heap.size≤rb∧w.heap.size≤pb by omega)
 rw[←hpbe]at hP1 hpb⊢
 rw[←hrbe]at hR1 hrb⊢
 generalize(w.alloc (.cells #[.int .i64 0,.int .i64 0,.int .i64 0,.int .i64 0,.int .i64 0] 29)).alloc (.cells #[.int .i64 h1,.int .i64 h2,.int .i64 1,.int .i64 o.price,.bool false] 188)=w1 at hb1 hM1 hR1 hP1⊢
 obtain⟨w2,hdel,hI2,hT2⟩:=Jp4 w1 r f hM1.mp o.id
 obtain⟨hM2,hS2⟩:=hM1.map_ hT2 hI2
 have HS2:=QQ ((XW.of_below (G:=U1 b r F H) hb1).trans hS2)
 have hP2:QJ w2 pb 188 #[.int .i64 h1,.int .i64 h2,.int .i64 1,.int .i64 o.price,.bool false]:=QJ.of_block hP1 (hT2.block pb (fun e=>hpb.out (.inr (.inl e))))
 have hR2:QJ w2 rb 29 #[.int .i64 0,.int .i64 0,.int .i64 0,.int .i64 0,.int .i64 0]:=QJ.of_block hR1 (hT2.block rb (fun e=>hrb.out (.inr (.inl e))))
 have y1:=hM1.cells.2.1
 have HM2:=QQ hM2
 have HP2:=QQ hP2
 have HR2:=QQ hR2
 obtain⟨p0,p1,p2,p3,p4⟩:=Qc4 hP2
 clear hM1 hR1 hP1 hT2 hI2 hM2 hS2 hP2 hR2 hb1 hpbe hrbe
 go_wp2_with (simp only[hdel])
 clear hdel y1
 go_quiet (fail)
 have hq:Below w2.heap.size w2 (w2.drewN nq):=JQ (Below.refl _ _) nq
 have HM3:=QQ (HM2.out.below hq)
 have HP3:=QQ (QJ.drewN HP2.out nq)
 have HR3:=QQ (QJ.drewN HR2.out nq)
 have HS3:=QQ (HS2.out.trans (XW.of_below hq))
 clear hq p0 p1 p2 p3 p4
 generalize w2.drewN nq=w3 at HM3 HP3 HR3 HS3⊢
 clear HM2 HP2 HR2 HS2
 obtain⟨p0,p1,p2,p3,p4⟩:=Qc4 HP3.out
 obtain⟨y0,y1,y2,y3,y4,y5⟩:=HM3.out.cells
 have hmf: ∀(fn:Fn) (first cap:Array Value) (w:World),(Instr.makeFunc fn first cap).run Tryz.prog w= .ok (.func fn first cap) w:=fun _ _ _ _=>rfl
 have eg:=Go.Proofs.enters_of Tryz.func122 (by kernel_rfl) rfl
 have hx3:=HM3.out.hx 1 KX
 obtain⟨qg,hqg,hqc⟩:=hx3.rq.elem KJ (by omega) (i:=k) (by simpa using hkl)
 obtain⟨q,hqk⟩: ∃q,(H 1).qs[k]'hkl=q:=⟨_,rfl⟩
 have hmem:q∈(H 1).qs:=by rw[←hqk];exact List.getElem_mem _
 have q0:w3.cell? ⟨qg,k*2,none⟩=some (.int .i64 q.price):=by have:=hqc 0 _ rfl;rw[←hqk];simpa [QG.que]using this
 have q1:w3.cell? ⟨qg,k*2+1,none⟩=some (.slice q.A q.os.length q.c):=by have:=hqc 1 _ rfl;rw[←hqk];simpa [QG.que]using this
 have hqb:QZ (H 1).qA=some qg:=by rw[hqg];rfl
 have hql:=hx3.rq.lt hqb
 have hqm:QZ q.A≠some qg:=fun e=>by have h3:=hx3.gl _ hmem qg e;have h4:=hx3.gq qg hqb;omega
 have hqB:QZ q.A≠some b:=fun e=>by have h3:=hx3.gl _ hmem b e;have h4:=HM3.out.gb;omega
 have hqp:QZ q.A≠some pb:=fun e=>hpb.out (XX.fpH 1 KX (.inr (.inr ⟨q,hmem,e⟩)))
 have hqs:=Jp5 KX HSm.out HN.out
 have hos:q.os.length≤1000:=by rw[←hqk];exact Kn9 KX HSm.out HN.out hkl
 have hfind:=Jf5 w3 b 2 1 o.price (H 1).qA (H 1).qs.length (H 1).qc ((H 1).qs.map QG.que) (by exact y3) (XZ.of_row KJ (by omega) hx3.rq) (HSm.out.is 1 KX).rank hqs
 have HFi:=QQ hfind
 have HqA:=QQ hqg
 have Hqk:=QQ hqk
 have Hkl:=QQ hkl
 have Hxk:=QQ hxk
 have Hpk:=QQ hpk
 have HRow:=QQ (hx3.rl q hmem)
 have HQR:=QQ hx3.rq
 have HQm:=QQ hqm
 have HQB:=QQ hqB
 have HQp:=QQ hqp
 have HQb2:=QQ (show b≠qg from fun e=>by have h3:=HM3.out.gb;have h4:=hx3.gq qg hqb;rw[e]at h3;omega)
 clear hfind hx3 hqc hmem hqm hqB hqp hqb hqk hxk hpk
 go_wp2_with fail
 refine HFi.out.mono ?_
 rintro e w4 ⟨hb4,k4,hk4,rfl⟩
 obtain rfl:k4=k:=Xn1 (HSm.out.is 1 KX) Hkl.out Hpk.out hk4
 obtain⟨fb,HFb⟩: ∃fb,Hid (Qm1 1 o.price ((H 1).qs.map QG.que) (H 1).qs.length k4=fb):=⟨_,QQ rfl⟩
 rw[HFb.out]
 have HM4:=QQ (HM3.out.below hb4)
 have HP4:=QQ (QJ.keep HP3.out hb4)
 have HR4:=QQ (QJ.keep HR3.out hb4)
 have HS4:=QQ (HS3.out.trans (XW.of_below hb4))
 obtain⟨hc4,hf4⟩:=Kx7 hb4
 have q0':w4.cell? ⟨qg,k4*2,none⟩=some (.int .i64 q.price):=(hc4 _ _ hql).trans q0
 have q1':w4.cell? ⟨qg,k4*2+1,none⟩=some (.slice q.A q.os.length q.c):=(hc4 _ _ hql).trans q1
 have hrow4:=HRow.out.below hb4
 have hqr4:=HQR.out.below hb4
 have hql4:qg<w4.heap.size:=by have:=hb4.size;omega
 clear hk4 q0 q1 p0 p1 p2 p3 p4 y0 y1 y2 y3 y4 y5 hql hc4 hf4 hb4 HFi HM3 HP3 HR3 HS3 HRow HQR
 obtain⟨l,hll⟩: ∃l,(H 1).qs.length=l:=⟨_,rfl⟩
 obtain⟨m,hm⟩: ∃m,q.os.length=m:=⟨_,rfl⟩
 rw[hm]at q1' hrow4
 have y3:w4.cell? ⟨b,3,none⟩=some (.slice (some ⟨qg,0,none⟩) l (H 1).qc):=by rw[QJ.cell HM4.out.blk];rw[←HqA.out,←hll];rfl
 obtain⟨p0,p1,p2,p3,p4⟩:=Qc4 HP4.out
 have hkz:(k4:Int)< (l:Int):=by omega
 have hk0:(0:Int)≤(k4:Int):=by omega
 have hdrop: ∀W,Below w4.heap.size w4 W→Calls Tryz.prog 122 #[.slice q.A m q.c,.pointer (some ⟨pb,0,none⟩)] W _:=fun W hW=>Jf7 W q.A m q.c (J9 q.os) pb (h1,h2) (hrow4.below hW) (by omega) HQp.out ((QJ.cell (QJ.keep HP4.out hW) 0).trans rfl) ((QJ.cell (QJ.keep HP4.out hW) 1).trans rfl)
 have HD:=QQ (hdrop w4.drew (Below.drew (Below.refl _ _)))
 have HQR4:=QQ hqr4
 have HL:=QQ hll
 have Hm:=QQ hm
 have hbl:=QJ.lt HM4.out.blk
 clear hdrop hrow4 hqr4 hll hm hos hqs
 go_upto_region 10 with fail
 go_cut [72] (fun s72 wx=>Xg2 w4 wx qg k4 q.A q.c q.os (h1,h2))
 case first=>
  go_region_with (go_at_call 122;refine HD.out.mono ?_;rintro e w5 ⟨hk5,rfl,hr5⟩;have z1:w5.cell? ⟨b,3,none⟩=some (.slice (some ⟨qg,0,none⟩) l (H 1).qc):=(hk5.cell (p:=⟨b,3,none⟩) hbl HQB.out).trans y3;have z2:w5.cell? ⟨qg,k4*2+1,none⟩=some (.slice q.A m q.c):=(hk5.cell (p:=⟨qg,k4*2+1,none⟩) hql4 HQm.out).trans q1';have z3:=(hk5.frozen (p:=⟨qg,k4*2+1,none⟩) hql4 HQm.out).trans (QY.frozen (by rw[←HqA.out];exact HQR4.out) (k4*2+1):w4.frozen? ⟨qg,k4*2+1,none⟩=false);have HK5:=QQ hk5;have HR5:=QQ hr5;clear hk5 hr5)
  all_goals go_wp2_with fail
  all_goals go_meet
  all_goals exact Xa0 HK5.out HR5.out
 case rest=>
  have hX:=Js4 HM4.out HS4.out KX Hkl.out Hqk.out HqA.out hcut HP4.out HR4.out hpb.out hrb.out;have HX11:=QQ hX;obtain⟨reg6,hM6,_,_,_⟩:=hX;have hr6:=Kc1 KX HqA.out hM6;have HR6:=QQ hr6;clear p0 p1 p2 p3 p4 q0' q1' y3 HD hcut;have hbl6:=QJ.lt hM6.blk;have y3:wc.cell? ⟨b,3,none⟩=some (.slice (some ⟨qg,0,none⟩) l (H 1).qc):=by
   rw[QJ.cell hM6.blk];have e:Qs9 H 1 k4 q (h1,h2) 1=⟨(H 1).mA,(H 1).mc,(H 1).qA,(H 1).qc,(H 1).ms,(H 1).qs.set k4 ⟨q.price,q.A,q.c,q.os.filter (X3 (h1,h2))⟩⟩:=by unfold Qs9;rw[VX]
   show some (Value.slice (Qs9 H 1 k4 q (h1,h2) 1).qA (Qs9 H 1 k4 q (h1,h2) 1).qs.length (Qs9 H 1 k4 q (h1,h2) 1).qc)=_;rw[e];dsimp only;rw[HqA.out,List.length_set,HL.out]
  have hf6:=QJ.frozen hM6.blk 3;obtain⟨nl,hnl⟩: ∃nl,(q.os.filter (X3 (h1,h2))).length=nl:=⟨_,rfl⟩;have q1:wc.cell? ⟨qg,k4*2+1,none⟩=some (.slice q.A nl q.c):=by
   obtain⟨g,hg,hc⟩:=hr6.elem KJ (by omega) (i:=k4) (by have:=Hkl.out;simpa using this)
   cases hg;have:=hc 1 _ rfl;rw[←hnl];simpa [QG.que]using this
  have Hnl:=QQ hnl;have hl6:l≤100000:=by have h3:=Jp5 KX HSm.out HN.out;have h4:=HL.out;omega
  have hkl4:k4<l:=by omega
  clear hr6 hM6 hnl;go_upto_if 84 with fail
  go_cut [85] (fun s85 wx=>Jj8 w wx b a r F M n (Z7 f o.id none) H 1 o.id h1 h2 pb rb #[.int .i64 h1,.int .i64 h2,.int .i64 1,.int .i64 o.price,.bool false])
  case first=>as_aux_lemma=>
   by_cases hz:nl=0
   ·have Hz:=QQ hz
    have t1:((nl:Int) ==0)=true:=J4 (by omega);have hdel:=Jm2 wc qg l (H 1).qc k4 (k4+1) ((k4:Int)+1) (by omega) _ (by rw[←HL.out];exact HR6.out) hl6 (by omega) (by omega);have HDl:=QQ hdel;have hw1:IntKind.i64.wrap ((k4:Int)+1)=(k4:Int)+1:=by rw[IntKind.wrap_i64];omega
    clear hdel hz;go_wp2_with fail
    refine HDl.out.mono ?_;rintro e w7 ⟨rfl,hr7,hk7⟩;have y7:w7.cell? ⟨b,3,none⟩=some (.slice (some ⟨qg,0,none⟩) l (H 1).qc):=(hk7.cell (p:=⟨b,3,none⟩) hbl6 HQb2.out).trans y3;have f7:=(hk7.frozen (p:=⟨b,3,none⟩) hbl6 HQb2.out).trans hf6;have HR7:=QQ hr7;have HK7:=QQ hk7;clear hr7 hk7;go_wp2_with fail
    go_meet;have h9:=Jm7 HSm.out KX Hkl.out Hqk.out HqA.out (by rw[←Hqk.out];exact Hxk.out) HX.out (Hnl.out.trans Hz.out) rfl HX11.out hpb.out hrb.out (by rw[HL.out];exact HR7.out) HK7.out;rw[HL.out]at h9;exact h9
   ·have Hz:=QQ hz
    have t1:((nl:Int) ==0)=false:=UQ (by omega);clear hz;go_wp2_with fail
    go_meet;exact Jm6 HSm.out KX Hkl.out Hqk.out (by rw[←Hqk.out];exact Hxk.out) HX.out (fun e=>Hz.out (Hnl.out.symm.trans e)) rfl HX11.out hrb.out
  case rest=>
   have H13:=QQ hcut;clear q1 y3 hf6 hcut;obtain⟨H5,reg5,hM5,hB5,hS5,hL5,hO5,hP5,hR5,hn5⟩:=H13.out;have q0:=hM5.cells.1;obtain⟨p0,p1,p2,p3,p4⟩:=Qc4 hP5;clear hM5 hB5 hS5 hL5 hO5 hP5 hR5 hn5;go_upto_region 13 with fail
   obtain⟨H5,reg5,hM5,hB5,hS5,hL5,hO5,hP5,hR5,hn5⟩:=H13.out;have hget:=Jf9 (M:=M) hM5 (Below.drew (Below.refl wc.heap.size wc)) HMx.out;have HG:=QQ hget;have HB5:=QQ (hB5.trans (XW.of_below (Below.drew (Below.refl wc.heap.size wc))));have HR5:=QQ hR5;have HN5:=QQ hn5;have HS5:=QQ hS5;have HL5:=QQ hL5;have HO5:=QQ hO5;clear hget p2 p3 p4 hM5 hB5 hS5 hL5 hO5 hP5 hR5 hn5 H13
   go_cut [5,104] (fun s5 s104 wx=>s5= .nilIface∧Xg4 w wx b a r rb F M n (Z7 f o.id none) H 1 o.id h1 h2 (KZ o))
   case first=>as_aux_lemma=>
    go_region_with (go_at_call 127;refine HG.out.mono ?_;rintro e w6 ⟨rfl,F6,reg6,hM6,hB6⟩;have hr6:QJ w6 rb 29 #[.int .i64 0,.int .i64 0,.int .i64 0,.int .i64 0,.int .i64 0]:=QJ.keeps (QJ.drew HR5.out) hB6.1 HN5.out;have z0:=(Qc4 hr6).1;have z1:=(Qc4 hr6).2.1;have z2:=(Qc4 hr6).2.2.1;have z3:=(Qc4 hr6).2.2.2.1;have z4:=(Qc4 hr6).2.2.2.2;have f0:=QJ.frozen hr6 0;have f1:=QJ.frozen hr6 1;have f2:=QJ.frozen hr6 2;have f3:=QJ.frozen hr6 3;have f4:=QJ.frozen hr6 4;have HM6:=QQ hM6;have HB6:=QQ hB6;have HR6:=QQ hr6;clear hM6 hr6 hB6)
    all_goals go_wp2_with fail
    all_goals go_meet
    all_goals
     have hnb6: ¬U1 b r F6 H5 rb:=fun h=>(HB6.out.2 rb h).elim HN5.out (fun h3=>by have h4:=QJ.lt (QJ.drew HR5.out);omega)
     exact⟨rfl,Ja3 HM6.out (HB5.out.trans HB6.out) hnb6 HLT.out.1 HS5.out HL5.out HO5.out,QJ.set_ (QJ.set_ (QJ.set_ (QJ.set_ (QJ.set_ HR6.out 0 _) 1 _) 2 _) 3 _) 4 _⟩
   case rest=>
    obtain⟨rfl,hdone,hbox⟩:=hcut;have HDn:=QQ hdone;have HBx:=QQ hbox;clear hdone hbox;go_wp2_with fail
    refine Qm4 (g:=rb) (cs:=KZ o) (v:=YV 0) (by with_unfolding_all rfl) (by with_unfolding_all rfl) (by with_unfolding_all rfl) HBx.out rfl ?_;exact⟨rfl,HDn.out⟩
end Go.Proofs.YtnlngicnfegjgaaGreatDoor
