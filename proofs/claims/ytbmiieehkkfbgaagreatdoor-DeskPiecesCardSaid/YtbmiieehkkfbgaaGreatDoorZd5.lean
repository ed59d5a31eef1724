/- Contracts and walks that the law's proof needs. -/
import Derived.WalkKit
import Derived.WalkLawsBesides
import Derived.WalkSpells
import Derived.Deep.RegionHeld3
import Derived.Deep.DrawnRows
import Derived.Deep.QuietTactic
import Derived.BigQuiet
import Derived.Test.YtbmiieehkkfbgaaGreatDoorRows
import Derived.Test.YtbmiieehkkfbgaaGreatDoorZd1
import Derived.Below
import Derived.Deep.AppendLies
set_option linter.unusedVariables false
set_option maxRecDepth 100000
set_option maxHeartbeats 8000000
namespace Go.Proofs.YtbmiieehkkfbgaaGreatDoor
open Go.RowKit
def Qb7 (w:World) (r:Nat):Prop:=
 J2 w r [MapEntry.mk (.int .i64 1) (.slice (some ⟨r+1,0,none⟩) 1 1) 0,MapEntry.mk (.int .i64 2) (.slice (some ⟨r+2,0,none⟩) 1 1) 1,MapEntry.mk (.int .i64 3) (.slice (some ⟨r+3,0,none⟩) 2 2) 2,MapEntry.mk (.int .i64 5) (.slice (some ⟨r+4,0,none⟩) 1 1) 3] 4∧
 w.cell? ⟨r+1,0,none⟩=some (.int .i64 2)∧w.cell? ⟨r+2,0,none⟩=some (.int .i64 3)∧w.cell? ⟨r+3,0,none⟩=some (.int .i64 5)∧w.cell? ⟨r+3,1,none⟩=some (.int .i64 7)∧w.cell? ⟨r+4,0,none⟩=some (.int .i64 7)∧
 w.heap.size=r+5
theorem Jn5 (w:World):Calls Tryz.prog 172 #[] w fun e w'=>e= .returned (.map (some w.heap.size))∧Qb7 w' w.heap.size∧Below w.heap.size w w':=by
 have hmm:= @run_makeMap Tryz.prog
 go_enter Tryz.func172,Tryz.ntmps172
 go_wp2_with (first
  |((with_reducible (refine JZ (o:=⟨none,.insert 250 (.tmp 1) (.const (.int .i64 1)) (.tmp 2),_,_,_,_⟩) _ rfl (.tmp 1) (.const (.int .i64 1)) (.tmp 2) 250 rfl Tryz.underlying250 Tryz.underlying3 U1 w.heap.size 0 [] (.int .i64 1) (.slice (some ⟨w.heap.size+1,0,none⟩) 1 1) (by with_unfolding_all rfl) (by with_unfolding_all rfl) (by with_unfolding_all rfl) ((J2.made w).alloc _) (by with_unfolding_all rfl) ?_));intro w1 h1 t1;have s1:w1.heap.size=w.heap.size+2:=by rw[t1.size];simp)
  |((with_reducible (refine JZ (o:=⟨none,.insert 250 (.tmp 1) (.const (.int .i64 2)) (.tmp 3),_,_,_,_⟩) _ rfl (.tmp 1) (.const (.int .i64 2)) (.tmp 3) 250 rfl Tryz.underlying250 Tryz.underlying3 U1 w.heap.size 1 _ (.int .i64 2) (.slice (some ⟨w.heap.size+2,0,none⟩) 1 1) (by with_unfolding_all rfl) (by with_unfolding_all rfl) (by with_unfolding_all rfl) (h1.alloc _) (by with_unfolding_all rfl) ?_));intro w2 h2 t2;have s2:w2.heap.size=w.heap.size+3:=by rw[t2.size];simp[s1])
  |((with_reducible (refine JZ (o:=⟨none,.insert 250 (.tmp 1) (.const (.int .i64 3)) (.tmp 4),_,_,_,_⟩) _ rfl (.tmp 1) (.const (.int .i64 3)) (.tmp 4) 250 rfl Tryz.underlying250 Tryz.underlying3 U1 w.heap.size 2 _ (.int .i64 3) (.slice (some ⟨w.heap.size+3,0,none⟩) 2 2) (by with_unfolding_all rfl) (by with_unfolding_all rfl) (by with_unfolding_all rfl) (h2.alloc _) (by with_unfolding_all rfl) ?_));intro w3 h3 t3;have s3:w3.heap.size=w.heap.size+4:=by rw[t3.size];simp[s2])
  |((with_reducible (refine JZ (o:=⟨none,.insert 250 (.tmp 1) (.const (.int .i64 5)) (.tmp 5),_,_,_,_⟩) _ rfl (.tmp 1) (.const (.int .i64 5)) (.tmp 5) 250 rfl Tryz.underlying250 Tryz.underlying3 U1 w.heap.size 3 _ (.int .i64 5) (.slice (some ⟨w.heap.size+4,0,none⟩) 1 1) (by with_unfolding_all rfl) (by with_unfolding_all rfl) (by with_unfolding_all rfl) (h3.alloc _) (by with_unfolding_all rfl) ?_));intro w4 h4 t4;have s4:w4.heap.size=w.heap.size+5:=by rw[t4.size];simp[s3]))
 go_ret
 have c10_1:w1.cell? ⟨w.heap.size+1,0,none⟩=some (.int .i64 2):=(t1.cell (by simp)).trans (by simp)
 have c10_2:w2.cell? ⟨w.heap.size+1,0,none⟩=some (.int .i64 2):=(t2.cell (by simp)).trans ((World.cell?_alloc_lt _ _ _ (by simp[s1])).trans c10_1)
 have c10_3:w3.cell? ⟨w.heap.size+1,0,none⟩=some (.int .i64 2):=(t3.cell (by simp)).trans ((World.cell?_alloc_lt _ _ _ (by simp[s2])).trans c10_2)
 have c10_4:w4.cell? ⟨w.heap.size+1,0,none⟩=some (.int .i64 2):=(t4.cell (by simp)).trans ((World.cell?_alloc_lt _ _ _ (by simp[s3])).trans c10_3)
 have c20_2:w2.cell? ⟨w.heap.size+2,0,none⟩=some (.int .i64 3):=(t2.cell (by simp)).trans (by rw[←s1];simp)
 have c20_3:w3.cell? ⟨w.heap.size+2,0,none⟩=some (.int .i64 3):=(t3.cell (by simp)).trans ((World.cell?_alloc_lt _ _ _ (by simp[s2])).trans c20_2)
 have c20_4:w4.cell? ⟨w.heap.size+2,0,none⟩=some (.int .i64 3):=(t4.cell (by simp)).trans ((World.cell?_alloc_lt _ _ _ (by simp[s3])).trans c20_3)
 have c30_3:w3.cell? ⟨w.heap.size+3,0,none⟩=some (.int .i64 5):=(t3.cell (by simp)).trans (by rw[←s2];simp)
 have c30_4:w4.cell? ⟨w.heap.size+3,0,none⟩=some (.int .i64 5):=(t4.cell (by simp)).trans ((World.cell?_alloc_lt _ _ _ (by simp[s3])).trans c30_3)
 have c31_3:w3.cell? ⟨w.heap.size+3,1,none⟩=some (.int .i64 7):=(t3.cell (by simp)).trans (by rw[←s2];simp)
 have c31_4:w4.cell? ⟨w.heap.size+3,1,none⟩=some (.int .i64 7):=(t4.cell (by simp)).trans ((World.cell?_alloc_lt _ _ _ (by simp[s3])).trans c31_3)
 have c40_4:w4.cell? ⟨w.heap.size+4,0,none⟩=some (.int .i64 7):=(t4.cell (by simp)).trans (by rw[←s3];simp)
 refine⟨rfl,⟨h4,c10_4,c20_4,c30_4,c31_4,c40_4,s4⟩, ?_⟩
 exact(((((((Below.refl _ w).alloc (Nat.le_refl _) _).alloc (by simp) _).trans (t1.below (Nat.le_refl _))).alloc (by omega) _).trans (t2.below (Nat.le_refl _))).alloc (by omega) _).trans (t3.below (Nat.le_refl _)) |>.alloc (by omega) _ |>.trans (t4.below (Nat.le_refl _))
def Ql8 (r:Nat) (p:Int):Value:=
 if p=1 then .slice (some ⟨r+1,0,none⟩) 1 1 else if p=2 then .slice (some ⟨r+2,0,none⟩) 1 1
 else if p=3 then .slice (some ⟨r+3,0,none⟩) 2 2 else if p=5 then .slice (some ⟨r+4,0,none⟩) 1 1 else .slice none 0 0
theorem Kk2 (w:World):(zeroValue 69).run Tryz.prog w= .ok (.slice none 0 0) w:=by kernel_rfl
theorem Qb7.look {w:World} {r:Nat} (h:Qb7 w r) (p:Int):
  (Instr.lookup 250 (.map (some r)) (.int .i64 p) false).run Tryz.prog w= .ok (Ql8 r p) w:=by
 have key: ∃x,Js6 (.int .i64) (.int .i64 p) [MapEntry.mk (.int .i64 1) (.slice (some ⟨r+1,0,none⟩) 1 1) 0,MapEntry.mk (.int .i64 2) (.slice (some ⟨r+2,0,none⟩) 1 1) 1,MapEntry.mk (.int .i64 3) (.slice (some ⟨r+3,0,none⟩) 2 2) 2,MapEntry.mk (.int .i64 5) (.slice (some ⟨r+4,0,none⟩) 1 1) 3]=some x∧(x.map (·.2)).getD (.slice none 0 0)=Ql8 r p:=by
  unfold Js6 Ql8;simp only[Instr.findNow,Instr.sameNow,if_true]
  by_cases h1:p=1
  ·subst h1;exact⟨_,rfl,rfl⟩
  by_cases h2:p=2
  ·subst h2;exact⟨_,rfl,rfl⟩
  by_cases h3:p=3
  ·subst h3;exact⟨_,rfl,rfl⟩
  by_cases h5:p=5
  ·subst h5;exact⟨_,rfl,rfl⟩
  rw[YW h1,YW h2,YW h3,YW h5,if_neg h1,if_neg h2,if_neg h3,if_neg h5];exact⟨none,rfl,rfl⟩
 obtain⟨x,hx,he⟩:=key
 rw[Qh4 Tryz.underlying250 Tryz.underlying3 U1 h.1 _ (Kk2 w) false x hx,←he]
 rfl
attribute [local go_sem↓] Go.wp_at_zero Go.wp_at_succ
def YZ (p:Int):List Int:=if p=1 then [2]else if p=2 then [3]else if p=3 then [5,7]else if p=5 then [7]else []
def Qk5 (L:List Int) (p:Int):Bool:=L.any fun x=>x ==p
theorem Kk3 (L:List Int) (p:Int) (j:Nat) (h:j<L.length):Qk5 (L.take (j+1)) p=(Qk5 (L.take j) p || (L[j] ==p)):=by
 unfold Qk5
 rw[List.take_succ_eq_append_getElem h,List.any_append]
 simp
theorem Qb7.list {w:World} {r:Nat} (h:Qb7 w r) (p:Int):
  (YZ p= []∧Ql8 r p= .slice none 0 0)∨
  ∃g L,YZ p=L∧L.length≤2∧Ql8 r p= .slice (some ⟨g,0,none⟩) L.length L.length∧ ∀j (hj:j<L.length),w.cell? ⟨g,j,none⟩=some (.int .i64 L[j]):=by
 obtain⟨_,c1,c2,c3,c4,c5,_⟩:=h
 unfold YZ Ql8
 by_cases h1:p=1
 ·right;subst h1;exact⟨r+1,[2],rfl,by simp,rfl,fun j hj=>by simp at hj;subst hj;exact c1⟩
 by_cases h2:p=2
 ·right;subst h2;exact⟨r+2,[3],rfl,by simp,rfl,fun j hj=>by simp at hj;subst hj;exact c2⟩
 by_cases h3:p=3
 ·right;subst h3
  refine⟨r+3,[5,7],rfl,by simp,rfl,fun j hj=> ?_⟩
  match j,hj with
  |0,_=>exact c3
  |1,_=>exact c4
 by_cases h5:p=5
 ·right;subst h5;exact⟨r+4,[7],rfl,by simp,rfl,fun j hj=>by simp at hj;subst hj;exact c5⟩
 left
 simp[h1,h2,h3,h5]
theorem Qb7.look_nil {w:World} {r:Nat} {p:Int} (h:Qb7 w r) (hL:Hid (YZ p= [])):
  (Instr.lookup 250 (.map (some r)) (.int .i64 p) false).run Tryz.prog w= .ok (.slice none 0 0) w:=by
 rw[h.look]
 rcases h.list p with h1|⟨g,L,h1,h2,h3,h4⟩
 ·rw[h1.2]
 ·rw[hL.out]at h1
  subst h1;unfold Ql8;have:=hL.out;unfold YZ at this
  by_cases h1:p=1
  ·simp[h1]at this
  by_cases h2:p=2
  ·simp[h2]at this
  by_cases h3:p=3
  ·simp[h3]at this
  by_cases h5:p=5
  ·simp[h5]at this
  simp[h1,h2,h3,h5]
theorem Qb7.look_some {w:World} {r:Nat} {p:Int} {L:List Int} (h:Qb7 w r) (hL:Hid (YZ p=L)) (hne:L≠ []):
  ∃g,(Instr.lookup 250 (.map (some r)) (.int .i64 p) false).run Tryz.prog w= .ok (.slice (some ⟨g,0,none⟩) L.length L.length) w∧ ∀j (hj:j<L.length),w.cell? ⟨g,j,none⟩=some (.int .i64 L[j]):=by
 rw[h.look]
 rcases h.list p with h1|⟨g,L',h1,h2,h3,h4⟩
 ·exact absurd (hL.out.symm.trans h1.1) hne
 ·obtain rfl:L'=L:=h1.symm.trans hL.out
  exact⟨g,by rw[h3],h4⟩
theorem Xi5 (p:Int):(YZ p).length≤2:=by
 unfold YZ
 repeat(split<;>try simp)
def I1 (a0 p0 a p:Int):Int:=if Qk5 (YZ p0) p=false then 1 else if a≤a0 then 10 else if 1000000<a then 2 else 0
theorem Xo4 {a0 p0 a p:Int} (h:Qk5 (YZ p0) p=false):I1 a0 p0 a p=1:=by simp[I1,h]
theorem Kk4 {a0 p0 a p:Int} (h:Qk5 (YZ p0) p=true) (h1:a≤a0):I1 a0 p0 a p=10:=by simp[I1,h,h1]
theorem Kt7 {a0 p0 a p:Int} (h:Qk5 (YZ p0) p=true) (h1:a0<a) (h2:1000000<a):I1 a0 p0 a p=2:=by simp[I1,h,h2];omega
theorem Kt8 {a0 p0 a p:Int} (h:Qk5 (YZ p0) p=true) (h1:a0<a) (h2:a≤1000000):I1 a0 p0 a p=0:=by simp[I1,h];omega
theorem Xy7 (b off len cap k:Nat) (a0 a p0 p:Int) (w:World) (hk:k+1<len) (hlen:len≤20) (hb:b<w.heap.size)
  (c0:w.cell? ⟨b,off+k*2,none⟩=some (.int .i64 a0)) (c1:w.cell? ⟨b,off+k*2+1,none⟩=some (.int .i64 p0))
  (c2:w.cell? ⟨b,off+ (k+1)*2,none⟩=some (.int .i64 a)) (c3:w.cell? ⟨b,off+ (k+1)*2+1,none⟩=some (.int .i64 p)):
  Calls Tryz.prog 124 #[.slice (some ⟨b,off,none⟩) len cap,.int .i64 ((k:Int)+1)] w fun e w'=>e= .returned (.int .i64 (I1 a0 p0 a p))∧Below w.heap.size w w':=by
 have z1:((k:Int)+1 ==0)=false:=by simp;omega
 have i1:IntKind.i64.wrap ((k:Int)+1-1)=(k:Int):=by rw[IntKind.wrap_i64];omega
 have i4:IntKind.i64.wrap (k:Int)=(k:Int):=by rw[IntKind.wrap_i64];omega
 have i2:(0:Int)≤(k:Int):=by omega
 have i3:(k:Int)< (len:Int):=by omega
 have i5:(k:Int)+1< (len:Int):=by omega
 rcases(show YZ p0= []∨YZ p0≠ []from by by_cases h:YZ p0= []<;>simp[h])with hL|hL
 ·have Hw:=QQ (Xo4 (a0:=a0) (a:=a) (p:=p) (p0:=p0) (by rw[hL];rfl))
  have HL:=QQ hL;clear hL;go_enter Tryz.func124,Tryz.ntmps124
  go_wp2
  go_region_held3 (fun w'=>w'.cell? ⟨b,off+k*2+1,none⟩=some (.int .i64 p0)) (first|go_keep|(refine(hB.cell ?_).trans c1;simpa using hb))
   (first|(go_at_call 172;refine(Jn5 _).mono ?_;rintro e w1 ⟨rfl,hF,hB⟩;have hlk:(Instr.lookup 250 (.map (some w.heap.size)) (.int .i64 p0) false).run Tryz.prog w1= .ok (.slice none 0 0) w1:=hF.look_nil HL))
  go_wp2;refine wp_loop_rounds 1 ?_;rw[rounds_succ];go_wp2;go_ret;exact⟨by rw[Hw.out];rfl,(Below.refl _ w).drew.trans hB⟩
 ·obtain⟨L,hLL⟩: ∃L,YZ p0=L:=⟨_,rfl⟩
  have hne:L≠ []:=hLL▸hL;have hlen2:L.length≤2:=hLL▸Xi5 p0;have HL:=QQ hLL;clear hLL hL;go_enter Tryz.func124,Tryz.ntmps124
  go_wp2
  go_region_held3 (fun w'=>w'.cell? ⟨b,off+k*2+1,none⟩=some (.int .i64 p0)) (first|go_keep|(refine(hB.cell ?_).trans c1;simpa using hb))
   (first|(go_at_call 172;refine(Jn5 _).mono ?_;rintro e w1 ⟨rfl,hF,hB⟩;obtain⟨g,hlk,hg⟩:=hF.look_some HL hne;have hlk':(Instr.lookup 250 (.map (some w.heap.size)) (.int .i64 p0) false).run Tryz.prog w1= .ok (.slice (some ⟨g,0,none⟩) L.length L.length) w1:=hlk;clear hlk))
  go_wp2;have hBw:Below w.heap.size w w1:=(Below.refl _ w).drew.trans hB;have d2:w1.cell? ⟨b,off+ (k+1)*2,none⟩=some (.int .i64 a):=(hBw.cell hb).trans c2;have d3:w1.cell? ⟨b,off+ (k+1)*2+1,none⟩=some (.int .i64 p):=(hBw.cell hb).trans c3;have d0:w1.cell? ⟨b,off+k*2,none⟩=some (.int .i64 a0):=(hBw.cell hb).trans c0;clear hlk' hF hB c0 c1 c2 c3
  go_loop [5,24] (fun o i=> ∃j:Nat,j≤L.length∧i= .int .i64 j∧o= .bool (Qk5 (L.take j) p)) (fun _ i=>L.length- (RowKit.intOf i).toNat)
  case atStart=>exact⟨0,Nat.zero_le _,rfl,rfl⟩
  case round=>
   obtain⟨j,hj,rfl,rfl⟩:=hrel
   by_cases hlt:j<L.length
   ·have hgj:=hg j hlt
    have hstep:=Kk3 L p j hlt
    by_cases hany:Qk5 (L.take j) p=true
    ·have hn:=QQ (show Qk5 (L.take (j+1)) p=true by rw[hstep,hany];rfl)
     rw[hany];clear hstep hany hg;go_wp2
     go_round
     case rel=>exact⟨j+1,by omega,by go_num,by rw[hn.out]⟩
     case measure=>simp[RowKit.intOf];omega
    ·have hany':Qk5 (L.take j) p=false:=by simpa using hany
     have hn:=QQ (show Qk5 (L.take (j+1)) p=(L[j] ==p) by rw[hstep,hany'];rfl);rw[hany'];clear hstep hany hany' hg
     by_cases he:L[j]=p
     ·have he':(L[j] ==p)=true:=Z2 he
      have hn':=QQ (show Qk5 (L.take (j+1)) p=true by rw[hn.out,he']);clear hn he;go_wp2
      go_round
      case rel=>exact⟨j+1,by omega,by go_num,by rw[hn'.out]⟩
      case measure=>simp[RowKit.intOf];omega
     ·have he':(L[j] ==p)=false:=YW he
      have hn':=QQ (show Qk5 (L.take (j+1)) p=false by rw[hn.out,he']);clear hn he;go_wp2
      go_round
      case rel=>exact⟨j+1,by omega,by go_num,by rw[hn'.out]⟩
      case measure=>simp[RowKit.intOf];omega
   ·have hall:Qk5 (L.take j) p=Qk5 (YZ p0) p:=by rw[HL.out,List.take_of_length_le (by omega)]
    rw[hall];clear hall hg
    by_cases hany:Qk5 (YZ p0) p=true
    ·rw[hany]
     by_cases h1:a≤a0
     ·have Hw:=QQ (Kk4 hany h1)
      clear hany;go_wp2;go_quiet (fail)
      go_wp2;go_ret;exact⟨by rw[Hw.out];rfl,QY hBw _⟩
     ·by_cases h2:1000000<a
      ·have Hw:=QQ (Kt7 (a0:=a0) hany (by omega) h2)
       have f1:decide (a≤a0)=false:=OY h1;clear hany;go_wp2;go_quiet (fail)
       go_wp2;go_ret;exact⟨by rw[Hw.out];rfl,QY hBw _⟩
      ·have Hw:=QQ (Kt8 (a0:=a0) (a:=a) hany (by omega) (by omega))
       have f1:decide (a≤a0)=false:=OY h1;have f2:decide (1000000<a)=false:=OY h2;clear hany;go_wp2;go_quiet (fail)
       go_wp2;go_ret;exact⟨by rw[Hw.out];rfl,QY hBw _⟩
    ·have hany':Qk5 (YZ p0) p=false:=by simpa using hany
     have Hw:=QQ (Xo4 (a0:=a0) (a:=a) hany');rw[hany'];clear hany hany';go_wp2;go_ret;exact⟨by rw[Hw.out];rfl,hBw⟩
def I8 (w:World) (A:Option Addr) (len _cap:Nat) (ps:List (Int×Int)):Prop:=
 ps.length=len∧(0<len→ ∃b off,A=some ⟨b,off,none⟩∧b<w.heap.size∧
  ∀i,i<len→w.cell? ⟨b,off+i*2,none⟩=some (.int .i64 (ps.getD i (0,0)).1)∧w.cell? ⟨b,off+i*2+1,none⟩=some (.int .i64 (ps.getD i (0,0)).2))
theorem I8.below {w w':World} {A:Option Addr} {len cap B:Nat} {ps:List (Int×Int)} (h:I8 w A len cap ps) (hb:Below B w w') (hB:w.heap.size≤B):I8 w' A len cap ps:=by
 refine⟨h.1,fun hl=> ?_⟩
 obtain⟨b,off,hA,hlt,hc⟩:=h.2 hl
 exact⟨b,off,hA,by have:=hb.size;omega,fun i hi=>⟨(hb.cell (p:=⟨b,_,none⟩) (by show b<B;omega)).trans (hc i hi).1,(hb.cell (p:=⟨b,_,none⟩) (by show b<B;omega)).trans (hc i hi).2⟩⟩
theorem I8.at_ {w:World} {b off len cap:Nat} {ps:List (Int×Int)} (h:I8 w (some ⟨b,off,none⟩) len cap ps) {i:Nat} (hi:i<len):
  w.cell? ⟨b,off+i*2,none⟩=some (.int .i64 (ps.getD i (0,0)).1)∧w.cell? ⟨b,off+i*2+1,none⟩=some (.int .i64 (ps.getD i (0,0)).2):=by
 obtain⟨b',off',hA,_,hc⟩:=h.2 (by omega)
 cases hA
 exact hc i hi
def Y8 (ps:List (Int×Int)):List Value:=ps.flatMap fun p=> [.int .i64 p.1,.int .i64 p.2]
theorem Qg8 (ps:List (Int×Int)):(Y8 ps).length=ps.length*2:=by
 induction ps with
 |nil=>rfl
 |cons p ps ih=>simp[Y8]at ih⊢;omega
theorem Xb1 (ps:List (Int×Int)): ∀u∈Y8 ps,u.oneCell'=true:=by
 intro u hu
 obtain⟨p,_,h⟩:=List.mem_flatMap.1 hu
 simp at h
 rcases h with rfl|rfl<;>rfl
theorem Jc4 (ps:List (Int×Int)): ∀i,i<ps.length→(Y8 ps)[i*2]?=some (.int .i64 (ps.getD i (0,0)).1)∧(Y8 ps)[i*2+1]?=some (.int .i64 (ps.getD i (0,0)).2):=by
 induction ps with
 |nil=>intro i hi;simp at hi
 |cons p ps ih=>
  intro i hi
  cases i with
  |zero=>simp[Y8]
  |succ k=>
   have h:=ih k (by simpa using hi);have e1:(k+1)*2=k*2+1+1:=by omega
   simp only[Y8,List.flatMap_cons,List.cons_append,List.nil_append,e1,List.getElem?_cons_succ,List.getD_cons_succ]at h⊢;exact h
theorem I8.news {w:World} {b off len cap:Nat} {ps:List (Int×Int)} (h:I8 w (some ⟨b,off,none⟩) len cap ps): ∀j u,(Y8 ps)[j]?=some u→w.cell? ((⟨b,off,none⟩:Addr).add j)=some u:=by
 intro j u hu
 have hj:j<ps.length*2:=by
  rw[←Qg8];rcases Nat.lt_or_ge j (Y8 ps).length with h|h
  ·exact h
  ·rw[List.getElem?_eq_none h]at hu;cases hu
 have hl:=h.1
 obtain⟨b',off',hA,_,hc⟩:=h.2 (by omega)
 cases hA
 have hadd:(⟨b,off,none⟩:Addr).add j=⟨b,off+j,none⟩:=by
  unfold Addr.add
  split
  ·rename_i h;subst h;rfl
  ·rfl
 rw[hadd]
 have hg:=Jc4 ps (j/2) (by omega)
 have hcj:=hc (j/2) (by omega)
 rcases Nat.mod_two_eq_zero_or_one j with hm|hm
 ·have e:j/2*2=j:=by omega
  rw[e]at hg hcj;rw[hcj.1,←hu,hg.1]
 ·have e:j/2*2+1=j:=by omega
  rw[e]at hg;rw[show off+j=off+j/2*2+1 from by omega,hcj.2,←hu,hg.2]
theorem I8.of_own {w:World} {base g n cap:Nat} {e:TypeId} {ps:List (Int×Int)} (h:w.ownsRow base e 2 (.slice (some ⟨g,0,none⟩) n cap) n (Y8 ps)):I8 w (some ⟨g,0,none⟩) n cap ps:=by
 have hl:ps.length=n:=by have:=h.1;rw[Qg8]at this;omega
 refine⟨hl,fun hn=>⟨g,0,rfl,(h.lt g rfl).2,fun i hi=> ?_⟩⟩
 have hg:=Jc4 ps i (by omega)
 have c1:=h.cells (g:=g) rfl _ _ hg.1
 have c2:=h.cells (g:=g) rfl _ _ hg.2
 have hadd: ∀j,(⟨g,0,none⟩:Addr).add j=⟨g,0+j,none⟩:=by
  intro j;unfold Addr.add
  split
  ·rename_i h;subst h;rfl
  ·rfl
 rw[hadd]at c1 c2
 exact⟨c1,by rw[←c2];congr 1⟩
def Qj7 (p k:Int):Bool:=
 if p=1 then decide (k=1∨k=3∨k=4)
 else if p=2∨p=4∨p=5 then decide (k=1∨k=2∨k=3∨k=4)
 else if p=3 then decide (k=1∨k=2∨k=4)else false
def Qq7 (p:Int):Bool:=decide (p=1∨p=2∨p=4∨p=5)
theorem five (p:Int):p=1∨p=2∨p=3∨p=4∨p=5∨(¬(p=1∨p=2∨p=3∨p=4∨p=5)):=by omega
theorem Zm7 (k:Int):k=1∨k=2∨k=3∨k=4∨(¬(k=1∨k=2∨k=3∨k=4)):=by omega
theorem Kk5 (p k:Int) (w:World):Calls Tryz.prog 114 #[.int .i64 p,.int .i64 k] w fun e w'=>e= .returned (.bool (Qj7 p k))∧w=w':=by
 rcases five p with rfl|rfl|rfl|rfl|rfl|hp
 case inr.inr.inr.inr.inr=>
  have hf:Qj7 p k=false:=by unfold Qj7;rw[if_neg (by omega),if_neg (by omega),if_neg (by omega)]
  have p1:=YW (a:=p) (b:=1) (by omega);have p2:=YW (a:=p) (b:=2) (by omega);have p3:=YW (a:=p) (b:=3) (by omega);have p4:=YW (a:=p) (b:=4) (by omega);have p5:=YW (a:=p) (b:=5) (by omega);rw[hf];clear hf hp;go_enter Tryz.func114,Tryz.ntmps114
  go_wp2;go_ret;exact⟨rfl,rfl⟩
 all_goals
  rcases Zm7 k with rfl|rfl|rfl|rfl|hk
  case inr.inr.inr.inr=>
   have k1:=YW (a:=k) (b:=1) (by omega);have k2:=YW (a:=k) (b:=2) (by omega);have k3:=YW (a:=k) (b:=3) (by omega);have k4:=YW (a:=k) (b:=4) (by omega);rw[show Qj7 _ k=false by simp[Qj7];omega];clear hk;go_enter Tryz.func114,Tryz.ntmps114
   go_wp2;go_ret;exact⟨rfl,rfl⟩
  all_goals
   go_enter Tryz.func114,Tryz.ntmps114
   go_wp2;go_ret;exact⟨rfl,rfl⟩
theorem Xi6 (p:Int) (w:World):Calls Tryz.prog 88 #[.int .i64 p] w fun e w'=>e= .returned (.bool (Qq7 p))∧w=w':=by
 rcases five p with rfl|rfl|rfl|rfl|rfl|hp
 case inr.inr.inr.inr.inr=>
  have hf:Qq7 p=false:=by simp[Qq7];omega
  have p1:=YW (a:=p) (b:=1) (by omega);have p2:=YW (a:=p) (b:=2) (by omega);have p4:=YW (a:=p) (b:=4) (by omega);have p5:=YW (a:=p) (b:=5) (by omega);rw[hf];clear hf hp;go_enter Tryz.func88,Tryz.ntmps88
  go_wp2;go_ret;exact⟨rfl,rfl⟩
 all_goals
  go_enter Tryz.func88,Tryz.ntmps88
  go_wp2;go_ret;exact⟨rfl,rfl⟩
end Go.Proofs.YtbmiieehkkfbgaaGreatDoor
