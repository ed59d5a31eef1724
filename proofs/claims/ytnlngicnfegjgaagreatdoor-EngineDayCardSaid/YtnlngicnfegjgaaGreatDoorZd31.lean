/- Contracts and walks that the law's proof needs. -/
import Derived.WalkKit
import Derived.WalkLawsBesides
import Derived.WalkSpells
import Derived.Test.YtnlngicnfegjgaaGreatDoorZd19
import Derived.Test.YtnlngicnfegjgaaGreatDoorZd13
import Derived.Test.YtnlngicnfegjgaaGreatDoorZd29
import Derived.Deep.LoopGhost
import Derived.Deep.QuietTactic
import Derived.BigQuiet
import Derived.Deep.DeepCutAuto
import Derived.Deep.CutBlock
import Derived.Test.YtnlngicnfegjgaaGreatDoorZd30
import Derived.Test.YtnlngicnfegjgaaGreatDoorZd23
set_option linter.unusedVariables false
set_option maxRecDepth 100000
set_option maxHeartbeats 8000000
namespace Go.Proofs.YtnlngicnfegjgaaGreatDoor
open Go.RowKit
theorem Ka1 (w:World) (A:Option Addr) (n c:Nat) (l:List QX) (h:QY w A n c 29 5 (QW U7 l)) (hn:n≤100000):
  Calls Tryz.prog 48 #[.slice A n c] w fun e w'=>Below w.heap.size w w'∧ ∃A' c',e= .returned (.slice A' n c')∧QY w' A' n c' 29 5 (QW U7 l)∧ ∀g,QZ A'=some g→w.heap.size≤g:=by
 rcases h.2 with⟨hv,h0⟩|⟨g,cap,cur,hv,-⟩
 ·cases hv
  have hl:QW U7 l= []:=List.eq_nil_of_length_eq_zero (by have:=h.1;omega);rw[hl];have hne: ∀wx,(binOp .eql 47 (.slice none 0 0) (.slice none 0 0)).run Tryz.prog wx= .ok (.bool true) wx:=fun wx=>Lib.run_eql_slice_nil (P:=Tryz.prog) wx 47 29 none 0 0 0 0 Tryz.underlying47
  clear h hl;go_enter Tryz.func48,Tryz.ntmps48
  go_wp2;go_ret;exact⟨Below.refl _ _,none,0,rfl,World.ownsRow_nil _ _ _ _,fun g hg=>by simp[QZ]at hg⟩
 ·cases hv
  obtain⟨i0,hi0,hz0,hz1,hz2⟩:=info_parts Qm5;have hE:=QQ ((XZ.of_row Q7 (by omega) h).below ((Below.refl _ w).alloc (Nat.le_refl _) (.cells #[] 29)) (Nat.le_refl _));have HW:=QQ (QY.made w 29 5);have hne: ∀wx,(binOp .eql 47 (.slice (some ⟨g,0,none⟩) n c) (.slice none 0 0)).run Tryz.prog wx= .ok (.bool false) wx:=fun wx=>Lib.run_eql_slice_nil (P:=Tryz.prog) wx 47 29 (some ⟨g,0,none⟩) n c 0 0 Tryz.underlying47
  clear h;go_enter Tryz.func48,Tryz.ntmps48
  go_wp2_with (at_builtin;refine Qg9 Q7 Qv6 rfl (.tmp 5) (.tmp 6) 47 rfl 29 i0 _ 40 Tryz.underlying47 hi0 hz0 hz1 hz2 rfl (by omega) (some ⟨w.heap.size,0,none⟩) 0 0 [] rfl HW.out (some ⟨g,0,none⟩) n c l rfl hE.out (by unfold maxLen;omega) (by omega) ?_;intro A' c' w2 hr hg hat)
  go_ret;have hb:Below w.heap.size w w2:=((Below.refl _ w).alloc (Nat.le_refl _) (.cells #[] 29)).grown hg (by simp) (fun q hq=>by simp[QZ]at hq;omega);simp only[Nat.zero_add,List.nil_append]at hr;refine⟨hb,A',c',rfl,hr,fun q hq=> ?_⟩;rcases hat q hq with x|x
  ·have:w.heap.size=q:=by simpa [QZ]using x
   omega
  ·have:q=w.heap.size+1:=by simpa using x
   omega
theorem Xs1 {w:World} {e:Nat} {F:Nat→Prop} {m:ZJ} (h:UK w e F m) (hn:m.pk.length≤100000):
  Calls Tryz.prog 13 #[.pointer (some ⟨e,0,none⟩)] w fun ev w'=>Below w.heap.size w w'∧ ∃A c,ev= .returned (.slice A m.pk.length c)∧QY w' A m.pk.length c 29 5 (QW U7 m.pk)∧ ∀g,QZ A=some g→w.heap.size≤g:=by
 obtain⟨cs,tb,bb,bk,im,T,tc,Al,lc,lv,bu,se,Ap,pc,es,mc,G,own,hM,hF⟩:=h
 have c12:=hM.cell hM.ec.c12
 have HC:=QQ (Ka1 w Ap m.pk.length pc m.pk hM.park hn)
 clear hM hF
 obtain⟨n,hn'⟩: ∃n,m.pk.length=n:=⟨_,rfl⟩
 rw[hn']at c12 HC⊢
 clear hn' hn
 go_enter Tryz.func13,Tryz.ntmps13
 go_wp2_with fail
 refine HC.out.mono ?_
 rintro ev w2 ⟨hb,A,c,rfl,hr,hg⟩
 have HR:=QQ hr
 have HG:=QQ hg
 clear hr hg HC
 go_wp2_with fail
 go_ret
 exact⟨hb,A,c,rfl,HR.out,HG.out⟩
end Go.Proofs.YtnlngicnfegjgaaGreatDoor
namespace Go.Proofs.YtnlngicnfegjgaaGreatDoor
open Go.ChangeMaps Go.RowKit
theorem Xs2 {w:World} {g:Nat} {t:TypeId} {a b c d e:Value} (h:QJ w g t #[a,b,c,d,e]):w.cell? ⟨g,0,none⟩=some a∧w.cell? ⟨g,1,none⟩=some b∧w.cell? ⟨g,2,none⟩=some c∧w.cell? ⟨g,3,none⟩=some d∧w.cell? ⟨g,4,none⟩=some e:=
 ⟨by rw[QJ.cell h];rfl,by rw[QJ.cell h];rfl,by rw[QJ.cell h];rfl,by rw[QJ.cell h];rfl,by rw[QJ.cell h];rfl⟩
theorem Below.drewN_ {B:Nat} {w w':World} (h:Below B w w') (n:Nat):Below B w (w'.drewN n):=h.trans ⟨rfl,rfl,rfl,Nat.le_refl _,fun _ _=>rfl⟩
theorem O1.lookup {w:World} {r:Nat} {f:Int→Int} (h:O1 w r f) (k:Int):(Instr.lookup 38 (.map (some r)) (.int .i64 k) false).run Tryz.prog w= .ok (.int .i64 (f k)) w:=by
 obtain⟨g,h1,h2⟩:=h
 have hz:(zeroValue 3).run Tryz.prog w= .ok (.int .i64 0) w:=by kernel_rfl
 rw[h1.imap.lookup Tryz.underlying38 Tryz.underlying3 hz k false,if_neg (by decide),h2]
theorem Kl2 {w:World} {D e L S:Nat} {A:Option Addr} {cap:Nat} {l:List Int} {c:Qn4} {F:Nat→Prop} {m:ZJ} {lots side:Int→Int} {since:Int} {hands:Bool} (h:Qc9 w D e L S A cap l c F m lots side since hands)
  (hk: ∀o∈m.L1++m.L2,o.kind=1∧lots o.id=o.qty) (hp: ∀x∈m.L1,∀y∈m.L2,x.price<y.price) (hc:m.L1.length+m.L2.length≤100):
  Calls Tryz.prog 36 #[.pointer (some ⟨D,0,none⟩)] w fun ev w'=>ev= .returned (.bool true)∧Below w.heap.size w w':=by
 have HD:=QQ h
 have c0:w.cell? ⟨D,0,none⟩=some (.pointer (some ⟨e,0,none⟩)):=by rw[QJ.cell h.box];rfl
 have HK:=QQ hk
 have HP:=QQ hp
 have HC:=QQ hc
 clear h hk hp hc
 obtain⟨M1,hM1⟩: ∃x,m.L1=x:=⟨_,rfl⟩
 obtain⟨M2,hM2⟩: ∃x,m.L2=x:=⟨_,rfl⟩
 have S1:=QQ (fun W (hW:UK W e F m)=>Ja8 hW 1 KX)
 have S2:=QQ (fun W (hW:UK W e F m)=>Ja8 hW 2 KK)
 rw[show JY 1 m.L1 m.L2=m.L1 from rfl,hM1]at S1
 rw[show JY 2 m.L1 m.L2=m.L2 from rfl,hM2]at S2
 rw[hM1,hM2]at HK HP HC
 clear hM1 hM2
 go_enter Tryz.func36,Tryz.ntmps36
 go_wp2_with fail
 refine(S1.out _ HD.out.eng).mono ?_
 rintro ev w1 ⟨hb1,A1,c1,rfl,hr1,hn1⟩
 have HD1:=QQ (HD.out.below hb1)
 have c0:w1.cell? ⟨D,0,none⟩=some (.pointer (some ⟨e,0,none⟩)):=by rw[QJ.cell HD1.out.box];rfl
 go_wp2_with fail
 refine(S2.out _ HD1.out.eng).mono ?_
 rintro ev w2 ⟨hb2,A2,c2,rfl,hr2,hn2⟩
 have HD2:=QQ (HD1.out.below hb2)
 have HB2:=QQ (hb1.trans (hb2.mono hb1.size))
 have HR1:=QQ (hr1.below hb2)
 have HR2:=QQ hr2
 clear hb1 hb2 hr1 hr2 hn1 hn2 c0 S1 S2
 obtain⟨n1,hn1⟩: ∃n,M1.length=n:=⟨_,rfl⟩
 obtain⟨n2,hn2⟩: ∃n,M2.length=n:=⟨_,rfl⟩
 rw[hn1,hn2]
 rw[hn1]at HR1
 rw[hn2]at HR2
 have HN:=QQ (And.intro hn1 hn2)
 have hnb:n1+n2≤100:=by have:=HC.out;omega
 clear hn1 hn2
 obtain⟨i0,hi0,hz0,hz1,hz2⟩:=info_parts Qm5
 have hE1:=QQ ((XZ.of_row Q7 (by omega) HR1.out).below ((Below.refl _ w2).alloc (Nat.le_refl _) (.cells #[] 29)) (Nat.le_refl _))
 have HW:=QQ (QY.made w2 29 5)
 go_upto_region 5 with fail
 go_wp2_with (first|(at_builtin;(with_reducible (refine Qg9 Q7 Qv6 rfl (.tmp 31) (.tmp 32) 47 rfl 29 i0 _ 40 Tryz.underlying47 hi0 hz0 hz1 hz2 (by with_unfolding_all rfl) (by omega) (some ⟨w2.heap.size,0,none⟩) 0 0 [] (by with_unfolding_all rfl) HW.out A1 n1 c1 M1 (by with_unfolding_all rfl) hE1.out (by unfold maxLen;omega) (by omega) ?_));intro A3 c3 w3 hr3 hg3 hat3;have hr3:QY w3 A3 n1 c3 29 5 (QW U7 M1):=(by rw[Nat.zero_add,List.nil_append]at hr3;exact hr3);have hb3:Below w2.heap.size w2 w3:=((Below.refl _ w2).alloc (Nat.le_refl _) (.cells #[] 29)).grown hg3 (by simp) (fun q hq=>by simp[QZ]at hq;omega);have hE2:=(XZ.of_row Q7 (by omega) HR2.out).below hb3 (Nat.le_refl _))|(at_builtin;(with_reducible (refine Qg9 Q7 Qv6 rfl (.tmp 33) (.tmp 34) 47 rfl 29 i0 _ 40 Tryz.underlying47 hi0 hz0 hz1 hz2 (by with_unfolding_all rfl) (by omega) A3 n1 c3 (QW U7 M1) (by with_unfolding_all rfl) hr3 A2 n2 c2 M2 (by with_unfolding_all rfl) hE2 (by unfold maxLen;omega) (by omega) ?_));intro A4 c4 w4 hr4 hg4 hat4))
 have HB4:Hid (Below w2.heap.size w2 w4):=QQ (hb3.grown hg4 hb3.size (fun q hq=>by
  rcases hat3 q hq with h1|h1
  ·have:w2.heap.size=q:=by simpa [QZ]using h1
   omega
  ·have:q=w2.heap.size+1:=by simpa using h1
   omega))
 have hrow:QY w4 A4 (n1+n2) c4 29 5 (QW U7 (M1++M2)):=by
  have e:QW U7 (M1++M2)=QW U7 M1++QW U7 M2:=by unfold QW;rw[List.flatMap_append]
  rw[e];exact hr4
 have HE4:=QQ (XZ.of_row Q7 (by omega) hrow)
 clear hr4 hg4 hat4 hrow hE2 hb3 hat3 hg3 hr3 hE1 HW
 obtain⟨nn,hnn⟩: ∃n,n1+n2=n:=⟨_,rfl⟩
 have hnz:((n1:Int)+ (n2:Int))=(nn:Int):=by omega
 try rw[hnz]
 rw[hnn]at HE4
 try rw[hnn]
 have HNn:=QQ hnn
 clear hnn hnz hi0 hz0 hz1 hz2
 go_loopg [37] nn (fun gg s37 wx=> ∃k:Nat,k≤nn∧gg=nn-k∧s37= .int .i64 k∧Below w4.heap.size w4 wx)
 case atStart=>exact⟨0,Nat.zero_le _,rfl,rfl,Below.refl _ _⟩
 case round=>
  obtain⟨k,hk,rfl,rfl,hB⟩:=hrel;have HB:=QQ hB;have HDr:=QQ (HD2.out.below (HB4.out.trans (hB.mono HB4.out.size)));clear hB
  by_cases hlt:k<nn
  ·have hkl:k< (M1++M2).length:=by rw[List.length_append];have:=HN.out;have:=HNn.out;omega
   obtain⟨b4,off4,hA4⟩: ∃b off,A4=some ⟨b,off,none⟩:=by obtain⟨b,off,h1,_⟩:=HE4.out.2 (by omega);exact⟨b,off,h1⟩
   subst hA4;obtain⟨x0,x1,x2,x3,x4⟩:=Xe8 (HE4.out.below HB.out (Nat.le_refl _)) hkl;have hltz:(k:Int)< (nn:Int):=by omega
   have hk0:(0:Int)≤(k:Int):=by omega
   have hko:=HK.out _ (List.getElem_mem hkl);obtain⟨⟨oi,os,ok,op,oq⟩,eo⟩: ∃o,(M1++M2)[k]=o:=⟨_,rfl⟩;rw[eo]at x0 x1 x2 x3 x4 hko;dsimp only at x0 x1 x2 x3 x4 hko;obtain⟨hk1,hl1⟩:=hko;subst hk1;clear eo;have hb6:Below wr.heap.size wr (wr.alloc (.cells #[.int .i64 oi,.int .i64 os,.int .i64 1,.int .i64 op,.int .i64 oq] 29)):=(Below.refl _ _).alloc (Nat.le_refl _) _;have hBx:=QJ.new wr 29 #[.int .i64 oi,.int .i64 os,.int .i64 1,.int .i64 op,.int .i64 oq];go_upto_region 8 with fail
   obtain⟨w6,ew6⟩: ∃W,(wr.alloc (.cells #[.int .i64 oi,.int .i64 os,.int .i64 1,.int .i64 op,.int .i64 oq] 29))=W:=⟨_,rfl⟩;obtain⟨gx,egx⟩: ∃g,wr.heap.size=g:=⟨_,rfl⟩;have HB6:=QQ (HB.out.trans (hb6.mono HB.out.size));rw[ew6]at hb6 hBx HB6⊢;rw[egx]at hBx⊢;have HD6:=QQ (HDr.out.below hb6);clear ew6 egx hb6 x0 x1 x2 x3 x4;obtain⟨y0,y1,y2,y3,y4⟩:=Xs2 hBx;have c7:w6.cell? ⟨D,7,none⟩=some (.map (some L)):=by rw[QJ.cell HD6.out.box];rfl
   have lk1:=HD6.out.lots_.lookup oi;have lk2:=(HD6.out.lots_.of_block (w':=w6.drew) rfl).lookup oi;have lk3:=fun n=>(HD6.out.lots_.of_block (w':=w6.drewN n) rfl).lookup oi
   rw[hl1]at lk1 lk2 lk3;clear hl1 hBx;go_quiet (fail)
   go_wp2_with fail
   have hkb:k<100:=by have:=HNn.out;omega
   go_roundg (nn- (k+1))
   case measure=>omega
   case rel=>exact⟨k+1,by omega,rfl,congrArg (Value.int IntKind.i64) (show RowKit.wrap64 ((k:Int)+1)=((k+1:Nat):Int) by unfold RowKit.wrap64;omega),Below.drewN_ HB6.out _⟩
  ·obtain rfl:k=nn:=by omega
   have hltz: ¬(k:Int)< (k:Int):=by omega
   have HBw:Hid (Below w.heap.size w wr):=QQ (HB2.out.trans ((HB4.out.trans (HB.out.mono HB4.out.size)).mono HB2.out.size));have HR1r:=QQ (HR1.out.below (HB4.out.trans (HB.out.mono HB4.out.size)));have HR2r:=QQ (HR2.out.below (HB4.out.trans (HB.out.mono HB4.out.size)));rcases Nat.eq_zero_or_pos n1 with rfl|h1
   ·go_wp2_with fail
    go_quiet (fail)
    go_wp2_with fail
    go_ret;exact⟨rfl,Below.drewN_ HBw.out _⟩
   ·rcases Nat.eq_zero_or_pos n2 with rfl|h2
    ·have q1: ¬(n1:Int)=0:=by omega
     have q2:=UQ q1;go_wp2_with fail
     go_quiet (fail)
     go_wp2_with fail
     go_ret;exact⟨rfl,Below.drewN_ HBw.out _⟩
    ·have q1: ¬(n1:Int)=0:=by omega
     have q2:=UQ q1;have q3: ¬(n2:Int)=0:=by omega
     have q4:=UQ q3;have p1:(0:Int)< (n1:Int):=by omega
     have p2:(0:Int)< (n2:Int):=by omega
     obtain⟨g1,hA1⟩: ∃g,A1=some ⟨g,0,none⟩:=by
      rcases HR1r.out.2 with⟨-,h0⟩|⟨g,c0,cur,hv,-⟩
      ·omega
      ·cases hv;exact⟨g,rfl⟩
     obtain⟨g2,hA2⟩: ∃g,A2=some ⟨g,0,none⟩:=by
      rcases HR2r.out.2 with⟨-,h0⟩|⟨g,c0,cur,hv,-⟩
      ·omega
      ·cases hv;exact⟨g,rfl⟩
     subst hA1;subst hA2;have m1:0<M1.length:=by have:=HN.out;omega
     have m2:0<M2.length:=by have:=HN.out;omega
     have z1:=(Xe8 (XZ.of_row Q7 (by omega) HR1r.out) (i:=0) m1).2.2.2.1;have z2:=(Xe8 (XZ.of_row Q7 (by omega) HR2r.out) (i:=0) m2).2.2.2.1;have hlt2:=HP.out _ (List.getElem_mem m1) _ (List.getElem_mem m2);obtain⟨v1,e1⟩: ∃x,M1[0].price=x:=⟨_,rfl⟩;obtain⟨v2,e2⟩: ∃x,M2[0].price=x:=⟨_,rfl⟩;rw[e1]at z1 hlt2;rw[e2]at z2 hlt2;clear e1 e2;go_wp2_with fail
     go_quiet (fail)
     go_wp2_with fail
     go_ret;exact⟨rfl,Below.drewN_ HBw.out _⟩
theorem IV.keeps {w w':World} {r:Nat} (h:IV w w' r):QK (fun i=>i=r) w w':=⟨h.os,h.tape,h.output,Nat.le_of_eq h.size.symm,fun k _ hn=>h.block k hn⟩
theorem O1.update {w:World} {r:Nat} {f:Int→Int} (h:O1 w r f) (k v:Int):
  ∃w',(Instr.mapUpdate 38 (.map (some r)) (.int .i64 k) (.int .i64 v)).run Tryz.prog w= .ok () w'∧O1 w' r (Qg8 f k v)∧IV w w' r:=by
 obtain⟨g,h1,h2⟩:=h
 obtain⟨w',a1,a2,a3⟩:=h1.update Tryz.underlying38 Tryz.underlying3 k (.int .i64 v)
 refine⟨w',a1,⟨_,a2,fun j=> ?_⟩,a3⟩
 unfold Z7 Qg8
 by_cases e:j=k
 ·rw[if_pos e,if_pos e];rfl
 ·rw[if_neg e,if_neg e];exact h2 j
theorem O1.entry {w:World} {r:Nat} {f:Int→Int} (h:O1 w r f) (k:Int):
  ∃(v0:Value) (st:Nat) (w1:World),(Instr.mapEntry 38 (.map (some r)) (.int .i64 k)).run Tryz.prog w= .ok (.tuple #[v0,.int .i64 st]) w1∧IV w w1 r∧
   ∀(w2:World) (v:Int),w2.heap[r]?=w1.heap[r]?→ ∃w3,(Instr.entryStore 38 (.map (some r)) (.int .i64 st) (.int .i64 v)).run Tryz.prog w2= .ok () w3∧O1 w3 r (Qg8 f k v)∧IV w2 w3 r:=by
 obtain⟨g,h1,h2⟩:=h
 have hz:(zeroValue 3).run Tryz.prog w= .ok (.int .i64 0) w:=by kernel_rfl
 obtain⟨v0,st,w1,a1,a2,a3⟩:=h1.entry Tryz.underlying38 Tryz.underlying3 hz k
 refine⟨v0,st,w1,a1,a2,fun w2 v h3=> ?_⟩
 obtain⟨w3,b1,b2,b3⟩:=a3 w2 (.int .i64 v) h3
 refine⟨w3,b1,⟨_,b2,fun j=> ?_⟩,b3⟩
 unfold Z7 Qg8
 by_cases e:j=k
 ·rw[if_pos e,if_pos e];rfl
 ·rw[if_neg e,if_neg e];exact h2 j
section
variable {w w':World} {D e L S:Nat} {A:Option Addr} {cap:Nat} {l:List Int} {c:Qn4} {F:Nat→Prop} {m:ZJ} {lots side lots' side':Int→Int} {since:Int} {hands:Bool}
theorem Qc9.lotsTo (h:Qc9 w D e L S A cap l c F m lots side since hands) (ht:IV w w' L) (hm:O1 w' L lots'):Qc9 w' D e L S A cap l c F m lots' side since hands:=by
 have hk:=ht.keeps
 exact⟨QJ.keeps h.box hk h.dl,h.eng.keeps hk (fun i hi e=>h.nL (e▸hi)),hm,h.side_.of_block (ht.block _ (fun e=>h.ls e.symm)),h.tab.keeps hk (fun g hg e=>(h.ad g hg).2.1 e),h.cfg,h.nD,h.nL,h.nS,h.nA,h.dl,h.ds,h.ls,h.ad⟩
theorem Qc9.sideTo (h:Qc9 w D e L S A cap l c F m lots side since hands) (ht:IV w w' S) (hm:O1 w' S side'):Qc9 w' D e L S A cap l c F m lots side' since hands:=by
 have hk:=ht.keeps
 exact⟨QJ.keeps h.box hk h.ds,h.eng.keeps hk (fun i hi e=>h.nS (e▸hi)),h.lots_.of_block (ht.block _ h.ls),hm,h.tab.keeps hk (fun g hg e=>(h.ad g hg).2.2 e),h.cfg,h.nD,h.nL,h.nS,h.nA,h.dl,h.ds,h.ls,h.ad⟩
theorem Qc9.boxTo {since':Int} {hands':Bool} (h:Qc9 w D e L S A cap l c F m lots side since hands) (hk:QK (fun i=>i=D) w w') (hb:QJ w' D 40 (Ji2 e L S A cap c since' hands')):Qc9 w' D e L S A cap l c F m lots side since' hands':=
 ⟨hb,h.eng.keeps hk (fun i hi e=>h.nD (e▸hi)),h.lots_.of_block (hk.block _ h.lots_.lt (fun e=>h.dl e.symm)),h.side_.of_block (hk.block _ h.side_.lt (fun e=>h.ds e.symm)),h.tab.keeps hk (fun g hg e=>(h.ad g hg).1 e),h.cfg,h.nD,h.nL,h.nS,h.nA,h.dl,h.ds,h.ls,h.ad⟩
theorem Qc9.sinceTo (h:Qc9 w D e L S A cap l c F m lots side since hands) (v:Int):Qc9 (w.setCell ⟨D,9,none⟩ (.int .i64 v)) D e L S A cap l c F m lots side v hands:=
 h.boxTo (QK.set_ w ⟨D,9,none⟩ _) (QJ.set_ h.box 9 _)
theorem Qc9.handsTo (h:Qc9 w D e L S A cap l c F m lots side since hands) (v:Bool):Qc9 (w.setCell ⟨D,10,none⟩ (.bool v)) D e L S A cap l c F m lots side since v:=
 h.boxTo (QK.set_ w ⟨D,10,none⟩ _) (QJ.set_ h.box 10 _)
theorem Qc9.cells (h:Qc9 w D e L S A cap l c F m lots side since hands):w.cell? ⟨D,0,none⟩=some (.pointer (some ⟨e,0,none⟩))∧w.cell? ⟨D,1,none⟩=some (.slice A 5 cap)∧w.cell? ⟨D,2,none⟩=some (.int .i64 c.st)∧w.cell? ⟨D,3,none⟩=some (.int .i64 c.dy)∧w.cell? ⟨D,4,none⟩=some (.int .i64 c.pr)∧w.cell? ⟨D,5,none⟩=some (.int .i64 c.tk)∧w.cell? ⟨D,6,none⟩=some (.int .i64 c.mo)∧w.cell? ⟨D,7,none⟩=some (.map (some L))∧w.cell? ⟨D,8,none⟩=some (.map (some S))∧w.cell? ⟨D,9,none⟩=some (.int .i64 since)∧w.cell? ⟨D,10,none⟩=some (.bool hands):=
 ⟨by rw[QJ.cell h.box];rfl,by rw[QJ.cell h.box];rfl,by rw[QJ.cell h.box];rfl,by rw[QJ.cell h.box];rfl,by rw[QJ.cell h.box];rfl,by rw[QJ.cell h.box];rfl,by rw[QJ.cell h.box];rfl,by rw[QJ.cell h.box];rfl,by rw[QJ.cell h.box];rfl,by rw[QJ.cell h.box];rfl,by rw[QJ.cell h.box];rfl⟩
end
def sinceN (q:Int) (m m':ZJ) (since:Int):Int:=if m'.ph=4 then(if q=2∧m.ph=4 then since+1 else since)else 0
structure U4 (q:Int) (m m':ZJ) (lots1 side1:Int→Int) (Fs:List JV) (since:Int) (hands hands1:Bool):Prop where
 good:ZY lots1 side1 Fs
 plain:Qg7 m' (JX lots1 Fs) side1
 bands:q=0→IY (fun la p=>X4 m.st m.dy m.an la p) m.la Fs∧(Fs≠ []→m.ph=3)
 cfg:YK m m'
 now:m'.now=m.now∨m'.now=m.now+1∧m.ph≠7
 time:hands1=false→hands=false∧V9 m' (sinceN q m m' since)
 end_:Y3 m'
 lts: ∀id,lots1 id≤30
section
variable {m:ZJ} {lots side:Int→Int} {since:Int} {hands:Bool}
theorem V9.sinceN {m':ZJ} (h:V9 m' since) (q:Int) (hq:q≠2):V9 m' (sinceN q m m' since):=by
 unfold Go.Proofs.YtnlngicnfegjgaaGreatDoor.sinceN
 by_cases h4:m'.ph=4
 ·rw[if_pos h4,if_neg (fun e=>hq e.1)];exact h
 ·rw[if_neg h4]
  have:=h.non h4;rw[←this];exact h
theorem U4.order (h:Qg7 m lots side) (he:Y3 m) (hl: ∀id,lots id≤30) (ht:hands=false→V9 m since) {o:QX} (hf:Qd5 o) (hq:o.qty≤30) (hls:XY (OK m o).L1 (OK m o).L2):
  U4 0 m (OK m o) (Jv4 m lots o) (Xd2 m side o) (Qd3 m o) since hands hands:=by
 obtain⟨h1,h2,h3,h4⟩:=Kj8 h hf hls
 obtain⟨t1,t2,-⟩:=Qu1 m o
 refine⟨h1,h4,fun _=>⟨h2,h3⟩,t1,.inl t2,fun e=>⟨e,((ht e).order h.ok_ o).sinceN 0 (by decide)⟩,he.order o,fun id=> ?_⟩
 unfold Jv4
 split
 ·unfold Qg8;split
  ·exact hq
  ·exact hl id
 ·exact hl id
theorem U4.cancel (h:Qg7 m lots side) (he:Y3 m) (hl: ∀id,lots id≤30) (ht:hands=false→V9 m since) (id:Int) (hls:XY (YJ m id).L1 (YJ m id).L2):
  U4 1 m (YJ m id) lots side [] since hands hands:=by
 obtain⟨a1,a2,a3,a4⟩:=Qy4 m id
 exact⟨ZY.nil _ _,by rw[OQ];exact h.cancel id hls,fun e=>absurd e (by decide),Qu0 m id,.inl a2,fun e=>⟨e,((ht e).cancel id).sinceN 1 (by decide)⟩,he.cancel id,hl⟩
theorem U4.tick (h:Qg7 m lots side) (he:Y3 m) (hl: ∀id,lots id≤30) (ht:hands=false→V9 m since) {Fs:List JV} (hF:Jh5 m Fs) (hls:XY (Q8 m).L1 (Q8 m).L2):
  U4 2 m (Q8 m) lots side Fs since hands hands:=by
 obtain⟨h1,h2⟩:=Kr5 h hF hls
 have hn:=Ji0 m
 refine⟨h1,h2,fun e=>absurd e (by decide),Qy3 m,(if h7:m.ph=7 then .inl (by rw[if_pos h7]at hn;exact hn)else .inr ⟨by rw[if_neg h7]at hn;exact hn,h7⟩),fun e=>⟨e, ?_⟩,he.tick,hl⟩
 have:=(ht e).tick h.ok_ he.now
 unfold Xy8 at this
 unfold Go.Proofs.YtnlngicnfegjgaaGreatDoor.sinceN
 simpa using this
theorem U4.halt (h:Qg7 m lots side) (he:Y3 m) (hl: ∀id,lots id≤30) (ht:hands=false→V9 m since):
  U4 3 m (Qe2 m) lots side [] since hands (hands ||decide (Jc0 m=0)):=by
 have hn:(Qe2 m).now=m.now:=by unfold Qe2;split<;>rfl
 refine⟨ZY.nil _ _,by rw[OQ];exact h.halt,fun e=>absurd e (by decide),Xq9 m,.inl hn,fun e=> ?_,he.halt,hl⟩
 rw[Bool.or_eq_false_iff,decide_eq_false_iff_not]at e
 refine⟨e.1, ?_⟩
 have hs:Qe2 m=m:=by
  unfold Jc0 at e;unfold Qe2
  by_cases h67:m.ph=6∨m.ph=7
  ·rw[if_pos h67]
  ·rw[if_neg h67]at e;exact absurd rfl e.2
 rw[hs]
 exact(ht e.1).sinceN 3 (by decide)
theorem Ks6 (m:ZJ):(Qa2 m).now=m.now:=by
 unfold Qa2
 split
 ·split
  ·rfl
  ·split
   ·exact(Qc1 m.pk {m with ph:=5}).2.2.2.2.2.2.2.2.2.2.1
   ·rfl
 ·rfl
theorem U4.open_ (h:Qg7 m lots side) (he:Y3 m) (hl: ∀id,lots id≤30) (ht:hands=false→V9 m since) (hls:XY (Qa2 m).L1 (Qa2 m).L2):
  U4 4 m (Qa2 m) lots side [] since hands (hands ||decide (Jn7 m=0)):=by
 have hn:=Ks6 m
 refine⟨ZY.nil _ _,by rw[OQ];exact h.open_ hls,fun e=>absurd e (by decide),Jv5 m,.inl hn,fun e=> ?_,he.open_,hl⟩
 rw[Bool.or_eq_false_iff,decide_eq_false_iff_not]at e
 refine⟨e.1, ?_⟩
 have hs:Qa2 m=m:=by
  unfold Jn7 at e;unfold Qa2
  by_cases h6:m.ph=6
  ·rw[if_pos h6]at e;exact absurd rfl e.2
  ·rw[if_neg h6]
 rw[hs]
 exact(ht e.1).sinceN 4 (by decide)
theorem U4.none_ (h:Qg7 m lots side) (he:Y3 m) (hl: ∀id,lots id≤30) (ht:hands=false→V9 m since) (q:Int) (hq:q≠2) (h0:q≠0):U4 q m m lots side [] since hands hands:=
 ⟨ZY.nil _ _,by rw[OQ];exact h,fun e=>absurd e h0,YK.refl m,.inl rfl,fun e=>⟨e,(ht e).sinceN q hq⟩,he,hl⟩
theorem Xs3 (Fs:List JV) {k:Nat} (hk:k<Fs.length):Fs=Fs.take k++Fs[k]::Fs.drop (k+1):=by
 rw[List.getElem_cons_drop];exact(List.take_append_drop k Fs).symm
theorem Ke3 {Fs:List JV} (h:ZY lots side Fs) {k:Nat} (hk:k<Fs.length):1≤Fs[k].n∧side Fs[k].b=1∧side Fs[k].s=2∧Fs[k].n≤JX lots (Fs.take k) Fs[k].b∧Fs[k].n≤JX lots (Fs.take k) Fs[k].s∧Fs[k].b≠Fs[k].s:=by
 obtain⟨a1,a2,a3,a4,a5⟩:=h _ _ _ (Xs3 Fs hk)
 exact⟨a1,a2,a3,a4,a5,fun e=>by rw[e]at a2;omega⟩
theorem Ke4 {al:Int→Int→Bool} {la:Int} {Fs:List JV} (h:IY al la Fs) {k:Nat} (hk:k<Fs.length):al (Jk7 la (Fs.take k)) Fs[k].p=true:=h _ _ _ (Xs3 Fs hk)
theorem Kl3 (la:Int) (Fs:List JV) {k:Nat} (hk:k<Fs.length):Jk7 la (Fs.take (k+1))=Fs[k].p:=by
 rw[List.take_succ_eq_append_getElem hk,Xq7]
theorem Kl4 (lots:Int→Int) (Fs:List JV) {k:Nat} (hk:k<Fs.length) (hne:Fs[k].b≠Fs[k].s):
  JX lots (Fs.take (k+1))=Qg8 (Qg8 (JX lots (Fs.take k)) Fs[k].b (JX lots (Fs.take k) Fs[k].b-Fs[k].n)) Fs[k].s (JX lots (Fs.take k) Fs[k].s-Fs[k].n):=by
 funext id
 rw[List.take_succ_eq_append_getElem hk]
 unfold Qg8 JX
 rw[Xq6]
 generalize Fs[k]=f at hne⊢
 obtain⟨fb,fs,fp,fn⟩:=f
 dsimp only at hne⊢
 generalize Z9 (Fs.take k)=tr
 by_cases h1:id=fs
 ·subst h1
  rw[if_pos rfl,if_neg hne,if_pos rfl];omega
 ·rw[if_neg h1,if_neg (fun e:fs=id=>h1 e.symm)]
  by_cases h2:id=fb
  ·subst h2
   rw[if_pos rfl,if_pos rfl];omega
  ·rw[if_neg h2,if_neg (fun e:fb=id=>h2 e.symm)];omega
theorem Ji3 {Fs:List JV} (h:ZY lots side Fs) (k:Nat) (id:Int):JX lots (Fs.take k) id≤lots id:=by
 have hp: ∀f∈Fs.take k,0≤f.n:=fun f hf=>by
  obtain⟨i,hi,e⟩:=List.mem_iff_getElem.1 (List.mem_of_mem_take hf);have:=(Ke3 h hi).1;rw[e]at this;omega
 have h1:0≤Qm9 (Fs.take k) id:=Jh9 (fun f hf=>by have:=hp f hf;split<;>omega)
 have h2:0≤Je1 (Fs.take k) id:=Jh9 (fun f hf=>by have:=hp f hf;split<;>omega)
 unfold JX Z9
 omega
end
theorem Xi9 {m:ZJ} {l:List Int} (hr:m.rows=Qi1 l 5) (t:Int):VJ m t=7↔X6 l 4≤t:=by
 unfold VJ
 rw[hr,Qf5]
 have g: ∀i,i<5→(Qi1 l 5).getD i (0,0)=(X6 l i,Jw4 i):=fun i hi=>Qz2 l hi
 have no7: ∀k,k≤4→(Ql9 (Qi1 l 5) t k).1≠7:=by
  intro k
  induction k with
  |zero=>intro _ e;exact absurd e (by simp[Ql9])
  |succ k ih=>
   intro hk
   by_cases h:((Qi1 l 5).getD k (0,0)).1≤t∨k=0
   ·rw[Kb6 h (by rw[Qf5];omega),g k (by omega)]
    have hc:k=0∨k=1∨k=2∨k=3:=by omega
    rcases hc with rfl|rfl|rfl|rfl
    ·exact(by decide:Jw4 0≠7)
    ·exact(by decide:Jw4 1≠7)
    ·exact(by decide:Jw4 2≠7)
    ·exact(by decide:Jw4 3≠7)
   ·rw[Xf2 (fun e=>h (.inl e)) (fun e=>h (.inr e))]
    exact ih (by omega)
 by_cases h:X6 l 4≤t
 ·rw[Jz2 (k:=4) (.inl (by rw[g 4 (by omega)];exact h)) (by rw[Qf5];omega),g 4 (by omega)]
  exact⟨fun _=>h,fun _=>rfl⟩
 ·rw[Xf2 (k:=4) (by rw[g 4 (by omega)];exact h) (by decide)]
  exact⟨fun e=>absurd e (no7 4 (by omega)),fun e=>absurd e h⟩
structure Qz3 (w0 w:World) (D e L S:Nat) (A:Option Addr) (cap:Nat) (l:List Int) (c:Qn4) (F:Nat→Prop) (m:ZJ) (lots side:Int→Int) (since:Int) (hands:Bool) (k:Nat):Prop where
 day:Qc9 w D e L S A cap l c F m lots side since hands
 plain:Qg7 m lots side
 time:hands=false→V9 m since
 now:m.now≤k
 fin:m.now≤X6 l 4
 end_:Y3 m
 lts: ∀id,lots id≤30
 snc:0≤since∧since≤k
 c0:VW (Jp0 l c)
 bel:Below w0.heap.size w0 w
 fl: ∀i,F i→w0.heap.size≤i
 dl:w0.heap.size≤D
 ll:w0.heap.size≤L
 sl:w0.heap.size≤S
 al: ∀g,QZ A=some g→w0.heap.size≤g
structure Y5 (w0 w:World) (D e L S:Nat) (A:Option Addr) (cap:Nat) (l:List Int) (c:Qn4) (X:Nat) (xs:Array Value) (F:Nat→Prop) (m:ZJ) (lots side:Int→Int) (since:Int) (hands:Bool):Prop where
 day:Qc9 w D e L S A cap l c F m lots side since hands
 box:QJ w X 31 xs
 nX: ¬F X
 xd:X≠D
 xl:X≠L
 xs_:X≠S
 bel:Below w0.heap.size w0 w
 fl: ∀i,F i→w0.heap.size≤i
 dl:w0.heap.size≤D
 ll:w0.heap.size≤L
 sl:w0.heap.size≤S
structure J3 (w:World) (D L S:Nat) (F:Nat→Prop) (A:Option Addr) (n c:Nat) (Fs:List JV):Prop where
 row:QY w A n c 89 4 (QW Qb1 Fs)
 len:Fs.length=n
 far: ∀g,QZ A=some g→ ¬F g∧g≠D∧g≠L∧g≠S
section
variable {w0 w w':World} {D e L S:Nat} {A A1:Option Addr} {cap n c1:Nat} {l:List Int} {c:Qn4} {X:Nat} {xs:Array Value} {F F' F1:Nat→Prop} {m m' m1:ZJ} {lots side lots1 side1 lots':Int→Int} {since:Int} {hands hands1:Bool} {k:Nat} {Fs:List JV}
theorem IV.trans_ {w1:World} {r:Nat} (h:IV w w1 r) (h':IV w1 w' r):IV w w' r:=
 ⟨h'.os.trans h.os,h'.tape.trans h.tape,h'.output.trans h.output,h'.size.trans h.size,fun k hk=>(h'.block k hk).trans (h.block k hk)⟩
theorem Qc9.tabLt (h:Qc9 w D e L S A cap l c F m lots side since hands): ∀g,QZ A=some g→g<w.heap.size:=by
 intro g hg
 obtain⟨b,off,hA,hlt,-⟩:=h.tab.2 (by omega)
 subst hA
 have:b=g:=by simpa [QZ]using hg
 omega
theorem Qz3.does (h:Qz3 w0 w D e L S A cap l c F m lots side since hands k) (cs:Array Value):Y5 w0 (w.alloc (.cells cs 31)) D e L S A cap l c w.heap.size cs F m lots side since hands:=by
 have hb:=(Below.refl w.heap.size w).alloc (Nat.le_refl _) (.cells cs 31)
 have h1:=QJ.lt h.day.box
 have h2:=h.day.lots_.lt
 have h3:=h.day.side_.lt
 exact⟨h.day.below hb,QJ.new w _ cs,fun hx=>by have:=h.day.eng.lt hx;omega,by omega,by omega,by omega,h.bel.trans (hb.mono h.bel.size),h.fl,h.dl,h.ll,h.sl⟩
theorem Y5.below (h:Y5 w0 w D e L S A cap l c X xs F m lots side since hands) (hb:Below w.heap.size w w'):Y5 w0 w' D e L S A cap l c X xs F m lots side since hands:=
 ⟨h.day.below hb,QJ.keep h.box hb,h.nX,h.xd,h.xl,h.xs_,h.bel.trans (hb.mono h.bel.size),h.fl,h.dl,h.ll,h.sl⟩
theorem Y5.step (h:Y5 w0 w D e L S A cap l c X xs F m lots side since hands) (hE:UK w' e F1 m1) (hs:XW w w' F F1) (hc:YK m m1):Y5 w0 w' D e L S A cap l c X xs F1 m1 lots side since hands:=by
 have hx:=QJ.lt h.box
 have hz:=h.bel.size
 refine⟨h.day.engTo hE hs h.day.tabLt hc,QJ.keeps h.box hs.1 h.nX,fun hx1=> ?_,h.xd,h.xl,h.xs_,h.bel.trans (hs.1.below h.fl hz),fun i hi=> ?_,h.dl,h.ll,h.sl⟩
 ·rcases hs.2 X hx1 with h1|h1
  ·exact h.nX h1
  ·omega
 ·rcases hs.2 i hi with h1|h1
  ·exact h.fl i h1
  ·omega
theorem Y5.engTo (h:Y5 w0 w D e L S A cap l c X xs F m lots side since hands) (ht:YZ w w' e F m1) (hc:YK m m1): ∃F1,Y5 w0 w' D e L S A cap l c X xs F1 m1 lots side since hands:=by
 obtain⟨F1,hE,hs⟩:=ht
 exact⟨F1,h.step hE hs hc⟩
theorem Y5.fillsE {P:List JV→Prop} {E:Int} {ev:Ending} (h:Y5 w0 w D e L S A cap l c X xs F m lots side since hands) (ht:J7 w w' e F P m1 E ev) (hc:YK m m1):
  ∃A1 c1 Fs F1,ev= .returned (.tuple #[.slice A1 (List.length Fs) c1,YV E])∧P Fs∧J3 w' D L S F1 A1 Fs.length c1 Fs∧Y5 w0 w' D e L S A cap l c X xs F1 m1 lots side since hands:=by
 obtain⟨A1,c1,Fs,h1,h2,h3,h4,F1,hE,hs,h5⟩:=ht
 have q1:=QJ.lt h.day.box
 have q2:=h.day.lots_.lt
 have q3:=h.day.side_.lt
 exact⟨A1,c1,Fs,F1,h1,h2,⟨h3,rfl,fun g hg=>⟨h5 g hg,by have:=h4 g hg;omega,by have:=h4 g hg;omega,by have:=h4 g hg;omega⟩⟩,h.step hE hs hc⟩
theorem J3.none_ (w:World) (D L S:Nat) (F:Nat→Prop):J3 w D L S F none 0 0 []:=⟨World.ownsRow_nil _ _ _ _,rfl,fun g hg=>by simp[QZ]at hg⟩
theorem J3.keeps {Z:Nat→Prop} (h:J3 w D L S F A1 n c1 Fs) (hk:QK Z w w') (hZ: ∀i,Z i→F i∨i=D∨i=L∨i=S):J3 w' D L S F A1 n c1 Fs:=
 ⟨h.row.keeps hk (fun g hg hz=>by
  obtain⟨h1,h2,h3,h4⟩:=h.far g hg;rcases hZ g hz with e|e|e|e
  ·exact h1 e
  ·exact h2 e
  ·exact h3 e
  ·exact h4 e),h.len,h.far⟩
theorem J3.below (h:J3 w D L S F A1 n c1 Fs) (hb:Below w.heap.size w w'):J3 w' D L S F A1 n c1 Fs:=⟨h.row.below hb,h.len,h.far⟩
theorem J3.turnL (h:J3 w D L S F A1 n c1 Fs) (ht:IV w w' L):J3 w' D L S F A1 n c1 Fs:=h.keeps ht.keeps (fun i e=> .inr (.inr (.inl e)))
theorem J3.turnS (h:J3 w D L S F A1 n c1 Fs) (ht:IV w w' S):J3 w' D L S F A1 n c1 Fs:=h.keeps ht.keeps (fun i e=> .inr (.inr (.inr e)))
theorem Y5.lotsTo (h:Y5 w0 w D e L S A cap l c X xs F m lots side since hands) (ht:IV w w' L) (hm:O1 w' L lots1):Y5 w0 w' D e L S A cap l c X xs F m lots1 side since hands:=
 ⟨h.day.lotsTo ht hm,QJ.keeps h.box ht.keeps h.xl,h.nX,h.xd,h.xl,h.xs_,h.bel.trans (ht.below h.ll),h.fl,h.dl,h.ll,h.sl⟩
theorem Y5.sideTo (h:Y5 w0 w D e L S A cap l c X xs F m lots side since hands) (ht:IV w w' S) (hm:O1 w' S side1):Y5 w0 w' D e L S A cap l c X xs F m lots side1 since hands:=
 ⟨h.day.sideTo ht hm,QJ.keeps h.box ht.keeps h.xs_,h.nX,h.xd,h.xl,h.xs_,h.bel.trans (ht.below h.sl),h.fl,h.dl,h.ll,h.sl⟩
theorem Y5.sinceTo (h:Y5 w0 w D e L S A cap l c X xs F m lots side since hands) (v:Int):Y5 w0 (w.setCell ⟨D,9,none⟩ (.int .i64 v)) D e L S A cap l c X xs F m lots side v hands:=
 ⟨h.day.sinceTo v,QJ.keeps h.box (QK.set_ w ⟨D,9,none⟩ _) h.xd,h.nX,h.xd,h.xl,h.xs_,h.bel.setCell h.dl _,h.fl,h.dl,h.ll,h.sl⟩
theorem Y5.handsTo (h:Y5 w0 w D e L S A cap l c X xs F m lots side since hands) (v:Bool):Y5 w0 (w.setCell ⟨D,10,none⟩ (.bool v)) D e L S A cap l c X xs F m lots side since v:=
 ⟨h.day.handsTo v,QJ.keeps h.box (QK.set_ w ⟨D,10,none⟩ _) h.xd,h.nX,h.xd,h.xl,h.xs_,h.bel.setCell h.dl _,h.fl,h.dl,h.ll,h.sl⟩
def Zb9 (w0 w:World) (D e L S:Nat) (A:Option Addr) (cap:Nat) (l:List Int) (c:Qn4) (X:Nat) (xs:Array Value) (q:Int) (m:ZJ) (since:Int) (hands:Bool) (v:Value):Prop:=
 ∃A1 c1 Fs F1 m1 lots1 side1 hands1,v= .slice A1 (List.length Fs) c1∧J3 w D L S F1 A1 Fs.length c1 Fs∧Y5 w0 w D e L S A cap l c X xs F1 m1 lots1 side1 since hands1∧U4 q m m1 lots1 side1 Fs since hands hands1
theorem Qz3.same (h:Qz3 w0 w D e L S A cap l c F m lots side since hands k) (d:Y5 w0 w' D e L S A cap l c X xs F m lots side since hands):Qz3 w0 w' D e L S A cap l c F m lots side since hands (k+1):=
 ⟨d.day,h.plain,h.time,by have:=h.now;omega,h.fin,h.end_,h.lts,by have:=h.snc;omega,h.c0,d.bel,d.fl,d.dl,d.ll,d.sl,h.al⟩
def Qd2 (q la:Int) (Fs:List JV) (k:Nat):Int:=if q=0 then Jk7 la (Fs.take k)else la
theorem Jw5 (q la:Int) (Fs:List JV):Qd2 q la Fs 0=la:=by unfold Qd2;split<;>rfl
theorem Jw6 {la:Int} {Fs:List JV} {k:Nat} (hk:k<Fs.length):Qd2 0 la Fs (k+1)=Fs[k].p:=by unfold Qd2;rw[if_pos rfl];exact Kl3 la Fs hk
theorem Ks7 {q:Int} (hq:q≠0) (la:Int) (Fs:List JV) (k k':Nat):Qd2 q la Fs k=Qd2 q la Fs k':=by unfold Qd2;rw[if_neg hq,if_neg hq]
theorem Ks8 {m:ZJ} {Fs:List JV} (hk:VW m) (h:IY (fun la p=>X4 m.st m.dy m.an la p) m.la Fs): ∀k,k≤Fs.length→(1≤Qd2 0 m.la Fs k∧Qd2 0 m.la Fs k≤1000000)∧ ∀hk:k<Fs.length,(V6 m.an m.st≤Fs[k].p∧Fs[k].p≤V7 m.an m.st)∧V6 (Qd2 0 m.la Fs k) m.dy≤Fs[k].p∧Fs[k].p≤V7 (Qd2 0 m.la Fs k) m.dy:=by
 intro k hkl
 have key: ∀hk:k<Fs.length,(V6 m.an m.st≤Fs[k].p∧Fs[k].p≤V7 m.an m.st)∧V6 (Qd2 0 m.la Fs k) m.dy≤Fs[k].p∧Fs[k].p≤V7 (Qd2 0 m.la Fs k) m.dy:=fun hk=>by
  have h1:=Ke4 h hk;unfold X4 Qu6 inB at h1;unfold Qd2;rw[if_pos rfl];simp only[Bool.and_eq_true,decide_eq_true_eq]at h1;omega
 refine⟨?_,key⟩
 rcases Nat.eq_zero_or_pos k with rfl|hp
 ·rw[Jw5];exact hk.la
 ·obtain⟨j,rfl⟩: ∃j,k=j+1:=⟨k-1,by omega⟩
  have hj:j<Fs.length:=by omega
  rw[Jw6 hj];have h1:=Ke4 h hj;unfold X4 Qu6 inB at h1;simp only[Bool.and_eq_true,decide_eq_true_eq]at h1;have hb:Q5 m.an m.st=true:=I8.2 ⟨hk.an.1,hk.an.2,hk.st.1,hk.st.2⟩;have h2:V6 m.an m.st=Xn2 m.an m.st:=if_pos hb;have h3:V7 m.an m.st=Js3 m.an m.st:=if_pos hb;rw[h2,h3]at h1;unfold Xn2 Js3 at h1;omega
theorem Qz3.next (h:Qz3 w0 w D e L S A cap l c F m lots side since hands k) {q:Int} (s:U4 q m m1 lots1 side1 Fs since hands hands1) (d:Y5 w0 w' D e L S A cap l c X xs F1 m1 (JX lots1 Fs) side1 (sinceN q m m1 since) hands1):
  Qz3 w0 w' D e L S A cap l c F1 m1 (JX lots1 Fs) side1 (sinceN q m m1 since) hands1 (k+1):=by
 refine⟨d.day,s.plain,fun e=>(s.time e).2,by have:=s.now;have:=h.now;omega, ?_,s.end_,fun id=> ?_, ?_,h.c0,d.bel,d.fl,d.dl,d.ll,d.sl,h.al⟩
 ·have hf:=h.fin
  rcases s.now with e|⟨e,h7⟩
  ·omega
  ·have h8: ¬X6 l 4≤m.now:=fun hx=>h7 (h.end_.ended.2 ((Xi9 h.day.cfg.rows m.now).2 hx))
   omega
 ·have h1:=Ji3 s.good Fs.length id
  rw[List.take_length]at h1;have:=s.lts id;omega
 ·have:=h.snc
  unfold sinceN
  split
  ·split<;>omega
  ·omega
end
theorem Ks9 {l:List Int} {c:Qn4} (h:VW (Jp0 l c)):Qg7 (Jp0 l c) (fun _=>0) (fun _=>0):=
 ⟨h,⟨fun o ho=>(by cases ho),List.nodup_nil,List.Pairwise.nil,List.Pairwise.nil⟩,fun e=>absurd e (by show¬((1:Int)=3);decide)⟩
theorem Ka2 (l:List Int) (c:Qn4):V9 (Jp0 l c) 0:=⟨fun e=>absurd e (by show¬((1:Int)=4);decide),fun _=>rfl⟩
theorem Xe5 (l:List Int):0<X6 l 4:=by
 have h1:X6 l 4=X6 l 3+Jo9 l 3:=rfl
 have:=Qr9 l 3 (by omega)
 have:=Xi8 l (i:=3) (by omega)
 omega
theorem Kl5 (l:List Int) (c:Qn4):Y3 (Jp0 l c):=
 ⟨Int.le_refl _,⟨fun e=>absurd e (by show¬((1:Int)=7);decide),fun e=>absurd ((Xi9 (m:=Jp0 l c) rfl 0).1 e) (by have:=Xe5 l;omega)⟩,fun e=>absurd e (by show¬((1:Int)=7);decide)⟩
theorem Kt0 {w w':World} {D e L S:Nat} {A:Option Addr} {cap:Nat} {l:List Int} {c:Qn4} {F:Nat→Prop} (hb:Below w.heap.size w w') (hd:Qc9 w' D e L S A cap l c F (Jp0 l c) (fun _=>0) (fun _=>0) 0 false) (hk:VW (Jp0 l c)) (hF: ∀i,F i→w.heap.size≤i) (h1:w.heap.size≤D) (h2:w.heap.size≤L) (h3:w.heap.size≤S) (h4: ∀g,QZ A=some g→w.heap.size≤g):
  Qz3 w w' D e L S A cap l c F (Jp0 l c) (fun _=>0) (fun _=>0) 0 false 0:=
 ⟨hd,Ks9 hk,fun _=>Ka2 l c,Int.le_refl _,Int.le_of_lt (Xe5 l),Kl5 l c,fun _=>(by show(0:Int)≤30;decide),⟨Int.le_refl _,Int.le_refl _⟩,hk,hb,hF,h1,h2,h3,h4⟩
theorem Qz3.below {w0 w w':World} {D e L S:Nat} {A:Option Addr} {cap:Nat} {l:List Int} {c:Qn4} {F:Nat→Prop} {m:ZJ} {lots side:Int→Int} {since:Int} {hands:Bool} {k:Nat} (h:Qz3 w0 w D e L S A cap l c F m lots side since hands k) (hb:Below w.heap.size w w'):Qz3 w0 w' D e L S A cap l c F m lots side since hands k:=
 ⟨h.day.below hb,h.plain,h.time,h.now,h.fin,h.end_,h.lts,h.snc,h.c0,h.bel.trans (hb.mono h.bel.size),h.fl,h.dl,h.ll,h.sl,h.al⟩
def Kx1 (w0 w:World) (D:Nat) (k:Nat):Prop:= ∃e L S A cap l c F m lots side since hands,Qz3 w0 w D e L S A cap l c F m lots side since hands k
structure Qv3 (w0 w:World) (D e L S:Nat) (A:Option Addr) (cap:Nat) (l:List Int) (c:Qn4) (F:Nat→Prop) (m:ZJ) (lots side:Int→Int) (since:Int) (hands:Bool):Prop where
 day:Qc9 w D e L S A cap l c F m lots side since hands
 ok_:VW m
 end_:Y3 m
 fin:m.now≤X6 l 4
 bel:Below w0.heap.size w0 w
 fl: ∀i,F i→w0.heap.size≤i
section
variable {w0 w w':World} {D e L S:Nat} {A:Option Addr} {cap:Nat} {l:List Int} {c:Qn4} {F:Nat→Prop} {m m1:ZJ} {lots side:Int→Int} {since:Int} {hands:Bool} {k:Nat}
theorem Qz3.toE (h:Qz3 w0 w D e L S A cap l c F m lots side since hands k):Qv3 w0 w D e L S A cap l c F m lots side since hands:=⟨h.day,h.plain.ok_,h.end_,h.fin,h.bel,h.fl⟩
theorem Qv3.below (h:Qv3 w0 w D e L S A cap l c F m lots side since hands) (hb:Below w.heap.size w w'):Qv3 w0 w' D e L S A cap l c F m lots side since hands:=
 ⟨h.day.below hb,h.ok_,h.end_,h.fin,h.bel.trans (hb.mono h.bel.size),h.fl⟩
theorem Qv3.step {F1:Nat→Prop} (h:Qv3 w0 w D e L S A cap l c F m lots side since hands) (hE:UK w' e F1 m1) (hs:XW w w' F F1) (hc:YK m m1) (h1:VW m1) (h2:Y3 m1) (h3:m1.now≤X6 l 4):Qv3 w0 w' D e L S A cap l c F1 m1 lots side since hands:=by
 have hz:=h.bel.size
 refine⟨h.day.engTo hE hs h.day.tabLt hc,h1,h2,h3,h.bel.trans (hs.1.below h.fl hz),fun i hi=> ?_⟩
 rcases hs.2 i hi with h4|h4
 ·exact h.fl i h4
 ·omega
theorem Qv3.in_ (h:Qv3 w0 w D e L S A cap l c F m lots side since hands):Qj3 m∧Qj3 (XQ m):=by
 have h1:=h.end_.now
 have h2:=h.fin
 have h3:=(Qr9 l 4 (by omega)).2
 exact⟨h.ok_.in_ ⟨h1,by omega⟩,h.ok_.next.in_ ⟨by show 0≤m.now+1;omega,by show m.now+1≤1000000000000;omega⟩⟩
theorem Qv3.live (h:Qv3 w0 w D e L S A cap l c F m lots side since hands) (hn:m.now<X6 l 4):m.ph≠7:=fun e=>by
 have:=(Xi9 h.day.cfg.rows m.now).1 (h.end_.ended.1 e)
 omega
theorem Qv3.over (h:Qv3 w0 w D e L S A cap l c F m lots side since hands) (hn: ¬m.now<X6 l 4):m.now=X6 l 4∧m.ph=7∧m.L1= []∧m.L2= []∧m.pk= []:=by
 have h1:=h.fin
 have h7:=h.end_.ended.2 ((Xi9 h.day.cfg.rows m.now).2 (by omega))
 exact⟨by omega,h7,h.end_.none_ h7⟩
theorem Qv3.tick (h:Qv3 w0 w D e L S A cap l c F m lots side since hands) (hn:m.now<X6 l 4) {ev:Ending} (ht:J7 w w' e F (Jh5 m) (Q8 m) (Jh4 m) ev):
  ∃A1 n1 c1 F1,ev= .returned (.tuple #[.slice A1 n1 c1,.nilIface])∧Qv3 w0 w' D e L S A cap l c F1 (Q8 m) lots side since hands∧(Q8 m).now=m.now+1:=by
 have h7:=h.live hn
 have hnow:=Ji0 m
 rw[if_neg h7]at hnow
 obtain⟨A1,c1,Fs,h1,h2,h3,h4,F1,hE,hs,h5⟩:=ht
 have e0:Jh4 m=0:=if_neg h7
 rw[e0,UW]at h1
 exact⟨A1,_,c1,F1,h1,h.step hE hs (Qy3 m) (h.ok_.tick hE.lists) h.end_.tick (by omega),hnow⟩
theorem Jw7 (h:m.ph=7):X9 m ⟨900,1,1,5,1⟩=6∧OK m ⟨900,1,1,5,1⟩=m:=by
 have e:X9 m ⟨900,1,1,5,1⟩=6:=by
  unfold X9;rw[if_neg (by decide),if_neg (by decide),if_pos (by rw[h];decide)]
 exact⟨e,by unfold OK;rw[e,if_neg (by decide)]⟩
end
abbrev Ke5:=Int×QX
def Kt1 (x:Ke5):List Value:= .int .i64 x.1::U7 x.2
theorem Zc0 {w:World} {b off len:Nat} {l:List Ke5} (h:XZ w Kt1 6 (some ⟨b,off,none⟩) len l) {i:Nat} (hi:i<l.length):
  w.cell? ⟨b,off+i*6,none⟩=some (.int .i64 l[i].1)∧w.cell? ⟨b,off+i*6+1,none⟩=some (.int .i64 l[i].2.id)∧w.cell? ⟨b,off+i*6+2,none⟩=some (.int .i64 l[i].2.side)∧w.cell? ⟨b,off+i*6+3,none⟩=some (.int .i64 l[i].2.kind)∧w.cell? ⟨b,off+i*6+4,none⟩=some (.int .i64 l[i].2.price)∧w.cell? ⟨b,off+i*6+5,none⟩=some (.int .i64 l[i].2.qty):=
 ⟨h.at_ hi (j:=0) rfl,h.at_ hi (j:=1) rfl,h.at_ hi (j:=2) rfl,h.at_ hi (j:=3) rfl,h.at_ hi (j:=4) rfl,h.at_ hi (j:=5) rfl⟩
def Kt2 (rows:List (List Int)):List Ke5:=rows.map fun r=>(r.getD 0 0,⟨r.getD 1 0,r.getD 2 0,r.getD 3 0,r.getD 4 0,r.getD 5 0⟩)
theorem Ka3 {w:World} {A:Option Addr} {len cap:Nat} {rows:List (List Int)} (h:Jc5 w 6 A len cap rows):XZ w Kt1 6 A len (Kt2 rows):=by
 obtain⟨h1,_,_,h4,_,h6⟩:=h
 refine⟨by simp[Kt2,h1],fun hl=> ?_⟩
 obtain⟨b,off,hA,hb,hc⟩:=h6 hl
 refine⟨b,off,hA,hb,fun i hi j u hu=> ?_⟩
 have hi':i<rows.length:=by simpa [Kt2]using hi
 have hr:=(h4 rows[i] (List.getElem_mem _)).1
 have e:(Kt2 rows)[i]=(rows[i].getD 0 0,⟨rows[i].getD 1 0,rows[i].getD 2 0,rows[i].getD 3 0,rows[i].getD 4 0,rows[i].getD 5 0⟩):=by simp[Kt2]
 rw[e]at hu
 have key: ∀j (hj:j<rows[i].length),w.cell? ⟨b,off+i*6+j,none⟩=some (.int .i64 (rows[i].getD j 0)):=by
  intro j hj;rw[hc i hi' j hj];simp[List.getD_eq_getElem?_getD,hj]
 match j,hu with
 |0,hu=>cases hu;exact key 0 (by omega)
 |1,hu=>cases hu;exact key 1 (by omega)
 |2,hu=>cases hu;exact key 2 (by omega)
 |3,hu=>cases hu;exact key 3 (by omega)
 |4,hu=>cases hu;exact key 4 (by omega)
 |5,hu=>cases hu;exact key 5 (by omega)
end Go.Proofs.YtnlngicnfegjgaaGreatDoor
