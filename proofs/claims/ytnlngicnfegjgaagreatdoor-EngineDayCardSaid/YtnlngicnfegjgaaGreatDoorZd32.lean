/- Contracts and walks that the law's proof needs. -/
import Derived.WalkKit
import Derived.WalkLawsBesides
import Derived.WalkSpells
import Derived.Deep.LoopGhost
import Derived.Deep.AppendLies
import Derived.Deep.RegionHeld3
import Derived.Deep.QuietTactic
import Derived.BigQuiet
import Derived.StillTactics
import Derived.OwnWalk
import Derived.Deep.DeepCutAuto
import Derived.Deep.CutBlock
import Derived.Test.YtnlngicnfegjgaaGreatDoorZd30
import Derived.Test.YtnlngicnfegjgaaGreatDoorZd23
import Derived.Deep.RegionLaw
import Derived.Shelf.Abstract
import Derived.Test.YtnlngicnfegjgaaGreatDoorZd14
import Derived.Test.YtnlngicnfegjgaaGreatDoorZd13
import Derived.Test.YtnlngicnfegjgaaGreatDoorZd8
import Derived.Test.YtnlngicnfegjgaaGreatDoorZd29
import Derived.StillTailTactics
import Derived.Test.YtnlngicnfegjgaaGreatDoorZd24
import Derived.Test.YtnlngicnfegjgaaGreatDoorZd20
set_option linter.unusedVariables false
set_option maxRecDepth 100000
set_option maxHeartbeats 8000000
namespace Go.Proofs.YtnlngicnfegjgaaGreatDoor
open Go.ChangeMaps Go.RowKit
def Za4 (i:Int):List Value:= [.int .i64 i]
theorem Xj0 {w:World} {base:Nat} {e:TypeId} {size:Nat} {v:Value} {n:Nat} {xs:List Value} (h:w.ownsRow base e size v n xs) {b:Nat} (hb:b<base):some b≠v.ownBlock:=by
 rcases h.2 with⟨rfl,_⟩|⟨g,cap,cur,rfl,hg,_⟩
 ·simp[Value.ownBlock]
 ·simp[Value.ownBlock];omega
theorem Jw8 {w w':World} {S:Nat→Prop} {base:Nat} {e:TypeId} {size:Nat} {v:Value} {n:Nat} {xs:List Value} (h:w.ownsRow base e size v n xs) (hk:QK S w w') (hn: ∀g,v.ownBlock=some g→ ¬S g):w'.ownsRow base e size v n xs:=by
 refine⟨h.1, ?_⟩
 rcases h.2 with h1|⟨g,cap,cur,hv,h1,h2,h3⟩
 ·exact .inl h1
 ·subst hv
  exact .inr ⟨g,cap,cur,rfl,h1,(hk.block g (Array.getElem?_eq_some_iff.1 h2).1 (hn g rfl)).trans h2,h3⟩
theorem Xe6 (W:World) {k:Nat} (hk:k<5):(W.alloc (.cells #[.int .i64 3,.int .i64 4,.int .i64 60,.int .i64 6,.int .i64 1] 3)).cell? ⟨W.heap.size,k,none⟩=some (.int .i64 (Jw3 k)):=by
 have h:=QJ.new W 3 #[.int .i64 3,.int .i64 4,.int .i64 60,.int .i64 6,.int .i64 1]
 have hc:k=0∨k=1∨k=2∨k=3∨k=4:=by omega
 rcases hc with rfl|rfl|rfl|rfl|rfl<;>(rw[QJ.cell h];rfl)
theorem Ky5 {gg X g n c:Nat} (h:X<gg) (hg:(Value.slice (some ⟨gg,0,none⟩) n c).ownBlock=some g) (hX:g=X):False:=by
 have:gg=g:=by simpa [Value.ownBlock]using hg
 omega
def Zd1 (w w2 wx:World) (X Y:Nat) (st dy pr tk mo:Int) (l:List Int) (k:Nat):Prop:=
 ∃T ct,Below w.heap.size w wx∧w2.heap.size≤wx.heap.size∧QJ wx X 36 #[.slice T k ct,.int .i64 st,.int .i64 dy,.int .i64 pr,.int .i64 tk,.int .i64 mo]∧QJ wx Y 3 #[.int .i64 1,.int .i64 2,.int .i64 3,.int .i64 5,.int .i64 7]∧wx.ownsRow w2.heap.size 33 2 (.slice T k ct) k (OY (Qi1 l k))
theorem Zd2 {wx:World} {Y k:Nat} (h:QJ wx Y 3 #[.int .i64 1,.int .i64 2,.int .i64 3,.int .i64 5,.int .i64 7]) (hk:k<5):wx.cell? ⟨Y,0+k,none⟩=some (.int .i64 (Jw4 k))∧wx.cell? ⟨Y,k,none⟩=some (.int .i64 (Jw4 k)):=by
 have hc:k=0∨k=1∨k=2∨k=3∨k=4:=by omega
 rcases hc with rfl|rfl|rfl|rfl|rfl<;>exact⟨by rw[QJ.cell h];rfl,by rw[QJ.cell h];rfl⟩
theorem Ka4 (a b p t mo:Int) (A:Option Addr) (len cap:Nat) (l:List Int) (w:World) (h:XZ w Za4 1 A len l) (hm:len≤10):
  Calls Tryz.prog 6 #[.int .i64 a,.int .i64 b,.int .i64 p,.int .i64 t,.int .i64 mo,.slice A len cap] w fun e w'=>Below w.heap.size w w'∧ ∃(D E L S:Nat) (T:Option Addr) (ct:Nat) (F:Nat→Prop) (c:Qn4),e= .returned (.pointer (some ⟨D,0,none⟩))∧Qc9 w' D E L S T ct l c F (Jp0 l c) (fun _=>0) (fun _=>0) 0 false∧VW (Jp0 l c)∧(∀i,F i→w.heap.size≤i)∧w.heap.size≤D∧w.heap.size≤L∧w.heap.size≤S∧ ∀g,QZ T=some g→w.heap.size≤g:=by
 obtain⟨st,est⟩: ∃x,pk a 3000=x:=⟨_,rfl⟩
 obtain⟨dy,edy⟩: ∃x,pk b 1500=x:=⟨_,rfl⟩
 obtain⟨pr,epr⟩: ∃x,pk p 200=x:=⟨_,rfl⟩
 obtain⟨tk,etk⟩: ∃x,pk t 5=x:=⟨_,rfl⟩
 obtain⟨mm,emm⟩: ∃x,pk mo 4=x:=⟨_,rfl⟩
 have HIn:Hid ((0≤st∧st<3000)∧(0≤dy∧dy<1500)∧(0≤pr∧pr<200)∧(0≤tk∧tk<5)∧(0≤mm∧mm<4)):=QQ (by
  rw[←est,←edy,←epr,←etk,←emm];exact⟨⟨Z6 _ _ (by omega),Qo6 _ _ (by omega)⟩,⟨Z6 _ _ (by omega),Qo6 _ _ (by omega)⟩,⟨Z6 _ _ (by omega),Qo6 _ _ (by omega)⟩,⟨Z6 _ _ (by omega),Qo6 _ _ (by omega)⟩,⟨Z6 _ _ (by omega),Qo6 _ _ (by omega)⟩⟩)
 have h20:IntKind.i64.wrap (20+pr)=20+pr:=by have:=HIn.out;rw[IntWalk.i64_left];exact IntWalk.wrap64_in _ (by omega)
 have h1t:IntKind.i64.wrap (1+tk)=1+tk:=by have:=HIn.out;rw[IntWalk.i64_left];exact IntWalk.wrap64_in _ (by omega)
 have P1:=QQ (fun W:World=>Qa4 a 3000 W (by omega) (by omega))
 have P2:=QQ (fun W:World=>Qa4 b 1500 W (by omega) (by omega))
 have P3:=QQ (fun W:World=>Qa4 p 200 W (by omega) (by omega))
 have P4:=QQ (fun W:World=>Qa4 t 5 W (by omega) (by omega))
 have P5:=QQ (fun W:World=>Qa4 mo 4 W (by omega) (by omega))
 rw[est]at P1
 rw[edy]at P2
 rw[epr]at P3
 rw[etk]at P4
 rw[emm]at P5
 clear est edy epr etk emm
 have HEl:=QQ h
 clear h
 go_enter Tryz.func6,Tryz.ntmps6
 go_wp2_with fail
 refine(P1.out _).mono ?_
 rintro e w' ⟨rfl,rfl⟩
 go_wp2_with fail
 refine(P2.out _).mono ?_
 rintro e w' ⟨rfl,rfl⟩
 go_wp2_with fail
 refine(P3.out _).mono ?_
 rintro e w' ⟨rfl,rfl⟩
 go_wp2_with fail
 refine(P4.out _).mono ?_
 rintro e w' ⟨rfl,rfl⟩
 go_wp2_with fail
 refine(P5.out _).mono ?_
 rintro e w' ⟨rfl,rfl⟩
 go_upto_region 2 with fail
 clear h20 h1t P1 P2 P3 P4 P5
 obtain⟨c,hc⟩: ∃c:Qn4,c=⟨st,dy,20+pr,1+tk,mm⟩:=⟨_,rfl⟩
 have HCin:Hid ((0≤c.st∧c.st<3000)∧(0≤c.dy∧c.dy<1500)∧(20≤c.pr∧c.pr<220)∧(1≤c.tk∧c.tk<6)∧(0≤c.mo∧c.mo<4)):=QQ (by have:=HIn.out;subst hc;dsimp only;omega)
 obtain⟨e1,e2,e3,e4,e5⟩:st=c.st∧dy=c.dy∧20+pr=c.pr∧1+tk=c.tk∧mm=c.mo:=by subst hc;exact⟨rfl,rfl,rfl,rfl,rfl⟩
 rw[e1,e2,e3,e4,e5]
 clear hc e1 e2 e3 e4 e5 HIn
 obtain⟨cst,e1⟩: ∃x,c.st=x:=⟨_,rfl⟩
 obtain⟨cdy,e2⟩: ∃x,c.dy=x:=⟨_,rfl⟩
 obtain⟨cpr,e3⟩: ∃x,c.pr=x:=⟨_,rfl⟩
 obtain⟨ctk,e4⟩: ∃x,c.tk=x:=⟨_,rfl⟩
 obtain⟨cmo,e5⟩: ∃x,c.mo=x:=⟨_,rfl⟩
 rw[e1,e2,e3,e4,e5]
 have HCe:=QQ (And.intro e1 (And.intro e2 (And.intro e3 (And.intro e4 e5))))
 clear e1 e2 e3 e4 e5
 have hb1:Below w.heap.size w (w.alloc (.cells #[.slice none 0 0,.int .i64 cst,.int .i64 cdy,.int .i64 cpr,.int .i64 ctk,.int .i64 cmo] 36)):=(Below.refl _ w).alloc (Nat.le_refl _) _
 have hX:=QJ.new w 36 #[.slice none 0 0,.int .i64 cst,.int .i64 cdy,.int .i64 cpr,.int .i64 ctk,.int .i64 cmo]
 obtain⟨w1,ew1⟩: ∃W,w.alloc (.cells #[.slice none 0 0,.int .i64 cst,.int .i64 cdy,.int .i64 cpr,.int .i64 ctk,.int .i64 cmo] 36)=W:=⟨_,rfl⟩
 obtain⟨X,eX⟩: ∃g,w.heap.size=g:=⟨_,rfl⟩
 rw[ew1]at hb1 hX⊢
 rw[eX]at hX⊢
 have HX0:=QQ (Nat.le_of_eq eX)
 clear ew1
 have hb2:Below w1.heap.size w1 (w1.alloc (.cells #[.int .i64 1,.int .i64 2,.int .i64 3,.int .i64 5,.int .i64 7] 3)):=(Below.refl _ w1).alloc (Nat.le_refl _) _
 have hY:=QJ.new w1 3 #[.int .i64 1,.int .i64 2,.int .i64 3,.int .i64 5,.int .i64 7]
 obtain⟨w2,ew2⟩: ∃W,w1.alloc (.cells #[.int .i64 1,.int .i64 2,.int .i64 3,.int .i64 5,.int .i64 7] 3)=W:=⟨_,rfl⟩
 obtain⟨Y,eY⟩: ∃g,w1.heap.size=g:=⟨_,rfl⟩
 rw[ew2]at hb2 hY
 rw[eY]at hY
 have HY0:=QQ (Nat.le_of_eq eY)
 have HX2:=QQ (QJ.keep hX hb2)
 have HB2:=QQ (hb1.trans (hb2.mono hb1.size))
 have HY:=QQ hY
 have hXY:X<Y:=by have:=QJ.lt hX;omega
 have HXY:=QQ hXY
 clear hb1 hb2 hX hY hXY
 go_wp2_with fail
 try rw[ew2]
 try rw[eY]
 clear ew2 eX eY
 go_loopg [14,34] 5 (fun g s14 s34 wx=> ∃k:Nat,k≤5∧g=5-k∧s14= .int .i64 (X6 l k)∧s34= .int .i64 k∧Zd1 w w2 wx X Y cst cdy cpr ctk cmo l k)
 case atStart=>exact⟨0,Nat.zero_le _,rfl,rfl,rfl,none,0,HB2.out,Nat.le_refl _,HX2.out,HY.out,World.ownsRow_nil _ _ _ _⟩
 case round=>
  obtain⟨k,hk,rfl,rfl,rfl,T,ct,hB,hS,hX,hY,hO⟩:=hrel;have HB:=QQ hB;have HS:=QQ hS;have HX:=QQ hX;have HYr:=QQ hY;have HO:=QQ hO;clear hB hS
  by_cases hlt:k<5
  ·have hltz:(k:Int)<5:=by omega
   have hk0:(0:Int)≤(k:Int):=by omega
   obtain⟨p0,p1⟩:=Zd2 hY hlt;have x0:wr.cell? ⟨X,0,none⟩=some (.slice T k ct):=by rw[QJ.cell hX];rfl
   have f0:=QJ.frozen hX 0;obtain⟨ph,eph⟩: ∃x,Jw4 k=x:=⟨_,rfl⟩;obtain⟨wn,ewn⟩: ∃x,X6 l k=x:=⟨_,rfl⟩;rw[eph]at p0 p1;rw[ewn];have HEp:=QQ eph;have HEw:=QQ ewn;clear eph ewn hX hY hO;obtain⟨i0,hi0,hz0,hz1,hz2⟩:=info_parts Xk3;have hXl:X<w2.heap.size:=QJ.lt HX2.out;have hYl:Y<w2.heap.size:=QJ.lt HY.out;have hne:some X≠(Value.slice T k ct).ownBlock:=Xj0 HO.out hXl;have hneY:some Y≠(Value.slice T k ct).ownBlock:=Xj0 HO.out hYl;have hszr:=HS.out;have hXr:=QJ.lt HX.out;have hHX:=HX.out;have hHY:=HYr.out;go_upto_region 6 with fail
   have h63w:IntKind.i64.wrap (wn+1)=wn+1:=by have:=Qr9 l k (by omega);rw[HEw.out]at this;rw[IntWalk.i64_left];exact IntWalk.wrap64_in _ (by omega)
   have hoA:(wr.alloc (.cells #[.int .i64 wn,.int .i64 ph] 33)).ownsRow w2.heap.size 33 2 (.slice T k ct) k (OY (Qi1 l k)):=HO.out.alloc _;have hnw: ∀(j:Nat) (u:Value),[Value.int .i64 wn,.int .i64 ph][j]?=some u→(wr.alloc (.cells #[.int .i64 wn,.int .i64 ph] 33)).cell? ((⟨wr.heap.size,0,none⟩:Addr).add j)=some u:=World.news_of_block (cs:= #[.int .i64 wn,.int .i64 ph]) (t:=33) (fr:=(0,0)) (heap_alloc_new wr _);have HoA:=QQ hoA;have HnW:=QQ hnw;clear hoA hnw;go_wp2_with ((with_reducible (refine wpList_append_lies _ rfl (.tmp 40) (.tmp 44) 34 rfl w2.heap.size 33 i0 _ 2 16 Tryz.underlying34 hi0 hz0 hz1 hz2 (by with_unfolding_all rfl) (by omega) (.slice T k ct) k (OY (Qi1 l k)) (by with_unfolding_all rfl) HoA.out ⟨wr.heap.size,0,none⟩ 1 1 [.int .i64 wn,.int .i64 ph] (by with_unfolding_all rfl) (by with_unfolding_all rfl) HnW.out (by simp[Value.oneCell']) (by omega) (by unfold maxLen;omega) (by omega) (by simp;omega) (wr.heap.size+1) (by simp) ?_));intro gg cap' w4 hown hgrow hat hlt4;have hk4:QJ w4 X 36 #[.slice T k ct,.int .i64 cst,.int .i64 cdy,.int .i64 cpr,.int .i64 ctk,.int .i64 cmo]:=((hgrow.block X (by simp;omega) hne).trans (QJ.alloc hHX _));have f4:=QJ.frozen hk4 0;have c4:w4.cell? ⟨X,0,none⟩=some (.slice T k ct):=by rw[QJ.cell hk4];rfl)
   ·have hkl:k<len:=by assumption
    have hkL:k<l.length:=by have:=HEl.out.1;omega
    obtain⟨bA,oA,hA⟩: ∃b off,A=some ⟨b,off,none⟩:=by obtain⟨b,off,h1,_⟩:=HEl.out.2 (by omega);exact⟨b,off,h1⟩
    subst hA;have hb4:Below w.heap.size w w4:=(HB.out.alloc (HB.out.size) _).grown hgrow (by simp;have:=HB.out.size;omega) (fun q hq=>by have h1:w2.heap.size≤q:=Nat.le_of_not_lt (fun h=>Xj0 HO.out h hq.symm);have:=HB2.out.size;omega);have hb5:Below w.heap.size w (w4.setCell ⟨X,0,none⟩ (.slice (some ⟨gg,0,none⟩) (k+1) cap')):=hb4.setCell HX0.out _;have hX5:=QJ.set_ hk4 0 (.slice (some ⟨gg,0,none⟩) (k+1) cap');have hY4:QJ w4 Y 3 #[.int .i64 1,.int .i64 2,.int .i64 3,.int .i64 5,.int .i64 7]:=((hgrow.block Y (by simp;have:=QJ.lt hHY;omega) hneY).trans (QJ.alloc hHY _));obtain⟨w5,ew5⟩: ∃W,w4.setCell ⟨X,0,none⟩ (.slice (some ⟨gg,0,none⟩) (k+1) cap')=W:=⟨_,rfl⟩;rw[ew5]at hb5 hX5⊢;have a0:=(HEl.out.below hb5 (Nat.le_refl _)).at_ hkL (j:=0) rfl;obtain⟨av,eav⟩: ∃x,l[k]=x:=⟨_,rfl⟩;rw[eav]at a0;have a1:w5.cell? ⟨bA,oA+k,none⟩=some (.int .i64 av):=by simpa using a0
    have HOn:Hid (w4.ownsRow w2.heap.size 33 2 (.slice (some ⟨gg,0,none⟩) (k+1) cap') (k+1) (OY (Qi1 l (k+1)))):=QQ (by
     rw[Xe4,HEp.out,HEw.out];unfold OY at hown⊢;rw[List.flatMap_append];exact hown)
    have HGg:Hid (X<gg):=QQ (by
     rcases hown.2 with⟨h1,-⟩|⟨g,c0,cur,h1,h2,-⟩
     ·cases h1
     ·cases h1;have:=HX2.out;have:=hXl;omega)
    have HB5:=QQ hb5;have HO5:Hid (w5.ownsRow w2.heap.size 33 2 (.slice (some ⟨gg,0,none⟩) (k+1) cap') (k+1) (OY (Qi1 l (k+1)))):=QQ (by rw[←ew5];exact Jw8 HOn.out (QK.set_ w4 ⟨X,0,none⟩ _) (fun g hg hX=>Ky5 HGg.out hg hX));have HSz:Hid (w2.heap.size≤w5.heap.size):=QQ (by rw[←ew5];simp;have:=hlt4;have:=hgrow.size;have:=HS.out;simp at*;omega);have HY5:Hid (QJ w5 Y 3 #[.int .i64 1,.int .i64 2,.int .i64 3,.int .i64 5,.int .i64 7]):=QQ (by rw[←ew5];exact QJ.far hY4 (by show Y≠X;have:=HXY.out;omega) _);have hkc:=Xe6 w5 hlt;have hkc2:=Xe6 w5.drew hlt;have hPk:=fun W=>Qa4 av (Jw3 k) W (Qr8 hlt).1 (by have:=(Qr8 hlt).2;omega)
    have hpp:=And.intro (Z6 av (Jw3 k) (Qr8 hlt).1) (And.intro (Qo6 av (Jw3 k) (Qr8 hlt).1) (Qr8 hlt).2);obtain⟨pp,epp⟩: ∃x,pk av (Jw3 k)=x:=⟨_,rfl⟩;rw[epp]at hPk hpp;have hwp:IntKind.i64.wrap (wn+1+pp)=wn+1+pp:=by have:=Qr9 l k (by omega);rw[HEw.out]at this;rw[IntWalk.i64_left];exact IntWalk.wrap64_in _ (by omega)
    have HNx:Hid (X6 l (k+1)=wn+1+pp):=QQ (by show X6 l k+Jo9 l k=_;unfold Jo9;rw[if_pos hkL,HEw.out,List.getD_eq_getElem?_getD,List.getElem?_eq_getElem hkL,Option.getD_some,eav,epp];omega);obtain⟨kk,ekk⟩: ∃x,Jw3 k=x:=⟨_,rfl⟩;rw[ekk]at hkc hkc2 hPk;clear epp ekk hpp eav;clear hb4 hb5 c4 f4 x0 f0 p0 p1 a0;go_upto_region 9 with fail
    refine XK (fun t=> [].contains t) (fun W=>W.cell? ⟨bA,oA+k,none⟩=some (.int .i64 av)) (by kernel_rfl) (by simpa using a1) (fun hS=> ?_);refine tM 0 (.int .i64 (wn+1)) ?_;refine tM 1 (.slice (some ⟨bA,oA,none⟩) len cap) ?_;refine tM 2 (.int .i64 (k:Int)) ?_;refine tM 3 (.pointer (some ⟨bA,oA+k,none⟩)) ?_;refine tM 4 (.int .i64 av) ?_;refine tM 6 (.int .i64 (k:Int)) ?_;refine oM 5 fun K1 hK1=> ?_
    go_simp;have hb6:Below w5.heap.size w5 (w5.alloc (.cells #[.int .i64 3,.int .i64 4,.int .i64 60,.int .i64 6,.int .i64 1] 3)).drew:=Below.drew ((Below.refl _ _).alloc (Nat.le_refl _) _);have hk6:(w5.alloc (.cells #[.int .i64 3,.int .i64 4,.int .i64 60,.int .i64 6,.int .i64 1] 3)).drew.cell? ⟨w5.heap.size,k,none⟩=some (.int .i64 kk):=hkc;obtain⟨w6,ew6⟩: ∃W,(w5.alloc (.cells #[.int .i64 3,.int .i64 4,.int .i64 60,.int .i64 6,.int .i64 1] 3)).drew=W:=⟨_,rfl⟩;obtain⟨Z,eZ⟩: ∃g,w5.heap.size=g:=⟨_,rfl⟩;have HS56:=QQ hb6;rw[ew6]at hb6 hk6 HS56;rw[eZ]at hk6;rw[ew6,eZ];have a6:w6.cell? ⟨bA,oA+k,none⟩=some (.int .i64 av):=(HS56.out.cell (p:=⟨bA,oA+k,none⟩) (World.block_lt_of_cell? _ _ a1)).trans a1;refine hK1 _ _ (fun _=>a6) ?_;clear hK1 hS ew6 eZ hkc hkc2 hb6;refine Jo2 (S':=fun W=>W.cell? ⟨bA,oA+k,none⟩=some (.int .i64 av)∧W.cell? ⟨Z,k,none⟩=some (.int .i64 kk)) (fun _ h=>h.1) _ ?_;have hS:=And.intro a6 hk6;refine tM 7 (.pointer (some ⟨Z,k,none⟩)) ?_;refine tM 8 (.int .i64 kk) ?_;refine oM 9 fun K2 hK2=> ?_
    go_simp
    go_at_call 34
    refine(hPk _).mono ?_;rintro e w' ⟨rfl,rfl⟩;refine hK2 _ _ (fun _=>hS) ?_;clear hK2;refine tM 10 (.int .i64 (wn+1+pp)) ?_;refine tM 11 (.int .i64 (wn+1+pp)) ?_;refine ZZ (by kernel_rfl) ?_ _;go_wp2_with fail
    go_roundg (5- (k+1))
    case measure=>omega
    case rel=>exact⟨k+1,by omega,rfl,by rw[HNx.out],by go_num,some ⟨gg,0,none⟩,cap',HB5.out.trans (HS56.out.mono HB5.out.size),by have h1:=HS56.out.size;have h2:=HSz.out;omega,QJ.keep hX5 HS56.out,QJ.keep HY5.out HS56.out,Jw8 HO5.out (QK.of_below HS56.out (fun _=>False)) (fun _ _=>id)⟩
   ·have hkl: ¬k<len:=by assumption
    have hkL: ¬k<l.length:=by have:=HEl.out.1;omega
    have hb4:Below w.heap.size w w4:=(HB.out.alloc (HB.out.size) _).grown hgrow (by simp;have:=HB.out.size;omega) (fun q hq=>by have h1:w2.heap.size≤q:=Nat.le_of_not_lt (fun h=>Xj0 HO.out h hq.symm);have:=HB2.out.size;omega);have hb5:Below w.heap.size w (w4.setCell ⟨X,0,none⟩ (.slice (some ⟨gg,0,none⟩) (k+1) cap')):=hb4.setCell HX0.out _;have hX5:=QJ.set_ hk4 0 (.slice (some ⟨gg,0,none⟩) (k+1) cap');have hY4:QJ w4 Y 3 #[.int .i64 1,.int .i64 2,.int .i64 3,.int .i64 5,.int .i64 7]:=((hgrow.block Y (by simp;have:=QJ.lt hHY;omega) hneY).trans (QJ.alloc hHY _));obtain⟨w5,ew5⟩: ∃W,w4.setCell ⟨X,0,none⟩ (.slice (some ⟨gg,0,none⟩) (k+1) cap')=W:=⟨_,rfl⟩;rw[ew5]at hb5 hX5⊢;have HOn:Hid (w4.ownsRow w2.heap.size 33 2 (.slice (some ⟨gg,0,none⟩) (k+1) cap') (k+1) (OY (Qi1 l (k+1)))):=QQ (by
     rw[Xe4,HEp.out,HEw.out];unfold OY at hown⊢;rw[List.flatMap_append];exact hown)
    have HGg:Hid (X<gg):=QQ (by
     rcases hown.2 with⟨h1,-⟩|⟨g,c0,cur,h1,h2,-⟩
     ·cases h1
     ·cases h1;have:=HX2.out;have:=hXl;omega)
    have HB5:=QQ hb5;have HO5:Hid (w5.ownsRow w2.heap.size 33 2 (.slice (some ⟨gg,0,none⟩) (k+1) cap') (k+1) (OY (Qi1 l (k+1)))):=QQ (by rw[←ew5];exact Jw8 HOn.out (QK.set_ w4 ⟨X,0,none⟩ _) (fun g hg hX=>Ky5 HGg.out hg hX));have HSz:Hid (w2.heap.size≤w5.heap.size):=QQ (by rw[←ew5];simp;have:=hlt4;have:=hgrow.size;have:=HS.out;simp at*;omega);have HY5:Hid (QJ w5 Y 3 #[.int .i64 1,.int .i64 2,.int .i64 3,.int .i64 5,.int .i64 7]):=QQ (by rw[←ew5];exact QJ.far hY4 (by show Y≠X;have:=HXY.out;omega) _);have HNx:Hid (X6 l (k+1)=wn+1):=QQ (by show X6 l k+Jo9 l k=_;unfold Jo9;rw[if_neg hkL,HEw.out];omega);clear hb4 hb5 c4 f4 x0 f0 p0 p1
    go_roundg (5- (k+1))
    case measure=>omega
    case rel=>exact⟨k+1,by omega,rfl,by rw[HNx.out],by go_num,some ⟨gg,0,none⟩,cap',HB5.out,HSz.out,hX5,HY5.out,HO5.out⟩
  ·obtain rfl:k=5:=by omega
   have hltz: ¬((5:Nat):Int)<5:=by omega
   have hltz2: ¬(5:Int)<5:=by omega
   clear hlt hY;obtain⟨x0,x1,x2,x3,x4,x5⟩:=Xi3 hX;obtain⟨gT,hT⟩: ∃g,T=some ⟨g,0,none⟩:=by
    rcases hO.2 with⟨-,h0⟩|⟨g,c0,cur,h1,-⟩
    ·cases h0
    ·cases h1;exact⟨g,rfl⟩
   subst hT;have hPr:O2 wr (some ⟨gT,0,none⟩) 5 ct (Qi1 l 5):=O2.of_own hO;have HPr:=QQ hPr;have hgT:w2.heap.size≤gT∧gT<wr.heap.size:=by have:=World.ownsRow.lt hO gT rfl;exact this
   have HgT:=QQ hgT;clear hX hO hPr hgT;go_wp2_with fail
   refine(Jw2 (some ⟨gT,0,none⟩) 5 ct (Qi1 l 5) cst cdy cpr ctk cmo _ HPr.out (by omega) (Kx0 l) (by have h1:=HCin.out;obtain⟨e1,e2,e3,e4,e5⟩:=HCe.out;rw[e1,e2,e3,e4,e5]at h1;rw[Bool.and_eq_true,I8,I8];omega) (by have h1:=HCin.out;obtain⟨e1,e2,e3,e4,e5⟩:=HCe.out;rw[e1,e2,e3,e4,e5]at h1;omega)).mono ?_;rintro e w6 ⟨hb6,hok,E,F,rfl,hE,hF⟩;have HX6:=QQ (QJ.keep HX.out hb6);obtain⟨x0,x1,x2,x3,x4,x5⟩:=Xi3 HX6.out;go_upto_region 14 with fail
   have hmm:= @run_makeMap Tryz.prog;have hb7:Below w6.heap.size w6 (w6.alloc (.map #[] 0)):=(Below.refl _ _).alloc (Nat.le_refl _) _;have hL:O1 (w6.alloc (.map #[] 0)) w6.heap.size (fun _=>0):=⟨fun _=>none,Qv2.made _,fun _=>rfl⟩;obtain⟨w7,ew7⟩: ∃W,w6.alloc (.map #[] 0)=W:=⟨_,rfl⟩;obtain⟨L,eL⟩: ∃g,w6.heap.size=g:=⟨_,rfl⟩;have HL6:=QQ eL;rw[ew7]at hb7 hL;rw[eL]at hL;have hb8:Below w7.heap.size w7 (w7.alloc (.map #[] 0)):=(Below.refl _ _).alloc (Nat.le_refl _) _;have hS:O1 (w7.alloc (.map #[] 0)) w7.heap.size (fun _=>0):=⟨fun _=>none,Qv2.made _,fun _=>rfl⟩;obtain⟨w8,ew8⟩: ∃W,w7.alloc (.map #[] 0)=W:=⟨_,rfl⟩;obtain⟨S,eS⟩: ∃g,w7.heap.size=g:=⟨_,rfl⟩;have HS7:=QQ eS;rw[ew8]at hb8 hS;rw[eS]at hS;have hb9:Below w8.heap.size w8 (w8.alloc (.cells (Ji2 E L S (some ⟨gT,0,none⟩) ct ⟨cst,cdy,cpr,ctk,cmo⟩ 0 false) 40)):=(Below.refl _ _).alloc (Nat.le_refl _) _;have hD:=QJ.new w8 40 (Ji2 E L S (some ⟨gT,0,none⟩) ct ⟨cst,cdy,cpr,ctk,cmo⟩ 0 false);have HL:=QQ hL;have HSm:=QQ hS;have HB7:=QQ hb7;have HB8:=QQ hb8;have HB9:=QQ hb9;have HD:=QQ hD;have HE:=QQ hE;have HF:=QQ hF;have HOk:=QQ hok;have HB6:=QQ hb6;clear hL hS hb7 hb8 hb9 hD hE hF hok hb6;go_wp2_with fail
   go_ret;have q6:=HB6.out.size;have q7:=HB7.out.size;have q8:=HB8.out.size;have qL:=HL6.out;have qS:=HS7.out;have lL:=HL.out.lt;have lS:=HSm.out.lt;have qB:=HB.out.size;have q2:=HB2.out.size;have hgT:=HgT.out;have hFl: ∀i,F i→wr.heap.size≤i∧i<w6.heap.size:=fun i hi=>⟨HF.out i hi,HE.out.lt hi⟩
   have hb68:=HB7.out.trans (HB8.out.mono q7);have hb69:=hb68.trans (HB9.out.mono hb68.size);have hbr9:=HB6.out.trans (hb69.mono q6);refine⟨HB.out.trans (hbr9.mono qB),w8.heap.size,E,L,S,some ⟨gT,0,none⟩,ct,F,⟨cst,cdy,cpr,ctk,cmo⟩,rfl,⟨HD.out,HE.out.below hb69,HL.out.of_block ((HB9.out.block L (by omega)).trans (HB8.out.block L (by omega))),HSm.out.of_block (HB9.out.block S (by omega)),HPr.out.below hbr9 (Nat.le_refl _),YK.refl _,fun h=> ?_,fun h=> ?_,fun h=> ?_,fun g hg h=> ?_,by omega,by omega,by omega,fun g hg=> ?_⟩,HOk.out,fun i hi=> ?_,by omega,by omega,by omega,fun g hg=> ?_⟩
   ·have:=hFl _ h;omega
   ·have:=hFl _ h;omega
   ·have:=hFl _ h;omega
   ·have h1:=hFl _ h
    have h2:gT=g:=by simpa [QZ]using hg
    omega
   ·have h2:gT=g:=by simpa [QZ]using hg
    omega
   ·have:=hFl _ hi;omega
   ·have h2:gT=g:=by simpa [QZ]using hg
    omega
end Go.Proofs.YtnlngicnfegjgaaGreatDoor
namespace Go.Proofs.YtnlngicnfegjgaaGreatDoor
open Go.RowKit
theorem Xs4 (w:World) (b n c i j:Nat) (jz:Int) (hjz:jz=j) (qs:List QX) (h:QY w (some ⟨b,0,none⟩) n c 29 5 (QW U7 qs)) (hn:n≤100000) (hij:i<j) (hj:j≤n):
  Calls Tryz.prog 66 #[.slice (some ⟨b,0,none⟩) n c,.int .i64 i,.int .i64 jz] w fun e w'=>
   e= .returned (.slice (some ⟨b,0,none⟩) (i+ (n-j)) c)∧QY w' (some ⟨b,0,none⟩) (i+ (n-j)) c 29 5 (QW U7 (qs.take i++qs.drop j))∧QK (fun x=>x=b) w w':=by
 subst hjz
 obtain⟨hnc,hcm⟩:=h.cap
 obtain⟨i0,hi0,hz0,hz1,hz2⟩:=info_parts Qm5
 have hl:qs.length=n:=by have:=h.1;rw[OJ Q7]at this;omega
 have hfl:(QW U7 qs).length=n*5:=h.1
 obtain⟨news,hnews⟩: ∃news,news=(QW U7 qs).drop (j*5):=⟨_,rfl⟩
 have hlen:news.length=(n-j)*5:=by rw[hnews,List.length_drop,hfl];omega
 have hR:QY w.drew (some ⟨b,0,none⟩) n c 29 5 (QW U7 qs):=h.below (Below.drew (Below.refl _ w))
 obtain⟨A,hA,hsrc⟩: ∃A:Addr,(if c=j then some (⟨b,0,none⟩:Addr)else some ⟨b,j*5,none⟩)=some A∧Hid (∀t u,news[t]?=some u→w.drew.cell? (A.add t)=some u):=by
  by_cases hcj:c=j
  ·refine⟨⟨b,0,none⟩,by simp[hcj],fun t u hu=> ?_⟩
   have h0:news.length=0:=by rw[hlen];omega
   rw[List.length_eq_zero_iff.1 h0]at hu;simp at hu
  ·refine⟨⟨b,j*5,none⟩,by simp[hcj],fun t u hu=> ?_⟩
   rw[U6];rw[hnews,List.getElem?_drop]at hu;obtain⟨g,hg,hc⟩:=hR.cell hu
   cases hg;exact hc
 have s1:Hid (news.length=(n-j)*5):=hlen
 have s2:Hid (∀u∈news,u.oneCell'=true):=by
  intro u hu;rw[hnews]at hu;exact Qi4 Qv6 qs u (List.mem_of_mem_drop hu)
 have s3:Hid (∀t,t<news.length→(w.drew.cell? ⟨b,0+i*5+t,none⟩).isSome=true∧w.drew.frozen? ⟨b,0+i*5+t,none⟩=false):=by
  intro t ht;rw[hlen]at ht;exact⟨hR.some_ (by omega),hR.frozen _⟩
 obtain⟨W1,hW1⟩: ∃W1,W1=w.drew.setCells b (0+i*5) news:=⟨_,rfl⟩
 have hR1:QY W1 (some ⟨b,0,none⟩) n c 29 5 (Z0 (QW U7 qs) (i*5) news):=by rw[hW1,Nat.zero_add];exact hR.sets _ _ _ _
 obtain⟨vs,hvl,hcl⟩:=Qd6 (P:=Tryz.prog) W1 47 29 0 (.agg #[.int .i64 0,.int .i64 0,.int .i64 0,.int .i64 0,.int .i64 0]) 5 Tryz.underlying47 (fun _=>by kernel_rfl) rfl (by omega) (by intro v hv;simp[Value.cells]at hv;rcases hv with rfl|rfl|rfl|rfl|rfl<;>rfl) b ((i+ (n-j))*5) (n- (i+ (n-j))) (c- (i+ (n-j))) (by omega)
  (fun x hx=>hR1.some_ (by omega)) (fun x hx=>hR1.frozen _)
 have hp:=hR1.pop (i+ (n-j)) (by omega)
 rw[Qj8 _ _ _ (by rw[hlen,hfl];omega),hnews]at hp
 have hsc:=Qs3 (QW U7 qs) (i*5) (j*5) (by omega) (by omega)
 rw[hfl,show i*5+ (n*5-j*5)=(i+ (n-j))*5 by omega]at hsc
 rw[hsc,Jd1 Q7 _ _ _ (by omega)]at hp
 have hK:QK (fun x=>x=b) w W1:=by
  rw[hW1];exact(QK.of_below (Below.drew (Below.refl _ w)) _).trans (QK.setCells _ _ _ _) (fun i h=> .inl h)
 have HP:=QQ hp
 have HK:=QQ hK
 have hW:Hid (W1=w.drew.setCells b (0+i*5) news):=hW1
 have hic:i≤c:=by omega
 have hjc:j≤c:=by omega
 clear hp hK hW1 hsc hR1 hR hlen hnews hfl hl h
 go_enter Tryz.func66,Tryz.ntmps66
 go_wp2_with fail
 go_region_law (refine step_append_room rfl (.tmp 22) (.tmp 25) 47 rfl 29 i0 5 Tryz.underlying47 hi0 hz1 b 0 i c (by simp[Act.eval,Act.put]) A (n-j) (c-j) news (by simp[Act.eval,Act.put]) s1.out hsrc.out s2.out (by omega) s3.out ?_;rw[←hW.out])
 go_wp2
 go_ret
 exact⟨rfl,QY.sets_past _ _ _ HP.out (Nat.le_refl _),HK.out.trans (QK.setCells _ _ _ _) (fun i h=> .inl h)⟩
def Zc1 (w:World) (S:Nat→Prop) (g:FuncId) (lb:Array Value) (F:QX→Bool):Prop:=
 ∀W p,QK S w W→Calls Tryz.prog g (#[KQ p]++lb) W fun e w'=>e= .returned (.bool (F p))∧Below W.heap.size W w'
theorem Ka5 (g:FuncId) (lb:Array Value) (F:QX→Bool) (eg: ∀args w,(callFunc g args).run Tryz.prog w= .ok (.enter g args) w) (A:Option Addr) (n c:Nat) (ps:List QX) (w:World) (S:Nat→Prop)
  (hp:Zc1 w S g lb F) (h:XZ w U7 5 A n ps) (hm:n≤1000000):
  Calls Tryz.prog 64 #[.slice A n c,.func (.func g) #[] lb] w fun e w'=>Below w.heap.size w w'∧
   (((∀i (hi:i<ps.length),F ps[i]=false)∧e= .returned (.int .i64 (-1)))∨ ∃(k:Nat) (hk:k<ps.length),F ps[k]=true∧(∀i (hi:i<ps.length),i<k→F ps[i]=false)∧e= .returned (.int .i64 k)):=by
 have hl:=h.1
 have HP:=QQ hp
 have HL:=QQ hl
 have HH:=QQ h
 clear hp hl h
 go_enter Tryz.func64,Tryz.ntmps64
 go_wp2
 go_loopg [5,8] n (fun gg _ s8 wr=> ∃kk:Nat,kk≤n∧gg=n-kk∧s8= .int .i64 kk∧Below w.heap.size w wr∧Hid (∀i (hi:i<ps.length),i<kk→F ps[i]=false))
 case atStart=>exact⟨0,Nat.zero_le _,rfl,rfl,Below.refl _ w,QQ fun i _ hi=>absurd hi (Nat.not_lt_zero _)⟩
 case round=>
  obtain⟨kk,hkk,rfl,rfl,hB,HA⟩:=hrel
  by_cases hlt:kk<n
  ·obtain⟨b,off,rfl,_,_⟩:=HH.out.2 (by omega)
   have hkl:kk<ps.length:=by have:=HL.out;omega
   obtain⟨x0,x1,x2,x3,x4⟩:=Xe8 (HH.out.below hB (Nat.le_refl _)) hkl;have hcall:=HP.out wr ps[kk] (QK.of_below hB _);have hltz:(kk:Int)< (n:Int):=by omega
   obtain⟨p,E⟩: ∃p,Hid (ps[kk]=p):=⟨_,QQ rfl⟩;rw[E.out]at x0 x1 x2 x3 x4 hcall;obtain⟨p0,p1,p2,p3,p4⟩:=p;unfold KQ at hcall;dsimp only at x0 x1 x2 x3 x4 hcall
   cases hq:F ⟨p0,p1,p2,p3,p4⟩with
   |true=>
    rw[hq]at hcall;have HQ:=QQ hq;clear hq;go_wp2_with (go_at_fn g;refine hcall.mono ?_;rintro e w' ⟨rfl,hb'⟩)
    go_ret;exact⟨hB.trans (hb'.mono hB.size),.inr ⟨kk,hkl,by rw[E.out];exact HQ.out,HA.out,rfl⟩⟩
   |false=>
    rw[hq]at hcall;have HQ:=QQ hq;clear hq;go_wp2_with (go_at_fn g;refine hcall.mono ?_;rintro e w' ⟨rfl,hb'⟩)
    go_roundg (n- (kk+1))
    case measure=>omega
    case rel=>
     refine⟨kk+1,by omega,rfl,by go_num,hB.trans (hb'.mono hB.size),QQ fun i hi hik=> ?_⟩
     by_cases e:i=kk
     ·subst e
      rw[E.out];exact HQ.out
     ·exact HA.out i hi (by omega)
  ·have hltz: ¬(kk:Int)< (n:Int):=by omega
   obtain rfl:kk=n:=by omega
   go_wp2;go_ret;exact⟨hB,.inl ⟨fun i hi=>HA.out i hi (by have:=HL.out;omega),rfl⟩⟩
theorem Ka6 {w w':World} {p:Addr} {v:Value} (h:w.cell? p=some v) (hb:Below w.heap.size w w'):w'.cell? p=some v:=(hb.cell (World.block_lt_of_cell? _ _ h)).trans h
theorem Xs5 (w:World) (B:Nat) (id:Int) (hB:QJ w B 3 #[.int .i64 id]) (o:QX):
  Calls Tryz.prog 65 #[KQ o,.pointer (some ⟨B,0,none⟩)] w fun e w'=>e= .returned (.bool (o.id ==id))∧Below w.heap.size w w':=by
 have hb1:Below w.heap.size w (w.alloc (.cells #[.int .i64 o.id,.int .i64 o.side,.int .i64 o.kind,.int .i64 o.price,.int .i64 o.qty] 29)):=(Below.refl _ w).alloc (Nat.le_refl _) _
 have HB1:=QQ hb1
 have x1:w.cell? ⟨B,0,none⟩=some (.int .i64 id):=by rw[QJ.cell hB];rfl
 have x2:=Ka6 x1 hb1
 have hl:=QJ.lt hB
 clear hB hb1
 unfold KQ
 go_enter Tryz.func65,Tryz.ntmps65
 go_wp2
 go_ret
 exact⟨rfl,HB1.out⟩
theorem Ka7 {l:List QX} {p:QX→Bool} {k:Nat} (hk:k<l.length) (h:p l[k]=true) (hn: ∀i (hi:i<l.length),i<k→p l[i]=false):l.findIdx p=k∧l.any p=true:=by
 refine⟨(List.findIdx_eq hk).2 ⟨h,fun j hj=>hn j (by omega) hj⟩,List.any_eq_true.2 ⟨_,List.getElem_mem hk,h⟩⟩
theorem Jo4 {m:ZJ} {id:Int} (h7:m.ph≠7) (hn:Ju6 m id=false):Ql3 m id=(if(Qb3 (Qc0 m) id).isSome=true then 0 else 7)∧YJ m id=Ju9 m id:=by
 unfold Ql3 YJ
 rw[if_neg h7,if_neg h7,hn]
 exact⟨rfl,rfl⟩
theorem Kl6 {m:ZJ} {id:Int} {k:Nat} (h7:m.ph≠7) (hn:Ju6 m id=true) (hk:(m.pk.findIdx fun o=>o.id ==id)=k):Ql3 m id=0∧YJ m id= {m with pk:=Jk3 m.pk k}:=by
 unfold Ql3 YJ
 rw[if_neg h7,if_neg h7,if_pos hn,if_pos hn,hk]
 exact⟨rfl,rfl⟩
theorem Xs6 {w:World} {e:Nat} {F:Nat→Prop} {m:ZJ} (h:UK w e F m) (hpk:m.pk.length≤100000) (id:Int):
  Calls Tryz.prog 22 #[.pointer (some ⟨e,0,none⟩),.int .i64 id] w fun ev w'=>ev= .returned (YV (Ql3 m id))∧YZ w w' e F (YJ m id):=by
 have hE:=h
 obtain⟨cs,tb,bb,bk,im,T,tc,Al,lc,lv,bu,se,Ap,pc,es,mc,G,own,hM,hF⟩:=h
 have hb1:Below w.heap.size w (w.alloc (.cells #[.int .i64 id] 3)):=(Below.refl _ w).alloc (Nat.le_refl _) _
 have hB:=QJ.new w 3 #[.int .i64 id]
 obtain⟨wa,ew1⟩: ∃W,w.alloc (.cells #[.int .i64 id] 3)=W:=⟨_,rfl⟩
 obtain⟨B,eB⟩: ∃g,w.heap.size=g:=⟨_,rfl⟩
 rw[ew1]at hb1 hB
 rw[eB]at hB
 have hM1:=hM.below hb1
 have hE1:=hE.below hb1
 have hBo: ∀k,¬own B k:=fun k hk=>by have:=hM.ok.lt B k hk;omega
 have c14:=hM1.cell hM1.ec.c14
 have c12:=hM1.cell hM1.ec.c12
 have f12:=hM1.frozen 12
 have b0:wa.cell? ⟨B,0,none⟩=some (.int .i64 id):=by rw[QJ.cell hB];rfl
 obtain⟨ph,hph⟩: ∃p,m.ph=p:=⟨_,rfl⟩
 obtain⟨n,hn⟩: ∃n,m.pk.length=n:=⟨_,rfl⟩
 rw[hph]at c14
 rw[hn]at c12 hpk
 have HPh:=QQ hph
 have HN:=QQ hn
 have HE1:=QQ hE1
 have HB1:=QQ hb1
 have HM1:=QQ hM1
 have HB:=QQ hB
 have HBo:=QQ hBo
 have HF:=QQ hF
 clear hE hM hF hb1 hB hM1 hE1 hBo hph hn
 by_cases p7:ph=7
 ·have d7:=J4 p7
  have HS:Hid (Ql3 m id=6∧YJ m id=m):=QQ (by unfold Ql3 YJ;rw[HPh.out,if_pos p7,if_pos p7];exact⟨rfl,rfl⟩);clear p7;go_enter Tryz.func22,Tryz.ntmps22
  go_upto_region 1 with fail
  try rw[ew1]
  try rw[eB]
  clear ew1 eB;go_wp2_with fail
  go_ret;rw[HS.out.1,HS.out.2];exact⟨rfl,YZ.pre HB1.out (YZ.same HE1.out (Below.refl _ _))⟩
 ·have d7:=UQ p7
  have H7:=QQ p7;clear p7;have hix:=Ka5 65 #[.pointer (some ⟨B,0,none⟩)] (fun o=>o.id ==id) (Go.Proofs.enters_of Tryz.func65 (by kernel_rfl) rfl) Ap n pc m.pk wa (fun _=>False) (fun W p hk=>Xs5 W B id (QJ.keeps HB.out hk (fun x=>x)) p) (by rw[←HN.out];exact XZ.of_row Q7 (by omega) HM1.out.park) (by omega);have HIx:=QQ hix;clear hix;go_enter Tryz.func22,Tryz.ntmps22
  go_upto_region 1 with fail
  try rw[ew1]
  try rw[eB]
  clear ew1 eB;go_wp2_with fail
  refine HIx.out.mono ?_;rintro ev w1 ⟨hb2,hor⟩;have hM2:=HM1.out.below hb2;have HE2:=QQ (HE1.out.below hb2);have HM2:=QQ hM2;have HB2:=QQ (HB1.out.trans (hb2.mono HB1.out.size));have HBb:=QQ (QJ.keep HB.out hb2);clear c14 c12 f12 b0 hb2 HIx HE1 HM1 HB1 HB;rcases hor with⟨hno,rfl⟩|⟨k,hk,hy,hbf,rfl⟩
  ·have HNo:Hid (Ju6 m id=false):=QQ (by
    unfold Ju6;rw[Bool.eq_false_iff];intro hany;obtain⟨o,ho,ho2⟩:=List.any_eq_true.1 hany;obtain⟨i,hi,rfl⟩:=List.mem_iff_getElem.1 ho;rw[hno i hi]at ho2
    cases ho2)
   clear hno;have b0:w1.cell? ⟨B,0,none⟩=some (.int .i64 id):=by rw[QJ.cell HBb.out];rfl
   have c8:=hM2.cell hM2.ec.c8;have hor: ∃(oo:QX) (er:Value),(∀W,Below w1.heap.size w1 W→Calls Tryz.prog 67 #[.pointer (some ⟨bk,0,none⟩),.int .i64 id] W fun ev w'=>Below W.heap.size W w'∧ev= .returned (.tuple #[KQ oo,er]))∧((Qb3 (Qc0 m) id).isSome=true∧er= .nilIface∨(Qb3 (Qc0 m) id).isSome=false∧er=YV 7):=by
    cases hg:Qb3 (Qc0 m) id with
    |none=>
     refine⟨noO,YV 7,fun W hW=>(Jc3 W bk G m.L1 m.L2 (HM2.out.below hW).book id).mono ?_,.inr ⟨rfl,rfl⟩⟩;rintro ev w' ⟨h1,h2|⟨o,h2,-⟩⟩
     ·exact⟨h1,h2.2⟩
     ·have h3:Qb3 (m.L1++m.L2) id=none:=hg
      rw[h3]at h2;cases h2
    |some o=>
     refine⟨o,.nilIface,fun W hW=>(Jc3 W bk G m.L1 m.L2 (HM2.out.below hW).book id).mono ?_,.inl ⟨rfl,rfl⟩⟩;rintro ev w' ⟨h1,h2|⟨o',h2,h3⟩⟩
     ·have h3:Qb3 (m.L1++m.L2) id=some o:=hg
      rw[h3]at h2;cases h2.1
     ·have h4:Qb3 (m.L1++m.L2) id=some o:=hg
      rw[h4]at h2;cases h2;exact⟨h1,h3⟩
   obtain⟨⟨o1,o2,o3,o4,o5⟩,er,hor1,hor2⟩:=hor;unfold KQ at hor1;dsimp only at hor1;have HOr:=QQ hor1;have HEr:=QQ hor2;clear hor1 hor2 hM2;go_upto_region 7 with fail
   go_cut [7] (fun s7 wx=>s7=er∧Below w1.heap.size w1 wx)
   case first=>
    refine XK (fun t=> [].contains t) (fun W=>W.cell? ⟨e,8,none⟩=some (.pointer (some ⟨bk,0,none⟩))∧W.cell? ⟨B,0,none⟩=some (.int .i64 id)) (by kernel_rfl) ⟨c8,b0⟩ (fun hS0=> ?_);refine tM 0 (.pointer (some ⟨e,0,none⟩)) ?_;refine tM 1 (.pointer (some ⟨e,0,none⟩)) ?_;refine tM 2 (.pointer (some ⟨e,8,none⟩)) ?_;refine tM 3 (.pointer (some ⟨bk,0,none⟩)) ?_;refine tM 4 (.int .i64 id) ?_;refine Jo3 (i:=5) (j:=9) (by kernel_rfl) ?_ ?_
    ·skip
     refine opM 5 rfl (fun K1 hK1=> ?_);go_simp;refine(HOr.out _ (Below.drew (Below.refl _ _))).mono ?_;rintro ev w2 ⟨hq,rfl⟩;have hb2:Below w1.heap.size w1 w2:=(Below.drew (Below.refl _ _)).trans hq;have hS2:(fun W:World=>W.cell? ⟨e,8,none⟩=some (.pointer (some ⟨bk,0,none⟩))∧W.cell? ⟨B,0,none⟩=some (.int .i64 id)) w2:=⟨QV c8 hb2,QV b0 hb2⟩;refine hK1 _ _ (fun _=>hS2) ?_;clear hK1 hS0 hq;refine tM 6 (.tuple #[.agg #[.int .i64 o1,.int .i64 o2,.int .i64 o3,.int .i64 o4,.int .i64 o5],er]) ?_;refine tM 7 (.agg #[.int .i64 o1,.int .i64 o2,.int .i64 o3,.int .i64 o4,.int .i64 o5]) ?_;refine tM 8 er ?_;refine oM 9 fun K2 hK2=> ?_
     go_simp;have hb3:Below w1.heap.size w1 (w2.alloc (.cells #[.int .i64 0,.int .i64 0,.int .i64 0,.int .i64 0,.int .i64 0] 29)):=hb2.alloc hb2.size _;have hy3:=QJ.new w2 29 #[.int .i64 0,.int .i64 0,.int .i64 0,.int .i64 0,.int .i64 0];have hYl:w1.heap.size≤w2.heap.size:=hb2.size;obtain⟨Y,eY⟩: ∃g,w2.heap.size=g:=⟨_,rfl⟩;obtain⟨w3,ew3⟩: ∃W,w2.alloc (.cells #[.int .i64 0,.int .i64 0,.int .i64 0,.int .i64 0,.int .i64 0] 29)=W:=⟨_,rfl⟩;rw[ew3]at hb3 hy3⊢;rw[eY]at hy3 hYl⊢;have hS3:(fun W:World=>W.cell? ⟨e,8,none⟩=some (.pointer (some ⟨bk,0,none⟩))∧W.cell? ⟨B,0,none⟩=some (.int .i64 id)) w3:=⟨QV c8 hb3,QV b0 hb3⟩;refine hK2 _ _ (fun _=>hS3) ?_;clear hK2 ew3 eY hS2;refine oM 10 fun K5 hK5=> ?_
     refine(if_pos (by rfl)).mpr ?_;refine wp_store_row 29 _ _ rfl Y #[.int .i64 o1,.int .i64 o2,.int .i64 o3,.int .i64 o4,.int .i64 o5] rfl rfl 29 #[.int .i64 0,.int .i64 0,.int .i64 0,.int .i64 0,.int .i64 0] hy3 (by show(Tryz.prog.info? 29).map (·.size)=some 5;kernel_rfl) rfl (by simp[Value.oneCell']) ?_;have hk6:=QK.setRow w3 Y #[.int .i64 o1,.int .i64 o2,.int .i64 o3,.int .i64 o4,.int .i64 o5];obtain⟨w6,ew6⟩: ∃W,w3.setRow Y #[.int .i64 o1,.int .i64 o2,.int .i64 o3,.int .i64 o4,.int .i64 o5]=W:=⟨_,rfl⟩;rw[ew6]at hk6⊢;have h6:=hb3.trans (hk6.below (fun i e=>e▸hYl) hb3.size);have hS6:(fun W:World=>W.cell? ⟨e,8,none⟩=some (.pointer (some ⟨bk,0,none⟩))∧W.cell? ⟨B,0,none⟩=some (.int .i64 id)) w6:=⟨QV c8 h6,QV b0 h6⟩;refine hK5 _ _ (fun _=>hS6) ?_;clear hK5 ew6;simp only[Act.put];refine tM 11 er ?_;refine ZZ (by kernel_rfl) ?_ _;go_wp2_with fail
     go_meet;exact⟨rfl,h6⟩
    ·skip
     refine opM 9 rfl (fun K1 hK1=> ?_);go_simp;have hb2:Below w1.heap.size w1 (w1.alloc (.cells #[.int .i64 0,.int .i64 0,.int .i64 0,.int .i64 0,.int .i64 0] 29)).drew:=Below.drew ((Below.refl _ _).alloc (Nat.le_refl _) _);have hy2:=QJ.drew (QJ.new w1 29 #[.int .i64 0,.int .i64 0,.int .i64 0,.int .i64 0,.int .i64 0]);have hYl:w1.heap.size≤w1.heap.size:=Nat.le_refl _;obtain⟨Y,eY⟩: ∃g,w1.heap.size=g:=⟨_,rfl⟩;obtain⟨w2,ew2⟩: ∃W,(w1.alloc (.cells #[.int .i64 0,.int .i64 0,.int .i64 0,.int .i64 0,.int .i64 0] 29)).drew=W:=⟨_,rfl⟩;rw[ew2]at hb2 hy2⊢;rw[eY]at hy2⊢;have hYl:w1.heap.size≤Y:=Nat.le_of_eq eY;have hS2:(fun W:World=>W.cell? ⟨e,8,none⟩=some (.pointer (some ⟨bk,0,none⟩))∧W.cell? ⟨B,0,none⟩=some (.int .i64 id)) w2:=⟨QV c8 hb2,QV b0 hb2⟩;refine hK1 _ _ (fun _=>hS2) ?_;clear hK1 ew2 eY hS0;refine oM 5 fun K2 hK2=> ?_
     go_simp;refine(HOr.out _ hb2).mono ?_;rintro ev w3 ⟨hq,rfl⟩;have hb3:=hb2.trans (hq.mono hb2.size);have hy3:=QJ.keep hy2 hq;have hS3:(fun W:World=>W.cell? ⟨e,8,none⟩=some (.pointer (some ⟨bk,0,none⟩))∧W.cell? ⟨B,0,none⟩=some (.int .i64 id)) w3:=⟨QV c8 hb3,QV b0 hb3⟩;refine hK2 _ _ (fun _=>hS3) ?_;clear hK2 hS2 hq;refine tM 6 (.tuple #[.agg #[.int .i64 o1,.int .i64 o2,.int .i64 o3,.int .i64 o4,.int .i64 o5],er]) ?_;refine tM 7 (.agg #[.int .i64 o1,.int .i64 o2,.int .i64 o3,.int .i64 o4,.int .i64 o5]) ?_;refine tM 8 er ?_;refine oM 10 fun K5 hK5=> ?_
     refine(if_pos (by rfl)).mpr ?_;refine wp_store_row 29 _ _ rfl Y #[.int .i64 o1,.int .i64 o2,.int .i64 o3,.int .i64 o4,.int .i64 o5] rfl rfl 29 #[.int .i64 0,.int .i64 0,.int .i64 0,.int .i64 0,.int .i64 0] hy3 (by show(Tryz.prog.info? 29).map (·.size)=some 5;kernel_rfl) rfl (by simp[Value.oneCell']) ?_;have hk6:=QK.setRow w3 Y #[.int .i64 o1,.int .i64 o2,.int .i64 o3,.int .i64 o4,.int .i64 o5];obtain⟨w6,ew6⟩: ∃W,w3.setRow Y #[.int .i64 o1,.int .i64 o2,.int .i64 o3,.int .i64 o4,.int .i64 o5]=W:=⟨_,rfl⟩;rw[ew6]at hk6⊢;have h6:=hb3.trans (hk6.below (fun i e=>e▸hYl) hb3.size);have hS6:(fun W:World=>W.cell? ⟨e,8,none⟩=some (.pointer (some ⟨bk,0,none⟩))∧W.cell? ⟨B,0,none⟩=some (.int .i64 id)) w6:=⟨QV c8 h6,QV b0 h6⟩;refine hK5 _ _ (fun _=>hS6) ?_;clear hK5 ew6;simp only[Act.put];refine tM 11 er ?_;refine ZZ (by kernel_rfl) ?_ _;go_wp2_with fail
     go_meet;exact⟨rfl,h6⟩
   case rest=>
    obtain⟨rfl,hbc⟩:=hcut;have HEc:=QQ (HE2.out.below hbc);have HBc:=QQ (HB2.out.trans (hbc.mono HB2.out.size));have b0:=QV b0 hbc;clear hbc c8 HOr;rcases HEr.out with⟨hs,he⟩|⟨hs,he⟩
    ·subst he
     have HS:Hid (Ql3 m id=0∧YJ m id=Ju9 m id):=QQ (by have h1:=Jo4 (fun x=>H7.out (HPh.out.symm.trans x)) HNo.out;rw[if_pos hs]at h1;exact h1);have HGo:=QQ (Kj2 wc e F m HEc.out id);clear hs HEr;go_wp2_with fail
     refine HGo.out.mono ?_;rintro ev w9 ⟨rfl,hto⟩;have HTo:=QQ hto;clear hto;go_wp2_with fail
     go_ret;rw[HS.out.1,HS.out.2];exact⟨rfl,YZ.pre HBc.out HTo.out⟩
    ·subst he
     have HS:Hid (Ql3 m id=7∧YJ m id=Ju9 m id):=QQ (by have h1:=Jo4 (fun x=>H7.out (HPh.out.symm.trans x)) HNo.out;rw[if_neg (by rw[hs];exact Bool.false_ne_true)]at h1;exact h1);have HNn:Hid (Qb3 (Qc0 m) id=none):=QQ (by simpa using hs);have e7:YV 7= .iface 52 (.int .i64 7):=rfl;rw[e7];clear hs HEr;go_wp2_with fail
     go_ret;rw[HS.out.1,HS.out.2,Jv0 HNn.out];exact⟨rfl,YZ.pre HBc.out (YZ.same HEc.out (Below.refl _ _))⟩
  ·have hfi:=Ka7 (p:=fun o=>o.id ==id) hk hy hbf
   have HS:=QQ (Kl6 (m:=m) (id:=id) (fun x=>H7.out (HPh.out.symm.trans x)) hfi.2 hfi.1);have hkn:k<n:=by rw[←HN.out];exact hk
   have hk0:(0:Int)≤(k:Int):=by omega
   have dk:decide ((k:Int)≥0)=true:=J5 hk0;have hrow:=hM2.park;rw[HN.out]at hrow;obtain⟨ga,hga⟩:=Qc6 hrow (by omega);subst hga;have c12:=hM2.cell hM2.ec.c12;rw[HN.out]at c12;have hdel:=Xs4 w1 ga n pc k (k+1) ((k:Int)+1) (by omega) m.pk hrow (by omega) (by omega) (by omega);have HDel:=QQ hdel;have HKn:=QQ hkn;clear hfi hk hy hbf hM2 hrow hdel;go_wp2_with fail
   refine HDel.out.mono ?_;rintro ev w3 ⟨rfl,hr3,hk3⟩;have hcl:(Jk3 m.pk k).length=k+ (n- (k+1)):=by unfold Jk3;rw[List.length_append,List.length_take,List.length_drop,HN.out];omega
   obtain⟨own',hM9,ho9⟩:=HM2.out.pkTo (P':=Jk3 m.pk k) (Ap':=some ⟨ga,0,none⟩) (pc':=pc) (hk3.mono (fun i hi=>by rw[hi];rfl)) (by rw[hcl];exact hr3) (fun i hi=> .inl hi);rw[hcl]at hM9 ho9;have hEk:QJ w3 e 103 cs:=QJ.keeps HM2.out.ind.blk hk3 (fun x=>absurd (HM2.out.ok.uni _ _ _ (HM2.out.op _ (x▸rfl)) HM2.out.oe) (by decide));have c123:w3.cell? ⟨e,12,none⟩=some (.slice (some ⟨ga,0,none⟩) n pc):=(QJ.cell hEk 12).trans (HM2.out.ec.c12.trans (by rw[HN.out]));have f12:=QJ.frozen hEk 12;have HM9:=QQ hM9;have HO9:=QQ ho9;clear c12 hr3 hk3 hcl hM9 ho9 hEk HDel;go_wp2_with fail
   go_ret;rw[HS.out.1,HS.out.2];exact⟨rfl,YZ.pre HB2.out ⟨_,UX.at_ (m:= {m with pk:=Jk3 m.pk k}) HM9.out (fun _ _ _=>rfl),HO9.out.bstep HF.out⟩⟩
end Go.Proofs.YtnlngicnfegjgaaGreatDoor
