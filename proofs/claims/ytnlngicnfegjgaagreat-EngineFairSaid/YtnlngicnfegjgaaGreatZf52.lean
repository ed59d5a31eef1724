/- Contracts and walks that the law's proof needs. -/
import Derived.WalkKit
import Derived.WalkLawsBesides
import Derived.WalkSpells
import Derived.Deep.LoopGhost
import Derived.Deep.AppendLies
import Derived.Deep.RegionHeld3
import Derived.Deep.QuietTactic
import Derived.BigQuiet
import Derived.StillTactics
import Derived.OwnWalk
import Derived.Deep.DeepCutAuto
import Derived.Deep.CutBlock
import Derived.Test.YtnlngicnfegjgaaGreatZf51
import Derived.Test.YtnlngicnfegjgaaGreatZf3
set_option linter.unusedVariables false
set_option maxRecDepth 100000
set_option maxHeartbeats 8000000
namespace Go.Proofs.YtnlngicnfegjgaaGreat
open Go.ChangeMaps Go.RowKit
def Kx9 (i:Int):List Value:= [.int .i64 i]
theorem Xi2 {w:World} {base:Nat} {e:TypeId} {size:Nat} {v:Value} {n:Nat} {xs:List Value} (h:w.ownsRow base e size v n xs) {b:Nat} (hb:b<base):some b≠v.ownBlock:=by
 rcases h.2 with⟨rfl,_⟩|⟨g,cap,cur,rfl,hg,_⟩
 ·simp[Value.ownBlock]
 ·simp[Value.ownBlock];omega
theorem Jw1 {w w':World} {S:Nat→Prop} {base:Nat} {e:TypeId} {size:Nat} {v:Value} {n:Nat} {xs:List Value} (h:w.ownsRow base e size v n xs) (hk:QK S w w') (hn: ∀g,v.ownBlock=some g→ ¬S g):w'.ownsRow base e size v n xs:=by
 refine⟨h.1, ?_⟩
 rcases h.2 with h1|⟨g,cap,cur,hv,h1,h2,h3⟩
 ·exact .inl h1
 ·subst hv
  exact .inr ⟨g,cap,cur,rfl,h1,(hk.block g (Array.getElem?_eq_some_iff.1 h2).1 (hn g rfl)).trans h2,h3⟩
theorem Xd9 (W:World) {k:Nat} (hk:k<5):(W.alloc (.cells #[.int .i64 3,.int .i64 4,.int .i64 60,.int .i64 6,.int .i64 1] 3)).cell? ⟨W.heap.size,k,none⟩=some (.int .i64 (Jv9 k)):=by
 have h:=QJ.new W 3 #[.int .i64 3,.int .i64 4,.int .i64 60,.int .i64 6,.int .i64 1]
 have hc:k=0∨k=1∨k=2∨k=3∨k=4:=by omega
 rcases hc with rfl|rfl|rfl|rfl|rfl<;>(rw[QJ.cell h];rfl)
theorem Kw0 {gg X g n c:Nat} (h:X<gg) (hg:(Value.slice (some ⟨gg,0,none⟩) n c).ownBlock=some g) (hX:g=X):False:=by
 have:gg=g:=by simpa [Value.ownBlock]using hg
 omega
def Kz8 (w w2 wx:World) (X Y:Nat) (st dy pr tk mo:Int) (l:List Int) (k:Nat):Prop:=
 ∃T ct,Below w.heap.size w wx∧w2.heap.size≤wx.heap.size∧QJ wx X 42 #[.slice T k ct,.int .i64 st,.int .i64 dy,.int .i64 pr,.int .i64 tk,.int .i64 mo]∧QJ wx Y 3 #[.int .i64 1,.int .i64 2,.int .i64 3,.int .i64 5,.int .i64 7]∧wx.ownsRow w2.heap.size 39 2 (.slice T k ct) k (OW (Qh9 l k))
theorem Kz9 {wx:World} {Y k:Nat} (h:QJ wx Y 3 #[.int .i64 1,.int .i64 2,.int .i64 3,.int .i64 5,.int .i64 7]) (hk:k<5):wx.cell? ⟨Y,0+k,none⟩=some (.int .i64 (Jw0 k))∧wx.cell? ⟨Y,k,none⟩=some (.int .i64 (Jw0 k)):=by
 have hc:k=0∨k=1∨k=2∨k=3∨k=4:=by omega
 rcases hc with rfl|rfl|rfl|rfl|rfl<;>exact⟨by rw[QJ.cell h];rfl,by rw[QJ.cell h];rfl⟩
theorem Xz2 (a b p t mo:Int) (A:Option Addr) (len cap:Nat) (l:List Int) (w:World) (h:XZ w Kx9 1 A len l) (hm:len≤10):
  Calls Tryz.prog 5 #[.int .i64 a,.int .i64 b,.int .i64 p,.int .i64 t,.int .i64 mo,.slice A len cap] w fun e w'=>Below w.heap.size w w'∧ ∃(D E L S:Nat) (T:Option Addr) (ct:Nat) (F:Nat→Prop) (c:Qn0),e= .returned (.pointer (some ⟨D,0,none⟩))∧Qc9 w' D E L S T ct l c F (Jo6 l c) (fun _=>0) (fun _=>0) 0 false∧VW (Jo6 l c)∧(∀i,F i→w.heap.size≤i)∧w.heap.size≤D∧w.heap.size≤L∧w.heap.size≤S∧ ∀g,QV T=some g→w.heap.size≤g:=by
 obtain⟨st,est⟩: ∃x,pk a 3000=x:=⟨_,rfl⟩
 obtain⟨dy,edy⟩: ∃x,pk b 1500=x:=⟨_,rfl⟩
 obtain⟨pr,epr⟩: ∃x,pk p 200=x:=⟨_,rfl⟩
 obtain⟨tk,etk⟩: ∃x,pk t 5=x:=⟨_,rfl⟩
 obtain⟨mm,emm⟩: ∃x,pk mo 4=x:=⟨_,rfl⟩
 have HIn:Hid ((0≤st∧st<3000)∧(0≤dy∧dy<1500)∧(0≤pr∧pr<200)∧(0≤tk∧tk<5)∧(0≤mm∧mm<4)):=QQ (by
  rw[←est,←edy,←epr,←etk,←emm];exact⟨⟨Z3 _ _ (by omega),Qn7 _ _ (by omega)⟩,⟨Z3 _ _ (by omega),Qn7 _ _ (by omega)⟩,⟨Z3 _ _ (by omega),Qn7 _ _ (by omega)⟩,⟨Z3 _ _ (by omega),Qn7 _ _ (by omega)⟩,⟨Z3 _ _ (by omega),Qn7 _ _ (by omega)⟩⟩)
 have h20:IntKind.i64.wrap (20+pr)=20+pr:=by have:=HIn.out;rw[IntWalk.i64_left];exact IntWalk.wrap64_in _ (by omega)
 have h1t:IntKind.i64.wrap (1+tk)=1+tk:=by have:=HIn.out;rw[IntWalk.i64_left];exact IntWalk.wrap64_in _ (by omega)
 have P1:=QQ (fun W:World=>Qa1 a 3000 W (by omega) (by omega))
 have P2:=QQ (fun W:World=>Qa1 b 1500 W (by omega) (by omega))
 have P3:=QQ (fun W:World=>Qa1 p 200 W (by omega) (by omega))
 have P4:=QQ (fun W:World=>Qa1 t 5 W (by omega) (by omega))
 have P5:=QQ (fun W:World=>Qa1 mo 4 W (by omega) (by omega))
 rw[est]at P1
 rw[edy]at P2
 rw[epr]at P3
 rw[etk]at P4
 rw[emm]at P5
 clear est edy epr etk emm
 have HEl:=QQ h
 clear h
 go_enter Tryz.func5,Tryz.ntmps5
 go_wp2_with fail
 refine(P1.out _).mono ?_
 rintro e w' ⟨rfl,rfl⟩
 go_wp2_with fail
 refine(P2.out _).mono ?_
 rintro e w' ⟨rfl,rfl⟩
 go_wp2_with fail
 refine(P3.out _).mono ?_
 rintro e w' ⟨rfl,rfl⟩
 go_wp2_with fail
 refine(P4.out _).mono ?_
 rintro e w' ⟨rfl,rfl⟩
 go_wp2_with fail
 refine(P5.out _).mono ?_
 rintro e w' ⟨rfl,rfl⟩
 go_upto_region 2 with fail
 clear h20 h1t P1 P2 P3 P4 P5
 obtain⟨c,hc⟩: ∃c:Qn0,c=⟨st,dy,20+pr,1+tk,mm⟩:=⟨_,rfl⟩
 have HCin:Hid ((0≤c.st∧c.st<3000)∧(0≤c.dy∧c.dy<1500)∧(20≤c.pr∧c.pr<220)∧(1≤c.tk∧c.tk<6)∧(0≤c.mo∧c.mo<4)):=QQ (by have:=HIn.out;subst hc;dsimp only;omega)
 obtain⟨e1,e2,e3,e4,e5⟩:st=c.st∧dy=c.dy∧20+pr=c.pr∧1+tk=c.tk∧mm=c.mo:=by subst hc;exact⟨rfl,rfl,rfl,rfl,rfl⟩
 rw[e1,e2,e3,e4,e5]
 clear hc e1 e2 e3 e4 e5 HIn
 obtain⟨cst,e1⟩: ∃x,c.st=x:=⟨_,rfl⟩
 obtain⟨cdy,e2⟩: ∃x,c.dy=x:=⟨_,rfl⟩
 obtain⟨cpr,e3⟩: ∃x,c.pr=x:=⟨_,rfl⟩
 obtain⟨ctk,e4⟩: ∃x,c.tk=x:=⟨_,rfl⟩
 obtain⟨cmo,e5⟩: ∃x,c.mo=x:=⟨_,rfl⟩
 rw[e1,e2,e3,e4,e5]
 have HCe:=QQ (And.intro e1 (And.intro e2 (And.intro e3 (And.intro e4 e5))))
 clear e1 e2 e3 e4 e5
 have hb1:Below w.heap.size w (w.alloc (.cells #[.slice none 0 0,.int .i64 cst,.int .i64 cdy,.int .i64 cpr,.int .i64 ctk,.int .i64 cmo] 42)):=(Below.refl _ w).alloc (Nat.le_refl _) _
 have hX:=QJ.new w 42 #[.slice none 0 0,.int .i64 cst,.int .i64 cdy,.int .i64 cpr,.int .i64 ctk,.int .i64 cmo]
 obtain⟨w1,ew1⟩: ∃W,w.alloc (.cells #[.slice none 0 0,.int .i64 cst,.int .i64 cdy,.int .i64 cpr,.int .i64 ctk,.int .i64 cmo] 42)=W:=⟨_,rfl⟩
 obtain⟨X,eX⟩: ∃g,w.heap.size=g:=⟨_,rfl⟩
 rw[ew1]at hb1 hX⊢
 rw[eX]at hX⊢
 have HX0:=QQ (Nat.le_of_eq eX)
 clear ew1
 have hb2:Below w1.heap.size w1 (w1.alloc (.cells #[.int .i64 1,.int .i64 2,.int .i64 3,.int .i64 5,.int .i64 7] 3)):=(Below.refl _ w1).alloc (Nat.le_refl _) _
 have hY:=QJ.new w1 3 #[.int .i64 1,.int .i64 2,.int .i64 3,.int .i64 5,.int .i64 7]
 obtain⟨w2,ew2⟩: ∃W,w1.alloc (.cells #[.int .i64 1,.int .i64 2,.int .i64 3,.int .i64 5,.int .i64 7] 3)=W:=⟨_,rfl⟩
 obtain⟨Y,eY⟩: ∃g,w1.heap.size=g:=⟨_,rfl⟩
 rw[ew2]at hb2 hY
 rw[eY]at hY
 have HY0:=QQ (Nat.le_of_eq eY)
 have HX2:=QQ (QJ.keep hX hb2)
 have HB2:=QQ (hb1.trans (hb2.mono hb1.size))
 have HY:=QQ hY
 have hXY:X<Y:=by have:=QJ.lt hX;omega
 have HXY:=QQ hXY
 clear hb1 hb2 hX hY hXY
 go_wp2_with fail
 try rw[ew2]
 try rw[eY]
 clear ew2 eX eY
 go_loopg [14,34] 5 (fun g s14 s34 wx=> ∃k:Nat,k≤5∧g=5-k∧s14= .int .i64 (Z8 l k)∧s34= .int .i64 k∧Kz8 w w2 wx X Y cst cdy cpr ctk cmo l k)
 case atStart=>exact⟨0,Nat.zero_le _,rfl,rfl,rfl,none,0,HB2.out,Nat.le_refl _,HX2.out,HY.out,World.ownsRow_nil _ _ _ _⟩
 case round=>
  obtain⟨k,hk,rfl,rfl,rfl,T,ct,hB,hS,hX,hY,hO⟩:=hrel;have HB:=QQ hB;have HS:=QQ hS;have HX:=QQ hX;have HYr:=QQ hY;have HO:=QQ hO;clear hB hS
  by_cases hlt:k<5
  ·have hltz:(k:Int)<5:=by omega
   have hk0:(0:Int)≤(k:Int):=by omega
   obtain⟨p0,p1⟩:=Kz9 hY hlt;have x0:wr.cell? ⟨X,0,none⟩=some (.slice T k ct):=by rw[QJ.cell hX];rfl
   have f0:=QJ.frozen hX 0;obtain⟨ph,eph⟩: ∃x,Jw0 k=x:=⟨_,rfl⟩;obtain⟨wn,ewn⟩: ∃x,Z8 l k=x:=⟨_,rfl⟩;rw[eph]at p0 p1;rw[ewn];have HEp:=QQ eph;have HEw:=QQ ewn;clear eph ewn hX hY hO;obtain⟨i0,hi0,hz0,hz1,hz2⟩:=info_parts Xl3;have hXl:X<w2.heap.size:=QJ.lt HX2.out;have hYl:Y<w2.heap.size:=QJ.lt HY.out;have hne:some X≠(Value.slice T k ct).ownBlock:=Xi2 HO.out hXl;have hneY:some Y≠(Value.slice T k ct).ownBlock:=Xi2 HO.out hYl;have hszr:=HS.out;have hXr:=QJ.lt HX.out;have hHX:=HX.out;have hHY:=HYr.out;go_upto_region 6 with fail
   have h63w:IntKind.i64.wrap (wn+1)=wn+1:=by have:=Qr6 l k (by omega);rw[HEw.out]at this;rw[IntWalk.i64_left];exact IntWalk.wrap64_in _ (by omega)
   have hoA:(wr.alloc (.cells #[.int .i64 wn,.int .i64 ph] 39)).ownsRow w2.heap.size 39 2 (.slice T k ct) k (OW (Qh9 l k)):=HO.out.alloc _;have hnw: ∀(j:Nat) (u:Value),[Value.int .i64 wn,.int .i64 ph][j]?=some u→(wr.alloc (.cells #[.int .i64 wn,.int .i64 ph] 39)).cell? ((⟨wr.heap.size,0,none⟩:Addr).add j)=some u:=World.news_of_block (cs:= #[.int .i64 wn,.int .i64 ph]) (t:=39) (fr:=(0,0)) (heap_alloc_new wr _);have HoA:=QQ hoA;have HnW:=QQ hnw;clear hoA hnw;go_wp2_with ((with_reducible (refine wpList_append_lies _ rfl (.tmp 40) (.tmp 44) 40 rfl w2.heap.size 39 i0 _ 2 16 Tryz.underlying40 hi0 hz0 hz1 hz2 (by with_unfolding_all rfl) (by omega) (.slice T k ct) k (OW (Qh9 l k)) (by with_unfolding_all rfl) HoA.out ⟨wr.heap.size,0,none⟩ 1 1 [.int .i64 wn,.int .i64 ph] (by with_unfolding_all rfl) (by with_unfolding_all rfl) HnW.out (by simp[Value.oneCell']) (by omega) (by unfold maxLen;omega) (by omega) (by simp;omega) (wr.heap.size+1) (by simp) ?_));intro gg cap' w4 hown hgrow hat hlt4;have hk4:QJ w4 X 42 #[.slice T k ct,.int .i64 cst,.int .i64 cdy,.int .i64 cpr,.int .i64 ctk,.int .i64 cmo]:=((hgrow.block X (by simp;omega) hne).trans (QJ.alloc hHX _));have f4:=QJ.frozen hk4 0;have c4:w4.cell? ⟨X,0,none⟩=some (.slice T k ct):=by rw[QJ.cell hk4];rfl)
   ·have hkl:k<len:=by assumption
    have hkL:k<l.length:=by have:=HEl.out.1;omega
    obtain⟨bA,oA,hA⟩: ∃b off,A=some ⟨b,off,none⟩:=by obtain⟨b,off,h1,_⟩:=HEl.out.2 (by omega);exact⟨b,off,h1⟩
    subst hA;have hb4:Below w.heap.size w w4:=(HB.out.alloc (HB.out.size) _).grown hgrow (by simp;have:=HB.out.size;omega) (fun q hq=>by have h1:w2.heap.size≤q:=Nat.le_of_not_lt (fun h=>Xi2 HO.out h hq.symm);have:=HB2.out.size;omega);have hb5:Below w.heap.size w (w4.setCell ⟨X,0,none⟩ (.slice (some ⟨gg,0,none⟩) (k+1) cap')):=hb4.setCell HX0.out _;have hX5:=QJ.set_ hk4 0 (.slice (some ⟨gg,0,none⟩) (k+1) cap');have hY4:QJ w4 Y 3 #[.int .i64 1,.int .i64 2,.int .i64 3,.int .i64 5,.int .i64 7]:=((hgrow.block Y (by simp;have:=QJ.lt hHY;omega) hneY).trans (QJ.alloc hHY _));obtain⟨w5,ew5⟩: ∃W,w4.setCell ⟨X,0,none⟩ (.slice (some ⟨gg,0,none⟩) (k+1) cap')=W:=⟨_,rfl⟩;rw[ew5]at hb5 hX5⊢;have a0:=(HEl.out.below hb5 (Nat.le_refl _)).at_ hkL (j:=0) rfl;obtain⟨av,eav⟩: ∃x,l[k]=x:=⟨_,rfl⟩;rw[eav]at a0;have a1:w5.cell? ⟨bA,oA+k,none⟩=some (.int .i64 av):=by simpa using a0
    have HOn:Hid (w4.ownsRow w2.heap.size 39 2 (.slice (some ⟨gg,0,none⟩) (k+1) cap') (k+1) (OW (Qh9 l (k+1)))):=QQ (by
     rw[Xd8,HEp.out,HEw.out];unfold OW at hown⊢;rw[List.flatMap_append];exact hown)
    have HGg:Hid (X<gg):=QQ (by
     rcases hown.2 with⟨h1,-⟩|⟨g,c0,cur,h1,h2,-⟩
     ·cases h1
     ·cases h1;have:=HX2.out;have:=hXl;omega)
    have HB5:=QQ hb5;have HO5:Hid (w5.ownsRow w2.heap.size 39 2 (.slice (some ⟨gg,0,none⟩) (k+1) cap') (k+1) (OW (Qh9 l (k+1)))):=QQ (by rw[←ew5];exact Jw1 HOn.out (QK.set_ w4 ⟨X,0,none⟩ _) (fun g hg hX=>Kw0 HGg.out hg hX));have HSz:Hid (w2.heap.size≤w5.heap.size):=QQ (by rw[←ew5];simp;have:=hlt4;have:=hgrow.size;have:=HS.out;simp at*;omega);have HY5:Hid (QJ w5 Y 3 #[.int .i64 1,.int .i64 2,.int .i64 3,.int .i64 5,.int .i64 7]):=QQ (by rw[←ew5];exact QJ.far hY4 (by show Y≠X;have:=HXY.out;omega) _);have hkc:=Xd9 w5 hlt;have hkc2:=Xd9 w5.drew hlt;have hPk:=fun W=>Qa1 av (Jv9 k) W (Qr5 hlt).1 (by have:=(Qr5 hlt).2;omega)
    have hpp:=And.intro (Z3 av (Jv9 k) (Qr5 hlt).1) (And.intro (Qn7 av (Jv9 k) (Qr5 hlt).1) (Qr5 hlt).2);obtain⟨pp,epp⟩: ∃x,pk av (Jv9 k)=x:=⟨_,rfl⟩;rw[epp]at hPk hpp;have hwp:IntKind.i64.wrap (wn+1+pp)=wn+1+pp:=by have:=Qr6 l k (by omega);rw[HEw.out]at this;rw[IntWalk.i64_left];exact IntWalk.wrap64_in _ (by omega)
    have HNx:Hid (Z8 l (k+1)=wn+1+pp):=QQ (by show Z8 l k+Jo5 l k=_;unfold Jo5;rw[if_pos hkL,HEw.out,List.getD_eq_getElem?_getD,List.getElem?_eq_getElem hkL,Option.getD_some,eav,epp];omega);obtain⟨kk,ekk⟩: ∃x,Jv9 k=x:=⟨_,rfl⟩;rw[ekk]at hkc hkc2 hPk;clear epp ekk hpp eav;clear hb4 hb5 c4 f4 x0 f0 p0 p1 a0;go_upto_region 9 with fail
    refine XK (fun t=> [].contains t) (fun W=>W.cell? ⟨bA,oA+k,none⟩=some (.int .i64 av)) (by kernel_rfl) (by simpa using a1) (fun hS=> ?_);refine tM 0 (.int .i64 (wn+1)) ?_;refine tM 1 (.slice (some ⟨bA,oA,none⟩) len cap) ?_;refine tM 2 (.int .i64 (k:Int)) ?_;refine tM 3 (.pointer (some ⟨bA,oA+k,none⟩)) ?_;refine tM 4 (.int .i64 av) ?_;refine tM 6 (.int .i64 (k:Int)) ?_;refine oM 5 fun K1 hK1=> ?_
    go_simp;have hb6:Below w5.heap.size w5 (w5.alloc (.cells #[.int .i64 3,.int .i64 4,.int .i64 60,.int .i64 6,.int .i64 1] 3)).drew:=Below.drew ((Below.refl _ _).alloc (Nat.le_refl _) _);have hk6:(w5.alloc (.cells #[.int .i64 3,.int .i64 4,.int .i64 60,.int .i64 6,.int .i64 1] 3)).drew.cell? ⟨w5.heap.size,k,none⟩=some (.int .i64 kk):=hkc;obtain⟨w6,ew6⟩: ∃W,(w5.alloc (.cells #[.int .i64 3,.int .i64 4,.int .i64 60,.int .i64 6,.int .i64 1] 3)).drew=W:=⟨_,rfl⟩;obtain⟨Z,eZ⟩: ∃g,w5.heap.size=g:=⟨_,rfl⟩;have HS56:=QQ hb6;rw[ew6]at hb6 hk6 HS56;rw[eZ]at hk6;rw[ew6,eZ];have a6:w6.cell? ⟨bA,oA+k,none⟩=some (.int .i64 av):=(HS56.out.cell (p:=⟨bA,oA+k,none⟩) (World.block_lt_of_cell? _ _ a1)).trans a1;refine hK1 _ _ (fun _=>a6) ?_;clear hK1 hS ew6 eZ hkc hkc2 hb6;refine Jk7 (S':=fun W=>W.cell? ⟨bA,oA+k,none⟩=some (.int .i64 av)∧W.cell? ⟨Z,k,none⟩=some (.int .i64 kk)) (fun _ h=>h.1) _ ?_;have hS:=And.intro a6 hk6;refine tM 7 (.pointer (some ⟨Z,k,none⟩)) ?_;refine tM 8 (.int .i64 kk) ?_;refine oM 9 fun K2 hK2=> ?_
    go_simp
    go_at_call 11
    refine(hPk _).mono ?_;rintro e w' ⟨rfl,rfl⟩;refine hK2 _ _ (fun _=>hS) ?_;clear hK2;refine tM 10 (.int .i64 (wn+1+pp)) ?_;refine tM 11 (.int .i64 (wn+1+pp)) ?_;refine ZK (by kernel_rfl) ?_ _;go_wp2_with fail
    go_roundg (5- (k+1))
    case measure=>omega
    case rel=>exact⟨k+1,by omega,rfl,by rw[HNx.out],by go_num,some ⟨gg,0,none⟩,cap',HB5.out.trans (HS56.out.mono HB5.out.size),by have h1:=HS56.out.size;have h2:=HSz.out;omega,QJ.keep hX5 HS56.out,QJ.keep HY5.out HS56.out,Jw1 HO5.out (QK.of_below HS56.out (fun _=>False)) (fun _ _=>id)⟩
   ·have hkl: ¬k<len:=by assumption
    have hkL: ¬k<l.length:=by have:=HEl.out.1;omega
    have hb4:Below w.heap.size w w4:=(HB.out.alloc (HB.out.size) _).grown hgrow (by simp;have:=HB.out.size;omega) (fun q hq=>by have h1:w2.heap.size≤q:=Nat.le_of_not_lt (fun h=>Xi2 HO.out h hq.symm);have:=HB2.out.size;omega);have hb5:Below w.heap.size w (w4.setCell ⟨X,0,none⟩ (.slice (some ⟨gg,0,none⟩) (k+1) cap')):=hb4.setCell HX0.out _;have hX5:=QJ.set_ hk4 0 (.slice (some ⟨gg,0,none⟩) (k+1) cap');have hY4:QJ w4 Y 3 #[.int .i64 1,.int .i64 2,.int .i64 3,.int .i64 5,.int .i64 7]:=((hgrow.block Y (by simp;have:=QJ.lt hHY;omega) hneY).trans (QJ.alloc hHY _));obtain⟨w5,ew5⟩: ∃W,w4.setCell ⟨X,0,none⟩ (.slice (some ⟨gg,0,none⟩) (k+1) cap')=W:=⟨_,rfl⟩;rw[ew5]at hb5 hX5⊢;have HOn:Hid (w4.ownsRow w2.heap.size 39 2 (.slice (some ⟨gg,0,none⟩) (k+1) cap') (k+1) (OW (Qh9 l (k+1)))):=QQ (by
     rw[Xd8,HEp.out,HEw.out];unfold OW at hown⊢;rw[List.flatMap_append];exact hown)
    have HGg:Hid (X<gg):=QQ (by
     rcases hown.2 with⟨h1,-⟩|⟨g,c0,cur,h1,h2,-⟩
     ·cases h1
     ·cases h1;have:=HX2.out;have:=hXl;omega)
    have HB5:=QQ hb5;have HO5:Hid (w5.ownsRow w2.heap.size 39 2 (.slice (some ⟨gg,0,none⟩) (k+1) cap') (k+1) (OW (Qh9 l (k+1)))):=QQ (by rw[←ew5];exact Jw1 HOn.out (QK.set_ w4 ⟨X,0,none⟩ _) (fun g hg hX=>Kw0 HGg.out hg hX));have HSz:Hid (w2.heap.size≤w5.heap.size):=QQ (by rw[←ew5];simp;have:=hlt4;have:=hgrow.size;have:=HS.out;simp at*;omega);have HY5:Hid (QJ w5 Y 3 #[.int .i64 1,.int .i64 2,.int .i64 3,.int .i64 5,.int .i64 7]):=QQ (by rw[←ew5];exact QJ.far hY4 (by show Y≠X;have:=HXY.out;omega) _);have HNx:Hid (Z8 l (k+1)=wn+1):=QQ (by show Z8 l k+Jo5 l k=_;unfold Jo5;rw[if_neg hkL,HEw.out];omega);clear hb4 hb5 c4 f4 x0 f0 p0 p1
    go_roundg (5- (k+1))
    case measure=>omega
    case rel=>exact⟨k+1,by omega,rfl,by rw[HNx.out],by go_num,some ⟨gg,0,none⟩,cap',HB5.out,HSz.out,hX5,HY5.out,HO5.out⟩
  ·obtain rfl:k=5:=by omega
   have hltz: ¬((5:Nat):Int)<5:=by omega
   have hltz2: ¬(5:Int)<5:=by omega
   clear hlt hY;obtain⟨x0,x1,x2,x3,x4,x5⟩:=Xh8 hX;obtain⟨gT,hT⟩: ∃g,T=some ⟨g,0,none⟩:=by
    rcases hO.2 with⟨-,h0⟩|⟨g,c0,cur,h1,-⟩
    ·cases h0
    ·cases h1;exact⟨g,rfl⟩
   subst hT;have hPr:O1 wr (some ⟨gT,0,none⟩) 5 ct (Qh9 l 5):=O1.of_own hO;have HPr:=QQ hPr;have hgT:w2.heap.size≤gT∧gT<wr.heap.size:=by have:=World.ownsRow.lt hO gT rfl;exact this
   have HgT:=QQ hgT;clear hX hO hPr hgT;go_wp2_with fail
   refine(Jv8 (some ⟨gT,0,none⟩) 5 ct (Qh9 l 5) cst cdy cpr ctk cmo _ HPr.out (by omega) (Ku9 l) (by have h1:=HCin.out;obtain⟨e1,e2,e3,e4,e5⟩:=HCe.out;rw[e1,e2,e3,e4,e5]at h1;rw[Bool.and_eq_true,Qa0,Qa0];omega) (by have h1:=HCin.out;obtain⟨e1,e2,e3,e4,e5⟩:=HCe.out;rw[e1,e2,e3,e4,e5]at h1;omega)).mono ?_;rintro e w6 ⟨hb6,hok,E,F,rfl,hE,hF⟩;have HX6:=QQ (QJ.keep HX.out hb6);obtain⟨x0,x1,x2,x3,x4,x5⟩:=Xh8 HX6.out;go_upto_region 14 with fail
   have hmm:= @run_makeMap Tryz.prog;have hb7:Below w6.heap.size w6 (w6.alloc (.map #[] 0)):=(Below.refl _ _).alloc (Nat.le_refl _) _;have hL:O0 (w6.alloc (.map #[] 0)) w6.heap.size (fun _=>0):=⟨fun _=>none,Qu8.made _,fun _=>rfl⟩;obtain⟨w7,ew7⟩: ∃W,w6.alloc (.map #[] 0)=W:=⟨_,rfl⟩;obtain⟨L,eL⟩: ∃g,w6.heap.size=g:=⟨_,rfl⟩;have HL6:=QQ eL;rw[ew7]at hb7 hL;rw[eL]at hL;have hb8:Below w7.heap.size w7 (w7.alloc (.map #[] 0)):=(Below.refl _ _).alloc (Nat.le_refl _) _;have hS:O0 (w7.alloc (.map #[] 0)) w7.heap.size (fun _=>0):=⟨fun _=>none,Qu8.made _,fun _=>rfl⟩;obtain⟨w8,ew8⟩: ∃W,w7.alloc (.map #[] 0)=W:=⟨_,rfl⟩;obtain⟨S,eS⟩: ∃g,w7.heap.size=g:=⟨_,rfl⟩;have HS7:=QQ eS;rw[ew8]at hb8 hS;rw[eS]at hS;have hb9:Below w8.heap.size w8 (w8.alloc (.cells (Jh9 E L S (some ⟨gT,0,none⟩) ct ⟨cst,cdy,cpr,ctk,cmo⟩ 0 false) 53)):=(Below.refl _ _).alloc (Nat.le_refl _) _;have hD:=QJ.new w8 53 (Jh9 E L S (some ⟨gT,0,none⟩) ct ⟨cst,cdy,cpr,ctk,cmo⟩ 0 false);have HL:=QQ hL;have HSm:=QQ hS;have HB7:=QQ hb7;have HB8:=QQ hb8;have HB9:=QQ hb9;have HD:=QQ hD;have HE:=QQ hE;have HF:=QQ hF;have HOk:=QQ hok;have HB6:=QQ hb6;clear hL hS hb7 hb8 hb9 hD hE hF hok hb6;go_wp2_with fail
   go_ret;have q6:=HB6.out.size;have q7:=HB7.out.size;have q8:=HB8.out.size;have qL:=HL6.out;have qS:=HS7.out;have lL:=HL.out.lt;have lS:=HSm.out.lt;have qB:=HB.out.size;have q2:=HB2.out.size;have hgT:=HgT.out;have hFl: ∀i,F i→wr.heap.size≤i∧i<w6.heap.size:=fun i hi=>⟨HF.out i hi,HE.out.lt hi⟩
   have hb68:=HB7.out.trans (HB8.out.mono q7);have hb69:=hb68.trans (HB9.out.mono hb68.size);have hbr9:=HB6.out.trans (hb69.mono q6);refine⟨HB.out.trans (hbr9.mono qB),w8.heap.size,E,L,S,some ⟨gT,0,none⟩,ct,F,⟨cst,cdy,cpr,ctk,cmo⟩,rfl,⟨HD.out,HE.out.below hb69,HL.out.of_block ((HB9.out.block L (by omega)).trans (HB8.out.block L (by omega))),HSm.out.of_block (HB9.out.block S (by omega)),HPr.out.below hbr9 (Nat.le_refl _),YY.refl _,fun h=> ?_,fun h=> ?_,fun h=> ?_,fun g hg h=> ?_,by omega,by omega,by omega,fun g hg=> ?_⟩,HOk.out,fun i hi=> ?_,by omega,by omega,by omega,fun g hg=> ?_⟩
   ·have:=hFl _ h;omega
   ·have:=hFl _ h;omega
   ·have:=hFl _ h;omega
   ·have h1:=hFl _ h
    have h2:gT=g:=by simpa [QV]using hg
    omega
   ·have h2:gT=g:=by simpa [QV]using hg
    omega
   ·have:=hFl _ hi;omega
   ·have h2:gT=g:=by simpa [QV]using hg
    omega
theorem IV.keeps {w w':World} {r:Nat} (h:IV w w' r):QK (fun i=>i=r) w w':=⟨h.os,h.tape,h.output,Nat.le_of_eq h.size.symm,fun k _ hn=>h.block k hn⟩
theorem O0.update {w:World} {r:Nat} {f:Int→Int} (h:O0 w r f) (k v:Int):
  ∃w',(Instr.mapUpdate 51 (.map (some r)) (.int .i64 k) (.int .i64 v)).run Tryz.prog w= .ok () w'∧O0 w' r (Qg8 f k v)∧IV w w' r:=by
 obtain⟨g,h1,h2⟩:=h
 obtain⟨w',a1,a2,a3⟩:=h1.update Tryz.underlying51 Tryz.underlying3 k (.int .i64 v)
 refine⟨w',a1,⟨_,a2,fun j=> ?_⟩,a3⟩
 unfold Z5 Qg8
 by_cases e:j=k
 ·rw[if_pos e,if_pos e];rfl
 ·rw[if_neg e,if_neg e];exact h2 j
theorem O0.entry {w:World} {r:Nat} {f:Int→Int} (h:O0 w r f) (k:Int):
  ∃(v0:Value) (st:Nat) (w1:World),(Instr.mapEntry 51 (.map (some r)) (.int .i64 k)).run Tryz.prog w= .ok (.tuple #[v0,.int .i64 st]) w1∧IV w w1 r∧
   ∀(w2:World) (v:Int),w2.heap[r]?=w1.heap[r]?→ ∃w3,(Instr.entryStore 51 (.map (some r)) (.int .i64 st) (.int .i64 v)).run Tryz.prog w2= .ok () w3∧O0 w3 r (Qg8 f k v)∧IV w2 w3 r:=by
 obtain⟨g,h1,h2⟩:=h
 have hz:(zeroValue 3).run Tryz.prog w= .ok (.int .i64 0) w:=by kernel_rfl
 obtain⟨v0,st,w1,a1,a2,a3⟩:=h1.entry Tryz.underlying51 Tryz.underlying3 hz k
 refine⟨v0,st,w1,a1,a2,fun w2 v h3=> ?_⟩
 obtain⟨w3,b1,b2,b3⟩:=a3 w2 (.int .i64 v) h3
 refine⟨w3,b1,⟨_,b2,fun j=> ?_⟩,b3⟩
 unfold Z5 Qg8
 by_cases e:j=k
 ·rw[if_pos e,if_pos e];rfl
 ·rw[if_neg e,if_neg e];exact h2 j
section
variable {w w':World} {D e L S:Nat} {A:Option Addr} {cap:Nat} {l:List Int} {c:Qn0} {F:Nat→Prop} {m:ZX} {lots side lots' side':Int→Int} {since:Int} {hands:Bool}
theorem Qc9.lotsTo (h:Qc9 w D e L S A cap l c F m lots side since hands) (ht:IV w w' L) (hm:O0 w' L lots'):Qc9 w' D e L S A cap l c F m lots' side since hands:=by
 have hk:=ht.keeps
 exact⟨QJ.keeps h.box hk h.dl,h.eng.keeps hk (fun i hi e=>h.nL (e▸hi)),hm,h.side_.of_block (ht.block _ (fun e=>h.ls e.symm)),h.tab.keeps hk (fun g hg e=>(h.ad g hg).2.1 e),h.cfg,h.nD,h.nL,h.nS,h.nA,h.dl,h.ds,h.ls,h.ad⟩
theorem Qc9.sideTo (h:Qc9 w D e L S A cap l c F m lots side since hands) (ht:IV w w' S) (hm:O0 w' S side'):Qc9 w' D e L S A cap l c F m lots side' since hands:=by
 have hk:=ht.keeps
 exact⟨QJ.keeps h.box hk h.ds,h.eng.keeps hk (fun i hi e=>h.nS (e▸hi)),h.lots_.of_block (ht.block _ h.ls),hm,h.tab.keeps hk (fun g hg e=>(h.ad g hg).2.2 e),h.cfg,h.nD,h.nL,h.nS,h.nA,h.dl,h.ds,h.ls,h.ad⟩
theorem Qc9.boxTo {since':Int} {hands':Bool} (h:Qc9 w D e L S A cap l c F m lots side since hands) (hk:QK (fun i=>i=D) w w') (hb:QJ w' D 53 (Jh9 e L S A cap c since' hands')):Qc9 w' D e L S A cap l c F m lots side since' hands':=
 ⟨hb,h.eng.keeps hk (fun i hi e=>h.nD (e▸hi)),h.lots_.of_block (hk.block _ h.lots_.lt (fun e=>h.dl e.symm)),h.side_.of_block (hk.block _ h.side_.lt (fun e=>h.ds e.symm)),h.tab.keeps hk (fun g hg e=>(h.ad g hg).1 e),h.cfg,h.nD,h.nL,h.nS,h.nA,h.dl,h.ds,h.ls,h.ad⟩
theorem Qc9.sinceTo (h:Qc9 w D e L S A cap l c F m lots side since hands) (v:Int):Qc9 (w.setCell ⟨D,9,none⟩ (.int .i64 v)) D e L S A cap l c F m lots side v hands:=
 h.boxTo (QK.set_ w ⟨D,9,none⟩ _) (QJ.set_ h.box 9 _)
theorem Qc9.handsTo (h:Qc9 w D e L S A cap l c F m lots side since hands) (v:Bool):Qc9 (w.setCell ⟨D,10,none⟩ (.bool v)) D e L S A cap l c F m lots side since v:=
 h.boxTo (QK.set_ w ⟨D,10,none⟩ _) (QJ.set_ h.box 10 _)
theorem Qc9.cells (h:Qc9 w D e L S A cap l c F m lots side since hands):w.cell? ⟨D,0,none⟩=some (.pointer (some ⟨e,0,none⟩))∧w.cell? ⟨D,1,none⟩=some (.slice A 5 cap)∧w.cell? ⟨D,2,none⟩=some (.int .i64 c.st)∧w.cell? ⟨D,3,none⟩=some (.int .i64 c.dy)∧w.cell? ⟨D,4,none⟩=some (.int .i64 c.pr)∧w.cell? ⟨D,5,none⟩=some (.int .i64 c.tk)∧w.cell? ⟨D,6,none⟩=some (.int .i64 c.mo)∧w.cell? ⟨D,7,none⟩=some (.map (some L))∧w.cell? ⟨D,8,none⟩=some (.map (some S))∧w.cell? ⟨D,9,none⟩=some (.int .i64 since)∧w.cell? ⟨D,10,none⟩=some (.bool hands):=
 ⟨by rw[QJ.cell h.box];rfl,by rw[QJ.cell h.box];rfl,by rw[QJ.cell h.box];rfl,by rw[QJ.cell h.box];rfl,by rw[QJ.cell h.box];rfl,by rw[QJ.cell h.box];rfl,by rw[QJ.cell h.box];rfl,by rw[QJ.cell h.box];rfl,by rw[QJ.cell h.box];rfl,by rw[QJ.cell h.box];rfl,by rw[QJ.cell h.box];rfl⟩
end
end Go.Proofs.YtnlngicnfegjgaaGreat
