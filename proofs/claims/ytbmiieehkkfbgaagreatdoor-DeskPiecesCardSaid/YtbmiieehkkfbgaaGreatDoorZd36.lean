/- Contracts and walks that the law's proof needs. -/
import Derived.WalkKit
import Derived.WalkLawsBesides
import Derived.WalkSpells
import Derived.StillTailTactics
import Derived.Deep.QuietTactic
import Derived.BigQuiet
import Derived.Deep.DeepCutAuto
import Derived.Test.YtbmiieehkkfbgaaGreatDoorZd34
import Derived.Test.YtbmiieehkkfbgaaGreatDoorZd10
import Derived.Test.YtbmiieehkkfbgaaGreatDoorZd9
import Derived.Test.YtbmiieehkkfbgaaGreatDoorZd19
import Derived.Test.YtbmiieehkkfbgaaGreatDoorZd3
import Derived.BigRegion
import Derived.Deep.CutBlock
import Derived.Test.YtbmiieehkkfbgaaGreatDoorZd35
set_option linter.unusedVariables false
set_option maxRecDepth 100000
set_option maxHeartbeats 8000000
namespace Go.Proofs.YtbmiieehkkfbgaaGreatDoor
open Go.ChangeMaps Go.RowKit
def Jz2 (ps:List (Int×Int)) (st dy p tk mo:Int):VQ:=⟨ps,st,dy,tk,mo,p,p,[],[],[],[],1,0,0,0⟩
def Qj2 (ps:List (Int×Int)) (st dy p tk mo n pl:Int):Prop:=
 (TabIs ps n pl∧n≠0)∨(U6 ps∧(X9 p st &&X9 p dy)=false∧n=2∧pl= -1)∨
 (U6 ps∧(X9 p st &&X9 p dy)=true∧(tk<1∨1000000<tk∨mo<0∨10<mo)∧n=2∧pl= -1)∨
 (U6 ps∧(X9 p st &&X9 p dy)=true∧ ¬(tk<1∨1000000<tk∨mo<0∨10<mo)∧n=0∧pl= -1)
structure Kz7 (w1 w2:World) (tb:Nat) (T:Option Addr) (tc:Nat) (ps:List (Int×Int)):Prop where
 lo:w1.heap.size≤tb
 lt:tb<w2.heap.size
 cell:w2.cell? ⟨tb,0,none⟩=some (.slice T ps.length tc)
 prs:I8 w2 T ps.length tc ps
 far: ∀g,QZ T=some g→w1.heap.size≤g∧g≠tb
 pos:0<ps.length
structure Kz8 (w2 w3:World) (bb:Nat) (st dy p:Int):Prop where
 below:Below w2.heap.size w2 w3
 lo:w2.heap.size≤bb
 at_:Q9 w3 bb st dy p p
structure Ke2 (w3 w5:World) (bk:Nat) (G:Nat→Prop) (im:Nat):Prop where
 below:Below w3.heap.size w3 w5
 book:Q1 w5 bk G [] []
 lo: ∀i,G i→w3.heap.size≤i
 map_:J2 w5 im [] 0
 ilo:w3.heap.size≤im
 ig: ¬G im
theorem Kz9 {w3 w4 w4':World} {bk:Nat} {G:Nat→Prop} (h:Below w3.heap.size w3 w4) (hG: ∀i,G i→w4'.heap.size≤i) (hs:w3.heap.size≤w4'.heap.size) (hb:Q1 w4 bk G [] []):Ke2 w3 (w4.alloc (.map #[] 0)) bk G w4.heap.size:=
 ⟨h.alloc h.size _,hb.below ((Below.refl _ w4).alloc (Nat.le_refl _) _),fun i hi=>Nat.le_trans hs (hG i hi),J2.made w4,h.size,fun hi=>Nat.lt_irrefl _ (hb.fp hi)⟩
theorem Za0 {w3 w4 w5:World} {bk im:Nat} {G:Nat→Prop} (h:Below w3.heap.size w3 w4) (hm:J2 w4 im [] 0) (hi:w3.heap.size=im) (h5:Below w4.heap.size w4 w5) (hG: ∀i,G i→w4.heap.size≤i) (hb:Q1 w5 bk G [] []):Ke2 w3 w5 bk G im:=
 ⟨h.trans (h5.mono h.size),hb,fun i hx=>Nat.le_trans h.size (hG i hx),hm.below h5 hm.lt,Nat.le_of_eq hi,fun hx=>by have:=hG _ hx;have:=hm.lt;omega⟩
theorem Kj0 {w1 w2 w3 w5 w9:World} {tb bb bk im E:Nat} {T A:Option Addr} {tc len cap:Nat} {ps:List (Int×Int)} {st dy p tk mo:Int} {G:Nat→Prop}
  (ht:Kz7 w1 w2 tb T tc ps) (hb:Kz8 w2 w3 bb st dy p) (hm:Ke2 w3 w5 bk G im) (h9:Below w5.heap.size w5 w9)
  (he:QJ w9 E 126 #[.slice A len cap,.int .i64 st,.int .i64 dy,.int .i64 p,.int .i64 tk,.int .i64 mo,.pointer (some ⟨tb,0,none⟩),.pointer (some ⟨bb,0,none⟩),.pointer (some ⟨bk,0,none⟩),.slice none 0 0,.int .i64 0,.int .i64 0,.slice none 0 0,.map (some im),.int .i64 1,.int .i64 0,.int .i64 0,.int .i64 0]) (hE:w5.heap.size=E):
  ∃F,YQ w9 E F (Jz2 ps st dy p tk mo)∧ ∀i,F i→w1.heap.size≤i:=by
 have b25:Below w2.heap.size w2 w5:=hb.below.trans (hm.below.mono hb.below.size)
 have b29:=b25.trans (h9.mono b25.size)
 have b39:=hm.below.trans (h9.mono hm.below.size)
 have l1:=QJ.lt he
 have l2:=QJ.lt hb.at_
 have s3:=hb.below.size
 have s5:=hm.below.size
 have s9:=h9.size
 have hTl: ∀i,QZ T=some i→i<w2.heap.size:=fun i hi=>by
  obtain⟨b,off,h1,h2,-⟩:=ht.prs.2 ht.pos;rw[h1]at hi;have e1:b=i:=by simpa [QZ]using hi
  omega
 have hGl: ∀i,G i→i<w5.heap.size:=fun i hi=>hm.book.fp hi
 have hil:=hm.map_.lt
 have t1:=ht.lo
 have t2:=ht.lt
 have b1:=hb.lo
 have i1:=hm.ilo
 refine⟨_,UZ.at_ (own:=fun i k=>(i=E∧k=1)∨((i=tb∨QZ T=some i)∧k=2)∨(i=bb∧k=3)∨(G i∧k=4)∨(i=im∧k=7)) (g:=fun s k=>Q3 s k []) (m:=Jz2 ps st dy p tk mo) (cs:= #[.slice A len cap,.int .i64 st,.int .i64 dy,.int .i64 p,.int .i64 tk,.int .i64 mo,.pointer (some ⟨tb,0,none⟩),.pointer (some ⟨bb,0,none⟩),.pointer (some ⟨bk,0,none⟩),.slice none 0 0,.int .i64 0,.int .i64 0,.slice none 0 0,.map (some im),.int .i64 1,.int .i64 0,.int .i64 0,.int .i64 0]) (tb:=tb) (bb:=bb) (bk:=bk) (im:=im) (T:=T) (tc:=tc) (Al:=none) (lc:=0) (lv:= []) (bu:=0) (se:=0) (Ap:=none) (pc:=0) (es:= []) (mc:=0) (G:=G) ⟨⟨he,rfl,rfl,rfl,World.ownsRow_nil _ _ _ _,by simp[QZ],Xt3⟩,⟨rfl,rfl,rfl,rfl,rfl,rfl,rfl,rfl,rfl,rfl,rfl,rfl⟩,Xe8,Nat.lt_of_lt_of_le t2 b29.size,(b29.cell (p:=⟨tb,0,none⟩) t2).trans ht.cell,ht.prs.below b29 (Nat.le_refl _),QJ.keep hb.at_ b39,hm.book.below h9,World.ownsRow_nil _ _ _ _,hm.map_.below h9 hil,by simp[Qn7],fun k=>by simp[V7,Jz2],⟨?_, ?_⟩,.inl ⟨rfl,rfl⟩,.inr (.inl ⟨.inl rfl,rfl⟩),fun i hi=> .inr (.inl ⟨.inr hi,rfl⟩),.inr (.inr (.inl ⟨rfl,rfl⟩)),fun i hi=> .inr (.inr (.inr (.inl ⟨hi,rfl⟩))),fun i hi=>by simp[QZ]at hi,fun i hi=>by simp[QZ]at hi,.inr (.inr (.inr (.inr ⟨rfl,rfl⟩)))⟩ (fun _ _ _=>rfl), ?_⟩
 ·have cls: ∀i k,((i=E∧k=1)∨((i=tb∨QZ T=some i)∧k=2)∨(i=bb∧k=3)∨(G i∧k=4)∨(i=im∧k=7))→(k=1∧w5.heap.size≤i)∨(k=2∧i<w2.heap.size)∨(k=3∧w2.heap.size≤i∧i<w3.heap.size)∨(k=4∧G i∧w3.heap.size≤i∧i<w5.heap.size)∨(k=7∧i=im∧w3.heap.size≤i∧i<w5.heap.size):=by
   rintro i k (⟨rfl,rfl⟩|⟨rfl|h,rfl⟩|⟨rfl,rfl⟩|⟨h,rfl⟩|⟨rfl,rfl⟩)
   ·exact .inl ⟨rfl,by omega⟩
   ·exact .inr (.inl ⟨rfl,t2⟩)
   ·exact .inr (.inl ⟨rfl,hTl i h⟩)
   ·exact .inr (.inr (.inl ⟨rfl,b1,l2⟩))
   ·exact .inr (.inr (.inr (.inl ⟨rfl,h,hm.lo i h,hGl i h⟩)))
   ·exact .inr (.inr (.inr (.inr ⟨rfl,rfl,i1,hil⟩)))
  intro i k k' h1 h2;rcases cls i k h1 with h|h|h|h|h<;>rcases cls i k' h2 with h'|h'|h'|h'|h'<;>first
   |omega
   |exact absurd h.2.1 (by rw[h'.2.1];exact hm.ig)
   |exact absurd h'.2.1 (by rw[h.2.1];exact hm.ig)
 ·rintro i k (⟨rfl,rfl⟩|⟨rfl|h,rfl⟩|⟨rfl,rfl⟩|⟨h,rfl⟩|⟨rfl,rfl⟩)
  ·exact l1
  ·omega
  ·have:=hTl i h;omega
  ·omega
  ·have:=hGl i h;omega
  ·omega
 ·rintro i ⟨k,⟨rfl,rfl⟩|⟨rfl|h,rfl⟩|⟨rfl,rfl⟩|⟨h,rfl⟩|⟨rfl,rfl⟩⟩
  ·omega
  ·omega
  ·exact(ht.far i h).1
  ·omega
  ·have:=hm.lo i h;omega
  ·omega
def Za1 (ps:List (Int×Int)) (st dy p tk mo:Int) (w:World) (e:Ending) (w':World):Prop:=
 Below w.heap.size w w'∧((∃v n pl,e= .returned (.tuple #[.pointer none,v])∧Xc5 w' v n pl∧n≠0∧Qj2 ps st dy p tk mo n pl)∨
  (Qj2 ps st dy p tk mo 0 (-1)∧ ∃E F,e= .returned (.tuple #[.pointer (some ⟨E,0,none⟩),.nilIface])∧YQ w' E F (Jz2 ps st dy p tk mo)∧ ∀i,F i→w.heap.size≤i))
theorem Zk3 {w:World} {g:Nat} {t:TypeId} {a b c d e f:Value} (h:QJ w g t #[a,b,c,d,e,f]):w.cell? ⟨g,0,none⟩=some a∧w.cell? ⟨g,1,none⟩=some b∧w.cell? ⟨g,2,none⟩=some c∧w.cell? ⟨g,3,none⟩=some d∧w.cell? ⟨g,4,none⟩=some e∧w.cell? ⟨g,5,none⟩=some f:=
 ⟨by rw[QJ.cell h];rfl,by rw[QJ.cell h];rfl,by rw[QJ.cell h];rfl,by rw[QJ.cell h];rfl,by rw[QJ.cell h];rfl,by rw[QJ.cell h];rfl⟩
theorem Za2 (A:Option Addr) (len cap:Nat) (ps:List (Int×Int)) (st dy p tk mo:Int) (w:World) (h:I8 w A len cap ps) (hm:len≤9223372036854775807):
  Calls Tryz.prog 61 #[.agg #[.slice A len cap,.int .i64 st,.int .i64 dy,.int .i64 p,.int .i64 tk,.int .i64 mo]] w (Za1 ps st dy p tk mo w):=by
 have hb1:Below w.heap.size w (w.alloc (.cells #[.slice A len cap,.int .i64 st,.int .i64 dy,.int .i64 p,.int .i64 tk,.int .i64 mo] 26)):=(Below.refl _ w).alloc (Nat.le_refl _) _
 have hX:=QJ.new w 26 #[.slice A len cap,.int .i64 st,.int .i64 dy,.int .i64 p,.int .i64 tk,.int .i64 mo]
 obtain⟨w1,ew1⟩: ∃W,w.alloc (.cells #[.slice A len cap,.int .i64 st,.int .i64 dy,.int .i64 p,.int .i64 tk,.int .i64 mo] 26)=W:=⟨_,rfl⟩
 obtain⟨X,eX⟩: ∃g,w.heap.size=g:=⟨_,rfl⟩
 rw[ew1]at hb1 hX
 rw[eX]at hX
 have hnew:=Ku2 A len cap ps w1 (h.below hb1 (Nat.le_refl _)) hm
 have HNew:=QQ hnew
 have HB1:=QQ hb1
 have HX:=QQ hX
 obtain⟨x0,x1,x2,x3,x4,x5⟩:=Zk3 hX
 clear hb1 hX hnew h
 go_enter Tryz.func61,Tryz.ntmps61
 go_upto_region 1 with fail
 try rw[ew1]
 try rw[eX]
 clear ew1 eX
 go_wp2_with fail
 refine HNew.out.mono ?_
 rintro ev w2 ⟨hb2,hor⟩
 have HB2:=QQ (HB1.out.trans (hb2.mono HB1.out.size))
 have HX2:=QQ (QJ.keep HX.out hb2)
 have HS12:=QQ hb2.size
 clear x0 x1 x2 x3 x4 x5 hb2 HNew HX
 rcases hor with⟨h1,rfl⟩|⟨h1,rfl⟩|⟨h1,h2,i,hi,ha,hn,g,rfl,hg,c0,c1⟩|⟨h1,h2,h3,tb,T,tc,rfl,h5,h6,h7,h8,h9⟩
 ·have HC:Hid (Qj2 ps st dy p tk mo 8 (-1)):=QQ (.inl ⟨.inl ⟨h1,rfl,rfl⟩,by omega⟩)
  clear h1;go_wp2_with fail
  go_ret2;exact⟨HB2.out,.inl ⟨_,8,-1,rfl,.inr (.inl ⟨rfl,rfl⟩),by omega,HC.out⟩⟩
 ·have HC:Hid (Qj2 ps st dy p tk mo 4 (-1)):=QQ (.inl ⟨.inr (.inl ⟨h1,rfl,rfl⟩),by omega⟩)
  clear h1;go_wp2_with fail
  go_ret2;exact⟨HB2.out,.inl ⟨_,4,-1,rfl,.inr (.inl ⟨rfl,rfl⟩),by omega,HC.out⟩⟩
 ·have HC:Hid (Qj2 ps st dy p tk mo (IV ps i) i):=QQ (.inl ⟨.inr (.inr (.inl ⟨h1,h2,i,hi,ha,hn,rfl,rfl⟩)),hn⟩)
  have HE:Hid (Xc5 w2 (.iface 196 (.pointer (some ⟨g,0,none⟩))) (IV ps i) i):=QQ (.inr (.inr ⟨g,rfl,c0,c1⟩));have HN:=QQ hn;clear h1 h2 hi ha hn hg c0 c1;go_wp2_with fail
  go_ret2;exact⟨HB2.out,.inl ⟨_,_,_,rfl,HE.out,HN.out,HC.out⟩⟩
 ·have HTab:=QQ (Kz7.mk (w1:=w1) (w2:=w2) (tb:=tb) (T:=T) (tc:=tc) (ps:=ps) h5 h6 h7 h8 h9 h1)
  have HOk:Hid (U6 ps):=QQ ⟨h1,h2,h3⟩;have HBn:=QQ (Xk8 st dy p w2);obtain⟨x0,x1,x2,x3,x4,x5⟩:=Zk3 HX2.out;clear h1 h2 h3 h5 h6 h7 h8 h9;go_wp2_with fail
  refine HBn.out.mono ?_;rintro ev w3 ⟨hb3,hor⟩;have HB3:=QQ (HB2.out.trans (hb3.mono HB2.out.size));have HX3:=QQ (QJ.keep HX2.out hb3);have HB23:=QQ hb3;clear x0 x1 x2 x3 x4 x5 hb3 HBn HX2;rcases hor with⟨hbk,bb,hbl,rfl,hba⟩|⟨hbk,rfl⟩
  ·have HBnd:=QQ (Kz8.mk (st:=st) (dy:=dy) (p:=p) HB23.out hbl hba)
   have HBo:=QQ hbk;clear hbl hba hbk;obtain⟨x0,x1,x2,x3,x4,x5⟩:=Zk3 HX3.out
   by_cases hbad:tk<1∨1000000<tk∨mo<0∨10<mo
   ·have HC:Hid (Qj2 ps st dy p tk mo 2 (-1)):=QQ (.inr (.inr (.inl ⟨HOk.out,HBo.out,hbad,rfl,rfl⟩)))
    by_cases h1:tk<1
    ·have d1:=J0 h1
     clear hbad h1;go_wp2_with fail
     go_ret2;exact⟨HB3.out,.inl ⟨_,2,-1,rfl,.inr (.inl ⟨rfl,rfl⟩),by omega,HC.out⟩⟩
    ·have d1:=OY h1
     by_cases h2:tk>1000000
     ·have d2:=J0 h2
      clear hbad h1 h2;go_wp2_with fail
      go_ret2;exact⟨HB3.out,.inl ⟨_,2,-1,rfl,.inr (.inl ⟨rfl,rfl⟩),by omega,HC.out⟩⟩
     ·have d2:=OY h2
      by_cases h3:mo<0
      ·have d3:=J0 h3
       clear hbad h1 h2 h3;go_wp2_with fail
       go_ret2;exact⟨HB3.out,.inl ⟨_,2,-1,rfl,.inr (.inl ⟨rfl,rfl⟩),by omega,HC.out⟩⟩
      ·have d3:=OY h3
       have h4:mo>10:=by omega
       have d4:=J0 h4;clear hbad h1 h2 h3 h4;go_wp2_with fail
       go_ret2;exact⟨HB3.out,.inl ⟨_,2,-1,rfl,.inr (.inl ⟨rfl,rfl⟩),by omega,HC.out⟩⟩
   ·have HCfg:Hid (Qj2 ps st dy p tk mo 0 (-1)):=QQ (.inr (.inr (.inr ⟨HOk.out,HBo.out,hbad,rfl,rfl⟩)))
    have d1:decide (tk<1)=false:=OY (by omega);have d2:decide (tk>1000000)=false:=OY (by omega);have d3:decide (mo<0)=false:=OY (by omega);have d4:decide (mo>10)=false:=OY (by omega);clear hbad;go_upto_region 9 with fail
    refine XY (fun t=> [].contains t) (fun W=>W.cell? ⟨X,0,none⟩=some (.slice A len cap)∧W.cell? ⟨X,1,none⟩=some (.int .i64 st)∧W.cell? ⟨X,2,none⟩=some (.int .i64 dy)∧W.cell? ⟨X,3,none⟩=some (.int .i64 p)∧W.cell? ⟨X,4,none⟩=some (.int .i64 tk)∧W.cell? ⟨X,5,none⟩=some (.int .i64 mo)) (by kernel_rfl) ⟨x0,x1,x2,x3,x4,x5⟩ (fun hS0=> ?_);refine tM 0 (.agg #[.slice A len cap,.int .i64 st,.int .i64 dy,.int .i64 p,.int .i64 tk,.int .i64 mo]) ?_;refine tM 1 (.pointer (some ⟨tb,0,none⟩)) ?_;refine tM 2 (.pointer (some ⟨bb,0,none⟩)) ?_;refine Jn2 (i:=3) (j:=4) (by kernel_rfl) ?_ ?_
    ·skip
     refine opM 3 rfl (fun K1 hK1=> ?_);go_simp;refine(Qx9 w3.drew).mono ?_;rintro ev w4 ⟨hb4,bk,G,hG,rfl,hbk⟩;have hb4':Below w3.heap.size w3 w4:=(Below.drew (Below.refl _ w3)).trans hb4;have hS4:(fun W:World=>W.cell? ⟨X,0,none⟩=some (.slice A len cap)∧W.cell? ⟨X,1,none⟩=some (.int .i64 st)∧W.cell? ⟨X,2,none⟩=some (.int .i64 dy)∧W.cell? ⟨X,3,none⟩=some (.int .i64 p)∧W.cell? ⟨X,4,none⟩=some (.int .i64 tk)∧W.cell? ⟨X,5,none⟩=some (.int .i64 mo)) w4:=⟨QV x0 hb4',QV x1 hb4',QV x2 hb4',QV x3 hb4',QV x4 hb4',QV x5 hb4'⟩;refine hK1 _ _ (fun _=>hS4) ?_;clear hK1 hS0;refine oM 4 fun K2 hK2=> ?_
     have hmm:= @run_makeMap Tryz.prog;go_simp;clear hmm;have hn5:=Kz9 hb4' hG (Nat.le_refl _) hbk;obtain⟨im,eim⟩: ∃g,w4.heap.size=g:=⟨_,rfl⟩;obtain⟨w5,ew5⟩: ∃W,w4.alloc (.map #[] 0)=W:=⟨_,rfl⟩;rw[ew5,eim]at hn5;rw[ew5]
     try rw[eim]
     have hS5:(fun W:World=>W.cell? ⟨X,0,none⟩=some (.slice A len cap)∧W.cell? ⟨X,1,none⟩=some (.int .i64 st)∧W.cell? ⟨X,2,none⟩=some (.int .i64 dy)∧W.cell? ⟨X,3,none⟩=some (.int .i64 p)∧W.cell? ⟨X,4,none⟩=some (.int .i64 tk)∧W.cell? ⟨X,5,none⟩=some (.int .i64 mo)) w5:=⟨QV x0 hn5.below,QV x1 hn5.below,QV x2 hn5.below,QV x3 hn5.below,QV x4 hn5.below,QV x5 hn5.below⟩;refine hK2 _ _ (fun _=>hS5) ?_;clear hK2 ew5 eim hS4 hb4 hb4' hG hbk;refine tM 5 (.agg #[.slice A len cap,.int .i64 st,.int .i64 dy,.int .i64 p,.int .i64 tk,.int .i64 mo,.pointer (some ⟨tb,0,none⟩),.pointer (some ⟨bb,0,none⟩),.pointer (some ⟨bk,0,none⟩),.slice none 0 0,.int .i64 0,.int .i64 0,.slice none 0 0,.map (some im),.int .i64 1,.int .i64 0,.int .i64 0,.int .i64 0]) ?_;refine oM 6 fun K3 hK3=> ?_
     go_simp;have hq9:Below w5.heap.size w5 (w5.alloc (.cells #[.slice A len cap,.int .i64 st,.int .i64 dy,.int .i64 p,.int .i64 tk,.int .i64 mo,.pointer (some ⟨tb,0,none⟩),.pointer (some ⟨bb,0,none⟩),.pointer (some ⟨bk,0,none⟩),.slice none 0 0,.int .i64 0,.int .i64 0,.slice none 0 0,.map (some im),.int .i64 1,.int .i64 0,.int .i64 0,.int .i64 0] 126)):=(Below.refl _ _).alloc (Nat.le_refl _) _;have he9:=QJ.new w5 126 #[.slice A len cap,.int .i64 st,.int .i64 dy,.int .i64 p,.int .i64 tk,.int .i64 mo,.pointer (some ⟨tb,0,none⟩),.pointer (some ⟨bb,0,none⟩),.pointer (some ⟨bk,0,none⟩),.slice none 0 0,.int .i64 0,.int .i64 0,.slice none 0 0,.map (some im),.int .i64 1,.int .i64 0,.int .i64 0,.int .i64 0];obtain⟨w9,ew9⟩: ∃W,w5.alloc (.cells #[.slice A len cap,.int .i64 st,.int .i64 dy,.int .i64 p,.int .i64 tk,.int .i64 mo,.pointer (some ⟨tb,0,none⟩),.pointer (some ⟨bb,0,none⟩),.pointer (some ⟨bk,0,none⟩),.slice none 0 0,.int .i64 0,.int .i64 0,.slice none 0 0,.map (some im),.int .i64 1,.int .i64 0,.int .i64 0,.int .i64 0] 126)=W:=⟨_,rfl⟩;obtain⟨E,eE⟩: ∃g,w5.heap.size=g:=⟨_,rfl⟩;rw[ew9]at hq9 he9⊢;rw[eE]at he9⊢;have hD9:=QQ (Kj0 HTab.out HBnd.out hn5 hq9 he9 eE);have hB9:=QQ (hn5.below.trans (hq9.mono hn5.below.size));have hS9:(fun W:World=>W.cell? ⟨X,0,none⟩=some (.slice A len cap)∧W.cell? ⟨X,1,none⟩=some (.int .i64 st)∧W.cell? ⟨X,2,none⟩=some (.int .i64 dy)∧W.cell? ⟨X,3,none⟩=some (.int .i64 p)∧W.cell? ⟨X,4,none⟩=some (.int .i64 tk)∧W.cell? ⟨X,5,none⟩=some (.int .i64 mo)) w9:=⟨QV x0 hB9.out,QV x1 hB9.out,QV x2 hB9.out,QV x3 hB9.out,QV x4 hB9.out,QV x5 hB9.out⟩;refine hK3 _ _ (fun _=>hS9) ?_;clear hK3 ew9 eE hq9 he9 hn5
     try simp only[Act.put]
     refine tM 7 (.pointer (some ⟨E,0,none⟩)) ?_;refine tM 8 (.nilIface) ?_;refine VJ (by kernel_rfl) ?_ _;go_wp2_with fail
     go_ret2;obtain⟨Fn,hE1,hE2⟩:=hD9.out;exact⟨HB3.out.trans (hB9.out.mono HB3.out.size),.inr ⟨HCfg.out,E,Fn,rfl,hE1,fun i hi=>Nat.le_trans HB1.out.size (hE2 i hi)⟩⟩
    ·skip
     refine opM 4 rfl (fun K1 hK1=> ?_);have hmm:= @run_makeMap Tryz.prog;go_simp;clear hmm;have hm4:=J2.made w3;have hb4:Below w3.heap.size w3 (w3.alloc (.map #[] 0)).drew:=Below.drew ((Below.refl _ w3).alloc (Nat.le_refl _) _);have hm4':J2 (w3.alloc (.map #[] 0)).drew w3.heap.size [] 0:=hm4.of_block rfl;have hS4:(fun W:World=>W.cell? ⟨X,0,none⟩=some (.slice A len cap)∧W.cell? ⟨X,1,none⟩=some (.int .i64 st)∧W.cell? ⟨X,2,none⟩=some (.int .i64 dy)∧W.cell? ⟨X,3,none⟩=some (.int .i64 p)∧W.cell? ⟨X,4,none⟩=some (.int .i64 tk)∧W.cell? ⟨X,5,none⟩=some (.int .i64 mo)) (w3.alloc (.map #[] 0)).drew:=⟨QV x0 hb4,QV x1 hb4,QV x2 hb4,QV x3 hb4,QV x4 hb4,QV x5 hb4⟩;obtain⟨im,eim⟩: ∃g,w3.heap.size=g:=⟨_,rfl⟩;obtain⟨w4,ew4⟩: ∃W,(w3.alloc (.map #[] 0)).drew=W:=⟨_,rfl⟩;rw[ew4]at hm4' hb4 hS4;rw[eim]at hm4'
     try rw[ew4]
     try rw[eim]
     refine hK1 _ _ (fun _=>hS4) ?_;clear hK1 hS0 hm4 ew4;refine oM 3 fun K2 hK2=> ?_
     go_simp;refine(Qx9 w4).mono ?_;rintro ev w5 ⟨hb5,bk,G,hG,rfl,hbk⟩;have hn5:=Za0 hb4 hm4' eim hb5 hG hbk;have hS5:(fun W:World=>W.cell? ⟨X,0,none⟩=some (.slice A len cap)∧W.cell? ⟨X,1,none⟩=some (.int .i64 st)∧W.cell? ⟨X,2,none⟩=some (.int .i64 dy)∧W.cell? ⟨X,3,none⟩=some (.int .i64 p)∧W.cell? ⟨X,4,none⟩=some (.int .i64 tk)∧W.cell? ⟨X,5,none⟩=some (.int .i64 mo)) w5:=⟨QV x0 hn5.below,QV x1 hn5.below,QV x2 hn5.below,QV x3 hn5.below,QV x4 hn5.below,QV x5 hn5.below⟩;refine hK2 _ _ (fun _=>hS5) ?_;clear hK2 eim hS4 hb4 hb5 hm4' hG hbk;refine tM 5 (.agg #[.slice A len cap,.int .i64 st,.int .i64 dy,.int .i64 p,.int .i64 tk,.int .i64 mo,.pointer (some ⟨tb,0,none⟩),.pointer (some ⟨bb,0,none⟩),.pointer (some ⟨bk,0,none⟩),.slice none 0 0,.int .i64 0,.int .i64 0,.slice none 0 0,.map (some im),.int .i64 1,.int .i64 0,.int .i64 0,.int .i64 0]) ?_;refine oM 6 fun K3 hK3=> ?_
     go_simp;have hq9:Below w5.heap.size w5 (w5.alloc (.cells #[.slice A len cap,.int .i64 st,.int .i64 dy,.int .i64 p,.int .i64 tk,.int .i64 mo,.pointer (some ⟨tb,0,none⟩),.pointer (some ⟨bb,0,none⟩),.pointer (some ⟨bk,0,none⟩),.slice none 0 0,.int .i64 0,.int .i64 0,.slice none 0 0,.map (some im),.int .i64 1,.int .i64 0,.int .i64 0,.int .i64 0] 126)):=(Below.refl _ _).alloc (Nat.le_refl _) _;have he9:=QJ.new w5 126 #[.slice A len cap,.int .i64 st,.int .i64 dy,.int .i64 p,.int .i64 tk,.int .i64 mo,.pointer (some ⟨tb,0,none⟩),.pointer (some ⟨bb,0,none⟩),.pointer (some ⟨bk,0,none⟩),.slice none 0 0,.int .i64 0,.int .i64 0,.slice none 0 0,.map (some im),.int .i64 1,.int .i64 0,.int .i64 0,.int .i64 0];obtain⟨w9,ew9⟩: ∃W,w5.alloc (.cells #[.slice A len cap,.int .i64 st,.int .i64 dy,.int .i64 p,.int .i64 tk,.int .i64 mo,.pointer (some ⟨tb,0,none⟩),.pointer (some ⟨bb,0,none⟩),.pointer (some ⟨bk,0,none⟩),.slice none 0 0,.int .i64 0,.int .i64 0,.slice none 0 0,.map (some im),.int .i64 1,.int .i64 0,.int .i64 0,.int .i64 0] 126)=W:=⟨_,rfl⟩;obtain⟨E,eE⟩: ∃g,w5.heap.size=g:=⟨_,rfl⟩;rw[ew9]at hq9 he9⊢;rw[eE]at he9⊢;have hD9:=QQ (Kj0 HTab.out HBnd.out hn5 hq9 he9 eE);have hB9:=QQ (hn5.below.trans (hq9.mono hn5.below.size));have hS9:(fun W:World=>W.cell? ⟨X,0,none⟩=some (.slice A len cap)∧W.cell? ⟨X,1,none⟩=some (.int .i64 st)∧W.cell? ⟨X,2,none⟩=some (.int .i64 dy)∧W.cell? ⟨X,3,none⟩=some (.int .i64 p)∧W.cell? ⟨X,4,none⟩=some (.int .i64 tk)∧W.cell? ⟨X,5,none⟩=some (.int .i64 mo)) w9:=⟨QV x0 hB9.out,QV x1 hB9.out,QV x2 hB9.out,QV x3 hB9.out,QV x4 hB9.out,QV x5 hB9.out⟩;refine hK3 _ _ (fun _=>hS9) ?_;clear hK3 ew9 eE hq9 he9 hn5
     try simp only[Act.put]
     refine tM 7 (.pointer (some ⟨E,0,none⟩)) ?_;refine tM 8 (.nilIface) ?_;refine VJ (by kernel_rfl) ?_ _;go_wp2_with fail
     go_ret2;obtain⟨Fn,hE1,hE2⟩:=hD9.out;exact⟨HB3.out.trans (hB9.out.mono HB3.out.size),.inr ⟨HCfg.out,E,Fn,rfl,hE1,fun i hi=>Nat.le_trans HB1.out.size (hE2 i hi)⟩⟩
  ·have HC:Hid (Qj2 ps st dy p tk mo 2 (-1)):=QQ (.inr (.inl ⟨HOk.out,hbk,rfl,rfl⟩))
   rw[Qq5];clear hbk;go_wp2_with fail
   go_ret2;exact⟨HB3.out,.inl ⟨_,2,-1,rfl,.inr (.inl ⟨rfl,rfl⟩),by omega,HC.out⟩⟩
end Go.Proofs.YtbmiieehkkfbgaaGreatDoor
namespace Go.Proofs.YtbmiieehkkfbgaaGreatDoor
open Go.RowKit
theorem Xm1 {w:World} {e:Nat} {F:Nat→Prop} {m:VQ} (h:YQ w e F m) (hI:Qn2 m):
  Calls Tryz.prog 98 #[.pointer (some ⟨e,0,none⟩)] w fun ev w'=>ZY w w' e F (Y6 m) (J5 m) ev:=by
 have hE:=h
 obtain⟨cs,tb,bb,bk,im,T,tc,Al,lc,lv,bu,se,Ap,pc,es,mc,G,own,hM,hF⟩:=h
 have c7:=hM.cell hM.ec.c7
 have HM:=QQ hM
 have HF:=QQ hF
 have HI:=QQ hI
 have HE:=QQ hE
 obtain⟨⟨t0,t1,t2⟩,ht⟩: ∃q,YX m=q:=⟨_,rfl⟩
 have HT:=QQ ht
 have hw2:=fun W hW=>Jm2 hM hI.la W hW
 rw[ht]at hw2
 unfold Qq4 at hw2
 dsimp only at hw2
 have HW:=QQ hw2
 clear hM hF hw2 ht hE hI
 go_enter Tryz.func98,Tryz.ntmps98
 go_upto_region 1 with fail
 go_cut [3] (fun s3 wx=> ∃g,s3= .pointer (some ⟨g,0,none⟩)∧QJ wx g 86 #[.int .i64 t0,.int .i64 t1,.int .i64 t2]∧Below w.heap.size w wx∧w.heap.size≤g)
 case first=>
  have HBd:=QQ HM.out.bands;have hb0:Below w.heap.size w w.drew:=Below.drew (Below.refl _ _);refine XY (fun t=> [10].contains t) (fun W=>W.cell? ⟨e,7,none⟩=some (.pointer (some ⟨bb,0,none⟩))) (by kernel_rfl) (show w.drew.cell? ⟨e,7,none⟩=some (.pointer (some ⟨bb,0,none⟩))from c7) (fun hS0=> ?_);obtain⟨w0,ew0⟩: ∃W,w.drew=W:=⟨_,rfl⟩;rw[ew0]at hb0 hS0⊢;clear ew0;refine tM 0 (.pointer (some ⟨e,0,none⟩)) ?_;refine tM 1 (.pointer (some ⟨e,0,none⟩)) ?_;refine tM 2 (.pointer (some ⟨e,9,none⟩)) ?_;refine tM 3 (.pointer (some ⟨e,0,none⟩)) ?_;refine tM 4 (.pointer (some ⟨e,0,none⟩)) ?_;refine tM 5 (.pointer (some ⟨e,7,none⟩)) ?_;refine tM 6 (.pointer (some ⟨bb,0,none⟩)) ?_;refine Jn2 (i:=7) (j:=9) (by kernel_rfl) ?_ ?_
  ·skip
   refine opM 7 rfl (fun K1 hK1=> ?_);go_simp
   go_at_call 90
   refine(Qr6 bb m.st m.dy m.an m.la _ (QJ.keep HBd.out hb0)).mono ?_;rintro ev wx ⟨rfl,rfl⟩;refine hK1 _ _ (fun _=>hS0) ?_;clear hK1;refine Jn2 (i:=8) (j:=9) (by kernel_rfl) ?_ ?_
   ·skip
    refine opM 8 rfl (fun K2 hK2=> ?_);go_simp
    go_at_call 89
    refine(HW.out _ hb0).mono ?_;rintro ev w2 ⟨rfl,hq2⟩;have hb2:=hb0.trans (hq2.mono hb0.size);have hS2:=QV hS0 hq2;refine hK2 _ _ (fun _=>hS2) ?_;clear hK2;refine oM 9 fun K3 hK3=> ?_
    go_simp;have hq3:Below w2.heap.size w2 (w2.alloc (.cells #[.int .i64 0,.int .i64 0,.int .i64 0] 86)):=(Below.refl _ _).alloc (Nat.le_refl _) _;have hx3:=QJ.new w2 86 #[.int .i64 0,.int .i64 0,.int .i64 0];have hg3:w.heap.size≤w2.heap.size:=hb2.size;obtain⟨g3,eg3⟩: ∃g,w2.heap.size=g:=⟨_,rfl⟩;obtain⟨w3,ew3⟩: ∃W,w2.alloc (.cells #[.int .i64 0,.int .i64 0,.int .i64 0] 86)=W:=⟨_,rfl⟩;rw[ew3]at hq3 hx3⊢;have hb3:=hb2.trans (hq3.mono hb2.size);have hS3:=QV hS2 hq3;rw[eg3]at hx3 hg3⊢;clear ew3 eg3;refine hK3 _ _ (fun _=>hS3) ?_;clear hK3;refine oM 10 fun K4 hK4=> ?_
    refine(if_pos (by rfl)).mpr ?_;refine wp_store_row 86 _ _ rfl (g3) #[.int .i64 t0,.int .i64 t1,.int .i64 t2] rfl rfl 86 #[.int .i64 0,.int .i64 0,.int .i64 0] hx3 (by show(Tryz.prog.info? 86).map (·.size)=some 3;kernel_rfl) rfl (by simp[Value.oneCell']) ?_;have hx4:=QJ.setRow _ _ _ #[.int .i64 t0,.int .i64 t1,.int .i64 t2] _ hx3;have hk4:=QK.setRow w3 (g3) #[.int .i64 t0,.int .i64 t1,.int .i64 t2];obtain⟨w4,ew4⟩: ∃W,w3.setRow (g3) #[.int .i64 t0,.int .i64 t1,.int .i64 t2]=W:=⟨_,rfl⟩;rw[ew4]at hx4 hk4⊢;clear ew4;refine hK4 _ _ (fun e=>absurd e (by decide)) ?_;clear hK4;have hb4:=hb3.trans (hk4.below (fun i e=>e▸hg3) hb3.size);simp only[Act.put];refine VJ (by kernel_rfl) ?_ _;go_wp2_with fail
    go_meet;exact⟨_,rfl,hx4,hb4,hg3⟩
   ·skip
    refine opM 9 rfl (fun K5 hK5=> ?_);go_simp;have hq5:Below w0.heap.size w0 (w0.alloc (.cells #[.int .i64 0,.int .i64 0,.int .i64 0] 86)):=(Below.refl _ _).alloc (Nat.le_refl _) _;have hx5:=QJ.new w0 86 #[.int .i64 0,.int .i64 0,.int .i64 0];have hg5:w.heap.size≤w0.heap.size:=hb0.size;obtain⟨g5,eg5⟩: ∃g,w0.heap.size=g:=⟨_,rfl⟩;obtain⟨w5,ew5⟩: ∃W,w0.alloc (.cells #[.int .i64 0,.int .i64 0,.int .i64 0] 86)=W:=⟨_,rfl⟩;rw[ew5]at hq5 hx5⊢;have hb5:=hb0.trans (hq5.mono hb0.size);have hS5:=QV hS0 hq5;rw[eg5]at hx5 hg5⊢;clear ew5 eg5;refine hK5 _ _ (fun _=>hS5) ?_;clear hK5;refine oM 8 fun K6 hK6=> ?_
    go_simp
    go_at_call 89
    refine(HW.out _ hb5).mono ?_;rintro ev w6 ⟨rfl,hq6⟩;have hb6:=hb5.trans (hq6.mono hb5.size);have hS6:=QV hS5 hq6;refine hK6 _ _ (fun _=>hS6) ?_;clear hK6;have hy5:=QJ.keep hx5 hq6;refine oM 10 fun K7 hK7=> ?_
    refine(if_pos (by rfl)).mpr ?_;refine wp_store_row 86 _ _ rfl (g5) #[.int .i64 t0,.int .i64 t1,.int .i64 t2] rfl rfl 86 #[.int .i64 0,.int .i64 0,.int .i64 0] hy5 (by show(Tryz.prog.info? 86).map (·.size)=some 3;kernel_rfl) rfl (by simp[Value.oneCell']) ?_;have hx7:=QJ.setRow _ _ _ #[.int .i64 t0,.int .i64 t1,.int .i64 t2] _ hy5;have hk7:=QK.setRow w6 (g5) #[.int .i64 t0,.int .i64 t1,.int .i64 t2];obtain⟨w7,ew7⟩: ∃W,w6.setRow (g5) #[.int .i64 t0,.int .i64 t1,.int .i64 t2]=W:=⟨_,rfl⟩;rw[ew7]at hx7 hk7⊢;clear ew7;refine hK7 _ _ (fun e=>absurd e (by decide)) ?_;clear hK7;have hb7:=hb6.trans (hk7.below (fun i e=>e▸hg5) hb6.size);simp only[Act.put];refine VJ (by kernel_rfl) ?_ _;go_wp2_with fail
    go_meet;exact⟨_,rfl,hx7,hb7,hg5⟩
  ·skip
   refine opM 9 rfl (fun K8 hK8=> ?_);go_simp;have hq8:Below w0.heap.size w0 (w0.alloc (.cells #[.int .i64 0,.int .i64 0,.int .i64 0] 86)):=(Below.refl _ _).alloc (Nat.le_refl _) _;have hx8:=QJ.new w0 86 #[.int .i64 0,.int .i64 0,.int .i64 0];have hg8:w.heap.size≤w0.heap.size:=hb0.size;obtain⟨g8,eg8⟩: ∃g,w0.heap.size=g:=⟨_,rfl⟩;obtain⟨w8,ew8⟩: ∃W,w0.alloc (.cells #[.int .i64 0,.int .i64 0,.int .i64 0] 86)=W:=⟨_,rfl⟩;rw[ew8]at hq8 hx8⊢;have hb8:=hb0.trans (hq8.mono hb0.size);have hS8:=QV hS0 hq8;rw[eg8]at hx8 hg8⊢;clear ew8 eg8;refine hK8 _ _ (fun _=>hS8) ?_;clear hK8;refine oM 7 fun K9 hK9=> ?_
   go_simp
   go_at_call 90
   refine(Qr6 bb m.st m.dy m.an m.la _ (QJ.keep HBd.out hb8)).mono ?_;rintro ev wx ⟨rfl,rfl⟩;refine hK9 _ _ (fun _=>hS8) ?_;clear hK9;refine oM 8 fun K10 hK10=> ?_
   go_simp
   go_at_call 89
   refine(HW.out _ hb8).mono ?_;rintro ev w10 ⟨rfl,hq10⟩;have hb10:=hb8.trans (hq10.mono hb8.size);have hS10:=QV hS8 hq10;refine hK10 _ _ (fun _=>hS10) ?_;clear hK10;have hy8:=QJ.keep hx8 hq10;refine oM 10 fun K11 hK11=> ?_
   refine(if_pos (by rfl)).mpr ?_;refine wp_store_row 86 _ _ rfl (g8) #[.int .i64 t0,.int .i64 t1,.int .i64 t2] rfl rfl 86 #[.int .i64 0,.int .i64 0,.int .i64 0] hy8 (by show(Tryz.prog.info? 86).map (·.size)=some 3;kernel_rfl) rfl (by simp[Value.oneCell']) ?_;have hx11:=QJ.setRow _ _ _ #[.int .i64 t0,.int .i64 t1,.int .i64 t2] _ hy8;have hk11:=QK.setRow w10 (g8) #[.int .i64 t0,.int .i64 t1,.int .i64 t2];obtain⟨w11,ew11⟩: ∃W,w10.setRow (g8) #[.int .i64 t0,.int .i64 t1,.int .i64 t2]=W:=⟨_,rfl⟩;rw[ew11]at hx11 hk11⊢;clear ew11;refine hK11 _ _ (fun e=>absurd e (by decide)) ?_;clear hK11;have hb11:=hb10.trans (hk11.below (fun i e=>e▸hg8) hb10.size);simp only[Act.put];refine VJ (by kernel_rfl) ?_ _;go_wp2_with fail
   go_meet;exact⟨_,rfl,hx11,hb11,hg8⟩
 case rest=>
  obtain⟨gq,rfl,hq,hb,hg⟩:=hcut;have hMc:=HM.out.below hb;have hEc:=HE.out.below hb;have c7:=hMc.cell hMc.ec.c7;obtain⟨q0,q1,q2⟩:=Jm3 hq;have HCm:=QQ (fun W (hW:Below wc.heap.size wc W)=>Xt9 bb m.st m.dy m.an m.la t0 W (QJ.keep hMc.bands hW));have HMc:=QQ hMc;have HEc:=QQ hEc;have HB:=QQ hb;have HOB:=QQ (VW.of_below (o:=own) hb);have HBs:=QQ (KQ.of_below (G:=F) hb);obtain⟨cb,hcb⟩: ∃b,Jc7 m.st m.an t0=b:=⟨_,rfl⟩;rw[hcb]at HCm;have hcalm:Jq1 m↔(t1=0∨cb=true):=by unfold Jq1;rw[HT.out,←hcb]
  have HCalm:=QQ hcalm;clear hMc hEc hb hq hg hcb hcalm HW
  by_cases h1:t1=0
  ·have d1:=Z2 h1
   have HS:Hid (Y6 m=Qn6 m∧J5 m= {Qw3 m with ph:=3}):=QQ ⟨by funext F;unfold Y6;rw[if_pos (HCalm.out.2 (.inl h1))],by unfold J5;rw[if_pos (HCalm.out.2 (.inl h1))]⟩;clear h1;go_wp2_with fail
   go_quiet (fail)
   go_wp2_with fail
   refine(Ql4 (HEc.out.below (QY (Below.refl _ _) _)) HI.out.la).mono ?_;rintro ev w6 ⟨A,c,Fs,rfl,hunc,hrow,hnew,F2,hE2,hs2,hno⟩;have HFt:=QQ (show ZY _ w6 e F (Qn6 m) (Qw3 m) (.returned (.slice A (List.length Fs) c))from⟨A,c,Fs,rfl,hunc,hrow,hnew,F2,hE2,hs2,hno⟩);obtain⟨-,x1,x2,-⟩:=hE2.setPh 3;clear hunc hrow hnew hE2 hs2 hno;go_wp2_with fail
   go_ret;rw[HS.out.1,HS.out.2];exact(HFt.out.setPh 3).pre (HB.out.trans ((show Below wc.heap.size wc _ from(QY (Below.refl _ _) _)).mono HB.out.size))
  ·have d1:=YW h1
   cases cb with
   |true=>
    have HS:Hid (Y6 m=Qn6 m∧J5 m= {Qw3 m with ph:=3}):=QQ ⟨by funext F;unfold Y6;rw[if_pos (HCalm.out.2 (.inr rfl))],by unfold J5;rw[if_pos (HCalm.out.2 (.inr rfl))]⟩;clear h1;go_wp2_with fail
    go_still_tail 10,(by kernel_rfl)
    change wpList _ _ _ _ _ wc.drew;go_wp2_with fail
    refine(HCm.out wc.drew (Below.drew (Below.refl _ _))).mono ?_;rintro ev w5 ⟨rfl,hb5⟩;have hbw:=(Below.drew (Below.refl _ wc)).trans hb5;have HBw:=QQ hbw;clear q0 q1 q2 c7 hb5 hbw HCm;go_wp2_with fail
    go_wp2_with fail
    refine(Ql4 (HEc.out.below HBw.out) HI.out.la).mono ?_;rintro ev w6 ⟨A,c,Fs,rfl,hunc,hrow,hnew,F2,hE2,hs2,hno⟩;have HFt:=QQ (show ZY _ w6 e F (Qn6 m) (Qw3 m) (.returned (.slice A (List.length Fs) c))from⟨A,c,Fs,rfl,hunc,hrow,hnew,F2,hE2,hs2,hno⟩);obtain⟨-,x1,x2,-⟩:=hE2.setPh 3;clear hunc hrow hnew hE2 hs2 hno;go_wp2_with fail
    go_ret;rw[HS.out.1,HS.out.2];exact(HFt.out.setPh 3).pre (HB.out.trans ((show Below wc.heap.size wc _ from HBw.out).mono HB.out.size))
   |false=>
    have HC0:=QQ (fun h=>(HCalm.out.1 h).elim h1 (fun h=>by cases h));have c7:=c7;go_wp2_with fail
    go_still_tail 10,(by kernel_rfl)
    change wpList _ _ _ _ _ wc.drew;go_wp2_with fail
    refine(HCm.out wc.drew (Below.drew (Below.refl _ _))).mono ?_;rintro ev w5 ⟨rfl,hb5⟩;have hbw:=(Below.drew (Below.refl _ wc)).trans hb5;have HBw:=QQ hbw;have hM5:=HMc.out.below hbw;have c17:=hM5.cell hM5.ec.c17;have c5:=hM5.cell hM5.ec.c5;have f17:=hM5.frozen 17;have c14:=hM5.cell hM5.ec.c14;have f14:=hM5.frozen 14;clear q0 q1 q2 c7 hb5 hbw HCm;obtain⟨lg,hlg⟩: ∃v,m.lng=v:=⟨_,rfl⟩;obtain⟨mo,hmo⟩: ∃v,m.mo=v:=⟨_,rfl⟩;rw[hlg]at c17;rw[hmo]at c5;have HLg:=QQ (And.intro hlg hmo);have hI:=HI.out;have hlr:=hI.lng;rw[hlg]at hlr;have HM5:=QQ hM5;clear hlg hmo hI hM5
    by_cases h2:lg<mo
    ·have d2:=J0 h2
     have HS:Hid (Y6 m []∧J5 m= {m with lng:=m.lng+1,ends:=m.now+m.tk}):=QQ ⟨by unfold Y6;rw[if_neg HC0.out],by unfold J5;rw[if_neg HC0.out,if_pos (by rw[HLg.out.1,HLg.out.2];exact h2)]⟩;have i1:RowKit.wrap64 (lg+1)=lg+1:=by unfold RowKit.wrap64;omega
     clear h2;go_wp2_with fail
     go_quiet (fail)
     go_upto_region 9 with fail
     obtain⟨hM6,ho6⟩:=(HM5.out.below (QY (Below.refl _ w5) nq)).setLng (lg+1);obtain⟨w6,ew6⟩: ∃W,(w5.drewN nq).setCell ⟨e,17,none⟩ (.int .i64 (lg+1))=W:=⟨_,rfl⟩;rw[ew6]at hM6 ho6⊢;clear c17 f17 c14 f14 c5 i1 ew6;have c15:=hM6.cell hM6.ec.c15;have c4:=hM6.cell hM6.ec.c4;have c16:=hM6.cell hM6.ec.c16;have f16:=hM6.frozen 16;have i2:RowKit.wrap64 (m.now+m.tk)=m.now+m.tk:=by
      have h1:=HI.out.now;have h2:=HI.out.tk;unfold RowKit.wrap64;omega
     obtain⟨hM7,ho7⟩:=(hM6.below (Below.drew (Below.refl _ w6))).setEnds (m.now+m.tk);have HM7:=QQ hM7;have HO7:=QQ ((ho6.trans (VW.of_below (Below.drew (Below.refl _ w6)))).trans ho7);clear hM6 hM7 ho6 ho7
     go_still_tail 13,(by kernel_rfl)
     change wpList _ _ _ _ _ w6.drew;go_wp2_with fail
     go_ret;rw[HS.out.2,HLg.out.1];have hb5:Below w.heap.size w (w5.drewN nq):=HB.out.trans ((QY HBw.out nq).mono HB.out.size);exact ZY.none_ ⟨_,UZ.at_ HM7.out (fun _ _ _=>rfl),(((VW.of_below hb5).trans HO7.out)).bstep HF.out⟩ HS.out.1
    ·have d2:=OY h2
     have HS:Hid (Y6 m []∧J5 m= {m with ph:=6}):=QQ ⟨by unfold Y6;rw[if_neg HC0.out],by unfold J5;rw[if_neg HC0.out,if_neg (by rw[HLg.out.1,HLg.out.2];exact h2)]⟩;clear h2;go_wp2_with fail
     go_quiet (fail)
     go_wp2_with fail
     go_ret;rw[HS.out.2];have hb5:Below w.heap.size w (w5.drewN nq):=HB.out.trans ((QY HBw.out nq).mono HB.out.size);obtain⟨hM7,ho7⟩:=(HM5.out.below (QY (Below.refl _ w5) nq)).setPh 6;exact ZY.none_ ⟨_,UZ.at_ hM7 (fun _ _ _=>rfl),(((VW.of_below hb5).trans ho7)).bstep HF.out⟩ HS.out.1
end Go.Proofs.YtbmiieehkkfbgaaGreatDoor
