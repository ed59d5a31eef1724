/- Contracts and walks that the law's proof needs. -/
import Derived.WalkKit
import Derived.WalkLawsBesides
import Derived.WalkSpells
import Derived.StillTailTactics
import Derived.Deep.QuietTactic
import Derived.BigQuiet
import Derived.BigRegion
import Derived.Deep.DeepCutAuto
import Derived.Deep.CutBlock
import Derived.Test.YtnlngicnfegjgaaGreatZf41
import Derived.Test.YtnlngicnfegjgaaGreatZf11
import Derived.Test.YtnlngicnfegjgaaGreatZf10
import Derived.Test.YtnlngicnfegjgaaGreatZf21
import Derived.Test.YtnlngicnfegjgaaGreatZf8
set_option linter.unusedVariables false
set_option maxRecDepth 100000
set_option maxHeartbeats 8000000
namespace Go.Proofs.YtnlngicnfegjgaaGreat
open Go.RowKit
def VQ (w w':World) (e:Nat) (F:Nat→Prop) (P:List JV→Prop) (m:ZX) (ev:Ending):Prop:=
 ∃A c Fs,ev= .returned (.slice A (List.length Fs) c)∧P Fs∧QY w' A Fs.length c 48 4 (QW Qb1 Fs)∧(∀g,QV A=some g→w.heap.size≤g)∧ ∃F',UY w' e F' m∧XW w w' F F'∧ ∀g,QV A=some g→ ¬F' g
theorem VQ.none_ {w w':World} {e:Nat} {F:Nat→Prop} {P:List JV→Prop} {m:ZX} (h:YK w w' e F m) (hP:P []):VQ w w' e F P m (.returned (.slice none 0 0)):=by
 obtain⟨F',h1,h2⟩:=h
 exact⟨none,0,[],rfl,hP,World.ownsRow_nil _ _ _ _,fun g hg=>by simp[QV]at hg,F',h1,h2,fun g hg=>by simp[QV]at hg⟩
theorem UY.setPh {w:World} {e:Nat} {F:Nat→Prop} {m:ZX} (h:UY w e F m) (v:Int):YK w (w.setCell ⟨e,14,none⟩ (.int .i64 v)) e F {m with ph:=v}∧w.cell? ⟨e,14,none⟩=some (.int .i64 m.ph)∧w.frozen? ⟨e,14,none⟩=false∧F e:=by
 obtain⟨cs,tb,bb,bk,im,T,tc,Al,lc,lv,bu,se,Ap,pc,es,mc,G,own,hM,hF⟩:=h
 obtain⟨h1,h2⟩:=hM.setPh v
 exact⟨⟨_,h1.at_ (fun _ _ _=>rfl),h2.bstep hF⟩,hM.cell hM.ec.c14,hM.frozen 14,(hF e).2 ⟨1,hM.oe⟩⟩
theorem YK.trans {w w1 w2:World} {e:Nat} {F:Nat→Prop} {m1 m2:ZX} (h:YK w w1 e F m1) (k: ∀F1,UY w1 e F1 m1→YK w1 w2 e F1 m2):YK w w2 e F m2:=by
 obtain⟨F1,h1,h2⟩:=h
 obtain⟨F2,h3,h4⟩:=k F1 h1
 exact⟨F2,h3,h2.trans h4⟩
theorem VQ.setPh {w w':World} {e:Nat} {F:Nat→Prop} {P:List JV→Prop} {m:ZX} {ev:Ending} (h:VQ w w' e F P m ev) (v:Int):VQ w (w'.setCell ⟨e,14,none⟩ (.int .i64 v)) e F P {m with ph:=v} ev:=by
 obtain⟨A,c,Fs,h1,h2,h3,h4,F',h5,h6,h7⟩:=h
 obtain⟨⟨F2,h8,h9⟩,-,-,h10⟩:=h5.setPh v
 refine⟨A,c,Fs,h1,h2,h3.keeps (QK.set_ w' ⟨e,14,none⟩ (.int .i64 v)) (fun g hg hge=>h7 g hg (by have h3:g=e:=hge;rw[h3];exact h10)),h4,F2,h8,h6.trans h9,fun g hg hF=> ?_⟩
 rcases h9.2 g hF with h11|h11
 ·exact h7 g hg h11
 ·have:=h3.lt hg;omega
theorem VQ.pre {w w1 w':World} {e:Nat} {F:Nat→Prop} {P:List JV→Prop} {m:ZX} {ev:Ending} (hb:Below w.heap.size w w1) (h:VQ w1 w' e F P m ev):VQ w w' e F P m ev:=by
 obtain⟨A,c,Fs,h1,h2,h3,h4,F',h5,h6,h7⟩:=h
 exact⟨A,c,Fs,h1,h2,h3,fun g hg=>Nat.le_trans hb.size (h4 g hg),F',h5,(XW.of_below hb).trans h6,h7⟩
theorem YK.pre {w w1 w':World} {e:Nat} {F:Nat→Prop} {m:ZX} (hb:Below w.heap.size w w1) (h:YK w1 w' e F m):YK w w' e F m:=by
 obtain⟨F',h1,h2⟩:=h
 exact⟨F',h1,(XW.of_below hb).trans h2⟩
structure Qj4 (m:ZX):Prop where
 tab:0<m.rows.length∧m.rows.length≤20
 tk:0≤m.tk∧m.tk≤1000000
 la:1≤m.la∧m.la≤1000000
 now:0≤m.now∧m.now≤1000000000000
 lng:0≤m.lng∧m.lng≤1000000000000
 pk: ∀o∈m.pk,Qe5 o
 pkn:m.pk.length≤100000
theorem Xq7 {w:World} {e:Nat} {F:Nat→Prop} {m:ZX} (h:UY w e F m) (hI:Qj4 m) (p:Int):
  Calls Tryz.prog 24 #[.pointer (some ⟨e,0,none⟩),.int .i64 p] w fun ev w'=>VQ w w' e F (Qk0 m p) (X6 m p) ev:=by
 have HU:=QQ (Ql2 h hI.la)
 have HC:=QQ (Jn7 h hI.pk hI.pkn)
 have HPh:=QQ (h.setPh p)
 have hE:=QQ h
 clear hI h
 by_cases c3:p=3
 ·have d3:=J3 c3
  have HE:Hid (Qk0 m p=Qt4 m∧X6 m p= {Qr1 m with ph:=3}):=QQ ⟨by funext F;unfold Qk0;rw[if_pos c3],by unfold X6;rw[if_pos c3]⟩;rw[HE.out.1,HE.out.2];clear c3;go_enter Tryz.func24,Tryz.ntmps24
  go_wp2_with fail
  refine HU.out.mono ?_;rintro ev w2 ⟨A,c,Fs,rfl,hunc,hrow,hnew,F2,hE2,hs2,hno⟩;have HF:=QQ (show VQ w w2 e F (Qt4 m) (Qr1 m) (.returned (.slice A (List.length Fs) c))from⟨A,c,Fs,rfl,hunc,hrow,hnew,F2,hE2,hs2,hno⟩);obtain⟨-,x1,x2,-⟩:=hE2.setPh 3;clear hunc hrow hnew hE2 hs2 hno;go_wp2_with fail
  go_ret;exact HF.out.setPh 3
 ·have d3:=UX c3
  by_cases c5:p=5
  ·have d5:=J3 c5
   have HE:Hid (Qk0 m p []∧X6 m p=Qg6 m):=QQ ⟨by unfold Qk0;rw[if_neg c3],by unfold X6;rw[if_neg c3,if_pos c5]⟩;rw[HE.out.2];clear c3 c5;go_enter Tryz.func24,Tryz.ntmps24
   go_wp2_with fail
   refine HC.out.mono ?_;rintro ev w2 ⟨rfl,hto⟩;have HTo:=QQ hto;clear hto;go_wp2_with fail
   go_ret;exact VQ.none_ HTo.out HE.out.1
  ·have d5:=UX c5
   have HE:Hid (Qk0 m p []∧X6 m p= {m with ph:=p}):=QQ ⟨by unfold Qk0;rw[if_neg c3],by unfold X6;rw[if_neg c3,if_neg c5]⟩;rw[HE.out.2];obtain⟨-,x1,x2,-⟩:=HPh.out;clear c3 c5;go_enter Tryz.func24,Tryz.ntmps24
   go_wp2_with fail
   go_ret;exact VQ.none_ HPh.out.1 HE.out.1
end Go.Proofs.YtnlngicnfegjgaaGreat
namespace Go.Proofs.YtnlngicnfegjgaaGreat
open Go.ChangeMaps Go.RowKit
def Jv5 (ps:List (Int×Int)) (st dy p tk mo:Int):ZX:=⟨ps,st,dy,tk,mo,p,p,[],[],[],[],1,0,0,0⟩
def Jb5 (ps:List (Int×Int)) (st dy p tk mo n pl:Int):Prop:=
 (Kv1 ps n pl∧n≠0)∨(Z4 ps∧(Q5 p st &&Q5 p dy)=false∧n=2∧pl= -1)∨
 (Z4 ps∧(Q5 p st &&Q5 p dy)=true∧(tk<1∨1000000<tk∨mo<0∨10<mo)∧n=2∧pl= -1)∨
 (Z4 ps∧(Q5 p st &&Q5 p dy)=true∧ ¬(tk<1∨1000000<tk∨mo<0∨10<mo)∧n=0∧pl= -1)
structure Kp9 (w1 w2:World) (tb:Nat) (T:Option Addr) (tc:Nat) (ps:List (Int×Int)):Prop where
 lo:w1.heap.size≤tb
 lt:tb<w2.heap.size
 cell:w2.cell? ⟨tb,0,none⟩=some (.slice T ps.length tc)
 prs:O1 w2 T ps.length tc ps
 far: ∀g,QV T=some g→w1.heap.size≤g∧g≠tb
 pos:0<ps.length
structure Kq0 (w2 w3:World) (bb:Nat) (st dy p:Int):Prop where
 below:Below w2.heap.size w2 w3
 lo:w2.heap.size≤bb
 at_:J0 w3 bb st dy p p
structure Xy4 (w3 w5:World) (bk:Nat) (G:Nat→Prop) (im:Nat):Prop where
 below:Below w3.heap.size w3 w5
 book:Q1 w5 bk G [] []
 lo: ∀i,G i→w3.heap.size≤i
 map_:Q3 w5 im [] 0
 ilo:w3.heap.size≤im
 ig: ¬G im
theorem Kq1 {w3 w4 w4':World} {bk:Nat} {G:Nat→Prop} (h:Below w3.heap.size w3 w4) (hG: ∀i,G i→w4'.heap.size≤i) (hs:w3.heap.size≤w4'.heap.size) (hb:Q1 w4 bk G [] []):Xy4 w3 (w4.alloc (.map #[] 0)) bk G w4.heap.size:=
 ⟨h.alloc h.size _,hb.below ((Below.refl _ w4).alloc (Nat.le_refl _) _),fun i hi=>Nat.le_trans hs (hG i hi),Q3.made w4,h.size,fun hi=>Nat.lt_irrefl _ (hb.fp hi)⟩
theorem Kq2 {w3 w4 w5:World} {bk im:Nat} {G:Nat→Prop} (h:Below w3.heap.size w3 w4) (hm:Q3 w4 im [] 0) (hi:w3.heap.size=im) (h5:Below w4.heap.size w4 w5) (hG: ∀i,G i→w4.heap.size≤i) (hb:Q1 w5 bk G [] []):Xy4 w3 w5 bk G im:=
 ⟨h.trans (h5.mono h.size),hb,fun i hx=>Nat.le_trans h.size (hG i hx),hm.below h5 hm.lt,Nat.le_of_eq hi,fun hx=>by have:=hG _ hx;have:=hm.lt;omega⟩
theorem Kc4 {w1 w2 w3 w5 w9:World} {tb bb bk im E:Nat} {T A:Option Addr} {tc len cap:Nat} {ps:List (Int×Int)} {st dy p tk mo:Int} {G:Nat→Prop}
  (ht:Kp9 w1 w2 tb T tc ps) (hb:Kq0 w2 w3 bb st dy p) (hm:Xy4 w3 w5 bk G im) (h9:Below w5.heap.size w5 w9)
  (he:QJ w9 E 77 #[.slice A len cap,.int .i64 st,.int .i64 dy,.int .i64 p,.int .i64 tk,.int .i64 mo,.pointer (some ⟨tb,0,none⟩),.pointer (some ⟨bb,0,none⟩),.pointer (some ⟨bk,0,none⟩),.slice none 0 0,.int .i64 0,.int .i64 0,.slice none 0 0,.map (some im),.int .i64 1,.int .i64 0,.int .i64 0,.int .i64 0]) (hE:w5.heap.size=E):
  ∃F,UY w9 E F (Jv5 ps st dy p tk mo)∧ ∀i,F i→w1.heap.size≤i:=by
 have b25:Below w2.heap.size w2 w5:=hb.below.trans (hm.below.mono hb.below.size)
 have b29:=b25.trans (h9.mono b25.size)
 have b39:=hm.below.trans (h9.mono hm.below.size)
 have l1:=QJ.lt he
 have l2:=QJ.lt hb.at_
 have s3:=hb.below.size
 have s5:=hm.below.size
 have s9:=h9.size
 have hTl: ∀i,QV T=some i→i<w2.heap.size:=fun i hi=>by
  obtain⟨b,off,h1,h2,-⟩:=ht.prs.2 ht.pos;rw[h1]at hi;have e1:b=i:=by simpa [QV]using hi
  omega
 have hGl: ∀i,G i→i<w5.heap.size:=fun i hi=>hm.book.fp hi
 have hil:=hm.map_.lt
 have t1:=ht.lo
 have t2:=ht.lt
 have b1:=hb.lo
 have i1:=hm.ilo
 refine⟨_,UJ.at_ (own:=fun i k=>(i=E∧k=1)∨((i=tb∨QV T=some i)∧k=2)∨(i=bb∧k=3)∨(G i∧k=4)∨(i=im∧k=7)) (g:=fun s k=>Q2 s k []) (m:=Jv5 ps st dy p tk mo) (cs:= #[.slice A len cap,.int .i64 st,.int .i64 dy,.int .i64 p,.int .i64 tk,.int .i64 mo,.pointer (some ⟨tb,0,none⟩),.pointer (some ⟨bb,0,none⟩),.pointer (some ⟨bk,0,none⟩),.slice none 0 0,.int .i64 0,.int .i64 0,.slice none 0 0,.map (some im),.int .i64 1,.int .i64 0,.int .i64 0,.int .i64 0]) (tb:=tb) (bb:=bb) (bk:=bk) (im:=im) (T:=T) (tc:=tc) (Al:=none) (lc:=0) (lv:= []) (bu:=0) (se:=0) (Ap:=none) (pc:=0) (es:= []) (mc:=0) (G:=G) ⟨⟨he,rfl,rfl,rfl,World.ownsRow_nil _ _ _ _,by simp[QV],Xo0⟩,⟨rfl,rfl,rfl,rfl,rfl,rfl,rfl,rfl,rfl,rfl,rfl,rfl⟩,Xa5,Nat.lt_of_lt_of_le t2 b29.size,(b29.cell (p:=⟨tb,0,none⟩) t2).trans ht.cell,ht.prs.below b29 (Nat.le_refl _),QJ.keep hb.at_ b39,hm.book.below h9,World.ownsRow_nil _ _ _ _,hm.map_.below h9 hil,by simp[Qg9],fun k=>by simp[Z2,Jv5],⟨?_, ?_⟩,.inl ⟨rfl,rfl⟩,.inr (.inl ⟨.inl rfl,rfl⟩),fun i hi=> .inr (.inl ⟨.inr hi,rfl⟩),.inr (.inr (.inl ⟨rfl,rfl⟩)),fun i hi=> .inr (.inr (.inr (.inl ⟨hi,rfl⟩))),fun i hi=>by simp[QV]at hi,fun i hi=>by simp[QV]at hi,.inr (.inr (.inr (.inr ⟨rfl,rfl⟩)))⟩ (fun _ _ _=>rfl), ?_⟩
 ·have cls: ∀i k,((i=E∧k=1)∨((i=tb∨QV T=some i)∧k=2)∨(i=bb∧k=3)∨(G i∧k=4)∨(i=im∧k=7))→(k=1∧w5.heap.size≤i)∨(k=2∧i<w2.heap.size)∨(k=3∧w2.heap.size≤i∧i<w3.heap.size)∨(k=4∧G i∧w3.heap.size≤i∧i<w5.heap.size)∨(k=7∧i=im∧w3.heap.size≤i∧i<w5.heap.size):=by
   rintro i k (⟨rfl,rfl⟩|⟨rfl|h,rfl⟩|⟨rfl,rfl⟩|⟨h,rfl⟩|⟨rfl,rfl⟩)
   ·exact .inl ⟨rfl,by omega⟩
   ·exact .inr (.inl ⟨rfl,t2⟩)
   ·exact .inr (.inl ⟨rfl,hTl i h⟩)
   ·exact .inr (.inr (.inl ⟨rfl,b1,l2⟩))
   ·exact .inr (.inr (.inr (.inl ⟨rfl,h,hm.lo i h,hGl i h⟩)))
   ·exact .inr (.inr (.inr (.inr ⟨rfl,rfl,i1,hil⟩)))
  intro i k k' h1 h2;rcases cls i k h1 with h|h|h|h|h<;>rcases cls i k' h2 with h'|h'|h'|h'|h'<;>first
   |omega
   |exact absurd h.2.1 (by rw[h'.2.1];exact hm.ig)
   |exact absurd h'.2.1 (by rw[h.2.1];exact hm.ig)
 ·rintro i k (⟨rfl,rfl⟩|⟨rfl|h,rfl⟩|⟨rfl,rfl⟩|⟨h,rfl⟩|⟨rfl,rfl⟩)
  ·exact l1
  ·omega
  ·have:=hTl i h;omega
  ·omega
  ·have:=hGl i h;omega
  ·omega
 ·rintro i ⟨k,⟨rfl,rfl⟩|⟨rfl|h,rfl⟩|⟨rfl,rfl⟩|⟨h,rfl⟩|⟨rfl,rfl⟩⟩
  ·omega
  ·omega
  ·exact(ht.far i h).1
  ·omega
  ·have:=hm.lo i h;omega
  ·omega
def Kq3 (ps:List (Int×Int)) (st dy p tk mo:Int) (w:World) (e:Ending) (w':World):Prop:=
 Below w.heap.size w w'∧((∃v n pl,e= .returned (.tuple #[.pointer none,v])∧Xk3 w' v n pl∧n≠0∧Jb5 ps st dy p tk mo n pl)∨
  (Jb5 ps st dy p tk mo 0 (-1)∧ ∃E F,e= .returned (.tuple #[.pointer (some ⟨E,0,none⟩),.nilIface])∧UY w' E F (Jv5 ps st dy p tk mo)∧ ∀i,F i→w.heap.size≤i))
theorem Xh8 {w:World} {g:Nat} {t:TypeId} {a b c d e f:Value} (h:QJ w g t #[a,b,c,d,e,f]):w.cell? ⟨g,0,none⟩=some a∧w.cell? ⟨g,1,none⟩=some b∧w.cell? ⟨g,2,none⟩=some c∧w.cell? ⟨g,3,none⟩=some d∧w.cell? ⟨g,4,none⟩=some e∧w.cell? ⟨g,5,none⟩=some f:=
 ⟨by rw[QJ.cell h];rfl,by rw[QJ.cell h];rfl,by rw[QJ.cell h];rfl,by rw[QJ.cell h];rfl,by rw[QJ.cell h];rfl,by rw[QJ.cell h];rfl⟩
theorem Kq4 (A:Option Addr) (len cap:Nat) (ps:List (Int×Int)) (st dy p tk mo:Int) (w:World) (h:O1 w A len cap ps) (hm:len≤9223372036854775807):
  Calls Tryz.prog 7 #[.agg #[.slice A len cap,.int .i64 st,.int .i64 dy,.int .i64 p,.int .i64 tk,.int .i64 mo]] w (Kq3 ps st dy p tk mo w):=by
 have hb1:Below w.heap.size w (w.alloc (.cells #[.slice A len cap,.int .i64 st,.int .i64 dy,.int .i64 p,.int .i64 tk,.int .i64 mo] 42)):=(Below.refl _ w).alloc (Nat.le_refl _) _
 have hX:=QJ.new w 42 #[.slice A len cap,.int .i64 st,.int .i64 dy,.int .i64 p,.int .i64 tk,.int .i64 mo]
 obtain⟨w1,ew1⟩: ∃W,w.alloc (.cells #[.slice A len cap,.int .i64 st,.int .i64 dy,.int .i64 p,.int .i64 tk,.int .i64 mo] 42)=W:=⟨_,rfl⟩
 obtain⟨X,eX⟩: ∃g,w.heap.size=g:=⟨_,rfl⟩
 rw[ew1]at hb1 hX
 rw[eX]at hX
 have hnew:=Kl2 A len cap ps w1 (h.below hb1 (Nat.le_refl _)) hm
 have HNew:=QQ hnew
 have HB1:=QQ hb1
 have HX:=QQ hX
 obtain⟨x0,x1,x2,x3,x4,x5⟩:=Xh8 hX
 clear hb1 hX hnew h
 go_enter Tryz.func7,Tryz.ntmps7
 go_upto_region 1 with fail
 try rw[ew1]
 try rw[eX]
 clear ew1 eX
 go_wp2_with fail
 refine HNew.out.mono ?_
 rintro ev w2 ⟨hb2,hor⟩
 have HB2:=QQ (HB1.out.trans (hb2.mono HB1.out.size))
 have HX2:=QQ (QJ.keep HX.out hb2)
 have HS12:=QQ hb2.size
 clear x0 x1 x2 x3 x4 x5 hb2 HNew HX
 rcases hor with⟨h1,rfl⟩|⟨h1,rfl⟩|⟨h1,h2,i,hi,ha,hn,g,rfl,hg,c0,c1⟩|⟨h1,h2,h3,tb,T,tc,rfl,h5,h6,h7,h8,h9⟩
 ·have HC:Hid (Jb5 ps st dy p tk mo 8 (-1)):=QQ (.inl ⟨.inl ⟨h1,rfl,rfl⟩,by omega⟩)
  clear h1;go_wp2_with fail
  go_ret2;exact⟨HB2.out,.inl ⟨_,8,-1,rfl,.inr (.inl ⟨rfl,rfl⟩),by omega,HC.out⟩⟩
 ·have HC:Hid (Jb5 ps st dy p tk mo 4 (-1)):=QQ (.inl ⟨.inr (.inl ⟨h1,rfl,rfl⟩),by omega⟩)
  clear h1;go_wp2_with fail
  go_ret2;exact⟨HB2.out,.inl ⟨_,4,-1,rfl,.inr (.inl ⟨rfl,rfl⟩),by omega,HC.out⟩⟩
 ·have HC:Hid (Jb5 ps st dy p tk mo (Q8 ps i) i):=QQ (.inl ⟨.inr (.inr (.inl ⟨h1,h2,i,hi,ha,hn,rfl,rfl⟩)),hn⟩)
  have HE:Hid (Xk3 w2 (.iface 95 (.pointer (some ⟨g,0,none⟩))) (Q8 ps i) i):=QQ (.inr (.inr ⟨g,rfl,c0,c1⟩));have HN:=QQ hn;clear h1 h2 hi ha hn hg c0 c1;go_wp2_with fail
  go_ret2;exact⟨HB2.out,.inl ⟨_,_,_,rfl,HE.out,HN.out,HC.out⟩⟩
 ·have HTab:=QQ (Kp9.mk (w1:=w1) (w2:=w2) (tb:=tb) (T:=T) (tc:=tc) (ps:=ps) h5 h6 h7 h8 h9 h1)
  have HOk:Hid (Z4 ps):=QQ ⟨h1,h2,h3⟩;have HBn:=QQ (Xg7 st dy p w2);obtain⟨x0,x1,x2,x3,x4,x5⟩:=Xh8 HX2.out;clear h1 h2 h3 h5 h6 h7 h8 h9;go_wp2_with fail
  refine HBn.out.mono ?_;rintro ev w3 ⟨hb3,hor⟩;have HB3:=QQ (HB2.out.trans (hb3.mono HB2.out.size));have HX3:=QQ (QJ.keep HX2.out hb3);have HB23:=QQ hb3;clear x0 x1 x2 x3 x4 x5 hb3 HBn HX2;rcases hor with⟨hbk,bb,hbl,rfl,hba⟩|⟨hbk,rfl⟩
  ·have HBnd:=QQ (Kq0.mk (st:=st) (dy:=dy) (p:=p) HB23.out hbl hba)
   have HBo:=QQ hbk;clear hbl hba hbk;obtain⟨x0,x1,x2,x3,x4,x5⟩:=Xh8 HX3.out
   by_cases hbad:tk<1∨1000000<tk∨mo<0∨10<mo
   ·have HC:Hid (Jb5 ps st dy p tk mo 2 (-1)):=QQ (.inr (.inr (.inl ⟨HOk.out,HBo.out,hbad,rfl,rfl⟩)))
    by_cases h1:tk<1
    ·have d1:=J4 h1
     clear hbad h1;go_wp2_with fail
     go_ret2;exact⟨HB3.out,.inl ⟨_,2,-1,rfl,.inr (.inl ⟨rfl,rfl⟩),by omega,HC.out⟩⟩
    ·have d1:=OY h1
     by_cases h2:tk>1000000
     ·have d2:=J4 h2
      clear hbad h1 h2;go_wp2_with fail
      go_ret2;exact⟨HB3.out,.inl ⟨_,2,-1,rfl,.inr (.inl ⟨rfl,rfl⟩),by omega,HC.out⟩⟩
     ·have d2:=OY h2
      by_cases h3:mo<0
      ·have d3:=J4 h3
       clear hbad h1 h2 h3;go_wp2_with fail
       go_ret2;exact⟨HB3.out,.inl ⟨_,2,-1,rfl,.inr (.inl ⟨rfl,rfl⟩),by omega,HC.out⟩⟩
      ·have d3:=OY h3
       have h4:mo>10:=by omega
       have d4:=J4 h4;clear hbad h1 h2 h3 h4;go_wp2_with fail
       go_ret2;exact⟨HB3.out,.inl ⟨_,2,-1,rfl,.inr (.inl ⟨rfl,rfl⟩),by omega,HC.out⟩⟩
   ·have HCfg:Hid (Jb5 ps st dy p tk mo 0 (-1)):=QQ (.inr (.inr (.inr ⟨HOk.out,HBo.out,hbad,rfl,rfl⟩)))
    have d1:decide (tk<1)=false:=OY (by omega);have d2:decide (tk>1000000)=false:=OY (by omega);have d3:decide (mo<0)=false:=OY (by omega);have d4:decide (mo>10)=false:=OY (by omega);clear hbad;go_upto_region 9 with fail
    refine XK (fun t=> [].contains t) (fun W=>W.cell? ⟨X,0,none⟩=some (.slice A len cap)∧W.cell? ⟨X,1,none⟩=some (.int .i64 st)∧W.cell? ⟨X,2,none⟩=some (.int .i64 dy)∧W.cell? ⟨X,3,none⟩=some (.int .i64 p)∧W.cell? ⟨X,4,none⟩=some (.int .i64 tk)∧W.cell? ⟨X,5,none⟩=some (.int .i64 mo)) (by kernel_rfl) ⟨x0,x1,x2,x3,x4,x5⟩ (fun hS0=> ?_);refine tM 0 (.agg #[.slice A len cap,.int .i64 st,.int .i64 dy,.int .i64 p,.int .i64 tk,.int .i64 mo]) ?_;refine tM 1 (.pointer (some ⟨tb,0,none⟩)) ?_;refine tM 2 (.pointer (some ⟨bb,0,none⟩)) ?_;refine Jk8 (i:=3) (j:=4) (by kernel_rfl) ?_ ?_
    ·skip
     refine opM 3 rfl (fun K1 hK1=> ?_);go_simp;refine(Qx1 w3.drew).mono ?_;rintro ev w4 ⟨hb4,bk,G,hG,rfl,hbk⟩;have hb4':Below w3.heap.size w3 w4:=(Below.drew (Below.refl _ w3)).trans hb4;have hS4:(fun W:World=>W.cell? ⟨X,0,none⟩=some (.slice A len cap)∧W.cell? ⟨X,1,none⟩=some (.int .i64 st)∧W.cell? ⟨X,2,none⟩=some (.int .i64 dy)∧W.cell? ⟨X,3,none⟩=some (.int .i64 p)∧W.cell? ⟨X,4,none⟩=some (.int .i64 tk)∧W.cell? ⟨X,5,none⟩=some (.int .i64 mo)) w4:=⟨QZ x0 hb4',QZ x1 hb4',QZ x2 hb4',QZ x3 hb4',QZ x4 hb4',QZ x5 hb4'⟩;refine hK1 _ _ (fun _=>hS4) ?_;clear hK1 hS0;refine oM 4 fun K2 hK2=> ?_
     have hmm:= @run_makeMap Tryz.prog;go_simp;clear hmm;have hn5:=Kq1 hb4' hG (Nat.le_refl _) hbk;obtain⟨im,eim⟩: ∃g,w4.heap.size=g:=⟨_,rfl⟩;obtain⟨w5,ew5⟩: ∃W,w4.alloc (.map #[] 0)=W:=⟨_,rfl⟩;rw[ew5,eim]at hn5;rw[ew5]
     try rw[eim]
     have hS5:(fun W:World=>W.cell? ⟨X,0,none⟩=some (.slice A len cap)∧W.cell? ⟨X,1,none⟩=some (.int .i64 st)∧W.cell? ⟨X,2,none⟩=some (.int .i64 dy)∧W.cell? ⟨X,3,none⟩=some (.int .i64 p)∧W.cell? ⟨X,4,none⟩=some (.int .i64 tk)∧W.cell? ⟨X,5,none⟩=some (.int .i64 mo)) w5:=⟨QZ x0 hn5.below,QZ x1 hn5.below,QZ x2 hn5.below,QZ x3 hn5.below,QZ x4 hn5.below,QZ x5 hn5.below⟩;refine hK2 _ _ (fun _=>hS5) ?_;clear hK2 ew5 eim hS4 hb4 hb4' hG hbk;refine tM 5 (.agg #[.slice A len cap,.int .i64 st,.int .i64 dy,.int .i64 p,.int .i64 tk,.int .i64 mo,.pointer (some ⟨tb,0,none⟩),.pointer (some ⟨bb,0,none⟩),.pointer (some ⟨bk,0,none⟩),.slice none 0 0,.int .i64 0,.int .i64 0,.slice none 0 0,.map (some im),.int .i64 1,.int .i64 0,.int .i64 0,.int .i64 0]) ?_;refine oM 6 fun K3 hK3=> ?_
     go_simp;have hq9:Below w5.heap.size w5 (w5.alloc (.cells #[.slice A len cap,.int .i64 st,.int .i64 dy,.int .i64 p,.int .i64 tk,.int .i64 mo,.pointer (some ⟨tb,0,none⟩),.pointer (some ⟨bb,0,none⟩),.pointer (some ⟨bk,0,none⟩),.slice none 0 0,.int .i64 0,.int .i64 0,.slice none 0 0,.map (some im),.int .i64 1,.int .i64 0,.int .i64 0,.int .i64 0] 77)):=(Below.refl _ _).alloc (Nat.le_refl _) _;have he9:=QJ.new w5 77 #[.slice A len cap,.int .i64 st,.int .i64 dy,.int .i64 p,.int .i64 tk,.int .i64 mo,.pointer (some ⟨tb,0,none⟩),.pointer (some ⟨bb,0,none⟩),.pointer (some ⟨bk,0,none⟩),.slice none 0 0,.int .i64 0,.int .i64 0,.slice none 0 0,.map (some im),.int .i64 1,.int .i64 0,.int .i64 0,.int .i64 0];obtain⟨w9,ew9⟩: ∃W,w5.alloc (.cells #[.slice A len cap,.int .i64 st,.int .i64 dy,.int .i64 p,.int .i64 tk,.int .i64 mo,.pointer (some ⟨tb,0,none⟩),.pointer (some ⟨bb,0,none⟩),.pointer (some ⟨bk,0,none⟩),.slice none 0 0,.int .i64 0,.int .i64 0,.slice none 0 0,.map (some im),.int .i64 1,.int .i64 0,.int .i64 0,.int .i64 0] 77)=W:=⟨_,rfl⟩;obtain⟨E,eE⟩: ∃g,w5.heap.size=g:=⟨_,rfl⟩;rw[ew9]at hq9 he9⊢;rw[eE]at he9⊢;have hD9:=QQ (Kc4 HTab.out HBnd.out hn5 hq9 he9 eE);have hB9:=QQ (hn5.below.trans (hq9.mono hn5.below.size));have hS9:(fun W:World=>W.cell? ⟨X,0,none⟩=some (.slice A len cap)∧W.cell? ⟨X,1,none⟩=some (.int .i64 st)∧W.cell? ⟨X,2,none⟩=some (.int .i64 dy)∧W.cell? ⟨X,3,none⟩=some (.int .i64 p)∧W.cell? ⟨X,4,none⟩=some (.int .i64 tk)∧W.cell? ⟨X,5,none⟩=some (.int .i64 mo)) w9:=⟨QZ x0 hB9.out,QZ x1 hB9.out,QZ x2 hB9.out,QZ x3 hB9.out,QZ x4 hB9.out,QZ x5 hB9.out⟩;refine hK3 _ _ (fun _=>hS9) ?_;clear hK3 ew9 eE hq9 he9 hn5
     try simp only[Act.put]
     refine tM 7 (.pointer (some ⟨E,0,none⟩)) ?_;refine tM 8 (.nilIface) ?_;refine ZK (by kernel_rfl) ?_ _;go_wp2_with fail
     go_ret2;obtain⟨Fn,hE1,hE2⟩:=hD9.out;exact⟨HB3.out.trans (hB9.out.mono HB3.out.size),.inr ⟨HCfg.out,E,Fn,rfl,hE1,fun i hi=>Nat.le_trans HB1.out.size (hE2 i hi)⟩⟩
    ·skip
     refine opM 4 rfl (fun K1 hK1=> ?_);have hmm:= @run_makeMap Tryz.prog;go_simp;clear hmm;have hm4:=Q3.made w3;have hb4:Below w3.heap.size w3 (w3.alloc (.map #[] 0)).drew:=Below.drew ((Below.refl _ w3).alloc (Nat.le_refl _) _);have hm4':Q3 (w3.alloc (.map #[] 0)).drew w3.heap.size [] 0:=hm4.of_block rfl;have hS4:(fun W:World=>W.cell? ⟨X,0,none⟩=some (.slice A len cap)∧W.cell? ⟨X,1,none⟩=some (.int .i64 st)∧W.cell? ⟨X,2,none⟩=some (.int .i64 dy)∧W.cell? ⟨X,3,none⟩=some (.int .i64 p)∧W.cell? ⟨X,4,none⟩=some (.int .i64 tk)∧W.cell? ⟨X,5,none⟩=some (.int .i64 mo)) (w3.alloc (.map #[] 0)).drew:=⟨QZ x0 hb4,QZ x1 hb4,QZ x2 hb4,QZ x3 hb4,QZ x4 hb4,QZ x5 hb4⟩;obtain⟨im,eim⟩: ∃g,w3.heap.size=g:=⟨_,rfl⟩;obtain⟨w4,ew4⟩: ∃W,(w3.alloc (.map #[] 0)).drew=W:=⟨_,rfl⟩;rw[ew4]at hm4' hb4 hS4;rw[eim]at hm4'
     try rw[ew4]
     try rw[eim]
     refine hK1 _ _ (fun _=>hS4) ?_;clear hK1 hS0 hm4 ew4;refine oM 3 fun K2 hK2=> ?_
     go_simp;refine(Qx1 w4).mono ?_;rintro ev w5 ⟨hb5,bk,G,hG,rfl,hbk⟩;have hn5:=Kq2 hb4 hm4' eim hb5 hG hbk;have hS5:(fun W:World=>W.cell? ⟨X,0,none⟩=some (.slice A len cap)∧W.cell? ⟨X,1,none⟩=some (.int .i64 st)∧W.cell? ⟨X,2,none⟩=some (.int .i64 dy)∧W.cell? ⟨X,3,none⟩=some (.int .i64 p)∧W.cell? ⟨X,4,none⟩=some (.int .i64 tk)∧W.cell? ⟨X,5,none⟩=some (.int .i64 mo)) w5:=⟨QZ x0 hn5.below,QZ x1 hn5.below,QZ x2 hn5.below,QZ x3 hn5.below,QZ x4 hn5.below,QZ x5 hn5.below⟩;refine hK2 _ _ (fun _=>hS5) ?_;clear hK2 eim hS4 hb4 hb5 hm4' hG hbk;refine tM 5 (.agg #[.slice A len cap,.int .i64 st,.int .i64 dy,.int .i64 p,.int .i64 tk,.int .i64 mo,.pointer (some ⟨tb,0,none⟩),.pointer (some ⟨bb,0,none⟩),.pointer (some ⟨bk,0,none⟩),.slice none 0 0,.int .i64 0,.int .i64 0,.slice none 0 0,.map (some im),.int .i64 1,.int .i64 0,.int .i64 0,.int .i64 0]) ?_;refine oM 6 fun K3 hK3=> ?_
     go_simp;have hq9:Below w5.heap.size w5 (w5.alloc (.cells #[.slice A len cap,.int .i64 st,.int .i64 dy,.int .i64 p,.int .i64 tk,.int .i64 mo,.pointer (some ⟨tb,0,none⟩),.pointer (some ⟨bb,0,none⟩),.pointer (some ⟨bk,0,none⟩),.slice none 0 0,.int .i64 0,.int .i64 0,.slice none 0 0,.map (some im),.int .i64 1,.int .i64 0,.int .i64 0,.int .i64 0] 77)):=(Below.refl _ _).alloc (Nat.le_refl _) _;have he9:=QJ.new w5 77 #[.slice A len cap,.int .i64 st,.int .i64 dy,.int .i64 p,.int .i64 tk,.int .i64 mo,.pointer (some ⟨tb,0,none⟩),.pointer (some ⟨bb,0,none⟩),.pointer (some ⟨bk,0,none⟩),.slice none 0 0,.int .i64 0,.int .i64 0,.slice none 0 0,.map (some im),.int .i64 1,.int .i64 0,.int .i64 0,.int .i64 0];obtain⟨w9,ew9⟩: ∃W,w5.alloc (.cells #[.slice A len cap,.int .i64 st,.int .i64 dy,.int .i64 p,.int .i64 tk,.int .i64 mo,.pointer (some ⟨tb,0,none⟩),.pointer (some ⟨bb,0,none⟩),.pointer (some ⟨bk,0,none⟩),.slice none 0 0,.int .i64 0,.int .i64 0,.slice none 0 0,.map (some im),.int .i64 1,.int .i64 0,.int .i64 0,.int .i64 0] 77)=W:=⟨_,rfl⟩;obtain⟨E,eE⟩: ∃g,w5.heap.size=g:=⟨_,rfl⟩;rw[ew9]at hq9 he9⊢;rw[eE]at he9⊢;have hD9:=QQ (Kc4 HTab.out HBnd.out hn5 hq9 he9 eE);have hB9:=QQ (hn5.below.trans (hq9.mono hn5.below.size));have hS9:(fun W:World=>W.cell? ⟨X,0,none⟩=some (.slice A len cap)∧W.cell? ⟨X,1,none⟩=some (.int .i64 st)∧W.cell? ⟨X,2,none⟩=some (.int .i64 dy)∧W.cell? ⟨X,3,none⟩=some (.int .i64 p)∧W.cell? ⟨X,4,none⟩=some (.int .i64 tk)∧W.cell? ⟨X,5,none⟩=some (.int .i64 mo)) w9:=⟨QZ x0 hB9.out,QZ x1 hB9.out,QZ x2 hB9.out,QZ x3 hB9.out,QZ x4 hB9.out,QZ x5 hB9.out⟩;refine hK3 _ _ (fun _=>hS9) ?_;clear hK3 ew9 eE hq9 he9 hn5
     try simp only[Act.put]
     refine tM 7 (.pointer (some ⟨E,0,none⟩)) ?_;refine tM 8 (.nilIface) ?_;refine ZK (by kernel_rfl) ?_ _;go_wp2_with fail
     go_ret2;obtain⟨Fn,hE1,hE2⟩:=hD9.out;exact⟨HB3.out.trans (hB9.out.mono HB3.out.size),.inr ⟨HCfg.out,E,Fn,rfl,hE1,fun i hi=>Nat.le_trans HB1.out.size (hE2 i hi)⟩⟩
  ·have HC:Hid (Jb5 ps st dy p tk mo 2 (-1)):=QQ (.inr (.inl ⟨HOk.out,hbk,rfl,rfl⟩))
   rw[Qp7];clear hbk;go_wp2_with fail
   go_ret2;exact⟨HB3.out,.inl ⟨_,2,-1,rfl,.inr (.inl ⟨rfl,rfl⟩),by omega,HC.out⟩⟩
end Go.Proofs.YtnlngicnfegjgaaGreat
