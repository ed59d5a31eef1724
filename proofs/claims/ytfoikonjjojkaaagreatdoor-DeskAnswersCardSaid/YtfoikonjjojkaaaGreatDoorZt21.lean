/- Parts. -/
import Derived.Test.YtfoikonjjojkaaaGreatDoorZt20
set_option linter.unusedVariables false
set_option maxRecDepth 100000
set_option maxHeartbeats 8000000
open Go.Proofs.Tryz
open Go.Value renaming int→I,pointer→IP
open Go.IntKind renaming i64→O
namespace Go.Proofs.YtfoikonjjojkaaaGreatDoor
open Go.RowKit
def R9(w w':World)(e:Nat)(F:Nat->Prop)(P:List C6->Prop)(m:Z6)(ev:Ending):Prop:=
 ∃A c Fs,ev=.returned (.slice A (List.length Fs) c)/\P Fs/\X8 w' A Fs.length c 127 4 (X7 QT Fs)/\(∀g,X5 A=some g->w.heap.size<=g)/\∃F',D8 w' e F' m/\U2 w w' F F'/\∀g,X5 A=some g->¬F' g
theorem R9.none_{w w' e F P m}(h:A5 w w' e F m)(j:P []):R9 w w' e F P m (.returned (.slice none 0 0)):=by obtain⟨F',h1,h2⟩:=h;exact⟨none,0,[],rfl,j,QY _ _ _ _,fun g i=>by simp[X5]at i,F',h1,h2,fun g i=>by simp[X5]at i⟩
theorem D8.setPh{w e F m}(h:D8 w e F m)v:A5 w (w.setCell (aD e 14) (I O v)) e F {m with ph:=v}/\w.cell? (aD e 14)=some (I O m.ph)/\w.frozen? (aD e 14)=false/\F e:=by obtain⟨cs,tb,bb,bk,im,T,tc,Al,lc,lv,bu,se,Ap,pc,es,mc,G,own,i,j⟩:=h;obtain⟨h1,h2⟩:=i.setPh v;exact⟨⟨_,h1.at_ (fun _ _ _=>rfl),h2.bstep j⟩,i.cell i.ec.c14,i.frozen 14,(j e).2 ⟨1,i.oe⟩⟩
theorem A5.trans{w w1 w2 e F m1 m2}(h:A5 w w1 e F m1)(k:∀i,D8 w1 e i m1->A5 w1 w2 e i m2):A5 w w2 e F m2:=by obtain⟨i,h1,h2⟩:=h;obtain⟨j,u,y⟩:=k i h1;exact⟨j,u,h2.trans y⟩
theorem R9.setPh{w w' e F P m ev}(h:R9 w w' e F P m ev)v:R9 w (w'.setCell (aD e 14) (I O v)) e F P {m with ph:=v} ev:=by
 obtain⟨A,c,Fs,h1,h2,i,J,F',N,Z,y⟩:=h;obtain⟨⟨D,h8,C⟩,-,-,E⟩:=N.setPh v;refine⟨A,c,Fs,h1,h2,i.keeps (U1 w' (aD e 14) (I O v)) (fun g j a0=>y g j (by have i:g=e:=a0;rw[i];exact E)),J,D,h8,Z.trans C,fun g j hF=>?_⟩;obtain u|u:=C.2 g hF
 ·exact y g j u
 have:=i.lt j;omega
theorem R9.pre{w w1 w' e F P m ev}(i:Bz w w1)(h:R9 w1 w' e F P m ev):R9 w w' e F P m ev:=by obtain⟨A,c,Fs,h1,h2,j,u,F',y,C,D⟩:=h;exact⟨A,c,Fs,h1,h2,j,fun g E=>U4 i.size (u g E),F',y,(S5 i).trans C,D⟩
theorem A5.pre{w w1 w' e F m}(i:Bz w w1)(h:A5 w1 w' e F m):A5 w w' e F m:=by obtain⟨F',h1,h2⟩:=h;exact⟨F',h1,(S5 i).trans h2⟩
abbrev RL:=@A5.pre
structure BJ(m:Z6):Prop where
 tab:0<m.rows.length/\m.rows.length<=20
 tk:0<=m.tk/\m.tk<=1000000
 la:1<=m.la/\m.la<=1000000
 now:0<=m.now/\m.now<=1000000000000
 lng:0<=m.lng/\m.lng<=1000000000000
 pk:∀o∈m.pk,JV o
 pkn:m.pk.length<=100000
theorem Qy5{w e F m}(h:D8 w e F m)(u:BJ m)p:Calls prog 161 #[pA e,I O p] w fun ev w'=>R9 w w' e F (UY m p) (XM m p) ev:=by
 obtain⟨HU,HC,C,hE⟩:=Xt8 (Vu h u.la) (Mn h u.pk u.pkn) (h.setPh p) h;clear u h
 by_cases c3:p=3
 ·have d3:=V4 c3
  have i:Hid (UY m p=XD m/\XM m p={ZD m with ph:=3}):=J6 ⟨by funext F;unfold UY;rw[X0 c3],by unfold XM;rw[X0 c3]⟩;rw[i.1,i.2];clear c3;go_enter func161,ntmps161
  go_wp2_with fail
  refine HU.mono ?_;rintro ev w2⟨A,c,Fs,rfl,a0,J,D,F2,y,N,E⟩;have HF:=J6 (show R9 w w2 e F (XD m) (ZD m) (.returned (.slice A (List.length Fs) c))from⟨A,c,Fs,rfl,a0,J,D,F2,y,N,E⟩);obtain⟨-,x1,x2,-⟩:=y.setPh 3;clear a0 J D y N E;go_wp2;go_ret;exact HF.setPh 3
 have d3:=Z3 c3
 by_cases j:p=5
 ·have d5:=V4 j
  have i:Hid (UY m p []/\XM m p=VB m):=J6 ⟨by unfold UY;rw[J8 c3],by unfold XM;rw[J8 c3,X0 j]⟩;rw[i.2];clear c3 j;go_enter func161,ntmps161
  go_wp2_with fail
  refine HC.mono ?_;rintro ev w2⟨rfl,Z⟩;have a1:=J6 Z;clear Z;go_wp2;go_ret;exact R9.none_ a1 i.1
 have d5:=Z3 j;have i:Hid (UY m p []/\XM m p={m with ph:=p}):=J6 ⟨by unfold UY;rw[J8 c3],by unfold XM;rw[J8 c3,J8 j]⟩;rw[i.2];obtain⟨-,x1,x2,-⟩:=C.out;clear c3 j;go_enter func161,ntmps161
 go_wp2;go_ret;exact R9.none_ C.1 i.1
section
open Go.ChangeMaps
def BA(ps:List (Int×Int))(st dy p tk mo:Int):Z6:=⟨ps,st,dy,tk,mo,p,p,[],[],[],[],1,0,0,0⟩
def XR(ps:List (Int×Int))(st dy p tk mo n pl:Int):Prop:=
 (TabIs ps n pl/\n≠0)\/(KH ps/\(QX p st &&QX p dy)=false/\n=2/\pl= -1)\/
 (KH ps/\(QX p st &&QX p dy)=true/\(tk<1\/1000000<tk\/mo<0\/10<mo)/\n=2/\pl= -1)\/
 (KH ps/\(QX p st &&QX p dy)=true/\¬(tk<1\/1000000<tk\/mo<0\/10<mo)/\n=0/\pl= -1)
structure Qi0(w1 w2:World)(tb:Nat)(T:Option Addr)(tc:Nat)(ps:List (Int×Int)):Prop where
 lo:w1.heap.size<=tb
 lt:tb<w2.heap.size
 cell:w2.cell? (aD tb 0)=some (.slice T ps.length tc)
 prs:JW w2 T ps.length tc ps
 far:∀g,X5 T=some g->w1.heap.size<=g/\g≠tb
 pos:0<ps.length
structure Qi1(w2 w3:World)(bb:Nat)(st dy p:Int):Prop where
 below:Bz w2 w3
 lo:w2.heap.size<=bb
 at_:ZU w3 bb st dy p p
structure Fu(w3 w5:World)(bk:Nat)(G:Nat->Prop)(im:Nat):Prop where
 below:Bz w3 w5
 book:JC w5 bk G [] []
 lo:∀i,G i->w3.heap.size<=i
 map_:M6 w5 im [] 0
 ilo:w3.heap.size<=im
 ig:¬G im
theorem Xd6{w3 w4 y:World}{bk G}(h:Bz w3 w4)(C:∀i,G i->y.heap.size<=i)(D:w3.heap.size<=y.heap.size)(u:JC w4 bk G [] []):Fu w3 (w4.alloc (.map #[] 0)) bk G w4.heap.size:=
 ⟨h.alloc h.size _,u.below ((J9 _ w4).alloc Q2 _),fun i j=>U4 D (C i j),M6.made w4,h.size,fun j=>NG _ (u.fp j)⟩
theorem Xd7{w3 w4 w5 bk im G}(h:Bz w3 w4)(j:M6 w4 im [] 0)(E:w3.heap.size=im)(y:Bz w4 w5)(C:∀i,G i->w4.heap.size<=i)(D:JC w5 bk G [] []):Fu w3 w5 bk G im:=
 ⟨h.trans (y.mono h.size),D,fun i u=>U4 h.size (C i u),j.below y j.lt,CB E,fun u=>by have:=C _ u;have:=j.lt;omega⟩
theorem Qf8{w1 w2 w3 w5 w9 tb bb bk im E T A tc len cap ps st dy p tk mo G}(ht:Qi0 w1 w2 tb T tc ps) (C:Qi1 w2 w3 bb st dy p) (j:Fu w3 w5 bk G im) (D:Bz w5 w9)(he:J7 w9 E 203 #[.slice A len cap,I O st,I O dy,I O p,I O tk,I O mo,pA tb,pA bb,pA bk,.slice none 0 0,I O 0,I O 0,.slice none 0 0,.map (some im),I O 1,I O 0,I O 0,I O 0]) (hE:w5.heap.size=E):∃F,D8 w9 E F (BA ps st dy p tk mo)/\∀i,F i->w1.heap.size<=i:=by
 have Z:Bz w2 w5:=C.below.trans (j.below.mono C.below.size);have J:=Z.trans (D.mono Z.size);have a4:=j.below.trans (D.mono j.below.size);have l1:=Z9 he;have l2:=Z9 C.at_;have s3:=C.below.size;have s5:=j.below.size;have s9:=D.size;have a2:∀i,X5 T=some i->i<w2.heap.size:=fun i u=>by
  obtain⟨b,a5,h1,h2,-⟩:=ht.prs.2 ht.pos;rw[h1]at u;have e1:b=i:=by simpa [X5]using u
  omega
 have a1:∀i,G i->i<w5.heap.size:=fun i u=>j.book.fp u
 have a3:=j.map_.lt;have t1:=ht.lo;have N:=ht.lt;have b1:=C.lo;have i1:=j.ilo;refine⟨_,MF (own:=fun i k=>(i=E/\k=1)\/((i=tb\/X5 T=some i)/\k=2)\/(i=bb/\k=3)\/(G i/\k=4)\/(i=im/\k=7)) (g:=fun s k=>C4 s k []) (m:=BA ps st dy p tk mo) (cs:= #[.slice A len cap,I O st,I O dy,I O p,I O tk,I O mo,IP (some ⟨tb,0,none⟩),IP (some ⟨bb,0,none⟩),IP (some ⟨bk,0,none⟩),.slice none 0 0,I O 0,I O 0,.slice none 0 0,.map (some im),I O 1,I O 0,I O 0,I O 0]) (tb:=tb) (bb:=bb) (bk:=bk) (im:=im) (T:=T) (tc:=tc) (Al:=none) (lc:=0) (lv:=[]) (bu:=0) (se:=0) (Ap:=none) (pc:=0) (es:=[]) (mc:=0) (G:=G) ⟨⟨he,rfl,rfl,rfl,QY _ _ _ _,by simp[X5],Qa9⟩,⟨rfl,rfl,rfl,rfl,rfl,rfl,rfl,rfl,rfl,rfl,rfl,rfl⟩,Sk,D0 N J.size,(J.cell (p:=⟨tb,0,none⟩) N).trans ht.cell,ht.prs.below J Q2,Z4 C.at_ a4,j.book.below D,QY _ _ _ _,j.map_.below D a3,by simp[DH],fun k=>by simp[JT,BA],⟨?_,?_⟩,.inl ⟨rfl,rfl⟩,.inr (.inl ⟨.inl rfl,rfl⟩),fun i u=>.inr (.inl ⟨.inr u,rfl⟩),.inr (.inr (.inl ⟨rfl,rfl⟩)),fun i u=>.inr (.inr (.inr (.inl ⟨u,rfl⟩))),fun i u=>by simp[X5]at u,fun i u=>by simp[X5]at u,.inr (.inr (.inr (.inr ⟨rfl,rfl⟩)))⟩ (fun _ _ _=>rfl),?_⟩
 ·have a0:∀i k,((i=E/\k=1)\/((i=tb\/X5 T=some i)/\k=2)\/(i=bb/\k=3)\/(G i/\k=4)\/(i=im/\k=7))->(k=1/\w5.heap.size<=i)\/(k=2/\i<w2.heap.size)\/(k=3/\w2.heap.size<=i/\i<w3.heap.size)\/(k=4/\G i/\w3.heap.size<=i/\i<w5.heap.size)\/(k=7/\i=im/\w3.heap.size<=i/\i<w5.heap.size):=by
   rintro i k(⟨rfl,rfl⟩|⟨rfl|h,rfl⟩|⟨rfl,rfl⟩|⟨h,rfl⟩|⟨rfl,rfl⟩)
   ·exact .inl ⟨rfl,Q0⟩
   ·exact .inr (.inl ⟨rfl,N⟩)
   ·exact .inr (.inl ⟨rfl,a2 i h⟩)
   ·exact .inr (.inr (.inl ⟨rfl,b1,l2⟩))
   ·exact .inr (.inr (.inr (.inl ⟨rfl,h,j.lo i h,a1 i h⟩)))
   exact .inr (.inr (.inr (.inr ⟨rfl,rfl,i1,a3⟩)))
  intro i k k' h1 h2;obtain h|h|h|h|h:=a0 i k h1<;>obtain y|y|y|y|y:=a0 i k' h2<;>first
   |omega
   |exact absurd h.2.1 (by rw[y.2.1];exact j.ig)
   |exact absurd y.2.1 (by rw[h.2.1];exact j.ig)
 ·rintro i k(⟨rfl,rfl⟩|⟨rfl|h,rfl⟩|⟨rfl,rfl⟩|⟨h,rfl⟩|⟨rfl,rfl⟩)
  ·exact l1
  ·omega
  ·have:=a2 i h;omega
  ·omega
  ·have:=a1 i h;omega
  omega
 rintro i⟨k,⟨rfl,rfl⟩|⟨rfl|h,rfl⟩|⟨rfl,rfl⟩|⟨h,rfl⟩|⟨rfl,rfl⟩⟩
 ·omega
 ·omega
 ·exact(ht.far i h).1
 ·omega
 ·have:=j.lo i h;omega
 omega
def Xd8(ps:List (Int×Int))(st dy p tk mo:Int)(w:World)(e:Ending)(w':World):Prop:=
 Bz w w'/\((∃v n pl,e=.returned (.tuple #[.pointer none,v])/\Ja w' v n pl/\n≠0/\XR ps st dy p tk mo n pl)\/(XR ps st dy p tk mo 0 (-1)/\∃E F,e=.returned (.tuple #[pA E,.nilIface])/\D8 w' E F (BA ps st dy p tk mo)/\∀i,F i->w.heap.size<=i))
theorem Gf{w g t a b c d e f}(h:J7 w g t #[a,b,c,d,e,f]):w.cell? (aD g 0)=some a/\w.cell? (aD g 1)=some b/\w.cell? (aD g 2)=some c/\w.cell? (aD g 3)=some d/\w.cell? (aD g 4)=some e/\w.cell? (aD g 5)=some f:=
 ⟨by rw[X9 h];rfl,by rw[X9 h];rfl,by rw[X9 h];rfl,by rw[X9 h];rfl,by rw[X9 h];rfl,by rw[X9 h];rfl⟩
theorem Xd9 A len cap ps st dy p y u w(h:JW w A len cap ps)(hm:len<=9223372036854775807):Calls prog 108 #[.agg #[.slice A len cap,I O st,I O dy,I O p,I O y,I O u]] w (Xd8 ps st dy p y u w):=by
 have b5:Bz w (w.alloc (.cells #[.slice A len cap,I O st,I O dy,I O p,I O y,I O u] 26)):=(J9 _ w).alloc Q2 _;have hX:=Z5 w 26 #[.slice A len cap,I O st,I O dy,I O p,I O y,I O u];obtain⟨w1,c8⟩:=exq (w.alloc (.cells #[.slice A len cap,I O st,I O dy,I O p,I O y,I O u] 26));obtain⟨X,eX⟩:=exq w.heap.size;rw[c8]at b5 hX;rw[eX]at hX;have f4:=Jy6 A len cap ps w1 (h.below b5 Q2) hm;obtain⟨e7,b2,HX⟩:=Xt7 f4 b5 hX;obtain⟨x0,x1,x2,x3,x4,x5⟩:=Gf hX;clear b5 hX f4 h;go_enter func108,ntmps108
 go_upto_region 1 with fail
 try rw[c8]
 try rw[eX]
 clear c8 eX;go_wp2_with fail
 refine e7.mono ?_;rintro ev w2⟨b8,e2⟩;obtain⟨a7,c7,f7⟩:=Xt7 (b2.trans (b8.mono b2.size)) (Z4 HX b8) b8.size;clear x0 x1 x2 x3 x4 x5 b8 e7 HX;rcases e2 with⟨h1,rfl⟩|⟨h1,rfl⟩|⟨h1,h2,i,hi,ha,hn,g,rfl,hg,c0,c1⟩|⟨h1,h2,h3,tb,T,tc,rfl,h5,h6,h7,h8,h9⟩
 ·have J:Hid (XR ps st dy p y u 8 (-1)):=J6 (.inl ⟨.inl ⟨h1,rfl,rfl⟩,Q0⟩)
  clear h1;go_wp2;go_ret2;exact⟨a7,.inl ⟨_,8,-1,rfl,.inr (.inl ⟨rfl,rfl⟩),Q0,J⟩⟩
 ·have J:Hid (XR ps st dy p y u 4 (-1)):=J6 (.inl ⟨.inr (.inl ⟨h1,rfl,rfl⟩),Q0⟩)
  clear h1;go_wp2;go_ret2;exact⟨a7,.inl ⟨_,4,-1,rfl,.inr (.inl ⟨rfl,rfl⟩),Q0,J⟩⟩
 ·have J:Hid (XR ps st dy p y u (XL ps i) i):=J6 (.inl ⟨.inr (.inr (.inl ⟨h1,h2,i,hi,ha,hn,rfl,rfl⟩)),hn⟩)
  have HE:Hid (Ja w2 (.iface 287 (IP (some ⟨g,0,none⟩))) (XL ps i) i):=J6 (.inr (.inr ⟨g,rfl,c0,c1⟩));have HN:=J6 hn;clear h1 h2 hi ha hn hg c0 c1;go_wp2;go_ret2;exact⟨a7,.inl ⟨_,_,_,rfl,HE,HN,J⟩⟩
 have e8:=J6 (Qi0.mk (w1:=w1) (w2:=w2) (tb:=tb) (T:=T) (tc:=tc) (ps:=ps) h5 h6 h7 h8 h9 h1);have c6:Hid (KH ps):=J6 ⟨h1,h2,h3⟩;have e3:=J6 (Qr9 st dy p w2);obtain⟨x0,x1,x2,x3,x4,x5⟩:=Gf c7;clear h1 h2 h3 h5 h6 h7 h8 h9;go_wp2_with fail
 refine e3.mono ?_;rintro ev w3⟨b9,e2⟩;obtain⟨a0,f6,f5⟩:=Xt7 (a7.trans (b9.mono a7.size)) (Z4 c7 b9) b9;clear x0 x1 x2 x3 x4 x5 b9 e3 c7;rcases e2 with⟨Z,bb,f2,rfl,f1⟩|⟨Z,rfl⟩
 ·have e4:=J6 (Qi1.mk (st:=st) (dy:=dy) (p:=p) f5 f2 f1)
  have e5:=J6 Z;clear f2 f1 Z;obtain⟨x0,x1,x2,x3,x4,x5⟩:=Gf f6
  by_cases a5:y<1\/1000000<y\/u<0\/10<u
  ·have J:Hid (XR ps st dy p y u 2 (-1)):=J6 (.inr (.inr (.inl ⟨c6,e5,a5,rfl,rfl⟩)))
   by_cases h1:y<1
   ·have d1:=V7 h1
    clear a5 h1;go_wp2;go_ret2;exact⟨a0,.inl ⟨_,2,-1,rfl,.inr (.inl ⟨rfl,rfl⟩),Q0,J⟩⟩
   have d1:=V9 h1
   by_cases h2:y>1000000
   ·have d2:=V7 h2
    clear a5 h1 h2;go_wp2;go_ret2;exact⟨a0,.inl ⟨_,2,-1,rfl,.inr (.inl ⟨rfl,rfl⟩),Q0,J⟩⟩
   have d2:=V9 h2
   by_cases h3:u<0
   ·have d3:=V7 h3
    clear a5 h1 h2 h3;go_wp2;go_ret2;exact⟨a0,.inl ⟨_,2,-1,rfl,.inr (.inl ⟨rfl,rfl⟩),Q0,J⟩⟩
   have d3:=V9 h3;have h4:u>10:=Q0;have d4:=V7 h4;clear a5 h1 h2 h3 h4;go_wp2;go_ret2;exact⟨a0,.inl ⟨_,2,-1,rfl,.inr (.inl ⟨rfl,rfl⟩),Q0,J⟩⟩
  have e6:Hid (XR ps st dy p y u 0 (-1)):=J6 (.inr (.inr (.inr ⟨c6,e5,a5,rfl,rfl⟩)));have d1:decide (y<1)=false:=V9 Q0;have d2:decide (y>1000000)=false:=V9 Q0;have d3:decide (u<0)=false:=V9 Q0;have d4:decide (u>10)=false:=V9 Q0;clear a5;go_upto_region 9 with fail
  refine VR (fun t=>[].contains t) (fun W=>W.cell? ⟨X,0,none⟩=some (.slice A len cap)/\W.cell? ⟨X,1,none⟩=some (I O st)/\W.cell? ⟨X,2,none⟩=some (I O dy)/\W.cell? ⟨X,3,none⟩=some (I O p)/\W.cell? ⟨X,4,none⟩=some (I O y)/\W.cell? ⟨X,5,none⟩=some (I O u)) Q4 ⟨x0,x1,x2,x3,x4,x5⟩ (fun e9=>?_);refine tM 0 ?_;refine tM 1 ?_;refine tM 2 ?_;refine SX (i:=3) (j:=4) Q4 ?_ ?_
  ·skip
   refine BD 3 rfl (fun K1 a9=>?_);go_simp;refine(Bp w3.drew).mono ?_;rintro ev w4⟨N,bk,G,hG,rfl,Z⟩;have a4:Bz w3 w4:=(Z2 (J9 _ w3)).trans N;have a6:(fun W:World=>W.cell? ⟨X,0,none⟩=some (.slice A len cap)/\W.cell? ⟨X,1,none⟩=some (I O st)/\W.cell? ⟨X,2,none⟩=some (I O dy)/\W.cell? ⟨X,3,none⟩=some (I O p)/\W.cell? ⟨X,4,none⟩=some (I O y)/\W.cell? ⟨X,5,none⟩=some (I O u)) w4:=⟨U7 x0 a4,U7 x1 a4,U7 x2 a4,U7 x3 a4,U7 x4 a4,U7 x5 a4⟩;refine a9 _ _ (fun _=>a6) ?_;clear a9 e9;refine oM 4 fun K2 b0=>?_
   have e1:= @run_makeMap prog;go_simp;clear e1;have C:=Xd6 a4 hG Q2 Z;obtain⟨im,a3⟩:=exq w4.heap.size;obtain⟨w5,d0⟩:=exq (w4.alloc (.map #[] 0));rw[d0,a3]at C;rw[d0]
   try rw[a3]
   have d8:(fun W:World=>W.cell? ⟨X,0,none⟩=some (.slice A len cap)/\W.cell? ⟨X,1,none⟩=some (I O st)/\W.cell? ⟨X,2,none⟩=some (I O dy)/\W.cell? ⟨X,3,none⟩=some (I O p)/\W.cell? ⟨X,4,none⟩=some (I O y)/\W.cell? ⟨X,5,none⟩=some (I O u)) w5:=⟨U7 x0 C.below,U7 x1 C.below,U7 x2 C.below,U7 x3 C.below,U7 x4 C.below,U7 x5 C.below⟩;refine b0 _ _ (fun _=>d8) ?_;clear b0 d0 a3 a6 N a4 hG Z;refine tM 5 ?_;refine oM 6 fun K3 b1=>?_
   go_simp;have a2:Bz w5 (w5.alloc (.cells #[.slice A len cap,I O st,I O dy,I O p,I O y,I O u,IP (some ⟨tb,0,none⟩),IP (some ⟨bb,0,none⟩),IP (some ⟨bk,0,none⟩),.slice none 0 0,I O 0,I O 0,.slice none 0 0,.map (some im),I O 1,I O 0,I O 0,I O 0] 203)):=Q5.alloc Q2 _;have a1:=Z5 w5 203 #[.slice A len cap,I O st,I O dy,I O p,I O y,I O u,IP (some ⟨tb,0,none⟩),IP (some ⟨bb,0,none⟩),IP (some ⟨bk,0,none⟩),.slice none 0 0,I O 0,I O 0,.slice none 0 0,.map (some im),I O 1,I O 0,I O 0,I O 0];obtain⟨w9,a8⟩:=exq (w5.alloc (.cells #[.slice A len cap,I O st,I O dy,I O p,I O y,I O u,IP (some ⟨tb,0,none⟩),IP (some ⟨bb,0,none⟩),IP (some ⟨bk,0,none⟩),.slice none 0 0,I O 0,I O 0,.slice none 0 0,.map (some im),I O 1,I O 0,I O 0,I O 0] 203));obtain⟨E,eE⟩:=exq w5.heap.size;rw[a8]at a2 a1|-;rw[eE]at a1|-;obtain⟨d5,D⟩:=Xt6 (Qf8 e8 e4 C a2 a1 eE) (C.below.trans (a2.mono C.below.size));have d9:(fun W:World=>W.cell? ⟨X,0,none⟩=some (.slice A len cap)/\W.cell? ⟨X,1,none⟩=some (I O st)/\W.cell? ⟨X,2,none⟩=some (I O dy)/\W.cell? ⟨X,3,none⟩=some (I O p)/\W.cell? ⟨X,4,none⟩=some (I O y)/\W.cell? ⟨X,5,none⟩=some (I O u)) w9:=⟨U7 x0 D,U7 x1 D,U7 x2 D,U7 x3 D,U7 x4 D,U7 x5 D⟩;refine b1 _ _ (fun _=>d9) ?_;clear b1 a8 eE a2 a1 C
   try simp only[Act.put]
   refine tM 7 ?_;refine tM 8 ?_;refine XX Q4 ?_ _;go_wp2;go_ret2;obtain⟨Fn,d6,d7⟩:=d5.out;exact⟨a0.trans (D.mono a0.size),.inr ⟨e6,E,Fn,rfl,d6,fun i hi=>U4 b2.size (d7 i hi)⟩⟩
  skip
  refine BD 4 rfl (fun K1 a9=>?_);have e1:= @run_makeMap prog;go_simp;clear e1;have f3:=M6.made w3;have N:Bz w3 (w3.alloc (.map #[] 0)).drew:=Z2 ((J9 _ w3).alloc Q2 _);have c5:M6 (w3.alloc (.map #[] 0)).drew w3.heap.size [] 0:=f3.of_block rfl;have a6:(fun W:World=>W.cell? ⟨X,0,none⟩=some (.slice A len cap)/\W.cell? ⟨X,1,none⟩=some (I O st)/\W.cell? ⟨X,2,none⟩=some (I O dy)/\W.cell? ⟨X,3,none⟩=some (I O p)/\W.cell? ⟨X,4,none⟩=some (I O y)/\W.cell? ⟨X,5,none⟩=some (I O u)) (w3.alloc (.map #[] 0)).drew:=⟨U7 x0 N,U7 x1 N,U7 x2 N,U7 x3 N,U7 x4 N,U7 x5 N⟩;obtain⟨im,a3⟩:=exq w3.heap.size;obtain⟨w4,c9⟩:=exq ((w3.alloc (.map #[] 0)).drew);rw[c9]at c5 N a6;rw[a3]at c5
  try rw[c9]
  try rw[a3]
  refine a9 _ _ (fun _=>a6) ?_;clear a9 e9 f3 c9;refine oM 3 fun K2 b0=>?_
  go_simp;refine(Bp w4).mono ?_;rintro ev w5⟨f0,bk,G,hG,rfl,Z⟩;have C:=Xd7 N c5 a3 f0 hG Z;have d8:(fun W:World=>W.cell? ⟨X,0,none⟩=some (.slice A len cap)/\W.cell? ⟨X,1,none⟩=some (I O st)/\W.cell? ⟨X,2,none⟩=some (I O dy)/\W.cell? ⟨X,3,none⟩=some (I O p)/\W.cell? ⟨X,4,none⟩=some (I O y)/\W.cell? ⟨X,5,none⟩=some (I O u)) w5:=⟨U7 x0 C.below,U7 x1 C.below,U7 x2 C.below,U7 x3 C.below,U7 x4 C.below,U7 x5 C.below⟩;refine b0 _ _ (fun _=>d8) ?_;clear b0 a3 a6 N f0 c5 hG Z;refine tM 5 ?_;refine oM 6 fun K3 b1=>?_
  go_simp;have a2:Bz w5 (w5.alloc (.cells #[.slice A len cap,I O st,I O dy,I O p,I O y,I O u,IP (some ⟨tb,0,none⟩),IP (some ⟨bb,0,none⟩),IP (some ⟨bk,0,none⟩),.slice none 0 0,I O 0,I O 0,.slice none 0 0,.map (some im),I O 1,I O 0,I O 0,I O 0] 203)):=Q5.alloc Q2 _;have a1:=Z5 w5 203 #[.slice A len cap,I O st,I O dy,I O p,I O y,I O u,IP (some ⟨tb,0,none⟩),IP (some ⟨bb,0,none⟩),IP (some ⟨bk,0,none⟩),.slice none 0 0,I O 0,I O 0,.slice none 0 0,.map (some im),I O 1,I O 0,I O 0,I O 0];obtain⟨w9,a8⟩:=exq (w5.alloc (.cells #[.slice A len cap,I O st,I O dy,I O p,I O y,I O u,IP (some ⟨tb,0,none⟩),IP (some ⟨bb,0,none⟩),IP (some ⟨bk,0,none⟩),.slice none 0 0,I O 0,I O 0,.slice none 0 0,.map (some im),I O 1,I O 0,I O 0,I O 0] 203));obtain⟨E,eE⟩:=exq w5.heap.size;rw[a8]at a2 a1|-;rw[eE]at a1|-;obtain⟨d5,D⟩:=Xt6 (Qf8 e8 e4 C a2 a1 eE) (C.below.trans (a2.mono C.below.size));have d9:(fun W:World=>W.cell? ⟨X,0,none⟩=some (.slice A len cap)/\W.cell? ⟨X,1,none⟩=some (I O st)/\W.cell? ⟨X,2,none⟩=some (I O dy)/\W.cell? ⟨X,3,none⟩=some (I O p)/\W.cell? ⟨X,4,none⟩=some (I O y)/\W.cell? ⟨X,5,none⟩=some (I O u)) w9:=⟨U7 x0 D,U7 x1 D,U7 x2 D,U7 x3 D,U7 x4 D,U7 x5 D⟩;refine b1 _ _ (fun _=>d9) ?_;clear b1 a8 eE a2 a1 C
  try simp only[Act.put]
  refine tM 7 ?_;refine tM 8 ?_;refine XX Q4 ?_ _;go_wp2;go_ret2;obtain⟨Fn,d6,d7⟩:=d5.out;exact⟨a0.trans (D.mono a0.size),.inr ⟨e6,E,Fn,rfl,d6,fun i hi=>U4 b2.size (d7 i hi)⟩⟩
 have J:Hid (XR ps st dy p y u 2 (-1)):=J6 (.inr (.inl ⟨c6,Z,rfl,rfl⟩));rw[Qi];clear Z;go_wp2;go_ret2;exact⟨a0,.inl ⟨_,2,-1,rfl,.inr (.inl ⟨rfl,rfl⟩),Q0,J⟩⟩
end
theorem Qs7{w e F m}(h:D8 w e F m)(hI:BJ m):Calls prog 162 #[pA e] w fun ev w'=>R9 w w' e F (ZN m) (JB m) ev:=by
 have hE:=h;obtain⟨cs,tb,bb,bk,im,T,tc,Al,lc,lv,bu,se,Ap,pc,es,mc,G,own,hM,hF⟩:=h;have c7:=hM.cell hM.ec.c7;obtain⟨HM,HF,HI,HE⟩:=Xt8 hM hF hI hE;obtain⟨⟨u,y,D⟩,ht⟩:∃q,M5 m=q:=⟨_,rfl⟩;have HT:=J6 ht;have b5:=fun W hW=>Dh hM hI.la W hW
 rw[ht]at b5;unfold QW at b5;dsimp only at b5;have HW:=J6 b5;clear hM hF b5 ht hE hI;go_enter func162,ntmps162
 go_upto_region 1 with fail
 go_cut [3] (fun s3 wx=>∃g,s3=IP (some ⟨g,0,none⟩)/\J7 wx g 99 #[I O u,I O y,I O D]/\Bz w wx/\w.heap.size<=g)
 case first=>
  have f0:=J6 HM.bands;have E:Bz w w.drew:=Z2 Q5;refine VR (fun t=>[10].contains t) (fun W=>W.cell? ⟨e,7,none⟩=some (IP (some ⟨bb,0,none⟩))) Q4 (show w.drew.cell? ⟨e,7,none⟩=some (IP (some ⟨bb,0,none⟩))from c7) (fun a7=>?_);obtain⟨w0,f7⟩:=exq w.drew;rw[f7]at E a7|-;clear f7;refine tM 0 ?_;refine tM 1 ?_;refine tM 2 ?_;refine tM 3 ?_;refine tM 4 ?_;refine tM 5 ?_;refine tM 6 ?_;refine SX (i:=7) (j:=9) Q4 ?_ ?_
  ·skip
   refine BD 7 rfl (fun K1 g9=>?_);go_simp
   go_at_call 154
   refine(Qj bb m.st m.dy m.an m.la _ (Z4 f0 E)).mono ?_;rintro ev wx⟨rfl,rfl⟩;refine g9 _ _ (fun _=>a7) ?_;clear g9;refine SX (i:=8) (j:=9) Q4 ?_ ?_
   ·skip
    refine BD 8 rfl (fun K2 h4=>?_);go_simp
    go_at_call 153
    refine(HW _ E).mono ?_;rintro ev w2⟨rfl,j3⟩;have d5:=E.trans (j3.mono E.size);have i4:=U7 a7 j3;refine h4 _ _ (fun _=>i4) ?_;clear h4;refine oM 9 fun K3 h5=>?_
    go_simp;have e4:Bz w2 (w2.alloc (.cells #[I O 0,I O 0,I O 0] 99)):=Q5.alloc Q2 _;have d0:=Z5 w2 99 #[I O 0,I O 0,I O 0];have d7:w.heap.size<=w2.heap.size:=d5.size;obtain⟨g3,f4⟩:=exq w2.heap.size;obtain⟨w3,f9⟩:=exq (w2.alloc (.cells #[I O 0,I O 0,I O 0] 99));rw[f9]at e4 d0|-;have i7:=d5.trans (e4.mono d5.size);have k7:=U7 i4 e4;rw[f4]at d0 d7|-;clear f9 f4;refine h5 _ _ (fun _=>k7) ?_;clear h5;refine oM 10 fun K4 h6=>?_
    refine(X0 Q8).mpr ?_;refine DY 99 _ _ rfl (g3) #[I O u,I O y,I O D] rfl rfl 99 #[I O 0,I O 0,I O 0] d0 (by show(prog.info? 99).map (·.size)=some 3;kernel_rfl) rfl J0 ?_;have j5:=BH _ _ _ #[I O u,I O y,I O D] _ d0;have j1:=UP w3 (g3) #[I O u,I O y,I O D];obtain⟨w4,g0⟩:=exq (w3.setRow (g3) #[I O u,I O y,I O D]);rw[g0]at j5 j1|-;clear g0;refine h6 _ _ (fun e=>absurd e Q1) ?_;clear h6;have l1:=i7.trans (j1.below (fun i e=>e▸d7) i7.size);simp only[Act.put];refine XX Q4 ?_ _;go_wp2;go_meet;exact⟨_,rfl,j5,l1,d7⟩
   skip
   refine BD 9 rfl (fun K5 h7=>?_);go_simp;have e5:Bz w0 (w0.alloc (.cells #[I O 0,I O 0,I O 0] 99)):=Q5.alloc Q2 _;have e8:=Z5 w0 99 #[I O 0,I O 0,I O 0];have d8:w.heap.size<=w0.heap.size:=E.size;obtain⟨g5,f5⟩:=exq w0.heap.size;obtain⟨w5,g1⟩:=exq (w0.alloc (.cells #[I O 0,I O 0,I O 0] 99));rw[g1]at e5 e8|-;have C:=E.trans (e5.mono E.size);have i5:=U7 a7 e5;rw[f5]at e8 d8|-;clear g1 f5;refine h7 _ _ (fun _=>i5) ?_;clear h7;refine oM 8 fun K6 h8=>?_
   go_simp
   go_at_call 153
   refine(HW _ C).mono ?_;rintro ev w6⟨rfl,e6⟩;have i8:=C.trans (e6.mono C.size);have k8:=U7 i5 e6;refine h8 _ _ (fun _=>k8) ?_;clear h8;have j7:=Z4 e8 e6;refine oM 10 fun K7 h9=>?_
   refine(X0 Q8).mpr ?_;refine DY 99 _ _ rfl (g5) #[I O u,I O y,I O D] rfl rfl 99 #[I O 0,I O 0,I O 0] j7 (by show(prog.info? 99).map (·.size)=some 3;kernel_rfl) rfl J0 ?_;have j6:=BH _ _ _ #[I O u,I O y,I O D] _ j7;have j2:=UP w6 (g5) #[I O u,I O y,I O D];obtain⟨w7,g4⟩:=exq (w6.setRow (g5) #[I O u,I O y,I O D]);rw[g4]at j6 j2|-;clear g4;refine h9 _ _ (fun e=>absurd e Q1) ?_;clear h9;have l2:=i8.trans (j2.below (fun i e=>e▸d8) i8.size);simp only[Act.put];refine XX Q4 ?_ _;go_wp2;go_meet;exact⟨_,rfl,j6,l2,d8⟩
  skip
  refine BD 9 rfl (fun K8 i0=>?_);go_simp;have e7:Bz w0 (w0.alloc (.cells #[I O 0,I O 0,I O 0] 99)):=Q5.alloc Q2 _;have e9:=Z5 w0 99 #[I O 0,I O 0,I O 0];have d9:w.heap.size<=w0.heap.size:=E.size;obtain⟨g8,f6⟩:=exq w0.heap.size;obtain⟨w8,g6⟩:=exq (w0.alloc (.cells #[I O 0,I O 0,I O 0] 99));rw[g6]at e7 e9|-;have c6:=E.trans (e7.mono E.size);have d4:=U7 a7 e7;rw[f6]at e9 d9|-;clear g6 f6;refine i0 _ _ (fun _=>d4) ?_;clear i0;refine oM 7 fun K9 i3=>?_
  go_simp
  go_at_call 154
  refine(Qj bb m.st m.dy m.an m.la _ (Z4 f0 c6)).mono ?_;rintro ev wx⟨rfl,rfl⟩;refine i3 _ _ (fun _=>d4) ?_;clear i3;refine oM 8 fun l6 h0=>?_
  go_simp
  go_at_call 153
  refine(HW _ c6).mono ?_;rintro ev j9⟨rfl,e3⟩;have i6:=c6.trans (e3.mono c6.size);have k6:=U7 d4 e3;refine h0 _ _ (fun _=>k6) ?_;clear h0;have j8:=Z4 e9 e3;refine oM 10 fun l7 h3=>?_
  refine(X0 Q8).mpr ?_;refine DY 99 _ _ rfl (g8) #[I O u,I O y,I O D] rfl rfl 99 #[I O 0,I O 0,I O 0] j8 (by show(prog.info? 99).map (·.size)=some 3;kernel_rfl) rfl J0 ?_;have j4:=BH _ _ _ #[I O u,I O y,I O D] _ j8;have j0:=UP j9 (g8) #[I O u,I O y,I O D];obtain⟨m3,f8⟩:=exq (j9.setRow (g8) #[I O u,I O y,I O D]);rw[f8]at j4 j0|-;clear f8;refine h3 _ _ (fun e=>absurd e Q1) ?_;clear h3;have k9:=i6.trans (j0.below (fun i e=>e▸d9) i6.size);simp only[Act.put];refine XX Q4 ?_ _;go_wp2;go_meet;exact⟨_,rfl,j4,k9,d9⟩
 obtain⟨gq,rfl,hq,hb,hg⟩:=hcut;have a6:=HM.below hb;have g7:=HE.below hb;have c7:=a6.cell a6.ec.c7;obtain⟨q0,q1,q2⟩:=TD hq;obtain⟨a4,k1,f1,Z,l5,l4⟩:=Xu0 (fun W hW=>Qb4 bb m.st m.dy m.an m.la u W (Z4 a6.bands hW)) a6 g7 hb (N0 (o:=own) hb) (S5 (G:=F) hb);obtain⟨cb,d6⟩:=exq (AS m.st m.an u);rw[d6]at a4;have i9:DN m↔(y=0\/cb=true):=by unfold DN;rw[HT.out,<-d6]
 have a3:=J6 i9;clear a6 g7 hb hq hg d6 i9 HW
 by_cases h1:y=0
 ·have d1:=V4 h1
  have HS:Hid (ZN m=XD m/\JB m={ZD m with ph:=3}):=J6 ⟨by funext F;unfold ZN;rw[X0 (a3.2 (.inl h1))],by unfold JB;rw[X0 (a3.2 (.inl h1))]⟩;clear h1;go_wp2_with fail
  go_quiet (fail)
  go_wp2_with fail
  refine(Vu (f1.below (Y5 Q5 _)) HI.la).mono ?_;rintro ev w6⟨A,c,Fs,rfl,b2,b0,a8,F2,a0,b1,a9⟩;have d3:=J6 (show R9 _ w6 e F (XD m) (ZD m) (.returned (.slice A (List.length Fs) c))from⟨A,c,Fs,rfl,b2,b0,a8,F2,a0,b1,a9⟩);obtain⟨-,x1,x2,-⟩:=a0.setPh 3;clear b2 b0 a8 a0 b1 a9;go_wp2;go_ret;rw[HS.1,HS.2];exact(d3.setPh 3).pre (Z.trans ((show Bz wc _ from(Y5 Q5 _)).mono Z.size))
 have d1:=Z3 h1
 cases cb with
 |true=>
  have HS:Hid (ZN m=XD m/\JB m={ZD m with ph:=3}):=J6 ⟨by funext F;unfold ZN;rw[X0 (a3.2 (.inr rfl))],by unfold JB;rw[X0 (a3.2 (.inr rfl))]⟩;clear h1;go_wp2_with fail
  go_still_tail 10,Q4
  change wpList _ _ _ _ _ wc.drew;go_wp2_with fail
  refine(a4 wc.drew (Z2 Q5)).mono ?_;rintro ev w5⟨rfl,C⟩;have a1:=(Z2 (J9 _ wc)).trans C;have a2:=J6 a1;clear q0 q1 q2 c7 C a1 a4;go_wp2_with fail
  go_wp2_with fail
  refine(Vu (f1.below a2) HI.la).mono ?_;rintro ev w6⟨A,c,Fs,rfl,b2,b0,a8,F2,a0,b1,a9⟩;have d3:=J6 (show R9 _ w6 e F (XD m) (ZD m) (.returned (.slice A (List.length Fs) c))from⟨A,c,Fs,rfl,b2,b0,a8,F2,a0,b1,a9⟩);obtain⟨-,x1,x2,-⟩:=a0.setPh 3;clear b2 b0 a8 a0 b1 a9;go_wp2;go_ret;rw[HS.1,HS.2];exact(d3.setPh 3).pre (Z.trans ((show Bz wc _ from a2.out).mono Z.size))
 |false=>
  have b8:=J6 (fun h=>(a3.1 h).elim h1 (fun h=>by cases h));have c7:=c7;go_wp2_with fail
  go_still_tail 10,Q4
  change wpList _ _ _ _ _ wc.drew;go_wp2_with fail
  refine(a4 wc.drew (Z2 Q5)).mono ?_;rintro ev w5⟨rfl,C⟩;have a1:=(Z2 (J9 _ wc)).trans C;have a2:=J6 a1;have J:=k1.below a1;have f3:=J.cell J.ec.c17;have c5:=J.cell J.ec.c5;have k5:=J.frozen 17;have k3:=J.cell J.ec.c14;have k4:=J.frozen 14;clear q0 q1 q2 c7 C a1 a4;obtain⟨lg,c8⟩:=exq m.lng;obtain⟨mo,e1⟩:=exq m.mo;rw[c8]at f3;rw[e1]at c5;have a5:=J6 (And.intro c8 e1);have hI:=HI.out;have l3:=hI.lng;rw[c8]at l3;have f2:=J6 J;clear c8 e1 hI J
  by_cases h2:lg<mo
  ·have d2:=V7 h2
   have HS:Hid (ZN m []/\JB m={m with lng:=m.lng+1,ends:=m.now+m.tk}):=J6 ⟨by unfold ZN;rw[J8 b8.out],by unfold JB;rw[J8 b8,X0 (by rw[a5.1,a5.2];exact h2)]⟩;have i1:RowKit.wrap64 (lg+1)=lg+1:=by unfold RowKit.wrap64;omega
   clear h2;go_wp2_with fail
   go_quiet (fail)
   go_upto_region 9 with fail
   obtain⟨N,e2⟩:=(f2.below (Y5 (J9 _ w5) nq)).setLng (lg+1);obtain⟨w6,g2⟩:=exq ((w5.drewN nq).setCell ⟨e,17,none⟩ (I O (lg+1)));rw[g2]at N e2|-;clear f3 k5 k3 k4 c5 i1 g2;have l8:=N.cell N.ec.c15;have c4:=N.cell N.ec.c4;have l9:=N.cell N.ec.c16;have m0:=N.frozen 16;have i2:RowKit.wrap64 (m.now+m.tk)=m.now+m.tk:=by have h1:=HI.now;have h2:=HI.tk;unfold RowKit.wrap64;omega
   obtain⟨b9,c9⟩:=(N.below (Z2 (J9 _ w6))).setEnds (m.now+m.tk);obtain⟨k0,k2⟩:=Xt6 b9 ((e2.trans (N0 (Z2 (J9 _ w6)))).trans c9);clear N b9 e2 c9
   go_still_tail 13,Q4
   change wpList _ _ _ _ _ w6.drew;go_wp2;go_ret;rw[HS.2,a5.1];have C:Bz w (w5.drewN nq):=Z.trans ((Y5 a2 nq).mono Z.size);exact R9.none_ ⟨_,MF k0 (fun _ _ _=>rfl),(((N0 C).trans k2)).bstep HF⟩ HS.1
  have d2:=V9 h2;have HS:Hid (ZN m []/\JB m={m with ph:=6}):=J6 ⟨by unfold ZN;rw[J8 b8.out],by unfold JB;rw[J8 b8,J8 (by rw[a5.1,a5.2];exact h2)]⟩;clear h2;go_wp2_with fail
  go_quiet (fail)
  go_wp2;go_ret;rw[HS.2];have C:Bz w (w5.drewN nq):=Z.trans ((Y5 a2 nq).mono Z.size);obtain⟨b9,c9⟩:=(f2.below (Y5 (J9 _ w5) nq)).setPh 6;exact R9.none_ ⟨_,MF b9 (fun _ _ _=>rfl),(((N0 C).trans c9)).bstep HF⟩ HS.1
theorem Js1{σ al tr}:∀l o(t:σ),(A4 al tr l o t).fills.length<=l.length:=by
 intro l
 induction l with
 |nil=>intro o t;exact X3 _
 |cons x r i=>
  intro o t;unfold A4
  split
  ·exact U9 _
  split
  ·exact Nat.le_succ_of_le (i o t)
  split
  ·exact U9 _
  split
  ·exact U9 _
  dsimp only;rw[JA,JA];exact Nat.succ_le_succ (i _ _)
theorem Qn4{sd F}(h:∀f∈F,Qw f)s k:MD sd F s k<=1000000*F.length:=by
 induction F with
 |nil=>exact T3 _
 |cons f t j=>
  rw[Xu,JA];have h1:=j (fun g i=>h g (by simp[i]));have h2:=(h f Q3).n
  split<;>omega
theorem Xe0{m}(h:E5 m.L1 m.L2)o:(S6 m o).fills.length<=100:=by
 have h1:(S6 m o).fills.length<=(V1 (3-o.side) m.L1 m.L2).length:=Js1 _ _ _;have h2:=h.cnt;rw[B6]at h2;have i:(V1 (3-o.side) m.L1 m.L2).length<=m.L1.length+m.L2.length:=by
  unfold V1
  split<;>omega
 omega
theorem Fe{m:Z6}(h:E5 m.L1 m.L2)sd:∀x∈V1 sd m.L1 m.L2,KG x:=fun x i=>by
 unfold V1 at i
 split at i
 ·exact h.ok x (T9 _ i)
 exact h.ok x (JJ _ i)
theorem Xe1{m}(h:E5 m.L1 m.L2)o:∀f∈(S6 m o).fills,Qw f:=Jg8 _ _ _ (Fe h _)
theorem PX m o:(T5 m o).now=m.now/\(T5 m o).tk=m.tk:=by
 unfold T5
 split
 ·exact⟨rfl,rfl⟩
 exact⟨rfl,rfl⟩
theorem Ek{w g n c t ps}(h:X8 w (sA g) n c t 4 (X7 QT ps)){i}(y:i<ps.length):w.cell? (aD g (i*4))=some (I O ps[i].b)/\w.cell? (aD g (i*4+1))=some (I O ps[i].s)/\w.cell? (aD g (i*4+2))=some (I O ps[i].p)/\w.cell? (aD g (i*4+3))=some (I O ps[i].n):=by
 obtain⟨C,u,j⟩:=h.elem Xx Q0 y
 cases u;exact⟨j 0 _ rfl,j 1 _ rfl,j 2 _ rfl,j 3 _ rfl⟩
theorem Jh7{m}(h:E5 m.L1 m.L2){o}(j:V5 o.side)s k:C4 s k (P1 m)=C4 s k (P1 (VC m o))+MD o.side (S6 m o).fills s k:=by
 have key:=Jr2 (al:=fun la p=>YA m.st m.dy m.an la p) (tr:=fun _ p=>p) (sd:=o.side) s k (V1 (3-o.side) m.L1 m.L2) o m.la (fun x i=>by
  obtain e|e:=j
  ·rw[e]at i|-
   exact h.s2 x i
  rw[e]at i|-;exact h.s1 x i)
 have u:(A4 (fun la p=>YA m.st m.dy m.an la p) (fun _ p=>p) (V1 (3-o.side) m.L1 m.L2) o m.la)=S6 m o:=rfl;rw[u]at key;unfold P1 VC;dsimp only;obtain e|e:=j
 ·rw[X0 e,X0 e,NR,NR]
  rw[show V1 (3-o.side) m.L1 m.L2=m.L2 by rw[e];rfl]at key;omega
 rw[J8 Q0,J8 Q0,NR,NR];rw[show V1 (3-o.side) m.L1 m.L2=m.L1 by rw[e];rfl]at key;omega
structure GZ(w wr:World)(e tb bb bk im V X Y:Nat)(T:Option Addr)(tc:Nat)(Ap:Option Addr)(pc:Nat)(es:List MapEntry)(mc:Nat)(own:Nat->Nat->Prop)(A:Option Addr)(c:Nat)(F:List C6)(ob lb:Array Value)(m1:Z6)(sd:Int)(k:Nat)(cs:Array Value)(Al:Option Addr)(lc:Nat)(lv:List Z7)(bu se:Int)(G:Nat->Prop)(own2:Nat->Nat->Prop):Prop where
 eng:U8 wr e cs tb bb bk im T tc Al lc lv bu se Ap pc es mc G own2 (fun s q=>C4 s q (P1 m1)+MD sd (F.drop k) s q) m1
 step:U3 w wr own own2
 row:ZE wr own2 A F.length c 127 4 (X7 QT F)
 fA:∀i,X5 A=some i->w.heap.size<=i
 v:J7 wr V 27 #[pA e]/\∀k,¬own2 V k
 x:J7 wr X 84 ob/\∀k,¬own2 X k
 y:J7 wr Y 84 lb/\∀k,¬own2 Y k
 n:lv.length<=100+k
def Ab(w wr:World)(e tb bb bk im V X Y:Nat)(T:Option Addr)(tc:Nat)(Ap:Option Addr)(pc:Nat)(es:List MapEntry)(mc:Nat)(own:Nat->Nat->Prop)(A:Option Addr)(c:Nat)(F:List C6)(ob lb:Array Value)(m1:Z6)(sd:Int)(k:Nat):Prop:=
 ∃cs Al lc lv bu se G own2,GZ w wr e tb bb bk im V X Y T tc Ap pc es mc own A c F ob lb m1 sd k cs Al lc lv bu se G own2
section
variable {w w1 wr wz w':World} {e tb bb bk im V X Y:Nat} {cs:Array Value} {T:Option Addr} {tc:Nat} {Al:Option Addr} {lc:Nat} {lv lv':List Z7} {bu se bu' se':Int} {Ap:Option Addr} {pc:Nat} {es:List MapEntry} {mc:Nat} {G:Nat->Prop} {own own2:Nat->Nat->Prop} {A:Option Addr} {c k:Nat} {F:List C6} {ob lb:Array Value} {m m1:Z6} {sd:Int} {G2:Nat->Prop} {o:X6}
theorem GZ.below(h:GZ w wr e tb bb bk im V X Y T tc Ap pc es mc own A c F ob lb m1 sd k cs Al lc lv bu se G own2)(i:Bz wr w'):GZ w w' e tb bb bk im V X Y T tc Ap pc es mc own A c F ob lb m1 sd k cs Al lc lv bu se G own2:=
 ⟨h.eng.below i,h.step.trans (N0 i),h.row.below i,h.fA,⟨Z4 h.v.1 i,h.v.2⟩,⟨Z4 h.x.1 i,h.x.2⟩,⟨Z4 h.y.1 i,h.y.2⟩,h.n⟩
theorem GZ.cells{a1 a2 a3 a4 a5 b1 b2 b3 b4 b5}(h:GZ w wr e tb bb bk im V X Y T tc Ap pc es mc own A c F #[a1,a2,a3,a4,a5] #[b1,b2,b3,b4,b5] m1 sd k cs Al lc lv bu se G own2):wr.cell? (aD V 0)=some (pA e)/\wr.cell? (aD X 1)=some a2/\wr.cell? (aD Y 0)=some b1/\wr.cell? (aD Y 1)=some b2/\wr.cell? (aD Y 2)=some b3/\wr.cell? (aD Y 3)=some b4/\wr.cell? (aD Y 4)=some b5:=
 ⟨by rw[X9 h.v.1];rfl,by rw[X9 h.x.1];rfl,by rw[X9 h.y.1];rfl,by rw[X9 h.y.1];rfl,by rw[X9 h.y.1];rfl,by rw[X9 h.y.1];rfl,by rw[X9 h.y.1];rfl⟩
theorem DR.loop(h:DR w1 wr e tb bb bk im V X cs T tc Al lc lv bu se Ap pc es mc own (fun s q=>C4 s q (P1 m)) A c (S6 m o).fills ob (VC m o) G2)(C:Bz w w1)(D:w.heap.size<=V)(N:E5 m.L1 m.L2)(Z:V5 o.side)(hn:lv.length<=100)(E:J7 wr Y 84 lb)(J:Zt (KQ w1 own G2 4) V X A Y):Ab w wr e tb bb bk im V X Y T tc Ap pc es mc own A c (S6 m o).fills ob lb (VC m o) o.side 0:=by
 refine⟨cs,Al,lc,lv,bu,se,G2,KQ w1 own G2 4,⟨h.eng.lots (fun s q _=>?_),⟨(B9 C _).trans h.keep (fun i y=>?_),fun i j y=>?_⟩,⟨h.row,fun i y j u=>?_⟩,fun i y=>U4 C.size (h.fA i y).1,⟨h.var,fun j u=>?_⟩,⟨h.box,fun j u=>?_⟩,⟨E,J.1⟩,Q0⟩⟩
 ·exact Jh7 N Z s q
 ·obtain y|rfl:=y
  ·exact .inl y
  exact .inr D
 ·rcases hj':y with y|y
  ·exact .inl y
  exact .inr (U4 C.size y.1)
 ·have h1:=h.fA i y
  obtain u|u:=u
  ·have:=h.o1.lt i j u;omega
  exact h1.2 u.2.1
 ·obtain u|u:=u
  ·exact h.nv.1 j u
  have:=u.1;have:=h.nv.2.2.2.1;omega
 obtain u|u:=u
 ·exact h.nv.2.1 j u
 have:=u.1;have:=h.nv.2.2.2.2;omega
theorem GZ.small(h:GZ w wr e tb bb bk im V X Y T tc Ap pc es mc own A c F ob lb m1 sd k cs Al lc lv bu se G own2)(y:∀f∈F,Qw f)(J:F.length<=100)(hk:k<=F.length):MT lv bu se:=by
 have u:=h.eng.book.lists;have j:∀f∈F.drop k,Qw f:=fun f i=>y f (FP i)
 refine(h.eng.is.mild h.eng.ind.ok (fun s q=>?_) (by have:=h.n;omega)).small;have h1:=Qb (s:=s) (k:=q) (EH u);have h2:=u.cnt;have C:=Qn4 (sd:=sd) j s q;have D:=Gr (sd:=sd) (fun f i=>(j f i).n.1) s q;have E:(F.drop k).length<=100:=by rw[UQ];omega
 show 0<=C4 s q (P1 m1)+_/\C4 s q (P1 m1)+_<=_;unfold P1;omega
theorem GZ.next(h:GZ w wr e tb bb bk im V X Y T tc Ap pc es mc own A c F ob lb m1 sd k cs Al lc lv bu se G own2)(u:∀f∈F,Qw f)(hk:k<F.length)(a3:V5 sd){f}(E:F[k]=f)(hit:UC wr w' e 203 cs 9 Al lv' bu' se')(a4:GU lv bu se ⟨0,3-sd,1,f.p,f.n⟩ (-1) lv' bu' se'):Ab w w' e tb bb bk im V X Y T tc Ap pc es mc own A c F ob lb m1 sd (k+1):=by
 have J:=u f (E▸C7 hk);have D:F.drop k=f::F.drop (k+1):=by rw[CZ hk,E]
 have j:(3-sd=1\/3-sd=2):=by obtain e|e:=a3<;>omega
 have hr:AH ⟨0,3-sd,1,f.p,f.n⟩:=⟨j,J.n,.inr J.p⟩;have a1:∀g∈F.drop (k+1),1<=g.n:=fun g hg=>(u g (FP hg)).n.1
 have N:T8 ⟨0,3-sd,1,f.p,f.n⟩=some f.p:=J8 (show¬((1:Int)=2) by decide);have hq:(⟨0,3-sd,1,f.p,f.n⟩:X6).qty<=BZ lv bu se ⟨0,3-sd,1,f.p,f.n⟩:=by rw[h.eng.is.has j,N,D];show f.n<=C4 (3-sd) (some f.p) (P1 m1)+MD sd (f::F.drop (k+1)) (3-sd) (some f.p);rw[Xu,X0 ⟨rfl,rfl⟩];have h1:=Gr (sd:=sd) a1 (3-sd) (some f.p);have h2:=(Qb (s:=3-sd) (k:=some f.p) (EH h.eng.book.lists)).1;unfold P1;omega
 obtain⟨-,C⟩:=Sz hr hq a4;have a2:=h.eng.is.chg j C;obtain⟨a0,Z,a5,own',hM,i⟩:=h.eng.indTo hit a2;refine⟨a0,Z,a5,lv',bu',se',G,own',⟨hM.lots (fun s q _=>?_),h.step.trans i,h.row.step i,h.fA,TM h.v i,TM h.x i,TM h.y i,by have:=C.1;have:=h.n;omega⟩⟩;rw[D,Xu,N];show C4 s q (P1 m1)+((if 3-sd=s/\some f.p=q then f.n else 0)+MD sd (F.drop (k+1)) s q)+(if 3-sd=s/\some f.p=q then -1*f.n else 0)=_
 split<;>omega
structure Jf(w wr:World)(e V:Nat)(F:Nat->Prop)(A:Option Addr)(c:Nat)(Fs:List C6)(m:Z6)(F':Nat->Prop):Prop where
 eng:D8 wr e F' m
 step:U2 w wr F F'
 row:X8 wr A Fs.length c 127 4 (X7 QT Fs)
 fA:∀g,X5 A=some g->w.heap.size<=g/\¬F' g
 v:J7 wr V 27 #[pA e]/\¬F' V
theorem GZ.end_{F0}(h:GZ w wr e tb bb bk im V X Y T tc Ap pc es mc own A c F ob lb m1 sd k cs Al lc lv bu se G own2)(C:∀i,F0 i↔∃k,own i k)(hk:F.length<=k):Jf w wr e V F0 A c F m1 (fun i=>∃j,own2 i j):=by refine⟨MF h.eng (fun s q _=>?_),h.step.bstep C,h.row.row,fun g y=>⟨h.fA g y,fun⟨j,u⟩=>h.row.far g y j u⟩,h.v.1,fun⟨j,u⟩=>h.v.2 j u⟩;rw[GH hk];show _+0=_;omega
theorem Jf.then_{F0 F1 Fs m'}(h:Jf w wr e V F0 A c Fs m1 F1)(ht:A5 wr w' e F1 m'):∃F2,Jf w w' e V F0 A c Fs m' F2:=by
 obtain⟨F2,h1,h2⟩:=ht;refine⟨F2,h1,h.step.trans h2,h.row.keeps h2.1 (fun g i=>(h.fA g i).2),fun g i=>⟨(h.fA g i).1,fun x=>?_⟩,V0 h.v.1 h2.1 h.v.2,fun x=>?_⟩
 ·obtain y|y:=h2.2 g x
  ·exact(h.fA g i).2 y
  have:=h.row.lt i;omega
 obtain y|y:=h2.2 V x
 ·exact h.v.2 y
 have:=Z9 h.v.1;omega
theorem Jf.fills{F0 F1 Fs P}(h:Jf w wr e V F0 A c Fs m1 F1)(j:P Fs):R9 w wr e F0 P m1 (.returned (.slice A (List.length Fs) c)):=
 ⟨A,c,Fs,rfl,j,h.row,fun g i=>(h.fA g i).1,F1,h.eng,h.step,fun g i=>(h.fA g i).2⟩
end
theorem Jh8{l:List X6}{p k}(hk:k<l.length)(h:p l[k]=true)(C:∀i(D:i<l.length),i<k->p l[i]=false):l.findIdx p=k/\l.any p=true:=by refine⟨(List.findIdx_eq hk).2 ⟨h,fun j u=>C j Q0 u⟩,Vj.2 ⟨_,C7 hk,h⟩⟩
theorem Mt{m id}(i:m.ph≠7)(j:FD m id=false):ZP m id=(if(B4 (P1 m) id).isSome=true then 0 else 7)/\N3 m id=WK m id:=by unfold ZP N3;rw[J8 i,J8 i,j];exact⟨rfl,rfl⟩
theorem Js2{m id k}(i:m.ph≠7)(j:FD m id=true)(hk:(m.pk.findIdx fun o=>o.id ==id)=k):ZP m id=0/\N3 m id={m with pk:=QM m.pk k}:=by unfold ZP N3;rw[J8 i,J8 i,X0 j,X0 j,hk];exact⟨rfl,rfl⟩
theorem Mu{w e F m}(h:D8 w e F m)(i6:m.pk.length<=100000)id:Calls prog 99 #[pA e,I O id] w fun D w'=>D=.returned (Y9 (ZP m id))/\A5 w w' e F (N3 m id):=by
 have hE:=h;obtain⟨cs,tb,bb,bk,im,T,tc,Al,lc,lv,bu,se,Ap,pc,es,mc,G,own,hM,hF⟩:=h;have b2:Bz w (w.alloc (.cells #[I O id] 3)):=(J9 _ w).alloc Q2 _;have hB:=Z5 w 3 #[I O id];obtain⟨wa,a3⟩:=exq (w.alloc (.cells #[I O id] 3));obtain⟨B,eB⟩:=exq w.heap.size;rw[a3]at b2 hB;rw[eB]at hB;have a1:=hM.below b2;have g0:=hE.below b2;have f9:∀k,¬own B k:=fun k hk=>by have:=hM.ok.lt B k hk;omega
 have f5:=a1.cell a1.ec.c14;have a2:=a1.cell a1.ec.c12;have f8:=a1.frozen 12;have C:wa.cell? ⟨B,0,none⟩=some (I O id):=by rw[X9 hB];rfl
 obtain⟨ph,e8⟩:=exq m.ph;obtain⟨n,hn⟩:=exq m.pk.length;rw[e8]at f5;rw[hn]at a2 i6;obtain⟨c7,HN,d3,c6,d5,HB,i7,HF⟩:=Xu2 e8 hn g0 b2 a1 hB f9 hF;clear hE hM hF b2 hB a1 g0 f9 e8 hn
 by_cases p7:ph=7
 ·have d7:=V4 p7
  have HS:Hid (ZP m id=6/\N3 m id=m):=J6 (by unfold ZP N3;rw[c7.out,X0 p7,X0 p7];exact⟨rfl,rfl⟩);clear p7;go_enter func99,ntmps99
  go_upto_region 1 with fail
  try rw[a3]
  try rw[eB]
  clear a3 eB;go_wp2;go_ret;rw[HS.1,HS.2];exact⟨rfl,RL c6 (LQ d3 Q5)⟩
 have d7:=Z3 p7;have H7:=J6 p7;clear p7;have g4:=Je6 143 #[IP (some ⟨B,0,none⟩)] (fun o=>o.id ==id) (R0 func143 Q4 rfl) Ap n pc m.pk wa (fun _=>False) (fun W p hk=>Qx1 W B id (V0 HB hk (fun x=>x)) p) (by rw[<-HN.out];exact CY JG Q0 d5.park) Q0;have f3:=J6 g4;clear g4;go_enter func99,ntmps99
 go_upto_region 1 with fail
 try rw[a3]
 try rw[eB]
 clear a3 eB;go_wp2_with fail
 refine f3.mono ?_;rintro D w1⟨u,e6⟩;have a0:=d5.below u;obtain⟨h5,J,d2,h0⟩:=Xt8 (d3.below u) a0 (c6.trans (u.mono c6.size)) (Z4 HB u);clear f5 a2 f8 C u f3 d3 d5 c6 HB;rcases e6 with⟨g5,rfl⟩|⟨k,hk,hy,g2,rfl⟩
 ·have f4:Hid (FD m id=false):=J6 (by
   unfold FD;rw[Bool.eq_false_iff];intro i2;obtain⟨o,ho,g6⟩:=Vj.1 i2;obtain⟨i,hi,rfl⟩:=ZX.1 ho;rw[g5 i hi]at g6
   cases g6)
  clear g5;have C:w1.cell? ⟨B,0,none⟩=some (I O id):=by rw[X9 h0.out];rfl
  have Z:=a0.cell a0.ec.c8;have e6:∃oo er,(∀W,Bz w1 W->Calls prog 145 #[IP (some ⟨bk,0,none⟩),I O id] W fun D w'=>Bz W w'/\D=.returned (.tuple #[V6 oo,er]))/\((B4 (P1 m) id).isSome=true/\er=.nilIface\/(B4 (P1 m) id).isSome=false/\er=Y9 7):=by
   cases hg:B4 (P1 m) id with
   |none=>
    refine⟨D4,Y9 7,fun W hW=>(Hf W bk G m.L1 m.L2 (J.below hW).book id).mono ?_,.inr ⟨rfl,rfl⟩⟩;rintro D w'⟨h1,h2|⟨o,h2,-⟩⟩
    ·exact⟨h1,h2.2⟩
    have h3:B4 (m.L1++m.L2) id=none:=hg;rw[h3]at h2;cases h2
   |some o=>
    refine⟨o,.nilIface,fun W hW=>(Hf W bk G m.L1 m.L2 (J.below hW).book id).mono ?_,.inl ⟨rfl,rfl⟩⟩;rintro D w'⟨h1,h2|⟨o',h2,h3⟩⟩
    ·have h3:B4 (m.L1++m.L2) id=some o:=hg
     rw[h3]at h2;cases h2.1
    have h4:B4 (m.L1++m.L2) id=some o:=hg;rw[h4]at h2;cases h2;exact⟨h1,h3⟩
  obtain⟨⟨o1,o2,o3,o4,o5⟩,er,d0,g7⟩:=e6;unfold V6 at d0;dsimp only at d0;obtain⟨HOr,d4⟩:=Xt6 d0 g7;clear d0 g7 a0;go_upto_region 7 with fail
  go_cut [7] (fun s7 wx=>s7=er/\Bz w1 wx)
  case first=>
   refine VR (fun t=>[].contains t) (fun W=>W.cell? ⟨e,8,none⟩=some (IP (some ⟨bk,0,none⟩))/\W.cell? ⟨B,0,none⟩=some (I O id)) Q4 ⟨Z,C⟩ (fun g1=>?_);refine tM 0 ?_;refine tM 1 ?_;refine tM 2 ?_;refine tM 3 ?_;refine tM 4 ?_;refine SX (i:=5) (j:=9) Q4 ?_ ?_
   ·skip
    refine BD 5 rfl (fun K1 a5=>?_);go_simp;refine(HOr _ (Z2 Q5)).mono ?_;rintro D w2⟨hq,rfl⟩;have u:Bz w1 w2:=(Z2 Q5).trans hq;have a8:(fun W:World=>W.cell? ⟨e,8,none⟩=some (IP (some ⟨bk,0,none⟩))/\W.cell? ⟨B,0,none⟩=some (I O id)) w2:=⟨U7 Z u,U7 C u⟩;refine a5 _ _ (fun _=>a8) ?_;clear a5 g1 hq;refine tM 6 ?_;refine tM 7 ?_;refine tM 8 ?_;refine oM 9 fun K2 a6=>?_
    go_simp;have E:Bz w1 (w2.alloc (.cells #[I O 0,I O 0,I O 0,I O 0,I O 0] 84)):=u.alloc u.size _;have c5:=Z5 w2 84 #[I O 0,I O 0,I O 0,I O 0,I O 0];have a9:w1.heap.size<=w2.heap.size:=u.size;obtain⟨Y,eY⟩:=exq w2.heap.size;obtain⟨w3,f7⟩:=exq (w2.alloc (.cells #[I O 0,I O 0,I O 0,I O 0,I O 0] 84));rw[f7]at E c5|-;rw[eY]at c5 a9|-;have d9:(fun W:World=>W.cell? ⟨e,8,none⟩=some (IP (some ⟨bk,0,none⟩))/\W.cell? ⟨B,0,none⟩=some (I O id)) w3:=⟨U7 Z E,U7 C E⟩;refine a6 _ _ (fun _=>d9) ?_;clear a6 f7 eY a8;refine oM 10 fun K5 a7=>?_
    refine(X0 Q8).mpr ?_;refine DY 84 _ _ rfl Y #[I O o1,I O o2,I O o3,I O o4,I O o5] rfl rfl 84 #[I O 0,I O 0,I O 0,I O 0,I O 0] c5 (by show(prog.info? 84).map (·.size)=some 5;kernel_rfl) rfl J0 ?_;have b5:=UP w3 Y #[I O o1,I O o2,I O o3,I O o4,I O o5];obtain⟨w6,a4⟩:=exq (w3.setRow Y #[I O o1,I O o2,I O o3,I O o4,I O o5]);rw[a4]at b5|-;have h6:=E.trans (b5.below (fun i e=>e▸a9) E.size);have e1:(fun W:World=>W.cell? ⟨e,8,none⟩=some (IP (some ⟨bk,0,none⟩))/\W.cell? ⟨B,0,none⟩=some (I O id)) w6:=⟨U7 Z h6,U7 C h6⟩;refine a7 _ _ (fun _=>e1) ?_;clear a7 a4;simp only[Act.put];refine tM 11 ?_;refine XX Q4 ?_ _;go_wp2;go_meet;exact⟨rfl,h6⟩
   skip
   refine BD 9 rfl (fun K1 a5=>?_);go_simp;have u:Bz w1 (w1.alloc (.cells #[I O 0,I O 0,I O 0,I O 0,I O 0] 84)).drew:=Z2 (Q5.alloc Q2 _);have e9:=Y6 (Z5 w1 84 #[I O 0,I O 0,I O 0,I O 0,I O 0]);have a9:w1.heap.size<=w1.heap.size:=X3 _;obtain⟨Y,eY⟩:=exq w1.heap.size;obtain⟨w2,f6⟩:=exq ((w1.alloc (.cells #[I O 0,I O 0,I O 0,I O 0,I O 0] 84)).drew);rw[f6]at u e9|-;rw[eY]at e9|-;have a9:w1.heap.size<=Y:=CB eY;have a8:(fun W:World=>W.cell? ⟨e,8,none⟩=some (IP (some ⟨bk,0,none⟩))/\W.cell? ⟨B,0,none⟩=some (I O id)) w2:=⟨U7 Z u,U7 C u⟩;refine a5 _ _ (fun _=>a8) ?_;clear a5 f6 eY g1;refine oM 5 fun K2 a6=>?_
   go_simp;refine(HOr _ u).mono ?_;rintro D w3⟨hq,rfl⟩;have E:=u.trans (hq.mono u.size);have c5:=Z4 e9 hq;have d9:(fun W:World=>W.cell? ⟨e,8,none⟩=some (IP (some ⟨bk,0,none⟩))/\W.cell? ⟨B,0,none⟩=some (I O id)) w3:=⟨U7 Z E,U7 C E⟩;refine a6 _ _ (fun _=>d9) ?_;clear a6 a8 hq;refine tM 6 ?_;refine tM 7 ?_;refine tM 8 ?_;refine oM 10 fun K5 a7=>?_
   refine(X0 Q8).mpr ?_;refine DY 84 _ _ rfl Y #[I O o1,I O o2,I O o3,I O o4,I O o5] rfl rfl 84 #[I O 0,I O 0,I O 0,I O 0,I O 0] c5 (by show(prog.info? 84).map (·.size)=some 5;kernel_rfl) rfl J0 ?_;have b5:=UP w3 Y #[I O o1,I O o2,I O o3,I O o4,I O o5];obtain⟨w6,a4⟩:=exq (w3.setRow Y #[I O o1,I O o2,I O o3,I O o4,I O o5]);rw[a4]at b5|-;have h6:=E.trans (b5.below (fun i e=>e▸a9) E.size);have e1:(fun W:World=>W.cell? ⟨e,8,none⟩=some (IP (some ⟨bk,0,none⟩))/\W.cell? ⟨B,0,none⟩=some (I O id)) w6:=⟨U7 Z h6,U7 C h6⟩;refine a7 _ _ (fun _=>e1) ?_;clear a7 a4;simp only[Act.put];refine tM 11 ?_;refine XX Q4 ?_ _;go_wp2;go_meet;exact⟨rfl,h6⟩
  obtain⟨rfl,c9⟩:=hcut;obtain⟨f2,f0⟩:=Xt6 (h5.below c9) (d2.trans (c9.mono d2.size));have C:=U7 C c9;clear c9 Z HOr;rcases d4.out with⟨hs,he⟩|⟨hs,he⟩
  ·subst he
   have HS:Hid (ZP m id=0/\N3 m id=WK m id):=J6 (by have h1:=Mt (fun x=>H7 (c7.symm.trans x)) f4;rw[X0 hs]at h1;exact h1);have h7:=J6 (Jr0 wc e F m f2 id);clear hs d4;go_wp2_with fail
   refine h7.mono ?_;rintro D w9⟨rfl,g9⟩;have i1:=J6 g9;clear g9;go_wp2;go_ret;rw[HS.1,HS.2];exact⟨rfl,RL f0 i1⟩
  subst he;have HS:Hid (ZP m id=7/\N3 m id=WK m id):=J6 (by have h1:=Mt (fun x=>H7 (c7.symm.trans x)) f4;rw[J8 (by rw[hs];exact Bool.false_ne_true)]at h1;exact h1);have h9:Hid (B4 (P1 m) id=none):=J6 (by simpa using hs);have e7:Y9 7=.iface 52 (I O 7):=rfl;rw[e7];clear hs d4;go_wp2;go_ret;rw[HS.1,HS.2,Pu h9.out];exact⟨rfl,RL f0 (LQ f2 Q5)⟩
 have e3:=Jh8 (p:=fun o=>o.id ==id) hk hy g2;have HS:=J6 (Js2 (m:=m) (id:=id) (fun x=>H7 (c7.symm.trans x)) e3.2 e3.1);have i5:k<n:=by rw[<-HN.out];exact hk
 have i4:(0:Int)<=(k:Int):=Q0;have dk:decide ((k:Int)>=0)=true:=V7 i4;have d1:=a0.park;rw[HN.out]at d1;obtain⟨ga,i3⟩:=EL d1 Q0;subst i3;have a2:=a0.cell a0.ec.c12;rw[HN.out]at a2;have g3:=Bm Xs9 w1 ga n pc k (k+1) ((k:Int)+1) Q0 m.pk d1 Q0 Q0 Q0;obtain⟨f1,i8⟩:=Xt6 g3 i5;clear e3 hk hy g2 a0 d1 g3;go_wp2_with fail
 refine f1.mono ?_;rintro D w3⟨rfl,g8,e4⟩;have e2:(QM m.pk k).length=k+(n-(k+1)):=by unfold QM;rw[B6,R7,UQ,HN.out];omega
 obtain⟨own',d8,e5⟩:=J.pkTo (P':=QM m.pk k) (Ap':=some ⟨ga,0,none⟩) (pc':=pc) (e4.mono (fun i hi=>by rw[hi];rfl)) (by rw[e2];exact g8) (fun i hi=>.inl hi);rw[e2]at d8 e5;have d6:J7 w3 e 203 cs:=V0 J.ind.blk e4 (fun x=>absurd (J.ok.uni _ _ _ (J.op _ (x▸rfl)) J.oe) Q1);have i9:w3.cell? ⟨e,12,none⟩=some (.slice (some ⟨ga,0,none⟩) n pc):=(X9 d6 12).trans (J.ec.c12.trans (by rw[HN.out]));have f8:=K0 d6 12;obtain⟨h8,i0⟩:=Xt6 d8 e5;clear a2 g8 e4 e2 d8 e5 d6 f1;go_wp2;go_ret;rw[HS.1,HS.2];exact⟨rfl,RL d2 ⟨_,MF (m:={m with pk:=QM m.pk k}) h8 (fun _ _ _=>rfl),i0.bstep HF⟩⟩
theorem Ti m:(VB m).ids=m.ids:=by obtain⟨j,E,J,N,Z,e6,e7,e8,i,u,y,C,D⟩:=MZ m.pk {m with ph:=5};exact i
theorem Js3 m o:(M8 m o).ids.length<=m.ids.length+1:=by
 unfold M8
 split
 ·have u:(B7 m (U6 o)).ids.length=m.ids.length+1:=by unfold B7;simp
  obtain⟨M,j⟩:=exq (B7 m (U6 o));rw[j]at u|-;have h1:(UR M (U6 o)).ids=M.ids:=by
   unfold UR
   split
   ·rfl
   split
   ·rfl
   have i:(T5 M (U6 o)).ids=M.ids:=by
    unfold T5
    split<;>rfl
   unfold XP
   split
   ·exact i
   exact i
  rw[h1];omega
 omega
theorem Jh9 m id:(N3 m id).ids=m.ids:=by
 unfold N3
 split
 ·rfl
 split<;>rfl
theorem Xe2 m:(JN m).ids=m.ids/\(JN m).now=m.now:=by unfold JN;split<;>exact⟨rfl,rfl⟩
theorem Xe3 m:(QK m).ids=m.ids/\(QK m).now=m.now:=by
 unfold QK
 split
 ·split
  ·exact⟨rfl,rfl⟩
  split
  ·exact⟨Ti m,(MZ m.pk {m with ph:=5}).2.2.2.2.2.2.2.2.2.2.1⟩
  exact⟨rfl,rfl⟩
 exact⟨rfl,rfl⟩
theorem Js4 m p:(XM m p).ids=m.ids:=by
 unfold XM
 split
 ·rfl
 split
 ·exact Ti m
 rfl
theorem Ji0 m:(JB m).ids=m.ids:=by
 unfold JB
 split
 ·rfl
 split<;>rfl
theorem Xe4 m:(G9 m).ids=m.ids:=by
 unfold G9
 split
 ·rfl
 unfold QR
 split
 ·split<;>rfl
 split
 ·rfl
 split
 ·exact Js4 _ _
 split
 ·exact Ji0 _
 rfl
