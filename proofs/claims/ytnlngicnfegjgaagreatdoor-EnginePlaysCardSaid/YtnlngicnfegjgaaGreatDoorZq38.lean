/- Parts. -/
import Derived.Test.YtnlngicnfegjgaaGreatDoorZq36
set_option linter.unusedVariables false
set_option maxRecDepth 100000
set_option maxHeartbeats 8000000
open Go.Proofs.Tryz
open Go.Value renaming int→I,pointer→IP
open Go.IntKind renaming i64→O
namespace Go.Proofs.YtnlngicnfegjgaaGreatDoor
open Go.RowKit
def N8 (w w':World) (e:Nat) (F:Nat->Prop) (P:List B5->Prop) (m:X7) (ev:Ending):Prop:=
 ∃A c Fs,ev= .returned (.slice A (List.length Fs) c)/\P Fs/\J2 w' A Fs.length c 89 4 (Q9 D8 Fs)/\(∀g,Q7 A=some g->w.heap.size<=g)/\ ∃F',C3 w' e F' m/\Z3 w w' F F'/\ ∀g,Q7 A=some g-> ¬F' g
theorem N8.none_ {w w' e F P m} (h:C0 w w' e F m) (j:P []):N8 w w' e F P m (.returned (.slice none 0 0)):=by
 obtain⟨F',h1,h2⟩:=h
 exact⟨none,0,[],rfl,j,JX _ _ _ _,fun g i=>by simp[Q7]at i,F',h1,h2,fun g i=>by simp[Q7]at i⟩
theorem C3.setPh {w e F m} (h:C3 w e F m) v:C0 w (w.setCell ⟨e,14,none⟩ (I O v)) e F {m with ph:=v}/\w.cell? ⟨e,14,none⟩=some (I O m.ph)/\w.frozen? ⟨e,14,none⟩=false/\F e:=by
 obtain⟨cs,tb,bb,bk,im,T,tc,Al,lc,lv,bu,se,Ap,pc,es,mc,G,own,i,j⟩:=h
 obtain⟨h1,h2⟩:=i.setPh v
 exact⟨⟨_,h1.at_ (fun _ _ _=>rfl),h2.bstep j⟩,i.cell i.ec.c14,i.frozen 14,(j e).2 ⟨1,i.oe⟩⟩
theorem C0.trans {w w1 w2 e F m1 m2} (h:C0 w w1 e F m1) (k: ∀i,C3 w1 e i m1->C0 w1 w2 e i m2):C0 w w2 e F m2:=by
 obtain⟨i,h1,h2⟩:=h
 obtain⟨u,j,v⟩:=k i h1
 exact⟨u,j,h2.trans v⟩
theorem N8.setPh {w w' e F P m ev} (h:N8 w w' e F P m ev) v:N8 w (w'.setCell ⟨e,14,none⟩ (I O v)) e F P {m with ph:=v} ev:=by
 obtain⟨A,c,Fs,h1,h2,i,Z,F',h5,J,u⟩:=h
 obtain⟨⟨U,E,C⟩,-,-,a0⟩:=h5.setPh v
 refine⟨A,c,Fs,h1,h2,i.keeps (V2 w' ⟨e,14,none⟩ (I O v)) (fun g j N=>u g j (by have i:g=e:=N;rw[i];exact a0)),Z,U,E,J.trans C,fun g j D=> ?_⟩
 rcases C.2 g D with y|y
 ·exact u g j y
 have:=i.lt j;omega
theorem N8.pre {w w1 w' e F P m ev} (i:Below w.heap.size w w1) (h:N8 w1 w' e F P m ev):N8 w w' e F P m ev:=by
 obtain⟨A,c,Fs,h1,h2,u,C,F',D,y,j⟩:=h
 exact⟨A,c,Fs,h1,h2,u,fun g v=>G0 i.size (C g v),F',D,(C1 i).trans y,j⟩
theorem C0.pre {w w1 w' e F m} (i:Below w.heap.size w w1) (h:C0 w1 w' e F m):C0 w w' e F m:=by
 obtain⟨F',h1,h2⟩:=h
 exact⟨F',h1,(C1 i).trans h2⟩
structure VD (m:X7):Prop where
 tab:0<m.rows.length/\m.rows.length<=20
 tk:0<=m.tk/\m.tk<=1000000
 la:1<=m.la/\m.la<=1000000
 now:0<=m.now/\m.now<=1000000000000
 lng:0<=m.lng/\m.lng<=1000000000000
 pk: ∀o∈m.pk,R9 o
 pkn:m.pk.length<=100000
theorem Qe4 {w e F m} (h:C3 w e F m) (v:VD m) p:
  Calls prog 40 #[IP (some ⟨e,0,none⟩),I O p] w fun ev w'=>N8 w w' e F (ZA m p) (JZ m p) ev:=by
 have HU:=Q0 (Jr h v.la)
 have HC:=Q0 (Dr h v.pk v.pkn)
 have D:=Q0 (h.setPh p)
 have hE:=Q0 h
 clear v h
 by_cases i:p=3
 ·have d3:=Z0 i
  have j:Hid (ZA m p=QW m/\JZ m p= {KJ m with ph:=3}):=Q0 ⟨by funext F;unfold ZA;rw[Q5 i],by unfold JZ;rw[Q5 i]⟩;rw[j.1,j.2];clear i;go_enter func40,ntmps40
  go_wp2_with fail
  refine HU.mono ?_;rintro ev w2 ⟨A,c,Fs,rfl,E,Z,J,F2,y,N,C⟩;have HF:=Q0 (show N8 w w2 e F (QW m) (KJ m) (.returned (.slice A (List.length Fs) c))from⟨A,c,Fs,rfl,E,Z,J,F2,y,N,C⟩);obtain⟨-,x1,x2,-⟩:=y.setPh 3;clear E Z J y N C;go_wp2_with fail
  go_ret;exact HF.setPh 3
 have d3:=X3 i
 by_cases u:p=5
 ·have d5:=Z0 u
  have j:Hid (ZA m p []/\JZ m p=ZR m):=Q0 ⟨by unfold ZA;rw[Q3 i],by unfold JZ;rw[Q3 i,Q5 u]⟩;rw[j.2];clear i u;go_enter func40,ntmps40
  go_wp2_with fail
  refine HC.mono ?_;rintro ev w2 ⟨rfl,U⟩;have a0:=Q0 U;clear U;go_wp2_with fail
  go_ret;exact N8.none_ a0 j.1
 have d5:=X3 u
 have j:Hid (ZA m p []/\JZ m p= {m with ph:=p}):=Q0 ⟨by unfold ZA;rw[Q3 i],by unfold JZ;rw[Q3 i,Q3 u]⟩
 rw[j.2]
 obtain⟨-,x1,x2,-⟩:=D.out
 clear i u
 go_enter func40,ntmps40
 go_wp2_with fail
 go_ret
 exact N8.none_ D.1 j.1
section
open Go.ChangeMaps
def CE (ps:List (Int×Int)) (st dy p tk mo:Int):X7:=⟨ps,st,dy,tk,mo,p,p,[],[],[],[],1,0,0,0⟩
def UV (ps:List (Int×Int)) (st dy p tk mo n pl:Int):Prop:=
 (SV ps n pl/\n≠0)\/(KD ps/\(R7 p st &&R7 p dy)=false/\n=2/\pl= -1)\/
 (KD ps/\(R7 p st &&R7 p dy)=true/\(tk<1\/1000000<tk\/mo<0\/10<mo)/\n=2/\pl= -1)\/
 (KD ps/\(R7 p st &&R7 p dy)=true/\ ¬(tk<1\/1000000<tk\/mo<0\/10<mo)/\n=0/\pl= -1)
structure Rb (w1 w2:World) (tb:Nat) (T:Option Addr) (tc:Nat) (ps:List (Int×Int)):Prop where
 lo:w1.heap.size<=tb
 lt:tb<w2.heap.size
 cell:w2.cell? ⟨tb,0,none⟩=some (.slice T ps.length tc)
 prs:T4 w2 T ps.length tc ps
 far: ∀g,Q7 T=some g->w1.heap.size<=g/\g≠tb
 pos:0<ps.length
structure Rc (w2 w3:World) (bb:Nat) (st dy p:Int):Prop where
 below:Below w2.heap.size w2 w3
 lo:w2.heap.size<=bb
 at_:XN w3 bb st dy p p
structure Av (w3 w5:World) (bk:Nat) (G:Nat->Prop) (im:Nat):Prop where
 below:Below w3.heap.size w3 w5
 book:QY w5 bk G [] []
 lo: ∀i,G i->w3.heap.size<=i
 map_:R8 w5 im [] 0
 ilo:w3.heap.size<=im
 ig: ¬G im
theorem Je4 {w3 w4 u:World} {bk G} (h:Below w3.heap.size w3 w4) (y: ∀i,G i->u.heap.size<=i) (C:w3.heap.size<=u.heap.size) (v:QY w4 bk G [] []):Av w3 (w4.alloc (.map #[] 0)) bk G w4.heap.size:=
 ⟨h.alloc h.size _,v.below ((Q2 _ w4).alloc (Q4 _) _),fun i j=>G0 C (y i j),R8.made w4,h.size,fun j=>YK _ (v.fp j)⟩
theorem Je5 {w3 w4 w5 bk im G} (h:Below w3.heap.size w3 w4) (u:R8 w4 im [] 0) (D:w3.heap.size=im) (v:Below w4.heap.size w4 w5) (y: ∀i,G i->w4.heap.size<=i) (C:QY w5 bk G [] []):Av w3 w5 bk G im:=
 ⟨h.trans (v.mono h.size),C,fun i j=>G0 h.size (y i j),u.below v u.lt,YZ D,fun j=>by have:=y _ j;have:=u.lt;omega⟩
theorem Pg {w1 w2 w3 w5 w9 tb bb bk im E T A tc len cap ps st dy p tk mo G}
  (ht:Rb w1 w2 tb T tc ps) (y:Rc w2 w3 bb st dy p) (j:Av w3 w5 bk G im) (C:Below w5.heap.size w5 w9)
  (he:Q1 w9 E 103 #[.slice A len cap,I O st,I O dy,I O p,I O tk,I O mo,IP (some ⟨tb,0,none⟩),IP (some ⟨bb,0,none⟩),IP (some ⟨bk,0,none⟩),.slice none 0 0,I O 0,I O 0,.slice none 0 0,.map (some im),I O 1,I O 0,I O 0,I O 0]) (hE:w5.heap.size=E):
  ∃F,C3 w9 E F (CE ps st dy p tk mo)/\ ∀i,F i->w1.heap.size<=i:=by
 have N:Below w2.heap.size w2 w5:=y.below.trans (j.below.mono y.below.size)
 have D:=N.trans (C.mono N.size)
 have a2:=j.below.trans (C.mono j.below.size)
 have l1:=J5 he
 have l2:=J5 y.at_
 have s3:=y.below.size
 have s5:=j.below.size
 have s9:=C.size
 have a1: ∀i,Q7 T=some i->i<w2.heap.size:=fun i u=>by
  obtain⟨b,a3,h1,h2,-⟩:=ht.prs.2 ht.pos;rw[h1]at u;have e1:b=i:=by simpa [Q7]using u
  omega
 have Z: ∀i,G i->i<w5.heap.size:=fun i u=>j.book.fp u
 have a0:=j.map_.lt
 have t1:=ht.lo
 have J:=ht.lt
 have b1:=y.lo
 have i1:=j.ilo
 refine⟨_,EW (own:=fun i k=>(i=E/\k=1)\/((i=tb\/Q7 T=some i)/\k=2)\/(i=bb/\k=3)\/(G i/\k=4)\/(i=im/\k=7)) (g:=fun s k=>Y2 s k []) (m:=CE ps st dy p tk mo) (cs:= #[.slice A len cap,I O st,I O dy,I O p,I O tk,I O mo,IP (some ⟨tb,0,none⟩),IP (some ⟨bb,0,none⟩),IP (some ⟨bk,0,none⟩),.slice none 0 0,I O 0,I O 0,.slice none 0 0,.map (some im),I O 1,I O 0,I O 0,I O 0]) (tb:=tb) (bb:=bb) (bk:=bk) (im:=im) (T:=T) (tc:=tc) (Al:=none) (lc:=0) (lv:= []) (bu:=0) (se:=0) (Ap:=none) (pc:=0) (es:= []) (mc:=0) (G:=G) ⟨⟨he,rfl,rfl,rfl,JX _ _ _ _,by simp[Q7],Mo⟩,⟨rfl,rfl,rfl,rfl,rfl,rfl,rfl,rfl,rfl,rfl,rfl,rfl⟩,Gx,T8 J D.size,(D.cell (p:=⟨tb,0,none⟩) J).trans ht.cell,ht.prs.below D (Q4 _),J4 y.at_ a2,j.book.below C,JX _ _ _ _,j.map_.below C a0,by simp[BB],fun k=>by simp[QE,CE],⟨?_, ?_⟩,.inl ⟨rfl,rfl⟩,.inr (.inl ⟨.inl rfl,rfl⟩),fun i u=> .inr (.inl ⟨.inr u,rfl⟩),.inr (.inr (.inl ⟨rfl,rfl⟩)),fun i u=> .inr (.inr (.inr (.inl ⟨u,rfl⟩))),fun i u=>by simp[Q7]at u,fun i u=>by simp[Q7]at u,.inr (.inr (.inr (.inr ⟨rfl,rfl⟩)))⟩ (fun _ _ _=>rfl), ?_⟩
 ·have U: ∀i k,((i=E/\k=1)\/((i=tb\/Q7 T=some i)/\k=2)\/(i=bb/\k=3)\/(G i/\k=4)\/(i=im/\k=7))->(k=1/\w5.heap.size<=i)\/(k=2/\i<w2.heap.size)\/(k=3/\w2.heap.size<=i/\i<w3.heap.size)\/(k=4/\G i/\w3.heap.size<=i/\i<w5.heap.size)\/(k=7/\i=im/\w3.heap.size<=i/\i<w5.heap.size):=by
   rintro i k (⟨rfl,rfl⟩|⟨rfl|h,rfl⟩|⟨rfl,rfl⟩|⟨h,rfl⟩|⟨rfl,rfl⟩)
   ·exact .inl ⟨rfl,by omega⟩
   ·exact .inr (.inl ⟨rfl,J⟩)
   ·exact .inr (.inl ⟨rfl,a1 i h⟩)
   ·exact .inr (.inr (.inl ⟨rfl,b1,l2⟩))
   ·exact .inr (.inr (.inr (.inl ⟨rfl,h,j.lo i h,Z i h⟩)))
   exact .inr (.inr (.inr (.inr ⟨rfl,rfl,i1,a0⟩)))
  intro i k k' h1 h2;rcases U i k h1 with h|h|h|h|h<;>rcases U i k' h2 with v|v|v|v|v<;>first
   |omega
   |exact absurd h.2.1 (by rw[v.2.1];exact j.ig)
   |exact absurd v.2.1 (by rw[h.2.1];exact j.ig)
 ·rintro i k (⟨rfl,rfl⟩|⟨rfl|h,rfl⟩|⟨rfl,rfl⟩|⟨h,rfl⟩|⟨rfl,rfl⟩)
  ·exact l1
  ·omega
  ·have:=a1 i h;omega
  ·omega
  ·have:=Z i h;omega
  omega
 rintro i ⟨k,⟨rfl,rfl⟩|⟨rfl|h,rfl⟩|⟨rfl,rfl⟩|⟨h,rfl⟩|⟨rfl,rfl⟩⟩
 ·omega
 ·omega
 ·exact(ht.far i h).1
 ·omega
 ·have:=j.lo i h;omega
 omega
def Je6 (ps:List (Int×Int)) (st dy p tk mo:Int) (w:World) (e:Ending) (w':World):Prop:=
 Below w.heap.size w w'/\((∃v n pl,e= .returned (.tuple #[.pointer none,v])/\FU w' v n pl/\n≠0/\UV ps st dy p tk mo n pl)\/
  (UV ps st dy p tk mo 0 (-1)/\ ∃E F,e= .returned (.tuple #[IP (some ⟨E,0,none⟩),.nilIface])/\C3 w' E F (CE ps st dy p tk mo)/\ ∀i,F i->w.heap.size<=i))
theorem JM {w g t a b c d e f} (h:Q1 w g t #[a,b,c,d,e,f]):w.cell? ⟨g,0,none⟩=some a/\w.cell? ⟨g,1,none⟩=some b/\w.cell? ⟨g,2,none⟩=some c/\w.cell? ⟨g,3,none⟩=some d/\w.cell? ⟨g,4,none⟩=some e/\w.cell? ⟨g,5,none⟩=some f:=
 ⟨by rw[J0 h];rfl,by rw[J0 h];rfl,by rw[J0 h];rfl,by rw[J0 h];rfl,by rw[J0 h];rfl,by rw[J0 h];rfl⟩
theorem Je7 A len cap ps st dy p v u w (h:T4 w A len cap ps) (hm:len<=9223372036854775807):
  Calls prog 15 #[.agg #[.slice A len cap,I O st,I O dy,I O p,I O v,I O u]] w (Je6 ps st dy p v u w):=by
 have b5:Below w.heap.size w (w.alloc (.cells #[.slice A len cap,I O st,I O dy,I O p,I O v,I O u] 36)):=(Q2 _ w).alloc (Q4 _) _
 have hX:=J9 w 36 #[.slice A len cap,I O st,I O dy,I O p,I O v,I O u]
 obtain⟨w1,c9⟩:=exq (w.alloc (.cells #[.slice A len cap,I O st,I O dy,I O p,I O v,I O u] 36))
 obtain⟨X,eX⟩:=exq w.heap.size
 rw[c9]at b5 hX
 rw[eX]at hX
 have e9:=Qz4 A len cap ps w1 (h.below b5 (Q4 _)) hm
 have f1:=Q0 e9
 have c2:=Q0 b5
 have HX:=Q0 hX
 obtain⟨x0,U,x2,x3,x4,Z⟩:=JM hX
 clear b5 hX e9 h
 go_enter func15,ntmps15
 go_upto_region 1 with fail
 try rw[c9]
 try rw[eX]
 clear c9 eX
 go_wp2_with fail
 refine f1.mono ?_
 rintro ev w2 ⟨b9,d5⟩
 have a9:=Q0 (c2.trans (b9.mono c2.size))
 have c8:=Q0 (J4 HX b9)
 have f4:=Q0 b9.size
 clear x0 U x2 x3 x4 Z b9 f1 HX
 rcases d5 with⟨h1,rfl⟩|⟨h1,rfl⟩|⟨h1,h2,i,hi,ha,hn,g,rfl,hg,c0,c1⟩|⟨h1,h2,h3,tb,T,tc,rfl,h5,h6,h7,h8,h9⟩
 ·have D:Hid (UV ps st dy p v u 8 (-1)):=Q0 (.inl ⟨.inl ⟨h1,rfl,rfl⟩,by omega⟩)
  clear h1;go_wp2_with fail
  go_ret2;exact⟨a9,.inl ⟨_,8,-1,rfl,.inr (.inl ⟨rfl,rfl⟩),by omega,D⟩⟩
 ·have D:Hid (UV ps st dy p v u 4 (-1)):=Q0 (.inl ⟨.inr (.inl ⟨h1,rfl,rfl⟩),by omega⟩)
  clear h1;go_wp2_with fail
  go_ret2;exact⟨a9,.inl ⟨_,4,-1,rfl,.inr (.inl ⟨rfl,rfl⟩),by omega,D⟩⟩
 ·have D:Hid (UV ps st dy p v u (ZJ ps i) i):=Q0 (.inl ⟨.inr (.inr (.inl ⟨h1,h2,i,hi,ha,hn,rfl,rfl⟩)),hn⟩)
  have HE:Hid (FU w2 (.iface 172 (IP (some ⟨g,0,none⟩))) (ZJ ps i) i):=Q0 (.inr (.inr ⟨g,rfl,c0,c1⟩));have HN:=Q0 hn;clear h1 h2 hi ha hn hg c0 c1;go_wp2_with fail
  go_ret2;exact⟨a9,.inl ⟨_,_,_,rfl,HE,HN,D⟩⟩
 have e3:=Q0 (Rb.mk (w1:=w1) (w2:=w2) (tb:=tb) (T:=T) (tc:=tc) (ps:=ps) h5 h6 h7 h8 h9 h1)
 have c5:Hid (KD ps):=Q0 ⟨h1,h2,h3⟩
 have e1:=Q0 (Wn st dy p w2)
 obtain⟨x0,U,x2,x3,x4,Z⟩:=JM c8
 clear h1 h2 h3 h5 h6 h7 h8 h9
 go_wp2_with fail
 refine e1.mono ?_
 rintro ev w3 ⟨b2,d5⟩
 have a2:=Q0 (a9.trans (b2.mono a9.size))
 have f2:=Q0 (J4 c8 b2)
 have f3:=Q0 b2
 clear x0 U x2 x3 x4 Z b2 e1 c8
 rcases d5 with⟨N,bb,e7,rfl,d9⟩|⟨N,rfl⟩
 ·have e4:=Q0 (Rc.mk (st:=st) (dy:=dy) (p:=p) f3 e7 d9)
  have e2:=Q0 N;clear e7 d9 N;obtain⟨x0,U,x2,x3,x4,Z⟩:=JM f2
  by_cases a5:v<1\/1000000<v\/u<0\/10<u
  ·have D:Hid (UV ps st dy p v u 2 (-1)):=Q0 (.inr (.inr (.inl ⟨c5,e2,a5,rfl,rfl⟩)))
   by_cases h1:v<1
   ·have d1:=Z5 h1
    clear a5 h1;go_wp2_with fail
    go_ret2;exact⟨a2,.inl ⟨_,2,-1,rfl,.inr (.inl ⟨rfl,rfl⟩),by omega,D⟩⟩
   have d1:=Z1 h1
   by_cases h2:v>1000000
   ·have d2:=Z5 h2
    clear a5 h1 h2;go_wp2_with fail
    go_ret2;exact⟨a2,.inl ⟨_,2,-1,rfl,.inr (.inl ⟨rfl,rfl⟩),by omega,D⟩⟩
   have d2:=Z1 h2
   by_cases h3:u<0
   ·have d3:=Z5 h3
    clear a5 h1 h2 h3;go_wp2_with fail
    go_ret2;exact⟨a2,.inl ⟨_,2,-1,rfl,.inr (.inl ⟨rfl,rfl⟩),by omega,D⟩⟩
   have d3:=Z1 h3;have h4:u>10:=by omega
   have d4:=Z5 h4;clear a5 h1 h2 h3 h4;go_wp2_with fail
   go_ret2;exact⟨a2,.inl ⟨_,2,-1,rfl,.inr (.inl ⟨rfl,rfl⟩),by omega,D⟩⟩
  have e6:Hid (UV ps st dy p v u 0 (-1)):=Q0 (.inr (.inr (.inr ⟨c5,e2,a5,rfl,rfl⟩)));have d1:decide (v<1)=false:=Z1 (by omega);have d2:decide (v>1000000)=false:=Z1 (by omega);have d3:decide (u<0)=false:=Z1 (by omega);have d4:decide (u>10)=false:=Z1 (by omega);clear a5;go_upto_region 9 with fail
  refine XF (fun t=> [].contains t) (fun W=>W.cell? ⟨X,0,none⟩=some (.slice A len cap)/\W.cell? ⟨X,1,none⟩=some (I O st)/\W.cell? ⟨X,2,none⟩=some (I O dy)/\W.cell? ⟨X,3,none⟩=some (I O p)/\W.cell? ⟨X,4,none⟩=some (I O v)/\W.cell? ⟨X,5,none⟩=some (I O u)) (by kernel_rfl) ⟨x0,U,x2,x3,x4,Z⟩ (fun f0=> ?_);refine tM 0 (.agg #[.slice A len cap,I O st,I O dy,I O p,I O v,I O u]) ?_;refine tM 1 (IP (some ⟨tb,0,none⟩)) ?_;refine tM 2 (IP (some ⟨bb,0,none⟩)) ?_;refine UK (i:=3) (j:=4) (by kernel_rfl) ?_ ?_
  ·skip
   refine L9 3 rfl (fun K1 a8=> ?_);go_simp;refine(Vl w3.drew).mono ?_;rintro ev w4 ⟨J,bk,G,hG,rfl,N⟩;have a3:Below w3.heap.size w3 w4:=(J3 (Q2 _ w3)).trans J;have a6:(fun W:World=>W.cell? ⟨X,0,none⟩=some (.slice A len cap)/\W.cell? ⟨X,1,none⟩=some (I O st)/\W.cell? ⟨X,2,none⟩=some (I O dy)/\W.cell? ⟨X,3,none⟩=some (I O p)/\W.cell? ⟨X,4,none⟩=some (I O v)/\W.cell? ⟨X,5,none⟩=some (I O u)) w4:=⟨Z7 x0 a3,Z7 U a3,Z7 x2 a3,Z7 x3 a3,Z7 x4 a3,Z7 Z a3⟩;refine a8 _ _ (fun _=>a6) ?_;clear a8 f0;refine oM 4 fun K2 b0=> ?_
   have d6:= @run_makeMap prog;go_simp;clear d6;have y:=Je4 a3 hG (Q4 _) N;obtain⟨im,a4⟩:=exq w4.heap.size;obtain⟨w5,c3⟩:=exq (w4.alloc (.map #[] 0));rw[c3,a4]at y;rw[c3]
   try rw[a4]
   have c7:(fun W:World=>W.cell? ⟨X,0,none⟩=some (.slice A len cap)/\W.cell? ⟨X,1,none⟩=some (I O st)/\W.cell? ⟨X,2,none⟩=some (I O dy)/\W.cell? ⟨X,3,none⟩=some (I O p)/\W.cell? ⟨X,4,none⟩=some (I O v)/\W.cell? ⟨X,5,none⟩=some (I O u)) w5:=⟨Z7 x0 y.below,Z7 U y.below,Z7 x2 y.below,Z7 x3 y.below,Z7 x4 y.below,Z7 Z y.below⟩;refine b0 _ _ (fun _=>c7) ?_;clear b0 c3 a4 a6 J a3 hG N;refine tM 5 (.agg #[.slice A len cap,I O st,I O dy,I O p,I O v,I O u,IP (some ⟨tb,0,none⟩),IP (some ⟨bb,0,none⟩),IP (some ⟨bk,0,none⟩),.slice none 0 0,I O 0,I O 0,.slice none 0 0,.map (some im),I O 1,I O 0,I O 0,I O 0]) ?_;refine oM 6 fun K3 b1=> ?_
   go_simp;have a1:Below w5.heap.size w5 (w5.alloc (.cells #[.slice A len cap,I O st,I O dy,I O p,I O v,I O u,IP (some ⟨tb,0,none⟩),IP (some ⟨bb,0,none⟩),IP (some ⟨bk,0,none⟩),.slice none 0 0,I O 0,I O 0,.slice none 0 0,.map (some im),I O 1,I O 0,I O 0,I O 0] 103)):=(Q2 _ _).alloc (Q4 _) _;have a0:=J9 w5 103 #[.slice A len cap,I O st,I O dy,I O p,I O v,I O u,IP (some ⟨tb,0,none⟩),IP (some ⟨bb,0,none⟩),IP (some ⟨bk,0,none⟩),.slice none 0 0,I O 0,I O 0,.slice none 0 0,.map (some im),I O 1,I O 0,I O 0,I O 0];obtain⟨w9,a7⟩:=exq (w5.alloc (.cells #[.slice A len cap,I O st,I O dy,I O p,I O v,I O u,IP (some ⟨tb,0,none⟩),IP (some ⟨bb,0,none⟩),IP (some ⟨bk,0,none⟩),.slice none 0 0,I O 0,I O 0,.slice none 0 0,.map (some im),I O 1,I O 0,I O 0,I O 0] 103));obtain⟨E,eE⟩:=exq w5.heap.size;rw[a7]at a1 a0|-;rw[eE]at a0|-;have c6:=Q0 (Pg e3 e4 y a1 a0 eE);have C:=Q0 (y.below.trans (a1.mono y.below.size));have c4:(fun W:World=>W.cell? ⟨X,0,none⟩=some (.slice A len cap)/\W.cell? ⟨X,1,none⟩=some (I O st)/\W.cell? ⟨X,2,none⟩=some (I O dy)/\W.cell? ⟨X,3,none⟩=some (I O p)/\W.cell? ⟨X,4,none⟩=some (I O v)/\W.cell? ⟨X,5,none⟩=some (I O u)) w9:=⟨Z7 x0 C,Z7 U C,Z7 x2 C,Z7 x3 C,Z7 x4 C,Z7 Z C⟩;refine b1 _ _ (fun _=>c4) ?_;clear b1 a7 eE a1 a0 y
   try simp only[Act.put]
   refine tM 7 (IP (some ⟨E,0,none⟩)) ?_;refine tM 8 (.nilIface) ?_;refine D5 (by kernel_rfl) ?_ _;go_wp2_with fail
   go_ret2;obtain⟨Fn,d0,d7⟩:=c6.out;exact⟨a2.trans (C.mono a2.size),.inr ⟨e6,E,Fn,rfl,d0,fun i hi=>G0 c2.size (d7 i hi)⟩⟩
  skip
  refine L9 4 rfl (fun K1 a8=> ?_);have d6:= @run_makeMap prog;go_simp;clear d6;have e8:=R8.made w3;have J:Below w3.heap.size w3 (w3.alloc (.map #[] 0)).drew:=J3 ((Q2 _ w3).alloc (Q4 _) _);have b8:R8 (w3.alloc (.map #[] 0)).drew w3.heap.size [] 0:=e8.of_block rfl;have a6:(fun W:World=>W.cell? ⟨X,0,none⟩=some (.slice A len cap)/\W.cell? ⟨X,1,none⟩=some (I O st)/\W.cell? ⟨X,2,none⟩=some (I O dy)/\W.cell? ⟨X,3,none⟩=some (I O p)/\W.cell? ⟨X,4,none⟩=some (I O v)/\W.cell? ⟨X,5,none⟩=some (I O u)) (w3.alloc (.map #[] 0)).drew:=⟨Z7 x0 J,Z7 U J,Z7 x2 J,Z7 x3 J,Z7 x4 J,Z7 Z J⟩;obtain⟨im,a4⟩:=exq w3.heap.size;obtain⟨w4,d8⟩:=exq ((w3.alloc (.map #[] 0)).drew);rw[d8]at b8 J a6;rw[a4]at b8
  try rw[d8]
  try rw[a4]
  refine a8 _ _ (fun _=>a6) ?_;clear a8 f0 e8 d8;refine oM 3 fun K2 b0=> ?_
  go_simp;refine(Vl w4).mono ?_;rintro ev w5 ⟨e5,bk,G,hG,rfl,N⟩;have y:=Je5 J b8 a4 e5 hG N;have c7:(fun W:World=>W.cell? ⟨X,0,none⟩=some (.slice A len cap)/\W.cell? ⟨X,1,none⟩=some (I O st)/\W.cell? ⟨X,2,none⟩=some (I O dy)/\W.cell? ⟨X,3,none⟩=some (I O p)/\W.cell? ⟨X,4,none⟩=some (I O v)/\W.cell? ⟨X,5,none⟩=some (I O u)) w5:=⟨Z7 x0 y.below,Z7 U y.below,Z7 x2 y.below,Z7 x3 y.below,Z7 x4 y.below,Z7 Z y.below⟩;refine b0 _ _ (fun _=>c7) ?_;clear b0 a4 a6 J e5 b8 hG N;refine tM 5 (.agg #[.slice A len cap,I O st,I O dy,I O p,I O v,I O u,IP (some ⟨tb,0,none⟩),IP (some ⟨bb,0,none⟩),IP (some ⟨bk,0,none⟩),.slice none 0 0,I O 0,I O 0,.slice none 0 0,.map (some im),I O 1,I O 0,I O 0,I O 0]) ?_;refine oM 6 fun K3 b1=> ?_
  go_simp;have a1:Below w5.heap.size w5 (w5.alloc (.cells #[.slice A len cap,I O st,I O dy,I O p,I O v,I O u,IP (some ⟨tb,0,none⟩),IP (some ⟨bb,0,none⟩),IP (some ⟨bk,0,none⟩),.slice none 0 0,I O 0,I O 0,.slice none 0 0,.map (some im),I O 1,I O 0,I O 0,I O 0] 103)):=(Q2 _ _).alloc (Q4 _) _;have a0:=J9 w5 103 #[.slice A len cap,I O st,I O dy,I O p,I O v,I O u,IP (some ⟨tb,0,none⟩),IP (some ⟨bb,0,none⟩),IP (some ⟨bk,0,none⟩),.slice none 0 0,I O 0,I O 0,.slice none 0 0,.map (some im),I O 1,I O 0,I O 0,I O 0];obtain⟨w9,a7⟩:=exq (w5.alloc (.cells #[.slice A len cap,I O st,I O dy,I O p,I O v,I O u,IP (some ⟨tb,0,none⟩),IP (some ⟨bb,0,none⟩),IP (some ⟨bk,0,none⟩),.slice none 0 0,I O 0,I O 0,.slice none 0 0,.map (some im),I O 1,I O 0,I O 0,I O 0] 103));obtain⟨E,eE⟩:=exq w5.heap.size;rw[a7]at a1 a0|-;rw[eE]at a0|-;have c6:=Q0 (Pg e3 e4 y a1 a0 eE);have C:=Q0 (y.below.trans (a1.mono y.below.size));have c4:(fun W:World=>W.cell? ⟨X,0,none⟩=some (.slice A len cap)/\W.cell? ⟨X,1,none⟩=some (I O st)/\W.cell? ⟨X,2,none⟩=some (I O dy)/\W.cell? ⟨X,3,none⟩=some (I O p)/\W.cell? ⟨X,4,none⟩=some (I O v)/\W.cell? ⟨X,5,none⟩=some (I O u)) w9:=⟨Z7 x0 C,Z7 U C,Z7 x2 C,Z7 x3 C,Z7 x4 C,Z7 Z C⟩;refine b1 _ _ (fun _=>c4) ?_;clear b1 a7 eE a1 a0 y
  try simp only[Act.put]
  refine tM 7 (IP (some ⟨E,0,none⟩)) ?_;refine tM 8 (.nilIface) ?_;refine D5 (by kernel_rfl) ?_ _;go_wp2_with fail
  go_ret2;obtain⟨Fn,d0,d7⟩:=c6.out;exact⟨a2.trans (C.mono a2.size),.inr ⟨e6,E,Fn,rfl,d0,fun i hi=>G0 c2.size (d7 i hi)⟩⟩
 have D:Hid (UV ps st dy p v u 2 (-1)):=Q0 (.inr (.inl ⟨c5,N,rfl,rfl⟩))
 rw[RE]
 clear N
 go_wp2_with fail
 go_ret2
 exact⟨a2,.inl ⟨_,2,-1,rfl,.inr (.inl ⟨rfl,rfl⟩),by omega,D⟩⟩
end
theorem Wx {w e F m} (h:C3 w e F m) (hI:VD m):
  Calls prog 41 #[IP (some ⟨e,0,none⟩)] w fun ev w'=>N8 w w' e F (KU m) (QU m) ev:=by
 have hE:=h
 obtain⟨cs,tb,bb,bk,im,T,tc,Al,lc,lv,bu,se,Ap,pc,es,mc,G,own,hM,hF⟩:=h
 have Z:=hM.cell hM.ec.c7
 have HM:=Q0 hM
 have HF:=Q0 hF
 have HI:=Q0 hI
 have HE:=Q0 hE
 obtain⟨⟨u,v,y⟩,ht⟩: ∃q,P5 m=q:=⟨_,rfl⟩
 have HT:=Q0 ht
 have b2:=fun W hW=>Uw hM hI.la W hW
 rw[ht]at b2
 unfold QX at b2
 dsimp only at b2
 have HW:=Q0 b2
 clear hM hF b2 ht hE hI
 go_enter func41,ntmps41
 go_upto_region 1 with fail
 go_cut [3] (fun s3 wx=> ∃g,s3= IP (some ⟨g,0,none⟩)/\Q1 wx g 83 #[I O u,I O v,I O y]/\Below w.heap.size w wx/\w.heap.size<=g)
 case first=>
  have e9:=Q0 HM.bands;have D:Below w.heap.size w w.drew:=J3 (Q2 _ _);refine XF (fun t=> [10].contains t) (fun W=>W.cell? ⟨e,7,none⟩=some (IP (some ⟨bb,0,none⟩))) (by kernel_rfl) (show w.drew.cell? ⟨e,7,none⟩=some (IP (some ⟨bb,0,none⟩))from Z) (fun a5=> ?_);obtain⟨w0,f4⟩:=exq w.drew;rw[f4]at D a5|-;clear f4;refine tM 0 (IP (some ⟨e,0,none⟩)) ?_;refine tM 1 (IP (some ⟨e,0,none⟩)) ?_;refine tM 2 (IP (some ⟨e,9,none⟩)) ?_;refine tM 3 (IP (some ⟨e,0,none⟩)) ?_;refine tM 4 (IP (some ⟨e,0,none⟩)) ?_;refine tM 5 (IP (some ⟨e,7,none⟩)) ?_;refine tM 6 (IP (some ⟨bb,0,none⟩)) ?_;refine UK (i:=7) (j:=9) (by kernel_rfl) ?_ ?_
  ·skip
   refine L9 7 rfl (fun K1 i4=> ?_);go_simp
   go_at_call 78
   refine(RG bb m.st m.dy m.an m.la _ (J4 e9 D)).mono ?_;rintro ev wx ⟨rfl,rfl⟩;refine i4 _ _ (fun _=>a5) ?_;clear i4;refine UK (i:=8) (j:=9) (by kernel_rfl) ?_ ?_
   ·skip
    refine L9 8 rfl (fun K2 f3=> ?_);go_simp
    go_at_call 80
    refine(HW _ D).mono ?_;rintro ev w2 ⟨rfl,j2⟩;have d4:=D.trans (j2.mono D.size);have i0:=Z7 a5 j2;refine f3 _ _ (fun _=>i0) ?_;clear f3;refine oM 9 fun K3 h0=> ?_
    go_simp;have d7:Below w2.heap.size w2 (w2.alloc (.cells #[I O 0,I O 0,I O 0] 83)):=(Q2 _ _).alloc (Q4 _) _;have c1:=J9 w2 83 #[I O 0,I O 0,I O 0];have d3:w.heap.size<=w2.heap.size:=d4.size;obtain⟨g3,i3⟩:=exq w2.heap.size;obtain⟨w3,g2⟩:=exq (w2.alloc (.cells #[I O 0,I O 0,I O 0] 83));rw[g2]at d7 c1|-;have h8:=d4.trans (d7.mono d4.size);have j7:=Z7 i0 d7;rw[i3]at c1 d3|-;clear g2 i3;refine h0 _ _ (fun _=>j7) ?_;clear h0;refine oM 10 fun K4 h9=> ?_
    refine(Q5 (by rfl)).mpr ?_;refine M9 83 _ _ rfl (g3) #[I O u,I O v,I O y] rfl rfl 83 #[I O 0,I O 0,I O 0] c1 (by show(prog.info? 83).map (·.size)=some 3;kernel_rfl) rfl (by simp[Value.oneCell']) ?_;have g0:=D6 _ _ _ #[I O u,I O v,I O y] _ c1;have i6:=B7 w3 (g3) #[I O u,I O v,I O y];obtain⟨w4,g9⟩:=exq (w3.setRow (g3) #[I O u,I O v,I O y]);rw[g9]at g0 i6|-;clear g9;refine h9 _ _ (fun e=>absurd e (by decide)) ?_;clear h9;have k7:=h8.trans (i6.below (fun i e=>e▸d3) h8.size);simp only[Act.put];refine D5 (by kernel_rfl) ?_ _;go_wp2_with fail
    go_meet;exact⟨_,rfl,g0,k7,d3⟩
   skip
   refine L9 9 rfl (fun K5 j1=> ?_);go_simp;have e1:Below w0.heap.size w0 (w0.alloc (.cells #[I O 0,I O 0,I O 0] 83)):=(Q2 _ _).alloc (Q4 _) _;have d6:=J9 w0 83 #[I O 0,I O 0,I O 0];have d0:w.heap.size<=w0.heap.size:=D.size;obtain⟨g5,h5⟩:=exq w0.heap.size;obtain⟨w5,h7⟩:=exq (w0.alloc (.cells #[I O 0,I O 0,I O 0] 83));rw[h7]at e1 d6|-;have C:=D.trans (e1.mono D.size);have f5:=Z7 a5 e1;rw[h5]at d6 d0|-;clear h7 h5;refine j1 _ _ (fun _=>f5) ?_;clear j1;refine oM 8 fun K6 f0=> ?_
   go_simp
   go_at_call 80
   refine(HW _ C).mono ?_;rintro ev w6 ⟨rfl,c8⟩;have h6:=C.trans (c8.mono C.size);have j9:=Z7 f5 c8;refine f0 _ _ (fun _=>j9) ?_;clear f0;have f2:=J4 d6 c8;refine oM 10 fun K7 i8=> ?_
   refine(Q5 (by rfl)).mpr ?_;refine M9 83 _ _ rfl (g5) #[I O u,I O v,I O y] rfl rfl 83 #[I O 0,I O 0,I O 0] f2 (by show(prog.info? 83).map (·.size)=some 3;kernel_rfl) rfl (by simp[Value.oneCell']) ?_;have f6:=D6 _ _ _ #[I O u,I O v,I O y] _ f2;have g7:=B7 w6 (g5) #[I O u,I O v,I O y];obtain⟨w7,j4⟩:=exq (w6.setRow (g5) #[I O u,I O v,I O y]);rw[j4]at f6 g7|-;clear j4;refine i8 _ _ (fun e=>absurd e (by decide)) ?_;clear i8;have k2:=h6.trans (g7.below (fun i e=>e▸d0) h6.size);simp only[Act.put];refine D5 (by kernel_rfl) ?_ _;go_wp2_with fail
   go_meet;exact⟨_,rfl,f6,k2,d0⟩
  skip
  refine L9 9 rfl (fun K8 e6=> ?_);go_simp;have d9:Below w0.heap.size w0 (w0.alloc (.cells #[I O 0,I O 0,I O 0] 83)):=(Q2 _ _).alloc (Q4 _) _;have d5:=J9 w0 83 #[I O 0,I O 0,I O 0];have e3:w.heap.size<=w0.heap.size:=D.size;obtain⟨g8,i7⟩:=exq w0.heap.size;obtain⟨w8,g4⟩:=exq (w0.alloc (.cells #[I O 0,I O 0,I O 0] 83));rw[g4]at d9 d5|-;have b9:=D.trans (d9.mono D.size);have d8:=Z7 a5 d9;rw[i7]at d5 e3|-;clear g4 i7;refine e6 _ _ (fun _=>d8) ?_;clear e6;refine oM 7 fun K9 e5=> ?_
  go_simp
  go_at_call 78
  refine(RG bb m.st m.dy m.an m.la _ (J4 e9 b9)).mono ?_;rintro ev wx ⟨rfl,rfl⟩;refine e5 _ _ (fun _=>d8) ?_;clear e5;refine oM 8 fun k9 h4=> ?_
  go_simp
  go_at_call 80
  refine(HW _ b9).mono ?_;rintro ev e8 ⟨rfl,e2⟩;have g6:=b9.trans (e2.mono b9.size);have k0:=Z7 d8 e2;refine h4 _ _ (fun _=>k0) ?_;clear h4;have j0:=J4 d5 e2;refine oM 10 fun l2 e7=> ?_
  refine(Q5 (by rfl)).mpr ?_;refine M9 83 _ _ rfl (g8) #[I O u,I O v,I O y] rfl rfl 83 #[I O 0,I O 0,I O 0] j0 (by show(prog.info? 83).map (·.size)=some 3;kernel_rfl) rfl (by simp[Value.oneCell']) ?_;have h3:=D6 _ _ _ #[I O u,I O v,I O y] _ j0;have f8:=B7 e8 (g8) #[I O u,I O v,I O y];obtain⟨l0,f1⟩:=exq (e8.setRow (g8) #[I O u,I O v,I O y]);rw[f1]at h3 f8|-;clear f1;refine e7 _ _ (fun e=>absurd e (by decide)) ?_;clear e7;have k6:=g6.trans (f8.below (fun i e=>e▸e3) g6.size);simp only[Act.put];refine D5 (by kernel_rfl) ?_ _;go_wp2_with fail
  go_meet;exact⟨_,rfl,h3,k6,e3⟩
 obtain⟨gq,rfl,hq,hb,hg⟩:=hcut
 have a4:=HM.below hb
 have i5:=HE.below hb
 have Z:=a4.cell a4.ec.c7
 obtain⟨q0,q1,q2⟩:=NA hq
 have a7:=Q0 (fun W hW=>Mt bb m.st m.dy m.an m.la u W (J4 a4.bands hW))
 have j5:=Q0 a4
 have i9:=Q0 i5
 have N:=Q0 hb
 have k8:=Q0 (F8 (o:=own) hb)
 have l3:=Q0 (C1 (G:=F) hb)
 obtain⟨cb,c3⟩:=exq (US m.st m.an u)
 rw[c3]at a7
 have f9:BE m↔(v=0\/cb=true):=by unfold BE;rw[HT.out,<-c3]
 have a2:=Q0 f9
 clear a4 i5 hb hq hg c3 f9 HW
 by_cases h1:v=0
 ·have d1:=Z0 h1
  have HS:Hid (KU m=QW m/\QU m= {KJ m with ph:=3}):=Q0 ⟨by funext F;unfold KU;rw[Q5 (a2.2 (.inl h1))],by unfold QU;rw[Q5 (a2.2 (.inl h1))]⟩;clear h1;go_wp2_with fail
  go_quiet (fail)
  go_wp2_with fail
  refine(Jr (i9.below (U7 (Q2 _ _) _)) HI.la).mono ?_;rintro ev w6 ⟨A,c,Fs,rfl,a9,a6,b1,F2,U,a8,a3⟩;have c6:=Q0 (show N8 _ w6 e F (QW m) (KJ m) (.returned (.slice A (List.length Fs) c))from⟨A,c,Fs,rfl,a9,a6,b1,F2,U,a8,a3⟩);obtain⟨-,x1,x2,-⟩:=U.setPh 3;clear a9 a6 b1 U a8 a3;go_wp2_with fail
  go_ret;rw[HS.1,HS.2];exact(c6.setPh 3).pre (N.trans ((show Below wc.heap.size wc _ from(U7 (Q2 _ _) _)).mono N.size))
 have d1:=X3 h1
 cases cb with
 |true=>
  have HS:Hid (KU m=QW m/\QU m= {KJ m with ph:=3}):=Q0 ⟨by funext F;unfold KU;rw[Q5 (a2.2 (.inr rfl))],by unfold QU;rw[Q5 (a2.2 (.inr rfl))]⟩;clear h1;go_wp2_with fail
  go_still_tail 10,(by kernel_rfl)
  change wpList _ _ _ _ _ wc.drew;go_wp2_with fail
  refine(a7 wc.drew (J3 (Q2 _ _))).mono ?_;rintro ev w5 ⟨rfl,C⟩;have a0:=(J3 (Q2 _ wc)).trans C;have a1:=Q0 a0;clear q0 q1 q2 Z C a0 a7;go_wp2_with fail
  go_wp2_with fail
  refine(Jr (i9.below a1) HI.la).mono ?_;rintro ev w6 ⟨A,c,Fs,rfl,a9,a6,b1,F2,U,a8,a3⟩;have c6:=Q0 (show N8 _ w6 e F (QW m) (KJ m) (.returned (.slice A (List.length Fs) c))from⟨A,c,Fs,rfl,a9,a6,b1,F2,U,a8,a3⟩);obtain⟨-,x1,x2,-⟩:=U.setPh 3;clear a9 a6 b1 U a8 a3;go_wp2_with fail
  go_ret;rw[HS.1,HS.2];exact(c6.setPh 3).pre (N.trans ((show Below wc.heap.size wc _ from a1.out).mono N.size))
 |false=>
  have c0:=Q0 (fun h=>(a2.1 h).elim h1 (fun h=>by cases h));have Z:=Z;go_wp2_with fail
  go_still_tail 10,(by kernel_rfl)
  change wpList _ _ _ _ _ wc.drew;go_wp2_with fail
  refine(a7 wc.drew (J3 (Q2 _ _))).mono ?_;rintro ev w5 ⟨rfl,C⟩;have a0:=(J3 (Q2 _ wc)).trans C;have a1:=Q0 a0;have E:=j5.below a0;have f7:=E.cell E.ec.c17;have c5:=E.cell E.ec.c5;have k4:=E.frozen 17;have k3:=E.cell E.ec.c14;have j8:=E.frozen 14;clear q0 q1 q2 Z C a0 a7;obtain⟨lg,c2⟩:=exq m.lng;obtain⟨mo,c9⟩:=exq m.mo;rw[c2]at f7;rw[c9]at c5;have b0:=Q0 (And.intro c2 c9);have hI:=HI.out;have k1:=hI.lng;rw[c2]at k1;have j3:=Q0 E;clear c2 c9 hI E
  by_cases h2:lg<mo
  ·have d2:=Z5 h2
   have HS:Hid (KU m []/\QU m= {m with lng:=m.lng+1,ends:=m.now+m.tk}):=Q0 ⟨by unfold KU;rw[Q3 c0.out],by unfold QU;rw[Q3 c0,Q5 (by rw[b0.1,b0.2];exact h2)]⟩;have i1:RowKit.wrap64 (lg+1)=lg+1:=by unfold RowKit.wrap64;omega
   clear h2;go_wp2_with fail
   go_quiet (fail)
   go_upto_region 9 with fail
   obtain⟨J,e4⟩:=(j3.below (U7 (Q2 _ w5) nq)).setLng (lg+1);obtain⟨w6,g1⟩:=exq ((w5.drewN nq).setCell ⟨e,17,none⟩ (I O (lg+1)));rw[g1]at J e4|-;clear f7 k4 k3 j8 c5 i1 g1;have l1:=J.cell J.ec.c15;have c4:=J.cell J.ec.c4;have l5:=J.cell J.ec.c16;have l4:=J.frozen 16;have i2:RowKit.wrap64 (m.now+m.tk)=m.now+m.tk:=by
    have h1:=HI.now;have h2:=HI.tk;unfold RowKit.wrap64;omega
   obtain⟨b8,b5⟩:=(J.below (J3 (Q2 _ w6))).setEnds (m.now+m.tk);have j6:=Q0 b8;have k5:=Q0 ((e4.trans (F8 (J3 (Q2 _ w6)))).trans b5);clear J b8 e4 b5
   go_still_tail 13,(by kernel_rfl)
   change wpList _ _ _ _ _ w6.drew;go_wp2_with fail
   go_ret;rw[HS.2,b0.1];have C:Below w.heap.size w (w5.drewN nq):=N.trans ((U7 a1 nq).mono N.size);exact N8.none_ ⟨_,EW j6 (fun _ _ _=>rfl),(((F8 C).trans k5)).bstep HF⟩ HS.1
  have d2:=Z1 h2;have HS:Hid (KU m []/\QU m= {m with ph:=6}):=Q0 ⟨by unfold KU;rw[Q3 c0.out],by unfold QU;rw[Q3 c0,Q3 (by rw[b0.1,b0.2];exact h2)]⟩;clear h2;go_wp2_with fail
  go_quiet (fail)
  go_wp2_with fail
  go_ret;rw[HS.2];have C:Below w.heap.size w (w5.drewN nq):=N.trans ((U7 a1 nq).mono N.size);obtain⟨b8,b5⟩:=(j3.below (U7 (Q2 _ w5) nq)).setPh 6;exact N8.none_ ⟨_,EW b8 (fun _ _ _=>rfl),(((F8 C).trans b5)).bstep HF⟩ HS.1
