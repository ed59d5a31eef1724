/- Parts. -/
import Derived.Test.YtfoikonjjojkaaaGreatDoorZt18
set_option linter.unusedVariables false
set_option maxRecDepth 100000
set_option maxHeartbeats 8000000
open Go.Proofs.Tryz
open Go.Value renaming int→I,pointer→IP
open Go.IntKind renaming i64→O
namespace Go.Proofs.YtfoikonjjojkaaaGreatDoor
open Go.RowKit
structure Qj8(e bb bk V:Nat)(cs:Array Value)(st dy an la:Int)(L1 L2:List X6)(F G:Nat->Prop)(w:World):Prop where
 book:JC w bk G L1 L2
 bands:ZU w bb st dy an la
 eng:J7 w e 203 cs
 var:J7 w V 27 #[pA e]
 fp:∀i,F i↔(G i\/i=bb\/i=e\/i=V)
 gb:¬G bb
 ge:¬G e
 gv:¬G V
 be:bb≠e
 bv:bb≠V
 c7:cs[7]?=some (pA bb)
def Ae(e bb bk V:Nat)(cs:Array Value)(st dy an:Int)(la:Int)(L1 L2:List X6)(F:Nat->Prop)(w:World):Prop:=∃G,Qj8 e bb bk V cs st dy an la L1 L2 F G w
theorem Jg5{e bb bk V cs st dy an la L1 L2 F G w}(h:Qj8 e bb bk V cs st dy an la L1 L2 F G w)p(hp:1<=p/\p<=1000000):Calls prog 225 #[I O p,pA V] w fun j w'=>j=.returned (.tuple #[])/\ZU w' bb st dy an p/\X4 (fun i=>i=bb) w w':=by
 have D:w.cell? (aD V 0)=some (pA e):=by rw[X9 h.var];rfl
 have E:w.cell? (aD e 7)=some (pA bb):=by rw[X9 h.eng];exact h.c7
 have ht:=Dd bb st dy an la p w h.bands;have u:JZ p 1=true:=by rw[RD];omega
 rw[u]at ht;simp only[if_true]at ht;have y:=J6 ht;clear h ht u hp;go_enter func225,ntmps225
 go_wp2_with fail
 refine y.mono ?_;rintro j w2⟨rfl,C,hk⟩;go_wp2_with fail
 refine EF (YV rfl _ _ _) rfl ?_;exact⟨rfl,C,hk⟩
theorem Jr1(e bb bk V:Nat)(cs:Array Value)(st dy an:Int):GJ (Ae e bb bk V cs st dy an) (fun la p=>YA st dy an la p) (fun _ p=>p) (fun _=>0) 224 225 #[pA bb] #[] #[pA V] 255 (pA bk) .nilIface where
 keep:=by
  rintro s L1 L2 F w w' S⟨G,h⟩hk hF;have hf:∀i,(G i\/i=bb\/i=e\/i=V)->¬S i:=fun i hi=>hF i ((h.fp i).2 hi)
  exact⟨G,h.book.keeps hk (fun i hi=>hf i (.inl hi)),V0 h.bands hk (hf bb Q3),V0 h.eng hk (hf e Q3),V0 h.var hk (hf V Q3),h.fp,h.gb,h.ge,h.gv,h.be,h.bv,h.c7⟩
 lt:=by
  rintro s L1 L2 F w⟨G,h⟩i hi;rcases(h.fp i).1 hi with h1|rfl|rfl|rfl
  ·exact h.book.fp h1
  ·exact Z9 h.bands
  ·exact Z9 h.eng
  exact Z9 h.var
 ok:=by rintro s L1 L2 F w⟨G,h⟩;exact h.book.lists
 allows:=by rintro s L1 L2 F w p⟨G,h⟩-;exact Jf0 bb st dy an s p w h.bands
 trades:=by rintro s L1 L2 F w p⟨G,h⟩hp-;refine(Jg5 h p hp).mono ?_;rintro ev w'⟨rfl,hb,hk⟩;refine⟨rfl,F,⟨G,h.book.keeps hk (fun i hi hie=>h.gb (by have e1:i=bb:=hie;exact e1▸hi)),hb,V0 h.eng hk (fun x=>h.be x.symm),V0 h.var hk (fun x=>h.bv x.symm),h.fp,h.gb,h.ge,h.gv,h.be,h.bv,h.c7⟩,hk.mono (fun i hi=>(h.fp i).2 (.inr (.inl hi))),fun i hi=>.inl hi⟩
 cut:=by
  rintro s L1 L2 F w x n⟨G,h⟩hx h1 h2;have hok:KG x:=h.book.lists.ok x (NE hx);have hxq:=hok.2.2.2.2;refine(Mi w bk G L1 L2 h.book x.id n (by unfold V3;omega)).mono ?_;rintro ev w'(⟨h3,rfl,hb⟩|⟨o,h3,h4,h5,rfl,G',hB,hk,hg⟩)
  ·exfalso
   apply h3;unfold EZ;rw[hx];exact J8 Q0
  rw[hx]at h3
  cases h3;have l1:=Z9 h.bands;have l2:=Z9 h.eng;have l3:=Z9 h.var;have n:∀i,i<w.heap.size->¬G i->¬G' i:=fun i hi hn hG=>by
   obtain e1|e1:=hg i hG
   ·exact hn e1
   omega
  refine⟨rfl,fun i=>G' i\/i=bb\/i=e\/i=V,⟨G',hB,V0 h.bands hk h.gb,V0 h.eng hk h.ge,V0 h.var hk h.gv,fun i=>KL,n _ l1 h.gb,n _ l2 h.ge,n _ l3 h.gv,h.be,h.bv,h.c7⟩,hk.mono (fun i hi=>(h.fp i).2 (.inl hi)),fun i hi=>?_⟩;obtain hi|hi:=hi
  ·obtain e1|e1:=hg i hi
   ·exact .inl ((h.fp i).2 (.inl e1))
   exact .inr e1
  exact .inl ((h.fp i).2 (.inr hi))
 cnt_:=fun s p=>U9 _
 ega:=R0 func224 Q4 rfl
 egt:=R0 func225 Q4 rfl
theorem U8.meetTo{w w' e cs tb bb bk im T tc Al lc lv bu se Ap pc es mc G own g m M1 M2 la G2 S}(h:U8 w e cs tb bb bk im T tc Al lc lv bu se Ap pc es mc G own g m) (hk:X4 S w w') (E:∀i,S i->G i\/i=bb\/i=e\/∀k,¬own i k) (C:JC w' bk G2 M1 M2) (J:ZU w' bb m.st m.dy m.an la) (N:J7 w' e 203 cs) (D:∀i,G2 i->G i\/w.heap.size<=i):U8 w' e cs tb bb bk im T tc Al lc lv bu se Ap pc es mc G2 (KQ w own G2 4) g {m with L1:=M1,L2:=M2,la:=la}:=by
 have f:∀{i k},own i k->k≠4->k≠3->k≠1->¬S i:=fun {i k}j h4 h3 h1 hs=>by
  obtain x|x|x|x:=E i hs
  ·exact h4 (h.ok.uni _ _ _ j (h.oG i x))
  ·exact h3 (h.ok.uni _ _ _ j (x▸h.ob))
  ·exact h1 (h.ok.uni _ _ _ j (x▸h.oe))
  exact x k j
 have n:∀{i k},own i k->KQ w own G2 4 i k:=fun j=>.inl j
 have u:=h.ind;refine⟨⟨N,u.c0,u.c1,u.c2,u.row.keeps hk (fun i j=>f (h.ol i j) Q1 Q1 Q1),u.na,u.ok⟩,⟨h.ec.sz,h.ec.c4,h.ec.c5,h.ec.c6,h.ec.c7,h.ec.c8,h.ec.c12,h.ec.c13,h.ec.c14,h.ec.c15,h.ec.c16,h.ec.c17⟩,h.is,D0 h.tabl hk.size,(hk.cell (p:=(aD tb 0)) h.tabl (f h.ot Q1 Q1 Q1)).trans h.tabc,h.tabp.keeps hk (fun i j=>f (h.oT i j) Q1 Q1 Q1),J,C,h.park.keeps hk (fun i j=>f (h.op i j) Q1 Q1 Q1),h.map_.of_block (hk.block _ h.map_.lt (f h.oi Q1 Q1 Q1)),h.keys,h.ids,h.ok.new_ hk.size (fun i j=>C.fp j) 4,n h.oe,n h.ot,fun i j=>n (h.oT i j),n h.ob,fun i j=>?_,fun i j=>n (h.ol i j),fun i j=>n (h.op i j),n h.oi⟩;obtain y|y:=D i j
 ·exact n (h.oG i y)
 exact .inr ⟨y,j,rfl⟩
def Zt(own:Nat->Nat->Prop)(V X:Nat)(A:Option Addr)(Y:Nat):Prop:=(∀k,¬own Y k)/\Y≠V/\Y≠X/\X5 A≠some Y
structure DR(w1 wr:World)(e tb bb bk im V X:Nat)(cs:Array Value)(T:Option Addr)(tc:Nat)(Al:Option Addr)(lc:Nat)(lv:List Z7)(bu se:Int)(Ap:Option Addr)(pc:Nat)(es:List MapEntry)(mc:Nat)(own:Nat->Nat->Prop)(g:Int->Option Int->Int)(A:Option Addr)(c:Nat)(F:List C6)(ob:Array Value)(m1:Z6)(G2:Nat->Prop):Prop where
 eng:U8 wr e cs tb bb bk im T tc Al lc lv bu se Ap pc es mc G2 (KQ w1 own G2 4) g m1
 keep:X4 (fun i=>(∃k,own i k)\/i=V) w1 wr
 row:X8 wr A F.length c 127 4 (X7 QT F)
 fA:∀i,X5 A=some i->w1.heap.size<=i/\¬G2 i
 var:J7 wr V 27 #[pA e]
 box:J7 wr X 84 ob
 o1:NJ w1 own
 nv:(∀k,¬own V k)/\(∀k,¬own X k)/\V≠X/\V<w1.heap.size/\X<w1.heap.size
section
variable {w1 wr w':World} {e tb bb bk im V X:Nat} {cs:Array Value} {T:Option Addr} {tc:Nat} {Al:Option Addr} {lc:Nat} {lv:List Z7} {bu se:Int} {Ap:Option Addr} {pc:Nat} {es:List MapEntry} {mc:Nat} {G:Nat->Prop} {own:Nat->Nat->Prop} {g:Int->Option Int->Int} {A:Option Addr} {c:Nat} {Fs:List C6} {ob:Array Value} {m m1:Z6} {G2:Nat->Prop}
theorem DR.below(h:DR w1 wr e tb bb bk im V X cs T tc Al lc lv bu se Ap pc es mc own g A c Fs ob m1 G2)(i:Bz wr w'):DR w1 w' e tb bb bk im V X cs T tc Al lc lv bu se Ap pc es mc own g A c Fs ob m1 G2:=
 ⟨h.eng.below i,h.keep.then_ i,h.row.below i,h.fA,Z4 h.var i,Z4 h.box i,h.o1,h.nv⟩
theorem DR.far(h:DR w1 wr e tb bb bk im V X cs T tc Al lc lv bu se Ap pc es mc own g A c Fs ob m1 G2){Y}(i:wr.heap.size<=Y):Zt (KQ w1 own G2 4) V X A Y:=
 ⟨fun k hk=>by have:=h.eng.ok.lt Y k hk;omega,fun x=>by have:=Z9 h.var;omega,fun x=>by have:=Z9 h.box;omega,fun x=>by have:=h.row.lt x;omega⟩
theorem DR.keepY(h:DR w1 wr e tb bb bk im V X cs T tc Al lc lv bu se Ap pc es mc own g A c Fs ob m1 G2){Y}(hk:X4 (fun i=>i=Y) wr w')(y:Zt (KQ w1 own G2 4) V X A Y)(D:w1.heap.size<=Y):DR w1 w' e tb bb bk im V X cs T tc Al lc lv bu se Ap pc es mc own g A c Fs ob m1 G2:=
 ⟨h.eng.keeps hk (fun i k j C=>y.1 k (by have u:i=Y:=C;exact u▸j)),h.keep.trans hk (fun i j=>.inr (by have u:i=Y:=j;omega)),h.row.keeps hk (fun i j C=>y.2.2.2 (by have u:i=Y:=C;exact u▸j)),h.fA,V0 h.var hk (fun x=>y.2.1 x.symm),V0 h.box hk (fun x=>y.2.2.1 x.symm),h.o1,h.nv⟩
theorem DR.cells{a1 a2 a3 a4 a5}(h:DR w1 wr e tb bb bk im V X cs T tc Al lc lv bu se Ap pc es mc own g A c Fs #[a1,a2,a3,a4,a5] m1 G2):wr.cell? (aD V 0)=some (pA e)/\wr.cell? (aD e 8)=some (pA bk)/\wr.cell? (aD e 7)=some (pA bb)/\wr.cell? (aD X 0)=some a1/\wr.cell? (aD X 1)=some a2/\wr.cell? (aD X 2)=some a3/\wr.cell? (aD X 3)=some a4/\wr.cell? (aD X 4)=some a5:=
 ⟨by rw[X9 h.var];rfl,h.eng.cell h.eng.ec.c8,h.eng.cell h.eng.ec.c7,by rw[X9 h.box];rfl,by rw[X9 h.box];rfl,by rw[X9 h.box];rfl,by rw[X9 h.box];rfl,by rw[X9 h.box];rfl⟩
def kF(G:Nat->Prop)(bb e V:Nat)(i:Nat):Prop:=G i\/i=bb\/i=e\/i=V
theorem Pv{W w4 M1 M2 F' r o}(h:U8 w1 e cs tb bb bk im T tc Al lc lv bu se Ap pc es mc G own g m)(hV:J7 w1 V 27 #[pA e])(hX:J7 w1 X 84 ob)(C:(∀k,¬own V k)/\(∀k,¬own X k)/\V≠X)(hb:Bz w1 W)(a3:V5 o.side)(hr:S6 m o=r)(u:AV (Ae e bb bk V cs m.st m.dy m.an) W w4 r.st (kF G bb e V) F' M1 M2 A c r.fills) (D:V1 o.side M1 M2=V1 o.side m.L1 m.L2) (E:V1 (3-o.side) M1 M2=r.rest):∃G2,DR w1 w4 e tb bb bk im V X cs T tc Al lc lv bu se Ap pc es mc own g A c r.fills ob (VC m o) G2/\∀i t us,J7 W i t us->w1.heap.size<=i->J7 w4 i t us/\Zt (KQ w1 own G2 4) V X A i:=by
 obtain⟨G2,hk⟩:=u.mk_;have hW:=hb.size;have lV:=Z9 hV;have lX:=Z9 hX;have a0:∀i,kF G bb e V i->i<w1.heap.size:=fun i j=>by
  obtain x|x|x|x:=j
  ·exact h.book.fp x
  ·exact x▸Z9 h.bands
  ·exact x▸Z9 h.ind.blk
  exact x▸lV
 have Z:X4 (kF G bb e V) w1 w4:=(B9 hb _).trans u.step.1 (fun i j=>.inl j);have a1:∀i,G2 i->G i\/w1.heap.size<=i:=fun i j=>by
  obtain x|x:=u.step.2 i ((hk.fp i).2 (.inl j))
  ·obtain x|x|x|x:=x
   ·exact .inl x
   ·exact absurd j (x▸hk.gb)
   ·exact absurd j (x▸hk.ge)
   exact absurd j (x▸hk.gv)
  exact .inr Q0
 have e1:({m with L1:=M1,L2:=M2,la:=r.st}:Z6)=VC m o:=by
  unfold VC;rw[hr];have hL:M1=(if o.side=1 then m.L1 else r.rest)/\M2=(if o.side=1 then r.rest else m.L2):=by
   obtain J|J:=a3
   ·rw[J]at D E|-
    rw[X0 rfl,X0 rfl];exact⟨D,E⟩
   rw[J]at D E|-;rw[J8 Q1,J8 Q1];exact⟨E,D⟩
  rw[<-hL.1,<-hL.2]
 have hE:=h.meetTo Z (fun i j=>by
  obtain x|x|x|x:=j
  ·exact .inl x
  ·exact .inr (.inl x)
  ·exact .inr (.inr (.inl x))
  exact .inr (.inr (.inr (x▸C.1)))) hk.book hk.bands hk.eng a1
 rw[e1]at hE;have fX:¬kF G bb e V X:=by
  rintro(x|x|x|x)
  ·exact C.2.1 4 (h.oG X x)
  ·exact C.2.1 3 (x▸h.ob)
  ·exact C.2.1 1 (x▸h.oe)
  exact C.2.2 x.symm
 have hA:∀i,X5 A=some i->w1.heap.size<=i/\¬G2 i:=fun i j=>⟨U4 hW (u.fpA i j).2,fun x=>(u.fpA i j).1 ((hk.fp i).2 (.inl x))⟩
 refine⟨G2,⟨hE,Z.mono (fun i j=>?_),u.row,hA,hk.var,V0 hX Z fX,h.ok,C.1,C.2.1,C.2.2,lV,lX⟩,fun i t us N j=>⟨V0 N u.step.1 (fun x=>by have:=a0 i x;omega),fun k a2=>?_,Q0,Q0,fun x=>by have:=(u.fpA i x).2;have:=Z9 N;omega⟩⟩
 ·obtain x|x|x|x:=j
  ·exact .inl ⟨4,h.oG i x⟩
  ·exact .inl ⟨3,x▸h.ob⟩
  ·exact .inl ⟨1,x▸h.oe⟩
  exact .inr x
 obtain x|⟨-,x,-⟩:=a2
 ·have:=h.ok.lt i k x;omega
 obtain y|y:=u.step.2 i ((hk.fp i).2 (.inl x))
 ·have:=a0 i y;omega
 have:=Z9 N;omega
end
theorem Jg6 w A n c l(h:X8 w A n c 84 5 (X7 U0 l))(hn:n<=100000):Calls prog 151 #[.slice A n c] w fun e w'=>Bz w w'/\∃A' c',e=.returned (.slice A' n c')/\X8 w' A' n c' 84 5 (X7 U0 l)/\∀g,X5 A'=some g->w.heap.size<=g:=by
 rcases h.2 with⟨u,h0⟩|⟨g,cap,a4,u,-⟩
 ·cases u
  have y:X7 U0 l=[]:=EB (by have:=h.1;omega);rw[y];have a0:∀wx,(binOp .eql 91 (.slice none 0 0) (.slice none 0 0)).run prog wx=.ok (.bool true) wx:=fun wx=>Vc (P:=prog) wx 91 84 none 0 0 0 0 underlying91
  clear h y;go_enter func151,ntmps151
  go_wp2;go_ret;exact⟨J9 _ _,none,0,rfl,QY _ _ _ _,fun g i=>by simp[X5]at i⟩
 cases u;obtain⟨i0,Z,a1,a2,a3⟩:=W8 Cg;obtain⟨E,D⟩:=Xt6 ((CY JG Q0 h).below ((J9 _ w).alloc Q2 (.cells #[] 84)) Q2) (X8.made w 84 5);have a0:∀wx,(binOp .eql 91 (.slice (some ⟨g,0,none⟩) n c) (.slice none 0 0)).run prog wx=.ok (.bool false) wx:=fun wx=>Vc (P:=prog) wx 91 84 (some ⟨g,0,none⟩) n c 0 0 underlying91
 clear h;go_enter func151,ntmps151
 go_wp2_with (at_builtin;refine Gl JG BL rfl (.tmp 5) (.tmp 6) 91 rfl 84 i0 _ 40 underlying91 Z a1 a2 a3 rfl Q0 (some ⟨w.heap.size,0,none⟩) 0 0 [] rfl D (some ⟨g,0,none⟩) n c l rfl E Q9 Q0 ?_;intro A' c' w2 C i J)
 go_ret;have N:Bz w w2:=((J9 _ w).alloc Q2 (.cells #[] 84)).grown i Q3 (fun q j=>by simp[X5]at j;omega);simp only[Nat.zero_add,List.nil_append]at C;refine⟨N,A',c',rfl,C,fun q j=>?_⟩;obtain x|x:=J q j
 ·have:w.heap.size=q:=by simpa [X5]using x
  omega
 have:q=w.heap.size+1:=by simpa using x
 omega
theorem Qy3{w e F m}(h:D8 w e F m)(C:m.pk.length<=100000):Calls prog 104 #[pA e] w fun u w'=>Bz w w'/\∃A c,u=.returned (.slice A m.pk.length c)/\X8 w' A m.pk.length c 84 5 (X7 U0 m.pk)/\∀g,X5 A=some g->w.heap.size<=g:=by
 obtain⟨cs,tb,bb,bk,im,T,tc,Al,lc,lv,bu,se,Ap,pc,es,mc,G,own,i,hF⟩:=h;have Z:=i.cell i.ec.c12;have j:=J6 (Jg6 w Ap m.pk.length pc m.pk i.park C);clear i hF;obtain⟨n,D⟩:=exq m.pk.length;rw[D]at Z j|-;clear D C;go_enter func104,ntmps104
 go_wp2_with fail
 refine j.mono ?_;rintro u w2⟨hb,A,c,rfl,E,y⟩;obtain⟨N,J⟩:=Xt6 E y;clear E y j;go_wp2;go_ret;exact⟨hb,A,c,rfl,N,J⟩
section
open Go.ChangeMaps
section
variable {w w':World} {e:Nat} {cs:Array Value} {tb bb bk im:Nat} {T:Option Addr} {tc:Nat} {Al:Option Addr} {lc:Nat} {lv:List Z7} {bu se:Int} {Ap:Option Addr} {pc:Nat} {es:List MapEntry} {mc:Nat} {G:Nat->Prop} {own:Nat->Nat->Prop} {g:Int->Option Int->Int} {m:Z6}
theorem Z1{i j v u}(h:cs[i]?=some v)(y:j≠i):(cs.setIfInBounds j u)[i]?=some v:=by rw[AD y];exact h
theorem AK{j u}(h:j<cs.size):(cs.setIfInBounds j u)[j]?=some u:=Jr h
theorem DQ.setPh(h:DQ cs tb bb bk im Ap pc m)v:DQ (cs.setIfInBounds 14 (I O v)) tb bb bk im Ap pc {m with ph:=v}:=
 ⟨by rw[DX];exact h.sz,Z1 h.c4 Q1,Z1 h.c5 Q1,Z1 h.c6 Q1,Z1 h.c7 Q1,Z1 h.c8 Q1,Z1 h.c12 Q1,Z1 h.c13 Q1,AK (by have:=h.sz;omega),Z1 h.c15 Q1,Z1 h.c16 Q1,Z1 h.c17 Q1⟩
theorem DQ.setNow(h:DQ cs tb bb bk im Ap pc m)v:DQ (cs.setIfInBounds 15 (I O v)) tb bb bk im Ap pc {m with now:=v}:=
 ⟨by rw[DX];exact h.sz,Z1 h.c4 Q1,Z1 h.c5 Q1,Z1 h.c6 Q1,Z1 h.c7 Q1,Z1 h.c8 Q1,Z1 h.c12 Q1,Z1 h.c13 Q1,Z1 h.c14 Q1,AK (by have:=h.sz;omega),Z1 h.c16 Q1,Z1 h.c17 Q1⟩
theorem DQ.setEnds(h:DQ cs tb bb bk im Ap pc m)v:DQ (cs.setIfInBounds 16 (I O v)) tb bb bk im Ap pc {m with ends:=v}:=
 ⟨by rw[DX];exact h.sz,Z1 h.c4 Q1,Z1 h.c5 Q1,Z1 h.c6 Q1,Z1 h.c7 Q1,Z1 h.c8 Q1,Z1 h.c12 Q1,Z1 h.c13 Q1,Z1 h.c14 Q1,Z1 h.c15 Q1,AK (by have:=h.sz;omega),Z1 h.c17 Q1⟩
theorem DQ.setLng(h:DQ cs tb bb bk im Ap pc m)v:DQ (cs.setIfInBounds 17 (I O v)) tb bb bk im Ap pc {m with lng:=v}:=
 ⟨by rw[DX];exact h.sz,Z1 h.c4 Q1,Z1 h.c5 Q1,Z1 h.c6 Q1,Z1 h.c7 Q1,Z1 h.c8 Q1,Z1 h.c12 Q1,Z1 h.c13 Q1,Z1 h.c14 Q1,Z1 h.c15 Q1,Z1 h.c16 Q1,AK (by have:=h.sz;omega)⟩
theorem U8.setCell_{j v m'}(h:U8 w e cs tb bb bk im T tc Al lc lv bu se Ap pc es mc G own g m)(i:j≠9/\j≠10/\j≠11)(u:DQ (cs.setIfInBounds j v) tb bb bk im Ap pc m')(y:m'.rows=m.rows/\m'.st=m.st/\m'.dy=m.dy/\m'.an=m.an/\m'.la=m.la/\m'.L1=m.L1/\m'.L2=m.L2/\m'.pk=m.pk/\m'.ids=m.ids):U8 (w.setCell (aD e j) v) e (cs.setIfInBounds j v) tb bb bk im T tc Al lc lv bu se Ap pc es mc G own g m'/\U3 w (w.setCell (aD e j) v) own own:=
 h.cellsTo (Z0 h.ind.blk j v) (U1 w (aD e j) v) u (AD i.1) (AD i.2.1) (AD i.2.2) y
theorem U8.setPh(h:U8 w e cs tb bb bk im T tc Al lc lv bu se Ap pc es mc G own g m)v:U8 (w.setCell (aD e 14) (I O v)) e (cs.setIfInBounds 14 (I O v)) tb bb bk im T tc Al lc lv bu se Ap pc es mc G own g {m with ph:=v}/\U3 w (w.setCell (aD e 14) (I O v)) own own:=
 h.setCell_ Q1 (h.ec.setPh v) ⟨rfl,rfl,rfl,rfl,rfl,rfl,rfl,rfl,rfl⟩
theorem U8.setNow(h:U8 w e cs tb bb bk im T tc Al lc lv bu se Ap pc es mc G own g m)v:U8 (w.setCell (aD e 15) (I O v)) e (cs.setIfInBounds 15 (I O v)) tb bb bk im T tc Al lc lv bu se Ap pc es mc G own g {m with now:=v}/\U3 w (w.setCell (aD e 15) (I O v)) own own:=
 h.setCell_ Q1 (h.ec.setNow v) ⟨rfl,rfl,rfl,rfl,rfl,rfl,rfl,rfl,rfl⟩
theorem U8.setEnds(h:U8 w e cs tb bb bk im T tc Al lc lv bu se Ap pc es mc G own g m)v:U8 (w.setCell (aD e 16) (I O v)) e (cs.setIfInBounds 16 (I O v)) tb bb bk im T tc Al lc lv bu se Ap pc es mc G own g {m with ends:=v}/\U3 w (w.setCell (aD e 16) (I O v)) own own:=
 h.setCell_ Q1 (h.ec.setEnds v) ⟨rfl,rfl,rfl,rfl,rfl,rfl,rfl,rfl,rfl⟩
theorem U8.setLng(h:U8 w e cs tb bb bk im T tc Al lc lv bu se Ap pc es mc G own g m)v:U8 (w.setCell (aD e 17) (I O v)) e (cs.setIfInBounds 17 (I O v)) tb bb bk im T tc Al lc lv bu se Ap pc es mc G own g {m with lng:=v}/\U3 w (w.setCell (aD e 17) (I O v)) own own:=
 h.setCell_ Q1 (h.ec.setLng v) ⟨rfl,rfl,rfl,rfl,rfl,rfl,rfl,rfl,rfl⟩
theorem U8.frozen(h:U8 w e cs tb bb bk im T tc Al lc lv bu se Ap pc es mc G own g m)i:w.frozen? (aD e i)=false:=K0 h.ind.blk i
theorem U8.pkTo{P' Ap' pc'}(h:U8 w e cs tb bb bk im T tc Al lc lv bu se Ap pc es mc G own g m)(hk:X4 (fun i=>X5 Ap=some i) w w')(Z:X8 w' Ap' P'.length pc' 84 5 (X7 U0 P'))(N:∀i,X5 Ap'=some i->X5 Ap=some i\/w.heap.size<=i):∃own',U8 (w'.setCell (aD e 12) (.slice Ap' P'.length pc')) e (cs.setIfInBounds 12 (.slice Ap' P'.length pc')) tb bb bk im T tc Al lc lv bu se Ap' pc' es mc G own' g {m with pk:=P'}/\U3 w (w'.setCell (aD e 12) (.slice Ap' P'.length pc')) own own':=by
 have f:∀{i k},own i k->k≠6->¬X5 Ap=some i:=fun j E=>h.fit (S:=fun i=>X5 Ap=some i) h.op j E
 have f1:∀{i k},own i k->k≠1->¬i=e:=fun j E=>h.fit (S:=fun i=>i=e) (fun i j=>j▸h.oe) j E
 have n:∀{i k},own i k->KQ w own (fun i=>X5 Ap'=some i) 6 i k:=fun j=>.inl j
 have he:e<w.heap.size:=Z9 h.ind.blk;have J:=U1 w' ⟨e,12,none⟩ (.slice Ap' P'.length pc');have y:X4 (fun i=>X5 Ap=some i\/i=e) w (w'.setCell ⟨e,12,none⟩ (.slice Ap' P'.length pc')):=(hk.mono (fun i j=>.inl j)).trans J (fun i j=>.inl (.inr j));have q:∀{i k},own i k->k≠6->k≠1->¬(X5 Ap=some i\/i=e):=fun j h6 h1 x=>x.elim (f j h6) (f1 j h1)
 have C:=h.ind;have E:∀i,X5 Ap'=some i->¬i=e:=fun i j a0=>by
  obtain D|D:=N i j
  ·exact f h.oe Q1 (a0▸D)
  omega
 have a1:=hk.size;refine⟨KQ w own (fun i=>X5 Ap'=some i) 6,⟨⟨Z0 (V0 C.blk hk (f h.oe Q1)) 12 _,?_,?_,?_,C.row.keeps y (fun i j=>q (h.ol i j) Q1 Q1),C.na,C.ok⟩,?_,h.is,D0 h.tabl y.size,(y.cell (p:=⟨tb,0,none⟩) h.tabl (q h.ot Q1 Q1)).trans h.tabc,h.tabp.keeps y (fun i j=>q (h.oT i j) Q1 Q1),V0 h.bands y (q h.ob Q1 Q1),h.book.keeps y (fun i j=>q (h.oG i j) Q1 Q1),Z.keeps J E,h.map_.of_block (y.block _ h.map_.lt (q h.oi Q1 Q1)),h.keys,h.ids,h.ok.new_ y.size (fun i j=>D0 (Z.lt j) J.size) 6,n h.oe,n h.ot,fun i j=>n (h.oT i j),n h.ob,fun i j=>n (h.oG i j),fun i j=>n (h.ol i j),fun i j=>?_,n h.oi⟩,y.mono (fun i j=>?_),fun i k j=>j.imp id (fun x=>x.1)⟩
 ·exact Z1 C.c0 Q1
 ·exact Z1 C.c1 Q1
 ·exact Z1 C.c2 Q1
 ·have u:=h.ec
  exact⟨by rw[DX];exact u.sz,Z1 u.c4 Q1,Z1 u.c5 Q1,Z1 u.c6 Q1,Z1 u.c7 Q1,Z1 u.c8 Q1,AK (by have:=u.sz;omega),Z1 u.c13 Q1,Z1 u.c14 Q1,Z1 u.c15 Q1,Z1 u.c16 Q1,Z1 u.c17 Q1⟩
 ·obtain D|D:=N i j
  ·exact n (h.op i D)
  exact .inr ⟨D,j,rfl⟩
 obtain j|rfl:=j
 ·exact⟨6,h.op i j⟩
 exact⟨1,h.oe⟩
theorem U8.pkNil(h:U8 w e cs tb bb bk im T tc Al lc lv bu se Ap pc es mc G own g m):∃own',U8 (w.setCell (aD e 12) (.slice none 0 0)) e (cs.setIfInBounds 12 (.slice none 0 0)) tb bb bk im T tc Al lc lv bu se none 0 es mc G own' g {m with pk:=[]}/\U3 w (w.setCell (aD e 12) (.slice none 0 0)) own own':=
 h.pkTo (P':=[]) (B9 Q5 _) (QY _ _ _ _) (fun i j=>by simp[X5]at j)
theorem U8.indNil(h:U8 w e cs tb bb bk im T tc Al lc lv bu se Ap pc es mc G own g m):U8 (((w.setCell (aD e 9) (.slice none 0 0)).setCell (aD e 10) (I O 0)).setCell (aD e 11) (I O 0)) e (((cs.setIfInBounds 9 (.slice none 0 0)).setIfInBounds 10 (I O 0)).setIfInBounds 11 (I O 0)) tb bb bk im T tc none 0 [] 0 0 Ap pc es mc G own (fun s k=>C4 s k []) m/\U3 w (((w.setCell (aD e 9) (.slice none 0 0)).setCell (aD e 10) (I O 0)).setCell (aD e 11) (I O 0)) own own:=by
 have hk:=((U1 w (aD e 9) (.slice none 0 0)).trans (U1 _ (aD e 10) (I O 0)) (fun i j=>.inl j)).trans (U1 _ (aD e 11) (I O 0)) (fun i j=>.inl j);have f:∀{i k},own i k->k≠1->¬i=e:=fun j E=>h.fit (S:=fun i=>i=e) (fun i j=>j▸h.oe) j E
 have u:=h.ec;have J:=u.sz;have c:∀i v,cs[i]?=some v->i≠9->i≠10->i≠11->(((cs.setIfInBounds 9 (.slice none 0 0)).setIfInBounds 10 (I O 0)).setIfInBounds 11 (I O 0))[i]?=some v:=fun i v N D y C=>Z1 (Z1 (Z1 N (Ne.symm D)) (Ne.symm y)) (Ne.symm C)
 refine⟨⟨⟨Z0 (Z0 (Z0 h.ind.blk 9 _) 10 _) 11 _,Z1 (Z1 (AK Q0) Q1) Q1,Z1 (AK Q7) Q1,AK Q7,QY _ _ _ _,by simp[X5],Qa9⟩,⟨by simp;exact J,c _ _ u.c4 Q1 Q1 Q1,c _ _ u.c5 Q1 Q1 Q1,c _ _ u.c6 Q1 Q1 Q1,c _ _ u.c7 Q1 Q1 Q1,c _ _ u.c8 Q1 Q1 Q1,c _ _ u.c12 Q1 Q1 Q1,c _ _ u.c13 Q1 Q1 Q1,c _ _ u.c14 Q1 Q1 Q1,c _ _ u.c15 Q1 Q1 Q1,c _ _ u.c16 Q1 Q1 Q1,c _ _ u.c17 Q1 Q1 Q1⟩,Sk,D0 h.tabl hk.size,(hk.cell (p:=(aD tb 0)) h.tabl (f h.ot Q1)).trans h.tabc,h.tabp.keeps hk (fun i j=>f (h.oT i j) Q1),V0 h.bands hk (f h.ob Q1),h.book.keeps hk (fun i j=>f (h.oG i j) Q1),h.park.keeps hk (fun i j=>f (h.op i j) Q1),h.map_.of_block (hk.block _ h.map_.lt (f h.oi Q1)),h.keys,h.ids,h.ok.mono hk.size,h.oe,h.ot,h.oT,h.ob,h.oG,fun i j=>by simp[X5]at j,h.op,h.oi⟩,hk.mono (fun i j=>⟨1,j▸h.oe⟩),fun i k j=>.inl j⟩
theorem U8.otherBook{b' G' M1 M2}(h:U8 w e cs tb bb bk im T tc Al lc lv bu se Ap pc es mc G own g m)(Z:JC w b' G' M1 M2)(D:∀i k,G' i->¬own i k):∃own',U8 (w.setCell (aD e 8) (pA b')) e (cs.setIfInBounds 8 (pA b')) tb bb b' im T tc Al lc lv bu se Ap pc es mc G' own' g {m with L1:=M1,L2:=M2}/\X4 (fun i=>∃k,own i k) w (w.setCell (aD e 8) (pA b'))/\∀i k,own' i k->own i k\/G' i:=by
 have hk:=U1 w (aD e 8) (pA b');have f:∀{i k},own i k->k≠1->¬i=e:=fun j a3=>h.fit (S:=fun i=>i=e) (fun i j=>j▸h.oe) j a3
 have u:=h.ec;have y:=h.ind;have n:∀{i k},own i k->own i k\/(G' i/\k=4):=fun j=>.inl j
 refine⟨fun i k=>own i k\/(G' i/\k=4),⟨⟨Z0 y.blk 8 _,Z1 y.c0 Q1,Z1 y.c1 Q1,Z1 y.c2 Q1,y.row.keeps hk (fun i j=>f (h.ol i j) Q1),y.na,y.ok⟩,⟨by simp;exact u.sz,Z1 u.c4 Q1,Z1 u.c5 Q1,Z1 u.c6 Q1,Z1 u.c7 Q1,AK (by have:=u.sz;omega),Z1 u.c12 Q1,Z1 u.c13 Q1,Z1 u.c14 Q1,Z1 u.c15 Q1,Z1 u.c16 Q1,Z1 u.c17 Q1⟩,h.is,D0 h.tabl hk.size,(hk.cell (p:=(aD tb 0)) h.tabl (f h.ot Q1)).trans h.tabc,h.tabp.keeps hk (fun i j=>f (h.oT i j) Q1),V0 h.bands hk (f h.ob Q1),Z.keeps hk (fun i j a0=>D i 1 j (by have h3:i=e:=a0;rw[h3];exact h.oe)),h.park.keeps hk (fun i j=>f (h.op i j) Q1),h.map_.of_block (hk.block _ h.map_.lt (f h.oi Q1)),h.keys,h.ids,⟨fun i k k' h1 h2=>?_,fun i k h1=>?_⟩,n h.oe,n h.ot,fun i j=>n (h.oT i j),n h.ob,fun i j=>.inr ⟨j,rfl⟩,fun i j=>n (h.ol i j),fun i j=>n (h.op i j),n h.oi⟩,hk.mono (fun i j=>⟨1,j▸h.oe⟩),fun i k j=>j.imp id (fun x=>x.1)⟩
 ·obtain h1|⟨C,J⟩:=h1
  ·obtain h2|⟨E,N⟩:=h2
   ·exact h.ok.uni i k k' h1 h2
   exact absurd h1 (D i k E)
  obtain h2|⟨E,N⟩:=h2
  ·exact absurd h2 (D i k' C)
  rw[J,N]
 obtain h1|⟨C,J⟩:=h1
 ·exact D0 (h.ok.lt i k h1) hk.size
 exact D0 (Z.fp C) hk.size
theorem U8.mapTo{es' mc' id}(h:U8 w e cs tb bb bk im T tc Al lc lv bu se Ap pc es mc G own g m)(ht:CG w w' im)(y:M6 w' im es' mc')(u:DH es')(J6:∀k,JT es' k=if k∈m.ids++[id]then some (.bool true)else none):U8 w' e cs tb bb bk im T tc Al lc lv bu se Ap pc es' mc' G own g {m with ids:=m.ids++[id]}/\U3 w w' own own:=by
 have hk:X4 (fun i=>i=im) w w':=⟨ht.os,ht.tape,ht.output,CB ht.size.symm,fun i _ C=>ht.block i C⟩;have f:∀{i k},own i k->k≠7->¬i=im:=fun j D=>h.fit (S:=fun i=>i=im) (fun i j=>j▸h.oi) j D
 exact⟨⟨h.ind.keeps hk (f h.oe Q1) (fun i j=>f (h.ol i j) Q1),⟨h.ec.sz,h.ec.c4,h.ec.c5,h.ec.c6,h.ec.c7,h.ec.c8,h.ec.c12,h.ec.c13,h.ec.c14,h.ec.c15,h.ec.c16,h.ec.c17⟩,h.is,D0 h.tabl hk.size,(hk.cell (p:=(aD tb 0)) h.tabl (f h.ot Q1)).trans h.tabc,h.tabp.keeps hk (fun i j=>f (h.oT i j) Q1),V0 h.bands hk (f h.ob Q1),h.book.keeps hk (fun i j=>f (h.oG i j) Q1),h.park.keeps hk (fun i j=>f (h.op i j) Q1),y,u,J6,h.ok.mono hk.size,h.oe,h.ot,h.oT,h.ob,h.oG,h.ol,h.op,h.oi⟩,hk.mono (fun i j=>⟨7,j▸h.oi⟩),fun i k j=>.inl j⟩
end
end
def MD(sd:Int)(F:List C6)(s:Int)(k:Option Int):Int:=(F.map fun f=>if 3-sd=s/\some f.p=k then f.n else 0).sum
theorem Xu sd f F s k:MD sd (f::F) s k=(if 3-sd=s/\some f.p=k then f.n else 0)+MD sd F s k:=by unfold MD;rw[T2,YS]
theorem Gr{sd F}(h:∀f∈F,1<=f.n)s k:0<=MD sd F s k:=by
 induction F with
 |nil=>exact T3 _
 |cons f t j=>
  rw[Xu];have h1:=j (fun g i=>h g (by simp[i]));have h2:=h f Q3
  split<;>omega
theorem Qf5 o x n:(CJ o x n).p=x.price:=by unfold CJ;split<;>rfl
theorem Qf6 o x n:(CJ o x n).n=n:=by unfold CJ;split<;>rfl
theorem Jg7 x n s k:C4 s k (FC x n)=(if x.side=s/\T8 x=k then x.qty-n else 0):=by
 unfold FC
 by_cases h:n=x.qty
 ·rw[X0 h,h]
  unfold C4;simp
 rw[J8 h];rw[PJ,show C4 s k ([]:List X6)=0 from rfl,NL]
 rfl
section
variable {σ:Type} {al:σ->Int->Bool} {tr:σ->Int->σ}
theorem Jr2{sd}s k:∀l o t,(∀x∈l,x.side=3-sd)->C4 s k l=C4 s k (A4 al tr l o t).rest+MD sd (A4 al tr l o t).fills s k:=by
 intro l
 induction l with
 |nil=>intro o t _;rfl
 |cons x r u=>
  intro o t h;have j:=h x Q3;have i:=fun y D=>h y (VS x D)
  unfold A4
  split
  ·show C4 s k (x::r)=C4 s k (x::r)+0
   omega
  split
  ·have:=u o t i
   dsimp only;rw[PJ,PJ];omega
  split
  ·show C4 s k (x::r)=C4 s k (x::r)+0
   omega
  split
  ·show C4 s k (x::r)=C4 s k (x::r)+0
   omega
  rename_i hk _ _;have:=u (D9 o (min o.qty x.qty)) (tr t x.price) i;dsimp only;rw[NR,Jg7,Xu,Qf5,Qf6,PJ];have C:T8 x=some x.price:=by unfold T8;rw[J8 hk]
  rw[C]
  by_cases e:x.side=s/\some x.price=k
  ·rw[X0 e,X0 e,X0 ⟨j.symm.trans e.1,e.2⟩]
   omega
  rw[J8 e,J8 e,J8 (fun y=>e ⟨j.trans y.1,y.2⟩)];omega
structure Qw(f:C6):Prop where
 n:1<=f.n/\f.n<=1000000
 p:1<=f.p/\f.p<=1000000
theorem Jg8:∀l o t,(∀x∈l,KG x)->∀f∈(A4 al tr l o t).fills,Qw f:=by
 intro l
 induction l with
 |nil=>intro o t _ f i;cases i
 |cons x r C=>
  intro o t h f i;have u:=h x Q3;have j:=fun y D=>h y (VS x D)
  unfold A4 at i
  split at i
  ·cases i
  rename_i E
  split at i
  ·exact C o t j f i
  split at i
  ·cases i
  split at i
  ·cases i
  dsimp only at i;obtain rfl|i:=H8.1 i
  ·have h1:=u.2.2.2
   have h2:=u.2.2.1;exact⟨by rw[Qf6];omega,by rw[Qf5];exact h2⟩
  exact C _ _ j f i
theorem Ta:∀l o t,JV o->0<=o.qty->(∀x∈l,KG x)->JV (A4 al tr l o t).left/\(A4 al tr l o t).left.id=o.id/\(A4 al tr l o t).left.side=o.side/\(A4 al tr l o t).left.kind=o.kind/\(A4 al tr l o t).left.price=o.price/\0<=(A4 al tr l o t).left.qty/\(A4 al tr l o t).left.qty<=o.qty:=by
 intro l
 induction l with
 |nil=>intro o t i u _;exact⟨i,rfl,rfl,rfl,rfl,u,T3 _⟩
 |cons x r D=>
  intro o t i j h;have hx:=h x Q3;have C:=fun y hy=>h y (VS x hy)
  unfold A4
  split
  ·exact⟨i,rfl,rfl,rfl,rfl,j,T3 _⟩
  rename_i u
  split
  ·exact D o t i j C
  split
  ·exact⟨i,rfl,rfl,rfl,rfl,j,T3 _⟩
  split
  ·exact⟨i,rfl,rfl,rfl,rfl,j,T3 _⟩
  have h1:=hx.2.2.2;have a0:=i.2.2.2.2;unfold V3 at a0;obtain⟨E,J,N,Z,a5,a6,a7⟩:=D (D9 o (min o.qty x.qty)) (tr t x.price) ⟨i.1,i.2.1,i.2.2.1,i.2.2.2.1,by unfold V3 D9;dsimp only;omega⟩ (by unfold D9;dsimp only;omega) C;have h8:(D9 o (min o.qty x.qty)).qty<=o.qty:=by unfold D9;dsimp only;omega
  exact⟨E,J,N,Z,a5,a6,NH a7 h8⟩
end
section
variable {w:World} {e:Nat} {F:Nat->Prop} {m:Z6}
theorem Jg9(h:D8 w e F m):Calls prog 105 #[pA e] w fun j w'=>j=.returned (I O m.ph)/\Bz w w':=by
 obtain⟨cs,tb,bb,bk,im,T,tc,Al,lc,lv,bu,se,Ap,pc,es,mc,G,own,i,u⟩:=h;have c:=i.cell i.ec.c14;clear i u;go_enter func105,ntmps105
 go_wp2;go_ret;exact⟨rfl,J9 _ _⟩
theorem Xd3(h:D8 w e F m):Calls prog 111 #[pA e] w fun j w'=>j=.returned (I O m.now)/\Bz w w':=by
 obtain⟨cs,tb,bb,bk,im,T,tc,Al,lc,lv,bu,se,Ap,pc,es,mc,G,own,i,u⟩:=h;have c:=i.cell i.ec.c15;clear i u;go_enter func111,ntmps111
 go_wp2;go_ret;exact⟨rfl,J9 _ _⟩
theorem Jr3(h:D8 w e F m):Calls prog 107 #[pA e] w fun u w'=>u=.returned (.tuple #[I O m.an,I O m.la])/\Bz w w':=by
 obtain⟨cs,tb,bb,bk,im,T,tc,Al,lc,lv,bu,se,Ap,pc,es,mc,G,own,j,y⟩:=h;have c:=j.cell j.ec.c7;have i:=J6 j.bands;clear j y;go_enter func107,ntmps107
 go_wp2_with fail
 go_quiet (first|(go_at_call 155;exact Xc ((Je8 bb m.st m.dy m.an m.la _ (by first|exact i|exact Y6 i|exact ZL i _)).mono (fun _ _⟨h1,h2⟩=>⟨h1,h2.symm⟩)))|(go_at_call 154;exact Xc ((Qj bb m.st m.dy m.an m.la _ (by first|exact i|exact Y6 i|exact ZL i _)).mono (fun _ _⟨h1,h2⟩=>⟨h1,h2.symm⟩))))
 go_wp2;go_ret2;exact⟨rfl,Y5 Q5 _⟩
theorem Jr4(h:D8 w e F m)sd(C:V5 sd):Calls prog 102 #[pA e,I O sd] w fun j w'=>Bz w w'/\∃A c,j=.returned (.tuple #[.slice A (V1 sd m.L1 m.L2).length c,.nilIface])/\X8 w' A (V1 sd m.L1 m.L2).length c 84 5 (X7 U0 (V1 sd m.L1 m.L2))/\∀g,X5 A=some g->w.heap.size<=g:=by
 obtain⟨cs,tb,bb,bk,im,T,tc,Al,lc,lv,bu,se,Ap,pc,es,mc,G,own,i,N⟩:=h;have c:=i.cell i.ec.c8;have HS:=J6 (Xw w bk G m.L1 m.L2 i.book sd C);clear i N C;obtain⟨l,hl⟩:=exq (V1 sd m.L1 m.L2);rw[hl]at HS|-;go_enter func102,ntmps102
 go_wp2_with fail
 refine HS.mono ?_;rintro j w2⟨Z,A,J,rfl,y,u⟩;obtain⟨E,D⟩:=Xt6 y u;clear y u;go_wp2;go_ret2;exact⟨Z,A,J,rfl,E,D⟩
theorem Tb(h:D8 w e F m):Calls prog 100 #[pA e] w fun Z w'=>Z=.returned (Y9 (UE m))/\A5 w w' e F (JN m):=by
 obtain⟨cs,tb,bb,bk,im,T,tc,Al,lc,lv,bu,se,Ap,pc,es,mc,G,own,y,J⟩:=h;have c:=y.cell y.ec.c14;have f:=y.frozen 14;obtain⟨D,C⟩:=Xt6 y J;clear y J;obtain⟨p,hp⟩:=exq m.ph;rw[hp]at c;have E:=J6 hp;clear hp
 by_cases j:p=6
 ·have d:=V4 j
  have i:Hid (UE m=6/\JN m=m):=J6 (by unfold UE JN;rw[E.out,X0 (.inl j),X0 (.inl j)];exact⟨rfl,rfl⟩);clear j;rw[i.1,i.2];go_enter func100,ntmps100
  go_wp2;go_ret;exact⟨rfl,_,D.at_ (fun _ _ _=>rfl),(N0 Q5).bstep C⟩
 have d:=Z3 j
 by_cases u:p=7
 ·have N:=V4 u
  have i:Hid (UE m=6/\JN m=m):=J6 (by unfold UE JN;rw[E.out,X0 (.inr u),X0 (.inr u)];exact⟨rfl,rfl⟩);clear j u;rw[i.1,i.2];go_enter func100,ntmps100
  go_wp2;go_ret;exact⟨rfl,_,D.at_ (fun _ _ _=>rfl),(N0 Q5).bstep C⟩
 have N:=Z3 u;have i:Hid (UE m=0/\JN m={m with ph:=6}):=J6 (by unfold UE JN;rw[E.out,J8 Q0,J8 Q0];exact⟨rfl,rfl⟩);clear j u;rw[i.1,i.2];go_enter func100,ntmps100
 go_wp2;go_ret;obtain⟨a0,ho⟩:=D.setPh 6;exact⟨rfl,_,a0.at_ (fun _ _ _=>rfl),ho.bstep C⟩
theorem Vr(h:D8 w e F m)(Z: -1000000000000<=m.now/\m.now<=1000000000000)(ht:0<=m.tk/\m.tk<=1000000):Calls prog 148 #[pA e] w fun D w'=>D=.returned (.tuple #[])/\A5 w w' e F (BU m):=by
 obtain⟨cs,tb,bb,bk,im,T,tc,Al,lc,lv,bu,se,Ap,pc,es,mc,G,own,i,j⟩:=h;have c4:=i.cell i.ec.c4;have a4:=i.cell i.ec.c15;have a3:=i.cell i.ec.c14;have a5:=i.cell i.ec.c16;have a6:=i.cell i.ec.c17;have a7:=i.frozen 14;have a8:=i.frozen 16;have a9:=i.frozen 17;have i1:RowKit.wrap64 (m.now+m.tk)=m.now+m.tk:=by unfold RowKit.wrap64;omega
 obtain⟨C,y⟩:=Xt6 i j;clear i j Z ht;go_enter func148,ntmps148
 go_region
 go_wp2;refine EF (YV rfl _ _ _) rfl ?_;obtain⟨E,a0⟩:=C.setPh 4;obtain⟨J,a1⟩:=E.setEnds (m.now+m.tk);obtain⟨N,a2⟩:=J.setLng 0;have u:=Z2 (J9 (zS (((w.setCell (aD e 14) (I O 4)).setCell (aD e 16) (I O (m.now+m.tk))).setCell (aD e 17) (I O 0))) (((w.setCell (aD e 14) (I O 4)).setCell (aD e 16) (I O (m.now+m.tk))).setCell (aD e 17) (I O 0)));exact⟨rfl,_,(N.below u).at_ (m:=BU m) (fun _ _ _=>rfl),(((a0.trans a1).trans a2).trans (N0 u)).bstep y⟩
end
theorem Tc{w e F m}(h:D8 w e F m):Calls prog 160 #[pA e] w fun ev w'=>ev=.returned (.tuple #[])/\A5 w w' e F (CX m):=by
 obtain⟨cs,tb,bb,bk,im,T,tc,Al,lc,lv,bu,se,Ap,pc,es,mc,G,own,hM,hF⟩:=h;obtain⟨HN,HM,HF⟩:=Xt7 (Bp w) hM hF;clear hM hF;go_enter func160,ntmps160
 go_wp2_with fail
 refine HN.mono ?_;rintro ev w2⟨J,b,G2,y,rfl,a3⟩;have C:=HM.below J;obtain⟨D,N⟩:=C.setPh 7;obtain⟨c7,E,Z⟩:=D.pkNil;have a5:=(a3.keeps (U1 w2 (aD e 14) (I O 7)) (fun i j a4=>by have h1:=y i j;have h2:=Z9 HM.ind.blk;have h3:i=e:=a4;omega)).keeps (U1 (w2.setCell (aD e 14) (I O 7)) (aD e 12) (.slice none 0 0)) (fun i j a4=>by have h1:=y i j;have h2:=Z9 HM.ind.blk;have h3:i=e:=a4;omega);have a9:=N.1.size;obtain⟨own5,u,a1,a0⟩:=E.otherBook (M1:=[]) (M2:=[]) a5 (fun i k j hk=>by
  have h1:=y i j;have h2:=a3.fp j;obtain h3|h3:=Z.2 i k hk
  ·have:=HM.ok.lt i k h3;omega
  omega)
 obtain⟨a6,a2⟩:=u.indNil;have b5:=C.cell C.ec.c14;have b2:=D.cell D.ec.c12;have c8:=E.cell E.ec.c8;have c9:=u.ind.cells;have c6:=C.frozen 14;have c5:=D.frozen 12;have f8:=E.frozen 8;have f9:=u.frozen 9;have b8:=u.frozen 10;have b9:=u.frozen 11;obtain⟨c9,b0,b1⟩:=c9;obtain⟨a8,HO,a7⟩:=Xt7 a6 (And.intro J (And.intro N (And.intro Z (And.intro a1 (And.intro a0 a2))))) y;clear C D E u a6 N Z a1 a0 a2 J y a3 a5 a9 HN;go_wp2_with fail
 refine EF (YV rfl _ _ _) rfl ?_;obtain⟨J,N,Z,a1,a0,a2⟩:=HO.out;refine⟨rfl,_,MF (m:=CX m) a8 (fun _ _ _=>rfl),?_⟩;have o4:=((N0 J).trans N).trans Z;have o5:U3 w _ own own5:=⟨o4.1.trans a1 (fun i⟨k,hk⟩=>(o4.2 i k hk).imp (fun x=>⟨k,x⟩) id),fun i k j=>?_⟩
 ·exact(o5.trans a2).bstep HF
 obtain h1|h1:=a0 i k j
 ·exact o4.2 i k h1
 exact .inr (a7 i h1)
theorem Td l:∀m,(N7 m l).pk=m.pk:=by
 induction l with
 |nil=>intro m;rfl
 |cons o t i=>intro m;exact i (S3 m o)
theorem Mm m l o:N7 m (l++[o])=S3 (N7 m l) o:=by unfold N7;rw[FS];rfl
theorem Mn{w e F m}(h:D8 w e F m)(b8:∀o∈m.pk,JV o)(d3:m.pk.length<=100000):Calls prog 149 #[pA e] w fun ev w'=>ev=.returned (.tuple #[])/\A5 w w' e F (VB m):=by
 obtain⟨cs,tb,bb,bk,im,T,tc,Al,lc,lv,bu,se,Ap,pc,es,mc,G,own,j,hF⟩:=h;obtain⟨u,b1⟩:=j.setPh 5;have d0:=j.cell j.ec.c14;have d1:=j.frozen 14;have a5:=u.cell u.ec.c12;have d2:=j.park.1;obtain⟨a3,a4,HF,c8⟩:=Xt8 u b1 hF b8;obtain⟨n,C⟩:=exq m.pk.length;have HN:=J6 C;rw[C]at d3;have a6:({m with ph:=5}:Z6).pk.length=n:=C;rw[a6]at a5;clear j u b1 hF b8 d2 a6 C;go_enter func149,ntmps149
 go_upto_region 1 with fail
 obtain⟨w1,a7⟩:=exq (w.setCell (aD e 14) (I O 5));rw[a7]at a5 a3 a4|-;clear a7 d0 d1;go_wp2_with fail
 go_loopg [12] n (fun gg d8 wr=>∃k,k<=n/\gg=n-k/\d8=I O k/\Hid (Ad w1 wr e tb bb bk im T tc Ap pc es mc own (N7 {m with ph:=5} (m.pk.take k))))
 case atStart=>exact⟨0,U9 _,rfl,rfl,J6 ⟨_,_,_,_,_,_,_,_,a3,N0 Q5⟩⟩
 obtain⟨k,hk,rfl,rfl,HL⟩:=hrel;obtain⟨e4,d9,e9,f1,e2,f6,G1,f3,b0,b5⟩:=HL.out;obtain⟨i,HOr⟩:=Xt6 b0 b5;clear b0 b5 HL
 by_cases d5:k<n
 ·have a0:k<m.pk.length:=by rw[HN.out];exact d5
  have D:=i.park;rw[Td]at D;obtain⟨gp,d4⟩:=EL D (by show 0<m.pk.length;omega);subst d4;obtain⟨y0,y1,y2,y3,y4⟩:=ER D a0;have Z:=c8.out _ (C7 a0);have a2:m.pk.take (k+1)=m.pk.take k++[m.pk[k]]:=M9 a0;obtain⟨x,hx⟩:=exq (m.pk[k]);rw[hx]at y0 y1 y2 y3 y4 Z a2;have c9:=J6 a2;have d6:(k:Int)<(n:Int):=Q0;have e8:(0:Int)<=(k:Int):=Q0;have y:Bz wr (wr.alloc (.cells #[I O x.id,I O x.side,I O x.kind,I O x.price,I O x.qty] 84)):=(J9 _ wr).alloc Q2 _;have N:=Z5 wr 84 #[I O x.id,I O x.side,I O x.kind,I O x.price,I O x.qty];have J:=i.below y;obtain⟨wz,E⟩:=exq (wr.alloc (.cells #[I O x.id,I O x.side,I O x.kind,I O x.price,I O x.qty] 84));rw[E]at y N J;have a1:=Qf4 J x Z;unfold V6 at a1;obtain⟨c5,b9,HZ⟩:=Xt7 a1 y N;clear a2 hx Z D y N J a1;go_upto_region 4 with fail
  try rw[E]
  clear E y0 y1 y2 y3 y4;obtain⟨z0,z1,z2,z3,z4⟩:=NU HZ;go_wp2_with fail
  refine c5.mono ?_;rintro ev w4⟨rfl,e5,e1,f0,f2,e3,f7,G4,f4,a8,b2⟩;obtain⟨c6,c7⟩:=Xt6 a8 b2;clear a8 b2 z0 z1 z2 z3 z4;go_wp2
  go_roundg (n-(k+1))
  case measure=>omega
  exact⟨k+1,Q0,rfl,J5,J6 ⟨_,_,_,_,_,_,_,_,by rw[c9.out,Mm];exact c6,(HOr.trans (N0 b9)).trans c7⟩⟩
 obtain rfl:k=n:=by omega
 have d6:¬(k:Int)<(k:Int):=Q0;have e6:=i.cell i.ec.c12;have e7:=i.frozen 12;go_wp2_with fail
 refine EF (YV rfl _ _ _) rfl ?_;obtain⟨f5,a9,d7⟩:=i.pkNil;rw[M4 (by rw[HN.out];exact X3 _)]at a9;exact⟨rfl,_,MF (m:=VB m) a9 (fun _ _ _=>rfl),((a4.trans HOr).trans d7).bstep HF⟩
section
variable {w w':World} {e:Nat} {F:Nat->Prop} {cs:Array Value} {tb bb bk im:Nat} {T:Option Addr} {tc:Nat} {Al:Option Addr} {lc:Nat} {lv:List Z7} {bu se:Int} {Ap:Option Addr} {pc:Nat} {es:List MapEntry} {mc:Nat} {G:Nat->Prop} {own:Nat->Nat->Prop} {m:Z6}
theorem Dh(i:U8 w e cs tb bb bk im T tc Al lc lv bu se Ap pc es mc G own (fun s k=>C4 s k (P1 m)) m)(N:1<=m.la/\m.la<=1000000)W(E:Bz w W):Calls prog 153 #[IP (some (aD e 9)),I O m.la] W fun C w'=>C=.returned (QW (M5 m))/\Bz W w':=by
 have j:=i.book.lists;have u:=EH j;have hp:=i.is.points i.ind.ok u m.la;have J:(P1 m).length<=100:=j.cnt;have a0:=Ec (l:=P1 m) (more:=m.la) J (fun o ho hk=>(u o ho).2.2.resolve_left hk) N.2;have D:∀p∈ZV lv bu se m.la,AY p:=fun p h=>by have h1:=a0 p (hp▸h);exact⟨⟨h1.1,h1.2.1⟩,⟨Q0,Q0⟩,⟨Q0,Q0⟩⟩
 have Z:(ZV lv bu se m.la).length<=100000:=by have h1:=Np (P1 m) m.la;have h2:(ZV lv bu se m.la).length=(QJ (P1 m) m.la).length:=C5 List.length hp;omega
 have key:=Jo1 W e 203 cs 9 Al lc lv bu se (i.below E).ind (Eh j i.ind.ok i.is) m.la Q0 D Z;have y:ZM (ZV lv bu se m.la) m.la=M5 m:=by
  unfold M5;rw[hp]
  rfl
 rw[y]at key;exact key
end
theorem Pw{w a Q g cs}(hp:a.tmps.getD 2 undef=pA g)(i:a.defers=[])(j:J7 w g 99 cs) (h2:cs.size=3) (h:Q (.returned (.agg cs)) w):bodyPost prog Tryz.f106 Q .ret a w:=
 QA (WE Tryz.results106 a.tmps w g _ cs (0,0) _ hp j underlying99 rfl (by rw[h2];kernel_rfl)) i h
theorem Jh0{w e F m}(h:D8 w e F m)(a3:1<=m.la/\m.la<=1000000):Calls prog 106 #[pA e] w fun J w'=>J=.returned (QW (AX m))/\Bz w w':=by
 obtain⟨cs,tb,bb,bk,im,T,tc,Al,lc,lv,bu,se,Ap,pc,es,mc,G,own,hM,hF⟩:=h;have C:Bz w (w.alloc (.cells #[I O 0,I O 0,I O 0] 99)):=(J9 _ w).alloc Q2 _;have i:=Z5 w 99 #[I O 0,I O 0,I O 0];have j:=hM.below C;obtain⟨w1,N⟩:=exq (w.alloc (.cells #[I O 0,I O 0,I O 0] 99));rw[N]at C i j;have a9:=j.cell j.ec.c14;have c7:=j.cell j.ec.c7;obtain⟨HW,a6,HX,E⟩:=Xt8 (fun W hW=>Dh j a3 W hW) j i C;have f0:=K0 i 0;have f1:=K0 i 1;have f2:=K0 i 2;obtain⟨z0,z1,z2⟩:w1.cell? (aD (zS w) 0)=some (I O 0)/\w1.cell? (aD (zS w) 1)=some (I O 0)/\w1.cell? (aD (zS w) 2)=some (I O 0):=⟨by rw[X9 i];rfl,by rw[X9 i];rfl,by rw[X9 i];rfl⟩;clear hM C i j hF a3;obtain⟨ab,Z⟩:=exq (PQ m.ph);have D:=J6 (Qp9 m.ph w1);rw[Z]at D;have a1:=J6 Z;clear Z;go_enter func106,ntmps106
 go_upto_region 1 with fail
 try rw[N]
 clear N;go_wp2_with fail
 refine D.mono ?_;rintro J wa⟨rfl,rfl⟩
 cases ab with
 |false=>
  go_wp2_with fail
  have a8:=Z0 (Z0 (Z0 HX 0 (I O 0)) 1 (I O 0)) 2 (I O 0);refine Pw (g:=zS w) (cs:= #[I O 0,I O 0,I O 0]) Q6 Q6 a8 rfl ?_;refine⟨?_,((E.setCell Q2 _).setCell Q2 _).setCell Q2 _⟩;unfold AX;rw[a1.out]
  rfl
 |true=>
  clear z0 z1 z2 f0 f1 f2 D;obtain⟨⟨t0,t1,t2⟩,ht⟩:∃q,M5 m=q:=⟨_,rfl⟩;have HT:=J6 ht;have y:=HW.out w1.drew (Z2 (J9 _ w1));rw[ht]at y;unfold QW at y;dsimp only at y;obtain⟨a2,a5⟩:=Xt6 y (Qj bb m.st m.dy m.an m.la w1.drew (Y6 a6.bands));clear y ht HW;go_wp2_with fail
  go_still_tail 8,Q4
  still_call (a5.mono (fun _ _⟨h1,h2⟩=>⟨h1,h2.symm⟩))
  refine wpStill_nil ?_;change wpList _ _ _ _ _ w1.drew;go_wp2_with fail
  refine a2.mono ?_;rintro J w3⟨rfl,a0⟩;have u:=Z4 (Y6 HX) a0;have f0:=K0 u 0;have f1:=K0 u 1;have f2:=K0 u 2;obtain⟨z0,z1,z2⟩:w3.cell? (aD (zS w) 0)=some (I O 0)/\w3.cell? (aD (zS w) 1)=some (I O 0)/\w3.cell? (aD (zS w) 2)=some (I O 0):=⟨by rw[X9 u];rfl,by rw[X9 u];rfl,by rw[X9 u];rfl⟩;obtain⟨a7,a4⟩:=Xt6 u (E.trans (((Z2 (J9 _ w1)).trans a0).mono E.size));clear u a0 a2;go_wp2_with fail
  refine Pw (g:=zS w) (cs:= #[I O t0,I O t1,I O t2]) Q6 Q6 (Z0 (Z0 (Z0 a7 0 _) 1 _) 2 _) rfl ?_;refine⟨?_,((a4.setCell Q2 _).setCell Q2 _).setCell Q2 _⟩;unfold AX;rw[a1.out,X0 rfl,HT.out]
  rfl
theorem Jr5{L1 L2}(h:E5 L1 L2)p:XT p (L1++L2)=H9 1 p L1:=by
 have j:XT p (L1++L2)=QL (KP p) (L1++L2):=by unfold XT;rw[Pn];omega
 have u:QL (KP p) L2=0:=Sq fun o i=>by unfold KP;rw[J8 (by have:=h.s2 o i;omega)]
 have y:QL (KP p) L1=H9 1 p L1:=Po fun o i=>by
  have:=h.s1 o i;unfold KP VQ
  by_cases hk:o.kind=2<;>by_cases hp:p<=o.price<;>simp[this,hk,hp]
 rw[j,Bq,u,y];omega
theorem Jr6{L1 L2}(h:E5 L1 L2)p:XW p (L1++L2)=H9 2 p L2:=by
 have j:XW p (L1++L2)=QL (KR p) (L1++L2):=by unfold XW;rw[Pn];omega
 have u:QL (KR p) L1=0:=Sq fun o i=>by unfold KR;rw[J8 (by have:=h.s1 o i;omega)]
 have y:QL (KR p) L2=H9 2 p L2:=Po fun o i=>by
  have:=h.s2 o i;unfold KR VQ
  by_cases hk:o.kind=2<;>by_cases hp:o.price<=p<;>simp[this,hk,hp]
 rw[j,Bq,u,y];omega
theorem Qy4{L1 L2}(h:E5 L1 L2):MS (L1++L2):=fun o i=>by
 have h1:=EH h o i;unfold XE;rw[V7 h1.2.1.1,V7 h1.2.1.2];obtain e|e:=h1.1
 ·rw[e];rfl
 rw[e];rfl
theorem Mo{L1 L2}(h:E5 L1 L2){more}(j:1<=more/\more<=1000000):∀y∈QJ (L1++L2) more,1<=y.1/\y.1<=1000000:=by
 intro y C;obtain⟨q,i,rfl⟩:=Y4.1 C;have i:=(Fl _ _).1 i;show 1<=q/\q<=1000000;unfold R8 at i;obtain i|i:=B8.1 i
 ·rw[X0 j.1]at i
  simp at i;omega
 obtain⟨o,u,rfl⟩:=Y4.1 i;have h1:=(S4.1 (S4.1 u).1).1;exact(h.ok o h1).2.2.1
theorem Qf{m}(h:E5 m.L1 m.L2)(i:1<=m.la/\m.la<=1000000)(C:0<(M5 m).2.1):(M5 m).2.1<=H9 1 (M5 m).1 m.L1/\(M5 m).2.1<=H9 2 (M5 m).1 m.L2/\1<=(M5 m).1/\(M5 m).1<=1000000:=by
 have u:=(Jn5 (Qy4 h) i.1 m.la).2 C;have h1:=u.1;rw[Jr5 h,Jr6 h]at h1;have h2:(M5 m).2.1=min (H9 1 (M5 m).1 m.L1) (H9 2 (M5 m).1 m.L2):=h1;refine⟨Q0,Q0,?_⟩;rcases choose_spec (QJ (P1 m) m.la) m.la with⟨e,-⟩|⟨y,D,e,-,-⟩
 ·have:(M5 m).2.1=0:=by unfold M5;rw[e]
  omega
 have j:(M5 m).1=y.1:=by unfold M5;rw[e]
 rw[j];exact Mo h i y D
def M0(L:List X6):List X6:=L.filter fun o=>o.kind ==1
theorem Vs{L o}(h:o.kind=1):M0 (L++[o])=M0 L++[o]:=by unfold M0;rw[JE,RX (by simp[h])];rfl
theorem Vt{L o}(h:o.kind≠1):M0 (L++[o])=M0 L:=by unfold M0;rw[JE,ED (by simpa using h)];simp
theorem Kw{L o}(h:o∈M0 L):o∈L:=(S4.1 h).1
def BY(l:List X6)(k:Nat):List X6:=M0 (l.take k)++l.drop k
theorem Te l:BY l 0=l:=by unfold BY;rw[List.take_zero,Xs];rfl
theorem Qc0{l k}(h:l.length<=k):BY l k=M0 l:=by unfold BY;rw[M4 h,GH h,BF]
theorem Qc1{l k}(hk:k<l.length)(h:l[k].kind=1):BY l (k+1)=BY l k:=by unfold BY;rw[M9 hk,Vs h,CZ hk];simp
theorem Qf7{l k}(hk:k<l.length)(h:l[k].kind≠1)(D:(l.map (·.id)).Nodup):L9 (BY l k) l[k].id=BY l (k+1)/\l[k]∈BY l k:=by
 have i:=CZ hk;have e:l=l.take k++l[k]::l.drop (k+1):=by rw[<-i,P9]
 have j:((l.take k++l[k]::l.drop (k+1)).map (·.id)).Nodup:=by rw[<-e];exact D
 rw[L6,T2,BE,UX]at j;refine⟨?_,JJ _ (by rw[i];exact FR)⟩;unfold BY;rw[M9 hk,Vt h,i];unfold L9;rw[JE,ED Q3,VT.2 (fun y u=>?_),VT.2 (fun y u=>?_)]
 ·have:y.id≠l[k].id:=fun C=>j.2.1.1 (by rw[<-C];exact Y4.2 ⟨y,u,rfl⟩)
  simpa using this
 have:=j.2.2 _ (Y4.2 ⟨y,Kw u,rfl⟩) _ (FR);simpa using this
section
variable {m:Z6}
theorem Cj m o:(S3 m o).L1.length+(S3 m o).L2.length<=m.L1.length+m.L2.length+1:=by
 show(MW 1 m.L1 m.L2 m.L1 o).length+(MW 2 m.L1 m.L2 m.L2 o).length<=_;unfold MW QD
 split
 ·by_cases h1:o.side=1
  ·rw[X0 h1,J8 Q0,Lx];omega
  rw[J8 h1]
  split
  ·rw[Lx];omega
  omega
 omega
theorem Hk:∀(l:List X6)(m:Z6),(N7 m l).L1.length+(N7 m l).L2.length<=m.L1.length+m.L2.length+l.length
 | [],m=>by simp[N7]
 |o::l,m=>by have h1:=Hk l (S3 m o);have h2:=Cj m o;have e:N7 m (o::l)=N7 (S3 m o) l:=rfl;rw[e,JA];omega
theorem MZ:∀(l:List X6)(m:Z6),(N7 m l).rows=m.rows/\(N7 m l).st=m.st/\(N7 m l).dy=m.dy/\(N7 m l).tk=m.tk/\(N7 m l).mo=m.mo/\(N7 m l).an=m.an/\(N7 m l).la=m.la/\(N7 m l).pk=m.pk/\(N7 m l).ids=m.ids/\(N7 m l).ph=m.ph/\(N7 m l).now=m.now/\(N7 m l).ends=m.ends/\(N7 m l).lng=m.lng
 | [],m=>⟨rfl,rfl,rfl,rfl,rfl,rfl,rfl,rfl,rfl,rfl,rfl,rfl,rfl⟩
 |o::l,m=>MZ l (S3 m o)
theorem Lm:∀(L:List X6)(a:Int),(Y3 L a).length<=L.length
 | [],a=>by simp[Y3]
 |o::t,a=>by
  unfold Y3
  split
  ·exact X3 _
  split
  ·have:=Lm t (a-o.qty)
   rw[JA];omega
  simp
theorem Mp m L:(EU m L).length<=L.length:=by
 unfold EU;refine U4 (NF _ _) ?_
 split
 ·exact Lm _ _
 exact X3 _
theorem Qs6 x n:(FC x n).length<=1:=by unfold FC;split<;>simp
theorem Bi{σ:Type}(al:σ->Int->Bool)(tr:σ->Int->σ):∀(L:List X6)(o:X6)(s:σ),(A4 al tr L o s).rest.length<=L.length
 | [],o,s=>by simp[A4]
 |x::t,o,s=>by
  unfold A4
  split
  ·exact X3 _
  split
  ·have:=Bi al tr t o s
   simp only[List.length_cons];omega
  split
  ·exact X3 _
  split
  ·exact X3 _
  have h1:=Bi al tr t (D9 o (min o.qty x.qty)) (tr s x.price);have h2:=Qs6 x (min o.qty x.qty);simp only[List.length_append,List.length_cons];omega
theorem Bs(al:Int->Int->Bool):∀(L:List X6)(o:X6)(s:Int),(∀x∈L,1<=x.price/\x.price<=1000000)->1<=s/\s<=1000000->1<=(A4 al (fun _ p=>p) L o s).st/\(A4 al (fun _ p=>p) L o s).st<=1000000
 | [],o,s,_,h=>by simpa [A4]using h
 |x::t,o,s,hL,h=>by
  have ht:∀y∈t,1<=y.price/\y.price<=1000000:=fun y hy=>hL y (VS _ hy)
  unfold A4
  split
  ·exact h
  split
  ·exact Bs al t o s ht h
  split
  ·exact h
  split
  ·exact h
  exact Bs al t _ _ ht (hL x FR)
theorem Mq L k:(QM L k).length<=L.length:=by unfold QM;rw[B6,R7,UQ];omega
theorem Qc2{L k o}(h:o∈QM L k):o∈L:=by
 unfold QM at h;obtain h|h:=B8.1 h
 ·exact CV h
 exact FP h
theorem D5.unc(h:D5 m)(i:E5 (ZD m).L1 (ZD m).L2):D5 (ZD m):=by
 have hp:∀p,1<=p/\p<=1000000->1<=S8 m p/\S8 m p<=1000000:=fun p hp=>by
  unfold S8
  split
  ·rename_i j
   have:=Qf h.ls h.la j;exact⟨this.2.2.1,this.2.2.2⟩
  exact hp
 refine⟨h.tab,h.st,h.dy,h.tk,h.mo,hp _ h.an,hp _ h.la,i,h.pk,?_,h.lng⟩;have h1:=Mp m m.L1;have h2:=Mp m m.L2;have:=h.cnt;show(EU m m.L1).length+(EU m m.L2).length+m.pk.length<=100;omega
theorem D5.close(h:D5 m)(N:E5 (VB m).L1 (VB m).L2):D5 (VB m):=by
 obtain⟨i,u,y,C,D,E,J,e8,e9,a0,a1,a2,j⟩:=MZ m.pk {m with ph:=5};refine⟨?_,?_,?_,?_,?_,?_,?_,N,fun o Z=>(by cases Z),?_,?_⟩
 ·show KH (N7 {m with ph:=5} m.pk).rows;rw[i];exact h.tab
 ·show 0<=(N7 {m with ph:=5} m.pk).st/\(N7 {m with ph:=5} m.pk).st<=10000;rw[u];exact h.st
 ·show 0<=(N7 {m with ph:=5} m.pk).dy/\(N7 {m with ph:=5} m.pk).dy<=10000;rw[y];exact h.dy
 ·show 1<=(N7 {m with ph:=5} m.pk).tk/\(N7 {m with ph:=5} m.pk).tk<=1000000;rw[C];exact h.tk
 ·show 0<=(N7 {m with ph:=5} m.pk).mo/\(N7 {m with ph:=5} m.pk).mo<=10;rw[D];exact h.mo
 ·show 1<=(N7 {m with ph:=5} m.pk).an/\(N7 {m with ph:=5} m.pk).an<=1000000;rw[E];exact h.an
 ·show 1<=(N7 {m with ph:=5} m.pk).la/\(N7 {m with ph:=5} m.pk).la<=1000000;rw[J];exact h.la
 ·have h1:=Hk m.pk {m with ph:=5}
  have h2:=h.cnt;show(N7 {m with ph:=5} m.pk).L1.length+(N7 {m with ph:=5} m.pk).L2.length+0<=100;have e:(({m with ph:=5}:Z6).L1.length+({m with ph:=5}:Z6).L2.length)=m.L1.length+m.L2.length:=rfl;omega
 show 0<=(N7 {m with ph:=5} m.pk).lng/\(N7 {m with ph:=5} m.pk).lng<=10;rw[j];exact h.lng
theorem D5.setPh(h:D5 m)p:D5 {m with ph:=p}:=⟨h.tab,h.st,h.dy,h.tk,h.mo,h.an,h.la,h.ls,h.pk,h.cnt,h.lng⟩
theorem D5.vol(h:D5 m):D5 (BU m):=⟨h.tab,h.st,h.dy,h.tk,h.mo,h.an,h.la,h.ls,h.pk,h.cnt,⟨by show(0:Int)<=0;omega,by show(0:Int)<=10;omega⟩⟩
theorem D5.next(h:D5 m):D5 (V2 m):=⟨h.tab,h.st,h.dy,h.tk,h.mo,h.an,h.la,h.ls,h.pk,h.cnt,h.lng⟩
theorem D5.over(h:D5 m):D5 (CX m):=⟨h.tab,h.st,h.dy,h.tk,h.mo,h.an,h.la,⟨TJ,by simp[CX],fun o i=>(by cases i),fun o i=>(by cases i),fun o i=>(by cases i)⟩,fun o i=>(by cases i),by simp[CX],h.lng⟩
theorem D5.halt(h:D5 m):D5 (JN m):=by
 unfold JN
 split
 ·exact h
 exact h.setPh 6
theorem D5.open_(h:D5 m)(i:E5 (QK m).L1 (QK m).L2):D5 (QK m):=by
 unfold QK at i|-
 by_cases y:m.ph=6
 ·rw[X0 y]at i|-
  by_cases j:L5 m m.now=3
  ·rw[X0 j];exact h.vol
  rw[J8 j]at i|-
  by_cases u:L5 m m.now=5
  ·rw[X0 u]at i|-;exact h.close i
  rw[J8 u];exact h.setPh _
 rw[J8 y];exact h
theorem D5.enter(h:D5 m)p(i:E5 (XM m p).L1 (XM m p).L2):D5 (XM m p):=by
 unfold XM at i|-
 by_cases j:p=3
 ·rw[X0 j]at i|-;exact(h.unc i).setPh 3
 rw[J8 j]at i|-
 by_cases u:p=5
 ·rw[X0 u]at i|-;exact h.close i
 rw[J8 u];exact h.setPh _
theorem D5.settle(h:D5 m)(i:E5 (JB m).L1 (JB m).L2):D5 (JB m):=by
 unfold JB at i|-
 by_cases j:DN m
 ·rw[X0 j]at i|-;exact(h.unc i).setPh 3
 rw[J8 j]at i|-
 by_cases u:m.lng<m.mo
 ·rw[X0 u]
  exact⟨h.tab,h.st,h.dy,h.tk,h.mo,h.an,h.la,h.ls,h.pk,h.cnt,⟨by have:=h.lng;show 0<=m.lng+1;omega,by have:=h.mo;show m.lng+1<=10;omega⟩⟩
 rw[J8 u];exact h.setPh _
theorem D5.tick(h:D5 m)(j:E5 (G9 m).L1 (G9 m).L2):D5 (G9 m):=by
 unfold G9 at j|-
 by_cases Z:m.ph=7
 ·rw[X0 Z];exact h
 rw[J8 Z]at j|-;have i:=h.next;unfold QR at j|-
 by_cases J:L5 (V2 m) (V2 m).now=7
 ·rw[X0 J]
  by_cases D:(V2 m).ph=5
  ·rw[X0 D]
   exact⟨h.tab,h.st,h.dy,h.tk,h.mo,by
    have:∀p,1<=p/\p<=1000000->1<=S8 (V2 m) p/\S8 (V2 m) p<=1000000:=fun p hp=>by
     unfold S8
     split
     ·rename_i y
      have:=Qf i.ls i.la y;exact⟨this.2.2.1,this.2.2.2⟩
     exact hp
    exact this _ i.an,by
    have:∀p,1<=p/\p<=1000000->1<=S8 (V2 m) p/\S8 (V2 m) p<=1000000:=fun p hp=>by
     unfold S8
     split
     ·rename_i y
      have:=Qf i.ls i.la y;exact⟨this.2.2.1,this.2.2.2⟩
     exact hp
    exact this _ i.la,⟨TJ,by simp[CX],fun o u=>(by cases u),fun o u=>(by cases u),fun o u=>(by cases u)⟩,fun o u=>(by cases u),by simp[CX],h.lng⟩
  rw[J8 D];exact i.over
 rw[J8 J]at j|-
 by_cases E:(V2 m).ph=6
 ·rw[X0 E];exact i
 rw[J8 E]at j|-
 by_cases N:L5 m m.now≠L5 (V2 m) (V2 m).now
 ·rw[X0 N]at j|-;exact i.enter _ j
 rw[J8 N]at j|-
 by_cases C:(V2 m).ph=4/\(V2 m).ends<=(V2 m).now
 ·rw[X0 C]at j|-;exact i.settle j
 rw[J8 C];exact i
theorem D5.cancel(h:D5 m)id(i:E5 (N3 m id).L1 (N3 m id).L2):D5 (N3 m id):=by
 unfold N3 at i|-
 by_cases j:m.ph=7
 ·rw[X0 j];exact h
 rw[J8 j]at i|-
 by_cases hk:FD m id=true
 ·rw[X0 hk]at i|-
  refine⟨h.tab,h.st,h.dy,h.tk,h.mo,h.an,h.la,h.ls,fun o u=>h.pk o (Qc2 u),?_,h.lng⟩;have h1:=Mq m.pk (m.pk.findIdx fun o=>o.id ==id);have:=h.cnt;show m.L1.length+m.L2.length+(QM m.pk (m.pk.findIdx fun o=>o.id ==id)).length<=100;omega
 rw[J8 hk]at i|-;refine⟨h.tab,h.st,h.dy,h.tk,h.mo,h.an,h.la,i,h.pk,?_,h.lng⟩;have h1:(L9 m.L1 id).length<=m.L1.length:=NF _ _;have h2:(L9 m.L2 id).length<=m.L2.length:=NF _ _;have:=h.cnt;show(L9 m.L1 id).length+(L9 m.L2 id).length+m.pk.length<=100;omega
theorem Bt{o}(h:P3 m o=0):NA o=false/\KS o=true/\YC m.ph o.kind=true/\o.id∉m.ids/\m.L1.length+m.L2.length+m.pk.length<100:=by
 unfold P3 at h
 by_cases h1:NA o=true
 ·rw[X0 h1]at h;cases h
 rw[J8 h1]at h
 by_cases h2:KS o=false
 ·rw[X0 h2]at h;cases h
 rw[J8 h2]at h
 by_cases i:YC m.ph o.kind=false
 ·rw[X0 i]at h;cases h
 rw[J8 i]at h
 by_cases j:o.id∈m.ids
 ·rw[X0 j]at h;cases h
 rw[J8 j]at h
 by_cases u:100<=m.L1.length+m.L2.length+m.pk.length
 ·rw[X0 u]at h;cases h
 exact⟨by simpa using h1,by simpa using h2,by simpa using i,j,Q0⟩
theorem Di{o}(j:JV o)(u:NA o=false)(y:KS o=true):KG (U6 o)/\V5 (U6 o).side/\1<=o.kind/\o.kind<=4:=by
 have C:¬(o.side≠1/\o.side≠2\/o.kind<1\/4<o.kind\/o.id<1):=by unfold NA at u;exact of_decide_eq_false u
 have i:=RD.1 y;refine⟨⟨⟨j.1,j.2.1,j.2.2.1,?_,j.2.2.2.2⟩,by show 1<=o.id;omega,⟨i.1,i.2.1⟩,i.2.2⟩,?_,Q0,Q0⟩
 ·have:=i.1
  have:=i.2.1;unfold V3;omega
 show o.side=1\/o.side=2;omega
theorem D5.order(h:D5 m){o}(hf:JV o)(i:E5 (M8 m o).L1 (M8 m o).L2):D5 (M8 m o):=by
 unfold M8 at i|-
 by_cases E:P3 m o=0
 ·rw[X0 E]at i|-
  obtain⟨h1,h2,h3,h4,h5⟩:=Bt E;obtain⟨p1,N,p3,p4⟩:=Di hf h1 h2;unfold UR at i|-
  by_cases hp:(U6 o).kind=4/\(B7 m (U6 o)).ph≠5
  ·rw[X0 hp]
   refine⟨h.tab,h.st,h.dy,h.tk,h.mo,h.an,h.la,h.ls,fun x j=>?_,?_,h.lng⟩
   ·obtain j|j:=B8.1 j
    ·exact h.pk x j
    rw[UN]at j;subst j;exact⟨p1,N⟩
   show m.L1.length+m.L2.length+(m.pk++[U6 o]).length<=100;rw[B6,SN];omega
  rw[J8 hp]at i|-;have c7:=Cj (B7 m (U6 o)) (U6 o)
  by_cases D:(B7 m (U6 o)).ph≠3
  ·rw[X0 D]at i|-
   refine⟨h.tab,h.st,h.dy,h.tk,h.mo,h.an,h.la,i,h.pk,?_,h.lng⟩;show(S3 (B7 m (U6 o)) (U6 o)).L1.length+(S3 (B7 m (U6 o)) (U6 o)).L2.length+m.pk.length<=100;have e:(B7 m (U6 o)).L1.length+(B7 m (U6 o)).L2.length=m.L1.length+m.L2.length:=rfl;omega
  rw[J8 D]at i|-;obtain⟨M,C⟩:=exq (B7 m (U6 o));have u:D5 M:=by rw[<-C];exact⟨h.tab,h.st,h.dy,h.tk,h.mo,h.an,h.la,h.ls,h.pk,h.cnt,h.lng⟩
  have d0:M.L1.length+M.L2.length+M.pk.length<100:=by rw[<-C];exact h5
  rw[C]at i|-;clear C D hp c7;obtain⟨q,hq⟩:=exq (U6 o);rw[hq]at i p1 N|-;have c8:∀x∈V1 (3-q.side) M.L1 M.L2,1<=x.price/\x.price<=1000000:=fun x j=>by
   have:x∈M.L1++M.L2:=by
    unfold V1 at j
    split at j
    ·exact T9 _ j
    exact JJ _ j
   exact(u.ls.ok x this).2.2.1
  have c5:=Bs (fun la p=>YA M.st M.dy M.an la p) (V1 (3-q.side) M.L1 M.L2) q M.la c8 u.la;have c6:=Bi (fun la p=>YA M.st M.dy M.an la p) (fun _ p=>p) (V1 (3-q.side) M.L1 M.L2) q M.la;have c1:(VC M q).L1.length+(VC M q).L2.length<=M.L1.length+M.L2.length:=by
   show(if q.side=1 then M.L1 else(S6 M q).rest).length+(if q.side=1 then(S6 M q).rest else M.L2).length<=_;have J:(S6 M q).rest.length<=(V1 (3-q.side) M.L1 M.L2).length:=c6;unfold V1 at J
   by_cases y:q.side=1
   ·rw[X0 y,X0 y]
    rw[J8 Q0]at J;omega
   rw[J8 y,J8 y];have d1:q.side=2:=N.resolve_left y;rw[X0 Q0]at J;omega
  have c2:(T5 M q).L1.length+(T5 M q).L2.length<=M.L1.length+M.L2.length+1:=by
   unfold T5
   split
   ·have:=Cj (VC M q) (S6 M q).left
    omega
   omega
  have hk:∀{K},K.rows=M.rows->K.st=M.st->K.dy=M.dy->K.tk=M.tk->K.mo=M.mo->K.an=M.an->K.la=(S6 M q).st->K.pk=M.pk->0<=K.lng/\K.lng<=10->E5 K.L1 K.L2->K.L1.length+K.L2.length<=M.L1.length+M.L2.length+1->D5 K:=by intro K a1 a2 a3 a4 a5 a6 a7 Z a9 b0 c9;refine⟨a1▸u.tab,a2▸u.st,a3▸u.dy,a4▸u.tk,a5▸u.mo,a6▸u.an,a7▸c5,b0,Z▸u.pk,?_,a9⟩;rw[Z];omega
  have m2:(T5 M q).rows=M.rows/\(T5 M q).st=M.st/\(T5 M q).dy=M.dy/\(T5 M q).tk=M.tk/\(T5 M q).mo=M.mo/\(T5 M q).an=M.an/\(T5 M q).la=(S6 M q).st/\(T5 M q).pk=M.pk/\(T5 M q).lng=M.lng:=by
   unfold T5
   split<;>exact⟨rfl,rfl,rfl,rfl,rfl,rfl,rfl,rfl,rfl⟩
  obtain⟨b1,b2,b3,b4,b5,b6,b7,b8,b9⟩:=m2;unfold XP at i|-
  by_cases a0:(S6 M q).stop=true
  ·rw[X0 a0]at i|-
   exact hk b1 b2 b3 b4 b5 b6 b7 b8 ⟨by show(0:Int)<=0;omega,by show(0:Int)<=10;omega⟩ i c2
  rw[J8 a0]at i|-;exact hk b1 b2 b3 b4 b5 b6 b7 b8 (b9▸u.lng) i c2
 rw[J8 E];exact h
end
theorem D8.lists{w e F m}(h:D8 w e F m):E5 m.L1 m.L2:=by obtain⟨cs,tb,bb,bk,im,T,tc,Al,lc,lv,bu,se,Ap,pc,es,mc,G,own,i,j⟩:=h;exact i.book.lists
