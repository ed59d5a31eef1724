/- Parts. -/
import Derived.Test.YtfoikonjjojkaaaGreatDoorZt22
set_option linter.unusedVariables false
set_option maxRecDepth 100000
set_option maxHeartbeats 8000000
open Go.Proofs.Tryz
open Go.Value renaming int→I,pointer→IP
open Go.IntKind renaming i64→O
namespace Go.Proofs.YtfoikonjjojkaaaGreatDoor
section
open Go Go.RowKit
def AP(n:Int):Ending:=.panicked [{v:=.iface 62 (.agg #[I O n]),recovered:=false}]
def Gd(n:Int):Ending:=if n=0 then .returned (.tuple #[])else AP n
theorem Yd w:Calls prog 23 #[.nilIface] w fun e w'=>e=.returned (.tuple #[])/\Bz w w':=by
 go_enter func23,ntmps23
 go_wp2
 go_end0
 exact⟨rfl,J9 _ _⟩
theorem TA n w(u:QH w):Calls prog 23 #[.iface 52 (I O n)] w fun e w'=>e=AP n/\Bz w w':=by
 have i:=J6 u.err;go_enter func23,ntmps23
 go_wp2_with (go_at_call 65;refine(Jb7 n _ i).mono ?_;rintro e w1⟨rfl,j⟩)
 exact⟨rfl,rfl,j⟩
theorem Xl2 g n w(y:QH w)(u:w.cell? (aD g 0)=some (I O n)):Calls prog 23 #[.iface 287 (pA g)] w fun e w'=>e=AP n/\Bz w w':=by
 have i:=J6 y.err;go_enter func23,ntmps23
 go_wp2_with (go_at_call 65;refine(Xh7 g n _ i u).mono ?_;rintro e w1⟨rfl,j⟩)
 exact⟨rfl,rfl,j⟩
theorem Xf2 n w(i:QH w):Calls prog 23 #[Y9 n] w fun e w'=>e=Gd n/\Bz w w':=by
 unfold Y9 Gd
 by_cases h:n=0
 ·rw[X0 h,X0 h];exact Yd w
 rw[J8 h,J8 h];exact TA n w i
theorem Xl3 v n pl w(i:QH w)(h:Ja w v n pl)(j:n≠0):Calls prog 23 #[v] w fun e w'=>e=AP n/\Bz w w':=by
 rcases h with⟨rfl,rfl,rfl⟩|⟨rfl,rfl⟩|⟨g,rfl,h2,u⟩
 ·exact absurd rfl j
 ·exact TA n w i
 exact Xl2 g n w i h2
theorem Ye:(prog.info? 9).map (fun i=>(i.zero,i.size,i.bytes))=some (some (.string ⟨#[]⟩),1,16):=Q4
theorem Tm:(prog.info? 3).map (fun i=>(i.zero,i.size,i.bytes))=some (some (I O 0),1,8):=Q4
def QB(w:World)(A:Option Addr)(vs:List Value):Prop:=∀j v,vs[j]?=some v->∃b o,A=some (aD b o)/\w.cell? (aD b (o+j))=some v
theorem QB.below{w w' A vs}(h:QB w A vs)(i:Bz w w'):QB w' A vs:=fun j v u=>by obtain⟨b,o,h1,h2⟩:=h j v u;exact⟨b,o,h1,(i.cell (p:=(aD b (o+j))) (U5 w _ h2)).trans h2⟩
theorem QB.of_row{w A n c t vs}(h:X8 w A n c t 1 vs):QB w A vs:=fun j v i=>by obtain⟨g,h1,h2⟩:=h.cell i;exact⟨g,0,h1,by rw[KC];exact h2⟩
theorem QB.of_blk{w g t cs}(h:J7 w g t cs):QB w (sA g) cs.toList:=fun j v i=>⟨g,0,rfl,by rw[KC,X9 h];simpa using i⟩
abbrev MJ:=@QB.of_blk
def YL(n:Int):Value:=I O n
def WY(n:Int):ByteArray:=⟨(Lib.itoa n).toArray⟩
theorem Ff{k:Nat}:∀{xs:List (List UInt8)},(∀x∈xs,x.length<=k)->Lib.lens xs<=xs.length*k
 | [],_=>U9 _
 |x::xs,h=>by have h1:=h x FR;have h2:=Ff (xs:=xs) (fun y hy=>h y (VS _ hy));rw[show Lib.lens (x::xs)=x.length+Lib.lens xs by simp[Lib.lens],JA,MX];omega
theorem Fg{k xs}i(h:∀x∈xs,x.length<=k):(Lib.join xs i).length<=xs.length*(k+i.length):=by
 cases xs with
 |nil=>simp[Lib.join_nil]
 |cons x r=>
  have h1:=Ff h;rw[Lib.join_length,Nat.mul_add];have h2:i.length*r.length<=(x::r).length*i.length:=by rw[Nat.mul_comm];exact GM _ Q3
  omega
theorem PZ{l}(h:∀v∈l,V3 v):(N8 l).length<=l.length*22:=by
 have h1:=Fg (k:=21) (xs:=l.map Lib.itoa) [32] (fun x j=>by obtain⟨v,i,rfl⟩:=Y4.1 j;exact Xi v (h v i).1 (h v i).2)
 rw[UJ]at h1;exact h1
theorem LB fn(d1:fn=97\/fn=14)A n0 c l w(J:QH w)(d5:12<=w.heap.size)(hC:QB w A (l.map YL))(a7:l.length=n0)(hf:∀v∈l,V3 v)(hn:n0<=100000):Calls prog fn #[.slice A n0 c] w fun e w'=>e=.returned (.string ⟨(N8 l).toArray⟩)/\Bz w w':=by
 obtain⟨HG,HC,HF,Z⟩:=Xt8 J hC hf a7;obtain⟨i0,d2,d6,d7,d8⟩:=W8 Ye;clear J hC hf a7;obtain rfl|rfl:=d1
 all_goals
  first
   |go_enter func97,ntmps97
   |go_enter func14,ntmps14
  go_wp2_with fail
  go_loopg [8,3] n0 (fun gg s8 s3 wx=>∃k C j,k<=n0/\gg=n0-k/\s8=I O k/\s3=.slice j k C/\Bz w wx/\X8 wx j k C 9 1 (((l.take k).map WY).map Value.string)/\∀g,X5 j=some g->w.heap.size<=g)
  case atStart=>exact⟨0,0,none,U9 _,rfl,rfl,rfl,J9 _ _,QY _ _ _ _,by simp[X5]⟩
  obtain⟨k,C,j,hk,rfl,rfl,rfl,hB,u,b0⟩:=hrel;obtain⟨i,HR,a2⟩:=Xt7 hB u b0;clear hB u b0
  by_cases e2:k<n0
  ·have d4:(k:Int)<(n0:Int):=by omega
   have e1:(0:Int)<=(k:Int):=Q0;have a0:k<l.length:=by have:=Z.out;omega
   obtain⟨x,HX⟩:∃x,Hid (l[k]=x):=⟨_,J6 rfl⟩;have a3:(l.map YL)[k]?=some (YL x):=by rw[GP,JY a0,HX.out];rfl
   obtain⟨b,o,hA,hc⟩:=HC.out k _ a3;have b1:=HF.out x (by rw[<-HX.out];exact C7 a0);have d9:wr.cell? ⟨b,o+k,none⟩=some (I O x):=(i.cell (p:=⟨b,o+k,none⟩) (U5 w _ hc)).trans hc;obtain⟨c8,b5⟩:=Xt6 (show(l.take (k+1))=l.take k++[x] by rw[M9 a0,HX.out]) (HG.below i d5);have HI:=J6 (Zl x b1 wr b5);subst hA;clear hc a3 b1;go_wp2_with (first
    |(go_at_call 19;refine HI.mono ?_;rintro e w1⟨rfl,D⟩;have a1:=J6 D;have c7:=J6 (CC (CC HR D) ((J9 w1.heap.size w1).alloc Q2 (.cells #[.string ⟨(Lib.itoa x).toArray⟩] 9)));have c5:=J6 (QN w1 (.cells #[.string ⟨(Lib.itoa x).toArray⟩] 9));clear D)
    |(at_builtin;(refine VZ _ rfl _ _ 43 rfl 0 9 i0 _ 1 16 underlying43 d2 d6 d7 d8 rfl Q0 (.slice j k C) k _ rfl c7 ⟨w1.heap.size,0,none⟩ 1 1 [.string ⟨(Lib.itoa x).toArray⟩] rfl rfl (XF (cs:= #[.string ⟨(Lib.itoa x).toArray⟩]) (t:=9) (fr:=(0,0)) c5) J0 Q0 Q9 Q0 Q3 (w1.heap.size+1) Q3 ?_);intro gg cap w3 a8 a5 E e3;have c6:=J6 a8;have b8:=J6 a5;have b2:=J6 E;clear a8 a5 E))
   go_roundg (n0-(k+1))
   case measure=>omega
   have a4:=b8.out;rw[C8]at a4;have E:=b2.out;rw[C8]at E;have e4:=i.size;have e5:=a1.size;have d0:Bz w w3:=(((i.trans (a1.mono i.size)).alloc Q0 (.cells #[.string ⟨(Lib.itoa x).toArray⟩] 9))).grown a4 Q7 (fun y hy=>by have:=a2.out y hy;omega);refine⟨k+1,cap,some ⟨gg,0,none⟩,Q0,rfl,J5,rfl,d0,?_,fun g J=>?_⟩
   ·rw[c8.out,L6,L6]
    exact c6
   cases J;obtain h1|h1:=E
   ·exact a2 _ h1
   show w.heap.size<=gg;omega
  have d3:k=n0:=by omega
  subst d3;have d4:¬(k:Int)<(k:Int):=Q0;have a9:l.take k=l:=M4 (by have:=Z.out;omega);have N:=Z.out;have u:=HR.out;rw[a9]at u;have a6:(Lib.join ((l.map WY).map (·.data.toList)) [32]).length<=140737488355328:=by
   have h1:=PZ HF;have h2:(l.map WY).map (·.data.toList)=l.map Lib.itoa:=by rw[YT];exact UM fun v _=>by simp[WY]
   rw[h2];unfold N8 at h1;omega
  have HJ:=J6 (Fx j C (l.map WY) ⟨#[32]⟩ wr (by rw[UJ,N];exact u) a6 (by rw[UJ,N];omega));have hJ:=HJ.out;rw[UJ,N]at hJ;have b9:=J6 hJ;clear hJ HJ a6 u a9 N;go_wp2_with (go_at_call 40;refine b9.mono ?_;rintro e w1⟨rfl,D⟩)
  go_ret;refine⟨?_,i.trans (D.mono i.size)⟩;have h2:List.map ((fun x:ByteArray=>x.data.toList)∘WY) l=l.map Lib.itoa:=UM fun v _=>by simp[WY]
  rw[h2]
  rfl
structure JU(m:Z6)(k:Nat):Prop where
 ok:D5 m
 now:0<=m.now/\m.now<=k
 ph:1<=m.ph/\m.ph<=7
section
variable {m:Z6} {k:Nat}
theorem JU.in_(h:JU m k)(hk:k<=1000000):BJ m:=h.ok.in_ ⟨h.now.1,by have:=h.now.2;omega⟩
theorem JU.next(h:JU m k)(hk:k<=1000000):BJ (V2 m):=h.ok.next.in_ ⟨by have:=h.now.1;show 0<=m.now+1;omega,by have:=h.now.2;show m.now+1<=1000000000000;omega⟩
theorem JU.up(h:JU m k):JU m (k+1):=⟨h.ok,⟨h.now.1,by have:=h.now.2;omega⟩,h.ph⟩
theorem JU.order(h:JU m k){o}(j:JV o)(u:E5 (M8 m o).L1 (M8 m o).L2):JU (M8 m o) (k+1):=by obtain⟨-,i,hp⟩:=Ck m o;refine⟨h.ok.order j u,⟨by rw[i];exact h.now.1,by rw[i];have:=h.now.2;omega⟩,?_⟩;have:=h.ph;rcases hp with⟨e,-,-⟩|⟨-,e,-,-⟩<;>omega
theorem JU.cancel(h:JU m k)id(j:E5 (N3 m id).L1 (N3 m id).L2):JU (N3 m id) (k+1):=by obtain⟨hp,i,-,-⟩:=Bv m id;exact⟨h.ok.cancel id j,⟨by rw[i];exact h.now.1,by rw[i];have:=h.now.2;omega⟩,by rw[hp];exact h.ph⟩
theorem JU.halt(h:JU m k):JU (JN m) (k+1):=by
 refine⟨h.ok.halt,?_,?_⟩
 ·unfold JN;split<;>exact⟨h.now.1,by have:=h.now.2;show m.now<=_;omega⟩
 have:=h.ph;unfold JN;split
 ·exact this
 show 1<=(6:Int)/\(6:Int)<=7;omega
theorem Qj9{p:Int}(h:p=1\/p=2\/p=3\/p=5\/p=7):1<=p/\p<=7:=Q0
theorem Js8 m:(VB m).now=m.now:=(MZ m.pk {m with ph:=5}).2.2.2.2.2.2.2.2.2.2.1
theorem Xf3 m:(VB m).ph=5:=(MZ m.pk {m with ph:=5}).2.2.2.2.2.2.2.2.2.1
theorem JU.open_(h:JU m k)(j:E5 (QK m).L1 (QK m).L2):JU (QK m) (k+1):=by
 have hp:=Qj9 (Bu h.ok.tab h.now.1);have i:(QK m).now=m.now/\1<=(QK m).ph/\(QK m).ph<=7:=by
  unfold QK
  split
  ·split
   ·exact⟨rfl,by show 1<=(4:Int);omega,by show(4:Int)<=7;omega⟩
   split
   ·rw[Js8,Xf3];omega
   exact⟨rfl,hp⟩
  exact⟨rfl,h.ph⟩
 exact⟨h.ok.open_ j,⟨by rw[i.1];exact h.now.1,by rw[i.1];have:=h.now.2;omega⟩,i.2⟩
theorem JU.tick(h:JU m k)(i:E5 (G9 m).L1 (G9 m).L2):JU (G9 m) (k+1):=by
 have j:=Yb m;have hp:=Qj9 (Bu (m:=V2 m) h.ok.tab (t:=m.now+1) (by have:=h.now.1;omega));have u:1<=(G9 m).ph/\(G9 m).ph<=7:=by
  unfold G9
  split
  ·exact h.ph
  unfold QR
  split
  ·show 1<=(7:Int)/\(7:Int)<=7;omega
  split
  ·exact h.ph
  split
  ·rw[Ej];exact hp
  split
  ·unfold JB
   split
   ·show 1<=(3:Int)/\(3:Int)<=7;omega
   split
   ·exact h.ph
   show 1<=(6:Int)/\(6:Int)<=7;omega
  exact h.ph
 refine⟨h.ok.tick i,?_,u⟩;rw[j];have:=h.now
 split<;>omega
theorem Qg0{ps st dy p tk mo}(h:XR ps st dy p tk mo 0 (-1))k:JU (BA ps st dy p tk mo) k:=
 ⟨Js5 h,by show 0<=(0:Int)/\(0:Int)<=k;omega,by show 1<=(1:Int)/\(1:Int)<=7;omega⟩
def Zv(f:C6):Prop:=V3 f.b/\V3 f.s/\V3 f.p/\V3 f.n
theorem AF{x}(h: -1000000000<=x/\x<=1000000000):V3 x:=(by unfold V3;omega)
theorem Mw(h:D5 m):(1<=(M5 m).1/\(M5 m).1<=1000000\/(M5 m).1=0)/\0<=(M5 m).2.1/\(M5 m).2.1<=100000000/\ -100000000<=(M5 m).2.2/\(M5 m).2.2<=100000000:=by
 have j:=Ec (l:=P1 m) (more:=m.la) h.ls.cnt (fun o u _=>(h.ls.ok o u).2.2.1) h.la.2;unfold M5;rcases choose_spec (QJ (P1 m) m.la) m.la with⟨e,-⟩|⟨y,i,e,h1,-⟩
 ·rw[e];exact⟨.inr rfl,by show(0:Int)<=0;omega,by show(0:Int)<=_;omega,by show _<=(0:Int);omega,by show(0:Int)<=_;omega⟩
 have hp:=Mo h.ls h.la y i;obtain⟨-,-,a,b,c,d⟩:=j y i;rw[e];refine⟨.inl hp,?_,?_,?_,?_⟩
 ·show 0<=Y7 y;omega
 ·show Y7 y<=_;unfold Y7;omega
 ·show _<=y.2.1-y.2.2;omega
 show y.2.1-y.2.2<=_;omega
theorem Tn(h:D5 m):V3 (AX m).1/\V3 (AX m).2.1/\V3 (AX m).2.2:=by
 have i:=Mw h;unfold AX
 split
 ·exact⟨AF Q0,AF Q0,AF Q0⟩
 exact⟨AF (by show _<=(0:Int)/\(0:Int)<=_;omega),AF (by show _<=(0:Int)/\(0:Int)<=_;omega),AF (by show _<=(0:Int)/\(0:Int)<=_;omega)⟩
theorem Qg1{g:C6->Int}:∀{F:List C6},(∀f∈F,1<=g f)->∀f∈F,g f<=QZ g F
 | [],_,f,hf=>by cases hf
 |x::F,h,f,hf=>by
  have h0:0<=QZ g F:=Xd4 fun y hy=>by have:=h y (VS _ hy);omega
  have h1:=h x FR;show g f<=g x+QZ g F;obtain e|e:=H8.1 hf
  ·rw[e];omega
  have:=Qg1 (fun y hy=>h y (VS _ hy)) f e;omega
def Zw(F:List C6):Prop:=(∀f∈F,Zv f)/\F.length<=100000000
theorem ME:Zw []:=⟨fun f i=>(by cases i),Q3⟩
theorem Eo(h:D5 m){F}(i:XD m F):Zw F:=by
 have hw:=Mw h;unfold XD at i
 split at i
 ·rename_i J
  obtain⟨hk,-⟩:=i;have hl:=hk.len;have a0:=(Qf h.ls h.la J).2.2;refine⟨fun f j=>?_,Q0⟩;obtain⟨hp,hn,⟨a,D,y⟩,⟨b,E,C⟩⟩:=hk.one f j;have N:=Qg1 (g:=fun f:C6=>f.n) (fun f j=>(hk.one f j).2.1) f j;have Z:=hk.sum;have fa:=(h.ls.ok a (T9 _ D)).1.1;have u:=(h.ls.ok b (JJ _ E)).1.1;rw[y]at fa;rw[C]at u;have a1:f.n<=QZ (fun f:C6=>f.n) F:=N;have a2:QZ (fun f:C6=>f.n) F=(M5 m).2.1:=Z;exact⟨fa,u,by rw[hp];exact AF Q0,AF Q0⟩
 rw[i];exact ME
theorem Kn(h:D5 m){F}(i:AZ m F):Zw F:=by
 have j:=h.next;unfold AZ at i
 split at i
 ·rw[i];exact ME
 unfold XY at i
 split at i
 ·split at i
  ·exact Eo j i
  rw[i];exact ME
 split at i
 ·rw[i];exact ME
 split at i
 ·unfold UY at i
  split at i
  ·exact Eo j i
  rw[i];exact ME
 split at i
 ·unfold ZN at i
  split at i
  ·exact Eo j i
  rw[i];exact ME
 rw[i];exact ME
theorem Cn(al:Int->Int->Bool)(tr:Int->Int->Int):∀(L:List X6)(o:X6)(s:Int),(∀x∈L,KG x)->V3 o.id->o.qty<=1000000->(∀f∈(A4 al tr L o s).fills,Zv f)/\(A4 al tr L o s).fills.length<=L.length
 | [],o,s,_,_,_=>⟨fun f hf=>(by cases hf),X3 _⟩
 |x::L,o,s,hL,ho,hq=>by
  have hx:=hL x FR;have hL':∀y∈L,KG y:=fun y hy=>hL y (VS _ hy)
  unfold A4
  split
  ·exact⟨fun f hf=>(by cases hf),U9 _⟩
  rename_i h1
  split
  ·obtain⟨a,b⟩:=Cn al tr L o s hL' ho hq
   exact⟨a,Nat.le_succ_of_le b⟩
  split
  ·exact⟨fun f hf=>(by cases hf),U9 _⟩
  split
  ·exact⟨fun f hf=>(by cases hf),U9 _⟩
  obtain⟨a,b⟩:=Cn al tr L (D9 o (min o.qty x.qty)) (tr s x.price) hL' ho (by have:=hx.2.2.2;show o.qty-min o.qty x.qty<=_;omega);refine⟨fun f hf=>?_,Nat.succ_le_succ b⟩;obtain e|e:=H8.1 hf
  ·rw[e]
   have hm:V3 (min o.qty x.qty):=AF (by have:=hx.2.2.2;omega);have hp:V3 x.price:=AF (by have:=hx.2.2.1;omega);unfold CJ
   split
   ·exact⟨hx.1.1,ho,hp,hm⟩
   exact⟨ho,hx.1.1,hp,hm⟩
  exact a f e
theorem Kg(h:D5 m){o}(D:JV o):Zw (ZT m o):=by
 unfold ZT
 split
 ·rename_i C
  obtain⟨y,E,-,-,-⟩:=Bt C;obtain⟨j,N,-,-⟩:=Di D y E;unfold AG
  split
  ·exact ME
  split
  ·exact ME
  unfold S6;have u:∀x∈V1 (3-(U6 o).side) m.L1 m.L2,KG x:=fun x i=>by
   unfold V1 at i
   split at i
   ·exact h.ls.ok x (T9 _ i)
   exact h.ls.ok x (JJ _ i)
  have J:(V1 (3-(U6 o).side) m.L1 m.L2).length<=100:=by
   have:=h.ls.cnt;rw[B6]at this;unfold V1
   split<;>omega
  obtain⟨a,b⟩:=Cn (fun la p=>YA (B7 m (U6 o)).st (B7 m (U6 o)).dy (B7 m (U6 o)).an la p) (fun _ p=>p) _ (U6 o) (B7 m (U6 o)).la u j.1.1 (by have:=j.2.2.2;omega);exact⟨a,U4 b (by show(V1 (3-(U6 o).side) m.L1 m.L2).length<=_;omega)⟩
 exact ME
theorem Qc5{s}(u:V3 s){l}(j:l.length=4)(i:∀v∈l,V3 v):JV (ZQ s l):=by
 obtain⟨a,b,c,d,rfl⟩:∃a b c d,l=[a,b,c,d]:=by
  match l,j with
  | [a,b,c,d],_=>exact⟨a,b,c,d,rfl⟩
 exact⟨i a Q3,u,i b Q3,i c Q3,i d Q3⟩
end
end
section
open Go Go.Lib
def KA(c:UInt8):E9->List E9
 | []=>[[]]
 |x::l=>if x ==c then []::KA c l else match KA c l with
  | []=>[[x]]
  |h::t=>(x::h)::t
theorem Xl4(c:UInt8):∀l:E9,KA c l≠[]
 | []=>by simp[KA]
 |x::l=>by
  unfold KA
  split
  ·simp
  split<;>simp
theorem Rc:∀l:E9,E6 l=KA 10 l
 | []=>rfl
 |x::l=>by
  rw[E6,KA,Rc l]
  split
  ·rfl
  cases KA 10 l<;>rfl
theorem Rd(c:UInt8):∀l:E9,splitK [c] 0 (count l [c]) l=KA c l
 | []=>by rw[count_one];rfl
 |x::l=>by
  have ih:=Rd c l
  by_cases h:x=c
  ·subst h
   have hix:index (x::l) [x]=((0:Nat):Int):=by rw[index];simp[List.isPrefixOf]
   rw[count_cons_eq,Nat.add_comm];simp only[splitK,KA,hix];simp[ih]
  have hx:(x ==c)=false:=by simp[h]
  have hp:([c]:List UInt8).isPrefixOf (x::l)=false:=by simp[List.isPrefixOf,Ne.symm h]
  have hix:index (x::l) [c]=if index l [c] == -1 then -1 else index l [c]+1:=by rw[index,hp];simp
  rw[count_cons_ne x c l h,KA,hx,<-ih]
  cases hn:count l [c]with
  |zero=>rfl
  |succ m=>
   have hm:index l [c]≠ -1:=fun e=>by rw[count_miss e]at hn;cases hn
   have hge:=index_ge l [c];obtain⟨j,hj⟩:∃j:Nat,index l [c]=j:=⟨(index l [c]).toNat,Q0⟩;rw[hj]at hix;have e1:((j:Int) == -1)=false:=Xa.2 Q0;rw[e1]at hix;simp only[splitK,hj,hix,e1];have e2:(((j:Int)+1) == -1)=false:=Xa.2 Q0;have e3:((j:Int)+1).toNat=j+1:=Q0;simp[e2,e3]
def DG:E9->E9->List E9
 |cur,[]=>if cur=[]then []else [cur]
 |cur,c::l=>if c=32 then(if cur=[]then DG [] l else cur::DG [] l)else DG (cur++[c]) l
theorem Co:∀(l cur:E9),DG cur l=(match KA 32 l with| []=>[]|h::t=>(cur++h)::t).filter (fun x=>decide (x≠[]))
 | [],cur=>by
  unfold DG KA
  by_cases h:cur=[]<;>simp[h]
 |c::l,cur=>by
  by_cases h:c=32
  ·subst h
   have ih:=Co l [];simp only[List.nil_append]at ih;have e:(match KA 32 l with| []=>[]|h::t=>h::t)=KA 32 l:=by cases KA 32 l<;>rfl
   rw[e]at ih;have e2:KA 32 (32::l)=[]::KA 32 l:=by rw[KA,X0 (beq_self_eq_true _)]
   rw[DG,X0 rfl,e2];show _=((cur++[])::KA 32 l).filter _;rw[BF,List.filter_cons,ih]
   by_cases hc:cur=[]<;>simp[hc]
  rw[DG,J8 h,Co l (cur++[c]),KA,J8 (by simpa using h)]
  cases hs:KA 32 l with
  |nil=>exact absurd hs (Xl4 32 l)
  |cons x t=>simp
theorem To:∀(x cur l:E9),(32:UInt8)∉x->DG cur (x++l)=DG (cur++x) l
 | [],cur,l,_=>Q3
 |c::x,cur,l,h=>by
  have h1:c≠32:=fun e=>h (by simp[e])
  rw[DV,DG,J8 h1,To x _ l (fun e=>h (VS _ e)),VW]
  rfl
theorem Ji3(l:E9)(N:l≠[]):(decodeL l).2<=l.length/\1<=(decodeL l).2/\((decodeL l).1=32->l.take (decodeL l).2=[32])/\((decodeL l).1≠32->(32:UInt8)∉l.take (decodeL l).2):=by
 have y:0<l.length:=RZ.2 N;have E:=decodeN_le_n' l.length (l.getD 0 0).toNat (l.getD 1 0).toNat (l.getD 2 0).toNat (l.getD 3 0).toNat y;obtain⟨c1,c2,c3,c4⟩:=decodeN_conts l.length (l.getD 0 0).toNat (l.getD 1 0).toNat (l.getD 2 0).toNat (l.getD 3 0).toNat;have hp:1<=(decodeN l.length (l.getD 0 0).toNat (l.getD 1 0).toNat (l.getD 2 0).toNat (l.getD 3 0).toNat).2:=by
  unfold decodeN
  repeat' split
  all_goals(try simp only)
  all_goals(try omega)
 have i:(decodeN l.length (l.getD 0 0).toNat (l.getD 1 0).toNat (l.getD 2 0).toNat (l.getD 3 0).toNat).1=32↔(l.getD 0 0).toNat=32:=by
  unfold decodeN
  repeat' split
  all_goals(try simp only)
  all_goals(try omega)
 have h1:(l.getD 0 0).toNat=32->(decodeN l.length (l.getD 0 0).toNat (l.getD 1 0).toNat (l.getD 2 0).toNat (l.getD 3 0).toNat).2=1:=fun h=>by unfold decodeN;rw[X0 Q0]
 rw[decodeL_N];refine⟨E,hp,fun h=>?_,fun h J=>?_⟩
 ·have h2:=i.1 h
  rw[h1 h2,take1 l y]
  congr 1
  exact UInt8.toNat_inj.1 h2
 obtain⟨j,C,u⟩:=List.getElem_of_mem J;rw[R7]at C;rw[MQ]at u;have e:l.getD j 0=32:=by rw[Gj,JY Q0,u];rfl
 have D:j=0\/j=1\/j=2\/j=3:=Q0;obtain rfl|rfl|rfl|rfl:=D
 ·exact h (i.2 (by rw[e];rfl))
 ·have:=(c1 Q0).1;rw[e]at this;exact absurd this Q1
 ·have:=(c2 Q0).1;rw[e]at this;exact absurd this Q1
 have:=(c3 Q0).1;rw[e]at this;exact absurd this Q1
theorem Js9 s:∀f i st u,s.size<=i+f->i<=s.size->(∀a,st=some a->a<i)->u.map (fun p=>pieceU s.data.toList p.1 p.2)++DG (openPiece s.data.toList st i) (s.data.toList.drop i)=(closeSpans s (spansFromP ZW s f i st u)).map (fun p=>pieceU s.data.toList p.1 p.2):=by
 intro f
 induction f with
 |zero=>
  intro i st u h hp y;obtain rfl:i=s.size:=Q0;have J:s.data.toList.drop s.size=[]:=GH (by rw[<-size_eq];exact X3 _);rw[J,DG]
  cases st with
  |none=>simp[spansFromP,closeSpans,openPiece]
  |some a=>
   have:=pieceU_ne s.data.toList a s.size (y a rfl) (by rw[<-size_eq];exact X3 _);simp[spansFromP,closeSpans,openPiece,this]
 |succ f j=>
  intro i st u h hp y
  by_cases Z:i<s.size
  ·have a0:s.data.toList.drop i≠[]:=by
    intro h0;have:=C5 List.length h0;rw[UQ,<-size_eq]at this;simp at this;omega
   obtain⟨r1,r2,r3,r4⟩:=Ji3 _ a0;rw[decodeL_drop]at r1 r2 r3 r4;rw[UQ,<-size_eq]at r1;have D:i+(Utf8.decode s i).2<=s.size:=Q0;have N:s.data.toList.drop i=(s.data.toList.drop i).take (Utf8.decode s i).2++s.data.toList.drop (i+(Utf8.decode s i).2):=by rw[<-Xr,P9]
   simp only[spansFromP,if_pos Z]
   by_cases C:(Utf8.decode s i).1=32
   ·have E:ZW (Utf8.decode s i).1=true:=by rw[C];rfl
    rw[N,r3 C];simp only[E,if_true,List.singleton_append,DG]
    cases st with
    |none=>
     have j:=j (i+(Utf8.decode s i).2) none u Q0 D (fun a h=>by cases h);simpa [openPiece]using j
    |some a=>
     have a1:=pieceU_ne s.data.toList a i (y a rfl) (by rw[<-size_eq];omega);have j:=j (i+(Utf8.decode s i).2) none (u++[(a,i)]) Q0 D (fun a h=>by cases h);simpa [openPiece,a1]using j
   have E:ZW (Utf8.decode s i).1=false:=by simp[ZW,C]
   rw[N,To _ _ _ (r4 C)];simp only[E,Bool.false_eq_true,if_false]
   cases st with
   |none=>
    have j:=j (i+(Utf8.decode s i).2) (some i) u Q0 D (fun a h=>by cases h;omega);have e:([]:List UInt8)++(s.data.toList.drop i).take (Utf8.decode s i).2=pieceU s.data.toList i (i+(Utf8.decode s i).2):=by unfold pieceU;rw[EE,Nat.add_sub_cancel_left]
    simp only[openPiece]at j|-;rw[e];exact j
   |some a=>
    have j:=j (i+(Utf8.decode s i).2) (some a) u Q0 D (fun b h=>by cases h;have:=y a rfl;omega);simp only[openPiece]at j|-;rw[pieceU_grow _ _ _ _ (Nat.le_of_lt (y a rfl))];exact j
  obtain rfl:i=s.size:=by omega
  have J:s.data.toList.drop s.size=[]:=GH (by rw[<-size_eq];exact X3 _);rw[J,DG,spansFromP_end _ s _ _ _ _ Z]
  cases st with
  |none=>simp[closeSpans,openPiece]
  |some a=>
   have:=pieceU_ne s.data.toList a s.size (y a rfl) (by rw[<-size_eq];exact X3 _);simp[closeSpans,openPiece,this]
theorem Qs8 s:(goFieldsP ZW s).map (·.data.toList)=(KA 32 s.data.toList).filter (fun x=>decide (x≠[])):=by
 have h:=Js9 s s.size 0 none [] Q0 Q0 (fun a h=>by cases h);have e:(match KA 32 s.data.toList with| []=>[]|h::t=>h::t)=KA 32 s.data.toList:=by cases KA 32 s.data.toList<;>rfl
 simp only[List.map_nil,List.nil_append,openPiece,List.drop_zero]at h;rw[Co]at h;simp only[List.nil_append]at h;rw[e]at h;rw[h];unfold goFieldsP spansOfP;rw[YT];refine UM fun p hp=>?_
 show(s.extract p.1 p.2).data.toList=_;rw[extract_data]
 rfl
theorem Qc6{x y:ByteArray}(h:x.data.toList=y.data.toList):x=y:=by
 cases x
 cases y;exact C5 ByteArray.mk (Array.toList_inj.1 h)
theorem Tp c s:(splitB ⟨#[c]⟩ 0 (countB s ⟨#[c]⟩) s).map (·.data.toList)=KA c s.data.toList:=by rw[splitB_data,<-Rd]
theorem Qy7 s:goFieldsP ZW s=(splitB ⟨#[32]⟩ 0 (countB s ⟨#[32]⟩) s).filter (fun x=>decide (x.data.toList≠[])):=by
 refine(List.map_inj_right (f:=fun x:ByteArray=>x.data.toList) (fun x y=>Qc6)).1 ?_;rw[Qs8,<-Tp,Xn]
 rfl
theorem Mx{x:UInt8}(hx:x≠10):∀(u y:E9),(E6 (u++[x])).getLast?=some y->y≠[]
 | [],y,h=>by
  rw[EE,Qy6 (by simpa using hx)]at h
  cases h;simp
 |c::u,y,h=>by
  have ih:=Mx hx u y;rw[DV,E6]at h
  cases hs:E6 (u++[x])with
  |nil=>exact absurd hs (Ur _)
  |cons a t=>
   rw[hs]at h ih
   split at h
   ·exact ih (by simpa [List.getLast?_cons_cons]using h)
   cases t with
   |nil=>cases h;simp
   |cons b t=>exact ih (by simpa [List.getLast?_cons_cons]using h)
theorem Qy8 s L(D:splitB ⟨#[10]⟩ 0 (countB s ⟨#[10]⟩) s=L)x(h:L[L.length-1]?=some x):((1<L.length/\x.data.toList=[])->(L.take (L.length-1)).map (·.data.toList)=E6 (trimSuffix s.data.toList [10]))/\(¬(1<L.length/\x.data.toList=[])->L.map (·.data.toList)=E6 (trimSuffix s.data.toList [10])):=by
 have y:L.map (·.data.toList)=E6 s.data.toList:=by rw[Rc,<-Tp,D]
 have i:(E6 s.data.toList).getLast?=some x.data.toList:=by rw[<-y,List.getLast?_eq_getElem?,UJ,GP,h];rfl
 have E:L.length=(E6 s.data.toList).length:=by rw[<-y,UJ]
 rw[List.map_take,y,E,<-List.dropLast_eq_take];obtain e|⟨u,c,e⟩:=Ak s.data.toList
 ·rw[e]
  exact⟨fun h=>absurd h.1 Q1,fun _=>rfl⟩
 rw[Am]at e;rw[e,Js7];rw[e]at i
 by_cases j:c=10
 ·subst j
  have C:E6 (u++[10])=E6 u++[[]]:=Hu u [];rw[C]at i|-;rw[X0 rfl];have J:0<(E6 u).length:=RZ.2 (Ur u);refine⟨fun _=>Q3,fun h=>absurd ⟨Q7,?_⟩ h⟩;simpa using i.symm
 rw[J8 j];exact⟨fun h=>absurd h.2 (Mx j u _ i),fun _=>rfl⟩
end
section
open Go.RowKit
theorem Xl5{w r c es}(h:M6 w r es c)(C:DH es)k v(E:JT es k=none):∃w' u c',(Instr.mapUpdate 201 (.map (some r)) (I O k) v).run prog w=.ok () w'/\M6 w' r u c'/\DH u/\CG w w' r/\∀j,JT u j=if j=k then some v else JT es j:=by
 obtain⟨x,N,D,hs,J⟩:=WR es k 0 C;have Z:x=none:=by
  rw[E]at D
  cases x with
  |none=>rfl
  |some y=>simp at D
 subst Z;refine⟨_,_,_,Ba underlying201 underlying3 FW h _ v N,h.set _ _,?_,WF _ _ _,?_⟩
 ·intro e i
  obtain i|i:=B8.1 i
  ·exact C e i
  obtain rfl:e=_:=by simpa using i
  exact⟨k,rfl⟩
 intro j;rw[La es _ k rfl (J rfl) C j];unfold T7
 rfl
theorem Xl6{w r c es}(h:M6 w r es c)(i:DH es)k{b}(j:JT es k=if b=true then some (.bool true)else none):(Instr.lookup 201 (.map (some r)) (I O k) false).run prog w=.ok (.bool b) w:=by
 obtain⟨x,y,u,-,-⟩:=WR es k 0 i;rw[Xt (z:=.bool false) underlying201 underlying3 FW h _ Q4 false x y,u,j]
 cases b<;>rfl
theorem BJ.taken{m}(h:BJ m)o:BJ (B7 m o):=⟨h.tab,h.tk,h.la,h.now,h.lng,h.pk,h.pkn⟩
theorem Fh{o}:NA o=true↔(o.side≠1/\o.side≠2\/o.kind<1\/4<o.kind\/o.id<1):=by unfold NA;simp
theorem Jt0{oi os ok op oq}(h:NA ⟨oi,os,ok,op,oq⟩=false):V5 os:=by
 have h1:¬(os≠1/\os≠2\/ok<1\/4<ok\/oi<1):=fun x=>by have h2:=(Fh (o:=⟨oi,os,ok,op,oq⟩)).2 x;rw[h]at h2;exact Bool.noConfusion h2
 unfold V5;omega
theorem Re{w e F m}(h:D8 w e F m)(hI:BJ m)o(hf:JV o):Calls prog 141 #[pA e,V6 o] w fun ev w'=>UZ w w' e F (fun Fs=>Fs=ZT m o) (M8 m o) (P3 m o) ev:=by
 have hE:=h;obtain⟨cs,tb,bb,bk,im,T,tc,Al,lc,lv,bu,se,Ap,pc,es,mc,G,own,hM,hF⟩:=h;obtain⟨j,g2⟩:=exq ((U6 o).price);obtain⟨bd,l7⟩:=exq (NA o);obtain⟨rb,i7⟩:=exq (KS o);obtain⟨o4,n6⟩:=exq (YC m.ph o.kind);obtain⟨kn,l9⟩:=exq (decide (o.id∈m.ids));have d9:Hid (U6 o=⟨o.id,o.side,o.kind,j,o.qty⟩):=J6 (by rw[<-g2];rfl);have a7:=J6 l7;have g6:Hid (JZ j o.qty=rb):=J6 (by rw[<-g2];exact i7);obtain⟨f0,b2,d7⟩:=Xt7 i7 n6 l9;have j1:Hid (JV (U6 o)):=J6 (by
  refine⟨hf.1,hf.2.1,hf.2.2.1,?_,hf.2.2.2.2⟩;show V3 (if o.kind=2 then 1 else o.price)
  split
  ·unfold V3;omega
  exact hf.2.2.2.1)
 obtain⟨HE,HF,HI,HM⟩:=Xt8 hE hF hI hM;have g5:Hid ((if o.kind=2 then 1 else o.price)=j):=J6 g2;obtain⟨X,eX⟩:=exq w.heap.size;have j7:=J6 eX;obtain⟨oi,os,ok,op,oq⟩:=o;dsimp only at d9 g6 g5 b2 d7;have i1:Bz w (w.alloc (.cells #[I O oi,I O os,I O ok,I O op,I O oq] 84)):=(J9 _ w).alloc Q2 _;have b9:=Z5 w 84 #[I O oi,I O os,I O ok,I O op,I O oq];obtain⟨w0,h0⟩:=exq (w.alloc (.cells #[I O oi,I O os,I O ok,I O op,I O oq] 84));rw[h0]at i1 b9;rw[eX]at b9;obtain⟨e7,HX⟩:=Xt6 i1 b9;obtain⟨C,Z,x2,x3,x4⟩:=S0 b9;have xf:=K0 b9 3;unfold V6;dsimp only;clear hE hM hF hI hf g2 l7 i7 n6 l9 i1 b9;go_enter func141,ntmps141
 go_upto_region 1 with fail
 try rw[h0]
 try rw[eX]
 clear h0 eX;go_upto_if 8 with fail
 go_cut [] (fun wx=>Hid (Bz w wx/\J7 wx X 84 #[I O oi,I O os,I O ok,I O j,I O oq]))
 case first=>
  by_cases hk:ok=2
  ·have d1:=V4 hk
   have J:j=1:=by rw[<-g5.out,X0 hk]
   have H1:=J6 J;clear hk J;go_wp2;go_meet;rw[H1.out];exact J6 ⟨e7.trans ((U1 w0 ⟨X,3,none⟩ (I O 1)).below (fun i e=>by have h1:=j7.out;have h2:i=X:=e;omega) e7.size),Z0 HX 3 (I O 1)⟩
  have d1:=Z3 hk;have J:j=op:=by rw[<-g5.out,J8 hk]
  have H1:=J6 J;clear hk J;go_wp2;go_meet;rw[H1.out];exact J6 ⟨e7,HX⟩
 obtain⟨l6,i8⟩:=hcut.out;obtain⟨c7,g7⟩:=Xt6 l6 i8;clear C Z x2 x3 x4 xf e7 HX hcut l6;obtain⟨C,Z,x2,x3,x4⟩:=S0 i8;clear i8;obtain⟨w1,k3⟩:=exq wc;rw[k3]at c7 g7 C Z x2 x3 x4|-;clear k3;go_upto_region 3 with fail
 go_cut [10] (fun p9 wx=>p9=.bool bd/\wx=w1)
 case first=>
  have key:∀b,(b=true↔(os≠1/\os≠2\/ok<1\/4<ok\/oi<1))->b=bd:=fun b hb=>by rw[<-a7.out];exact Vm.2 (hb.trans (Fh (o:=⟨oi,os,ok,op,oq⟩)).symm)
  by_cases a1:os=1
  ·have t1:=KN a1
   by_cases N:ok<1
   ·have t2:=V7 N
    have u:=J6 (key true Q7);clear key a1 N;go_wp2;go_meet;exact⟨C5 Value.bool u,rfl⟩
   have t2:=V9 N
   by_cases y:ok>4
   ·have t3:=V7 y
    have u:=J6 (key true Q7);clear key a1 N y;go_wp2;go_meet;exact⟨C5 Value.bool u,rfl⟩
   have t3:=V9 y
   by_cases a5:oi<1
   ·have t4:=V7 a5
    have u:=J6 (key true Q7);clear key a1 N y a5;go_wp2;go_meet;exact⟨C5 Value.bool u,rfl⟩
   have t4:=V9 a5;have u:=J6 (key false Q7);clear key a1 N y a5;go_wp2;go_meet;exact⟨C5 Value.bool u,rfl⟩
  have t1:=XQ a1
  by_cases b0:os=2
  ·have t5:=KN b0
   by_cases N:ok<1
   ·have t2:=V7 N
    have u:=J6 (key true Q7);clear key a1 b0 N;go_wp2;go_meet;exact⟨C5 Value.bool u,rfl⟩
   have t2:=V9 N
   by_cases y:ok>4
   ·have t3:=V7 y
    have u:=J6 (key true Q7);clear key a1 b0 N y;go_wp2;go_meet;exact⟨C5 Value.bool u,rfl⟩
   have t3:=V9 y
   by_cases a5:oi<1
   ·have t4:=V7 a5
    have u:=J6 (key true Q7);clear key a1 b0 N y a5;go_wp2;go_meet;exact⟨C5 Value.bool u,rfl⟩
   have t4:=V9 a5;have u:=J6 (key false Q7);clear key a1 b0 N y a5;go_wp2;go_meet;exact⟨C5 Value.bool u,rfl⟩
  have t5:=XQ b0;have u:=J6 (key true Q7);clear key a1 b0;go_wp2;go_meet;exact⟨C5 Value.bool u,rfl⟩
 obtain⟨rfl,rfl⟩:=hcut
 cases bd with
 |true=>
  have HS:Hid (P3 m ⟨oi,os,ok,op,oq⟩=1):=J6 (by unfold P3;rw[X0 a7.out]);have J:Y9 1=.iface 52 (I O 1):=rfl;go_wp2;go_ret2;unfold M8 ZT;rw[HS.out,J8 Q1,J8 Q1];exact GS (LQ HE c7) rfl
 |false=>
  go_wp2_with fail
  refine(RG _ _ _).mono ?_;rintro ev w2⟨rfl,i2⟩;rw[g6.out];obtain⟨d0,g8⟩:=Xt6 (c7.trans (i2.mono c7.size)) (Z4 g7 i2);clear C Z x2 x3 x4 i2 c7 g7
  cases rb with
  |false=>
   have HS:Hid (P3 m ⟨oi,os,ok,op,oq⟩=2):=J6 (by unfold P3;rw[J8 (by rw[a7.out];decide),X0 f0.out]);go_wp2;go_ret2;unfold M8 ZT;rw[HS.out,J8 Q1,J8 Q1];exact GS (LQ HE d0) rfl
  |true=>
   have f5:=HM.below d0;have f4:=f5.cell f5.ec.c14;have j3:=J6 f5;obtain⟨C,Z,x2,x3,x4⟩:=S0 g8;obtain⟨ph,i5⟩:=exq m.ph;rw[i5]at f4 b2;have a2:=J6 i5;have m9:∀W,Calls prog 198 #[I O ph,I O ok] W fun e w'=>e=.returned (.bool o4)/\w'=W:=fun W=>(Jl8 ph ok W).mono (fun _ _⟨h1,h2⟩=>⟨h1.trans (by rw[b2.out]),h2.symm⟩)
   have j6:=J6 m9;clear m9;clear f5 i5;go_wp2_with fail
   go_quiet ((go_at_call 198;exact Xc (j6 _)))
   have a0:=Y5 (J9 w2.heap.size w2) nq;obtain⟨d2,f1,a6⟩:=Xt7 (d0.trans (a0.mono d0.size)) (ZL g8 nq) (j3.below a0);clear a0 j6 f4 C Z x2 x3 x4;generalize w2.drewN nq=w3 at d2 f1 a6|-;clear d0 g8 j3
   cases o4 with
   |false=>
    have HS:Hid (P3 m ⟨oi,os,ok,op,oq⟩=6):=J6 (by unfold P3;rw[J8 (by rw[a7.out];decide),J8 (by rw[f0.out];decide),X0 (by rw[a2.out];exact b2)]);go_wp2;go_ret2;unfold M8 ZT;rw[HS.out,J8 Q1,J8 Q1];exact GS (LQ HE d2) rfl
   |true=>
    obtain⟨C,Z,x2,x3,x4⟩:=S0 f1;have f3:=a6.cell a6.ec.c13;have e6:=Xl6 (w:=w3.drew) (a6.below (Z2 (J9 _ w3))).map_ a6.keys oi (b:=kn) (by rw[a6.ids,<-d7.out];simp);go_wp2_with fail
    refine VR (fun t=>[].contains t) (fun W=>W.cell? ⟨e,13,none⟩=some (.map (some im))/\W.cell? ⟨X,0,none⟩=some (I O oi)/\(Instr.lookup 201 (.map (some im)) (I O oi) false).run prog W=.ok (.bool kn) W) Q4 ⟨f3,C,e6⟩ (fun h7=>?_);refine tM 0 ?_;refine tM 1 ?_;refine tM 2 ?_;refine tM 3 ?_;refine tM 4 ?_;refine tM 5 ?_;refine tM 6 ?_;refine tM 7 ?_;refine XX Q4 ?_ _;clear h7;have a0:=Z2 (J9 w3.heap.size w3);obtain⟨d6,g9,a4⟩:=Xt7 (d2.trans (a0.mono d2.size)) (Y6 f1) (a6.below a0);clear a0 f3 e6 C Z x2 x3 x4;generalize w3.drew=w4 at d6 g9 a4|-;clear d2 f1 a6
    cases kn with
    |true=>
     have HS:Hid (P3 m ⟨oi,os,ok,op,oq⟩=9):=J6 (by unfold P3;rw[J8 (by rw[a7.out];decide),J8 (by rw[f0.out];decide),J8 (by rw[a2.out,show YC ph (X6.mk oi os ok op oq).kind=true from b2.out];decide),X0 (of_decide_eq_true d7)]);go_wp2;go_ret2;unfold M8 ZT;rw[HS.out,J8 Q1,J8 Q1];exact GS (LQ HE d6) rfl
    |false=>
     have c8:=a4.cell a4.ec.c8;have a8:=a4.cell a4.ec.c12;obtain⟨D,i6⟩:=exq m.pk.length;obtain⟨ln,i3⟩:=exq (m.L1.length+m.L2.length);have m3:∀W,Bz w4 W->Calls prog 199 #[IP (some ⟨bk,0,none⟩)] W fun e w'=>e=.returned (I O (ln:Nat))/\w'=W:=fun W hW=>(Qr6 W bk G m.L1 m.L2 (a4.below hW).book).mono (fun _ _⟨h1,h2⟩=>⟨h1.trans (by rw[i3]),h2.symm⟩)
     have q1:ln<=100:=by have h1:=a4.book.lists.cnt;rw[B6]at h1;omega
     have q3:D<=100000:=by have:=HI.pkn;omega
     rw[i6]at a8;obtain⟨j4,b1,j2⟩:=Xt7 m3 i6 i3;clear m3 i6 i3;go_wp2_with fail
     go_quiet ((go_at_call 199;exact Xc (j4 _ (by first|exact J9 _ _|exact Z2 Q5|exact Y5 Q5 _))))
     have a0:=Y5 (J9 w4.heap.size w4) nq;obtain⟨e8,f2,d8⟩:=Xt7 (d6.trans (a0.mono d6.size)) (ZL g9 nq) (a4.below a0);clear a0 c8 a8 j4;generalize w4.drewN nq=w5 at e8 f2 d8|-;clear d6 g9 a4;have j0:Hid (P3 m ⟨oi,os,ok,op,oq⟩=if 100<=m.L1.length+m.L2.length+m.pk.length then 12 else 0):=J6 (by unfold P3;rw[J8 (by rw[a7.out];decide),J8 (by rw[f0.out];decide),J8 (by rw[a2.out,show YC ph (X6.mk oi os ok op oq).kind=true from b2.out];decide),J8 (of_decide_eq_false d7)])
     by_cases f7:(ln:Int)+(D:Int)>=100
     ·have d1:=V7 f7
      have HS:Hid (P3 m ⟨oi,os,ok,op,oq⟩=12):=J6 (by rw[j0.out,X0 (by rw[j2.out,b1.out];omega)]);go_wp2;go_ret2;unfold M8 ZT;rw[HS.out,J8 Q1,J8 Q1];exact GS (LQ HE e8) rfl
     have d1:=V9 f7;have HS:Hid (P3 m ⟨oi,os,ok,op,oq⟩=0):=J6 (by rw[j0.out,J8 (by rw[j2.out,b1.out];omega)]);have l3:M8 m ⟨oi,os,ok,op,oq⟩=UR (B7 m ⟨oi,os,ok,j,oq⟩) ⟨oi,os,ok,j,oq⟩:=by unfold M8;rw[X0 HS.out,d9.out]
     have k4:ZT m ⟨oi,os,ok,op,oq⟩=AG (B7 m ⟨oi,os,ok,j,oq⟩) ⟨oi,os,ok,j,oq⟩:=by unfold ZT;rw[X0 HS.out,d9.out]
     have a3:=J6 (And.intro HS (And.intro l3 k4));have b5:=d8.below (Z2 (J9 _ w5));obtain⟨w6,q0,q4,p8,m4,m0,n8,e6⟩:=Xl5 b5.map_ b5.keys oi (.bool true) (by rw[b5.ids,J8 (of_decide_eq_false d7)]);obtain⟨l1,i4⟩:=b5.mapTo n8 m4 m0 (id:=oi) (fun k=>by
      rw[e6 k,b5.ids]
      by_cases J:k=oi
      ·rw[X0 J,X0 (by rw[J];simp)]
      rw[J8 J]
      by_cases e2:k∈m.ids
      ·rw[X0 e2,X0 (by simp[e2])]
      rw[J8 e2,J8 (by simp[J,e2])])
     have h8:∀k,¬own X k:=fun k hk=>by have:=HM.ok.lt X k hk;have:=j7.out;omega
     have l5:=V0 (Y6 f2) i4.1 (fun⟨k,hk⟩=>h8 k hk);have m6:U3 w w6 own own:=((N0 e8).trans (N0 (Z2 (J9 _ w5)))).trans i4;have f3:=d8.cell d8.ec.c13;have C:=(S0 f2).1;obtain⟨j8,E,p2,p5⟩:=Xt8 l5 l1 m6 h8;clear b5 m4 m0 n8 e6 l1 i4 l5 m6 h8 l3 k4;go_upto_region 13 with fail
     go_cut [] (fun wx=>wx=w6)
     case first=>
      clear d1 f7
      go_still_tail 6,Q4
      change wpList _ _ _ _ _ w5.drew;go_wp2;go_meet
      rfl
     subst hcut;clear p8 f3 C f2 d8 e8 d1 f7;obtain⟨C,Z,x2,x3,x4⟩:=S0 j8;have f4:=E.cell E.ec.c14;have a8:=E.cell E.ec.c12;have k2:(Value.int .i64 ({m with ids:=m.ids++[oi]}:Z6).ph)=I O ph:=by rw[<-a2.out]
     have k1:(Value.slice Ap ({m with ids:=m.ids++[oi]}:Z6).pk.length pc)=.slice Ap D pc:=by rw[<-b1.out]
     rw[k2]at f4;rw[k1]at a8;obtain⟨g3,e9⟩:=Xt6 (MF (m:=B7 m ⟨oi,os,ok,j,oq⟩) E (fun _ _ _=>rfl)) (p2.bstep HF);obtain⟨F6,h6⟩:=exq (fun i=>∃k,own i k);rw[h6]at g3 e9;have o6:=J6 h6;clear k2 k1 h6
     by_cases g1:ok=4/\ph≠5
     ·obtain⟨y,g0⟩:=g1
      have d4:=V4 y;have d5:=XQ g0;have e3:Hid (UR (B7 m ⟨oi,os,ok,j,oq⟩) ⟨oi,os,ok,j,oq⟩={B7 m ⟨oi,os,ok,j,oq⟩with pk:=m.pk++[⟨oi,os,ok,j,oq⟩]}/\AG (B7 m ⟨oi,os,ok,j,oq⟩) ⟨oi,os,ok,j,oq⟩=[]):=by
       refine J6 ⟨?_,?_⟩
       ·unfold UR;rw[X0 ⟨y,by show m.ph≠5;rw[a2.out];exact g0⟩];rfl
       unfold AG;rw[X0 ⟨y,by show m.ph≠5;rw[a2.out];exact g0⟩]
      clear y g0;go_wp2_with fail
      obtain⟨i0,l8,o1,o2,o3⟩:=W8 Cg;have n4:X8 wc.drew Ap D pc 84 5 (X7 U0 m.pk):=by have h1:=(E.below (Z2 (J9 _ wc))).park;rw[<-b1.out];exact h1
      have j5:=J6 (LW (show wc.drew.ownsRow 0 84 5 (.slice Ap D pc) D (X7 U0 m.pk)from n4) (.cells #[I O oi,I O os,I O ok,I O j,I O oq] 84));clear n4;refine VR (fun t=>[10].contains t) (fun W=>W.cell? ⟨e,12,none⟩=some (.slice Ap D pc)/\W.cell? ⟨X,0,none⟩=some (I O oi)/\W.cell? ⟨X,1,none⟩=some (I O os)/\W.cell? ⟨X,2,none⟩=some (I O ok)/\W.cell? ⟨X,3,none⟩=some (I O j)/\W.cell? ⟨X,4,none⟩=some (I O oq)) Q4 ⟨a8,C,Z,x2,x3,x4⟩ (fun h7=>?_);refine tM 0 ?_;refine tM 1 ?_;refine tM 2 ?_;refine tM 3 ?_;refine tM 4 ?_;refine tM 5 ?_;refine oM 6 fun K1 k5=>?_
      go_simp;have a9:Bz wc (wc.drew.alloc (.cells #[I O oi,I O os,I O ok,I O j,I O oq] 84)):=(Z2 (J9 _ wc)).alloc Q2 _;have l4:(fun W:World=>W.cell? ⟨e,12,none⟩=some (.slice Ap D pc)/\W.cell? ⟨X,0,none⟩=some (I O oi)/\W.cell? ⟨X,1,none⟩=some (I O os)/\W.cell? ⟨X,2,none⟩=some (I O ok)/\W.cell? ⟨X,3,none⟩=some (I O j)/\W.cell? ⟨X,4,none⟩=some (I O oq)) (wc.drew.alloc (.cells #[I O oi,I O os,I O ok,I O j,I O oq] 84)):=⟨U7 a8 a9,U7 C a9,U7 Z a9,U7 x2 a9,U7 x3 a9,U7 x4 a9⟩;refine k5 _ _ (fun _=>l4) ?_;clear k5 a9 h7;refine oM 7 fun K2 k6=>?_
      refine(X0 Q8).mpr ?_;refine wp_append_lies _ _ _ 91 rfl 0 84 i0 _ 5 40 underlying91 l8 o1 o2 o3 rfl Q0 (.slice Ap D pc) D _ rfl j5 ⟨wc.heap.size,0,none⟩ 1 1 [I O oi,I O os,I O ok,I O j,I O oq] rfl rfl (XF (cs:= #[I O oi,I O os,I O ok,I O j,I O oq]) (t:=84) (fr:=(0,0)) (QN wc.drew _)) J0 Q0 Q9 Q0 Q3 (wc.heap.size+1) Q3 ?_;intro gg cap w8 m8 c5 h9 q2;have e5:=WP (w2:=wc.drew) (o:=.cells #[I O oi,I O os,I O ok,I O j,I O oq] 84) (show(wc.drew.alloc (.cells #[I O oi,I O os,I O ok,I O j,I O oq] 84)).grownBy w8 (Value.slice Ap D pc).ownBlock from⟨c5.os,c5.tape,c5.output,c5.size,c5.block⟩);rw[C8]at e5 h9;obtain⟨o8,o5,p3⟩:=Xt7 e5 h9 m8;have h3:J7 w8 e 203 cs:=V0 (E.below (Z2 (J9 _ wc))).ind.blk e5 (fun x=>absurd (E.ok.uni _ _ _ (E.op _ x) E.oe) Q1);have b8:=V0 (Y6 j8) e5 (fun x=>p5 _ (E.op _ x));have j9:w8.cell? ⟨e,12,none⟩=some (.slice Ap D pc):=(X9 h3 12).trans (E.ec.c12.trans (by rw[<-b1.out]));have p6:=K0 h3 12;have f6:(fun W:World=>W.cell? ⟨e,12,none⟩=some (.slice Ap D pc)/\W.cell? ⟨X,0,none⟩=some (I O oi)/\W.cell? ⟨X,1,none⟩=some (I O os)/\W.cell? ⟨X,2,none⟩=some (I O ok)/\W.cell? ⟨X,3,none⟩=some (I O j)/\W.cell? ⟨X,4,none⟩=some (I O oq)) w8:=⟨j9,(S0 b8).1,(S0 b8).2.1,(S0 b8).2.2.1,(S0 b8).2.2.2.1,(S0 b8).2.2.2.2⟩;refine k6 _ _ (fun _=>f6) ?_;clear m8 c5 h9 e5 h3 b8 j5 l8 o1 o2 o3 k6 l4 a8 C Z x2 x3 x4;refine oM 8 fun K4 k8=>?_
      go_simp;refine k8 _ _ (fun _=>f6) ?_;clear k8;refine oM 9 fun K5 k9=>?_
      go_simp;refine k9 _ _ (fun _=>f6) ?_;clear k9;refine oM 10 fun K3 k7=>?_
      refine(X0 Q8).mpr ?_;go_simp;refine k7 _ _ (fun e=>absurd e Q1) ?_;clear k7 j9 p6 f6;refine XX Q4 ?_ _;go_wp2;go_ret2;have hl:(m.pk++[(⟨oi,os,ok,j,oq⟩:X6)]).length=D+1:=by rw[B6,b1.out];rfl
      obtain⟨own',l2,m7⟩:=(E.below (Z2 (J9 _ wc))).pkTo (P':=m.pk++[⟨oi,os,ok,j,oq⟩]) (Ap':=some ⟨gg,0,none⟩) (pc':=cap) o8 (by
       show w8.ownsRow 0 84 5 _ _ _;rw[hl,AQ];exact p3) (fun i hi=>by
        have J:gg=i:=by simpa [X5]using hi
        subst J;obtain x|x:=o5.out
        ·exact .inl x
        right;rw[x];show wc.heap.size<=_;omega)
      rw[hl]at l2 m7;rw[a3.1,a3.2.1,a3.2.2,e3.1,e3.2];exact GS (A5.from_ e9 ⟨_,MF (m:={B7 m ⟨oi,os,ok,j,oq⟩with pk:=m.pk++[⟨oi,os,ok,j,oq⟩]}) l2 (fun _ _ _=>rfl),((N0 (Z2 (J9 _ wc))).trans m7).bstep (fun i=>by rw[<-o6.out])⟩) rfl
     have p1:=J6 g1;have e3:Hid (¬(ok=4/\ph≠5)):=J6 g1;clear g1;have k0:((ok ==4)=false)\/((ok ==4)=true/\(ph != 5)=false):=by
      by_cases h4:ok=4
      ·exact .inr ⟨V4 h4,KN (Decidable.byContradiction fun h=>p1 ⟨h4,h⟩)⟩
      exact .inl (Z3 h4)
     have HD:=J6 k0;clear k0;have ZG:=J6 (HI.taken ⟨oi,os,ok,j,oq⟩)
     by_cases c6:ph=3
     ·have d3:=KN c6
      have g4:=J6 c6;clear c6;have n1:0<=oq:=by have h1:=g6.out;rw[RD]at h1;omega
      have n5:V5 os:=Jt0 a7;have f9:=Xe5 g3 ZG oi os ok j oq n5 (by have:=j1.out;rw[d9.out]at this;exact this) n1;unfold V6 at f9;dsimp only at f9;have p0:=J6 f9;have e4:Hid (UR (B7 m ⟨oi,os,ok,j,oq⟩) ⟨oi,os,ok,j,oq⟩=XP (B7 m ⟨oi,os,ok,j,oq⟩) ⟨oi,os,ok,j,oq⟩/\AG (B7 m ⟨oi,os,ok,j,oq⟩) ⟨oi,os,ok,j,oq⟩=(S6 (B7 m ⟨oi,os,ok,j,oq⟩) ⟨oi,os,ok,j,oq⟩).fills):=by
       have h1:¬((X6.mk oi os ok j oq).kind=4/\(B7 m ⟨oi,os,ok,j,oq⟩).ph≠5):=fun h=>e3 ⟨h.1,fun h5=>h.2 (a2.trans h5)⟩
       have h2:¬((B7 m ⟨oi,os,ok,j,oq⟩).ph≠3):=fun h=>h (a2.trans g4)
       refine J6 ⟨?_,?_⟩
       ·unfold UR;rw[J8 h1,J8 h2]
       unfold AG;rw[J8 h1,J8 h2]
      clear f9 n5 n1;obtain d4|⟨d4,d5⟩:=HD.out
      all_goals
       go_wp2_with fail
       refine p0.mono ?_;rintro ev w9 p7;obtain⟨A9,c9,i9,rfl,n9,n3,m5,n2⟩:=p7;have o7:=J6 (show R9 wc w9 e F6 (fun Fs=>Fs=(S6 (B7 m ⟨oi,os,ok,j,oq⟩) ⟨oi,os,ok,j,oq⟩).fills) (XP (B7 m ⟨oi,os,ok,j,oq⟩) ⟨oi,os,ok,j,oq⟩) (.returned (.slice A9 (List.length i9) c9))from⟨A9,c9,i9,rfl,n9,n3,m5,n2⟩);clear n9 n3 m5 n2;go_wp2;go_ret2;rw[a3.1,a3.2.1,a3.2.2,e4.1,e4.2];exact(R9.from_ e9 o7).told 0
     have d3:=XQ c6;have g4:=J6 c6;clear c6;have f8:=Sy wc e F6 _ g3 ⟨oi,os,ok,j,oq⟩ (by have:=j1.out;rw[d9.out]at this;exact this);unfold V6 at f8;dsimp only at f8;have o9:=J6 f8;have e4:Hid (UR (B7 m ⟨oi,os,ok,j,oq⟩) ⟨oi,os,ok,j,oq⟩=S3 (B7 m ⟨oi,os,ok,j,oq⟩) ⟨oi,os,ok,j,oq⟩/\AG (B7 m ⟨oi,os,ok,j,oq⟩) ⟨oi,os,ok,j,oq⟩=[]):=by
      have h1:¬((X6.mk oi os ok j oq).kind=4/\(B7 m ⟨oi,os,ok,j,oq⟩).ph≠5):=fun h=>e3 ⟨h.1,fun h5=>h.2 (a2.trans h5)⟩
      have h2:((B7 m ⟨oi,os,ok,j,oq⟩).ph≠3):=fun h=>g4 (a2.symm.trans h)
      refine J6 ⟨?_,?_⟩
      ·unfold UR;rw[J8 h1,X0 h2]
      unfold AG;rw[J8 h1,X0 h2]
     clear f8;obtain d4|⟨d4,d5⟩:=HD.out
     all_goals
      go_wp2_with fail
      refine o9.mono ?_;rintro ev w9⟨rfl,n7⟩;have p4:=J6 n7;clear n7;go_wp2;go_ret2;rw[a3.1,a3.2.1,a3.2.2,e4.1,e4.2];exact GS (A5.from_ e9 p4) rfl
end
section
open Go Go.RowKit
def MH(ws:List ByteArray)(n:Int)(w w':World)(e:Ending):Prop:=
 match D6 ws n with
 |none=>e=AP 3
 |some l=>∃A c,e=.returned (.slice A l.length c)/\X8 w' A l.length c 3 1 (l.map YL)/\∀g,X5 A=some g->w.heap.size<=g
theorem Qc7 s(u:s.size<=281474976710656)w(j:QH w){v}(h:Lib.atoiAll s.data.toList=.ok v):Calls prog 139 #[.string s] w fun e w'=>e=.returned (.tuple #[I O v,.nilIface])/\Bz w w':=by
 refine(Qi8 s u w j).mono ?_;rintro e w'⟨i,⟨v',h1,h2⟩|⟨h1,-⟩⟩
 ·rw[h]at h1;cases h1;exact⟨h2,i⟩
 exact absurd h (h1 v)
theorem Jt1 s(y:s.size<=281474976710656)w(j:QH w)(h:∀v,Lib.atoiAll s.data.toList≠.ok v):Calls prog 139 #[.string s] w fun e w'=>∃k u x,e=.returned (.tuple #[I O k,.iface u x])/\Bz w w':=by
 refine(Qi8 s y w j).mono ?_;rintro e w'⟨i,⟨v',h1,h2⟩|⟨h1,k,u,x,h2⟩⟩
 ·exact absurd h1 (h v')
 exact⟨k,u,x,h2,i⟩
theorem Rf s:((∀v,Lib.atoiAll s.data.toList≠.ok v)/\ZF s=none)\/∃v,Lib.atoiAll s.data.toList=.ok v/\((Lib.itoa v≠s.data.toList/\ZF s=none)\/(Lib.itoa v=s.data.toList/\ZF s=some v)):=by
 unfold ZF
 cases h:Lib.atoiAll s.data.toList with
 |range=>exact .inl ⟨fun v j=>(by cases j),rfl⟩
 |ok v=>
  refine .inr ⟨v,rfl,?_⟩
  by_cases i:Lib.itoa v=s.data.toList
  ·exact .inr ⟨i,X0 i⟩
  exact .inl ⟨i,J8 i⟩
 |_=>exact .inl ⟨fun v j=>(by cases j),rfl⟩
theorem Qc8{s l}(h:l=s.data.toList):(⟨l.toArray⟩:ByteArray)=s:=by rw[h]
theorem Qc9{s:ByteArray}{l}(h:l≠s.data.toList):((⟨l.toArray⟩:ByteArray).toList ==s.toList)=false:=by rw[ByteArray.toList_eq,ByteArray.toList_eq];exact Xa.2 (by simpa using h)
theorem Qy9 A n0 c ws n w(hg:QH w)(a6:12<=w.heap.size)(hC:QB w A (ws.map Value.string))(d2:ws.length=n0)(hs:∀s∈ws,s.size<=281474976710656) (hn:n0<=100000):Calls prog 94 #[.slice A n0 c,I O n] w fun e w'=>MH ws n w w' e/\Bz w w':=by
 obtain⟨HG,HC,HS,HL⟩:=Xt8 hg hC hs d2;obtain⟨i0,e8,f2,f3,f4⟩:=W8 Tm;clear hg hC hs d2
 by_cases hc:0<=n/\(n0:Int)≠n
 ·obtain⟨h1,h2⟩:=hc
  have HP:=J6 (show D6 ws n=none by unfold D6;rw[HL.out,X0 ⟨h1,h2⟩]);have t1:=V7 h1;have t2:=XQ h2;have HM:=J6 (fun W Z=>TA 3 W Z);clear h1 h2;go_enter func94,ntmps94
  go_wp2_with (go_at_call 23;refine(HM _ HG).mono ?_;rintro e w1⟨D,hB⟩;unfold AP at D;subst D)
  refine⟨rfl,?_,hB⟩;unfold MH;rw[HP.out]
  rfl
 have c6:n<0\/(0<=n/\(n0:Int)=n):=by omega
 have HP:=J6 (show D6 ws n=VJ ws by unfold D6;rw[HL.out,J8 hc]);clear hc;have e7:(decide (0<=n)=true/\((n0:Int) != n)=false)\/decide (0<=n)=false:=by
  obtain h|⟨h,h'⟩:=c6
  ·exact .inr (V9 Q0)
  exact .inl ⟨V7 h,KN h'⟩
 clear c6;rcases e7 with⟨t1,t2⟩|t1
 all_goals
  go_enter func94,ntmps94
  go_wp2_with fail
  go_loopg [22,5] n0 (fun gg f5 s5 wx=>∃k c9 A9 J,k<=n0/\gg=n0-k/\f5=I O k/\s5=.slice A9 k c9/\VJ (ws.take k)=some J/\J.length=k/\Bz w wx/\X8 wx A9 k c9 3 1 (J.map YL)/\∀g,X5 A9=some g->w.heap.size<=g)
  case atStart=>exact⟨0,0,none,[],U9 _,rfl,rfl,rfl,rfl,rfl,J9 _ _,QY _ _ _ _,by simp[X5]⟩
  obtain⟨k,c9,A9,J,hk,rfl,rfl,rfl,a2,d1,hB,hR,d6⟩:=hrel;obtain⟨i,HR,b0,c5,a8⟩:=Xt9 hB hR d6 a2 d1;clear hB hR d6 a2 d1
  by_cases f8:k<n0
  ·have f0:(k:Int)<(n0:Int):=by omega
   have f7:(0:Int)<=(k:Int):=Q0;have b2:k<ws.length:=by have:=HL.out;omega
   obtain⟨s,HX⟩:∃s,Hid (ws[k]=s):=⟨_,J6 rfl⟩;have c7:(ws.map Value.string)[k]?=some (.string s):=by rw[GP,JY b2,HX.out];rfl
   obtain⟨b,o,hA,hc⟩:=HC.out k _ c7;have b5:=HS.out s (by rw[<-HX.out];exact C7 b2);have f6:wr.cell? ⟨b,o+k,none⟩=some (.string s):=(i.cell (p:=⟨b,o+k,none⟩) (U5 w _ hc)).trans hc;have e5:=J6 (show(ws.take (k+1))=ws.take k++[s] by rw[M9 b2,HX.out]);obtain⟨a9,b9,a1,HM⟩:=Xt8 (show VJ (ws.take (k+1))=(ZF s).map fun v=>J++[v] by rw[e5.out,Rb,c5.out]) (show VJ (ws.take (k+1))=none->VJ ws=none from fun h=>by rw[<-P9 (k+1) ws];exact Js6 h) (HG.below i a6) (fun W Z=>TA 3 W Z);subst hA;clear hc c7;rcases Rf s with⟨d3,E⟩|⟨v,hv,⟨hi,E⟩|⟨hi,E⟩⟩
   ·have HA:=J6 (Jt1 s b5 wr a1 d3)
    have a4:=J6 (show D6 ws n=none by rw[HP.out];exact b9 (by rw[a9.out,E];rfl));clear d3 E;go_wp2_with (first
     |(go_at_call 139;refine HA.mono ?_;rintro e w1⟨kk,u,x,rfl,C⟩;have j:=J6 C;have a0:=J6 (a1.below C (U4 a6 i.size));clear C)
     |(go_at_call 23;refine(HM _ a0).mono ?_;rintro e w2⟨D,b1⟩;unfold AP at D;subst D))
    refine⟨rfl,?_,i.trans ((j.trans (b1.mono j.size)).mono i.size)⟩;unfold MH;rw[a4.out]
    rfl
   ·have b8:=Yc hv
    obtain⟨HA,a4,HI⟩:=Xt7 (Qc7 s b5 wr a1 hv) (show D6 ws n=none by rw[HP.out];exact b9 (by rw[a9.out,E];rfl)) (fun W Z=>Zl v b8 W Z);have f1:=Qc9 hi;obtain⟨si,a7⟩:=exq (⟨(Lib.itoa v).toArray⟩:ByteArray);rw[a7]at f1 HI;clear E hv hi;go_wp2_with (first
     |(go_at_call 139;refine HA.mono ?_;rintro e w1⟨rfl,C⟩;have j:=J6 C;have a0:=J6 (a1.below C (U4 a6 i.size));clear C)
     |(go_at_call 19;refine(HI _ a0).mono ?_;rintro e w3⟨rfl,N⟩;have a3:=J6 N;have d8:=J6 (a0.below N (U4 a6 (U4 i.size j.size)));clear N)
     |(go_at_call 23;refine(HM _ d8).mono ?_;rintro e w2⟨D,b1⟩;unfold AP at D;subst D))
    refine⟨rfl,?_,i.trans ((j.trans ((a3.trans (b1.mono a3.size)).mono j.size)).mono i.size)⟩;unfold MH;rw[a4.out]
    rfl
   have b8:=Yc hv;obtain⟨HA,HI⟩:=Xt6 (Qc7 s b5 wr a1 hv) (fun W Z=>Zl v b8 W Z);have a7:=Qc8 hi;rw[a7]at HI;have e4:=J6 (show VJ (ws.take (k+1))=some (J++[v]) by rw[a9.out,E];rfl);clear E hv hi a7;go_wp2_with (first
    |(go_at_call 139;refine HA.mono ?_;rintro e w1⟨rfl,C⟩;have j:=J6 C;have a0:=J6 (a1.below C (U4 a6 i.size));clear C)
    |(go_at_call 19;refine(HI _ a0).mono ?_;rintro e w3⟨rfl,N⟩;have a3:=J6 N;have e3:=J6 (CC (CC (CC HR j) N) ((J9 w3.heap.size w3).alloc Q2 (.cells #[I O v] 3)));have e1:=J6 (QN w3 (.cells #[I O v] 3));clear N)
    |(at_builtin;(refine VZ _ rfl _ _ 54 rfl 0 3 i0 _ 1 8 underlying54 e8 f2 f3 f4 rfl Q0 (.slice A9 k c9) k _ rfl e3 ⟨w3.heap.size,0,none⟩ 1 1 [I O v] rfl rfl (XF (cs:= #[I O v]) (t:=3) (fr:=(0,0)) e1) J0 Q0 Q9 Q0 Q3 (w3.heap.size+1) Q3 ?_);intro gg cap w4 d4 d0 a5 f9;have e2:=J6 d4;have d9:=J6 d0;have d7:=J6 a5;clear d4 d0 a5))
   go_roundg (n0-(k+1))
   case measure=>omega
   have c8:=d9.out;rw[C8]at c8;have a5:=d7.out;rw[C8]at a5;have g0:=i.size;have g1:=j.size;have g2:=a3.size;have e6:Bz w w4:=(((i.trans ((j.trans (a3.mono j.size)).mono i.size)).alloc Q0 (.cells #[I O v] 3))).grown c8 Q7 (fun y hy=>by have:=b0.out y hy;omega);refine⟨k+1,cap,some ⟨gg,0,none⟩,J++[v],Q0,rfl,J5,rfl,e4,by rw[B6,a8.out];rfl,e6,?_,fun g hg=>?_⟩
   ·rw[L6]
    exact e2
   cases hg;obtain h1|h1:=a5
   ·exact b0 _ h1
   show w.heap.size<=gg;omega
  have e9:k=n0:=by omega
  subst e9;have f0:¬(k:Int)<(k:Int):=Q0;have d5:ws.take k=ws:=M4 (by have:=HL.out;omega);have a2:=c5.out;rw[d5]at a2;have a4:=J6 (show D6 ws n=some J by rw[HP.out];exact a2);clear d5 a2;go_wp2;go_ret;refine⟨?_,i⟩;unfold MH;rw[a4.out];refine⟨A9,c9,?_,by rw[a8.out];exact HR,b0⟩;rw[a8.out]
  rfl
end
section
open Go Go.Lib Go.RowKit Go.Shelf
section
variable {P:Program} (w:World)
theorem Ql4 E t u D e i(ht:P.underlying t=some (.slice e))(hu:P.underlying u=some .string)(N:P.info? e=some i)(hz:i.zero=some (.int .u8 0))(Z:i.size=1) (a1:i.bytes=1) v n xs (y:w.ownsRowF E e 1 v n xs) s(a0:n+s.size<=maxLen) (a3:n+s.size<=140737488355328) (a4:E<=w.heap.size):∃v' w',(Builtin.append_ #[t,u] D #[v,.string s]).run P w=.ok v' w'/\w'.ownsRowF E e 1 v' (n+s.size) (xs++strCells s)/\w.grownBy w' v.ownBlock/\∀g,v'.ownBlock=some g->v.ownBlock=some g\/w.heap.size<=g:=by
 obtain⟨v',w',h1,h2,h3,-⟩:=run_append_own_stringF (P:=P) w E t u D e i ht hu N hz Z a1 v n xs y s a0 a3 a4;refine⟨v',w',h1,h2,h3,fun g hg=>?_⟩;rcases y.2 with⟨rfl,rfl⟩|⟨J,cap,a2,fz,rfl,b1,a7,a6,b8,b2,a5,c5⟩
 ·obtain⟨v2,w2,k1,k2,-,-⟩:=run_append_own_stringF (P:=P) w (zS w) t u D e i ht hu N hz Z a1 (.slice none 0 0) 0 xs ⟨y.1,.inl ⟨rfl,rfl⟩⟩ s a0 a3 Q2
  rw[h1]at k1
  cases k1;exact .inr (k2.lt g hg).1
 have b9:n+s.size<=9223372036854775807:=by simp only[maxLen]at a0;omega
 have b0:xs.length=n:=by simpa using y.1
 by_cases a9:n+s.size<=cap
 ·have b5:a2.size=cap:=by simpa using a5
  have C:=run_append_room_stringF (P:=P) w t u D e i ht hu N Z J n cap a2 fz a7 (by simpa using a6) s a9 Q0;rw[h1]at C
  cases C;exact .inl hg
 have a8:∀j u,xs[j]?=some u->w.cell? (((aD J 0):Addr).add j)=some u:=y.cells (g:=J) rfl;have C:=run_append_grow_string (P:=P) w t u D e i (.int .u8 0) ht hu N hz (aD J 0) n cap xs (by rw[Z];simpa using b0) a8 s Q0 Q0 (by rw[a1];exact growslice_fits Q0 Q0);rw[h1]at C
 cases C
 right
 cases hg;exact X3 _
theorem Qk8{ops rest o a Q}(a1:o.guard=none)y x t u(ho:o.op=.call {callee:=.builtin .append,args:= #[y,x],argTypes:= #[t,u]}) j e i (ht:P.underlying t=some (.slice e)) (hu:P.underlying u=some .string) (hi:P.info? e=some i) (hz:i.zero=some (.int .u8 0))(a3:i.size=1) (Z:i.bytes=1) v n xs (hs:a.eval y=v) (a2:w.ownsRowF j e 1 v n xs) s (hx:a.eval x=.string s)(E:n+s.size<=maxLen) (a0:n+s.size<=140737488355328) (N:j<=w.heap.size)(h:∀v' w',w'.ownsRowF j e 1 v' (n+s.size) (xs++strCells s)->w.grownBy w' v.ownBlock->(∀g,v'.ownBlock=some g->v.ownBlock=some g\/w.heap.size<=g)->wpList P ops Q rest (a.put o.dst v') w'):wpList P ops Q (o::rest) a w:=by
 refine wpList_plain a1 fun K J=>?_
 obtain⟨v',w',hr,h2,C,D⟩:=Ql4 (P:=P) w j t u o.type e i ht hu hi hz a3 Z v n xs a2 s E a0 N;unfold Oper.wp execOp;simp only[ho,resolve,invoke,builtin,Sem.run_bind,Sem.run_pure,Result.andThen_ok,List.map_toArray,List.map_cons,List.map_nil,hs,hx,hr];exact J _ _ (h v' w' h2 C D)
end
structure GF(w:World)(n0 b:Nat)(p:Option Addr)(v:Value)(l:E9):Prop where
 hn:n0<=b
 blk:J7 w b 33 #[.pointer p,v]
 row:w.ownsRowF n0 5 1 v l.length (Lib.byteCells l)
 far:v.ownBlock≠some b
 own:p=none\/p=sA b
theorem GF.is{w n0 b p v l}(h:GF w n0 b p v l):Lib.IsBuilderF 33 5 n0 b (Lib.byteCells l) w:=by
 have i:(Lib.byteCells l).length=l.length:=by simp[Lib.byteCells]
 obtain e|e:=h.own
 ·exact .inl ⟨h.hn,v,by have:=h.blk;rw[e]at this;exact this,by rw[i];exact h.row,h.far⟩
 exact .inr ⟨h.hn,v,by have:=h.blk;rw[e]at this;exact this,by rw[i];exact h.row,h.far⟩
def WZ(b:Nat)(v:Value)(i:Nat):Prop:=i=b\/v.ownBlock=some i
theorem GF.lt{w n0 b p v l}(h:GF w n0 b p v l){i}(j:WZ b v i):n0<=i/\i<w.heap.size:=by
 obtain e|e:=j
 ·rw[e];exact⟨h.hn,h.blk.lt⟩
 exact h.row.lt i e
theorem GF.keeps{w w' n0 b p v l S}(h:GF w n0 b p v l)(hk:X4 S w w')(u:∀i,WZ b v i->¬S i):GF w' n0 b p v l:=by
 refine⟨h.hn,V0 h.blk hk (u b (.inl rfl)),?_,h.far,h.own⟩;obtain⟨h1,h2⟩:=h.row;refine⟨h1,?_⟩;obtain h2|⟨g,cap,y,C,j,D,E,N⟩:=h2
 ·exact .inl h2
 have J:=(h.row.lt g (by rw[j];rfl)).2;exact .inr ⟨g,cap,y,C,j,D,(hk.block g J (u g (.inr (by rw[j];rfl)))).trans E,N⟩
theorem Jt2:(prog.info? 5).map (fun i=>(i.zero,i.size,i.bytes))=some (some (.int .u8 0),1,1):=Q4
theorem Jt3{w n0 b p v l}(h:GF w n0 b p v l)s(hs:l.length+s.size<=140737488355328):Calls prog 8 #[pA b,.string s] w fun D w'=>D=.returned (.tuple #[I O s.size,.nilIface])/\∃v',GF w' n0 b (sA b) v' (l++s.data.toList)/\X4 (WZ b v) w w'/\∀i,WZ b v' i->WZ b v i\/w.heap.size<=i:=by
 obtain⟨i0,b8,c9,d2,d3⟩:=W8 Jt2;have HB:=J6 h;have d4:b<w.heap.size:=h.blk.lt;have c7:n0<=w.heap.size:=by have:=h.hn;omega
 have b0:Hid (Calls prog 17 #[IP (some ⟨b,0,none⟩)] w fun D w'=>D=.returned (.tuple #[])/\GF w' n0 b (some ⟨b,0,none⟩) v l/\X4 (fun i=>i=b) w w'):=by
  obtain e|e:=h.own
  ·subst e
   refine(Any.Builder_copyCheck_fresh (P:=prog) (ρ:=laysD156_ren) {laysD156 with} Zb.toX72 b w (by rw[X9 h.blk];rfl) ?_ (K0 h.blk 0)).mono ?_
   ·have:=h.blk
    unfold J7 at this;unfold World.shape?;rw[this]
    rfl
   rintro D w'⟨rfl,rfl⟩;have hk:=U1 w ⟨b,0,none⟩ (IP (some ⟨b,0,none⟩));refine⟨rfl,⟨h.hn,Z0 h.blk 0 _,?_,h.far,.inr rfl⟩,hk⟩;obtain⟨h1,h2⟩:=h.row;refine⟨h1,?_⟩;obtain h2|⟨g,cap,a0,fz,u,hb,hg,E⟩:=h2
   ·exact .inl h2
   have hl:=(h.row.lt g (by rw[u];rfl)).2;exact .inr ⟨g,cap,a0,fz,u,hb,(hk.block g hl (fun e=>h.far (by rw[u];exact C5 some e))).trans hg,E⟩
  subst e;refine(Any.Builder_copyCheck_used (P:=prog) (ρ:=laysD156_ren) {laysD156 with} Zb.toX72 b w (by rw[X9 h.blk];rfl)).mono ?_;rintro D w'⟨rfl,rfl⟩;exact⟨rfl,h,BG _ _⟩
 clear h;go_enter func8,ntmps8
 go_wp2_with (first
  |(go_at_call 17;refine b0.mono ?_;rintro D w1⟨rfl,a1,a7⟩;have y:=J6 a1;have a2:=J6 a7;have c0:w1.cell? ⟨b,0,none⟩=some (IP (some ⟨b,0,none⟩)):=(by rw[X9 a1.blk];rfl);have c1:w1.cell? ⟨b,1,none⟩=some v:=(by rw[X9 a1.blk];rfl);clear a1 a7)
  |(at_builtin;refine Qk8 _ rfl _ _ 31 9 rfl n0 5 i0 underlying31 underlying9 b8 c9 d2 d3 _ _ _ rfl y.row s rfl Q9 hs (U4 c7 a2.size) ?_;intro v' w2 a4 a3 a8;obtain⟨N,nn,cap,rfl⟩:∃N nn cap,v'=.slice N nn cap:=(by rcases a4.2 with⟨u,_⟩|⟨g,cap,a0,fz,u,_⟩<;>exact⟨_,_,_,u⟩);have Z:=TE y.blk a3 (fun e=>y.far e.symm);have d0:w2.cell? ⟨b,0,none⟩=some (IP (some ⟨b,0,none⟩)):=(by rw[X9 Z];rfl);have d1:w2.cell? ⟨b,1,none⟩=some v:=(by rw[X9 Z];rfl);have f1:=K0 Z 1;have b1:=J6 a4;have J:=J6 a3;have a5:=J6 a8;have a9:=J6 Z;clear a4 a3 a8 Z c0 c1))
 go_ret2;have c5:X4 (WZ b v) w1 w2:=⟨J.os,J.tape,J.output,J.size,fun i j hn=>J.block i j (fun e=>hn (.inr e.symm))⟩;have b9:X4 (WZ b v) w w2:=(a2.mono (fun i j=>.inl j)).trans c5 (fun i j=>.inl j);have c8:=U1 w2 ⟨b,1,none⟩ (.slice N nn cap);have d5:b<w1.heap.size:=y.blk.lt;have a6:(Value.slice N nn cap).ownBlock≠some b:=fun e=>by
  obtain C|C:=a5.out b e
  ·exact y.far C
  omega
 have c6:(l++s.data.toList).length=l.length+s.size:=by rw[B6,KD]
 have b5:Lib.byteCells l++Lib.strCells s=Lib.byteCells (l++s.data.toList):=by simp[Lib.byteCells,Lib.strCells]
 refine⟨rfl,.slice N nn cap,⟨y.hn,Z0 a9 1 _,?_,a6,.inr rfl⟩,b9.trans c8 (fun i j=>.inl (.inl j)),fun i j=>?_⟩
 ·have E:=b1.out
  rw[b5]at E;rw[c6];obtain⟨h1,h2⟩:=E;refine⟨h1,?_⟩;obtain h2|⟨g,b2,a0,fz,u,hb,hg,E⟩:=h2
  ·exact .inl h2
  exact .inr ⟨g,b2,a0,fz,u,hb,(Xf w2 ⟨b,1,none⟩ _ g (fun e=>a6 (by rw[u];exact C5 some e))).trans hg,E⟩
 obtain e|e:=j
 ·exact .inl (.inl e)
 obtain C|C:=a5.out i e
 ·exact .inl (.inr C)
 exact .inr (U4 a2.size C)
end
section
open Go Go.RowKit
theorem Dk p n(C:V3 n)old a1 w(hg:QH w)(hz:12<=w.heap.size)(hc:w.cell? (aD p 0)=some old)(hf:w.frozen? (aD p 0)=false):CallsD prog 18 #[pA p] (.panicking ({v:=.iface 62 (.agg #[I O n]),recovered:=false}::a1)) w fun e u' w'=>e=.returned (.tuple #[])/\u'=.panicking ({v:=.iface 62 (.agg #[I O n]),recovered:=true}::a1)/\w'.cell? (aD p 0)=some (.string ⟨(BB n).toArray⟩)/\X4 (fun i=>i=p) w w':=by
 refine callsD_of_wpS func18 rfl fun a3 cs hu=>?_
 apply wpS_seq;apply wpS_region;simp[wpOpsS,go_sem,recoverD,hu,ntmps18,Exit.thenS];refine wpS_of_wp ?_;obtain⟨u,Z⟩:∃u:Exit->Act->World->Prop,u=fun e N w'=>e=.normal/\N.defers=[]/\w'.cell? (aD p 0)=some (.string ⟨(BB n).toArray⟩)/\X4 (fun i=>i=p) w w':=⟨_,rfl⟩
 have J:=J6 Z;clear Z;rw[show(#[Value.pointer (some ⟨p,0,none⟩)]++((Array.replicate 18 undef).setIfInBounds 3 (.iface 62 (.agg #[I O n]):Value)).setIfInBounds 0 (.iface 62 (.agg #[I O n]):Value):Array Value)= #[Value.pointer (some ⟨p,0,none⟩),(.iface 62 (.agg #[I O n]):Value),undef,undef,(.iface 62 (.agg #[I O n]):Value),undef,undef,undef,undef,undef,undef,undef,undef,undef,undef,undef,undef,undef,undef]from rfl];clear hu;refine wp_mono (Q:=u) ?_ ?_;have a7:∀(v:Value)(w:World),(Instr.typeAssert (.iface 62 v) 20 62 true).run prog w=.ok (.tuple #[v,.bool true]) w:=fun v w=>Q4
 have a5:∀(x:Bool)(w:World),(Op.unary .not (.bool x)).run prog w=.ok (.bool (!x)) w:=fun _ _=>rfl
 have a0:=U5 w _ hc;have j:Bz w (w.alloc (.cells #[I O n] 62)):=(J9 _ w).alloc Q2 _;have E:=J6 (Zl n C _ (hg.below j hz));obtain⟨si,D⟩:∃si:ByteArray,⟨(Lib.itoa n).toArray⟩=si:=⟨_,rfl⟩;have a6:si.size<=21:=by rw[<-D,KD];simpa using Xi n C.1 C.2
 rw[D]at E
 ·go_wp2_with fail
  refine E.mono ?_;rintro e w1⟨rfl,y⟩;have a2:w1.cell? (aD p 0)=some old:=(y.cell (p:=(aD p 0)) Q7).trans ((j.cell (p:=(aD p 0)) a0).trans hc);have a4:w1.frozen? (aD p 0)=false:=(y.frozen (p:=(aD p 0)) Q7).trans ((j.frozen (p:=(aD p 0)) a0).trans hf);go_wp2_with fail
  rw[J.out];refine⟨rfl,rfl,?_,?_⟩
  ·rw[Jv w1 _ _ a2]
   refine C5 (fun x=>some (Value.string x)) (Go.WideShapes.bytes_inj ?_);rw[<-D];simp[BB]
  exact(B9 ((j.trans (y.mono j.size))) (fun i=>i=p)).trans (U1 w1 ⟨p,0,none⟩ _) (fun i hi=>.inl hi)
 intro e N w' h;rw[J.out]at h;obtain⟨rfl,h1,h2,h3⟩:=h;exact⟨h1,_,rfl,_,by simp[results,Tryz.results18,go_sem],rfl,rfl,h2,h3⟩
theorem Cp p w:CallsD prog 18 #[IP (some p)] .returning w fun e u w'=>e=.returned (.tuple #[])/\u=.returning/\w'=w:=by
 refine callsD_of_wpS func18 rfl fun i cs j=>?_
 apply wpS_seq;apply wpS_region;simp[wpOpsS,go_sem,recoverD,j,ntmps18,Exit.thenS];apply wpS_seq;apply wpS_region;simp[wpOpsS,go_sem,Exit.thenS];refine wpS_cond (t:=false) (by simp[Act.eval,Array.replicate]) ?_;simp only[Bool.false_eq_true,if_false];refine wpS_of_wp (wp_skip ?_)
 cases i
 simp_all [bodyPostS,results,Tryz.results18]
