/- Parts. -/
import Derived.Test.YtfoikonjjojkaaaGreatDoorZt8
import Derived.Test.YtfoikonjjojkaaaGreatDoorZt2
set_option linter.unusedVariables false
set_option maxRecDepth 100000
set_option maxHeartbeats 8000000
open Go.Proofs.Tryz
open Go.Value renaming int→I,pointer→IP
open Go.IntKind renaming i64→O
namespace Go.Proofs.YtfoikonjjojkaaaGreatDoor
open Go.RowKit
def Zq(h:Int×Int):Value:=.agg #[I O h.1,I O h.2]
section
variable {w:World} {A:Option Addr} {len:Nat} {ps:List (Int×Int)}
theorem Xn3{b off}(h:C0 w S7 2 (some (aD b off)) len ps){i}(u:i<ps.length):w.cell? (aD b (off+i*2))=some (I O ps[i].1)/\w.cell? (aD b (off+i*2+1))=some (I O ps[i].2):=⟨h.at_ u (j:=0) rfl,h.at_ u (j:=1) rfl⟩
theorem Yi{g n c t}(h:X8 w (sA g) n c t 2 (X7 S7 ps)){i}(y:i<ps.length):w.cell? (aD g (i*2))=some (I O ps[i].1)/\w.cell? (aD g (i*2+1))=some (I O ps[i].2):=by
 obtain⟨C,u,j⟩:=h.elem NN Q0 y
 cases u;exact⟨j 0 _ rfl,j 1 _ rfl⟩
end
theorem Wx h:∀u∈S7 h,u.oneCell'=true:=by intro u i;simp[S7]at i;obtain rfl|rfl:=i<;>rfl
def Fy(w:World)(S:Nat->Prop)(g:FuncId)(lb:Array Value)(F:(Int×Int)->Bool):Prop:=
 ∀W p,X4 S w W->Calls prog g (#[Zq p]++lb) W fun e w'=>e=.returned (.bool (F p))/\Bz W w'
theorem Jc8 g lb F(eg:∀args w,(callFunc g args).run prog w=.ok (.enter g args) w)A n c ps w S(hp:Fy w S g lb F) (h:C0 w S7 2 A n ps) (hm:n<=1000000):Calls prog 263 #[.slice A n c,.func (.func g) #[] lb] w fun e w'=>Bz w w'/\(((∀i(u:i<ps.length),F ps[i]=false)/\e=.returned (I O (-1)))\/∃(k:Nat)(hk:k<ps.length),F ps[k]=true/\(∀i(u:i<ps.length),i<k->F ps[i]=false)/\e=.returned (I O k)):=by
 have hl:=h.1;obtain⟨HP,HL,HH⟩:=Xt7 hp hl h;clear hp hl h;go_enter func263,ntmps263
 go_wp2
 go_loopg [5,8] n (fun gg _ s8 wr=>∃j,j<=n/\gg=n-j/\s8=I O j/\Bz w wr/\Hid (∀i(u:i<ps.length),i<j->F ps[i]=false))
 case atStart=>exact⟨0,U9 _,rfl,rfl,J9 _ w,J6 fun i _ u=>absurd u (Nat.not_lt_zero _)⟩
 obtain⟨j,a3,rfl,rfl,y,J⟩:=hrel
 by_cases a4:j<n
 ·obtain⟨b,a5,rfl,_,_⟩:=HH.2 Q0
  have a0:j<ps.length:=by have:=HL.out;omega
  obtain⟨x0,x1⟩:=Xn3 (HH.below y Q2) a0;have C:=HP.out wr ps[j] (B9 y _);have a1:(j:Int)<(n:Int):=Q0;obtain⟨p,E⟩:∃p,Hid (ps[j]=p):=⟨_,J6 rfl⟩;rw[E.out]at x0 x1 C;obtain⟨p0,p1⟩:=p;unfold Zq at C;dsimp only at x0 x1 C
  cases D:F (p0,p1)with
  |true=>
   rw[D]at C;have N:=J6 D;clear D;go_wp2_with (go_at_fn g;refine C.mono ?_;rintro e w'⟨rfl,Z⟩)
   go_ret;exact⟨y.trans (Z.mono y.size),.inr ⟨j,a0,by rw[E.out];exact N,J,rfl⟩⟩
  |false=>
   rw[D]at C;have N:=J6 D;clear D;go_wp2_with (go_at_fn g;refine C.mono ?_;rintro e w'⟨rfl,Z⟩)
   go_roundg (n-(j+1))
   case measure=>omega
   refine⟨j+1,Q0,rfl,J5,y.trans (Z.mono y.size),J6 fun i u a2=>?_⟩
   by_cases e:i=j
   ·subst e
    rw[E.out];exact N
   exact J i u Q0
 have a1:¬(j:Int)<(n:Int):=by omega
 obtain rfl:j=n:=Q0;go_wp2;go_ret;exact⟨y,.inl ⟨fun i u=>J i u (by have:=HL.out;omega),rfl⟩⟩
structure RR(F:(Int×Int)->Bool)(ps cs:List (Int×Int))(i j:Nat):Prop where
 len:cs.length=ps.length
 lt:i<j
 jn:j<=ps.length
 done:cs.take i=(ps.take j).filter (fun p=> !F p)
 rest:∀m(h:m<ps.length)(h':m<cs.length),j<=m->cs[m]=ps[m]
theorem RR.skip{F ps cs i j}(h:RR F ps cs i j)(u:j<ps.length)(y:F ps[j]=true):RR F ps cs i (j+1):=
 ⟨h.len,by have:=h.lt;omega,u,by rw[M9 u,JE,h.done];simp[y],fun m C D E=>h.rest m C D Q0⟩
theorem RR.keep{F ps cs i j}(h:RR F ps cs i j)(u:j<ps.length)(y:F ps[j]=false):RR F ps (cs.set i ps[j]) (i+1) (j+1):=by
 have N:=h.lt;have J:=h.len;refine⟨by rw[XH];exact h.len,Q0,u,?_,fun m C D E=>?_⟩
 ·rw[M9 u,JE,<-h.done,M9 (by rw[XH];omega),SL,Xb Q2]
  simp[y]
 rw[WD Q0];exact h.rest m C (by simpa using D) Q0
theorem Jn0{w g n c t cs}(h:X8 w (sA g) n c t 2 (X7 S7 cs)){i}(j:i<cs.length)p:X8 ((w.setCell (aD g (i*2)) (I O p.1)).setCell (aD g (i*2+1)) (I O p.2)) (sA g) n c t 2 (X7 S7 (cs.set i p)):=by rw[<-TB NN p cs i j];exact(h.set _ _).set _ _
theorem Et w g a b x y:X4 (fun i=>i=g) w ((w.setCell (aD g a) x).setCell (aD g b) y):=
 (U1 w (aD g a) x).trans (U1 _ (aD g b) y) (fun i h=>.inl h)
theorem Qv5 g lb F(eg:∀args w,(callFunc g args).run prog w=.ok (.enter g args) w)A n c ps w S(hp:Fy w S g lb F) (h:X8 w A n c 261 2 (X7 S7 ps)) (hS:∀g,X5 A=some g->S g) (hm:n<=1000000):Calls prog 229 #[.slice A n c,.func (.func g) #[] lb] w fun e w'=>X4 S w w'/\∃m,e=.returned (.slice A m c)/\X8 w' A m c 261 2 (X7 S7 (ps.filter fun p=> !F p)):=by
 obtain⟨HP,HH,HL,HE⟩:=Xt8 hp h (YU NN Q0 h) (CY NN Q0 h);clear hp h;go_enter func229,ntmps229
 go_wp2_with fail
 refine(Jc8 g lb F eg A n c ps w S HP HE hm).mono ?_;rintro e w1⟨hB,⟨b1,rfl⟩|⟨k,hk,hy,a9,rfl⟩⟩
 ·have HX:Hid (ps.filter (fun p=> !F p)=ps):=J6 (by
   rw[VT];intro p hp;obtain⟨i,hi,rfl⟩:=ZX.1 hp;rw[b1 i hi];rfl)
  clear b1;go_wp2;go_ret;exact⟨B9 hB _,n,rfl,by rw[HX.out];exact HH.below hB⟩
 obtain⟨gr,rfl⟩:∃gr,A=sA gr:=by obtain⟨gr,hA,_⟩:=HH.elem NN Q0 hk;exact⟨gr,hA⟩
 have a8:=hS gr rfl;have hn:=HL.out;have e2:((k:Int) == -1)=false:=Z3 Q0;have a6:RR F ps ps k (k+1):=⟨rfl,Q0,Q0,by
  rw[M9 hk,JE,VT.2]
  ·simp[hy]
  intro p hp;obtain⟨i,hi,rfl⟩:=ZX.1 hp;have b9:i<k:=by simp at hi;omega
  rw[MQ,a9 i Q0 b9];rfl,fun m _ _ _=>rfl⟩
 obtain⟨HI,HR⟩:=Xt6 a6 (HH.below hB);clear a9 hy a6;have a0:=J6 hn;have d9:k<1000000:=Q0;clear hn hk;go_wp2_with fail
 go_loopg [5,6,7] n (fun gg s5 s6 _ wr=>∃(i j:Nat)(cs:List (Int×Int)),s5=I O i/\s6=I O j/\j<=n/\n-j<=gg/\X4 S w wr/\X8 wr (sA gr) n c 261 2 (X7 S7 cs)/\Hid (RR F ps cs i j))
 case atStart=>exact⟨k,k+1,ps,rfl,J5,by have:=HI.jn;have:=a0.out;omega,Q0,B9 hB _,HR,HI⟩
 obtain⟨i,j,cs,rfl,rfl,hj,hg,hK,u,C⟩:=hrel;have c6:=C.lt;have a3:cs.length=n:=by have:=C.len;have:=a0.out;omega
 have HC:=J6 a3
 by_cases e1:j<n
 ·have b0:j<cs.length:=by omega
  have a4:j<ps.length:=by have:=a0.out;omega
  obtain⟨x0,x1⟩:=Yi u b0;have c8:(j:Int)<(n:Int):=Q0;have er:=C.rest j a4 b0 Q2;obtain⟨p,E⟩:∃p,Hid (ps[j]=p):=⟨_,J6 rfl⟩;rw[er,E.out]at x0 x1;obtain⟨p0,y⟩:=p;dsimp only at x0 x1;have a1:Bz wr (wr.alloc (.cells #[I O p0,I O y] 261)):=Q5.alloc Q2 _;have a5:=J6 a1;have J:=HP.out _ (p0,y) (hK.then_ a1);obtain⟨a7,b2,HK⟩:=Xt7 (u.below a1) (Z5 wr 261 #[I O p0,I O y]) hK;have d4:=u.lt (g:=gr) rfl;unfold Zq at J;dsimp only at J;clear u er a3 a1 hK
  cases N:F (p0,y)with
  |true=>
   rw[N]at J;have HQ:=J6 N;clear N;go_wp2_with (go_at_fn g;refine J.mono ?_;rintro e w'⟨rfl,D⟩)
   go_roundg (n-(j+1))
   case measure=>omega
   exact⟨i,j+1,cs,rfl,J5,Q0,Q0,HK.then_ (a5.trans (D.mono Q3)),a7.below D,J6 (C.skip a4 (by rw[E.out];exact HQ))⟩
  |false=>
   rw[N]at J;have HQ:=J6 N;clear N;go_wp2_with fail
   refine J.mono ?_;rintro e w2⟨rfl,D⟩;have Z:=a7.below D;have a2:=Z4 b2 D;have z0:w2.cell? (aD (zS wr) 0)=some (I O p0):=by rw[X9 a2];rfl
   have z1:w2.cell? (aD (zS wr) 1)=some (I O y):=by rw[X9 a2];rfl
   have c7:i<cs.length:=by have:=HC.out;omega
   have d5:(i:Int)<(n:Int):=Q0;have c5:(0:Int)<=(i:Int):=Q0;obtain⟨y0,y1⟩:=Yi Z c7;have f0:=Z.frozen (i*2);have f1:=Z.frozen (i*2+1);generalize cs[i].1=o0 at y0;generalize cs[i].2=o1 at y1;have b5:=J6 Z;clear x0 x1 Z a2;go_wp2
   go_roundg (n-(j+1))
   case measure=>omega
   refine⟨i+1,j+1,cs.set i (p0,y),J5,J5,Q0,Q0,?_,Jn0 b5 (by have:=HC.out;omega) (p0,y),J6 ?_⟩
   ·exact((HK.then_ a5).then_ D).trans (Et _ _ _ _ _ _) (fun x hx=>.inl (by subst hx;exact a8))
   have:=C.keep a4 (by rw[E.out];exact HQ);rw[E.out]at this;exact this
 obtain rfl:j=n:=by omega
 have c8:¬(j:Int)<(j:Int):=Q0;have d8:i<j:=c6;obtain⟨vs,e3,d3⟩:=Bd (P:=prog) wr 267 261 0 (.agg #[I O 0,I O 0]) 2 underlying267 (fun _=>Q4) rfl Q0 (by intro v hv;simp[Value.cells]at hv;subst hv;rfl) gr (i*2) (j-i) (c-i) Q0
  (fun x hx=>u.some_ Q0) (fun x hx=>u.frozen _)
 have b8:=J6 u;obtain⟨c9,d0⟩:=u.cap;have d1:i<c:=Q0;have d2:¬c=i:=Q0;have c5:(0:Int)<=(i:Int):=Q0;have d6:(i:Int)<=(j:Int):=Q0;have d7:(j:Int)<=(c:Int):=Q0;clear a3 u;go_wp2;go_ret;refine⟨hK.trans (TQ _ _ _ _) (fun x hx=>.inl (by subst hx;exact a8)),i,rfl,?_⟩;have hd:=C.done;rw[M4 (l:=ps) (by rw[a0.out];exact X3 _)]at hd;rw[<-hd,<-Uf NN];exact X8.sets_past _ _ _ (b8.pop i Q0) Q2
def WA(h p:Int×Int):Bool:=p.1 ==h.1 &&p.2 ==h.2
theorem Xn4{h p}:WA h p=true↔p=h:=by unfold WA;obtain⟨a,b⟩:=h;obtain⟨c,d⟩:=p;simp
theorem Qr0 p pb h w(i:w.cell? (aD pb 0)=some (I O h.1))(h1:w.cell? (aD pb 1)=some (I O h.2)):Calls prog 230 #[Zq p,pA pb] w fun e w'=>e=.returned (.bool (WA h p))/\Bz w w':=by
 obtain⟨a,b⟩:=p;obtain⟨c,d⟩:=h;unfold Zq;dsimp only at*;have j:=U5 w _ i;have y:=(W7 w (.cells #[I O a,I O b] 261) (aD pb 0) j).trans i;have C:=(W7 w (.cells #[I O a,I O b] 261) (aD pb 1) j).trans h1;have u:Hid (WA (c,d) (a,b)=((a ==c) && (b ==d))):=J6 rfl;go_enter func230,ntmps230
 go_wp2
 all_goals
  go_ret;exact⟨JH (by simp[WA, *]),Q5.alloc Q2 _⟩
theorem Wy w A n c u pb h(E:X8 w A n c 261 2 (X7 S7 u))(hm:n<=1000000)(Z:X5 A≠some pb) (y:w.cell? (aD pb 0)=some (I O h.1)) (h1:w.cell? (aD pb 1)=some (I O h.2)):Calls prog 228 #[.slice A n c,pA pb] w fun e w'=>X4 (fun i=>X5 A=some i) w w'/\e=.returned (.slice A (u.filter fun p=> !WA h p).length c)/\X8 w' A (u.filter fun p=> !WA h p).length c 261 2 (X7 S7 (u.filter fun p=> !WA h p)):=by
 have eg:=R0 func230 Q4 rfl;have J:=U5 w _ y;have hp:Fy w (fun i=>X5 A=some i) 230 #[pA pb] (WA h):=fun W p j=>
  Qr0 p pb h W ((j.cell (p:=(aD pb 0)) J Z).trans y) ((j.cell (p:=(aD pb 1)) J Z).trans h1)
 have a1:∀w,(Instr.makeFunc (.func 230) #[] #[pA pb]).run prog w=.ok (.func (.func 230) #[] #[pA pb]) w:=fun _=>rfl
 obtain⟨HR,HP⟩:=Xt6 E hp;clear E hp y h1;go_enter func228,ntmps228
 go_wp2_with fail
 refine(Qv5 _ _ (WA h) eg A n c u w _ HP HR (fun _ e=>e) hm).mono ?_;rintro e w1⟨j,m,rfl,C⟩;have N:=YU NN Q0 C;obtain⟨D,HK,a0⟩:=Xt7 N j C;clear N j C;go_wp2;go_ret;refine⟨HK,by rw[D.out];rfl,?_⟩;rw[D.out];exact a0
theorem Qo3(w:World)(X:Nat)(t:TypeId)(cs:Array Value)(o:Nat)(A:Option Addr)(c:Nat)(lv:List Z7)(bu se:Int)(h:KF w X t cs o A c lv bu se)(hs:MT lv bu se)(z:X6)(hr:AH z)(hk:z.kind=2)(q:Int)(hq:q=1\/q= -1)(hp:q= -1->z.qty<=(if z.side=1 then bu else se)):Calls prog 236 #[IP (some (aD X o)),V6 z,I O q] w fun e w'=>(∃v,e=.returned v)/\UC w w' X t cs o A lv (bu+q*dB z) (se+q*dS z):=by
 obtain⟨⟨hb1,hb2⟩,⟨hs1,hs2⟩,-,-⟩:=hs;obtain⟨hsd,⟨hq1,hq2⟩,-⟩:=hr;have hbx:Bz w (w.alloc (.cells #[I O z.id,I O z.side,I O z.kind,I O z.price,I O z.qty] 84)):=(J9 _ w).alloc Q2 _;have h':=h.below hbx;obtain⟨y0,y1,y2⟩:=h'.cells;have f1:=K0 h'.blk (o+1);have f2:=K0 h'.blk (o+2);have hX:=Z9 h.blk;have t1:=V4 hk;obtain⟨H,HBx⟩:=Xt6 h hbx;unfold V6;have hm1:RowKit.wrap64 (z.qty*q)=z.qty*q:=by obtain rfl|rfl:=hq<;>(unfold RowKit.wrap64;omega)
 obtain⟨m,hm⟩:∃m,z.qty*q=m:=⟨_,rfl⟩;have hmq:m=q*z.qty:=by rw[<-hm,Int.mul_comm]
 have hmb: -1000000<=m/\m<=1000000:=by obtain rfl|rfl:=hq<;>omega
 rw[hm]at hm1;obtain hsd|hsd:=hsd
 ·have t2:=V4 hsd
  have i1:RowKit.wrap64 (bu+m)=bu+m:=by unfold RowKit.wrap64;omega
  have e1:bu+q*dB z=bu+m:=by unfold dB;rw[X0 hsd,hmq]
  have e2:se+q*dS z=se:=by unfold dS;rw[X0 hsd];omega
  rw[e1,e2];clear h h' hbx hk hsd hq hp hm1 hmq hb1 hb2 hs1 hs2 hq1 hq2 e1 e2 y0 y2 f2;go_enter func236,ntmps236
  go_wp2_with fail
  refine QA (YV rfl _ _ _) rfl ?_;exact⟨⟨_,rfl⟩,(H.out.market Q5 _ _ 1 _ (.inl ⟨rfl,rfl,rfl⟩)).then_ (Q5.alloc Q2 _)⟩
 have t2:=Z3 (show¬z.side=1 by omega);have i1:RowKit.wrap64 (se+m)=se+m:=by unfold RowKit.wrap64;omega
 have e1:bu+q*dB z=bu:=by unfold dB;rw[J8 Q0];omega
 have e2:se+q*dS z=se+m:=by unfold dS;rw[J8 Q0,hmq]
 rw[e1,e2];clear h h' hbx hk hsd hq hp hm1 hmq hb1 hb2 hs1 hs2 hq1 hq2 e1 e2 y0 y1 f1;go_enter func236,ntmps236
 go_wp2_with fail
 refine QA (YV rfl _ _ _) rfl ?_;exact⟨⟨_,rfl⟩,(H.out.market Q5 _ _ 2 _ (.inr ⟨rfl,rfl,rfl⟩)).then_ (Q5.alloc Q2 _)⟩
theorem Xi3{lv2:List Z7}{n1 k m2:Nat}(h:lv2.length=n1)(hk:k<lv2.length)(e:k+(n1-(k+1))=m2):lv2.length=m2+1:=Q0
theorem Jz2{n k:Nat}(hn:n<=99999)(hk:k<=n):RowKit.wrap64 ((k:Int)+1)=(k:Int)+1:=by unfold RowKit.wrap64;omega
theorem Qr1(w:World)(X:Nat)(t:TypeId)(cs:Array Value)(o:Nat)(A:Option Addr)(c:Nat)(lv:List Z7)(bu se:Int)(h:KF w X t cs o A c lv bu se)(hs:MT lv bu se)(z:X6)(hr:AH z)(hk:z.kind≠2)(q:Int)(hq:q=1\/q= -1)(hp:q= -1->z.qty<=(if z.side=1 then(F8 lv z.price).1 else(F8 lv z.price).2)):Calls prog 236 #[IP (some (aD X o)),V6 z,I O q] w fun e w'=>(∃v,e=.returned v)/\∃lv',UC w w' X t cs o A lv' bu se/\lv'.length<=lv.length+1/\∀p,F8 lv' p=if p=z.price then((F8 lv p).1+q*dB z,(F8 lv p).2+q*dS z)else F8 lv p:=by
 obtain⟨hsd,⟨hq1,hq2⟩,hpr⟩:=hr;have hpr:1<=z.price/\z.price<=1000000:=hpr.resolve_left hk;have hbx:Bz w (w.alloc (.cells #[I O z.id,I O z.side,I O z.kind,I O z.price,I O z.qty] 84)):=(J9 _ w).alloc Q2 _;have h':=h.below hbx;obtain⟨n,hn⟩:∃n,lv.length=n:=⟨_,rfl⟩;have hn1:n<=99999:=by have:=hs.n;omega
 have y0:=h'.cells.1;rw[hn]at y0;obtain⟨w1,hw1⟩:∃w1,w.alloc (.cells #[I O z.id,I O z.side,I O z.kind,I O z.price,I O z.qty] 84)=w1:=⟨_,rfl⟩;obtain⟨Bx,hBx⟩:∃Bx,w.heap.size=Bx:=⟨_,rfl⟩;have hB1:=Z5 w 84 #[I O z.id,I O z.side,I O z.kind,I O z.price,I O z.qty];rw[hw1]at hbx h' y0 hB1;rw[hBx]at hB1;have hXl:=Z9 h'.blk;have hXB:X<Bx:=by rw[<-hBx];exact Z9 h.blk
 have hBl:=Z9 hB1;obtain⟨x0,x1,x2,x3,x4⟩:=(show w1.cell? ⟨Bx,0,none⟩=some (I O z.id)/\w1.cell? ⟨Bx,1,none⟩=some (I O z.side)/\w1.cell? ⟨Bx,2,none⟩=some (I O z.kind)/\w1.cell? ⟨Bx,3,none⟩=some (I O z.price)/\w1.cell? ⟨Bx,4,none⟩=some (I O z.qty)from⟨by rw[X9 hB1];rfl,by rw[X9 hB1];rfl,by rw[X9 hB1];rfl,by rw[X9 hB1];rfl,by rw[X9 hB1];rfl⟩);have hse:=Lu z.price 269 #[] A n c lv w1.drew (by rw[<-hn];exact CY QE Q0 (h'.below (Z2 Q5)).row) h.ok.rank Q0 (R0 func269 Q4 rfl)
  (fun W q hm hW=>Qo0 q.1 q.2.1 q.2.2 z.price (by have:=h.ok.pr q hm;unfold MM;omega) (by unfold MM;omega) W)
 have HSe:=J6 hse;have t1:=Z3 hk;obtain⟨H,HS,Hn,HNb,HBx,HB1⟩:=Xu0 h hs hn (show X5 A≠some Bx from fun e=>by have:=h.row.lt e;omega) hbx hB1;have hm1:RowKit.wrap64 (z.qty*q)=z.qty*q:=by obtain rfl|rfl:=hq<;>(unfold RowKit.wrap64;omega)
 obtain⟨m,hm⟩:∃m,z.qty*q=m:=⟨_,rfl⟩;have hmq:q*z.qty=m:=by rw[<-hm,Int.mul_comm]
 replace hm1:RowKit.wrap64 (z.qty*q)=m:=hm1.trans hm;obtain⟨Hm,Hq,Hp,Hsd,Hq12⟩:=Xt9 hmq hq hp hsd (show 1<=z.qty/\z.qty<=1000000 from⟨hq1,hq2⟩);unfold V6;clear h h' hs hse hbx hB1 hk hpr hq hp hm hmq hsd hn hq1 hq2;go_enter func236,ntmps236
 go_upto_region 1 with fail
 clear hw1 hBx;go_wp2_with fail
 refine SP 11 (fun W=>W.cell? ⟨X,o,none⟩=some (.slice A n c)/\W.cell? ⟨Bx,3,none⟩=some (I O z.price)) Q4 ⟨y0,x3⟩ (fun hS=>?_);refine tT 0 ?_;refine tT 1 ?_;refine tT 2 ?_;refine tT 3 ?_;refine tT 4 ?_;refine tT 5 ?_;refine VU 6 Q4 rfl (fun K1 hK1=>?_);go_simp;refine HSe.out.mono ?_;rintro e w2⟨hb2,k,hkn,hk1,hk2,rfl⟩;obtain⟨fb,hfb⟩:∃fb,LV lv z.price n k=fb:=⟨_,rfl⟩;rw[hfb];have hy0:=(hb2.cell (p:=⟨X,o,none⟩) hXl).trans y0;have hx3:=(hb2.cell (p:=⟨Bx,3,none⟩) hBl).trans x3;refine hK1 _ _ ⟨hy0,hx3⟩ (fun hS=>?_);clear hK1;refine tT 7 ?_;refine tT 8 ?_;refine tT 9 ?_;refine tT 10 ?_;refine TV Q4 rfl (fun K1 hK1=>?_);go_simp;refine hK1 _ _ (TZ Q4 ?_ _);clear hK1;have HB2:=J6 hb2;clear hb2 hS;go_upto_if 47 with fail
 obtain⟨⟨lb1,lb2⟩,⟨ls1,ls2⟩⟩:=HS.out.lot H.out.ok z.price;obtain⟨b0,hb0⟩:∃b0,(F8 lv z.price).1=b0:=⟨_,rfl⟩;obtain⟨s0,hs0⟩:∃s0,(F8 lv z.price).2=s0:=⟨_,rfl⟩;have hlot:F8 lv z.price=(b0,s0):=by rw[<-hb0,<-hs0]
 rw[hb0]at lb1 lb2;rw[hs0]at ls1 ls2;have HLot:=J6 hlot;clear hb0 hs0 hlot;obtain⟨HW2,HBb2,HFb,HK1,HK2⟩:=Xt9 (show Bz w w2 from HBx.out.trans ((Z2 (J9 _ w1)).trans (HB2.out.mono HBx.out.size))) (Z4 (Y6 HB1.out) HB2.out) hfb hk1 hk2;have hXl2:X<w2.heap.size:=D0 (Z9 H.out.blk) HW2.out.size;have HP:=J6 (hpr.resolve_left (fun e=>by rw[V4 e]at t1;cases t1));clear hfb hk1 hk2 HSe HB1 HB2 HBx x0 x1 x2 x3 x4 y0 hXl hBl hpr t1
 go_cut [48] (fun s48 wx=>∃cs1 A1 c1 lv1,UW w wx X t cs o A lv bu se z.price k cs1 A1 c1 lv1 b0 s0/\J7 wx Bx 84 #[I O z.id,I O z.side,I O z.kind,I O z.price,I O z.qty])
 case first=>
  cases fb with
  |true=>
   go_wp2_with fail
   go_meet;obtain⟨hkl,hkp⟩:=Lt Hn.out HFb.out;obtain⟨e1,e2⟩:=UW.found H.out HW2.out hkl hkp;rw[HLot.out]at e2;obtain⟨rfl,rfl⟩:=Prod.mk.inj e2;exact⟨_,_,_,_,e1,HBb2.out⟩
  |false=>
   have hvb:Bz w2 ((w2.alloc (.cells #[I O z.price,I O 0,I O 0] 331)).drew):=Z2 (Q5.alloc Q2 _);have hM2:=(H.out.below HW2.out).below hvb;have hr2:=hM2.row;rw[Hn.out]at hr2;have hins:=Qu6 Xs4 ((w2.alloc (.cells #[I O z.price,I O 0,I O 0] 331)).drew) A n c k lv w2.heap.size (z.price,0,0) hr2 (Y6 (Z5 w2 _ _)) (fun e=>by have:=(H.out.below HW2.out).row.lt e;omega) Q0 hkn;obtain⟨HIns,HM2,HV2,HBv⟩:=Xt8 hins hM2 hvb (Z4 HBb2.out hvb);have hnn:lv.length=n:=Hn.out;have HNn:=J6 hnn;clear hM2 hvb hr2 hins hnn hS;go_wp2_with fail
   go_region_with (go_at_call 270;refine HIns.out.mono ?_;rintro e w3⟨A3,c3,rfl,hI3⟩;have b3:=V0 HM2.out.blk hI3.2.1 (fun e=>HM2.out.na e);have r0:w3.cell? ⟨X,o,none⟩=some (.slice A n c):=(by rw[X9 b3,<-HNn.out];exact HM2.out.c0);have rf0:=K0 b3 o;have HI3:=J6 hI3;clear hI3 b3)
   all_goals go_wp2_with fail
   all_goals go_meet
   all_goals
    have h3:=HI3.out;have hb3:=V0 HBv.out h3.2.1 HNb.out;rw[<-Hn.out]at h3;obtain⟨e1,e2⟩:=UW.new_ H.out (HW2.out.trans (HV2.out.mono HW2.out.size)) (by have:=Hn.out;omega) HK1.out HK2.out (Le Hn.out H.out.ok.rank HFb.out HK1.out HK2.out) h3;rw[Hn.out]at e1;rw[HLot.out]at e2;obtain⟨rfl,rfl⟩:=Prod.mk.inj e2;exact⟨_,_,_,_,e1,ZR hb3 (by show Bx≠X;omega) _⟩
 obtain⟨cs1,A1,c1,lv1,hM,hB⟩:=hcut;obtain⟨hkl,hkv,-⟩:=hM.parts;obtain⟨g,hA1,-⟩:=hM.row.elem QE Q0 hkl;subst hA1;obtain⟨n1,hn1'⟩:∃n1,lv1.length=n1:=⟨_,rfl⟩;have y0:wc.cell? ⟨X,o,none⟩=some (.slice (some ⟨g,0,none⟩) n1 c1):=by rw[X9 hM.blk,<-hn1'];exact hM.c0
 obtain⟨l0,l1,l2⟩:=Kr hM.row hkl;rw[hkv]at l1 l2;dsimp only at l1 l2;have x1:wc.cell? ⟨Bx,1,none⟩=some (I O z.side):=by rw[X9 hB];rfl
 have hkz:(k:Int)<(n1:Int):=Q0;have hk0:(0:Int)<=(k:Int):=Q0;have f1:=hM.row.frozen (k*3+1);have f2:=hM.row.frozen (k*3+2);obtain⟨HM,Hn1⟩:=Xt6 hM hn1';have hmq:=Hm.out;have hq12:=Hq12.out;have hmb: -1000000<=m/\m<=1000000:=by obtain rfl|rfl:=Hq.out<;>omega
 have hnn:0<=b0+q*dB z/\0<=s0+q*dS z:=by
  have hp:=Hp.out;rw[HLot.out]at hp;unfold dB dS;obtain rfl|rfl:=Hq.out
  ·split<;>omega
  have hp:=hp rfl
  split at hp<;>(dsimp only at hp;split<;>omega)
 obtain⟨hz1,hz2⟩:=hnn;obtain⟨b',hb'⟩:∃b',b0+q*dB z=b':=⟨_,rfl⟩;obtain⟨s',hs'⟩:∃s',s0+q*dS z=s':=⟨_,rfl⟩;rw[hb']at hz1;rw[hs']at hz2;obtain⟨Hz,Hbs,Hmq,Hmb⟩:=Xt8 (And.intro hz1 hz2) (And.intro hb' hs') hmq hmb;clear hM hB l0 hkl hkv hn1' hz1 hz2 hb' hs' hmq hmb hq12 Hq Hp;go_upto_if 69 with fail
 go_cut [70] (fun s70 wx=>∃lv2,lv2.length=n1/\UW w wx X t cs o A lv bu se z.price k cs1 (some ⟨g,0,none⟩) c1 lv2 b' s')
 case first=>
  obtain hsd|hsd:=Hsd.out
  ·have t2:=V4 hsd
   have i1:RowKit.wrap64 (b0+m)=b0+m:=by have:=Hmb.out;unfold RowKit.wrap64;omega
   have HSd:=J6 hsd;clear hsd l2 f2;go_wp2_with fail
   go_meet;refine⟨_,?_,HM.out.put 1 (b0+m) (.inl ⟨rfl,?_,?_⟩)⟩
   ·rw[XH];exact Hn1.out
   ·have:=Hbs.out.1
    unfold dB at this;rw[X0 HSd.out,Hmq.out]at this;exact this.symm
   have:=Hbs.out.2;unfold dS at this;rw[X0 HSd.out]at this;omega
  have t2:=Z3 (show¬z.side=1 by omega);have i1:RowKit.wrap64 (s0+m)=s0+m:=by have:=Hmb.out;unfold RowKit.wrap64;omega
  have HSd:=J6 (show¬z.side=1 by omega);clear hsd l1 f1;go_wp2_with fail
  go_meet;refine⟨_,?_,HM.out.put 2 (s0+m) (.inr ⟨rfl,?_,?_⟩)⟩
  ·rw[XH];exact Hn1.out
  ·have:=Hbs.out.1
   unfold dB at this;rw[J8 HSd.out]at this;omega
  have:=Hbs.out.2;unfold dS at this;rw[J8 HSd.out,Hmq.out]at this;exact this.symm
 obtain⟨lv2,hl2,hM2⟩:=hcut;obtain⟨hkl,hkv,-⟩:=hM2.parts;obtain⟨-,l1,l2⟩:=Kr hM2.row hkl;rw[hkv]at l1 l2;dsimp only at l1 l2;obtain⟨HM2,Hl2⟩:=Xt6 hM2 hl2;have hfin:∀lv':List Z7,(∀p',F8 lv' p'=if p'=z.price then(b',s')else F8 lv p')->∀p',F8 lv' p'=if p'=z.price then((F8 lv p').1+q*dB z,(F8 lv p').2+q*dS z)else F8 lv p':=fun lv' h p'=>by
  rw[h p']
  by_cases e:p'=z.price
  ·rw[X0 e,X0 e,e,HLot.out,Hbs.out.1,Hbs.out.2]
  rw[J8 e,J8 e]
 have HFin:=J6 hfin
 by_cases hz1:b'=0
 ·by_cases hz2:s'=0
  ·subst hz1
   subst hz2;have hrow:=hM2.row;rw[hl2]at hrow;have h0z:((0:Int) ==0)=true:=rfl;have hdel:=Bm Xs5 wc g n1 c1 k (k+1) ((k:Int)+1) Q0 lv2 hrow (by have:=hM2.len;have:=Hn.out;omega) Q0 Q0;obtain⟨m2,hm2⟩:∃m2,k+(n1-(k+1))=m2:=⟨_,rfl⟩;rw[hm2]at hdel;have y0:wc.cell? ⟨X,o,none⟩=some (.slice (some ⟨g,0,none⟩) n1 c1):=by rw[X9 hM2.blk,<-hl2];exact hM2.c0
   have i3:RowKit.wrap64 ((k:Int)+1)=(k:Int)+1:=Jz2 (by have:=Hn.out;omega) hkn;obtain⟨HDel,Hm2⟩:=Xt6 hdel (Xi3 hl2 hkl hm2);clear hdel hm2 hrow hM2 hkl hkv hfin;go_wp2_with fail
   refine HDel.out.mono ?_;rintro e w4⟨rfl,hr4,hk4⟩
   (have b4:=V0 HM2.out.blk hk4 (fun e=>HM2.out.na (by rw[e];rfl));have r0:w4.cell? ⟨X,o,none⟩=some (.slice (some ⟨g,0,none⟩) n1 c1):=(by rw[X9 b4,<-Hl2.out];exact HM2.out.c0);have rf0:=K0 b4 o;have HR4:=J6 hr4;have HK4:=J6 hk4;clear hr4 hk4 b4)
   all_goals go_wp2_with fail
   all_goals
    refine EF (YV rfl _ _ _) rfl ?_;obtain⟨lv',h1,h2,h3⟩:=HM2.out.del H.out.ok Q5 Hm2.out HR4.out HK4.out;exact⟨⟨_,rfl⟩,lv',h1,h2,HFin.out lv' h3⟩
  have h0z:((0:Int) ==0)=true:=rfl;have d2:=Z3 hz2;have Hz2:=J6 hz2;subst hz1;clear hz2 hM2 hkl hkv hfin;go_wp2_with fail
  refine EF (YV rfl _ _ _) rfl ?_;obtain⟨lv',h1,h2,h3⟩:=HM2.out.done H.out.ok HP.out Hz.out.1 Hz.out.2 (fun e=>Hz2.out e.2);exact⟨⟨_,rfl⟩,lv',h1,h2,HFin.out lv' h3⟩
 have d1:=Z3 hz1;have Hz1:=J6 hz1;clear hz1 hM2 hkl hkv hfin;go_wp2_with fail
 refine EF (YV rfl _ _ _) rfl ?_;obtain⟨lv',h1,h2,h3⟩:=HM2.out.done H.out.ok HP.out Hz.out.1 Hz.out.2 (fun e=>Hz1.out e.1);exact⟨⟨_,rfl⟩,lv',h1,h2,HFin.out lv' h3⟩
def P0(l:List Z7)(s:Int):Int:=l.foldl (fun s x=>s+x.2.1) s
def VM(l:List Z7)(s:Int):Int:=l.foldl (fun s x=>s+x.2.2) s
theorem Sb l x s:P0 (l++[x]) s=P0 l s+x.2.1:=by unfold P0;rw[FS];rfl
theorem Jn1 l x s:VM (l++[x]) s=VM l s+x.2.2:=by unfold VM;rw[FS];rfl
theorem Pc l(h:∀x∈l,0<=x.2.1/\x.2.1<=1000000000000):∀s,s<=P0 l s/\P0 l s<=s+1000000000000*l.length:=by
 induction l with
 |nil=>intro s;unfold P0;simp
 |cons x t j=>
  intro s;have h1:=h x Q3;have h2:=j (fun y i=>h y (by simp[i])) (s+x.2.1);unfold P0 at*;rw[JF,JA];omega
theorem Jc9 l(h:∀x∈l,0<=x.2.2/\x.2.2<=1000000000000):∀s,s<=VM l s/\VM l s<=s+1000000000000*l.length:=by
 induction l with
 |nil=>intro s;unfold VM;simp
 |cons x t j=>
  intro s;have h1:=h x Q3;have h2:=j (fun y i=>h y (by simp[i])) (s+x.2.2);unfold VM at*;rw[JF,JA];omega
structure CT(lv:List Z7)(bu se:Int):Prop where
 b:0<=bu/\bu<=1000000000000
 s:0<=se/\se<=1000000000000
 lb:∀x∈lv,0<=x.2.1/\x.2.1<=1000000000000
 ls:∀x∈lv,0<=x.2.2/\x.2.2<=1000000000000
 n:lv.length<=99999
theorem CT.b_bound{lv bu se}(h:CT lv bu se)k:0<=P0 (lv.take k) bu/\P0 (lv.take k) bu<=200000000000000000:=by have h1:=Pc (lv.take k) (fun x i=>h.lb x (CV i)) bu;have h2:=h.n;have j:=h.b;have u:=List.length_take_le' k lv;omega
theorem CT.s_bound{lv bu se}(h:CT lv bu se)k:0<=VM (lv.take k) se/\VM (lv.take k) se<=200000000000000000:=by have h1:=Jc9 (lv.take k) (fun x i=>h.ls x (CV i)) se;have h2:=h.n;have j:=h.s;have u:=List.length_take_le' k lv;omega
def LN(more:Int)(told:Bool)(x:Z7):Bool:=told ||decide (more<=x.1)
def LP(more d s:Int)(told:Bool)(x:Z7)(out:List Z7):List Z7:=if told=false/\more<x.1 then out++[(more,d,s)]else out
structure Ah where
 d:Int
 s:Int
 told:Bool
 out:List Z7
def WB(more:Int)(s:Ah)(x:Z7):Ah:=⟨s.d-x.2.1,s.s+x.2.2,LN more s.told x,LP more s.d s.s s.told x s.out++[(x.1,s.d,s.s+x.2.2)]⟩
def T1(lv:List Z7)(bu se more:Int)(l:List Z7):Ah:=l.foldl (WB more) ⟨P0 lv bu,se,decide (more<1),[]⟩
def ZV(lv:List Z7)(bu se more:Int):List Z7:=let s:=T1 lv bu se more lv;if s.told=false then s.out++[(more,s.d,s.s)]else s.out
theorem Wz lv bu se more l x:T1 lv bu se more (l++[x])=WB more (T1 lv bu se more l) x:=by unfold T1;rw[FS];rfl
theorem Qj0 lv bu se more l:(T1 lv bu se more l).d=P0 lv bu-(P0 l 0):=by
 have key:∀l s,(l.foldl (WB more) s).d=s.d-P0 l 0:=by
  intro l
  induction l with
  |nil=>intro s;unfold P0;simp
  |cons x t E=>
   intro s;rw[JF,E];have D:∀t a,P0 t a=a+P0 t 0:=by
    intro t
    induction t with
    |nil=>intro a;unfold P0;simp
    |cons y u i=>
     intro a;have j:=i (a+y.2.1);have C:=i (0+y.2.1);unfold P0 at*;rw[JF,JF,j,C];omega
   have h1:=D t (0+x.2.1);have h2:P0 (x::t) 0=P0 t (0+x.2.1):=rfl;rw[h2,h1];show s.d-x.2.1-_=_;omega
 exact key l _
theorem Fz lv bu se more l:(T1 lv bu se more l).s=VM l se:=by
 have key:∀l s,(l.foldl (WB more) s).s=VM l s.s:=by
  intro l
  induction l with
  |nil=>intro s;rfl
  |cons x t i=>intro s;rw[JF,i];rfl
 exact key l _
theorem CT.ptd{lv bu se}(h:CT lv bu se)more k: -300000000000000000<=(T1 lv bu se more (lv.take k)).d/\(T1 lv bu se more (lv.take k)).d<=300000000000000000:=by rw[Qj0];have h1:=h.b_bound lv.length;rw[List.take_length]at h1;have h2:=Pc (lv.take k) (fun x i=>h.lb x (CV i)) 0;have j:=h.n;have u:=List.length_take_le' k lv;omega
theorem CT.pts{lv bu se}(h:CT lv bu se)more k:0<=(T1 lv bu se more (lv.take k)).s/\(T1 lv bu se more (lv.take k)).s<=300000000000000000:=by rw[Fz];have h1:=h.s_bound k;omega
theorem Jz3:(prog.info? 323).map (fun i=>(i.zero,i.size,i.bytes))=some (some (.agg #[I O 0,I O 0,I O 0]),3,24):=Q4
theorem Jd0 w X t cs o A c lv bu se(h:KF w X t cs o A c lv bu se)(hs:CT lv bu se)more:Calls prog 207 #[IP (some (aD X o)),I O more] w fun e w'=>Bz w w'/\∃A' c',e=.returned (.slice A' (ZV lv bu se more).length c')/\X8 w' A' (ZV lv bu se more).length c' 323 3 (X7 Y8 (ZV lv bu se more)):=by
 obtain⟨y0,y1,y2⟩:=h.cells;obtain⟨n,hn⟩:=exq lv.length;rw[hn]at y0;have hr:=h.row;rw[hn]at hr;have hXl:=Z9 h.blk;obtain⟨H,HR,HN,HS⟩:=Xt8 h hr hn hs;have hn1:n<=99999:=by have:=hs.n;omega
 clear h hr hn hs;go_enter func207,ntmps207
 go_wp2_with fail
 go_region
 go_wp2_with fail
 go_loopg [5,26] n (fun gg s5 s26 wx=>∃k,k<=n/\gg=n-k/\s26=I O k/\s5=I O (P0 (lv.take k) bu)/\Bz w wx)
 case atStart=>exact⟨0,U9 _,rfl,rfl,rfl,by first|exact Z2 Q5|exact J9 _ _⟩
 obtain⟨k,hk,rfl,rfl,rfl,hB⟩:=hrel
 by_cases hlt:k<n
 ·have hkl:k<lv.length:=by have:=HN.out;omega
  obtain⟨g,hA,-⟩:=HR.elem QE Q0 hkl;subst hA;obtain⟨x0,x1,x2⟩:=Kr (HR.below hB) hkl;have hltz:(k:Int)<(n:Int):=Q0;have hk0:(0:Int)<=(k:Int):=Q0;have HT:=J6 (M9 hkl);have hb1:=HS.b_bound k;have hb2:=HS.b_bound (k+1);rw[HT.out,Sb]at hb2;have hi1:RowKit.wrap64 (P0 (lv.take k) bu+lv[k].2.1)=P0 (lv.take k) bu+lv[k].2.1:=by unfold RowKit.wrap64;omega
  have HI:Hid (P0 (lv.take (k+1)) bu=P0 (lv.take k) bu+lv[k].2.1):=J6 (by rw[HT.out,Sb]);have HB:=J6 (hB.alloc hB.size (.cells #[I O lv[k].1,I O lv[k].2.1,I O lv[k].2.2] 331));generalize P0 (lv.take k) bu=S at hi1 HI|-;generalize lv[k].1=q0 at x0 HB;generalize lv[k].2.1=q1 at x1 hi1 HI HB;generalize lv[k].2.2=q2 at x2 HB;clear hb1 hb2 hB;go_wp2_with fail
  go_roundg (n-(k+1))
  case measure=>omega
  exact⟨k+1,Q0,rfl,J5,by rw[HI.out];first|rfl|rw[hi1],HB⟩
 obtain rfl:n=k:=by omega
 have hltz:¬(n:Int)<(n:Int):=Q0;have etk:lv.take n=lv:=M4 (by rw[HN.out];exact X3 _);rw[etk];have hD:P0 lv bu=(T1 lv bu se more []).d:=rfl;rw[hD];obtain⟨wo,rfl⟩:∃wo,wo=wr:=⟨_,rfl⟩;have y0':=(hB.cell (p:=⟨X,o,none⟩) hXl).trans y0;have HB:=J6 hB;obtain⟨tb,htb⟩:=exq (decide (more<1));have HTb:=J6 (show tb=(T1 lv bu se more []).told from htb.symm);clear hB etk hD y1 y2;go_wp2_with fail
 obtain⟨i0,hi0,hz0,hz1,hz2⟩:=W8 Jz3
 go_loopg [5,6,9,10,42] n (fun gg s5 s6 s9 s10 s42 wx=>∃k A9 n9 c9,k<=n/\gg=n-k/\s42=I O k/\s5=I O (T1 lv bu se more (lv.take k)).d/\s6=I O (T1 lv bu se more (lv.take k)).s/\s10=.bool (T1 lv bu se more (lv.take k)).told/\s9=.slice A9 n9 c9/\n9<=2*k/\Bz wo wx/\X8 wx A9 n9 c9 323 3 (X7 Y8 (T1 lv bu se more (lv.take k)).out)/\∀g,X5 A9=some g->wo.heap.size<=g)
 case atStart=>exact⟨0,none,0,0,U9 _,rfl,rfl,rfl,rfl,by rw[HTb.out];rfl,rfl,X3 _,J9 _ _,QY _ _ _ _,by simp[X5]⟩
 obtain⟨j,A9,n9,c9,hj,rfl,rfl,rfl,rfl,rfl,rfl,hn9,hB,hR9,hup⟩:=hrel;have dd0:=HS.ptd more j;have ss0:=HS.pts more j;have hdr:∀b,b=true\/b=false:=fun b=>by cases b<;>simp
 by_cases hlt2:j<n
 ·have hkl:j<lv.length:=by have:=HN.out;omega
  obtain⟨g,hA,-⟩:=HR.elem QE Q0 hkl;subst hA;obtain⟨x0,x1,x2⟩:=Kr (HR.below (HB.trans (hB.mono HB.size))) hkl;have hltz2:(j:Int)<(n:Int):=Q0;have hk0:(0:Int)<=(j:Int):=Q0;have HT:=J6 (M9 hkl);have HP:=J6 (show T1 lv bu se more (lv.take (j+1))=WB more (T1 lv bu se more (lv.take j)) lv[j] by rw[HT.out,Wz]);have dd1:=HS.ptd more (j+1);have ss1:=HS.pts more (j+1);rw[HP.out]at dd1 ss1;obtain⟨⟨d,su,td,out⟩,E⟩:∃st,Hid (T1 lv bu se more (lv.take j)=st):=⟨_,J6 rfl⟩;rw[E.out]at dd0 ss0 dd1 ss1 hR9 HP|-;dsimp only at dd0 ss0 hR9|-;unfold WB at dd1 ss1;dsimp only at dd1 ss1;obtain⟨⟨q0,q1,q2⟩,EQ⟩:∃q,Hid (lv[j]=q):=⟨_,J6 rfl⟩;rw[EQ.out]at x0 x1 x2 dd1 ss1 HP;dsimp only at x0 x1 x2 dd1 ss1;have i1:RowKit.wrap64 (su+q2)=su+q2:=by unfold RowKit.wrap64;omega
  have i2:RowKit.wrap64 (d-q1)=d-q1:=by unfold RowKit.wrap64;omega
  obtain⟨w1,hw1⟩:=exq (wr.alloc (.cells #[I O q0,I O q1,I O q2] 331));obtain⟨bx,hbx⟩:=exq wr.heap.size;have hX1:=Z5 wr 331 #[I O q0,I O q1,I O q2];have hb1:=hB.alloc hB.size (.cells #[I O q0,I O q1,I O q2] 331);have hr1:=hR9.below ((J9 _ wr).alloc Q2 (.cells #[I O q0,I O q1,I O q2] 331));rw[hw1]at hX1 hb1 hr1;rw[hbx]at hX1;have hbxo:wo.heap.size<=bx:=by rw[<-hbx];exact hB.size
  have hbnA:X5 A9≠some bx:=fun e=>by have h2:=hR9.lt e;omega
  obtain⟨HX1,HB1,HR1,HUp,HJ⟩:=Xt9 hX1 hb1 hr1 hup hn9;have b0:w1.cell? ⟨bx,0,none⟩=some (I O q0):=by rw[X9 hX1];rfl
  clear dd0 ss0 dd1 ss1 hX1 hb1 hr1 hR9 hup hB hn9 y0';obtain⟨cb,hcb⟩:=exq (!td &&decide (more<=q0));go_upto_region 12 with fail
  clear hw1 hbx x0 x1 x2
  go_cut [53] (fun s53 wx=>s53=.bool cb/\wx=w1)
  case first=>
   cases td with
   |true=>
    have HE:=J6 (show false=cb by rw[<-hcb];rfl);clear hcb;go_wp2_with fail
    go_meet;exact⟨by rw[HE.out],rfl⟩
   |false=>
    by_cases m1:more<=q0
    ·have d1:=V7 m1
     have HE:=J6 (show true=cb by rw[<-hcb,d1];rfl);clear hcb m1;go_wp2_with fail
     go_meet;exact⟨by rw[HE.out],rfl⟩
    have d1:=V9 m1;have HE:=J6 (show false=cb by rw[<-hcb,d1];rfl);clear hcb m1;go_wp2_with fail
    go_meet;exact⟨by rw[HE.out],rfl⟩
  obtain⟨rfl,rfl⟩:=hcut;obtain⟨w1,rfl⟩:∃w1,w1=wc:=⟨_,rfl⟩;have HCb:=J6 hcb;clear hcb;go_upto_if 53 with fail
  go_cut [9,10] (fun s9 s10 wx=>∃A1 n1 c1,s9=.slice A1 n1 c1/\s10=.bool (LN more td (q0,q1,q2))/\n1<=2*j+1/\Bz wo wx/\X8 wx A1 n1 c1 323 3 (X7 Y8 (LP more d su td (q0,q1,q2) out))/\(∀g,X5 A1=some g->wo.heap.size<=g/\g≠bx)/\J7 wx bx 331 #[I O q0,I O q1,I O q2])
  case first=>
   cases cb with
   |false=>
    obtain⟨HE1,HE2⟩:=Xt6 (show LN more td (q0,q1,q2)=td by unfold LN;have:=HCb.out;cases td<;>simp at this|-;exact this) (show LP more d su td (q0,q1,q2) out=out by unfold LP;rw[J8];rintro⟨rfl,h2⟩;have:=HCb.out;simp at this;dsimp only at h2;omega);go_wp2_with fail
    go_meet;exact⟨A9,n9,c9,rfl,by rw[HE1.out],by have:=HJ.out;omega,HB1,by rw[HE2.out];exact HR1,fun g hg=>⟨HUp g hg,fun e=>hbnA (by rw[hg,e])⟩,HX1⟩
   |true=>
    obtain⟨rfl,hmq⟩:td=false/\more<=q0:=by have:=HCb.out;cases td<;>simp at this;exact⟨rfl,this⟩
    have HE1:=J6 (show LN more false (q0,q1,q2)=true by unfold LN;simp;exact hmq)
    by_cases m2:more<q0
    ·have d2:=V7 m2
     obtain⟨HE2,HOa,HNWa⟩:=Xt7 (show LP more d su false (q0,q1,q2) out=out++[(more,d,su)] by unfold LP;rw[X0 ⟨rfl,m2⟩]) (show World.ownsRow (w1.alloc (.cells #[I O more,I O d,I O su] 323)) 0 323 3 (.slice A9 n9 c9) n9 (X7 Y8 out)from HR1.below ((J9 _ w1).alloc Q2 _)) (QN w1 (.cells #[I O more,I O d,I O su] 323));have hxb:=G0 HX1 (.cells #[I O more,I O d,I O su] 323);have HXb:=J6 hxb;have hbxl:=Z9 HX1;have HBa:=J6 (HB1.alloc HB1.size (.cells #[I O more,I O d,I O su] 323));have hn9':n9<=300000:=by have:=HJ.out;omega
     have hsz1:=HB1.size;clear m2 hmq hxb;go_wp2_with (at_builtin;(refine VZ _ rfl _ _ 282 rfl 0 323 i0 _ 3 24 underlying282 hi0 hz0 hz1 hz2 rfl Q0 (.slice A9 n9 c9) n9 _ rfl HOa ⟨w1.heap.size,0,none⟩ 1 1 (Y8 (more,d,su)) rfl rfl (XF (cs:=(Y8 (more,d,su)).toArray) (t:=323) (fr:=(0,0)) HNWa) (Qh _) Q0 Q9 Q0 Q3 (w1.heap.size+1) Q3 ?_);intro gg cap w3 hown hgrow hat hlt3;have HOw:=J6 hown;have HGr:=J6 hgrow;have HAt:=J6 hat;clear hown hgrow hat)
     go_meet;have hat:=HAt.out;rw[C8]at hat;refine⟨some ⟨gg,0,none⟩,n9+1,cap,rfl,by rw[HE1.out],by have:=HJ.out;omega,HBa.grown HGr Q7 (fun x hx=>HUp x (by rw[<-C8 A9 n9 c9];exact hx)),?_,fun g hg=>?_,TE HXb HGr (by rw[C8];exact fun e=>hbnA e.symm)⟩
     ·rw[HE2.out,AQ];exact HOw
     cases hg;obtain h1|h1:=hat
     ·exact⟨HUp _ h1,fun e=>hbnA (by rw[h1];exact C5 some e)⟩
     exact⟨by show wo.heap.size<=gg;omega,by show gg≠bx;omega⟩
    have d2:=V9 m2;have HE2:=J6 (show LP more d su false (q0,q1,q2) out=out by unfold LP;rw[J8];rintro⟨-,h2⟩;exact m2 h2);clear m2 hmq;go_wp2_with fail
    go_meet;exact⟨A9,n9,c9,rfl,by rw[HE1.out],by have:=HJ.out;omega,HB1,by rw[HE2.out];exact HR1,fun g hg=>⟨HUp g hg,fun e=>hbnA (by rw[hg,e])⟩,HX1⟩
  obtain⟨A1,n1,c1,rfl,rfl,hn1',hB2,hR2,hup2,hX2⟩:=hcut;obtain⟨w2,rfl⟩:∃w2,w2=wc:=⟨_,rfl⟩;have c1':w2.cell? ⟨bx,1,none⟩=some (I O q1):=by rw[X9 hX2];rfl
  have c2':w2.cell? ⟨bx,2,none⟩=some (I O q2):=by rw[X9 hX2];rfl
  have c0':w2.cell? ⟨bx,0,none⟩=some (I O q0):=by rw[X9 hX2];rfl
  obtain⟨HR2,HB2,HUp2,HX2⟩:=Xt8 hR2 hB2 hup2 hX2;have hbxl:=Z9 hX2;obtain⟨HOb,HNWb,HBb⟩:=Xt7 (show World.ownsRow (w2.alloc (.cells #[I O q0,I O d,I O (su+q2)] 323)) 0 323 3 (.slice A1 n1 c1) n1 (X7 Y8 (LP more d su td (q0,q1,q2) out))from HR2.below ((J9 _ w2).alloc Q2 _)) (QN w2 (.cells #[I O q0,I O d,I O (su+q2)] 323)) (HB2.alloc HB2.size (.cells #[I O q0,I O d,I O (su+q2)] 323));have hne:some bx≠(Value.slice A1 n1 c1).ownBlock:=by rw[C8];exact fun e=>(hup2 bx e.symm).2 rfl
  have hc1:(w2.alloc (.cells #[I O q0,I O d,I O (su+q2)] 323)).cell? ⟨bx,1,none⟩=some (I O q1):=by rw[X9 (G0 hX2 _)];rfl
  have hsz1:=hB2.size;have hn1'':n1<=300000:=Q0;have HN1:=J6 hn1';clear b0 hR2 hB2 hup2 hX2 hn1';go_wp2_with (at_builtin;(refine VZ _ rfl _ _ 282 rfl 0 323 i0 _ 3 24 underlying282 hi0 hz0 hz1 hz2 rfl Q0 (.slice A1 n1 c1) n1 _ rfl HOb ⟨w2.heap.size,0,none⟩ 1 1 (Y8 (q0,d,su+q2)) rfl rfl (XF (cs:=(Y8 (q0,d,su+q2)).toArray) (t:=323) (fr:=(0,0)) HNWb) (Qh _) Q0 Q9 Q0 Q3 (w2.heap.size+1) Q3 ?_);intro gg cap w3 hown hgrow hat hlt3;have zz1:=hgrow.cell hc1 hne;have HOw:=J6 hown;have HGr:=J6 hgrow;have HAt:=J6 hat;clear hown hgrow hat)
  go_roundg (n-(j+1))
  case measure=>omega
  have hat:=HAt.out;rw[C8]at hat;refine⟨j+1,some ⟨gg,0,none⟩,n1+1,cap,Q0,rfl,J5,by rw[HP.out,i2];rfl,by rw[HP.out];rfl,by rw[HP.out];rfl,rfl,by have:=HN1.out;omega,HBb.grown HGr Q7 (fun x hx=>(HUp2 x (by rw[<-C8 A1 n1 c1];exact hx)).1),?_,fun g hg=>?_⟩
  ·rw[HP.out]
   show X8 _ _ _ _ _ _ (X7 Y8 (LP more d su td (q0,q1,q2) out++[(q0,d,su+q2)]));rw[AQ];exact HOw
  cases hg;obtain h1|h1:=hat
  ·exact(HUp2 _ h1).1
  show wo.heap.size<=gg;omega
 obtain rfl:n=j:=by omega
 have hltz2:¬(n:Int)<(n:Int):=Q0;have etk:lv.take n=lv:=M4 (by rw[HN.out];exact X3 _);rw[etk]at hR9 dd0 ss0|-;have HPt:Hid (ZV lv bu se more=if(T1 lv bu se more lv).told=false then(T1 lv bu se more lv).out++[(more,(T1 lv bu se more lv).d,(T1 lv bu se more lv).s)]else(T1 lv bu se more lv).out):=J6 rfl;obtain⟨⟨d,su,td,out⟩,E⟩:∃st,Hid (T1 lv bu se more lv=st):=⟨_,J6 rfl⟩;rw[E.out]at dd0 ss0 hR9 HPt|-;dsimp only at dd0 ss0 hR9 HPt|-;obtain⟨w1,rfl⟩:∃w1,w1=wr:=⟨_,rfl⟩;obtain⟨HR1,HB1,HUp⟩:=Xt7 hR9 hB hup;have hsz1:=hB.size
 cases td with
 |true=>
  rw[J8 Q3]at HPt;have hl:=YU QE Q0 hR9;have HL:=J6 hl;clear hR9 hB hup hl;go_wp2_with fail
  refine QA (DA rfl _ _ _) rfl ?_;rw[HPt.out,HL.out];exact⟨HB.trans (HB1.mono HB.size),A9,c9,rfl,HR1⟩
 |false=>
  rw[X0 rfl]at HPt;have hl:=YU QE Q0 hR9;have HL:Hid ((out++[(more,d,su)]).length=n9+1):=J6 (by simp[hl]);obtain⟨HOa,HNWa,HBa⟩:=Xt7 (show World.ownsRow (w1.alloc (.cells #[I O more,I O d,I O su] 323)) 0 323 3 (.slice A9 n9 c9) n9 (X7 Y8 out)from HR1.below ((J9 _ w1).alloc Q2 _)) (QN w1 (.cells #[I O more,I O d,I O su] 323)) (HB1.alloc HB1.size (.cells #[I O more,I O d,I O su] 323));clear hR9 hB hup hl;go_wp2_with (at_builtin;(refine VZ _ rfl _ _ 282 rfl 0 323 i0 _ 3 24 underlying282 hi0 hz0 hz1 hz2 rfl Q0 (.slice A9 n9 c9) n9 _ rfl HOa ⟨w1.heap.size,0,none⟩ 1 1 (Y8 (more,d,su)) rfl rfl (XF (cs:=(Y8 (more,d,su)).toArray) (t:=323) (fr:=(0,0)) HNWa) (Qh _) Q0 Q9 Q0 Q3 (w1.heap.size+1) Q3 ?_);intro gg cap w3 hown hgrow hat hlt3;have HOw:=J6 hown;have HGr:=J6 hgrow;have HAt:=J6 hat;clear hown hgrow hat)
  refine QA (DA rfl _ _ _) rfl ?_;rw[HPt.out,HL.out];refine⟨HB.trans ((HBa.grown HGr Q7 (fun x hx=>HUp x (by rw[<-C8 A9 n9 c9];exact hx))).mono HB.size),_,_,rfl,?_⟩;rw[AQ];exact HOw
def YP(w:World)(a:Nat)(F:Nat->Prop)(M:Int->Int->Option X6)(most n:Nat):Prop:=
 ∃A c B d ss fr,QQ w a A c B d ss fr (most:Nat) (n:Nat)/\FG ss fr most/\AR ss=n/\(∀s g,M s g=KK ss s g)/\∀i,F i↔KB a A B i
def XA(M:Int->Int->Option X6)(s g:Int)(x:Option X6):Int->Int->Option X6:=fun s' g'=>if s'=s/\g'=g then x else M s' g'
def Jj(M:Int->Int->Option X6)(s g:Int):X6:=(M s g).getD D4
def Jk(M:Int->Int->Option X6)(s g:Int):Int:=if(M s g).isSome=true then 0 else 7
section
variable {w w':World} {a:Nat} {F:Nat->Prop} {M:Int->Int->Option X6} {most n:Nat}
theorem YP.fp(h:YP w a F M most n){i}(y:F i):i<w.heap.size:=by obtain⟨A,c,B,d,ss,fr,j,_,_,_,u⟩:=h;exact j.fp ((u i).1 y)
theorem YP.keeps{S}(h:YP w a F M most n)(hk:X4 S w w')(J:∀i,F i->¬S i):YP w' a F M most n:=by obtain⟨A,c,B,d,ss,fr,u,y,C,D,j⟩:=h;exact⟨A,c,B,d,ss,fr,u.keeps hk (fun i E=>J i ((j i).2 E)),y,C,D,j⟩
theorem YP.below(h:YP w a F M most n)(i:Bz w w'):YP w' a F M most n:=h.keeps (B9 i (fun _=>False)) (fun _ _=>id)
theorem YP.le(h:YP w a F M most n):n<=most:=by obtain⟨A,c,B,d,ss,fr,j,i,y,C,u⟩:=h;have h1:=i.count;have h2:=i.cap;omega
def WX(w w':World)(a:Nat)(F:Nat->Prop)(M:Int->Int->Option X6)(most n:Nat):Prop:=
 ∃F',YP w' a F' M most n/\X4 F w w'/\∀i,F' i->F i\/w.heap.size<=i
theorem Jz4(h:YP w a F M most n):Calls prog 221 #[pA a] w fun e w'=>e=.returned (I O n)/\w=w':=by obtain⟨A,c,B,d,ss,fr,i,u,y,C,j⟩:=h;exact Qm3 w a A c B d ss fr _ _ i
theorem Xi4(h:YP w a F M most n)s g:Calls prog 202 #[pA a,.agg #[I O s,I O g]] w fun e w'=>e=.returned (.tuple #[V6 (Jj M s g),Y9 (Jk M s g)])/\Bz w w':=by obtain⟨A,c,B,d,ss,fr,i,C,D,u,y⟩:=h;refine(Qn9 w a A c B d ss fr _ _ s g i).mono ?_;rintro e w'⟨rfl,j⟩;refine⟨?_,j⟩;unfold Jj Jk;rw[u,Rx,Ry]
theorem Qe2(h:YP w a F M most n)(hm:most<=1000)x:Calls prog 260 #[pA a,V6 x] w fun e w'=>(n=most/\e=.returned (.tuple #[.agg #[I O 0,I O 0],Y9 12])/\Bz w w')\/(n<most/\∃s g,M s g=none/\e=.returned (.tuple #[.agg #[I O s,I O g],Y9 0])/\WX w w' a F (XA M s g (some x)) most (n+1)):=by
 obtain⟨A,c,B,d,ss,fr,J,y,hL,Z,N⟩:=h;have a5:=y.cap;have a0:=y.count
 by_cases hn:n=most
 ·refine(Qq9 w a A c B d ss fr _ _ x J Q0).mono ?_
  rintro e w'⟨rfl,hB⟩;exact .inl ⟨hn,rfl,hB⟩
 have hw:RowKit.wrap64 ((n:Int)+1)=((n+1:Nat):Int):=by unfold RowKit.wrap64;omega
 obtain rfl|⟨a2,i,rfl⟩:=Ak fr
 ·refine(Qv4 w a A c B d ss _ _ x J Q0 Q0).mono ?_
  rintro e w'⟨rfl,A',c',C,d',E,hK,hf⟩;rw[hw]at E;refine .inr ⟨Q0,_,_,?_,rfl,KB a A' C,⟨A',c',C,d',_,_,E,y.new_ Q0 x,?_,?_,fun i=>KL⟩,hK.mono (fun i u=>(N i).2 u),fun i u=>(hf i u).imp (fun h=>(N i).2 h) id⟩
  ·rw[Z];unfold KK;simp
  ·rw[Lc,hL];rfl
  intro s g;rw[Qq0];unfold XA;rw[Z]
  by_cases j:s=(ss.length:Nat)
  ·subst j
   by_cases D:g=0
   ·subst D;simp
   have:KK ss (ss.length:Nat) g=none:=by unfold KK;simp
   rw[J8 (by simp[D]),this,X0 rfl,J8 Q7]
  rw[J8 (by simp[j]),J8 j]
 rw[Am]at J y a0;obtain⟨k,rfl,a6,_⟩:=y.free i Q3;obtain⟨hk,a1,a3,a4⟩:=y.old_ x (ss[k].2.1);refine(Qv3 w a A c B d ss a2 k _ _ x J Q0 hk (by simp at a0;omega)).mono ?_;rintro e w'⟨rfl,A',c',C,d',E,hK,hf⟩;rw[hw]at E;refine .inr ⟨Q0,_,_,?_,rfl,KB a A' C,⟨A',c',C,d',_,_,E,a3,?_,?_,fun i=>KL⟩,hK.mono (fun i u=>(N i).2 u),fun i u=>(hf i u).imp (fun h=>(N i).2 h) id⟩
 ·rw[Z];exact Nt hk a1 _
 ·rw[a4,hL]
 intro s g;rw[Cx hk];unfold XA;rw[Z]
 by_cases j:s=(k:Int)
 ·subst j
  by_cases D:g=ss[k].2.1
  ·subst D;simp
  rw[J8 (by simp[D]),Nt hk a1,X0 rfl,J8 Q7]
 rw[J8 (by simp[j]),J8 j]
theorem Jz5(h:YP w a F M most n)(hm:most<=1000)s g:Calls prog 233 #[pA a,.agg #[I O s,I O g]] w fun e w'=>e=.returned (.tuple #[V6 (Jj M s g),Y9 (Jk M s g)])/\((M s g=none/\Bz w w')\/((M s g).isSome=true/\1<=n/\WX w w' a F (XA M s g none) most (n-1))):=by
 obtain⟨A,c,B,d,ss,fr,hA,D,hL,u,hF⟩:=h;have a4:=D.cap;have a5:=D.count;refine(Qm4 w a A c B d ss fr _ _ s g hA Q0).mono ?_;rintro e w'⟨rfl,a1⟩;refine⟨by unfold Jj Jk;rw[u,Rx,Ry],?_⟩;rcases a1 with⟨j,hB⟩|⟨j,A',c',J,d',Z,hK,a2⟩
 ·rw[Kj]at j
  refine .inl ⟨?_,hB⟩;rw[u]
  cases hv:KK ss s g with
  |none=>rfl
  |some v=>rw[hv]at j;cases j
 rw[Kj]at j;obtain⟨x,hx⟩:∃x,KK ss s g=some x:=Option.isSome_iff_exists.1 j;obtain⟨k,rfl,hk,h1,h2,h3⟩:=Jx7 hx;obtain⟨a0,a3⟩:=D.take_ hk h1 D4 (RowKit.wrap64 (ss[k].2.1+1));have hw:RowKit.wrap64 ((n:Int)-1)=((n-1:Nat):Int):=by unfold RowKit.wrap64;omega
 rw[hw,Rv hk]at Z;refine .inr ⟨by rw[u];exact j,Q0,KB a A' J,⟨A',c',J,d',_,_,Z,a0,Q0,?_,fun i=>KL⟩,hK.mono (fun i E=>(hF i).2 E),fun i E=>(a2 i E).imp (fun h=>(hF i).2 h) id⟩;intro s' N;rw[Cx hk];unfold XA;rw[u]
 by_cases y:s'=(k:Int)
 ·subst y
  rw[X0 rfl]
  by_cases C:N=g
  ·subst C;simp
  have:KK ss (k:Nat) N=none:=by
   unfold KK;have hh:ss[((k:Nat):Int).toNat]?=some ss[k]:=by simp[hk]
   rw[X0 Q0,hh];simp[h2];intro _ e;exact absurd e.symm C
  rw[J8 (by simp[C]),this,J8 Q3]
 rw[J8 (by simp[y]),J8 y]
end
theorem Xi5 w(most:Nat)(h1:1<=most)(h2:most<=1000):Calls prog 209 #[I O most] w fun e w'=>Bz w w'/\∃a F,(∀i,F i->w.heap.size<=i)/\e=.returned (.tuple #[pA a,.nilIface])/\YP w' a F (fun _ _=>none) most 0:=by
 refine(Qn8 (most:Int) w).mono ?_;rintro e w'⟨u,⟨C,_⟩|⟨_,a,y,rfl,j⟩⟩
 ·omega
 refine⟨u,a,KB a none none,?_,rfl,none,0,none,0,[],[],j,FG.empty most,rfl,fun s g=>(Qu1 s g).symm,fun i=>KL⟩;rintro i(rfl|hi|hi)
 ·exact y
 ·cases hi
 cases hi
def AA(x:Int):Int:=if x<0 then -x else x
def YK(p:Z7):Int:=AA (p.2.1-p.2.2)
def QC(l:List Z7):Int:=l.foldl (fun m p=>max m (Y7 p)) 0
def UU(most:Int)(l:List Z7):Int×Bool:=l.foldl (fun s p=>if Y7 p=most/\(s.2=false\/YK p<s.1)then(YK p,true)else s) (0,false)
def YQ(most least:Int)(l:List Z7):List Z7:=l.filter fun p=>(Y7 p ==most) && (YK p ==least)
def FA(l:List Z7):Bool:=l.all fun p=>decide (p.2.2<p.2.1)
def DF(l:List Z7):Bool:=l.all fun p=>decide (p.2.1<p.2.2)
def UV(buys sells:Bool)(r:Int)(p x:Z7):Bool:=
 if buys then decide (x.1<p.1)else if sells then decide (p.1<x.1)else decide (AA (p.1-r)<AA (x.1-r)) || (AA (p.1-r) ==AA (x.1-r) &&decide (p.1<x.1))
def CM(buys sells:Bool)(r:Int)(x:Z7)(l:List Z7):Z7:=l.foldl (fun x p=>if UV buys sells r p x=true then p else x) x
def Qj1(r:Int):List Z7->Z7
 | []=>(0,0,0)
 |x::b=>Kz [CM (FA (x::b)) (DF (x::b)) r x (x::b)]
def MC(l:List Z7)(r:Int):Z7:=if QC l<1 then(0,0,0)else Qj1 r (YQ (QC l) (UU (QC l) l).1 l)
theorem Qe3 x:AA x=max x (-x):=by unfold AA;split<;>omega
theorem Eu p:YK p=CL p:=by unfold YK CL;rw[Qe3];omega
theorem Jd1(l:List Z7):∀m,(l.foldl (fun m p=>max m (Y7 p)) m=m\/∃p∈l,Y7 p=l.foldl (fun m p=>max m (Y7 p)) m)/\m<=l.foldl (fun m p=>max m (Y7 p)) m/\∀p∈l,Y7 p<=l.foldl (fun m p=>max m (Y7 p)) m:=by
 induction l with
 |nil=>intro m;exact⟨.inl rfl,T3 _,fun p hp=>by cases hp⟩
 |cons a l j=>
  intro m;obtain⟨h1,h2,i⟩:=j (max m (Y7 a));rw[JF];have u:=Int.le_max_left m (Y7 a);have y:=Int.le_max_right m (Y7 a);refine⟨?_,Q0,fun p hp=>?_⟩
  ·obtain h1|⟨p,hp,e⟩:=h1
   ·obtain h|h:=Int.le_total m (Y7 a)
    ·right;exact⟨a,Q3,by rw[h1];omega⟩
    left;rw[h1];omega
   exact .inr ⟨p,by simp[hp],e⟩
  obtain rfl|hp:=H8.1 hp
  ·omega
  exact i p hp
theorem Ub l:(QC l=0\/∃p∈l,Y7 p=QC l)/\0<=QC l/\∀p∈l,Y7 p<=QC l:=Jd1 l 0
theorem Qv6 m(l:List Z7):∀s,let t:=l.foldl (fun s p=>if Y7 p=m/\(s.2=false\/YK p<s.1)then(YK p,true)else s) s
  (t=s\/(t.2=true/\∃p∈l,Y7 p=m/\YK p=t.1))/\(s.2=true->t.2=true/\t.1<=s.1)/\∀p∈l,Y7 p=m->t.2=true/\t.1<=YK p:=by
 induction l with
 |nil=>intro s;exact⟨.inl rfl,fun h=>⟨h,T3 _⟩,fun p hp=>by cases hp⟩
 |cons a l E=>
  intro s;rw[JF]
  by_cases i:Y7 a=m/\(s.2=false\/YK a<s.1)
  ·rw[X0 i]
   obtain⟨h1,h2,C⟩:=E (YK a,true);obtain⟨j,u⟩:=h2 rfl;refine⟨?_,fun D=>⟨j,?_⟩,fun p hp ht=>?_⟩
   ·obtain h1|⟨e,p,hp,y⟩:=h1
    ·exact .inr ⟨j,a,Q3,i.1,by rw[h1]⟩
    exact .inr ⟨e,p,by simp[hp],y⟩
   ·obtain h|h:=i.2
    ·rw[D]at h;cases h
    exact NH u (TX h)
   obtain rfl|hp:=H8.1 hp
   ·exact⟨j,u⟩
   exact C p hp ht
  rw[J8 i];obtain⟨h1,h2,C⟩:=E s;refine⟨?_,h2,fun p hp ht=>?_⟩
  ·obtain h1|⟨e,p,hp,y⟩:=h1
   ·exact .inl h1
   exact .inr ⟨e,p,by simp[hp],y⟩
  obtain rfl|hp:=H8.1 hp
  ·have D:s.2=true:=by
    cases h:s.2 with
    |true=>rfl
    |false=>exact absurd ⟨ht,.inl h⟩ i
   obtain⟨j,u⟩:=h2 D;refine⟨j,?_⟩;obtain h|h:=Int.lt_or_le (YK p) s.1
   ·exact absurd ⟨ht,.inr h⟩ i
   exact NH u h
  exact C p hp ht
theorem Ly m l(h:∃p∈l,Y7 p=m):(∃p∈l,Y7 p=m/\YK p=(UU m l).1)/\∀p∈l,Y7 p=m->(UU m l).1<=YK p:=by
 obtain⟨h1,_,i⟩:=Qv6 m l (0,false);obtain⟨p,hp,e⟩:=h;refine⟨?_,fun q u ht=>(i q u ht).2⟩;obtain h1|⟨_,h1⟩:=h1
 ·have j:=(i p hp e).1
  rw[h1]at j
  cases j
 exact h1
theorem Dw l(h:1<=QC l):YQ (QC l) (UU (QC l) l).1 l≠[]:=by
 obtain⟨h1,_,_⟩:=Ub l;obtain h1|h1:=h1
 ·omega
 obtain⟨⟨p,hp,i,j⟩,_⟩:=Ly (QC l) l h1;intro u;have:p∈YQ (QC l) (UU (QC l) l).1 l:=S4.2 ⟨hp,by simp[i,j]⟩;rw[u]at this
 cases this
theorem Ks{F ps m}(h1:∃p∈ps,F p=m)(h2:∀p∈ps,F p<=m):P4 F ps=ps.filter fun p=>F p ==m:=by
 have j:ps≠[]:=by obtain⟨p,hp,_⟩:=h1;intro h;rw[h]at hp;cases hp
 obtain⟨⟨q,u,e⟩,i⟩:=Rq F ps j;obtain⟨p,hp,y⟩:=h1;have:PN F ps=m:=by have:=i p hp;have:=h2 q u;omega
 unfold P4;rw[this]
theorem Jn2 ps(h:1<=QC ps):P4 Y7 ps=ps.filter (fun p=>Y7 p ==QC ps)/\P4 (fun p=> -CL p) (P4 Y7 ps)=YQ (QC ps) (UU (QC ps) ps).1 ps:=by
 obtain⟨h1,N,h2⟩:=Ub ps;have j:∃p∈ps,Y7 p=QC ps:=h1.resolve_left Q0;have i:=Ks j h2;obtain⟨⟨p,hp,u,y⟩,C⟩:=Ly (QC ps) ps j;refine⟨i,?_⟩;rw[i,Ks (m:= -(UU (QC ps) ps).1)]
 ·unfold YQ
  rw[Az]
  congr 1
  funext q
  rw[<-Eu];rw[Vm];simp;omega
 ·exact⟨p,S4.2 ⟨hp,by simp[u]⟩,by rw[<-Eu,y]⟩
 intro q D;obtain⟨E,J⟩:=S4.1 D;have:=C q E (by simpa using J);rw[<-Eu];omega
theorem Jz6(j N:Z7->Int)(u:Z7->Z7->Bool)(E:∀p x,u p x=true↔(j x<j p\/(j x=j p/\N x<N p)))l:∀pre x post,(∀q∈pre,u x q=true)->(∀q∈post,u q x=false)->∃D y C,pre++x::post++l=D++y::C/\l.foldl (fun x p=>if u p x=true then p else x) x=y/\(∀q∈D,u y q=true)/\(∀q∈C,u q y=false):=by
 induction l with
 |nil=>intro pre x post h1 h2;exact⟨pre,x,post,Q3,rfl,h1,h2⟩
 |cons a l ih=>
  intro pre x post h1 h2;rw[JF]
  by_cases J:u a x=true
  ·rw[X0 J]
   obtain⟨D,y,C,e,Z,g1,g2⟩:=ih (pre++x::post) a [] (fun q i=>by
    have ha:=(E a x).1 J;obtain i|i:=B8.1 i
    ·have:=(E x q).1 (h1 q i)
     exact(E a q).2 Q0
    obtain rfl|i:=H8.1 i
    ·exact J
    have h3:=h2 q i;have h4:¬(j x<j q\/(j x=j q/\N x<N q)):=fun h=>by rw[(E q x).2 h]at h3;cases h3
    exact(E a q).2 Q0) (fun q i=>by cases i)
   exact⟨D,y,C,by rw[<-e];simp,Z,g1,g2⟩
  rw[J8 J];obtain⟨D,y,C,e,Z,g1,g2⟩:=ih pre x (post++[a]) h1 (fun q i=>by
   obtain i|i:=B8.1 i
   ·exact h2 q i
   simp at i;subst i;simpa using J)
  exact⟨D,y,C,by rw[<-e];simp,Z,g1,g2⟩
theorem Dx j u(C:Z7->Z7->Bool)(D:∀p x,C p x=true↔(j x<j p\/(j x=j p/\u x<u p)))x l:∃t,P4 u (P4 j (x::l))=(x::l).foldl (fun x p=>if C p x=true then p else x) x::t:=by
 have a2:C x x=false:=by
  cases h:C x x with
  |false=>rfl
  |true=>have:=(D x x).1 h;omega
 obtain⟨pre,y,post,e,N,g1,g2⟩:=Jz6 j u C D l [] x [] (fun q i=>by cases i) (fun q i=>by cases i);rw[JF,J8 (by rw[a2];simp),N];have Z:x::l=pre++y::post:=by simpa using e
 rw[Z];have E:∀q∈pre,j q<j y\/(j q=j y/\u q<u y):=fun q i=>(D y q).1 (g1 q i)
 have J:∀q∈post,¬(j y<j q\/(j y=j q/\u y<u q)):=fun q i h=>by have:=g2 q i;rw[(D q y).2 h]at this;cases this
 rw[Ks (F:=j) (m:=j y) ⟨y,Q3,rfl⟩ (fun q i=>by
  obtain i|i:=B8.1 i
  ·have:=E q i;omega
  obtain rfl|i:=H8.1 i
  ·exact T3 _
  have:=J q i;omega)]
 rw[Ks (F:=u) (m:=u y) ⟨y,Q3,rfl⟩ (fun q i=>by
  obtain⟨a0,a1⟩:=S4.1 i;have hk:j q=j y:=by simpa using a1
  obtain i|i:=B8.1 a0
  ·have:=E q i;omega
  obtain rfl|i:=H8.1 i
  ·exact T3 _
  have:=J q i;omega)]
 rw[Az,JE];have h0:pre.filter (fun a=>(u a ==u y) && (j a ==j y))=[]:=by rw[List.filter_eq_nil_iff];intro q i;have:=E q i;simp;omega
 rw[h0,List.filter_cons];simp
theorem Ma ps:P4 (fun _=>0) ps=ps:=by
 cases ps with
 |nil=>rfl
 |cons a l=>rw[Ks (m:=0) ⟨a,Q3,rfl⟩ (fun _ _=>T3 _)];simp
theorem Jd2 r x b:∃t,GV r (x::b)=CM (FA (x::b)) (DF (x::b)) r x (x::b)::t:=by
 have j:((x::b).any (fun p=>decide ((p.2.1-p.2.2)*1<=0))=false)↔FA (x::b)=true:=by
  unfold FA;rw[Vg,RY];constructor
  ·intro h p hp;have:=h p hp;simp at this|-;omega
  intro h p hp;have:=h p hp;simp at this|-;omega
 have u:((x::b).any (fun p=>decide ((p.2.1-p.2.2)* -1<=0))=false)↔DF (x::b)=true:=by
  unfold DF;rw[Vg,RY];constructor
  ·intro h p hp;have:=h p hp;simp at this|-;omega
  intro h p hp;have:=h p hp;simp at this|-;omega
 unfold GV CM
 by_cases h1:FA (x::b)=true
 ·rw[X0 (j.2 h1),h1]
  have:=Dx (fun p=>p.1) (fun _=>0) (UV true (DF (x::b)) r) (fun p y=>by simp[UV]) x b;rw[Ma]at this;exact this
 rw[J8 (fun h=>h1 (j.1 h))];have i:FA (x::b)=false:=by simpa using h1
 by_cases h2:DF (x::b)=true
 ·rw[X0 (u.2 h2),i,h2]
  have:=Dx (fun p=> -p.1) (fun _=>0) (UV false true r) (fun p y=>by simp[UV]) x b;rw[Ma]at this;exact this
 rw[J8 (fun h=>h2 (u.1 h))];have C:DF (x::b)=false:=by simpa using h2
 rw[i,C];exact Dx (fun p=> -max (p.1-r) (r-p.1)) (fun p=> -p.1) (UV false false r) (fun p y=>by simp[UV,Qe3];omega) x b
theorem Mb ps r:ZM ps r=MC ps r:=by
 obtain⟨h1,D,h2⟩:=Ub ps;unfold ZM MC
 by_cases j:QC ps<1
 ·rw[X0 j]
  cases hk:P4 Y7 ps with
  |nil=>rfl
  |cons p l=>
   have hp:p∈ps:=Rr (F:=Y7) (by rw[hk];simp);have:=h2 p hp;show(if Y7 p<1 then _ else _)=_;rw[X0 Q0]
 rw[J8 j];obtain⟨i,u⟩:=Jn2 ps Q0
 cases hk:P4 Y7 ps with
 |nil=>
  exfalso
  obtain⟨p,hp,e⟩:=h1.resolve_left Q0;have:p∈P4 Y7 ps:=by rw[i];exact S4.2 ⟨hp,by simp[e]⟩
  rw[hk]at this
  cases this
 |cons p l=>
  have hp:p∈ps.filter (fun p=>Y7 p ==QC ps):=by rw[<-i,hk];simp
  have ht:Y7 p=QC ps:=by simpa using(S4.1 hp).2
  show(if Y7 p<1 then _ else Kz (GV r (P4 (fun p=> -CL p) (p::l))))=_;rw[J8 Q0,<-hk,u]
  cases C:YQ (QC ps) (UU (QC ps) ps).1 ps with
  |nil=>exact absurd C (Dw ps Q0)
  |cons x b=>
   obtain⟨t,y⟩:=Jd2 r x b;rw[y]
   rfl
