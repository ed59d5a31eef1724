/- Parts. -/
import Derived.Test.YtfoikonjjojkaaaGreatDoorZt5
set_option linter.unusedVariables false
set_option maxRecDepth 100000
set_option maxHeartbeats 8000000
open Go.Proofs.Tryz
open Go.Value renaming int→I,pointer→IP
open Go.IntKind renaming i64→O
namespace Go.Proofs.YtfoikonjjojkaaaGreatDoor
open Go.RowKit
def KH(ps:List (Int×Int)):Prop:=0<ps.length/\ps.length<=20/\∀j,j<ps.length->XL ps j=0
theorem Yh.good{ps w w' e}(h:Yh ps w e w')(D:KH ps):Bz w w'/\∃t A cap,e=.returned (.tuple #[pA t,.nilIface])/\w.heap.size<=t/\t<w'.heap.size/\w'.cell? (aD t 0)=some (.slice A ps.length cap)/\JW w' A ps.length cap ps:=by
 obtain⟨u,h⟩:=h;obtain⟨h1,h2,j⟩:=D;refine⟨u,?_⟩;obtain h|h|⟨_,_,i,y,_,C,_⟩|⟨_,_,_,h⟩:=h
 ·omega
 ·omega
 ·exact absurd (j i y) C
 exact h
theorem Yh.bad{ps w w' e}(h:Yh ps w e w')(y:¬KH ps):Bz w w'/\∃t v,e=.returned (.tuple #[.pointer none,.iface t v]):=by
 obtain⟨u,h⟩:=h;refine⟨u,?_⟩;rcases h with⟨_,h⟩|⟨_,h⟩|⟨_,_,i,_,_,_,g,h,_⟩|⟨h1,h2,j,_⟩
 ·exact⟨_,_,h⟩
 ·exact⟨_,_,h⟩
 ·exact⟨_,_,h⟩
 exact absurd ⟨h1,h2,j⟩ y
theorem Qq8{p0 p}(h:P7 (P2 p0) p=true):p0<p:=by
 unfold P7 P2 at h
 by_cases h1:p0=1
 ·simp[h1]at h;omega
 by_cases h2:p0=2
 ·simp[h2]at h;omega
 by_cases i:p0=3
 ·simp[i]at h;omega
 by_cases j:p0=5
 ·simp[j]at h;omega
 simp[h1,h2,i,j]at h
theorem KH.step{ps}(h:KH ps)k(hk:k+1<ps.length):(ps.getD k (0,0)).1<(ps.getD (k+1) (0,0)).1/\(ps.getD k (0,0)).2<(ps.getD (k+1) (0,0)).2:=by
 have i:=h.2.2 (k+1) hk;simp only[XL,UT]at i
 split at i
 ·cases i
 rename_i j
 split at i
 ·cases i
 rename_i u;exact⟨Q0,Qq8 (by simpa using j)⟩
theorem KH.sorted{ps:List (Int×Int)}(h:KH ps)(i:Nat):∀d,i+d+1<ps.length->(ps.getD i (0,0)).1<(ps.getD (i+d+1) (0,0)).1
 |0,hd=>(h.step i hd).1
 |d+1,hd=>by have h1:=KH.sorted h i d Q0;have h2:=(h.step (i+d+1) hd).1;have e:i+(d+1)+1=i+d+1+1:=Q0;rw[e];omega
theorem KH.zero{ps}(h:KH ps):(ps.getD 0 (0,0))=(0,1):=by
 have i:=h.2.2 0 h.1;simp only[XL]at i
 split at i
 ·assumption
 cases i
theorem Wq(ps:List (Int×Int))(now:Int)(h0:(ps.getD 0 (0,0)).1<=now):∀m,0<m->m<=ps.length->∃k,k<m/\(ps.getD k (0,0)).1<=now/\(∀j,k<j->j<m->now<(ps.getD j (0,0)).1)/\phAt ps now m=((ps.getD k (0,0)).2,if k+1<ps.length then(ps.getD (k+1) (0,0)).1 else -1)
 |0,h,_=>absurd h Q0
 |m+1,_,hm=>by
  by_cases hc:(ps.getD m (0,0)).1<=now\/m=0
  ·refine⟨m,Q0,?_,fun j h1 h2=>Q0,by simp only[phAt];rw[X0 hc]⟩
   obtain h|h:=hc
   ·exact h
   rw[h];exact h0
  obtain⟨k,hk,h1,h2,h3⟩:=Wq ps now h0 m Q0 Q0;refine⟨k,Q0,h1,fun j hj1 hj2=>?_,by simp only[phAt];rw[J8 hc];exact h3⟩;obtain h|h:=FT j m
  ·exact h2 j hj1 h
  have:j=m:=by omega
  subst this;omega
def TabIs(ps:List (Int×Int))(f pl:Int):Prop:=
 (ps.length=0/\f=8/\pl= -1)\/(20<ps.length/\f=4/\pl= -1)\/
 (0<ps.length/\ps.length<=20/\∃i,i<ps.length/\(∀j,j<i->XL ps j=0)/\XL ps i≠0/\f=XL ps i/\pl=i)\/
 (0<ps.length/\ps.length<=20/\(∀j,j<ps.length->XL ps j=0)/\f=0/\pl= -1)
def Xi1(ps:List (Int×Int))(w:World)(e:Ending)(w':World):Prop:=
 Bz w w'/\∃f pl,e=.returned (.agg #[I O f,I O pl])/\TabIs ps f pl
theorem TY{w g t a b}(h:J7 w g t #[a,b]):w.cell? (aD g 0)=some a/\w.cell? (aD g 1)=some b:=⟨by rw[X9 h];rfl,by rw[X9 h];rfl⟩
theorem Ug{w a Q g cs}(hp:a.tmps.getD 2 undef=pA g)(i:a.defers=[])(j:J7 w g 80 cs) (h2:cs.size=2) (h:Q (.returned (.agg cs)) w):bodyPost prog Tryz.f72 Q .ret a w:=
 QA (WE Tryz.results72 a.tmps w g _ cs (0,0) _ hp j underlying80 rfl (by rw[h2];kernel_rfl)) i h
theorem Jc0 A len cap ps w(h:JW w A len cap ps)(hm:len<=9223372036854775807):Calls prog 72 #[.slice A len cap] w (Xi1 ps w):=by
 have hl:=h.1;have a6:Bz w (w.alloc (.cells #[I O 0,I O 0] 80)):=(J9 _ w).alloc Q2 _
 by_cases h0:len=0
 ·subst h0
  have HA:=J6 a6;clear a6;go_enter func72,ntmps72
  go_wp2_with fail
  refine(Kb _ _).mono ?_;rintro e w1⟨rfl,u⟩;have C:J7 w1 (zS w) 80 #[I O 0,I O 0]:=Z4 (Z5 w _ _) u;obtain⟨c0,c1⟩:=TY C;have f0:=K0 C 0;have f1:=K0 C 1;go_wp2
  try simp only[Exit.inBlock,Exit.then]
  refine Ug (g:=zS w) (cs:= #[I O 8,I O (-1)]) Q6 Q6 (Z0 (Z0 C 0 _) 1 _) rfl ?_;exact⟨((HA.trans (u.mono Q3)).setCell Q3 _).setCell Q3 _,8,-1,rfl,.inl ⟨hl,rfl,rfl⟩⟩
 have z0:((len:Int) ==0)=false:=Z3 Q0
 by_cases d5:20<len
 ·have c8:decide (20<(len:Int))=true:=V7 Q0
  have HA:=J6 a6;clear a6;go_enter func72,ntmps72
  go_wp2_with fail
  refine(Kb _ _).mono ?_;rintro e w1⟨rfl,u⟩;have C:J7 w1 (zS w) 80 #[I O 0,I O 0]:=Z4 (Z5 w _ _) u;obtain⟨c0,c1⟩:=TY C;have f0:=K0 C 0;have f1:=K0 C 1;go_wp2
  try simp only[Exit.inBlock,Exit.then]
  refine Ug (g:=zS w) (cs:= #[I O 4,I O (-1)]) Q6 Q6 (Z0 (Z0 C 0 _) 1 _) rfl ?_;exact⟨((HA.trans (u.mono Q3)).setCell Q3 _).setCell Q3 _,4,-1,rfl,.inr (.inl ⟨Q0,rfl,rfl⟩)⟩
 have c8:decide (20<(len:Int))=false:=V9 Q0;obtain⟨b,c7,rfl,d6,c9⟩:=h.2 Q0;clear c9;have Hl:=J6 hl;clear hl;go_enter func72,ntmps72
 go_wp2
 go_loopg [18] len (fun g i wx=>∃k,k<=len/\g=len-k/\i=I O k/\Bz w wx/\J7 wx (zS w) 80 #[I O 0,I O 0]/\∀j,j<k->XL ps j=0)
 case atStart=>exact⟨0,U9 _,rfl,rfl,a6,Z5 _ _ _,fun j hj=>Q0⟩
 obtain⟨k,hk,rfl,rfl,u,C,b9⟩:=hrel;have b1:=J6 b9;clear b9 a6;have d7:=Z9 C
 by_cases d0:k<len
 ·have d1:decide ((k:Int)<(len:Int))=true:=V7 Q0
  have hP:=J6 (h.below u Q2);obtain⟨x0,x1⟩:=hP.at_ d0;obtain⟨ev,c5⟩:=exq (XL ps k);have a7:=J6 c5;clear c5;have Hq:=J6 (show((ps.getD k (0,0)).1,(ps.getD k (0,0)).2)=ps.getD k (0,0)from rfl);generalize(ps.getD k (0,0)).1=q at x0 Hq;generalize(ps.getD k (0,0)).2=x at x1 Hq;go_upto_if 24 with fail
  go_cut [5,6,7] (fun s5 s6 s7 wx=>s5=I O ev/\J7 wx (zS w) 80 #[I O 0,I O 0]/\Bz w wx)
  case first=>
   by_cases b0:k=0
   ·have zk:((k:Int) ==0)=true:=V4 Q0
    have Z:Hid (ev=if(q,x)=(0,1)then 0 else 1):=J6 (by rw[<-a7.out,b0,Hq.out,b0];rfl);clear b0
    by_cases hx:q=0
    ·by_cases hy:x=1
     ·obtain rfl:0=ev:=by rw[Z.out,X0 (by rw[hx,hy])]
      have c6:=KN hx;have d2:=KN hy;clear hx hy;go_wp2;go_meet;exact⟨rfl,G0 C _,u.alloc u.size _⟩
     obtain rfl:1=ev:=by rw[Z.out,J8 (by simp[hy])]
     have c6:=KN hx;have d2:=XQ hy;clear hx hy;go_wp2;go_meet;exact⟨rfl,G0 C _,u.alloc u.size _⟩
    obtain rfl:1=ev:=by rw[Z.out,J8 (by simp[hx])]
    have c6:=XQ hx;clear hx;go_wp2;go_meet;exact⟨rfl,G0 C _,u.alloc u.size _⟩
   obtain⟨j,hj⟩:∃j,k=j+1:=⟨k-1,Q0⟩;have zk:((k:Int) ==0)=false:=Z3 Q0;have i1:IntKind.i64.wrap ((k:Int)-1)=(j:Int):=by rw[YR];omega
   have i4:IntKind.i64.wrap (j:Int)=(j:Int):=by rw[YR];omega
   have i2:(0:Int)<=(j:Int):=Q0;have i3:(j:Int)<(len:Int):=Q0;obtain⟨y0,y1⟩:=hP.at_ (i:=j) Q0;have Z:Hid (ev=UT (ps.getD j (0,0)).1 (ps.getD j (0,0)).2 q x):=J6 (by have e1:=C5 Prod.fst Hq;have e2:=C5 Prod.snd Hq;simp only at e1 e2;rw[<-a7.out,e1,e2,hj];rfl)
   generalize(ps.getD j (0,0)).1=a0 at y0 Z;generalize(ps.getD j (0,0)).2=p0 at y1 Z;replace y0:=(W7 wr (.cells #[I O q,I O x] 78) (aD b (c7+j*2)) (by show b<_;have:=u.size;omega)).trans y0;replace y1:=(W7 wr (.cells #[I O q,I O x] 78) (aD b (c7+j*2+1)) (by show b<_;have:=u.size;omega)).trans y1;clear b0;have Hj:=J6 hj;clear hj;go_upto_region 13 with fail
   go_cut [7] (fun s7 wx=>s7=.bool (P7 (P2 p0) x)/\(wr.alloc (.cells #[I O q,I O x] 78))=wx)
   case first=>
    by_cases D:p0=1
    ·have g1:=V4 D
     have n2:=Z3 (show¬p0=2 by omega);have n3:=Z3 (show¬p0=3 by omega);have n5:=Z3 (show¬p0=5 by omega)
     by_cases y:x=2
     ·have h2:=V4 y
      have E:=J6 (show true=P7 (P2 p0) x by rw[D,y];rfl);clear D y;go_wp2;go_meet;exact⟨C5 Value.bool E,rfl⟩
     have h2:=Z3 y;have E:=J6 (show false=P7 (P2 p0) x by rw[D];simp[P7,P2];omega);clear D y;go_wp2;go_meet;exact⟨C5 Value.bool E,rfl⟩
    have n1:=Z3 D
    by_cases J:p0=2
    ·have g1:=V4 J
     have n3:=Z3 (show¬p0=3 by omega);have n5:=Z3 (show¬p0=5 by omega)
     by_cases y:x=3
     ·have h2:=V4 y
      have E:=J6 (show true=P7 (P2 p0) x by rw[J,y];rfl);clear D J y;go_wp2;go_meet;exact⟨C5 Value.bool E,rfl⟩
     have h2:=Z3 y;have E:=J6 (show false=P7 (P2 p0) x by rw[J];simp[P7,P2];omega);clear D J y;go_wp2;go_meet;exact⟨C5 Value.bool E,rfl⟩
    have n2:=Z3 J
    by_cases N:p0=3
    ·have g1:=V4 N
     have n5:=Z3 (show¬p0=5 by omega)
     by_cases y:x=5
     ·have h2:=V4 y
      have E:=J6 (show true=P7 (P2 p0) x by rw[N,y];rfl);clear D J N y;go_wp2;go_meet;exact⟨C5 Value.bool E,rfl⟩
     have h2:=Z3 y
     by_cases b3:x=7
     ·have h3:=V4 b3
      have E:=J6 (show true=P7 (P2 p0) x by rw[N,b3];rfl);clear D J N y b3;go_wp2;go_meet;exact⟨C5 Value.bool E,rfl⟩
     have h3:=Z3 b3;have E:=J6 (show false=P7 (P2 p0) x by rw[N];simp[P7,P2];omega);clear D J N y b3;go_wp2;go_meet;exact⟨C5 Value.bool E,rfl⟩
    have n3:=Z3 N
    by_cases a5:p0=5
    ·have g1:=V4 a5
     by_cases y:x=7
     ·have h2:=V4 y
      have E:=J6 (show true=P7 (P2 p0) x by rw[a5,y];rfl);clear D J N a5 y;go_wp2;go_meet;exact⟨C5 Value.bool E,rfl⟩
     have h2:=Z3 y;have E:=J6 (show false=P7 (P2 p0) x by rw[a5];simp[P7,P2];omega);clear D J N a5 y;go_wp2;go_meet;exact⟨C5 Value.bool E,rfl⟩
    have n5:=Z3 a5;have E:=J6 (show false=P7 (P2 p0) x by simp[P7,P2,D,J,N,a5]);clear D J N a5;go_wp2;go_meet;exact⟨C5 Value.bool E,rfl⟩
   obtain⟨rfl,rfl⟩:=hcut
   cases a4:P7 (P2 p0) x
   ·obtain rfl:1=ev:=by rw[Z.out,Dn a4]
    clear a4;go_wp2;go_meet;exact⟨rfl,G0 C _,u.alloc u.size _⟩
   by_cases t1:q<=a0
   ·obtain rfl:10=ev:=by rw[Z.out,Rs a4 t1]
    have d3:=V7 t1;clear a4;go_wp2_with fail
    go_quiet (fail)
    go_wp2;go_meet;exact⟨rfl,ZL (G0 C _) _,Y5 (u.alloc u.size _) _⟩
   have d3:=V9 t1
   by_cases t2:1000000<q
   ·obtain rfl:2=ev:=by rw[Z.out,Wc a4 Q0 t2]
    have d4:=V7 t2;clear a4 t1;go_wp2_with fail
    go_quiet (fail)
    go_wp2;go_meet;exact⟨rfl,ZL (G0 C _) _,Y5 (u.alloc u.size _) _⟩
   obtain rfl:0=ev:=by rw[Z.out,Wd a4 Q0 Q0]
   have d4:=V9 t2;clear a4 t1 t2;go_wp2_with fail
   go_quiet (fail)
   go_wp2;go_meet;exact⟨rfl,ZL (G0 C _) _,Y5 (u.alloc u.size _) _⟩
  obtain⟨rfl,a8,b8⟩:=hcut
  by_cases hz:ev=0
  ·obtain rfl:0=ev:=hz.symm
   go_wp2
   go_roundg (len-(k+1))
   case measure=>omega
   refine⟨k+1,Q0,rfl,J5,b8,a8,fun j hj=>?_⟩;obtain h|h:=SS (Nat.le_of_lt_succ hj)
   ·exact b1 j h
   rw[h];exact a7
  have d8:=XQ hz;have Hz:=J6 hz;clear hz;obtain⟨c0,c1⟩:=TY a8;have f0:=K0 a8 0;have f1:=K0 a8 1;go_wp2
  try simp only[Exit.inBlock,Exit.then]
  refine Ug (g:=zS w) (cs:= #[I O ev,I O k]) Q6 Q6 (Z0 (Z0 a8 0 _) 1 _) rfl ?_;exact⟨(b8.setCell Q3 _).setCell Q3 _,ev,k,rfl,.inr (.inr (.inl ⟨by have:=Hl.out;omega,by have:=Hl.out;omega,k,by have:=Hl.out;omega,b1.out,by rw[a7.out];exact Hz,a7.symm,rfl⟩))⟩
 obtain rfl:k=len:=by omega
 go_wp2_with fail
 refine(Kb _ _).mono ?_;rintro e w1⟨rfl,b5⟩;have a9:J7 w1 (zS w) 80 #[I O 0,I O 0]:=Z4 C b5;obtain⟨c0,c1⟩:=TY a9;have f0:=K0 a9 0;have f1:=K0 a9 1;go_wp2
 try simp only[Exit.inBlock,Exit.then]
 refine Ug (g:=zS w) (cs:= #[I O 0,I O (-1)]) Q6 Q6 (Z0 (Z0 a9 0 _) 1 _) rfl ?_;exact⟨((u.trans (b5.mono u.size)).setCell Q3 _).setCell Q3 _,0,-1,rfl,.inr (.inr (.inr ⟨by have:=Hl.out;omega,by have:=Hl.out;omega,fun j hj=>b1 j (by have:=Hl.out;omega),rfl,rfl⟩))⟩
def Za(ps:List (Int×Int))(now:Int)(k:Nat):Prop:=
 k<ps.length/\(∀j,0<j->j<=k->(ps.getD j (0,0)).1<=now)/\(k+1<ps.length->now<(ps.getD (k+1) (0,0)).1)
def PE(ps:List (Int×Int))(k:Nat):Int×Int:=((ps.getD k (0,0)).2,if k+1<ps.length then(ps.getD (k+1) (0,0)).1 else -1)
theorem Nw{ps:List (Int×Int)}{now:Int}{k:Nat}(hk:k=0\/(ps.getD k (0,0)).1<=now):∀m,k<m->m<=ps.length->(∀j,k<j->j<m->now<(ps.getD j (0,0)).1)->phAt ps now m=PE ps k
 |0,h,_,_=>absurd h Q0
 |m+1,h,hm,hall=>by
  by_cases he:m=k
  ·subst he
   unfold phAt PE;rw[X0 (by obtain h|h:=hk;exact .inr h;exact .inl h)]
  have h1:=hall m Q0 Q0;rw[Qd8 Q0 Q0];exact Nw hk m Q0 Q0 fun j h2 h3=>hall j h2 Q0
theorem Za.phAt{ps now k}(h:Za ps now k)(D:KH ps):phAt ps now ps.length=PE ps k:=by
 obtain⟨h1,h2,u⟩:=h;refine Nw ?_ ps.length h1 Q2 fun j C E=>?_
 ·by_cases i:k=0
  ·exact .inl i
  exact .inr (h2 k Q0 Q2)
 have y:=u Q0;rcases SS (show k+1<=j from C)with h|h
 ·have:=D.sorted (k+1) (j-(k+1)-1) Q0
  have e:k+1+(j-(k+1)-1)+1=j:=Q0;rw[e]at this;omega
 rw[<-h];exact y
theorem Jc1 A len cap ps now w(h:JW w A len cap ps)(h0:0<len)(hm:len<=60):Calls prog 81 #[.slice A len cap,I O now] w fun e w'=>∃k,Za ps now k/\e=.returned (.tuple #[I O (PE ps k).1,I O (PE ps k).2])/\Bz w w':=by
 obtain⟨b,a5,rfl,a3,a2⟩:=h.2 Q0;clear a2;have y:=J6 h.1;go_enter func81,ntmps81
 go_wp2
 go_loopg [6] len (fun g i wx=>∃k,k<len/\g=len-k/\i=I O k/\w=wx/\∀j,0<j->j<=k->(ps.getD j (0,0)).1<=now)
 case atStart=>exact⟨0,h0,rfl,rfl,rfl,fun j h1 h2=>Q0⟩
 obtain⟨k,hk,rfl,rfl,rfl,Z⟩:=hrel;have D:=J6 Z;clear Z;obtain⟨x0,x1⟩:=h.at_ hk;have i1:IntKind.i64.wrap ((k:Int)+1)=(k:Int)+1:=by rw[YR];omega
 by_cases a0:k+1<len
 ·obtain⟨y0,y1⟩:=h.at_ a0
  have d1:decide ((k:Int)+1<(len:Int))=true:=V7 Q0;have i2:(k:Int)+1<(len:Int):=Q0;have i3:(0:Int)<=(k:Int)+1:=Q0
  by_cases C:(ps.getD (k+1) (0,0)).1<=now
  ·have J:=V7 C
   have a1:=J6 C;generalize(ps.getD (k+1) (0,0)).1=a at y0 J;clear C;go_wp2
   go_roundg (len-(k+1))
   case measure=>omega
   refine⟨k+1,a0,rfl,J5,rfl,fun j h1 h2=>?_⟩;obtain N|N:=SS h2
   ·exact D j h1 Q0
   rw[N];exact a1
  have J:=V9 C;obtain⟨E,u⟩:=Xt6 (show Za ps now k from⟨by have:=y.out;omega,D,fun _=>Q0⟩) (show PE ps k=((ps.getD k (0,0)).2,(ps.getD (k+1) (0,0)).1) by unfold PE;rw[X0 (by have:=y.out;omega)]);generalize(ps.getD (k+1) (0,0)).1=a at y0 J u;generalize(ps.getD k (0,0)).2=x at x1 u;clear C;go_wp2_with fail
  go_quiet (fail)
  go_wp2;go_ret2;refine⟨k,E,by rw[u.out];with_unfolding_all rfl,Y5 (J9 _ w) _⟩
 have d1:decide ((k:Int)+1<(len:Int))=false:=V9 Q0;obtain⟨E,u⟩:=Xt6 (show Za ps now k from⟨by have:=y.out;omega,D,fun h=>by have:=y.out;omega⟩) (show PE ps k=((ps.getD k (0,0)).2,-1) by unfold PE;rw[J8 (by have:=y.out;omega)]);have a4:¬(k:Int)+1<(len:Int):=Q0;generalize(ps.getD k (0,0)).2=x at x1 u;go_wp2;go_ret2;exact⟨k,E,by rw[u.out];with_unfolding_all rfl,J9 _ _⟩
def KU(side a b:Int):Bool:=if side=1 then decide (b<a)else decide (a<b)
def P5(side a b:Int):Int:=if a=b then 0 else if KU side a b=true then -1 else 1
theorem Nx side a b w:Calls prog 266 #[I O side,I O a,I O b] w fun e w'=>e=.returned (.bool (KU side a b))/\w=w':=by
 by_cases h:side=1
 ·have t:=V4 h
  have E:Hid (KU side a b=decide (b<a)):=J6 (by unfold KU;rw[X0 h]);clear h;go_enter func266,ntmps266
  go_wp2;go_ret;exact⟨JH (by rw[E.out]),rfl⟩
 have t:=Z3 h;have E:Hid (KU side a b=decide (a<b)):=J6 (by unfold KU;rw[J8 h]);clear h;go_enter func266,ntmps266
 go_wp2;go_ret;exact⟨JH (by rw[E.out]),rfl⟩
theorem Qv0 side a b L g w(J:∃A n c,L=.slice A n c)(C:w.cell? (aD g 0)=some (I O side)):Calls prog 265 #[.agg #[I O a,L],I O b,pA g] w fun e w'=>e=.returned (I O (P5 side a b))/\Bz w w':=by
 obtain⟨A,n,c,rfl⟩:=J;have D:=U5 w _ C;have Z:=(W7 w (.cells #[I O a,.slice A n c] 320) (aD g 0) D).trans C;have j:=J6 (show Bz w (w.alloc (.cells #[I O a,.slice A n c] 320))from(J9 _ w).alloc Q2 _)
 by_cases h:a=b
 ·have t:=V4 h
  have E:Hid (P5 side a b=0):=J6 (by unfold P5;rw[X0 h]);clear h;go_enter func265,ntmps265
  go_wp2;go_ret;exact⟨JK (by rw[E.out]),j⟩
 have t:=Z3 h
 cases i:KU side a b with
 |true=>
  have E:Hid (P5 side a b= -1):=J6 (by unfold P5;rw[J8 h,i];rfl);have u:=J6 i;clear h i;go_enter func265,ntmps265
  go_wp2_with (go_at_call 266;refine(Nx _ _ _ _).mono ?_;rintro e w1⟨rfl,rfl⟩;rw[u.out])
  all_goals go_wp2
  all_goals
   go_ret;exact⟨JK (by rw[E.out]),j⟩
 |false=>
  have E:Hid (P5 side a b=1):=J6 (by unfold P5;rw[J8 h,i];rfl);have u:=J6 i;clear h i;go_enter func265,ntmps265
  go_wp2_with (go_at_call 266;refine(Nx _ _ _ _).mono ?_;rintro e w1⟨rfl,rfl⟩;rw[u.out])
  all_goals go_wp2
  all_goals
   go_ret;exact⟨JK (by rw[E.out]),j⟩
abbrev RQ:=Int×Option Addr×Nat×Nat
def YJ(q:RQ):List Value:=[I O q.1,.slice q.2.1 q.2.2.1 q.2.2.2]
theorem MK q:(YJ q).length=2:=rfl
def FY(side:Int)(qs:List RQ):Prop:=qs.Pairwise fun x y=>KU side x.1 y.1=true
theorem Jc2{side a b c}(h1:KU side a b=true)(h2:KU side b c=true):KU side a c=true:=by
 unfold KU at*
 split at h1<;>split at h2<;>simp_all<;>omega
theorem Dr{side a b}:P5 side a b<0↔KU side a b=true:=by
 unfold P5 KU
 by_cases h:a=b
 ·subst h;simp
 rw[J8 h]
 split<;>split<;>simp_all
theorem Ny{side p:Int}{qs:List RQ}(h:FY side qs){i j:Nat}(D:j<qs.length)(C:i<=j)(u:P5 side qs[j].1 p<0):P5 side (qs[i]'(by omega)).1 p<0:=by
 obtain E|rfl:=SS C
 ·rw[Dr]at u|-
  exact Jc2 (GG.1 h i j Q0 D E) u
 exact u
theorem Jc3(side p:Int)(g:FuncId)(lb:Array Value)(A:Option Addr)(n c:Nat)(qs:List RQ)(w:World)(h:C0 w YJ 2 A n qs)(hr:FY side qs)(hm:n<=100000)(eg:∀args w,(callFunc g args).run prog w=.ok (.enter g args) w)(a4:∀W(q:RQ),Bz w W->Calls prog g (#[.agg #[I O q.1,.slice q.2.1 q.2.2.1 q.2.2.2],I O p]++lb) W fun e w'=>e=.returned (I O (P5 side q.1 p))/\Bz W w'):Calls prog 264 #[.slice A n c,I O p,.func (.func g) #[] lb] w fun e w'=>Bz w w'/\∃k:Nat,k<=n/\(∀i(hi:i<qs.length),i<k->P5 side qs[i].1 p<0)/\(∀i(hi:i<qs.length),k<=i->0<=P5 side qs[i].1 p)/\e=.returned (.tuple #[I O k,.bool (decide (k<n) && (match qs[k]? with|some q=>P5 side q.1 p ==0|none=>false))]):=by
 have HH:=J6 h;have hl:=h.1;obtain⟨HL,HR,HC⟩:=Xt7 hl hr a4;clear h hr a4 hl;go_enter func264,ntmps264
 go_wp2_with fail
 go_loopg [9,10] n (fun gg s9 b0 wx=>∃u hi,u<=hi/\hi<=n/\gg=hi-u/\s9=I O u/\b0=I O hi/\Bz w wx/\Hid ((∀i(hi:i<qs.length),i<u->P5 side qs[i].1 p<0)/\(∀i(hx:i<qs.length),hi<=i->0<=P5 side qs[i].1 p)))
 case atStart=>exact⟨0,n,U9 _,X3 _,rfl,rfl,rfl,J9 _ _,J6 ⟨fun i _ h=>absurd h Q0,fun i hx h=>by have:=HL.out;omega⟩⟩
 obtain⟨u,hi,b2,a2,rfl,rfl,rfl,E,HI⟩:=hrel
 by_cases b5:u<hi
 ·have a7:(u:Int)<(hi:Int):=by omega
  go_upto_region 5 with fail
  have em:((u:Int)+(hi:Int))/2=(((u+hi)/2:Nat):Int):=Q0;have a8:u<=(u+hi)/2:=Q0;have a9:(u+hi)/2<hi:=Q0;rw[em];generalize(u+hi)/2=m at a8 a9|-;clear em;have Z:m<qs.length:=by have:=HL.out;omega
  obtain⟨b,D,hA⟩:∃b D,A=some (aD b D):=by obtain⟨b,D,h1,_⟩:=HH.2 Q0;exact⟨b,D,h1⟩
  subst hA;have J:=HH.below E Q2;have x0:wr.cell? (aD b (D+m*2))=some (I O qs[m].1):=J.at_ Z (j:=0) rfl;have x1:wr.cell? (aD b (D+m*2+1))=some (.slice qs[m].2.1 qs[m].2.2.1 qs[m].2.2.2):=J.at_ Z (j:=1) rfl;have C:=HC.out wr qs[m] E;have a6:(0:Int)<=(m:Int):=Q0;have a3:(m:Int)<(n:Int):=Q0;obtain⟨v,EV⟩:∃v,Hid (P5 side qs[m].1 p=v):=⟨_,J6 rfl⟩;rw[EV.out]at C;generalize qs[m].2.1=l0 at x1 C;generalize qs[m].2.2.1=l1 at x1 C;generalize qs[m].2.2.2=l2 at x1 C;obtain⟨pr,EP⟩:∃v,Hid (qs[m].1=v):=⟨_,J6 rfl⟩;rw[EP.out]at x0 C;have a1:=E.size;have HB:=J6 E;clear J E
  by_cases hv:v<0
  ·have d1:decide (v<0)=true:=V7 hv
   have HV:=J6 hv;clear hv;go_wp2_with (go_at_fn g;refine C.mono ?_;rintro e w2⟨rfl,a0⟩)
   go_roundg (hi-(m+1))
   case measure=>omega
   exact⟨m+1,hi,Q0,a2,rfl,J5,rfl,HB.trans (a0.mono a1),J6 ⟨fun i hx h=>Ny HR Z Q0 (by rw[EV.out];exact HV),HI.2⟩⟩
  have d1:decide (v<0)=false:=V9 hv;have HV:=J6 hv;clear hv;go_wp2_with (go_at_fn g;refine C.mono ?_;rintro e w2⟨rfl,a0⟩)
  go_roundg (m-u)
  case measure=>omega
  exact⟨u,m,Q0,Q0,rfl,rfl,J5,HB.trans (a0.mono a1),J6 ⟨HI.1,fun i hx h=>by
   obtain h1|h1:=Int.lt_or_le (P5 side qs[i].1 p) 0
   ·have:=Ny HR hx h h1
    rw[EV.out]at this;have h5:=HV.out;omega
   exact h1⟩⟩
 obtain rfl:u=hi:=by omega
 have a7:¬(u:Int)<(u:Int):=Q0;have HB:=J6 E
 by_cases a5:u<n
 ·have Z:u<qs.length:=by have:=HL.out;omega
  obtain⟨b,D,hA⟩:∃b D,A=some (aD b D):=by obtain⟨b,D,h1,_⟩:=HH.2 Q0;exact⟨b,D,h1⟩
  subst hA;have J:=HH.below E Q2;have x0:wr.cell? (aD b (D+u*2))=some (I O qs[u].1):=J.at_ Z (j:=0) rfl;have x1:wr.cell? (aD b (D+u*2+1))=some (.slice qs[u].2.1 qs[u].2.2.1 qs[u].2.2.2):=J.at_ Z (j:=1) rfl;have C:=HC.out wr qs[u] E;have a6:(0:Int)<=(u:Int):=Q0;have a3:(u:Int)<(n:Int):=Q0;have d1:decide ((u:Int)<(n:Int))=true:=V7 a3;have HG:Hid ((decide (u<n) && (match qs[u]? with|some q=>P5 side q.1 p ==0|none=>false))=(P5 side qs[u].1 p ==0)):=J6 (by rw[V7 a5,JY Z];rfl);generalize qs[u].2.1=l0 at x1 C;generalize qs[u].2.2.1=l1 at x1 C;generalize qs[u].2.2.2=l2 at x1 C;obtain⟨v,EV⟩:∃v,Hid (P5 side qs[u].1 p=v):=⟨_,J6 rfl⟩;rw[EV.out]at C;obtain⟨pr,EP⟩:∃v,Hid (qs[u].1=v):=⟨_,J6 rfl⟩;rw[EP.out]at x0 C;have a1:=E.size;clear J E;go_wp2_with (go_at_fn g;refine C.mono ?_;rintro e w2⟨rfl,a0⟩)
  go_ret2;exact⟨HB.trans (a0.mono a1),u,a2,HI.1,HI.2,by rw[HG.out,EV.out];rfl⟩
 have d1:decide ((u:Int)<(n:Int))=false:=V9 Q0;have a3:¬(u:Int)<(n:Int):=Q0;have HG:Hid ((decide (u<n) && (match qs[u]? with|some q=>P5 side q.1 p ==0|none=>false))=false):=J6 (by rw[V9 a5];rfl);clear E;go_wp2;go_ret2;exact⟨HB,u,a2,HI.1,HI.2,by rw[HG.out];rfl⟩
def ZA(side:Int)(o x:X6):Bool:=x.kind ==2 || (!(o.kind ==2) && (x.price ==o.price ||KU side x.price o.price))
def UF(side:Int)(L:List X6)(o:X6):List X6:=L.takeWhile (ZA side o)++o::L.dropWhile (ZA side o)
def L9(L:List X6)(id:Int):List X6:=L.filter fun o=> !(o.id ==id)
def D9(o:X6)(n:Int):X6:=⟨o.id,o.side,o.kind,o.price,o.qty-n⟩
def YX(L:List X6)(id n:Int):List X6:=L.map fun o=>if o.id=id then D9 o n else o
def B4(L:List X6)(id:Int):Option X6:=L.find? fun o=>o.id ==id
theorem Gp{α:Type}{p}{i l2:List α}(h1:∀a∈i,p a=true)(h2:∀a∈l2,p a=false):(i++l2).takeWhile p=i/\(i++l2).dropWhile p=l2:=by
 induction i with
 |nil=>
  cases l2 with
  |nil=>exact⟨rfl,rfl⟩
  |cons a l=>simp[h2 a Q3]
 |cons a l j=>
  have j:=j (fun x u=>h1 x (by simp[u]));rw[DV,List.takeWhile_cons_of_pos (h1 a Q3),List.dropWhile_cons_of_pos (h1 a Q3),j.1,j.2];exact⟨rfl,rfl⟩
theorem Nz{side l1 l2 o}(h1:∀a∈l1,ZA side o a=true)(h2:∀a∈l2,ZA side o a=false):UF side (l1++l2) o=l1++o::l2:=by unfold UF;rw[(Gp h1 h2).1,(Gp h1 h2).2]
theorem Lx side L o:(UF side L o).length=L.length+1:=by unfold UF;have:=C5 List.length (LS (p:=ZA side o) (l:=L));rw[B6]at this;rw[B6,JA];omega
theorem Wr{side L o x}:x∈UF side L o↔x=o\/x∈L:=by
 have h:=LS (p:=ZA side o) (l:=L);unfold UF;constructor
 ·intro i
  obtain h1|h1:=B8.1 i
  ·exact .inr (by rw[<-h];exact T9 _ h1)
  obtain h1|h1:=H8.1 h1
  ·exact .inl h1
  exact .inr (by rw[<-h];exact JJ _ h1)
 rintro(rfl|i)
 ·simp
 rw[<-h]at i;obtain h1|h1:=B8.1 i
 ·exact T9 _ h1
 exact JJ _ (VS _ h1)
abbrev HO:=(Int×Int)×X6
def S7(h:Int×Int):List Value:=[I O h.1,I O h.2]
theorem NN h:(S7 h).length=2:=rfl
structure QG where
 price:Int
 A:Option Addr
 c:Nat
 os:List HO
def QG.que(q:QG):RQ:=(q.price,q.A,q.os.length,q.c)
def C9(qs:List QG):List HO:=qs.flatMap (·.os)
def N6(ms:List HO)(qs:List QG):List HO:=ms++C9 qs
def E7(l:List HO):List X6:=l.map (·.2)
def N9(l:List HO):List (Int×Int):=l.map (·.1)
theorem NP a b:E7 (a++b)=E7 a++E7 b:=by simp[E7]
theorem NT qs{k}(hk:k<qs.length):C9 qs=C9 (qs.take k)++(qs[k].os++C9 (qs.drop (k+1))):=by
 unfold C9
 conv=>lhs;rw[<-P9 k qs,CZ hk]
 rw[Vf,List.flatMap_cons]
theorem Ds(qs:List QG){k}(hk:k<qs.length)q:C9 (qs.set k q)=C9 (qs.take k)++(q.os++C9 (qs.drop (k+1))):=by rw[NT (qs.set k q) (by simpa using hk)];rw[SL,Xb Q2,Ar Q0]
theorem Qv1 qs k q(h:q.os=[]):C9 (qs.take k++q::qs.drop k)=C9 qs:=by
 unfold C9
 conv=>rhs;rw[<-P9 k qs]
 rw[Vf,List.flatMap_cons,Vf,h]
 rfl
structure LU(side:Int)(ms:List HO)(qs:List QG):Prop where
 mkt:∀x∈ms,x.2.kind=2/\x.2.side=side
 qk:∀q∈qs,∀x∈q.os,x.2.kind≠2/\x.2.side=side/\x.2.price=q.price
 rank:FY side (qs.map QG.que)
theorem Bn side a:KU side a a=false:=by unfold KU;split<;>simp
theorem Pb{side a b}(h:KU side a b=true):KU side b a=false:=by
 unfold KU at*
 split at h<;>simp_all<;>omega
theorem Qe1{side a b}(h:KU side a b=true):a≠b:=by rintro rfl;rw[Bn]at h;cases h
theorem Qn{side:Int}{qs:List QG}(h:FY side (qs.map QG.que)){i j:Nat}(C:j<qs.length)(u:i<j):KU side (qs[i]'(by omega)).price qs[j].price=true:=by have:=GG.1 h i j Q7 (by simpa using C) u;simpa [QG.que]using this
theorem Jc4{side ms qs}(h:LU side ms qs)x(u:x.2.kind=2):UF side (E7 (N6 ms qs)) x.2=E7 (N6 (ms++[x]) qs):=by
 unfold N6;rw[NP,Nz,NP,NP]
 ·simp[E7]
 ·intro a i
  obtain⟨y,hy,rfl⟩:=Y4.1 i;unfold ZA;simp[(h.mkt y hy).1]
 intro a i;obtain⟨y,hy,rfl⟩:=Y4.1 i;obtain⟨q,j,C⟩:=RU.1 hy;unfold ZA;have:=(h.qk q j y C).1;simp[this,u]
theorem Jm9{side ms qs}(h:LU side ms qs)x(hx:x.2.kind≠2){k}(hk:k<qs.length)(hp:qs[k].price=x.2.price)q'(a1:q'.os=qs[k].os++[x]):UF side (E7 (N6 ms qs)) x.2=E7 (N6 ms (qs.set k q')):=by
 unfold N6;rw[Ds qs hk,NT qs hk,a1];have e:E7 (ms++(C9 (qs.take k)++(qs[k].os++C9 (qs.drop (k+1)))))=E7 (ms++(C9 (qs.take k)++qs[k].os))++E7 (C9 (qs.drop (k+1))):=by simp[E7]
 rw[e,Nz]
 ·simp[E7]
 ·intro a C
  obtain⟨y,hy,rfl⟩:=Y4.1 C;unfold ZA;obtain hy|hy:=B8.1 hy
  ·simp[(h.mkt y hy).1]
  have a2:(x.2.kind ==2)=false:=by simpa using hx
  rw[a2];obtain hy|hy:=B8.1 hy
  ·obtain⟨q,E,u⟩:=RU.1 hy
   obtain⟨i,D,rfl⟩:=ZX.1 E;have a0:i<k:=by simp at D;omega
   rw[MQ]at u;have h1:=(h.qk _ (C7 _) y u).2.2;have h2:=Qn h.rank hk a0;rw[hp,<-h1]at h2;simp[h2]
  have h1:=(h.qk _ (C7 _) y hy).2.2;simp[h1,hp]
 intro a C;obtain⟨y,hy,rfl⟩:=Y4.1 C;obtain⟨q,E,u⟩:=RU.1 hy;obtain⟨i,D,rfl⟩:=ZX.1 E;rw[Xj]at u;have J:=h.qk _ (C7 _) y u;have h2:=Qn h.rank (i:=k) (j:=k+1+i) (by simp at D;omega) Q0;rw[hp,<-J.2.2]at h2;unfold ZA;have h3:=Pb h2;have h4:=Qe1 h2;have Z:(y.2.kind ==2)=false:=by simpa using J.1
 have e2:(y.2.price ==x.2.price)=false:=by simpa using fun e=>h4 e.symm
 rw[Z,e2,h3];simp
theorem Ws q:∀u∈YJ q,u.oneCell'=true:=by intro u i;simp[YJ]at i;obtain rfl|rfl:=i<;>rfl
theorem Xt5:SC YJ 320 268 2 32 261 285 (.agg #[I O 0,.slice none 0 0]):=⟨MK,Ws,.inr ⟨rfl,rfl,rfl,rfl,rfl,rfl,rfl⟩⟩
theorem Xs3:Jh YJ 320 268 2 232 (.agg #[I O 0,.slice none 0 0]):=⟨MK,Ws,.inr (.inr ⟨rfl,rfl,rfl,rfl,rfl⟩)⟩
def Yo(side p:Int)(qs:List RQ)(n k:Nat):Prop:=k<=n/\(∀i(hi:i<qs.length),i<k->P5 side qs[i].1 p<0)/\(∀i(hi:i<qs.length),k<=i->0<=P5 side qs[i].1 p)
def PU(side p:Int)(qs:List RQ)(n k:Nat):Bool:=decide (k<n) && (match qs[k]? with|some q=>P5 side q.1 p ==0|none=>false)
def Wt(side p:Int)(qs:List RQ)(n:Nat)(w:World)(e:Ending)(w':World):Prop:=Bz w w'/\∃k,Yo side p qs n k/\e=.returned (.tuple #[I O k,.bool (PU side p qs n k)])
theorem Wu w b o side p A n c qs(J:w.cell? (aD b (o+1))=some (.slice A n c))(h:C0 w YJ 2 A n qs)(Z:FY side qs)(hm:n<=100000):Calls prog 231 #[IP (some (aD b o)),I O side,I O p] w (Wt side p qs n w):=by
 have hg:=U5 w _ J;have z0:=(W7 w (.cells #[I O side] 3) (aD b (o+1)) hg).trans J;have j:Bz w (w.alloc (.cells #[I O side] 3)):=(J9 _ w).alloc Q2 _;have D:J7 (w.alloc (.cells #[I O side] 3)) (zS w) 3 #[I O side]:=Z5 w _ _;have eg:=R0 func265 Q4 rfl;have a0:∀w',(Instr.makeFunc (.func 265) #[] #[pA (zS w)]).run prog w'=.ok (.func (.func 265) #[] #[pA (zS w)]) w':=fun _=>rfl
 have hs:=Jc3 side p 265 #[pA (zS w)] A n c qs _ (h.below j Q2) Z hm eg (fun W q i=>Qv0 side q.1 p _ (zS w) W ⟨_,_,_,rfl⟩ (by rw[X9 (Z4 D i)];rfl));obtain⟨HS,HA⟩:=Xt6 (show Calls prog 264 _ _ (Wt side p qs n _)from hs.mono fun e w'⟨i,k,h1,h2,h3,h4⟩=>⟨i,k,⟨h1,h2,h3⟩,h4⟩) j;clear hs j D h Z;go_enter func231,ntmps231
 go_wp2_with fail
 refine HS.mono ?_;rintro e w1⟨i,k,E,rfl⟩;obtain⟨HF,HB⟩:=Xt6 E (HA.trans (i.mono Q3));clear E i;obtain⟨C,u⟩:∃C,Hid (PU side p qs n k=C):=⟨_,J6 rfl⟩;rw[u.out];go_wp2;go_ret2;exact⟨HB,k,HF,by rw[u.out];rfl⟩
theorem Xs4:SC Y8 331 198 3 24 270 287 (.agg #[I O 0,I O 0,I O 0]):=⟨QE,Qh,.inl ⟨rfl,rfl,rfl,rfl,rfl,rfl,rfl⟩⟩
theorem Xs5:Jh Y8 331 198 3 271 (.agg #[I O 0,I O 0,I O 0]):=⟨QE,Qh,.inl ⟨rfl,rfl,rfl,rfl,rfl⟩⟩
def F8(lv:List Z7)(p:Int):Int×Int:=((lv.find? fun x=>x.1 ==p).map (·.2)).getD (0,0)
structure CK(lv:List Z7):Prop where
 rank:UA lv
 nz:∀x∈lv,0<=x.2.1/\0<=x.2.2/\(x.2.1≠0\/x.2.2≠0)
 pr:∀x∈lv,1<=x.1/\x.1<=1000000
theorem Uh{pre post x p}(h:p≠x.1):F8 (pre++x::post) p=F8 (pre++post) p:=by unfold F8;rw[List.find?_append,List.find?_append,List.find?_cons_of_neg (by simp;exact fun e=>h e.symm)]
theorem Ux{lv p}(h:∀x∈lv,x.1≠p):F8 lv p=(0,0):=by
 unfold F8;rw[GN.2 (fun x i=>by simpa using h x i)]
 rfl
theorem WW{pre post x}(h:UA (pre++x::post)):(∀y∈pre,y.1<x.1)/\(∀y∈post,x.1<y.1)/\UA (pre++post):=by unfold UA at*;rw[DZ,RV]at h;obtain⟨h1,⟨h2,j⟩,i⟩:=h;refine⟨fun y hy=>i y hy x Q3,h2,?_⟩;rw[DZ];exact⟨h1,j,fun a u b C=>i a u b (by simp[C])⟩
theorem Wv{pre post x}(h:UA (pre++post))(h1:∀y∈pre,y.1<x.1)(h2:∀y∈post,x.1<y.1):UA (pre++x::post):=by
 unfold UA at*;rw[DZ]at h;rw[DZ,RV];refine⟨h.1,⟨h2,h.2.1⟩,fun a j b i=>?_⟩;obtain rfl|i:=H8.1 i
 ·exact h1 a j
 exact h.2.2 a j b i
theorem Dt{pre post x}(h:UA (pre++x::post)):F8 (pre++x::post) x.1=x.2:=by
 obtain⟨h1,-,-⟩:=WW h;unfold F8;rw[List.find?_append,GN.2 (fun y hy=>by have:=h1 y hy;simp;omega),List.find?_cons_of_pos Q3]
 rfl
theorem Jz0{pre post x}(h:UA (pre++x::post)):F8 (pre++post) x.1=(0,0):=by
 obtain⟨h1,h2,-⟩:=WW h;refine Ux fun y hy=>?_
 obtain hy|hy:=B8.1 hy
 ·have:=h1 y hy;omega
 have:=h2 y hy;omega
theorem Qv2{lv:List Z7}{p k}(hk:k<=lv.length)(h1:∀i(j:i<lv.length),i<k->JR lv[i].1 p<0)(h2:∀i(j:i<lv.length),k<=i->0<=JR lv[i].1 p):lv=lv.take k++lv.drop k/\(∀y∈lv.take k,y.1<p)/\(∀y∈lv.drop k,p<=y.1):=by
 refine⟨(P9 k lv).symm,fun y hy=>?_,fun y hy=>?_⟩
 ·obtain⟨i,j,rfl⟩:=ZX.1 hy
  rw[R7]at j;rw[MQ];have:=h1 i Q0 Q0;unfold JR at this;omega
 obtain⟨i,j,rfl⟩:=ZX.1 hy;rw[UQ]at j;rw[Xj];have:=h2 (k+i) Q0 Q0;unfold JR at this;omega
structure KF(w:World)(X:Nat)(t:TypeId)(cs:Array Value)(o:Nat)(A:Option Addr)(c:Nat)(lv:List Z7)(bu se:Int):Prop where
 blk:J7 w X t cs
 c0:cs[o]?=some (.slice A lv.length c)
 c1:cs[o+1]?=some (I O bu)
 c2:cs[o+2]?=some (I O se)
 row:X8 w A lv.length c 331 3 (X7 Y8 lv)
 na:X5 A≠some X
 ok:CK lv
def UC(w w':World)(X:Nat)(t:TypeId)(cs:Array Value)(o:Nat)(A:Option Addr)(lv':List Z7)(bu' se':Int):Prop:=
 ∃cs' A' c',KF w' X t cs' o A' c' lv' bu' se'/\cs'.size=cs.size/\(∀i,i≠o->i≠o+1->i≠o+2->cs'[i]?=cs[i]?)/\X4 (fun i=>i=X\/X5 A=some i) w w'/\∀g,X5 A'=some g->X5 A=some g\/w.heap.size<=g
section
variable {w w':World} {X:Nat} {t:TypeId} {cs:Array Value} {o:Nat} {A:Option Addr} {c:Nat} {lv:List Z7} {bu se:Int}
theorem KF.cells(h:KF w X t cs o A c lv bu se):w.cell? (aD X o)=some (.slice A lv.length c)/\w.cell? (aD X (o+1))=some (I O bu)/\w.cell? (aD X (o+2))=some (I O se):=
 ⟨by rw[X9 h.blk];exact h.c0,by rw[X9 h.blk];exact h.c1,by rw[X9 h.blk];exact h.c2⟩
theorem KF.keeps{S}(h:KF w X t cs o A c lv bu se)(hk:X4 S w w')(h1:¬S X)(h2:∀g,X5 A=some g->¬S g):KF w' X t cs o A c lv bu se:=
 ⟨V0 h.blk hk h1,h.c0,h.c1,h.c2,h.row.keeps hk h2,h.na,h.ok⟩
theorem KF.below(h:KF w X t cs o A c lv bu se)(i:Bz w w'):KF w' X t cs o A c lv bu se:=h.keeps (B9 i (fun _=>False)) id (fun _ _=>id)
theorem UC.same(h:KF w X t cs o A c lv bu se)(i:Bz w w'):UC w w' X t cs o A lv bu se:=
 ⟨cs,A,c,h.below i,rfl,fun _ _ _ _=>rfl,B9 i _,fun g j=>.inl j⟩
theorem UC.then_{w'' lv' bu' se'}(h:UC w w' X t cs o A lv' bu' se')(i:Bz w' w''):UC w w'' X t cs o A lv' bu' se':=by obtain⟨j,A',c',h1,h2,u,C,D⟩:=h;exact⟨j,A',c',h1.below i,h2,u,C.then_ i,D⟩
theorem KF.market(h:KF w X t cs o A c lv bu se)(J:Bz w w')bu' se' j v(C:(j=1/\bu'=v/\se'=se)\/(j=2/\bu'=bu/\se'=v)):UC w (w'.setCell (aD X (o+j)) (I O v)) X t cs o A lv bu' se':=by
 have Z:∀i,(∃u,cs[i]?=some u)->i<cs.size:=fun i⟨u,hu⟩=>(EC.1 hu).1
 have s1:=Z _ ⟨_,h.c1⟩;have s2:=Z _ ⟨_,h.c2⟩;have E:=h.below J;have hk:=U1 w' (aD X (o+j)) (I O v);refine⟨cs.setIfInBounds (o+j) (I O v),A,c,⟨Z0 E.blk (o+j) _,?_,?_,?_,E.row.keeps hk (fun g D e=>h.na (by rw[D];exact C5 some e)),h.na,h.ok⟩,Q3,fun i h1 h2 h3=>?_,(B9 J _).trans hk (fun i e=>.inl (.inl e)),fun g D=>.inl D⟩
 ·rw[AD (by rcases C with⟨rfl,_⟩|⟨rfl,_⟩<;>omega)];exact h.c0
 ·rcases C with⟨rfl,rfl,rfl⟩|⟨rfl,rfl,rfl⟩
  ·rw[Jr s1]
  rw[AD Q0];exact h.c1
 ·rcases C with⟨rfl,rfl,rfl⟩|⟨rfl,rfl,rfl⟩
  ·rw[AD Q0];exact h.c2
  rw[Jr s2]
 rw[AD (by rcases C with⟨rfl,_⟩|⟨rfl,_⟩<;>omega)]
end
def dB(o:X6):Int:=if o.side=1 then o.qty else 0
def dS(o:X6):Int:=if o.side=1 then 0 else o.qty
def AH(o:X6):Prop:=(o.side=1\/o.side=2)/\(1<=o.qty/\o.qty<=1000000)/\(o.kind=2\/(1<=o.price/\o.price<=1000000))
structure MT(lv:List Z7)(bu se:Int):Prop where
 b:0<=bu/\bu<=1000000000000000
 s:0<=se/\se<=1000000000000000
 l:∀x∈lv,x.2.1<=1000000000000000/\x.2.2<=1000000000000000
 n:lv.length<=99999
theorem Sa{lv k}(hk:k<lv.length)y(h:y.1=lv[k].1):((X7 Y8 lv).set (k*3+1) (I O y.2.1)).set (k*3+2) (I O y.2.2)=X7 Y8 (lv.set k y):=by
 have i:(X7 Y8 lv)[k*3+0]?=some (I O y.1):=by rw[h];exact MB QE lv k hk 0 Q0
 refine Eq.trans ?_ (TB QE y lv k hk);show _=(((X7 Y8 lv).set (k*3) (I O y.1)).set (k*3+1) (I O y.2.1)).set (k*3+2) (I O y.2.2);have C:(X7 Y8 lv).set (k*3) (I O y.1)=X7 Y8 lv:=by
  apply Vh;intro j
  by_cases e:k*3=j
  ·subst e
   have u:=(Ju.1 i).1;rw[Vb (by simpa using u)];exact i.symm
  rw[UL e]
 rw[C]
theorem Jc5{lv k}(hk:k<lv.length)v:(X7 Y8 lv).set (k*3+1) (I O v)=X7 Y8 (lv.set k (lv[k].1,v,lv[k].2.2)):=by
 rw[<-Sa hk (lv[k].1,v,lv[k].2.2) rfl];dsimp only;have h2:(X7 Y8 lv)[k*3+2]?=some (I O lv[k].2.2):=MB QE lv k hk 2 Q0;apply Vh;intro j
 by_cases e:k*3+2=j
 ·subst e
  have i:=(Ju.1 h2).1;rw[Vb (by simpa using i),UL Q0];exact h2
 rw[UL e]
theorem Jc6{lv k}(hk:k<lv.length)v:(X7 Y8 lv).set (k*3+2) (I O v)=X7 Y8 (lv.set k (lv[k].1,lv[k].2.1,v)):=by
 rw[<-Sa hk (lv[k].1,lv[k].2.1,v) rfl];dsimp only;have h2:(X7 Y8 lv)[k*3+1]?=some (I O lv[k].2.1):=MB QE lv k hk 1 Q0
 congr 1
 apply Vh;intro j
 by_cases e:k*3+1=j
 ·subst e
  have i:=(Ju.1 h2).1;rw[Vb (by simpa using i)];exact h2
 rw[UL e]
theorem Kr{w g n c lv}(h:X8 w (sA g) n c 331 3 (X7 Y8 lv)){k}(hk:k<lv.length):w.cell? (aD g (k*3))=some (I O lv[k].1)/\w.cell? (aD g (k*3+1))=some (I O lv[k].2.1)/\w.cell? (aD g (k*3+2))=some (I O lv[k].2.2):=by
 obtain⟨u,j,i⟩:=h.elem QE Q0 hk
 cases j;exact⟨i 0 _ rfl,i 1 _ rfl,i 2 _ rfl⟩
structure UW(w wx:World)(X:Nat)(t:TypeId)(cs:Array Value)(o:Nat)(A:Option Addr)(lv:List Z7)(bu se:Int)(p:Int)(k:Nat)(cs1:Array Value)(A1:Option Addr)(c1:Nat)(lv1:List Z7)(b s:Int):Prop where
 blk:J7 wx X t cs1
 c0:cs1[o]?=some (.slice A1 lv1.length c1)
 c1_:cs1[o+1]?=some (I O bu)
 c2:cs1[o+2]?=some (I O se)
 size:cs1.size=cs.size
 rest:∀i,i≠o->i≠o+1->i≠o+2->cs1[i]?=cs[i]?
 row:X8 wx A1 lv1.length c1 331 3 (X7 Y8 lv1)
 na:X5 A1≠some X
 kk:lv1[k]?=some (p,b,s)
 rank:UA lv1
 old:∀x∈lv1,x.1≠p->x∈lv
 same:∀p',p'≠p->F8 lv1 p'=F8 lv p'
 len:lv1.length<=lv.length+1
 keep:X4 (fun i=>i=X\/X5 A=some i) w wx
 fresh:∀g,X5 A1=some g->X5 A=some g\/w.heap.size<=g
section
variable {w w' wx:World} {X:Nat} {t:TypeId} {cs:Array Value} {o:Nat} {A:Option Addr} {c:Nat} {lv:List Z7} {bu se p:Int} {k:Nat}
theorem UW.found(h:KF w X t cs o A c lv bu se)(j:Bz w wx)(hk:k<lv.length)(hp:lv[k].1=p):UW w wx X t cs o A lv bu se p k cs A c lv lv[k].2.1 lv[k].2.2/\F8 lv p=(lv[k].2.1,lv[k].2.2):=by
 have i:=h.below j;have e:lv=lv.take k++lv[k]::lv.drop (k+1):=by rw[<-CZ hk,P9]
 refine⟨⟨i.blk,h.c0,h.c1,h.c2,rfl,fun _ _ _ _=>rfl,i.row,h.na,?_,h.ok.rank,fun x C _=>C,fun _ _=>rfl,Nat.le_succ _,B9 j _,fun g u=>.inl u⟩,?_⟩
 ·rw[JY hk,<-hp]
 have h1:=Dt (pre:=lv.take k) (post:=lv.drop (k+1)) (x:=lv[k]) (by rw[<-e];exact h.ok.rank);rw[<-e,hp]at h1;exact h1
theorem UW.new_{w3 A1 c1}(h:KF w X t cs o A c lv bu se)(C:Bz w wx)(hk:k<=lv.length)(h1:∀i(E:i<lv.length),i<k->JR lv[i].1 p<0)(h2:∀i(E:i<lv.length),k<=i->0<=JR lv[i].1 p)(hn:∀x∈lv,x.1≠p)(E:Jg Y8 331 3 wx w3 A A1 (lv.length+1) c1 (lv.take k++(p,0,0)::lv.drop k)):UW w (w3.setCell (aD X o) (.slice A1 (lv.length+1) c1)) X t cs o A lv bu se p k (cs.setIfInBounds o (.slice A1 (lv.length+1) c1)) A1 c1 (lv.take k++(p,0,0)::lv.drop k) 0 0/\F8 lv p=(0,0):=by
 obtain⟨hr,a1,Z⟩:=E;have h':=h.below C;have a7:=Z9 h.blk;have so:o<cs.size:=(EC.1 h.c0).1;have a3:J7 w3 X t cs:=V0 h'.blk a1 (fun e=>h.na e);have a2:X5 A1≠some X:=fun e=>by
  obtain j|j:=Z X e
  ·exact h.na j
  have:=C.size;omega
 have J:(lv.take k++(p,0,0)::lv.drop k).length=lv.length+1:=Q7;have a0:=U1 w3 (aD X o) (.slice A1 (lv.length+1) c1);obtain⟨e0,e1,e2⟩:=Qv2 hk h1 h2;have a6:UA (lv.take k++(p,0,0)::lv.drop k):=Wv (by rw[<-e0];exact h.ok.rank) e1 (fun y hy=>by have j:=e2 y hy;have h4:=hn y (FP hy);omega)
 refine⟨⟨Z0 a3 o _,?_,?_,?_,Q3,fun i j h4 h5=>?_,?_,a2,?_,a6,fun x u a4=>?_,fun p' a5=>?_,by rw[J];exact X3 _,?_,fun g D=>?_⟩,Ux hn⟩
 ·rw[Jr so,J]
 ·rw[AD Q0];exact h.c1
 ·rw[AD Q0];exact h.c2
 ·rw[AD Q0]
 ·rw[J]
  exact hr.keeps a0 (fun g D e=>a2 (by rw[D];exact C5 some e))
 ·have hl:(lv.take k).length=k:=by rw[R7];omega
  rw[Jt Q0,hl,Nat.sub_self]
  rfl
 ·obtain u|u:=B8.1 u
  ·exact CV u
  obtain rfl|u:=H8.1 u
  ·exact absurd rfl a4
  exact FP u
 ·rw[Uh (x:=(p,0,0)) a5,<-e0]
 ·exact((B9 C _).trans a1 (fun i e=>.inl (.inr e))).trans a0 (fun i e=>.inl (.inl e))
 obtain j|j:=Z g D
 ·exact .inl j
 exact .inr (U4 C.size j)
theorem MT.lot(u:MT lv bu se)(hk:CK lv)p:(0<=(F8 lv p).1/\(F8 lv p).1<=1000000000000000)/\(0<=(F8 lv p).2/\(F8 lv p).2<=1000000000000000):=by
 unfold F8
 cases j:lv.find? (fun x=>x.1 ==p)with
 |none=>exact⟨⟨T3 0,Q1⟩,⟨T3 0,Q1⟩⟩
 |some x=>
  have i:=NE j;have h1:=hk.nz x i;have h2:=u.l x i;exact⟨⟨h1.1,h2.1⟩,⟨h1.2.1,h2.2⟩⟩
theorem UW.parts{cs1 A1 c1 lv1 b s}(h:UW w wx X t cs o A lv bu se p k cs1 A1 c1 lv1 b s):∃(hk:k<lv1.length),lv1[k]=(p,b,s)/\lv1=lv1.take k++(p,b,s)::lv1.drop (k+1):=by obtain⟨hk,e⟩:=Ju.1 h.kk;exact⟨hk,e,by rw[<-e,<-CZ hk,P9]⟩
theorem UW.put{cs1 g c1 lv1 b s b' s'}(h:UW w wx X t cs o A lv bu se p k cs1 (sA g) c1 lv1 b s)j v(hj:(j=1/\b'=v/\s'=s)\/(j=2/\b'=b/\s'=v)):UW w (wx.setCell (aD g (k*3+j)) (I O v)) X t cs o A lv bu se p k cs1 (sA g) c1 (lv1.set k (p,b',s')) b' s':=by
 obtain⟨hk,a0,E⟩:=h.parts;have a2:X≠g:=fun e=>h.na (by rw[e];rfl)
 have Z:=U1 wx (aD g (k*3+j)) (I O v);have J:lv1.set k (p,b',s')=lv1.take k++(p,b',s')::lv1.drop (k+1):=by rw[List.set_eq_take_append_cons_drop,X0 hk]
 have hr:=h.rank;rw[E]at hr;obtain⟨r1,r2,r3⟩:=WW hr;have u:=h.row.set (k*3+j) (I O v);refine⟨V0 h.blk Z a2,by rw[XH];exact h.c0,h.c1_,h.c2,h.size,h.rest,?_,h.na,by rw[Vb hk],by rw[J];exact Wv r3 r1 r2,fun x D a1=>?_,fun p' C=>?_,by rw[XH];exact h.len,h.keep.trans Z (fun i e=>?_),h.fresh⟩
 ·rw[XH]
  rcases hj with⟨rfl,rfl,rfl⟩|⟨rfl,rfl,rfl⟩
  ·rw[Jc5 hk,a0]at u;exact u
  rw[Jc6 hk,a0]at u;exact u
 ·obtain D|rfl:=RJ D
  ·exact h.old x D a1
  exact absurd rfl a1
 ·rw[J,Uh (x:=(p,b',s')) C,<-Uh (x:=(p,b,s)) C,<-E]
  exact h.same p' C
 have e:i=g:=e;subst e;exact(h.fresh i rfl).imp .inr id
theorem UW.ok{cs1 A1 c1 lv1 b s}(h:UW w wx X t cs o A lv bu se p k cs1 A1 c1 lv1 b s)(hk:CK lv){x}(j:x∈lv1)(i:x.1≠p):(0<=x.2.1/\0<=x.2.2/\(x.2.1≠0\/x.2.2≠0))/\(1<=x.1/\x.1<=1000000):=
 ⟨hk.nz x (h.old x j i),hk.pr x (h.old x j i)⟩
theorem UW.done{cs1 A1 c1 lv1 b s}(h:UW w wx X t cs o A lv bu se p k cs1 A1 c1 lv1 b s)(hk:CK lv)(hp:1<=p/\p<=1000000)(C:0<=b)(D:0<=s)(hz:¬(b=0/\s=0)):∃lv',UC w wx X t cs o A lv' bu se/\lv'.length<=lv.length+1/\∀p',F8 lv' p'=if p'=p then(b,s)else F8 lv p':=by
 obtain⟨Z,a0,j⟩:=h.parts;refine⟨lv1,⟨cs1,A1,c1,⟨h.blk,h.c0,h.c1_,h.c2,h.row,h.na,⟨h.rank,fun x i=>?_,fun x i=>?_⟩⟩,h.size,h.rest,h.keep,h.fresh⟩,h.len,fun p'=>?_⟩
 ·by_cases e:x.1=p
  ·have u:=h.rank
   rw[j]at u i;obtain⟨E,J,-⟩:=WW u;obtain i|i:=B8.1 i
   ·have h1:x.1<p:=E x i;omega
   obtain rfl|i:=H8.1 i
   ·exact⟨C,D,by dsimp only;omega⟩
   have h1:p<x.1:=J x i;omega
  exact(h.ok hk i e).1
 ·by_cases e:x.1=p
  ·rw[e];exact hp
  exact(h.ok hk i e).2
 by_cases e:p'=p
 ·rw[X0 e,e,j]
  exact Dt (x:=(p,b,s)) (by rw[<-j];exact h.rank)
 rw[J8 e];exact h.same p' e
theorem UW.del{w3 cs1 g c1 m lv1}(h:UW w wx X t cs o A lv bu se p k cs1 (sA g) c1 lv1 0 0)(hk:CK lv)(E:Bz wx w')(hm:lv1.length=m+1)(hr:X8 w3 (sA g) m c1 331 3 (X7 Y8 (lv1.take k++lv1.drop (k+1)))) (a1:X4 (fun x=>x=g) w' w3):∃lv',UC w (w3.setCell (aD X o) (.slice (sA g) m c1)) X t cs o A lv' bu se/\lv'.length<=lv.length+1/\∀p',F8 lv' p'=if p'=p then(0,0)else F8 lv p':=by
 obtain⟨a3,a4,J⟩:=h.parts;have Z:X≠g:=fun e=>h.na (by rw[e];rfl)
 have so:o<cs1.size:=(EC.1 h.c0).1;have C:(lv1.take k++lv1.drop (k+1)).length=m:=Q7;have a0:=U1 w3 (aD X o) (.slice (sA g) m c1);have a2:J7 w3 X t cs1:=V0 (Z4 h.blk E) a1 Z;have D:=h.rank;rw[J]at D;obtain⟨r1,r2,r3⟩:=WW D;have u:∀x∈lv1.take k++lv1.drop (k+1),x∈lv1/\x.1≠p:=fun x j=>by
  obtain j|j:=B8.1 j
  ·have h1:x.1<p:=r1 x j
   exact⟨CV j,Q0⟩
  have h1:p<x.1:=r2 x j;exact⟨FP j,Q0⟩
 refine⟨_,⟨cs1.setIfInBounds o (.slice (sA g) m c1),sA g,c1,⟨Z0 a2 o _,?_,?_,?_,?_,h.na,⟨r3,fun x j=>(h.ok hk (u x j).1 (u x j).2).1,fun x j=>(h.ok hk (u x j).1 (u x j).2).2⟩⟩,by simp[h.size],fun i h1 h2 h3=>?_,?_,h.fresh⟩,by rw[C];have:=h.len;omega,fun p'=>?_⟩
 ·rw[Jr so,C]
 ·rw[AD Q0];exact h.c1_
 ·rw[AD Q0];exact h.c2
 ·rw[C]
  exact hr.keeps a0 (fun g' hg e=>Z (by cases hg;exact e.symm))
 ·rw[AD Q0];exact h.rest i h1 h2 h3
 ·refine((h.keep.trans (B9 E (fun _=>False)) (fun _ e=>e.elim)).trans a1 (fun i e=>?_)).trans a0 (fun i e=>.inl (.inl e))
  have e:i=g:=e;subst e;exact(h.fresh i rfl).imp .inr id
 by_cases e:p'=p
 ·rw[X0 e,e]
  exact Jz0 (x:=(p,0,0)) D
 rw[J8 e,<-Uh (x:=(p,0,0)) e,<-J];exact h.same p' e
end
theorem Du{w t Q g x y v}(hp:t.tmps.getD 4 undef=pA g)(i:t.tmps.getD 5 undef=v)(u:t.defers=[])(C:J7 w g 261 #[x,y]) (h:Q (.returned (.tuple #[.agg #[x,y],v])) w):bodyPost prog Tryz.f260 Q .ret t w:=by
 refine QA (v:=.tuple #[.agg #[x,y],v]) ?_ u h;have D:=Vl (P:=prog) w g _ 261 #[x,y] (0,0) _ C underlying261 rfl Q4;have E:t.tmps[4]?.getD undef=pA g:=by simpa using hp
 have j:t.tmps[5]?.getD undef=v:=by simpa using i
 simp[results,Tryz.results260,E,j,asAddr,D]
abbrev FH(w:World)(x:X6):World:=(w.alloc (.cells #[I O x.id,I O x.side,I O x.kind,I O x.price,I O x.qty] 84)).alloc (.cells #[I O 0,I O 0] 261)
theorem Cb w x:Bz w (FH w x):=((J9 _ w).alloc Q2 _).alloc Q3 _
theorem Dv w x:J7 (FH w x) (w.heap.size+1) 261 #[I O 0,I O 0]:=by simpa using Z5 (w.alloc (.cells #[I O x.id,I O x.side,I O x.kind,I O x.price,I O x.qty] 84)) 261 #[I O 0,I O 0]
theorem Ww w x:J7 (FH w x) w.heap.size 84 (Z8 x):=G0 (Z5 w _ _) _
theorem Qq9 w a A c B d ss fr most many x(h:QQ w a A c B d ss fr most many)(j:many=most):Calls prog 260 #[pA a,V6 x] w fun e w'=>e=.returned (.tuple #[.agg #[I O 0,I O 0],Y9 12])/\Bz w w':=by
 unfold V6;have N:=V4 j;clear j;have i:=Cb w x;obtain⟨C,D,E,J⟩:=(h.below i).cells;have u:=J6 i;clear i;unfold FH at C D E J;go_enter func260,ntmps260
 go_wp2_with fail
 go_quiet (fail)
 go_wp2
 try simp only[Exit.inBlock,Exit.then]
 refine Du (g:=zS w+1) (x:=I O 0) (y:=I O 0) (v:=Y9 12) Q6 Q6 Q6 (Z0 (Z0 (ZL (Dv w x) _) 0 _) 1 _) ?_;exact⟨rfl,((Y5 u _).setCell Q3 _).setCell Q3 _⟩
theorem Xi2{w1 a c d ss fr most many}{gs u i:Nat}(H:QQ w1 a (sA gs) c (sA u) d ss (fr++[(i:Int)]) most many)(J:i<ss.length)m x:let w5:=(SB ((w1.setCell (aD a 3) (I O m)).setCell (aD a 1) (.slice (sA u) fr.length d)) gs (i*7) x).setCell (aD gs (i*7+6)) (.bool true)
  QQ w5 a (sA gs) c (sA u) d (ss.set i (x,ss[i].2.1,true)) fr most m/\X4 (KB a (sA gs) (sA u)) w1 w5:=by
 intro w5;have Z:gs≠a:=fun e=>H.na (by rw[<-e];rfl)
 have u2:u≠a:=fun e=>H.nb (by rw[<-e];rfl)
 have u3:u≠gs:=fun e=>H.nab gs rfl (by rw[<-e];rfl)
 have C:=(U1 w1 (aD a 3) (I O m)).trans (U1 _ (aD a 1) (.slice (sA u) fr.length d)) (fun j h=>.inl h);have D:X4 (fun j=>j=gs) ((w1.setCell (aD a 3) (I O m)).setCell (aD a 1) (.slice (sA u) fr.length d)) w5:=(Ua _ gs (i*7) x).trans (U1 _ (aD gs (i*7+6)) (.bool true)) (fun j h=>.inl h);have N:=(Dp (H.slots.keeps C (fun g y e=>by cases y;exact Z e)) (i*7) x).set (i*7+6) (.bool true);have h5:(X7 VL ss)[i*7+5]?=some (I O ss[i].2.1):=MB Ka ss i J 5 Q0;have e0:((((((X7 VL ss).set (i*7) (I O x.id)).set (i*7+1) (I O x.side)).set (i*7+2) (I O x.kind)).set (i*7+3) (I O x.price)).set (i*7+4) (I O x.qty)).set (i*7+6) (.bool true)=X7 VL (ss.set i (x,ss[i].2.1,true)):=by refine Eq.trans ?_ (Cw ss i J (x,ss[i].2.1,true));refine C5 (fun l=>List.set l (i*7+6) (Value.bool true)) (Do ?_).symm;rw[UL Q0,UL Q0,UL Q0,UL Q0,UL Q0];exact h5
 rw[e0]at N;have E:=((H.free.pop fr.length Q3).keeps C (fun g y e=>by cases y;exact u2 e)).keeps D (fun g y e=>by cases y;exact u3 e);have e1:(MY (fr++[(i:Int)])).take (fr.length*1)=MY fr:=by unfold MY;rw[L6];simp
 rw[e1]at E;refine⟨⟨?_,?_,E,H.na,H.nb,H.nab⟩,?_⟩
 ·rw[XH];exact V0 (Z0 (Z0 H.blk 3 _) 1 _) D (fun e=>Z e.symm)
 ·rw[XH];exact N
 exact(C.mono (fun j h=>.inl h)).trans (D.mono (fun j h=>(.inr (.inl (by rw[h];rfl)):KB a (sA gs) (sA u) j))) (fun j h=>.inl h)
theorem Qv3 w a A c B d ss fr(i:Nat)most many x(h:QQ w a A c B d ss (fr++[(i:Int)]) most many)(hm:many≠most)(hi:i<ss.length)(b5:fr.length<=2000):Calls prog 260 #[pA a,V6 x] w fun e w'=>e=.returned (.tuple #[.agg #[I O i,I O (ss[i].2.1)],Y9 0])/\Uw w w' a A B (ss.set i (x,ss[i].2.1,true)) fr most (RowKit.wrap64 (many+1)):=by
 unfold V6;have t1:=Z3 hm;clear hm;have Z:=Cb w x;have C:=h.below Z;have a6:=Ww w x;obtain⟨q0,q1,q2,q3⟩:=C.cells;obtain⟨gs,rfl,s0,s1,s2,s3,s4,s5,s6⟩:=C.slot hi;have f0:=C.slots.frozen (i*7);have f1:=C.slots.frozen (i*7+1);have f2:=C.slots.frozen (i*7+2);have f3:=C.slots.frozen (i*7+3);have f4:=C.slots.frozen (i*7+4);have f6:=C.slots.frozen (i*7+6);obtain⟨D,rfl,y0⟩:=C.free.cell (j:=fr.length) (u:=I O (i:Int)) (by simp[MY]);have g1:=K0 C.blk 1;have g3:=K0 C.blk 3;have N:(fr++[(i:Int)]).length=fr.length+1:=Q3;rw[N]at q1;obtain⟨n,J⟩:=exq fr.length;rw[J]at q1 y0;have b2:n+1<=d:=by
  rcases C.free.2 with⟨hh,_⟩|⟨g',b0,b1,hv,_,_,h1,_⟩
  ·cases hh
  cases hv;rw[N,J]at h1;exact h1
 have i1:RowKit.wrap64 (n:Int)=(n:Int):=by unfold RowKit.wrap64;omega
 have u1:gs≠a:=fun e=>C.na (by rw[<-e];rfl)
 have u2:D≠a:=fun e=>C.nb (by rw[<-e];rfl)
 have u3:D≠gs:=fun e=>C.nab gs rfl (by rw[<-e];rfl)
 have a7:=Z9 h.blk;have a9:=h.slots.lt (g:=gs) rfl;have a8:=h.free.lt (g:=D) rfl;have u4:a≠w.heap.size+1:=Q0;have u5:gs≠w.heap.size+1:=Q0;have u6:D≠w.heap.size+1:=Q0;have u7:a≠w.heap.size:=Q0;have u8:gs≠w.heap.size:=Q0;have u9:D≠w.heap.size:=Q0;have i2:(0:Int)<(n:Int)+1:=Q0;have i3:(0:Int)<=(n:Int):=Q0;have i4:(n:Int)<=(d:Int):=Q0;have i5:(n:Int)<(n:Int)+1:=Q0;have i6:(0:Int)<=(i:Int):=Q0;have i7:(i:Int)<(ss.length:Int):=Q0;have d1:decide ((0:Int)<(n:Int)+1)=true:=V7 i2;obtain⟨E,HA,Hn⟩:=Xt7 C Z J;clear C Z h J N a6 a7 a9 a8;unfold FH at q0 q1 q2 q3 s0 s1 s2 s3 s4 s5 s6 f0 f1 f2 f3 f4 f6 y0 g1 g3;go_enter func260,ntmps260
 go_wp2_with fail
 go_quiet (fail)
 go_wp2_with fail
 try simp only[Exit.inBlock,Exit.then]
 have HD:QQ ((FH w x).drewN nq) a (sA gs) c (sA D) d ss (fr++[(i:Int)]) most many:=⟨E.blk,E.slots,E.free,E.na,E.nb,E.nab⟩;obtain⟨a1,a0⟩:=Xi2 HD hi (RowKit.wrap64 (many+1)) x;rw[Hn.out]at a1 a0;have a5:=Y5 HA nq;have hR:J7 ((FH w x).drewN nq) (zS w+1) 261 #[I O 0,I O 0]:=ZL (Dv w x) _;have a2:∀j,KB a (sA gs) (sA D) j->j≠zS w+1:=by
  rintro j(rfl|h|h)
  ·exact u4
  ·cases h;exact u5
  cases h;exact u6
 have a4:=V0 hR a0 (fun h=>a2 _ h rfl);have a3:=(U1 ((SB ((((FH w x).drewN nq).setCell (aD a 3) (I O (RowKit.wrap64 (many+1)))).setCell (aD a 1) (.slice (sA D) n d)) gs (i*7) x).setCell (aD gs (i*7+6)) (.bool true)) (aD (zS w+1) 0) (I O (i:Int))).trans (U1 _ (aD (zS w+1) 1) (I O ss[i].2.1)) (fun j h=>.inl h);refine Du (g:=zS w+1) (x:=I O (i:Int)) (y:=I O ss[i].2.1) (v:=Y9 0) Q6 Q6 Q6 (Z0 (Z0 a4 0 _) 1 _) ?_;refine⟨rfl,sA gs,c,sA D,d,a1.keeps a3 (fun j hj=>a2 j hj),?_,fun j hj=>.inl hj⟩;exact((B9 a5 _).trans a0 (fun j h=>.inl h)).trans a3 (fun j h=>.inr (by have:j=w.heap.size+1:=h;omega))
theorem Jc7:(prog.info? 313).map (fun i=>(i.zero,i.size,i.bytes))=some (some (.agg #[I O 0,I O 0,I O 0,I O 0,I O 0,I O 0,.bool false]),7,56):=Q4
theorem Jz1{w2 w3 a c d A B ss fr most many}(H:QQ w2 a A c B d ss fr most many){o gg cap x}(a1:w3.ownsRow 0 313 7 (.slice (sA gg) (ss.length+1) cap) (ss.length+1) (X7 VL ss++VL (x,0,true))) (J:((w2.alloc o).drew).grownBy w3 (Value.slice A ss.length c).ownBlock)(u:(Value.slice A ss.length c).ownBlock=some gg\/gg=w2.heap.size+1):let w5:=w3.setCell (aD a 0) (.slice (sA gg) (ss.length+1) cap)
  QQ w5 a (sA gg) cap B d (ss++[(x,0,true)]) fr most many/\X4 (KB a A B) w2 w5/\(∀i,KB a (sA gg) B i->KB a A B i\/w2.heap.size<=i):=by
 intro w5;rw[C8]at J u;have a2:=Z9 H.blk;have y:=RA J;have E:gg≠a:=by
  obtain h|h:=u
  ·intro e;exact H.na (by rw[h,e])
  omega
 have a0:∀g,X5 B=some g->g≠gg:=by
  intro g j e;obtain h|h:=u
  ·exact H.nab gg h (by rw[j,e])
  have:=H.free.lt j;omega
 have b3:=V0 H.blk y H.na;have Z:=H.free.keeps y (fun g j e=>H.nab g e j);have s3:X8 w3 (sA gg) (ss.length+1) cap 313 7 (X7 VL ss++VL (x,0,true)):=a1;have C:X4 (fun i=>i=a) w3 w5:=U1 w3 (aD a 0) (.slice (sA gg) (ss.length+1) cap);have D:(ss++[(x,(0:Int),true)]).length=ss.length+1:=Q3;have N:X7 VL (ss++[(x,0,true)])=X7 VL ss++VL (x,0,true):=AQ _ _ _;refine⟨⟨?_,?_,?_,?_,H.nb,?_⟩,?_,?_⟩
 ·rw[D];exact Z0 b3 0 _
 ·rw[D,N];exact s3.keeps C (fun g j e=>by cases j;exact E e)
 ·exact Z.keeps C (fun g j e=>H.nb (by rw[j,e]))
 ·intro e;cases e;exact E rfl
 ·intro g j e;cases j;exact a0 _ e rfl
 ·exact(y.mono (fun i h=>(.inr (.inl h):KB a A B i))).trans C (fun i h=>.inl (.inl h))
 rintro i(h|h|h)
 ·exact .inl (.inl h)
 ·cases h
  obtain h|h:=u
  ·exact .inl (.inr (.inl h))
  exact .inr (by show _<=gg;omega)
 exact .inl (.inr (.inr h))
theorem Qv4 w a A c B d ss most many x(h:QQ w a A c B d ss [] most many)(hm:many≠most)(d0:ss.length<=2000):Calls prog 260 #[pA a,V6 x] w fun e w'=>e=.returned (.tuple #[.agg #[I O ss.length,I O 0],Y9 0])/\Uw w w' a A B (ss++[(x,0,true)]) [] most (RowKit.wrap64 (many+1)):=by
 unfold V6;have t1:=Z3 hm;clear hm;have hA:=Cb w x;have N:=h.below hA;obtain⟨q0,q1,q2,q3⟩:=N.cells;have g3:=K0 N.blk 3;have a8:=J6 (fun i(hi:KB a A B i)=>h.fp hi);have c6:=Z9 h.blk;have u4:a≠w.heap.size+1:=Q0;have u7:a≠w.heap.size:=Q0;obtain⟨E,HA⟩:=Xt6 N hA;clear N hA h c6;obtain⟨n,hn⟩:=exq ss.length;have Hn:=J6 hn;unfold FH at q0 q1 q2 q3 g3;go_enter func260,ntmps260
 go_wp2_with fail
 go_quiet (fail)
 go_upto_region 11 with fail
 have u:QQ ((FH w x).drewN nq) a A c B d ss [] most many:=⟨E.blk,E.slots,E.free,E.na,E.nb,E.nab⟩;have a0:=Y5 HA nq;have Z:J7 ((FH w x).drewN nq) (w.heap.size+1) 261 #[I O 0,I O 0]:=ZL (Dv w x) _;have hX:J7 ((FH w x).drewN nq) w.heap.size 84 (Z8 x):=ZL (Ww w x) _;unfold FH at u a0 Z hX;generalize World.drewN ((w.alloc (.cells #[I O x.id,I O x.side,I O x.kind,I O x.price,I O x.qty] 84)).alloc (.cells #[I O 0,I O 0] 261)) nq=w1 at u a0 Z hX|-;have D:=U1 w1 ⟨a,3,none⟩ (I O (RowKit.wrap64 (many+1)));have C:QQ (w1.setCell ⟨a,3,none⟩ (I O (RowKit.wrap64 (many+1)))) a A c B d ss [] most (RowKit.wrap64 (many+1)):=
  ⟨Z0 u.blk 3 _,u.slots.keeps D (fun g hg e=>u.na (by rw[hg,e])),u.free.keeps D (fun g hg e=>u.nb (by rw[hg,e])),u.na,u.nb,u.nab⟩
 have a2:=V0 Z D (fun e=>u4 e.symm);have a3:=V0 hX D (fun e=>u7 e.symm);generalize hW:w1.setCell ⟨a,3,none⟩ (I O (RowKit.wrap64 (many+1)))=w2 at D C a2 a3|-;clear hW q0 q1 q2 q3 g3 u Z hX;have e1:=Z9 C.blk;have q0:=C.cells.1;rw[hn]at q0;obtain⟨d4,d5,d6,d7,d8⟩:=D7 a3;obtain⟨i0,c5,d1,d2,d3⟩:=W8 Jc7;have c8:some a≠(Value.slice A n c).ownBlock:=by rw[C8];exact C.na.symm
 have c7:some (w.heap.size+1)≠(Value.slice A n c).ownBlock:=by rw[C8];intro e;have:=a8.out _ (.inr (.inl e.symm));omega
 have a4:=C.slots;rw[hn]at a4;obtain⟨HS,a5,a7,a6⟩:=Xt8 (show w2.ownsRow 0 313 7 (.slice A n c) n (X7 VL ss)from a4) C a2 D;have e5:n<=2000:=Q0;have i1:RowKit.wrap64 (n:Int)=(n:Int):=by unfold RowKit.wrap64;omega
 clear C a4 hn a2 D d0 a3
 go_region_law ((refine step_append_lies _ Q8 _ _ _ Q8 0 313 i0 _ 7 56 underlying334 c5 d1 d2 d3 rfl Q0 (.slice A n c) n _ Q8 ((LW HS _).drew) ⟨w2.heap.size,0,none⟩ 1 1 (VL (x,0,true)) Q8 Q8 (XF (cs:= #[I O x.id,I O x.side,I O x.kind,I O x.price,I O x.qty,I O 0,.bool true]) (t:=313) (fr:=(0,0)) (QN w2 _)) (Jx6 _) Q0 Q9 Q0 Q3 (w2.heap.size+1) Q3 ?_;intro gg cap w3 c9 a1 b8 e2;have b9:=J6 a1;have b3:=V0 a5.blk (RA a1) (fun e=>c8 e.symm);have r0:w3.cell? ⟨a,0,none⟩=some (.slice A n c):=(by rw[X9 b3];exact C5 (fun k=>some (Value.slice A k c)) Hn);have f0:=K0 b3 0;have J:=V0 a7 (RA a1) (fun e=>c7 e.symm);have e8:w3.cell? ⟨w.heap.size+1,0,none⟩=some (I O 0):=(by rw[X9 J];rfl);have e9:w3.cell? ⟨w.heap.size+1,1,none⟩=some (I O 0):=(by rw[X9 J];rfl);have e6:=K0 J 0;have e7:=K0 J 1;have b1:=J6 J;clear b3 J a1))
 all_goals go_wp2_with fail
 all_goals try simp only[Exit.inBlock,Exit.then]
 all_goals
  obtain rfl:ss.length=n:=Hn.out;obtain⟨b2,b5,a9⟩:=Jz1 a5 c9 b9 b8;have d9:=Z9 a7;have e3:=a0.size;have e4:=a6.size;have R5:=ZR b1 (p:=⟨a,0,none⟩) (Ne.symm u4) (.slice (some ⟨gg,0,none⟩) (ss.length+1) cap);have b0:=(U1 (w3.setCell ⟨a,0,none⟩ (.slice (some ⟨gg,0,none⟩) (ss.length+1) cap)) ⟨w.heap.size+1,0,none⟩ (I O (ss.length:Int))).trans (U1 _ ⟨w.heap.size+1,1,none⟩ (I O 0)) (fun j h=>.inl h);refine Du (g:=w.heap.size+1) (x:=I O (ss.length:Int)) (y:=I O 0) (v:=Y9 0) Q6 Q6 Q6 (Z0 (Z0 R5 0 _) 1 _) ?_;refine⟨rfl,some ⟨gg,0,none⟩,cap,B,d,b2.keeps b0 ?_,?_,?_⟩
  ·intro j hj e
   have e':j=w.heap.size+1:=e;obtain h|h:=a9 j hj
   ·have:=a8.out j h
    omega
   omega
  ·exact(((B9 a0 (KB a A B)).trans a6 (fun j h=>.inl (.inl h))).trans b5 (fun j h=>.inl h)).trans b0 (fun j h=>.inr (by have:j=w.heap.size+1:=h;omega))
  intro j hj;obtain h|h:=a9 j hj
  ·exact .inl h
  exact .inr Q0
