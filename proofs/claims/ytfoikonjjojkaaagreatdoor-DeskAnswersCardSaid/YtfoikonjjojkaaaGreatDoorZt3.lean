/- Parts. -/
import Derived.Test.YtfoikonjjojkaaaGreatDoorZt1
set_option linter.unusedVariables false
set_option maxRecDepth 100000
set_option maxHeartbeats 8000000
open Go.Proofs.Tryz
open Go.Value renaming int→I,pointer→IP
open Go.IntKind renaming i64→O
namespace Go.Proofs.YtfoikonjjojkaaaGreatDoor
open Go.RowKit
def NW(w:World)(r:Nat):Prop:=
 M6 w r [MapEntry.mk (.int .i64 1) (.slice (sA (r+1)) 1 1) 0,MapEntry.mk (.int .i64 2) (.slice (sA (r+2)) 1 1) 1,MapEntry.mk (.int .i64 3) (.slice (sA (r+3)) 2 2) 2,MapEntry.mk (.int .i64 5) (.slice (sA (r+4)) 1 1) 3] 4/\
 w.cell? (aD (r+1) 0)=some (.int .i64 2)/\w.cell? (aD (r+2) 0)=some (.int .i64 3)/\w.cell? (aD (r+3) 0)=some (.int .i64 5)/\w.cell? (aD (r+3) 1)=some (.int .i64 7)/\w.cell? (aD (r+4) 0)=some (.int .i64 7)/\
 w.heap.size=r+5
theorem Lp w:Calls prog 252 #[] w fun e w'=>e=.returned (.map (some w.heap.size))/\NW w' w.heap.size/\Bz w w':=by
 have a9:= @run_makeMap prog;go_enter func252,ntmps252
 go_wp2_with (first
  |((with_reducible (refine ZH (o:=⟨none,.insert 332 (.tmp 1) (.const (I O 1)) (.tmp 2),_,_,_,_⟩) _ rfl (.tmp 1) (.const (I O 1)) (.tmp 2) 332 rfl underlying332 underlying3 FW w.heap.size 0 [] (I O 1) (.slice (some ⟨w.heap.size+1,0,none⟩) 1 1) Q6 Q6 Q6 ((M6.made w).alloc _) Q6 ?_));intro w1 h1 E;have D:w1.heap.size=w.heap.size+2:=by rw[E.size];simp)
  |((with_reducible (refine ZH (o:=⟨none,.insert 332 (.tmp 1) (.const (I O 2)) (.tmp 3),_,_,_,_⟩) _ rfl (.tmp 1) (.const (I O 2)) (.tmp 3) 332 rfl underlying332 underlying3 FW w.heap.size 1 _ (I O 2) (.slice (some ⟨w.heap.size+2,0,none⟩) 1 1) Q6 Q6 Q6 (h1.alloc _) Q6 ?_));intro w2 h2 C;have y:w2.heap.size=w.heap.size+3:=by rw[C.size];simp[D])
  |((with_reducible (refine ZH (o:=⟨none,.insert 332 (.tmp 1) (.const (I O 3)) (.tmp 4),_,_,_,_⟩) _ rfl (.tmp 1) (.const (I O 3)) (.tmp 4) 332 rfl underlying332 underlying3 FW w.heap.size 2 _ (I O 3) (.slice (some ⟨w.heap.size+3,0,none⟩) 2 2) Q6 Q6 Q6 (h2.alloc _) Q6 ?_));intro w3 h3 u;have j:w3.heap.size=w.heap.size+4:=by rw[u.size];simp[y])
  |((with_reducible (refine ZH (o:=⟨none,.insert 332 (.tmp 1) (.const (I O 5)) (.tmp 5),_,_,_,_⟩) _ rfl (.tmp 1) (.const (I O 5)) (.tmp 5) 332 rfl underlying332 underlying3 FW w.heap.size 3 _ (I O 5) (.slice (some ⟨w.heap.size+4,0,none⟩) 1 1) Q6 Q6 Q6 (h3.alloc _) Q6 ?_));intro w4 h4 i;have s4:w4.heap.size=w.heap.size+5:=by rw[i.size];simp[j]))
 go_ret;have J:w1.cell? (aD (zS w+1) 0)=some (I O 2):=(E.cell Q3).trans Q3;have N:w2.cell? (aD (zS w+1) 0)=some (I O 2):=(C.cell Q3).trans ((W7 _ _ _ (by simp[D])).trans J);have Z:w3.cell? (aD (zS w+1) 0)=some (I O 2):=(u.cell Q3).trans ((W7 _ _ _ (by simp[y])).trans N);have a0:w4.cell? (aD (zS w+1) 0)=some (I O 2):=(i.cell Q3).trans ((W7 _ _ _ (by simp[j])).trans Z);have a1:w2.cell? (aD (zS w+2) 0)=some (I O 3):=(C.cell Q3).trans (by rw[<-D];simp);have a2:w3.cell? (aD (zS w+2) 0)=some (I O 3):=(u.cell Q3).trans ((W7 _ _ _ (by simp[y])).trans a1);have a3:w4.cell? (aD (zS w+2) 0)=some (I O 3):=(i.cell Q3).trans ((W7 _ _ _ (by simp[j])).trans a2);have a4:w3.cell? (aD (zS w+3) 0)=some (I O 5):=(u.cell Q3).trans (by rw[<-y];simp);have a5:w4.cell? (aD (zS w+3) 0)=some (I O 5):=(i.cell Q3).trans ((W7 _ _ _ (by simp[j])).trans a4);have a6:w3.cell? (aD (zS w+3) 1)=some (I O 7):=(u.cell Q3).trans (by rw[<-y];simp);have a7:w4.cell? (aD (zS w+3) 1)=some (I O 7):=(i.cell Q3).trans ((W7 _ _ _ (by simp[j])).trans a6);have a8:w4.cell? (aD (zS w+4) 0)=some (I O 7):=(i.cell Q3).trans (by rw[<-j];simp);refine⟨rfl,⟨h4,a0,a3,a5,a7,a8,s4⟩,?_⟩;exact(((((((J9 _ w).alloc Q2 _).alloc Q3 _).trans (E.below Q2)).alloc Q0 _).trans (C.below Q2)).alloc Q0 _).trans (u.below Q2) |>.alloc Q0 _ |>.trans (i.below Q2)
def TL(r:Nat)(p:Int):Value:=
 if p=1 then .slice (some ⟨r+1,0,none⟩) 1 1 else if p=2 then .slice (some ⟨r+2,0,none⟩) 1 1
 else if p=3 then .slice (some ⟨r+3,0,none⟩) 2 2 else if p=5 then .slice (some ⟨r+4,0,none⟩) 1 1 else .slice none 0 0
theorem Jl6 w:(zeroValue 54).run prog w=.ok (.slice none 0 0) w:=Q4
theorem NW.look{w r}(h:NW w r)p:(Instr.lookup 332 (.map (some r)) (.int .i64 p) false).run prog w=.ok (TL r p) w:=by
 have key:∃x,MR (.int .i64) (.int .i64 p) [MapEntry.mk (.int .i64 1) (.slice (sA (r+1)) 1 1) 0,MapEntry.mk (.int .i64 2) (.slice (sA (r+2)) 1 1) 1,MapEntry.mk (.int .i64 3) (.slice (sA (r+3)) 2 2) 2,MapEntry.mk (.int .i64 5) (.slice (sA (r+4)) 1 1) 3]=some x/\(x.map (·.2)).getD (.slice none 0 0)=TL r p:=by
  unfold MR TL;simp only[Instr.findNow,Instr.sameNow,if_true]
  by_cases h1:p=1
  ·subst h1;exact⟨_,rfl,rfl⟩
  by_cases h2:p=2
  ·subst h2;exact⟨_,rfl,rfl⟩
  by_cases i:p=3
  ·subst i;exact⟨_,rfl,rfl⟩
  by_cases j:p=5
  ·subst j;exact⟨_,rfl,rfl⟩
  rw[Z3 h1,Z3 h2,Z3 i,Z3 j,J8 h1,J8 h2,J8 i,J8 j];exact⟨none,rfl,rfl⟩
 obtain⟨x,y,u⟩:=key;rw[Xt underlying332 underlying3 FW h.1 _ (Jl6 w) false x y,<-u]
 rfl
attribute [local go_sem↓] Go.wp_at_zero Go.wp_at_succ
def P2(p:Int):List Int:=if p=1 then [2]else if p=2 then [3]else if p=3 then [5,7]else if p=5 then [7]else []
def P7(L:List Int)(p:Int):Bool:=L.any fun x=>x ==p
theorem Jl7(L:List Int)p j(h:j<L.length):P7 (L.take (j+1)) p=(P7 (L.take j) p || (L[j] ==p)):=by unfold P7;rw[M9 h,List.any_append];simp
theorem NW.list{w r}(h:NW w r)p:(P2 p=[]/\TL r p=.slice none 0 0)\/∃g L,P2 p=L/\L.length<=2/\TL r p=.slice (sA g) L.length L.length/\∀j(i:j<L.length),w.cell? (aD g j)=some (I O L[j]):=by
 obtain⟨_,c1,c2,c3,c4,C,_⟩:=h;unfold P2 TL
 by_cases h1:p=1
 ·right;subst h1;exact⟨r+1,[2],rfl,Q3,rfl,fun j i=>by simp at i;subst i;exact c1⟩
 by_cases h2:p=2
 ·right;subst h2;exact⟨r+2,[3],rfl,Q3,rfl,fun j i=>by simp at i;subst i;exact c2⟩
 by_cases u:p=3
 ·right;subst u
  refine⟨r+3,[5,7],rfl,Q3,rfl,fun j i=>?_⟩
  match j,i with
  |0,_=>exact c3
  |1,_=>exact c4
 by_cases y:p=5
 ·right;subst y;exact⟨r+4,[7],rfl,Q3,rfl,fun j i=>by simp at i;subst i;exact C⟩
 left
 simp[h1,h2,u,y]
theorem NW.look_nil{w r p}(h:NW w r)(u:Hid (P2 p=[])):(Instr.lookup 332 (.map (some r)) (I O p) false).run prog w=.ok (.slice none 0 0) w:=by
 rw[h.look];obtain h1|⟨g,L,h1,h2,i,y⟩:=h.list p
 ·rw[h1.2]
 rw[u.out]at h1;subst h1;unfold TL;have:=u.out;unfold P2 at this
 by_cases h1:p=1
 ·simp[h1]at this
 by_cases h2:p=2
 ·simp[h2]at this
 by_cases i:p=3
 ·simp[i]at this
 by_cases j:p=5
 ·simp[j]at this
 simp[h1,h2,i,j]
theorem NW.look_some{w r p L}(h:NW w r)(i:Hid (P2 p=L))(C:L≠[]):∃g,(Instr.lookup 332 (.map (some r)) (I O p) false).run prog w=.ok (.slice (sA g) L.length L.length) w/\∀j(D:j<L.length),w.cell? (aD g j)=some (I O L[j]):=by
 rw[h.look];obtain h1|⟨g,L',h1,h2,u,y⟩:=h.list p
 ·exact absurd (i.symm.trans h1.1) C
 obtain rfl:L'=L:=h1.symm.trans i;exact⟨g,by rw[u],y⟩
theorem Qp8 p:(P2 p).length<=2:=by
 unfold P2
 repeat(split<;>try simp)
def UT(a0 p0 a p:Int):Int:=if P7 (P2 p0) p=false then 1 else if a<=a0 then 10 else if 1000000<a then 2 else 0
theorem Dn{a0 p0 a p}(h:P7 (P2 p0) p=false):UT a0 p0 a p=1:=by simp[UT,h]
theorem Rs{a0 p0 a p}(h:P7 (P2 p0) p=true)(h1:a<=a0):UT a0 p0 a p=10:=by simp[UT,h,h1]
theorem Wc{a0 p0 a p}(h:P7 (P2 p0) p=true)(h1:a0<a)(h2:1000000<a):UT a0 p0 a p=2:=by simp[UT,h,h2];omega
theorem Wd{a0 p0 a p}(h:P7 (P2 p0) p=true)(h1:a0<a)(h2:a<=1000000):UT a0 p0 a p=0:=by simp[UT,h];omega
theorem Jb1 b y len cap k a0 a p0 p(w:World)(hk:k+1<len)(b1:len<=20)(hb:b<w.heap.size)(c0:w.cell? (aD b (y+k*2))=some (I O a0)) (c1:w.cell? (aD b (y+k*2+1))=some (I O p0))(c2:w.cell? (aD b (y+(k+1)*2))=some (I O a)) (c3:w.cell? (aD b (y+(k+1)*2+1))=some (I O p)):Calls prog 208 #[.slice (some (aD b y)) len cap,I O ((k:Int)+1)] w fun e w'=>e=.returned (I O (UT a0 p0 a p))/\Bz w w':=by
 have z1:((k:Int)+1 ==0)=false:=Q7;have i1:IntKind.i64.wrap ((k:Int)+1-1)=(k:Int):=by rw[YR];omega
 have i4:IntKind.i64.wrap (k:Int)=(k:Int):=by rw[YR];omega
 have i2:(0:Int)<=(k:Int):=Q0;have i3:(k:Int)<(len:Int):=Q0;have i5:(k:Int)+1<(len:Int):=Q0;rcases(show P2 p0=[]\/P2 p0≠[]from by by_cases h:P2 p0=[]<;>simp[h])with N|N
 ·have C:=J6 (Dn (a0:=a0) (a:=a) (p:=p) (p0:=p0) (by rw[N];rfl))
  have HL:=J6 N;clear N;go_enter func208,ntmps208
  go_wp2
  go_region_held3 (fun w'=>w'.cell? ⟨b,y+k*2+1,none⟩=some (I O p0)) (first|go_keep|(refine(J.cell ?_).trans c1;simpa using hb))
   (first|(go_at_call 252;refine(Lp _).mono ?_;rintro e w1⟨rfl,hF,J⟩;have a4:(Instr.lookup 332 (.map (some (zS w))) (I O p0) false).run prog w1=.ok (.slice none 0 0) w1:=hF.look_nil HL))
  go_wp2;refine Xp 1 ?_;rw[NS];go_wp2;go_ret;exact⟨by rw[C.out];rfl,(J9 _ w).drew.trans J⟩
 obtain⟨L,a1⟩:=exq (P2 p0);have a9:L≠[]:=a1▸N;have b2:L.length<=2:=a1▸Qp8 p0;have HL:=J6 a1;clear a1 N;go_enter func208,ntmps208
 go_wp2
 go_region_held3 (fun w'=>w'.cell? ⟨b,y+k*2+1,none⟩=some (I O p0)) (first|go_keep|(refine(J.cell ?_).trans c1;simpa using hb))
  (first|(go_at_call 252;refine(Lp _).mono ?_;rintro e w1⟨rfl,hF,J⟩;obtain⟨g,a4,hg⟩:=hF.look_some HL a9;have a8:(Instr.lookup 332 (.map (some w.heap.size)) (I O p0) false).run prog w1=.ok (.slice (some ⟨g,0,none⟩) L.length L.length) w1:=a4;clear a4))
 go_wp2;have D:Bz w w1:=(J9 _ w).drew.trans J;have d2:w1.cell? (aD b (y+(k+1)*2))=some (I O a):=(D.cell hb).trans c2;have d3:w1.cell? (aD b (y+(k+1)*2+1))=some (I O p):=(D.cell hb).trans c3;have d0:w1.cell? (aD b (y+k*2))=some (I O a0):=(D.cell hb).trans c0;clear a8 hF J c0 c1 c2 c3
 go_loop [5,24] (fun o i=>∃j,j<=L.length/\i=I O j/\o=.bool (P7 (L.take j) p)) (fun _ i=>L.length-(RowKit.intOf i).toNat)
 case atStart=>exact⟨0,U9 _,rfl,rfl⟩
 obtain⟨j,hj,rfl,rfl⟩:=hrel
 by_cases a7:j<L.length
 ·have b0:=hg j a7
  have a2:=Jl7 L p j a7
  by_cases u:P7 (L.take j) p=true
  ·have Z:=J6 (show P7 (L.take (j+1)) p=true by rw[a2,u];rfl)
   rw[u];clear a2 u hg;go_wp2
   go_round
   case rel=>exact⟨j+1,Q0,J5,by rw[Z.out]⟩
   simp[RowKit.intOf];omega
  have E:P7 (L.take j) p=false:=by simpa using u
  have Z:=J6 (show P7 (L.take (j+1)) p=(L[j] ==p) by rw[a2,E];rfl);rw[E];clear a2 u E hg
  by_cases he:L[j]=p
  ·have a3:(L[j] ==p)=true:=V4 he
   have a5:=J6 (show P7 (L.take (j+1)) p=true by rw[Z.out,a3]);clear Z he;go_wp2
   go_round
   case rel=>exact⟨j+1,Q0,J5,by rw[a5.out]⟩
   simp[RowKit.intOf];omega
  have a3:(L[j] ==p)=false:=Z3 he;have a5:=J6 (show P7 (L.take (j+1)) p=false by rw[Z.out,a3]);clear Z he;go_wp2
  go_round
  case rel=>exact⟨j+1,Q0,J5,by rw[a5.out]⟩
  simp[RowKit.intOf];omega
 have a6:P7 (L.take j) p=P7 (P2 p0) p:=by rw[HL.out,M4 Q0]
 rw[a6];clear a6 hg
 by_cases u:P7 (P2 p0) p=true
 ·rw[u]
  by_cases h1:a<=a0
  ·have C:=J6 (Rs u h1)
   clear u;go_wp2;go_quiet (fail)
   go_wp2;go_ret;exact⟨by rw[C.out];rfl,Y5 D _⟩
  by_cases h2:1000000<a
  ·have C:=J6 (Wc (a0:=a0) u Q0 h2)
   have f1:decide (a<=a0)=false:=V9 h1;clear u;go_wp2;go_quiet (fail)
   go_wp2;go_ret;exact⟨by rw[C.out];rfl,Y5 D _⟩
  have C:=J6 (Wd (a0:=a0) (a:=a) u Q0 Q0);have f1:decide (a<=a0)=false:=V9 h1;have f2:decide (1000000<a)=false:=V9 h2;clear u;go_wp2;go_quiet (fail)
  go_wp2;go_ret;exact⟨by rw[C.out];rfl,Y5 D _⟩
 have E:P7 (P2 p0) p=false:=by simpa using u
 have C:=J6 (Dn (a0:=a0) (a:=a) E);rw[E];clear u E;go_wp2;go_ret;exact⟨by rw[C.out];rfl,D⟩
def JW(w:World)(A:Option Addr)(len _cap:Nat)(ps:List (Int×Int)):Prop:=
 ps.length=len/\(0<len->∃b off,A=some (aD b off)/\b<w.heap.size/\∀i,i<len->w.cell? (aD b (off+i*2))=some (I O (ps.getD i (0,0)).1)/\w.cell? (aD b (off+i*2+1))=some (I O (ps.getD i (0,0)).2))
theorem JW.below{w w' A len cap B ps}(h:JW w A len cap ps)(j:Below B w w')(J:w.heap.size<=B):JW w' A len cap ps:=by refine⟨h.1,fun D=>?_⟩;obtain⟨b,E,C,N,u⟩:=h.2 D;exact⟨b,E,C,by have:=j.size;omega,fun i y=>⟨(j.cell (p:=(aD b _)) (by show b<B;omega)).trans (u i y).1,(j.cell (p:=(aD b _)) (by show b<B;omega)).trans (u i y).2⟩⟩
theorem JW.at_{w b off len cap ps}(h:JW w (some (aD b off)) len cap ps){i}(y:i<len):w.cell? (aD b (off+i*2))=some (I O (ps.getD i (0,0)).1)/\w.cell? (aD b (off+i*2+1))=some (I O (ps.getD i (0,0)).2):=by
 obtain⟨C,D,j,_,u⟩:=h.2 Q0
 cases j;exact u i y
def LJ(ps:List (Int×Int)):List Value:=ps.flatMap fun p=>[I O p.1,I O p.2]
theorem Bc ps:(LJ ps).length=ps.length*2:=by
 induction ps with
 |nil=>rfl
 |cons p ps i=>simp[LJ]at i|-;omega
theorem Qn7 ps:∀u∈LJ ps,u.oneCell'=true:=by intro u i;obtain⟨p,_,h⟩:=RU.1 i;simp at h;obtain rfl|rfl:=h<;>rfl
theorem Ha ps:∀i,i<ps.length->(LJ ps)[i*2]?=some (I O (ps.getD i (0,0)).1)/\(LJ ps)[i*2+1]?=some (I O (ps.getD i (0,0)).2):=by
 induction ps with
 |nil=>intro i j;simp at j
 |cons p ps y=>
  intro i j
  cases i with
  |zero=>simp[LJ]
  |succ k=>
   have h:=y k (by simpa using j);have u:(k+1)*2=k*2+1+1:=Q0;simp only[LJ,List.flatMap_cons,List.cons_append,List.nil_append,u,List.getElem?_cons_succ,List.getD_cons_succ]at h|-;exact h
theorem JW.news{w b off len cap ps}(h:JW w (some (aD b off)) len cap ps):∀j u,(LJ ps)[j]?=some u->w.cell? (((aD b off):Addr).add j)=some u:=by
 intro j u y;have hj:j<ps.length*2:=by
  rw[<-Bc];obtain h|h:=FT j (LJ ps).length
  ·exact h
  rw[GL h]at y;cases y
 have hl:=h.1;obtain⟨Z,a0,D,_,J⟩:=h.2 Q0
 cases D;have E:((aD b off):Addr).add j=(aD b (off+j)):=by
  unfold Addr.add
  split
  ·rename_i h;subst h;rfl
  rfl
 rw[E];have i:=Ha ps (j/2) Q0;have C:=J (j/2) Q0;obtain N|N:=Nat.mod_two_eq_zero_or_one j
 ·have e:j/2*2=j:=by omega
  rw[e]at i C;rw[C.1,<-y,i.1]
 have e:j/2*2+1=j:=by omega
 rw[e]at i;rw[show off+j=off+j/2*2+1 from by omega,C.2,<-y,i.2]
theorem JW.of_own{w base g n cap e ps}(h:w.ownsRow base e 2 (.slice (sA g) n cap) n (LJ ps)):JW w (sA g) n cap ps:=by
 have C:ps.length=n:=by have:=h.1;rw[Bc]at this;omega
 refine⟨C,fun E=>⟨g,0,rfl,(h.lt g rfl).2,fun i D=>?_⟩⟩;have u:=Ha ps i Q0;have c1:=h.cells (g:=g) rfl _ _ u.1;have c2:=h.cells (g:=g) rfl _ _ u.2;have y:∀j,((aD g 0):Addr).add j=(aD g (0+j)):=by
  intro j;unfold Addr.add
  split
  ·rename_i h;subst h;rfl
  rfl
 rw[y]at c1 c2;exact⟨c1,by rw[<-c2];congr 1⟩
def YC(p k:Int):Bool:=
 if p=1 then decide (k=1\/k=3\/k=4)
 else if p=2\/p=4\/p=5 then decide (k=1\/k=2\/k=3\/k=4)
 else if p=3 then decide (k=1\/k=2\/k=4)else false
def PQ(p:Int):Bool:=decide (p=1\/p=2\/p=4\/p=5)
theorem five(p:Int):p=1\/p=2\/p=3\/p=4\/p=5\/(¬(p=1\/p=2\/p=3\/p=4\/p=5)):=Q0
theorem Qk5(k:Int):k=1\/k=2\/k=3\/k=4\/(¬(k=1\/k=2\/k=3\/k=4)):=Q0
theorem Jl8 p k w:Calls prog 198 #[I O p,I O k] w fun e w'=>e=.returned (.bool (YC p k))/\w=w':=by
 obtain rfl|rfl|rfl|rfl|rfl|hp:=five p
 case inr.inr.inr.inr.inr=>
  have i:YC p k=false:=by unfold YC;rw[J8 Q0,J8 Q0,J8 Q0]
  have D:=Z3 (a:=p) (b:=1) Q0;have E:=Z3 (a:=p) (b:=2) Q0;have J:=Z3 (a:=p) (b:=3) Q0;have N:=Z3 (a:=p) (b:=4) Q0;have Z:=Z3 (a:=p) (b:=5) Q0;rw[i];clear i hp;go_enter func198,ntmps198
  go_wp2;go_ret;exact⟨rfl,rfl⟩
 all_goals
  obtain rfl|rfl|rfl|rfl|hk:=Qk5 k
  case inr.inr.inr.inr=>
   have j:=Z3 (a:=k) (b:=1) Q0;have u:=Z3 (a:=k) (b:=2) Q0;have y:=Z3 (a:=k) (b:=3) Q0;have C:=Z3 (a:=k) (b:=4) Q0;rw[show YC _ k=false by simp[YC];omega];clear hk;go_enter func198,ntmps198
   go_wp2;go_ret;exact⟨rfl,rfl⟩
  all_goals
   go_enter func198,ntmps198
   go_wp2;go_ret;exact⟨rfl,rfl⟩
theorem Qp9 p w:Calls prog 152 #[I O p] w fun e w'=>e=.returned (.bool (PQ p))/\w=w':=by
 obtain rfl|rfl|rfl|rfl|rfl|hp:=five p
 case inr.inr.inr.inr.inr=>
  have i:PQ p=false:=by simp[PQ];omega
  have j:=Z3 (a:=p) (b:=1) Q0;have u:=Z3 (a:=p) (b:=2) Q0;have y:=Z3 (a:=p) (b:=4) Q0;have C:=Z3 (a:=p) (b:=5) Q0;rw[i];clear i hp;go_enter func152,ntmps152
  go_wp2;go_ret;exact⟨rfl,rfl⟩
 all_goals
  go_enter func152,ntmps152
  go_wp2;go_ret;exact⟨rfl,rfl⟩
abbrev FV:=X6×Int×Bool
def VL(s:FV):List Value:=U0 s.1++[I O s.2.1,.bool s.2.2]
theorem Ka s:(VL s).length=7:=rfl
theorem Jx6 s:∀u∈VL s,u.oneCell'=true:=by intro u i;simp[VL,U0]at i;obtain rfl|rfl|rfl|rfl|rfl|rfl|rfl:=i<;>rfl
def MY(l:List Int):List Value:=l.map fun x=>I O x
structure QQ(w:World)(a:Nat)(A:Option Addr)(c:Nat)(B:Option Addr)(d:Nat)(ss:List FV)(fr:List Int)(most many:Int):Prop where
 blk:J7 w a 336 #[.slice A ss.length c,.slice B fr.length d,I O most,I O many]
 slots:X8 w A ss.length c 313 7 (X7 VL ss)
 free:X8 w B fr.length d 3 1 (MY fr)
 na:X5 A≠some a
 nb:X5 B≠some a
 nab:∀g,X5 A=some g->X5 B≠some g
theorem QQ.slot{w a c d A B ss fr most many}(h:QQ w a A c B d ss fr most many){k}(hk:k<ss.length):∃g,A=sA g/\w.cell? (aD g (k*7))=some (I O ss[k].1.id)/\w.cell? (aD g (k*7+1))=some (I O ss[k].1.side)/\w.cell? (aD g (k*7+2))=some (I O ss[k].1.kind)/\w.cell? (aD g (k*7+3))=some (I O ss[k].1.price)/\w.cell? (aD g (k*7+4))=some (I O ss[k].1.qty)/\w.cell? (aD g (k*7+5))=some (I O ss[k].2.1)/\w.cell? (aD g (k*7+6))=some (.bool ss[k].2.2):=by obtain⟨g,j,i⟩:=h.slots.elem Ka Q0 hk;exact⟨g,j,i 0 _ rfl,i 1 _ rfl,i 2 _ rfl,i 3 _ rfl,i 4 _ rfl,i 5 _ rfl,i 6 _ rfl⟩
theorem QQ.cells{w a c d A B ss fr most many}(h:QQ w a A c B d ss fr most many):w.cell? (aD a 0)=some (.slice A ss.length c)/\w.cell? (aD a 1)=some (.slice B fr.length d)/\w.cell? (aD a 2)=some (I O most)/\w.cell? (aD a 3)=some (I O many):=by refine⟨?_,?_,?_,?_⟩<;>(rw[X9 h.blk];rfl)
section
variable {w w':World} {a c d:Nat} {A B:Option Addr} {ss:List FV} {fr:List Int} {most many:Int}
def KB(a:Nat)(A B:Option Addr)(i:Nat):Prop:=i=a\/X5 A=some i\/X5 B=some i
theorem QQ.fp(h:QQ w a A c B d ss fr most many){i}(j:KB a A B i):i<w.heap.size:=by
 obtain rfl|j|j:=j
 ·exact Z9 h.blk
 ·exact h.slots.lt j
 exact h.free.lt j
theorem QQ.keeps{S}(h:QQ w a A c B d ss fr most many)(hk:X4 S w w')(u:∀i,KB a A B i->¬S i):QQ w' a A c B d ss fr most many:=
 ⟨V0 h.blk hk (u a (.inl rfl)),h.slots.keeps hk (fun g j=>u g (.inr (.inl j))),h.free.keeps hk (fun g j=>u g (.inr (.inr j))),h.na,h.nb,h.nab⟩
theorem QQ.below(h:QQ w a A c B d ss fr most many)(i:Bz w w'):QQ w' a A c B d ss fr most many:=h.keeps (B9 i (fun _=>False)) (fun _ _=>id)
end
def VF(ss:List FV)(s g:Int):Bool:=decide (0<=s) &&match ss[s.toNat]? with|some (_,age,full)=>full && (age ==g)|none=>false
def D4:X6:=⟨0,0,0,0,0⟩
def Zk(ss:List FV)(s:Int):X6:=match ss[s.toNat]? with|some (x,_,_)=>x|none=>D4
theorem We{ss}{k:Nat}{g}(h:k<ss.length):VF ss k g=(ss[k].2.2 && (ss[k].2.1 ==g)):=by simp[VF,h]
theorem Jl9{ss s g}(h:s<0):VF ss s g=false:=by simp[VF];omega
theorem Jm0{ss s g}(i:0<=s)(h:(ss.length:Int)<=s):VF ss s g=false:=by have:ss[s.toNat]?=none:=GL Q0;simp[VF,this]
theorem Cv w a A c B d ss fr most many s g(h:QQ w a A c B d ss fr most many):Calls prog 227 #[pA a,.agg #[I O s,I O g]] w fun e w'=>Bz w w'/\((VF ss s g=false/\e=.returned (.pointer none))\/(VF ss s g=true/\∃k j,s=(k:Nat)/\k<ss.length/\A=sA j/\e=.returned (IP (some (aD j (k*7)))))):=by
 have c0:=h.cells.1;have a1:=Z9 h.blk;have z0:=(W7 w (.cells #[I O s,I O g] 261) (aD a 0) a1).trans c0;have u:=J6 (show Bz w (w.alloc (.cells #[I O s,I O g] 261))from(J9 _ w).alloc Q2 _)
 by_cases h1:s<0
 ·have d1:=V7 h1
  have E:=J6 (Jl9 (ss:=ss) (g:=g) h1);clear h1;go_enter func227,ntmps227
  go_wp2_with fail
  go_quiet (fail)
  go_wp2;go_ret;exact⟨Y5 u _,.inl ⟨E,rfl⟩⟩
 have d1:=V9 h1
 by_cases h2:(ss.length:Int)<=s
 ·have d2:=V7 h2
  have E:=J6 (Jm0 (ss:=ss) (g:=g) Q0 h2);clear h1 h2;go_enter func227,ntmps227
  go_wp2_with fail
  go_quiet (fail)
  go_wp2;go_ret;exact⟨Y5 u _,.inl ⟨E,rfl⟩⟩
 have d2:=V9 h2;obtain⟨k,rfl⟩:∃k:Nat,s=k:=⟨s.toNat,Q0⟩;have hk:k<ss.length:=Q0;have i1:(0:Int)<=(k:Int):=Q0;have i2:(k:Int)<(ss.length:Int):=Q0;obtain⟨j,rfl,s0,_,_,_,_,N,D⟩:=h.slot hk;have Z:=U5 w _ s0;replace N:=(W7 w (.cells #[I O k,I O g] 261) (aD j (k*7+5)) Z).trans N;replace D:=(W7 w (.cells #[I O k,I O g] 261) (aD j (k*7+6)) Z).trans D;have y:=J6 (We (g:=g) hk);generalize ss[k].2.1=a0 at N y
 cases i:ss[k].2.2
 ·rw[i]at D
  have E:Hid (VF ss k g=false):=J6 (by rw[y.out,i];rfl);clear h1 h2 s0 i;go_enter func227,ntmps227
  go_wp2_with fail
  go_quiet (fail)
  go_wp2_with fail
  go_quiet (fail)
  go_wp2_with fail
  go_quiet (fail)
  go_wp2;go_ret;exact⟨Y5 (Y5 (Y5 u _) _) _,.inl ⟨E,rfl⟩⟩
 rw[i]at D
 by_cases C:a0=g
 ·have J:=V4 C
  have E:Hid (VF ss k g=true):=J6 (by rw[y.out,i,J];rfl);clear h1 h2 s0 i C;go_enter func227,ntmps227
  go_wp2_with fail
  go_quiet (fail)
  go_wp2_with fail
  go_quiet (fail)
  go_wp2_with fail
  go_quiet (fail)
  go_wp2;go_ret;exact⟨Y5 (Y5 (Y5 u _) _) _,.inr ⟨E,k,j,rfl,hk,rfl,rfl⟩⟩
 have J:=Z3 C;have E:Hid (VF ss k g=false):=J6 (by rw[y.out,i,J];rfl);clear h1 h2 s0 i C;go_enter func227,ntmps227
 go_wp2_with fail
 go_quiet (fail)
 go_wp2_with fail
 go_quiet (fail)
 go_wp2_with fail
 go_quiet (fail)
 go_wp2;go_ret;exact⟨Y5 (Y5 (Y5 u _) _) _,.inl ⟨E,rfl⟩⟩
def Uw(w w':World)(a:Nat)(A B:Option Addr)(ss:List FV)(fr:List Int)(most many:Int):Prop:=
 ∃A' c' B' d',QQ w' a A' c' B' d' ss fr most many/\X4 (KB a A B) w w'/\∀i,KB a A' B' i->KB a A B i\/w.heap.size<=i
theorem Qm3 w a A c B d ss fr most many(h:QQ w a A c B d ss fr most many):Calls prog 221 #[pA a] w fun e w'=>e=.returned (I O many)/\w=w':=by
 have c3:=h.cells.2.2.2;go_enter func221,ntmps221
 go_wp2;go_ret;exact⟨rfl,rfl⟩
theorem Qn8 most w:Calls prog 209 #[I O most] w fun e w'=>Bz w w'/\((most<1\/1000<most)/\e=.returned (.tuple #[.pointer none,Y9 2])\/(1<=most/\most<=1000)/\∃a,w.heap.size<=a/\e=.returned (.tuple #[pA a,.nilIface])/\QQ w' a none 0 none 0 [] [] most 0):=by
 by_cases h1:most<1
 ·have u:=V7 h1
  have j:=J6 h1;clear h1;go_enter func209,ntmps209
  go_wp2;go_ret2;exact⟨J9 _ _,.inl ⟨.inl j,rfl⟩⟩
 have u:=V9 h1
 by_cases h2:1000<most
 ·have y:=V7 h2
  have i:=J6 h2;clear h1 h2;go_enter func209,ntmps209
  go_wp2;go_ret2;exact⟨J9 _ _,.inl ⟨.inr i,rfl⟩⟩
 have y:=V9 h2;have i:=J6 (show 1<=most/\most<=1000 by omega);clear h1 h2;go_enter func209,ntmps209
 go_wp2;go_ret2;refine⟨(J9 _ w).alloc Q2 _,.inr ⟨i,zS w,X3 _,rfl,⟨Z5 _ _ _,QY _ _ _ _,QY _ _ _ _,?_,?_,?_⟩⟩⟩
 ·simp[X5]
 ·simp[X5]
 simp[X5]
def SZ(ss:List FV)(s g:Int):X6:=if VF ss s g=true then Zk ss s else D4
def SV(ss:List FV)(s g:Int):Int:=if VF ss s g=true then 0 else 7
theorem Wf{ss s g}(h:VF ss s g=false):SZ ss s g=D4:=by simp[SZ,h]
theorem Wg{ss s g}(h:VF ss s g=false):SV ss s g=7:=by simp[SV,h]
theorem Rt{ss s g}(h:VF ss s g=true):SZ ss s g=Zk ss s:=by simp[SZ,h]
theorem Ru{ss s g}(h:VF ss s g=true):SV ss s g=0:=by simp[SV,h]
theorem Wh{ss k}(h:k<ss.length):Zk ss (k:Nat)=ss[k].1:=by simp[Zk,h]
theorem Wi{w t Q g cs v}(hp:t.tmps.getD 4 undef=pA g)(i:t.tmps.getD 5 undef=v)(u:t.defers=[])(y:J7 w g 84 cs) (E:cs.size=5) (h:Q (.returned (.tuple #[.agg cs,v])) w):bodyPost prog Tryz.f202 Q .ret t w:=by
 refine QA (v:=.tuple #[.agg cs,v]) ?_ u h;have C:=Vl (P:=prog) w g _ 84 cs (0,0) _ y underlying84 rfl (by rw[E];kernel_rfl);have D:t.tmps[4]?.getD undef=pA g:=by simpa using hp
 have j:t.tmps[5]?.getD undef=v:=by simpa using i
 simp[results,Tryz.results202,D,j,asAddr,C]
theorem Qn9 w a A c B d ss fr most many s g(h:QQ w a A c B d ss fr most many):Calls prog 202 #[pA a,.agg #[I O s,I O g]] w fun e w'=>e=.returned (.tuple #[V6 (SZ ss s g),Y9 (SV ss s g)])/\Bz w w':=by
 have C:Bz w ((w.alloc (.cells #[I O s,I O g] 261)).alloc (.cells #[I O 0,I O 0,I O 0,I O 0,I O 0] 84)):=((J9 _ w).alloc Q2 _).alloc Q3 _;obtain⟨Z,H⟩:=Xt6 C (h.below C);have N:J7 ((w.alloc (.cells #[I O s,I O g] 261)).alloc (.cells #[I O 0,I O 0,I O 0,I O 0,I O 0] 84)) (w.heap.size+1) 84 #[I O 0,I O 0,I O 0,I O 0,I O 0]:=by simpa using Z5 (w.alloc (.cells #[I O s,I O g] 261)) 84 #[I O 0,I O 0,I O 0,I O 0,I O 0]
 have HZ:=J6 N;clear C h N;go_enter func202,ntmps202
 go_wp2_with fail
 refine(Cv _ a A c B d ss fr most many s g H).mono ?_;rintro e w1⟨j,a0⟩;have i:=Z4 HZ j;have z0:w1.cell? ⟨w.heap.size+1,0,none⟩=some (I O 0):=by rw[X9 i];rfl
 have z1:w1.cell? ⟨w.heap.size+1,1,none⟩=some (I O 0):=by rw[X9 i];rfl
 have z2:w1.cell? ⟨w.heap.size+1,2,none⟩=some (I O 0):=by rw[X9 i];rfl
 have z3:w1.cell? ⟨w.heap.size+1,3,none⟩=some (I O 0):=by rw[X9 i];rfl
 have z4:w1.cell? ⟨w.heap.size+1,4,none⟩=some (I O 0):=by rw[X9 i];rfl
 have y0:=K0 i 0;have y1:=K0 i 1;have y2:=K0 i 2;have y3:=K0 i 3;have y4:=K0 i 4;have a2:=Z9 i;have D:=J6 i;have J:=Z.trans (j.mono Q7);have y:=J6 J;clear i J;rcases a0 with⟨u,rfl⟩|⟨u,k,gs,rfl,hk,rfl,rfl⟩
 ·have E:=J6 u
  clear u j;go_wp2_with fail
  try simp only[Exit.inBlock,Exit.then]
  refine Wi (g:=w.heap.size+1) (cs:= #[I O 0,I O 0,I O 0,I O 0,I O 0]) (v:=Y9 7) Q6 Q6 Q6 (G0 (Z0 (Z0 (Z0 (Z0 (Z0 D 0 _) 1 _) 2 _) 3 _) 4 _) _) rfl ?_;refine⟨by rw[Wf E,Wg E.out];rfl,?_⟩;have hs:=y.size;exact(((((y.setCell Q3 _).setCell Q3 _).setCell Q3 _).setCell Q3 _).setCell Q3 _).alloc (by simpa [World.setCell]using hs) _
 have E:=J6 u;clear u;obtain⟨a1,he,s0,s1,s2,s3,s4,_,_⟩:=(H.below j).slot hk
 cases he;have T:=J6 (Wh hk);generalize ss[k].1=x at s0 s1 s2 s3 s4 T;clear j;go_wp2_with fail
 try simp only[Exit.inBlock,Exit.then]
 refine Wi (g:=w.heap.size+1) (cs:=Z8 x) (v:=Y9 0) Q6 Q6 Q6 (Z0 (Z0 (Z0 (Z0 (Z0 D 0 _) 1 _) 2 _) 3 _) 4 _) rfl ?_;refine⟨by rw[Rt E,Ru E,T.out];rfl,?_⟩;exact((((y.setCell Q3 _).setCell Q3 _).setCell Q3 _).setCell Q3 _).setCell Q3 _
def Fm(ss:List FV)(s:Int):List FV:=match ss[s.toNat]? with|some v=>ss.set s.toNat (D4,RowKit.wrap64 (v.2.1+1),false)|none=>ss
theorem Rv{ss k}(h:k<ss.length):Fm ss (k:Nat)=ss.set k (D4,RowKit.wrap64 (ss[k].2.1+1),false):=by simp[Fm,h]
theorem Jm1:(prog.info? 3).map (fun i=>(i.zero,i.size,i.bytes))=some (some (I O 0),1,8):=Q4
theorem Ns{w g t cs}(h:J7 w g t cs):w.frozen? (aD g 0)=false/\w.frozen? (aD g 1)=false/\w.frozen? (aD g 2)=false/\w.frozen? (aD g 3)=false/\w.frozen? (aD g 4)=false:=
 ⟨K0 h 0,K0 h 1,K0 h 2,K0 h 3,K0 h 4⟩
theorem Do{l:List Value}{i v}(h:l[i]?=some v):l.set i v=l:=by
 apply Vh;intro j
 by_cases e:i=j
 ·subst e
  have u:=(Ju.1 h).1;rw[Vb u,h]
 rw[UL e]
theorem Cw ss k(hk:k<ss.length)y:(((((((X7 VL ss).set (k*7) (I O y.1.id)).set (k*7+1) (I O y.1.side)).set (k*7+2) (I O y.1.kind)).set (k*7+3) (I O y.1.price)).set (k*7+4) (I O y.1.qty)).set (k*7+5) (I O y.2.1)).set (k*7+6) (.bool y.2.2)=X7 VL (ss.set k y):=
 TB Ka y ss k hk
abbrev SB(w:World)(g p:Nat)(o:X6):World:=((((w.setCell ⟨g,p,none⟩ (I O o.id)).setCell ⟨g,p+1,none⟩ (I O o.side)).setCell ⟨g,p+2,none⟩ (I O o.kind)).setCell ⟨g,p+3,none⟩ (I O o.price)).setCell ⟨g,p+4,none⟩ (I O o.qty)
theorem Ua w g p o:X4 (fun i=>i=g) w (SB w g p o):=
 ((((U1 w ⟨g,p,none⟩ _).trans (U1 _ ⟨g,p+1,none⟩ _) (fun i h=>.inl h)).trans (U1 _ ⟨g,p+2,none⟩ _) (fun i h=>.inl h)).trans (U1 _ ⟨g,p+3,none⟩ _) (fun i h=>.inl h)).trans (U1 _ ⟨g,p+4,none⟩ _) (fun i h=>.inl h)
theorem Dp{w g n c t xs}(h:X8 w (sA g) n c t 7 xs)p o:X8 (SB w g p o) (sA g) n c t 7 (((((xs.set p (I O o.id)).set (p+1) (I O o.side)).set (p+2) (I O o.kind)).set (p+3) (I O o.price)).set (p+4) (I O o.qty)):=
 ((((h.set p _).set (p+1) _).set (p+2) _).set (p+3) _).set (p+4) _
theorem Xm4{w1 a c d B ss fr most many gs k}(H:QQ w1 a (sA gs) c B d ss fr most many)(hk:k<ss.length)u:let w2:=((SB w1 gs (k*7) D4).setCell (aD gs (k*7+6)) (.bool false)).setCell (aD gs (k*7+5)) (I O u)
  QQ w2 a (sA gs) c B d (ss.set k (D4,u,false)) fr most many/\X4 (KB a (sA gs) B) w1 w2:=by
 intro w2;have j:X4 (fun i=>i=gs) w1 w2:=((Ua w1 gs (k*7) D4).trans (U1 _ (aD gs (k*7+6)) _) (fun i h=>.inl h)).trans (U1 _ (aD gs (k*7+5)) _) (fun i h=>.inl h);have y:=((Dp H.slots (k*7) D4).set (k*7+6) (.bool false)).set (k*7+5) (I O u);rw[List.set_comm _ _ (show k*7+6≠k*7+5 by omega),Cw ss k hk (D4,u,false)]at y;refine⟨⟨?_,?_,?_,H.na,H.nb,H.nab⟩,j.mono (fun i h=>.inr (.inl (by rw[h];rfl)))⟩
 ·rw[XH];exact V0 H.blk j (fun h=>H.na (C5 some h.symm))
 ·rw[XH];exact y
 exact H.free.keeps j (fun g C h=>H.nab gs rfl (by rw[C,h]))
theorem RA{w2 w3 o row}(h:((w2.alloc o).drew).grownBy w3 row):X4 (fun i=>row=some i) w2 w3:=
 ⟨h.os,h.tape,h.output,by have:=h.size;simp at this;omega,fun i j u=>(h.block i Q7 (fun e=>u e.symm)).trans (heap_alloc_old w2 o j)⟩
theorem Xm5{w2 w3 a c d A B ss fr most many}(H:QQ w2 a A c B d ss fr most many){o gg cap s m}(a1:w3.ownsRow 0 3 1 (.slice (sA gg) (fr.length+1) cap) (fr.length+1) (MY fr++[I O s])) (J:((w2.alloc o).drew).grownBy w3 (Value.slice B fr.length d).ownBlock)(u:(Value.slice B fr.length d).ownBlock=some gg\/gg=w2.heap.size+1):let w5:=(w3.setCell (aD a 1) (.slice (sA gg) (fr.length+1) cap)).setCell (aD a 3) (I O m)
  QQ w5 a A c (sA gg) cap ss (fr++[s]) most m/\X4 (KB a A B) w2 w5/\∀i,KB a A (sA gg) i->KB a A B i\/w2.heap.size<=i:=by
 intro w5;rw[C8]at J u;have a2:=Z9 H.blk;have y:=RA J;have E:gg≠a:=by
  obtain h|h:=u
  ·intro e;exact H.nb (by rw[h,e])
  omega
 have a0:∀g,X5 A=some g->g≠gg:=by
  intro g j e;obtain h|h:=u
  ·exact H.nab g j (by rw[h,e])
  have:=H.slots.lt j;omega
 have b3:=V0 H.blk y H.nb;have s3:=H.slots.keeps y (fun g j=>H.nab g j);have Z:X8 w3 (sA gg) (fr.length+1) cap 3 1 (MY fr++[I O s]):=a1;have k4:=U1 w3 (aD a 1) (.slice (sA gg) (fr.length+1) cap);have k5:=U1 (w3.setCell (aD a 1) (.slice (sA gg) (fr.length+1) cap)) (aD a 3) (I O m);have C:X4 (fun i=>i=a) w3 w5:=k4.trans k5 (fun i h=>.inl h);have D:(fr++[s]).length=fr.length+1:=Q3;have N:MY (fr++[s])=MY fr++[I O s]:=by simp[MY]
 refine⟨⟨?_,?_,?_,H.na,?_,?_⟩,?_,?_⟩
 ·rw[D]
  exact Z0 (Z0 b3 1 _) 3 _
 ·exact s3.keeps C (fun g j e=>H.na (by rw[j,e]))
 ·rw[D,N]
  exact Z.keeps C (fun g j e=>by cases j;exact E e)
 ·intro e;cases e;exact E rfl
 ·intro g j e;cases e;exact a0 _ j rfl
 ·exact(y.mono (fun i h=>.inr (.inr h))).trans C (fun i h=>.inl (.inl h))
 rintro i(h|h|h)
 ·exact .inl (.inl h)
 ·exact .inl (.inr (.inl h))
 cases h;obtain h|h:=u
 ·exact .inl (.inr (.inr h))
 exact .inr (by show _<=gg;omega)
theorem Rw{w t Q g cs v}(hp:t.tmps.getD 4 undef=pA g)(i:t.tmps.getD 5 undef=v)(u:t.defers=[])(y:J7 w g 84 cs) (E:cs.size=5) (h:Q (.returned (.tuple #[.agg cs,v])) w):bodyPost prog Tryz.f233 Q .ret t w:=by
 refine QA (v:=.tuple #[.agg cs,v]) ?_ u h;have C:=Vl (P:=prog) w g _ 84 cs (0,0) _ y underlying84 rfl (by rw[E];kernel_rfl);have D:t.tmps[4]?.getD undef=pA g:=by simpa using hp
 have j:t.tmps[5]?.getD undef=v:=by simpa using i
 simp[results,Tryz.results233,D,j,asAddr,C]
theorem Qm4 w a A c B d ss fr most many s g(h:QQ w a A c B d ss fr most many)(h7:fr.length<=2000):Calls prog 233 #[pA a,.agg #[I O s,I O g]] w fun e w'=>e=.returned (.tuple #[V6 (SZ ss s g),Y9 (SV ss s g)])/\((VF ss s g=false/\Bz w w')\/(VF ss s g=true/\Uw w w' a A B (Fm ss s) (fr++[s]) most (RowKit.wrap64 (many-1)))):=by
 have hA:Bz w ((w.alloc (.cells #[I O s,I O g] 261)).alloc (.cells #[I O 0,I O 0,I O 0,I O 0,I O 0] 84)):=((J9 _ w).alloc Q2 _).alloc Q3 _;have hX:J7 ((w.alloc (.cells #[I O s,I O g] 261)).alloc (.cells #[I O 0,I O 0,I O 0,I O 0,I O 0] 84)) w.heap.size 261 #[I O s,I O g]:=G0 (Z5 _ _ _) _;have hz:J7 ((w.alloc (.cells #[I O s,I O g] 261)).alloc (.cells #[I O 0,I O 0,I O 0,I O 0,I O 0] 84)) (w.heap.size+1) 84 (Z8 D4):=show J7 _ _ _ #[I O 0,I O 0,I O 0,I O 0,I O 0]from(by simpa using Z5 (w.alloc (.cells #[I O s,I O g] 261)) 84 #[I O 0,I O 0,I O 0,I O 0,I O 0])
 have e6:((w.alloc (.cells #[I O s,I O g] 261)).alloc (.cells #[I O 0,I O 0,I O 0,I O 0,I O 0] 84)).heap.size=w.heap.size+2:=Q3;obtain⟨g2,HZ,g1,a0,HA,H⟩:=Xu0 hX hz e6 (fun i(y:KB a A B i)=>h.fp y) hA (h.below hA);clear hA h hX hz e6;go_enter func233,ntmps233
 go_wp2_with fail
 refine(Cv _ a A c B d ss fr most many s g H).mono ?_;rintro e w1⟨Z,g5⟩;have a4:=Z4 HZ Z;obtain⟨z0,z1,z2,z3,z4⟩:=D7 a4;obtain⟨y0,y1,y2,y3,y4⟩:=Ns a4;dsimp only[D4]at z0 z1 z2 z3 z4;have e4:=Z9 a4;have b1:=J6 a4;have d7:=HA.trans (Z.mono Q7);have a7:=J6 d7;have g9:w.heap.size+2<=w1.heap.size:=by have:=Z.size;rw[g1.out]at this;exact this
 clear a4 d7;rcases g5 with⟨hf,rfl⟩|⟨hf,k,D,rfl,hk,rfl,rfl⟩
 ·have E:=J6 hf
  clear hf Z;go_wp2_with fail
  try simp only[Exit.inBlock,Exit.then]
  refine Rw (g:=w.heap.size+1) (cs:= #[I O 0,I O 0,I O 0,I O 0,I O 0]) (v:=Y9 7) Q6 Q6 Q6 (G0 (Z0 (Z0 (Z0 (Z0 (Z0 b1 0 _) 1 _) 2 _) 3 _) 4 _) _) rfl ?_;refine⟨by rw[Wf E,Wg E.out];rfl,.inl ⟨E,?_⟩⟩;have hs:=a7.size;exact(((((a7.setCell Q3 _).setCell Q3 _).setCell Q3 _).setCell Q3 _).setCell Q3 _).alloc (by simpa [World.setCell]using hs) _
 have E:=J6 hf;have d6:=J6 (Z4 g2 Z);clear hf;have c5:=H.below Z;have d5:=J6 c5;obtain⟨g4,he,s0,s1,s2,s3,s4,s5,s6⟩:=c5.slot hk
 cases he;obtain⟨TH,TT⟩:=Xt6 (Wh hk) (Rv hk);obtain⟨x,EX⟩:∃x,Hid (ss[k].1=x):=⟨_,J6 rfl⟩;rw[EX.out]at s0 s1 s2 s3 s4 TH;obtain⟨b2,EA⟩:∃u,Hid (ss[k].2.1=u):=⟨_,J6 rfl⟩;rw[EA.out]at s5 TT;generalize ss[k].2.2=g3 at s6;have g6:=U5 w1 _ s0;clear Z c5;go_upto_region 6 with fail
 have a5:Bz w1 ((w1.alloc (.cells #[I O 0,I O 0,I O 0,I O 0,I O 0] 84)).alloc (.cells #[I O x.id,I O x.side,I O x.kind,I O x.price,I O x.qty] 84)):=((J9 _ w1).alloc Q2 _).alloc Q3 _;have C:=d5.below a5;have a8:J7 ((w1.alloc (.cells #[I O 0,I O 0,I O 0,I O 0,I O 0] 84)).alloc (.cells #[I O x.id,I O x.side,I O x.kind,I O x.price,I O x.qty] 84)) w1.heap.size 84 (Z8 D4):=G0 (Z5 w1 _ _) _;have a9:J7 ((w1.alloc (.cells #[I O 0,I O 0,I O 0,I O 0,I O 0] 84)).alloc (.cells #[I O x.id,I O x.side,I O x.kind,I O x.price,I O x.qty] 84)) (w1.heap.size+1) 84 (Z8 x):=show J7 _ _ _ #[I O x.id,I O x.side,I O x.kind,I O x.price,I O x.qty]from(by simpa using Z5 (w1.alloc (.cells #[I O 0,I O 0,I O 0,I O 0,I O 0] 84)) 84 #[I O x.id,I O x.side,I O x.kind,I O x.price,I O x.qty])
 have c7:=Z4 b1 a5;have c8:=Z4 d6 a5;have b8:=a7.trans (a5.mono Q0);have e7:((w1.alloc (.cells #[I O 0,I O 0,I O 0,I O 0,I O 0] 84)).alloc (.cells #[I O x.id,I O x.side,I O x.kind,I O x.price,I O x.qty] 84)).heap.size=w1.heap.size+2:=Q3;clear s0 s1 s2 s3 s4 s5 s6 z0 z1 z2 z3 z4 y0 y1 y2 y3 y4 e4 g6 a5 d5 b1 d6 a7;generalize((w1.alloc (.cells #[I O 0,I O 0,I O 0,I O 0,I O 0] 84)).alloc (.cells #[I O x.id,I O x.side,I O x.kind,I O x.price,I O x.qty] 84))=wv at C a8 a9 c7 c8 b8 e7|-;obtain⟨b7,e2⟩:=exq w1.heap.size;rw[e2]at a8 a9 e7 g9|-;have HT:=J6 (fun u=>Xm4 C hk u);obtain⟨g4,he,s0,s1,s2,s3,s4,s5,s6⟩:=C.slot hk
 cases he;have f0:=C.slots.frozen (k*7);have f1:=C.slots.frozen (k*7+1);have f2:=C.slots.frozen (k*7+2);have f3:=C.slots.frozen (k*7+3);have f4:=C.slots.frozen (k*7+4);have f5:=C.slots.frozen (k*7+5);have f6:=C.slots.frozen (k*7+6);obtain⟨z0,z1,z2,z3,z4⟩:=D7 a8;dsimp only[D4]at z0 z1 z2 z3 z4;rw[EX.out]at s0 s1 s2 s3 s4;rw[EA.out]at s5;generalize ss[k].2.2=g3 at s6;obtain⟨d1,d0,d3,d2⟩:=Xt8 a9 c7 c8 b8;clear C a8 a9 c7 c8 b8 e2;go_upto_region 8 with fail
 have c6:=HT.out (RowKit.wrap64 (b2+1));obtain⟨w2,hW⟩:=exr (World.setCell (World.setCell (World.setCell (World.setCell (World.setCell (World.setCell (World.setCell wv ⟨D,k*7,none⟩ (I O 0)) ⟨D,k*7+1,none⟩ (I O 0)) ⟨D,k*7+2,none⟩ (I O 0)) ⟨D,k*7+3,none⟩ (I O 0)) ⟨D,k*7+4,none⟩ (I O 0)) ⟨D,k*7+6,none⟩ (.bool false)) ⟨D,k*7+5,none⟩ (I O (RowKit.wrap64 (b2+1))));rw[<-hW];replace c6:QQ w2 a (some ⟨D,0,none⟩) c B d (ss.set k (D4,RowKit.wrap64 (b2+1),false)) fr most many/\X4 (KB a (some ⟨D,0,none⟩) B) wv w2:=by rw[hW];exact c6
 clear HT s0 s1 s2 s3 s4 s5 s6 f0 f1 f2 f3 f4 f5 f6 z0 z1 z2 z3 z4 hW;obtain⟨J,a2⟩:=c6;have d8:J7 w2 w.heap.size 261 #[I O (k:Int),I O g]:=V0 d3 a2 (fun y=>NG _ (a0 _ y));have a1:=V0 d1 a2 (fun y=>by have:=a0.out _ y;omega);have N:=V0 d0 a2 (fun y=>by have:=a0.out _ y;omega);obtain⟨f8,e9⟩:=Xt6 a1 N;have i1:=a2.size;have f9:=J6 a2;clear a1 N a2 d1 d0 d3;have q1:=J.cells.2.1;have q3:=J.cells.2.2.2;have h3:=K0 J.blk 1;have h4:=K0 J.blk 3;have qx:w2.cell? ⟨w.heap.size,0,none⟩=some (I O (k:Int)):=by rw[X9 d8];rfl
 have d9:=Z9 J.blk;obtain⟨i0,g7,h0,h1,h2⟩:=W8 Jm1;have b0:some a≠(Value.slice B fr.length d).ownBlock:=by rw[C8];exact J.nb.symm
 obtain⟨HF,c9⟩:=Xt6 J.free J;clear J d8
 go_region_law ((refine step_append_lies _ Q8 _ _ _ Q8 0 3 i0 _ 1 8 underlying54 g7 h0 h1 h2 rfl Q0 (.slice B fr.length d) fr.length _ Q8 ((LW HF _).drew) ⟨w2.heap.size,0,none⟩ 1 1 [I O (k:Int)] Q8 Q8 (XF (cs:= #[I O (k:Int)]) (t:=3) (fr:=(0,0)) (QN w2 _)) J0 Q0 Q9 Q0 Q3 (w2.heap.size+1) Q3 ?_;intro gg cap w3 e5 a6 e1 e4;have r1:w3.cell? ⟨a,1,none⟩=some (.slice B fr.length d):=(a6.cell_far ⟨a,1,none⟩ Q7 b0).trans ((W7 w2 _ ⟨a,1,none⟩ d9).trans q1);have r3:w3.cell? ⟨a,3,none⟩=some (I O many):=(a6.cell_far ⟨a,3,none⟩ Q7 b0).trans ((W7 w2 _ ⟨a,3,none⟩ d9).trans q3);have b3:=V0 c9.blk (RA a6) (fun e=>b0 e.symm);have h5:=K0 b3 1;have h6:=K0 b3 3;clear b3))
 all_goals go_upto_region 10 with fail
 all_goals
  obtain⟨b5,a3,b9⟩:=Xm5 (m:=RowKit.wrap64 (many-1)) c9 e5 a6 e1;have a1:=V0 f8 a3 (fun y=>by have:=a0.out _ y;omega);have N:=V0 e9 a3 (fun y=>by have:=a0.out _ y;omega);have g8:=a3.size;clear a6 e5 e1 r1 r3 h5 h6;generalize World.setCell (World.setCell w3 ⟨a,1,none⟩ (.slice (some ⟨gg,0,none⟩) (fr.length+1) cap)) ⟨a,3,none⟩ (I O (RowKit.wrap64 (many-1)))=w5 at b5 a3 b9 a1 N g8|-;obtain⟨c0,c1,c2,c3,c4⟩:=D7 a1;obtain⟨z0,z1,z2,z3,z4⟩:=D7 N;dsimp only[D4]at z0 z1 z2 z3 z4;obtain⟨y0,y1,y2,y3,y4⟩:=Ns N;have h8:=Z9 N;obtain⟨f7,e8,g0,d4⟩:=Xt8 N b5 a3 b9;clear a1 N b5 a3 b9 q1 q3 h3 h4 qx b0;go_wp2_with fail
  try simp only[Exit.inBlock,Exit.then]
  refine Rw (g:=w.heap.size+1) (cs:=Z8 x) (v:=Y9 0) Q6 Q6 Q6 (Z0 (Z0 (Z0 (Z0 (Z0 f7 0 _) 1 _) 2 _) 3 _) 4 _) rfl ?_;have e3:=Ua w5 (w.heap.size+1) 0 x;have h9:=d2.size;refine⟨by rw[Rt E,Ru E,TH.out];rfl,.inr ⟨E,some ⟨D,0,none⟩,c,some ⟨gg,0,none⟩,cap,?_,?_,?_⟩⟩
  ·rw[TT.out]
   refine e8.keeps e3 ?_;intro j hj e;obtain h|h:=d4.out j hj
   ·have:=a0.out j h
    omega
   omega
  ·exact(((B9 d2 _).trans f9 (fun i h=>.inl h)).trans g0 (fun i h=>.inl h)).trans e3 (fun i h=>.inr Q0)
  intro i y;obtain h|h:=d4.out i y
  ·exact .inl h
  exact .inr Q0
def AR(ss:List FV):Nat:=(ss.filter fun s=>s.2.2).length
def KK(ss:List FV)(s g:Int):Option X6:=if 0<=s then(match ss[s.toNat]? with|some v=>if v.2.2=true/\v.2.1=g then some v.1 else none|none=>none)else none
theorem Kj ss s g:VF ss s g=(KK ss s g).isSome:=by
 unfold VF KK
 by_cases h:0<=s
 ·rw[X0 h]
  cases e:ss[s.toNat]? with
  |none=>simp
  |some v=>
   obtain⟨x,i,j⟩:=v
   cases j
   ·simp
   by_cases h2:i=g<;>simp[h,h2]
 rw[J8 h];simp[h]
theorem Rx ss s g:SZ ss s g=(KK ss s g).getD D4:=by
 unfold SZ;rw[Kj];unfold KK Zk
 by_cases h:0<=s
 ·rw[X0 h]
  cases e:ss[s.toNat]? with
  |none=>simp
  |some v=>
   obtain⟨x,i,j⟩:=v
   by_cases h2:j=true/\i=g
   ·simp[h2.1,h2.2]
   have:(if j=true/\i=g then some x else none:Option X6)=none:=J8 h2;simp[this]
 rw[J8 h];rfl
theorem Ry ss s g:SV ss s g=if(KK ss s g).isSome=true then 0 else 7:=by unfold SV;rw[Kj]
theorem Cx{ss}{k:Nat}(hk:k<ss.length)v s g:KK (ss.set k v) s g=if s=k then(if v.2.2=true/\v.2.1=g then some v.1 else none)else KK ss s g:=by
 unfold KK
 by_cases h:0<=s
 ·rw[X0 h,X0 h]
  by_cases e:s=k
  ·subst e
   rw[X0 rfl];have:(ss.set k v)[((k:Nat):Int).toNat]?=some v:=by simp[hk]
   rw[this]
  rw[J8 e,UL Q0]
 rw[J8 h,J8 h,J8 Q0]
theorem Qq0 ss v s g:KK (ss++[v]) s g=if s=(ss.length:Nat)then(if v.2.2=true/\v.2.1=g then some v.1 else none)else KK ss s g:=by
 unfold KK
 by_cases h:0<=s
 ·rw[X0 h,X0 h]
  by_cases e:s=(ss.length:Nat)
  ·rw[X0 e]
   have:(ss++[v])[s.toNat]?=some v:=by subst e;simp
   rw[this]
  rw[J8 e]
  by_cases h2:s.toNat<ss.length
  ·rw[List.getElem?_append_left h2]
  rw[GL Q7,GL Q0]
 rw[J8 h,J8 h,J8 Q0]
theorem Qu1 s g:KK [] s g=none:=by unfold KK;split<;>simp
theorem Nt{ss k}(hk:k<ss.length)(i:ss[k].2.2=false)g:KK ss (k:Nat) g=none:=by
 unfold KK;have:ss[((k:Nat):Int).toNat]?=some ss[k]:=by simp[hk]
 rw[X0 Q0,this];simp[i]
theorem Jx7{ss s g x}(h:KK ss s g=some x):∃k:Nat,s=k/\∃hk:k<ss.length,ss[k].2.2=true/\ss[k].2.1=g/\ss[k].1=x:=by
 unfold KK at h
 by_cases j:0<=s
 ·rw[X0 j]at h
  cases e:ss[s.toNat]? with
  |none=>rw[e]at h;cases h
  |some v=>
   rw[e]at h;obtain⟨hk,i⟩:=Ju.1 e;dsimp only at h
   split at h
   ·rename_i u
    cases h;exact⟨s.toNat,Q0,hk,by rw[i];exact u.1,by rw[i];exact u.2,by rw[i]⟩
   cases h
 rw[J8 j]at h;cases h
theorem Lc ss s:AR (ss++[s])=AR ss+if s.2.2=true then 1 else 0:=by
 unfold AR;rw[JE]
 cases h:s.2.2<;>simp[h]
theorem Nu s ss:AR (s::ss)=(if s.2.2=true then 1 else 0)+AR ss:=by
 unfold AR
 cases h:s.2.2<;>simp[h]<;>omega
theorem Cy ss v:∀k(h:k<ss.length),AR (ss.set k v)+(if ss[k].2.2=true then 1 else 0)=AR ss+(if v.2.2=true then 1 else 0):=by
 induction ss with
 |nil=>intro k h;simp at h
 |cons s ss i=>
  intro k h
  cases k with
  |zero=>simp only[List.set_cons_zero,List.getElem_cons_zero,Nu];omega
  |succ k=>
   have:=i k (by simpa using h);simp only[List.set_cons_succ,List.getElem_cons_succ,Nu];omega
structure FG(ss:List FV)(fr:List Int)(most:Nat):Prop where
 nodup:fr.Nodup
 free:∀i∈fr,∃k:Nat,i=k/\∃h:k<ss.length,ss[k].2.2=false
 count:ss.length=fr.length+AR ss
 cap:ss.length<=most
theorem FG.empty most:FG [] [] most:=⟨TJ,fun i h=>by simp at h,rfl,U9 _⟩
theorem FG.new_{ss most}(h:FG ss [] most)(u:AR ss<most)x:FG (ss++[(x,0,true)]) [] most:=by
 have j:=h.count;refine⟨TJ,fun i h=>by simp at h,?_,?_⟩
 ·rw[Lc];simp at j|-;omega
 simp at j|-;omega
theorem FG.old_{ss fr}{k most:Nat}(h:FG ss (fr++[(k:Int)]) most)x a:∃hk:k<ss.length,ss[k].2.2=false/\FG (ss.set k (x,a,true)) fr most/\AR (ss.set k (x,a,true))=AR ss+1:=by
 obtain⟨k',e,hk,C⟩:=h.free k Q3;obtain rfl:k=k':=Q0;have u:=Cy ss (x,a,true) k hk;rw[C]at u;simp at u;have y:=h.nodup;rw[BE]at y;have E:=h.count;refine⟨hk,C,⟨y.1,fun i D=>?_,?_,?_⟩,u⟩
 ·obtain⟨j,rfl,J,N⟩:=h.free i (by simp[D])
  have Z:k≠j:=fun e=>y.2.2 (j:Int) D (k:Int) Q3 (by rw[e])
  exact⟨j,rfl,by simpa using J,by rw[WD Z];exact N⟩
 ·rw[XH,u,E];simp;omega
 rw[XH];exact h.cap
theorem FG.take_{ss fr k most}(h:FG ss fr most)(hk:k<ss.length)(E:ss[k].2.2=true)x a:FG (ss.set k (x,a,false)) (fr++[(k:Int)]) most/\AR (ss.set k (x,a,false))+1=AR ss:=by
 have D:=Cy ss (x,a,false) k hk;rw[E]at D;simp at D;have N:=h.count;have J:∀i∈fr,i≠(k:Int):=by intro i u e;obtain⟨j,rfl,y,C⟩:=h.free i u;obtain rfl:j=k:=Q0;rw[E]at C;cases C
 refine⟨⟨?_,?_,?_,?_⟩,D⟩
 ·rw[BE]
  refine⟨h.nodup,Q3,fun i u j y=>?_⟩;simp at y;subst y;exact J i u
 ·intro i u
  obtain u|u:=B8.1 u
  ·obtain⟨j,rfl,y,C⟩:=h.free i u
   have:k≠j:=fun e=>J _ u (by rw[e])
   exact⟨j,rfl,by simpa using y,by rw[WD this];exact C⟩
  simp at u;subst u;exact⟨k,rfl,by simpa using hk,by rw[SL]⟩
 ·rw[XH];simp;omega
 rw[XH];exact h.cap
theorem Vp{P}w N sT ty D k g o C a1 a y a0 u t cs m(hm:m=Nat.min y C)(hu:P.underlying N=some (.slice D)) (Z:(P.info? D).map (·.size)=some k)(hg:w.heap[g]?=some (.cells u t (0,0))) (hn:cs.length=m*k)(a3:∀j v,cs[j]?=some v->w.cell? (a.add j)=some v) (a2:o+cs.length<=u.size) (h1:∀v∈cs,v.oneCell'=true):(Builtin.copy_ #[N,sT] ty #[.slice (some (aD g o)) C a1,.slice (some a) y a0]).run P w=.ok (goInt m) (w.setRow g (splice u.toList o cs).toArray):=by
 subst hm;have J:=run_storeCells_at P g o t cs 0 u w hg (by simpa using a2) h1
 cases E:P.info? D with
 |none=>simp[E]at Z
 |some i=>
  have hi:i.size=k:=by simpa [E]using Z
  have hl:=run_firstCells_some (P:=P) w k (Nat.min y C) a y a0 cs hn a3;have e:u.toList.take o++cs++u.toList.drop (o+cs.length)=splice u.toList o cs:=by unfold splice;rw[VW]
  simp only[Nat.add_zero]at J;rw[e]at J;simp[Builtin.copy_,run_underlying hu,Builtin.lenOf,sizeOf,typeInfo,E,hi,hl,J]
theorem Ld{P ops o a w K Q E}(D:o.guard=none) d x i j (J:o.op=Op.call {callee:=Callee.builtin Builtin.copy,args:= #[d,x],argTypes:= #[i,j]}) v u (C:a.eval d=v) (hx:a.eval x=u) {v' w'} (N:(Builtin.copy_ #[i,j] o.type #[v,u]).run P w=.ok v' w') (y:K (a.put o.dst v') w'):if Region.wanted o (yielded ops a.tmps)=true then Oper.wp P o a w K Q else E:=by
 have Z:Region.wanted o (yielded ops a.tmps)=true:=by simp[Region.wanted,D]
 rw[X0 Z];unfold Oper.wp;simp[execOp,J,resolve,invoke,builtin,C,hx,N,Result.andThen];exact y
section
variable {w w':World} {g:Nat} {t:TypeId}
theorem J7.setRow w g cs cs' t(h:J7 w g t cs):J7 (w.setRow g cs') g t cs':=setRow_heap w g cs cs' t (0,0) h
abbrev BH:=@J7.setRow
theorem X4.setRow w g cs:X4 (fun i=>i=g) w (w.setRow g cs):=⟨rfl,rfl,rfl,by simp[World.setRow],fun i _ j=>setRow_other w g i cs (fun e=>j e)⟩
abbrev UP:=@X4.setRow
theorem J7.shape{w g t cs}(h:J7 w g t cs):w.shape? g=some (t,cs.size):=by unfold J7 at h;simp[World.shape?,h]
theorem Gm{row}(h:w.grownBy w' row):X4 (fun i=>row=some i) w w':=⟨h.os,h.tape,h.output,h.size,fun i j u=>h.block i j (fun e=>u e.symm)⟩
theorem X8.whole{n c sz xs}(h:X8 w (sA g) n c t sz xs):∃i:List Value,J7 w g t i.toArray/\n<=c/\c<=maxLen/\i.length=c*sz/\i.take (n*sz)=xs:=by
 rcases h.2 with⟨h1,_⟩|⟨E,cap,i,D,h1,h2,j,u,y,C⟩
 ·cases h1
 cases D;exact⟨i.toList,by simpa [J7]using h2,j,u,by simpa using y,C⟩
theorem X8.of_whole{n c sz}{i:List Value}(u:J7 w g t i.toArray)(j:n<=c)(y:c<=maxLen)(C:i.length=c*sz):X8 w (sA g) n c t sz (i.take (n*sz)):=by have:n*sz<=c*sz:=GM _ j;exact⟨by rw[R7];omega,.inr ⟨g,c,i.toArray,rfl,U9 _,u,j,y,by simpa using C,Q3⟩⟩
end
theorem Qq1(j X V:List Value)i n k(Z:i<=n)(D:j.take (n*k)=X)(u:V.length=k)(hl:(n+1)*k<=j.length):(splice (splice j ((i+1)*k) (X.drop (i*k))) (i*k) V).take ((n+1)*k)=X.take (i*k)++V++X.drop (i*k):=by
 have h1:i*k<=n*k:=GM _ Z;have J:(i+1)*k=i*k+k:=MX _ _;have C:(n+1)*k=n*k+k:=MX _ _;rw[J,C];rw[C]at hl;generalize i*k=a at*;generalize n*k=b at*;have N:X.length=b:=by rw[<-D,R7];omega
 have y:(X.drop a).length=b-a:=by rw[UQ,N]
 have a0:X.take a=j.take a:=by rw[<-D,List.take_take,SW h1]
 unfold splice;rw[u,y,show a+k+(b-a)=b+k by omega];have s1:(j.take (a+k)++(X.drop a++j.drop (b+k))).take a=j.take a:=by rw[Js (by rw[R7];omega),List.take_take,SW Q0]
 have s2:(j.take (a+k)++(X.drop a++j.drop (b+k))).drop (a+k)=X.drop a++j.drop (b+k):=by rw[List.drop_append,GH (by rw[R7];omega),R7,show a+k-min (a+k) j.length=0 by omega];rfl
 rw[s1,s2,<-a0];have E:(X.take a).length=a:=by rw[R7];omega
 rw[show X.take a++(V++(X.drop a++j.drop (b+k)))=(X.take a++V++X.drop a)++j.drop (b+k) by simp];rw[Js (by simp only[List.length_append,E,u,y];omega),M4 (by simp only[List.length_append,E,u,y];omega)]
theorem Qu2(j X V:List Value)i n k(Z:i<=n)(N:X.length=n*k)(J:j.take (i*k)=X.take (i*k))(u:V.length=k)(hl:(n+1)*k<=j.length):(splice (splice j (i*k) V) ((i+1)*k) (X.drop (i*k))).take ((n+1)*k)=X.take (i*k)++V++X.drop (i*k):=by
 have h1:i*k<=n*k:=GM _ Z;have E:(i+1)*k=i*k+k:=MX _ _;have D:(n+1)*k=n*k+k:=MX _ _;rw[E,D];rw[D]at hl;generalize i*k=a at*;generalize n*k=b at*;have C:(X.drop a).length=b-a:=by rw[UQ,N]
 have y:(X.take a).length=a:=by rw[R7];omega
 unfold splice;rw[u,C,J,show a+k+(b-a)=b+k by omega];have s1:(X.take a++(V++j.drop (a+k))).take (a+k)=X.take a++V:=by rw[<-VW,Js (by simp only[List.length_append,y,u];omega),M4 (by simp only[List.length_append,y,u];omega)]
 have a0:(X.take a++(V++j.drop (a+k))).length=j.length:=by simp only[List.length_append,y,u,List.length_drop];omega
 rw[s1];rw[show X.take a++V++(X.drop a++(X.take a++(V++j.drop (a+k))).drop (b+k))=(X.take a++V++X.drop a)++(X.take a++(V++j.drop (a+k))).drop (b+k) by simp];rw[Js (by simp only[List.length_append,y,u,C];omega),M4 (by simp only[List.length_append,y,u,C];omega)]
theorem Lq{α enc k}(hk:∀x,(enc x).length=k)xs(y:α)i:(X7 enc xs).take (i*k)++enc y++(X7 enc xs).drop (i*k)=X7 enc (xs.take i++y::xs.drop i):=by
 rw[Uf hk,NM,Qe];have:(X7 enc xs).drop (i*k)=X7 enc (xs.drop i):=by
  have h:=NM enc (xs.take i) (xs.drop i);rw[P9]at h
  by_cases j:i<=xs.length
  ·rw[h,List.drop_append_of_le_length (by rw[EG hk,R7];exact GM _ Q0),GH (by rw[EG hk,R7];exact GM _ Q0)];rfl
  rw[GH (show xs.length<=i by omega),GH (by rw[EG hk];exact GM _ Q0)];rfl
 rw[this,VW]
theorem Ql8 vs:∀l p,p+vs.length<=l.length->CD l p vs=splice l p vs:=by
 induction vs with
 |nil=>intro l p h;simp[CD,splice]
 |cons v vs i=>
  intro l p h;rw[JA]at h;rw[CD,i _ _ (by rw[XH];omega)];unfold splice;rw[JA,show p+1+vs.length=p+(vs.length+1) by omega,Ar Q0];rw[M9 (by rw[XH];omega),SL,Xb Q2];simp
theorem X8.sets{t g n c sz}i:∀w xs p,X8 w (sA g) n c t sz xs->X8 (w.setCells g p i) (sA g) n c t sz (CD xs p i):=by
 induction i with
 |nil=>intro w xs p h;exact h
 |cons v i j=>intro w xs p h;exact j _ _ _ (h.set p v)
theorem Qq2(X:List Value)a b(h1:a<=b)(h2:b<=X.length):(splice X a (X.drop b)).take (a+(X.length-b))=X.take a++X.drop b:=by unfold splice;rw[UQ,<-VW];rw[Js Q7,M4 Q7]
theorem Jb2{α enc k}(hk:∀x,(enc x).length=k)(xs:List α)i j(u:j<=xs.length):(X7 enc xs).take (i*k)++(X7 enc xs).drop (j*k)=X7 enc (xs.take i++xs.drop j):=by
 rw[Uf hk,NM];have:(X7 enc xs).drop (j*k)=X7 enc (xs.drop j):=by have h:=NM enc (xs.take j) (xs.drop j);rw[P9]at h;rw[h,List.drop_append_of_le_length (by rw[EG hk,R7];exact GM _ Q0),GH (by rw[EG hk,R7];exact GM _ Q0)];rfl
 rw[this]
def JR(a p:Int):Int:=a-p
def UA(qs:List Z7):Prop:=qs.Pairwise fun x y=>x.1<y.1
theorem Ls{p:Int}{qs:List Z7}(h:UA qs){i j:Nat}(C:j<qs.length)(y:i<=j)(u:JR qs[j].1 p<0):JR (qs[i]'(by omega)).1 p<0:=by
 unfold JR at*;obtain D|rfl:=SS y
 ·have:=GG.1 h i j Q0 C D
  omega
 exact u
def LV(qs:List Z7)(p:Int)(n k:Nat):Bool:=decide (k<n) && (match qs[k]? with|some q=>JR q.1 p ==0|none=>false)
theorem Lt{qs p n k}(i:qs.length=n)(h:LV qs p n k=true):∃hk:k<qs.length,qs[k].1=p:=by unfold LV at h;rw[Bool.and_eq_true,decide_eq_true_eq]at h;have hk:k<qs.length:=Q0;rw[JY hk]at h;exact⟨hk,by have h2:(JR qs[k].1 p ==0)=true:=h.2;rw[beq_iff_eq]at h2;unfold JR at h2;omega⟩
theorem Le{qs p n k}(Z:qs.length=n)(E:UA qs)(h:LV qs p n k=false)(h1:∀i(u:i<qs.length),i<k->JR qs[i].1 p<0)(h2:∀i(u:i<qs.length),k<=i->0<=JR qs[i].1 p):∀x∈qs,x.1≠p:=by
 intro x J e;obtain⟨i,u,rfl⟩:=ZX.1 J;have y:¬i<k:=fun y=>by have:=h1 i u y;unfold JR at this;omega
 have hk:k<qs.length:=Q0;have C:JR qs[k].1 p≠0:=by unfold LV at h;rw[V7 (by omega:k<n),JY hk]at h;exact fun e=>by have j:(JR qs[k].1 p ==0)=false:=h;rw[e]at j;cases j
 have j:=h2 k hk Q2;have N:qs[k].1<=qs[i].1:=by
  rcases SS (by omega:k<=i)with D|rfl
  ·exact TX (GG.1 E k i hk u D)
  exact T3 _
 unfold JR at C j;omega
def MM(a:Int):Prop:= -1099511627776<=a/\a<=1099511627776
theorem Qo0 a b c p(j:MM a)(hp:MM p)w:Calls prog 269 #[.agg #[I O a,I O b,I O c],I O p] w fun e w'=>e=.returned (I O (JR a p))/\Bz w w':=by
 have u:RowKit.wrap64 (a-p)=a-p:=by unfold MM at*;unfold RowKit.wrap64;omega
 have i:=J6 (show Bz w (w.alloc (.cells #[I O a,I O b,I O c] 331))from(J9 _ w).alloc Q2 _);clear j hp;go_enter func269,ntmps269
 go_wp2;go_ret;exact⟨JK (by unfold JR;first|rfl|omega|(rw[u])),i⟩
theorem Jb3 a b c p(j:MM a)(hp:MM p)w:Calls prog 268 #[.agg #[I O a,I O b,I O c],I O p] w fun e w'=>e=.returned (I O (JR a p))/\Bz w w':=by
 have u:RowKit.wrap64 (a-p)=a-p:=by unfold MM at*;unfold RowKit.wrap64;omega
 have i:=J6 (show Bz w (w.alloc (.cells #[I O a,I O b,I O c] 331))from(J9 _ w).alloc Q2 _);clear j hp;go_enter func268,ntmps268
 go_wp2;go_ret;exact⟨JK (by unfold JR;first|rfl|omega|(rw[u])),i⟩
theorem Lu p g lb A n c qs w(h:C0 w Y8 3 A n qs)(hr:UA qs)(hm:n<=100000)(eg:∀args w,(callFunc g args).run prog w=.ok (.enter g args) w)(a4:∀W q,q∈qs->Bz w W->Calls prog g (#[.agg #[I O q.1,I O q.2.1,I O q.2.2],I O p]++lb) W fun e w'=>e=.returned (I O (JR q.1 p))/\Bz W w'):Calls prog 267 #[.slice A n c,I O p,.func (.func g) #[] lb] w fun e w'=>Bz w w'/\∃k,k<=n/\(∀i(hi:i<qs.length),i<k->JR qs[i].1 p<0)/\(∀i(hi:i<qs.length),k<=i->0<=JR qs[i].1 p)/\e=.returned (.tuple #[I O k,.bool (LV qs p n k)]):=by
 have HH:=J6 h;have hl:=h.1;obtain⟨HL,HR,HC⟩:=Xt7 hl hr a4;clear h hr a4 hl;go_enter func267,ntmps267
 go_wp2_with fail
 go_loopg [9,10] n (fun gg s9 b0 wx=>∃u hi,u<=hi/\hi<=n/\gg=hi-u/\s9=I O u/\b0=I O hi/\Bz w wx/\Hid ((∀i(hi:i<qs.length),i<u->JR qs[i].1 p<0)/\(∀i(hx:i<qs.length),hi<=i->0<=JR qs[i].1 p)))
 case atStart=>exact⟨0,n,U9 _,X3 _,rfl,rfl,rfl,J9 _ _,J6 ⟨fun i _ h=>absurd h Q0,fun i hx h=>by have:=HL.out;omega⟩⟩
 obtain⟨u,hi,b1,a2,rfl,rfl,rfl,D,Z⟩:=hrel
 by_cases b2:u<hi
 ·have a7:(u:Int)<(hi:Int):=by omega
  go_upto_region 5 with fail
  have em:((u:Int)+(hi:Int))/2=(((u+hi)/2:Nat):Int):=Q0;have a8:u<=(u+hi)/2:=Q0;have a9:(u+hi)/2<hi:=Q0;rw[em];generalize(u+hi)/2=m at a8 a9|-;clear em;have E:m<qs.length:=by have:=HL.out;omega
  obtain⟨b,y,hA⟩:∃b y,A=some (aD b y):=by obtain⟨b,y,h1,_⟩:=HH.2 Q0;exact⟨b,y,h1⟩
  subst hA;have J:=HH.below D Q2;have x0:wr.cell? (aD b (y+m*3))=some (I O qs[m].1):=J.at_ E (j:=0) rfl;have x1:wr.cell? (aD b (y+m*3+1))=some (I O qs[m].2.1):=J.at_ E (j:=1) rfl;have x2:wr.cell? (aD b (y+m*3+2))=some (I O qs[m].2.2):=J.at_ E (j:=2) rfl;have C:=HC.out wr qs[m] (C7 E) D;have a6:(0:Int)<=(m:Int):=Q0;have a3:(m:Int)<(n:Int):=Q0;obtain⟨v,N⟩:∃v,Hid (JR qs[m].1 p=v):=⟨_,J6 rfl⟩;rw[N.out]at C;generalize qs[m].2.1=l0 at x1 C;generalize qs[m].2.2=l1 at x2 C;obtain⟨pr,EP⟩:∃v,Hid (qs[m].1=v):=⟨_,J6 rfl⟩;rw[EP.out]at x0 C;have a1:=D.size;have HB:=J6 D;clear J D
  by_cases hv:v<0
  ·have d1:decide (v<0)=true:=V7 hv
   have HV:=J6 hv;clear hv;go_wp2_with (go_at_fn g;refine C.mono ?_;rintro e w2⟨rfl,a0⟩)
   go_roundg (hi-(m+1))
   case measure=>omega
   exact⟨m+1,hi,Q0,a2,rfl,J5,rfl,HB.trans (a0.mono a1),J6 ⟨fun i hx h=>Ls HR E Q0 (by rw[N.out];exact HV),Z.2⟩⟩
  have d1:decide (v<0)=false:=V9 hv;have HV:=J6 hv;clear hv;go_wp2_with (go_at_fn g;refine C.mono ?_;rintro e w2⟨rfl,a0⟩)
  go_roundg (m-u)
  case measure=>omega
  exact⟨u,m,Q0,Q0,rfl,rfl,J5,HB.trans (a0.mono a1),J6 ⟨Z.1,fun i hx h=>by
   obtain h1|h1:=Int.lt_or_le (JR qs[i].1 p) 0
   ·have:=Ls HR hx h h1
    rw[N.out]at this;have h5:=HV.out;omega
   exact h1⟩⟩
 obtain rfl:u=hi:=by omega
 have a7:¬(u:Int)<(u:Int):=Q0;have HB:=J6 D
 by_cases a5:u<n
 ·have E:u<qs.length:=by have:=HL.out;omega
  obtain⟨b,y,hA⟩:∃b y,A=some (aD b y):=by obtain⟨b,y,h1,_⟩:=HH.2 Q0;exact⟨b,y,h1⟩
  subst hA;have J:=HH.below D Q2;have x0:wr.cell? (aD b (y+u*3))=some (I O qs[u].1):=J.at_ E (j:=0) rfl;have x1:wr.cell? (aD b (y+u*3+1))=some (I O qs[u].2.1):=J.at_ E (j:=1) rfl;have x2:wr.cell? (aD b (y+u*3+2))=some (I O qs[u].2.2):=J.at_ E (j:=2) rfl;have C:=HC.out wr qs[u] (C7 E) D;have a6:(0:Int)<=(u:Int):=Q0;have a3:(u:Int)<(n:Int):=Q0;have d1:decide ((u:Int)<(n:Int))=true:=V7 a3;have HG:Hid (LV qs p n u=(JR qs[u].1 p ==0)):=J6 (by unfold LV;rw[V7 a5,JY E];rfl);generalize qs[u].2.1=l0 at x1 C;generalize qs[u].2.2=l1 at x2 C;obtain⟨v,N⟩:∃v,Hid (JR qs[u].1 p=v):=⟨_,J6 rfl⟩;rw[N.out]at C;obtain⟨pr,EP⟩:∃v,Hid (qs[u].1=v):=⟨_,J6 rfl⟩;rw[EP.out]at x0 C;have a1:=D.size;clear J D;go_wp2_with (go_at_fn g;refine C.mono ?_;rintro e w2⟨rfl,a0⟩)
  go_ret2;exact⟨HB.trans (a0.mono a1),u,a2,Z.1,Z.2,by rw[HG.out,N.out];rfl⟩
 have d1:decide ((u:Int)<(n:Int))=false:=V9 Q0;have a3:¬(u:Int)<(n:Int):=Q0;have HG:Hid (LV qs p n u=false):=J6 (by unfold LV;rw[V9 a5];rfl);clear D;go_wp2;go_ret2;exact⟨HB,u,a2,Z.1,Z.2,by rw[HG.out];rfl⟩
def Ja(w:World)(v:Value)(n pl:Int):Prop:=
 (v=.nilIface/\n=0/\pl= -1)\/(v=.iface 52 (I O n)/\pl= -1)\/
 (∃g,v=.iface 287 (pA g)/\w.cell? (aD g 0)=some (I O n)/\w.cell? (aD g 1)=some (I O pl))
theorem Ja.below{w w' v n pl}(h:Ja w v n pl)(i:Bz w w'):Ja w' v n pl:=by
 obtain h|h|⟨g,h1,h2,j⟩:=h
 ·exact .inl h
 ·exact .inr (.inl h)
 exact .inr (.inr ⟨g,h1,(i.cell (p:=(aD g 0)) (U5 w (aD g 0) h2)).trans h2,(i.cell (p:=(aD g 1)) (U5 w (aD g 0) h2)).trans j⟩)
