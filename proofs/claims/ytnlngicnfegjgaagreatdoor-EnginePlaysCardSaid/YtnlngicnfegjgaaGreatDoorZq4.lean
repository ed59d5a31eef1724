/- Parts. -/
import Derived.Test.YtnlngicnfegjgaaGreatDoorZq1
set_option linter.unusedVariables false
set_option maxRecDepth 100000
set_option maxHeartbeats 8000000
open Go.Proofs.Tryz
open Go.Value renaming int→I,pointer→IP
open Go.IntKind renaming i64→O
namespace Go.Proofs.YtnlngicnfegjgaaGreatDoor
open Go.RowKit
def GB (w:World) (r:Nat):Prop:=
 R8 w r [MapEntry.mk (.int .i64 1) (.slice (some ⟨r+1,0,none⟩) 1 1) 0,MapEntry.mk (.int .i64 2) (.slice (some ⟨r+2,0,none⟩) 1 1) 1,MapEntry.mk (.int .i64 3) (.slice (some ⟨r+3,0,none⟩) 2 2) 2,MapEntry.mk (.int .i64 5) (.slice (some ⟨r+4,0,none⟩) 1 1) 3] 4/\
 w.cell? ⟨r+1,0,none⟩=some (.int .i64 2)/\w.cell? ⟨r+2,0,none⟩=some (.int .i64 3)/\w.cell? ⟨r+3,0,none⟩=some (.int .i64 5)/\w.cell? ⟨r+3,1,none⟩=some (.int .i64 7)/\w.cell? ⟨r+4,0,none⟩=some (.int .i64 7)/\
 w.heap.size=r+5
theorem Cq w:Calls prog 137 #[] w fun e w'=>e= .returned (.map (some w.heap.size))/\GB w' w.heap.size/\Below w.heap.size w w':=by
 have a8:= @run_makeMap prog
 go_enter func137,ntmps137
 go_wp2_with (first
  |((with_reducible (refine Qy (o:=⟨none,.insert 234 (.tmp 1) (.const (I O 1)) (.tmp 2),_,_,_,_⟩) _ rfl (.tmp 1) (.const (I O 1)) (.tmp 2) 234 rfl Qw VN CR w.heap.size 0 [] (I O 1) (.slice (some ⟨w.heap.size+1,0,none⟩) 1 1) (by with_unfolding_all rfl) (by with_unfolding_all rfl) (by with_unfolding_all rfl) ((R8.made w).alloc _) (by with_unfolding_all rfl) ?_));intro w1 h1 C;have D:w1.heap.size=w.heap.size+2:=by rw[C.size];simp)
  |((with_reducible (refine Qy (o:=⟨none,.insert 234 (.tmp 1) (.const (I O 2)) (.tmp 3),_,_,_,_⟩) _ rfl (.tmp 1) (.const (I O 2)) (.tmp 3) 234 rfl Qw VN CR w.heap.size 1 _ (I O 2) (.slice (some ⟨w.heap.size+2,0,none⟩) 1 1) (by with_unfolding_all rfl) (by with_unfolding_all rfl) (by with_unfolding_all rfl) (h1.alloc _) (by with_unfolding_all rfl) ?_));intro w2 h2 y;have v:w2.heap.size=w.heap.size+3:=by rw[y.size];simp[D])
  |((with_reducible (refine Qy (o:=⟨none,.insert 234 (.tmp 1) (.const (I O 3)) (.tmp 4),_,_,_,_⟩) _ rfl (.tmp 1) (.const (I O 3)) (.tmp 4) 234 rfl Qw VN CR w.heap.size 2 _ (I O 3) (.slice (some ⟨w.heap.size+3,0,none⟩) 2 2) (by with_unfolding_all rfl) (by with_unfolding_all rfl) (by with_unfolding_all rfl) (h2.alloc _) (by with_unfolding_all rfl) ?_));intro w3 E j;have u:w3.heap.size=w.heap.size+4:=by rw[j.size];simp[v])
  |((with_reducible (refine Qy (o:=⟨none,.insert 234 (.tmp 1) (.const (I O 5)) (.tmp 5),_,_,_,_⟩) _ rfl (.tmp 1) (.const (I O 5)) (.tmp 5) 234 rfl Qw VN CR w.heap.size 3 _ (I O 5) (.slice (some ⟨w.heap.size+4,0,none⟩) 1 1) (by with_unfolding_all rfl) (by with_unfolding_all rfl) (by with_unfolding_all rfl) (E.alloc _) (by with_unfolding_all rfl) ?_));intro w4 h4 i;have s4:w4.heap.size=w.heap.size+5:=by rw[i.size];simp[u]))
 go_ret
 have a1:w1.cell? ⟨w.heap.size+1,0,none⟩=some (I O 2):=(C.cell (by simp)).trans (by simp)
 have J:w2.cell? ⟨w.heap.size+1,0,none⟩=some (I O 2):=(y.cell (by simp)).trans ((S4 _ _ _ (by simp[D])).trans a1)
 have a4:w3.cell? ⟨w.heap.size+1,0,none⟩=some (I O 2):=(j.cell (by simp)).trans ((S4 _ _ _ (by simp[v])).trans J)
 have a3:w4.cell? ⟨w.heap.size+1,0,none⟩=some (I O 2):=(i.cell (by simp)).trans ((S4 _ _ _ (by simp[u])).trans a4)
 have a6:w2.cell? ⟨w.heap.size+2,0,none⟩=some (I O 3):=(y.cell (by simp)).trans (by rw[<-D];simp)
 have a5:w3.cell? ⟨w.heap.size+2,0,none⟩=some (I O 3):=(j.cell (by simp)).trans ((S4 _ _ _ (by simp[v])).trans a6)
 have a0:w4.cell? ⟨w.heap.size+2,0,none⟩=some (I O 3):=(i.cell (by simp)).trans ((S4 _ _ _ (by simp[u])).trans a5)
 have U:w3.cell? ⟨w.heap.size+3,0,none⟩=some (I O 5):=(j.cell (by simp)).trans (by rw[<-v];simp)
 have N:w4.cell? ⟨w.heap.size+3,0,none⟩=some (I O 5):=(i.cell (by simp)).trans ((S4 _ _ _ (by simp[u])).trans U)
 have a2:w3.cell? ⟨w.heap.size+3,1,none⟩=some (I O 7):=(j.cell (by simp)).trans (by rw[<-v];simp)
 have Z:w4.cell? ⟨w.heap.size+3,1,none⟩=some (I O 7):=(i.cell (by simp)).trans ((S4 _ _ _ (by simp[u])).trans a2)
 have a7:w4.cell? ⟨w.heap.size+4,0,none⟩=some (I O 7):=(i.cell (by simp)).trans (by rw[<-u];simp)
 refine⟨rfl,⟨h4,a3,a0,N,Z,a7,s4⟩, ?_⟩
 exact(((((((Q2 _ w).alloc (Q4 _) _).alloc (by simp) _).trans (C.below (Q4 _))).alloc (by omega) _).trans (y.below (Q4 _))).alloc (by omega) _).trans (j.below (Q4 _)) |>.alloc (by omega) _ |>.trans (i.below (Q4 _))
def NB (r:Nat) (p:Int):Value:=
 if p=1 then .slice (some ⟨r+1,0,none⟩) 1 1 else if p=2 then .slice (some ⟨r+2,0,none⟩) 1 1
 else if p=3 then .slice (some ⟨r+3,0,none⟩) 2 2 else if p=5 then .slice (some ⟨r+4,0,none⟩) 1 1 else .slice none 0 0
theorem Qo5 w:(zeroValue 22).run prog w= .ok (.slice none 0 0) w:=by kernel_rfl
theorem GB.look {w r} (h:GB w r) p:
  (Instr.lookup 234 (.map (some r)) (.int .i64 p) false).run prog w= .ok (NB r p) w:=by
 have key: ∃x,NW (.int .i64) (.int .i64 p) [MapEntry.mk (.int .i64 1) (.slice (some ⟨r+1,0,none⟩) 1 1) 0,MapEntry.mk (.int .i64 2) (.slice (some ⟨r+2,0,none⟩) 1 1) 1,MapEntry.mk (.int .i64 3) (.slice (some ⟨r+3,0,none⟩) 2 2) 2,MapEntry.mk (.int .i64 5) (.slice (some ⟨r+4,0,none⟩) 1 1) 3]=some x/\(x.map (·.2)).getD (.slice none 0 0)=NB r p:=by
  unfold NW NB;simp only[Instr.findNow,Instr.sameNow,if_true]
  by_cases h1:p=1
  ·subst h1;exact⟨_,rfl,rfl⟩
  by_cases h2:p=2
  ·subst h2;exact⟨_,rfl,rfl⟩
  by_cases i:p=3
  ·subst i;exact⟨_,rfl,rfl⟩
  by_cases j:p=5
  ·subst j;exact⟨_,rfl,rfl⟩
  rw[X3 h1,X3 h2,X3 i,X3 j,Q3 h1,Q3 h2,Q3 i,Q3 j];exact⟨none,rfl,rfl⟩
 obtain⟨x,u,v⟩:=key
 rw[Vb Qw VN CR h.1 _ (Qo5 w) false x u,<-v]
 rfl
attribute [local go_sem↓] Go.wp_at_zero Go.wp_at_succ
def M5 (p:Int):List Int:=if p=1 then [2]else if p=2 then [3]else if p=3 then [5,7]else if p=5 then [7]else []
def N6 (L:List Int) (p:Int):Bool:=L.any fun x=>x ==p
theorem Qo6 (L:List Int) p j (h:j<L.length):N6 (L.take (j+1)) p=(N6 (L.take j) p || (L[j] ==p)):=by
 unfold N6
 rw[M8 h,List.any_append]
 simp
theorem GB.list {w r} (h:GB w r) p:
  (M5 p= []/\NB r p= .slice none 0 0)\/
  ∃g L,M5 p=L/\L.length<=2/\NB r p= .slice (some ⟨g,0,none⟩) L.length L.length/\ ∀j (i:j<L.length),w.cell? ⟨g,j,none⟩=some (I O L[j]):=by
 obtain⟨_,y,C,D,J,E,_⟩:=h
 unfold M5 NB
 by_cases h1:p=1
 ·right;subst h1;exact⟨r+1,[2],rfl,by simp,rfl,fun j i=>by simp at i;subst i;exact y⟩
 by_cases h2:p=2
 ·right;subst h2;exact⟨r+2,[3],rfl,by simp,rfl,fun j i=>by simp at i;subst i;exact C⟩
 by_cases u:p=3
 ·right;subst u
  refine⟨r+3,[5,7],rfl,by simp,rfl,fun j i=> ?_⟩
  match j,i with
  |0,_=>exact D
  |1,_=>exact J
 by_cases v:p=5
 ·right;subst v;exact⟨r+4,[7],rfl,by simp,rfl,fun j i=>by simp at i;subst i;exact E⟩
 left
 simp[h1,h2,u,v]
theorem GB.look_nil {w r p} (h:GB w r) (j:Hid (M5 p= [])):
  (Instr.lookup 234 (.map (some r)) (I O p) false).run prog w= .ok (.slice none 0 0) w:=by
 rw[h.look]
 rcases h.list p with h1|⟨g,L,h1,h2,i,v⟩
 ·rw[h1.2]
 rw[j.out]at h1
 subst h1
 unfold NB
 have:=j.out
 unfold M5 at this
 by_cases h1:p=1
 ·simp[h1]at this
 by_cases h2:p=2
 ·simp[h2]at this
 by_cases i:p=3
 ·simp[i]at this
 by_cases u:p=5
 ·simp[u]at this
 simp[h1,h2,i,u]
theorem GB.look_some {w r p L} (h:GB w r) (i:Hid (M5 p=L)) (y:L≠ []):
  ∃g,(Instr.lookup 234 (.map (some r)) (I O p) false).run prog w= .ok (.slice (some ⟨g,0,none⟩) L.length L.length) w/\ ∀j (C:j<L.length),w.cell? ⟨g,j,none⟩=some (I O L[j]):=by
 rw[h.look]
 rcases h.list p with h1|⟨g,L',h1,h2,u,v⟩
 ·exact absurd (i.symm.trans h1.1) y
 obtain rfl:L'=L:=h1.symm.trans i
 exact⟨g,by rw[u],v⟩
theorem Tw p:(M5 p).length<=2:=by
 unfold M5
 repeat(split<;>try simp)
def BS (a0 p0 a p:Int):Int:=if N6 (M5 p0) p=false then 1 else if a<=a0 then 10 else if 1000000<a then 2 else 0
theorem Yb {a0 p0 a p} (h:N6 (M5 p0) p=false):BS a0 p0 a p=1:=by simp[BS,h]
theorem Ga {a0 p0 a p} (h:N6 (M5 p0) p=true) (h1:a<=a0):BS a0 p0 a p=10:=by simp[BS,h,h1]
theorem Lo {a0 p0 a p} (h:N6 (M5 p0) p=true) (h1:a0<a) (h2:1000000<a):BS a0 p0 a p=2:=by simp[BS,h,h2];omega
theorem Lp {a0 p0 a p} (h:N6 (M5 p0) p=true) (h1:a0<a) (h2:a<=1000000):BS a0 p0 a p=0:=by simp[BS,h];omega
theorem Qf6 b v len cap k a0 a p0 p (w:World) (hk:k+1<len) (b1:len<=20) (U:b<w.heap.size)
  (c0:w.cell? ⟨b,v+k*2,none⟩=some (I O a0)) (c1:w.cell? ⟨b,v+k*2+1,none⟩=some (I O p0))
  (c2:w.cell? ⟨b,v+ (k+1)*2,none⟩=some (I O a)) (c3:w.cell? ⟨b,v+ (k+1)*2+1,none⟩=some (I O p)):
  Calls prog 103 #[.slice (some ⟨b,v,none⟩) len cap,I O ((k:Int)+1)] w fun e w'=>e= .returned (I O (BS a0 p0 a p))/\Below w.heap.size w w':=by
 have z1:((k:Int)+1 ==0)=false:=by simp;omega
 have i1:IntKind.i64.wrap ((k:Int)+1-1)=(k:Int):=by rw[AW];omega
 have i4:IntKind.i64.wrap (k:Int)=(k:Int):=by rw[AW];omega
 have i2:(0:Int)<=(k:Int):=by omega
 have i3:(k:Int)< (len:Int):=by omega
 have i5:(k:Int)+1< (len:Int):=by omega
 rcases(show M5 p0= []\/M5 p0≠ []from by by_cases h:M5 p0= []<;>simp[h])with E|E
 ·have y:=Q0 (Yb (a0:=a0) (a:=a) (p:=p) (p0:=p0) (by rw[E];rfl))
  have HL:=Q0 E;clear E;go_enter func103,ntmps103
  go_wp2
  go_region_held3 (fun w'=>w'.cell? ⟨b,v+k*2+1,none⟩=some (I O p0)) (first|go_keep|(refine(N.cell ?_).trans c1;simpa using U))
   (first|(go_at_call 137;refine(Cq _).mono ?_;rintro e w1 ⟨rfl,hF,N⟩;have a5:(Instr.lookup 234 (.map (some w.heap.size)) (I O p0) false).run prog w1= .ok (.slice none 0 0) w1:=hF.look_nil HL))
  go_wp2;refine LF 1 ?_;rw[CN];go_wp2;go_ret;exact⟨by rw[y.out];rfl,(Q2 _ w).drew.trans N⟩
 obtain⟨L,a2⟩:=exq (M5 p0)
 have a8:L≠ []:=a2▸E
 have b2:L.length<=2:=a2▸Tw p0
 have HL:=Q0 a2
 clear a2 E
 go_enter func103,ntmps103
 go_wp2
 go_region_held3 (fun w'=>w'.cell? ⟨b,v+k*2+1,none⟩=some (I O p0)) (first|go_keep|(refine(N.cell ?_).trans c1;simpa using U))
  (first|(go_at_call 137;refine(Cq _).mono ?_;rintro e w1 ⟨rfl,hF,N⟩;obtain⟨g,a5,Z⟩:=hF.look_some HL a8;have a9:(Instr.lookup 234 (.map (some w.heap.size)) (I O p0) false).run prog w1= .ok (.slice (some ⟨g,0,none⟩) L.length L.length) w1:=a5;clear a5))
 go_wp2
 have D:Below w.heap.size w w1:=(Q2 _ w).drew.trans N
 have d2:w1.cell? ⟨b,v+ (k+1)*2,none⟩=some (I O a):=(D.cell U).trans c2
 have d3:w1.cell? ⟨b,v+ (k+1)*2+1,none⟩=some (I O p):=(D.cell U).trans c3
 have d0:w1.cell? ⟨b,v+k*2,none⟩=some (I O a0):=(D.cell U).trans c0
 clear a9 hF N c0 c1 c2 c3
 go_loop [5,24] (fun o i=> ∃j,j<=L.length/\i=I O j/\o= .bool (N6 (L.take j) p)) (fun _ i=>L.length- (RowKit.intOf i).toNat)
 case atStart=>exact⟨0,V5 _,rfl,rfl⟩
 obtain⟨j,hj,rfl,rfl⟩:=hrel
 by_cases a6:j<L.length
 ·have b0:=Z j a6
  have a1:=Qo6 L p j a6
  by_cases u:N6 (L.take j) p=true
  ·have J:=Q0 (show N6 (L.take (j+1)) p=true by rw[a1,u];rfl)
   rw[u];clear a1 u Z;go_wp2
   go_round
   case rel=>exact⟨j+1,by omega,by go_num,by rw[J.out]⟩
   simp[RowKit.intOf];omega
  have C:N6 (L.take j) p=false:=by simpa using u
  have J:=Q0 (show N6 (L.take (j+1)) p=(L[j] ==p) by rw[a1,C];rfl);rw[C];clear a1 u C Z
  by_cases he:L[j]=p
  ·have a3:(L[j] ==p)=true:=Z0 he
   have a4:=Q0 (show N6 (L.take (j+1)) p=true by rw[J.out,a3]);clear J he;go_wp2
   go_round
   case rel=>exact⟨j+1,by omega,by go_num,by rw[a4.out]⟩
   simp[RowKit.intOf];omega
  have a3:(L[j] ==p)=false:=X3 he;have a4:=Q0 (show N6 (L.take (j+1)) p=false by rw[J.out,a3]);clear J he;go_wp2
  go_round
  case rel=>exact⟨j+1,by omega,by go_num,by rw[a4.out]⟩
  simp[RowKit.intOf];omega
 have a7:N6 (L.take j) p=N6 (M5 p0) p:=by rw[HL.out,N7 (by omega)]
 rw[a7]
 clear a7 Z
 by_cases u:N6 (M5 p0) p=true
 ·rw[u]
  by_cases h1:a<=a0
  ·have y:=Q0 (Ga u h1)
   clear u;go_wp2;go_quiet (fail)
   go_wp2;go_ret;exact⟨by rw[y.out];rfl,U7 D _⟩
  by_cases h2:1000000<a
  ·have y:=Q0 (Lo (a0:=a0) u (by omega) h2)
   have f1:decide (a<=a0)=false:=Z1 h1;clear u;go_wp2;go_quiet (fail)
   go_wp2;go_ret;exact⟨by rw[y.out];rfl,U7 D _⟩
  have y:=Q0 (Lp (a0:=a0) (a:=a) u (by omega) (by omega));have f1:decide (a<=a0)=false:=Z1 h1;have f2:decide (1000000<a)=false:=Z1 h2;clear u;go_wp2;go_quiet (fail)
  go_wp2;go_ret;exact⟨by rw[y.out];rfl,U7 D _⟩
 have C:N6 (M5 p0) p=false:=by simpa using u
 have y:=Q0 (Yb (a0:=a0) (a:=a) C)
 rw[C]
 clear u C
 go_wp2
 go_ret
 exact⟨by rw[y.out];rfl,D⟩
def T4 (w:World) (A:Option Addr) (len _cap:Nat) (ps:List (Int×Int)):Prop:=
 ps.length=len/\(0<len-> ∃b off,A=some ⟨b,off,none⟩/\b<w.heap.size/\
  ∀i,i<len->w.cell? ⟨b,off+i*2,none⟩=some (I O (ps.getD i (0,0)).1)/\w.cell? ⟨b,off+i*2+1,none⟩=some (I O (ps.getD i (0,0)).2))
theorem T4.below {w w' A len cap B ps} (h:T4 w A len cap ps) (j:Below B w w') (J:w.heap.size<=B):T4 w' A len cap ps:=by
 refine⟨h.1,fun D=> ?_⟩
 obtain⟨b,y,C,E,v⟩:=h.2 D
 exact⟨b,y,C,by have:=j.size;omega,fun i u=>⟨(j.cell (p:=⟨b,_,none⟩) (by show b<B;omega)).trans (v i u).1,(j.cell (p:=⟨b,_,none⟩) (by show b<B;omega)).trans (v i u).2⟩⟩
theorem T4.at_ {w b off len cap ps} (h:T4 w (some ⟨b,off,none⟩) len cap ps) {i} (u:i<len):
  w.cell? ⟨b,off+i*2,none⟩=some (I O (ps.getD i (0,0)).1)/\w.cell? ⟨b,off+i*2+1,none⟩=some (I O (ps.getD i (0,0)).2):=by
 obtain⟨C,y,j,_,v⟩:=h.2 (by omega)
 cases j
 exact v i u
def AQ (ps:List (Int×Int)):List Value:=ps.flatMap fun p=> [I O p.1,I O p.2]
theorem Zw ps:(AQ ps).length=ps.length*2:=by
 induction ps with
 |nil=>rfl
 |cons p ps i=>simp[AQ]at i|-;omega
theorem Tc ps: ∀u∈AQ ps,u.oneCell'=true:=by
 intro u i
 obtain⟨p,_,h⟩:=FT.1 i
 simp at h
 rcases h with rfl|rfl<;>rfl
theorem Br ps: ∀i,i<ps.length->(AQ ps)[i*2]?=some (I O (ps.getD i (0,0)).1)/\(AQ ps)[i*2+1]?=some (I O (ps.getD i (0,0)).2):=by
 induction ps with
 |nil=>intro i j;simp at j
 |cons p ps u=>
  intro i j
  cases i with
  |zero=>simp[AQ]
  |succ k=>
   have h:=u k (by simpa using j);have v:(k+1)*2=k*2+1+1:=by omega
   simp only[AQ,List.flatMap_cons,List.cons_append,List.nil_append,v,List.getElem?_cons_succ,List.getD_cons_succ]at h|-;exact h
theorem T4.news {w b off len cap ps} (h:T4 w (some ⟨b,off,none⟩) len cap ps): ∀j u,(AQ ps)[j]?=some u->w.cell? ((⟨b,off,none⟩:Addr).add j)=some u:=by
 intro j u v
 have N:j<ps.length*2:=by
  rw[<-Zw];rcases ED j (AQ ps).length with h|h
  ·exact h
  rw[DV h]at v;cases v
 have hl:=h.1
 obtain⟨Z,U,C,_,D⟩:=h.2 (by omega)
 cases C
 have J:(⟨b,off,none⟩:Addr).add j=⟨b,off+j,none⟩:=by
  unfold Addr.add
  split
  ·rename_i h;subst h;rfl
  rfl
 rw[J]
 have i:=Br ps (j/2) (by omega)
 have y:=D (j/2) (by omega)
 rcases Nat.mod_two_eq_zero_or_one j with E|E
 ·have e:j/2*2=j:=by omega
  rw[e]at i y;rw[y.1,<-v,i.1]
 have e:j/2*2+1=j:=by omega
 rw[e]at i
 rw[show off+j=off+j/2*2+1 from by omega,y.2,<-v,i.2]
theorem T4.of_own {w base g n cap e ps} (h:w.ownsRow base e 2 (.slice (some ⟨g,0,none⟩) n cap) n (AQ ps)):T4 w (some ⟨g,0,none⟩) n cap ps:=by
 have D:ps.length=n:=by have:=h.1;rw[Zw]at this;omega
 refine⟨D,fun E=>⟨g,0,rfl,(h.lt g rfl).2,fun i J=> ?_⟩⟩
 have y:=Br ps i (by omega)
 have u:=h.cells (g:=g) rfl _ _ y.1
 have v:=h.cells (g:=g) rfl _ _ y.2
 have C: ∀j,(⟨g,0,none⟩:Addr).add j=⟨g,0+j,none⟩:=by
  intro j;unfold Addr.add
  split
  ·rename_i h;subst h;rfl
  rfl
 rw[C]at u v
 exact⟨u,by rw[<-v];congr 1⟩
def WS (rows:List (List Int)):List (Int×Int):=rows.map fun r=>(r.getD 0 0,r.getD 1 0)
theorem Td {w A len cap rows} (h:GH w 2 A len cap rows):T4 w A len cap (WS rows):=by
 obtain⟨h1,_,_,J,_,E⟩:=h
 refine⟨by simp[WS,h1],fun N=> ?_⟩
 obtain⟨b,j,D,C,v⟩:=E N
 refine⟨b,j,D,C,fun i hi=> ?_⟩
 have u:i<rows.length:=by omega
 have Z:=(J rows[i] (Y1 _)).1
 have e:(WS rows).getD i (0,0)=(rows[i].getD 0 0,rows[i].getD 1 0):=by
  simp[WS,List.getD_eq_getElem?_getD,u]
 rw[e]
 have U:=v i u 0 (by omega)
 have y:=v i u 1 (by omega)
 refine⟨?_, ?_⟩
 ·show w.cell? ⟨b,j+i*2,none⟩=_
  rw[show j+i*2=j+i*2+0 from rfl,U];simp[List.getD_eq_getElem?_getD,List.getElem?_eq_getElem (show 0<rows[i].length by omega)]
 rw[y]
 simp[List.getD_eq_getElem?_getD,List.getElem?_eq_getElem (show 1<rows[i].length by omega)]
def VY (p k:Int):Bool:=
 if p=1 then decide (k=1\/k=3\/k=4)
 else if p=2\/p=4\/p=5 then decide (k=1\/k=2\/k=3\/k=4)
 else if p=3 then decide (k=1\/k=2\/k=4)else false
def GC (p:Int):Bool:=decide (p=1\/p=2\/p=4\/p=5)
theorem five (p:Int):p=1\/p=2\/p=3\/p=4\/p=5\/(¬(p=1\/p=2\/p=3\/p=4\/p=5)):=by omega
theorem Rw (k:Int):k=1\/k=2\/k=3\/k=4\/(¬(k=1\/k=2\/k=3\/k=4)):=by omega
theorem Qo7 p k w:Calls prog 44 #[I O p,I O k] w fun e w'=>e= .returned (.bool (VY p k))/\w=w':=by
 rcases five p with rfl|rfl|rfl|rfl|rfl|hp
 case inr.inr.inr.inr.inr=>
  have i:VY p k=false:=by unfold VY;rw[Q3 (by omega),Q3 (by omega),Q3 (by omega)]
  have E:=X3 (a:=p) (b:=1) (by omega);have j:=X3 (a:=p) (b:=2) (by omega);have v:=X3 (a:=p) (b:=3) (by omega);have D:=X3 (a:=p) (b:=4) (by omega);have u:=X3 (a:=p) (b:=5) (by omega);rw[i];clear i hp;go_enter func44,ntmps44
  go_wp2;go_ret;exact⟨rfl,rfl⟩
 all_goals
  rcases Rw k with rfl|rfl|rfl|rfl|hk
  case inr.inr.inr.inr=>
   have y:=X3 (a:=k) (b:=1) (by omega);have J:=X3 (a:=k) (b:=2) (by omega);have N:=X3 (a:=k) (b:=3) (by omega);have C:=X3 (a:=k) (b:=4) (by omega);rw[show VY _ k=false by simp[VY];omega];clear hk;go_enter func44,ntmps44
   go_wp2;go_ret;exact⟨rfl,rfl⟩
  all_goals
   go_enter func44,ntmps44
   go_wp2;go_ret;exact⟨rfl,rfl⟩
theorem Tx p w:Calls prog 79 #[I O p] w fun e w'=>e= .returned (.bool (GC p))/\w=w':=by
 rcases five p with rfl|rfl|rfl|rfl|rfl|hp
 case inr.inr.inr.inr.inr=>
  have i:GC p=false:=by simp[GC];omega
  have y:=X3 (a:=p) (b:=1) (by omega);have j:=X3 (a:=p) (b:=2) (by omega);have v:=X3 (a:=p) (b:=4) (by omega);have u:=X3 (a:=p) (b:=5) (by omega);rw[i];clear i hp;go_enter func79,ntmps79
  go_wp2;go_ret;exact⟨rfl,rfl⟩
 all_goals
  go_enter func79,ntmps79
  go_wp2;go_ret;exact⟨rfl,rfl⟩
