/- Parts. -/
import Derived.Test.YtnlngicnfegjgaaGreatDoorZq10
set_option linter.unusedVariables false
set_option maxRecDepth 100000
set_option maxHeartbeats 8000000
open Go.Proofs.Tryz
open Go.Value renaming int→I,pointer→IP
open Go.IntKind renaming i64→O
namespace Go.Proofs.YtnlngicnfegjgaaGreatDoor
open Go.RowKit
def Jh2 (ps:List (Int×Int)) (w:World) (e:Ending) (w':World):Prop:=
 Below w.heap.size w w'/\ ∃f pl,e= .returned (.agg #[I O f,I O pl])/\SV ps f pl
theorem Xd {w g t a b} (h:Q1 w g t #[a,b]):w.cell? ⟨g,0,none⟩=some a/\w.cell? ⟨g,1,none⟩=some b:=⟨by rw[J0 h];rfl,by rw[J0 h];rfl⟩
theorem Xl {w a Q g cs} (hp:a.tmps.getD 2 undef= IP (some ⟨g,0,none⟩)) (j:a.defers= [])
  (i:Q1 w g 60 cs) (h2:cs.size=2) (h:Q (.returned (.agg cs)) w):bodyPost prog Tryz.f53 Q .ret a w:=
 P4 (PG Tryz.results53 a.tmps w g _ cs (0,0) _ hp i underlying60 rfl (by rw[h2];kernel_rfl)) j h
theorem Qg9 A len cap ps w (h:T4 w A len cap ps) (hm:len<=60):
  Calls prog 53 #[.slice A len cap] w (Jh2 ps w):=by
 have hl:=h.1
 have a6:Below w.heap.size w (w.alloc (.cells #[I O 0,I O 0] 60)):=(Q2 _ w).alloc (Q4 _) _
 by_cases h0:len=0
 ·subst h0
  have HA:=Q0 a6;clear a6;go_enter func53,ntmps53
  go_wp2_with fail
  refine(RQ _ _).mono ?_;rintro e w1 ⟨rfl,u⟩;have y:Q1 w1 w.heap.size 60 #[I O 0,I O 0]:=J4 (J9 w _ _) u;obtain⟨c0,c1⟩:=Xd y;have f0:=J1 y 0;have f1:=J1 y 1;go_wp2
  try simp only[Exit.inBlock,Exit.then]
  refine Xl (g:=w.heap.size) (cs:= #[I O 8,I O (-1)]) (by with_unfolding_all rfl) (by with_unfolding_all rfl) (J7 (J7 y 0 _) 1 _) rfl ?_;exact⟨((HA.trans (u.mono (by simp))).setCell (by simp) _).setCell (by simp) _,8,-1,rfl,.inl ⟨hl,rfl,rfl⟩⟩
 have z0:((len:Int) ==0)=false:=X3 (by omega)
 by_cases d5:20<len
 ·have d0:decide (20< (len:Int))=true:=Z5 (by omega)
  have HA:=Q0 a6;clear a6;go_enter func53,ntmps53
  go_wp2_with fail
  refine(RQ _ _).mono ?_;rintro e w1 ⟨rfl,u⟩;have y:Q1 w1 w.heap.size 60 #[I O 0,I O 0]:=J4 (J9 w _ _) u;obtain⟨c0,c1⟩:=Xd y;have f0:=J1 y 0;have f1:=J1 y 1;go_wp2
  try simp only[Exit.inBlock,Exit.then]
  refine Xl (g:=w.heap.size) (cs:= #[I O 4,I O (-1)]) (by with_unfolding_all rfl) (by with_unfolding_all rfl) (J7 (J7 y 0 _) 1 _) rfl ?_;exact⟨((HA.trans (u.mono (by simp))).setCell (by simp) _).setCell (by simp) _,4,-1,rfl,.inr (.inl ⟨by omega,rfl,rfl⟩)⟩
 have d0:decide (20< (len:Int))=false:=Z1 (by omega)
 obtain⟨b,c3,rfl,d3,c8⟩:=h.2 (by omega)
 clear c8
 have Hl:=Q0 hl
 clear hl
 go_enter func53,ntmps53
 go_wp2
 go_loopg [18] len (fun g i wx=> ∃k,k<=len/\g=len-k/\i=I O k/\Below w.heap.size w wx/\Q1 wx w.heap.size 60 #[I O 0,I O 0]/\ ∀j,j<k->ZJ ps j=0)
 case atStart=>exact⟨0,V5 _,rfl,rfl,a6,J9 _ _ _,fun j hj=>by omega⟩
 obtain⟨k,hk,rfl,rfl,u,y,c2⟩:=hrel
 have b1:=Q0 c2
 clear c2 a6
 have d2:=J5 y
 by_cases c7:k<len
 ·have d1:decide ((k:Int)< (len:Int))=true:=Z5 (by omega)
  have hP:=Q0 (h.below u (Q4 _));obtain⟨x0,x1⟩:=hP.at_ c7;obtain⟨ev,b8⟩:=exq (ZJ ps k);have a7:=Q0 b8;clear b8;have Hq:=Q0 (show((ps.getD k (0,0)).1,(ps.getD k (0,0)).2)=ps.getD k (0,0)from rfl);generalize(ps.getD k (0,0)).1=q at x0 Hq;generalize(ps.getD k (0,0)).2=x at x1 Hq;go_upto_if 24 with fail
  go_cut [5,6,7] (fun s5 s6 s7 wx=>s5=I O ev/\Q1 wx w.heap.size 60 #[I O 0,I O 0]/\Below w.heap.size w wx)
  case first=>
   by_cases a9:k=0
   ·have zk:((k:Int) ==0)=true:=Z0 (by omega)
    have N:Hid (ev=if(q,x)=(0,1)then 0 else 1):=Q0 (by rw[<-a7.out,a9,Hq.out,a9];rfl);clear a9
    by_cases Z:q=0
    ·by_cases hy:x=1
     ·obtain rfl:0=ev:=by rw[N.out,Q5 (by rw[Z,hy])]
      have c4:=JW Z;have c9:=JW hy;clear Z hy;go_wp2_with fail
      go_meet;exact⟨rfl,G7 y _,u.alloc u.size _⟩
     obtain rfl:1=ev:=by rw[N.out,Q3 (by simp[hy])]
     have c4:=JW Z;have c9:=JF hy;clear Z hy;go_wp2_with fail
     go_meet;exact⟨rfl,G7 y _,u.alloc u.size _⟩
    obtain rfl:1=ev:=by rw[N.out,Q3 (by simp[Z])]
    have c4:=JF Z;clear Z;go_wp2_with fail
    go_meet;exact⟨rfl,G7 y _,u.alloc u.size _⟩
   obtain⟨j,hj⟩: ∃j,k=j+1:=⟨k-1,by omega⟩;have zk:((k:Int) ==0)=false:=X3 (by omega);have i1:IntKind.i64.wrap ((k:Int)-1)=(j:Int):=by rw[AW];omega
   have i4:IntKind.i64.wrap (j:Int)=(j:Int):=by rw[AW];omega
   have i2:(0:Int)<=(j:Int):=by omega
   have i3:(j:Int)< (len:Int):=by omega
   obtain⟨y0,y1⟩:=hP.at_ (i:=j) (by omega);have N:Hid (ev=BS (ps.getD j (0,0)).1 (ps.getD j (0,0)).2 q x):=Q0 (by
    have e1:=E7 Prod.fst Hq;have e2:=E7 Prod.snd Hq;simp only at e1 e2;rw[<-a7.out,e1,e2,hj];rfl)
   generalize(ps.getD j (0,0)).1=a0 at y0 N;generalize(ps.getD j (0,0)).2=p0 at y1 N;replace y0:=(S4 wr (.cells #[I O q,I O x] 121) ⟨b,c3+j*2,none⟩ (by show b<_;have:=u.size;omega)).trans y0;replace y1:=(S4 wr (.cells #[I O q,I O x] 121) ⟨b,c3+j*2+1,none⟩ (by show b<_;have:=u.size;omega)).trans y1;clear a9;have Hj:=Q0 hj;clear hj;go_upto_region 13 with fail
   go_cut [7] (fun s7 wx=>s7= .bool (N6 (M5 p0) x)/\(wr.alloc (.cells #[I O q,I O x] 121))=wx)
   case first=>
    by_cases C:p0=1
    ·have g1:=Z0 C
     have n2:=X3 (show¬p0=2 by omega);have n3:=X3 (show¬p0=3 by omega);have n5:=X3 (show¬p0=5 by omega)
     by_cases v:x=2
     ·have h2:=Z0 v
      have E:=Q0 (show true=N6 (M5 p0) x by rw[C,v];rfl);clear C v;go_wp2_with fail
      go_meet;exact⟨E7 Value.bool E,rfl⟩
     have h2:=X3 v;have E:=Q0 (show false=N6 (M5 p0) x by rw[C];simp[N6,M5];omega);clear C v;go_wp2_with fail
     go_meet;exact⟨E7 Value.bool E,rfl⟩
    have n1:=X3 C
    by_cases D:p0=2
    ·have g1:=Z0 D
     have n3:=X3 (show¬p0=3 by omega);have n5:=X3 (show¬p0=5 by omega)
     by_cases v:x=3
     ·have h2:=Z0 v
      have E:=Q0 (show true=N6 (M5 p0) x by rw[D,v];rfl);clear C D v;go_wp2_with fail
      go_meet;exact⟨E7 Value.bool E,rfl⟩
     have h2:=X3 v;have E:=Q0 (show false=N6 (M5 p0) x by rw[D];simp[N6,M5];omega);clear C D v;go_wp2_with fail
     go_meet;exact⟨E7 Value.bool E,rfl⟩
    have n2:=X3 D
    by_cases J:p0=3
    ·have g1:=Z0 J
     have n5:=X3 (show¬p0=5 by omega)
     by_cases v:x=5
     ·have h2:=Z0 v
      have E:=Q0 (show true=N6 (M5 p0) x by rw[J,v];rfl);clear C D J v;go_wp2_with fail
      go_meet;exact⟨E7 Value.bool E,rfl⟩
     have h2:=X3 v
     by_cases b3:x=7
     ·have h3:=Z0 b3
      have E:=Q0 (show true=N6 (M5 p0) x by rw[J,b3];rfl);clear C D J v b3;go_wp2_with fail
      go_meet;exact⟨E7 Value.bool E,rfl⟩
     have h3:=X3 b3;have E:=Q0 (show false=N6 (M5 p0) x by rw[J];simp[N6,M5];omega);clear C D J v b3;go_wp2_with fail
     go_meet;exact⟨E7 Value.bool E,rfl⟩
    have n3:=X3 J
    by_cases U:p0=5
    ·have g1:=Z0 U
     by_cases v:x=7
     ·have h2:=Z0 v
      have E:=Q0 (show true=N6 (M5 p0) x by rw[U,v];rfl);clear C D J U v;go_wp2_with fail
      go_meet;exact⟨E7 Value.bool E,rfl⟩
     have h2:=X3 v;have E:=Q0 (show false=N6 (M5 p0) x by rw[U];simp[N6,M5];omega);clear C D J U v;go_wp2_with fail
     go_meet;exact⟨E7 Value.bool E,rfl⟩
    have n5:=X3 U;have E:=Q0 (show false=N6 (M5 p0) x by simp[N6,M5,C,D,J,U]);clear C D J U;go_wp2_with fail
    go_meet;exact⟨E7 Value.bool E,rfl⟩
   obtain⟨rfl,rfl⟩:=hcut
   cases a4:N6 (M5 p0) x
   ·obtain rfl:1=ev:=by rw[N.out,Yb a4]
    clear a4;go_wp2_with fail
    go_meet;exact⟨rfl,G7 y _,u.alloc u.size _⟩
   by_cases t1:q<=a0
   ·obtain rfl:10=ev:=by rw[N.out,Ga a4 t1]
    have c5:=Z5 t1;clear a4;go_wp2_with fail
    go_quiet (fail)
    go_wp2_with fail
    go_meet;exact⟨rfl,P9 (G7 y _) _,U7 (u.alloc u.size _) _⟩
   have c5:=Z1 t1
   by_cases t2:1000000<q
   ·obtain rfl:2=ev:=by rw[N.out,Lo a4 (by omega) t2]
    have c6:=Z5 t2;clear a4 t1;go_wp2_with fail
    go_quiet (fail)
    go_wp2_with fail
    go_meet;exact⟨rfl,P9 (G7 y _) _,U7 (u.alloc u.size _) _⟩
   obtain rfl:0=ev:=by rw[N.out,Lp a4 (by omega) (by omega)]
   have c6:=Z1 t2;clear a4 t1 t2;go_wp2_with fail
   go_quiet (fail)
   go_wp2_with fail
   go_meet;exact⟨rfl,P9 (G7 y _) _,U7 (u.alloc u.size _) _⟩
  obtain⟨rfl,a8,b5⟩:=hcut
  by_cases hz:ev=0
  ·obtain rfl:0=ev:=hz.symm
   go_wp2_with fail
   go_roundg (len- (k+1))
   case measure=>omega
   refine⟨k+1,by omega,rfl,by go_num,b5,a8,fun j hj=> ?_⟩;rcases MP (Nat.le_of_lt_succ hj)with h|h
   ·exact b1 j h
   rw[h];exact a7
  have d4:=JF hz;have Hz:=Q0 hz;clear hz;obtain⟨c0,c1⟩:=Xd a8;have f0:=J1 a8 0;have f1:=J1 a8 1;go_wp2
  try simp only[Exit.inBlock,Exit.then]
  refine Xl (g:=w.heap.size) (cs:= #[I O ev,I O k]) (by with_unfolding_all rfl) (by with_unfolding_all rfl) (J7 (J7 a8 0 _) 1 _) rfl ?_;exact⟨(b5.setCell (by simp) _).setCell (by simp) _,ev,k,rfl,.inr (.inr (.inl ⟨by have:=Hl.out;omega,by have:=Hl.out;omega,k,by have:=Hl.out;omega,b1.out,by rw[a7.out];exact Hz,a7.symm,rfl⟩))⟩
 obtain rfl:k=len:=by omega
 go_wp2_with fail
 refine(RQ _ _).mono ?_
 rintro e w1 ⟨rfl,b9⟩
 have b0:Q1 w1 w.heap.size 60 #[I O 0,I O 0]:=J4 y b9
 obtain⟨c0,c1⟩:=Xd b0
 have f0:=J1 b0 0
 have f1:=J1 b0 1
 go_wp2
 try simp only[Exit.inBlock,Exit.then]
 refine Xl (g:=w.heap.size) (cs:= #[I O 0,I O (-1)]) (by with_unfolding_all rfl) (by with_unfolding_all rfl) (J7 (J7 b0 0 _) 1 _) rfl ?_
 exact⟨((u.trans (b9.mono u.size)).setCell (by simp) _).setCell (by simp) _,0,-1,rfl,.inr (.inr (.inr ⟨by have:=Hl.out;omega,by have:=Hl.out;omega,fun j hj=>b1 j (by have:=Hl.out;omega),rfl,rfl⟩))⟩
def C2 (lv:List X4) (p:Int):Int×Int:=((lv.find? fun x=>x.1 ==p).map (·.2)).getD (0,0)
structure AC (lv:List X4):Prop where
 rank:ZB lv
 nz: ∀x∈lv,0<=x.2.1/\0<=x.2.2/\(x.2.1≠0\/x.2.2≠0)
 pr: ∀x∈lv,1<=x.1/\x.1<=1000000
theorem Xm {pre post x p} (h:p≠x.1):C2 (pre++x::post) p=C2 (pre++post) p:=by
 unfold C2
 rw[List.find?_append,List.find?_append,List.find?_cons_of_neg (by simp;exact fun e=>h e.symm)]
theorem Xz {lv p} (h: ∀x∈lv,x.1≠p):C2 lv p=(0,0):=by
 unfold C2
 rw[EY.2 (fun x i=>by simpa using h x i)]
 rfl
theorem RX {pre post x} (h:ZB (pre++x::post)):(∀y∈pre,y.1<x.1)/\(∀y∈post,x.1<y.1)/\ZB (pre++post):=by
 unfold ZB at*
 rw[AR,LY]at h
 obtain⟨h1,⟨h2,j⟩,i⟩:=h
 refine⟨fun y hy=>i y hy x (by simp),h2, ?_⟩
 rw[AR]
 exact⟨h1,j,fun a u b v=>i a u b (by simp[v])⟩
theorem Mb {pre post x} (h:ZB (pre++post)) (h1: ∀y∈pre,y.1<x.1) (h2: ∀y∈post,x.1<y.1):ZB (pre++x::post):=by
 unfold ZB at*
 rw[AR]at h
 rw[AR,LY]
 refine⟨h.1,⟨h2,h.2.1⟩,fun a j b i=> ?_⟩
 rcases D4.1 i with rfl|i
 ·exact h1 a j
 exact h.2.2 a j b i
theorem Yg {pre post x} (h:ZB (pre++x::post)):C2 (pre++x::post) x.1=x.2:=by
 obtain⟨h1,-,-⟩:=RX h
 unfold C2
 rw[List.find?_append,EY.2 (fun y hy=>by have:=h1 y hy;simp;omega),List.find?_cons_of_pos (by simp)]
 rfl
theorem Qz9 {pre post x} (h:ZB (pre++x::post)):C2 (pre++post) x.1=(0,0):=by
 obtain⟨h1,h2,-⟩:=RX h
 refine Xz fun y hy=> ?_
 rcases Y7.1 hy with hy|hy
 ·have:=h1 y hy;omega
 have:=h2 y hy;omega
theorem Qb4 {lv:List X4} {p k} (hk:k<=lv.length) (h1: ∀i (j:i<lv.length),i<k->QA lv[i].1 p<0) (h2: ∀i (j:i<lv.length),k<=i->0<=QA lv[i].1 p):
  lv=lv.take k++lv.drop k/\(∀y∈lv.take k,y.1<p)/\(∀y∈lv.drop k,p<=y.1):=by
 refine⟨(P2 k lv).symm,fun y hy=> ?_,fun y hy=> ?_⟩
 ·obtain⟨i,j,rfl⟩:=XG.1 hy
  rw[T6]at j;rw[LB];have:=h1 i (by omega) (by omega);unfold QA at this;omega
 obtain⟨i,j,rfl⟩:=XG.1 hy
 rw[KK]at j
 rw[TD]
 have:=h2 (k+i) (by omega) (by omega)
 unfold QA at this
 omega
structure XQ (w:World) (X:Nat) (t:TypeId) (cs:Array Value) (o:Nat) (A:Option Addr) (c:Nat) (lv:List X4) (bu se:Int):Prop where
 blk:Q1 w X t cs
 c0:cs[o]?=some (.slice A lv.length c)
 c1:cs[o+1]?=some (I O bu)
 c2:cs[o+2]?=some (I O se)
 row:J2 w A lv.length c 252 3 (Q9 X8 lv)
 na:Q7 A≠some X
 ok:AC lv
def ZD (w w':World) (X:Nat) (t:TypeId) (cs:Array Value) (o:Nat) (A:Option Addr) (lv':List X4) (bu' se':Int):Prop:=
 ∃cs' A' c',XQ w' X t cs' o A' c' lv' bu' se'/\cs'.size=cs.size/\(∀i,i≠o->i≠o+1->i≠o+2->cs'[i]?=cs[i]?)/\Q6 (fun i=>i=X\/Q7 A=some i) w w'/\ ∀g,Q7 A'=some g->Q7 A=some g\/w.heap.size<=g
section
variable {w w':World} {X:Nat} {t:TypeId} {cs:Array Value} {o:Nat} {A:Option Addr} {c:Nat} {lv:List X4} {bu se:Int}
theorem XQ.cells (h:XQ w X t cs o A c lv bu se):w.cell? ⟨X,o,none⟩=some (.slice A lv.length c)/\w.cell? ⟨X,o+1,none⟩=some (I O bu)/\w.cell? ⟨X,o+2,none⟩=some (I O se):=
 ⟨by rw[J0 h.blk];exact h.c0,by rw[J0 h.blk];exact h.c1,by rw[J0 h.blk];exact h.c2⟩
theorem XQ.keeps {S} (h:XQ w X t cs o A c lv bu se) (hk:Q6 S w w') (h1: ¬S X) (h2: ∀g,Q7 A=some g-> ¬S g):XQ w' X t cs o A c lv bu se:=
 ⟨X0 h.blk hk h1,h.c0,h.c1,h.c2,h.row.keeps hk h2,h.na,h.ok⟩
theorem XQ.below (h:XQ w X t cs o A c lv bu se) (i:Below w.heap.size w w'):XQ w' X t cs o A c lv bu se:=h.keeps (U1 i (fun _=>False)) id (fun _ _=>id)
theorem ZD.same (h:XQ w X t cs o A c lv bu se) (i:Below w.heap.size w w'):ZD w w' X t cs o A lv bu se:=
 ⟨cs,A,c,h.below i,rfl,fun _ _ _ _=>rfl,U1 i _,fun g j=> .inl j⟩
theorem ZD.then_ {w'' lv' bu' se'} (h:ZD w w' X t cs o A lv' bu' se') (i:Below w'.heap.size w' w''):ZD w w'' X t cs o A lv' bu' se':=by
 obtain⟨y,A',c',h1,h2,j,u,v⟩:=h
 exact⟨y,A',c',h1.below i,h2,j,u.then_ i,v⟩
theorem XQ.market (h:XQ w X t cs o A c lv bu se) (E:Below w.heap.size w w') bu' se' j v (y:(j=1/\bu'=v/\se'=se)\/(j=2/\bu'=bu/\se'=v)):
  ZD w (w'.setCell ⟨X,o+j,none⟩ (I O v)) X t cs o A lv bu' se':=by
 have J: ∀i,(∃u,cs[i]?=some u)->i<cs.size:=fun i ⟨u,U⟩=>(PU.1 U).1
 have Z:=J _ ⟨_,h.c1⟩
 have N:=J _ ⟨_,h.c2⟩
 have D:=h.below E
 have hk:=V2 w' ⟨X,o+j,none⟩ (I O v)
 refine⟨cs.setIfInBounds (o+j) (I O v),A,c,⟨J7 D.blk (o+j) _, ?_, ?_, ?_,D.row.keeps hk (fun g C e=>h.na (by rw[C];exact E7 some e)),h.na,h.ok⟩,by simp,fun i h1 h2 h3=> ?_,(U1 E _).trans hk (fun i e=> .inl (.inl e)),fun g C=> .inl C⟩
 ·rw[UB (by rcases y with⟨rfl,_⟩|⟨rfl,_⟩<;>omega)];exact h.c0
 ·rcases y with⟨rfl,rfl,rfl⟩|⟨rfl,rfl,rfl⟩
  ·rw[SS Z]
  rw[UB (by omega)];exact h.c1
 ·rcases y with⟨rfl,rfl,rfl⟩|⟨rfl,rfl,rfl⟩
  ·rw[UB (by omega)];exact h.c2
  rw[SS N]
 rw[UB (by rcases y with⟨rfl,_⟩|⟨rfl,_⟩<;>omega)]
end
def dB (o:Q8):Int:=if o.side=1 then o.qty else 0
def dS (o:Q8):Int:=if o.side=1 then 0 else o.qty
def UN (o:Q8):Prop:=(o.side=1\/o.side=2)/\(1<=o.qty/\o.qty<=1000000)/\(o.kind=2\/(1<=o.price/\o.price<=1000000))
structure FY (lv:List X4) (bu se:Int):Prop where
 b:0<=bu/\bu<=1000000000000000
 s:0<=se/\se<=1000000000000000
 l: ∀x∈lv,x.2.1<=1000000000000000/\x.2.2<=1000000000000000
 n:lv.length<=99999
theorem Gk {lv k} (hk:k<lv.length) y (h:y.1=lv[k].1):((Q9 X8 lv).set (k*3+1) (I O y.2.1)).set (k*3+2) (I O y.2.2)=Q9 X8 (lv.set k y):=by
 have i:(Q9 X8 lv)[k*3+0]?=some (I O y.1):=by rw[h];exact EM E6 lv k hk 0 (by omega)
 refine Eq.trans ?_ (NY E6 y lv k hk)
 show _=(((Q9 X8 lv).set (k*3) (I O y.1)).set (k*3+1) (I O y.2.1)).set (k*3+2) (I O y.2.2)
 have u:(Q9 X8 lv).set (k*3) (I O y.1)=Q9 X8 lv:=by
  apply Jb;intro j
  by_cases e:k*3=j
  ·subst e
   have v:=(TQ.1 i).1;rw[Qt (by simpa using v)];exact i.symm
  rw[ZH e]
 rw[u]
theorem Qh0 {lv k} (hk:k<lv.length) v:(Q9 X8 lv).set (k*3+1) (I O v)=Q9 X8 (lv.set k (lv[k].1,v,lv[k].2.2)):=by
 rw[<-Gk hk (lv[k].1,v,lv[k].2.2) rfl]
 dsimp only
 have h2:(Q9 X8 lv)[k*3+2]?=some (I O lv[k].2.2):=EM E6 lv k hk 2 (by omega)
 apply Jb
 intro j
 by_cases e:k*3+2=j
 ·subst e
  have i:=(TQ.1 h2).1;rw[Qt (by simpa using i),ZH (by omega)];exact h2
 rw[ZH e]
theorem Qh1 {lv k} (hk:k<lv.length) v:(Q9 X8 lv).set (k*3+2) (I O v)=Q9 X8 (lv.set k (lv[k].1,lv[k].2.1,v)):=by
 rw[<-Gk hk (lv[k].1,lv[k].2.1,v) rfl]
 dsimp only
 have h2:(Q9 X8 lv)[k*3+1]?=some (I O lv[k].2.1):=EM E6 lv k hk 1 (by omega)
 congr 1
 apply Jb
 intro j
 by_cases e:k*3+1=j
 ·subst e
  have i:=(TQ.1 h2).1;rw[Qt (by simpa using i)];exact h2
 rw[ZH e]
theorem WE {w g n c lv} (h:J2 w (some ⟨g,0,none⟩) n c 252 3 (Q9 X8 lv)) {k} (hk:k<lv.length):
  w.cell? ⟨g,k*3,none⟩=some (I O lv[k].1)/\w.cell? ⟨g,k*3+1,none⟩=some (I O lv[k].2.1)/\w.cell? ⟨g,k*3+2,none⟩=some (I O lv[k].2.2):=by
 obtain⟨u,j,i⟩:=h.elem E6 (by omega) hk
 cases j
 exact⟨i 0 _ rfl,i 1 _ rfl,i 2 _ rfl⟩
structure ZS (w wx:World) (X:Nat) (t:TypeId) (cs:Array Value) (o:Nat) (A:Option Addr) (lv:List X4) (bu se:Int) (p:Int) (k:Nat) (cs1:Array Value) (A1:Option Addr) (c1:Nat) (lv1:List X4) (b s:Int):Prop where
 blk:Q1 wx X t cs1
 c0:cs1[o]?=some (.slice A1 lv1.length c1)
 c1_:cs1[o+1]?=some (I O bu)
 c2:cs1[o+2]?=some (I O se)
 size:cs1.size=cs.size
 rest: ∀i,i≠o->i≠o+1->i≠o+2->cs1[i]?=cs[i]?
 row:J2 wx A1 lv1.length c1 252 3 (Q9 X8 lv1)
 na:Q7 A1≠some X
 kk:lv1[k]?=some (p,b,s)
 rank:ZB lv1
 old: ∀x∈lv1,x.1≠p->x∈lv
 same: ∀p',p'≠p->C2 lv1 p'=C2 lv p'
 len:lv1.length<=lv.length+1
 keep:Q6 (fun i=>i=X\/Q7 A=some i) w wx
 fresh: ∀g,Q7 A1=some g->Q7 A=some g\/w.heap.size<=g
section
variable {w w' wx:World} {X:Nat} {t:TypeId} {cs:Array Value} {o:Nat} {A:Option Addr} {c:Nat} {lv:List X4} {bu se p:Int} {k:Nat}
theorem ZS.found (h:XQ w X t cs o A c lv bu se) (j:Below w.heap.size w wx) (hk:k<lv.length) (hp:lv[k].1=p):ZS w wx X t cs o A lv bu se p k cs A c lv lv[k].2.1 lv[k].2.2/\C2 lv p=(lv[k].2.1,lv[k].2.2):=by
 have i:=h.below j
 have e:lv=lv.take k++lv[k]::lv.drop (k+1):=by rw[<-UC hk,P2]
 refine⟨⟨i.blk,h.c0,h.c1,h.c2,rfl,fun _ _ _ _=>rfl,i.row,h.na, ?_,h.ok.rank,fun x u _=>u,fun _ _=>rfl,Nat.le_succ _,U1 j _,fun g v=> .inl v⟩, ?_⟩
 ·rw[KP hk,<-hp]
 have h1:=Yg (pre:=lv.take k) (post:=lv.drop (k+1)) (x:=lv[k]) (by rw[<-e];exact h.ok.rank)
 rw[<-e,hp]at h1
 exact h1
theorem ZS.new_ {w3 A1 c1} (h:XQ w X t cs o A c lv bu se) (v:Below w.heap.size w wx) (hk:k<=lv.length) (h1: ∀i (D:i<lv.length),i<k->QA lv[i].1 p<0) (h2: ∀i (D:i<lv.length),k<=i->0<=QA lv[i].1 p) (hn: ∀x∈lv,x.1≠p)
  (D:Qd wx w3 A A1 (lv.length+1) c1 (lv.take k++(p,0,0)::lv.drop k)):
  ZS w (w3.setCell ⟨X,o,none⟩ (.slice A1 (lv.length+1) c1)) X t cs o A lv bu se p k (cs.setIfInBounds o (.slice A1 (lv.length+1) c1)) A1 c1 (lv.take k++(p,0,0)::lv.drop k) 0 0/\C2 lv p=(0,0):=by
 obtain⟨hr,U,N⟩:=D
 have h':=h.below v
 have a4:=J5 h.blk
 have so:o<cs.size:=(PU.1 h.c0).1
 have a3:Q1 w3 X t cs:=X0 h'.blk U (fun e=>h.na e)
 have Z:Q7 A1≠some X:=fun e=>by
  rcases N X e with j|j
  ·exact h.na j
  have:=v.size;omega
 have E:(lv.take k++(p,0,0)::lv.drop k).length=lv.length+1:=by simp;omega
 have J:=V2 w3 ⟨X,o,none⟩ (.slice A1 (lv.length+1) c1)
 obtain⟨e0,e1,e2⟩:=Qb4 hk h1 h2
 have a0:ZB (lv.take k++(p,0,0)::lv.drop k):=Mb (by rw[<-e0];exact h.ok.rank) e1 (fun y hy=>by
  have j:=e2 y hy;have h4:=hn y (YJ hy);omega)
 refine⟨⟨J7 a3 o _, ?_, ?_, ?_,by simp,fun i j h4 h5=> ?_, ?_,Z, ?_,a0,fun x u a1=> ?_,fun p' a2=> ?_,by rw[E];exact Q4 _, ?_,fun g C=> ?_⟩,Xz hn⟩
 ·rw[SS so,E]
 ·rw[UB (by omega)];exact h.c1
 ·rw[UB (by omega)];exact h.c2
 ·rw[UB (by omega)]
 ·rw[E]
  exact hr.keeps J (fun g C e=>Z (by rw[C];exact E7 some e))
 ·have hl:(lv.take k).length=k:=by rw[T6];omega
  rw[SW (by omega),hl,Nat.sub_self]
  rfl
 ·rcases Y7.1 u with u|u
  ·exact AT u
  rcases D4.1 u with rfl|u
  ·exact absurd rfl a1
  exact YJ u
 ·rw[Xm (x:=(p,0,0)) a2,<-e0]
 ·exact((U1 v _).trans U (fun i e=> .inl (.inr e))).trans J (fun i e=> .inl (.inl e))
 rcases N g C with j|j
 ·exact .inl j
 exact .inr (G0 v.size j)
theorem FY.lot (j:FY lv bu se) (hk:AC lv) p:(0<=(C2 lv p).1/\(C2 lv p).1<=1000000000000000)/\(0<=(C2 lv p).2/\(C2 lv p).2<=1000000000000000):=by
 unfold C2
 cases u:lv.find? (fun x=>x.1 ==p)with
 |none=>exact⟨⟨P8 0,by decide⟩,⟨P8 0,by decide⟩⟩
 |some x=>
  have i:=FP u;have h1:=hk.nz x i;have h2:=j.l x i;exact⟨⟨h1.1,h2.1⟩,⟨h1.2.1,h2.2⟩⟩
theorem ZS.parts {cs1 A1 c1 lv1 b s} (h:ZS w wx X t cs o A lv bu se p k cs1 A1 c1 lv1 b s): ∃(hk:k<lv1.length),lv1[k]=(p,b,s)/\lv1=lv1.take k++(p,b,s)::lv1.drop (k+1):=by
 obtain⟨hk,e⟩:=TQ.1 h.kk
 exact⟨hk,e,by rw[<-e,<-UC hk,P2]⟩
theorem ZS.put {cs1 g c1 lv1 b s b' s'} (h:ZS w wx X t cs o A lv bu se p k cs1 (some ⟨g,0,none⟩) c1 lv1 b s) j v (hj:(j=1/\b'=v/\s'=s)\/(j=2/\b'=b/\s'=v)):
  ZS w (wx.setCell ⟨g,k*3+j,none⟩ (I O v)) X t cs o A lv bu se p k cs1 (some ⟨g,0,none⟩) c1 (lv1.set k (p,b',s')) b' s':=by
 obtain⟨hk,Z,N⟩:=h.parts
 have a0:X≠g:=fun e=>h.na (by rw[e];rfl)
 have D:=V2 wx ⟨g,k*3+j,none⟩ (I O v)
 have E:lv1.set k (p,b',s')=lv1.take k++(p,b',s')::lv1.drop (k+1):=by
  rw[List.set_eq_take_append_cons_drop,Q5 hk]
 have U:=h.rank
 rw[N]at U
 obtain⟨r1,r2,r3⟩:=RX U
 have u:=h.row.set (k*3+j) (I O v)
 refine⟨X0 h.blk D a0,by rw[QN];exact h.c0,h.c1_,h.c2,h.size,h.rest, ?_,h.na,by rw[Qt hk],by rw[E];exact Mb r3 r1 r2,fun x y J=> ?_,fun p' C=> ?_,by rw[QN];exact h.len,h.keep.trans D (fun i e=> ?_),h.fresh⟩
 ·rw[QN]
  rcases hj with⟨rfl,rfl,rfl⟩|⟨rfl,rfl,rfl⟩
  ·rw[Qh0 hk,Z]at u;exact u
  rw[Qh1 hk,Z]at u;exact u
 ·rcases LV y with y|rfl
  ·exact h.old x y J
  exact absurd rfl J
 ·rw[E,Xm (x:=(p,b',s')) C,<-Xm (x:=(p,b,s)) C,<-N]
  exact h.same p' C
 have e:i=g:=e
 subst e
 exact(h.fresh i rfl).imp .inr id
theorem ZS.ok {cs1 A1 c1 lv1 b s} (h:ZS w wx X t cs o A lv bu se p k cs1 A1 c1 lv1 b s) (hk:AC lv) {x} (i:x∈lv1) (j:x.1≠p):(0<=x.2.1/\0<=x.2.2/\(x.2.1≠0\/x.2.2≠0))/\(1<=x.1/\x.1<=1000000):=
 ⟨hk.nz x (h.old x i j),hk.pr x (h.old x i j)⟩
theorem ZS.done {cs1 A1 c1 lv1 b s} (h:ZS w wx X t cs o A lv bu se p k cs1 A1 c1 lv1 b s) (hk:AC lv) (hp:1<=p/\p<=1000000) (C:0<=b) (D:0<=s) (E: ¬(b=0/\s=0)):
  ∃lv',ZD w wx X t cs o A lv' bu se/\lv'.length<=lv.length+1/\ ∀p',C2 lv' p'=if p'=p then(b,s)else C2 lv p':=by
 obtain⟨J,N,j⟩:=h.parts
 refine⟨lv1,⟨cs1,A1,c1,⟨h.blk,h.c0,h.c1_,h.c2,h.row,h.na,⟨h.rank,fun x i=> ?_,fun x i=> ?_⟩⟩,h.size,h.rest,h.keep,h.fresh⟩,h.len,fun p'=> ?_⟩
 ·by_cases e:x.1=p
  ·have u:=h.rank
   rw[j]at u i;obtain⟨y,v,-⟩:=RX u;rcases Y7.1 i with i|i
   ·have h1:x.1<p:=y x i;omega
   rcases D4.1 i with rfl|i
   ·exact⟨C,D,by dsimp only;omega⟩
   have h1:p<x.1:=v x i;omega
  exact(h.ok hk i e).1
 ·by_cases e:x.1=p
  ·rw[e];exact hp
  exact(h.ok hk i e).2
 by_cases e:p'=p
 ·rw[Q5 e,e,j]
  exact Yg (x:=(p,b,s)) (by rw[<-j];exact h.rank)
 rw[Q3 e]
 exact h.same p' e
theorem ZS.del {w3 cs1 g c1 m lv1} (h:ZS w wx X t cs o A lv bu se p k cs1 (some ⟨g,0,none⟩) c1 lv1 0 0) (hk:AC lv) (E:Below wx.heap.size wx w') (hm:lv1.length=m+1)
  (hr:J2 w3 (some ⟨g,0,none⟩) m c1 252 3 (Q9 X8 (lv1.take k++lv1.drop (k+1)))) (D:Q6 (fun x=>x=g) w' w3):
  ∃lv',ZD w (w3.setCell ⟨X,o,none⟩ (.slice (some ⟨g,0,none⟩) m c1)) X t cs o A lv' bu se/\lv'.length<=lv.length+1/\ ∀p',C2 lv' p'=if p'=p then(0,0)else C2 lv p':=by
 obtain⟨a0,a1,N⟩:=h.parts
 have C:X≠g:=fun e=>h.na (by rw[e];rfl)
 have so:o<cs1.size:=(PU.1 h.c0).1
 have y:(lv1.take k++lv1.drop (k+1)).length=m:=by simp;omega
 have J:=V2 w3 ⟨X,o,none⟩ (.slice (some ⟨g,0,none⟩) m c1)
 have U:Q1 w3 X t cs1:=X0 (J4 h.blk E) D C
 have v:=h.rank
 rw[N]at v
 obtain⟨Z,r2,r3⟩:=RX v
 have u: ∀x∈lv1.take k++lv1.drop (k+1),x∈lv1/\x.1≠p:=fun x j=>by
  rcases Y7.1 j with j|j
  ·have h1:x.1<p:=Z x j
   exact⟨AT j,by omega⟩
  have h1:p<x.1:=r2 x j;exact⟨YJ j,by omega⟩
 refine⟨_,⟨cs1.setIfInBounds o (.slice (some ⟨g,0,none⟩) m c1),some ⟨g,0,none⟩,c1,⟨J7 U o _, ?_, ?_, ?_, ?_,h.na,⟨r3,fun x j=>(h.ok hk (u x j).1 (u x j).2).1,fun x j=>(h.ok hk (u x j).1 (u x j).2).2⟩⟩,by simp[h.size],fun i h1 h2 h3=> ?_, ?_,h.fresh⟩,by rw[y];have:=h.len;omega,fun p'=> ?_⟩
 ·rw[SS so,y]
 ·rw[UB (by omega)];exact h.c1_
 ·rw[UB (by omega)];exact h.c2
 ·rw[y]
  exact hr.keeps J (fun g' hg e=>C (by cases hg;exact e.symm))
 ·rw[UB (by omega)];exact h.rest i h1 h2 h3
 ·refine((h.keep.trans (U1 E (fun _=>False)) (fun _ e=>e.elim)).trans D (fun i e=> ?_)).trans J (fun i e=> .inl (.inl e))
  have e:i=g:=e;subst e;exact(h.fresh i rfl).imp .inr id
 by_cases e:p'=p
 ·rw[Q5 e,e]
  exact Qz9 (x:=(p,0,0)) v
 rw[Q3 e,<-Xm (x:=(p,0,0)) e,<-N]
 exact h.same p' e
end
def WT (ps:List (Int×Int)) (now:Int) (k:Nat):Prop:=
 k<ps.length/\(∀j,0<j->j<=k->(ps.getD j (0,0)).1<=now)/\(k+1<ps.length->now< (ps.getD (k+1) (0,0)).1)
def GR (ps:List (Int×Int)) (k:Nat):Int×Int:=((ps.getD k (0,0)).2,if k+1<ps.length then(ps.getD (k+1) (0,0)).1 else -1)
theorem Ep {ps:List (Int×Int)} {now:Int} {k:Nat} (hk:k=0\/(ps.getD k (0,0)).1<=now): ∀m,k<m->m<=ps.length->(∀j,k<j->j<m->now< (ps.getD j (0,0)).1)->phAt ps now m=GR ps k
 |0,h,_,_=>absurd h (by omega)
 |m+1,h,hm,hall=>by
  by_cases he:m=k
  ·subst he
   unfold phAt GR;rw[Q5 (by rcases hk with h|h;exact .inr h;exact .inl h)]
  have h1:=hall m (by omega) (by omega);rw[Nj (by omega) (by omega)];exact Ep hk m (by omega) (by omega) fun j h2 h3=>hall j h2 (by omega)
theorem WT.phAt {ps now k} (h:WT ps now k) (v:KD ps):phAt ps now ps.length=GR ps k:=by
 obtain⟨h1,h2,i⟩:=h
 refine Ep ?_ ps.length h1 (Q4 _) fun j C D=> ?_
 ·by_cases y:k=0
  ·exact .inl y
  exact .inr (h2 k (by omega) (Q4 _))
 have u:=i (by omega)
 rcases MP (show k+1<=j from C)with h|h
 ·have:=v.sorted (k+1) (j- (k+1)-1) (by omega)
  have e:k+1+ (j- (k+1)-1)+1=j:=by omega
  rw[e]at this;omega
 rw[<-h];exact u
theorem Qh2 A len cap ps now w (h:T4 w A len cap ps) (h0:0<len) (hm:len<=60):
  Calls prog 70 #[.slice A len cap,I O now] w fun e w'=> ∃k,WT ps now k/\e= .returned (.tuple #[I O (GR ps k).1,I O (GR ps k).2])/\Below w.heap.size w w':=by
 obtain⟨b,a5,rfl,a4,a1⟩:=h.2 (by omega)
 clear a1
 have y:=Q0 h.1
 go_enter func70,ntmps70
 go_wp2
 go_loopg [6] len (fun g i wx=> ∃k,k<len/\g=len-k/\i=I O k/\w=wx/\ ∀j,0<j->j<=k->(ps.getD j (0,0)).1<=now)
 case atStart=>exact⟨0,h0,rfl,rfl,rfl,fun j h1 h2=>by omega⟩
 obtain⟨k,hk,rfl,rfl,rfl,N⟩:=hrel
 have D:=Q0 N
 clear N
 obtain⟨x0,Z⟩:=h.at_ hk
 have i1:IntKind.i64.wrap ((k:Int)+1)=(k:Int)+1:=by rw[AW];omega
 by_cases a0:k+1<len
 ·obtain⟨J,y1⟩:=h.at_ a0
  have d1:decide ((k:Int)+1< (len:Int))=true:=Z5 (by omega);have i2:(k:Int)+1< (len:Int):=by omega
  have i3:(0:Int)<=(k:Int)+1:=by omega
  by_cases v:(ps.getD (k+1) (0,0)).1<=now
  ·have C:=Z5 v
   have a2:=Q0 v;generalize(ps.getD (k+1) (0,0)).1=a at J C;clear v;go_wp2
   go_roundg (len- (k+1))
   case measure=>omega
   refine⟨k+1,a0,rfl,by go_num,rfl,fun j h1 h2=> ?_⟩;rcases MP h2 with U|U
   ·exact D j h1 (by omega)
   rw[U];exact a2
  have C:=Z1 v;have E:=Q0 (show WT ps now k from⟨by have:=y.out;omega,D,fun _=>by omega⟩);have u:=Q0 (show GR ps k=((ps.getD k (0,0)).2,(ps.getD (k+1) (0,0)).1) by unfold GR;rw[Q5 (by have:=y.out;omega)]);generalize(ps.getD (k+1) (0,0)).1=a at J C u;generalize(ps.getD k (0,0)).2=x at Z u;clear v;go_wp2_with fail
  go_quiet (fail)
  go_wp2;go_ret2;refine⟨k,E,by rw[u.out];with_unfolding_all rfl,U7 (Q2 _ w) _⟩
 have d1:decide ((k:Int)+1< (len:Int))=false:=Z1 (by omega)
 have E:=Q0 (show WT ps now k from⟨by have:=y.out;omega,D,fun h=>by have:=y.out;omega⟩)
 have u:=Q0 (show GR ps k=((ps.getD k (0,0)).2,-1) by unfold GR;rw[Q3 (by have:=y.out;omega)])
 have a3: ¬(k:Int)+1< (len:Int):=by omega
 generalize(ps.getD k (0,0)).2=x at Z u
 go_wp2
 go_ret2
 exact⟨k,E,by rw[u.out];with_unfolding_all rfl,Q2 _ _⟩
