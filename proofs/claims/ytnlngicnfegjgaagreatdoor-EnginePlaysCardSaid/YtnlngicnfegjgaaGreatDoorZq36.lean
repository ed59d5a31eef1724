/- Parts. -/
import Derived.Test.YtnlngicnfegjgaaGreatDoorZq35
set_option linter.unusedVariables false
set_option maxRecDepth 100000
set_option maxHeartbeats 8000000
open Go.Proofs.Tryz
open Go.Value renaming int→I,pointer→IP
open Go.IntKind renaming i64→O
namespace Go.Proofs.YtnlngicnfegjgaaGreatDoor
open Go.RowKit
section
variable {m:X7}
theorem Ub m o:(M6 m o).L1.length+ (M6 m o).L2.length<=m.L1.length+m.L2.length+1:=by
 show(FA 1 m.L1 m.L2 m.L1 o).length+ (FA 2 m.L1 m.L2 m.L2 o).length<=_
 unfold FA KQ
 split
 ·by_cases h1:o.side=1
  ·rw[Q5 h1,Q3 (by omega),Cy];omega
  rw[Q3 h1]
  split
  ·rw[Cy];omega
  omega
 omega
theorem Ca: ∀(l:List Q8) (m:X7),(L3 m l).L1.length+ (L3 m l).L2.length<=m.L1.length+m.L2.length+l.length
 | [],m=>by simp[L3]
 |o::l,m=>by
  have h1:=Ca l (M6 m o);have h2:=Ub m o;have e:L3 m (o::l)=L3 (M6 m o) l:=rfl;rw[e,XX];omega
theorem LH: ∀(l:List Q8) (m:X7),(L3 m l).rows=m.rows/\(L3 m l).st=m.st/\(L3 m l).dy=m.dy/\(L3 m l).tk=m.tk/\(L3 m l).mo=m.mo/\(L3 m l).an=m.an/\(L3 m l).la=m.la/\(L3 m l).pk=m.pk/\(L3 m l).ids=m.ids/\(L3 m l).ph=m.ph/\(L3 m l).now=m.now/\(L3 m l).ends=m.ends/\(L3 m l).lng=m.lng
 | [],m=>⟨rfl,rfl,rfl,rfl,rfl,rfl,rfl,rfl,rfl,rfl,rfl,rfl,rfl⟩
 |o::l,m=>LH l (M6 m o)
theorem Cp: ∀(L:List Q8) (a:Int),(V9 L a).length<=L.length
 | [],a=>by simp[V9]
 |o::t,a=>by
  unfold V9
  split
  ·exact Q4 _
  split
  ·have:=Cp t (a-o.qty)
   rw[XX];omega
  simp
theorem Ds m L:(BL m L).length<=L.length:=by
 unfold BL
 refine G0 (FR _ _) ?_
 split
 ·exact Cp _ _
 exact Q4 _
theorem Ww x n:(ZF x n).length<=1:=by unfold ZF;split<;>simp
theorem Vh {σ:Type} (al:σ->Int->Bool) (tr:σ->Int->σ): ∀(L:List Q8) (o:Q8) (s:σ),(V7 al tr L o s).rest.length<=L.length
 | [],o,s=>by simp[V7]
 |x::t,o,s=>by
  unfold V7
  split
  ·exact Q4 _
  split
  ·have:=Vh al tr t o s
   simp only[List.length_cons];omega
  split
  ·exact Q4 _
  split
  ·exact Q4 _
  have h1:=Vh al tr t (B6 o (min o.qty x.qty)) (tr s x.price);have h2:=Ww x (min o.qty x.qty);simp only[List.length_append,List.length_cons];omega
theorem Vo (al:Int->Int->Bool): ∀(L:List Q8) (o:Q8) (s:Int),(∀x∈L,1<=x.price/\x.price<=1000000)->1<=s/\s<=1000000->1<=(V7 al (fun _ p=>p) L o s).st/\(V7 al (fun _ p=>p) L o s).st<=1000000
 | [],o,s,_,h=>by simpa [V7]using h
 |x::t,o,s,hL,h=>by
  have ht: ∀y∈t,1<=y.price/\y.price<=1000000:=fun y hy=>hL y (EU _ hy)
  unfold V7
  split
  ·exact h
  split
  ·exact Vo al t o s ht h
  split
  ·exact h
  split
  ·exact h
  exact Vo al t _ _ ht (hL x PE)
theorem Dt L k:(S3 L k).length<=L.length:=by
 unfold S3
 rw[Y9,T6,KK]
 omega
theorem My {L k o} (h:o∈S3 L k):o∈L:=by
 unfold S3 at h
 rcases Y7.1 h with h|h
 ·exact AT h
 exact YJ h
theorem B9.unc (h:B9 m) (i:B8 (KJ m).L1 (KJ m).L2):B9 (KJ m):=by
 have hp: ∀p,1<=p/\p<=1000000->1<=P0 m p/\P0 m p<=1000000:=fun p hp=>by
  unfold P0
  split
  ·rename_i j
   have:=RC h.ls h.la j;exact⟨this.2.2.1,this.2.2.2⟩
  exact hp
 refine⟨h.tab,h.st,h.dy,h.tk,h.mo,hp _ h.an,hp _ h.la,i,h.pk, ?_,h.lng⟩
 have h1:=Ds m m.L1
 have h2:=Ds m m.L2
 have:=h.cnt
 show(BL m m.L1).length+ (BL m m.L2).length+m.pk.length<=100
 omega
theorem B9.close (h:B9 m) (N:B8 (ZR m).L1 (ZR m).L2):B9 (ZR m):=by
 obtain⟨j,J,D,C,y,E,i,U,e9,a1,a0,Z,v⟩:=LH m.pk {m with ph:=5}
 refine⟨?_, ?_, ?_, ?_, ?_, ?_, ?_,N,fun o u=>(by cases u), ?_, ?_⟩
 ·show KD (L3 {m with ph:=5} m.pk).rows;rw[j];exact h.tab
 ·show 0<=(L3 {m with ph:=5} m.pk).st/\(L3 {m with ph:=5} m.pk).st<=10000;rw[J];exact h.st
 ·show 0<=(L3 {m with ph:=5} m.pk).dy/\(L3 {m with ph:=5} m.pk).dy<=10000;rw[D];exact h.dy
 ·show 1<=(L3 {m with ph:=5} m.pk).tk/\(L3 {m with ph:=5} m.pk).tk<=1000000;rw[C];exact h.tk
 ·show 0<=(L3 {m with ph:=5} m.pk).mo/\(L3 {m with ph:=5} m.pk).mo<=10;rw[y];exact h.mo
 ·show 1<=(L3 {m with ph:=5} m.pk).an/\(L3 {m with ph:=5} m.pk).an<=1000000;rw[E];exact h.an
 ·show 1<=(L3 {m with ph:=5} m.pk).la/\(L3 {m with ph:=5} m.pk).la<=1000000;rw[i];exact h.la
 ·have h1:=Ca m.pk {m with ph:=5}
  have h2:=h.cnt;show(L3 {m with ph:=5} m.pk).L1.length+ (L3 {m with ph:=5} m.pk).L2.length+0<=100;have e:(({m with ph:=5}:X7).L1.length+ ({m with ph:=5}:X7).L2.length)=m.L1.length+m.L2.length:=rfl;omega
 show 0<=(L3 {m with ph:=5} m.pk).lng/\(L3 {m with ph:=5} m.pk).lng<=10;rw[v];exact h.lng
theorem B9.setPh (h:B9 m) p:B9 {m with ph:=p}:=⟨h.tab,h.st,h.dy,h.tk,h.mo,h.an,h.la,h.ls,h.pk,h.cnt,h.lng⟩
theorem B9.vol (h:B9 m):B9 (VX m):=⟨h.tab,h.st,h.dy,h.tk,h.mo,h.an,h.la,h.ls,h.pk,h.cnt,⟨by show(0:Int)<=0;omega,by show(0:Int)<=10;omega⟩⟩
theorem B9.next (h:B9 m):B9 (K0 m):=⟨h.tab,h.st,h.dy,h.tk,h.mo,h.an,h.la,h.ls,h.pk,h.cnt,h.lng⟩
theorem B9.over (h:B9 m):B9 (YF m):=⟨h.tab,h.st,h.dy,h.tk,h.mo,h.an,h.la,⟨MW,by simp[YF],fun o i=>(by cases i),fun o i=>(by cases i),fun o i=>(by cases i)⟩,fun o i=>(by cases i),by simp[YF],h.lng⟩
theorem B9.halt (h:B9 m):B9 (XY m):=by
 unfold XY
 split
 ·exact h
 exact h.setPh 6
theorem B9.open_ (h:B9 m) (i:B8 (QR m).L1 (QR m).L2):B9 (QR m):=by
 unfold QR at i|-
 by_cases v:m.ph=6
 ·rw[Q5 v]at i|-
  by_cases j:C8 m m.now=3
  ·rw[Q5 j];exact h.vol
  rw[Q3 j]at i|-
  by_cases u:C8 m m.now=5
  ·rw[Q5 u]at i|-;exact h.close i
  rw[Q3 u];exact h.setPh _
 rw[Q3 v];exact h
theorem B9.enter (h:B9 m) p (i:B8 (JZ m p).L1 (JZ m p).L2):B9 (JZ m p):=by
 unfold JZ at i|-
 by_cases j:p=3
 ·rw[Q5 j]at i|-;exact(h.unc i).setPh 3
 rw[Q3 j]at i|-
 by_cases u:p=5
 ·rw[Q5 u]at i|-;exact h.close i
 rw[Q3 u];exact h.setPh _
theorem B9.settle (h:B9 m) (i:B8 (QU m).L1 (QU m).L2):B9 (QU m):=by
 unfold QU at i|-
 by_cases j:BE m
 ·rw[Q5 j]at i|-;exact(h.unc i).setPh 3
 rw[Q3 j]at i|-
 by_cases u:m.lng<m.mo
 ·rw[Q5 u]
  exact⟨h.tab,h.st,h.dy,h.tk,h.mo,h.an,h.la,h.ls,h.pk,h.cnt,⟨by have:=h.lng;show 0<=m.lng+1;omega,by have:=h.mo;show m.lng+1<=10;omega⟩⟩
 rw[Q3 u];exact h.setPh _
theorem B9.tick (h:B9 m) (j:B8 (N5 m).L1 (N5 m).L2):B9 (N5 m):=by
 unfold N5 at j|-
 by_cases y:m.ph=7
 ·rw[Q5 y];exact h
 rw[Q3 y]at j|-
 have i:=h.next
 unfold W7 at j|-
 by_cases C:C8 (K0 m) (K0 m).now=7
 ·rw[Q5 C]
  by_cases E:(K0 m).ph=5
  ·rw[Q5 E]
   exact⟨h.tab,h.st,h.dy,h.tk,h.mo,by
    have: ∀p,1<=p/\p<=1000000->1<=P0 (K0 m) p/\P0 (K0 m) p<=1000000:=fun p hp=>by
     unfold P0
     split
     ·rename_i v
      have:=RC i.ls i.la v;exact⟨this.2.2.1,this.2.2.2⟩
     exact hp
    exact this _ i.an,by
    have: ∀p,1<=p/\p<=1000000->1<=P0 (K0 m) p/\P0 (K0 m) p<=1000000:=fun p hp=>by
     unfold P0
     split
     ·rename_i v
      have:=RC i.ls i.la v;exact⟨this.2.2.1,this.2.2.2⟩
     exact hp
    exact this _ i.la,⟨MW,by simp[YF],fun o u=>(by cases u),fun o u=>(by cases u),fun o u=>(by cases u)⟩,fun o u=>(by cases u),by simp[YF],h.lng⟩
  rw[Q3 E];exact i.over
 rw[Q3 C]at j|-
 by_cases J:(K0 m).ph=6
 ·rw[Q5 J];exact i
 rw[Q3 J]at j|-
 by_cases D:C8 m m.now≠C8 (K0 m) (K0 m).now
 ·rw[Q5 D]at j|-;exact i.enter _ j
 rw[Q3 D]at j|-
 by_cases N:(K0 m).ph=4/\(K0 m).ends<=(K0 m).now
 ·rw[Q5 N]at j|-;exact i.settle j
 rw[Q3 N];exact i
theorem B9.cancel (h:B9 m) id (i:B8 (N4 m id).L1 (N4 m id).L2):B9 (N4 m id):=by
 unfold N4 at i|-
 by_cases j:m.ph=7
 ·rw[Q5 j];exact h
 rw[Q3 j]at i|-
 by_cases hk:CZ m id=true
 ·rw[Q5 hk]at i|-
  refine⟨h.tab,h.st,h.dy,h.tk,h.mo,h.an,h.la,h.ls,fun o u=>h.pk o (My u), ?_,h.lng⟩;have h1:=Dt m.pk (m.pk.findIdx fun o=>o.id ==id);have:=h.cnt;show m.L1.length+m.L2.length+ (S3 m.pk (m.pk.findIdx fun o=>o.id ==id)).length<=100;omega
 rw[Q3 hk]at i|-
 refine⟨h.tab,h.st,h.dy,h.tk,h.mo,h.an,h.la,i,h.pk, ?_,h.lng⟩
 have h1:(D1 m.L1 id).length<=m.L1.length:=FR _ _
 have h2:(D1 m.L2 id).length<=m.L2.length:=FR _ _
 have:=h.cnt
 show(D1 m.L1 id).length+ (D1 m.L2 id).length+m.pk.length<=100
 omega
theorem Du {o} (h:QJ m o=0):FH o=false/\JH o=true/\VY m.ph o.kind=true/\o.id∉m.ids/\m.L1.length+m.L2.length+m.pk.length<100:=by
 unfold QJ at h
 by_cases h1:FH o=true
 ·rw[Q5 h1]at h;cases h
 rw[Q3 h1]at h
 by_cases h2:JH o=false
 ·rw[Q5 h2]at h;cases h
 rw[Q3 h2]at h
 by_cases i:VY m.ph o.kind=false
 ·rw[Q5 i]at h;cases h
 rw[Q3 i]at h
 by_cases j:o.id∈m.ids
 ·rw[Q5 j]at h;cases h
 rw[Q3 j]at h
 by_cases u:100<=m.L1.length+m.L2.length+m.pk.length
 ·rw[Q5 u]at h;cases h
 exact⟨by simpa using h1,by simpa using h2,by simpa using i,j,by omega⟩
theorem Lc {o} (j:R9 o) (u:FH o=false) (v:JH o=true):JJ (V3 o)/\Z4 (V3 o).side/\1<=o.kind/\o.kind<=4:=by
 have y: ¬(o.side≠1/\o.side≠2\/o.kind<1\/4<o.kind\/o.id<1):=by
  unfold FH at u;exact of_decide_eq_false u
 have i:=DF.1 v
 refine⟨⟨⟨j.1,j.2.1,j.2.2.1, ?_,j.2.2.2.2⟩,by show 1<=o.id;omega,⟨i.1,i.2.1⟩,i.2.2⟩, ?_,by omega,by omega⟩
 ·have:=i.1
  have:=i.2.1;unfold G8;omega
 show o.side=1\/o.side=2
 omega
theorem B9.order (h:B9 m) {o} (hf:R9 o) (i:B8 (N9 m o).L1 (N9 m o).L2):B9 (N9 m o):=by
 unfold N9 at i|-
 by_cases C:QJ m o=0
 ·rw[Q5 C]at i|-
  obtain⟨h1,h2,h3,h4,h5⟩:=Du C;obtain⟨p1,E,p3,p4⟩:=Lc hf h1 h2;unfold ZM at i|-
  by_cases hp:(V3 o).kind=4/\(Y6 m (V3 o)).ph≠5
  ·rw[Q5 hp]
   refine⟨h.tab,h.st,h.dy,h.tk,h.mo,h.an,h.la,h.ls,fun x j=> ?_, ?_,h.lng⟩
   ·rcases Y7.1 j with j|j
    ·exact h.pk x j
    rw[VK]at j;subst j;exact⟨p1,E⟩
   show m.L1.length+m.L2.length+ (m.pk++ [V3 o]).length<=100;rw[Y9,YL];omega
  rw[Q3 hp]at i|-;have b0:=Ub (Y6 m (V3 o)) (V3 o)
  by_cases D:(Y6 m (V3 o)).ph≠3
  ·rw[Q5 D]at i|-
   refine⟨h.tab,h.st,h.dy,h.tk,h.mo,h.an,h.la,i,h.pk, ?_,h.lng⟩;show(M6 (Y6 m (V3 o)) (V3 o)).L1.length+ (M6 (Y6 m (V3 o)) (V3 o)).L2.length+m.pk.length<=100;have e:(Y6 m (V3 o)).L1.length+ (Y6 m (V3 o)).L2.length=m.L1.length+m.L2.length:=rfl;omega
  rw[Q3 D]at i|-;obtain⟨M,y⟩:=exq (Y6 m (V3 o));have u:B9 M:=by rw[<-y];exact⟨h.tab,h.st,h.dy,h.tk,h.mo,h.an,h.la,h.ls,h.pk,h.cnt,h.lng⟩
  have c7:M.L1.length+M.L2.length+M.pk.length<100:=by rw[<-y];exact h5
  rw[y]at i|-;clear y D hp b0;obtain⟨q,hq⟩:=exq (V3 o);rw[hq]at i p1 E|-;have c0: ∀x∈X6 (3-q.side) M.L1 M.L2,1<=x.price/\x.price<=1000000:=fun x j=>by
   have:x∈M.L1++M.L2:=by
    unfold X6 at j
    split at j
    ·exact S9 _ j
    exact QB _ j
   exact(u.ls.ok x this).2.2.1
  have c5:=Vo (fun la p=>ZK M.st M.dy M.an la p) (X6 (3-q.side) M.L1 M.L2) q M.la c0 u.la;have c4:=Vh (fun la p=>ZK M.st M.dy M.an la p) (fun _ p=>p) (X6 (3-q.side) M.L1 M.L2) q M.la;have c1:(XU M q).L1.length+ (XU M q).L2.length<=M.L1.length+M.L2.length:=by
   show(if q.side=1 then M.L1 else(D9 M q).rest).length+ (if q.side=1 then(D9 M q).rest else M.L2).length<=_;have J:(D9 M q).rest.length<=(X6 (3-q.side) M.L1 M.L2).length:=c4;unfold X6 at J
   by_cases v:q.side=1
   ·rw[Q5 v,Q5 v]
    rw[Q3 (by omega)]at J;omega
   rw[Q3 v,Q3 v];have c8:q.side=2:=E.resolve_left v;rw[Q5 (by omega)]at J;omega
  have Z:(C5 M q).L1.length+ (C5 M q).L2.length<=M.L1.length+M.L2.length+1:=by
   unfold C5
   split
   ·have:=Ub (XU M q) (D9 M q).left
    omega
   omega
  have hk: ∀ {K},K.rows=M.rows->K.st=M.st->K.dy=M.dy->K.tk=M.tk->K.mo=M.mo->K.an=M.an->K.la=(D9 M q).st->K.pk=M.pk->0<=K.lng/\K.lng<=10->B8 K.L1 K.L2->K.L1.length+K.L2.length<=M.L1.length+M.L2.length+1->B9 K:=by
   intro K a1 a2 a3 a4 a5 a6 a7 N a9 c3 c6;refine⟨a1▸u.tab,a2▸u.st,a3▸u.dy,a4▸u.tk,a5▸u.mo,a6▸u.an,a7▸c5,c3,N▸u.pk, ?_,a9⟩;rw[N];omega
  have m2:(C5 M q).rows=M.rows/\(C5 M q).st=M.st/\(C5 M q).dy=M.dy/\(C5 M q).tk=M.tk/\(C5 M q).mo=M.mo/\(C5 M q).an=M.an/\(C5 M q).la=(D9 M q).st/\(C5 M q).pk=M.pk/\(C5 M q).lng=M.lng:=by
   unfold C5
   split<;>exact⟨rfl,rfl,rfl,rfl,rfl,rfl,rfl,rfl,rfl⟩
  obtain⟨b1,U,b3,b4,b5,b6,b7,b8,b9⟩:=m2;unfold M3 at i|-
  by_cases a0:(D9 M q).stop=true
  ·rw[Q5 a0]at i|-
   exact hk b1 U b3 b4 b5 b6 b7 b8 ⟨by show(0:Int)<=0;omega,by show(0:Int)<=10;omega⟩ i Z
  rw[Q3 a0]at i|-;exact hk b1 U b3 b4 b5 b6 b7 b8 (b9▸u.lng) i Z
 rw[Q3 C];exact h
end
theorem C3.lists {w e F m} (h:C3 w e F m):B8 m.L1 m.L2:=by
 obtain⟨cs,tb,bb,bk,im,T,tc,Al,lc,lv,bu,se,Ap,pc,es,mc,G,own,i,j⟩:=h
 exact i.book.lists
structure KX (w:World) (own:Nat->Nat->Prop) (A:Option Addr) (n c:Nat) (t:TypeId) (sz:Nat) (xs:List Value):Prop where
 row:J2 w A n c t sz xs
 far: ∀g,Q7 A=some g-> ∀k,¬own g k
theorem KX.step {w w' own own' A n c sz t xs} (h:KX w own A n c t sz xs) (j:Z8 w w' own own'):KX w' own' A n c t sz xs:=
 ⟨h.row.keeps j.1 (fun g i ⟨k,hk⟩=>h.far g i k hk),fun g i k hk=>by
  rcases j.2 g k hk with e|e
  ·exact h.far g i k e
  have:=h.row.lt i;omega⟩
theorem KX.new_ {w w' own A n c sz t xs} (h:J2 w' A n c t sz xs) (i:FC w own) (j: ∀g,Q7 A=some g->w.heap.size<=g):KX w' own A n c t sz xs:=
 ⟨h,fun g u k hk=>by have:=i.lt g k hk;have:=j g u;omega⟩
theorem KX.below {w w' own A n c sz t xs} (h:KX w own A n c t sz xs) (i:Below w.heap.size w w'):KX w' own A n c t sz xs:=⟨h.row.below i,h.far⟩
theorem KX.nil w own t sz:KX w own none 0 0 t sz []:=⟨JX _ _ _ _,fun g i=>by simp[Q7]at i⟩
def SC (w w':World) (e tb bb bk im:Nat) (T:Option Addr) (tc:Nat) (Ap:Option Addr) (pc:Nat) (es:List MapEntry) (mc:Nat) (own:Nat->Nat->Prop) (Af:Option Addr) (cf:Nat) (F:List B5) (B2:Nat) (AL:Option Addr) (n cl:Nat) (l:List Q8) (m:X7) (Y:List Q8):Prop:=
 ∃cs Al lc lv bu se G own',V1 w' e cs tb bb bk im T tc Al lc lv bu se Ap pc es mc G own' (fun s k=>Y2 s k Y) m/\Z8 w w' own own'/\KX w' own' Af F.length cf 89 4 (Q9 D8 F)/\(Q1 w' B2 3 #[.int .i64 1,.int .i64 2]/\ ∀k,¬own' B2 k)/\KX w' own' AL n cl 29 5 (Q9 X9 l)
theorem NE {w w' own own' B2 t us} (h:Q1 w B2 t us/\ ∀k,¬own B2 k) (i:Z8 w w' own own'):Q1 w' B2 t us/\ ∀k,¬own' B2 k:=
 ⟨X0 h.1 i.1 (fun⟨k,hk⟩=>h.2 k hk),fun k hk=>by
  rcases i.2 B2 k hk with e|e
  ·exact h.2 k e
  have:=J5 h.1;omega⟩
theorem Ld {w g t a b} (h:Q1 w g t #[a,b]):w.cell? ⟨g,0,none⟩=some a/\w.cell? ⟨g,1,none⟩=some b:=⟨by rw[J0 h];rfl,by rw[J0 h];rfl⟩
theorem Le {Y x} s k:Y2 s k (Y++ [x])=Y2 s k Y+if x.side=s/\S0 x=k then 1*x.qty else 0:=by
 rw[GU]
 unfold Y2
 simp
structure Ku (K1 K2 Y:List Q8):Prop where
 right:Kp Y
 few:Y.length<=100
theorem WM l:(D3 l).length<=l.length:=FR _ _
theorem Ql9 {K1 K2} (h:B8 K1 K2) k:Ku K1 K2 (D3 (K1.take k)):=by
 have j:=h.cnt
 rw[Y9]at j
 refine⟨fun o i=>BR h o (S9 _ (AT (WL i))), ?_⟩
 have h1:=WM (K1.take k)
 rw[T6]at h1
 omega
theorem Qm0 {K1 K2} (h:B8 K1 K2) k:Ku K1 K2 (D3 K1++D3 (K2.take k)):=by
 have j:=h.cnt
 rw[Y9]at j
 refine⟨fun o i=> ?_, ?_⟩
 ·rcases Y7.1 i with i|i
  ·exact BR h o (S9 _ (WL i))
  exact BR h o (QB _ (AT (WL i)))
 have h1:=WM (K2.take k)
 have h2:=WM K1
 rw[T6]at h1
 rw[Y9]
 omega
theorem Ku.small {K1 K2 Y} (h:Ku K1 K2 Y) {lv bu se} (hk:AC lv) (i:ZE lv bu se (fun s k=>Y2 s k Y)):FY lv bu se:=by
 have h2:=h.few
 exact(i.mild hk (fun s k=>by
  have:=RZ (s:=s) (k:=k) h.right;omega) (by have:=i.few hk;omega)).small
theorem Z7 {w w' p v} (h:w.cell? p=some v) (i:Below w.heap.size w w'):w'.cell? p=some v:=(i.cell (V6 _ _ h)).trans h
theorem NA {w g a b c} (h:Q1 w g 83 #[I O a,I O b,I O c]):w.cell? ⟨g,0,none⟩=some (I O a)/\w.cell? ⟨g,1,none⟩=some (I O b)/\w.cell? ⟨g,2,none⟩=some (I O c):=
 ⟨by rw[J0 h];rfl,by rw[J0 h];rfl,by rw[J0 h];rfl⟩
theorem Jr {w e F m} (h:C3 w e F m) (u2:1<=m.la/\m.la<=1000000):
  Calls prog 38 #[IP (some ⟨e,0,none⟩)] w fun ev w'=> ∃A c Fs,ev= .returned (.slice A (List.length Fs) c)/\QW m Fs/\J2 w' A Fs.length c 89 4 (Q9 D8 Fs)/\(∀g,Q7 A=some g->w.heap.size<=g)/\ ∃F',C3 w' e F' (KJ m)/\Z3 w w' F F'/\ ∀g,Q7 A=some g-> ¬F' g:=by
 obtain⟨cs,tb,bb,bk,im,T,tc,Al,lc,lv,bu,se,Ap,pc,es,mc,G,own,hM,hF⟩:=h
 have t4:=RC (m:=m) hM.book.lists u2
 have c7:=hM.cell hM.ec.c7
 have HM:=Q0 hM
 have HF:=Q0 hF
 have o5:=Q0 t4
 obtain⟨⟨t0,u,t2⟩,ht⟩: ∃q,P5 m=q:=⟨_,rfl⟩
 have HT:=Q0 ht
 have g0:=fun W hW=>Uw hM u2 W hW
 rw[ht]at g0
 unfold QX at g0
 dsimp only at g0
 have HW:=Q0 g0
 clear hM hF t4 g0 ht
 go_enter func38,ntmps38
 go_upto_region 2 with fail
 go_cut [4] (fun s4 wx=> ∃g,s4= IP (some ⟨g,0,none⟩)/\Q1 wx g 83 #[I O t0,I O u,I O t2]/\Below w.heap.size w wx/\w.heap.size<=g)
 case first=>
  have s7:=Q0 HM.bands;have a9:Below w.heap.size w w.drew:=J3 (Q2 _ _);refine XF (fun t=> [10].contains t) (fun W=>W.cell? ⟨e,7,none⟩=some (IP (some ⟨bb,0,none⟩))) (by kernel_rfl) (show w.drew.cell? ⟨e,7,none⟩=some (IP (some ⟨bb,0,none⟩))from c7) (fun a2=> ?_);obtain⟨w0,r0⟩:=exq w.drew;rw[r0]at a9 a2|-;clear r0;refine tM 0 (IP (some ⟨e,0,none⟩)) ?_;refine tM 1 (IP (some ⟨e,0,none⟩)) ?_;refine tM 2 (IP (some ⟨e,9,none⟩)) ?_;refine tM 3 (IP (some ⟨e,0,none⟩)) ?_;refine tM 4 (IP (some ⟨e,0,none⟩)) ?_;refine tM 5 (IP (some ⟨e,7,none⟩)) ?_;refine tM 6 (IP (some ⟨bb,0,none⟩)) ?_;refine UK (i:=7) (j:=9) (by kernel_rfl) ?_ ?_
  ·skip
   refine L9 7 rfl (fun K1 b8=> ?_);go_simp
   go_at_call 78
   refine(RG bb m.st m.dy m.an m.la _ (J4 s7 a9)).mono ?_;rintro ev wx ⟨rfl,rfl⟩;refine b8 _ _ (fun _=>a2) ?_;clear b8;refine UK (i:=8) (j:=9) (by kernel_rfl) ?_ ?_
   ·skip
    refine L9 8 rfl (fun K2 b2=> ?_);go_simp
    go_at_call 80
    refine(HW _ a9).mono ?_;rintro ev w2 ⟨rfl,n9⟩;have m7:=a9.trans (n9.mono a9.size);have r2:=Z7 a2 n9;refine b2 _ _ (fun _=>r2) ?_;clear b2;refine oM 9 fun K3 t6=> ?_
    go_simp;have f4:Below w2.heap.size w2 (w2.alloc (.cells #[I O 0,I O 0,I O 0] 83)):=(Q2 _ _).alloc (Q4 _) _;have j8:=J9 w2 83 #[I O 0,I O 0,I O 0];have l1:w.heap.size<=w2.heap.size:=m7.size;obtain⟨g3,o3⟩:=exq w2.heap.size;obtain⟨w3,p1⟩:=exq (w2.alloc (.cells #[I O 0,I O 0,I O 0] 83));rw[p1]at f4 j8|-;have s1:=m7.trans (f4.mono m7.size);have b9:=Z7 r2 f4;rw[o3]at j8 l1|-;clear p1 o3;refine t6 _ _ (fun _=>b9) ?_;clear t6;refine oM 10 fun K4 s9=> ?_
    refine(Q5 (by rfl)).mpr ?_;refine M9 83 _ _ rfl (g3) #[I O t0,I O u,I O t2] rfl rfl 83 #[I O 0,I O 0,I O 0] j8 (by show(prog.info? 83).map (·.size)=some 3;kernel_rfl) rfl (by simp[Value.oneCell']) ?_;have s5:=D6 _ _ _ #[I O t0,I O u,I O t2] _ j8;have j5:=B7 w3 (g3) #[I O t0,I O u,I O t2];obtain⟨w4,n7⟩:=exq (w3.setRow (g3) #[I O t0,I O u,I O t2]);rw[n7]at s5 j5|-;clear n7;refine s9 _ _ (fun e=>absurd e (by decide)) ?_;clear s9;have m6:=s1.trans (j5.below (fun i e=>e▸l1) s1.size);simp only[Act.put];refine D5 (by kernel_rfl) ?_ _;go_wp2_with fail
    go_meet;exact⟨_,rfl,s5,m6,l1⟩
   skip
   refine L9 9 rfl (fun K5 u1=> ?_);go_simp;have m8:Below w0.heap.size w0 (w0.alloc (.cells #[I O 0,I O 0,I O 0] 83)):=(Q2 _ _).alloc (Q4 _) _;have k8:=J9 w0 83 #[I O 0,I O 0,I O 0];have n4:w.heap.size<=w0.heap.size:=a9.size;obtain⟨g5,p4⟩:=exq w0.heap.size;obtain⟨w5,q4⟩:=exq (w0.alloc (.cells #[I O 0,I O 0,I O 0] 83));rw[q4]at m8 k8|-;have k5:=a9.trans (m8.mono a9.size);have p6:=Z7 a2 m8;rw[p4]at k8 n4|-;clear q4 p4;refine u1 _ _ (fun _=>p6) ?_;clear u1;refine oM 8 fun K6 p2=> ?_
   go_simp
   go_at_call 80
   refine(HW _ k5).mono ?_;rintro ev w6 ⟨rfl,m4⟩;have q3:=k5.trans (m4.mono k5.size);have x4:=Z7 p6 m4;refine p2 _ _ (fun _=>x4) ?_;clear p2;have o8:=J4 k8 m4;refine oM 10 fun K7 q8=> ?_
   refine(Q5 (by rfl)).mpr ?_;refine M9 83 _ _ rfl (g5) #[I O t0,I O u,I O t2] rfl rfl 83 #[I O 0,I O 0,I O 0] o8 (by show(prog.info? 83).map (·.size)=some 3;kernel_rfl) rfl (by simp[Value.oneCell']) ?_;have r8:=D6 _ _ _ #[I O t0,I O u,I O t2] _ o8;have j6:=B7 w6 (g5) #[I O t0,I O u,I O t2];obtain⟨w7,f5⟩:=exq (w6.setRow (g5) #[I O t0,I O u,I O t2]);rw[f5]at r8 j6|-;clear f5;refine q8 _ _ (fun e=>absurd e (by decide)) ?_;clear q8;have d5:=q3.trans (j6.below (fun i e=>e▸n4) q3.size);simp only[Act.put];refine D5 (by kernel_rfl) ?_ _;go_wp2_with fail
   go_meet;exact⟨_,rfl,r8,d5,n4⟩
  skip
  refine L9 9 rfl (fun K8 r1=> ?_);go_simp;have m3:Below w0.heap.size w0 (w0.alloc (.cells #[I O 0,I O 0,I O 0] 83)):=(Q2 _ _).alloc (Q4 _) _;have m5:=J9 w0 83 #[I O 0,I O 0,I O 0];have l3:w.heap.size<=w0.heap.size:=a9.size;obtain⟨g8,q9⟩:=exq w0.heap.size;obtain⟨w8,p8⟩:=exq (w0.alloc (.cells #[I O 0,I O 0,I O 0] 83));rw[p8]at m3 m5|-;have J:=a9.trans (m3.mono a9.size);have l5:=Z7 a2 m3;rw[q9]at m5 l3|-;clear p8 q9;refine r1 _ _ (fun _=>l5) ?_;clear r1;refine oM 7 fun K9 a8=> ?_
  go_simp
  go_at_call 78
  refine(RG bb m.st m.dy m.an m.la _ (J4 s7 J)).mono ?_;rintro ev wx ⟨rfl,rfl⟩;refine a8 _ _ (fun _=>l5) ?_;clear a8;refine oM 8 fun x7 s2=> ?_
  go_simp
  go_at_call 80
  refine(HW _ J).mono ?_;rintro ev o7 ⟨rfl,k9⟩;have n8:=J.trans (k9.mono J.size);have x1:=Z7 l5 k9;refine s2 _ _ (fun _=>x1) ?_;clear s2;have u3:=J4 m5 k9;refine oM 10 fun x8 r3=> ?_
  refine(Q5 (by rfl)).mpr ?_;refine M9 83 _ _ rfl (g8) #[I O t0,I O u,I O t2] rfl rfl 83 #[I O 0,I O 0,I O 0] u3 (by show(prog.info? 83).map (·.size)=some 3;kernel_rfl) rfl (by simp[Value.oneCell']) ?_;have o1:=D6 _ _ _ #[I O t0,I O u,I O t2] _ u3;have o6:=B7 o7 (g8) #[I O t0,I O u,I O t2];obtain⟨x5,p9⟩:=exq (o7.setRow (g8) #[I O t0,I O u,I O t2]);rw[p9]at o1 o6|-;clear p9;refine r3 _ _ (fun e=>absurd e (by decide)) ?_;clear r3;have v9:=n8.trans (o6.below (fun i e=>e▸l3) n8.size);simp only[Act.put];refine D5 (by kernel_rfl) ?_ _;go_wp2_with fail
  go_meet;exact⟨_,rfl,o1,v9,l3⟩
 obtain⟨gq,rfl,hq,hb,hg⟩:=hcut
 have d8:=Q0 (HM.below hb)
 have HQ:=Q0 hq
 have HB:=Q0 hb
 have HG:=Q0 hg
 clear hq hb hg c7 HW
 obtain⟨K1,b8⟩:=exq (if 0<u then V9 m.L1 u else m.L1)
 obtain⟨K2,b2⟩:=exq (if 0<u then V9 m.L2 u else m.L2)
 have HK:=Q0 (And.intro b8 b2)
 have t7:BL m m.L1=D3 K1:=by unfold BL;rw[HT.out,<-b8];rfl
 have r6:BL m m.L2=D3 K2:=by unfold BL;rw[HT.out,<-b2];rfl
 have s6:=Q0 (And.intro t7 r6)
 clear t7 r6
 obtain⟨q0,q1,q2⟩:=NA HQ
 go_upto_if 22 with fail
 go_cut [3] (fun s3 wx=> ∃Af N Fs,s3= .slice Af (List.length Fs) N/\QW m Fs/\(∀g,Q7 Af=some g->w.heap.size<=g)/\ ∃G' own',V1 wx e cs tb bb bk im T tc Al lc lv bu se Ap pc es mc G' own' (fun s k=>Y2 s k (L6 m)) {m with L1:=K1,L2:=K2,an:=P0 m m.an,la:=P0 m m.la}/\Z8 w wx own own'/\KX wx own' Af Fs.length N 89 4 (Q9 D8 Fs))
 case first=>
  by_cases h1:0<u
  ·have d1:=Z5 h1
   rw[Q5 h1]at b8 b2;subst b8 b2;have hf:=o5.out (by rw[HT.out];exact h1);rw[HT.out]at hf;dsimp only at hf;have t9:=Sy Dn wc.drew bk G m.L1 m.L2 (d8.below (J3 (Q2 _ wc))).book t0 u (by omega) hf.1 hf.2.1;have q5:=Q0 t9;have u6:=Q0 hf;have H1:=Q0 h1;have c8:=d8.cell d8.ec.c8;clear t9 hf;go_wp2_with fail
   refine XF (fun t=> [].contains t) (fun W=>W.cell? ⟨e,8,none⟩=some (IP (some ⟨bk,0,none⟩))/\W.cell? ⟨gq,0,none⟩=some (I O t0)/\W.cell? ⟨gq,1,none⟩=some (I O u)) (by kernel_rfl) ⟨c8,q0,q1⟩ (fun a2=> ?_);refine tM 0 (IP (some ⟨e,0,none⟩)) ?_;refine tM 1 (IP (some ⟨e,0,none⟩)) ?_;refine tM 2 (IP (some ⟨e,8,none⟩)) ?_;refine tM 3 (IP (some ⟨bk,0,none⟩)) ?_;refine tM 4 (IP (some ⟨gq,0,none⟩)) ?_;refine tM 5 (I O t0) ?_;refine tM 6 (IP (some ⟨gq,1,none⟩)) ?_;refine tM 7 (I O u) ?_;refine oM 8 fun K9 a8=> ?_
   go_simp;refine q5.mono ?_;rintro ev w3 ⟨Fs,Af,N,G3,rfl,r9,o4,f3⟩;obtain⟨v,E⟩:=(d8.below (J3 (Q2 _ wc))).bookStep f3.book f3.step;have f2: ¬ ∃k,own gq k:=fun⟨k,hk⟩=>by have:=HM.ok.lt gq k hk;have:=HG.out;omega
   have f4:=X0 (Z2 HQ) E.1 f2;have u4:KX w3 (JQ wc.drew own G3 4) Af (List.length Fs) N 89 4 (Q9 D8 Fs):=⟨f3.row,fun g hg k hk=>by
    have h1:=f3.fpA g hg;rcases hk with h2|h2
    ·have h3:=d8.ok.lt g k h2
     have h4:wc.heap.size<=g:=h1.2;omega
    exact h1.1 h2.2.1⟩
   have g6: ∀g,Q7 Af=some g->w.heap.size<=g:=fun g hg=>G0 HB.size (f3.fpA g hg).2
   have r7:=v.bands;have j7:=Ji8 bb m.st m.dy m.an m.la t0 w3.drew (Z2 r7);have a7:H9 t0 1=true:=by rw[DF];have:=u6.out;omega
   rw[a7]at j7;simp only[if_true]at j7;have u5:=Q0 j7;have n2:=v.cell v.ec.c8;have c1:=Q0 v;have y:=Q0 E;have v6:=Q0 u4;have k3:=Q0 g6;have u8:=Q0 (And.intro r9 o4);have c7:=v.cell v.ec.c7;clear q0 q1 q2;obtain⟨q0,q1,q2⟩:=NA f4;clear v E f4 u4 g6 r7 j7 a7 r9 o4 f3 f2 c8 q5;refine a8 _ _ (fun _=>⟨n2,q0,q1⟩) ?_;have b9:w3.cell? ⟨e,8,none⟩=some (IP (some ⟨bk,0,none⟩))/\w3.cell? ⟨gq,0,none⟩=some (I O t0)/\w3.cell? ⟨gq,1,none⟩=some (I O u):=⟨n2,q0,q1⟩;clear a8 a2 n2;refine tM 9 (.tuple #[.slice Af (List.length Fs) N,.nilIface]) ?_;refine tM 10 (.slice Af (List.length Fs) N) ?_;refine tM 11 (.nilIface) ?_;refine tM 12 (.slice Af (List.length Fs) N) ?_;refine D5 (by kernel_rfl) ?_ _;clear b9;go_wp2_with fail
   go_still_tail 6,(by kernel_rfl)
   change wpList _ _ _ _ _ w3.drew;go_wp2_with fail
   refine u5.mono ?_;rintro ev w4 ⟨rfl,m6,j5⟩;have v5:=c1.below (J3 (Q2 _ w3));obtain⟨x0,s8⟩:=V1.bandsTo v5 m6 j5;clear q0 q1 q2 c7;go_wp2_with fail
   go_meet;have ep: ∀p,P0 m p=t0:=fun p=>by unfold P0;rw[HT.out,Q5 (by have:=H1.out;show 0<u;omega)]
   have od:=(v6.below (J3 (Q2 _ w3)));refine⟨Af,N,Fs,rfl, ?_,k3,_,_,by rw[ep,ep];exact x0,((((F8 HB).trans (F8 (J3 (Q2 _ wc)))).trans y).trans (F8 (J3 (Q2 _ w3)))).trans s8,od.step s8⟩;unfold QW;rw[HT.out,Q5 (by have:=H1.out;show 0<u;omega)];exact u8
  have d1:=Z1 h1;rw[Q3 h1]at b8 b2;subst b8 b2;have H1:=Q0 h1;go_wp2_with fail
  go_meet;have ep: ∀p,P0 m p=p:=fun p=>by unfold P0;rw[HT.out,Q3 (by have:=H1.out;show¬0<u;omega)]
  refine⟨none,0,[],rfl, ?_,fun g hg=>by simp[Q7]at hg,_,_,by rw[ep,ep];exact d8,F8 HB,KX.nil _ _ _ _⟩;unfold QW;rw[HT.out,Q3 (by have:=H1.out;show¬0<u;omega)]
 obtain⟨Af,N,Fs,rfl,n5,g6,G5,x6,e8,t5,o2⟩:=hcut
 have u9:=Q0 n5
 have k3:=Q0 g6
 have n6:=Q0 t5
 have o9:=Q0 o2
 have b5:Hid (B8 K1 K2):=Q0 e8.book.lists
 obtain⟨p0,q7⟩:=e8.indNil
 obtain⟨c9,v1,x3⟩:=e8.ind.cells
 have f9:=e8.frozen 9
 have v3:=e8.frozen 10
 have x2:=e8.frozen 11
 have j9:=Q0 p0
 have j4:=Q0 q7
 clear q0 q1 q2 n5 g6 t5 o2 e8 p0 q7 d8 HQ HB HG o5 b8 b2
 go_upto_region 7 with fail
 obtain⟨w6,p3⟩:=exq (((wc.setCell ⟨e,9,none⟩ (.slice none 0 0)).setCell ⟨e,10,none⟩ (I O 0)).setCell ⟨e,11,none⟩ (I O 0))
 rw[p3]at j9 j4|-
 clear p3 c9 v1 x3 f9 v3 x2
 have d5:Below w6.heap.size w6 (w6.alloc (.cells #[I O 1,I O 2] 3)):=(Q2 _ w6).alloc (Q4 _) _
 have c4:=J9 w6 3 #[I O 1,I O 2]
 obtain⟨w7,f5⟩:=exq (w6.alloc (.cells #[I O 1,I O 2] 3))
 obtain⟨B2,k0⟩:=exq w6.heap.size
 rw[f5]at d5 c4
 have u0:Hid (SC w w7 e tb bb bk im T tc Ap pc es mc own Af N Fs B2 none 0 0 [] {m with L1:=K1,L2:=K2,an:=P0 m m.an,la:=P0 m m.la} []):=
  Q0 ⟨_,_,_,_,_,_,_,_,j9.below d5,(n6.trans j4).trans (F8 d5),(o9.step j4).below d5,⟨k0▸c4,fun k hk=>by have:=j9.ok.lt _ k hk;omega⟩,KX.nil _ _ _ _⟩
 clear d5 c4
 go_wp2_with fail
 try rw[f5]
 try rw[k0]
 clear f5 k0 j9 j4 n6 o9
 go_loopg [48] 2 (fun gg u7 wr=> ∃j X1 X2 Y,j<=2/\gg=2-j/\u7=I O j/\(0=j/\K1=X1/\K2=X2/\ []=Y\/1=j/\D3 K1=X1/\K2=X2/\D3 K1=Y\/2=j/\D3 K1=X1/\D3 K2=X2/\D3 K1++D3 K2=Y)/\Hid (SC w wr e tb bb bk im T tc Ap pc es mc own Af N Fs B2 none 0 0 [] {m with L1:=X1,L2:=X2,an:=P0 m m.an,la:=P0 m m.la} Y))
 case atStart=>exact⟨0,K1,K2,[],by omega,rfl,rfl,.inl ⟨rfl,rfl,rfl,rfl⟩,u0⟩
 obtain⟨j,X1,X2,Y,hj,rfl,rfl,v0,HU⟩:=hrel
 clear u0
 rcases v0 with⟨h5,i0,i5,hy⟩|⟨h5,i0,i5,hy⟩|⟨h5,i0,i5,hy⟩
 ·subst h5 i0 i5 hy
  obtain⟨t8,q6,t3,r4,r5,p7,G1,p5,a0,e4,a7,c6,m9⟩:=HU.out;have d2:=PT wr bk G1 _ _ a0.book 1 Y4;rw[show X6 1 K1 K2=K1 from rfl]at d2;have c8:=a0.cell a0.ec.c8;obtain⟨b0,b1⟩:=Ld c6.1;have e2:=Q0 d2;have d3:=Q0 a0;have i8:=Q0 e4;have j1:=Q0 a7;have d9:=Q0 c6;obtain⟨n,hn⟩:=exq K1.length;rw[hn]at e2;have HN:=Q0 hn;have v7:n<=100:=by
   have h1:=b5.cnt;rw[Y9]at h1;omega
  clear a0 e4 a7 c6 m9 HU d2 hn;go_wp2_with fail
  refine e2.mono ?_;rintro ev w8 ⟨J,AL,cl,rfl,f7,g2⟩;have i7:Hid (SC w w8 e tb bb bk im T tc Ap pc es mc own Af N Fs B2 AL n cl K1 {m with L1:=K1,L2:=K2,an:=P0 m m.an,la:=P0 m m.la} []):=
   Q0 ⟨_,_,_,_,_,_,_,_,d3.below J,i8.trans (F8 J),j1.below J,⟨J4 d9.1 J,d9.2⟩,KX.new_ f7 d3.ok g2⟩
  clear b0 b1 c8 J f7 g2 d3 i8 j1 d9 e2;go_wp2_with fail
  go_loopg [63] n (fun gg l2 wr=> ∃k,k<=n/\gg=n-k/\l2=I O k/\Hid (SC w wr e tb bb bk im T tc Ap pc es mc own Af N Fs B2 AL n cl K1 {m with L1:=(YQ K1 k),L2:=K2,an:=P0 m m.an,la:=P0 m m.la} (D3 (K1.take k))))
  case atStart=>exact⟨0,V5 _,rfl,rfl,Q0 (by rw[Lb,List.take_zero];exact i7)⟩
  obtain⟨k,hk,rfl,rfl,HI⟩:=hrel;obtain⟨cs2,n0,l8,l6,l0,k4,G2,own2,f6,h6,i9,c4,h8⟩:=HI.out;have a5:=Q0 f6;have d4:=Q0 h6;have e3:=Q0 i9;have a6:=Q0 c4;have c2:=Q0 h8;clear f6 h6 i9 c4 h8 HI i7
  by_cases l4:k<n
  ·have a3:k<K1.length:=by rw[HN.out];exact l4
   obtain⟨gl,k7⟩:=QC c2.row (by omega);subst k7;obtain⟨y0,y1,y2,y3,y4⟩:=BZ c2.row a3;have f1:K1[k]∈K1:=Y1 a3;have e6:=fun h=>Mx (k:=k) a3 h
   have d6:=fun h=>Pf (k:=k) a3 h (EL b5).1
   have a1:K1.take (k+1)=K1.take k++ [K1[k]]:=M8 a3;obtain⟨x,hx⟩:=exq (K1[k]);rw[hx]at y0 y1 y2 y3 y4 f1 e6 d6 a1;have j3:=Q0 f1;have k6:=Q0 e6;have l7:=Q0 d6;have c3:=Q0 a1;have m0:(k:Int)< (n:Int):=by omega
   have j6:(0:Int)<=(k:Int):=by omega
   have c0:Below wr.heap.size wr (wr.alloc (.cells #[I O x.id,I O x.side,I O x.kind,I O x.price,I O x.qty] 29)):=(Q2 _ wr).alloc (Q4 _) _;have hZ:=J9 wr 29 #[I O x.id,I O x.side,I O x.kind,I O x.price,I O x.qty];have f0:=a5.below c0;obtain⟨wz,e7⟩:=exq (wr.alloc (.cells #[I O x.id,I O x.side,I O x.kind,I O x.price,I O x.qty] 29));obtain⟨Z,eZ⟩:=exq wr.heap.size;rw[e7]at c0 hZ f0;have g7: ∀k,¬own2 Z k:=fun k hk=>by have:=a5.ok.lt Z k hk;omega
   have l9:=Q0 g7;have g4:=Q0 c0;have D:=Q0 f0;have d7:=hZ;rw[eZ]at d7;have HZ:=Q0 d7;clear f1 e6 d6 a1 c0 hZ d7 f0 hx g7;go_upto_region 14 with fail
   try rw[e7]
   try rw[eZ]
   clear e7 eZ y0 y1 y2 y3 y4;obtain⟨z0,z1,z2,z3,z4⟩:=FF HZ;have e5:UN x:=BR b5 x (S9 _ j3)
   by_cases U:x.kind=1
   ·have d1:=Z0 U
    have e9:=Ac wz.drew e 103 cs2 9 n0 l8 l6 l0 k4 (D.below (J3 (Q2 _ wz))).ind ((Ql9 b5 k).small a5.ind.ok a5.is) x;unfold X5 at e9;have HAdd:=Q0 e9;have c5:=Q0 U;have i4:=Q0 e5;clear e9 U e5;go_wp2_with fail
    go_still_tail 4,(by kernel_rfl)
    change wpList _ _ _ _ _ wz.drew;go_wp2_with fail
    refine HAdd.mono ?_;rintro ev w9 ⟨rfl,lv',bu',se',i1,f8⟩;obtain⟨-,j0⟩:=Yu i4 f8;have h7:=(D.is).chg i4.1 j0;obtain⟨v8,v2,v4,k2,v,E⟩:=(D.below (J3 (Q2 _ wz))).indTo i1 h7;have c1:=Q0 v;have y:=Q0 E;clear v E i1 f8 j0 h7 z0 z1 z2 z3 z4 HAdd;go_wp2_with fail
    go_roundg (n- (k+1))
    case measure=>omega
    have C:Below wr.heap.size wr wz.drew:=J3 g4;exact⟨k+1,by omega,rfl,by go_num,Q0 ⟨_,_,_,_,_,_,_,_,V1.lots (by rw[k6.out c5.out];exact c1) (fun s q hs=>by rw[c3.out,Jn c5,Le]),(d4.trans (F8 C)).trans y,(e3.below C).step y,NE ⟨J4 a6.1 C,a6.2⟩ y,(c2.below C).step y⟩⟩
   have d1:=X3 U;obtain⟨h9,d0⟩:=l7.out U;have j2:=Jk wz.drew bk G2 _ _ (D.below (J3 (Q2 _ wz))).book x.id;have i2:Y0 ((YQ K1 k)++K2) x.id=some x:=WH D.book.lists.ids (S9 _ d0);have i6:D1 K2 x.id=K2:=Xt (fun o ho=>fun e=>(EL b5).2.2 x j3 o ho e.symm);have h0:=Q0 j2;have i3:=Q0 i2;have n3:=Q0 i6;have c5:=Q0 U;have k1:=Q0 (And.intro h9 d0);have c8:=D.cell D.ec.c8;clear j2 i2 i6 U h9 d0 e5;go_wp2_with fail
   refine XF (fun t=> [].contains t) (fun W=>W.cell? ⟨e,8,none⟩=some (IP (some ⟨bk,0,none⟩))/\W.cell? ⟨Z,0,none⟩=some (I O x.id)) (by kernel_rfl) ⟨c8,z0⟩ (fun a2=> ?_);refine tM 0 (IP (some ⟨e,0,none⟩)) ?_;refine tM 1 (IP (some ⟨e,0,none⟩)) ?_;refine tM 2 (IP (some ⟨e,8,none⟩)) ?_;refine tM 3 (IP (some ⟨bk,0,none⟩)) ?_;refine tM 4 (IP (some ⟨Z,0,none⟩)) ?_;refine tM 5 (I O x.id) ?_;refine oM 6 fun K9 a8=> ?_
   go_simp;refine h0.mono ?_;rintro ev w9 (⟨f2,-,-⟩|⟨o,ho,rfl,hto⟩)
   ·exact absurd f2 (by rw[i3.out];simp)
   rw[i3.out]at ho
   cases ho;obtain⟨G3,k2,v,E⟩:=(D.below (J3 (Q2 _ wz))).bookTo hto;have g9:=X0 (Z2 HZ) E.1 (fun⟨k,hk⟩=>l9 k hk);have b9:w9.cell? ⟨e,8,none⟩=some (IP (some ⟨bk,0,none⟩))/\w9.cell? ⟨Z,0,none⟩=some (I O x.id):=⟨v.cell v.ec.c8,(FF g9).1⟩;rw[BJ];unfold X5;refine a8 _ _ (fun _=>b9) ?_;have c1:=Q0 v;have y:=Q0 E;clear a8 a2 v E hto g9 z0 z1 z2 z3 z4 c8 h0;refine tM 7 (.tuple #[.agg #[I O x.id,I O x.side,I O x.kind,I O x.price,I O x.qty],.nilIface]) ?_;refine tM 8 (.agg #[I O x.id,I O x.side,I O x.kind,I O x.price,I O x.qty]) ?_;refine tM 9 (.nilIface) ?_;refine D5 (by kernel_rfl) ?_ _;clear b9;go_wp2_with fail
   go_roundg (n- (k+1))
   case measure=>omega
   have C:Below wr.heap.size wr wz.drew:=J3 g4;have a4:=c1.out;rw[k1.1,n3.out]at a4;exact⟨k+1,by omega,rfl,by go_num,Q0 ⟨_,_,_,_,_,_,_,_,by rw[c3.out,Jq c5.out];exact a4,(d4.trans (F8 C)).trans y,(e3.below C).step y,NE ⟨J4 a6.1 C,a6.2⟩ y,(c2.below C).step y⟩⟩
  obtain rfl:k=n:=by omega
  have m0: ¬(k:Int)< (k:Int):=by omega
  have g1:YQ K1 k=D3 K1:=Mw (by rw[HN.out];exact Q4 _);have a1:K1.take k=K1:=N7 (by rw[HN.out];exact Q4 _);have n1:=Q0 g1;have c3:=Q0 a1;clear g1 a1;go_wp2_with fail
  go_roundg (2- (0+1))
  case measure=>omega
  have a4:=a5.out;rw[n1.out,c3.out]at a4;exact⟨0+1,_,_,_,by omega,rfl,rfl,.inr (.inl ⟨rfl,rfl,rfl,rfl⟩),Q0 ⟨_,_,_,_,_,_,_,_,a4,d4,e3,a6,KX.nil _ _ _ _⟩⟩
 ·subst h5 i0 i5 hy
  obtain⟨t8,q6,t3,r4,r5,p7,G1,p5,a0,e4,a7,c6,m9⟩:=HU.out;have d2:=PT wr bk G1 _ _ a0.book 2 Y5;rw[show X6 2 (D3 K1) K2=K2 from rfl]at d2;have c8:=a0.cell a0.ec.c8;obtain⟨b0,b1⟩:=Ld c6.1;have e2:=Q0 d2;have d3:=Q0 a0;have i8:=Q0 e4;have j1:=Q0 a7;have d9:=Q0 c6;obtain⟨n,hn⟩:=exq K2.length;rw[hn]at e2;have HN:=Q0 hn;have v7:n<=100:=by
   have h1:=b5.cnt;rw[Y9]at h1;omega
  clear a0 e4 a7 c6 m9 HU d2 hn;go_wp2_with fail
  refine e2.mono ?_;rintro ev w8 ⟨J,AL,cl,rfl,f7,g2⟩;have i7:Hid (SC w w8 e tb bb bk im T tc Ap pc es mc own Af N Fs B2 AL n cl K2 {m with L1:=(D3 K1),L2:=K2,an:=P0 m m.an,la:=P0 m m.la} (D3 K1)):=
   Q0 ⟨_,_,_,_,_,_,_,_,d3.below J,i8.trans (F8 J),j1.below J,⟨J4 d9.1 J,d9.2⟩,KX.new_ f7 d3.ok g2⟩
  clear b0 b1 c8 J f7 g2 d3 i8 j1 d9 e2;go_wp2_with fail
  go_loopg [63] n (fun gg l2 wr=> ∃k,k<=n/\gg=n-k/\l2=I O k/\Hid (SC w wr e tb bb bk im T tc Ap pc es mc own Af N Fs B2 AL n cl K2 {m with L1:=(D3 K1),L2:=(YQ K2 k),an:=P0 m m.an,la:=P0 m m.la} (D3 K1++D3 (K2.take k))))
  case atStart=>exact⟨0,V5 _,rfl,rfl,Q0 (by rw[Lb,List.take_zero,show D3 ([]:List Q8)= []from rfl,YP];exact i7)⟩
  obtain⟨k,hk,rfl,rfl,HI⟩:=hrel;obtain⟨cs2,n0,l8,l6,l0,k4,G2,own2,f6,h6,i9,c4,h8⟩:=HI.out;have a5:=Q0 f6;have d4:=Q0 h6;have e3:=Q0 i9;have a6:=Q0 c4;have c2:=Q0 h8;clear f6 h6 i9 c4 h8 HI i7
  by_cases l4:k<n
  ·have a3:k<K2.length:=by rw[HN.out];exact l4
   obtain⟨gl,k7⟩:=QC c2.row (by omega);subst k7;obtain⟨y0,y1,y2,y3,y4⟩:=BZ c2.row a3;have f1:K2[k]∈K2:=Y1 a3;have e6:=fun h=>Mx (k:=k) a3 h
   have d6:=fun h=>Pf (k:=k) a3 h (EL b5).2.1
   have a1:K2.take (k+1)=K2.take k++ [K2[k]]:=M8 a3;obtain⟨x,hx⟩:=exq (K2[k]);rw[hx]at y0 y1 y2 y3 y4 f1 e6 d6 a1;have j3:=Q0 f1;have k6:=Q0 e6;have l7:=Q0 d6;have c3:=Q0 a1;have m0:(k:Int)< (n:Int):=by omega
   have j6:(0:Int)<=(k:Int):=by omega
   have c0:Below wr.heap.size wr (wr.alloc (.cells #[I O x.id,I O x.side,I O x.kind,I O x.price,I O x.qty] 29)):=(Q2 _ wr).alloc (Q4 _) _;have hZ:=J9 wr 29 #[I O x.id,I O x.side,I O x.kind,I O x.price,I O x.qty];have f0:=a5.below c0;obtain⟨wz,e7⟩:=exq (wr.alloc (.cells #[I O x.id,I O x.side,I O x.kind,I O x.price,I O x.qty] 29));obtain⟨Z,eZ⟩:=exq wr.heap.size;rw[e7]at c0 hZ f0;have g7: ∀k,¬own2 Z k:=fun k hk=>by have:=a5.ok.lt Z k hk;omega
   have l9:=Q0 g7;have g4:=Q0 c0;have D:=Q0 f0;have d7:=hZ;rw[eZ]at d7;have HZ:=Q0 d7;clear f1 e6 d6 a1 c0 hZ d7 f0 hx g7;go_upto_region 14 with fail
   try rw[e7]
   try rw[eZ]
   clear e7 eZ y0 y1 y2 y3 y4;obtain⟨z0,z1,z2,z3,z4⟩:=FF HZ;have e5:UN x:=BR b5 x (QB _ j3)
   by_cases U:x.kind=1
   ·have d1:=Z0 U
    have e9:=Ac wz.drew e 103 cs2 9 n0 l8 l6 l0 k4 (D.below (J3 (Q2 _ wz))).ind ((Qm0 b5 k).small a5.ind.ok a5.is) x;unfold X5 at e9;have HAdd:=Q0 e9;have c5:=Q0 U;have i4:=Q0 e5;clear e9 U e5;go_wp2_with fail
    go_still_tail 4,(by kernel_rfl)
    change wpList _ _ _ _ _ wz.drew;go_wp2_with fail
    refine HAdd.mono ?_;rintro ev w9 ⟨rfl,lv',bu',se',i1,f8⟩;obtain⟨-,j0⟩:=Yu i4 f8;have h7:=(D.is).chg i4.1 j0;obtain⟨v8,v2,v4,k2,v,E⟩:=(D.below (J3 (Q2 _ wz))).indTo i1 h7;have c1:=Q0 v;have y:=Q0 E;clear v E i1 f8 j0 h7 z0 z1 z2 z3 z4 HAdd;go_wp2_with fail
    go_roundg (n- (k+1))
    case measure=>omega
    have C:Below wr.heap.size wr wz.drew:=J3 g4;exact⟨k+1,by omega,rfl,by go_num,Q0 ⟨_,_,_,_,_,_,_,_,V1.lots (by rw[k6.out c5.out];exact c1) (fun s q hs=>by rw[c3.out,Jn c5,<-VM,Le]),(d4.trans (F8 C)).trans y,(e3.below C).step y,NE ⟨J4 a6.1 C,a6.2⟩ y,(c2.below C).step y⟩⟩
   have d1:=X3 U;obtain⟨h9,d0⟩:=l7.out U;have j2:=Jk wz.drew bk G2 _ _ (D.below (J3 (Q2 _ wz))).book x.id;have i2:Y0 ((D3 K1)++(YQ K2 k)) x.id=some x:=WH D.book.lists.ids (QB _ d0);have i6:D1 (D3 K1) x.id=(D3 K1):=Xt (fun o ho=>fun e=>(EL b5).2.2 o (WL ho) x j3 e);have h0:=Q0 j2;have i3:=Q0 i2;have n3:=Q0 i6;have c5:=Q0 U;have k1:=Q0 (And.intro h9 d0);have c8:=D.cell D.ec.c8;clear j2 i2 i6 U h9 d0 e5;go_wp2_with fail
   refine XF (fun t=> [].contains t) (fun W=>W.cell? ⟨e,8,none⟩=some (IP (some ⟨bk,0,none⟩))/\W.cell? ⟨Z,0,none⟩=some (I O x.id)) (by kernel_rfl) ⟨c8,z0⟩ (fun a2=> ?_);refine tM 0 (IP (some ⟨e,0,none⟩)) ?_;refine tM 1 (IP (some ⟨e,0,none⟩)) ?_;refine tM 2 (IP (some ⟨e,8,none⟩)) ?_;refine tM 3 (IP (some ⟨bk,0,none⟩)) ?_;refine tM 4 (IP (some ⟨Z,0,none⟩)) ?_;refine tM 5 (I O x.id) ?_;refine oM 6 fun K9 a8=> ?_
   go_simp;refine h0.mono ?_;rintro ev w9 (⟨f2,-,-⟩|⟨o,ho,rfl,hto⟩)
   ·exact absurd f2 (by rw[i3.out];simp)
   rw[i3.out]at ho
   cases ho;obtain⟨G3,k2,v,E⟩:=(D.below (J3 (Q2 _ wz))).bookTo hto;have g9:=X0 (Z2 HZ) E.1 (fun⟨k,hk⟩=>l9 k hk);have b9:w9.cell? ⟨e,8,none⟩=some (IP (some ⟨bk,0,none⟩))/\w9.cell? ⟨Z,0,none⟩=some (I O x.id):=⟨v.cell v.ec.c8,(FF g9).1⟩;rw[BJ];unfold X5;refine a8 _ _ (fun _=>b9) ?_;have c1:=Q0 v;have y:=Q0 E;clear a8 a2 v E hto g9 z0 z1 z2 z3 z4 c8 h0;refine tM 7 (.tuple #[.agg #[I O x.id,I O x.side,I O x.kind,I O x.price,I O x.qty],.nilIface]) ?_;refine tM 8 (.agg #[I O x.id,I O x.side,I O x.kind,I O x.price,I O x.qty]) ?_;refine tM 9 (.nilIface) ?_;refine D5 (by kernel_rfl) ?_ _;clear b9;go_wp2_with fail
   go_roundg (n- (k+1))
   case measure=>omega
   have C:Below wr.heap.size wr wz.drew:=J3 g4;have a4:=c1.out;rw[k1.1,n3.out]at a4;exact⟨k+1,by omega,rfl,by go_num,Q0 ⟨_,_,_,_,_,_,_,_,by rw[c3.out,Jq c5.out];exact a4,(d4.trans (F8 C)).trans y,(e3.below C).step y,NE ⟨J4 a6.1 C,a6.2⟩ y,(c2.below C).step y⟩⟩
  obtain rfl:k=n:=by omega
  have m0: ¬(k:Int)< (k:Int):=by omega
  have g1:YQ K2 k=D3 K2:=Mw (by rw[HN.out];exact Q4 _);have a1:K2.take k=K2:=N7 (by rw[HN.out];exact Q4 _);have n1:=Q0 g1;have c3:=Q0 a1;clear g1 a1;go_wp2_with fail
  go_roundg (2- (1+1))
  case measure=>omega
  have a4:=a5.out;rw[n1.out,c3.out]at a4;exact⟨1+1,_,_,_,by omega,rfl,rfl,.inr (.inr ⟨rfl,rfl,rfl,rfl⟩),Q0 ⟨_,_,_,_,_,_,_,_,a4,d4,e3,a6,KX.nil _ _ _ _⟩⟩
 subst h5 i0 i5 hy
 go_wp2_with fail
 go_ret
 obtain⟨t8,q6,t3,r4,r5,p7,G1,p5,a0,e4,a7,-,-⟩:=HU.out
 refine⟨Af,N,Fs,rfl,u9,a7.row,k3,_, ?_,e4.bstep HF,fun g hg ⟨k,hk⟩=>a7.far g hg k hk⟩
 have e1:KJ m= {m with L1:=D3 K1,L2:=D3 K2,an:=P0 m m.an,la:=P0 m m.la}:=by
  unfold KJ;rw[s6.1,s6.2]
 rw[e1]
 exact EW a0 (fun _ _ _=>rfl)
