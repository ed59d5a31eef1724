/- Parts. -/
import Derived.Test.YtnlngicnfegjgaaGreatDoorZq27
set_option linter.unusedVariables false
set_option maxRecDepth 100000
set_option maxHeartbeats 8000000
open Go.Proofs.Tryz
open Go.Value renaming int→I,pointer→IP
open Go.IntKind renaming i64→O
namespace Go.Proofs.YtnlngicnfegjgaaGreatDoor
open Go.RowKit
def QT (id n:Int) (y:HO):HO:=if y.2.id=id then(y.1,B6 y.2 n)else y
def QG.cut (q:QG) (id n:Int):QG:=⟨q.price,q.A,q.c,q.os.map (QT id n)⟩
def HS.cut (h:HS) (id n:Int):HS:=⟨h.mA,h.mc,h.qA,h.qc,h.ms.map (QT id n),h.qs.map fun q=>q.cut id n⟩
section
variable {id k:Int}
theorem Px y:(QT id k y).1=y.1:=by unfold QT;split<;>rfl
theorem SJ y:(QT id k y).2.id=y.2.id/\(QT id k y).2.side=y.2.side/\(QT id k y).2.kind=y.2.kind/\(QT id k y).2.price=y.2.price:=by unfold QT;split<;>exact⟨rfl,rfl,rfl,rfl⟩
theorem Qk0 y:JC (QT id k y)=JC y:=by
 obtain⟨_,h2,i,j⟩:=SJ (id:=id) (k:=k) y
 unfold JC
 rw[Px,h2,i,j]
theorem Mu l:A6 (l.map (QT id k))=A6 l:=by
 unfold A6
 rw[BQ]
 exact YN fun y _=>Px y
theorem Nx (q:QG):(q.cut id k).que=q.que:=by unfold QG.cut QG.que;simp
theorem Jc6 l:U6 (l.map (QT id k))=ZW (U6 l) id k:=by
 unfold U6 ZW
 rw[BQ,BQ]
 refine YN fun y _=> ?_
 show(QT id k y).2=if y.2.id=id then B6 y.2 k else y.2
 unfold QT
 split<;>rfl
theorem Jc7 qs:U5 (qs.map fun q=>q.cut id k)=(U5 qs).map (QT id k):=by
 induction qs with
 |nil=>rfl
 |cons q qs i=>
  have u:U5 (q::qs)=q.os++U5 qs:=rfl;have j:U5 (List.map (fun q=>q.cut id k) (q::qs))=q.os.map (QT id k)++U5 (qs.map fun q=>q.cut id k):=rfl;rw[u,j,i,T1]
theorem Ae (h:HS):(h.cut id k).all=h.all.map (QT id k):=by
 show D2 _ _=List.map _ (D2 h.ms h.qs)
 unfold D2 HS.cut
 dsimp only
 rw[Jc7,T1]
theorem Rr (h:HS):(h.cut id k).L=ZW h.L id k:=by
 unfold HS.L
 rw[Ae,Jc6]
def DP (H:Int->HS) (id k:Int):Int->HS:=fun s=>(H s).cut id k
theorem Ke H:B4 (DP H id k)=(B4 H).map (QT id k):=by
 unfold B4 DP
 rw[Ae,Ae,T1]
variable {w w':World} {b a n r:Nat} {F:Nat->Prop} {M:Int->Int->Option Q8} {f:Int->Option Value} {H:Int->HS} {reg:Nat->Int}
theorem GL.recut {s h} (X:GL w reg s h):GL w reg s (h.cut id k):=by
 refine⟨?_, ?_, ?_,X.gm,X.gq, ?_, ?_⟩
 ·show J2 w h.mA (h.ms.map (QT id k)).length h.mc _ 2 (Q9 E8 (A6 (h.ms.map (QT id k))))
  rw[MT,Mu];exact X.rm
 ·show J2 w h.qA (h.qs.map fun q=>q.cut id k).length h.qc _ 2 (Q9 U2 ((h.qs.map fun q=>q.cut id k).map QG.que))
  rw[MT,BQ];have e:(QG.que∘fun q=>q.cut id k)=QG.que:=by funext q;exact Nx q
  rw[e];exact X.rq
 ·intro q j
  obtain⟨i,u,rfl⟩:=U4.1 j;show J2 w i.A (i.os.map (QT id k)).length i.c _ 2 (Q9 E8 (A6 (i.os.map (QT id k))));rw[MT,Mu];exact X.rl i u
 ·intro q j
  obtain⟨i,u,rfl⟩:=U4.1 j;exact X.gl i u
 show((h.qs.map fun q=>q.cut id k).filterMap fun q=>Q7 q.A).Nodup
 rw[List.filterMap_map]
 exact X.nd
theorem Ny {h i}:AM (h.cut id k) i↔AM h i:=by
 unfold AM HS.cut
 dsimp only
 constructor
 ·rintro(h1|h1|⟨q,hq,h1⟩)
  ·exact .inl h1
  ·exact .inr (.inl h1)
  obtain⟨u,j,rfl⟩:=U4.1 hq;exact .inr (.inr ⟨u,j,h1⟩)
 rintro(h1|h1|⟨q,hq,h1⟩)
 ·exact .inl h1
 ·exact .inr (.inl h1)
 exact .inr (.inr ⟨q.cut id k,U4.2 ⟨q,hq,rfl⟩,h1⟩)
theorem Jj1 {i}:V0 b r F (DP H id k) i↔V0 b r F H i:=by
 unfold V0 DP
 rw[Ny,Ny]
theorem Z9.recut (h:Z9 w b a F M n r f H reg):Z9 w b a F M n r f (DP H id k) reg:=by
 refine⟨?_,h.ar,h.mp,fun s i=>(h.hx s i).recut,h.gb,h.gr,h.gF⟩
 have e:VU a r (DP H id k)=VU a r H:=by
  unfold VU DP HS.cut;simp
 rw[e]
 exact h.blk
theorem U3.cut (S:U3 M n f H) {x} (Z:x∈B4 H) (h1:1<=k) (h2:k<x.2.qty):U3 (W8 M x.1.1 x.1.2 (some (B6 x.2 k))) n f (DP H x.2.id k):=by
 have D: ∀y,y∈B4 (DP H x.2.id k)-> ∃y0∈B4 H,y=QT x.2.id k y0:=by
  intro y hy;rw[Ke]at hy;obtain⟨y0,h,rfl⟩:=U4.1 hy;exact⟨y0,h,rfl⟩
 refine⟨fun s E=> ?_,fun s E=> ?_, ?_, ?_, ?_, ?_, ?_, ?_⟩
 ·have X:=S.is s E
  refine⟨?_, ?_, ?_⟩
  ·intro y hy
   obtain⟨y0,h,rfl⟩:=U4.1 hy;obtain⟨_,e2,U,_⟩:=SJ (id:=x.2.id) (k:=k) y0;rw[e2,U];exact X.mkt y0 h
  ·intro q J y hy
   obtain⟨u,N,rfl⟩:=U4.1 J;obtain⟨y0,h,rfl⟩:=U4.1 (show y∈u.os.map _ from hy);obtain⟨_,e2,U,e4⟩:=SJ (id:=x.2.id) (k:=k) y0;rw[e2,U,e4];exact X.qk u N y0 h
  show CJ s (((H s).qs.map fun q=>q.cut x.2.id k).map QG.que);rw[BQ];have e:(QG.que∘fun q=>q.cut x.2.id k)=QG.que:=by funext q;exact Nx q
  rw[e];exact X.rank
 ·intro q J
  obtain⟨u,N,rfl⟩:=U4.1 J;intro e;exact S.ne s E u N (List.map_eq_nil_iff.1 (show u.os.map _= []from e))
 ·intro y hy
  obtain⟨y0,h,rfl⟩:=D y hy
  by_cases e:y0.2.id=x.2.id
  ·have C:=S.same_id h Z e
   subst C;have j:QT y0.2.id k y0=(y0.1,B6 y0.2 k):=Q5 rfl;rw[j];unfold W8;rw[Q5 ⟨rfl,rfl⟩]
  have j:QT x.2.id k y0=y0:=Q3 e;rw[j];unfold W8;rw[Q3]
  ·exact S.hM y0 h
  rintro⟨h3,h4⟩;have C:=S.same_h h Z (Prod.ext h3 h4);exact e (by rw[C])
 ·intro y hy
  obtain⟨y0,h,rfl⟩:=D y hy;rw[Qk0,(SJ y0).1];exact S.hf y0 h
 ·intro i v hv
  obtain⟨y,hy,e⟩:=S.hk i v hv;refine⟨QT x.2.id k y, ?_,by rw[(SJ y).1];exact e⟩;rw[Ke];exact U4.2 ⟨y,hy,rfl⟩
 ·rw[Ke,BQ]
  have e:((fun x:HO=>x.2.id)∘QT x.2.id k)=fun x:HO=>x.2.id:=by funext y;exact(SJ y).1
  rw[e];exact S.ids
 ·rw[Ke,MT]
  exact S.cnt
 intro y hy
 obtain⟨y0,h,rfl⟩:=D y hy
 have ok:=S.ok y0 h
 by_cases e:y0.2.id=x.2.id
 ·have C:=S.same_id h Z e
  subst C;have j:QT y0.2.id k y0=(y0.1,B6 y0.2 k):=Q5 rfl;rw[j];obtain⟨⟨f1,f2,f3,f4,f5⟩,o1,o2,o3⟩:=ok;unfold B6;refine⟨⟨f1,f2,f3,f4, ?_⟩,o1,o2, ?_⟩
  ·unfold G8 at*;dsimp only;omega
  dsimp only;omega
 have j:QT x.2.id k y0=y0:=Q3 e
 rw[j]
 exact ok
end
def E9 (L:List Q8) (o:Q8) (n:Int):List Q8:=if n=o.qty then D1 L o.id else ZW L o.id n
theorem Hf {x t n} (h: ∀y∈t,y.id≠x.id):E9 (x::t) x n=if n=x.qty then t else B6 x n::t:=by
 unfold E9
 split
 ·unfold D1
  rw[List.filter_cons];simp;intro y hy;exact h y hy
 unfold ZW
 rw[S6,Q5 rfl]
 congr 1
 refine(YN fun y hy=> ?_).trans (List.map_id _)
 rw[Q3 (h y hy)]
 rfl
theorem Ua {x L n} (h: ∀y∈L,y.id≠x.id):E9 L x n=L:=by
 unfold E9
 split
 ·unfold D1
  rw[KR];intro y hy;simpa using h y hy
 unfold ZW
 refine(YN fun y hy=> ?_).trans (List.map_id _)
 rw[Q3 (h y hy)]
 rfl
def BH (L1 L2:List Q8) (id n:Int):Int:=
 match Y0 (L1++L2) id with
 |none=>7
 |some o=>if n<1\/o.qty<n then 2 else 0
def Jj2 (w:World) (b:Nat) (G:Nat->Prop) (L1 L2:List Q8) (id n:Int) (e:Ending) (w':World):Prop:=
 (BH L1 L2 id n≠0/\e= .returned (U0 (BH L1 L2 id n))/\Below w.heap.size w w')\/
 (∃o,Y0 (L1++L2) id=some o/\1<=n/\n<=o.qty/\e= .returned (U0 0)/\FX w w' b G (E9 L1 o n) (E9 L2 o n))
def Nz:Prop:= ∀(w:World) (b:Nat) (G:Nat->Prop) (L1 L2:List Q8),QY w b G L1 L2-> ∀id n:Int,G8 n->Calls prog 119 #[IP (some ⟨b,0,none⟩),I O id,I O n] w (Jj2 w b G L1 L2 id n)
def S3 (L:List Q8) (k:Nat):List Q8:=L.take k++L.drop (k+1)
def FA (s:Int) (L1 L2 L:List Q8) (o:Q8):List Q8:=if addE L1 L2 o=0 then KQ s L o else L
def Rs (L1 L2:List Q8) (id:Int):Int:=if(Y0 (L1++L2) id).isSome=true then 0 else 7
def Rt (L1 L2:List Q8) (id:Int):Q8:=(Y0 (L1++L2) id).getD Y3
theorem Xt {L id} (h: ∀o∈L,o.id≠id):D1 L id=L:=KR.2 (fun o i=>by simpa using h o i)
def Qj (L1 L2 L:List Q8) (id n:Int):List Q8:=match Y0 (L1++L2) id with
 |none=>L
 |some o=>if 1<=n/\n<=o.qty then E9 L o n else L
theorem Hi {w t Q g cs v} (hp:t.tmps.getD 4 undef= IP (some ⟨g,0,none⟩)) (y:t.tmps.getD 5 undef=v) (u:t.defers= [])
  (C:Q1 w g 29 cs) (E:cs.size=5) (h:Q (.returned (.tuple #[.agg cs,v])) w):bodyPost prog Tryz.f67 Q .ret t w:=by
 refine P4 (v:= .tuple #[.agg cs,v]) ?_ u h
 have D:=Jf (P:=prog) w g _ 29 cs (0,0) _ C PF rfl (by rw[E];kernel_rfl)
 have j:t.tmps[4]?.getD undef= IP (some ⟨g,0,none⟩):=by simpa using hp
 have i:t.tmps[5]?.getD undef=v:=by simpa using y
 simp[results,Tryz.results67,j,i,asAddr,D]
theorem Bw w b a F M n r f H reg (u:Z9 w b a F M n r f H reg) id (y:f id=none):
  Calls prog 67 #[IP (some ⟨b,0,none⟩),I O id] w fun e w'=>e= .returned (.tuple #[.agg #[I O 0,I O 0,I O 0,I O 0,I O 0],U0 7])/\Below w.heap.size w w':=by
 have i:Below w.heap.size w (w.alloc (.cells #[I O 0,I O 0,I O 0,I O 0,I O 0] 29)):=(Q2 _ w).alloc (Q4 _) _
 have j:=u.below i
 have a0:=CM j.mp y
 obtain⟨D,y1,Z,N,E,U⟩:=j.cells
 have C:=Q0 (J9 w 29 #[I O 0,I O 0,I O 0,I O 0,I O 0])
 have J:=Q0 i
 clear D Z N E U u j y i
 go_enter func67,ntmps67
 go_wp2_with fail
 refine Hi (g:=w.heap.size) (cs:= #[I O 0,I O 0,I O 0,I O 0,I O 0]) (v:=U0 7) (by with_unfolding_all rfl) (by with_unfolding_all rfl) (by with_unfolding_all rfl) (G7 C _) rfl ?_
 exact⟨rfl,J.alloc (by simp) _⟩
theorem Fg w b a F M n r f H reg (u:Z9 w b a F M n r f H reg) id x (U:f id=some (JC x)) (C:M x.1.1 x.1.2=some x.2):
  Calls prog 67 #[IP (some ⟨b,0,none⟩),I O id] w fun e w'=>e= .returned (.tuple #[X5 x.2,.nilIface])/\Below w.heap.size w w':=by
 have y:Below w.heap.size w (w.alloc (.cells #[I O 0,I O 0,I O 0,I O 0,I O 0] 29)):=(Q2 _ w).alloc (Q4 _) _
 have D:=u.below y
 have a1:=GQ D.mp U
 obtain⟨y0,y1,y2,y3,y4,y5⟩:=D.cells
 obtain⟨⟨h1,h2⟩,o⟩:=x
 dsimp only at a1 C
 have HX:=Q0 (G7 (J9 w 29 #[I O 0,I O 0,I O 0,I O 0,I O 0]) (.cells #[I O h1,I O h2,I O o.side,I O o.price,.bool (o.kind ==2)] 188))
 have E:Below w.heap.size w ((w.alloc (.cells #[I O 0,I O 0,I O 0,I O 0,I O 0] 29)).alloc (.cells #[I O h1,I O h2,I O o.side,I O o.price,.bool (o.kind ==2)] 188)):=y.alloc (by simp) _
 have HG:=Q0 (Qa (u.below E) C _ (J3 (Q2 _ _)))
 have Z:=Q0 E
 have a2:=J5 u.blk
 clear y2 y3 y4 y5 u D U y E C
 go_enter func67,ntmps67
 go_wp2_with fail
 go_region_with (go_at_call 108;refine HG.mono ?_;rintro e w5 ⟨rfl,J⟩;have j:=J4 (Z2 HX) J;have z0:=(JS j).1;have z1:=(JS j).2.1;have z2:=(JS j).2.2.1;have z3:=(JS j).2.2.2.1;have z4:=(JS j).2.2.2.2;have f0:=J1 j 0;have f1:=J1 j 1;have f2:=J1 j 2;have f3:=J1 j 3;have f4:=J1 j 4;have a0:=Q0 j;have N:=Q0 (Z.trans ((J3 (Q2 _ _)).trans (J.mono (Q4 _)) |>.mono Z.size));clear J j)
 all_goals go_wp2_with fail
 all_goals
  refine Hi (g:=w.heap.size) (cs:=J8 o) (v:= .nilIface) (by with_unfolding_all rfl) (by with_unfolding_all rfl) (by with_unfolding_all rfl) ?_ rfl ?_
  ·exact J7 (J7 (J7 (J7 (J7 a0 0 _) 1 _) 2 _) 3 _) 4 _
  refine⟨rfl,N.trans ?_⟩;exact(Qb _ _ _ _ _ _ _).below (B:=w.heap.size) (fun i e=>by have e':i=w.heap.size:=e;omega) N.size
theorem By w b G L1 L2 (h:QY w b G L1 L2) id:
  Calls prog 67 #[IP (some ⟨b,0,none⟩),I O id] w fun e w'=>Below w.heap.size w w'/\((Y0 (L1++L2) id=none/\e= .returned (.tuple #[X5 Y3,U0 7]))\/(∃o,Y0 (L1++L2) id=some o/\e= .returned (.tuple #[X5 o,.nilIface]))):=by
 obtain⟨a,F,M,n,r,f,H,reg,C,i,E,rfl,rfl⟩:=h
 cases y:f id with
 |none=>
  refine(Bw w b a F M n r f H reg C id y).mono ?_;rintro e w' ⟨rfl,u⟩;exact⟨u,.inl ⟨Xq i y,rfl⟩⟩
 |some v=>
  obtain⟨x,j,Q0⟩:=i.hk _ _ y;have D:=i.hf x j;rw[Q0]at D;refine(Fg w b a F M n r f H reg C id x D (i.hM x j)).mono ?_;rintro e w' ⟨rfl,u⟩;exact⟨u,.inr ⟨x.2,by rw[<-Q0];exact Xp i j,rfl⟩⟩
theorem Bp {w r f} (h:P7 w r f) {k x} (e:f k=some (JC x)):(Instr.lookup 150 (.map (some r)) (I O k) false).run prog w=
  .ok (.agg #[I O x.1.1,I O x.1.2,I O x.2.side,I O x.2.price,.bool (x.2.kind ==2)]) w:=by
 have:=h.lookup (P:=prog) PD VN (z:= .agg #[I O 0,I O 0,I O 0,I O 0,.bool false]) (by kernel_rfl) k false
 rw[e]at this
 exact this
theorem Wo w a b c d e:(Instr.field 188 (.agg #[a,b,c,d,e]) 0).run prog w= .ok (.agg #[a,b]) w:=by kernel_rfl
theorem Jl6 {w w' b a r n F F' G M f H reg' x k} (D:U3 M n f H) (y:x∈B4 H) (h1:1<=k) (h2:k<x.2.qty)
  (u: ∀i,G i↔V0 b r F H i) (C:Z9 w' b a F' (W8 M x.1.1 x.1.2 (some (B6 x.2 k))) n r f H reg') (v:Z3 w w' (V0 b r F H) (V0 b r F' H)):FX w w' b G (E9 (H 1).L x.2 k) (E9 (H 2).L x.2 k):=by
 have e: ∀L,E9 L x.2 k=ZW L x.2.id k:=fun L=>by unfold E9;rw[Q3 (by omega)]
 rw[e,e]
 refine⟨V0 b r F' (DP H x.2.id k),⟨a,F',_,n,r,f,DP H x.2.id k,reg',C.recut,D.cut y h1 h2,fun i=>ZP,(Rr _).symm,(Rr _).symm⟩,v.1.mono (fun i j=>(u i).2 j),fun i j=> ?_⟩
 exact(v.2 i (Jj1.1 j)).imp (fun h=>(u i).2 h) id
theorem Dn:Nz:=by
 intro w b G L1 L2 h id n a5
 have a3:=h
 obtain⟨a,F,M,m,r,f,H,reg,hM,u,hG,rfl,rfl⟩:=h
 cases hf:f id with
 |none=>
  have Z:=Xq u hf;have E:BH (H 1).L (H 2).L id n=7:=by unfold BH;rw[Z]
  have D:=Q0 (Bw w b a F M m r f H reg hM id hf);have y:=Q0 E;clear hM u hG hf Z E a3;go_enter func119,ntmps119
  go_wp2_with fail
  refine D.mono ?_;rintro e w1 ⟨rfl,i⟩;have j:=Q0 (i.alloc i.size (.cells #[I O 0,I O 0,I O 0,I O 0,I O 0] 29));rw[show U0 7= .iface 52 (I O 7)from rfl];clear i;go_wp2_with fail
  go_ret;refine .inl ⟨?_, ?_,j⟩
  ·rw[y.out];decide
  rw[y.out];rfl
 |some v=>
  obtain⟨x,hx,a1⟩:=u.hk _ _ hf;have hv:=u.hf x hx;rw[a1]at hv;have Z:=Xp u hx;rw[a1]at Z;have a7:=u.ok x hx;have D:=Q0 (Fg w b a F M m r f H reg hM id x hv (u.hM x hx));have HM:=Q0 hM;have a8:=Q0 u;have HG:=Q0 hG;have Hx:=Q0 hx;have a6:=Q0 a1;have Hv:=Q0 hv;have U:=Q0 Z;have a9:=Q0 a3;have b9:=a7.2.2.2;have c9:=Q0 a5;clear hM u hG hf Z a3 hx a1 hv a7 a5 v;obtain⟨⟨h1,h2⟩,o⟩:=x;dsimp only at D a6 U b9;unfold X5 at D
  by_cases J:n<1
  ·have d1:decide (n<1)=true:=Z5 J
   have E:BH (H 1).L (H 2).L id n=2:=by unfold BH;rw[U.out];exact Q5 (.inl J)
   have y:=Q0 E;clear E J;go_enter func119,ntmps119
   go_wp2_with fail
   refine D.mono ?_;rintro e w1 ⟨rfl,i⟩;have j:=Q0 (i.alloc i.size (.cells #[I O o.id,I O o.side,I O o.kind,I O o.price,I O o.qty] 29));clear i;go_wp2_with fail
   go_ret;refine .inl ⟨?_, ?_,j⟩
   ·rw[y.out];decide
   rw[y.out];rfl
  have d1:decide (n<1)=false:=Z1 J
  by_cases c2:o.qty<n
  ·have d2:decide (o.qty<n)=true:=Z5 c2
   have E:BH (H 1).L (H 2).L id n=2:=by unfold BH;rw[U.out];exact Q5 (.inr c2)
   have y:=Q0 E;clear E J c2;go_enter func119,ntmps119
   go_wp2_with fail
   refine D.mono ?_;rintro e w1 ⟨rfl,i⟩;have j:=Q0 (i.alloc i.size (.cells #[I O o.id,I O o.side,I O o.kind,I O o.price,I O o.qty] 29));clear i;go_wp2_with fail
   go_ret;refine .inl ⟨?_, ?_,j⟩
   ·rw[y.out];decide
   rw[y.out];rfl
  have d2:decide (o.qty<n)=false:=Z1 c2
  by_cases c3:n=o.qty
  ·subst c3
   have d3:(o.qty ==o.qty)=true:=Z0 rfl;go_enter func119,ntmps119
   go_wp2_with fail
   refine D.mono ?_;rintro e w1 ⟨rfl,i⟩;have C:=i.alloc i.size (.cells #[I O o.id,I O o.side,I O o.kind,I O o.price,I O o.qty] 29);have c0:=Q0 (Jk _ b G _ _ (a9.below C) id);have j:=Q0 C;clear i C;go_wp2_with fail
   refine c0.mono ?_;rintro e w2 (⟨h0,-,-⟩|⟨o',h0,rfl,a0⟩)
   ·rw[U.out]at h0
    cases h0
   have b2:=Q0 a0;clear a0 h0;rw[BJ];go_wp2_with fail
   go_ret;obtain⟨G',b0,c6⟩:=b2.out;refine .inr ⟨o,U,by omega,P8 _,rfl,G', ?_,(C1 j).trans c6⟩;unfold E9;rw[Q5 rfl,Q5 rfl,a6.out];exact b0
  have d3:(n ==o.qty)=false:=X3 c3;have hw:RowKit.wrap64 (o.qty-n)=o.qty-n:=by unfold RowKit.wrap64;omega
  go_enter func119,ntmps119
  go_wp2_with fail
  refine D.mono ?_;rintro e w1 ⟨rfl,i⟩;have C:=(i.alloc i.size (.cells #[I O o.id,I O o.side,I O o.kind,I O o.price,I O (o.qty-n)] 29));have N:=HM.below C;obtain⟨y0,y1,-,-,-,-⟩:=N.cells;have a2:=Jh7 (w:=(w1.alloc (.cells #[I O o.id,I O o.side,I O o.kind,I O o.price,I O (o.qty-n)] 29)).drew) (N.below (J3 (Q2 _ _))).ar h1 h2 (by have:=a8.hM _ Hx;dsimp only at this;rw[this];rfl) (B6 o n);unfold X5 B6 at a2;dsimp only at a2;have b8:=Q0 a2;have b1:=Bp N.mp Hv;have b5:=Bp (w:=(w1.alloc (.cells #[I O o.id,I O o.side,I O o.kind,I O o.price,I O (o.qty-n)] 29)).drew) (N.below (J3 (Q2 _ _))).mp Hv;dsimp only at b1 b5;have c5:=Q0 (N.below (J3 (Q2 _ _)));have a4:=J9 w1 29 #[I O o.id,I O o.side,I O o.kind,I O o.price,I O (o.qty-n)];obtain⟨z0,z1,z2,z3,z4⟩:=JS a4;have d0:=J5 N.blk;have c8:=fun W c d e=>Wo W (I O h1) (I O h2) c d e
  have j:=Q0 (C.trans ((J3 (Q2 _ _):Below _ _ (w1.alloc (.cells #[I O o.id,I O o.side,I O o.kind,I O o.price,I O (o.qty-n)] 29)).drew).mono C.size));clear i C N a2 a4;go_wp2_with fail
  go_region_with (go_at_call 170;refine b8.mono ?_;rintro e w5 ⟨rfl,a0⟩;have HT:=Q0 a0;clear a0)
  all_goals go_wp2_with fail
  all_goals
   go_ret;obtain⟨F',reg',c7,c4⟩:=c5.arena HT;exact .inr ⟨o,U,J,c2,rfl,Jl6 (x:=((h1,h2),o)) a8 Hx J (by dsimp only;omega) HG c7 ((C1 j).trans c4)⟩
set_option linter.unusedSimpArgs false
def CK (L:List Q8) (id:Int):List Q8:=S3 L (L.findIdx fun o=>o.id ==id)
theorem Xi {w b off n L} (h:V4 w X9 5 (some ⟨b,off,none⟩) n L) {k} (hk:k<=n):V4 w X9 5 (some ⟨b,off,none⟩) k (L.take k):=by
 have U:=h.1
 refine⟨by rw[T6];omega,fun E=> ?_⟩
 obtain⟨N,J,e,y,D⟩:=h.2 (by omega)
 cases e
 refine⟨b,off,rfl,y,fun i C j u v=> ?_⟩
 rw[T6]at C
 rw[LB]at v
 exact D i (by omega) j u v
theorem Fh {w b off n L} (h:V4 w X9 5 (some ⟨b,off,none⟩) n L) {k} (hk:k<=n):V4 w X9 5 (some ⟨b,off+k*5,none⟩) (n-k) (L.drop k):=by
 have U:=h.1
 refine⟨by rw[KK];omega,fun E=> ?_⟩
 obtain⟨N,J,e,y,D⟩:=h.2 (by omega)
 cases e
 refine⟨b,off+k*5,rfl,y,fun i C j u v=> ?_⟩
 rw[KK]at C
 rw[TD]at v
 have h2:=D (k+i) (by omega) j u v
 rw[show off+ (k+i)*5+j=off+k*5+i*5+j by omega]at h2
 exact h2
theorem Fi {w A L} (h:L.length=0):V4 w X9 5 A 0 L:=⟨h,fun i=>absurd i (by omega)⟩
theorem JV.stores {w w3 W4 W9 B t cs o0 A L0 L} (y:JL w B t cs o0 A L0) (D:Below w.heap.size w w3) (h:JV w3 W4 B t cs o0 A L) (E:w.heap.size<w3.heap.size) (hk:Q6 (fun i=>i=w.heap.size) W4 W9):JV w W9 B t cs o0 A L:=by
 obtain⟨A',c',h1,h2,C⟩:=h
 have J:=y.blt
 have v: ∀g,Q7 A'=some g->Q7 A=some g\/w3.heap.size<=g:=C
 refine⟨A',c',h1.keeps hk (fun e=>by have e:B=w.heap.size:=e;omega) (fun g u e=> ?_),((U1 D _).trans h2 (fun i e=> .inl e)).trans hk (fun i e=> .inr (by have e:i=w.heap.size:=e;omega)),fun g u=> ?_⟩
 ·have e:g=w.heap.size:=e
  rcases v g u with j|j
  ·have:=y.lt g j;omega
  omega
 rcases v g u with j|j
 ·exact .inl j
 exact .inr (by omega)
theorem Qk1 {L id} (h:Y0 L id=none):CK L id=L:=by
 have e:L.findIdx (fun o=>o.id ==id)=L.length:=by
  rw[List.findIdx_eq_length];intro o i;unfold Y0 at h;have:=EY.1 h o i;simpa using this
 unfold CK S3
 rw[e]
 simp
theorem Do w B t cs o0 A L (h:JL w B t cs o0 A L) (hn:L.length<=100000) id:
  Calls prog 69 #[IP (some ⟨B,o0,none⟩),I O id] w fun e w'=>e= .returned (.tuple #[X5 (SR L id),I O (SP L id)])/\JV w w' B t cs o0 A (CK L id):=by
 have d0:Below w.heap.size w (w.alloc (.cells #[I O 0,I O 0,I O 0,I O 0,I O 0] 29)):=(Q2 _ _).alloc (Q4 _) _
 have HX:=Q0 (J9 w 29 #[I O 0,I O 0,I O 0,I O 0,I O 0])
 have HI:=Q0 (Un _ B t cs o0 A L (h.below d0) hn id)
 have HR:=Q0 h
 have HB:=Q0 d0
 have g0:=h.blt
 have f8:L.length<=100000:=hn
 obtain⟨i0,c5,b5,c4,c3⟩:=N0 Xo
 clear h d0 hn
 go_enter func69,ntmps69
 go_wp2_with fail
 refine HI.mono ?_
 rintro e w2 ⟨rfl,b9⟩
 have a1:=J4 HX b9
 have d3:=Q0 a1
 have b8:=Q0 (HB.trans (b9.mono HB.size))
 rcases WK L id with⟨hi,hg⟩|⟨k,hk,hi,d7,f9,hg⟩
 ·have HG:=Q0 hg
  rw[hi];have d1:(-1:Int)<0:=by omega
  obtain⟨z0,z1,z2,z3,z4⟩:=Ro a1;have f0:=J1 a1 0;have f1:=J1 a1 1;have f2:=J1 a1 2;have f3:=J1 a1 3;have f4:=J1 a1 4;clear hi hg a1 b9 HI;go_wp2_with fail
  refine Ms Tryz.results69 (cs:= #[I O 0,I O 0,I O 0,I O 0,I O 0]) (v:=I O 7) w.heap.size rfl (by with_unfolding_all rfl) (by with_unfolding_all rfl) (by with_unfolding_all rfl) (J7 (J7 (J7 (J7 (J7 d3 0 _) 1 _) 2 _) 3 _) 4 _) ?_;refine⟨?_, ?_⟩
  ·unfold SR SP
   rw[HG.out]
   rfl
  rw[Qk1 HG.out];exact LM HR (((((b8.setCell (Q4 _) _).setCell (Q4 _) _).setCell (Q4 _) _).setCell (Q4 _) _).setCell (Q4 _) _)
 have HG:=Q0 hg
 rw[hi]
 have g2:(0:Int)<=(k:Int):=by omega
 have d1: ¬(k:Int)<0:=by omega
 have e5:(k:Int)< ((L.length:Nat):Int):=by omega
 have a6:=HR.below b8
 obtain⟨c,N,e7,e4⟩:=a6.cell
 obtain⟨b,C,hA⟩: ∃b C,A=some ⟨b,C,none⟩:=by obtain⟨b,C,h1,_⟩:=a6.els.2 (by omega);exact⟨b,C,h1⟩
 subst hA
 obtain⟨x0,x1,x2,x3,x4⟩:=CW a6.els hk
 obtain⟨o,EO⟩: ∃o,Hid (L[k]=o):=⟨_,Q0 rfl⟩
 rw[EO.out]at x0 x1 x2 x3 x4 HG
 obtain⟨n,hn⟩:=exq L.length
 have a5:=Q0 a6.els
 rw[hn]at N e5 hk e7 a5 f8
 have f6:=Q0 (show CK L id=S3 L k by unfold CK;rw[d7])
 have f5:=Q0 a6
 have HN:=Q0 hn
 unfold maxLen at e4
 clear hi hg a6 f9 hn d7 b9 a1 HI
 go_upto_region 5 with fail
 obtain⟨w3,c0⟩:=exq (w2.alloc (.cells #[I O o.id,I O o.side,I O o.kind,I O o.price,I O o.qty] 29))
 obtain⟨gx,b2⟩:=exq w2.heap.size
 have D:Below w2.heap.size w2 w3:=by rw[<-c0];exact(Q2 _ _).alloc (Q4 _) _
 have d8:=Q0 (show Q1 w3 gx 29 (J8 o) by rw[<-c0,<-b2];exact J9 w2 _ _)
 have f7:=Q0 (b8.trans (D.mono b8.size))
 have h2:w.heap.size<gx:=by rw[<-b2];exact J5 d3
 have e9:=Q0 (J4 d3 D)
 have c6:=Q0 (f5.below D)
 have a5:=Q0 (a5.below D (Q4 _))
 have N:w3.cell? ⟨B,o0,none⟩=some (.slice (some ⟨b,C,none⟩) n c):=(D.cell (V6 w2 _ N)).trans N
 rw[c0,b2]
 have g8:gx<w3.heap.size:=J5 d8
 clear c0 b2 D x0 x1 x2 x3 x4
 have E:=Q0 (show∀W,Below w3.heap.size w3 W->W.cell? ⟨B,o0,none⟩=some (.slice (some ⟨b,C,none⟩) n c)from fun W hb=>(hb.cell (V6 w3 _ N)).trans N)
 have e1:=Q0 (show∀W,Below w3.heap.size w3 W->W.frozen? ⟨B,o0,none⟩=false from fun W hb=>J1 (J4 c6.blk hb) o0)
 have g4:(k:Int)<=(c:Int):=by omega
 have h0:(k:Int)+1<=(c:Int):=by omega
 have g3:(k:Int)+1<=(n:Int):=by omega
 have g9:(n:Int)<=(c:Int):=by omega
 go_cut [37] (fun g1 wx=> ∃J c2 W,J2 W J (n-1) c2 29 5 (Q9 X9 (S3 L k))/\Below w3.heap.size w3 W/\(∀g,Q7 J=some g->w3.heap.size<=g)/\wx=W.setCell ⟨B,o0,none⟩ (.slice J (n-1) c2))
 case first=>
  by_cases d9:k+1=c
  ·obtain rfl:c=k+1:=d9.symm
   obtain rfl:n=k+1:=by omega
   have e6:IntKind.i64.wrap ((k:Int)+1)=(k:Int)+1:=by rw[AW];omega
   have g5: ¬(k:Int)+1< (k:Int):=by omega
   have g6: ¬(k:Int)+1<0:=by omega
   clear d9;refine CH 19 (fun W=>W.cell? ⟨B,o0,none⟩=some (.slice (some ⟨b,C,none⟩) (k+1) (k+1))) (by kernel_rfl) N (fun y=> ?_);refine tT 0 (IP (some ⟨B,o0,none⟩)) ?_;refine tT 2 (IP (some ⟨B,o0,none⟩)) ?_;refine tT 3 (IP (some ⟨B,o0,none⟩)) ?_;refine tT 4 (IP (some ⟨B,o0,none⟩)) ?_;refine tT 5 (.slice (some ⟨b,C,none⟩) (k+1) (k+1)) ?_;refine tT 6 (I O k) ?_;refine tT 7 (.slice (some ⟨b,C,none⟩) k (k+1)) ?_;refine tT 9 (IP (some ⟨B,o0,none⟩)) ?_;refine tT 10 (IP (some ⟨B,o0,none⟩)) ?_;refine tT 11 (IP (some ⟨B,o0,none⟩)) ?_;refine tT 12 (.slice (some ⟨b,C,none⟩) (k+1) (k+1)) ?_;refine tT 13 (I O k) ?_;refine tT 14 (I O ((k:Int)+1)) ?_;refine tT 15 (.slice (some ⟨b,C,none⟩) 0 0) ?_;clear N y;have u:=Q0 (show Below w3.heap.size w3 w3 from Q2 _ _);refine Y8 1 (by kernel_rfl) rfl (fun U j=> ?_);go_simp;obtain⟨v1,a3⟩:=exq ((w3.alloc (.cells #[] 29)).drew);have D:Below w3.heap.size w3 v1:=by rw[<-a3];exact J3 ((Q2 _ _).alloc (Q4 _) _)
   have d4:=Q0 (show J2 v1 (some ⟨w3.heap.size,0,none⟩) 0 0 29 5 [] by rw[<-a3];exact GA _ _ _);rw[a3];clear a3;have u:=Q0 D;have Z:=Q0 u.size;clear D;refine j _ _ (E _ u) (fun y=> ?_);clear j y;refine Y8 8 (by kernel_rfl) rfl (fun U j=> ?_);refine KS H6 JK (by rfl) _ _ _ (by rfl) 29 i0 _ 40 QM c5 b5 c4 c3 rfl (by omega) (some ⟨w3.heap.size,0,none⟩) 0 0 [] (by rfl) d4 (some ⟨b,C,none⟩) k (k+1) (L.take k) (by rfl) (Xi (a5.below u (Q4 _)) (by omega)) (by unfold maxLen;omega) (by omega) ?_;intro A1 c1 v2 a4 a8 a9;rw[QQ,VZ]at a4;rw[QQ];have c7:=Q0 a4;have b1:=Q0 (ZY a9 (KE (Q4 _)) Z);have u:=Q0 (ZQ u a8 (KE (Q4 _)) Z);have Z:=Q0 u.size;clear a4 a8 a9;refine j _ _ (E _ u) (fun y=> ?_);clear j y;simp only[Act.put,List.setIfInBounds_toArray,List.set_cons_zero,List.set_cons_succ];refine Y8 16 (by kernel_rfl) rfl (fun U j=> ?_);refine KS H6 JK (by rfl) _ _ _ (by rfl) 29 i0 _ 40 QM c5 b5 c4 c3 rfl (by omega) (A1) k c1 (Q9 X9 (L.take k)) (by rfl) c7 (some ⟨b,C,none⟩) 0 0 (L.drop (k+1)) (by rfl) (Fi (by rw[KK];have:=HN.out;omega)) (by unfold maxLen;omega) (by omega) ?_;intro J c2 v3 a0 b0 a7;rw[show k+0=(k+1)-1 by omega]at a0;rw[show k+0=(k+1)-1 by omega];have d6:=Q0 a0;have d5:=Q0 (ZY a7 b1 Z);have u:=Q0 (ZQ u b0 b1 Z);clear a0 b0 a7;refine j _ _ (E _ u) (fun y=> ?_);clear j y;simp only[Act.put,List.setIfInBounds_toArray,List.set_cons_zero,List.set_cons_succ];refine Y8 17 (by kernel_rfl) rfl (fun U j=> ?_);go_simp;refine j _ _ (E _ u) (fun y=> ?_);clear j y;refine Y8 18 (by kernel_rfl) rfl (fun U j=> ?_);go_simp;refine j _ _ (E _ u) (fun y=> ?_);clear j y;have c8:=e1.out _ u;have d2:=E.out _ u;refine YY (by kernel_rfl) rfl (fun U j=> ?_);go_simp;refine j _ _ (YU (by kernel_rfl) ?_ _);clear j c8 d2;go_wp2_with fail
   go_meet;exact⟨J,c2,v3,by have h:=d6.out;unfold S3;rw[DB];exact h,u,d5,rfl⟩
  have h3: ¬c=k+1:=by omega
  have e6:IntKind.i64.wrap ((k:Int)+1)=(k:Int)+1:=by rw[AW];omega
  have g7:(0:Int)<=(k:Int)+1:=by omega
  refine CH 19 (fun W=>W.cell? ⟨B,o0,none⟩=some (.slice (some ⟨b,C,none⟩) n c)) (by kernel_rfl) N (fun y=> ?_);refine tT 0 (IP (some ⟨B,o0,none⟩)) ?_;refine tT 2 (IP (some ⟨B,o0,none⟩)) ?_;refine tT 3 (IP (some ⟨B,o0,none⟩)) ?_;refine tT 4 (IP (some ⟨B,o0,none⟩)) ?_;refine tT 5 (.slice (some ⟨b,C,none⟩) n c) ?_;refine tT 6 (I O k) ?_;refine tT 7 (.slice (some ⟨b,C,none⟩) k c) ?_;refine tT 9 (IP (some ⟨B,o0,none⟩)) ?_;refine tT 10 (IP (some ⟨B,o0,none⟩)) ?_;refine tT 11 (IP (some ⟨B,o0,none⟩)) ?_;refine tT 12 (.slice (some ⟨b,C,none⟩) n c) ?_;refine tT 13 (I O k) ?_;refine tT 14 (I O ((k:Int)+1)) ?_;refine tT 15 (.slice (some ⟨b,C+ (k+1)*5,none⟩) (n- (k+1)) (c- (k+1))) ?_;clear N y;have u:=Q0 (show Below w3.heap.size w3 w3 from Q2 _ _);refine Y8 1 (by kernel_rfl) rfl (fun U j=> ?_);go_simp;obtain⟨v1,a3⟩:=exq ((w3.alloc (.cells #[] 29)).drew);have D:Below w3.heap.size w3 v1:=by rw[<-a3];exact J3 ((Q2 _ _).alloc (Q4 _) _)
  have d4:=Q0 (show J2 v1 (some ⟨w3.heap.size,0,none⟩) 0 0 29 5 [] by rw[<-a3];exact GA _ _ _);rw[a3];clear a3;have u:=Q0 D;have Z:=Q0 u.size;clear D;refine j _ _ (E _ u) (fun y=> ?_);clear j y;refine Y8 8 (by kernel_rfl) rfl (fun U j=> ?_);refine KS H6 JK (by rfl) _ _ _ (by rfl) 29 i0 _ 40 QM c5 b5 c4 c3 rfl (by omega) (some ⟨w3.heap.size,0,none⟩) 0 0 [] (by rfl) d4 (some ⟨b,C,none⟩) k c (L.take k) (by rfl) (Xi (a5.below u (Q4 _)) (by omega)) (by unfold maxLen;omega) (by omega) ?_;intro A1 c1 v2 a4 a8 a9;rw[QQ,VZ]at a4;rw[QQ];have c7:=Q0 a4;have b1:=Q0 (ZY a9 (KE (Q4 _)) Z);have u:=Q0 (ZQ u a8 (KE (Q4 _)) Z);have Z:=Q0 u.size;clear a4 a8 a9;refine j _ _ (E _ u) (fun y=> ?_);clear j y;simp only[Act.put,List.setIfInBounds_toArray,List.set_cons_zero,List.set_cons_succ];refine Y8 16 (by kernel_rfl) rfl (fun U j=> ?_);refine KS H6 JK (by rfl) _ _ _ (by rfl) 29 i0 _ 40 QM c5 b5 c4 c3 rfl (by omega) (A1) k c1 (Q9 X9 (L.take k)) (by rfl) c7 (some ⟨b,C+ (k+1)*5,none⟩) (n- (k+1)) (c- (k+1)) (L.drop (k+1)) (by rfl) (Fh (a5.below u (Q4 _)) (by omega)) (by unfold maxLen;omega) (by omega) ?_;intro J c2 v3 a0 b0 a7;rw[show k+ (n- (k+1))=n-1 by omega]at a0;rw[show k+ (n- (k+1))=n-1 by omega];have d6:=Q0 a0;have d5:=Q0 (ZY a7 b1 Z);have u:=Q0 (ZQ u b0 b1 Z);clear a0 b0 a7;refine j _ _ (E _ u) (fun y=> ?_);clear j y;simp only[Act.put,List.setIfInBounds_toArray,List.set_cons_zero,List.set_cons_succ];refine Y8 17 (by kernel_rfl) rfl (fun U j=> ?_);go_simp;refine j _ _ (E _ u) (fun y=> ?_);clear j y;refine Y8 18 (by kernel_rfl) rfl (fun U j=> ?_);go_simp;refine j _ _ (E _ u) (fun y=> ?_);clear j y;have c8:=e1.out _ u;have d2:=E.out _ u;refine YY (by kernel_rfl) rfl (fun U j=> ?_);go_simp;refine j _ _ (YU (by kernel_rfl) ?_ _);clear j c8 d2;go_wp2_with fail
  go_meet;exact⟨J,c2,v3,by have h:=d6.out;unfold S3;rw[DB];exact h,u,d5,rfl⟩
 obtain⟨J,c2,W,a0,hb,ha,rfl⟩:=hcut
 have c9:=XP (J4 d8 hb) (p:=⟨B,o0,none⟩) (by have:=c6.blt;show gx≠B;omega) (.slice J (n-1) c2)
 have a2:=XP (J4 e9 hb) (p:=⟨B,o0,none⟩) (by show w.heap.size≠B;omega) (.slice J (n-1) c2)
 have e2:=Q0 (c6.put hb a0 ha)
 obtain⟨W4,e3⟩:=exq (W.setCell ⟨B,o0,none⟩ (.slice J (n-1) c2))
 rw[e3]at c9 a2 e2|-
 obtain⟨x0,x1,x2,x3,x4⟩:=Z6 c9
 obtain⟨z0,z1,z2,z3,z4⟩:=Ro a2
 have f0:=J1 a2 0
 have f1:=J1 a2 1
 have f2:=J1 a2 2
 have f3:=J1 a2 3
 have f4:=J1 a2 4
 have e8:=Q0 a2
 clear c9 a2 e3 a0 hb ha N
 go_wp2_with fail
 refine Ms Tryz.results69 (cs:=J8 o) (v:=I O 0) w.heap.size rfl (by with_unfolding_all rfl) (by with_unfolding_all rfl) (by with_unfolding_all rfl) (J7 (J7 (J7 (J7 (J7 e8 0 _) 1 _) 2 _) 3 _) 4 _) ?_
 refine⟨?_, ?_⟩
 ·unfold SR SP
  rw[HG.out]
  rfl
 rw[f6.out]
 exact JV.stores HR f7 e2 (by omega) (((((V2 _ ⟨w.heap.size,0,none⟩ _).trans (V2 _ ⟨w.heap.size,1,none⟩ _) (fun i e=> .inl e)).trans (V2 _ ⟨w.heap.size,2,none⟩ _) (fun i e=> .inl e)).trans (V2 _ ⟨w.heap.size,3,none⟩ _) (fun i e=> .inl e)).trans (V2 _ ⟨w.heap.size,4,none⟩ _) (fun i e=> .inl e))
theorem Jc8 w D J s p (N:Z4 s) o (C:w.cell? ⟨D,0,none⟩=some (I O s)) (E:w.cell? ⟨J,0,none⟩=some (I O p)):
  Calls prog 169 #[X5 o,IP (some ⟨D,0,none⟩),IP (some ⟨J,0,none⟩)] w fun e w'=>e= .returned (.bool (KB s p o))/\Below w.heap.size w w':=by
 unfold X5
 have y:Below w.heap.size w (w.alloc (.cells #[I O o.id,I O o.side,I O o.kind,I O o.price,I O o.qty] 29)):=(Q2 _ _).alloc (Q4 _) _
 have U:=(y.cell (p:=⟨D,0,none⟩) (V6 w _ C)).trans C
 have Z:=(y.cell (p:=⟨J,0,none⟩) (V6 w _ E)).trans E
 have u:=Q0 y
 clear y C E
 by_cases hk:o.kind=2
 ·have v:=Z0 hk
  have j:Hid (KB s p o=true):=Q0 (by unfold KB;rw[v];rfl);clear hk N;go_enter func169,ntmps169
  go_wp2;go_ret;exact⟨T2 (by rw[j.out]),u⟩
 have v:=X3 hk
 rcases N with rfl|rfl
 ·have j:Hid (KB 1 p o=decide (p<=o.price)):=Q0 (by unfold KB;rw[v];simp)
  by_cases hp:p<=o.price
  ·have i:=Z5 hp
   clear hk hp;go_enter func169,ntmps169
   go_wp2;go_ret;exact⟨T2 (by rw[j.out,i]),u⟩
  have i:=Z1 hp;clear hk hp;go_enter func169,ntmps169
  go_wp2;go_ret;exact⟨T2 (by rw[j.out,i]),u⟩
 have j:Hid (KB 2 p o=decide (o.price<=p)):=Q0 (by unfold KB;rw[v];simp)
 by_cases hp:o.price<=p
 ·have i:=Z5 hp
  clear hk hp;go_enter func169,ntmps169
  go_wp2;go_ret;exact⟨T2 (by rw[j.out,i]),u⟩
 have i:=Z1 hp
 clear hk hp
 go_enter func169,ntmps169
 go_wp2
 go_ret
 exact⟨T2 (by rw[j.out,i]),u⟩
structure Qf (w wr:World) (A:Option Addr) (c:Nat) (L:List Q8) (B1 B2:Nat) (s p:Int):Prop where
 row:J2 wr A L.length c 29 5 (Q9 X9 L)
 c1:wr.cell? ⟨B1,0,none⟩=some (I O s)
 c2:wr.cell? ⟨B2,0,none⟩=some (I O p)
 old:Below w.heap.size w wr
theorem Qf.below {w wr w' A c L B1 B2 s p} (h:Qf w wr A c L B1 B2 s p) (i:Below wr.heap.size wr w'):Qf w w' A c L B1 B2 s p:=
 ⟨h.row.below i,(i.cell (p:=⟨B1,0,none⟩) (V6 wr _ h.c1)).trans h.c1,(i.cell (p:=⟨B2,0,none⟩) (V6 wr _ h.c2)).trans h.c2,h.old.trans (i.mono h.old.size)⟩
theorem WQ {s p L} (h: ∀o∈L,1<=o.qty/\o.qty<=1000000):0<=C7 s p L/\C7 s p L<=1000000*L.length:=by
 unfold C7
 induction L with
 |nil=>simp[T5]
 |cons o t i=>
  have h1:=h o (by simp);have h2:=i (fun y hy=>h y (by simp[hy]));simp only[T5,List.length_cons]
  split<;>omega
theorem QC {w A n c sz t xs} (h:J2 w A n c t sz xs) (v:0<n): ∃g,A=some ⟨g,0,none⟩:=by
 rcases h.2 with⟨_,j⟩|⟨g,cap,u,i,_⟩
 ·omega
 cases i;exact⟨g,rfl⟩
theorem Bd w b G L1 L2 (h:QY w b G L1 L2) s p (hs:Z4 s):
  Calls prog 117 #[IP (some ⟨b,0,none⟩),I O s,I O p] w fun e w'=>e= .returned (I O (C7 s p (X6 s L1 L2)))/\Below w.heap.size w w':=by
 have d1: ∀fn first cap w,(Instr.makeFunc fn first cap).run prog w= .ok (.func fn first cap) w:=fun _ _ _ _=>rfl
 have eg:=XH func169 (by kernel_rfl) rfl
 have Z:=h.lists
 obtain⟨L,N⟩:=exq (X6 s L1 L2)
 have b5: ∀o∈L,1<=o.qty/\o.qty<=1000000:=by
  intro o j;rw[<-N]at j;have hm:o∈L1++L2:=by
   unfold X6 at j
   split at j
   ·exact S9 _ j
   exact QB _ j
  exact(Z.ok o hm).2.2.2
 have d0:L.length<=100:=by
  have h1:=Z.cnt;rw[Y9]at h1;rw[<-N];unfold X6
  split<;>omega
 have b9:Below w.heap.size w (w.alloc (.cells #[I O s] 3)):=(Q2 _ w).alloc (Q4 _) _
 have a5:Below w.heap.size w ((w.alloc (.cells #[I O s] 3)).alloc (.cells #[I O p] 3)):=b9.alloc (by simp) _
 have b2:((w.alloc (.cells #[I O s] 3)).alloc (.cells #[I O p] 3)).cell? ⟨w.heap.size,0,none⟩=some (I O s):=J0 (G7 (J9 w 3 #[I O s]) _) 0
 have a8:((w.alloc (.cells #[I O s] 3)).alloc (.cells #[I O p] 3)).cell? ⟨w.heap.size+1,0,none⟩=some (I O p):=by
  have:=J0 (J9 (w.alloc (.cells #[I O s] 3)) 3 #[I O p]) 0;rw[PL]at this;exact this
 have v:=Q0 (PT _ b G L1 L2 (h.below a5) s hs)
 rw[N]at v|-
 have a3:=Q0 a5
 have a0:=Q0 b2
 have a1:=Q0 a8
 have b0:=Q0 b5
 have HS:=Q0 hs
 clear b9 a5 b2 a8 h Z N hs b5
 go_enter func117,ntmps117
 go_wp2_with fail
 refine v.mono ?_
 rintro e w3 ⟨E,A,c,rfl,c5,-⟩
 have HW:=Q0 (show Qf w w3 A c L w.heap.size (w.heap.size+1) s p from⟨c5,(E.cell (p:=⟨w.heap.size,0,none⟩) (V6 _ _ a0)).trans a0,(E.cell (p:=⟨w.heap.size+1,0,none⟩) (V6 _ _ a1)).trans a1,a3.trans (E.mono a3.size)⟩)
 obtain⟨n,hn⟩:=exq L.length
 rw[hn]
 have Hn:=Q0 hn
 have d3:n<=100:=by omega
 clear E c5 v a3 a0 a1 d0 hn
 go_wp2_with fail
 go_loopg [7,22] n (fun g s7 c8 wr=> ∃i,i<=n/\g=n-i/\c8=I O i/\s7=I O (C7 s p (L.take i))/\Hid (Qf w wr A c L w.heap.size (w.heap.size+1) s p))
 case atStart=>exact⟨0,V5 _,rfl,rfl,rfl,HW⟩
 obtain⟨i,hi,rfl,rfl,rfl,u⟩:=hrel
 clear HW
 by_cases c6:i<n
 ·have b1:i<L.length:=by rw[Hn.out];exact c6
  obtain⟨g,hg⟩:=QC u.row (by omega);subst hg;obtain⟨x0,x1,x2,x3,x4⟩:=BZ u.row b1;obtain⟨o,j⟩:=exq (L[i]);have d4:=b0.out o (by rw[<-j];exact Y1 _);rw[j]at x0 x1 x2 x3 x4;have D:=Q0 (show C7 s p (L.take (i+1))=C7 s p (L.take i)+ (if KB s p o=true then o.qty else 0) by
   rw[M8 b1,Cm,j];unfold C7;simp only[T5];omega)
  have c4:=WQ (s:=s) (p:=p) (fun y hy=>b0 y (AT hy): ∀y∈L.take i,_);rw[T6,Hn.out,PR (by omega)]at c4;obtain⟨C,c0⟩:=exq (C7 s p (L.take i));rw[c0]at D c4|-;have i1:RowKit.wrap64 (C+o.qty)=C+o.qty:=by unfold RowKit.wrap64;omega
  have a6:Below wr.heap.size wr (wr.alloc (.cells #[I O o.id,I O o.side,I O o.kind,I O o.price,I O o.qty] 29)):=(Q2 _ _).alloc (Q4 _) _;have J:=u.below a6;have a4:=Jc8 _ w.heap.size (w.heap.size+1) s p HS o J.c1 J.c2;unfold X5 at a4;have v:=Q0 a4;have a9:=Q0 (J9 wr 29 #[I O o.id,I O o.side,I O o.kind,I O o.price,I O o.qty]);have c3:=Q0 J;have c9:(i:Int)< (n:Int):=by omega
  have d2:(0:Int)<=(i:Int):=by omega
  clear a4 J a6 j c0;go_wp2_with fail
  refine v.mono ?_;rintro e w5 ⟨rfl,a2⟩;have a7:=J4 a9 a2;have z4:w5.cell? ⟨wr.heap.size,4,none⟩=some (I O o.qty):=by rw[J0 a7];rfl
  have b8:=Q0 (c3.below a2);obtain⟨q,hq⟩:=exq (KB s p o);rw[hq]at D|-;clear a7 a2 v c3 a9 u x0 x1 x2 x3 x4 hq
  cases q with
  |true=>
   have U:=Q0 (show C+o.qty=C7 s p (L.take (i+1)) by rw[D.out,Q5 rfl]);go_wp2_with fail
   go_roundg (n- (i+1))
   case measure=>omega
   exact⟨i+1,by omega,rfl,by go_num,by rw[<-U.out],b8⟩
  |false=>
   have U:=Q0 (show C=C7 s p (L.take (i+1)) by rw[D.out,Q3 (by decide)];omega);go_wp2_with fail
   go_roundg (n- (i+1))
   case measure=>omega
   exact⟨i+1,by omega,rfl,by go_num,by rw[<-U.out],b8⟩
 obtain rfl:i=n:=by omega
 have c9: ¬(i:Int)< (i:Int):=by omega
 have c7:L.take i=L:=N7 (by rw[Hn.out];exact Q4 _)
 rw[c7]
 have HO:=Q0 u.old
 clear u
 go_wp2_with fail
 go_ret
 exact⟨rfl,HO⟩
