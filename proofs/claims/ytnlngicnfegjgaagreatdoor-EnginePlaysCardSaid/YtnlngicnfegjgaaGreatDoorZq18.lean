/- Parts. -/
import Derived.Test.YtnlngicnfegjgaaGreatDoorZq14
set_option linter.unusedVariables false
set_option maxRecDepth 100000
set_option maxHeartbeats 8000000
open Go.Proofs.Tryz
open Go.Value renaming int→I,pointer→IP
open Go.IntKind renaming i64→O
namespace Go.Proofs.YtnlngicnfegjgaaGreatDoor
open Go.RowKit
def GS (lo hi:Int) (xs:List Int):Bool:=xs.all fun n=>decide (lo<=n) &&decide (n<=hi)
theorem Qi6 j i (xs:List Int) k (hk:k<xs.length):
  GS j i (xs.take (k+1))=(GS j i (xs.take k) && (decide (j<=xs[k]) &&decide (xs[k]<=i))):=by
 unfold GS
 rw[M8 hk,List.all_append]
 simp
theorem Mi j i xs k (hk:k<xs.length) (h: ¬(j<=xs[k]/\xs[k]<=i)):GS j i xs=false:=by
 unfold GS
 rw[List.all_eq_false]
 exact⟨xs[k],Y1 hk,by simpa using h⟩
theorem Qi7 y v b c xs w (hl:xs.length<=10)
  (E: ∀j (h:j<xs.length),w.cell? ⟨b,j,none⟩=some (I O xs[j])):
  Calls prog 85 #[I O y,I O v,.slice (some ⟨b,0,none⟩) xs.length c] w fun e w'=>
   e= .returned (.bool (GS y v xs))/\w=w':=by
 go_enter func85,ntmps85
 go_wp2
 go_loop [11] (fun i=> ∃k,k<=xs.length/\i=I O k/\GS y v (xs.take k)=true) (fun i=>xs.length- (RowKit.intOf i).toNat)
 case atStart=>exact⟨0,V5 _,rfl,rfl⟩
 obtain⟨k,hk,rfl,C⟩:=hrel
 by_cases D:k<xs.length
 ·have Z:=E k D
  have N:=Q0 C;clear C E
  by_cases h1:y<=xs[k]
  ·by_cases h2:xs[k]<=v
   ·have u:=Qi6 y v xs k D
    have J:GS y v (xs.take (k+1))=true:=by rw[u,N.out];simp[h1,h2]
    have U:=Q0 J;clear J u;go_wp2
    go_round
    case rel=>exact⟨k+1,by omega,by go_num,U⟩
    simp[RowKit.intOf];omega
   have u:=Q0 (Mi y v xs k D (by omega));go_wp2;go_ret;exact⟨T2 u.symm,rfl⟩
  have u:=Q0 (Mi y v xs k D (by omega));go_wp2;go_ret;exact⟨T2 u.symm,rfl⟩
 have u:=Q0 C
 clear C
 go_wp2
 go_ret
 exact⟨T2 (by rw[<-u.out,N7 (by omega)]),rfl⟩
theorem LL u i x n (w:World) (v:n=w.heap.size):
  Calls prog 85 #[I O u,I O i,.slice (some ⟨n,0,none⟩) 1 1] (w.alloc (.cells #[I O x] 3)) fun e w'=>
   e= .returned (.bool (decide (u<=x) &&decide (x<=i)))/\w.alloc (.cells #[I O x] 3)=w':=by
 subst v
 refine(Qi7 u i _ 1 [x] _ (by simp) ?_).mono ?_
 ·intro j h;simp at h;subst h;simp
 rintro e w' ⟨rfl,rfl⟩;simp[GS]
def H9 (p q:Int):Bool:=(decide (1<=p) &&decide (p<=1000000)) && (decide (1<=q) &&decide (q<=1000000))
theorem DF {p s}:H9 p s=true↔1<=p/\p<=1000000/\1<=s/\s<=1000000:=by simp[H9,and_assoc]
theorem CS p q w:Calls prog 43 #[I O p,I O q] w fun e w'=>
  e= .returned (.bool (H9 p q))/\Below w.heap.size w w':=by
 by_cases h1:(decide (1<=p) &&decide (p<=1000000))=true
 ·have i:H9 p q=(decide (1<=q) &&decide (q<=1000000)):=by rw[H9,h1];rfl
  rw[i];have j:=Q0 h1;clear h1 i;go_enter func43,ntmps43
  go_wp2_with fail
  refine(LL _ _ _ _ _ (by simp)).mono ?_;rintro e w' ⟨rfl,rfl⟩;rw[j.out];go_wp2_with fail
  refine(LL _ _ _ _ _ (by simp)).mono ?_;rintro e w' ⟨rfl,rfl⟩;go_wp2;go_ret;exact⟨rfl,((Q2 _ w).alloc (Q4 _) _).alloc (by simp) _⟩
 have u:(decide (1<=p) &&decide (p<=1000000))=false:=by simpa using h1
 have i:H9 p q=false:=by rw[H9,u];rfl
 rw[i]
 have j:=Q0 u
 clear h1 u i
 go_enter func43,ntmps43
 go_wp2_with fail
 refine(LL _ _ _ _ _ (by simp)).mono ?_
 rintro e w' ⟨rfl,rfl⟩
 rw[j.out]
 go_wp2
 go_ret
 exact⟨rfl,(Q2 _ w).alloc (Q4 _) _⟩
def V3 (o:Q8):Q8:=⟨o.id,o.side,o.kind,if o.kind=2 then 1 else o.price,o.qty⟩
def XW (o:Q8):Bool:=decide ((o.side=1\/o.side=2)/\1<=o.id)
def JH (o:Q8):Bool:=H9 (V3 o).price o.qty
theorem Ji1 w b o (h:XW o=false):
  Calls prog 93 #[IP (some ⟨b,0,none⟩),X5 o] w fun e w'=>e= .returned (U0 1)/\Below w.heap.size w w':=by
 have i:=Q0 (show Below w.heap.size w (w.alloc (.cells (J8 o) 29))from(Q2 _ w).alloc (Q4 _) _)
 obtain⟨id,side,y,D,C⟩:=o
 unfold XW at h
 simp only[decide_eq_false_iff_not]at h
 unfold X5
 dsimp only at h|-
 by_cases h1:side=1
 ·have j:=JW h1
  have u:decide (id<1)=true:=Z5 (by omega);clear h h1;go_enter DD,DA
  go_wp2_with fail
  go_ret;exact⟨rfl,i⟩
 have j:=JF h1
 by_cases h2:side=2
 ·have v:=JW h2
  have u:decide (id<1)=true:=Z5 (by omega);clear h h1 h2;go_enter DD,DA
  go_wp2_with fail
  go_ret;exact⟨rfl,i⟩
 have v:=JF h2
 clear h h1 h2
 go_enter DD,DA
 go_wp2_with fail
 go_ret
 exact⟨rfl,i⟩
theorem GG {o}:XW o=true↔(o.side=1\/o.side=2)/\1<=o.id:=by unfold XW;simp
theorem Qr6 w b o (h:XW o=true) (v:JH o=false):
  Calls prog 93 #[IP (some ⟨b,0,none⟩),X5 o] w fun e w'=>e= .returned (U0 2)/\Below w.heap.size w w':=by
 have i:=Q0 (show Below w.heap.size w (w.alloc (.cells (J8 (V3 o)) 29))from(Q2 _ w).alloc (Q4 _) _)
 obtain⟨y,D⟩:=GG.1 h
 obtain⟨id,side,J,U,Z⟩:=o
 unfold X5
 unfold JH V3 at v
 unfold V3 J8 at i
 dsimp only at*
 have N:decide (id<1)=false:=Z1 (by omega)
 have j:=Q0 v
 clear h D v
 rcases y with rfl|rfl
 all_goals
  by_cases hk:J=2
  ·have E:=Z0 hk
   rw[Q5 hk]at j i;have C:=Q0 hk;clear hk;go_enter DD,DA
   go_wp2_with (go_at_call 43;refine(CS _ _ _).mono ?_;rintro e w1 ⟨rfl,u⟩;rw[j.out])
   go_ret;exact⟨rfl,i.trans (u.mono (by simp))⟩
  have E:=X3 hk;rw[Q3 hk]at j i;have C:=Q0 hk;clear hk;go_enter DD,DA
  go_wp2_with (go_at_call 43;refine(CS _ _ _).mono ?_;rintro e w1 ⟨rfl,u⟩;rw[j.out])
  go_ret;exact⟨rfl,i.trans (u.mono (by simp))⟩
theorem Mj w r f (h:P7 w r f) k:(Instr.lookup 150 (.map (some r)) (I O k) true).run prog w= .ok (.tuple #[(f k).getD (.agg #[I O 0,I O 0,I O 0,I O 0,.bool false]),.bool (f k).isSome]) w:=
 h.lookup PD VN (z:= .agg #[I O 0,I O 0,I O 0,I O 0,.bool false]) (by kernel_rfl) k true
theorem GQ {w r f} (h:P7 w r f) {k x} (e:f k=some (JC x)):(Instr.lookup 150 (.map (some r)) (I O k) true).run prog w=
  .ok (.tuple #[.agg #[I O x.1.1,I O x.1.2,I O x.2.side,I O x.2.price,.bool (x.2.kind ==2)],.bool true]) w:=by
 rw[Mj w r f h k,e];rfl
theorem CM {w r f} (h:P7 w r f) {k} (e:f k=none):(Instr.lookup 150 (.map (some r)) (I O k) true).run prog w=
  .ok (.tuple #[.agg #[I O 0,I O 0,I O 0,I O 0,.bool false],.bool false]) w:=by
 rw[Mj w r f h k,e];rfl
theorem Nq {w w1 b a n r F M f H reg o} (u:Z9 w b a F M n r f H reg)
  (j:Below (w.alloc (.cells (J8 o) 29)).heap.size (w.alloc (.cells (J8 o) 29)) w1):Below w.heap.size w w1/\Z9 w1 b a F M n r f H reg/\Q1 w1 w.heap.size 29 (J8 o):=by
 have v:Below w.heap.size w (w.alloc (.cells (J8 o) 29)):=(Q2 _ w).alloc (Q4 _) _
 have i:Below w.heap.size w w1:=v.trans (j.mono (by simp))
 exact⟨i,u.below i,J4 (J9 w _ _) j⟩
theorem Qr7 w b o a F M n r f H reg (U:Z9 w b a F M n r f H reg)
  (h:XW o=true) (E:JH o=true) x (N:f o.id=some (JC x)):
  Calls prog 93 #[IP (some ⟨b,0,none⟩),X5 o] w fun e w'=>e= .returned (U0 9)/\Below w.heap.size w w':=by
 obtain⟨hs,hi⟩:=GG.1 h
 obtain⟨id,side,J,a2,Z⟩:=o
 unfold X5
 unfold JH V3 at E
 dsimp only at*
 have d1:decide (id<1)=false:=Z1 (by omega)
 have HM:=Q0 U
 have D:=Q0 E
 have C:=Q0 N
 clear h hi E U N
 rcases hs with rfl|rfl
 all_goals
  by_cases hk:J=2
  ·have t1:=Z0 hk
   rw[Q5 hk]at D;have HK:=Q0 hk;clear hk;go_enter DD,DA
   go_wp2_with fail
   refine(CS _ _ _).mono ?_;rintro e w1 ⟨rfl,y⟩;rw[D.out];obtain⟨u,i,j⟩:=Nq (o:=⟨id,_,J,1,Z⟩) HM y;obtain⟨x0,x1,x2,x3,x4⟩:=Z6 j;obtain⟨y0,y1,y2,y3,y4,y5⟩:=i.cells;have a1:=GQ (w:=(w1.alloc (.cells #[I O 0,I O 0,I O 0,I O 0,.bool false] 188)).drew) (i.mp.alloc _) C;have a4:=GQ (w:=w1.drew) i.mp C;have v:=Q0 u;have a0:=J5 j;have a3:=J5 i.blk;clear i j u y;go_wp2_with fail
   go_region_law (fail)
   all_goals go_wp2_with fail
   all_goals
    go_ret;exact⟨rfl,(v.trans (J3 ((Q2 _ w1).alloc v.size _)))⟩
  have t1:=X3 hk;rw[Q3 hk]at D;have HK:=Q0 hk;clear hk;go_enter DD,DA
  go_wp2_with fail
  refine(CS _ _ _).mono ?_;rintro e w1 ⟨rfl,y⟩;rw[D.out];obtain⟨u,i,j⟩:=Nq (o:=⟨id,_,J,a2,Z⟩) HM y;obtain⟨x0,x1,x2,x3,x4⟩:=Z6 j;obtain⟨y0,y1,y2,y3,y4,y5⟩:=i.cells;have a1:=GQ (w:=(w1.alloc (.cells #[I O 0,I O 0,I O 0,I O 0,.bool false] 188)).drew) (i.mp.alloc _) C;have a4:=GQ (w:=w1.drew) i.mp C;have v:=Q0 u;have a0:=J5 j;have a3:=J5 i.blk;clear i j u y;go_wp2_with fail
  go_region_law (fail)
  all_goals go_wp2_with fail
  all_goals
   go_ret;exact⟨rfl,(v.trans (J3 ((Q2 _ w1).alloc v.size _)))⟩
def MQ (w w':World) (b a r:Nat) (F:Nat->Prop) (n:Nat) (H:Int->HS) (o:Q8):Prop:=
 ∃F' M' f' H' reg',Z9 w' b a F' M' (n+1) r f' H' reg'/\U3 M' (n+1) f' H'/\Z3 w w' (V0 b r F H) (V0 b r F' H')/\(H' o.side).L=UW o.side (H o.side).L o/\ ∀s',s'≠o.side->H' s'=H s'
section
variable {M:Int->Int->Option Q8} {n:Nat} {f:Int->Option Value} {H:Int->HS} {s:Int} {o:Q8} {h:Int×Int}
theorem Qc4 (u:U3 M n f H) (v:Z4 s) (y:o.side=s) (hk:o.kind=2) (D:JJ o) (C:M h.1 h.2=none) (E:f o.id=none) A' c':
  U3 (W8 M h.1 h.2 (some o)) (n+1) (D0 f o.id (some (JC (h,o)))) (M7 H s ⟨A',c',(H s).qA,(H s).qc,(H s).ms++ [(h,o)],(H s).qs⟩)/\
   (M7 H s ⟨A',c',(H s).qA,(H s).qc,(H s).ms++ [(h,o)],(H s).qs⟩ s).L=UW s (H s).L o:=by
 have j:=u.is s v
 refine⟨u.add (x:=(h,o)) v ?_ ⟨?_,j.qk,j.rank⟩ (u.ne s v) C E D, ?_⟩
 ·show(((H s).ms++ [(h,o)])++U5 (H s).qs).Perm ((h,o):: ((H s).ms++U5 (H s).qs))
  rw[VM];exact Jd
 ·intro x i
  rcases Y7.1 i with i|i
  ·exact j.mkt x i
  obtain rfl:x=(h,o):=by simpa using i
  exact⟨hk,y⟩
 rw[QV]
 exact(Qg6 j (h,o) hk).symm
def AG (qs:List QG) (k:Nat) (p:Int):List QG:=qs.take k++⟨p,none,0,[]⟩::qs.drop k
theorem Mk qs k p:(AG qs k p).map QG.que=(qs.map QG.que).take k++(p,none,0,0):: (qs.map QG.que).drop k:=by
 unfold AG
 rw[T1,S6,List.map_take,List.map_drop]
 rfl
theorem Qc5 {qs k} (hk:k<=qs.length) p:(AG qs k p).length=qs.length+1:=by
 unfold AG
 simp
 omega
theorem Ji2 {qs k} (hk:k<=qs.length) p:(AG qs k p)[k]?=some ⟨p,none,0,[]⟩:=by
 unfold AG
 rw[SW (by simp;omega),T6,PR hk,Nat.sub_self]
 rfl
theorem Ji3 qs k p:(AG qs k p).filterMap (fun q=>Q7 q.A)=qs.filterMap fun q=>Q7 q.A:=by
 unfold AG
 rw[List.filterMap_append,TJ rfl,<-List.filterMap_append,P2]
theorem Yp {qs k p q} (i:q∈AG qs k p):q∈qs\/q=⟨p,none,0,[]⟩:=by
 unfold AG at i
 rcases Y7.1 i with h|h
 ·exact .inl (AT h)
 rcases D4.1 h with h|h
 ·exact .inr h
 exact .inl (YJ h)
theorem Ml {a b} (h:0<=M4 s a b) (i:a≠b) (j:Z4 s):JG s b a=true:=by
 unfold M4 at h
 rw[Q3 i]at h
 split at h
 ·omega
 rename_i u
 unfold JG at*
 rcases j with rfl|rfl<;>simp_all<;>omega
theorem Qr8 {ms qs k p} (hs:Z4 s) (h:DM s ms qs) (hf:Km s p (qs.map QG.que) qs.length k) (J:DN s p (qs.map QG.que) qs.length k=false):DM s ms (AG qs k p)/\D2 ms (AG qs k p)=D2 ms qs:=by
 obtain⟨hk,a2,N⟩:=hf
 have a3: ∀i (j:i<qs.length),k<=i->qs[i].price≠p:=by
  intro i j a0 e;have v:=N i (by simpa using j) a0;simp only[List.getElem_map]at v;have U:k<qs.length:=by omega
  unfold DN at J;have e1:(qs.map QG.que)[k]?=some qs[k].que:=by simp[U]
  rw[e1]at J;have hd:decide (k<qs.length)=true:=by simpa using U
  rw[hd]at J;have a1:M4 s qs[k].price p≠0:=by
   have:(M4 s qs[k].que.1 p ==0)=false:=by simpa using J
   simpa [QG.que]using this
  rcases MP a0 with a4|rfl
  ·have u:=RP h.rank j a4
   rw[e]at u;have h2:=N k (by simpa using U) (Q4 _);simp only[List.getElem_map]at h2;have h3:M4 s qs[k].que.1 p=M4 s qs[k].price p:=rfl;have h4:=Ml (s:=s) (a:=qs[k].price) (b:=p) (by rw[<-h3];exact h2) (Ni u) hs;rw[Eo u]at h4
   cases h4
  exact a1 (by rw[e];unfold M4;rw[Q5 rfl])
 refine⟨⟨h.mkt,fun q Z x D=> ?_, ?_⟩, ?_⟩
 ·rcases Yp Z with Z|rfl
  ·exact h.qk q Z x D
  cases D
 ·rw[Mk]
  unfold CJ;have u:=h.rank;unfold CJ at u;have C:=u;rw[<-P2 k (qs.map QG.que)]at C;rw[AR]at C|-;refine⟨C.1, ?_, ?_⟩
  ·rw[LY]
   refine⟨fun y hy=> ?_,C.2.1⟩;obtain⟨i,j,rfl⟩:=XG.1 hy;rw[TD];have E:k+i<qs.length:=by simp at j;omega
   have v:=N (k+i) (by simpa using E) (by omega);have h1:=a3 (k+i) E (by omega);simp only[List.getElem_map]at v|-;exact Ml v h1 hs
  intro x D y hy;rcases D4.1 hy with rfl|hy
  ·obtain⟨i,j,rfl⟩:=XG.1 D
   have E:i<k:=by simp at j;omega
   rw[LB];have v:=a2 i (by simp;omega) E;exact Ye.1 v
  exact C.2.2 x D y hy
 unfold D2
 have:=Qa8 qs k ⟨p,none,0,[]⟩ rfl
 unfold AG
 rw[this]
theorem Qi8 (J:U3 M n f H) (N:Z4 s) (ho:o.side=s) (hk:o.kind≠2) (a1:JJ o) (a0:M h.1 h.2=none) (U:f o.id=none) qA qc qs (u:DM s (H s).ms qs) (E:D2 (H s).ms qs=(H s).all) {k} (C:k<qs.length) (hp:qs[k].price=o.price)
  (a2: ∀i (u:i<qs.length),i≠k->qs[i].os≠ []) A' c':
  U3 (W8 M h.1 h.2 (some o)) (n+1) (D0 f o.id (some (JC (h,o)))) (M7 H s ⟨(H s).mA,(H s).mc,qA,qc,(H s).ms,qs.set k ⟨qs[k].price,A',c',qs[k].os++ [(h,o)]⟩⟩)/\
   (M7 H s ⟨(H s).mA,(H s).mc,qA,qc,(H s).ms,qs.set k ⟨qs[k].price,A',c',qs[k].os++ [(h,o)]⟩⟩ s).L=UW s (H s).L o:=by
 refine⟨J.add (x:=(h,o)) N ?_ ⟨u.mkt, ?_, ?_⟩ ?_ a0 U a1, ?_⟩
 ·rw[<-E]
  show(D2 _ _).Perm _;unfold D2;rw[Yf qs C,EG qs C];have:(H s).ms++(U5 (qs.take k)++((qs[k].os++ [(h,o)])++U5 (qs.drop (k+1))))=((H s).ms++(U5 (qs.take k)++qs[k].os))++(h,o)::U5 (qs.drop (k+1)):=by simp
  rw[this];refine List.perm_middle.trans ?_;simp
 ·intro q y x v
  rcases LV y with y|rfl
  ·exact u.qk q y x v
  rcases Y7.1 v with v|v
  ·exact u.qk _ (Y1 _) x v
  obtain rfl:x=(h,o):=by simpa using v
  exact⟨hk,ho,hp.symm⟩
 ·have e2:(qs.set k ⟨qs[k].price,A',c',qs[k].os++ [(h,o)]⟩).map QG.que=(qs.map QG.que).set k (qs[k].price,A',qs[k].os.length+1,c'):=by
   rw[List.map_set];simp[QG.que]
  unfold CJ;rw[e2];rw[DZ];intro i j D a3 Z;have h0:=DZ.1 u.rank i j (by simpa using D) (by simpa using a3) Z;simp only[List.getElem_map,QG.que]at h0;simp only[List.getElem_set,List.getElem_map,QG.que]
  split<;>split<;>simp_all
 ·intro q y
  obtain⟨i,D,rfl⟩:=XG.1 y;rw[List.getElem_set]
  split
  ·simp
  exact a2 i (by simpa using D) (fun e=>by omega)
 rw[QV]
 have:=Qp6 u (h,o) hk C hp ⟨qs[k].price,A',c',qs[k].os++ [(h,o)]⟩ rfl
 rw[E]at this
 exact this.symm
variable {w w5 w6:World} {b a r:Nat} {F F':Nat->Prop} {reg':Nat->Int} {m gg cap:Nat}
theorem Bn (J:U3 M n f H) (v:Z4 s) (j:o.side=s) (hk:o.kind=2) (a1:JJ o) (a0:M h.1 h.2=none) (hf:f o.id=none)
  (a3:Z9 w5 b a F' (W8 M h.1 h.2 (some o)) (n+1) r (D0 f o.id (some (JC (h,o)))) H reg') (a4:Z3 w w5 (V0 b r F H) (V0 b r F' H)) (U:(H s).ms.length=m)
  (y:Q6 (fun i=>(Value.slice (H s).mA m (H s).mc).ownBlock=some i) w5 w6) (a2:w6.ownsRow 0 186 2 (.slice (some ⟨gg,0,none⟩) (m+1) cap) (m+1) (Q9 E8 (A6 (H s).ms)++E8 h))
  (C:(Value.slice (H s).mA m (H s).mc).ownBlock=some gg\/gg=w5.heap.size+1):
  MQ w (w6.setCell ⟨b,ZG s,none⟩ (.slice (some ⟨gg,0,none⟩) (m+1) cap)) b a r F n H o:=by
 subst U
 rw[A7]at y C
 have D:((H s).ms++ [(h,o)]).length=(H s).ms.length+1:=by simp
 have hR:J2 w6 (some ⟨gg,0,none⟩) ((H s).ms++ [(h,o)]).length cap 186 2 (Q9 E8 (A6 ((H s).ms++ [(h,o)]))):=by
  rw[D];have e:Q9 E8 (A6 ((H s).ms++ [(h,o)]))=Q9 E8 (A6 (H s).ms)++E8 h:=by unfold A6;rw[T1,DB];simp[Q9]
  rw[e];exact a2
 obtain⟨a5,E,u⟩:=a3.market v y hR (fun g N=>by cases N;exact C.imp id (fun e=>by show _<=gg;omega))
 rw[D]at E u
 obtain⟨h1,h2⟩:=Qc4 J v j hk a1 a0 hf (some ⟨gg,0,none⟩) cap
 refine⟨F',_,_,_,a5,E,h1,a4.trans u, ?_,fun s' Z=>XK (by rw[<-j];exact Z)⟩
 rw[j]
 exact h2
def Kw (w wx:World) (b a r:Nat) (F F':Nat->Prop) (M':Int->Int->Option Q8) (n:Nat) (f':Int->Option Value) (H:Int->HS) (s p:Int) (k pb:Nat):Prop:=
 ∃(H1:Int->HS) (reg1:Nat->Int) (qA:Option Addr) (qc:Nat) (qs:List QG),Z9 wx b a F' M' (n+1) r f' H1 reg1/\Z3 w wx (V0 b r F H) (V0 b r F' H1)/\H1=M7 H s ⟨(H s).mA,(H s).mc,qA,qc,(H s).ms,qs⟩/\
  DM s (H s).ms qs/\D2 (H s).ms qs=(H s).all/\ ¬V0 b r F' H1 pb/\ ∃hkl:k<qs.length,qs[k].price=p/\ ∀i (hi:i<qs.length),i≠k->qs[i].os≠ []
theorem Ji4 H s:M7 H s ⟨(H s).mA,(H s).mc,(H s).qA,(H s).qc,(H s).ms,(H s).qs⟩=H:=by
 funext s'
 unfold M7
 split
 ·rename_i e;rw[e]
 rfl
theorem Dj {M' f' p k pb} (J: ¬V0 b r F' H pb) (v:U3 M n f H) (y:Z4 s) (D:Z9 w5 b a F' M' (n+1) r f' H reg') (E:Z3 w w5 (V0 b r F H) (V0 b r F' H))
  (j:DN s p ((H s).qs.map QG.que) (H s).qs.length k=true):Kw w w5 b a r F F' M' n f' H s p k pb:=by
 unfold DN at j
 rw[Bool.and_eq_true,decide_eq_true_iff]at j
 obtain⟨hk,j⟩:=j
 refine⟨H,reg',(H s).qA,(H s).qc,(H s).qs,D,E,(Ji4 H s).symm,v.is s y,rfl,J,hk, ?_,fun i N _=>v.ne s y _ (Y1 _)⟩
 have C:((H s).qs.map QG.que)[k]?=some (H s).qs[k].que:=by simp[hk]
 rw[C]at j
 have u:M4 s (H s).qs[k].price p=0:=by simpa [QG.que]using j
 unfold M4 at u
 split at u
 ·assumption
 split at u<;>omega
theorem Gu {M' f' p k pb} (a4: ¬V0 b r F' H pb) (a8:pb<w5.heap.size) {A' c' v} (N:U3 M n f H) (u:Z4 s) (a0:Z9 w5 b a F' M' (n+1) r f' H reg') (a5:Z3 w w5 (V0 b r F H) (V0 b r F' H))
  (hk:Km s p ((H s).qs.map QG.que) (H s).qs.length k) (hf:DN s p ((H s).qs.map QG.que) (H s).qs.length k=false)
  (hI:Qh w5 w6 (H s).qA A' ((H s).qs.length+1) c' (((H s).qs.map QG.que).take k++(p,none,0,0):: ((H s).qs.map QG.que).drop k)) (hv:v= .slice A' ((H s).qs.length+1) c'):
  Kw w (w6.setCell ⟨b,ZG s+1,none⟩ v) b a r F F' M' n f' H s p k pb:=by
 subst hv
 obtain⟨hR,hK,j⟩:=hI
 have U:=hk.1
 have hl:=Qc5 U p
 rw[<-Mk,<-hl]at hR
 obtain⟨a6,hM,E⟩:=a0.queues u hK hR j (fun q hq=>(Yp hq).imp id (fun e=>by subst e;exact⟨rfl,rfl,rfl⟩)) (by rw[Ji3];exact(a0.hx s u).nd)
 obtain⟨h1,h2⟩:=Qr8 u (N.is s u) hk hf
 rw[hl]at hM E
 have J:k< (AG (H s).qs k p).length:=by omega
 have j:=Ji2 U p
 rw[KP J]at j
 refine⟨_,a6,A',c',AG (H s).qs k p,hM,a5.trans E,rfl,h1,h2,(fun D=>(E.2 pb D).elim a4 (by omega)),J,by rw[KZ j],fun i D a2 e=> ?_⟩
 have a1:=Yp (Y1 D)
 rcases a1 with C|C
 ·exact N.ne s u _ C e
 ·
  have Z:=h1.rank;rcases Nat.lt_or_gt_of_ne a2 with a7|a3
  ·have y:=RP Z J a7
   rw[C,KZ j,Vj]at y
   cases y
  have y:=RP Z D a3;rw[C,KZ j,Vj]at y
  cases y
theorem Bu {k qg H1 qA qc qs} (hS:U3 M n f H) (C:Z4 s) (v:o.side=s) (hk:o.kind≠2) (a2:JJ o) (a1:M h.1 h.2=none) (hf:f o.id=none)
  (a3:Z9 w5 b a F' (W8 M h.1 h.2 (some o)) (n+1) r (D0 f o.id (some (JC (h,o)))) H1 reg') (a4:Z3 w w5 (V0 b r F H) (V0 b r F' H1)) (hH:H1=M7 H s ⟨(H s).mA,(H s).mc,qA,qc,(H s).ms,qs⟩)
  (J:DM s (H s).ms qs) (ha:D2 (H s).ms qs=(H s).all) (D:k<qs.length) (hp:qs[k].price=o.price) (a6: ∀i (J:i<qs.length),i≠k->qs[i].os≠ []) (hq:qA=some ⟨qg,0,none⟩) (hm:qs[k].os.length=m)
  (N:Q6 (fun i=>(Value.slice qs[k].A m qs[k].c).ownBlock=some i) w5 w6) (a5:w6.ownsRow 0 186 2 (.slice (some ⟨gg,0,none⟩) (m+1) cap) (m+1) (Q9 E8 (A6 qs[k].os)++E8 h))
  (E:(Value.slice qs[k].A m qs[k].c).ownBlock=some gg\/gg=w5.heap.size+1):
  MQ w (w6.setCell ⟨qg,k*2+1,none⟩ (.slice (some ⟨gg,0,none⟩) (m+1) cap)) b a r F n H o:=by
 subst hm
 subst hH
 rw[A7]at N E
 have U:(qs[k].os++ [(h,o)]).length=qs[k].os.length+1:=by simp
 have hR:J2 w6 (some ⟨gg,0,none⟩) (qs[k].os++ [(h,o)]).length cap 186 2 (Q9 E8 (A6 (qs[k].os++ [(h,o)]))):=by
  rw[U];have e:Q9 E8 (A6 (qs[k].os++ [(h,o)]))=Q9 E8 (A6 qs[k].os)++E8 h:=by unfold A6;rw[T1,DB];simp[Q9]
  rw[e];exact a5
 have j:M7 H s ⟨(H s).mA,(H s).mc,qA,qc,(H s).ms,qs⟩ s=⟨(H s).mA,(H s).mc,qA,qc,(H s).ms,qs⟩:=QV _ _ _
 have u:=a3.queue (s:=s) C (w3:=w6) (k:=k) (by rw[j];exact D) (qg:=qg) (by rw[j];exact hq) (A':=some ⟨gg,0,none⟩) (c':=cap) (os':=qs[k].os++ [(h,o)])
  (by simpa only[j]using N) hR (fun g hg=>by cases hg;simp only[j];exact E.imp id (fun e=>by show _<=gg;omega))
 rw[U]at u
 simp only[j]at u
 obtain⟨a7,Z,y⟩:=u
 have e2:M7 (M7 H s ⟨(H s).mA,(H s).mc,qA,qc,(H s).ms,qs⟩) s ⟨(H s).mA,(H s).mc,qA,qc,(H s).ms,qs.set k ⟨qs[k].price,some ⟨gg,0,none⟩,cap,qs[k].os++ [(h,o)]⟩⟩=M7 H s ⟨(H s).mA,(H s).mc,qA,qc,(H s).ms,qs.set k ⟨qs[k].price,some ⟨gg,0,none⟩,cap,qs[k].os++ [(h,o)]⟩⟩:=by
  funext s'
  unfold M7
  split<;>rfl
 rw[e2]at Z y
 obtain⟨h1,h2⟩:=Qi8 hS C v hk a2 a1 hf qA qc qs J ha D hp a6 (some ⟨gg,0,none⟩) cap
 refine⟨F',_,_,_,a7,Z,h1,a4.trans y, ?_,fun s' a0=>XK (by rw[<-v];exact a0)⟩
 rw[v]
 exact h2
end
def VJ (w wx:World) (b a:Nat) (F:Nat->Prop) (M:Int->Int->Option Q8) (n r:Nat) (f:Int->Option Value) (H:Int->HS) (reg:Nat->Int) (o:Q8):Prop:=
 Below w.heap.size w wx/\Z9 wx b a F M n r f H reg/\Q1 wx w.heap.size 29 (J8 o)
def Zf (W:World) (a:Nat) (F:Nat->Prop) (M:Int->Int->Option Q8) (n:Nat) (o:Q8) (e:Ending) (w':World):Prop:=
 ∃sl ag:Int,M sl ag=none/\e= .returned (.tuple #[.agg #[I O sl,I O ag],.nilIface])/\PQ W w' a F (W8 M sl ag (some o)) 100 (n+1)
def Qi (w wx:World) (b a:Nat) (F:Nat->Prop) (M:Int->Int->Option Q8) (n r:Nat) (f:Int->Option Value) (H:Int->HS) (o:Q8) (s8:Value):Prop:=
 ∃(h:Int×Int) (pb:Nat) (F':Nat->Prop) (reg':Nat->Int),s8= IP (some ⟨pb,0,none⟩)/\M h.1 h.2=none/\Q1 wx pb 186 #[I O h.1,I O h.2]/\Q1 wx w.heap.size 29 (J8 o)/\
  Z9 wx b a F' (W8 M h.1 h.2 (some o)) (n+1) r f H reg'/\Z3 w wx (V0 b r F H) (V0 b r F' H)/\ ¬V0 b r F' H pb/\ ¬V0 b r F' H w.heap.size
theorem FQ {w w1 wx b a n r F M f H reg o} (h:VJ w w1 b a F M n r f H reg o) (i:Below w1.heap.size w1 wx):VJ w wx b a F M n r f H reg o:=by
 obtain⟨h1,h2,j⟩:=h
 exact⟨h1.trans (i.mono h1.size),h2.below i,J4 j i⟩
def Rj (wc wx:World) (qg k m:Nat) (A:Option Addr) (c:Nat) (xs:List Value):Prop:=
 ∃gg cap w6,wx=World.setCell w6 ⟨qg,k*2+1,none⟩ (.slice (some ⟨gg,0,none⟩) (m+1) cap)/\Q6 (fun i=>(Value.slice A m c).ownBlock=some i) wc w6/\w6.ownsRow 0 186 2 (.slice (some ⟨gg,0,none⟩) (m+1) cap) (m+1) xs/\((Value.slice A m c).ownBlock=some gg\/gg=wc.heap.size+1)
theorem Pu {n m H s} (i:Z4 s) (j:(H s).ms.length=m) (h1:n=(B4 H).length) (h2:n<100):m<=1000:=by
 unfold B4 HS.all D2 at h1
 simp only[List.length_append]at h1
 rcases i with rfl|rfl<;>omega
theorem Ko {M n f H s} (v:Z4 s) (j:U3 M n f H) (h2:n<100):(H s).qs.length<=100000:=by
 have h1:=j.cnt
 have C:(H s).qs.length<=(U5 (H s).qs).length:=by
  have i:=j.ne s v;generalize(H s).qs=l at i
  induction l with
  |nil=>simp
  |cons q l u=>
   have u:=u (fun q y=>i q (by simp[y]));have D:0<q.os.length:=PB.2 (i q (by simp));have e:U5 (q::l)=q.os++U5 l:=rfl;rw[e,Y9,XX];omega
 unfold B4 HS.all D2 at h1
 simp only[List.length_append]at h1
 rcases v with rfl|rfl<;>omega
theorem Jv:(prog.info? 186).map (fun i=>(i.zero,i.size,i.bytes))=some (some (.agg #[I O 0,I O 0]),2,16):=by kernel_rfl
theorem Y4:Z4 1:= .inl rfl
theorem Y5:Z4 2:= .inr rfl
theorem Kg {wc w5 a most n n' F M M'} (i:VL wc a F M most n) (j:PQ ((wc.alloc (.cells #[I O 0,I O 0] 186)).drew) w5 a F M' 100 n'):Q1 w5 wc.heap.size 186 #[I O 0,I O 0]:=by
 obtain⟨F',_,u,_⟩:=j
 exact X0 (Z2 (J9 wc _ _)) u (fun h=>by have:=i.fp h;omega)
theorem LR {w wc W w5 wx b a n r pb F M f H reg o sl ag} (D:Z9 w b a F M n r f H reg) (h:VJ w wc b a F M n r f H reg o)
  (y:Below wc.heap.size wc W) (Z:M sl ag=none) (U:PQ W w5 a F (W8 M sl ag (some o)) 100 (n+1)) (hk:Q6 (fun i=>i=pb) w5 wx) (a6:pb<W.heap.size\/w5.heap.size<=pb) (a5:wc.heap.size<=pb)
  (N:Q1 wx pb 186 #[I O sl,I O ag]):Qi w wx b a F M n r f H o (IP (some ⟨pb,0,none⟩)):=by
 obtain⟨h1,h2,C⟩:=h
 have a0:=h2.below y
 obtain⟨F',reg',J,v⟩:=a0.arena U
 have a3:=v.1.size
 have a4:=J5 C
 have a2:=y.size
 have a1:=h1.size
 have E: ∀i,V0 b r F' H i->i≠pb:=by
  intro i j e;subst e;have h5:=J.fp j;rcases v.2 i j with u|u
  ·have:=h2.fp u;omega
  omega
 refine⟨(sl,ag),pb,F',reg',rfl,Z,N, ?_,J.keeps hk (fun i j e=>E i j e),⟨?_, ?_⟩,fun h=>E pb h rfl, ?_⟩
 ·refine X0 (X0 (J4 C y) v.1 (fun j=> ?_)) hk (fun e=>by omega)
  have:=D.fp j;omega
 ·refine(((U1 (h1.trans (y.mono a1)) (V0 b r F H)).trans v.1 (fun i h=> .inl h))).trans hk (fun i e=> .inr (by rw[e];omega))
 ·intro i j
  rcases v.2 i j with u|u
  ·exact .inl u
  exact .inr (by omega)
 intro j
 rcases v.2 _ j with u|u
 ·have:=D.fp u;omega
 omega
theorem WJ {w w1 b a n r F M f H reg o} (C:Z9 w b a F M n r f H reg) (h:VJ w w1 b a F M n r f H reg o) (hk:(o.kind ==2)=true):
  VJ w (w1.setCell ⟨w.heap.size,3,none⟩ (I O 1)) b a F M n r f H reg (V3 o):=by
 obtain⟨h1,h2,y⟩:=h
 have u:=V2 w1 ⟨w.heap.size,3,none⟩ (I O 1)
 have v:o.kind=2:=by simpa using hk
 refine⟨((U1 h1 (fun i=>i=w.heap.size)).trans u (fun i h=> .inl h)).below (fun i j=>by rw[j];exact Q4 _) (Q4 _),h2.keeps u (fun i j e=> ?_), ?_⟩
 ·have:=C.fp j
  have D:i=w.heap.size:=e;omega
 have:=J7 y 3 (I O 1)
 have e:(J8 o).setIfInBounds 3 (I O 1)=J8 (V3 o):=by unfold J8 V3;rw[Q5 v];rfl
 rwa [e]at this
theorem WC {o} (hk:(o.kind ==2)=false):V3 o=o:=by
 have i: ¬o.kind=2:=by simpa using hk
 unfold V3
 rw[Q3 i]
def LS (w w':World) (b a r:Nat) (F:Nat->Prop) (n:Nat) (H:Int->HS) (s id:Int):Prop:=
 ∃F' M' f' H' reg',Z9 w' b a F' M' (n-1) r f' H' reg'/\U3 M' (n-1) f' H'/\Z3 w w' (V0 b r F H) (V0 b r F' H')/\(H' s).L=D1 (H s).L id/\ ∀s',s'≠s->H' s'=H s'
theorem Xg l h:A6 (l.filter (B3 h))=(A6 l).filter fun p=> !PK h p:=by
 unfold A6 B3
 rw[Jh]
 rfl
theorem Qz l h:((A6 l).filter fun p=> !PK h p).length=(l.filter (B3 h)).length:=by
 rw[<-Xg]
 simp[A6]
section
variable {M:Int->Int->Option Q8} {n:Nat} {f:Int->Option Value} {H:Int->HS} {s:Int} {x:HO}
theorem U3.where_ (S:U3 M n f H) (j:Z4 s) (v:x∈(H s).all):(x.2.kind=2/\x∈(H s).ms)\/(x.2.kind≠2/\ ∃k,∃hk:k< (H s).qs.length,x∈(H s).qs[k].os/\(H s).qs[k].price=x.2.price):=by
 rcases Y7.1 v with h|h
 ·exact .inl ⟨((S.is s j).mkt x h).1,h⟩
 obtain⟨q,i,u⟩:=FT.1 h
 obtain⟨k,hk,rfl⟩:=XG.1 i
 have h1:=(S.is s j).qk _ i x u
 exact .inr ⟨h1.1,k,hk,u,h1.2.2.symm⟩
theorem Mm {ms qs} (v:DM s ms qs) {j k p} (i:j<qs.length) (hp:qs[j].price=p) (C:Km s p (qs.map QG.que) qs.length k):k=j:=by
 obtain⟨hk,E,y⟩:=C
 have D:M4 s p p=0:=by unfold M4;rw[Q5 rfl]
 rcases Nat.lt_trichotomy k j with h|h|h
 ·have h1:=RP v.rank i h
  rw[hp]at h1;have h2:=y k (by simp;omega) (Q4 _);simp only[List.getElem_map]at h2;have J:M4 s (qs[k]'(by omega)).price p<0:=Ye.2 h1;have u:M4 s (qs[k]'(by omega)).que.1 p=M4 s (qs[k]'(by omega)).price p:=rfl;omega
 ·exact h
 have h2:=E j (by simpa using i) h
 simp only[List.getElem_map]at h2
 have u:M4 s qs[j].que.1 p=M4 s qs[j].price p:=rfl
 rw[u,hp,D]at h2
 omega
theorem Dk (S:U3 M n f H) (i:Z4 s) (u:x∈(H s).all) (hk:x.2.kind=2) A' c':
  U3 (W8 M x.1.1 x.1.2 none) (n-1) (D0 f x.2.id none) (M7 H s ⟨A',c',(H s).qA,(H s).qc,(H s).ms.filter (B3 x.1),(H s).qs⟩)/\
   (M7 H s ⟨A',c',(H s).qA,(H s).qc,(H s).ms.filter (B3 x.1),(H s).qs⟩ s).L=D1 (H s).L x.2.id:=by
 have j:=S.is s i
 have v:D2 ((H s).ms.filter (B3 x.1)) (H s).qs=(H s).all.filter (B3 x.1):=by
  show _=(D2 (H s).ms (H s).qs).filter _;unfold D2;rw[QL]
  congr 1
  symm;rw[KR];intro y hy;rw[GF];intro e;have E:y∈(H s).all:=QB _ hy;have:=S.same_h (XL i E) (XL i u) e;subst this;obtain⟨q,C,D⟩:=FT.1 hy;exact(j.qk q C y D).1 hk
 refine⟨S.remove i u v ⟨fun y hy=>j.mkt y ((P3.1 hy).1),j.qk,j.rank⟩ (S.ne s i), ?_⟩
 rw[QV]
 show U6 (D2 _ _)=_
 rw[v]
 exact S.filter_id (XL i u) i
theorem Ex (S:U3 M n f H) (i:Z4 s) {k} (hk:k< (H s).qs.length) (u:x∈(H s).qs[k].os) (U:x∈(H s).all):
  (H s).all.filter (B3 x.1)=(H s).ms++(U5 ((H s).qs.take k)++((H s).qs[k].os.filter (B3 x.1)++U5 ((H s).qs.drop (k+1)))):=by
 have hi:=S.is s i
 have j:(B4 H).Nodup:=List.Pairwise.imp (fun h e=>h (by rw[e])) (TE.1 S.ids)
 have v:(H s).all.Nodup:=by
  unfold B4 at j;rw[YX]at j;rcases i with rfl|rfl
  ·exact j.1
  exact j.2.1
 have e0:(H s).all=(H s).ms++(U5 ((H s).qs.take k)++((H s).qs[k].os++U5 ((H s).qs.drop (k+1)))):=by
  show D2 _ _=_;unfold D2;rw[EG _ hk]
 have C: ∀l:List HO,(∀y∈l,y∈(H s).all)->x∉l->l.filter (B3 x.1)=l:=by
  intro l Z D;rw[KR];intro y hy;rw[GF];intro e;have:=S.same_h (XL i (Z y hy)) (XL i U) e;subst this;exact D hy
 rw[e0]at v
 rw[YX,YX,YX]at v
 obtain⟨_,⟨_,⟨_,_,E⟩,J⟩,N⟩:=v
 rw[e0,QL,QL,QL]
 rw[C (H s).ms (fun y hy=>by rw[e0];simp[hy]) (fun h=>N x h x (by simp[u]) rfl)]
 rw[C (U5 ((H s).qs.take k)) (fun y hy=>by rw[e0];simp[hy]) (fun h=>J x h x (by simp[u]) rfl)]
 rw[C (U5 ((H s).qs.drop (k+1))) (fun y hy=>by rw[e0];simp[hy]) (fun h=>E x u x h rfl)]
theorem Qi9 (S:U3 M n f H) (v:Z4 s) {k} (hk:k< (H s).qs.length) (hx:x∈(H s).qs[k].os) (D:x∈(H s).all) (a0:(H s).qs[k].os.filter (B3 x.1)≠ []) A' c':
  U3 (W8 M x.1.1 x.1.2 none) (n-1) (D0 f x.2.id none) (M7 H s ⟨(H s).mA,(H s).mc,(H s).qA,(H s).qc,(H s).ms,(H s).qs.set k ⟨(H s).qs[k].price,A',c',(H s).qs[k].os.filter (B3 x.1)⟩⟩)/\
   (M7 H s ⟨(H s).mA,(H s).mc,(H s).qA,(H s).qc,(H s).ms,(H s).qs.set k ⟨(H s).qs[k].price,A',c',(H s).qs[k].os.filter (B3 x.1)⟩⟩ s).L=D1 (H s).L x.2.id:=by
 have C:=S.is s v
 have E:D2 (H s).ms ((H s).qs.set k ⟨(H s).qs[k].price,A',c',(H s).qs[k].os.filter (B3 x.1)⟩)=(H s).all.filter (B3 x.1):=by
  rw[Ex S v hk hx D];unfold D2;rw[Yf _ hk]
 refine⟨S.remove v D E ⟨C.mkt,fun q u y hy=> ?_, ?_⟩ (fun q u=> ?_), ?_⟩
 ·rcases LV u with u|rfl
  ·exact C.qk q u y hy
  exact C.qk _ (Y1 _) y ((P3.1 hy).1)
 ·have U:((H s).qs.set k ⟨(H s).qs[k].price,A',c',(H s).qs[k].os.filter (B3 x.1)⟩).map QG.que=((H s).qs.map QG.que).set k ((H s).qs[k].price,A',((H s).qs[k].os.filter (B3 x.1)).length,c'):=by
   rw[List.map_set];simp[QG.que]
  show CJ s (List.map QG.que _);unfold CJ;rw[U,DZ];intro i j N a1 J;have Z:=DZ.1 C.rank i j (by simpa using N) (by simpa using a1) J;simp only[List.getElem_map,QG.que]at Z;simp only[List.getElem_set,List.getElem_map,QG.que]
  split<;>split<;>simp_all
 ·rcases LV u with u|rfl
  ·exact S.ne s v q u
  exact a0
 rw[QV]
 show U6 (D2 _ _)=_
 rw[E]
 exact S.filter_id (XL v D) v
theorem Qr9 (S:U3 M n f H) (j:Z4 s) {k} (hk:k< (H s).qs.length) (J:x∈(H s).qs[k].os) (v:x∈(H s).all) (E:(H s).qs[k].os.filter (B3 x.1)= []) A' c':
  U3 (W8 M x.1.1 x.1.2 none) (n-1) (D0 f x.2.id none) (M7 H s ⟨(H s).mA,(H s).mc,A',c',(H s).ms,(H s).qs.take k++(H s).qs.drop (k+1)⟩)/\
   (M7 H s ⟨(H s).mA,(H s).mc,A',c',(H s).ms,(H s).qs.take k++(H s).qs.drop (k+1)⟩ s).L=D1 (H s).L x.2.id:=by
 have u:=S.is s j
 have C:D2 (H s).ms ((H s).qs.take k++(H s).qs.drop (k+1))=(H s).all.filter (B3 x.1):=by
  rw[Ex S j hk J v,E];unfold D2 U5;rw[TV]
  rfl
 have D: ∀q∈(H s).qs.take k++(H s).qs.drop (k+1),q∈(H s).qs:=by
  intro q i;rcases Y7.1 i with i|i
  ·exact AT i
  exact YJ i
 refine⟨S.remove j v C ⟨u.mkt,fun q i y hy=>u.qk q (D q i) y hy, ?_⟩ (fun q i=>S.ne s j q (D q i)), ?_⟩
 ·show CJ s (List.map QG.que _)
  have:=u.rank;unfold CJ at this|-;rw[T1,List.map_take,List.map_drop];have N:List.Sublist ((List.map QG.que (H s).qs).take k++(List.map QG.que (H s).qs).drop (k+1)) (List.map QG.que (H s).qs):=by
   conv=>rhs;rw[<-P2 k (List.map QG.que (H s).qs)]
   refine Zs (List.Sublist.refl _) ?_;rw[<-Jm];exact Jc _ _
  exact Zn N this
 rw[QV]
 show U6 (D2 _ _)=_
 rw[C]
 exact S.filter_id (XL j v) j
theorem Sw {α:Type} (g:α->Option Nat) (l:List α) k (h:(l.filterMap g).Nodup):((l.take k++l.drop (k+1)).filterMap g).Nodup:=by
 refine TA (List.Sublist.filterMap _ ?_) h
 conv=>rhs;rw[<-P2 k l]
 refine Zs (List.Sublist.refl _) ?_
 rw[<-Jm]
 exact Jc _ _
