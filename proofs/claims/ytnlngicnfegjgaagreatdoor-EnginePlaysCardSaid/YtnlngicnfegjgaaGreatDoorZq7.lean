/- Parts. -/
import Derived.Test.YtnlngicnfegjgaaGreatDoorZq2
import Derived.Test.YtnlngicnfegjgaaGreatDoorZq4
set_option linter.unusedVariables false
set_option maxRecDepth 100000
set_option maxHeartbeats 8000000
open Go.Proofs.Tryz
open Go.Value renaming int→I,pointer→IP
open Go.IntKind renaming i64→O
namespace Go.Proofs.YtnlngicnfegjgaaGreatDoor
open Go.RowKit
section
variable {α:Type}
def YD (l:List α) (i j:Nat):List α:=match l[i]?,l[j]? with
 |some x,some y=>(l.set i y).set j x
 |_,_=>l
theorem Wa (l:List α) i j:(YD l i j).length=l.length:=by
 unfold YD
 split<;>simp
theorem Qy7 {l:List α} {i j} (v:i<l.length) (u:j<l.length):YD l i j=(l.set i l[j]).set j l[i]:=by
 unfold YD
 rw[KP v,KP u]
theorem Qp2 {β} (f:α->β) l i j:(YD l i j).map f=YD (l.map f) i j:=by
 unfold YD
 rw[List.getElem?_map,List.getElem?_map]
 cases l[i]?<;>cases l[j]?<;>simp[List.map_set]
theorem Gh A M B (x y:α) {i j} (v:A.length=i) (u:A.length+1+M.length=j):YD (A++(x:: (M++(y::B)))) i j=A++(y:: (M++(x::B))):=by
 subst v u
 have h1:(A++(x:: (M++(y::B))))[A.length]?=some x:=by simp
 have h2:(A++(x:: (M++(y::B))))[A.length+1+M.length]?=some y:=by
  rw[SW (by omega),show A.length+1+M.length-A.length=M.length+1 by omega,List.getElem?_cons_succ,SW (by omega)];simp
 unfold YD
 rw[h1,h2]
 dsimp only
 rw[Qv _ _ (by omega),Nat.sub_self,Zt,Qv _ _ (by omega),show A.length+1+M.length-A.length=M.length+1 by omega,List.set_cons_succ,Qv _ _ (by omega),Nat.sub_self,Zt]
theorem Qp3 A B (x y:α) {i} (j:A.length=i):YD (A++(x::y::B)) i (i+1)=A++(y::x::B):=by
 have h:=Gh A [] B x y j rfl
 simpa [j]using h
theorem Ek A B (x y:α) {i} (j:A.length=i):YD (A++(x::y::B)) (i+1) i=A++(y::x::B):=by
 subst j
 have h1:(A++(x::y::B))[A.length]?=some x:=by simp
 have h2:(A++(x::y::B))[A.length+1]?=some y:=by rw[SW (by omega)];simp
 unfold YD
 rw[h1,h2]
 dsimp only
 rw[Qv _ _ (by omega),show A.length+1-A.length=1 by omega]
 simp
end
def XE (g:Nat) (lb:Array Value) (sf:Nat) (sb:Array Value):Value:= .agg #[.func (.func g) #[] lb,.func (.func sf) #[] sb]
abbrev ZC (g:Nat) (lb:Array Value) (sf:Nat) (sb:Array Value):Array Value:= #[.func (.func g) #[] lb,.func (.func sf) #[] sb]
structure AX {α:Type} (g:Nat) (lb:Array Value) (sf:Nat) (sb:Array Value) (blk n:Nat) (r:α->Int) (St:World->List α->Prop):Prop where
 eg: ∀args w,(callFunc g args).run prog w= .ok (.enter g args) w
 less: ∀W l (i j:Nat),St W l->l.length=n->(hi:i<l.length)->(hj:j<l.length)->i≠j->Calls prog g (#[I O i,I O j]++lb) W fun e w'=>e= .returned (.bool (decide (r l[i]<r l[j])))/\St w' l/\Q6 (fun k=>k=blk) W w'
 swap: ∀W l (i j:Nat),St W l->l.length=n->i<n->j<n->i≠j-> ∃W',(callFunc sf (#[I O i,I O j]++sb)).run prog W= .ok (.value (.tuple #[])) W'/\St W' (YD l i j)/\Q6 (fun k=>k=blk) W W'
 alloc: ∀W l o,St W l->St (W.alloc o) l
 lt: ∀W l,St W l->blk<W.heap.size
section
variable {α:Type} {g:Nat} {lb:Array Value} {sf:Nat} {sb:Array Value} {blk n:Nat} {r:α->Int} {St:World->List α->Prop}
theorem AX.tag (E:AX g lb sf sb blk n r St):AX g lb sf sb blk n (fun x:α×Nat=>r x.1) (fun W T=>St W (T.map (·.1)))where
 eg:=E.eg
 less:=fun W l i j h hl hi hj hij=>by
  have h1:=E.less W (l.map (·.1)) i j h (by simpa using hl) (by simpa using hi) (by simpa using hj) hij;simp only[List.getElem_map]at h1;exact h1
 swap:=fun W l i j h hl hi hj hij=>by
  obtain⟨W',h1,h2,h3⟩:=E.swap W (l.map (·.1)) i j h (by simpa using hl) hi hj hij;exact⟨W',h1,by rw[Qp2];exact h2,h3⟩
 alloc:=fun W l o h=>E.alloc W _ o h
 lt:=fun W l h=>E.lt W _ h
structure KY (St:World->List α->Prop) (blk:Nat) (w wx:World) (bx:Array Value) (l:List α):Prop where
 st:St wx l
 keep:Q6 (fun k=>k=blk) w wx
 box:Q1 wx w.heap.size 203 bx
theorem AX.start (E:AX g lb sf sb blk n r St) {w l} (h:St w l):KY St blk w (w.alloc (.cells (ZC g lb sf sb) 203)) (ZC g lb sf sb) l:=
 ⟨E.alloc _ _ _ h,U1 ((Q2 _ w).alloc (Q4 _) _) _,J9 w _ _⟩
theorem KY.step {w wx w' bx l l'} (h:KY St blk w wx bx l) (j:blk<w.heap.size) (h1:St w' l') (h2:Q6 (fun k=>k=blk) wx w'):KY St blk w w' bx l':=
 ⟨h1,h.keep.trans h2 (fun i e=> .inl e),X0 h.box h2 (fun e=>by have e:w.heap.size=blk:=e;omega)⟩
theorem KY.cells {w wx l} (h:KY St blk w wx (ZC g lb sf sb) l):wx.cell? ⟨w.heap.size,0,none⟩=some (.func (.func g) #[] lb)/\wx.cell? ⟨w.heap.size,1,none⟩=some (.func (.func sf) #[] sb):=
 ⟨by rw[J0 h.box];rfl,by rw[J0 h.box];rfl⟩
theorem Qp4 (A X M Y B:List α) i (j:i<X.length) (hy:X.length=Y.length):
  YD (A++((Y.take i++X.drop i)++(M++((X.take i++Y.drop i)++B)))) (A.length+i) (A.length+X.length+M.length+i)=A++((Y.take (i+1)++X.drop (i+1))++(M++((X.take (i+1)++Y.drop (i+1))++B))):=by
 have u:X.drop i=X[i]::X.drop (i+1):=UC j
 have y:Y.drop i=Y[i]::Y.drop (i+1):=UC (by omega)
 have v:A++((Y.take i++X.drop i)++(M++((X.take i++Y.drop i)++B)))=(A++Y.take i)++(X[i]:: ((X.drop (i+1)++(M++X.take i))++(Y[i]:: (Y.drop (i+1)++B)))):=by rw[u,y];simp only[List.append_assoc,List.cons_append]
 rw[v,Gh _ _ _ _ _ (by simp;omega) (by simp;omega),M8 j,M8 (by omega:i<Y.length)]
 simp only[List.append_assoc,List.cons_append,List.nil_append]
theorem Vc (E:AX g lb sf sb blk n r St) w A X M Y B (a b k:Nat) (ha:A.length=a) (U:A.length+X.length+M.length=b) (y:X.length=k) (hy:Y.length=k)
  (h:St w (A++(X++(M++(Y++B))))) (D:(A++(X++(M++(Y++B)))).length=n) (a3:n<=1000000):
  Calls prog 190 #[XE g lb sf sb,I O a,I O b,I O k] w fun e w'=>e= .returned (.tuple #[])/\St w' (A++(Y++(M++(X++B))))/\Q6 (fun k=>k=blk) w w':=by
 have C:=E.lt _ _ h
 have eg:=E.eg
 have J:=E.start h
 have a0:A.length+ (X.length+ (M.length+ (Y.length+B.length)))=n:=by simpa using D
 have HE:=Q0 E
 have a4:=Q0 J
 have j:=Q0 (And.intro ha (And.intro U (And.intro y (And.intro hy a0))))
 have a7:a<=1000000:=by omega
 have a6:b<=1000000:=by omega
 have a8:k<=1000000:=by omega
 have a5:=Q0 C
 clear E h J D a0 ha U y hy a3 C
 unfold XE
 go_enter func190,ntmps190
 go_wp2_with fail
 go_loopg [8] k (fun gg s8 wx=> ∃i,i<=k/\gg=k-i/\s8=I O i/\KY St blk w wx (ZC g lb sf sb) (A++((Y.take i++X.drop i)++(M++((X.take i++Y.drop i)++B)))))
 case atStart=>exact⟨0,V5 _,rfl,rfl,by simpa using a4.out⟩
 obtain⟨i,hi,rfl,rfl,u⟩:=hrel
 by_cases C:i<k
 ·have a1:(i:Int)< (k:Int):=by omega
  obtain⟨c0,c1⟩:=u.cells;have N:=HE.swap wr _ (a+i) (b+i) u.st (by have h:=j.out;simp;omega) (by have h:=j.out;omega) (by have h:=j.out;omega) (by have h:=j.out;omega);have v:=Qp4 A X M Y B i (by have h:=j.out;omega) (by have h:=j.out;omega);rw[j.2.1,j.1]at v;rw[v]at N;obtain⟨w2,hs,Z,hk⟩:=N;rw[show(((a+i:Nat):Int))=(a:Int)+ (i:Int) by omega,show(((b+i:Nat):Int))=(b:Int)+ (i:Int) by omega]at hs;have HS:=Q0 u;have a2:=Q0 Z;have HK:=Q0 hk;clear u Z hk v;go_wp2_with fail
  go_roundg (k- (i+1))
  case measure=>omega
  exact⟨i+1,by omega,rfl,by go_num,HS.step a5 a2 HK⟩
 obtain rfl:k=i:=by omega
 have a1: ¬(k:Int)< (k:Int):=by omega
 have HS:=Q0 u
 clear u
 go_wp2_with fail
 go_end0
 refine⟨rfl, ?_,HS.keep⟩
 have h:=HS.st
 have y:=j.2.2.1
 have hy:=j.2.2.2.1
 rw[N7 (by omega),N7 (by omega),List.drop_of_length_le (by omega),List.drop_of_length_le (by omega)]at h
 simpa using h
theorem Qg2 (E:AX g lb sf sb blk n r St) w A U V B (a m b:Nat) (ha:A.length=a) (hm:A.length+U.length=m) (hb:m+V.length=b) (hU:0<U.length) (hV:0<V.length)
  (h:St w (A++(U++(V++B)))) (hn:(A++(U++(V++B))).length=n) (a4:n<=1000000):
  Calls prog 184 #[XE g lb sf sb,I O a,I O m,I O b] w fun e w'=>e= .returned (.tuple #[])/\St w' (A++(V++(U++B)))/\Q6 (fun k=>k=blk) w w':=by
 have a1:=E.lt _ _ h
 have eg:=E.eg
 have a3:=E.start h
 have a7:A.length+ (U.length+ (V.length+B.length))=n:=by simpa using hn
 have HE:=Q0 E
 have a9:=Q0 a3
 have HL:=Q0 (And.intro ha (And.intro hm (And.intro hb a7)))
 have a6:=Q0 (And.intro hU hV)
 have b9:a<=1000000:=by omega
 have b8:m<=1000000:=by omega
 have c2:b<=1000000:=by omega
 have a0:=Q0 a4
 have a5:=Q0 a1
 have z1:((m:Int)- (a:Int))=((U.length:Nat):Int):=by omega
 have z2:((b:Int)- (m:Int))=((V.length:Nat):Int):=by omega
 clear E h a3 hn a7 ha hb hm hU hV a4 a1
 unfold XE
 go_enter func184,ntmps184
 go_wp2_with fail
 go_loopg [8,9] (U.length+V.length) (fun gg s8 s9 wx=> ∃i j P y v Q,0<i/\0<j/\gg=i+j/\s8=I O i/\s9=I O j/\Hid (y.length=i/\v.length=j/\A.length+P.length+i=m/\P++(v++(y++Q))=V++U)/\KY St blk w wx (ZC g lb sf sb) (A++(P++(y++(v++(Q++B))))))
 case atStart=>exact⟨U.length,V.length,[],U,V,[],a6.1,a6.2,rfl,rfl,rfl,Q0 ⟨rfl,rfl,by have:=HL.out;simp;omega,by simp⟩,by simpa using a9.out⟩
 obtain⟨i,j,P,y,v,Q,b0,a8,rfl,rfl,rfl,u,D⟩:=hrel
 clear z1 z2
 have a2:A.length+ (P.length+ (y.length+ (v.length+ (Q.length+B.length))))=n:=by
  have h1:=E7 List.length u.2.2.2;simp only[List.length_append]at h1;have:=HL.out;omega
 have b2:i<=m:=by have:=u.out;omega
 have b5:j<=1000000:=by have:=u.out;have:=a0.out;omega
 obtain⟨c0,c1⟩:=D.cells
 have b1:(0:Int)<=(m:Int)- (i:Int):=by omega
 rcases Nat.lt_trichotomy i j with a1|rfl|a1
 ·have t1:=JF (show((i:Int))≠(j:Int) by omega)
  have t2: ¬(j:Int)< (i:Int):=by omega
  have C:=Vc HE wr (A++P) y (v.take (j-i)) (v.drop (j-i)) (Q++B) (m-i) (m+j-i) i (by have:=u.out;simp;omega) (by have:=u.out;simp;omega) u.1 (by have:=u.out;simp;omega) (by
   have h:=D.st;have e:v=v.take (j-i)++v.drop (j-i):=(P2 _ _).symm;rw[e]at h;simpa only[List.append_assoc]using h) (by have:=u.out;simp;omega) a0
  rw[show(((m-i:Nat):Int))=(m:Int)- (i:Int) by omega,show(((m+j-i:Nat):Int))=(m:Int)+ (j:Int)- (i:Int) by omega]at C;have J:=Q0 C;have HS:=Q0 D;clear D C a2;unfold XE at J;go_wp2_with fail
  refine J.mono ?_;rintro e w2 ⟨rfl,N,hk⟩;have Z:=Q0 N;have HK:=Q0 hk;clear N hk;go_wp2_with fail
  go_roundg (i+ (j-i))
  case measure=>omega
  refine⟨i,j-i,P,v.drop (j-i),v.take (j-i),y++Q,b0,by omega,rfl,rfl,by rw[show(((j-i:Nat):Int))=(j:Int)- (i:Int) by omega],Q0 ⟨by have:=u.out;simp;omega,by have:=u.out;simp;omega,u.2.2.1, ?_⟩, ?_⟩
  ·have h:=u.2.2.2
   have e:v=v.take (j-i)++v.drop (j-i):=(P2 _ _).symm;rw[e]at h;simpa only[List.append_assoc]using h
  exact HS.step a5 (by have h:=Z.out;simpa only[List.append_assoc]using h) HK
 ·have t1:=JW (show((i:Int))=(i:Int)from rfl)
  have C:=Vc HE wr (A++P) y [] v (Q++B) (m-i) m i (by have:=u.out;simp;omega) (by have:=u.out;simp;omega) u.1 u.2.1 (by
   have h:=D.st;simpa only[List.append_assoc,List.nil_append]using h) (by have:=u.out;simp;omega) a0
  rw[show(((m-i:Nat):Int))=(m:Int)- (i:Int) by omega]at C;have J:=Q0 C;have HS:=Q0 D;clear D C a2;unfold XE at J;go_wp2_with fail
  refine J.mono ?_;rintro e w2 ⟨rfl,N,hk⟩;have Z:=Q0 N;have HK:=Q0 hk;clear N hk;go_wp2_with fail
  go_end0
  refine⟨rfl, ?_,HS.keep.trans HK (fun i e=> .inl e)⟩;have h:=Z.out;have e:A++(V++(U++B))=A++((V++U)++B):=by simp only[List.append_assoc]
  rw[e,<-u.2.2.2];simpa only[List.append_assoc,List.nil_append]using h
 have t1:=JF (show((i:Int))≠(j:Int) by omega)
 have t2:(j:Int)< (i:Int):=by omega
 have C:=Vc HE wr (A++P) (y.take j) (y.drop j) v (Q++B) (m-i) m j (by have:=u.out;simp;omega) (by have:=u.out;simp;omega) (by have:=u.out;simp;omega) u.2.1 (by
  have h:=D.st;have e:y=y.take j++y.drop j:=(P2 _ _).symm;rw[e]at h;simpa only[List.append_assoc]using h) (by have:=u.out;simp;omega) a0
 rw[show(((m-i:Nat):Int))=(m:Int)- (i:Int) by omega]at C
 have J:=Q0 C
 have HS:=Q0 D
 clear D C a2
 unfold XE at J
 go_wp2_with fail
 refine J.mono ?_
 rintro e w2 ⟨rfl,N,hk⟩
 have Z:=Q0 N
 have HK:=Q0 hk
 clear N hk
 go_wp2_with fail
 go_roundg (i-j+j)
 case measure=>omega
 refine⟨i-j,j,P++v,y.drop j,y.take j,Q,by omega,a8,rfl,by rw[show(((i-j:Nat):Int))=(i:Int)- (j:Int) by omega],rfl,Q0 ⟨by have:=u.out;simp;omega,by have:=u.out;simp;omega,by have:=u.out;simp;omega, ?_⟩, ?_⟩
 ·have h:=u.2.2.2
  have e:y=y.take j++y.drop j:=(P2 _ _).symm;rw[e]at h;simpa only[List.append_assoc]using h
 exact HS.step a5 (by have h:=Z.out;simpa only[List.append_assoc]using h) HK
end
section
variable {α:Type} {g:Nat} {lb:Array Value} {sf:Nat} {sb:Array Value} {blk n:Nat} {r:α->Int} {St:World->List (α×Nat)->Prop}
theorem Qy8 {Q:List (α×Nat)} (h:Q.Pairwise fun x y=>x.2<y.2) {k} (hk:k<Q.length) {S} (j:S.Perm (Q.take k)):VE S [Q[k]]:=by
 intro x u y hy
 simp at hy
 subst hy
 obtain⟨i,v,rfl⟩:=XG.1 (j.mem_iff.1 u)
 have C:i<k:=by rw[T6]at v;omega
 rw[LB]
 exact DZ.1 h i k (by omega) hk C
theorem Qy9 {L:List α} {p} (hp:L.length=p+1): ∃L' y,L=L'++ [y]/\L'.length=p:=by
 have i:L≠ []:=by intro e;rw[e]at hp;cases hp
 exact⟨L.dropLast,L.getLast i,(List.dropLast_concat_getLast i).symm,by rw[List.length_dropLast];omega⟩
theorem Yz {A B} {x:α} {i} (j:A.length=i) (h:i< (A++(x::B)).length):(A++(x::B))[i]=x:=by
 subst j
 simp
theorem Bt (E:AX g lb sf sb blk n (fun x:α×Nat=>r x.1) St) w A Q B (a b:Nat) (ha:A.length=a) (hb:A.length+Q.length=b) (hQ:Q.Pairwise fun x y=>x.2<y.2)
  (h:St w (A++(Q++B))) (hn:(A++(Q++B)).length=n) (c7:n<=1000000):
  Calls prog 167 #[XE g lb sf sb,I O a,I O b] w fun e w'=>e= .returned (.tuple #[])/\(∃S,S.Perm Q/\C6 r S/\St w' (A++(S++B)))/\Q6 (fun k=>k=blk) w w':=by
 have N:=E.lt _ _ h
 have eg:=E.eg
 have b1:=E.start h
 have c2:A.length+ (Q.length+B.length)=n:=by simpa using hn
 have HE:=Q0 E
 have d4:=Q0 b1
 have HL:=Q0 (And.intro ha (And.intro hb c2))
 have HQ:=Q0 hQ
 have e5:a<=1000000:=by omega
 have e2:b<=1000000:=by omega
 have a5:=Q0 N
 clear E h b1 hn c2 ha hb c7 N hQ
 unfold XE
 go_enter func167,ntmps167
 go_wp2_with fail
 go_loopg [6] (Q.length+1-1) (fun gg s6 wx=> ∃k S,1<=k/\k<=Q.length+1/\gg=Q.length+1-k/\s6=I O ((a:Int)+ (k:Int))/\Hid (S.Perm (Q.take k)/\C6 r S)/\KY St blk w wx (ZC g lb sf sb) (A++(S++(Q.drop k++B))))
 case atStart=>exact⟨1,Q.take 1,Q4 _,by omega,rfl,rfl,Q0 ⟨TL _,by
  unfold C6
  match Q with
  | []=>exact List.Pairwise.nil
  |x::t=>exact PY _ _⟩,by
  have h:=d4.out;have e:Q.take 1++(Q.drop 1++B)=Q++B:=by rw[<-VM,P2]
  rw[e];exact h⟩
 obtain⟨k,S,d7,d9,rfl,rfl,HS,j⟩:=hrel
 by_cases N:k<Q.length
 ·have d2:(a:Int)+ (k:Int)< (b:Int):=by have:=HL.out;omega
  have ed:Q.drop k=Q[k]::Q.drop (k+1):=UC N;have et:Q.take (k+1)=Q.take k++ [Q[k]]:=M8 N;have c6:=Q0 (Qy8 HQ N HS.1);rw[ed]at j;obtain⟨x,hx⟩:=exq (Q[k]);rw[hx]at j c6 et;have c8:=Q0 et;have HA:=Q0 j;have c4:S.length=k:=by have:=HS.1.length_eq;rw[T6]at this;omega
  have b2:=Q0 c4;have e7:((a:Int)+ (k:Int))<=1000000:=by have:=HL.out;omega
  obtain⟨wo,rfl⟩: ∃wo,wo=wr:=⟨_,rfl⟩;clear ed et hx j c4;go_wp2_with fail
  go_loopg [7] k (fun gg s7 wx=> ∃p L R,p<=k/\gg=0+p/\s7=I O ((a:Int)+ (p:Int))/\Hid (L++R=S/\L.length=p/\FE r [x] R)/\KY St blk w wx (ZC g lb sf sb) (A++(L++(x:: (R++(Q.drop (k+1)++B))))))
  case atStart=>exact⟨k,S,[],Q4 _,by omega,rfl,Q0 ⟨by simp,b2.out,fun x hx y hy=>by cases hy⟩,by simpa using HA.out⟩
  obtain⟨p,L,R,d6,rfl,rfl,u,j⟩:=hrel;obtain⟨c0,c1⟩:=j.cells;have b8:(∀(h1:0<L.length),¬r x.1<r (L[L.length-1]'(by omega)).1)->(L++x::R).Perm (Q.take (k+1))/\C6 r (L++x::R):=fun hL=>by
   refine⟨?_,Pn (by rw[u.1];exact HS.2) (by rw[u.1];exact c6) u.2.2 hL⟩;rw[c8.out];refine List.perm_middle.trans ?_;rw[u.1];exact(HS.1.cons x).trans (List.perm_append_comm (l₁:= [x]))
  have a0:=Q0 b8;clear b8
  by_cases e3:p=0
  ·have t1: ¬(a:Int)< (a:Int)+ (p:Int):=by omega
   have a7:=Q0 (a0 (fun h1=>absurd h1 (by rw[u.2.1];omega)));have C:=Q0 j;have b9:decide ((a:Int)< (a:Int)+ (p:Int))=false:=Z1 (by omega);clear j a0;go_wp2_with fail
   go_roundg (Q.length+1- (k+1))
   case measure=>omega
   exact⟨k+1,L++x::R,by omega,by omega,rfl,by rw[show(a:Int)+ ((k+1:Nat):Int)=(a:Int)+ (k:Int)+1 by omega],a7,by have h:=C.out;simpa only[List.append_assoc,List.cons_append]using h⟩
  obtain⟨p',a6⟩: ∃p',p=p'+1:=⟨p-1,by omega⟩;obtain⟨L',y,d5,e6⟩:=Qy9 (u.2.1.trans a6);have HP:=Q0 a6;subst d5;have b9:decide ((a:Int)< (a:Int)+ (p:Int))=true:=Z5 (by omega);have a9:=j.st;have e1:A++(L'++ [y]++(x:: (R++(Q.drop (k+1)++B))))=(A++L')++(y::x:: (R++(Q.drop (k+1)++B))):=by simp only[List.append_assoc,List.cons_append,List.nil_append]
  rw[e1]at a9;have D:(A++L').length=a+p':=by have:=HL.out;simp;omega
  have Z:((A++L')++(y::x:: (R++(Q.drop (k+1)++B)))).length=n:=by
   have h1:=E7 List.length u.1;have h2:=b2.out;have:=HL.out;simp at h1|-;omega
  have a2:a+ (p'+1)< ((A++L')++(y::x:: (R++(Q.drop (k+1)++B)))).length:=by simp at D|-;omega
  have b0:a+p'< ((A++L')++(y::x:: (R++(Q.drop (k+1)++B)))).length:=by simp at D|-;omega
  have v:=HE.less wr _ (a+ (p'+1)) (a+p') a9 Z a2 b0 (by omega);have g0:((A++L')++(y::x:: (R++(Q.drop (k+1)++B))))[a+p']=y:=Yz D _;have g1:((A++L')++(y::x:: (R++(Q.drop (k+1)++B))))[a+ (p'+1)]=x:=by
   have e:(A++L')++(y::x:: (R++(Q.drop (k+1)++B)))=((A++L')++ [y])++(x:: (R++(Q.drop (k+1)++B))):=by simp
   have:=Yz (A:=(A++L')++ [y]) (B:=R++(Q.drop (k+1)++B)) (x:=x) (i:=a+ (p'+1)) (by simp at D|-;omega) (by rw[<-e];exact a2);simp only[e];exact this
  rw[g0,g1]at v;have a3:=fun W hW=>HE.swap W ((A++L')++(y::x:: (R++(Q.drop (k+1)++B)))) (a+ (p'+1)) (a+p') hW Z (by rw[<-Z];exact a2) (by rw[<-Z];exact b0) (by omega)
  have a8:=Ek (A++L') (R++(Q.drop (k+1)++B)) y x D;rw[show a+p'+1=a+ (p'+1) by omega]at a8;rw[a8]at a3;have ci:(((a+p':Nat):Int))=(a:Int)+ (p:Int)-1:=by omega
  have cj:(((a+ (p'+1):Nat):Int))=(a:Int)+ (p:Int):=by omega
  rw[ci,cj]at v a3;have c9:=Q0 a3;have c3:=Q0 v;have C:=Q0 j;have d8:=Q0 e1;have e4:=Q0 D;clear a9 D Z a2 b0 g0 g1 a8 ci cj a3 v j e1 a6
  by_cases J:r x.1<r y.1
  ·have v:=c3.out
   rw[Z5 J]at v;have HV:=Q0 J;clear J a0;go_wp2_with (go_at_fn g;refine v.mono ?_;rintro e w2 ⟨rfl,a1,U⟩;obtain⟨w3,hs,b5,c5⟩:=c9.out w2 a1;have a4:=Q0 U;have d3:=Q0 b5;have d0:=Q0 c5;have c1:w2.cell? ⟨w.heap.size,1,none⟩=some (.func (.func sf) #[] sb):=(by rw[J0 (X0 C.box U (fun e=>by have e:w.heap.size=blk:=e;have:=a5.out;omega))];rfl);clear a1 U b5 c5)
   go_roundg (0+p')
   case measure=>have:=HP.out;omega
   refine⟨p',L',y::R,by have:=HP.out;omega,rfl,by rw[show(a:Int)+ (p':Int)=(a:Int)+ (p:Int)-1 by have:=HP.out;omega],Q0 ⟨by have h:=u.1;simpa using h,by have h:=u.2.1;have:=HP.out;simp at h;omega, ?_⟩, ?_⟩
   ·exact Qx5 (L':=L') (by have h:=HS.2;rw[<-u.1]at h;simpa using h) u.2.2 HV
   exact(C.step a5 (by have h:=d3.out;simpa only[List.append_assoc,List.cons_append]using h) (a4.trans d0 (fun i e=> .inl e)))
  have v:=c3.out;rw[Z1 J]at v;have a7:=Q0 (a0 (fun h1=>by simpa using J));clear J a0;go_wp2_with (go_at_fn g;refine v.mono ?_;rintro e w2 ⟨rfl,a1,U⟩;have a4:=Q0 U;have d1:=Q0 a1;clear a1 U)
  go_roundg (Q.length+1- (k+1))
  case measure=>omega
  refine⟨k+1,(L'++ [y])++x::R,by omega,by omega,rfl,by rw[show(a:Int)+ ((k+1:Nat):Int)=(a:Int)+ (k:Int)+1 by omega],a7, ?_⟩;refine C.step a5 ?_ a4;have h:=d1.out;simpa only[List.append_assoc,List.cons_append,List.nil_append]using h
 have d2: ¬(a:Int)+ (k:Int)< (b:Int):=by have:=HL.out;omega
 have C:=Q0 j
 have b9: ¬((a:Int)+ (k:Int))< (b:Int):=by omega
 clear j
 go_wp2_with fail
 go_end0
 refine⟨rfl,⟨S, ?_,HS.2, ?_⟩,C.keep⟩
 ·have h:=HS.1
  rwa [N7 (by omega)]at h
 have h:=C.st
 rw[List.drop_of_length_le (by omega)]at h
 simpa using h
end
def MC (side kind price:Int):Int:=if kind=2 then -2000000 else if side=1 then -price else price
def KH (side:Int) (o:Q8):Int:=MC side o.kind o.price
theorem Qz0 a b c d e side bs W X (h:W.cell? ⟨bs,0,none⟩=some (I O side)/\X) (U: -1000000000<=d) (E:d<=1000000000):
  Calls prog 82 #[.agg #[I O a,I O b,I O c,I O d,I O e],IP (some ⟨bs,0,none⟩)] W fun e w'=>e= .returned (I O (MC side c d))/\Below W.heap.size W w':=by
 have D:=h.1
 have J:bs<W.heap.size:=V6 W ⟨bs,0,none⟩ D
 clear h
 have v:=Q0 (show Below W.heap.size W (W.alloc (.cells #[I O a,I O b,I O c,I O d,I O e] 29))from(Q2 _ _).alloc (Q4 _) _)
 by_cases i:c=2
 ·have y:=Z0 i
  have u:=Q0 (show MC side c d= -2000000 from Q5 i);clear i;go_enter func82,ntmps82
  go_wp2;go_ret;exact⟨T3 (by rw[u.out]),v⟩
 have y:=X3 i
 by_cases j:side=1
 ·have C:=Z0 j
  have u:=Q0 (show MC side c d= -d by unfold MC;rw[Q3 i,Q5 j]);have N:RowKit.wrap64 (-d)= -d:=by unfold RowKit.wrap64;omega
  clear i j;go_enter func82,ntmps82
  go_wp2;go_ret;exact⟨T3 (by rw[u.out]),v⟩
 have C:=X3 j
 have u:=Q0 (show MC side c d=d by unfold MC;rw[Q3 i,Q3 j])
 clear i j
 go_enter func82,ntmps82
 go_wp2
 go_ret
 exact⟨T3 (by rw[u.out]),v⟩
abbrev CQ (w W:World) (bs bo br g n c i j:Nat) (side:Int) (x y:Q8):Prop:=W.cell? ⟨bs,0,none⟩=some (I O side)/\W.cell? ⟨bo,0,none⟩=some (.slice (some ⟨g,0,none⟩) n c)/\W.cell? ⟨br,0,none⟩=some (.func (.func 82) #[] #[IP (some ⟨bs,0,none⟩)])/\
 W.cell? ⟨g,i*5,none⟩=some (I O x.id)/\W.cell? ⟨g,i*5+1,none⟩=some (I O x.side)/\W.cell? ⟨g,i*5+2,none⟩=some (I O x.kind)/\W.cell? ⟨g,i*5+3,none⟩=some (I O x.price)/\W.cell? ⟨g,i*5+4,none⟩=some (I O x.qty)/\
 W.cell? ⟨g,j*5,none⟩=some (I O y.id)/\W.cell? ⟨g,j*5+1,none⟩=some (I O y.side)/\W.cell? ⟨g,j*5+2,none⟩=some (I O y.kind)/\W.cell? ⟨g,j*5+3,none⟩=some (I O y.price)/\W.cell? ⟨g,j*5+4,none⟩=some (I O y.qty)/\Below w.heap.size w W
theorem CQ.step {w W W' bs bo br g n c i j side x y} (h:CQ w W bs bo br g n c i j side x y) (u:Below W.heap.size W W'):CQ w W' bs bo br g n c i j side x y:=by
 obtain⟨h1,h2,J,N,Z,U,x3,x4,D,y1,y2,y3,E,C⟩:=h
 have key: ∀ {p v},W.cell? p=some v->W'.cell? p=some v:=fun {p v} hp=>(u.cell (V6 W p hp)).trans hp
 exact⟨key h1,key h2,key J,key N,key Z,key U,key x3,key x4,key D,key y1,key y2,key y3,key E,C.trans (u.mono C.size)⟩
theorem CQ.below {w W bs bo br g n c i j side x y} (h:CQ w W bs bo br g n c i j side x y):Below w.heap.size w W:=h.2.2.2.2.2.2.2.2.2.2.2.2.2
theorem CQ.drew {w W bs bo br g n c i j side x y} (h:CQ w W bs bo br g n c i j side x y):CQ w W.drew bs bo br g n c i j side x y:=CQ.step h (J3 (Q2 _ _))
theorem Qz1 bs bo br g n c i j side x y w (h:CQ w w bs bo br g n c i j side x y) (hi:i<n) (hj:j<n) (a2: -1000000000<=x.price) (a0:x.price<=1000000000) (a1: -1000000000<=y.price) (a3:y.price<=1000000000):
  Calls prog 84 #[I O i,I O j,IP (some ⟨br,0,none⟩),IP (some ⟨bo,0,none⟩)] w fun e w'=>e= .returned (.bool (decide (KH side x<KH side y)))/\Below w.heap.size w w':=by
 have eg: ∀u w,(callFunc 82 u).run prog w= .ok (.enter 82 u) w:=XH func82 (by kernel_rfl) rfl
 unfold KH
 obtain⟨xa,v,xc,D,xe⟩:=x
 obtain⟨J,N,C,E,Z⟩:=y
 have U:=Q0 h
 obtain⟨h1,h2,h3,x0,x1,x2,x3,x4,y0,y1,y2,y3,y4,-⟩:=h
 dsimp only at*
 have i0:(0:Int)<=(i:Int):=by omega
 have j0:(0:Int)<=(j:Int):=by omega
 have i1:(i:Int)< (n:Int):=by omega
 have j1:(j:Int)< (n:Int):=by omega
 go_enter func84,ntmps84
 go_wp2
 go_region_held3 (fun W=>CQ w W bs bo br g n c i j side ⟨xa,v,xc,D,xe⟩ ⟨J,N,C,E,Z⟩)
  (first|exact U.drew|exact CQ.step (by assumption) hB)
  (first|(go_at_fn 82;refine(Qz0 _ _ _ _ _ _ _ _ _ (by assumption) (by assumption) (by assumption)).mono ?_;rintro e w1 ⟨rfl,hB⟩))
 go_wp2
 go_ret
 exact⟨rfl,CQ.below (by assumption)⟩
section
open Go.ChangeShapes Go.Deep Go.WideShapes
section
variable {H:Type} {enc:TypeId×Value->H} {w:World} {base:Nat} {spare:Nat->Bool} {held:Bool}
theorem Qa6 {cs d p} (hs:cs.size=prog.cellsOf 36) (h:DataW.Trod enc prog w base spare held 36 (.agg cs) d p):
  ∃A len cap rows st dy pr tk mo,cs= #[.slice A len cap,.int .i64 st,.int .i64 dy,.int .i64 pr,.int .i64 tk,.int .i64 mo]/\GH w 2 A len cap rows:=by
 obtain⟨fuel,y⟩:=h
 have e:(Value.agg cs).cells=cs:=rfl
 rw[e]at y
 have hc:prog.cellsOf 36=6:=by kernel_rfl
 rw[hc]at hs
 have a5:([1,2,3,4,5].all fun i=>NR prog 5 36 i)=true:=by kernel_rfl
 have key: ∀i,i∈ [1,2,3,4,5]-> ∃z,cs[i]?=some (.int .i64 z):=fun i E=>by
  obtain⟨z,hz,-⟩:=Ya 5 36 i fuel _ _ (LD.1 a5 i E) y;exact⟨z,by simpa using hz⟩
 obtain⟨Z,h1⟩:=key 1 (by simp)
 obtain⟨z2,h2⟩:=key 2 (by simp)
 obtain⟨z3,h3⟩:=key 3 (by simp)
 obtain⟨U,h4⟩:=key 4 (by simp)
 obtain⟨N,h5⟩:=key 5 (by simp)
 obtain⟨xs,n,-,-,hl,a1,a2⟩:=DataW.trod_struct underlying36 y
 have e0:DataW.trod enc prog w base spare held n 34 ((cs.toList.drop 0).take (prog.cellsOf 34))=xs[0]?:=a2 0 _ rfl
 have hx:xs[0]?=some (xs[0]'(by rw[a1];decide)):=KP _
 rw[hx]at e0
 have a4:prog.cellsOf 34=1:=by kernel_rfl
 rw[a4]at e0
 have ht:(cs.toList.drop 0).take 1= [cs[0]'(by omega)]:=by
  rw[FW,M8 (by simpa using(by omega:0<cs.size))];simp
 rw[ht]at e0
 have a0: ∃A len cap rows,cs[0]'(by omega)= .slice A len cap/\GH w 2 A len cap rows:=by
  rcases open_slice underlying34 e0 with⟨u,_⟩|⟨a,J,C,mm,n',D,Pl,u,hb,a7,a6,a8,_,E⟩
  ·rw[List.cons.injEq]at u
   rw[u.1]at e0|-;obtain⟨rows,v⟩:=Zz (m:=2) (et:=33) underlying34 (by kernel_rfl) (by kernel_rfl) (by omega) (show DataW.Trod enc prog w base spare held 34 (.slice none 0 0) _ _ from⟨_,e0⟩);exact⟨none,0,0,rows,rfl,v⟩
  rw[List.cons.injEq]at u;rw[u.1]at e0|-;obtain⟨rows,v⟩:=Zz (m:=2) (et:=33) underlying34 (by kernel_rfl) (by kernel_rfl) (by omega) (show DataW.Trod enc prog w base spare held 34 (.slice (some a) J C) _ _ from⟨_,e0⟩);exact⟨some a,J,C,rows,rfl,v⟩
 obtain⟨A,len,cap,rows,h0,v⟩:=a0
 refine⟨A,len,cap,rows,Z,z2,z3,U,N, ?_,v⟩
 have a3:cs[0]?=some (.slice A len cap):=by rw[Array.getElem?_eq_getElem (by omega),h0]
 apply Array.ext_getElem?
 intro i
 match i with
 |0=>rw[a3];rfl
 |1=>rw[h1];rfl
 |2=>rw[h2];rfl
 |3=>rw[h3];rfl
 |4=>rw[h4];rfl
 |5=>rw[h5];rfl
 |j+6=>
  rw[Zm (by omega)];rw[Zm (by show 6<=j+6;omega)]
end
end
theorem Lx n i j w:Calls prog 55 #[I O n,I O i,I O j] w fun e w'=>e= .returned (.bool (decide (i<=n) &&decide (n<=j)))/\w=w':=by
 by_cases h:i<=n
 ·go_enter NU,NK
  go_wp2;go_ret;exact⟨T2 (by simp[h]),rfl⟩
 have u:decide (i<=n)=false:=by simpa using h
 go_enter NU,NK
 go_wp2
 go_ret
 exact⟨T2 (by simp),rfl⟩
theorem Qg3 p k w:Calls prog 58 #[I O p,I O k] w fun e w'=>e= .returned (.bool (VY p k))/\w=w':=by
 rcases five p with rfl|rfl|rfl|rfl|rfl|hp
 case inr.inr.inr.inr.inr=>
  have i:VY p k=false:=by unfold VY;rw[Q3 (by omega),Q3 (by omega),Q3 (by omega)]
  have N:=X3 (a:=p) (b:=1) (by omega);have v:=X3 (a:=p) (b:=2) (by omega);have C:=X3 (a:=p) (b:=3) (by omega);have J:=X3 (a:=p) (b:=4) (by omega);have y:=X3 (a:=p) (b:=5) (by omega);rw[i];clear i hp;go_enter func58,ntmps58
  go_wp2;go_ret;exact⟨rfl,rfl⟩
 all_goals
  rcases Rw k with rfl|rfl|rfl|rfl|hk
  case inr.inr.inr.inr=>
   have D:=X3 (a:=k) (b:=1) (by omega);have U:=X3 (a:=k) (b:=2) (by omega);have Z:=X3 (a:=k) (b:=3) (by omega);have E:=X3 (a:=k) (b:=4) (by omega);have j:(decide (1<=k) &&decide (k<=4))=false:=by simp;omega
   have u:Hid ((decide (1<=k) &&decide (k<=4))=false):=j;rw[show VY _ k=false by simp[VY];omega];clear hk j;go_enter func58,ntmps58
   go_wp2_with (go_at_call 55;refine(Lx _ _ _ _).mono ?_;rintro e w' ⟨rfl,rfl⟩)
   go_ret;exact⟨T2 (by first|rfl|exact u),rfl⟩
  all_goals
   go_enter func58,ntmps58
   go_wp2_with (go_at_call 55;refine(Lx _ _ _ _).mono ?_;rintro e w' ⟨rfl,rfl⟩)
   go_ret;exact⟨rfl,rfl⟩
theorem Th p w:Calls prog 81 #[I O p] w fun e w'=>e= .returned (.bool (GC p))/\w=w':=by
 rcases five p with rfl|rfl|rfl|rfl|rfl|hp
 case inr.inr.inr.inr.inr=>
  have i:GC p=false:=by simp[GC];omega
  have y:=X3 (a:=p) (b:=1) (by omega);have j:=X3 (a:=p) (b:=2) (by omega);have v:=X3 (a:=p) (b:=4) (by omega);have u:=X3 (a:=p) (b:=5) (by omega);rw[i];clear i hp;go_enter func81,ntmps81
  go_wp2;go_ret;exact⟨rfl,rfl⟩
 all_goals
  go_enter func81,ntmps81
  go_wp2;go_ret;exact⟨rfl,rfl⟩
theorem Sr {ps:List (Int×Int)} {k:Nat} (hk:k<ps.length):AQ (ps.take k)++ [I O (ps.getD k (0,0)).1,I O (ps.getD k (0,0)).2]=AQ (ps.take (k+1)):=by
 have e:ps.getD k (0,0)=ps[k]:=by simp[List.getD_eq_getElem?_getD,hk]
 rw[M8 hk,e]
 unfold AQ
 rw[TV]
 rfl
theorem Qp5:(prog.info? 121).map (fun i=>(i.zero,i.size,i.bytes))=some (some (.agg #[I O 0,I O 0]),2,16):=by kernel_rfl
theorem Aa {w:World} {base:Nat} {e:TypeId} {size:Nat} {v:Value} {n:Nat} {xs:List Value} (h:w.ownsRow base e size v n xs) {b:Nat} (j:b<base):some b≠v.ownBlock:=by
 rcases h.2 with⟨rfl,_⟩|⟨g,cap,i,rfl,u,_⟩
 ·simp[Value.ownBlock]
 simp[Value.ownBlock];omega
theorem Cx (A:Option Addr) (len cap:Nat) (ps:List (Int×Int)) (w:World) (h:T4 w A len cap ps) (hm:len<=60):
  Calls prog 17 #[.slice A len cap] w fun e w'=>Below w.heap.size w w'/\ ∃A' D,e= .returned (.slice A' len D)/\T4 w' A' len D ps/\ ∀g,Q7 A'=some g->w.heap.size<=g/\g<w'.heap.size:=by
 have J:=h.1
 go_enter func17,ntmps17
 go_wp2
 go_loopg [3,4] len (fun g s3 s4 wx=> ∃k:Nat,k<=len/\g=len-k/\s4=I O k/\Below w.heap.size w wx/\wx.ownsRow w.heap.size 121 2 s3 k (AQ (ps.take k)))
 case atStart=>exact⟨0,V5 _,rfl,rfl,Q2 _ _,JX w _ _ _⟩
 obtain⟨k,hk,rfl,rfl,j,i⟩:=hrel
 have C:=Q0 J
 have HO:=Q0 i
 clear J i
 by_cases a1:k<len
 ·obtain⟨U,N,rfl,a4,hx⟩:=h.2 (by omega)
  clear hx;obtain⟨x0,x1⟩:=(h.below j (Q4 _)).at_ a1;obtain⟨i0,a0,a5,a6,a7⟩:=N0 Qp5;have a3:=j.size;have y:=Q0 (Sr (ps:=ps) (k:=k) (by have:=C.out;omega));generalize(ps.getD k (0,0)).1=q at x0 y;generalize(ps.getD k (0,0)).2=x at x1 y;go_wp2_with fail
  go_upto_region 5 with fail
  go_region_held3 (fun w'=>w'.cell? ⟨U,N+k*2,none⟩=some (I O q)/\w'.cell? ⟨U,N+k*2+1,none⟩=some (I O x))
   (first
    |go_keep
    |(go_split_ands;refine⟨?_, ?_⟩<;>(rw[E.cell_far _ (by simp;omega) ((Aa HO a4))];assumption)))
   ((refine PH _ (by rfl) _ _ _ (by rfl) w.heap.size 121 i0 _ 2 16 underlying63 a0 a5 a6 a7 rfl (by omega) u3 k _ (by rfl) ((HO.alloc _).drew)
        ⟨wr.heap.size,0,none⟩ 1 1 [I O q,I O x] (by rfl) (by rfl) (JB (cs:= #[I O q,I O x]) (t:=121) (fr:=(0,0)) (S5 wr _)) (by simp[Value.oneCell'])
        (by omega) (by unfold maxLen;omega) (by omega) (by simp;omega) (wr.heap.size+1) (by simp) ?_;intro gg cap w1 a2 E a9 b0))
  go_wp2
  go_roundg (len- (k+1))
  case measure=>omega
  exact⟨k+1,by omega,rfl,by go_num,(j.alloc a3 _).drew.grown E (by simp;omega) (fun q v=>Nat.le_of_not_lt fun h=>Aa HO h v.symm),by rw[<-y.out];exact a2⟩
 obtain rfl:k=len:=by omega
 have i:=HO.out
 rw[N7 (by rw[C.out];exact Q4 _)]at i
 clear HO
 rcases i.2 with⟨rfl,u⟩|⟨g,D,a8,rfl,_⟩
 ·have Z:=Q0 u
  clear u i;go_wp2;go_ret;have u:=Z.out;subst u;exact⟨j,none,0,rfl,⟨C,fun h=>absurd h (by omega)⟩,by simp[Q7]⟩
 have HO:=Q0 i
 clear i
 go_wp2
 go_ret
 exact⟨j,_,_,rfl,T4.of_own HO,fun q v=>⟨Nat.le_of_not_lt fun h=>Aa HO h (by simpa [Q7,Value.ownBlock]using v.symm),(World.ownsRow.lt HO q (by simpa [Q7,Value.ownBlock]using v)).2⟩⟩
