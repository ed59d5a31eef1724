/- Parts. -/
import Derived.Test.YtnlngicnfegjgaaGreatDoorZq5
set_option linter.unusedVariables false
set_option maxRecDepth 100000
set_option maxHeartbeats 8000000
open Go.Proofs.Tryz
open Go.Value renaming int→I,pointer→IP
open Go.IntKind renaming i64→O
namespace Go.Proofs.YtnlngicnfegjgaaGreatDoor
open Go.RowKit
def JG (side a b:Int):Bool:=if side=1 then decide (b<a)else decide (a<b)
def M4 (side a b:Int):Int:=if a=b then 0 else if JG side a b=true then -1 else 1
theorem El side a b w:Calls prog 178 #[I O side,I O a,I O b] w fun e w'=>e= .returned (.bool (JG side a b))/\w=w':=by
 by_cases h:side=1
 ·have t:=Z0 h
  have E:Hid (JG side a b=decide (b<a)):=Q0 (by unfold JG;rw[Q5 h]);clear h;go_enter func178,ntmps178
  go_wp2;go_ret;exact⟨T2 (by rw[E.out]),rfl⟩
 have t:=X3 h
 have E:Hid (JG side a b=decide (a<b)):=Q0 (by unfold JG;rw[Q3 h])
 clear h
 go_enter func178,ntmps178
 go_wp2
 go_ret
 exact⟨T2 (by rw[E.out]),rfl⟩
theorem Qa7 side a b L g w (C: ∃A n c,L= .slice A n c) (v:w.cell? ⟨g,0,none⟩=some (I O side)):
  Calls prog 177 #[.agg #[I O a,L],I O b,IP (some ⟨g,0,none⟩)] w fun e w'=>e= .returned (I O (M4 side a b))/\Below w.heap.size w w':=by
 obtain⟨A,n,c,rfl⟩:=C
 have y:=V6 w _ v
 have D:=(S4 w (.cells #[I O a,.slice A n c] 214) ⟨g,0,none⟩ y).trans v
 have u:=Q0 (show Below w.heap.size w (w.alloc (.cells #[I O a,.slice A n c] 214))from(Q2 _ w).alloc (Q4 _) _)
 by_cases h:a=b
 ·have t:=Z0 h
  have E:Hid (M4 side a b=0):=Q0 (by unfold M4;rw[Q5 h]);clear h;go_enter func177,ntmps177
  go_wp2_with fail
  go_ret;exact⟨T3 (by rw[E.out]),u⟩
 have t:=X3 h
 cases i:JG side a b with
 |true=>
  have E:Hid (M4 side a b= -1):=Q0 (by unfold M4;rw[Q3 h,i];rfl);have j:=Q0 i;clear h i;go_enter func177,ntmps177
  go_wp2_with (go_at_call 178;refine(El _ _ _ _).mono ?_;rintro e w1 ⟨rfl,rfl⟩;rw[j.out])
  all_goals go_wp2
  all_goals
   go_ret;exact⟨T3 (by rw[E.out]),u⟩
 |false=>
  have E:Hid (M4 side a b=1):=Q0 (by unfold M4;rw[Q3 h,i];rfl);have j:=Q0 i;clear h i;go_enter func177,ntmps177
  go_wp2_with (go_at_call 178;refine(El _ _ _ _).mono ?_;rintro e w1 ⟨rfl,rfl⟩;rw[j.out])
  all_goals go_wp2
  all_goals
   go_ret;exact⟨T3 (by rw[E.out]),u⟩
abbrev FL:=Int×Option Addr×Nat×Nat
def U2 (q:FL):List Value:= [I O q.1,.slice q.2.1 q.2.2.1 q.2.2.2]
theorem JP q:(U2 q).length=2:=rfl
def CJ (side:Int) (qs:List FL):Prop:=qs.Pairwise fun x y=>JG side x.1 y.1=true
theorem Qg4 {side a b c} (h1:JG side a b=true) (h2:JG side b c=true):JG side a c=true:=by
 unfold JG at*
 split at h1<;>split at h2<;>simp_all<;>omega
theorem Ye {side a b}:M4 side a b<0↔JG side a b=true:=by
 unfold M4 JG
 by_cases h:a=b
 ·subst h;simp
 rw[Q3 h]
 split<;>split<;>simp_all
theorem Em {side p:Int} {qs:List FL} (h:CJ side qs) {i j:Nat} (y:j<qs.length) (C:i<=j) (u:M4 side qs[j].1 p<0):M4 side (qs[i]'(by omega)).1 p<0:=by
 rcases MP C with v|rfl
 ·rw[Ye]at u|-
  exact Qg4 (DZ.1 h i j (by omega) y v) u
 exact u
theorem Qg5 (side p:Int) (g:FuncId) (lb:Array Value) (A:Option Addr) (n c:Nat) (qs:List FL) (w:World) (h:V4 w U2 2 A n qs) (hr:CJ side qs) (hm:n<=100000)
  (eg: ∀a6 w,(callFunc g a6).run prog w= .ok (.enter g a6) w)
  (a5: ∀W (q:FL),Below w.heap.size w W->Calls prog g (#[.agg #[I O q.1,.slice q.2.1 q.2.2.1 q.2.2.2],I O p]++lb) W fun e w'=>e= .returned (I O (M4 side q.1 p))/\Below W.heap.size W w'):
  Calls prog 176 #[.slice A n c,I O p,.func (.func g) #[] lb] w fun e w'=>Below w.heap.size w w'/\ ∃k:Nat,k<=n/\(∀i (hi:i<qs.length),i<k->M4 side qs[i].1 p<0)/\(∀i (hi:i<qs.length),k<=i->0<=M4 side qs[i].1 p)/\
   e= .returned (.tuple #[I O k,.bool (decide (k<n) && (match qs[k]? with|some q=>M4 side q.1 p ==0|none=>false))]):=by
 have HH:=Q0 h
 have hl:=h.1
 have HL:=Q0 hl
 have HR:=Q0 hr
 have HC:=Q0 a5
 clear h hr a5 hl
 go_enter func176,ntmps176
 go_wp2_with fail
 go_loopg [9,10] n (fun gg s9 a7 wx=> ∃u hi,u<=hi/\hi<=n/\gg=hi-u/\s9=I O u/\a7=I O hi/\Below w.heap.size w wx/\Hid ((∀i (hi:i<qs.length),i<u->M4 side qs[i].1 p<0)/\(∀i (hx:i<qs.length),hi<=i->0<=M4 side qs[i].1 p)))
 case atStart=>exact⟨0,n,V5 _,Q4 _,rfl,rfl,rfl,Q2 _ _,Q0 ⟨fun i _ h=>absurd h (by omega),fun i hx h=>by have:=HL.out;omega⟩⟩
 obtain⟨u,hi,b2,a2,rfl,rfl,rfl,D,U⟩:=hrel
 by_cases b5:u<hi
 ·have a8:(u:Int)< (hi:Int):=by omega
  go_upto_region 5 with fail
  have em:((u:Int)+ (hi:Int))/2=(((u+hi)/2:Nat):Int):=by omega
  have a9:u<=(u+hi)/2:=by omega
  have b1:(u+hi)/2<hi:=by omega
  rw[em];generalize(u+hi)/2=m at a9 b1|-;clear em;have J:m<qs.length:=by have:=HL.out;omega
  obtain⟨b,C,hA⟩: ∃b C,A=some ⟨b,C,none⟩:=by obtain⟨b,C,h1,_⟩:=HH.2 (by omega);exact⟨b,C,h1⟩
  subst hA;have E:=HH.below D (Q4 _);have x0:wr.cell? ⟨b,C+m*2,none⟩=some (I O qs[m].1):=E.at_ J (j:=0) rfl;have N:wr.cell? ⟨b,C+m*2+1,none⟩=some (.slice qs[m].2.1 qs[m].2.2.1 qs[m].2.2.2):=E.at_ J (j:=1) rfl;have y:=HC.out wr qs[m] D;have b0:(0:Int)<=(m:Int):=by omega
  have a3:(m:Int)< (n:Int):=by omega
  obtain⟨v,EV⟩: ∃v,Hid (M4 side qs[m].1 p=v):=⟨_,Q0 rfl⟩;rw[EV.out]at y;generalize qs[m].2.1=l0 at N y;generalize qs[m].2.2.1=l1 at N y;generalize qs[m].2.2.2=l2 at N y;obtain⟨pr,EP⟩: ∃v,Hid (qs[m].1=v):=⟨_,Q0 rfl⟩;rw[EP.out]at x0 y;have a1:=D.size;have HB:=Q0 D;clear E D
  by_cases Z:v<0
  ·have d1:decide (v<0)=true:=Z5 Z
   have HV:=Q0 Z;clear Z;go_wp2_with (go_at_fn g;refine y.mono ?_;rintro e w2 ⟨rfl,a0⟩)
   go_roundg (hi- (m+1))
   case measure=>omega
   exact⟨m+1,hi,by omega,a2,rfl,by go_num,rfl,HB.trans (a0.mono a1),Q0 ⟨fun i hx h=>Em HR J (by omega) (by rw[EV.out];exact HV),U.2⟩⟩
  have d1:decide (v<0)=false:=Z1 Z;have HV:=Q0 Z;clear Z;go_wp2_with (go_at_fn g;refine y.mono ?_;rintro e w2 ⟨rfl,a0⟩)
  go_roundg (m-u)
  case measure=>omega
  exact⟨u,m,by omega,by omega,rfl,rfl,by go_num,HB.trans (a0.mono a1),Q0 ⟨U.1,fun i hx h=>by
   rcases Int.lt_or_le (M4 side qs[i].1 p) 0 with h1|h1
   ·have:=Em HR hx h h1
    rw[EV.out]at this;have h5:=HV.out;omega
   exact h1⟩⟩
 obtain rfl:u=hi:=by omega
 have a8: ¬(u:Int)< (u:Int):=by omega
 have HB:=Q0 D
 by_cases a4:u<n
 ·have J:u<qs.length:=by have:=HL.out;omega
  obtain⟨b,C,hA⟩: ∃b C,A=some ⟨b,C,none⟩:=by obtain⟨b,C,h1,_⟩:=HH.2 (by omega);exact⟨b,C,h1⟩
  subst hA;have E:=HH.below D (Q4 _);have x0:wr.cell? ⟨b,C+u*2,none⟩=some (I O qs[u].1):=E.at_ J (j:=0) rfl;have N:wr.cell? ⟨b,C+u*2+1,none⟩=some (.slice qs[u].2.1 qs[u].2.2.1 qs[u].2.2.2):=E.at_ J (j:=1) rfl;have y:=HC.out wr qs[u] D;have b0:(0:Int)<=(u:Int):=by omega
  have a3:(u:Int)< (n:Int):=by omega
  have d1:decide ((u:Int)< (n:Int))=true:=Z5 a3;have HG:Hid ((decide (u<n) && (match qs[u]? with|some q=>M4 side q.1 p ==0|none=>false))=(M4 side qs[u].1 p ==0)):=Q0 (by rw[Z5 a4,KP J];rfl);generalize qs[u].2.1=l0 at N y;generalize qs[u].2.2.1=l1 at N y;generalize qs[u].2.2.2=l2 at N y;obtain⟨v,EV⟩: ∃v,Hid (M4 side qs[u].1 p=v):=⟨_,Q0 rfl⟩;rw[EV.out]at y;obtain⟨pr,EP⟩: ∃v,Hid (qs[u].1=v):=⟨_,Q0 rfl⟩;rw[EP.out]at x0 y;have a1:=D.size;clear E D;go_wp2_with (go_at_fn g;refine y.mono ?_;rintro e w2 ⟨rfl,a0⟩)
  go_ret2;exact⟨HB.trans (a0.mono a1),u,a2,U.1,U.2,by rw[HG.out,EV.out];rfl⟩
 have d1:decide ((u:Int)< (n:Int))=false:=Z1 (by omega)
 have a3: ¬(u:Int)< (n:Int):=by omega
 have HG:Hid ((decide (u<n) && (match qs[u]? with|some q=>M4 side q.1 p ==0|none=>false))=false):=Q0 (by rw[Z1 a4];rfl)
 clear D
 go_wp2_with fail
 go_ret2
 exact⟨HB,u,a2,U.1,U.2,by rw[HG.out];rfl⟩
def KA (side:Int) (o x:Q8):Bool:=x.kind ==2 || (!(o.kind ==2) && (x.price ==o.price ||JG side x.price o.price))
def UW (side:Int) (L:List Q8) (o:Q8):List Q8:=L.takeWhile (KA side o)++o::L.dropWhile (KA side o)
def D1 (L:List Q8) (id:Int):List Q8:=L.filter fun o=> !(o.id ==id)
def B6 (o:Q8) (n:Int):Q8:=⟨o.id,o.side,o.kind,o.price,o.qty-n⟩
def ZW (L:List Q8) (id n:Int):List Q8:=L.map fun o=>if o.id=id then B6 o n else o
def Y0 (L:List Q8) (id:Int):Option Q8:=L.find? fun o=>o.id ==id
theorem Bf {α:Type} {p} {i l2:List α} (h1: ∀a∈i,p a=true) (h2: ∀a∈l2,p a=false):(i++l2).takeWhile p=i/\(i++l2).dropWhile p=l2:=by
 induction i with
 |nil=>
  cases l2 with
  |nil=>exact⟨rfl,rfl⟩
  |cons a l=>simp[h2 a (by simp)]
 |cons a l j=>
  have j:=j (fun x u=>h1 x (by simp[u]));rw[MS,List.takeWhile_cons_of_pos (h1 a (by simp)),List.dropWhile_cons_of_pos (h1 a (by simp)),j.1,j.2];exact⟨rfl,rfl⟩
theorem En {side l1 l2 o} (h1: ∀a∈l1,KA side o a=true) (h2: ∀a∈l2,KA side o a=false):UW side (l1++l2) o=l1++o::l2:=by
 unfold UW
 rw[(Bf h1 h2).1,(Bf h1 h2).2]
theorem Cy side L o:(UW side L o).length=L.length+1:=by
 unfold UW
 have:=E7 List.length (FN (p:=KA side o) (l:=L))
 rw[Y9]at this
 rw[Y9,XX]
 omega
abbrev HO:=(Int×Int)×Q8
def E8 (h:Int×Int):List Value:= [I O h.1,I O h.2]
theorem DC h:(E8 h).length=2:=rfl
structure QG where
 price:Int
 A:Option Addr
 c:Nat
 os:List HO
def QG.que (q:QG):FL:=(q.price,q.A,q.os.length,q.c)
def U5 (qs:List QG):List HO:=qs.flatMap (·.os)
def D2 (ms:List HO) (qs:List QG):List HO:=ms++U5 qs
def U6 (l:List HO):List Q8:=l.map (·.2)
def A6 (l:List HO):List (Int×Int):=l.map (·.1)
theorem EE a b:U6 (a++b)=U6 a++U6 b:=by simp[U6]
theorem EG qs {k} (hk:k<qs.length):U5 qs=U5 (qs.take k)++(qs[k].os++U5 (qs.drop (k+1))):=by
 unfold U5
 conv=>lhs;rw[<-P2 k qs,UC hk]
 rw[TV,List.flatMap_cons]
theorem Yf (qs:List QG) {k} (hk:k<qs.length) q:U5 (qs.set k q)=U5 (qs.take k)++(q.os++U5 (qs.drop (k+1))):=by
 rw[EG (qs.set k q) (by simpa using hk)]
 rw[MM,TZ (Q4 _),Zp (by omega)]
theorem Qa8 qs k q (h:q.os= []):U5 (qs.take k++q::qs.drop k)=U5 qs:=by
 unfold U5
 conv=>rhs;rw[<-P2 k qs]
 rw[TV,List.flatMap_cons,TV,h]
 rfl
structure DM (side:Int) (ms:List HO) (qs:List QG):Prop where
 mkt: ∀x∈ms,x.2.kind=2/\x.2.side=side
 qk: ∀q∈qs,∀x∈q.os,x.2.kind≠2/\x.2.side=side/\x.2.price=q.price
 rank:CJ side (qs.map QG.que)
theorem Vj side a:JG side a a=false:=by unfold JG;split<;>simp
theorem Eo {side a b} (h:JG side a b=true):JG side b a=false:=by
 unfold JG at*
 split at h<;>simp_all<;>omega
theorem Ni {side a b} (h:JG side a b=true):a≠b:=by rintro rfl;rw[Vj]at h;cases h
theorem RP {side:Int} {qs:List QG} (h:CJ side (qs.map QG.que)) {i j:Nat} (v:j<qs.length) (u:i<j):JG side (qs[i]'(by omega)).price qs[j].price=true:=by
 have:=DZ.1 h i j (by simp;omega) (by simpa using v) u
 simpa [QG.que]using this
theorem Qg6 {side ms qs} (h:DM side ms qs) x (u:x.2.kind=2):UW side (U6 (D2 ms qs)) x.2=U6 (D2 (ms++ [x]) qs):=by
 unfold D2
 rw[EE,En,EE,EE]
 ·simp[U6]
 ·intro a i
  obtain⟨y,hy,rfl⟩:=U4.1 i;unfold KA;simp[(h.mkt y hy).1]
 intro a i
 obtain⟨y,hy,rfl⟩:=U4.1 i
 obtain⟨q,v,j⟩:=FT.1 hy
 unfold KA
 have:=(h.qk q v y j).1
 simp[this,u]
theorem Qp6 {side ms qs} (h:DM side ms qs) x (hx:x.2.kind≠2) {k} (hk:k<qs.length) (hp:qs[k].price=x.2.price) q' (J:q'.os=qs[k].os++ [x]):
  UW side (U6 (D2 ms qs)) x.2=U6 (D2 ms (qs.set k q')):=by
 unfold D2
 rw[Yf qs hk,EG qs hk,J]
 have e:U6 (ms++(U5 (qs.take k)++(qs[k].os++U5 (qs.drop (k+1)))))=U6 (ms++(U5 (qs.take k)++qs[k].os))++U6 (U5 (qs.drop (k+1))):=by simp[U6]
 rw[e,En]
 ·simp[U6]
 ·intro a D
  obtain⟨y,hy,rfl⟩:=U4.1 D;unfold KA;rcases Y7.1 hy with hy|hy
  ·simp[(h.mkt y hy).1]
  have U:(x.2.kind ==2)=false:=by simpa using hx
  rw[U];rcases Y7.1 hy with hy|hy
  ·obtain⟨q,v,u⟩:=FT.1 hy
   obtain⟨i,C,rfl⟩:=XG.1 v;have a0:i<k:=by simp at C;omega
   rw[LB]at u;have h1:=(h.qk _ (Y1 _) y u).2.2;have h2:=RP h.rank hk a0;rw[hp,<-h1]at h2;simp[h2]
  have h1:=(h.qk _ (Y1 _) y hy).2.2;simp[h1,hp]
 intro a D
 obtain⟨y,hy,rfl⟩:=U4.1 D
 obtain⟨q,v,u⟩:=FT.1 hy
 obtain⟨i,C,rfl⟩:=XG.1 v
 rw[TD]at u
 have E:=h.qk _ (Y1 _) y u
 have h2:=RP h.rank (i:=k) (j:=k+1+i) (by simp at C;omega) (by omega)
 rw[hp,<-E.2.2]at h2
 unfold KA
 have N:=Eo h2
 have Z:=Ni h2
 have e1:(y.2.kind ==2)=false:=by simpa using E.1
 have e2:(y.2.price ==x.2.price)=false:=by simpa using fun e=>Z e.symm
 rw[e1,e2,N]
 simp
theorem RF q: ∀u∈U2 q,u.oneCell'=true:=by
 intro u i
 simp[U2]at i
 rcases i with rfl|rfl<;>rfl
theorem Xb:(prog.info? 214).map (fun i=>(i.zero,i.size,i.bytes))=some (some (.agg #[I O 0,.slice none 0 0]),2,32):=by kernel_rfl
theorem Qg7 w:(Go.sizeOf 214).run prog w= .ok 2 w:=by kernel_rfl
def Qh (w w':World) (A A':Option Addr) (n c':Nat) (qs:List FL):Prop:=
 J2 w' A' n c' 214 2 (Q9 U2 qs)/\Q6 (fun i=>Q7 A=some i) w w'/\ ∀g,Q7 A'=some g->Q7 A=some g\/w.heap.size<=g
theorem Qa9 w A n c qs i q (h:J2 w A n c 214 2 (Q9 U2 qs)) (D:Q1 w i 214 (U2 q).toArray) (hn:n<=100000):
  Calls prog 131 #[.slice A n c,I O n,.slice (some ⟨i,0,none⟩) 1 1] w fun e w'=>
   ∃A' c',e= .returned (.slice A' (n+1) c')/\Qh w w' A A' (n+1) c' (qs++ [q]):=by
 obtain⟨i0,a1,U,a0,N⟩:=N0 Xb
 have v: ∀j u,(U2 q)[j]?=some u->w.cell? ((⟨i,0,none⟩:Addr).add j)=some u:=by
  have:=JB (cs:=(U2 q).toArray) D;simpa using this
 have J:=Q0 v
 have HH:=Q0 (show w.ownsRow 0 214 2 (.slice A n c) n (Q9 U2 qs)from h)
 clear v h D
 go_enter func131,ntmps131
 go_wp2_with (at_builtin;refine ZL _ (by rfl) _ _ 152 (by rfl) 0 214 i0 _ 2 32 LA a1 U a0 N rfl (by omega) (.slice A n c) n _ (by rfl) HH ⟨i,0,none⟩ 1 1 (U2 q) (by rfl) (by rfl) J (RF _) (by omega) (by unfold maxLen;omega) (by omega) (by simp) w.heap.size (by rfl) ?_;intro gg cap w3 y E C a2;have HO:=Q0 y;have HG:=Q0 E;have HT:=Q0 C;clear y E C)
 all_goals
  go_ret;refine⟨_,_,rfl, ?_, ?_, ?_⟩
  ·rw[UE];exact HO
  ·have:=Zx HG
   rw[A7]at this;exact this
  intro g Z
  cases Z;have:=HT.out;rw[A7]at this;exact this.imp id (fun h=>by show _<=gg;omega)
theorem Ti w b n c i qs C q (h:J2 w (some ⟨b,0,none⟩) n c 214 2 (Q9 U2 qs)) (N:Q1 w C 214 (U2 q).toArray) (b8:C≠b) (hn:n<=100000) (hi:i<n) (hc:n+1<=c):
  Calls prog 131 #[.slice (some ⟨b,0,none⟩) n c,I O i,.slice (some ⟨C,0,none⟩) 1 1] w fun e w'=>
   ∃A' c',e= .returned (.slice A' (n+1) c')/\Qh w w' (some ⟨b,0,none⟩) A' (n+1) c' (qs.take i++q::qs.drop i):=by
 obtain⟨u,hB,d4,c4,c0,b0⟩:=h.whole
 obtain⟨i0,c2,d6,a9,d5⟩:=N0 Xb
 have d1: ¬((i:Int)=(n:Int)):=by omega
 have d3:IntKind.i64.wrap ((i:Int)+ (1:Int))=(i:Int)+1:=by rw[AW];omega
 have d8:(0:Int)<=(i:Int)+1:=by omega
 have d7:((i:Int)+1).toNat=i+1:=by omega
 have d0: ¬(c=i+1):=by omega
 have c9:(i:Int)<=(n:Int)+1:=by omega
 have d2: ¬(c=i):=by omega
 have c3:i<=n:=by omega
 have HB:=Q0 hB
 have HV:=Q0 N
 have Z:=Q0 c0
 have HT:=Q0 b0
 clear hB N c0 b0
 have c7: ∀lb cb,(callFunc 179 #[.slice (some ⟨C,0,none⟩) 1 1,.slice (some ⟨b,(i+1)*2,none⟩) lb cb]).run prog w= .ok (.value (.bool false)) w:=fun lb cb=>by
  rw[Zq func179 (by kernel_rfl) (by kernel_rfl) (by kernel_rfl) (e:=Extern.SlicesOverlaps.overlaps #[152,152] #[4]) (by kernel_rfl),
   Lib.run_overlaps_apart w 152 4 214 LA 2 Qg7 ⟨C,0,none⟩ ⟨b,(i+1)*2,none⟩ 1 1 lb cb b8 214 214 2 u.length (Q1.shape HV) (by rw[Q1.shape HB.out];simp) (by have:=Z.out;omega) (J1 HV 0) (J1 HV 2)]
  rfl
 have a8:(Q9 U2 qs).length=n*2:=h.1
 have a0:((Q9 U2 qs).drop (i*2)).length=(n-i)*2:=by rw[KK,a8];omega
 have b5: ∀W,Q1 W b 214 u.toArray-> ∀D J sc E sl,E=n-i->n-i<=sl->(Builtin.copy_ #[152,152] D #[.slice (some ⟨b,(i+1)*2,none⟩) E J,.slice (some ⟨b,i*2,none⟩) sl sc]).run prog W= .ok (goInt (n-i:Nat)) (W.setRow b (splice u ((i+1)*2) ((Q9 U2 qs).drop (i*2))).toArray):=fun W hW D J sc E sl e1 e2=>
  LG W _ _ D 214 2 b ((i+1)*2) E J ⟨b,i*2,none⟩ sl sc u.toArray 214 ((Q9 U2 qs).drop (i*2)) (n-i) (by simp only[Nat.min_def];split<;>omega) LA (by rw[c2];simp[a9]) hW a0
   (fun j v U=>by
    rw[BX,J0 hW];rw[FS,<-HT.out,PC]at U
    split at U
    ·simpa using U
    cases U)
   (by rw[a0];simp[Z.out];omega) (fun v N=>LP RF qs v (YJ N))
 have b9: ∀W y,Q1 W b 214 (List.toArray y)->Q1 W C 214 (U2 q).toArray->y.length=c*2-> ∀D J E,1<=E->(Builtin.copy_ #[152,152] D #[.slice (some ⟨b,i*2,none⟩) E J,.slice (some ⟨C,0,none⟩) 1 1]).run prog W= .ok (goInt (1:Nat)) (W.setRow b (splice y (i*2) (U2 q)).toArray):=fun W y hW N hl D J E e1=>
  LG W _ _ D 214 2 b (i*2) E J ⟨C,0,none⟩ 1 1 y.toArray 214 (U2 q) 1 (by simp only[Nat.min_def];split<;>omega) LA (by rw[c2];simp[a9]) hW rfl
   (fun j v U=>by rw[BX,J0 N];simpa using U) (by simp[hl,JP];omega) (RF q)
 have a2:Q1 (w.drew) b 214 u.toArray:=HB.out
 have a1:=D6 w.drew b u.toArray (splice u ((i+1)*2) ((Q9 U2 qs).drop (i*2))).toArray 214 a2
 have a3:Q1 (w.drew.setRow b (splice u ((i+1)*2) ((Q9 U2 qs).drop (i*2))).toArray) C 214 (U2 q).toArray:=X0 (HV.drew) (B7 _ _ _) (fun e=>b8 e)
 have a7:(splice u ((i+1)*2) ((Q9 U2 qs).drop (i*2))).length=c*2:=by rw[NJ _ _ _ (by rw[a0,Z.out];omega),Z.out]
 have a4:=Ce u (Q9 U2 qs) (U2 q) i n 2 c3 HT (JP q) (by rw[Z.out];omega)
 rw[Js JP]at a4
 have a5:=B7 w.drew b (splice u ((i+1)*2) ((Q9 U2 qs).drop (i*2))).toArray
 have a6:=b5 _ a2
 generalize splice u ((i+1)*2) ((Q9 U2 qs).drop (i*2))=y at*
 obtain⟨W1,b1⟩:=exr (w.drew.setRow b y.toArray)
 rw[<-b1]at a1 a3 a5 a6
 have HA:=Q0 a6
 have HC:=Q0 (b9 W1 y a1 a3 a7)
 have HF:=Q0 a4
 have HK:=Q0 a5
 have c5:=Q0 a1
 have b2:=Q0 a7
 clear b5 b9 a6 a4 a5 a1 a3 a7 a0 a8 b1 a2
 clear h
 go_enter func131,ntmps131
 go_wp2_with (simp only[c7])
 go_region_law (refine Jo rfl (.tmp 73) (.tmp 76) 152 152 rfl (.slice (some ⟨b,(i+1)*2,none⟩) (n-i) (c- (i+1))) (.slice (some ⟨b,i*2,none⟩) (n+1-i) (c-i)) (by simp[Act.eval,Act.put]) (by simp[Act.eval,Act.put]) (HA _ _ _ _ _ rfl (by omega)) ?_)
 have c6:=fun D=>HC D (c-i) (n+1-i) (by omega)
 go_wp2_with (simp only[c6])
 go_ret
 have c8:=D6 W1 b y.toArray (splice y (i*2) (U2 q)).toArray 214 c5
 have hR:=J2.of_whole (n:=n+1) (c:=c) (sz:=2) c8 hc c4 (by rw[NJ _ _ _ (by rw[b2.out];simp[JP];omega),b2.out])
 rw[HF.out]at hR
 refine⟨_,_,rfl,hR, ?_,fun g hg=> .inl hg⟩
 exact((U1 (J3 (Q2 _ w)) (fun i=>Q7 (some ⟨b,0,none⟩)=some i)).trans HK (fun i h=> .inl (by subst h;rfl))).trans (B7 _ _ _) (fun i h=> .inl (by subst h;rfl))
theorem Wb w b n c i qs J q (h:J2 w (some ⟨b,0,none⟩) n c 214 2 (Q9 U2 qs)) (hv:Q1 w J 214 (U2 q).toArray) (hn:n<=100000) (hi:i<n) (hc:c<n+1):
  Calls prog 131 #[.slice (some ⟨b,0,none⟩) n c,I O i,.slice (some ⟨J,0,none⟩) 1 1] w fun e w'=>
   ∃A' c',e= .returned (.slice A' (n+1) c')/\Qh w w' (some ⟨b,0,none⟩) A' (n+1) c' (qs.take i++q::qs.drop i):=by
 obtain⟨d9,hB,f2,e6,e1,a9⟩:=h.whole
 obtain⟨i0,b9,d8,a8,d1⟩:=N0 Xb
 have e8: ¬((i:Int)=(n:Int)):=by omega
 have e2:(c:Int)< (n:Int)+1:=by omega
 have f0:IntKind.i64.wrap ((i:Int)+ (1:Int))=(i:Int)+1:=by rw[AW];omega
 have f6:(0:Int)<=(i:Int)+1:=by omega
 have f5:((i:Int)+1).toNat=i+1:=by omega
 have d5:i<=n:=by omega
 have e7:(i:Int)<=(n:Int):=by omega
 have e3: ¬(c=i):=by omega
 have c9:(n:Int)+1- (i:Int)=((n+1-i:Nat):Int):=by omega
 have b0:i+ (n+1-i)=n+1:=by omega
 have N:(Q9 U2 qs).length=n*2:=h.1
 have a1:((Q9 U2 qs).drop (i*2)).length=(n-i)*2:=by rw[KK,N];omega
 have f3:=J5 hB
 have e5:=J5 hv
 have c4:(Builtin.firstCells i0.size i (.slice (some ⟨b,0,none⟩) i c)).run prog w.drew= .ok ((Q9 U2 qs).take (i*2)).toArray w.drew:=by
  rw[a8];exact run_firstCells_some w.drew 2 i ⟨b,0,none⟩ i c _ (by rw[T6,N];omega) (fun j v C=>by
   rw[BX,J0 (Z2 hB),QQ];rw[<-a9,Jl,PC]at C
   split at C
   ·simpa using C
   cases C)
 obtain⟨G,hG⟩:=exr (grownCap w (n+1) c 214)
 have d7:n+1<=G:=by rw[hG];exact grownCap_ge w _ _ _
 have d0:G<=maxLen:=by rw[hG];exact grownCap_le_maxLen w (n+1) c 214 (by unfold maxLen;omega)
 have f1:G<=9223372036854775807:=by unfold maxLen at d0;omega
 obtain⟨u,a5⟩: ∃u,u=(((Q9 U2 qs).take (i*2)).toArray++Builtin.zeroCells (Value.agg #[I O 0,.slice none 0 0]).cells (n+1-i)++Builtin.zeroCells (Value.agg #[I O 0,.slice none 0 0]).cells (G- (n+1))).toList:=⟨_,rfl⟩
 have Z:u.length=G*2:=by
  rw[a5];simp only[Array.length_toList,Array.size_append,List.size_toArray,List.length_take,N,size_zeroCells];simp[Value.cells];omega
 have c6:u.take (i*2)=(Q9 U2 qs).take (i*2):=by
  rw[a5];simp only[Array.toList_append,List.append_assoc];exact PV (by simp[N];omega) |>.trans (by simp[List.take_take])
 have d3: ∀y,(Builtin.append_ #[152,3] y #[.slice (some ⟨b,0,none⟩) i c,I O ((n:Int)+1- (i:Int))]).run prog w=
   .ok (.slice (some ⟨w.heap.size,0,none⟩) (n+1) G) (w.drew.alloc (.cells u.toArray 214)):=fun y=>by
  have h:=Lib.run_append_grow_zeros w 152 3 y 214 i0 _ .i64 .i64 LA VN b9 d8 (some ⟨b,0,none⟩) i c ((Q9 U2 qs).take (i*2)) c4 (n+1-i) (by omega) (by omega) (by omega) (by omega) (by rw[d1];omega) (by rw[d1,b0];exact growslice_fits hc (by omega));rw[b0,<-hG]at h;rw[c9,h,a5]
 obtain⟨W1,U⟩:=exr (w.drew.alloc (.cells u.toArray 214))
 obtain⟨H,hH⟩:=exr w.heap.size
 have b5:Q1 W1 H 214 u.toArray:=by rw[U,hH];exact J9 w.drew _ _
 have c1:Q1 W1 b 214 d9.toArray:=by rw[U];exact G7 (Z2 hB) _
 have c8:Q1 W1 J 214 (U2 q).toArray:=by rw[U];exact G7 (Z2 hv) _
 have a4:Below w.heap.size w W1:=by rw[U];exact(J3 (Q2 _ w)).alloc (Q4 _) _
 rw[<-U,<-hH]at d3
 have d6:b≠H:=by omega
 have e9:J≠H:=by omega
 have a6:(splice u (i*2) (U2 q)).length=G*2:=by rw[NJ _ _ _ (by rw[Z,JP];omega),Z]
 have d4: ∀y,(Builtin.copy_ #[152,152] y #[.slice (some ⟨H,i*2,none⟩) (n+1-i) (G-i),.slice (some ⟨J,0,none⟩) 1 1]).run prog W1= .ok (goInt (1:Nat)) (W1.setRow H (splice u (i*2) (U2 q)).toArray):=fun y=>
  LG W1 _ _ y 214 2 H (i*2) (n+1-i) (G-i) ⟨J,0,none⟩ 1 1 u.toArray 214 (U2 q) 1 (by simp only[Nat.min_def];split<;>omega) LA (by rw[b9];simp[a8]) b5 rfl
   (fun j v C=>by rw[BX,J0 c8];simpa using C) (by simp[Z,JP];omega) (RF q)
 have a0:=D6 W1 H u.toArray (splice u (i*2) (U2 q)).toArray 214 b5
 have b1:=X0 c1 (B7 W1 H (splice u (i*2) (U2 q)).toArray) d6
 have a2:=B7 W1 H (splice u (i*2) (U2 q)).toArray
 have a7:=Cr u (Q9 U2 qs) (U2 q) i n 2 d5 N c6 (JP q) (by rw[Z];omega)
 rw[Js JP]at a7
 generalize splice u (i*2) (U2 q)=D at*
 obtain⟨E,c5⟩:=exr (W1.setRow H D.toArray)
 rw[<-c5]at a0 b1 a2 d4
 have b8: ∀y,(Builtin.copy_ #[152,152] y #[.slice (some ⟨H,(i+1)*2,none⟩) (n-i) (G- (i+1)),.slice (some ⟨b,i*2,none⟩) (n-i) (c-i)]).run prog E.drew= .ok (goInt (n-i:Nat)) (E.drew.setRow H (splice D ((i+1)*2) ((Q9 U2 qs).drop (i*2))).toArray):=fun y=>
  LG E.drew _ _ y 214 2 H ((i+1)*2) (n-i) (G- (i+1)) ⟨b,i*2,none⟩ (n-i) (c-i) D.toArray 214 ((Q9 U2 qs).drop (i*2)) (n-i) (by simp only[Nat.min_def];split<;>omega) LA (by rw[b9];simp[a8]) (Z2 a0) a1
   (fun j v C=>by
    rw[BX,J0 (Z2 b1)];rw[FS,<-a9,PC]at C
    split at C
    ·simpa using C
    cases C)
   (by rw[a1];simp[a6];omega) (fun v hv=>LP RF qs v (YJ hv))
 have c7:=D6 E.drew H D.toArray (splice D ((i+1)*2) ((Q9 U2 qs).drop (i*2))).toArray 214 (Z2 a0)
 have b2:=B7 E.drew H (splice D ((i+1)*2) ((Q9 U2 qs).drop (i*2))).toArray
 have d2:(splice D ((i+1)*2) ((Q9 U2 qs).drop (i*2))).length=G*2:=by rw[NJ _ _ _ (by rw[a1,a6];omega),a6]
 have a3:=J2.of_whole (n:=n+1) (c:=G) (sz:=2) c7 d7 d0 d2
 rw[a7]at a3
 generalize splice D ((i+1)*2) ((Q9 U2 qs).drop (i*2))=c3 at*
 obtain⟨W3,c0⟩:=exr (E.drew.setRow H c3.toArray)
 rw[<-c0]at b8 b2 a3
 have hK:Below w.heap.size w W3:=a4.trans (((a2.below (B:=w.heap.size) (fun i h=>by have:i=H:=h;omega) a4.size).trans (J3 (Q2 _ E))).trans (b2.below (B:=w.heap.size) (fun i h=>by have:i=H:=h;omega) (G0 a4.size a2.size)))
 have HK:=Q0 hK
 have HR:=Q0 a3
 have HH:=Q0 hH
 have f4: ¬(G=i):=by omega
 have e4: ¬(G=i+1):=by omega
 have HB:=Q0 b8
 clear hK a3 hH b2 d2 c7 b8 c0 a0 b1 a2 a7 c5 a6 b5 c1 c8 a4 U c6 Z a5 hG c4 a1 N c9 b0 hB hv h e1 a9
 go_enter func131,ntmps131
 go_wp2_with (first|(at_builtin;refine Lib.wpList_append_run _ rfl _ _ _ _ rfl _ _ rfl rfl _ _ (d3 _) ?_)|simp only[d4])
 go_region_law (refine Jo rfl (.tmp 50) (.tmp 53) 152 152 rfl (.slice (some ⟨H,(i+1)*2,none⟩) (n-i) (G- (i+1))) (.slice (some ⟨b,i*2,none⟩) (n-i) (c-i)) (by simp[Act.eval,Act.put]) (by simp[Act.eval,Act.put]) (HB _) ?_)
 go_wp2
 go_ret
 refine⟨_,_,rfl,HR,U1 HK _,fun g hg=> .inr (by cases hg;show _<=H;rw[HH.out];exact Q4 _)⟩
theorem Cz w A n c i qs j q (h:J2 w A n c 214 2 (Q9 U2 qs)) (v:Q1 w j 214 (U2 q).toArray) (C:Q7 A≠some j) (u:n<=100000) (J:i<=n):
  Calls prog 131 #[.slice A n c,I O i,.slice (some ⟨j,0,none⟩) 1 1] w fun e w'=>
   ∃A' c',e= .returned (.slice A' (n+1) c')/\Qh w w' A A' (n+1) c' (qs.take i++q::qs.drop i):=by
 have E:qs.length=n:=by have:=h.1;rw[YV JP]at this;omega
 by_cases e:i=n
 ·subst e
  have:=Qa9 w A i c qs j q h v u
  rwa [N7 (by omega),CG (by omega)]
 obtain⟨g,y,_⟩:=h.elem JP (by omega) (i:=i) (by omega)
 subst y
 by_cases D:n+1<=c
 ·exact Ti w g n c i qs j q h v (fun e=>C (by rw[e];rfl)) u (by omega) D
 exact Wb w g n c i qs j q h v u (by omega) (by omega)
theorem Da w (b n c i j:Nat) (jz:Int) (a4:jz=j) qs (h:J2 w (some ⟨b,0,none⟩) n c 214 2 (Q9 U2 qs)) (hn:n<=100000) (a8:i<j) (hj:j<=n):
  Calls prog 126 #[.slice (some ⟨b,0,none⟩) n c,I O i,I O jz] w fun e w'=>
   e= .returned (.slice (some ⟨b,0,none⟩) (i+ (n-j)) c)/\J2 w' (some ⟨b,0,none⟩) (i+ (n-j)) c 214 2 (Q9 U2 (qs.take i++qs.drop j))/\Q6 (fun x=>x=b) w w':=by
 subst a4
 obtain⟨a7,b5⟩:=h.cap
 obtain⟨i0,a5,b1,a3,a9⟩:=N0 Xb
 have hl:qs.length=n:=by have:=h.1;rw[YV JP]at this;omega
 have U:(Q9 U2 qs).length=n*2:=h.1
 obtain⟨y,D⟩:=exr ((Q9 U2 qs).drop (j*2))
 have E:y.length=(n-j)*2:=by rw[D,KK,U];omega
 have J:J2 w.drew (some ⟨b,0,none⟩) n c 214 2 (Q9 U2 qs):=h.below (J3 (Q2 _ w))
 obtain⟨A,hA,a2⟩: ∃A,(if c=j then some (⟨b,0,none⟩:Addr)else some ⟨b,j*2,none⟩)=some A/\Hid (∀t u,y[t]?=some u->w.drew.cell? (A.add t)=some u):=by
  by_cases a1:c=j
  ·refine⟨⟨b,0,none⟩,by simp[a1],fun t u C=> ?_⟩
   have h0:y.length=0:=by rw[E];omega
   rw[Zl.1 h0]at C;simp at C
  refine⟨⟨b,j*2,none⟩,by simp[a1],fun t u C=> ?_⟩;rw[BX];rw[D,FS]at C;obtain⟨g,hg,hc⟩:=J.cell C
  cases hg;exact hc
 have s1:Hid (y.length=(n-j)*2):=E
 have s2:Hid (∀u∈y,u.oneCell'=true):=by
  intro u C;rw[D]at C;exact LP RF qs u (YJ C)
 have s3:Hid (∀t,t<y.length->(w.drew.cell? ⟨b,0+i*2+t,none⟩).isSome=true/\w.drew.frozen? ⟨b,0+i*2+t,none⟩=false):=by
  intro t ht;rw[E]at ht;exact⟨J.some_ (by omega),J.frozen _⟩
 obtain⟨W1,N⟩:=exr (w.drew.setCells b (0+i*2) y)
 have Z:J2 W1 (some ⟨b,0,none⟩) n c 214 2 (UG (Q9 U2 qs) (i*2) y):=by rw[N,QQ];exact J.sets _ _ _ _
 obtain⟨vs,b0,b8⟩:=TM (P:=prog) W1 152 214 0 (.agg #[I O 0,.slice none 0 0]) 2 LA (fun _=>by kernel_rfl) rfl (by omega) (by intro v hv;simp[Value.cells]at hv;rcases hv with rfl|rfl<;>rfl) b ((i+ (n-j))*2) (n- (i+ (n-j))) (c- (i+ (n-j))) (by omega)
  (fun x hx=>Z.some_ (by omega)) (fun x hx=>Z.frozen _)
 have hp:=Z.pop (i+ (n-j)) (by omega)
 rw[Zy _ _ _ (by rw[E,U];omega),D]at hp
 have a0:=Ve (Q9 U2 qs) (i*2) (j*2) (by omega) (by omega)
 rw[U,show i*2+ (n*2-j*2)=(i+ (n-j))*2 by omega]at a0
 rw[a0,Vu JP _ _ _ (by omega)]at hp
 have hK:Q6 (fun x=>x=b) w W1:=by
  rw[N];exact(U1 (J3 (Q2 _ w)) _).trans (DU _ _ _ _) (fun i h=> .inl h)
 have HP:=Q0 hp
 have HK:=Q0 hK
 have hW:Hid (W1=w.drew.setCells b (0+i*2) y):=N
 have b2:i<=c:=by omega
 have a6:j<=c:=by omega
 clear hp hK N a0 Z J E D U hl h
 go_enter func126,ntmps126
 go_wp2_with fail
 go_region_law (refine step_append_room rfl (.tmp 22) (.tmp 25) 152 rfl 214 i0 2 LA a5 a3 b 0 i c (by simp[Act.eval,Act.put]) A (n-j) (c-j) y (by simp[Act.eval,Act.put]) s1 a2 s2 (by omega) s3 ?_;rw[<-hW.out])
 go_wp2
 go_ret
 exact⟨rfl,Je _ _ _ HP (Q4 _),HK.trans (DU _ _ _ _) (fun i h=> .inl h)⟩
def Km (side p:Int) (qs:List FL) (n k:Nat):Prop:=k<=n/\(∀i (hi:i<qs.length),i<k->M4 side qs[i].1 p<0)/\(∀i (hi:i<qs.length),k<=i->0<=M4 side qs[i].1 p)
def DN (side p:Int) (qs:List FL) (n k:Nat):Bool:=decide (k<n) && (match qs[k]? with|some q=>M4 side q.1 p ==0|none=>false)
def Ly (side p:Int) (qs:List FL) (n:Nat) (w:World) (e:Ending) (w':World):Prop:=Below w.heap.size w w'/\ ∃k:Nat,Km side p qs n k/\e= .returned (.tuple #[I O k,.bool (DN side p qs n k)])
theorem Xy w b o side p A n c qs (u:w.cell? ⟨b,o+1,none⟩=some (.slice A n c)) (h:V4 w U2 2 A n qs) (E:CJ side qs) (U:n<=100000):
  Calls prog 125 #[IP (some ⟨b,o,none⟩),I O side,I O p] w (Ly side p qs n w):=by
 have hg:=V6 w _ u
 have z0:=(S4 w (.cells #[I O side] 3) ⟨b,o+1,none⟩ hg).trans u
 have j:Below w.heap.size w (w.alloc (.cells #[I O side] 3)):=(Q2 _ w).alloc (Q4 _) _
 have y:Q1 (w.alloc (.cells #[I O side] 3)) w.heap.size 3 #[I O side]:=J9 w _ _
 have eg:=XH func177 (by kernel_rfl) rfl
 have a0: ∀w',(Instr.makeFunc (.func 177) #[] #[IP (some ⟨w.heap.size,0,none⟩)]).run prog w'= .ok (.func (.func 177) #[] #[IP (some ⟨w.heap.size,0,none⟩)]) w':=fun _=>rfl
 have C:=Qg5 side p 177 #[IP (some ⟨w.heap.size,0,none⟩)] A n c qs _ (h.below j (Q4 _)) E U eg (fun W q i=>Qa7 side q.1 p _ w.heap.size W ⟨_,_,_,rfl⟩ (by rw[J0 (J4 y i)];rfl))
 have HS:=Q0 (show Calls prog 176 _ _ (Ly side p qs n _)from C.mono fun e w' ⟨i,k,h1,h2,Z,h4⟩=>⟨i,k,⟨h1,h2,Z⟩,h4⟩)
 have HA:=Q0 j
 clear C j y h E
 go_enter func125,ntmps125
 go_wp2_with fail
 refine HS.mono ?_
 rintro e w1 ⟨i,k,J,rfl⟩
 have HF:=Q0 J
 have N:=Q0 (HA.trans (i.mono (by simp)))
 clear J i
 obtain⟨D,v⟩: ∃D,Hid (DN side p qs n k=D):=⟨_,Q0 rfl⟩
 rw[v.out]
 go_wp2
 go_ret2
 exact⟨N,k,HF,by rw[v.out];rfl⟩
