/- Parts. -/
import Derived.Test.YtnlngicnfegjgaaGreatDoorZq2
set_option linter.unusedVariables false
set_option maxRecDepth 100000
set_option maxHeartbeats 8000000
open Go.Proofs.Tryz
open Go.Value renaming int→I,pointer→IP
open Go.IntKind renaming i64→O
namespace Go.Proofs.YtnlngicnfegjgaaGreatDoor
open Go.RowKit
def QA (a p:Int):Int:=a-p
def ZB (qs:List X4):Prop:=qs.Pairwise fun x y=>x.1<y.1
theorem Cs {p:Int} {qs:List X4} (h:ZB qs) {i j:Nat} (v:j<qs.length) (u:i<=j) (C:QA qs[j].1 p<0):QA (qs[i]'(by omega)).1 p<0:=by
 unfold QA at*
 rcases MP u with y|rfl
 ·have:=DZ.1 h i j (by omega) v y
  omega
 exact C
def DL (qs:List X4) (p:Int) (n k:Nat):Bool:=decide (k<n) && (match qs[k]? with|some q=>QA q.1 p ==0|none=>false)
theorem Ct {qs p n k} (i:qs.length=n) (h:DL qs p n k=true): ∃hk:k<qs.length,qs[k].1=p:=by
 unfold DL at h
 rw[Bool.and_eq_true,decide_eq_true_eq]at h
 have hk:k<qs.length:=by omega
 rw[KP hk]at h
 exact⟨hk,by have h2:(QA qs[k].1 p ==0)=true:=h.2;rw[beq_iff_eq]at h2;unfold QA at h2;omega⟩
theorem Cf {qs p n k} (J:qs.length=n) (E:ZB qs) (h:DL qs p n k=false) (h1: ∀i (u:i<qs.length),i<k->QA qs[i].1 p<0) (h2: ∀i (u:i<qs.length),k<=i->0<=QA qs[i].1 p): ∀x∈qs,x.1≠p:=by
 intro x y e
 obtain⟨i,u,rfl⟩:=XG.1 y
 have v: ¬i<k:=fun v=>by have:=h1 i u v;unfold QA at this;omega
 have hk:k<qs.length:=by omega
 have C:QA qs[k].1 p≠0:=by
  unfold DL at h;rw[Z5 (by omega:k<n),KP hk]at h;exact fun e=>by
   have j:(QA qs[k].1 p ==0)=false:=h;rw[e]at j;cases j
 have j:=h2 k hk (Q4 _)
 have N:qs[k].1<=qs[i].1:=by
  rcases MP (by omega:k<=i)with D|rfl
  ·exact NX (DZ.1 E k i hk u D)
  exact P8 _
 unfold QA at C j
 omega
def FJ (a:Int):Prop:= -1099511627776<=a/\a<=1099511627776
theorem Tg a b c p (u:FJ a) (hp:FJ p) w:Calls prog 172 #[.agg #[I O a,I O b,I O c],I O p] w fun e w'=>e= .returned (I O (QA a p))/\Below w.heap.size w w':=by
 have j:RowKit.wrap64 (a-p)=a-p:=by unfold FJ at*;unfold RowKit.wrap64;omega
 have i:=Q0 (show Below w.heap.size w (w.alloc (.cells #[I O a,I O b,I O c] 252))from(Q2 _ w).alloc (Q4 _) _)
 clear u hp
 go_enter func172,ntmps172
 go_wp2
 go_ret
 exact⟨T3 (by unfold QA;first|rfl|omega|(rw[j])),i⟩
theorem Qf7 a b c p (u:FJ a) (hp:FJ p) w:Calls prog 181 #[.agg #[I O a,I O b,I O c],I O p] w fun e w'=>e= .returned (I O (QA a p))/\Below w.heap.size w w':=by
 have j:RowKit.wrap64 (a-p)=a-p:=by unfold FJ at*;unfold RowKit.wrap64;omega
 have i:=Q0 (show Below w.heap.size w (w.alloc (.cells #[I O a,I O b,I O c] 252))from(Q2 _ w).alloc (Q4 _) _)
 clear u hp
 go_enter func181,ntmps181
 go_wp2
 go_ret
 exact⟨T3 (by unfold QA;first|rfl|omega|(rw[j])),i⟩
theorem Cu p g lb A n c qs w (h:V4 w X8 3 A n qs) (hr:ZB qs) (hm:n<=100000)
  (eg: ∀a5 w,(callFunc g a5).run prog w= .ok (.enter g a5) w)
  (a4: ∀W q,q∈qs->Below w.heap.size w W->Calls prog g (#[.agg #[I O q.1,I O q.2.1,I O q.2.2],I O p]++lb) W fun e w'=>e= .returned (I O (QA q.1 p))/\Below W.heap.size W w'):
  Calls prog 171 #[.slice A n c,I O p,.func (.func g) #[] lb] w fun e w'=>Below w.heap.size w w'/\ ∃k,k<=n/\(∀i (hi:i<qs.length),i<k->QA qs[i].1 p<0)/\(∀i (hi:i<qs.length),k<=i->0<=QA qs[i].1 p)/\
   e= .returned (.tuple #[I O k,.bool (DL qs p n k)]):=by
 have HH:=Q0 h
 have hl:=h.1
 have HL:=Q0 hl
 have HR:=Q0 hr
 have HC:=Q0 a4
 clear h hr a4 hl
 go_enter func171,ntmps171
 go_wp2_with fail
 go_loopg [9,10] n (fun gg s9 b0 wx=> ∃u hi,u<=hi/\hi<=n/\gg=hi-u/\s9=I O u/\b0=I O hi/\Below w.heap.size w wx/\Hid ((∀i (hi:i<qs.length),i<u->QA qs[i].1 p<0)/\(∀i (hx:i<qs.length),hi<=i->0<=QA qs[i].1 p)))
 case atStart=>exact⟨0,n,V5 _,Q4 _,rfl,rfl,rfl,Q2 _ _,Q0 ⟨fun i _ h=>absurd h (by omega),fun i hx h=>by have:=HL.out;omega⟩⟩
 obtain⟨u,hi,b2,a3,rfl,rfl,rfl,E,N⟩:=hrel
 by_cases b5:u<hi
 ·have b1:(u:Int)< (hi:Int):=by omega
  go_upto_region 5 with fail
  have em:((u:Int)+ (hi:Int))/2=(((u+hi)/2:Nat):Int):=by omega
  have a8:u<=(u+hi)/2:=by omega
  have a9:(u+hi)/2<hi:=by omega
  rw[em];generalize(u+hi)/2=m at a8 a9|-;clear em;have D:m<qs.length:=by have:=HL.out;omega
  obtain⟨b,y,hA⟩: ∃b y,A=some ⟨b,y,none⟩:=by obtain⟨b,y,h1,_⟩:=HH.2 (by omega);exact⟨b,y,h1⟩
  subst hA;have J:=HH.below E (Q4 _);have x0:wr.cell? ⟨b,y+m*3,none⟩=some (I O qs[m].1):=J.at_ D (j:=0) rfl;have x1:wr.cell? ⟨b,y+m*3+1,none⟩=some (I O qs[m].2.1):=J.at_ D (j:=1) rfl;have x2:wr.cell? ⟨b,y+m*3+2,none⟩=some (I O qs[m].2.2):=J.at_ D (j:=2) rfl;have C:=HC.out wr qs[m] (Y1 D) E;have a7:(0:Int)<=(m:Int):=by omega
  have a2:(m:Int)< (n:Int):=by omega
  obtain⟨v,U⟩: ∃v,Hid (QA qs[m].1 p=v):=⟨_,Q0 rfl⟩;rw[U.out]at C;generalize qs[m].2.1=l0 at x1 C;generalize qs[m].2.2=l1 at x2 C;obtain⟨pr,EP⟩: ∃v,Hid (qs[m].1=v):=⟨_,Q0 rfl⟩;rw[EP.out]at x0 C;have a1:=E.size;have HB:=Q0 E;clear J E
  by_cases Z:v<0
  ·have d1:decide (v<0)=true:=Z5 Z
   have HV:=Q0 Z;clear Z;go_wp2_with (go_at_fn g;refine C.mono ?_;rintro e w2 ⟨rfl,a0⟩)
   go_roundg (hi- (m+1))
   case measure=>omega
   exact⟨m+1,hi,by omega,a3,rfl,by go_num,rfl,HB.trans (a0.mono a1),Q0 ⟨fun i hx h=>Cs HR D (by omega) (by rw[U.out];exact HV),N.2⟩⟩
  have d1:decide (v<0)=false:=Z1 Z;have HV:=Q0 Z;clear Z;go_wp2_with (go_at_fn g;refine C.mono ?_;rintro e w2 ⟨rfl,a0⟩)
  go_roundg (m-u)
  case measure=>omega
  exact⟨u,m,by omega,by omega,rfl,rfl,by go_num,HB.trans (a0.mono a1),Q0 ⟨N.1,fun i hx h=>by
   rcases Int.lt_or_le (QA qs[i].1 p) 0 with h1|h1
   ·have:=Cs HR hx h h1
    rw[U.out]at this;have h5:=HV.out;omega
   exact h1⟩⟩
 obtain rfl:u=hi:=by omega
 have b1: ¬(u:Int)< (u:Int):=by omega
 have HB:=Q0 E
 by_cases a6:u<n
 ·have D:u<qs.length:=by have:=HL.out;omega
  obtain⟨b,y,hA⟩: ∃b y,A=some ⟨b,y,none⟩:=by obtain⟨b,y,h1,_⟩:=HH.2 (by omega);exact⟨b,y,h1⟩
  subst hA;have J:=HH.below E (Q4 _);have x0:wr.cell? ⟨b,y+u*3,none⟩=some (I O qs[u].1):=J.at_ D (j:=0) rfl;have x1:wr.cell? ⟨b,y+u*3+1,none⟩=some (I O qs[u].2.1):=J.at_ D (j:=1) rfl;have x2:wr.cell? ⟨b,y+u*3+2,none⟩=some (I O qs[u].2.2):=J.at_ D (j:=2) rfl;have C:=HC.out wr qs[u] (Y1 D) E;have a7:(0:Int)<=(u:Int):=by omega
  have a2:(u:Int)< (n:Int):=by omega
  have d1:decide ((u:Int)< (n:Int))=true:=Z5 a2;have HG:Hid (DL qs p n u=(QA qs[u].1 p ==0)):=Q0 (by unfold DL;rw[Z5 a6,KP D];rfl);generalize qs[u].2.1=l0 at x1 C;generalize qs[u].2.2=l1 at x2 C;obtain⟨v,U⟩: ∃v,Hid (QA qs[u].1 p=v):=⟨_,Q0 rfl⟩;rw[U.out]at C;obtain⟨pr,EP⟩: ∃v,Hid (qs[u].1=v):=⟨_,Q0 rfl⟩;rw[EP.out]at x0 C;have a1:=E.size;clear J E;go_wp2_with (go_at_fn g;refine C.mono ?_;rintro e w2 ⟨rfl,a0⟩)
  go_ret2;exact⟨HB.trans (a0.mono a1),u,a3,N.1,N.2,by rw[HG.out,U.out];rfl⟩
 have d1:decide ((u:Int)< (n:Int))=false:=Z1 (by omega)
 have a2: ¬(u:Int)< (n:Int):=by omega
 have HG:Hid (DL qs p n u=false):=Q0 (by unfold DL;rw[Z1 a6];rfl)
 clear E
 go_wp2_with fail
 go_ret2
 exact⟨HB,u,a3,N.1,N.2,by rw[HG.out];rfl⟩
def FU (w:World) (v:Value) (n pl:Int):Prop:=
 (v= .nilIface/\n=0/\pl= -1)\/(v= .iface 52 (I O n)/\pl= -1)\/
 (∃g,v= .iface 172 (IP (some ⟨g,0,none⟩))/\w.cell? ⟨g,0,none⟩=some (I O n)/\w.cell? ⟨g,1,none⟩=some (I O pl))
theorem FU.below {w w' v n pl} (h:FU w v n pl) (i:Below w.heap.size w w'):FU w' v n pl:=by
 rcases h with h|h|⟨g,h1,h2,j⟩
 ·exact .inl h
 ·exact .inr (.inl h)
 exact .inr (.inr ⟨g,h1,(i.cell (p:=⟨g,0,none⟩) (V6 w ⟨g,0,none⟩ h2)).trans h2,(i.cell (p:=⟨g,1,none⟩) (V6 w ⟨g,0,none⟩ h2)).trans j⟩)
theorem J2.made (w:World) t sz:J2 (w.alloc (.cells #[] t)) (some ⟨w.heap.size,0,none⟩) 0 0 t sz []:=
 ⟨by simp,.inr ⟨w.heap.size,0,#[],rfl,V5 _,S5 w _,Q4 _,V5 _,by simp,by simp⟩⟩
abbrev GA:=@J2.made
section
variable {P:Program} {α:Type} {enc:α->List Value} {k:Nat} {w:World}
theorem Sq (hk: ∀x,(enc x).length=k) (a6: ∀x,∀u∈enc x,u.oneCell'=true) t J e i z bytes (ht:P.underlying t=some (.slice e)) (hi:P.info? e=some i) (hz:i.zero=some z)
  (a4:i.size=k) (b1:i.bytes=bytes) (a5:z.cells.size=k) (a8:0<k)
  v n y xs (a0:J2 w v n y e k xs) A m c L (D:V4 w enc k A m L) (a7:n+m<=maxLen) (b2:(n+m)*bytes<=140737488355328):
  ∃A' c' w',(Builtin.append_ #[t,t] J #[.slice v n y,.slice A m c]).run P w= .ok (.slice A' (n+m) c') w'/\J2 w' A' (n+m) c' e k (xs++Q9 enc L)/\w.grownBy w' (Q7 v)/\ ∀g,Q7 A'=some g->Q7 v=some g\/g=w.heap.size:=by
 cases A with
 |none=>
  have hm:m=0:=by
   rcases Nat.eq_zero_or_pos m with h|h
   ·exact h
   obtain⟨b,a9,h1,-⟩:=D.2 h
   cases h1
  subst hm;have Z:L= []:=BN D.1;subst Z;have N:(Builtin.append_ #[t,t] J #[.slice v n y,.slice none 0 c]).run P w= .ok (.slice v n y) w:=by
   rcases a0.2 with⟨h1,h2⟩|⟨g,cap,b0,hv,-,hb,hn,hc,U,-⟩
   ·cases h1
    have U:=Src.ofNil (size:=i.size) w ht c;simp[Builtin.append_,run_underlying ht,sizeOf,typeInfo,hi,U.len,U.cells]
   cases hv;have h:=run_append_room_src (P:=P) (w:=w) t t J e i ht hi g 0 n y (.slice none 0 c) 0 [] (Src.ofNil w ht c) hn (by simp) (by simp);exact h
  exact⟨v,y,w,N,by simpa [Q9]using a0,⟨rfl,rfl,rfl,Q4 _,fun _ _ _=>rfl⟩,fun g hg=> .inl hg⟩
 |some ad=>
  have a3: ∀j u,(Q9 enc L)[j]?=some u->w.cell? (ad.add j)=some u:=by
   rcases Nat.eq_zero_or_pos m with h|h
   ·have Z:L= []:=BN (by have:=D.1;omega)
    subst Z;intro j u E;simp[Q9]at E
   obtain⟨b,a9,h1,-⟩:=D.2 h
   cases h1;exact V4.news hk D
  have b5: ∀u∈Q9 enc L,u.oneCell'=true:=by
   intro u E;unfold Q9 at E;simp at E;obtain⟨x,-,hx⟩:=E;exact a6 x u hx
  obtain⟨v',w',N,h2,h3,h4,C⟩:=run_append_own_at (P:=P) w 0 t J e i z k bytes ht hi hz a4 b1 a5 a8 (.slice v n y) n xs a0 ad m c (Q9 enc L) (by rw[YV hk,D.1]) a3 b5 a7 b2 (V5 _);rw[A7]at h3 C;rcases h2.2 with⟨rfl,a1⟩|⟨g,cap,b0,rfl,b8⟩
  ·refine⟨none,0,w',by rw[a1];exact N,by rw[a1]at h2;rw[a1];exact h2,h3,by simp[Q7]⟩
  refine⟨some ⟨g,0,none⟩,cap,w',N,h2,h3,fun g' a2=> ?_⟩;rcases C with C|C
  ·left;rw[<-C];exact a2
  right
  have h6:some g'=some w.heap.size:=by rw[<-C];exact a2.symm
  exact KZ h6
theorem Bs (hk: ∀x,(enc x).length=k) (D: ∀x,∀u∈enc x,u.oneCell'=true) {o:Oper} {a K Q} s x t
  (y:o.op= .call {callee:= .builtin .append,args:= #[s,x],argTypes:= #[t,t]})
  e i z bytes (ht:P.underlying t=some (.slice e)) (N:P.info? e=some i) (U:i.zero=some z)
  (C:i.size=k) (a3:i.bytes=bytes) (a2:z.cells.size=k) (J:0<k)
  j n v xs (hs:a.eval s= .slice j n v) (a1:J2 w j n v e k xs) A m c L (hx:a.eval x= .slice A m c) (hE:V4 w enc k A m L) (E:n+m<=maxLen) (a0:(n+m)*bytes<=140737488355328)
  (h: ∀A' c' w',J2 w' A' (n+m) c' e k (xs++Q9 enc L)->w.grownBy w' (Q7 j)->(∀g,Q7 A'=some g->Q7 j=some g\/g=w.heap.size)->K (a.put o.dst (.slice A' (n+m) c')) w'):o.wp P a w K Q:=by
 obtain⟨A',c',w',hr,h2,Z,h4⟩:=Sq (P:=P) hk D t o.type e i z bytes ht N U C a3 a2 J j n v xs a1 A m c L hE E a0
 unfold Oper.wp execOp
 simp only[y,resolve,invoke,builtin,Sem.run_bind,Sem.run_pure,Result.andThen_ok,List.map_toArray,List.map_cons,List.map_nil,hs,hx,hr]
 exact h A' c' w' h2 Z h4
theorem Bc (hk: ∀x,(enc x).length=k) (D: ∀x,∀u∈enc x,u.oneCell'=true) {ops rest o a Q} (a0:o.guard=none) s x t
  (y:o.op= .call {callee:= .builtin .append,args:= #[s,x],argTypes:= #[t,t]})
  e i z bytes (ht:P.underlying t=some (.slice e)) (U:P.info? e=some i) (Z:i.zero=some z)
  (C:i.size=k) (a4:i.bytes=bytes) (a3:z.cells.size=k) (N:0<k)
  j n v xs (hs:a.eval s= .slice j n v) (a2:J2 w j n v e k xs) A m c L (hx:a.eval x= .slice A m c) (hE:V4 w enc k A m L) (J:n+m<=maxLen) (a1:(n+m)*bytes<=140737488355328)
  (h: ∀A' c' w',J2 w' A' (n+m) c' e k (xs++Q9 enc L)->w.grownBy w' (Q7 j)->(∀g,Q7 A'=some g->Q7 j=some g\/g=w.heap.size)->wpList P ops Q rest (a.put o.dst (.slice A' (n+m) c')) w'):wpList P ops Q (o::rest) a w:=
 wpList_plain a0 fun _ E=>Bs hk D s x t y e i z bytes ht U Z C a4 a3 N j n v xs hs a2 A m c L hx hE J a1 fun A' c' w' h2 h3 h4=>E _ _ (h A' c' w' h2 h3 h4)
theorem KS (hk: ∀x,(enc x).length=k) (D: ∀x,∀u∈enc x,u.oneCell'=true) {ops o a K Q E} (a0:o.guard=none) s x t
  (y:o.op= .call {callee:= .builtin .append,args:= #[s,x],argTypes:= #[t,t]})
  e i z bytes (ht:P.underlying t=some (.slice e)) (U:P.info? e=some i) (Z:i.zero=some z)
  (C:i.size=k) (a4:i.bytes=bytes) (a3:z.cells.size=k) (N:0<k)
  j n v xs (hs:a.eval s= .slice j n v) (a2:J2 w j n v e k xs) A m c L (hx:a.eval x= .slice A m c) (hE:V4 w enc k A m L) (J:n+m<=maxLen) (a1:(n+m)*bytes<=140737488355328)
  (h: ∀A' c' w',J2 w' A' (n+m) c' e k (xs++Q9 enc L)->w.grownBy w' (Q7 j)->(∀g,Q7 A'=some g->Q7 j=some g\/g=w.heap.size)->K (a.put o.dst (.slice A' (n+m) c')) w'):
  if Region.wanted o (yielded ops a.tmps)=true then Oper.wp P o a w K Q else E:=by
 have hw:Region.wanted o (yielded ops a.tmps)=true:=by simp[Region.wanted,a0]
 rw[Q5 hw]
 exact Bs hk D s x t y e i z bytes ht U Z C a4 a3 N j n v xs hs a2 A m c L hx hE J a1 h
theorem Xa {md S t Q} {l U N:List Oper} i j {o1 o2 fuel listed a w} (Z:Region.ready md l.toArray listed= [i,j]) (E:l.drop i=o1::U) (J:l.drop j=o2::N)
  (h1: ∀K',(∀a w,S w->(S w->KF P md l.toArray Q S t fuel (listed.setIfInBounds i true) a w)->K' a w)->if Region.wanted o1 (yielded l.toArray a.tmps)=true then Oper.wp P o1 a w K' Q else K' (a.put o1.dst undef) w)
  (h2: ∀K',(∀a w,S w->(S w->KF P md l.toArray Q S t fuel (listed.setIfInBounds j true) a w)->K' a w)->if Region.wanted o2 (yielded l.toArray a.tmps)=true then Oper.wp P o2 a w K' Q else K' (a.put o2.dst undef) w):KF P md l.toArray Q S t (fuel+1) listed a w:=
 Vq Z (by simp) (fun u y=>by
  rcases D4.1 y with rfl|y
  ·exact wpOp_step (NL E) fun K' C=>h1 K' (fun a w v D=>C a w ⟨fun _=>v,D v⟩)
  rw[VK]at y;subst y;exact wpOp_step (NL J) fun K' C=>h2 K' (fun a w v D=>C a w ⟨fun _=>v,D v⟩))
end
section
open Go.Extern Go.Extern.Stop Go.Stop
def YB (w:World):Prop:=w.cell? ⟨0,0,none⟩=some (.iface 223 (.agg #[IP (some ⟨1,44,none⟩)]))
theorem YB.lt {w} (h:YB w):0<w.heap.size:=V6 w _ h
theorem YB.below {w w' B} (h:YB w) (i:Below B w w') (j:w.heap.size<=B):YB w':=
 (i.cell (p:=⟨0,0,none⟩) (T8 h.lt j)).trans h
theorem Qy4 t w:(ReflectliteValue.unpack (.iface 112 (IP (some t)))).run prog w
  = .ok (.agg #[IP (some ⟨1,112,none⟩),IP (some ⟨w.heap.size,0,none⟩),.int .u64 150]) (w.alloc (.cells #[IP (some t)] 112)):=by kernel_rfl
theorem Jm3 a w : (ReflectliteValue.methodAny (ReflectliteValue.valueError "reflectlite.Value.Type" 0) (fun t _ _ _ => ReflectliteType.toType t) #[.agg #[.pointer (some ⟨1, 112, none⟩), .pointer (some a), .int .u64 150]]).run Tryz.prog w
  = .ok (.iface 223 (.agg #[IP (some ⟨1,112,none⟩)])) w:=by kernel_rfl
theorem Qf8 h w : (Go.method 420 223 (.agg #[h]) "Kind").run Tryz.prog w = .ok (226, h) w := by kernel_rfl
theorem Jm4 w:((ReflectliteType.abiMethod fun t=>(fun a:Nat=>Value.int IntKind.u8 (a:Int)) <$> Rtype.kind t) #[IP (some ⟨1,112,none⟩)]).run prog w= .ok (.int .u8 22) w:=by kernel_rfl
theorem Jm5 w:((ReflectliteType.abiMethod fun t=>(fun a:Nat=>Value.int IntKind.u8 (a:Int)) <$> Rtype.kind t) #[IP (some ⟨1,52,none⟩)]).run prog w= .ok (.int .u8 2) w:=by kernel_rfl
theorem Ry (z:Sem Value) (f:TypeId->Addr->Nat->Nat->Sem Value) (v:Value):
  ReflectliteValue.method z f #[v]=(do match<-ReflectliteValue.parts v with|none=>z|some (t,a,fl)=>f t a fl (fl % 32)):=rfl
theorem Pq a w:(ReflectliteValue.parts (.agg #[IP (some ⟨1,112,none⟩),IP (some a),.int .u64 150])).run prog w= .ok (some (112,a,150)) w:=by kernel_rfl
theorem Jk2 a p W (i:W.cell? a=some (IP (some p))):
  (ReflectliteValue.method (ReflectliteValue.valueError "reflectlite.Value.IsNil" 0) ReflectliteValue.isNil #[.agg #[.pointer (some ⟨1, 112, none⟩), .pointer (some a), .int .u64 150]]).run Tryz.prog W = .ok (.bool false) W := by
 rw[Ry]
 simp only[Sem.run_bind,Pq,Result.andThen]
 simp[ReflectliteValue.isNil,loadVar,isAgg,underlying,underlying112,i,Result.andThen]
theorem Qf9 h w : (Go.method 420 223 (.agg #[h]) "Elem").run Tryz.prog w = .ok (238, .agg #[h]) w := by kernel_rfl
theorem Sb h w : (Go.method 420 223 (.agg #[h]) "Implements").run Tryz.prog w = .ok (239, .agg #[h]) w := by kernel_rfl
theorem Bb h w : (Go.method 420 223 (.agg #[h]) "AssignableTo").run Tryz.prog w = .ok (236, .agg #[h]) w := by kernel_rfl
theorem Jm6 w:(ReflectliteType.method ReflectliteType.elem #[.agg #[IP (some ⟨1,112,none⟩)]]).run prog w= .ok (.iface 223 (.agg #[IP (some ⟨1,52,none⟩)])) w:=by kernel_rfl
theorem Qa4 w : (ReflectliteType.relation "Implements" ReflectliteType.implements_ #[.agg #[.pointer (some ⟨1, 52, none⟩)], .iface 223 (.agg #[.pointer (some ⟨1, 44, none⟩)])]).run Tryz.prog w = .ok (.bool true) w := by kernel_rfl
theorem Nh v w:(ReflectliteType.typeOf #[.iface 52 v]).run prog w= .ok (.iface 223 (.agg #[IP (some ⟨1,52,none⟩)])) w:=by kernel_rfl
theorem Jg4 v w:(ReflectliteType.typeOf #[.iface 172 v]).run prog w= .ok (.iface 223 (.agg #[IP (some ⟨1,172,none⟩)])) w:=by kernel_rfl
theorem Cv w : (ReflectliteType.relation "AssignableTo" ReflectliteType.assignableTo #[.agg #[.pointer (some ⟨1, 52, none⟩)], .iface 223 (.agg #[.pointer (some ⟨1, 52, none⟩)])]).run Tryz.prog w = .ok (.bool true) w := by kernel_rfl
theorem Qa5 w : (ReflectliteType.relation "AssignableTo" ReflectliteType.assignableTo #[.agg #[.pointer (some ⟨1, 172, none⟩)], .iface 223 (.agg #[.pointer (some ⟨1, 52, none⟩)])]).run Tryz.prog w = .ok (.bool false) w := by kernel_rfl
theorem Lw n w:(ReflectliteValue.unpack (.iface 52 (I O n))).run prog w
  = .ok (.agg #[IP (some ⟨1,52,none⟩),IP (some ⟨w.heap.size,0,none⟩),.int .u64 130]) (w.alloc (.cells #[I O n] 52)):=by kernel_rfl
theorem Jg5 w:(Rtype.elem? 112).run prog w= .ok (some 52) w:=by kernel_rfl
theorem mkE p w:(ReflectliteValue.mk 52 p ReflectliteValue.flagAddr).run prog w= .ok (.agg #[IP (some ⟨1,52,none⟩),IP (some p),.int .u64 386]) w:=by kernel_rfl
theorem Pr a p W (i:W.cell? a=some (IP (some p))):
  (ReflectliteValue.method (ReflectliteValue.valueError "reflectlite.Value.Elem" 0) ReflectliteValue.elem #[.agg #[.pointer (some ⟨1, 112, none⟩), .pointer (some a), .int .u64 150]]).run Tryz.prog W
   = .ok (.agg #[IP (some ⟨1,52,none⟩),IP (some p),.int .u64 386]) W:=by
 rw[Ry]
 simp only[Sem.run_bind,Pq,Result.andThen]
 simp[ReflectliteValue.elem,loadVar,isAgg,underlying,underlying112,i,Result.andThen,Jg5,mkE]
theorem rls (v x:Value):ReflectliteValue.set #[v,x]=(do
  let(some (dst,a,fl),some (src,b,_)):=(<-ReflectliteValue.parts v,<-ReflectliteValue.parts x)
   | unsupported (.noEntry "extern/(internal/reflectlite.Value).Set.zeroValue")
  if fl / ReflectliteValue.flagAddr % 2 == 0 then unsupported (.noEntry "extern/(internal/reflectlite.Value).Set.unaddressable")
  let val<-loadVar src b
  if<-Rtype.directlyAssignable dst src then storeVar dst a val
  else if<-Rtype.implements dst src then
   if(<-Rtype.kind src) ==20 then
    match val with
    | .nilIface => unsupported (.noEntry "extern/reflectlite: a nil value of one interface type handed on as a value of another")
    |_=>storeVar dst a val
   else storeVar dst a (.iface src val)
  else panicString ("reflectlite.Set: value of type " ++ (← Rtype.spelt src) ++ " is not assignable to type " ++ (← Rtype.spelt dst))
  pure (.tuple #[])):=rfl
theorem Jg6 a w:(ReflectliteValue.parts (.agg #[IP (some ⟨1,52,none⟩),IP (some a),.int .u64 386])).run prog w= .ok (some (52,a,386)) w:=by kernel_rfl
theorem Jk3 a w:(ReflectliteValue.parts (.agg #[IP (some ⟨1,52,none⟩),IP (some a),.int .u64 130])).run prog w= .ok (some (52,a,130)) w:=by kernel_rfl
theorem Jg7 w:(Rtype.directlyAssignable 52 52).run prog w= .ok true w:=by kernel_rfl
theorem Rx i b n v W (u:W.cell? b=some (I O n)) (ht:W.cell? i=some v) (j:W.frozen? i=false):
  (ReflectliteValue.set #[.agg #[IP (some ⟨1,52,none⟩),IP (some i),.int .u64 386],.agg #[IP (some ⟨1,52,none⟩),IP (some b),.int .u64 130]]).run prog W
   = .ok (.tuple #[]) (W.setCell i (I O n)):=by
 rw[rls]
 simp only[Sem.run_bind,Jg6,Jk3,Result.andThen]
 simp[ReflectliteValue.flagAddr,loadVar,isAgg,underlying,underlying52,u,Result.andThen,Jg7,storeVar,Value.cells,storeCells,Addr.add]
 rw[run_store prog W i _ _ (by rfl)]
 simp[ht,j]
theorem Qy5 n C a t j w (v:w.cell? a=some (IP (some t))) (ht:w.cell? t=some j) (D:w.frozen? t=false):
  Calls prog 102 #[.iface 52 (I O n),C,.agg #[IP (some ⟨1,112,none⟩),IP (some a),.int .u64 150],.iface 223 (.agg #[IP (some ⟨1,52,none⟩)])] w
   fun e w'=>e= .returned (.bool true)/\w'.cell? t=some (I O n)/\Below t.block w w':=by
 have y:=V6 w _ v
 have i:=V6 w _ ht
 have a0:= @run_callFunc_extern prog 99 _ (fun E=>ReflectliteValue.unpack (E.getD 0 (.tuple #[]))) func99 (by kernel_rfl) (by kernel_rfl) (by kernel_rfl) (by kernel_rfl)
 have J:= @run_callFunc_extern prog 134 _ ReflectliteType.typeOf func134 (by kernel_rfl) (by kernel_rfl) (by kernel_rfl) (by kernel_rfl)
 have Z := @run_callFunc_extern Tryz.prog 236 _ (ReflectliteType.relation "AssignableTo" ReflectliteType.assignableTo) Tryz.func236 (by kernel_rfl) (by kernel_rfl) (by kernel_rfl) (by kernel_rfl)
 have a1 := @run_callFunc_extern Tryz.prog 135 _ (ReflectliteValue.method (ReflectliteValue.valueError "reflectlite.Value.Elem" 0) ReflectliteValue.elem) Tryz.func135 (by kernel_rfl) (by kernel_rfl) (by kernel_rfl) (by kernel_rfl)
 have a2:= @run_callFunc_extern prog 136 _ ReflectliteValue.set func136 (by kernel_rfl) (by kernel_rfl) (by kernel_rfl) (by kernel_rfl)
 have tO:=Nh
 have N:=Bb
 have U:=Cv
 have vE:=Lw
 have el:=Pr a t (w.alloc (.cells #[IP (some ⟨1,112,none⟩),IP (some a),.int .u64 150] 162)) ((S4 _ _ _ y).trans v)
 have st:=Rx t ⟨w.heap.size+1,0,none⟩ n j ((w.alloc (.cells #[IP (some ⟨1,112,none⟩),IP (some a),.int .u64 150] 162)).alloc (.cells #[I O n] 52))
  (by rw[World.cell?_alloc_at _ _ _ _ (by simp)];rfl)
  (by rw[S4 _ _ t (by simp;omega),S4 _ _ t i];exact ht)
  (by rw[TK _ _ t (by simp;omega),TK _ _ t (Nat.ne_of_lt i)];exact D)
 go_enter func102,ntmps102
 go_wp2
 refine LF 1 ?_
 rw[CN]
 go_wp2
 go_ret
 refine⟨rfl, ?_,(((Q2 t.block w).alloc (by omega) _).alloc (by simp;omega) _).setCell (Q4 _) _⟩
 refine World.cell?_setCell_same _ _ _ (u:=j) ?_
 rw[S4 _ _ t (by simp;omega),S4 _ _ t i]
 exact ht
theorem Jm7 v i w:(Instr.typeAssert (.iface 172 v) i 228 true).run prog w= .ok (.tuple #[.nilIface,.bool false]) w:=
 run_typeAssert_lacksB underlying228 (by kernel_rfl) (by kernel_rfl) v i w
theorem Jg8 v i w:(Instr.typeAssert (.iface 172 v) i 179 true).run prog w= .ok (.tuple #[.iface 172 v,.bool true]) w:=
 run_typeAssert_hasB underlying179 (by kernel_rfl) v i w
theorem Qp1 v i w:(Instr.typeAssert (.iface 52 v) i 179 true).run prog w= .ok (.tuple #[.nilIface,.bool false]) w:=
 run_typeAssert_lacksB underlying179 (by kernel_rfl) (by kernel_rfl) v i w
theorem Tz h w : (Go.method 420 172 h "Unwrap").run Tryz.prog w = .ok (234, h) w := by kernel_rfl
theorem Qg0 g n w (i:w.cell? ⟨g,0,none⟩=some (I O n)):
  Calls prog 234 #[IP (some ⟨g,0,none⟩)] w fun e w'=>e= .returned (.iface 52 (I O n))/\w=w':=by
 go_enter func234,ntmps234
 go_wp2
 go_ret
 exact⟨rfl,rfl⟩
theorem Jm8 g n U a t i w (y:w.cell? a=some (IP (some t))) (ht:w.cell? t=some i) (E:w.frozen? t=false) (v:w.cell? ⟨g,0,none⟩=some (I O n)):
  Calls prog 102 #[.iface 172 (IP (some ⟨g,0,none⟩)),U,.agg #[IP (some ⟨1,112,none⟩),IP (some a),.int .u64 150],.iface 223 (.agg #[IP (some ⟨1,52,none⟩)])] w
   fun e w'=>e= .returned (.bool true)/\w'.cell? t=some (I O n)/\Below t.block w w':=by
 have N:=V6 w _ y
 have j:=V6 w _ ht
 have C:=V6 w _ v
 have a1:= @run_callFunc_extern prog 99 _ (fun J=>ReflectliteValue.unpack (J.getD 0 (.tuple #[]))) func99 (by kernel_rfl) (by kernel_rfl) (by kernel_rfl) (by kernel_rfl)
 have a4:= @run_callFunc_extern prog 134 _ ReflectliteType.typeOf func134 (by kernel_rfl) (by kernel_rfl) (by kernel_rfl) (by kernel_rfl)
 have a0 := @run_callFunc_extern Tryz.prog 236 _ (ReflectliteType.relation "AssignableTo" ReflectliteType.assignableTo) Tryz.func236 (by kernel_rfl) (by kernel_rfl) (by kernel_rfl) (by kernel_rfl)
 have a2 := @run_callFunc_extern Tryz.prog 135 _ (ReflectliteValue.method (ReflectliteValue.valueError "reflectlite.Value.Elem" 0) ReflectliteValue.elem) Tryz.func135 (by kernel_rfl) (by kernel_rfl) (by kernel_rfl) (by kernel_rfl)
 have a3:= @run_callFunc_extern prog 136 _ ReflectliteValue.set func136 (by kernel_rfl) (by kernel_rfl) (by kernel_rfl) (by kernel_rfl)
 have tO:=Nh
 have tA:=Jg4
 have mA:=Bb
 have Z:=Cv
 have aA:=Qa5
 have vE:=Lw
 have nA:=Jm7
 have uA:=Jg8
 have mU:=Tz
 have el:=Pr a t (w.alloc (.cells #[IP (some ⟨1,112,none⟩),IP (some a),.int .u64 150] 162)) ((S4 _ _ _ N).trans y)
 have st:=Rx t ⟨w.heap.size+1,0,none⟩ n i ((w.alloc (.cells #[IP (some ⟨1,112,none⟩),IP (some a),.int .u64 150] 162)).alloc (.cells #[I O n] 52))
  (by rw[World.cell?_alloc_at _ _ _ _ (by simp)];rfl)
  (by rw[S4 _ _ t (by simp;omega),S4 _ _ t j];exact ht)
  (by rw[TK _ _ t (by simp;omega),TK _ _ t (Nat.ne_of_lt j)];exact E)
 have D:(w.alloc (.cells #[IP (some ⟨1,112,none⟩),IP (some a),.int .u64 150] 162)).cell? ⟨g,0,none⟩=some (I O n):=(S4 _ _ _ C).trans v
 go_enter func102,ntmps102
 go_wp2
 refine LF 2 ?_
 rw[CN]
 go_wp2_with (go_at_call 234;refine(Qg0 g n _ D).mono ?_;rintro e w' ⟨rfl,rfl⟩)
 rw[CN]
 go_wp2
 go_ret
 refine⟨rfl, ?_,(((Q2 t.block w).alloc (by omega) _).alloc (by simp;omega) _).setCell (Q4 _) _⟩
 refine World.cell?_setCell_same _ _ _ (u:=i) ?_
 rw[S4 _ _ t (by simp;omega),S4 _ _ t j]
 exact ht
theorem Cw i n t w (C:YB w) (ht:w.cell? ⟨t,0,none⟩=some (I O 0)) (E:w.frozen? ⟨t,0,none⟩=false) (U: ∃u v,i= .iface u v)
  (y: ∀Z a W,Below w.heap.size w W->W.cell? a=some (IP (some ⟨t,0,none⟩))->W.cell? ⟨t,0,none⟩=some (I O 0)->W.frozen? ⟨t,0,none⟩=false->
   Calls prog 102 #[i,Z,.agg #[IP (some ⟨1,112,none⟩),IP (some a),.int .u64 150],.iface 223 (.agg #[IP (some ⟨1,52,none⟩)])] W
    fun e w'=>e= .returned (.bool true)/\w'.cell? ⟨t,0,none⟩=some (I O n)/\Below t W w'):
  Calls prog 49 #[i,.iface 112 (IP (some ⟨t,0,none⟩))] w fun e w'=>e= .returned (.bool true)/\w'.cell? ⟨t,0,none⟩=some (I O n)/\Below t w w':=by
 obtain⟨u,v,rfl⟩:=U
 have j:=V6 w _ ht
 have J:=C.lt
 have a0:= @run_callFunc_extern prog 99 _ (fun N=>ReflectliteValue.unpack (N.getD 0 (.tuple #[]))) func99 (by kernel_rfl) (by kernel_rfl) (by kernel_rfl) (by kernel_rfl)
 have a5 := @run_callFunc_extern Tryz.prog 100 _ (ReflectliteValue.methodAny (ReflectliteValue.valueError "reflectlite.Value.Type" 0) (fun t _ _ _ => ReflectliteType.toType t)) Tryz.func100 (by kernel_rfl) (by kernel_rfl) (by kernel_rfl) (by kernel_rfl)
 have a6 := @run_callFunc_extern Tryz.prog 101 _ (ReflectliteValue.method (ReflectliteValue.valueError "reflectlite.Value.IsNil" 0) ReflectliteValue.isNil) Tryz.func101 (by kernel_rfl) (by kernel_rfl) (by kernel_rfl) (by kernel_rfl)
 have a4:= @run_callFunc_extern prog 226 _ (ReflectliteType.abiMethod fun t=>do pure (.int .u8 (<-Rtype.kind t))) func226 (by kernel_rfl) (by kernel_rfl) (by kernel_rfl) (by kernel_rfl)
 have a2:= @run_callFunc_extern prog 238 _ (ReflectliteType.method ReflectliteType.elem) func238 (by kernel_rfl) (by kernel_rfl) (by kernel_rfl) (by kernel_rfl)
 have a3 := @run_callFunc_extern Tryz.prog 239 _ (ReflectliteType.relation "Implements" ReflectliteType.implements_) Tryz.func239 (by kernel_rfl) (by kernel_rfl) (by kernel_rfl) (by kernel_rfl)
 have f6:=Qy4
 have f7:=Jm3
 have mK:=Qf8
 have mE:=Qf9
 have mI:=Sb
 have kP:=Jm4
 have kE:=Jm5
 have eP:=Jm6
 have iE:=Qa4
 have n8:=Jk2 ⟨w.heap.size,0,none⟩ ⟨t,0,none⟩ ((w.alloc (.cells #[IP (some ⟨t,0,none⟩)] 112)).alloc (.cells #[IP (some ⟨1,112,none⟩),IP (some ⟨w.heap.size,0,none⟩),.int .u64 150] 162)) (by simp)
 have a1:((w.alloc (.cells #[IP (some ⟨t,0,none⟩)] 112)).alloc (.cells #[IP (some ⟨1,112,none⟩),IP (some ⟨w.heap.size,0,none⟩),.int .u64 150] 162)).cell? ⟨0,0,none⟩=some (.iface 223 (.agg #[IP (some ⟨1,44,none⟩)])):=by
  rw[S4 _ _ ⟨0,0,none⟩ (by simp<;>omega),S4 _ _ ⟨0,0,none⟩ J];exact C
 have D:=Q0 y
 clear y
 go_enter func49,ntmps49
 go_wp2_with fail
 refine(D _ ⟨w.heap.size,0,none⟩ _ ?_ ?_ ?_ ?_).mono ?_
 ·exact((Q2 _ w).alloc (Q4 _) _).alloc (by simp) _
 ·rw[S4 _ _ ⟨w.heap.size,0,none⟩ (by simp)];simp
 ·rw[S4 _ _ ⟨t,0,none⟩ (by simp;omega),S4 _ _ ⟨t,0,none⟩ j];exact ht
 ·rw[TK _ _ ⟨t,0,none⟩ (by simp;omega),TK _ _ ⟨t,0,none⟩ (Nat.ne_of_lt j)];exact E
 rintro e w1 ⟨rfl,hc,hB⟩
 go_wp2
 go_ret
 exact⟨rfl,hc,(((Q2 t w).alloc (by omega) _).alloc (by simp;omega) _).trans hB⟩
theorem Qy6 w:Calls prog 14 #[.nilIface] w fun e w'=>e= .returned (I O 0)/\w=w':=by
 go_enter func14,ntmps14
 go_wp2
 go_ret
 exact⟨rfl,rfl⟩
theorem Qg1 n w (v:YB w):Calls prog 14 #[.iface 52 (I O n)] w fun e w'=>e= .returned (I O n)/\Below w.heap.size w w':=by
 have u:=Q0 (v.below ((Q2 _ w).alloc (Q4 _) (.cells #[I O 0] 52)) (Q4 _))
 go_enter func14,ntmps14
 go_wp2_with fail
 refine(Cw _ n w.heap.size _ u (by simp) (by simp) ⟨_,_,rfl⟩ ?_).mono ?_
 ·intro y a W i C ht j
  exact Qy5 n y a ⟨w.heap.size,0,none⟩ _ W C ht j
 rintro e w1 ⟨rfl,D,i⟩
 go_wp2
 go_ret
 exact⟨rfl,((Q2 _ w).alloc (Q4 _) _).trans i⟩
theorem Jg9 g n w (E:YB w) (j:w.cell? ⟨g,0,none⟩=some (I O n)):Calls prog 14 #[.iface 172 (IP (some ⟨g,0,none⟩))] w fun e w'=>e= .returned (I O n)/\Below w.heap.size w w':=by
 have y:=V6 w _ j
 have D:=Q0 (E.below ((Q2 _ w).alloc (Q4 _) (.cells #[I O 0] 52)) (Q4 _))
 go_enter func14,ntmps14
 go_wp2_with fail
 refine(Cw _ n w.heap.size _ D (by simp) (by simp) ⟨_,_,rfl⟩ ?_).mono ?_
 ·intro u a W i v ht C
  exact Jm8 g n u a ⟨w.heap.size,0,none⟩ _ W v ht C ((i.cell (p:=⟨g,0,none⟩) (by simp;omega)).trans ((S4 _ _ _ y).trans j))
 rintro e w1 ⟨rfl,J,i⟩
 go_wp2
 go_ret
 exact⟨rfl,((Q2 _ w).alloc (Q4 _) _).trans i⟩
