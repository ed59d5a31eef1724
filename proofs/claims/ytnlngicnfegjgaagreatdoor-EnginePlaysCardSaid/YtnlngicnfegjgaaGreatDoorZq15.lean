/- Parts. -/
import Derived.Test.YtnlngicnfegjgaaGreatDoorZq13
set_option linter.unusedVariables false
set_option maxRecDepth 100000
set_option maxHeartbeats 8000000
open Go.Proofs.Tryz
open Go.Value renaming int→I,pointer→IP
open Go.IntKind renaming i64→O
namespace Go.Proofs.YtnlngicnfegjgaaGreatDoor
open Go.RowKit
set_option linter.unusedSimpArgs false
def S0 (o:Q8):Option Int:=if o.kind=2 then none else some o.price
def BC (lv:List X4) (bu se:Int):Option Int->Int×Int
 |none=>(bu,se)
 |some p=>C2 lv p
def AD (lv:List X4) (bu se:Int) (o:Q8):Int:=if o.side=1 then(BC lv bu se (S0 o)).1 else(BC lv bu se (S0 o)).2
def RT (lv:List X4) (bu se:Int) (o:Q8) (q:Int) (lv':List X4) (bu' se':Int):Prop:=
 lv'.length<=lv.length+1/\ ∀k,BC lv' bu' se' k=if k=S0 o then((BC lv bu se k).1+q*dB o,(BC lv bu se k).2+q*dS o)else BC lv bu se k
section
variable(w:World) (X:Nat) (t:TypeId) (cs:Array Value) (o:Nat) (A:Option Addr) (c:Nat) (lv:List X4) (bu se:Int) (h:XQ w X t cs o A c lv bu se) (z:Q8)
theorem Et (h:XQ w X t cs o A c lv bu se) (j:FY lv bu se) (u:UN z) q (y:q=1\/q= -1) (hp:q= -1->z.qty<=AD lv bu se z):
  Calls prog 121 #[IP (some ⟨X,o,none⟩),X5 z,I O q] w fun e w'=>(∃v,e= .returned v)/\ ∃lv' bu' se',ZD w w' X t cs o A lv' bu' se'/\RT lv bu se z q lv' bu' se':=by
 by_cases hk:z.kind=2
 ·have i:S0 z=none:=Q5 hk
  refine(Tl w X t cs o A c lv bu se h j z u hk q y (fun e=>by have:=hp e;unfold AD at this;rw[i]at this;exact this)).mono ?_;rintro e w' ⟨h1,h2⟩;refine⟨h1,_,_,_,h2,Nat.le_succ _,fun k=> ?_⟩;rw[i]
  cases k with
  |none=>rw[Q5 rfl];rfl
  |some p=>rw[Q3 (by simp)];rfl
 have i:S0 z=some z.price:=Q3 hk
 refine(Wh w X t cs o A c lv bu se h j z u hk q y (fun e=>by have:=hp e;unfold AD at this;rw[i]at this;exact this)).mono ?_
 rintro e w' ⟨h1,lv',h2,C,D⟩
 refine⟨h1,_,_,_,h2,C,fun k=> ?_⟩
 rw[i]
 cases k with
 |none=>rw[Q3 (by simp)];rfl
 |some p=>
  show C2 lv' p=_;rw[D p]
  by_cases e:p=z.price
  ·rw[Q5 e,Q5 (by rw[e])];rfl
  rw[Q3 e,Q3 (fun h=>e (KZ h))];rfl
end
def MZ (o:Q8):Bool:=((o.side ==1 ||o.side ==2) &&decide (1<=o.qty) &&decide (o.qty<=1000000)) && (o.kind ==2 || (decide (1<=o.price) &&decide (o.price<=1000000)))
theorem RK o:MZ o=true↔UN o:=by
 unfold MZ UN
 simp only[Bool.and_eq_true,Bool.or_eq_true,decide_eq_true_eq,beq_iff_eq]
 constructor
 ·rintro⟨⟨⟨a,b⟩,c⟩,d⟩;exact⟨a,⟨b,c⟩,d⟩
 rintro⟨a,⟨b,c⟩,d⟩;exact⟨⟨⟨a,b⟩,c⟩,d⟩
theorem WA w z:Calls prog 120 #[X5 z] w fun e w'=>e= .returned (.bool (MZ z))/\Below w.heap.size w w':=by
 have D:=Q0 (show Below w.heap.size w (w.alloc (.cells #[I O z.id,I O z.side,I O z.kind,I O z.price,I O z.qty] 29))from(Q2 _ w).alloc (Q4 _) _)
 obtain⟨zi,Z,zk,J,N⟩:=z
 obtain⟨bb,j⟩:=exq (MZ ⟨zi,Z,zk,J,N⟩)
 rw[j]
 unfold MZ at j
 unfold X5
 dsimp only at j D|-
 go_enter func120,ntmps120
 by_cases u:Z=1
 ·have a4:=Z0 u
  by_cases i:1<=N
  ·have U:=Z5 i
   by_cases v:N<=1000000
   ·have a2:=Z5 v
    by_cases k:zk=2
    ·have k_:=Z0 k
     have e:bb=true:=by rw[<-j];simp[u,i,v,k]
     subst e;clear j u i v k;go_wp2;go_ret;exact⟨rfl,D⟩
    have k_:=X3 k
    by_cases y:1<=J
    ·have a1:=Z5 y
     by_cases E:J<=1000000
     ·have a0:=Z5 E
      have e:bb=true:=by rw[<-j];simp[u,i,v,k,y,E]
      subst e;clear j u i v k y E;go_wp2;go_ret;exact⟨rfl,D⟩
     have a0:=Z1 E;have e:bb=false:=by rw[<-j];simp[u,i,v,k,y,E]
     subst e;clear j u i v k y E;go_wp2;go_ret;exact⟨rfl,D⟩
    have a1:=Z1 y;have e:bb=false:=by rw[<-j];simp[u,i,v,k,y]
    subst e;clear j u i v k y;go_wp2;go_ret;exact⟨rfl,D⟩
   have a2:=Z1 v;have e:bb=false:=by rw[<-j];simp[u,i,v]
   subst e;clear j u i v;go_wp2;go_ret;exact⟨rfl,D⟩
  have U:=Z1 i;have e:bb=false:=by rw[<-j];simp[u,i]
  subst e;clear j u i;go_wp2;go_ret;exact⟨rfl,D⟩
 have a4:=X3 u
 by_cases C:Z=2
 ·have a3:=Z0 C
  by_cases i:1<=N
  ·have U:=Z5 i
   by_cases v:N<=1000000
   ·have a2:=Z5 v
    by_cases k:zk=2
    ·have k_:=Z0 k
     have e:bb=true:=by rw[<-j];simp[u,C,i,v,k]
     subst e;clear j u C i v k;go_wp2;go_ret;exact⟨rfl,D⟩
    have k_:=X3 k
    by_cases y:1<=J
    ·have a1:=Z5 y
     by_cases E:J<=1000000
     ·have a0:=Z5 E
      have e:bb=true:=by rw[<-j];simp[u,C,i,v,k,y,E]
      subst e;clear j u C i v k y E;go_wp2;go_ret;exact⟨rfl,D⟩
     have a0:=Z1 E;have e:bb=false:=by rw[<-j];simp[u,C,i,v,k,y,E]
     subst e;clear j u C i v k y E;go_wp2;go_ret;exact⟨rfl,D⟩
    have a1:=Z1 y;have e:bb=false:=by rw[<-j];simp[u,C,i,v,k,y]
    subst e;clear j u C i v k y;go_wp2;go_ret;exact⟨rfl,D⟩
   have a2:=Z1 v;have e:bb=false:=by rw[<-j];simp[u,C,i,v]
   subst e;clear j u C i v;go_wp2;go_ret;exact⟨rfl,D⟩
  have U:=Z1 i;have e:bb=false:=by rw[<-j];simp[u,C,i]
  subst e;clear j u C i;go_wp2;go_ret;exact⟨rfl,D⟩
 have a3:=X3 C
 have e:bb=false:=by rw[<-j];simp[u,C]
 subst e
 clear j u C
 go_wp2
 go_ret
 exact⟨rfl,D⟩
theorem Qi0 w X t cs o A c lv bu se (h:XQ w X t cs o A c lv bu se) z (i:z.side=1\/z.side=2) (hk:z.kind=2):
  Calls prog 133 #[IP (some ⟨X,o,none⟩),X5 z] w fun e w'=>e= .returned (I O (if z.side=1 then bu else se))/\Below w.heap.size w w':=by
 have y:Below w.heap.size w (w.alloc (.cells #[I O z.id,I O z.side,I O z.kind,I O z.price,I O z.qty] 29)):=(Q2 _ w).alloc (Q4 _) _
 have D:=h.below y
 obtain⟨U,y1,y2⟩:=D.cells
 have t1:=Z0 hk
 obtain⟨w1,N⟩:=exq (w.alloc (.cells #[I O z.id,I O z.side,I O z.kind,I O z.price,I O z.qty] 29))
 obtain⟨Z,E⟩:=exq w.heap.size
 have j:=J9 w 29 #[I O z.id,I O z.side,I O z.kind,I O z.price,I O z.qty]
 rw[N]at y D U y1 y2 j
 rw[E]at j
 have a0:=J5 D.blk
 have a1:=J5 j
 obtain⟨x1,x2⟩:=(show w1.cell? ⟨Z,1,none⟩=some (I O z.side)/\w1.cell? ⟨Z,2,none⟩=some (I O z.kind)from⟨by rw[J0 j];rfl,by rw[J0 j];rfl⟩)
 have u:=Q0 y
 obtain⟨v,C⟩:=exq (if z.side=1 then bu else se)
 rw[C]
 have Hv:=Q0 C
 unfold X5
 clear h D y j U
 rcases i with i|i
 ·have i1:RowKit.wrap64 (z.side-1)=0:=by unfold RowKit.wrap64;omega
  have J:=Q0 i;clear i C hk;go_enter func133,ntmps133
  go_upto_region 1 with fail
  clear N E;go_wp2_with fail
  go_region
  all_goals go_wp2_with fail
  all_goals
   refine P4 (CP rfl _ _ _) rfl ?_;refine⟨T3 ?_,u.trans ?_⟩
   ·have h1:=Hv.out
    rw[Q5 J.out]at h1;exact h1
   first
   |exact((J3 (Q2 _ _)).alloc u.size _)
   |exact J3 ((Q2 _ _).alloc u.size _)
 have i1:RowKit.wrap64 (z.side-1)=1:=by unfold RowKit.wrap64;omega
 have J:=Q0 i
 clear i C hk
 go_enter func133,ntmps133
 go_upto_region 1 with fail
 clear N E
 go_wp2_with fail
 go_region
 all_goals go_wp2_with fail
 all_goals
  refine P4 (CP rfl _ _ _) rfl ?_;refine⟨T3 ?_,u.trans ?_⟩
  ·have h1:=Hv.out
   rw[Q3 (by have:=J.out;omega)]at h1;exact h1
  first
  |exact((J3 (Q2 _ _)).alloc u.size _)
  |exact J3 ((Q2 _ _).alloc u.size _)
theorem Qq6 w X t cs o A c lv bu se (h:XQ w X t cs o A c lv bu se) (hs:lv.length<=99999) z (u:z.side=1\/z.side=2) (hk:z.kind≠2) (c9:1<=z.price/\z.price<=1000000):
  Calls prog 133 #[IP (some ⟨X,o,none⟩),X5 z] w fun e w'=>e= .returned (I O (if z.side=1 then(C2 lv z.price).1 else(C2 lv z.price).2))/\Below w.heap.size w w':=by
 have a1:Below w.heap.size w (w.alloc (.cells #[I O z.id,I O z.side,I O z.kind,I O z.price,I O z.qty] 29)):=(Q2 _ w).alloc (Q4 _) _
 have C:=h.below a1
 obtain⟨n,N⟩:=exq lv.length
 have a8:n<=99999:=by omega
 have D:=C.cells.1
 rw[N]at D
 obtain⟨w1,b2⟩:=exq (w.alloc (.cells #[I O z.id,I O z.side,I O z.kind,I O z.price,I O z.qty] 29))
 obtain⟨i,c0⟩:=exq w.heap.size
 have y:=J9 w 29 #[I O z.id,I O z.side,I O z.kind,I O z.price,I O z.qty]
 rw[b2]at a1 C D y
 rw[c0]at y
 have c2:=J5 C.blk
 have c1:=J5 y
 obtain⟨x1,x2,x3⟩:=(show w1.cell? ⟨i,1,none⟩=some (I O z.side)/\w1.cell? ⟨i,2,none⟩=some (I O z.kind)/\w1.cell? ⟨i,3,none⟩=some (I O z.price)from⟨by rw[J0 y];rfl,by rw[J0 y];rfl,by rw[J0 y];rfl⟩)
 have b9:=Cu z.price 181 #[] A n c lv w1.drew (by rw[<-N];exact VV E6 (by omega) (C.below (J3 (Q2 _ _))).row) h.ok.rank (by omega) (XH func181 (by kernel_rfl) rfl)
  (fun W q hm hW=>Qf7 q.1 q.2.1 q.2.2 z.price (by have:=h.ok.pr q hm;unfold FJ;omega) (by unfold FJ;omega) W)
 have c8:=Q0 b9
 have t1:=X3 hk
 have H:=Q0 h
 have Hn:=Q0 N
 have a9:=Q0 a1
 have d3:=Q0 y
 have c7:=Q0 u
 obtain⟨v,hv⟩:=exq (if z.side=1 then(C2 lv z.price).1 else(C2 lv z.price).2)
 rw[hv]
 have Hv:=Q0 hv
 unfold X5
 clear h C b9 a1 y hk c9 u N hv
 go_enter func133,ntmps133
 go_upto_region 1 with fail
 clear b2 c0
 go_wp2_with fail
 refine CH 11 (fun W=>W.cell? ⟨X,o,none⟩=some (.slice A n c)/\W.cell? ⟨i,3,none⟩=some (I O z.price)) (by kernel_rfl) ⟨D,x3⟩ (fun hS=> ?_)
 refine tT 0 (IP (some ⟨X,o,none⟩)) ?_
 refine tT 1 (IP (some ⟨X,o,none⟩)) ?_
 refine tT 2 (IP (some ⟨X,o,none⟩)) ?_
 refine tT 3 (.slice A n c) ?_
 refine tT 4 (IP (some ⟨i,3,none⟩)) ?_
 refine tT 5 (I O z.price) ?_
 refine Y8 6 (by kernel_rfl) rfl (fun K1 E=> ?_)
 go_simp
 refine c8.mono ?_
 rintro e w2 ⟨J,k,a7,a6,a3,rfl⟩
 obtain⟨fb,a0⟩:=exq (DL lv z.price n k)
 rw[a0]
 have c3:=(J.cell (p:=⟨X,o,none⟩) c2).trans D
 have c6:=(J.cell (p:=⟨i,3,none⟩) c1).trans x3
 refine E _ _ ⟨c3,c6⟩ (fun hS=> ?_)
 clear E
 refine tT 7 (.tuple #[I O k,.bool fb]) ?_
 refine tT 8 (I O k) ?_
 refine tT 9 (.bool fb) ?_
 refine tT 10 (I O k) ?_
 refine YY (by kernel_rfl) rfl (fun K1 E=> ?_)
 go_simp
 refine E _ _ (YU (by kernel_rfl) ?_ _)
 clear E
 have a4:=Q0 J
 clear J hS
 have j:=Q0 (show Below w.heap.size w w2 from a9.trans ((J3 (Q2 _ w1)).trans (a4.mono a9.size)))
 have d4:w2.cell? ⟨i,1,none⟩=some (I O z.side):=(a4.cell (p:=⟨i,1,none⟩) c1).trans x1
 cases fb with
 |false=>
  have d0:=Q0 a6;have c4:=Q0 a3;clear a6 a3;go_wp2_with fail
  refine P4 (CP rfl _ _ _) rfl ?_;refine⟨T3 ?_,j⟩;have h1:=Xz (Cf Hn H.ok.rank a0 d0 c4);have h2:=Hv.out;rw[h1]at h2;rw[<-h2]
  split<;>rfl
 |true=>
  obtain⟨U,b1⟩:=Ct Hn a0;obtain⟨-,Z⟩:=ZS.found H j U b1;have a5:=H.below j;obtain⟨g,c5,-⟩:=a5.row.elem E6 (by omega) U;subst c5;obtain⟨-,l1,l2⟩:=WE a5.row U;generalize lv[k].2.1=b0 at l1 Z;generalize lv[k].2.2=s0 at l2 Z;have b8:=Q0 Z;have d1:(k:Int)< (n:Int):=by have:=Hn.out;omega
  have d2:(0:Int)<=(k:Int):=by omega
  have b5:i<w2.heap.size:=by have:=a4.size;have:w1.heap.size<=w2.heap.size:=this;omega
  clear a0 a6 a3 a5 U b1 Z D x1 x2 x3;rcases c7.out with u|u
  ·have i1:RowKit.wrap64 (z.side-1)=0:=by unfold RowKit.wrap64;clear a8 a7 b5;omega
   have a2:=Q0 u;clear u;go_wp2_with fail
   go_region
   all_goals go_wp2_with fail
   all_goals
    refine P4 (CP rfl _ _ _) rfl ?_;refine⟨T3 ?_,j.trans ?_⟩
    ·have h1:=Hv.out
     rw[Q5 a2.out,b8.out]at h1;exact h1
    first
    |exact((J3 (Q2 _ _)).alloc j.size _)
    |exact J3 ((Q2 _ _).alloc j.size _)
  have i1:RowKit.wrap64 (z.side-1)=1:=by unfold RowKit.wrap64;clear a8 a7 b5;omega
  have a2:=Q0 u;clear u;go_wp2_with fail
  go_region
  all_goals go_wp2_with fail
  all_goals
   refine P4 (CP rfl _ _ _) rfl ?_;refine⟨T3 ?_,j.trans ?_⟩
   ·have h1:=Hv.out
    rw[Q3 (by have:=a2.out;omega),b8.out]at h1;exact h1
   first
   |exact((J3 (Q2 _ _)).alloc j.size _)
   |exact J3 ((Q2 _ _).alloc j.size _)
theorem Nn w X t cs o A c lv bu se (h:XQ w X t cs o A c lv bu se) (j:lv.length<=99999) z (i:UN z):
  Calls prog 133 #[IP (some ⟨X,o,none⟩),X5 z] w fun e w'=>e= .returned (I O (AD lv bu se z))/\Below w.heap.size w w':=by
 unfold AD
 by_cases hk:z.kind=2
 ·rw[show S0 z=none from Q5 hk]
  exact Qi0 w X t cs o A c lv bu se h z i.1 hk
 rw[show S0 z=some z.price from Q3 hk]
 exact Qq6 w X t cs o A c lv bu se h j z i.1 hk (i.2.2.resolve_left hk)
theorem FF {w g t a b c d e} (h:Q1 w g t #[a,b,c,d,e]):w.cell? ⟨g,0,none⟩=some a/\w.cell? ⟨g,1,none⟩=some b/\w.cell? ⟨g,2,none⟩=some c/\w.cell? ⟨g,3,none⟩=some d/\w.cell? ⟨g,4,none⟩=some e:=
 ⟨by rw[J0 h];rfl,by rw[J0 h];rfl,by rw[J0 h];rfl,by rw[J0 h];rfl,by rw[J0 h];rfl⟩
theorem ZD.pre {w w1 w' X t cs o A lv' bu' se'} (h:ZD w1 w' X t cs o A lv' bu' se') (j:Below w.heap.size w w1):ZD w w' X t cs o A lv' bu' se':=by
 obtain⟨y,A',c',h1,h2,u,C,D⟩:=h
 exact⟨y,A',c',h1,h2,u,(U1 j _).trans C (fun i e=> .inl e),fun g v=>(D g v).imp id (fun e=>G0 j.size e)⟩
def VB (lv:List X4) (bu se:Int) (z:Q8) (q:Int):Int:=if MZ z=true then(if q= -1/\AD lv bu se z<z.qty then 8 else 0)else 1
def DX (lv:List X4) (bu se:Int) (z:Q8) (q:Int) (lv':List X4) (bu' se':Int):Prop:=if VB lv bu se z q=0 then RT lv bu se z q lv' bu' se' else lv'=lv/\bu'=bu/\se'=se
theorem Ac w X t cs o A c lv bu se (h:XQ w X t cs o A c lv bu se) (J:FY lv bu se) z:
  Calls prog 88 #[IP (some ⟨X,o,none⟩),X5 z] w fun e w'=>e= .returned (U0 (VB lv bu se z 1))/\ ∃lv' bu' se',ZD w w' X t cs o A lv' bu' se'/\DX lv bu se z 1 lv' bu' se':=by
 have E:Below w.heap.size w (w.alloc (.cells #[I O z.id,I O z.side,I O z.kind,I O z.price,I O z.qty] 29)):=(Q2 _ w).alloc (Q4 _) _
 have D:=J9 w 29 #[I O z.id,I O z.side,I O z.kind,I O z.price,I O z.qty]
 have H:=Q0 h
 have HS:=Q0 J
 have C:=Q0 E
 have Z:=Q0 D
 have a0:=J5 D
 clear h J E D
 unfold X5
 cases u:MZ z with
 |false=>
  have j:=Q0 u;clear u;go_enter func88,ntmps88
  go_wp2_with (go_at_call 120;refine(WA _ z).mono ?_;rintro e w2 ⟨rfl,i⟩;rw[j.out];have y:=Q0 i;clear i)
  refine P4 (CP rfl _ _ _) rfl ?_;have ht:VB lv bu se z 1=1:=by unfold VB;rw[j.out];rfl
  refine⟨by rw[ht];rfl,lv,bu,se,ZD.same H (C.trans (y.mono C.size)), ?_⟩;unfold DX;rw[ht,Q3 (by decide)];exact⟨rfl,rfl,rfl⟩
 |true=>
  have j:=Q0 u;clear u;go_enter func88,ntmps88
  go_wp2_with (first|(go_at_call 120;refine(WA _ z).mono ?_;rintro e w2 ⟨rfl,i⟩;rw[j.out];obtain⟨x0,x1,x2,x3,x4⟩:=FF (J4 Z i);have y:=Q0 (C.trans (i.mono C.size));clear i)|(go_at_call 121;refine(Et _ X t cs o A c lv bu se z (H.below y) HS ((RK z).1 j) 1 (.inl rfl) (fun e=>by cases e)).mono ?_;rintro e w3 ⟨⟨v,rfl⟩,N⟩;have U:=Q0 N;clear N))
  refine P4 (CP rfl _ _ _) rfl ?_;have ht:VB lv bu se z 1=0:=by unfold VB;rw[j.out];rfl
  obtain⟨lv',bu',se',h1,h2⟩:=U.out;refine⟨by rw[ht];rfl,lv',bu',se',h1.pre y, ?_⟩;unfold DX;rw[ht,Q5 rfl];exact h2
theorem Yl w X t cs o A c lv bu se (h:XQ w X t cs o A c lv bu se) (hs:FY lv bu se) z:
  Calls prog 98 #[IP (some ⟨X,o,none⟩),X5 z] w fun e w'=>e= .returned (U0 (VB lv bu se z (-1)))/\ ∃lv' bu' se',ZD w w' X t cs o A lv' bu' se'/\DX lv bu se z (-1) lv' bu' se':=by
 have a1:Below w.heap.size w (w.alloc (.cells #[I O z.id,I O z.side,I O z.kind,I O z.price,I O z.qty] 29)):=(Q2 _ w).alloc (Q4 _) _
 have Z:=J9 w 29 #[I O z.id,I O z.side,I O z.kind,I O z.price,I O z.qty]
 have H:=Q0 h
 have HS:=Q0 hs
 have C:=Q0 a1
 have U:=Q0 Z
 have a2:=J5 Z
 clear h hs a1 Z
 unfold X5
 cases E:MZ z with
 |false=>
  have j:=Q0 E;clear E;go_enter func98,ntmps98
  go_wp2_with (go_at_call 120;refine(WA _ z).mono ?_;rintro e w2 ⟨rfl,i⟩;rw[j.out];have u:=Q0 i;clear i)
  refine P4 (CP rfl _ _ _) rfl ?_;have ht:VB lv bu se z (-1)=1:=by unfold VB;rw[j.out];rfl
  refine⟨by rw[ht];rfl,lv,bu,se,ZD.same H (C.trans (u.mono C.size)), ?_⟩;unfold DX;rw[ht,Q3 (by decide)];exact⟨rfl,rfl,rfl⟩
 |true=>
  have j:=Q0 E;clear E
  by_cases D:AD lv bu se z<z.qty
  ·have d1:=Z5 D
   have J:=Q0 D;clear D;go_enter func98,ntmps98
   go_wp2_with (go_at_call 120;refine(WA _ z).mono ?_;rintro e w2 ⟨rfl,i⟩;rw[j.out];obtain⟨x0,x1,x2,x3,x4⟩:=FF (J4 U i);have u:=Q0 (C.trans (i.mono C.size));have a0:=Q0 (J4 U i);clear i)
   go_region_with (go_at_call 133;refine(Nn _ X t cs o A c lv bu se (H.below (J3 u)) HS.n z ((RK z).1 j)).mono ?_;rintro e w3 ⟨rfl,y⟩;obtain⟨y0,y1,y2,y3,y4⟩:=FF (J4 (Z2 a0) y);have N:=Q0 ((J3 u).trans (y.mono u.size));clear y)
   all_goals go_wp2_with fail
   all_goals
    refine P4 (CP rfl _ _ _) rfl ?_;have ht:VB lv bu se z (-1)=8:=by unfold VB;rw[j.out,Q5 rfl,Q5 ⟨rfl,J.out⟩]
    refine⟨by rw[ht];rfl,lv,bu,se,ZD.same H N, ?_⟩;unfold DX;rw[ht,Q3 (by decide)];exact⟨rfl,rfl,rfl⟩
  have d1:=Z1 D;have J:=Q0 D;clear D;go_enter func98,ntmps98
  go_wp2_with (go_at_call 120;refine(WA _ z).mono ?_;rintro e w2 ⟨rfl,i⟩;rw[j.out];obtain⟨x0,x1,x2,x3,x4⟩:=FF (J4 U i);have u:=Q0 (C.trans (i.mono C.size));have a0:=Q0 (J4 U i);clear i)
  go_region_with (go_at_call 133;refine(Nn _ X t cs o A c lv bu se (H.below (J3 u)) HS.n z ((RK z).1 j)).mono ?_;rintro e w3 ⟨rfl,y⟩;obtain⟨y0,y1,y2,y3,y4⟩:=FF (J4 (Z2 a0) y);have N:=Q0 ((J3 u).trans (y.mono u.size));clear y)
  all_goals go_wp2_with (go_at_call 121;refine(Et _ X t cs o A c lv bu se z (H.below N) HS ((RK z).1 j) (-1) (.inr rfl) (fun _=>by have:=J.out;omega)).mono ?_;rintro e w4 ⟨⟨v,rfl⟩,hd⟩;have HD:=Q0 hd;clear hd)
  all_goals
   refine P4 (CP rfl _ _ _) rfl ?_;have ht:VB lv bu se z (-1)=0:=by unfold VB;rw[j.out,Q5 rfl,Q3 (fun e=>by have:=J.out;have:=e.2;omega)]
   obtain⟨lv',bu',se',h1,h2⟩:=HD.out;refine⟨by rw[ht];rfl,lv',bu',se',h1.pre N, ?_⟩;unfold DX;rw[ht,Q5 rfl];exact h2
theorem Jl1 (L:List Int) (h:L≠ []): ∃q∈L,∀r∈L,r<=q:=by
 induction L with
 |nil=>exact absurd rfl h
 |cons a L y=>
  by_cases j:L= []
  ·subst j;exact⟨a,by simp,fun r i=>by simp at i;omega⟩
  obtain⟨q,u,h1⟩:=y j
  by_cases v:a<=q
  ·exact⟨q,by simp[u],fun r i=>by rcases D4.1 i with rfl|i;exact v;exact h1 r i⟩
  exact⟨a,by simp,fun r i=>by rcases D4.1 i with rfl|i;exact P8 _;have:=h1 r i;omega⟩
theorem Qi1 p (L:List Int):(∃q∈L,p<=q/\ ∀r∈L,p<=r->q<=r)\/ ∀r∈L,r<p:=by
 induction L with
 |nil=>right;intro r i;cases i
 |cons a L v=>
  rcases v with⟨q,u,h1,h2⟩|h
  ·by_cases j:p<=a/\a<=q
   ·left
    exact⟨a,by simp,j.1,fun r i hp=>by rcases D4.1 i with rfl|i;exact P8 _;have:=h2 r i hp;omega⟩
   left
   exact⟨q,by simp[u],h1,fun r i hp=>by rcases D4.1 i with rfl|i;omega;exact h2 r i hp⟩
  by_cases j:p<=a
  ·left
   exact⟨a,by simp,j,fun r i hp=>by rcases D4.1 i with rfl|i;exact P8 _;have:=h r i;omega⟩
  right
  intro r i;rcases D4.1 i with rfl|i
  ·omega
  exact h r i
theorem Ja6 (p:Int) L (h:L≠ []): ∃q∈L,(∀r∈L,p<=r->q<=r)/\ ∀r∈L,r<=p->r<=q:=by
 rcases Qi1 p L with⟨q,j,h1,h2⟩|h1
 ·exact⟨q,j,h2,fun r i hp=>by omega⟩
 obtain⟨q,j,h2⟩:=Jl1 L h
 exact⟨q,j,fun r i hp=>by have:=h1 r i;omega,fun r i _=>h2 r i⟩
theorem Gm (F G:Q8->Int) (l:List Q8) (h: ∀o∈l,F o<=G o): ∀s t,s<=t->l.foldl (fun s o=>s+F o) s<=l.foldl (fun s o=>s+G o) t:=by
 induction l with
 |nil=>intro s t h;exact h
 |cons a l i=>
  intro s t u;rw[QZ,QZ];have:=h a (by simp);exact i (fun o j=>h o (by simp[j])) _ _ (by omega)
theorem No {l more} (h:FV l) (D:1<=more) p: ∃y∈S7 l more,min (JU p l) (JY p l)<=U8 y:=by
 have E:N3 l more≠ []:=by unfold N3;rw[Q5 D];simp
 obtain⟨q,v,h1,h2⟩:=Ja6 p (N3 l more) E
 refine⟨BV (P6 l) q,U4.2 ⟨q,(Ar _ _).2 v,rfl⟩, ?_⟩
 rw[WU h]
 have J:JU p l<=JU q l:=Gm (XA p) (XA q) l (fun o i=>by
  have C:=NM (h o i);unfold XA
  by_cases hk:o.kind=2
  ·simp[hk]
  have:=h1 o.price (Ef h i hk)
  by_cases u:o.side=1<;>by_cases hp:p<=o.price<;>by_cases j:q<=o.price<;>simp[hk,u,hp,j]<;>omega) 0 0 (P8 _)
 have N:JY p l<=JY q l:=Gm (XB p) (XB q) l (fun o i=>by
  have C:=NM (h o i);unfold XB
  by_cases hk:o.kind=2
  ·simp[hk]
  have:=h2 o.price (Ef h i hk)
  by_cases u:o.side=2<;>by_cases hp:o.price<=p<;>by_cases j:o.price<=q<;>simp[hk,u,hp,j]<;>omega) 0 0 (P8 _)
 show min (JU p l) (JY p l)<=min (JU q l) (JY q l)
 omega
theorem Qq7 j i r l: ∀x,AZ j i r x l=x\/AZ j i r x l∈l:=by
 induction l with
 |nil=>intro x;left;rfl
 |cons a l u=>
  intro x;have e:AZ j i r x (a::l)=AZ j i r (if ZX j i r a x=true then a else x) l:=rfl;rw[e]
  by_cases v:ZX j i r a x=true
  ·rw[Q5 v]
   rcases u a with h|h
   ·right;rw[h];simp
   right;simp[h]
  rw[Q3 v];rcases u x with h|h
  ·left;exact h
  right;simp[h]
theorem choose_spec l r:(KV l r=(0,0,0)/\ ∀y∈l,U8 y<=0)\/ ∃y∈l,KV l r=(y.1,U8 y,y.2.1-y.2.2)/\1<=U8 y/\ ∀z∈l,U8 z<=U8 y:=by
 rw[Dd]
 obtain⟨h1,J,h2⟩:=Xe l
 unfold ER
 by_cases j:S8 l<1
 ·left
  rw[Q5 j];exact⟨rfl,fun y hy=>by have:=h2 y hy;omega⟩
 right
 rw[Q3 j]
 have E:=Yj l (by omega)
 cases u:ZT (S8 l) (ZZ (S8 l) l).1 l with
 |nil=>exact absurd u E
 |cons x b=>
  have v:AZ (CX (x::b)) (BA (x::b)) r x (x::b)∈ZT (S8 l) (ZZ (S8 l) l).1 l:=by
   rw[u];rcases Qq7 (CX (x::b)) (BA (x::b)) r (x::b) x with h|h
   ·rw[h];simp
   exact h
  obtain⟨D,i⟩:=P3.1 v;simp only[Bool.and_eq_true,beq_iff_eq]at i;refine⟨_,D,rfl,by rw[i.1];omega,fun z C=>by rw[i.1];exact h2 z C⟩
theorem Qq8 {l more} (h:FV l) (j:1<=more) r:
  (∀p,min (JU p l) (JY p l)<=(KV (S7 l more) r).2.1)/\
  (0< (KV (S7 l more) r).2.1->(KV (S7 l more) r).2.1=min (JU (KV (S7 l more) r).1 l) (JY (KV (S7 l more) r).1 l)/\(KV (S7 l more) r).2.2=JU (KV (S7 l more) r).1 l-JY (KV (S7 l more) r).1 l):=by
 rcases choose_spec (S7 l more) r with⟨e,h1⟩|⟨y,hy,e,D,h1⟩
 ·rw[e]
  refine⟨fun p=> ?_,fun v=>absurd v (by simp)⟩;obtain⟨z,i,u⟩:=No h j p;have:=h1 z i;show _<=(0:Int);omega
 rw[e]
 refine⟨fun p=> ?_,fun _=> ?_⟩
 ·obtain⟨z,i,u⟩:=No h j p
  have:=h1 z i;show _<=U8 y;omega
 obtain⟨q,C,rfl⟩:=U4.1 hy
 rw[WU h]
 exact⟨rfl,rfl⟩
