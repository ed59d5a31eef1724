/- Parts. -/
import Derived.Test.YtnlngicnfegjgaaGreatDoorZq37
import Derived.Test.YtnlngicnfegjgaaGreatDoorZq38
import Derived.Test.YtnlngicnfegjgaaGreatDoorZqK
set_option linter.unusedVariables false
set_option maxRecDepth 100000
set_option maxHeartbeats 8000000
open Go.Proofs.Tryz
open Go.Value renaming int→I,pointer→IP
open Go.IntKind renaming i64→O
namespace Go.Proofs.YtnlngicnfegjgaaGreatDoor
open Go.RowKit
section
open Go.Proofs Go.Shelf Go.Sort
theorem Q6.of_grown {w w' row} (h:w.grownBy w' row):Q6 (fun i=>row=some i) w w':=⟨h.os,h.tape,h.output,h.size,fun k hk j=>h.block k hk (fun e=>j e.symm)⟩
theorem To A n c (S:List Int) w (h:J2 w A n c 3 1 (S.map (Value.int .i64))) (hn:n<=1000000):
  Calls prog 182 #[.slice A n c] w fun e w'=>e= .returned (.tuple #[])/\J2 w' A n c 3 1 ((S.mergeSort fun x y=>decide (x<=y)).map (Value.int .i64))/\Q6 (fun i=>Q7 A=some i) w w':=by
 have j:S.length=n:=by have:=h.1;simpa using this
 rcases h.2 with⟨v,N⟩|⟨g,cap,Z,v,h1,h2,U,J,h5,D⟩
 ·subst N
  obtain rfl:S= []:=BN j;refine(AnyM.slices_Sort_int_none sortA A c w).mono ?_;rintro e w' ⟨rfl,rfl⟩;exact⟨rfl,by simpa using h,Q6.refl _ _⟩
 cases v
 have E:Holds (Value.int .i64) w g 0 S.toArray:=holds_of_blockI h2 (by rw[j];simpa using D)
 have C:g<w.heap.size:=by
  rcases ED g w.heap.size with h|h
  ·exact h
  rw[Zm h]at h2;cases h2
 have u:=AnyM.slices_Sort_int sortA g 0 c S w E C (by omega)
 rw[j]at u
 refine u.mono ?_
 rintro e w' ⟨rfl,q,os,rfl⟩
 refine⟨rfl, ?_,Q6.of_grown (grownBy_sortedI _)⟩
 have:=ownsRow_sortedI (n:=q) (os:=os) (ss:=S) (ts:=S.mergeSort fun x y=>decide (x<=y)) (by simp) (V5 _) h2 (by omega) J (by omega)
 rw[j]at this
 exact this
theorem Wy A n c (S:List Int) w (h:J2 w A n c 3 1 (S.map (Value.int .i64))) (u:n<=1000000):
  Calls prog 143 #[.slice A n c] w fun e w'=>e= .returned (.tuple #[])/\J2 w' A n c 3 1 ((S.mergeSort fun x y=>decide (x<=y)).map (Value.int .i64))/\Q6 (fun i=>Q7 A=some i) w w':=by
 have v:=Q0 (To A n c S w h u)
 clear h
 go_enter func143,ntmps143
 go_wp2_with fail
 refine v.mono ?_
 rintro e w' ⟨rfl,h1,h2⟩
 have j:=Q0 h1
 clear h1
 go_wp2_with fail
 go_end0
 exact⟨rfl,j,h2⟩
end
theorem Lh x i u w:Calls prog 55 #[I O x,I O i,I O u] w fun e w'=>e= .returned (.bool (decide (i<=x) &&decide (x<=u)))/\w=w':=by
 by_cases h1:i<=x
 ·have j:=Z5 h1
  go_enter NU,NK
  go_wp2;go_ret;exact⟨T2 (by rw[j];rfl),rfl⟩
 have j:=Z1 h1
 go_enter NU,NK
 go_wp2
 go_ret
 exact⟨T2 (by first|rfl|(rw[j];rfl)),rfl⟩
theorem Ph o w:Calls prog 142 #[X5 o] w fun e w'=>e= .returned (.bool (JA o))/\Below w.heap.size w w':=by
 unfold X5
 have j:=Q0 (show Below w.heap.size w (w.alloc (.cells #[I O o.id,I O o.side,I O o.kind,I O o.price,I O o.qty] 29))from(Q2 _ _).alloc (Q4 _) _)
 have i:=Q0 (Lh o.side 1 2)
 have u:=Q0 (Lh o.qty 1 1000000)
 have e0:JA o=((decide (1<=o.side) &&decide (o.side<=2)) && (decide (1<=o.qty) &&decide (o.qty<=1000000))):=by
  unfold JA;rw[Jg];simp;omega
 have E:=Q0 e0
 clear e0
 cases h1:(decide (1<=o.side) &&decide (o.side<=2))with
 |true=>
  rw[h1]at i E;clear h1;go_enter func142,ntmps142
  go_wp2_with fail
  refine(i _).mono ?_;rintro e w1 ⟨rfl,rfl⟩;go_wp2_with fail
  refine(u _).mono ?_;rintro e w1 ⟨rfl,rfl⟩;go_wp2_with fail
  go_ret;exact⟨T2 (by rw[E.out];rfl),j⟩
 |false=>
  rw[h1]at i E;clear h1;go_enter func142,ntmps142
  go_wp2_with fail
  refine(i _).mono ?_;rintro e w1 ⟨rfl,rfl⟩;go_wp2_with fail
  go_ret;exact⟨T2 (by rw[E.out];rfl),j⟩
theorem Qv6:(prog.info? 3).map (fun i=>(i.zero,i.size,i.bytes))=some (some (I O 0),1,8):=by kernel_rfl
theorem Qv7:(prog.info? 241).map (fun i=>(i.zero,i.size,i.bytes))=some (some (.agg #[I O 0,I O 0,I O 0]),3,24):=by kernel_rfl
theorem Qv8 {w A n c sz t xs} (h:J2 w A n c t sz xs) (j:0<n): ∃g,A=some ⟨g,0,none⟩:=by
 rcases h.2 with⟨_,u⟩|⟨g,cap,v,i,_⟩
 ·omega
 cases i;exact⟨g,rfl⟩
theorem Pj {w g n c t} {S:List Int} (h:J2 w (some ⟨g,0,none⟩) n c t 1 (S.map (Value.int .i64))) {i} (C:i<S.length):w.cell? ⟨g,i,none⟩=some (.int .i64 S[i]):=by
 obtain⟨D,v,y⟩:=h.cell (j:=i) (u:= .int .i64 S[i]) (by simp[C])
 cases v
 exact y
theorem Qn0 A n c l more w (h:V4 w X9 5 A n l) (hm:n<=100):
  Calls prog 111 #[.slice A n c,.int .i64 more] w fun e w'=>Below w.heap.size w w'/\ ∃A' c',e= .returned (.slice A' (S7 l more).length c')/\J2 w' A' (S7 l more).length c' 241 3 (Q9 X8 (S7 l more)):=by
 have HH:=Q0 h
 have hl:=h.1
 have HL:=Q0 hl
 obtain⟨ii,h6,h8,h7,g9⟩:=N0 Qv6
 clear h hl
 go_enter func111,ntmps111
 go_upto_if 16 with(fail)
 go_cut [5] (fun s5 wx=> ∃C n5 Z,s5= .slice C n5 Z/\n5<=1/\Below w.heap.size w wx/\J2 wx C n5 Z 3 1 ((N3 [] more).map (Value.int .i64))/\(∀g,Q7 C=some g->w.heap.size<=g))
 case first=>
  by_cases h1:0<more
  ·have d1:=Z5 h1
   have HE:Hid (N3 [] more= [more]):=Q0 (by unfold N3;rw[Q5 (by omega)];rfl);go_wp2_with (at_builtin;refine ZL _ rfl _ _ 22 rfl w.heap.size 3 ii _ 1 8 underlying22 h6 h8 h7 g9 rfl (by omega) (.slice none 0 0) 0 [] rfl (JX _ _ _ _) ⟨w.heap.size,0,none⟩ 1 1 [.int .i64 more] rfl rfl (JB (cs:= #[.int .i64 more]) (t:=3) (fr:=(0,0)) (S5 w _)) (by simp[Value.oneCell']) (by omega) (by unfold maxLen;omega) (by omega) (by simp) (w.heap.size+1) (by simp) ?_;intro gg cap w3 c2 c1 a9 h3)
   go_meet;refine⟨some ⟨gg,0,none⟩,1,cap,rfl,Q4 _,((Q2 _ w).alloc (Q4 _) _).grown c1 (by simp) (fun q hq=>by cases hq), ?_, ?_⟩
   ·rw[HE.out];exact Fu c2
   intro x hx
   cases hx;rcases a9 with h1|h1
   ·cases h1
   show w.heap.size<=gg;omega
  have d1:=Z1 h1;have h2:more<=0:=by omega
  have HE:Hid (N3 [] more= []):=Q0 (by unfold N3;rw[Q3 (by omega)];rfl);go_wp2_with fail
  go_meet;exact⟨none,0,0,rfl,by omega,Q2 _ _,by rw[HE.out];exact JX _ _ _ _,by simp[Q7]⟩
 obtain⟨i3,i5,j4,rfl,j8,f0,e7,g3⟩:=hcut
 have k6:=Q0 f0
 have i8:=Q0 e7
 have i6:=Q0 g3
 clear f0 e7 g3
 go_wp2_with fail
 go_loopg [5,23] n (fun gg s5 j6 wx=> ∃k C n5 Z,k<=n/\gg=n-k/\j6= .int .i64 k/\s5= .slice C n5 Z/\n5<=k+1/\Below w.heap.size w wx/\J2 wx C n5 Z 3 1 ((N3 (l.take k) more).map (Value.int .i64))/\(∀g,Q7 C=some g->w.heap.size<=g))
 case atStart=>exact⟨0,i3,i5,j4,V5 _,rfl,rfl,rfl,j8,k6,i8,i6⟩
 obtain⟨k,C,n5,Z,hk,rfl,rfl,rfl,m6,u,b1,c4⟩:=hrel
 by_cases m3:k<n
 ·have f7:k<l.length:=by have:=HL.out;omega
  obtain⟨b,a1,hA⟩: ∃b a1,A=some ⟨b,a1,none⟩:=by obtain⟨b,a1,h1,_⟩:=HH.2 (by omega);exact⟨b,a1,h1⟩
  subst hA;obtain⟨x0,x1,x2,x3,x4⟩:=CW (HH.below u (Q4 _)) f7;have k9:(k:Int)< (n:Int):=by omega
  have n4:(0:Int)<=(k:Int):=by omega
  have HT:=Q0 (M8 f7);obtain⟨o,E⟩: ∃o,Hid (l[k]=o):=⟨_,Q0 rfl⟩;rw[E.out]at x0 x1 x2 x3 x4 HT;have d3:=Q0 (Tv (l.take k) o more);rw[<-HT.out]at d3;have b0:Below wr.heap.size wr (wr.alloc (.cells #[.int .i64 o.id,.int .i64 o.side,.int .i64 o.kind,.int .i64 o.price,.int .i64 o.qty] 29)):=(Q2 _ _).alloc (Q4 _) _;have HX:=Q0 (J9 wr 29 (J8 o));have HB:=Q0 (u.trans (b0.mono u.size));have l2:=Q0 (b1.below b0);have m5:=u.size;have c0:=Q0 c4;have HC:=Q0 (Ph o (wr.alloc (.cells #[.int .i64 o.id,.int .i64 o.side,.int .i64 o.kind,.int .i64 o.price,.int .i64 o.qty] 29)));have n8:some wr.heap.size≠(Value.slice C n5 Z).ownBlock:=by
   rw[A7];intro e;have:=b1.lt e.symm;omega
  clear u b1 c4 b0;go_wp2_with fail
  refine HC.mono ?_;rintro e w2 ⟨rfl,a5⟩;obtain⟨y0,y1,y2,y3,y4⟩:=Z6 (J4 HX a5);have c8:=Q0 (HB.trans (a5.mono (by simp;omega)));have d8:=Q0 (l2.below a5);have e8:=c8.size;clear x0 x1 x2 x3 x4 HC
  cases D:JA o with
  |false=>
   have HP:Hid (N3 (l.take (k+1)) more=N3 (l.take k) more):=Q0 (by rw[d3.out,Q3 (by rw[D];simp)];simp);clear D;go_wp2_with fail
   go_roundg (n- (k+1))
   case measure=>omega
   exact⟨k+1,C,n5,Z,by omega,rfl,by go_num,rfl,by omega,c8,by rw[HP.out];exact d8,c0⟩
  |true=>
   by_cases v:o.kind=2
   ·have d2:=JW v
    have HP:Hid (N3 (l.take (k+1)) more=N3 (l.take k) more):=Q0 (by rw[d3.out,Q3 (fun h=>h.2 v)];simp);clear D v;go_wp2_with fail
    go_roundg (n- (k+1))
    case measure=>omega
    exact⟨k+1,C,n5,Z,by omega,rfl,by go_num,rfl,by omega,c8,by rw[HP.out];exact d8,c0⟩
   have d2:=JF v;have HP:Hid (N3 (l.take (k+1)) more=N3 (l.take k) more++ [o.price]):=Q0 (by rw[d3.out,Q5 ⟨D,v⟩]);clear D v;go_wp2_with (at_builtin;refine ZL _ rfl _ _ 22 rfl 0 3 ii _ 1 8 underlying22 h6 h8 h7 g9 rfl (by omega) (.slice C n5 Z) n5 _ rfl (d8.alloc _) ⟨w2.heap.size,0,none⟩ 1 1 [.int .i64 o.price] rfl rfl (JB (cs:= #[.int .i64 o.price]) (t:=3) (fr:=(0,0)) (S5 w2 _)) (by simp[Value.oneCell']) (by omega) (by unfold maxLen;omega) (by omega) (by simp) (w2.heap.size+1) (by simp) ?_;intro gg cap w3 c2 c1 a9 h3)
   go_roundg (n- (k+1))
   case measure=>omega
   refine⟨k+1,some ⟨gg,0,none⟩,n5+1,cap,by omega,rfl,by go_num,rfl,by omega,(c8.alloc e8 _).grown c1 (by simp;omega) (fun x hx=>c0 x (by rw[<-A7 C n5 Z];exact hx)), ?_, ?_⟩
   ·rw[HP.out,T1];exact c2
   intro x hx
   cases hx;rw[A7]at a9;rcases a9 with h1|h1
   ·exact c0 _ h1
   show w.heap.size<=gg;omega
 obtain rfl:n=k:=by omega
 have k9: ¬(n:Int)< (n:Int):=by omega
 have f5:l.take n=l:=N7 (by rw[HL.out];exact Q4 _)
 rw[f5]at b1
 have m0:n5<=1000:=by omega
 have HC:=Q0 (Wy C n5 Z (N3 l more) wr b1 (by omega))
 have HB:=Q0 u
 have c0:=Q0 c4
 clear b1 u c4 f5
 go_wp2_with fail
 refine HC.mono ?_
 rintro e w2 ⟨rfl,c3,hK⟩
 have d4:=Q0 (HB.trans (hK.below c0 HB.size))
 have g2:Hid (S7 l more=(dd ((N3 l more).mergeSort fun x y=>decide (x<=y))).map (BV (P6 l))):=Q0 rfl
 generalize(N3 l more).mergeSort (fun x y=>decide (x<=y))=S at c3 g2
 have h9:S.length=n5:=by have:=c3.1;simpa using this
 have g7:=Q0 h9
 have k0:=Q0 c3
 have j0:=d4.size
 clear c3 hK h9 HC
 go_wp2_with fail
 go_loopg [9,45] n5 (fun gg s9 j9 wx=> ∃i A9 n9 c9,i<=n5/\gg=n5-i/\j9= .int .i64 i/\s9= .slice A9 n9 c9/\n9<=i/\Below w2.heap.size w2 wx/\J2 wx A9 n9 c9 241 3 (Q9 X8 ((dd (S.take i)).map (BV (P6 l))))/\(∀g,Q7 A9=some g->w2.heap.size<=g))
 case atStart=>exact⟨0,none,0,0,V5 _,rfl,rfl,rfl,Q4 _,Q2 _ _,JX _ _ _ _,by simp[Q7]⟩
 obtain⟨i,A9,n9,c9,hi,rfl,rfl,rfl,n7,u,b8,e6⟩:=hrel
 by_cases l8:i<n5
 ·have h4:i<S.length:=by have:=g7.out;omega
  have d7:=k0.below u;obtain⟨gv,rfl⟩:=Qv8 d7 (by omega);have xv:=Pj d7 h4;have l4:(i:Int)< (n5:Int):=by omega
  have m9:(0:Int)<=(i:Int):=by omega
  have g1:=Q0 (M8 h4);obtain⟨p,E⟩: ∃p,Hid (S[i]=p):=⟨_,Q0 rfl⟩;rw[E.out]at xv g1;have d9:=Q0 (Jf9 (S.take i) p);rw[<-g1.out]at d9;obtain⟨a3,d6⟩: ∃a3,Hid (a3=decide ((S.take i).getLast?=some p)):=⟨_,Q0 rfl⟩;have h5:=Q0 b8;have d5:=Q0 u;have e1:=Q0 e6;have j1:=Q0 d7;clear u b8 e6 d7;go_upto_region 16 with fail
  go_cut [60] (fun l5 wx=>l5= .bool a3/\wx=wr)
  case first=>
   by_cases e5:i=0
   ·subst e5
    have g5:a3=false:=by rw[d6.out];simp
    subst g5;go_wp2_with fail
    go_meet;exact⟨rfl,rfl⟩
   have d0:decide ((0:Int)< (i:Int))=true:=Z5 (by omega);have i1:i-1<S.length:=by omega
   have xw:=Pj j1 i1;have ei:(i:Int)-1=((i-1:Nat):Int):=by omega
   have m4:(0:Int)<=(i:Int)-1:=by omega
   have o1:(i:Int)-1< (n5:Int):=by omega
   have ex:((i:Int)-1).toNat=i-1:=by omega
   have c6:(S.take i).getLast?=some S[i-1]:=by
    rw[List.getLast?_eq_getElem?,T6,PR (by omega),List.getElem?_take_of_lt (by omega),KP i1]
   obtain⟨q,EQ⟩: ∃q,Hid (S[i-1]=q):=⟨_,Q0 rfl⟩;rw[EQ.out]at xw c6;have g4:a3=(q ==p):=by rw[d6.out,c6];simp[Bool.beq_eq_decide_eq]
   have g0:=Q0 g4;have n3:=Q0 c6;clear c6 g4
   by_cases c7:q=p
   ·have t1:=Z0 c7
    have hd:a3=true:=by rw[g0.out,t1]
    subst hd;clear c7;go_wp2_with fail
    go_meet;exact⟨rfl,rfl⟩
   have t1:=X3 c7;have hd:a3=false:=by rw[g0.out,t1]
   subst hd;clear c7;go_wp2_with fail
   go_meet;exact⟨rfl,rfl⟩
  obtain⟨rfl,rfl⟩:=hcut
  cases a3 with
  |true=>
   have e2:Hid (dd (S.take (i+1))=dd (S.take i)):=Q0 (by rw[d9.out,Q5 (by have:=d6.out;simpa using this.symm)]);go_wp2_with fail
   go_roundg (n5- (i+1))
   case measure=>omega
   exact⟨i+1,A9,n9,c9,by omega,rfl,by go_num,rfl,by omega,d5,by rw[e2.out];exact h5,e1⟩
  |false=>
   have e2:Hid (dd (S.take (i+1))=dd (S.take i)++ [p]):=Q0 (by rw[d9.out,Q3 (by have:=d6.out;simpa using this.symm)]);obtain⟨wq,rfl⟩: ∃wq,wq=wc:=⟨_,rfl⟩;have a0:=d5.size;go_wp2_with fail
   go_loopg [65] n (fun gg j7 wx=> ∃j d s,j<=n/\gg=n-j/\j7= .int .i64 j/\Below wq.heap.size wq wx/\Q1 wx wq.heap.size 241 #[.int .i64 p,.int .i64 d,.int .i64 s]/\Hid (d=JU p (P6 (l.take j))/\s=JY p (P6 (l.take j))))
   case atStart=>exact⟨0,0,0,V5 _,rfl,rfl,(Q2 _ _).alloc (Q4 _) _,J9 _ _ _,Q0 ⟨rfl,rfl⟩⟩
   obtain⟨j,d,s,hj,rfl,rfl,u,hX,a8⟩:=hrel;have f4:=Ec (p:=p) (Xw (l:=l.take j));have f9:=Ed (p:=p) (Xw (l:=l.take j));rw[<-a8.1]at f4;rw[<-a8.2]at f9;have k7:(P6 (l.take j)).length<=j:=G0 (FR _ _) (List.length_take_le _ _);obtain⟨g5,k3⟩:=f4;obtain⟨m7,k2⟩:=f9;have n0:d<=100000000:=by omega
   have e8:s<=100000000:=by omega
   clear k3 k2 k7
   by_cases h3:j<n
   ·have f6:j<l.length:=by have:=HL.out;omega
    obtain⟨b,a1,hA⟩: ∃b a1,A=some ⟨b,a1,none⟩:=by obtain⟨b,a1,h1,_⟩:=HH.2 (by omega);exact⟨b,a1,h1⟩
    subst hA;have h0:=d4.trans ((d5.trans (u.mono a0)).mono j0);obtain⟨x0,x1,x2,x3,x4⟩:=CW (HH.below h0 (Q4 _)) f6;have i2:(j:Int)< (n:Int):=by omega
    have m8:(0:Int)<=(j:Int):=by omega
    have e9:=Q0 (M8 f6);obtain⟨o,E3⟩: ∃o,Hid (l[j]=o):=⟨_,Q0 rfl⟩;rw[E3.out]at x0 x1 x2 x3 x4 e9;have b0:Below wr.heap.size wr (wr.alloc (.cells #[.int .i64 o.id,.int .i64 o.side,.int .i64 o.kind,.int .i64 o.price,.int .i64 o.qty] 29)):=(Q2 _ _).alloc (Q4 _) _;have l3:=Q0 (J4 hX b0);have k8:=Q0 (J9 wr 29 (J8 o));have j5:=Q0 (u.trans (b0.mono u.size));have n6:=u.size;have n1:=J5 hX;have HC:=Q0 (Ph o (wr.alloc (.cells #[.int .i64 o.id,.int .i64 o.side,.int .i64 o.kind,.int .i64 o.price,.int .i64 o.qty] 29)));have e3:=Q0 (Ea (l.take j) o);rw[<-e9.out]at e3;clear hX u b0 h0;go_wp2_with fail
    refine HC.mono ?_;rintro e w5 ⟨rfl,a5⟩;obtain⟨y0,y1,y2,y3,y4⟩:=Z6 (J4 k8 a5);have b5:=J4 l3 a5;have a6:=Q0 b5;have a4:=Q0 (j5.trans (a5.mono (by simp;omega)));have z1:w5.cell? ⟨wq.heap.size,1,none⟩=some (.int .i64 d):=by rw[J0 b5];rfl
    have z2:w5.cell? ⟨wq.heap.size,2,none⟩=some (.int .i64 s):=by rw[J0 b5];rfl
    have f1:=J1 b5 1;have f2:=J1 b5 2;clear x0 x1 x2 x3 x4 HC b5
    cases D:JA o with
    |false=>
     have i4:Hid (P6 (l.take (j+1))=P6 (l.take j)):=Q0 (by rw[e3.out,Q3 (by rw[D];simp)];simp);clear D;go_wp2_with fail
     go_roundg (n- (j+1))
     case measure=>omega
     exact⟨j+1,d,s,by omega,rfl,by go_num,a4,a6,by rw[i4.out];exact a8⟩
    |true=>
     have hq:=NM D;obtain⟨l9,l7⟩:=hq;have k1:o.side=1\/o.side=2:=by unfold JA at D;simp at D;exact D.2
     have g6:Hid (P6 (l.take (j+1))=P6 (l.take j)++ [o]):=Q0 (by rw[e3.out,Q5 D]);have U:Hid (JU p (P6 (l.take (j+1)))=d+XA p o):=Q0 (by rw[g6.out,Qn8,<-a8.1]);have N:Hid (JY p (P6 (l.take (j+1)))=s+XB p o):=Q0 (by rw[g6.out,Qn9,<-a8.2]);clear D;rcases k1 with J|J
     ·have t1:=Z0 J
      have t3:=X3 (show¬o.side=2 by omega);have b9:XB p o=0:=by unfold XB;rw[Q3 (by omega)]
      by_cases v:o.kind=2
      ·have t2:=Z0 v
       have a2:XA p o=o.qty:=by unfold XA;rw[Q5 ⟨J,.inl v⟩]
       rw[a2]at U;rw[b9,GZ]at N;clear J v a2 b9;go_wp2_with fail
       go_roundg (n- (j+1))
       case measure=>omega
       exact⟨j+1,d+o.qty,s,by omega,rfl,by go_num,(a4.setCell (Q4 _) _),J7 a6 1 (.int .i64 (d+o.qty)),Q0 ⟨U.symm,N.symm⟩⟩
      have t2:=X3 v
      by_cases a7:p<=o.price
      ·have t4:=Z5 a7
       have a2:XA p o=o.qty:=by unfold XA;rw[Q5 ⟨J,.inr a7⟩]
       rw[a2]at U;rw[b9,GZ]at N;clear J v a2 b9;go_wp2_with fail
       go_roundg (n- (j+1))
       case measure=>omega
       exact⟨j+1,d+o.qty,s,by omega,rfl,by go_num,(a4.setCell (Q4 _) _),J7 a6 1 (.int .i64 (d+o.qty)),Q0 ⟨U.symm,N.symm⟩⟩
      have t4:=Z1 a7;have a2:XA p o=0:=by unfold XA;rw[Q3 (by omega)]
      rw[a2,GZ]at U;rw[b9,GZ]at N;clear J v a2 b9;go_wp2_with fail
      go_roundg (n- (j+1))
      case measure=>omega
      exact⟨j+1,d,s,by omega,rfl,by go_num,a4,a6,Q0 ⟨U.symm,N.symm⟩⟩
     have t1:=X3 (show¬o.side=1 by omega);have t3:=Z0 J;have b2:XA p o=0:=by unfold XA;rw[Q3 (by omega)]
     by_cases v:o.kind=2
     ·have t2:=Z0 v
      have a0:XB p o=o.qty:=by unfold XB;rw[Q5 ⟨J,.inl v⟩]
      rw[b2,GZ]at U;rw[a0]at N;clear J v a0 b2;go_wp2_with fail
      go_roundg (n- (j+1))
      case measure=>omega
      exact⟨j+1,d,s+o.qty,by omega,rfl,by go_num,(a4.setCell (Q4 _) _),J7 a6 2 (.int .i64 (s+o.qty)),Q0 ⟨U.symm,N.symm⟩⟩
     have t2:=X3 v
     by_cases a7:o.price<=p
     ·have t4:=Z5 a7
      have a0:XB p o=o.qty:=by unfold XB;rw[Q5 ⟨J,.inr a7⟩]
      rw[b2,GZ]at U;rw[a0]at N;clear J v a0 b2;go_wp2_with fail
      go_roundg (n- (j+1))
      case measure=>omega
      exact⟨j+1,d,s+o.qty,by omega,rfl,by go_num,(a4.setCell (Q4 _) _),J7 a6 2 (.int .i64 (s+o.qty)),Q0 ⟨U.symm,N.symm⟩⟩
     have t4:=Z1 a7;have a0:XB p o=0:=by unfold XB;rw[Q3 (by omega)]
     rw[b2,GZ]at U;rw[a0,GZ]at N;clear J v a0 b2;go_wp2_with fail
     go_roundg (n- (j+1))
     case measure=>omega
     exact⟨j+1,d,s,by omega,rfl,by go_num,a4,a6,Q0 ⟨U.symm,N.symm⟩⟩
   obtain rfl:n=j:=by omega
   have i2: ¬(n:Int)< (n:Int):=by omega
   have k5:Hid (BV (P6 l) p=(p,d,s)):=Q0 (by
    have h1:=a8.out;rw[N7 (by rw[HL.out];exact Q4 _)]at h1;unfold BV;rw[<-h1.1,<-h1.2])
   have x0:wr.cell? ⟨wq.heap.size,0,none⟩=some (.int .i64 p):=by rw[J0 hX];rfl
   have x1:wr.cell? ⟨wq.heap.size,1,none⟩=some (.int .i64 d):=by rw[J0 hX];rfl
   have x2:wr.cell? ⟨wq.heap.size,2,none⟩=some (.int .i64 s):=by rw[J0 hX];rfl
   have e4:=d5.trans (u.mono a0);have i9:=Q0 e4;have l0:=e4.size;have g8:World.ownsRow (wr.alloc (.cells #[.int .i64 p,.int .i64 d,.int .i64 s] 241)) 0 241 3 (.slice A9 n9 c9) n9 (Q9 X8 ((dd (S.take i)).map (BV (P6 l)))):=YM (h5.below u) _;have i7:=Q0 g8;have o2:=u.size;obtain⟨i0,e5,j3,k4,j2⟩:=N0 Qv7;clear hX u e4 g8 a8;go_wp2_with (at_builtin;refine ZL _ rfl _ _ 193 rfl 0 241 i0 _ 3 24 underlying193 e5 j3 k4 j2 rfl (by omega) (.slice A9 n9 c9) n9 _ rfl i7 ⟨wr.heap.size,0,none⟩ 1 1 [.int .i64 p,.int .i64 d,.int .i64 s] rfl rfl (JB (cs:= #[.int .i64 p,.int .i64 d,.int .i64 s]) (t:=241) (fr:=(0,0)) (S5 wr _)) (by simp[Value.oneCell']) (by omega) (by unfold maxLen;omega) (by omega) (by simp) (wr.heap.size+1) (by simp) ?_;intro gg cap w5 c2 c1 a9 n2)
   go_roundg (n5- (i+1))
   case measure=>omega
   refine⟨i+1,some ⟨gg,0,none⟩,n9+1,cap,by omega,rfl,by go_num,rfl,by omega,(i9.alloc l0 _).grown c1 (by simp;omega) (fun x hx=>e1 x (by rw[<-A7 A9 n9 c9];exact hx)), ?_, ?_⟩
   ·rw[e2.out,T1,DB]
    show J2 w5 _ _ _ _ _ (Q9 X8 ((dd (S.take i)).map (BV (P6 l)))++Q9 X8 [BV (P6 l) p]);rw[k5.out];exact c2
   intro x hx
   cases hx;rw[A7]at a9;rcases a9 with h1|h1
   ·exact e1 _ h1
   show w2.heap.size<=gg;omega
 obtain rfl:i=n5:=by omega
 have l4: ¬(i:Int)< (i:Int):=by omega
 rw[N7 (by rw[g7.out];exact Q4 _),<-g2.out]at b8
 have f8:=YW E6 (by omega) b8
 have l1:=Q0 b8
 have f3:=Q0 f8
 have l6:=Q0 (d4.trans (u.mono d4.size))
 clear b8 f8 u
 go_wp2_with fail
 go_ret
 exact⟨l6,A9,c9,by rw[f3.out];rfl,by rw[f3.out];exact l1⟩
section
variable {w:World} {R:Nat} {F:Nat->Prop} {m:X7}
theorem Qv9 (h:D7 w R F m) p:Calls prog 74 #[IP (some ⟨R,0,none⟩),I O p] w fun j w'=>j= .returned (.bool (US m.st m.an p))/\Below w.heap.size w w':=by
 obtain⟨cs,T,tc,AL,Ap,pc,Ai,ic,own,L,i,u⟩:=h
 exact Uq R m.st m.an p w (i.cell i.rc.c1) (i.cell i.rc.c3)
theorem Wz {L} (hp:L.Perm (L6 m)) (i:B8 m.L1 m.L2) (v:1<=m.la/\m.la<=1000000):ER (S7 L m.la) m.la=P5 m/\(∀y∈S7 L m.la,UU y)/\(S7 L m.la).length<=100000:=by
 have e:S7 L m.la=S7 (L6 m) m.la:=Qc7 hp m.la
 have D:=BR i
 have C:(L6 m).length<=100:=i.cnt
 have u:=Mh (l:=L6 m) (more:=m.la) C (fun o j hk=>(D o j).2.2.resolve_left hk) v.2
 rw[e]
 refine⟨?_,fun y hy=> ?_, ?_⟩
 ·unfold P5
  exact(Dd _ _).symm
 ·have h1:=u y hy
  exact⟨⟨h1.1,h1.2.1⟩,⟨by omega,by omega⟩,⟨by omega,by omega⟩⟩
 have h1:=Ee (L6 m) m.la
 omega
theorem Qn1 {w a Q g cs} (hp:a.tmps.getD 2 undef= IP (some ⟨g,0,none⟩)) (i:a.defers= [])
  (j:Q1 w g 83 cs) (h2:cs.size=3) (h:Q (.returned (.agg cs)) w):bodyPost prog Tryz.f73 Q .ret a w:=
 P4 (PG Tryz.results73 a.tmps w g _ cs (0,0) _ hp j TC rfl (by rw[h2];kernel_rfl)) i h
theorem Ft {w a Q g cs} (hp:a.tmps.getD 2 undef= IP (some ⟨g,0,none⟩)) (i:a.defers= [])
  (j:Q1 w g 83 cs) (h2:cs.size=3) (h:Q (.returned (.agg cs)) w):bodyPost prog Tryz.f31 Q .ret a w:=
 P4 (PG Tryz.results31 a.tmps w g _ cs (0,0) _ hp j TC rfl (by rw[h2];kernel_rfl)) i h
theorem Ue (h:D7 w R F m) (a6:1<=m.la/\m.la<=1000000):Calls prog 73 #[IP (some ⟨R,0,none⟩)] w fun ev w'=>ev= .returned (QX (P5 m))/\Below w.heap.size w w':=by
 obtain⟨cs,T,tc,AL,Ap,pc,Ai,ic,own,L,y,hF⟩:=h
 obtain⟨hW,J,C⟩:=Wz y.perm (y.twin.lists y.few) a6
 have U:Below w.heap.size w (w.alloc (.cells #[I O 0,I O 0,I O 0] 83)):=(Q2 _ w).alloc (Q4 _) _
 have hX:=J9 w 83 #[I O 0,I O 0,I O 0]
 obtain⟨w1,a2⟩:=exq (w.alloc (.cells #[I O 0,I O 0,I O 0] 83))
 obtain⟨X,eX⟩:=exq w.heap.size
 rw[a2]at U hX
 rw[eX]at hX
 have a0:w.heap.size<=X:=YZ eX
 have D:=y.below U
 obtain⟨c,E,-,-⟩:=D.bk.cell
 have N:=D.cell D.rc.c4
 obtain⟨Z,b5⟩:=exq L.length
 have a1:=D.bk.els
 rw[b5]at E a1
 have c0:Z<=100:=by have:=y.few;omega
 obtain⟨la,b2⟩:=exq m.la
 rw[b2]at N hW J C a6
 have HC:=Q0 (fun W (u:Below w1.heap.size w1 W)=>Qn0 AL Z c L la W (a1.below u (Q4 _)) c0)
 obtain⟨ps,a8⟩:=exq (S7 L la)
 rw[a8]at HC hW J C
 have HW:=Q0 hW
 have HX:=Q0 hX
 have b8:=Q0 U
 have HN:=Q0 J
 have HK:=Q0 (fun W (u:Below w1.heap.size w1 W)=>And.intro ((u.cell (V6 w1 _ E)).trans E) ((u.cell (V6 w1 _ N)).trans N))
 obtain⟨pl,a3⟩:=exq ps.length
 rw[a3]at C
 rw[a3]at HC
 have c5:pl<=100000:=C
 have c3: -1099511627776<=la/\la<=1099511627776:=by omega
 clear y hF U hX D a1 a8 hW J b5 b2 C E N a6 a3
 go_enter func73,ntmps73
 go_upto_region 1 with fail
 try rw[a2]
 try rw[eX]
 clear a2 eX
 have b0:=HK.out w1.drew (J3 (Q2 _ _))
 refine CH 15 (fun W=>W.cell? ⟨R,7,none⟩=some (.slice AL Z c)/\W.cell? ⟨R,4,none⟩=some (I O la)) (by kernel_rfl) b0 (fun hS=> ?_)
 refine tT 0 (IP (some ⟨R,0,none⟩)) ?_
 refine tT 1 (IP (some ⟨R,0,none⟩)) ?_
 refine tT 2 (IP (some ⟨R,7,none⟩)) ?_
 refine tT 3 (IP (some ⟨R,7,none⟩)) ?_
 refine tT 4 (.slice AL Z c) ?_
 refine tT 5 (IP (some ⟨R,0,none⟩)) ?_
 refine tT 6 (IP (some ⟨R,0,none⟩)) ?_
 refine tT 7 (IP (some ⟨R,4,none⟩)) ?_
 refine tT 8 (I O la) ?_
 refine tT 10 (IP (some ⟨R,0,none⟩)) ?_
 refine tT 11 (IP (some ⟨R,0,none⟩)) ?_
 refine tT 12 (IP (some ⟨R,4,none⟩)) ?_
 refine tT 13 (I O la) ?_
 refine Y8 9 (by kernel_rfl) rfl (fun K1 j=> ?_)
 go_simp
 refine(HC _ (J3 (Q2 _ _))).mono ?_
 rintro ev w2 ⟨b9,A2,c2,rfl,a9⟩
 have a5:=Q0 ((J3 (Q2 w1.heap.size w1)).trans b9)
 refine j _ _ (HK _ a5) (fun hS=> ?_)
 clear j hS b0
 try simp only[Act.put,List.setIfInBounds_toArray,List.set_cons_zero,List.set_cons_succ]
 have a7:V4 w2 X8 3 A2 pl ps:=VV E6 (by omega) a9
 have v:=Qc1 A2 pl c2 la c3 ps w2 a7 HN c5
 rw[HW.out]at v
 obtain⟨⟨t0,t1,t2⟩,ht⟩: ∃q,P5 m=q:=⟨_,rfl⟩
 rw[ht]at v
 have HT:=Q0 ht
 unfold QX at v
 dsimp only at v
 have b1:=Q0 v
 clear v ht a7 a9 HW HN
 refine Y8 14 (by kernel_rfl) rfl (fun K1 j=> ?_)
 go_simp
 refine b1.mono ?_
 rintro ev w3 ⟨rfl,c6⟩
 have a4:=Q0 (a5.trans (c6.mono a5.size))
 refine j _ _ (HK _ a4) (fun hS=> ?_)
 clear j hS b1
 try simp only[Act.put,List.setIfInBounds_toArray,List.set_cons_zero,List.set_cons_succ]
 have i:=J4 HX a4
 have f0:=J1 i 0
 have f1:=J1 i 1
 have f2:=J1 i 2
 obtain⟨z0,z1,z2⟩:w3.cell? ⟨X,0,none⟩=some (I O 0)/\w3.cell? ⟨X,1,none⟩=some (I O 0)/\w3.cell? ⟨X,2,none⟩=some (I O 0):=⟨by rw[J0 i];rfl,by rw[J0 i];rfl,by rw[J0 i];rfl⟩
 have c1:=Q0 i
 clear i
 refine YY (by kernel_rfl) rfl (fun K1 j=> ?_)
 go_simp
 refine j _ _ (YU (by kernel_rfl) ?_ _)
 clear j z0 z1 z2 f0 f1 f2
 go_wp2_with fail
 refine Qn1 (g:=X) (cs:= #[I O t0,I O t1,I O t2]) (by with_unfolding_all rfl) (by with_unfolding_all rfl) (J7 (J7 (J7 c1 0 _) 1 _) 2 _) rfl ?_
 refine⟨by rw[HT.out];rfl, ?_⟩
 have u:=b8.trans (a4.mono b8.size)
 exact((u.setCell a0 _).setCell a0 _).setCell a0 _
theorem Qn2 (h:D7 w R F m) (a2:1<=m.la/\m.la<=1000000):Calls prog 31 #[IP (some ⟨R,0,none⟩)] w fun N w'=>N= .returned (QX (NT m))/\Below w.heap.size w w':=by
 have y:Below w.heap.size w (w.alloc (.cells #[I O 0,I O 0,I O 0] 83)):=(Q2 _ w).alloc (Q4 _) _
 have i:=J9 w 83 #[I O 0,I O 0,I O 0]
 obtain⟨w1,D⟩:=exq (w.alloc (.cells #[I O 0,I O 0,I O 0] 83))
 obtain⟨X,C⟩:=exq w.heap.size
 rw[D]at y i
 rw[C]at i
 have u:w.heap.size<=X:=YZ C
 have h1:=h.below y
 have v:=Q0 (Ue h1 a2)
 obtain⟨cs,T,tc,AL,Ap,pc,Ai,ic,own,L,J,hF⟩:=h1
 have a6:=J.cell J.rc.c10
 have E:=Q0 (Th m.ph w1)
 have HX:=Q0 i
 have Z:=Q0 y
 have f0:=J1 i 0
 have f1:=J1 i 1
 have f2:=J1 i 2
 obtain⟨z0,z1,z2⟩:w1.cell? ⟨X,0,none⟩=some (I O 0)/\w1.cell? ⟨X,1,none⟩=some (I O 0)/\w1.cell? ⟨X,2,none⟩=some (I O 0):=⟨by rw[J0 i];rfl,by rw[J0 i];rfl,by rw[J0 i];rfl⟩
 clear J hF y i h a2
 obtain⟨ab,U⟩:=exq (GC m.ph)
 rw[U]at E
 have a1:=Q0 U
 clear U
 go_enter func31,ntmps31
 go_upto_region 1 with fail
 try rw[D]
 try rw[C]
 clear D C
 go_wp2_with fail
 refine E.mono ?_
 rintro N wa ⟨rfl,rfl⟩
 cases ab with
 |false=>
  go_wp2_with fail
  have a5:=J7 (J7 (J7 HX 0 (I O 0)) 1 (I O 0)) 2 (I O 0);refine Ft (g:=X) (cs:= #[I O 0,I O 0,I O 0]) (by with_unfolding_all rfl) (by with_unfolding_all rfl) a5 rfl ?_;refine⟨?_,((Z.setCell u _).setCell u _).setCell u _⟩;unfold NT;rw[a1.out]
  rfl
 |true=>
  clear z0 z1 z2 f0 f1 f2 E;obtain⟨⟨t0,t1,t2⟩,ht⟩: ∃q,P5 m=q:=⟨_,rfl⟩;have HT:=Q0 ht;rw[ht]at v;unfold QX at v;dsimp only at v;clear ht;go_wp2_with fail
  refine v.mono ?_;rintro N w3 ⟨rfl,a0⟩;have j:=J4 HX a0;have f0:=J1 j 0;have f1:=J1 j 1;have f2:=J1 j 2;obtain⟨z0,z1,z2⟩:w3.cell? ⟨X,0,none⟩=some (I O 0)/\w3.cell? ⟨X,1,none⟩=some (I O 0)/\w3.cell? ⟨X,2,none⟩=some (I O 0):=⟨by rw[J0 j];rfl,by rw[J0 j];rfl,by rw[J0 j];rfl⟩;have a3:=Q0 j;have a4:=Q0 (Z.trans (a0.mono Z.size));clear j a0 v;go_wp2_with fail
  refine Ft (g:=X) (cs:= #[I O t0,I O t1,I O t2]) (by with_unfolding_all rfl) (by with_unfolding_all rfl) (J7 (J7 (J7 a3 0 _) 1 _) 2 _) rfl ?_;refine⟨?_,((a4.setCell u _).setCell u _).setCell u _⟩;unfold NT;rw[a1.out,Q5 rfl,HT.out]
  rfl
theorem Vd (h:D7 w R F m) (U: -1000000000000<=m.now/\m.now<=1000000000000) (ht:0<=m.tk/\m.tk<=1000000):Calls prog 63 #[IP (some ⟨R,0,none⟩)] w fun C w'=>C= .returned (.tuple #[])/\C9 w w' R F (VX m):=by
 obtain⟨cs,T,tc,AL,Ap,pc,Ai,ic,own,L,i,j⟩:=h
 have c5:=i.cell i.rc.c5
 have a7:=i.cell i.rc.c11
 have a4:=i.cell i.rc.c10
 have a1:=i.cell i.rc.c12
 have a6:=i.cell i.rc.c13
 have a3:=i.frozen 10
 have a2:=i.frozen 12
 have a5:=i.frozen 13
 have i1:RowKit.wrap64 (m.now+m.tk)=m.now+m.tk:=by unfold RowKit.wrap64;omega
 have N:=Q0 i
 have J:=Q0 j
 clear i j U ht
 go_enter func63,ntmps63
 go_region
 go_wp2
 refine BP (KW rfl _ _ _) rfl ?_
 obtain⟨v,Z⟩:=N.setPh 4
 obtain⟨a0,D⟩:=v.setEnds (m.now+m.tk)
 obtain⟨E,y⟩:=a0.setLng 0
 have u:=J3 (Q2 (((w.setCell ⟨R,10,none⟩ (I O 4)).setCell ⟨R,12,none⟩ (I O (m.now+m.tk))).setCell ⟨R,13,none⟩ (I O 0)).heap.size (((w.setCell ⟨R,10,none⟩ (I O 4)).setCell ⟨R,12,none⟩ (I O (m.now+m.tk))).setCell ⟨R,13,none⟩ (I O 0)))
 exact⟨rfl,V8.to_ (m:=VX m) (E.below u) (((Z.trans D).trans y).trans (F8 u)) J⟩
theorem Qw0 (h:D7 w R F m):Calls prog 26 #[IP (some ⟨R,0,none⟩)] w fun D w'=>D= .returned (I O (AU m))/\C9 w w' R F (XY m):=by
 have HS:=Q0 (DE h (Q2 _ w))
 obtain⟨cs,T,tc,AL,Ap,pc,Ai,ic,own,L,v,C⟩:=h
 have c:=v.cell v.rc.c10
 have f:=v.frozen 10
 have N:=Q0 v
 have J:=Q0 C
 clear v C
 obtain⟨p,hp⟩:=exq m.ph
 rw[hp]at c
 have y:=Q0 hp
 clear hp
 by_cases j:p=6
 ·have d:=Z0 j
  have i:Hid (AU m=6/\XY m=m):=Q0 (by unfold AU XY;rw[y.out,Q5 (.inl j),Q5 (.inl j)];exact⟨rfl,rfl⟩);clear j;rw[i.1,i.2];go_enter func26,ntmps26
  go_wp2;go_ret;exact⟨rfl,HS⟩
 have d:=X3 j
 by_cases u:p=7
 ·have E:=Z0 u
  have i:Hid (AU m=6/\XY m=m):=Q0 (by unfold AU XY;rw[y.out,Q5 (.inr u),Q5 (.inr u)];exact⟨rfl,rfl⟩);clear j u;rw[i.1,i.2];go_enter func26,ntmps26
  go_wp2;go_ret;exact⟨rfl,HS⟩
 have E:=X3 u
 have i:Hid (AU m=0/\XY m= {m with ph:=6}):=Q0 (by unfold AU XY;rw[y.out,Q3 (by omega),Q3 (by omega)];exact⟨rfl,rfl⟩)
 clear j u
 rw[i.1,i.2]
 go_enter func26,ntmps26
 go_wp2
 go_ret
 obtain⟨Z,U⟩:=N.setPh 6
 exact⟨rfl,Z.to_ U J⟩
end
theorem Qw1 {L o} (h:L.length<=100):(YE L o).length<=100:=by
 unfold YE
 by_cases i:JT L o=0
 ·rw[Q5 i,Y9,YL]
  have: ¬100<=L.length:=fun h2=>by
   unfold JT at i
   by_cases h1:XW o=false
   ·rw[Q5 h1]at i;cases i
   rw[Q3 h1]at i
   by_cases j:JH o=false
   ·rw[Q5 j]at i;cases i
   rw[Q3 j]at i
   by_cases u:(Y0 L o.id).isSome=true
   ·rw[Q5 u]at i;cases i
   rw[Q3 u,Q5 h2]at i;cases i
  omega
 rw[Q3 i];exact h
def Rv (w1 w:World) (R:Nat) (T:Option Addr) (tc:Nat) (Ap:Option Addr) (pc:Nat) (Ai:Option Addr) (ic:Nat) (own:Nat->Nat->Prop) (m:X7):Prop:= ∃cs AL own' L,V8 w R cs T tc AL Ap pc Ai ic own' m L/\Z8 w1 w own own'
section
variable {w:World} {R:Nat} {F:Nat->Prop} {m:X7} {cs:Array Value} {T:Option Addr} {tc:Nat} {AL Ap:Option Addr} {pc:Nat} {Ai:Option Addr} {ic:Nat} {own:Nat->Nat->Prop} {L:List Q8}
theorem Am (h:V8 w R cs T tc AL Ap pc Ai ic own m L) o (u:R9 o):
  Calls prog 59 #[IP (some ⟨R,7,none⟩),X5 o] w fun i w'=>i= .returned (I O (JT L o))/\Rv w w' R T tc Ap pc Ai ic own (M6 m o):=by
 refine(Jc4 w R _ cs 7 AL L h.bk (by have:=h.few;omega) o).mono ?_
 rintro i w' ⟨rfl,ht⟩
 obtain⟨e,v⟩:=Jd4 h.twin (h.twin.lists h.few) u
 obtain⟨y,D,own',j,C⟩:=h.bookTo ht v (Qw1 h.few)
 exact⟨rfl,y,D,own',_,j,C⟩
theorem Dy (h:D7 w R F m) (b2: ∀o∈m.pk,R9 o) (c2:m.pk.length<=100000):
  Calls prog 72 #[IP (some ⟨R,0,none⟩)] w fun ev w'=>ev= .returned (.tuple #[])/\C9 w w' R F (ZR m):=by
 obtain⟨cs,T,tc,AL,Ap,pc,Ai,ic,own,L,j,hF⟩:=h
 obtain⟨y,a7⟩:=j.setPh 5
 have c5:=j.cell j.rc.c10
 have d3:=j.frozen 10
 have c8:=y.cell y.rc.c8
 have a9:=Q0 y
 have a8:=Q0 a7
 have HF:=Q0 hF
 have b9:=Q0 b2
 obtain⟨n,D⟩:=exq m.pk.length
 have HN:=Q0 D
 rw[D]at c2
 have e8:({m with ph:=5}:X7).pk.length=n:=D
 rw[e8]at c8
 clear j y a7 hF b2 e8 D
 go_enter func72,ntmps72
 go_upto_region 1 with fail
 obtain⟨w1,a5⟩:=exq (w.setCell ⟨R,10,none⟩ (I O 5))
 rw[a5]at c8 a9 a8|-
 clear a5 c5 d3
 go_wp2_with fail
 go_loopg [12] n (fun gg c4 wr=> ∃k,k<=n/\gg=n-k/\c4=I O k/\Hid (Rv w1 wr R T tc Ap pc Ai ic own (L3 {m with ph:=5} (m.pk.take k))))
 case atStart=>exact⟨0,V5 _,rfl,rfl,Q0 ⟨_,_,_,_,a9,F8 (Q2 _ _)⟩⟩
 obtain⟨k,hk,rfl,rfl,HL⟩:=hrel
 obtain⟨d7,d9,c3,L1,b1,a6⟩:=HL.out
 have i:=Q0 b1
 have HOr:=Q0 a6
 clear b1 a6 HL
 by_cases c9:k<n
 ·have U:k<m.pk.length:=by rw[HN.out];exact c9
  have C:=i.park;rw[La]at C;obtain⟨gp,c1⟩:=QC C (by show 0<m.pk.length;omega);subst c1;obtain⟨y0,y1,y2,y3,y4⟩:=BZ C U;have a0:=b9.out _ (Y1 U);have E:m.pk.take (k+1)=m.pk.take k++ [m.pk[k]]:=M8 U;obtain⟨x,hx⟩:=exq (m.pk[k]);rw[hx]at y0 y1 y2 y3 y4 a0 E;have d2:=Q0 E;have d4:(k:Int)< (n:Int):=by omega
  have e1:(0:Int)<=(k:Int):=by omega
  have u:Below wr.heap.size wr (wr.alloc (.cells #[I O x.id,I O x.side,I O x.kind,I O x.price,I O x.qty] 29)):=(Q2 _ wr).alloc (Q4 _) _;have v:=J9 wr 29 #[I O x.id,I O x.side,I O x.kind,I O x.price,I O x.qty];have a1:=i.below u;obtain⟨wz,a2⟩:=exq (wr.alloc (.cells #[I O x.id,I O x.side,I O x.kind,I O x.price,I O x.qty] 29));rw[a2]at u v a1;obtain⟨Z,eZ⟩:=exq wr.heap.size;rw[eZ]at v;have c6:Hid (¬ ∃k,c3 Z k):=Q0 (fun⟨k,hk⟩=>by have:=i.ok.lt Z k hk;omega);have J:=Q0 (Am (a1.below (J3 (Q2 _ wz))) x a0);unfold X5 at J;obtain⟨re,b0⟩:=exq (JT L1 x);rw[b0]at J;have d0:=Q0 u;have HZ:=Q0 v;clear E hx a0 C u v a1 b0;go_upto_region 4 with fail
  try rw[a2]
  try rw[eZ]
  clear a2 eZ y0 y1 y2 y3 y4;obtain⟨z0,z1,z2,z3,z4⟩:=A5 (Z2 HZ);refine XF (fun t=> [].contains t) (fun W=>W.cell? ⟨Z,0,none⟩=some (I O x.id)/\W.cell? ⟨Z,1,none⟩=some (I O x.side)/\W.cell? ⟨Z,2,none⟩=some (I O x.kind)/\W.cell? ⟨Z,3,none⟩=some (I O x.price)/\W.cell? ⟨Z,4,none⟩=some (I O x.qty)) (by kernel_rfl) ⟨z0,z1,z2,z3,z4⟩ (fun d1=> ?_);refine tM 0 (IP (some ⟨R,0,none⟩)) ?_;refine tM 1 (IP (some ⟨R,0,none⟩)) ?_;refine tM 2 (IP (some ⟨R,7,none⟩)) ?_;refine tM 3 (.agg #[I O x.id,I O x.side,I O x.kind,I O x.price,I O x.qty]) ?_;refine oM 4 fun K1 a3=> ?_
  go_simp;refine J.mono ?_;rintro ev w4 ⟨rfl,e3,d5,e2,L4,a4,N⟩;refine a3 _ _ (fun _=>A5 (X0 (Z2 HZ) N.1 c6)) ?_;have b8:=Q0 a4;have c0:=Q0 N;clear a4 N z0 z1 z2 z3 z4 a3 d1;refine D5 (by kernel_rfl) ?_ _;go_wp2_with fail
  go_roundg (n- (k+1))
  case measure=>omega
  exact⟨k+1,by omega,rfl,by go_num,Q0 ⟨_,_,_,_,by rw[d2.out,Dq];exact b8,((HOr.trans (F8 d0)).trans (F8 (J3 (Q2 _ _)))).trans c0⟩⟩
 obtain rfl:k=n:=by omega
 have d4: ¬(k:Int)< (k:Int):=by omega
 have d8:=i.cell i.rc.c8
 have g8:=i.frozen 8
 go_wp2_with fail
 refine BP (KW rfl _ _ _) rfl ?_
 obtain⟨d6,b5,c7⟩:=i.pkNil
 rw[N7 (by rw[HN.out];exact Q4 _)]at b5
 exact⟨rfl,V8.to_ (m:=ZR m) b5 ((a8.trans HOr).trans c7) HF⟩
theorem Uf (h:V8 w R cs T tc AL Ap pc Ai ic own m L) (i:KD m.rows) t W (u:Below w.heap.size w W) {a b} (hp:phAt m.rows t m.rows.length=(a,b)):
  Calls prog 70 #[.slice T m.rows.length tc,I O t] W fun j w'=>j= .returned (.tuple #[I O a,I O b])/\Below W.heap.size W w':=by
 refine(Qh2 T m.rows.length tc m.rows t W (h.below u).tabp i.1 (by have:=i.2.1;omega)).mono ?_
 rintro j w' ⟨k,hk,rfl,v⟩
 rw[<-hk.phAt i,hp]
 exact⟨rfl,v⟩
end
theorem T9 {w w' p v} (h:w.cell? p=some v) (i:Below w.heap.size w w'):w'.cell? p=some v:=(i.cell (V6 w _ h)).trans h
theorem C9.pre {w w1 w' R F m} (i:Below w.heap.size w w1) (h:C9 w1 w' R F m):C9 w w' R F m:=by
 obtain⟨F',h1,h2⟩:=h
 exact⟨F',h1,(C1 i).trans h2⟩
theorem C9.from_ {w w1 w' R F F1 m} (i:Z3 w w1 F F1) (h:C9 w1 w' R F1 m):C9 w w' R F m:=by
 obtain⟨F',h1,h2⟩:=h
 exact⟨F',h1,i.trans h2⟩
abbrev NZ:=@C9.from_
theorem D7.setPh {w R F m} (h:D7 w R F m) v:C9 w (w.setCell ⟨R,10,none⟩ (I O v)) R F {m with ph:=v}/\(∃u,w.cell? ⟨R,10,none⟩=some u)/\w.frozen? ⟨R,10,none⟩=false:=by
 obtain⟨cs,T,tc,AL,Ap,pc,Ai,ic,own,L,i,j⟩:=h
 obtain⟨h1,h2⟩:=i.setPh v
 exact⟨h1.to_ h2 j,⟨_,i.cell i.rc.c10⟩,i.frozen 10⟩
theorem Qw2 {w R F m} (h:D7 w R F m) (hT:KD m.rows) (hI:VD m):
  Calls prog 28 #[IP (some ⟨R,0,none⟩)] w fun ev w'=>ev= .returned (I O (EJ m))/\C9 w w' R F (QR m):=by
 have hE:=h
 obtain⟨cs,T,tc,AL,Ap,pc,Ai,ic,own,L,j,hF⟩:=h
 have a6:=j.cell j.rc.c10
 have HE:=Q0 hE
 by_cases u:m.ph=6
 ·have d6:=JW u
  obtain⟨⟨i,a2⟩,ha⟩: ∃q,phAt m.rows m.now m.rows.length=q:=⟨_,rfl⟩;have U:=Q0 (fun W hW=>Uf j hT m.now W hW ha);obtain⟨SM,a4⟩:=exq (QR m);have y:Hid (EJ m=0/\SM=if i=3 then VX m else if i=5 then ZR m else {m with ph:=i}):=by
   refine Q0 ⟨by unfold EJ;rw[Q5 u], ?_⟩;rw[<-a4];unfold QR C8;rw[Q5 u,ha]
  rw[y.1,a4];clear a4;have c0:=j.cell j.rc.c0;have a3:=j.cell j.rc.c11;have HI:=Q0 hI;obtain⟨nw,a9⟩:=exq m.now;rw[a9]at a3 U;obtain⟨ph,J⟩:=exq m.ph;rw[J]at a6 d6;obtain⟨tn,b0⟩:=exq m.rows.length;rw[b0]at c0 U;clear u hE j hF hI J ha a9 hT b0;go_enter func28,ntmps28
  go_upto_region 3 with fail
  refine XF (fun t=> [].contains t) (fun W=>W.cell? ⟨R,0,none⟩=some (.slice T tn tc)/\W.cell? ⟨R,11,none⟩=some (I O nw)) (by kernel_rfl) ⟨c0,a3⟩ (fun E=> ?_);refine tM 0 (IP (some ⟨R,0,none⟩)) ?_;refine tM 1 (IP (some ⟨R,0,none⟩)) ?_;refine tM 2 (IP (some ⟨R,0,none⟩)) ?_;refine tM 3 (.slice T tn tc) ?_;refine tM 4 (IP (some ⟨R,0,none⟩)) ?_;refine tM 5 (IP (some ⟨R,0,none⟩)) ?_;refine tM 6 (IP (some ⟨R,11,none⟩)) ?_;refine tM 7 (I O nw) ?_;refine oM 8 fun K9 a8=> ?_
  go_simp;refine(U w.drew (J3 (Q2 _ _))).mono ?_;rintro ev w3 ⟨rfl,C⟩;refine a8 _ _ (fun _=>⟨T9 E.1 C,T9 E.2 C⟩) ?_;have b5:=And.intro (T9 E.1 C) (T9 E.2 C);clear a8 E;refine tM 9 (.tuple #[I O i,I O a2]) ?_;refine tM 10 (I O i) ?_;refine tM 11 (I O a2) ?_;refine tM 12 (I O i) ?_;refine tM 13 (I O a2) ?_;refine D5 (by kernel_rfl) ?_ _;have Z:Below w.heap.size w w3:=(J3 (Q2 _ w)).trans C;have a7:=Q0 (HE.below Z);have a5:=Q0 Z;have b1:=(HE.below Z).setPh i;have b2:=Q0 b1.1;obtain⟨-,⟨x0,x1⟩,x2⟩:=b1;clear c0 a6 a3 b5 C Z U HE
  by_cases v:i=3
  ·have e3:=Z0 v
   have HS:Hid (SM=VX m):=Q0 (y.2.trans (Q5 v));clear v;go_wp2_with fail
   refine(Vd a7 (by have:=HI.now;omega) HI.tk).mono ?_;rintro ev w4 ⟨rfl,N⟩;have a0:=Q0 N;clear N x1 x2;go_wp2_with fail
   go_ret;rw[HS.out];exact⟨rfl,C9.pre a5 a0⟩
  have e3:=X3 v
  by_cases D:i=5
  ·have e5:=Z0 D
   have HS:Hid (SM=ZR m):=Q0 (y.2.trans ((Q3 v).trans (Q5 D)));clear v D;go_wp2_with fail
   refine(Dy a7 HI.pk HI.pkn).mono ?_;rintro ev w4 ⟨rfl,N⟩;have a0:=Q0 N;clear N x1 x2;go_wp2_with fail
   go_ret;rw[HS.out];exact⟨rfl,C9.pre a5 a0⟩
  have e5:=X3 D;have HS:Hid (SM= {m with ph:=i}):=Q0 (y.2.trans ((Q3 v).trans (Q3 D)));clear v D;go_wp2_with fail
  go_ret;rw[HS.out];exact⟨rfl,C9.pre a5 b2⟩
 have d6:=JF u
 have y:Hid (EJ m=6/\QR m=m):=Q0 ⟨by unfold EJ;rw[Q3 u],by unfold QR;rw[Q3 u]⟩
 rw[y.1,y.2]
 obtain⟨ph,J⟩:=exq m.ph
 rw[J]at a6 d6
 clear u hE j hF hI J hT
 go_enter func28,ntmps28
 go_wp2
 go_ret
 exact⟨rfl,DE HE (Q2 _ _)⟩
