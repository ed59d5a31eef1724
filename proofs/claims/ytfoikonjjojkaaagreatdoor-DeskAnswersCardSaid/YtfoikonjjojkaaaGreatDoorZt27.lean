/- Parts. -/
import Derived.Test.YtfoikonjjojkaaaGreatDoorZt21
import Derived.Test.YtfoikonjjojkaaaGreatDoorZtK
set_option linter.unusedVariables false
set_option maxRecDepth 100000
set_option maxHeartbeats 8000000
open Go.Proofs.Tryz
open Go.Value renaming int→I,pointer→IP
open Go.IntKind renaming i64→O
namespace Go.Proofs.YtfoikonjjojkaaaGreatDoor
open Go.RowKit
section
open Go.Proofs Go.Shelf Go.Sort
theorem X4.of_grown{w w' row}(h:w.grownBy w' row):X4 (fun i=>row=some i) w w':=⟨h.os,h.tape,h.output,h.size,fun k hk j=>h.block k hk (fun e=>j e.symm)⟩
theorem Qo8 A n c(S:List Int)w(h:X8 w A n c 3 1 (S.map (Value.int .i64)))(hn:n<=1000000):Calls prog 219 #[.slice A n c] w fun e w'=>e=.returned (.tuple #[])/\X8 w' A n c 3 1 ((S.mergeSort fun x y=>decide (x<=y)).map (Value.int .i64))/\X4 (fun i=>X5 A=some i) w w':=by
 have j:S.length=n:=by have:=h.1;simpa using this
 rcases h.2 with⟨C,D⟩|⟨g,cap,a0,C,h1,h2,h3,E,h5,J⟩
 ·subst D
  obtain rfl:S=[]:=EB j;refine(AnyM.slices_Sort_int_none sortA A c w).mono ?_;rintro e w'⟨rfl,rfl⟩;exact⟨rfl,by simpa using h,BG _ _⟩
 cases C;have N:Holds (Value.int .i64) w g 0 S.toArray:=holds_of_blockI h2 (by rw[j];simpa using J);have Z:g<(zS w):=by
  obtain h|h:=FT g (zS w)
  ·exact h
  rw[Array.getElem?_eq_none h]at h2;cases h2
 have u:=AnyM.slices_Sort_int sortA g 0 c S w N Z Q0;rw[j]at u;refine u.mono ?_;rintro e w'⟨rfl,q,os,rfl⟩;refine⟨rfl,?_,X4.of_grown (grownBy_sortedI _)⟩;have:=ownsRow_sortedI (n:=q) (os:=os) (ss:=S) (ts:=S.mergeSort fun x y=>decide (x<=y)) Q3 (U9 _) h2 Q0 E Q0;rw[j]at this;exact this
theorem Qt3 A n c(S:List Int)w(h:X8 w A n c 3 1 (S.map (Value.int .i64)))(C:n<=1000000):Calls prog 179 #[.slice A n c] w fun e w'=>e=.returned (.tuple #[])/\X8 w' A n c 3 1 ((S.mergeSort fun x y=>decide (x<=y)).map (Value.int .i64))/\X4 (fun i=>X5 A=some i) w w':=by
 have u:=J6 (Qo8 A n c S w h C);clear h;go_enter func179,ntmps179
 go_wp2_with fail
 refine u.mono ?_;rintro e w'⟨rfl,h1,h2⟩;have j:=J6 h1;clear h1;go_wp2_with fail
 go_end0
 exact⟨rfl,j,h2⟩
end
theorem Tt x j u w:Calls prog 37 #[I O x,I O j,I O u] w fun e w'=>e=.returned (.bool (decide (j<=x) &&decide (x<=u)))/\w=w':=by
 by_cases h1:j<=x
 ·have i:=V7 h1
  go_enter func37,ntmps37
  go_wp2;go_ret;exact⟨JH (by rw[i];rfl),rfl⟩
 have i:=V9 h1;go_enter func37,ntmps37
 go_wp2;go_ret;exact⟨JH (by first|rfl|(rw[i];rfl)),rfl⟩
theorem Qg3 o w:Calls prog 178 #[V6 o] w fun e w'=>e=.returned (.bool (XE o))/\Bz w w':=by
 unfold V6;obtain⟨j,i,u⟩:=Xt7 (show Bz w (w.alloc (.cells #[I O o.id,I O o.side,I O o.kind,I O o.price,I O o.qty] 84))from Q5.alloc Q2 _) (Tt o.side 1 2) (Tt o.qty 1 1000000);have e0:XE o=((decide (1<=o.side) &&decide (o.side<=2)) && (decide (1<=o.qty) &&decide (o.qty<=1000000))):=by unfold XE;rw[Vm];simp;omega
 have E:=J6 e0;clear e0
 cases h1:(decide (1<=o.side) &&decide (o.side<=2))with
 |true=>
  rw[h1]at i E;clear h1;go_enter func178,ntmps178
  go_wp2_with fail
  refine(i _).mono ?_;rintro e w1⟨rfl,rfl⟩;go_wp2_with fail
  refine(u _).mono ?_;rintro e w1⟨rfl,rfl⟩;go_wp2;go_ret;exact⟨JH (by rw[E.out];rfl),j⟩
 |false=>
  rw[h1]at i E;clear h1;go_enter func178,ntmps178
  go_wp2_with fail
  refine(i _).mono ?_;rintro e w1⟨rfl,rfl⟩;go_wp2;go_ret;exact⟨JH (by rw[E.out];rfl),j⟩
theorem Ju8:(prog.info? 3).map (fun i=>(i.zero,i.size,i.bytes))=some (some (I O 0),1,8):=Q4
theorem Ju9:(prog.info? 236).map (fun i=>(i.zero,i.size,i.bytes))=some (some (.agg #[I O 0,I O 0,I O 0]),3,24):=Q4
theorem Jv0{w A n c sz t xs}(h:X8 w A n c t sz xs)(y:0<n):∃g,A=sA g:=by
 rcases h.2 with⟨_,u⟩|⟨g,cap,j,i,_⟩
 ·omega
 cases i;exact⟨g,rfl⟩
theorem Qg4{w g n c t}{S:List Int}(h:X8 w (sA g) n c t 1 (S.map (Value.int .i64))){i}(C:i<S.length):w.cell? (aD g i)=some (.int .i64 S[i]):=by
 obtain⟨D,y,c0⟩:=h.cell (j:=i) (u:=.int .i64 S[i]) (by simp[C])
 cases y;exact c0
theorem Jj6 A n c l more w(h:C0 w U0 5 A n l)(hm:n<=100):Calls prog 128 #[.slice A n c,.int .i64 more] w fun e w'=>Bz w w'/\∃A' c',e=.returned (.slice A' (QJ l more).length c')/\X8 w' A' (QJ l more).length c' 236 3 (X7 Y8 (QJ l more)):=by
 have HH:=J6 h;have hl:=h.1;have HL:=J6 hl;obtain⟨ii,h4,h7,h8,h9⟩:=W8 Ju8;clear h hl;go_enter func128,ntmps128
 go_upto_if 16 with(fail)
 go_cut [5] (fun s5 wx=>∃D n5 c5,s5=.slice D n5 c5/\n5<=1/\Bz w wx/\X8 wx D n5 c5 3 1 ((R8 [] more).map (Value.int .i64))/\(∀g,X5 D=some g->w.heap.size<=g))
 case first=>
  by_cases h1:0<more
  ·have d1:=V7 h1
   have HE:Hid (R8 [] more=[more]):=J6 (by unfold R8;rw[X0 Q0];rfl);go_wp2_with (at_builtin;refine VZ _ rfl _ _ 54 rfl w.heap.size 3 ii _ 1 8 underlying54 h4 h7 h8 h9 rfl Q0 (.slice none 0 0) 0 [] rfl (QY _ _ _ _) ⟨w.heap.size,0,none⟩ 1 1 [.int .i64 more] rfl rfl (XF (cs:= #[.int .i64 more]) (t:=3) (fr:=(0,0)) (QN w _)) J0 Q0 Q9 Q0 Q3 (w.heap.size+1) Q3 ?_;intro gg cap w3 d3 c8 a9 i3)
   go_meet;refine⟨some ⟨gg,0,none⟩,1,cap,rfl,X3 _,((J9 _ w).alloc Q2 _).grown c8 Q3 (fun q hq=>by cases hq),?_,?_⟩
   ·rw[HE.out];exact Ct d3
   intro x hx
   cases hx;obtain h1|h1:=a9
   ·cases h1
   show w.heap.size<=gg;omega
  have d1:=V9 h1;have h2:more<=0:=Q0;have HE:Hid (R8 [] more=[]):=J6 (by unfold R8;rw[J8 Q0];rfl);go_wp2;go_meet;exact⟨none,0,0,rfl,Q0,J9 _ _,by rw[HE.out];exact QY _ _ _ _,by simp[X5]⟩
 obtain⟨i8,l9,k4,rfl,l1,g3,g7,i6⟩:=hcut;obtain⟨i9,j7,k2⟩:=Xt7 g3 g7 i6;clear g3 g7 i6;go_wp2_with fail
 go_loopg [5,23] n (fun gg s5 m0 wx=>∃k D n5 c5,k<=n/\gg=n-k/\m0=.int .i64 k/\s5=.slice D n5 c5/\n5<=k+1/\Bz w wx/\X8 wx D n5 c5 3 1 ((R8 (l.take k) more).map (Value.int .i64))/\(∀g,X5 D=some g->w.heap.size<=g))
 case atStart=>exact⟨0,i8,l9,k4,U9 _,rfl,rfl,rfl,l1,i9,j7,k2⟩
 obtain⟨k,D,n5,c5,hk,rfl,rfl,rfl,n8,u,b5,e4⟩:=hrel
 by_cases n4:k<n
 ·have i1:k<l.length:=by have:=HL.out;omega
  obtain⟨b,a2,hA⟩:∃b a2,A=some ⟨b,a2,none⟩:=by obtain⟨b,a2,h1,_⟩:=HH.2 Q0;exact⟨b,a2,h1⟩
  subst hA;obtain⟨x0,x1,x2,x3,x4⟩:=ML (HH.below u Q2) i1;have k7:(k:Int)<(n:Int):=Q0;have m8:(0:Int)<=(k:Int):=Q0;have HT:=J6 (M9 i1);obtain⟨o,E⟩:∃o,Hid (l[k]=o):=⟨_,J6 rfl⟩;rw[E.out]at x0 x1 x2 x3 x4 HT;have d8:=J6 (Qp7 (l.take k) o more);rw[<-HT.out]at d8;have a8:Bz wr (wr.alloc (.cells #[.int .i64 o.id,.int .i64 o.side,.int .i64 o.kind,.int .i64 o.price,.int .i64 o.qty] 84)):=Q5.alloc Q2 _;obtain⟨HX,HB,j8⟩:=Xt7 (Z5 wr 84 (Z8 o)) (u.trans (a8.mono u.size)) (b5.below a8);have o8:=u.size;obtain⟨b2,HC⟩:=Xt6 e4 (Qg3 o (wr.alloc (.cells #[.int .i64 o.id,.int .i64 o.side,.int .i64 o.kind,.int .i64 o.price,.int .i64 o.qty] 84)));have o3:some wr.heap.size≠(Value.slice D n5 c5).ownBlock:=by rw[C8];intro e;have:=b5.lt e.symm;omega
  clear u b5 e4 a8;go_wp2_with fail
  refine HC.mono ?_;rintro e w2⟨rfl,b0⟩;obtain⟨y0,y1,y2,y3,y4⟩:=D7 (Z4 HX b0);obtain⟨d4,e8⟩:=Xt6 (HB.trans (b0.mono Q7)) (j8.below b0);have i4:=d4.size;clear x0 x1 x2 x3 x4 HC
  cases J:XE o with
  |false=>
   have HP:Hid (R8 (l.take (k+1)) more=R8 (l.take k) more):=J6 (by rw[d8.out,J8 (by rw[J];simp)];simp);clear J;go_wp2
   go_roundg (n-(k+1))
   case measure=>omega
   exact⟨k+1,D,n5,c5,Q0,rfl,J5,rfl,Q0,d4,by rw[HP.out];exact e8,b2⟩
  |true=>
   by_cases C:o.kind=2
   ·have d2:=KN C
    have HP:Hid (R8 (l.take (k+1)) more=R8 (l.take k) more):=J6 (by rw[d8.out,J8 (fun h=>h.2 C)];simp);clear J C;go_wp2
    go_roundg (n-(k+1))
    case measure=>omega
    exact⟨k+1,D,n5,c5,Q0,rfl,J5,rfl,Q0,d4,by rw[HP.out];exact e8,b2⟩
   have d2:=XQ C;have HP:Hid (R8 (l.take (k+1)) more=R8 (l.take k) more++[o.price]):=J6 (by rw[d8.out,X0 ⟨J,C⟩]);clear J C;go_wp2_with (at_builtin;refine VZ _ rfl _ _ 54 rfl 0 3 ii _ 1 8 underlying54 h4 h7 h8 h9 rfl Q0 (.slice D n5 c5) n5 _ rfl (e8.alloc _) ⟨w2.heap.size,0,none⟩ 1 1 [.int .i64 o.price] rfl rfl (XF (cs:= #[.int .i64 o.price]) (t:=3) (fr:=(0,0)) (QN w2 _)) J0 Q0 Q9 Q0 Q3 (w2.heap.size+1) Q3 ?_;intro gg cap w3 d3 c8 a9 i3)
   go_roundg (n-(k+1))
   case measure=>omega
   refine⟨k+1,some ⟨gg,0,none⟩,n5+1,cap,Q0,rfl,J5,rfl,Q0,(d4.alloc i4 _).grown c8 Q7 (fun x hx=>b2 x (by rw[<-C8 D n5 c5];exact hx)),?_,?_⟩
   ·rw[HP.out,L6];exact d3
   intro x hx
   cases hx;rw[C8]at a9;obtain h1|h1:=a9
   ·exact b2 _ h1
   show w.heap.size<=gg;omega
 obtain rfl:n=k:=by omega
 have k7:¬(n:Int)<(n:Int):=Q0;have g2:l.take n=l:=M4 (by rw[HL.out];exact X3 _);rw[g2]at b5;have o1:n5<=1000:=Q0;obtain⟨HC,HB,b2⟩:=Xt7 (Qt3 D n5 c5 (R8 l more) wr b5 Q0) u e4;clear b5 u e4 g2;go_wp2_with fail
 refine HC.mono ?_;rintro e w2⟨rfl,d9,hK⟩;have d5:=J6 (HB.trans (hK.below b2 HB.size));have f4:Hid (QJ l more=(dd ((R8 l more).mergeSort fun x y=>decide (x<=y))).map (DD (T6 l))):=J6 rfl;generalize(R8 l more).mergeSort (fun x y=>decide (x<=y))=S at d9 f4;have g8:S.length=n5:=by have:=d9.1;simpa using this
 obtain⟨f9,k0⟩:=Xt6 g8 d9;have l5:=d5.size;clear d9 hK g8 HC;go_wp2_with fail
 go_loopg [9,45] n5 (fun gg s9 m3 wx=>∃i A9 n9 c9,i<=n5/\gg=n5-i/\m3=.int .i64 i/\s9=.slice A9 n9 c9/\n9<=i/\Bz w2 wx/\X8 wx A9 n9 c9 236 3 (X7 Y8 ((dd (S.take i)).map (DD (T6 l))))/\(∀g,X5 A9=some g->w2.heap.size<=g))
 case atStart=>exact⟨0,none,0,0,U9 _,rfl,rfl,rfl,X3 _,J9 _ _,QY _ _ _ _,by simp[X5]⟩
 obtain⟨i,A9,n9,c9,hi,rfl,rfl,rfl,o2,u,b8,i7⟩:=hrel
 by_cases n6:i<n5
 ·have h5:i<S.length:=by have:=f9.out;omega
  have e1:=k0.below u;obtain⟨gv,rfl⟩:=Jv0 e1 Q0;have xv:=Qg4 e1 h5;have k8:(i:Int)<(n5:Int):=Q0;have m9:(0:Int)<=(i:Int):=Q0;have g0:=J6 (M9 h5);obtain⟨p,E⟩:∃p,Hid (S[i]=p):=⟨_,J6 rfl⟩;rw[E.out]at xv g0;have e6:=J6 (Xg7 (S.take i) p);rw[<-g0.out]at e6;obtain⟨a3,d7⟩:∃a3,Hid (a3=decide ((S.take i).getLast?=some p)):=⟨_,J6 rfl⟩;obtain⟨f8,d6,e9,k1⟩:=Xt8 b8 u i7 e1;clear u b8 i7 e1;go_upto_region 16 with fail
  go_cut [60] (fun m4 wx=>m4=.bool a3/\wx=wr)
  case first=>
   by_cases f3:i=0
   ·subst f3
    have g9:a3=false:=by rw[d7.out];simp
    subst g9;go_wp2;go_meet;exact⟨rfl,rfl⟩
   have d0:decide ((0:Int)<(i:Int))=true:=V7 Q0;have h6:i-1<S.length:=Q0;have xw:=Qg4 k1 h6;have ei:(i:Int)-1=((i-1:Nat):Int):=Q0;have n2:(0:Int)<=(i:Int)-1:=Q0;have n3:(i:Int)-1<(n5:Int):=Q0;have ex:((i:Int)-1).toNat=i-1:=Q0;have e2:(S.take i).getLast?=some S[i-1]:=by rw[List.getLast?_eq_getElem?,R7,SW Q0,List.getElem?_take_of_lt Q0,JY h6]
   obtain⟨q,EQ⟩:∃q,Hid (S[i-1]=q):=⟨_,J6 rfl⟩;rw[EQ.out]at xw e2;have h3:a3=(q ==p):=by rw[d7.out,e2];simp[Bool.beq_eq_decide_eq]
   obtain⟨f5,m6⟩:=Xt6 h3 e2;clear e2 h3
   by_cases e3:q=p
   ·have t1:=V4 e3
    have hd:a3=true:=by rw[f5.out,t1]
    subst hd;clear e3;go_wp2;go_meet;exact⟨rfl,rfl⟩
   have t1:=Z3 e3;have hd:a3=false:=by rw[f5.out,t1]
   subst hd;clear e3;go_wp2;go_meet;exact⟨rfl,rfl⟩
  obtain⟨rfl,rfl⟩:=hcut
  cases a3 with
  |true=>
   have e5:Hid (dd (S.take (i+1))=dd (S.take i)):=J6 (by rw[e6.out,X0 (by have:=d7.out;simpa using this.symm)]);go_wp2
   go_roundg (n5-(i+1))
   case measure=>omega
   exact⟨i+1,A9,n9,c9,Q0,rfl,J5,rfl,Q0,d6,by rw[e5.out];exact f8,e9⟩
  |false=>
   have e5:Hid (dd (S.take (i+1))=dd (S.take i)++[p]):=J6 (by rw[e6.out,J8 (by have:=d7.out;simpa using this.symm)]);obtain⟨wq,rfl⟩:∃wq,wq=wc:=⟨_,rfl⟩;have a1:=d6.size;go_wp2_with fail
   go_loopg [65] n (fun gg m5 wx=>∃j d s,j<=n/\gg=n-j/\m5=.int .i64 j/\Bz wq wx/\J7 wx wq.heap.size 236 #[.int .i64 p,.int .i64 d,.int .i64 s]/\Hid (d=XT p (T6 (l.take j))/\s=XW p (T6 (l.take j))))
   case atStart=>exact⟨0,0,0,U9 _,rfl,rfl,Q5.alloc Q2 _,Z5 _ _ _,J6 ⟨rfl,rfl⟩⟩
   obtain⟨j,d,s,hj,rfl,rfl,u,hX,a6⟩:=hrel;have h0:=Nn (p:=p) (Uv (l:=l.take j));have i5:=No (p:=p) (Uv (l:=l.take j));rw[<-a6.1]at h0;rw[<-a6.2]at i5;have k6:(T6 (l.take j)).length<=j:=U4 (NF _ _) (List.length_take_le _ _);obtain⟨g9,k5⟩:=h0;obtain⟨o6,l2⟩:=i5;have m7:d<=100000000:=Q0;have i4:s<=100000000:=Q0;clear k5 l2 k6
   by_cases i3:j<n
   ·have g5:j<l.length:=by have:=HL.out;omega
    obtain⟨b,a2,hA⟩:∃b a2,A=some ⟨b,a2,none⟩:=by obtain⟨b,a2,h1,_⟩:=HH.2 Q0;exact⟨b,a2,h1⟩
    subst hA;have g4:=d5.trans ((d6.trans (u.mono a1)).mono l5);obtain⟨x0,x1,x2,x3,x4⟩:=ML (HH.below g4 Q2) g5;have k9:(j:Int)<(n:Int):=Q0;have n1:(0:Int)<=(j:Int):=Q0;have g1:=J6 (M9 g5);obtain⟨o,E3⟩:∃o,Hid (l[j]=o):=⟨_,J6 rfl⟩;rw[E3.out]at x0 x1 x2 x3 x4 g1;have a8:Bz wr (wr.alloc (.cells #[.int .i64 o.id,.int .i64 o.side,.int .i64 o.kind,.int .i64 o.price,.int .i64 o.qty] 84)):=Q5.alloc Q2 _;obtain⟨k3,j6,j2⟩:=Xt7 (Z4 hX a8) (Z5 wr 84 (Z8 o)) (u.trans (a8.mono u.size));have o9:=u.size;have p0:=Z9 hX;obtain⟨HC,e7⟩:=Xt6 (Qg3 o (wr.alloc (.cells #[.int .i64 o.id,.int .i64 o.side,.int .i64 o.kind,.int .i64 o.price,.int .i64 o.qty] 84))) (Nk (l.take j) o);rw[<-g1.out]at e7;clear hX u a8 g4;go_wp2_with fail
    refine HC.mono ?_;rintro e w5⟨rfl,b0⟩;obtain⟨y0,y1,y2,y3,y4⟩:=D7 (Z4 j6 b0);have b9:=Z4 k3 b0;obtain⟨a7,a5⟩:=Xt6 b9 (j2.trans (b0.mono Q7));have z1:w5.cell? ⟨wq.heap.size,1,none⟩=some (.int .i64 d):=by rw[X9 b9];rfl
    have z2:w5.cell? ⟨wq.heap.size,2,none⟩=some (.int .i64 s):=by rw[X9 b9];rfl
    have f1:=K0 b9 1;have f2:=K0 b9 2;clear x0 x1 x2 x3 x4 HC b9
    cases J:XE o with
    |false=>
     have j4:Hid (T6 (l.take (j+1))=T6 (l.take j)):=J6 (by rw[e7.out,J8 (by rw[J];simp)];simp);clear J;go_wp2
     go_roundg (n-(j+1))
     case measure=>omega
     exact⟨j+1,d,s,Q0,rfl,J5,a5,a7,by rw[j4.out];exact a6⟩
    |true=>
     have hq:=WQ J;obtain⟨o4,o5⟩:=hq;have l4:o.side=1\/o.side=2:=by unfold XE at J;simp at J;exact J.2
     have f6:Hid (T6 (l.take (j+1))=T6 (l.take j)++[o]):=J6 (by rw[e7.out,X0 J]);have Z:Hid (XT p (T6 (l.take (j+1)))=d+KP p o):=J6 (by rw[f6.out,Jk9,<-a6.1]);have a0:Hid (XW p (T6 (l.take (j+1)))=s+KR p o):=J6 (by rw[f6.out,Jl0,<-a6.2]);clear J;obtain N|N:=l4
     ·have t1:=V4 N
      have t3:=Z3 (show¬o.side=2 by omega);have c7:KR p o=0:=by unfold KR;rw[J8 Q0]
      by_cases C:o.kind=2
      ·have t2:=V4 C
       have a4:KP p o=o.qty:=by unfold KP;rw[X0 ⟨N,.inl C⟩]
       rw[a4]at Z;rw[c7,NL]at a0;clear N C a4 c7;go_wp2
       go_roundg (n-(j+1))
       case measure=>omega
       exact⟨j+1,d+o.qty,s,Q0,rfl,J5,(a5.setCell Q2 _),Z0 a7 1 (.int .i64 (d+o.qty)),J6 ⟨Z.symm,a0.symm⟩⟩
      have t2:=Z3 C
      by_cases b1:p<=o.price
      ·have t4:=V7 b1
       have a4:KP p o=o.qty:=by unfold KP;rw[X0 ⟨N,.inr b1⟩]
       rw[a4]at Z;rw[c7,NL]at a0;clear N C a4 c7;go_wp2
       go_roundg (n-(j+1))
       case measure=>omega
       exact⟨j+1,d+o.qty,s,Q0,rfl,J5,(a5.setCell Q2 _),Z0 a7 1 (.int .i64 (d+o.qty)),J6 ⟨Z.symm,a0.symm⟩⟩
      have t4:=V9 b1;have a4:KP p o=0:=by unfold KP;rw[J8 Q0]
      rw[a4,NL]at Z;rw[c7,NL]at a0;clear N C a4 c7;go_wp2
      go_roundg (n-(j+1))
      case measure=>omega
      exact⟨j+1,d,s,Q0,rfl,J5,a5,a7,J6 ⟨Z.symm,a0.symm⟩⟩
     have t1:=Z3 (show¬o.side=1 by omega);have t3:=V4 N;have c6:KP p o=0:=by unfold KP;rw[J8 Q0]
     by_cases C:o.kind=2
     ·have t2:=V4 C
      have a1:KR p o=o.qty:=by unfold KR;rw[X0 ⟨N,.inl C⟩]
      rw[c6,NL]at Z;rw[a1]at a0;clear N C a1 c6;go_wp2
      go_roundg (n-(j+1))
      case measure=>omega
      exact⟨j+1,d,s+o.qty,Q0,rfl,J5,(a5.setCell Q2 _),Z0 a7 2 (.int .i64 (s+o.qty)),J6 ⟨Z.symm,a0.symm⟩⟩
     have t2:=Z3 C
     by_cases b1:o.price<=p
     ·have t4:=V7 b1
      have a1:KR p o=o.qty:=by unfold KR;rw[X0 ⟨N,.inr b1⟩]
      rw[c6,NL]at Z;rw[a1]at a0;clear N C a1 c6;go_wp2
      go_roundg (n-(j+1))
      case measure=>omega
      exact⟨j+1,d,s+o.qty,Q0,rfl,J5,(a5.setCell Q2 _),Z0 a7 2 (.int .i64 (s+o.qty)),J6 ⟨Z.symm,a0.symm⟩⟩
     have t4:=V9 b1;have a1:KR p o=0:=by unfold KR;rw[J8 Q0]
     rw[c6,NL]at Z;rw[a1,NL]at a0;clear N C a1 c6;go_wp2
     go_roundg (n-(j+1))
     case measure=>omega
     exact⟨j+1,d,s,Q0,rfl,J5,a5,a7,J6 ⟨Z.symm,a0.symm⟩⟩
   obtain rfl:n=j:=by omega
   have k9:¬(n:Int)<(n:Int):=Q0;have j3:Hid (DD (T6 l) p=(p,d,s)):=J6 (by have h1:=a6.out;rw[M4 (by rw[HL.out];exact X3 _)]at h1;unfold DD;rw[<-h1.1,<-h1.2])
   have x0:wr.cell? ⟨wq.heap.size,0,none⟩=some (.int .i64 p):=by rw[X9 hX];rfl
   have x1:wr.cell? ⟨wq.heap.size,1,none⟩=some (.int .i64 d):=by rw[X9 hX];rfl
   have x2:wr.cell? ⟨wq.heap.size,2,none⟩=some (.int .i64 s):=by rw[X9 hX];rfl
   have f0:=d6.trans (u.mono a1);have j0:=J6 f0;have l3:=f0.size;have g6:World.ownsRow (wr.alloc (.cells #[.int .i64 p,.int .i64 d,.int .i64 s] 236)) 0 236 3 (.slice A9 n9 c9) n9 (X7 Y8 ((dd (S.take i)).map (DD (T6 l)))):=LW (f8.below u) _;have j5:=J6 g6;have o7:=u.size;obtain⟨i0,f3,l6,l7,l8⟩:=W8 Ju9;clear hX u f0 g6 a6;go_wp2_with (at_builtin;refine VZ _ rfl _ _ 176 rfl 0 236 i0 _ 3 24 underlying176 f3 l6 l7 l8 rfl Q0 (.slice A9 n9 c9) n9 _ rfl j5 ⟨wr.heap.size,0,none⟩ 1 1 [.int .i64 p,.int .i64 d,.int .i64 s] rfl rfl (XF (cs:= #[.int .i64 p,.int .i64 d,.int .i64 s]) (t:=236) (fr:=(0,0)) (QN wr _)) J0 Q0 Q9 Q0 Q3 (wr.heap.size+1) Q3 ?_;intro gg cap w5 d3 c8 a9 n7)
   go_roundg (n5-(i+1))
   case measure=>omega
   refine⟨i+1,some ⟨gg,0,none⟩,n9+1,cap,Q0,rfl,J5,rfl,Q0,(j0.alloc l3 _).grown c8 Q7 (fun x hx=>e9 x (by rw[<-C8 A9 n9 c9];exact hx)),?_,?_⟩
   ·rw[e5.out,L6,NM]
    show X8 w5 _ _ _ _ _ (X7 Y8 ((dd (S.take i)).map (DD (T6 l)))++X7 Y8 [DD (T6 l) p]);rw[j3.out];exact d3
   intro x hx
   cases hx;rw[C8]at a9;obtain h1|h1:=a9
   ·exact e9 _ h1
   show w2.heap.size<=gg;omega
 obtain rfl:i=n5:=by omega
 have k8:¬(i:Int)<(i:Int):=Q0;rw[M4 (by rw[f9.out];exact X3 _),<-f4.out]at b8;have i2:=YU QE Q0 b8;obtain⟨j9,f7,j1⟩:=Xt7 b8 i2 (d5.trans (u.mono d5.size));clear b8 i2 u;go_wp2;go_ret;exact⟨j1,A9,c9,by rw[f7.out];rfl,by rw[f7.out];exact j9⟩
section
variable {w:World} {R:Nat} {F:Nat->Prop} {m:Z6}
theorem Jv1(h:N4 w R F m)p:Calls prog 85 #[pA R,I O p] w fun j w'=>j=.returned (.bool (AS m.st m.an p))/\Bz w w':=by obtain⟨cs,T,tc,AL,Ap,pc,Ai,ic,own,L,i,u⟩:=h;exact De R m.st m.an p w (i.cell i.rc.c1) (i.cell i.rc.c3)
theorem Qt4{L}(hp:L.Perm (P1 m))(i:E5 m.L1 m.L2)(u:1<=m.la/\m.la<=1000000):MC (QJ L m.la) m.la=M5 m/\(∀y∈QJ L m.la,AY y)/\(QJ L m.la).length<=100000:=by
 have e:QJ L m.la=QJ (P1 m) m.la:=Qw8 hp m.la;have E:=EH i;have j:(P1 m).length<=100:=i.cnt;have C:=Ec (l:=P1 m) (more:=m.la) j (fun o D hk=>(E o D).2.2.resolve_left hk) u.2;rw[e];refine⟨?_,fun y J=>?_,?_⟩
 ·unfold M5
  exact(Mb _ _).symm
 ·have h1:=C y J
  exact⟨⟨h1.1,h1.2.1⟩,⟨Q0,Q0⟩,⟨Q0,Q0⟩⟩
 have h1:=Np (P1 m) m.la;omega
theorem Jj7{w a Q g cs}(hp:a.tmps.getD 2 undef=pA g)(i:a.defers=[])(j:J7 w g 99 cs) (h2:cs.size=3) (h:Q (.returned (.agg cs)) w):bodyPost prog Tryz.f84 Q .ret a w:=
 QA (WE Tryz.results84 a.tmps w g _ cs (0,0) _ hp j underlying99 rfl (by rw[h2];kernel_rfl)) i h
theorem Rj{w a Q g cs}(hp:a.tmps.getD 2 undef=pA g)(i:a.defers=[])(j:J7 w g 99 cs) (h2:cs.size=3) (h:Q (.returned (.agg cs)) w):bodyPost prog Tryz.f36 Q .ret a w:=
 QA (WE Tryz.results36 a.tmps w g _ cs (0,0) _ hp j underlying99 rfl (by rw[h2];kernel_rfl)) i h
theorem Cr(h:N4 w R F m)(a6:1<=m.la/\m.la<=1000000):Calls prog 84 #[pA R] w fun ev w'=>ev=.returned (QW (M5 m))/\Bz w w':=by
 obtain⟨cs,T,tc,AL,Ap,pc,Ai,ic,own,L,y,hF⟩:=h;obtain⟨hW,Z,E⟩:=Qt4 y.perm (y.twin.lists y.few) a6;have a0:Bz w (w.alloc (.cells #[I O 0,I O 0,I O 0] 99)):=(J9 _ w).alloc Q2 _;have hX:=Z5 w 99 #[I O 0,I O 0,I O 0];obtain⟨w1,a3⟩:=exq (w.alloc (.cells #[I O 0,I O 0,I O 0] 99));obtain⟨X,N⟩:=exq w.heap.size;rw[a3]at a0 hX;rw[N]at hX;have a4:w.heap.size<=X:=CB N;have D:=y.below a0;obtain⟨c,J,-,-⟩:=D.bk.cell;have c4:=D.cell D.rc.c4;obtain⟨ln,b5⟩:=exq L.length;have a5:=D.bk.els;rw[b5]at J a5;have d1:ln<=100:=by have:=y.few;omega
 obtain⟨la,b2⟩:=exq m.la;rw[b2]at c4 hW Z E a6;have HC:=J6 (fun W(u:Bz w1 W)=>Jj6 AL ln c L la W (a5.below u Q2) d1);obtain⟨ps,b8⟩:=exq (QJ L la);rw[b8]at HC hW Z E;obtain⟨HW,HX,a8,HN,HK⟩:=Xt9 hW hX a0 Z (fun W(u:Bz w1 W)=>And.intro ((u.cell (U5 w1 _ J)).trans J) ((u.cell (U5 w1 _ c4)).trans c4));obtain⟨pl,a7⟩:=exq ps.length;rw[a7]at E;rw[a7]at HC;have c6:pl<=100000:=E;have d0: -1099511627776<=la/\la<=1099511627776:=Q0;clear y hF a0 hX D a5 b8 hW Z b5 b2 E J c4 a6 a7;go_enter func84,ntmps84
 go_upto_region 1 with fail
 try rw[a3]
 try rw[N]
 clear a3 N;have b1:=HK.out w1.drew (Z2 Q5);refine SP 15 (fun W=>W.cell? ⟨R,7,none⟩=some (.slice AL ln c)/\W.cell? ⟨R,4,none⟩=some (I O la)) Q4 b1 (fun hS=>?_);refine tT 0 ?_;refine tT 1 ?_;refine tT 2 ?_;refine tT 3 ?_;refine tT 4 ?_;refine tT 5 ?_;refine tT 6 ?_;refine tT 7 ?_;refine tT 8 ?_;refine tT 10 ?_;refine tT 11 ?_;refine tT 12 ?_;refine tT 13 ?_;refine VU 9 Q4 rfl (fun K1 i=>?_);go_simp;refine(HC _ (Z2 Q5)).mono ?_;rintro ev w2⟨c8,A2,c2,rfl,b9⟩;have a1:=J6 ((Z2 (J9 w1.heap.size w1)).trans c8);refine i _ _ (HK _ a1) (fun hS=>?_);clear i hS b1
 try simp only[Act.put,List.setIfInBounds_toArray,List.set_cons_zero,List.set_cons_succ]
 have b0:C0 w2 Y8 3 A2 pl ps:=CY QE Q0 b9;have C:=Qv8 A2 pl c2 la d0 ps w2 b0 HN c6;rw[HW.out]at C;obtain⟨⟨t0,t1,t2⟩,ht⟩:∃q,M5 m=q:=⟨_,rfl⟩;rw[ht]at C;have HT:=J6 ht;unfold QW at C;dsimp only at C;have a9:=J6 C;clear C ht b0 b9 HW HN;refine VU 14 Q4 rfl (fun K1 i=>?_);go_simp;refine a9.mono ?_;rintro ev w3⟨rfl,c9⟩;have a2:=J6 (a1.trans (c9.mono a1.size));refine i _ _ (HK _ a2) (fun hS=>?_);clear i hS a9
 try simp only[Act.put,List.setIfInBounds_toArray,List.set_cons_zero,List.set_cons_succ]
 have j:=Z4 HX a2;have f0:=K0 j 0;have f1:=K0 j 1;have f2:=K0 j 2;obtain⟨z0,z1,z2⟩:w3.cell? ⟨X,0,none⟩=some (I O 0)/\w3.cell? ⟨X,1,none⟩=some (I O 0)/\w3.cell? ⟨X,2,none⟩=some (I O 0):=⟨by rw[X9 j];rfl,by rw[X9 j];rfl,by rw[X9 j];rfl⟩;have c5:=J6 j;clear j;refine TV Q4 rfl (fun K1 i=>?_);go_simp;refine i _ _ (TZ Q4 ?_ _);clear i z0 z1 z2 f0 f1 f2;go_wp2_with fail
 refine Jj7 (g:=X) (cs:= #[I O t0,I O t1,I O t2]) Q6 Q6 (Z0 (Z0 (Z0 c5 0 _) 1 _) 2 _) rfl ?_;refine⟨by rw[HT.out];rfl,?_⟩;have u:=a8.trans (a2.mono a8.size);exact((u.setCell a4 _).setCell a4 _).setCell a4 _
theorem Jj8(h:N4 w R F m)(a3:1<=m.la/\m.la<=1000000):Calls prog 36 #[pA R] w fun N w'=>N=.returned (QW (AX m))/\Bz w w':=by
 have D:Bz w (w.alloc (.cells #[I O 0,I O 0,I O 0] 99)):=(J9 _ w).alloc Q2 _;have i:=Z5 w 99 #[I O 0,I O 0,I O 0];obtain⟨w1,Z⟩:=exq (w.alloc (.cells #[I O 0,I O 0,I O 0] 99));obtain⟨X,C⟩:=exq w.heap.size;rw[Z]at D i;rw[C]at i;have u:w.heap.size<=X:=CB C;have h1:=h.below D;have y:=J6 (Cr h1 a3);obtain⟨cs,T,tc,AL,Ap,pc,Ai,ic,own,L,hM,hF⟩:=h1;have a7:=hM.cell hM.rc.c10;obtain⟨E,HX,J⟩:=Xt7 (Qo1 m.ph w1) i D;have f0:=K0 i 0;have f1:=K0 i 1;have f2:=K0 i 2;obtain⟨z0,z1,z2⟩:w1.cell? ⟨X,0,none⟩=some (I O 0)/\w1.cell? ⟨X,1,none⟩=some (I O 0)/\w1.cell? ⟨X,2,none⟩=some (I O 0):=⟨by rw[X9 i];rfl,by rw[X9 i];rfl,by rw[X9 i];rfl⟩;clear hM hF D i h a3;obtain⟨ab,a0⟩:=exq (PQ m.ph);rw[a0]at E;have a2:=J6 a0;clear a0;go_enter func36,ntmps36
 go_upto_region 1 with fail
 try rw[Z]
 try rw[C]
 clear Z C;go_wp2_with fail
 refine E.mono ?_;rintro N wa⟨rfl,rfl⟩
 cases ab with
 |false=>
  go_wp2_with fail
  have a6:=Z0 (Z0 (Z0 HX 0 (I O 0)) 1 (I O 0)) 2 (I O 0);refine Rj (g:=X) (cs:= #[I O 0,I O 0,I O 0]) Q6 Q6 a6 rfl ?_;refine⟨?_,((J.setCell u _).setCell u _).setCell u _⟩;unfold AX;rw[a2.out]
  rfl
 |true=>
  clear z0 z1 z2 f0 f1 f2 E;obtain⟨⟨t0,t1,t2⟩,ht⟩:∃q,M5 m=q:=⟨_,rfl⟩;have HT:=J6 ht;rw[ht]at y;unfold QW at y;dsimp only at y;clear ht;go_wp2_with fail
  refine y.mono ?_;rintro N w3⟨rfl,a1⟩;have j:=Z4 HX a1;have f0:=K0 j 0;have f1:=K0 j 1;have f2:=K0 j 2;obtain⟨z0,z1,z2⟩:w3.cell? ⟨X,0,none⟩=some (I O 0)/\w3.cell? ⟨X,1,none⟩=some (I O 0)/\w3.cell? ⟨X,2,none⟩=some (I O 0):=⟨by rw[X9 j];rfl,by rw[X9 j];rfl,by rw[X9 j];rfl⟩;obtain⟨a5,a4⟩:=Xt6 j (J.trans (a1.mono J.size));clear j a1 y;go_wp2_with fail
  refine Rj (g:=X) (cs:= #[I O t0,I O t1,I O t2]) Q6 Q6 (Z0 (Z0 (Z0 a5 0 _) 1 _) 2 _) rfl ?_;refine⟨?_,((a4.setCell u _).setCell u _).setCell u _⟩;unfold AX;rw[a2.out,X0 rfl,HT.out]
  rfl
theorem Bf(h:N4 w R F m)(Z: -1000000000000<=m.now/\m.now<=1000000000000)(ht:0<=m.tk/\m.tk<=1000000):Calls prog 79 #[pA R] w fun D w'=>D=.returned (.tuple #[])/\F3 w w' R F (BU m):=by
 obtain⟨cs,T,tc,AL,Ap,pc,Ai,ic,own,L,i,j⟩:=h;have c5:=i.cell i.rc.c5;have a4:=i.cell i.rc.c11;have a3:=i.cell i.rc.c10;have a5:=i.cell i.rc.c12;have a6:=i.cell i.rc.c13;have a7:=i.frozen 10;have a8:=i.frozen 12;have a9:=i.frozen 13;have i1:RowKit.wrap64 (m.now+m.tk)=m.now+m.tk:=by unfold RowKit.wrap64;omega
 obtain⟨C,y⟩:=Xt6 i j;clear i j Z ht;go_enter func79,ntmps79
 go_region
 go_wp2;refine EF (YV rfl _ _ _) rfl ?_;obtain⟨E,a0⟩:=C.setPh 4;obtain⟨J,a1⟩:=E.setEnds (m.now+m.tk);obtain⟨N,a2⟩:=J.setLng 0;have u:=Z2 (J9 (zS (((w.setCell (aD R 10) (I O 4)).setCell (aD R 12) (I O (m.now+m.tk))).setCell (aD R 13) (I O 0))) (((w.setCell (aD R 10) (I O 4)).setCell (aD R 12) (I O (m.now+m.tk))).setCell (aD R 13) (I O 0)));exact⟨rfl,Y2.to_ (m:=BU m) (N.below u) (((a0.trans a1).trans a2).trans (N0 u)) y⟩
theorem Jv2(h:N4 w R F m):Calls prog 33 #[pA R] w fun Z w'=>Z=.returned (I O (UE m))/\F3 w w' R F (JN m):=by
 have HS:=J6 (GW h (J9 _ w));obtain⟨cs,T,tc,AL,Ap,pc,Ai,ic,own,L,y,D⟩:=h;have c:=y.cell y.rc.c10;have f:=y.frozen 10;obtain⟨J,E⟩:=Xt6 y D;clear y D;obtain⟨p,hp⟩:=exq m.ph;rw[hp]at c;have C:=J6 hp;clear hp
 by_cases j:p=6
 ·have d:=V4 j
  have i:Hid (UE m=6/\JN m=m):=J6 (by unfold UE JN;rw[C.out,X0 (.inl j),X0 (.inl j)];exact⟨rfl,rfl⟩);clear j;rw[i.1,i.2];go_enter func33,ntmps33
  go_wp2;go_ret;exact⟨rfl,HS⟩
 have d:=Z3 j
 by_cases u:p=7
 ·have N:=V4 u
  have i:Hid (UE m=6/\JN m=m):=J6 (by unfold UE JN;rw[C.out,X0 (.inr u),X0 (.inr u)];exact⟨rfl,rfl⟩);clear j u;rw[i.1,i.2];go_enter func33,ntmps33
  go_wp2;go_ret;exact⟨rfl,HS⟩
 have N:=Z3 u;have i:Hid (UE m=0/\JN m={m with ph:=6}):=J6 (by unfold UE JN;rw[C.out,J8 Q0,J8 Q0];exact⟨rfl,rfl⟩);clear j u;rw[i.1,i.2];go_enter func33,ntmps33
 go_wp2;go_ret;obtain⟨a0,ho⟩:=J.setPh 6;exact⟨rfl,a0.to_ ho E⟩
end
theorem Jv3{L o}(h:L.length<=100):(CQ L o).length<=100:=by
 unfold CQ
 by_cases i:KE L o=0
 ·rw[X0 i,B6,SN]
  have:¬100<=L.length:=fun h2=>by
   unfold KE at i
   by_cases h1:UG o=false
   ·rw[X0 h1]at i;cases i
   rw[J8 h1]at i
   by_cases j:KS o=false
   ·rw[X0 j]at i;cases i
   rw[J8 j]at i
   by_cases u:(B4 L o.id).isSome=true
   ·rw[X0 u]at i;cases i
   rw[J8 u,X0 h2]at i;cases i
  omega
 rw[J8 i];exact h
def Qk3(w1 w:World)(R:Nat)(T:Option Addr)(tc:Nat)(Ap:Option Addr)(pc:Nat)(Ai:Option Addr)(ic:Nat)(own:Nat->Nat->Prop)(m:Z6):Prop:=∃cs AL own' L,Y2 w R cs T tc AL Ap pc Ai ic own' m L/\U3 w1 w own own'
section
variable {w:World} {R:Nat} {F:Nat->Prop} {m:Z6} {cs:Array Value} {T:Option Addr} {tc:Nat} {AL Ap:Option Addr} {pc:Nat} {Ai:Option Addr} {ic:Nat} {own:Nat->Nat->Prop} {L:List X6}
theorem Fj(h:Y2 w R cs T tc AL Ap pc Ai ic own m L)o(C:JV o):Calls prog 75 #[IP (some (aD R 7)),V6 o] w fun i w'=>i=.returned (I O (KE L o))/\Qk3 w w' R T tc Ap pc Ai ic own (S3 m o):=by refine(Xb6 w R _ cs 7 AL L h.bk (by have:=h.few;omega) o).mono ?_;rintro i w'⟨rfl,ht⟩;obtain⟨e,E⟩:=Xc6 h.twin (h.twin.lists h.few) C;obtain⟨u,j,own',y,D⟩:=h.bookTo ht E (Jv3 h.few);exact⟨rfl,u,j,own',_,y,D⟩
theorem Nf(h:N4 w R F m)(b9:∀o∈m.pk,JV o)(d6:m.pk.length<=100000):Calls prog 83 #[pA R] w fun ev w'=>ev=.returned (.tuple #[])/\F3 w w' R F (VB m):=by
 obtain⟨cs,T,tc,AL,Ap,pc,Ai,ic,own,L,j,hF⟩:=h;obtain⟨u,b5⟩:=j.setPh 5;have d3:=j.cell j.rc.c10;have d4:=j.frozen 10;have c8:=u.cell u.rc.c8;obtain⟨a6,a7,HF,d0⟩:=Xt8 u b5 hF b9;obtain⟨n,D⟩:=exq m.pk.length;have HN:=J6 D;rw[D]at d6;have e8:({m with ph:=5}:Z6).pk.length=n:=D;rw[e8]at c8;clear j u b5 hF b9 e8 D;go_enter func83,ntmps83
 go_upto_region 1 with fail
 obtain⟨w1,a8⟩:=exq (w.setCell ⟨R,10,none⟩ (I O 5));rw[a8]at c8 a6 a7|-;clear a8 d3 d4;go_wp2_with fail
 go_loopg [12] n (fun gg e4 wr=>∃k,k<=n/\gg=n-k/\e4=I O k/\Hid (Qk3 w1 wr R T tc Ap pc Ai ic own (N7 {m with ph:=5} (m.pk.take k))))
 case atStart=>exact⟨0,U9 _,rfl,rfl,J6 ⟨_,_,_,_,a6,N0 Q5⟩⟩
 obtain⟨k,hk,rfl,rfl,HL⟩:=hrel;obtain⟨e7,e5,e3,L1,b2,b8⟩:=HL.out;obtain⟨i,HOr⟩:=Xt6 b2 b8;clear b2 b8 HL
 by_cases d9:k<n
 ·have a3:k<m.pk.length:=by rw[HN.out];exact d9
  have E:=i.park;rw[Td]at E;obtain⟨gp,d7⟩:=EL E (by show 0<m.pk.length;omega);subst d7;obtain⟨y0,y1,y2,y3,y4⟩:=ER E a3;have a2:=d0.out _ (C7 a3);have a5:m.pk.take (k+1)=m.pk.take k++[m.pk[k]]:=M9 a3;obtain⟨x,hx⟩:=exq (m.pk[k]);rw[hx]at y0 y1 y2 y3 y4 a2 a5;have d1:=J6 a5;have e1:(k:Int)<(n:Int):=Q0;have f0:(0:Int)<=(k:Int):=Q0;have C:Bz wr (wr.alloc (.cells #[I O x.id,I O x.side,I O x.kind,I O x.price,I O x.qty] 84)):=(J9 _ wr).alloc Q2 _;have y:=Z5 wr 84 #[I O x.id,I O x.side,I O x.kind,I O x.price,I O x.qty];have a1:=i.below C;obtain⟨wz,a0⟩:=exq (wr.alloc (.cells #[I O x.id,I O x.side,I O x.kind,I O x.price,I O x.qty] 84));rw[a0]at C y a1;obtain⟨Z,N⟩:=exq wr.heap.size;rw[N]at y;have d2:Hid (¬∃k,e3 Z k):=J6 (fun⟨k,hk⟩=>by have:=i.ok.lt Z k hk;omega);have J:=J6 (Fj (a1.below (Z2 (J9 _ wz))) x a2);unfold V6 at J;obtain⟨re,c5⟩:=exq (KE L1 x);rw[c5]at J;obtain⟨c6,HZ⟩:=Xt6 C y;clear a5 hx a2 E C y a1 c5;go_upto_region 4 with fail
  try rw[a0]
  try rw[N]
  clear a0 N y0 y1 y2 y3 y4;obtain⟨z0,z1,z2,z3,z4⟩:=S0 (Y6 HZ);refine VR (fun t=>[].contains t) (fun W=>W.cell? ⟨Z,0,none⟩=some (I O x.id)/\W.cell? ⟨Z,1,none⟩=some (I O x.side)/\W.cell? ⟨Z,2,none⟩=some (I O x.kind)/\W.cell? ⟨Z,3,none⟩=some (I O x.price)/\W.cell? ⟨Z,4,none⟩=some (I O x.qty)) Q4 ⟨z0,z1,z2,z3,z4⟩ (fun d5=>?_);refine tM 0 ?_;refine tM 1 ?_;refine tM 2 ?_;refine tM 3 ?_;refine oM 4 fun K1 a9=>?_
  go_simp;refine J.mono ?_;rintro ev w4⟨rfl,e9,e6,f1,L4,b0,a4⟩;refine a9 _ _ (fun _=>S0 (V0 (Y6 HZ) a4.1 d2)) ?_;obtain⟨c7,c9⟩:=Xt6 b0 a4;clear b0 a4 z0 z1 z2 z3 z4 a9 d5;refine XX Q4 ?_ _;go_wp2
  go_roundg (n-(k+1))
  case measure=>omega
  exact⟨k+1,Q0,rfl,J5,J6 ⟨_,_,_,_,by rw[d1.out,Mm];exact c7,((HOr.trans (N0 c6)).trans (N0 (Z2 Q5))).trans c9⟩⟩
 obtain rfl:k=n:=by omega
 have e1:¬(k:Int)<(k:Int):=Q0;have d8:=i.cell i.rc.c8;have g8:=i.frozen 8;go_wp2_with fail
 refine EF (YV rfl _ _ _) rfl ?_;obtain⟨f2,b1,e2⟩:=i.pkNil;rw[M4 (by rw[HN.out];exact X3 _)]at b1;exact⟨rfl,Y2.to_ (m:=VB m) b1 ((a7.trans HOr).trans e2) HF⟩
theorem Cs(h:Y2 w R cs T tc AL Ap pc Ai ic own m L)(i:KH m.rows)t W(u:Bz w W){a b}(hp:phAt m.rows t m.rows.length=(a,b)):Calls prog 81 #[.slice T m.rows.length tc,I O t] W fun j w'=>j=.returned (.tuple #[I O a,I O b])/\Bz W w':=by refine(Jc1 T m.rows.length tc m.rows t W (h.below u).tabp i.1 (by have:=i.2.1;omega)).mono ?_;rintro j w'⟨k,hk,rfl,y⟩;rw[<-hk.phAt i,hp];exact⟨rfl,y⟩
end
theorem JX{w w' p v}(h:w.cell? p=some v)(i:Bz w w'):w'.cell? p=some v:=(i.cell (U5 w _ h)).trans h
theorem F3.pre{w w1 w' R F m}(i:Bz w w1)(h:F3 w1 w' R F m):F3 w w' R F m:=by obtain⟨F',h1,h2⟩:=h;exact⟨F',h1,(S5 i).trans h2⟩
theorem F3.from_{w w1 w' R F F1 m}(i:U2 w w1 F F1)(h:F3 w1 w' R F1 m):F3 w w' R F m:=by obtain⟨F',h1,h2⟩:=h;exact⟨F',h1,i.trans h2⟩
abbrev TK:=@F3.from_
theorem N4.setPh{w R F m}(h:N4 w R F m)v:F3 w (w.setCell (aD R 10) (I O v)) R F {m with ph:=v}/\(∃u,w.cell? (aD R 10)=some u)/\w.frozen? (aD R 10)=false:=by obtain⟨cs,T,tc,AL,Ap,pc,Ai,ic,own,L,i,j⟩:=h;obtain⟨h1,h2⟩:=i.setPh v;exact⟨h1.to_ h2 j,⟨_,i.cell i.rc.c10⟩,i.frozen 10⟩
theorem Jv4{w R F m}(h:N4 w R F m)(hT:KH m.rows)(hI:BJ m):Calls prog 34 #[pA R] w fun ev w'=>ev=.returned (I O (AW m))/\F3 w w' R F (QK m):=by
 have hE:=h;obtain⟨cs,T,tc,AL,Ap,pc,Ai,ic,own,L,i,hF⟩:=h;have a6:=i.cell i.rc.c10;have HE:=J6 hE
 by_cases u:m.ph=6
 ·have d6:=KN u
  obtain⟨⟨C,a2⟩,ha⟩:∃q,phAt m.rows m.now m.rows.length=q:=⟨_,rfl⟩;have a0:=J6 (fun W hW=>Cs i hT m.now W hW ha);obtain⟨SM,a8⟩:=exq (QK m);have y:Hid (AW m=0/\SM=if C=3 then BU m else if C=5 then VB m else {m with ph:=C}):=by refine J6 ⟨by unfold AW;rw[X0 u],?_⟩;rw[<-a8];unfold QK L5;rw[X0 u,ha]
  rw[y.1,a8];clear a8;have c0:=i.cell i.rc.c0;have a7:=i.cell i.rc.c11;have HI:=J6 hI;obtain⟨nw,b1⟩:=exq m.now;rw[b1]at a7 a0;obtain⟨ph,N⟩:=exq m.ph;rw[N]at a6 d6;obtain⟨tn,b5⟩:=exq m.rows.length;rw[b5]at c0 a0;clear u hE i hF hI N ha b1 hT b5;go_enter func34,ntmps34
  go_upto_region 3 with fail
  refine VR (fun t=>[].contains t) (fun W=>W.cell? ⟨R,0,none⟩=some (.slice T tn tc)/\W.cell? ⟨R,11,none⟩=some (I O nw)) Q4 ⟨c0,a7⟩ (fun J=>?_);refine tM 0 ?_;refine tM 1 ?_;refine tM 2 ?_;refine tM 3 ?_;refine tM 4 ?_;refine tM 5 ?_;refine tM 6 ?_;refine tM 7 ?_;refine oM 8 fun K9 b0=>?_
  go_simp;refine(a0 w.drew (Z2 Q5)).mono ?_;rintro ev w3⟨rfl,D⟩;refine b0 _ _ (fun _=>⟨JX J.1 D,JX J.2 D⟩) ?_;have b9:=And.intro (JX J.1 D) (JX J.2 D);clear b0 J;refine tM 9 ?_;refine tM 10 ?_;refine tM 11 ?_;refine tM 12 ?_;refine tM 13 ?_;refine XX Q4 ?_ _;have a3:Bz w w3:=(Z2 (J9 _ w)).trans D;obtain⟨a9,a4⟩:=Xt6 (HE.below a3) a3;have b2:=(HE.below a3).setPh C;have b8:=J6 b2.1;obtain⟨-,⟨x0,x1⟩,x2⟩:=b2;clear c0 a6 a7 b9 D a3 a0 HE
  by_cases j:C=3
  ·have e3:=V4 j
   have HS:Hid (SM=BU m):=J6 (y.2.trans (X0 j));clear j;go_wp2_with fail
   refine(Bf a9 (by have:=HI.now;omega) HI.tk).mono ?_;rintro ev w4⟨rfl,Z⟩;have a5:=J6 Z;clear Z x1 x2;go_wp2;go_ret;rw[HS.out];exact⟨rfl,F3.pre a4 a5⟩
  have e3:=Z3 j
  by_cases E:C=5
  ·have e5:=V4 E
   have HS:Hid (SM=VB m):=J6 (y.2.trans ((J8 j).trans (X0 E)));clear j E;go_wp2_with fail
   refine(Nf a9 HI.pk HI.pkn).mono ?_;rintro ev w4⟨rfl,Z⟩;have a5:=J6 Z;clear Z x1 x2;go_wp2;go_ret;rw[HS.out];exact⟨rfl,F3.pre a4 a5⟩
  have e5:=Z3 E;have HS:Hid (SM={m with ph:=C}):=J6 (y.2.trans ((J8 j).trans (J8 E)));clear j E;go_wp2;go_ret;rw[HS.out];exact⟨rfl,F3.pre a4 b8⟩
 have d6:=XQ u;have y:Hid (AW m=6/\QK m=m):=J6 ⟨by unfold AW;rw[J8 u],by unfold QK;rw[J8 u]⟩;rw[y.1,y.2];obtain⟨ph,N⟩:=exq m.ph;rw[N]at a6 d6;clear u hE i hF hI N hT;go_enter func34,ntmps34
 go_wp2;go_ret;exact⟨rfl,GW HE Q5⟩
def AJ(w w':World)(R:Nat)(F:Nat->Prop)(P:List C6->Prop)(m:Z6)(ev:Ending):Prop:=
 ∃A c Fs,ev=.returned (.slice A (List.length Fs) c)/\P Fs/\X8 w' A Fs.length c 127 4 (X7 QT Fs)/\(∀g,X5 A=some g->w.heap.size<=g)/\∃F',N4 w' R F' m/\U2 w w' F F'/\∀g,X5 A=some g->¬F' g
def Yv(w wx:World)(R:Nat)(T:Option Addr)(tc:Nat)(Ap:Option Addr)(pc:Nat)(Ai:Option Addr)(ic:Nat)(own:Nat->Nat->Prop)(Af:Option Addr)(cf:Nat)(Fs:List C6)(AL:Option Addr)(M:List X6)(cs:Array Value)(m:Z6):Prop:=
 ∃own',Y2 wx R cs T tc AL Ap pc Ai ic own' m M/\U3 w wx own own'/\ZE wx own' Af Fs.length cf 127 4 (X7 QT Fs)/\∀g,X5 Af=some g->w.heap.size<=g
theorem Yv.below{w wx w' R T tc Ap pc Ai ic own Af cf Fs AL M cs m}(h:Yv w wx R T tc Ap pc Ai ic own Af cf Fs AL M cs m) (i:Bz wx w'):Yv w w' R T tc Ap pc Ai ic own Af cf Fs AL M cs m:=by obtain⟨own',h1,h2,j,u⟩:=h;exact⟨own',h1.below i,h2.trans (N0 i),j.below i,u⟩
theorem Qo9:(prog.info? 84).map (fun i=>(i.zero,i.size,i.bytes))=some (some (.agg #[I O 0,I O 0,I O 0,I O 0,I O 0]),5,40):=Q4
theorem Bl{w R F m}(h:N4 w R F m)(f6:1<=m.la/\m.la<=1000000):Calls prog 82 #[pA R] w fun ev w'=>AJ w w' R F (XD m) (ZD m) ev:=by
 have a8:=J6 (Cr h f6);obtain⟨cs,T,tc,AL,Ap,pc,Ai,ic,own,L,hM,hF⟩:=h;have e9:=Qf (m:=m) (hM.twin.lists hM.few) f6;obtain⟨HM,HF,d8⟩:=Xt7 hM hF e9;obtain⟨⟨t0,j,t2⟩,ht⟩:∃q,M5 m=q:=⟨_,rfl⟩;have J:=J6 ht;rw[ht]at a8;unfold QW at a8;dsimp only at a8;obtain⟨i0,j8,k9,l1,l2⟩:=W8 Qo9;clear hM hF e9 ht;go_enter func82,ntmps82
 go_wp2_with fail
 refine a8.mono ?_;rintro ev w1⟨rfl,a5⟩;have d2:Bz w1 (w1.alloc (.cells #[I O t0,I O j,I O t2] 99)):=(J9 _ w1).alloc Q2 _;have hX:=Z5 w1 99 #[I O t0,I O j,I O t2];obtain⟨w2,c6⟩:=exq (w1.alloc (.cells #[I O t0,I O j,I O t2] 99));obtain⟨gq,eq⟩:=exq w1.heap.size;have f0:w.heap.size<=gq:=by rw[<-eq];exact a5.size
 rw[c6]at d2 hX;rw[eq]at hX;obtain⟨a6,HQ,HG⟩:=Xt7 (a5.trans (d2.mono a5.size)) hX f0;have a7:=J6 (HM.below a6);clear a5 d2 hX f0 a8;obtain⟨K1,a1⟩:=exq (if 0<j then Y3 m.L1 j else m.L1);obtain⟨K2,a2⟩:=exq (if 0<j then Y3 m.L2 j else m.L2);have HK:=J6 (And.intro a1 a2);have g6:EU m m.L1=M0 K1:=by unfold EU;rw[J.out,<-a1];rfl
 have g7:EU m m.L2=M0 K2:=by unfold EU;rw[J.out,<-a2];rfl
 have e3:=J6 (And.intro g6 g7);clear g6 g7;go_upto_region 3 with fail
 try rw[c6]
 try rw[eq]
 clear c6 eq;obtain⟨q0,q1,q2⟩:=TD HQ;go_upto_if 12 with fail
 go_cut [3] (fun s3 wx=>∃Af cf Fs h0 M i8,s3=.slice Af (List.length Fs) cf/\XD m Fs/\Yv w wx R T tc Ap pc Ai ic own Af cf Fs h0 M i8 {m with L1:=K1,L2:=K2,an:=S8 m m.an,la:=S8 m m.la})
 case first=>
  by_cases h1:0<j
  ·have d1:=V7 h1
   rw[X0 h1]at a1 a2;subst a1 a2;have hf:=d8.out (by rw[J.out];exact h1);rw[J.out]at hf;dsimp only at hf;have a4:=a7.below (Z2 (J9 _ w2));have e8:=Jg1 w2.drew R _ cs 7 AL L m.L1 m.L2 a4.bk a4.twin a4.few t0 j Q0 hf.1 hf.2.1;obtain⟨d6,H1,e2⟩:=Xt7 e8 h1 (Y6 HQ);obtain⟨z0,z1,z2⟩:=TD e2;clear e8 hf a4;go_wp2_with fail
   refine VR (fun t=>[].contains t) (fun W=>W.cell? ⟨gq,0,none⟩=some (I O t0)/\W.cell? ⟨gq,1,none⟩=some (I O j)) Q4 ⟨z0,z1⟩ (fun j1=>?_);refine tM 0 ?_;refine tM 1 ?_;refine tM 2 ?_;refine tM 3 ?_;refine tM 4 ?_;refine tM 5 ?_;refine tM 6 ?_;refine oM 7 fun K9 e7=>?_
   go_simp;refine d6.mono ?_;rintro ev w3⟨Fs,Af,cf,A3,c3,M,rfl,g2,f8,D⟩;have a4:=a7.below (Z2 (J9 _ w2));obtain⟨C,b1⟩:=a4.bookAt D.ref D.keep D.grow D.twin D.few;obtain⟨l3,e4⟩:=exq (KQ w2.drew own (fun i=>X5 A3=some i) 3);have g0:¬∃k,own gq k:=fun⟨k,hk⟩=>by have:=HM.ok.lt gq k hk;have:=HG.out;omega
   have g4:=V0 e2 b1.1 g0;have d5:ZE w3 (KQ w2.drew own (fun i=>X5 A3=some i) 3) Af (List.length Fs) cf 127 4 (X7 QT Fs):=⟨D.row,fun g E k hk=>by
    have h1:=D.fp g E;obtain h2|h2:=hk
    ·have h3:=a7.ok.lt g k h2
     have h4:w2.heap.size<=g:=h1.1;omega
    exact h1.2 h2.2.1⟩
   have f9:∀g,X5 Af=some g->w.heap.size<=g:=fun g E=>U4 a6.size (D.fp g E).1
   rw[e4]at C b1 d5;have c3:=C.cell C.rc.c3;have c4:=C.cell C.rc.c4;have f3:=C.frozen 3;have f4:=C.frozen 4;obtain⟨h8,i1,i4,h9,i2⟩:=Xt9 C b1 d5 f9 (And.intro g2 f8);clear q0 q1 q2 z0 z1 z2;obtain⟨q0,q1,q2⟩:=TD g4;clear C b1 g4 d5 f9 g2 f8 D g0 d6 e4 a4;refine e7 _ _ (fun _=>⟨q0,q1⟩) ?_;have j2:w3.cell? ⟨gq,0,none⟩=some (I O t0)/\w3.cell? ⟨gq,1,none⟩=some (I O j):=⟨q0,q1⟩;clear e7 j1;refine tM 8 ?_;refine tM 9 ?_;refine tM 10 ?_;refine tM 11 ?_;refine XX Q4 ?_ _;clear j2;go_upto_region 5 with fail
   go_region
   go_wp2;go_meet;have ep:∀p,S8 m p=t0:=fun p=>by unfold S8;rw[J.out,X0 (by have:=H1.out;show 0<j;omega)]
   obtain⟨i9,g1⟩:=h8.setAn t0;obtain⟨a3,b2⟩:=i9.setLa t0;have hd:=Z2 (J9 ((w3.setCell ⟨R,3,none⟩ (I O t0)).setCell ⟨R,4,none⟩ (I O t0)).heap.size ((w3.setCell ⟨R,3,none⟩ (I O t0)).setCell ⟨R,4,none⟩ (I O t0)));refine⟨Af,cf,Fs,_,_,_,rfl,?_,l3,by rw[ep,ep];exact a3.below hd,((((N0 a6).trans (N0 (Z2 (J9 _ w2)))).trans i1).trans (g1.trans b2)).trans (N0 hd),((i4.step g1).step b2).below hd,h9⟩;unfold XD;rw[J.out,X0 (by have:=H1.out;show 0<j;omega)];exact i2
  have d1:=V9 h1;rw[J8 h1]at a1 a2;subst a1 a2;have H1:=J6 h1;go_wp2;go_meet;have ep:∀p,S8 m p=p:=fun p=>by unfold S8;rw[J.out,J8 (by have:=H1.out;show¬0<j;omega)]
  refine⟨none,0,[],_,_,_,rfl,?_,own,by rw[ep,ep];exact a7,N0 a6,ZE.nil _ _ _ _,fun g E=>by simp[X5]at E⟩;unfold XD;rw[J.out,J8 (by have:=H1.out;show¬0<j;omega)]
 obtain⟨Af,cf,Fs,h5,M,l6,rfl,g8,hU⟩:=hcut;obtain⟨i7,HU⟩:=Xt6 g8 hU;obtain⟨m6,a3,b2,k5,k2⟩:=hU;have i6:Hid (M7 M K1 K2):=J6 a3.twin;obtain⟨c,c7,-,-⟩:=a3.bk.cell;have d3:=a3.bk.els;have j5:=a3.few;obtain⟨n,hn⟩:=exq M.length;rw[hn]at c7 d3;have m4:n<=100:=Q0;obtain⟨b8,HN⟩:=Xt6 d3 hn;clear q0 q1 q2 g8 a3 b2 k5 k2 d3 j5 hn a7 HQ a6 HG d8 a1 a2;obtain⟨w5,e6⟩:=exq wc;rw[e6]at c7 b8 HU|-;clear e6;go_wp2_with fail
 go_loopg [5,40] n (fun gg s5 l5 wx=>∃k y c9 Z,k<=n/\gg=n-k/\l5=I O k/\s5=.slice Z y c9/\Bz w5 wx/\X8 wx Z y c9 84 5 (X7 U0 (M0 (M.take k)))/\∀g,X5 Z=some g->w5.heap.size<=g)
 case atStart=>exact⟨0,0,0,none,U9 _,rfl,rfl,rfl,J9 _ _,QY _ _ _ _,by simp[X5]⟩
 obtain⟨k,y,c9,Z,hk,rfl,rfl,rfl,hB,hR,g9⟩:=hrel;obtain⟨u,HR,b0⟩:=Xt7 hB hR g9;have l9:y<=100000:=by have h1:=YU JG Q0 hR;have h2:=Kx (M.take k);rw[R7]at h2;omega
 have k8:=HU.below hB;obtain⟨l4,N,-,-,-⟩:=k8;have d7:=N.bk.cell;have f7:=N.frozen 7;clear hB hR g9 N
 by_cases m0:k<n
 ·have k1:(k:Int)<(n:Int):=by omega
  have l8:(0:Int)<=(k:Int):=Q0;have f5:k<M.length:=by have:=HN.out;omega
  obtain⟨b,b5,hA⟩:∃b b5,h5=some ⟨b,b5,none⟩:=by obtain⟨b,b5,h1,_⟩:=b8.2 Q0;exact⟨b,b5,h1⟩
  subst hA;obtain⟨x0,x1,x2,x3,x4⟩:=ML (b8.below u Q2) f5;have c5:=J6 (M9 f5);obtain⟨o,EO⟩:∃o,Hid (M[k]=o):=⟨_,J6 rfl⟩;rw[EO.out]at x0 x1 x2 x3 x4 c5;have a5:Bz wr (wr.alloc (.cells (Z8 o) 84)):=Q5.alloc Q2 _;have a0:=J6 a5;clear a5 d7 f7 c7
  by_cases hs:o.kind=1
  ·have d1:=V4 hs
   have b9:=J6 (show M0 (M.take (k+1))=M0 (M.take k)++[o] by rw[c5.out];exact Vs hs);have hO:=HR.below (a0.trans ((Q5.alloc Q2 (.cells (Z8 o) 84)).mono a0.size));have HO:=J6 (show World.ownsRow ((wr.alloc (.cells (Z8 o) 84)).alloc (.cells (Z8 o) 84)) 0 84 5 (.slice Z y c9) y (X7 U0 (M0 (M.take k)))from hO);have c8:=QN (wr.alloc (.cells (Z8 o) 84)) (.cells (Z8 o) 84);rw[show(wr.alloc (.cells (Z8 o) 84)).heap.size=wr.heap.size+1 by simp]at c8;have d9:=J6 c8;clear hs hO c8;unfold Z8 at HO d9;go_wp2_with (at_builtin;(refine VZ _ rfl _ _ 91 rfl 0 84 i0 _ 5 40 underlying91 j8 k9 l1 l2 rfl Q0 (.slice Z y c9) y _ rfl HO ⟨wr.heap.size+1,0,none⟩ 1 1 (U0 o) rfl rfl (XF (cs:=(U0 o).toArray) (t:=84) (fr:=(0,0)) d9) (BL _) Q0 Q9 Q0 Q3 (wr.heap.size+2) Q3 ?_);intro gg cap w3 g3 f2 a9 m3;have i3:=J6 g3;have h7:=J6 f2;have h6:=J6 a9;clear g3 f2 a9)
   go_roundg (n-(k+1))
   case measure=>omega
   have f1:=h7.out;rw[C8]at f1;have a9:=h6.out;rw[C8]at a9;have j7:w5.heap.size<=gg:=by
    obtain h1|h1:=a9
    ·exact b0 _ h1
    have:=u.size;show w5.heap.size<=gg;omega
   have j4:Bz w5 w3:=(((u.trans (a0.mono u.size)).alloc (by have:=a0.size;have:=u.size;omega) (.cells (Z8 o) 84))).grown f1 (by have:=a0.size;have:=u.size;simp;omega) (fun x hx=>b0 x hx);refine⟨k+1,y+1,cap,some ⟨gg,0,none⟩,Q0,rfl,J5,rfl,j4,?_,fun g E=>by cases E;exact j7⟩;rw[b9.out,AQ];exact i3
  have d1:=Z3 hs;have b9:=J6 (show M0 (M.take (k+1))=M0 (M.take k) by rw[c5.out];exact Vt hs);clear hs;go_wp2
  go_roundg (n-(k+1))
  case measure=>omega
  exact⟨k+1,y,c9,Z,Q0,rfl,J5,rfl,u.trans (a0.mono u.size),by rw[b9.out];exact HR.below a0,b0⟩
 obtain rfl:n=k:=by omega
 have k1:¬(n:Int)<(n:Int):=Q0;have e5:M.take n=M:=M4 (by rw[HN.out];exact X3 _);obtain⟨c',d7,-,-⟩:=d7;have d0:=HR.out;rw[e5]at d0;have i5:=J6 d0;clear d0 e5 c7;go_wp2;go_ret;have m5:=HU.below u;obtain⟨l4,N,k4,g5,k3⟩:=HU.out;have l7:=N;have k6:=N.bk.put u i5 b0;obtain⟨A',c2,j3,j9,j6⟩:=k6;have k7:=i6.filter (fun o=>o.kind ==1);have k0:(M0 M).length<=100:=by have:=Kx M;have:=N.few;omega
 obtain⟨j0,d4⟩:=N.bookAt j3 j9 j6 k7 k0;have e1:ZD m={m with L1:=M0 K1,L2:=M0 K2,an:=S8 m m.an,la:=S8 m m.la}:=by unfold ZD;rw[e3.1,e3.2]
 refine⟨Af,cf,Fs,rfl,i7,(g5.step d4).row,k3,_,?_,(k4.trans d4).bstep HF,fun g E⟨k,hk⟩=>(g5.step d4).far g E k hk⟩;rw[e1];exact j0.at_
structure Xr7(R V:Nat)(T:Option Addr)(tc:Nat)(Ap:Option Addr)(pc:Nat)(Ai:Option Addr)(ic:Nat)(m:Z6)(la:Int)(L1 L2:List X6)(F:Nat->Prop)(w:World)(cs:Array Value)(AL:Option Addr)(own:Nat->Nat->Prop)(L:List X6):Prop where
 mk_:Y2 w R cs T tc AL Ap pc Ai ic own {m with L1:=L1,L2:=L2,la:=la} L
 var:J7 w V 49 #[pA R]
 nv:∀k,¬own V k
 fp:∀i,F i↔(∃k,own i k)\/i=V
def Ag(R V:Nat)(T:Option Addr)(tc:Nat)(Ap:Option Addr)(pc:Nat)(Ai:Option Addr)(ic:Nat)(m:Z6)(la:Int)(L1 L2:List X6)(F:Nat->Prop)(w:World):Prop:=∃cs AL own L,Xr7 R V T tc Ap pc Ai ic m la L1 L2 F w cs AL own L
theorem Qz8{w R V}(h:J7 w V 49 #[pA R]){u}(j:w.cell? (aD R 4)=some u)(y:w.frozen? (aD R 4)=false)p:Calls prog 78 #[I O p,pA V] w fun i w'=>i=.returned (.tuple #[])/\w'=w.setCell (aD R 4) (I O p):=by
 have C:w.cell? (aD V 0)=some (pA R):=by rw[X9 h];rfl
 clear h;go_enter func78,ntmps78
 go_wp2_with fail
 refine EF (YV rfl _ _ _) rfl ?_;exact⟨rfl,rfl⟩
theorem Qg5{w w' own own' F V}(h:U3 w w' own own')(j:∀i,F i↔(∃k,own i k)\/i=V):U2 w w' F (fun i=>(∃k,own' i k)\/i=V):=by
 refine⟨h.1.mono (fun i u=>(j i).2 (.inl u)),fun i u=>?_⟩;rcases u with⟨k,hk⟩|rfl
 ·obtain e|e:=h.2 i k hk
  ·exact .inl ((j i).2 (.inl ⟨k,e⟩))
  exact .inr e
 exact .inl ((j i).2 (.inr rfl))
theorem Jv5(R V:Nat)(T:Option Addr)(tc:Nat)(Ap:Option Addr)(pc:Nat)(Ai:Option Addr)(ic:Nat)(m:Z6):GJ (Ag R V T tc Ap pc Ai ic m) (fun la p=>YA m.st m.dy m.an la p) (fun _ p=>p) (fun _=>0) 77 78 #[pA R] #[] #[pA V] 125 (IP (some (aD R 7))) (I O 0)where
 keep:=by rintro s L1 L2 F w w' S⟨cs,AL,own,L,h⟩hk hF;exact⟨cs,AL,own,L,h.mk_.keeps hk (fun i k hi=>hF i ((h.fp i).2 (.inl ⟨k,hi⟩))),V0 h.var hk (hF V ((h.fp V).2 (.inr rfl))),h.nv,h.fp⟩
 lt:=by
  rintro s L1 L2 F w⟨cs,AL,own,L,h⟩i hi;rcases(h.fp i).1 hi with⟨k,h1⟩|rfl
  ·exact h.mk_.ok.lt i k h1
  exact Z9 h.var
 ok:=by rintro s L1 L2 F w⟨cs,AL,own,L,h⟩;exact h.mk_.twin.lists h.mk_.few
 allows:=by rintro s L1 L2 F w p⟨cs,AL,own,L,h⟩-;exact Qx3 R m.st m.dy m.an s p w (h.mk_.cell h.mk_.rc.c1) (h.mk_.cell h.mk_.rc.c2) (h.mk_.cell h.mk_.rc.c3) (h.mk_.cell h.mk_.rc.c4)
 trades:=by
  rintro s L1 L2 F w p⟨cs,AL,own,L,h⟩hp-;refine(Qz8 h.var (h.mk_.cell h.mk_.rc.c4) (h.mk_.frozen 4) p).mono ?_;rintro ev w'⟨rfl,rfl⟩;obtain⟨h1,h2⟩:=h.mk_.setLa p;have hVR:V≠R:=fun e=>h.nv 1 (e▸h.mk_.oR)
  exact⟨rfl,_,⟨_,AL,own,L,h1,V0 h.var (U1 w ⟨R,4,none⟩ _) (fun e=>hVR e),h.nv,fun i=>KL⟩,Qg5 h2 h.fp⟩
 cut:=by
  rintro s L1 L2 F w x n⟨cs,AL,own,L,h⟩hx h1 h2;have hM:=h.mk_;obtain⟨e0,ht2⟩:=hM.twin.cutS_ (hM.twin.lists hM.few) hx h1 h2;refine(Ef w R _ cs 7 AL L hM.bk (by have:=hM.few;omega) x.id n (Xc8 hM.twin)).mono ?_;rintro e w'⟨rfl,ht⟩;rw[e0];obtain⟨cs',AL',own',hM',ho⟩:=hM.bookTo ht ht2 (U4 (Dg L x.id n) hM.few);refine⟨rfl,_,⟨cs',AL',own',_,hM',V0 h.var ho.1 (fun⟨k,hk⟩=>h.nv k hk),fun k hk=>?_,fun i=>KL⟩,Qg5 ho h.fp⟩;obtain e|e:=ho.2 V k hk
  ·exact h.nv k e
  have:=Z9 h.var;omega
 cnt_:=fun s p=>U9 _
 ega:=R0 func77 Q4 rfl
 egt:=R0 func78 Q4 rfl
def YM(own:Nat->Nat->Prop)(Y:Nat):Prop:=∀k,¬own Y k
structure YF(w wr:World)(R V X:Nat)(T:Option Addr)(tc:Nat)(Ap:Option Addr)(pc:Nat)(Ai:Option Addr)(ic:Nat)(own:Nat->Nat->Prop)(A:Option Addr)(c:Nat)(Fs:List C6)(ob:Array Value)(m:Z6)(cs:Array Value)(AL:Option Addr)(own':Nat->Nat->Prop)(L:List X6):Prop where
 mk_:Y2 wr R cs T tc AL Ap pc Ai ic own' m L
 step:U2 w wr (fun i=>∃k,own i k) (fun i=>∃k,own' i k)
 row:X8 wr A Fs.length c 127 4 (X7 QT Fs)
 far:∀g,X5 A=some g->YM own' g
 new_:∀g,X5 A=some g->w.heap.size<=g
 var:J7 wr V 49 #[pA R]
 nv:YM own' V
 box:J7 wr X 84 ob
 nx:YM own' X
 vl:w.heap.size<=V/\w.heap.size<=X
section
variable {w wr w':World} {R V X Y:Nat} {T:Option Addr} {tc:Nat} {Ap:Option Addr} {pc:Nat} {Ai:Option Addr} {ic:Nat} {own own' own2:Nat->Nat->Prop} {A:Option Addr} {c:Nat} {Fs:List C6} {ob:Array Value} {m m2:Z6} {cs cs2:Array Value} {AL AL2:Option Addr} {L L':List X6}
theorem YF.below(h:YF w wr R V X T tc Ap pc Ai ic own A c Fs ob m cs AL own' L)(i:Bz wr w'):YF w w' R V X T tc Ap pc Ai ic own A c Fs ob m cs AL own' L:=
 ⟨h.mk_.below i,h.step.trans (S5 i),h.row.below i,h.far,h.new_,Z4 h.var i,h.nv,Z4 h.box i,h.nx,h.vl⟩
theorem YF.newFar(h:YF w wr R V X T tc Ap pc Ai ic own A c Fs ob m cs AL own' L)(i:wr.heap.size<=Y):YM own' Y:=fun k hk=>by have:=h.mk_.ok.lt Y k hk;omega
theorem YF.keepY(h:YF w wr R V X T tc Ap pc Ai ic own A c Fs ob m cs AL own' L)(hk:X4 (fun i=>i=Y) wr w')(E:YM own' Y)(C:Y≠V)(D:Y≠X)(y:X5 A≠some Y)(Z:w.heap.size<=Y):YF w w' R V X T tc Ap pc Ai ic own A c Fs ob m cs AL own' L:=
 ⟨h.mk_.keeps hk (fun i k j N=>E k (by have e:i=Y:=N;exact e▸j)),⟨h.step.1.trans hk (fun i j=>.inr (by have e:i=Y:=j;omega)),h.step.2⟩,h.row.keeps hk (fun g J e=>y (by have u:g=Y:=e;exact u▸J)),h.far,h.new_,V0 h.var hk (fun e=>C e.symm),h.nv,V0 h.box hk (fun e=>D e.symm),h.nx,h.vl⟩
theorem Ep{wr w' own' own2 Y}(i:YM own' Y)(j:U3 wr w' own' own2)(u:Y<wr.heap.size):YM own2 Y:=fun k hk=>by
 obtain e|e:=j.2 Y k hk
 ·exact i k e
 omega
theorem YF.turn(h:YF w wr R V X T tc Ap pc Ai ic own A c Fs ob m cs AL own' L)(y:Y2 w' R cs2 T tc AL2 Ap pc Ai ic own2 m2 L')(j:U3 wr w' own' own2):YF w w' R V X T tc Ap pc Ai ic own A c Fs ob m2 cs2 AL2 own2 L':=
 ⟨y,h.step.trans (j.bstep (fun i=>KL)),h.row.keeps j.1 (fun g u⟨k,hk⟩=>h.far g u k hk),fun g u=>Ep (h.far g u) j (h.row.lt u),h.new_,V0 h.var j.1 (fun⟨k,hk⟩=>h.nv k hk),Ep h.nv j (Z9 h.var),V0 h.box j.1 (fun⟨k,hk⟩=>h.nx k hk),Ep h.nx j (Z9 h.box),h.vl⟩
theorem YF.cells{a1 a2 a3 a4 a5}(h:YF w wr R V X T tc Ap pc Ai ic own A c Fs #[a1,a2,a3,a4,a5] m cs AL own' L):wr.cell? (aD V 0)=some (pA R)/\wr.cell? (aD X 0)=some a1/\wr.cell? (aD X 1)=some a2/\wr.cell? (aD X 2)=some a3/\wr.cell? (aD X 3)=some a4/\wr.cell? (aD X 4)=some a5:=
 ⟨by rw[X9 h.var];rfl,by rw[X9 h.box];rfl,by rw[X9 h.box];rfl,by rw[X9 h.box];rfl,by rw[X9 h.box];rfl,by rw[X9 h.box];rfl⟩
theorem Ng{w6 W w4 own6 M1 M2 G' r o}(h:Y2 w6 R cs T tc AL Ap pc Ai ic own6 m L)(E:U2 w w6 (fun i=>∃k,own i k) (fun i=>∃k,own6 i k))(hb:Bz w6 W)(hx:J7 W X 84 ob)(fx:YM own6 X)(a6:w.heap.size<=V/\w.heap.size<=X)(a3:V≠X)(a5:V5 o.side)(hr:S6 m o=r)(u:AV (Ag R V T tc Ap pc Ai ic m) W w4 r.st (fun i=>(∃k,own6 i k)\/i=V) G' M1 M2 A c r.fills) (J:V1 o.side M1 M2=V1 o.side m.L1 m.L2) (N:V1 (3-o.side) M1 M2=r.rest):∃a0 Z own' L',YF w w4 R V X T tc Ap pc Ai ic own A c r.fills ob (VC m o) a0 Z own' L'/\∀i t C,J7 W i t C->YM own6 i->i≠V->J7 w4 i t C/\YM own' i/\X5 A≠some i:=by
 obtain⟨a0,Z,own',L',hk⟩:=u.mk_;have hW:=hb.size;have a7:=E.1.size;have e1:({m with L1:=M1,L2:=M2,la:=r.st}:Z6)=VC m o:=by
  unfold VC;rw[hr];have hL:M1=(if o.side=1 then m.L1 else r.rest)/\M2=(if o.side=1 then r.rest else m.L2):=by
   obtain e2|e2:=a5
   ·rw[e2]at J N|-
    rw[X0 rfl,X0 rfl];exact⟨J,N⟩
   rw[e2]at J N|-;rw[J8 Q1,J8 Q1];exact⟨N,J⟩
  rw[<-hL.1,<-hL.2]
 have hM:=hk.mk_;rw[e1]at hM;have a4:∀i,YM own6 i->i<W.heap.size->i≠V->YM own' i:=fun i j a2 D k y=>by
  rcases u.step.2 i ((hk.fp i).2 (.inl ⟨k,y⟩))with(⟨k',e⟩|e)|e
  ·exact j k' e
  ·exact D e
  omega
 have a1:∀i t C,J7 W i t C->YM own6 i->i≠V->J7 w4 i t C/\YM own' i/\X5 A≠some i:=fun i t C hB j D=>by
  have a2:=Z9 hB;refine⟨V0 hB u.step.1 ?_,a4 i j a2 D,fun e=>?_⟩
  ·rintro(⟨k,y⟩|e)
   ·exact j k y
   exact D e
  have:=(u.fpA i e).2;omega
 refine⟨a0,Z,own',L',⟨hM,⟨?_,?_⟩,u.row,fun g hg k y=>(u.fpA g hg).1 ((hk.fp g).2 (.inl ⟨k,y⟩)),fun g hg=>by have:=(u.fpA g hg).2;omega,hk.var,hk.nv,(a1 X _ _ hx fx (Ne.symm a3)).1,(a1 X _ _ hx fx (Ne.symm a3)).2.1,a6⟩,a1⟩
 ·refine(E.1.trans (B9 hb (fun _=>False)) (fun i j=>j.elim)).trans u.step.1 (fun i j=>?_)
  obtain j|e:=j
  ·exact E.2 i j
  exact .inr Q0
 rintro i⟨k,y⟩;rcases u.step.2 i ((hk.fp i).2 (.inl ⟨k,y⟩))with(e|e)|e
 ·exact E.2 i e
 ·exact .inr Q0
 exact .inr Q0
end
theorem Dl{σ:Type}(al:σ->Int->Bool)(tr:σ->Int->σ):∀(L:List X6)(o:X6)(s:σ),(A4 al tr L o s).left.kind=o.kind
 | [],o,s=>rfl
 |x::t,o,s=>by
  unfold A4
  split
  ·rfl
  split
  ·exact Dl al tr t o s
  split
  ·rfl
  split
  ·rfl
  exact Dl al tr t (D9 o _) _
set_option linter.unusedSimpArgs false
theorem Xg2{m id}(h:∀j(i:j<m.pk.length),m.pk[j].id≠id):FD m id=false:=by unfold FD;rw[Vg];intro o u;obtain⟨j,i,rfl⟩:=ZX.1 u;simpa using h j i
theorem Jv6{m id k}(hk:k<m.pk.length)(h:m.pk[k].id=id):FD m id=true:=by unfold FD;rw[Vj];exact⟨_,C7 hk,by simp[h]⟩
theorem Qz9{w R F m}(h:N4 w R F m)(d6:m.pk.length<=100000)id:Calls prog 31 #[pA R,I O id] w fun ev w'=>ev=.returned (I O (ZP m id))/\F3 w w' R F (N3 m id):=by
 have g0:=J6 h;obtain⟨cs,T,tc,AL,Ap,c,Ai,ic,own,L,Z,hF⟩:=h;have c9:=Z.cell Z.rc.c10
 by_cases p7:m.ph=7
 ·have d7:=V4 p7
  have HS:Hid (ZP m id=6/\N3 m id=m):=J6 ⟨by unfold ZP;rw[X0 p7],by unfold N3;rw[X0 p7]⟩;obtain⟨ph,a8⟩:=exq m.ph;rw[a8]at c9 d7;clear p7 Z hF d6 a8;go_enter func31,ntmps31
  go_wp2;go_ret;rw[HS.1,HS.2];exact⟨rfl,GW g0 Q5⟩
 have d7:=Z3 p7;have b2:=J6 p7;have c8:=Z.cell Z.rc.c8;obtain⟨n,hn⟩:=exq m.pk.length;rw[hn]at c8 d6;have HN:=J6 hn;obtain⟨ph,a8⟩:=exq m.ph;rw[a8]at c9 d7;obtain⟨HM,HF⟩:=Xt6 Z hF;have c5:=X8.le_cap Z.park;rw[hn]at c5;unfold maxLen at c5;obtain⟨i0,f0,f6,f7,f8⟩:=W8 Uj;clear p7 Z hF a8 hn;go_enter func31,ntmps31
 go_wp2_with fail
 clear c9 c8 d7
 go_loopg [19] n (fun gg i6 wx=>∃k,k<=n/\gg=n-k/\i6=I O k/\Bz w wx/\Hid (∀j(hj:j<m.pk.length),j<k->m.pk[j].id≠id))
 case atStart=>exact⟨0,U9 _,rfl,rfl,J9 _ _,J6 fun j hj h=>absurd h Q0⟩
 obtain⟨k,hk,rfl,rfl,hB,b0⟩:=hrel;have J:=HM.below hB
 by_cases h8:k<n
 ·have d4:k<m.pk.length:=by rw[HN.out];exact h8
  have d5:=J.park;obtain⟨b,a1,hA⟩:∃b a1,Ap=some (aD b a1):=by obtain⟨g,h1⟩:=EL d5 Q0;exact⟨g,0,h1⟩
  subst hA;have d2:C0 wr U0 5 (some (aD b a1)) n m.pk:=by have h1:=CY JG Q0 d5;rw[HN.out]at h1;exact h1
  obtain⟨x0,x1,x2,x3,x4⟩:=ML d2 d4;have E:=J.cell J.rc.c8;rw[HN.out]at E;obtain⟨a9,HB,a0⟩:=Xt7 d2 hB J;obtain⟨o,EO⟩:∃o,Hid (m.pk[k]=o):=⟨_,J6 rfl⟩;rw[EO.out]at x0 x1 x2 x3 x4;have j3:(0:Int)<=(k:Int):=Q0;have j7:(k:Int)<(n:Int):=Q0;clear d5 d2 hB J
  by_cases he:o.id=id
  ·have d1:=V4 he
   have h2:Hid ((m.pk.findIdx fun o=>o.id ==id)=k):=J6 (Qh5 d4 (by rw[EO.out];exact he) b0);have a6:Hid (FD m id=true):=J6 (Jv6 d4 (by rw[EO.out];exact he));clear he;go_upto_region 7 with fail
   obtain⟨w3,d0⟩:=exq (wr.alloc (.cells #[I O o.id,I O o.side,I O o.kind,I O o.price,I O o.qty] 84));have D:Bz wr w3:=by rw[<-d0];exact Q5.alloc Q2 _
   obtain⟨g2,e4,a9⟩:=Xt7 (HB.trans (D.mono HB.size)) (a0.below D) (a9.below D Q2);have E:w3.cell? (aD R 8)=some (.slice (some (aD b a1)) n c):=(D.cell (U5 wr _ E)).trans E;rw[d0];clear d0 D x0 x1 x2 x3 x4;obtain⟨a2,h0⟩:=Xt6 (show∀W,Bz w3 W->W.cell? (aD R 8)=some (.slice (some (aD b a1)) n c)from fun W hb=>(hb.cell (U5 w3 _ E)).trans E) (show∀W,Bz w3 W->W.frozen? (aD R 8)=false from fun W hb=>(e4.below hb).frozen 8);have h4:n<=c:=c5.1;have j0:c<=9223372036854775807:=c5.2;have j4:(k:Int)<=(c:Int):=Q0;have j5:(k:Int)+1<=(c:Int):=Q0;have j6:(k:Int)+1<=(n:Int):=Q0;have j1:(n:Int)<=(c:Int):=Q0;have j9:=d6
   go_cut [] (fun wx=>∃A2 c2 W,X8 W A2 (n-1) c2 84 5 (X7 U0 (QM m.pk k))/\Bz w3 W/\(∀g,X5 A2=some g->w3.heap.size<=g)/\wx=W.setCell ⟨R,8,none⟩ (.slice A2 (n-1) c2))
   case first=>
    obtain⟨d9,f9,e5,h9,f2,h6⟩:=Qb6 a9 (k:=k) Q0 h4 HN;have g7:=J6 h6;have k0:IntKind.i64.wrap ((k:Int)+1)=(k:Int)+1:=by rw[YR];omega
    have i9:(0:Int)<=(k:Int)+1:=Q0;refine SP 19 (fun W=>W.cell? ⟨R,8,none⟩=some (.slice (some ⟨b,a1,none⟩) n c)) Q4 E (fun C=>?_);refine tT 0 ?_;refine tT 2 ?_;refine tT 3 ?_;refine tT 4 ?_;refine tT 5 ?_;refine tT 6 ?_;refine tT 7 ?_;refine tT 9 ?_;refine tT 10 ?_;refine tT 11 ?_;refine tT 12 ?_;refine tT 13 ?_;refine tT 14 ?_;refine tT (v:=.slice d9 f9 e5) 15 ?_ (hy:=fun W _=>by
     rw[<-h9]
     by_cases e:k+1=c
     ·obtain rfl:c=k+1:=e.symm
      obtain rfl:n=k+1:=Q0;rw[X0 rfl];go_simp
     have e2:¬c=k+1:=fun h=>e h.symm;rw[J8 e];go_simp)
    clear E C;have i:=J6 (show Bz w3 w3 from J9 _ _);refine VU 1 Q4 rfl (fun K1 u=>?_);go_simp;obtain⟨v1,b5⟩:=exq ((w3.alloc (.cells #[] 84)).drew);have D:Bz w3 v1:=by rw[<-b5];exact Z2 (Q5.alloc Q2 _)
    have g8:=J6 (show X8 v1 (sA (zS w3)) 0 0 84 5 [] by rw[<-b5];exact X8.made _ _ _);rw[b5];clear b5;have i:=J6 D;have a7:=J6 i.size;clear D;refine u _ _ (a2 _ i) (fun C=>?_);clear u C;refine VU 8 Q4 rfl (fun K1 u=>?_);refine Xm JG BL Q8 _ _ _ Q8 84 i0 _ 40 underlying91 f0 f6 f7 f8 rfl Q0 (sA (zS w3)) 0 0 [] Q8 g8 (some (aD b a1)) k c (m.pk.take k) Q8 (Pq (a9.below i Q2) Q0) Q9 Q0 ?_;intro A1 c1 v2 d8 e8 e6;rw[KC,EE]at d8;rw[KC];obtain⟨g5,e3,i⟩:=Xt7 d8 (Qu e6 (Qp Q2) a7) (WT i e8 (Qp Q2) a7);have a7:=J6 i.size;clear d8 e8 e6;refine u _ _ (a2 _ i) (fun C=>?_);clear u C;simp only[Act.put,List.setIfInBounds_toArray,List.set_cons_zero,List.set_cons_succ];refine VU 16 Q4 rfl (fun K1 u=>?_);refine Xm JG BL Q8 _ _ _ Q8 84 i0 _ 40 underlying91 f0 f6 f7 f8 rfl Q0 (A1) k c1 (X7 U0 (m.pk.take k)) Q8 g5 d9 f9 e5 (m.pk.drop (k+1)) Q8 (g7.below i Q2) Q9 Q0 ?_;intro A2 c2 v3 a5 e9 e7;rw[f2]at a5;rw[f2];obtain⟨g3,g4,i⟩:=Xt7 a5 (Qu e7 e3 a7) (WT i e9 e3 a7);clear a5 e9 e7;refine u _ _ (a2 _ i) (fun C=>?_);clear u C;simp only[Act.put,List.setIfInBounds_toArray,List.set_cons_zero,List.set_cons_succ];refine VU 17 Q4 rfl (fun K1 u=>?_);go_simp;refine u _ _ (a2 _ i) (fun C=>?_);clear u C;refine VU 18 Q4 rfl (fun K1 u=>?_);go_simp;refine u _ _ (a2 _ i) (fun C=>?_);clear u C;have h7:=h0.out _ i;have h5:=a2.out _ i;refine TV Q4 rfl (fun K1 u=>?_);go_simp;refine u _ _ (TZ Q4 ?_ _);clear u h7 h5;go_wp2;go_meet;exact⟨A2,c2,v3,by have h:=g3.out;unfold QM;rw[NM];exact h,i,g4,rfl⟩
   obtain⟨A2,c2,W,a5,hb,ha,rfl⟩:=hcut;have f1:(QM m.pk k).length=n-1:=by unfold QM;rw[B6,R7,UQ,HN.out];omega
   have f3:X8 W A2 (QM m.pk k).length c2 84 5 (X7 U0 (QM m.pk k)):=by rw[f1];exact a5
   obtain⟨own',a3,a4⟩:=e4.pkTo hb f3 ha;rw[f1]at a3 a4;obtain⟨c6,c7⟩:=Xt6 a3 a4;clear a5 f3 a3 a4 E;go_wp2;go_ret;have e1:ZP m id=0:=by unfold ZP;rw[J8 b2,X0 a6.out]
   have e2:N3 m id={m with pk:=QM m.pk k}:=by unfold N3;rw[J8 b2.out,X0 a6.out,h2.out]
   rw[e1,e2];exact⟨rfl,c6.to_ ((N0 g2).trans c7) HF⟩
  have d1:=Z3 he;have h3:Hid (∀j(hj:j<m.pk.length),j<k+1->m.pk[j].id≠id):=J6 (fun j hj j2=>by
   by_cases e:j=k
   ·subst e;rw[EO.out];exact he
   exact b0 j hj Q0)
  have g1:=J6 (HB.trans (((J9 (zS wr) wr).alloc Q2 (.cells #[I O o.id,I O o.side,I O o.kind,I O o.price,I O o.qty] 84)).mono HB.size));clear he E;go_wp2
  go_roundg (n-(k+1))
  case measure=>omega
  exact⟨k+1,Q0,rfl,J5,g1,h3⟩
 obtain rfl:k=n:=by omega
 have j8:¬(k:Int)<(k:Int):=Q0;have a6:Hid (FD m id=false):=J6 (Xg2 (fun j hj=>b0 j hj (by have:=HN.out;omega)));obtain⟨HB,a0,HC⟩:=Xt7 hB J (Mj wr R _ cs 7 AL L J.bk (by have:=J.few;omega) id);obtain⟨⟨i1,i2,i3,i4,i5⟩,f4⟩:∃x,Jq L id=x:=⟨_,rfl⟩;obtain⟨ev,d3⟩:=exq (Jp L id);rw[f4,d3,show V6 (⟨i1,i2,i3,i4,i5⟩:X6)=.agg #[I O i1,I O i2,I O i3,I O i4,I O i5]from rfl]at HC;have g9:=J6 d3;clear hB J f4 d3 b0;go_wp2_with fail
 refine HC.mono ?_;rintro e w4⟨rfl,ht⟩;obtain⟨e1,e2,f5⟩:=Qy1 a0.twin (a0.twin.lists a0.few) id;obtain⟨i8,i7,own',a3,a4⟩:=a0.bookTo ht f5 (by have h1:=Mq L (L.findIdx fun o=>o.id ==id);have:=a0.few;show(QM L _).length<=100;omega);obtain⟨c6,c7,g6⟩:=Xt7 a3 a4 e1;clear ht e1 e2 f5 a3 a4 HC;go_wp2;go_ret;have q1:ZP m id=ev:=by
  unfold ZP;rw[J8 b2,J8 (by rw[a6.out];decide),<-g9.out,<-g6.out]
  rfl
 have q2:N3 m id={m with L1:=L9 m.L1 id,L2:=L9 m.L2 id}:=by unfold N3;rw[J8 b2,J8 (by rw[a6.out];decide)]
 rw[q1,q2];have D:Bz w4 (w4.alloc (.cells #[I O i1,I O i2,I O i3,I O i4,I O i5] 84)):=Q5.alloc Q2 _;exact⟨rfl,(c6.to_ ((N0 HB).trans c7) HF).then_ D⟩
