/- Parts. -/
import Derived.Test.YtfoikonjjojkaaaGreatDoorZt29
import Derived.Test.YtfoikonjjojkaaaGreatDoorZt26
set_option linter.unusedVariables false
set_option maxRecDepth 100000
set_option maxHeartbeats 8000000
open Go.Proofs.Tryz
open Go.Value renaming int→I,pointer→IP
open Go.IntKind renaming i64→O
namespace Go.Proofs.YtfoikonjjojkaaaGreatDoor
open Go Go.RowKit
structure NX(w:World):Prop where
 glob:QH w
 sp : Lib.TabIs Tryz.prog w "strings.asciiSpace" .u8 Lib.asciiSpaceTab
 ml:∃m:Int,w.cell? ⟨4,0,none⟩=some (I O m)
theorem Qg6 : Tryz.prog.globalNamed "strings.asciiSpace" = some 0 := by kernel_rfl
theorem NX.below{w w' B}(h:NX w)(j:Below B w w')(i:12<=B):NX w':=by obtain⟨h1,h2,m,u⟩:=h;exact⟨h1.below j i,var?_below j Qg6 (D0 Q1 i) h2,m,(j.cell (p:=(aD 4 0)) (D0 Q1 i)).trans u⟩
theorem Qt6 t(ht:t.size<=4000)w(hg:NX w)(hz:12<=w.heap.size):Calls prog 5 #[.string t] w fun e w'=>e=.returned (.string ⟨(Ql t.data.toList).toArray⟩)/\Bz w w':=by
 obtain⟨m,hm⟩:=hg.ml;obtain⟨HG,HS⟩:=Xt6 hg (Qi3 t 10 m w Q0 hm);have x2:¬(20000:Int)<(t.size:Int):=Q0;have v9:= @run_makeMap prog;clear hg hm;go_enter func5,ntmps5
 go_wp2_with fail
 refine HS.mono ?_;rintro ev w1⟨rfl,g2⟩;obtain⟨L,hL⟩:=exq (Lib.splitB ⟨#[10]⟩ 0 (Lib.countB t ⟨#[10]⟩) t);have d9:=Lib.splitB_all ⟨#[10]⟩ Q1 0 _ t rfl;obtain⟨p,hp⟩:=exq (Lib.countB t ⟨#[10]⟩);obtain⟨J,a4⟩:=exq (p+1);rw[hL]at g2;rw[hp]at hL d9;rw[hL,a4]at d9;rw[hp,a4];have e6:p<=4000:=by have:=Lib.countB_le ⟨#[10]⟩ Q1 _ t Q2;omega
 obtain⟨x,hx⟩:∃x,L[p]?=some x:=⟨L[p]'(by omega),JY Q0⟩;have h7:=J6 (Qy8 t L (by rw[hp];exact hL) x (by rw[d9,<-a4];exact hx));have j9:Below w.heap.size w w1:=g2▸(J9 _ w).alloc Q2 _;have f6:J7 w1 w.heap.size 9 (L.map Value.string).toArray:=g2▸Z5 w _ _;obtain⟨gl,k5⟩:=exq w.heap.size;have h0:=J6 j9;rw[k5]at j9 f6|-;obtain⟨HL,d4,q4,HP,m8⟩:=Xt9 f6 d9 k5 e6 a4;have c0:w1.cell? ⟨gl,p,none⟩=some (.string x):=by rw[X9 f6];simp[hx]
 clear j9 f6 hL d9 g2 k5 HS hp hx;go_upto_region 4 with fail
 obtain⟨bl,o3⟩:∃b:Bool,(decide (1<J) &&decide (x.data.toList=[]))=b:=⟨_,rfl⟩;have C:=J6 o3;clear o3
 go_cut [37] (fun u7 wx=>u7=.bool bl/\wx=w1)
 case first=>
  by_cases h1:1<J
  ·have d1:decide (1<(J:Int))=true:=V7 Q0
   have H1:=J6 h1;have i1:IntKind.i64.wrap ((J:Int)-1)=(p:Int):=by rw[YR];omega
   have i2:(0:Int)<=(p:Int):=Q0;have i3:(p:Int)<(J:Int):=Q0;clear h1 e6 a4;go_wp2;go_meet;exact⟨by rw[<-C.out,GR H1.out,Bool.true_and];exact C5 Value.bool (by rw[Lib.toList_data];cases x.data.toList<;>rfl),rfl⟩
  have d1:decide (1<(J:Int))=false:=V9 Q0;obtain rfl:false=bl:=by rw[<-C.out];simp[h1]
  clear h1 e6 a4;go_wp2;go_meet;exact⟨rfl,rfl⟩
 obtain⟨rfl,rfl⟩:=hcut;go_upto_if 37 with fail
 go_cut [3] (fun s3 wx=>∃n',s3=.slice (some ⟨gl,0,none⟩) n' J/\wx=wc/\Hid (n'<=J/\(L.take n').map (·.data.toList)=E6 (Lib.trimSuffix t.data.toList [10])))
 case first=>
  cases bl with
  |true=>
   have j5:=C.out;simp only[Bool.and_eq_true,decide_eq_true_eq]at j5;have e7:=J6 j5;have i1:IntKind.i64.wrap ((J:Int)-1)=(p:Int):=by rw[YR];omega
   have i2:(0:Int)<=(p:Int):=Q0;have i3:(p:Int)<=(J:Int):=Q0;clear j5 e6 a4;go_wp2;go_meet;have hl:=d4.out;have hn:=m8.out;exact⟨p,rfl,rfl,J6 ⟨Q0,by have:=h7.1 ⟨by rw[hl];exact e7.1,e7.2⟩;rwa [hl,show J-1=p by omega]at this⟩⟩
  |false=>
   have e7:Hid (¬(1<J/\x.data.toList=[])):=J6 (fun h=>by have:=C.out;simp[h.1,h.2]at this);clear e6 a4;go_wp2;go_meet;exact⟨J,rfl,rfl,J6 ⟨X3 _,by rw[M4 (CB d4)];exact h7.2 (by rw[d4.out];exact e7)⟩⟩
 obtain⟨n',rfl,rfl,e9⟩:=hcut;have w8:n'<=4001:=by have:=e9.1;have:=m8.out;omega
 clear C h7 a4 c0;have v2:=J6 (h0);go_wp2_with (with_reducible (refine Gz 45 (.tmp 43) underlying45 underlying9 UK wc.heap.size Q6 Fw _ [] _ Q6 (by with_unfolding_all exact M6.made _) Jk6 ?_);intro w2 hM f9)
 obtain⟨mp,b2⟩:=exq wc.heap.size;have a9:w2.heap.size=mp+1:=by rw[f9.size,<-b2];simp
 rw[b2]at f9 hM;have a8:Below mp wc w2:=((J9 mp wc).alloc (CB b2.symm) _).trans (f9.below Q2);obtain⟨wh,b9⟩:=exq (w2.alloc (.cells #[.slice none 0 0,I O 0,I O 0,I O 0,I O 0,I O 0,.pointer none] 51));have a1:Below mp wc wh:=b9▸a8.alloc Q0 _;have hH:J7 wh (mp+1) 51 (AC none 0 QU none):=b9▸a9▸Z5 w2 _ _;have n9:M6 wh mp (SA (fun i=>I O (VN i)) QP 0) 18:=b9▸(Jw4▸hM:M6 w2 mp _ 18).alloc _;obtain⟨h3,q9,r1⟩:=Xt7 (h0.trans (a1.mono (by have:=h0.size;omega))) (HL.keep (b2▸a1)) n9;obtain⟨E,f4⟩:=exq (mp+1);have N:=J6 (show mp+1=E/\wh.heap.size=E+1/\gl=w.heap.size/\w.heap.size<mp by have h1:=q4.out;have h2:=(Z9 HL);exact⟨f4,by rw[<-b9,<-f4];simp[a9],h1.symm,Q0⟩)
 rw[a9,b2,b9];rw[f4]at hH|-;have HH:=J6 hH;clear a8 a1 hH n9 f9 hM b9 a9 b2 f4;obtain⟨D,f8⟩:=exq ((L.take n').map (·.data.toList));have q8:=J6 f8;have i8:Hid (D=E6 (Lib.trimSuffix t.data.toList [10])/\D.length=n'):=J6 ⟨by rw[<-f8];exact e9.2,by rw[<-f8,UJ,R7,d4.out];exact SW e9.1⟩;clear f8
 go_loopg [6,49] n' (fun gg s6 u8 wx=>∃i:Nat,i<=n'/\gg=n'-i/\u8=I O i/\(∃ob,s6=.string ob/\Hid (ob.data.toList=BN QU (D.take i)/\ob.size<=i*10000000001))/\Hid (∃G,JP wx E G i (JL QU (D.take i))/\∀j,G j->E<=j)/\Hid (Below E wh wx))
 case atStart=>exact⟨0,U9 _,rfl,rfl,⟨_,rfl,J6 ⟨rfl,Q1⟩⟩,J6 ⟨fun i=>i=E,(show LL wh E (fun i=>i=E) QU from⟨none,0,HH,QY _ _ _ _,fun i hi=>by simp[X5]at hi,fun i=>by simp[X5]⟩).at_ rfl,fun j hj=>CB hj.symm⟩,J6 Q5⟩
 obtain⟨i,hi,rfl,rfl,⟨ob,rfl,f1⟩,h6,C⟩:=hrel
 by_cases s5:i<n'
 ·obtain⟨xi,g7⟩:∃xi,L[i]?=some xi:=⟨L[i]'(by rw[d4.out];have:=e9.1;omega),JY _⟩
  have v5:=J6 g7;have hE:=N.out;have cI:wr.cell? ⟨gl,i,none⟩=some (.string xi):=by refine(C.cell (p:=⟨gl,i,none⟩) (by show gl<E;omega)).trans ?_;rw[X9 q9.out];simp[g7]
  have j8:D[i]?=some xi.data.toList:=by rw[<-q8.out,GP,Ay,X0 s5,g7];rfl
  have t9:xi.size<=4000:=by have h1:=(Vv (Lib.trimSuffix t.data.toList [10])).1 xi.data.toList (by rw[<-i8.1];exact Ve j8);have h2:=Lib.trimSuffix_le t.data.toList [10];rw[<-KD]at h1 h2;omega
  have k7:NX wr:=(HG.below h3 hz).below C Q0;have p5:12<=wr.heap.size:=by have:=C.size;omega
  obtain⟨m2,a9⟩:=k7.ml;obtain⟨n3,q5,r0⟩:=Xt7 (Qi3 xi 32 m2 wr Q0 a9) k7 j8;have i1:(0:Int)<=(i:Int):=Q0;have i2:(i:Int)<(n':Int):=Q0;clear g7 j8 k7 a9 hE;go_wp2_with fail
  refine n3.mono ?_;rintro ev w3⟨rfl,g3⟩;obtain⟨P,hP⟩:=exq (Lib.splitB ⟨#[32]⟩ 0 (Lib.countB xi ⟨#[32]⟩) xi);have g1:=Lib.splitB_all ⟨#[32]⟩ Q1 0 _ xi rfl;have t5:Lib.countB xi ⟨#[32]⟩+1<=4001:=by have:=Lib.countB_le ⟨#[32]⟩ Q1 _ xi Q2;omega
  obtain⟨np,p0⟩:=exq (Lib.countB xi ⟨#[32]⟩+1);rw[hP]at g1 g3;rw[p0]at g1 t5|-;have r6:=J6 (show Lib.goFieldsP ZW xi=P.filter (fun x=>decide (x.data.toList≠[])) by rw[Qy7,hP]);have a1:Bz wr w3:=g3▸(J9 _ wr).alloc Q2 _;have j6:J7 w3 wr.heap.size 9 (P.map Value.string).toArray:=g3▸Z5 wr _ _;obtain⟨gs,k6⟩:=exq wr.heap.size;rw[k6]at j6|-;obtain⟨a7,m9,v3,n1⟩:=Xt8 a1 j6 k6 g1;obtain⟨i0,s1,u2,u3,u4⟩:=W8 Ye;clear hP g1 g3 a1 j6 k6 p0 n3 cI;go_wp2_with fail
  obtain⟨wo,t7⟩:=exr wr;subst t7
  go_loopg [9,56] np (fun gg s9 u9 wx=>∃(j nn c9:Nat)(A9:Option Addr),j<=np/\gg=np-j/\u9=I O j/\s9=.slice A9 nn c9/\Hid (((P.take j).filter (fun x=>decide (x.data.toList≠[]))).length=nn/\nn<=j)/\Bz w3 wx/\X8 wx A9 nn c9 9 1 (((P.take j).filter (fun x=>decide (x.data.toList≠[]))).map Value.string)/\∀g,X5 A9=some g->w3.heap.size<=g)
  case atStart=>exact⟨0,0,0,none,U9 _,rfl,rfl,rfl,J6 ⟨rfl,X3 _⟩,J9 _ _,QY _ _ _ _,by simp[X5]⟩
  obtain⟨j,nn,c9,A9,hj,rfl,rfl,rfl,d5,hB,Z,p3⟩:=hrel;obtain⟨HB,HR,j0⟩:=Xt7 hB Z p3;clear hB Z p3
  by_cases s7:j<np
  ·have j1:(0:Int)<=(j:Int):=by omega
   have j2:(j:Int)<(np:Int):=Q0;obtain⟨y,hy⟩:∃y,P[j]?=some y:=⟨P[j]'(by rw[n1.out];exact s7),JY _⟩;have d6:=J6 (show P.take (j+1)=P.take j++[y] by rw[List.take_add_one,hy];rfl);have cJ:wr.cell? ⟨gs,j,none⟩=some (.string y):=by refine(HB.cell (p:=⟨gs,j,none⟩) (Z9 m9)).trans ?_;rw[X9 m9.out];simp[hy]
   have b5:=d5.2;clear hy
   by_cases a6:y.data.toList=[]
   ·have t1:y.toList.isEmpty=true:=by rw[Lib.toList_data,a6];rfl
    have HF:=J6 (show(P.take (j+1)).filter (fun x=>decide (x.data.toList≠[]))=(P.take j).filter (fun x=>decide (x.data.toList≠[])) by rw[d6.out,JE,ED (by simpa using a6),List.filter_nil,BF]);clear a6;go_wp2
    go_roundg (np-(j+1))
    case measure=>omega
    exact⟨j+1,nn,c9,A9,Q0,rfl,J5,rfl,J6 ⟨by rw[HF.out];exact d5.1,Q0⟩,HB,by rw[HF.out];exact HR,j0⟩
   have t1:y.toList.isEmpty=false:=by rw[Lib.toList_data];cases e:y.data.toList with|nil=>exact absurd e a6|cons a l=>rfl
   obtain⟨HF,i7,h8⟩:=Xt7 (show(P.take (j+1)).filter (fun x=>decide (x.data.toList≠[]))=(P.take j).filter (fun x=>decide (x.data.toList≠[]))++[y] by rw[d6.out,JE,RX (by simpa using a6),List.filter_nil]) (CC HR ((J9 wr.heap.size wr).alloc Q2 (.cells #[.string y] 9))) (QN wr (.cells #[.string y] 9));clear a6;go_wp2_with (at_builtin;(refine VZ _ rfl _ _ 43 rfl 0 9 i0 _ 1 16 underlying43 s1 u2 u3 u4 rfl Q0 (.slice A9 nn c9) nn _ rfl i7 ⟨wr.heap.size,0,none⟩ 1 1 [.string y] rfl rfl (XF (cs:= #[.string y]) (t:=9) (fr:=(0,0)) h8) J0 Q0 Q9 Q0 Q3 (wr.heap.size+1) Q3 ?_);intro gg cap w4 e4 d8 a0 o7;have h9:=J6 e4;have d3:=J6 d8;have g9:=J6 a0;clear e4 d8 a0)
   go_roundg (np-(j+1))
   case measure=>omega
   have a5:=d3.out;rw[C8]at a5;have a0:=g9.out;rw[C8]at a0;have l4:=HB.size;have a1:Bz w3 w4:=(HB.alloc l4 (.cells #[.string y] 9)).grown a5 Q7 (fun y hy=>by have:=j0.out y hy;omega);refine⟨j+1,nn+1,cap,some ⟨gg,0,none⟩,Q0,rfl,J5,rfl,J6 ⟨by rw[HF.out,B6,d5.1];rfl,Q0⟩,a1,?_,fun g hg=>?_⟩
   ·rw[HF.out,L6]
    exact h9
   cases hg;obtain h1|h1:=a0
   ·exact j0 _ h1
   show w3.heap.size<=gg;omega
  have s4:j=np:=by omega
  have j2:¬(j:Int)<(np:Int):=Q0;have b8:P.take j=P:=M4 (by rw[n1.out];omega);have b5:=d5.out;have Z:=HR.out;rw[b8,<-r6.out]at b5 Z;obtain⟨W,hW⟩:=exq (Lib.goFieldsP ZW xi);rw[hW]at b5 Z;obtain⟨HW,f3,j4⟩:=Xt7 hW Z b5.1;have t0:nn<=4001:=by have:=b5.2;omega
  have f0:=J6 (show XS (JL QU (D.take i)) xi=Zh (JL QU (D.take i)) W by unfold XS;rw[hW]);clear s4 b8 b5 Z hW HR d5;go_upto_if 69 with fail
  go_cut [12,13] (fun l6 u5 wx=>∃(a:ByteArray)(e:Int),l6=.string a/\u5=I O e/\a.size<=10000000000/\V3 e/\Hid ((XS (JL QU (D.take i)) xi).2=if e=0 then a.data.toList else BB e)/\Hid (∃G,JP wx E G (i+1) (XS (JL QU (D.take i)) xi).1/\∀j,G j->E<=j)/\Hid (Below E wh wx))
  case first=>
   cases W with
   |nil=>
    obtain rfl:0=nn:=j4.out;have t1:decide (0<((0:Nat):Int))=false:=rfl;have HA:=J6 (show(XS (JL QU (D.take i)) xi)=(JL QU (D.take i),[111,107])from f0.out);clear t0;go_wp2;go_meet;refine⟨⟨#[111,107]⟩,0,rfl,rfl,Q1,(by unfold V3;omega),J6 (by rw[HA.out,X0 rfl]),J6 ?_,J6 ?_⟩
    ·obtain⟨G,h1,h2⟩:=h6.out
     rw[HA.out];exact⟨G,((h1.below a7).below (HB.mono Q2)).up,h2⟩
    exact C.trans ((a7.trans (HB.mono a7.size)).mono (by have:=C.size;have:=N.out;omega))
   |cons c ws=>
    have s8:0<nn:=by have:=j4.out;rw[JA]at this;omega
    obtain⟨ga,rfl,cA⟩:=f3.cell (j:=0) rfl;have t1:decide (0<(nn:Int))=true:=V7 Q0;have i3:(0:Int)<(nn:Int):=Q0;have o1:M6 wr mp (SA (fun i=>I O (VN i)) QP 0) 18:=((r1.below C (by have:=N.out;omega)).below a7 (by have:=C.size;have:=N.out;omega)).below HB (by have:=a7.size;have:=C.size;have:=N.out;omega);have k9:(Instr.lookup 45 (.map (some mp)) (.string c) true).run prog wr=.ok (.tuple #[I O (PM c),.bool (decide (H6 c<18))]) wr:=Jw5 o1 c;obtain⟨n5,k3⟩:=exq (decide (H6 c<18));obtain⟨mi,l1⟩:=exq (PM c);have o8:=Jw6 c;have f2:=J6 (show ND c nn=(n5 && (((nn:Int) ==mi+1) || (decide (mi<0) && ((nn:Int)% 2 ==1)))) by unfold ND;rw[k3,l1]);rw[l1]at k9 o8;rw[k3]at k9;have w1:IntKind.i64.wrap (mi+1)=mi+1:=by rw[YR];omega
    clear o1 s8 l1 k3 o8;go_upto_region 22 with fail
    go_cut [15] (fun l7 wx=>l7=.bool (ND c nn)/\wx=wr)
    case first=>
     cases n5 with
     |false=>
      go_wp2;go_meet;exact⟨by rw[f2.out];rfl,rfl⟩
     |true=>
      by_cases h1:(nn:Int)=mi+1
      ·have t2:=V4 h1
       have HT:=J6 t2;clear h1;go_wp2;go_meet;exact⟨by rw[f2.out,HT.out];rfl,rfl⟩
      have t2:=Z3 h1;have HT:=J6 t2;clear h1
      by_cases h2:mi<0
      ·have t3:=V7 h2
       have i9:=J6 t3;obtain⟨b4,t4⟩:=exq ((nn:Int)% 2 ==1);have r3:=J6 t4;clear h2;go_wp2;go_meet;exact⟨by rw[f2.out,HT.out,i9.out,r3.out];rfl,rfl⟩
      have t3:=V9 h2;have i9:=J6 t3;clear h2;go_wp2;go_meet;exact⟨by rw[f2.out,HT.out,i9.out];rfl,rfl⟩
    obtain⟨rfl,rfl⟩:=hcut;obtain⟨k0,o6⟩:=exq ws.length;have o9:k0+1=nn:=by have:=j4.out;rw[JA]at this;omega
    have r8:=f3.cap.1;obtain⟨e8,m7⟩:=Xt6 o6 o9;have i4:(1:Int)<=(nn:Int):=Q0;have i5:(nn:Int)<=(c9:Int):=Q0;have e1:(nn:Int)-1=(k0:Int):=Q0;have e2:nn-1=k0:=Q0;clear k9 o6 o9 r8;go_upto_region 24 with fail
    go_cut [96,97,98,99] (fun _ v0 v1 l8 wx=>∃(A7:Option Addr)(c7:Nat),v0=.slice A7 k0 c7/\v1=I O k0/\l8=I O 0/\wx=wc/\Hid (0<k0->A7=some ⟨ga,1,none⟩))
    case first=>
     go_wp2_with fail
     ·subst h
      go_meet;exact⟨_,_,rfl,rfl,rfl,rfl,J6 (fun h=>Q0)⟩
     go_meet;exact⟨_,_,rfl,rfl,rfl,rfl,J6 (fun h=>rfl)⟩
    obtain⟨A7,c7,rfl,rfl,rfl,rfl,p8⟩:=hcut;have v7:k0<=4001:=by have:=m7.out;omega
    have r5:=J6 (HW);obtain⟨i6,s2,a6,u0,u1⟩:=W8 Tm;obtain⟨wq,t8⟩:=exr wc;subst t8;clear i4 i5 e1 e2 cA t1 i3 w1;go_wp2_with fail
    go_loopg [15,16,99] k0 (fun gg l7 u6 l8 wx=>∃(k c6:Nat)(A6:Option Addr),k<=k0/\gg=k0-k/\l8=I O k/\l7=.bool (ND c nn && (ws.take k).all (fun s=>(ZF s).isSome))/\u6=.slice A6 k c6/\Bz wq wx/\X8 wx A6 k c6 3 1 (((ws.take k).map GD).map YL)/\∀g,X5 A6=some g->wq.heap.size<=g)
    case atStart=>exact⟨0,0,none,U9 _,rfl,rfl,by rw[List.take_zero,List.all_nil,Bool.and_true],rfl,J9 _ _,QY _ _ _ _,by simp[X5]⟩
    obtain⟨k,c6,A6,hk,rfl,rfl,rfl,rfl,f7,o2,p4⟩:=hrel;obtain⟨d0,n2,j3,b0⟩:=Xt8 f7 o2 p4 (a7.trans (HB.mono a7.size));have a5:NX wr:=(q5.below (b0.trans (f7.mono b0.size)) p5);have p6:12<=wr.heap.size:=U4 p5 (U4 b0.size f7.size);have d3:=J6 a5;obtain⟨bo,a3⟩:=exq (ND c nn && (ws.take k).all (fun s=>(ZF s).isSome));rw[a3];have m3:=J6 a3;clear f7 o2 p4 a5 a3
    by_cases o7:k<k0
    ·have k1:(0:Int)<=(k:Int):=by omega
     have k2:(k:Int)<(k0:Int):=Q0;obtain rfl:=p8.out Q0;obtain⟨x5,g6⟩:∃x5,ws[k]?=some x5:=⟨ws[k]'(by rw[e8.out];exact o7),JY _⟩;have d6:=J6 (show ws.take (k+1)=ws.take k++[x5] by rw[List.take_add_one,g6];rfl);have cK:wr.cell? ⟨ga,1+k,none⟩=some (.string x5):=by
      obtain⟨g5,e5,h5⟩:=f3.cell (j:=k+1) (u:=.string x5) (by simp[g6])
      cases e5;rw[Nat.add_comm];exact(d0.cell (p:=⟨ga,k+1,none⟩) (U5 _ _ h5)).trans h5
     have x3:x5.size<=4000:=U4 (Nc ZW xi x5 (by rw[r5.out];exact VS _ (Ve g6))) t9;have m6:=J6 (Qz1 x5 Q0 wr d3.glob p6);obtain⟨fx,k4⟩:=exq ((ZF x5).isSome);obtain⟨vx,l5⟩:=exq (GD x5);rw[k4,l5]at m6;obtain⟨q2,r4⟩:=Xt6 k4 l5;clear g6 k4 l5
     cases bo
     all_goals
      go_wp2_with fail
      refine m6.mono ?_;rintro ev w5⟨rfl,b1⟩;obtain⟨c8,i7,h8⟩:=Xt7 (d0.trans (b1.mono d0.size)) (CC (CC n2 b1) ((J9 w5.heap.size w5).alloc Q2 (.cells #[I O vx] 3))) (QN w5 (.cells #[I O vx] 3));clear b1 cK;go_wp2_with (at_builtin;(refine VZ _ rfl _ _ 54 rfl 0 3 i6 _ 1 8 underlying54 s2 a6 u0 u1 rfl Q0 (.slice A6 k c6) k _ rfl i7 ⟨w5.heap.size,0,none⟩ 1 1 [I O vx] rfl rfl (XF (cs:= #[I O vx]) (t:=3) (fr:=(0,0)) h8) J0 Q0 Q9 Q0 Q3 (w5.heap.size+1) Q3 ?_);intro gg cap w4 e4 d8 a0 v8;have h9:=J6 e4;have q6:=J6 d8;have g9:=J6 a0;clear e4 d8 a0)
      go_roundg (k0-(k+1))
      case measure=>omega
      have a5:=q6.out;rw[C8]at a5;have a0:=g9.out;rw[C8]at a0;have l4:=c8.size;have a1:Bz wq w4:=(c8.alloc l4 (.cells #[I O vx] 3)).grown a5 Q7 (fun y hy=>by have:=j3.out y hy;omega);refine⟨k+1,cap,some ⟨gg,0,none⟩,Q0,rfl,J5,?_,rfl,a1,?_,fun g hg=>?_⟩
      ·rw[d6.out,List.all_append,<-Bool.and_assoc,m3.out,List.all_cons,List.all_nil,q2.out]
       cases fx<;>rfl
      ·rw[d6.out,L6,L6,T2,r4.out]
       exact h9
      cases hg;obtain h1|h1:=a0
      ·exact j3 _ h1
      show wq.heap.size<=gg;omega
    have k8:k=k0:=by omega
    have k2:¬(k:Int)<(k0:Int):=Q0;have b8:ws.take k=ws:=M4 (by rw[e8.out];omega);have a3:=m3.out;have Z:=n2.out;rw[b8]at a3 Z;have d7:Bz wo wr:=b0.trans (d0.mono b0.size);have q0:=J6 d7;have h4:Hid (Below E wo wr):=J6 (d7.mono (by have:=C.size;have:=N.out;omega));have g4:ws.length+1=nn:=by rw[e8.out];exact m7
    cases bo with
    |false=>
     have c5:=J6 (show XS (JL QU (D.take i)) xi=(JL QU (D.take i),BB 3) by
      rw[f0.out];refine Xr8 (fun h=>?_);rw[g4]at h;rw[h.1,h.2]at a3
      cases a3)
     clear a3 Z b8 d7 g4 k8;go_wp2;go_meet;refine⟨⟨#[111,107]⟩,3,rfl,rfl,Q1,(by unfold V3;omega),J6 (by rw[c5.out,J8 Q1]),J6 ?_,J6 (C.trans h4)⟩;obtain⟨G,h1,h2⟩:=h6.out;rw[c5.out];exact⟨G,(h1.below q0).up,h2⟩
    |true=>
     have a8:=Bool.and_eq_true_iff.1 a3;rw[<-g4]at a8;obtain⟨f5,hN,n6⟩:=Xp0 a8.1 a8.2;obtain⟨G,n8,j7⟩:=h6.out;have hE:=N.out;have hI:ZG wr E G i (JL QU (D.take i)) A6 k0 ws (VN (H6 c)) (ws.map GD):=⟨n8.below d7,d3.glob,p6,fun j hj=>by have:=j7 j hj;omega,hN,QB.of_row Z,by rw[UJ];exact e8,Q0,fun j hj e=>by have:=j3.out j hj;have:=b0.size;have:=C.size;omega⟩;have hD:=Xg5 (c0:=c6) f5 hI d3.sp n6 Q0;rw[Xg6 f5]at hD;obtain⟨HD,m4,l9⟩:=Xt7 hD j7 f5;rw[k8];have i3:(0:Int)<(nn:Int):=Q0;have cA:wr.cell? ⟨ga,0,none⟩=some (.string c):=by
      obtain⟨g5,e5,h5⟩:=f3.cell (j:=0) (u:=.string c) rfl
      cases e5;exact(d0.cell (p:=⟨ga,0,none⟩) (U5 _ _ h5)).trans h5
     clear a3 Z b8 d7 g4 a8 hN n6 n8 hE hI hD j7 f5 k8;go_wp2_with fail
     refine HD.mono ?_;rintro ev w9⟨tt,en,rfl,hr,t6,r9,G',n7,p2⟩;obtain⟨r2,q3,n4⟩:=Xt7 hr n7 p2;clear hr n7 p2;go_wp2;go_meet;have hE:=N.out;have v6:=C.size;have l3:=h4.size;refine⟨tt,en,rfl,rfl,t6,r9,J6 ?_,J6 ?_,J6 (C.trans (h4.trans (X4.below n4.1 m4 Q0)))⟩
     ·rw[f0.out,Tx l9,<-Xp1,<-r2.out]
     rw[f0.out,Tx l9.out];exact⟨G',q3,fun j hj=>(n4.2 j hj).elim (m4 j) (fun e=>Q0)⟩
  obtain⟨a,e,rfl,rfl,ha,hf,c5,m5,d2⟩:=hcut;go_upto_if 128 with fail
  go_cut [12] (fun l6 wx=>∃a:ByteArray,l6=.string a/\a.size<=10000000000/\Hid (a.data.toList=(XS (JL QU (D.take i)) xi).2)/\Hid (∃G,JP wx E G (i+1) (XS (JL QU (D.take i)) xi).1/\∀j,G j->E<=j)/\Hid (Below E wh wx))
  case first=>
   by_cases he:e=0
   ·have t1:=KN he
    have HA:=J6 (show a.data.toList=(XS (JL QU (D.take i)) xi).2 by rw[c5.out,X0 he]);clear he;go_wp2;go_meet;exact⟨a,rfl,ha,HA,m5,d2⟩
   have t1:=XQ he;have q1:=J6 he;have g0:Bz wc (wc.alloc (.cells #[I O e] 3)):=(J9 _ wc).alloc Q2 _;have o4:NX wc:=(HG.below h3 hz).below d2 (by have:=N.out;omega);have g8:12<=wc.heap.size:=by have:=d2.size;have:=N.out;omega
   have HJ:=J6 (LB _ (.inr rfl) (some ⟨wc.heap.size,0,none⟩) 1 1 [e] _ (o4.glob.below g0 g8) (U4 g8 g0.size) (MJ (Z5 wc 3 #[I O e])) rfl (fun v hv=>by rw[UN]at hv;rw[hv];exact hf) Q0);obtain⟨q,hq⟩:∃q:ByteArray,⟨(N8 [e]).toArray⟩=q:=⟨_,rfl⟩;have l3:q.size<=100:=by rw[<-hq,KD];have:=PZ (l:=[e]) (fun v hv=>by rw[UN]at hv;rw[hv];exact hf);simp only[List.length_cons,List.length_nil]at this|-;omega
   have p1:q.data.toList=Lib.itoa e:=by rw[<-hq];unfold N8;exact Lib.join_one _ [32]
   rw[hq]at HJ;obtain⟨HQ,m0,v4⟩:=Xt7 p1 g0 g8;clear he g0 o4 g8 hq p1;go_wp2_with fail
   refine HJ.mono ?_;rintro ev w5⟨rfl,b1⟩;have c8:=J6 (m0.trans (b1.mono m0.size));clear b1;go_wp2;go_meet;refine⟨_,rfl,?_,J6 ?_,J6 ?_,J6 (d2.trans (c8.mono (by have:=d2.size;have:=N.out;omega)))⟩
   ·rw[KD]at l3|-
    simp at l3|-;omega
   ·rw[c5.out,J8 q1.out]
    unfold BB;rw[<-HQ.out];simp
   obtain⟨G,h1,h2⟩:=m5.out;exact⟨G,h1.below c8,h2⟩
  obtain⟨a2,rfl,r7,p7,q7,p9⟩:=hcut;have x1:ob.size<=4001*10000000001:=U4 f1.2 (GM _ Q0);go_wp2
  go_roundg (n'-(i+1))
  case measure=>omega
  have e1:D.take (i+1)=D.take i++[xi.data.toList]:=by rw[List.take_add_one,r0.out];rfl
  obtain⟨e2,e3⟩:=Nd QU (D.take i) xi;refine⟨i+1,Q0,rfl,J5,⟨_,rfl,J6 ⟨?_,?_⟩⟩,J6 (by rw[e1,e3];exact q7),p9⟩
  ·rw[e1,e2,<-f1.1,<-p7.out]
   simp
  have h1:=f1.2;have h2:=r7;rw[KD]at h1 h2|-;simp at h1 h2|-;omega
 have o5:i=n':=by omega
 have x0:¬(i:Int)<(n':Int):=Q0;have l2:=f1.1;rw[o5,M4 (CB i8.2),i8.1]at l2;have HO:=J6 l2;clear o5 l2 hi;go_wp2;go_ret;refine⟨?_,h3.trans (C.mono (by have:=N.out;omega))⟩;refine C5 (fun x=>Ending.returned (.string x)) (Qc6 ?_);rw[HO.out];unfold Ql;rw[J8 (by rw[<-KD];omega)]
section
open Go.Shelf
def Qk4:ByteArray:=⟨#[101,114,114,111,114,32,52,10]⟩
theorem Qp2 t(ht:20000<t.size)w:Calls prog 5 #[.string t] w fun e w'=>e=.returned (.string Qk4)/\Bz w w':=by
 have i:(20000:Int)<(t.size:Int):=Q0;go_enter func5,ntmps5
 go_wp2;go_ret;exact⟨rfl,J9 _ _⟩
attribute [local go_sem] Oper.semAt_some
theorem Qt7 t(ht:20000<t.size)w:Calls prog 4 #[.string t] w fun e w'=>e=.returned (.string Qk4)/\Bz w w':=by
 have i:(20000:Int)<(t.size:Int):=Q0;refine DU.1 (Av (n:=6) func4 rfl trivial ?_ rfl);simp only[ntmps4,List.size_toArray,List.length_cons,List.length_nil,Nat.reduceAdd,Nat.reduceSub,Array.replicate_succ,Array.replicate_zero,List.push_toArray,List.append_toArray,List.nil_append,List.cons_append]
 gi_wp2_with fail
 exact⟨_,DA rfl _ _ _,rfl,J9 _ _⟩
theorem Ja2(a:ByteArray):(a.toList ==a.toList)=true:=beq_self_eq_true _
theorem Qm1 t w(ht:t.size<=140737488355328)(j:NX w)(u:12<=w.heap.size):Calls prog 3 #[.string t] w fun e w'=>e=.returned (.bool true)/\Bz w w':=by
 have a1:(4000<t.size/\t.size<=20000)\/30000<t.size\/(t.size<=4000\/20000<t.size)/\t.size<=30000:=Q0;rcases a1 with⟨h1,h2⟩|h1|⟨h1,h2⟩
 ·have E:(4000:Int)<(t.size:Int):=by omega
  have t2:(t.size:Int)<=20000:=Q0;clear j u h1 h2;go_enter func3,ntmps3
  go_wp2;go_ret;exact⟨rfl,J9 _ _⟩
 ·have E:(4000:Int)<(t.size:Int):=by omega
  have t2:¬(t.size:Int)<=20000:=Q0;have t3:(30000:Int)<(t.size:Int):=Q0;clear j u h1;go_enter func3,ntmps3
  go_wp2;go_ret;exact⟨rfl,J9 _ _⟩
 have t3:¬(30000:Int)<(t.size:Int):=by omega
 obtain⟨xs,HS⟩:∃xs,Hid (∀W,NX W->12<=zS W->(Calls prog 4 #[.string t] W fun e w'=>e=.returned (.string xs)/\Bz W w')/\Calls prog 5 #[.string t] W fun e w'=>e=.returned (.string xs)/\Bz W w'):=by
  obtain h1|h1:=h1
  ·exact⟨_,J6 fun W C D=>⟨Qz7 t h1 W C.glob D,Qt6 t h1 W C D⟩⟩
  exact⟨_,J6 fun W C D=>⟨Qt7 t h1 W,Qp2 t h1 W⟩⟩
 have J:=J6 j;have a2:=Ja2 xs;have y:=J6 u;have hc:(¬(4000:Int)<(t.size:Int))\/((4000:Int)<(t.size:Int)/\¬(t.size:Int)<=20000):=Q0;clear j u h1 h2;obtain E|⟨E,t2⟩:=hc
 all_goals
  go_enter func3,ntmps3
  go_wp2_with fail
  refine(HS w J y).1.mono ?_;rintro e w1⟨rfl,N⟩;have i:=J6 N;clear N;go_wp2_with fail
  refine(HS w1 (J.below i y) (U4 y i.size)).2.mono ?_;rintro e w2⟨rfl,Z⟩;have a0:=J6 Z;clear Z;go_wp2;go_ret;exact⟨rfl,i.trans (a0.mono i.size)⟩
end
section
open Go.ChangeShapes Go.WideShapes
def Xm0 : List (String × DataW Unit) := [("math/bits.deBruijn32tab", Rows.laid_math_bits_deBruijn32tab), ("math/bits.deBruijn64tab", Rows.laid_math_bits_deBruijn64tab), ("internal/strconv.uint64pow10", Rows.laid_internal_strconv_uint64pow10), ("unicode/utf8.acceptRanges", Rows.laid_unicode_utf8_acceptRanges), ("strconv.ErrRange", Rows.laid_strconv_ErrRange), ("strconv.ErrSyntax", Rows.laid_strconv_ErrSyntax), ("unicode.White_Space", Rows.laid_unicode_White_Space), ("strings.asciiSpace", Rows.laid_strings_asciiSpace), ("unicode/utf8.first", Rows.laid_unicode_utf8_first)]
theorem Xt1 {W} (h : laidMetH Tryz.prog Rows.deskAnswersRow.laid W) : laidMet Tryz.prog Xm0 W ∧ handlesMet Tryz.prog [("errors.errorType", Rows.laid_errors_errorType)] W := h
theorem Xp2:(prog.globals[0]?).map (·.type)=some 133:=Q4
theorem Qi7:prog.cellsOf 133=256/\prog.cellsOf 5=1:=⟨Q4,Q4⟩
theorem Xm1 {W rest ps} (h : DataW.LaidVars Tryz.prog W (("strings.asciiSpace", Rows.laid_strings_asciiSpace) :: rest) ps) : Lib.TabIs Tryz.prog W "strings.asciiSpace" .u8 Lib.asciiSpaceTab := by
 obtain⟨D,t',cs,fuel,p,q,u,y,C,i,-,-⟩:=h;obtain rfl:=XG (Qg6.symm.trans u);obtain rfl:=XG (Xp2.symm.trans y);have j:DataW.trod (fun _=>()) prog W 0 (fun _=>true) false fuel 133 cs.toList=some (Lib.tabData .u8 Lib.asciiSpaceTab,p):=i;unfold Lib.TabIs;rw[C,<-Lib.cells_of_tab underlying133 underlying5 Qi7.2 Qi7.1 j]
theorem Qp3{W}(h:laidMetH prog Rows.deskAnswersRow.laid W)(J:W.ShapedOpen prog):NX W:=by obtain⟨⟨ps,E,-,-⟩,D⟩:=Xt1 h;obtain⟨N,h1⟩:=TC E;obtain⟨Z,h2⟩:=TC h1;obtain⟨p3,u⟩:=TC h2;obtain⟨p4,i⟩:=TC u;obtain⟨p5,j⟩:=TC i;obtain⟨p6,y⟩:=TC j;obtain⟨p7,C⟩:=TC y;exact⟨⟨Jy8 D,Jy7 h2,Wp Wn Fo.2.1 j,Wp Wo Fo.2.2 i⟩,Xm1 C,cell_of_shapedOpen_int (t:=3) (zero:= #[I O 0]) J (of_decide_eq_true Q4) Q4 rfl Q4 Q4 underlying3⟩
theorem Qk9{H enc a C os f fn s conds apart fresh handsOn again}{X:World->Array Value->Prop}(Z:∀w w' args,w.heap=w'.heap->X w args->X w' args)(own:ownKnob C.prog.godebug=none) (a7:os.Started) (a6:C.prog.inits.idxOf? f=none) (a0:C.prog.funcs[f]?=some fn)(a8:∃(w:World)(u:Tape)(i:Input),w.os=os/\(w.forCall u i).Shaped C.prog/\i.vars=[]/\Input.okWide C.prog (w.forCall u i) .any w.heap.size f i/\((s.pre enc C.prog fn conds apart (w.forCall u i).memory i.args/\X (w.forCall u i).memory i.args)/\sizedMet enc C.prog fn (OpenSpec.ofChange s) apart (w.forCall u i).memory i.args)/\a.holds C.prog (lone (Frame.enter C.prog f i.args .normal) [] (w.forCall u i)))(N:∀W base args(y D:List (DataW H))E,(∀(j:Nat)t v,fn.params[j]?=some t->args[j]?=some v->Value.okWide C.prog W .any base t v)->DataW.Whole enc C.prog fn.params.toList s.vars apart W args.toList y D E->(DataW.weightsEach C.prog (fn.params.toList++s.plain.varTypes C.prog) (y++D)).all (· <=reachBytes)=true->X W args->W.ShapedOpen C.prog->Calls C.prog f args W fun e W'=>∃v,e=.returned v/\s.post enc C.prog fn apart fresh handsOn again W args v W'):ReturnsInHanded a C os f .any (fun w args=>(s.pre enc C.prog fn conds apart w args/\X w args)/\sizedMet enc C.prog fn (OpenSpec.ofChange s) apart w args) (s.post enc C.prog fn apart fresh handsOn again):=by
 refine returnsInHanded_of_calls own a7 a6 a8 ?_;intro w u i _ a4 _ a2 a3 _;obtain⟨_,_,_,a9,a1,_,_,_,_,a5⟩:=a2;obtain rfl:=XG (a1.symm.trans a0);obtain⟨⟨⟨y,D,E,J,-⟩,hx⟩,hz⟩:=a3;refine(N (w.forCall u i) (zS w) i.args y D E a5 (DataW.Whole.of_heap (w':=w.forCall u i) Q8 J) (hz.weights J) (Z _ _ _ Q8 hx) a4).mono fun e W'⟨v,he,hp⟩=>?_
 subst he;exact ChangeSpec.post_blind hp
