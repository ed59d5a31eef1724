/- Parts. -/
import Derived.Test.YtfoikonjjojkaaaGreatDoorZt11
set_option linter.unusedVariables false
set_option maxRecDepth 100000
set_option maxHeartbeats 8000000
open Go.Proofs.Tryz
open Go.Value renaming int→I,pointer→IP
open Go.IntKind renaming i64→O
namespace Go.Proofs.YtfoikonjjojkaaaGreatDoor
open Go.RowKit
section
open Go.Lib
theorem Qr3:(prog.info? 84).map (fun i=>(i.zero,i.size,i.bytes))=some (some (.agg #[I O 0,I O 0,I O 0,I O 0,I O 0]),5,40):=Q4
theorem Bh{α}r(l:List α):(BR r l).length=l.length:=by
 have key:∀(l i:List α),(l.foldl (ZB r) i).length=i.length+l.length:=by
  intro l
  induction l with
  |nil=>intro i;rfl
  |cons x t j=>
   intro i;rw[JF,j];have h:=C5 List.length (LS (p:=fun y=>decide (r y<=r x)) (l:=i));rw[B6]at h;unfold ZB;rw[B6,JA,JA];omega
 have:=key l [];unfold BR;simpa using this
def G7(side:Int)(l:List X6):List X6:=l.filter fun o=>o.side ==side
theorem Bo side l o:G7 side (l++[o])=G7 side l++if(o.side ==side)=true then [o]else []:=by
 unfold G7;rw[JE]
 cases h:o.side ==side<;>simp[h]
theorem Pg side l:(G7 side l).length<=l.length:=NF _ _
def KX(side:Int)(l:List X6):List X6:=BR (VG side) (G7 side l)
theorem Da w B o0 A0 n0 c0 L side(h0:w.cell? (aD B o0)=some (.slice A0 n0 c0))(hE:C0 w U0 5 A0 n0 L)(hn:n0<=100000)(hp:∀o∈G7 side L,-1000000000<=o.price/\o.price<=1000000000):Calls prog 39 #[IP (some (aD B o0)),I O side] w fun e w'=>Bz w w'/\∃A' c',e=.returned (.slice A' (KX side L).length c')/\X8 w' A' (KX side L).length c' 84 5 (X7 U0 (KX side L))/\∀g,X5 A'=some g->w.heap.size<=g:=by
 have g3:B<w.heap.size:=U5 w _ h0;obtain⟨HE,HP⟩:=Xt6 hE hp;have hl:=hE.1;have HL:=J6 hl;have f7:∀w,(Instr.makeFunc (Fn.func 88) #[] #[IP (some ⟨w.heap.size,0,none⟩)]).run prog w=.ok (.func (.func 88) #[] #[IP (some ⟨w.heap.size,0,none⟩)]) w:=fun _=>rfl
 obtain⟨i0,f5,f9,g0,g1⟩:=W8 Qr3;clear hE hp hl f7;go_enter func39,ntmps39
 go_wp2_with fail
 go_loopg [14] n0 (fun gg g2 wx=>∃k j y u,k<=n0/\gg=n0-k/\g2=I O k/\Bz w wx/\J7 wx w.heap.size 3 #[I O side]/\J7 wx (w.heap.size+1) 91 #[.slice u j y]/\X8 wx u j y 84 5 (X7 U0 (G7 side (L.take k)))/\∀g,X5 u=some g->w.heap.size+1<g)
 case atStart=>refine⟨0,0,0,none,U9 _,rfl,rfl,((J9 _ w).alloc Q2 _).alloc Q3 _,G0 (Z5 w _ _) _,?_,QY _ _ _ _,by simp[X5]⟩;have h:=Z5 (w.alloc (.cells #[I O side] 3)) 91 #[.slice none 0 0];simpa using h
 obtain⟨k,j,y,u,hk,rfl,rfl,hB,a3,a2,hR,e2⟩:=hrel;obtain⟨J,b8,b2,HR,D⟩:=Xt9 hB a3 a2 hR e2;have c1:wr.cell? ⟨w.heap.size,0,none⟩=some (I O side):=by rw[X9 a3];rfl
 have c2:wr.cell? ⟨w.heap.size+1,0,none⟩=some (.slice u j y):=by rw[X9 a2];rfl
 have e1:w.heap.size+1<wr.heap.size:=Z9 a2;have f8:w.heap.size<wr.heap.size:=Z9 a3;have g6:j<=100000:=by have h1:=YU JG Q0 hR;have h2:=Pg side (L.take k);rw[R7]at h2;omega
 clear hB a3 a2 hR e2
 by_cases g7:k<n0
 ·have f6:(k:Int)<(n0:Int):=by omega
  have g5:(0:Int)<=(k:Int):=Q0;have d2:k<L.length:=by have:=HL.out;omega
  obtain⟨b,a4,hA⟩:∃b a4,A0=some ⟨b,a4,none⟩:=by obtain⟨b,a4,h1,_⟩:=HE.2 Q0;exact⟨b,a4,h1⟩
  subst hA;obtain⟨x0,x1,x2,x3,x4⟩:=ML (HE.below J Q2) d2;have c6:=J6 (M9 d2);obtain⟨o,EO⟩:∃o,Hid (L[k]=o):=⟨_,J6 rfl⟩;rw[EO.out]at x0 x1 x2 x3 x4 c6;have a6:=J6 (Bo side (L.take k) o);rw[<-c6.out]at a6;have c8:Bz wr (wr.alloc (.cells (Z8 o) 84)):=Q5.alloc Q2 _;have C:=J6 c8;clear c8
  by_cases N:o.side=side
  ·have d1:=V4 N
   have a5:=J6 (show G7 side (L.take (k+1))=G7 side (L.take k)++[o] by rw[a6.out,X0 (V4 N)]);have hO:=HR.below (C.trans ((Q5.alloc Q2 (.cells (Z8 o) 84)).mono C.size));have HO:=J6 (show World.ownsRow ((wr.alloc (.cells (Z8 o) 84)).alloc (.cells (Z8 o) 84)) 0 84 5 (.slice u j y) j (X7 U0 (G7 side (L.take k)))from hO);have a7:=QN (wr.alloc (.cells (Z8 o) 84)) (.cells (Z8 o) 84);rw[show(wr.alloc (.cells (Z8 o) 84)).heap.size=wr.heap.size+1 by simp]at a7;have c5:=J6 a7;clear a7;have d0:=(Z4 (Z4 b2 C) ((J9 (wr.alloc (.cells (Z8 o) 84)).heap.size _).alloc Q2 (.cells (Z8 o) 84)));have b5:=J6 d0;have d5:some (w.heap.size+1)≠(Value.slice u j y).ownBlock:=by rw[C8];intro e;have:=D.out _ e.symm;omega
   have d6:some w.heap.size≠(Value.slice u j y).ownBlock:=by rw[C8];intro e;have:=D.out _ e.symm;omega
   obtain⟨f1,f0⟩:=Xt6 d6 d5;clear N hO d0 d5 d6;unfold Z8 at HO c5 b5;go_wp2_with (at_builtin;(refine VZ _ rfl _ _ 91 rfl 0 84 i0 _ 5 40 underlying91 f5 f9 g0 g1 rfl Q0 (.slice u j y) j _ rfl HO ⟨wr.heap.size+1,0,none⟩ 1 1 (U0 o) rfl rfl (XF (cs:=(U0 o).toArray) (t:=84) (fr:=(0,0)) c5) (BL _) Q0 Q9 Q0 Q3 (wr.heap.size+2) Q3 ?_);intro gg cap w3 d7 a9 a1 g8;have b3:=TE b5 a9 f0;have r0:w3.cell? ⟨w.heap.size+1,0,none⟩=some (.slice u j y):=(by rw[X9 b3];rfl);have h4:=K0 b3 0;have e4:=J6 b3;have e7:=J6 d7;have e5:=J6 a9;have e3:=J6 a1;clear d7 a9 a1 b3)
   go_roundg (n0-(k+1))
   case measure=>omega
   have a8:=e5.out;rw[C8]at a8;have d4:=f1.out;rw[C8]at d4;have a1:=e3.out;rw[C8]at a1;have f3:=TE (Z4 (Z4 b8 C) ((J9 (wr.alloc (.cells (Z8 o) 84)).heap.size _).alloc Q2 (.cells (Z8 o) 84))) a8 d4;have f4:w.heap.size+1<gg:=by
    obtain h1|h1:=a1
    ·exact D _ h1
    show w.heap.size+1<gg;omega
   have f2:Bz w w3:=(((J.trans (C.mono J.size)).alloc (by have:=C.size;omega) (.cells (Z8 o) 84))).grown a8 (by have:=C.size;simp;omega) (fun x hx=>by have:=D.out x hx;omega);refine⟨k+1,j+1,cap,some ⟨gg,0,none⟩,Q0,rfl,J5,f2.setCell (by show w.heap.size<=w.heap.size+1;omega) _,ZR f3 (by show w.heap.size≠w.heap.size+1;omega) _,?_,?_,fun g E=>by cases E;exact f4⟩
   ·exact Z0 e4 0 _
   rw[a5.out,AQ];exact RB (xs:=X7 U0 (G7 side (L.take k))++U0 o) e7 (U1 w3 ⟨w.heap.size+1,0,none⟩ _) (fun g E e=>by cases E;have e:gg=w.heap.size+1:=e;omega)
  have d1:=Z3 N;have a5:=J6 (show G7 side (L.take (k+1))=G7 side (L.take k) by rw[a6.out,J8 (by rw[Z3 N];simp),BF]);clear N;go_wp2
  go_roundg (n0-(k+1))
  case measure=>omega
  exact⟨k+1,j,y,u,Q0,rfl,J5,J.trans (C.mono J.size),Z4 b8 C,Z4 b2 C,by rw[a5.out];exact HR.below C,D⟩
 obtain rfl:n0=k:=by omega
 have f6:¬(n0:Int)<(n0:Int):=Q0;have c7:L.take n0=L:=M4 (by rw[HL.out];exact X3 _);have Z:=HR.out;rw[c7]at Z;have a0:Bz wr (wr.alloc (.cells #[.func (.func 88) #[] #[IP (some ⟨w.heap.size,0,none⟩)]] 135)):=Q5.alloc Q2 _;have d9:=Qm8 (wr.alloc (.cells #[.func (.func 88) #[] #[IP (some ⟨w.heap.size,0,none⟩)]] 135)) w.heap.size (w.heap.size+1) wr.heap.size y j u side (G7 side L) Q0 (Z.below a0) HP ((a0.cell (p:=⟨w.heap.size+1,0,none⟩) e1).trans c2) (by rw[X9 (Z5 wr _ _)];rfl) ((a0.cell (p:=⟨w.heap.size,0,none⟩) f8).trans c1) (fun g E=>⟨by have:=D.out g E;omega,by have:=Z.lt E;omega,by have:=D.out g E;omega⟩);have d3:j=(KX side L).length:=by have h1:=YU JG Q0 Z;have h2:=Bh (VG side) (G7 side L);unfold KX;omega
 obtain⟨e9,b1,b9⟩:=Xt7 d9 a0 d3;have g9:∀w0,(Instr.makeFunc (Fn.func 88) #[] #[IP (some ⟨w.heap.size,0,none⟩)]).run prog w0=.ok (.func (.func 88) #[] #[IP (some ⟨w.heap.size,0,none⟩)]) w0:=fun _=>rfl
 have h3:∀w0,(Instr.makeFunc (Fn.func 90) #[] #[IP (some ⟨wr.heap.size,0,none⟩),IP (some ⟨w.heap.size+1,0,none⟩)]).run prog w0=.ok (.func (.func 90) #[] #[IP (some ⟨wr.heap.size,0,none⟩),IP (some ⟨w.heap.size+1,0,none⟩)]) w0:=fun _=>rfl
 clear d9 a0 d3 Z c7;go_wp2_with fail
 refine e9.mono ?_;rintro e w3⟨rfl,d8,b0⟩;have g4:w3.cell? ⟨w.heap.size+1,0,none⟩=some (.slice u j y):=(b0.cell (p:=⟨w.heap.size+1,0,none⟩) Q7 (fun e=>by have:=D.out _ e;have:w.heap.size+1<w.heap.size+1:=this;omega)).trans ((b1.cell (p:=⟨w.heap.size+1,0,none⟩) e1).trans c2);obtain⟨e8,e6⟩:=Xt6 d8 b0;clear d8 b0;go_wp2_with fail
 refine QA (DA rfl _ _ _) rfl ?_;refine⟨?_,u,y,?_,?_,fun g E=>by have:=D.out g E;omega⟩
 ·exact(J.trans (b1.mono J.size)).trans (e6.below (fun i e=>by have:=D.out i e;omega) (by have:=J.size;simp;omega))
 ·rw[<-b9.out];rfl
 rw[<-b9.out];exact e8
end
def Zr(lv:List Z7)(bu p:Int):Int:=P0 (lv.filter fun y=>decide (p<=y.1)) bu
def Zs(lv:List Z7)(se p:Int):Int:=VM (lv.filter fun y=>decide (y.1<=p)) se
def NB(lv:List Z7)(bu se p:Int):Z7:=(p,Zr lv bu p,Zs lv se p)
theorem Kl l:∀a,P0 l a=a+P0 l 0:=by
 induction l with
 |nil=>intro a;unfold P0;simp
 |cons y u i=>
  intro a;have j:=i (a+y.2.1);have C:=i (0+y.2.1);unfold P0 at*;rw[JF,JF,j,C];omega
theorem Se l:∀a,VM l a=a+VM l 0:=by
 induction l with
 |nil=>intro a;unfold VM;simp
 |cons y u i=>
  intro a;have j:=i (a+y.2.2);have C:=i (0+y.2.2);unfold VM at*;rw[JF,JF,j,C];omega
theorem Qw0 l l' a:P0 (l++l') a=P0 l' (P0 l a):=by unfold P0;rw[FS]
theorem Mf{α:Type}{q}{l:List α}(h:∀x∈l,q x=false):l.filter q=[]:=List.filter_eq_nil_iff.2 (fun x i=>by rw[h x i];simp)
theorem Lf{α:Type}{q}{l:List α}(h:∀x∈l,q x=true):l.filter q=l:=VT.2 h
theorem Fp{pre post bu p}(h1:∀x∈pre,x.1<p)(h2:∀x∈post,p<=x.1):Zr (pre++post) bu p=P0 post bu:=by unfold Zr;rw[JE,Mf (fun x i=>WG (by have:=h1 x i;omega)),Lf (fun x i=>GR (h2 x i)),EE]
theorem Fq{pre post se p}(h1:∀x∈pre,x.1<=p)(h2:∀x∈post,p<x.1):Zs (pre++post) se p=VM pre se:=by unfold Zs;rw[JE,Mf (l:=post) (fun x i=>WG (by have:=h2 x i;omega)),Lf (l:=pre) (fun x i=>GR (h1 x i)),BF]
structure WV(lv:List Z7)(bu se more:Int)(pre:List Z7)(s:Ah):Prop where
 told:s.told=(decide (more<1) ||pre.any fun x=>decide (more<=x.1))
 out:∀e∈s.out,e=NB lv bu se e.1
 asc:(s.out.map (·.1)).Pairwise (· < ·)
 mem:∀q,q∈s.out.map (·.1)↔(∃x∈pre,x.1=q)\/(1<=more/\s.told=true/\q=more)
 up:s.told=false->1<=more/\∀x∈pre,x.1<more
 below:∀e∈s.out,∀x,(∀y∈pre,y.1<x)->more<x\/s.told=false\/more<1->e.1<x
theorem Qe6{more}{pre:List Z7}{t}(h:t=(decide (more<1) ||pre.any fun x=>decide (more<=x.1)))(ht:t=false):1<=more/\∀x∈pre,x.1<more:=by rw[ht]at h;have h:=h.symm;rw[Bool.or_eq_false_iff,decide_eq_false_iff_not,Vg]at h;refine⟨Q0,fun x i=>?_⟩;have:=h.2 x i;simp at this;exact this
theorem Xa2 lv bu se more:WV lv bu se more [] (T1 lv bu se more []):=by
 have j:(T1 lv bu se more []).told=(decide (more<1) || ([]:List Z7).any fun x=>decide (more<=x.1)):=by show decide (more<1)=_;simp
 refine⟨j,fun e i=>(by cases i),List.Pairwise.nil,fun q=>?_,Qe6 j,fun e i=>(by cases i)⟩;constructor
 ·intro h;cases h
 rintro(⟨x,hx,-⟩|⟨h1,h2,-⟩)
 ·cases hx
 have h2:decide (more<1)=true:=h2;rw[decide_eq_true_eq]at h2;omega
theorem Qh3{pre post bu se more}:(T1 (pre++post) bu se more pre).d=P0 post bu:=by rw[Qj0,Qw0,Kl post (P0 pre bu),Kl pre bu,Kl post bu];omega
theorem Jo2{pre post x bu se more}(hr:UA (pre++x::post))(h:WV (pre++x::post) bu se more pre (T1 (pre++x::post) bu se more pre)):WV (pre++x::post) bu se more (pre++[x]) (T1 (pre++x::post) bu se more (pre++[x])):=by
 obtain⟨r1,r2,-⟩:=WW hr;have hd:(T1 (pre++x::post) bu se more pre).d=P0 (x::post) bu:=Qh3;have hs:(T1 (pre++x::post) bu se more pre).s=VM pre se:=Fz _ _ _ _ _;rw[Wz];generalize c6:T1 (pre++x::post) bu se more pre=st at h hd hs;obtain⟨d,s,C,a9⟩:=st;dsimp only at hd hs;obtain⟨D,a2,a3,a4,a5,a6⟩:=h;dsimp only at D a2 a3 a4 a5 a6;have b5:NB (pre++x::post) bu se x.1=(x.1,d,s+x.2.2):=by
  unfold NB;rw[Fp r1 (fun y j=>by
   obtain rfl|j:=H8.1 j
   ·exact T3 _
   exact TX (r2 y j)),<-hd]
  have e:pre++x::post=(pre++[x])++post:=Q3;rw[e,Fq (fun y j=>by
   obtain j|j:=B8.1 j
   ·exact TX (r1 y j)
   rw[UN]at j;subst j;exact T3 _) r2,Jn1,<-hs]
 have b0:C=false->more<x.1->NB (pre++x::post) bu se more=(more,d,s):=fun ht E=>by
  obtain⟨b1,Z⟩:=a5 ht;unfold NB;rw[Fp Z (fun y j=>by
   obtain rfl|j:=H8.1 j
   ·exact TX E
   ·have:=r2 y j;omega),<-hd,Fq (fun y j=>TX (Z y j)) (fun y j=>by
   obtain rfl|j:=H8.1 j
   ·exact E
   have:=r2 y j;omega),<-hs]
 have a8:(LN more C x)=(decide (more<1) || (pre++[x]).any fun x=>decide (more<=x.1)):=by unfold LN;rw[D,List.any_append];simp[Bool.or_assoc]
 have a0:∀e∈a9,e.1<x.1\/(C=true/\1<=more/\x.1<=more):=fun e i=>by
  by_cases h1:more<x.1\/C=false\/more<1
  ·exact .inl (a6 e i x.1 r1 h1)
  refine .inr ⟨?_,Q0,Q0⟩
  cases C with
  |true=>rfl
  |false=>exact absurd (.inr (.inl rfl)) h1
 have a0:∀e∈a9,e.1<x.1:=fun e i=>by
  obtain h1|⟨h1,h2,u⟩:=a0 e i
  ·exact h1
  rw[h1]at D;have D:=D.symm;rw[Bool.or_eq_true,decide_eq_true_eq,Vj]at D;obtain D|⟨y,j,b9⟩:=D
  ·omega
  rw[decide_eq_true_eq]at b9;have:=r1 y j;omega
 unfold WB LP;dsimp only;have a7:∀J,(∀e∈J,e=NB (pre++x::post) bu se e.1)->(J.map (·.1)).Pairwise (· < ·)->(∀e∈J,e.1<x.1)->(∀q,q∈J.map (·.1)↔(∃y∈pre,y.1=q)\/(1<=more/\(C=true\/more<x.1)/\q=more))->WV (pre++x::post) bu se more (pre++[x]) ⟨d-x.2.1,s+x.2.2,LN more C x,J++[(x.1,d,s+x.2.2)]⟩:=fun J c1 c2 c3 c4=>by
  refine⟨a8,fun e i=>?_,?_,fun q=>?_,Qe6 a8,fun e i z c5 c7=>?_⟩
  ·obtain i|i:=B8.1 i
   ·exact c1 e i
   rw[UN]at i;subst i;exact b5.symm
  ·dsimp only
   rw[L6,DZ];refine⟨c2,WC _ _,fun a ha b N=>?_⟩;obtain⟨e,i,rfl⟩:=Y4.1 ha;simp at N;subst N;exact c3 e i
  ·dsimp only
   rw[L6,B8,c4];have ht:LN more C x=true↔(C=true\/more<=x.1):=by unfold LN;simp
   rw[ht];constructor
   ·rintro((⟨y,j,rfl⟩|⟨h1,h2,u⟩)|h)
    ·exact .inl ⟨y,by simp[j],rfl⟩
    ·refine .inr ⟨h1,?_,u⟩
     obtain h2|h2:=h2
     ·exact .inl h2
     exact .inr Q0
    simp at h;exact .inl ⟨x,Q3,h.symm⟩
   rintro(⟨y,j,rfl⟩|⟨h1,h2,u⟩)
   ·obtain j|j:=B8.1 j
    ·exact .inl (.inl ⟨y,j,rfl⟩)
    rw[UN]at j;subst j;exact .inr Q3
   obtain h2|h2:=h2
   ·exact .inl (.inr ⟨h1,.inl h2,u⟩)
   by_cases e:more=x.1
   ·exact .inr Q7
   exact .inl (.inr ⟨h1,.inr Q0,u⟩)
  have b8:x.1<z:=c5 x Q3;obtain i|i:=B8.1 i
  ·have:=c3 e i;omega
  rw[UN]at i;subst i;exact b8
 by_cases hc:C=false/\more<x.1
 ·rw[X0 hc]
  obtain⟨ht,E⟩:=hc;obtain⟨b1,Z⟩:=a5 ht;refine a7 _ (fun e i=>?_) ?_ (fun e i=>?_) (fun q=>?_)
  ·obtain i|i:=B8.1 i
   ·exact a2 e i
   rw[UN]at i;subst i;exact(b0 ht E).symm
  ·rw[L6,DZ]
   refine⟨a3,WC _ _,fun a ha b N=>?_⟩;obtain⟨e,i,rfl⟩:=Y4.1 ha;simp at N;rw[N];exact a6 e i more Z (.inr (.inl ht))
  ·obtain i|i:=B8.1 i
   ·exact a0 e i
   rw[UN]at i;subst i;exact E
  rw[L6,B8,a4];constructor
  ·rintro((h|⟨h1,h2,u⟩)|h)
   ·exact .inl h
   ·exact .inr ⟨h1,.inl h2,u⟩
   simp at h;exact .inr ⟨b1,.inr E,h⟩
  rintro(h|⟨h1,h2,u⟩)
  ·exact .inl (.inl h)
  exact .inr (by simp[u])
 rw[J8 hc];refine a7 _ a2 a3 a0 (fun q=>?_);rw[a4];constructor
 ·rintro(h|⟨h1,h2,u⟩)
  ·exact .inl h
  exact .inr ⟨h1,.inl h2,u⟩
 rintro(h|⟨h1,h2,u⟩)
 ·exact .inl h
 refine .inr ⟨h1,?_,u⟩;obtain h2|h2:=h2
 ·exact h2
 cases C with
 |true=>rfl
 |false=>exact absurd ⟨rfl,h2⟩ hc
theorem Xa3{lv bu se more}(u:UA lv):∀k,k<=lv.length->WV lv bu se more (lv.take k) (T1 lv bu se more (lv.take k)):=by
 intro k
 induction k with
 |zero=>intro _;exact Xa2 lv bu se more
 |succ k y=>
  intro hk;have h1:=y Q0;have e:lv=lv.take k++lv[k]::lv.drop (k+1):=by rw[<-CZ Q0,P9]
  have i:lv.take (k+1)=lv.take k++[lv[k]]:=M9 Q0;have key:∀L,L=lv.take k++lv[k]::lv.drop (k+1)->UA L->WV L bu se more (lv.take k) (T1 L bu se more (lv.take k))->WV L bu se more (lv.take k++[lv[k]]) (T1 L bu se more (lv.take k++[lv[k]])):=by rintro L rfl h2 j;exact Jo2 h2 j
  rw[i];exact key lv e u h1
theorem Qr4{lv bu se more}(hr:UA lv):(∀e∈ZV lv bu se more,e=NB lv bu se e.1)/\((ZV lv bu se more).map (·.1)).Pairwise (· < ·)/\∀q,q∈(ZV lv bu se more).map (·.1)↔(∃x∈lv,x.1=q)\/(1<=more/\q=more):=by
 have h:=Xa3 (bu:=bu) (se:=se) (more:=more) hr lv.length Q2;rw[List.take_length]at h;have J:(T1 lv bu se more lv).d=bu:=by have h2:=Qh3 (pre:=lv) (post:=[]) (bu:=bu) (se:=se) (more:=more);rw[BF]at h2;rw[h2];rfl
 have N:(T1 lv bu se more lv).s=VM lv se:=Fz _ _ _ _ _;unfold ZV;dsimp only;generalize a0:T1 lv bu se more lv=st at h J N;obtain⟨d,s,td,a7⟩:=st;dsimp only at J N;obtain⟨a1,u,C,D,Z,a6⟩:=h;dsimp only at a1 u C D Z a6|-
 cases td with
 |true=>
  rw[J8 Q3];refine⟨u,C,fun q=>?_⟩;rw[D];constructor
  ·rintro(h|⟨h1,-,h3⟩)
   ·exact .inl h
   exact .inr ⟨h1,h3⟩
  rintro(h|⟨h1,h3⟩)
  ·exact .inl h
  exact .inr ⟨h1,rfl,h3⟩
 |false=>
  rw[X0 rfl];obtain⟨b1,E⟩:=Z rfl;have hp:NB lv bu se more=(more,d,s):=by
   have e:lv=lv++[]:=Q3;unfold NB;rw[e,Fp E (fun y j=>by cases j),Fq (fun y j=>TX (E y j)) (fun y j=>by cases j),J,N]
   rfl
  refine⟨fun e i=>?_,?_,fun q=>?_⟩
  ·obtain i|i:=B8.1 i
   ·exact u e i
   rw[UN]at i;subst i;exact hp.symm
  ·rw[L6,DZ]
   refine⟨C,WC _ _,fun a ha b hb=>?_⟩;obtain⟨e,i,rfl⟩:=Y4.1 ha;simp at hb;rw[hb];exact a6 e i more E (.inr (.inl rfl))
  rw[L6,B8,D];constructor
  ·rintro((h|⟨h1,h2,h3⟩)|h)
   ·exact .inl h
   ·cases h2
   simp at h;exact .inr ⟨b1,h⟩
  rintro(h|⟨h1,h3⟩)
  ·exact .inl (.inl h)
  exact .inr (by simp[h3])
def PF(lo hi:Int)(xs:List Int):Bool:=xs.all fun n=>decide (lo<=n) &&decide (n<=hi)
theorem Jd9 j i(xs:List Int)k(hk:k<xs.length):PF j i (xs.take (k+1))=(PF j i (xs.take k) && (decide (j<=xs[k]) &&decide (xs[k]<=i))):=by unfold PF;rw[M9 hk,List.all_append];simp
theorem Qa2 j i xs k(hk:k<xs.length)(h:¬(j<=xs[k]/\xs[k]<=i)):PF j i xs=false:=by unfold PF;rw[List.all_eq_false];exact⟨xs[k],C7 hk,by simpa using h⟩
theorem Je0 D u b c xs w(hl:xs.length<=10)(Z:∀j(h:j<xs.length),w.cell? (aD b j)=some (I O xs[j])):Calls prog 140 #[I O D,I O u,.slice (sA b) xs.length c] w fun e w'=>e=.returned (.bool (PF D u xs))/\w=w':=by
 go_enter func140,ntmps140
 go_wp2
 go_loop [11] (fun i=>∃k,k<=xs.length/\i=I O k/\PF D u (xs.take k)=true) (fun i=>xs.length-(RowKit.intOf i).toNat)
 case atStart=>exact⟨0,U9 _,rfl,rfl⟩
 obtain⟨k,hk,rfl,E⟩:=hrel
 by_cases J:k<xs.length
 ·have a1:=Z k J
  have a0:=J6 E;clear E Z
  by_cases h1:D<=xs[k]
  ·by_cases h2:xs[k]<=u
   ·have C:=Jd9 D u xs k J
    have hn:PF D u (xs.take (k+1))=true:=by rw[C,a0.out];simp[h1,h2]
    have Hn:=J6 hn;clear hn C;go_wp2
    go_round
    case rel=>exact⟨k+1,Q0,J5,Hn⟩
    simp[RowKit.intOf];omega
   have C:=J6 (Qa2 D u xs k J Q0);go_wp2;go_ret;exact⟨JH C.symm,rfl⟩
  have C:=J6 (Qa2 D u xs k J Q0);go_wp2;go_ret;exact⟨JH C.symm,rfl⟩
 have C:=J6 E;clear E;go_wp2;go_ret;exact⟨JH (by rw[<-C.out,M4 Q0]),rfl⟩
theorem RC u i x n(w:World)(C:n=w.heap.size):Calls prog 140 #[I O u,I O i,.slice (sA n) 1 1] (w.alloc (.cells #[I O x] 3)) fun e w'=>e=.returned (.bool (decide (u<=x) &&decide (x<=i)))/\w.alloc (.cells #[I O x] 3)=w':=by
 subst C;refine(Je0 u i _ 1 [x] _ Q3 ?_).mono ?_
 ·intro j h;simp at h;subst h;simp
 rintro e w'⟨rfl,rfl⟩;simp[PF]
def JZ(p q:Int):Bool:=(decide (1<=p) &&decide (p<=1000000)) && (decide (1<=q) &&decide (q<=1000000))
theorem RD{p s}:JZ p s=true↔1<=p/\p<=1000000/\1<=s/\s<=1000000:=by simp[JZ,and_assoc]
theorem RG p q w:Calls prog 197 #[I O p,I O q] w fun e w'=>e=.returned (.bool (JZ p q))/\Bz w w':=by
 by_cases h1:(decide (1<=p) &&decide (p<=1000000))=true
 ·have i:JZ p q=(decide (1<=q) &&decide (q<=1000000)):=by rw[JZ,h1];rfl
  rw[i];have j:=J6 h1;clear h1 i;go_enter func197,ntmps197
  go_wp2_with fail
  refine(RC _ _ _ _ _ Q3).mono ?_;rintro e w'⟨rfl,rfl⟩;rw[j.out];go_wp2_with fail
  refine(RC _ _ _ _ _ Q3).mono ?_;rintro e w'⟨rfl,rfl⟩;go_wp2;go_ret;exact⟨rfl,((J9 _ w).alloc Q2 _).alloc Q3 _⟩
 have u:(decide (1<=p) &&decide (p<=1000000))=false:=by simpa using h1
 have i:JZ p q=false:=by rw[JZ,u];rfl
 rw[i];have j:=J6 u;clear h1 u i;go_enter func197,ntmps197
 go_wp2_with fail
 refine(RC _ _ _ _ _ Q3).mono ?_;rintro e w'⟨rfl,rfl⟩;rw[j.out];go_wp2;go_ret;exact⟨rfl,(J9 _ w).alloc Q2 _⟩
def U6(o:X6):X6:=⟨o.id,o.side,o.kind,if o.kind=2 then 1 else o.price,o.qty⟩
def UG(o:X6):Bool:=decide ((o.side=1\/o.side=2)/\1<=o.id)
def KS(o:X6):Bool:=JZ (U6 o).price o.qty
theorem Xi8 w b o(h:UG o=false):Calls prog 222 #[pA b,V6 o] w fun e w'=>e=.returned (Y9 1)/\Bz w w':=by
 have i:=J6 (show Bz w (w.alloc (.cells (Z8 o) 84))from(J9 _ w).alloc Q2 _);obtain⟨id,side,D,E,J⟩:=o;unfold UG at h;simp only[decide_eq_false_iff_not]at h;unfold V6;dsimp only at h|-
 by_cases h1:side=1
 ·have u:=KN h1
  have j:decide (id<1)=true:=V7 Q0;clear h h1;go_enter func222,ntmps222
  go_wp2;go_ret;exact⟨rfl,i⟩
 have u:=XQ h1
 by_cases h2:side=2
 ·have C:=KN h2
  have j:decide (id<1)=true:=V7 Q0;clear h h1 h2;go_enter func222,ntmps222
  go_wp2;go_ret;exact⟨rfl,i⟩
 have C:=XQ h2;clear h h1 h2;go_enter func222,ntmps222
 go_wp2;go_ret;exact⟨rfl,i⟩
theorem Kt{o}:UG o=true↔(o.side=1\/o.side=2)/\1<=o.id:=by unfold UG;simp
theorem Jo3 w b o(h:UG o=true)(C:KS o=false):Calls prog 222 #[pA b,V6 o] w fun e w'=>e=.returned (Y9 2)/\Bz w w':=by
 have i:=J6 (show Bz w (w.alloc (.cells (Z8 (U6 o)) 84))from(J9 _ w).alloc Q2 _);obtain⟨J,E⟩:=Kt.1 h;obtain⟨id,side,Z,a0,a1⟩:=o;unfold V6;unfold KS U6 at C;unfold U6 Z8 at i;dsimp only at*;have d1:decide (id<1)=false:=V9 Q0;have j:=J6 C;clear h E C;obtain rfl|rfl:=J
 all_goals
  by_cases hk:Z=2
  ·have t1:=V4 hk
   rw[X0 hk]at j i;have D:=J6 hk;clear hk;go_enter func222,ntmps222
   go_wp2_with (go_at_call 197;refine(RG _ _ _).mono ?_;rintro e w1⟨rfl,u⟩;rw[j.out])
   go_ret;exact⟨rfl,i.trans (u.mono Q3)⟩
  have t1:=Z3 hk;rw[J8 hk]at j i;have D:=J6 hk;clear hk;go_enter func222,ntmps222
  go_wp2_with (go_at_call 197;refine(RG _ _ _).mono ?_;rintro e w1⟨rfl,u⟩;rw[j.out])
  go_ret;exact⟨rfl,i.trans (u.mono Q3)⟩
theorem Qa3 w r f(h:QF w r f)k:(Instr.lookup 266 (.map (some r)) (I O k) true).run prog w=.ok (.tuple #[(f k).getD (.agg #[I O 0,I O 0,I O 0,I O 0,.bool false]),.bool (f k).isSome]) w:=
 h.lookup underlying266 underlying3 (z:=.agg #[I O 0,I O 0,I O 0,I O 0,.bool false]) Q4 k true
theorem WN{w r f}(h:QF w r f){k x}(e:f k=some (AM x)):(Instr.lookup 266 (.map (some r)) (I O k) true).run prog w= .ok (.tuple #[.agg #[I O x.1.1,I O x.1.2,I O x.2.side,I O x.2.price,.bool (x.2.kind ==2)],.bool true]) w:=by rw[Qa3 w r f h k,e];rfl
theorem Vq{w r f}(h:QF w r f){k}(e:f k=none):(Instr.lookup 266 (.map (some r)) (I O k) true).run prog w= .ok (.tuple #[.agg #[I O 0,I O 0,I O 0,I O 0,.bool false],.bool false]) w:=by rw[Qa3 w r f h k,e];rfl
theorem Qe7{w w1 b a n r F M f H reg o}(C:Y0 w b a F M n r f H reg)(j:Below (w.alloc (.cells (Z8 o) 84)).heap.size (w.alloc (.cells (Z8 o) 84)) w1):Bz w w1/\Y0 w1 b a F M n r f H reg/\J7 w1 w.heap.size 84 (Z8 o):=by have u:Bz w (w.alloc (.cells (Z8 o) 84)):=(J9 _ w).alloc Q2 _;have i:Bz w w1:=u.trans (j.mono Q3);exact⟨i,C.below i,Z4 (Z5 w _ _) j⟩
theorem Jo4 w b o a F M n r f H reg(hM:Y0 w b a F M n r f H reg)(h:UG o=true) (Z:KS o=true) x (hf:f o.id=some (AM x)):Calls prog 222 #[pA b,V6 o] w fun e w'=>e=.returned (Y9 9)/\Bz w w':=by
 obtain⟨hs,hi⟩:=Kt.1 h;obtain⟨id,side,a0,a6,a1⟩:=o;unfold V6;unfold KS U6 at Z;dsimp only at*;have d1:decide (id<1)=false:=V9 Q0;obtain⟨HM,J,E⟩:=Xt7 hM Z hf;clear h hi Z hM hf;obtain rfl|rfl:=hs
 all_goals
  by_cases hk:a0=2
  ·have t1:=V4 hk
   rw[X0 hk]at J;have HK:=J6 hk;clear hk;go_enter func222,ntmps222
   go_wp2_with fail
   refine(RG _ _ _).mono ?_;rintro e w1⟨rfl,D⟩;rw[J.out];obtain⟨C,i,j⟩:=Qe7 (o:=⟨id,_,a0,1,a1⟩) HM D;obtain⟨x0,x1,x2,x3,x4⟩:=D7 j;obtain⟨y0,y1,y2,y3,y4,y5⟩:=i.cells;have a4:=WN (w:=(w1.alloc (.cells #[I O 0,I O 0,I O 0,I O 0,.bool false] 263)).drew) (i.mp.alloc _) E;have a5:=WN (w:=w1.drew) i.mp E;have u:=J6 C;have a2:=Z9 j;have a3:=Z9 i.blk;clear i j C D;go_wp2_with fail
   go_region_law (fail)
   all_goals go_wp2_with fail
   all_goals
    go_ret;exact⟨rfl,(u.trans (Z2 ((J9 _ w1).alloc u.size _)))⟩
  have t1:=Z3 hk;rw[J8 hk]at J;have HK:=J6 hk;clear hk;go_enter func222,ntmps222
  go_wp2_with fail
  refine(RG _ _ _).mono ?_;rintro e w1⟨rfl,D⟩;rw[J.out];obtain⟨C,i,j⟩:=Qe7 (o:=⟨id,_,a0,a6,a1⟩) HM D;obtain⟨x0,x1,x2,x3,x4⟩:=D7 j;obtain⟨y0,y1,y2,y3,y4,y5⟩:=i.cells;have a4:=WN (w:=(w1.alloc (.cells #[I O 0,I O 0,I O 0,I O 0,.bool false] 263)).drew) (i.mp.alloc _) E;have a5:=WN (w:=w1.drew) i.mp E;have u:=J6 C;have a2:=Z9 j;have a3:=Z9 i.blk;clear i j C D;go_wp2_with fail
  go_region_law (fail)
  all_goals go_wp2_with fail
  all_goals
   go_ret;exact⟨rfl,(u.trans (Z2 ((J9 _ w1).alloc u.size _)))⟩
def Yj(w w':World)(b a r:Nat)(F:Nat->Prop)(n:Nat)(H:Int->HS)(o:X6):Prop:=
 ∃F' M' f' H' reg',Y0 w' b a F' M' (n+1) r f' H' reg'/\B5 M' (n+1) f' H'/\U2 w w' (Y1 b r F H) (Y1 b r F' H')/\(H' o.side).L=UF o.side (H o.side).L o/\∀s',s'≠o.side->H' s'=H s'
section
variable {M:Int->Int->Option X6} {n:Nat} {f:Int->Option Value} {H:Int->HS} {s:Int} {o:X6} {h:Int×Int}
theorem Qw1(u:B5 M n f H)(C:V5 s)(J:o.side=s)(hk:o.kind=2)(Z:KG o)(E:M h.1 h.2=none)(D:f o.id=none)A' c':B5 (XA M h.1 h.2 (some o)) (n+1) (T7 f o.id (some (AM (h,o)))) (P8 H s ⟨A',c',(H s).qA,(H s).qc,(H s).ms++[(h,o)],(H s).qs⟩)/\(P8 H s ⟨A',c',(H s).qA,(H s).qc,(H s).ms++[(h,o)],(H s).qs⟩ s).L=UF s (H s).L o:=by
 have j:=u.is s C;refine⟨u.add (x:=(h,o)) C ?_ ⟨?_,j.qk,j.rank⟩ (u.ne s C) E D Z,?_⟩
 ·show(((H s).ms++[(h,o)])++C9 (H s).qs).Perm ((h,o):: ((H s).ms++C9 (H s).qs))
  rw[VW];exact Vk
 ·intro x i
  obtain i|i:=B8.1 i
  ·exact j.mkt x i
  obtain rfl:x=(h,o):=by simpa using i
  exact⟨hk,J⟩
 rw[XK];exact(Jc4 j (h,o) hk).symm
def CW(qs:List QG)(k:Nat)(p:Int):List QG:=qs.take k++⟨p,none,0,[]⟩::qs.drop k
theorem Qa4 qs k p:(CW qs k p).map QG.que=(qs.map QG.que).take k++(p,none,0,0):: (qs.map QG.que).drop k:=by
 unfold CW;rw[L6,T2,List.map_take,List.map_drop]
 rfl
theorem Qw2{qs k}(hk:k<=qs.length)p:(CW qs k p).length=qs.length+1:=by unfold CW;simp;omega
theorem Xi9{qs k}(hk:k<=qs.length)p:(CW qs k p)[k]?=some ⟨p,none,0,[]⟩:=by
 unfold CW;rw[Jt Q7,R7,SW hk,Nat.sub_self]
 rfl
theorem Xj0 qs k p:(CW qs k p).filterMap (fun q=>X5 q.A)=qs.filterMap fun q=>X5 q.A:=by unfold CW;rw[List.filterMap_append,Jw rfl,<-List.filterMap_append,P9]
theorem Dy{qs k p q}(i:q∈CW qs k p):q∈qs\/q=⟨p,none,0,[]⟩:=by
 unfold CW at i;obtain h|h:=B8.1 i
 ·exact .inl (CV h)
 obtain h|h:=H8.1 h
 ·exact .inr h
 exact .inl (FP h)
theorem Qa5{a b}(h:0<=P5 s a b)(i:a≠b)(j:V5 s):KU s b a=true:=by
 unfold P5 at h;rw[J8 i]at h
 split at h
 ·omega
 rename_i u;unfold KU at*;obtain rfl|rfl:=j<;>simp_all<;>omega
theorem Jo5{ms qs k p}(hs:V5 s)(h:LU s ms qs)(hf:Yo s p (qs.map QG.que) qs.length k)(Z:PU s p (qs.map QG.que) qs.length k=false):LU s ms (CW qs k p)/\N6 ms (CW qs k p)=N6 ms qs:=by
 obtain⟨hk,a4,a0⟩:=hf;have a6:∀i(j:i<qs.length),k<=i->qs[i].price≠p:=by
  intro i j a2 e;have u:=a0 i (by simpa using j) a2;simp only[List.getElem_map]at u;have a1:k<qs.length:=Q0;unfold PU at Z;have e1:(qs.map QG.que)[k]?=some qs[k].que:=by simp[a1]
  rw[e1]at Z;have hd:decide (k<qs.length)=true:=by simpa using a1
  rw[hd]at Z;have a3:P5 s qs[k].price p≠0:=by
   have:(P5 s qs[k].que.1 p ==0)=false:=by simpa using Z
   simpa [QG.que]using this
  obtain a5|rfl:=SS a2
  ·have C:=Qn h.rank j a5
   rw[e]at C;have h2:=a0 k (by simpa using a1) Q2;simp only[List.getElem_map]at h2;have h3:P5 s qs[k].que.1 p=P5 s qs[k].price p:=rfl;have h4:=Qa5 (s:=s) (a:=qs[k].price) (b:=p) (by rw[<-h3];exact h2) (Qe1 C) hs;rw[Pb C]at h4
   cases h4
  exact a3 (by rw[e];unfold P5;rw[X0 rfl])
 refine⟨⟨h.mkt,fun q hq x E=>?_,?_⟩,?_⟩
 ·obtain hq|rfl:=Dy hq
  ·exact h.qk q hq x E
  cases E
 ·rw[Qa4]
  unfold FY;have C:=h.rank;unfold FY at C;have D:=C;rw[<-P9 k (qs.map QG.que)]at D;rw[DZ]at D|-;refine⟨D.1,?_,?_⟩
  ·rw[RV]
   refine⟨fun y hy=>?_,D.2.1⟩;obtain⟨i,j,rfl⟩:=ZX.1 hy;rw[Xj];have J:k+i<qs.length:=by simp at j;omega
   have u:=a0 (k+i) (by simpa using J) Q0;have h1:=a6 (k+i) J Q0;simp only[List.getElem_map]at u|-;exact Qa5 u h1 hs
  intro x E y hy;obtain rfl|hy:=H8.1 hy
  ·obtain⟨i,j,rfl⟩:=ZX.1 E
   have J:i<k:=by simp at j;omega
   rw[MQ];have u:=a4 i Q7 J;exact Dr.1 u
  exact D.2.2 x E y hy
 unfold N6;have:=Qv1 qs k ⟨p,none,0,[]⟩ rfl;unfold CW;rw[this]
theorem Je1(hS:B5 M n f H)(hs:V5 s)(ho:o.side=s)(hk:o.kind≠2)(a4:KG o)(a3:M h.1 h.2=none)(hf:f o.id=none)qA qc qs(u:LU s (H s).ms qs)(Z:N6 (H s).ms qs=(H s).all){k}(J:k<qs.length)(hp:qs[k].price=o.price)(a2:∀i(u:i<qs.length),i≠k->qs[i].os≠[]) A' c':B5 (XA M h.1 h.2 (some o)) (n+1) (T7 f o.id (some (AM (h,o)))) (P8 H s ⟨(H s).mA,(H s).mc,qA,qc,(H s).ms,qs.set k ⟨qs[k].price,A',c',qs[k].os++[(h,o)]⟩⟩)/\(P8 H s ⟨(H s).mA,(H s).mc,qA,qc,(H s).ms,qs.set k ⟨qs[k].price,A',c',qs[k].os++[(h,o)]⟩⟩ s).L=UF s (H s).L o:=by
 refine⟨hS.add (x:=(h,o)) hs ?_ ⟨u.mkt,?_,?_⟩ ?_ a3 hf a4,?_⟩
 ·rw[<-Z]
  show(N6 _ _).Perm _;unfold N6;rw[Ds qs J,NT qs J];have:(H s).ms++(C9 (qs.take k)++((qs[k].os++[(h,o)])++C9 (qs.drop (k+1))))=((H s).ms++(C9 (qs.take k)++qs[k].os))++(h,o)::C9 (qs.drop (k+1)):=Q3;rw[this];refine List.perm_middle.trans ?_;simp
 ·intro q D x C
  obtain D|rfl:=RJ D
  ·exact u.qk q D x C
  obtain C|C:=B8.1 C
  ·exact u.qk _ (C7 _) x C
  obtain rfl:x=(h,o):=by simpa using C
  exact⟨hk,ho,hp.symm⟩
 ·have e2:(qs.set k ⟨qs[k].price,A',c',qs[k].os++[(h,o)]⟩).map QG.que=(qs.map QG.que).set k (qs[k].price,A',qs[k].os.length+1,c'):=by
   rw[List.map_set];simp[QG.que]
  unfold FY;rw[e2];rw[GG];intro i j E a1 a0;have h0:=GG.1 u.rank i j (by simpa using E) (by simpa using a1) a0;simp only[List.getElem_map,QG.que]at h0;simp only[List.getElem_set,List.getElem_map,QG.que]
  split<;>split<;>simp_all
 ·intro q D
  obtain⟨i,E,rfl⟩:=ZX.1 D;rw[List.getElem_set]
  split
  ·simp
  exact a2 i (by simpa using E) (fun e=>Q0)
 rw[XK];have:=Jm9 u (h,o) hk J hp ⟨qs[k].price,A',c',qs[k].os++[(h,o)]⟩ rfl;rw[Z]at this;exact this.symm
variable {w w5 w6:World} {b a r:Nat} {F F':Nat->Prop} {reg':Nat->Int} {m gg cap:Nat}
theorem Qm9(hS:B5 M n f H)(Z:V5 s)(j:o.side=s)(hk:o.kind=2)(a4:KG o)(a3:M h.1 h.2=none)(hf:f o.id=none)(a0:Y0 w5 b a F' (XA M h.1 h.2 (some o)) (n+1) r (T7 f o.id (some (AM (h,o)))) H reg') (a2:U2 w w5 (Y1 b r F H) (Y1 b r F' H)) (hm:(H s).ms.length=m)(D:X4 (fun i=>(Value.slice (H s).mA m (H s).mc).ownBlock=some i) w5 w6) (a1:w6.ownsRow 0 261 2 (.slice (sA gg) (m+1) cap) (m+1) (X7 S7 (N9 (H s).ms)++S7 h))(u:(Value.slice (H s).mA m (H s).mc).ownBlock=some gg\/gg=w5.heap.size+1):Yj w (w6.setCell (aD b (XB s)) (.slice (sA gg) (m+1) cap)) b a r F n H o:=by
 subst hm;rw[C8]at D u;have J:((H s).ms++[(h,o)]).length=(H s).ms.length+1:=Q3;have hR:X8 w6 (sA gg) ((H s).ms++[(h,o)]).length cap 261 2 (X7 S7 (N9 ((H s).ms++[(h,o)]))):=by
  rw[J];have e:X7 S7 (N9 ((H s).ms++[(h,o)]))=X7 S7 (N9 (H s).ms)++S7 h:=by unfold N9;rw[L6,NM];simp[X7]
  rw[e];exact a1
 obtain⟨a6,E,C⟩:=a0.market Z D hR (fun g hg=>by cases hg;exact u.imp id (fun e=>by show _<=gg;omega));rw[J]at E C;obtain⟨h1,h2⟩:=Qw1 hS Z j hk a4 a3 hf (sA gg) cap;refine⟨F',_,_,_,a6,E,h1,a2.trans C,?_,fun s' a5=>ZK (by rw[<-j];exact a5)⟩;rw[j];exact h2
def Ga(w wx:World)(b a r:Nat)(F F':Nat->Prop)(M':Int->Int->Option X6)(n:Nat)(f':Int->Option Value)(H:Int->HS)(s p:Int)(k pb:Nat):Prop:=
 ∃H1 reg1 qA qc qs,Y0 wx b a F' M' (n+1) r f' H1 reg1/\U2 w wx (Y1 b r F H) (Y1 b r F' H1)/\H1=P8 H s ⟨(H s).mA,(H s).mc,qA,qc,(H s).ms,qs⟩/\LU s (H s).ms qs/\N6 (H s).ms qs=(H s).all/\¬Y1 b r F' H1 pb/\∃hkl:k<qs.length,qs[k].price=p/\∀i(hi:i<qs.length),i≠k->qs[i].os≠[]
theorem Xj1 H s:P8 H s ⟨(H s).mA,(H s).mc,(H s).qA,(H s).qc,(H s).ms,(H s).qs⟩=H:=by
 funext s'
 unfold P8
 split
 ·rename_i e;rw[e]
 rfl
theorem Qw3{M' f' p k pb}(a0:¬Y1 b r F' H pb)(C:B5 M n f H)(D:V5 s)(J:Y0 w5 b a F' M' (n+1) r f' H reg')(Z:U2 w w5 (Y1 b r F H) (Y1 b r F' H))(j:PU s p ((H s).qs.map QG.que) (H s).qs.length k=true):Ga w w5 b a r F F' M' n f' H s p k pb:=by
 unfold PU at j;rw[Bool.and_eq_true,decide_eq_true_iff]at j;obtain⟨hk,j⟩:=j;refine⟨H,reg',(H s).qA,(H s).qc,(H s).qs,J,Z,(Xj1 H s).symm,C.is s D,rfl,a0,hk,?_,fun i hi _=>C.ne s D _ (C7 _)⟩;have E:((H s).qs.map QG.que)[k]?=some (H s).qs[k].que:=by simp[hk]
 rw[E]at j;have u:P5 s (H s).qs[k].price p=0:=by simpa [QG.que]using j
 unfold P5 at u
 split at u
 ·assumption
 split at u<;>omega
theorem Jo6{M' f' p k pb}(a7:¬Y1 b r F' H pb)(a9:pb<w5.heap.size){A' c' v}(hS:B5 M n f H)(C:V5 s)(a0:Y0 w5 b a F' M' (n+1) r f' H reg')(a2:U2 w w5 (Y1 b r F H) (Y1 b r F' H))(hk:Yo s p ((H s).qs.map QG.que) (H s).qs.length k) (hf:PU s p ((H s).qs.map QG.que) (H s).qs.length k=false)(hI:Jg YJ 320 2 w5 w6 (H s).qA A' ((H s).qs.length+1) c' (((H s).qs.map QG.que).take k++(p,none,0,0):: ((H s).qs.map QG.que).drop k)) (hv:v=.slice A' ((H s).qs.length+1) c'):Ga w (w6.setCell (aD b (XB s+1)) v) b a r F F' M' n f' H s p k pb:=by
 subst hv;obtain⟨hR,hK,j⟩:=hI;have a1:=hk.1;have hl:=Qw2 a1 p;rw[<-Qa4,<-hl]at hR;obtain⟨a8,hM,J⟩:=a0.queues C hK hR j (fun q hq=>(Dy hq).imp id (fun e=>by subst e;exact⟨rfl,rfl,rfl⟩)) (by rw[Xj0];exact(a0.hx s C).nd);obtain⟨h1,h2⟩:=Jo5 C (hS.is s C) hk hf;rw[hl]at hM J;have Z:k<(CW (H s).qs k p).length:=Q0;have j:=Xi9 a1 p;rw[JY Z]at j;refine⟨_,a8,A',c',CW (H s).qs k p,hM,a2.trans J,rfl,h1,h2,(fun E=>(J.2 pb E).elim a7 Q0),Z,by rw[XG j],fun i E a4 e=>?_⟩;have a6:=Dy (C7 E);obtain D|D:=a6
 ·exact hS.ne s C _ D e
 
 have hr:=h1.rank;obtain a5|a3:=Nat.lt_or_gt_of_ne a4
 ·have u:=Qn hr Z a5
  rw[D,XG j,Bn]at u
  cases u
 have u:=Qn hr E a3;rw[D,XG j,Bn]at u
 cases u
theorem Qo5{k qg H1 qA qc qs}(hS:B5 M n f H)(hs:V5 s)(C:o.side=s)(hk:o.kind≠2)(a6:KG o)(a5:M h.1 h.2=none)(hf:f o.id=none)(a1:Y0 w5 b a F' (XA M h.1 h.2 (some o)) (n+1) r (T7 f o.id (some (AM (h,o)))) H1 reg') (a3:U2 w w5 (Y1 b r F H) (Y1 b r F' H1)) (hH:H1=P8 H s ⟨(H s).mA,(H s).mc,qA,qc,(H s).ms,qs⟩)(hi:LU s (H s).ms qs) (ha:N6 (H s).ms qs=(H s).all) (a0:k<qs.length) (hp:qs[k].price=o.price) (a4:∀i(hi:i<qs.length),i≠k->qs[i].os≠[]) (hq:qA=sA qg) (hm:qs[k].os.length=m)(J:X4 (fun i=>(Value.slice qs[k].A m qs[k].c).ownBlock=some i) w5 w6) (a2:w6.ownsRow 0 261 2 (.slice (sA gg) (m+1) cap) (m+1) (X7 S7 (N9 qs[k].os)++S7 h))(D:(Value.slice qs[k].A m qs[k].c).ownBlock=some gg\/gg=w5.heap.size+1):Yj w (w6.setCell (aD qg (k*2+1)) (.slice (sA gg) (m+1) cap)) b a r F n H o:=by
 subst hm;subst hH;rw[C8]at J D;have hl:(qs[k].os++[(h,o)]).length=qs[k].os.length+1:=Q3;have hR:X8 w6 (sA gg) (qs[k].os++[(h,o)]).length cap 261 2 (X7 S7 (N9 (qs[k].os++[(h,o)]))):=by
  rw[hl];have e:X7 S7 (N9 (qs[k].os++[(h,o)]))=X7 S7 (N9 qs[k].os)++S7 h:=by unfold N9;rw[L6,NM];simp[X7]
  rw[e];exact a2
 have j:P8 H s ⟨(H s).mA,(H s).mc,qA,qc,(H s).ms,qs⟩ s=⟨(H s).mA,(H s).mc,qA,qc,(H s).ms,qs⟩:=XK _ _ _;have u:=a1.queue (s:=s) hs (w3:=w6) (k:=k) (by rw[j];exact a0) (qg:=qg) (by rw[j];exact hq) (A':=sA gg) (c':=cap) (os':=qs[k].os++[(h,o)])
  (by simpa only[j]using J) hR (fun g hg=>by cases hg;simp only[j];exact D.imp id (fun e=>by show _<=gg;omega))
 rw[hl]at u;simp only[j]at u;obtain⟨a8,Z,E⟩:=u;have e2:P8 (P8 H s ⟨(H s).mA,(H s).mc,qA,qc,(H s).ms,qs⟩) s ⟨(H s).mA,(H s).mc,qA,qc,(H s).ms,qs.set k ⟨qs[k].price,sA gg,cap,qs[k].os++[(h,o)]⟩⟩=P8 H s ⟨(H s).mA,(H s).mc,qA,qc,(H s).ms,qs.set k ⟨qs[k].price,sA gg,cap,qs[k].os++[(h,o)]⟩⟩:=by
  funext s'
  unfold P8
  split<;>rfl
 rw[e2]at Z E;obtain⟨h1,h2⟩:=Je1 hS hs C hk a6 a5 hf qA qc qs hi ha a0 hp a4 (sA gg) cap;refine⟨F',_,_,_,a8,Z,h1,a3.trans E,?_,fun s' a7=>ZK (by rw[<-C];exact a7)⟩;rw[C];exact h2
end
def SD(w wx:World)(b a:Nat)(F:Nat->Prop)(M:Int->Int->Option X6)(n r:Nat)(f:Int->Option Value)(H:Int->HS)(reg:Nat->Int)(o:X6):Prop:=
 Bz w wx/\Y0 wx b a F M n r f H reg/\J7 wx w.heap.size 84 (Z8 o)
def Xs6(W:World)(a:Nat)(F:Nat->Prop)(M:Int->Int->Option X6)(n:Nat)(o:X6)(e:Ending)(w':World):Prop:=
 ∃sl ag,M sl ag=none/\e=.returned (.tuple #[.agg #[I O sl,I O ag],.nilIface])/\WX W w' a F (XA M sl ag (some o)) 100 (n+1)
def Qj2(w wx:World)(b a:Nat)(F:Nat->Prop)(M:Int->Int->Option X6)(n r:Nat)(f:Int->Option Value)(H:Int->HS)(o:X6)(s8:Value):Prop:=
 ∃(h:Int×Int)(pb:Nat)(F':Nat->Prop)(reg':Nat->Int),s8=pA pb/\M h.1 h.2=none/\J7 wx pb 261 #[I O h.1,I O h.2]/\J7 wx w.heap.size 84 (Z8 o)/\Y0 wx b a F' (XA M h.1 h.2 (some o)) (n+1) r f H reg'/\U2 w wx (Y1 b r F H) (Y1 b r F' H)/\¬Y1 b r F' H pb/\¬Y1 b r F' H w.heap.size
theorem Qe8{w w1 wx b a n r F M f H reg o}(h:SD w w1 b a F M n r f H reg o)(i:Bz w1 wx):SD w wx b a F M n r f H reg o:=by obtain⟨h1,h2,j⟩:=h;exact⟨h1.trans (i.mono h1.size),h2.below i,Z4 j i⟩
def Xq6(wc wx:World)(qg k m:Nat)(A:Option Addr)(c:Nat)(xs:List Value):Prop:=
 ∃gg cap w6,wx=World.setCell w6 (aD qg (k*2+1)) (.slice (sA gg) (m+1) cap)/\X4 (fun i=>(Value.slice A m c).ownBlock=some i) wc w6/\w6.ownsRow 0 261 2 (.slice (sA gg) (m+1) cap) (m+1) xs/\((Value.slice A m c).ownBlock=some gg\/gg=wc.heap.size+1)
theorem Ud{w:World}{o p v}(h:w.cell? p=some v):(w.alloc o).cell? p=some v:=(W7 w o p (U5 w _ h)).trans h
theorem Qw4{w:World}{o p1 p2 p3 p4 v1 v2 v3 v4}(h:w.cell? p1=some v1/\w.cell? p2=some v2/\w.cell? p3=some v3/\w.cell? p4=some v4):(w.alloc o).cell? p1=some v1/\(w.alloc o).cell? p2=some v2/\(w.alloc o).cell? p3=some v3/\(w.alloc o).cell? p4=some v4:=⟨Ud h.1,Ud h.2.1,Ud h.2.2.1,Ud h.2.2.2⟩
theorem Xn6{n m H s}(i:V5 s)(j:(H s).ms.length=m)(h1:n=(E8 H).length)(h2:n<100):m<=1000:=by unfold E8 HS.all N6 at h1;simp only[List.length_append]at h1;obtain rfl|rfl:=i<;>omega
theorem Qh4{M n f H s}(u:V5 s)(j:B5 M n f H)(h2:n<100):(H s).qs.length<=100000:=by
 have h1:=j.cnt;have J:(H s).qs.length<=(C9 (H s).qs).length:=by
  have i:=j.ne s u;generalize(H s).qs=l at i
  induction l with
  |nil=>simp
  |cons q l C=>
   have C:=C (fun q D=>i q (by simp[D]));have E:0<q.os.length:=RZ.2 (i q Q3);have e:C9 (q::l)=q.os++C9 l:=rfl;rw[e,B6,JA];omega
 unfold E8 HS.all N6 at h1;simp only[List.length_append]at h1;obtain rfl|rfl:=u<;>omega
theorem Mg:(prog.info? 261).map (fun i=>(i.zero,i.size,i.bytes))=some (some (.agg #[I O 0,I O 0]),2,16):=Q4
theorem Zc:V5 1:=.inl rfl
theorem Zd:V5 2:=.inr rfl
theorem Xj2{wc w5 a most n n' F M M'}(i:YP wc a F M most n)(u:WX ((wc.alloc (.cells #[I O 0,I O 0] 261)).drew) w5 a F M' 100 n'):J7 w5 wc.heap.size 261 #[I O 0,I O 0]:=by obtain⟨F',_,j,_⟩:=u;exact V0 (Y6 (Z5 wc _ _)) j (fun h=>by have:=i.fp h;omega)
theorem Qa6{w wc W w5 wx b a n r pb F M f H reg o sl ag}(J:Y0 w b a F M n r f H reg)(h:SD w wc b a F M n r f H reg o)(D:Bz wc W) (a2:M sl ag=none) (a3:WX W w5 a F (XA M sl ag (some o)) 100 (n+1)) (hk:X4 (fun i=>i=pb) w5 wx) (a4:pb<W.heap.size\/w5.heap.size<=pb) (a6:wc.heap.size<=pb)(hB:J7 wx pb 261 #[I O sl,I O ag]):Qj2 w wx b a F M n r f H o (pA pb):=by
 obtain⟨h1,h2,E⟩:=h;have a1:=h2.below D;obtain⟨F',reg',Z,C⟩:=a1.arena a3;have a5:=C.1.size;have a8:=Z9 E;have a7:=D.size;have a0:=h1.size;have hx:∀i,Y1 b r F' H i->i≠pb:=by
  intro i j e;subst e;have h5:=Z.fp j;obtain u|u:=C.2 i j
  ·have:=h2.fp u;omega
  omega
 refine⟨(sl,ag),pb,F',reg',rfl,a2,hB,?_,Z.keeps hk (fun i j e=>hx i j e),⟨?_,?_⟩,fun h=>hx pb h rfl,?_⟩
 ·refine V0 (V0 (Z4 E D) C.1 (fun j=>?_)) hk (fun e=>Q0)
  have:=J.fp j;omega
 ·refine(((B9 (h1.trans (D.mono a0)) (Y1 b r F H)).trans C.1 (fun i h=>.inl h))).trans hk (fun i e=>.inr (by rw[e];omega))
 ·intro i j
  obtain u|u:=C.2 i j
  ·exact .inl u
  exact .inr Q0
 intro j;obtain u|u:=C.2 _ j
 ·have:=J.fp u;omega
 omega
theorem Je2{w w1 b a n r F M f H reg o}(D:Y0 w b a F M n r f H reg)(h:SD w w1 b a F M n r f H reg o)(hk:(o.kind ==2)=true):SD w (w1.setCell (aD w.heap.size 3) (I O 1)) b a F M n r f H reg (U6 o):=by
 obtain⟨h1,h2,C⟩:=h;have u:=U1 w1 ⟨w.heap.size,3,none⟩ (I O 1);have E:o.kind=2:=by simpa using hk
 refine⟨((B9 h1 (fun i=>i=w.heap.size)).trans u (fun i h=>.inl h)).below (fun i j=>by rw[j];exact X3 _) Q2,h2.keeps u (fun i j e=>?_),?_⟩
 ·have:=D.fp j
  have J:i=w.heap.size:=e;omega
 have:=Z0 C 3 (I O 1);have e:(Z8 o).setIfInBounds 3 (I O 1)=Z8 (U6 o):=by unfold Z8 U6;rw[X0 E];rfl
 rwa [e]at this
theorem Jo7{o}(hk:(o.kind ==2)=false):U6 o=o:=by
 have i:¬o.kind=2:=by simpa using hk
 unfold U6;rw[J8 i]
def Uy(w w':World)(b a r:Nat)(F:Nat->Prop)(n:Nat)(H:Int->HS)(s id:Int):Prop:=
 ∃F' M' f' H' reg',Y0 w' b a F' M' (n-1) r f' H' reg'/\B5 M' (n-1) f' H'/\U2 w w' (Y1 b r F H) (Y1 b r F' H')/\(H' s).L=L9 (H s).L id/\∀s',s'≠s->H' s'=H s'
theorem Cc l h:N9 (l.filter (L3 h))=(N9 l).filter fun p=> !WA h p:=by
 unfold N9 L3;rw[Xn]
 rfl
theorem Bb l h:((N9 l).filter fun p=> !WA h p).length=(l.filter (L3 h)).length:=by rw[<-Cc];simp[N9]
section
variable {M:Int->Int->Option X6} {n:Nat} {f:Int->Option Value} {H:Int->HS} {s:Int} {x:HO}
theorem B5.where_(S:B5 M n f H)(j:V5 s)(C:x∈(H s).all):(x.2.kind=2/\x∈(H s).ms)\/(x.2.kind≠2/\∃k,∃hk:k<(H s).qs.length,x∈(H s).qs[k].os/\(H s).qs[k].price=x.2.price):=by
 obtain h|h:=B8.1 C
 ·exact .inl ⟨((S.is s j).mkt x h).1,h⟩
 obtain⟨q,i,u⟩:=RU.1 h;obtain⟨k,hk,rfl⟩:=ZX.1 i;have h1:=(S.is s j).qk _ i x u;exact .inr ⟨h1.1,k,hk,u,h1.2.2.symm⟩
theorem Xa4{ms qs}(J:LU s ms qs){j k p}(u:j<qs.length)(hp:qs[j].price=p)(D:Yo s p (qs.map QG.que) qs.length k):k=j:=by
 obtain⟨hk,Z,E⟩:=D;have C:P5 s p p=0:=by unfold P5;rw[X0 rfl]
 obtain h|h|h:=Nat.lt_trichotomy k j
 ·have h1:=Qn J.rank u h
  rw[hp]at h1;have h2:=E k Q7 Q2;simp only[List.getElem_map]at h2;have h3:P5 s (qs[k]'(by omega)).price p<0:=Dr.2 h1;have i:P5 s (qs[k]'(by omega)).que.1 p=P5 s (qs[k]'(by omega)).price p:=rfl;omega
 ·exact h
 have h2:=Z j (by simpa using u) h;simp only[List.getElem_map]at h2;have i:P5 s qs[j].que.1 p=P5 s qs[j].price p:=rfl;rw[i,hp,C]at h2;omega
theorem Qw5(S:B5 M n f H)(i:V5 s)(u:x∈(H s).all)(hk:x.2.kind=2)A' c':B5 (XA M x.1.1 x.1.2 none) (n-1) (T7 f x.2.id none) (P8 H s ⟨A',c',(H s).qA,(H s).qc,(H s).ms.filter (L3 x.1),(H s).qs⟩)/\(P8 H s ⟨A',c',(H s).qA,(H s).qc,(H s).ms.filter (L3 x.1),(H s).qs⟩ s).L=L9 (H s).L x.2.id:=by
 have j:=S.is s i;have C:N6 ((H s).ms.filter (L3 x.1)) (H s).qs=(H s).all.filter (L3 x.1):=by
  show _=(N6 (H s).ms (H s).qs).filter _;unfold N6;rw[JE]
  congr 1
  symm;rw[VT];intro y hy;rw[PK];intro e;have E:y∈(H s).all:=JJ _ hy;have:=S.same_h (BM i E) (BM i u) e;subst this;obtain⟨q,D,J⟩:=RU.1 hy;exact(j.qk q D y J).1 hk
 refine⟨S.remove i u C ⟨fun y hy=>j.mkt y ((S4.1 hy).1),j.qk,j.rank⟩ (S.ne s i),?_⟩;rw[XK];show E7 (N6 _ _)=_;rw[C];exact S.filter_id (BM i u) i
theorem Ph(S:B5 M n f H)(j:V5 s){k}(hk:k<(H s).qs.length)(C:x∈(H s).qs[k].os)(a0:x∈(H s).all):(H s).all.filter (L3 x.1)=(H s).ms++(C9 ((H s).qs.take k)++((H s).qs[k].os.filter (L3 x.1)++C9 ((H s).qs.drop (k+1)))):=by
 have hi:=S.is s j;have i:(E8 H).Nodup:=List.Pairwise.imp (fun h e=>h (by rw[e])) (Xk.1 S.ids);have u:(H s).all.Nodup:=by
  unfold E8 at i;rw[BE]at i;obtain rfl|rfl:=j
  ·exact i.1
  exact i.2.1
 have e0:(H s).all=(H s).ms++(C9 ((H s).qs.take k)++((H s).qs[k].os++C9 ((H s).qs.drop (k+1)))):=by show N6 _ _=_;unfold N6;rw[NT _ hk]
 have D:∀l:List HO,(∀y∈l,y∈(H s).all)->x∉l->l.filter (L3 x.1)=l:=by intro l hl a1;rw[VT];intro y hy;rw[PK];intro e;have:=S.same_h (BM j (hl y hy)) (BM j a0) e;subst this;exact a1 hy
 rw[e0]at u;rw[BE,BE,BE]at u;obtain⟨_,⟨_,⟨_,_,Z⟩,J⟩,E⟩:=u;rw[e0,JE,JE,JE];rw[D (H s).ms (fun y hy=>by rw[e0];simp[hy]) (fun h=>E x h x (by simp[C]) rfl)];rw[D (C9 ((H s).qs.take k)) (fun y hy=>by rw[e0];simp[hy]) (fun h=>J x h x (by simp[C]) rfl)];rw[D (C9 ((H s).qs.drop (k+1))) (fun y hy=>by rw[e0];simp[hy]) (fun h=>Z x C x h rfl)]
theorem Je3(S:B5 M n f H)(C:V5 s){k}(hk:k<(H s).qs.length)(hx:x∈(H s).qs[k].os)(E:x∈(H s).all)(a3:(H s).qs[k].os.filter (L3 x.1)≠[])A' c':B5 (XA M x.1.1 x.1.2 none) (n-1) (T7 f x.2.id none) (P8 H s ⟨(H s).mA,(H s).mc,(H s).qA,(H s).qc,(H s).ms,(H s).qs.set k ⟨(H s).qs[k].price,A',c',(H s).qs[k].os.filter (L3 x.1)⟩⟩)/\(P8 H s ⟨(H s).mA,(H s).mc,(H s).qA,(H s).qc,(H s).ms,(H s).qs.set k ⟨(H s).qs[k].price,A',c',(H s).qs[k].os.filter (L3 x.1)⟩⟩ s).L=L9 (H s).L x.2.id:=by
 have D:=S.is s C;have J:N6 (H s).ms ((H s).qs.set k ⟨(H s).qs[k].price,A',c',(H s).qs[k].os.filter (L3 x.1)⟩)=(H s).all.filter (L3 x.1):=by rw[Ph S C hk hx E];unfold N6;rw[Ds _ hk]
 refine⟨S.remove C E J ⟨D.mkt,fun q u y hy=>?_,?_⟩ (fun q u=>?_),?_⟩
 ·obtain u|rfl:=RJ u
  ·exact D.qk q u y hy
  exact D.qk _ (C7 _) y ((S4.1 hy).1)
 ·have Z:((H s).qs.set k ⟨(H s).qs[k].price,A',c',(H s).qs[k].os.filter (L3 x.1)⟩).map QG.que=((H s).qs.map QG.que).set k ((H s).qs[k].price,A',((H s).qs[k].os.filter (L3 x.1)).length,c'):=by
   rw[List.map_set];simp[QG.que]
  show FY s (List.map QG.que _);unfold FY;rw[Z,GG];intro i j a0 a2 a1;have h0:=GG.1 D.rank i j (by simpa using a0) (by simpa using a2) a1;simp only[List.getElem_map,QG.que]at h0;simp only[List.getElem_set,List.getElem_map,QG.que]
  split<;>split<;>simp_all
 ·obtain u|rfl:=RJ u
  ·exact S.ne s C q u
  exact a3
 rw[XK];show E7 (N6 _ _)=_;rw[J];exact S.filter_id (BM C E) C
theorem Jo8(S:B5 M n f H)(j:V5 s){k}(hk:k<(H s).qs.length)(hx:x∈(H s).qs[k].os)(C:x∈(H s).all)(J:(H s).qs[k].os.filter (L3 x.1)=[])A' c':B5 (XA M x.1.1 x.1.2 none) (n-1) (T7 f x.2.id none) (P8 H s ⟨(H s).mA,(H s).mc,A',c',(H s).ms,(H s).qs.take k++(H s).qs.drop (k+1)⟩)/\(P8 H s ⟨(H s).mA,(H s).mc,A',c',(H s).ms,(H s).qs.take k++(H s).qs.drop (k+1)⟩ s).L=L9 (H s).L x.2.id:=by
 have u:=S.is s j;have D:N6 (H s).ms ((H s).qs.take k++(H s).qs.drop (k+1))=(H s).all.filter (L3 x.1):=by
  rw[Ph S j hk hx C,J];unfold N6 C9;rw[Vf]
  rfl
 have E:∀q∈(H s).qs.take k++(H s).qs.drop (k+1),q∈(H s).qs:=by
  intro q i;obtain i|i:=B8.1 i
  ·exact CV i
  exact FP i
 refine⟨S.remove j C D ⟨u.mkt,fun q i y hy=>u.qk q (E q i) y hy,?_⟩ (fun q i=>S.ne s j q (E q i)),?_⟩
 ·show FY s (List.map QG.que _)
  have:=u.rank;unfold FY at this|-;rw[L6,List.map_take,List.map_drop];have Z:List.Sublist ((List.map QG.que (H s).qs).take k++(List.map QG.que (H s).qs).drop (k+1)) (List.map QG.que (H s).qs):=by
   conv=>rhs;rw[<-P9 k (List.map QG.que (H s).qs)]
   refine Au (List.Sublist.refl _) ?_;rw[<-Xr];exact Vi _ _
  exact An Z this
 rw[XK];show E7 (N6 _ _)=_;rw[D];exact S.filter_id (BM j C) j
theorem Qn0{α:Type}(g:α->Option Nat)(l:List α)k(h:(l.filterMap g).Nodup):((l.take k++l.drop (k+1)).filterMap g).Nodup:=by
 refine Xe (List.Sublist.filterMap _ ?_) h
 conv=>rhs;rw[<-P9 k l]
 refine Au (List.Sublist.refl _) ?_;rw[<-Xr];exact Vi _ _
