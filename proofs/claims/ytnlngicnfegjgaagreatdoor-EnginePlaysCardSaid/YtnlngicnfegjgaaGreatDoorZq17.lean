/- Parts. -/
import Derived.Test.YtnlngicnfegjgaaGreatDoorZq15
import Derived.Test.YtnlngicnfegjgaaGreatDoorZq16
set_option linter.unusedVariables false
set_option maxRecDepth 100000
set_option maxHeartbeats 8000000
open Go.Proofs.Tryz
open Go.Value renaming int→I,pointer→IP
open Go.IntKind renaming i64→O
namespace Go.Proofs.YtnlngicnfegjgaaGreatDoor
open Go.RowKit
def Qm (lv:List X4) (bu p:Int):Int:=L5 (lv.filter fun y=>decide (p<=y.1)) bu
def Qn (lv:List X4) (se p:Int):Int:=KM (lv.filter fun y=>decide (y.1<=p)) se
def FM (lv:List X4) (bu se p:Int):X4:=(p,Qm lv bu p,Qn lv se p)
theorem WB l: ∀a,L5 l a=a+L5 l 0:=by
 induction l with
 |nil=>intro a;unfold L5;simp
 |cons y u i=>
  intro a;have v:=i (a+y.2.1);have j:=i (0+y.2.1);unfold L5 at*;rw[QZ,QZ,v,j];omega
theorem Gp l: ∀a,KM l a=a+KM l 0:=by
 induction l with
 |nil=>intro a;unfold KM;simp
 |cons y u i=>
  intro a;have v:=i (a+y.2.2);have j:=i (0+y.2.2);unfold KM at*;rw[QZ,QZ,v,j];omega
theorem Qc2 l l' a:L5 (l++l') a=L5 l' (L5 l a):=by unfold L5;rw[CL]
theorem Dh {α:Type} {q} {l:List α} (h: ∀x∈l,q x=false):l.filter q= []:=List.filter_eq_nil_iff.2 (fun x i=>by rw[h x i];simp)
theorem Cg {α:Type} {q} {l:List α} (h: ∀x∈l,q x=true):l.filter q=l:=KR.2 h
theorem At {pre post bu p} (h1: ∀x∈pre,x.1<p) (h2: ∀x∈post,p<=x.1):Qm (pre++post) bu p=L5 post bu:=by
 unfold Qm
 rw[QL,Dh (fun x i=>PP (by have:=h1 x i;omega)),Cg (fun x i=>EC (h2 x i)),VZ]
theorem Au {pre post se p} (h1: ∀x∈pre,x.1<=p) (h2: ∀x∈post,p<x.1):Qn (pre++post) se p=KM pre se:=by
 unfold Qn
 rw[QL,Dh (l:=post) (fun x i=>PP (by have:=h2 x i;omega)),Cg (l:=pre) (fun x i=>EC (h1 x i)),YP]
structure PX (lv:List X4) (bu se more:Int) (pre:List X4) (s:Zi):Prop where
 told:s.told=(decide (more<1) ||pre.any fun x=>decide (more<=x.1))
 out: ∀e∈s.out,e=FM lv bu se e.1
 asc:(s.out.map (·.1)).Pairwise (· < ·)
 mem: ∀q,q∈s.out.map (·.1)↔(∃x∈pre,x.1=q)\/(1<=more/\s.told=true/\q=more)
 up:s.told=false->1<=more/\ ∀x∈pre,x.1<more
 below: ∀e∈s.out,∀x,(∀y∈pre,y.1<x)->more<x\/s.told=false\/more<1->e.1<x
theorem Np {more} {pre:List X4} {t} (h:t=(decide (more<1) ||pre.any fun x=>decide (more<=x.1))) (ht:t=false):1<=more/\ ∀x∈pre,x.1<more:=by
 rw[ht]at h
 have h:=h.symm
 rw[Bool.or_eq_false_iff,decide_eq_false_iff_not,Ja]at h
 refine⟨by omega,fun x i=> ?_⟩
 have:=h.2 x i
 simp at this
 exact this
theorem Jb1 lv bu se more:PX lv bu se more [] (P1 lv bu se more []):=by
 have j:(P1 lv bu se more []).told=(decide (more<1) || ([]:List X4).any fun x=>decide (more<=x.1)):=by show decide (more<1)=_;simp
 refine⟨j,fun e i=>(by cases i),List.Pairwise.nil,fun q=> ?_,Np j,fun e i=>(by cases i)⟩
 constructor
 ·intro h;cases h
 rintro(⟨x,hx,-⟩|⟨h1,h2,-⟩)
 ·cases hx
 have h2:decide (more<1)=true:=h2
 rw[decide_eq_true_eq]at h2
 omega
theorem Pt {pre post bu se more}:(P1 (pre++post) bu se more pre).d=L5 post bu:=by
 rw[Rh,Qc2,WB post (L5 pre bu),WB pre bu,WB post bu]
 omega
theorem Qr3 {pre post x bu se more} (hr:ZB (pre++x::post)) (h:PX (pre++x::post) bu se more pre (P1 (pre++x::post) bu se more pre)):
  PX (pre++x::post) bu se more (pre++ [x]) (P1 (pre++x::post) bu se more (pre++ [x])):=by
 obtain⟨Z,N,-⟩:=RX hr
 have hd:(P1 (pre++x::post) bu se more pre).d=L5 (x::post) bu:=Pt
 have hs:(P1 (pre++x::post) bu se more pre).s=KM pre se:=Ay _ _ _ _ _
 rw[Md]
 generalize c5:P1 (pre++x::post) bu se more pre=st at h hd hs
 obtain⟨d,s,u,a0⟩:=st
 dsimp only at hd hs
 obtain⟨v,a2,a3,a4,a5,a6⟩:=h
 dsimp only at v a2 a3 a4 a5 a6
 have a9:FM (pre++x::post) bu se x.1=(x.1,d,s+x.2.2):=by
  unfold FM;rw[At Z (fun y hy=>by
   rcases D4.1 hy with rfl|hy
   ·exact P8 _
   exact NX (N y hy)),<-hd]
  have e:pre++x::post=(pre++ [x])++post:=by simp
  rw[e,Au (fun y hy=>by
   rcases Y7.1 hy with hy|hy
   ·exact NX (Z y hy)
   rw[VK]at hy;subst hy;exact P8 _) N,Qq2,<-hs]
 have b5:u=false->more<x.1->FM (pre++x::post) bu se more=(more,d,s):=fun ht C=>by
  obtain⟨b1,U⟩:=a5 ht;unfold FM;rw[At U (fun y hy=>by
   rcases D4.1 hy with rfl|hy
   ·exact NX C
   ·have:=N y hy;omega),<-hd,Au (fun y hy=>NX (U y hy)) (fun y hy=>by
   rcases D4.1 hy with rfl|hy
   ·exact C
   have:=N y hy;omega),<-hs]
 have a7:(EK more u x)=(decide (more<1) || (pre++ [x]).any fun x=>decide (more<=x.1)):=by
  unfold EK;rw[v,List.any_append];simp[Bool.or_assoc]
 have J: ∀e∈a0,e.1<x.1\/(u=true/\1<=more/\x.1<=more):=fun e i=>by
  by_cases h1:more<x.1\/u=false\/more<1
  ·exact .inl (a6 e i x.1 Z h1)
  refine .inr ⟨?_,by omega,by omega⟩
  cases u with
  |true=>rfl
  |false=>exact absurd (.inr (.inl rfl)) h1
 have J: ∀e∈a0,e.1<x.1:=fun e i=>by
  rcases J e i with h1|⟨h1,h2,j⟩
  ·exact h1
  rw[h1]at v;have v:=v.symm;rw[Bool.or_eq_true,decide_eq_true_eq,TF]at v;rcases v with v|⟨y,hy,b9⟩
  ·omega
  rw[decide_eq_true_eq]at b9;have:=Z y hy;omega
 unfold PZ EZ
 dsimp only
 have a8: ∀D,(∀e∈D,e=FM (pre++x::post) bu se e.1)->(D.map (·.1)).Pairwise (· < ·)->(∀e∈D,e.1<x.1)->
   (∀q,q∈D.map (·.1)↔(∃y∈pre,y.1=q)\/(1<=more/\(u=true\/more<x.1)/\q=more))->
   PX (pre++x::post) bu se more (pre++ [x]) ⟨d-x.2.1,s+x.2.2,EK more u x,D++ [(x.1,d,s+x.2.2)]⟩:=fun D c1 c2 c3 c4=>by
  refine⟨a7,fun e i=> ?_, ?_,fun q=> ?_,Np a7,fun e i z b8 c0=> ?_⟩
  ·rcases Y7.1 i with i|i
   ·exact c1 e i
   rw[VK]at i;subst i;exact a9.symm
  ·dsimp only
   rw[T1,AR];refine⟨c2,PY _ _,fun a ha b E=> ?_⟩;obtain⟨e,i,rfl⟩:=U4.1 ha;simp at E;subst E;exact c3 e i
  ·dsimp only
   rw[T1,Y7,c4];have ht:EK more u x=true↔(u=true\/more<=x.1):=by unfold EK;simp
   rw[ht];constructor
   ·rintro((⟨y,hy,rfl⟩|⟨h1,h2,j⟩)|h)
    ·exact .inl ⟨y,by simp[hy],rfl⟩
    ·refine .inr ⟨h1, ?_,j⟩
     rcases h2 with h2|h2
     ·exact .inl h2
     exact .inr (by omega)
    simp at h;exact .inl ⟨x,by simp,h.symm⟩
   rintro(⟨y,hy,rfl⟩|⟨h1,h2,j⟩)
   ·rcases Y7.1 hy with hy|hy
    ·exact .inl (.inl ⟨y,hy,rfl⟩)
    rw[VK]at hy;subst hy;exact .inr (by simp)
   rcases h2 with h2|h2
   ·exact .inl (.inr ⟨h1,.inl h2,j⟩)
   by_cases e:more=x.1
   ·exact .inr (by simp;omega)
   exact .inl (.inr ⟨h1,.inr (by omega),j⟩)
  have b0:x.1<z:=b8 x (by simp);rcases Y7.1 i with i|i
  ·have:=c3 e i;omega
  rw[VK]at i;subst i;exact b0
 by_cases hc:u=false/\more<x.1
 ·rw[Q5 hc]
  obtain⟨ht,C⟩:=hc;obtain⟨b1,U⟩:=a5 ht;refine a8 _ (fun e i=> ?_) ?_ (fun e i=> ?_) (fun q=> ?_)
  ·rcases Y7.1 i with i|i
   ·exact a2 e i
   rw[VK]at i;subst i;exact(b5 ht C).symm
  ·rw[T1,AR]
   refine⟨a3,PY _ _,fun a ha b E=> ?_⟩;obtain⟨e,i,rfl⟩:=U4.1 ha;simp at E;rw[E];exact a6 e i more U (.inr (.inl ht))
  ·rcases Y7.1 i with i|i
   ·exact J e i
   rw[VK]at i;subst i;exact C
  rw[T1,Y7,a4];constructor
  ·rintro((h|⟨h1,h2,j⟩)|h)
   ·exact .inl h
   ·exact .inr ⟨h1,.inl h2,j⟩
   simp at h;exact .inr ⟨b1,.inr C,h⟩
  rintro(h|⟨h1,h2,j⟩)
  ·exact .inl (.inl h)
  exact .inr (by simp[j])
 rw[Q3 hc]
 refine a8 _ a2 a3 J (fun q=> ?_)
 rw[a4]
 constructor
 ·rintro(h|⟨h1,h2,j⟩)
  ·exact .inl h
  exact .inr ⟨h1,.inl h2,j⟩
 rintro(h|⟨h1,h2,j⟩)
 ·exact .inl h
 refine .inr ⟨h1, ?_,j⟩
 rcases h2 with h2|h2
 ·exact h2
 cases u with
 |true=>rfl
 |false=>exact absurd ⟨rfl,h2⟩ hc
theorem Jb2 {lv bu se more} (v:ZB lv): ∀k,k<=lv.length->PX lv bu se more (lv.take k) (P1 lv bu se more (lv.take k)):=by
 intro k
 induction k with
 |zero=>intro _;exact Jb1 lv bu se more
 |succ k i=>
  intro hk;have h1:=i (by omega);have e:lv=lv.take k++lv[k]::lv.drop (k+1):=by rw[<-UC (by omega),P2]
  have u:lv.take (k+1)=lv.take k++ [lv[k]]:=M8 (by omega);have key: ∀L,L=lv.take k++lv[k]::lv.drop (k+1)->ZB L->PX L bu se more (lv.take k) (P1 L bu se more (lv.take k))->PX L bu se more (lv.take k++ [lv[k]]) (P1 L bu se more (lv.take k++ [lv[k]])):=by
   rintro L rfl h2 j;exact Qr3 h2 j
  rw[u];exact key lv e v h1
theorem Wj {lv bu se more} (hr:ZB lv):
  (∀e∈XM lv bu se more,e=FM lv bu se e.1)/\((XM lv bu se more).map (·.1)).Pairwise (· < ·)/\ ∀q,q∈(XM lv bu se more).map (·.1)↔(∃x∈lv,x.1=q)\/(1<=more/\q=more):=by
 have h:=Jb2 (bu:=bu) (se:=se) (more:=more) hr lv.length (Q4 _)
 rw[List.take_length]at h
 have j:(P1 lv bu se more lv).d=bu:=by
  have h2:=Pt (pre:=lv) (post:= []) (bu:=bu) (se:=se) (more:=more);rw[YP]at h2;rw[h2];rfl
 have E:(P1 lv bu se more lv).s=KM lv se:=Ay _ _ _ _ _
 unfold XM
 dsimp only
 generalize a0:P1 lv bu se more lv=st at h j E
 obtain⟨d,s,td,a7⟩:=st
 dsimp only at j E
 obtain⟨a1,u,v,C,U,J⟩:=h
 dsimp only at a1 u v C U J|-
 cases td with
 |true=>
  rw[Q3 (by simp)];refine⟨u,v,fun q=> ?_⟩;rw[C];constructor
  ·rintro(h|⟨h1,-,h3⟩)
   ·exact .inl h
   exact .inr ⟨h1,h3⟩
  rintro(h|⟨h1,h3⟩)
  ·exact .inl h
  exact .inr ⟨h1,rfl,h3⟩
 |false=>
  rw[Q5 rfl];obtain⟨b1,D⟩:=U rfl;have hp:FM lv bu se more=(more,d,s):=by
   have e:lv=lv++ []:=by simp
   unfold FM;rw[e,At D (fun y hy=>by cases hy),Au (fun y hy=>NX (D y hy)) (fun y hy=>by cases hy),j,E]
   rfl
  refine⟨fun e i=> ?_, ?_,fun q=> ?_⟩
  ·rcases Y7.1 i with i|i
   ·exact u e i
   rw[VK]at i;subst i;exact hp.symm
  ·rw[T1,AR]
   refine⟨v,PY _ _,fun a Z b N=> ?_⟩;obtain⟨e,i,rfl⟩:=U4.1 Z;simp at N;rw[N];exact J e i more D (.inr (.inl rfl))
  rw[T1,Y7,C];constructor
  ·rintro((h|⟨h1,h2,h3⟩)|h)
   ·exact .inl h
   ·cases h2
   simp at h;exact .inr ⟨b1,h⟩
  rintro(h|⟨h1,h3⟩)
  ·exact .inl (.inl h)
  exact .inr (by simp[h3])
section
open Go.Lib
theorem Wk:(prog.info? 29).map (fun i=>(i.zero,i.size,i.bytes))=some (some (.agg #[I O 0,I O 0,I O 0,I O 0,I O 0]),5,40):=by kernel_rfl
theorem Vg {α} r (l:List α):(YC r l).length=l.length:=by
 have key: ∀(l i:List α),(l.foldl (XT r) i).length=i.length+l.length:=by
  intro l
  induction l with
  |nil=>intro i;rfl
  |cons x t j=>
   intro i;rw[QZ,j];have h:=E7 List.length (FN (p:=fun y=>decide (r y<=r x)) (l:=i));rw[Y9]at h;unfold XT;rw[Y9,XX,XX];omega
 have:=key l []
 unfold YC
 simpa using this
def C4 (side:Int) (l:List Q8):List Q8:=l.filter fun o=>o.side ==side
theorem Vk side l o:C4 side (l++ [o])=C4 side l++if(o.side ==side)=true then [o]else []:=by
 unfold C4
 rw[QL]
 cases h:o.side ==side<;>simp[h]
theorem Ev side l:(C4 side l).length<=l.length:=FR _ _
def JR (side:Int) (l:List Q8):List Q8:=YC (KH side) (C4 side l)
theorem UF w B o0 A0 v c0 L side (h0:w.cell? ⟨B,o0,none⟩=some (.slice A0 v c0)) (hE:V4 w X9 5 A0 v L) (hn:v<=100000) (hp: ∀o∈C4 side L,-1000000000<=o.price/\o.price<=1000000000):
  Calls prog 33 #[IP (some ⟨B,o0,none⟩),I O side] w fun e w'=>Below w.heap.size w w'/\ ∃A' c',e= .returned (.slice A' (JR side L).length c')/\J2 w' A' (JR side L).length c' 29 5 (Q9 X9 (JR side L))/\ ∀g,Q7 A'=some g->w.heap.size<=g:=by
 have g8:B<w.heap.size:=V6 w _ h0
 have HE:=Q0 hE
 have HP:=Q0 hp
 have hl:=hE.1
 have HL:=Q0 hl
 have f3: ∀w,(Instr.makeFunc (Fn.func 82) #[] #[IP (some ⟨w.heap.size,0,none⟩)]).run prog w= .ok (.func (.func 82) #[] #[IP (some ⟨w.heap.size,0,none⟩)]) w:=fun _=>rfl
 obtain⟨i0,f6,f7,e7,f2⟩:=N0 Wk
 clear hE hp hl f3
 go_enter func33,ntmps33
 go_wp2_with fail
 go_loopg [14] v (fun gg e3 wx=> ∃k j y u,k<=v/\gg=v-k/\e3=I O k/\Below w.heap.size w wx/\Q1 wx w.heap.size 3 #[I O side]/\Q1 wx (w.heap.size+1) 47 #[.slice u j y]/\J2 wx u j y 29 5 (Q9 X9 (C4 side (L.take k)))/\ ∀g,Q7 u=some g->w.heap.size+1<g)
 case atStart=>
  refine⟨0,0,0,none,V5 _,rfl,rfl,((Q2 _ w).alloc (Q4 _) _).alloc (by simp) _,G7 (J9 w _ _) _, ?_,JX _ _ _ _,by simp[Q7]⟩;have h:=J9 (w.alloc (.cells #[I O side] 3)) 47 #[.slice none 0 0];simpa using h
 obtain⟨k,j,y,u,hk,rfl,rfl,hB,a3,a1,hR,d7⟩:=hrel
 have J:=Q0 hB
 have c3:=Q0 a3
 have d8:=Q0 a1
 have HR:=Q0 hR
 have D:=Q0 d7
 have c1:wr.cell? ⟨w.heap.size,0,none⟩=some (I O side):=by rw[J0 a3];rfl
 have c2:wr.cell? ⟨w.heap.size+1,0,none⟩=some (.slice u j y):=by rw[J0 a1];rfl
 have b5:w.heap.size+1<wr.heap.size:=J5 a1
 have f0:w.heap.size<wr.heap.size:=J5 a3
 have g2:j<=100000:=by
  have h1:=YW H6 (by omega) hR;have h2:=Ev side (L.take k);rw[T6]at h2;omega
 clear hB a3 a1 hR d7
 by_cases g3:k<v
 ·have e9:(k:Int)< (v:Int):=by omega
  have g4:(0:Int)<=(k:Int):=by omega
  have c6:k<L.length:=by have:=HL.out;omega
  obtain⟨b,a2,hA⟩: ∃b a2,A0=some ⟨b,a2,none⟩:=by obtain⟨b,a2,h1,_⟩:=HE.2 (by omega);exact⟨b,a2,h1⟩
  subst hA;obtain⟨x0,x1,x2,x3,x4⟩:=CW (HE.below J (Q4 _)) c6;have d0:=Q0 (M8 c6);obtain⟨o,EO⟩: ∃o,Hid (L[k]=o):=⟨_,Q0 rfl⟩;rw[EO.out]at x0 x1 x2 x3 x4 d0;have a5:=Q0 (Vk side (L.take k) o);rw[<-d0.out]at a5;have b2:Below wr.heap.size wr (wr.alloc (.cells (J8 o) 29)):=(Q2 _ _).alloc (Q4 _) _;have C:=Q0 b2;clear b2
  by_cases N:o.side=side
  ·have d1:=Z0 N
   have a9:=Q0 (show C4 side (L.take (k+1))=C4 side (L.take k)++ [o] by rw[a5.out,Q5 (Z0 N)]);have hO:=HR.below (C.trans (((Q2 _ _).alloc (Q4 _) (.cells (J8 o) 29)).mono C.size));have HO:=Q0 (show World.ownsRow ((wr.alloc (.cells (J8 o) 29)).alloc (.cells (J8 o) 29)) 0 29 5 (.slice u j y) j (Q9 X9 (C4 side (L.take k)))from hO);have a7:=S5 (wr.alloc (.cells (J8 o) 29)) (.cells (J8 o) 29);rw[show(wr.alloc (.cells (J8 o) 29)).heap.size=wr.heap.size+1 by simp]at a7;have d3:=Q0 a7;clear a7;have b8:=(J4 (J4 d8 C) ((Q2 (wr.alloc (.cells (J8 o) 29)).heap.size _).alloc (Q4 _) (.cells (J8 o) 29)));have c8:=Q0 b8;have b1:some (w.heap.size+1)≠(Value.slice u j y).ownBlock:=by rw[A7];intro e;have:=D.out _ e.symm;omega
   have c7:some w.heap.size≠(Value.slice u j y).ownBlock:=by rw[A7];intro e;have:=D.out _ e.symm;omega
   have e8:=Q0 c7;have e5:=Q0 b1;clear N hO b8 b1 c7;unfold J8 at HO d3 c8;go_wp2_with (at_builtin;(refine ZL _ rfl _ _ 47 rfl 0 29 i0 _ 5 40 QM f6 f7 e7 f2 rfl (by omega) (.slice u j y) j _ rfl HO ⟨wr.heap.size+1,0,none⟩ 1 1 (X9 o) rfl rfl (JB (cs:=(X9 o).toArray) (t:=29) (fr:=(0,0)) d3) (JK _) (by omega) (by unfold maxLen;omega) (by omega) (by simp) (wr.heap.size+2) (by simp) ?_);intro gg cap w3 d5 a4 a0 g5;have b3:=Q1.grown c8 a4 e5;have r0:w3.cell? ⟨w.heap.size+1,0,none⟩=some (.slice u j y):=(by rw[J0 b3];rfl);have g6:=J1 b3 0;have f1:=Q0 b3;have e4:=Q0 d5;have e2:=Q0 a4;have f4:=Q0 a0;clear d5 a4 a0 b3)
   go_roundg (v- (k+1))
   case measure=>omega
   have a8:=e2.out;rw[A7]at a8;have b0:=e8.out;rw[A7]at b0;have a0:=f4.out;rw[A7]at a0;have f5:=Q1.grown (J4 (J4 c3 C) ((Q2 (wr.alloc (.cells (J8 o) 29)).heap.size _).alloc (Q4 _) (.cells (J8 o) 29))) a8 b0;have f8:w.heap.size+1<gg:=by
    rcases a0 with h1|h1
    ·exact D _ h1
    show w.heap.size+1<gg;omega
   have f9:Below w.heap.size w w3:=(((J.trans (C.mono J.size)).alloc (by have:=C.size;omega) (.cells (J8 o) 29))).grown a8 (by have:=C.size;simp;omega) (fun x hx=>by have:=D.out x hx;omega);refine⟨k+1,j+1,cap,some ⟨gg,0,none⟩,by omega,rfl,by go_num,f9.setCell (by show w.heap.size<=w.heap.size+1;omega) _,XP f5 (by show w.heap.size≠w.heap.size+1;omega) _, ?_, ?_,fun g E=>by cases E;exact f8⟩
   ·exact J7 f1 0 _
   rw[a9.out,UE];exact J2.keeps (xs:=Q9 X9 (C4 side (L.take k))++X9 o) e4 (V2 w3 ⟨w.heap.size+1,0,none⟩ _) (fun g E e=>by cases E;have e:gg=w.heap.size+1:=e;omega)
  have d1:=X3 N;have a9:=Q0 (show C4 side (L.take (k+1))=C4 side (L.take k) by rw[a5.out,Q3 (by rw[X3 N];simp),YP]);clear N;go_wp2_with fail
  go_roundg (v- (k+1))
  case measure=>omega
  exact⟨k+1,j,y,u,by omega,rfl,by go_num,J.trans (C.mono J.size),J4 c3 C,J4 d8 C,by rw[a9.out];exact HR.below C,D⟩
 obtain rfl:v=k:=by omega
 have e9: ¬(v:Int)< (v:Int):=by omega
 have c5:L.take v=L:=N7 (by rw[HL.out];exact Q4 _)
 have Z:=HR.out
 rw[c5]at Z
 have U:Below wr.heap.size wr (wr.alloc (.cells #[.func (.func 82) #[] #[IP (some ⟨w.heap.size,0,none⟩)]] 139)):=(Q2 _ _).alloc (Q4 _) _
 have c4:=Sv (wr.alloc (.cells #[.func (.func 82) #[] #[IP (some ⟨w.heap.size,0,none⟩)]] 139)) w.heap.size (w.heap.size+1) wr.heap.size y j u side (C4 side L) (by omega) (Z.below U) HP ((U.cell (p:=⟨w.heap.size+1,0,none⟩) b5).trans c2) (by rw[J0 (J9 wr _ _)];rfl) ((U.cell (p:=⟨w.heap.size,0,none⟩) f0).trans c1) (fun g E=>⟨by have:=D.out g E;omega,by have:=Z.lt E;omega,by have:=D.out g E;omega⟩)
 have d4:j=(JR side L).length:=by
  have h1:=YW H6 (by omega) Z;have h2:=Vg (KH side) (C4 side L);unfold JR;omega
 have e6:=Q0 c4
 have d2:=Q0 U
 have d6:=Q0 d4
 have g1: ∀w0,(Instr.makeFunc (Fn.func 82) #[] #[IP (some ⟨w.heap.size,0,none⟩)]).run prog w0= .ok (.func (.func 82) #[] #[IP (some ⟨w.heap.size,0,none⟩)]) w0:=fun _=>rfl
 have g0: ∀w0,(Instr.makeFunc (Fn.func 84) #[] #[IP (some ⟨wr.heap.size,0,none⟩),IP (some ⟨w.heap.size+1,0,none⟩)]).run prog w0= .ok (.func (.func 84) #[] #[IP (some ⟨wr.heap.size,0,none⟩),IP (some ⟨w.heap.size+1,0,none⟩)]) w0:=fun _=>rfl
 clear c4 U d4 Z c5
 go_wp2_with fail
 refine e6.mono ?_
 rintro e w3 ⟨rfl,b9,a6⟩
 have g7:w3.cell? ⟨w.heap.size+1,0,none⟩=some (.slice u j y):=(a6.cell (p:=⟨w.heap.size+1,0,none⟩) (by simp;omega) (fun e=>by have:=D.out _ e;have:w.heap.size+1<w.heap.size+1:=this;omega)).trans ((d2.cell (p:=⟨w.heap.size+1,0,none⟩) b5).trans c2)
 have d9:=Q0 b9
 have e1:=Q0 a6
 clear b9 a6
 go_wp2_with fail
 refine P4 (CP rfl _ _ _) rfl ?_
 refine⟨?_,u,y, ?_, ?_,fun g E=>by have:=D.out g E;omega⟩
 ·exact(J.trans (d2.mono J.size)).trans (e1.below (fun i e=>by have:=D.out i e;omega) (by have:=J.size;simp;omega))
 ·rw[<-d6.out];rfl
 rw[<-d6.out];exact d9
end
def Qo (f:X4->Option Int) (x:X4) (v:Option Int):X4->Option Int:=fun y=>if y=x then v else f y
def UA (o:Q8):X4:=(o.side,o.kind,o.price)
def XC (x:X4) (l:List Q8):Int:=(l.map fun o=>if UA o=x then o.qty else 0).sum
theorem Di {x l} (h:FV l):0<=XC x l:=by
 induction l with
 |nil=>exact P8 0
 |cons o t i=>
  have h1:=i (fun y hy=>h y (by simp[hy]));have h2:=NM (h o (by simp));unfold XC at*;rw[S6,VP]
  split<;>omega
theorem Jb3 {l} (h:FV l) {o} (i:o∈l):1<=XC (UA o) l:=by
 induction l with
 |nil=>cases i
 |cons y t u=>
  have j:FV t:=fun z v=>h z (by simp[v])
  have h1:=NM (h y (by simp));have h2:=Di (x:=UA o) j;rcases D4.1 i with rfl|i
  ·unfold XC at*
   rw[S6,VP,Q5 rfl];omega
  have C:=u j i;unfold XC at*;rw[S6,VP]
  split<;>omega
theorem Gq {x l} (h:XC x l≠0): ∃o∈l,UA o=x:=by
 induction l with
 |nil=>exact absurd rfl h
 |cons y t i=>
  by_cases e:UA y=x
  ·exact⟨y,by simp,e⟩
  obtain⟨o,h1,h2⟩:=i (fun j=>h (by unfold XC at*;rw[S6,VP,Q3 e,j];rfl));exact⟨o,by simp[h1],h2⟩
theorem Jh9 (g:X4->Int) x q: ∀K:List X4,K.Nodup->(K.map fun y=>g y* (if x=y then q else 0)).sum=if x∈K then g x*q else 0:=by
 intro K
 induction K with
 |nil=>intro _;simp
 |cons y t j=>
  intro h;obtain⟨h1,h2⟩:=KT.1 h;rw[S6,VP,j h2]
  by_cases e:x=y
  ·subst e
   rw[Q5 rfl,Q3 h1,Q5 (by simp)];omega
  rw[Q3 e]
  by_cases i:x∈t
  ·rw[Q5 i,Q5 (by simp[i])]
   omega
  rw[Q3 i,Q3 (by simp[e,i])];omega
theorem Ji0 (F G:X4->Int) (K:List X4):(K.map fun y=>F y+G y).sum=(K.map F).sum+ (K.map G).sum:=by
 induction K with
 |nil=>rfl
 |cons y t i=>rw[S6,S6,S6,VP,VP,VP,i];omega
theorem Mf (g:X4->Int) (K:List X4) (j:K.Nodup): ∀l,(∀o∈l,UA o∈K)->(l.map fun o=>g (UA o)*o.qty).sum=(K.map fun x=>g x*XC x l).sum:=by
 intro l
 induction l with
 |nil=>
  intro _;have e: ∀K:List X4,(K.map fun x=>g x*XC x []).sum=0:=by
   intro K
   induction K with
   |nil=>rfl
   |cons y t i=>
    rw[S6,VP,i];unfold XC;simp
  rw[e];rfl
 |cons o t i=>
  intro h;rw[S6,VP,i (fun y hy=>h y (by simp[hy]))];have e:(fun x=>g x*XC x (o::t))=fun x=>g x* (if UA o=x then o.qty else 0)+g x*XC x t:=by
   funext x
   unfold XC;rw[S6,VP,Int.mul_add]
  rw[e,Ji0,Jh9 g (UA o) o.qty K j,Q5 (h o (by simp))]
theorem Gr F (l:List Q8): ∀s:Int,l.foldl (fun s o=>s+F o) s=s+ (l.map F).sum:=by
 induction l with
 |nil=>intro s;simp
 |cons o t i=>intro s;rw[QZ,i,S6,VP];omega
def gD (p:Int) (x:X4):Int:=if x.1=1/\(x.2.1=2\/p<=x.2.2)then 1 else 0
def gS (p:Int) (x:X4):Int:=if x.1=2/\(x.2.1=2\/x.2.2<=p)then 1 else 0
theorem Ym p l:JU p l=(l.map fun o=>gD p (UA o)*o.qty).sum:=by
 unfold JU
 rw[Gr,Int.zero_add]
 congr 1
 refine YN fun o _=> ?_
 unfold XA gD UA
 dsimp only
 split<;>simp
theorem Yn p l:JY p l=(l.map fun o=>gS p (UA o)*o.qty).sum:=by
 unfold JY
 rw[Gr,Int.zero_add]
 congr 1
 refine YN fun o _=> ?_
 unfold XB gS UA
 dsimp only
 split<;>simp
structure AE (lv:List X4) (bu se:Int) (f:X4->Option Int):Prop where
 b:(f (1,2,0)).getD 0=bu
 s:(f (2,2,0)).getD 0=se
 lb: ∀p,(f (1,0,p)).getD 0=(C2 lv p).1
 ls: ∀p,(f (2,0,p)).getD 0=(C2 lv p).2
 pos: ∀x v,f x=some v->1<=v/\(x=(1,2,0)\/x=(2,2,0)\/ ∃p,1<=p/\p<=1000000/\(x=(1,0,p)\/x=(2,0,p)))
structure SY (f:X4->Option Int) (l:List Q8):Prop where
 ok:FV l
 sum: ∀x,XC x l=(f x).getD 0
theorem NN {lv} (h:ZB lv) {y} (hy:y∈lv):C2 lv y.1=y.2:=by
 obtain⟨k,hk,rfl⟩:=XG.1 hy
 have e:lv=lv.take k++lv[k]::lv.drop (k+1):=by rw[<-UC hk,P2]
 have key: ∀L,L=lv.take k++lv[k]::lv.drop (k+1)->ZB L->C2 L lv[k].1=lv[k].2:=by
  rintro L rfl h2;exact Yg h2
 exact key lv e h
theorem Gs {lv p} (h:C2 lv p≠(0,0)): ∃y∈lv,y.1=p:=by
 rcases Classical.em (∃y∈lv,y.1=p)with h1|h1
 ·exact h1
 exact absurd (Xz fun x i e=>h1 ⟨x,i,e⟩) h
def GM (lv:List X4):List X4:= [((1,2,0):X4),(2,2,0)]++(lv.map (fun y=>((1,0,y.1):X4))++lv.map (fun y=>((2,0,y.1):X4)))
theorem Ew {lv} (h:ZB lv):(GM lv).Nodup:=by
 have u: ∀s,(lv.map (fun y=>((s,0,y.1):X4))).Nodup:=fun s=>by
  rw[List.Nodup,TE];refine h.imp fun {a b} hab e=> ?_
  injection e with _ e
  injection e with _ e
  omega
 unfold GM
 refine YX.2 ⟨by simp,YX.2 ⟨u 1,u 2, ?_⟩, ?_⟩
 ·intro a j b i e
  obtain⟨y,-,rfl⟩:=U4.1 j;obtain⟨z,-,rfl⟩:=U4.1 i;injection e with e _
  omega
 intro a j b i e
 subst e
 rcases Y7.1 i with i|i
 all_goals
  obtain⟨y,-,rfl⟩:=U4.1 i;simp at j
section
variable {lv:List X4} {bu se more:Int} {f:X4->Option Int} {l:List Q8}
theorem Vw (D:AE lv bu se f) (E:SY f l): ∀o∈l,UA o∈GM lv:=by
 intro o J
 have h1:=Jb3 E.ok J
 rw[E.sum]at h1
 cases u:f (UA o)with
 |none=>rw[u]at h1;simp at h1
 |some v=>
  obtain⟨h2,i⟩:=D.pos _ _ u;unfold GM;rcases i with i|i|⟨p,-,-,i|i⟩
  ·rw[i];simp
  ·rw[i];simp
  ·have j:=D.lb p
   rw[<-i,u]at j;obtain⟨y,hy,C⟩:=Gs (lv:=lv) (p:=p) (fun e=>by rw[e]at j;simp at j;omega);rw[i];refine Y7.2 (.inr (Y7.2 (.inl (U4.2 ⟨y,hy,by rw[C]⟩))))
  have j:=D.ls p;rw[<-i,u]at j;obtain⟨y,hy,C⟩:=Gs (lv:=lv) (p:=p) (fun e=>by rw[e]at j;simp at j;omega);rw[i];refine Y7.2 (.inr (Y7.2 (.inr (U4.2 ⟨y,hy,by rw[C]⟩))))
theorem Qr4 q: ∀L:List X4,L5 (L.filter q) 0=(L.map fun y=>if q y=true then y.2.1 else 0).sum:=by
 intro L
 induction L with
 |nil=>rfl
 |cons y t i=>
  rw[S6,VP,<-i]
  by_cases e:q y=true
  ·rw[ML e,Q5 e]
   have h:=WB (t.filter q) (0+y.2.1);have h2:L5 (y::t.filter q) 0=L5 (t.filter q) (0+y.2.1):=rfl;rw[h2,h];omega
  rw[CF e,Q3 e];omega
theorem Qr5 q: ∀L:List X4,KM (L.filter q) 0=(L.map fun y=>if q y=true then y.2.2 else 0).sum:=by
 intro L
 induction L with
 |nil=>rfl
 |cons y t i=>
  rw[S6,VP,<-i]
  by_cases e:q y=true
  ·rw[ML e,Q5 e]
   have h:=Gp (t.filter q) (0+y.2.2);have h2:KM (y::t.filter q) 0=KM (t.filter q) (0+y.2.2):=rfl;rw[h2,h];omega
  rw[CF e,Q3 e];omega
theorem Mg {α:Type} (F:α->Int) (K:List α) (h: ∀x∈K,F x=0):(K.map F).sum=0:=by
 induction K with
 |nil=>rfl
 |cons y t i=>rw[S6,VP,i (fun x j=>h x (by simp[j])),h y (by simp)];rfl
theorem Jb4 (hk:AC lv) (j:AE lv bu se f) (i:SY f l) p:JU p l=Qm lv bu p:=by
 rw[Ym,Mf (gD p) (GM lv) (Ew hk.rank) l (Vw j i)]
 unfold GM Qm
 rw[WB,Qr4,T1,Ji,T1,Ji,BQ,BQ]
 rw[Mg ((fun x=>gD p x*XC x l)∘fun y=>((2,0,y.1):X4)) lv (fun y _=>by simp[gD])]
 have u:([((1,2,0):X4),(2,2,0)].map fun x=>gD p x*XC x l).sum=bu:=by
  have h1:=i.sum (1,2,0);rw[j.b]at h1;simp[gD,h1]
 rw[u,GZ]
 congr 2
 refine YN fun y hy=> ?_
 show gD p (1,0,y.1)*XC (1,0,y.1) l=_
 rw[i.sum,j.lb,NN hk.rank hy]
 by_cases e:p<=y.1
 ·rw[Q5 (EC e)];simp[gD,e]
 rw[Q3 (by simp;omega)];simp[gD,e]
theorem Jb5 (hk:AC lv) (j:AE lv bu se f) (i:SY f l) p:JY p l=Qn lv se p:=by
 rw[Yn,Mf (gS p) (GM lv) (Ew hk.rank) l (Vw j i)]
 unfold GM Qn
 rw[Gp,Qr5,T1,Ji,T1,Ji,BQ,BQ]
 rw[Mg ((fun x=>gS p x*XC x l)∘fun y=>((1,0,y.1):X4)) lv (fun y _=>by simp[gS])]
 have u:([((1,2,0):X4),(2,2,0)].map fun x=>gS p x*XC x l).sum=se:=by
  have h1:=i.sum (2,2,0);rw[j.s]at h1;simp[gS,h1]
 rw[u,Int.zero_add]
 congr 2
 refine YN fun y hy=> ?_
 show gS p (2,0,y.1)*XC (2,0,y.1) l=_
 rw[i.sum,j.ls,NN hk.rank hy]
 by_cases e:y.1<=p
 ·rw[Q5 (EC e)];simp[gS,e]
 rw[Q3 (by simp;omega)];simp[gS,e]
theorem Qi5 (hk:AC lv) (v:AE lv bu se f) (j:SY f l) q:q∈N3 l more↔(∃x∈lv,x.1=q)\/(1<=more/\q=more):=by
 unfold N3
 rw[WU j.ok,Y7]
 constructor
 ·rintro(h|h)
  ·split at h
   ·rename_i h1
    rw[VK]at h;exact .inr ⟨h1,h⟩
   cases h
  obtain⟨o,i,rfl⟩:=U4.1 h;obtain⟨i,C⟩:=P3.1 i;have h1:=Vw v j o i;unfold GM UA at h1;simp at C;simp at h1;rcases h1 with h1|h1|⟨y,h1,h2,N,E⟩|⟨y,h1,h2,N,E⟩
  ·exact absurd h1.2.1 C
  ·exact absurd h1.2.1 C
  all_goals
   obtain⟨a,b,U⟩:=h1;exact .inl ⟨(y,a,b),U,E⟩
 rintro(⟨x,hx,rfl⟩|⟨h1,rfl⟩)
 ·refine .inr ?_
  have h1:=hk.nz x hx;have D: ∀s,(s=1\/s=2)->XC (s,0,x.1) l≠0->x.1∈((l.filter fun o=> !(o.kind ==2)).map (·.price)):=fun s hs h2=>by
   obtain⟨o,i,u⟩:=Gq h2;unfold UA at u;injection u with e1 u
   injection u with Z J
   exact U4.2 ⟨o,P3.2 ⟨i,by rw[Z];rfl⟩,J⟩
  rcases h1.2.2 with h2|h2
  ·exact D 1 (.inl rfl) (by rw[j.sum,v.lb,NN hk.rank hx];exact h2)
  exact D 2 (.inr rfl) (by rw[j.sum,v.ls,NN hk.rank hx];exact h2)
 exact .inl (by rw[Q5 h1];simp)
theorem Qc3 (hk:AC lv) (j:AE lv bu se f) (i:SY f l):S7 l more=XM lv bu se more:=by
 obtain⟨h1,h2,v⟩:=Wj (bu:=bu) (se:=se) (more:=more) hk.rank
 have C:((XM lv bu se more).map (·.1)).Nodup:=h2.imp (fun h=>by omega)
 have tr: ∀a b c:Int,(decide (a<=b))=true->(decide (b<=c))=true->(decide (a<=c))=true:=fun a b c h1 h2=>by simp at*;omega
 have D: ∀a b:Int,(decide (a<=b) ||decide (b<=a))=true:=fun a b=>by simp;omega
 have u:dd ((N3 l more).mergeSort fun x y=>decide (x<=y))=(XM lv bu se more).map (·.1):=by
  rw[Qo0 (N3 l more) ((XM lv bu se more).map (·.1)) C (fun x=>(v x).trans (Qi5 hk j i x).symm)];refine Zk (le:=fun a b=>a<=b) (fun a b _ _ h1 h2=>by omega) ((TX tr D _).imp (fun h=>by simpa using h)) (h2.imp (fun h=>by omega)) (Zo _ _)
 unfold S7
 rw[u,WU i.ok,BQ]
 refine Eq.trans (YN fun e E=> ?_) (List.map_id _)
 show BV l e.1=e
 rw[h1 e E]
 unfold BV FM
 dsimp only
 rw[Jb4 hk j i,Jb5 hk j i]
def AF (o:Q8):X4:=if o.kind=2 then(o.side,2,0)else(o.side,0,o.price)
def LZ (v:Int):Option Int:=if v=0 then none else some v
theorem Yo v:(LZ v).getD 0=v:=by unfold LZ;split<;>simp_all
def MV (s:Int):Option Int->X4
 |none=>(s,2,0)
 |some p=>(s,0,p)
def CB (s:Int) (x:Int×Int):Int:=if s=1 then x.1 else x.2
theorem Gt {s s' k k'} (h:MV s k=MV s' k'):s=s'/\k=k':=by
 cases k<;>cases k'
 all_goals
  injection h with h1 h2
  injection h2 with h2 i
 ·exact⟨h1,rfl⟩
 ·omega
 ·omega
 exact⟨h1,by rw[i]⟩
theorem Vx o:AF o=MV o.side (S0 o):=by
 unfold AF S0
 split<;>rfl
theorem AE.at_ (h:AE lv bu se f) s (i:s=1\/s=2) k:(f (MV s k)).getD 0=CB s (BC lv bu se k):=by
 rcases i with rfl|rfl<;>cases k
 ·exact h.b
 ·exact h.lb _
 ·exact h.s
 exact h.ls _
theorem AE.of (h: ∀s,(s=1\/s=2)-> ∀k,(f (MV s k)).getD 0=CB s (BC lv bu se k)) (hp: ∀x v,f x=some v->1<=v/\(x=(1,2,0)\/x=(2,2,0)\/ ∃p,1<=p/\p<=1000000/\(x=(1,0,p)\/x=(2,0,p)))):AE lv bu se f:=
 ⟨h 1 (.inl rfl) none,h 2 (.inr rfl) none,fun p=>h 1 (.inl rfl) (some p),fun p=>h 2 (.inr rfl) (some p),hp⟩
theorem AE.turn (h:AE lv bu se f) {o} (u:UN o) {q} (J:q=1\/q= -1) (hp:q= -1->o.qty<=AD lv bu se o) {lv' bu' se'} (N:RT lv bu se o q lv' bu' se') (h0:0<=AD lv bu se o):
  AE lv' bu' se' (Qo f (AF o) (LZ (AD lv bu se o+q*o.qty))):=by
 have U:AD lv bu se o=CB o.side (BC lv bu se (S0 o)):=rfl
 refine AE.of (fun s D k=> ?_) (fun x v i=> ?_)
 ·rw[N.2 k]
  unfold Qo
  by_cases e:MV s k=AF o
  ·rw[Q5 e,Yo]
   rw[Vx]at e;obtain⟨y,j⟩:=Gt e;rw[Q5 j,U,y,j];unfold CB dB dS
   by_cases h1:o.side=1
   ·simp only[if_pos h1]
   simp only[if_neg h1]
  rw[Q3 e,h.at_ s D k]
  by_cases j:k=S0 o
  ·rw[Q5 j]
   have E:s≠o.side:=fun y=>e (by rw[Vx,y,j])
   unfold CB dB dS;rcases u.1 with h1|h1<;>rcases D with rfl|rfl
   ·exact absurd h1.symm E
   ·simp[h1]
   ·simp[h1]
   exact absurd h1.symm E
  rw[Q3 j]
 unfold Qo at i
 by_cases e:x=AF o
 ·rw[Q5 e]at i
  unfold LZ at i
  split at i
  ·cases i
  rename_i hz
  cases i;have Z:=u.2.1;refine⟨by rcases J with rfl|rfl<;>omega, ?_⟩;rw[e];unfold AF
  by_cases hk:o.kind=2
  ·rw[Q5 hk]
   rcases u.1 with h1|h1<;>simp[h1]
  rw[Q3 hk];have C:=u.2.2.resolve_left hk;refine .inr (.inr ⟨o.price,C.1,C.2, ?_⟩);rcases u.1 with h1|h1<;>simp[h1]
 rw[Q3 e]at i
 exact h.pos x v i
def Az (h:List X4) (f:X4->Option Int):Prop:= ∀x v,f x=some v->v<=1000000*h.count x
theorem Az.less {h} (D:Az h f) x {v} (j:v<=(f x).getD 0):Az h (Qo f x (LZ v)):=by
 intro y u i
 unfold Qo at i
 by_cases e:y=x
 ·subst e
  rw[Q5 rfl]at i;unfold LZ at i
  split at i
  ·cases i
  cases i
  cases C:f y with
  |none=>rw[C]at j;simp at j;omega
  |some a=>have:=D y a C;rw[C]at j;simp at j;omega
 rw[Q3 e]at i
 exact D y u i
theorem BG.small (h:BG lv bu se):FY lv bu se:=
 ⟨⟨h.b.1,by have:=h.b.2;omega⟩,⟨h.s.1,by have:=h.s.2;omega⟩,fun x i=>⟨by have:=(h.lb x i).2;omega,by have:=(h.ls x i).2;omega⟩,h.n⟩
theorem Mh {l} (v:l.length<=100) (hp: ∀o∈l,o.kind≠2->1<=o.price/\o.price<=1000000) (C:more<=1000000): ∀y∈S7 l more,-1099511627776<=y.1/\y.1<=1099511627776/\0<=y.2.1/\y.2.1<=100000000/\0<=y.2.2/\y.2.2<=100000000:=by
 intro y hy
 obtain⟨q,i,rfl⟩:=U4.1 hy
 have D:1<=q/\q<=1000000:=by
  have i:=(Ar _ _).1 i;unfold N3 at i;rcases Y7.1 i with i|i
  ·split at i
   ·simp at i;omega
   cases i
  obtain⟨o,j,rfl⟩:=U4.1 i;obtain⟨h1,h2⟩:=P3.1 j;simp at h2;exact hp o (P3.1 h1).1 h2
 have h1:=Ec (p:=q) (Xw (l:=l))
 have h2:=Ed (p:=q) (Xw (l:=l))
 have u:(P6 l).length<=l.length:=FR JA l
 have E:((P6 l).length:Int)<=100:=by omega
 unfold BV
 dsimp only
 omega
