/- Parts. -/
import Derived.Test.YtnlngicnfegjgaaGreatDoorZq28
set_option linter.unusedVariables false
set_option maxRecDepth 100000
set_option maxHeartbeats 8000000
open Go.Proofs.Tryz
open Go.Value renaming int→I,pointer→IP
open Go.IntKind renaming i64→O
namespace Go.Proofs.YtnlngicnfegjgaaGreatDoor
open Go.RowKit
def D8 (f:B5):List Value:= [I O f.b,I O f.s,I O f.p,I O f.n]
theorem Cn f:(D8 f).length=4:=rfl
theorem LN:(prog.info? 89).map (fun i=>(i.zero,i.size,i.bytes))=some (some (.agg #[I O 0,I O 0,I O 0,I O 0]),4,32):=by kernel_rfl
def Za:List Q8->Int
 | []=>0
 |o::_=>o.qty
def Zb:List Q8->Int
 | []=>0
 |o::_=>o.id
def BK (t:Int) (L1 L2:List Q8) (F:List B5):Prop:=
 ∀F1 f F2,F=F1++f::F2->f.n=min (t-QH (·.n) F1) (min (Za (V9 L1 (QH (·.n) F1))) (Za (V9 L2 (QH (·.n) F1))))/\f.b=Zb (V9 L1 (QH (·.n) F1))/\f.s=Zb (V9 L2 (QH (·.n) F1))
theorem BK.start t L1 L2:BK t L1 L2 []:=fun i f j h=>by cases i<;>cases h
theorem BK.step {t L1 L2 F} (h:BK t L1 L2 F) {a} (v:QH (·.n) F=a) {z} (E:z.n=min (t-a) (min (Za (V9 L1 a)) (Za (V9 L2 a)))) (U:z.b=Zb (V9 L1 a)) (N:z.s=Zb (V9 L2 a)):BK t L1 L2 (F++ [z]):=by
 intro j f J e
 rcases List.eq_nil_or_concat J with rfl|⟨u,y,rfl⟩
 ·have i:=List.append_inj' e rfl
  obtain⟨rfl,C⟩:=i
  cases C;rw[v];exact⟨E,U,N⟩
 rw[List.concat_eq_append]at e
 have D:j++f:: (u++ [y])=(j++f::u)++ [y]:=by simp
 rw[D]at e
 have i:=List.append_inj' e rfl
 exact h j f u i.1
theorem Qt1 {t p L1 L2 F F'} (h:BK t L1 L2 F) (h':BK t L1 L2 F') (hp: ∀f∈F,f.p=p/\1<=f.n) (C: ∀f∈F',f.p=p/\1<=f.n) (v:QH (·.n) F=t) (y:QH (·.n) F'=t):F=F':=by
 have D: ∀K,(∀f∈K,f.p=p/\1<=f.n)->0<=QH (·.n) K:=by
  intro K
  induction K with
  |nil=>intro _;simp[QH]
  |cons f K u=>
   intro U;have h1:=(U f (by simp)).2;have h2:=u (fun g j=>U g (by simp[j]));simp only[QH];omega
 have E: ∀K K2,QH (·.n) (K++K2)=QH (·.n) K+QH (·.n) K2:=by
  intro K K2
  induction K with
  |nil=>simp[QH]
  |cons f K u=>simp only[List.cons_append,QH,u];omega
 have key: ∀B B' A,F=A++B->F'=A++B'->B=B':=by
  intro B
  induction B with
  |nil=>
   intro B' A e i
   cases B' with
   |nil=>rfl
   |cons f K=>
    exfalso
    rw[e]at v;rw[i,E,<-YP A,v]at y;have h1:=(C f (by rw[i];simp)).2;have h2:=D K (fun g j=>C g (by rw[i];simp[j]));simp only[QH]at y;omega
  |cons f K u=>
   intro B' A e i
   cases B' with
   |nil=>
    exfalso
    rw[i]at y;rw[e,E,<-YP A,y]at v;have h1:=(hp f (by rw[e];simp)).2;have h2:=D K (fun g j=>hp g (by rw[e];simp[j]));simp only[QH]at v;omega
   |cons f' K'=>
    obtain⟨N,a2,J⟩:=h A f K e;obtain⟨b1,Z,b3⟩:=h' A f' K' i;have c:=(hp f (by rw[e];simp)).1;have c':=(C f' (by rw[i];simp)).1;have ef:f=f':=by
     obtain⟨x1,x2,x3,x4⟩:=f;obtain⟨y1,y2,y3,y4⟩:=f';dsimp only at N a2 J b1 Z b3 c c';rw[N,a2,J,b1,Z,b3,c,c']
    subst ef;rw[u K' (A++ [f]) (by rw[e];simp) (by rw[i];simp)]
 exact key F F' [] rfl rfl
theorem WH {L} (v:(L.map (·.id)).Nodup) {o} (j:o∈L):Y0 L o.id=some o:=by
 unfold Y0
 cases i:L.find? (fun x=>x.id ==o.id)with
 |none=>
  rw[EY]at i;have:=i o j;simp at this
 |some x=>
  have h1:=FP i;have h2:=TG i;have u:x.id=o.id:=by simpa using h2
  rw[PS (g:=fun x:Q8=>x.id) v h1 j u]
structure FZ (w wr:World) (b:Nat) (G G':Nat->Prop) (M1 M2:List Q8) (A:Option Addr) (c:Nat) (F:List B5):Prop where
 book:QY wr b G' M1 M2
 step:Z3 w wr G G'
 row:J2 wr A F.length c 89 4 (Q9 D8 F)
 fpA: ∀g,Q7 A=some g-> ¬G' g/\w.heap.size<=g
section
variable {w wr w':World} {b:Nat} {G G':Nat->Prop} {M1 M2:List Q8} {A:Option Addr} {c:Nat} {F:List B5}
theorem FZ.below (h:FZ w wr b G G' M1 M2 A c F) (i:Below wr.heap.size wr w'):FZ w w' b G G' M1 M2 A c F:=
 ⟨h.book.below i,h.step.trans (C1 i),h.row.below i,h.fpA⟩
theorem FZ.fill {f gg cap} (h:FZ w wr b G G' M1 M2 A c F) (hk:Q6 (fun i=>Q7 A=some i) wr w') (u:w'.ownsRow 0 89 4 (.slice (some ⟨gg,0,none⟩) (F.length+1) cap) (F.length+1) (Q9 D8 F++D8 f)) (C:Q7 A=some gg\/wr.heap.size<=gg):
  FZ w w' b G G' M1 M2 (some ⟨gg,0,none⟩) cap (F++ [f]):=by
 refine⟨h.book.keeps hk (fun i j e=>(h.fpA i e).1 j),⟨h.step.1.trans hk (fun i j=> .inr (h.fpA i j).2),h.step.2⟩, ?_,fun g v=> ?_⟩
 ·show w'.ownsRow 0 89 4 _ _ _
  rw[UE,Y9];exact u
 have e:gg=g:=by simpa [Q7]using v
 subst e
 rcases C with h1|h1
 ·exact h.fpA _ h1
 refine⟨fun y=> ?_, ?_⟩
 ·have:=h.book.fp y;omega
 exact G0 h.step.1.size h1
theorem FZ.turn {M1' M2'} (h:FZ w wr b G G' M1 M2 A c F) (y:FX wr w' b G' M1' M2'): ∃u,FZ w w' b G u M1' M2' A c F/\Q6 G' wr w':=by
 obtain⟨u,C,j⟩:=y
 refine⟨u,⟨C,h.step.trans j,h.row.keeps j.1 (fun g i=>(h.fpA g i).1),fun g i=>⟨fun v=> ?_,(h.fpA g i).2⟩⟩,j.1⟩
 rcases j.2 g v with h1|h1
 ·exact(h.fpA g i).1 h1
 have:=h.row.lt i;omega
end
abbrev Ag (w wr:World) (b:Nat) (G G':Nat->Prop) (L1 L2:List Q8) (a:Int) (A:Option Addr) (c:Nat) (F:List B5):Prop:=FZ w wr b G G' (V9 L1 a) (V9 L2 a) A c F
theorem GJ {w2 w3 o row} (h:(w2.alloc o).grownBy w3 row):Q6 (fun i=>row=some i) w2 w3:=EB ⟨h.os,h.tape,h.output,h.size,h.block⟩
theorem EL {L1 L2} (h:B8 L1 L2):(L1.map (·.id)).Nodup/\(L2.map (·.id)).Nodup/\ ∀x∈L1,∀y∈L2,x.id≠y.id:=by
 have h1:=h.ids
 rw[T1,YX]at h1
 exact⟨h1.1,h1.2.1,fun x i y hy=>h1.2.2 _ (U4.2 ⟨x,i,rfl⟩) _ (U4.2 ⟨y,hy,rfl⟩)⟩
theorem Hk {L1 x t R2 a n} (h:B8 (V9 L1 a) R2) (v: ∀o∈L1,1<=o.qty) (D:0<=a) (i:V9 L1 a=x::t) (h1:1<=n) (h2:n<=x.qty):
  Y0 (V9 L1 a++R2) x.id=some x/\E9 (V9 L1 a) x n=V9 L1 (a+n)/\E9 R2 x n=R2:=by
 obtain⟨u,E,C⟩:=EL h
 have j:x∈V9 L1 a:=by rw[i];simp
 refine⟨WH h.ids (S9 _ j), ?_,Ua fun y hy=>fun e=>C x j y hy e.symm⟩
 rw[<-Vz v D i h1 h2,i]
 rw[i,S6,KT]at u
 exact Hf fun y hy e=>u.1 (U4.2 ⟨y,hy,e⟩)
theorem Fj {L2 y u R1 a n} (h:B8 R1 (V9 L2 a)) (v: ∀o∈L2,1<=o.qty) (D:0<=a) (hy:V9 L2 a=y::u) (h1:1<=n) (h2:n<=y.qty):
  Y0 (R1++V9 L2 a) y.id=some y/\E9 (V9 L2 a) y n=V9 L2 (a+n)/\E9 R1 y n=R1:=by
 obtain⟨J,j,C⟩:=EL h
 have i:y∈V9 L2 a:=by rw[hy];simp
 refine⟨WH h.ids (QB _ i), ?_,Ua fun x E=>C x E y i⟩
 rw[<-Vz v D hy h1 h2,hy]
 rw[hy,S6,KT]at j
 exact Hf fun y hy e=>j.1 (U4.2 ⟨y,hy,e⟩)
def Qt2 (w w':World) (b:Nat) (G:Nat->Prop) (L1 L2:List Q8) (p t:Int) (e:Ending):Prop:=
 ∃F A c G',e= .returned (.tuple #[.slice A (List.length F) c,.nilIface])/\CT L1 L2 p t F/\BK t L1 L2 F/\Ag w w' b G G' L1 L2 t A c F
theorem Sy (hcut:Nz) w b G L1 L2 (h:QY w b G L1 L2) p t (ht:1<=t) (hw1:t<=C7 1 p L1) (hw2:t<=C7 2 p L2):
  Calls prog 86 #[IP (some ⟨b,0,none⟩),I O p,I O t] w fun e w'=>Qt2 w w' b G L1 L2 p t e:=by
 have hl:=h.lists
 have hq1: ∀o∈L1,1<=o.qty:=fun o ho=>(hl.ok o (S9 _ ho)).2.2.2.1
 have hq2: ∀o∈L2,1<=o.qty:=fun o ho=>(hl.ok o (QB _ ho)).2.2.2.1
 have ha1:t<=LJ L1:=GK hw1 (Xs hq1)
 have ha2:t<=LJ L2:=GK hw2 (Xs hq2)
 have htb:t<=100000000:=by
  have h1:=WQ (s:=1) (p:=p) (L:=L1) (fun o ho=>(hl.ok o (S9 _ ho)).2.2.2);have h2:=hl.cnt;rw[Y9]at h2;omega
 obtain⟨dd1,dd2,-⟩:=EL hl
 have HC1:=Q0 (Bd w b G L1 L2 h 1 p Y4)
 rw[show X6 1 L1 L2=L1 from rfl]at HC1
 have HAt:=Q0 h
 have HCut:=Q0 hcut
 have Hq1:=Q0 hq1
 have Hq2:=Q0 hq2
 have Hd1:=Q0 dd1
 have Hd2:=Q0 dd2
 obtain⟨q1,hq1'⟩:=exq (C7 1 p L1)
 obtain⟨q2,hq2'⟩:=exq (C7 2 p L2)
 rw[hq1']at HC1 hw1
 rw[hq2']at hw2
 have HQ2:=Q0 hq2'
 have d0:decide (t<1)=false:=Z1 (by omega)
 have d1:decide (q1<t)=false:=Z1 (by omega)
 have d2:decide (q2<t)=false:=Z1 (by omega)
 clear h hcut hl hq1 hq2 dd1 dd2 hq1' hq2' hw1 hw2
 go_enter func86,ntmps86
 go_wp2_with fail
 refine HC1.mono ?_
 rintro e w1 ⟨rfl,hb1⟩
 have hat1:=HAt.below hb1
 have hc2:=Bd w1 b G L1 L2 hat1 2 p Y5
 rw[show X6 2 L1 L2=L2 from rfl,HQ2.out]at hc2
 have HC2:=Q0 hc2
 have HB1:=Q0 hb1
 have HAt1:=Q0 hat1
 clear hb1 hat1 hc2 HC1
 go_wp2_with fail
 refine HC2.mono ?_
 rintro e w2 ⟨rfl,hb2⟩
 have hB:=HB1.trans (hb2.mono HB1.size)
 have HST:=Q0 (show Ag w w2 b G G L1 L2 0 none 0 []from⟨by rw[RV _ (P8 _),RV _ (P8 _)];exact HAt1.below hb2,C1 hB,JX _ _ _ _,fun g hg=>by simp[Q7]at hg⟩)
 clear hb2 hB HC2 HB1 HAt1 HAt
 go_wp2_with fail
 go_loopg [2,8] t.toNat (fun g s2 s8 wr=> ∃a F A c G',0<=a/\a<=t/\g=(t-a).toNat/\s2=I O (t-a)/\s8= .slice A F.length c/\Hid (CT L1 L2 p a F)/\Hid (BK t L1 L2 F)/\Hid (Ag w wr b G G' L1 L2 a A c F))
 case atStart=>exact⟨0,[],none,0,G,P8 _,by omega,by simp,by simp,rfl,Q0 (CT.start Hq1 Hq2),Q0 (BK.start t L1 L2),HST⟩
 obtain⟨a,F,A,c,G',ha0,hat,rfl,rfl,rfl,HF,HX,HR⟩:=hrel
 clear HST
 by_cases hlt:a<t
 ·have d3:decide (0<t-a)=true:=Z5 (by omega)
  obtain⟨x,t1,hx⟩: ∃x t1,V9 L1 a=x::t1:=by
   cases hd:V9 L1 a with
   |nil=>exact absurd hd (WG ha0 (by omega))
   |cons x t1=>exact⟨x,t1,rfl⟩
  obtain⟨y,u1,hy⟩: ∃y u1,V9 L2 a=y::u1:=by
   cases hd:V9 L2 a with
   |nil=>exact absurd hd (WG ha0 (by omega))
   |cons y u1=>exact⟨y,u1,rfl⟩
  have hbest:=Ck wr b G' _ _ HR.book 1 Y4;rw[show Kx (X6 1 (V9 L1 a) (V9 L2 a))=x by rw[hx];rfl,show Ky (X6 1 (V9 L1 a) (V9 L2 a))=0 by rw[hx];rfl,BJ]at hbest;unfold X5 at hbest;have HB1:=Q0 hbest;have Hx:=Q0 hx;have Hy:=Q0 hy;clear hbest hx hy;go_wp2_with fail
  refine HB1.mono ?_;rintro e w3 ⟨hb3,rfl⟩;have hAB: ∀g,Q7 A=some g->g<w3.heap.size:=fun g hg=>T8 (HR.row.lt hg) hb3.size
  have HAB:=Q0 hAB;have hR3:=HR.below (hb3.alloc hb3.size (.cells #[I O x.id,I O x.side,I O x.kind,I O x.price,I O x.qty] 29));have hbest:=Ck _ b G' _ _ hR3.book 2 Y5;rw[show Kx (X6 2 (V9 L1 a) (V9 L2 a))=y by rw[Hy.out];rfl,show Ky (X6 2 (V9 L1 a) (V9 L2 a))=0 by rw[Hy.out];rfl,BJ]at hbest;unfold X5 at hbest;have HB2:=Q0 hbest;have HX3:=Q0 (J9 w3 29 #[I O x.id,I O x.side,I O x.kind,I O x.price,I O x.qty]);have HR3:=Q0 hR3;clear hbest hb3 hR3 HB1 HR hAB;go_wp2_with fail
  refine HB2.mono ?_;rintro e w4 ⟨hb4,rfl⟩;have hX4:=G7 (J4 HX3 hb4) (.cells #[I O y.id,I O y.side,I O y.kind,I O y.price,I O y.qty] 29);have hY4:=J9 w4 29 #[I O y.id,I O y.side,I O y.kind,I O y.price,I O y.qty];have hR4:=HR3.below (hb4.alloc hb4.size (.cells #[I O y.id,I O y.side,I O y.kind,I O y.price,I O y.qty] 29));have hne:w3.heap.size<w4.heap.size:=by have:=hb4.size;simp at this;omega
  have hG2: ¬G' w4.heap.size:=fun hG=>by have h1:=HR3.book.fp hG;have h2:=hb4.size;omega
  obtain⟨B1,hB1⟩:=exq w3.heap.size;obtain⟨B2,hB2⟩:=exq w4.heap.size;obtain⟨w5,hw5⟩:=exq (w4.alloc (.cells #[I O y.id,I O y.side,I O y.kind,I O y.price,I O y.qty] 29));rw[hB1]at hX4 hne HAB|-;rw[hw5,hB2]at hY4;rw[hw5]at hX4 hR4;rw[hB2]at hne hG2;have HX5:=Q0 hX4;have HY5:=Q0 hY4;have HR5:=Q0 hR4;have HNe:=Q0 hne;have HG2:=Q0 hG2;have hl1:=J5 hX4;have hl2:=J5 hY4;have x0:w5.cell? ⟨B1,0,none⟩=some (I O x.id):=by rw[J0 hX4];rfl
  have x4:w5.cell? ⟨B1,4,none⟩=some (I O x.qty):=by rw[J0 hX4];rfl
  have y0:w5.cell? ⟨B2,0,none⟩=some (I O y.id):=by rw[J0 hY4];rfl
  have y4:w5.cell? ⟨B2,4,none⟩=some (I O y.qty):=by rw[J0 hY4];rfl
  clear hX4 hY4 hR4 hne hG2 HX3 HR3 HB2 hb4 hB1;obtain⟨n,hn⟩:=exq (min (t-a) (min x.qty y.qty));have hxq:1<=x.qty:=(HR5.book.lists.ok x (S9 _ (by rw[Hx.out];simp))).2.2.2.1;have hyq:1<=y.qty:=(HR5.book.lists.ok y (QB _ (by rw[Hy.out];simp))).2.2.2.1;have hn1:1<=n:=by omega
  have hnx:n<=x.qty:=by omega
  have hny:n<=y.qty:=by omega
  have hnt:n<=t-a:=by omega
  have HN:=Q0 hn;clear hn;go_upto_region 7 with fail
  go_cut [13] (fun s13 wx=>s13=I O n/\wx=w5)
  case first=>
   go_wp2_with fail
   all_goals go_meet
   all_goals refine⟨?_,rfl⟩
   all_goals rw[<-HN.out]
   all_goals congr 1
   all_goals first
    |omega
    |(split at h<;>first|omega|(split<;>omega))
    |(split<;>first|omega|(split at h<;>omega))
  obtain⟨rfl,rfl⟩:=hcut;have hF1:F.length<=100000000:=by have:=HF.len;omega
  obtain⟨i0,hi0,hz0,hz1,hz2⟩:=N0 LN;have HO1:=Q0 (YM (show wc.ownsRow 0 89 4 (.slice A F.length c) F.length (Q9 D8 F)from HR5.row) (.cells #[I O x.id,I O y.id,I O p,I O n] 89));go_upto_region 9 with(at_builtin;refine ZL _ rfl _ _ 42 rfl 0 89 i0 _ 4 32 MR hi0 hz0 hz1 hz2 rfl (by omega) (.slice A F.length c) F.length _ rfl HO1 ⟨wc.heap.size,0,none⟩ 1 1 [I O x.id,I O y.id,I O p,I O n] rfl rfl (JB (cs:= #[I O x.id,I O y.id,I O p,I O n]) (t:=89) (fr:=(0,0)) (S5 wc _)) (by simp[Value.oneCell']) (by omega) (by unfold maxLen;omega) (by omega) (by simp) (wc.heap.size+1) (by simp) ?_;intro gg cap w6 hown hgrow hat6 hlt6)
  have hk6:=GJ hgrow;rw[A7]at hk6 hat6;have hR6:=HR5.fill (f:=⟨x.id,y.id,p,n⟩) hk6 hown (hat6.imp id (fun e=>by omega));have nB1: ¬Q7 A=some B1:=fun e=>by have:=HAB.out _ e;omega
  have nB2: ¬Q7 A=some B2:=fun e=>by have h1:=HAB.out _ e;have h2:=HNe.out;omega
  have z0:w6.cell? ⟨B1,0,none⟩=some (I O x.id):=(hk6.cell (p:=⟨B1,0,none⟩) hl1 nB1).trans x0;have z1:w6.cell? ⟨B2,0,none⟩=some (I O y.id):=(hk6.cell (p:=⟨B2,0,none⟩) hl2 nB2).trans y0;have hl6:B2<w6.heap.size:=T8 hl2 hk6.size;obtain⟨c1,c2,c3⟩:=Hk hR6.book.lists Hq1 ha0 Hx hn1 hnx;have hca:=HCut.out w6 b G' _ _ hR6.book x.id n (by unfold G8;omega);have HCa:=Q0 hca;have HR6:=Q0 hR6;have HC1:=Q0 c1;have HC2:=Q0 c2;have HC3:=Q0 c3;have HFn:=Q0 (HF.step Hq1 Hq2 Hd1 Hd2 ha0 Hx Hy hn1 hnx hny);have HXn:=Q0 (HX.step HF.sum (z:=⟨x.id,y.id,p,n⟩) (by rw[Hx.out,Hy.out];exact HN.symm) (by rw[Hx.out];rfl) (by rw[Hy.out];rfl));clear hk6 hown hgrow hat6 hlt6 hR6 nB1 nB2 c1 c2 c3 hca x0 x4 y0 y4 HO1 HR5 HX5 HY5 HF HX hl1 hl2 hi0 hz0 hz1 hz2 hxq hyq;go_wp2_with fail
  refine HCa.mono ?_;rintro e w7 (⟨h0,-,-⟩|⟨o,h0,-,-,rfl,hto⟩)
  ·exfalso
   apply h0;unfold BH;rw[HC1.out];exact Q3 (by omega)
  rw[HC1.out]at h0;obtain rfl:=KZ h0;rw[HC2.out,HC3.out]at hto;obtain⟨G2,hR7,hk7⟩:=HR6.turn hto;have z2:w7.cell? ⟨B2,0,none⟩=some (I O y.id):=(hk7.cell (p:=⟨B2,0,none⟩) hl6 HG2).trans z1;obtain⟨c1,c2,c3⟩:=Fj hR7.book.lists Hq2 ha0 Hy hn1 hny;have hca:=HCut.out w7 b G2 _ _ hR7.book y.id n (by unfold G8;omega);have HCb:=Q0 hca;have HR7:=Q0 hR7;have HD1:=Q0 c1;have HD2:=Q0 c2;have HD3:=Q0 c3;clear hto hk7 hR7 c1 c2 c3 hca h0 z0 z1 HCa HR6 HC1 HC2 HC3;go_wp2_with fail
  refine HCb.mono ?_;rintro e w8 (⟨h0,-,-⟩|⟨o,h0,-,-,rfl,hto⟩)
  ·exfalso
   apply h0;unfold BH;rw[HD1.out];exact Q3 (by omega)
  rw[HD1.out]at h0;obtain rfl:=KZ h0;rw[HD2.out,HD3.out]at hto;obtain⟨G3,hR8,-⟩:=HR7.turn hto;have HR8:=Q0 hR8;have i1:RowKit.wrap64 (t-a-n)=t- (a+n):=by unfold RowKit.wrap64;omega
  clear hto hR8 h0 z2 HCb HR7 HD1 HD2 HD3;go_wp2_with fail
  go_roundg (t- (a+n)).toNat
  case measure=>omega
  exact⟨a+n,F++ [⟨x.id,y.id,p,n⟩],_,cap,G3,by omega,by omega,rfl,by congr 1<;>omega,by simp,HFn,HXn,HR8⟩
 obtain rfl:a=t:=by omega
 have d3:decide (0<a-a)=false:=Z1 (by omega)
 go_wp2_with fail
 refine P4 (results_tmp2 rfl _ _ _) rfl ?_
 exact⟨F,A,c,G',rfl,HF,HX,HR⟩
set_option linter.unusedSimpArgs false
theorem Qd2 {α enc K} (hk: ∀x,(enc x).length=K) {j} (J:j<K) v (y:α): ∀L i (C:i<L.length),enc y=(enc L[i]).set j v->(Q9 enc L).set (i*K+j) v=Q9 enc (L.set i y):=by
 intro L
 induction L with
 |nil=>intro i C;exact absurd C (by simp)
 |cons x t E=>
  intro i C D;have e: ∀z u,Q9 enc (z::u)=enc z++Q9 enc u:=fun z u=>by simp[Q9]
  cases i with
  |zero=>
   rw[Nat.zero_mul,QQ,Zt,e,e,List.set_append_left _ _ (by rw[hk];exact J)];rw[D];rfl
  |succ i=>
   have h1:(i+1)*K+j=K+ (i*K+j):=by rw[Nat.add_mul,Nat.one_mul];omega
   rw[List.set_cons_succ,e,e,h1,Qv _ _ (by rw[hk];omega),hk,Nat.add_sub_cancel_left,E i (by simpa using C) D]
theorem Dp {cs:Array Value} {o u v}:(cs.setIfInBounds o u).setIfInBounds o v=cs.setIfInBounds o v:=by
 apply Array.ext'
 simp
theorem JV.trans {w w1 w2 B t cs o0 A A1 v L2} (hk:Q6 (fun i=>i=B) w w1) (D: ∀g,Q7 A1=some g->Q7 A=some g\/w.heap.size<=g) (h:JV w1 w2 B t (cs.setIfInBounds o0 v) o0 A1 L2):JV w w2 B t cs o0 A L2:=by
 obtain⟨u,y,h1,h2,j⟩:=h
 rw[Dp]at h1
 refine⟨u,y,h1,hk.trans h2 (fun i e=> .inl e),fun g C=> ?_⟩
 rcases j g C with e|e
 ·exact D g e
 exact .inr (G0 hk.size e)
def FB (L:List Q8) (id q:Int):Int:=match Y0 L id with|none=>7|some o=>if 1<=q/\q<=o.qty then 0 else 2
def BD (L:List Q8) (id q:Int):List Q8:=match Y0 L id with|none=>L|some o=>if 1<=q/\q<=o.qty then(if q=o.qty then S3 L (L.findIdx fun o=>o.id ==id)else L.set (L.findIdx fun o=>o.id ==id) (B6 o q))else L
theorem Qd3 {L:List Q8} {id k} (hk:k<L.length) (h:L.findIdx (fun o=>o.id ==id)=k) o (u:o.id=id):(L.set k o).findIdx (fun o=>o.id ==id)=k:=by
 have h2:=(List.findIdx_eq hk).1 h
 refine(List.findIdx_eq (by simpa using hk)).2 ⟨by simp[u],fun j i=> ?_⟩
 rw[PA (by omega)]
 exact h2.2 j i
theorem Jc9 {L k} o:S3 (L.set k o) k=S3 L k:=by
 unfold S3
 rw[TZ (Q4 _),Zp (by omega)]
theorem Ys w B t cs o0 A L (h:JL w B t cs o0 A L) (C:L.length<=100000) id q (hq: ∀o∈L,-1000000000<=o.qty/\o.qty<=1000000000):
  Calls prog 106 #[IP (some ⟨B,o0,none⟩),I O id,I O q] w fun e w'=>e= .returned (I O (FB L id q))/\JV w w' B t cs o0 A (BD L id q):=by
 have HI:=Q0 (Un w B t cs o0 A L h C id)
 have HR:=Q0 h
 have g5:=h.blt
 have d6:L.length<=100000:=C
 obtain⟨i0,g3,e8,g0,f9⟩:=N0 Xo
 have HQ:=Q0 hq
 clear h C hq
 go_enter func106,ntmps106
 go_wp2_with fail
 refine HI.mono ?_
 rintro e w2 ⟨rfl,a8⟩
 have D:=Q0 a8
 rcases WK L id with⟨hi,v⟩|⟨k,hk,hi,b9,b8,v⟩
 ·have E:=Q0 (show FB L id q=7 by unfold FB;rw[v])
  have N:=Q0 (show BD L id q=L by unfold BD;rw[v]);rw[hi];have d1:(-1:Int)<0:=by omega
  clear hi v a8 HI;go_wp2_with fail
  go_ret;exact⟨T3 (by rw[E.out]),by rw[N.out];exact LM HR D⟩
 rw[hi]
 have g6:(0:Int)<=(k:Int):=by omega
 have d1: ¬(k:Int)<0:=by omega
 have e7:(k:Int)< ((L.length:Nat):Int):=by omega
 have U:=HR.below D
 obtain⟨c,y0,f0,e3⟩:=U.cell
 obtain⟨b,y,hA⟩: ∃b y,A=some ⟨b,y,none⟩:=by obtain⟨b,y,h1,_⟩:=U.els.2 (by omega);exact⟨b,y,h1⟩
 subst hA
 obtain⟨-,-,-,-,x4⟩:=CW U.els hk
 have g1:=HQ.out L[k] (Y1 hk)
 obtain⟨o,EO⟩: ∃o,Hid (L[k]=o):=⟨_,Q0 rfl⟩
 rw[EO.out]at x4 v b8 g1
 obtain⟨n,C⟩:=exq L.length
 have c4:=Q0 U.els
 rw[C]at y0 e7 f0 c4 d6
 have HG:=Q0 v
 have c8:=Q0 b9
 have f7:=Q0 b8
 have J:=Q0 U
 have HN:=Q0 C
 unfold maxLen at e3
 have g9:k<n:=by omega
 clear hi v U b8 C b9 a8 HI
 by_cases j: ¬(1<=q/\q<=o.qty)
 ·have HB:=Q0 (show(decide (1<=q) &&decide (q<=o.qty))=false by simp;omega)
  have E:=Q0 (show FB L id q=2 by unfold FB;rw[HG.out];exact Q3 j);have N:=Q0 (show BD L id q=L by unfold BD;rw[HG.out];exact Q3 j);clear j;go_wp2_with fail
  refine(UH _ _ _ _).mono ?_;rintro e w' ⟨rfl,rfl⟩;rw[HB.out];go_wp2_with fail
  go_ret;exact⟨T3 (by rw[E.out]),by rw[N.out];exact LM HR D⟩
 have j:1<=q/\q<=o.qty:=by omega
 have HB:=Q0 (show(decide (1<=q) &&decide (q<=o.qty))=true by simp;omega)
 have E:=Q0 (show FB L id q=0 by unfold FB;rw[HG.out];exact Q5 j)
 have N:=Q0 (show BD L id q=if q=o.qty then S3 L k else L.set k (B6 o q) by unfold BD;rw[HG.out,c8.out];exact Q5 j)
 have g4:=Q0 j
 clear j
 go_wp2_with fail
 refine(UH _ _ _ _).mono ?_
 rintro e w' ⟨rfl,rfl⟩
 rw[HB.out]
 go_upto_region 6 with fail
 obtain⟨w3,a9⟩:=exq (w2.alloc (.cells #[] 29))
 have a7:Below w2.heap.size w2 w3:=by rw[<-a9];exact(Q2 _ _).alloc (Q4 _) _
 have f2:=Q0 (show J2 w3 (some ⟨w2.heap.size,0,none⟩) 0 0 29 5 [] by rw[<-a9];exact GA _ _ _)
 have y3:=(a7.cell (V6 w2 _ y0)).trans y0
 have a1:=Q0 a7
 clear a7
 go_upto_region 7 with(at_builtin;(refine Bc H6 JK rfl _ _ _ rfl 29 i0 _ 40 QM g3 e8 g0 f9 rfl (by omega) (some ⟨w2.heap.size,0,none⟩) 0 0 [] rfl f2 (some ⟨b,y,none⟩) n c L rfl (c4.below a1 (Q4 _)) (by unfold maxLen;omega) (by omega) ?_);intro A1 u w4 b1 a3 d3;rw[QQ,VZ]at b1;rw[QQ];have c2:=Q0 b1;have e4:=Q0 a3;have f4:=Q0 d3;have e5:=J1 (Q1.grown (J4 J.blk a1) a3 (fun e=>by have:=J.blt;have e2:some B=some w2.heap.size:=e;have:=KZ e2;omega)) o0;have f3:w4.cell? ⟨B,o0,none⟩=some (.slice (some ⟨b,y,none⟩) n c):=((GY a3).cell (p:=⟨B,o0,none⟩) (V6 w3 _ y3) (fun e=>by have:=J.blt;have e2:some w2.heap.size=some B:=e;have:=KZ e2;omega)).trans y3;clear b1 a3 d3)
 have c3:=Q0 (ZQ a1 e4 (KE (Q4 _)) a1.size)
 have f8:=Q0 (ZY f4 (KE (Q4 _)) a1.size)
 obtain⟨g,f5,-⟩:=c2.elem H6 (by omega) hk
 subst f5
 have g8:w2.heap.size<=g:=f8.out g rfl
 have b0:g≠B:=by have:=J.blt;omega
 have a0:J2 (w4.setCell ⟨B,o0,none⟩ (.slice (some ⟨g,0,none⟩) n u)) (some ⟨g,0,none⟩) n u 29 5 (Q9 X9 L):=c2.keeps (V2 w4 ⟨B,o0,none⟩ _) (fun x hx e=>by cases hx;exact b0 e)
 have a2:=J7 (J4 J.blk c3) o0 (.slice (some ⟨g,0,none⟩) n u)
 obtain⟨W5,a6⟩:=exq (w4.setCell ⟨B,o0,none⟩ (.slice (some ⟨g,0,none⟩) n u))
 have c6:Q6 (fun i=>i=B) w2 W5:=by rw[<-a6];exact(U1 c3 _).trans (V2 w4 ⟨B,o0,none⟩ _) (fun i e=> .inl e)
 rw[a6]at a0 a2|-
 obtain⟨ca,c9,-⟩:=J.at_
 have b2:o0<cs.size:=(PU.1 c9).1
 have z0:W5.cell? ⟨B,o0,none⟩=some (.slice (some ⟨g,0,none⟩) n u):=by rw[J0 a2];simp[b2]
 obtain⟨-,-,-,-,q4⟩:=BZ a0 hk
 rw[EO.out]at q4
 have fz:=a0.frozen (k*5+4)
 have b5:=a0.set (k*5+4) (I O (o.qty-q))
 have c5:X9 (B6 o q)=(X9 L[k]).set 4 (I O (o.qty-q)):=by rw[EO.out];rfl
 rw[Qd2 H6 (by omega) _ (B6 o q) L k hk c5]at b5
 have e1:=XP a2 (p:=⟨g,k*5+4,none⟩) (fun e=>b0 e.symm) (I O (o.qty-q))
 have d4:Q6 (fun i=>i=B\/i=g) w2 (W5.setCell ⟨g,k*5+4,none⟩ (I O (o.qty-q))):=(c6.mono (fun i e=> .inl e)).trans (V2 W5 ⟨g,k*5+4,none⟩ _) (fun i e=> .inl (.inr e))
 have h0:(k:Int)< (n:Int):=by omega
 have e9:RowKit.wrap64 (o.qty-q)=o.qty-q:=by have:=g4.out;unfold RowKit.wrap64;omega
 have d0:=Q0 b5
 have e6:=Q0 e1
 have g2:=Q0 d4
 clear b5 e1 d4 a0 a2 c6 c5 c9 x4 y0 y3 a9 a6 e5 f3
 go_upto_region 8 with fail
 obtain⟨W6,Z⟩:=exq (W5.setCell ⟨g,k*5+4,none⟩ (I O (o.qty-q)))
 have a5:JL W6 B t (cs.setIfInBounds o0 (.slice (some ⟨g,0,none⟩) n u)) o0 (some ⟨g,0,none⟩) (L.set k (B6 o q)):=by
  have h1:=d0.out;have h2:=e6.out;rw[Z]at h1 h2;have hl:(L.set k (B6 o q)).length=n:=by rw[QN];exact HN
  refine⟨h2,⟨u,by rw[hl];simp[b2],by rw[hl];exact J2.le_cap h1⟩,by rw[hl];exact VV H6 (by omega) h1,fun e=>by cases e;exact b0 rfl,fun x hx=>h1.lt hx⟩
 have c7:Q6 (fun i=>i=B) w W6:=by
  have h1:=g2.out;rw[Z]at h1;exact(U1 D _).trans h1 (fun i e=>by
   rcases e with e|e
   ·exact .inl e
   exact .inr (by have:=D.size;omega))
 have c0: ∀x,Q7 (some ⟨g,0,none⟩)=some x->Q7 (some ⟨b,y,none⟩)=some x\/w.heap.size<=x:=fun x hx=>by
  cases hx;exact .inr (by have:=D.size;show w.heap.size<=g;omega)
 have z6:W6.cell? ⟨B,o0,none⟩=some (.slice (some ⟨g,0,none⟩) n u):=by rw[J0 a5.blk];simp[b2]
 have q6:W6.cell? ⟨g,k*5+4,none⟩=some (I O (o.qty-q)):=by
  have h1:=d0.out;rw[Z]at h1;obtain⟨-,-,-,-,q4⟩:=BZ (i:=k) h1 (by simpa using hk);rw[MM]at q4;exact q4
 have d5:=Q0 a5
 have d8:=Q0 c7
 have d9:=Q0 c0
 have g7:=Q0 Z
 rw[Z]
 clear z0 q4 fz a5 c7 c0 Z e9
 by_cases hz:o.qty-q=0
 ·have d2:=Z0 hz
  have a4:=Q0 (show BD L id q=CK (L.set k (B6 o q)) id by
   rw[N.out,Q5 (by omega)];unfold CK;rw[Qd3 hk c8 (B6 o q) f7,Jc9])
  have f1:=Q0 (Do W6 B t _ o0 (some ⟨g,0,none⟩) (L.set k (B6 o q)) d5 (by rw[QN,HN.out];exact d6) id);clear hz;go_wp2_with fail
  refine f1.mono ?_;rintro e w9 ⟨rfl,d7⟩;have f6:=Q0 d7;clear d7;go_wp2_with fail
  go_ret;exact⟨T3 (by rw[E.out]),by rw[a4.out];exact JV.trans d8 d9 f6⟩
 have d2:=X3 hz
 have a4:=Q0 (show BD L id q=L.set k (B6 o q) by rw[N.out,Q3 (by omega)])
 clear hz
 go_wp2_with fail
 go_ret
 refine⟨T3 (by rw[E.out]), ?_⟩
 rw[a4.out]
 exact JV.trans d8 d9 (LM d5 (Q2 _ _))
theorem Qk2 {s} (u:Z4 s) {o x} (v:JJ o) (j:JJ x):KA s o x=decide (KH s x<=KH s o):=by
 have h1:=v.2.2.1
 have h2:=j.2.2.1
 have key:KA s o x=true↔KH s x<=KH s o:=by
  unfold KA KH MC
  by_cases hk:x.kind=2
  ·rw[Z0 hk,Q5 hk]
   simp only[Bool.true_or,true_iff]
   split
   ·omega
   split<;>omega
  rw[X3 hk,Q3 hk]
  by_cases i:o.kind=2
  ·rw[Z0 i,Q5 i]
   simp only[Bool.not_true,Bool.false_and,Bool.or_self,Bool.false_eq_true,false_iff]
   split<;>omega
  rw[X3 i,Q3 i];simp only[Bool.not_false,Bool.true_and,Bool.false_or,Bool.or_eq_true,beq_iff_eq];unfold JG;rcases u with rfl|rfl
  ·simp only[if_true,decide_eq_true_eq]
   omega
  simp only[show¬((2:Int)=1) by decide,if_false,decide_eq_true_eq];omega
 cases h:KA s o x with
 |true=>exact(EC (key.1 h)).symm
 |false=>exact(PP (fun e=>by rw[key.2 e]at h;cases h)).symm
theorem Bg {α:Type} {p q:α->Bool}: ∀ {l:List α},(∀x∈l,p x=q x)->l.takeWhile p=l.takeWhile q/\l.dropWhile p=l.dropWhile q
 | [],_=>⟨rfl,rfl⟩
 |x::t,h=>by
  have hx:=h x (by simp);have ih:=Bg (l:=t) (fun y hy=>h y (by simp[hy]));rw[List.takeWhile_cons,List.takeWhile_cons,List.dropWhile_cons,List.dropWhile_cons,hx,ih.1,ih.2];exact⟨rfl,rfl⟩
theorem Qt3 {s} (u:Z4 s) {L o} (j:JJ o) (v: ∀x∈L,JJ x):UW s L o=XT (KH s) L o:=by
 have h:=Bg (l:=L) (p:=KA s o) (q:=fun y=>decide (KH s y<=KH s o)) (fun x i=>Qk2 u j (v x i))
 unfold UW XT
 rw[h.1,h.2]
section
variable {α:Type} {r:α->Int}
theorem Qk3 l x:YC r (l++ [x])=XT r (YC r l) x:=by unfold YC;rw[CL];rfl
theorem Qt4 L x:(XT r L x).Perm (x::L):=by
 unfold XT
 refine List.perm_middle.trans ?_
 rw[FN]
theorem Fk l:(YC r l).Perm l:=by
 have key: ∀(l i:List α),(l.foldl (XT r) i).Perm (i++l):=by
  intro l
  induction l with
  |nil=>intro i;simp
  |cons x t j=>
   intro i;rw[QZ];refine(j _).trans ?_;refine((Qt4 i x).append_right t).trans ?_;exact List.perm_middle.symm
 have:=key l []
 rw[VZ]at this
 exact this
def SA (r:α->Int) (L:List α):Prop:=L.Pairwise fun x y=>r x<=r y
theorem Qt5 {L} (h:SA r L) x:SA r (XT r L x):=by
 have e:L.takeWhile (fun y=>decide (r y<=r x))++L.dropWhile (fun y=>decide (r y<=r x))=L:=FN
 have J: ∀y∈L.takeWhile (fun y=>decide (r y<=r x)),r y<=r x:=fun y hy=>by
  have:=LD.1 (List.all_takeWhile (p:=fun y=>decide (r y<=r x)) (l:=L)) y hy;simpa using this
 have U: ∀y,(L.dropWhile (fun y=>decide (r y<=r x))).head?=some y-> ¬r y<=r x:=fun y hy a0=>by
  have:=List.head?_dropWhile_not (p:=fun y=>decide (r y<=r x)) L;rw[hy]at this;simp at this;omega
 unfold SA at*
 unfold XT
 generalize L.takeWhile (fun y=>decide (r y<=r x))=A at*
 generalize L.dropWhile (fun y=>decide (r y<=r x))=B at*
 subst e
 obtain⟨E,j,N⟩:=AR.1 h
 have Z: ∀y∈B,r x<=r y:=fun y hy=>by
  cases i:B with
  |nil=>rw[i]at hy;cases hy
  |cons z t=>
   have h1:=U z (by rw[i];rfl);rw[i]at hy j;rcases D4.1 hy with rfl|hy
   ·omega
   have:=(LY.1 j).1 y hy;omega
 rw[AR,LY]
 exact⟨E,⟨Z,j⟩,fun u D v C=>by
  rcases D4.1 C with rfl|C
  ·exact J u D
  exact N u D v C⟩
theorem Qd4 {L} (h:SA r L) p x:(XT r L x).filter p=if p x=true then XT r (L.filter p) x else L.filter p:=by
 have e:L.takeWhile (fun y=>decide (r y<=r x))++L.dropWhile (fun y=>decide (r y<=r x))=L:=FN
 have C: ∀y∈L.takeWhile (fun y=>decide (r y<=r x)),r y<=r x:=fun y hy=>by
  have:=LD.1 (List.all_takeWhile (p:=fun y=>decide (r y<=r x)) (l:=L)) y hy;simpa using this
 have D: ∀y,(L.dropWhile (fun y=>decide (r y<=r x))).head?=some y-> ¬r y<=r x:=fun y hy J=>by
  have:=List.head?_dropWhile_not (p:=fun y=>decide (r y<=r x)) L;rw[hy]at this;simp at this;omega
 have v: ∀y∈L.dropWhile (fun y=>decide (r y<=r x)),¬r y<=r x:=fun y hy=>by
  have u:SA r (L.dropWhile (fun y=>decide (r y<=r x))):=Zn (List.dropWhile_sublist _) h
  cases i:L.dropWhile (fun y=>decide (r y<=r x))with
  |nil=>rw[i]at hy;cases hy
  |cons z t=>
   have h1:=D z (by rw[i];rfl);rw[i]at hy u;rcases D4.1 hy with rfl|hy
   ·exact h1
   have:=(LY.1 u).1 y hy;omega
 unfold XT
 generalize L.takeWhile (fun y=>decide (r y<=r x))=A at*
 generalize L.dropWhile (fun y=>decide (r y<=r x))=B at*
 subst e
 rw[QL,QL,List.filter_cons]
 have j:((A.filter p)++(B.filter p)).takeWhile (fun y=>decide (r y<=r x))=A.filter p:=by
  rw[List.takeWhile_append_of_pos (fun y hy=>EC (C y (P3.1 hy).1))];have:(B.filter p).takeWhile (fun y=>decide (r y<=r x))= []:=by
   cases i:B.filter p with
   |nil=>rfl
   |cons z t=>
    have:z∈B:=(P3.1 (by rw[i];simp:z∈B.filter p)).1;rw[List.takeWhile_cons_of_neg (by have:=v z this;simpa using this)]
  rw[this,YP]
 have E:((A.filter p)++(B.filter p)).dropWhile (fun y=>decide (r y<=r x))=B.filter p:=by
  have h1:=FN (p:=fun y=>decide (r y<=r x)) (l:=(A.filter p)++(B.filter p));rw[j]at h1;exact List.append_cancel_left h1
 split
 ·rw[j,E]
 rfl
theorem Wp p l:YC r (l.filter p)=(YC r l).filter p:=by
 have key: ∀(l acc:List α),SA r acc->(l.filter p).foldl (XT r) (acc.filter p)=(l.foldl (XT r) acc).filter p:=by
  intro l
  induction l with
  |nil=>intro acc h;rfl
  |cons x t ih=>
   intro acc h;rw[QZ,<-ih _ (Qt5 h x),Qd4 h]
   by_cases hp:p x=true
   ·rw[ML hp,QZ,Q5 hp]
   rw[CF hp,Q3 hp]
 exact key l [] List.Pairwise.nil
theorem Qt6 f (hf: ∀x,r (f x)=r x) l:YC r (l.map f)=(YC r l).map f:=by
 have ins: ∀(L:List α) (x:α),XT r (L.map f) (f x)=(XT r L x).map f:=by
  intro L x;unfold XT;rw[T1,S6,List.takeWhile_map,List.dropWhile_map];have e:((fun y=>decide (r y<=r (f x)))∘f)=fun y=>decide (r y<=r x):=by funext y;simp[hf]
  rw[e]
 have key: ∀(l acc:List α),(l.map f).foldl (XT r) (acc.map f)=(l.foldl (XT r) acc).map f:=by
  intro l
  induction l with
  |nil=>intro acc;rfl
  |cons x t ih=>intro acc;rw[S6,QZ,QZ,ins,ih]
 exact key l []
end
structure E5 (L L1 L2:List Q8):Prop where
 s1:L1=JR 1 L
 s2:L2=JR 2 L
 ids:(L.map (·.id)).Nodup
 ok: ∀o∈L,JJ o/\Z4 o.side
theorem WV {s L o}:o∈JR s L↔o∈L/\o.side=s:=by
 unfold JR C4
 rw[(Fk _).mem_iff,P3]
 simp
theorem Mv:E5 [] [] []:=⟨rfl,rfl,MW,fun o h=>by cases h⟩
theorem E5.side {L L1 L2} (h:E5 L L1 L2) {s} (i:Z4 s):X6 s L1 L2=JR s L:=by
 rcases i with rfl|rfl
 ·exact(Q5 rfl).trans h.s1
 exact(Q3 (by decide)).trans h.s2
theorem E5.mem {L L1 L2} (h:E5 L L1 L2) {o}:o∈L1++L2↔o∈L:=by
 rw[Y7,h.s1,h.s2,WV,WV]
 constructor
 ·rintro(⟨h1,-⟩|⟨h1,-⟩)<;>exact h1
 intro h1
 rcases(h.ok o h1).2 with h2|h2
 ·exact .inl ⟨h1,h2⟩
 exact .inr ⟨h1,h2⟩
theorem Wq {α:Type} p q: ∀l:List α,(∀x∈l,q x= !p x)->(l.filter p).length+ (l.filter q).length=l.length:=by
 intro l
 induction l with
 |nil=>intro _;rfl
 |cons x t i=>
  intro h;have h1:=i (fun y hy=>h y (by simp[hy]));have h2:=h x (by simp)
  cases hp:p x with
  |true=>rw[ML hp,CF (by rw[h2,hp];simp),XX,XX];omega
  |false=>rw[CF (by rw[hp];simp),ML (by rw[h2,hp];rfl),XX,XX];omega
theorem E5.len {L L1 L2} (h:E5 L L1 L2):L1.length+L2.length=L.length:=by
 rw[h.s1,h.s2]
 unfold JR
 rw[Vg,Vg]
 exact Wq _ _ L (fun x i=>by
  rcases(h.ok x i).2 with h2|h2
  ·rw[h2];rfl
  rw[h2];rfl)
theorem Jd0 {L} (u:(L.map (·.id)).Nodup) {o} (j:o∈L):Y0 L o.id=some o:=by
 unfold Y0
 cases i:L.find? (fun x=>x.id ==o.id)with
 |none=>have:=EY.1 i o j;simp at this
 |some x=>
  have h1:=TG i;have h2:=FP i;simp at h1;rw[PS u h2 j h1]
theorem Ah {L id}:Y0 L id=none↔ ∀o∈L,o.id≠id:=by
 unfold Y0
 rw[EY]
 simp
theorem E5.get {L L1 L2} (h:E5 L L1 L2) (u:B8 L1 L2) id:Y0 (L1++L2) id=Y0 L id:=by
 cases i:Y0 L id with
 |none=>
  rw[Ah]at i|-;exact fun o j=>i o (h.mem.1 j)
 |some o=>
  have h1:o∈L/\o.id=id:=by
   unfold Y0 at i;have h2:=TG i;simp at h2;exact⟨FP i,h2⟩
  rw[<-h1.2];exact Jd0 u.ids (h.mem.2 h1.1)
theorem E5.addE {L L1 L2} (h:E5 L L1 L2) (i:B8 L1 L2) o:addE L1 L2 o=JT L o:=by
 have h1:=h.len
 have h2:=i.cnt
 rw[Y9]at h2
 unfold Go.Proofs.YtnlngicnfegjgaaGreatDoor.addE JT
 rw[h.get i,h1]
 by_cases j:100<=L.length
 ·rw[Q5 (show L.length=100 by omega),Q5 j]
 rw[Q3 (show¬L.length=100 by omega),Q3 j]
theorem E5.add {L L1 L2} (h:E5 L L1 L2) {o} (v:R9 o) (j:JT L o=0):E5 (YE L o) (KQ 1 L1 o) (KQ 2 L2 o):=by
 have J:YE L o=L++ [V3 o]:=by unfold YE;rw[Q5 j]
 have C:XW o=true/\JH o=true/\Y0 L o.id=none:=by
  unfold JT at j
  cases h1:XW o with
  |false=>rw[h1]at j;simp at j
  |true=>
   cases h2:JH o with
   |false=>rw[h1,h2]at j;simp at j
   |true=>
    cases N:Y0 L o.id with
    |none=>exact⟨rfl,rfl,rfl⟩
    |some x=>rw[h1,h2,N]at j;simp at j
 obtain⟨y,u,b3⟩:=C
 have D:JJ (V3 o)/\Z4 (V3 o).side:=by
  unfold XW at y;unfold JH at u;rw[DF]at u;simp at y;refine⟨⟨⟨v.1,v.2.1,v.2.2.1, ?_,v.2.2.2.2⟩,y.2,⟨u.1,u.2.1⟩,⟨u.2.2.1,u.2.2.2⟩⟩,y.1⟩;unfold G8;omega
 have E: ∀s,Z4 s->JR s (L++ [V3 o])=KQ s (JR s L) o:=fun s Z=>by
  unfold KQ;show YC (KH s) (C4 s (L++ [V3 o]))=_;rw[Vk]
  by_cases e:o.side=s
  ·rw[Q5 (Z0 (show(V3 o).side=s from e)),Q5 e,Qk3,Qt3 Z D.1 (fun x i=>(h.ok x (WV.1 i).1).1)]
   rfl
  rw[Q3 (by rw[X3 (show(V3 o).side≠s from e)];simp),Q3 e,YP]
  rfl
 rw[J]
 refine⟨by rw[E 1 (.inl rfl),h.s1],by rw[E 2 (.inr rfl),h.s2], ?_,fun x i=> ?_⟩
 ·rw[T1,YX]
  refine⟨h.ids,by simp,fun a U b C=> ?_⟩;obtain⟨x,i,rfl⟩:=U4.1 U;simp at C;subst C;exact Ah.1 b3 x i
 rcases Y7.1 i with i|i
 ·exact h.ok x i
 rw[VK]at i
 subst i
 exact D
theorem Qd5 {L} (hn:(L.map (·.id)).Nodup) {k} (hk:k<L.length):S3 L k=L.filter fun x=> !(x.id ==L[k].id):=by
 unfold S3
 have e:L=L.take k++L[k]::L.drop (k+1):=by rw[<-UC hk,P2]
 have key: ∀(A B:List Q8) (x:Q8),((A++x::B).map (·.id)).Nodup->(A++x::B).filter (fun y=> !(y.id ==x.id))=A++B:=by
  intro A B x h;rw[T1,S6,YX,KT]at h;rw[QL,CF (by simp)];have h1:A.filter (fun y=> !(y.id ==x.id))=A:=KR.2 (fun y hy=>by
   have:=h.2.2 _ (U4.2 ⟨y,hy,rfl⟩) _ (PE);simpa using this)
  have h2:B.filter (fun y=> !(y.id ==x.id))=B:=KR.2 (fun y hy=>by
   have h3:=h.2.1.1;have:y.id≠x.id:=fun e=>h3 (by rw[<-e];exact U4.2 ⟨y,hy,rfl⟩)
   simpa using this)
  rw[h1,h2]
 generalize L[k]=y at e|-
 generalize L.take k=A at e|-
 generalize L.drop (k+1)=B at e|-
 subst e
 exact(key _ _ _ hn).symm
theorem E5.filter {L L1 L2} (h:E5 L L1 L2) p:E5 (L.filter p) (L1.filter p) (L2.filter p):=by
 have e: ∀s,JR s (L.filter p)=(JR s L).filter p:=fun s=>by
  unfold JR;rw[<-Wp];unfold C4;rw[Zu,Zu]
  congr 2
  funext x
  rw[Bool.and_comm]
 refine⟨by rw[e,h.s1],by rw[e,h.s2], ?_,fun o i=>h.ok o (P3.1 i).1⟩
 exact TA ((Zr).map _) h.ids
theorem E5.cancel {L L1 L2} (h:E5 L L1 L2) {id o} (i:Y0 L id=some o):E5 (CK L id) (D1 L1 id) (D1 L2 id):=by
 rcases WK L id with⟨-,h2⟩|⟨k,hk,-,j,u,v⟩
 ·rw[h2]at i;cases i
 have e:CK L id=L.filter fun x=> !(x.id ==id):=by
  unfold CK;rw[j,Qd5 h.ids hk,u]
 rw[e]
 exact h.filter _
theorem E5.map {L L1 L2} (h:E5 L L1 L2) {id n} (u: ∀o∈L,o.id=id->1<=o.qty-n/\o.qty-n<=1000000):E5 (ZW L id n) (ZW L1 id n) (ZW L2 id n):=by
 have v: ∀s x,KH s (if x.id=id then B6 x n else x)=KH s x:=fun s x=>by split<;>rfl
 have e: ∀s,JR s (ZW L id n)=ZW (JR s L) id n:=fun s=>by
  unfold JR ZW;rw[<-Qt6 (r:=KH s) (fun o=>if o.id=id then B6 o n else o) (v s)]
  congr 1
  unfold C4;rw[Jh]
  congr 2
  funext x
  simp only[Function.comp]
  split<;>rfl
 refine⟨by rw[e,h.s1],by rw[e,h.s2], ?_,fun o j=> ?_⟩
 ·have:(ZW L id n).map (·.id)=L.map (·.id):=by
   unfold ZW;rw[BQ];refine YN fun x _=> ?_
   simp only[Function.comp]
   split<;>rfl
  rw[this];exact h.ids
 unfold ZW at j
 obtain⟨x,i,rfl⟩:=U4.1 j
 have h1:=h.ok x i
 by_cases e:x.id=id
 ·rw[Q5 e]
  have h2:=u x i e;refine⟨⟨⟨h1.1.1.1,h1.1.1.2.1,h1.1.1.2.2.1,h1.1.1.2.2.2.1, ?_⟩,h1.1.2.1,h1.1.2.2.1,h2⟩,h1.2⟩;unfold G8 B6;dsimp only;omega
 rw[Q3 e];exact h1
theorem Jd1 {L} (y:(L.map (·.id)).Nodup) {k} (hk:k<L.length) n:L.set k (B6 L[k] n)=ZW L L[k].id n:=by
 unfold ZW
 apply List.ext_getElem (by simp)
 intro i h1 h2
 rw[List.getElem_map]
 by_cases e:i=k
 ·subst e
  rw[MM,Q5 rfl]
 rw[PA (fun h=>e h.symm)]
 have u:i<L.length:=by simpa using h1
 have:L[i].id≠L[k].id:=fun h=>by
  have j:=DZ.1 y;rcases Nat.lt_or_gt_of_ne e with v|gt
  ·exact j i k (by simpa using u) (by simpa using hk) v (by simpa using h)
  exact j k i (by simpa using hk) (by simpa using u) gt (by simpa using h.symm)
 rw[Q3 this]
structure QF (σ:Type)where
 fills:List B5
 left:Q8
 stop:Bool
 st:σ
 rest:List Q8
def SB (o x:Q8) (n:Int):B5:=if o.side=2 then⟨x.id,o.id,x.price,n⟩else⟨o.id,x.id,x.price,n⟩
def W2 (o x:Q8):Bool:= !(o.kind ==2) && ((o.side ==1 &&decide (o.price<x.price)) || (o.side ==2 &&decide (x.price<o.price)))
def ZF (x:Q8) (n:Int):List Q8:=if n=x.qty then []else [B6 x n]
section
variable {σ:Type} (al:σ->Int->Bool) (tr:σ->Int->σ)
def V7:List Q8->Q8->σ->QF σ
 | [],o,s=>⟨[],o,false,s,[]⟩
 |x::t,o,s=>
  if o.qty<1 then⟨[],o,false,s,x::t⟩
  else if x.kind=2 then⟨(V7 t o s).fills,(V7 t o s).left,(V7 t o s).stop,(V7 t o s).st,x:: (V7 t o s).rest⟩
  else if W2 o x=true then⟨[],o,false,s,x::t⟩
  else if al s x.price=false then⟨[],o,true,s,x::t⟩
  else⟨SB o x (min o.qty x.qty):: (V7 t (B6 o (min o.qty x.qty)) (tr s x.price)).fills,(V7 t (B6 o (min o.qty x.qty)) (tr s x.price)).left,(V7 t (B6 o (min o.qty x.qty)) (tr s x.price)).stop,(V7 t (B6 o (min o.qty x.qty)) (tr s x.price)).st,ZF x (min o.qty x.qty)++(V7 t (B6 o (min o.qty x.qty)) (tr s x.price)).rest⟩
def QF.join (F:List B5) (R:List Q8) (r:QF σ):QF σ:=⟨F++r.fills,r.left,r.stop,r.st,R++r.rest⟩
variable {al tr} {F:List B5} {R t:List Q8} {x o:Q8} {s:σ}
theorem Kf:QF.join F R (V7 al tr [] o s)=⟨F,o,false,s,R⟩:=by
 unfold V7 QF.join
 simp
theorem Xu (h:o.qty<1):QF.join F R (V7 al tr t o s)=⟨F,o,false,s,R++t⟩:=by
 cases t with
 |nil=>unfold V7 QF.join;simp
 |cons x t=>unfold V7 QF.join;rw[Q5 h];simp
theorem Qd6 (h: ¬o.qty<1) (hk:x.kind=2):QF.join F R (V7 al tr (x::t) o s)=QF.join F (R++ [x]) (V7 al tr t o s):=by
 rw[V7,Q3 h,Q5 hk]
 unfold QF.join
 simp
theorem Jw (h: ¬o.qty<1) (hk: ¬x.kind=2) (i:W2 o x=true):QF.join F R (V7 al tr (x::t) o s)=⟨F,o,false,s,R++x::t⟩:=by
 rw[V7,Q3 h,Q3 hk,Q5 i]
 unfold QF.join
 simp
theorem RB (h: ¬o.qty<1) (hk: ¬x.kind=2) (i:W2 o x=false) (j:al s x.price=false):QF.join F R (V7 al tr (x::t) o s)=⟨F,o,true,s,R++x::t⟩:=by
 rw[V7,Q3 h,Q3 hk,Q3 (by rw[i];simp),Q5 j]
 unfold QF.join
 simp
theorem RU (h: ¬o.qty<1) (hk: ¬x.kind=2) (i:W2 o x=false) (u:al s x.price=true) {n} (j:min o.qty x.qty=n):QF.join F R (V7 al tr (x::t) o s)=QF.join (F++ [SB o x n]) (R++ZF x n) (V7 al tr t (B6 o n) (tr s x.price)):=by
 rw[V7,Q3 h,Q3 hk,Q3 (by rw[i];simp),Q3 (by rw[u];simp),j]
 unfold QF.join
 simp
end
theorem Jd2 {R t x n} (j:((R++x::t).map (·.id)).Nodup):E9 (R++x::t) x n=(R++ZF x n)++t:=by
 rw[T1,S6,YX,KT]at j
 have h1: ∀y∈R,y.id≠x.id:=fun y hy e=>j.2.2 _ (U4.2 ⟨y,hy,rfl⟩) _ (PE) e
 have h2: ∀y∈t,y.id≠x.id:=fun y hy e=>j.2.1.1 (U4.2 ⟨y,hy,e⟩)
 unfold E9 ZF
 by_cases i:n=x.qty
 ·rw[Q5 i,Q5 i]
  unfold D1;rw[QL,CF (by simp),KR.2 (fun y hy=>by simpa using h1 y hy),KR.2 (fun y hy=>by simpa using h2 y hy)];simp
 rw[Q3 i,Q3 i]
 unfold ZW
 rw[T1,S6,Q5 rfl]
 have v:R.map (fun o=>if o.id=x.id then B6 o n else o)=R:=by
  conv=>rhs;rw[<-List.map_id R]
  exact YN fun y hy=>Q3 (h1 y hy)
 have u:t.map (fun o=>if o.id=x.id then B6 o n else o)=t:=by
  conv=>rhs;rw[<-List.map_id t]
  exact YN fun y hy=>Q3 (h2 y hy)
 rw[v,u]
 simp
theorem Ho s M1 M2 x n:X6 s (E9 M1 x n) (E9 M2 x n)=E9 (X6 s M1 M2) x n:=by
 unfold X6
 split<;>rfl
theorem Jd3 {L1 L2} (h:B8 L1 L2) s:((X6 s L1 L2).map (·.id)).Nodup:=by
 have h1:=EL h
 unfold X6
 split
 ·exact h1.1
 exact h1.2.1
theorem RH {M1 M2 R t s x n} (h:B8 M1 M2) (E:Z4 s) (v:X6 (3-s) M1 M2=R++x::t):Y0 (M1++M2) x.id=some x/\X6 s (E9 M1 x n) (E9 M2 x n)=X6 s M1 M2/\X6 (3-s) (E9 M1 x n) (E9 M2 x n)=(R++ZF x n)++t:=by
 have D:=Jd3 h (3-s)
 rw[v]at D
 obtain⟨J,N,C⟩:=EL h
 have i:x∈X6 (3-s) M1 M2:=by rw[v];simp
 refine⟨?_, ?_,by rw[Ho,v,Jd2 D]⟩
 ·refine WH h.ids ?_
  unfold X6 at i
  split at i
  ·exact S9 _ i
  exact QB _ i
 rw[Ho]
 refine Ua fun y hy=> ?_
 rcases E with rfl|rfl
 ·have u:X6 1 M1 M2=M1:=rfl
  have j:X6 (3-1) M1 M2=M2:=rfl;rw[u]at hy;rw[j]at i;exact C y hy x i
 have u:X6 2 M1 M2=M2:=rfl
 have j:X6 (3-2) M1 M2=M1:=rfl
 rw[u]at hy
 rw[j]at i
 exact fun e=>C x i y hy e.symm
