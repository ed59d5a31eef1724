/- Parts. -/
import Derived.Test.YtnlngicnfegjgaaGreatDoorZq37
import Derived.Test.YtnlngicnfegjgaaGreatDoorZq40
set_option linter.unusedVariables false
set_option maxRecDepth 100000
set_option maxHeartbeats 8000000
open Go.Proofs.Tryz
open Go.Value renaming int→I,pointer→IP
open Go.IntKind renaming i64→O
namespace Go.Proofs.YtnlngicnfegjgaaGreatDoor
open Go.RowKit
theorem Se {P:Program} {j:Func} {p u:Tmp} {i:TypeId} (h:j.results= #[.tmp u,.cell p i]) (tmps:Array Value) (w:World) (g:Nat) (t:TypeId) (cs:Array Value) (v1:Value) (fr:Nat×Nat) (d:TypeDesc)
  (J:tmps.getD u undef=v1) (hp:tmps.getD p undef= IP (some ⟨g,0,none⟩)) (y:w.heap[g]?=some (.cells cs t fr))
  (C:P.underlying i=some d) (N:(match d with| .struct _| .array _ _=>true|_=>false)=true) (D:(P.info? i).map (·.size)=some cs.size):(results j tmps).run P w= .ok (.tuple #[v1,.agg cs]) w:=by
 have E:tmps[u]?.getD undef=v1:=by simpa using J
 have v:tmps[p]?.getD undef= IP (some ⟨g,0,none⟩):=by simpa using hp
 simp[results,h,E,v,asAddr,run_loadVar_row w g t i cs fr d y C N D,Result.andThen]
theorem Yx {w a Q g v x y} (u:a.tmps.getD 12 undef=v) (hp:a.tmps.getD 13 undef= IP (some ⟨g,0,none⟩)) (i:a.defers= [])
  (j:Q1 w g 60 #[x,y]) (h:Q (.returned (.tuple #[v,.agg #[x,y]])) w):bodyPost prog Tryz.f16 Q .ret a w:=
 P4 (Se Tryz.results16 a.tmps w g _ #[x,y] v (0,0) _ u hp j underlying60 rfl (by kernel_rfl)) i h
theorem Qm7 {ps pl} (h:SV ps 0 pl):KD ps/\pl= -1:=by
 rcases h with⟨-,h,-⟩|⟨-,h,-⟩|⟨-,-,i,-,-,h1,h2,-⟩|⟨h1,h2,j,-,u⟩
 ·cases h
 ·cases h
 ·exact absurd h2.symm h1
 exact⟨⟨h1,h2,j⟩,u⟩
theorem RM {ps} (h:KD ps) {f pl} (k:SV ps f pl):f=0/\pl= -1:=by
 rcases k with⟨h1,-,-⟩|⟨h1,-,-⟩|⟨-,-,i,j,-,h1,-,-⟩|⟨-,-,-,h1,h2⟩
 ·have:=h.1;omega
 ·have:=h.2.1;omega
 ·exact absurd (h.2.2 i j) h1
 exact⟨h1,h2⟩
theorem Qv4 {ps f pl f' pl'} (h:SV ps f pl) (k:SV ps f' pl'):f=f'/\pl=pl':=by
 rcases h with⟨N,U,y⟩|⟨N,U,y⟩|⟨N,U,i,hi,a6,a0,y,Z⟩|⟨N,U,y,Z,a5⟩
 ·rcases k with⟨u,v,b3⟩|⟨u,v,b3⟩|⟨u,v,j,E,D,C,b3,b4⟩|⟨u,v,b3,b4,J⟩
  ·exact⟨by omega,by omega⟩
  ·omega
  ·omega
  omega
 ·rcases k with⟨u,v,b3⟩|⟨u,v,b3⟩|⟨u,v,j,E,D,C,b3,b4⟩|⟨u,v,b3,b4,J⟩
  ·omega
  ·exact⟨by omega,by omega⟩
  ·omega
  omega
 ·rcases k with⟨u,v,b3⟩|⟨u,v,b3⟩|⟨u,v,j,E,D,C,b3,b4⟩|⟨u,v,b3,b4,J⟩
  ·omega
  ·omega
  ·have e:i=j:=by
    rcases Nat.lt_trichotomy i j with h|h|h
    ·exact absurd (D i h) a0
    ·exact h
    exact absurd (a6 j h) C
   subst e;exact⟨by rw[y,b3],by rw[Z,b4]⟩
  exact absurd (b3 i hi) a0
 rcases k with⟨u,v,b3⟩|⟨u,v,b3⟩|⟨u,v,j,E,D,C,b3,b4⟩|⟨u,v,b3,b4,J⟩
 ·omega
 ·omega
 ·exact absurd (y j E) C
 exact⟨by omega,by omega⟩
theorem Lg {ps st dy p tk mo n pl n' pl'} (h:UV ps st dy p tk mo n pl) (k:UV ps st dy p tk mo n' pl'):n=n'/\pl=pl':=by
 rcases h with⟨u,v⟩|⟨u,v,C,D⟩|⟨u,v,C,D,E⟩|⟨u,v,C,D,E⟩
 ·rcases k with⟨j,i⟩|⟨j,i,b3,b4⟩|⟨j,i,b3,b4,y⟩|⟨j,i,b3,b4,y⟩
  ·exact Qv4 u j
  ·exact absurd (RM j u).1 v
  ·exact absurd (RM j u).1 v
  exact absurd (RM j u).1 v
 ·rcases k with⟨j,i⟩|⟨j,i,b3,b4⟩|⟨j,i,b3,b4,y⟩|⟨j,i,b3,b4,y⟩
  ·exact absurd (RM u j).1 i
  ·exact⟨by omega,by omega⟩
  ·rw[v]at i;cases i
  rw[v]at i;cases i
 ·rcases k with⟨j,i⟩|⟨j,i,b3,b4⟩|⟨j,i,b3,b4,y⟩|⟨j,i,b3,b4,y⟩
  ·exact absurd (RM u j).1 i
  ·rw[v]at i;cases i
  ·exact⟨by omega,by omega⟩
  exact absurd C b3
 rcases k with⟨j,i⟩|⟨j,i,b3,b4⟩|⟨j,i,b3,b4,y⟩|⟨j,i,b3,b4,y⟩
 ·exact absurd (RM u j).1 i
 ·rw[v]at i;cases i
 ·exact absurd b3 C
 exact⟨by omega,by omega⟩
def Jf0 (ps:List (Int×Int)) (st dy p tk mo:Int) (T:Option Addr) (w:World) (e:Ending) (w':World):Prop:=
 Below w.heap.size w w'/\((∃n pl,e= .returned (.tuple #[.pointer none,.agg #[I O n,I O pl]])/\n≠0/\UV ps st dy p tk mo n pl)\/
  (UV ps st dy p tk mo 0 (-1)/\ ∃R F,e= .returned (.tuple #[IP (some ⟨R,0,none⟩),.agg #[I O 0,I O (-1)]])/\D7 w' R F (CE ps st dy p tk mo)/\ ∀i,F i->w.heap.size<=i\/Q7 T=some i))
theorem Jf1 {w w' R ps st dy p tk mo T tc} (hp:T4 w T ps.length tc ps) (y:Below w.heap.size w w') (J:w.heap.size<=R) (u: ∀g,Q7 T=some g->g<w.heap.size)
  (v:Q1 w' R 81 #[.slice T ps.length tc,I O st,I O dy,I O p,I O p,I O tk,I O mo,.slice none 0 0,.slice none 0 0,.slice none 0 0,I O 1,I O 0,I O 0,I O 0]):
  D7 w' R (fun i=>i=R\/Q7 T=some i) (CE ps st dy p tk mo):=by
 refine⟨_,T,tc,none,none,0,none,0,fun i k=>(i=R/\k=1)\/(Q7 T=some i/\k=2),[],⟨⟨rfl,rfl,rfl,rfl,rfl,rfl,rfl,rfl,rfl,rfl,rfl,rfl,rfl,rfl⟩,⟨v,⟨0,rfl,Q4 _,V5 _⟩,⟨rfl,fun D=>absurd D (by decide)⟩,by simp[Q7],fun g C=>by simp[Q7]at C⟩,hp.keeps (U1 y (fun _=>False)) (fun _ _=>id),JX _ _ _ _,JX _ _ _ _,Mv,by simp,⟨?_, ?_⟩,.inl ⟨rfl,rfl⟩,fun i j=> .inr ⟨j,rfl⟩,fun i j=>by simp[Q7]at j,fun i j=>by simp[Q7]at j,fun i j=>by simp[Q7]at j⟩,fun i=> ?_⟩
 ·rintro i k E (⟨a1,a2⟩|⟨a1,a2⟩) (⟨b1,b2⟩|⟨b1,b2⟩)
  ·rw[a2,b2]
  ·have:=u i b1;omega
  ·have:=u i a1;omega
  rw[a2,b2]
 ·rintro i k (⟨a1,a2⟩|⟨a1,a2⟩)
  ·rw[a1];exact J5 v
  exact T8 (u i a1) y.size
 constructor
 ·rintro(e|e)
  ·exact⟨1,.inl ⟨e,rfl⟩⟩
  exact⟨2,.inr ⟨e,rfl⟩⟩
 rintro⟨k,⟨e,-⟩|⟨e,-⟩⟩
 ·exact .inl e
 exact .inr e
theorem Jf2 T len tc ps st dy p tk mo w (h:T4 w T len tc ps) (hm:len<=60) (hTl: ∀g,Q7 T=some g->g<w.heap.size):
  Calls prog 16 #[.slice T len tc,I O st,I O dy,I O p,I O tk,I O mo] w (Jf0 ps st dy p tk mo T w):=by
 have hl:=h.1
 have hb1:Below w.heap.size w (w.alloc (.cells #[I O 0,I O 0] 60)):=(Q2 _ w).alloc (Q4 _) _
 have hX:=J9 w 60 #[I O 0,I O 0]
 obtain⟨w1,ew1⟩:=exq (w.alloc (.cells #[I O 0,I O 0] 60))
 obtain⟨X,eX⟩:=exq w.heap.size
 rw[ew1]at hb1 hX
 rw[eX]at hX
 have hXl:w.heap.size<=X:=YZ eX
 have hp1:T4 w1 T len tc ps:=h.keeps (U1 hb1 (fun _=>False)) (fun _ _=>id)
 have HTb:=Q0 (Qg9 T len tc ps w1 hp1 hm)
 have HX:=Q0 hX
 have HB1:=Q0 hb1
 have HPs:=Q0 h
 have HTl:=Q0 hTl
 have HL:=Q0 hl
 clear h hl hb1 hX hp1 hTl
 go_enter func16,ntmps16
 go_upto_region 1 with fail
 try rw[ew1]
 try rw[eX]
 clear ew1 eX
 go_wp2_with fail
 refine HTb.mono ?_
 rintro e w2 ⟨hb2,f,pl,rfl,htab⟩
 have HTab:=Q0 htab
 have hbz:Below w2.heap.size w2 (w2.alloc (.cells #[I O f,I O pl] 60)):=(Q2 _ w2).alloc (Q4 _) _
 have hZ:=J9 w2 60 #[I O f,I O pl]
 obtain⟨w3,ew3⟩:=exq (w2.alloc (.cells #[I O f,I O pl] 60))
 obtain⟨Z,eZ⟩:=exq w2.heap.size
 rw[ew3]at hbz hZ
 rw[eZ]at hZ
 have HX3:=Q0 (J4 HX (hb2.trans (hbz.mono hb2.size)))
 have HB3:=Q0 (HB1.trans ((hb2.trans (hbz.mono hb2.size)).mono HB1.size))
 have HZ:=Q0 hZ
 clear hb2 htab hbz hZ HTb HX HB1
 go_upto_region 2 with fail
 try rw[ew3]
 try rw[eZ]
 clear ew3 eZ
 obtain⟨z0,z1⟩:w3.cell? ⟨Z,0,none⟩=some (I O f)/\w3.cell? ⟨Z,1,none⟩=some (I O pl):=⟨by rw[J0 HZ.out];rfl,by rw[J0 HZ.out];rfl⟩
 obtain⟨x0,x1⟩:w3.cell? ⟨X,0,none⟩=some (I O 0)/\w3.cell? ⟨X,1,none⟩=some (I O 0):=⟨by rw[J0 HX3.out];rfl,by rw[J0 HX3.out];rfl⟩
 have f0:=J1 HX3 0
 have f1:=J1 HX3 1
 by_cases hf:f=0
 ·have d1:=JW hf
  subst hf;obtain⟨hT,hpl⟩:=Qm7 HTab;have HT:=Q0 hT;clear hpl hT;obtain⟨b1,hb1⟩:=exq (H9 p 1);obtain⟨b2,hb2⟩:=exq (decide (0<=st) &&decide (st<=10000));obtain⟨b3,hb3⟩:=exq (decide (0<=dy) &&decide (dy<=10000));obtain⟨b4,hb4⟩:=exq (decide (1<=tk) &&decide (tk<=1000000));obtain⟨b5,hb5⟩:=exq (decide (0<=mo) &&decide (mo<=10));have H1:=Q0 hb1;have H2:=Q0 hb2;have H3:=Q0 hb3;have H4:=Q0 hb4;have H5:=Q0 hb5;clear hb1 hb2 hb3 hb4 hb5;go_upto_region 4 with fail
  clear z0 z1
  go_cut [43] (fun s43 wx=>s43= .bool (!(b1 &&b2 &&b3 &&b4 &&b5))/\wx=w3)
  case first=>
   clear x0 x1 f0 f1
   cases b1 with
   |false=>
    go_wp2_with (first|(go_at_call 54;refine(DG _ _ _).mono ?_;rintro e w' ⟨rfl,rfl⟩;rw[H1.out]))
    go_meet;exact⟨rfl,rfl⟩
   |true=>
    cases b2 with
    |false=>
     go_wp2_with (first|(go_at_call 54;refine(DG _ _ _).mono ?_;rintro e w' ⟨rfl,rfl⟩;rw[H1.out])|(go_at_call 55;refine(UH _ _ _ _).mono ?_;rintro e w' ⟨rfl,rfl⟩;first|rw[H2.out]|rw[H3.out]|rw[H4.out]|rw[H5.out]))
     go_meet;exact⟨rfl,rfl⟩
    |true=>
     cases b3 with
     |false=>
      go_wp2_with (first|(go_at_call 54;refine(DG _ _ _).mono ?_;rintro e w' ⟨rfl,rfl⟩;rw[H1.out])|(go_at_call 55;refine(UH _ _ _ _).mono ?_;rintro e w' ⟨rfl,rfl⟩;first|rw[H2.out]|rw[H3.out]|rw[H4.out]|rw[H5.out]))
      go_meet;exact⟨rfl,rfl⟩
     |true=>
      cases b4 with
      |false=>
       go_wp2_with (first|(go_at_call 54;refine(DG _ _ _).mono ?_;rintro e w' ⟨rfl,rfl⟩;rw[H1.out])|(go_at_call 55;refine(UH _ _ _ _).mono ?_;rintro e w' ⟨rfl,rfl⟩;first|rw[H2.out]|rw[H3.out]|rw[H4.out]|rw[H5.out]))
       go_meet;exact⟨rfl,rfl⟩
      |true=>
       go_wp2_with (first|(go_at_call 54;refine(DG _ _ _).mono ?_;rintro e w' ⟨rfl,rfl⟩;rw[H1.out])|(go_at_call 55;refine(UH _ _ _ _).mono ?_;rintro e w' ⟨rfl,rfl⟩;first|rw[H2.out]|rw[H3.out]|rw[H4.out]|rw[H5.out]))
       go_meet;exact⟨by simp,rfl⟩
  obtain⟨rfl,rfl⟩:=hcut;obtain⟨bb,hbb⟩:=exq (b1 &&b2 &&b3 &&b4 &&b5);rw[hbb];have hB:bb=true↔((R7 p st &&R7 p dy)=true/\ ¬(tk<1\/1000000<tk\/mo<0\/10<mo)):=by
   rw[<-hbb,<-H1.out,<-H2.out,<-H3.out,<-H4.out,<-H5.out];simp[R7,H9];omega
  have HBb:=Q0 hB;clear hB hbb
  cases bb with
  |false=>
   have HC:Hid (UV ps st dy p tk mo 2 (-1)):=Q0 (by
    by_cases h1:(R7 p st &&R7 p dy)=true
    ·refine .inr (.inr (.inl ⟨HT,h1, ?_,rfl,rfl⟩))
     by_cases h2:(tk<1\/1000000<tk\/mo<0\/10<mo)
     ·exact h2
     have:=HBb.2 ⟨h1,h2⟩;cases this
    exact .inr (.inl ⟨HT,by simpa using h1,rfl,rfl⟩))
   go_wp2_with fail
   refine(RQ 2 _).mono ?_;rintro e w5 ⟨rfl,hb5⟩;have hX5:=J4 HX3 hb5;have HX5:=Q0 hX5;have HB5:=Q0 (HB3.trans (hb5.mono HB3.size));clear x0 x1 f0 f1;obtain⟨x0,x1⟩:w5.cell? ⟨X,0,none⟩=some (I O 0)/\w5.cell? ⟨X,1,none⟩=some (I O 0):=⟨by rw[J0 hX5];rfl,by rw[J0 hX5];rfl⟩;have f0:=J1 hX5 0;have f1:=J1 hX5 1;clear hX5 hb5;go_wp2_with fail
   refine Yx (g:=X) (v:= .pointer none) (x:=I O 2) (y:=I O (-1)) (by with_unfolding_all rfl) (by with_unfolding_all rfl) (by with_unfolding_all rfl) (J7 (J7 HX5 0 _) 1 _) ?_;exact⟨(HB5.setCell hXl _).setCell hXl _,.inl ⟨2,-1,rfl,by decide,HC⟩⟩
  |true=>
   have HC:Hid (UV ps st dy p tk mo 0 (-1)):=Q0 (.inr (.inr (.inr ⟨HT,(HBb.1 rfl).1,(HBb.1 rfl).2,rfl,rfl⟩)));go_upto_region 6 with fail
   obtain⟨w3,ew3⟩:=exq wc;rw[ew3]at HX3 HB3 x0 x1 f0 f1|-;clear ew3;have hbR:Below w3.heap.size w3 (w3.alloc (.cells #[.slice T len tc,I O st,I O dy,I O p,I O p,I O tk,I O mo,.slice none 0 0,.slice none 0 0,.slice none 0 0,I O 1,I O 0,I O 0,I O 0] 81)):=(Q2 _ w3).alloc (Q4 _) _;have hRb:=J9 w3 81 #[.slice T len tc,I O st,I O dy,I O p,I O p,I O tk,I O mo,.slice none 0 0,.slice none 0 0,.slice none 0 0,I O 1,I O 0,I O 0,I O 0];obtain⟨w4,ew4⟩:=exq (w3.alloc (.cells #[.slice T len tc,I O st,I O dy,I O p,I O p,I O tk,I O mo,.slice none 0 0,.slice none 0 0,.slice none 0 0,I O 1,I O 0,I O 0,I O 0] 81));obtain⟨R,eR⟩:=exq w3.heap.size;rw[ew4]at hbR hRb;rw[eR]at hRb;have hRl:w.heap.size<=R:=by have:=HB3.size;omega
   have hXR:X≠R:=fun e=>by have:=J5 HX3;omega
   go_wp2_with fail
   try rw[ew4]
   try rw[eR]
   refine(RQ 0 _).mono ?_;rintro e w5 ⟨rfl,hb5⟩;have hb35:=hbR.trans (hb5.mono hbR.size);have hX5:=J4 HX3 hb35;have hR5:=J4 hRb hb5;have HX5:=Q0 hX5;have HR5:=Q0 hR5;have HB5:=Q0 (HB3.trans (hb35.mono HB3.size));clear x0 x1 f0 f1 ew4 eR;obtain⟨x0,x1⟩:w5.cell? ⟨X,0,none⟩=some (I O 0)/\w5.cell? ⟨X,1,none⟩=some (I O 0):=⟨by rw[J0 hX5];rfl,by rw[J0 hX5];rfl⟩;have f0:=J1 hX5 0;have f1:=J1 hX5 1;clear hX5 hb5 hR5 hbR hRb hb35;go_wp2_with fail
   refine Yx (g:=X) (v:= IP (some ⟨R,0,none⟩)) (x:=I O 0) (y:=I O (-1)) (by with_unfolding_all rfl) (by with_unfolding_all rfl) (by with_unfolding_all rfl) (J7 (J7 HX5 0 _) 1 _) ?_;have hbl:=(HB5.setCell hXl (I O 0) (p:=⟨X,0,none⟩)).setCell hXl (I O (-1)) (p:=⟨X,1,none⟩);refine⟨hbl,.inr ⟨HC,R,_,rfl,Jf1 (T:=T) (tc:=tc) (by have h1:=HPs.out;rw[<-HL.out]at h1;exact h1) hbl hRl HTl ?_,fun i hi=>hi.imp (fun e=>by omega) id⟩⟩;rw[HL.out];exact XP (XP HR5 (by show R≠X;omega) _) (by show R≠X;omega) _
 have d1:=JF hf
 have HC:Hid (UV ps st dy p tk mo f pl):=Q0 (.inl ⟨HTab,hf⟩)
 have HNe:=Q0 hf
 clear hf
 go_wp2_with fail
 go_region
 go_wp2_with fail
 refine Yx (g:=X) (v:= .pointer none) (x:=I O f) (y:=I O pl) (by with_unfolding_all rfl) (by with_unfolding_all rfl) (by with_unfolding_all rfl) (Z2 (J7 (J7 HX3 0 _) 1 _)) ?_
 exact⟨J3 ((HB3.setCell hXl _).setCell hXl _),.inl ⟨f,pl,rfl,HNe,HC⟩⟩
theorem Qm8 {w e F m} (h:C3 w e F m) (u:VD m) o (C:Z4 o.side) (y:R9 o) (v:0<=o.qty):
  Calls prog 47 #[IP (some ⟨e,0,none⟩),X5 o] w fun ev w'=>N8 w w' e F (fun Fs=>Fs=(D9 m o).fills) (M3 m o) ev:=by
 obtain⟨oi,os,ok,op,oq⟩:=o
 rcases C with j|j
 ·have i:os=1:=j
  subst i;exact Je8 h u oi ok op oq y v
 have i:os=2:=j
 subst i
 exact Je9 h u oi ok op oq y v
theorem Jj5 {w r c es} (h:R8 w r es c) (u:BB es) k v (E:QE es k=none):
  ∃w' C c',(Instr.mapUpdate 101 (.map (some r)) (I O k) v).run prog w= .ok () w'/\R8 w' r C c'/\BB C/\BY w w' r/\ ∀j,QE C j=if j=k then some v else QE es j:=by
 obtain⟨x,N,D,Z,J⟩:=PW es k 0 u
 have U:x=none:=by
  rw[E]at D
  cases x with
  |none=>rfl
  |some y=>simp at D
 subst U
 refine⟨_,_,_,Zv underlying101 VN CR h _ v N,h.set _ _, ?_,PN _ _ _, ?_⟩
 ·intro e i
  rcases Y7.1 i with i|i
  ·exact u e i
  obtain rfl:e=_:=by simpa using i
  exact⟨k,rfl⟩
 intro j
 rw[Cc es _ k rfl (J rfl) u j]
 unfold D0
 rfl
theorem Jj6 {w r c es} (h:R8 w r es c) (u:BB es) k {b} (v:QE es k=if b=true then some (.bool true)else none):
  (Instr.lookup 101 (.map (some r)) (I O k) false).run prog w= .ok (.bool b) w:=by
 obtain⟨x,i,j,-,-⟩:=PW es k 0 u
 rw[Vb (z:= .bool false) underlying101 VN CR h _ (by kernel_rfl) false x i,j,v]
 cases b<;>rfl
theorem VD.taken {m} (h:VD m) o:VD (Y6 m o):=⟨h.tab,h.tk,h.la,h.now,h.lng,h.pk,h.pkn⟩
theorem Ak {o}:FH o=true↔(o.side≠1/\o.side≠2\/o.kind<1\/4<o.kind\/o.id<1):=by unfold FH;simp
theorem Qv5 {oi os ok op oq} (h:FH ⟨oi,os,ok,op,oq⟩=false):Z4 os:=by
 have h1: ¬(os≠1/\os≠2\/ok<1\/4<ok\/oi<1):=fun x=>by
  have h2:=(Ak (o:=⟨oi,os,ok,op,oq⟩)).2 x;rw[h]at h2;exact Bool.noConfusion h2
 unfold Z4
 omega
theorem Qm9 {w e F m} (h:C3 w e F m) (hI:VD m) o (hf:R9 o):
  Calls prog 12 #[IP (some ⟨e,0,none⟩),X5 o] w fun ev w'=>UQ w w' e F (fun Fs=>Fs=UJ m o) (N9 m o) (QJ m o) ev:=by
 have hE:=h
 obtain⟨cs,tb,bb,bk,im,T,tc,Al,lc,lv,bu,se,Ap,pc,es,mc,G,own,hM,hF⟩:=h
 obtain⟨j,f0⟩:=exq ((V3 o).price)
 obtain⟨bd,n1⟩:=exq (FH o)
 obtain⟨rb,h7⟩:=exq (JH o)
 obtain⟨j4,m8⟩:=exq (VY m.ph o.kind)
 obtain⟨kn,m9⟩:=exq (decide (o.id∈m.ids))
 have c4:Hid (V3 o=⟨o.id,o.side,o.kind,j,o.qty⟩):=Q0 (by rw[<-f0];rfl)
 have b0:=Q0 n1
 have f9:Hid (H9 j o.qty=rb):=Q0 (by rw[<-f0];exact h7)
 have f3:=Q0 h7
 have b2:=Q0 m8
 have d8:=Q0 m9
 have m6:Hid (R9 (V3 o)):=Q0 (by
  refine⟨hf.1,hf.2.1,hf.2.2.1, ?_,hf.2.2.2.2⟩;show G8 (if o.kind=2 then 1 else o.price)
  split
  ·unfold G8;omega
  exact hf.2.2.2.1)
 have HE:=Q0 hE
 have HF:=Q0 hF
 have HI:=Q0 hI
 have HM:=Q0 hM
 have g1:Hid ((if o.kind=2 then 1 else o.price)=j):=Q0 f0
 obtain⟨X,eX⟩:=exq w.heap.size
 have m3:=Q0 eX
 obtain⟨oi,os,ok,op,oq⟩:=o
 dsimp only at c4 f9 g1 b2 d8
 have g2:Below w.heap.size w (w.alloc (.cells #[I O oi,I O os,I O ok,I O op,I O oq] 29)):=(Q2 _ w).alloc (Q4 _) _
 have b9:=J9 w 29 #[I O oi,I O os,I O ok,I O op,I O oq]
 obtain⟨w0,h8⟩:=exq (w.alloc (.cells #[I O oi,I O os,I O ok,I O op,I O oq] 29))
 rw[h8]at g2 b9
 rw[eX]at b9
 have f4:=Q0 g2
 have HX:=Q0 b9
 obtain⟨C,x1,Z,N,U⟩:=A5 b9
 have xf:=J1 b9 3
 unfold X5
 dsimp only
 clear hE hM hF hI hf f0 n1 h7 m8 m9 g2 b9
 go_enter func12,ntmps12
 go_upto_region 1 with fail
 try rw[h8]
 try rw[eX]
 clear h8 eX
 go_upto_if 8 with fail
 go_cut [] (fun wx=>Hid (Below w.heap.size w wx/\Q1 wx X 29 #[I O oi,I O os,I O ok,I O j,I O oq]))
 case first=>
  by_cases hk:ok=2
  ·have d1:=Z0 hk
   have D:j=1:=by rw[<-g1.out,Q5 hk]
   have H1:=Q0 D;clear hk D;go_wp2_with fail
   go_meet;rw[H1.out];exact Q0 ⟨f4.out.trans ((V2 w0 ⟨X,3,none⟩ (I O 1)).below (fun i e=>by have h1:=m3.out;have h2:i=X:=e;omega) f4.out.size),J7 HX.out 3 (I O 1)⟩
  have d1:=X3 hk;have D:j=op:=by rw[<-g1.out,Q3 hk]
  have H1:=Q0 D;clear hk D;go_wp2_with fail
  go_meet;rw[H1.out];exact Q0 ⟨f4.out,HX.out⟩
 obtain⟨n5,h3⟩:=hcut.out
 have c2:=Q0 n5
 have g8:=Q0 h3
 clear C x1 Z N U xf f4 HX hcut n5
 obtain⟨C,x1,Z,N,U⟩:=A5 h3
 clear h3
 obtain⟨w1,k6⟩:=exq wc
 rw[k6]at c2 g8 C x1 Z N U|-
 clear k6
 go_upto_region 3 with fail
 go_cut [10] (fun o8 wx=>o8= .bool bd/\wx=w1)
 case first=>
  have key: ∀b:Bool,(b=true↔(os≠1/\os≠2\/ok<1\/4<ok\/oi<1))->b=bd:=fun b hb=>by
   rw[<-b0.out];exact Jg.2 (hb.trans (Ak (o:=⟨oi,os,ok,op,oq⟩)).symm)
  by_cases a1:os=1
  ·have t1:=JW a1
   by_cases E:ok<1
   ·have t2:=Z5 E
    have u:=Q0 (key true (by simp;omega));clear key a1 E;go_wp2_with fail
    go_meet;exact⟨E7 Value.bool u.out,rfl⟩
   have t2:=Z1 E
   by_cases v:ok>4
   ·have t3:=Z5 v
    have u:=Q0 (key true (by simp;omega));clear key a1 E v;go_wp2_with fail
    go_meet;exact⟨E7 Value.bool u.out,rfl⟩
   have t3:=Z1 v
   by_cases a5:oi<1
   ·have t4:=Z5 a5
    have u:=Q0 (key true (by simp;omega));clear key a1 E v a5;go_wp2_with fail
    go_meet;exact⟨E7 Value.bool u.out,rfl⟩
   have t4:=Z1 a5;have u:=Q0 (key false (by simp;omega));clear key a1 E v a5;go_wp2_with fail
   go_meet;exact⟨E7 Value.bool u.out,rfl⟩
  have t1:=JF a1
  by_cases a7:os=2
  ·have t5:=JW a7
   by_cases E:ok<1
   ·have t2:=Z5 E
    have u:=Q0 (key true (by simp;omega));clear key a1 a7 E;go_wp2_with fail
    go_meet;exact⟨E7 Value.bool u.out,rfl⟩
   have t2:=Z1 E
   by_cases v:ok>4
   ·have t3:=Z5 v
    have u:=Q0 (key true (by simp;omega));clear key a1 a7 E v;go_wp2_with fail
    go_meet;exact⟨E7 Value.bool u.out,rfl⟩
   have t3:=Z1 v
   by_cases a5:oi<1
   ·have t4:=Z5 a5
    have u:=Q0 (key true (by simp;omega));clear key a1 a7 E v a5;go_wp2_with fail
    go_meet;exact⟨E7 Value.bool u.out,rfl⟩
   have t4:=Z1 a5;have u:=Q0 (key false (by simp;omega));clear key a1 a7 E v a5;go_wp2_with fail
   go_meet;exact⟨E7 Value.bool u.out,rfl⟩
  have t5:=JF a7;have u:=Q0 (key true (by simp;omega));clear key a1 a7;go_wp2_with fail
  go_meet;exact⟨E7 Value.bool u.out,rfl⟩
 obtain⟨rfl,rfl⟩:=hcut
 cases bd with
 |true=>
  have HS:Hid (QJ m ⟨oi,os,ok,op,oq⟩=1):=Q0 (by unfold QJ;rw[Q5 b0.out]);have D:U0 1= .iface 52 (I O 1):=rfl;go_wp2_with fail
  go_ret2;unfold N9 UJ;rw[HS.out,Q3 (by decide),Q3 (by decide)];exact DY (DH HE.out c2.out) rfl
 |false=>
  go_wp2_with fail
  refine(CS _ _ _).mono ?_;rintro ev w2 ⟨rfl,g3⟩;rw[f9.out];have c6:=Q0 (c2.out.trans (g3.mono c2.out.size));have g9:=Q0 (J4 g8.out g3);clear C x1 Z N U g3 c2 g8
  cases rb with
  |false=>
   have HS:Hid (QJ m ⟨oi,os,ok,op,oq⟩=2):=Q0 (by unfold QJ;rw[Q3 (by rw[b0.out];decide),Q5 f3.out]);go_wp2_with fail
   go_ret2;unfold N9 UJ;rw[HS.out,Q3 (by decide),Q3 (by decide)];exact DY (DH HE.out c6.out) rfl
  |true=>
   have f5:=HM.out.below c6.out;have e9:=f5.cell f5.ec.c14;have k9:=Q0 f5;obtain⟨C,x1,Z,N,U⟩:=A5 g9.out;obtain⟨ph,g5⟩:=exq m.ph;rw[g5]at e9 b2;have a2:=Q0 g5;have j6: ∀W,Calls prog 44 #[I O ph,I O ok] W fun e w'=>e= .returned (.bool j4)/\w'=W:=fun W=>(Qo7 ph ok W).mono (fun _ _ ⟨h1,h2⟩=>⟨h1.trans (by rw[b2.out]),h2.symm⟩)
   have l9:=Q0 j6;clear j6;clear f5 g5;go_wp2_with fail
   go_quiet ((go_at_call 44;exact TU (l9.out _)))
   have a0:=U7 (Q2 w2.heap.size w2) nq;have d0:=Q0 (c6.out.trans (a0.mono c6.out.size));have d9:=Q0 (P9 g9.out nq);have a6:=Q0 (k9.out.below a0);clear a0 l9 e9 C x1 Z N U;generalize w2.drewN nq=w3 at d0 d9 a6|-;clear c6 g9 k9
   cases j4 with
   |false=>
    have HS:Hid (QJ m ⟨oi,os,ok,op,oq⟩=6):=Q0 (by unfold QJ;rw[Q3 (by rw[b0.out];decide),Q3 (by rw[f3.out];decide),Q5 (by rw[a2.out];exact b2.out)]);go_wp2_with fail
    go_ret2;unfold N9 UJ;rw[HS.out,Q3 (by decide),Q3 (by decide)];exact DY (DH HE.out d0.out) rfl
   |true=>
    obtain⟨C,x1,Z,N,U⟩:=A5 d9.out;have f1:=a6.out.cell a6.out.ec.c13;have d7:=Jj6 (w:=w3.drew) (a6.out.below (J3 (Q2 _ w3))).map_ a6.out.keys oi (b:=kn) (by rw[a6.out.ids,<-d8.out];simp);go_wp2_with fail
    refine XF (fun t=> [].contains t) (fun W=>W.cell? ⟨e,13,none⟩=some (.map (some im))/\W.cell? ⟨X,0,none⟩=some (I O oi)/\(Instr.lookup 101 (.map (some im)) (I O oi) false).run prog W= .ok (.bool kn) W) (by kernel_rfl) ⟨f1,C,d7⟩ (fun f8=> ?_);refine tM 0 (IP (some ⟨e,0,none⟩)) ?_;refine tM 1 (IP (some ⟨e,0,none⟩)) ?_;refine tM 2 (IP (some ⟨e,13,none⟩)) ?_;refine tM 3 (.map (some im)) ?_;refine tM 4 (IP (some ⟨X,0,none⟩)) ?_;refine tM 5 (I O oi) ?_;refine tM 6 (.bool kn) ?_;refine tM 7 (.bool kn) ?_;refine D5 (by kernel_rfl) ?_ _;clear f8;have a0:=J3 (Q2 w3.heap.size w3);have c7:=Q0 (d0.out.trans (a0.mono d0.out.size));have h9:=Q0 (Z2 d9.out);have a3:=Q0 (a6.out.below a0);clear a0 f1 d7 C x1 Z N U;generalize w3.drew=w4 at c7 h9 a3|-;clear d0 d9 a6
    cases kn with
    |true=>
     have HS:Hid (QJ m ⟨oi,os,ok,op,oq⟩=9):=Q0 (by unfold QJ;rw[Q3 (by rw[b0.out];decide),Q3 (by rw[f3.out];decide),Q3 (by rw[a2.out,show VY ph (Q8.mk oi os ok op oq).kind=true from b2.out];decide),Q5 (of_decide_eq_true d8.out)]);go_wp2_with fail
     go_ret2;unfold N9 UJ;rw[HS.out,Q3 (by decide),Q3 (by decide)];exact DY (DH HE.out c7.out) rfl
    |false=>
     have c8:=a3.out.cell a3.out.ec.c8;have a9:=a3.out.cell a3.out.ec.c12;obtain⟨y,g4⟩:=exq m.pk.length;obtain⟨ln,g0⟩:=exq (m.L1.length+m.L2.length);have l5: ∀W,Below w4.heap.size w4 W->Calls prog 45 #[IP (some ⟨bk,0,none⟩)] W fun e w'=>e= .returned (I O (ln:Nat))/\w'=W:=fun W hW=>(Wl W bk G m.L1 m.L2 (a3.out.below hW).book).mono (fun _ _ ⟨h1,h2⟩=>⟨h1.trans (by rw[g0]),h2.symm⟩)
     have p7:ln<=100:=by
      have h1:=a3.out.book.lists.cnt;rw[Y9]at h1;omega
     have p4:y<=100000:=by have:=HI.out.pkn;omega
     rw[g4]at a9;have m0:=Q0 l5;have b1:=Q0 g4;have l4:=Q0 g0;clear l5 g4 g0;go_wp2_with fail
     go_quiet ((go_at_call 45;exact TU (m0.out _ (by first|exact Q2 _ _|exact J3 (Q2 _ _)|exact U7 (Q2 _ _) _))))
     have a0:=U7 (Q2 w4.heap.size w4) nq;have f7:=Q0 (c7.out.trans (a0.mono c7.out.size));have e8:=Q0 (P9 h9.out nq);have c5:=Q0 (a3.out.below a0);clear a0 c8 a9 m0;generalize w4.drewN nq=w5 at f7 e8 c5|-;clear c7 h9 a3;have l1:Hid (QJ m ⟨oi,os,ok,op,oq⟩=if 100<=m.L1.length+m.L2.length+m.pk.length then 12 else 0):=Q0 (by unfold QJ;rw[Q3 (by rw[b0.out];decide),Q3 (by rw[f3.out];decide),Q3 (by rw[a2.out,show VY ph (Q8.mk oi os ok op oq).kind=true from b2.out];decide),Q3 (of_decide_eq_false d8.out)])
     by_cases e3:(ln:Int)+ (y:Int)>=100
     ·have d1:=Z5 e3
      have HS:Hid (QJ m ⟨oi,os,ok,op,oq⟩=12):=Q0 (by rw[l1.out,Q5 (by rw[l4.out,b1.out];omega)]);go_wp2_with fail
      go_ret2;unfold N9 UJ;rw[HS.out,Q3 (by decide),Q3 (by decide)];exact DY (DH HE.out f7.out) rfl
     have d1:=Z1 e3;have HS:Hid (QJ m ⟨oi,os,ok,op,oq⟩=0):=Q0 (by rw[l1.out,Q3 (by rw[l4.out,b1.out];omega)]);have l0:N9 m ⟨oi,os,ok,op,oq⟩=ZM (Y6 m ⟨oi,os,ok,j,oq⟩) ⟨oi,os,ok,j,oq⟩:=by unfold N9;rw[Q5 HS.out,c4.out]
     have j7:UJ m ⟨oi,os,ok,op,oq⟩=UM (Y6 m ⟨oi,os,ok,j,oq⟩) ⟨oi,os,ok,j,oq⟩:=by unfold UJ;rw[Q5 HS.out,c4.out]
     have a4:=Q0 (And.intro HS.out (And.intro l0 j7));have b8:=c5.out.below (J3 (Q2 _ w5));obtain⟨w6,p6,p8,n7,i6,j0,n0,d7⟩:=Jj5 b8.map_ b8.keys oi (.bool true) (by rw[b8.ids,Q3 (of_decide_eq_false d8.out)]);obtain⟨l8,i2⟩:=b8.mapTo n0 i6 j0 (id:=oi) (fun k=>by
      rw[d7 k,b8.ids]
      by_cases D:k=oi
      ·rw[Q5 D,Q5 (by rw[D];simp)]
      rw[Q3 D]
      by_cases e2:k∈m.ids
      ·rw[Q5 e2,Q5 (by simp[e2])]
      rw[Q3 e2,Q3 (by simp[D,e2])])
     have h6: ∀k,¬own X k:=fun k hk=>by have:=HM.out.ok.lt X k hk;have:=m3.out;omega
     have i7:=X0 (Z2 e8.out) i2.1 (fun⟨k,hk⟩=>h6 k hk);have k7:Z8 w w6 own own:=((F8 f7.out).trans (F8 (J3 (Q2 _ w5)))).trans i2;have f1:=c5.out.cell c5.out.ec.c13;have C:=(A5 e8.out).1;have i8:=Q0 i7;have J:=Q0 l8;have o7:=Q0 k7;have o1:=Q0 h6;clear b8 i6 j0 n0 d7 l8 i2 i7 k7 h6 l0 j7;go_upto_region 13 with fail
     go_cut [] (fun wx=>wx=w6)
     case first=>
      clear d1 e3
      go_still_tail 6,(by kernel_rfl)
      change wpList _ _ _ _ _ w5.drew;go_wp2_with fail
      go_meet
      rfl
     subst hcut;clear n7 f1 C e8 c5 f7 d1 e3;obtain⟨C,x1,Z,N,U⟩:=A5 i8.out;have e9:=J.out.cell J.out.ec.c14;have a9:=J.out.cell J.out.ec.c12;have j5:(Value.int .i64 ({m with ids:=m.ids++ [oi]}:X7).ph)=I O ph:=by rw[<-a2.out]
     have i9:(Value.slice Ap ({m with ids:=m.ids++ [oi]}:X7).pk.length pc)= .slice Ap y pc:=by rw[<-b1.out]
     rw[j5]at e9;rw[i9]at a9;have g7:=Q0 (EW (m:=Y6 m ⟨oi,os,ok,j,oq⟩) J.out (fun _ _ _=>rfl));have f2:=Q0 (o7.out.bstep HF.out);obtain⟨F6,i1⟩:=exq (fun i=> ∃k,own i k);rw[i1]at g7 f2;have n9:=Q0 i1;clear j5 i9 i1
     by_cases e6:ok=4/\ph≠5
     ·obtain⟨v,e5⟩:=e6
      have d4:=Z0 v;have d5:=JF e5;have d2:Hid (ZM (Y6 m ⟨oi,os,ok,j,oq⟩) ⟨oi,os,ok,j,oq⟩= {Y6 m ⟨oi,os,ok,j,oq⟩with pk:=m.pk++ [⟨oi,os,ok,j,oq⟩]}/\UM (Y6 m ⟨oi,os,ok,j,oq⟩) ⟨oi,os,ok,j,oq⟩= []):=by
       refine Q0 ⟨?_, ?_⟩
       ·unfold ZM;rw[Q5 ⟨v,by show m.ph≠5;rw[a2.out];exact e5⟩];rfl
       unfold UM;rw[Q5 ⟨v,by show m.ph≠5;rw[a2.out];exact e5⟩]
      clear v e5;go_wp2_with fail
      obtain⟨i0,n6,k5,l6,k4⟩:=N0 Xh;have k3:J2 wc.drew Ap y pc 29 5 (Q9 X9 m.pk):=by
       have h1:=(J.out.below (J3 (Q2 _ wc))).park;rw[<-b1.out];exact h1
      have m4:=Q0 (YM (show wc.drew.ownsRow 0 29 5 (.slice Ap y pc) y (Q9 X9 m.pk)from k3) (.cells #[I O oi,I O os,I O ok,I O j,I O oq] 29));clear k3;refine XF (fun t=> [10].contains t) (fun W=>W.cell? ⟨e,12,none⟩=some (.slice Ap y pc)/\W.cell? ⟨X,0,none⟩=some (I O oi)/\W.cell? ⟨X,1,none⟩=some (I O os)/\W.cell? ⟨X,2,none⟩=some (I O ok)/\W.cell? ⟨X,3,none⟩=some (I O j)/\W.cell? ⟨X,4,none⟩=some (I O oq)) (by kernel_rfl) ⟨a9,C,x1,Z,N,U⟩ (fun f8=> ?_);refine tM 0 (IP (some ⟨e,0,none⟩)) ?_;refine tM 1 (IP (some ⟨e,0,none⟩)) ?_;refine tM 2 (IP (some ⟨e,0,none⟩)) ?_;refine tM 3 (IP (some ⟨e,12,none⟩)) ?_;refine tM 4 (.slice Ap y pc) ?_;refine tM 5 (.agg #[I O oi,I O os,I O ok,I O j,I O oq]) ?_;refine oM 6 fun K1 l3=> ?_
      go_simp;have a8:Below wc.heap.size wc (wc.drew.alloc (.cells #[I O oi,I O os,I O ok,I O j,I O oq] 29)):=(J3 (Q2 _ wc)).alloc (Q4 _) _;have j3:(fun W:World=>W.cell? ⟨e,12,none⟩=some (.slice Ap y pc)/\W.cell? ⟨X,0,none⟩=some (I O oi)/\W.cell? ⟨X,1,none⟩=some (I O os)/\W.cell? ⟨X,2,none⟩=some (I O ok)/\W.cell? ⟨X,3,none⟩=some (I O j)/\W.cell? ⟨X,4,none⟩=some (I O oq)) (wc.drew.alloc (.cells #[I O oi,I O os,I O ok,I O j,I O oq] 29)):=⟨Z7 a9 a8,Z7 C a8,Z7 x1 a8,Z7 Z a8,Z7 N a8,Z7 U a8⟩;refine l3 _ _ (fun _=>j3) ?_;clear l3 a8 f8;refine oM 7 fun K2 n4=> ?_
      refine(Q5 (by rfl)).mpr ?_;refine wp_append_lies _ _ _ 47 rfl 0 29 i0 _ 5 40 QM n6 k5 l6 k4 rfl (by omega) (.slice Ap y pc) y _ rfl m4.out ⟨wc.heap.size,0,none⟩ 1 1 [I O oi,I O os,I O ok,I O j,I O oq] rfl rfl (JB (cs:= #[I O oi,I O os,I O ok,I O j,I O oq]) (t:=29) (fr:=(0,0)) (S5 wc.drew _)) (by simp[Value.oneCell']) (by omega) (by unfold maxLen;omega) (by omega) (by simp) (wc.heap.size+1) (by simp) ?_;intro gg cap w8 m7 c0 h0 p5;have d6:=GJ (w2:=wc.drew) (o:= .cells #[I O oi,I O os,I O ok,I O j,I O oq] 29) (show(wc.drew.alloc (.cells #[I O oi,I O os,I O ok,I O j,I O oq] 29)).grownBy w8 (Value.slice Ap y pc).ownBlock from⟨c0.os,c0.tape,c0.output,c0.size,c0.block⟩);rw[A7]at d6 h0;have p0:=Q0 d6;have n8:=Q0 h0;have o6:=Q0 m7;have g6:Q1 w8 e 103 cs:=X0 (J.out.below (J3 (Q2 _ wc))).ind.blk d6 (fun x=>absurd (J.out.ok.uni _ _ _ (J.out.op _ x) J.out.oe) (by decide));have c1:=X0 (Z2 i8.out) d6 (fun x=>o1.out _ (J.out.op _ x));have i4:w8.cell? ⟨e,12,none⟩=some (.slice Ap y pc):=(J0 g6 12).trans (J.out.ec.c12.trans (by rw[<-b1.out]));have o3:=J1 g6 12;have e4:(fun W:World=>W.cell? ⟨e,12,none⟩=some (.slice Ap y pc)/\W.cell? ⟨X,0,none⟩=some (I O oi)/\W.cell? ⟨X,1,none⟩=some (I O os)/\W.cell? ⟨X,2,none⟩=some (I O ok)/\W.cell? ⟨X,3,none⟩=some (I O j)/\W.cell? ⟨X,4,none⟩=some (I O oq)) w8:=⟨i4,(A5 c1).1,(A5 c1).2.1,(A5 c1).2.2.1,(A5 c1).2.2.2.1,(A5 c1).2.2.2.2⟩;refine n4 _ _ (fun _=>e4) ?_;clear m7 c0 h0 d6 g6 c1 m4 n6 k5 l6 k4 n4 j3 a9 C x1 Z N U;refine oM 8 fun K4 l7=> ?_
      go_simp;refine l7 _ _ (fun _=>e4) ?_;clear l7;refine oM 9 fun K5 k2=> ?_
      go_simp;refine k2 _ _ (fun _=>e4) ?_;clear k2;refine oM 10 fun K3 k1=> ?_
      refine(Q5 (by rfl)).mpr ?_;go_simp;refine k1 _ _ (fun e=>absurd e (by decide)) ?_;clear k1 i4 o3 e4;refine D5 (by kernel_rfl) ?_ _;go_wp2_with fail
      go_ret2;have hl:(m.pk++ [(⟨oi,os,ok,j,oq⟩:Q8)]).length=y+1:=by rw[Y9,b1.out];rfl
      obtain⟨own',j1,j9⟩:=(J.out.below (J3 (Q2 _ wc))).pkTo (P':=m.pk++ [⟨oi,os,ok,j,oq⟩]) (Ap':=some ⟨gg,0,none⟩) (pc':=cap) p0.out (by
       show w8.ownsRow 0 29 5 _ _ _;rw[hl,UE];exact o6.out) (fun i hi=>by
        have D:gg=i:=by simpa [Q7]using hi
        subst D;rcases n8.out with x|x
        ·exact .inl x
        right;rw[x];show wc.heap.size<=_;omega)
      rw[hl]at j1 j9;rw[a4.out.1,a4.out.2.1,a4.out.2.2,d2.out.1,d2.out.2];exact DY (C0.from_ f2.out ⟨_,EW (m:= {Y6 m ⟨oi,os,ok,j,oq⟩with pk:=m.pk++ [⟨oi,os,ok,j,oq⟩]}) j1 (fun _ _ _=>rfl),((F8 (J3 (Q2 _ wc))).trans j9).bstep (fun i=>by rw[<-n9.out])⟩) rfl
     have o9:=Q0 e6;have d2:Hid (¬(ok=4/\ph≠5)):=Q0 e6;clear e6;have m5:((ok ==4)=false)\/((ok ==4)=true/\(ph != 5)=false):=by
      by_cases h4:ok=4
      ·exact .inr ⟨Z0 h4,JW (Decidable.byContradiction fun h=>o9.out ⟨h4,h⟩)⟩
      exact .inl (X3 h4)
     have HD:=Q0 m5;clear m5;have o4:=Q0 (HI.out.taken ⟨oi,os,ok,j,oq⟩)
     by_cases b5:ph=3
     ·have d3:=JW b5
      have i3:=Q0 b5;clear b5;have j8:0<=oq:=by
       have h1:=f9.out;rw[DF]at h1;omega
      have n2:Z4 os:=Qv5 b0.out;have f6:=Qm8 g7.out o4.out ⟨oi,os,ok,j,oq⟩ n2 (by have:=m6.out;rw[c4.out]at this;exact this) j8;unfold X5 at f6;dsimp only at f6;have p3:=Q0 f6;have c3:Hid (ZM (Y6 m ⟨oi,os,ok,j,oq⟩) ⟨oi,os,ok,j,oq⟩=M3 (Y6 m ⟨oi,os,ok,j,oq⟩) ⟨oi,os,ok,j,oq⟩/\UM (Y6 m ⟨oi,os,ok,j,oq⟩) ⟨oi,os,ok,j,oq⟩=(D9 (Y6 m ⟨oi,os,ok,j,oq⟩) ⟨oi,os,ok,j,oq⟩).fills):=by
       have h1: ¬((Q8.mk oi os ok j oq).kind=4/\(Y6 m ⟨oi,os,ok,j,oq⟩).ph≠5):=fun h=>d2.out ⟨h.1,fun h5=>h.2 (a2.out.trans h5)⟩
       have h2: ¬((Y6 m ⟨oi,os,ok,j,oq⟩).ph≠3):=fun h=>h (a2.out.trans i3.out)
       refine Q0 ⟨?_, ?_⟩
       ·unfold ZM;rw[Q3 h1,Q3 h2]
       unfold UM;rw[Q3 h1,Q3 h2]
      clear f6 n2 j8;rcases HD.out with d4|⟨d4,d5⟩
      all_goals
       go_wp2_with fail
       refine p3.out.mono ?_;rintro ev w9 o5;obtain⟨A9,c9,k8,rfl,k0,j2,i5,n3⟩:=o5;have p1:=Q0 (show N8 wc w9 e F6 (fun Fs=>Fs=(D9 (Y6 m ⟨oi,os,ok,j,oq⟩) ⟨oi,os,ok,j,oq⟩).fills) (M3 (Y6 m ⟨oi,os,ok,j,oq⟩) ⟨oi,os,ok,j,oq⟩) (.returned (.slice A9 (List.length k8) c9))from⟨A9,c9,k8,rfl,k0,j2,i5,n3⟩);clear k0 j2 i5 n3;go_wp2_with fail
       go_ret2;rw[a4.out.1,a4.out.2.1,a4.out.2.2,c3.out.1,c3.out.2];exact(N8.from_ f2.out p1.out).told 0
     have d3:=JF b5;have i3:=Q0 b5;clear b5;have e7:=Uu wc e F6 _ g7.out ⟨oi,os,ok,j,oq⟩ (by have:=m6.out;rw[c4.out]at this;exact this);unfold X5 at e7;dsimp only at e7;have p2:=Q0 e7;have c3:Hid (ZM (Y6 m ⟨oi,os,ok,j,oq⟩) ⟨oi,os,ok,j,oq⟩=M6 (Y6 m ⟨oi,os,ok,j,oq⟩) ⟨oi,os,ok,j,oq⟩/\UM (Y6 m ⟨oi,os,ok,j,oq⟩) ⟨oi,os,ok,j,oq⟩= []):=by
      have h1: ¬((Q8.mk oi os ok j oq).kind=4/\(Y6 m ⟨oi,os,ok,j,oq⟩).ph≠5):=fun h=>d2.out ⟨h.1,fun h5=>h.2 (a2.out.trans h5)⟩
      have h2:((Y6 m ⟨oi,os,ok,j,oq⟩).ph≠3):=fun h=>i3.out (a2.out.symm.trans h)
      refine Q0 ⟨?_, ?_⟩
      ·unfold ZM;rw[Q3 h1,Q5 h2]
      unfold UM;rw[Q3 h1,Q5 h2]
     clear e7;rcases HD.out with d4|⟨d4,d5⟩
     all_goals
      go_wp2_with fail
      refine p2.out.mono ?_;rintro ev w9 ⟨rfl,l2⟩;have o2:=Q0 l2;clear l2;go_wp2_with fail
      go_ret2;rw[a4.out.1,a4.out.2.1,a4.out.2.2,c3.out.1,c3.out.2];exact DY (C0.from_ f2.out o2.out) rfl
