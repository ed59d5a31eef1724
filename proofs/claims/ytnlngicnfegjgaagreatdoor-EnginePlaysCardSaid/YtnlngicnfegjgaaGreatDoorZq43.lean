/- Parts. -/
import Derived.Test.YtnlngicnfegjgaaGreatDoorZq42
import Derived.Test.YtnlngicnfegjgaaGreatDoorZq33
set_option linter.unusedVariables false
set_option maxRecDepth 100000
set_option maxHeartbeats 8000000
open Go.Proofs.Tryz
open Go.Value renaming int→I,pointer→IP
open Go.IntKind renaming i64→O
namespace Go.Proofs.YtnlngicnfegjgaaGreatDoor
open Go.RowKit
structure Jn3 (R V:Nat) (T:Option Addr) (tc:Nat) (Ap:Option Addr) (pc:Nat) (Ai:Option Addr) (ic:Nat) (m:X7) (la:Int) (L1 L2:List Q8) (F:Nat->Prop) (w:World) (cs:Array Value) (AL:Option Addr) (own:Nat->Nat->Prop) (L:List Q8):Prop where
 mk_:V8 w R cs T tc AL Ap pc Ai ic own {m with L1:=L1,L2:=L2,la:=la} L
 var:Q1 w V 58 #[IP (some ⟨R,0,none⟩)]
 nv: ∀k,¬own V k
 fp: ∀i,F i↔(∃k,own i k)\/i=V
def Zh (R V:Nat) (T:Option Addr) (tc:Nat) (Ap:Option Addr) (pc:Nat) (Ai:Option Addr) (ic:Nat) (m:X7) (la:Int) (L1 L2:List Q8) (F:Nat->Prop) (w:World):Prop:= ∃cs AL own L,Jn3 R V T tc Ap pc Ai ic m la L1 L2 F w cs AL own L
theorem Qe6 {w R V} (h:Q1 w V 58 #[IP (some ⟨R,0,none⟩)]) {u} (y:w.cell? ⟨R,4,none⟩=some u) (j:w.frozen? ⟨R,4,none⟩=false) p:
  Calls prog 62 #[I O p,IP (some ⟨V,0,none⟩)] w fun i w'=>i= .returned (.tuple #[])/\w'=w.setCell ⟨R,4,none⟩ (I O p):=by
 have v:w.cell? ⟨V,0,none⟩=some (IP (some ⟨R,0,none⟩)):=by rw[J0 h];rfl
 clear h
 go_enter func62,ntmps62
 go_wp2_with fail
 refine BP (KW rfl _ _ _) rfl ?_
 exact⟨rfl,rfl⟩
theorem Pk {w w' own own' F V} (h:Z8 w w' own own') (j: ∀i,F i↔(∃k,own i k)\/i=V):Z3 w w' F (fun i=>(∃k,own' i k)\/i=V):=by
 refine⟨h.1.mono (fun i u=>(j i).2 (.inl u)),fun i u=> ?_⟩
 rcases u with⟨k,hk⟩|rfl
 ·rcases h.2 i k hk with e|e
  ·exact .inl ((j i).2 (.inl ⟨k,e⟩))
  exact .inr e
 exact .inl ((j i).2 (.inr rfl))
theorem Qw3 (R V:Nat) (T:Option Addr) (tc:Nat) (Ap:Option Addr) (pc:Nat) (Ai:Option Addr) (ic:Nat) (m:X7):
  YA (Zh R V T tc Ap pc Ai ic m) (fun la p=>ZK m.st m.dy m.an la p) (fun _ p=>p) (fun _=>0) 61 62 #[IP (some ⟨R,0,none⟩)] #[] #[IP (some ⟨V,0,none⟩)] 106 (IP (some ⟨R,7,none⟩)) (I O 0)where
 keep:=by
  rintro s L1 L2 F w w' S ⟨cs,AL,own,L,h⟩ hk hF;exact⟨cs,AL,own,L,h.mk_.keeps hk (fun i k hi=>hF i ((h.fp i).2 (.inl ⟨k,hi⟩))),X0 h.var hk (hF V ((h.fp V).2 (.inr rfl))),h.nv,h.fp⟩
 lt:=by
  rintro s L1 L2 F w ⟨cs,AL,own,L,h⟩ i hi;rcases(h.fp i).1 hi with⟨k,h1⟩|rfl
  ·exact h.mk_.ok.lt i k h1
  exact J5 h.var
 ok:=by
  rintro s L1 L2 F w ⟨cs,AL,own,L,h⟩;exact h.mk_.twin.lists h.mk_.few
 allows:=by
  rintro s L1 L2 F w p ⟨cs,AL,own,L,h⟩-;exact Qc9 R m.st m.dy m.an s p w (h.mk_.cell h.mk_.rc.c1) (h.mk_.cell h.mk_.rc.c2) (h.mk_.cell h.mk_.rc.c3) (h.mk_.cell h.mk_.rc.c4)
 trades:=by
  rintro s L1 L2 F w p ⟨cs,AL,own,L,h⟩ hp-;refine(Qe6 h.var (h.mk_.cell h.mk_.rc.c4) (h.mk_.frozen 4) p).mono ?_;rintro ev w' ⟨rfl,rfl⟩;obtain⟨h1,h2⟩:=h.mk_.setLa p;have hVR:V≠R:=fun e=>h.nv 1 (e▸h.mk_.oR)
  exact⟨rfl,_,⟨_,AL,own,L,h1,X0 h.var (V2 w ⟨R,4,none⟩ _) (fun e=>hVR e),h.nv,fun i=>ZP⟩,Pk h2 h.fp⟩
 cut:=by
  rintro s L1 L2 F w x n ⟨cs,AL,own,L,h⟩ hx h1 h2;have hM:=h.mk_;obtain⟨e0,ht2⟩:=hM.twin.cutS_ (hM.twin.lists hM.few) hx h1 h2;refine(Ys w R _ cs 7 AL L hM.bk (by have:=hM.few;omega) x.id n (Jd7 hM.twin)).mono ?_;rintro e w' ⟨rfl,ht⟩;rw[e0];obtain⟨cs',AL',own',hM',ho⟩:=hM.bookTo ht ht2 (G0 (Ut L x.id n) hM.few);refine⟨rfl,_,⟨cs',AL',own',_,hM',X0 h.var ho.1 (fun⟨k,hk⟩=>h.nv k hk),fun k hk=> ?_,fun i=>ZP⟩,Pk ho h.fp⟩;rcases ho.2 V k hk with e|e
  ·exact h.nv k e
  have:=J5 h.var;omega
 cnt_:=fun s p=>V5 _
 ega:=XH func61 (by kernel_rfl) rfl
 egt:=XH func62 (by kernel_rfl) rfl
def VG (own:Nat->Nat->Prop) (Y:Nat):Prop:= ∀k,¬own Y k
structure VA (w wr:World) (R V X:Nat) (T:Option Addr) (tc:Nat) (Ap:Option Addr) (pc:Nat) (Ai:Option Addr) (ic:Nat) (own:Nat->Nat->Prop) (A:Option Addr) (c:Nat) (Fs:List B5) (ob:Array Value) (m:X7) (cs:Array Value) (AL:Option Addr) (own':Nat->Nat->Prop) (L:List Q8):Prop where
 mk_:V8 wr R cs T tc AL Ap pc Ai ic own' m L
 step:Z3 w wr (fun i=> ∃k,own i k) (fun i=> ∃k,own' i k)
 row:J2 wr A Fs.length c 89 4 (Q9 D8 Fs)
 far: ∀g,Q7 A=some g->VG own' g
 new_: ∀g,Q7 A=some g->w.heap.size<=g
 var:Q1 wr V 58 #[IP (some ⟨R,0,none⟩)]
 nv:VG own' V
 box:Q1 wr X 29 ob
 nx:VG own' X
 vl:w.heap.size<=V/\w.heap.size<=X
section
variable {w wr w':World} {R V X Y:Nat} {T:Option Addr} {tc:Nat} {Ap:Option Addr} {pc:Nat} {Ai:Option Addr} {ic:Nat} {own own' own2:Nat->Nat->Prop} {A:Option Addr} {c:Nat} {Fs:List B5} {ob:Array Value} {m m2:X7} {cs cs2:Array Value} {AL AL2:Option Addr} {L L':List Q8}
theorem VA.below (h:VA w wr R V X T tc Ap pc Ai ic own A c Fs ob m cs AL own' L) (i:Below wr.heap.size wr w'):VA w w' R V X T tc Ap pc Ai ic own A c Fs ob m cs AL own' L:=
 ⟨h.mk_.below i,h.step.trans (C1 i),h.row.below i,h.far,h.new_,J4 h.var i,h.nv,J4 h.box i,h.nx,h.vl⟩
theorem VA.newFar (h:VA w wr R V X T tc Ap pc Ai ic own A c Fs ob m cs AL own' L) (i:wr.heap.size<=Y):VG own' Y:=fun k hk=>by have:=h.mk_.ok.lt Y k hk;omega
theorem VA.keepY (h:VA w wr R V X T tc Ap pc Ai ic own A c Fs ob m cs AL own' L) (hk:Q6 (fun i=>i=Y) wr w') (J:VG own' Y) (D:Y≠V) (C:Y≠X) (v:Q7 A≠some Y) (N:w.heap.size<=Y):VA w w' R V X T tc Ap pc Ai ic own A c Fs ob m cs AL own' L:=
 ⟨h.mk_.keeps hk (fun i k j E=>J k (by have e:i=Y:=E;exact e▸j)),⟨h.step.1.trans hk (fun i j=> .inr (by have e:i=Y:=j;omega)),h.step.2⟩,h.row.keeps hk (fun g u e=>v (by have y:g=Y:=e;exact y▸u)),h.far,h.new_,X0 h.var hk (fun e=>D e.symm),h.nv,X0 h.box hk (fun e=>C e.symm),h.nx,h.vl⟩
theorem Yy {wr w' own' own2 Y} (j:VG own' Y) (i:Z8 wr w' own' own2) (u:Y<wr.heap.size):VG own2 Y:=fun k hk=>by
 rcases i.2 Y k hk with e|e
 ·exact j k e
 omega
theorem VA.turn (h:VA w wr R V X T tc Ap pc Ai ic own A c Fs ob m cs AL own' L) (v:V8 w' R cs2 T tc AL2 Ap pc Ai ic own2 m2 L') (j:Z8 wr w' own' own2):VA w w' R V X T tc Ap pc Ai ic own A c Fs ob m2 cs2 AL2 own2 L':=
 ⟨v,h.step.trans (j.bstep (fun i=>ZP)),h.row.keeps j.1 (fun g u ⟨k,hk⟩=>h.far g u k hk),fun g u=>Yy (h.far g u) j (h.row.lt u),h.new_,X0 h.var j.1 (fun⟨k,hk⟩=>h.nv k hk),Yy h.nv j (J5 h.var),X0 h.box j.1 (fun⟨k,hk⟩=>h.nx k hk),Yy h.nx j (J5 h.box),h.vl⟩
theorem VA.cells {a1 a2 a3 a4 a5} (h:VA w wr R V X T tc Ap pc Ai ic own A c Fs #[a1,a2,a3,a4,a5] m cs AL own' L):wr.cell? ⟨V,0,none⟩=some (IP (some ⟨R,0,none⟩))/\wr.cell? ⟨X,0,none⟩=some a1/\wr.cell? ⟨X,1,none⟩=some a2/\wr.cell? ⟨X,2,none⟩=some a3/\wr.cell? ⟨X,3,none⟩=some a4/\wr.cell? ⟨X,4,none⟩=some a5:=
 ⟨by rw[J0 h.var];rfl,by rw[J0 h.box];rfl,by rw[J0 h.box];rfl,by rw[J0 h.box];rfl,by rw[J0 h.box];rfl,by rw[J0 h.box];rfl⟩
theorem Dz {w6 W w4 own6 M1 M2 G' r o} (h:V8 w6 R cs T tc AL Ap pc Ai ic own6 m L) (J:Z3 w w6 (fun i=> ∃k,own i k) (fun i=> ∃k,own6 i k)) (hb:Below w6.heap.size w6 W) (hx:Q1 W X 29 ob) (fx:VG own6 X) (a4:w.heap.size<=V/\w.heap.size<=X) (a2:V≠X) (a3:Z4 o.side) (hr:D9 m o=r)
  (u:VC (Zh R V T tc Ap pc Ai ic m) W w4 r.st (fun i=>(∃k,own6 i k)\/i=V) G' M1 M2 A c r.fills) (D:X6 o.side M1 M2=X6 o.side m.L1 m.L2) (E:X6 (3-o.side) M1 M2=r.rest):
  ∃Z a0 own' L',VA w w4 R V X T tc Ap pc Ai ic own A c r.fills ob (XU m o) Z a0 own' L'/\ ∀i t y,Q1 W i t y->VG own6 i->i≠V->Q1 w4 i t y/\VG own' i/\Q7 A≠some i:=by
 obtain⟨Z,a0,own',L',hk⟩:=u.mk_
 have hW:=hb.size
 have a6:=J.1.size
 have e1:({m with L1:=M1,L2:=M2,la:=r.st}:X7)=XU m o:=by
  unfold XU;rw[hr];have hL:M1=(if o.side=1 then m.L1 else r.rest)/\M2=(if o.side=1 then r.rest else m.L2):=by
   rcases a3 with e2|e2
   ·rw[e2]at D E|-
    rw[Q5 rfl,Q5 rfl];exact⟨D,E⟩
   rw[e2]at D E|-;rw[Q3 (by decide),Q3 (by decide)];exact⟨E,D⟩
  rw[<-hL.1,<-hL.2]
 have hM:=hk.mk_
 rw[e1]at hM
 have a5: ∀i,VG own6 i->i<W.heap.size->i≠V->VG own' i:=fun i j a1 C k v=>by
  rcases u.step.2 i ((hk.fp i).2 (.inl ⟨k,v⟩))with(⟨k',e⟩|e)|e
  ·exact j k' e
  ·exact C e
  omega
 have N: ∀i t y,Q1 W i t y->VG own6 i->i≠V->Q1 w4 i t y/\VG own' i/\Q7 A≠some i:=fun i t y hB j C=>by
  have a1:=J5 hB;refine⟨X0 hB u.step.1 ?_,a5 i j a1 C,fun e=> ?_⟩
  ·rintro(⟨k,v⟩|e)
   ·exact j k v
   exact C e
  have:=(u.fpA i e).2;omega
 refine⟨Z,a0,own',L',⟨hM,⟨?_, ?_⟩,u.row,fun g U k v=>(u.fpA g U).1 ((hk.fp g).2 (.inl ⟨k,v⟩)),fun g U=>by have:=(u.fpA g U).2;omega,hk.var,hk.nv,(N X _ _ hx fx (XV a2)).1,(N X _ _ hx fx (XV a2)).2.1,a4⟩,N⟩
 ·refine(J.1.trans (U1 hb (fun _=>False)) (fun i j=>j.elim)).trans u.step.1 (fun i j=> ?_)
  rcases j with j|e
  ·exact J.2 i j
  exact .inr (by omega)
 rintro i ⟨k,v⟩
 rcases u.step.2 i ((hk.fp i).2 (.inl ⟨k,v⟩))with(e|e)|e
 ·exact J.2 i e
 ·exact .inr (by omega)
 exact .inr (by omega)
end
theorem Uy {σ:Type} (al:σ->Int->Bool) (tr:σ->Int->σ): ∀(L:List Q8) (o:Q8) (s:σ),(V7 al tr L o s).left.kind=o.kind
 | [],o,s=>rfl
 |x::t,o,s=>by
  unfold V7
  split
  ·rfl
  split
  ·exact Uy al tr t o s
  split
  ·rfl
  split
  ·rfl
  exact Uy al tr t (B6 o _) _
def AJ (w w':World) (R:Nat) (F:Nat->Prop) (P:List B5->Prop) (m:X7) (ev:Ending):Prop:=
 ∃A c Fs,ev= .returned (.slice A (List.length Fs) c)/\P Fs/\J2 w' A Fs.length c 89 4 (Q9 D8 Fs)/\(∀g,Q7 A=some g->w.heap.size<=g)/\ ∃F',D7 w' R F' m/\Z3 w w' F F'/\ ∀g,Q7 A=some g-> ¬F' g
def Kv (w wx:World) (R:Nat) (T:Option Addr) (tc:Nat) (Ap:Option Addr) (pc:Nat) (Ai:Option Addr) (ic:Nat) (own:Nat->Nat->Prop) (Af:Option Addr) (cf:Nat) (Fs:List B5) (AL:Option Addr) (M:List Q8) (cs:Array Value) (m:X7):Prop:=
 ∃own',V8 wx R cs T tc AL Ap pc Ai ic own' m M/\Z8 w wx own own'/\KX wx own' Af Fs.length cf 89 4 (Q9 D8 Fs)/\ ∀g,Q7 Af=some g->w.heap.size<=g
theorem Kv.below {w wx w' R T tc Ap pc Ai ic own Af cf Fs AL M cs m}
  (h:Kv w wx R T tc Ap pc Ai ic own Af cf Fs AL M cs m) (i:Below wx.heap.size wx w'):Kv w w' R T tc Ap pc Ai ic own Af cf Fs AL M cs m:=by
 obtain⟨own',h1,h2,j,u⟩:=h
 exact⟨own',h1.below i,h2.trans (F8 i),j.below i,u⟩
theorem Tp:(prog.info? 29).map (fun i=>(i.zero,i.size,i.bytes))=some (some (.agg #[I O 0,I O 0,I O 0,I O 0,I O 0]),5,40):=by kernel_rfl
theorem Vi {w R F m} (h:D7 w R F m) (g5:1<=m.la/\m.la<=1000000):
  Calls prog 71 #[IP (some ⟨R,0,none⟩)] w fun ev w'=>AJ w w' R F (QW m) (KJ m) ev:=by
 have a7:=Q0 (Ue h g5)
 obtain⟨cs,T,tc,AL,Ap,pc,Ai,ic,own,L,hM,hF⟩:=h
 have f8:=RC (m:=m) (hM.twin.lists hM.few) g5
 have HM:=Q0 hM
 have HF:=Q0 hF
 have f0:=Q0 f8
 obtain⟨⟨t0,j,t2⟩,ht⟩: ∃q,P5 m=q:=⟨_,rfl⟩
 have J:=Q0 ht
 rw[ht]at a7
 unfold QX at a7
 dsimp only at a7
 obtain⟨i0,i9,h6,i4,k5⟩:=N0 Tp
 clear hM hF f8 ht
 go_enter func71,ntmps71
 go_wp2_with fail
 refine a7.mono ?_
 rintro ev w1 ⟨rfl,Z⟩
 have b2:Below w1.heap.size w1 (w1.alloc (.cells #[I O t0,I O j,I O t2] 83)):=(Q2 _ w1).alloc (Q4 _) _
 have hX:=J9 w1 83 #[I O t0,I O j,I O t2]
 obtain⟨w2,d0⟩:=exq (w1.alloc (.cells #[I O t0,I O j,I O t2] 83))
 obtain⟨gq,eq⟩:=exq w1.heap.size
 have f2:w.heap.size<=gq:=by rw[<-eq];exact Z.size
 rw[d0]at b2 hX
 rw[eq]at hX
 have a5:=Q0 (Z.trans (b2.mono Z.size))
 have HQ:=Q0 hX
 have HG:=Q0 f2
 have a6:=Q0 (HM.below a5)
 clear Z b2 hX f2 a7
 obtain⟨K1,a3⟩:=exq (if 0<j then V9 m.L1 j else m.L1)
 obtain⟨K2,U⟩:=exq (if 0<j then V9 m.L2 j else m.L2)
 have HK:=Q0 (And.intro a3 U)
 have d8:BL m m.L1=D3 K1:=by unfold BL;rw[J.out,<-a3];rfl
 have e7:BL m m.L2=D3 K2:=by unfold BL;rw[J.out,<-U];rfl
 have e2:=Q0 (And.intro d8 e7)
 clear d8 e7
 go_upto_region 3 with fail
 try rw[d0]
 try rw[eq]
 clear d0 eq
 obtain⟨q0,q1,q2⟩:=NA HQ
 go_upto_if 12 with fail
 go_cut [3] (fun s3 wx=> ∃Af v Fs h9 M i6,s3= .slice Af (List.length Fs) v/\QW m Fs/\Kv w wx R T tc Ap pc Ai ic own Af v Fs h9 M i6 {m with L1:=K1,L2:=K2,an:=P0 m m.an,la:=P0 m m.la})
 case first=>
  by_cases h1:0<j
  ·have d1:=Z5 h1
   rw[Q5 h1]at a3 U;subst a3 U;have hf:=f0.out (by rw[J.out];exact h1);rw[J.out]at hf;dsimp only at hf;have a1:=a6.below (J3 (Q2 _ w2));have g0:=Ql0 w2.drew R _ cs 7 AL L m.L1 m.L2 a1.bk a1.twin a1.few t0 j (by omega) hf.1 hf.2.1;have d9:=Q0 g0;have H1:=Q0 h1;have d4:=Q0 (Z2 HQ);obtain⟨z0,z1,z2⟩:=NA d4;clear g0 hf a1;go_wp2_with fail
   refine XF (fun t=> [].contains t) (fun W=>W.cell? ⟨gq,0,none⟩=some (I O t0)/\W.cell? ⟨gq,1,none⟩=some (I O j)) (by kernel_rfl) ⟨z0,z1⟩ (fun i3=> ?_);refine tM 0 (IP (some ⟨R,0,none⟩)) ?_;refine tM 1 (IP (some ⟨R,0,none⟩)) ?_;refine tM 2 (IP (some ⟨R,7,none⟩)) ?_;refine tM 3 (IP (some ⟨gq,0,none⟩)) ?_;refine tM 4 (I O t0) ?_;refine tM 5 (IP (some ⟨gq,1,none⟩)) ?_;refine tM 6 (I O j) ?_;refine oM 7 fun K9 d2=> ?_
   go_simp;refine d9.mono ?_;rintro ev w3 ⟨Fs,Af,v,A3,c3,M,rfl,e4,e3,E⟩;have a1:=a6.below (J3 (Q2 _ w2));obtain⟨C,b1⟩:=a1.bookAt E.ref E.keep E.grow E.twin E.few;obtain⟨g8,g4⟩:=exq (JQ w2.drew own (fun i=>Q7 A3=some i) 3);have e6: ¬ ∃k,own gq k:=fun⟨k,hk⟩=>by have:=HM.ok.lt gq k hk;have:=HG.out;omega
   have f5:=X0 d4 b1.1 e6;have c0:KX w3 (JQ w2.drew own (fun i=>Q7 A3=some i) 3) Af (List.length Fs) v 89 4 (Q9 D8 Fs):=⟨E.row,fun g D k hk=>by
    have h1:=E.fp g D;rcases hk with h2|h2
    ·have h3:=a6.ok.lt g k h2
     have h4:w2.heap.size<=g:=h1.1;omega
    exact h1.2 h2.2.1⟩
   have g3: ∀g,Q7 Af=some g->w.heap.size<=g:=fun g D=>G0 a5.size (E.fp g D).1
   rw[g4]at C b1 c0;have c3:=C.cell C.rc.c3;have c4:=C.cell C.rc.c4;have f3:=C.frozen 3;have f4:=C.frozen 4;have j1:=Q0 C;have j4:=Q0 b1;have g6:=Q0 c0;have i5:=Q0 g3;have j7:=Q0 (And.intro e4 e3);clear q0 q1 q2 z0 z1 z2;obtain⟨q0,q1,q2⟩:=NA f5;clear C b1 f5 c0 g3 e4 e3 E e6 d9 g4 a1;refine d2 _ _ (fun _=>⟨q0,q1⟩) ?_;have g7:w3.cell? ⟨gq,0,none⟩=some (I O t0)/\w3.cell? ⟨gq,1,none⟩=some (I O j):=⟨q0,q1⟩;clear d2 i3;refine tM 8 (.tuple #[.slice Af (List.length Fs) v,I O 0]) ?_;refine tM 9 (.slice Af (List.length Fs) v) ?_;refine tM 10 (I O 0) ?_;refine tM 11 (.slice Af (List.length Fs) v) ?_;refine D5 (by kernel_rfl) ?_ _;clear g7;go_upto_region 5 with fail
   go_region
   go_wp2_with fail
   go_meet;have ep: ∀p,P0 m p=t0:=fun p=>by unfold P0;rw[J.out,Q5 (by have:=H1.out;show 0<j;omega)]
   obtain⟨k2,d6⟩:=j1.setAn t0;obtain⟨a2,a8⟩:=k2.setLa t0;have hd:=J3 (Q2 ((w3.setCell ⟨R,3,none⟩ (I O t0)).setCell ⟨R,4,none⟩ (I O t0)).heap.size ((w3.setCell ⟨R,3,none⟩ (I O t0)).setCell ⟨R,4,none⟩ (I O t0)));refine⟨Af,v,Fs,_,_,_,rfl, ?_,g8,by rw[ep,ep];exact a2.below hd,((((F8 a5).trans (F8 (J3 (Q2 _ w2)))).trans j4).trans (d6.trans a8)).trans (F8 hd),((g6.step d6).step a8).below hd,i5⟩;unfold QW;rw[J.out,Q5 (by have:=H1.out;show 0<j;omega)];exact j7
  have d1:=Z1 h1;rw[Q3 h1]at a3 U;subst a3 U;have H1:=Q0 h1;go_wp2_with fail
  go_meet;have ep: ∀p,P0 m p=p:=fun p=>by unfold P0;rw[J.out,Q3 (by have:=H1.out;show¬0<j;omega)]
  refine⟨none,0,[],_,_,_,rfl, ?_,own,by rw[ep,ep];exact a6,F8 a5,KX.nil _ _ _ _,fun g D=>by simp[Q7]at D⟩;unfold QW;rw[J.out,Q3 (by have:=H1.out;show¬0<j;omega)]
 obtain⟨Af,v,Fs,i7,M,l6,rfl,g2,hU⟩:=hcut
 have h7:=Q0 g2
 have HU:=Q0 hU
 obtain⟨l1,a2,a8,k4,g9⟩:=hU
 have i2:Hid (E5 M K1 K2):=Q0 a2.twin
 obtain⟨c,c7,-,-⟩:=a2.bk.cell
 have b5:=a2.bk.els
 have i8:=a2.few
 obtain⟨n,hn⟩:=exq M.length
 rw[hn]at c7 b5
 have l8:n<=100:=by omega
 have b9:=Q0 b5
 have HN:=Q0 hn
 clear q0 q1 q2 g2 a2 a8 k4 g9 b5 i8 hn a6 HQ a5 HG f0 a3 U
 obtain⟨w5,f1⟩:=exq wc
 rw[f1]at c7 b9 HU|-
 clear f1
 go_wp2_with fail
 go_loopg [5,40] n (fun gg s5 j0 wx=> ∃k u c9 A9,k<=n/\gg=n-k/\j0=I O k/\s5= .slice A9 u c9/\Below w5.heap.size w5 wx/\J2 wx A9 u c9 29 5 (Q9 X9 (D3 (M.take k)))/\ ∀g,Q7 A9=some g->w5.heap.size<=g)
 case atStart=>exact⟨0,0,0,none,V5 _,rfl,rfl,rfl,Q2 _ _,JX _ _ _ _,by simp[Q7]⟩
 obtain⟨k,u,c9,A9,hk,rfl,rfl,rfl,hB,hR,f6⟩:=hrel
 have y:=Q0 hB
 have HR:=Q0 hR
 have b0:=Q0 f6
 have l9:u<=100000:=by
  have h1:=YW H6 (by omega) hR;have h2:=WM (M.take k);rw[T6]at h2;omega
 have j3:=HU.below hB
 obtain⟨k8,N,-,-,-⟩:=j3
 have d7:=N.bk.cell
 have f7:=N.frozen 7
 clear hB hR f6 N
 by_cases l7:k<n
 ·have k7:(k:Int)< (n:Int):=by omega
  have l2:(0:Int)<=(k:Int):=by omega
  have d5:k<M.length:=by have:=HN.out;omega
  obtain⟨b,a9,hA⟩: ∃b a9,i7=some ⟨b,a9,none⟩:=by obtain⟨b,a9,h1,_⟩:=b9.2 (by omega);exact⟨b,a9,h1⟩
  subst hA;obtain⟨x0,x1,x2,x3,x4⟩:=CW (b9.below y (Q4 _)) d5;have c5:=Q0 (M8 d5);obtain⟨o,EO⟩: ∃o,Hid (M[k]=o):=⟨_,Q0 rfl⟩;rw[EO.out]at x0 x1 x2 x3 x4 c5;have Z:Below wr.heap.size wr (wr.alloc (.cells (J8 o) 29)):=(Q2 _ _).alloc (Q4 _) _;have a0:=Q0 Z;clear Z d7 f7 c7
  by_cases hs:o.kind=1
  ·have d1:=Z0 hs
   have c6:=Q0 (show D3 (M.take (k+1))=D3 (M.take k)++ [o] by rw[c5.out];exact Jn hs);have hO:=HR.below (a0.trans (((Q2 _ _).alloc (Q4 _) (.cells (J8 o) 29)).mono a0.size));have HO:=Q0 (show World.ownsRow ((wr.alloc (.cells (J8 o) 29)).alloc (.cells (J8 o) 29)) 0 29 5 (.slice A9 u c9) u (Q9 X9 (D3 (M.take k)))from hO);have b8:=S5 (wr.alloc (.cells (J8 o) 29)) (.cells (J8 o) 29);rw[show(wr.alloc (.cells (J8 o) 29)).heap.size=wr.heap.size+1 by simp]at b8;have d3:=Q0 b8;clear hs hO b8;unfold J8 at HO d3;go_wp2_with (at_builtin;(refine ZL _ rfl _ _ 47 rfl 0 29 i0 _ 5 40 QM i9 h6 i4 k5 rfl (by omega) (.slice A9 u c9) u _ rfl HO ⟨wr.heap.size+1,0,none⟩ 1 1 (X9 o) rfl rfl (JB (cs:=(X9 o).toArray) (t:=29) (fr:=(0,0)) d3) (JK _) (by omega) (by unfold maxLen;omega) (by omega) (by simp) (wr.heap.size+2) (by simp) ?_);intro gg cap w3 e5 f9 a4 l4;have h5:=Q0 e5;have j5:=Q0 f9;have j8:=Q0 a4;clear e5 f9 a4)
   go_roundg (n- (k+1))
   case measure=>omega
   have g1:=j5.out;rw[A7]at g1;have a4:=j8.out;rw[A7]at a4;have i1:w5.heap.size<=gg:=by
    rcases a4 with h1|h1
    ·exact b0 _ h1
    have:=y.size;show w5.heap.size<=gg;omega
   have j2:Below w5.heap.size w5 w3:=(((y.trans (a0.mono y.size)).alloc (by have:=a0.size;have:=y.size;omega) (.cells (J8 o) 29))).grown g1 (by have:=a0.size;have:=y.size;simp;omega) (fun x hx=>b0 x hx);refine⟨k+1,u+1,cap,some ⟨gg,0,none⟩,by omega,rfl,by go_num,rfl,j2, ?_,fun g D=>by cases D;exact i1⟩;rw[c6.out,UE];exact h5
  have d1:=X3 hs;have c6:=Q0 (show D3 (M.take (k+1))=D3 (M.take k) by rw[c5.out];exact Jq hs);clear hs;go_wp2_with fail
  go_roundg (n- (k+1))
  case measure=>omega
  exact⟨k+1,u,c9,A9,by omega,rfl,by go_num,rfl,y.trans (a0.mono y.size),by rw[c6.out];exact HR.below a0,b0⟩
 obtain rfl:n=k:=by omega
 have k7: ¬(n:Int)< (n:Int):=by omega
 have e8:M.take n=M:=N7 (by rw[HN.out];exact Q4 _)
 obtain⟨c',d7,-,-⟩:=d7
 have c8:=HR.out
 rw[e8]at c8
 have h0:=Q0 c8
 clear c8 e8 c7
 go_wp2_with fail
 go_ret
 have l5:=HU.below y
 obtain⟨k8,N,l0,e9,j9⟩:=HU.out
 have l3:=N
 have k6:=N.bk.put y h0 b0
 obtain⟨A',c2,j6,k0,k3⟩:=k6
 have h8:=i2.filter (fun o=>o.kind ==1)
 have k9:(D3 M).length<=100:=by have:=WM M;have:=N.few;omega
 obtain⟨k1,c1⟩:=N.bookAt j6 k0 k3 h8 k9
 have e1:KJ m= {m with L1:=D3 K1,L2:=D3 K2,an:=P0 m m.an,la:=P0 m m.la}:=by
  unfold KJ;rw[e2.1,e2.2]
 refine⟨Af,v,Fs,rfl,h7,(e9.step c1).row,j9,_, ?_,(l0.trans c1).bstep HF,fun g D ⟨k,hk⟩=>(e9.step c1).far g D k hk⟩
 rw[e1]
 exact k1.at_
set_option linter.unusedSimpArgs false
theorem Jf3 {m id} (h: ∀j (i:j<m.pk.length),m.pk[j].id≠id):CZ m id=false:=by
 unfold CZ
 rw[Ja]
 intro o u
 obtain⟨j,i,rfl⟩:=XG.1 u
 simpa using h j i
theorem Qw4 {m id k} (hk:k<m.pk.length) (h:m.pk[k].id=id):CZ m id=true:=by
 unfold CZ
 rw[TF]
 exact⟨_,Y1 hk,by simp[h]⟩
theorem Qe7 {w R F m} (h:D7 w R F m) (d4:m.pk.length<=100000) id:
  Calls prog 23 #[IP (some ⟨R,0,none⟩),I O id] w fun ev w'=>ev= .returned (I O (UL m id))/\C9 w w' R F (N4 m id):=by
 have g1:=Q0 h
 obtain⟨cs,T,tc,AL,Ap,c,Ai,ic,own,L,hM,hF⟩:=h
 have c7:=hM.cell hM.rc.c10
 by_cases p7:m.ph=7
 ·have d7:=Z0 p7
  have HS:Hid (UL m id=6/\N4 m id=m):=Q0 ⟨by unfold UL;rw[Q5 p7],by unfold N4;rw[Q5 p7]⟩;obtain⟨ph,a8⟩:=exq m.ph;rw[a8]at c7 d7;clear p7 hM hF d4 a8;go_enter func23,ntmps23
  go_wp2;go_ret;rw[HS.1,HS.2];exact⟨rfl,DE g1 (Q2 _ _)⟩
 have d7:=X3 p7
 have c5:=Q0 p7
 have c8:=hM.cell hM.rc.c8
 obtain⟨n,hn⟩:=exq m.pk.length
 rw[hn]at c8 d4
 have HN:=Q0 hn
 obtain⟨ph,a8⟩:=exq m.ph
 rw[a8]at c7 d7
 have HM:=Q0 hM
 have HF:=Q0 hF
 have b9:=J2.le_cap hM.park
 rw[hn]at b9
 unfold maxLen at b9
 obtain⟨i0,c4,b8,b5,c3⟩:=N0 Xo
 clear p7 hM hF a8 hn
 go_enter func23,ntmps23
 go_wp2_with fail
 clear c7 c8 d7
 go_loopg [19] n (fun gg g0 wx=> ∃k,k<=n/\gg=n-k/\g0=I O k/\Below w.heap.size w wx/\Hid (∀j (hj:j<m.pk.length),j<k->m.pk[j].id≠id))
 case atStart=>exact⟨0,V5 _,rfl,rfl,Q2 _ _,Q0 fun j hj h=>absurd h (by omega)⟩
 obtain⟨k,hk,rfl,rfl,hB,c0⟩:=hrel
 have a0:=HM.below hB
 by_cases f5:k<n
 ·have d2:k<m.pk.length:=by rw[HN.out];exact f5
  have d6:=a0.park;obtain⟨b,y,hA⟩: ∃b y,Ap=some ⟨b,y,none⟩:=by obtain⟨g,h1⟩:=QC d6 (by omega);exact⟨g,0,h1⟩
  subst hA;have d5:V4 wr X9 5 (some ⟨b,y,none⟩) n m.pk:=by
   have h1:=VV H6 (by omega) d6;rw[HN.out]at h1;exact h1
  obtain⟨x0,x1,x2,x3,x4⟩:=CW d5 d2;have D:=a0.cell a0.rc.c8;rw[HN.out]at D;have b1:=Q0 d5;have HB:=Q0 hB;have a2:=Q0 a0;obtain⟨o,EO⟩: ∃o,Hid (m.pk[k]=o):=⟨_,Q0 rfl⟩;rw[EO.out]at x0 x1 x2 x3 x4;have g7:(0:Int)<=(k:Int):=by omega
  have g5:(k:Int)< (n:Int):=by omega
  clear d6 d5 hB a0
  by_cases he:o.id=id
  ·have d1:=Z0 he
   have g3:Hid ((m.pk.findIdx fun o=>o.id ==id)=k):=Q0 (Pw d2 (by rw[EO.out];exact he) c0);have a9:Hid (CZ m id=true):=Q0 (Qw4 d2 (by rw[EO.out];exact he));clear he;go_upto_region 7 with fail
   obtain⟨w3,c9⟩:=exq (wr.alloc (.cells #[I O o.id,I O o.side,I O o.kind,I O o.price,I O o.qty] 29));have C:Below wr.heap.size wr w3:=by rw[<-c9];exact(Q2 _ _).alloc (Q4 _) _
   have f7:=Q0 (HB.trans (C.mono HB.size));have f2:=Q0 (a2.below C);have b1:=Q0 (b1.below C (Q4 _));have D:w3.cell? ⟨R,8,none⟩=some (.slice (some ⟨b,y,none⟩) n c):=(C.cell (V6 wr _ D)).trans D;rw[c9];clear c9 C x0 x1 x2 x3 x4;have E:=Q0 (show∀W,Below w3.heap.size w3 W->W.cell? ⟨R,8,none⟩=some (.slice (some ⟨b,y,none⟩) n c)from fun W hb=>(hb.cell (V6 w3 _ D)).trans D);have f1:=Q0 (show∀W,Below w3.heap.size w3 W->W.frozen? ⟨R,8,none⟩=false from fun W hb=>(f2.below hb).frozen 8);have i7:n<=c:=b9.1;have h2:c<=9223372036854775807:=b9.2;have g4:(k:Int)<=(c:Int):=by omega
   have h3:(k:Int)+1<=(c:Int):=by omega
   have g6:(k:Int)+1<=(n:Int):=by omega
   have h0:(n:Int)<=(c:Int):=by omega
   have g8:=d4
   go_cut [] (fun wx=> ∃A2 c2 W,J2 W A2 (n-1) c2 29 5 (Q9 X9 (S3 m.pk k))/\Below w3.heap.size w3 W/\(∀g,Q7 A2=some g->w3.heap.size<=g)/\wx=W.setCell ⟨R,8,none⟩ (.slice A2 (n-1) c2))
   case first=>
    by_cases f3:k+1=c
    ·obtain rfl:c=k+1:=f3.symm
     obtain rfl:n=k+1:=by omega
     have f6:IntKind.i64.wrap ((k:Int)+1)=(k:Int)+1:=by rw[AW];omega
     have i6: ¬(k:Int)+1< (k:Int):=by omega
     have g9: ¬(k:Int)+1<0:=by omega
     clear f3;refine CH 19 (fun W=>W.cell? ⟨R,8,none⟩=some (.slice (some ⟨b,y,none⟩) (k+1) (k+1))) (by kernel_rfl) D (fun v=> ?_);refine tT 0 (IP (some ⟨R,0,none⟩)) ?_;refine tT 2 (IP (some ⟨R,0,none⟩)) ?_;refine tT 3 (IP (some ⟨R,0,none⟩)) ?_;refine tT 4 (IP (some ⟨R,8,none⟩)) ?_;refine tT 5 (.slice (some ⟨b,y,none⟩) (k+1) (k+1)) ?_;refine tT 6 (I O k) ?_;refine tT 7 (.slice (some ⟨b,y,none⟩) k (k+1)) ?_;refine tT 9 (IP (some ⟨R,0,none⟩)) ?_;refine tT 10 (IP (some ⟨R,0,none⟩)) ?_;refine tT 11 (IP (some ⟨R,8,none⟩)) ?_;refine tT 12 (.slice (some ⟨b,y,none⟩) (k+1) (k+1)) ?_;refine tT 13 (I O k) ?_;refine tT 14 (I O ((k:Int)+1)) ?_;refine tT 15 (.slice (some ⟨b,y,none⟩) 0 0) ?_;clear D v;have u:=Q0 (show Below w3.heap.size w3 w3 from Q2 _ _);refine Y8 1 (by kernel_rfl) rfl (fun N i=> ?_);go_simp;obtain⟨v1,Z⟩:=exq ((w3.alloc (.cells #[] 29)).drew);have C:Below w3.heap.size w3 v1:=by rw[<-Z];exact J3 ((Q2 _ _).alloc (Q4 _) _)
     have d9:=Q0 (show J2 v1 (some ⟨w3.heap.size,0,none⟩) 0 0 29 5 [] by rw[<-Z];exact GA _ _ _);rw[Z];clear Z;have u:=Q0 C;have J:=Q0 u.size;clear C;refine i _ _ (E _ u) (fun v=> ?_);clear i v;refine Y8 8 (by kernel_rfl) rfl (fun N i=> ?_);refine KS H6 JK (by rfl) _ _ _ (by rfl) 29 i0 _ 40 QM c4 b8 b5 c3 rfl (by omega) (some ⟨w3.heap.size,0,none⟩) 0 0 [] (by rfl) d9 (some ⟨b,y,none⟩) k (k+1) (m.pk.take k) (by rfl) (Xi (b1.below u (Q4 _)) (by omega)) (by unfold maxLen;omega) (by omega) ?_;intro A1 c1 v2 a1 a7 b2;rw[QQ,VZ]at a1;rw[QQ];have d3:=Q0 a1;have a5:=Q0 (ZY b2 (KE (Q4 _)) J);have u:=Q0 (ZQ u a7 (KE (Q4 _)) J);have J:=Q0 u.size;clear a1 a7 b2;refine i _ _ (E _ u) (fun v=> ?_);clear i v;simp only[Act.put,List.setIfInBounds_toArray,List.set_cons_zero,List.set_cons_succ];refine Y8 16 (by kernel_rfl) rfl (fun N i=> ?_);refine KS H6 JK (by rfl) _ _ _ (by rfl) 29 i0 _ 40 QM c4 b8 b5 c3 rfl (by omega) (A1) k c1 (Q9 X9 (m.pk.take k)) (by rfl) d3 (some ⟨b,y,none⟩) 0 0 (m.pk.drop (k+1)) (by rfl) (Fi (by rw[KK];have:=HN.out;omega)) (by unfold maxLen;omega) (by omega) ?_;intro A2 c2 v3 U a6 b0;rw[show k+0=(k+1)-1 by omega]at U;rw[show k+0=(k+1)-1 by omega];have e3:=Q0 U;have e6:=Q0 (ZY b0 a5 J);have u:=Q0 (ZQ u a6 a5 J);clear U a6 b0;refine i _ _ (E _ u) (fun v=> ?_);clear i v;simp only[Act.put,List.setIfInBounds_toArray,List.set_cons_zero,List.set_cons_succ];refine Y8 17 (by kernel_rfl) rfl (fun N i=> ?_);go_simp;refine i _ _ (E _ u) (fun v=> ?_);clear i v;refine Y8 18 (by kernel_rfl) rfl (fun N i=> ?_);go_simp;refine i _ _ (E _ u) (fun v=> ?_);clear i v;have e4:=f1.out _ u;have c6:=E.out _ u;refine YY (by kernel_rfl) rfl (fun N i=> ?_);go_simp;refine i _ _ (YU (by kernel_rfl) ?_ _);clear i e4 c6;go_wp2_with fail
     go_meet;exact⟨A2,c2,v3,by have h:=e3.out;unfold S3;rw[DB];exact h,u,e6,rfl⟩
    have h5: ¬c=k+1:=by omega
    have f6:IntKind.i64.wrap ((k:Int)+1)=(k:Int)+1:=by rw[AW];omega
    have h9:(0:Int)<=(k:Int)+1:=by omega
    refine CH 19 (fun W=>W.cell? ⟨R,8,none⟩=some (.slice (some ⟨b,y,none⟩) n c)) (by kernel_rfl) D (fun v=> ?_);refine tT 0 (IP (some ⟨R,0,none⟩)) ?_;refine tT 2 (IP (some ⟨R,0,none⟩)) ?_;refine tT 3 (IP (some ⟨R,0,none⟩)) ?_;refine tT 4 (IP (some ⟨R,8,none⟩)) ?_;refine tT 5 (.slice (some ⟨b,y,none⟩) n c) ?_;refine tT 6 (I O k) ?_;refine tT 7 (.slice (some ⟨b,y,none⟩) k c) ?_;refine tT 9 (IP (some ⟨R,0,none⟩)) ?_;refine tT 10 (IP (some ⟨R,0,none⟩)) ?_;refine tT 11 (IP (some ⟨R,8,none⟩)) ?_;refine tT 12 (.slice (some ⟨b,y,none⟩) n c) ?_;refine tT 13 (I O k) ?_;refine tT 14 (I O ((k:Int)+1)) ?_;refine tT 15 (.slice (some ⟨b,y+ (k+1)*5,none⟩) (n- (k+1)) (c- (k+1))) ?_;clear D v;have u:=Q0 (show Below w3.heap.size w3 w3 from Q2 _ _);refine Y8 1 (by kernel_rfl) rfl (fun N i=> ?_);go_simp;obtain⟨v1,Z⟩:=exq ((w3.alloc (.cells #[] 29)).drew);have C:Below w3.heap.size w3 v1:=by rw[<-Z];exact J3 ((Q2 _ _).alloc (Q4 _) _)
    have d9:=Q0 (show J2 v1 (some ⟨w3.heap.size,0,none⟩) 0 0 29 5 [] by rw[<-Z];exact GA _ _ _);rw[Z];clear Z;have u:=Q0 C;have J:=Q0 u.size;clear C;refine i _ _ (E _ u) (fun v=> ?_);clear i v;refine Y8 8 (by kernel_rfl) rfl (fun N i=> ?_);refine KS H6 JK (by rfl) _ _ _ (by rfl) 29 i0 _ 40 QM c4 b8 b5 c3 rfl (by omega) (some ⟨w3.heap.size,0,none⟩) 0 0 [] (by rfl) d9 (some ⟨b,y,none⟩) k c (m.pk.take k) (by rfl) (Xi (b1.below u (Q4 _)) (by omega)) (by unfold maxLen;omega) (by omega) ?_;intro A1 c1 v2 a1 a7 b2;rw[QQ,VZ]at a1;rw[QQ];have d3:=Q0 a1;have a5:=Q0 (ZY b2 (KE (Q4 _)) J);have u:=Q0 (ZQ u a7 (KE (Q4 _)) J);have J:=Q0 u.size;clear a1 a7 b2;refine i _ _ (E _ u) (fun v=> ?_);clear i v;simp only[Act.put,List.setIfInBounds_toArray,List.set_cons_zero,List.set_cons_succ];refine Y8 16 (by kernel_rfl) rfl (fun N i=> ?_);refine KS H6 JK (by rfl) _ _ _ (by rfl) 29 i0 _ 40 QM c4 b8 b5 c3 rfl (by omega) (A1) k c1 (Q9 X9 (m.pk.take k)) (by rfl) d3 (some ⟨b,y+ (k+1)*5,none⟩) (n- (k+1)) (c- (k+1)) (m.pk.drop (k+1)) (by rfl) (Fh (b1.below u (Q4 _)) (by omega)) (by unfold maxLen;omega) (by omega) ?_;intro A2 c2 v3 U a6 b0;rw[show k+ (n- (k+1))=n-1 by omega]at U;rw[show k+ (n- (k+1))=n-1 by omega];have e3:=Q0 U;have e6:=Q0 (ZY b0 a5 J);have u:=Q0 (ZQ u a6 a5 J);clear U a6 b0;refine i _ _ (E _ u) (fun v=> ?_);clear i v;simp only[Act.put,List.setIfInBounds_toArray,List.set_cons_zero,List.set_cons_succ];refine Y8 17 (by kernel_rfl) rfl (fun N i=> ?_);go_simp;refine i _ _ (E _ u) (fun v=> ?_);clear i v;refine Y8 18 (by kernel_rfl) rfl (fun N i=> ?_);go_simp;refine i _ _ (E _ u) (fun v=> ?_);clear i v;have e4:=f1.out _ u;have c6:=E.out _ u;refine YY (by kernel_rfl) rfl (fun N i=> ?_);go_simp;refine i _ _ (YU (by kernel_rfl) ?_ _);clear i e4 c6;go_wp2_with fail
    go_meet;exact⟨A2,c2,v3,by have h:=e3.out;unfold S3;rw[DB];exact h,u,e6,rfl⟩
   obtain⟨A2,c2,W,U,hb,ha,rfl⟩:=hcut;have e8:(S3 m.pk k).length=n-1:=by
    unfold S3;rw[Y9,T6,KK,HN.out];omega
   have e9:J2 W A2 (S3 m.pk k).length c2 29 5 (Q9 X9 (S3 m.pk k)):=by rw[e8];exact U
   obtain⟨own',a4,a3⟩:=f2.pkTo hb e9 ha;rw[e8]at a4 a3;have d8:=Q0 a4;have d0:=Q0 a3;clear U e9 a4 a3 D;go_wp2_with fail
   go_ret;have e1:UL m id=0:=by unfold UL;rw[Q3 c5,Q5 a9.out]
   have e2:N4 m id= {m with pk:=S3 m.pk k}:=by unfold N4;rw[Q3 c5.out,Q5 a9.out,g3.out]
   rw[e1,e2];exact⟨rfl,d8.to_ ((F8 f7).trans d0) HF⟩
  have d1:=X3 he;have f9:Hid (∀j (hj:j<m.pk.length),j<k+1->m.pk[j].id≠id):=Q0 (fun j hj h6=>by
   by_cases e:j=k
   ·subst e;rw[EO.out];exact he
   exact c0 j hj (by omega))
  have f8:=Q0 (HB.trans (((Q2 wr.heap.size wr).alloc (Q4 _) (.cells #[I O o.id,I O o.side,I O o.kind,I O o.price,I O o.qty] 29)).mono HB.size));clear he D;go_wp2_with fail
  go_roundg (n- (k+1))
  case measure=>omega
  exact⟨k+1,by omega,rfl,by go_num,f8,f9⟩
 obtain rfl:k=n:=by omega
 have h8: ¬(k:Int)< (k:Int):=by omega
 have a9:Hid (CZ m id=false):=Q0 (Jf3 (fun j hj=>c0 j hj (by have:=HN.out;omega)))
 have HB:=Q0 hB
 have a2:=Q0 a0
 have HC:=Q0 (Do wr R _ cs 7 AL L a0.bk (by have:=a0.few;omega) id)
 obtain⟨⟨i1,i2,i3,i4,i5⟩,e7⟩: ∃x,SR L id=x:=⟨_,rfl⟩
 obtain⟨ev,e5⟩:=exq (SP L id)
 rw[e7,e5,show X5 (⟨i1,i2,i3,i4,i5⟩:Q8)= .agg #[I O i1,I O i2,I O i3,I O i4,I O i5]from rfl]at HC
 have g2:=Q0 e5
 clear hB a0 e7 e5 c0
 go_wp2_with fail
 refine HC.mono ?_
 rintro e w4 ⟨rfl,ht⟩
 obtain⟨e1,e2,f0⟩:=Qd7 a2.twin (a2.twin.lists a2.few) id
 obtain⟨h7,h4,own',a4,a3⟩:=a2.bookTo ht f0 (by have h1:=Dt L (L.findIdx fun o=>o.id ==id);have:=a2.few;show(S3 L _).length<=100;omega)
 have d8:=Q0 a4
 have d0:=Q0 a3
 have f4:=Q0 e1
 clear ht e1 e2 f0 a4 a3 HC
 go_wp2_with fail
 go_ret
 have q1:UL m id=ev:=by
  unfold UL;rw[Q3 c5,Q3 (by rw[a9.out];decide),<-g2.out,<-f4.out]
  rfl
 have q2:N4 m id= {m with L1:=D1 m.L1 id,L2:=D1 m.L2 id}:=by unfold N4;rw[Q3 c5,Q3 (by rw[a9.out];decide)]
 rw[q1,q2]
 have C:Below w4.heap.size w4 (w4.alloc (.cells #[I O i1,I O i2,I O i3,I O i4,I O i5] 29)):=(Q2 _ _).alloc (Q4 _) _
 exact⟨rfl,(d8.to_ ((F8 HB).trans d0) HF).then_ C⟩
