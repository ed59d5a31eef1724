/- Parts. -/
import Derived.Test.YtnlngicnfegjgaaGreatDoorZq20
set_option linter.unusedVariables false
set_option maxRecDepth 100000
set_option maxHeartbeats 8000000
open Go.Proofs.Tryz
open Go.Value renaming int→I,pointer→IP
open Go.IntKind renaming i64→O
namespace Go.Proofs.YtnlngicnfegjgaaGreatDoor
open Go.RowKit
theorem Jc2 w b o a F M n r f H reg (hM:Z9 w b a F M n r f H reg)
  (hS:U3 M n f H) (a8:R9 o)
  (h:XW o=true) (hr:JH o=true) (hf:f o.id=none) (hn:n=100):
  Calls prog 93 #[IP (some ⟨b,0,none⟩),X5 o] w fun e w'=>e= .returned (U0 12)/\Below w.heap.size w w':=by
 obtain⟨hs,hi⟩:=GG.1 h
 obtain⟨mk,a7⟩:=exq (o.kind ==2)
 obtain⟨o',a1⟩:=exq (V3 o)
 have HM:=Q0 hM
 have HR:=Q0 (show H9 o'.price o.qty=true by rw[<-a1];exact hr)
 have HF:=Q0 hf
 have HK:=Q0 a7
 have HN:=Q0 hn
 have b8:=Q0 hs
 have HO:=Q0 a1
 have HI:=Q0 hi
 have c3:=Q0 hS
 have c2:=Q0 (show JJ o' by
  have hp:=DF.1 (show H9 o'.price o.qty=true by rw[<-a1];exact hr);rw[<-a1]at hp|-;obtain⟨f1,f2,f3,f4,f5⟩:=a8;exact⟨⟨f1,f2,f3,by unfold G8;omega,f5⟩,hi,⟨hp.1,hp.2.1⟩,⟨hp.2.2.1,hp.2.2.2⟩⟩)
 have B0:=J9 w 29 (J8 o)
 have b1:Below w.heap.size w (w.alloc (.cells (J8 o) 29)):=(Q2 _ w).alloc (Q4 _) _
 have N:=Q0 B0
 have a0:=Q0 b1
 unfold X5
 clear h hi hr hM hf hn hs hS a8 a1 a7 B0 b1
 go_enter DD,DA
 go_upto_region 1 with fail
 go_cut [25] (fun c1 wx=>c1= .bool false/\VJ w wx b a F M n r f H reg o)
 case first=>
  obtain⟨id,side,kind,c4,qty⟩:=o;have d1:decide (id<1)=false:=Z1 (by have:=HI.out;dsimp only at this;omega);rcases b8.out with h1|h1
  ·dsimp only at h1
   subst h1;go_wp2_with fail
   go_meet;exact⟨rfl,a0,HM.below a0,N⟩
  dsimp only at h1;subst h1;go_wp2_with fail
  go_meet;exact⟨rfl,a0,HM.below a0,N⟩
 obtain⟨rfl,j⟩:=hcut
 have v:=Q0 j
 obtain⟨E,y,C,J,D⟩:=Z6 j.2.2
 have xf:=J1 j.2.2 3
 have t1:=HK.out
 clear j
 go_upto_if 30 with fail
 go_cut [31] (fun c5 wx=>VJ w wx b a F M n r f H reg o')
 case first=>
  cases mk with
  |true=>
   have t2:=Q0 t1;clear t1;go_wp2_with fail
   go_meet;rw[<-HO.out];exact WJ HM v t2
  |false=>
   have t2:=Q0 t1;clear t1;go_wp2_with fail
   go_meet;rw[<-HO.out,WC t2.out];exact v
 clear E y C J D xf v N a0
 have e4:o'.qty=o.qty:=by rw[<-HO.out];rfl
 have e0:o'.id=o.id:=by rw[<-HO.out];rfl
 have e1:o'.side=o.side:=by rw[<-HO.out];rfl
 have e2:o'.kind=o.kind:=by rw[<-HO.out];rfl
 have v:=Q0 hcut
 obtain⟨E,y,C,J,D⟩:=Z6 hcut.2.2
 rw[e4]at D
 rw[e0]at E
 rw[e1]at y
 rw[e2]at C
 clear t1 hcut
 have E4:=Q0 e4
 have E0:=Q0 e0
 have E1:=Q0 e1
 have E2:=Q0 e2
 clear e4 e0 e1 e2
 go_wp2_with fail
 refine(CS _ _ _).mono ?_
 rintro e w1 ⟨rfl,u⟩
 rw[HR.out]
 clear E y C J D
 have j:=FQ v u
 clear v HR
 have v:=Q0 j
 have a4:=J5 j.2.2
 have b0:=J5 j.2.1.blk
 obtain⟨E,y,C,J,D⟩:=Z6 j.2.2
 obtain⟨y0,y1,y2,y3,y4,y5⟩:=j.2.1.cells
 rw[E4.out]at D
 rw[E0.out]at E
 rw[E1.out]at y
 rw[E2.out]at C
 have b9:=CM (w:=(w1.alloc (.cells #[I O 0,I O 0,I O 0,I O 0,.bool false] 188)).drew) (j.2.1.mp.alloc _) HF
 have c0:=CM (w:=w1.drew) j.2.1.mp HF
 clear j u
 go_upto_region 8 with fail
 go_cut [7] (fun s7 wx=>s7= .bool false/\VJ w wx b a F M n r f H reg o')
 case first=>
  clear y0 y2 y3 y4 y5 y C J D
  as_aux_lemma=>
  go_region_law (fail)
  all_goals go_wp2_with fail
  all_goals go_meet
  all_goals exact⟨rfl,FQ v (J3 ((Q2 _ w1).alloc (Q4 _) _))⟩
 clear E y C J D y0 y1 y2 y3 y4 y5 b9 c0 a4 b0 v
 obtain⟨rfl,j⟩:=hcut
 have v:=Q0 j
 have a4:=J5 j.2.2
 have b0:=J5 j.2.1.blk
 have a6:X5 o'= .agg #[I O o.id,I O o.side,I O o.kind,I O o'.price,I O o.qty]:=by unfold X5;rw[E0.out,E1.out,E2.out,E4.out]
 have a2: ∀W,Below wc.heap.size wc W->Calls prog 130 #[IP (some ⟨a,0,none⟩),.agg #[I O o.id,I O o.side,I O o.kind,I O o'.price,I O o.qty]] W fun e w'=>e= .returned (.tuple #[.agg #[I O 0,I O 0],.iface 52 (I O 12)])/\Below W.heap.size W w':=by
  intro W hW;rw[<-a6];refine(WW (j.2.1.ar.below hW) (by omega) o').mono ?_;rintro e w' (⟨_,h2,h3⟩|⟨h1,_⟩)
  ·exact⟨h2,h3⟩
  have:=HN.out;omega
 have a9:=Q0 (a2 ((wc.alloc (.cells #[I O 0,I O 0] 186)).drew) (J3 ((Q2 _ _).alloc (Q4 _) _)))
 have b5:=Q0 (a2 wc.drew (J3 (Q2 _ _)))
 have a5:Q1 (wc.alloc (.cells #[I O 0,I O 0] 186)).drew wc.heap.size 186 #[I O 0,I O 0]:=Z2 (J9 wc _ _)
 have N:=Q0 a5
 have a3:=Q0 (show Below wc.heap.size wc (wc.alloc (.cells #[I O 0,I O 0] 186)).drew from J3 ((Q2 _ _).alloc (Q4 _) _))
 have b2:=Q0 (show Below wc.heap.size wc wc.drew from J3 (Q2 _ _))
 obtain⟨E,y,C,J,D⟩:=Z6 j.2.2
 have y0:=j.2.1.cells.1
 rw[E4.out]at D
 rw[E0.out]at E
 rw[E1.out]at y
 rw[E2.out]at C
 clear j a2 a6 a5
 go_upto_region 11 with fail
 go_cut [9] (fun s9 wx=>s9= .iface 52 (I O 12)/\Below wc.heap.size wc wx)
 case first=>
  go_region_with (first|(go_at_call 130;refine a9.mono ?_;rintro e w5 ⟨rfl,u⟩;have U:=J4 N u;have z0:w5.cell? ⟨wc.heap.size,0,none⟩=some (I O 0):=(by rw[J0 U];rfl);have z1:w5.cell? ⟨wc.heap.size,1,none⟩=some (I O 0):=(by rw[J0 U];rfl);have f0:=J1 U 0;have f1:=J1 U 1;have Z:=Q0 (a3.trans (u.mono a3.size));clear u U)|(go_at_call 130;refine b5.mono ?_;rintro e w5 ⟨rfl,u⟩;have Z:=Q0 (b2.trans (u.mono b2.size));clear u))
  all_goals go_wp2_with fail
  all_goals go_meet
  all_goals
   refine⟨rfl, ?_⟩
   first
    |exact Z.trans ((RS w5 wc.heap.size 0 1 _ _).below (B:=wc.heap.size) (fun i e=>by have e':i=wc.heap.size:=e;omega) Z.size)
    |exact Z.alloc Z.size _
 obtain⟨rfl,u⟩:=hcut
 clear E y C J D y0 a9 b5
 have HB:=Q0 (v.1.trans (u.mono v.1.size))
 clear u
 go_wp2_with fail
 go_ret
 exact⟨rfl,HB⟩
set_option linter.unusedSimpArgs false
structure JL (w:World) (B:Nat) (t:TypeId) (cs:Array Value) (o0:Nat) (A:Option Addr) (L:List Q8):Prop where
 blk:Q1 w B t cs
 at_: ∃c,cs[o0]?=some (.slice A L.length c)/\L.length<=c/\c<=maxLen
 els:V4 w X9 5 A L.length L
 ne:Q7 A≠some B
 lt: ∀g,Q7 A=some g->g<w.heap.size
def JV (w w':World) (B:Nat) (t:TypeId) (cs:Array Value) (o0:Nat) (A:Option Addr) (L:List Q8):Prop:=
 ∃A' c',JL w' B t (cs.setIfInBounds o0 (.slice A' L.length c')) o0 A' L/\Q6 (fun i=>i=B) w w'/\ ∀g,Q7 A'=some g->Q7 A=some g\/w.heap.size<=g
section
variable {w w':World} {B:Nat} {t:TypeId} {cs:Array Value} {o0:Nat} {A:Option Addr} {L:List Q8}
theorem JL.below (h:JL w B t cs o0 A L) (i:Below w.heap.size w w'):JL w' B t cs o0 A L:=
 ⟨J4 h.blk i,h.at_,h.els.below i (Q4 _),h.ne,fun g j=>T8 (h.lt g j) i.size⟩
theorem JL.keeps {S} (h:JL w B t cs o0 A L) (hk:Q6 S w w') (h1: ¬S B) (h2: ∀g,Q7 A=some g-> ¬S g):JL w' B t cs o0 A L:=
 ⟨X0 h.blk hk h1,h.at_,h.els.keeps hk h2,h.ne,fun g i=>T8 (h.lt g i) hk.size⟩
theorem Cl {cs:Array Value} {o v} (h:cs[o]?=some v):cs.setIfInBounds o v=cs:=by
 apply Array.ext'
 rw[Array.toList_setIfInBounds]
 obtain⟨j,i⟩:=PU.1 h
 rw[<-i,<-Array.getElem_toList]
 exact List.set_getElem_self _
theorem JV.same (h:JL w B t cs o0 A L) (i:Below w.heap.size w w'):JV w w' B t cs o0 A L:=by
 obtain⟨c,u,-⟩:=h.at_
 exact⟨A,c,by rw[Cl u];exact h.below i,U1 i _,fun g j=> .inl j⟩
abbrev LM:=@JV.same
theorem JL.cell (h:JL w B t cs o0 A L): ∃c,w.cell? ⟨B,o0,none⟩=some (.slice A L.length c)/\L.length<=c/\c<=maxLen:=by
 obtain⟨c,i,h1⟩:=h.at_
 exact⟨c,by rw[J0 h.blk];exact i,h1⟩
theorem JL.blt (h:JL w B t cs o0 A L):B<w.heap.size:=J5 h.blk
theorem J2.le_cap {w A n c sz t xs} (h:J2 w A n c t sz xs):n<=c/\c<=maxLen:=by
 rcases h.2 with⟨h1,h2⟩|⟨g,cap,v,i,-,-,j,u,-,-⟩
 ·cases h1;exact⟨by omega,by unfold maxLen;omega⟩
 cases i;exact⟨j,u⟩
theorem JL.put (h:JL w B t cs o0 A L) {w1} (v:Below w.heap.size w w1) {A' n' c' L' t'} (u:J2 w1 A' n' c' t' 5 (Q9 X9 L')) (y: ∀g,Q7 A'=some g->w.heap.size<=g):
  JV w (w1.setCell ⟨B,o0,none⟩ (.slice A' n' c')) B t cs o0 A L':=by
 have J:L'.length=n':=YW H6 (by omega) u
 subst J
 have U:=h.blt
 have C: ∀g,Q7 A'=some g->g≠B:=fun g j=>by have:=y g j;omega
 have E:J2 (w1.setCell ⟨B,o0,none⟩ (.slice A' L'.length c')) A' L'.length c' t' 5 (Q9 X9 L'):=J2.keeps u (V2 w1 ⟨B,o0,none⟩ _) (fun g j e=>C g j e)
 obtain⟨c,N,-⟩:=h.at_
 have D:o0<cs.size:=(PU.1 N).1
 refine⟨A',c',⟨J7 (J4 h.blk v) o0 _,⟨c',by simp[D],J2.le_cap u⟩,VV H6 (by omega) E,fun e=>C B e rfl,fun g j=> ?_⟩,(U1 v _).trans (V2 w1 ⟨B,o0,none⟩ _) (fun i e=> .inl e),fun g j=> .inr (y g j)⟩
 have:=u.lt j
 simpa using this
end
def MG (L:List Q8) (id:Int):Int:=if L.findIdx (fun o=>o.id ==id)<L.length then(L.findIdx (fun o=>o.id ==id):Int)else -1
theorem Pw {L:List Q8} {id k} (hk:k<L.length) (h1:L[k].id=id) (h2: ∀j (i:j<L.length),j<k->L[j].id≠id):L.findIdx (fun o=>o.id ==id)=k:=by
 have h:L.findIdx (fun o=>o.id ==id)=k:=(List.findIdx_eq hk).2 ⟨by simp[h1],fun j i=>by simpa using h2 j (by omega) i⟩
 exact h
theorem Jc3 {L:List Q8} {id} (h: ∀j (i:j<L.length),L[j].id≠id):L.findIdx (fun o=>o.id ==id)=L.length:=by
 rw[List.findIdx_eq_length]
 intro o u
 obtain⟨j,i,rfl⟩:=XG.1 u
 simpa using h j i
theorem Un w B t cs o0 A L (h:JL w B t cs o0 A L) (hn:L.length<=100000) id:
  Calls prog 105 #[IP (some ⟨B,o0,none⟩),I O id] w fun e w'=>e= .returned (I O (MG L id))/\Below w.heap.size w w':=by
 obtain⟨c,hc,-⟩:=h.cell
 obtain⟨n,U⟩:=exq L.length
 have E:=Q0 h.els
 rw[U]at hc E
 have HN:=Q0 U
 have a6:n<=100000:=by omega
 clear h hn U
 go_enter func105,ntmps105
 go_wp2_with fail
 go_loopg [12] n (fun gg a1 wx=> ∃k,k<=n/\gg=n-k/\a1=I O k/\Below w.heap.size w wx/\Hid (∀j (i:j<L.length),j<k->L[j].id≠id))
 case atStart=>exact⟨0,V5 _,rfl,rfl,Q2 _ _,Q0 fun j i h=>absurd h (by omega)⟩
 obtain⟨k,hk,rfl,rfl,u,N⟩:=hrel
 by_cases a3:k<n
 ·have J:k<L.length:=by have:=HN.out;omega
  obtain⟨b,y,hA⟩: ∃b y,A=some ⟨b,y,none⟩:=by obtain⟨b,y,h1,_⟩:=E.2 (by omega);exact⟨b,y,h1⟩
  subst hA;obtain⟨x0,x1,x2,x3,x4⟩:=CW (E.below u (Q4 _)) J;have a2:(k:Int)< (n:Int):=by omega
  have a4:(0:Int)<=(k:Int):=by omega
  obtain⟨o,Z⟩: ∃o,Hid (L[k]=o):=⟨_,Q0 rfl⟩;rw[Z.out]at x0 x1 x2 x3 x4;have C:=Q0 (u.alloc u.size (.cells (J8 o) 29));clear u
  by_cases v:o.id=id
  ·have d1:=Z0 v
   have D:Hid (MG L id=k):=Q0 (by
    have e:=Pw J (by rw[Z.out];exact v) N;unfold MG;rw[e,Q5 J])
   clear v;go_wp2_with fail
   go_ret;exact⟨T3 (by rw[D.out]),C⟩
  have d1:=X3 v;have a0:Hid (∀j (i:j<L.length),j<k+1->L[j].id≠id):=Q0 (fun j i a5=>by
   by_cases e:j=k
   ·subst e;rw[Z.out];exact v
   exact N j i (by omega))
  clear v;go_wp2_with fail
  go_roundg (n- (k+1))
  case measure=>omega
  exact⟨k+1,by omega,rfl,by go_num,C,a0⟩
 obtain rfl:n=k:=by omega
 have a2: ¬(n:Int)< (n:Int):=by omega
 have C:=Q0 u
 have D:Hid (MG L id= -1):=Q0 (by
  have e:=Jc3 (L:=L) (id:=id) (fun j i=>N j i (by have:=HN.out;omega));unfold MG;rw[e,Q3 (by omega)])
 clear u
 go_wp2_with fail
 go_ret
 exact⟨T3 (by rw[D.out]),C⟩
theorem WK L id:(MG L id= -1/\Y0 L id=none)\/ ∃(k:Nat) (hk:k<L.length),MG L id=k/\L.findIdx (fun o=>o.id ==id)=k/\L[k].id=id/\Y0 L id=some L[k]:=by
 unfold MG Y0
 by_cases h:L.findIdx (fun o=>o.id ==id)<L.length
 ·right
  refine⟨_,h,Q5 h,rfl, ?_, ?_⟩
  ·have:=List.findIdx_getElem (xs:=L) (p:=fun o=>o.id ==id) (w:=h)
   simpa using this
  rw[List.find?_eq_getElem?_findIdx];exact KP h
 left
 refine⟨Q3 h, ?_⟩
 rw[List.find?_eq_getElem?_findIdx]
 exact DV (by omega)
theorem Sl {P:Program} {j:Func} {p u:Tmp} {i:TypeId} (h:j.results= #[.cell p i,.tmp u]) (tmps:Array Value) (w:World) (g:Nat) (t:TypeId) (cs:Array Value) (v:Value) (fr:Nat×Nat) (d:TypeDesc)
  (hp:tmps.getD p undef= IP (some ⟨g,0,none⟩)) (D:tmps.getD u undef=v) (J:w.heap[g]?=some (.cells cs t fr))
  (N:P.underlying i=some d) (E:(match d with| .struct _| .array _ _=>true|_=>false)=true) (U:(P.info? i).map (·.size)=some cs.size):(results j tmps).run P w= .ok (.tuple #[.agg cs,v]) w:=by
 have y:tmps[p]?.getD undef= IP (some ⟨g,0,none⟩):=by simpa using hp
 have C:tmps[u]?.getD undef=v:=by simpa using D
 simp[results,h,y,C,asAddr,run_loadVar_row w g t i cs fr d J N E U,Sem.run_bind,Result.andThen]
theorem Ms {fn} (y:fn.results= #[.cell 4 29,.tmp 5]) {w a Q cs v} g (u:cs.size=5) (hp:a.tmps.getD 4 undef= IP (some ⟨g,0,none⟩)) (i:a.tmps.getD 5 undef=v) (C:a.defers= [])
  (j:Q1 w g 29 cs) (h:Q (.returned (.tuple #[.agg cs,v])) w):bodyPost prog fn Q .ret a w:=
 P4 (Sl y a.tmps w g 29 cs v (0,0) _ hp i j PF rfl (by rw[u];show(prog.info? 29).map (·.size)=some 5;kernel_rfl)) C h
def SP (L:List Q8) (id:Int):Int:=if(Y0 L id).isSome=true then 0 else 7
def SR (L:List Q8) (id:Int):Q8:=(Y0 L id).getD Y3
theorem Ro {w g t a b c d e} (h:Q1 w g t #[a,b,c,d,e]):w.cell? ⟨g,0,none⟩=some a/\w.cell? ⟨g,1,none⟩=some b/\w.cell? ⟨g,2,none⟩=some c/\w.cell? ⟨g,3,none⟩=some d/\w.cell? ⟨g,4,none⟩=some e:=
 ⟨by rw[J0 h];rfl,by rw[J0 h];rfl,by rw[J0 h];rfl,by rw[J0 h];rfl,by rw[J0 h];rfl⟩
def R7 (p s:Int):Bool:=(decide (1<=p) &&decide (p<=1000000)) && (decide (0<=s) &&decide (s<=10000))
theorem WZ {p s}:R7 p s=true↔1<=p/\p<=1000000/\0<=s/\s<=10000:=by simp[R7,and_assoc]
def ZV (p s:Int):Int:=if R7 p s=true then Kz p s else 0
def ZU (p s:Int):Int:=if R7 p s=true then Kq p s else 0
def UR (p s:Int):Int:=if R7 p s=true then 0 else 2
theorem NC p s w:Calls prog 35 #[I O p,I O s] w fun e w'=>
  e= .returned (.tuple #[I O (ZV p s),I O (ZU p s),U0 (UR p s)])/\Below w.heap.size w w':=by
 by_cases h:R7 p s=true
 ·obtain⟨h1,h2,j,u⟩:=WZ.1 h
  refine(Ji7 p s w h1 h2 j u).mono ?_;rintro e w' ⟨rfl,i⟩;exact⟨by rw[ZV,ZU,UR,Q5 h,Q5 h,Q5 h];rfl,i⟩
 refine(Jc1 p s w (fun v=>h (WZ.2 v))).mono ?_
 rintro e w' ⟨rfl,i⟩
 exact⟨by rw[ZV,ZU,UR,Q3 h,Q3 h,Q3 h];rfl,i⟩
attribute [local go_sem↓] Go.wp_at_zero Go.wp_at_succ
def XN (w:World) (b:Nat) (st dy an la:Int):Prop:=Q1 w b 175 #[I O st,I O dy,I O an,I O la]
section
variable {w:World} {b:Nat} {st dy an la:Int} (h:XN w b st dy an la)
include h
theorem XN.c0:w.cell? ⟨b,0,none⟩=some (I O st):=by rw[J0 h];rfl
theorem XN.c1:w.cell? ⟨b,1,none⟩=some (I O dy):=by rw[J0 h];rfl
theorem XN.c2:w.cell? ⟨b,2,none⟩=some (I O an):=by rw[J0 h];rfl
theorem XN.c3:w.cell? ⟨b,3,none⟩=some (I O la):=by rw[J0 h];rfl
end
theorem Qj4 b st dy an la w (h:XN w b st dy an la):Calls prog 77 #[IP (some ⟨b,0,none⟩)] w fun e w'=>e= .returned (I O an)/\w=w':=by
 have c:=h.c2
 go_enter func77,ntmps77
 go_wp2
 go_ret
 exact⟨rfl,rfl⟩
theorem RG b st dy an la w (h:XN w b st dy an la):Calls prog 78 #[IP (some ⟨b,0,none⟩)] w fun e w'=>e= .returned (I O la)/\w=w':=by
 have c:=h.c3
 go_enter func78,ntmps78
 go_wp2
 go_ret
 exact⟨rfl,rfl⟩
theorem Qj5 b st dy an la w (h:XN w b st dy an la):Calls prog 128 #[IP (some ⟨b,0,none⟩)] w fun e w'=>
  e= .returned (.tuple #[I O (ZV an st),I O (ZU an st)])/\Below w.heap.size w w':=by
 have u:=h.c0
 have j:=h.c2
 go_enter func128,ntmps128
 go_wp2
 go_region_held3 (fun w'=>w'.cell? ⟨b,0,none⟩=some (I O st)/\w'.cell? ⟨b,2,none⟩=some (I O an))
  (first|go_keep|exact⟨(i.cell (p:=⟨b,0,none⟩) (J5 h)).trans u,(i.cell (p:=⟨b,2,none⟩) (J5 h)).trans j⟩)
  (first|(go_at_call 35;refine(NC _ _ _).mono ?_;rintro e w1 ⟨rfl,i⟩))
 go_wp2
 go_ret2
 exact⟨rfl,(Q2 _ w).drew.trans i⟩
theorem Qc8 b st dy an la w (h:XN w b st dy an la):Calls prog 132 #[IP (some ⟨b,0,none⟩)] w fun e w'=>
  e= .returned (.tuple #[I O (ZV la dy),I O (ZU la dy)])/\Below w.heap.size w w':=by
 have j:=h.c1
 have u:=h.c3
 go_enter func132,ntmps132
 go_wp2
 go_region_held3 (fun w'=>w'.cell? ⟨b,1,none⟩=some (I O dy)/\w'.cell? ⟨b,3,none⟩=some (I O la))
  (first|go_keep|exact⟨(i.cell (p:=⟨b,1,none⟩) (J5 h)).trans j,(i.cell (p:=⟨b,3,none⟩) (J5 h)).trans u⟩)
  (first|(go_at_call 35;refine(NC _ _ _).mono ?_;rintro e w1 ⟨rfl,i⟩))
 go_wp2
 go_ret2
 exact⟨rfl,(Q2 _ w).drew.trans i⟩
def Qr (p lo hi:Int):Bool:=decide (lo<=p) &&decide (p<=hi)
def US (st an p:Int):Bool:=Qr p (ZV an st) (ZU an st)
def ZK (st dy an la p:Int):Bool:=US st an p &&Qr p (ZV la dy) (ZU la dy)
theorem Mt b st dy an la p w (h:XN w b st dy an la):Calls prog 90 #[IP (some ⟨b,0,none⟩),I O p] w fun e w'=>
  e= .returned (.bool (US st an p))/\Below w.heap.size w w':=by
 unfold US Qr
 go_enter func90,ntmps90
 go_wp2_with fail
 refine(Qj5 b st dy an la w h).mono ?_
 rintro e w1 ⟨rfl,j⟩
 by_cases h1:ZV an st<=p
 ·have i:=Z5 h1
  have E:=Q0 (show decide (p<=ZU an st)=(decide (ZV an st<=p) &&decide (p<=ZU an st)) by rw[i];rfl);go_wp2;go_ret;exact⟨T2 E,j⟩
 have i:=Z1 h1
 have E:=Q0 (show false=(decide (ZV an st<=p) &&decide (p<=ZU an st)) by rw[i];rfl)
 clear h1
 go_wp2
 go_ret
 exact⟨T2 E,j⟩
theorem Qj6 b st dy an la p w (h:XN w b st dy an la):Calls prog 95 #[IP (some ⟨b,0,none⟩),I O p] w fun e w'=>
  e= .returned (.bool (ZK st dy an la p))/\Below w.heap.size w w':=by
 unfold ZK Qr
 go_enter func95,ntmps95
 go_wp2_with fail
 refine(Qc8 b st dy an la w h).mono ?_
 rintro e w1 ⟨rfl,y⟩
 go_wp2_with fail
 refine(Mt b st dy an la p w1 (J4 h y)).mono ?_
 rintro e w2 ⟨rfl,C⟩
 have u:Below w.heap.size w w2:=y.trans (C.mono y.size)
 by_cases i:US st an p=true
 ·by_cases h1:ZV la dy<=p
  ·have j:=Z5 h1
   have E:=Q0 (show decide (p<=ZU la dy)=(US st an p && (decide (ZV la dy<=p) &&decide (p<=ZU la dy))) by rw[j,i];rfl);rw[i];clear i;go_wp2;go_ret;exact⟨T2 E,u⟩
  have j:=Z1 h1;have E:=Q0 (show false=(US st an p && (decide (ZV la dy<=p) &&decide (p<=ZU la dy))) by rw[j,i];rfl);rw[i];clear h1 i;go_wp2;go_ret;exact⟨T2 E,u⟩
 have v:US st an p=false:=by simpa using i
 have E:=Q0 (show false=(US st an p && (decide (ZV la dy<=p) &&decide (p<=ZU la dy))) by rw[v];rfl)
 rw[v]
 clear i v
 go_wp2
 go_ret
 exact⟨T2 E,u⟩
theorem Uo b st dy an la p w (h:XN w b st dy an la):Calls prog 97 #[IP (some ⟨b,0,none⟩),I O p] w fun e w'=>
  e= .returned (U0 (if H9 p 1=true then 0 else 2))/\XN w' b st dy an (if H9 p 1=true then p else la)/\Q6 (fun i=>i=b) w w':=by
 by_cases j:H9 p 1=true
 ·rw[Q5 j,Q5 j,BJ]
  have v:=Q0 j;clear j;go_enter func97,ntmps97
  go_wp2_with fail
  refine(CS p 1 w).mono ?_;rintro e w1 ⟨rfl,u⟩;rw[v.out];have h1:XN w1 b st dy an la:=J4 h u;have D:=h1.c3;have C:=J1 h1 3;go_wp2;go_ret;exact⟨rfl,J7 h1 3 _,Q6.after u (V2 _ ⟨b,3,none⟩ _)⟩
 have y:H9 p 1=false:=by simpa using j
 rw[Q3 j,Q3 j,RE]
 have v:=Q0 y
 clear j y
 go_enter func97,ntmps97
 go_wp2_with fail
 refine(CS p 1 w).mono ?_
 rintro e w1 ⟨rfl,u⟩
 rw[v.out]
 go_wp2
 go_ret
 exact⟨rfl,J4 h u,U1 u _⟩
theorem Ji8 b st dy an la p w (h:XN w b st dy an la):Calls prog 87 #[IP (some ⟨b,0,none⟩),I O p] w fun e w'=>
  e= .returned (U0 (if H9 p 1=true then 0 else 2))/\XN w' b st dy (if H9 p 1=true then p else an) (if H9 p 1=true then p else la)/\Q6 (fun i=>i=b) w w':=by
 by_cases j:H9 p 1=true
 ·rw[Q5 j,Q5 j,Q5 j,BJ]
  go_enter func87,ntmps87
  go_wp2_with fail
  refine(Uo b st dy an la p w h).mono ?_;rintro e w1 ⟨rfl,h1,u⟩;rw[Q5 j]at h1;rw[Q5 j,BJ];have v:=J1 h1 2;have y:=XN.c2 h1;clear j;go_wp2;go_ret;exact⟨rfl,J7 h1 2 _,u.trans (V2 _ ⟨b,2,none⟩ _) (fun i h=> .inl h)⟩
 rw[Q3 j,Q3 j,Q3 j,RE]
 go_enter func87,ntmps87
 go_wp2_with fail
 refine(Uo b st dy an la p w h).mono ?_
 rintro e w1 ⟨rfl,h1,u⟩
 rw[Q3 j]at h1
 rw[Q3 j,RE]
 clear j
 go_wp2
 go_ret
 exact⟨rfl,h1,u⟩
theorem Wn st dy p w:Calls prog 51 #[I O st,I O dy,I O p] w fun e w'=>
  Below w.heap.size w w'/\((R7 p st &&R7 p dy)=true/\(∃b,w.heap.size<=b/\e= .returned (.tuple #[IP (some ⟨b,0,none⟩),.nilIface])/\XN w' b st dy p p)\/
   (R7 p st &&R7 p dy)=false/\e= .returned (.tuple #[.pointer none,U0 2])):=by
 have N: ∀w,(Instr.index 91 (.agg #[I O st,I O dy]) (I O 0)).run prog w= .ok (I O st) w:=fun _=>by kernel_rfl
 have U: ∀w,(Instr.index 91 (.agg #[I O st,I O dy]) (I O 1)).run prog w= .ok (I O dy) w:=fun _=>by kernel_rfl
 by_cases h1:R7 p st=true
 ·by_cases h2:R7 p dy=true
  ·have i:UR p st=0:=by rw[UR,Q5 h1]
   have u:UR p dy=0:=by rw[UR,Q5 h2]
   have H:=Q0 (show(R7 p st &&R7 p dy)=true by rw[h1,h2];rfl);have y:=Q0 i;have C:=Q0 u;clear h1 h2 i u;go_enter func51,ntmps51
   go_wp2;refine LF 3 ?_;rw[CN];go_wp2_with fail
   refine(NC _ _ _).mono ?_;rintro e w1 ⟨rfl,j⟩;rw[y.out,BJ];go_wp2;rw[CN];go_wp2_with fail
   refine(NC _ _ _).mono ?_;rintro e w2 ⟨rfl,D⟩;rw[C.out,BJ];go_wp2;rw[CN];go_wp2;go_ret2;have v:Below w.heap.size w w2:=j.trans (D.mono j.size);exact⟨v.alloc v.size _,.inl ⟨H,_,v.size,rfl,J9 _ _ _⟩⟩
  have E:R7 p dy=false:=by simpa using h2
  have i:UR p st=0:=by rw[UR,Q5 h1]
  have u:UR p dy=2:=by rw[UR,Q3 h2]
  have H:=Q0 (show(R7 p st &&R7 p dy)=false by rw[h1,E];rfl);have y:=Q0 i;have C:=Q0 u;clear h1 h2 E i u;go_enter func51,ntmps51
  go_wp2;refine LF 2 ?_;rw[CN];go_wp2_with fail
  refine(NC _ _ _).mono ?_;rintro e w1 ⟨rfl,j⟩;rw[y.out,BJ];go_wp2;rw[CN];go_wp2_with fail
  refine(NC _ _ _).mono ?_;rintro e w2 ⟨rfl,D⟩;rw[C.out,RE];go_wp2;go_ret2;have v:Below w.heap.size w w2:=j.trans (D.mono j.size);exact⟨v,.inr ⟨H,rfl⟩⟩
 have J:R7 p st=false:=by simpa using h1
 have i:UR p st=2:=by rw[UR,Q3 h1]
 have H:=Q0 (show(R7 p st &&R7 p dy)=false by rw[J];rfl)
 have y:=Q0 i
 clear h1 J i
 go_enter func51,ntmps51
 go_wp2
 refine LF 1 ?_
 rw[CN]
 go_wp2_with fail
 refine(NC _ _ _).mono ?_
 rintro e w1 ⟨rfl,j⟩
 rw[y.out,RE]
 go_wp2
 go_ret2
 exact⟨j,.inr ⟨H,rfl⟩⟩
theorem NS n i j w:Calls prog 55 #[I O n,I O i,I O j] w fun e w'=>e= .returned (.bool (decide (i<=n) &&decide (n<=j)))/\w=w':=by
 by_cases h:i<=n
 ·go_enter NU,NK
  go_wp2;go_ret;exact⟨T2 (by simp[h]),rfl⟩
 have u:decide (i<=n)=false:=by simpa using h
 go_enter NU,NK
 go_wp2
 go_ret
 exact⟨T2 (by simp),rfl⟩
theorem DG p q w:Calls prog 54 #[I O p,I O q] w fun e w'=>e= .returned (.bool (H9 p q))/\w=w':=by
 by_cases h1:(decide (1<=p) &&decide (p<=1000000))=true
 ·have i:H9 p q=(decide (1<=q) &&decide (q<=1000000)):=by rw[H9,h1];rfl
  rw[i];have u:=Q0 h1;clear h1 i;go_enter func54,ntmps54
  go_wp2_with fail
  refine(NS _ _ _ _).mono ?_;rintro e w' ⟨rfl,rfl⟩;rw[u.out];go_wp2_with fail
  refine(NS _ _ _ _).mono ?_;rintro e w' ⟨rfl,rfl⟩;go_wp2;go_ret;exact⟨rfl,rfl⟩
 have j:(decide (1<=p) &&decide (p<=1000000))=false:=by simpa using h1
 have i:H9 p q=false:=by rw[H9,j];rfl
 rw[i]
 have u:=Q0 j
 clear h1 j i
 go_enter func54,ntmps54
 go_wp2_with fail
 refine(NS _ _ _ _).mono ?_
 rintro e w' ⟨rfl,rfl⟩
 rw[u.out]
 go_wp2
 go_ret
 exact⟨rfl,rfl⟩
theorem Hb {p}:H9 p 1=(decide (1<=p) &&decide (p<=1000000)):=by simp[H9]
theorem Up p s w:Calls prog 107 #[I O p,I O s] w fun e w'=>
  e= .returned (.tuple #[I O (ZV p s),I O (ZU p s),I O (UR p s)])/\w=w':=by
 by_cases h1:H9 p 1=true
 ·by_cases h2:(decide (0<=s) &&decide (s<=10000))=true
  ·have i:R7 p s=true:=by rw[R7,<-Hb,h1,h2];rfl
   obtain⟨U,D,C,E⟩:=WZ.1 i;rw[ZV,ZU,UR,Q5 i,Q5 i,Q5 i];have j:=Q0 h1;have v:=Q0 h2;clear h1 h2 i;have N:0<=p*s:=Int.mul_nonneg (by omega) C;have J:p*s<=10000000000:=GK (Int.mul_le_mul D E C (by omega)) (by omega);go_enter func107,ntmps107
   go_wp2_with fail
   refine(DG _ _ _).mono ?_;rintro e w' ⟨rfl,rfl⟩;rw[j.out];go_wp2_with fail
   refine(NS _ _ _ _).mono ?_;rintro e w' ⟨rfl,rfl⟩;rw[v.out];go_wp2
   all_goals
    go_ret3;exact⟨Nf (by unfold Kz;omega) (by unfold Kq;omega),rfl⟩
  have u:(decide (0<=s) &&decide (s<=10000))=false:=by simpa using h2
  have i: ¬R7 p s=true:=by rw[R7,u];simp
  rw[ZV,ZU,UR,Q3 i,Q3 i,Q3 i];have j:=Q0 h1;have v:=Q0 u;clear h1 h2 u i;go_enter func107,ntmps107
  go_wp2_with fail
  refine(DG _ _ _).mono ?_;rintro e w' ⟨rfl,rfl⟩;rw[j.out];go_wp2_with fail
  refine(NS _ _ _ _).mono ?_;rintro e w' ⟨rfl,rfl⟩;rw[v.out];go_wp2;go_ret3;exact⟨rfl,rfl⟩
 have y:H9 p 1=false:=by simpa using h1
 have i: ¬R7 p s=true:=by rw[R7,<-Hb,y];simp
 rw[ZV,ZU,UR,Q3 i,Q3 i,Q3 i]
 have j:=Q0 y
 clear h1 y i
 go_enter func107,ntmps107
 go_wp2_with fail
 refine(DG _ _ _).mono ?_
 rintro e w' ⟨rfl,rfl⟩
 rw[j.out]
 go_wp2
 go_ret3
 exact⟨rfl,rfl⟩
