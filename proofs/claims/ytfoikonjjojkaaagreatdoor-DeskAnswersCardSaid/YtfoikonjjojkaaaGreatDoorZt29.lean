/- Parts. -/
import Derived.Test.YtfoikonjjojkaaaGreatDoorZt28
import Derived.Test.YtfoikonjjojkaaaGreatDoorZt25
set_option linter.unusedVariables false
set_option maxRecDepth 100000
set_option maxHeartbeats 8000000
open Go.Proofs.Tryz
open Go.Value renaming int→I,pointer→IP
open Go.IntKind renaming i64→O
namespace Go.Proofs.YtfoikonjjojkaaaGreatDoor
open Go Go.RowKit
structure ZG(w:World)(h:Nat)(G:Nat->Prop)(k:Nat)(s:DS)(A:Option Addr)(n0:Nat)(ws:List ByteArray)(ar:Int)(l:List Int):Prop where
 desk:JP w h G k s
 glob:QH w
 size:12<=w.heap.size
 gs:∀i,G i->12<=i
 nums:D6 ws ar=some l
 cells:QB w A (l.map YL)
 len:l.length=n0
 k:k<=100000
 far:∀i,X5 A=some i->i≠h
def VH(w:World)(h:Nat)(G:Nat->Prop)(k:Nat)(r:DS×XJ)(e:Ending)(w':World):Prop:=
 ∃t n,e=.returned (.tuple #[.string t,I O n])/\r.2=JQ n t.data.toList/\t.size<=10000000000/\V3 n/\EK w w' h G (k+1) r.1
section
variable {w w':World} {h k n0:Nat} {G:Nat->Prop} {s:DS} {m:Z6} {A:Option Addr} {ws:List ByteArray} {ar:Int} {l:List Int}
theorem LG{r t n e}(y:r.2=JQ n t.data.toList)(j:e=.returned (.tuple #[.string t,I O n]))(ht:t.size<=10000000000)(u:V3 n)(i:EK w w' h G (k+1) r.1):VH w h G k r e w':=⟨t,n,j,y,ht,u,i⟩
theorem Qi6{r}(j:JP w h G k s)(u:r=(s,.bad 6))(i:Bz w w'):VH w h G k r (.returned (.tuple #[.string ⟨#[]⟩,I O 6])) w':=by subst u;exact⟨_,_,rfl,(LK Q1 _).symm,Q1,(by unfold V3;omega),j.to i⟩
end
def S9(c:Nat):ByteArray:=⟨(QP.getD c []).toArray⟩
theorem LX{w h k n0 c0 G s A}(i:JP w h G k s)(j:s.e=none)c(D:c=3\/c=4\/c=6\/c=8\/c=9\/c=10\/c=11\/c=12\/c=13\/c=14\/c=17){r}(u:r=(s,.bad 6)):Calls prog 13 #[pA h,.string (S9 c),.slice A n0 c0] w (VH w h G k r):=by
 obtain⟨p,E,hp⟩:=i.cell6;rw[j]at hp
 cases p with
 |some p=>cases hp
 |none=>
 clear hp;obtain⟨y,C⟩:=Xt6 i u;clear i j u;obtain rfl|rfl|rfl|rfl|rfl|rfl|rfl|rfl|rfl|rfl|rfl:=D
 all_goals
  unfold S9 QP;simp only[List.getD_cons_succ,List.getD_cons_zero];go_enter func13,ntmps13
  go_wp2;go_ret2;exact Qi6 y C Q5
theorem ZG.nth{w h k n0 G s A ws ar l}(i:ZG w h G k s A n0 ws ar l)(y:l≠[]):∃bb o,A=some (aD bb o)/\∀j v,l[j]?=some v->w.cell? (aD bb (o+j))=some (I O v):=by
 cases l with
 |nil=>exact absurd rfl y
 |cons a t=>
  obtain⟨bb,o,h1,-⟩:=i.cells 0 (YL a) rfl;refine⟨bb,o,h1,fun j v C=>?_⟩;obtain⟨D,E,h2,u⟩:=i.cells j (YL v) (by rw[GP,C];rfl);rw[h1]at h2
  cases h2;exact u
theorem F3.lists{w w' e F m}(h:F3 w w' e F m):E5 m.L1 m.L2:=by obtain⟨F',⟨cs,T,tc,AL,Ap,pc,Ai,ic,own,L,i,-⟩,-⟩:=h;exact i.twin.lists i.few
theorem EK.glob{w w' h k G s}(ht:EK w w' h G k s)(y:QH w)(u:∀i,G i->12<=i)(j:12<=w.heap.size):QH w'/\12<=w'.heap.size:=by obtain⟨G',-,h2⟩:=ht;exact⟨Us y h2 u j,U4 j h2.1.size⟩
theorem Nh{nm F}(j:nm.length<=1000)(i:Zw F):(⟨(YD nm F).toArray⟩:ByteArray).size<=10000000000:=by have h:=Ko j i.1;have:=i.2;rw[KD];simp only;omega
theorem ZG.mkt{w h k n0 G s m A ws ar l}(u:ZG w h G k s A n0 ws ar l)(E:s.e=some m):∃R F,w.cell? (aD h 6)=some (pA R)/\N4 w R F m/\JU m k/\m.ids.length<=k/\∀w1 w' m',F3 w w1 R F m'->JU m' (k+1)->m'.ids.length<=k+1->Bz w1 w'->EK w w' h G (k+1) {s with e:=some m'}:=by obtain⟨j,y,J⟩:=u.desk.e E;obtain⟨R,F,i,C,-,a0⟩:=j.eng;refine⟨R,F,i,C,y,J,fun w1 w' m' ht Z N D=>?_⟩;obtain⟨G',h1,h2⟩:=a0 _ _ ht;exact EK.then_ ⟨G',h1.at_ ⟨Z,N⟩ rfl,h2⟩ D
section
variable {w:World} {h k n0 c0:Nat} {G:Nat->Prop} {s:DS} {m:Z6} {A:Option Addr} {ws:List ByteArray} {l:List Int}
theorem Tu c(hc:c=6\/c=8)(i:ZG w h G k s A n0 ws 0 l)(C:s.e=some m):Calls prog 13 #[pA h,.string (S9 c),.slice A n0 c0] w (VH w h G k ((CR.getD c VX) s ws)):=by
 obtain⟨R,F,c6,y,j,N,Z⟩:=i.mkt C;obtain⟨HC,a0,D,HO,E⟩:=Xt9 (Jv2 y) (Jv4 y j.ok.tab (j.in_ (U4 i.k Q0))) Z j N;have J:Hid (DW s ws=({s with e:=some (JN m)},JQ (UE m) [104,97,108,116])/\EJ s ws=({s with e:=some (QK m)},JQ (AW m) [111,112,101,110])):=J6 (by unfold DW EJ V8 D3;rw[i.nums,C];exact⟨rfl,rfl⟩);clear Z y j N i C;unfold S9 QP CR;obtain rfl|rfl:=hc
 ·simp only[List.getD_cons_succ,List.getD_cons_zero]
  rw[J.1];go_enter func13,ntmps13
  go_wp2_with fail
  refine HC.mono ?_;rintro ev w1⟨rfl,ht⟩;have u:=J6 (D _ _ _ ht HO.halt (by rw[(Xe2 m).1];have:=E.out;omega) Q5);clear ht;go_wp2;go_ret2;exact LG rfl rfl Q1 (by unfold UE V3;split<;>omega) u
 simp only[List.getD_cons_succ,List.getD_cons_zero];rw[J.2];go_enter func13,ntmps13
 go_wp2_with fail
 refine a0.mono ?_;rintro ev w1⟨rfl,ht⟩;have u:=J6 (D _ _ _ ht (HO.open_ ht.lists) (by rw[(Xe3 m).1];have:=E.out;omega) Q5);clear ht;go_wp2;go_ret2;exact LG rfl rfl Q1 (by unfold AW V3;split<;>omega) u
theorem Ja0(i:ZG w h G k s A n0 ws 1 l)(u:s.e=some m):Calls prog 13 #[pA h,.string (S9 4),.slice A n0 c0] w (VH w h G k (CF s ws)):=by
 obtain⟨R,F,c6,C,j,D,J⟩:=i.mkt u;have E:CF s ws=({s with e:=some (N3 m (l.getD 0 0))},JQ (ZP m (l.getD 0 0)) [99,97,110,99,101,108]):=by unfold CF V8 D3;rw[i.nums,u]
 obtain⟨a,rfl⟩:∃a,l=[a]:=by
  match l,(VV i.nums).2.1 Q1 with
  | [a],_=>exact⟨a,rfl⟩
 obtain⟨bb,o,rfl,y⟩:=i.nth Q3;have n1:1=n0:=i.len;subst n1;have x0:w.cell? (aD bb o)=some (I O a):=y 0 a rfl;rw[E];obtain⟨N,a0,HO,Hi⟩:=Xt8 (Qz9 C (by have:=j.ok.cnt;omega) a) J j D;clear J C j D i u y E;unfold S9 QP;simp only[List.getD_cons_succ,List.getD_cons_zero];go_enter func13,ntmps13
 go_wp2_with fail
 refine N.mono ?_;rintro ev w1⟨rfl,ht⟩;have Z:=J6 (a0 _ _ _ ht (HO.cancel a ht.lists) (by rw[Jh9 m];have:=Hi.out;omega) Q5);clear ht;go_wp2;go_ret2;exact LG rfl rfl Q1 (by unfold ZP V3;split<;>(try split)<;>omega) Z
theorem Rk sd c(hs:sd=1/\c=3\/sd=2/\c=14)(j:ZG w h G k s A n0 ws 4 l)(he:s.e=some m):Calls prog 13 #[pA h,.string (S9 c),.slice A n0 c0] w (VH w h G k (VE sd s ws)):=by
 obtain⟨R,F,c6,hR,hO,hi,a9⟩:=j.mkt he;obtain⟨hl,N,hf⟩:=VV j.nums;rw[show VE sd s ws=({s with e:=some (M8 m (ZQ sd l))},JQ (P3 m (ZQ sd l)) (YD [116,97,107,101,110] (ZT m (ZQ sd l)))) by unfold VE V8 D3;rw[j.nums,he]];have a7:JV (ZQ sd l):=Qc5 (by unfold V3;rcases hs with⟨rfl,-⟩|⟨rfl,-⟩<;>omega) (by have:=N Q1;omega) hf;obtain⟨E,x2,x3,x4,rfl⟩:∃a b c d,l=[a,b,c,d]:=by
  match l,N Q1 with
  | [a,b,c,d],_=>exact⟨a,b,c,d,rfl⟩
 obtain⟨bb,o,rfl,C⟩:=j.nth Q3;have hn:4=n0:=j.len;subst hn;have y0:w.cell? (aD bb o)=some (I O E):=C 0 E rfl;have y1:=C 1 x2 rfl;have y2:=C 2 x3 rfl;have y3:=C 3 x4 rfl;obtain⟨HG,b1,b0,HK,HR,b8,HO,Hi⟩:=Xu2 j.glob j.size j.gs j.k hR a9 hO hi;have J:=J6 a7;clear a9 hR hO hi j he C a7 hf N hl;unfold S9 QP;rcases hs with⟨rfl,rfl⟩|⟨rfl,rfl⟩
 all_goals
  simp only[List.getD_cons_succ,List.getD_cons_zero];go_enter func13,ntmps13
  go_upto_region 37 with fail
  go_cut [15] (fun c8 wx=>∃g,c8=IP (some ⟨g,0,none⟩)/\J7 wx g 84 #[I O E,I O 1,I O x2,I O x3,I O x4]/\Bz w wx/\w.heap.size<=g)
  case first=>
   refine AE [14] (fun W=>W.cell? ⟨bb,o,none⟩=some (I O E)/\W.cell? ⟨bb,o+1,none⟩=some (I O x2)/\W.cell? ⟨bb,o+2,none⟩=some (I O x3)/\W.cell? ⟨bb,o+3,none⟩=some (I O x4)) (fun _=>True) ⟨y0,y1,y2,y3⟩ trivial (fun hS _=>?_);refine tN 0 ?_;refine tN 1 ?_;refine tN 2 ?_;refine tN 3 ?_;refine tN 4 ?_;refine tN 5 ?_;refine tN 6 ?_;refine tN 7 ?_;refine tN 8 ?_;refine tN 9 ?_;refine tN 10 ?_;refine tN 11 ?_;refine tN 12 ?_;refine oN 13 fun K hK=>?_
   go_simp;have y:=Z5 w.drew 84 #[I O 0,I O 0,I O 0,I O 0,I O 0];have u:Bz w (w.drew.alloc (.cells #[I O 0,I O 0,I O 0,I O 0,I O 0] 84)):=(Z2 Q5).alloc Q2 _;refine hK _ _ (fun _=>Qw4 hS) trivial ?_;refine oN 14 fun K1 b9=>?_
   refine(X0 Q8).mpr ?_;refine DY 84 _ _ rfl (zS w.drew) _ rfl rfl 84 #[I O 0,I O 0,I O 0,I O 0,I O 0] y (by show(prog.info? 84).map (·.size)=some 5;kernel_rfl) rfl J0 ?_;refine b9 _ _ (fun e=>absurd e Q1) trivial (YW ?_ (fuel:=_));go_wp2;go_meet;exact⟨_,rfl,BH _ _ _ _ _ y,u.trans ((UP _ _ _).below (fun i e=>e▸X3 _) u.size),X3 _⟩
  case rest=>
  obtain⟨g,rfl,y,u,hg⟩:=hcut;obtain⟨z0,z1,z2,z3,z4⟩:=S0 y;have f1:=K0 y 1;have a4:Bz w (wc.setCell (aD g 1) (I O 2)):=u.trans ((U1 wc (aD g 1) (I O 2)).below (fun i e=>e▸hg) u.size);obtain⟨q0,q1,q2,q3,q4⟩:=S0 (Z0 y 1 (I O 2));obtain⟨HB,a0⟩:=Xt6 u a4;clear u a4 hg y;go_wp2_with fail
  refine(Jj9 (HR.out.below (by first|(with_reducible exact HB.out)|exact a0.out)) (HO.out.in_ (U4 HK.out Q0)) (by have:=Hi.out;have:=HK.out;omega) _ J.out).mono ?_;rintro ev w3⟨Af,cf,Fs,rfl,rfl,a8,c7,F',a2,a6,c5⟩;have ht:F3 w w3 R F (M8 m _):=⟨F',a2,(S5 (by first|(with_reducible exact HB.out)|exact a0.out)).trans a6⟩;have Z:=b8.out _ _ _ ht (HO.order J ht.lists) (U4 (Js3 _ _) (by have:=Hi.out;omega)) Q5;obtain⟨a1,a3⟩:=Z.glob HG b0 b1;have D:=Kg HO.ok J;obtain⟨HC,HT,b5⟩:=Xt7 (Ln ⟨#[116,97,107,101,110]⟩ Af _ cf _ w3 a1 a3 a8 D.1 D.2 Q1) Z D;clear a8 c7 a2 a6 c5 ht Z a1 a3 D z0 z1 z2 z3 z4 q0 q1 q2 q3 q4 f1;go_wp2_with fail
  refine HC.mono ?_;rintro ev w4⟨rfl,a5⟩;have b2:=J6 (HT.then_ a5);clear a5;go_wp2;go_ret2;exact LG rfl rfl (Nh Q1 b5) (by unfold P3 V3;repeat(first|omega|split)) b2
end
section
open Go.Shelf
section
variable {w:World} {h k n0 c0:Nat} {G:Nat->Prop} {s:DS} {m:Z6} {A:Option Addr} {ws:List ByteArray} {l:List Int}
theorem N4.reads{R F}(h:N4 w R F m):w.cell? (aD R 3)=some (I O m.an)/\w.cell? (aD R 4)=some (I O m.la)/\w.cell? (aD R 10)=some (I O m.ph)/\w.cell? (aD R 11)=some (I O m.now)/\(∃Ap pc,w.cell? (aD R 8)=some (.slice Ap m.pk.length pc)/\X8 w Ap m.pk.length pc 84 5 (X7 U0 m.pk))/\∀s,V5 s->Calls prog 39 #[IP (some (aD R 7)),I O s] w fun e w'=>Bz w w'/\∃A' c',e=.returned (.slice A' (V1 s m.L1 m.L2).length c')/\X8 w' A' (V1 s m.L1 m.L2).length c' 84 5 (X7 U0 (V1 s m.L1 m.L2)):=by obtain⟨cs,T,tc,AL,Ap,pc,Ai,ic,own,L,i,-⟩:=h;have j:=(i.twin.lists i.few).ok;refine⟨i.cell i.rc.c3,i.cell i.rc.c4,i.cell i.rc.c10,i.cell i.rc.c11,⟨Ap,pc,i.cell i.rc.c8,i.park⟩,fun s C=>?_⟩;have u:=Sp i.bk (by have:=i.few;omega) s (fun o j=>by have:=(i.twin.ok o (S4.1 j).1).1.2.2.1;omega);rw[show KX s L=V1 s m.L1 m.L2 by obtain rfl|rfl:=C;exact i.twin.s1.symm;exact i.twin.s2.symm]at u;exact u.mono fun e w'⟨h1,A',c',h2,y,_⟩=>⟨h1,A',c',h2,y⟩
theorem Qm(j:JP w h G k s){w'}{t:ByteArray}{l:E9}{n}(i:Bz w w')(u:t.data.toList=l)(ht:t.size<=10000000000)(y:V3 n){r}(C:r=(s,JQ n l)):VH w h G k r (.returned (.tuple #[.string t,I O n])) w':=by subst C;subst u;exact⟨t,n,rfl,rfl,ht,y,j.to i⟩
theorem Jv9(i:ZG w h G k s A n0 ws 0 l)(he:s.e=some m):Calls prog 13 #[pA h,.string (S9 17),.slice A n0 c0] w (VH w h G k (CN s ws)):=by
 obtain⟨R,F,c6,hR,u,hi,b2⟩:=i.mkt he;have hk:=i.k;have HC:=J6 (Jv7 hR u.ok.tab (u.in_ Q0) (u.next Q0));rw[show CN s ws=({s with e:=some (G9 m)},JQ (AT m) (YD (Lib.itoa (G9 m).now) (Zp m))) by unfold CN V8 D3;rw[i.nums,he]];obtain⟨HG,c9,b9,d2,HO,Hi,HK⟩:=Xu1 i.glob i.size i.gs b2 u hi hk;clear b2 hR u hi i he hk;unfold S9 QP;simp only[List.getD_cons_succ,List.getD_cons_zero];go_enter func13,ntmps13
 go_wp2_with fail
 refine HC.mono ?_;rintro ev w1⟨Af,cf,Fs,rfl,Z,b1,d5,F',a0,a9,d4⟩;have ht:F3 w w1 R F (G9 m):=⟨F',a0,a9⟩;have N:=HO.tick ht.lists;have hT:=d2.out _ _ _ ht N (by rw[Xe4];have:=Hi.out;omega) Q5;obtain⟨J,y⟩:=hT.glob HG b9 c9;have a6:=Kn HO.ok Z;have d3:=a0.reads.2.2.2.1;have d1:=J6 (Em Z);obtain⟨nw,D⟩:=exq ((G9 m).now);have a1:V3 nw:=by have h1:=N.now;have h2:=HK.out;rw[D]at h1;unfold V3;omega
 rw[D]at d3;have c7:=J6 D;have C:Bz w1 (w1.alloc (.cells #[I O nw] 3)):=Q5.alloc Q2 _;have HJ:=J6 (LB _ (.inr rfl) (sA (zS w1)) 1 1 [nw] _ (J.below C y) (U4 y C.size) (MJ (Z5 w1 3 #[I O nw])) rfl (fun v hv=>by rw[UN]at hv;rw[hv];exact a1) Q0);have b0:N8 [nw]=Lib.itoa nw:=by unfold N8;exact Lib.join_one _ _
 obtain⟨HT,E,c8,b8,a5,a2,c5,a4⟩:=Xu2 hT a6 b1 J y C b0 a1;clear b1 d5 a0 a9 d4 ht hT J y a6 Z N C b0 a1 D;go_wp2_with fail
 refine HJ.mono ?_;rintro ev w2⟨rfl,a7⟩;rw[c5.out];have j:=J6 (a2.trans (a7.mono a2.size));have hit:=Xi nw a4.1 a4.2;have a3:Hid ((Lib.itoa nw).length<=1000):=J6 Q0;have b5:=J6 (Ln ⟨(Lib.itoa nw).toArray⟩ Af _ cf _ w2 (b8.below j a5) (U4 a5 j.size) (c8.below j) E.1 E.2 (by rw[KD];simpa using a3.out));clear a7 hit;go_wp2_with fail
 refine b5.mono ?_;rintro ev w4⟨rfl,a8⟩;have d0:=J6 (HT.then_ (j.trans (a8.mono j.size)));clear a8;go_wp2;go_ret2;exact LG (by dsimp only;rw[d1.out,c7.out]) rfl (Nh a3 E) (by unfold AT V3;repeat(first|omega|split)) d0
theorem Jk0(D:ZG w h G k s A n0 ws 0 l)(Z:s.e=some m):Calls prog 13 #[pA h,.string (S9 12),.slice A n0 c0] w (VH w h G k (FX s ws)):=by
 obtain⟨R,F,c6,hR,J,hi,a6⟩:=D.mkt Z;have HC:=J6 (Jj8 hR J.ok.la);have Hr:Hid (FX s ws=(s,JQ 0 (N8 [(AX m).1,(AX m).2.1,(AX m).2.2]))):=J6 (by unfold FX V8 D3;rw[D.nums,Z];rfl);have y:=Tn J.ok;have C:=J6 D;obtain⟨⟨i,j,u⟩,a4⟩:∃q,AX m=q:=⟨_,rfl⟩;rw[a4]at HC Hr y;have a3:∀v∈[i,j,u],V3 v:=fun v hv=>by simp only[List.mem_cons,List.not_mem_nil,or_false]at hv;obtain rfl|rfl|rfl:=hv<;>first|exact y.1|exact y.2.1|exact y.2.2
 have HQ:=J6 a3;clear a6 hR J hi D Z y a4 a3;unfold S9 QP;simp only[List.getD_cons_succ,List.getD_cons_zero];go_enter func13,ntmps13
 go_wp2_with fail
 refine HC.mono ?_;rintro ev w1⟨rfl,N⟩;unfold QW;have E:Bz w ((w1.alloc (.cells #[I O i,I O j,I O u] 99)).alloc (.cells #[I O i,I O j,I O u] 3)):=N.trans ((((J9 _ w1).alloc Q2 _).alloc Q3 _).mono N.size);have a2:J7 ((w1.alloc (.cells #[I O i,I O j,I O u] 99)).alloc (.cells #[I O i,I O j,I O u] 3)) (zS w1+1) 3 #[I O i,I O j,I O u]:=by simpa using Z5 (w1.alloc (.cells #[I O i,I O j,I O u] 99)) 3 #[I O i,I O j,I O u]
 obtain⟨HJ,a0⟩:=Xt6 (LB _ (.inr rfl) (sA (zS w1+1)) 3 3 [i,j,u] _ (C.glob.below E C.size) (U4 C.size E.size) (MJ a2) rfl HQ Q0) E;clear N E a2;go_wp2_with fail
 refine HJ.mono ?_;rintro ev w2⟨rfl,a1⟩;have a5:=J6 (a0.trans (a1.mono a0.size));clear a1;go_wp2;go_ret2;exact Qm C.desk a5 rfl (by rw[KD];have:=PZ HQ;simp at this|-;omega) (by unfold V3;omega) Hr
theorem Ja1(i:ZG w h G k s A n0 ws 0 l)(u:s.e=some m):Calls prog 13 #[pA h,.string (S9 10),.slice A n0 c0] w (VH w h G k (ES s ws)):=by
 obtain⟨R,F,c6,C,j,hi,a1⟩:=i.mkt u;have Hr:Hid (ES s ws=(s,JQ 0 (MG m.pk))):=J6 (by unfold ES V8 D3;rw[i.nums,u];rfl);obtain⟨-,-,-,-,⟨Ap,pc,c8,E⟩,-⟩:=C.reads;have y:∀o∈m.pk,JV o:=fun o ho=>(j.ok.pk o ho).1.1
 obtain⟨Z,N,HI,a0⟩:=Xt8 j.ok.cnt (Yf _ (.inr rfl) Ap m.pk.length pc m.pk w i.glob i.size E y (by have:=j.ok.cnt;omega)) i y;clear a1 C j hi i u E y;unfold S9 QP;simp only[List.getD_cons_succ,List.getD_cons_zero];go_enter func13,ntmps13
 go_wp2_with fail
 refine N.mono ?_;rintro ev w1⟨rfl,D⟩;have J:=J6 D;clear D;go_wp2;go_ret2;exact Qm HI.desk J rfl (by rw[KD];have:=Kh a0;have:=Z.out;simp only;omega) (by unfold V3;omega) Hr
theorem Jw0(j:ZG w h G k s A n0 ws 0 l)(E:s.e=some m):Calls prog 13 #[pA h,.string (S9 13),.slice A n0 c0] w (VH w h G k (FE s ws)):=by
 obtain⟨R,F,c6,hR,D,hi,a2⟩:=j.mkt E;have C:Hid (FE s ws=(s,JQ 0 (N8 [m.an,m.la]))):=J6 (by unfold FE V8 D3;rw[j.nums,E];rfl);obtain⟨c3,c4,-⟩:=hR.reads;have y:∀v∈[m.an,m.la],V3 v:=fun v hv=>by simp only[List.mem_cons,List.not_mem_nil,or_false]at hv;have h1:=D.ok.an;have h2:=D.ok.la;obtain rfl|rfl:=hv<;>(unfold V3;omega)
 obtain⟨J,e1⟩:=exq m.an;obtain⟨N,e2⟩:=exq m.la;rw[e1]at c3 y C;rw[e2]at c4 y C;obtain⟨i,HQ⟩:=Xt6 j y;clear a2 hR D hi j E y e1 e2;unfold S9 QP;simp only[List.getD_cons_succ,List.getD_cons_zero];go_enter func13,ntmps13
 go_wp2_with fail
 go_still_tail 8,Q4
 change wpList _ _ _ _ _ w.drew;have u:Bz w (w.drew.alloc (.cells #[I O J,I O N] 3)):=(Z2 Q5).alloc Q2 _;obtain⟨HJ,Z⟩:=Xt6 (LB _ (.inr rfl) (sA (zS w)) 2 2 [J,N] _ (i.glob.below u i.size) (U4 i.size u.size) (MJ (Z5 w.drew 3 #[I O J,I O N])) rfl HQ Q0) u;clear u;go_wp2_with fail
 refine HJ.mono ?_;rintro ev w2⟨rfl,a0⟩;have a1:=J6 (Z.trans (a0.mono Z.size));clear a0;go_wp2;go_ret2;exact Qm i.desk a1 rfl (by rw[KD];have:=PZ HQ;simp at this|-;omega) (by unfold V3;omega) C
theorem Jw1(i:ZG w h G k s A n0 ws 1 l)(J:s.e=some m):Calls prog 13 #[pA h,.string (S9 9),.slice A n0 c0] w (VH w h G k (CP s ws)):=by
 obtain⟨R,F,c6,hR,hO,hi,a5⟩:=i.mkt J;have hr:CP s ws=(s,JQ (PH (l.getD 0 0)) (MG (V1 (l.getD 0 0) m.L1 m.L2))):=by unfold CP V8 D3;rw[i.nums,J]
 obtain⟨a,rfl⟩:∃a,l=[a]:=by
  match l,(VV i.nums).2.1 Q1 with
  | [a],_=>exact⟨a,rfl⟩
 obtain⟨bb,o,rfl,hA⟩:=i.nth Q3;have n1:1=n0:=i.len;subst n1;have x0:w.cell? (aD bb o)=some (I O a):=hA 0 a rfl;have hS:=(hR.below (Z2 (J9 _ w))).reads.2.2.2.2.2;obtain⟨HS,HL,j,E⟩:=Xt8 hS hO.ok.ls i hr;clear a5 hR hO hi i J hA hS hr;unfold S9 QP;simp only[List.getD_cons_succ,List.getD_cons_zero];go_enter func13,ntmps13
 go_wp2_with fail
 refine(VY _ _ _ _).mono ?_;rintro ev w1⟨rfl,rfl⟩
 by_cases C:a=1\/a=2
 ·have e:(decide (1<=a) &&decide (a<=2))=true:=by simp;omega
  rw[e];have u:=J6 C;clear C e;go_wp2_with fail
  go_still_tail 6,Q4
  change wpList _ _ _ _ _ w.drew;go_wp2_with fail
  refine(HS a u).mono ?_;rintro ev w2⟨hb,A',c',rfl,a1⟩;have N:∀x∈V1 a m.L1 m.L2,JV x:=fun x D=>by
   refine(HL.ok x ?_).1;unfold V1 at D
   split at D
   ·exact T9 _ D
   exact JJ _ D
  have a4:(V1 a m.L1 m.L2).length<=100:=by
   have h1:=HL.cnt;rw[B6]at h1;unfold V1
   split<;>omega
  have y:=(Z2 (J9 (zS w) w)).trans hb;obtain⟨HC,Z,a3⟩:=Xt7 (Yf _ (.inr rfl) A' _ c' _ w2 (j.glob.below y j.size) (U4 j.size y.size) a1 N Q0) y (show(⟨(MG (V1 a m.L1 m.L2)).toArray⟩:ByteArray).size<=10000000000 by rw[KD];have:=Kh N;simp only;omega);clear hb y a1 N a4;go_wp2_with fail
  refine HC.mono ?_;rintro ev w3⟨rfl,a0⟩;have a2:=J6 (Z.trans (a0.mono Z.size));clear a0;go_wp2;go_ret2;exact Qm j.desk a2 rfl a3 (by unfold V3;omega) (by rw[E.out];show(s,JQ (PH a) _)=_;unfold PH;rw[X0 u.out];rfl)
 have e:(decide (1<=a) &&decide (a<=2))=false:=by simp;omega
 rw[e];have u:=J6 C;clear C e;go_wp2;go_ret2;exact⟨_,_,rfl,by rw[E.out];show JQ (PH a) _=_;unfold PH;rw[J8 u.out];rfl,Q1,(by unfold V3;omega),by rw[E.out];exact j.desk.to Q5⟩
def Gh:ByteArray:=⟨#[110,111,110,101,32,112,114,101,111,112,101,110,32,111,112,101,110,105,110,103,32,116,114,97,100,105,110,103,32,118,111,108,97,116,105,108,105,116,121,32,99,108,111,115,105,110,103,32,104,97,108,116,32,101,110,100,101,100]⟩
theorem Xl9:∀b∈Gh.data.toList,b.toNat<128:=Q1
theorem Jw2:Lib.fields Gh.data.toList=[[110,111,110,101],YE 1,YE 2,YE 3,YE 4,YE 5,YE 6,YE 7]:=Q4
theorem Jk1 (D : ZG w h G k s A n0 ws 0 l) (a1 : Lib.TabIs Tryz.prog w "strings.asciiSpace" .u8 Lib.asciiSpaceTab) (J : s.e = some m) : Calls Tryz.prog 13 #[.pointer (some ⟨h, 0, none⟩), .string (S9 11), .slice A n0 c0] w (VH w h G k (FJ s ws)) := by
 obtain⟨R,F,c6,hR,hO,hi,a3⟩:=D.mkt J;have N:Hid (FJ s ws=(s,JQ 0 (YE m.ph))):=J6 (by unfold FJ V8 D3;rw[D.nums,J];rfl);obtain⟨-,-,C,-⟩:=hR.reads;have a0:=hO.ph;have HI:=J6 D;have E:=Any.strings_Fields (P:=prog) (ρ:=laysD157_ren) laysD157 Q4 Q4 Gh w.drew Q1 (fun j b u=>Xl9 b (Ve u)) a1;rw[Jw2]at E;have Z:=E.mono (R':=fun e w'=>∃g,e=.returned (.slice (sA g) 8 8)/\Bz w w'/\J7 w' g 9 (List.map (fun l=>Value.string ⟨l.toArray⟩) [[110,111,110,101],YE 1,YE 2,YE 3,YE 4,YE 5,YE 6,YE 7]).toArray) (by rintro e w'⟨rfl,rfl⟩;exact⟨_,rfl,(Z2 Q5).alloc Q2 _,Z5 _ _ _⟩)
 have HF:=J6 Z;obtain⟨p,hp⟩:=exq m.ph;rw[hp]at C N a0;have a2:p=1\/p=2\/p=3\/p=4\/p=5\/p=6\/p=7:=Q0;clear a3 hR hO hi D J a1 E Z hp a0;unfold S9 QP;simp only[List.getD_cons_succ,List.getD_cons_zero];go_enter func13,ntmps13
 go_wp2_with fail
 obtain rfl|rfl|rfl|rfl|rfl|rfl|rfl:=a2
 all_goals
  refine AE [] (fun _=>True) (fun W=>W.cell? ⟨R,10,none⟩=some _) trivial C (fun _ hU=>?_);refine tP 1 ?_;refine tP 2 ?_;refine tP 3 ?_;refine tP 4 ?_;refine oN 0 fun K i=>?_
  go_simp;refine HF.mono ?_;rintro ev w1⟨g,rfl,u,hz⟩;have y:w1.cell? (aD R 10)=some _:=(u.cell (p:=(aD R 10)) (U5 w _ C)).trans C;refine i _ _ (fun _=>trivial) y ?_;have z:=fun j=>X9 hz j
  have z1:=z 1;have z2:=z 2;have z3:=z 3;have z4:=z 4;have z5:=z 5;have z6:=z 6;have z7:=z 7;have HB:=J6 u;clear i u hz z;refine oN 5 fun K i=>?_
  go_simp;refine i _ _ (fun _=>trivial) y ?_;clear i;refine oN 6 fun K i=>?_
  go_simp;refine i _ _ (fun _=>trivial) y ?_;clear i;refine oN 7 fun K i=>?_
  go_simp;refine i _ _ (fun _=>trivial) y ?_;clear i;refine oN 8 fun K i=>?_
  go_simp;refine i _ _ (fun _=>trivial) y ?_;clear i;refine YW ?_ Q4 _;go_wp2;go_ret2;exact Qm HI.desk HB rfl Q1 (by unfold V3;omega) N
end
end
theorem Ut{w h k n0 c0 G s m A}(i:JP w h G k s)(j:s.e=some m)c(D:c=0\/c=2\/c=15\/c=16){r}(u:r=(s,.bad 6)):Calls prog 13 #[pA h,.string (S9 c),.slice A n0 c0] w (VH w h G k r):=by
 obtain⟨p,E,hp⟩:=i.cell6;rw[j]at hp
 cases p with
 |none=>cases hp
 |some p=>
 obtain⟨y,C⟩:=Xt6 i u;clear i j u hp;obtain rfl|rfl|rfl|rfl:=D
 all_goals
  unfold S9 QP;simp only[List.getD_cons_succ,List.getD_cons_zero];go_enter func13,ntmps13
  go_wp2;go_ret2;exact Qi6 y C Q5
theorem EM{w:World}{h i q v u}(x:w.cell? q=some u)(j:q.block≠h):(w.setCell (aD h i) v).drew.cell? q=some u:=XZ (p:=(aD h i)) x j
section
variable {w:World} {h k n0 c0:Nat} {G:Nat->Prop} {s:DS} {m:Z6} {A:Option Addr} {ws:List ByteArray} {l:List Int}
theorem JP.blk(i:JP w h G k s):G h/\∃u y C D E J N,J7 w h 51 #[u,y,C,D,E,J,N]:=by
 cases j:s.e with
 |none=>
  obtain⟨A,c,h1,-,-,h2⟩:=i.n j;exact⟨(h2 h).2 (.inl rfl),_,_,_,_,_,_,_,h1⟩
 |some m=>
  obtain⟨u,y,C,D,E,J,e,F,h1,-,-,h2⟩:=(i.e j).1;exact⟨(h2 h).2 (.inl rfl),_,_,_,_,_,_,_,h1⟩
theorem LL.parts(C:LL w h G s):∃A c,J7 w h 51 (AC A c s none)/\X8 w A s.rows.length c 78 2 (X7 BX s.rows)/\(∀i,X5 A=some i->i≠h/\G i)/\G h:=by obtain⟨A,c,h1,h2,y,j⟩:=C;exact⟨A,c,h1,h2,fun i u=>⟨y i u,(j i).2 (.inr u)⟩,(j h).2 (.inl rfl)⟩
theorem Ym{w w1 w2 h k G s' A c}(D:Bz w w1)(C:G h)(hk:X4 (fun i=>i=h) w1 w2)(E:s'.e=none)(h1:J7 w2 h 51 (AC A c s' none)) (h2:X8 w2 A s'.rows.length c 78 2 (X7 BX s'.rows)) (y:∀i,X5 A=some i->i≠h/\(G i\/w.heap.size<=i)):EK w w2 h G k s':=by
 refine⟨fun i=>i=h\/X5 A=some i,LL.at_ ⟨A,c,h1,h2,fun i j=>(y i j).1,fun i=>KL⟩ E,((X4.after D hk).mono (fun i j=>by rw[j];exact C)),fun i j=>?_⟩;obtain u|u:=j
 ·exact .inl (by rw[u];exact C)
 exact(y i u).2
theorem Tv(i:ZG w h G k s A n0 ws 0 l):Calls prog 13 #[pA h,.string (S9 7),.slice A n0 c0] w (VH w h G k (VX s ws)):=by
 have j:Hid (VX s ws=(s,JQ 0 En)):=J6 (by unfold VX V8;rw[i.nums];rfl);have u:=J6 i.desk;clear i;unfold S9 QP;simp only[List.getD_cons_succ,List.getD_cons_zero];go_enter func13,ntmps13
 go_wp2;go_ret2;exact⟨_,_,rfl,by rw[j.out];rfl,Q1,(by unfold V3;omega),by rw[j.out];exact u.to Q5⟩
theorem Rl(u:ZG w h G k s A n0 ws 0 l):Calls prog 13 #[pA h,.string (S9 5),.slice A n0 c0] w (VH w h G k (PD s ws)):=by
 have y:Hid (PD s ws=(QU,JQ 0 [99,108,101,97,114])):=J6 (by unfold PD V8;rw[u.nums];rfl);obtain⟨C,v0,v1,v2,v3,v4,v5,v6,j⟩:=u.desk.blk;obtain⟨D,E⟩:=Xt6 j C;obtain⟨x0,x1,x2,x3,x4,x5,x6⟩:=BC j;have f:=K0 j;have N:=f 0;have Z:=f 1;have f2:=f 2;have f3:=f 3;have f4:=f 4;have f5:=f 5;have f6:=f 6;clear u C j f;unfold S9 QP;simp only[List.getD_cons_succ,List.getD_cons_zero];go_enter func13,ntmps13
 go_wp2;go_ret2;have j:=Z0 (Z0 (Z0 (Z0 (Z0 (Z0 (Z0 D 0 (.slice none 0 0)) 1 (I O 0)) 2 (I O 0)) 3 (I O 0)) 4 (I O 0)) 5 (I O 0)) 6 (.pointer none);refine LG (by rw[y.out]) rfl Q1 (by unfold V3;omega) ?_;rw[y.out];exact Ym (s':=QU) Q5 E (T4 (T4 (T4 (T4 (T4 (T4 (T4 (BG _ _) 0 _) 1 _) 2 _) 3 _) 4 _) 5 _) 6 _) rfl (A:=none) (c:=0) j (QY _ _ _ _) (fun i J=>by cases J)
theorem Tw(i:ZG w h G k s A n0 ws 2 l):Calls prog 13 #[pA h,.string (S9 1),.slice A n0 c0] w (VH w h G k (GA s ws)):=by
 have hr:GA s ws=(s,JQ (KM (l.getD 0 0) (l.getD 1 0)) (N8 [XV (l.getD 0 0) (l.getD 1 0),XU (l.getD 0 0) (l.getD 1 0)])):=by unfold GA V8;rw[i.nums]
 obtain⟨a,b,rfl⟩:∃a b,l=[a,b]:=by
  match l,(VV i.nums).2.1 Q1 with
  | [a,b],_=>exact⟨a,b,rfl⟩
 obtain⟨bb,o,rfl,E⟩:=i.nth Q3;have n2:2=n0:=i.len;subst n2;have x0:w.cell? (aD bb o)=some (I O a):=E 0 a rfl;have x1:=E 1 b rfl;obtain⟨a0,a1⟩:=Qd0 a b;have j:=Yt a0 a1;obtain⟨N,u⟩:=Xt6 (Tr a b) (Ui a b w.drew);have C:Hid (GA s ws=(s,JQ (KM a b) (N8 [XV a b,XU a b]))):=J6 hr;generalize XV a b=x at j u C;generalize XU a b=y at j u C;generalize KM a b=z at u C N;have D:Bz w (w.drew.alloc (.cells #[I O x,I O y] 3)):=(Z2 Q5).alloc Q2 _;obtain⟨HJ,a4,HI,J⟩:=Xt8 (LB _ (.inr rfl) (sA (zS w)) 2 2 [x,y] _ (i.glob.below D i.size) (U4 i.size D.size) (MJ (Z5 w.drew 3 #[I O x,I O y])) rfl j Q0) j i D;clear i E hr j a0 a1 D;unfold S9 QP;simp only[List.getD_cons_succ,List.getD_cons_zero];go_enter func13,ntmps13
 go_wp2_with fail
 refine AE [] (fun _=>True) (fun W=>W.cell? ⟨bb,o,none⟩=some (I O a)/\W.cell? ⟨bb,o+1,none⟩=some (I O b)) trivial ⟨x0,x1⟩ (fun _ hU=>?_);refine tP 0 ?_;refine tP 1 ?_;refine tP 2 ?_;refine tP 3 ?_;refine tP 4 ?_;refine tP 5 ?_;refine oN 6 fun K Z=>?_
 go_simp;refine u.mono ?_;rintro ev w1⟨rfl,rfl⟩;refine Z _ _ (fun _=>trivial) hU ?_;clear Z;refine tP 7 ?_;refine tP 8 ?_;refine tP 9 ?_;refine tP 10 ?_;refine tP 11 ?_;refine tP 12 ?_;refine tP 13 ?_;refine YW ?_ Q4 _;go_wp2_with fail
 refine HJ.mono ?_;rintro ev w2⟨rfl,a2⟩;have a3:=J6 (J.trans (a2.mono J.size));clear a2;go_wp2;go_ret2;exact Qm HI.desk a3 rfl (by rw[KD];have:=PZ a4;simp only[List.length_cons,List.length_nil]at this|-;omega) N C
theorem Jk2(u:ZG w h G k s A n0 ws 3 l)(J:s.e=none):Calls prog 13 #[pA h,.string (S9 2),.slice A n0 c0] w (VH w h G k (EW s ws)):=by
 obtain⟨a,b,c3,rfl⟩:=Qk2 ((VV u.nums).2.1 Q1);obtain⟨g,o,rfl,E⟩:=u.nth Q3;have n3:3=n0:=u.len;subst n3;have hr:EW s ws=({s with st:=a,dy:=b,p:=c3},.ok [98,97,110,100,115]):=by unfold EW V8 YZ;rw[u.nums];simp only[J];rfl
 have Z:w.cell? (aD g o)=some (I O a):=E 0 a rfl;have y1:=E 1 b rfl;have y2:=E 2 c3 rfl;obtain⟨A0,c1,C,a4,a3,a1⟩:=(u.desk.n J).parts;obtain⟨HI,a5,a6,a0,HG,Hr,He⟩:=Xu1 u C a4 a3 a1 hr J;have j:=u.far g rfl;unfold AC at C;obtain⟨z0,z1,z2,z3,z4,z5,z6⟩:=BC C;have f:=K0 C;have f1:=f 1;have f2:=f 2;have f3:=f 3;clear u E hr J C a4 a3 a1 f;unfold S9 QP;simp only[List.getD_cons_succ,List.getD_cons_zero];go_enter func13,ntmps13
 go_wp2_with fail
 refine AE [] (fun _=>True) (fun W=>W.cell? ⟨g,o,none⟩=some (I O a)/\W.cell? ⟨g,o+1,none⟩=some (I O b)/\W.cell? ⟨g,o+2,none⟩=some (I O c3)) trivial ⟨Z,y1,y2⟩ (fun _ a7=>?_);refine tP 0 ?_;refine tP 1 ?_;refine tP 2 ?_;refine tP 3 ?_;refine tP 4 ?_;refine tP 5 ?_;refine tP 6 ?_;refine tP 7 ?_;refine tP 8 ?_;refine tP 9 ?_;refine tP 10 ?_;refine tP 11 ?_;refine tP 12 ?_;refine tP 13 ?_;refine tP 14 ?_;refine tP 16 ?_;refine tP 17 ?_;refine tP 20 ?_;refine tP 21 ?_;refine oN 15 fun K y=>?_
 go_simp;refine(fun D=>y _ _ (fun _=>trivial) D ?_) ⟨EM Z j,EM y1 j,EM y2 j⟩;clear y;refine tP 18 ?_;refine oN 19 fun K y=>?_
 go_simp;refine(fun D=>y _ _ (fun _=>trivial) D ?_) ⟨EM (XZ Z j) j,EM (XZ y1 j) j,EM (XZ y2 j) j⟩;clear y;refine tP 22 ?_;refine oN 23 fun K y=>?_
 go_simp;refine(fun D=>y _ _ (fun _=>trivial) D ?_) ⟨EM (XZ (XZ Z j) j) j,EM (XZ (XZ y1 j) j) j,EM (XZ (XZ y2 j) j) j⟩;clear y;refine YW ?_ Q4 _;go_wp2;go_ret2;refine LG (by rw[Hr.out];rfl) rfl Q1 (by unfold V3;omega) ?_;rw[Hr.out];have a2:=Z2 (J9 (zS w) w);exact Ym (w1:=w.drew) a2 HG (T4 (T4 (T4 (BG _ _) 1 _) 2 _) 3 _) He (A:=A0) (c:=c1) (Z0 (Z0 (Z0 a5 1 (I O a)) 2 (I O b)) 3 (I O c3)) (RB (a6.below a2) (T4 (T4 (T4 (BG _ _) 1 _) 2 _) 3 _) (fun i N=>(a0 i N).1)) (fun i N=>⟨(a0 i N).1,.inl (a0 i N).2⟩)
theorem Qt5(j:ZG w h G k s A n0 ws 2 l)(D:s.e=none):Calls prog 13 #[pA h,.string (S9 0),.slice A n0 c0] w (VH w h G k (EN s ws)):=by
 obtain⟨a,b,rfl⟩:=Ge ((VV j.nums).2.1 Q1);obtain⟨g,o,rfl,N⟩:=j.nth Q3;have n3:2=n0:=j.len;subst n3;have hr:EN s ws=({s with tk:=a,mo:=b},.ok [97,117,99,116,105,111,110]):=by unfold EN V8 YZ;rw[j.nums];simp only[D];rfl
 have y0:w.cell? (aD g o)=some (I O a):=N 0 a rfl;have y1:=N 1 b rfl;obtain⟨A0,c1,C,a3,a2,a0⟩:=(j.desk.n D).parts;obtain⟨HI,a4,a5,J,HG,Hr,He⟩:=Xu1 j C a3 a2 a0 hr D;have u:=j.far g rfl;unfold AC at C;obtain⟨z0,z1,z2,z3,z4,z5,z6⟩:=BC C;have f:=K0 C;have f4:=f 4;have f5:=f 5;clear j N hr D C a3 a2 a0 f;unfold S9 QP;simp only[List.getD_cons_zero];go_enter func13,ntmps13
 go_wp2_with fail
 refine AE [] (fun _=>True) (fun W=>W.cell? ⟨g,o,none⟩=some (I O a)/\W.cell? ⟨g,o+1,none⟩=some (I O b)) trivial ⟨y0,y1⟩ (fun _ a6=>?_);refine tP 0 ?_;refine tP 1 ?_;refine tP 2 ?_;refine tP 3 ?_;refine tP 4 ?_;refine tP 5 ?_;refine tP 6 ?_;refine tP 7 ?_;refine tP 8 ?_;refine tP 9 ?_;refine tP 10 ?_;refine tP 12 ?_;refine tP 13 ?_;refine oN 11 fun K y=>?_
 go_simp;refine(fun Z=>y _ _ (fun _=>trivial) Z ?_) ⟨EM y0 u,EM y1 u⟩;clear y;refine tP 14 ?_;refine oN 15 fun K y=>?_
 go_simp;refine(fun Z=>y _ _ (fun _=>trivial) Z ?_) ⟨EM (XZ y0 u) u,EM (XZ y1 u) u⟩;clear y;refine YW ?_ Q4 _;go_wp2;go_ret2;refine LG (by rw[Hr.out];rfl) rfl Q1 (by unfold V3;omega) ?_;rw[Hr.out];have a1:=Z2 (J9 (zS w) w);exact Ym (w1:=w.drew) a1 HG (T4 (T4 (BG _ _) 4 _) 5 _) He (A:=A0) (c:=c1) (Z0 (Z0 a4 4 (I O a)) 5 (I O b)) (RB (a5.below a1) (T4 (T4 (BG _ _) 4 _) 5 _) (fun i E=>(J i E).1)) (fun i E=>⟨(J i E).1,.inl (J i E).2⟩)
end
theorem Jw3:(prog.info? 78).map (fun i=>(i.zero,i.size,i.bytes))=some (some (.agg #[I O 0,I O 0]),2,16):=Q4
section
variable {w:World} {h k n0 c0:Nat} {G:Nat->Prop} {s:DS} {m:Z6} {A:Option Addr} {ws:List ByteArray} {l:List Int}
def Gi(w:World)(A0:Option Addr)(ps:List (Int×Int))(st dy p tk mo:Int)(q:Option Addr)(X:Nat)(f pl:Int)(wx:World):Prop:=
 Bz w wx/\J7 wx X 80 #[I O f,I O pl]/\((f≠0/\XR ps st dy p tk mo f pl)\/(f=0/\XR ps st dy p tk mo 0 (-1)/\∃R F,q=sA R/\N4 wx R F (BA ps st dy p tk mo)/\∀i,F i->w.heap.size<=i\/X5 A0=some i))
theorem Qx{W g t a b c d e f h}(H:J7 W g t #[a,b,c,d,e,f,h]):W.cell? (aD g 0)=some a/\W.cell? (aD g 1)=some b/\W.cell? (aD g 2)=some c/\W.cell? (aD g 3)=some d/\W.cell? (aD g 4)=some e/\W.cell? (aD g 5)=some f:=by obtain⟨i,j,u,y,C,D,-⟩:=BC H;exact⟨i,j,u,y,C,D⟩
theorem Jk3(hI:ZG w h G k s A n0 ws 0 l)(he:s.e=none):Calls prog 13 #[pA h,.string (S9 15),.slice A n0 c0] w (VH w h G k (FQ s ws)):=by
 have hr:FQ s ws=(if SF s=0 then {s with e:=some (BA s.rows s.st s.dy s.p s.tk s.mo)}else s,JQ (SF s) [115,116,97,114,116]):=by unfold FQ V8 YZ;rw[hI.nums];simp only[he]
 obtain⟨A0,c1,u,a2,b0,a8⟩:=(hI.desk.n he).parts;have b8:=Z2 (J9 w.heap.size w);obtain⟨HC,HI,b2,a6,HG,Hr,He⟩:=Xu1 (fun W hW=>Xe8 A0 s.rows.length c1 s.rows s.st s.dy s.p s.tk s.mo W (Lo (a2.below hW)) (Qd1 a2) (fun g hg=>D0 (a2.lt hg) hW.size)) hI a2 b0 a8 hr he;unfold AC at u;obtain⟨nr,b1⟩:=exq s.rows.length;rw[b1]at u HC;have N:=J6 u;obtain⟨z0,z1,z2,z3,z4,z5,z6⟩:=BC u;have f6:=K0 u 6;clear hI hr he u a2 b0 a8 b1 b8;unfold S9 QP;simp only[List.getD_cons_succ,List.getD_cons_zero];go_enter func13,ntmps13
 go_wp2_with fail
 go_upto_region 31 with fail
 go_cut [13,14] (fun b9 c5 wx=>∃q X f pl,b9=.pointer q/\c5=IP (some ⟨X,0,none⟩)/\Gi w A0 s.rows s.st s.dy s.p s.tk s.mo q X f pl wx)
 case first=>
  refine AE [] (fun _=>True) (fun W=>W.cell? ⟨h,0,none⟩=some _/\W.cell? ⟨h,1,none⟩=some _/\W.cell? ⟨h,2,none⟩=some _/\W.cell? ⟨h,3,none⟩=some _/\W.cell? ⟨h,4,none⟩=some _/\W.cell? ⟨h,5,none⟩=some _) trivial ⟨z0,z1,z2,z3,z4,z5⟩ (fun _ hU=>?_);refine tP 0 ?_;refine tP 1 ?_;refine tP 2 ?_;refine tP 3 ?_;refine tP 4 ?_;refine tP 5 ?_;refine tP 6 ?_;refine tP 7 ?_;refine tP 8 ?_;refine tP 9 ?_;refine tP 10 ?_;refine tP 11 ?_;refine tP 12 ?_;refine tP 13 ?_;refine tP 14 ?_;refine tP 15 ?_;refine tP 16 ?_;refine tP 17 ?_;refine tP 18 ?_;refine tP 19 ?_;refine tP 20 ?_;refine tP 21 ?_;refine tP 22 ?_;refine tP 23 ?_;refine tP 24 ?_;refine tP 25 ?_;refine tP 26 ?_;refine tP 27 ?_;refine tP 28 ?_;refine oN2 29 33 ?_ ?_
  ·intro K j
   go_simp;refine(HC _ (Z2 Q5)).mono ?_;rintro ev w1⟨u,hp⟩;have a0:=(Z2 (J9 w.heap.size w)).trans u;have a5:∃q f pl,ev=.returned (.tuple #[.pointer q,.agg #[I O f,I O pl]])/\((f≠0/\XR s.rows s.st s.dy s.p s.tk s.mo f pl)\/(f=0/\pl= -1/\XR s.rows s.st s.dy s.p s.tk s.mo 0 (-1)/\∃R F,q=some ⟨R,0,none⟩/\N4 w1 R F (BA s.rows s.st s.dy s.p s.tk s.mo)/\∀i,F i->w.heap.size<=i\/X5 A0=some i)):=by
    rcases hp with⟨n,pl,h1,h2,C⟩|⟨h1,R,F,h2,C,h4⟩
    ·exact⟨none,n,pl,h1,.inl ⟨h2,C⟩⟩
    exact⟨_,0,-1,h2,.inr ⟨rfl,rfl,h1,R,F,rfl,C,h4⟩⟩
   obtain⟨q,f,pl,rfl,hq⟩:=a5;obtain⟨J,HQ⟩:=Xt6 a0 hq;refine(fun E=>j _ _ (fun _=>trivial) E ?_) (Qx (N.keep a0));clear j u a0 hq hp;refine tP 30 ?_;refine tP 31 ?_;refine tP 32 ?_;refine oN 33 fun K j=>?_
   go_simp;have a1:Bz w (w1.alloc (.cells #[I O 0,I O 0] 80)):=J.alloc J.size _;refine(fun E=>j _ _ (fun _=>trivial) E ?_) (Qx (N.keep a1));refine tP 34 ?_;have D:=Z5 w1 80 #[I O 0,I O 0];obtain⟨x0,x1⟩:=TY D;have f0:=K0 D 0;have f1:=K0 D 1;have b5:Bz w (w1.alloc (.cells #[I O f,I O pl] 80)):=J.alloc J.size _;have hs:Gi w A0 s.rows s.st s.dy s.p s.tk s.mo q w1.heap.size f pl (w1.alloc (.cells #[I O f,I O pl] 80)):=⟨b5,Z5 _ _ _,HQ.imp id (fun⟨h1,_,C,R,F,h4,Z,h6⟩=>⟨h1,C,R,F,h4,Z.below ((J9 _ w1).alloc Q2 _),h6⟩)⟩;clear j;refine oN 35 fun K j=>?_
   go_simp;refine(fun E=>j _ _ (fun _=>trivial) E ?_) (Qx (N.keep hs.1));clear j;refine YW ?_ Q4 _;go_wp2;go_meet;exact⟨q,_,f,pl,rfl,rfl,hs⟩
  intro K j;go_simp;obtain⟨wa,a3⟩:=exq ((w.alloc (.cells #[I O 0,I O 0] 80)).drew);have a1:Bz w wa:=a3▸Z2 ((J9 _ w).alloc Q2 _);have a9:J7 wa w.heap.size 80 #[I O 0,I O 0]:=a3▸Y6 (Z5 w _ _);rw[a3];refine(fun E=>j _ _ (fun _=>trivial) E ?_) (Qx (N.keep a1));clear j a3;refine oN 29 fun K j=>?_
  go_simp;refine(HC wa a1).mono ?_;rintro ev w1⟨u,hp⟩;have a0:=a1.trans (u.mono a1.size);have D:=a9.keep u;have c6:=a9.lt;have a5:∃q f pl,ev=.returned (.tuple #[.pointer q,.agg #[I O f,I O pl]])/\((f≠0/\XR s.rows s.st s.dy s.p s.tk s.mo f pl)\/(f=0/\XR s.rows s.st s.dy s.p s.tk s.mo 0 (-1)/\∃R F,q=some ⟨R,0,none⟩/\N4 w1 R F (BA s.rows s.st s.dy s.p s.tk s.mo)/\∀i,F i->(w.heap.size<=i\/X5 A0=some i)/\i≠w.heap.size)):=by
   rcases hp with⟨n,pl,h1,h2,C⟩|⟨h1,R,F,h2,C,h4⟩
   ·exact⟨none,n,pl,h1,.inl ⟨h2,C⟩⟩
   refine⟨_,0,-1,h2,.inr ⟨rfl,h1,R,F,rfl,C,fun i y=>?_⟩⟩;obtain Z|Z:=h4 i y
   ·exact⟨.inl (U4 a1.size Z),Q0⟩
   exact⟨.inr Z,by have:=b2.lt Z;omega⟩
  obtain⟨q,f,pl,rfl,hq⟩:=a5;have hk:X4 (fun i=>i=w.heap.size) w1 ((w1.setCell ⟨w.heap.size,0,none⟩ (I O f)).setCell ⟨w.heap.size,1,none⟩ (I O pl)):=T4 (T4 (BG _ _) 0 _) 1 _;have hs:Gi w A0 s.rows s.st s.dy s.p s.tk s.mo q w.heap.size f pl ((w1.setCell ⟨w.heap.size,0,none⟩ (I O f)).setCell ⟨w.heap.size,1,none⟩ (I O pl)):=⟨a0.trans (hk.below (fun i y=>by rw[y];exact X3 _) a0.size),Z0 (Z0 D 0 _) 1 _,hq.imp id (fun⟨h1,C,R,F,h4,Z,h6⟩=>⟨h1,C,R,F,h4,Z.keeps hk (fun i y=>(h6 i y).2),fun i y=>(h6 i y).1⟩)⟩;refine(fun E=>j _ _ (fun _=>trivial) E ?_) (Qx (N.keep a0));obtain⟨x0,x1⟩:=TY D;have f0:=K0 D 0;have f1:=K0 D 1;clear j u hp hq hk;refine tP 30 ?_;refine tP 31 ?_;refine tP 32 ?_;refine tP 34 ?_;refine oN 35 fun K j=>?_
  go_simp;refine(fun E=>j _ _ (fun _=>trivial) E ?_) (Qx (N.keep hs.1));clear j;refine YW ?_ Q4 _;go_wp2;go_meet;exact⟨q,_,f,pl,rfl,rfl,hs⟩
 obtain⟨q,X,f,pl,rfl,rfl,u,D,hc⟩:=hcut;obtain⟨J,HQ⟩:=Xt6 u hc;obtain⟨x0,x1⟩:=TY D;clear u D hc
 by_cases hf:f=0
 ·subst hf
  obtain⟨hC,R,F,rfl,hR,hF⟩:=HQ.elim (fun h=>absurd rfl h.1) (fun h=>h.2);obtain⟨HR,HF,HC⟩:=Xt7 hR hF hC;have a4:=N.keep J;obtain⟨z0,z1,z2,z3,z4,z5,z6⟩:=BC a4;have f6:=K0 a4 6;clear hR hF hC a4;go_wp2;go_ret2;refine LG (by rw[Hr.out,Qq (d:=s) HC.out]) rfl Q1 (by unfold V3;omega) ?_;rw[Hr.out,Qq (d:=s) HC,X0 rfl];have c7:=N.lt;have a7:∀i,F i->i≠h:=fun i y e=>by
   obtain h1|h1:=HF.out i y
   ·omega
   exact(a6 i h1).1 e
  have hk:=U1 wc ⟨h,6,none⟩ (IP (some ⟨R,0,none⟩));refine⟨fun i=>i=h\/F i,LM.at_ ⟨_,_,_,_,_,_,R,F,Z0 (N.keep J) 6 _,HR.keeps hk (fun i y e=>a7 i y e),fun e=>a7 h e rfl,fun i=>KL⟩ ⟨Qg0 HC (k+1),U9 _⟩ rfl,(X4.after J hk).mono (fun i y=>by rw[y];exact HG),fun i y=>?_⟩;obtain e1|e1:=y
  ·exact .inl (by rw[e1];exact HG)
  exact(HF i e1).symm.imp (fun h1=>(a6 i h1).2) id
 have d1:=XQ hf;have hC:=J6 (HQ.elim (fun h=>h.2) (fun h=>absurd h.1 hf));go_wp2_with fail
 refine AE [] (fun _=>True) (fun W=>W.cell? ⟨X,0,none⟩=some _) trivial x0 (fun _ hU=>?_);refine tP 0 ?_;refine tP 1 ?_;refine tP 2 ?_;refine tP 3 ?_;refine YW ?_ Q4 _;go_wp2;go_ret2;refine LG ?_ rfl Q1 (Qg2 hC) ?_
 ·rw[Hr.out,Qq (d:=s) hC,LK hf];exact(LK hf _).symm
 rw[Hr.out,Qq (d:=s) hC,J8 hf];exact HI.desk.to (Z2 J)
theorem Jk4(N:ZG w h G k s A n0 ws (-1) l)(d7:l.length % 2=0)(i6:n0<=100000)(he:s.e=none):Calls prog 13 #[pA h,.string (S9 16),.slice A n0 c0] w (VH w h G k (AN s ws)):=by
 have hr:AN s ws=({s with rows:=JS l},.ok [116,97,98,108,101]):=by unfold AN V8 YZ;rw[N.nums];simp only[d7,he,if_true]
 obtain⟨A0,c1,E,h2,g7,d2⟩:=(N.desk.n he).parts;have g6:=Z2 (J9 w.heap.size w);obtain⟨HI,f8,HG,Hr,He,HL⟩:=Xu0 N E d2 hr he N.len;obtain⟨qn,e6⟩:∃qn,n0=2*qn:=⟨n0/2,by rw[<-N.len];omega⟩;obtain⟨a0,c6,f9⟩:=Xt7 e6 N.cells N.far;obtain⟨i0,d9,e9,f1,f2⟩:=W8 Jw3;unfold AC at E;obtain⟨nr,e3⟩:=exq s.rows.length;rw[e3]at E;obtain⟨z0,z1,z2,z3,z4,z5,z6⟩:=BC E;have f0:=K0 E 0;have g5:=E.lt;clear N hr he E h2 g7 d2 e3 g6 d7 e6 z1 z2 z3 z4 z5;unfold S9 QP;simp only[List.getD_cons_succ,List.getD_cons_zero];go_enter func13,ntmps13
 go_wp2_with fail
 go_loopg [12] qn (fun gg h3 wx=>∃(k j J:Nat)(A9:Option Addr),k=2*j/\j<=qn/\gg=qn-j/\h3=I O k/\X4 (fun i=>i=h) w wx/\J7 wx h 51 #[.slice A9 j J,I O s.st,I O s.dy,I O s.p,I O s.tk,I O s.mo,.pointer none]/\X8 wx A9 j J 78 2 (X7 BX (JS (l.take k)))/\∀g,X5 A9=some g->w.heap.size<=g)
 case atStart=>exact⟨0,0,0,none,rfl,U9 _,rfl,rfl,U1 w ⟨h,0,none⟩ _,Z0 f8 0 (.slice none 0 0),QY _ _ _ _,by simp[X5]⟩
 obtain⟨k,j,J,A9,a3,hj,rfl,rfl,hK,E,hR,e8⟩:=hrel;obtain⟨HK,b1,HR,a4,c7⟩:=Xt9 hK E hR e8 a3;have f5:=(BC E).1;have h5:=K0 E 0;clear hK E hR e8 z0 f0 z6
 by_cases i3:k<n0
 ·have e5:=a0.out
  have h8:(0:Int)<=(k:Int):=Q0;have h9:(k:Int)<(n0:Int):=Q0;obtain⟨C,b8⟩:∃C:Nat,C=k+1:=⟨_,rfl⟩;have i7:RowKit.wrap64 ((k:Int)+1)=(C:Int):=by unfold RowKit.wrap64;omega
  have i8:IntKind.i64.wrap ((k:Int)+1)=(C:Int):=by rw[YR];omega
  have i1:(C:Int)<(n0:Int):=Q0;have i2:(0:Int)<=(C:Int):=Q0;have h0:k<l.length:=by have:=HL.out;omega
  have e2:k+1<l.length:=by have:=HL.out;omega
  obtain⟨x,HX⟩:∃x,Hid (l[k]=x):=⟨_,J6 rfl⟩;obtain⟨y,HY⟩:∃y,Hid (l[k+1]=y):=⟨_,J6 rfl⟩;obtain⟨u,D,d0,cx⟩:=c6.out k (YL x) (by rw[GP,JY h0,HX.out];rfl);obtain⟨h6,j0,d1,cy⟩:=c6.out (k+1) (YL y) (by rw[GP,JY e2,HY.out];rfl)
  cases d0.symm.trans d1;subst d0;have a8:u≠h:=f9.out u rfl;have a9:u<w.heap.size:=U5 w _ cx;have yx:wr.cell? ⟨u,D+k,none⟩=some (I O x):=(HK.cell (p:=⟨u,D+k,none⟩) a9 a8).trans cx;have yy:wr.cell? ⟨u,D+C,none⟩=some (I O y):=by rw[b8];exact(HK.cell (p:=⟨u,D+(k+1),none⟩) a9 a8).trans cy
  have g3:=J6 (show JS (l.take (k+2))=JS (l.take k)++[(x,y)] by subst a3;rw[<-HX.out,<-HY.out];exact Nb e2)
  have h4:=J6 b8;clear cx cy e5 a3 d1 b8;go_wp2_with fail
  have f3:wr.drew.cell? ⟨h,0,none⟩=some (.slice A9 j J):=f5;refine AE [19] (fun W=>W.cell? ⟨h,0,none⟩=some (.slice A9 j J)) (fun W=>W.cell? ⟨u,D+k,none⟩=some (I O x)/\W.cell? ⟨u,D+C,none⟩=some (I O y)) f3 ⟨yx,yy⟩ (fun hS hU=>?_);refine tP 0 ?_;refine tP 1 ?_;refine tP 2 ?_;refine tP 3 ?_;refine tN 4 ?_;refine tP 5 ?_;refine tP 6 ?_;refine tP 7 ?_;refine tP 8 ?_;refine tP 9 ?_;refine tP 10 ?_;refine tP 11 ?_;refine tP 12 ?_;refine tP 13 ?_;refine tP 14 ?_;obtain⟨wa,b0⟩:=exq ((wr.alloc (.cells #[I O x,I O y] 78)).drew);have Z:Bz wr wa:=b0▸Z2 ((J9 _ wr).alloc Q2 _);refine oN 15 fun K1 d3=>?_
  go_simp;have b5:u<wr.heap.size:=D0 a9 HK.size;have a6:wa.cell? ⟨u,D+k,none⟩=some (I O x)/\wa.cell? ⟨u,D+C,none⟩=some (I O y):=⟨(Z.cell (p:=⟨u,D+k,none⟩) b5).trans yx,(Z.cell (p:=⟨u,D+C,none⟩) b5).trans yy⟩;have d6:wa.cell? ⟨h,0,none⟩=some (.slice A9 j J):=(Z.cell (p:=⟨h,0,none⟩) b1.lt).trans f5;refine d3 _ _ (fun _=>d6) a6 ?_;clear d3;have h7:j<=100000:=by have:=a0.out;omega
  refine oN 16 fun K2 d4=>?_
  refine(X0 Q8).mpr ?_;refine wp_append_lies _ _ _ 47 rfl 0 78 i0 _ 2 16 underlying47 d9 e9 f1 f2 rfl Q0 (.slice A9 j J) j _ rfl (CC HR Z) ⟨wr.heap.size,0,none⟩ 1 1 [I O x,I O y] rfl rfl (XF (cs:= #[I O x,I O y]) (t:=78) (fr:=(0,0)) (by rw[<-b0];exact QN wr _)) J0 Q0 Q9 Q0 Q3 (wr.heap.size+1) (by rw[<-b0];simp) ?_;intro gg cap w8 e4 d8 b2 i4;have a2:=d8;rw[C8]at a2 b2;have c5:∀i,i<w.heap.size->some i≠X5 A9:=fun i hi e=>by have:=a4.out i e.symm;omega
  have a7:=TE (b1.keep Z) a2 (c5 h g5);have f4:=(BC a7).1;have g4:=K0 a7 0;have b9:w8.heap[u]?=wa.heap[u]?:=a2.block u (D0 b5 Z.size) (c5 u a9);have a5:w8.cell? ⟨u,D+k,none⟩=some (I O x)/\w8.cell? ⟨u,D+C,none⟩=some (I O y):=⟨(SR (a:=⟨u,D+k,none⟩) b9).trans a6.1,(SR (a:=⟨u,D+C,none⟩) b9).trans a6.2⟩;refine d4 _ _ (fun _=>f4) a5 ?_;obtain⟨g0,a1,f6,f7⟩:=Xt8 e4 a2 b2 a7;clear d4 e4 d8 a2 b2 a7 b9 a6 d6 b0;refine tP 17 ?_;refine tP 18 ?_;refine oN 19 fun K3 d5=>?_
  go_simp;refine(fun hu=>d5 _ _ (fun e=>absurd e Q1) hu ?_) ⟨XZ (p:=⟨h,0,none⟩) a5.1 a8,XZ (p:=⟨h,0,none⟩) a5.2 a8⟩;clear d5 a5 f4 g4 hS hU d9 e9 f1 f2 f3;refine YW ?_ Q4 _;have i9:IntKind.i64.wrap ((k:Int)+2)=((k+2:Nat):Int):=by rw[YR];omega
  go_wp2
  go_roundg (qn-(j+1))
  case measure=>have:=a0.out;have:=c7.out;omega
  have e5:=a0.out;have a3:=c7.out;have C:=HK.then_ Z;have k2:X4 (fun i=>i=h) w w8:=⟨a1.os.trans C.os,a1.tape.trans C.tape,a1.output.trans C.output,U4 C.size a1.size,fun i hi hn=>(a1.block i (D0 hi C.size) (c5 i hi)).trans (C.block i hi hn)⟩;have g8:w.heap.size<=gg:=by
   obtain h1|h1:=f6.out
   ·exact a4 _ h1
   have:=HK.size;have:=Z.size;omega
  refine⟨k+2,j+1,cap,some ⟨gg,0,none⟩,Q0,Q0,rfl,rfl,T4 k2 0 _,Z0 f7 0 _,?_,fun g hg=>by cases hg;exact g8⟩;rw[g3.out,AQ];exact RB (xs:=X7 BX (JS (l.take k))++BX (x,y)) g0 (U1 w8 ⟨h,0,none⟩ _) (fun g hg e=>by cases hg;have e:gg=h:=e;omega)
 have g9:k=n0:=by have:=a0.out;omega
 have i5:¬(k:Int)<(n0:Int):=Q0;have e7:l.take k=l:=M4 (by have:=HL.out;omega);have e1:j=qn:=by have:=a0.out;omega
 obtain⟨c8,g2⟩:=Xt6 (show(JS l).length=j by rw[e1];exact Cq qn l (by rw[HL.out];exact a0)) (show X8 wr A9 j J 78 2 (X7 BX (JS l)) by have:=HR.out;rw[e7]at this;exact this);clear e7 e1 a3 g9;go_wp2;go_ret2;refine LG (by rw[Hr.out];rfl) rfl Q1 (by unfold V3;omega) ?_;rw[Hr.out];refine Ym (s':={s with rows:=JS l}) Q5 HG HK He (A:=A9) (c:=J) ?_ ?_ (fun i hi=>⟨fun e=>?_,.inr (a4 i hi)⟩)
 ·unfold AC
  show J7 wr h _ #[.slice A9 (JS l).length J,_,_,_,_,_,_];rw[c8.out];exact b1
 ·show X8 wr A9 (JS l).length J _ 2 _
  rw[c8.out];exact g2
 have:=a4.out i hi;omega
end
def VN(i:Nat):Int:=([2,2,3,4,1,0,0,0,0,1,0,0,0,0,4,0,-1,0]:List Int).getD i 0
theorem Jk5{d r f}(h:r=none):V8 d r f=(d,.bad 3):=by rw[h];rfl
theorem Xg4{d ws i}(u:i<18)(h:D6 ws (VN i)=none):(CR.getD i VX) d ws=(d,.bad 3):=by
 have j:i=0\/i=1\/i=2\/i=3\/i=4\/i=5\/i=6\/i=7\/i=8\/i=9\/i=10\/i=11\/i=12\/i=13\/i=14\/i=15\/i=16\/i=17:=Q0;obtain rfl|rfl|rfl|rfl|rfl|rfl|rfl|rfl|rfl|rfl|rfl|rfl|rfl|rfl|rfl|rfl|rfl|rfl:=j
 all_goals exact Jk5 h
theorem Xg5 {w h k n0 c0 G s A ws l i} (J : i < 18) (u : ZG w h G k s A n0 ws (VN i) l) (E : Lib.TabIs Tryz.prog w "strings.asciiSpace" .u8 Lib.asciiSpaceTab) (C : i = 16 → l.length % 2 = 0) (D : n0 ≤ 100000) :
  Calls prog 13 #[IP (some ⟨h,0,none⟩),.string (S9 i),.slice A n0 c0] w (VH w h G k ((CR.getD i VX) s ws)):=by
 have y:i=0\/i=1\/i=2\/i=3\/i=4\/i=5\/i=6\/i=7\/i=8\/i=9\/i=10\/i=11\/i=12\/i=13\/i=14\/i=15\/i=16\/i=17:=Q0;have N:=u.nums
 cases j:s.e with
 |none=>
  obtain rfl|rfl|rfl|rfl|rfl|rfl|rfl|rfl|rfl|rfl|rfl|rfl|rfl|rfl|rfl|rfl|rfl|rfl:=y
  ·exact Qt5 u j
  ·exact Tw u
  ·exact Jk2 u j
  ·exact LX u.desk j 3 Q0 (by show VE _ _ _=_;unfold VE V8 D3;erw [N];rw[j])
  ·exact LX u.desk j 4 Q0 (by show CF _ _=_;unfold CF V8 D3;erw [N];rw[j])
  ·exact Rl u
  ·exact LX u.desk j 6 Q0 (by show DW _ _=_;unfold DW V8 D3;erw [N];rw[j])
  ·exact Tv u
  ·exact LX u.desk j 8 Q0 (by show EJ _ _=_;unfold EJ V8 D3;erw [N];rw[j])
  ·exact LX u.desk j 9 Q0 (by show CP _ _=_;unfold CP V8 D3;erw [N];rw[j])
  ·exact LX u.desk j 10 Q0 (by show ES _ _=_;unfold ES V8 D3;erw [N];rw[j])
  ·exact LX u.desk j 11 Q0 (by show FJ _ _=_;unfold FJ V8 D3;erw [N];rw[j])
  ·exact LX u.desk j 12 Q0 (by show FX _ _=_;unfold FX V8 D3;erw [N];rw[j])
  ·exact LX u.desk j 13 Q0 (by show FE _ _=_;unfold FE V8 D3;erw [N];rw[j])
  ·exact LX u.desk j 14 Q0 (by show VE _ _ _=_;unfold VE V8 D3;erw [N];rw[j])
  ·exact Jk3 u j
  ·exact Jk4 u (C rfl) D j
  exact LX u.desk j 17 Q0 (by show CN _ _=_;unfold CN V8 D3;erw [N];rw[j])
 |some m=>
  obtain rfl|rfl|rfl|rfl|rfl|rfl|rfl|rfl|rfl|rfl|rfl|rfl|rfl|rfl|rfl|rfl|rfl|rfl:=y
  ·exact Ut u.desk j 0 Q0 (by show EN _ _=_;unfold EN V8 YZ;erw [N];simp only[j])
  ·exact Tw u
  ·exact Ut u.desk j 2 Q0 (by show EW _ _=_;unfold EW V8 YZ;erw [N];simp only[j])
  ·exact Rk 1 3 Q0 u j
  ·exact Ja0 u j
  ·exact Rl u
  ·exact Tu 6 Q0 u j
  ·exact Tv u
  ·exact Tu 8 Q0 u j
  ·exact Jw1 u j
  ·exact Ja1 u j
  ·exact Jk1 u E j
  ·exact Jk0 u j
  ·exact Jw0 u j
  ·exact Rk 2 14 Q0 u j
  ·exact Ut u.desk j 15 Q0 (by show FQ _ _=_;unfold FQ V8 YZ;erw [N];simp only[j])
  ·exact Ut u.desk j 16 Q0 (by show AN _ _=_;unfold AN V8 YZ;erw [N];simp only[C rfl,j,if_true])
  exact Jv9 u j
def Ac:List MapEntry->List (Value×Value)->List MapEntry
 |es,[]=>es
 |es,p::l=>Ac (es++[⟨p.1,p.2,es.length⟩]) l
def Qy(kd:TypeDesc):List MapEntry->List (Value×Value)->Bool
 |es,[]=>true
 |es,p::l=>(match MR kd p.1 es with|some none=>true|_=>false) &&Qy kd (es++[⟨p.1,p.2,es.length⟩]) l
theorem Gz{P:Program}{ops:Array Oper}{Q:Exit->Act->World->Prop}{a:Act}(t:TypeId)(m:Operand){kt et:TypeId}{kd:TypeDesc}(ht:P.underlying t=some (.map kt et))(hk:P.underlying kt=some kd)(hp:Zj kd)(r:Nat)(hm:a.eval m=.map (some r)):∀(kv:List (Value×Value))(l:List Oper)(es:List MapEntry)(w:World),(l.take kv.length).map (fun o=>(o.op,o.guard,o.dst))=kv.map (fun p=>(Op.insert t m (.const p.1) (.const p.2),none,none))->M6 w r es es.length->Qy kd es kv=true->(∀w1,M6 w1 r (Ac es kv) (Ac es kv).length->CG w w1 r->wpList P ops Q (l.drop kv.length) a w1)->wpList P ops Q l a w
 | [],l,es,w,_,h,_,hK=>hK w h ⟨rfl,rfl,rfl,rfl,fun _ _=>rfl⟩
 |p::kv,[],es,w,hl,_,_,_=>by cases hl
 |p::kv,o::l,es,w,hl,h,hf,hK=>by
  simp only[List.length_cons,List.take_succ_cons,List.map_cons,List.cons.injEq,Prod.mk.injEq]at hl;obtain⟨⟨h1,h2,h3⟩,h4⟩:=hl;have hf1:MR kd p.1 es=some none:=by
   unfold Qy at hf
   cases h5:MR kd p.1 es with
   |none=>rw[h5]at hf;cases hf
   |some x=>
    cases x with
    |none=>rfl
    |some y=>rw[h5]at hf;cases hf
  have hf2:Qy kd (es++[⟨p.1,p.2,es.length⟩]) kv=true:=by unfold Qy at hf;rw[hf1]at hf;exact hf
  refine ZH w h2 m (.const p.1) (.const p.2) t h1 ht hk hp r es.length es p.1 p.2 hm rfl rfl h hf1 fun w1 hw1 ht1=>?_
  rw[h3];refine Gz t m ht hk hp r hm kv l _ w1 h4 (by simpa using hw1) hf2 fun w2 hw2 ht2=>hK w2 hw2 ⟨ht2.os.trans ht1.os,ht2.tape.trans ht1.tape,ht2.output.trans ht1.output,ht2.size.trans ht1.size,fun k hk=>(ht2.block k hk).trans (ht1.block k hk)⟩
def Fw:List (Value×Value):=QP.zipIdx.map fun x=>(.string ⟨x.1.toArray⟩,I O (VN x.2))
theorem Jw4:Ac [] Fw=SA (fun i=>I O (VN i)) QP 0:=Q4
theorem Jk6:Qy .string [] Fw=true:=Q4
theorem Jw5{w r n}(h:M6 w r (SA (fun i=>I O (VN i)) QP 0) n)c:(Instr.lookup 45 (.map (some r)) (.string c) true).run prog w=.ok (.tuple #[I O (if H6 c<18 then VN (H6 c)else 0),.bool (decide (H6 c<18))]) w:=by
 have u:=Cm (fun i=>I O (VN i)) c QP 0 0;rw[Xt underlying45 underlying9 UK h (.string c) (z:=I O 0) Q4 true _ u];rw[KC];have y:QP.length=18:=rfl;rw[y];show Result.ok (if true=true then _ else _) w=_;rw[X0 rfl];show Result.ok (Value.tuple #[(Option.map (·.2) (if H6 c<18 then some (H6 c,Value.int .i64 (VN (H6 c)))else none)).getD _,.bool (Option.isSome (if H6 c<18 then some (H6 c,Value.int .i64 (VN (H6 c)))else none))]) w=_
 by_cases j:H6 c<18
 ·simp[j]
 simp[j]
def PM(c:ByteArray):Int:=if H6 c<18 then VN (H6 c)else 0
def ND(c:ByteArray)(n:Nat):Bool:=decide (H6 c<18) && (((n:Int) ==PM c+1) || (decide (PM c<0) && ((n:Int)% 2 ==1)))
theorem Qd2{i}(u:i<18):(VN i<0->i=16)/\ -1<=VN i/\VN i<=4:=by have j:i=0\/i=1\/i=2\/i=3\/i=4\/i=5\/i=6\/i=7\/i=8\/i=9\/i=10\/i=11\/i=12\/i=13\/i=14\/i=15\/i=16\/i=17:=Q0;obtain rfl|rfl|rfl|rfl|rfl|rfl|rfl|rfl|rfl|rfl|rfl|rfl|rfl|rfl|rfl|rfl|rfl|rfl:=j<;>decide
theorem Jw6 c: -1<=PM c/\PM c<=4:=by
 unfold PM
 split
 ·exact(Qd2 J1).2
 omega
theorem Dm:∀ws:List ByteArray,VJ ws=if ws.all (fun s=>(ZF s).isSome)then some (ws.map GD)else none
 | []=>rfl
 |s::ws=>by
  unfold VJ;rw[Dm ws]
  cases h:ZF s with
  |none=>simp[h]
  |some v=>
   have e:GD s=v:=by unfold GD;rw[h];rfl
   simp only[List.all_cons,h,Option.isSome_some,Bool.true_and,List.map_cons,e]
   split<;>rfl
theorem Xp0{c ws}(h:ND c (ws.length+1)=true)(h2:ws.all (fun s=>(ZF s).isSome)=true):H6 c<18/\D6 ws (VN (H6 c))=some (ws.map GD)/\(H6 c=16->(ws.map GD).length % 2=0):=by
 unfold ND at h;simp only[Bool.and_eq_true,decide_eq_true_eq,Bool.or_eq_true,beq_iff_eq]at h;obtain⟨i,h⟩:=h;unfold PM at h;rw[X0 i]at h;refine⟨i,?_,fun e=>?_⟩
 ·unfold D6
  rw[J8 Q0,Dm,X0 h2]
 rw[e]at h;rw[UJ];have:VN 16= -1:=rfl;omega
theorem Qd3 c ws d:Zh d (c::ws)=if H6 c<18 then(((CR.getD (H6 c) VX) d ws).1,Zu ((CR.getD (H6 c) VX) d ws).2)else(d,BB 3):=rfl
theorem Xr8{c ws d}(h:¬(ND c (ws.length+1)=true/\ws.all (fun s=>(ZF s).isSome)=true)):Zh d (c::ws)=(d,BB 3):=by
 rw[Qd3]
 by_cases j:H6 c<18
 ·rw[X0 j]
  have D:(CR.getD (H6 c) VX) d ws=(d,.bad 3):=by
   cases i:D6 ws (VN (H6 c))with
   |none=>exact Xg4 j i
   |some l=>
    have u:=i;unfold D6 at i
    split at i
    ·cases i
    rename_i Z;rw[Dm]at i
    split at i
    ·rename_i C
     have h1:¬ND c (ws.length+1)=true:=fun e=>h ⟨e,C⟩
     have E:PM c=VN (H6 c):=X0 j;unfold ND at h1;simp only[Bool.and_eq_true,decide_eq_true_eq,Bool.or_eq_true,beq_iff_eq,j,true_and,E]at h1;have J:VN (H6 c)<0:=Q0;have y:=(Qd2 j).1 J;rw[y]at h1|-u;have hl:=(VV u).1;have N:VN 16= -1:=rfl;show AN d ws=_;unfold AN V8
     erw [u]
     simp only;rw[J8 Q0]
    cases i
  rw[D]
  rfl
 rw[J8 j]
theorem Xg6{c}(h:H6 c<18):S9 (H6 c)=c:=by have h1:QP.idxOf c.data.toList<QP.length:=h;have h2:=List.getElem_idxOf h1;unfold S9 H6;rw[Gj,JY h1];show(⟨(QP[QP.idxOf c.data.toList]).toArray⟩:ByteArray)=c;rw[h2]
theorem Tx{c ws d}(h:H6 c<18):Zh d (c::ws)=(((CR.getD (H6 c) VX) d ws).1,Zu ((CR.getD (H6 c) VX) d ws).2):=by rw[Qd3,X0 h]
theorem Xp1 n t:Zu (JQ n t)=if n=0 then t else BB n:=by
 unfold JQ
 split<;>rfl
