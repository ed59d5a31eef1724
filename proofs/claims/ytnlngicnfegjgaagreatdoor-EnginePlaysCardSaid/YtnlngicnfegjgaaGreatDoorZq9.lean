/- Parts. -/
import Derived.Test.YtnlngicnfegjgaaGreatDoorZq5
import Derived.Test.YtnlngicnfegjgaaGreatDoorZq4
import Derived.Test.YtnlngicnfegjgaaGreatDoorZq6
set_option linter.unusedVariables false
set_option maxRecDepth 100000
set_option maxHeartbeats 8000000
open Go.Proofs.Tryz
open Go.Value renaming int→I,pointer→IP
open Go.IntKind renaming i64→O
namespace Go.Proofs.YtnlngicnfegjgaaGreatDoor
open Go.RowKit
theorem Xc:(prog.info? 252).map (fun i=>(i.zero,i.size,i.bytes))=some (some (.agg #[I O 0,I O 0,I O 0]),3,24):=by kernel_rfl
theorem Qg8 w:(Go.sizeOf 252).run prog w= .ok 3 w:=by kernel_rfl
def Qd (w w':World) (A A':Option Addr) (n c':Nat) (qs:List X4):Prop:=
 J2 w' A' n c' 252 3 (Q9 X8 qs)/\Q6 (fun i=>Q7 A=some i) w w'/\ ∀g,Q7 A'=some g->Q7 A=some g\/w.heap.size<=g
theorem Qb0 w A n c qs i q (h:J2 w A n c 252 3 (Q9 X8 qs)) (D:Q1 w i 252 (X8 q).toArray) (hn:n<=100000):
  Calls prog 173 #[.slice A n c,I O n,.slice (some ⟨i,0,none⟩) 1 1] w fun e w'=>
   ∃A' c',e= .returned (.slice A' (n+1) c')/\Qd w w' A A' (n+1) c' (qs++ [q]):=by
 obtain⟨i0,a0,U,N,J⟩:=N0 Xc
 have C: ∀j u,(X8 q)[j]?=some u->w.cell? ((⟨i,0,none⟩:Addr).add j)=some u:=by
  have:=JB (cs:=(X8 q).toArray) D;simpa using this
 have HN:=Q0 C
 have HH:=Q0 (show w.ownsRow 0 252 3 (.slice A n c) n (Q9 X8 qs)from h)
 clear C h D
 go_enter func173,ntmps173
 go_wp2_with (at_builtin;refine ZL _ (by rfl) _ _ 98 (by rfl) 0 252 i0 _ 3 24 LC a0 U N J rfl (by omega) (.slice A n c) n _ (by rfl) HH ⟨i,0,none⟩ 1 1 (X8 q) (by rfl) (by rfl) HN (EN _) (by omega) (by unfold maxLen;omega) (by omega) (by simp) w.heap.size (by rfl) ?_;intro gg cap w3 E y v a1;have HO:=Q0 E;have HG:=Q0 y;have HT:=Q0 v;clear E y v)
 all_goals
  go_ret;refine⟨_,_,rfl, ?_, ?_, ?_⟩
  ·rw[UE];exact HO
  ·have:=Zx HG
   rw[A7]at this;exact this
  intro g Z
  cases Z;have:=HT.out;rw[A7]at this;exact this.imp id (fun h=>by show _<=gg;omega)
theorem Tj w b n c i qs E q (h:J2 w (some ⟨b,0,none⟩) n c 252 3 (Q9 X8 qs)) (U:Q1 w E 252 (X8 q).toArray) (b2:E≠b) (hn:n<=100000) (hi:i<n) (hc:n+1<=c):
  Calls prog 173 #[.slice (some ⟨b,0,none⟩) n c,I O i,.slice (some ⟨E,0,none⟩) 1 1] w fun e w'=>
   ∃A' c',e= .returned (.slice A' (n+1) c')/\Qd w w' (some ⟨b,0,none⟩) A' (n+1) c' (qs.take i++q::qs.drop i):=by
 obtain⟨u,hB,d3,c3,b0,a9⟩:=h.whole
 obtain⟨i0,c0,d1,b5,d8⟩:=N0 Xc
 have d4: ¬((i:Int)=(n:Int)):=by omega
 have c9:IntKind.i64.wrap ((i:Int)+ (1:Int))=(i:Int)+1:=by rw[AW];omega
 have d2:(0:Int)<=(i:Int)+1:=by omega
 have d6:((i:Int)+1).toNat=i+1:=by omega
 have d5: ¬(c=i+1):=by omega
 have d0:(i:Int)<=(n:Int)+1:=by omega
 have d7: ¬(c=i):=by omega
 have c8:i<=n:=by omega
 have HB:=Q0 hB
 have HV:=Q0 U
 have Z:=Q0 b0
 have HT:=Q0 a9
 clear hB U b0 a9
 have c6: ∀lb cb,(callFunc 185 #[.slice (some ⟨E,0,none⟩) 1 1,.slice (some ⟨b,(i+1)*3,none⟩) lb cb]).run prog w= .ok (.value (.bool false)) w:=fun lb cb=>by
  rw[Zq func185 (by kernel_rfl) (by kernel_rfl) (by kernel_rfl) (e:=Extern.SlicesOverlaps.overlaps #[98,98] #[4]) (by kernel_rfl),
   Lib.run_overlaps_apart w 98 4 252 LC 3 Qg8 ⟨E,0,none⟩ ⟨b,(i+1)*3,none⟩ 1 1 lb cb b2 252 252 3 u.length (Q1.shape HV) (by rw[Q1.shape HB.out];simp) (by have:=Z.out;omega) (J1 HV 0) (J1 HV 3)]
  rfl
 have c2:(Q9 X8 qs).length=n*3:=h.1
 have a1:((Q9 X8 qs).drop (i*3)).length=(n-i)*3:=by rw[KK,c2];omega
 have a8: ∀W,Q1 W b 252 u.toArray-> ∀C J sc D sl,D=n-i->n-i<=sl->(Builtin.copy_ #[98,98] C #[.slice (some ⟨b,(i+1)*3,none⟩) D J,.slice (some ⟨b,i*3,none⟩) sl sc]).run prog W= .ok (goInt (n-i:Nat)) (W.setRow b (splice u ((i+1)*3) ((Q9 X8 qs).drop (i*3))).toArray):=fun W hW C J sc D sl e1 e2=>
  LG W _ _ C 252 3 b ((i+1)*3) D J ⟨b,i*3,none⟩ sl sc u.toArray 252 ((Q9 X8 qs).drop (i*3)) (n-i) (by simp only[Nat.min_def];split<;>omega) LC (by rw[c0];simp[b5]) hW a1
   (fun j v N=>by
    rw[BX,J0 hW];rw[FS,<-HT.out,PC]at N
    split at N
    ·simpa using N
    cases N)
   (by rw[a1];simp[Z.out];omega) (fun v U=>LP EN qs v (YJ U))
 have b1: ∀W y,Q1 W b 252 (List.toArray y)->Q1 W E 252 (X8 q).toArray->y.length=c*3-> ∀C J D,1<=D->(Builtin.copy_ #[98,98] C #[.slice (some ⟨b,i*3,none⟩) D J,.slice (some ⟨E,0,none⟩) 1 1]).run prog W= .ok (goInt (1:Nat)) (W.setRow b (splice y (i*3) (X8 q)).toArray):=fun W y hW U hl C J D e1=>
  LG W _ _ C 252 3 b (i*3) D J ⟨E,0,none⟩ 1 1 y.toArray 252 (X8 q) 1 (by simp only[Nat.min_def];split<;>omega) LC (by rw[c0];simp[b5]) hW rfl
   (fun j v N=>by rw[BX,J0 U];simpa using N) (by simp[hl,E6];omega) (EN q)
 have a3:Q1 (w.drew) b 252 u.toArray:=HB.out
 have a0:=D6 w.drew b u.toArray (splice u ((i+1)*3) ((Q9 X8 qs).drop (i*3))).toArray 252 a3
 have a5:Q1 (w.drew.setRow b (splice u ((i+1)*3) ((Q9 X8 qs).drop (i*3))).toArray) E 252 (X8 q).toArray:=X0 (HV.drew) (B7 _ _ _) (fun e=>b2 e)
 have a6:(splice u ((i+1)*3) ((Q9 X8 qs).drop (i*3))).length=c*3:=by rw[NJ _ _ _ (by rw[a1,Z.out];omega),Z.out]
 have a7:=Ce u (Q9 X8 qs) (X8 q) i n 3 c8 HT (E6 q) (by rw[Z.out];omega)
 rw[Js E6]at a7
 have a4:=B7 w.drew b (splice u ((i+1)*3) ((Q9 X8 qs).drop (i*3))).toArray
 have a2:=a8 _ a3
 generalize splice u ((i+1)*3) ((Q9 X8 qs).drop (i*3))=y at*
 obtain⟨W1,b8⟩:=exr (w.drew.setRow b y.toArray)
 rw[<-b8]at a0 a5 a4 a2
 have HA:=Q0 a2
 have HC:=Q0 (b1 W1 y a0 a5 a6)
 have HF:=Q0 a7
 have HK:=Q0 a4
 have c5:=Q0 a0
 have b9:=Q0 a6
 clear a8 b1 a2 a7 a4 a0 a5 a6 a1 c2 b8 a3
 clear h
 go_enter func173,ntmps173
 go_wp2_with (simp only[c6])
 go_region_law (refine Jo rfl (.tmp 73) (.tmp 76) 98 98 rfl (.slice (some ⟨b,(i+1)*3,none⟩) (n-i) (c- (i+1))) (.slice (some ⟨b,i*3,none⟩) (n+1-i) (c-i)) (by simp[Act.eval,Act.put]) (by simp[Act.eval,Act.put]) (HA _ _ _ _ _ rfl (by omega)) ?_)
 have c7:=fun C=>HC C (c-i) (n+1-i) (by omega)
 go_wp2_with (simp only[c7])
 go_ret
 have c4:=D6 W1 b y.toArray (splice y (i*3) (X8 q)).toArray 252 c5
 have hR:=J2.of_whole (n:=n+1) (c:=c) (sz:=3) c4 hc c3 (by rw[NJ _ _ _ (by rw[b9.out];simp[E6];omega),b9.out])
 rw[HF.out]at hR
 refine⟨_,_,rfl,hR, ?_,fun g hg=> .inl hg⟩
 exact((U1 (J3 (Q2 _ w)) (fun i=>Q7 (some ⟨b,0,none⟩)=some i)).trans HK (fun i h=> .inl (by subst h;rfl))).trans (B7 _ _ _) (fun i h=> .inl (by subst h;rfl))
theorem Wc w b n c i qs N q (h:J2 w (some ⟨b,0,none⟩) n c 252 3 (Q9 X8 qs)) (hv:Q1 w N 252 (X8 q).toArray) (hn:n<=100000) (hi:i<n) (hc:c<n+1):
  Calls prog 173 #[.slice (some ⟨b,0,none⟩) n c,I O i,.slice (some ⟨N,0,none⟩) 1 1] w fun e w'=>
   ∃A' c',e= .returned (.slice A' (n+1) c')/\Qd w w' (some ⟨b,0,none⟩) A' (n+1) c' (qs.take i++q::qs.drop i):=by
 obtain⟨d9,hB,f3,e5,d5,b0⟩:=h.whole
 obtain⟨i0,b9,d6,b8,c9⟩:=N0 Xc
 have f4: ¬((i:Int)=(n:Int)):=by omega
 have e7:(c:Int)< (n:Int)+1:=by omega
 have e3:IntKind.i64.wrap ((i:Int)+ (1:Int))=(i:Int)+1:=by rw[AW];omega
 have f1:(0:Int)<=(i:Int)+1:=by omega
 have f5:((i:Int)+1).toNat=i+1:=by omega
 have e1:i<=n:=by omega
 have e9:(i:Int)<=(n:Int):=by omega
 have e6: ¬(c=i):=by omega
 have d4:(n:Int)+1- (i:Int)=((n+1-i:Nat):Int):=by omega
 have b1:i+ (n+1-i)=n+1:=by omega
 have U:(Q9 X8 qs).length=n*3:=h.1
 have a3:((Q9 X8 qs).drop (i*3)).length=(n-i)*3:=by rw[KK,U];omega
 have e4:=J5 hB
 have f6:=J5 hv
 have c1:(Builtin.firstCells i0.size i (.slice (some ⟨b,0,none⟩) i c)).run prog w.drew= .ok ((Q9 X8 qs).take (i*3)).toArray w.drew:=by
  rw[b8];exact run_firstCells_some w.drew 3 i ⟨b,0,none⟩ i c _ (by rw[T6,U];omega) (fun j v C=>by
   rw[BX,J0 (Z2 hB),QQ];rw[<-b0,Jl,PC]at C
   split at C
   ·simpa using C
   cases C)
 obtain⟨G,hG⟩:=exr (grownCap w (n+1) c 252)
 have d8:n+1<=G:=by rw[hG];exact grownCap_ge w _ _ _
 have c6:G<=maxLen:=by rw[hG];exact grownCap_le_maxLen w (n+1) c 252 (by unfold maxLen;omega)
 have e2:G<=9223372036854775807:=by unfold maxLen at c6;omega
 obtain⟨u,a4⟩: ∃u,u=(((Q9 X8 qs).take (i*3)).toArray++Builtin.zeroCells (Value.agg #[I O 0,I O 0,I O 0]).cells (n+1-i)++Builtin.zeroCells (Value.agg #[I O 0,I O 0,I O 0]).cells (G- (n+1))).toList:=⟨_,rfl⟩
 have Z:u.length=G*3:=by
  rw[a4];simp only[Array.length_toList,Array.size_append,List.size_toArray,List.length_take,U,size_zeroCells];simp[Value.cells];omega
 have d0:u.take (i*3)=(Q9 X8 qs).take (i*3):=by
  rw[a4];simp only[Array.toList_append,List.append_assoc];exact PV (by simp[U];omega) |>.trans (by simp[List.take_take])
 have c5: ∀y,(Builtin.append_ #[98,3] y #[.slice (some ⟨b,0,none⟩) i c,I O ((n:Int)+1- (i:Int))]).run prog w=
   .ok (.slice (some ⟨w.heap.size,0,none⟩) (n+1) G) (w.drew.alloc (.cells u.toArray 252)):=fun y=>by
  have h:=Lib.run_append_grow_zeros w 98 3 y 252 i0 _ .i64 .i64 LC VN b9 d6 (some ⟨b,0,none⟩) i c ((Q9 X8 qs).take (i*3)) c1 (n+1-i) (by omega) (by omega) (by omega) (by omega) (by rw[c9];omega) (by rw[c9,b1];exact growslice_fits hc (by omega));rw[b1,<-hG]at h;rw[d4,h,a4]
 obtain⟨W1,J⟩:=exr (w.drew.alloc (.cells u.toArray 252))
 obtain⟨H,hH⟩:=exr w.heap.size
 have b5:Q1 W1 H 252 u.toArray:=by rw[J,hH];exact J9 w.drew _ _
 have d1:Q1 W1 b 252 d9.toArray:=by rw[J];exact G7 (Z2 hB) _
 have d2:Q1 W1 N 252 (X8 q).toArray:=by rw[J];exact G7 (Z2 hv) _
 have a6:Below w.heap.size w W1:=by rw[J];exact(J3 (Q2 _ w)).alloc (Q4 _) _
 rw[<-J,<-hH]at c5
 have d7:b≠H:=by omega
 have f2:N≠H:=by omega
 have a1:(splice u (i*3) (X8 q)).length=G*3:=by rw[NJ _ _ _ (by rw[Z,E6];omega),Z]
 have c7: ∀y,(Builtin.copy_ #[98,98] y #[.slice (some ⟨H,i*3,none⟩) (n+1-i) (G-i),.slice (some ⟨N,0,none⟩) 1 1]).run prog W1= .ok (goInt (1:Nat)) (W1.setRow H (splice u (i*3) (X8 q)).toArray):=fun y=>
  LG W1 _ _ y 252 3 H (i*3) (n+1-i) (G-i) ⟨N,0,none⟩ 1 1 u.toArray 252 (X8 q) 1 (by simp only[Nat.min_def];split<;>omega) LC (by rw[b9];simp[b8]) b5 rfl
   (fun j v C=>by rw[BX,J0 d2];simpa using C) (by simp[Z,E6];omega) (EN q)
 have a5:=D6 W1 H u.toArray (splice u (i*3) (X8 q)).toArray 252 b5
 have a9:=X0 d1 (B7 W1 H (splice u (i*3) (X8 q)).toArray) d7
 have a2:=B7 W1 H (splice u (i*3) (X8 q)).toArray
 have b2:=Cr u (Q9 X8 qs) (X8 q) i n 3 e1 U d0 (E6 q) (by rw[Z];omega)
 rw[Js E6]at b2
 generalize splice u (i*3) (X8 q)=D at*
 obtain⟨E,c4⟩:=exr (W1.setRow H D.toArray)
 rw[<-c4]at a5 a9 a2 c7
 have a7: ∀y,(Builtin.copy_ #[98,98] y #[.slice (some ⟨H,(i+1)*3,none⟩) (n-i) (G- (i+1)),.slice (some ⟨b,i*3,none⟩) (n-i) (c-i)]).run prog E.drew= .ok (goInt (n-i:Nat)) (E.drew.setRow H (splice D ((i+1)*3) ((Q9 X8 qs).drop (i*3))).toArray):=fun y=>
  LG E.drew _ _ y 252 3 H ((i+1)*3) (n-i) (G- (i+1)) ⟨b,i*3,none⟩ (n-i) (c-i) D.toArray 252 ((Q9 X8 qs).drop (i*3)) (n-i) (by simp only[Nat.min_def];split<;>omega) LC (by rw[b9];simp[b8]) (Z2 a5) a3
   (fun j v C=>by
    rw[BX,J0 (Z2 a9)];rw[FS,<-b0,PC]at C
    split at C
    ·simpa using C
    cases C)
   (by rw[a3];simp[a1];omega) (fun v hv=>LP EN qs v (YJ hv))
 have c0:=D6 E.drew H D.toArray (splice D ((i+1)*3) ((Q9 X8 qs).drop (i*3))).toArray 252 (Z2 a5)
 have a8:=B7 E.drew H (splice D ((i+1)*3) ((Q9 X8 qs).drop (i*3))).toArray
 have c8:(splice D ((i+1)*3) ((Q9 X8 qs).drop (i*3))).length=G*3:=by rw[NJ _ _ _ (by rw[a3,a1];omega),a1]
 have a0:=J2.of_whole (n:=n+1) (c:=G) (sz:=3) c0 d8 c6 c8
 rw[b2]at a0
 generalize splice D ((i+1)*3) ((Q9 X8 qs).drop (i*3))=c3 at*
 obtain⟨W3,d3⟩:=exr (E.drew.setRow H c3.toArray)
 rw[<-d3]at a7 a8 a0
 have hK:Below w.heap.size w W3:=a6.trans (((a2.below (B:=w.heap.size) (fun i h=>by have:i=H:=h;omega) a6.size).trans (J3 (Q2 _ E))).trans (a8.below (B:=w.heap.size) (fun i h=>by have:i=H:=h;omega) (G0 a6.size a2.size)))
 have HK:=Q0 hK
 have HR:=Q0 a0
 have HH:=Q0 hH
 have f0: ¬(G=i):=by omega
 have e8: ¬(G=i+1):=by omega
 have HB:=Q0 a7
 clear hK a0 hH a8 c8 c0 a7 d3 a5 a9 a2 b2 c4 a1 b5 d1 d2 a6 J d0 Z a4 hG c1 a3 U d4 b1 hB hv h d5 b0
 go_enter func173,ntmps173
 go_wp2_with (first|(at_builtin;refine Lib.wpList_append_run _ rfl _ _ _ _ rfl _ _ rfl rfl _ _ (c5 _) ?_)|simp only[c7])
 go_region_law (refine Jo rfl (.tmp 50) (.tmp 53) 98 98 rfl (.slice (some ⟨H,(i+1)*3,none⟩) (n-i) (G- (i+1))) (.slice (some ⟨b,i*3,none⟩) (n-i) (c-i)) (by simp[Act.eval,Act.put]) (by simp[Act.eval,Act.put]) (HB _) ?_)
 go_wp2
 go_ret
 refine⟨_,_,rfl,HR,U1 HK _,fun g hg=> .inr (by cases hg;show _<=H;rw[HH.out];exact Q4 _)⟩
theorem Qb1 w A n c i qs j q (h:J2 w A n c 252 3 (Q9 X8 qs)) (v:Q1 w j 252 (X8 q).toArray) (D:Q7 A≠some j) (u:n<=100000) (J:i<=n):
  Calls prog 173 #[.slice A n c,I O i,.slice (some ⟨j,0,none⟩) 1 1] w fun e w'=>
   ∃A' c',e= .returned (.slice A' (n+1) c')/\Qd w w' A A' (n+1) c' (qs.take i++q::qs.drop i):=by
 have E:qs.length=n:=by have:=h.1;rw[YV E6]at this;omega
 by_cases e:i=n
 ·subst e
  have:=Qb0 w A i c qs j q h v u
  rwa [N7 (by omega),CG (by omega)]
 obtain⟨g,y,_⟩:=h.elem E6 (by omega) (i:=i) (by omega)
 subst y
 by_cases C:n+1<=c
 ·exact Tj w g n c i qs j q h v (fun e=>D (by rw[e];rfl)) u (by omega) C
 exact Wc w g n c i qs j q h v u (by omega) (by omega)
def ZJ (ps:List (Int×Int)):Nat->Int
 |0=>if ps.getD 0 (0,0)=(0,1)then 0 else 1
 |k+1=>BS (ps.getD k (0,0)).1 (ps.getD k (0,0)).2 (ps.getD (k+1) (0,0)).1 (ps.getD (k+1) (0,0)).2
theorem Qb2 b j len cap x y w (D:0<len)
  (E:w.cell? ⟨b,j,none⟩=some (I O x)) (C:w.cell? ⟨b,j+1,none⟩=some (I O y)):
  Calls prog 103 #[.slice (some ⟨b,j,none⟩) len cap,I O 0] w fun e w'=>e= .returned (I O (if(x,y)=(0,1)then 0 else 1))/\w=w':=by
 by_cases i:x=0
 ·by_cases hy:y=1
  ·have u:=Z0 i
   have v:=Z0 hy;rw[Q5 (by rw[i,hy])];clear i hy;go_enter func103,ntmps103
   go_wp2;go_ret;exact⟨rfl,rfl⟩
  have u:=Z0 i;have v:=X3 hy;rw[Q3 (by simp[hy])];clear i hy;go_enter func103,ntmps103
  go_wp2;go_ret;exact⟨rfl,rfl⟩
 have u:=X3 i
 rw[Q3 (by simp[i])]
 clear i
 go_enter func103,ntmps103
 go_wp2
 go_ret
 exact⟨rfl,rfl⟩
theorem Qp7 A len cap ps i w (h:T4 w A len cap ps) (u:i<len) (D:len<=20):
  Calls prog 103 #[.slice A len cap,I O (i:Int)] w fun e w'=>e= .returned (I O (ZJ ps i))/\Below w.heap.size w w':=by
 obtain⟨b,v,rfl,C,j⟩:=h.2 (by omega)
 cases i with
 |zero=>
  have y:=j 0 (by omega);refine(Qb2 b v len cap _ _ w u (by simpa using y.1) (by simpa using y.2)).mono ?_;rintro e w' ⟨rfl,rfl⟩;exact⟨rfl,Q2 _ _⟩
 |succ k=>
  exact Qf6 b v len cap k _ _ _ _ w u D C (j k (by omega)).1 (j k (by omega)).2 (j (k+1) u).1 (j (k+1) u).2
theorem Qz2:(prog.info? 33).map (fun i=>(i.zero,i.size,i.bytes))=some (some (.agg #[I O 0,I O 0]),2,16):=by kernel_rfl
def Qz3 (ps:List (Int×Int)) (w:World) (e:Ending) (w':World):Prop:=
 Below w.heap.size w w'/\
 ((ps.length=0/\e= .returned (.tuple #[.pointer none,.iface 52 (I O 8)]))\/
  (20<ps.length/\e= .returned (.tuple #[.pointer none,.iface 52 (I O 4)]))\/
  (0<ps.length/\ps.length<=20/\ ∃i,i<ps.length/\(∀j,j<i->ZJ ps j=0)/\ZJ ps i≠0/\ ∃g,e= .returned (.tuple #[.pointer none,.iface 172 (IP (some ⟨g,0,none⟩))])/\
   w.heap.size<=g/\w'.cell? ⟨g,0,none⟩=some (I O (ZJ ps i))/\w'.cell? ⟨g,1,none⟩=some (I O i))\/
  (0<ps.length/\ps.length<=20/\(∀j,j<ps.length->ZJ ps j=0)/\ ∃t A cap,e= .returned (.tuple #[IP (some ⟨t,0,none⟩),.nilIface])/\
   w.heap.size<=t/\t<w'.heap.size/\w'.cell? ⟨t,0,none⟩=some (.slice A ps.length cap)/\T4 w' A ps.length cap ps/\ ∀g,Q7 A=some g->w.heap.size<=g/\g≠t))
theorem Qz4 A len cap ps w (h:T4 w A len cap ps) (hm:len<=9223372036854775807):
  Calls prog 50 #[.slice A len cap] w (Qz3 ps w):=by
 have a2:=h.1
 by_cases h0:len=0
 ·subst h0
  go_enter func50,ntmps50
  go_wp2;go_ret2;exact⟨Q2 _ _,.inl ⟨a2,rfl⟩⟩
 by_cases c2:20<len
 ·have e0:((len:Int) ==0)=false:=by simp;omega
  go_enter func50,ntmps50
  go_wp2;go_ret2;exact⟨Q2 _ _,.inr (.inl ⟨by omega,rfl⟩)⟩
 have e0:((len:Int) ==0)=false:=by simp;omega
 have e1:decide (20< (len:Int))=false:=by simp;omega
 obtain⟨b,J,rfl,a3,N⟩:=h.2 (by omega)
 go_enter func50,ntmps50
 go_wp2
 go_loopw [19] (fun i wr=> ∃k,k<=len/\i=I O k/\Below w.heap.size w wr/\ ∀j,j<k->ZJ ps j=0) (fun i _=>len- (RowKit.intOf i).toNat)
 case atStart=>exact⟨0,V5 _,rfl,Q2 _ _,fun j hj=>by omega⟩
 obtain⟨k,hk,rfl,u,a5⟩:=hrel
 have a0:=Q0 a5
 clear a5
 by_cases a1:k<len
 ·have hP:T4 wr (some ⟨b,J,none⟩) len cap ps:=h.below u (Q4 _)
  have q1:=(u.cell (p:=⟨b,J+k*2,none⟩) a3).trans (N k a1).1;have q2:=(u.cell (p:=⟨b,J+k*2+1,none⟩) a3).trans (N k a1).2;have HP:=Q0 hP;clear hP N h;generalize hx:(ps.getD k (0,0)).1=x at q1;generalize hy:(ps.getD k (0,0)).2=y at q2;clear hx hy;go_wp2_with fail
  refine(Qp7 _ len cap ps k _ (HP.below ((Q2 wr.heap.size wr).alloc (Q4 _) _) (Q4 _)) a1 (by omega)).mono ?_;rintro e w1 ⟨rfl,v⟩;have E:Below w.heap.size w w1:=(u.alloc u.size _).trans (v.mono (by simp;have:=u.size;omega))
  by_cases C:ZJ ps k=0
  ·have Hz:=Q0 C
   rw[C];clear C;have r0:w1.cell? ⟨wr.heap.size,0,none⟩=some (I O x):=(v.cell (p:=⟨wr.heap.size,0,none⟩) (by simp)).trans (by simp);have r1:w1.cell? ⟨wr.heap.size,1,none⟩=some (I O y):=(v.cell (p:=⟨wr.heap.size,1,none⟩) (by simp)).trans (by simp);go_wp2
   go_roundw
   case rel=>
    refine⟨k+1,by omega,by go_num,E,fun j hj=> ?_⟩;rcases MP (Nat.le_of_lt_succ hj)with h|h
    ·exact a0 j h
    rw[h];exact Hz
   simp[RowKit.intOf];omega
  have b8:(ZJ ps k != 0)=true:=JF C;have Hz:=Q0 C;obtain⟨e,U⟩:=exq (ZJ ps k);rw[U]at b8;rw[U];have He:=Q0 U;clear C U;go_wp2;go_ret2;refine⟨E.alloc E.size _,.inr (.inr (.inl ⟨by omega,by omega,k,by omega,a0,Hz,w1.heap.size,rfl,E.size, ?_, ?_⟩))⟩
  ·rw[He.out];simp
  simp
 obtain rfl:k=len:=by omega
 obtain⟨i0,b5,b1,a9,a8⟩:=N0 Qz2
 have HP:=Q0 (h.below u (Q4 _))
 have a6:=u.size
 have c1:=Q0 a2
 have D:=Q0 h.1
 clear N h a2
 go_wp2_with ((with_reducible (refine ZL _ rfl (.tmp 36) (.tmp 37) 34 rfl w.heap.size 33 i0 _ 2 16 underlying34 b5 b1 a9 a8 (by with_unfolding_all rfl) (by omega) (.slice (some ⟨wr.heap.size,0,none⟩) 0 0) 0 [] (by with_unfolding_all rfl) (World.ownsRow_made wr #[] 0 a6 (by omega) rfl) ⟨b,J,none⟩ k cap (AQ ps) (by with_unfolding_all rfl) (by rw[Zw,D.out]) (HP.out.below ((Q2 wr.heap.size wr).alloc (Q4 _) _) (Q4 _)).news (Tc ps) (by omega) (by unfold maxLen;omega) (by omega) (by simp;omega) (wr.heap.size+1) (by simp) ?_));intro g a4 w1 a7 b2 b0 c0)
 go_ret2
 have v:Below w.heap.size w w1:=(u.alloc a6 _).grown b2 (by simp;omega) (fun q Z=>by simp[Value.ownBlock]at Z;omega)
 simp only[Nat.zero_add,List.nil_append]at a7
 have b9:=(T4.of_own a7).below ((Q2 w1.heap.size w1).alloc (Q4 _) (.cells #[.slice (some ⟨g,0,none⟩) k a4] 144)) (Q4 _)
 refine⟨v.alloc v.size _,.inr (.inr (.inr ⟨by have:=D.out;omega,by have:=D.out;omega,fun j hj=>a0 j (by have:=D.out;omega),w1.heap.size,some ⟨g,0,none⟩,a4,rfl,v.size,by simp, ?_, ?_⟩))⟩
 ·simp;exact D.symm
 rw[D.out]
 refine⟨b9,fun q Z=> ?_⟩
 have e1:g=q:=by simpa [Q7]using Z
 subst e1
 have h8:wr.heap.size<=g:=by
  rcases b0 with x|x
  ·have:wr.heap.size=g:=by simpa [Value.ownBlock]using x
   omega
  omega
 exact⟨by omega,by omega⟩
def phAt (ps:List (Int×Int)) (now:Int):Nat->Int×Int
 |0=>(1,-1)
 |k+1=>if(ps.getD k (0,0)).1<=now\/k=0 then((ps.getD k (0,0)).2,if k+1<ps.length then(ps.getD (k+1) (0,0)).1 else -1)else phAt ps now k
theorem Nj {ps now k} (h: ¬(ps.getD k (0,0)).1<=now) (hk:k≠0):phAt ps now (k+1)=phAt ps now k:=by
 simp only[phAt];rw[Q3 (by omega)]
theorem Jh0 {ps now k} (h:(ps.getD k (0,0)).1<=now\/k=0) (hk:k+1<ps.length):phAt ps now (k+1)=((ps.getD k (0,0)).2,(ps.getD (k+1) (0,0)).1):=by
 simp only[phAt];rw[Q5 h,Q5 hk]
theorem Qp8 {ps now k} (h:(ps.getD k (0,0)).1<=now\/k=0) (hk: ¬k+1<ps.length):phAt ps now (k+1)=((ps.getD k (0,0)).2,-1):=by
 simp only[phAt];rw[Q5 h,Q3 hk]
theorem Qp9 t A len cap ps now w (ht:t<w.heap.size) (h:T4 w A len cap ps) (hc:w.cell? ⟨t,0,none⟩=some (.slice A len cap)) (h0:0<len) (hm:len<=20):
  Calls prog 37 #[IP (some ⟨t,0,none⟩),I O now] w fun e w'=>e= .returned (.tuple #[I O (phAt ps now len).1,I O (phAt ps now len).2])/\Below w.heap.size w w':=by
 obtain⟨b,J,rfl,N,_⟩:=h.2 h0
 have U:=Q0 h.1
 go_enter func37,ntmps37
 go_wp2
 go_loopw [4,5,13] (fun p n i wr=> ∃k,k<=len/\i=I O k/\p=I O (phAt ps now k).1/\n=I O (phAt ps now k).2/\Below w.heap.size w wr) (fun _ _ i _=>len- (RowKit.intOf i).toNat)
 case atStart=>exact⟨0,V5 _,rfl,rfl,rfl,Q2 _ _⟩
 obtain⟨k,hk,rfl,rfl,rfl,j⟩:=hrel
 by_cases a1:k<len
 ·have a2: ∀o,(wr.alloc o).cell? ⟨t,0,none⟩=some (.slice (some ⟨b,J,none⟩) len cap):=fun o=>(S4 _ _ _ (T8 ht j.size)).trans ((j.cell (p:=⟨t,0,none⟩) ht).trans hc)
  have q1:=(j.cell (p:=⟨b,J+k*2,none⟩) N).trans (h.at_ a1).1;have q2:=(j.cell (p:=⟨b,J+k*2+1,none⟩) N).trans (h.at_ a1).2;have C:=fun a b=>Q0 (Nj (ps:=ps) (now:=now) (k:=k) a b)
  have u:=fun a b=>Q0 (Jh0 (ps:=ps) (now:=now) (k:=k) a b)
  have v:=fun a b=>Q0 (Qp8 (ps:=ps) (now:=now) (k:=k) a b)
  have Hq:=Q0 h;generalize phAt ps now k=pk at*;have a0: ∀h1:k+1<len,wr.cell? ⟨b,J+ (k+1)*2,none⟩=some (I O (ps.getD (k+1) (0,0)).1):=fun h1=>(j.cell (p:=⟨b,J+ (k+1)*2,none⟩) N).trans (Hq.at_ h1).1
  clear h hc;generalize(ps.getD k (0,0)).1=x at*;generalize(ps.getD k (0,0)).2=y at*;generalize(ps.getD (k+1) (0,0)).1=z at*
  by_cases h1:k+1<len
  ·have q3: ∀o,(wr.alloc o).cell? ⟨b,J+ (k+1)*2,none⟩=some (I O z):=fun o=>(S4 _ _ _ (T8 N j.size)).trans (a0 h1)
   clear a0
   by_cases D:x<=now
   ·have P:=u (Or.inl D) (by have:=U.out;omega)
    clear u C v;go_wp2
    go_roundw
    case rel=>exact⟨k+1,by omega,by go_num,by rw[P.out],by rw[P.out],j.alloc j.size _⟩
    simp[RowKit.intOf];omega
   have dx:decide (x<=now)=false:=Z1 D
   by_cases E:k=0
   ·have P:=u (Or.inr E) (by have:=U.out;omega)
    have Z:((k:Int) ==0)=true:=Z0 (by omega);clear u C v E;go_wp2
    go_roundw
    case rel=>exact⟨k+1,by omega,by go_num,by rw[P.out],by rw[P.out],j.alloc j.size _⟩
    simp[RowKit.intOf];omega
   have P:=C D E;have Z:((k:Int) ==0)=false:=X3 (by omega);clear u C v;go_wp2
   go_roundw
   case rel=>exact⟨k+1,by omega,by go_num,by rw[P.out],by rw[P.out],j.alloc j.size _⟩
   simp[RowKit.intOf];omega
  have d1:decide ((k:Int)+1< (len:Int))=false:=Z1 (by omega);clear a0
  by_cases D:x<=now
  ·have P:=v (Or.inl D) (by have:=U.out;omega)
   clear u C v;go_wp2
   go_roundw
   case rel=>exact⟨k+1,by omega,by go_num,by rw[P.out],by rw[P.out],j.alloc j.size _⟩
   simp[RowKit.intOf];omega
  have dx:decide (x<=now)=false:=Z1 D
  by_cases E:k=0
  ·have P:=v (Or.inr E) (by have:=U.out;omega)
   have Z:((k:Int) ==0)=true:=Z0 (by omega);clear u C v E;go_wp2
   go_roundw
   case rel=>exact⟨k+1,by omega,by go_num,by rw[P.out],by rw[P.out],j.alloc j.size _⟩
   simp[RowKit.intOf];omega
  have P:=C D E;have Z:((k:Int) ==0)=false:=X3 (by omega);clear u C v;go_wp2
  go_roundw
  case rel=>exact⟨k+1,by omega,by go_num,by rw[P.out],by rw[P.out],j.alloc j.size _⟩
  simp[RowKit.intOf];omega
 obtain rfl:k=len:=by omega
 go_wp2
 go_ret2
 exact⟨rfl,j⟩
theorem Qz5 v w:(Instr.typeAssert (.iface 172 v) 44 172 true).run prog w= .ok (.tuple #[v,.bool true]) w:=by kernel_rfl
theorem Qz6 v w:(Instr.typeAssert (.iface 52 v) 44 172 true).run prog w= .ok (.tuple #[.pointer none,.bool false]) w:=by kernel_rfl
theorem Gi v n pl w (j:YB w) (h:FU w v n pl):
  Calls prog 57 #[v] w fun e w'=>e= .returned (.tuple #[I O n,I O pl])/\Below w.heap.size w w':=by
 rcases h with⟨rfl,rfl,rfl⟩|⟨rfl,rfl⟩|⟨g,rfl,h2,u⟩
 ·go_enter func57,ntmps57
  go_wp2_with fail
  refine(Qy6 _).mono ?_;rintro e w1 ⟨rfl,rfl⟩;go_wp2;refine LF 1 ?_;rw[CN];go_wp2;go_ret2;exact⟨rfl,Q2 _ _⟩
 ·have C:=Qp1
  have D:=Qz6;go_enter func57,ntmps57
  go_wp2_with fail
  refine(Qg1 n _ j).mono ?_;rintro e w1 ⟨rfl,i⟩;go_wp2;refine LF 1 ?_;rw[CN];go_wp2;go_ret2;exact⟨rfl,i⟩
 have y:=V6 w _ h2
 have J:=Qz5
 go_enter func57,ntmps57
 go_wp2_with fail
 refine(Jg9 g n _ j h2).mono ?_
 rintro e w1 ⟨rfl,i⟩
 have E:=(i.cell (p:=⟨g,1,none⟩) y).trans u
 go_wp2
 refine LF 1 ?_
 rw[CN]
 go_wp2
 go_quiet (fail)
 go_wp2
 go_ret2
 exact⟨rfl,U7 i _⟩
theorem Ps v n pl f p w (E:YB w) (h:FU w v n pl):
  Calls prog 18 #[v,.agg #[I O f,I O p]] w fun e w'=>e= .returned (.bool (n ==f &&pl ==p))/\Below w.heap.size w w':=by
 have j:Below w.heap.size w (w.alloc (.cells #[I O f,I O p] 60)):=(Q2 _ w).alloc (Q4 _) _
 have y:=Q0 (E.below j (Q4 _))
 have C:=Q0 (h.below j)
 by_cases h1:n=f
 ·have u:=Z0 h1
  clear h1;go_enter func18,ntmps18
  go_wp2_with fail
  refine(Gi v n pl _ y C).mono ?_;rintro e w1 ⟨rfl,i⟩;have J:w1.cell? ⟨w.heap.size,0,none⟩=some (I O f):=(i.cell (p:=⟨w.heap.size,0,none⟩) (by simp)).trans (by simp);have D:w1.cell? ⟨w.heap.size,1,none⟩=some (I O p):=(i.cell (p:=⟨w.heap.size,1,none⟩) (by simp)).trans (by simp);go_wp2;go_ret;exact⟨T2 (by simp[u]),j.trans (i.mono (by simp))⟩
 have u:=X3 h1
 clear h1
 go_enter func18,ntmps18
 go_wp2_with fail
 refine(Gi v n pl _ y C).mono ?_
 rintro e w1 ⟨rfl,i⟩
 have J:w1.cell? ⟨w.heap.size,0,none⟩=some (I O f):=(i.cell (p:=⟨w.heap.size,0,none⟩) (by simp)).trans (by simp)
 have D:w1.cell? ⟨w.heap.size,1,none⟩=some (I O p):=(i.cell (p:=⟨w.heap.size,1,none⟩) (by simp)).trans (by simp)
 go_wp2
 go_ret
 exact⟨T2 (by simp[u]),j.trans (i.mono (by simp))⟩
theorem RQ f w:Calls prog 56 #[I O f] w fun e w'=>e= .returned (.agg #[I O f,I O (-1)])/\Below w.heap.size w w':=by
 go_enter func56,ntmps56
 go_wp2
 exact P4 (v:= .agg #[I O f,I O (-1)]) (by simp[results,Tryz.results56,go_sem]) rfl ⟨rfl,(Q2 _ w).alloc (Q4 _) _⟩
theorem Qz7 v n pl f w (j:YB w) (h:FU w v n pl):
  Calls prog 20 #[v,I O f] w fun e w'=>e= .returned (.bool (n ==f &&pl == -1))/\Below w.heap.size w w':=by
 go_enter func20,ntmps20
 go_wp2_with fail
 refine(RQ f _).mono ?_
 rintro e w1 ⟨rfl,i⟩
 go_wp2_with fail
 refine(Ps v n pl f (-1) _ (j.below i (Q4 _)) (h.below i)).mono ?_
 rintro e w2 ⟨rfl,u⟩
 go_wp2
 go_ret
 exact⟨rfl,i.trans (u.mono i.size)⟩
section
open Go.ChangeShapes Go.WideShapes
theorem et : Tryz.prog.globalNamed "errors.errorType" = some 0 := by kernel_rfl
theorem rt : (Tryz.prog.cutTypes.find? (·.1 == "internal/reflectlite.rtype")).map (·.2) = some 223 := by kernel_rfl
theorem Jk4:((List.range 320).filter fun t=>prog.rowNamed t [101,114,114,111,114])= [44]:=by kernel_rfl
theorem Qq0:prog.types.size=320:=by kernel_rfl
theorem Sj {W} (h : laidMetH Tryz.prog [("errors.errorType", Rows.laid_errors_errorType)] W) : YB W := by
 have y : laidMet Tryz.prog [] W ∧ handlesMet Tryz.prog [("errors.errorType", Rows.laid_errors_errorType)] W := h
 obtain⟨D,u,v,E,Z,N,U,j⟩:=y.2 _ (VK.2 rfl)
 have J:D= [101,114,114,111,114]:=(KZ E).symm
 subst J
 obtain rfl:=KZ (rt.symm.trans Z)
 have i:v∈(List.range 320).filter fun t=>prog.rowNamed t [101,114,114,111,114]:=P3.2 ⟨List.mem_range.2 (by rw[<-Qq0];exact N),U⟩
 rw[Jk4]at i
 obtain rfl:=VK.1 i
 have C:typeHandle prog 44= IP (some ⟨1,44,none⟩):=by kernel_rfl
 rw[C]at j
 have:=World.var?_cell et j 0
 simpa [YB]using this
noncomputable def Gj (os:Os):World:=
 let w0:=World.holding prog os ⟨#[],#[],[]⟩
 {w0 with heap:=w0.heap.modify 0 fun
   | .cells _ t frozen=> .cells #[.iface 223 (.agg #[IP (some ⟨1,44,none⟩)])] t frozen
   |o=>o}
theorem Tk os i : laidMetH Tryz.prog [("errors.errorType", Rows.laid_errors_errorType)] ((Gj os).forCall (fun _ _ => 0) ⟨#[], i, []⟩).memory :=
 laidMetH_of_parts (laidMet_nil _ _) (by kernel_rfl)
