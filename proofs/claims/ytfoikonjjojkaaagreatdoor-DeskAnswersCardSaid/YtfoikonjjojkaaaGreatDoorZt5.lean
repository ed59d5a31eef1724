/- Parts. -/
import Derived.Test.YtfoikonjjojkaaaGreatDoorZt4
set_option linter.unusedVariables false
set_option maxRecDepth 100000
set_option maxHeartbeats 8000000
open Go.Proofs.Tryz
open Go.Value renaming int→I,pointer→IP
open Go.IntKind renaming i64→O
namespace Go.Proofs.YtfoikonjjojkaaaGreatDoor
open Go.RowKit
section
variable {α:Type} {enc:α->List Value} {T TS k y fn ov:Nat} {z:Value}
structure SC(enc:α->List Value)(T TS k y fn ov:Nat)(z:Value):Prop where
 len:∀x,(enc x).length=k
 one:∀x,∀u∈enc x,u.oneCell'=true
 inst:T=331/\TS=198/\k=3/\y=24/\fn=270/\ov=287/\z=.agg #[I O 0,I O 0,I O 0]\/T=320/\TS=268/\k=2/\y=32/\fn=261/\ov=285/\z=.agg #[I O 0,.slice none 0 0]
theorem SC.facts(h:SC enc T TS k y fn ov z):(prog.info? T).map (fun i=>(i.zero,i.size,i.bytes))=some (some z,k,y)/\(∀w,(Go.sizeOf T).run prog w=.ok k w)/\prog.underlying TS=some (.slice T)/\(k=3/\y=24\/k=2/\y=32)/\z.cells.size=k/\∀args w,(callFunc ov args).run prog w=((Extern.SlicesOverlaps.overlaps #[TS,TS] #[4] args).run prog w).andThen fun v w'=>.ok (.value v) w':=by
 obtain⟨-,-,⟨rfl,rfl,rfl,rfl,rfl,rfl,rfl⟩|⟨rfl,rfl,rfl,rfl,rfl,rfl,rfl⟩⟩:=h
 ·exact⟨Q4,fun w=>Q4,underlying198,.inl ⟨rfl,rfl⟩,rfl,fun args w=>As func287 Q4 Q4 Q4 Q4 args w⟩
 exact⟨Q4,fun w=>Q4,underlying268,.inr ⟨rfl,rfl⟩,rfl,fun args w=>As func285 Q4 Q4 Q4 Q4 args w⟩
def Jg(enc:α->List Value)(T k:Nat)(w w':World)(A A':Option Addr)(n c':Nat)(qs:List α):Prop:=
 X8 w' A' n c' T k (X7 enc qs)/\X4 (fun i=>X5 A=some i) w w'/\∀g,X5 A'=some g->X5 A=some g\/w.heap.size<=g
theorem Qu5(i:SC enc T TS k y fn ov z)w A n c qs vb q(h:X8 w A n c T k (X7 enc qs))(hv:J7 w vb T (enc q).toArray)(hn:n<=100000):Calls prog fn #[.slice A n c,I O n,.slice (sA vb) 1 1] w fun e w'=>∃A' c',e=.returned (.slice A' (n+1) c')/\Jg enc T k w w' A A' (n+1) c' (qs++[q]):=by
 obtain⟨E,a5,hU,a1,a9,a4⟩:=i.facts;have a2:=i.len;have a3:=i.one;obtain⟨i0,a0,a6,a7,a8⟩:=W8 E;have J:∀j u,(enc q)[j]?=some u->w.cell? ((⟨vb,0,none⟩:Addr).add j)=some u:=by have:=XF (cs:=(enc q).toArray) hv;simpa using this
 obtain⟨HN,HH⟩:=Xt6 J (show w.ownsRow 0 T k (.slice A n c) n (X7 enc qs)from h);clear J h hv a1 a4 a5 E a9;obtain⟨-,-,⟨rfl,rfl,rfl,rfl,rfl,rfl,rfl⟩|⟨rfl,rfl,rfl,rfl,rfl,rfl,rfl⟩⟩:=i
 all_goals
  first|(go_enter func270,ntmps270)|(go_enter func261,ntmps261)
  go_wp2_with (at_builtin;refine VZ _ Q8 _ _ _ Q8 0 _ i0 _ _ _ hU a0 a6 a7 a8 rfl Q0 (.slice A n c) n _ Q8 HH ⟨vb,0,none⟩ 1 1 (enc q) Q8 (a2 q) HN (a3 _) Q0 Q9 Q0 Q3 w.heap.size Q8 ?_;intro gg cap w3 Z D C b0;have HO:=J6 Z;have HG:=J6 D;have HT:=J6 C;clear Z D C)
  all_goals
   go_ret;refine⟨_,_,rfl,?_,?_,?_⟩
   ·rw[AQ];exact HO
   ·have:=Gm HG
    rw[C8]at this;exact this
   intro g hg
   cases hg;have:=HT.out;rw[C8]at this;exact this.imp id (fun h=>by show _<=gg;omega)
theorem Qo2(hI:SC enc T TS k y fn ov z)w b n c i qs vb q(h:X8 w (sA b) n c T k (X7 enc qs))(hv:J7 w vb T (enc q).toArray)(d3:vb≠b)(hn:n<=100000)(hi:i<n)(hc:n+1<=c):Calls prog fn #[.slice (sA b) n c,I O i,.slice (sA vb) 1 1] w fun e w'=>∃A' c',e=.returned (.slice A' (n+1) c')/\Jg enc T k w w' (sA b) A' (n+1) c' (qs.take i++q::qs.drop i):=by
 obtain⟨u,hB,e9,d6,b2,c6⟩:=h.whole;obtain⟨c9,d2,hU,E,d9,d1⟩:=hI.facts;have a0:=hI.len;have d0:=hI.one;obtain⟨i0,c8,f2,d4,f3⟩:=W8 c9;have f4:¬((i:Int)=(n:Int)):=Q0;have f1:IntKind.i64.wrap ((i:Int)+(1:Int))=(i:Int)+1:=by rw[YR];omega
 have e5:(0:Int)<=(i:Int)+1:=Q0;have f0:((i:Int)+1).toNat=i+1:=Q0;have e6:¬(c=i+1):=Q0;have e7:(i:Int)<=(n:Int)+1:=Q0;have e8:¬(c=i):=Q0;have d7:i<=n:=Q0;obtain⟨HB,HV,HL,HT⟩:=Xt8 hB hv b2 c6;clear hB hv b2 c6;have d8:∀lb cb,(callFunc ov #[.slice (sA vb) 1 1,.slice (some (aD b ((i+1)*k))) lb cb]).run prog w=.ok (.value (.bool false)) w:=fun lb cb=>by
  rw[d1,Lib.run_overlaps_apart w TS 4 T hU k d2 (aD vb 0) (aD b ((i+1)*k)) 1 1 lb cb d3 T T k u.length (by rw[J7.shape HV.out];simp[a0]) (by rw[J7.shape HB.out];simp) (by have:=HL.out;rcases E with⟨rfl,rfl⟩|⟨rfl,rfl⟩<;>omega) (K0 HV 0) (K0 HV k)]
  rfl
 have c7:(X7 enc qs).length=n*k:=h.1;have a3:((X7 enc qs).drop (i*k)).length=(n-i)*k:=by rw[UQ,c7];rcases E with⟨rfl,rfl⟩|⟨rfl,rfl⟩<;>omega
 have b5:∀W,J7 W b T u.toArray->∀D J sc C sl,C=n-i->n-i<=sl->(Builtin.copy_ #[TS,TS] D #[.slice (some (aD b ((i+1)*k))) C J,.slice (some (aD b (i*k))) sl sc]).run prog W=.ok (goInt (n-i:Nat)) (W.setRow b (splice u ((i+1)*k) ((X7 enc qs).drop (i*k))).toArray):=fun W hW D J sc C sl e1 e2=>
  Vp W _ _ D T k b ((i+1)*k) C J (aD b (i*k)) sl sc u.toArray T ((X7 enc qs).drop (i*k)) (n-i) J4 hU (by rw[c8];simp[d4]) hW a3
   (fun j v Z=>by
    rw[TF,X9 hW];rw[Xg,<-HT.out,Ay]at Z
    split at Z
    ·simpa using Z
    cases Z)
   (by rw[a3];simp[HL.out];rcases E with⟨rfl,rfl⟩|⟨rfl,rfl⟩<;>omega) (fun v hv=>Uu d0 qs v (FP hv))
 have c5:∀W c1,J7 W b T (List.toArray c1)->J7 W vb T (enc q).toArray->c1.length=c*k->∀D J C,1<=C->(Builtin.copy_ #[TS,TS] D #[.slice (some (aD b (i*k))) C J,.slice (sA vb) 1 1]).run prog W=.ok (goInt (1:Nat)) (W.setRow b (splice c1 (i*k) (enc q)).toArray):=fun W c1 hW hv hl D J C e1=>
  Vp W _ _ D T k b (i*k) C J (aD vb 0) 1 1 c1.toArray T (enc q) 1 J4 hU (by rw[c8];simp[d4]) hW (by rw[a0,Nat.one_mul])
   (fun j v Z=>by rw[TF,X9 hv];simpa using Z) (by simp[hl,a0];rcases E with⟨rfl,rfl⟩|⟨rfl,rfl⟩<;>omega) (d0 q)
 have a5:J7 (w.drew) b T u.toArray:=HB.out;have a1:=BH w.drew b u.toArray (splice u ((i+1)*k) ((X7 enc qs).drop (i*k))).toArray T a5;have a7:J7 (w.drew.setRow b (splice u ((i+1)*k) ((X7 enc qs).drop (i*k))).toArray) vb T (enc q).toArray:=V0 (HV.drew) (UP _ _ _) (fun e=>d3 e);have a2:(splice u ((i+1)*k) ((X7 enc qs).drop (i*k))).length=c*k:=by rw[length_splice _ _ _ (by rw[a3,HL.out];rcases E with⟨rfl,rfl⟩|⟨rfl,rfl⟩<;>omega),HL.out]
 have a4:=Qq1 u (X7 enc qs) (enc q) i n k d7 HT (a0 q) (by rw[HL.out];rcases E with⟨rfl,rfl⟩|⟨rfl,rfl⟩<;>omega);rw[Lq a0]at a4;have a6:=UP w.drew b (splice u ((i+1)*k) ((X7 enc qs).drop (i*k))).toArray;have a8:=b5 _ a5;generalize splice u ((i+1)*k) ((X7 enc qs).drop (i*k))=c1 at*;obtain⟨W1,b0⟩:=exr (w.drew.setRow b c1.toArray);rw[<-b0]at a1 a7 a6 a8;have a9:=BH W1 b c1.toArray (splice c1 (i*k) (enc q)).toArray T a1;have hR:=X8.of_whole (n:=n+1) (c:=c) (sz:=k) a9 hc d6 (by rw[length_splice _ _ _ (by rw[a2];simp[a0];rcases E with⟨rfl,rfl⟩|⟨rfl,rfl⟩<;>omega),a2]);rw[a4]at hR;obtain⟨HR,HA,HC,HF,HK,e3,e4⟩:=Xu1 hR a8 (c5 W1 c1 a1 a7 a2) a4 a6 a1 a2;clear a9 hR E d1 d2 c9 d9 b5 c5 a8 a4 a6 a1 a7 a2 a3 c7 b0 a5;clear h;obtain⟨-,-,⟨rfl,rfl,rfl,rfl,rfl,rfl,rfl⟩|⟨rfl,rfl,rfl,rfl,rfl,rfl,rfl⟩⟩:=hI
 all_goals
  first|(go_enter func270,ntmps270)|(go_enter func261,ntmps261)
  go_wp2_with (simp only[d8])
  go_region_law (refine Ld rfl (.tmp 73) (.tmp 76) _ _ rfl (.slice (some (aD b ((i+1)*_))) (n-i) (c-(i+1))) (.slice (some (aD b (i*_))) (n+1-i) (c-i)) J3 J3 (HA _ _ _ _ _ rfl Q0) ?_)
  have d5:=fun D=>HC D (c-i) (n+1-i) Q0
  go_wp2_with (simp only[d5])
  go_ret;refine⟨_,_,rfl,HR,?_,fun g hg=>.inl hg⟩;exact((B9 (Z2 (J9 _ w)) (fun i=>X5 (some ⟨b,0,none⟩)=some i)).trans HK (fun i h=>.inl (by subst h;rfl))).trans (UP _ _ _) (fun i h=>.inl (by subst h;rfl))
theorem Qq5(hI:SC enc T TS k y fn ov z)w b n c i qs vb q(h:X8 w (sA b) n c T k (X7 enc qs))(hv:J7 w vb T (enc q).toArray)(hn:n<=100000)(hi:i<n)(hc:c<n+1):Calls prog fn #[.slice (sA b) n c,I O i,.slice (sA vb) 1 1] w fun e w'=>∃A' c',e=.returned (.slice A' (n+1) c')/\Jg enc T k w w' (sA b) A' (n+1) c' (qs.take i++q::qs.drop i):=by
 obtain⟨e8,hB,g4,g2,f1,c5⟩:=h.whole;obtain⟨d9,f4,hU,C,e7,f3⟩:=hI.facts;have a2:=hI.len;have e4:=hI.one;obtain⟨i0,c7,f5,d0,e6⟩:=W8 d9;have g9:¬((i:Int)=(n:Int)):=Q0;have h0:(c:Int)<(n:Int)+1:=Q0;have g8:IntKind.i64.wrap ((i:Int)+(1:Int))=(i:Int)+1:=by rw[YR];omega
 have f9:(0:Int)<=(i:Int)+1:=Q0;have g5:((i:Int)+1).toNat=i+1:=Q0;have f2:i<=n:=Q0;have g3:(i:Int)<=(n:Int):=Q0;have g1:¬(c=i):=Q0;have e1:(n:Int)+1-(i:Int)=((n+1-i:Nat):Int):=Q0;have c8:i+(n+1-i)=n+1:=Q0;have a0:(X7 enc qs).length=n*k:=h.1;have a7:((X7 enc qs).drop (i*k)).length=(n-i)*k:=by rw[UQ,a0];rcases C with⟨rfl,rfl⟩|⟨rfl,rfl⟩<;>omega
 have g0:=Z9 hB;have g7:=Z9 hv;have e3:(Builtin.firstCells i0.size i (.slice (some ⟨b,0,none⟩) i c)).run prog w.drew=.ok ((X7 enc qs).take (i*k)).toArray w.drew:=by
  rw[d0];exact run_firstCells_some w.drew k i ⟨b,0,none⟩ i c _ (by rw[R7,a0];rcases C with⟨rfl,rfl⟩|⟨rfl,rfl⟩<;>omega) (fun j v D=>by
   rw[TF,X9 (Y6 hB),KC];rw[<-c5,List.take_take,Ay]at D
   split at D
   ·simpa using D
   cases D)
 obtain⟨G,hG⟩:=exr (grownCap w (n+1) c T);have e9:n+1<=G:=by rw[hG];exact grownCap_ge w _ _ _
 have d1:G<=maxLen:=by rw[hG];exact grownCap_le_maxLen w (n+1) c T Q9
 have f6:G<=9223372036854775807:=by unfold maxLen at d1;omega
 obtain⟨u,a4⟩:∃u,u=(((X7 enc qs).take (i*k)).toArray++Builtin.zeroCells z.cells (n+1-i)++Builtin.zeroCells z.cells (G-(n+1))).toList:=⟨_,rfl⟩;have a1:u.length=G*k:=by rw[a4];simp only[Array.length_toList,Array.size_append,List.size_toArray,List.length_take,a0,size_zeroCells];simp only[e7];rcases C with⟨rfl,rfl⟩|⟨rfl,rfl⟩<;>omega
 have d3:u.take (i*k)=(X7 enc qs).take (i*k):=by rw[a4];simp only[Array.toList_append,List.append_assoc];exact Js (by simp[a0];rcases C with⟨rfl,rfl⟩|⟨rfl,rfl⟩<;>omega) |>.trans (by simp[List.take_take])
 have e5:∀E,(Builtin.append_ #[TS,3] E #[.slice (some ⟨b,0,none⟩) i c,I O ((n:Int)+1-(i:Int))]).run prog w=
   .ok (.slice (some ⟨w.heap.size,0,none⟩) (n+1) G) (w.drew.alloc (.cells u.toArray T)):=fun E=>by
  have h:=Lib.run_append_grow_zeros w TS 3 E T i0 _ .i64 .i64 hU underlying3 c7 f5 (some ⟨b,0,none⟩) i c ((X7 enc qs).take (i*k)) e3 (n+1-i) Q0 Q0 Q0 Q0 (by rw[e6];rcases C with⟨rfl,rfl⟩|⟨rfl,rfl⟩<;>omega) (by rw[e6,c8];exact growslice_fits hc (by rcases C with⟨rfl,rfl⟩|⟨rfl,rfl⟩<;>omega));rw[c8,<-hG]at h;rw[e1,h,a4]
 obtain⟨W1,Z⟩:=exr (w.drew.alloc (.cells u.toArray T));obtain⟨H,hH⟩:=exr w.heap.size;have b0:J7 W1 H T u.toArray:=by rw[Z,hH];exact Z5 w.drew _ _
 have d4:J7 W1 b T e8.toArray:=by rw[Z];exact G0 (Y6 hB) _
 have d5:J7 W1 vb T (enc q).toArray:=by rw[Z];exact G0 (Y6 hv) _
 have a6:Bz w W1:=by rw[Z];exact(Z2 (J9 _ w)).alloc Q2 _
 rw[<-Z,<-hH]at e5;have f0:b≠H:=Q0;have g6:vb≠H:=Q0;have a9:(splice u (i*k) (enc q)).length=G*k:=by rw[length_splice _ _ _ (by rw[a1,a2];rcases C with⟨rfl,rfl⟩|⟨rfl,rfl⟩<;>omega),a1]
 have d8:∀E,(Builtin.copy_ #[TS,TS] E #[.slice (some ⟨H,i*k,none⟩) (n+1-i) (G-i),.slice (some ⟨vb,0,none⟩) 1 1]).run prog W1=.ok (goInt (1:Nat)) (W1.setRow H (splice u (i*k) (enc q)).toArray):=fun E=>
  Vp W1 _ _ E T k H (i*k) (n+1-i) (G-i) ⟨vb,0,none⟩ 1 1 u.toArray T (enc q) 1 J4 hU (by rw[c7];simp[d0]) b0 (by rw[a2,Nat.one_mul])
   (fun j v D=>by rw[TF,X9 d5];simpa using D) (by simp[a1,a2];rcases C with⟨rfl,rfl⟩|⟨rfl,rfl⟩<;>omega) (e4 q)
 have a3:=BH W1 H u.toArray (splice u (i*k) (enc q)).toArray T b0;have b2:=V0 d4 (UP W1 H (splice u (i*k) (enc q)).toArray) f0;have a8:=UP W1 H (splice u (i*k) (enc q)).toArray;have c6:=Qu2 u (X7 enc qs) (enc q) i n k f2 a0 d3 (a2 q) (by rw[a1];rcases C with⟨rfl,rfl⟩|⟨rfl,rfl⟩<;>omega);rw[Lq a2]at c6;generalize splice u (i*k) (enc q)=c2 at*;obtain⟨J,d6⟩:=exr (W1.setRow H c2.toArray);rw[<-d6]at a3 b2 a8 d8;have b5:∀E,(Builtin.copy_ #[TS,TS] E #[.slice (some ⟨H,(i+1)*k,none⟩) (n-i) (G-(i+1)),.slice (some ⟨b,i*k,none⟩) (n-i) (c-i)]).run prog J.drew=.ok (goInt (n-i:Nat)) (J.drew.setRow H (splice c2 ((i+1)*k) ((X7 enc qs).drop (i*k))).toArray):=fun E=>
  Vp J.drew _ _ E T k H ((i+1)*k) (n-i) (G-(i+1)) ⟨b,i*k,none⟩ (n-i) (c-i) c2.toArray T ((X7 enc qs).drop (i*k)) (n-i) J4 hU (by rw[c7];simp[d0]) (Y6 a3) a7
   (fun j v D=>by
    rw[TF,X9 (Y6 b2)];rw[Xg,<-c5,Ay]at D
    split at D
    ·simpa using D
    cases D)
   (by rw[a7];simp[a9];rcases C with⟨rfl,rfl⟩|⟨rfl,rfl⟩<;>omega) (fun v hv=>Uu e4 qs v (FP hv))
 have d2:=BH J.drew H c2.toArray (splice c2 ((i+1)*k) ((X7 enc qs).drop (i*k))).toArray T (Y6 a3);have c9:=UP J.drew H (splice c2 ((i+1)*k) ((X7 enc qs).drop (i*k))).toArray;have e2:(splice c2 ((i+1)*k) ((X7 enc qs).drop (i*k))).length=G*k:=by rw[length_splice _ _ _ (by rw[a7,a9];rcases C with⟨rfl,rfl⟩|⟨rfl,rfl⟩<;>omega),a9]
 have a5:=X8.of_whole (n:=n+1) (c:=G) (sz:=k) d2 e9 d1 e2;rw[c6]at a5;generalize splice c2 ((i+1)*k) ((X7 enc qs).drop (i*k))=c3 at*;obtain⟨W3,d7⟩:=exr (J.drew.setRow H c3.toArray);rw[<-d7]at b5 c9 a5;have hK:Bz w W3:=a6.trans (((a8.below (B:=w.heap.size) (fun i h=>by have:i=H:=h;omega) a6.size).trans (Z2 (J9 _ J))).trans (c9.below (B:=w.heap.size) (fun i h=>by have:i=H:=h;omega) (U4 a6.size a8.size)));obtain⟨HK,HR,HH⟩:=Xt7 hK a5 hH;have f7:¬(G=i):=Q0;have f8:¬(G=i+1):=Q0;have HB:=J6 b5;clear C f3 f4 d9 e7 hU hK a5 hH c9 e2 d2 b5 d7 a3 b2 a8 c6 d6 a9 b0 d4 d5 a6 Z d3 a1 a4 hG e3 a7 a0 e1 c8 hB hv h f1 c5;obtain⟨-,-,⟨rfl,rfl,rfl,rfl,rfl,rfl,rfl⟩|⟨rfl,rfl,rfl,rfl,rfl,rfl,rfl⟩⟩:=hI
 all_goals
  first|(go_enter func270,ntmps270)|(go_enter func261,ntmps261)
  go_wp2_with (first|(at_builtin;refine Lib.wpList_append_run _ rfl _ _ _ _ rfl _ _ rfl rfl _ _ (e5 _) ?_)|simp only[d8])
  go_region_law (refine Ld rfl (.tmp 50) (.tmp 53) _ _ rfl (.slice (some ⟨H,(i+1)*_,none⟩) (n-i) (G-(i+1))) (.slice (some ⟨b,i*_,none⟩) (n-i) (c-i)) J3 J3 (HB _) ?_)
  go_wp2;go_ret;refine⟨_,_,rfl,HR,B9 HK _,fun g hg=>.inr (by cases hg;show _<=H;rw[HH.out];exact X3 _)⟩
theorem Qu6(j:SC enc T TS k y fn ov z)w A n c i qs vb q(h:X8 w A n c T k (X7 enc qs))(C:J7 w vb T (enc q).toArray)(a0:X5 A≠some vb)(u:n<=100000)(hi:i<=n):Calls prog fn #[.slice A n c,I O i,.slice (sA vb) 1 1] w fun e w'=>∃A' c',e=.returned (.slice A' (n+1) c')/\Jg enc T k w w' A A' (n+1) c' (qs.take i++q::qs.drop i):=by
 have E:=j.len;have D:=j.facts.2.2.2.1;have hl:qs.length=n:=by have:=h.1;rw[EG E]at this;rcases D with⟨rfl,rfl⟩|⟨rfl,rfl⟩<;>omega
 by_cases e:i=n
 ·subst e
  have:=Qu5 j w A i c qs vb q h C u
  rwa [M4 Q0,GH Q0]
 obtain⟨g,J,_⟩:=h.elem E (by rcases D with⟨rfl,rfl⟩|⟨rfl,rfl⟩<;>omega) (i:=i) Q0;subst J
 by_cases Z:n+1<=c
 ·exact Qo2 j w g n c i qs vb q h C (fun e=>a0 (by rw[e];rfl)) u Q0 Z
 exact Qq5 j w g n c i qs vb q h C u Q0 Q0
end
section
variable {α:Type} {enc:α->List Value} {T TS k fn:Nat} {z:Value}
structure Jh(enc:α->List Value)(T TS k fn:Nat)(z:Value):Prop where
 len:∀x,(enc x).length=k
 one:∀x,∀u∈enc x,u.oneCell'=true
 inst:T=331/\TS=198/\k=3/\fn=271/\z=.agg #[I O 0,I O 0,I O 0]\/T=84/\TS=91/\k=5/\fn=144/\z=.agg #[I O 0,I O 0,I O 0,I O 0,I O 0]\/T=320/\TS=268/\k=2/\fn=232/\z=.agg #[I O 0,.slice none 0 0]
theorem Jh.facts(h:Jh enc T TS k fn z):(∃y,(prog.info? T).map (fun i=>(i.zero,i.size,i.bytes))=some (some z,k,y))/\(∀w,(zeroValue T).run prog w=.ok z w)/\prog.underlying TS=some (.slice T)/\(k=3\/k=5\/k=2)/\z.cells.size=k/\∀v∈z.cells,v.oneCell'=true:=by
 obtain⟨-,-,⟨rfl,rfl,rfl,rfl,rfl⟩|⟨rfl,rfl,rfl,rfl,rfl⟩|⟨rfl,rfl,rfl,rfl,rfl⟩⟩:=h
 ·exact⟨⟨24,Q4⟩,fun _=>Q4,underlying198,.inl rfl,rfl,by intro v j;simp[Value.cells]at j;obtain rfl|rfl|rfl:=j<;>rfl⟩
 ·exact⟨⟨40,Q4⟩,fun _=>Q4,underlying91,.inr (.inl rfl),rfl,by intro v j;simp[Value.cells]at j;obtain rfl|rfl|rfl|rfl|rfl:=j<;>rfl⟩
 exact⟨⟨32,Q4⟩,fun _=>Q4,underlying268,.inr (.inr rfl),rfl,by intro v j;simp[Value.cells]at j;obtain rfl|rfl:=j<;>rfl⟩
theorem Bm(hI:Jh enc T TS k fn z)w(b n c i j:Nat)(jz:Int)(b2:jz=j)qs(h:X8 w (sA b) n c T k (X7 enc qs))(hn:n<=100000)(d0:i<j)(hj:j<=n):Calls prog fn #[.slice (sA b) n c,I O i,I O jz] w fun e w'=>e=.returned (.slice (sA b) (i+(n-j)) c)/\X8 w' (sA b) (i+(n-j)) c T k (X7 enc (qs.take i++qs.drop j))/\X4 (fun x=>x=b) w w':=by
 subst b2;obtain⟨d2,c8⟩:=h.cap;obtain⟨⟨y,a6⟩,a5,hU,hk,a8,a9⟩:=hI.facts;have a7:=hI.len;have b5:=hI.one;obtain⟨i0,b0,d4,c6,d5⟩:=W8 a6;have hl:qs.length=n:=by have:=h.1;rw[EG a7]at this;obtain rfl|rfl|rfl:=hk<;>omega
 have a2:(X7 enc qs).length=n*k:=h.1;obtain⟨C,Z⟩:=exr ((X7 enc qs).drop (j*k));have J:C.length=(n-j)*k:=by rw[Z,UQ,a2];obtain rfl|rfl|rfl:=hk<;>omega
 have E:X8 w.drew (sA b) n c T k (X7 enc qs):=h.below (Z2 (J9 _ w));obtain⟨A,hA,c5⟩:∃A,(if c=j then some ((aD b 0):Addr)else some (aD b (j*k)))=some A/\Hid (∀t u,C[t]?=some u->w.drew.cell? (A.add t)=some u):=by
  by_cases a4:c=j
  ·refine⟨(aD b 0),by simp[a4],fun t u D=>?_⟩
   have h0:C.length=0:=by rw[J];obtain rfl|rfl|rfl:=hk<;>omega
   rw[Va.1 h0]at D;simp at D
  refine⟨(aD b (j*k)),by simp[a4],fun t u D=>?_⟩;rw[TF];rw[Z,Xg]at D;obtain⟨g,hg,hc⟩:=E.cell D
  cases hg;exact hc
 have s1:Hid (C.length=(n-j)*k):=J;have s2:Hid (∀u∈C,u.oneCell'=true):=by intro u D;rw[Z]at D;exact Uu b5 qs u (FP D)
 have s3:Hid (∀t,t<C.length->(w.drew.cell? (aD b (0+i*k+t))).isSome=true/\w.drew.frozen? (aD b (0+i*k+t))=false):=by intro t ht;rw[J]at ht;exact⟨E.some_ (by obtain rfl|rfl|rfl:=hk<;>omega),E.frozen _⟩
 obtain⟨W1,a1⟩:=exr (w.drew.setCells b (0+i*k) C);have a0:X8 W1 (sA b) n c T k (CD (X7 enc qs) (i*k) C):=by rw[a1,KC];exact E.sets _ _ _ _
 obtain⟨vs,d3,c7⟩:=Bd (P:=prog) W1 TS T 0 z k hU a5 a8 (by obtain rfl|rfl|rfl:=hk<;>omega) a9 b ((i+(n-j))*k) (n-(i+(n-j))) (c-(i+(n-j))) (by obtain rfl|rfl|rfl:=hk<;>omega)
  (fun x hx=>a0.some_ (by obtain rfl|rfl|rfl:=hk<;>omega)) (fun x hx=>a0.frozen _)
 have hp:=a0.pop (i+(n-j)) Q0;rw[Ql8 _ _ _ (by rw[J,a2];obtain rfl|rfl|rfl:=hk<;>omega),Z]at hp;have a3:=Qq2 (X7 enc qs) (i*k) (j*k) (by obtain rfl|rfl|rfl:=hk<;>omega) (by obtain rfl|rfl|rfl:=hk<;>omega);rw[a2,show i*k+(n*k-j*k)=(i+(n-j))*k by obtain rfl|rfl|rfl:=hk<;>omega]at a3;rw[a3,Jb2 a7 _ _ _ Q0]at hp;have hK:X4 (fun x=>x=b) w W1:=by rw[a1];exact(B9 (Z2 (J9 _ w)) _).trans (TQ _ _ _ _) (fun i h=>.inl h)
 obtain⟨HP,HK⟩:=Xt6 hp hK;have hW:Hid (W1=w.drew.setCells b (0+i*k) C):=a1;have c9:i<=c:=Q0;have d1:j<=c:=Q0;clear a6 a5 hk a8 a9 hp hK a1 a3 a0 E J Z a2 hl h;obtain⟨-,-,⟨rfl,rfl,rfl,rfl,rfl⟩|⟨rfl,rfl,rfl,rfl,rfl⟩|⟨rfl,rfl,rfl,rfl,rfl⟩⟩:=hI
 all_goals
  first|(go_enter func271,ntmps271)|(go_enter func144,ntmps144)|(go_enter func232,ntmps232)
  go_wp2_with fail
  go_region_law (refine step_append_room rfl (.tmp 22) (.tmp 25) _ rfl _ i0 _ hU b0 c6 b 0 i c J3 A (n-j) (c-j) C J3 s1 c5 s2 Q0 s3 ?_;rw[<-hW.out])
  go_wp2;go_ret;exact⟨rfl,X8.sets_past _ _ _ HP Q2,HK.trans (TQ _ _ _ _) (fun i h=>.inl h)⟩
end
def XL(ps:List (Int×Int)):Nat->Int
 |0=>if ps.getD 0 (0,0)=(0,1)then 0 else 1
 |k+1=>UT (ps.getD k (0,0)).1 (ps.getD k (0,0)).2 (ps.getD (k+1) (0,0)).1 (ps.getD (k+1) (0,0)).2
theorem Qu7 a0 p0 a p:UT a0 p0 a p=0\/UT a0 p0 a p=1\/UT a0 p0 a p=10\/UT a0 p0 a p=2:=by
 unfold UT
 by_cases h1:P7 (P2 p0) p=false
 ·rw[X0 h1];simp
 rw[J8 h1]
 by_cases h2:a<=a0
 ·rw[X0 h2];simp
 rw[J8 h2]
 by_cases i:1000000<a
 ·rw[X0 i];simp
 rw[J8 i];simp
theorem Qu8 b u len cap x y w(E:0<len)(c0:w.cell? (aD b u)=some (I O x)) (c1:w.cell? (aD b (u+1))=some (I O y)):Calls prog 208 #[.slice (some (aD b u)) len cap,I O 0] w fun e w'=>e=.returned (I O (if(x,y)=(0,1)then 0 else 1))/\w=w':=by
 by_cases i:x=0
 ·by_cases j:y=1
  ·have C:=V4 i
   have D:=V4 j;rw[X0 (by rw[i,j])];clear i j;go_enter func208,ntmps208
   go_wp2;go_ret;exact⟨rfl,rfl⟩
  have C:=V4 i;have D:=Z3 j;rw[J8 (by simp[j])];clear i j;go_enter func208,ntmps208
  go_wp2;go_ret;exact⟨rfl,rfl⟩
 have C:=Z3 i;rw[J8 (by simp[i])];clear i;go_enter func208,ntmps208
 go_wp2;go_ret;exact⟨rfl,rfl⟩
theorem Jm5 A len cap ps i w(h:JW w A len cap ps)(u:i<len)(D:len<=20):Calls prog 208 #[.slice A len cap,I O (i:Int)] w fun e w'=>e=.returned (I O (XL ps i))/\Bz w w':=by
 obtain⟨b,C,rfl,E,j⟩:=h.2 Q0
 cases i with
 |zero=>
  have y:=j 0 Q0;refine(Qu8 b C len cap _ _ w u (by simpa using y.1) (by simpa using y.2)).mono ?_;rintro e w'⟨rfl,rfl⟩;exact⟨rfl,J9 _ _⟩
 |succ k=>
  exact Jb1 b C len cap k _ _ _ _ w u D E (j k Q0).1 (j k Q0).2 (j (k+1) u).1 (j (k+1) u).2
theorem Wl:(prog.info? 152).map (fun i=>(i.zero,i.size,i.bytes))=some (some (.agg #[I O 0,I O 0]),2,16):=Q4
def Yh(ps:List (Int×Int))(w:World)(e:Ending)(w':World):Prop:=
 Bz w w'/\
 ((ps.length=0/\e=.returned (.tuple #[.pointer none,.iface 52 (I O 8)]))\/(20<ps.length/\e=.returned (.tuple #[.pointer none,.iface 52 (I O 4)]))\/(0<ps.length/\ps.length<=20/\∃i,i<ps.length/\(∀j,j<i->XL ps j=0)/\XL ps i≠0/\∃g,e=.returned (.tuple #[.pointer none,.iface 287 (pA g)])/\w.heap.size<=g/\w'.cell? (aD g 0)=some (I O (XL ps i))/\w'.cell? (aD g 1)=some (I O i))\/(0<ps.length/\ps.length<=20/\(∀j,j<ps.length->XL ps j=0)/\∃t A cap,e=.returned (.tuple #[pA t,.nilIface])/\w.heap.size<=t/\t<w'.heap.size/\w'.cell? (aD t 0)=some (.slice A ps.length cap)/\JW w' A ps.length cap ps))
def Jy5(ps:List (Int×Int))(w:World)(e:Ending)(w':World):Prop:=
 Bz w w'/\
 ((ps.length=0/\e=.returned (.tuple #[.pointer none,.iface 52 (I O 8)]))\/(20<ps.length/\e=.returned (.tuple #[.pointer none,.iface 52 (I O 4)]))\/(0<ps.length/\ps.length<=20/\∃i,i<ps.length/\(∀j,j<i->XL ps j=0)/\XL ps i≠0/\∃g,e=.returned (.tuple #[.pointer none,.iface 287 (pA g)])/\w.heap.size<=g/\w'.cell? (aD g 0)=some (I O (XL ps i))/\w'.cell? (aD g 1)=some (I O i))\/(0<ps.length/\ps.length<=20/\(∀j,j<ps.length->XL ps j=0)/\∃t A cap,e=.returned (.tuple #[pA t,.nilIface])/\w.heap.size<=t/\t<w'.heap.size/\w'.cell? (aD t 0)=some (.slice A ps.length cap)/\JW w' A ps.length cap ps/\∀g,X5 A=some g->w.heap.size<=g/\g≠t))
theorem Jy6 A len cap ps w(h:JW w A len cap ps)(hm:len<=9223372036854775807):Calls prog 156 #[.slice A len cap] w (Jy5 ps w):=by
 have a3:=h.1
 by_cases h0:len=0
 ·subst h0
  go_enter func156,ntmps156
  go_wp2;go_ret2;exact⟨J9 _ _,.inl ⟨a3,rfl⟩⟩
 by_cases c7:20<len
 ·have e0:((len:Int) ==0)=false:=by simp;omega
  go_enter func156,ntmps156
  go_wp2;go_ret2;exact⟨J9 _ _,.inr (.inl ⟨Q0,rfl⟩)⟩
 have e0:((len:Int) ==0)=false:=by simp;omega
 have e1:decide (20<(len:Int))=false:=Q7;obtain⟨b,a0,rfl,a6,N⟩:=h.2 Q0;go_enter func156,ntmps156
 go_wp2
 go_loopw [19] (fun i wr=>∃k,k<=len/\i=I O k/\Bz w wr/\∀j,j<k->XL ps j=0) (fun i _=>len-(RowKit.intOf i).toNat)
 case atStart=>exact⟨0,U9 _,rfl,J9 _ _,fun j hj=>Q0⟩
 obtain⟨k,hk,rfl,u,a5⟩:=hrel;have a1:=J6 a5;clear a5
 by_cases a2:k<len
 ·have hP:JW wr (some ⟨b,a0,none⟩) len cap ps:=h.below u Q2
  have q1:=(u.cell (p:=⟨b,a0+k*2,none⟩) a6).trans (N k a2).1;have q2:=(u.cell (p:=⟨b,a0+k*2+1,none⟩) a6).trans (N k a2).2;have HP:=J6 hP;clear hP N h;generalize hx:(ps.getD k (0,0)).1=x at q1;generalize hy:(ps.getD k (0,0)).2=y at q2;clear hx hy;go_wp2_with fail
  refine(Jm5 _ len cap ps k _ (HP.below ((J9 wr.heap.size wr).alloc Q2 _) Q2) a2 Q0).mono ?_;rintro e w1⟨rfl,C⟩;have J:Bz w w1:=(u.alloc u.size _).trans (C.mono (by simp;have:=u.size;omega))
  by_cases E:XL ps k=0
  ·have Hz:=J6 E
   rw[E];clear E;have r0:w1.cell? ⟨wr.heap.size,0,none⟩=some (I O x):=(C.cell (p:=⟨wr.heap.size,0,none⟩) Q3).trans Q3;have r1:w1.cell? ⟨wr.heap.size,1,none⟩=some (I O y):=(C.cell (p:=⟨wr.heap.size,1,none⟩) Q3).trans Q3;go_wp2
   go_roundw
   case rel=>
    refine⟨k+1,Q0,J5,J,fun j hj=>?_⟩;obtain h|h:=SS (Nat.le_of_lt_succ hj)
    ·exact a1 j h
    rw[h];exact Hz
   simp[RowKit.intOf];omega
  have b5:(XL ps k != 0)=true:=XQ E;have Hz:=J6 E;obtain⟨e,Z⟩:=exq (XL ps k);rw[Z]at b5;rw[Z];have He:=J6 Z;clear E Z;go_wp2;go_ret2;refine⟨J.alloc J.size _,.inr (.inr (.inl ⟨Q0,Q0,k,Q0,a1,Hz,w1.heap.size,rfl,J.size,?_,?_⟩))⟩
  ·rw[He.out];simp
  simp
 obtain rfl:k=len:=by omega
 obtain⟨i0,b2,b8,b9,c5⟩:=W8 Wl;have HP:=J6 (h.below u Q2);have a8:=u.size;obtain⟨c6,D⟩:=Xt6 a3 h.1;clear N h a3;go_wp2_with ((with_reducible (refine VZ _ rfl (.tmp 36) (.tmp 37) 24 rfl w.heap.size 152 i0 _ 2 16 underlying24 b2 b8 b9 c5 Q6 Q0 (.slice (some ⟨wr.heap.size,0,none⟩) 0 0) 0 [] Q6 (World.ownsRow_made wr #[] 0 a8 Q0 rfl) ⟨b,a0,none⟩ k cap (LJ ps) Q6 (by rw[Bc,D.out]) (HP.out.below ((J9 wr.heap.size wr).alloc Q2 _) Q2).news (Qn7 ps) Q0 Q9 Q0 Q7 (wr.heap.size+1) Q3 ?_));intro g a4 w1 a7 b1 b0 c8)
 go_ret2;have C:Bz w w1:=(u.alloc a8 _).grown b1 Q7 (fun q hq=>by simp[Value.ownBlock]at hq;omega);simp only[Nat.zero_add,List.nil_append]at a7;have a9:=(JW.of_own a7).below ((J9 w1.heap.size w1).alloc Q2 (.cells #[.slice (some ⟨g,0,none⟩) k a4] 277)) Q2;refine⟨C.alloc C.size _,.inr (.inr (.inr ⟨by have:=D.out;omega,by have:=D.out;omega,fun j hj=>a1 j (by have:=D.out;omega),w1.heap.size,some ⟨g,0,none⟩,a4,rfl,C.size,Q3,?_,?_⟩))⟩
 ·simp;exact D.symm
 rw[D.out];refine⟨a9,fun q hq=>?_⟩;have e1:g=q:=by simpa [X5]using hq
 subst e1;have h8:wr.heap.size<=g:=by
  obtain x|x:=b0
  ·have:wr.heap.size=g:=by simpa [Value.ownBlock]using x
   omega
  omega
 exact⟨Q0,Q0⟩
def phAt(ps:List (Int×Int))(now:Int):Nat->Int×Int
 |0=>(1,-1)
 |k+1=>if(ps.getD k (0,0)).1<=now\/k=0 then((ps.getD k (0,0)).2,if k+1<ps.length then(ps.getD (k+1) (0,0)).1 else -1)else phAt ps now k
theorem Qd8{ps now k}(h:¬(ps.getD k (0,0)).1<=now)(hk:k≠0):phAt ps now (k+1)=phAt ps now k:=by simp only[phAt];rw[J8 Q0]
theorem Xh8{ps now k}(h:(ps.getD k (0,0)).1<=now\/k=0)(hk:k+1<ps.length):phAt ps now (k+1)=((ps.getD k (0,0)).2,(ps.getD (k+1) (0,0)).1):=by simp only[phAt];rw[X0 h,X0 hk]
theorem Jm6{ps now k}(h:(ps.getD k (0,0)).1<=now\/k=0)(hk:¬k+1<ps.length):phAt ps now (k+1)=((ps.getD k (0,0)).2,-1):=by simp only[phAt];rw[X0 h,J8 hk]
theorem Jm7 t A len cap ps now w(ht:t<w.heap.size)(h:JW w A len cap ps)(hc:w.cell? (aD t 0)=some (.slice A len cap))(h0:0<len)(hm:len<=20):Calls prog 147 #[pA t,I O now] w fun e w'=>e=.returned (.tuple #[I O (phAt ps now len).1,I O (phAt ps now len).2])/\Bz w w':=by
 obtain⟨b,N,rfl,a0,_⟩:=h.2 h0;have Z:=J6 h.1;go_enter func147,ntmps147
 go_wp2
 go_loopw [4,5,13] (fun p n i wr=>∃k,k<=len/\i=I O k/\p=I O (phAt ps now k).1/\n=I O (phAt ps now k).2/\Bz w wr) (fun _ _ i _=>len-(RowKit.intOf i).toNat)
 case atStart=>exact⟨0,U9 _,rfl,rfl,rfl,J9 _ _⟩
 obtain⟨k,hk,rfl,rfl,rfl,j⟩:=hrel
 by_cases a2:k<len
 ·have a3:∀o,(wr.alloc o).cell? (aD t 0)=some (.slice (some (aD b N)) len cap):=fun o=>(W7 _ _ _ (D0 ht j.size)).trans ((j.cell (p:=(aD t 0)) ht).trans hc)
  have q1:=(j.cell (p:=(aD b (N+k*2))) a0).trans (h.at_ a2).1;have q2:=(j.cell (p:=(aD b (N+k*2+1))) a0).trans (h.at_ a2).2;have D:=fun a b=>J6 (Qd8 (ps:=ps) (now:=now) (k:=k) a b)
  have u:=fun a b=>J6 (Xh8 (ps:=ps) (now:=now) (k:=k) a b)
  have C:=fun a b=>J6 (Jm6 (ps:=ps) (now:=now) (k:=k) a b)
  have Hq:=J6 h;generalize phAt ps now k=pk at*;have a1:∀h1:k+1<len,wr.cell? (aD b (N+(k+1)*2))=some (I O (ps.getD (k+1) (0,0)).1):=fun h1=>(j.cell (p:=(aD b (N+(k+1)*2))) a0).trans (Hq.at_ h1).1
  clear h hc;generalize(ps.getD k (0,0)).1=x at*;generalize(ps.getD k (0,0)).2=y at*;generalize(ps.getD (k+1) (0,0)).1=z at*
  by_cases h1:k+1<len
  ·have q3:∀o,(wr.alloc o).cell? (aD b (N+(k+1)*2))=some (I O z):=fun o=>(W7 _ _ _ (D0 a0 j.size)).trans (a1 h1)
   clear a1
   by_cases J:x<=now
   ·have P:=u (Or.inl J) (by have:=Z.out;omega)
    clear u D C;go_wp2
    go_roundw
    case rel=>exact⟨k+1,Q0,J5,by rw[P.out],by rw[P.out],j.alloc j.size _⟩
    simp[RowKit.intOf];omega
   have dx:decide (x<=now)=false:=V9 J
   by_cases E:k=0
   ·have P:=u (Or.inr E) (by have:=Z.out;omega)
    have z0:((k:Int) ==0)=true:=V4 Q0;clear u D C E;go_wp2
    go_roundw
    case rel=>exact⟨k+1,Q0,J5,by rw[P.out],by rw[P.out],j.alloc j.size _⟩
    simp[RowKit.intOf];omega
   have P:=D J E;have z0:((k:Int) ==0)=false:=Z3 Q0;clear u D C;go_wp2
   go_roundw
   case rel=>exact⟨k+1,Q0,J5,by rw[P.out],by rw[P.out],j.alloc j.size _⟩
   simp[RowKit.intOf];omega
  have d1:decide ((k:Int)+1<(len:Int))=false:=V9 Q0;clear a1
  by_cases J:x<=now
  ·have P:=C (Or.inl J) (by have:=Z.out;omega)
   clear u D C;go_wp2
   go_roundw
   case rel=>exact⟨k+1,Q0,J5,by rw[P.out],by rw[P.out],j.alloc j.size _⟩
   simp[RowKit.intOf];omega
  have dx:decide (x<=now)=false:=V9 J
  by_cases E:k=0
  ·have P:=C (Or.inr E) (by have:=Z.out;omega)
   have z0:((k:Int) ==0)=true:=V4 Q0;clear u D C E;go_wp2
   go_roundw
   case rel=>exact⟨k+1,Q0,J5,by rw[P.out],by rw[P.out],j.alloc j.size _⟩
   simp[RowKit.intOf];omega
  have P:=D J E;have z0:((k:Int) ==0)=false:=Z3 Q0;clear u D C;go_wp2
  go_roundw
  case rel=>exact⟨k+1,Q0,J5,by rw[P.out],by rw[P.out],j.alloc j.size _⟩
  simp[RowKit.intOf];omega
 obtain rfl:k=len:=by omega
 go_wp2;go_ret2;exact⟨rfl,j⟩
section
open Go Go.Shelf
structure QH(w:World):Prop where
  err:LZ w
  pow : Lib.TabIs Tryz.prog w "internal/strconv.uint64pow10" .u64 Lib.pow10Tab
  stx : ∃ tp p, w.var? Tryz.prog "strconv.ErrSyntax" = some #[.iface tp p]
  rng : ∃ tp p, w.var? Tryz.prog "strconv.ErrRange" = some #[.iface tp p]
theorem Wm : Tryz.prog.globalNamed "internal/strconv.uint64pow10" = some 8 := by kernel_rfl
theorem Wn : Tryz.prog.globalNamed "strconv.ErrSyntax" = some 6 := by kernel_rfl
theorem Wo : Tryz.prog.globalNamed "strconv.ErrRange" = some 7 := by kernel_rfl
theorem QH.below{w w' B}(h:QH w)(j:Below B w w')(i:12<=B):QH w':=by obtain⟨h1,h2,⟨a,b,u⟩,⟨c,d,y⟩⟩:=h;exact⟨(j.cell (p:=(aD 5 0)) (D0 Q1 i)).trans h1,var?_below j Wm (D0 Q1 i) h2,⟨a,b,var?_below j Wn (D0 Q1 i) u⟩,⟨c,d,var?_below j Wo (D0 Q1 i) y⟩⟩
theorem Zb:Builder.Extra prog laysD156_ren where
  sizeBuilder:=Q4
  liesBuilder:=Q4
  t5:=underlying5
  a5:=Tryz.isAgg5
  z5:=Tryz.sizeOf5
  v5:=Tryz.zeroValue5
  infoByte:=Q4
  cellsByte:=Q4
  sizeByte:=Q4
  neB5:=Q1
theorem Xh9 B b l w(h:Lib.IsBuilderF 33 5 B b (Lib.byteCells l) w)(i:B<=w.heap.size):Calls prog 10 #[pA b] w fun e w'=>e=.returned (.string ⟨l.toArray⟩)/\(Lib.IsBuilderF 33 5 B b (Lib.byteCells l) w'/\Below B w w'/\Lib.OthersKept 5 (some b) w w'):=
  Any.Builder_String_any_k (P:=prog) (ρ:=laysD156_ren) {laysD156 with} Zb B b l w h i
theorem Xq4 s p w(i:s.size<=9223372036854775807):Calls prog 7 #[.string s,.string p] w fun e w'=>e=.returned (.string ⟨(Lib.trimSuffix s.data.toList p.data.toList).toArray⟩)/\w'=w:=
  Any.strings_TrimSuffix (P:=prog) (ρ:=laysD102_ren) laysD102 s p w i
theorem Qh2 s c w:Calls prog 43 #[.string s,.string ⟨#[c]⟩] w fun e w'=>e=.returned (I O (Lib.indexByte s.data.toList c))/\w'=w:=
  Any.strings_Index_one (P:=prog) (ρ:=laysD143_ren) laysD143 s c w
theorem Zl n(j: -9223372036854775808<=n/\n<=9223372036854775807)w(u:QH w):Calls prog 19 #[I O n] w fun e w'=>e=.returned (.string ⟨(Lib.itoa n).toArray⟩)/\Bz w w':=by refine(Any.strconv_Itoa (P:=prog) (ρ:=laysDM171_ren) laysDM171 n j.1 j.2 w u.pow).mono ?_;rintro e w'⟨rfl,k,os,rfl⟩;exact⟨rfl,⟨rfl,rfl,rfl,by simp[Go.Sort.grow],fun i y=>by show(w.heap++os)[i]?=_;exact Array.getElem?_append_left y⟩⟩
theorem Qi8 s(D:s.size<=281474976710656)w(C:QH w):Calls prog 139 #[.string s] w fun e w'=>Bz w w'/\((∃v,Lib.atoiAll s.data.toList=.ok v/\e=.returned (.tuple #[I O v,.nilIface]))\/((∀v,Lib.atoiAll s.data.toList≠.ok v)/\∃k u x,e=.returned (.tuple #[I O k,.iface u x]))):=by
  cases h:Lib.atoiAll s.data.toList with
  |ok v=>
    refine(Any.strconv_Atoi_ok (P:=prog) (ρ:=laysDC172_ren) laysDC172 s Q0 v h w).mono ?_;rintro e w'⟨rfl,h1⟩;refine⟨?_,.inl ⟨v,rfl,rfl⟩⟩;obtain rfl|⟨t,rfl⟩:=h1
    ·exact J9 _ _
    ·exact Lib.bytesWorld_below _ _ _
  |range=>
    obtain⟨y,p,i⟩:=C.rng;refine(Any.strconv_Atoi_range_var (P:=prog) (ρ:=laysDC172_ren) laysDC172 s D h y p w i).mono ?_;rintro e w'⟨N,rfl,h1,h2,j⟩;exact⟨j,.inr ⟨fun v i=>(by cases i),_,_,_,rfl⟩⟩
  |_=>
    obtain⟨y,p,i⟩:=C.stx;refine(Any.strconv_Atoi_syntax_var (P:=prog) (ρ:=laysDC172_ren) laysDC172 s D h y p w i).mono ?_;rintro e w'⟨N,rfl,h1,h2,j⟩;exact⟨j,.inr ⟨fun v i=>(by cases i),_,_,_,rfl⟩⟩
theorem Fx A c(xs:List ByteArray)C w(D:X8 w A xs.length c 9 1 (xs.map Value.string))(Z:(Lib.join (xs.map (·.data.toList)) C.data.toList).length<=140737488355328) (E:xs.length<=140737488355328):Calls prog 40 #[.slice A xs.length c,.string C] w fun e w'=>e=.returned (.string ⟨(Lib.join (xs.map (·.data.toList)) C.data.toList).toArray⟩)/\Bz w w':=by
  cases xs with
  |nil=>
    refine(Any.strings_Join_none (P:=prog) (ρ:=laysD156_ren) laysD156 Zb A c C w).mono ?_;rintro e w'⟨rfl,rfl⟩;exact⟨rfl,J9 _ _⟩
  |cons x xs=>
    obtain⟨b,i,J⟩:∃b,A=sA b/\b<(zS w):=by obtain⟨b,i,-⟩:=X8.cell D (j:=0) (u:=.string x) rfl;exact⟨b,i,D.lt (by rw[i];rfl)⟩
    subst i;refine(Any.strings_Join (P:=prog) (ρ:=laysD156_ren) laysD156 Zb b 0 c (x::xs) C w (fun j y hy=>?_) J E D.cap.1 Z);obtain⟨b',i,N⟩:=X8.cell D (j:=j) (u:=.string y) (by rw[GP,hy];rfl)
    cases i;rw[KC];exact N
end
theorem Kb f w:Calls prog 73 #[I O f] w fun e w'=>e=.returned (.agg #[I O f,I O (-1)])/\Bz w w':=by
 go_enter func73,ntmps73
 go_wp2;exact QA (v:=.agg #[I O f,I O (-1)]) (by simp[results,Tryz.results73,go_sem]) rfl ⟨rfl,(J9 _ w).alloc Q2 _⟩
section
open Go Go.ChangeShapes Go.WideShapes
theorem et : Tryz.prog.globalNamed "errors.errorType" = some 5 := by kernel_rfl
theorem rt : (Tryz.prog.cutTypes.find? (·.1 == "internal/reflectlite.rtype")).map (·.2) = some 251 := by kernel_rfl
theorem Xm8:((List.range 401).filter fun t=>prog.rowNamed t [101,114,114,111,114])=[39]:=Q4
theorem Jm8:prog.types.size=401:=Q4
theorem Fo:(prog.globals[8]?).map (·.type)=some 231/\(prog.globals[6]?).map (·.type)=some 39/\(prog.globals[7]?).map (·.type)=some 39:=⟨Q4,Q4,Q4⟩
theorem Qi9:prog.cellsOf 231=20/\prog.cellsOf 160=1:=⟨Q4,Q4⟩
theorem TC{P w x l ps}(h:DataW.LaidVars P w (x::l) ps):∃q,DataW.LaidVars P w l q:=by obtain⟨n,d⟩:=x;obtain⟨g,t,cs,fuel,p,q,-,-,-,-,i,-⟩:=h;exact⟨q,i⟩
theorem Jy7 {W rest ps} (h : DataW.LaidVars Tryz.prog W (("internal/strconv.uint64pow10", Rows.laid_internal_strconv_uint64pow10) :: rest) ps) : Lib.TabIs Tryz.prog W "internal/strconv.uint64pow10" .u64 Lib.pow10Tab := by
 obtain⟨D,t',cs,fuel,p,q,u,y,C,i,-,-⟩:=h;obtain rfl:=XG (Wm.symm.trans u);obtain rfl:=XG (Fo.1.symm.trans y);have j:DataW.trod (fun _=>()) prog W 0 (fun _=>true) false fuel 231 cs.toList=some (Lib.tabData .u64 Lib.pow10Tab,p):=i;unfold Lib.TabIs;rw[C,<-Lib.cells_of_tab underlying231 underlying160 Qi9.2 Qi9.1 j]
theorem Wp{W nm tn d g rest ps}(y:prog.globalNamed nm=some g)(ht:(prog.globals[g]?).map (·.type)=some 39)(h:DataW.LaidVars prog W ((nm,.iface tn d)::rest) ps):∃J p,W.var? prog nm=some #[.iface J p]:=by obtain⟨Z,t',cs,fuel,p,q,C,D,E,j,-,-⟩:=h;obtain rfl:=XG (y.symm.trans C);obtain rfl:=XG (ht.symm.trans D);obtain⟨N,u,v,i,-,-⟩:=iface_of_trod underlying39 j;refine⟨u,v,?_⟩;rw[E];exact C5 some (Array.toList_inj.1 i)
theorem Jy8 {W} (i : handlesMet Tryz.prog [("errors.errorType", Rows.laid_errors_errorType)] W) : LZ W := by
 obtain⟨Z,u,ty,C,D,E,J,j⟩:=i _ (UN.2 rfl);have N:Z=[101,114,114,111,114]:=(XG C).symm;subst N;obtain rfl:=XG (rt.symm.trans D);have y:ty∈(List.range 401).filter fun t=>prog.rowNamed t [101,114,114,111,114]:=S4.2 ⟨List.mem_range.2 (by rw[<-Jm8];exact E),J⟩
 rw[Xm8]at y;obtain rfl:=UN.1 y;have i:typeHandle prog 39=IP (some (aD 12 39)):=Q4;rw[i]at j;have:=World.var?_cell et j 0;simpa [LZ]using this
def Xr9:DataW Unit->Value
 | .lit (.int k n)=>.int k n
 |_=>.int .u8 0
def Ji:DataW Unit->Array Value
 | .agg l=>(l.map Xr9).toArray
 |_=> #[]
def Xq5:DataW Unit->Array Value
 | .agg l=>(l.flatMap fun d=>(Ji d).toList).toArray
 |_=> #[]
def NV(h:Array Obj)(g:Nat)(cs:Array Value):Array Obj:=h.modify g fun
 | .cells _ t frozen=>.cells cs t frozen
 |o=>o
abbrev Xs0:ByteArray:={data:= #[105,110,118,97,108,105,100,32,115,121,110,116,97,120]}
abbrev Xs1:ByteArray:={data:= #[118,97,108,117,101,32,111,117,116,32,111,102,32,114,97,110,103,101]}
noncomputable def low:Nat:=(World.holding prog default ⟨#[],#[],[]⟩).heap.size
