/- Parts. -/
import Derived.Test.YtnlngicnfegjgaaGreatDoorZq8
import Derived.Test.YtnlngicnfegjgaaGreatDoorZq11
set_option linter.unusedVariables false
set_option maxRecDepth 100000
set_option maxHeartbeats 8000000
open Go.Proofs.Tryz
open Go.Value renaming int→I,pointer→IP
open Go.IntKind renaming i64→O
namespace Go.Proofs.YtnlngicnfegjgaaGreatDoor
open Go.RowKit
theorem Yh {w t Q g x y v} (hp:t.tmps.getD 4 undef= IP (some ⟨g,0,none⟩)) (i:t.tmps.getD 5 undef=v) (u:t.defers= [])
  (E:Q1 w g 186 #[x,y]) (h:Q (.returned (.tuple #[.agg #[x,y],v])) w):bodyPost prog Tryz.f130 Q .ret t w:=by
 refine P4 (v:= .tuple #[.agg #[x,y],v]) ?_ u h
 have C:=Jf (P:=prog) w g _ 186 #[x,y] (0,0) _ E underlying186 rfl (by kernel_rfl)
 have j:t.tmps[4]?.getD undef= IP (some ⟨g,0,none⟩):=by simpa using hp
 have D:t.tmps[5]?.getD undef=v:=by simpa using i
 simp[results,Tryz.results130,j,D,asAddr,C]
abbrev CA (w:World) (x:Q8):World:=(w.alloc (.cells #[I O x.id,I O x.side,I O x.kind,I O x.price,I O x.qty] 29)).alloc (.cells #[I O 0,I O 0] 186)
theorem Vv w x:Below w.heap.size w (CA w x):=((Q2 _ w).alloc (Q4 _) _).alloc (by simp) _
theorem Yi w x:Q1 (CA w x) (w.heap.size+1) 186 #[I O 0,I O 0]:=by simpa using J9 (w.alloc (.cells #[I O x.id,I O x.side,I O x.kind,I O x.price,I O x.qty] 29)) 186 #[I O 0,I O 0]
theorem Mc w x:Q1 (CA w x) w.heap.size 29 (J8 x):=G7 (J9 w _ _) _
theorem Wf w a A c B d ss fr most many x (h:R0 w a A c B d ss fr most many) (j:many=most):
  Calls prog 130 #[IP (some ⟨a,0,none⟩),X5 x] w fun e w'=>
   e= .returned (.tuple #[.agg #[I O 0,I O 0],U0 12])/\Below w.heap.size w w':=by
 unfold X5
 have N:=Z0 j
 clear j
 have i:=Vv w x
 obtain⟨C,E,J,u⟩:=(h.below i).cells
 have D:=Q0 i
 clear i
 unfold CA at C E J u
 go_enter func130,ntmps130
 go_wp2_with fail
 go_quiet (fail)
 go_wp2
 try simp only[Exit.inBlock,Exit.then]
 refine Yh (g:=w.heap.size+1) (x:=I O 0) (y:=I O 0) (v:=U0 12) (by with_unfolding_all rfl) (by with_unfolding_all rfl) (by with_unfolding_all rfl) (J7 (J7 (P9 (Yi w x) _) 0 _) 1 _) ?_
 exact⟨rfl,((U7 D _).setCell (by simp) _).setCell (by simp) _⟩
theorem Jh3 {w1 a c d ss fr most many} {gs u i:Nat} (H:R0 w1 a (some ⟨gs,0,none⟩) c (some ⟨u,0,none⟩) d ss (fr++ [(i:Int)]) most many) (N:i<ss.length) m x:
  let w5:=(MF ((w1.setCell ⟨a,3,none⟩ (I O m)).setCell ⟨a,1,none⟩ (.slice (some ⟨u,0,none⟩) fr.length d)) gs (i*7) x).setCell ⟨gs,i*7+6,none⟩ (.bool true)
  R0 w5 a (some ⟨gs,0,none⟩) c (some ⟨u,0,none⟩) d (ss.set i (x,ss[i].2.1,true)) fr most m/\Q6 (JN a (some ⟨gs,0,none⟩) (some ⟨u,0,none⟩)) w1 w5:=by
 intro w5
 have D:gs≠a:=fun e=>H.na (by rw[<-e];rfl)
 have Z:u≠a:=fun e=>H.nb (by rw[<-e];rfl)
 have u3:u≠gs:=fun e=>H.nab gs rfl (by rw[<-e];rfl)
 have C:=(V2 w1 ⟨a,3,none⟩ (I O m)).trans (V2 _ ⟨a,1,none⟩ (.slice (some ⟨u,0,none⟩) fr.length d)) (fun j h=> .inl h)
 have y:Q6 (fun j=>j=gs) ((w1.setCell ⟨a,3,none⟩ (I O m)).setCell ⟨a,1,none⟩ (.slice (some ⟨u,0,none⟩) fr.length d)) w5:=(Jz _ gs (i*7) x).trans (V2 _ ⟨gs,i*7+6,none⟩ (.bool true)) (fun j h=> .inl h)
 have E:=(Yd (H.slots.keeps C (fun g v e=>by cases v;exact D e)) (i*7) x).set (i*7+6) (.bool true)
 have U:(Q9 KL ss)[i*7+5]?=some (I O ss[i].2.1):=EM TS ss i N 5 (by omega)
 have e0:((((((Q9 KL ss).set (i*7) (I O x.id)).set (i*7+1) (I O x.side)).set (i*7+2) (I O x.kind)).set (i*7+3) (I O x.price)).set (i*7+4) (I O x.qty)).set (i*7+6) (.bool true)=Q9 KL (ss.set i (x,ss[i].2.1,true)):=by
  refine Eq.trans ?_ (Ui ss i N (x,ss[i].2.1,true));refine E7 (fun l=>List.set l (i*7+6) (Value.bool true)) (Yc ?_).symm;rw[ZH (by omega),ZH (by omega),ZH (by omega),ZH (by omega),ZH (by omega)];exact U
 rw[e0]at E
 have J:=((H.free.pop fr.length (by simp)).keeps C (fun g v e=>by cases v;exact Z e)).keeps y (fun g v e=>by cases v;exact u3 e)
 have e1:(EH (fr++ [(i:Int)])).take (fr.length*1)=EH fr:=by
  unfold EH;rw[T1];simp
 rw[e1]at J
 refine⟨⟨?_, ?_,J,H.na,H.nb,H.nab⟩, ?_⟩
 ·rw[QN];exact X0 (J7 (J7 H.blk 3 _) 1 _) y (fun e=>D e.symm)
 ·rw[QN];exact E
 exact(C.mono (fun j h=> .inl h)).trans (y.mono (fun j h=>(.inr (.inl (by rw[h];rfl)):JN a (some ⟨gs,0,none⟩) (some ⟨u,0,none⟩) j))) (fun j h=> .inl h)
theorem Qb5 w a A c B d ss fr (i:Nat) most many x (h:R0 w a A c B d ss (fr++ [(i:Int)]) most many) (hm:many≠most) (hi:i<ss.length) (b2:fr.length<=2000):
  Calls prog 130 #[IP (some ⟨a,0,none⟩),X5 x] w fun e w'=>
   e= .returned (.tuple #[.agg #[I O i,I O (ss[i].2.1)],U0 0])/\Xx w w' a A B (ss.set i (x,ss[i].2.1,true)) fr most (RowKit.wrap64 (many+1)):=by
 unfold X5
 have t1:=X3 hm
 clear hm
 have hA:=Vv w x
 have C:=h.below hA
 have a7:=Mc w x
 obtain⟨q0,U,q2,q3⟩:=C.cells
 obtain⟨gs,rfl,s0,s1,s2,s3,s4,s5,s6⟩:=C.slot hi
 have f0:=C.slots.frozen (i*7)
 have f1:=C.slots.frozen (i*7+1)
 have f2:=C.slots.frozen (i*7+2)
 have f3:=C.slots.frozen (i*7+3)
 have f4:=C.slots.frozen (i*7+4)
 have f6:=C.slots.frozen (i*7+6)
 obtain⟨D,rfl,y0⟩:=C.free.cell (j:=fr.length) (u:=I O (i:Int)) (by simp[EH])
 have g1:=J1 C.blk 1
 have g3:=J1 C.blk 3
 have e1:(fr++ [(i:Int)]).length=fr.length+1:=by simp
 rw[e1]at U
 obtain⟨n,J⟩:=exq fr.length
 rw[J]at U y0
 have b0:n+1<=d:=by
  rcases C.free.2 with⟨hh,_⟩|⟨g',a9,b1,hv,_,_,h1,_⟩
  ·cases hh
  cases hv;rw[e1,J]at h1;exact h1
 have i1:RowKit.wrap64 (n:Int)=(n:Int):=by unfold RowKit.wrap64;omega
 have u1:gs≠a:=fun e=>C.na (by rw[<-e];rfl)
 have u2:D≠a:=fun e=>C.nb (by rw[<-e];rfl)
 have u3:D≠gs:=fun e=>C.nab gs rfl (by rw[<-e];rfl)
 have a6:=J5 h.blk
 have a8:=h.slots.lt (g:=gs) rfl
 have a3:=h.free.lt (g:=D) rfl
 have u4:a≠w.heap.size+1:=by omega
 have u5:gs≠w.heap.size+1:=by omega
 have u6:D≠w.heap.size+1:=by omega
 have u7:a≠w.heap.size:=by omega
 have u8:gs≠w.heap.size:=by omega
 have u9:D≠w.heap.size:=by omega
 have i2:(0:Int)< (n:Int)+1:=by omega
 have i3:(0:Int)<=(n:Int):=by omega
 have i4:(n:Int)<=(d:Int):=by omega
 have i5:(n:Int)< (n:Int)+1:=by omega
 have i6:(0:Int)<=(i:Int):=by omega
 have i7:(i:Int)< (ss.length:Int):=by omega
 have d1:decide ((0:Int)< (n:Int)+1)=true:=Z5 i2
 have E:=Q0 C
 have HA:=Q0 hA
 have Hn:=Q0 J
 clear C hA h J e1 a7 a6 a8 a3
 unfold CA at q0 U q2 q3 s0 s1 s2 s3 s4 s5 s6 f0 f1 f2 f3 f4 f6 y0 g1 g3
 go_enter func130,ntmps130
 go_wp2_with fail
 go_quiet (fail)
 go_wp2_with fail
 try simp only[Exit.inBlock,Exit.then]
 have HD:R0 ((CA w x).drewN nq) a (some ⟨gs,0,none⟩) c (some ⟨D,0,none⟩) d ss (fr++ [(i:Int)]) most many:=⟨E.blk,E.slots,E.free,E.na,E.nb,E.nab⟩
 obtain⟨a0,Z⟩:=Jh3 HD hi (RowKit.wrap64 (many+1)) x
 rw[Hn.out]at a0 Z
 have a4:=U7 HA nq
 have hR:Q1 ((CA w x).drewN nq) (w.heap.size+1) 186 #[I O 0,I O 0]:=P9 (Yi w x) _
 have a1: ∀j,JN a (some ⟨gs,0,none⟩) (some ⟨D,0,none⟩) j->j≠w.heap.size+1:=by
  rintro j (rfl|h|h)
  ·exact u4
  ·cases h;exact u5
  cases h;exact u6
 have a5:=X0 hR Z (fun h=>a1 _ h rfl)
 have a2:=(V2 ((MF ((((CA w x).drewN nq).setCell ⟨a,3,none⟩ (I O (RowKit.wrap64 (many+1)))).setCell ⟨a,1,none⟩ (.slice (some ⟨D,0,none⟩) n d)) gs (i*7) x).setCell ⟨gs,i*7+6,none⟩ (.bool true)) ⟨w.heap.size+1,0,none⟩ (I O (i:Int))).trans (V2 _ ⟨w.heap.size+1,1,none⟩ (I O ss[i].2.1)) (fun j h=> .inl h)
 refine Yh (g:=w.heap.size+1) (x:=I O (i:Int)) (y:=I O ss[i].2.1) (v:=U0 0) (by with_unfolding_all rfl) (by with_unfolding_all rfl) (by with_unfolding_all rfl) (J7 (J7 a5 0 _) 1 _) ?_
 refine⟨rfl,some ⟨gs,0,none⟩,c,some ⟨D,0,none⟩,d,a0.keeps a2 (fun j N=>a1 j N), ?_,fun j N=> .inl N⟩
 exact((U1 a4 _).trans Z (fun j h=> .inl h)).trans a2 (fun j h=> .inr (by have:j=w.heap.size+1:=h;omega))
theorem Qh3:(prog.info? 239).map (fun i=>(i.zero,i.size,i.bytes))=some (some (.agg #[I O 0,I O 0,I O 0,I O 0,I O 0,I O 0,.bool false]),7,56):=by kernel_rfl
theorem Ja0 {w2 w3 a c d A B ss fr most many} (H:R0 w2 a A c B d ss fr most many) {o gg cap x}
  (J:w3.ownsRow 0 239 7 (.slice (some ⟨gg,0,none⟩) (ss.length+1) cap) (ss.length+1) (Q9 KL ss++KL (x,0,true))) (D:((w2.alloc o).drew).grownBy w3 (Value.slice A ss.length c).ownBlock)
  (u:(Value.slice A ss.length c).ownBlock=some gg\/gg=w2.heap.size+1):
  let w5:=w3.setCell ⟨a,0,none⟩ (.slice (some ⟨gg,0,none⟩) (ss.length+1) cap)
  R0 w5 a (some ⟨gg,0,none⟩) cap B d (ss++ [(x,0,true)]) fr most many/\Q6 (JN a A B) w2 w5/\(∀i,JN a (some ⟨gg,0,none⟩) B i->JN a A B i\/w2.heap.size<=i):=by
 intro w5
 rw[A7]at D u
 have a0:=J5 H.blk
 have v:=EB D
 have C:gg≠a:=by
  rcases u with h|h
  ·intro e;exact H.na (by rw[h,e])
  omega
 have N: ∀g,Q7 B=some g->g≠gg:=by
  intro g j e;rcases u with h|h
  ·exact H.nab gg h (by rw[j,e])
  have:=H.free.lt j;omega
 have b3:=X0 H.blk v H.na
 have f3:=H.free.keeps v (fun g j e=>H.nab g e j)
 have U:J2 w3 (some ⟨gg,0,none⟩) (ss.length+1) cap 239 7 (Q9 KL ss++KL (x,0,true)):=J
 have y:Q6 (fun i=>i=a) w3 w5:=V2 w3 ⟨a,0,none⟩ (.slice (some ⟨gg,0,none⟩) (ss.length+1) cap)
 have E:(ss++ [(x,(0:Int),true)]).length=ss.length+1:=by simp
 have Z:Q9 KL (ss++ [(x,0,true)])=Q9 KL ss++KL (x,0,true):=UE _ _ _
 refine⟨⟨?_, ?_, ?_, ?_,H.nb, ?_⟩, ?_, ?_⟩
 ·rw[E];exact J7 b3 0 _
 ·rw[E,Z];exact U.keeps y (fun g j e=>by cases j;exact C e)
 ·exact f3.keeps y (fun g j e=>H.nb (by rw[j,e]))
 ·intro e;cases e;exact C rfl
 ·intro g j e;cases j;exact N _ e rfl
 ·exact(v.mono (fun i h=>(.inr (.inl h):JN a A B i))).trans y (fun i h=> .inl (.inl h))
 rintro i (h|h|h)
 ·exact .inl (.inl h)
 ·cases h
  rcases u with h|h
  ·exact .inl (.inr (.inl h))
  exact .inr (by show _<=gg;omega)
 exact .inl (.inr (.inr h))
theorem Qb6 w a A c B d ss most many x (h:R0 w a A c B d ss [] most many) (hm:many≠most) (c7:ss.length<=2000):
  Calls prog 130 #[IP (some ⟨a,0,none⟩),X5 x] w fun e w'=>
   e= .returned (.tuple #[.agg #[I O ss.length,I O 0],U0 0])/\Xx w w' a A B (ss++ [(x,0,true)]) [] most (RowKit.wrap64 (many+1)):=by
 unfold X5
 have t1:=X3 hm
 clear hm
 have hA:=Vv w x
 have H0:=h.below hA
 obtain⟨Z,q1,q2,q3⟩:=H0.cells
 have g3:=J1 H0.blk 3
 have a8:=Q0 (fun i (hi:JN a A B i)=>h.fp hi)
 have c6:=J5 h.blk
 have u4:a≠w.heap.size+1:=by omega
 have u7:a≠w.heap.size:=by omega
 have E:=Q0 H0
 have HA:=Q0 hA
 clear H0 hA h c6
 obtain⟨n,hn⟩:=exq ss.length
 have Hn:=Q0 hn
 unfold CA at Z q1 q2 q3 g3
 go_enter func130,ntmps130
 go_wp2_with fail
 go_quiet (fail)
 go_upto_region 11 with fail
 have u:R0 ((CA w x).drewN nq) a A c B d ss [] most many:=⟨E.blk,E.slots,E.free,E.na,E.nb,E.nab⟩
 have a0:=U7 HA nq
 have U:Q1 ((CA w x).drewN nq) (w.heap.size+1) 186 #[I O 0,I O 0]:=P9 (Yi w x) _
 have hX:Q1 ((CA w x).drewN nq) w.heap.size 29 (J8 x):=P9 (Mc w x) _
 unfold CA at u a0 U hX
 generalize World.drewN ((w.alloc (.cells #[I O x.id,I O x.side,I O x.kind,I O x.price,I O x.qty] 29)).alloc (.cells #[I O 0,I O 0] 186)) nq=w1 at u a0 U hX|-
 have D:=V2 w1 ⟨a,3,none⟩ (I O (RowKit.wrap64 (many+1)))
 have C:R0 (w1.setCell ⟨a,3,none⟩ (I O (RowKit.wrap64 (many+1)))) a A c B d ss [] most (RowKit.wrap64 (many+1)):=
  ⟨J7 u.blk 3 _,u.slots.keeps D (fun g hg e=>u.na (by rw[hg,e])),u.free.keeps D (fun g hg e=>u.nb (by rw[hg,e])),u.na,u.nb,u.nab⟩
 have a1:=X0 U D (fun e=>u4 e.symm)
 have a3:=X0 hX D (fun e=>u7 e.symm)
 generalize hW:w1.setCell ⟨a,3,none⟩ (I O (RowKit.wrap64 (many+1)))=w2 at D C a1 a3|-
 clear hW Z q1 q2 q3 g3 u U hX
 have d1:=J5 C.blk
 have Z:=C.cells.1
 rw[hn]at Z
 obtain⟨c8,d7,e1,d3,d5⟩:=Z6 a3
 obtain⟨i0,c4,c5,b9,c2⟩:=N0 Qh3
 have b8:some a≠(Value.slice A n c).ownBlock:=by rw[A7];exact C.na.symm
 have c1:some (w.heap.size+1)≠(Value.slice A n c).ownBlock:=by
  rw[A7];intro e;have:=a8.out _ (.inr (.inl e.symm));omega
 have a2:=C.slots
 rw[hn]at a2
 have HS:=Q0 (show w2.ownsRow 0 239 7 (.slice A n c) n (Q9 KL ss)from a2)
 have a4:=Q0 C
 have a5:=Q0 a1
 have a6:=Q0 D
 have e3:n<=2000:=by omega
 have i1:RowKit.wrap64 (n:Int)=(n:Int):=by unfold RowKit.wrap64;omega
 clear C a2 hn a1 D c7 a3
 go_region_law ((refine PH _ (by rfl) _ _ _ (by rfl) 0 239 i0 _ 7 56 underlying216 c4 c5 b9 c2 rfl (by omega) (.slice A n c) n _ (by rfl) ((YM HS _).drew) ⟨w2.heap.size,0,none⟩ 1 1 (KL (x,0,true)) (by rfl) (by rfl) (JB (cs:= #[I O x.id,I O x.side,I O x.kind,I O x.price,I O x.qty,I O 0,.bool true]) (t:=239) (fr:=(0,0)) (S5 w2 _)) (Qy2 _) (by omega) (by unfold maxLen;omega) (by omega) (by simp) (w2.heap.size+1) (by simp) ?_;intro gg cap w3 c3 N c0 d4;have b1:=Q0 N;have b3:=X0 a4.blk (EB N) (fun e=>b8 e.symm);have r0:w3.cell? ⟨a,0,none⟩=some (.slice A n c):=(by rw[J0 b3];exact E7 (fun k=>some (Value.slice A k c)) Hn);have d8:=J1 b3 0;have J:=X0 a5 (EB N) (fun e=>c1 e.symm);have c9:w3.cell? ⟨w.heap.size+1,0,none⟩=some (I O 0):=(by rw[J0 J];rfl);have d9:w3.cell? ⟨w.heap.size+1,1,none⟩=some (I O 0):=(by rw[J0 J];rfl);have e2:=J1 J 0;have e4:=J1 J 1;have b0:=Q0 J;clear b3 J N))
 all_goals go_wp2_with fail
 all_goals try simp only[Exit.inBlock,Exit.then]
 all_goals
  obtain rfl:ss.length=n:=Hn.out;obtain⟨b2,b5,a9⟩:=Ja0 a4 c3 b1 c0;have d0:=J5 a5;have d2:=a0.size;have d6:=a6.size;have R5:=XP b0 (p:=⟨a,0,none⟩) (XV u4) (.slice (some ⟨gg,0,none⟩) (ss.length+1) cap);have a7:=(V2 (w3.setCell ⟨a,0,none⟩ (.slice (some ⟨gg,0,none⟩) (ss.length+1) cap)) ⟨w.heap.size+1,0,none⟩ (I O (ss.length:Int))).trans (V2 _ ⟨w.heap.size+1,1,none⟩ (I O 0)) (fun j h=> .inl h);refine Yh (g:=w.heap.size+1) (x:=I O (ss.length:Int)) (y:=I O 0) (v:=U0 0) (by with_unfolding_all rfl) (by with_unfolding_all rfl) (by with_unfolding_all rfl) (J7 (J7 R5 0 _) 1 _) ?_;refine⟨rfl,some ⟨gg,0,none⟩,cap,B,d,b2.keeps a7 ?_, ?_, ?_⟩
  ·intro j hj e
   have e':j=w.heap.size+1:=e;rcases a9 j hj with h|h
   ·have:=a8.out j h
    omega
   omega
  ·exact(((U1 a0 (JN a A B)).trans a6 (fun j h=> .inl (.inl h))).trans b5 (fun j h=> .inl h)).trans a7 (fun j h=> .inr (by have:j=w.heap.size+1:=h;omega))
  intro j hj;rcases a9 j hj with h|h
  ·exact .inl h
  exact .inr (by omega)
def Ql (h:Int×Int):Value:= .agg #[I O h.1,I O h.2]
section
variable {w:World} {A:Option Addr} {len:Nat} {ps:List (Int×Int)}
theorem Jk9 {b off} (h:V4 w E8 2 (some ⟨b,off,none⟩) len ps) {i} (u:i<ps.length):
  w.cell? ⟨b,off+i*2,none⟩=some (I O ps[i].1)/\w.cell? ⟨b,off+i*2+1,none⟩=some (I O ps[i].2):=⟨h.at_ u (j:=0) rfl,h.at_ u (j:=1) rfl⟩
theorem RR {g n c t} (h:J2 w (some ⟨g,0,none⟩) n c t 2 (Q9 E8 ps)) {i} (u:i<ps.length):
  w.cell? ⟨g,i*2,none⟩=some (I O ps[i].1)/\w.cell? ⟨g,i*2+1,none⟩=some (I O ps[i].2):=by
 obtain⟨y,v,j⟩:=h.elem DC (by omega) u
 cases v
 exact⟨j 0 _ rfl,j 1 _ rfl⟩
end
theorem Ka h: ∀u∈E8 h,u.oneCell'=true:=by
 intro u i
 simp[E8]at i
 rcases i with rfl|rfl<;>rfl
def Ax (w:World) (S:Nat->Prop) (g:FuncId) (lb:Array Value) (F:(Int×Int)->Bool):Prop:=
 ∀W p,Q6 S w W->Calls prog g (#[Ql p]++lb) W fun e w'=>e= .returned (.bool (F p))/\Below W.heap.size W w'
theorem Qh4 g lb F (eg: ∀a0 w,(callFunc g a0).run prog w= .ok (.enter g a0) w) A n c ps w S
  (hp:Ax w S g lb F) (h:V4 w E8 2 A n ps) (hm:n<=1000000):
  Calls prog 175 #[.slice A n c,.func (.func g) #[] lb] w fun e w'=>Below w.heap.size w w'/\
   (((∀i (u:i<ps.length),F ps[i]=false)/\e= .returned (I O (-1)))\/ ∃(k:Nat) (hk:k<ps.length),F ps[k]=true/\(∀i (u:i<ps.length),i<k->F ps[i]=false)/\e= .returned (I O k)):=by
 have hl:=h.1
 have HP:=Q0 hp
 have HL:=Q0 hl
 have Z:=Q0 h
 clear hp hl h
 go_enter func175,ntmps175
 go_wp2
 go_loopg [5,8] n (fun gg _ s8 wr=> ∃j,j<=n/\gg=n-j/\s8=I O j/\Below w.heap.size w wr/\Hid (∀i (u:i<ps.length),i<j->F ps[i]=false))
 case atStart=>exact⟨0,V5 _,rfl,rfl,Q2 _ w,Q0 fun i _ u=>absurd u (Nat.not_lt_zero _)⟩
 obtain⟨j,a4,rfl,rfl,v,J⟩:=hrel
 by_cases a5:j<n
 ·obtain⟨b,a3,rfl,_,_⟩:=Z.2 (by omega)
  have U:j<ps.length:=by have:=HL.out;omega
  obtain⟨x0,x1⟩:=Jk9 (Z.below v (Q4 _)) U;have y:=HP.out wr ps[j] (U1 v _);have a1:(j:Int)< (n:Int):=by omega
  obtain⟨p,E⟩: ∃p,Hid (ps[j]=p):=⟨_,Q0 rfl⟩;rw[E.out]at x0 x1 y;obtain⟨p0,p1⟩:=p;unfold Ql at y;dsimp only at x0 x1 y
  cases C:F (p0,p1)with
  |true=>
   rw[C]at y;have D:=Q0 C;clear C;go_wp2_with (go_at_fn g;refine y.mono ?_;rintro e w' ⟨rfl,N⟩)
   go_ret;exact⟨v.trans (N.mono v.size),.inr ⟨j,U,by rw[E.out];exact D,J,rfl⟩⟩
  |false=>
   rw[C]at y;have D:=Q0 C;clear C;go_wp2_with (go_at_fn g;refine y.mono ?_;rintro e w' ⟨rfl,N⟩)
   go_roundg (n- (j+1))
   case measure=>omega
   refine⟨j+1,by omega,rfl,by go_num,v.trans (N.mono v.size),Q0 fun i u a2=> ?_⟩
   by_cases e:i=j
   ·subst e
    rw[E.out];exact D
   exact J i u (by omega)
 have a1: ¬(j:Int)< (n:Int):=by omega
 obtain rfl:j=n:=by omega
 go_wp2
 go_ret
 exact⟨v,.inl ⟨fun i u=>J i u (by have:=HL.out;omega),rfl⟩⟩
structure LW (F:(Int×Int)->Bool) (ps cs:List (Int×Int)) (i j:Nat):Prop where
 len:cs.length=ps.length
 lt:i<j
 jn:j<=ps.length
 done:cs.take i=(ps.take j).filter (fun p=> !F p)
 rest: ∀m (h:m<ps.length) (h':m<cs.length),j<=m->cs[m]=ps[m]
theorem LW.skip {F ps cs i j} (h:LW F ps cs i j) (u:j<ps.length) (C:F ps[j]=true):LW F ps cs i (j+1):=
 ⟨h.len,by have:=h.lt;omega,u,by rw[M8 u,QL,h.done];simp[C],fun m y v D=>h.rest m y v (by omega)⟩
theorem LW.keep {F ps cs i j} (h:LW F ps cs i j) (u:j<ps.length) (C:F ps[j]=false):LW F ps (cs.set i ps[j]) (i+1) (j+1):=by
 have J:=h.lt
 have D:=h.len
 refine⟨by rw[QN];exact h.len,by omega,u, ?_,fun m y v E=> ?_⟩
 ·rw[M8 u,QL,<-h.done,M8 (by rw[QN];omega),MM,TZ (Q4 _)]
  simp[C]
 rw[PA (by omega)]
 exact h.rest m y (by simpa using v) (by omega)
theorem Qq1 {w g n c t cs} (h:J2 w (some ⟨g,0,none⟩) n c t 2 (Q9 E8 cs)) {i} (j:i<cs.length) p:
  J2 ((w.setCell ⟨g,i*2,none⟩ (I O p.1)).setCell ⟨g,i*2+1,none⟩ (I O p.2)) (some ⟨g,0,none⟩) n c t 2 (Q9 E8 (cs.set i p)):=by
 rw[<-NY DC p cs i j]
 exact(h.set _ _).set _ _
theorem RS w g a b x y:Q6 (fun i=>i=g) w ((w.setCell ⟨g,a,none⟩ x).setCell ⟨g,b,none⟩ y):=
 (V2 w ⟨g,a,none⟩ x).trans (V2 _ ⟨g,b,none⟩ y) (fun i h=> .inl h)
theorem Qb7 g lb F (eg: ∀a8 w,(callFunc g a8).run prog w= .ok (.enter g a8) w) A n c ps w S
  (hp:Ax w S g lb F) (h:J2 w A n c 186 2 (Q9 E8 ps)) (hS: ∀g,Q7 A=some g->S g) (hm:n<=1000000):
  Calls prog 123 #[.slice A n c,.func (.func g) #[] lb] w fun e w'=>Q6 S w w'/\
   ∃m,e= .returned (.slice A m c)/\J2 w' A m c 186 2 (Q9 E8 (ps.filter fun p=> !F p)):=by
 have HP:=Q0 hp
 have HH:=Q0 h
 have HL:=Q0 (YW DC (by omega) h)
 have HE:=Q0 (VV DC (by omega) h)
 clear hp h
 go_enter func123,ntmps123
 go_wp2_with fail
 refine(Qh4 g lb F eg A n c ps w S HP HE hm).mono ?_
 rintro e w1 ⟨hB,⟨a6,rfl⟩|⟨k,hk,hy,a5,rfl⟩⟩
 ·have HX:Hid (ps.filter (fun p=> !F p)=ps):=Q0 (by
   rw[KR];intro p hp;obtain⟨i,hi,rfl⟩:=XG.1 hp;rw[a6 i hi];rfl)
  clear a6;go_wp2;go_ret;exact⟨U1 hB _,n,rfl,by rw[HX.out];exact HH.below hB⟩
 obtain⟨y,rfl⟩: ∃y,A=some ⟨y,0,none⟩:=by obtain⟨y,hA,_⟩:=HH.elem DC (by omega) hk;exact⟨y,hA⟩
 have a7:=hS y rfl
 have hn:=HL.out
 have d3:((k:Int) == -1)=false:=X3 (by omega)
 have b0:LW F ps ps k (k+1):=⟨rfl,by omega,by omega,by
  rw[M8 hk,QL,KR.2]
  ·simp[hy]
  intro p hp;obtain⟨i,hi,rfl⟩:=XG.1 hp;have b9:i<k:=by simp at hi;omega
  rw[LB,a5 i (by omega) b9];rfl,fun m _ _ _=>rfl⟩
 have HI:=Q0 b0
 have HR:=Q0 (HH.below hB)
 clear a5 hy b0
 have a0:=Q0 hn
 have d1:k<1000000:=by omega
 clear hn hk
 go_wp2_with fail
 go_loopg [5,6,7] n (fun gg s5 s6 _ wr=> ∃(i j:Nat) (cs:List (Int×Int)),s5=I O i/\s6=I O j/\j<=n/\n-j<=gg/\Q6 S w wr/\J2 wr (some ⟨y,0,none⟩) n c 186 2 (Q9 E8 cs)/\Hid (LW F ps cs i j))
 case atStart=>exact⟨k,k+1,ps,rfl,by go_num,by have:=HI.jn;have:=a0.out;omega,by omega,U1 hB _,HR,HI⟩
 obtain⟨i,j,cs,rfl,rfl,hj,hg,hK,u,N⟩:=hrel
 have c3:=N.lt
 have a4:cs.length=n:=by have:=N.len;have:=a0.out;omega
 have HC:=Q0 a4
 by_cases c9:j<n
 ·have b1:j<cs.length:=by omega
  have a3:j<ps.length:=by have:=a0.out;omega
  obtain⟨x0,x1⟩:=RR u b1;have c2:(j:Int)< (n:Int):=by omega
  have er:=N.rest j a3 b1 (Q4 _);obtain⟨p,E⟩: ∃p,Hid (ps[j]=p):=⟨_,Q0 rfl⟩;rw[er,E.out]at x0 x1;obtain⟨p0,C⟩:=p;dsimp only at x0 x1;have a1:Below wr.heap.size wr (wr.alloc (.cells #[I O p0,I O C] 186)):=(Q2 _ _).alloc (Q4 _) _;have b2:=Q0 a1;have D:=HP.out _ (p0,C) (hK.then_ a1);have a9:=Q0 (u.below a1);have c4:=Q0 (J9 wr 186 #[I O p0,I O C]);have HK:=Q0 hK;have c6:=u.lt (g:=y) rfl;unfold Ql at D;dsimp only at D;clear u er a4 a1 hK
  cases J:F (p0,C)with
  |true=>
   rw[J]at D;have HQ:=Q0 J;clear J;go_wp2_with (go_at_fn g;refine D.mono ?_;rintro e w' ⟨rfl,U⟩)
   go_roundg (n- (j+1))
   case measure=>omega
   exact⟨i,j+1,cs,rfl,by go_num,by omega,by omega,HK.then_ (b2.trans (U.mono (by simp))),a9.below U,Q0 (N.skip a3 (by rw[E.out];exact HQ))⟩
  |false=>
   rw[J]at D;have HQ:=Q0 J;clear J;go_wp2_with fail
   refine D.mono ?_;rintro e w2 ⟨rfl,U⟩;have Z:=a9.below U;have a2:=J4 c4 U;have z0:w2.cell? ⟨wr.heap.size,0,none⟩=some (I O p0):=by rw[J0 a2];rfl
   have z1:w2.cell? ⟨wr.heap.size,1,none⟩=some (I O C):=by rw[J0 a2];rfl
   have c0:i<cs.length:=by have:=HC.out;omega
   have c8:(i:Int)< (n:Int):=by omega
   have b8:(0:Int)<=(i:Int):=by omega
   obtain⟨y0,y1⟩:=RR Z c0;have f0:=Z.frozen (i*2);have f1:=Z.frozen (i*2+1);generalize cs[i].1=o0 at y0;generalize cs[i].2=o1 at y1;have c1:=Q0 Z;clear x0 x1 Z a2;go_wp2_with fail
   go_roundg (n- (j+1))
   case measure=>omega
   refine⟨i+1,j+1,cs.set i (p0,C),by go_num,by go_num,by omega,by omega, ?_,Qq1 c1 (by have:=HC.out;omega) (p0,C),Q0 ?_⟩
   ·exact((HK.then_ b2).then_ U).trans (RS _ _ _ _ _ _) (fun x hx=> .inl (by subst hx;exact a7))
   have:=N.keep a3 (by rw[E.out];exact HQ);rw[E.out]at this;exact this
 obtain rfl:j=n:=by omega
 have c2: ¬(j:Int)< (j:Int):=by omega
 have d0:i<j:=c3
 obtain⟨vs,d2,c5⟩:=TM (P:=prog) wr 151 186 0 (.agg #[I O 0,I O 0]) 2 Qx (fun _=>by kernel_rfl) rfl (by omega) (by intro v hv;simp[Value.cells]at hv;subst hv;rfl) y (i*2) (j-i) (c-i) (by omega)
  (fun x hx=>u.some_ (by omega)) (fun x hx=>u.frozen _)
 have b5:=Q0 u
 obtain⟨d7,d8⟩:=u.cap
 have d4:i<c:=by omega
 have d6: ¬c=i:=by omega
 have b8:(0:Int)<=(i:Int):=by omega
 have c7:(i:Int)<=(j:Int):=by omega
 have d5:(j:Int)<=(c:Int):=by omega
 clear a4 u
 go_wp2_with fail
 go_ret
 refine⟨hK.trans (DU _ _ _ _) (fun x hx=> .inl (by subst hx;exact a7)),i,rfl, ?_⟩
 have hd:=N.done
 rw[N7 (l:=ps) (by rw[a0.out];exact Q4 _)]at hd
 rw[<-hd,<-Xk DC]
 exact Je _ _ _ (b5.pop i (by omega)) (Q4 _)
def PK (h p:Int×Int):Bool:=p.1 ==h.1 &&p.2 ==h.2
theorem Jl0 {h p}:PK h p=true↔p=h:=by
 unfold PK
 obtain⟨a,b⟩:=h
 obtain⟨c,d⟩:=p
 simp
theorem Wg p pb h w (j:w.cell? ⟨pb,0,none⟩=some (I O h.1)) (h1:w.cell? ⟨pb,1,none⟩=some (I O h.2)):
  Calls prog 124 #[Ql p,IP (some ⟨pb,0,none⟩)] w fun e w'=>e= .returned (.bool (PK h p))/\Below w.heap.size w w':=by
 obtain⟨a,b⟩:=p
 obtain⟨c,d⟩:=h
 unfold Ql
 dsimp only at*
 have i:=V6 w _ j
 have u:=(S4 w (.cells #[I O a,I O b] 186) ⟨pb,0,none⟩ i).trans j
 have y:=(S4 w (.cells #[I O a,I O b] 186) ⟨pb,1,none⟩ i).trans h1
 have v:Hid (PK (c,d) (a,b)=((a ==c) && (b ==d))):=Q0 rfl
 go_enter func124,ntmps124
 go_wp2
 all_goals
  go_ret;exact⟨T2 (by simp[PK, *]),(Q2 _ _).alloc (Q4 _) _⟩
theorem Kb w A n c u pb h (N:J2 w A n c 186 2 (Q9 E8 u)) (U:n<=1000000)
  (J:Q7 A≠some pb) (y:w.cell? ⟨pb,0,none⟩=some (I O h.1)) (h1:w.cell? ⟨pb,1,none⟩=some (I O h.2)):
  Calls prog 122 #[.slice A n c,IP (some ⟨pb,0,none⟩)] w fun e w'=>Q6 (fun i=>Q7 A=some i) w w'/\
   e= .returned (.slice A (u.filter fun p=> !PK h p).length c)/\J2 w' A (u.filter fun p=> !PK h p).length c 186 2 (Q9 E8 (u.filter fun p=> !PK h p)):=by
 have eg:=XH func124 (by kernel_rfl) rfl
 have C:=V6 w _ y
 have hp:Ax w (fun i=>Q7 A=some i) 124 #[IP (some ⟨pb,0,none⟩)] (PK h):=fun W p j=>
  Wg p pb h W ((j.cell (p:=⟨pb,0,none⟩) C J).trans y) ((j.cell (p:=⟨pb,1,none⟩) C J).trans h1)
 have a1: ∀w,(Instr.makeFunc (.func 124) #[] #[IP (some ⟨pb,0,none⟩)]).run prog w= .ok (.func (.func 124) #[] #[IP (some ⟨pb,0,none⟩)]) w:=fun _=>rfl
 have HR:=Q0 N
 have HP:=Q0 hp
 clear N hp y h1
 go_enter func122,ntmps122
 go_wp2_with fail
 refine(Qb7 _ _ (PK h) eg A n c u w _ HP HR (fun _ e=>e) U).mono ?_
 rintro e w1 ⟨j,m,rfl,v⟩
 have D:=YW DC (by omega) v
 have E:=Q0 D
 have Z:=Q0 j
 have a0:=Q0 v
 clear D j v
 go_wp2
 go_ret
 refine⟨Z,by rw[E.out];rfl, ?_⟩
 rw[E.out]
 exact a0
theorem Tl w X t cs o A c lv bu se (h:XQ w X t cs o A c lv bu se) (hs:FY lv bu se) z (hr:UN z) (hk:z.kind=2) q (D:q=1\/q= -1) (hp:q= -1->z.qty<=(if z.side=1 then bu else se)):
  Calls prog 121 #[IP (some ⟨X,o,none⟩),X5 z,I O q] w fun e w'=>(∃v,e= .returned v)/\ZD w w' X t cs o A lv (bu+q*dB z) (se+q*dS z):=by
 obtain⟨⟨a3,U⟩,⟨a2,a0⟩,-,-⟩:=hs
 obtain⟨i,⟨a1,Z⟩,-⟩:=hr
 have C:Below w.heap.size w (w.alloc (.cells #[I O z.id,I O z.side,I O z.kind,I O z.price,I O z.qty] 29)):=(Q2 _ w).alloc (Q4 _) _
 have u:=h.below C
 obtain⟨y0,y1,y2⟩:=u.cells
 have f1:=J1 u.blk (o+1)
 have f2:=J1 u.blk (o+2)
 have hX:=J5 h.blk
 have t1:=Z0 hk
 have H:=Q0 h
 have a4:=Q0 C
 unfold X5
 have J:RowKit.wrap64 (z.qty*q)=z.qty*q:=by rcases D with rfl|rfl<;>(unfold RowKit.wrap64;omega)
 obtain⟨m,N⟩:=exq (z.qty*q)
 have E:m=q*z.qty:=by rw[<-N,Int.mul_comm]
 have a5: -1000000<=m/\m<=1000000:=by rcases D with rfl|rfl<;>omega
 rw[N]at J
 rcases i with i|i
 ·have t2:=Z0 i
  have i1:RowKit.wrap64 (bu+m)=bu+m:=by unfold RowKit.wrap64;omega
  have y:bu+q*dB z=bu+m:=by unfold dB;rw[Q5 i,E]
  have j:se+q*dS z=se:=by unfold dS;rw[Q5 i];omega
  rw[y,j];clear h u C hk i D hp J E a3 U a2 a0 a1 Z y j y0 y2 f2;go_enter func121,ntmps121
  go_wp2_with fail
  refine P4 (KW rfl _ _ _) rfl ?_;exact⟨⟨_,rfl⟩,(H.market (Q2 _ _) _ _ 1 _ (.inl ⟨rfl,rfl,rfl⟩)).then_ ((Q2 _ _).alloc (Q4 _) _)⟩
 have t2:=X3 (show¬z.side=1 by omega)
 have i1:RowKit.wrap64 (se+m)=se+m:=by unfold RowKit.wrap64;omega
 have y:bu+q*dB z=bu:=by unfold dB;rw[Q3 (by omega)];omega
 have j:se+q*dS z=se+m:=by unfold dS;rw[Q3 (by omega),E]
 rw[y,j]
 clear h u C hk i D hp J E a3 U a2 a0 a1 Z y j y0 y1 f1
 go_enter func121,ntmps121
 go_wp2_with fail
 refine P4 (KW rfl _ _ _) rfl ?_
 exact⟨⟨_,rfl⟩,(H.market (Q2 _ _) _ _ 2 _ (.inr ⟨rfl,rfl,rfl⟩)).then_ ((Q2 _ _).alloc (Q4 _) _)⟩
theorem Jh4 {i:List X4} {n1 k m2} (h:i.length=n1) (hk:k<i.length) (e:k+ (n1- (k+1))=m2):i.length=m2+1:=by omega
theorem Ja1 {n k:Nat} (i:n<=99999) (hk:k<=n):RowKit.wrap64 ((k:Int)+1)=(k:Int)+1:=by unfold RowKit.wrap64;omega
theorem Wh w X t cs o A c lv bu se (h:XQ w X t cs o A c lv bu se) (hs:FY lv bu se) z (hr:UN z) (hk:z.kind≠2) q (hq:q=1\/q= -1) (hp:q= -1->z.qty<=(if z.side=1 then(C2 lv z.price).1 else(C2 lv z.price).2)):
  Calls prog 121 #[IP (some ⟨X,o,none⟩),X5 z,I O q] w fun e w'=>(∃v,e= .returned v)/\ ∃lv',ZD w w' X t cs o A lv' bu se/\lv'.length<=lv.length+1/\ ∀p,C2 lv' p=if p=z.price then((C2 lv p).1+q*dB z,(C2 lv p).2+q*dS z)else C2 lv p:=by
 obtain⟨N,⟨f7,g5⟩,a5⟩:=hr
 have a5:1<=z.price/\z.price<=1000000:=a5.resolve_left hk
 have b9:Below w.heap.size w (w.alloc (.cells #[I O z.id,I O z.side,I O z.kind,I O z.price,I O z.qty] 29)):=(Q2 _ w).alloc (Q4 _) _
 have h':=h.below b9
 obtain⟨n,hn⟩:=exq lv.length
 have k5:n<=99999:=by have:=hs.n;omega
 have Z:=h'.cells.1
 rw[hn]at Z
 obtain⟨w1,f8⟩:=exq (w.alloc (.cells #[I O z.id,I O z.side,I O z.kind,I O z.price,I O z.qty] 29))
 obtain⟨Bx,e3⟩:=exq w.heap.size
 have u:=J9 w 29 #[I O z.id,I O z.side,I O z.kind,I O z.price,I O z.qty]
 rw[f8]at b9 h' Z u
 rw[e3]at u
 have e6:=J5 h'.blk
 have k7:X<Bx:=by rw[<-e3];exact J5 h.blk
 have g8:=J5 u
 obtain⟨x0,x1,x2,x3,x4⟩:=(show w1.cell? ⟨Bx,0,none⟩=some (I O z.id)/\w1.cell? ⟨Bx,1,none⟩=some (I O z.side)/\w1.cell? ⟨Bx,2,none⟩=some (I O z.kind)/\w1.cell? ⟨Bx,3,none⟩=some (I O z.price)/\w1.cell? ⟨Bx,4,none⟩=some (I O z.qty)from⟨by rw[J0 u];rfl,by rw[J0 u];rfl,by rw[J0 u];rfl,by rw[J0 u];rfl,by rw[J0 u];rfl⟩)
 have g3:=Cu z.price 172 #[] A n c lv w1.drew (by rw[<-hn];exact VV E6 (by omega) (h'.below (J3 (Q2 _ _))).row) h.ok.rank (by omega) (XH func172 (by kernel_rfl) rfl)
  (fun W q hm hW=>Tg q.1 q.2.1 q.2.2 z.price (by have:=h.ok.pr q hm;unfold FJ;omega) (by unfold FJ;omega) W)
 have g2:=Q0 g3
 have t1:=X3 hk
 have H:=Q0 h
 have HS:=Q0 hs
 have J:=Q0 hn
 have j2:=Q0 (show Q7 A≠some Bx from fun e=>by have:=h.row.lt e;omega)
 have c9:=Q0 b9
 have f9:=Q0 u
 have e8:RowKit.wrap64 (z.qty*q)=z.qty*q:=by rcases hq with rfl|rfl<;>(unfold RowKit.wrap64;omega)
 obtain⟨m,hm⟩:=exq (z.qty*q)
 have a4:q*z.qty=m:=by rw[<-hm,Int.mul_comm]
 replace e8:RowKit.wrap64 (z.qty*q)=m:=e8.trans hm
 have Hm:=Q0 a4
 have Hq:=Q0 hq
 have Hp:=Q0 hp
 have j7:=Q0 N
 have i2:=Q0 (show 1<=z.qty/\z.qty<=1000000 from⟨f7,g5⟩)
 unfold X5
 clear h h' hs g3 b9 u hk a5 hq hp hm a4 N hn f7 g5
 go_enter func121,ntmps121
 go_upto_region 1 with fail
 clear f8 e3
 go_wp2_with fail
 refine CH 11 (fun W=>W.cell? ⟨X,o,none⟩=some (.slice A n c)/\W.cell? ⟨Bx,3,none⟩=some (I O z.price)) (by kernel_rfl) ⟨Z,x3⟩ (fun hS=> ?_)
 refine tT 0 (IP (some ⟨X,o,none⟩)) ?_
 refine tT 1 (IP (some ⟨X,o,none⟩)) ?_
 refine tT 2 (IP (some ⟨X,o,none⟩)) ?_
 refine tT 3 (.slice A n c) ?_
 refine tT 4 (IP (some ⟨Bx,3,none⟩)) ?_
 refine tT 5 (I O z.price) ?_
 refine Y8 6 (by kernel_rfl) rfl (fun K1 a3=> ?_)
 go_simp
 refine g2.mono ?_
 rintro e w2 ⟨a7,k,f0,g4,f6,rfl⟩
 obtain⟨fb,d6⟩:=exq (DL lv z.price n k)
 rw[d6]
 have h7:=(a7.cell (p:=⟨X,o,none⟩) e6).trans Z
 have j0:=(a7.cell (p:=⟨Bx,3,none⟩) g8).trans x3
 refine a3 _ _ ⟨h7,j0⟩ (fun hS=> ?_)
 clear a3
 refine tT 7 (.tuple #[I O k,.bool fb]) ?_
 refine tT 8 (I O k) ?_
 refine tT 9 (.bool fb) ?_
 refine tT 10 (I O k) ?_
 refine YY (by kernel_rfl) rfl (fun K1 a3=> ?_)
 go_simp
 refine a3 _ _ (YU (by kernel_rfl) ?_ _)
 clear a3
 have c8:=Q0 a7
 clear a7 hS
 go_upto_if 47 with fail
 obtain⟨⟨k0,h4⟩,⟨h9,i8⟩⟩:=HS.lot H.ok z.price
 obtain⟨b0,d8⟩:=exq ((C2 lv z.price).1)
 obtain⟨s0,c5⟩:=exq ((C2 lv z.price).2)
 have e9:C2 lv z.price=(b0,s0):=by rw[<-d8,<-c5]
 rw[d8]at k0 h4
 rw[c5]at h9 i8
 have b1:=Q0 e9
 clear d8 c5 e9
 have a2:=Q0 (show Below w.heap.size w w2 from c9.trans ((J3 (Q2 _ w1)).trans (c8.mono c9.size)))
 have g0:=Q0 (J4 (Z2 f9) c8)
 have h0:=Q0 d6
 have g6:=Q0 g4
 have f5:=Q0 f6
 have k6:X<w2.heap.size:=T8 (J5 H.blk) a2.size
 have HP:=Q0 (a5.resolve_left (fun e=>by rw[Z0 e]at t1;cases t1))
 clear d6 g4 f6 g2 f9 c8 c9 x0 x1 x2 x3 x4 Z e6 g8 a5 t1
 go_cut [48] (fun k9 wx=> ∃d7 A1 c1 e4,ZS w wx X t cs o A lv bu se z.price k d7 A1 c1 e4 b0 s0/\Q1 wx Bx 29 #[I O z.id,I O z.side,I O z.kind,I O z.price,I O z.qty])
 case first=>
  cases fb with
  |true=>
   go_wp2_with fail
   go_meet;obtain⟨j,i6⟩:=Ct J h0;obtain⟨e1,e2⟩:=ZS.found H a2 j i6;rw[b1.out]at e2;obtain⟨rfl,rfl⟩:=Prod.mk.inj e2;exact⟨_,_,_,_,e1,g0⟩
  |false=>
   have a9:Below w2.heap.size w2 ((w2.alloc (.cells #[I O z.price,I O 0,I O 0] 252)).drew):=J3 ((Q2 _ _).alloc (Q4 _) _);have i:=(H.below a2).below a9;have d5:=i.row;rw[J.out]at d5;have f4:=Qb1 ((w2.alloc (.cells #[I O z.price,I O 0,I O 0] 252)).drew) A n c k lv w2.heap.size (z.price,0,0) d5 (Z2 (J9 w2 _ _)) (fun e=>by have:=(H.below a2).row.lt e;omega) (by omega) f0;have h8:=Q0 f4;have y:=Q0 i;have j9:=Q0 a9;have j8:=Q0 (J4 g0 a9);have b8:lv.length=n:=J.out;have j3:=Q0 b8;clear i a9 d5 f4 b8 hS;go_wp2_with fail
   go_region_with (go_at_call 173;refine h8.mono ?_;rintro e w3 ⟨A3,c3,rfl,d3⟩;have b3:=X0 y.blk d3.2.1 (fun e=>y.na e);have r0:w3.cell? ⟨X,o,none⟩=some (.slice A n c):=(by rw[J0 b3,<-j3.out];exact y.c0);have i4:=J1 b3 o;have j6:=Q0 d3;clear d3 b3)
   all_goals go_wp2_with fail
   all_goals go_meet
   all_goals
    have C:=j6.out;have k2:=X0 j8 C.2.1 j2;rw[<-J.out]at C;obtain⟨e1,e2⟩:=ZS.new_ H (a2.trans (j9.mono a2.size)) (by have:=J.out;omega) g6 f5 (Cf J H.ok.rank h0 g6 f5) C;rw[J.out]at e1;rw[b1.out]at e2;obtain⟨rfl,rfl⟩:=Prod.mk.inj e2;exact⟨_,_,_,_,e1,XP k2 (by show Bx≠X;omega) _⟩
 obtain⟨d7,A1,c1,e4,E,hB⟩:=hcut
 obtain⟨j,a0,-⟩:=E.parts
 obtain⟨g,i7,-⟩:=E.row.elem E6 (by omega) j
 subst i7
 obtain⟨n1,d9⟩:=exq e4.length
 have Z:wc.cell? ⟨X,o,none⟩=some (.slice (some ⟨g,0,none⟩) n1 c1):=by rw[J0 E.blk,<-d9];exact E.c0
 obtain⟨l0,l1,l2⟩:=WE E.row j
 rw[a0]at l1 l2
 dsimp only at l1 l2
 have x1:wc.cell? ⟨Bx,1,none⟩=some (I O z.side):=by rw[J0 hB];rfl
 have k3:(k:Int)< (n1:Int):=by omega
 have k4:(0:Int)<=(k:Int):=by omega
 have f1:=E.row.frozen (k*3+1)
 have f2:=E.row.frozen (k*3+2)
 have HM:=Q0 E
 have g7:=Q0 d9
 have a4:=Hm.out
 have i5:=i2.out
 have f3: -1000000<=m/\m<=1000000:=by rcases Hq.out with rfl|rfl<;>omega
 have b8:0<=b0+q*dB z/\0<=s0+q*dS z:=by
  have hp:=Hp.out;rw[b1.out]at hp;unfold dB dS;rcases Hq.out with rfl|rfl
  ·split<;>omega
  have hp:=hp rfl
  split at hp<;>(dsimp only at hp;split<;>omega)
 obtain⟨D,U⟩:=b8
 obtain⟨b',d0⟩:=exq (b0+q*dB z)
 obtain⟨s',c7⟩:=exq (s0+q*dS z)
 rw[d0]at D
 rw[c7]at U
 have Hz:=Q0 (And.intro D U)
 have a1:=Q0 (And.intro d0 c7)
 have g1:=Q0 a4
 have g9:=Q0 f3
 clear E hB l0 j a0 d9 D U d0 c7 a4 f3 i5 Hq Hp
 go_upto_if 69 with fail
 go_cut [70] (fun k8 wx=> ∃a8,a8.length=n1/\ZS w wx X t cs o A lv bu se z.price k d7 (some ⟨g,0,none⟩) c1 a8 b' s')
 case first=>
  rcases j7.out with N|N
  ·have t2:=Z0 N
   have i1:RowKit.wrap64 (b0+m)=b0+m:=by have:=g9.out;unfold RowKit.wrap64;omega
   have a6:=Q0 N;clear N l2 f2;go_wp2_with fail
   go_meet;refine⟨_, ?_,HM.put 1 (b0+m) (.inl ⟨rfl, ?_, ?_⟩)⟩
   ·rw[QN];exact g7
   ·have:=a1.1
    unfold dB at this;rw[Q5 a6.out,g1.out]at this;exact this.symm
   have:=a1.2;unfold dS at this;rw[Q5 a6.out]at this;omega
  have t2:=X3 (show¬z.side=1 by omega);have i1:RowKit.wrap64 (s0+m)=s0+m:=by have:=g9.out;unfold RowKit.wrap64;omega
  have a6:=Q0 (show¬z.side=1 by omega);clear N l1 f1;go_wp2_with fail
  go_meet;refine⟨_, ?_,HM.put 2 (s0+m) (.inr ⟨rfl, ?_, ?_⟩)⟩
  ·rw[QN];exact g7
  ·have:=a1.1
   unfold dB at this;rw[Q3 a6.out]at this;omega
  have:=a1.2;unfold dS at this;rw[Q3 a6,g1.out]at this;exact this.symm
 obtain⟨a8,b5,i⟩:=hcut
 obtain⟨j,a0,-⟩:=i.parts
 obtain⟨-,l1,l2⟩:=WE i.row j
 rw[a0]at l1 l2
 dsimp only at l1 l2
 have y:=Q0 i
 have h5:=Q0 b5
 have b2: ∀lv',(∀p',C2 lv' p'=if p'=z.price then(b',s')else C2 lv p')-> ∀p',C2 lv' p'=if p'=z.price then((C2 lv p').1+q*dB z,(C2 lv p').2+q*dS z)else C2 lv p':=fun lv' h p'=>by
  rw[h p']
  by_cases e:p'=z.price
  ·rw[Q5 e,Q5 e,e,b1.out,a1.1,a1.2]
  rw[Q3 e,Q3 e]
 have c4:=Q0 b2
 by_cases D:b'=0
 ·by_cases U:s'=0
  ·subst D
   subst U;have c6:=i.row;rw[b5]at c6;have h6:((0:Int) ==0)=true:=rfl;have c2:=Qb3 wc g n1 c1 k (k+1) ((k:Int)+1) (by omega) a8 c6 (by have:=i.len;have:=J.out;omega) (by omega) (by omega);obtain⟨m2,d4⟩:=exq (k+ (n1- (k+1)));rw[d4]at c2;have Z:wc.cell? ⟨X,o,none⟩=some (.slice (some ⟨g,0,none⟩) n1 c1):=by rw[J0 i.blk,<-b5];exact i.c0
   have i3:RowKit.wrap64 ((k:Int)+1)=(k:Int)+1:=Ja1 (by have:=J.out;omega) f0;have i0:=Q0 c2;have j4:=Q0 (Jh4 b5 j d4);clear c2 d4 c6 i j a0 b2;go_wp2_with fail
   refine i0.mono ?_;rintro e w4 ⟨rfl,e7,e5⟩
   (have b4:=X0 y.blk e5 (fun e=>y.na (by rw[e];rfl));have r0:w4.cell? ⟨X,o,none⟩=some (.slice (some ⟨g,0,none⟩) n1 c1):=(by rw[J0 b4,<-h5.out];exact y.c0);have i4:=J1 b4 o;have k1:=Q0 e7;have j1:=Q0 e5;clear e7 e5 b4)
   all_goals go_wp2_with fail
   all_goals
    refine BP (KW rfl _ _ _) rfl ?_;obtain⟨lv',h1,h2,C⟩:=y.del H.ok (Q2 _ _) j4 k1 j1;exact⟨⟨_,rfl⟩,lv',h1,h2,c4 lv' C⟩
  have h6:((0:Int) ==0)=true:=rfl;have d2:=X3 U;have i9:=Q0 U;subst D;clear U i j a0 b2;go_wp2_with fail
  refine BP (KW rfl _ _ _) rfl ?_;obtain⟨lv',h1,h2,C⟩:=y.done H.ok HP Hz.1 Hz.2 (fun e=>i9 e.2);exact⟨⟨_,rfl⟩,lv',h1,h2,c4 lv' C⟩
 have d1:=X3 D
 have j5:=Q0 D
 clear D i j a0 b2
 go_wp2_with fail
 refine BP (KW rfl _ _ _) rfl ?_
 obtain⟨lv',h1,h2,C⟩:=y.done H.ok HP Hz.1 Hz.2 (fun e=>j5 e.1)
 exact⟨⟨_,rfl⟩,lv',h1,h2,c4 lv' C⟩
