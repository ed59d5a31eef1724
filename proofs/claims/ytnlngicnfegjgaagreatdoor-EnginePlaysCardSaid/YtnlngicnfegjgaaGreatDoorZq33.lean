/- Parts. -/
import Derived.Test.YtnlngicnfegjgaaGreatDoorZq30
set_option linter.unusedVariables false
set_option maxRecDepth 100000
set_option maxHeartbeats 8000000
open Go.Proofs.Tryz
open Go.Value renaming int→I,pointer→IP
open Go.IntKind renaming i64→O
namespace Go.Proofs.YtnlngicnfegjgaaGreatDoor
open Go.RowKit
theorem YH {w g n c t L tl x} (h:J2 w (some ⟨g,0,none⟩) n c t 5 (Q9 X9 L)) (e:L=x::tl):
  w.cell? ⟨g,0,none⟩=some (I O x.id)/\w.cell? ⟨g,1,none⟩=some (I O x.side)/\w.cell? ⟨g,2,none⟩=some (I O x.kind)/\w.cell? ⟨g,3,none⟩=some (I O x.price)/\w.cell? ⟨g,4,none⟩=some (I O x.qty):=by
 subst e
 have h1:=BZ h (i:=0) (by simp)
 simpa using h1
theorem U9 {W W' g a b c d e} (h:W.cell? ⟨g,0,none⟩=some a/\W.cell? ⟨g,1,none⟩=some b/\W.cell? ⟨g,2,none⟩=some c/\W.cell? ⟨g,3,none⟩=some d/\W.cell? ⟨g,4,none⟩=some e) (j:Below W.heap.size W W'):
  W'.cell? ⟨g,0,none⟩=some a/\W'.cell? ⟨g,1,none⟩=some b/\W'.cell? ⟨g,2,none⟩=some c/\W'.cell? ⟨g,3,none⟩=some d/\W'.cell? ⟨g,4,none⟩=some e:=by
 have key: ∀ {i v},W.cell? ⟨g,i,none⟩=some v->W'.cell? ⟨g,i,none⟩=some v:=fun {i v} hc=>(j.cell (p:=⟨g,i,none⟩) (V6 W _ hc)).trans hc
 exact⟨key h.1,key h.2.1,key h.2.2.1,key h.2.2.2.1,key h.2.2.2.2⟩
theorem XS {W W' g B a b c d e} (h:W.cell? ⟨g,0,none⟩=some a/\W.cell? ⟨g,1,none⟩=some b/\W.cell? ⟨g,2,none⟩=some c/\W.cell? ⟨g,3,none⟩=some d/\W.cell? ⟨g,4,none⟩=some e) (hk:Q6 (fun i=>i=B) W W') (j:g≠B):
  W'.cell? ⟨g,0,none⟩=some a/\W'.cell? ⟨g,1,none⟩=some b/\W'.cell? ⟨g,2,none⟩=some c/\W'.cell? ⟨g,3,none⟩=some d/\W'.cell? ⟨g,4,none⟩=some e:=by
 have key: ∀ {i v},W.cell? ⟨g,i,none⟩=some v->W'.cell? ⟨g,i,none⟩=some v:=fun {i v} hc=>(hk.cell (p:=⟨g,i,none⟩) (V6 W _ hc) j).trans hc
 exact⟨key h.1,key h.2.1,key h.2.2.1,key h.2.2.2.1,key h.2.2.2.2⟩
theorem XR.prices {w wr B t cs o0 A A' c' M M1 M2 Af c F} (h:XR w wr B t cs o0 A A' c' M M1 M2 Af c F) s: ∀o∈C4 s M,-1000000000<=o.price/\o.price<=1000000000:=by
 intro o i
 have h1:=(h.twin.ok o (P3.1 i).1).1.2.2.1
 omega
theorem XR.qtys {w wr B t cs o0 A A' c' M M1 M2 Af c F} (h:XR w wr B t cs o0 A A' c' M M1 M2 Af c F): ∀o∈M,-1000000000<=o.qty/\o.qty<=1000000000:=by
 intro o i
 have h1:=(h.twin.ok o i).1.2.2.2
 omega
def Jn2 (w wr wx:World) (B:Nat) (t:TypeId) (cs:Array Value) (o0:Nat) (A A':Option Addr) (c':Nat) (M M1 M2:List Q8) (Af:Option Addr) (c:Nat) (F:List B5) (x y:Q8) (s9 s10:Value):Prop:=
 ∃B1 B2:Nat,s9= IP (some ⟨B1,0,none⟩)/\s10= IP (some ⟨B2,0,none⟩)/\B1≠B2/\Q1 wx B1 29 (J8 x)/\Q1 wx B2 29 (J8 y)/\wr.heap.size<=B1/\wr.heap.size<=B2/\XR w wx B t cs o0 A A' c' M M1 M2 Af c F/\Below wr.heap.size wr wx
def Qk9 (w w':World) (B:Nat) (t:TypeId) (cs:Array Value) (o0:Nat) (A:Option Addr) (L1 L2:List Q8) (p q:Int) (e:Ending):Prop:=
 ∃(F:List B5) (Af:Option Addr) (c:Nat) (A':Option Addr) (c':Nat) (M:List Q8),e= .returned (.tuple #[.slice Af F.length c,I O 0])/\CT L1 L2 p q F/\BK q L1 L2 F/\XR w w' B t cs o0 A A' c' M (V9 L1 q) (V9 L2 q) Af c F
theorem Ql0 w B t cs o0 A L L1 L2 (h:JL w B t cs o0 A L) (ht:E5 L L1 L2) (hn:L.length<=100) p q (hq1:1<=q) (o7:q<=C7 1 p L1) (n9:q<=C7 2 p L2):
  Calls prog 109 #[IP (some ⟨B,o0,none⟩),I O p,I O q] w fun e w'=>Qk9 w w' B t cs o0 A L1 L2 p q e:=by
 have hl:=ht.lists hn
 have p3: ∀o∈L1,1<=o.qty:=fun o ho=>(hl.ok o (S9 _ ho)).2.2.2.1
 have u9: ∀o∈L2,1<=o.qty:=fun o ho=>(hl.ok o (QB _ ho)).2.2.2.1
 have ha1:q<=LJ L1:=GK o7 (Xs p3)
 have ha2:q<=LJ L2:=GK n9 (Xs u9)
 have htb:q<=100000000:=by
  have h1:=WQ (s:=1) (p:=p) (L:=L1) (fun o ho=>(hl.ok o (S9 _ ho)).2.2.2);have h2:=hl.cnt;rw[Y9]at h2;omega
 obtain⟨dd1,dd2,-⟩:=EL hl
 have hq: ∀o∈L,1<=o.qty/\o.qty<=1000000:=fun o ho=>(ht.ok o ho).1.2.2.2
 have f5:=Co w B t cs o0 A L h (by omega) 1 p Y4 hq
 rw[ht.want Y4,show X6 1 L1 L2=L1 from rfl]at f5
 have n7:=ht.want (s:=2) Y5 p
 rw[show X6 2 L1 L2=L2 from rfl]at n7
 obtain⟨a1,ha⟩:=exq (C7 1 p L1)
 obtain⟨a2,hb⟩:=exq (C7 2 p L2)
 rw[ha]at f5 o7
 rw[hb]at n9 n7
 have HC1:=Q0 f5
 have HQ2:=Q0 n7
 have HQ:=Q0 hq
 have t5:=Q0 h
 have HN:=Q0 hn
 have HT:=Q0 ht
 have x6:=Q0 p3
 have q7:=Q0 u9
 have Hd1:=Q0 dd1
 have Hd2:=Q0 dd2
 have hBl:=h.blt
 clear h ht hn hq f5 n7 ha hb hl p3 u9 dd1 dd2
 go_enter func109,ntmps109
 go_upto_region 1 with fail
 go_cut [21] (fun s21 wx=>s21= .bool false/\Hid (Below w.heap.size w wx))
 case first=>
  go_wp2_with fail
  refine HC1.mono ?_;rintro e w1 ⟨rfl,Z⟩;have m5:=Co w1 B t cs o0 A L (t5.below Z) (by have:=HN.out;omega) 2 p Y5 HQ;rw[HQ2.out]at m5;have HC2:=Q0 m5;have k5:=Q0 Z;clear m5 Z HC1;go_wp2_with fail
  refine HC2.mono ?_;rintro e w2 ⟨rfl,d6⟩;have e1:=Q0 (k5.trans (d6.mono k5.size));clear d6 HC2 k5;go_wp2_with fail
  all_goals refine(UH _ _ _ _).mono ?_
  all_goals rintro e w' ⟨rfl,rfl⟩
  all_goals first
   |rw[show(decide (1<=q) &&decide (q<=a1))=true by simp;omega]
   |rw[show(decide (1<=q) &&decide (q<=a2))=true by simp;omega]
  all_goals clear o7 n9
  all_goals go_wp2_with fail
  all_goals go_meet
  all_goals exact⟨rfl,e1⟩
 case rest=>
 obtain⟨rfl,e1⟩:=hcut
 clear o7 n9
 obtain⟨w2,ew2⟩:=exq wc
 rw[ew2]at e1|-
 clear ew2
 obtain⟨c0,hst⟩:=XR.start t5 HT HN
 have HST:=Q0 (show XR w w2 B t cs o0 A A c0 L (V9 L1 0) (V9 L2 0) none 0 [] by rw[RV _ (P8 _),RV _ (P8 _)];exact hst.below e1)
 clear hst e1 t5 HT HQ HQ2
 go_wp2_with fail
 go_loopg [2,8] q.toNat (fun g s2 s8 wr=> ∃a F Af c A' c' M,0<=a/\a<=q/\g=(q-a).toNat/\s2=I O (q-a)/\s8= .slice Af F.length c/\Hid (CT L1 L2 p a F)/\Hid (BK q L1 L2 F)/\Hid (XR w wr B t cs o0 A A' c' M (V9 L1 a) (V9 L2 a) Af c F))
 case atStart=>exact⟨0,[],none,0,A,c0,L,P8 _,by omega,by simp,by simp,rfl,Q0 (CT.start x6 q7),Q0 (BK.start q L1 L2),HST⟩
 obtain⟨a,F,Af,c,A',c',M,l0,hat,rfl,rfl,rfl,HF,HX,v⟩:=hrel
 clear HST
 by_cases hlt:a<q
 ·have d3:decide (0<q-a)=true:=Z5 (by omega)
  obtain⟨x,t1,hx⟩: ∃x t1,V9 L1 a=x::t1:=by
   cases hd:V9 L1 a with
   |nil=>exact absurd hd (WG l0 (by omega))
   |cons x t1=>exact⟨x,t1,rfl⟩
  obtain⟨y,u1,hy⟩: ∃y u1,V9 L2 a=y::u1:=by
   cases hd:V9 L2 a with
   |nil=>exact absurd hd (WG l0 (by omega))
   |cons y u1=>exact⟨y,u1,rfl⟩
  have o1:=Q0 hx;have o2:=Q0 hy;obtain⟨M1,s5⟩:=exq (V9 L1 a);obtain⟨M2,v4⟩:=exq (V9 L2 a);rw[s5]at hx v;rw[v4]at hy v;have HM1:=Q0 s5;have HM2:=Q0 v4;have Hx:=Q0 hx;have Hy:=Q0 hy;obtain⟨m1,p0⟩:=exq M1.length;obtain⟨m2,s7⟩:=exq M2.length;have hm1p:0<m1:=by rw[<-p0,hx,XX];omega
  have hm2p:0<m2:=by rw[<-s7,hy,XX];omega
  have hm1z:(0:Int)< (m1:Int):=by omega
  have hm2z:(0:Int)< (m2:Int):=by omega
  have l1:=Q0 p0;have b5:=Q0 s7;have c9:=Q0 hm1p;have C:=Q0 hm2p;clear hx hy s5 v4 p0 s7 hm1p hm2p;have HAf:=Q0 (fun g (hg:Q7 Af=some g)=>v.row.lt hg);have HWr:=Q0 v.keep.size;go_upto_region 5 with fail
  go_cut [9,10] (fun s9 s10 wx=>Jn2 w wr wx B t cs o0 A A' c' M M1 M2 Af c F x y s9 s10)
  case first=>
   have c6:Below wr.heap.size wr wr.drew:=J3 (Q2 _ _);refine XF (fun t=> [11].contains t) (fun _=>True) (by kernel_rfl) trivial (fun _=> ?_);obtain⟨w0,ew0⟩:=exq wr.drew;rw[ew0]at c6|-;clear ew0;refine tM 0 (IP (some ⟨B,o0,none⟩)) ?_;refine tM 4 (IP (some ⟨B,o0,none⟩)) ?_;refine Rg (i:=1) (j:=8) (m:=9) (by kernel_rfl) ?_ ?_ ?_
   ·refine L9 1 rfl (fun K1 hK1=> ?_)
    go_simp
    go_at_call 33
    have e9:=v.below c6;obtain⟨cc1,hcc1,-⟩:=e9.ref.cell;refine(UF _ B o0 A' _ cc1 M 1 hcc1 e9.ref.els (by have:=e9.few;omega) (e9.prices 1)).mono ?_;rintro e w1 ⟨hbb1,A1,c1,rfl,v5,hnew1⟩;rw[<-e9.twin.s1,l1.out]at v5|-;obtain⟨u,eg1⟩:=QC v5 c9;subst eg1;have f5:=YH v5 Hx;clear hcc1 e9;refine hK1 _ _ (fun _=>trivial) ?_;clear hK1;have Z:=c6.trans (hbb1.mono c6.size);refine UD (S':=fun W=>W.cell? ⟨u,0,none⟩=some (I O x.id)/\W.cell? ⟨u,1,none⟩=some (I O x.side)/\W.cell? ⟨u,2,none⟩=some (I O x.kind)/\W.cell? ⟨u,3,none⟩=some (I O x.price)/\W.cell? ⟨u,4,none⟩=some (I O x.qty)) (fun _ _=>trivial) _ ?_;have d9:=f5;refine tM 2 (IP (some ⟨u,0,none⟩)) ?_ (hy:=by intro W U;go_simp;intro e0;exact absurd e0 (by have:=c9.out;omega));refine tM 3 (.agg #[I O x.id,I O x.side,I O x.kind,I O x.price,I O x.qty]) ?_;refine Rg (i:=5) (j:=8) (m:=9) (by kernel_rfl) ?_ ?_ ?_
    ·refine L9 5 rfl (fun K2 hK2=> ?_)
     go_simp
     go_at_call 33
     have h0:=v.below Z;obtain⟨cc2,hcc2,-⟩:=h0.ref.cell;refine(UF _ B o0 A' _ cc2 M 2 hcc2 h0.ref.els (by have:=h0.few;omega) (h0.prices 2)).mono ?_;rintro e w2 ⟨x8,A2,c2,rfl,s3,hnew2⟩;rw[<-h0.twin.s2,b5.out]at s3|-;obtain⟨g2,eg2⟩:=QC s3 C;subst eg2;have m5:=YH s3 Hy;clear hcc2 h0;refine hK2 _ _ (fun _=>U9 d9 x8) ?_;clear hK2;have d6:=Z.trans (x8.mono Z.size);have a9:=And.intro (U9 d9 x8) m5;refine UD (S':=fun W=>(W.cell? ⟨u,0,none⟩=some (I O x.id)/\W.cell? ⟨u,1,none⟩=some (I O x.side)/\W.cell? ⟨u,2,none⟩=some (I O x.kind)/\W.cell? ⟨u,3,none⟩=some (I O x.price)/\W.cell? ⟨u,4,none⟩=some (I O x.qty))/\(W.cell? ⟨g2,0,none⟩=some (I O y.id)/\W.cell? ⟨g2,1,none⟩=some (I O y.side)/\W.cell? ⟨g2,2,none⟩=some (I O y.kind)/\W.cell? ⟨g2,3,none⟩=some (I O y.price)/\W.cell? ⟨g2,4,none⟩=some (I O y.qty))) (fun _ h=>h.1) _ ?_;refine tM 6 (IP (some ⟨g2,0,none⟩)) ?_ (hy:=by intro W U;go_simp;intro e0;exact absurd e0 (by have:=C.out;omega));refine tM 7 (.agg #[I O y.id,I O y.side,I O y.kind,I O y.price,I O y.qty]) ?_;refine UK (i:=8) (j:=9) (by kernel_rfl) ?_ ?_
     ·refine L9 8 rfl (fun K3 hK3=> ?_)
      go_simp;have h9:Below w2.heap.size w2 (w2.alloc (.cells #[I O 0,I O 0,I O 0,I O 0,I O 0] 29)):=(Q2 _ _).alloc (Q4 _) _;have x2:=J9 w2 29 #[I O 0,I O 0,I O 0,I O 0,I O 0];obtain⟨w3,ew3⟩:=exq (w2.alloc (.cells #[I O 0,I O 0,I O 0,I O 0,I O 0] 29));rw[ew3]at h9 x2|-;clear ew3;refine hK3 _ _ (fun _=>And.intro (U9 a9.1 h9) (U9 a9.2 h9)) ?_;clear hK3;have v7:=d6.trans (h9.mono d6.size);have hg3:wr.heap.size<=w2.heap.size:=d6.size;have hq3_1:u≠w2.heap.size:=fun e=>by have h:=V6 _ _ a9.1.1;dsimp only at h;omega
      have i5:=And.intro (U9 a9.1 h9) (U9 a9.2 h9);have hq3_2:g2≠w2.heap.size:=fun e=>by have h:=V6 _ _ a9.2.1;dsimp only at h;omega
      refine oM 9 fun K4 hK4=> ?_
      go_simp;have e6:Below w3.heap.size w3 (w3.alloc (.cells #[I O 0,I O 0,I O 0,I O 0,I O 0] 29)):=(Q2 _ _).alloc (Q4 _) _;have hx4:=J9 w3 29 #[I O 0,I O 0,I O 0,I O 0,I O 0];obtain⟨w4,ew4⟩:=exq (w3.alloc (.cells #[I O 0,I O 0,I O 0,I O 0,I O 0] 29));rw[ew4]at e6 hx4|-;clear ew4;refine hK4 _ _ (fun _=>And.intro (U9 i5.1 e6) (U9 i5.2 e6)) ?_;clear hK4;have hb4:=v7.trans (e6.mono v7.size);have hg4:wr.heap.size<=w3.heap.size:=v7.size;have hq4_1:u≠w3.heap.size:=fun e=>by have h:=V6 _ _ i5.1.1;dsimp only at h;omega
      have hq4_2:g2≠w3.heap.size:=fun e=>by have h:=V6 _ _ i5.2.1;dsimp only at h;omega
      have h8_4:=J4 x2 e6;have hS4:=And.intro (U9 i5.1 e6) (U9 i5.2 e6);have y1:w2.heap.size≠w3.heap.size:=fun e=>by have:=J5 x2;omega
      refine oM 10 fun K5 hK5=> ?_
      refine(Q5 (by rfl)).mpr ?_;refine M9 29 _ _ rfl (w2.heap.size) #[I O x.id,I O x.side,I O x.kind,I O x.price,I O x.qty] rfl rfl 29 #[I O 0,I O 0,I O 0,I O 0,I O 0] h8_4 (by show(prog.info? 29).map (·.size)=some 5;kernel_rfl) rfl (by simp[Value.oneCell']) ?_;have hx5:=D6 _ _ _ #[I O x.id,I O x.side,I O x.kind,I O x.price,I O x.qty] _ h8_4;have k7:=B7 w4 (w2.heap.size) #[I O x.id,I O x.side,I O x.kind,I O x.price,I O x.qty];obtain⟨w5,j8⟩:=exq (w4.setRow (w2.heap.size) #[I O x.id,I O x.side,I O x.kind,I O x.price,I O x.qty]);rw[j8]at hx5 k7|-;clear j8;refine hK5 _ _ (fun _=>And.intro (XS hS4.1 k7 hq3_1) (XS hS4.2 k7 hq3_2)) ?_;clear hK5;have j6:=hb4.trans (k7.below (fun i e=>e▸hg3) hb4.size);simp only[Act.put];have h9_5:=X0 hx4 k7 (XV y1);refine oM 11 fun K6 hK6=> ?_
      refine(Q5 (by rfl)).mpr ?_;refine M9 29 _ _ rfl (w3.heap.size) #[I O y.id,I O y.side,I O y.kind,I O y.price,I O y.qty] rfl rfl 29 #[I O 0,I O 0,I O 0,I O 0,I O 0] h9_5 (by show(prog.info? 29).map (·.size)=some 5;kernel_rfl) rfl (by simp[Value.oneCell']) ?_;have hx6:=D6 _ _ _ #[I O y.id,I O y.side,I O y.kind,I O y.price,I O y.qty] _ h9_5;have c5:=B7 w5 (w3.heap.size) #[I O y.id,I O y.side,I O y.kind,I O y.price,I O y.qty];obtain⟨w6,ew6⟩:=exq (w5.setRow (w3.heap.size) #[I O y.id,I O y.side,I O y.kind,I O y.price,I O y.qty]);rw[ew6]at hx6 c5|-;clear ew6;refine hK6 _ _ (fun e=>absurd e (by decide)) ?_;clear hK6;have hb6:=j6.trans (c5.below (fun i e=>e▸hg4) j6.size);simp only[Act.put];have h8_6:=X0 hx5 c5 y1;refine D5 (by kernel_rfl) ?_ _;go_wp2_with fail
      go_meet;exact⟨_,_,rfl,rfl,y1,h8_6,hx6,hg3,hg4,v.below hb6,hb6⟩
     refine L9 9 rfl (fun K7 hK7=> ?_);go_simp;have f0:Below w2.heap.size w2 (w2.alloc (.cells #[I O 0,I O 0,I O 0,I O 0,I O 0] 29)):=(Q2 _ _).alloc (Q4 _) _;have r6:=J9 w2 29 #[I O 0,I O 0,I O 0,I O 0,I O 0];obtain⟨w7,ew7⟩:=exq (w2.alloc (.cells #[I O 0,I O 0,I O 0,I O 0,I O 0] 29));rw[ew7]at f0 r6|-;clear ew7;refine hK7 _ _ (fun _=>And.intro (U9 a9.1 f0) (U9 a9.2 f0)) ?_;clear hK7;have q8:=d6.trans (f0.mono d6.size);have hg7:wr.heap.size<=w2.heap.size:=d6.size;have hq7_1:u≠w2.heap.size:=fun e=>by have h:=V6 _ _ a9.1.1;dsimp only at h;omega
     have g6:=And.intro (U9 a9.1 f0) (U9 a9.2 f0);have hq7_2:g2≠w2.heap.size:=fun e=>by have h:=V6 _ _ a9.2.1;dsimp only at h;omega
     refine oM 8 fun K8 hK8=> ?_
     go_simp;have e4:Below w7.heap.size w7 (w7.alloc (.cells #[I O 0,I O 0,I O 0,I O 0,I O 0] 29)):=(Q2 _ _).alloc (Q4 _) _;have u3:=J9 w7 29 #[I O 0,I O 0,I O 0,I O 0,I O 0];obtain⟨w8,ew8⟩:=exq (w7.alloc (.cells #[I O 0,I O 0,I O 0,I O 0,I O 0] 29));rw[ew8]at e4 u3|-;clear ew8;refine hK8 _ _ (fun _=>And.intro (U9 g6.1 e4) (U9 g6.2 e4)) ?_;clear hK8;have hb8:=q8.trans (e4.mono q8.size);have hg8:wr.heap.size<=w7.heap.size:=q8.size;have hq8_1:u≠w7.heap.size:=fun e=>by have h:=V6 _ _ g6.1.1;dsimp only at h;omega
     have hq8_2:g2≠w7.heap.size:=fun e=>by have h:=V6 _ _ g6.2.1;dsimp only at h;omega
     have h9_8:=J4 r6 e4;have hS8:=And.intro (U9 g6.1 e4) (U9 g6.2 e4);have v6:w2.heap.size≠w7.heap.size:=fun e=>by have:=J5 r6;omega
     refine oM 10 fun K9 hK9=> ?_
     refine(Q5 (by rfl)).mpr ?_;refine M9 29 _ _ rfl (w7.heap.size) #[I O x.id,I O x.side,I O x.kind,I O x.price,I O x.qty] rfl rfl 29 #[I O 0,I O 0,I O 0,I O 0,I O 0] u3 (by show(prog.info? 29).map (·.size)=some 5;kernel_rfl) rfl (by simp[Value.oneCell']) ?_;have hx9:=D6 _ _ _ #[I O x.id,I O x.side,I O x.kind,I O x.price,I O x.qty] _ u3;have k6:=B7 w8 (w7.heap.size) #[I O x.id,I O x.side,I O x.kind,I O x.price,I O x.qty];obtain⟨w9,ew9⟩:=exq (w8.setRow (w7.heap.size) #[I O x.id,I O x.side,I O x.kind,I O x.price,I O x.qty]);rw[ew9]at hx9 k6|-;clear ew9;refine hK9 _ _ (fun _=>And.intro (XS hS8.1 k6 hq8_1) (XS hS8.2 k6 hq8_2)) ?_;clear hK9;have hb9:=hb8.trans (k6.below (fun i e=>e▸hg8) hb8.size);simp only[Act.put];have h9_9:=X0 h9_8 k6 v6;refine oM 11 fun K10 hK10=> ?_
     refine(Q5 (by rfl)).mpr ?_;refine M9 29 _ _ rfl (w2.heap.size) #[I O y.id,I O y.side,I O y.kind,I O y.price,I O y.qty] rfl rfl 29 #[I O 0,I O 0,I O 0,I O 0,I O 0] h9_9 (by show(prog.info? 29).map (·.size)=some 5;kernel_rfl) rfl (by simp[Value.oneCell']) ?_;have hx10:=D6 _ _ _ #[I O y.id,I O y.side,I O y.kind,I O y.price,I O y.qty] _ h9_9;have y9:=B7 w9 (w2.heap.size) #[I O y.id,I O y.side,I O y.kind,I O y.price,I O y.qty];obtain⟨w10,ew10⟩:=exq (w9.setRow (w2.heap.size) #[I O y.id,I O y.side,I O y.kind,I O y.price,I O y.qty]);rw[ew10]at hx10 y9|-;clear ew10;refine hK10 _ _ (fun e=>absurd e (by decide)) ?_;clear hK10;have hb10:=hb9.trans (y9.below (fun i e=>e▸hg7) hb9.size);simp only[Act.put];have h8_10:=X0 hx9 y9 (XV v6);refine D5 (by kernel_rfl) ?_ _;go_wp2_with fail
     go_meet;exact⟨_,_,rfl,rfl,(XV v6),h8_10,hx10,hg8,hg7,v.below hb10,hb10⟩
    ·refine L9 8 rfl (fun K11 hK11=> ?_)
     go_simp;have o4:Below w1.heap.size w1 (w1.alloc (.cells #[I O 0,I O 0,I O 0,I O 0,I O 0] 29)):=(Q2 _ _).alloc (Q4 _) _;have j5:=J9 w1 29 #[I O 0,I O 0,I O 0,I O 0,I O 0];obtain⟨a4,ew11⟩:=exq (w1.alloc (.cells #[I O 0,I O 0,I O 0,I O 0,I O 0] 29));rw[ew11]at o4 j5|-;clear ew11;refine hK11 _ _ (fun _=>U9 d9 o4) ?_;clear hK11;have h7:=Z.trans (o4.mono Z.size);have n2:wr.heap.size<=w1.heap.size:=Z.size;have j0:=U9 d9 o4;have hq11_1:u≠w1.heap.size:=fun e=>by have h:=V6 _ _ d9.1;dsimp only at h;omega
     refine UK (i:=5) (j:=9) (by kernel_rfl) ?_ ?_
     ·refine L9 5 rfl (fun K12 hK12=> ?_)
      go_simp
      go_at_call 33
      have i9:=v.below h7;obtain⟨cc12,hcc12,-⟩:=i9.ref.cell;refine(UF _ B o0 A' _ cc12 M 2 hcc12 i9.ref.els (by have:=i9.few;omega) (i9.prices 2)).mono ?_;rintro e a8 ⟨n0,A12,c12,rfl,y3,hnew12⟩;rw[<-i9.twin.s2,b5.out]at y3|-;obtain⟨d2,eg12⟩:=QC y3 C;subst eg12;have hc12:=YH y3 Hy;clear hcc12 i9;refine hK12 _ _ (fun _=>U9 j0 n0) ?_;clear hK12;have y7:=h7.trans (n0.mono h7.size);have h8_12:=J4 j5 n0;have hq12_8:d2≠w1.heap.size:=fun e=>by have:=hnew12 d2 rfl;have:=J5 j5;omega
      have f1:=And.intro (U9 j0 n0) hc12;refine UD (S':=fun W=>(W.cell? ⟨u,0,none⟩=some (I O x.id)/\W.cell? ⟨u,1,none⟩=some (I O x.side)/\W.cell? ⟨u,2,none⟩=some (I O x.kind)/\W.cell? ⟨u,3,none⟩=some (I O x.price)/\W.cell? ⟨u,4,none⟩=some (I O x.qty))/\(W.cell? ⟨d2,0,none⟩=some (I O y.id)/\W.cell? ⟨d2,1,none⟩=some (I O y.side)/\W.cell? ⟨d2,2,none⟩=some (I O y.kind)/\W.cell? ⟨d2,3,none⟩=some (I O y.price)/\W.cell? ⟨d2,4,none⟩=some (I O y.qty))) (fun _ h=>h.1) _ ?_;refine tM 6 (IP (some ⟨d2,0,none⟩)) ?_ (hy:=by intro W U;go_simp;intro e0;exact absurd e0 (by have:=C.out;omega));refine tM 7 (.agg #[I O y.id,I O y.side,I O y.kind,I O y.price,I O y.qty]) ?_;refine oM 9 fun K13 hK13=> ?_
      go_simp;have e7:Below a8.heap.size a8 (a8.alloc (.cells #[I O 0,I O 0,I O 0,I O 0,I O 0] 29)):=(Q2 _ _).alloc (Q4 _) _;have hx13:=J9 a8 29 #[I O 0,I O 0,I O 0,I O 0,I O 0];obtain⟨w13,ew13⟩:=exq (a8.alloc (.cells #[I O 0,I O 0,I O 0,I O 0,I O 0] 29));rw[ew13]at e7 hx13|-;clear ew13;refine hK13 _ _ (fun _=>And.intro (U9 f1.1 e7) (U9 f1.2 e7)) ?_;clear hK13;have hb13:=y7.trans (e7.mono y7.size);have hg13:wr.heap.size<=a8.heap.size:=y7.size;have hq13_1:u≠a8.heap.size:=fun e=>by have h:=V6 _ _ f1.1.1;dsimp only at h;omega
      have hq13_2:d2≠a8.heap.size:=fun e=>by have h:=V6 _ _ f1.2.1;dsimp only at h;omega
      have h8_13:=J4 h8_12 e7;have hS13:=And.intro (U9 f1.1 e7) (U9 f1.2 e7);have s4:w1.heap.size≠a8.heap.size:=fun e=>by have:=J5 h8_12;omega
      refine oM 10 fun K14 hK14=> ?_
      refine(Q5 (by rfl)).mpr ?_;refine M9 29 _ _ rfl (w1.heap.size) #[I O x.id,I O x.side,I O x.kind,I O x.price,I O x.qty] rfl rfl 29 #[I O 0,I O 0,I O 0,I O 0,I O 0] h8_13 (by show(prog.info? 29).map (·.size)=some 5;kernel_rfl) rfl (by simp[Value.oneCell']) ?_;have hx14:=D6 _ _ _ #[I O x.id,I O x.side,I O x.kind,I O x.price,I O x.qty] _ h8_13;have j9:=B7 w13 (w1.heap.size) #[I O x.id,I O x.side,I O x.kind,I O x.price,I O x.qty];obtain⟨w14,ew14⟩:=exq (w13.setRow (w1.heap.size) #[I O x.id,I O x.side,I O x.kind,I O x.price,I O x.qty]);rw[ew14]at hx14 j9|-;clear ew14;refine hK14 _ _ (fun _=>And.intro (XS hS13.1 j9 hq11_1) (XS hS13.2 j9 hq12_8)) ?_;clear hK14;have hb14:=hb13.trans (j9.below (fun i e=>e▸n2) hb13.size);simp only[Act.put];have h9_14:=X0 hx13 j9 (XV s4);refine oM 11 fun K15 hK15=> ?_
      refine(Q5 (by rfl)).mpr ?_;refine M9 29 _ _ rfl (a8.heap.size) #[I O y.id,I O y.side,I O y.kind,I O y.price,I O y.qty] rfl rfl 29 #[I O 0,I O 0,I O 0,I O 0,I O 0] h9_14 (by show(prog.info? 29).map (·.size)=some 5;kernel_rfl) rfl (by simp[Value.oneCell']) ?_;have hx15:=D6 _ _ _ #[I O y.id,I O y.side,I O y.kind,I O y.price,I O y.qty] _ h9_14;have r7:=B7 w14 (a8.heap.size) #[I O y.id,I O y.side,I O y.kind,I O y.price,I O y.qty];obtain⟨w15,ew15⟩:=exq (w14.setRow (a8.heap.size) #[I O y.id,I O y.side,I O y.kind,I O y.price,I O y.qty]);rw[ew15]at hx15 r7|-;clear ew15;refine hK15 _ _ (fun e=>absurd e (by decide)) ?_;clear hK15;have hb15:=hb14.trans (r7.below (fun i e=>e▸hg13) hb14.size);simp only[Act.put];have h8_15:=X0 hx14 r7 s4;refine D5 (by kernel_rfl) ?_ _;go_wp2_with fail
      go_meet;exact⟨_,_,rfl,rfl,s4,h8_15,hx15,n2,hg13,v.below hb15,hb15⟩
     refine L9 9 rfl (fun K16 hK16=> ?_);go_simp;have k4:Below a4.heap.size a4 (a4.alloc (.cells #[I O 0,I O 0,I O 0,I O 0,I O 0] 29)):=(Q2 _ _).alloc (Q4 _) _;have x1:=J9 a4 29 #[I O 0,I O 0,I O 0,I O 0,I O 0];obtain⟨w16,ew16⟩:=exq (a4.alloc (.cells #[I O 0,I O 0,I O 0,I O 0,I O 0] 29));rw[ew16]at k4 x1|-;clear ew16;refine hK16 _ _ (fun _=>U9 j0 k4) ?_;clear hK16;have q9:=h7.trans (k4.mono h7.size);have hg16:wr.heap.size<=a4.heap.size:=h7.size;have hq16_1:u≠a4.heap.size:=fun e=>by have h:=V6 _ _ j0.1;dsimp only at h;omega
     have h8_16:=J4 j5 k4;have hS16:=U9 j0 k4;have u2:w1.heap.size≠a4.heap.size:=fun e=>by have:=J5 j5;omega
     refine oM 5 fun K17 hK17=> ?_
     go_simp
     go_at_call 33
     have f7:=v.below q9;obtain⟨cc17,hcc17,-⟩:=f7.ref.cell;refine(UF _ B o0 A' _ cc17 M 2 hcc17 f7.ref.els (by have:=f7.few;omega) (f7.prices 2)).mono ?_;rintro e w17 ⟨k0,A17,c17,rfl,v2,hnew17⟩;rw[<-f7.twin.s2,b5.out]at v2|-;obtain⟨b8,eg17⟩:=QC v2 C;subst eg17;have hc17:=YH v2 Hy;clear hcc17 f7;refine hK17 _ _ (fun _=>U9 hS16 k0) ?_;clear hK17;have hb17:=q9.trans (k0.mono q9.size);have h8_17:=J4 h8_16 k0;have h9_17:=J4 x1 k0;have hq17_8:b8≠w1.heap.size:=fun e=>by have:=hnew17 b8 rfl;have:=J5 h8_16;omega
     have hq17_9:b8≠a4.heap.size:=fun e=>by have:=hnew17 b8 rfl;have:=J5 x1;omega
     have hS17:=And.intro (U9 hS16 k0) hc17;refine UD (S':=fun W=>(W.cell? ⟨u,0,none⟩=some (I O x.id)/\W.cell? ⟨u,1,none⟩=some (I O x.side)/\W.cell? ⟨u,2,none⟩=some (I O x.kind)/\W.cell? ⟨u,3,none⟩=some (I O x.price)/\W.cell? ⟨u,4,none⟩=some (I O x.qty))/\(W.cell? ⟨b8,0,none⟩=some (I O y.id)/\W.cell? ⟨b8,1,none⟩=some (I O y.side)/\W.cell? ⟨b8,2,none⟩=some (I O y.kind)/\W.cell? ⟨b8,3,none⟩=some (I O y.price)/\W.cell? ⟨b8,4,none⟩=some (I O y.qty))) (fun _ h=>h.1) _ ?_;refine tM 6 (IP (some ⟨b8,0,none⟩)) ?_ (hy:=by intro W U;go_simp;intro e0;exact absurd e0 (by have:=C.out;omega));refine tM 7 (.agg #[I O y.id,I O y.side,I O y.kind,I O y.price,I O y.qty]) ?_;refine oM 10 fun K18 hK18=> ?_
     refine(Q5 (by rfl)).mpr ?_;refine M9 29 _ _ rfl (w1.heap.size) #[I O x.id,I O x.side,I O x.kind,I O x.price,I O x.qty] rfl rfl 29 #[I O 0,I O 0,I O 0,I O 0,I O 0] h8_17 (by show(prog.info? 29).map (·.size)=some 5;kernel_rfl) rfl (by simp[Value.oneCell']) ?_;have hx18:=D6 _ _ _ #[I O x.id,I O x.side,I O x.kind,I O x.price,I O x.qty] _ h8_17;have m3:=B7 w17 (w1.heap.size) #[I O x.id,I O x.side,I O x.kind,I O x.price,I O x.qty];obtain⟨w18,ew18⟩:=exq (w17.setRow (w1.heap.size) #[I O x.id,I O x.side,I O x.kind,I O x.price,I O x.qty]);rw[ew18]at hx18 m3|-;clear ew18;refine hK18 _ _ (fun _=>And.intro (XS hS17.1 m3 hq11_1) (XS hS17.2 m3 hq17_8)) ?_;clear hK18;have hb18:=hb17.trans (m3.below (fun i e=>e▸n2) hb17.size);simp only[Act.put];have h9_18:=X0 h9_17 m3 (XV u2);refine oM 11 fun K19 hK19=> ?_
     refine(Q5 (by rfl)).mpr ?_;refine M9 29 _ _ rfl (a4.heap.size) #[I O y.id,I O y.side,I O y.kind,I O y.price,I O y.qty] rfl rfl 29 #[I O 0,I O 0,I O 0,I O 0,I O 0] h9_18 (by show(prog.info? 29).map (·.size)=some 5;kernel_rfl) rfl (by simp[Value.oneCell']) ?_;have hx19:=D6 _ _ _ #[I O y.id,I O y.side,I O y.kind,I O y.price,I O y.qty] _ h9_18;have u8:=B7 w18 (a4.heap.size) #[I O y.id,I O y.side,I O y.kind,I O y.price,I O y.qty];obtain⟨w19,ew19⟩:=exq (w18.setRow (a4.heap.size) #[I O y.id,I O y.side,I O y.kind,I O y.price,I O y.qty]);rw[ew19]at hx19 u8|-;clear ew19;refine hK19 _ _ (fun e=>absurd e (by decide)) ?_;clear hK19;have hb19:=hb18.trans (u8.below (fun i e=>e▸hg16) hb18.size);simp only[Act.put];have h8_19:=X0 hx18 u8 u2;refine D5 (by kernel_rfl) ?_ _;go_wp2_with fail
     go_meet;exact⟨_,_,rfl,rfl,u2,h8_19,hx19,n2,hg16,v.below hb19,hb19⟩
    refine L9 9 rfl (fun K20 z8=> ?_);go_simp;have n8:Below w1.heap.size w1 (w1.alloc (.cells #[I O 0,I O 0,I O 0,I O 0,I O 0] 29)):=(Q2 _ _).alloc (Q4 _) _;have l6:=J9 w1 29 #[I O 0,I O 0,I O 0,I O 0,I O 0];obtain⟨a0,ew20⟩:=exq (w1.alloc (.cells #[I O 0,I O 0,I O 0,I O 0,I O 0] 29));rw[ew20]at n8 l6|-;clear ew20;refine z8 _ _ (fun _=>U9 d9 n8) ?_;clear z8;have f4:=Z.trans (n8.mono Z.size);have n4:wr.heap.size<=w1.heap.size:=Z.size;have m8:=U9 d9 n8;have hq20_1:u≠w1.heap.size:=fun e=>by have h:=V6 _ _ d9.1;dsimp only at h;omega
    refine UK (i:=5) (j:=8) (by kernel_rfl) ?_ ?_
    ·refine L9 5 rfl (fun K21 hK21=> ?_)
     go_simp
     go_at_call 33
     have i4:=v.below f4;obtain⟨cc21,hcc21,-⟩:=i4.ref.cell;refine(UF _ B o0 A' _ cc21 M 2 hcc21 i4.ref.els (by have:=i4.few;omega) (i4.prices 2)).mono ?_;rintro e b0 ⟨o6,A21,c21,rfl,y6,hnew21⟩;rw[<-i4.twin.s2,b5.out]at y6|-;obtain⟨d7,eg21⟩:=QC y6 C;subst eg21;have hc21:=YH y6 Hy;clear hcc21 i4;refine hK21 _ _ (fun _=>U9 m8 o6) ?_;clear hK21;have v9:=f4.trans (o6.mono f4.size);have h9_21:=J4 l6 o6;have hq21_9:d7≠w1.heap.size:=fun e=>by have:=hnew21 d7 rfl;have:=J5 l6;omega
     have h6:=And.intro (U9 m8 o6) hc21;refine UD (S':=fun W=>(W.cell? ⟨u,0,none⟩=some (I O x.id)/\W.cell? ⟨u,1,none⟩=some (I O x.side)/\W.cell? ⟨u,2,none⟩=some (I O x.kind)/\W.cell? ⟨u,3,none⟩=some (I O x.price)/\W.cell? ⟨u,4,none⟩=some (I O x.qty))/\(W.cell? ⟨d7,0,none⟩=some (I O y.id)/\W.cell? ⟨d7,1,none⟩=some (I O y.side)/\W.cell? ⟨d7,2,none⟩=some (I O y.kind)/\W.cell? ⟨d7,3,none⟩=some (I O y.price)/\W.cell? ⟨d7,4,none⟩=some (I O y.qty))) (fun _ h=>h.1) _ ?_;refine tM 6 (IP (some ⟨d7,0,none⟩)) ?_ (hy:=by intro W U;go_simp;intro e0;exact absurd e0 (by have:=C.out;omega));refine tM 7 (.agg #[I O y.id,I O y.side,I O y.kind,I O y.price,I O y.qty]) ?_;refine oM 8 fun K22 hK22=> ?_
     go_simp;have e2:Below b0.heap.size b0 (b0.alloc (.cells #[I O 0,I O 0,I O 0,I O 0,I O 0] 29)):=(Q2 _ _).alloc (Q4 _) _;have r1:=J9 b0 29 #[I O 0,I O 0,I O 0,I O 0,I O 0];obtain⟨w22,ew22⟩:=exq (b0.alloc (.cells #[I O 0,I O 0,I O 0,I O 0,I O 0] 29));rw[ew22]at e2 r1|-;clear ew22;refine hK22 _ _ (fun _=>And.intro (U9 h6.1 e2) (U9 h6.2 e2)) ?_;clear hK22;have hb22:=v9.trans (e2.mono v9.size);have hg22:wr.heap.size<=b0.heap.size:=v9.size;have hq22_1:u≠b0.heap.size:=fun e=>by have h:=V6 _ _ h6.1.1;dsimp only at h;omega
     have hq22_2:d7≠b0.heap.size:=fun e=>by have h:=V6 _ _ h6.2.1;dsimp only at h;omega
     have h9_22:=J4 h9_21 e2;have hS22:=And.intro (U9 h6.1 e2) (U9 h6.2 e2);have z3:w1.heap.size≠b0.heap.size:=fun e=>by have:=J5 h9_21;omega
     refine oM 10 fun K23 hK23=> ?_
     refine(Q5 (by rfl)).mpr ?_;refine M9 29 _ _ rfl (b0.heap.size) #[I O x.id,I O x.side,I O x.kind,I O x.price,I O x.qty] rfl rfl 29 #[I O 0,I O 0,I O 0,I O 0,I O 0] r1 (by show(prog.info? 29).map (·.size)=some 5;kernel_rfl) rfl (by simp[Value.oneCell']) ?_;have hx23:=D6 _ _ _ #[I O x.id,I O x.side,I O x.kind,I O x.price,I O x.qty] _ r1;have l9:=B7 w22 (b0.heap.size) #[I O x.id,I O x.side,I O x.kind,I O x.price,I O x.qty];obtain⟨w23,ew23⟩:=exq (w22.setRow (b0.heap.size) #[I O x.id,I O x.side,I O x.kind,I O x.price,I O x.qty]);rw[ew23]at hx23 l9|-;clear ew23;refine hK23 _ _ (fun _=>And.intro (XS hS22.1 l9 hq22_1) (XS hS22.2 l9 hq22_2)) ?_;clear hK23;have hb23:=hb22.trans (l9.below (fun i e=>e▸hg22) hb22.size);simp only[Act.put];have h9_23:=X0 h9_22 l9 z3;refine oM 11 fun K24 hK24=> ?_
     refine(Q5 (by rfl)).mpr ?_;refine M9 29 _ _ rfl (w1.heap.size) #[I O y.id,I O y.side,I O y.kind,I O y.price,I O y.qty] rfl rfl 29 #[I O 0,I O 0,I O 0,I O 0,I O 0] h9_23 (by show(prog.info? 29).map (·.size)=some 5;kernel_rfl) rfl (by simp[Value.oneCell']) ?_;have hx24:=D6 _ _ _ #[I O y.id,I O y.side,I O y.kind,I O y.price,I O y.qty] _ h9_23;have u5:=B7 w23 (w1.heap.size) #[I O y.id,I O y.side,I O y.kind,I O y.price,I O y.qty];obtain⟨w24,ew24⟩:=exq (w23.setRow (w1.heap.size) #[I O y.id,I O y.side,I O y.kind,I O y.price,I O y.qty]);rw[ew24]at hx24 u5|-;clear ew24;refine hK24 _ _ (fun e=>absurd e (by decide)) ?_;clear hK24;have hb24:=hb23.trans (u5.below (fun i e=>e▸n4) hb23.size);simp only[Act.put];have h8_24:=X0 hx23 u5 (XV z3);refine D5 (by kernel_rfl) ?_ _;go_wp2_with fail
     go_meet;exact⟨_,_,rfl,rfl,(XV z3),h8_24,hx24,hg22,n4,v.below hb24,hb24⟩
    refine L9 8 rfl (fun K25 hK25=> ?_);go_simp;have l8:Below a0.heap.size a0 (a0.alloc (.cells #[I O 0,I O 0,I O 0,I O 0,I O 0] 29)):=(Q2 _ _).alloc (Q4 _) _;have t7:=J9 a0 29 #[I O 0,I O 0,I O 0,I O 0,I O 0];obtain⟨w25,ew25⟩:=exq (a0.alloc (.cells #[I O 0,I O 0,I O 0,I O 0,I O 0] 29));rw[ew25]at l8 t7|-;clear ew25;refine hK25 _ _ (fun _=>U9 m8 l8) ?_;clear hK25;have q4:=f4.trans (l8.mono f4.size);have hg25:wr.heap.size<=a0.heap.size:=f4.size;have hq25_1:u≠a0.heap.size:=fun e=>by have h:=V6 _ _ m8.1;dsimp only at h;omega
    have h9_25:=J4 l6 l8;have hS25:=U9 m8 l8;have t0:w1.heap.size≠a0.heap.size:=fun e=>by have:=J5 l6;omega
    refine oM 5 fun K26 hK26=> ?_
    go_simp
    go_at_call 33
    have g8:=v.below q4;obtain⟨cc26,hcc26,-⟩:=g8.ref.cell;refine(UF _ B o0 A' _ cc26 M 2 hcc26 g8.ref.els (by have:=g8.few;omega) (g8.prices 2)).mono ?_;rintro e w26 ⟨l3,A26,c26,rfl,r4,hnew26⟩;rw[<-g8.twin.s2,b5.out]at r4|-;obtain⟨b9,eg26⟩:=QC r4 C;subst eg26;have hc26:=YH r4 Hy;clear hcc26 g8;refine hK26 _ _ (fun _=>U9 hS25 l3) ?_;clear hK26;have hb26:=q4.trans (l3.mono q4.size);have h8_26:=J4 t7 l3;have h9_26:=J4 h9_25 l3;have hq26_8:b9≠a0.heap.size:=fun e=>by have:=hnew26 b9 rfl;have:=J5 t7;omega
    have hq26_9:b9≠w1.heap.size:=fun e=>by have:=hnew26 b9 rfl;have:=J5 h9_25;omega
    have hS26:=And.intro (U9 hS25 l3) hc26;refine UD (S':=fun W=>(W.cell? ⟨u,0,none⟩=some (I O x.id)/\W.cell? ⟨u,1,none⟩=some (I O x.side)/\W.cell? ⟨u,2,none⟩=some (I O x.kind)/\W.cell? ⟨u,3,none⟩=some (I O x.price)/\W.cell? ⟨u,4,none⟩=some (I O x.qty))/\(W.cell? ⟨b9,0,none⟩=some (I O y.id)/\W.cell? ⟨b9,1,none⟩=some (I O y.side)/\W.cell? ⟨b9,2,none⟩=some (I O y.kind)/\W.cell? ⟨b9,3,none⟩=some (I O y.price)/\W.cell? ⟨b9,4,none⟩=some (I O y.qty))) (fun _ h=>h.1) _ ?_;refine tM 6 (IP (some ⟨b9,0,none⟩)) ?_ (hy:=by intro W U;go_simp;intro e0;exact absurd e0 (by have:=C.out;omega));refine tM 7 (.agg #[I O y.id,I O y.side,I O y.kind,I O y.price,I O y.qty]) ?_;refine oM 10 fun K27 hK27=> ?_
    refine(Q5 (by rfl)).mpr ?_;refine M9 29 _ _ rfl (a0.heap.size) #[I O x.id,I O x.side,I O x.kind,I O x.price,I O x.qty] rfl rfl 29 #[I O 0,I O 0,I O 0,I O 0,I O 0] h8_26 (by show(prog.info? 29).map (·.size)=some 5;kernel_rfl) rfl (by simp[Value.oneCell']) ?_;have hx27:=D6 _ _ _ #[I O x.id,I O x.side,I O x.kind,I O x.price,I O x.qty] _ h8_26;have m7:=B7 w26 (a0.heap.size) #[I O x.id,I O x.side,I O x.kind,I O x.price,I O x.qty];obtain⟨w27,ew27⟩:=exq (w26.setRow (a0.heap.size) #[I O x.id,I O x.side,I O x.kind,I O x.price,I O x.qty]);rw[ew27]at hx27 m7|-;clear ew27;refine hK27 _ _ (fun _=>And.intro (XS hS26.1 m7 hq25_1) (XS hS26.2 m7 hq26_8)) ?_;clear hK27;have hb27:=hb26.trans (m7.below (fun i e=>e▸hg25) hb26.size);simp only[Act.put];have h9_27:=X0 h9_26 m7 t0;refine oM 11 fun K28 hK28=> ?_
    refine(Q5 (by rfl)).mpr ?_;refine M9 29 _ _ rfl (w1.heap.size) #[I O y.id,I O y.side,I O y.kind,I O y.price,I O y.qty] rfl rfl 29 #[I O 0,I O 0,I O 0,I O 0,I O 0] h9_27 (by show(prog.info? 29).map (·.size)=some 5;kernel_rfl) rfl (by simp[Value.oneCell']) ?_;have hx28:=D6 _ _ _ #[I O y.id,I O y.side,I O y.kind,I O y.price,I O y.qty] _ h9_27;have r0:=B7 w27 (w1.heap.size) #[I O y.id,I O y.side,I O y.kind,I O y.price,I O y.qty];obtain⟨w28,ew28⟩:=exq (w27.setRow (w1.heap.size) #[I O y.id,I O y.side,I O y.kind,I O y.price,I O y.qty]);rw[ew28]at hx28 r0|-;clear ew28;refine hK28 _ _ (fun e=>absurd e (by decide)) ?_;clear hK28;have hb28:=hb27.trans (r0.below (fun i e=>e▸n4) hb27.size);simp only[Act.put];have h8_28:=X0 hx27 r0 (XV t0);refine D5 (by kernel_rfl) ?_ _;go_wp2_with fail
    go_meet;exact⟨_,_,rfl,rfl,(XV t0),h8_28,hx28,hg25,n4,v.below hb28,hb28⟩
   ·refine L9 8 rfl (fun K29 hK29=> ?_)
    go_simp;have ha29:Below w0.heap.size w0 (w0.alloc (.cells #[I O 0,I O 0,I O 0,I O 0,I O 0] 29)):=(Q2 _ _).alloc (Q4 _) _;have k1:=J9 w0 29 #[I O 0,I O 0,I O 0,I O 0,I O 0];obtain⟨a3,ew29⟩:=exq (w0.alloc (.cells #[I O 0,I O 0,I O 0,I O 0,I O 0] 29));rw[ew29]at ha29 k1|-;clear ew29;refine hK29 _ _ (fun _=>trivial) ?_;clear hK29;have i8:=c6.trans (ha29.mono c6.size);have g0:wr.heap.size<=w0.heap.size:=c6.size;refine UK (i:=1) (j:=9) (by kernel_rfl) ?_ ?_
    ·refine L9 1 rfl (fun K30 hK30=> ?_)
     go_simp
     go_at_call 33
     have g4:=v.below i8;obtain⟨cc30,hcc30,-⟩:=g4.ref.cell;refine(UF _ B o0 A' _ cc30 M 1 hcc30 g4.ref.els (by have:=g4.few;omega) (g4.prices 1)).mono ?_;rintro e a7 ⟨hbb30,A30,c30,rfl,y5,hnew30⟩;rw[<-g4.twin.s1,l1.out]at y5|-;obtain⟨D,eg30⟩:=QC y5 c9;subst eg30;have hc30:=YH y5 Hx;clear hcc30 g4;refine hK30 _ _ (fun _=>trivial) ?_;clear hK30;have f6:=i8.trans (hbb30.mono i8.size);have n5:=J4 k1 hbb30;have hq30_8:D≠w0.heap.size:=fun e=>by have:=hnew30 D rfl;have:=J5 k1;omega
     refine UD (S':=fun W=>W.cell? ⟨D,0,none⟩=some (I O x.id)/\W.cell? ⟨D,1,none⟩=some (I O x.side)/\W.cell? ⟨D,2,none⟩=some (I O x.kind)/\W.cell? ⟨D,3,none⟩=some (I O x.price)/\W.cell? ⟨D,4,none⟩=some (I O x.qty)) (fun _ _=>trivial) _ ?_;have l4:=hc30;refine tM 2 (IP (some ⟨D,0,none⟩)) ?_ (hy:=by intro W U;go_simp;intro e0;exact absurd e0 (by have:=c9.out;omega));refine tM 3 (.agg #[I O x.id,I O x.side,I O x.kind,I O x.price,I O x.qty]) ?_;refine UK (i:=5) (j:=9) (by kernel_rfl) ?_ ?_
     ·refine L9 5 rfl (fun K31 hK31=> ?_)
      go_simp
      go_at_call 33
      have i3:=v.below f6;obtain⟨cc31,hcc31,-⟩:=i3.ref.cell;refine(UF _ B o0 A' _ cc31 M 2 hcc31 i3.ref.els (by have:=i3.few;omega) (i3.prices 2)).mono ?_;rintro e a6 ⟨n1,A31,c31,rfl,v3,hnew31⟩;rw[<-i3.twin.s2,b5.out]at v3|-;obtain⟨d1,eg31⟩:=QC v3 C;subst eg31;have hc31:=YH v3 Hy;clear hcc31 i3;refine hK31 _ _ (fun _=>U9 l4 n1) ?_;clear hK31;have q2:=f6.trans (n1.mono f6.size);have z7:=J4 n5 n1;have hq31_8:d1≠w0.heap.size:=fun e=>by have:=hnew31 d1 rfl;have:=J5 n5;omega
      have f2:=And.intro (U9 l4 n1) hc31;refine UD (S':=fun W=>(W.cell? ⟨D,0,none⟩=some (I O x.id)/\W.cell? ⟨D,1,none⟩=some (I O x.side)/\W.cell? ⟨D,2,none⟩=some (I O x.kind)/\W.cell? ⟨D,3,none⟩=some (I O x.price)/\W.cell? ⟨D,4,none⟩=some (I O x.qty))/\(W.cell? ⟨d1,0,none⟩=some (I O y.id)/\W.cell? ⟨d1,1,none⟩=some (I O y.side)/\W.cell? ⟨d1,2,none⟩=some (I O y.kind)/\W.cell? ⟨d1,3,none⟩=some (I O y.price)/\W.cell? ⟨d1,4,none⟩=some (I O y.qty))) (fun _ h=>h.1) _ ?_;refine tM 6 (IP (some ⟨d1,0,none⟩)) ?_ (hy:=by intro W U;go_simp;intro e0;exact absurd e0 (by have:=C.out;omega));refine tM 7 (.agg #[I O y.id,I O y.side,I O y.kind,I O y.price,I O y.qty]) ?_;refine oM 9 fun K32 hK32=> ?_
      go_simp;have e5:Below a6.heap.size a6 (a6.alloc (.cells #[I O 0,I O 0,I O 0,I O 0,I O 0] 29)):=(Q2 _ _).alloc (Q4 _) _;have hx32:=J9 a6 29 #[I O 0,I O 0,I O 0,I O 0,I O 0];obtain⟨w32,ew32⟩:=exq (a6.alloc (.cells #[I O 0,I O 0,I O 0,I O 0,I O 0] 29));rw[ew32]at e5 hx32|-;clear ew32;refine hK32 _ _ (fun _=>And.intro (U9 f2.1 e5) (U9 f2.2 e5)) ?_;clear hK32;have hb32:=q2.trans (e5.mono q2.size);have hg32:wr.heap.size<=a6.heap.size:=q2.size;have hq32_1:D≠a6.heap.size:=fun e=>by have h:=V6 _ _ f2.1.1;dsimp only at h;omega
      have hq32_2:d1≠a6.heap.size:=fun e=>by have h:=V6 _ _ f2.2.1;dsimp only at h;omega
      have h8_32:=J4 z7 e5;have hS32:=And.intro (U9 f2.1 e5) (U9 f2.2 e5);have z5:w0.heap.size≠a6.heap.size:=fun e=>by have:=J5 z7;omega
      refine oM 10 fun K33 hK33=> ?_
      refine(Q5 (by rfl)).mpr ?_;refine M9 29 _ _ rfl (w0.heap.size) #[I O x.id,I O x.side,I O x.kind,I O x.price,I O x.qty] rfl rfl 29 #[I O 0,I O 0,I O 0,I O 0,I O 0] h8_32 (by show(prog.info? 29).map (·.size)=some 5;kernel_rfl) rfl (by simp[Value.oneCell']) ?_;have hx33:=D6 _ _ _ #[I O x.id,I O x.side,I O x.kind,I O x.price,I O x.qty] _ h8_32;have l7:=B7 w32 (w0.heap.size) #[I O x.id,I O x.side,I O x.kind,I O x.price,I O x.qty];obtain⟨w33,ew33⟩:=exq (w32.setRow (w0.heap.size) #[I O x.id,I O x.side,I O x.kind,I O x.price,I O x.qty]);rw[ew33]at hx33 l7|-;clear ew33;refine hK33 _ _ (fun _=>And.intro (XS hS32.1 l7 hq30_8) (XS hS32.2 l7 hq31_8)) ?_;clear hK33;have hb33:=hb32.trans (l7.below (fun i e=>e▸g0) hb32.size);simp only[Act.put];have h9_33:=X0 hx32 l7 (XV z5);refine oM 11 fun K34 hK34=> ?_
      refine(Q5 (by rfl)).mpr ?_;refine M9 29 _ _ rfl (a6.heap.size) #[I O y.id,I O y.side,I O y.kind,I O y.price,I O y.qty] rfl rfl 29 #[I O 0,I O 0,I O 0,I O 0,I O 0] h9_33 (by show(prog.info? 29).map (·.size)=some 5;kernel_rfl) rfl (by simp[Value.oneCell']) ?_;have hx34:=D6 _ _ _ #[I O y.id,I O y.side,I O y.kind,I O y.price,I O y.qty] _ h9_33;have t2:=B7 w33 (a6.heap.size) #[I O y.id,I O y.side,I O y.kind,I O y.price,I O y.qty];obtain⟨w34,ew34⟩:=exq (w33.setRow (a6.heap.size) #[I O y.id,I O y.side,I O y.kind,I O y.price,I O y.qty]);rw[ew34]at hx34 t2|-;clear ew34;refine hK34 _ _ (fun e=>absurd e (by decide)) ?_;clear hK34;have hb34:=hb33.trans (t2.below (fun i e=>e▸hg32) hb33.size);simp only[Act.put];have h8_34:=X0 hx33 t2 z5;refine D5 (by kernel_rfl) ?_ _;go_wp2_with fail
      go_meet;exact⟨_,_,rfl,rfl,z5,h8_34,hx34,g0,hg32,v.below hb34,hb34⟩
     refine L9 9 rfl (fun K35 hK35=> ?_);go_simp;have j1:Below a7.heap.size a7 (a7.alloc (.cells #[I O 0,I O 0,I O 0,I O 0,I O 0] 29)):=(Q2 _ _).alloc (Q4 _) _;have r9:=J9 a7 29 #[I O 0,I O 0,I O 0,I O 0,I O 0];obtain⟨w35,ew35⟩:=exq (a7.alloc (.cells #[I O 0,I O 0,I O 0,I O 0,I O 0] 29));rw[ew35]at j1 r9|-;clear ew35;refine hK35 _ _ (fun _=>U9 l4 j1) ?_;clear hK35;have x3:=f6.trans (j1.mono f6.size);have hg35:wr.heap.size<=a7.heap.size:=f6.size;have hq35_1:D≠a7.heap.size:=fun e=>by have h:=V6 _ _ l4.1;dsimp only at h;omega
     have h8_35:=J4 n5 j1;have hS35:=U9 l4 j1;have x5:w0.heap.size≠a7.heap.size:=fun e=>by have:=J5 n5;omega
     refine oM 5 fun K36 hK36=> ?_
     go_simp
     go_at_call 33
     have g3:=v.below x3;obtain⟨cc36,hcc36,-⟩:=g3.ref.cell;refine(UF _ B o0 A' _ cc36 M 2 hcc36 g3.ref.els (by have:=g3.few;omega) (g3.prices 2)).mono ?_;rintro e w36 ⟨l2,A36,c36,rfl,r2,hnew36⟩;rw[<-g3.twin.s2,b5.out]at r2|-;obtain⟨c4,eg36⟩:=QC r2 C;subst eg36;have hc36:=YH r2 Hy;clear hcc36 g3;refine hK36 _ _ (fun _=>U9 hS35 l2) ?_;clear hK36;have hb36:=x3.trans (l2.mono x3.size);have h8_36:=J4 h8_35 l2;have h9_36:=J4 r9 l2;have hq36_8:c4≠w0.heap.size:=fun e=>by have:=hnew36 c4 rfl;have:=J5 h8_35;omega
     have hq36_9:c4≠a7.heap.size:=fun e=>by have:=hnew36 c4 rfl;have:=J5 r9;omega
     have hS36:=And.intro (U9 hS35 l2) hc36;refine UD (S':=fun W=>(W.cell? ⟨D,0,none⟩=some (I O x.id)/\W.cell? ⟨D,1,none⟩=some (I O x.side)/\W.cell? ⟨D,2,none⟩=some (I O x.kind)/\W.cell? ⟨D,3,none⟩=some (I O x.price)/\W.cell? ⟨D,4,none⟩=some (I O x.qty))/\(W.cell? ⟨c4,0,none⟩=some (I O y.id)/\W.cell? ⟨c4,1,none⟩=some (I O y.side)/\W.cell? ⟨c4,2,none⟩=some (I O y.kind)/\W.cell? ⟨c4,3,none⟩=some (I O y.price)/\W.cell? ⟨c4,4,none⟩=some (I O y.qty))) (fun _ h=>h.1) _ ?_;refine tM 6 (IP (some ⟨c4,0,none⟩)) ?_ (hy:=by intro W U;go_simp;intro e0;exact absurd e0 (by have:=C.out;omega));refine tM 7 (.agg #[I O y.id,I O y.side,I O y.kind,I O y.price,I O y.qty]) ?_;refine oM 10 fun K37 hK37=> ?_
     refine(Q5 (by rfl)).mpr ?_;refine M9 29 _ _ rfl (w0.heap.size) #[I O x.id,I O x.side,I O x.kind,I O x.price,I O x.qty] rfl rfl 29 #[I O 0,I O 0,I O 0,I O 0,I O 0] h8_36 (by show(prog.info? 29).map (·.size)=some 5;kernel_rfl) rfl (by simp[Value.oneCell']) ?_;have hx37:=D6 _ _ _ #[I O x.id,I O x.side,I O x.kind,I O x.price,I O x.qty] _ h8_36;have j3:=B7 w36 (w0.heap.size) #[I O x.id,I O x.side,I O x.kind,I O x.price,I O x.qty];obtain⟨w37,ew37⟩:=exq (w36.setRow (w0.heap.size) #[I O x.id,I O x.side,I O x.kind,I O x.price,I O x.qty]);rw[ew37]at hx37 j3|-;clear ew37;refine hK37 _ _ (fun _=>And.intro (XS hS36.1 j3 hq30_8) (XS hS36.2 j3 hq36_8)) ?_;clear hK37;have hb37:=hb36.trans (j3.below (fun i e=>e▸g0) hb36.size);simp only[Act.put];have h9_37:=X0 h9_36 j3 (XV x5);refine oM 11 fun K38 hK38=> ?_
     refine(Q5 (by rfl)).mpr ?_;refine M9 29 _ _ rfl (a7.heap.size) #[I O y.id,I O y.side,I O y.kind,I O y.price,I O y.qty] rfl rfl 29 #[I O 0,I O 0,I O 0,I O 0,I O 0] h9_37 (by show(prog.info? 29).map (·.size)=some 5;kernel_rfl) rfl (by simp[Value.oneCell']) ?_;have hx38:=D6 _ _ _ #[I O y.id,I O y.side,I O y.kind,I O y.price,I O y.qty] _ h9_37;have r8:=B7 w37 (a7.heap.size) #[I O y.id,I O y.side,I O y.kind,I O y.price,I O y.qty];obtain⟨w38,ew38⟩:=exq (w37.setRow (a7.heap.size) #[I O y.id,I O y.side,I O y.kind,I O y.price,I O y.qty]);rw[ew38]at hx38 r8|-;clear ew38;refine hK38 _ _ (fun e=>absurd e (by decide)) ?_;clear hK38;have hb38:=hb37.trans (r8.below (fun i e=>e▸hg35) hb37.size);simp only[Act.put];have h8_38:=X0 hx37 r8 x5;refine D5 (by kernel_rfl) ?_ _;go_wp2_with fail
     go_meet;exact⟨_,_,rfl,rfl,x5,h8_38,hx38,g0,hg35,v.below hb38,hb38⟩
    refine L9 9 rfl (fun K39 hK39=> ?_);go_simp;have p6:Below a3.heap.size a3 (a3.alloc (.cells #[I O 0,I O 0,I O 0,I O 0,I O 0] 29)):=(Q2 _ _).alloc (Q4 _) _;have q0:=J9 a3 29 #[I O 0,I O 0,I O 0,I O 0,I O 0];obtain⟨w39,ew39⟩:=exq (a3.alloc (.cells #[I O 0,I O 0,I O 0,I O 0,I O 0] 29));rw[ew39]at p6 q0|-;clear ew39;refine hK39 _ _ (fun _=>trivial) ?_;clear hK39;have u7:=i8.trans (p6.mono i8.size);have hg39:wr.heap.size<=a3.heap.size:=i8.size;have h8_39:=J4 k1 p6;have z6:w0.heap.size≠a3.heap.size:=fun e=>by have:=J5 k1;omega
    refine oM 1 fun K40 hK40=> ?_
    go_simp
    go_at_call 33
    have f3:=v.below u7;obtain⟨cc40,hcc40,-⟩:=f3.ref.cell;refine(UF _ B o0 A' _ cc40 M 1 hcc40 f3.ref.els (by have:=f3.few;omega) (f3.prices 1)).mono ?_;rintro e w40 ⟨v1,A40,c40,rfl,s6,hnew40⟩;rw[<-f3.twin.s1,l1.out]at s6|-;obtain⟨J,eg40⟩:=QC s6 c9;subst eg40;have hc40:=YH s6 Hx;clear hcc40 f3;refine hK40 _ _ (fun _=>trivial) ?_;clear hK40;have v8:=u7.trans (v1.mono u7.size);have h8_40:=J4 h8_39 v1;have h9_40:=J4 q0 v1;have hq40_8:J≠w0.heap.size:=fun e=>by have:=hnew40 J rfl;have:=J5 h8_39;omega
    have hq40_9:J≠a3.heap.size:=fun e=>by have:=hnew40 J rfl;have:=J5 q0;omega
    refine UD (S':=fun W=>W.cell? ⟨J,0,none⟩=some (I O x.id)/\W.cell? ⟨J,1,none⟩=some (I O x.side)/\W.cell? ⟨J,2,none⟩=some (I O x.kind)/\W.cell? ⟨J,3,none⟩=some (I O x.price)/\W.cell? ⟨J,4,none⟩=some (I O x.qty)) (fun _ _=>trivial) _ ?_;have hS40:=hc40;refine tM 2 (IP (some ⟨J,0,none⟩)) ?_ (hy:=by intro W U;go_simp;intro e0;exact absurd e0 (by have:=c9.out;omega));refine tM 3 (.agg #[I O x.id,I O x.side,I O x.kind,I O x.price,I O x.qty]) ?_;refine oM 5 fun K41 hK41=> ?_
    go_simp
    go_at_call 33
    have f8:=v.below v8;obtain⟨cc41,hcc41,-⟩:=f8.ref.cell;refine(UF _ B o0 A' _ cc41 M 2 hcc41 f8.ref.els (by have:=f8.few;omega) (f8.prices 2)).mono ?_;rintro e w41 ⟨j7,A41,c41,rfl,u4,hnew41⟩;rw[<-f8.twin.s2,b5.out]at u4|-;obtain⟨c8,eg41⟩:=QC u4 C;subst eg41;have hc41:=YH u4 Hy;clear hcc41 f8;refine hK41 _ _ (fun _=>U9 hS40 j7) ?_;clear hK41;have hb41:=v8.trans (j7.mono v8.size);have h8_41:=J4 h8_40 j7;have h9_41:=J4 h9_40 j7;have hq41_8:c8≠w0.heap.size:=fun e=>by have:=hnew41 c8 rfl;have:=J5 h8_40;omega
    have hq41_9:c8≠a3.heap.size:=fun e=>by have:=hnew41 c8 rfl;have:=J5 h9_40;omega
    have hS41:=And.intro (U9 hS40 j7) hc41;refine UD (S':=fun W=>(W.cell? ⟨J,0,none⟩=some (I O x.id)/\W.cell? ⟨J,1,none⟩=some (I O x.side)/\W.cell? ⟨J,2,none⟩=some (I O x.kind)/\W.cell? ⟨J,3,none⟩=some (I O x.price)/\W.cell? ⟨J,4,none⟩=some (I O x.qty))/\(W.cell? ⟨c8,0,none⟩=some (I O y.id)/\W.cell? ⟨c8,1,none⟩=some (I O y.side)/\W.cell? ⟨c8,2,none⟩=some (I O y.kind)/\W.cell? ⟨c8,3,none⟩=some (I O y.price)/\W.cell? ⟨c8,4,none⟩=some (I O y.qty))) (fun _ h=>h.1) _ ?_;refine tM 6 (IP (some ⟨c8,0,none⟩)) ?_ (hy:=by intro W U;go_simp;intro e0;exact absurd e0 (by have:=C.out;omega));refine tM 7 (.agg #[I O y.id,I O y.side,I O y.kind,I O y.price,I O y.qty]) ?_;refine oM 10 fun K42 hK42=> ?_
    refine(Q5 (by rfl)).mpr ?_;refine M9 29 _ _ rfl (w0.heap.size) #[I O x.id,I O x.side,I O x.kind,I O x.price,I O x.qty] rfl rfl 29 #[I O 0,I O 0,I O 0,I O 0,I O 0] h8_41 (by show(prog.info? 29).map (·.size)=some 5;kernel_rfl) rfl (by simp[Value.oneCell']) ?_;have hx42:=D6 _ _ _ #[I O x.id,I O x.side,I O x.kind,I O x.price,I O x.qty] _ h8_41;have m6:=B7 w41 (w0.heap.size) #[I O x.id,I O x.side,I O x.kind,I O x.price,I O x.qty];obtain⟨w42,ew42⟩:=exq (w41.setRow (w0.heap.size) #[I O x.id,I O x.side,I O x.kind,I O x.price,I O x.qty]);rw[ew42]at hx42 m6|-;clear ew42;refine hK42 _ _ (fun _=>And.intro (XS hS41.1 m6 hq40_8) (XS hS41.2 m6 hq41_8)) ?_;clear hK42;have hb42:=hb41.trans (m6.below (fun i e=>e▸g0) hb41.size);simp only[Act.put];have h9_42:=X0 h9_41 m6 (XV z6);refine oM 11 fun K43 hK43=> ?_
    refine(Q5 (by rfl)).mpr ?_;refine M9 29 _ _ rfl (a3.heap.size) #[I O y.id,I O y.side,I O y.kind,I O y.price,I O y.qty] rfl rfl 29 #[I O 0,I O 0,I O 0,I O 0,I O 0] h9_42 (by show(prog.info? 29).map (·.size)=some 5;kernel_rfl) rfl (by simp[Value.oneCell']) ?_;have hx43:=D6 _ _ _ #[I O y.id,I O y.side,I O y.kind,I O y.price,I O y.qty] _ h9_42;have t6:=B7 w42 (a3.heap.size) #[I O y.id,I O y.side,I O y.kind,I O y.price,I O y.qty];obtain⟨w43,ew43⟩:=exq (w42.setRow (a3.heap.size) #[I O y.id,I O y.side,I O y.kind,I O y.price,I O y.qty]);rw[ew43]at hx43 t6|-;clear ew43;refine hK43 _ _ (fun e=>absurd e (by decide)) ?_;clear hK43;have hb43:=hb42.trans (t6.below (fun i e=>e▸hg39) hb42.size);simp only[Act.put];have h8_43:=X0 hx42 t6 z6;refine D5 (by kernel_rfl) ?_ _;go_wp2_with fail
    go_meet;exact⟨_,_,rfl,rfl,z6,h8_43,hx43,g0,hg39,v.below hb43,hb43⟩
   refine L9 9 rfl (fun K44 hK44=> ?_);go_simp;have ha44:Below w0.heap.size w0 (w0.alloc (.cells #[I O 0,I O 0,I O 0,I O 0,I O 0] 29)):=(Q2 _ _).alloc (Q4 _) _;have j2:=J9 w0 29 #[I O 0,I O 0,I O 0,I O 0,I O 0];obtain⟨b2,ew44⟩:=exq (w0.alloc (.cells #[I O 0,I O 0,I O 0,I O 0,I O 0] 29));rw[ew44]at ha44 j2|-;clear ew44;refine hK44 _ _ (fun _=>trivial) ?_;clear hK44;have i6:=c6.trans (ha44.mono c6.size);have i7:wr.heap.size<=w0.heap.size:=c6.size;refine UK (i:=1) (j:=8) (by kernel_rfl) ?_ ?_
   ·refine L9 1 rfl (fun K45 hK45=> ?_)
    go_simp
    go_at_call 33
    have g7:=v.below i6;obtain⟨cc45,hcc45,-⟩:=g7.ref.cell;refine(UF _ B o0 A' _ cc45 M 1 hcc45 g7.ref.els (by have:=g7.few;omega) (g7.prices 1)).mono ?_;rintro e b1 ⟨hbb45,A45,c45,rfl,p4,hnew45⟩;rw[<-g7.twin.s1,l1.out]at p4|-;obtain⟨E,eg45⟩:=QC p4 c9;subst eg45;have hc45:=YH p4 Hx;clear hcc45 g7;refine hK45 _ _ (fun _=>trivial) ?_;clear hK45;have f9:=i6.trans (hbb45.mono i6.size);have o3:=J4 j2 hbb45;have hq45_9:E≠w0.heap.size:=fun e=>by have:=hnew45 E rfl;have:=J5 j2;omega
    refine UD (S':=fun W=>W.cell? ⟨E,0,none⟩=some (I O x.id)/\W.cell? ⟨E,1,none⟩=some (I O x.side)/\W.cell? ⟨E,2,none⟩=some (I O x.kind)/\W.cell? ⟨E,3,none⟩=some (I O x.price)/\W.cell? ⟨E,4,none⟩=some (I O x.qty)) (fun _ _=>trivial) _ ?_;have m4:=hc45;refine tM 2 (IP (some ⟨E,0,none⟩)) ?_ (hy:=by intro W U;go_simp;intro e0;exact absurd e0 (by have:=c9.out;omega));refine tM 3 (.agg #[I O x.id,I O x.side,I O x.kind,I O x.price,I O x.qty]) ?_;refine UK (i:=5) (j:=8) (by kernel_rfl) ?_ ?_
    ·refine L9 5 rfl (fun K46 hK46=> ?_)
     go_simp
     go_at_call 33
     have g5:=v.below f9;obtain⟨cc46,hcc46,-⟩:=g5.ref.cell;refine(UF _ B o0 A' _ cc46 M 2 hcc46 g5.ref.els (by have:=g5.few;omega) (g5.prices 2)).mono ?_;rintro e a5 ⟨n6,A46,c46,rfl,r3,hnew46⟩;rw[<-g5.twin.s2,b5.out]at r3|-;obtain⟨d4,eg46⟩:=QC r3 C;subst eg46;have hc46:=YH r3 Hy;clear hcc46 g5;refine hK46 _ _ (fun _=>U9 m4 n6) ?_;clear hK46;have q3:=f9.trans (n6.mono f9.size);have h9_46:=J4 o3 n6;have hq46_9:d4≠w0.heap.size:=fun e=>by have:=hnew46 d4 rfl;have:=J5 o3;omega
     have h5:=And.intro (U9 m4 n6) hc46;refine UD (S':=fun W=>(W.cell? ⟨E,0,none⟩=some (I O x.id)/\W.cell? ⟨E,1,none⟩=some (I O x.side)/\W.cell? ⟨E,2,none⟩=some (I O x.kind)/\W.cell? ⟨E,3,none⟩=some (I O x.price)/\W.cell? ⟨E,4,none⟩=some (I O x.qty))/\(W.cell? ⟨d4,0,none⟩=some (I O y.id)/\W.cell? ⟨d4,1,none⟩=some (I O y.side)/\W.cell? ⟨d4,2,none⟩=some (I O y.kind)/\W.cell? ⟨d4,3,none⟩=some (I O y.price)/\W.cell? ⟨d4,4,none⟩=some (I O y.qty))) (fun _ h=>h.1) _ ?_;refine tM 6 (IP (some ⟨d4,0,none⟩)) ?_ (hy:=by intro W U;go_simp;intro e0;exact absurd e0 (by have:=C.out;omega));refine tM 7 (.agg #[I O y.id,I O y.side,I O y.kind,I O y.price,I O y.qty]) ?_;refine oM 8 fun K47 hK47=> ?_
     go_simp;have e3:Below a5.heap.size a5 (a5.alloc (.cells #[I O 0,I O 0,I O 0,I O 0,I O 0] 29)):=(Q2 _ _).alloc (Q4 _) _;have z4:=J9 a5 29 #[I O 0,I O 0,I O 0,I O 0,I O 0];obtain⟨w47,ew47⟩:=exq (a5.alloc (.cells #[I O 0,I O 0,I O 0,I O 0,I O 0] 29));rw[ew47]at e3 z4|-;clear ew47;refine hK47 _ _ (fun _=>And.intro (U9 h5.1 e3) (U9 h5.2 e3)) ?_;clear hK47;have hb47:=q3.trans (e3.mono q3.size);have hg47:wr.heap.size<=a5.heap.size:=q3.size;have hq47_1:E≠a5.heap.size:=fun e=>by have h:=V6 _ _ h5.1.1;dsimp only at h;omega
     have hq47_2:d4≠a5.heap.size:=fun e=>by have h:=V6 _ _ h5.2.1;dsimp only at h;omega
     have h9_47:=J4 h9_46 e3;have hS47:=And.intro (U9 h5.1 e3) (U9 h5.2 e3);have p8:w0.heap.size≠a5.heap.size:=fun e=>by have:=J5 h9_46;omega
     refine oM 10 fun K48 hK48=> ?_
     refine(Q5 (by rfl)).mpr ?_;refine M9 29 _ _ rfl (a5.heap.size) #[I O x.id,I O x.side,I O x.kind,I O x.price,I O x.qty] rfl rfl 29 #[I O 0,I O 0,I O 0,I O 0,I O 0] z4 (by show(prog.info? 29).map (·.size)=some 5;kernel_rfl) rfl (by simp[Value.oneCell']) ?_;have hx48:=D6 _ _ _ #[I O x.id,I O x.side,I O x.kind,I O x.price,I O x.qty] _ z4;have k2:=B7 w47 (a5.heap.size) #[I O x.id,I O x.side,I O x.kind,I O x.price,I O x.qty];obtain⟨w48,ew48⟩:=exq (w47.setRow (a5.heap.size) #[I O x.id,I O x.side,I O x.kind,I O x.price,I O x.qty]);rw[ew48]at hx48 k2|-;clear ew48;refine hK48 _ _ (fun _=>And.intro (XS hS47.1 k2 hq47_1) (XS hS47.2 k2 hq47_2)) ?_;clear hK48;have hb48:=hb47.trans (k2.below (fun i e=>e▸hg47) hb47.size);simp only[Act.put];have h9_48:=X0 h9_47 k2 p8;refine oM 11 fun K49 hK49=> ?_
     refine(Q5 (by rfl)).mpr ?_;refine M9 29 _ _ rfl (w0.heap.size) #[I O y.id,I O y.side,I O y.kind,I O y.price,I O y.qty] rfl rfl 29 #[I O 0,I O 0,I O 0,I O 0,I O 0] h9_48 (by show(prog.info? 29).map (·.size)=some 5;kernel_rfl) rfl (by simp[Value.oneCell']) ?_;have hx49:=D6 _ _ _ #[I O y.id,I O y.side,I O y.kind,I O y.price,I O y.qty] _ h9_48;have t3:=B7 w48 (w0.heap.size) #[I O y.id,I O y.side,I O y.kind,I O y.price,I O y.qty];obtain⟨w49,ew49⟩:=exq (w48.setRow (w0.heap.size) #[I O y.id,I O y.side,I O y.kind,I O y.price,I O y.qty]);rw[ew49]at hx49 t3|-;clear ew49;refine hK49 _ _ (fun e=>absurd e (by decide)) ?_;clear hK49;have hb49:=hb48.trans (t3.below (fun i e=>e▸i7) hb48.size);simp only[Act.put];have h8_49:=X0 hx48 t3 (XV p8);refine D5 (by kernel_rfl) ?_ _;go_wp2_with fail
     go_meet;exact⟨_,_,rfl,rfl,(XV p8),h8_49,hx49,hg47,i7,v.below hb49,hb49⟩
    refine L9 8 rfl (fun K50 hK50=> ?_);go_simp;have k8:Below b1.heap.size b1 (b1.alloc (.cells #[I O 0,I O 0,I O 0,I O 0,I O 0] 29)):=(Q2 _ _).alloc (Q4 _) _;have x9:=J9 b1 29 #[I O 0,I O 0,I O 0,I O 0,I O 0];obtain⟨w50,ew50⟩:=exq (b1.alloc (.cells #[I O 0,I O 0,I O 0,I O 0,I O 0] 29));rw[ew50]at k8 x9|-;clear ew50;refine hK50 _ _ (fun _=>U9 m4 k8) ?_;clear hK50;have p5:=f9.trans (k8.mono f9.size);have hg50:wr.heap.size<=b1.heap.size:=f9.size;have hq50_1:E≠b1.heap.size:=fun e=>by have h:=V6 _ _ m4.1;dsimp only at h;omega
    have h9_50:=J4 o3 k8;have hS50:=U9 m4 k8;have r5:w0.heap.size≠b1.heap.size:=fun e=>by have:=J5 o3;omega
    refine oM 5 fun K51 hK51=> ?_
    go_simp
    go_at_call 33
    have h4:=v.below p5;obtain⟨cc51,hcc51,-⟩:=h4.ref.cell;refine(UF _ B o0 A' _ cc51 M 2 hcc51 h4.ref.els (by have:=h4.few;omega) (h4.prices 2)).mono ?_;rintro e w51 ⟨k3,A51,c51,rfl,t8,hnew51⟩;rw[<-h4.twin.s2,b5.out]at t8|-;obtain⟨c7,eg51⟩:=QC t8 C;subst eg51;have hc51:=YH t8 Hy;clear hcc51 h4;refine hK51 _ _ (fun _=>U9 hS50 k3) ?_;clear hK51;have hb51:=p5.trans (k3.mono p5.size);have h8_51:=J4 x9 k3;have h9_51:=J4 h9_50 k3;have hq51_8:c7≠b1.heap.size:=fun e=>by have:=hnew51 c7 rfl;have:=J5 x9;omega
    have hq51_9:c7≠w0.heap.size:=fun e=>by have:=hnew51 c7 rfl;have:=J5 h9_50;omega
    have hS51:=And.intro (U9 hS50 k3) hc51;refine UD (S':=fun W=>(W.cell? ⟨E,0,none⟩=some (I O x.id)/\W.cell? ⟨E,1,none⟩=some (I O x.side)/\W.cell? ⟨E,2,none⟩=some (I O x.kind)/\W.cell? ⟨E,3,none⟩=some (I O x.price)/\W.cell? ⟨E,4,none⟩=some (I O x.qty))/\(W.cell? ⟨c7,0,none⟩=some (I O y.id)/\W.cell? ⟨c7,1,none⟩=some (I O y.side)/\W.cell? ⟨c7,2,none⟩=some (I O y.kind)/\W.cell? ⟨c7,3,none⟩=some (I O y.price)/\W.cell? ⟨c7,4,none⟩=some (I O y.qty))) (fun _ h=>h.1) _ ?_;refine tM 6 (IP (some ⟨c7,0,none⟩)) ?_ (hy:=by intro W U;go_simp;intro e0;exact absurd e0 (by have:=C.out;omega));refine tM 7 (.agg #[I O y.id,I O y.side,I O y.kind,I O y.price,I O y.qty]) ?_;refine oM 10 fun K52 hK52=> ?_
    refine(Q5 (by rfl)).mpr ?_;refine M9 29 _ _ rfl (b1.heap.size) #[I O x.id,I O x.side,I O x.kind,I O x.price,I O x.qty] rfl rfl 29 #[I O 0,I O 0,I O 0,I O 0,I O 0] h8_51 (by show(prog.info? 29).map (·.size)=some 5;kernel_rfl) rfl (by simp[Value.oneCell']) ?_;have hx52:=D6 _ _ _ #[I O x.id,I O x.side,I O x.kind,I O x.price,I O x.qty] _ h8_51;have l5:=B7 w51 (b1.heap.size) #[I O x.id,I O x.side,I O x.kind,I O x.price,I O x.qty];obtain⟨w52,ew52⟩:=exq (w51.setRow (b1.heap.size) #[I O x.id,I O x.side,I O x.kind,I O x.price,I O x.qty]);rw[ew52]at hx52 l5|-;clear ew52;refine hK52 _ _ (fun _=>And.intro (XS hS51.1 l5 hq50_1) (XS hS51.2 l5 hq51_8)) ?_;clear hK52;have hb52:=hb51.trans (l5.below (fun i e=>e▸hg50) hb51.size);simp only[Act.put];have h9_52:=X0 h9_51 l5 r5;refine oM 11 fun K53 hK53=> ?_
    refine(Q5 (by rfl)).mpr ?_;refine M9 29 _ _ rfl (w0.heap.size) #[I O y.id,I O y.side,I O y.kind,I O y.price,I O y.qty] rfl rfl 29 #[I O 0,I O 0,I O 0,I O 0,I O 0] h9_52 (by show(prog.info? 29).map (·.size)=some 5;kernel_rfl) rfl (by simp[Value.oneCell']) ?_;have hx53:=D6 _ _ _ #[I O y.id,I O y.side,I O y.kind,I O y.price,I O y.qty] _ h9_52;have p7:=B7 w52 (w0.heap.size) #[I O y.id,I O y.side,I O y.kind,I O y.price,I O y.qty];obtain⟨w53,z9⟩:=exq (w52.setRow (w0.heap.size) #[I O y.id,I O y.side,I O y.kind,I O y.price,I O y.qty]);rw[z9]at hx53 p7|-;clear z9;refine hK53 _ _ (fun e=>absurd e (by decide)) ?_;clear hK53;have hb53:=hb52.trans (p7.below (fun i e=>e▸i7) hb52.size);simp only[Act.put];have h8_53:=X0 hx52 p7 (XV r5);refine D5 (by kernel_rfl) ?_ _;go_wp2_with fail
    go_meet;exact⟨_,_,rfl,rfl,(XV r5),h8_53,hx53,hg50,i7,v.below hb53,hb53⟩
   refine L9 8 rfl (fun K54 hK54=> ?_);go_simp;have u0:Below b2.heap.size b2 (b2.alloc (.cells #[I O 0,I O 0,I O 0,I O 0,I O 0] 29)):=(Q2 _ _).alloc (Q4 _) _;have t4:=J9 b2 29 #[I O 0,I O 0,I O 0,I O 0,I O 0];obtain⟨w54,ew54⟩:=exq (b2.alloc (.cells #[I O 0,I O 0,I O 0,I O 0,I O 0] 29));rw[ew54]at u0 t4|-;clear ew54;refine hK54 _ _ (fun _=>trivial) ?_;clear hK54;have p9:=i6.trans (u0.mono i6.size);have hg54:wr.heap.size<=b2.heap.size:=i6.size;have h9_54:=J4 j2 u0;have x7:w0.heap.size≠b2.heap.size:=fun e=>by have:=J5 j2;omega
   refine oM 1 fun K55 hK55=> ?_
   go_simp
   go_at_call 33
   have i2:=v.below p9;obtain⟨cc55,hcc55,-⟩:=i2.ref.cell;refine(UF _ B o0 A' _ cc55 M 1 hcc55 i2.ref.els (by have:=i2.few;omega) (i2.prices 1)).mono ?_;rintro e w55 ⟨y8,A55,c55,rfl,q5,hnew55⟩;rw[<-i2.twin.s1,l1.out]at q5|-;obtain⟨N,eg55⟩:=QC q5 c9;subst eg55;have hc55:=YH q5 Hx;clear hcc55 i2;refine hK55 _ _ (fun _=>trivial) ?_;clear hK55;have q1:=p9.trans (y8.mono p9.size);have h8_55:=J4 t4 y8;have h9_55:=J4 h9_54 y8;have hq55_8:N≠b2.heap.size:=fun e=>by have:=hnew55 N rfl;have:=J5 t4;omega
   have hq55_9:N≠w0.heap.size:=fun e=>by have:=hnew55 N rfl;have:=J5 h9_54;omega
   refine UD (S':=fun W=>W.cell? ⟨N,0,none⟩=some (I O x.id)/\W.cell? ⟨N,1,none⟩=some (I O x.side)/\W.cell? ⟨N,2,none⟩=some (I O x.kind)/\W.cell? ⟨N,3,none⟩=some (I O x.price)/\W.cell? ⟨N,4,none⟩=some (I O x.qty)) (fun _ _=>trivial) _ ?_;have hS55:=hc55;refine tM 2 (IP (some ⟨N,0,none⟩)) ?_ (hy:=by intro W U;go_simp;intro e0;exact absurd e0 (by have:=c9.out;omega));refine tM 3 (.agg #[I O x.id,I O x.side,I O x.kind,I O x.price,I O x.qty]) ?_;refine oM 5 fun K56 hK56=> ?_
   go_simp
   go_at_call 33
   have h8:=v.below q1;obtain⟨cc56,hcc56,-⟩:=h8.ref.cell;refine(UF _ B o0 A' _ cc56 M 2 hcc56 h8.ref.els (by have:=h8.few;omega) (h8.prices 2)).mono ?_;rintro e w56 ⟨j4,A56,c56,rfl,o9,hnew56⟩;rw[<-h8.twin.s2,b5.out]at o9|-;obtain⟨d0,eg56⟩:=QC o9 C;subst eg56;have hc56:=YH o9 Hy;clear hcc56 h8;refine hK56 _ _ (fun _=>U9 hS55 j4) ?_;clear hK56;have hb56:=q1.trans (j4.mono q1.size);have h8_56:=J4 h8_55 j4;have h9_56:=J4 h9_55 j4;have hq56_8:d0≠b2.heap.size:=fun e=>by have:=hnew56 d0 rfl;have:=J5 h8_55;omega
   have hq56_9:d0≠w0.heap.size:=fun e=>by have:=hnew56 d0 rfl;have:=J5 h9_55;omega
   have hS56:=And.intro (U9 hS55 j4) hc56;refine UD (S':=fun W=>(W.cell? ⟨N,0,none⟩=some (I O x.id)/\W.cell? ⟨N,1,none⟩=some (I O x.side)/\W.cell? ⟨N,2,none⟩=some (I O x.kind)/\W.cell? ⟨N,3,none⟩=some (I O x.price)/\W.cell? ⟨N,4,none⟩=some (I O x.qty))/\(W.cell? ⟨d0,0,none⟩=some (I O y.id)/\W.cell? ⟨d0,1,none⟩=some (I O y.side)/\W.cell? ⟨d0,2,none⟩=some (I O y.kind)/\W.cell? ⟨d0,3,none⟩=some (I O y.price)/\W.cell? ⟨d0,4,none⟩=some (I O y.qty))) (fun _ h=>h.1) _ ?_;refine tM 6 (IP (some ⟨d0,0,none⟩)) ?_ (hy:=by intro W U;go_simp;intro e0;exact absurd e0 (by have:=C.out;omega));refine tM 7 (.agg #[I O y.id,I O y.side,I O y.kind,I O y.price,I O y.qty]) ?_;refine oM 10 fun K57 hK57=> ?_
   refine(Q5 (by rfl)).mpr ?_;refine M9 29 _ _ rfl (b2.heap.size) #[I O x.id,I O x.side,I O x.kind,I O x.price,I O x.qty] rfl rfl 29 #[I O 0,I O 0,I O 0,I O 0,I O 0] h8_56 (by show(prog.info? 29).map (·.size)=some 5;kernel_rfl) rfl (by simp[Value.oneCell']) ?_;have hx57:=D6 _ _ _ #[I O x.id,I O x.side,I O x.kind,I O x.price,I O x.qty] _ h8_56;have m0:=B7 w56 (b2.heap.size) #[I O x.id,I O x.side,I O x.kind,I O x.price,I O x.qty];obtain⟨w57,ew57⟩:=exq (w56.setRow (b2.heap.size) #[I O x.id,I O x.side,I O x.kind,I O x.price,I O x.qty]);rw[ew57]at hx57 m0|-;clear ew57;refine hK57 _ _ (fun _=>And.intro (XS hS56.1 m0 hq55_8) (XS hS56.2 m0 hq56_8)) ?_;clear hK57;have hb57:=hb56.trans (m0.below (fun i e=>e▸hg54) hb56.size);simp only[Act.put];have h9_57:=X0 h9_56 m0 x7;refine oM 11 fun K58 hK58=> ?_
   refine(Q5 (by rfl)).mpr ?_;refine M9 29 _ _ rfl (w0.heap.size) #[I O y.id,I O y.side,I O y.kind,I O y.price,I O y.qty] rfl rfl 29 #[I O 0,I O 0,I O 0,I O 0,I O 0] h9_57 (by show(prog.info? 29).map (·.size)=some 5;kernel_rfl) rfl (by simp[Value.oneCell']) ?_;have hx58:=D6 _ _ _ #[I O y.id,I O y.side,I O y.kind,I O y.price,I O y.qty] _ h9_57;have v0:=B7 w57 (w0.heap.size) #[I O y.id,I O y.side,I O y.kind,I O y.price,I O y.qty];obtain⟨w58,ew58⟩:=exq (w57.setRow (w0.heap.size) #[I O y.id,I O y.side,I O y.kind,I O y.price,I O y.qty]);rw[ew58]at hx58 v0|-;clear ew58;refine hK58 _ _ (fun e=>absurd e (by decide)) ?_;clear hK58;have hb58:=hb57.trans (v0.below (fun i e=>e▸i7) hb57.size);simp only[Act.put];have h8_58:=X0 hx57 v0 (XV x7);refine D5 (by kernel_rfl) ?_ _;go_wp2_with fail
   go_meet;exact⟨_,_,rfl,rfl,(XV x7),h8_58,hx58,hg54,i7,v.below hb58,hb58⟩
  obtain⟨B1,B2,rfl,rfl,hne,hX,hY,hB1,hB2,p1,j6⟩:=hcut;obtain⟨w5,j8⟩:=exq wc;rw[j8]at hX hY p1 j6|-;clear j8 v;have HX5:=Q0 hX;have HY5:=Q0 hY;have g9:=Q0 p1;have HNe:=Q0 hne;have k5:=Q0 hB1;have e1:=Q0 hB2;have hl1:=J5 hX;have y2:=J5 hY;obtain⟨x0,-,-,-,x4⟩:=Z6 hX;obtain⟨y0,-,-,-,y4⟩:=Z6 hY;clear hX hY p1 hne hB1 hB2 j6;obtain⟨n,hn⟩:=exq (min (q-a) (min x.qty y.qty));have hxq:1<=x.qty:=(g9.lists.ok x (S9 _ (by rw[Hx.out];simp))).2.2.2.1;have hyq:1<=y.qty:=(g9.lists.ok y (QB _ (by rw[Hy.out];simp))).2.2.2.1;have k9:1<=n:=by omega
  have o8:n<=x.qty:=by omega
  have u6:n<=y.qty:=by omega
  have hnt:n<=q-a:=by omega
  have HNn:=Q0 hn;clear hn;go_upto_region 6 with fail
  go_cut [11] (fun s11 wx=>s11=I O n/\wx=w5)
  case first=>
   go_wp2_with fail
   all_goals go_meet
   all_goals refine⟨?_,rfl⟩
   all_goals rw[<-HNn.out]
   all_goals congr 1
   all_goals first
    |omega
    |(split at h<;>first|omega|(split<;>omega))
    |(split<;>first|omega|(split at h<;>omega))
  obtain⟨rfl,rfl⟩:=hcut;have hF1:F.length<=100000000:=by have:=HF.len;omega
  obtain⟨i0,hi0,hz0,hz1,hz2⟩:=N0 LN;have HO1:=Q0 (YM (show wc.ownsRow 0 89 4 (.slice Af F.length c) F.length (Q9 D8 F)from g9.row) (.cells #[I O x.id,I O y.id,I O p,I O n] 89));go_upto_region 8 with(at_builtin;refine ZL _ rfl _ _ 42 rfl 0 89 i0 _ 4 32 MR hi0 hz0 hz1 hz2 rfl (by omega) (.slice Af F.length c) F.length _ rfl HO1 ⟨wc.heap.size,0,none⟩ 1 1 [I O x.id,I O y.id,I O p,I O n] rfl rfl (JB (cs:= #[I O x.id,I O y.id,I O p,I O n]) (t:=89) (fr:=(0,0)) (S5 wc _)) (by simp[Value.oneCell']) (by omega) (by unfold maxLen;omega) (by omega) (by simp) (wc.heap.size+1) (by simp) ?_;intro gg cap w6 hown hgrow t9 hlt6)
  have c5:=GJ hgrow;rw[A7]at c5 t9;have d5:=g9.fill (f:=⟨x.id,y.id,p,n⟩) c5 hown (t9.imp id (fun e=>by omega));have nB1: ¬Q7 Af=some B1:=fun e=>by have h1:=HAf.out _ e;have h2:=k5.out;omega
  have nB2: ¬Q7 Af=some B2:=fun e=>by have h1:=HAf.out _ e;have h2:=e1.out;omega
  have z0:w6.cell? ⟨B1,0,none⟩=some (I O x.id):=(c5.cell (p:=⟨B1,0,none⟩) hl1 nB1).trans x0;have z1:w6.cell? ⟨B2,0,none⟩=some (I O y.id):=(c5.cell (p:=⟨B2,0,none⟩) y2 nB2).trans y0;have hl6:B2<w6.heap.size:=T8 y2 c5.size;have hwB:B2≠B:=by have h1:=e1.out;have h2:=g9.blt;have h3:=HWr.out;omega
  rw[<-HM1.out,<-HM2.out]at d5;obtain⟨c1,c2,c3⟩:=Hk d5.lists x6 l0 o1 k9 o8;have o5:=d5.twin.cutS_ d5.lists c1 k9 o8;rw[c2,c3]at o5;have e8:=Ys w6 B t _ o0 A' M d5.ref (by have:=d5.few;omega) x.id n d5.qtys;rw[o5.1]at e8;have HCa:=Q0 e8;have p2:=Q0 d5;have HTw:=Q0 o5.2;have HFn:=Q0 (HF.step x6 q7 Hd1 Hd2 l0 o1 o2 k9 o8 u6);have HXn:=Q0 (HX.step HF.sum (z:=⟨x.id,y.id,p,n⟩) (by rw[o1.out,o2.out];exact HNn.symm) (by rw[o1.out];rfl) (by rw[o2.out];rfl));have HwB:=Q0 hwB;clear c5 hown hgrow t9 hlt6 d5 nB1 nB2 c1 c2 c3 e8 o5 x0 x4 y0 y4 HO1 g9 HX5 HY5 HF HX hl1 y2 hi0 hz0 hz1 hz2 hxq hyq hwB;go_wp2_with fail
  refine HCa.mono ?_;rintro e w7 ⟨rfl,m9⟩;obtain⟨A2,c2',d8,hk7⟩:=p2.cut m9 HTw (G0 (Ut _ _ _) p2.few);have z2:w7.cell? ⟨B2,0,none⟩=some (I O y.id):=(hk7.cell (p:=⟨B2,0,none⟩) hl6 HwB).trans z1;obtain⟨c1,c2,c3⟩:=Fj d8.lists q7 l0 o2 k9 u6;have n3:=d8.twin.cutS_ d8.lists c1 k9 u6;rw[c2,c3]at n3;have e8:=Ys w7 B t _ o0 A2 _ d8.ref (by have:=d8.few;omega) y.id n d8.qtys;rw[n3.1]at e8;have HCb:=Q0 e8;have q6:=Q0 d8;have HTw2:=Q0 n3.2;clear m9 hk7 d8 c1 c2 c3 e8 n3 z0 z1 HCa p2 HTw;go_wp2_with fail
  refine HCb.mono ?_;rintro e w8 ⟨rfl,m9⟩;obtain⟨A3,c3',hR8,-⟩:=q6.cut m9 HTw2 (G0 (Ut _ _ _) q6.few);have HR8:=Q0 hR8;have i1:RowKit.wrap64 (q-a-n)=q- (a+n):=by unfold RowKit.wrap64;omega
  clear m9 hR8 z2 HCb q6 HTw2;go_wp2_with fail
  go_roundg (q- (a+n)).toNat
  case measure=>omega
  exact⟨a+n,F++ [⟨x.id,y.id,p,n⟩],_,cap,A3,c3',_,by omega,by omega,rfl,by congr 1<;>omega,by simp,HFn,HXn,HR8⟩
 obtain rfl:a=q:=by omega
 have d3:decide (0<a-a)=false:=Z1 (by omega)
 go_wp2_with fail
 refine P4 (results_tmp2 rfl _ _ _) rfl ?_
 exact⟨F,Af,c,A',c',M,rfl,HF,HX,v⟩
