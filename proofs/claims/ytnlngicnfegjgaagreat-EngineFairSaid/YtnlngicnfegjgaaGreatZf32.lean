/- Contracts and walks that the law's proof needs. -/
import Derived.Laws.Rows
import Derived.Deep.RegionWith
import Derived.Test.YtnlngicnfegjgaaGreatZf17
import Derived.Test.YtnlngicnfegjgaaGreatZf31
import Derived.Test.YtnlngicnfegjgaaGreatZf20
import Derived.WalkKit
import Derived.WalkLawsBesides
import Derived.WalkSpells
import Derived.Deep.QuietTactic
import Derived.BigQuiet
import Derived.Deep.LoopGhost
import Derived.Deep.DeepCutAuto
import Derived.Deep.CutBlock
import Derived.Laws.EntriesVeiled
import Derived.Test.YtnlngicnfegjgaaGreatZf23
set_option linter.unusedVariables false
set_option maxRecDepth 100000
set_option maxHeartbeats 8000000
namespace Go.Proofs.YtnlngicnfegjgaaGreat
open Go.RowKit
theorem Xb3 {w:World} {t:Act} {Q:Ending→World→Prop} {g:Nat} {cs:Array Value} {v:Value} (hp:t.tmps.getD 4 undef= .pointer (some ⟨g,0,none⟩)) (h5:t.tmps.getD 5 undef=v) (hd:t.defers= [])
  (hg:QJ w g 29 cs) (hs:cs.size=5) (h:Q (.returned (.tuple #[.agg cs,v])) w):bodyPost Tryz.prog Tryz.f36 Q .ret t w:=by
 refine bodyPost_ret (v:= .tuple #[.agg cs,v]) ?_ hd h
 have hl:=run_loadVar_row (P:=Tryz.prog) w g _ 29 cs (0,0) _ hg Tryz.underlying29 rfl (by rw[hs];kernel_rfl)
 have hp':t.tmps[4]?.getD undef= .pointer (some ⟨g,0,none⟩):=by simpa using hp
 have h5':t.tmps[5]?.getD undef=v:=by simpa using h5
 simp[results,Tryz.results36,hp',h5',asAddr,hl]
theorem Jb1 (w:World) (b a:Nat) (F:Nat→Prop) (M:Int→Int→Option QX) (n r:Nat) (f:Int→Option Value) (H:Int→HS) (reg:Nat→Int) (hM:XX w b a F M n r f H reg) (id:Int) (hf:f id=none):
  Calls Tryz.prog 36 #[.pointer (some ⟨b,0,none⟩),.int .i64 id] w fun e w'=>e= .returned (.tuple #[.agg #[.int .i64 0,.int .i64 0,.int .i64 0,.int .i64 0,.int .i64 0],YZ 7])∧Below w.heap.size w w':=by
 have hb0:Below w.heap.size w (w.alloc (.cells #[.int .i64 0,.int .i64 0,.int .i64 0,.int .i64 0,.int .i64 0] 29)):=(Below.refl _ w).alloc (Nat.le_refl _) _
 have hM0:=hM.below hb0
 have hlk:=IX hM0.mp hf
 obtain⟨y0,y1,y2,y3,y4,y5⟩:=hM0.cells
 have HR:=QQ (QJ.new w 29 #[.int .i64 0,.int .i64 0,.int .i64 0,.int .i64 0,.int .i64 0])
 have HB:=QQ hb0
 clear y0 y2 y3 y4 y5 hM hM0 hf hb0
 go_enter Tryz.func36,Tryz.ntmps36
 go_wp2_with fail
 refine Xb3 (g:=w.heap.size) (cs:= #[.int .i64 0,.int .i64 0,.int .i64 0,.int .i64 0,.int .i64 0]) (v:=YZ 7) (by with_unfolding_all rfl) (by with_unfolding_all rfl) (by with_unfolding_all rfl) (QJ.alloc HR.out _) rfl ?_
 exact⟨rfl,HB.out.alloc (by simp) _⟩
theorem Ju1 (w:World) (b a:Nat) (F:Nat→Prop) (M:Int→Int→Option QX) (n r:Nat) (f:Int→Option Value) (H:Int→HS) (reg:Nat→Int) (hM:XX w b a F M n r f H reg) (id:Int) (x:HO) (hf:f id=some (X5 x)) (hMx:M x.1.1 x.1.2=some x.2):
  Calls Tryz.prog 36 #[.pointer (some ⟨b,0,none⟩),.int .i64 id] w fun e w'=>e= .returned (.tuple #[KQ x.2,.nilIface])∧Below w.heap.size w w':=by
 have hb0:Below w.heap.size w (w.alloc (.cells #[.int .i64 0,.int .i64 0,.int .i64 0,.int .i64 0,.int .i64 0] 29)):=(Below.refl _ w).alloc (Nat.le_refl _) _
 have hM0:=hM.below hb0
 have hlk:=X7 hM0.mp hf
 obtain⟨y0,y1,y2,y3,y4,y5⟩:=hM0.cells
 obtain⟨⟨h1,h2⟩,o⟩:=x
 dsimp only at hlk hMx
 have HX:=QQ (QJ.alloc (QJ.new w 29 #[.int .i64 0,.int .i64 0,.int .i64 0,.int .i64 0,.int .i64 0]) (.cells #[.int .i64 h1,.int .i64 h2,.int .i64 o.side,.int .i64 o.price,.bool (o.kind ==2)] 124))
 have hb1:Below w.heap.size w ((w.alloc (.cells #[.int .i64 0,.int .i64 0,.int .i64 0,.int .i64 0,.int .i64 0] 29)).alloc (.cells #[.int .i64 h1,.int .i64 h2,.int .i64 o.side,.int .i64 o.price,.bool (o.kind ==2)] 124)):=hb0.alloc (by simp) _
 have HG:=QQ (Jf9 (hM.below hb1) hMx _ (Below.drew (Below.refl _ _)))
 have HB:=QQ hb1
 have hbl:=QJ.lt hM.blk
 clear y2 y3 y4 y5 hM hM0 hf hb0 hb1 hMx
 go_enter Tryz.func36,Tryz.ntmps36
 go_wp2_with fail
 go_region_with (go_at_call 58;refine HG.out.mono ?_;rintro e w5 ⟨rfl,hb5⟩;have hbx:=QJ.keep (QJ.drew HX.out) hb5;have z0:=(I5 hbx).1;have z1:=(I5 hbx).2.1;have z2:=(I5 hbx).2.2.1;have z3:=(I5 hbx).2.2.2.1;have z4:=(I5 hbx).2.2.2.2;have f0:=QJ.frozen hbx 0;have f1:=QJ.frozen hbx 1;have f2:=QJ.frozen hbx 2;have f3:=QJ.frozen hbx 3;have f4:=QJ.frozen hbx 4;have HBx:=QQ hbx;have HB5:=QQ (HB.out.trans ((Below.drew (Below.refl _ _)).trans (hb5.mono (Nat.le_refl _)) |>.mono HB.out.size));clear hb5 hbx)
 all_goals go_wp2_with fail
 all_goals
  refine Xb3 (g:=w.heap.size) (cs:=KZ o) (v:= .nilIface) (by with_unfolding_all rfl) (by with_unfolding_all rfl) (by with_unfolding_all rfl) ?_ rfl ?_
  ·exact QJ.set_ (QJ.set_ (QJ.set_ (QJ.set_ (QJ.set_ HBx.out 0 _) 1 _) 2 _) 3 _) 4 _
  ·refine⟨rfl,HB5.out.trans ?_⟩
   exact(Jg0 _ _ _ _ _ _ _).below (B:=w.heap.size) (fun i e=>by have e':i=w.heap.size:=e;omega) HB5.out.size
theorem Jb2 (w:World) (b:Nat) (G:Nat→Prop) (L1 L2:List QX) (h:Q1 w b G L1 L2) (id:Int):
  Calls Tryz.prog 36 #[.pointer (some ⟨b,0,none⟩),.int .i64 id] w fun e w'=>Below w.heap.size w w'∧((Qb3 (L1++L2) id=none∧e= .returned (.tuple #[KQ noO,YZ 7]))∨(∃o,Qb3 (L1++L2) id=some o∧e= .returned (.tuple #[KQ o,.nilIface]))):=by
 obtain⟨a,F,M,n,r,f,H,reg,hM,hS,hG,rfl,rfl⟩:=h
 cases hf:f id with
 |none=>
  refine(Jb1 w b a F M n r f H reg hM id hf).mono ?_;rintro e w' ⟨rfl,hb⟩;exact⟨hb,.inl ⟨Ja0 hS hf,rfl⟩⟩
 |some v=>
  obtain⟨x,hx,QQ⟩:=hS.hk _ _ hf;have hv:=hS.hf x hx;rw[QQ]at hv;refine(Ju1 w b a F M n r f H reg hM id x hv (hS.hM x hx)).mono ?_;rintro e w' ⟨rfl,hb⟩;exact⟨hb,.inr ⟨x.2,by rw[←QQ];exact Qz9 hS hx,rfl⟩⟩
theorem Qx8 {w:World} {r:Nat} {f:Int→Option Value} (h:I6 w r f) {k:Int} {x:HO} (e:f k=some (X5 x)):(Instr.lookup 105 (.map (some r)) (.int .i64 k) false).run Tryz.prog w=
  .ok (.agg #[.int .i64 x.1.1,.int .i64 x.1.2,.int .i64 x.2.side,.int .i64 x.2.price,.bool (x.2.kind ==2)]) w:=by
 have:=h.lookup (P:=Tryz.prog) Tryz.underlying105 Tryz.underlying3 (z:= .agg #[.int .i64 0,.int .i64 0,.int .i64 0,.int .i64 0,.bool false]) (by kernel_rfl) k false
 rw[e]at this
 exact this
theorem Xh0 (w:World) (a b c d:Value) (e:Value):(Instr.field 124 (.agg #[a,b,c,d,e]) 0).run Tryz.prog w= .ok (.agg #[a,b]) w:=by kernel_rfl
theorem Kx6 {w w':World} {b a r n:Nat} {F F' G:Nat→Prop} {M:Int→Int→Option QX} {f:Int→Option Value} {H:Int→HS} {reg':Nat→Int} {x:HO} {k:Int} (hS:KY M n f H) (hx:x∈X4 H) (h1:1≤k) (h2:k<x.2.qty)
  (hG: ∀i,G i↔U0 b r F H i) (hM:XX w' b a F' (Z6 M x.1.1 x.1.2 (some (U9 x.2 k))) n r f H reg') (hB:XW w w' (U0 b r F H) (U0 b r F' H)):Qj8 w w' b G (Qf6 (H 1).L x.2 k) (Qf6 (H 2).L x.2 k):=by
 have e: ∀L,Qf6 L x.2 k=Xk5 L x.2.id k:=fun L=>by unfold Qf6;rw[if_neg (by omega)]
 rw[e,e]
 refine⟨U0 b r F' (Qm4 H x.2.id k),⟨a,F',_,n,r,f,Qm4 H x.2.id k,reg',hM.recut,hS.cut hx h1 h2,fun i=>Iff.rfl,(Kv8 _).symm,(Kv8 _).symm⟩,hB.1.mono (fun i hi=>(hG i).2 hi),fun i hi=> ?_⟩
 exact(hB.2 i (Ku1.1 hi)).imp (fun h=>(hG i).2 h) id
theorem Jn3:Kb5:=by
 intro w b G L1 L2 h id n hfit
 have hat:=h
 obtain⟨a,F,M,m,r,f,H,reg,hM,hS,hG,rfl,rfl⟩:=h
 cases hf:f id with
 |none=>
  have hg:=Ja0 hS hf;have hE:Jt9 (H 1).L (H 2).L id n=7:=by unfold Jt9;rw[hg]
  have HC:=QQ (Jb1 w b a F M m r f H reg hM id hf);have HE:=QQ hE;clear hM hS hG hf hg hE hat;go_enter Tryz.func64,Tryz.ntmps64
  go_wp2_with fail
  refine HC.out.mono ?_;rintro e w1 ⟨rfl,hb⟩;have HB:=QQ (hb.alloc hb.size (.cells #[.int .i64 0,.int .i64 0,.int .i64 0,.int .i64 0,.int .i64 0] 29));rw[show YZ 7= .iface 68 (.int .i64 7)from rfl];clear hb;go_wp2_with fail
  go_ret;refine .inl ⟨?_, ?_,HB.out⟩
  ·rw[HE.out];decide
  ·rw[HE.out];rfl
 |some v=>
  obtain⟨x,hx,hxi⟩:=hS.hk _ _ hf;have hv:=hS.hf x hx;rw[hxi]at hv;have hg:=Qz9 hS hx;rw[hxi]at hg;have hok:=hS.ok x hx;have HC:=QQ (Ju1 w b a F M m r f H reg hM id x hv (hS.hM x hx));have HM:=QQ hM;have HS_:=QQ hS;have HG:=QQ hG;have Hx:=QQ hx;have Hxi:=QQ hxi;have Hv:=QQ hv;have Hg:=QQ hg;have Hat:=QQ hat;have hq1:=hok.2.2.2;have Hfit:=QQ hfit;clear hM hS hG hf hg hat hx hxi hv hok hfit v;obtain⟨⟨h1,h2⟩,o⟩:=x;dsimp only at HC Hxi Hg hq1;unfold KQ at HC
  by_cases c1:n<1
  ·have d1:decide (n<1)=true:=J4 c1
   have hE:Jt9 (H 1).L (H 2).L id n=2:=by unfold Jt9;rw[Hg.out];exact if_pos (.inl c1)
   have HE:=QQ hE;clear hE c1;go_enter Tryz.func64,Tryz.ntmps64
   go_wp2_with fail
   refine HC.out.mono ?_;rintro e w1 ⟨rfl,hb⟩;have HB:=QQ (hb.alloc hb.size (.cells #[.int .i64 o.id,.int .i64 o.side,.int .i64 o.kind,.int .i64 o.price,.int .i64 o.qty] 29));clear hb;go_wp2_with fail
   go_ret;refine .inl ⟨?_, ?_,HB.out⟩
   ·rw[HE.out];decide
   ·rw[HE.out];rfl
  ·have d1:decide (n<1)=false:=OY c1
   by_cases c2:o.qty<n
   ·have d2:decide (o.qty<n)=true:=J4 c2
    have hE:Jt9 (H 1).L (H 2).L id n=2:=by unfold Jt9;rw[Hg.out];exact if_pos (.inr c2)
    have HE:=QQ hE;clear hE c1 c2;go_enter Tryz.func64,Tryz.ntmps64
    go_wp2_with fail
    refine HC.out.mono ?_;rintro e w1 ⟨rfl,hb⟩;have HB:=QQ (hb.alloc hb.size (.cells #[.int .i64 o.id,.int .i64 o.side,.int .i64 o.kind,.int .i64 o.price,.int .i64 o.qty] 29));clear hb;go_wp2_with fail
    go_ret;refine .inl ⟨?_, ?_,HB.out⟩
    ·rw[HE.out];decide
    ·rw[HE.out];rfl
   ·have d2:decide (o.qty<n)=false:=OY c2
    by_cases c3:n=o.qty
    ·subst c3
     have d3:(o.qty ==o.qty)=true:=J3 rfl;go_enter Tryz.func64,Tryz.ntmps64
     go_wp2_with fail
     refine HC.out.mono ?_;rintro e w1 ⟨rfl,hb⟩;have hb2:=hb.alloc hb.size (.cells #[.int .i64 o.id,.int .i64 o.side,.int .i64 o.kind,.int .i64 o.price,.int .i64 o.qty] 29);have HCa:=QQ (Qg1 _ b G _ _ (Hat.out.below hb2) id);have HB:=QQ hb2;clear hb hb2;go_wp2_with fail
     refine HCa.out.mono ?_;rintro e w2 (⟨h0,-,-⟩|⟨o',h0,rfl,hto⟩)
     ·rw[Hg.out]at h0
      cases h0
     ·have Hto:=QQ hto
      clear hto h0;rw[UV];go_wp2_with fail
      go_ret;obtain⟨G',hA',hB'⟩:=Hto.out;refine .inr ⟨o,Hg.out,by omega,Int.le_refl _,rfl,G', ?_,(XW.of_below HB.out).trans hB'⟩;unfold Qf6;rw[if_pos rfl,if_pos rfl,Hxi.out];exact hA'
    ·have d3:(n ==o.qty)=false:=UX c3
     have hw:RowKit.wrap64 (o.qty-n)=o.qty-n:=by unfold RowKit.wrap64;omega
     go_enter Tryz.func64,Tryz.ntmps64
     go_wp2_with fail
     refine HC.out.mono ?_;rintro e w1 ⟨rfl,hb⟩;have hb2:=(hb.alloc hb.size (.cells #[.int .i64 o.id,.int .i64 o.side,.int .i64 o.kind,.int .i64 o.price,.int .i64 (o.qty-n)] 29));have hM2:=HM.out.below hb2;obtain⟨y0,y1,-,-,-,-⟩:=hM2.cells;have hset:=Ks7 (w:=(w1.alloc (.cells #[.int .i64 o.id,.int .i64 o.side,.int .i64 o.kind,.int .i64 o.price,.int .i64 (o.qty-n)] 29)).drew) (hM2.below (Below.drew (Below.refl _ _))).ar h1 h2 (by have:=HS_.out.hM _ Hx.out;dsimp only at this;rw[this];rfl) (U9 o n);unfold KQ U9 at hset;dsimp only at hset;have HSet:=QQ hset;have hl1:=Qx8 hM2.mp Hv.out;have hl2:=Qx8 (w:=(w1.alloc (.cells #[.int .i64 o.id,.int .i64 o.side,.int .i64 o.kind,.int .i64 o.price,.int .i64 (o.qty-n)] 29)).drew) (hM2.below (Below.drew (Below.refl _ _))).mp Hv.out;dsimp only at hl1 hl2;have HM2:=QQ (hM2.below (Below.drew (Below.refl _ _)));have hbx:=QJ.new w1 29 #[.int .i64 o.id,.int .i64 o.side,.int .i64 o.kind,.int .i64 o.price,.int .i64 (o.qty-n)];obtain⟨z0,z1,z2,z3,z4⟩:=I5 hbx;have hbl:=QJ.lt hM2.blk;have hpf:=fun(W:World) (c d e:Value)=>Xh0 W (.int .i64 h1) (.int .i64 h2) c d e
     have HB:=QQ (hb2.trans ((Below.drew (Below.refl _ _):Below _ _ (w1.alloc (.cells #[.int .i64 o.id,.int .i64 o.side,.int .i64 o.kind,.int .i64 o.price,.int .i64 (o.qty-n)] 29)).drew).mono hb2.size));clear hb hb2 hM2 hset hbx;go_wp2_with fail
     go_region_with (go_at_call 95;refine HSet.out.mono ?_;rintro e w5 ⟨rfl,hto⟩;have HT:=QQ hto;clear hto)
     all_goals go_wp2_with fail
     all_goals
      go_ret;obtain⟨F',reg',hM5,hB5⟩:=HM2.out.arena HT.out;exact .inr ⟨o,Hg.out,c1,c2,rfl,Kx6 (x:=((h1,h2),o)) HS_.out Hx.out c1 (by dsimp only;omega) HG.out hM5 ((XW.of_below HB.out).trans hB5)⟩
theorem Kp2 (w:World) (B1 B2:Nat) (s p:Int) (hs:VV s) (o:QX) (c1:w.cell? ⟨B1,0,none⟩=some (.int .i64 s)) (c2:w.cell? ⟨B2,0,none⟩=some (.int .i64 p)):
  Calls Tryz.prog 94 #[KQ o,.pointer (some ⟨B1,0,none⟩),.pointer (some ⟨B2,0,none⟩)] w fun e w'=>e= .returned (.bool (O2 s p o))∧Below w.heap.size w w':=by
 unfold KQ
 have hA:Below w.heap.size w (w.alloc (.cells #[.int .i64 o.id,.int .i64 o.side,.int .i64 o.kind,.int .i64 o.price,.int .i64 o.qty] 29)):=(Below.refl _ _).alloc (Nat.le_refl _) _
 have k1:=(hA.cell (p:=⟨B1,0,none⟩) (World.block_lt_of_cell? w _ c1)).trans c1
 have k2:=(hA.cell (p:=⟨B2,0,none⟩) (World.block_lt_of_cell? w _ c2)).trans c2
 have HA:=QQ hA
 clear hA c1 c2
 by_cases hk:o.kind=2
 ·have t1:=J3 hk
  have HE:Hid (O2 s p o=true):=QQ (by unfold O2;rw[t1];rfl);clear hk hs;go_enter Tryz.func94,Tryz.ntmps94
  go_wp2;go_ret;exact⟨Q6 (by rw[HE.out]),HA.out⟩
 ·have t1:=UX hk
  rcases hs with rfl|rfl
  ·have HE:Hid (O2 1 p o=decide (p≤o.price)):=QQ (by unfold O2;rw[t1];simp)
   by_cases hp:p≤o.price
   ·have t4:=J4 hp
    clear hk hp;go_enter Tryz.func94,Tryz.ntmps94
    go_wp2;go_ret;exact⟨Q6 (by rw[HE.out,t4]),HA.out⟩
   ·have t4:=OY hp
    clear hk hp;go_enter Tryz.func94,Tryz.ntmps94
    go_wp2;go_ret;exact⟨Q6 (by rw[HE.out,t4]),HA.out⟩
  ·have HE:Hid (O2 2 p o=decide (o.price≤p)):=QQ (by unfold O2;rw[t1];simp)
   by_cases hp:o.price≤p
   ·have t4:=J4 hp
    clear hk hp;go_enter Tryz.func94,Tryz.ntmps94
    go_wp2;go_ret;exact⟨Q6 (by rw[HE.out,t4]),HA.out⟩
   ·have t4:=OY hp
    clear hk hp;go_enter Tryz.func94,Tryz.ntmps94
    go_wp2;go_ret;exact⟨Q6 (by rw[HE.out,t4]),HA.out⟩
structure Ju2 (w wr:World) (A:Option Addr) (c:Nat) (L:List QX) (B1 B2:Nat) (s p:Int):Prop where
 row:QY wr A L.length c 29 5 (QW I1 L)
 c1:wr.cell? ⟨B1,0,none⟩=some (.int .i64 s)
 c2:wr.cell? ⟨B2,0,none⟩=some (.int .i64 p)
 old:Below w.heap.size w wr
theorem Ju2.below {w wr w':World} {A:Option Addr} {c:Nat} {L:List QX} {B1 B2:Nat} {s p:Int} (h:Ju2 w wr A c L B1 B2 s p) (hb:Below wr.heap.size wr w'):Ju2 w w' A c L B1 B2 s p:=
 ⟨h.row.below hb,(hb.cell (p:=⟨B1,0,none⟩) (World.block_lt_of_cell? wr _ h.c1)).trans h.c1,(hb.cell (p:=⟨B2,0,none⟩) (World.block_lt_of_cell? wr _ h.c2)).trans h.c2,h.old.trans (hb.mono h.old.size)⟩
theorem Jn4 {s p:Int} {L:List QX} (h: ∀o∈L,1≤o.qty∧o.qty≤1000000):0≤V7 s p L∧V7 s p L≤1000000*L.length:=by
 unfold V7
 induction L with
 |nil=>simp[Qb4]
 |cons o t ih=>
  have h1:=h o (by simp);have h2:=ih (fun y hy=>h y (by simp[hy]));simp only[Qb4,List.length_cons]
  split<;>omega
theorem Qc7 {w:World} {A:Option Addr} {n c sz:Nat} {t:TypeId} {xs:List Value} (h:QY w A n c t sz xs) (hn:0<n): ∃g,A=some ⟨g,0,none⟩:=by
 rcases h.2 with⟨_,h0⟩|⟨g,cap,cur,hv,_⟩
 ·omega
 ·cases hv;exact⟨g,rfl⟩
theorem Qr0 (w:World) (b:Nat) (G:Nat→Prop) (L1 L2:List QX) (h:Q1 w b G L1 L2) (s p:Int) (hs:VV s):
  Calls Tryz.prog 62 #[.pointer (some ⟨b,0,none⟩),.int .i64 s,.int .i64 p] w fun e w'=>e= .returned (.int .i64 (V7 s p (XQ s L1 L2)))∧Below w.heap.size w w':=by
 have hmf: ∀(fn:Fn) (first cap:Array Value) (w:World),(Instr.makeFunc fn first cap).run Tryz.prog w= .ok (.func fn first cap) w:=fun _ _ _ _=>rfl
 have eg:=Go.Proofs.enters_of Tryz.func94 (by kernel_rfl) rfl
 have hl:=h.lists
 obtain⟨L,hL⟩: ∃L,XQ s L1 L2=L:=⟨_,rfl⟩
 have hok: ∀o∈L,1≤o.qty∧o.qty≤1000000:=by
  intro o ho;rw[←hL]at ho;have hm:o∈L1++L2:=by
   unfold XQ at ho
   split at ho
   ·exact List.mem_append_left _ ho
   ·exact List.mem_append_right _ ho
  exact(hl.ok o hm).2.2.2
 have hlen:L.length≤100:=by
  have h1:=hl.cnt;rw[List.length_append]at h1;rw[←hL];unfold XQ
  split<;>omega
 have hA1:Below w.heap.size w (w.alloc (.cells #[.int .i64 s] 3)):=(Below.refl _ w).alloc (Nat.le_refl _) _
 have hA2:Below w.heap.size w ((w.alloc (.cells #[.int .i64 s] 3)).alloc (.cells #[.int .i64 p] 3)):=hA1.alloc (by simp) _
 have hc1:((w.alloc (.cells #[.int .i64 s] 3)).alloc (.cells #[.int .i64 p] 3)).cell? ⟨w.heap.size,0,none⟩=some (.int .i64 s):=QJ.cell (QJ.alloc (QJ.new w 3 #[.int .i64 s]) _) 0
 have hc2:((w.alloc (.cells #[.int .i64 s] 3)).alloc (.cells #[.int .i64 p] 3)).cell? ⟨w.heap.size+1,0,none⟩=some (.int .i64 p):=by
  have:=QJ.cell (QJ.new (w.alloc (.cells #[.int .i64 s] 3)) 3 #[.int .i64 p]) 0;rw[World.size_alloc]at this;exact this
 have HC:=QQ (Qc5 _ b G L1 L2 (h.below hA2) s hs)
 rw[hL]at HC⊢
 have HA2:=QQ hA2
 have Hc1:=QQ hc1
 have Hc2:=QQ hc2
 have HOk:=QQ hok
 have HS:=QQ hs
 clear hA1 hA2 hc1 hc2 h hl hL hs hok
 go_enter Tryz.func62,Tryz.ntmps62
 go_wp2_with fail
 refine HC.out.mono ?_
 rintro e w3 ⟨hb3,A,c,rfl,hr3,-⟩
 have HW:=QQ (show Ju2 w w3 A c L w.heap.size (w.heap.size+1) s p from⟨hr3,(hb3.cell (p:=⟨w.heap.size,0,none⟩) (World.block_lt_of_cell? _ _ Hc1.out)).trans Hc1.out,(hb3.cell (p:=⟨w.heap.size+1,0,none⟩) (World.block_lt_of_cell? _ _ Hc2.out)).trans Hc2.out,HA2.out.trans (hb3.mono HA2.out.size)⟩)
 obtain⟨n,hn⟩: ∃n,L.length=n:=⟨_,rfl⟩
 rw[hn]
 have Hn:=QQ hn
 have hn100:n≤100:=by omega
 clear hb3 hr3 HC HA2 Hc1 Hc2 hlen hn
 go_wp2_with fail
 go_loopg [7,22] n (fun g s7 s22 wr=> ∃i:Nat,i≤n∧g=n-i∧s22= .int .i64 i∧s7= .int .i64 (V7 s p (L.take i))∧Hid (Ju2 w wr A c L w.heap.size (w.heap.size+1) s p))
 case atStart=>exact⟨0,Nat.zero_le _,rfl,rfl,rfl,HW⟩
 case round=>
  obtain⟨i,hi,rfl,rfl,rfl,HR⟩:=hrel;clear HW
  by_cases hlt:i<n
  ·have hil:i<L.length:=by rw[Hn.out];exact hlt
   obtain⟨g,hg⟩:=Qc7 HR.out.row (by omega);subst hg;obtain⟨x0,x1,x2,x3,x4⟩:=Qz0 HR.out.row hil;obtain⟨o,ho⟩: ∃o,L[i]=o:=⟨_,rfl⟩;have hoq:=HOk.out o (by rw[←ho];exact List.getElem_mem _);rw[ho]at x0 x1 x2 x3 x4;have Ht:=QQ (show V7 s p (L.take (i+1))=V7 s p (L.take i)+ (if O2 s p o=true then o.qty else 0) by
    rw[List.take_succ_eq_append_getElem hil,Xg8,ho];unfold V7;simp only[Qb4];omega)
   have hbd:=Jn4 (s:=s) (p:=p) (fun y hy=>HOk.out y (List.mem_of_mem_take hy): ∀y∈L.take i,_);rw[List.length_take,Hn.out,Nat.min_eq_left (by omega)]at hbd;obtain⟨acc,hacc⟩: ∃acc,V7 s p (L.take i)=acc:=⟨_,rfl⟩;rw[hacc]at Ht hbd⊢;have i1:RowKit.wrap64 (acc+o.qty)=acc+o.qty:=by unfold RowKit.wrap64;omega
   have hbx:Below wr.heap.size wr (wr.alloc (.cells #[.int .i64 o.id,.int .i64 o.side,.int .i64 o.kind,.int .i64 o.price,.int .i64 o.qty] 29)):=(Below.refl _ _).alloc (Nat.le_refl _) _;have hW2:=HR.out.below hbx;have hcall:=Kp2 _ w.heap.size (w.heap.size+1) s p HS.out o hW2.c1 hW2.c2;unfold KQ at hcall;have HC:=QQ hcall;have HBX:=QQ (QJ.new wr 29 #[.int .i64 o.id,.int .i64 o.side,.int .i64 o.kind,.int .i64 o.price,.int .i64 o.qty]);have HW2:=QQ hW2;have hltz:(i:Int)< (n:Int):=by omega
   have hi7:(0:Int)≤(i:Int):=by omega
   clear hcall hW2 hbx ho hacc;go_wp2_with fail
   refine HC.out.mono ?_;rintro e w5 ⟨rfl,hb5⟩;have hbx5:=QJ.keep HBX.out hb5;have z4:w5.cell? ⟨wr.heap.size,4,none⟩=some (.int .i64 o.qty):=by rw[QJ.cell hbx5];rfl
   have HW5:=QQ (HW2.out.below hb5);obtain⟨q,hq⟩: ∃q,O2 s p o=q:=⟨_,rfl⟩;rw[hq]at Ht⊢;clear hbx5 hb5 HC HW2 HBX HR x0 x1 x2 x3 x4 hq
   cases q with
   |true=>
    have Hs:=QQ (show acc+o.qty=V7 s p (L.take (i+1)) by rw[Ht.out,if_pos rfl]);go_wp2_with fail
    go_roundg (n- (i+1))
    case measure=>omega
    case rel=>exact⟨i+1,by omega,rfl,by go_num,by rw[←Hs.out],HW5⟩
   |false=>
    have Hs:=QQ (show acc=V7 s p (L.take (i+1)) by rw[Ht.out,if_neg (by decide)];omega);go_wp2_with fail
    go_roundg (n- (i+1))
    case measure=>omega
    case rel=>exact⟨i+1,by omega,rfl,by go_num,by rw[←Hs.out],HW5⟩
  ·obtain rfl:i=n:=by omega
   have hltz: ¬(i:Int)< (i:Int):=by omega
   have hfull:L.take i=L:=List.take_of_length_le (by rw[Hn.out];exact Nat.le_refl _);rw[hfull];have HO:=QQ HR.out.old;clear HR;go_wp2_with fail
   go_ret;exact⟨rfl,HO.out⟩
end Go.Proofs.YtnlngicnfegjgaaGreat
