/- Contracts and walks that the law's proof needs. -/
import Derived.WalkKit
import Derived.WalkLawsBesides
import Derived.WalkSpells
import Derived.StillTailTactics
import Derived.Deep.QuietTactic
import Derived.BigQuiet
import Derived.Deep.LoopGhost
import Derived.Deep.DeepCutAuto
import Derived.Deep.CutBlock
import Derived.Test.YtbmiieehkkfbgaaGreatDoorZd33
import Derived.Test.YtbmiieehkkfbgaaGreatDoorZd32
import Derived.Test.YtbmiieehkkfbgaaGreatDoorZd27
import Derived.Test.YtbmiieehkkfbgaaGreatDoorZd2
set_option linter.unusedVariables false
set_option maxRecDepth 100000
set_option maxHeartbeats 8000000
namespace Go.Proofs.YtbmiieehkkfbgaaGreatDoor
open Go.RowKit
structure Qq1 (w:World) (own:Nat→Nat→Prop) (A:Option Addr) (n c:Nat) (t:TypeId) (sz:Nat) (xs:List Value):Prop where
 row:QW w A n c t sz xs
 far: ∀g,QZ A=some g→ ∀k,¬own g k
theorem Qq1.step {w w':World} {own own':Nat→Nat→Prop} {A:Option Addr} {n c sz:Nat} {t:TypeId} {xs:List Value} (h:Qq1 w own A n c t sz xs) (ho:VW w w' own own'):Qq1 w' own' A n c t sz xs:=
 ⟨h.row.keeps ho.1 (fun g hg ⟨k,hk⟩=>h.far g hg k hk),fun g hg k hk=>by
  rcases ho.2 g k hk with e|e
  ·exact h.far g hg k e
  ·have:=h.row.lt hg;omega⟩
theorem Qq1.new_ {w w':World} {own:Nat→Nat→Prop} {A:Option Addr} {n c sz:Nat} {t:TypeId} {xs:List Value} (h:QW w' A n c t sz xs) (ho:Jj2 w own) (hg: ∀g,QZ A=some g→w.heap.size≤g):Qq1 w' own A n c t sz xs:=
 ⟨h,fun g hA k hk=>by have:=ho.lt g k hk;have:=hg g hA;omega⟩
theorem Qq1.below {w w':World} {own:Nat→Nat→Prop} {A:Option Addr} {n c sz:Nat} {t:TypeId} {xs:List Value} (h:Qq1 w own A n c t sz xs) (hb:Below w.heap.size w w'):Qq1 w' own A n c t sz xs:=⟨h.row.below hb,h.far⟩
theorem Qq1.nil (w:World) (own:Nat→Nat→Prop) (t:TypeId) (sz:Nat):Qq1 w own none 0 0 t sz []:=⟨World.ownsRow_nil _ _ _ _,fun g hg=>by simp[QZ]at hg⟩
def Xg7 (w w':World) (e tb bb bk im:Nat) (T:Option Addr) (tc:Nat) (Ap:Option Addr) (pc:Nat) (es:List MapEntry) (mc:Nat) (own:Nat→Nat→Prop) (Af:Option Addr) (cf:Nat) (F:List XQ) (B2:Nat) (AL:Option Addr) (n cl:Nat) (l:List QX) (m:VQ) (Y:List QX):Prop:=
 ∃cs Al lc lv bu se G own',UZ w' e cs tb bb bk im T tc Al lc lv bu se Ap pc es mc G own' (fun s k=>Q3 s k Y) m∧VW w w' own own'∧Qq1 w' own' Af F.length cf 145 4 (JQ Qb3 F)∧(QJ w' B2 3 #[.int .i64 1,.int .i64 2]∧ ∀k,¬own' B2 k)∧Qq1 w' own' AL n cl 117 5 (JQ I6 l)
theorem Qm9 {w w':World} {own own':Nat→Nat→Prop} {B2:Nat} {t:TypeId} {us:Array Value} (h:QJ w B2 t us∧ ∀k,¬own B2 k) (ho:VW w w' own own'):QJ w' B2 t us∧ ∀k,¬own' B2 k:=
 ⟨QJ.keeps h.1 ho.1 (fun⟨k,hk⟩=>h.2 k hk),fun k hk=>by
  rcases ho.2 B2 k hk with e|e
  ·exact h.2 k e
  ·have:=QJ.lt h.1;omega⟩
theorem Xg8 {w:World} {g:Nat} {t:TypeId} {a b:Value} (h:QJ w g t #[a,b]):w.cell? ⟨g,0,none⟩=some a∧w.cell? ⟨g,1,none⟩=some b:=⟨by rw[QJ.cell h];rfl,by rw[QJ.cell h];rfl⟩
theorem Xg9 {Y:List QX} {x:QX} (s:Int) (k:Option Int):Q3 s k (Y++ [x])=Q3 s k Y+if x.side=s∧Qa0 x=k then 1*x.qty else 0:=by
 rw[U7]
 unfold Q3
 simp
structure Xm0 (K1 K2 Y:List QX):Prop where
 right:Xk3 Y
 few:Y.length≤100
theorem Jy6 (l:List QX):(Qa9 l).length≤l.length:=List.length_filter_le _ _
theorem Kd6 {K1 K2:List QX} (h:ZW K1 K2) (k:Nat):Xm0 K1 K2 (Qa9 (K1.take k)):=by
 have hc:=h.cnt
 rw[List.length_append]at hc
 refine⟨fun o ho=>J8 h o (List.mem_append_left _ (List.mem_of_mem_take (Qy9 ho))), ?_⟩
 have h1:=Jy6 (K1.take k)
 rw[List.length_take]at h1
 omega
theorem Kd7 {K1 K2:List QX} (h:ZW K1 K2) (k:Nat):Xm0 K1 K2 (Qa9 K1++Qa9 (K2.take k)):=by
 have hc:=h.cnt
 rw[List.length_append]at hc
 refine⟨fun o ho=> ?_, ?_⟩
 ·rcases List.mem_append.1 ho with ho|ho
  ·exact J8 h o (List.mem_append_left _ (Qy9 ho))
  ·exact J8 h o (List.mem_append_right _ (List.mem_of_mem_take (Qy9 ho)))
 ·have h1:=Jy6 (K2.take k)
  have h2:=Jy6 K1;rw[List.length_take]at h1;rw[List.length_append];omega
theorem Xm0.small {K1 K2 Y:List QX} (h:Xm0 K1 K2 Y) {lv:List XJ} {bu se:Int} (hk:Jb9 lv) (hi:Qd3 lv bu se (fun s k=>Q3 s k Y)):Jc5 lv bu se:=by
 have h2:=h.few
 exact(hi.mild hk (fun s k=>by
  have:=Qh2 (s:=s) (k:=k) h.right;omega) (by have:=hi.few hk;omega)).small
theorem QV {w w':World} {p:Addr} {v:Value} (h:w.cell? p=some v) (hb:Below w.heap.size w w'):w'.cell? p=some v:=(hb.cell (World.block_lt_of_cell? _ _ h)).trans h
theorem Jm3 {w:World} {g:Nat} {a b c:Int} (h:QJ w g 86 #[.int .i64 a,.int .i64 b,.int .i64 c]):w.cell? ⟨g,0,none⟩=some (.int .i64 a)∧w.cell? ⟨g,1,none⟩=some (.int .i64 b)∧w.cell? ⟨g,2,none⟩=some (.int .i64 c):=
 ⟨by rw[QJ.cell h];rfl,by rw[QJ.cell h];rfl,by rw[QJ.cell h];rfl⟩
theorem Ql4 {w:World} {e:Nat} {F:Nat→Prop} {m:VQ} (h:YQ w e F m) (hla:1≤m.la∧m.la≤1000000):
  Calls Tryz.prog 95 #[.pointer (some ⟨e,0,none⟩)] w fun ev w'=> ∃A c Fs,ev= .returned (.slice A (List.length Fs) c)∧Qn6 m Fs∧QW w' A Fs.length c 145 4 (JQ Qb3 Fs)∧(∀g,QZ A=some g→w.heap.size≤g)∧ ∃F',YQ w' e F' (Qw3 m)∧KQ w w' F F'∧ ∀g,QZ A=some g→ ¬F' g:=by
 obtain⟨cs,tb,bb,bk,im,T,tc,Al,lc,lv,bu,se,Ap,pc,es,mc,G,own,hM,hF⟩:=h
 have hfit:=Qs3 (m:=m) hM.book.lists hla
 have c7:=hM.cell hM.ec.c7
 have HM:=QQ hM
 have HF:=QQ hF
 have HFit:=QQ hfit
 obtain⟨⟨t0,t1,t2⟩,ht⟩: ∃q,YX m=q:=⟨_,rfl⟩
 have HT:=QQ ht
 have hw2:=fun W hW=>Jm2 hM hla W hW
 rw[ht]at hw2
 unfold Qq4 at hw2
 dsimp only at hw2
 have HW:=QQ hw2
 clear hM hF hfit hw2 ht
 go_enter Tryz.func95,Tryz.ntmps95
 go_upto_region 2 with fail
 go_cut [4] (fun s4 wx=> ∃g,s4= .pointer (some ⟨g,0,none⟩)∧QJ wx g 86 #[.int .i64 t0,.int .i64 t1,.int .i64 t2]∧Below w.heap.size w wx∧w.heap.size≤g)
 case first=>
  have HBd:=QQ HM.out.bands;have hb0:Below w.heap.size w w.drew:=Below.drew (Below.refl _ _);refine XY (fun t=> [10].contains t) (fun W=>W.cell? ⟨e,7,none⟩=some (.pointer (some ⟨bb,0,none⟩))) (by kernel_rfl) (show w.drew.cell? ⟨e,7,none⟩=some (.pointer (some ⟨bb,0,none⟩))from c7) (fun hS0=> ?_);obtain⟨w0,ew0⟩: ∃W,w.drew=W:=⟨_,rfl⟩;rw[ew0]at hb0 hS0⊢;clear ew0;refine tM 0 (.pointer (some ⟨e,0,none⟩)) ?_;refine tM 1 (.pointer (some ⟨e,0,none⟩)) ?_;refine tM 2 (.pointer (some ⟨e,9,none⟩)) ?_;refine tM 3 (.pointer (some ⟨e,0,none⟩)) ?_;refine tM 4 (.pointer (some ⟨e,0,none⟩)) ?_;refine tM 5 (.pointer (some ⟨e,7,none⟩)) ?_;refine tM 6 (.pointer (some ⟨bb,0,none⟩)) ?_;refine Jn2 (i:=7) (j:=9) (by kernel_rfl) ?_ ?_
  ·skip
   refine opM 7 rfl (fun K1 hK1=> ?_);go_simp
   go_at_call 90
   refine(Qr6 bb m.st m.dy m.an m.la _ (QJ.keep HBd.out hb0)).mono ?_;rintro ev wx ⟨rfl,rfl⟩;refine hK1 _ _ (fun _=>hS0) ?_;clear hK1;refine Jn2 (i:=8) (j:=9) (by kernel_rfl) ?_ ?_
   ·skip
    refine opM 8 rfl (fun K2 hK2=> ?_);go_simp
    go_at_call 89
    refine(HW.out _ hb0).mono ?_;rintro ev w2 ⟨rfl,hq2⟩;have hb2:=hb0.trans (hq2.mono hb0.size);have hS2:=QV hS0 hq2;refine hK2 _ _ (fun _=>hS2) ?_;clear hK2;refine oM 9 fun K3 hK3=> ?_
    go_simp;have hq3:Below w2.heap.size w2 (w2.alloc (.cells #[.int .i64 0,.int .i64 0,.int .i64 0] 86)):=(Below.refl _ _).alloc (Nat.le_refl _) _;have hx3:=QJ.new w2 86 #[.int .i64 0,.int .i64 0,.int .i64 0];have hg3:w.heap.size≤w2.heap.size:=hb2.size;obtain⟨g3,eg3⟩: ∃g,w2.heap.size=g:=⟨_,rfl⟩;obtain⟨w3,ew3⟩: ∃W,w2.alloc (.cells #[.int .i64 0,.int .i64 0,.int .i64 0] 86)=W:=⟨_,rfl⟩;rw[ew3]at hq3 hx3⊢;have hb3:=hb2.trans (hq3.mono hb2.size);have hS3:=QV hS2 hq3;rw[eg3]at hx3 hg3⊢;clear ew3 eg3;refine hK3 _ _ (fun _=>hS3) ?_;clear hK3;refine oM 10 fun K4 hK4=> ?_
    refine(if_pos (by rfl)).mpr ?_;refine wp_store_row 86 _ _ rfl (g3) #[.int .i64 t0,.int .i64 t1,.int .i64 t2] rfl rfl 86 #[.int .i64 0,.int .i64 0,.int .i64 0] hx3 (by show(Tryz.prog.info? 86).map (·.size)=some 3;kernel_rfl) rfl (by simp[Value.oneCell']) ?_;have hx4:=QJ.setRow _ _ _ #[.int .i64 t0,.int .i64 t1,.int .i64 t2] _ hx3;have hk4:=QK.setRow w3 (g3) #[.int .i64 t0,.int .i64 t1,.int .i64 t2];obtain⟨w4,ew4⟩: ∃W,w3.setRow (g3) #[.int .i64 t0,.int .i64 t1,.int .i64 t2]=W:=⟨_,rfl⟩;rw[ew4]at hx4 hk4⊢;clear ew4;refine hK4 _ _ (fun e=>absurd e (by decide)) ?_;clear hK4;have hb4:=hb3.trans (hk4.below (fun i e=>e▸hg3) hb3.size);simp only[Act.put];refine VJ (by kernel_rfl) ?_ _;go_wp2_with fail
    go_meet;exact⟨_,rfl,hx4,hb4,hg3⟩
   ·skip
    refine opM 9 rfl (fun K5 hK5=> ?_);go_simp;have hq5:Below w0.heap.size w0 (w0.alloc (.cells #[.int .i64 0,.int .i64 0,.int .i64 0] 86)):=(Below.refl _ _).alloc (Nat.le_refl _) _;have hx5:=QJ.new w0 86 #[.int .i64 0,.int .i64 0,.int .i64 0];have hg5:w.heap.size≤w0.heap.size:=hb0.size;obtain⟨g5,eg5⟩: ∃g,w0.heap.size=g:=⟨_,rfl⟩;obtain⟨w5,ew5⟩: ∃W,w0.alloc (.cells #[.int .i64 0,.int .i64 0,.int .i64 0] 86)=W:=⟨_,rfl⟩;rw[ew5]at hq5 hx5⊢;have hb5:=hb0.trans (hq5.mono hb0.size);have hS5:=QV hS0 hq5;rw[eg5]at hx5 hg5⊢;clear ew5 eg5;refine hK5 _ _ (fun _=>hS5) ?_;clear hK5;refine oM 8 fun K6 hK6=> ?_
    go_simp
    go_at_call 89
    refine(HW.out _ hb5).mono ?_;rintro ev w6 ⟨rfl,hq6⟩;have hb6:=hb5.trans (hq6.mono hb5.size);have hS6:=QV hS5 hq6;refine hK6 _ _ (fun _=>hS6) ?_;clear hK6;have hy5:=QJ.keep hx5 hq6;refine oM 10 fun K7 hK7=> ?_
    refine(if_pos (by rfl)).mpr ?_;refine wp_store_row 86 _ _ rfl (g5) #[.int .i64 t0,.int .i64 t1,.int .i64 t2] rfl rfl 86 #[.int .i64 0,.int .i64 0,.int .i64 0] hy5 (by show(Tryz.prog.info? 86).map (·.size)=some 3;kernel_rfl) rfl (by simp[Value.oneCell']) ?_;have hx7:=QJ.setRow _ _ _ #[.int .i64 t0,.int .i64 t1,.int .i64 t2] _ hy5;have hk7:=QK.setRow w6 (g5) #[.int .i64 t0,.int .i64 t1,.int .i64 t2];obtain⟨w7,ew7⟩: ∃W,w6.setRow (g5) #[.int .i64 t0,.int .i64 t1,.int .i64 t2]=W:=⟨_,rfl⟩;rw[ew7]at hx7 hk7⊢;clear ew7;refine hK7 _ _ (fun e=>absurd e (by decide)) ?_;clear hK7;have hb7:=hb6.trans (hk7.below (fun i e=>e▸hg5) hb6.size);simp only[Act.put];refine VJ (by kernel_rfl) ?_ _;go_wp2_with fail
    go_meet;exact⟨_,rfl,hx7,hb7,hg5⟩
  ·skip
   refine opM 9 rfl (fun K8 hK8=> ?_);go_simp;have hq8:Below w0.heap.size w0 (w0.alloc (.cells #[.int .i64 0,.int .i64 0,.int .i64 0] 86)):=(Below.refl _ _).alloc (Nat.le_refl _) _;have hx8:=QJ.new w0 86 #[.int .i64 0,.int .i64 0,.int .i64 0];have hg8:w.heap.size≤w0.heap.size:=hb0.size;obtain⟨g8,eg8⟩: ∃g,w0.heap.size=g:=⟨_,rfl⟩;obtain⟨w8,ew8⟩: ∃W,w0.alloc (.cells #[.int .i64 0,.int .i64 0,.int .i64 0] 86)=W:=⟨_,rfl⟩;rw[ew8]at hq8 hx8⊢;have hb8:=hb0.trans (hq8.mono hb0.size);have hS8:=QV hS0 hq8;rw[eg8]at hx8 hg8⊢;clear ew8 eg8;refine hK8 _ _ (fun _=>hS8) ?_;clear hK8;refine oM 7 fun K9 hK9=> ?_
   go_simp
   go_at_call 90
   refine(Qr6 bb m.st m.dy m.an m.la _ (QJ.keep HBd.out hb8)).mono ?_;rintro ev wx ⟨rfl,rfl⟩;refine hK9 _ _ (fun _=>hS8) ?_;clear hK9;refine oM 8 fun K10 hK10=> ?_
   go_simp
   go_at_call 89
   refine(HW.out _ hb8).mono ?_;rintro ev w10 ⟨rfl,hq10⟩;have hb10:=hb8.trans (hq10.mono hb8.size);have hS10:=QV hS8 hq10;refine hK10 _ _ (fun _=>hS10) ?_;clear hK10;have hy8:=QJ.keep hx8 hq10;refine oM 10 fun K11 hK11=> ?_
   refine(if_pos (by rfl)).mpr ?_;refine wp_store_row 86 _ _ rfl (g8) #[.int .i64 t0,.int .i64 t1,.int .i64 t2] rfl rfl 86 #[.int .i64 0,.int .i64 0,.int .i64 0] hy8 (by show(Tryz.prog.info? 86).map (·.size)=some 3;kernel_rfl) rfl (by simp[Value.oneCell']) ?_;have hx11:=QJ.setRow _ _ _ #[.int .i64 t0,.int .i64 t1,.int .i64 t2] _ hy8;have hk11:=QK.setRow w10 (g8) #[.int .i64 t0,.int .i64 t1,.int .i64 t2];obtain⟨w11,ew11⟩: ∃W,w10.setRow (g8) #[.int .i64 t0,.int .i64 t1,.int .i64 t2]=W:=⟨_,rfl⟩;rw[ew11]at hx11 hk11⊢;clear ew11;refine hK11 _ _ (fun e=>absurd e (by decide)) ?_;clear hK11;have hb11:=hb10.trans (hk11.below (fun i e=>e▸hg8) hb10.size);simp only[Act.put];refine VJ (by kernel_rfl) ?_ _;go_wp2_with fail
   go_meet;exact⟨_,rfl,hx11,hb11,hg8⟩
 case rest=>
  obtain⟨gq,rfl,hq,hb,hg⟩:=hcut;have HMc:=QQ (HM.out.below hb);have HQ:=QQ hq;have HB:=QQ hb;have HG:=QQ hg;clear hq hb hg c7 HW;obtain⟨K1,hK1⟩: ∃L,(if 0<t1 then VY m.L1 t1 else m.L1)=L:=⟨_,rfl⟩;obtain⟨K2,hK2⟩: ∃L,(if 0<t1 then VY m.L2 t1 else m.L2)=L:=⟨_,rfl⟩;have HK:=QQ (And.intro hK1 hK2);have hu1:Xc1 m m.L1=Qa9 K1:=by unfold Xc1;rw[HT.out,←hK1];rfl
  have hu2:Xc1 m m.L2=Qa9 K2:=by unfold Xc1;rw[HT.out,←hK2];rfl
  have HU0:=QQ (And.intro hu1 hu2);clear hu1 hu2;obtain⟨q0,q1,q2⟩:=Jm3 HQ.out;go_upto_if 22 with fail
  go_cut [3] (fun s3 wx=> ∃Af cf Fs,s3= .slice Af (List.length Fs) cf∧Qn6 m Fs∧(∀g,QZ Af=some g→w.heap.size≤g)∧ ∃G' own',UZ wx e cs tb bb bk im T tc Al lc lv bu se Ap pc es mc G' own' (fun s k=>Q3 s k (Qa4 m)) {m with L1:=K1,L2:=K2,an:=Qe2 m m.an,la:=Qe2 m m.la}∧VW w wx own own'∧Qq1 wx own' Af Fs.length cf 145 4 (JQ Qb3 Fs))
  case first=>
   by_cases h1:0<t1
   ·have d1:=J0 h1
    rw[if_pos h1]at hK1 hK2;subst hK1 hK2;have hf:=HFit.out (by rw[HT.out];exact h1);rw[HT.out]at hf;dsimp only at hf;have hcf:=Jx7 Jp8 wc.drew bk G m.L1 m.L2 (HMc.out.below (Below.drew (Below.refl _ wc))).book t0 t1 (by omega) hf.1 hf.2.1;have HCf:=QQ hcf;have HFt:=QQ hf;have H1:=QQ h1;have c8:=HMc.out.cell HMc.out.ec.c8;clear hcf hf;go_wp2_with fail
    refine XY (fun t=> [].contains t) (fun W=>W.cell? ⟨e,8,none⟩=some (.pointer (some ⟨bk,0,none⟩))∧W.cell? ⟨gq,0,none⟩=some (.int .i64 t0)∧W.cell? ⟨gq,1,none⟩=some (.int .i64 t1)) (by kernel_rfl) ⟨c8,q0,q1⟩ (fun hS0=> ?_);refine tM 0 (.pointer (some ⟨e,0,none⟩)) ?_;refine tM 1 (.pointer (some ⟨e,0,none⟩)) ?_;refine tM 2 (.pointer (some ⟨e,8,none⟩)) ?_;refine tM 3 (.pointer (some ⟨bk,0,none⟩)) ?_;refine tM 4 (.pointer (some ⟨gq,0,none⟩)) ?_;refine tM 5 (.int .i64 t0) ?_;refine tM 6 (.pointer (some ⟨gq,1,none⟩)) ?_;refine tM 7 (.int .i64 t1) ?_;refine oM 8 fun K9 hK9=> ?_
    go_simp;refine HCf.out.mono ?_;rintro ev w3 ⟨Fs,Af,cf,G3,rfl,hok,hmax,hcr⟩;obtain⟨hM3,ho3⟩:=(HMc.out.below (Below.drew (Below.refl _ wc))).bookStep hcr.book hcr.step;have hno: ¬ ∃k,own gq k:=fun⟨k,hk⟩=>by have:=HM.out.ok.lt gq k hk;have:=HG.out;omega
    have hq3:=QJ.keeps (QJ.drew HQ.out) ho3.1 hno;have hrow3:Qq1 w3 (Qs2 wc.drew own G3 4) Af (List.length Fs) cf 145 4 (JQ Qb3 Fs):=⟨hcr.row,fun g hg k hk=>by
     have h1:=hcr.fpA g hg;rcases hk with h2|h2
     ·have h3:=HMc.out.ok.lt g k h2
      have h4:wc.heap.size≤g:=h1.2;omega
     ·exact h1.1 h2.2.1⟩
    have hnew: ∀g,QZ Af=some g→w.heap.size≤g:=fun g hg=>Nat.le_trans HB.out.size (hcr.fpA g hg).2
    have hbd:=hM3.bands;have hfix:=Zf2 bb m.st m.dy m.an m.la t0 w3.drew (QJ.drew hbd);have hr1:J4 t0 1=true:=by rw[V3];have:=HFt.out;omega
    rw[hr1]at hfix;simp only[if_true]at hfix;have HFx:=QQ hfix;have hc83:=hM3.cell hM3.ec.c8;have HM3:=QQ hM3;have HO3:=QQ ho3;have HR3:=QQ hrow3;have HNew:=QQ hnew;have HOk:=QQ (And.intro hok hmax);have c7:=hM3.cell hM3.ec.c7;clear q0 q1 q2;obtain⟨q0,q1,q2⟩:=Jm3 hq3;clear hM3 ho3 hq3 hrow3 hnew hbd hfix hr1 hok hmax hcr hno c8 HCf;refine hK9 _ _ (fun _=>⟨hc83,q0,q1⟩) ?_;have hS3:w3.cell? ⟨e,8,none⟩=some (.pointer (some ⟨bk,0,none⟩))∧w3.cell? ⟨gq,0,none⟩=some (.int .i64 t0)∧w3.cell? ⟨gq,1,none⟩=some (.int .i64 t1):=⟨hc83,q0,q1⟩;clear hK9 hS0 hc83;refine tM 9 (.tuple #[.slice Af (List.length Fs) cf,.nilIface]) ?_;refine tM 10 (.slice Af (List.length Fs) cf) ?_;refine tM 11 (.nilIface) ?_;refine tM 12 (.slice Af (List.length Fs) cf) ?_;refine VJ (by kernel_rfl) ?_ _;clear hS3;go_wp2_with fail
    go_still_tail 6,(by kernel_rfl)
    change wpList _ _ _ _ _ w3.drew;go_wp2_with fail
    refine HFx.out.mono ?_;rintro ev w4 ⟨rfl,hb4,hk4⟩;have hMd:=HM3.out.below (Below.drew (Below.refl _ w3));obtain⟨hM4,ho4⟩:=UZ.bandsTo hMd hb4 hk4;clear q0 q1 q2 c7;go_wp2_with fail
    go_meet;have ep: ∀p,Qe2 m p=t0:=fun p=>by unfold Qe2;rw[HT.out,if_pos (by have:=H1.out;show 0<t1;omega)]
    have od:=(HR3.out.below (Below.drew (Below.refl _ w3)));refine⟨Af,cf,Fs,rfl, ?_,HNew.out,_,_,by rw[ep,ep];exact hM4,((((VW.of_below HB.out).trans (VW.of_below (Below.drew (Below.refl _ wc)))).trans HO3.out).trans (VW.of_below (Below.drew (Below.refl _ w3)))).trans ho4,od.step ho4⟩;unfold Qn6;rw[HT.out,if_pos (by have:=H1.out;show 0<t1;omega)];exact HOk.out
   ·have d1:=OY h1
    rw[if_neg h1]at hK1 hK2;subst hK1 hK2;have H1:=QQ h1;go_wp2_with fail
    go_meet;have ep: ∀p,Qe2 m p=p:=fun p=>by unfold Qe2;rw[HT.out,if_neg (by have:=H1.out;show¬0<t1;omega)]
    refine⟨none,0,[],rfl, ?_,fun g hg=>by simp[QZ]at hg,_,_,by rw[ep,ep];exact HMc.out,VW.of_below HB.out,Qq1.nil _ _ _ _⟩;unfold Qn6;rw[HT.out,if_neg (by have:=H1.out;show¬0<t1;omega)]
  case rest=>
   obtain⟨Af,cf,Fs,rfl,hunc,hnew,G5,own5,hM5,ho5,hrow5⟩:=hcut;have HUnc:=QQ hunc;have HNew:=QQ hnew;have HO5:=QQ ho5;have HR5:=QQ hrow5;have HLs:Hid (ZW K1 K2):=QQ hM5.book.lists;obtain⟨hM6,ho6⟩:=hM5.indNil;obtain⟨c9,c10,c11⟩:=hM5.ind.cells;have f9:=hM5.frozen 9;have f10:=hM5.frozen 10;have f11:=hM5.frozen 11;have HM6:=QQ hM6;have HO6:=QQ ho6;clear q0 q1 q2 hunc hnew ho5 hrow5 hM5 hM6 ho6 HMc HQ HB HG HFit hK1 hK2;go_upto_region 7 with fail
   obtain⟨w6,ew6⟩: ∃W,(((wc.setCell ⟨e,9,none⟩ (.slice none 0 0)).setCell ⟨e,10,none⟩ (.int .i64 0)).setCell ⟨e,11,none⟩ (.int .i64 0))=W:=⟨_,rfl⟩;rw[ew6]at HM6 HO6⊢;clear ew6 c9 c10 c11 f9 f10 f11;have hb7:Below w6.heap.size w6 (w6.alloc (.cells #[.int .i64 1,.int .i64 2] 3)):=(Below.refl _ w6).alloc (Nat.le_refl _) _;have hB2:=QJ.new w6 3 #[.int .i64 1,.int .i64 2];obtain⟨w7,ew7⟩: ∃W,w6.alloc (.cells #[.int .i64 1,.int .i64 2] 3)=W:=⟨_,rfl⟩;obtain⟨B2,eB2⟩: ∃g,w6.heap.size=g:=⟨_,rfl⟩;rw[ew7]at hb7 hB2;have HU7:Hid (Xg7 w w7 e tb bb bk im T tc Ap pc es mc own Af cf Fs B2 none 0 0 [] {m with L1:=K1,L2:=K2,an:=Qe2 m m.an,la:=Qe2 m m.la} []):=
    QQ ⟨_,_,_,_,_,_,_,_,HM6.out.below hb7,(HO5.out.trans HO6.out).trans (VW.of_below hb7),(HR5.out.step HO6.out).below hb7,⟨eB2▸hB2,fun k hk=>by have:=HM6.out.ok.lt _ k hk;omega⟩,Qq1.nil _ _ _ _⟩
   clear hb7 hB2;go_wp2_with fail
   try rw[ew7]
   try rw[eB2]
   clear ew7 eB2 HM6 HO6 HO5 HR5
   go_loopg [48] 2 (fun gg s48 wr=> ∃(j:Nat) (X1 X2 Y:List QX),j≤2∧gg=2-j∧s48= .int .i64 j∧(0=j∧K1=X1∧K2=X2∧ []=Y∨1=j∧Qa9 K1=X1∧K2=X2∧Qa9 K1=Y∨2=j∧Qa9 K1=X1∧Qa9 K2=X2∧Qa9 K1++Qa9 K2=Y)∧Hid (Xg7 w wr e tb bb bk im T tc Ap pc es mc own Af cf Fs B2 none 0 0 [] {m with L1:=X1,L2:=X2,an:=Qe2 m m.an,la:=Qe2 m m.la} Y))
   case atStart=>exact⟨0,K1,K2,[],by omega,rfl,rfl,.inl ⟨rfl,rfl,rfl,rfl⟩,HU7⟩
   case round=>
    obtain⟨j,X1,X2,Y,hj,rfl,rfl,hcase,HU⟩:=hrel;clear HU7;rcases hcase with⟨hj0,hx1,hx2,hy⟩|⟨hj0,hx1,hx2,hy⟩|⟨hj0,hx1,hx2,hy⟩
    ·subst hj0 hx1 hx2 hy
     obtain⟨cs1,Al1,lc1,lv1,bu1,se1,G1,own1,hM1,ho1,hr1,hB1,hl1⟩:=HU.out;have hside:=Qb9 wr bk G1 _ _ hM1.book 1 ZQ;rw[show JY 1 K1 K2=K1 from rfl]at hside;have c8:=hM1.cell hM1.ec.c8;obtain⟨b0,b1⟩:=Xg8 hB1.1;have HSd:=QQ hside;have HM1:=QQ hM1;have HO1:=QQ ho1;have HR1:=QQ hr1;have HB1:=QQ hB1;obtain⟨n,hn⟩: ∃n,K1.length=n:=⟨_,rfl⟩;rw[hn]at HSd;have HN:=QQ hn;have hn100:n≤100:=by
      have h1:=HLs.out.cnt;rw[List.length_append]at h1;omega
     clear hM1 ho1 hr1 hB1 hl1 HU hside hn;go_wp2_with fail
     refine HSd.out.mono ?_;rintro ev w8 ⟨hb8,AL,cl,rfl,hrowl,hnewl⟩;have HU8:Hid (Xg7 w w8 e tb bb bk im T tc Ap pc es mc own Af cf Fs B2 AL n cl K1 {m with L1:=K1,L2:=K2,an:=Qe2 m m.an,la:=Qe2 m m.la} []):=
      QQ ⟨_,_,_,_,_,_,_,_,HM1.out.below hb8,HO1.out.trans (VW.of_below hb8),HR1.out.below hb8,⟨QJ.keep HB1.out.1 hb8,HB1.out.2⟩,Qq1.new_ hrowl HM1.out.ok hnewl⟩
     clear b0 b1 c8 hb8 hrowl hnewl HM1 HO1 HR1 HB1 HSd;go_wp2_with fail
     go_loopg [63] n (fun gg s63 wr=> ∃k:Nat,k≤n∧gg=n-k∧s63= .int .i64 k∧Hid (Xg7 w wr e tb bb bk im T tc Ap pc es mc own Af cf Fs B2 AL n cl K1 {m with L1:=(Qz0 K1 k),L2:=K2,an:=Qe2 m m.an,la:=Qe2 m m.la} (Qa9 (K1.take k))))
     case atStart=>exact⟨0,Nat.zero_le _,rfl,rfl,QQ (by rw[Xg5,List.take_zero];exact HU8.out)⟩
     case round=>
      obtain⟨k,hk,rfl,rfl,HI⟩:=hrel;obtain⟨cs2,Al2,lc2,lv2,bu2,se2,G2,own2,hM2,ho2,hr2,hB2,hl2⟩:=HI.out;have HM2:=QQ hM2;have HO2:=QQ ho2;have HR2:=QQ hr2;have HB2:=QQ hB2;have HL2:=QQ hl2;clear hM2 ho2 hr2 hB2 hl2 HI HU8
      by_cases hlt:k<n
      ·have hkl:k<K1.length:=by rw[HN.out];exact hlt
       obtain⟨gl,hgl⟩:=Qc1 HL2.out.row (by omega);subst hgl;obtain⟨y0,y1,y2,y3,y4⟩:=Qs7 HL2.out.row hkl;have hxm:K1[k]∈K1:=List.getElem_mem hkl;have hmy:=fun h=>Xv3 (k:=k) hkl h
       have hmn:=fun h=>Ki8 (k:=k) hkl h (Qc2 HLs.out).1
       have htk:K1.take (k+1)=K1.take k++ [K1[k]]:=List.take_succ_eq_append_getElem hkl;obtain⟨x,hx⟩: ∃x,K1[k]=x:=⟨_,rfl⟩;rw[hx]at y0 y1 y2 y3 y4 hxm hmy hmn htk;have HXm:=QQ hxm;have HMy:=QQ hmy;have HMn:=QQ hmn;have HTk:=QQ htk;have hltz:(k:Int)< (n:Int):=by omega
       have hk7:(0:Int)≤(k:Int):=by omega
       have hbx:Below wr.heap.size wr (wr.alloc (.cells #[.int .i64 x.id,.int .i64 x.side,.int .i64 x.kind,.int .i64 x.price,.int .i64 x.qty] 117)):=(Below.refl _ wr).alloc (Nat.le_refl _) _;have hZ:=QJ.new wr 117 #[.int .i64 x.id,.int .i64 x.side,.int .i64 x.kind,.int .i64 x.price,.int .i64 x.qty];have hMz:=HM2.out.below hbx;obtain⟨wz,ewz⟩: ∃W,wr.alloc (.cells #[.int .i64 x.id,.int .i64 x.side,.int .i64 x.kind,.int .i64 x.price,.int .i64 x.qty] 117)=W:=⟨_,rfl⟩;obtain⟨Z,eZ⟩: ∃g,wr.heap.size=g:=⟨_,rfl⟩;rw[ewz]at hbx hZ hMz;have hZo: ∀k,¬own2 Z k:=fun k hk=>by have:=HM2.out.ok.lt Z k hk;omega
       have HZo:=QQ hZo;have HBx:=QQ hbx;have HMz:=QQ hMz;have hZ':=hZ;rw[eZ]at hZ';have HZ:=QQ hZ';clear hxm hmy hmn htk hbx hZ hZ' hMz hx hZo;go_upto_region 14 with fail
       try rw[ewz]
       try rw[eZ]
       clear ewz eZ y0 y1 y2 y3 y4;obtain⟨z0,z1,z2,z3,z4⟩:=Xc0 HZ.out;have hright:Qb0 x:=J8 HLs.out x (List.mem_append_left _ HXm.out)
       by_cases hkd:x.kind=1
       ·have d1:=Z2 hkd
        have hadd:=Xj8 wz.drew e 126 cs2 9 Al2 lc2 lv2 bu2 se2 (HMz.out.below (Below.drew (Below.refl _ wz))).ind ((Kd6 HLs.out k).small HM2.out.ind.ok HM2.out.is) x;unfold KJ at hadd;have HAdd:=QQ hadd;have HKd:=QQ hkd;have HRight:=QQ hright;clear hadd hkd hright;go_wp2_with fail
        go_still_tail 4,(by kernel_rfl)
        change wpList _ _ _ _ _ wz.drew;go_wp2_with fail
        refine HAdd.out.mono ?_;rintro ev w9 ⟨rfl,lv',bu',se',hit,htd⟩;obtain⟨-,hchg⟩:=Jy2 HRight.out htd;have his:=(HMz.out.is).chg HRight.out.1 hchg;obtain⟨cs3,Al3,lc3,own3,hM3,ho3⟩:=(HMz.out.below (Below.drew (Below.refl _ wz))).indTo hit his;have HM3:=QQ hM3;have HO3:=QQ ho3;clear hM3 ho3 hit htd hchg his z0 z1 z2 z3 z4 HAdd;go_wp2_with fail
        go_roundg (n- (k+1))
        case measure=>omega
        case rel=>
         have hbz:Below wr.heap.size wr wz.drew:=Below.drew HBx.out;exact⟨k+1,by omega,rfl,by go_num,QQ ⟨_,_,_,_,_,_,_,_,UZ.lots (by rw[HMy.out HKd.out];exact HM3.out) (fun s q hs=>by rw[HTk.out,Qq0 HKd.out,Xg9]),(HO2.out.trans (VW.of_below hbz)).trans HO3.out,(HR2.out.below hbz).step HO3.out,Qm9 ⟨QJ.keep HB2.out.1 hbz,HB2.out.2⟩ HO3.out,(HL2.out.below hbz).step HO3.out⟩⟩
       ·have d1:=YW hkd
        obtain⟨hm1,hm2⟩:=HMn.out hkd;have hcan:=Qg1 wz.drew bk G2 _ _ (HMz.out.below (Below.drew (Below.refl _ wz))).book x.id;have hget:Qa8 ((Qz0 K1 k)++K2) x.id=some x:=Qy7 HMz.out.book.lists.ids (List.mem_append_left _ hm2);have hoth:O0 K2 x.id=K2:=Xf5 (fun o ho=>fun e=>(Qc2 HLs.out).2.2 x HXm.out o ho e.symm);have HCan:=QQ hcan;have HGet:=QQ hget;have HOth:=QQ hoth;have HKd:=QQ hkd;have HM12:=QQ (And.intro hm1 hm2);have c8:=HMz.out.cell HMz.out.ec.c8;clear hcan hget hoth hkd hm1 hm2 hright;go_wp2_with fail
        refine XY (fun t=> [].contains t) (fun W=>W.cell? ⟨e,8,none⟩=some (.pointer (some ⟨bk,0,none⟩))∧W.cell? ⟨Z,0,none⟩=some (.int .i64 x.id)) (by kernel_rfl) ⟨c8,z0⟩ (fun hS0=> ?_);refine tM 0 (.pointer (some ⟨e,0,none⟩)) ?_;refine tM 1 (.pointer (some ⟨e,0,none⟩)) ?_;refine tM 2 (.pointer (some ⟨e,8,none⟩)) ?_;refine tM 3 (.pointer (some ⟨bk,0,none⟩)) ?_;refine tM 4 (.pointer (some ⟨Z,0,none⟩)) ?_;refine tM 5 (.int .i64 x.id) ?_;refine oM 6 fun K9 hK9=> ?_
        go_simp;refine HCan.out.mono ?_;rintro ev w9 (⟨hno,-,-⟩|⟨o,ho,rfl,hto⟩)
        ·exact absurd hno (by rw[HGet.out];simp)
        ·rw[HGet.out]at ho
         cases ho;obtain⟨G3,own3,hM3,ho3⟩:=(HMz.out.below (Below.drew (Below.refl _ wz))).bookTo hto;have hZ3:=QJ.keeps (QJ.drew HZ.out) ho3.1 (fun⟨k,hk⟩=>HZo.out k hk);have hS3:w9.cell? ⟨e,8,none⟩=some (.pointer (some ⟨bk,0,none⟩))∧w9.cell? ⟨Z,0,none⟩=some (.int .i64 x.id):=⟨hM3.cell hM3.ec.c8,(Xc0 hZ3).1⟩;rw[K0];unfold KJ;refine hK9 _ _ (fun _=>hS3) ?_;have HM3:=QQ hM3;have HO3:=QQ ho3;clear hK9 hS0 hM3 ho3 hto hZ3 z0 z1 z2 z3 z4 c8 HCan;refine tM 7 (.tuple #[.agg #[.int .i64 x.id,.int .i64 x.side,.int .i64 x.kind,.int .i64 x.price,.int .i64 x.qty],.nilIface]) ?_;refine tM 8 (.agg #[.int .i64 x.id,.int .i64 x.side,.int .i64 x.kind,.int .i64 x.price,.int .i64 x.qty]) ?_;refine tM 9 (.nilIface) ?_;refine VJ (by kernel_rfl) ?_ _;clear hS3;go_wp2_with fail
         go_roundg (n- (k+1))
         case measure=>omega
         case rel=>
          have hbz:Below wr.heap.size wr wz.drew:=Below.drew HBx.out;have hmk:=HM3.out;rw[HM12.out.1,HOth.out]at hmk;exact⟨k+1,by omega,rfl,by go_num,QQ ⟨_,_,_,_,_,_,_,_,by rw[HTk.out,Qu9 HKd.out];exact hmk,(HO2.out.trans (VW.of_below hbz)).trans HO3.out,(HR2.out.below hbz).step HO3.out,Qm9 ⟨QJ.keep HB2.out.1 hbz,HB2.out.2⟩ HO3.out,(HL2.out.below hbz).step HO3.out⟩⟩
      ·obtain rfl:k=n:=by omega
       have hltz: ¬(k:Int)< (k:Int):=by omega
       have hmid:Qz0 K1 k=Qa9 K1:=Xv2 (by rw[HN.out];exact Nat.le_refl _);have htk:K1.take k=K1:=List.take_of_length_le (by rw[HN.out];exact Nat.le_refl _);have HMid:=QQ hmid;have HTk:=QQ htk;clear hmid htk;go_wp2_with fail
       go_roundg (2- (0+1))
       case measure=>omega
       case rel=>
        have hmk:=HM2.out;rw[HMid.out,HTk.out]at hmk;exact⟨0+1,_,_,_,by omega,rfl,rfl,.inr (.inl ⟨rfl,rfl,rfl,rfl⟩),QQ ⟨_,_,_,_,_,_,_,_,hmk,HO2.out,HR2.out,HB2.out,Qq1.nil _ _ _ _⟩⟩
    ·subst hj0 hx1 hx2 hy
     obtain⟨cs1,Al1,lc1,lv1,bu1,se1,G1,own1,hM1,ho1,hr1,hB1,hl1⟩:=HU.out;have hside:=Qb9 wr bk G1 _ _ hM1.book 2 ZJ;rw[show JY 2 (Qa9 K1) K2=K2 from rfl]at hside;have c8:=hM1.cell hM1.ec.c8;obtain⟨b0,b1⟩:=Xg8 hB1.1;have HSd:=QQ hside;have HM1:=QQ hM1;have HO1:=QQ ho1;have HR1:=QQ hr1;have HB1:=QQ hB1;obtain⟨n,hn⟩: ∃n,K2.length=n:=⟨_,rfl⟩;rw[hn]at HSd;have HN:=QQ hn;have hn100:n≤100:=by
      have h1:=HLs.out.cnt;rw[List.length_append]at h1;omega
     clear hM1 ho1 hr1 hB1 hl1 HU hside hn;go_wp2_with fail
     refine HSd.out.mono ?_;rintro ev w8 ⟨hb8,AL,cl,rfl,hrowl,hnewl⟩;have HU8:Hid (Xg7 w w8 e tb bb bk im T tc Ap pc es mc own Af cf Fs B2 AL n cl K2 {m with L1:=(Qa9 K1),L2:=K2,an:=Qe2 m m.an,la:=Qe2 m m.la} (Qa9 K1)):=
      QQ ⟨_,_,_,_,_,_,_,_,HM1.out.below hb8,HO1.out.trans (VW.of_below hb8),HR1.out.below hb8,⟨QJ.keep HB1.out.1 hb8,HB1.out.2⟩,Qq1.new_ hrowl HM1.out.ok hnewl⟩
     clear b0 b1 c8 hb8 hrowl hnewl HM1 HO1 HR1 HB1 HSd;go_wp2_with fail
     go_loopg [63] n (fun gg s63 wr=> ∃k:Nat,k≤n∧gg=n-k∧s63= .int .i64 k∧Hid (Xg7 w wr e tb bb bk im T tc Ap pc es mc own Af cf Fs B2 AL n cl K2 {m with L1:=(Qa9 K1),L2:=(Qz0 K2 k),an:=Qe2 m m.an,la:=Qe2 m m.la} (Qa9 K1++Qa9 (K2.take k))))
     case atStart=>exact⟨0,Nat.zero_le _,rfl,rfl,QQ (by rw[Xg5,List.take_zero,show Qa9 ([]:List QX)= []from rfl,List.append_nil];exact HU8.out)⟩
     case round=>
      obtain⟨k,hk,rfl,rfl,HI⟩:=hrel;obtain⟨cs2,Al2,lc2,lv2,bu2,se2,G2,own2,hM2,ho2,hr2,hB2,hl2⟩:=HI.out;have HM2:=QQ hM2;have HO2:=QQ ho2;have HR2:=QQ hr2;have HB2:=QQ hB2;have HL2:=QQ hl2;clear hM2 ho2 hr2 hB2 hl2 HI HU8
      by_cases hlt:k<n
      ·have hkl:k<K2.length:=by rw[HN.out];exact hlt
       obtain⟨gl,hgl⟩:=Qc1 HL2.out.row (by omega);subst hgl;obtain⟨y0,y1,y2,y3,y4⟩:=Qs7 HL2.out.row hkl;have hxm:K2[k]∈K2:=List.getElem_mem hkl;have hmy:=fun h=>Xv3 (k:=k) hkl h
       have hmn:=fun h=>Ki8 (k:=k) hkl h (Qc2 HLs.out).2.1
       have htk:K2.take (k+1)=K2.take k++ [K2[k]]:=List.take_succ_eq_append_getElem hkl;obtain⟨x,hx⟩: ∃x,K2[k]=x:=⟨_,rfl⟩;rw[hx]at y0 y1 y2 y3 y4 hxm hmy hmn htk;have HXm:=QQ hxm;have HMy:=QQ hmy;have HMn:=QQ hmn;have HTk:=QQ htk;have hltz:(k:Int)< (n:Int):=by omega
       have hk7:(0:Int)≤(k:Int):=by omega
       have hbx:Below wr.heap.size wr (wr.alloc (.cells #[.int .i64 x.id,.int .i64 x.side,.int .i64 x.kind,.int .i64 x.price,.int .i64 x.qty] 117)):=(Below.refl _ wr).alloc (Nat.le_refl _) _;have hZ:=QJ.new wr 117 #[.int .i64 x.id,.int .i64 x.side,.int .i64 x.kind,.int .i64 x.price,.int .i64 x.qty];have hMz:=HM2.out.below hbx;obtain⟨wz,ewz⟩: ∃W,wr.alloc (.cells #[.int .i64 x.id,.int .i64 x.side,.int .i64 x.kind,.int .i64 x.price,.int .i64 x.qty] 117)=W:=⟨_,rfl⟩;obtain⟨Z,eZ⟩: ∃g,wr.heap.size=g:=⟨_,rfl⟩;rw[ewz]at hbx hZ hMz;have hZo: ∀k,¬own2 Z k:=fun k hk=>by have:=HM2.out.ok.lt Z k hk;omega
       have HZo:=QQ hZo;have HBx:=QQ hbx;have HMz:=QQ hMz;have hZ':=hZ;rw[eZ]at hZ';have HZ:=QQ hZ';clear hxm hmy hmn htk hbx hZ hZ' hMz hx hZo;go_upto_region 14 with fail
       try rw[ewz]
       try rw[eZ]
       clear ewz eZ y0 y1 y2 y3 y4;obtain⟨z0,z1,z2,z3,z4⟩:=Xc0 HZ.out;have hright:Qb0 x:=J8 HLs.out x (List.mem_append_right _ HXm.out)
       by_cases hkd:x.kind=1
       ·have d1:=Z2 hkd
        have hadd:=Xj8 wz.drew e 126 cs2 9 Al2 lc2 lv2 bu2 se2 (HMz.out.below (Below.drew (Below.refl _ wz))).ind ((Kd7 HLs.out k).small HM2.out.ind.ok HM2.out.is) x;unfold KJ at hadd;have HAdd:=QQ hadd;have HKd:=QQ hkd;have HRight:=QQ hright;clear hadd hkd hright;go_wp2_with fail
        go_still_tail 4,(by kernel_rfl)
        change wpList _ _ _ _ _ wz.drew;go_wp2_with fail
        refine HAdd.out.mono ?_;rintro ev w9 ⟨rfl,lv',bu',se',hit,htd⟩;obtain⟨-,hchg⟩:=Jy2 HRight.out htd;have his:=(HMz.out.is).chg HRight.out.1 hchg;obtain⟨cs3,Al3,lc3,own3,hM3,ho3⟩:=(HMz.out.below (Below.drew (Below.refl _ wz))).indTo hit his;have HM3:=QQ hM3;have HO3:=QQ ho3;clear hM3 ho3 hit htd hchg his z0 z1 z2 z3 z4 HAdd;go_wp2_with fail
        go_roundg (n- (k+1))
        case measure=>omega
        case rel=>
         have hbz:Below wr.heap.size wr wz.drew:=Below.drew HBx.out;exact⟨k+1,by omega,rfl,by go_num,QQ ⟨_,_,_,_,_,_,_,_,UZ.lots (by rw[HMy.out HKd.out];exact HM3.out) (fun s q hs=>by rw[HTk.out,Qq0 HKd.out,←List.append_assoc,Xg9]),(HO2.out.trans (VW.of_below hbz)).trans HO3.out,(HR2.out.below hbz).step HO3.out,Qm9 ⟨QJ.keep HB2.out.1 hbz,HB2.out.2⟩ HO3.out,(HL2.out.below hbz).step HO3.out⟩⟩
       ·have d1:=YW hkd
        obtain⟨hm1,hm2⟩:=HMn.out hkd;have hcan:=Qg1 wz.drew bk G2 _ _ (HMz.out.below (Below.drew (Below.refl _ wz))).book x.id;have hget:Qa8 ((Qa9 K1)++(Qz0 K2 k)) x.id=some x:=Qy7 HMz.out.book.lists.ids (List.mem_append_right _ hm2);have hoth:O0 (Qa9 K1) x.id=(Qa9 K1):=Xf5 (fun o ho=>fun e=>(Qc2 HLs.out).2.2 o (Qy9 ho) x HXm.out e);have HCan:=QQ hcan;have HGet:=QQ hget;have HOth:=QQ hoth;have HKd:=QQ hkd;have HM12:=QQ (And.intro hm1 hm2);have c8:=HMz.out.cell HMz.out.ec.c8;clear hcan hget hoth hkd hm1 hm2 hright;go_wp2_with fail
        refine XY (fun t=> [].contains t) (fun W=>W.cell? ⟨e,8,none⟩=some (.pointer (some ⟨bk,0,none⟩))∧W.cell? ⟨Z,0,none⟩=some (.int .i64 x.id)) (by kernel_rfl) ⟨c8,z0⟩ (fun hS0=> ?_);refine tM 0 (.pointer (some ⟨e,0,none⟩)) ?_;refine tM 1 (.pointer (some ⟨e,0,none⟩)) ?_;refine tM 2 (.pointer (some ⟨e,8,none⟩)) ?_;refine tM 3 (.pointer (some ⟨bk,0,none⟩)) ?_;refine tM 4 (.pointer (some ⟨Z,0,none⟩)) ?_;refine tM 5 (.int .i64 x.id) ?_;refine oM 6 fun K9 hK9=> ?_
        go_simp;refine HCan.out.mono ?_;rintro ev w9 (⟨hno,-,-⟩|⟨o,ho,rfl,hto⟩)
        ·exact absurd hno (by rw[HGet.out];simp)
        ·rw[HGet.out]at ho
         cases ho;obtain⟨G3,own3,hM3,ho3⟩:=(HMz.out.below (Below.drew (Below.refl _ wz))).bookTo hto;have hZ3:=QJ.keeps (QJ.drew HZ.out) ho3.1 (fun⟨k,hk⟩=>HZo.out k hk);have hS3:w9.cell? ⟨e,8,none⟩=some (.pointer (some ⟨bk,0,none⟩))∧w9.cell? ⟨Z,0,none⟩=some (.int .i64 x.id):=⟨hM3.cell hM3.ec.c8,(Xc0 hZ3).1⟩;rw[K0];unfold KJ;refine hK9 _ _ (fun _=>hS3) ?_;have HM3:=QQ hM3;have HO3:=QQ ho3;clear hK9 hS0 hM3 ho3 hto hZ3 z0 z1 z2 z3 z4 c8 HCan;refine tM 7 (.tuple #[.agg #[.int .i64 x.id,.int .i64 x.side,.int .i64 x.kind,.int .i64 x.price,.int .i64 x.qty],.nilIface]) ?_;refine tM 8 (.agg #[.int .i64 x.id,.int .i64 x.side,.int .i64 x.kind,.int .i64 x.price,.int .i64 x.qty]) ?_;refine tM 9 (.nilIface) ?_;refine VJ (by kernel_rfl) ?_ _;clear hS3;go_wp2_with fail
         go_roundg (n- (k+1))
         case measure=>omega
         case rel=>
          have hbz:Below wr.heap.size wr wz.drew:=Below.drew HBx.out;have hmk:=HM3.out;rw[HM12.out.1,HOth.out]at hmk;exact⟨k+1,by omega,rfl,by go_num,QQ ⟨_,_,_,_,_,_,_,_,by rw[HTk.out,Qu9 HKd.out];exact hmk,(HO2.out.trans (VW.of_below hbz)).trans HO3.out,(HR2.out.below hbz).step HO3.out,Qm9 ⟨QJ.keep HB2.out.1 hbz,HB2.out.2⟩ HO3.out,(HL2.out.below hbz).step HO3.out⟩⟩
      ·obtain rfl:k=n:=by omega
       have hltz: ¬(k:Int)< (k:Int):=by omega
       have hmid:Qz0 K2 k=Qa9 K2:=Xv2 (by rw[HN.out];exact Nat.le_refl _);have htk:K2.take k=K2:=List.take_of_length_le (by rw[HN.out];exact Nat.le_refl _);have HMid:=QQ hmid;have HTk:=QQ htk;clear hmid htk;go_wp2_with fail
       go_roundg (2- (1+1))
       case measure=>omega
       case rel=>
        have hmk:=HM2.out;rw[HMid.out,HTk.out]at hmk;exact⟨1+1,_,_,_,by omega,rfl,rfl,.inr (.inr ⟨rfl,rfl,rfl,rfl⟩),QQ ⟨_,_,_,_,_,_,_,_,hmk,HO2.out,HR2.out,HB2.out,Qq1.nil _ _ _ _⟩⟩
    ·subst hj0 hx1 hx2 hy
     go_wp2_with fail
     go_ret;obtain⟨cs1,Al1,lc1,lv1,bu1,se1,G1,own1,hM1,ho1,hr1,-,-⟩:=HU.out;refine⟨Af,cf,Fs,rfl,HUnc.out,hr1.row,HNew.out,_, ?_,ho1.bstep HF.out,fun g hg ⟨k,hk⟩=>hr1.far g hg k hk⟩;have e1:Qw3 m= {m with L1:=Qa9 K1,L2:=Qa9 K2,an:=Qe2 m m.an,la:=Qe2 m m.la}:=by
      unfold Qw3;rw[HU0.out.1,HU0.out.2]
     rw[e1];exact UZ.at_ hM1 (fun _ _ _=>rfl)
end Go.Proofs.YtbmiieehkkfbgaaGreatDoor
