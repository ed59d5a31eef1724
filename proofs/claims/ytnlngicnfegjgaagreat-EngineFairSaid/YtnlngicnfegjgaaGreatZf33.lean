/- Contracts and walks that the law's proof needs. -/
import Derived.WalkKit
import Derived.WalkLawsBesides
import Derived.WalkSpells
import Derived.Deep.LoopGhost
import Derived.Deep.DeepCutAuto
import Derived.Deep.CutBlock
import Derived.Deep.AppendLies
import Derived.Test.YtnlngicnfegjgaaGreatZf32
import Derived.Test.YtnlngicnfegjgaaGreatZf31
import Derived.Test.YtnlngicnfegjgaaGreatZf11
import Derived.Test.YtnlngicnfegjgaaGreatZf6
import Derived.Test.YtnlngicnfegjgaaGreatZf28
import Derived.Test.YtnlngicnfegjgaaGreatZf5
import Derived.Test.YtnlngicnfegjgaaGreatZf22
set_option linter.unusedVariables false
set_option maxRecDepth 100000
set_option maxHeartbeats 8000000
namespace Go.Proofs.YtnlngicnfegjgaaGreat
open Go.RowKit
def Qb1 (f:JV):List Value:= [.int .i64 f.b,.int .i64 f.s,.int .i64 f.p,.int .i64 f.n]
theorem Qt3 (f:JV):(Qb1 f).length=4:=rfl
theorem Jk1:(Tryz.prog.info? 48).map (fun i=>(i.zero,i.size,i.bytes))=some (some (.agg #[.int .i64 0,.int .i64 0,.int .i64 0,.int .i64 0]),4,32):=by kernel_rfl
def Kb6:List QX→Int
 | []=>0
 |o::_=>o.qty
def Kb7:List QX→Int
 | []=>0
 |o::_=>o.id
def Qg4 (t:Int) (L1 L2:List QX) (F:List JV):Prop:=
 ∀F1 f F2,F=F1++f::F2→f.n=min (t-I2 (·.n) F1) (min (Kb6 (ZZ L1 (I2 (·.n) F1))) (Kb6 (ZZ L2 (I2 (·.n) F1))))∧f.b=Kb7 (ZZ L1 (I2 (·.n) F1))∧f.s=Kb7 (ZZ L2 (I2 (·.n) F1))
theorem Qg4.start (t:Int) (L1 L2:List QX):Qg4 t L1 L2 []:=fun F1 f F2 h=>by cases F1<;>cases h
theorem Qg4.step {t:Int} {L1 L2:List QX} {F:List JV} (h:Qg4 t L1 L2 F) {a:Int} (ha:I2 (·.n) F=a) {z:JV} (hz:z.n=min (t-a) (min (Kb6 (ZZ L1 a)) (Kb6 (ZZ L2 a)))) (hb:z.b=Kb7 (ZZ L1 a)) (hs:z.s=Kb7 (ZZ L2 a)):Qg4 t L1 L2 (F++ [z]):=by
 intro F1 f F2 e
 rcases List.eq_nil_or_concat F2 with rfl|⟨F3,y,rfl⟩
 ·have e':=List.append_inj' e rfl
  obtain⟨rfl,e2⟩:=e'
  cases e2;rw[ha];exact⟨hz,hb,hs⟩
 ·rw[List.concat_eq_append]at e
  have e3:F1++f:: (F3++ [y])=(F1++f::F3)++ [y]:=by simp
  rw[e3]at e;have e':=List.append_inj' e rfl;exact h F1 f F3 e'.1
theorem Qx9 {L:List QX} (hn:(L.map (·.id)).Nodup) {o:QX} (ho:o∈L):Qb3 L o.id=some o:=by
 unfold Qb3
 cases hf:L.find? (fun x=>x.id ==o.id)with
 |none=>
  rw[List.find?_eq_none]at hf;have:=hf o ho;simp at this
 |some x=>
  have h1:=List.mem_of_find?_eq_some hf;have h2:=List.find?_some hf;have h3:x.id=o.id:=by simpa using h2
  rw[Qp0 (g:=fun x:QX=>x.id) hn h1 ho h3]
structure Qp2 (w wr:World) (b:Nat) (G G':Nat→Prop) (M1 M2:List QX) (A:Option Addr) (c:Nat) (F:List JV):Prop where
 book:Q1 wr b G' M1 M2
 step:XW w wr G G'
 row:QY wr A F.length c 48 4 (QW Qb1 F)
 fpA: ∀g,QV A=some g→ ¬G' g∧w.heap.size≤g
section
variable {w wr w':World} {b:Nat} {G G':Nat→Prop} {M1 M2:List QX} {A:Option Addr} {c:Nat} {F:List JV}
theorem Qp2.below (h:Qp2 w wr b G G' M1 M2 A c F) (hb:Below wr.heap.size wr w'):Qp2 w w' b G G' M1 M2 A c F:=
 ⟨h.book.below hb,h.step.trans (XW.of_below hb),h.row.below hb,h.fpA⟩
theorem Qp2.fill {f:JV} {gg cap:Nat} (h:Qp2 w wr b G G' M1 M2 A c F) (hk:QK (fun i=>QV A=some i) wr w') (ho:w'.ownsRow 0 48 4 (.slice (some ⟨gg,0,none⟩) (F.length+1) cap) (F.length+1) (QW Qb1 F++Qb1 f)) (hat:QV A=some gg∨wr.heap.size≤gg):
  Qp2 w w' b G G' M1 M2 (some ⟨gg,0,none⟩) cap (F++ [f]):=by
 refine⟨h.book.keeps hk (fun i hi e=>(h.fpA i e).1 hi),⟨h.step.1.trans hk (fun i hi=> .inr (h.fpA i hi).2),h.step.2⟩, ?_,fun g hg=> ?_⟩
 ·show w'.ownsRow 0 48 4 _ _ _
  rw[Qa5,List.length_append];exact ho
 ·have e:gg=g:=by simpa [QV]using hg
  subst e;rcases hat with h1|h1
  ·exact h.fpA _ h1
  ·refine⟨fun hG=> ?_, ?_⟩
   ·have:=h.book.fp hG;omega
   ·exact Nat.le_trans h.step.1.size h1
theorem Qp2.turn {M1' M2':List QX} (h:Qp2 w wr b G G' M1 M2 A c F) (hb:Qj8 wr w' b G' M1' M2'): ∃G'',Qp2 w w' b G G'' M1' M2' A c F∧QK G' wr w':=by
 obtain⟨G'',hA,hS⟩:=hb
 refine⟨G'',⟨hA,h.step.trans hS,h.row.keeps hS.1 (fun g hg=>(h.fpA g hg).1),fun g hg=>⟨fun hG=> ?_,(h.fpA g hg).2⟩⟩,hS.1⟩
 rcases hS.2 g hG with h1|h1
 ·exact(h.fpA g hg).1 h1
 ·have:=h.row.lt hg;omega
end
abbrev Xh1 (w wr:World) (b:Nat) (G G':Nat→Prop) (L1 L2:List QX) (a:Int) (A:Option Addr) (c:Nat) (F:List JV):Prop:=Qp2 w wr b G G' (ZZ L1 a) (ZZ L2 a) A c F
theorem Ql0 {w2 w3:World} {o:Obj} {row:Option Nat} (h:(w2.alloc o).grownBy w3 row):QK (fun i=>row=some i) w2 w3:=IJ ⟨h.os,h.tape,h.output,h.size,h.block⟩
theorem O8 {L1 L2:List QX} (h:XY L1 L2):(L1.map (·.id)).Nodup∧(L2.map (·.id)).Nodup∧ ∀x∈L1,∀y∈L2,x.id≠y.id:=by
 have h1:=h.ids
 rw[List.map_append,List.nodup_append]at h1
 exact⟨h1.1,h1.2.1,fun x hx y hy=>h1.2.2 _ (List.mem_map.2 ⟨x,hx,rfl⟩) _ (List.mem_map.2 ⟨y,hy,rfl⟩)⟩
theorem Kh7 {L1:List QX} {x:QX} {t R2:List QX} {a n:Int} (h:XY (ZZ L1 a) R2) (hq: ∀o∈L1,1≤o.qty) (h0:0≤a) (hx:ZZ L1 a=x::t) (h1:1≤n) (h2:n≤x.qty):
  Qb3 (ZZ L1 a++R2) x.id=some x∧Qf6 (ZZ L1 a) x n=ZZ L1 (a+n)∧Qf6 R2 x n=R2:=by
 obtain⟨d1,d2,d3⟩:=O8 h
 have hm:x∈ZZ L1 a:=by rw[hx];simp
 refine⟨Qx9 h.ids (List.mem_append_left _ hm), ?_,Jc9 fun y hy=>fun e=>d3 x hm y hy e.symm⟩
 rw[←Jc8 hq h0 hx h1 h2,hx]
 rw[hx,List.map_cons,List.nodup_cons]at d1
 exact Xb1 fun y hy e=>d1.1 (List.mem_map.2 ⟨y,hy,e⟩)
theorem Xx0 {L2:List QX} {y:QX} {u R1:List QX} {a n:Int} (h:XY R1 (ZZ L2 a)) (hq: ∀o∈L2,1≤o.qty) (h0:0≤a) (hy:ZZ L2 a=y::u) (h1:1≤n) (h2:n≤y.qty):
  Qb3 (R1++ZZ L2 a) y.id=some y∧Qf6 (ZZ L2 a) y n=ZZ L2 (a+n)∧Qf6 R1 y n=R1:=by
 obtain⟨d1,d2,d3⟩:=O8 h
 have hm:y∈ZZ L2 a:=by rw[hy];simp
 refine⟨Qx9 h.ids (List.mem_append_right _ hm), ?_,Jc9 fun x hx=>d3 x hx y hm⟩
 rw[←Jc8 hq h0 hy h1 h2,hy]
 rw[hy,List.map_cons,List.nodup_cons]at d2
 exact Xb1 fun y hy e=>d2.1 (List.mem_map.2 ⟨y,hy,e⟩)
def Kh8 (w w':World) (b:Nat) (G:Nat→Prop) (L1 L2:List QX) (p t:Int) (e:Ending):Prop:=
 ∃F A c G',e= .returned (.tuple #[.slice A (List.length F) c,.nilIface])∧Qk9 L1 L2 p t F∧Qg4 t L1 L2 F∧Xh1 w w' b G G' L1 L2 t A c F
theorem Ju3 (hcut:Kb5) (w:World) (b:Nat) (G:Nat→Prop) (L1 L2:List QX) (h:Q1 w b G L1 L2) (p t:Int) (ht:1≤t) (hw1:t≤V7 1 p L1) (hw2:t≤V7 2 p L2):
  Calls Tryz.prog 45 #[.pointer (some ⟨b,0,none⟩),.int .i64 p,.int .i64 t] w fun e w'=>Kh8 w w' b G L1 L2 p t e:=by
 have hl:=h.lists
 have hq1: ∀o∈L1,1≤o.qty:=fun o ho=>(hl.ok o (List.mem_append_left _ ho)).2.2.2.1
 have hq2: ∀o∈L2,1≤o.qty:=fun o ho=>(hl.ok o (List.mem_append_right _ ho)).2.2.2.1
 have ha1:t≤Jx7 L1:=Int.le_trans hw1 (Xb0 hq1)
 have ha2:t≤Jx7 L2:=Int.le_trans hw2 (Xb0 hq2)
 have htb:t≤100000000:=by
  have h1:=Jn4 (s:=1) (p:=p) (L:=L1) (fun o ho=>(hl.ok o (List.mem_append_left _ ho)).2.2.2);have h2:=hl.cnt;rw[List.length_append]at h2;omega
 obtain⟨dd1,dd2,-⟩:=O8 hl
 have HC1:=QQ (Qr0 w b G L1 L2 h 1 p KX)
 rw[show XQ 1 L1 L2=L1 from rfl]at HC1
 have HAt:=QQ h
 have HCut:=QQ hcut
 have Hq1:=QQ hq1
 have Hq2:=QQ hq2
 have Hd1:=QQ dd1
 have Hd2:=QQ dd2
 obtain⟨q1,hq1'⟩: ∃q,V7 1 p L1=q:=⟨_,rfl⟩
 obtain⟨q2,hq2'⟩: ∃q,V7 2 p L2=q:=⟨_,rfl⟩
 rw[hq1']at HC1 hw1
 rw[hq2']at hw2
 have HQ2:=QQ hq2'
 have d0:decide (t<1)=false:=OY (by omega)
 have d1:decide (q1<t)=false:=OY (by omega)
 have d2:decide (q2<t)=false:=OY (by omega)
 clear h hcut hl hq1 hq2 dd1 dd2 hq1' hq2' hw1 hw2
 go_enter Tryz.func45,Tryz.ntmps45
 go_wp2_with fail
 refine HC1.out.mono ?_
 rintro e w1 ⟨rfl,hb1⟩
 have hat1:=HAt.out.below hb1
 have hc2:=Qr0 w1 b G L1 L2 hat1 2 p KK
 rw[show XQ 2 L1 L2=L2 from rfl,HQ2.out]at hc2
 have HC2:=QQ hc2
 have HB1:=QQ hb1
 have HAt1:=QQ hat1
 clear hb1 hat1 hc2 HC1
 go_wp2_with fail
 refine HC2.out.mono ?_
 rintro e w2 ⟨rfl,hb2⟩
 have hB:=HB1.out.trans (hb2.mono HB1.out.size)
 have HST:=QQ (show Xh1 w w2 b G G L1 L2 0 none 0 []from⟨by rw[Qh7 _ (Int.le_refl _),Qh7 _ (Int.le_refl _)];exact HAt1.out.below hb2,XW.of_below hB,World.ownsRow_nil _ _ _ _,fun g hg=>by simp[QV]at hg⟩)
 clear hb2 hB HC2 HB1 HAt1 HAt
 go_wp2_with fail
 go_loopg [2,8] t.toNat (fun g s2 s8 wr=> ∃(a:Int) (F:List JV) (A:Option Addr) (c:Nat) (G':Nat→Prop),0≤a∧a≤t∧g=(t-a).toNat∧s2= .int .i64 (t-a)∧s8= .slice A F.length c∧Hid (Qk9 L1 L2 p a F)∧Hid (Qg4 t L1 L2 F)∧Hid (Xh1 w wr b G G' L1 L2 a A c F))
 case atStart=>exact⟨0,[],none,0,G,Int.le_refl _,by omega,by simp,by simp,rfl,QQ (Qk9.start Hq1.out Hq2.out),QQ (Qg4.start t L1 L2),HST⟩
 case round=>
  obtain⟨a,F,A,c,G',ha0,hat,rfl,rfl,rfl,HF,HX,HR⟩:=hrel;clear HST
  by_cases hlt:a<t
  ·have d3:decide (0<t-a)=true:=J4 (by omega)
   obtain⟨x,t1,hx⟩: ∃x t1,ZZ L1 a=x::t1:=by
    cases hd:ZZ L1 a with
    |nil=>exact absurd hd (Jt8 ha0 (by omega))
    |cons x t1=>exact⟨x,t1,rfl⟩
   obtain⟨y,u1,hy⟩: ∃y u1,ZZ L2 a=y::u1:=by
    cases hd:ZZ L2 a with
    |nil=>exact absurd hd (Jt8 ha0 (by omega))
    |cons y u1=>exact⟨y,u1,rfl⟩
   have hbest:=Jg4 wr b G' _ _ HR.out.book 1 KX;rw[show Ka8 (XQ 1 (ZZ L1 a) (ZZ L2 a))=x by rw[hx];rfl,show Ka9 (XQ 1 (ZZ L1 a) (ZZ L2 a))=0 by rw[hx];rfl,UV]at hbest;unfold KQ at hbest;have HB1:=QQ hbest;have Hx:=QQ hx;have Hy:=QQ hy;clear hbest hx hy;go_wp2_with fail
   refine HB1.out.mono ?_;rintro e w3 ⟨hb3,rfl⟩;have hAB: ∀g,QV A=some g→g<w3.heap.size:=fun g hg=>Nat.lt_of_lt_of_le (HR.out.row.lt hg) hb3.size
   have HAB:=QQ hAB;have hR3:=HR.out.below (hb3.alloc hb3.size (.cells #[.int .i64 x.id,.int .i64 x.side,.int .i64 x.kind,.int .i64 x.price,.int .i64 x.qty] 29));have hbest:=Jg4 _ b G' _ _ hR3.book 2 KK;rw[show Ka8 (XQ 2 (ZZ L1 a) (ZZ L2 a))=y by rw[Hy.out];rfl,show Ka9 (XQ 2 (ZZ L1 a) (ZZ L2 a))=0 by rw[Hy.out];rfl,UV]at hbest;unfold KQ at hbest;have HB2:=QQ hbest;have HX3:=QQ (QJ.new w3 29 #[.int .i64 x.id,.int .i64 x.side,.int .i64 x.kind,.int .i64 x.price,.int .i64 x.qty]);have HR3:=QQ hR3;clear hbest hb3 hR3 HB1 HR hAB;go_wp2_with fail
   refine HB2.out.mono ?_;rintro e w4 ⟨hb4,rfl⟩;have hX4:=QJ.alloc (QJ.keep HX3.out hb4) (.cells #[.int .i64 y.id,.int .i64 y.side,.int .i64 y.kind,.int .i64 y.price,.int .i64 y.qty] 29);have hY4:=QJ.new w4 29 #[.int .i64 y.id,.int .i64 y.side,.int .i64 y.kind,.int .i64 y.price,.int .i64 y.qty];have hR4:=HR3.out.below (hb4.alloc hb4.size (.cells #[.int .i64 y.id,.int .i64 y.side,.int .i64 y.kind,.int .i64 y.price,.int .i64 y.qty] 29));have hne:w3.heap.size<w4.heap.size:=by have:=hb4.size;simp at this;omega
   have hG2: ¬G' w4.heap.size:=fun hG=>by have h1:=HR3.out.book.fp hG;have h2:=hb4.size;omega
   obtain⟨B1,hB1⟩: ∃B1,w3.heap.size=B1:=⟨_,rfl⟩;obtain⟨B2,hB2⟩: ∃B2,w4.heap.size=B2:=⟨_,rfl⟩;obtain⟨w5,hw5⟩: ∃w5,w4.alloc (.cells #[.int .i64 y.id,.int .i64 y.side,.int .i64 y.kind,.int .i64 y.price,.int .i64 y.qty] 29)=w5:=⟨_,rfl⟩;rw[hB1]at hX4 hne HAB⊢;rw[hw5,hB2]at hY4;rw[hw5]at hX4 hR4;rw[hB2]at hne hG2;have HX5:=QQ hX4;have HY5:=QQ hY4;have HR5:=QQ hR4;have HNe:=QQ hne;have HG2:=QQ hG2;have hl1:=QJ.lt hX4;have hl2:=QJ.lt hY4;have x0:w5.cell? ⟨B1,0,none⟩=some (.int .i64 x.id):=by rw[QJ.cell hX4];rfl
   have x4:w5.cell? ⟨B1,4,none⟩=some (.int .i64 x.qty):=by rw[QJ.cell hX4];rfl
   have y0:w5.cell? ⟨B2,0,none⟩=some (.int .i64 y.id):=by rw[QJ.cell hY4];rfl
   have y4:w5.cell? ⟨B2,4,none⟩=some (.int .i64 y.qty):=by rw[QJ.cell hY4];rfl
   clear hX4 hY4 hR4 hne hG2 HX3 HR3 HB2 hb4 hB1;obtain⟨n,hn⟩: ∃n,min (t-a) (min x.qty y.qty)=n:=⟨_,rfl⟩;have hxq:1≤x.qty:=(HR5.out.book.lists.ok x (List.mem_append_left _ (by rw[Hx.out];simp))).2.2.2.1;have hyq:1≤y.qty:=(HR5.out.book.lists.ok y (List.mem_append_right _ (by rw[Hy.out];simp))).2.2.2.1;have hn1:1≤n:=by omega
   have hnx:n≤x.qty:=by omega
   have hny:n≤y.qty:=by omega
   have hnt:n≤t-a:=by omega
   have HN:=QQ hn;clear hn;go_upto_region 7 with fail
   go_cut [13] (fun s13 wx=>s13= .int .i64 n∧wx=w5)
   case first=>
    go_wp2_with fail
    all_goals go_meet
    all_goals refine⟨?_,rfl⟩
    all_goals rw[←HN.out]
    all_goals congr 1
    all_goals first
     |omega
     |(split at h<;>first|omega|(split<;>omega))
     |(split<;>first|omega|(split at h<;>omega))
   case rest=>
    obtain⟨rfl,rfl⟩:=hcut;have hF1:F.length≤100000000:=by have:=HF.out.len;omega
    obtain⟨i0,hi0,hz0,hz1,hz2⟩:=info_parts Jk1;have HO1:=QQ (World.ownsRow.alloc (show wc.ownsRow 0 48 4 (.slice A F.length c) F.length (QW Qb1 F)from HR5.out.row) (.cells #[.int .i64 x.id,.int .i64 y.id,.int .i64 p,.int .i64 n] 48));go_upto_region 9 with(at_builtin;refine wpList_append_lies _ rfl _ _ 43 rfl 0 48 i0 _ 4 32 Tryz.underlying43 hi0 hz0 hz1 hz2 rfl (by omega) (.slice A F.length c) F.length _ rfl HO1.out ⟨wc.heap.size,0,none⟩ 1 1 [.int .i64 x.id,.int .i64 y.id,.int .i64 p,.int .i64 n] rfl rfl (World.news_of_block (cs:= #[.int .i64 x.id,.int .i64 y.id,.int .i64 p,.int .i64 n]) (t:=48) (fr:=(0,0)) (heap_alloc_new wc _)) (by simp[Value.oneCell']) (by omega) (by unfold maxLen;omega) (by omega) (by simp) (wc.heap.size+1) (by simp) ?_;intro gg cap w6 hown hgrow hat6 hlt6)
    have hk6:=Ql0 hgrow;rw[XV]at hk6 hat6;have hR6:=HR5.out.fill (f:=⟨x.id,y.id,p,n⟩) hk6 hown (hat6.imp id (fun e=>by omega));have nB1: ¬QV A=some B1:=fun e=>by have:=HAB.out _ e;omega
    have nB2: ¬QV A=some B2:=fun e=>by have h1:=HAB.out _ e;have h2:=HNe.out;omega
    have z0:w6.cell? ⟨B1,0,none⟩=some (.int .i64 x.id):=(hk6.cell (p:=⟨B1,0,none⟩) hl1 nB1).trans x0;have z1:w6.cell? ⟨B2,0,none⟩=some (.int .i64 y.id):=(hk6.cell (p:=⟨B2,0,none⟩) hl2 nB2).trans y0;have hl6:B2<w6.heap.size:=Nat.lt_of_lt_of_le hl2 hk6.size;obtain⟨c1,c2,c3⟩:=Kh7 hR6.book.lists Hq1.out ha0 Hx.out hn1 hnx;have hca:=HCut.out w6 b G' _ _ hR6.book x.id n (by unfold U1;omega);have HCa:=QQ hca;have HR6:=QQ hR6;have HC1:=QQ c1;have HC2:=QQ c2;have HC3:=QQ c3;have HFn:=QQ (HF.out.step Hq1.out Hq2.out Hd1.out Hd2.out ha0 Hx.out Hy.out hn1 hnx hny);have HXn:=QQ (HX.out.step HF.out.sum (z:=⟨x.id,y.id,p,n⟩) (by rw[Hx.out,Hy.out];exact HN.out.symm) (by rw[Hx.out];rfl) (by rw[Hy.out];rfl));clear hk6 hown hgrow hat6 hlt6 hR6 nB1 nB2 c1 c2 c3 hca x0 x4 y0 y4 HO1 HR5 HX5 HY5 HF HX hl1 hl2 hi0 hz0 hz1 hz2 hxq hyq;go_wp2_with fail
    refine HCa.out.mono ?_;rintro e w7 (⟨h0,-,-⟩|⟨o,h0,-,-,rfl,hto⟩)
    ·exfalso
     apply h0;unfold Jt9;rw[HC1.out];exact if_neg (by omega)
    ·rw[HC1.out]at h0
     obtain rfl:=Option.some.inj h0;rw[HC2.out,HC3.out]at hto;obtain⟨G2,hR7,hk7⟩:=HR6.out.turn hto;have z2:w7.cell? ⟨B2,0,none⟩=some (.int .i64 y.id):=(hk7.cell (p:=⟨B2,0,none⟩) hl6 HG2.out).trans z1;obtain⟨c1,c2,c3⟩:=Xx0 hR7.book.lists Hq2.out ha0 Hy.out hn1 hny;have hca:=HCut.out w7 b G2 _ _ hR7.book y.id n (by unfold U1;omega);have HCb:=QQ hca;have HR7:=QQ hR7;have HD1:=QQ c1;have HD2:=QQ c2;have HD3:=QQ c3;clear hto hk7 hR7 c1 c2 c3 hca h0 z0 z1 HCa HR6 HC1 HC2 HC3;go_wp2_with fail
     refine HCb.out.mono ?_;rintro e w8 (⟨h0,-,-⟩|⟨o,h0,-,-,rfl,hto⟩)
     ·exfalso
      apply h0;unfold Jt9;rw[HD1.out];exact if_neg (by omega)
     ·rw[HD1.out]at h0
      obtain rfl:=Option.some.inj h0;rw[HD2.out,HD3.out]at hto;obtain⟨G3,hR8,-⟩:=HR7.out.turn hto;have HR8:=QQ hR8;have i1:RowKit.wrap64 (t-a-n)=t- (a+n):=by unfold RowKit.wrap64;omega
      clear hto hR8 h0 z2 HCb HR7 HD1 HD2 HD3;go_wp2_with fail
      go_roundg (t- (a+n)).toNat
      case measure=>omega
      case rel=>exact⟨a+n,F++ [⟨x.id,y.id,p,n⟩],_,cap,G3,by omega,by omega,rfl,by congr 1<;>omega,by simp,HFn,HXn,HR8⟩
  ·obtain rfl:a=t:=by omega
   have d3:decide (0<a-a)=false:=OY (by omega);go_wp2_with fail
   refine bodyPost_ret (results_tmp2 rfl _ _ _) rfl ?_;exact⟨F,A,c,G',rfl,HF.out,HX.out,HR.out⟩
structure O9 (σ:Type)where
 fills:List JV
 left:QX
 stop:Bool
 st:σ
 rest:List QX
def Jg7 (o x:QX) (n:Int):JV:=if o.side=2 then⟨x.id,o.id,x.price,n⟩else⟨o.id,x.id,x.price,n⟩
def YQ (o x:QX):Bool:= !(o.kind ==2) && ((o.side ==1 &&decide (o.price<x.price)) || (o.side ==2 &&decide (x.price<o.price)))
def Qg5 (x:QX) (n:Int):List QX:=if n=x.qty then []else [U9 x n]
section
variable {σ:Type} (al:σ→Int→Bool) (tr:σ→Int→σ)
def ZJ:List QX→QX→σ→O9 σ
 | [],o,s=>⟨[],o,false,s,[]⟩
 |x::t,o,s=>
  if o.qty<1 then⟨[],o,false,s,x::t⟩
  else if x.kind=2 then⟨(ZJ t o s).fills,(ZJ t o s).left,(ZJ t o s).stop,(ZJ t o s).st,x:: (ZJ t o s).rest⟩
  else if YQ o x=true then⟨[],o,false,s,x::t⟩
  else if al s x.price=false then⟨[],o,true,s,x::t⟩
  else⟨Jg7 o x (min o.qty x.qty):: (ZJ t (U9 o (min o.qty x.qty)) (tr s x.price)).fills,(ZJ t (U9 o (min o.qty x.qty)) (tr s x.price)).left,(ZJ t (U9 o (min o.qty x.qty)) (tr s x.price)).stop,(ZJ t (U9 o (min o.qty x.qty)) (tr s x.price)).st,Qg5 x (min o.qty x.qty)++(ZJ t (U9 o (min o.qty x.qty)) (tr s x.price)).rest⟩
def O9.join (F:List JV) (R:List QX) (r:O9 σ):O9 σ:=⟨F++r.fills,r.left,r.stop,r.st,R++r.rest⟩
variable {al tr} {F:List JV} {R t:List QX} {x o:QX} {s:σ}
theorem Xp1:O9.join F R (ZJ al tr [] o s)=⟨F,o,false,s,R⟩:=by
 unfold ZJ O9.join
 simp
theorem Xb4 (h:o.qty<1):O9.join F R (ZJ al tr t o s)=⟨F,o,false,s,R++t⟩:=by
 cases t with
 |nil=>unfold ZJ O9.join;simp
 |cons x t=>unfold ZJ O9.join;rw[if_pos h];simp
theorem Xp2 (h: ¬o.qty<1) (hk:x.kind=2):O9.join F R (ZJ al tr (x::t) o s)=O9.join F (R++ [x]) (ZJ al tr t o s):=by
 rw[ZJ,if_neg h,if_pos hk]
 unfold O9.join
 simp
theorem Jn5 (h: ¬o.qty<1) (hk: ¬x.kind=2) (hb:YQ o x=true):O9.join F R (ZJ al tr (x::t) o s)=⟨F,o,false,s,R++x::t⟩:=by
 rw[ZJ,if_neg h,if_neg hk,if_pos hb]
 unfold O9.join
 simp
theorem Xb5 (h: ¬o.qty<1) (hk: ¬x.kind=2) (hb:YQ o x=false) (ha:al s x.price=false):O9.join F R (ZJ al tr (x::t) o s)=⟨F,o,true,s,R++x::t⟩:=by
 rw[ZJ,if_neg h,if_neg hk,if_neg (by rw[hb];simp),if_pos ha]
 unfold O9.join
 simp
theorem Ju4 (h: ¬o.qty<1) (hk: ¬x.kind=2) (hb:YQ o x=false) (ha:al s x.price=true) {n:Int} (hn:min o.qty x.qty=n):O9.join F R (ZJ al tr (x::t) o s)=O9.join (F++ [Jg7 o x n]) (R++Qg5 x n) (ZJ al tr t (U9 o n) (tr s x.price)):=by
 rw[ZJ,if_neg h,if_neg hk,if_neg (by rw[hb];simp),if_neg (by rw[ha];simp),hn]
 unfold O9.join
 simp
end
theorem Kp3 {R t:List QX} {x:QX} {n:Int} (hn:((R++x::t).map (·.id)).Nodup):Qf6 (R++x::t) x n=(R++Qg5 x n)++t:=by
 rw[List.map_append,List.map_cons,List.nodup_append,List.nodup_cons]at hn
 have h1: ∀y∈R,y.id≠x.id:=fun y hy e=>hn.2.2 _ (List.mem_map.2 ⟨y,hy,rfl⟩) _ (List.mem_cons_self) e
 have h2: ∀y∈t,y.id≠x.id:=fun y hy e=>hn.2.1.1 (List.mem_map.2 ⟨y,hy,e⟩)
 unfold Qf6 Qg5
 by_cases hq:n=x.qty
 ·rw[if_pos hq,if_pos hq]
  unfold O6;rw[List.filter_append,List.filter_cons_of_neg (by simp),List.filter_eq_self.2 (fun y hy=>by simpa using h1 y hy),List.filter_eq_self.2 (fun y hy=>by simpa using h2 y hy)];simp
 ·rw[if_neg hq,if_neg hq]
  unfold Xk5;rw[List.map_append,List.map_cons,if_pos rfl];have e1:R.map (fun o=>if o.id=x.id then U9 o n else o)=R:=by
   conv=>rhs;rw[←List.map_id R]
   exact List.map_congr_left fun y hy=>if_neg (h1 y hy)
  have e2:t.map (fun o=>if o.id=x.id then U9 o n else o)=t:=by
   conv=>rhs;rw[←List.map_id t]
   exact List.map_congr_left fun y hy=>if_neg (h2 y hy)
  rw[e1,e2];simp
theorem Xb6 (s:Int) (M1 M2:List QX) (x:QX) (n:Int):XQ s (Qf6 M1 x n) (Qf6 M2 x n)=Qf6 (XQ s M1 M2) x n:=by
 unfold XQ
 split<;>rfl
theorem Xp3 {L1 L2:List QX} (h:XY L1 L2) (s:Int):((XQ s L1 L2).map (·.id)).Nodup:=by
 have h1:=O8 h
 unfold XQ
 split
 ·exact h1.1
 ·exact h1.2.1
theorem Xp4 {M1 M2 R t:List QX} {s:Int} {x:QX} {n:Int} (h:XY M1 M2) (hs:VV s) (hR:XQ (3-s) M1 M2=R++x::t):Qb3 (M1++M2) x.id=some x∧XQ s (Qf6 M1 x n) (Qf6 M2 x n)=XQ s M1 M2∧XQ (3-s) (Qf6 M1 x n) (Qf6 M2 x n)=(R++Qg5 x n)++t:=by
 have hn:=Xp3 h (3-s)
 rw[hR]at hn
 obtain⟨d1,d2,d3⟩:=O8 h
 have hx:x∈XQ (3-s) M1 M2:=by rw[hR];simp
 refine⟨?_, ?_,by rw[Xb6,hR,Kp3 hn]⟩
 ·refine Qx9 h.ids ?_
  unfold XQ at hx
  split at hx
  ·exact List.mem_append_left _ hx
  ·exact List.mem_append_right _ hx
 ·rw[Xb6]
  refine Jc9 fun y hy=> ?_
  rcases hs with rfl|rfl
  ·have e1:XQ 1 M1 M2=M1:=rfl
   have e2:XQ (3-1) M1 M2=M2:=rfl;rw[e1]at hy;rw[e2]at hx;exact d3 y hy x hx
  ·have e1:XQ 2 M1 M2=M2:=rfl
   have e2:XQ (3-2) M1 M2=M1:=rfl;rw[e1]at hy;rw[e2]at hx;exact fun e=>d3 x hx y hy e.symm
structure ZX where
 rows:List (Int×Int)
 st:Int
 dy:Int
 tk:Int
 mo:Int
 an:Int
 la:Int
 L1:List QX
 L2:List QX
 pk:List QX
 ids:List Int
 ph:Int
 now:Int
 ends:Int
 lng:Int
def VJ (m:ZX) (t:Int):Int:=(Qm0 m.rows t m.rows.length).1
def Qc1 (m:ZX):List QX:=m.L1++m.L2
def YW (m:ZX):XJ:=Q7 (Z9 (Qc1 m) m.la) m.la
def Ku3 (p t:Int) (L1 L2:List QX) (F:List JV):Prop:=Qk9 L1 L2 p t F∧Qg4 t L1 L2 F
def Qt4 (m:ZX) (F:List JV):Prop:=if 0< (YW m).2.1 then Ku3 (YW m).1 (YW m).2.1 m.L1 m.L2 F else F= []
def Qp3 (m:ZX) (L:List QX):List QX:=(if 0< (YW m).2.1 then ZZ L (YW m).2.1 else L).filter fun o=>o.kind ==1
def Qe9 (m:ZX) (p:Int):Int:=if 0< (YW m).2.1 then(YW m).1 else p
def Qr1 (m:ZX):ZX:= {m with L1:=Qp3 m m.L1,L2:=Qp3 m m.L2,an:=Qe9 m m.an,la:=Qe9 m m.la}
def Qc8 (m:ZX) (o:QX):ZX:= {m with L1:=Ju0 1 m.L1 m.L2 m.L1 o,L2:=Ju0 2 m.L1 m.L2 m.L2 o}
def UK (m:ZX) (l:List QX):ZX:=l.foldl Qc8 m
def Qg6 (m:ZX):ZX:= {UK {m with ph:=5} m.pk with pk:= []}
def Jg8 (m:ZX):ZX:= {m with ph:=4,ends:=m.now+m.tk,lng:=0}
def Qu5 (m:ZX):ZX:= {m with ph:=7,pk:= [],L1:= [],L2:= []}
def X6 (m:ZX) (p:Int):ZX:=if p=3 then {Qr1 m with ph:=3}else if p=5 then Qg6 m else {m with ph:=p}
def Qk0 (m:ZX) (p:Int) (F:List JV):Prop:=if p=3 then Qt4 m F else F= []
def Jg9 (m:ZX):Prop:=(YW m).2.1=0∨Qu4 m.st m.an (YW m).1=true
instance(m:ZX):Decidable (Jg9 m):=by unfold Jg9;infer_instance
def OV (m:ZX):ZX:=
 if Jg9 m then {Qr1 m with ph:=3}else if m.lng<m.mo then {m with lng:=m.lng+1,ends:=m.now+m.tk}else {m with ph:=6}
def Qb2 (m:ZX) (F:List JV):Prop:=if Jg9 m then Qt4 m F else F= []
def JY (m:ZX):ZX:= {m with now:=m.now+1}
def I0 (was:Int) (m:ZX):ZX:=
 if VJ m m.now=7 then Qu5 (if m.ph=5 then Qr1 m else m)
 else if m.ph=6 then m
 else if was≠VJ m m.now then X6 m (VJ m m.now)
 else if m.ph=4∧m.ends≤m.now then OV m else m
def Qf0 (was:Int) (m:ZX) (F:List JV):Prop:=
 if VJ m m.now=7 then(if m.ph=5 then Qt4 m F else F= [])
 else if m.ph=6 then F= []
 else if was≠VJ m m.now then Qk0 m (VJ m m.now) F
 else if m.ph=4∧m.ends≤m.now then Qb2 m F else F= []
def Jh0 (m:ZX):Int:=if m.ph=7 then 6 else 0
def J2 (m:ZX):ZX:=if m.ph=7 then m else I0 (VJ m m.now) (JY m)
def Jh1 (m:ZX) (F:List JV):Prop:=if m.ph=7 then F= []else Qf0 (VJ m m.now) (JY m) F
def Jb3 (m:ZX):Int:=if m.ph=6∨m.ph=7 then 6 else 0
def Qe1 (m:ZX):ZX:=if m.ph=6∨m.ph=7 then m else {m with ph:=6}
def Jn6 (m:ZX):Int:=if m.ph=6 then 0 else 6
def Qa3 (m:ZX):ZX:=if m.ph=6 then(if VJ m m.now=3 then Jg8 m else if VJ m m.now=5 then Qg6 m else {m with ph:=VJ m m.now})else m
def Ju5 (m:ZX) (id:Int):Bool:=m.pk.any fun o=>o.id ==id
def Ql1 (m:ZX) (id:Int):Int:=if m.ph=7 then 6 else if Ju5 m id=true then 0 else if(Qb3 (Qc1 m) id).isSome=true then 0 else 7
def YJ (m:ZX) (id:Int):ZX:=if m.ph=7 then m else if Ju5 m id=true then {m with pk:=Jk0 m.pk (m.pk.findIdx fun o=>o.id ==id)}else {m with L1:=O6 m.L1 id,L2:=O6 m.L2 id}
def Xh2 (o:QX):Bool:=decide (o.side≠1∧o.side≠2∨o.kind<1∨4<o.kind∨o.id<1)
def V0 (m:ZX) (o:QX):Int:=
 if Xh2 o=true then 1 else if Qq5 o=false then 2 else if Qh2 m.ph o.kind=false then 6 else if o.id∈m.ids then 9 else if 100≤m.L1.length+m.L2.length+m.pk.length then 12 else 0
def ZV (m:ZX) (o:QX):O9 Int:=ZJ (fun la p=>X3 m.st m.dy m.an la p) (fun _ p=>p) (XQ (3-o.side) m.L1 m.L2) o m.la
def UW (m:ZX) (o:QX):ZX:= {m with L1:=if o.side=1 then m.L1 else(ZV m o).rest,L2:=if o.side=1 then(ZV m o).rest else m.L2,la:=(ZV m o).st}
def VK (m:ZX) (o:QX):ZX:=if 0< (ZV m o).left.qty∧(ZV m o).left.kind≠2 then Qc8 (UW m o) (ZV m o).left else UW m o
def Z1 (m:ZX) (o:QX):ZX:=if(ZV m o).stop=true then Jg8 (VK m o)else VK m o
def YX (m:ZX) (o:QX):ZX:= {m with ids:=m.ids++ [o.id]}
def Qe4 (m:ZX) (o:QX):ZX:=if o.kind=4∧m.ph≠5 then {m with pk:=m.pk++ [o]}else if m.ph≠3 then Qc8 m o else Z1 m o
def Qi1 (m:ZX) (o:QX):List JV:=if o.kind=4∧m.ph≠5 then []else if m.ph≠3 then []else(ZV m o).fills
def IQ (m:ZX) (o:QX):ZX:=if V0 m o=0 then Qe4 (YX m (JJ o)) (JJ o)else m
def Qd3 (m:ZX) (o:QX):List JV:=if V0 m o=0 then Qi1 (YX m (JJ o)) (JJ o)else []
structure VW (m:ZX):Prop where
 tab:Z4 m.rows
 st:0≤m.st∧m.st≤10000
 dy:0≤m.dy∧m.dy≤10000
 tk:1≤m.tk∧m.tk≤1000000
 mo:0≤m.mo∧m.mo≤10
 an:1≤m.an∧m.an≤1000000
 la:1≤m.la∧m.la≤1000000
 ls:XY m.L1 m.L2
 pk: ∀o∈m.pk,OkO o∧VV o.side
 cnt:m.L1.length+m.L2.length+m.pk.length≤100
 lng:0≤m.lng∧m.lng≤10
end Go.Proofs.YtnlngicnfegjgaaGreat
