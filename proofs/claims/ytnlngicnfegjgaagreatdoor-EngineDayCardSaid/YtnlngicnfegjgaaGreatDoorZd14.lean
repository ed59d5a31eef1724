/- Contracts and walks that the law's proof needs. -/
import Derived.WalkKit
import Derived.WalkLawsBesides
import Derived.WalkSpells
import Derived.Deep.LoopGhost
import Derived.Deep.DeepCutAuto
import Derived.Deep.CutBlock
import Derived.Deep.AppendLies
import Derived.Test.YtnlngicnfegjgaaGreatDoorZd13
import Derived.Test.YtnlngicnfegjgaaGreatDoorZd11
import Derived.OrdersHeld
import Derived.StillTail
import Derived.RegionTactic
import Derived.Deep.RegionLaw
import Derived.Deep.AppendSrc
import Derived.Lib.JoinLaws
import Derived.Lib.AppendZerosOnto
import Derived.Lib.Overlaps
import Derived.Laws.Externs
import Derived.Laws.NewBlocks
import Derived.Test.YtnlngicnfegjgaaGreatDoorZd6
import Derived.Test.YtnlngicnfegjgaaGreatDoorZd1
set_option linter.unusedVariables false
set_option maxRecDepth 100000
set_option maxHeartbeats 8000000
namespace Go.Proofs.YtnlngicnfegjgaaGreatDoor
open Go.RowKit
def Qb1 (f:JV):List Value:= [.int .i64 f.b,.int .i64 f.s,.int .i64 f.p,.int .i64 f.n]
theorem Qt3 (f:JV):(Qb1 f).length=4:=rfl
theorem Jk2:(Tryz.prog.info? 89).map (fun i=>(i.zero,i.size,i.bytes))=some (some (.agg #[.int .i64 0,.int .i64 0,.int .i64 0,.int .i64 0]),4,32):=by kernel_rfl
def Kd0:List QX→Int
 | []=>0
 |o::_=>o.qty
def Kd1:List QX→Int
 | []=>0
 |o::_=>o.id
def Qg3 (t:Int) (L1 L2:List QX) (F:List JV):Prop:=
 ∀F1 f F2,F=F1++f::F2→f.n=min (t-I2 (·.n) F1) (min (Kd0 (ZK L1 (I2 (·.n) F1))) (Kd0 (ZK L2 (I2 (·.n) F1))))∧f.b=Kd1 (ZK L1 (I2 (·.n) F1))∧f.s=Kd1 (ZK L2 (I2 (·.n) F1))
theorem Qg3.start (t:Int) (L1 L2:List QX):Qg3 t L1 L2 []:=fun F1 f F2 h=>by cases F1<;>cases h
theorem Qg3.step {t:Int} {L1 L2:List QX} {F:List JV} (h:Qg3 t L1 L2 F) {a:Int} (ha:I2 (·.n) F=a) {z:JV} (hz:z.n=min (t-a) (min (Kd0 (ZK L1 a)) (Kd0 (ZK L2 a)))) (hb:z.b=Kd1 (ZK L1 a)) (hs:z.s=Kd1 (ZK L2 a)):Qg3 t L1 L2 (F++ [z]):=by
 intro F1 f F2 e
 rcases List.eq_nil_or_concat F2 with rfl|⟨F3,y,rfl⟩
 ·have e':=List.append_inj' e rfl
  obtain⟨rfl,e2⟩:=e'
  cases e2;rw[ha];exact⟨hz,hb,hs⟩
 ·rw[List.concat_eq_append]at e
  have e3:F1++f:: (F3++ [y])=(F1++f::F3)++ [y]:=by simp
  rw[e3]at e;have e':=List.append_inj' e rfl;exact h F1 f F3 e'.1
theorem Qw9 {L:List QX} (hn:(L.map (·.id)).Nodup) {o:QX} (ho:o∈L):Qb3 L o.id=some o:=by
 unfold Qb3
 cases hf:L.find? (fun x=>x.id ==o.id)with
 |none=>
  rw[List.find?_eq_none]at hf;have:=hf o ho;simp at this
 |some x=>
  have h1:=List.mem_of_find?_eq_some hf;have h2:=List.find?_some hf;have h3:x.id=o.id:=by simpa using h2
  rw[Qp2 (g:=fun x:QX=>x.id) hn h1 ho h3]
structure Qp3 (w wr:World) (b:Nat) (G G':Nat→Prop) (M1 M2:List QX) (A:Option Addr) (c:Nat) (F:List JV):Prop where
 book:Q1 wr b G' M1 M2
 step:XW w wr G G'
 row:QY wr A F.length c 89 4 (QW Qb1 F)
 fpA: ∀g,QZ A=some g→ ¬G' g∧w.heap.size≤g
section
variable {w wr w':World} {b:Nat} {G G':Nat→Prop} {M1 M2:List QX} {A:Option Addr} {c:Nat} {F:List JV}
theorem Qp3.below (h:Qp3 w wr b G G' M1 M2 A c F) (hb:Below wr.heap.size wr w'):Qp3 w w' b G G' M1 M2 A c F:=
 ⟨h.book.below hb,h.step.trans (XW.of_below hb),h.row.below hb,h.fpA⟩
theorem Qp3.fill {f:JV} {gg cap:Nat} (h:Qp3 w wr b G G' M1 M2 A c F) (hk:QK (fun i=>QZ A=some i) wr w') (ho:w'.ownsRow 0 89 4 (.slice (some ⟨gg,0,none⟩) (F.length+1) cap) (F.length+1) (QW Qb1 F++Qb1 f)) (hat:QZ A=some gg∨wr.heap.size≤gg):
  Qp3 w w' b G G' M1 M2 (some ⟨gg,0,none⟩) cap (F++ [f]):=by
 refine⟨h.book.keeps hk (fun i hi e=>(h.fpA i e).1 hi),⟨h.step.1.trans hk (fun i hi=> .inr (h.fpA i hi).2),h.step.2⟩, ?_,fun g hg=> ?_⟩
 ·show w'.ownsRow 0 89 4 _ _ _
  rw[Qa5,List.length_append];exact ho
 ·have e:gg=g:=by simpa [QZ]using hg
  subst e;rcases hat with h1|h1
  ·exact h.fpA _ h1
  ·refine⟨fun hG=> ?_, ?_⟩
   ·have:=h.book.fp hG;omega
   ·exact Nat.le_trans h.step.1.size h1
theorem Qp3.turn {M1' M2':List QX} (h:Qp3 w wr b G G' M1 M2 A c F) (hb:Qj9 wr w' b G' M1' M2'): ∃G'',Qp3 w w' b G G'' M1' M2' A c F∧QK G' wr w':=by
 obtain⟨G'',hA,hS⟩:=hb
 refine⟨G'',⟨hA,h.step.trans hS,h.row.keeps hS.1 (fun g hg=>(h.fpA g hg).1),fun g hg=>⟨fun hG=> ?_,(h.fpA g hg).2⟩⟩,hS.1⟩
 rcases hS.2 g hG with h1|h1
 ·exact(h.fpA g hg).1 h1
 ·have:=h.row.lt hg;omega
end
abbrev Xg7 (w wr:World) (b:Nat) (G G':Nat→Prop) (L1 L2:List QX) (a:Int) (A:Option Addr) (c:Nat) (F:List JV):Prop:=Qp3 w wr b G G' (ZK L1 a) (ZK L2 a) A c F
theorem Ql1 {w2 w3:World} {o:Obj} {row:Option Nat} (h:(w2.alloc o).grownBy w3 row):QK (fun i=>row=some i) w2 w3:=IJ ⟨h.os,h.tape,h.output,h.size,h.block⟩
theorem O8 {L1 L2:List QX} (h:XY L1 L2):(L1.map (·.id)).Nodup∧(L2.map (·.id)).Nodup∧ ∀x∈L1,∀y∈L2,x.id≠y.id:=by
 have h1:=h.ids
 rw[List.map_append,List.nodup_append]at h1
 exact⟨h1.1,h1.2.1,fun x hx y hy=>h1.2.2 _ (List.mem_map.2 ⟨x,hx,rfl⟩) _ (List.mem_map.2 ⟨y,hy,rfl⟩)⟩
theorem Ki0 {L1:List QX} {x:QX} {t R2:List QX} {a n:Int} (h:XY (ZK L1 a) R2) (hq: ∀o∈L1,1≤o.qty) (h0:0≤a) (hx:ZK L1 a=x::t) (h1:1≤n) (h2:n≤x.qty):
  Qb3 (ZK L1 a++R2) x.id=some x∧Qf6 (ZK L1 a) x n=ZK L1 (a+n)∧Qf6 R2 x n=R2:=by
 obtain⟨d1,d2,d3⟩:=O8 h
 have hm:x∈ZK L1 a:=by rw[hx];simp
 refine⟨Qw9 h.ids (List.mem_append_left _ hm), ?_,Jd4 fun y hy=>fun e=>d3 x hm y hy e.symm⟩
 rw[←Jd3 hq h0 hx h1 h2,hx]
 rw[hx,List.map_cons,List.nodup_cons]at d1
 exact Xa5 fun y hy e=>d1.1 (List.mem_map.2 ⟨y,hy,e⟩)
theorem Xw2 {L2:List QX} {y:QX} {u R1:List QX} {a n:Int} (h:XY R1 (ZK L2 a)) (hq: ∀o∈L2,1≤o.qty) (h0:0≤a) (hy:ZK L2 a=y::u) (h1:1≤n) (h2:n≤y.qty):
  Qb3 (R1++ZK L2 a) y.id=some y∧Qf6 (ZK L2 a) y n=ZK L2 (a+n)∧Qf6 R1 y n=R1:=by
 obtain⟨d1,d2,d3⟩:=O8 h
 have hm:y∈ZK L2 a:=by rw[hy];simp
 refine⟨Qw9 h.ids (List.mem_append_right _ hm), ?_,Jd4 fun x hx=>d3 x hx y hm⟩
 rw[←Jd3 hq h0 hy h1 h2,hy]
 rw[hy,List.map_cons,List.nodup_cons]at d2
 exact Xa5 fun y hy e=>d2.1 (List.mem_map.2 ⟨y,hy,e⟩)
def Ki1 (w w':World) (b:Nat) (G:Nat→Prop) (L1 L2:List QX) (p t:Int) (e:Ending):Prop:=
 ∃F A c G',e= .returned (.tuple #[.slice A (List.length F) c,.nilIface])∧Ql0 L1 L2 p t F∧Qg3 t L1 L2 F∧Xg7 w w' b G G' L1 L2 t A c F
theorem Jt4 (hcut:Kc9) (w:World) (b:Nat) (G:Nat→Prop) (L1 L2:List QX) (h:Q1 w b G L1 L2) (p t:Int) (ht:1≤t) (hw1:t≤V8 1 p L1) (hw2:t≤V8 2 p L2):
  Calls Tryz.prog 86 #[.pointer (some ⟨b,0,none⟩),.int .i64 p,.int .i64 t] w fun e w'=>Ki1 w w' b G L1 L2 p t e:=by
 have hl:=h.lists
 have hq1: ∀o∈L1,1≤o.qty:=fun o ho=>(hl.ok o (List.mem_append_left _ ho)).2.2.2.1
 have hq2: ∀o∈L2,1≤o.qty:=fun o ho=>(hl.ok o (List.mem_append_right _ ho)).2.2.2.1
 have ha1:t≤Jx6 L1:=Int.le_trans hw1 (Xa2 hq1)
 have ha2:t≤Jx6 L2:=Int.le_trans hw2 (Xa2 hq2)
 have htb:t≤100000000:=by
  have h1:=Jn0 (s:=1) (p:=p) (L:=L1) (fun o ho=>(hl.ok o (List.mem_append_left _ ho)).2.2.2);have h2:=hl.cnt;rw[List.length_append]at h2;omega
 obtain⟨dd1,dd2,-⟩:=O8 hl
 have HC1:=QQ (Qr1 w b G L1 L2 h 1 p KX)
 rw[show JY 1 L1 L2=L1 from rfl]at HC1
 have HAt:=QQ h
 have HCut:=QQ hcut
 have Hq1:=QQ hq1
 have Hq2:=QQ hq2
 have Hd1:=QQ dd1
 have Hd2:=QQ dd2
 obtain⟨q1,hq1'⟩: ∃q,V8 1 p L1=q:=⟨_,rfl⟩
 obtain⟨q2,hq2'⟩: ∃q,V8 2 p L2=q:=⟨_,rfl⟩
 rw[hq1']at HC1 hw1
 rw[hq2']at hw2
 have HQ2:=QQ hq2'
 have d0:decide (t<1)=false:=IQ (by omega)
 have d1:decide (q1<t)=false:=IQ (by omega)
 have d2:decide (q2<t)=false:=IQ (by omega)
 clear h hcut hl hq1 hq2 dd1 dd2 hq1' hq2' hw1 hw2
 go_enter Tryz.func86,Tryz.ntmps86
 go_wp2_with fail
 refine HC1.out.mono ?_
 rintro e w1 ⟨rfl,hb1⟩
 have hat1:=HAt.out.below hb1
 have hc2:=Qr1 w1 b G L1 L2 hat1 2 p KK
 rw[show JY 2 L1 L2=L2 from rfl,HQ2.out]at hc2
 have HC2:=QQ hc2
 have HB1:=QQ hb1
 have HAt1:=QQ hat1
 clear hb1 hat1 hc2 HC1
 go_wp2_with fail
 refine HC2.out.mono ?_
 rintro e w2 ⟨rfl,hb2⟩
 have hB:=HB1.out.trans (hb2.mono HB1.out.size)
 have HST:=QQ (show Xg7 w w2 b G G L1 L2 0 none 0 []from⟨by rw[Qh6 _ (Int.le_refl _),Qh6 _ (Int.le_refl _)];exact HAt1.out.below hb2,XW.of_below hB,World.ownsRow_nil _ _ _ _,fun g hg=>by simp[QZ]at hg⟩)
 clear hb2 hB HC2 HB1 HAt1 HAt
 go_wp2_with fail
 go_loopg [2,8] t.toNat (fun g s2 s8 wr=> ∃(a:Int) (F:List JV) (A:Option Addr) (c:Nat) (G':Nat→Prop),0≤a∧a≤t∧g=(t-a).toNat∧s2= .int .i64 (t-a)∧s8= .slice A F.length c∧Hid (Ql0 L1 L2 p a F)∧Hid (Qg3 t L1 L2 F)∧Hid (Xg7 w wr b G G' L1 L2 a A c F))
 case atStart=>exact⟨0,[],none,0,G,Int.le_refl _,by omega,by simp,by simp,rfl,QQ (Ql0.start Hq1.out Hq2.out),QQ (Qg3.start t L1 L2),HST⟩
 case round=>
  obtain⟨a,F,A,c,G',ha0,hat,rfl,rfl,rfl,HF,HX,HR⟩:=hrel;clear HST
  by_cases hlt:a<t
  ·have d3:decide (0<t-a)=true:=J5 (by omega)
   obtain⟨x,t1,hx⟩: ∃x t1,ZK L1 a=x::t1:=by
    cases hd:ZK L1 a with
    |nil=>exact absurd hd (Js9 ha0 (by omega))
    |cons x t1=>exact⟨x,t1,rfl⟩
   obtain⟨y,u1,hy⟩: ∃y u1,ZK L2 a=y::u1:=by
    cases hd:ZK L2 a with
    |nil=>exact absurd hd (Js9 ha0 (by omega))
    |cons y u1=>exact⟨y,u1,rfl⟩
   have hbest:=Jg4 wr b G' _ _ HR.out.book 1 KX;rw[show Kc5 (JY 1 (ZK L1 a) (ZK L2 a))=x by rw[hx];rfl,show Kc6 (JY 1 (ZK L1 a) (ZK L2 a))=0 by rw[hx];rfl,UW]at hbest;unfold KQ at hbest;have HB1:=QQ hbest;have Hx:=QQ hx;have Hy:=QQ hy;clear hbest hx hy;go_wp2_with fail
   refine HB1.out.mono ?_;rintro e w3 ⟨hb3,rfl⟩;have hAB: ∀g,QZ A=some g→g<w3.heap.size:=fun g hg=>Nat.lt_of_lt_of_le (HR.out.row.lt hg) hb3.size
   have HAB:=QQ hAB;have hR3:=HR.out.below (hb3.alloc hb3.size (.cells #[.int .i64 x.id,.int .i64 x.side,.int .i64 x.kind,.int .i64 x.price,.int .i64 x.qty] 29));have hbest:=Jg4 _ b G' _ _ hR3.book 2 KK;rw[show Kc5 (JY 2 (ZK L1 a) (ZK L2 a))=y by rw[Hy.out];rfl,show Kc6 (JY 2 (ZK L1 a) (ZK L2 a))=0 by rw[Hy.out];rfl,UW]at hbest;unfold KQ at hbest;have HB2:=QQ hbest;have HX3:=QQ (QJ.new w3 29 #[.int .i64 x.id,.int .i64 x.side,.int .i64 x.kind,.int .i64 x.price,.int .i64 x.qty]);have HR3:=QQ hR3;clear hbest hb3 hR3 HB1 HR hAB;go_wp2_with fail
   refine HB2.out.mono ?_;rintro e w4 ⟨hb4,rfl⟩;have hX4:=QJ.alloc (QJ.keep HX3.out hb4) (.cells #[.int .i64 y.id,.int .i64 y.side,.int .i64 y.kind,.int .i64 y.price,.int .i64 y.qty] 29);have hY4:=QJ.new w4 29 #[.int .i64 y.id,.int .i64 y.side,.int .i64 y.kind,.int .i64 y.price,.int .i64 y.qty];have hR4:=HR3.out.below (hb4.alloc hb4.size (.cells #[.int .i64 y.id,.int .i64 y.side,.int .i64 y.kind,.int .i64 y.price,.int .i64 y.qty] 29));have hne:w3.heap.size<w4.heap.size:=by have:=hb4.size;simp at this;omega
   have hG2: ¬G' w4.heap.size:=fun hG=>by have h1:=HR3.out.book.fp hG;have h2:=hb4.size;omega
   obtain⟨B1,hB1⟩: ∃B1,w3.heap.size=B1:=⟨_,rfl⟩;obtain⟨B2,hB2⟩: ∃B2,w4.heap.size=B2:=⟨_,rfl⟩;obtain⟨w5,hw5⟩: ∃w5,w4.alloc (.cells #[.int .i64 y.id,.int .i64 y.side,.int .i64 y.kind,.int .i64 y.price,.int .i64 y.qty] 29)=w5:=⟨_,rfl⟩;rw[hB1]at hX4 hne HAB⊢;rw[hw5,hB2]at hY4;rw[hw5]at hX4 hR4;rw[hB2]at hne hG2;have HX5:=QQ hX4;have HY5:=QQ hY4;have HR5:=QQ hR4;have HNe:=QQ hne;have HG2:=QQ hG2;have hl1:=QJ.lt hX4;have hl2:=QJ.lt hY4;have x0:w5.cell? ⟨B1,0,none⟩=some (.int .i64 x.id):=by rw[QJ.cell hX4];rfl
   have x4:w5.cell? ⟨B1,4,none⟩=some (.int .i64 x.qty):=by rw[QJ.cell hX4];rfl
   have y0:w5.cell? ⟨B2,0,none⟩=some (.int .i64 y.id):=by rw[QJ.cell hY4];rfl
   have y4:w5.cell? ⟨B2,4,none⟩=some (.int .i64 y.qty):=by rw[QJ.cell hY4];rfl
   clear hX4 hY4 hR4 hne hG2 HX3 HR3 HB2 hb4 hB1;obtain⟨n,hn⟩: ∃n,min (t-a) (min x.qty y.qty)=n:=⟨_,rfl⟩;have hxq:1≤x.qty:=(HR5.out.book.lists.ok x (List.mem_append_left _ (by rw[Hx.out];simp))).2.2.2.1;have hyq:1≤y.qty:=(HR5.out.book.lists.ok y (List.mem_append_right _ (by rw[Hy.out];simp))).2.2.2.1;have hn1:1≤n:=by omega
   have hnx:n≤x.qty:=by omega
   have hny:n≤y.qty:=by omega
   have hnt:n≤t-a:=by omega
   have HN:=QQ hn;clear hn;go_upto_region 7 with fail
   go_cut [13] (fun s13 wx=>s13= .int .i64 n∧wx=w5)
   case first=>
    go_wp2_with fail
    all_goals go_meet
    all_goals refine⟨?_,rfl⟩
    all_goals rw[←HN.out]
    all_goals congr 1
    all_goals first
     |omega
     |(split at h<;>first|omega|(split<;>omega))
     |(split<;>first|omega|(split at h<;>omega))
   case rest=>
    obtain⟨rfl,rfl⟩:=hcut;have hF1:F.length≤100000000:=by have:=HF.out.len;omega
    obtain⟨i0,hi0,hz0,hz1,hz2⟩:=info_parts Jk2;have HO1:=QQ (World.ownsRow.alloc (show wc.ownsRow 0 89 4 (.slice A F.length c) F.length (QW Qb1 F)from HR5.out.row) (.cells #[.int .i64 x.id,.int .i64 y.id,.int .i64 p,.int .i64 n] 89));go_upto_region 9 with(at_builtin;refine wpList_append_lies _ rfl _ _ 42 rfl 0 89 i0 _ 4 32 Tryz.underlying42 hi0 hz0 hz1 hz2 rfl (by omega) (.slice A F.length c) F.length _ rfl HO1.out ⟨wc.heap.size,0,none⟩ 1 1 [.int .i64 x.id,.int .i64 y.id,.int .i64 p,.int .i64 n] rfl rfl (World.news_of_block (cs:= #[.int .i64 x.id,.int .i64 y.id,.int .i64 p,.int .i64 n]) (t:=89) (fr:=(0,0)) (heap_alloc_new wc _)) (by simp[Value.oneCell']) (by omega) (by unfold maxLen;omega) (by omega) (by simp) (wc.heap.size+1) (by simp) ?_;intro gg cap w6 hown hgrow hat6 hlt6)
    have hk6:=Ql1 hgrow;rw[XV]at hk6 hat6;have hR6:=HR5.out.fill (f:=⟨x.id,y.id,p,n⟩) hk6 hown (hat6.imp id (fun e=>by omega));have nB1: ¬QZ A=some B1:=fun e=>by have:=HAB.out _ e;omega
    have nB2: ¬QZ A=some B2:=fun e=>by have h1:=HAB.out _ e;have h2:=HNe.out;omega
    have z0:w6.cell? ⟨B1,0,none⟩=some (.int .i64 x.id):=(hk6.cell (p:=⟨B1,0,none⟩) hl1 nB1).trans x0;have z1:w6.cell? ⟨B2,0,none⟩=some (.int .i64 y.id):=(hk6.cell (p:=⟨B2,0,none⟩) hl2 nB2).trans y0;have hl6:B2<w6.heap.size:=Nat.lt_of_lt_of_le hl2 hk6.size;obtain⟨c1,c2,c3⟩:=Ki0 hR6.book.lists Hq1.out ha0 Hx.out hn1 hnx;have hca:=HCut.out w6 b G' _ _ hR6.book x.id n (by unfold V3;omega);have HCa:=QQ hca;have HR6:=QQ hR6;have HC1:=QQ c1;have HC2:=QQ c2;have HC3:=QQ c3;have HFn:=QQ (HF.out.step Hq1.out Hq2.out Hd1.out Hd2.out ha0 Hx.out Hy.out hn1 hnx hny);have HXn:=QQ (HX.out.step HF.out.sum (z:=⟨x.id,y.id,p,n⟩) (by rw[Hx.out,Hy.out];exact HN.out.symm) (by rw[Hx.out];rfl) (by rw[Hy.out];rfl));clear hk6 hown hgrow hat6 hlt6 hR6 nB1 nB2 c1 c2 c3 hca x0 x4 y0 y4 HO1 HR5 HX5 HY5 HF HX hl1 hl2 hi0 hz0 hz1 hz2 hxq hyq;go_wp2_with fail
    refine HCa.out.mono ?_;rintro e w7 (⟨h0,-,-⟩|⟨o,h0,-,-,rfl,hto⟩)
    ·exfalso
     apply h0;unfold Jt3;rw[HC1.out];exact if_neg (by omega)
    ·rw[HC1.out]at h0
     obtain rfl:=Option.some.inj h0;rw[HC2.out,HC3.out]at hto;obtain⟨G2,hR7,hk7⟩:=HR6.out.turn hto;have z2:w7.cell? ⟨B2,0,none⟩=some (.int .i64 y.id):=(hk7.cell (p:=⟨B2,0,none⟩) hl6 HG2.out).trans z1;obtain⟨c1,c2,c3⟩:=Xw2 hR7.book.lists Hq2.out ha0 Hy.out hn1 hny;have hca:=HCut.out w7 b G2 _ _ hR7.book y.id n (by unfold V3;omega);have HCb:=QQ hca;have HR7:=QQ hR7;have HD1:=QQ c1;have HD2:=QQ c2;have HD3:=QQ c3;clear hto hk7 hR7 c1 c2 c3 hca h0 z0 z1 HCa HR6 HC1 HC2 HC3;go_wp2_with fail
     refine HCb.out.mono ?_;rintro e w8 (⟨h0,-,-⟩|⟨o,h0,-,-,rfl,hto⟩)
     ·exfalso
      apply h0;unfold Jt3;rw[HD1.out];exact if_neg (by omega)
     ·rw[HD1.out]at h0
      obtain rfl:=Option.some.inj h0;rw[HD2.out,HD3.out]at hto;obtain⟨G3,hR8,-⟩:=HR7.out.turn hto;have HR8:=QQ hR8;have i1:RowKit.wrap64 (t-a-n)=t- (a+n):=by unfold RowKit.wrap64;omega
      clear hto hR8 h0 z2 HCb HR7 HD1 HD2 HD3;go_wp2_with fail
      go_roundg (t- (a+n)).toNat
      case measure=>omega
      case rel=>exact⟨a+n,F++ [⟨x.id,y.id,p,n⟩],_,cap,G3,by omega,by omega,rfl,by congr 1<;>omega,by simp,HFn,HXn,HR8⟩
  ·obtain rfl:a=t:=by omega
   have d3:decide (0<a-a)=false:=IQ (by omega);go_wp2_with fail
   refine bodyPost_ret (results_tmp2 rfl _ _ _) rfl ?_;exact⟨F,A,c,G',rfl,HF.out,HX.out,HR.out⟩
structure O9 (σ:Type)where
 fills:List JV
 left:QX
 stop:Bool
 st:σ
 rest:List QX
def Jg6 (o x:QX) (n:Int):JV:=if o.side=2 then⟨x.id,o.id,x.price,n⟩else⟨o.id,x.id,x.price,n⟩
def YQ (o x:QX):Bool:= !(o.kind ==2) && ((o.side ==1 &&decide (o.price<x.price)) || (o.side ==2 &&decide (x.price<o.price)))
def Qg4 (x:QX) (n:Int):List QX:=if n=x.qty then []else [U9 x n]
section
variable {σ:Type} (al:σ→Int→Bool) (tr:σ→Int→σ)
def ZX:List QX→QX→σ→O9 σ
 | [],o,s=>⟨[],o,false,s,[]⟩
 |x::t,o,s=>
  if o.qty<1 then⟨[],o,false,s,x::t⟩
  else if x.kind=2 then⟨(ZX t o s).fills,(ZX t o s).left,(ZX t o s).stop,(ZX t o s).st,x:: (ZX t o s).rest⟩
  else if YQ o x=true then⟨[],o,false,s,x::t⟩
  else if al s x.price=false then⟨[],o,true,s,x::t⟩
  else⟨Jg6 o x (min o.qty x.qty):: (ZX t (U9 o (min o.qty x.qty)) (tr s x.price)).fills,(ZX t (U9 o (min o.qty x.qty)) (tr s x.price)).left,(ZX t (U9 o (min o.qty x.qty)) (tr s x.price)).stop,(ZX t (U9 o (min o.qty x.qty)) (tr s x.price)).st,Qg4 x (min o.qty x.qty)++(ZX t (U9 o (min o.qty x.qty)) (tr s x.price)).rest⟩
def O9.join (F:List JV) (R:List QX) (r:O9 σ):O9 σ:=⟨F++r.fills,r.left,r.stop,r.st,R++r.rest⟩
variable {al tr} {F:List JV} {R t:List QX} {x o:QX} {s:σ}
theorem Xo0:O9.join F R (ZX al tr [] o s)=⟨F,o,false,s,R⟩:=by
 unfold ZX O9.join
 simp
theorem Xa6 (h:o.qty<1):O9.join F R (ZX al tr t o s)=⟨F,o,false,s,R++t⟩:=by
 cases t with
 |nil=>unfold ZX O9.join;simp
 |cons x t=>unfold ZX O9.join;rw[if_pos h];simp
theorem Xo1 (h: ¬o.qty<1) (hk:x.kind=2):O9.join F R (ZX al tr (x::t) o s)=O9.join F (R++ [x]) (ZX al tr t o s):=by
 rw[ZX,if_neg h,if_pos hk]
 unfold O9.join
 simp
theorem Jn1 (h: ¬o.qty<1) (hk: ¬x.kind=2) (hb:YQ o x=true):O9.join F R (ZX al tr (x::t) o s)=⟨F,o,false,s,R++x::t⟩:=by
 rw[ZX,if_neg h,if_neg hk,if_pos hb]
 unfold O9.join
 simp
theorem Xa7 (h: ¬o.qty<1) (hk: ¬x.kind=2) (hb:YQ o x=false) (ha:al s x.price=false):O9.join F R (ZX al tr (x::t) o s)=⟨F,o,true,s,R++x::t⟩:=by
 rw[ZX,if_neg h,if_neg hk,if_neg (by rw[hb];simp),if_pos ha]
 unfold O9.join
 simp
theorem Jt5 (h: ¬o.qty<1) (hk: ¬x.kind=2) (hb:YQ o x=false) (ha:al s x.price=true) {n:Int} (hn:min o.qty x.qty=n):O9.join F R (ZX al tr (x::t) o s)=O9.join (F++ [Jg6 o x n]) (R++Qg4 x n) (ZX al tr t (U9 o n) (tr s x.price)):=by
 rw[ZX,if_neg h,if_neg hk,if_neg (by rw[hb];simp),if_neg (by rw[ha];simp),hn]
 unfold O9.join
 simp
end
theorem Kp0 {R t:List QX} {x:QX} {n:Int} (hn:((R++x::t).map (·.id)).Nodup):Qf6 (R++x::t) x n=(R++Qg4 x n)++t:=by
 rw[List.map_append,List.map_cons,List.nodup_append,List.nodup_cons]at hn
 have h1: ∀y∈R,y.id≠x.id:=fun y hy e=>hn.2.2 _ (List.mem_map.2 ⟨y,hy,rfl⟩) _ (List.mem_cons_self) e
 have h2: ∀y∈t,y.id≠x.id:=fun y hy e=>hn.2.1.1 (List.mem_map.2 ⟨y,hy,e⟩)
 unfold Qf6 Qg4
 by_cases hq:n=x.qty
 ·rw[if_pos hq,if_pos hq]
  unfold O7;rw[List.filter_append,List.filter_cons_of_neg (by simp),List.filter_eq_self.2 (fun y hy=>by simpa using h1 y hy),List.filter_eq_self.2 (fun y hy=>by simpa using h2 y hy)];simp
 ·rw[if_neg hq,if_neg hq]
  unfold Xl7;rw[List.map_append,List.map_cons,if_pos rfl];have e1:R.map (fun o=>if o.id=x.id then U9 o n else o)=R:=by
   conv=>rhs;rw[←List.map_id R]
   exact List.map_congr_left fun y hy=>if_neg (h1 y hy)
  have e2:t.map (fun o=>if o.id=x.id then U9 o n else o)=t:=by
   conv=>rhs;rw[←List.map_id t]
   exact List.map_congr_left fun y hy=>if_neg (h2 y hy)
  rw[e1,e2];simp
theorem Xa8 (s:Int) (M1 M2:List QX) (x:QX) (n:Int):JY s (Qf6 M1 x n) (Qf6 M2 x n)=Qf6 (JY s M1 M2) x n:=by
 unfold JY
 split<;>rfl
theorem Xo2 {L1 L2:List QX} (h:XY L1 L2) (s:Int):((JY s L1 L2).map (·.id)).Nodup:=by
 have h1:=O8 h
 unfold JY
 split
 ·exact h1.1
 ·exact h1.2.1
theorem Xo3 {M1 M2 R t:List QX} {s:Int} {x:QX} {n:Int} (h:XY M1 M2) (hs:VV s) (hR:JY (3-s) M1 M2=R++x::t):Qb3 (M1++M2) x.id=some x∧JY s (Qf6 M1 x n) (Qf6 M2 x n)=JY s M1 M2∧JY (3-s) (Qf6 M1 x n) (Qf6 M2 x n)=(R++Qg4 x n)++t:=by
 have hn:=Xo2 h (3-s)
 rw[hR]at hn
 obtain⟨d1,d2,d3⟩:=O8 h
 have hx:x∈JY (3-s) M1 M2:=by rw[hR];simp
 refine⟨?_, ?_,by rw[Xa8,hR,Kp0 hn]⟩
 ·refine Qw9 h.ids ?_
  unfold JY at hx
  split at hx
  ·exact List.mem_append_left _ hx
  ·exact List.mem_append_right _ hx
 ·rw[Xa8]
  refine Jd4 fun y hy=> ?_
  rcases hs with rfl|rfl
  ·have e1:JY 1 M1 M2=M1:=rfl
   have e2:JY (3-1) M1 M2=M2:=rfl;rw[e1]at hy;rw[e2]at hx;exact d3 y hy x hx
  ·have e1:JY 2 M1 M2=M2:=rfl
   have e2:JY (3-2) M1 M2=M1:=rfl;rw[e1]at hy;rw[e2]at hx;exact fun e=>d3 x hx y hy e.symm
def Jk3 (L:List QX) (k:Nat):List QX:=L.take k++L.drop (k+1)
def Jt6 (s:Int) (L1 L2 L:List QX) (o:QX):List QX:=if Qk9 L1 L2 o=0 then Qb8 s L o else L
theorem Xa9 {L:List QX} {id:Int} (h: ∀o∈L,o.id≠id):O7 L id=L:=List.filter_eq_self.2 (fun o ho=>by simpa using h o ho)
end Go.Proofs.YtnlngicnfegjgaaGreatDoor
namespace Go.Proofs.YtnlngicnfegjgaaGreatDoor
open Go
section
variable {P:Program} {ops:Array Oper} {Q:Exit→Act→World→Prop} {md:Region.Mode} {S:World→Prop} {t:Nat}
def I9 (P:Program) (md:Region.Mode) (ops:Array Oper) (Q:Exit→Act→World→Prop) (S:World→Prop) (t:Nat):Nat→Array Bool→Act→World→Prop
 |0,listed,a,w=>Region.ready md ops listed= []∧Q .normal a w
 |fuel+1,listed,a,w=>
  (Region.ready md ops listed= []→Q .normal a w)∧
  ∀i∈Region.ready md ops listed,wpOp P ops Q i (fun a' w'=>(i≠t→S w')∧I9 P md ops Q S t fuel (listed.setIfInBounds i true) a' w') a w
theorem Qx0: ∀(fuel:Nat) (listed:Array Bool) (a:Act) (w:World),I9 P md ops Q S t fuel listed a w→wpAny P md ops Q fuel listed a w
 |0,_,_,_,h=>h
 |fuel+1,_,_,_,h=>⟨h.1,fun i hi=>wpOp_mono (fun a' w' h'=>Qx0 fuel _ a' w' h'.2) (h.2 i hi)⟩
theorem Xg8 {i:Nat} {oi:Oper} {v:Value} (hi:ops[i]?=some oi) (hit:i≠t) (hw:Region.waitsFor md ops t i=true) (hsel: ∀(j:Nat) (o:Oper) cs b,ops[j]?=some o→o.op≠ .select cs b)
  (hQ: ∀c a w,Q (.panic c) (a.put oi.dst v) w→Q (.panic c) a w):
  ∀(fuel:Nat) (listed:Array Bool) (a:Act) (w:World),
   (∀j oj,ops[j]?=some oj→j≠i→listed.getD j true=false→(∀e∈oj.after,Region.binds md e=true→e.on≠i)→oi.apart ops oj=true)→
   i∈Region.ready md ops listed→YieldsIf P ops S oi v a→S w→
   I9 P md ops Q S t fuel (listed.setIfInBounds i true) (a.put oi.dst v) w→I9 P md ops Q S t (fuel+1) listed a w:=by
 intro fuel
 induction fuel with
 |zero=>
  intro listed a w _ hr hy hS H;refine⟨fun h=>(by rw[h]at hr;cases hr),fun j hj=> ?_⟩
  by_cases hji:j=i
  ·subst hji;exact hy.wpOp hi hS ⟨fun _=>hS,H⟩
  ·have:=ready_mono hj hji
   rw[H.1]at this
   cases this
 |succ fuel ih=>
  intro listed a w hfree hr hy hS H;refine⟨fun h=>(by rw[h]at hr;cases hr),fun j hj=> ?_⟩
  by_cases hji:j=i
  ·subst hji;exact hy.wpOp hi hS ⟨fun _=>hS,H⟩
  ·have h1:=H.2 j (ready_mono hj hji)
   obtain⟨hjun,oj,hoj,hall⟩:=mem_ready.1 hj;have hnot: ∀e∈oj.after,Region.binds md e=true→e.on≠i:=fun e he hb heq=>by
    have h1:=hall e he hb;have h0:=(mem_ready.1 hr).1;rw[heq]at h1;rcases Nat.lt_or_ge i listed.size with h'|h'
    ·simp[h']at h0 h1;rw[h0]at h1;cases h1
    ·simp[Array.getElem?_eq_none h']at h1
   have hjt:j≠t:=fun e=>by
    subst e;obtain⟨o',ho',e,he,hb,hon⟩:=Region.waitsFor_spec hw;have:o'=oj:=Option.some.inj (ho'.symm.trans hoj);subst this;exact hnot e he hb hon
   have h2:=wpOp_putIf hoj (hfree j oj hoj hji hjun hnot) (fun cs b=>hsel i oi cs b hi) (fun cs b=>hsel j oj cs b hoj) hQ hy h1;have hfree': ∀k ok,ops[k]?=some ok→k≠i→(listed.setIfInBounds j true).getD k true=false→
     (∀e∈ok.after,Region.binds md e=true→e.on≠i)→oi.apart ops ok=true:=fun k ok hk hki hun hno=>by
    refine hfree k ok hk hki ?_ hno
    by_cases hjk:j=k
    ·subst hjk;exact hjun
    ·rw[getD_set_ne true hjk]at hun;exact hun
   refine wpOp_mono (fun a' w' h3=>⟨fun _=>h3.2.1 hjt,ih (listed.setIfInBounds j true) a' w' hfree' (ready_mono hr (Ne.symm hji)) h3.1 (h3.2.1 hjt) ?_⟩) h2;rw[Array.setIfInBounds_comm _ _ hji];exact h3.2.2
theorem Xo4 {i:Nat} {oi:Oper} {v:Value} {fuel:Nat} {listed:Array Bool} {a:Act} {w:World} (hi:ops[i]?=some oi) (hit:(i ==t)=false) (hw:Region.waitsFor md ops t i=true)
  (hs:Region.noSelect ops=true) (hf:Region.free md ops listed i=true) (hr:(Region.ready md ops listed).contains i=true)
  (hQ: ∀c a w,Q (.panic c) (a.put oi.dst v) w→Q (.panic c) a w) (hy:YieldsIf P ops S oi v a) (hS:S w)
  (h:I9 P md ops Q S t fuel (listed.setIfInBounds i true) (a.put oi.dst v) w):I9 P md ops Q S t (fuel+1) listed a w:=
 Xg8 hi (by simpa using hit) hw (Region.noSelect_spec hs) hQ fuel listed a w (Region.free_spec hi hf) (by simpa using hr) hy hS h
theorem Jt7 {rs:List Nat} {fuel:Nat} {listed:Array Bool} {a:Act} {w:World} (hr:Region.ready md ops listed=rs) (hne:rs≠ [])
  (h: ∀i∈rs,wpOp P ops Q i (fun a' w'=>(i≠t→S w')∧I9 P md ops Q S t fuel (listed.setIfInBounds i true) a' w') a w):I9 P md ops Q S t (fuel+1) listed a w:=
 ⟨fun h0=>absurd (hr▸h0) hne,hr▸h⟩
theorem Qo3 {listed:Array Bool} {a:Act} {w:World} (hr:Region.ready md ops listed= []) (h:Q .normal a w):
  ∀fuel,I9 P md ops Q S t fuel listed a w
 |0=>⟨hr,h⟩
 |_+1=>⟨fun _=>h,by rw[hr];simp⟩
theorem Jo7 {id:Nat} {a:Act} {w:World} (t:Nat) (S:World→Prop) (hm:P.follows .mixedOrders=true)
  (h:I9 P .any ops Q S t ops.size (Array.replicate ops.size false) a {w with drawn:=w.drawn+1}):(Code.region id ops true).wp P Q a w:=
 wp_region_any hm (Qx0 _ _ _ _ h)
theorem Y1 {id:Nat} {a:Act} {w:World} (t:Nat) (S:World→Prop) (hm:P.follows .mixedOrders=true) (hS:S w.drew)
  (h:S w.drew→I9 P .any ops Q S t ops.size (Array.replicate ops.size false) a w.drew):(Code.region id ops true).wp P Q a w:=Jo7 t S hm (h hS)
theorem Xg9 {l rest:List Oper} {i:Nat} {oi:Oper} (hl:l.drop i=oi::rest):l.toArray[i]?=some oi:=by
 have h:(l.drop i)[0]?=some oi:=by rw[hl];rfl
 rw[List.getElem?_drop]at h
 simpa using h
theorem Zb3 {l rest:List Oper} (i d:Nat) {oi:Oper} (v:Value) {fuel:Nat} {listed:Array Bool} {a:Act} {w:World} (hl:l.drop i=oi::rest) (hd:oi.dst=some d) (hit:(i ==t)=false) (hw:Region.waitsFor md l.toArray t i=true)
  (hs:Region.noSelect l.toArray=true) (hf:Region.free md l.toArray listed i=true) (hr:(Region.ready md l.toArray listed).contains i=true)
  (hQ: ∀c a w,Q (.panic c) (a.put oi.dst v) w→Q (.panic c) a w) (hwn:Region.wanted oi (yielded l.toArray a.tmps)=true) (hy: ∀w,S w→(execOp a.eval oi).run P w= .ok (.value v) w) (hS:S w)
  (h:I9 P md l.toArray Q S t fuel (listed.setIfInBounds i true) (a.put (some d) v) w):I9 P md l.toArray Q S t (fuel+1) listed a w:=
 Xo4 (Xg9 hl) hit hw hs hf hr hQ (.inl ⟨hwn,hy⟩) hS (by rw[hd];exact h)
theorem tT {l rest:List Oper} (i:Nat) (v:Value) {d:Nat} {oi:Oper} {fuel:Nat} {listed listed':Array Bool} {a a':Act} {w:World}
  (h:I9 P md l.toArray Q S t fuel listed' a' w)
  (hl:l.drop i=oi::rest:=by rfl) (hd:oi.dst=some d:=by rfl) (hit:(i ==t)=false:=by rfl) (hw:Region.waitsFor md l.toArray t i=true:=by kernel_rfl)
  (hs:Region.noSelect l.toArray=true:=by kernel_rfl) (hf:Region.free md l.toArray listed i=true:=by kernel_rfl) (hr:(Region.ready md l.toArray listed).contains i=true:=by kernel_rfl)
  (hQ: ∀c a w,Q (.panic c) (a.put oi.dst v) w→Q (.panic c) a w:=by exact fun _ _ _ h=>h) (hwn:Region.wanted oi (yielded l.toArray a.tmps)=true:=by rfl)
  (hy: ∀w,S w→(execOp a.eval oi).run P w= .ok (.value v) w:=by intro W hSw;go_simp) (hS:S w:=by first|trivial|assumption)
  (hp:a.put (some d) v=a':=by first|(simp only[Act.put,List.setIfInBounds_toArray,List.set_cons_zero,List.set_cons_succ];rfl)|rfl)
  (hli:listed.setIfInBounds i true=listed':=by first|(simp only[List.setIfInBounds_toArray,List.set_cons_zero,List.set_cons_succ];rfl)|rfl):I9 P md l.toArray Q S t (fuel+1) listed a w:=
 Zb3 i d v hl hd hit hw hs hf hr hQ hwn hy hS (by rw[hp,hli];exact h)
theorem Y8 {l rest:List Oper} (i:Nat) {o:Oper} {fuel:Nat} {listed:Array Bool} {a:Act} {w:World} (hr:Region.ready md l.toArray listed= [i]) (ho:l.drop i=o::rest)
  (h: ∀K':Act→World→Prop,(∀a w,S w→(S w→I9 P md l.toArray Q S t fuel (listed.setIfInBounds i true) a w)→K' a w)→if Region.wanted o (yielded l.toArray a.tmps)=true then Oper.wp P o a w K' Q else K' (a.put o.dst undef) w):I9 P md l.toArray Q S t (fuel+1) listed a w:=
 Jt7 hr (by simp) (fun j hj=>by
  rw[List.mem_singleton]at hj;subst hj;exact wpOp_step (Xg9 ho) fun K' hK=>h K' (fun a w hS hw=>hK a w ⟨fun _=>hS,hw hS⟩))
theorem Qo4 {l rest:List Oper} {o:Oper} {fuel:Nat} {listed:Array Bool} {a:Act} {w:World} (hr:Region.ready md l.toArray listed= [t]) (ho:l.drop t=o::rest)
  (h: ∀K':Act→World→Prop,(∀a w,I9 P md l.toArray Q S t fuel (listed.setIfInBounds t true) a w→K' a w)→if Region.wanted o (yielded l.toArray a.tmps)=true then Oper.wp P o a w K' Q else K' (a.put o.dst undef) w):I9 P md l.toArray Q S t (fuel+1) listed a w:=
 Jt7 hr (by simp) (fun j hj=>by
  rw[List.mem_singleton]at hj;subst hj;exact wpOp_step (Xg9 ho) fun K' hK=>h K' (fun a w hw=>hK a w ⟨fun e=>absurd rfl e,hw⟩))
end
end Go.Proofs.YtnlngicnfegjgaaGreatDoor
namespace Go.Proofs.YtnlngicnfegjgaaGreatDoor
open Go.RowKit
theorem Qt4:(Tryz.prog.info? 252).map (fun i=>(i.zero,i.size,i.bytes))=some (some (.agg #[.int .i64 0,.int .i64 0,.int .i64 0]),3,24):=by kernel_rfl
theorem Xw3 (w:World):(Go.sizeOf 252).run Tryz.prog w= .ok 3 w:=by kernel_rfl
def Jt8 (w w':World) (A A':Option Addr) (n c':Nat) (qs:List XJ):Prop:=
 QY w' A' n c' 252 3 (QW KV qs)∧QK (fun i=>QZ A=some i) w w'∧ ∀g,QZ A'=some g→QZ A=some g∨w.heap.size≤g
theorem Xo5 (w:World) (A:Option Addr) (n c:Nat) (qs:List XJ) (vb:Nat) (q:XJ) (h:QY w A n c 252 3 (QW KV qs)) (hv:QJ w vb 252 (KV q).toArray) (hn:n≤100000):
  Calls Tryz.prog 173 #[.slice A n c,.int .i64 n,.slice (some ⟨vb,0,none⟩) 1 1] w fun e w'=>
   ∃A' c',e= .returned (.slice A' (n+1) c')∧Jt8 w w' A A' (n+1) c' (qs++ [q]):=by
 obtain⟨i0,hi0,hz0,hz1,hz2⟩:=info_parts Qt4
 have hnews: ∀j u,(KV q)[j]?=some u→w.cell? ((⟨vb,0,none⟩:Addr).add j)=some u:=by
  have:=World.news_of_block (cs:=(KV q).toArray) hv;simpa using this
 have HN:=QQ hnews
 have HH:=QQ (show w.ownsRow 0 252 3 (.slice A n c) n (QW KV qs)from h)
 clear hnews h hv
 go_enter Tryz.func173,Tryz.ntmps173
 go_wp2_with (at_builtin;refine wpList_append_lies _ (by rfl) _ _ 98 (by rfl) 0 252 i0 _ 3 24 Tryz.underlying98 hi0 hz0 hz1 hz2 rfl (by omega) (.slice A n c) n _ (by rfl) HH.out ⟨vb,0,none⟩ 1 1 (KV q) (by rfl) (by rfl) HN.out (Qd7 _) (by omega) (by unfold maxLen;omega) (by omega) (by simp) w.heap.size (by rfl) ?_;intro gg cap w3 hown hgrow hat hlt;have HO:=QQ hown;have HG:=QQ hgrow;have HT:=QQ hat;clear hown hgrow hat)
 all_goals
  go_ret;refine⟨_,_,rfl, ?_, ?_, ?_⟩
  ·rw[Qa5];exact HO.out
  ·have:=Qh5 HG.out
   rw[XV]at this;exact this
  ·intro g hg
   cases hg;have:=HT.out;rw[XV]at this;exact this.imp id (fun h=>by show _≤gg;omega)
theorem Jx7 (w:World) (b n c i:Nat) (qs:List XJ) (vb:Nat) (q:XJ) (h:QY w (some ⟨b,0,none⟩) n c 252 3 (QW KV qs)) (hv:QJ w vb 252 (KV q).toArray) (hvb:vb≠b) (hn:n≤100000) (hi:i<n) (hc:n+1≤c):
  Calls Tryz.prog 173 #[.slice (some ⟨b,0,none⟩) n c,.int .i64 i,.slice (some ⟨vb,0,none⟩) 1 1] w fun e w'=>
   ∃A' c',e= .returned (.slice A' (n+1) c')∧Jt8 w w' (some ⟨b,0,none⟩) A' (n+1) c' (qs.take i++q::qs.drop i):=by
 obtain⟨cur,hB,hnc,hcm,hcl,hct⟩:=h.whole
 obtain⟨i0,hi0,hz0,hz1,hz2⟩:=info_parts Qt4
 have hz2': ¬((i:Int)=(n:Int)):=by omega
 have hw1:IntKind.i64.wrap ((i:Int)+ (1:Int))=(i:Int)+1:=by rw[IntKind.wrap_i64];omega
 have hb1:(0:Int)≤(i:Int)+1:=by omega
 have htn:((i:Int)+1).toNat=i+1:=by omega
 have hb2: ¬(c=i+1):=by omega
 have hb3:(i:Int)≤(n:Int)+1:=by omega
 have hb4: ¬(c=i):=by omega
 have hin:i≤n:=by omega
 have HB:=QQ hB
 have HV:=QQ hv
 have HL:=QQ hcl
 have HT:=QQ hct
 clear hB hv hcl hct
 have hov: ∀lb cb,(callFunc 185 #[.slice (some ⟨vb,0,none⟩) 1 1,.slice (some ⟨b,(i+1)*3,none⟩) lb cb]).run Tryz.prog w= .ok (.value (.bool false)) w:=fun lb cb=>by
  rw[run_callFunc_extern Tryz.func185 (by kernel_rfl) (by kernel_rfl) (by kernel_rfl) (e:=Extern.SlicesOverlaps.overlaps #[98,98] #[4]) (by kernel_rfl),
   Lib.run_overlaps_apart w 98 4 252 Tryz.underlying98 3 Xw3 ⟨vb,0,none⟩ ⟨b,(i+1)*3,none⟩ 1 1 lb cb hvb 252 252 3 cur.length (QJ.shape HV.out) (by rw[QJ.shape HB.out];simp) (by have:=HL.out;omega) (QJ.frozen HV.out 0) (QJ.frozen HV.out 3)]
  rfl
 have hfl:(QW KV qs).length=n*3:=h.1
 have hdl:((QW KV qs).drop (i*3)).length=(n-i)*3:=by rw[List.length_drop,hfl];omega
 have hcp1: ∀W,QJ W b 252 cur.toArray→ ∀ty dc sc dl sl,dl=n-i→n-i≤sl→(Builtin.copy_ #[98,98] ty #[.slice (some ⟨b,(i+1)*3,none⟩) dl dc,.slice (some ⟨b,i*3,none⟩) sl sc]).run Tryz.prog W= .ok (goInt (n-i:Nat)) (W.setRow b (splice cur ((i+1)*3) ((QW KV qs).drop (i*3))).toArray):=fun W hW ty dc sc dl sl e1 e2=>
  V1 W _ _ ty 252 3 b ((i+1)*3) dl dc ⟨b,i*3,none⟩ sl sc cur.toArray 252 ((QW KV qs).drop (i*3)) (n-i) (by simp only[Nat.min_def];split<;>omega) Tryz.underlying98 (by rw[hi0];simp[hz1]) hW hdl
   (fun j v hj=>by
    rw[U6,QJ.cell hW];rw[List.getElem?_drop,←HT.out,List.getElem?_take]at hj
    split at hj
    ·simpa using hj
    ·cases hj)
   (by rw[hdl];simp[HL.out];omega) (fun v hv=>Qi4 Qd7 qs v (List.mem_of_mem_drop hv))
 have hcp2: ∀W c1,QJ W b 252 (List.toArray c1)→QJ W vb 252 (KV q).toArray→c1.length=c*3→ ∀ty dc dl,1≤dl→(Builtin.copy_ #[98,98] ty #[.slice (some ⟨b,i*3,none⟩) dl dc,.slice (some ⟨vb,0,none⟩) 1 1]).run Tryz.prog W= .ok (goInt (1:Nat)) (W.setRow b (splice c1 (i*3) (KV q)).toArray):=fun W c1 hW hv hl ty dc dl e1=>
  V1 W _ _ ty 252 3 b (i*3) dl dc ⟨vb,0,none⟩ 1 1 c1.toArray 252 (KV q) 1 (by simp only[Nat.min_def];split<;>omega) Tryz.underlying98 (by rw[hi0];simp[hz1]) hW rfl
   (fun j v hj=>by rw[U6,QJ.cell hv];simpa using hj) (by simp[hl,JK];omega) (Qd7 q)
 have hB1:QJ (w.drew) b 252 cur.toArray:=HB.out
 have hB2:=QJ.setRow w.drew b cur.toArray (splice cur ((i+1)*3) ((QW KV qs).drop (i*3))).toArray 252 hB1
 have hV2:QJ (w.drew.setRow b (splice cur ((i+1)*3) ((QW KV qs).drop (i*3))).toArray) vb 252 (KV q).toArray:=QJ.keeps (HV.out.drew) (QK.setRow _ _ _) (fun e=>hvb e)
 have hl2:(splice cur ((i+1)*3) ((QW KV qs).drop (i*3))).length=c*3:=by rw[length_splice _ _ _ (by rw[hdl,HL.out];omega),HL.out]
 have hfin:=Jf4 cur (QW KV qs) (KV q) i n 3 hin HT.out (JK q) (by rw[HL.out];omega)
 rw[Qn7 JK]at hfin
 have hK1:=QK.setRow w.drew b (splice cur ((i+1)*3) ((QW KV qs).drop (i*3))).toArray
 have hcpA:=hcp1 _ hB1
 generalize splice cur ((i+1)*3) ((QW KV qs).drop (i*3))=c1 at*
 obtain⟨W1,hW1⟩: ∃W1,W1=w.drew.setRow b c1.toArray:=⟨_,rfl⟩
 rw[←hW1]at hB2 hV2 hK1 hcpA
 have HA:=QQ hcpA
 have HC:=QQ (hcp2 W1 c1 hB2 hV2 hl2)
 have HF:=QQ hfin
 have HK:=QQ hK1
 have HB2:=QQ hB2
 have HL2:=QQ hl2
 clear hcp1 hcp2 hcpA hfin hK1 hB2 hV2 hl2 hdl hfl hW1 hB1
 clear h
 go_enter Tryz.func173,Tryz.ntmps173
 go_wp2_with (simp only[hov])
 go_region_law (refine Qk7 rfl (.tmp 73) (.tmp 76) 98 98 rfl (.slice (some ⟨b,(i+1)*3,none⟩) (n-i) (c- (i+1))) (.slice (some ⟨b,i*3,none⟩) (n+1-i) (c-i)) (by simp[Act.eval,Act.put]) (by simp[Act.eval,Act.put]) (HA.out _ _ _ _ _ rfl (by omega)) ?_)
 have hC2:=fun ty=>HC.out ty (c-i) (n+1-i) (by omega)
 go_wp2_with (simp only[hC2])
 go_ret
 have hB3:=QJ.setRow W1 b c1.toArray (splice c1 (i*3) (KV q)).toArray 252 HB2.out
 have hR:=QY.of_whole (n:=n+1) (c:=c) (sz:=3) hB3 hc hcm (by rw[length_splice _ _ _ (by rw[HL2.out];simp[JK];omega),HL2.out])
 rw[HF.out]at hR
 refine⟨_,_,rfl,hR, ?_,fun g hg=> .inl hg⟩
 exact((QK.of_below (Below.drew (Below.refl _ w)) (fun i=>QZ (some ⟨b,0,none⟩)=some i)).trans HK.out (fun i h=> .inl (by subst h;rfl))).trans (QK.setRow _ _ _) (fun i h=> .inl (by subst h;rfl))
theorem Xh0 (w:World) (b n c i:Nat) (qs:List XJ) (vb:Nat) (q:XJ) (h:QY w (some ⟨b,0,none⟩) n c 252 3 (QW KV qs)) (hv:QJ w vb 252 (KV q).toArray) (hn:n≤100000) (hi:i<n) (hc:c<n+1):
  Calls Tryz.prog 173 #[.slice (some ⟨b,0,none⟩) n c,.int .i64 i,.slice (some ⟨vb,0,none⟩) 1 1] w fun e w'=>
   ∃A' c',e= .returned (.slice A' (n+1) c')∧Jt8 w w' (some ⟨b,0,none⟩) A' (n+1) c' (qs.take i++q::qs.drop i):=by
 obtain⟨cur,hB,hnc,hcm,hcl,hct⟩:=h.whole
 obtain⟨i0,hi0,hz0,hz1,hz2⟩:=info_parts Qt4
 have hz2': ¬((i:Int)=(n:Int)):=by omega
 have hz3:(c:Int)< (n:Int)+1:=by omega
 have hw1:IntKind.i64.wrap ((i:Int)+ (1:Int))=(i:Int)+1:=by rw[IntKind.wrap_i64];omega
 have hb1:(0:Int)≤(i:Int)+1:=by omega
 have htn:((i:Int)+1).toNat=i+1:=by omega
 have hin:i≤n:=by omega
 have hib:(i:Int)≤(n:Int):=by omega
 have hci: ¬(c=i):=by omega
 have hkk:(n:Int)+1- (i:Int)=((n+1-i:Nat):Int):=by omega
 have hik:i+ (n+1-i)=n+1:=by omega
 have hfl:(QW KV qs).length=n*3:=h.1
 have hdl:((QW KV qs).drop (i*3)).length=(n-i)*3:=by rw[List.length_drop,hfl];omega
 have hbw:=QJ.lt hB
 have hvw:=QJ.lt hv
 have hold:(Builtin.firstCells i0.size i (.slice (some ⟨b,0,none⟩) i c)).run Tryz.prog w.drew= .ok ((QW KV qs).take (i*3)).toArray w.drew:=by
  rw[hz1];exact run_firstCells_some w.drew 3 i ⟨b,0,none⟩ i c _ (by rw[List.length_take,hfl];omega) (fun j v hj=>by
   rw[U6,QJ.cell (QJ.drew hB),Nat.zero_add];rw[←hct,List.take_take,List.getElem?_take]at hj
   split at hj
   ·simpa using hj
   ·cases hj)
 obtain⟨G,hG⟩: ∃G,G=grownCap w (n+1) c 252:=⟨_,rfl⟩
 have hGn:n+1≤G:=by rw[hG];exact grownCap_ge w _ _ _
 have hGm:G≤maxLen:=by rw[hG];exact grownCap_le_maxLen w (n+1) c 252 (by unfold maxLen;omega)
 have hG63:G≤9223372036854775807:=by unfold maxLen at hGm;omega
 obtain⟨ROW,hROW⟩: ∃ROW:List Value,ROW=(((QW KV qs).take (i*3)).toArray++Builtin.zeroCells (Value.agg #[.int .i64 0,.int .i64 0,.int .i64 0]).cells (n+1-i)++Builtin.zeroCells (Value.agg #[.int .i64 0,.int .i64 0,.int .i64 0]).cells (G- (n+1))).toList:=⟨_,rfl⟩
 have hRl:ROW.length=G*3:=by
  rw[hROW];simp only[Array.length_toList,Array.size_append,List.size_toArray,List.length_take,hfl,size_zeroCells];simp[Value.cells];omega
 have hRt:ROW.take (i*3)=(QW KV qs).take (i*3):=by
  rw[hROW];simp only[Array.toList_append,List.append_assoc];exact List.take_append_of_le_length (by simp[hfl];omega) |>.trans (by simp[List.take_take])
 have hrz: ∀ty,(Builtin.append_ #[98,3] ty #[.slice (some ⟨b,0,none⟩) i c,.int .i64 ((n:Int)+1- (i:Int))]).run Tryz.prog w=
   .ok (.slice (some ⟨w.heap.size,0,none⟩) (n+1) G) (w.drew.alloc (.cells ROW.toArray 252)):=fun ty=>by
  have h:=Lib.run_append_grow_zeros w 98 3 ty 252 i0 _ .i64 .i64 Tryz.underlying98 Tryz.underlying3 hi0 hz0 (some ⟨b,0,none⟩) i c ((QW KV qs).take (i*3)) hold (n+1-i) (by omega) (by omega) (by omega) (by omega) (by rw[hz2];omega) (by rw[hz2,hik];exact growslice_fits hc (by omega));rw[hik,←hG]at h;rw[hkk,h,hROW]
 obtain⟨W1,hW1⟩: ∃W1,W1=w.drew.alloc (.cells ROW.toArray 252):=⟨_,rfl⟩
 obtain⟨H,hH⟩: ∃H,H=w.heap.size:=⟨_,rfl⟩
 have hR1:QJ W1 H 252 ROW.toArray:=by rw[hW1,hH];exact QJ.new w.drew _ _
 have hS1:QJ W1 b 252 cur.toArray:=by rw[hW1];exact QJ.alloc (QJ.drew hB) _
 have hV1:QJ W1 vb 252 (KV q).toArray:=by rw[hW1];exact QJ.alloc (QJ.drew hv) _
 have hbel:Below w.heap.size w W1:=by rw[hW1];exact(Below.drew (Below.refl _ w)).alloc (Nat.le_refl _) _
 rw[←hW1,←hH]at hrz
 have hbH:b≠H:=by omega
 have hvH:vb≠H:=by omega
 have hl2:(splice ROW (i*3) (KV q)).length=G*3:=by rw[length_splice _ _ _ (by rw[hRl,JK];omega),hRl]
 have hcA: ∀ty,(Builtin.copy_ #[98,98] ty #[.slice (some ⟨H,i*3,none⟩) (n+1-i) (G-i),.slice (some ⟨vb,0,none⟩) 1 1]).run Tryz.prog W1= .ok (goInt (1:Nat)) (W1.setRow H (splice ROW (i*3) (KV q)).toArray):=fun ty=>
  V1 W1 _ _ ty 252 3 H (i*3) (n+1-i) (G-i) ⟨vb,0,none⟩ 1 1 ROW.toArray 252 (KV q) 1 (by simp only[Nat.min_def];split<;>omega) Tryz.underlying98 (by rw[hi0];simp[hz1]) hR1 rfl
   (fun j v hj=>by rw[U6,QJ.cell hV1];simpa using hj) (by simp[hRl,JK];omega) (Qd7 q)
 have hR2:=QJ.setRow W1 H ROW.toArray (splice ROW (i*3) (KV q)).toArray 252 hR1
 have hS2:=QJ.keeps hS1 (QK.setRow W1 H (splice ROW (i*3) (KV q)).toArray) hbH
 have hk2:=QK.setRow W1 H (splice ROW (i*3) (KV q)).toArray
 have hfin:=Jl9 ROW (QW KV qs) (KV q) i n 3 hin hfl hRt (JK q) (by rw[hRl];omega)
 rw[Qn7 JK]at hfin
 generalize splice ROW (i*3) (KV q)=c2 at*
 obtain⟨W2,hW2⟩: ∃W2,W2=W1.setRow H c2.toArray:=⟨_,rfl⟩
 rw[←hW2]at hR2 hS2 hk2 hcA
 have hcB: ∀ty,(Builtin.copy_ #[98,98] ty #[.slice (some ⟨H,(i+1)*3,none⟩) (n-i) (G- (i+1)),.slice (some ⟨b,i*3,none⟩) (n-i) (c-i)]).run Tryz.prog W2.drew= .ok (goInt (n-i:Nat)) (W2.drew.setRow H (splice c2 ((i+1)*3) ((QW KV qs).drop (i*3))).toArray):=fun ty=>
  V1 W2.drew _ _ ty 252 3 H ((i+1)*3) (n-i) (G- (i+1)) ⟨b,i*3,none⟩ (n-i) (c-i) c2.toArray 252 ((QW KV qs).drop (i*3)) (n-i) (by simp only[Nat.min_def];split<;>omega) Tryz.underlying98 (by rw[hi0];simp[hz1]) (QJ.drew hR2) hdl
   (fun j v hj=>by
    rw[U6,QJ.cell (QJ.drew hS2)];rw[List.getElem?_drop,←hct,List.getElem?_take]at hj
    split at hj
    ·simpa using hj
    ·cases hj)
   (by rw[hdl];simp[hl2];omega) (fun v hv=>Qi4 Qd7 qs v (List.mem_of_mem_drop hv))
 have hR3:=QJ.setRow W2.drew H c2.toArray (splice c2 ((i+1)*3) ((QW KV qs).drop (i*3))).toArray 252 (QJ.drew hR2)
 have hk3:=QK.setRow W2.drew H (splice c2 ((i+1)*3) ((QW KV qs).drop (i*3))).toArray
 have hl3:(splice c2 ((i+1)*3) ((QW KV qs).drop (i*3))).length=G*3:=by rw[length_splice _ _ _ (by rw[hdl,hl2];omega),hl2]
 have hRow:=QY.of_whole (n:=n+1) (c:=G) (sz:=3) hR3 hGn hGm hl3
 rw[hfin]at hRow
 generalize splice c2 ((i+1)*3) ((QW KV qs).drop (i*3))=c3 at*
 obtain⟨W3,hW3⟩: ∃W3,W3=W2.drew.setRow H c3.toArray:=⟨_,rfl⟩
 rw[←hW3]at hcB hk3 hRow
 have hK:Below w.heap.size w W3:=hbel.trans (((hk2.below (B:=w.heap.size) (fun i h=>by have:i=H:=h;omega) hbel.size).trans (Below.drew (Below.refl _ W2))).trans (hk3.below (B:=w.heap.size) (fun i h=>by have:i=H:=h;omega) (Nat.le_trans hbel.size hk2.size)))
 have HK:=QQ hK
 have HR:=QQ hRow
 have HH:=QQ hH
 have hGi: ¬(G=i):=by omega
 have hGi1: ¬(G=i+1):=by omega
 have HB:=QQ hcB
 clear hK hRow hH hk3 hl3 hR3 hcB hW3 hR2 hS2 hk2 hfin hW2 hl2 hR1 hS1 hV1 hbel hW1 hRt hRl hROW hG hold hdl hfl hkk hik hB hv h hcl hct
 go_enter Tryz.func173,Tryz.ntmps173
 go_wp2_with (first|(at_builtin;refine Lib.wpList_append_run _ rfl _ _ _ _ rfl _ _ rfl rfl _ _ (hrz _) ?_)|simp only[hcA])
 go_region_law (refine Qk7 rfl (.tmp 50) (.tmp 53) 98 98 rfl (.slice (some ⟨H,(i+1)*3,none⟩) (n-i) (G- (i+1))) (.slice (some ⟨b,i*3,none⟩) (n-i) (c-i)) (by simp[Act.eval,Act.put]) (by simp[Act.eval,Act.put]) (HB.out _) ?_)
 go_wp2
 go_ret
 refine⟨_,_,rfl,HR.out,QK.of_below HK.out _,fun g hg=> .inr (by cases hg;show _≤H;rw[HH.out];exact Nat.le_refl _)⟩
theorem Xo6 (w:World) (A:Option Addr) (n c i:Nat) (qs:List XJ) (vb:Nat) (q:XJ) (h:QY w A n c 252 3 (QW KV qs)) (hv:QJ w vb 252 (KV q).toArray) (hvb:QZ A≠some vb) (hn:n≤100000) (hi:i≤n):
  Calls Tryz.prog 173 #[.slice A n c,.int .i64 i,.slice (some ⟨vb,0,none⟩) 1 1] w fun e w'=>
   ∃A' c',e= .returned (.slice A' (n+1) c')∧Jt8 w w' A A' (n+1) c' (qs.take i++q::qs.drop i):=by
 have hl:qs.length=n:=by have:=h.1;rw[OJ JK]at this;omega
 by_cases e:i=n
 ·subst e
  have:=Xo5 w A i c qs vb q h hv hn
  rwa [List.take_of_length_le (by omega),List.drop_eq_nil_of_le (by omega)]
 ·obtain⟨g,hA,_⟩:=h.elem JK (by omega) (i:=i) (by omega)
  subst hA
  by_cases hc:n+1≤c
  ·exact Jx7 w g n c i qs vb q h hv (fun e=>hvb (by rw[e];rfl)) hn (by omega) hc
  ·exact Xh0 w g n c i qs vb q h hv hn (by omega) (by omega)
end Go.Proofs.YtnlngicnfegjgaaGreatDoor
