/- Contracts and walks that the law's proof needs. -/
import Derived.WalkKit
import Derived.WalkLawsBesides
import Derived.WalkSpells
import Derived.Deep.QuietTactic
import Derived.BigQuiet
import Derived.Deep.LoopGhost
import Derived.Deep.DeepCutAuto
import Derived.Deep.CutBlock
import Derived.Laws.EntriesVeiled
import Derived.Test.YtbmiieehkkfbgaaGreatDoorZd27
import Derived.Test.YtbmiieehkkfbgaaGreatDoorZd20
import Derived.Deep.AppendLies
import Derived.Test.YtbmiieehkkfbgaaGreatDoorZd10
import Derived.Test.YtbmiieehkkfbgaaGreatDoorZd5
import Derived.Test.YtbmiieehkkfbgaaGreatDoorZd25
import Derived.Test.YtbmiieehkkfbgaaGreatDoorZd4
import Derived.Test.YtbmiieehkkfbgaaGreatDoorZd19
set_option linter.unusedVariables false
set_option maxRecDepth 100000
set_option maxHeartbeats 8000000
namespace Go.Proofs.YtbmiieehkkfbgaaGreatDoor
open Go.RowKit
theorem Ky4 (w:World) (B1 B2:Nat) (s p:Int) (hs:UQ s) (o:QX) (c1:w.cell? ⟨B1,0,none⟩=some (.int .i64 s)) (c2:w.cell? ⟨B2,0,none⟩=some (.int .i64 p)):
  Calls Tryz.prog 194 #[KJ o,.pointer (some ⟨B1,0,none⟩),.pointer (some ⟨B2,0,none⟩)] w fun e w'=>e= .returned (.bool (Qk3 s p o))∧Below w.heap.size w w':=by
 unfold KJ
 have hA:Below w.heap.size w (w.alloc (.cells #[.int .i64 o.id,.int .i64 o.side,.int .i64 o.kind,.int .i64 o.price,.int .i64 o.qty] 117)):=(Below.refl _ _).alloc (Nat.le_refl _) _
 have k1:=(hA.cell (p:=⟨B1,0,none⟩) (World.block_lt_of_cell? w _ c1)).trans c1
 have k2:=(hA.cell (p:=⟨B2,0,none⟩) (World.block_lt_of_cell? w _ c2)).trans c2
 have HA:=QQ hA
 clear hA c1 c2
 by_cases hk:o.kind=2
 ·have t1:=Z2 hk
  have HE:Hid (Qk3 s p o=true):=QQ (by unfold Qk3;rw[t1];rfl);clear hk hs;go_enter Tryz.func194,Tryz.ntmps194
  go_wp2;go_ret;exact⟨Q5 (by rw[HE.out]),HA.out⟩
 ·have t1:=YW hk
  rcases hs with rfl|rfl
  ·have HE:Hid (Qk3 1 p o=decide (p≤o.price)):=QQ (by unfold Qk3;rw[t1];simp)
   by_cases hp:p≤o.price
   ·have t4:=J0 hp
    clear hk hp;go_enter Tryz.func194,Tryz.ntmps194
    go_wp2;go_ret;exact⟨Q5 (by rw[HE.out,t4]),HA.out⟩
   ·have t4:=OY hp
    clear hk hp;go_enter Tryz.func194,Tryz.ntmps194
    go_wp2;go_ret;exact⟨Q5 (by rw[HE.out,t4]),HA.out⟩
  ·have HE:Hid (Qk3 2 p o=decide (o.price≤p)):=QQ (by unfold Qk3;rw[t1];simp)
   by_cases hp:o.price≤p
   ·have t4:=J0 hp
    clear hk hp;go_enter Tryz.func194,Tryz.ntmps194
    go_wp2;go_ret;exact⟨Q5 (by rw[HE.out,t4]),HA.out⟩
   ·have t4:=OY hp
    clear hk hp;go_enter Tryz.func194,Tryz.ntmps194
    go_wp2;go_ret;exact⟨Q5 (by rw[HE.out,t4]),HA.out⟩
structure Jx6 (w wr:World) (A:Option Addr) (c:Nat) (L:List QX) (B1 B2:Nat) (s p:Int):Prop where
 row:QW wr A L.length c 117 5 (JQ I6 L)
 c1:wr.cell? ⟨B1,0,none⟩=some (.int .i64 s)
 c2:wr.cell? ⟨B2,0,none⟩=some (.int .i64 p)
 old:Below w.heap.size w wr
theorem Jx6.below {w wr w':World} {A:Option Addr} {c:Nat} {L:List QX} {B1 B2:Nat} {s p:Int} (h:Jx6 w wr A c L B1 B2 s p) (hb:Below wr.heap.size wr w'):Jx6 w w' A c L B1 B2 s p:=
 ⟨h.row.below hb,(hb.cell (p:=⟨B1,0,none⟩) (World.block_lt_of_cell? wr _ h.c1)).trans h.c1,(hb.cell (p:=⟨B2,0,none⟩) (World.block_lt_of_cell? wr _ h.c2)).trans h.c2,h.old.trans (hb.mono h.old.size)⟩
theorem Jp9 {s p:Int} {L:List QX} (h: ∀o∈L,1≤o.qty∧o.qty≤1000000):0≤O2 s p L∧O2 s p L≤1000000*L.length:=by
 unfold O2
 induction L with
 |nil=>simp[Qf1]
 |cons o t ih=>
  have h1:=h o (by simp);have h2:=ih (fun y hy=>h y (by simp[hy]));simp only[Qf1,List.length_cons]
  split<;>omega
theorem Qc1 {w:World} {A:Option Addr} {n c sz:Nat} {t:TypeId} {xs:List Value} (h:QW w A n c t sz xs) (hn:0<n): ∃g,A=some ⟨g,0,none⟩:=by
 rcases h.2 with⟨_,h0⟩|⟨g,cap,cur,hv,_⟩
 ·omega
 ·cases hv;exact⟨g,rfl⟩
theorem Qr8 (w:World) (b:Nat) (G:Nat→Prop) (L1 L2:List QX) (h:Q1 w b G L1 L2) (s p:Int) (hs:UQ s):
  Calls Tryz.prog 173 #[.pointer (some ⟨b,0,none⟩),.int .i64 s,.int .i64 p] w fun e w'=>e= .returned (.int .i64 (O2 s p (JY s L1 L2)))∧Below w.heap.size w w':=by
 have hmf: ∀(fn:Fn) (first cap:Array Value) (w:World),(Instr.makeFunc fn first cap).run Tryz.prog w= .ok (.func fn first cap) w:=fun _ _ _ _=>rfl
 have eg:=Go.Proofs.enters_of Tryz.func194 (by kernel_rfl) rfl
 have hl:=h.lists
 obtain⟨L,hL⟩: ∃L,JY s L1 L2=L:=⟨_,rfl⟩
 have hok: ∀o∈L,1≤o.qty∧o.qty≤1000000:=by
  intro o ho;rw[←hL]at ho;have hm:o∈L1++L2:=by
   unfold JY at ho
   split at ho
   ·exact List.mem_append_left _ ho
   ·exact List.mem_append_right _ ho
  exact(hl.ok o hm).2.2.2
 have hlen:L.length≤100:=by
  have h1:=hl.cnt;rw[List.length_append]at h1;rw[←hL];unfold JY
  split<;>omega
 have hA1:Below w.heap.size w (w.alloc (.cells #[.int .i64 s] 3)):=(Below.refl _ w).alloc (Nat.le_refl _) _
 have hA2:Below w.heap.size w ((w.alloc (.cells #[.int .i64 s] 3)).alloc (.cells #[.int .i64 p] 3)):=hA1.alloc (by simp) _
 have hc1:((w.alloc (.cells #[.int .i64 s] 3)).alloc (.cells #[.int .i64 p] 3)).cell? ⟨w.heap.size,0,none⟩=some (.int .i64 s):=QJ.cell (QJ.alloc (QJ.new w 3 #[.int .i64 s]) _) 0
 have hc2:((w.alloc (.cells #[.int .i64 s] 3)).alloc (.cells #[.int .i64 p] 3)).cell? ⟨w.heap.size+1,0,none⟩=some (.int .i64 p):=by
  have:=QJ.cell (QJ.new (w.alloc (.cells #[.int .i64 s] 3)) 3 #[.int .i64 p]) 0;rw[World.size_alloc]at this;exact this
 have HC:=QQ (Qb9 _ b G L1 L2 (h.below hA2) s hs)
 rw[hL]at HC⊢
 have HA2:=QQ hA2
 have Hc1:=QQ hc1
 have Hc2:=QQ hc2
 have HOk:=QQ hok
 have HS:=QQ hs
 clear hA1 hA2 hc1 hc2 h hl hL hs hok
 go_enter Tryz.func173,Tryz.ntmps173
 go_wp2_with fail
 refine HC.out.mono ?_
 rintro e w3 ⟨hb3,A,c,rfl,hr3,-⟩
 have HW:=QQ (show Jx6 w w3 A c L w.heap.size (w.heap.size+1) s p from⟨hr3,(hb3.cell (p:=⟨w.heap.size,0,none⟩) (World.block_lt_of_cell? _ _ Hc1.out)).trans Hc1.out,(hb3.cell (p:=⟨w.heap.size+1,0,none⟩) (World.block_lt_of_cell? _ _ Hc2.out)).trans Hc2.out,HA2.out.trans (hb3.mono HA2.out.size)⟩)
 obtain⟨n,hn⟩: ∃n,L.length=n:=⟨_,rfl⟩
 rw[hn]
 have Hn:=QQ hn
 have hn100:n≤100:=by omega
 clear hb3 hr3 HC HA2 Hc1 Hc2 hlen hn
 go_wp2_with fail
 go_loopg [7,22] n (fun g s7 s22 wr=> ∃i:Nat,i≤n∧g=n-i∧s22= .int .i64 i∧s7= .int .i64 (O2 s p (L.take i))∧Hid (Jx6 w wr A c L w.heap.size (w.heap.size+1) s p))
 case atStart=>exact⟨0,Nat.zero_le _,rfl,rfl,rfl,HW⟩
 case round=>
  obtain⟨i,hi,rfl,rfl,rfl,HR⟩:=hrel;clear HW
  by_cases hlt:i<n
  ·have hil:i<L.length:=by rw[Hn.out];exact hlt
   obtain⟨g,hg⟩:=Qc1 HR.out.row (by omega);subst hg;obtain⟨x0,x1,x2,x3,x4⟩:=Qs7 HR.out.row hil;obtain⟨o,ho⟩: ∃o,L[i]=o:=⟨_,rfl⟩;have hoq:=HOk.out o (by rw[←ho];exact List.getElem_mem _);rw[ho]at x0 x1 x2 x3 x4;have Ht:=QQ (show O2 s p (L.take (i+1))=O2 s p (L.take i)+ (if Qk3 s p o=true then o.qty else 0) by
    rw[List.take_succ_eq_append_getElem hil,Xk9,ho];unfold O2;simp only[Qf1];omega)
   have hbd:=Jp9 (s:=s) (p:=p) (fun y hy=>HOk.out y (List.mem_of_mem_take hy): ∀y∈L.take i,_);rw[List.length_take,Hn.out,Nat.min_eq_left (by omega)]at hbd;obtain⟨acc,hacc⟩: ∃acc,O2 s p (L.take i)=acc:=⟨_,rfl⟩;rw[hacc]at Ht hbd⊢;have i1:RowKit.wrap64 (acc+o.qty)=acc+o.qty:=by unfold RowKit.wrap64;omega
   have hbx:Below wr.heap.size wr (wr.alloc (.cells #[.int .i64 o.id,.int .i64 o.side,.int .i64 o.kind,.int .i64 o.price,.int .i64 o.qty] 117)):=(Below.refl _ _).alloc (Nat.le_refl _) _;have hW2:=HR.out.below hbx;have hcall:=Ky4 _ w.heap.size (w.heap.size+1) s p HS.out o hW2.c1 hW2.c2;unfold KJ at hcall;have HC:=QQ hcall;have HBX:=QQ (QJ.new wr 117 #[.int .i64 o.id,.int .i64 o.side,.int .i64 o.kind,.int .i64 o.price,.int .i64 o.qty]);have HW2:=QQ hW2;have hltz:(i:Int)< (n:Int):=by omega
   have hi7:(0:Int)≤(i:Int):=by omega
   clear hcall hW2 hbx ho hacc;go_wp2_with fail
   refine HC.out.mono ?_;rintro e w5 ⟨rfl,hb5⟩;have hbx5:=QJ.keep HBX.out hb5;have z4:w5.cell? ⟨wr.heap.size,4,none⟩=some (.int .i64 o.qty):=by rw[QJ.cell hbx5];rfl
   have HW5:=QQ (HW2.out.below hb5);obtain⟨q,hq⟩: ∃q,Qk3 s p o=q:=⟨_,rfl⟩;rw[hq]at Ht⊢;clear hbx5 hb5 HC HW2 HBX HR x0 x1 x2 x3 x4 hq
   cases q with
   |true=>
    have Hs:=QQ (show acc+o.qty=O2 s p (L.take (i+1)) by rw[Ht.out,if_pos rfl]);go_wp2_with fail
    go_roundg (n- (i+1))
    case measure=>omega
    case rel=>exact⟨i+1,by omega,rfl,by go_num,by rw[←Hs.out],HW5⟩
   |false=>
    have Hs:=QQ (show acc=O2 s p (L.take (i+1)) by rw[Ht.out,if_neg (by decide)];omega);go_wp2_with fail
    go_roundg (n- (i+1))
    case measure=>omega
    case rel=>exact⟨i+1,by omega,rfl,by go_num,by rw[←Hs.out],HW5⟩
  ·obtain rfl:i=n:=by omega
   have hltz: ¬(i:Int)< (i:Int):=by omega
   have hfull:L.take i=L:=List.take_of_length_le (by rw[Hn.out];exact Nat.le_refl _);rw[hfull];have HO:=QQ HR.out.old;clear HR;go_wp2_with fail
   go_ret;exact⟨rfl,HO.out⟩
def Qb3 (f:XQ):List Value:= [.int .i64 f.b,.int .i64 f.s,.int .i64 f.p,.int .i64 f.n]
theorem Qu6 (f:XQ):(Qb3 f).length=4:=rfl
theorem Jl9:(Tryz.prog.info? 145).map (fun i=>(i.zero,i.size,i.bytes))=some (some (.agg #[.int .i64 0,.int .i64 0,.int .i64 0,.int .i64 0]),4,32):=by kernel_rfl
def Ki3:List QX→Int
 | []=>0
 |o::_=>o.qty
def Ki4:List QX→Int
 | []=>0
 |o::_=>o.id
def Qb4 (t:Int) (L1 L2:List QX) (F:List XQ):Prop:=
 ∀F1 f F2,F=F1++f::F2→f.n=min (t-Qa3 (·.n) F1) (min (Ki3 (VY L1 (Qa3 (·.n) F1))) (Ki3 (VY L2 (Qa3 (·.n) F1))))∧f.b=Ki4 (VY L1 (Qa3 (·.n) F1))∧f.s=Ki4 (VY L2 (Qa3 (·.n) F1))
theorem Qb4.start (t:Int) (L1 L2:List QX):Qb4 t L1 L2 []:=fun F1 f F2 h=>by cases F1<;>cases h
theorem Qb4.step {t:Int} {L1 L2:List QX} {F:List XQ} (h:Qb4 t L1 L2 F) {a:Int} (ha:Qa3 (·.n) F=a) {z:XQ} (hz:z.n=min (t-a) (min (Ki3 (VY L1 a)) (Ki3 (VY L2 a)))) (hb:z.b=Ki4 (VY L1 a)) (hs:z.s=Ki4 (VY L2 a)):Qb4 t L1 L2 (F++ [z]):=by
 intro F1 f F2 e
 rcases List.eq_nil_or_concat F2 with rfl|⟨F3,y,rfl⟩
 ·have e':=List.append_inj' e rfl
  obtain⟨rfl,e2⟩:=e'
  cases e2;rw[ha];exact⟨hz,hb,hs⟩
 ·rw[List.concat_eq_append]at e
  have e3:F1++f:: (F3++ [y])=(F1++f::F3)++ [y]:=by simp
  rw[e3]at e;have e':=List.append_inj' e rfl;exact h F1 f F3 e'.1
theorem Ko2 {t p:Int} {L1 L2:List QX} {F F':List XQ} (h:Qb4 t L1 L2 F) (h':Qb4 t L1 L2 F') (hp: ∀f∈F,f.p=p∧1≤f.n) (hp': ∀f∈F',f.p=p∧1≤f.n) (hs:Qa3 (·.n) F=t) (hs':Qa3 (·.n) F'=t):F=F':=by
 have pos: ∀(K:List XQ),(∀f∈K,f.p=p∧1≤f.n)→0≤Qa3 (·.n) K:=by
  intro K
  induction K with
  |nil=>intro _;simp[Qa3]
  |cons f K ih=>
   intro hK;have h1:=(hK f (by simp)).2;have h2:=ih (fun g hg=>hK g (by simp[hg]));simp only[Qa3];omega
 have app: ∀(K K2:List XQ),Qa3 (·.n) (K++K2)=Qa3 (·.n) K+Qa3 (·.n) K2:=by
  intro K K2
  induction K with
  |nil=>simp[Qa3]
  |cons f K ih=>simp only[List.cons_append,Qa3,ih];omega
 have key: ∀(B B' A:List XQ),F=A++B→F'=A++B'→B=B':=by
  intro B
  induction B with
  |nil=>
   intro B' A e e'
   cases B' with
   |nil=>rfl
   |cons f K=>
    exfalso
    rw[e]at hs;rw[e',app,←List.append_nil A,hs]at hs';have h1:=(hp' f (by rw[e'];simp)).2;have h2:=pos K (fun g hg=>hp' g (by rw[e'];simp[hg]));simp only[Qa3]at hs';omega
  |cons f K ih=>
   intro B' A e e'
   cases B' with
   |nil=>
    exfalso
    rw[e']at hs';rw[e,app,←List.append_nil A,hs']at hs;have h1:=(hp f (by rw[e];simp)).2;have h2:=pos K (fun g hg=>hp g (by rw[e];simp[hg]));simp only[Qa3]at hs;omega
   |cons f' K'=>
    obtain⟨a1,a2,a3⟩:=h A f K e;obtain⟨b1,b2,b3⟩:=h' A f' K' e';have c:=(hp f (by rw[e];simp)).1;have c':=(hp' f' (by rw[e'];simp)).1;have ef:f=f':=by
     obtain⟨x1,x2,x3,x4⟩:=f;obtain⟨y1,y2,y3,y4⟩:=f';dsimp only at a1 a2 a3 b1 b2 b3 c c';rw[a1,a2,a3,b1,b2,b3,c,c']
    subst ef;rw[ih K' (A++ [f]) (by rw[e];simp) (by rw[e'];simp)]
 exact key F F' [] rfl rfl
theorem Qy7 {L:List QX} (hn:(L.map (·.id)).Nodup) {o:QX} (ho:o∈L):Qa8 L o.id=some o:=by
 unfold Qa8
 cases hf:L.find? (fun x=>x.id ==o.id)with
 |none=>
  rw[List.find?_eq_none]at hf;have:=hf o ho;simp at this
 |some x=>
  have h1:=List.mem_of_find?_eq_some hf;have h2:=List.find?_some hf;have h3:x.id=o.id:=by simpa using h2
  rw[Qp7 (g:=fun x:QX=>x.id) hn h1 ho h3]
structure Qp9 (w wr:World) (b:Nat) (G G':Nat→Prop) (M1 M2:List QX) (A:Option Addr) (c:Nat) (F:List XQ):Prop where
 book:Q1 wr b G' M1 M2
 step:KQ w wr G G'
 row:QW wr A F.length c 145 4 (JQ Qb3 F)
 fpA: ∀g,QZ A=some g→ ¬G' g∧w.heap.size≤g
section
variable {w wr w':World} {b:Nat} {G G':Nat→Prop} {M1 M2:List QX} {A:Option Addr} {c:Nat} {F:List XQ}
theorem Qp9.below (h:Qp9 w wr b G G' M1 M2 A c F) (hb:Below wr.heap.size wr w'):Qp9 w w' b G G' M1 M2 A c F:=
 ⟨h.book.below hb,h.step.trans (KQ.of_below hb),h.row.below hb,h.fpA⟩
theorem Qp9.fill {f:XQ} {gg cap:Nat} (h:Qp9 w wr b G G' M1 M2 A c F) (hk:QK (fun i=>QZ A=some i) wr w') (ho:w'.ownsRow 0 145 4 (.slice (some ⟨gg,0,none⟩) (F.length+1) cap) (F.length+1) (JQ Qb3 F++Qb3 f)) (hat:QZ A=some gg∨wr.heap.size≤gg):
  Qp9 w w' b G G' M1 M2 (some ⟨gg,0,none⟩) cap (F++ [f]):=by
 refine⟨h.book.keeps hk (fun i hi e=>(h.fpA i e).1 hi),⟨h.step.1.trans hk (fun i hi=> .inr (h.fpA i hi).2),h.step.2⟩, ?_,fun g hg=> ?_⟩
 ·show w'.ownsRow 0 145 4 _ _ _
  rw[Y7,List.length_append];exact ho
 ·have e:gg=g:=by simpa [QZ]using hg
  subst e;rcases hat with h1|h1
  ·exact h.fpA _ h1
  ·refine⟨fun hG=> ?_, ?_⟩
   ·have:=h.book.fp hG;omega
   ·exact Nat.le_trans h.step.1.size h1
theorem Qp9.turn {M1' M2':List QX} (h:Qp9 w wr b G G' M1 M2 A c F) (hb:Qj9 wr w' b G' M1' M2'): ∃G'',Qp9 w w' b G G'' M1' M2' A c F∧QK G' wr w':=by
 obtain⟨G'',hA,hS⟩:=hb
 refine⟨G'',⟨hA,h.step.trans hS,h.row.keeps hS.1 (fun g hg=>(h.fpA g hg).1),fun g hg=>⟨fun hG=> ?_,(h.fpA g hg).2⟩⟩,hS.1⟩
 rcases hS.2 g hG with h1|h1
 ·exact(h.fpA g hg).1 h1
 ·have:=h.row.lt hg;omega
end
abbrev Xl2 (w wr:World) (b:Nat) (G G':Nat→Prop) (L1 L2:List QX) (a:Int) (A:Option Addr) (c:Nat) (F:List XQ):Prop:=Qp9 w wr b G G' (VY L1 a) (VY L2 a) A c F
theorem Ql2 {w2 w3:World} {o:Obj} {row:Option Nat} (h:(w2.alloc o).grownBy w3 row):QK (fun i=>row=some i) w2 w3:=OV ⟨h.os,h.tape,h.output,h.size,h.block⟩
theorem Qc2 {L1 L2:List QX} (h:ZW L1 L2):(L1.map (·.id)).Nodup∧(L2.map (·.id)).Nodup∧ ∀x∈L1,∀y∈L2,x.id≠y.id:=by
 have h1:=h.ids
 rw[List.map_append,List.nodup_append]at h1
 exact⟨h1.1,h1.2.1,fun x hx y hy=>h1.2.2 _ (List.mem_map.2 ⟨x,hx,rfl⟩) _ (List.mem_map.2 ⟨y,hy,rfl⟩)⟩
theorem Ko3 {L1:List QX} {x:QX} {t R2:List QX} {a n:Int} (h:ZW (VY L1 a) R2) (hq: ∀o∈L1,1≤o.qty) (h0:0≤a) (hx:VY L1 a=x::t) (h1:1≤n) (h2:n≤x.qty):
  Qa8 (VY L1 a++R2) x.id=some x∧Qf2 (VY L1 a) x n=VY L1 (a+n)∧Qf2 R2 x n=R2:=by
 obtain⟨d1,d2,d3⟩:=Qc2 h
 have hm:x∈VY L1 a:=by rw[hx];simp
 refine⟨Qy7 h.ids (List.mem_append_left _ hm), ?_,Jf3 fun y hy=>fun e=>d3 x hm y hy e.symm⟩
 rw[←Jf2 hq h0 hx h1 h2,hx]
 rw[hx,List.map_cons,List.nodup_cons]at d1
 exact Xf4 fun y hy e=>d1.1 (List.mem_map.2 ⟨y,hy,e⟩)
theorem Kc7 {L2:List QX} {y:QX} {u R1:List QX} {a n:Int} (h:ZW R1 (VY L2 a)) (hq: ∀o∈L2,1≤o.qty) (h0:0≤a) (hy:VY L2 a=y::u) (h1:1≤n) (h2:n≤y.qty):
  Qa8 (R1++VY L2 a) y.id=some y∧Qf2 (VY L2 a) y n=VY L2 (a+n)∧Qf2 R1 y n=R1:=by
 obtain⟨d1,d2,d3⟩:=Qc2 h
 have hm:y∈VY L2 a:=by rw[hy];simp
 refine⟨Qy7 h.ids (List.mem_append_right _ hm), ?_,Jf3 fun x hx=>d3 x hx y hm⟩
 rw[←Jf2 hq h0 hy h1 h2,hy]
 rw[hy,List.map_cons,List.nodup_cons]at d2
 exact Xf4 fun y hy e=>d2.1 (List.mem_map.2 ⟨y,hy,e⟩)
def Ko4 (w w':World) (b:Nat) (G:Nat→Prop) (L1 L2:List QX) (p t:Int) (e:Ending):Prop:=
 ∃F A c G',e= .returned (.tuple #[.slice A (List.length F) c,.nilIface])∧Ql1 L1 L2 p t F∧Qb4 t L1 L2 F∧Xl2 w w' b G G' L1 L2 t A c F
theorem Jx7 (hcut:Ki2) (w:World) (b:Nat) (G:Nat→Prop) (L1 L2:List QX) (h:Q1 w b G L1 L2) (p t:Int) (ht:1≤t) (hw1:t≤O2 1 p L1) (hw2:t≤O2 2 p L2):
  Calls Tryz.prog 126 #[.pointer (some ⟨b,0,none⟩),.int .i64 p,.int .i64 t] w fun e w'=>Ko4 w w' b G L1 L2 p t e:=by
 have hl:=h.lists
 have hq1: ∀o∈L1,1≤o.qty:=fun o ho=>(hl.ok o (List.mem_append_left _ ho)).2.2.2.1
 have hq2: ∀o∈L2,1≤o.qty:=fun o ho=>(hl.ok o (List.mem_append_right _ ho)).2.2.2.1
 have ha1:t≤Kc5 L1:=Int.le_trans hw1 (Xf3 hq1)
 have ha2:t≤Kc5 L2:=Int.le_trans hw2 (Xf3 hq2)
 have htb:t≤100000000:=by
  have h1:=Jp9 (s:=1) (p:=p) (L:=L1) (fun o ho=>(hl.ok o (List.mem_append_left _ ho)).2.2.2);have h2:=hl.cnt;rw[List.length_append]at h2;omega
 obtain⟨dd1,dd2,-⟩:=Qc2 hl
 have HC1:=QQ (Qr8 w b G L1 L2 h 1 p ZQ)
 rw[show JY 1 L1 L2=L1 from rfl]at HC1
 have HAt:=QQ h
 have HCut:=QQ hcut
 have Hq1:=QQ hq1
 have Hq2:=QQ hq2
 have Hd1:=QQ dd1
 have Hd2:=QQ dd2
 obtain⟨q1,hq1'⟩: ∃q,O2 1 p L1=q:=⟨_,rfl⟩
 obtain⟨q2,hq2'⟩: ∃q,O2 2 p L2=q:=⟨_,rfl⟩
 rw[hq1']at HC1 hw1
 rw[hq2']at hw2
 have HQ2:=QQ hq2'
 have d0:decide (t<1)=false:=OY (by omega)
 have d1:decide (q1<t)=false:=OY (by omega)
 have d2:decide (q2<t)=false:=OY (by omega)
 clear h hcut hl hq1 hq2 dd1 dd2 hq1' hq2' hw1 hw2
 go_enter Tryz.func126,Tryz.ntmps126
 go_wp2_with fail
 refine HC1.out.mono ?_
 rintro e w1 ⟨rfl,hb1⟩
 have hat1:=HAt.out.below hb1
 have hc2:=Qr8 w1 b G L1 L2 hat1 2 p ZJ
 rw[show JY 2 L1 L2=L2 from rfl,HQ2.out]at hc2
 have HC2:=QQ hc2
 have HB1:=QQ hb1
 have HAt1:=QQ hat1
 clear hb1 hat1 hc2 HC1
 go_wp2_with fail
 refine HC2.out.mono ?_
 rintro e w2 ⟨rfl,hb2⟩
 have hB:=HB1.out.trans (hb2.mono HB1.out.size)
 have HST:=QQ (show Xl2 w w2 b G G L1 L2 0 none 0 []from⟨by rw[Qu5 _ (Int.le_refl _),Qu5 _ (Int.le_refl _)];exact HAt1.out.below hb2,KQ.of_below hB,World.ownsRow_nil _ _ _ _,fun g hg=>by simp[QZ]at hg⟩)
 clear hb2 hB HC2 HB1 HAt1 HAt
 go_wp2_with fail
 go_loopg [2,8] t.toNat (fun g s2 s8 wr=> ∃(a:Int) (F:List XQ) (A:Option Addr) (c:Nat) (G':Nat→Prop),0≤a∧a≤t∧g=(t-a).toNat∧s2= .int .i64 (t-a)∧s8= .slice A F.length c∧Hid (Ql1 L1 L2 p a F)∧Hid (Qb4 t L1 L2 F)∧Hid (Xl2 w wr b G G' L1 L2 a A c F))
 case atStart=>exact⟨0,[],none,0,G,Int.le_refl _,by omega,by simp,by simp,rfl,QQ (Ql1.start Hq1.out Hq2.out),QQ (Qb4.start t L1 L2),HST⟩
 case round=>
  obtain⟨a,F,A,c,G',ha0,hat,rfl,rfl,rfl,HF,HX,HR⟩:=hrel;clear HST
  by_cases hlt:a<t
  ·have d3:decide (0<t-a)=true:=J0 (by omega)
   obtain⟨x,t1,hx⟩: ∃x t1,VY L1 a=x::t1:=by
    cases hd:VY L1 a with
    |nil=>exact absurd hd (Jx2 ha0 (by omega))
    |cons x t1=>exact⟨x,t1,rfl⟩
   obtain⟨y,u1,hy⟩: ∃y u1,VY L2 a=y::u1:=by
    cases hd:VY L2 a with
    |nil=>exact absurd hd (Jx2 ha0 (by omega))
    |cons y u1=>exact⟨y,u1,rfl⟩
   have hbest:=Ji7 wr b G' _ _ HR.out.book 1 ZQ;rw[show Kh4 (JY 1 (VY L1 a) (VY L2 a))=x by rw[hx];rfl,show Kh5 (JY 1 (VY L1 a) (VY L2 a))=0 by rw[hx];rfl,K0]at hbest;unfold KJ at hbest;have HB1:=QQ hbest;have Hx:=QQ hx;have Hy:=QQ hy;clear hbest hx hy;go_wp2_with fail
   refine HB1.out.mono ?_;rintro e w3 ⟨hb3,rfl⟩;have hAB: ∀g,QZ A=some g→g<w3.heap.size:=fun g hg=>Nat.lt_of_lt_of_le (HR.out.row.lt hg) hb3.size
   have HAB:=QQ hAB;have hR3:=HR.out.below (hb3.alloc hb3.size (.cells #[.int .i64 x.id,.int .i64 x.side,.int .i64 x.kind,.int .i64 x.price,.int .i64 x.qty] 117));have hbest:=Ji7 _ b G' _ _ hR3.book 2 ZJ;rw[show Kh4 (JY 2 (VY L1 a) (VY L2 a))=y by rw[Hy.out];rfl,show Kh5 (JY 2 (VY L1 a) (VY L2 a))=0 by rw[Hy.out];rfl,K0]at hbest;unfold KJ at hbest;have HB2:=QQ hbest;have HX3:=QQ (QJ.new w3 117 #[.int .i64 x.id,.int .i64 x.side,.int .i64 x.kind,.int .i64 x.price,.int .i64 x.qty]);have HR3:=QQ hR3;clear hbest hb3 hR3 HB1 HR hAB;go_wp2_with fail
   refine HB2.out.mono ?_;rintro e w4 ⟨hb4,rfl⟩;have hX4:=QJ.alloc (QJ.keep HX3.out hb4) (.cells #[.int .i64 y.id,.int .i64 y.side,.int .i64 y.kind,.int .i64 y.price,.int .i64 y.qty] 117);have hY4:=QJ.new w4 117 #[.int .i64 y.id,.int .i64 y.side,.int .i64 y.kind,.int .i64 y.price,.int .i64 y.qty];have hR4:=HR3.out.below (hb4.alloc hb4.size (.cells #[.int .i64 y.id,.int .i64 y.side,.int .i64 y.kind,.int .i64 y.price,.int .i64 y.qty] 117));have hne:w3.heap.size<w4.heap.size:=by have:=hb4.size;simp at this;omega
   have hG2: ¬G' w4.heap.size:=fun hG=>by have h1:=HR3.out.book.fp hG;have h2:=hb4.size;omega
   obtain⟨B1,hB1⟩: ∃B1,w3.heap.size=B1:=⟨_,rfl⟩;obtain⟨B2,hB2⟩: ∃B2,w4.heap.size=B2:=⟨_,rfl⟩;obtain⟨w5,hw5⟩: ∃w5,w4.alloc (.cells #[.int .i64 y.id,.int .i64 y.side,.int .i64 y.kind,.int .i64 y.price,.int .i64 y.qty] 117)=w5:=⟨_,rfl⟩;rw[hB1]at hX4 hne HAB⊢;rw[hw5,hB2]at hY4;rw[hw5]at hX4 hR4;rw[hB2]at hne hG2;have HX5:=QQ hX4;have HY5:=QQ hY4;have HR5:=QQ hR4;have HNe:=QQ hne;have HG2:=QQ hG2;have hl1:=QJ.lt hX4;have hl2:=QJ.lt hY4;have x0:w5.cell? ⟨B1,0,none⟩=some (.int .i64 x.id):=by rw[QJ.cell hX4];rfl
   have x4:w5.cell? ⟨B1,4,none⟩=some (.int .i64 x.qty):=by rw[QJ.cell hX4];rfl
   have y0:w5.cell? ⟨B2,0,none⟩=some (.int .i64 y.id):=by rw[QJ.cell hY4];rfl
   have y4:w5.cell? ⟨B2,4,none⟩=some (.int .i64 y.qty):=by rw[QJ.cell hY4];rfl
   clear hX4 hY4 hR4 hne hG2 HX3 HR3 HB2 hb4 hB1;obtain⟨n,hn⟩: ∃n,min (t-a) (min x.qty y.qty)=n:=⟨_,rfl⟩;have hxq:1≤x.qty:=(HR5.out.book.lists.ok x (List.mem_append_left _ (by rw[Hx.out];simp))).2.2.2.1;have hyq:1≤y.qty:=(HR5.out.book.lists.ok y (List.mem_append_right _ (by rw[Hy.out];simp))).2.2.2.1;have hn1:1≤n:=by omega
   have hnx:n≤x.qty:=by omega
   have hny:n≤y.qty:=by omega
   have hnt:n≤t-a:=by omega
   have HN:=QQ hn;clear hn;go_upto_region 7 with fail
   go_cut [13] (fun s13 wx=>s13= .int .i64 n∧wx=w5)
   case first=>
    go_wp2_with fail
    all_goals go_meet
    all_goals refine⟨?_,rfl⟩
    all_goals rw[←HN.out]
    all_goals congr 1
    all_goals first
     |omega
     |(split at h<;>first|omega|(split<;>omega))
     |(split<;>first|omega|(split at h<;>omega))
   case rest=>
    obtain⟨rfl,rfl⟩:=hcut;have hF1:F.length≤100000000:=by have:=HF.out.len;omega
    obtain⟨i0,hi0,hz0,hz1,hz2⟩:=info_parts Jl9;have HO1:=QQ (World.ownsRow.alloc (show wc.ownsRow 0 145 4 (.slice A F.length c) F.length (JQ Qb3 F)from HR5.out.row) (.cells #[.int .i64 x.id,.int .i64 y.id,.int .i64 p,.int .i64 n] 145));go_upto_region 9 with(at_builtin;refine wpList_append_lies _ rfl _ _ 94 rfl 0 145 i0 _ 4 32 Tryz.underlying94 hi0 hz0 hz1 hz2 rfl (by omega) (.slice A F.length c) F.length _ rfl HO1.out ⟨wc.heap.size,0,none⟩ 1 1 [.int .i64 x.id,.int .i64 y.id,.int .i64 p,.int .i64 n] rfl rfl (World.news_of_block (cs:= #[.int .i64 x.id,.int .i64 y.id,.int .i64 p,.int .i64 n]) (t:=145) (fr:=(0,0)) (heap_alloc_new wc _)) (by simp[Value.oneCell']) (by omega) (by unfold maxLen;omega) (by omega) (by simp) (wc.heap.size+1) (by simp) ?_;intro gg cap w6 hown hgrow hat6 hlt6)
    have hk6:=Ql2 hgrow;rw[JW]at hk6 hat6;have hR6:=HR5.out.fill (f:=⟨x.id,y.id,p,n⟩) hk6 hown (hat6.imp id (fun e=>by omega));have nB1: ¬QZ A=some B1:=fun e=>by have:=HAB.out _ e;omega
    have nB2: ¬QZ A=some B2:=fun e=>by have h1:=HAB.out _ e;have h2:=HNe.out;omega
    have z0:w6.cell? ⟨B1,0,none⟩=some (.int .i64 x.id):=(hk6.cell (p:=⟨B1,0,none⟩) hl1 nB1).trans x0;have z1:w6.cell? ⟨B2,0,none⟩=some (.int .i64 y.id):=(hk6.cell (p:=⟨B2,0,none⟩) hl2 nB2).trans y0;have hl6:B2<w6.heap.size:=Nat.lt_of_lt_of_le hl2 hk6.size;obtain⟨c1,c2,c3⟩:=Ko3 hR6.book.lists Hq1.out ha0 Hx.out hn1 hnx;have hca:=HCut.out w6 b G' _ _ hR6.book x.id n (by unfold KZ;omega);have HCa:=QQ hca;have HR6:=QQ hR6;have HC1:=QQ c1;have HC2:=QQ c2;have HC3:=QQ c3;have HFn:=QQ (HF.out.step Hq1.out Hq2.out Hd1.out Hd2.out ha0 Hx.out Hy.out hn1 hnx hny);have HXn:=QQ (HX.out.step HF.out.sum (z:=⟨x.id,y.id,p,n⟩) (by rw[Hx.out,Hy.out];exact HN.out.symm) (by rw[Hx.out];rfl) (by rw[Hy.out];rfl));clear hk6 hown hgrow hat6 hlt6 hR6 nB1 nB2 c1 c2 c3 hca x0 x4 y0 y4 HO1 HR5 HX5 HY5 HF HX hl1 hl2 hi0 hz0 hz1 hz2 hxq hyq;go_wp2_with fail
    refine HCa.out.mono ?_;rintro e w7 (⟨h0,-,-⟩|⟨o,h0,-,-,rfl,hto⟩)
    ·exfalso
     apply h0;unfold Jx3;rw[HC1.out];exact if_neg (by omega)
    ·rw[HC1.out]at h0
     obtain rfl:=Option.some.inj h0;rw[HC2.out,HC3.out]at hto;obtain⟨G2,hR7,hk7⟩:=HR6.out.turn hto;have z2:w7.cell? ⟨B2,0,none⟩=some (.int .i64 y.id):=(hk7.cell (p:=⟨B2,0,none⟩) hl6 HG2.out).trans z1;obtain⟨c1,c2,c3⟩:=Kc7 hR7.book.lists Hq2.out ha0 Hy.out hn1 hny;have hca:=HCut.out w7 b G2 _ _ hR7.book y.id n (by unfold KZ;omega);have HCb:=QQ hca;have HR7:=QQ hR7;have HD1:=QQ c1;have HD2:=QQ c2;have HD3:=QQ c3;clear hto hk7 hR7 c1 c2 c3 hca h0 z0 z1 HCa HR6 HC1 HC2 HC3;go_wp2_with fail
     refine HCb.out.mono ?_;rintro e w8 (⟨h0,-,-⟩|⟨o,h0,-,-,rfl,hto⟩)
     ·exfalso
      apply h0;unfold Jx3;rw[HD1.out];exact if_neg (by omega)
     ·rw[HD1.out]at h0
      obtain rfl:=Option.some.inj h0;rw[HD2.out,HD3.out]at hto;obtain⟨G3,hR8,-⟩:=HR7.out.turn hto;have HR8:=QQ hR8;have i1:RowKit.wrap64 (t-a-n)=t- (a+n):=by unfold RowKit.wrap64;omega
      clear hto hR8 h0 z2 HCb HR7 HD1 HD2 HD3;go_wp2_with fail
      go_roundg (t- (a+n)).toNat
      case measure=>omega
      case rel=>exact⟨a+n,F++ [⟨x.id,y.id,p,n⟩],_,cap,G3,by omega,by omega,rfl,by congr 1<;>omega,by simp,HFn,HXn,HR8⟩
  ·obtain rfl:a=t:=by omega
   have d3:decide (0<a-a)=false:=OY (by omega);go_wp2_with fail
   refine bodyPost_ret (results_tmp2 rfl _ _ _) rfl ?_;exact⟨F,A,c,G',rfl,HF.out,HX.out,HR.out⟩
structure U8 (σ:Type)where
 fills:List XQ
 left:QX
 stop:Bool
 st:σ
 rest:List QX
def Jx8 (o x:QX) (n:Int):XQ:=if o.side=2 then⟨x.id,o.id,x.price,n⟩else⟨o.id,x.id,x.price,n⟩
def X6 (o x:QX):Bool:= !(o.kind ==2) && ((o.side ==1 &&decide (o.price<x.price)) || (o.side ==2 &&decide (x.price<o.price)))
def Qr9 (x:QX) (n:Int):List QX:=if n=x.qty then []else [I9 x n]
section
variable {σ:Type} (al:σ→Int→Bool) (tr:σ→Int→σ)
def VX:List QX→QX→σ→U8 σ
 | [],o,s=>⟨[],o,false,s,[]⟩
 |x::t,o,s=>
  if o.qty<1 then⟨[],o,false,s,x::t⟩
  else if x.kind=2 then⟨(VX t o s).fills,(VX t o s).left,(VX t o s).stop,(VX t o s).st,x:: (VX t o s).rest⟩
  else if X6 o x=true then⟨[],o,false,s,x::t⟩
  else if al s x.price=false then⟨[],o,true,s,x::t⟩
  else⟨Jx8 o x (min o.qty x.qty):: (VX t (I9 o (min o.qty x.qty)) (tr s x.price)).fills,(VX t (I9 o (min o.qty x.qty)) (tr s x.price)).left,(VX t (I9 o (min o.qty x.qty)) (tr s x.price)).stop,(VX t (I9 o (min o.qty x.qty)) (tr s x.price)).st,Qr9 x (min o.qty x.qty)++(VX t (I9 o (min o.qty x.qty)) (tr s x.price)).rest⟩
def U8.join (F:List XQ) (R:List QX) (r:U8 σ):U8 σ:=⟨F++r.fills,r.left,r.stop,r.st,R++r.rest⟩
variable {al tr} {F:List XQ} {R t:List QX} {x o:QX} {s:σ}
theorem join_nil (r:U8 σ):U8.join [] [] r=r:=rfl
theorem Xu3:U8.join F R (VX al tr [] o s)=⟨F,o,false,s,R⟩:=by
 unfold VX U8.join
 simp
theorem Xf7 (h:o.qty<1):U8.join F R (VX al tr t o s)=⟨F,o,false,s,R++t⟩:=by
 cases t with
 |nil=>unfold VX U8.join;simp
 |cons x t=>unfold VX U8.join;rw[if_pos h];simp
theorem Xu4 (h: ¬o.qty<1) (hk:x.kind=2):U8.join F R (VX al tr (x::t) o s)=U8.join F (R++ [x]) (VX al tr t o s):=by
 rw[VX,if_neg h,if_pos hk]
 unfold U8.join
 simp
theorem Jq0 (h: ¬o.qty<1) (hk: ¬x.kind=2) (hb:X6 o x=true):U8.join F R (VX al tr (x::t) o s)=⟨F,o,false,s,R++x::t⟩:=by
 rw[VX,if_neg h,if_neg hk,if_pos hb]
 unfold U8.join
 simp
theorem Xf8 (h: ¬o.qty<1) (hk: ¬x.kind=2) (hb:X6 o x=false) (ha:al s x.price=false):U8.join F R (VX al tr (x::t) o s)=⟨F,o,true,s,R++x::t⟩:=by
 rw[VX,if_neg h,if_neg hk,if_neg (by rw[hb];simp),if_pos ha]
 unfold U8.join
 simp
theorem Jx9 (h: ¬o.qty<1) (hk: ¬x.kind=2) (hb:X6 o x=false) (ha:al s x.price=true) {n:Int} (hn:min o.qty x.qty=n):U8.join F R (VX al tr (x::t) o s)=U8.join (F++ [Jx8 o x n]) (R++Qr9 x n) (VX al tr t (I9 o n) (tr s x.price)):=by
 rw[VX,if_neg h,if_neg hk,if_neg (by rw[hb];simp),if_neg (by rw[ha];simp),hn]
 unfold U8.join
 simp
end
theorem Ky5 {R t:List QX} {x:QX} {n:Int} (hn:((R++x::t).map (·.id)).Nodup):Qf2 (R++x::t) x n=(R++Qr9 x n)++t:=by
 rw[List.map_append,List.map_cons,List.nodup_append,List.nodup_cons]at hn
 have h1: ∀y∈R,y.id≠x.id:=fun y hy e=>hn.2.2 _ (List.mem_map.2 ⟨y,hy,rfl⟩) _ (List.mem_cons_self) e
 have h2: ∀y∈t,y.id≠x.id:=fun y hy e=>hn.2.1.1 (List.mem_map.2 ⟨y,hy,e⟩)
 unfold Qf2 Qr9
 by_cases hq:n=x.qty
 ·rw[if_pos hq,if_pos hq]
  unfold O0;rw[List.filter_append,List.filter_cons_of_neg (by simp),List.filter_eq_self.2 (fun y hy=>by simpa using h1 y hy),List.filter_eq_self.2 (fun y hy=>by simpa using h2 y hy)];simp
 ·rw[if_neg hq,if_neg hq]
  unfold Xp4;rw[List.map_append,List.map_cons,if_pos rfl];have e1:R.map (fun o=>if o.id=x.id then I9 o n else o)=R:=by
   conv=>rhs;rw[←List.map_id R]
   exact List.map_congr_left fun y hy=>if_neg (h1 y hy)
  have e2:t.map (fun o=>if o.id=x.id then I9 o n else o)=t:=by
   conv=>rhs;rw[←List.map_id t]
   exact List.map_congr_left fun y hy=>if_neg (h2 y hy)
  rw[e1,e2];simp
theorem Xf9 (s:Int) (M1 M2:List QX) (x:QX) (n:Int):JY s (Qf2 M1 x n) (Qf2 M2 x n)=Qf2 (JY s M1 M2) x n:=by
 unfold JY
 split<;>rfl
theorem Ky6 {L1 L2:List QX} (h:ZW L1 L2) (s:Int):((JY s L1 L2).map (·.id)).Nodup:=by
 have h1:=Qc2 h
 unfold JY
 split
 ·exact h1.1
 ·exact h1.2.1
theorem Xu5 {M1 M2 R t:List QX} {s:Int} {x:QX} {n:Int} (h:ZW M1 M2) (hs:UQ s) (hR:JY (3-s) M1 M2=R++x::t):Qa8 (M1++M2) x.id=some x∧JY s (Qf2 M1 x n) (Qf2 M2 x n)=JY s M1 M2∧JY (3-s) (Qf2 M1 x n) (Qf2 M2 x n)=(R++Qr9 x n)++t:=by
 have hn:=Ky6 h (3-s)
 rw[hR]at hn
 obtain⟨d1,d2,d3⟩:=Qc2 h
 have hx:x∈JY (3-s) M1 M2:=by rw[hR];simp
 refine⟨?_, ?_,by rw[Xf9,hR,Ky5 hn]⟩
 ·refine Qy7 h.ids ?_
  unfold JY at hx
  split at hx
  ·exact List.mem_append_left _ hx
  ·exact List.mem_append_right _ hx
 ·rw[Xf9]
  refine Jf3 fun y hy=> ?_
  rcases hs with rfl|rfl
  ·have e1:JY 1 M1 M2=M1:=rfl
   have e2:JY (3-1) M1 M2=M2:=rfl;rw[e1]at hy;rw[e2]at hx;exact d3 y hy x hx
  ·have e1:JY 2 M1 M2=M2:=rfl
   have e2:JY (3-2) M1 M2=M1:=rfl;rw[e1]at hy;rw[e2]at hx;exact fun e=>d3 x hx y hy e.symm
structure VQ where
 rows:List (Int×Int)
 st:Int
 dy:Int
 tk:Int
 mo:Int
 an:Int
 la:Int
 L1:List QX
 L2:List QX
 pk:List QX
 ids:List Int
 ph:Int
 now:Int
 ends:Int
 lng:Int
def UV (m:VQ) (t:Int):Int:=(Qp4 m.rows t m.rows.length).1
def Qa4 (m:VQ):List QX:=m.L1++m.L2
def YX (m:VQ):XJ:=J3 (Z5 (Qa4 m) m.la) m.la
def Qm7 (m:VQ):XJ:=if Qq7 m.ph=true then YX m else(0,0,0)
def Xl3 (p t:Int) (L1 L2:List QX) (F:List XQ):Prop:=Ql1 L1 L2 p t F∧Qb4 t L1 L2 F
def Qn6 (m:VQ) (F:List XQ):Prop:=if 0< (YX m).2.1 then Xl3 (YX m).1 (YX m).2.1 m.L1 m.L2 F else F= []
def Xc1 (m:VQ) (L:List QX):List QX:=(if 0< (YX m).2.1 then VY L (YX m).2.1 else L).filter fun o=>o.kind ==1
def Qe2 (m:VQ) (p:Int):Int:=if 0< (YX m).2.1 then(YX m).1 else p
def Qw3 (m:VQ):VQ:= {m with L1:=Xc1 m m.L1,L2:=Xc1 m m.L2,an:=Qe2 m m.an,la:=Qe2 m m.la}
def Qf3 (m:VQ) (o:QX):VQ:= {m with L1:=Jx4 1 m.L1 m.L2 m.L1 o,L2:=Jx4 2 m.L1 m.L2 m.L2 o}
def UY (m:VQ) (l:List QX):VQ:=l.foldl Qf3 m
def Qc4 (m:VQ):VQ:= {UY {m with ph:=5} m.pk with pk:= []}
def Jj0 (m:VQ):VQ:= {m with ph:=4,ends:=m.now+m.tk,lng:=0}
def Qv7 (m:VQ):VQ:= {m with ph:=7,pk:= [],L1:= [],L2:= []}
def O3 (m:VQ) (p:Int):VQ:=if p=3 then {Qw3 m with ph:=3}else if p=5 then Qc4 m else {m with ph:=p}
def Qg3 (m:VQ) (p:Int) (F:List XQ):Prop:=if p=3 then Qn6 m F else F= []
def Jq1 (m:VQ):Prop:=(YX m).2.1=0∨Jc7 m.st m.an (YX m).1=true
instance(m:VQ):Decidable (Jq1 m):=by unfold Jq1;infer_instance
def J5 (m:VQ):VQ:=
 if Jq1 m then {Qw3 m with ph:=3}else if m.lng<m.mo then {m with lng:=m.lng+1,ends:=m.now+m.tk}else {m with ph:=6}
def Y6 (m:VQ) (F:List XQ):Prop:=if Jq1 m then Qn6 m F else F= []
def XX (m:VQ):VQ:= {m with now:=m.now+1}
def O4 (was:Int) (m:VQ):VQ:=
 if UV m m.now=7 then Qv7 (if m.ph=5 then Qw3 m else m)
 else if m.ph=6 then m
 else if was≠UV m m.now then O3 m (UV m m.now)
 else if m.ph=4∧m.ends≤m.now then J5 m else m
def Qc5 (was:Int) (m:VQ) (F:List XQ):Prop:=
 if UV m m.now=7 then(if m.ph=5 then Qn6 m F else F= [])
 else if m.ph=6 then F= []
 else if was≠UV m m.now then Qg3 m (UV m m.now) F
 else if m.ph=4∧m.ends≤m.now then Y6 m F else F= []
def Jd1 (m:VQ):Int:=if m.ph=7 then 6 else 0
def J6 (m:VQ):VQ:=if m.ph=7 then m else O4 (UV m m.now) (XX m)
def Qs0 (m:VQ) (F:List XQ):Prop:=if m.ph=7 then F= []else Qc5 (UV m m.now) (XX m) F
def Qv8 (m:VQ):Int:=if m.ph=6∨m.ph=7 then 6 else 0
def Qf0 (m:VQ):VQ:=if m.ph=6∨m.ph=7 then m else {m with ph:=6}
def Jd2 (m:VQ):Int:=if m.ph=6 then 0 else 6
def Y4 (m:VQ):VQ:=if m.ph=6 then(if UV m m.now=3 then Jj0 m else if UV m m.now=5 then Qc4 m else {m with ph:=UV m m.now})else m
def Jy0 (m:VQ) (id:Int):Bool:=m.pk.any fun o=>o.id ==id
def Qa7 (m:VQ) (id:Int):Int:=if m.ph=7 then 6 else if Jy0 m id=true then 0 else if(Qa8 (Qa4 m) id).isSome=true then 0 else 7
def UW (m:VQ) (id:Int):VQ:=if m.ph=7 then m else if Jy0 m id=true then {m with pk:=Jl8 m.pk (m.pk.findIdx fun o=>o.id ==id)}else {m with L1:=O0 m.L1 id,L2:=O0 m.L2 id}
def Xl4 (o:QX):Bool:=decide (o.side≠1∧o.side≠2∨o.kind<1∨4<o.kind∨o.id<1)
def IK (m:VQ) (o:QX):Int:=
 if Xl4 o=true then 1 else if Qr3 o=false then 2 else if Qj7 m.ph o.kind=false then 6 else if o.id∈m.ids then 9 else if 100≤m.L1.length+m.L2.length+m.pk.length then 12 else 0
def Q6 (m:VQ) (o:QX):U8 Int:=VX (fun la p=>I5 m.st m.dy m.an la p) (fun _ p=>p) (JY (3-o.side) m.L1 m.L2) o m.la
def Qa5 (m:VQ) (o:QX):VQ:= {m with L1:=if o.side=1 then m.L1 else(Q6 m o).rest,L2:=if o.side=1 then(Q6 m o).rest else m.L2,la:=(Q6 m o).st}
def UK (m:VQ) (o:QX):VQ:=if 0< (Q6 m o).left.qty∧(Q6 m o).left.kind≠2 then Qf3 (Qa5 m o) (Q6 m o).left else Qa5 m o
def Z8 (m:VQ) (o:QX):VQ:=if(Q6 m o).stop=true then Jj0 (UK m o)else UK m o
def OK (m:VQ) (o:QX):VQ:= {m with ids:=m.ids++ [o.id]}
def Qh6 (m:VQ) (o:QX):VQ:=if o.kind=4∧m.ph≠5 then {m with pk:=m.pk++ [o]}else if m.ph≠3 then Qf3 m o else Z8 m o
def Ql3 (m:VQ) (o:QX):List XQ:=if o.kind=4∧m.ph≠5 then []else if m.ph≠3 then []else(Q6 m o).fills
def IZ (m:VQ) (o:QX):VQ:=if IK m o=0 then Qh6 (OK m (JJ o)) (JJ o)else m
def Qg4 (m:VQ) (o:QX):List XQ:=if IK m o=0 then Ql3 (OK m (JJ o)) (JJ o)else []
structure YJ (m:VQ):Prop where
 tab:U6 m.rows
 st:0≤m.st∧m.st≤10000
 dy:0≤m.dy∧m.dy≤10000
 tk:1≤m.tk∧m.tk≤1000000
 mo:0≤m.mo∧m.mo≤10
 an:1≤m.an∧m.an≤1000000
 la:1≤m.la∧m.la≤1000000
 ls:ZW m.L1 m.L2
 pk: ∀o∈m.pk,OkO o∧UQ o.side
 cnt:m.L1.length+m.L2.length+m.pk.length≤100
 lng:0≤m.lng∧m.lng≤10
theorem Xl5 {p t:Int} {L1 L2:List QX} {F F':List XQ} (h:Xl3 p t L1 L2 F) (h':Xl3 p t L1 L2 F'):F=F':=
 Ko2 h.2 h'.2 (fun f hf=>⟨(h.1.one f hf).1,(h.1.one f hf).2.1⟩) (fun f hf=>⟨(h'.1.one f hf).1,(h'.1.one f hf).2.1⟩) h.1.sum h'.1.sum
theorem Qn6.unique {m:VQ} {F F':List XQ} (h:Qn6 m F) (h':Qn6 m F'):F=F':=by
 unfold Qn6 at h h'
 split at h
 ·rw[if_pos (by assumption)]at h'
  exact Xl5 h h'
 ·rw[if_neg (by assumption)]at h'
  rw[h,h']
theorem Xl6 {m:VQ} {F F':List XQ} (h:Qs0 m F) (h':Qs0 m F'):F=F':=by
 have key: ∀m:VQ,∀p,Qg3 m p F→Qg3 m p F'→F=F':=fun m p h h'=>by
  unfold Qg3 at h h'
  split at h
  ·rw[if_pos (by assumption)]at h';exact h.unique h'
  ·rw[if_neg (by assumption)]at h';rw[h,h']
 have key2: ∀m:VQ,Y6 m F→Y6 m F'→F=F':=fun m h h'=>by
  unfold Y6 at h h'
  split at h
  ·rw[if_pos (by assumption)]at h';exact h.unique h'
  ·rw[if_neg (by assumption)]at h';rw[h,h']
 unfold Qs0 at h h'
 split at h
 ·rw[if_pos (by assumption)]at h';rw[h,h']
 ·rw[if_neg (by assumption)]at h'
  unfold Qc5 at h h'
  split at h
  ·rw[if_pos (by assumption)]at h'
   split at h
   ·rw[if_pos (by assumption)]at h';exact h.unique h'
   ·rw[if_neg (by assumption)]at h';rw[h,h']
  ·rw[if_neg (by assumption)]at h'
   split at h
   ·rw[if_pos (by assumption)]at h';rw[h,h']
   ·rw[if_neg (by assumption)]at h'
    split at h
    ·rw[if_pos (by assumption)]at h';exact key _ _ h h'
    ·rw[if_neg (by assumption)]at h'
     split at h
     ·rw[if_pos (by assumption)]at h';exact key2 _ h h'
     ·rw[if_neg (by assumption)]at h';rw[h,h']
end Go.Proofs.YtbmiieehkkfbgaaGreatDoor
