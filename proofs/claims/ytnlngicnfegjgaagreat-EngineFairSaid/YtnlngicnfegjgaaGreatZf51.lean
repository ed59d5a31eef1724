/- Contracts and walks that the law's proof needs. -/
import Derived.WalkKit
import Derived.WalkLawsBesides
import Derived.WalkSpells
import Derived.Deep.DeepCutAuto
import Derived.Deep.CutBlock
import Derived.Deep.QuietTactic
import Derived.BigQuiet
import Derived.Laws.StructEq
import Derived.Test.YtnlngicnfegjgaaGreatZf42
import Derived.Test.YtnlngicnfegjgaaGreatZf49
import Derived.Test.YtnlngicnfegjgaaGreatZf48
import Derived.Test.YtnlngicnfegjgaaGreatZf39
import Derived.Test.YtnlngicnfegjgaaGreatZf50
import Derived.Test.YtnlngicnfegjgaaGreatZf8
import Derived.Test.YtnlngicnfegjgaaGreatZf3
import Derived.Deep.LoopGhost
import Derived.Test.YtnlngicnfegjgaaGreatZf37
import Derived.Test.YtnlngicnfegjgaaGreatZf23
set_option linter.unusedVariables false
set_option maxRecDepth 100000
set_option maxHeartbeats 8000000
namespace Go.Proofs.YtnlngicnfegjgaaGreat
open Go.RowKit
theorem Kq7 {ps:List (Int×Int)} (h:Z4 ps) {f pl:Int} (k:Kv1 ps f pl):f=0∧pl= -1:=by
 rcases k with⟨h1,-,-⟩|⟨h1,-,-⟩|⟨-,-,i,hi,-,h1,-,-⟩|⟨-,-,-,h1,h2⟩
 ·have:=h.1;omega
 ·have:=h.2.1;omega
 ·exact absurd (h.2.2 i hi) h1
 ·exact⟨h1,h2⟩
theorem Xr5 {ps:List (Int×Int)} {st dy p tk mo n pl:Int} (h:Jb5 ps st dy p tk mo n pl) (ht:Z4 ps) (hb:(Q5 p st &&Q5 p dy)=true) (hk: ¬(tk<1∨1000000<tk∨mo<0∨10<mo)):n=0∧pl= -1:=by
 rcases h with⟨h1,h2⟩|⟨-,h1,-,-⟩|⟨-,-,h1,-,-⟩|⟨-,-,-,h1,h2⟩
 ·exact absurd (Kq7 ht h1).1 h2
 ·rw[hb]at h1;cases h1
 ·exact absurd h1 hk
 ·exact⟨h1,h2⟩
theorem Jv8 (A:Option Addr) (len cap:Nat) (ps:List (Int×Int)) (st dy p tk mo:Int) (w:World) (h:O1 w A len cap ps) (hm:len≤9223372036854775807) (ht:Z4 ps) (hb:(Q5 p st &&Q5 p dy)=true) (hk: ¬(tk<1∨1000000<tk∨mo<0∨10<mo)):
  Calls Tryz.prog 7 #[.agg #[.slice A len cap,.int .i64 st,.int .i64 dy,.int .i64 p,.int .i64 tk,.int .i64 mo]] w fun e w'=>Below w.heap.size w w'∧VW (Jv5 ps st dy p tk mo)∧ ∃E F,e= .returned (.tuple #[.pointer (some ⟨E,0,none⟩),.nilIface])∧UY w' E F (Jv5 ps st dy p tk mo)∧ ∀i,F i→w.heap.size≤i:=by
 refine(Kq4 A len cap ps st dy p tk mo w h hm).mono ?_
 rintro e w' ⟨hB,⟨v,n,pl,h1,h2,h3,h4⟩|⟨h1,E,F,h2,h3,h4⟩⟩
 ·exact absurd (Xr5 h4 ht hb hk).1 h3
 ·exact⟨hB,Kj2 h1,E,F,h2,h3,h4⟩
def trP:List (Int×Int):= [(0,1),(1,2),(2,3)]
def tr0:ZX:=Jv5 trP 1000 500 100 3 0
def tr1:ZX:=J2 tr0
def tr2:ZX:=J2 tr1
def tr3:ZX:=IQ tr2 ⟨1,2,1,101,5⟩
def tr4:ZX:=IQ tr3 ⟨2,1,2,0,2⟩
theorem Ky8:V0 tr2 ⟨1,2,1,101,5⟩=0:=by kernel_rfl
theorem Ky9:V0 tr3 ⟨2,1,2,0,2⟩=0:=by kernel_rfl
theorem Kz7:Qd3 tr3 ⟨2,1,2,0,2⟩= [⟨2,1,101,2⟩]:=by kernel_rfl
theorem Kz0:tr4.ph=3:=by kernel_rfl
theorem Kx7:Z4 trP:=by unfold Z4;exact⟨by decide,by decide,by decide+kernel⟩
theorem Kx8:tr0.now=0∧tr1.now=1∧tr2.now=2∧tr3.now=2:=⟨by kernel_rfl,by kernel_rfl,by kernel_rfl,by kernel_rfl⟩
theorem Kq8 (a b c d:Int) (w:World):(binOp .eql 48 (.agg #[.int .i64 a,.int .i64 b,.int .i64 c,.int .i64 d]) (.agg #[.int .i64 a,.int .i64 b,.int .i64 c,.int .i64 d])).run Tryz.prog w= .ok (.bool true) w:=by
 have hf:Tryz.prog.underlying 48=some (.struct (Tryz.prog.fieldsOf 48)):=by kernel_rfl
 have hs:Tryz.prog.stoodInHeld 48=false:=by kernel_rfl
 have hi:Tryz.prog.underlying 3=some (.int .i64):=Tryz.underlying3
 rw[run_eql_struct,run_equalIn_agg _ _ _ _ _ hf hs]
 simp[Program.fieldsOf,Tryz.underlying48,Op.eqFields,go_sem,hi]
theorem Xz1 (w:World):Calls Tryz.prog 4 #[] w fun e w'=>e= .returned (.bool true)∧Below w.heap.size w w':=by
 go_enter Tryz.func4,Tryz.ntmps4
 have hb1:Below w.heap.size w (w.alloc (.cells #[.int .i64 0,.int .i64 1,.int .i64 1,.int .i64 2,.int .i64 2,.int .i64 3] 39)):=(Below.refl _ w).alloc (Nat.le_refl _) _
 have hP:O1 (w.alloc (.cells #[.int .i64 0,.int .i64 1,.int .i64 1,.int .i64 2,.int .i64 2,.int .i64 3] 39)) (some ⟨w.heap.size,0,none⟩) 3 3 trP:=by
  have hB:=QJ.new w 39 #[.int .i64 0,.int .i64 1,.int .i64 1,.int .i64 2,.int .i64 2,.int .i64 3];refine⟨rfl,fun _=>⟨_,0,rfl,QJ.lt hB,fun i hi=> ?_⟩⟩;have hc:i=0∨i=1∨i=2:=by omega
  rcases hc with rfl|rfl|rfl
  ·exact⟨by rw[QJ.cell hB];rfl,by rw[QJ.cell hB];rfl⟩
  ·exact⟨by rw[QJ.cell hB];rfl,by rw[QJ.cell hB];rfl⟩
  ·exact⟨by rw[QJ.cell hB];rfl,by rw[QJ.cell hB];rfl⟩
 obtain⟨w1,ew1⟩: ∃W,w.alloc (.cells #[.int .i64 0,.int .i64 1,.int .i64 1,.int .i64 2,.int .i64 2,.int .i64 3] 39)=W:=⟨_,rfl⟩
 rw[ew1]at hb1 hP
 have HP:=QQ hP
 have HB1:=QQ hb1
 clear hP hb1
 go_wp2_with fail
 try rw[ew1]
 clear ew1
 refine(Jv8 _ 3 3 trP 1000 500 100 3 0 _ HP.out (by omega) Kx7 (by decide) (by omega)).mono ?_
 rintro e w2 ⟨hb2,hok,e,F,rfl,hE,hF⟩
 have hok0:VW tr0:=hok
 have hE0:UY w2 e F tr0:=hE
 have HB2:=QQ (HB1.out.trans (hb2.mono HB1.out.size))
 have HF2:Hid (∀i,F i→w.heap.size≤i):=QQ (fun i hi=>Nat.le_trans HB1.out.size (hF i hi))
 clear hE hok hF hb2
 obtain⟨n0,n1,n2,n3⟩:=Kx8
 have HN:=QQ (And.intro n0 (And.intro n1 (And.intro n2 n3)))
 clear n0 n1 n2 n3
 go_wp2_with fail
 refine(Jk6 hE0 (hok0.in_ (by rw[HN.out.1];omega)) (hok0.next.in_ (by show 0≤tr0.now+1∧tr0.now+1≤1000000000000;rw[HN.out.1];omega))).mono ?_
 rintro ev w3 ⟨A3,c3,Fs3,rfl,-,-,-,F3,hE1,hs3,-⟩
 have hE1:UY w3 e F3 tr1:=hE1
 have hok1:VW tr1:=hok0.tick hE1.lists
 have HB3:=QQ (HB2.out.trans (hs3.1.below HF2.out HB2.out.size))
 have HF3:Hid (∀i,F3 i→w.heap.size≤i):=QQ (fun i hi=>by rcases hs3.2 i hi with h|h;exact HF2.out i h;have:=HB2.out.size;omega)
 clear hE0 hok0 hs3
 go_wp2_with fail
 refine(Jk6 hE1 (hok1.in_ (by rw[HN.out.2.1];omega)) (hok1.next.in_ (by show 0≤tr1.now+1∧tr1.now+1≤1000000000000;rw[HN.out.2.1];omega))).mono ?_
 rintro ev w4 ⟨A4,c4,Fs4,rfl,-,-,-,F4,hE2,hs4,-⟩
 have hE2:UY w4 e F4 tr2:=hE2
 have hok2:VW tr2:=hok1.tick hE2.lists
 have HB4:=QQ (HB3.out.trans (hs4.1.below HF3.out HB3.out.size))
 have HF4:Hid (∀i,F4 i→w.heap.size≤i):=QQ (fun i hi=>by rcases hs4.2 i hi with h|h;exact HF3.out i h;have:=HB3.out.size;omega)
 clear hE1 hok1 hs4
 have hf1:Qe5 ⟨1,2,1,101,5⟩:=by unfold Qe5 U1;decide
 have hf2:Qe5 ⟨2,1,2,0,2⟩:=by unfold Qe5 U1;decide
 go_wp2_with fail
 refine(Jd7 hE2 (hok2.in_ (by rw[HN.out.2.2.1];omega)) ⟨1,2,1,101,5⟩ hf1).mono ?_
 rintro ev w5 ⟨A5,c5,Fs5,rfl,-,-,-,F5,hE3,hs5,-⟩
 have hE3:UY w5 e F5 tr3:=hE3
 have hok3:VW tr3:=hok2.order hf1 hE3.lists
 have HB5:=QQ (HB4.out.trans (hs5.1.below HF4.out HB4.out.size))
 have HF5:Hid (∀i,F5 i→w.heap.size≤i):=QQ (fun i hi=>by rcases hs5.2 i hi with h|h;exact HF4.out i h;have:=HB4.out.size;omega)
 clear hE2 hok2 hs5
 rw[Ky8,UV]
 go_wp2_with fail
 refine(Jd7 hE3 (hok3.in_ (by rw[HN.out.2.2.2];omega)) ⟨2,1,2,0,2⟩ hf2).mono ?_
 rintro ev w6 ⟨A6,c6,Fs6,rfl,hP6,hr6,-,F6,hE4,hs6,-⟩
 have hE4:UY w6 e F6 tr4:=hE4
 have hFs:Fs6= [⟨2,1,101,2⟩]:=Eq.trans hP6 Kz7
 subst hFs
 have HB6:=QQ (HB5.out.trans (hs6.1.below HF5.out HB5.out.size))
 rw[Ky9,UV]
 obtain⟨g6,rfl,hc6⟩: ∃g,A6=some ⟨g,0,none⟩∧(w6.cell? ⟨g,0,none⟩=some (.int .i64 2)∧w6.cell? ⟨g,1,none⟩=some (.int .i64 1)∧w6.cell? ⟨g,2,none⟩=some (.int .i64 101)∧w6.cell? ⟨g,3,none⟩=some (.int .i64 2)):=by
  obtain⟨g,h1,h2⟩:=QY.elem (enc:=Qb1) (xs:= [⟨2,1,101,2⟩]) Qt3 (by omega) hr6 (i:=0) (by simp);exact⟨g,h1,by simpa using h2 0 _ rfl,by simpa using h2 1 _ rfl,by simpa using h2 2 _ rfl,by simpa using h2 3 _ rfl⟩
 obtain⟨z0,z1,z2,z3⟩:=hc6
 have hph:=Jd1 hE4
 rw[Kz0]at hph
 have HPh:=QQ hph
 have heq:=Kq8 2 1 101 2
 clear hE3 hok3 hs6 hP6 hr6 hf1 hf2 hE4 hph
 go_wp2_with fail
 refine HPh.out.mono ?_
 rintro ev w7 ⟨rfl,hb7⟩
 go_wp2_with fail
 go_ret
 exact⟨rfl,HB6.out.trans (hb7.mono HB6.out.size)⟩
end Go.Proofs.YtnlngicnfegjgaaGreat
namespace Go.Proofs.YtnlngicnfegjgaaGreat
open Go.ChangeMaps Go.RowKit
def Jv9 (i:Nat):Int:= [3,4,60,6,1].getD i 0
def Jw0 (i:Nat):Int:= [1,2,3,5,7].getD i 0
def Jo5 (l:List Int) (i:Nat):Int:=1+ (if i<l.length then pk (l.getD i 0) (Jv9 i)else 0)
def Z8 (l:List Int):Nat→Int
 |0=>0
 |k+1=>Z8 l k+Jo5 l k
def Qh9 (l:List Int) (k:Nat):List (Int×Int):=(List.range k).map fun i=>(Z8 l i,Jw0 i)
theorem Qr5 {i:Nat} (h:i<5):1≤Jv9 i∧Jv9 i≤60:=by
 have hc:i=0∨i=1∨i=2∨i=3∨i=4:=by omega
 rcases hc with rfl|rfl|rfl|rfl|rfl<;>exact⟨by decide,by decide⟩
theorem Xi1 (l:List Int) {i:Nat} (h:i<5):1≤Jo5 l i∧Jo5 l i≤60:=by
 obtain⟨h1,h2⟩:=Qr5 h
 unfold Jo5
 split
 ·have a:=Z3 (l.getD i 0) (Jv9 i) h1
  have b:=Qn7 (l.getD i 0) (Jv9 i) h1;omega
 ·omega
theorem Qr6 (l:List Int): ∀k,k≤5→0≤Z8 l k∧Z8 l k≤60*k
 |0,_=>⟨Int.le_refl _,Int.le_refl _⟩
 |k+1,h=>by
  obtain⟨h1,h2⟩:=Qr6 l k (by omega);obtain⟨h3,h4⟩:=Xi1 l (i:=k) (by omega);show 0≤Z8 l k+Jo5 l k∧Z8 l k+Jo5 l k≤60* ((k+1:Nat):Int);omega
theorem Qf5 (l:List Int) (k:Nat):(Qh9 l k).length=k:=by simp[Qh9]
theorem Jh8 (l:List Int) {k i:Nat} (h:i<k):(Qh9 l k).getD i (0,0)=(Z8 l i,Jw0 i):=by
 simp[Qh9,List.getD_eq_getElem?_getD,h]
theorem Xd8 (l:List Int) (k:Nat):Qh9 l (k+1)=Qh9 l k++ [(Z8 l k,Jw0 k)]:=by
 simp[Qh9,List.range_succ]
theorem Ku9 (l:List Int):Z4 (Qh9 l 5):=by
 refine⟨by rw[Qf5];omega,by rw[Qf5];omega,fun j hj=> ?_⟩
 rw[Qf5]at hj
 cases j with
 |zero=>
  unfold Q8;rw[Jh8 l (by omega)]
  rfl
 |succ k=>
  show Qh0 ((Qh9 l 5).getD k (0,0)).1 ((Qh9 l 5).getD k (0,0)).2 ((Qh9 l 5).getD (k+1) (0,0)).1 ((Qh9 l 5).getD (k+1) (0,0)).2=0;rw[Jh8 l (show k<5 by omega),Jh8 l (show k+1<5 by omega)];obtain⟨h1,h2⟩:=Qr6 l (k+1) (by omega);have h3:Z8 l (k+1)=Z8 l k+Jo5 l k:=rfl;obtain⟨h4,h5⟩:=Xi1 l (i:=k) (by omega);refine Xj4 ?_ (by show Z8 l k<Z8 l (k+1);omega) (by show Z8 l (k+1)≤1000000;omega);have hc:k=0∨k=1∨k=2∨k=3:=by omega
  rcases hc with rfl|rfl|rfl|rfl<;>rfl
def O0 (w:World) (r:Nat) (f:Int→Int):Prop:= ∃g,Qu8 w r g∧ ∀k,(g k).getD (.int .i64 0)= .int .i64 (f k)
structure Qn0 where
 st:Int
 dy:Int
 pr:Int
 tk:Int
 mo:Int
def Jo6 (l:List Int) (c:Qn0):ZX:=Jv5 (Qh9 l 5) c.st c.dy c.pr c.tk c.mo
def Jh9 (e L S:Nat) (A:Option Addr) (cap:Nat) (c:Qn0) (since:Int) (hands:Bool):Array Value:=
 #[.pointer (some ⟨e,0,none⟩),.slice A 5 cap,.int .i64 c.st,.int .i64 c.dy,.int .i64 c.pr,.int .i64 c.tk,.int .i64 c.mo,.map (some L),.map (some S),.int .i64 since,.bool hands]
structure Qc9 (w:World) (D e L S:Nat) (A:Option Addr) (cap:Nat) (l:List Int) (c:Qn0) (F:Nat→Prop) (m:ZX) (lots side:Int→Int) (since:Int) (hands:Bool):Prop where
 box:QJ w D 53 (Jh9 e L S A cap c since hands)
 eng:UY w e F m
 lots_:O0 w L lots
 side_:O0 w S side
 tab:O1 w A 5 cap (Qh9 l 5)
 cfg:YY (Jo6 l c) m
 nD: ¬F D
 nL: ¬F L
 nS: ¬F S
 nA: ∀g,QV A=some g→ ¬F g
 dl:D≠L
 ds:D≠S
 ls:L≠S
 ad: ∀g,QV A=some g→g≠D∧g≠L∧g≠S
theorem O0.of_block {w w':World} {r:Nat} {f:Int→Int} (h:O0 w r f) (hb:w'.heap[r]?=w.heap[r]?):O0 w' r f:=by
 obtain⟨g,h1,h2⟩:=h
 exact⟨g,h1.of_block hb,h2⟩
theorem O0.lt {w:World} {r:Nat} {f:Int→Int} (h:O0 w r f):r<w.heap.size:=by obtain⟨g,h1,-⟩:=h;exact h1.lt
theorem Qc9.keeps {w w':World} {D e L S:Nat} {A:Option Addr} {cap:Nat} {l:List Int} {c:Qn0} {F:Nat→Prop} {m:ZX} {lots side:Int→Int} {since:Int} {hands:Bool} {Z:Nat→Prop} (h:Qc9 w D e L S A cap l c F m lots side since hands) (hk:QK Z w w') (hF: ∀i,F i→ ¬Z i) (hD: ¬Z D) (hL: ¬Z L) (hS: ¬Z S) (hA: ∀g,QV A=some g→ ¬Z g):Qc9 w' D e L S A cap l c F m lots side since hands:=
 ⟨QJ.keeps h.box hk hD,h.eng.keeps hk hF,h.lots_.of_block (hk.block _ h.lots_.lt hL),h.side_.of_block (hk.block _ h.side_.lt hS),h.tab.keeps hk hA,h.cfg,h.nD,h.nL,h.nS,h.nA,h.dl,h.ds,h.ls,h.ad⟩
theorem Qc9.below {w w':World} {D e L S:Nat} {A:Option Addr} {cap:Nat} {l:List Int} {c:Qn0} {F:Nat→Prop} {m:ZX} {lots side:Int→Int} {since:Int} {hands:Bool} (h:Qc9 w D e L S A cap l c F m lots side since hands) (hb:Below w.heap.size w w'):Qc9 w' D e L S A cap l c F m lots side since hands:=
 h.keeps (QK.of_below hb (fun _=>False)) (fun _ _=>id) id id id (fun _ _=>id)
theorem Qc9.engTo {w w':World} {D e L S:Nat} {A:Option Addr} {cap:Nat} {l:List Int} {c:Qn0} {F F1:Nat→Prop} {m m1:ZX} {lots side:Int→Int} {since:Int} {hands:Bool} (h:Qc9 w D e L S A cap l c F m lots side since hands) (hE:UY w' e F1 m1) (hs:XW w w' F F1) (hA: ∀g,QV A=some g→g<w.heap.size) (hc:YY m m1):Qc9 w' D e L S A cap l c F1 m1 lots side since hands:=by
 have n: ∀ {i:Nat},i<w.heap.size→ ¬F i→ ¬F1 i:=fun {i} hi hF h1=>by
  rcases hs.2 i h1 with h2|h2
  ·exact hF h2
  ·omega
 exact⟨QJ.keeps h.box hs.1 h.nD,hE,h.lots_.of_block (hs.1.block _ h.lots_.lt h.nL),h.side_.of_block (hs.1.block _ h.side_.lt h.nS),h.tab.keeps hs.1 h.nA,h.cfg.trans hc,n (QJ.lt h.box) h.nD,n h.lots_.lt h.nL,n h.side_.lt h.nS,fun g hg=>n (hA g hg) (h.nA g hg),h.dl,h.ds,h.ls,h.ad⟩
theorem Xr6 {w:World} {g:Nat} {t:TypeId} {a b c d e:Value} (h:QJ w g t #[a,b,c,d,e]):w.cell? ⟨g,0,none⟩=some a∧w.cell? ⟨g,1,none⟩=some b∧w.cell? ⟨g,2,none⟩=some c∧w.cell? ⟨g,3,none⟩=some d∧w.cell? ⟨g,4,none⟩=some e:=
 ⟨by rw[QJ.cell h];rfl,by rw[QJ.cell h];rfl,by rw[QJ.cell h];rfl,by rw[QJ.cell h];rfl,by rw[QJ.cell h];rfl⟩
theorem Below.drewN_ {B:Nat} {w w':World} (h:Below B w w') (n:Nat):Below B w (w'.drewN n):=h.trans ⟨rfl,rfl,rfl,Nat.le_refl _,fun _ _=>rfl⟩
theorem O0.lookup {w:World} {r:Nat} {f:Int→Int} (h:O0 w r f) (k:Int):(Instr.lookup 51 (.map (some r)) (.int .i64 k) false).run Tryz.prog w= .ok (.int .i64 (f k)) w:=by
 obtain⟨g,h1,h2⟩:=h
 have hz:(zeroValue 3).run Tryz.prog w= .ok (.int .i64 0) w:=by kernel_rfl
 rw[h1.imap.lookup Tryz.underlying51 Tryz.underlying3 hz k false,if_neg (by decide),h2]
theorem Kj6 {w:World} {D e L S:Nat} {A:Option Addr} {cap:Nat} {l:List Int} {c:Qn0} {F:Nat→Prop} {m:ZX} {lots side:Int→Int} {since:Int} {hands:Bool} (h:Qc9 w D e L S A cap l c F m lots side since hands)
  (hk: ∀o∈m.L1++m.L2,o.kind=1∧lots o.id=o.qty) (hp: ∀x∈m.L1,∀y∈m.L2,x.price<y.price) (hc:m.L1.length+m.L2.length≤100):
  Calls Tryz.prog 17 #[.pointer (some ⟨D,0,none⟩)] w fun ev w'=>ev= .returned (.bool true)∧Below w.heap.size w w':=by
 have HD:=QQ h
 have c0:w.cell? ⟨D,0,none⟩=some (.pointer (some ⟨e,0,none⟩)):=by rw[QJ.cell h.box];rfl
 have HK:=QQ hk
 have HP:=QQ hp
 have HC:=QQ hc
 clear h hk hp hc
 obtain⟨M1,hM1⟩: ∃x,m.L1=x:=⟨_,rfl⟩
 obtain⟨M2,hM2⟩: ∃x,m.L2=x:=⟨_,rfl⟩
 have S1:=QQ (fun W (hW:UY W e F m)=>Xc0 hW 1 KX)
 have S2:=QQ (fun W (hW:UY W e F m)=>Xc0 hW 2 KK)
 rw[show XQ 1 m.L1 m.L2=m.L1 from rfl,hM1]at S1
 rw[show XQ 2 m.L1 m.L2=m.L2 from rfl,hM2]at S2
 rw[hM1,hM2]at HK HP HC
 clear hM1 hM2
 go_enter Tryz.func17,Tryz.ntmps17
 go_wp2_with fail
 refine(S1.out _ HD.out.eng).mono ?_
 rintro ev w1 ⟨hb1,A1,c1,rfl,hr1,hn1⟩
 have HD1:=QQ (HD.out.below hb1)
 have c0:w1.cell? ⟨D,0,none⟩=some (.pointer (some ⟨e,0,none⟩)):=by rw[QJ.cell HD1.out.box];rfl
 go_wp2_with fail
 refine(S2.out _ HD1.out.eng).mono ?_
 rintro ev w2 ⟨hb2,A2,c2,rfl,hr2,hn2⟩
 have HD2:=QQ (HD1.out.below hb2)
 have HB2:=QQ (hb1.trans (hb2.mono hb1.size))
 have HR1:=QQ (hr1.below hb2)
 have HR2:=QQ hr2
 clear hb1 hb2 hr1 hr2 hn1 hn2 c0 S1 S2
 obtain⟨n1,hn1⟩: ∃n,M1.length=n:=⟨_,rfl⟩
 obtain⟨n2,hn2⟩: ∃n,M2.length=n:=⟨_,rfl⟩
 rw[hn1,hn2]
 rw[hn1]at HR1
 rw[hn2]at HR2
 have HN:=QQ (And.intro hn1 hn2)
 have hnb:n1+n2≤100:=by have:=HC.out;omega
 clear hn1 hn2
 obtain⟨i0,hi0,hz0,hz1,hz2⟩:=info_parts Qs8
 have hE1:=QQ ((XZ.of_row X9 (by omega) HR1.out).below ((Below.refl _ w2).alloc (Nat.le_refl _) (.cells #[] 29)) (Nat.le_refl _))
 have HW:=QQ (QY.made w2 29 5)
 go_upto_region 5 with fail
 go_wp2_with (first|(at_builtin;(with_reducible (refine Qn6 X9 Je0 rfl (.tmp 31) (.tmp 32) 75 rfl 29 i0 _ 40 Tryz.underlying75 hi0 hz0 hz1 hz2 (by with_unfolding_all rfl) (by omega) (some ⟨w2.heap.size,0,none⟩) 0 0 [] (by with_unfolding_all rfl) HW.out A1 n1 c1 M1 (by with_unfolding_all rfl) hE1.out (by unfold maxLen;omega) (by omega) ?_));intro A3 c3 w3 hr3 hg3 hat3;have hr3:QY w3 A3 n1 c3 29 5 (QW I1 M1):=(by rw[Nat.zero_add,List.nil_append]at hr3;exact hr3);have hb3:Below w2.heap.size w2 w3:=((Below.refl _ w2).alloc (Nat.le_refl _) (.cells #[] 29)).grown hg3 (by simp) (fun q hq=>by simp[QV]at hq;omega);have hE2:=(XZ.of_row X9 (by omega) HR2.out).below hb3 (Nat.le_refl _))|(at_builtin;(with_reducible (refine Qn6 X9 Je0 rfl (.tmp 33) (.tmp 34) 75 rfl 29 i0 _ 40 Tryz.underlying75 hi0 hz0 hz1 hz2 (by with_unfolding_all rfl) (by omega) A3 n1 c3 (QW I1 M1) (by with_unfolding_all rfl) hr3 A2 n2 c2 M2 (by with_unfolding_all rfl) hE2 (by unfold maxLen;omega) (by omega) ?_));intro A4 c4 w4 hr4 hg4 hat4))
 have HB4:Hid (Below w2.heap.size w2 w4):=QQ (hb3.grown hg4 hb3.size (fun q hq=>by
  rcases hat3 q hq with h1|h1
  ·have:w2.heap.size=q:=by simpa [QV]using h1
   omega
  ·have:q=w2.heap.size+1:=by simpa using h1
   omega))
 have hrow:QY w4 A4 (n1+n2) c4 29 5 (QW I1 (M1++M2)):=by
  have e:QW I1 (M1++M2)=QW I1 M1++QW I1 M2:=by unfold QW;rw[List.flatMap_append]
  rw[e];exact hr4
 have HE4:=QQ (XZ.of_row X9 (by omega) hrow)
 clear hr4 hg4 hat4 hrow hE2 hb3 hat3 hg3 hr3 hE1 HW
 obtain⟨nn,hnn⟩: ∃n,n1+n2=n:=⟨_,rfl⟩
 have hnz:((n1:Int)+ (n2:Int))=(nn:Int):=by omega
 try rw[hnz]
 rw[hnn]at HE4
 try rw[hnn]
 have HNn:=QQ hnn
 clear hnn hnz hi0 hz0 hz1 hz2
 go_loopg [37] nn (fun gg s37 wx=> ∃k:Nat,k≤nn∧gg=nn-k∧s37= .int .i64 k∧Below w4.heap.size w4 wx)
 case atStart=>exact⟨0,Nat.zero_le _,rfl,rfl,Below.refl _ _⟩
 case round=>
  obtain⟨k,hk,rfl,rfl,hB⟩:=hrel;have HB:=QQ hB;have HDr:=QQ (HD2.out.below (HB4.out.trans (hB.mono HB4.out.size)));clear hB
  by_cases hlt:k<nn
  ·have hkl:k< (M1++M2).length:=by rw[List.length_append];have:=HN.out;have:=HNn.out;omega
   obtain⟨b4,off4,hA4⟩: ∃b off,A4=some ⟨b,off,none⟩:=by obtain⟨b,off,h1,_⟩:=HE4.out.2 (by omega);exact⟨b,off,h1⟩
   subst hA4;obtain⟨x0,x1,x2,x3,x4⟩:=Xe1 (HE4.out.below HB.out (Nat.le_refl _)) hkl;have hltz:(k:Int)< (nn:Int):=by omega
   have hk0:(0:Int)≤(k:Int):=by omega
   have hko:=HK.out _ (List.getElem_mem hkl);obtain⟨⟨oi,os,ok,op,oq⟩,eo⟩: ∃o,(M1++M2)[k]=o:=⟨_,rfl⟩;rw[eo]at x0 x1 x2 x3 x4 hko;dsimp only at x0 x1 x2 x3 x4 hko;obtain⟨hk1,hl1⟩:=hko;subst hk1;clear eo;have hb6:Below wr.heap.size wr (wr.alloc (.cells #[.int .i64 oi,.int .i64 os,.int .i64 1,.int .i64 op,.int .i64 oq] 29)):=(Below.refl _ _).alloc (Nat.le_refl _) _;have hBx:=QJ.new wr 29 #[.int .i64 oi,.int .i64 os,.int .i64 1,.int .i64 op,.int .i64 oq];go_upto_region 8 with fail
   obtain⟨w6,ew6⟩: ∃W,(wr.alloc (.cells #[.int .i64 oi,.int .i64 os,.int .i64 1,.int .i64 op,.int .i64 oq] 29))=W:=⟨_,rfl⟩;obtain⟨gx,egx⟩: ∃g,wr.heap.size=g:=⟨_,rfl⟩;have HB6:=QQ (HB.out.trans (hb6.mono HB.out.size));rw[ew6]at hb6 hBx HB6⊢;rw[egx]at hBx⊢;have HD6:=QQ (HDr.out.below hb6);clear ew6 egx hb6 x0 x1 x2 x3 x4;obtain⟨y0,y1,y2,y3,y4⟩:=Xr6 hBx;have c7:w6.cell? ⟨D,7,none⟩=some (.map (some L)):=by rw[QJ.cell HD6.out.box];rfl
   have lk1:=HD6.out.lots_.lookup oi;have lk2:=(HD6.out.lots_.of_block (w':=w6.drew) rfl).lookup oi;have lk3:=fun n=>(HD6.out.lots_.of_block (w':=w6.drewN n) rfl).lookup oi
   rw[hl1]at lk1 lk2 lk3;clear hl1 hBx;go_quiet (fail)
   go_wp2_with fail
   have hkb:k<100:=by have:=HNn.out;omega
   go_roundg (nn- (k+1))
   case measure=>omega
   case rel=>exact⟨k+1,by omega,rfl,congrArg (Value.int IntKind.i64) (show RowKit.wrap64 ((k:Int)+1)=((k+1:Nat):Int) by unfold RowKit.wrap64;omega),Below.drewN_ HB6.out _⟩
  ·obtain rfl:k=nn:=by omega
   have hltz: ¬(k:Int)< (k:Int):=by omega
   have HBw:Hid (Below w.heap.size w wr):=QQ (HB2.out.trans ((HB4.out.trans (HB.out.mono HB4.out.size)).mono HB2.out.size));have HR1r:=QQ (HR1.out.below (HB4.out.trans (HB.out.mono HB4.out.size)));have HR2r:=QQ (HR2.out.below (HB4.out.trans (HB.out.mono HB4.out.size)));rcases Nat.eq_zero_or_pos n1 with rfl|h1
   ·go_wp2_with fail
    go_quiet (fail)
    go_wp2_with fail
    go_ret;exact⟨rfl,Below.drewN_ HBw.out _⟩
   ·rcases Nat.eq_zero_or_pos n2 with rfl|h2
    ·have q1: ¬(n1:Int)=0:=by omega
     have q2:=UX q1;go_wp2_with fail
     go_quiet (fail)
     go_wp2_with fail
     go_ret;exact⟨rfl,Below.drewN_ HBw.out _⟩
    ·have q1: ¬(n1:Int)=0:=by omega
     have q2:=UX q1;have q3: ¬(n2:Int)=0:=by omega
     have q4:=UX q3;have p1:(0:Int)< (n1:Int):=by omega
     have p2:(0:Int)< (n2:Int):=by omega
     obtain⟨g1,hA1⟩: ∃g,A1=some ⟨g,0,none⟩:=by
      rcases HR1r.out.2 with⟨-,h0⟩|⟨g,c0,cur,hv,-⟩
      ·omega
      ·cases hv;exact⟨g,rfl⟩
     obtain⟨g2,hA2⟩: ∃g,A2=some ⟨g,0,none⟩:=by
      rcases HR2r.out.2 with⟨-,h0⟩|⟨g,c0,cur,hv,-⟩
      ·omega
      ·cases hv;exact⟨g,rfl⟩
     subst hA1;subst hA2;have m1:0<M1.length:=by have:=HN.out;omega
     have m2:0<M2.length:=by have:=HN.out;omega
     have z1:=(Xe1 (XZ.of_row X9 (by omega) HR1r.out) (i:=0) m1).2.2.2.1;have z2:=(Xe1 (XZ.of_row X9 (by omega) HR2r.out) (i:=0) m2).2.2.2.1;have hlt2:=HP.out _ (List.getElem_mem m1) _ (List.getElem_mem m2);obtain⟨v1,e1⟩: ∃x,M1[0].price=x:=⟨_,rfl⟩;obtain⟨v2,e2⟩: ∃x,M2[0].price=x:=⟨_,rfl⟩;rw[e1]at z1 hlt2;rw[e2]at z2 hlt2;clear e1 e2;go_wp2_with fail
     go_quiet (fail)
     go_wp2_with fail
     go_ret;exact⟨rfl,Below.drewN_ HBw.out _⟩
end Go.Proofs.YtnlngicnfegjgaaGreat
