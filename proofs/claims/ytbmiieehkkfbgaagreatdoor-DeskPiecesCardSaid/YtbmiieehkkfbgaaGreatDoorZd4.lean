/- Contracts and walks that the law's proof needs. -/
import Derived.WalkKit
import Derived.WalkLawsBesides
import Derived.WalkSpells
import Derived.Deep.QuietTactic
import Derived.BigQuiet
import Derived.Deep.LoopGhost
import Derived.Deep.AppendLies
import Derived.Deep.RegionHeld3
import Derived.Deep.DeepCutAuto
import Derived.Deep.CutBlock
import Derived.Shelf.Abstract
import Derived.Test.YtbmiieehkkfbgaaGreatDoorRows
import Derived.Test.YtbmiieehkkfbgaaGreatDoorZd1
import Derived.Laws.ResultCell
import Derived.Laws.EntriesVeiled
set_option linter.unusedVariables false
set_option maxRecDepth 100000
set_option maxHeartbeats 8000000
namespace Go.Proofs.YtbmiieehkkfbgaaGreatDoor
open Go.RowKit
def KK (p:XJ):Int:=min p.2.1 p.2.2
def Qd9 (p:XJ):Int:=max (p.2.1-p.2.2) (p.2.2-p.2.1)
def Jg6 (p:XJ):Prop:=(-1099511627776≤p.1∧p.1≤1099511627776)∧(-1099511627776≤p.2.1∧p.2.1≤1099511627776)∧(-1099511627776≤p.2.2∧p.2.2≤1099511627776)
def Jr5 (w:World) (S:Nat→Prop) (g:FuncId) (lb:Array Value) (F:XJ→Int):Prop:=
 ∀W p,QK S w W→Jg6 p→Calls Tryz.prog g (#[Qq4 p]++lb) W fun e w'=>e= .returned (.int .i64 (F p))∧Below W.heap.size W w'
def Jg7 (w:World) (S:Nat→Prop) (g:FuncId) (lb:Array Value) (F:XJ→Bool):Prop:=
 ∀W p,QK S w W→Jg6 p→Calls Tryz.prog g (#[Qq4 p]++lb) W fun e w'=>e= .returned (.bool (F p))∧Below W.heap.size W w'
section
variable {w:World} {S:Nat→Prop}
theorem Jr5.later {w1:World} {g:FuncId} {lb:Array Value} {F:XJ→Int} {S':Nat→Prop} (h:Jr5 w S g lb F) (hk:QK S' w w1) (hS: ∀i,S' i→S i):Jr5 w1 S g lb F:=
 fun W p hW hp=>h W p ((hk.mono hS).trans hW (fun _ h=> .inl h)) hp
end
theorem Je3 (p:XJ) (w:World):Calls Tryz.prog 158 #[Qq4 p] w fun e w'=>e= .returned (.int .i64 (KK p))∧Below w.heap.size w w':=by
 obtain⟨a,b,c⟩:=p
 unfold Qq4 KK
 dsimp only
 go_enter Tryz.func158,Tryz.ntmps158
 go_wp2
 all_goals
  go_ret;exact⟨O9 (by omega),(Below.refl _ _).alloc (Nat.le_refl _) _⟩
theorem Kt1 (p:XJ) (hp:Jg6 p) (w:World):Calls Tryz.prog 159 #[Qq4 p] w fun e w'=>e= .returned (.int .i64 (Qd9 p))∧Below w.heap.size w w':=by
 obtain⟨a,b,c⟩:=p
 obtain⟨⟨_,_⟩,⟨_,_⟩,⟨_,_⟩⟩:=hp
 unfold Qq4 Qd9
 dsimp only at*
 go_enter Tryz.func159,Tryz.ntmps159
 go_wp2
 all_goals
  go_ret;exact⟨O9 (by omega),(Below.refl _ _).alloc (Nat.le_refl _) _⟩
theorem Kj8 (w:World) (S:Nat→Prop):Jr5 w S 158 #[] KK:=fun W p _ _=>Je3 p W
theorem Kt2 (w:World) (S:Nat→Prop):Jr5 w S 168 #[] (fun p=>p.1):=by
 rintro W ⟨a,b,c⟩ _ _
 show Calls Tryz.prog 168 #[.agg #[.int .i64 a,.int .i64 b,.int .i64 c]] W _
 go_enter Tryz.func168,Tryz.ntmps168
 go_wp2
 go_ret
 exact⟨rfl,(Below.refl _ _).alloc (Nat.le_refl _) _⟩
theorem Kt3 (w:World) (S:Nat→Prop):Jr5 w S 169 #[] (fun p=> -p.1):=by
 rintro W ⟨a,b,c⟩ _ ⟨⟨_,_⟩,⟨_,_⟩,⟨_,_⟩⟩
 show Calls Tryz.prog 169 #[.agg #[.int .i64 a,.int .i64 b,.int .i64 c]] W _
 dsimp only at*
 go_enter Tryz.func169,Tryz.ntmps169
 go_wp2
 go_ret
 exact⟨rfl,(Below.refl _ _).alloc (Nat.le_refl _) _⟩
theorem Kj9 (w:World) (S:Nat→Prop):Jr5 w S 171 #[] (fun p=> -p.1):=by
 rintro W ⟨a,b,c⟩ _ ⟨⟨_,_⟩,⟨_,_⟩,⟨_,_⟩⟩
 show Calls Tryz.prog 171 #[.agg #[.int .i64 a,.int .i64 b,.int .i64 c]] W _
 dsimp only at*
 go_enter Tryz.func171,Tryz.ntmps171
 go_wp2
 go_ret
 exact⟨rfl,(Below.refl _ _).alloc (Nat.le_refl _) _⟩
theorem Zi8 (w:World) (S:Nat→Prop) (b1:Nat) (r:Int) (hr: -1099511627776≤r∧r≤1099511627776) (hb:QJ w b1 3 #[.int .i64 r]) (hS: ¬S b1):
  Jr5 w S 170 #[.pointer (some ⟨b1,0,none⟩)] (fun p=> -max (p.1-r) (r-p.1)):=by
 rintro W ⟨a,b,c⟩ hW ⟨⟨_,_⟩,⟨_,_⟩,⟨_,_⟩⟩
 obtain⟨_,_⟩:=hr
 have hB:=QJ.keeps hb hW hS
 have hlt:=QJ.lt hB
 have z0:(W.alloc (.cells #[.int .i64 a,.int .i64 b,.int .i64 c] 241)).cell? ⟨b1,0,none⟩=some (.int .i64 r):=by rw[QJ.cell (QJ.alloc hB _)];rfl
 show Calls Tryz.prog 170 #[.agg #[.int .i64 a,.int .i64 b,.int .i64 c],.pointer (some ⟨b1,0,none⟩)] W _
 dsimp only at*
 go_enter Tryz.func170,Tryz.ntmps170
 go_wp2
 all_goals
  go_ret;exact⟨O9 (by omega),(Below.refl _ _).alloc (Nat.le_refl _) _⟩
theorem Zd1 (w:World) (S:Nat→Prop) (b1:Nat) (hb:QJ w b1 242 #[.func (.func 159) #[] #[]]) (hS: ¬S b1):
  Jr5 w S 164 #[.pointer (some ⟨b1,0,none⟩)] (fun p=> -Qd9 p):=by
 rintro W ⟨a,b,c⟩ hW hp
 have hB:=QJ.keeps hb hW hS
 have hlt:=QJ.lt hB
 have hL: -2199023255552≤Qd9 (a,b,c)∧Qd9 (a,b,c)≤2199023255552:=by
  obtain⟨⟨_,_⟩,⟨_,_⟩,⟨_,_⟩⟩:=hp;unfold Qd9;dsimp only at*;omega
 obtain⟨_,_⟩:=hL
 have z0:(W.alloc (.cells #[.int .i64 a,.int .i64 b,.int .i64 c] 241)).cell? ⟨b1,0,none⟩=some (.func (.func 159) #[] #[]):=by rw[QJ.cell (QJ.alloc hB _)];rfl
 have hl:=Kt1 (a,b,c) hp
 obtain⟨L,E⟩: ∃L,Hid (Qd9 (a,b,c)=L):=⟨_,rfl⟩
 rw[E.out]at hl
 rename_i q1 q2
 rw[E.out]at q1 q2
 have HL:=QQ hl
 clear hl
 show Calls Tryz.prog 164 #[.agg #[.int .i64 a,.int .i64 b,.int .i64 c],.pointer (some ⟨b1,0,none⟩)] W _
 go_enter Tryz.func164,Tryz.ntmps164
 go_wp2_with fail
 refine(HL.out _).mono ?_
 rintro e w1 ⟨rfl,hB1⟩
 go_wp2
 go_ret
 exact⟨O9 (by rw[E.out]),((Below.refl _ _).alloc (Nat.le_refl _) _).trans (hB1.mono (by simp))⟩
theorem Qf8 {w w':World} (hb:Below w.heap.size w w') {p:Addr} {v:Value} (h:w.cell? p=some v):w'.cell? p=some v:=(hb.cell (World.block_lt_of_cell? w p h)).trans h
theorem Kk0 {w0 W w w':World} {S:Nat→Prop} {p1 p2 p3 p4 p5:Addr} {v1 v2 v3 v4 v5:Value} (hb:Below w.heap.size w w')
  (h:(QK S w0 w∧Below W.heap.size W w)∧w.cell? p1=some v1∧w.cell? p2=some v2∧w.cell? p3=some v3∧w.cell? p4=some v4∧w.cell? p5=some v5):
  (QK S w0 w'∧Below W.heap.size W w')∧w'.cell? p1=some v1∧w'.cell? p2=some v2∧w'.cell? p3=some v3∧w'.cell? p4=some v4∧w'.cell? p5=some v5:=
 ⟨⟨h.1.1.then_ hb,h.1.2.trans (hb.mono h.1.2.size)⟩,Qf8 hb h.2.1,Qf8 hb h.2.2.1,Qf8 hb h.2.2.2.1,Qf8 hb h.2.2.2.2.1,Qf8 hb h.2.2.2.2.2⟩
theorem Zd2 (w:World) (S:Nat→Prop) (fb mb:Nat) (g:FuncId) (lb:Array Value) (F:XJ→Int) (most:Int) (eg: ∀args w,(callFunc g args).run Tryz.prog w= .ok (.enter g args) w) (hF:Jr5 w S g lb F)
  (hf:QJ w fb 242 #[.func (.func g) #[] lb]) (hm:QJ w mb 3 #[.int .i64 most]) (hSf: ¬S fb) (hSm: ¬S mb):
  Jg7 w S 163 #[.pointer (some ⟨fb,0,none⟩),.pointer (some ⟨mb,0,none⟩)] (fun p=>F p != most):=by
 rintro W ⟨a,b,c⟩ hW hp
 have hBf:=QJ.keeps hf hW hSf
 have hBm:=QJ.keeps hm hW hSm
 have hA:Below W.heap.size W (W.alloc (.cells #[.int .i64 a,.int .i64 b,.int .i64 c] 241)):=(Below.refl _ _).alloc (Nat.le_refl _) _
 have hK:=hW.then_ hA.drew
 have hB:=hA.drew
 have hz:=QJ.new W 241 #[.int .i64 a,.int .i64 b,.int .i64 c]
 have z0:(W.alloc (.cells #[.int .i64 a,.int .i64 b,.int .i64 c] 241)).drew.cell? ⟨fb,0,none⟩=some (.func (.func g) #[] lb):=by rw[QJ.cell (QJ.drew (QJ.alloc hBf _))];rfl
 have z1:(W.alloc (.cells #[.int .i64 a,.int .i64 b,.int .i64 c] 241)).drew.cell? ⟨mb,0,none⟩=some (.int .i64 most):=by rw[QJ.cell (QJ.drew (QJ.alloc hBm _))];rfl
 have y0:(W.alloc (.cells #[.int .i64 a,.int .i64 b,.int .i64 c] 241)).drew.cell? ⟨W.heap.size,0,none⟩=some (.int .i64 a):=by rw[QJ.cell (QJ.drew hz)];rfl
 have y1:(W.alloc (.cells #[.int .i64 a,.int .i64 b,.int .i64 c] 241)).drew.cell? ⟨W.heap.size,1,none⟩=some (.int .i64 b):=by rw[QJ.cell (QJ.drew hz)];rfl
 have y2:(W.alloc (.cells #[.int .i64 a,.int .i64 b,.int .i64 c] 241)).drew.cell? ⟨W.heap.size,2,none⟩=some (.int .i64 c):=by rw[QJ.cell (QJ.drew hz)];rfl
 have HF:=QQ hF
 have Hm:=QQ hm
 clear hF hf hm hBf hBm hz hA hW
 show Calls Tryz.prog 163 #[.agg #[.int .i64 a,.int .i64 b,.int .i64 c],.pointer (some ⟨fb,0,none⟩),.pointer (some ⟨mb,0,none⟩)] W _
 go_enter Tryz.func163,Tryz.ntmps163
 go_wp2_with fail
 go_region_held3 (fun w'=>(QK S w w'∧Below W.heap.size W w')∧w'.cell? ⟨fb,0,none⟩=some (.func (.func g) #[] lb)∧w'.cell? ⟨mb,0,none⟩=some (.int .i64 most)∧w'.cell? ⟨W.heap.size,0,none⟩=some (.int .i64 a)∧w'.cell? ⟨W.heap.size,1,none⟩=some (.int .i64 b)∧w'.cell? ⟨W.heap.size,2,none⟩=some (.int .i64 c))
  (first|exact⟨⟨hK,hB⟩,z0,z1,y0,y1,y2⟩|assumption|exact Kk0 hB1 (by assumption))
  ((go_at_fn g;refine(HF.out _ (a,b,c) (And.left (And.left (by assumption))) hp).mono ?_;rintro e w1 ⟨rfl,hB1⟩))
 go_wp2
 go_ret
 exact⟨rfl,And.right (And.left (by assumption))⟩
theorem Zd3 (w:World) (S:Nat→Prop) (sb:Nat) (sg:Int) (hsg:sg=1∨sg= -1) (hb:QJ w sb 3 #[.int .i64 sg]) (hS: ¬S sb):
  Jg7 w S 167 #[.pointer (some ⟨sb,0,none⟩)] (fun p=>decide ((p.2.1-p.2.2)*sg≤0)):=by
 rintro W ⟨a,b,c⟩ hW ⟨⟨_,_⟩,⟨_,_⟩,⟨_,_⟩⟩
 have hB:=QJ.keeps hb hW hS
 have hlt:=QJ.lt hB
 have z0:(W.alloc (.cells #[.int .i64 a,.int .i64 b,.int .i64 c] 241)).cell? ⟨sb,0,none⟩=some (.int .i64 sg):=by rw[QJ.cell (QJ.alloc hB _)];rfl
 show Calls Tryz.prog 167 #[.agg #[.int .i64 a,.int .i64 b,.int .i64 c],.pointer (some ⟨sb,0,none⟩)] W _
 dsimp only at*
 clear hb hB hW
 rcases hsg with rfl|rfl
 ·go_enter Tryz.func167,Tryz.ntmps167
  go_wp2;go_ret;exact⟨Q5 (by simp),(Below.refl _ _).alloc (Nat.le_refl _) _⟩
 ·go_enter Tryz.func167,Tryz.ntmps167
  go_wp2;go_ret;exact⟨Q5 (by simp),(Below.refl _ _).alloc (Nat.le_refl _) _⟩
theorem Jt2 (g:FuncId) (lb:Array Value) (F:XJ→Bool) (eg: ∀args w,(callFunc g args).run Tryz.prog w= .ok (.enter g args) w) (A:Option Addr) (n c:Nat) (ps:List XJ) (w:World) (S:Nat→Prop)
  (hp:Jg7 w S g lb F) (h:ZV w KW 3 A n ps) (hN: ∀p∈ps,Jg6 p) (hm:n≤1000000):
  Calls Tryz.prog 193 #[.slice A n c,.func (.func g) #[] lb] w fun e w'=>Below w.heap.size w w'∧
   (((∀i (hi:i<ps.length),F ps[i]=false)∧e= .returned (.int .i64 (-1)))∨ ∃(k:Nat) (hk:k<ps.length),F ps[k]=true∧(∀i (hi:i<ps.length),i<k→F ps[i]=false)∧e= .returned (.int .i64 k)):=by
 have hl:=h.1
 have HP:=QQ hp
 have HL:=QQ hl
 have HH:=QQ h
 clear hp hl h
 go_enter Tryz.func193,Tryz.ntmps193
 go_wp2
 go_loopg [5,8] n (fun gg _ s8 wr=> ∃kk:Nat,kk≤n∧gg=n-kk∧s8= .int .i64 kk∧Below w.heap.size w wr∧Hid (∀i (hi:i<ps.length),i<kk→F ps[i]=false))
 case atStart=>exact⟨0,Nat.zero_le _,rfl,rfl,Below.refl _ w,QQ fun i _ hi=>absurd hi (Nat.not_lt_zero _)⟩
 case round=>
  obtain⟨kk,hkk,rfl,rfl,hB,HA⟩:=hrel
  by_cases hlt:kk<n
  ·obtain⟨b,off,rfl,_,_⟩:=HH.out.2 (by omega)
   have hkl:kk<ps.length:=by have:=HL.out;omega
   obtain⟨x0,x1,x2⟩:=Zi4 (HH.out.below hB (Nat.le_refl _)) hkl;have hcall:=HP.out wr ps[kk] (QK.of_below hB _) (hN _ (List.getElem_mem _));have hltz:(kk:Int)< (n:Int):=by omega
   obtain⟨p,E⟩: ∃p,Hid (ps[kk]=p):=⟨_,QQ rfl⟩;rw[E.out]at x0 x1 x2 hcall;obtain⟨p0,p1,p2⟩:=p;unfold Qq4 at hcall;dsimp only at x0 x1 x2 hcall
   cases hq:F (p0,p1,p2)with
   |true=>
    rw[hq]at hcall;have HQ:=QQ hq;clear hq;go_wp2_with (go_at_fn g;refine hcall.mono ?_;rintro e w' ⟨rfl,hb'⟩)
    go_ret;exact⟨hB.trans (hb'.mono hB.size),.inr ⟨kk,hkl,by rw[E.out];exact HQ.out,HA.out,rfl⟩⟩
   |false=>
    rw[hq]at hcall;have HQ:=QQ hq;clear hq;go_wp2_with (go_at_fn g;refine hcall.mono ?_;rintro e w' ⟨rfl,hb'⟩)
    go_roundg (n- (kk+1))
    case measure=>omega
    case rel=>
     refine⟨kk+1,by omega,rfl,by go_num,hB.trans (hb'.mono hB.size),QQ fun i hi hik=> ?_⟩
     by_cases e:i=kk
     ·subst e
      rw[E.out];exact HQ.out
     ·exact HA.out i hi (by omega)
  ·have hltz: ¬(kk:Int)< (n:Int):=by omega
   obtain rfl:kk=n:=by omega
   go_wp2;go_ret;exact⟨hB,.inl ⟨fun i hi=>HA.out i hi (by have:=HL.out;omega),rfl⟩⟩
theorem Xb0 (g:FuncId) (lb:Array Value) (F:XJ→Bool) (eg: ∀args w,(callFunc g args).run Tryz.prog w= .ok (.enter g args) w) (A:Option Addr) (n c:Nat) (ps:List XJ) (w:World) (S:Nat→Prop)
  (hp:Jg7 w S g lb F) (h:ZV w KW 3 A n ps) (hN: ∀p∈ps,Jg6 p) (hm:n≤1000000):
  Calls Tryz.prog 166 #[.slice A n c,.func (.func g) #[] lb] w fun e w'=>Below w.heap.size w w'∧e= .returned (.bool (ps.any F)):=by
 have HP:=QQ hp
 have HH:=QQ h
 have HN:=QQ hN
 clear hp h hN
 go_enter Tryz.func166,Tryz.ntmps166
 go_wp2_with fail
 refine(Jt2 g lb F eg A n c ps w S HP.out HH.out HN.out hm).mono ?_
 rintro e w' ⟨hB,⟨hno,rfl⟩|⟨k,hk,hy,_,rfl⟩⟩
 ·have HE:Hid (ps.any F=false):=QQ (by
   rw[List.any_eq_false];intro p hp;obtain⟨i,hi,rfl⟩:=List.mem_iff_getElem.1 hp;rw[hno i hi];simp)
  clear hno;go_wp2;go_ret;exact⟨hB,Q5 (by rw[HE.out])⟩
 ·have HE:Hid (ps.any F=true):=QQ (by rw[List.any_eq_true];exact⟨_,List.getElem_mem hk,hy⟩)
  clear hy;go_wp2;go_ret;exact⟨hB,Q5 (by rw[HE.out])⟩
structure Qx0 (F:XJ→Bool) (ps cs:List XJ) (i j:Nat):Prop where
 len:cs.length=ps.length
 lt:i<j
 jn:j≤ps.length
 done:cs.take i=(ps.take j).filter (fun p=> !F p)
 rest: ∀m (h:m<ps.length) (h':m<cs.length),j≤m→cs[m]=ps[m]
theorem Qx0.skip {F:XJ→Bool} {ps cs:List XJ} {i j:Nat} (h:Qx0 F ps cs i j) (hj:j<ps.length) (hF:F ps[j]=true):Qx0 F ps cs i (j+1):=
 ⟨h.len,by have:=h.lt;omega,hj,by rw[List.take_succ_eq_append_getElem hj,List.filter_append,h.done];simp[hF],fun m hm hm' hle=>h.rest m hm hm' (by omega)⟩
theorem Qx0.keep {F:XJ→Bool} {ps cs:List XJ} {i j:Nat} (h:Qx0 F ps cs i j) (hj:j<ps.length) (hF:F ps[j]=false):Qx0 F ps (cs.set i ps[j]) (i+1) (j+1):=by
 have hlt:=h.lt
 have hlen:=h.len
 refine⟨by rw[List.length_set];exact h.len,by omega,hj, ?_,fun m hm hm' hle=> ?_⟩
 ·rw[List.take_succ_eq_append_getElem hj,List.filter_append,←h.done,List.take_succ_eq_append_getElem (by rw[List.length_set];omega),List.getElem_set_self,List.take_set_of_le (Nat.le_refl _)]
  simp[hF]
 ·rw[List.getElem_set_ne (by omega)]
  exact h.rest m hm (by simpa using hm') (by omega)
theorem Kk1 {w:World} {g n c:Nat} {t:TypeId} {cs:List XJ} (h:QW w (some ⟨g,0,none⟩) n c t 3 (JQ KW cs)) {i:Nat} (hi:i<cs.length) (p:XJ):
  QW (((w.setCell ⟨g,i*3,none⟩ (.int .i64 p.1)).setCell ⟨g,i*3+1,none⟩ (.int .i64 p.2.1)).setCell ⟨g,i*3+2,none⟩ (.int .i64 p.2.2)) (some ⟨g,0,none⟩) n c t 3 (JQ KW (cs.set i p)):=by
 rw[←Qq3 JX p cs i hi]
 exact((h.set _ _).set _ _).set _ _
theorem Zi9 (w:World) (g a b c:Nat) (x y z:Value):QK (fun i=>i=g) w (((w.setCell ⟨g,a,none⟩ x).setCell ⟨g,b,none⟩ y).setCell ⟨g,c,none⟩ z):=
 ((QK.set_ w ⟨g,a,none⟩ x).trans (QK.set_ _ ⟨g,b,none⟩ y) (fun i h=> .inl h)).trans (QK.set_ _ ⟨g,c,none⟩ z) (fun i h=> .inl h)
theorem Xo2 (g:FuncId) (lb:Array Value) (F:XJ→Bool) (eg: ∀args w,(callFunc g args).run Tryz.prog w= .ok (.enter g args) w) (A:Option Addr) (n c:Nat) (ps:List XJ) (w:World) (S:Nat→Prop)
  (hp:Jg7 w S g lb F) (h:QW w A n c 241 3 (JQ KW ps)) (hS: ∀g,QZ A=some g→S g) (hN: ∀p∈ps,Jg6 p) (hm:n≤1000000):
  Calls Tryz.prog 162 #[.slice A n c,.func (.func g) #[] lb] w fun e w'=>QK S w w'∧
   ∃m,e= .returned (.slice A m c)∧QW w' A m c 241 3 (JQ KW (ps.filter fun p=> !F p)):=by
 have HP:=QQ hp
 have HH:=QQ h
 have HN:=QQ hN
 have HL:=QQ (V0 JX (by omega) h)
 have HE:=QQ (ZV.of_row JX (by omega) h)
 clear hp h hN
 go_enter Tryz.func162,Tryz.ntmps162
 go_wp2_with fail
 refine(Jt2 g lb F eg A n c ps w S HP.out HE.out HN.out hm).mono ?_
 rintro e w1 ⟨hB,⟨hno,rfl⟩|⟨k,hk,hy,hbef,rfl⟩⟩
 ·have HX:Hid (ps.filter (fun p=> !F p)=ps):=QQ (by
   rw[List.filter_eq_self];intro p hp;obtain⟨i,hi,rfl⟩:=List.mem_iff_getElem.1 hp;rw[hno i hi];rfl)
  clear hno;go_wp2;go_ret;exact⟨QK.of_below hB _,n,rfl,by rw[HX.out];exact HH.out.below hB⟩
 ·obtain⟨gr,rfl⟩: ∃gr,A=some ⟨gr,0,none⟩:=by obtain⟨gr,hA,_⟩:=HH.out.elem JX (by omega) hk;exact⟨gr,hA⟩
  have hSg:=hS gr rfl;have hn:=HL.out;have hneg:((k:Int) == -1)=false:=YW (by omega);have HI0:Qx0 F ps ps k (k+1):=⟨rfl,by omega,by omega,by
   rw[List.take_succ_eq_append_getElem hk,List.filter_append,List.filter_eq_self.2]
   ·simp[hy]
   ·intro p hp
    obtain⟨i,hi,rfl⟩:=List.mem_iff_getElem.1 hp;have hi':i<k:=by simp at hi;omega
    rw[List.getElem_take,hbef i (by omega) hi'];rfl,fun m _ _ _=>rfl⟩
  have HI:=QQ HI0;have HR:=QQ (HH.out.below hB);clear hbef hy HI0;have HN1:=QQ hn;have hk6:k<1000000:=by omega
  clear hn hk;go_wp2_with fail
  go_loopg [5,6,7] n (fun gg s5 s6 _ wr=> ∃(i j:Nat) (cs:List XJ),s5= .int .i64 i∧s6= .int .i64 j∧j≤n∧n-j≤gg∧QK S w wr∧QW wr (some ⟨gr,0,none⟩) n c 241 3 (JQ KW cs)∧Hid (Qx0 F ps cs i j))
  case atStart=>exact⟨k,k+1,ps,rfl,by go_num,by have:=HI.out.jn;have:=HN1.out;omega,by omega,QK.of_below hB _,HR.out,HI⟩
  case round=>
   obtain⟨i,j,cs,rfl,rfl,hj,hg,hK,hR,HJ⟩:=hrel;have hij:=HJ.out.lt;have hcl:cs.length=n:=by have:=HJ.out.len;have:=HN1.out;omega
   have HC:=QQ hcl
   by_cases hlt:j<n
   ·have hjl:j<cs.length:=by omega
    have hjp:j<ps.length:=by have:=HN1.out;omega
    obtain⟨x0,x1,x2⟩:=Jg2 hR hjl;have hltz:(j:Int)< (n:Int):=by omega
    have er:=HJ.out.rest j hjp hjl (Nat.le_refl _);obtain⟨p,E⟩: ∃p,Hid (ps[j]=p):=⟨_,QQ rfl⟩;rw[er,E.out]at x0 x1 x2;have hNp:Jg6 p:=by rw[←E.out];exact HN.out _ (List.getElem_mem _)
    obtain⟨p0,p1,p2⟩:=p;dsimp only at x0 x1 x2;have hA1:Below wr.heap.size wr (wr.alloc (.cells #[.int .i64 p0,.int .i64 p1,.int .i64 p2] 241)):=(Below.refl _ _).alloc (Nat.le_refl _) _;have HA1:=QQ hA1;have hcall:=HP.out _ (p0,p1,p2) (hK.then_ hA1) hNp;have HR1:=QQ (hR.below hA1);have HB1:=QQ (QJ.new wr 241 #[.int .i64 p0,.int .i64 p1,.int .i64 p2]);have HK:=QQ hK;have hgr:=hR.lt (g:=gr) rfl;unfold Qq4 at hcall;dsimp only at hcall;clear hR er hNp hcl hA1 hK
    cases hq:F (p0,p1,p2)with
    |true=>
     rw[hq]at hcall;have HQ:=QQ hq;clear hq;go_wp2_with (go_at_fn g;refine hcall.mono ?_;rintro e w' ⟨rfl,hb'⟩)
     go_roundg (n- (j+1))
     case measure=>omega
     case rel=>exact⟨i,j+1,cs,rfl,by go_num,by omega,by omega,HK.out.then_ (HA1.out.trans (hb'.mono (by simp))),HR1.out.below hb',QQ (HJ.out.skip hjp (by rw[E.out];exact HQ.out))⟩
    |false=>
     rw[hq]at hcall;have HQ:=QQ hq;clear hq;go_wp2_with fail
     refine hcall.mono ?_;rintro e w2 ⟨rfl,hb'⟩;have hR2:=HR1.out.below hb';have hB2:=QJ.keep HB1.out hb';have z0:w2.cell? ⟨wr.heap.size,0,none⟩=some (.int .i64 p0):=by rw[QJ.cell hB2];rfl
     have z1:w2.cell? ⟨wr.heap.size,1,none⟩=some (.int .i64 p1):=by rw[QJ.cell hB2];rfl
     have z2:w2.cell? ⟨wr.heap.size,2,none⟩=some (.int .i64 p2):=by rw[QJ.cell hB2];rfl
     have hil:i<cs.length:=by have:=HC.out;omega
     have hi6:(i:Int)< (n:Int):=by omega
     have hi7:(0:Int)≤(i:Int):=by omega
     obtain⟨y0,y1,y2⟩:=Jg2 hR2 hil;have f0:=hR2.frozen (i*3);have f1:=hR2.frozen (i*3+1);have f2:=hR2.frozen (i*3+2);generalize cs[i].1=o0 at y0;generalize cs[i].2.1=o1 at y1;generalize cs[i].2.2=o2 at y2;have HR2:=QQ hR2;clear x0 x1 x2 hR2 hB2;go_wp2_with fail
     go_roundg (n- (j+1))
     case measure=>omega
     case rel=>
      refine⟨i+1,j+1,cs.set i (p0,p1,p2),by go_num,by go_num,by omega,by omega, ?_,Kk1 HR2.out (by have:=HC.out;omega) (p0,p1,p2),QQ ?_⟩
      ·exact((HK.out.then_ HA1.out).then_ hb').trans (Zi9 _ _ _ _ _ _ _ _) (fun x hx=> .inl (by subst hx;exact hSg))
      ·have:=HJ.out.keep hjp (by rw[E.out];exact HQ.out)
       rw[E.out]at this;exact this
   ·obtain rfl:j=n:=by omega
    have hltz: ¬(j:Int)< (j:Int):=by omega
    have hic:i<j:=hij;obtain⟨vs,hvl,hclr⟩:=Qc8 (P:=Tryz.prog) wr 191 241 0 (.agg #[.int .i64 0,.int .i64 0,.int .i64 0]) 3 Tryz.underlying191 (fun _=>by kernel_rfl) rfl (by omega) (by intro v hv;simp[Value.cells]at hv;subst hv;rfl) gr (i*3) (j-i) (c-i) (by omega)
     (fun x hx=>hR.some_ (by omega)) (fun x hx=>hR.frozen _)
    have HR3:=QQ hR;obtain⟨hc1,hc2⟩:=hR.cap;have hc3:i<c:=by omega
    have hc4: ¬c=i:=by omega
    have hi7:(0:Int)≤(i:Int):=by omega
    have hi8:(i:Int)≤(j:Int):=by omega
    have hi9:(j:Int)≤(c:Int):=by omega
    clear hcl hR;go_wp2_with fail
    go_ret;refine⟨hK.trans (QK.setCells _ _ _ _) (fun x hx=> .inl (by subst hx;exact hSg)),i,rfl, ?_⟩;have hd:=HJ.out.done;rw[List.take_of_length_le (l:=ps) (by rw[HN1.out];exact Nat.le_refl _)]at hd;rw[←hd,←Ja4 JX];exact QW.sets_past _ _ _ (HR3.out.pop i (by omega)) (Nat.le_refl _)
theorem Zd4:(Tryz.prog.info? 241).map (fun i=>(i.zero,i.size,i.bytes))=some (some (.agg #[.int .i64 0,.int .i64 0,.int .i64 0]),3,24):=by kernel_rfl
theorem Xy3 (A:Option Addr) (n c:Nat) (ps:List XJ) (w:World) (h:ZV w KW 3 A n ps) (hn:0<n) (hm:n≤1000000):
  Calls Tryz.prog 160 #[.slice A n c] w fun e w'=>Below w.heap.size w w'∧
   ∃g c',e= .returned (.slice (some ⟨g,0,none⟩) n c')∧w.heap.size≤g∧QW w' (some ⟨g,0,none⟩) n c' 241 3 (JQ KW ps):=by
 obtain⟨b,off,rfl,hlt⟩: ∃b off,A=some ⟨b,off,none⟩∧b<w.heap.size:=by obtain⟨b,off,h1,h2,_⟩:=h.2 hn;exact⟨b,off,h1,h2⟩
 have hne: ∀wx,(binOp .eql 191 (.slice (some ⟨b,off,none⟩) n c) (.slice none 0 0)).run Tryz.prog wx= .ok (.bool false) wx:=fun wx=>Lib.run_eql_slice_nil (P:=Tryz.prog) wx 191 241 (some ⟨b,off,none⟩) n c 0 0 Tryz.underlying191
 have HH:=QQ h
 have hl:=h.1
 have HL:=QQ hl
 clear h hl
 obtain⟨i0,hi0,hz0,hz1,hz2⟩:=info_parts Zd4
 go_enter Tryz.func160,Tryz.ntmps160
 have hown0:(w.alloc (.cells #[] 241)).ownsRow w.heap.size 241 3 (.slice (some ⟨w.heap.size,0,none⟩) 0 0) 0 []:=⟨rfl,.inr ⟨w.heap.size,0,#[],rfl,Nat.le_refl _,heap_alloc_new w _,Nat.le_refl _,Nat.zero_le _,rfl,rfl⟩⟩
 have hl2:(JQ KW ps).length=n*3:=by rw[YY JX,HL.out]
 have hnews:=(HH.out.below ((Below.refl _ w).alloc (Nat.le_refl _) (.cells #[] 241)) (Nat.le_refl _)).news JX
 have HO:=QQ hown0
 have HL2:=QQ hl2
 have HNW:=QQ hnews
 clear hown0 hl2 hnews
 go_wp2_with (at_builtin;go_loud (refine wpList_append_lies _ rfl _ _ 191 rfl w.heap.size 241 i0 _ 3 24 Tryz.underlying191 hi0 hz0 hz1 hz2 rfl (by omega) _ 0 [] rfl HO.out ⟨b,off,none⟩ n c (JQ KW ps) rfl HL2.out HNW.out (Qh9 Qc9 _) (by omega) (by unfold maxLen;omega) (by omega) (by simp) (w.heap.size+1) (by simp) ?_);intro g cap w1 hown hgrow hat hlt1)
 go_ret
 have hb0:g=w.heap.size∨g=w.heap.size+1:=by
  rcases hat with h|h
  ·exact .inl (Option.some.inj h).symm
  ·exact .inr h
 simp only[Nat.zero_add,List.nil_append]at hown
 exact⟨((Below.refl _ w).alloc (Nat.le_refl _) _).grown hgrow (by simp) (fun q hq=>by cases hq;exact Nat.le_refl _),g,cap,by simp,by omega,Xc4 hown⟩
theorem Xy4 (A:Option Addr) (n c:Nat) (ps:List XJ) (w:World) (h:ZV w KW 3 A n ps) (hm:n≤1000000):
  Calls Tryz.prog 160 #[.slice A n c] w fun e w'=>Below w.heap.size w w'∧
   ∃A' c',e= .returned (.slice A' n c')∧(∀g,QZ A'=some g→w.heap.size≤g)∧QW w' A' n c' 241 3 (JQ KW ps):=by
 by_cases hn:0<n
 ·refine(Xy3 A n c ps w h hn hm).mono ?_
  rintro e w' ⟨hB,g,c',rfl,hg,hR⟩;exact⟨hB,_,c',rfl,fun x hx=>by cases hx;exact hg,hR⟩
 ·obtain rfl:n=0:=by omega
  obtain rfl:ps= []:=List.eq_nil_of_length_eq_zero h.1;clear h
  cases A with
  |none=>
   have hne: ∀wx,(binOp .eql 191 (.slice none 0 c) (.slice none 0 0)).run Tryz.prog wx= .ok (.bool true) wx:=fun wx=>Lib.run_eql_slice_nil (P:=Tryz.prog) wx 191 241 none 0 c 0 0 Tryz.underlying191
   go_enter Tryz.func160,Tryz.ntmps160
   go_wp2;go_ret;exact⟨Below.refl _ _,none,0,rfl,by simp[QZ],World.ownsRow_nil _ _ _ _⟩
  |some a=>
   have hne: ∀wx,(binOp .eql 191 (.slice (some a) 0 c) (.slice none 0 0)).run Tryz.prog wx= .ok (.bool false) wx:=fun wx=>Lib.run_eql_slice_nil (P:=Tryz.prog) wx 191 241 (some a) 0 c 0 0 Tryz.underlying191
   go_enter Tryz.func160,Tryz.ntmps160
   go_wp2;go_ret;exact⟨(Below.refl _ _).alloc (Nat.le_refl _) _,some ⟨w.heap.size,0,none⟩,0,rfl,fun g hg=>by cases hg;exact Nat.le_refl _,⟨rfl,.inr ⟨w.heap.size,0,#[],rfl,Nat.zero_le _,heap_alloc_new w _,Nat.le_refl _,Nat.zero_le _,rfl,rfl⟩⟩⟩
def Xi4 (F:XJ→Int):List XJ→Int
 | []=>0
 |p::r=>r.foldl (fun m q=>if m<F q then F q else m) (F p)
theorem Xc6 (F:XJ→Int) (l:List XJ) (p:XJ) (h:0<l.length):Xi4 F (l++ [p])=if Xi4 F l<F p then F p else Xi4 F l:=by
 cases l with
 |nil=>simp at h
 |cons a l=>
  show List.foldl _ _ (l++ [p])=_;rw[List.foldl_append]
  rfl
def Q4 (F:XJ→Int) (ps:List XJ):List XJ:=ps.filter fun p=>F p ==Xi4 F ps
theorem Xy5 (F:XJ→Int) (l:List XJ): ∀m:Int,(l.foldl (fun m q=>if m<F q then F q else m) m=m∨ ∃p∈l,F p=l.foldl (fun m q=>if m<F q then F q else m) m)∧
  m≤l.foldl (fun m q=>if m<F q then F q else m) m∧ ∀p∈l,F p≤l.foldl (fun m q=>if m<F q then F q else m) m:=by
 induction l with
 |nil=>intro m;exact⟨.inl rfl,Int.le_refl _,fun p hp=>by cases hp⟩
 |cons a l ih=>
  intro m;obtain⟨h1,h2,h3⟩:=ih (if m<F a then F a else m);rw[List.foldl_cons]
  by_cases hlt:m<F a
  ·rw[if_pos hlt]at h1 h2 h3⊢
   refine⟨.inr ?_,by omega,fun p hp=> ?_⟩
   ·rcases h1 with h1|⟨p,hp,e⟩
    ·exact⟨a,by simp,h1.symm⟩
    ·exact⟨p,by simp[hp],e⟩
   ·rcases List.mem_cons.1 hp with rfl|hp
    ·exact h2
    ·exact h3 p hp
  ·rw[if_neg hlt]at h1 h2 h3⊢
   refine⟨?_,h2,fun p hp=> ?_⟩
   ·rcases h1 with h1|⟨p,hp,e⟩
    ·exact .inl h1
    ·exact .inr ⟨p,by simp[hp],e⟩
   ·rcases List.mem_cons.1 hp with rfl|hp
    ·omega
    ·exact h3 p hp
theorem Xc7 (F:XJ→Int) (ps:List XJ) (h:ps≠ []):(∃p∈ps,F p=Xi4 F ps)∧ ∀p∈ps,F p≤Xi4 F ps:=by
 cases ps with
 |nil=>exact absurd rfl h
 |cons a l=>
  obtain⟨h1,h2,h3⟩:=Xy5 F l (F a);refine⟨?_,fun p hp=> ?_⟩
  ·rcases h1 with h1|⟨p,hp,e⟩
   ·exact⟨a,by simp,h1.symm⟩
   ·exact⟨p,by simp[hp],e⟩
  ·rcases List.mem_cons.1 hp with rfl|hp
   ·exact h2
   ·exact h3 p hp
theorem Qx1 (F:XJ→Int) {ps:List XJ} (h:ps≠ []):Q4 F ps≠ []:=by
 obtain⟨⟨p,hp,e⟩,_⟩:=Xc7 F ps h
 intro h0
 have:p∈Q4 F ps:=List.mem_filter.2 ⟨hp,by simp[e]⟩
 rw[h0]at this
 cases this
theorem Xc8 {F:XJ→Int} {ps:List XJ} {p:XJ} (h:p∈Q4 F ps):p∈ps:=(List.mem_filter.1 h).1
theorem Kt4 (g:FuncId) (lb:Array Value) (F:XJ→Int) (eg: ∀args w,(callFunc g args).run Tryz.prog w= .ok (.enter g args) w) (b7:Nat) (A:Option Addr) (n c:Nat) (ps:List XJ) (w:World)
  (hF:Jr5 w (fun i=>QZ A=some i) g lb F) (hb:QJ w b7 191 #[.slice A n c]) (h:QW w A n c 241 3 (JQ KW ps)) (hne:QZ A≠some b7) (hN: ∀p∈ps,Jg6 p) (hm:n≤1000000):
  Calls Tryz.prog 161 #[.func (.func g) #[] lb,.pointer (some ⟨b7,0,none⟩)] w fun e w'=>e= .returned (.tuple #[])∧QK (fun i=>i=b7∨QZ A=some i) w w'∧
   ∃m,QJ w' b7 191 #[.slice A m c]∧QW w' A m c 241 3 (JQ KW (Q4 F ps)):=by
 have HP:=QQ hF
 have HH:=QQ h
 have HN:=QQ hN
 have HL:=QQ (V0 JX (by omega) h)
 have HE:=QQ (ZV.of_row JX (by omega) h)
 have HBB:=QQ hb
 have hlt:=QJ.lt hb
 have HNE:=QQ hne
 clear hF h hN hb hne
 have z0:((w.alloc (.cells #[.func (.func g) #[] lb] 242)).alloc (.cells #[.int .i64 0] 3)).cell? ⟨b7,0,none⟩=some (.slice A n c):=by rw[QJ.cell (QJ.alloc (QJ.alloc HBB.out _) _)];rfl
 go_enter Tryz.func161,Tryz.ntmps161
 go_wp2_with fail
 go_loopg [4,5,6,9] n (fun gg _ _ _ s9 wr=> ∃(k:Nat) (m:Int),k≤n∧gg=n-k∧s9= .int .i64 k∧Below w.heap.size w wr∧QJ wr w.heap.size 242 #[.func (.func g) #[] lb]∧QJ wr (w.heap.size+1) 3 #[.int .i64 m]∧Hid (m=Xi4 F (ps.take k)))
 case atStart=>exact⟨0,0,Nat.zero_le _,rfl,rfl,((Below.refl _ w).alloc (Nat.le_refl _) _).alloc (by simp) _,QJ.alloc (QJ.new _ _ _) _,by have:=QJ.new (w.alloc (.cells #[.func (.func g) #[] lb] 242)) 3 #[.int .i64 0];simpa using this,QQ rfl⟩
 case round=>
  obtain⟨k,m,hk,rfl,rfl,hB,hbf,hbm,HM⟩:=hrel
  by_cases hlt2:k<n
  ·have hkl:k<ps.length:=by have:=HL.out;omega
   have hsz:=hB.size;obtain⟨gr,hA⟩: ∃gr,A=some ⟨gr,0,none⟩:=by obtain⟨gr,hA,_⟩:=HH.out.elem JX (by omega) hkl;exact⟨gr,hA⟩
   subst hA;obtain⟨x0,x1,x2⟩:=Jg2 (HH.out.below hB) hkl;have hltz:(k:Int)< (n:Int):=by omega
   have hi7:(0:Int)≤(k:Int):=by omega
   have hNp:Jg6 ps[k]:=HN.out _ (List.getElem_mem _);obtain⟨p,E⟩: ∃p,Hid (ps[k]=p):=⟨_,QQ rfl⟩;rw[E.out]at x0 x1 x2 hNp;have HT:=QQ (List.take_succ_eq_append_getElem hkl);obtain⟨p0,p1,p2⟩:=p;dsimp only at x0 x1 x2;have hA1:Below wr.heap.size wr (wr.alloc (.cells #[.int .i64 p0,.int .i64 p1,.int .i64 p2] 241)):=(Below.refl _ _).alloc (Nat.le_refl _) _;have hcall:=HP.out _ (p0,p1,p2) (QK.of_below (hB.trans (hA1.mono hsz)) _) hNp;have hbf1:=QJ.keep hbf hA1;have y0:(wr.alloc (.cells #[.int .i64 p0,.int .i64 p1,.int .i64 p2] 241)).cell? ⟨w.heap.size,0,none⟩=some (.func (.func g) #[] lb):=by rw[QJ.cell hbf1];rfl
   have HF1:=QQ hbf1;have HM1:=QQ (QJ.keep hbm hA1);have HBL:=QQ (hB.trans (hA1.mono hsz));have hbs:=QJ.lt hbm;unfold Qq4 at hcall;dsimp only at hcall;clear hbf hbm hNp hbf1 hA1 hB;go_wp2_with fail
   refine hcall.mono ?_;rintro e w2 ⟨rfl,hb'⟩;have hbf2:=QJ.keep HF1.out hb';have hbm2:=QJ.keep HM1.out hb';have hB2:=HBL.out.trans (hb'.mono (by simp;omega));have q0:w2.cell? ⟨w.heap.size+1,0,none⟩=some (.int .i64 m):=by rw[QJ.cell hbm2];rfl
   have qf:w2.frozen? ⟨w.heap.size+1,0,none⟩=false:=QJ.frozen hbm2 0;have hbm3:=QJ.set_ hbm2 0 (.int .i64 (F (p0,p1,p2)));have hbf3:=QJ.far hbf2 (p:=⟨w.heap.size+1,0,none⟩) (by simp) (.int .i64 (F (p0,p1,p2)));have hB3:=hB2.setCell (p:=⟨w.heap.size+1,0,none⟩) (by simp) (.int .i64 (F (p0,p1,p2)));generalize hf:F (p0,p1,p2)=f at hbm3 hbf3 hB3;have E2:=QQ hf;have G1:=QQ hbm3;have G2:=QQ hbf3;have G3:=QQ hB3;have G4:=QQ hbm2;have G5:=QQ hbf2;have G6:=QQ hB2;clear x0 x1 x2 y0 hcall hbm3 hbf3 hB3 hbm2 hbf2 hB2 hf
   by_cases hk0:k=0
   ·subst hk0
    go_wp2_with fail
    go_roundg (n- (0+1))
    case measure=>omega
    case rel=>exact⟨0+1,f,by omega,rfl,by go_num,G3.out,G2.out,G1.out,QQ (by rw[HT.out,E.out,←E2.out];rfl)⟩
   ·have t0:=YW (show(k:Int)≠0 by omega)
    by_cases hgt:m<f
    ·have t1:=J0 hgt
     go_wp2_with fail
     go_roundg (n- (k+1))
     case measure=>omega
     case rel=>exact⟨k+1,f,by omega,rfl,by go_num,G3.out,G2.out,G1.out,QQ (by rw[HT.out,Xc6 F _ _ (by simp;omega),←HM.out,E.out,E2.out,if_pos hgt])⟩
    ·have t1:=OY hgt
     go_wp2_with fail
     go_roundg (n- (k+1))
     case measure=>omega
     case rel=>exact⟨k+1,m,by omega,rfl,by go_num,G6.out,G5.out,G4.out,QQ (by rw[HT.out,Xc6 F _ _ (by simp;omega),←HM.out,E.out,E2.out,if_neg (by omega)])⟩
  ·obtain rfl:k=n:=by omega
   have hltz: ¬(k:Int)< (k:Int):=by omega
   have c7:wr.cell? ⟨b7,0,none⟩=some (.slice A k c):=by rw[QJ.cell (HBB.out.keep hB)];rfl
   have f7:wr.frozen? ⟨b7,0,none⟩=false:=QJ.frozen (HBB.out.keep hB) 0;have HR:=QQ (HH.out.below hB);have hPred:=Zd2 wr (fun i=>QZ A=some i) w.heap.size (w.heap.size+1) g lb F m eg (HP.out.later (QK.of_below hB (fun _=>False)) (fun _ h=>h.elim)) hbf hbm (fun h=>by have:=HH.out.lt h;omega) (fun h=>by have:=HH.out.lt h;omega);have HPr:=QQ hPred;have HB:=QQ hB;clear hPred hbf hbm hB;go_wp2_with fail
   refine(Xo2 _ _ _ (Go.Proofs.enters_of Tryz.func163 (by kernel_rfl) rfl) A k c ps wr _ HPr.out HR.out (fun _ h=>h) HN.out hm).mono ?_;rintro e w2 ⟨hK,mm,rfl,hR2⟩;have hne7: ¬QZ A=some b7:=HNE.out;have hb2:=(HBB.out.keep HB.out).keeps hK hne7;have c8:w2.cell? ⟨b7,0,none⟩=some (.slice A k c):=by rw[QJ.cell hb2];rfl
   have f8:=QJ.frozen hb2 0;have hk3:=QK.set_ w2 ⟨b7,0,none⟩ (.slice A mm c);have hR3:=hR2.keeps hk3 (fun x hx e=>HNE.out (by rw[hx,e]));have hb3:=QJ.set_ hb2 0 (.slice A mm c);have HR3:=QQ hR3;have HB3:=QQ hb3;have HK3:=QQ (((QK.of_below HB.out (fun i=>i=b7∨QZ A=some i)).trans hK (fun i h=> .inl (.inr h))).trans hk3 (fun i h=> .inl (.inl h)));have e7:(fun p=> !(F p != m))=fun p=>F p ==Xi4 F ps:=by
    funext p
    rw[HM.out,List.take_of_length_le (by rw[HL.out];exact Nat.le_refl _)];simp[bne]
   have HE7:=QQ e7;clear hb2 hk3 hR3 hb3 e7 c7 f7 hR2 hK;go_wp2_with fail
   go_end0
   refine⟨rfl,HK3.out,mm,HB3.out, ?_⟩;unfold Q4;rw[←HE7.out];exact HR3.out
theorem Xo3 (sg:Int) (hsg:sg=1∨sg= -1) (b7:Nat) (A:Option Addr) (n c:Nat) (ps:List XJ) (w:World)
  (hb:QJ w b7 191 #[.slice A n c]) (h:QW w A n c 241 3 (JQ KW ps)) (hN: ∀p∈ps,Jg6 p) (hm:n≤1000000):
  Calls Tryz.prog 165 #[.int .i64 sg,.pointer (some ⟨b7,0,none⟩)] w fun e w'=>e= .returned (.bool (!(ps.any fun p=>decide ((p.2.1-p.2.2)*sg≤0))))∧Below w.heap.size w w':=by
 have z0:(w.alloc (.cells #[.int .i64 sg] 3)).cell? ⟨b7,0,none⟩=some (.slice A n c):=by rw[QJ.cell (QJ.alloc hb _)];rfl
 have hA:Below w.heap.size w (w.alloc (.cells #[.int .i64 sg] 3)):=(Below.refl _ _).alloc (Nat.le_refl _) _
 have HE:=QQ (ZV.of_row JX (by omega) (h.below hA))
 have HP:=QQ (Zd3 (w.alloc (.cells #[.int .i64 sg] 3)) (fun _=>False) w.heap.size sg hsg (QJ.new _ _ _) id)
 have HA:=QQ hA
 have HN:=QQ hN
 have hmf: ∀(fn:Fn) (first cap:Array Value) (w:World),(Instr.makeFunc fn first cap).run Tryz.prog w= .ok (.func fn first cap) w:=fun _ _ _ _=>rfl
 clear hb h hA hN hsg
 go_enter Tryz.func165,Tryz.ntmps165
 go_wp2_with fail
 refine(Xb0 _ _ _ (Go.Proofs.enters_of Tryz.func167 (by kernel_rfl) rfl) A n c ps _ _ HP.out HE.out HN.out hm).mono ?_
 rintro e w1 ⟨hB,rfl⟩
 go_wp2
 go_ret
 exact⟨rfl,HA.out.trans (hB.mono (by simp))⟩
structure Qx2 (w0 w:World) (b3 b4 b6 b7:Nat) (r:Int) (A:Option Addr) (m c:Nat) (ps:List XJ):Prop where
 around:QJ w b3 3 #[.int .i64 r]
 quote:QJ w b4 86 #[.int .i64 0,.int .i64 0,.int .i64 0]
 left:QJ w b6 242 #[.func (.func 159) #[] #[]]
 best:QJ w b7 191 #[.slice A m c]
 row:QW w A m c 241 3 (JQ KW ps)
 near: ∀p∈ps,Jg6 p
 below:Below w0.heap.size w0 w
 u3:w0.heap.size≤b3
 u4:w0.heap.size≤b4
 u6:w0.heap.size≤b6
 u7:w0.heap.size≤b7
 uA: ∀g,QZ A=some g→w0.heap.size≤g∧g≠b3∧g≠b4∧g≠b6∧g≠b7
 n73:b7≠b3
 n74:b7≠b4
 n76:b7≠b6
section
variable {w0 w w':World} {b3 b4 b6 b7 m c:Nat} {r:Int} {A:Option Addr} {ps:List XJ}
theorem Qx2.keep (h:Qx2 w0 w b3 b4 b6 b7 r A m c ps) (hb:Below w.heap.size w w'):Qx2 w0 w' b3 b4 b6 b7 r A m c ps:=
 ⟨QJ.keep h.around hb,QJ.keep h.quote hb,QJ.keep h.left hb,QJ.keep h.best hb,h.row.below hb,h.near,h.below.trans (hb.mono h.below.size),h.u3,h.u4,h.u6,h.u7,h.uA,h.n73,h.n74,h.n76⟩
theorem Qx2.kept (h:Qx2 w0 w b3 b4 b6 b7 r A m c ps) {F:XJ→Int} {m':Nat} (hk:QK (fun i=>i=b7∨QZ A=some i) w w') (hb:QJ w' b7 191 #[.slice A m' c]) (hr:QW w' A m' c 241 3 (JQ KW (Q4 F ps))):
  Qx2 w0 w' b3 b4 b6 b7 r A m' c (Q4 F ps):=
 ⟨QJ.keeps h.around hk (fun e=>e.elim (fun e=>h.n73 e.symm) (fun e=>(h.uA _ e).2.1 rfl)),QJ.keeps h.quote hk (fun e=>e.elim (fun e=>h.n74 e.symm) (fun e=>(h.uA _ e).2.2.1 rfl)),QJ.keeps h.left hk (fun e=>e.elim (fun e=>h.n76 e.symm) (fun e=>(h.uA _ e).2.2.2.1 rfl)),
  hb,hr,fun p hp=>h.near p (Xc8 hp),h.below.trans (hk.below (fun i e=>e.elim (fun e=>by rw[e];exact h.u7) (fun e=>(h.uA _ e).1)) h.below.size),h.u3,h.u4,h.u6,h.u7,h.uA,h.n73,h.n74,h.n76⟩
theorem Qx2.n7 (h:Qx2 w0 w b3 b4 b6 b7 r A m c ps):QZ A≠some b7:=fun e=>(h.uA _ e).2.2.2.2 rfl
theorem Qx2.step (h:Qx2 w0 w b3 b4 b6 b7 r A m c ps) (g:FuncId) (lb:Array Value) (F:XJ→Int) (eg: ∀args w,(callFunc g args).run Tryz.prog w= .ok (.enter g args) w) (hF:Jr5 w (fun i=>QZ A=some i) g lb F) (hm:m≤1000000):
  Calls Tryz.prog 161 #[.func (.func g) #[] lb,.pointer (some ⟨b7,0,none⟩)] w fun e w'=>e= .returned (.tuple #[])∧ ∃m',m'≤m∧(Q4 F ps).length=m'∧Qx2 w0 w' b3 b4 b6 b7 r A m' c (Q4 F ps):=by
 refine(Kt4 g lb F eg b7 A m c ps w hF h.best h.row h.n7 h.near hm).mono ?_
 rintro e w' ⟨rfl,hK,m',hb,hr⟩
 have e1:=V0 JX (by omega) hr
 have e2:=V0 JX (by omega) h.row
 exact⟨rfl,m',by rw[←e1,←e2];exact List.length_filter_le _ _,e1,h.kept hK hb hr⟩
end
theorem Qx2.q {w0 w:World} {b3 b4 b6 b7 m c:Nat} {r:Int} {A:Option Addr} {ps:List XJ} (h:Qx2 w0 w b3 b4 b6 b7 r A m c ps):
  w.cell? ⟨b4,0,none⟩=some (.int .i64 0)∧w.cell? ⟨b4,1,none⟩=some (.int .i64 0)∧w.cell? ⟨b4,2,none⟩=some (.int .i64 0)∧w.frozen? ⟨b4,0,none⟩=false∧w.frozen? ⟨b4,1,none⟩=false∧w.frozen? ⟨b4,2,none⟩=false:=
 ⟨by rw[QJ.cell h.quote];rfl,by rw[QJ.cell h.quote];rfl,by rw[QJ.cell h.quote];rfl,QJ.frozen h.quote 0,QJ.frozen h.quote 1,QJ.frozen h.quote 2⟩
theorem Qx2.y7 {w0 w:World} {b3 b4 b6 b7 m c:Nat} {r:Int} {A:Option Addr} {ps:List XJ} (h:Qx2 w0 w b3 b4 b6 b7 r A m c ps):w.cell? ⟨b7,0,none⟩=some (.slice A m c):=by rw[QJ.cell h.best];rfl
theorem Jk3 {w w':World} (hb:Below w.heap.size w w') {p:Addr} {v:Bool} (h:(w.cell? p).isSome=true) (hf:w.frozen? p=v):w'.frozen? p=v:=by
 obtain⟨u,hu⟩:=Option.isSome_iff_exists.1 h
 exact(hb.frozen (World.block_lt_of_cell? w p hu)).trans hf
def Jc3 (w:World) (a:Addr):Value:=(w.cell? a).getD undef
theorem Kt5 {w:World} {a:Addr} (h:(w.cell? a).isSome=true):w.cell? a=some (Jc3 w a):=by
 obtain⟨v,hv⟩:=Option.isSome_iff_exists.1 h
 unfold Jc3
 rw[hv];rfl
theorem Qe0 {w:World} {a:Addr} {v:Value} (h:w.cell? a=some v):w.cell? a=some (Jc3 w a):=Kt5 (by rw[h];rfl)
def QS (g B:Nat) (v1 v2 v3:Value) (w:World):Prop:=
 (w.cell? ⟨g,0,none⟩=some v1∧w.cell? ⟨g,1,none⟩=some v2∧w.cell? ⟨g,2,none⟩=some v3)∧(w.cell? ⟨B,0,none⟩=some (Jc3 w ⟨B,0,none⟩)∧w.cell? ⟨B,1,none⟩=some (Jc3 w ⟨B,1,none⟩)∧w.cell? ⟨B,2,none⟩=some (Jc3 w ⟨B,2,none⟩))∧
  w.frozen? ⟨B,0,none⟩=false∧w.frozen? ⟨B,1,none⟩=false∧w.frozen? ⟨B,2,none⟩=false
theorem Zj0 {w w':World} {g B:Nat} {v1 v2 v3:Value} (hb:Below w.heap.size w w') (h:QS g B v1 v2 v3 w):QS g B v1 v2 v3 w':=
 ⟨⟨Qf8 hb h.1.1,Qf8 hb h.1.2.1,Qf8 hb h.1.2.2⟩,⟨Qe0 (Qf8 hb h.2.1.1),Qe0 (Qf8 hb h.2.1.2.1),Qe0 (Qf8 hb h.2.1.2.2)⟩,Jk3 hb (by rw[h.2.1.1];rfl) h.2.2.1,Jk3 hb (by rw[h.2.1.2.1];rfl) h.2.2.2.1,Jk3 hb (by rw[h.2.1.2.2];rfl) h.2.2.2.2⟩
theorem Kt6 {w:World} {g B:Nat} {v1 v2 v3:Value} (hne:g≠B) (i:Nat) (x:Value) (h:QS g B v1 v2 v3 w):QS g B v1 v2 v3 (w.setCell ⟨B,i,none⟩ x):=by
 have far: ∀j,(w.setCell ⟨B,i,none⟩ x).cell? ⟨g,j,none⟩=w.cell? ⟨g,j,none⟩:=fun j=>World.cell?_of_block (Below.heap_setCell w ⟨B,i,none⟩ x g hne)
 have near: ∀j v,w.cell? ⟨B,j,none⟩=some v→(w.setCell ⟨B,i,none⟩ x).cell? ⟨B,j,none⟩=some (Jc3 (w.setCell ⟨B,i,none⟩ x) ⟨B,j,none⟩):=fun j v hv=>by
  obtain⟨v',hy⟩:=cell?_setCell_some (w:=w) (p:=⟨B,i,none⟩) (x:=x) (q:=⟨B,j,none⟩) (v:=v) hv;exact Qe0 hy
 refine⟨⟨(far 0).trans h.1.1,(far 1).trans h.1.2.1,(far 2).trans h.1.2.2⟩,⟨near 0 _ h.2.1.1,near 1 _ h.2.1.2.1,near 2 _ h.2.1.2.2⟩, ?_, ?_, ?_⟩
 ·simpa using h.2.2.1
 ·simpa using h.2.2.2.1
 ·simpa using h.2.2.2.2
def Qv4 (r:Int) (b2:List XJ):List XJ:=
 if b2.any (fun p=>decide ((p.2.1-p.2.2)*1≤0))=false then Q4 (fun p=>p.1) b2
 else if b2.any (fun p=>decide ((p.2.1-p.2.2)* -1≤0))=false then Q4 (fun p=> -p.1) b2
 else Q4 (fun p=> -p.1) (Q4 (fun p=> -max (p.1-r) (r-p.1)) b2)
def Jr9:List XJ→XJ
 | []=>(0,0,0)
 |p::_=>(p.1,KK p,p.2.1-p.2.2)
def J3 (ps:List XJ) (r:Int):XJ:=
 match Q4 KK ps with
 | []=>(0,0,0)
 |p::l=>if KK p<1 then(0,0,0)else Jr9 (Qv4 r (Q4 (fun p=> -Qd9 p) (p::l)))
theorem Je4 {w:World} {a:Act} {Q:Ending→World→Prop} {g:Nat} {cs:Array Value} (hp:a.tmps.getD 4 undef= .pointer (some ⟨g,0,none⟩)) (hd:a.defers= [])
  (hg:QJ w g 86 cs) (h2:cs.size=3) (h:Q (.returned (.agg cs)) w):bodyPost Tryz.prog Tryz.f122 Q .ret a w:=
 bodyPost_ret (results_cell_row Tryz.results122 a.tmps w g _ cs (0,0) _ hp hg Tryz.underlying86 rfl (by rw[h2];kernel_rfl)) hd h
theorem Xy6 (A:Option Addr) (n c:Nat) (r:Int) (hr: -1099511627776≤r∧r≤1099511627776) (ps:List XJ) (w:World) (h:ZV w KW 3 A n ps) (hN: ∀p∈ps,Jg6 p) (hm:n≤100000):
  Calls Tryz.prog 122 #[.slice A n c,.int .i64 r] w fun e w'=>e= .returned (Qq4 (J3 ps r))∧Below w.heap.size w w':=by
 have hA2:Below w.heap.size w (((w.alloc (.cells #[.int .i64 r] 3)).alloc (.cells #[.int .i64 0,.int .i64 0,.int .i64 0] 86)).alloc (.cells #[.func (.func 159) #[] #[]] 242)):=(((Below.refl _ w).alloc (Nat.le_refl _) _).alloc (by simp) _).alloc (by simp;omega) _
 have HH:=QQ (h.below hA2 (Nat.le_refl _))
 have HN:=QQ hN
 have HA2:=QQ hA2
 clear h hN hA2
 go_enter Tryz.func122,Tryz.ntmps122
 go_wp2_with fail
 refine(Xy4 A n c ps _ HH.out (by omega)).mono ?_
 rintro e w1 ⟨hB1,A',c',rfl,hup,hR⟩
 have hs1:=hB1.size
 simp at hs1
 have hC0:Qx2 w (w1.alloc (.cells #[.slice A' n c'] 191)) w.heap.size (w.heap.size+1) (w.heap.size+1+1) w1.heap.size r A' n c' ps:=by
  have e3:QJ (((w.alloc (.cells #[.int .i64 r] 3)).alloc (.cells #[.int .i64 0,.int .i64 0,.int .i64 0] 86)).alloc (.cells #[.func (.func 159) #[] #[]] 242)) w.heap.size 3 #[.int .i64 r]:=QJ.alloc (QJ.alloc (QJ.new w _ _) _) _;have e4:QJ (((w.alloc (.cells #[.int .i64 r] 3)).alloc (.cells #[.int .i64 0,.int .i64 0,.int .i64 0] 86)).alloc (.cells #[.func (.func 159) #[] #[]] 242)) (w.heap.size+1) 86 #[.int .i64 0,.int .i64 0,.int .i64 0]:=by
   have:=QJ.alloc (QJ.new (w.alloc (.cells #[.int .i64 r] 3)) 86 #[.int .i64 0,.int .i64 0,.int .i64 0]) (.cells #[.func (.func 159) #[] #[]] 242);simpa using this
  have e6:QJ (((w.alloc (.cells #[.int .i64 r] 3)).alloc (.cells #[.int .i64 0,.int .i64 0,.int .i64 0] 86)).alloc (.cells #[.func (.func 159) #[] #[]] 242)) (w.heap.size+1+1) 242 #[.func (.func 159) #[] #[]]:=by
   have:=QJ.new ((w.alloc (.cells #[.int .i64 r] 3)).alloc (.cells #[.int .i64 0,.int .i64 0,.int .i64 0] 86)) 242 #[.func (.func 159) #[] #[]];simpa using this
  refine⟨QJ.alloc (QJ.keep e3 hB1) _,QJ.alloc (QJ.keep e4 hB1) _,QJ.alloc (QJ.keep e6 hB1) _,QJ.new _ _ _,hR.below ((Below.refl _ _).alloc (Nat.le_refl _) _),HN.out,HA2.out.trans ((hB1.alloc hB1.size _).mono (by simp;omega)),Nat.le_refl _,by omega,by omega,by omega,fun g hg=> ?_,by omega,by omega,by omega⟩;have h1:=hup g hg;have h2:=hR.lt hg;simp at h1;omega
 have HC:=QQ hC0
 have hmf: ∀(fn:Fn) (first cap:Array Value) (w:World),(Instr.makeFunc fn first cap).run Tryz.prog w= .ok (.func fn first cap) w:=fun _ _ _ _=>rfl
 have HR:=QQ hR
 clear hC0 hR hB1
 go_wp2_with fail
 refine(HC.out.step _ _ _ (Go.Proofs.enters_of Tryz.func158 (by kernel_rfl) rfl) (Kj8 _ _) (by omega)).mono ?_
 rintro e w2 ⟨rfl,m2,hm2,hl2,hC2⟩
 have HC2:=QQ hC2
 have HL2:=QQ hl2
 have y7:w2.cell? ⟨w1.heap.size,0,none⟩=some (.slice A' m2 c'):=by rw[QJ.cell hC2.best];rfl
 clear hC2 hl2
 by_cases hz:m2=0
 ·subst hz
  obtain⟨d0,d1,d2,q0,q1,q2⟩:=HC2.out.q;go_wp2_with fail
  try simp only[Exit.inBlock,Exit.then]
  refine Je4 (g:=w.heap.size+1) (cs:= #[.int .i64 0,.int .i64 0,.int .i64 0]) (by with_unfolding_all rfl) (by with_unfolding_all rfl) (QJ.set_ (QJ.set_ (QJ.set_ HC2.out.quote 0 _) 1 _) 2 _) rfl ?_;have e0:Q4 KK ps= []:=List.eq_nil_of_length_eq_zero HL2.out;refine⟨by unfold J3;rw[e0];rfl,((HC2.out.below.setCell (by simp) _).setCell (by simp) _).setCell (by simp) _⟩
 ·have t0:=YW (show(m2:Int)≠0 by omega)
  obtain⟨p,l,hpl⟩: ∃p l,Q4 KK ps=p::l:=by
   cases hk:Q4 KK ps with
   |nil=>rw[hk]at HL2;exact absurd HL2.out.symm hz
   |cons p l=>exact⟨p,l,rfl⟩
  have hrow2:=HC2.out.row;rw[hpl]at hrow2;obtain⟨gr,rfl⟩: ∃gr,A'=some ⟨gr,0,none⟩:=by obtain⟨gr,hA,_⟩:=hrow2.elem JX (by omega) (i:=0) (by simp);exact⟨gr,hA⟩
  obtain⟨x0,x1,x2⟩:=Jg2 hrow2 (i:=0) (by simp);simp only[List.getElem_cons_zero,Nat.zero_mul,Nat.zero_add]at x0 x1 x2;have hT:=Je3 p w2;obtain⟨p0,p1,p2⟩:=p;unfold Qq4 at hT;dsimp only at x0 x1 x2 hT;have hm3:(0:Int)< (m2:Int):=by omega
  have HPL:=QQ hpl;obtain⟨t,HT⟩: ∃t,Hid (KK (p0,p1,p2)=t):=⟨_,QQ rfl⟩;rw[HT.out]at hT;clear hrow2 hpl;go_wp2_with fail
  refine hT.mono ?_;rintro e w3 ⟨rfl,hB3⟩;have HC3:=QQ (HC2.out.keep hB3);clear x0 x1 x2 hT y7
  by_cases hlt:t<1
  ·have dt:=J0 hlt
   obtain⟨d0,d1,d2,q0,q1,q2⟩:=HC3.out.q;have Hlt:=QQ hlt;clear hlt;go_wp2_with fail
   try simp only[Exit.inBlock,Exit.then]
   refine Je4 (g:=w.heap.size+1) (cs:= #[.int .i64 0,.int .i64 0,.int .i64 0]) (by with_unfolding_all rfl) (by with_unfolding_all rfl) (QJ.set_ (QJ.set_ (QJ.set_ HC3.out.quote 0 _) 1 _) 2 _) rfl ?_;refine⟨?_,((HC3.out.below.setCell (by simp) _).setCell (by simp) _).setCell (by simp) _⟩;have e1:J3 ps r=(0,0,0):=by unfold J3;rw[HPL.out];show(if KK (p0,p1,p2)<1 then _ else _)=_;rw[HT.out,if_pos Hlt.out]
   rw[e1];rfl
  ·have dt:=OY hlt
   have HE1:Hid (J3 ps r=Jr9 (Qv4 r (Q4 (fun p=> -Qd9 p) ((p0,p1,p2)::l)))):=QQ (by unfold J3;rw[HPL.out];show(if KK (p0,p1,p2)<1 then _ else _)=_;rw[HT.out,if_neg hlt]);clear hlt;go_wp2_with fail
   rw[HPL.out]at HC3;refine(HC3.out.step _ _ _ (Go.Proofs.enters_of Tryz.func164 (by kernel_rfl) rfl) (Zd1 _ _ _ HC3.out.left (fun e=>(HC3.out.uA _ e).2.2.2.1 rfl)) (by omega)).mono ?_;rintro e w4 ⟨rfl,m4,hm4,hl4,hC4⟩;have hne4:Q4 (fun p=> -Qd9 p) ((p0,p1,p2)::l)≠ []:=Qx1 _ (by simp);have HL4:=QQ hl4;generalize Q4 (fun p=> -Qd9 p) ((p0,p1,p2)::l)=ps4 at hne4 hC4 HL4 HE1;have HC4:=QQ hC4;have hm40:0<m4:=by have:=HL4.out;have:=List.length_pos_iff.2 hne4;omega
   have HNE:=QQ hne4;clear hC4 hl4 hne4;go_upto_block 0 with fail
   go_cut [38] (fun s38 wx=> ∃(m5:Nat) (ps5:List XJ),m5≤n∧0<m5∧ps5.length=m5∧Qx2 w wx w.heap.size (w.heap.size+1) (w.heap.size+1+1) w1.heap.size r (some ⟨gr,0,none⟩) m5 c' ps5∧Hid (Qv4 r ps4=ps5))
   case first=>
    have hS1:=Xo3 1 (.inl rfl) w1.heap.size _ m4 c' ps4 w4 HC4.out.best HC4.out.row HC4.out.near (by omega)
    cases hb1:ps4.any (fun p=>decide ((p.2.1-p.2.2)*1≤0))with
    |false=>
     rw[hb1]at hS1;simp only[Bool.not_false]at hS1;have HP3:Hid (Qv4 r ps4=Q4 (fun p=>p.1) ps4):=QQ (by unfold Qv4;rw[if_pos hb1]);clear hb1;go_wp2_with fail
     refine hS1.mono ?_;rintro e w5 ⟨rfl,hB5⟩;have HC5:=QQ (HC4.out.keep hB5);clear hS1;go_wp2_with fail
     refine(HC5.out.step _ _ _ (Go.Proofs.enters_of Tryz.func168 (by kernel_rfl) rfl) (Kt2 _ _) (by omega)).mono ?_;rintro e w6 ⟨rfl,m6,hm6,hl6,hC6⟩;have hne6:Q4 (fun p=>p.1) ps4≠ []:=Qx1 _ HNE.out;have hm60:0<m6:=by have:=List.length_pos_iff.2 hne6;omega
     have HC6:=QQ hC6;have HL6:=QQ hl6;clear hC6 hl6 hne6;go_wp2_with fail
     go_meet;exact⟨m6,_,by omega,hm60,HL6.out,HC6.out,HP3⟩
    |true=>
     rw[hb1]at hS1;simp only[Bool.not_true]at hS1;have HB1:=QQ hb1;clear hb1;go_wp2_with fail
     refine hS1.mono ?_;rintro e w5 ⟨rfl,hB5⟩;have HC5:=QQ (HC4.out.keep hB5);clear hS1;have hS2:=Xo3 (-1) (.inr rfl) w1.heap.size _ m4 c' ps4 w5 HC5.out.best HC5.out.row HC5.out.near (by omega)
     cases hb2:ps4.any (fun p=>decide ((p.2.1-p.2.2)* -1≤0))with
     |false=>
      rw[hb2]at hS2;simp only[Bool.not_false]at hS2;have HP3:Hid (Qv4 r ps4=Q4 (fun p=> -p.1) ps4):=QQ (by unfold Qv4;rw[if_neg (by rw[HB1.out];simp),if_pos hb2]);clear hb2;go_wp2_with fail
      refine hS2.mono ?_;rintro e w6 ⟨rfl,hB6⟩;have HC6:=QQ (HC5.out.keep hB6);clear hS2;go_wp2_with fail
      refine(HC6.out.step _ _ _ (Go.Proofs.enters_of Tryz.func169 (by kernel_rfl) rfl) (Kt3 _ _) (by omega)).mono ?_;rintro e w7 ⟨rfl,m7,hm7,hl7,hC7⟩;have hne7:Q4 (fun p=> -p.1) ps4≠ []:=Qx1 _ HNE.out;have hm70:0<m7:=by have:=List.length_pos_iff.2 hne7;omega
      have HC7:=QQ hC7;have HL7:=QQ hl7;clear hC7 hl7 hne7;go_wp2_with fail
      go_meet;exact⟨m7,_,by omega,hm70,HL7.out,HC7.out,HP3⟩
     |true=>
      rw[hb2]at hS2;simp only[Bool.not_true]at hS2;have HP3:Hid (Qv4 r ps4=Q4 (fun p=> -p.1) (Q4 (fun p=> -max (p.1-r) (r-p.1)) ps4)):=QQ (by unfold Qv4;rw[if_neg (by rw[HB1.out];simp),if_neg (by rw[hb2];simp)]);clear hb2;go_wp2_with fail
      refine hS2.mono ?_;rintro e w6 ⟨rfl,hB6⟩;have HC6:=QQ (HC5.out.keep hB6);clear hS2;go_wp2_with fail
      refine(HC6.out.step _ _ _ (Go.Proofs.enters_of Tryz.func170 (by kernel_rfl) rfl) (Zi8 _ _ _ r hr HC6.out.around (fun e=>(HC6.out.uA _ e).2.1 rfl)) (by omega)).mono ?_;rintro e w7 ⟨rfl,m7,hm7,hl7,hC7⟩;have hne7:Q4 (fun p=> -max (p.1-r) (r-p.1)) ps4≠ []:=Qx1 _ HNE.out;have HC7:=QQ hC7;have HN7:=QQ hne7;clear hC7 hl7 hne7;go_wp2_with fail
      refine(HC7.out.step _ _ _ (Go.Proofs.enters_of Tryz.func171 (by kernel_rfl) rfl) (Kj9 _ _) (by omega)).mono ?_;rintro e w8 ⟨rfl,m8,hm8,hl8,hC8⟩;have hne8:Q4 (fun p=> -p.1) (Q4 (fun p=> -max (p.1-r) (r-p.1)) ps4)≠ []:=Qx1 _ HN7.out;have hm80:0<m8:=by have:=List.length_pos_iff.2 hne8;omega
      have HC8:=QQ hC8;have HL8:=QQ hl8;clear hC8 hl8 hne8;go_wp2_with fail
      go_meet;exact⟨m8,_,by omega,hm80,HL8.out,HC8.out,HP3⟩
   case rest=>
    obtain⟨m5,ps5,hm5,hm50,hl5,hC5,HP5⟩:=hcut;obtain⟨q,l5,rfl⟩: ∃q l5,ps5=q::l5:=by
     cases ps5 with
     |nil=>simp at hl5;omega
     |cons q l5=>exact⟨q,l5,rfl⟩
    have hrow5:=hC5.row;obtain⟨x0,x1,x2⟩:=Jg2 hrow5 (i:=0) (by simp);simp only[List.getElem_cons_zero,Nat.zero_mul,Nat.zero_add]at x0 x1 x2;have y7:=hC5.y7;have hNq:=hC5.near q (by simp);have HQ:Hid (J3 ps r=(q.1,KK q,q.2.1-q.2.2)):=QQ (by rw[HE1.out,HP5.out];rfl);obtain⟨p3,p4,p5⟩:=q;dsimp only at x0 x1 x2;have hm51:(0:Int)< (m5:Int):=by omega
    have hA5:Below wc.heap.size wc (wc.alloc (.cells #[.int .i64 p3,.int .i64 p4,.int .i64 p5] 241)):=(Below.refl _ _).alloc (Nat.le_refl _) _;have HC5:=QQ (hC5.keep hA5);have HZ:=QQ (QJ.new wc 241 #[.int .i64 p3,.int .i64 p4,.int .i64 p5]);have hs5:=hC5.below.size;have hs6:=QJ.lt hC5.quote;have HC6:=QQ hC5;obtain⟨⟨b1,b2⟩,⟨b3,b4⟩,⟨b5,b6⟩⟩:=hNq;dsimp only at b1 b2 b3 b4 b5 b6;clear hrow5 hC5 hA5;have z0:(wc.alloc (.cells #[.int .i64 p3,.int .i64 p4,.int .i64 p5] 241)).drew.cell? ⟨wc.heap.size,0,none⟩=some (.int .i64 p3):=by rw[QJ.cell (QJ.drew HZ.out)];rfl
    have z1:(wc.alloc (.cells #[.int .i64 p3,.int .i64 p4,.int .i64 p5] 241)).drew.cell? ⟨wc.heap.size,1,none⟩=some (.int .i64 p4):=by rw[QJ.cell (QJ.drew HZ.out)];rfl
    have z2:(wc.alloc (.cells #[.int .i64 p3,.int .i64 p4,.int .i64 p5] 241)).drew.cell? ⟨wc.heap.size,2,none⟩=some (.int .i64 p5):=by rw[QJ.cell (QJ.drew HZ.out)];rfl
    have hq:=(HC5.out.keep ((Below.refl _ _).drew)).q;have hT:=Je3 (p3,p4,p5);unfold Qq4 at hT;dsimp only at hT;obtain⟨t5,HT5⟩: ∃t,Hid (KK (p3,p4,p5)=t):=⟨_,QQ rfl⟩;rw[HT5.out]at hT;have HTT:=QQ hT;have hw45:IntKind.i64.wrap (p4-p5)=p4-p5:=IntWalk.i64_in _ (by omega);clear hT;go_wp2_with fail
    clear x0 x1 x2 y7
    go_region_held3 (fun w'=>(w'.cell? ⟨wc.heap.size,0,none⟩=some (.int .i64 p3)∧w'.cell? ⟨wc.heap.size,1,none⟩=some (.int .i64 p4)∧w'.cell? ⟨wc.heap.size,2,none⟩=some (.int .i64 p5))∧
      (w'.cell? ⟨w.heap.size+1,0,none⟩=some (Jc3 w' ⟨w.heap.size+1,0,none⟩)∧w'.cell? ⟨w.heap.size+1,1,none⟩=some (Jc3 w' ⟨w.heap.size+1,1,none⟩)∧w'.cell? ⟨w.heap.size+1,2,none⟩=some (Jc3 w' ⟨w.heap.size+1,2,none⟩))∧w'.frozen? ⟨w.heap.size+1,0,none⟩=false∧w'.frozen? ⟨w.heap.size+1,1,none⟩=false∧w'.frozen? ⟨w.heap.size+1,2,none⟩=false)
     (first|exact⟨⟨z0,z1,z2⟩,⟨Qe0 hq.1,Qe0 hq.2.1,Qe0 hq.2.2.1⟩,hq.2.2.2⟩|assumption|exact Zj0 (g:=wc.heap.size) (B:=w.heap.size+1) hB9 (by assumption)|exact Kt6 (g:=wc.heap.size) (B:=w.heap.size+1) (by omega) 2 _ (Kt6 (by omega) 1 _ (Kt6 (by omega) 0 _ (by assumption))))
     ((go_at_call 158;refine(HTT.out _).mono ?_;rintro e w9 ⟨rfl,hB9⟩))
    go_wp2_with fail
    try simp only[Exit.inBlock,Exit.then]
    have HC9:=(HC5.out.keep ((Below.refl _ _).drew)).keep hB9;refine Je4 (g:=w.heap.size+1) (cs:= #[.int .i64 p3,.int .i64 t5,.int .i64 (p4-p5)]) (by with_unfolding_all rfl) (by with_unfolding_all rfl) (QJ.set_ (QJ.set_ (QJ.set_ HC9.quote 0 _) 1 _) 2 _) rfl ?_;refine⟨?_,((HC9.below.setCell (by simp) _).setCell (by simp) _).setCell (by simp) _⟩;rw[HQ.out,←HT5.out]
    rfl
end Go.Proofs.YtbmiieehkkfbgaaGreatDoor
