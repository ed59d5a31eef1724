/- Contracts and walks that the law's proof needs. -/
import Derived.WalkKit
import Derived.WalkLawsBesides
import Derived.WalkSpells
import Derived.Below
import Derived.Deep.Draws
import Derived.Deep.Slices
import Derived.Deep.Fields
import Derived.ChangeSame
import Derived.OpenShut
import Derived.Laws.Rows
import Derived.Laws.OwnMore
import Derived.Deep.AppendLies
import Derived.Lib.SliceRun
import Derived.Test.YtbmiieehkkfbgaaGreatDoorRows
import Derived.Maps.OwnSet
set_option linter.unusedVariables false
set_option maxRecDepth 100000
set_option maxHeartbeats 8000000
namespace Go.Proofs.YtbmiieehkkfbgaaGreatDoor
open Go.RowKit
theorem QQ {p:Prop} (h:p):Hid p:=h
theorem Q5 {a b:Bool} (h:a=b):Ending.returned (.bool a)=Ending.returned (.bool b):=by rw[h]
theorem O9 {k:IntKind} {a b:Int} (h:a=b):Ending.returned (.int k a)= .returned (.int k b):=by rw[h]
theorem Zc4 {a b c d:Int} {v:Value} (h:a=c) (k:b=d):Ending.returned (.tuple #[.int .i64 a,.int .i64 b,v])= .returned (.tuple #[.int .i64 c,.int .i64 d,v]):=by rw[h,k]
theorem YW {a b:Int} (h:a≠b):(a ==b)=false:=beq_eq_false_iff_ne.2 h
theorem Z2 {a b:Int} (h:a=b):(a ==b)=true:=beq_iff_eq.2 h
theorem Jk1 {a b:Int} (h:a=b):(a != b)=false:=by simp[h]
theorem Je0 {a b:Int} (h:a≠b):(a != b)=true:=by simp[h]
theorem OY {p:Prop} [Decidable p] (h: ¬p):decide p=false:=decide_eq_false h
theorem J0 {p:Prop} [Decidable p] (h:p):decide p=true:=decide_eq_true h
theorem QY {B:Nat} {w w1:World} (h:Below B w w1) (n:Nat):Below B w (w1.drewN n):=⟨h.os,h.tape,h.output,h.size,h.block⟩
def QJ (w:World) (g:Nat) (t:TypeId) (cs:Array Value):Prop:=w.heap[g]?=some (.cells cs t (0,0))
section
variable {w w':World} {g:Nat} {t:TypeId} {cs:Array Value}
theorem QJ.lt (h:QJ w g t cs):g<w.heap.size:=by
 rcases Nat.lt_or_ge g w.heap.size with hlt|hge
 ·exact hlt
 ·unfold QJ at h;rw[Array.getElem?_eq_none hge]at h;cases h
theorem QJ.cell (h:QJ w g t cs) (i:Nat):w.cell? ⟨g,i,none⟩=cs[i]?:=cell_of_row w g i cs t (0,0) h
theorem QJ.frozen (h:QJ w g t cs) (i:Nat):w.frozen? ⟨g,i,none⟩=false:=by
 unfold QJ at h
 simp[World.frozen?,h]
theorem QJ.new (w:World) (t:TypeId) (cs:Array Value):QJ (w.alloc (.cells cs t)) w.heap.size t cs:=heap_alloc_new w _
theorem QJ.drew (h:QJ w g t cs):QJ w.drew g t cs:=h
theorem QJ.drewN (h:QJ w g t cs) (n:Nat):QJ (w.drewN n) g t cs:=h
theorem QJ.alloc (h:QJ w g t cs) (o:Obj):QJ (w.alloc o) g t cs:=(Below.heap_alloc w o g h.lt).trans h
theorem QJ.set_ (h:QJ w g t cs) (i:Nat) (u:Value):QJ (w.setCell ⟨g,i,none⟩ u) g t (cs.setIfInBounds i u):=by
 unfold QJ at h⊢
 simp[World.setCell,Array.getElem?_modify,h]
theorem QJ.far (h:QJ w g t cs) {p:Addr} (hp:g≠p.block) (u:Value):QJ (w.setCell p u) g t cs:=(Below.heap_setCell w p u g hp).trans h
theorem QJ.below {B:Nat} (h:QJ w g t cs) (hb:Below B w w') (hg:g<B):QJ w' g t cs:=(hb.block g hg).trans h
theorem QJ.keep (h:QJ w g t cs) (hb:Below w.heap.size w w'):QJ w' g t cs:=h.below hb h.lt
theorem QJ.grown {row:Option Nat} (h:QJ w g t cs) (hb:w.grownBy w' row) (hg:some g≠row):QJ w' g t cs:=(hb.block g h.lt hg).trans h
theorem QJ.of_block (h:QJ w g t cs) (hb:w'.heap[g]?=w.heap[g]?):QJ w' g t cs:=hb.trans h
end
structure QK (S:Nat→Prop) (w w':World):Prop where
 os:w'.os=w.os
 tape:w'.tape=w.tape
 output:w'.output=w.output
 size:w.heap.size≤w'.heap.size
 block: ∀k,k<w.heap.size→ ¬S k→w'.heap[k]?=w.heap[k]?
section
variable {S S':Nat→Prop} {w w' w1 w2:World}
theorem QK.refl (S:Nat→Prop) (w:World):QK S w w:=⟨rfl,rfl,rfl,Nat.le_refl _,fun _ _ _=>rfl⟩
theorem QK.trans (h:QK S w w1) (k:QK S' w1 w2) (hS: ∀i,S' i→S i∨w.heap.size≤i):QK S w w2:=
 ⟨k.os.trans h.os,k.tape.trans h.tape,k.output.trans h.output,Nat.le_trans h.size k.size,fun i hi hn=>
  (k.block i (Nat.lt_of_lt_of_le hi h.size) (fun h'=>(hS i h').elim hn (fun h''=>absurd hi (by omega)))).trans (h.block i hi hn)⟩
theorem QK.mono (h:QK S w w1) (hS: ∀i,S i→S' i):QK S' w w1:=⟨h.os,h.tape,h.output,h.size,fun i hi hn=>h.block i hi (fun h'=>hn (hS i h'))⟩
theorem QK.of_below (h:Below w.heap.size w w1) (S:Nat→Prop):QK S w w1:=⟨h.os,h.tape,h.output,h.size,fun i hi _=>h.block i hi⟩
theorem QK.then_ (h:QK S w w1) (k:Below w1.heap.size w1 w2):QK S w w2:=h.trans (QK.of_below k (fun _=>False)) (fun _ h=>h.elim)
theorem QK.after (h:Below w.heap.size w w1) (k:QK S w1 w2):QK S w w2:=(QK.of_below h S).trans k (fun _ h=> .inl h)
theorem QK.set_ (w:World) (p:Addr) (v:Value):QK (fun i=>i=p.block) w (w.setCell p v):=⟨rfl,rfl,rfl,by simp[World.setCell],fun i _ hn=>Below.heap_setCell w p v i hn⟩
theorem QK.below {B:Nat} (h:QK S w w1) (hS: ∀i,S i→B≤i) (hB:B≤w.heap.size):Below B w w1:=⟨h.os,h.tape,h.output,h.size,fun i hi=>h.block i (by omega) (fun h'=>by have:=hS i h';omega)⟩
theorem QK.cell (h:QK S w w1) {p:Addr} (hp:p.block<w.heap.size) (hn: ¬S p.block):w1.cell? p=w.cell? p:=World.cell?_of_block (h.block _ hp hn)
theorem QK.frozen (h:QK S w w1) {p:Addr} (hp:p.block<w.heap.size) (hn: ¬S p.block):w1.frozen? p=w.frozen? p:=World.frozen?_of_block (h.block _ hp hn)
theorem QJ.keeps {g:Nat} {t:TypeId} {cs:Array Value} (h:QJ w g t cs) (hk:QK S w w1) (hn: ¬S g):QJ w1 g t cs:=(hk.block g h.lt hn).trans h
end
def QW (w:World) (A:Option Addr) (n c:Nat) (t:TypeId) (sz:Nat) (xs:List Value):Prop:=w.ownsRow 0 t sz (.slice A n c) n xs
def QZ (A:Option Addr):Option Nat:=A.map (·.block)
theorem JW (A:Option Addr) (n c:Nat):(Value.slice A n c).ownBlock=QZ A:=by cases A<;>rfl
theorem Xc4 {w:World} {base:Nat} {e:TypeId} {size:Nat} {v:Value} {n:Nat} {xs:List Value} (h:w.ownsRow base e size v n xs):w.ownsRow 0 e size v n xs:=by
 refine⟨h.1, ?_⟩
 rcases h.2 with h1|⟨g,cap,cur,h1,h2,h3⟩
 ·exact .inl h1
 ·exact .inr ⟨g,cap,cur,h1,Nat.zero_le _,h3⟩
theorem QW.cell {w:World} {A:Option Addr} {n c sz:Nat} {t:TypeId} {xs:List Value} (h:QW w A n c t sz xs) {j:Nat} {u:Value} (hu:xs[j]?=some u):
  ∃g,A=some ⟨g,0,none⟩∧w.cell? ⟨g,j,none⟩=some u:=by
 rcases h.2 with⟨_,h0⟩|⟨g,cap,cur,hv,_⟩
 ·have hl:=h.1
  rw[h0]at hl;rw[List.getElem?_eq_none (by omega)]at hu
  cases hu
 ·cases hv
  refine⟨g,rfl, ?_⟩;have:=World.ownsRow.cells h (g:=g) rfl j u hu;have hadd:(⟨g,0,none⟩:Addr).add j=⟨g,j,none⟩:=by unfold Addr.add;split<;>simp_all
  rw[hadd]at this;exact this
section
variable {w w':World} {A:Option Addr} {n c sz:Nat} {t:TypeId} {xs:List Value}
theorem QW.lt (h:QW w A n c t sz xs) {g:Nat} (hg:QZ A=some g):g<w.heap.size:=(World.ownsRow.lt h g (by rw[JW];exact hg)).2
theorem QW.of_block (h:QW w A n c t sz xs) (hb: ∀g,QZ A=some g→w'.heap[g]?=w.heap[g]?):QW w' A n c t sz xs:=by
 refine⟨h.1, ?_⟩
 rcases h.2 with h1|⟨g,cap,cur,hv,h1,h2,h3⟩
 ·exact .inl h1
 ·cases hv
  exact .inr ⟨g,c,cur,rfl,h1,(hb g rfl).trans h2,h3⟩
theorem QW.keeps {S:Nat→Prop} (h:QW w A n c t sz xs) (hk:QK S w w') (hn: ∀g,QZ A=some g→ ¬S g):QW w' A n c t sz xs:=
 h.of_block fun g hg=>hk.block g (h.lt hg) (hn g hg)
theorem QW.below (h:QW w A n c t sz xs) (hb:Below w.heap.size w w'):QW w' A n c t sz xs:=h.of_block fun g hg=>hb.block g (h.lt hg)
theorem QW.set {g:Nat} (h:QW w (some ⟨g,0,none⟩) n c t sz xs) (j:Nat) (u:Value):QW (w.setCell ⟨g,j,none⟩ u) (some ⟨g,0,none⟩) n c t sz (xs.set j u):=(World.ownsRow.stored h j u).1
theorem QW.frozen {g:Nat} (h:QW w (some ⟨g,0,none⟩) n c t sz xs) (j:Nat):w.frozen? ⟨g,j,none⟩=false:=World.ownsRow.frozenAt h j
theorem QW.pop {g:Nat} (h:QW w (some ⟨g,0,none⟩) n c t sz xs) (m:Nat) (hm:m≤n):QW w (some ⟨g,0,none⟩) m c t sz (xs.take (m*sz)):=by
 have hl:=h.1
 have hle:m*sz≤n*sz:=Nat.mul_le_mul_right _ hm
 refine⟨by simp;omega, ?_⟩
 rcases h.2 with⟨h1,_⟩|⟨g',cap,cur,hv,h1,h2,h3,h4,h5,h6⟩
 ·cases h1
 ·cases hv
  exact .inr ⟨g,c,cur,rfl,h1,h2,by omega,h4,h5,by rw[←h6,List.take_take,Nat.min_eq_left hle]⟩
end
section
variable {α:Type}
def JQ (enc:α→List Value) (xs:List α):List Value:=xs.flatMap enc
theorem Ql5 (enc:α→List Value) (x:α) (xs:List α):JQ enc (x::xs)=enc x++JQ enc xs:=rfl
theorem Qe6 (enc:α→List Value) (xs ys:List α):JQ enc (xs++ys)=JQ enc xs++JQ enc ys:=by simp[JQ]
theorem Y7 (enc:α→List Value) (xs:List α) (y:α):JQ enc (xs++ [y])=JQ enc xs++enc y:=by simp[JQ]
theorem YY {enc:α→List Value} {k:Nat} (hk: ∀x,(enc x).length=k) (xs:List α):(JQ enc xs).length=xs.length*k:=by
 induction xs with
 |nil=>simp[JQ]
 |cons x xs ih=>rw[Ql5,List.length_append,ih,hk,List.length_cons,Nat.succ_mul];omega
theorem Qc7 {enc:α→List Value} {k:Nat} (hk: ∀x,(enc x).length=k) (xs:List α): ∀(i:Nat) (hi:i<xs.length) (j:Nat),j<k→(JQ enc xs)[i*k+j]?=(enc xs[i])[j]?:=by
 induction xs with
 |nil=>intro i hi;simp at hi
 |cons x xs ih=>
  intro i hi j hj;rw[Ql5]
  cases i with
  |zero=>rw[Nat.zero_mul,Nat.zero_add,List.getElem?_append_left (by rw[hk];exact hj)];rfl
  |succ i=>
   rw[List.getElem?_append_right (by rw[hk,Nat.succ_mul];omega),hk,show(i+1)*k+j-k=i*k+j by rw[Nat.succ_mul];omega];exact ih i (by simpa using hi) j hj
theorem Qh9 {enc:α→List Value} (h1: ∀x,∀u∈enc x,u.oneCell'=true) (xs:List α): ∀u∈JQ enc xs,u.oneCell'=true:=by
 intro u hu
 obtain⟨x,_,h⟩:=List.mem_flatMap.1 hu
 exact h1 x u h
def X7:List Value→Nat→List Value→List Value
 |l,_,[]=>l
 |l,p,v::vs=>X7 (l.set p v) (p+1) vs
theorem Qw4 (vs:List Value): ∀(l:List Value) (pre:List Value) (q:Nat),X7 (pre++l) (pre.length+q) vs=pre++X7 l q vs:=by
 induction vs with
 |nil=>intro l pre q;rfl
 |cons v vs ih=>
  intro l pre q;have e:(pre++l).set (pre.length+q) v=pre++l.set q v:=by rw[List.set_append,if_neg (by omega),show pre.length+q-pre.length=q by omega]
  rw[X7,X7,e,Nat.add_assoc,ih]
theorem Xa8 (vs:List Value): ∀(l rest:List Value),l.length=vs.length→X7 (l++rest) 0 vs=vs++rest:=by
 induction vs with
 |nil=>intro l rest h;simp at h;subst h;rfl
 |cons v vs ih=>
  intro l rest h
  cases l with
  |nil=>simp at h
  |cons a l=>
   have h':l.length=vs.length:=by simpa using h
   rw[X7];show X7 ([v]++(l++rest)) ([v].length+0) vs=_;rw[Qw4,ih l rest h'];rfl
theorem Qq3 {enc:α→List Value} {k:Nat} (hk: ∀x,(enc x).length=k) (y:α) (xs:List α): ∀i,i<xs.length→X7 (JQ enc xs) (i*k) (enc y)=JQ enc (xs.set i y):=by
 induction xs with
 |nil=>intro i hi;simp at hi
 |cons x xs ih=>
  intro i hi;rw[Ql5]
  cases i with
  |zero=>rw[Nat.zero_mul,Xa8 _ _ _ (by rw[hk,hk])];rfl
  |succ i=>
   have e:(i+1)*k=(enc x).length+i*k:=by rw[hk,Nat.succ_mul];omega
   rw[e,Qw4,ih i (by simpa using hi)];rfl
theorem Ja4 {enc:α→List Value} {k:Nat} (hk: ∀x,(enc x).length=k) (xs:List α): ∀m,(JQ enc xs).take (m*k)=JQ enc (xs.take m):=by
 induction xs with
 |nil=>intro m;simp[JQ]
 |cons x xs ih=>
  intro m
  cases m with
  |zero=>simp[JQ]
  |succ m=>rw[Ql5,List.take_succ_cons,Ql5,List.take_append,hk,List.take_of_length_le (by rw[hk,Nat.succ_mul];omega),show(m+1)*k-k=m*k by rw[Nat.succ_mul];omega,ih]
def ZV (w:World) (enc:α→List Value) (k:Nat) (A:Option Addr) (len:Nat) (xs:List α):Prop:=
 xs.length=len∧(0<len→ ∃b off,A=some ⟨b,off,none⟩∧b<w.heap.size∧ ∀i (hi:i<xs.length) j u,(enc xs[i])[j]?=some u→w.cell? ⟨b,off+i*k+j,none⟩=some u)
variable {w w':World} {enc:α→List Value} {k:Nat} {A:Option Addr} {len:Nat} {xs:List α}
theorem ZV.below {B:Nat} (h:ZV w enc k A len xs) (hb:Below B w w') (hB:w.heap.size≤B):ZV w' enc k A len xs:=by
 refine⟨h.1,fun hl=> ?_⟩
 obtain⟨b,off,hA,hlt,hc⟩:=h.2 hl
 have hs:=hb.size
 exact⟨b,off,hA,by omega,fun i hi j u hu=>(hb.cell (p:=⟨b,_,none⟩) (by show b<B;omega)).trans (hc i hi j u hu)⟩
theorem ZV.keeps {S:Nat→Prop} (h:ZV w enc k A len xs) (hk:QK S w w') (hn: ∀g,QZ A=some g→ ¬S g):ZV w' enc k A len xs:=by
 refine⟨h.1,fun hl=> ?_⟩
 obtain⟨b,off,rfl,hlt,hc⟩:=h.2 hl
 have hs:=hk.size
 exact⟨b,off,rfl,by omega,fun i hi j u hu=>(hk.cell (p:=⟨b,_,none⟩) hlt (hn b rfl)).trans (hc i hi j u hu)⟩
theorem ZV.at_ {b off:Nat} (h:ZV w enc k (some ⟨b,off,none⟩) len xs) {i:Nat} (hi:i<xs.length) {j:Nat} {u:Value} (hu:(enc xs[i])[j]?=some u):w.cell? ⟨b,off+i*k+j,none⟩=some u:=by
 have hl:0<len:=by have:=h.1;omega
 obtain⟨b',off',hA,_,hc⟩:=h.2 hl
 cases hA
 exact hc i hi j u hu
theorem U3 (b o j:Nat):(⟨b,o,none⟩:Addr).add j=⟨b,o+j,none⟩:=by
 unfold Addr.add
 split
 ·rename_i h;subst h;rfl
 ·rfl
theorem ZV.news {b off:Nat} (hk: ∀x,(enc x).length=k) (h:ZV w enc k (some ⟨b,off,none⟩) len xs): ∀j u,(JQ enc xs)[j]?=some u→w.cell? ((⟨b,off,none⟩:Addr).add j)=some u:=by
 intro j u hu
 have hj:j<xs.length*k:=by
  rw[←YY hk];rcases Nat.lt_or_ge j (JQ enc xs).length with h|h
  ·exact h
  ·rw[List.getElem?_eq_none h]at hu;cases hu
 have hk0:0<k:=by
  rcases Nat.eq_zero_or_pos k with h|h
  ·subst h;omega
  ·exact h
 have hi:j/k<xs.length:=(Nat.div_lt_iff_lt_mul hk0).2 hj
 have hm:j % k<k:=Nat.mod_lt _ hk0
 have e:j/k*k+j % k=j:=by have:=Nat.div_add_mod j k;rw[Nat.mul_comm]at this;omega
 rw[U3,←e,←Nat.add_assoc]
 exact h.at_ hi (by rw[←Qc7 hk xs _ hi _ hm,e];exact hu)
theorem ZV.of_row {n c:Nat} {t:TypeId} (hk: ∀x,(enc x).length=k) (hk0:0<k) (h:QW w A n c t k (JQ enc xs)):ZV w enc k A n xs:=by
 have hl:xs.length=n:=by
  have:=h.1;rw[YY hk]at this;exact Nat.eq_of_mul_eq_mul_right hk0 this
 refine⟨hl,fun hn=> ?_⟩
 rcases h.2 with⟨_,h0⟩|⟨g,cap,cur,hv,_⟩
 ·omega
 ·cases hv
  refine⟨g,0,rfl,h.lt rfl,fun i hi j u hu=> ?_⟩;have hj:j<k:=by
   rcases Nat.lt_or_ge j k with h|h
   ·exact h
   ·rw[List.getElem?_eq_none (by rw[hk];exact h)]at hu;cases hu
  obtain⟨g',hg,hc⟩:=h.cell ((Qc7 hk xs i hi j hj).trans hu)
  cases hg;rw[Nat.zero_add];exact hc
theorem QW.elem {n c:Nat} {t:TypeId} (hk: ∀x,(enc x).length=k) (hk0:0<k) (h:QW w A n c t k (JQ enc xs)) {i:Nat} (hi:i<xs.length): ∃g,A=some ⟨g,0,none⟩∧ ∀j u,(enc xs[i])[j]?=some u→w.cell? ⟨g,i*k+j,none⟩=some u:=by
 rcases h.2 with⟨_,h0⟩|⟨g,cap,cur,hv,_⟩
 ·have:=h.1
  rw[YY hk,h0]at this;have h2:xs.length*k=0:=by omega
  rcases Nat.mul_eq_zero.1 h2 with h3|h3
  ·omega
  ·omega
 ·cases hv
  refine⟨g,rfl,fun j u hu=> ?_⟩;have hj:j<k:=by
   rcases Nat.lt_or_ge j k with h|h
   ·exact h
   ·rw[List.getElem?_eq_none (by rw[hk];exact h)]at hu;cases hu
  obtain⟨g',hg,hc⟩:=h.cell ((Qc7 hk xs i hi j hj).trans hu)
  cases hg;exact hc
end
structure QX where
 id:Int
 side:Int
 kind:Int
 price:Int
 qty:Int
def I6 (o:QX):List Value:= [.int .i64 o.id,.int .i64 o.side,.int .i64 o.kind,.int .i64 o.price,.int .i64 o.qty]
def KJ (o:QX):Value:= .agg #[.int .i64 o.id,.int .i64 o.side,.int .i64 o.kind,.int .i64 o.price,.int .i64 o.qty]
def KV (o:QX):Array Value:= #[.int .i64 o.id,.int .i64 o.side,.int .i64 o.kind,.int .i64 o.price,.int .i64 o.qty]
theorem O6 (o:QX):(I6 o).length=5:=rfl
theorem Js5 (o:QX): ∀u∈I6 o,u.oneCell'=true:=by
 intro u hu
 simp[I6]at hu
 rcases hu with rfl|rfl|rfl|rfl|rfl<;>rfl
section
variable {w:World} {A:Option Addr} {len:Nat} {ps:List QX}
theorem Zi3 {b off:Nat} (h:ZV w I6 5 (some ⟨b,off,none⟩) len ps) {i:Nat} (hi:i<ps.length):
  w.cell? ⟨b,off+i*5,none⟩=some (.int .i64 ps[i].id)∧w.cell? ⟨b,off+i*5+1,none⟩=some (.int .i64 ps[i].side)∧w.cell? ⟨b,off+i*5+2,none⟩=some (.int .i64 ps[i].kind)∧
   w.cell? ⟨b,off+i*5+3,none⟩=some (.int .i64 ps[i].price)∧w.cell? ⟨b,off+i*5+4,none⟩=some (.int .i64 ps[i].qty):=
 ⟨h.at_ hi (j:=0) rfl,h.at_ hi (j:=1) rfl,h.at_ hi (j:=2) rfl,h.at_ hi (j:=3) rfl,h.at_ hi (j:=4) rfl⟩
theorem Qs7 {g n c:Nat} {t:TypeId} (h:QW w (some ⟨g,0,none⟩) n c t 5 (JQ I6 ps)) {i:Nat} (hi:i<ps.length):
  w.cell? ⟨g,i*5,none⟩=some (.int .i64 ps[i].id)∧w.cell? ⟨g,i*5+1,none⟩=some (.int .i64 ps[i].side)∧w.cell? ⟨g,i*5+2,none⟩=some (.int .i64 ps[i].kind)∧
   w.cell? ⟨g,i*5+3,none⟩=some (.int .i64 ps[i].price)∧w.cell? ⟨g,i*5+4,none⟩=some (.int .i64 ps[i].qty):=by
 obtain⟨g',hg,hc⟩:=h.elem O6 (by omega) hi
 cases hg
 exact⟨hc 0 _ rfl,hc 1 _ rfl,hc 2 _ rfl,hc 3 _ rfl,hc 4 _ rfl⟩
theorem JV {g:Nat} {t:TypeId} {o:QX} (h:QJ w g t (KV o)):
  w.cell? ⟨g,0,none⟩=some (.int .i64 o.id)∧w.cell? ⟨g,1,none⟩=some (.int .i64 o.side)∧w.cell? ⟨g,2,none⟩=some (.int .i64 o.kind)∧w.cell? ⟨g,3,none⟩=some (.int .i64 o.price)∧w.cell? ⟨g,4,none⟩=some (.int .i64 o.qty):=
 ⟨by rw[QJ.cell h];rfl,by rw[QJ.cell h];rfl,by rw[QJ.cell h];rfl,by rw[QJ.cell h];rfl,by rw[QJ.cell h];rfl⟩
def KZ (x:Int):Prop:= -9223372036854775808≤x∧x≤9223372036854775807
def Qf4 (o:QX):Prop:=KZ o.id∧KZ o.side∧KZ o.kind∧KZ o.price∧KZ o.qty
end
theorem Qc8 {P:Program} (w:World) (t e ty:TypeId) (z:Value) (k:Nat) (ht:P.underlying t=some (.slice e)) (hv: ∀w,(zeroValue e).run P w= .ok z w) (hk:z.cells.size=k) (hk0:0<k) (h1: ∀v∈z.cells,v.oneCell'=true) (b o n c:Nat) (hn:0<n)
  (hc: ∀j,j<n*k→(w.cell? ⟨b,o+j,none⟩).isSome=true) (hf: ∀j,j<n*k→w.frozen? ⟨b,o+j,none⟩=false):
  ∃vs:List Value,vs.length=n*k∧(Builtin.clear_ #[t] ty #[.slice (some ⟨b,o,none⟩) n c]).run P w= .ok (.tuple #[]) (w.setCells b o vs):=by
 refine⟨(Builtin.zeroCells z.cells n).toList,by simp[Builtin.zeroCells,hk], ?_⟩
 have hone: ∀v∈(Builtin.zeroCells z.cells n).toList,v.oneCell'=true:=by
  intro v hv';simp[Builtin.zeroCells]at hv';obtain⟨i,_,rfl⟩:=hv';have hlt:i % z.cells.size<z.cells.size:=Nat.mod_lt _ (by omega);rw[getElem!_pos z.cells _ hlt];exact h1 _ (Array.getElem_mem hlt)
 have hst:=run_storeCells_cells (P:=P) b o (Builtin.zeroCells z.cells n).toList 0 w (by simpa [Builtin.zeroCells,hk]using hc) (by simpa [Builtin.zeroCells,hk]using hf) hone
 simp only[Nat.add_zero]at hst
 obtain⟨m,rfl⟩: ∃m,n=m+1:=⟨n-1,by omega⟩
 simp[Builtin.clear_,run_underlying ht,hv,hst]
section
variable {w w':World} {n c sz g:Nat} {t:TypeId} {xs:List Value}
theorem QW.set_past (h:QW w (some ⟨g,0,none⟩) n c t sz xs) (j:Nat) (u:Value) (hj:n*sz≤j):QW (w.setCell ⟨g,j,none⟩ u) (some ⟨g,0,none⟩) n c t sz xs:=by
 have h1:=h.set j u
 rwa [List.set_eq_of_length_le (by rw[h.1];exact hj)]at h1
theorem QW.sets_past (vs:List Value): ∀(w:World) (j:Nat),QW w (some ⟨g,0,none⟩) n c t sz xs→n*sz≤j→QW (w.setCells g j vs) (some ⟨g,0,none⟩) n c t sz xs:=by
 induction vs with
 |nil=>intro w j h _;exact h
 |cons v vs ih=>intro w j h hj;exact ih _ (j+1) (h.set_past j v hj) (by omega)
theorem QW.cap (h:QW w (some ⟨g,0,none⟩) n c t sz xs):n≤c∧c≤9223372036854775807:=by
 rcases h.2 with⟨h1,_⟩|⟨g',cap,cur,hv,h1,h2,h3,h4,_⟩
 ·cases h1
 ·cases hv
  unfold maxLen at h4;exact⟨h3,h4⟩
theorem QK.setCells (vs:List Value) (b:Nat): ∀(w:World) (j:Nat),QK (fun i=>i=b) w (w.setCells b j vs):=by
 induction vs with
 |nil=>intro w j;exact QK.refl _ _
 |cons v vs ih=>intro w j;exact(QK.set_ w ⟨b,j,none⟩ v).trans (ih _ (j+1)) (fun i h=> .inl h)
theorem QW.some_ (h:QW w (some ⟨g,0,none⟩) n c t sz xs) {j:Nat} (hj:j<n*sz):(w.cell? ⟨g,j,none⟩).isSome=true:=by
 have hl:j<xs.length:=by rw[h.1];exact hj
 obtain⟨g',hg,hc⟩:=h.cell (List.getElem?_eq_getElem hl)
 cases hg
 rw[hc];rfl
end
abbrev XJ:=Int×Int×Int
def KW (p:XJ):List Value:= [.int .i64 p.1,.int .i64 p.2.1,.int .i64 p.2.2]
def Qq4 (p:XJ):Value:= .agg #[.int .i64 p.1,.int .i64 p.2.1,.int .i64 p.2.2]
theorem JX (p:XJ):(KW p).length=3:=rfl
theorem Qc9 (p:XJ): ∀u∈KW p,u.oneCell'=true:=by
 intro u hu
 simp[KW]at hu
 rcases hu with rfl|rfl|rfl<;>rfl
section
variable {w:World} {A:Option Addr} {len:Nat} {ps:List XJ}
theorem Zi4 {b off:Nat} (h:ZV w KW 3 (some ⟨b,off,none⟩) len ps) {i:Nat} (hi:i<ps.length):
  w.cell? ⟨b,off+i*3,none⟩=some (.int .i64 ps[i].1)∧w.cell? ⟨b,off+i*3+1,none⟩=some (.int .i64 ps[i].2.1)∧w.cell? ⟨b,off+i*3+2,none⟩=some (.int .i64 ps[i].2.2):=
 ⟨h.at_ hi (j:=0) rfl,h.at_ hi (j:=1) rfl,h.at_ hi (j:=2) rfl⟩
theorem Jg2 {g n c:Nat} {t:TypeId} (h:QW w (some ⟨g,0,none⟩) n c t 3 (JQ KW ps)) {i:Nat} (hi:i<ps.length):
  w.cell? ⟨g,i*3,none⟩=some (.int .i64 ps[i].1)∧w.cell? ⟨g,i*3+1,none⟩=some (.int .i64 ps[i].2.1)∧w.cell? ⟨g,i*3+2,none⟩=some (.int .i64 ps[i].2.2):=by
 obtain⟨g',hg,hc⟩:=h.elem JX (by omega) hi
 cases hg
 exact⟨hc 0 _ rfl,hc 1 _ rfl,hc 2 _ rfl⟩
theorem V0 {α:Type} {enc:α→List Value} {k:Nat} (hk: ∀x,(enc x).length=k) (hk0:0<k) {n c:Nat} {t:TypeId} {xs:List α} (h:QW w A n c t k (JQ enc xs)):xs.length=n:=by
 have:=h.1
 rw[YY hk]at this
 exact Nat.eq_of_mul_eq_mul_right hk0 this
end
def VZ (e:Int):Value:=if e=0 then .nilIface else .iface 45 (.int .i64 e)
theorem K0:VZ 0= .nilIface:=rfl
theorem Qq5:VZ 2= .iface 45 (.int .i64 2):=rfl
end Go.Proofs.YtbmiieehkkfbgaaGreatDoor
namespace Go.Proofs.YtbmiieehkkfbgaaGreatDoor
open Go.ChangeMaps Go.RowKit
structure Qf5 (w w':World) (r:Nat):Prop where
 os:w'.os=w.os
 tape:w'.tape=w.tape
 output:w'.output=w.output
 size:w'.heap.size=w.heap.size
 block: ∀k,k≠r→w'.heap[k]?=w.heap[k]?
theorem Qf5.grown {w w':World} {r:Nat} (h:Qf5 w w' r):w.grownBy w' (some r):=
 ⟨h.os,h.tape,h.output,Nat.le_of_eq h.size.symm,fun k _ hk=>h.block k (fun e=>hk (by rw[e]))⟩
theorem Qf5.below {w w':World} {r B:Nat} (h:Qf5 w w' r) (hB:B≤r):Below B w w':=
 ⟨h.os,h.tape,h.output,Nat.le_of_eq h.size.symm,fun k hk=>h.block k (by omega)⟩
theorem Qf5.cell {w w':World} {r:Nat} (h:Qf5 w w' r) {p:Addr} (hp:p.block≠r):w'.cell? p=w.cell? p:=World.cell?_of_block (h.block _ hp)
theorem U0 (w:World) (r:Nat) (o:Obj):Qf5 w (setBlock w r o) r:=
 ⟨rfl,rfl,rfl,by simp[setBlock],fun k hk=>by simp only[setBlock];rw[Array.getElem?_setIfInBounds_ne (by omega)]⟩
def Kg1 (kd:TypeDesc):Prop:=(∃q,kd= .int q)∨kd= .string∨kd= .bool
theorem U1 {q:IntKind}:Kg1 (.int q):= .inl ⟨q,rfl⟩
theorem VK:Kg1 .string:= .inr (.inl rfl)
def J2 (w:World) (r:Nat) (es:List MapEntry) (c:Nat):Prop:=w.heap[r]?=some (.map es.toArray c)
section
variable {w w':World} {r c:Nat} {es:List MapEntry}
theorem J2.lt (h:J2 w r es c):r<w.heap.size:=(Array.getElem?_eq_some_iff.1 h).1
theorem J2.of_block (h:J2 w r es c) (hb:w'.heap[r]?=w.heap[r]?):J2 w' r es c:=hb.trans h
theorem J2.kept {row:Option Nat} (h:J2 w r es c) (hg:w.grownBy w' row) (hne:some r≠row):J2 w' r es c:=(hg.block r h.lt hne).trans h
theorem J2.alloc (h:J2 w r es c) (o:Obj):J2 (w.alloc o) r es c:=h.kept (World.grownBy_alloc w o none) (by simp)
theorem J2.made (w:World):J2 (w.alloc (.map #[] 0)) w.heap.size [] 0:=heap_alloc_new w _
theorem J2.below {B:Nat} (h:J2 w r es c) (hb:Below B w w') (hr:r<B):J2 w' r es c:=(hb.block r hr).trans h
theorem J2.set (h:J2 w r es c) (es':List MapEntry) (c':Nat):J2 (setBlock w r (.map es'.toArray c')) r es' c':=by
 have:=h.lt
 simp only[J2,setBlock]
 rw[Array.getElem?_setIfInBounds_self_of_lt this]
end
def Js6 (kd:TypeDesc) (k:Value) (es:List MapEntry):Option (Option (Nat×Value)):=Instr.findNow kd k es 0
section
variable {P:Program} {t kt et:TypeId} {kd:TypeDesc} (ht:P.underlying t=some (.map kt et)) (hk:P.underlying kt=some kd) (hp:Kg1 kd) {w:World} {r c:Nat} {es:List MapEntry} (h:J2 w r es c) (key val:Value)
include hk
theorem Qi0 (x:Option (Nat×Value)) (hf:Js6 kd key es=some x) (w:World):(Instr.findKey kt key es).run P w= .ok x w:=by
 unfold Js6 at hf
 simp[Instr.findKey,run_underlying hk,hf]
include hp
theorem Qf6 (em:Bool) (n:Nat) (v:Value) (w:World):(Instr.checkKey em (n+1) kt v).run P w= .ok () w:=by
 rcases hp with⟨q,rfl⟩|rfl|rfl<;>simp[Instr.checkKey,run_underlying hk]
include ht h
theorem Qf7 (hf:Js6 kd key es=some none):
  (Instr.mapUpdate t (.map (some r)) key val).run P w= .ok () (setBlock w r (.map (es++ [(MapEntry.mk key val c)]).toArray (c+1))):=by
 have hr:w.heap[r]?=some (.map es.toArray c):=h
 simp[Instr.mapUpdate,run_underlying ht,getObj,Sem.run,hr,Qf6 hk hp,Qi0 hk key none hf,setObj,setBlock]
theorem Qh4 {z:Value} (hz:(zeroValue et).run P w= .ok z w) (ok:Bool) (x:Option (Nat×Value)) (hf:Js6 kd key es=some x):
  (Instr.lookup t (.map (some r)) key ok).run P w= .ok (if ok then .tuple #[(x.map (·.2)).getD z,.bool x.isSome]else(x.map (·.2)).getD z) w:=by
 have hr:w.heap[r]?=some (.map es.toArray c):=h
 rcases x with _|⟨i,v⟩<;>
  simp[Instr.lookup,run_underlying ht,getObj,Sem.run,hr,Qf6 hk hp,Qi0 hk key _ hf,hz]
end
theorem JZ {P:Program} (w:World) {ops:Array Oper} {rest:List Oper} {o:Oper} {a:Act} {Q:Exit→Act→World→Prop}
  (hg:o.guard=none) (m x v:Operand) (t:TypeId) (hop:o.op=Op.insert t m x v) {kt et:TypeId} {kd:TypeDesc} (ht:P.underlying t=some (.map kt et)) (hk:P.underlying kt=some kd) (hp:Kg1 kd)
  (r c:Nat) (es:List MapEntry) (key val:Value) (hm:a.eval m= .map (some r)) (hx:a.eval x=key) (hv:a.eval v=val) (h:J2 w r es c) (hf:Js6 kd key es=some none)
  (hK: ∀w1,J2 w1 r (es++ [MapEntry.mk key val c]) (c+1)→Qf5 w w1 r→wpList P ops Q rest (a.put o.dst undef) w1):wpList P ops Q (o::rest) a w:=by
 refine wpList_plain hg fun K' hK'=> ?_
 have hrun:=Qf7 ht hk hp h key val hf
 unfold Oper.wp
 simp only[execOp,hop,hm,hx,hv]
 simp[hrun]
 exact hK' _ _ (hK _ (h.set _ _) (U0 _ _ _))
def V7 (es:List MapEntry) (k:Int):Option Value:=(es.find? fun e=>match e.key with| .int .i64 n=>n ==k|_=>false).map (·.val)
def Qn7 (es:List MapEntry):Prop:= ∀e∈es,∃n:Int,e.key= .int .i64 n
def Xa9 (e:MapEntry):Int:=match e.key with| .int .i64 n=>n|_=>0
theorem Qe7: ∀(es:List MapEntry) (k:Int) (i:Nat),Qn7 es→
  ∃x,Instr.findNow (.int .i64) (.int .i64 k) es i=some x∧x.map (·.2)=V7 es k∧
   (∀j v,x=some (j,v)→i≤j∧ ∃(hj:j-i<es.length),(es[j-i]).key= .int .i64 k∧es[j-i].val=v∧ ∀m (hm:m<j-i),(es[m]'(by omega)).key≠ .int .i64 k)∧(x=none→ ∀e∈es,e.key≠ .int .i64 k)
 | [],k,i,_=>⟨none,rfl,rfl,by simp,by simp⟩
 |e::es,k,i,h=>by
  obtain⟨n,hn⟩:=h e (by simp);obtain⟨x,hx,hl,hs,hnn⟩:=Qe7 es k (i+1) (fun e' he'=>h e' (by simp[he']))
  by_cases hkn:k=n
  ·subst hkn
   refine⟨some (i,e.val),by simp[Instr.findNow,Instr.sameNow,hn],by simp[V7,hn], ?_,by simp⟩;rintro j v hjv;simp only[Option.some.injEq,Prod.mk.injEq]at hjv;obtain⟨rfl,rfl⟩:=hjv;refine⟨Nat.le_refl _,by simp,by simpa using hn,by simp,fun m hm=>by omega⟩
  ·have hb:(k ==n)=false:=by simpa using hkn
   have hb':(n ==k)=false:=by simpa using fun e=>hkn e.symm
   refine⟨x,by simp[Instr.findNow,Instr.sameNow,hn,hb,hx],by rw[hl];simp[V7,hn,hb'], ?_, ?_⟩
   ·rintro j v hjv
    obtain⟨h1,h2,h3,h4,h5⟩:=hs j v hjv;have e1:j-i=(j- (i+1))+1:=by omega
    refine⟨by omega,by simp only[List.length_cons];omega, ?_, ?_, ?_⟩
    ·simp only[e1,List.getElem_cons_succ];exact h3
    ·simp only[e1,List.getElem_cons_succ];exact h4
    ·intro m hm
     rcases m with _|m
     ·simp only[List.getElem_cons_zero,hn]
      intro e;injection e with _ e;exact hkn e.symm
     ·simp only[List.getElem_cons_succ]
      exact h5 m (by omega)
   ·rintro rfl e' he'
    rcases List.mem_cons.1 he' with rfl|he'
    ·rw[hn];intro e;injection e with _ e;exact hkn e.symm
    ·exact hnn rfl e' he'
def I7 (w:World) (r:Nat) (f:Int→Option Value):Prop:=
 ∃es c,J2 w r es c∧Qn7 es∧(es.map Xa9).Nodup∧ ∀k,V7 es k=f k
def V1 (f:Int→Option Value) (k:Int) (v:Option Value):Int→Option Value:=fun j=>if j=k then v else f j
section
variable {w w':World} {r:Nat} {f:Int→Option Value}
theorem I7.lt (h:I7 w r f):r<w.heap.size:=by obtain⟨es,c,h,_⟩:=h;exact h.lt
theorem I7.of_block (h:I7 w r f) (hb:w'.heap[r]?=w.heap[r]?):I7 w' r f:=by
 obtain⟨es,c,h,hr⟩:=h
 exact⟨es,c,h.of_block hb,hr⟩
theorem I7.kept {row:Option Nat} (h:I7 w r f) (hg:w.grownBy w' row) (hne:some r≠row):I7 w' r f:=h.of_block (hg.block r h.lt hne)
theorem I7.below {B:Nat} (h:I7 w r f) (hb:Below B w w') (hr:r<B):I7 w' r f:=h.of_block (hb.block r hr)
theorem I7.alloc (h:I7 w r f) (o:Obj):I7 (w.alloc o) r f:=h.kept (World.grownBy_alloc w o none) (by simp)
theorem I7.made (w:World):I7 (w.alloc (.map #[] 0)) w.heap.size fun _=>none:=
 ⟨[],0,J2.made w,by simp[Qn7],by simp,by simp[V7]⟩
variable {P:Program} {t kt et:TypeId} (ht:P.underlying t=some (.map kt et)) (hk:P.underlying kt=some (.int .i64))
theorem Qs8 {e:MapEntry} {n:Int} (h:e.key= .int .i64 n):Xa9 e=n:=by simp[Xa9,h]
include ht hk in
theorem I7.lookup (h:I7 w r f) {z:Value} (hz:(zeroValue et).run P w= .ok z w) (k:Int) (ok:Bool):
  (Instr.lookup t (.map (some r)) (.int .i64 k) ok).run P w= .ok (if ok then .tuple #[(f k).getD z,.bool (f k).isSome]else(f k).getD z) w:=by
 obtain⟨es,c,h,hK,_,hf⟩:=h
 obtain⟨x,hx,hl,_⟩:=Qe7 es k 0 hK
 rw[Qh4 ht hk U1 h _ hz ok x hx,hl,hf]
 have:x.isSome=(f k).isSome:=by rw[←hf,←hl];simp
 rw[this]
theorem Jg3: ∀(es:List MapEntry) (i:Nat) (k:Int) (v:Value),Qn7 es→(es.map Xa9).Nodup→(hi:i<es.length)→es[i].key= .int .i64 k→
  ∀j,V7 (es.modify i fun e=> {e with key:= .int .i64 k,val:=v}) j=V1 (V7 es) k (some v) j
 | [],i,k,v,_,_,hi,_=>by simp at hi
 |e::es,0,k,v,hK,hN,_,hkey=>by
  intro j;simp only[List.getElem_cons_zero]at hkey
  by_cases hj:j=k
  ·subst hj;simp[V7,V1]
  ·have hb:(k ==j)=false:=by simpa using fun e=>hj e.symm
   simp[V7,V1,hj,hkey,hb]
 |e::es,i+1,k,v,hK,hN,hi,hkey=>by
  intro j;simp only[List.getElem_cons_succ]at hkey;simp only[List.map_cons,List.nodup_cons]at hN;have ih:=Jg3 es i k v (fun e' he'=>hK e' (by simp[he'])) hN.2 (by simpa using hi) hkey j;obtain⟨n,hn⟩:=hK e (by simp);have hne:n≠k:=by
   rintro rfl;apply hN.1;rw[Qs8 hn];exact List.mem_map.2 ⟨es[i]'(by simpa using hi),List.getElem_mem _,Qs8 hkey⟩
  simp only[List.modify_succ_cons]
  by_cases hj:n=j
  ·subst hj
   simp[V7,V1,hn,hne]
  ·have hb:(n ==j)=false:=by simpa using hj
   simp only[V7,List.find?_cons,hn,hb,V1]at ih⊢;exact ih
theorem Jg4 (es:List MapEntry) (e:MapEntry) (k:Int) (hkey:e.key= .int .i64 k) (hno: ∀e'∈es,e'.key≠ .int .i64 k) (hK:Qn7 es):
  ∀j,V7 (es++ [e]) j=V1 (V7 es) k (some e.val) j:=by
 intro j
 by_cases hj:j=k
 ·subst hj
  have:es.find? (fun e=>match e.key with| .int .i64 n=>n ==j|_=>false)=none:=by
   rw[List.find?_eq_none];intro e' he';obtain⟨n,hn⟩:=hK e' he';have:=hno e' he';rw[hn]at this⊢;simp only[beq_iff_eq];rintro rfl;exact this rfl
  simp[V7,V1,List.find?_append,this,hkey]
 ·have hb:(k ==j)=false:=by simpa using fun e=>hj e.symm
  simp[V7,V1,List.find?_append,hkey,hb,hj]
theorem Js7 {es:List MapEntry} {i:Nat} {k:Int} {v:Value} (hK:Qn7 es):Qn7 (es.modify i fun e=> {e with key:= .int .i64 k,val:=v}):=by
 intro e he
 obtain⟨j,hj,rfl⟩:=List.mem_iff_getElem.1 he
 rw[List.getElem_modify]
 split
 ·exact⟨k,rfl⟩
 ·exact hK _ (List.getElem_mem _)
theorem Jr2 {es:List MapEntry} {i:Nat} {k:Int} {v:Value} (hi:i<es.length) (hkey:es[i].key= .int .i64 k):
  (es.modify i fun e=> {e with key:= .int .i64 k,val:=v}).map Xa9=es.map Xa9:=by
 apply List.ext_getElem
 ·simp
 ·intro j h1 h2
  simp only[List.getElem_map,List.getElem_modify]
  split
  ·rename_i hij
   subst hij;simp[Xa9,hkey]
  ·rfl
include ht hk in
theorem I7.update (h:I7 w r f) (k:Int) (v:Value):
  ∃w',(Instr.mapUpdate t (.map (some r)) (.int .i64 k) v).run P w= .ok () w'∧I7 w' r (V1 f k (some v))∧Qf5 w w' r:=by
 obtain⟨es,c,h,hK,hN,hf⟩:=h
 obtain⟨x,hx,hl,hs,hno⟩:=Qe7 es k 0 hK
 have hfe:V7 es=f:=funext hf
 rcases x with _|⟨i,v0⟩
 ·refine⟨_,Qf7 ht hk U1 h _ v hx,⟨_,_,h.set _ _, ?_, ?_, ?_⟩,U0 _ _ _⟩
  ·intro e he
   rcases List.mem_append.1 he with he|he
   ·exact hK e he
   ·simp at he;subst he;exact⟨k,rfl⟩
  ·rw[List.map_append,List.nodup_append]
   refine⟨hN,by simp, ?_⟩;intro a ha b hb;simp[Xa9]at hb;subst hb;obtain⟨e,he,rfl⟩:=List.mem_map.1 ha;obtain⟨n,hn⟩:=hK e he;rw[Qs8 hn];rintro rfl;exact hno rfl e he hn
  ·rw[←hfe]
   exact Jg4 es (MapEntry.mk (.int .i64 k) v c) k rfl (hno rfl) hK
 ·obtain⟨_,h2,h3,h4,h5⟩:=hs i v0 rfl
  simp only[Nat.sub_zero]at h2 h3 h4;have hr:w.heap[r]?=some (.map es.toArray c):=h;refine⟨setBlock w r (.map (es.modify i fun e=> {e with key:= .int .i64 k,val:=v}).toArray c), ?_,⟨_,_,h.set _ _,Js7 hK, ?_, ?_⟩,U0 _ _ _⟩
  ·have hst: ∀w0:World,(Instr.keyThatStays (.int .i64 k) (.int .i64 k)).run P w0= .ok (.int .i64 k) w0:=by
    intro w0;simp[Instr.keyThatStays,Instr.sameBits]
   have hidx:es[i]?=some es[i]:=by simp[h2]
   have e3:Instr.findNow (.int .i64) (.int .i64 k) es 0=some (some (i,v0)):=hx;simp[Instr.mapUpdate,run_underlying ht,getObj,Sem.run,hr,Qf6 hk U1,Qi0 hk (.int .i64 k) (some (i,v0)) e3,setObj,setBlock,hidx,h3,hst]
  ·rw[Jr2 h2 h3];exact hN
  ·rw[←hfe]
   exact Jg3 es i k v hK hN h2 h3
theorem Qw5: ∀(es:List MapEntry) (i:Nat) (k:Int),Qn7 es→(es.map Xa9).Nodup→(hi:i<es.length)→es[i].key= .int .i64 k→
  ∀j,V7 (es.eraseIdx i) j=V1 (V7 es) k none j
 | [],i,k,_,_,hi,_=>by simp at hi
 |e::es,0,k,hK,hN,_,hkey=>by
  intro j;simp only[List.getElem_cons_zero]at hkey;simp only[List.map_cons,List.nodup_cons,Qs8 hkey]at hN
  by_cases hj:j=k
  ·subst hj
   have:es.find? (fun e=>match e.key with| .int .i64 n=>n ==j|_=>false)=none:=by
    rw[List.find?_eq_none];intro e' he';obtain⟨n,hn⟩:=hK e' (by simp[he']);rw[hn];simp only[beq_iff_eq];rintro rfl;exact hN.1 (List.mem_map.2 ⟨e',he',Qs8 hn⟩)
   simp[V7,V1,this]
  ·have hb:(k ==j)=false:=by simpa using fun e=>hj e.symm
   simp[V7,V1,hj,hkey,hb]
 |e::es,i+1,k,hK,hN,hi,hkey=>by
  intro j;simp only[List.getElem_cons_succ]at hkey;simp only[List.map_cons,List.nodup_cons]at hN;have ih:=Qw5 es i k (fun e' he'=>hK e' (by simp[he'])) hN.2 (by simpa using hi) hkey j;obtain⟨n,hn⟩:=hK e (by simp);have hne:n≠k:=by
   rintro rfl;apply hN.1;rw[Qs8 hn];exact List.mem_map.2 ⟨es[i]'(by simpa using hi),List.getElem_mem _,Qs8 hkey⟩
  simp only[List.eraseIdx_cons_succ]
  by_cases hj:n=j
  ·subst hj
   simp[V7,V1,hn,hne]
  ·have hb:(n ==j)=false:=by simpa using hj
   simp only[V7,List.find?_cons,hn,hb,V1]at ih⊢;exact ih
include ht hk in
theorem I7.delete (h:I7 w r f) (k:Int) (a1 ty:TypeId):
  ∃w',(Builtin.delete_ #[t,a1] ty #[.map (some r),.int .i64 k]).run P w= .ok (.tuple #[]) w'∧I7 w' r (V1 f k none)∧Qf5 w w' r:=by
 obtain⟨es,c,h,hK,hN,hf⟩:=h
 obtain⟨x,hx,hl,hs,hno⟩:=Qe7 es k 0 hK
 have hfe:V7 es=f:=funext hf
 have hr:w.heap[r]?=some (.map es.toArray c):=h
 rcases x with _|⟨i,v0⟩
 ·refine⟨setBlock w r (.map es.toArray c), ?_,⟨_,_,h.set _ _,hK,hN, ?_⟩,U0 _ _ _⟩
  ·have e3:Instr.findNow (.int .i64) (.int .i64 k) es 0=some none:=hx
   simp[Builtin.delete_,run_underlying ht,getObj,Sem.run,hr,Qf6 hk U1,Qi0 hk (.int .i64 k) none e3,setObj,setBlock]
  ·intro j
   rw[hf,V1]
   split
   ·rename_i e;subst e;rw[←hf,←hl];rfl
   ·rfl
 ·obtain⟨_,h2,h3,h4,h5⟩:=hs i v0 rfl
  simp only[Nat.sub_zero]at h2 h3 h4;refine⟨setBlock w r (.map (es.eraseIdx i).toArray c), ?_,⟨_,_,h.set _ _,fun e he=>hK e (List.mem_of_mem_eraseIdx he), ?_, ?_⟩,U0 _ _ _⟩
  ·have e3:Instr.findNow (.int .i64) (.int .i64 k) es 0=some (some (i,v0)):=hx
   simp[Builtin.delete_,run_underlying ht,getObj,Sem.run,hr,Qf6 hk U1,Qi0 hk (.int .i64 k) (some (i,v0)) e3,setObj,setBlock]
  ·exact List.Nodup.sublist ((List.eraseIdx_sublist es i).map Xa9) hN
  ·rw[←hfe]
   exact Qw5 es i k hK hN h2 h3
end
end Go.Proofs.YtbmiieehkkfbgaaGreatDoor
