/- Contracts and walks that the law's proof needs. -/
import Derived.WalkKit
import Derived.WalkLawsBesides
import Derived.WalkSpells
import Derived.Below
import Derived.Deep.Draws
import Derived.Deep.Slices
import Derived.Deep.Fields
import Derived.ChangeSame
import Derived.OpenShut
import Derived.Laws.Rows
import Derived.Laws.OwnMore
import Derived.Deep.AppendLies
import Derived.Lib.SliceRun
import Derived.Test.YtnlngicnfegjgaaGreatRows
set_option linter.unusedVariables false
set_option maxRecDepth 100000
set_option maxHeartbeats 8000000
namespace Go.Proofs.YtnlngicnfegjgaaGreat
open Go.RowKit
theorem QQ {p:Prop} (h:p):Hid p:=h
theorem Q6 {a b:Bool} (h:a=b):Ending.returned (.bool a)=Ending.returned (.bool b):=by rw[h]
theorem O4 {k:IntKind} {a b:Int} (h:a=b):Ending.returned (.int k a)= .returned (.int k b):=by rw[h]
theorem Kr7 {a b c d:Int} {v:Value} (h:a=c) (k:b=d):Ending.returned (.tuple #[.int .i64 a,.int .i64 b,v])= .returned (.tuple #[.int .i64 c,.int .i64 d,v]):=by rw[h,k]
theorem UX {a b:Int} (h:a≠b):(a ==b)=false:=beq_eq_false_iff_ne.2 h
theorem J3 {a b:Int} (h:a=b):(a ==b)=true:=beq_iff_eq.2 h
theorem Ji1 {a b:Int} (h:a=b):(a != b)=false:=by simp[h]
theorem Ji2 {a b:Int} (h:a≠b):(a != b)=true:=by simp[h]
theorem OY {p:Prop} [Decidable p] (h: ¬p):decide p=false:=decide_eq_false h
theorem J4 {p:Prop} [Decidable p] (h:p):decide p=true:=decide_eq_true h
theorem JQ {B:Nat} {w w1:World} (h:Below B w w1) (n:Nat):Below B w (w1.drewN n):=⟨h.os,h.tape,h.output,h.size,h.block⟩
end Go.Proofs.YtnlngicnfegjgaaGreat
namespace Go.Proofs.YtnlngicnfegjgaaGreat
open Go.ChangeShapes Go.Deep Go.RowKit Go.WideShapes
def Jb6 (w:World) (m:Nat) (A:Option Addr) (len cap:Nat) (rows:List (List Int)):Prop:=
 rows.length=len∧len≤cap∧cap≤maxLen∧(∀r∈rows,r.length=m∧ ∀x∈r,-9223372036854775808≤x∧x≤9223372036854775807)∧
 (A=none→len=0∧cap=0)∧
 (0<len→ ∃b off,A=some ⟨b,off,none⟩∧b<w.heap.size∧ ∀i (hi:i<rows.length) j (hj:j<rows[i].length),w.cell? ⟨b,off+i*m+j,none⟩=some (.int .i64 rows[i][j]))
def Ji3 (P:Program):Nat→TypeId→Nat→Bool
 |0,_,_=>false
 |n+1,t,i=>match P.underlying t with
  |some (.int .i64)=>i ==0
  |some (.struct fs)=>fs.toList.any fun f=>decide (f.offset≤i) &&decide (i<f.offset+P.cellsOf f.type) &&Ji3 P n f.type (i-f.offset)
  |_=>false
section
variable {H:Type} {enc:TypeId×Value→H} {P:Program} {w:World} {base:Nat} {spare:Nat→Bool} {held:Bool}
theorem Xi5: ∀(n:Nat) (t:TypeId) (i fuel:Nat) (cs:List Value) (x:DataW H×List MemPlace),Ji3 P n t i=true→DataW.trod enc P w base spare held fuel t cs=some x→
  ∃z,cs[i]?=some (.int .i64 z)∧ -9223372036854775808≤z∧z≤9223372036854775807
 |0,_,_,_,_,_,h,_=>by simp[Ji3]at h
 |n+1,t,i,fuel,cs,x,h,ht=>by
  unfold Ji3 at h
  split at h
  ·rename_i hu
   obtain⟨z,rfl,_,hw⟩:=DataW.trod_int hu ht;have:i=0:=by simpa using h
   subst this;exact⟨z,rfl,bounds_i64 hw⟩
  ·rename_i fs hu
   obtain⟨xs,m,_,_,hl,hxl,hf⟩:=DataW.trod_struct hu ht;rw[List.any_eq_true]at h;obtain⟨f,hfm,hc⟩:=h;simp only[Bool.and_eq_true,decide_eq_true_eq]at hc;obtain⟨⟨h1,h2⟩,h3⟩:=hc;obtain⟨j,hj,rfl⟩:=List.mem_iff_getElem.1 hfm;have hj':j<fs.size:=by simpa using hj
   have e:=hf j fs[j] (by simp[hj']);have hx:xs[j]?=some (xs[j]'(by omega)):=List.getElem?_eq_getElem (by omega);simp only[Array.getElem_toList]at h1 h2 h3;rw[hx]at e;obtain⟨z,hz,hb⟩:=Xi5 n _ _ _ _ _ h3 e;refine⟨z, ?_,hb⟩;rw[List.getElem?_take,List.getElem?_drop]at hz
   split at hz
   ·rw[←hz];congr 1;omega
   ·simp at hz
  ·simp at h
theorem Xi6 {a:Addr} {i:Nat} (hs:a.spot=none):a.add i=⟨a.block,a.off+i,none⟩:=by
 unfold Addr.add
 split
 ·rename_i h
  subst h
  cases a;simp at hs;simp[hs]
 ·rfl
theorem Qv0 {st et:TypeId} {m:Nat} {A:Option Addr} {len cap:Nat} {d:DataW H} {p:List MemPlace} (ht:P.underlying st=some (.slice et)) (hm:P.cellsOf et=m)
  (hflat:((List.range m).all fun i=>Ji3 P 5 et i)=true) (hpos:0<m) (h:DataW.Trod enc P w base spare held st (.slice A len cap) d p): ∃rows,Jb6 w m A len cap rows:=by
 obtain⟨fuel,hf⟩:=h
 rcases open_slice ht hf with⟨hcs,_⟩|⟨a,len',cap',mm,n,D,Pl,hcs,hb,hl,hcap,hmm,_,hi⟩
 ·simp[Value.cells]at hcs
  obtain⟨rfl,rfl,rfl⟩:=hcs;exact⟨[],rfl,Nat.le_refl _,Nat.zero_le _,by simp,fun _=>⟨rfl,rfl⟩,fun h=>absurd h (by omega)⟩
 ·simp[Value.cells]at hcs
  obtain⟨rfl,rfl,rfl⟩:=hcs;subst hm;have hlm:len≤mm:=by rw[hmm];split<;>omega
  have key: ∀i,i<len→ ∀j,j<P.cellsOf et→ ∃z,w.cell? ((a.add (i*P.cellsOf et)).add j)=some (.int .i64 z)∧ -9223372036854775808≤z∧z≤9223372036854775807:=by
   intro i hil j hj;obtain⟨cs',hc,ht'⟩:=hi i (by omega);obtain⟨_,hcl,hat⟩:=World.cells?_some hc;have hfj:Ji3 P 5 et j=true:=by
    rw[List.all_eq_true]at hflat;exact hflat j (by simpa using hj)
   obtain⟨z,hz,hb⟩:=Xi5 5 et j n cs' _ hfj ht';exact⟨z,by rw[hat j hj,hz],hb⟩
  let Z:Nat→Nat→Int:=fun i j=>match w.cell? ((a.add (i*P.cellsOf et)).add j)with|some (.int _ z)=>z|_=>0
  have hZ: ∀i,i<len→ ∀j,j<P.cellsOf et→w.cell? ((a.add (i*P.cellsOf et)).add j)=some (.int .i64 (Z i j))∧ -9223372036854775808≤Z i j∧Z i j≤9223372036854775807:=by
   intro i hil j hj;obtain⟨z,hz,hb⟩:=key i hil j hj;have:Z i j=z:=by simp only[Z,hz]
   rw[this];exact⟨hz,hb⟩
  refine⟨(List.range len).map fun i=>(List.range (P.cellsOf et)).map (Z i),by simp,hl,hcap, ?_,by simp, ?_⟩
  ·intro r hr
   obtain⟨i,hil,rfl⟩:=List.mem_map.1 hr;refine⟨by simp,fun x hx=> ?_⟩;obtain⟨j,hj,rfl⟩:=List.mem_map.1 hx;exact(hZ i (by simpa using hil) j (by simpa using hj)).2
  ·intro hpl
   have h0:=(hZ 0 hpl 0 hpos).1;have e0:(a.add (0*P.cellsOf et)).add 0=a:=by simp[Addr.add]
   rw[e0]at h0;have hs:a.spot=none:=World.cell?_spot h0;refine⟨a.block,a.off, ?_,World.block_lt_of_cell? w a h0, ?_⟩
   ·cases a;simp at hs;rw[hs]
   ·intro i hi' j hj'
    simp only[List.length_map,List.length_range]at hi';simp only[List.getElem_map,List.getElem_range,List.length_map,List.length_range]at hj'⊢;rw[←(hZ i hi' j hj').1,Xi6 hs,Xi6 rfl]
end
end Go.Proofs.YtnlngicnfegjgaaGreat
namespace Go.Proofs.YtnlngicnfegjgaaGreat
open Go.RowKit
def QJ (w:World) (g:Nat) (t:TypeId) (cs:Array Value):Prop:=w.heap[g]?=some (.cells cs t (0,0))
section
variable {w w':World} {g:Nat} {t:TypeId} {cs:Array Value}
theorem QJ.lt (h:QJ w g t cs):g<w.heap.size:=by
 rcases Nat.lt_or_ge g w.heap.size with hlt|hge
 ·exact hlt
 ·unfold QJ at h;rw[Array.getElem?_eq_none hge]at h;cases h
theorem QJ.cell (h:QJ w g t cs) (i:Nat):w.cell? ⟨g,i,none⟩=cs[i]?:=cell_of_row w g i cs t (0,0) h
theorem QJ.frozen (h:QJ w g t cs) (i:Nat):w.frozen? ⟨g,i,none⟩=false:=by
 unfold QJ at h
 simp[World.frozen?,h]
theorem QJ.new (w:World) (t:TypeId) (cs:Array Value):QJ (w.alloc (.cells cs t)) w.heap.size t cs:=heap_alloc_new w _
theorem QJ.drew (h:QJ w g t cs):QJ w.drew g t cs:=h
theorem QJ.drewN (h:QJ w g t cs) (n:Nat):QJ (w.drewN n) g t cs:=h
theorem QJ.alloc (h:QJ w g t cs) (o:Obj):QJ (w.alloc o) g t cs:=(Below.heap_alloc w o g h.lt).trans h
theorem QJ.set_ (h:QJ w g t cs) (i:Nat) (u:Value):QJ (w.setCell ⟨g,i,none⟩ u) g t (cs.setIfInBounds i u):=by
 unfold QJ at h⊢
 simp[World.setCell,Array.getElem?_modify,h]
theorem QJ.far (h:QJ w g t cs) {p:Addr} (hp:g≠p.block) (u:Value):QJ (w.setCell p u) g t cs:=(Below.heap_setCell w p u g hp).trans h
theorem QJ.below {B:Nat} (h:QJ w g t cs) (hb:Below B w w') (hg:g<B):QJ w' g t cs:=(hb.block g hg).trans h
theorem QJ.keep (h:QJ w g t cs) (hb:Below w.heap.size w w'):QJ w' g t cs:=h.below hb h.lt
theorem QJ.grown {row:Option Nat} (h:QJ w g t cs) (hb:w.grownBy w' row) (hg:some g≠row):QJ w' g t cs:=(hb.block g h.lt hg).trans h
theorem QJ.of_block (h:QJ w g t cs) (hb:w'.heap[g]?=w.heap[g]?):QJ w' g t cs:=hb.trans h
end
structure QK (S:Nat→Prop) (w w':World):Prop where
 os:w'.os=w.os
 tape:w'.tape=w.tape
 output:w'.output=w.output
 size:w.heap.size≤w'.heap.size
 block: ∀k,k<w.heap.size→ ¬S k→w'.heap[k]?=w.heap[k]?
section
variable {S S':Nat→Prop} {w w' w1 w2:World}
theorem QK.refl (S:Nat→Prop) (w:World):QK S w w:=⟨rfl,rfl,rfl,Nat.le_refl _,fun _ _ _=>rfl⟩
theorem QK.trans (h:QK S w w1) (k:QK S' w1 w2) (hS: ∀i,S' i→S i∨w.heap.size≤i):QK S w w2:=
 ⟨k.os.trans h.os,k.tape.trans h.tape,k.output.trans h.output,Nat.le_trans h.size k.size,fun i hi hn=>
  (k.block i (Nat.lt_of_lt_of_le hi h.size) (fun h'=>(hS i h').elim hn (fun h''=>absurd hi (by omega)))).trans (h.block i hi hn)⟩
theorem QK.mono (h:QK S w w1) (hS: ∀i,S i→S' i):QK S' w w1:=⟨h.os,h.tape,h.output,h.size,fun i hi hn=>h.block i hi (fun h'=>hn (hS i h'))⟩
theorem QK.of_below (h:Below w.heap.size w w1) (S:Nat→Prop):QK S w w1:=⟨h.os,h.tape,h.output,h.size,fun i hi _=>h.block i hi⟩
theorem QK.then_ (h:QK S w w1) (k:Below w1.heap.size w1 w2):QK S w w2:=h.trans (QK.of_below k (fun _=>False)) (fun _ h=>h.elim)
theorem QK.after (h:Below w.heap.size w w1) (k:QK S w1 w2):QK S w w2:=(QK.of_below h S).trans k (fun _ h=> .inl h)
theorem QK.set_ (w:World) (p:Addr) (v:Value):QK (fun i=>i=p.block) w (w.setCell p v):=⟨rfl,rfl,rfl,by simp[World.setCell],fun i _ hn=>Below.heap_setCell w p v i hn⟩
theorem QK.below {B:Nat} (h:QK S w w1) (hS: ∀i,S i→B≤i) (hB:B≤w.heap.size):Below B w w1:=⟨h.os,h.tape,h.output,h.size,fun i hi=>h.block i (by omega) (fun h'=>by have:=hS i h';omega)⟩
theorem QK.cell (h:QK S w w1) {p:Addr} (hp:p.block<w.heap.size) (hn: ¬S p.block):w1.cell? p=w.cell? p:=World.cell?_of_block (h.block _ hp hn)
theorem QK.frozen (h:QK S w w1) {p:Addr} (hp:p.block<w.heap.size) (hn: ¬S p.block):w1.frozen? p=w.frozen? p:=World.frozen?_of_block (h.block _ hp hn)
theorem QJ.keeps {g:Nat} {t:TypeId} {cs:Array Value} (h:QJ w g t cs) (hk:QK S w w1) (hn: ¬S g):QJ w1 g t cs:=(hk.block g h.lt hn).trans h
end
def QY (w:World) (A:Option Addr) (n c:Nat) (t:TypeId) (sz:Nat) (xs:List Value):Prop:=w.ownsRow 0 t sz (.slice A n c) n xs
def QV (A:Option Addr):Option Nat:=A.map (·.block)
theorem XV (A:Option Addr) (n c:Nat):(Value.slice A n c).ownBlock=QV A:=by cases A<;>rfl
theorem Kd0 {w:World} {base:Nat} {e:TypeId} {size:Nat} {v:Value} {n:Nat} {xs:List Value} (h:w.ownsRow base e size v n xs):w.ownsRow 0 e size v n xs:=by
 refine⟨h.1, ?_⟩
 rcases h.2 with h1|⟨g,cap,cur,h1,h2,h3⟩
 ·exact .inl h1
 ·exact .inr ⟨g,cap,cur,h1,Nat.zero_le _,h3⟩
theorem QY.cell {w:World} {A:Option Addr} {n c sz:Nat} {t:TypeId} {xs:List Value} (h:QY w A n c t sz xs) {j:Nat} {u:Value} (hu:xs[j]?=some u):
  ∃g,A=some ⟨g,0,none⟩∧w.cell? ⟨g,j,none⟩=some u:=by
 rcases h.2 with⟨_,h0⟩|⟨g,cap,cur,hv,_⟩
 ·have hl:=h.1
  rw[h0]at hl;rw[List.getElem?_eq_none (by omega)]at hu
  cases hu
 ·cases hv
  refine⟨g,rfl, ?_⟩;have:=World.ownsRow.cells h (g:=g) rfl j u hu;have hadd:(⟨g,0,none⟩:Addr).add j=⟨g,j,none⟩:=by unfold Addr.add;split<;>simp_all
  rw[hadd]at this;exact this
section
variable {w w':World} {A:Option Addr} {n c sz:Nat} {t:TypeId} {xs:List Value}
theorem QY.lt (h:QY w A n c t sz xs) {g:Nat} (hg:QV A=some g):g<w.heap.size:=(World.ownsRow.lt h g (by rw[XV];exact hg)).2
theorem QY.of_block (h:QY w A n c t sz xs) (hb: ∀g,QV A=some g→w'.heap[g]?=w.heap[g]?):QY w' A n c t sz xs:=by
 refine⟨h.1, ?_⟩
 rcases h.2 with h1|⟨g,cap,cur,hv,h1,h2,h3⟩
 ·exact .inl h1
 ·cases hv
  exact .inr ⟨g,c,cur,rfl,h1,(hb g rfl).trans h2,h3⟩
theorem QY.keeps {S:Nat→Prop} (h:QY w A n c t sz xs) (hk:QK S w w') (hn: ∀g,QV A=some g→ ¬S g):QY w' A n c t sz xs:=
 h.of_block fun g hg=>hk.block g (h.lt hg) (hn g hg)
theorem QY.below (h:QY w A n c t sz xs) (hb:Below w.heap.size w w'):QY w' A n c t sz xs:=h.of_block fun g hg=>hb.block g (h.lt hg)
theorem QY.set {g:Nat} (h:QY w (some ⟨g,0,none⟩) n c t sz xs) (j:Nat) (u:Value):QY (w.setCell ⟨g,j,none⟩ u) (some ⟨g,0,none⟩) n c t sz (xs.set j u):=(World.ownsRow.stored h j u).1
theorem QY.frozen {g:Nat} (h:QY w (some ⟨g,0,none⟩) n c t sz xs) (j:Nat):w.frozen? ⟨g,j,none⟩=false:=World.ownsRow.frozenAt h j
theorem QY.pop {g:Nat} (h:QY w (some ⟨g,0,none⟩) n c t sz xs) (m:Nat) (hm:m≤n):QY w (some ⟨g,0,none⟩) m c t sz (xs.take (m*sz)):=by
 have hl:=h.1
 have hle:m*sz≤n*sz:=Nat.mul_le_mul_right _ hm
 refine⟨by simp;omega, ?_⟩
 rcases h.2 with⟨h1,_⟩|⟨g',cap,cur,hv,h1,h2,h3,h4,h5,h6⟩
 ·cases h1
 ·cases hv
  exact .inr ⟨g,c,cur,rfl,h1,h2,by omega,h4,h5,by rw[←h6,List.take_take,Nat.min_eq_left hle]⟩
end
section
variable {α:Type}
def QW (enc:α→List Value) (xs:List α):List Value:=xs.flatMap enc
theorem Ql3 (enc:α→List Value) (x:α) (xs:List α):QW enc (x::xs)=enc x++QW enc xs:=rfl
theorem Qf2 (enc:α→List Value) (xs ys:List α):QW enc (xs++ys)=QW enc xs++QW enc ys:=by simp[QW]
theorem Qa5 (enc:α→List Value) (xs:List α) (y:α):QW enc (xs++ [y])=QW enc xs++enc y:=by simp[QW]
theorem OJ {enc:α→List Value} {k:Nat} (hk: ∀x,(enc x).length=k) (xs:List α):(QW enc xs).length=xs.length*k:=by
 induction xs with
 |nil=>simp[QW]
 |cons x xs ih=>rw[Ql3,List.length_append,ih,hk,List.length_cons,Nat.succ_mul];omega
theorem Qd4 {enc:α→List Value} {k:Nat} (hk: ∀x,(enc x).length=k) (xs:List α): ∀(i:Nat) (hi:i<xs.length) (j:Nat),j<k→(QW enc xs)[i*k+j]?=(enc xs[i])[j]?:=by
 induction xs with
 |nil=>intro i hi;simp at hi
 |cons x xs ih=>
  intro i hi j hj;rw[Ql3]
  cases i with
  |zero=>rw[Nat.zero_mul,Nat.zero_add,List.getElem?_append_left (by rw[hk];exact hj)];rfl
  |succ i=>
   rw[List.getElem?_append_right (by rw[hk,Nat.succ_mul];omega),hk,show(i+1)*k+j-k=i*k+j by rw[Nat.succ_mul];omega];exact ih i (by simpa using hi) j hj
theorem Qi2 {enc:α→List Value} (h1: ∀x,∀u∈enc x,u.oneCell'=true) (xs:List α): ∀u∈QW enc xs,u.oneCell'=true:=by
 intro u hu
 obtain⟨x,_,h⟩:=List.mem_flatMap.1 hu
 exact h1 x u h
def X8:List Value→Nat→List Value→List Value
 |l,_,[]=>l
 |l,p,v::vs=>X8 (l.set p v) (p+1) vs
theorem Qv1 (vs:List Value): ∀(l:List Value) (pre:List Value) (q:Nat),X8 (pre++l) (pre.length+q) vs=pre++X8 l q vs:=by
 induction vs with
 |nil=>intro l pre q;rfl
 |cons v vs ih=>
  intro l pre q;have e:(pre++l).set (pre.length+q) v=pre++l.set q v:=by rw[List.set_append,if_neg (by omega),show pre.length+q-pre.length=q by omega]
  rw[X8,X8,e,Nat.add_assoc,ih]
theorem Jw5 (vs:List Value): ∀(l rest:List Value),l.length=vs.length→X8 (l++rest) 0 vs=vs++rest:=by
 induction vs with
 |nil=>intro l rest h;simp at h;subst h;rfl
 |cons v vs ih=>
  intro l rest h
  cases l with
  |nil=>simp at h
  |cons a l=>
   have h':l.length=vs.length:=by simpa using h
   rw[X8];show X8 ([v]++(l++rest)) ([v].length+0) vs=_;rw[Qv1,ih l rest h'];rfl
theorem Qp6 {enc:α→List Value} {k:Nat} (hk: ∀x,(enc x).length=k) (y:α) (xs:List α): ∀i,i<xs.length→X8 (QW enc xs) (i*k) (enc y)=QW enc (xs.set i y):=by
 induction xs with
 |nil=>intro i hi;simp at hi
 |cons x xs ih=>
  intro i hi;rw[Ql3]
  cases i with
  |zero=>rw[Nat.zero_mul,Jw5 _ _ _ (by rw[hk,hk])];rfl
  |succ i=>
   have e:(i+1)*k=(enc x).length+i*k:=by rw[hk,Nat.succ_mul];omega
   rw[e,Qv1,ih i (by simpa using hi)];rfl
theorem Qy9 {enc:α→List Value} {k:Nat} (hk: ∀x,(enc x).length=k) (xs:List α): ∀m,(QW enc xs).take (m*k)=QW enc (xs.take m):=by
 induction xs with
 |nil=>intro m;simp[QW]
 |cons x xs ih=>
  intro m
  cases m with
  |zero=>simp[QW]
  |succ m=>rw[Ql3,List.take_succ_cons,Ql3,List.take_append,hk,List.take_of_length_le (by rw[hk,Nat.succ_mul];omega),show(m+1)*k-k=m*k by rw[Nat.succ_mul];omega,ih]
def XZ (w:World) (enc:α→List Value) (k:Nat) (A:Option Addr) (len:Nat) (xs:List α):Prop:=
 xs.length=len∧(0<len→ ∃b off,A=some ⟨b,off,none⟩∧b<w.heap.size∧ ∀i (hi:i<xs.length) j u,(enc xs[i])[j]?=some u→w.cell? ⟨b,off+i*k+j,none⟩=some u)
variable {w w':World} {enc:α→List Value} {k:Nat} {A:Option Addr} {len:Nat} {xs:List α}
theorem XZ.below {B:Nat} (h:XZ w enc k A len xs) (hb:Below B w w') (hB:w.heap.size≤B):XZ w' enc k A len xs:=by
 refine⟨h.1,fun hl=> ?_⟩
 obtain⟨b,off,hA,hlt,hc⟩:=h.2 hl
 have hs:=hb.size
 exact⟨b,off,hA,by omega,fun i hi j u hu=>(hb.cell (p:=⟨b,_,none⟩) (by show b<B;omega)).trans (hc i hi j u hu)⟩
theorem XZ.keeps {S:Nat→Prop} (h:XZ w enc k A len xs) (hk:QK S w w') (hn: ∀g,QV A=some g→ ¬S g):XZ w' enc k A len xs:=by
 refine⟨h.1,fun hl=> ?_⟩
 obtain⟨b,off,rfl,hlt,hc⟩:=h.2 hl
 have hs:=hk.size
 exact⟨b,off,rfl,by omega,fun i hi j u hu=>(hk.cell (p:=⟨b,_,none⟩) hlt (hn b rfl)).trans (hc i hi j u hu)⟩
theorem XZ.at_ {b off:Nat} (h:XZ w enc k (some ⟨b,off,none⟩) len xs) {i:Nat} (hi:i<xs.length) {j:Nat} {u:Value} (hu:(enc xs[i])[j]?=some u):w.cell? ⟨b,off+i*k+j,none⟩=some u:=by
 have hl:0<len:=by have:=h.1;omega
 obtain⟨b',off',hA,_,hc⟩:=h.2 hl
 cases hA
 exact hc i hi j u hu
theorem U6 (b o j:Nat):(⟨b,o,none⟩:Addr).add j=⟨b,o+j,none⟩:=by
 unfold Addr.add
 split
 ·rename_i h;subst h;rfl
 ·rfl
theorem XZ.news {b off:Nat} (hk: ∀x,(enc x).length=k) (h:XZ w enc k (some ⟨b,off,none⟩) len xs): ∀j u,(QW enc xs)[j]?=some u→w.cell? ((⟨b,off,none⟩:Addr).add j)=some u:=by
 intro j u hu
 have hj:j<xs.length*k:=by
  rw[←OJ hk];rcases Nat.lt_or_ge j (QW enc xs).length with h|h
  ·exact h
  ·rw[List.getElem?_eq_none h]at hu;cases hu
 have hk0:0<k:=by
  rcases Nat.eq_zero_or_pos k with h|h
  ·subst h;omega
  ·exact h
 have hi:j/k<xs.length:=(Nat.div_lt_iff_lt_mul hk0).2 hj
 have hm:j % k<k:=Nat.mod_lt _ hk0
 have e:j/k*k+j % k=j:=by have:=Nat.div_add_mod j k;rw[Nat.mul_comm]at this;omega
 rw[U6,←e,←Nat.add_assoc]
 exact h.at_ hi (by rw[←Qd4 hk xs _ hi _ hm,e];exact hu)
theorem XZ.of_row {n c:Nat} {t:TypeId} (hk: ∀x,(enc x).length=k) (hk0:0<k) (h:QY w A n c t k (QW enc xs)):XZ w enc k A n xs:=by
 have hl:xs.length=n:=by
  have:=h.1;rw[OJ hk]at this;exact Nat.eq_of_mul_eq_mul_right hk0 this
 refine⟨hl,fun hn=> ?_⟩
 rcases h.2 with⟨_,h0⟩|⟨g,cap,cur,hv,_⟩
 ·omega
 ·cases hv
  refine⟨g,0,rfl,h.lt rfl,fun i hi j u hu=> ?_⟩;have hj:j<k:=by
   rcases Nat.lt_or_ge j k with h|h
   ·exact h
   ·rw[List.getElem?_eq_none (by rw[hk];exact h)]at hu;cases hu
  obtain⟨g',hg,hc⟩:=h.cell ((Qd4 hk xs i hi j hj).trans hu)
  cases hg;rw[Nat.zero_add];exact hc
theorem QY.elem {n c:Nat} {t:TypeId} (hk: ∀x,(enc x).length=k) (hk0:0<k) (h:QY w A n c t k (QW enc xs)) {i:Nat} (hi:i<xs.length): ∃g,A=some ⟨g,0,none⟩∧ ∀j u,(enc xs[i])[j]?=some u→w.cell? ⟨g,i*k+j,none⟩=some u:=by
 rcases h.2 with⟨_,h0⟩|⟨g,cap,cur,hv,_⟩
 ·have:=h.1
  rw[OJ hk,h0]at this;have h2:xs.length*k=0:=by omega
  rcases Nat.mul_eq_zero.1 h2 with h3|h3
  ·omega
  ·omega
 ·cases hv
  refine⟨g,rfl,fun j u hu=> ?_⟩;have hj:j<k:=by
   rcases Nat.lt_or_ge j k with h|h
   ·exact h
   ·rw[List.getElem?_eq_none (by rw[hk];exact h)]at hu;cases hu
  obtain⟨g',hg,hc⟩:=h.cell ((Qd4 hk xs i hi j hj).trans hu)
  cases hg;exact hc
end
structure QX where
 id:Int
 side:Int
 kind:Int
 price:Int
 qty:Int
def I1 (o:QX):List Value:= [.int .i64 o.id,.int .i64 o.side,.int .i64 o.kind,.int .i64 o.price,.int .i64 o.qty]
def KQ (o:QX):Value:= .agg #[.int .i64 o.id,.int .i64 o.side,.int .i64 o.kind,.int .i64 o.price,.int .i64 o.qty]
def KZ (o:QX):Array Value:= #[.int .i64 o.id,.int .i64 o.side,.int .i64 o.kind,.int .i64 o.price,.int .i64 o.qty]
theorem X9 (o:QX):(I1 o).length=5:=rfl
theorem Je0 (o:QX): ∀u∈I1 o,u.oneCell'=true:=by
 intro u hu
 simp[I1]at hu
 rcases hu with rfl|rfl|rfl|rfl|rfl<;>rfl
section
variable {w:World} {A:Option Addr} {len:Nat} {ps:List QX}
theorem Xe1 {b off:Nat} (h:XZ w I1 5 (some ⟨b,off,none⟩) len ps) {i:Nat} (hi:i<ps.length):
  w.cell? ⟨b,off+i*5,none⟩=some (.int .i64 ps[i].id)∧w.cell? ⟨b,off+i*5+1,none⟩=some (.int .i64 ps[i].side)∧w.cell? ⟨b,off+i*5+2,none⟩=some (.int .i64 ps[i].kind)∧
   w.cell? ⟨b,off+i*5+3,none⟩=some (.int .i64 ps[i].price)∧w.cell? ⟨b,off+i*5+4,none⟩=some (.int .i64 ps[i].qty):=
 ⟨h.at_ hi (j:=0) rfl,h.at_ hi (j:=1) rfl,h.at_ hi (j:=2) rfl,h.at_ hi (j:=3) rfl,h.at_ hi (j:=4) rfl⟩
theorem Qz0 {g n c:Nat} {t:TypeId} (h:QY w (some ⟨g,0,none⟩) n c t 5 (QW I1 ps)) {i:Nat} (hi:i<ps.length):
  w.cell? ⟨g,i*5,none⟩=some (.int .i64 ps[i].id)∧w.cell? ⟨g,i*5+1,none⟩=some (.int .i64 ps[i].side)∧w.cell? ⟨g,i*5+2,none⟩=some (.int .i64 ps[i].kind)∧
   w.cell? ⟨g,i*5+3,none⟩=some (.int .i64 ps[i].price)∧w.cell? ⟨g,i*5+4,none⟩=some (.int .i64 ps[i].qty):=by
 obtain⟨g',hg,hc⟩:=h.elem X9 (by omega) hi
 cases hg
 exact⟨hc 0 _ rfl,hc 1 _ rfl,hc 2 _ rfl,hc 3 _ rfl,hc 4 _ rfl⟩
theorem JW {g:Nat} {t:TypeId} {o:QX} (h:QJ w g t (KZ o)):
  w.cell? ⟨g,0,none⟩=some (.int .i64 o.id)∧w.cell? ⟨g,1,none⟩=some (.int .i64 o.side)∧w.cell? ⟨g,2,none⟩=some (.int .i64 o.kind)∧w.cell? ⟨g,3,none⟩=some (.int .i64 o.price)∧w.cell? ⟨g,4,none⟩=some (.int .i64 o.qty):=
 ⟨by rw[QJ.cell h];rfl,by rw[QJ.cell h];rfl,by rw[QJ.cell h];rfl,by rw[QJ.cell h];rfl,by rw[QJ.cell h];rfl⟩
def U1 (x:Int):Prop:= -9223372036854775808≤x∧x≤9223372036854775807
def Qe5 (o:QX):Prop:=U1 o.id∧U1 o.side∧U1 o.kind∧U1 o.price∧U1 o.qty
end
theorem Qd5 {P:Program} (w:World) (t e ty:TypeId) (z:Value) (k:Nat) (ht:P.underlying t=some (.slice e)) (hv: ∀w,(zeroValue e).run P w= .ok z w) (hk:z.cells.size=k) (hk0:0<k) (h1: ∀v∈z.cells,v.oneCell'=true) (b o n c:Nat) (hn:0<n)
  (hc: ∀j,j<n*k→(w.cell? ⟨b,o+j,none⟩).isSome=true) (hf: ∀j,j<n*k→w.frozen? ⟨b,o+j,none⟩=false):
  ∃vs:List Value,vs.length=n*k∧(Builtin.clear_ #[t] ty #[.slice (some ⟨b,o,none⟩) n c]).run P w= .ok (.tuple #[]) (w.setCells b o vs):=by
 refine⟨(Builtin.zeroCells z.cells n).toList,by simp[Builtin.zeroCells,hk], ?_⟩
 have hone: ∀v∈(Builtin.zeroCells z.cells n).toList,v.oneCell'=true:=by
  intro v hv';simp[Builtin.zeroCells]at hv';obtain⟨i,_,rfl⟩:=hv';have hlt:i % z.cells.size<z.cells.size:=Nat.mod_lt _ (by omega);rw[getElem!_pos z.cells _ hlt];exact h1 _ (Array.getElem_mem hlt)
 have hst:=run_storeCells_cells (P:=P) b o (Builtin.zeroCells z.cells n).toList 0 w (by simpa [Builtin.zeroCells,hk]using hc) (by simpa [Builtin.zeroCells,hk]using hf) hone
 simp only[Nat.add_zero]at hst
 obtain⟨m,rfl⟩: ∃m,n=m+1:=⟨n-1,by omega⟩
 simp[Builtin.clear_,run_underlying ht,hv,hst]
section
variable {w w':World} {n c sz g:Nat} {t:TypeId} {xs:List Value}
theorem QY.set_past (h:QY w (some ⟨g,0,none⟩) n c t sz xs) (j:Nat) (u:Value) (hj:n*sz≤j):QY (w.setCell ⟨g,j,none⟩ u) (some ⟨g,0,none⟩) n c t sz xs:=by
 have h1:=h.set j u
 rwa [List.set_eq_of_length_le (by rw[h.1];exact hj)]at h1
theorem QY.sets_past (vs:List Value): ∀(w:World) (j:Nat),QY w (some ⟨g,0,none⟩) n c t sz xs→n*sz≤j→QY (w.setCells g j vs) (some ⟨g,0,none⟩) n c t sz xs:=by
 induction vs with
 |nil=>intro w j h _;exact h
 |cons v vs ih=>intro w j h hj;exact ih _ (j+1) (h.set_past j v hj) (by omega)
theorem QY.cap (h:QY w (some ⟨g,0,none⟩) n c t sz xs):n≤c∧c≤9223372036854775807:=by
 rcases h.2 with⟨h1,_⟩|⟨g',cap,cur,hv,h1,h2,h3,h4,_⟩
 ·cases h1
 ·cases hv
  unfold maxLen at h4;exact⟨h3,h4⟩
theorem QK.setCells (vs:List Value) (b:Nat): ∀(w:World) (j:Nat),QK (fun i=>i=b) w (w.setCells b j vs):=by
 induction vs with
 |nil=>intro w j;exact QK.refl _ _
 |cons v vs ih=>intro w j;exact(QK.set_ w ⟨b,j,none⟩ v).trans (ih _ (j+1)) (fun i h=> .inl h)
theorem QY.some_ (h:QY w (some ⟨g,0,none⟩) n c t sz xs) {j:Nat} (hj:j<n*sz):(w.cell? ⟨g,j,none⟩).isSome=true:=by
 have hl:j<xs.length:=by rw[h.1];exact hj
 obtain⟨g',hg,hc⟩:=h.cell (List.getElem?_eq_getElem hl)
 cases hg
 rw[hc];rfl
end
abbrev XJ:=Int×Int×Int
def KV (p:XJ):List Value:= [.int .i64 p.1,.int .i64 p.2.1,.int .i64 p.2.2]
def Qv2 (p:XJ):Value:= .agg #[.int .i64 p.1,.int .i64 p.2.1,.int .i64 p.2.2]
theorem JK (p:XJ):(KV p).length=3:=rfl
theorem Qd6 (p:XJ): ∀u∈KV p,u.oneCell'=true:=by
 intro u hu
 simp[KV]at hu
 rcases hu with rfl|rfl|rfl<;>rfl
section
variable {w:World} {A:Option Addr} {len:Nat} {ps:List XJ}
theorem Kw1 {b off:Nat} (h:XZ w KV 3 (some ⟨b,off,none⟩) len ps) {i:Nat} (hi:i<ps.length):
  w.cell? ⟨b,off+i*3,none⟩=some (.int .i64 ps[i].1)∧w.cell? ⟨b,off+i*3+1,none⟩=some (.int .i64 ps[i].2.1)∧w.cell? ⟨b,off+i*3+2,none⟩=some (.int .i64 ps[i].2.2):=
 ⟨h.at_ hi (j:=0) rfl,h.at_ hi (j:=1) rfl,h.at_ hi (j:=2) rfl⟩
theorem Je1 {g n c:Nat} {t:TypeId} (h:QY w (some ⟨g,0,none⟩) n c t 3 (QW KV ps)) {i:Nat} (hi:i<ps.length):
  w.cell? ⟨g,i*3,none⟩=some (.int .i64 ps[i].1)∧w.cell? ⟨g,i*3+1,none⟩=some (.int .i64 ps[i].2.1)∧w.cell? ⟨g,i*3+2,none⟩=some (.int .i64 ps[i].2.2):=by
 obtain⟨g',hg,hc⟩:=h.elem JK (by omega) hi
 cases hg
 exact⟨hc 0 _ rfl,hc 1 _ rfl,hc 2 _ rfl⟩
theorem Qb6 {α:Type} {enc:α→List Value} {k:Nat} (hk: ∀x,(enc x).length=k) (hk0:0<k) {n c:Nat} {t:TypeId} {xs:List α} (h:QY w A n c t k (QW enc xs)):xs.length=n:=by
 have:=h.1
 rw[OJ hk]at this
 exact Nat.eq_of_mul_eq_mul_right hk0 this
end
def YZ (e:Int):Value:=if e=0 then .nilIface else .iface 68 (.int .i64 e)
theorem UV:YZ 0= .nilIface:=rfl
theorem Qp7:YZ 2= .iface 68 (.int .i64 2):=rfl
end Go.Proofs.YtnlngicnfegjgaaGreat
