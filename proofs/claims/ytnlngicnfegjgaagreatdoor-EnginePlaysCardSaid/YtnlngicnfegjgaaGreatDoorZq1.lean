/- Parts. -/
import Derived.Test.YtnlngicnfegjgaaGreatDoorZq0
set_option linter.unusedVariables false
set_option maxRecDepth 100000
set_option maxHeartbeats 8000000
open Go.Value renaming int→I,pointer→IP
open Go.IntKind renaming i64→O
namespace Go.Proofs.YtnlngicnfegjgaaGreatDoor
open Go.RowKit
theorem Q0 {p} (h:p):Hid p:=h
theorem T2 {a b} (h:a=b):Ending.returned (.bool a)=Ending.returned (.bool b):=by rw[h]
theorem T3 {k a b} (h:a=b):Ending.returned (.int k a)= .returned (.int k b):=by rw[h]
theorem Nf {a b c d v} (h:a=c) (k:b=d):Ending.returned (.tuple #[I O a,I O b,v])= .returned (.tuple #[I O c,I O d,v]):=by rw[h,k]
theorem X3 {a b:Int} (h:a≠b):(a ==b)=false:=beq_eq_false_iff_ne.2 h
theorem Z0 {a b:Int} (h:a=b):(a ==b)=true:=beq_iff_eq.2 h
theorem JW {a b:Int} (h:a=b):(a != b)=false:=by simp[h]
theorem JF {a b:Int} (h:a≠b):(a != b)=true:=by simp[h]
theorem Z1 {p} [Decidable p] (h: ¬p):decide p=false:=PP h
theorem Z5 {p} [Decidable p] (h:p):decide p=true:=EC h
theorem U7 {B w w1} (h:Below B w w1) n:Below B w (w1.drewN n):=⟨h.os,h.tape,h.output,h.size,h.block⟩
section
open Go.ChangeShapes Go.Deep Go.WideShapes
def GH (w:World) (m:Nat) (A:Option Addr) (len cap:Nat) (rows:List (List Int)):Prop:=
 rows.length=len/\len<=cap/\cap<=maxLen/\(∀r∈rows,r.length=m/\ ∀x∈r,-9223372036854775808<=x/\x<=9223372036854775807)/\
 (A=none->len=0/\cap=0)/\
 (0<len-> ∃b off,A=some ⟨b,off,none⟩/\b<w.heap.size/\ ∀i (hi:i<rows.length) j (hj:j<rows[i].length),w.cell? ⟨b,off+i*m+j,none⟩=some (I O rows[i][j]))
def NR (P:Program):Nat->TypeId->Nat->Bool
 |0,_,_=>false
 |n+1,t,i=>match P.underlying t with
  |some (.int .i64)=>i ==0
  |some (.struct fs)=>fs.toList.any fun f=>decide (f.offset<=i) &&decide (i<f.offset+P.cellsOf f.type) &&NR P n f.type (i-f.offset)
  |_=>false
section
variable {H:Type} {enc:TypeId×Value->H} {P:Program} {w:World} {base:Nat} {spare:Nat->Bool} {held:Bool}
theorem Ya: ∀(n:Nat) (t:TypeId) (i fuel:Nat) (cs:List Value) (x:DataW H×List MemPlace),NR P n t i=true->DataW.trod enc P w base spare held fuel t cs=some x->
  ∃z,cs[i]?=some (.int .i64 z)/\ -9223372036854775808<=z/\z<=9223372036854775807
 |0,_,_,_,_,_,h,_=>by simp[NR]at h
 |n+1,t,i,fuel,cs,x,h,ht=>by
  unfold NR at h
  split at h
  ·rename_i hu
   obtain⟨z,rfl,_,hw⟩:=DataW.trod_int hu ht;have:i=0:=by simpa using h
   subst this;exact⟨z,rfl,bounds_i64 hw⟩
  ·rename_i fs hu
   obtain⟨xs,m,_,_,hl,hxl,hf⟩:=DataW.trod_struct hu ht;rw[TF]at h;obtain⟨f,hfm,hc⟩:=h;simp only[Bool.and_eq_true,decide_eq_true_eq]at hc;obtain⟨⟨h1,h2⟩,h3⟩:=hc;obtain⟨j,hj,rfl⟩:=XG.1 hfm;have hj':j<fs.size:=by simpa using hj
   have e:=hf j fs[j] (by simp[hj']);have hx:xs[j]?=some (xs[j]'(by omega)):=KP (by omega);simp only[Array.getElem_toList]at h1 h2 h3;rw[hx]at e;obtain⟨z,hz,hb⟩:=Ya n _ _ _ _ _ h3 e;refine⟨z, ?_,hb⟩;rw[PC,FS]at hz
   split at hz
   ·rw[<-hz];congr 1;omega
   simp at hz
  simp at h
theorem Lj {a:Addr} {i} (j:a.spot=none):a.add i=⟨a.block,a.off+i,none⟩:=by
 unfold Addr.add
 split
 ·rename_i h
  subst h
  cases a;simp at j;simp[j]
 rfl
theorem Zz {st et m A len cap d p} (ht:P.underlying st=some (.slice et)) (hm:P.cellsOf et=m)
  (a1:((List.range m).all fun i=>NR P 5 et i)=true) (a7:0<m) (h:DataW.Trod enc P w base spare held st (.slice A len cap) d p): ∃rows,GH w m A len cap rows:=by
 obtain⟨fuel,hf⟩:=h
 rcases open_slice ht hf with⟨v,_⟩|⟨a,b5,b2,mm,n,D,Pl,v,y,hl,a9,a5,_,hi⟩
 ·simp[Value.cells]at v
  obtain⟨rfl,rfl,rfl⟩:=v;exact⟨[],rfl,Q4 _,V5 _,by simp,fun _=>⟨rfl,rfl⟩,fun h=>absurd h (by omega)⟩
 simp[Value.cells]at v
 obtain⟨rfl,rfl,rfl⟩:=v
 subst hm
 have b1:len<=mm:=by rw[a5];split<;>omega
 have key: ∀i,i<len-> ∀j,j<P.cellsOf et-> ∃z,w.cell? ((a.add (i*P.cellsOf et)).add j)=some (.int .i64 z)/\ -9223372036854775808<=z/\z<=9223372036854775807:=by
  intro i E j u;obtain⟨a3,hc,b0⟩:=hi i (by omega);obtain⟨_,b8,a8⟩:=World.cells?_some hc;have a4:NR P 5 et j=true:=by
   rw[LD]at a1;exact a1 j (by simpa using u)
  obtain⟨z,C,y⟩:=Ya 5 et j n a3 _ a4 b0;exact⟨z,by rw[a8 j u,C],y⟩
 let Z:Nat->Nat->Int:=fun i j=>match w.cell? ((a.add (i*P.cellsOf et)).add j)with|some (.int _ z)=>z|_=>0
 have N: ∀i,i<len-> ∀j,j<P.cellsOf et->w.cell? ((a.add (i*P.cellsOf et)).add j)=some (.int .i64 (Z i j))/\ -9223372036854775808<=Z i j/\Z i j<=9223372036854775807:=by
  intro i E j u;obtain⟨z,C,y⟩:=key i E j u;have:Z i j=z:=by simp only[Z,C]
  rw[this];exact⟨C,y⟩
 refine⟨(List.range len).map fun i=>(List.range (P.cellsOf et)).map (Z i),by simp,hl,a9, ?_,by simp, ?_⟩
 ·intro r hr
  obtain⟨i,E,rfl⟩:=U4.1 hr;refine⟨by simp,fun x hx=> ?_⟩;obtain⟨j,u,rfl⟩:=U4.1 hx;exact(N i (by simpa using E) j (by simpa using u)).2
 intro a6
 have J:=(N 0 a6 0 a7).1
 have e0:(a.add (0*P.cellsOf et)).add 0=a:=by simp[Addr.add]
 rw[e0]at J
 have U:a.spot=none:=World.cell?_spot J
 refine⟨a.block,a.off, ?_,V6 w a J, ?_⟩
 ·cases a;simp at U;rw[U]
 intro i a2 j a0
 simp only[List.length_map,List.length_range]at a2
 simp only[List.getElem_map,List.getElem_range,List.length_map,List.length_range]at a0|-
 rw[<-(N i a2 j a0).1,Lj U,Lj rfl]
end
end
def Q1 (w:World) (g:Nat) (t:TypeId) (cs:Array Value):Prop:=w.heap[g]?=some (.cells cs t (0,0))
section
variable {w w':World} {g:Nat} {t:TypeId} {cs:Array Value}
theorem Q1.lt (h:Q1 w g t cs):g<w.heap.size:=by
 rcases ED g w.heap.size with j|i
 ·exact j
 unfold Q1 at h;rw[Zm i]at h;cases h
abbrev J5:=@Q1.lt
theorem Q1.cell (h:Q1 w g t cs) i:w.cell? ⟨g,i,none⟩=cs[i]?:=cell_of_row w g i cs t (0,0) h
abbrev J0:=@Q1.cell
theorem Q1.frozen (h:Q1 w g t cs) i:w.frozen? ⟨g,i,none⟩=false:=by
 unfold Q1 at h
 simp[World.frozen?,h]
abbrev J1:=@Q1.frozen
theorem Q1.new (w:World) t cs:Q1 (w.alloc (.cells cs t)) w.heap.size t cs:=S5 w _
abbrev J9:=@Q1.new
theorem Q1.drew (h:Q1 w g t cs):Q1 w.drew g t cs:=h
abbrev Z2:=@Q1.drew
theorem Q1.drewN (h:Q1 w g t cs) n:Q1 (w.drewN n) g t cs:=h
abbrev P9:=@Q1.drewN
theorem Q1.alloc (h:Q1 w g t cs) o:Q1 (w.alloc o) g t cs:=(Below.heap_alloc w o g h.lt).trans h
abbrev G7:=@Q1.alloc
theorem Q1.set_ (h:Q1 w g t cs) i u:Q1 (w.setCell ⟨g,i,none⟩ u) g t (cs.setIfInBounds i u):=by
 unfold Q1 at h|-
 simp[World.setCell,Array.getElem?_modify,h]
abbrev J7:=@Q1.set_
theorem Q1.far (h:Q1 w g t cs) {p} (hp:g≠p.block) u:Q1 (w.setCell p u) g t cs:=(Below.heap_setCell w p u g hp).trans h
abbrev XP:=@Q1.far
theorem Q1.below {B} (h:Q1 w g t cs) (j:Below B w w') (i:g<B):Q1 w' g t cs:=(j.block g i).trans h
theorem Q1.keep (h:Q1 w g t cs) (i:Below w.heap.size w w'):Q1 w' g t cs:=h.below i h.lt
abbrev J4:=@Q1.keep
theorem Q1.grown {row} (h:Q1 w g t cs) (j:w.grownBy w' row) (i:some g≠row):Q1 w' g t cs:=(j.block g h.lt i).trans h
theorem Q1.of_block (h:Q1 w g t cs) (i:w'.heap[g]?=w.heap[g]?):Q1 w' g t cs:=i.trans h
abbrev YT:=@Q1.of_block
end
structure Q6 (S:Nat->Prop) (w w':World):Prop where
 os:w'.os=w.os
 tape:w'.tape=w.tape
 output:w'.output=w.output
 size:w.heap.size<=w'.heap.size
 block: ∀k,k<w.heap.size-> ¬S k->w'.heap[k]?=w.heap[k]?
section
variable {S S':Nat->Prop} {w w' w1 w2:World}
theorem Q6.refl S w:Q6 S w w:=⟨rfl,rfl,rfl,Q4 _,fun _ _ _=>rfl⟩
theorem Q6.trans (h:Q6 S w w1) (k:Q6 S' w1 w2) (y: ∀i,S' i->S i\/w.heap.size<=i):Q6 S w w2:=
 ⟨k.os.trans h.os,k.tape.trans h.tape,k.output.trans h.output,G0 h.size k.size,fun i j u=>
  (k.block i (T8 j h.size) (fun v=>(y i v).elim u (fun C=>absurd j (by omega)))).trans (h.block i j u)⟩
theorem Q6.mono (h:Q6 S w w1) (u: ∀i,S i->S' i):Q6 S' w w1:=⟨h.os,h.tape,h.output,h.size,fun i y v=>h.block i y (fun j=>v (u i j))⟩
theorem Q6.of_below (h:Below w.heap.size w w1) S:Q6 S w w1:=⟨h.os,h.tape,h.output,h.size,fun i j _=>h.block i j⟩
abbrev U1:=@Q6.of_below
theorem Q6.then_ (h:Q6 S w w1) (k:Below w1.heap.size w1 w2):Q6 S w w2:=h.trans (U1 k (fun _=>False)) (fun _ h=>h.elim)
theorem Q6.after (h:Below w.heap.size w w1) (k:Q6 S w1 w2):Q6 S w w2:=(U1 h S).trans k (fun _ h=> .inl h)
theorem Q6.set_ w p v:Q6 (fun i=>i=p.block) w (w.setCell p v):=⟨rfl,rfl,rfl,by simp[World.setCell],fun i _ j=>Below.heap_setCell w p v i j⟩
abbrev V2:=@Q6.set_
theorem Q6.below {B} (h:Q6 S w w1) (u: ∀i,S i->B<=i) (v:B<=w.heap.size):Below B w w1:=⟨h.os,h.tape,h.output,h.size,fun i y=>h.block i (by omega) (fun j=>by have:=u i j;omega)⟩
theorem Q6.cell (h:Q6 S w w1) {p} (hp:p.block<w.heap.size) (i: ¬S p.block):w1.cell? p=w.cell? p:=World.cell?_of_block (h.block _ hp i)
theorem Q6.frozen (h:Q6 S w w1) {p} (hp:p.block<w.heap.size) (i: ¬S p.block):w1.frozen? p=w.frozen? p:=World.frozen?_of_block (h.block _ hp i)
theorem Q1.keeps {g t cs} (h:Q1 w g t cs) (hk:Q6 S w w1) (i: ¬S g):Q1 w1 g t cs:=(hk.block g h.lt i).trans h
abbrev X0:=@Q1.keeps
end
def J2 (w:World) (A:Option Addr) (n c:Nat) (t:TypeId) (sz:Nat) (xs:List Value):Prop:=w.ownsRow 0 t sz (.slice A n c) n xs
def Q7 (A:Option Addr):Option Nat:=A.map (·.block)
theorem A7 A n c:(Value.slice A n c).ownBlock=Q7 A:=by cases A<;>rfl
theorem Fu {w:World} {base e size v n xs} (h:w.ownsRow base e size v n xs):w.ownsRow 0 e size v n xs:=by
 refine⟨h.1, ?_⟩
 rcases h.2 with h1|⟨g,cap,j,h1,h2,i⟩
 ·exact .inl h1
 exact .inr ⟨g,cap,j,h1,V5 _,i⟩
theorem J2.cell {w A n c sz t xs} (h:J2 w A n c t sz xs) {j u} (i:xs[j]?=some u):
  ∃g,A=some ⟨g,0,none⟩/\w.cell? ⟨g,j,none⟩=some u:=by
 rcases h.2 with⟨_,y⟩|⟨g,cap,E,D,_⟩
 ·have C:=h.1
  rw[y]at C;rw[DV (by omega)]at i
  cases i
 cases D
 refine⟨g,rfl, ?_⟩
 have:=World.ownsRow.cells h (g:=g) rfl j u i
 have v:(⟨g,0,none⟩:Addr).add j=⟨g,j,none⟩:=by unfold Addr.add;split<;>simp_all
 rw[v]at this
 exact this
section
variable {w w':World} {A:Option Addr} {n c sz:Nat} {t:TypeId} {xs:List Value}
theorem J2.lt (h:J2 w A n c t sz xs) {g} (i:Q7 A=some g):g<w.heap.size:=(World.ownsRow.lt h g (by rw[A7];exact i)).2
theorem J2.of_block (h:J2 w A n c t sz xs) (j: ∀g,Q7 A=some g->w'.heap[g]?=w.heap[g]?):J2 w' A n c t sz xs:=by
 refine⟨h.1, ?_⟩
 rcases h.2 with h1|⟨g,cap,v,u,h1,h2,i⟩
 ·exact .inl h1
 cases u
 exact .inr ⟨g,c,v,rfl,h1,(j g rfl).trans h2,i⟩
theorem J2.keeps {S} (h:J2 w A n c t sz xs) (hk:Q6 S w w') (j: ∀g,Q7 A=some g-> ¬S g):J2 w' A n c t sz xs:=
 h.of_block fun g i=>hk.block g (h.lt i) (j g i)
theorem J2.below (h:J2 w A n c t sz xs) (j:Below w.heap.size w w'):J2 w' A n c t sz xs:=h.of_block fun g i=>j.block g (h.lt i)
theorem J2.set {g} (h:J2 w (some ⟨g,0,none⟩) n c t sz xs) j u:J2 (w.setCell ⟨g,j,none⟩ u) (some ⟨g,0,none⟩) n c t sz (xs.set j u):=(World.ownsRow.stored h j u).1
theorem J2.frozen {g} (h:J2 w (some ⟨g,0,none⟩) n c t sz xs) j:w.frozen? ⟨g,j,none⟩=false:=World.ownsRow.frozenAt h j
theorem J2.pop {g} (h:J2 w (some ⟨g,0,none⟩) n c t sz xs) m (D:m<=n):J2 w (some ⟨g,0,none⟩) m c t sz (xs.take (m*sz)):=by
 have J:=h.1
 have i:m*sz<=n*sz:=LU _ D
 refine⟨by simp;omega, ?_⟩
 rcases h.2 with⟨h1,_⟩|⟨N,cap,y,v,h1,h2,E,C,u,j⟩
 ·cases h1
 cases v
 exact .inr ⟨g,c,y,rfl,h1,h2,by omega,C,u,by rw[<-j,Jl,PR i]⟩
end
section
variable {α:Type}
def Q9 (enc:α->List Value) (xs:List α):List Value:=xs.flatMap enc
theorem RY enc (x:α) xs:Q9 enc (x::xs)=enc x++Q9 enc xs:=rfl
theorem DB enc (xs ys:List α):Q9 enc (xs++ys)=Q9 enc xs++Q9 enc ys:=by simp[Q9]
theorem UE enc xs (y:α):Q9 enc (xs++ [y])=Q9 enc xs++enc y:=by simp[Q9]
theorem YV {enc k} (hk: ∀x,(enc x).length=k) (xs:List α):(Q9 enc xs).length=xs.length*k:=by
 induction xs with
 |nil=>simp[Q9]
 |cons x xs i=>rw[RY,Y9,i,hk,XX,GX];omega
theorem EM {enc k} (hk: ∀x,(enc x).length=k) (xs:List α): ∀i (u:i<xs.length) j,j<k->(Q9 enc xs)[i*k+j]?=(enc xs[i])[j]?:=by
 induction xs with
 |nil=>intro i u;simp at u
 |cons x xs y=>
  intro i u j v;rw[RY]
  cases i with
  |zero=>rw[Nat.zero_mul,QQ,List.getElem?_append_left (by rw[hk];exact v)];rfl
  |succ i=>
   rw[SW (by rw[hk,GX];omega),hk,show(i+1)*k+j-k=i*k+j by rw[GX];omega];exact y i (by simpa using u) j v
theorem LP {enc} (h1: ∀x,∀u∈enc x,u.oneCell'=true) (xs:List α): ∀u∈Q9 enc xs,u.oneCell'=true:=by
 intro u i
 obtain⟨x,_,h⟩:=FT.1 i
 exact h1 x u h
def UG:List Value->Nat->List Value->List Value
 |l,_,[]=>l
 |l,p,v::vs=>UG (l.set p v) (p+1) vs
theorem Bi vs: ∀l pre q,UG (pre++l) (pre.length+q) vs=pre++UG l q vs:=by
 induction vs with
 |nil=>intro l pre q;rfl
 |cons v vs i=>
  intro l pre q;have e:(pre++l).set (pre.length+q) v=pre++l.set q v:=by rw[List.set_append,Q3 (by omega),show pre.length+q-pre.length=q by omega]
  rw[UG,UG,e,Nat.add_assoc,i]
theorem Ta i: ∀l rest,l.length=i.length->UG (l++rest) 0 i=i++rest:=by
 induction i with
 |nil=>intro l rest h;simp at h;subst h;rfl
 |cons v i j=>
  intro l rest h
  cases l with
  |nil=>simp at h
  |cons a l=>
   have u:l.length=i.length:=by simpa using h
   rw[UG];show UG ([v]++(l++rest)) ([v].length+0) i=_;rw[Bi,j l rest u];rfl
theorem NY {enc k} (hk: ∀x,(enc x).length=k) (y:α) xs: ∀i,i<xs.length->UG (Q9 enc xs) (i*k) (enc y)=Q9 enc (xs.set i y):=by
 induction xs with
 |nil=>intro i j;simp at j
 |cons x xs u=>
  intro i j;rw[RY]
  cases i with
  |zero=>rw[Nat.zero_mul,Ta _ _ _ (by rw[hk,hk])];rfl
  |succ i=>
   have e:(i+1)*k=(enc x).length+i*k:=by rw[hk,GX];omega
   rw[e,Bi,u i (by simpa using j)];rfl
theorem Xk {enc k} (hk: ∀x,(enc x).length=k) (xs:List α): ∀m,(Q9 enc xs).take (m*k)=Q9 enc (xs.take m):=by
 induction xs with
 |nil=>intro m;simp[Q9]
 |cons x xs i=>
  intro m
  cases m with
  |zero=>simp[Q9]
  |succ m=>rw[RY,List.take_succ_cons,RY,List.take_append,hk,N7 (by rw[hk,GX];omega),show(m+1)*k-k=m*k by rw[GX];omega,i]
def V4 (w:World) (enc:α->List Value) (k:Nat) (A:Option Addr) (len:Nat) (xs:List α):Prop:=
 xs.length=len/\(0<len-> ∃b off,A=some ⟨b,off,none⟩/\b<w.heap.size/\ ∀i (hi:i<xs.length) j u,(enc xs[i])[j]?=some u->w.cell? ⟨b,off+i*k+j,none⟩=some u)
variable {w w':World} {enc:α->List Value} {k:Nat} {A:Option Addr} {len:Nat} {xs:List α}
theorem V4.below {B} (h:V4 w enc k A len xs) (v:Below B w w') (hB:w.heap.size<=B):V4 w' enc k A len xs:=by
 refine⟨h.1,fun C=> ?_⟩
 obtain⟨b,y,J,U,E⟩:=h.2 C
 have Z:=v.size
 exact⟨b,y,J,by omega,fun i N j u D=>(v.cell (p:=⟨b,_,none⟩) (by show b<B;omega)).trans (E i N j u D)⟩
theorem V4.keeps {S} (h:V4 w enc k A len xs) (hk:Q6 S w w') (y: ∀g,Q7 A=some g-> ¬S g):V4 w' enc k A len xs:=by
 refine⟨h.1,fun D=> ?_⟩
 obtain⟨b,C,rfl,v,J⟩:=h.2 D
 have U:=hk.size
 exact⟨b,C,rfl,by omega,fun i N j u E=>(hk.cell (p:=⟨b,_,none⟩) v (y b rfl)).trans (J i N j u E)⟩
theorem V4.at_ {b off} (h:V4 w enc k (some ⟨b,off,none⟩) len xs) {i} (E:i<xs.length) {j u} (C:(enc xs[i])[j]?=some u):w.cell? ⟨b,off+i*k+j,none⟩=some u:=by
 have y:0<len:=by have:=h.1;omega
 obtain⟨J,N,v,_,D⟩:=h.2 y
 cases v
 exact D i E j u C
theorem BX b o j:(⟨b,o,none⟩:Addr).add j=⟨b,o+j,none⟩:=by
 unfold Addr.add
 split
 ·rename_i h;subst h;rfl
 rfl
theorem V4.news {b off} (hk: ∀x,(enc x).length=k) (h:V4 w enc k (some ⟨b,off,none⟩) len xs): ∀j u,(Q9 enc xs)[j]?=some u->w.cell? ((⟨b,off,none⟩:Addr).add j)=some u:=by
 intro j u i
 have C:j<xs.length*k:=by
  rw[<-YV hk];rcases ED j (Q9 enc xs).length with h|h
  ·exact h
  rw[DV h]at i;cases i
 have v:0<k:=by
  rcases Nat.eq_zero_or_pos k with h|h
  ·subst h;omega
  exact h
 have y:j/k<xs.length:=(Nat.div_lt_iff_lt_mul v).2 C
 have D:j % k<k:=Nat.mod_lt _ v
 have e:j/k*k+j % k=j:=by have:=Nat.div_add_mod j k;rw[Nat.mul_comm]at this;omega
 rw[BX,<-e,<-Nat.add_assoc]
 exact h.at_ y (by rw[<-EM hk xs _ y _ D,e];exact i)
theorem V4.of_row {n c t} (hk: ∀x,(enc x).length=k) (E:0<k) (h:J2 w A n c t k (Q9 enc xs)):V4 w enc k A n xs:=by
 have J:xs.length=n:=by
  have:=h.1;rw[YV hk]at this;exact Nat.eq_of_mul_eq_mul_right E this
 refine⟨J,fun Z=> ?_⟩
 rcases h.2 with⟨_,h0⟩|⟨g,cap,a0,C,_⟩
 ·omega
 cases C
 refine⟨g,0,rfl,h.lt rfl,fun i U j u v=> ?_⟩
 have D:j<k:=by
  rcases ED j k with h|h
  ·exact h
  rw[DV (by rw[hk];exact h)]at v;cases v
 obtain⟨g',y,N⟩:=h.cell ((EM hk xs i U j D).trans v)
 cases y
 rw[QQ]
 exact N
abbrev VV:=@V4.of_row
theorem J2.elem {n c t} (hk: ∀x,(enc x).length=k) (a0:0<k) (h:J2 w A n c t k (Q9 enc xs)) {i} (U:i<xs.length): ∃g,A=some ⟨g,0,none⟩/\ ∀j u,(enc xs[i])[j]?=some u->w.cell? ⟨g,i*k+j,none⟩=some u:=by
 rcases h.2 with⟨_,C⟩|⟨g,cap,Z,E,_⟩
 ·have:=h.1
  rw[YV hk,C]at this;have h2:xs.length*k=0:=by omega
  rcases Nat.mul_eq_zero.1 h2 with y|y
  ·omega
  omega
 cases E
 refine⟨g,rfl,fun j u v=> ?_⟩
 have J:j<k:=by
  rcases ED j k with h|h
  ·exact h
  rw[DV (by rw[hk];exact h)]at v;cases v
 obtain⟨g',D,N⟩:=h.cell ((EM hk xs i U j J).trans v)
 cases D
 exact N
end
structure Q8 where
 id:Int
 side:Int
 kind:Int
 price:Int
 qty:Int
def X9 (o:Q8):List Value:= [I O o.id,I O o.side,I O o.kind,I O o.price,I O o.qty]
def X5 (o:Q8):Value:= .agg #[I O o.id,I O o.side,I O o.kind,I O o.price,I O o.qty]
def J8 (o:Q8):Array Value:= #[I O o.id,I O o.side,I O o.kind,I O o.price,I O o.qty]
theorem H6 o:(X9 o).length=5:=rfl
theorem JK o: ∀u∈X9 o,u.oneCell'=true:=by
 intro u i
 simp[X9]at i
 rcases i with rfl|rfl|rfl|rfl|rfl<;>rfl
section
variable {w:World} {A:Option Addr} {len:Nat} {ps:List Q8}
theorem CW {b off} (h:V4 w X9 5 (some ⟨b,off,none⟩) len ps) {i} (u:i<ps.length):
  w.cell? ⟨b,off+i*5,none⟩=some (I O ps[i].id)/\w.cell? ⟨b,off+i*5+1,none⟩=some (I O ps[i].side)/\w.cell? ⟨b,off+i*5+2,none⟩=some (I O ps[i].kind)/\
   w.cell? ⟨b,off+i*5+3,none⟩=some (I O ps[i].price)/\w.cell? ⟨b,off+i*5+4,none⟩=some (I O ps[i].qty):=
 ⟨h.at_ u (j:=0) rfl,h.at_ u (j:=1) rfl,h.at_ u (j:=2) rfl,h.at_ u (j:=3) rfl,h.at_ u (j:=4) rfl⟩
theorem BZ {g n c t} (h:J2 w (some ⟨g,0,none⟩) n c t 5 (Q9 X9 ps)) {i} (v:i<ps.length):
  w.cell? ⟨g,i*5,none⟩=some (I O ps[i].id)/\w.cell? ⟨g,i*5+1,none⟩=some (I O ps[i].side)/\w.cell? ⟨g,i*5+2,none⟩=some (I O ps[i].kind)/\
   w.cell? ⟨g,i*5+3,none⟩=some (I O ps[i].price)/\w.cell? ⟨g,i*5+4,none⟩=some (I O ps[i].qty):=by
 obtain⟨y,u,j⟩:=h.elem H6 (by omega) v
 cases u
 exact⟨j 0 _ rfl,j 1 _ rfl,j 2 _ rfl,j 3 _ rfl,j 4 _ rfl⟩
theorem Z6 {g t o} (h:Q1 w g t (J8 o)):
  w.cell? ⟨g,0,none⟩=some (I O o.id)/\w.cell? ⟨g,1,none⟩=some (I O o.side)/\w.cell? ⟨g,2,none⟩=some (I O o.kind)/\w.cell? ⟨g,3,none⟩=some (I O o.price)/\w.cell? ⟨g,4,none⟩=some (I O o.qty):=
 ⟨by rw[J0 h];rfl,by rw[J0 h];rfl,by rw[J0 h];rfl,by rw[J0 h];rfl,by rw[J0 h];rfl⟩
def G8 (x:Int):Prop:= -9223372036854775808<=x/\x<=9223372036854775807
def R9 (o:Q8):Prop:=G8 o.id/\G8 o.side/\G8 o.kind/\G8 o.price/\G8 o.qty
end
theorem TM {P} w t e U z k (ht:P.underlying t=some (.slice e)) (E: ∀w,(zeroValue e).run P w= .ok z w) (hk:z.cells.size=k) (a0:0<k) (h1: ∀v∈z.cells,v.oneCell'=true) b o n c (hn:0<n)
  (N: ∀j,j<n*k->(w.cell? ⟨b,o+j,none⟩).isSome=true) (Z: ∀j,j<n*k->w.frozen? ⟨b,o+j,none⟩=false):
  ∃u,u.length=n*k/\(Builtin.clear_ #[t] U #[.slice (some ⟨b,o,none⟩) n c]).run P w= .ok (.tuple #[]) (w.setCells b o u):=by
 refine⟨(Builtin.zeroCells z.cells n).toList,by simp[Builtin.zeroCells,hk], ?_⟩
 have J: ∀v∈(Builtin.zeroCells z.cells n).toList,v.oneCell'=true:=by
  intro v C;simp[Builtin.zeroCells]at C;obtain⟨i,_,rfl⟩:=C;have y:i % z.cells.size<z.cells.size:=Nat.mod_lt _ (by omega);rw[getElem!_pos z.cells _ y];exact h1 _ (Array.getElem_mem y)
 have D:=run_storeCells_cells (P:=P) b o (Builtin.zeroCells z.cells n).toList 0 w (by simpa [Builtin.zeroCells,hk]using N) (by simpa [Builtin.zeroCells,hk]using Z) J
 simp only[Nat.add_zero]at D
 obtain⟨m,rfl⟩: ∃m,n=m+1:=⟨n-1,by omega⟩
 simp[Builtin.clear_,run_underlying ht,E,D]
section
variable {w w':World} {n c sz g:Nat} {t:TypeId} {xs:List Value}
theorem J2.set_past (h:J2 w (some ⟨g,0,none⟩) n c t sz xs) j u (i:n*sz<=j):J2 (w.setCell ⟨g,j,none⟩ u) (some ⟨g,0,none⟩) n c t sz xs:=by
 have h1:=h.set j u
 rwa [List.set_eq_of_length_le (by rw[h.1];exact i)]at h1
theorem J2.sets_past i: ∀w j,J2 w (some ⟨g,0,none⟩) n c t sz xs->n*sz<=j->J2 (w.setCells g j i) (some ⟨g,0,none⟩) n c t sz xs:=by
 induction i with
 |nil=>intro w j h _;exact h
 |cons v i u=>intro w j h y;exact u _ (j+1) (h.set_past j v y) (by omega)
abbrev Je:=@J2.sets_past
theorem J2.cap (h:J2 w (some ⟨g,0,none⟩) n c t sz xs):n<=c/\c<=9223372036854775807:=by
 rcases h.2 with⟨h1,_⟩|⟨v,cap,y,u,h1,h2,j,i,_⟩
 ·cases h1
 cases u
 unfold maxLen at i
 exact⟨j,i⟩
theorem Q6.setCells u b: ∀w j,Q6 (fun i=>i=b) w (w.setCells b j u):=by
 induction u with
 |nil=>intro w j;exact Q6.refl _ _
 |cons v u y=>intro w j;exact(V2 w ⟨b,j,none⟩ v).trans (y _ (j+1)) (fun i h=> .inl h)
abbrev DU:=@Q6.setCells
theorem J2.some_ (h:J2 w (some ⟨g,0,none⟩) n c t sz xs) {j} (y:j<n*sz):(w.cell? ⟨g,j,none⟩).isSome=true:=by
 have i:j<xs.length:=by rw[h.1];exact y
 obtain⟨C,u,v⟩:=h.cell (KP i)
 cases u
 rw[v];rfl
end
abbrev X4:=Int×Int×Int
def X8 (p:X4):List Value:= [I O p.1,I O p.2.1,I O p.2.2]
def QX (p:X4):Value:= .agg #[I O p.1,I O p.2.1,I O p.2.2]
theorem E6 p:(X8 p).length=3:=rfl
theorem EN p: ∀u∈X8 p,u.oneCell'=true:=by
 intro u i
 simp[X8]at i
 rcases i with rfl|rfl|rfl<;>rfl
section
variable {w:World} {A:Option Addr} {len:Nat} {ps:List X4}
theorem Kl {b off} (h:V4 w X8 3 (some ⟨b,off,none⟩) len ps) {i} (u:i<ps.length):
  w.cell? ⟨b,off+i*3,none⟩=some (I O ps[i].1)/\w.cell? ⟨b,off+i*3+1,none⟩=some (I O ps[i].2.1)/\w.cell? ⟨b,off+i*3+2,none⟩=some (I O ps[i].2.2):=
 ⟨h.at_ u (j:=0) rfl,h.at_ u (j:=1) rfl,h.at_ u (j:=2) rfl⟩
theorem NG {g n c t} (h:J2 w (some ⟨g,0,none⟩) n c t 3 (Q9 X8 ps)) {i} (v:i<ps.length):
  w.cell? ⟨g,i*3,none⟩=some (I O ps[i].1)/\w.cell? ⟨g,i*3+1,none⟩=some (I O ps[i].2.1)/\w.cell? ⟨g,i*3+2,none⟩=some (I O ps[i].2.2):=by
 obtain⟨y,u,j⟩:=h.elem E6 (by omega) v
 cases u
 exact⟨j 0 _ rfl,j 1 _ rfl,j 2 _ rfl⟩
theorem YW {α enc k} (hk: ∀x,(enc x).length=k) (i:0<k) {n c t} {xs:List α} (h:J2 w A n c t k (Q9 enc xs)):xs.length=n:=by
 have:=h.1
 rw[YV hk]at this
 exact Nat.eq_of_mul_eq_mul_right i this
end
def U0 (e:Int):Value:=if e=0 then .nilIface else .iface 52 (I O e)
theorem BJ:U0 0= .nilIface:=rfl
theorem RE:U0 2= .iface 52 (I O 2):=rfl
section
open Go.ChangeMaps
structure BY (w w':World) (r:Nat):Prop where
 os:w'.os=w.os
 tape:w'.tape=w.tape
 output:w'.output=w.output
 size:w'.heap.size=w.heap.size
 block: ∀k,k≠r->w'.heap[k]?=w.heap[k]?
theorem BY.grown {w w' r} (h:BY w w' r):w.grownBy w' (some r):=
 ⟨h.os,h.tape,h.output,YZ h.size.symm,fun k _ hk=>h.block k (fun e=>hk (by rw[e]))⟩
theorem BY.below {w w' r B} (h:BY w w' r) (i:B<=r):Below B w w':=
 ⟨h.os,h.tape,h.output,YZ h.size.symm,fun k hk=>h.block k (by omega)⟩
theorem BY.cell {w w' r} (h:BY w w' r) {p} (hp:p.block≠r):w'.cell? p=w.cell? p:=World.cell?_of_block (h.block _ hp)
theorem PN w r o:BY w (setBlock w r o) r:=
 ⟨rfl,rfl,rfl,by simp[setBlock],fun k hk=>by simp only[setBlock];rw[UB (by omega)]⟩
def Aw (kd:TypeDesc):Prop:=(∃q,kd= .int q)\/kd= .string\/kd= .bool
theorem CR {q}:Aw (.int q):= .inl ⟨q,rfl⟩
def R8 (w:World) (r:Nat) (es:List MapEntry) (c:Nat):Prop:=w.heap[r]?=some (.map es.toArray c)
section
variable {w w':World} {r c:Nat} {es:List MapEntry}
theorem R8.lt (h:R8 w r es c):r<w.heap.size:=(PU.1 h).1
theorem R8.of_block (h:R8 w r es c) (i:w'.heap[r]?=w.heap[r]?):R8 w' r es c:=i.trans h
theorem R8.kept {row} (h:R8 w r es c) (j:w.grownBy w' row) (i:some r≠row):R8 w' r es c:=(j.block r h.lt i).trans h
theorem R8.alloc (h:R8 w r es c) o:R8 (w.alloc o) r es c:=h.kept (World.grownBy_alloc w o none) (by simp)
theorem R8.made (w:World):R8 (w.alloc (.map #[] 0)) w.heap.size [] 0:=S5 w _
theorem R8.below {B} (h:R8 w r es c) (i:Below B w w') (j:r<B):R8 w' r es c:=(i.block r j).trans h
theorem R8.set (h:R8 w r es c) i c':R8 (setBlock w r (.map i.toArray c')) r i c':=by
 have:=h.lt
 simp only[R8,setBlock]
 rw[SS this]
end
def NW (kd:TypeDesc) (k:Value) (es:List MapEntry):Option (Option (Nat×Value)):=Instr.findNow kd k es 0
section
variable {P:Program} {t kt et:TypeId} {kd:TypeDesc} (ht:P.underlying t=some (.map kt et)) (hk:P.underlying kt=some kd) (hp:Aw kd) {w:World} {r c:Nat} {es:List MapEntry} (h:R8 w r es c) (key val:Value)
include hk
theorem TR x (i:NW kd key es=some x) w:(Instr.findKey kt key es).run P w= .ok x w:=by
 unfold NW at i
 simp[Instr.findKey,run_underlying hk,i]
include hp
theorem TP i n v w:(Instr.checkKey i (n+1) kt v).run P w= .ok () w:=by
 rcases hp with⟨q,rfl⟩|rfl|rfl<;>simp[Instr.checkKey,run_underlying hk]
include ht h
theorem Zv (j:NW kd key es=some none):
  (Instr.mapUpdate t (.map (some r)) key val).run P w= .ok () (setBlock w r (.map (es++ [(MapEntry.mk key val c)]).toArray (c+1))):=by
 have i:w.heap[r]?=some (.map es.toArray c):=h
 simp[Instr.mapUpdate,run_underlying ht,getObj,Sem.run,i,TP hk hp,TR hk key none j,setObj,setBlock]
theorem Vb {z} (j:(zeroValue et).run P w= .ok z w) ok x (y:NW kd key es=some x):
  (Instr.lookup t (.map (some r)) key ok).run P w= .ok (if ok then .tuple #[(x.map (·.2)).getD z,.bool x.isSome]else(x.map (·.2)).getD z) w:=by
 have u:w.heap[r]?=some (.map es.toArray c):=h
 rcases x with _|⟨i,v⟩<;>
  simp[Instr.lookup,run_underlying ht,getObj,Sem.run,u,TP hk hp,TR hk key _ y,j]
end
theorem Qy {P} w {ops rest o a Q}
  (j:o.guard=none) m x v t (y:o.op=Op.insert t m x v) {kt et kd} (ht:P.underlying t=some (.map kt et)) (hk:P.underlying kt=some kd) (hp:Aw kd)
  r c es key val (u:a.eval m= .map (some r)) (E:a.eval x=key) (N:a.eval v=val) (h:R8 w r es c) (C:NW kd key es=some none)
  (D: ∀w1,R8 w1 r (es++ [MapEntry.mk key val c]) (c+1)->BY w w1 r->wpList P ops Q rest (a.put o.dst undef) w1):wpList P ops Q (o::rest) a w:=by
 refine wpList_plain j fun K' i=> ?_
 have J:=Zv ht hk hp h key val C
 unfold Oper.wp
 simp only[execOp,y,u,E,N]
 simp[J]
 exact i _ _ (D _ (h.set _ _) (PN _ _ _))
def QE (es:List MapEntry) (k:Int):Option Value:=(es.find? fun e=>match e.key with| .int .i64 n=>n ==k|_=>false).map (·.val)
def BB (es:List MapEntry):Prop:= ∀e∈es,∃n:Int,e.key= .int .i64 n
def FD (e:MapEntry):Int:=match e.key with| .int .i64 n=>n|_=>0
theorem PW: ∀(es:List MapEntry) (k:Int) (i:Nat),BB es->
  ∃x,Instr.findNow (.int .i64) (.int .i64 k) es i=some x/\x.map (·.2)=QE es k/\
   (∀j v,x=some (j,v)->i<=j/\ ∃(hj:j-i<es.length),(es[j-i]).key= .int .i64 k/\es[j-i].val=v/\ ∀m (hm:m<j-i),(es[m]'(by omega)).key≠ .int .i64 k)/\(x=none-> ∀e∈es,e.key≠ .int .i64 k)
 | [],k,i,_=>⟨none,rfl,rfl,by simp,by simp⟩
 |e::es,k,i,h=>by
  obtain⟨n,hn⟩:=h e (by simp);obtain⟨x,hx,hl,hs,hnn⟩:=PW es k (i+1) (fun e' he'=>h e' (by simp[he']))
  by_cases hkn:k=n
  ·subst hkn
   refine⟨some (i,e.val),by simp[Instr.findNow,Instr.sameNow,hn],by simp[QE,hn], ?_,by simp⟩;rintro j v hjv;simp only[Option.some.injEq,Prod.mk.injEq]at hjv;obtain⟨rfl,rfl⟩:=hjv;refine⟨Q4 _,by simp,by simpa using hn,by simp,fun m hm=>by omega⟩
  have hb:(k ==n)=false:=by simpa using hkn
  have hb':(n ==k)=false:=by simpa using fun e=>hkn e.symm
  refine⟨x,by simp[Instr.findNow,Instr.sameNow,hn,hb,hx],by rw[hl];simp[QE,hn,hb'], ?_, ?_⟩
  ·rintro j v hjv
   obtain⟨h1,h2,h3,h4,h5⟩:=hs j v hjv;have e1:j-i=(j- (i+1))+1:=by omega
   refine⟨by omega,by simp only[List.length_cons];omega, ?_, ?_, ?_⟩
   ·simp only[e1,List.getElem_cons_succ];exact h3
   ·simp only[e1,List.getElem_cons_succ];exact h4
   intro m hm;rcases m with _|m
   ·simp only[List.getElem_cons_zero,hn]
    intro e;injection e with _ e;exact hkn e.symm
   simp only[List.getElem_cons_succ];exact h5 m (by omega)
  rintro rfl e' he';rcases D4.1 he' with rfl|he'
  ·rw[hn];intro e;injection e with _ e;exact hkn e.symm
  exact hnn rfl e' he'
def P7 (w:World) (r:Nat) (f:Int->Option Value):Prop:=
 ∃es c,R8 w r es c/\BB es/\(es.map FD).Nodup/\ ∀k,QE es k=f k
def D0 (f:Int->Option Value) (k:Int) (v:Option Value):Int->Option Value:=fun j=>if j=k then v else f j
section
variable {w w':World} {r:Nat} {f:Int->Option Value}
theorem P7.lt (h:P7 w r f):r<w.heap.size:=by obtain⟨es,c,h,_⟩:=h;exact h.lt
theorem P7.of_block (h:P7 w r f) (i:w'.heap[r]?=w.heap[r]?):P7 w' r f:=by
 obtain⟨es,c,h,j⟩:=h
 exact⟨es,c,h.of_block i,j⟩
theorem P7.kept {row} (h:P7 w r f) (j:w.grownBy w' row) (i:some r≠row):P7 w' r f:=h.of_block (j.block r h.lt i)
theorem P7.below {B} (h:P7 w r f) (i:Below B w w') (j:r<B):P7 w' r f:=h.of_block (i.block r j)
theorem P7.alloc (h:P7 w r f) o:P7 (w.alloc o) r f:=h.kept (World.grownBy_alloc w o none) (by simp)
theorem P7.made (w:World):P7 (w.alloc (.map #[] 0)) w.heap.size fun _=>none:=
 ⟨[],0,R8.made w,by simp[BB],by simp,by simp[QE]⟩
variable {P:Program} {t kt et:TypeId} (ht:P.underlying t=some (.map kt et)) (hk:P.underlying kt=some (.int .i64))
theorem NH {e n} (h:e.key= .int .i64 n):FD e=n:=by simp[FD,h]
include ht hk in
theorem P7.lookup (h:P7 w r f) {z:Value} (v:(zeroValue et).run P w= .ok z w) (k:Int) (ok:Bool):
  (Instr.lookup t (.map (some r)) (.int .i64 k) ok).run P w= .ok (if ok then .tuple #[(f k).getD z,.bool (f k).isSome]else(f k).getD z) w:=by
 obtain⟨es,c,h,y,_,i⟩:=h
 obtain⟨x,u,j,_⟩:=PW es k 0 y
 rw[Vb ht hk CR h _ v ok x u,j,i]
 have:x.isSome=(f k).isSome:=by rw[<-i,<-j];simp
 rw[this]
theorem Cb: ∀(es:List MapEntry) (i:Nat) (k:Int) (v:Value),BB es->(es.map FD).Nodup->(hi:i<es.length)->es[i].key= .int .i64 k->
  ∀j,QE (es.modify i fun e=> {e with key:= .int .i64 k,val:=v}) j=D0 (QE es) k (some v) j
 | [],i,k,v,_,_,hi,_=>by simp at hi
 |e::es,0,k,v,hK,hN,_,hkey=>by
  intro j;simp only[List.getElem_cons_zero]at hkey
  by_cases hj:j=k
  ·subst hj;simp[QE,D0]
  have hb:(k ==j)=false:=by simpa using fun e=>hj e.symm
  simp[QE,D0,hj,hkey,hb]
 |e::es,i+1,k,v,hK,hN,hi,hkey=>by
  intro j;simp only[List.getElem_cons_succ]at hkey;simp only[List.map_cons,List.nodup_cons]at hN;have ih:=Cb es i k v (fun e' he'=>hK e' (by simp[he'])) hN.2 (by simpa using hi) hkey j;obtain⟨n,hn⟩:=hK e (by simp);have hne:n≠k:=by
   rintro rfl;apply hN.1;rw[NH hn];exact U4.2 ⟨es[i]'(by simpa using hi),Y1 _,NH hkey⟩
  simp only[List.modify_succ_cons]
  by_cases hj:n=j
  ·subst hj
   simp[QE,D0,hn,hne]
  have hb:(n ==j)=false:=by simpa using hj
  simp only[QE,List.find?_cons,hn,hb,D0]at ih|-;exact ih
theorem Cc es e k (v:e.key= .int .i64 k) (C: ∀i∈es,i.key≠ .int .i64 k) (J:BB es):
  ∀j,QE (es++ [e]) j=D0 (QE es) k (some e.val) j:=by
 intro j
 by_cases u:j=k
 ·subst u
  have:es.find? (fun e=>match e.key with| .int .i64 n=>n ==j|_=>false)=none:=by
   rw[EY];intro i y;obtain⟨n,E⟩:=J i y;have:=C i y;rw[E]at this|-;simp only[beq_iff_eq];rintro rfl;exact this rfl
  simp[QE,D0,List.find?_append,this,v]
 have D:(k ==j)=false:=by simpa using fun e=>u e.symm
 simp[QE,D0,List.find?_append,v,D,u]
theorem Sn {es i k v} (u:BB es):BB (es.modify i fun e=> {e with key:= .int .i64 k,val:=v}):=by
 intro e y
 obtain⟨j,C,rfl⟩:=XG.1 y
 rw[List.getElem_modify]
 split
 ·exact⟨k,rfl⟩
 exact u _ (Y1 _)
theorem Sg {es:List MapEntry} {i k v} (C:i<es.length) (y:es[i].key= .int .i64 k):
  (es.modify i fun e=> {e with key:= .int .i64 k,val:=v}).map FD=es.map FD:=by
 apply List.ext_getElem
 ·simp
 intro j h1 h2
 simp only[List.getElem_map,List.getElem_modify]
 split
 ·rename_i u
  subst u;simp[FD,y]
 rfl
include ht hk in
theorem P7.update (h:P7 w r f) (k:Int) (v:Value):
  ∃w',(Instr.mapUpdate t (.map (some r)) (.int .i64 k) v).run P w= .ok () w'/\P7 w' r (D0 f k (some v))/\BY w w' r:=by
 obtain⟨es,c,h,u,C,hf⟩:=h
 obtain⟨x,N,hl,hs,E⟩:=PW es k 0 u
 have J:QE es=f:=funext hf
 rcases x with _|⟨i,D⟩
 ·refine⟨_,Zv ht hk CR h _ v N,⟨_,_,h.set _ _, ?_, ?_, ?_⟩,PN _ _ _⟩
  ·intro e j
   rcases Y7.1 j with j|j
   ·exact u e j
   simp at j;subst j;exact⟨k,rfl⟩
  ·rw[T1,YX]
   refine⟨C,by simp, ?_⟩;intro a ha b U;simp[FD]at U;subst U;obtain⟨e,j,rfl⟩:=U4.1 ha;obtain⟨n,Z⟩:=u e j;rw[NH Z];rintro rfl;exact E rfl e j Z
  rw[<-J];exact Cc es (MapEntry.mk (.int .i64 k) v c) k rfl (E rfl) u
 obtain⟨_,h2,y,h4,h5⟩:=hs i D rfl
 simp only[Nat.sub_zero]at h2 y h4
 have hr:w.heap[r]?=some (.map es.toArray c):=h
 refine⟨setBlock w r (.map (es.modify i fun e=> {e with key:= .int .i64 k,val:=v}).toArray c), ?_,⟨_,_,h.set _ _,Sn u, ?_, ?_⟩,PN _ _ _⟩
 ·have a0: ∀w0,(Instr.keyThatStays (.int .i64 k) (.int .i64 k)).run P w0= .ok (.int .i64 k) w0:=by
   intro w0;simp[Instr.keyThatStays,Instr.sameBits]
  have a1:es[i]?=some es[i]:=by simp[h2]
  have e3:Instr.findNow (.int .i64) (.int .i64 k) es 0=some (some (i,D)):=N;simp[Instr.mapUpdate,run_underlying ht,getObj,Sem.run,hr,TP hk CR,TR hk (.int .i64 k) (some (i,D)) e3,setObj,setBlock,a1,y,a0]
 ·rw[Sg h2 y];exact C
 rw[<-J]
 exact Cb es i k v u C h2 y
theorem Bj: ∀(es:List MapEntry) (i:Nat) (k:Int),BB es->(es.map FD).Nodup->(hi:i<es.length)->es[i].key= .int .i64 k->
  ∀j,QE (es.eraseIdx i) j=D0 (QE es) k none j
 | [],i,k,_,_,hi,_=>by simp at hi
 |e::es,0,k,hK,hN,_,hkey=>by
  intro j;simp only[List.getElem_cons_zero]at hkey;simp only[List.map_cons,List.nodup_cons,NH hkey]at hN
  by_cases hj:j=k
  ·subst hj
   have:es.find? (fun e=>match e.key with| .int .i64 n=>n ==j|_=>false)=none:=by
    rw[EY];intro e' he';obtain⟨n,hn⟩:=hK e' (by simp[he']);rw[hn];simp only[beq_iff_eq];rintro rfl;exact hN.1 (U4.2 ⟨e',he',NH hn⟩)
   simp[QE,D0,this]
  have hb:(k ==j)=false:=by simpa using fun e=>hj e.symm
  simp[QE,D0,hj,hkey,hb]
 |e::es,i+1,k,hK,hN,hi,hkey=>by
  intro j;simp only[List.getElem_cons_succ]at hkey;simp only[List.map_cons,List.nodup_cons]at hN;have ih:=Bj es i k (fun e' he'=>hK e' (by simp[he'])) hN.2 (by simpa using hi) hkey j;obtain⟨n,hn⟩:=hK e (by simp);have hne:n≠k:=by
   rintro rfl;apply hN.1;rw[NH hn];exact U4.2 ⟨es[i]'(by simpa using hi),Y1 _,NH hkey⟩
  simp only[List.eraseIdx_cons_succ]
  by_cases hj:n=j
  ·subst hj
   simp[QE,D0,hn,hne]
  have hb:(n ==j)=false:=by simpa using hj
  simp only[QE,List.find?_cons,hn,hb,D0]at ih|-;exact ih
include ht hk in
theorem P7.delete (h:P7 w r f) (k:Int) (Z U:TypeId):
  ∃w',(Builtin.delete_ #[t,Z] U #[.map (some r),.int .i64 k]).run P w= .ok (.tuple #[]) w'/\P7 w' r (D0 f k none)/\BY w w' r:=by
 obtain⟨es,c,h,u,D,y⟩:=h
 obtain⟨x,E,hl,hs,a2⟩:=PW es k 0 u
 have a0:QE es=f:=funext y
 have N:w.heap[r]?=some (.map es.toArray c):=h
 rcases x with _|⟨i,v⟩
 ·refine⟨setBlock w r (.map es.toArray c), ?_,⟨_,_,h.set _ _,u,D, ?_⟩,PN _ _ _⟩
  ·have C:Instr.findNow (.int .i64) (.int .i64 k) es 0=some none:=E
   simp[Builtin.delete_,run_underlying ht,getObj,Sem.run,N,TP hk CR,TR hk (.int .i64 k) none C,setObj,setBlock]
  intro j;rw[y,D0]
  split
  ·rename_i e;subst e;rw[<-y,<-hl];rfl
  rfl
 obtain⟨_,h2,J,h4,h5⟩:=hs i v rfl
 simp only[Nat.sub_zero]at h2 J h4
 refine⟨setBlock w r (.map (es.eraseIdx i).toArray c), ?_,⟨_,_,h.set _ _,fun e he=>u e (List.mem_of_mem_eraseIdx he), ?_, ?_⟩,PN _ _ _⟩
 ·have C:Instr.findNow (.int .i64) (.int .i64 k) es 0=some (some (i,v)):=E
  simp[Builtin.delete_,run_underlying ht,getObj,Sem.run,N,TP hk CR,TR hk (.int .i64 k) (some (i,v)) C,setObj,setBlock]
 ·exact TA ((List.eraseIdx_sublist es i).map FD) D
 rw[<-a0]
 exact Bj es i k u D h2 J
