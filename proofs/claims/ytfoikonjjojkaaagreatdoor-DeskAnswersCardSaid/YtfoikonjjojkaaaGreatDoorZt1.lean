/- Parts. -/
import Derived.Test.YtfoikonjjojkaaaGreatDoorZt0
set_option linter.unusedVariables false
set_option maxRecDepth 100000
set_option maxHeartbeats 8000000
open Go.Value renaming int→I,pointer→IP
open Go.IntKind renaming i64→O
namespace Go.Proofs.YtfoikonjjojkaaaGreatDoor
section
open Go.ChangeMaps Go.RowKit
structure CG(w w':World)(r:Nat):Prop where
 os:w'.os=w.os
 tape:w'.tape=w.tape
 output:w'.output=w.output
 size:w'.heap.size=w.heap.size
 block:∀k,k≠r->w'.heap[k]?=w.heap[k]?
theorem CG.grown{w w' r}(h:CG w w' r):w.grownBy w' (some r):=
 ⟨h.os,h.tape,h.output,CB h.size.symm,fun k _ hk=>h.block k (fun e=>hk (by rw[e]))⟩
theorem CG.below{w w' r B}(h:CG w w' r)(i:B<=r):Below B w w':=
 ⟨h.os,h.tape,h.output,CB h.size.symm,fun k hk=>h.block k Q0⟩
theorem CG.cell{w w' r}(h:CG w w' r){p}(hp:p.block≠r):w'.cell? p=w.cell? p:=SR (h.block _ hp)
theorem WF w r o:CG w (setBlock w r o) r:=
 ⟨rfl,rfl,rfl,by simp[setBlock],fun k hk=>by simp only[setBlock];rw[AD Q0]⟩
def Zj(kd:TypeDesc):Prop:=(∃q,kd=.int q)\/kd=.string\/kd=.bool
theorem FW{q}:Zj (.int q):=.inl ⟨q,rfl⟩
theorem UK:Zj .string:=.inr (.inl rfl)
def M6(w:World)(r:Nat)(es:List MapEntry)(c:Nat):Prop:=w.heap[r]?=some (.map es.toArray c)
section
variable {w w':World} {r c:Nat} {es:List MapEntry}
theorem M6.lt(h:M6 w r es c):r<w.heap.size:=(EC.1 h).1
theorem M6.of_block(h:M6 w r es c)(i:w'.heap[r]?=w.heap[r]?):M6 w' r es c:=i.trans h
theorem M6.kept{row}(h:M6 w r es c)(i:w.grownBy w' row)(j:some r≠row):M6 w' r es c:=(i.block r h.lt j).trans h
theorem M6.alloc(h:M6 w r es c)o:M6 (w.alloc o) r es c:=h.kept (World.grownBy_alloc w o none) Q3
theorem M6.made(w:World):M6 (w.alloc (.map #[] 0)) w.heap.size [] 0:=QN w _
theorem M6.below{B}(h:M6 w r es c)(i:Below B w w')(j:r<B):M6 w' r es c:=(i.block r j).trans h
theorem M6.set(h:M6 w r es c)i c':M6 (setBlock w r (.map i.toArray c')) r i c':=by have:=h.lt;simp only[M6,setBlock];rw[Jr this]
end
def MR(kd:TypeDesc)(k:Value)(es:List MapEntry):Option (Option (Nat×Value)):=Instr.findNow kd k es 0
section
variable {P:Program} {t kt et:TypeId} {kd:TypeDesc} (ht:P.underlying t=some (.map kt et)) (hk:P.underlying kt=some kd) (hp:Zj kd) {w:World} {r c:Nat} {es:List MapEntry} (h:M6 w r es c) (key val:Value)
include hk
theorem Xz x(i:MR kd key es=some x)w:(Instr.findKey kt key es).run P w=.ok x w:=by unfold MR at i;simp[Instr.findKey,run_underlying hk,i]
include hp
theorem Xv i n v w:(Instr.checkKey i (n+1) kt v).run P w=.ok () w:=by rcases hp with⟨q,rfl⟩|rfl|rfl<;>simp[Instr.checkKey,run_underlying hk]
include ht h
theorem Ba(i:MR kd key es=some none):(Instr.mapUpdate t (.map (some r)) key val).run P w=.ok () (setBlock w r (.map (es++[(MapEntry.mk key val c)]).toArray (c+1))):=by have j:w.heap[r]?=some (.map es.toArray c):=h;simp[Instr.mapUpdate,run_underlying ht,getObj,Sem.run,j,Xv hk hp,Xz hk key none i,setObj,setBlock]
theorem Xt{z}(y:(zeroValue et).run P w=.ok z w)ok x(j:MR kd key es=some x):(Instr.lookup t (.map (some r)) key ok).run P w=.ok (if ok then .tuple #[(x.map (·.2)).getD z,.bool x.isSome]else(x.map (·.2)).getD z) w:=by
 have u:w.heap[r]?=some (.map es.toArray c):=h;obtain _|⟨i,v⟩:=x<;>
  simp[Instr.lookup,run_underlying ht,getObj,Sem.run,u,Xv hk hp,Xz hk key _ j,y]
end
theorem ZH{P}w{ops rest o a Q}(y:o.guard=none) m x v t (D:o.op=Op.insert t m x v) {kt et kd} (ht:P.underlying t=some (.map kt et)) (hk:P.underlying kt=some kd) (hp:Zj kd) r c es key val (C:a.eval m=.map (some r)) (N:a.eval x=key) (J:a.eval v=val) (h:M6 w r es c) (u:MR kd key es=some none)(i:∀w1,M6 w1 r (es++[MapEntry.mk key val c]) (c+1)->CG w w1 r->wpList P ops Q rest (a.put o.dst undef) w1):wpList P ops Q (o::rest) a w:=by
 refine wpList_plain y fun K' j=>?_
 have E:=Ba ht hk hp h key val u;unfold Oper.wp;simp only[execOp,D,C,N,J];simp[E];exact j _ _ (i _ (h.set _ _) (WF _ _ _))
def JT(es:List MapEntry)(k:Int):Option Value:=(es.find? fun e=>match e.key with| .int .i64 n=>n ==k|_=>false).map (·.val)
def DH(es:List MapEntry):Prop:=∀e∈es,∃n,e.key=.int .i64 n
def NK(e:MapEntry):Int:=match e.key with| .int .i64 n=>n|_=>0
theorem WR:∀(es:List MapEntry)(k:Int)(i:Nat),DH es->∃x,Instr.findNow (.int .i64) (.int .i64 k) es i=some x/\x.map (·.2)=JT es k/\(∀j v,x=some (j,v)->i<=j/\∃(hj:j-i<es.length),(es[j-i]).key=.int .i64 k/\es[j-i].val=v/\∀m(hm:m<j-i),(es[m]'(by omega)).key≠.int .i64 k)/\(x=none->∀e∈es,e.key≠.int .i64 k)
 | [],k,i,_=>⟨none,rfl,rfl,Q3,Q3⟩
 |e::es,k,i,h=>by
  obtain⟨n,hn⟩:=h e Q3;obtain⟨x,hx,hl,hs,hnn⟩:=WR es k (i+1) (fun e' he'=>h e' (by simp[he']))
  by_cases hkn:k=n
  ·subst hkn
   refine⟨some (i,e.val),by simp[Instr.findNow,Instr.sameNow,hn],by simp[JT,hn],?_,Q3⟩;rintro j v hjv;simp only[Option.some.injEq,Prod.mk.injEq]at hjv;obtain⟨rfl,rfl⟩:=hjv;refine⟨X3 _,Q3,by simpa using hn,Q3,fun m hm=>Q0⟩
  have hb:(k ==n)=false:=by simpa using hkn
  have hb':(n ==k)=false:=by simpa using fun e=>hkn e.symm
  refine⟨x,by simp[Instr.findNow,Instr.sameNow,hn,hb,hx],by rw[hl];simp[JT,hn,hb'],?_,?_⟩
  ·rintro j v hjv
   obtain⟨h1,h2,h3,h4,h5⟩:=hs j v hjv;have e1:j-i=(j-(i+1))+1:=Q0;refine⟨Q0,by simp only[List.length_cons];omega,?_,?_,?_⟩
   ·simp only[e1,List.getElem_cons_succ];exact h3
   ·simp only[e1,List.getElem_cons_succ];exact h4
   intro m hm;obtain _|m:=m
   ·simp only[List.getElem_cons_zero,hn]
    intro e;injection e with _ e;exact hkn e.symm
   simp only[List.getElem_cons_succ];exact h5 m Q0
  rintro rfl e' he';obtain rfl|he':=H8.1 he'
  ·rw[hn];intro e;injection e with _ e;exact hkn e.symm
  exact hnn rfl e' he'
def QF(w:World)(r:Nat)(f:Int->Option Value):Prop:=
 ∃es c,M6 w r es c/\DH es/\(es.map NK).Nodup/\∀k,JT es k=f k
def T7(f:Int->Option Value)(k:Int)(v:Option Value):Int->Option Value:=fun j=>if j=k then v else f j
section
variable {w w':World} {r:Nat} {f:Int->Option Value}
theorem QF.lt(h:QF w r f):r<w.heap.size:=by obtain⟨es,c,h,_⟩:=h;exact h.lt
theorem QF.of_block(h:QF w r f)(i:w'.heap[r]?=w.heap[r]?):QF w' r f:=by obtain⟨es,c,h,j⟩:=h;exact⟨es,c,h.of_block i,j⟩
theorem QF.kept{row}(h:QF w r f)(i:w.grownBy w' row)(j:some r≠row):QF w' r f:=h.of_block (i.block r h.lt j)
theorem QF.below{B}(h:QF w r f)(i:Below B w w')(j:r<B):QF w' r f:=h.of_block (i.block r j)
theorem QF.alloc(h:QF w r f)o:QF (w.alloc o) r f:=h.kept (World.grownBy_alloc w o none) Q3
theorem QF.made(w:World):QF (w.alloc (.map #[] 0)) w.heap.size fun _=>none:=
 ⟨[],0,M6.made w,by simp[DH],Q3,by simp[JT]⟩
variable {P:Program} {t kt et:TypeId} (ht:P.underlying t=some (.map kt et)) (hk:P.underlying kt=some (.int .i64))
theorem TR{e n}(h:e.key=.int .i64 n):NK e=n:=by simp[NK,h]
include ht hk in
theorem QF.lookup(h:QF w r f){z:Value}(C:(zeroValue et).run P w=.ok z w)(k:Int)(ok:Bool):(Instr.lookup t (.map (some r)) (.int .i64 k) ok).run P w=.ok (if ok then .tuple #[(f k).getD z,.bool (f k).isSome]else(f k).getD z) w:=by
 obtain⟨es,c,h,u,_,i⟩:=h;obtain⟨x,y,j,_⟩:=WR es k 0 u;rw[Xt ht hk FW h _ C ok x y,j,i];have:x.isSome=(f k).isSome:=by rw[<-i,<-j];simp
 rw[this]
theorem Hw:∀(es:List MapEntry)(i:Nat)(k:Int)(v:Value),DH es->(es.map NK).Nodup->(hi:i<es.length)->es[i].key=.int .i64 k->∀j,JT (es.modify i fun e=>{e with key:=.int .i64 k,val:=v}) j=T7 (JT es) k (some v) j
 | [],i,k,v,_,_,hi,_=>by simp at hi
 |e::es,0,k,v,hK,hN,_,hkey=>by
  intro j;simp only[List.getElem_cons_zero]at hkey
  by_cases hj:j=k
  ·subst hj;simp[JT,T7]
  have hb:(k ==j)=false:=by simpa using fun e=>hj e.symm
  simp[JT,T7,hj,hkey,hb]
 |e::es,i+1,k,v,hK,hN,hi,hkey=>by
  intro j;simp only[List.getElem_cons_succ]at hkey;simp only[List.map_cons,List.nodup_cons]at hN;have ih:=Hw es i k v (fun e' he'=>hK e' (by simp[he'])) hN.2 (by simpa using hi) hkey j;obtain⟨n,hn⟩:=hK e Q3;have hne:n≠k:=by rintro rfl;apply hN.1;rw[TR hn];exact Y4.2 ⟨es[i]'(by simpa using hi),C7 _,TR hkey⟩
  simp only[List.modify_succ_cons]
  by_cases hj:n=j
  ·subst hj
   simp[JT,T7,hn,hne]
  have hb:(n ==j)=false:=by simpa using hj
  simp only[JT,List.find?_cons,hn,hb,T7]at ih|-;exact ih
theorem La es e k(C:e.key=.int .i64 k)(N:∀i∈es,i.key≠.int .i64 k)(D:DH es):∀j,JT (es++[e]) j=T7 (JT es) k (some e.val) j:=by
 intro j
 by_cases u:j=k
 ·subst u
  have:es.find? (fun e=>match e.key with| .int .i64 n=>n ==j|_=>false)=none:=by rw[GN];intro i y;obtain⟨n,J⟩:=D i y;have:=N i y;rw[J]at this|-;simp only[beq_iff_eq];rintro rfl;exact this rfl
  simp[JT,T7,List.find?_append,this,C]
 have E:(k ==j)=false:=by simpa using fun e=>u e.symm
 simp[JT,T7,List.find?_append,C,E,u]
theorem Qm2{es i k v}(u:DH es):DH (es.modify i fun e=>{e with key:=.int .i64 k,val:=v}):=by
 intro e y;obtain⟨j,C,rfl⟩:=ZX.1 y;rw[List.getElem_modify]
 split
 ·exact⟨k,rfl⟩
 exact u _ (C7 _)
theorem Ql5{es:List MapEntry}{i k v}(C:i<es.length)(y:es[i].key=.int .i64 k):(es.modify i fun e=>{e with key:=.int .i64 k,val:=v}).map NK=es.map NK:=by
 apply List.ext_getElem
 ·simp
 intro j h1 h2;simp only[List.getElem_map,List.getElem_modify]
 split
 ·rename_i u
  subst u;simp[NK,y]
 rfl
include ht hk in
theorem QF.update(h:QF w r f)(k:Int)(v:Value):∃w',(Instr.mapUpdate t (.map (some r)) (.int .i64 k) v).run P w=.ok () w'/\QF w' r (T7 f k (some v))/\CG w w' r:=by
 obtain⟨es,c,h,u,C,hf⟩:=h;obtain⟨x,hx,hl,hs,Z⟩:=WR es k 0 u;have J:JT es=f:=funext hf;obtain _|⟨i,D⟩:=x
 ·refine⟨_,Ba ht hk FW h _ v hx,⟨_,_,h.set _ _,?_,?_,?_⟩,WF _ _ _⟩
  ·intro e j
   obtain j|j:=B8.1 j
   ·exact u e j
   simp at j;subst j;exact⟨k,rfl⟩
  ·rw[L6,BE]
   refine⟨C,Q3,?_⟩;intro a ha b E;simp[NK]at E;subst E;obtain⟨e,j,rfl⟩:=Y4.1 ha;obtain⟨n,N⟩:=u e j;rw[TR N];rintro rfl;exact Z rfl e j N
  rw[<-J];exact La es (MapEntry.mk (.int .i64 k) v c) k rfl (Z rfl) u
 obtain⟨_,h2,y,h4,h5⟩:=hs i D rfl;simp only[Nat.sub_zero]at h2 y h4;have hr:w.heap[r]?=some (.map es.toArray c):=h;refine⟨setBlock w r (.map (es.modify i fun e=>{e with key:=.int .i64 k,val:=v}).toArray c),?_,⟨_,_,h.set _ _,Qm2 u,?_,?_⟩,WF _ _ _⟩
 ·have a1:∀w0,(Instr.keyThatStays (.int .i64 k) (.int .i64 k)).run P w0=.ok (.int .i64 k) w0:=by
   intro w0;simp[Instr.keyThatStays,Instr.sameBits]
  have a0:es[i]?=some es[i]:=by simp[h2]
  have e3:Instr.findNow (.int .i64) (.int .i64 k) es 0=some (some (i,D)):=hx;simp[Instr.mapUpdate,run_underlying ht,getObj,Sem.run,hr,Xv hk FW,Xz hk (.int .i64 k) (some (i,D)) e3,setObj,setBlock,a0,y,a1]
 ·rw[Ql5 h2 y];exact C
 rw[<-J];exact Hw es i k v u C h2 y
theorem Gs:∀(es:List MapEntry)(i:Nat)(k:Int),DH es->(es.map NK).Nodup->(hi:i<es.length)->es[i].key=.int .i64 k->∀j,JT (es.eraseIdx i) j=T7 (JT es) k none j
 | [],i,k,_,_,hi,_=>by simp at hi
 |e::es,0,k,hK,hN,_,hkey=>by
  intro j;simp only[List.getElem_cons_zero]at hkey;simp only[List.map_cons,List.nodup_cons,TR hkey]at hN
  by_cases hj:j=k
  ·subst hj
   have:es.find? (fun e=>match e.key with| .int .i64 n=>n ==j|_=>false)=none:=by rw[GN];intro e' he';obtain⟨n,hn⟩:=hK e' (by simp[he']);rw[hn];simp only[beq_iff_eq];rintro rfl;exact hN.1 (Y4.2 ⟨e',he',TR hn⟩)
   simp[JT,T7,this]
  have hb:(k ==j)=false:=by simpa using fun e=>hj e.symm
  simp[JT,T7,hj,hkey,hb]
 |e::es,i+1,k,hK,hN,hi,hkey=>by
  intro j;simp only[List.getElem_cons_succ]at hkey;simp only[List.map_cons,List.nodup_cons]at hN;have ih:=Gs es i k (fun e' he'=>hK e' (by simp[he'])) hN.2 (by simpa using hi) hkey j;obtain⟨n,hn⟩:=hK e Q3;have hne:n≠k:=by rintro rfl;apply hN.1;rw[TR hn];exact Y4.2 ⟨es[i]'(by simpa using hi),C7 _,TR hkey⟩
  simp only[List.eraseIdx_cons_succ]
  by_cases hj:n=j
  ·subst hj
   simp[JT,T7,hn,hne]
  have hb:(n ==j)=false:=by simpa using hj
  simp only[JT,List.find?_cons,hn,hb,T7]at ih|-;exact ih
include ht hk in
theorem QF.delete(h:QF w r f)(k:Int)(a1 ty:TypeId):∃w',(Builtin.delete_ #[t,a1] ty #[.map (some r),.int .i64 k]).run P w=.ok (.tuple #[]) w'/\QF w' r (T7 f k none)/\CG w w' r:=by
 obtain⟨es,c,h,u,C,D⟩:=h;obtain⟨x,Z,hl,hs,a2⟩:=WR es k 0 u;have a0:JT es=f:=funext D;have N:w.heap[r]?=some (.map es.toArray c):=h;obtain _|⟨i,E⟩:=x
 ·refine⟨setBlock w r (.map es.toArray c),?_,⟨_,_,h.set _ _,u,C,?_⟩,WF _ _ _⟩
  ·have y:Instr.findNow (.int .i64) (.int .i64 k) es 0=some none:=Z
   simp[Builtin.delete_,run_underlying ht,getObj,Sem.run,N,Xv hk FW,Xz hk (.int .i64 k) none y,setObj,setBlock]
  intro j;rw[D,T7]
  split
  ·rename_i e;subst e;rw[<-D,<-hl];rfl
  rfl
 obtain⟨_,h2,J,h4,h5⟩:=hs i E rfl;simp only[Nat.sub_zero]at h2 J h4;refine⟨setBlock w r (.map (es.eraseIdx i).toArray c),?_,⟨_,_,h.set _ _,fun e he=>u e (List.mem_of_mem_eraseIdx he),?_,?_⟩,WF _ _ _⟩
 ·have y:Instr.findNow (.int .i64) (.int .i64 k) es 0=some (some (i,E)):=Z
  simp[Builtin.delete_,run_underlying ht,getObj,Sem.run,N,Xv hk FW,Xz hk (.int .i64 k) (some (i,E)) y,setObj,setBlock]
 ·exact Xe ((List.eraseIdx_sublist es i).map NK) C
 rw[<-a0];exact Gs es i k u C h2 J
end
end
section
open Go.RowKit
theorem J6{p}(h:p):Hid p:=h
theorem JH{a b}(h:a=b):Ending.returned (.bool a)=Ending.returned (.bool b):=by rw[h]
theorem JK{k a b}(h:a=b):Ending.returned (.int k a)=.returned (.int k b):=by rw[h]
theorem Qd4{a b c d v}(h:a=c)(k:b=d):Ending.returned (.tuple #[I O a,I O b,v])=.returned (.tuple #[I O c,I O d,v]):=by rw[h,k]
theorem Z3{a b:Int}(h:a≠b):(a ==b)=false:=Xa.2 h
theorem V4{a b:Int}(h:a=b):(a ==b)=true:=beq_iff_eq.2 h
theorem KN{a b:Int}(h:a=b):(a != b)=false:=by simp[h]
theorem XQ{a b:Int}(h:a≠b):(a != b)=true:=by simp[h]
theorem V9{p} [Decidable p](h:¬p):decide p=false:=WG h
theorem V7{p} [Decidable p](h:p):decide p=true:=GR h
theorem Y5{B w w1}(h:Below B w w1)n:Below B w (w1.drewN n):=⟨h.os,h.tape,h.output,h.size,h.block⟩
def J7(w:World)(g:Nat)(t:TypeId)(cs:Array Value):Prop:=w.heap[g]?=some (.cells cs t (0,0))
section
variable {w w':World} {g:Nat} {t:TypeId} {cs:Array Value}
theorem J7.lt(h:J7 w g t cs):g<w.heap.size:=by
 obtain j|i:=FT g (zS w)
 ·exact j
 unfold J7 at h;rw[Array.getElem?_eq_none i]at h;cases h
abbrev Z9:=@J7.lt
theorem J7.cell(h:J7 w g t cs)i:w.cell? (aD g i)=cs[i]?:=cell_of_row w g i cs t (0,0) h
abbrev X9:=@J7.cell
theorem J7.frozen(h:J7 w g t cs)i:w.frozen? (aD g i)=false:=by unfold J7 at h;simp[World.frozen?,h]
abbrev K0:=@J7.frozen
theorem J7.new(w:World)t cs:J7 (w.alloc (.cells cs t)) w.heap.size t cs:=QN w _
abbrev Z5:=@J7.new
theorem J7.drew(h:J7 w g t cs):J7 w.drew g t cs:=h
abbrev Y6:=@J7.drew
theorem J7.drewN(h:J7 w g t cs)n:J7 (w.drewN n) g t cs:=h
abbrev ZL:=@J7.drewN
theorem J7.alloc(h:J7 w g t cs)o:J7 (w.alloc o) g t cs:=(Below.heap_alloc w o g h.lt).trans h
abbrev G0:=@J7.alloc
theorem J7.set_(h:J7 w g t cs)i u:J7 (w.setCell (aD g i) u) g t (cs.setIfInBounds i u):=by unfold J7 at h|-;simp[World.setCell,Array.getElem?_modify,h]
abbrev Z0:=@J7.set_
theorem J7.far(h:J7 w g t cs){p}(hp:g≠p.block)u:J7 (w.setCell p u) g t cs:=(Xf w p u g hp).trans h
abbrev ZR:=@J7.far
theorem J7.below{B}(h:J7 w g t cs)(i:Below B w w')(j:g<B):J7 w' g t cs:=(i.block g j).trans h
theorem J7.keep(h:J7 w g t cs)(i:Bz w w'):J7 w' g t cs:=h.below i h.lt
abbrev Z4:=@J7.keep
theorem J7.grown{row}(h:J7 w g t cs)(i:w.grownBy w' row)(j:some g≠row):J7 w' g t cs:=(i.block g h.lt j).trans h
abbrev TE:=@J7.grown
theorem J7.of_block(h:J7 w g t cs)(i:w'.heap[g]?=w.heap[g]?):J7 w' g t cs:=i.trans h
end
structure X4(S:Nat->Prop)(w w':World):Prop where
 os:w'.os=w.os
 tape:w'.tape=w.tape
 output:w'.output=w.output
 size:w.heap.size<=w'.heap.size
 block:∀k,k<w.heap.size->¬S k->w'.heap[k]?=w.heap[k]?
section
variable {S S':Nat->Prop} {w w' w1 w2:World}
theorem X4.refl S w:X4 S w w:=⟨rfl,rfl,rfl,X3 _,fun _ _ _=>rfl⟩
abbrev BG:=@X4.refl
theorem X4.trans(h:X4 S w w1)(k:X4 S' w1 w2)(C:∀i,S' i->S i\/w.heap.size<=i):X4 S w w2:=
 ⟨k.os.trans h.os,k.tape.trans h.tape,k.output.trans h.output,U4 h.size k.size,fun i j u=>
  (k.block i (D0 j h.size) (fun y=>(C i y).elim u (fun D=>absurd j Q0))).trans (h.block i j u)⟩
theorem X4.mono(h:X4 S w w1)(u:∀i,S i->S' i):X4 S' w w1:=⟨h.os,h.tape,h.output,h.size,fun i y C=>h.block i y (fun j=>C (u i j))⟩
theorem X4.of_below(h:Bz w w1)S:X4 S w w1:=⟨h.os,h.tape,h.output,h.size,fun i j _=>h.block i j⟩
abbrev B9:=@X4.of_below
theorem X4.then_(h:X4 S w w1)(k:Bz w1 w2):X4 S w w2:=h.trans (B9 k (fun _=>False)) (fun _ h=>h.elim)
theorem X4.after(h:Bz w w1)(k:X4 S w1 w2):X4 S w w2:=(B9 h S).trans k (fun _ h=>.inl h)
theorem X4.set_ w p v:X4 (fun i=>i=p.block) w (w.setCell p v):=⟨rfl,rfl,rfl,by simp[World.setCell],fun i _ j=>Xf w p v i j⟩
abbrev U1:=@X4.set_
theorem X4.below{B}(h:X4 S w w1)(u:∀i,S i->B<=i)(y:B<=w.heap.size):Below B w w1:=⟨h.os,h.tape,h.output,h.size,fun i C=>h.block i Q0 (fun j=>by have:=u i j;omega)⟩
theorem X4.cell(h:X4 S w w1){p}(hp:p.block<w.heap.size)(i:¬S p.block):w1.cell? p=w.cell? p:=SR (h.block _ hp i)
theorem X4.frozen(h:X4 S w w1){p}(hp:p.block<w.heap.size)(i:¬S p.block):w1.frozen? p=w.frozen? p:=World.frozen?_of_block (h.block _ hp i)
theorem J7.keeps{g t cs}(h:J7 w g t cs)(hk:X4 S w w1)(i:¬S g):J7 w1 g t cs:=(hk.block g h.lt i).trans h
abbrev V0:=@J7.keeps
end
def X8(w:World)(A:Option Addr)(n c:Nat)(t:TypeId)(sz:Nat)(xs:List Value):Prop:=w.ownsRow 0 t sz (.slice A n c) n xs
def X5(A:Option Addr):Option Nat:=A.map (·.block)
theorem C8 A n c:(Value.slice A n c).ownBlock=X5 A:=by cases A<;>rfl
theorem Ct{w:World}{base e size v n xs}(h:w.ownsRow base e size v n xs):w.ownsRow 0 e size v n xs:=by
 refine⟨h.1,?_⟩;obtain h1|⟨g,cap,i,h1,h2,j⟩:=h.2
 ·exact .inl h1
 exact .inr ⟨g,cap,i,h1,U9 _,j⟩
theorem X8.cell{w A n c sz t xs}(h:X8 w A n c t sz xs){j u}(i:xs[j]?=some u):∃g,A=sA g/\w.cell? (aD g j)=some u:=by
 rcases h.2 with⟨_,y⟩|⟨g,cap,J,E,_⟩
 ·have D:=h.1
  rw[y]at D;rw[GL Q0]at i
  cases i
 cases E;refine⟨g,rfl,?_⟩;have:=World.ownsRow.cells h (g:=g) rfl j u i;have C:((aD g 0):Addr).add j=(aD g j):=by unfold Addr.add;split<;>simp_all
 rw[C]at this;exact this
section
variable {w w':World} {A:Option Addr} {n c sz:Nat} {t:TypeId} {xs:List Value}
theorem X8.lt(h:X8 w A n c t sz xs){g}(i:X5 A=some g):g<w.heap.size:=(World.ownsRow.lt h g (by rw[C8];exact i)).2
theorem X8.of_block(h:X8 w A n c t sz xs)(u:∀g,X5 A=some g->w'.heap[g]?=w.heap[g]?):X8 w' A n c t sz xs:=by
 refine⟨h.1,?_⟩;obtain h1|⟨g,cap,i,y,h1,h2,j⟩:=h.2
 ·exact .inl h1
 cases y;exact .inr ⟨g,c,i,rfl,h1,(u g rfl).trans h2,j⟩
theorem X8.keeps{S}(h:X8 w A n c t sz xs)(hk:X4 S w w')(j:∀g,X5 A=some g->¬S g):X8 w' A n c t sz xs:=
 h.of_block fun g i=>hk.block g (h.lt i) (j g i)
abbrev RB:=@X8.keeps
theorem X8.below(h:X8 w A n c t sz xs)(i:Bz w w'):X8 w' A n c t sz xs:=h.of_block fun g j=>i.block g (h.lt j)
abbrev CC:=@X8.below
theorem X8.set{g}(h:X8 w (sA g) n c t sz xs)j u:X8 (w.setCell (aD g j) u) (sA g) n c t sz (xs.set j u):=(World.ownsRow.stored h j u).1
theorem X8.frozen{g}(h:X8 w (sA g) n c t sz xs)j:w.frozen? (aD g j)=false:=World.ownsRow.frozenAt h j
theorem X8.pop{g}(h:X8 w (sA g) n c t sz xs)m(D:m<=n):X8 w (sA g) m c t sz (xs.take (m*sz)):=by
 have Z:=h.1;have C:m*sz<=n*sz:=GM _ D;refine⟨Q7,?_⟩;rcases h.2 with⟨h1,_⟩|⟨J,cap,i,E,h1,h2,N,j,u,y⟩
 ·cases h1
 cases E;exact .inr ⟨g,c,i,rfl,h1,h2,Q0,j,u,by rw[<-y,List.take_take,SW C]⟩
end
section
variable {α:Type}
def X7(enc:α->List Value)(xs:List α):List Value:=xs.flatMap enc
theorem Qe enc(x:α)xs:X7 enc (x::xs)=enc x++X7 enc xs:=rfl
theorem NM enc(xs ys:List α):X7 enc (xs++ys)=X7 enc xs++X7 enc ys:=by simp[X7]
theorem AQ enc xs(y:α):X7 enc (xs++[y])=X7 enc xs++enc y:=by simp[X7]
theorem EG{enc k}(hk:∀x,(enc x).length=k)(xs:List α):(X7 enc xs).length=xs.length*k:=by
 induction xs with
 |nil=>simp[X7]
 |cons x xs i=>rw[Qe,B6,i,hk,JA,MX];omega
theorem MB{enc k}(hk:∀x,(enc x).length=k)(xs:List α):∀i(u:i<xs.length)j,j<k->(X7 enc xs)[i*k+j]?=(enc xs[i])[j]?:=by
 induction xs with
 |nil=>intro i u;simp at u
 |cons x xs C=>
  intro i u j y;rw[Qe]
  cases i with
  |zero=>rw[Nat.zero_mul,KC,List.getElem?_append_left (by rw[hk];exact y)];rfl
  |succ i=>
   rw[Jt (by rw[hk,MX];omega),hk,show(i+1)*k+j-k=i*k+j by rw[MX];omega];exact C i (by simpa using u) j y
theorem Uu{enc}(h1:∀x,∀u∈enc x,u.oneCell'=true)(xs:List α):∀u∈X7 enc xs,u.oneCell'=true:=by intro u i;obtain⟨x,_,h⟩:=RU.1 i;exact h1 x u h
def CD:List Value->Nat->List Value->List Value
 |l,_,[]=>l
 |l,p,v::vs=>CD (l.set p v) (p+1) vs
theorem Gt vs:∀l pre q,CD (pre++l) (pre.length+q) vs=pre++CD l q vs:=by
 induction vs with
 |nil=>intro l pre q;rfl
 |cons v vs i=>
  intro l pre q;have e:(pre++l).set (pre.length+q) v=pre++l.set q v:=by rw[List.set_append,J8 Q0,show pre.length+q-pre.length=q by omega]
  rw[CD,CD,e,Nat.add_assoc,i]
theorem Qn5 i:∀l rest,l.length=i.length->CD (l++rest) 0 i=i++rest:=by
 induction i with
 |nil=>intro l rest h;simp at h;subst h;rfl
 |cons v i u=>
  intro l rest h
  cases l with
  |nil=>simp at h
  |cons a l=>
   have j:l.length=i.length:=by simpa using h
   rw[CD];show CD ([v]++(l++rest)) ([v].length+0) i=_;rw[Gt,u l rest j];rfl
theorem TB{enc k}(hk:∀x,(enc x).length=k)(y:α)xs:∀i,i<xs.length->CD (X7 enc xs) (i*k) (enc y)=X7 enc (xs.set i y):=by
 induction xs with
 |nil=>intro i j;simp at j
 |cons x xs u=>
  intro i j;rw[Qe]
  cases i with
  |zero=>rw[Nat.zero_mul,Qn5 _ _ _ (by rw[hk,hk])];rfl
  |succ i=>
   have e:(i+1)*k=(enc x).length+i*k:=by rw[hk,MX];omega
   rw[e,Gt,u i (by simpa using j)];rfl
theorem Uf{enc k}(hk:∀x,(enc x).length=k)(xs:List α):∀m,(X7 enc xs).take (m*k)=X7 enc (xs.take m):=by
 induction xs with
 |nil=>intro m;simp[X7]
 |cons x xs i=>
  intro m
  cases m with
  |zero=>simp[X7]
  |succ m=>rw[Qe,List.take_succ_cons,Qe,List.take_append,hk,M4 (by rw[hk,MX];omega),show(m+1)*k-k=m*k by rw[MX];omega,i]
def C0(w:World)(enc:α->List Value)(k:Nat)(A:Option Addr)(len:Nat)(xs:List α):Prop:=
 xs.length=len/\(0<len->∃b off,A=some (aD b off)/\b<w.heap.size/\∀i(hi:i<xs.length)j u,(enc xs[i])[j]?=some u->w.cell? (aD b (off+i*k+j))=some u)
variable {w w':World} {enc:α->List Value} {k:Nat} {A:Option Addr} {len:Nat} {xs:List α}
theorem C0.below{B}(h:C0 w enc k A len xs)(y:Below B w w')(hB:w.heap.size<=B):C0 w' enc k A len xs:=by refine⟨h.1,fun J=>?_⟩;obtain⟨b,Z,C,a0,D⟩:=h.2 J;have hs:=y.size;exact⟨b,Z,C,Q0,fun i E j u N=>(y.cell (p:=(aD b _)) (by show b<B;omega)).trans (D i E j u N)⟩
theorem C0.keeps{S}(h:C0 w enc k A len xs)(hk:X4 S w w')(J:∀g,X5 A=some g->¬S g):C0 w' enc k A len xs:=by refine⟨h.1,fun D=>?_⟩;obtain⟨b,Z,rfl,E,y⟩:=h.2 D;have hs:=hk.size;exact⟨b,Z,rfl,Q0,fun i C j u N=>(hk.cell (p:=(aD b _)) E (J b rfl)).trans (y i C j u N)⟩
theorem C0.at_{b off}(h:C0 w enc k (some (aD b off)) len xs){i}(D:i<xs.length){j u}(J:(enc xs[i])[j]?=some u):w.cell? (aD b (off+i*k+j))=some u:=by
 have E:0<len:=by have:=h.1;omega
 obtain⟨N,Z,y,_,C⟩:=h.2 E
 cases y;exact C i D j u J
theorem TF b o j:((aD b o):Addr).add j=(aD b (o+j)):=by
 unfold Addr.add
 split
 ·rename_i h;subst h;rfl
 rfl
theorem C0.news{b off}(hk:∀x,(enc x).length=k)(h:C0 w enc k (some (aD b off)) len xs):∀j u,(X7 enc xs)[j]?=some u->w.cell? (((aD b off):Addr).add j)=some u:=by
 intro j u i;have D:j<xs.length*k:=by
  rw[<-EG hk];obtain h|h:=FT j (X7 enc xs).length
  ·exact h
  rw[GL h]at i;cases i
 have C:0<k:=by
  obtain h|h:=Nat.eq_zero_or_pos k
  ·subst h;omega
  exact h
 have y:j/k<xs.length:=(Nat.div_lt_iff_lt_mul C).2 D;have E:j % k<k:=Nat.mod_lt _ C;have e:j/k*k+j % k=j:=by have:=Nat.div_add_mod j k;rw[Nat.mul_comm]at this;omega
 rw[TF,<-e,<-Nat.add_assoc];exact h.at_ y (by rw[<-MB hk xs _ y _ E,e];exact i)
theorem C0.of_row{n c t}(hk:∀x,(enc x).length=k)(N:0<k)(h:X8 w A n c t k (X7 enc xs)):C0 w enc k A n xs:=by
 have Z:xs.length=n:=by have:=h.1;rw[EG hk]at this;exact Nat.eq_of_mul_eq_mul_right N this
 refine⟨Z,fun hn=>?_⟩;rcases h.2 with⟨_,h0⟩|⟨g,cap,a0,hv,_⟩
 ·omega
 cases hv;refine⟨g,0,rfl,h.lt rfl,fun i E j u y=>?_⟩;have J:j<k:=by
  obtain h|h:=FT j k
  ·exact h
  rw[GL (by rw[hk];exact h)]at y;cases y
 obtain⟨g',D,C⟩:=h.cell ((MB hk xs i E j J).trans y)
 cases D;rw[KC];exact C
abbrev CY:=@C0.of_row
theorem X8.elem{n c t}(hk:∀x,(enc x).length=k)(a1:0<k)(h:X8 w A n c t k (X7 enc xs)){i}(N:i<xs.length):∃g,A=sA g/\∀j u,(enc xs[i])[j]?=some u->w.cell? (aD g (i*k+j))=some u:=by
 rcases h.2 with⟨_,C⟩|⟨g,cap,a0,hv,_⟩
 ·have:=h.1
  rw[EG hk,C]at this;have h2:xs.length*k=0:=Q0;obtain D|D:=Nat.mul_eq_zero.1 h2
  ·omega
  omega
 cases hv;refine⟨g,rfl,fun j u y=>?_⟩;have Z:j<k:=by
  obtain h|h:=FT j k
  ·exact h
  rw[GL (by rw[hk];exact h)]at y;cases y
 obtain⟨g',J,E⟩:=h.cell ((MB hk xs i N j Z).trans y)
 cases J;exact E
end
structure X6 where
 id:Int
 side:Int
 kind:Int
 price:Int
 qty:Int
def U0(o:X6):List Value:=[I O o.id,I O o.side,I O o.kind,I O o.price,I O o.qty]
def V6(o:X6):Value:=.agg #[I O o.id,I O o.side,I O o.kind,I O o.price,I O o.qty]
def Z8(o:X6):Array Value:= #[I O o.id,I O o.side,I O o.kind,I O o.price,I O o.qty]
theorem JG o:(U0 o).length=5:=rfl
theorem BL o:∀u∈U0 o,u.oneCell'=true:=by intro u i;simp[U0]at i;obtain rfl|rfl|rfl|rfl|rfl:=i<;>rfl
section
variable {w:World} {A:Option Addr} {len:Nat} {ps:List X6}
theorem ML{b off}(h:C0 w U0 5 (some (aD b off)) len ps){i}(u:i<ps.length):w.cell? (aD b (off+i*5))=some (I O ps[i].id)/\w.cell? (aD b (off+i*5+1))=some (I O ps[i].side)/\w.cell? (aD b (off+i*5+2))=some (I O ps[i].kind)/\w.cell? (aD b (off+i*5+3))=some (I O ps[i].price)/\w.cell? (aD b (off+i*5+4))=some (I O ps[i].qty):=
 ⟨h.at_ u (j:=0) rfl,h.at_ u (j:=1) rfl,h.at_ u (j:=2) rfl,h.at_ u (j:=3) rfl,h.at_ u (j:=4) rfl⟩
theorem ER{g n c t}(h:X8 w (sA g) n c t 5 (X7 U0 ps)){i}(y:i<ps.length):w.cell? (aD g (i*5))=some (I O ps[i].id)/\w.cell? (aD g (i*5+1))=some (I O ps[i].side)/\w.cell? (aD g (i*5+2))=some (I O ps[i].kind)/\w.cell? (aD g (i*5+3))=some (I O ps[i].price)/\w.cell? (aD g (i*5+4))=some (I O ps[i].qty):=by
 obtain⟨C,u,j⟩:=h.elem JG Q0 y
 cases u;exact⟨j 0 _ rfl,j 1 _ rfl,j 2 _ rfl,j 3 _ rfl,j 4 _ rfl⟩
theorem D7{g t o}(h:J7 w g t (Z8 o)):w.cell? (aD g 0)=some (I O o.id)/\w.cell? (aD g 1)=some (I O o.side)/\w.cell? (aD g 2)=some (I O o.kind)/\w.cell? (aD g 3)=some (I O o.price)/\w.cell? (aD g 4)=some (I O o.qty):=
 ⟨by rw[X9 h];rfl,by rw[X9 h];rfl,by rw[X9 h];rfl,by rw[X9 h];rfl,by rw[X9 h];rfl⟩
def V3(x:Int):Prop:= -9223372036854775808<=x/\x<=9223372036854775807
def JV(o:X6):Prop:=V3 o.id/\V3 o.side/\V3 o.kind/\V3 o.price/\V3 o.qty
end
theorem Bd{P}w t e ty z k(ht:P.underlying t=some (.slice e))(Z:∀w,(zeroValue e).run P w=.ok z w)(hk:z.cells.size=k)(a0:0<k)(h1:∀v∈z.cells,v.oneCell'=true)b o n c(hn:0<n)(E:∀j,j<n*k->(w.cell? (aD b (o+j))).isSome=true) (J:∀j,j<n*k->w.frozen? (aD b (o+j))=false):∃D,D.length=n*k/\(Builtin.clear_ #[t] ty #[.slice (some (aD b o)) n c]).run P w=.ok (.tuple #[]) (w.setCells b o D):=by
 refine⟨(Builtin.zeroCells z.cells n).toList,by simp[Builtin.zeroCells,hk],?_⟩;have N:∀v∈(Builtin.zeroCells z.cells n).toList,v.oneCell'=true:=by intro v C;simp[Builtin.zeroCells]at C;obtain⟨i,_,rfl⟩:=C;have u:i % z.cells.size<z.cells.size:=Nat.mod_lt _ Q0;rw[getElem!_pos z.cells _ u];exact h1 _ (Array.getElem_mem u)
 have y:=run_storeCells_cells (P:=P) b o (Builtin.zeroCells z.cells n).toList 0 w (by simpa [Builtin.zeroCells,hk]using E) (by simpa [Builtin.zeroCells,hk]using J) N;simp only[Nat.add_zero]at y;obtain⟨m,rfl⟩:∃m,n=m+1:=⟨n-1,Q0⟩;simp[Builtin.clear_,run_underlying ht,Z,y]
section
variable {w w':World} {n c sz g:Nat} {t:TypeId} {xs:List Value}
theorem X8.set_past(h:X8 w (sA g) n c t sz xs)j u(i:n*sz<=j):X8 (w.setCell (aD g j) u) (sA g) n c t sz xs:=by
 have h1:=h.set j u
 rwa [List.set_eq_of_length_le (by rw[h.1];exact i)]at h1
theorem X8.sets_past i:∀w j,X8 w (sA g) n c t sz xs->n*sz<=j->X8 (w.setCells g j i) (sA g) n c t sz xs:=by
 induction i with
 |nil=>intro w j h _;exact h
 |cons v i y=>intro w j h u;exact y _ (j+1) (h.set_past j v u) Q0
theorem X8.cap(h:X8 w (sA g) n c t sz xs):n<=c/\c<=9223372036854775807:=by
 rcases h.2 with⟨h1,_⟩|⟨C,cap,y,u,h1,h2,j,i,_⟩
 ·cases h1
 cases u;unfold maxLen at i;exact⟨j,i⟩
theorem X4.setCells u b:∀w j,X4 (fun i=>i=b) w (w.setCells b j u):=by
 induction u with
 |nil=>intro w j;exact BG _ _
 |cons v u y=>intro w j;exact(U1 w (aD b j) v).trans (y _ (j+1)) (fun i h=>.inl h)
abbrev TQ:=@X4.setCells
theorem X8.some_(h:X8 w (sA g) n c t sz xs){j}(y:j<n*sz):(w.cell? (aD g j)).isSome=true:=by
 have C:j<xs.length:=by rw[h.1];exact y
 obtain⟨D,u,i⟩:=h.cell (JY C)
 cases u;rw[i];rfl
end
abbrev Z7:=Int×Int×Int
def Y8(p:Z7):List Value:=[I O p.1,I O p.2.1,I O p.2.2]
def QW(p:Z7):Value:=.agg #[I O p.1,I O p.2.1,I O p.2.2]
theorem QE p:(Y8 p).length=3:=rfl
theorem Qh p:∀u∈Y8 p,u.oneCell'=true:=by intro u i;simp[Y8]at i;obtain rfl|rfl|rfl:=i<;>rfl
section
variable {w:World} {A:Option Addr} {len:Nat} {ps:List Z7}
theorem Yn{b off}(h:C0 w Y8 3 (some (aD b off)) len ps){i}(u:i<ps.length):w.cell? (aD b (off+i*3))=some (I O ps[i].1)/\w.cell? (aD b (off+i*3+1))=some (I O ps[i].2.1)/\w.cell? (aD b (off+i*3+2))=some (I O ps[i].2.2):=
 ⟨h.at_ u (j:=0) rfl,h.at_ u (j:=1) rfl,h.at_ u (j:=2) rfl⟩
theorem TW{g n c t}(h:X8 w (sA g) n c t 3 (X7 Y8 ps)){i}(y:i<ps.length):w.cell? (aD g (i*3))=some (I O ps[i].1)/\w.cell? (aD g (i*3+1))=some (I O ps[i].2.1)/\w.cell? (aD g (i*3+2))=some (I O ps[i].2.2):=by
 obtain⟨C,u,j⟩:=h.elem QE Q0 y
 cases u;exact⟨j 0 _ rfl,j 1 _ rfl,j 2 _ rfl⟩
theorem YU{α enc k}(hk:∀x,(enc x).length=k)(i:0<k){n c t}{xs:List α}(h:X8 w A n c t k (X7 enc xs)):xs.length=n:=by have:=h.1;rw[EG hk]at this;exact Nat.eq_of_mul_eq_mul_right i this
end
def Y9(e:Int):Value:=if e=0 then .nilIface else .iface 52 (I O e)
theorem DB:Y9 0=.nilIface:=rfl
theorem Qi:Y9 2=.iface 52 (I O 2):=rfl
end
section
open Go
section
variable {P:Program} {ops:Array Oper} {Q:Exit->Act->World->Prop} {md:Region.Mode} {S:World->Prop} {t:Nat}
def YB(P:Program)(md:Region.Mode)(ops:Array Oper)(Q:Exit->Act->World->Prop)(S:World->Prop)(t:Nat):Nat->Array Bool->Act->World->Prop
 |0,listed,a,w=>Region.ready md ops listed=[]/\Q .normal a w
 |fuel+1,listed,a,w=>
  (Region.ready md ops listed=[]->Q .normal a w)/\
  ∀i∈Region.ready md ops listed,wpOp P ops Q i (fun a' w'=>(i≠t->S w')/\YB P md ops Q S t fuel (listed.setIfInBounds i true) a' w') a w
theorem Gu:∀(fuel:Nat)(listed:Array Bool)(a:Act)(w:World),YB P md ops Q S t fuel listed a w->wpAny P md ops Q fuel listed a w
 |0,_,_,_,h=>h
 |fuel+1,_,_,_,h=>⟨h.1,fun i hi=>wpOp_mono (fun a' w' h'=>Gu fuel _ a' w' h'.2) (h.2 i hi)⟩
theorem Qp4{i oi v}(hi:ops[i]?=some oi)(hit:i≠t)(hw:Region.waitsFor md ops t i=true)(a5:∀(j:Nat)o cs b,ops[j]?=some o->o.op≠.select cs b)(hQ:∀c a w,Q (.panic c) (a.put oi.dst v) w->Q (.panic c) a w):∀fuel u a w,(∀j oj,ops[j]?=some oj->j≠i->u.getD j true=false->(∀e∈oj.after,Region.binds md e=true->e.on≠i)->oi.apart ops oj=true)->i∈Region.ready md ops u->YieldsIf P ops S oi v a->S w->YB P md ops Q S t fuel (u.setIfInBounds i true) (a.put oi.dst v) w->YB P md ops Q S t (fuel+1) u a w:=by
 intro fuel
 induction fuel with
 |zero=>
  intro u a w _ C Z D H;refine⟨fun h=>(by rw[h]at C;cases C),fun j J=>?_⟩
  by_cases y:j=i
  ·subst y;exact Z.wpOp hi D ⟨fun _=>D,H⟩
  have:=RE J y;rw[H.1]at this
  cases this
 |succ fuel ih=>
  intro u a w a0 C Z D H;refine⟨fun h=>(by rw[h]at C;cases C),fun j J=>?_⟩
  by_cases y:j=i
  ·subst y;exact Z.wpOp hi D ⟨fun _=>D,H⟩
  have h1:=H.2 j (RE J y);obtain⟨a3,oj,N,a7⟩:=RH.1 J;have a4:∀e∈oj.after,Region.binds md e=true->e.on≠i:=fun e he hb a8=>by
   have h1:=a7 e he hb;have h0:=(RH.1 C).1;rw[a8]at h1;obtain h'|h':=FT i u.size
   ·simp[h']at h0 h1;rw[h0]at h1;cases h1
   simp[Array.getElem?_eq_none h']at h1
  have a2:j≠t:=fun e=>by subst e;obtain⟨o',b2,e,he,hb,b5⟩:=Region.waitsFor_spec hw;have:o'=oj:=XG (b2.symm.trans N);subst this;exact a4 e he hb b5
  have h2:=wpOp_putIf N (a0 j oj N y a3 a4) (fun cs b=>a5 i oi cs b hi) (fun cs b=>a5 j oj cs b N) hQ Z h1;have a9:∀k ok,ops[k]?=some ok->k≠i->(u.setIfInBounds j true).getD k true=false->(∀e∈ok.after,Region.binds md e=true->e.on≠i)->oi.apart ops ok=true:=fun k ok hk b0 a6 b1=>by
   refine a0 k ok hk b0 ?_ b1
   by_cases a1:j=k
   ·subst a1;exact a3
   rw[getD_set_ne true a1]at a6;exact a6
  refine wpOp_mono (fun a' w' E=>⟨fun _=>E.2.1 a2,ih (u.setIfInBounds j true) a' w' a9 (RE C (Ne.symm y)) E.1 (E.2.1 a2) ?_⟩) h2;rw[Array.setIfInBounds_comm _ _ y];exact E.2.2
theorem Qt8{i oi v fuel listed a w}(j:ops[i]?=some oi)(hit:(i ==t)=false)(J:Region.waitsFor md ops t i=true)(E:Region.noSelect ops=true) (C:Region.free md ops listed i=true) (D:(Region.ready md ops listed).contains i=true)(u:∀c a w,Q (.panic c) (a.put oi.dst v) w->Q (.panic c) a w) (N:YieldsIf P ops S oi v a) (y:S w)(h:YB P md ops Q S t fuel (listed.setIfInBounds i true) (a.put oi.dst v) w):YB P md ops Q S t (fuel+1) listed a w:=
 Qp4 j (by simpa using hit) J (Ao E) u fuel listed a w (Region.free_spec j C) (by simpa using D) N y h
theorem Ni{rs fuel listed a w}(j:Region.ready md ops listed=rs)(C:rs≠[])(h:∀i∈rs,wpOp P ops Q i (fun u w'=>(i≠t->S w')/\YB P md ops Q S t fuel (listed.setIfInBounds i true) u w') a w):YB P md ops Q S t (fuel+1) listed a w:=
 ⟨fun y=>absurd (j▸y) C,j▸h⟩
theorem TZ{listed:Array Bool}{a:Act}{w:World}(hr:Region.ready md ops listed=[])(h:Q .normal a w):∀fuel,YB P md ops Q S t fuel listed a w
 |0=>⟨hr,h⟩
 |_+1=>⟨fun _=>h,by rw[hr];simp⟩
theorem Ql6{id a w}t S(i:P.follows .mixedOrders=true)(h:YB P .any ops Q S t ops.size (Array.replicate ops.size false) a {w with drawn:=w.drawn+1}):(Code.region id ops true).wp P Q a w:=
 wp_region_any i (Gu _ _ _ _ h)
theorem SP{id a w}t S(j:P.follows .mixedOrders=true)(i:S w.drew)(h:S w.drew->YB P .any ops Q S t ops.size (Array.replicate ops.size false) a w.drew):(Code.region id ops true).wp P Q a w:=Ql6 t S j (h i)
theorem Er{l u:List Oper}{i oi}(j:l.drop i=oi::u):l.toArray[i]?=some oi:=by
 have h:(l.drop i)[0]?=some oi:=by rw[j];rfl
 rw[Xg]at h;simpa using h
theorem Xp5{l a0:List Oper}(i d:Nat){oi}v{fuel listed a w}(D:l.drop i=oi::a0)(y:oi.dst=some d)(hit:(i ==t)=false)(N:Region.waitsFor md l.toArray t i=true)(J:Region.noSelect l.toArray=true) (C:Region.free md l.toArray listed i=true) (E:(Region.ready md l.toArray listed).contains i=true)(j:∀c a w,Q (.panic c) (a.put oi.dst v) w->Q (.panic c) a w) (Z:Region.wanted oi (yielded l.toArray a.tmps)=true) (hy:∀w,S w->(execOp a.eval oi).run P w=.ok (.value v) w) (u:S w)(h:YB P md l.toArray Q S t fuel (listed.setIfInBounds i true) (a.put (some d) v) w):YB P md l.toArray Q S t (fuel+1) listed a w:=
 Qt8 (Er D) hit N J C E j (.inl ⟨Z,hy⟩) u (by rw[y];exact h)
theorem tT{l rest:List Oper}(i:Nat){v:Value}{d:Nat}{oi:Oper}{fuel:Nat}{j listed':Array Bool}{a a':Act}{w:World}(h:YB P md l.toArray Q S t fuel listed' a' w)(E:l.drop i=oi::rest:=by rfl) (C:oi.dst=some d:=by rfl) (hit:(i ==t)=false:=by rfl) (hw:Region.waitsFor md l.toArray t i=true:=by kernel_rfl)
  (Z:Region.noSelect l.toArray=true:=by kernel_rfl) (D:Region.free md l.toArray j i=true:=by kernel_rfl) (N:(Region.ready md l.toArray j).contains i=true:=by kernel_rfl)
  (u:∀c a w,Q (.panic c) (a.put oi.dst v) w->Q (.panic c) a w:=by exact fun _ _ _ h=>h) (a0:Region.wanted oi (yielded l.toArray a.tmps)=true:=by rfl)
  (hy:∀w,S w->(execOp a.eval oi).run P w=.ok (.value v) w:=by intro W a1;go_simp<;>rfl) (y:S w:=by first|trivial|assumption)
  (hp:a.put (some d) v=a':=by first|(simp only[Act.put,List.setIfInBounds_toArray,List.set_cons_zero,List.set_cons_succ];rfl)|rfl)
  (J:j.setIfInBounds i true=listed':=by first|(simp only[List.setIfInBounds_toArray,List.set_cons_zero,List.set_cons_succ];rfl)|rfl):YB P md l.toArray Q S t (fuel+1) j a w:=
 Xp5 i d v E C hit hw Z D N u a0 hy y (by rw[hp,J];exact h)
theorem VU{l N:List Oper}i{o fuel listed a w}(E:Region.ready md l.toArray listed=[i])(D:l.drop i=o::N)(h:∀K',(∀a w,S w->(S w->YB P md l.toArray Q S t fuel (listed.setIfInBounds i true) a w)->K' a w)->if Region.wanted o (yielded l.toArray a.tmps)=true then Oper.wp P o a w K' Q else K' (a.put o.dst undef) w):YB P md l.toArray Q S t (fuel+1) listed a w:=
 Ni E Q3 (fun j y=>by rw[UN]at y;subst y;exact wpOp_step (Er D) fun K' C=>h K' (fun a w u J=>C a w ⟨fun _=>u,J u⟩))
theorem TV{l E:List Oper}{o fuel listed a w}(C:Region.ready md l.toArray listed=[t])(y:l.drop t=o::E)(h:∀K',(∀a w,YB P md l.toArray Q S t fuel (listed.setIfInBounds t true) a w->K' a w)->if Region.wanted o (yielded l.toArray a.tmps)=true then Oper.wp P o a w K' Q else K' (a.put o.dst undef) w):YB P md l.toArray Q S t (fuel+1) listed a w:=
 Ni C Q3 (fun j i=>by rw[UN]at i;subst i;exact wpOp_step (Er y) fun K' u=>h K' (fun a w D=>u a w ⟨fun e=>absurd rfl e,D⟩))
end
section
variable {P:Program} {ops:Array Oper} {Q:Exit->Act->World->Prop} {md:Region.Mode} {S:World->Prop} {T:Nat->Bool}
def ZY(P:Program)(md:Region.Mode)(ops:Array Oper)(Q:Exit->Act->World->Prop)(S:World->Prop)(T:Nat->Bool):Nat->Array Bool->Act->World->Prop
 |0,listed,a,w=>Region.ready md ops listed=[]/\Q .normal a w
 |fuel+1,listed,a,w=>
  (Region.ready md ops listed=[]->Q .normal a w)/\
  ∀i∈Region.ready md ops listed,wpOp P ops Q i (fun a' w'=>(T i=false->S w')/\ZY P md ops Q S T fuel (listed.setIfInBounds i true) a' w') a w
theorem Gv:∀(fuel:Nat)(listed:Array Bool)(a:Act)(w:World),ZY P md ops Q S T fuel listed a w->wpAny P md ops Q fuel listed a w
 |0,_,_,_,h=>h
 |fuel+1,_,_,_,h=>⟨h.1,fun i hi=>wpOp_mono (fun a' w' h'=>Gv fuel _ a' w' h'.2) (h.2 i hi)⟩
theorem Qp5{i oi v}(hi:ops[i]?=some oi)(hw:∀t,T t=true->Region.waitsFor md ops t i=true)(a5:∀(j:Nat)o cs b,ops[j]?=some o->o.op≠.select cs b)(hQ:∀c a w,Q (.panic c) (a.put oi.dst v) w->Q (.panic c) a w):∀fuel u a w,(∀j oj,ops[j]?=some oj->j≠i->u.getD j true=false->(∀e∈oj.after,Region.binds md e=true->e.on≠i)->oi.apart ops oj=true)->i∈Region.ready md ops u->YieldsIf P ops S oi v a->S w->ZY P md ops Q S T fuel (u.setIfInBounds i true) (a.put oi.dst v) w->ZY P md ops Q S T (fuel+1) u a w:=by
 intro fuel
 induction fuel with
 |zero=>
  intro u a w _ C Z D H;refine⟨fun h=>(by rw[h]at C;cases C),fun j J=>?_⟩
  by_cases y:j=i
  ·subst y;exact Z.wpOp hi D ⟨fun _=>D,H⟩
  have:=RE J y;rw[H.1]at this
  cases this
 |succ fuel ih=>
  intro u a w a0 C Z D H;refine⟨fun h=>(by rw[h]at C;cases C),fun j J=>?_⟩
  by_cases y:j=i
  ·subst y;exact Z.wpOp hi D ⟨fun _=>D,H⟩
  have h1:=H.2 j (RE J y);obtain⟨a3,oj,N,a7⟩:=RH.1 J;have a4:∀e∈oj.after,Region.binds md e=true->e.on≠i:=fun e he hb a8=>by
   have h1:=a7 e he hb;have h0:=(RH.1 C).1;rw[a8]at h1;obtain h'|h':=FT i u.size
   ·simp[h']at h0 h1;rw[h0]at h1;cases h1
   simp[Array.getElem?_eq_none h']at h1
  have a2:T j=false:=by
   cases hT:T j with
   |false=>rfl
   |true=>
    exfalso
    obtain⟨o',b2,e,he,hb,b5⟩:=Region.waitsFor_spec (hw j hT);have:o'=oj:=XG (b2.symm.trans N);subst this;exact a4 e he hb b5
  have h2:=wpOp_putIf N (a0 j oj N y a3 a4) (fun cs b=>a5 i oi cs b hi) (fun cs b=>a5 j oj cs b N) hQ Z h1;have a9:∀k ok,ops[k]?=some ok->k≠i->(u.setIfInBounds j true).getD k true=false->(∀e∈ok.after,Region.binds md e=true->e.on≠i)->oi.apart ops ok=true:=fun k ok hk b0 a6 b1=>by
   refine a0 k ok hk b0 ?_ b1
   by_cases a1:j=k
   ·subst a1;exact a3
   rw[getD_set_ne true a1]at a6;exact a6
  refine wpOp_mono (fun a' w' E=>⟨fun _=>E.2.1 a2,ih (u.setIfInBounds j true) a' w' a9 (RE C (Ne.symm y)) E.1 (E.2.1 a2) ?_⟩) h2;rw[Array.setIfInBounds_comm _ _ y];exact E.2.2
theorem Qt9{i oi v fuel listed a w}(j:ops[i]?=some oi)(J:∀t,T t=true->Region.waitsFor md ops t i=true)(E:Region.noSelect ops=true) (C:Region.free md ops listed i=true) (D:(Region.ready md ops listed).contains i=true)(u:∀c a w,Q (.panic c) (a.put oi.dst v) w->Q (.panic c) a w) (N:YieldsIf P ops S oi v a) (y:S w)(h:ZY P md ops Q S T fuel (listed.setIfInBounds i true) (a.put oi.dst v) w):ZY P md ops Q S T (fuel+1) listed a w:=
 Qp5 j J (Ao E) u fuel listed a w (Region.free_spec j C) (by simpa using D) N y h
theorem Nj{rs fuel listed a w}(j:Region.ready md ops listed=rs)(C:rs≠[])(h:∀i∈rs,wpOp P ops Q i (fun u w'=>(T i=false->S w')/\ZY P md ops Q S T fuel (listed.setIfInBounds i true) u w') a w):ZY P md ops Q S T (fuel+1) listed a w:=
 ⟨fun y=>absurd (j▸y) C,j▸h⟩
theorem XX{listed:Array Bool}{a:Act}{w:World}(hr:Region.ready md ops listed=[])(h:Q .normal a w):∀fuel,ZY P md ops Q S T fuel listed a w
 |0=>⟨hr,h⟩
 |_+1=>⟨fun _=>h,by rw[hr];simp⟩
theorem Ql7{id a w}T S(i:P.follows .mixedOrders=true)(h:ZY P .any ops Q S T ops.size (Array.replicate ops.size false) a {w with drawn:=w.drawn+1}):(Code.region id ops true).wp P Q a w:=
 wp_region_any i (Gv _ _ _ _ h)
theorem VR{id a w}T S(j:P.follows .mixedOrders=true)(i:S w.drew)(h:S w.drew->ZY P .any ops Q S T ops.size (Array.replicate ops.size false) a w.drew):(Code.region id ops true).wp P Q a w:=Ql7 T S j (h i)
theorem Ty{l u:List Oper}{i oi}(j:l.drop i=oi::u):l.toArray[i]?=some oi:=by
 have h:(l.drop i)[0]?=some oi:=by rw[j];rfl
 rw[Xg]at h;simpa using h
theorem Xp6{l a0:List Oper}(i d:Nat){oi}v{ts:List Nat}{fuel listed a w}(D:l.drop i=oi::a0)(y:oi.dst=some d)(N:(ts.all fun t=>Region.waitsFor md l.toArray t i)=true)(J:Region.noSelect l.toArray=true) (C:Region.free md l.toArray listed i=true) (E:(Region.ready md l.toArray listed).contains i=true)(j:∀c a w,Q (.panic c) (a.put oi.dst v) w->Q (.panic c) a w) (Z:Region.wanted oi (yielded l.toArray a.tmps)=true) (hy:∀w,S w->(execOp a.eval oi).run P w=.ok (.value v) w) (u:S w)(h:ZY P md l.toArray Q S (fun t=>ts.contains t) fuel (listed.setIfInBounds i true) (a.put (some d) v) w):ZY P md l.toArray Q S (fun t=>ts.contains t) (fuel+1) listed a w:=
 Qt9 (Ty D) (fun t ht=>RY.1 N t (by simpa using ht)) J C E j (.inl ⟨Z,hy⟩) u (by rw[y];exact h)
theorem BD{l J:List Oper}i{o fuel}{j:Array Bool}{a w}(D:l.drop i=o::J)(h:∀K',(∀a w,(T i=false->S w)->ZY P md l.toArray Q S T fuel (j.setIfInBounds i true) a w->K' a w)->if Region.wanted o (yielded l.toArray a.tmps)=true then Oper.wp P o a w K' Q else K' (a.put o.dst undef) w):wpOp P l.toArray Q i (fun u w'=>(T i=false->S w')/\ZY P md l.toArray Q S T fuel (j.setIfInBounds i true) u w') a w:=
 wpOp_step (Ty D) fun K' y=>h K' (fun a w C E=>y a w ⟨C,E⟩)
theorem Xp7{i fuel listed a w}(u:Region.ready md ops listed=[i])(h:wpOp P ops Q i (fun j w'=>(T i=false->S w')/\ZY P md ops Q S T fuel (listed.setIfInBounds i true) j w') a w):ZY P md ops Q S T (fuel+1) listed a w:=
 Nj u Q3 (fun k hk=>by rw[UN]at hk;subst hk;exact h)
theorem SX{i j fuel listed a w}(y:Region.ready md ops listed=[i,j])(h1:wpOp P ops Q i (fun u w'=>(T i=false->S w')/\ZY P md ops Q S T fuel (listed.setIfInBounds i true) u w') a w)(h2:wpOp P ops Q j (fun u w'=>(T j=false->S w')/\ZY P md ops Q S T fuel (listed.setIfInBounds j true) u w') a w):ZY P md ops Q S T (fuel+1) listed a w:=
 Nj y Q3 (fun k hk=>by
  rw[H8,UN]at hk;obtain rfl|rfl:=hk
  ·exact h1
  exact h2)
theorem tM{l rest:List Oper}(i:Nat){v:Value}{d:Nat}{oi:Oper}{ts:List Nat}{fuel:Nat}{j listed':Array Bool}{a a':Act}{w:World}(h:ZY P md l.toArray Q S (fun t=>ts.contains t) fuel listed' a' w)(E:l.drop i=oi::rest:=by rfl) (C:oi.dst=some d:=by rfl) (hw:(ts.all fun t=>Region.waitsFor md l.toArray t i)=true:=by kernel_rfl)
  (Z:Region.noSelect l.toArray=true:=by kernel_rfl) (D:Region.free md l.toArray j i=true:=by kernel_rfl) (N:(Region.ready md l.toArray j).contains i=true:=by kernel_rfl)
  (u:∀c a w,Q (.panic c) (a.put oi.dst v) w->Q (.panic c) a w:=by exact fun _ _ _ h=>h) (a0:Region.wanted oi (yielded l.toArray a.tmps)=true:=by rfl)
  (hy:∀w,S w->(execOp a.eval oi).run P w=.ok (.value v) w:=by intro W a1;go_simp<;>rfl) (y:S w:=by first|trivial|assumption)
  (hp:a.put (some d) v=a':=by first|(simp only[Act.put,List.setIfInBounds_toArray,List.set_cons_zero,List.set_cons_succ];rfl)|rfl)
  (J:j.setIfInBounds i true=listed':=by first|(simp only[List.setIfInBounds_toArray,List.set_cons_zero,List.set_cons_succ];rfl)|rfl):ZY P md l.toArray Q S (fun t=>ts.contains t) (fuel+1) j a w:=
 Xp6 i d v E C hw Z D N u a0 hy y (by rw[hp,J];exact h)
theorem oM{l rest:List Oper}(i:Nat){o:Oper}{fuel:Nat}{j listed':Array Bool}{a:Act}{w:World}(h:∀K':Act->World->Prop,(∀a w,(T i=false->S w)->ZY P md l.toArray Q S T fuel listed' a w->K' a w)->if Region.wanted o (yielded l.toArray a.tmps)=true then Oper.wp P o a w K' Q else K' (a.put o.dst undef) w)(y:l.drop i=o::rest:=by rfl) (C:Region.ready md l.toArray j=[i]:=by kernel_rfl)
  (u:j.setIfInBounds i true=listed':=by first|(simp only[List.setIfInBounds_toArray,List.set_cons_zero,List.set_cons_succ];rfl)|rfl):ZY P md l.toArray Q S T (fuel+1) j a w:=
 Xp7 C (BD i y (by rw[u];exact h))
end
section
variable {P:Program} {Q:Exit->Act->World->Prop} {md:Region.Mode} {Inv:(Nat->Bool)->Act->World->Prop} {l l0:List Oper}
def Jo(i:Nat)(L:Nat->Bool):Nat->Bool:=fun j=>j ==i ||L j
def FK:Act->List (Nat×Value)->Act
 |a,[]=>a
 |a,(d,v)::r=>FK (a.put (some d) v) r
theorem P6{a b:Act}(h:a=b:=by simp only[FK,Act.put,List.setIfInBounds_toArray,List.set_cons_zero,List.set_cons_succ]<;>rfl):a=b:=h
def WJ(md:Region.Mode)(o:Oper):List Nat:=(o.after.toList.filter fun e=>Region.binds md e).map (·.on)
theorem KJ{md:Region.Mode}{o:Oper}{L:Nat->Bool}(i:∀j∈WJ md o,L j=true)(j:Nat)(h:j∈WJ md o:=by decide):L j=true:=i j h
theorem Qd5{m L}(h:∀j,j<m->L j=true):∀j,j<m+1->Jo m L j=true:=fun j i=>by
 unfold Jo;obtain e|e:=FT j m
 ·rw[h j e,Bool.or_true]
 rw[show j=m by omega,beq_self_eq_true,Bool.true_or]
def Qs(P:Program)(md:Region.Mode)(l0:List Oper)(Q:Exit->Act->World->Prop)(Inv:(Nat->Bool)->Act->World->Prop):Nat->List Oper->Prop
 |_,[]=>True
 |i,o::r=>(∀L a w,L i=false->(∀j∈WJ md o,L j=true)->Inv L a w->∀K:Act->World->Prop,(∀a' w',Inv (Jo i L) a' w'->K a' w')->if Region.wanted o (yielded l0.toArray a.tmps)=true then Oper.wp P o a w K Q else K (a.put o.dst undef) w)/\Qs P md l0 Q Inv (i+1) r
theorem Qs.at_:∀{r:List Oper}{i k:Nat}{o:Oper},Qs P md l0 Q Inv i r->r[k]?=some o->∀L a w,L (i+k)=false->(∀j∈WJ md o,L j=true)->Inv L a w->∀K:Act->World->Prop,(∀a' w',Inv (Jo (i+k) L) a' w'->K a' w')->if Region.wanted o (yielded l0.toArray a.tmps)=true then Oper.wp P o a w K Q else K (a.put o.dst undef) w
 | [],_,_,_,_,h=>by cases h
 |_::_,_,0,_,h,e=>by cases e;exact h.1
 |_::r,i,k+1,o,h,e=>by
  have:=Qs.at_ (k:=k) h.2 e
  rwa [show i+1+k=i+(k+1) by omega]at this
theorem Rm:∀{l:List Bool}{i:Nat},l[i]?=some false->(l.set i true).count false+1=l.count false
 | [],_,h=>by cases h
 |b::l,0,h=>by cases h;simp
 |b::l,i+1,h=>by have:=Rm (l:=l) (i:=i) h;rw[Aw,List.count_cons,List.count_cons];omega
theorem Qp6(h:Qs P md l Q Inv 0 l)(hb:∀i o,l[i]?=some o->∀e∈o.after,Region.binds md e=true->e.on<i)(hQ:∀L a w,(∀j,j<l.length->L j=true)->Inv L a w->Q .normal a w):∀fuel(t:List Bool)a w,t.length=l.length->t.count false<=fuel->Inv (fun j=>t.getD j false) a w->wpAny P md l.toArray Q fuel t.toArray a w:=by
 have a2:∀(t:List Bool),t.length=l.length->Region.ready md l.toArray t.toArray=[]->∀j,j<l.length->t.getD j false=true:=by
  intro t ht hr j
  induction j using Nat.strongRecOn with
  |_ j ih=>
   intro u
   cases e:t.getD j false with
   |true=>rfl
   |false=>
    have:j∈Region.ready md l.toArray t.toArray:=RH.2 ⟨by simp[ht,u]at e|-;exact e,l[j],by simp[u],fun e' D Z=>by have h1:=hb j l[j] (by simp[u]) e' D Z;have h2:=ih e'.on h1 Q0;simpa using h2⟩
    rw[hr]at this
    cases this
 intro fuel
 induction fuel with
 |zero=>
  intro t a w ht hc C;have h0:∀j,j<l.length->t.getD j false=true:=fun j u=>by
   have:false∉t:=List.count_eq_zero.1 Q0;have h1:t[j]'(by omega)≠false:=fun e=>this (e▸C7 _)
   simp[ht,u];simpa using h1
  refine⟨?_,hQ _ a w h0 C⟩;rw[List.eq_nil_iff_forall_not_mem];intro j u;obtain⟨h1,o,J,-⟩:=RH.1 u;have E:j<l.length:=by simpa using(EC.1 J).1
  have:=h0 j E;simp[ht,E]at h1 this;rw[h1]at this
  cases this
 |succ fuel ih=>
  intro t a w ht hc C;refine⟨fun hr=>hQ _ a w (a2 t ht hr) C,fun j u=>?_⟩;obtain⟨h1,o,J,a1⟩:=RH.1 u;have E:j<l.length:=by simpa using(EC.1 J).1
  have h2:t[j]?=some false:=by simp[ht,E]at h1|-;exact h1
  refine wpOp_step J fun K hK=>?_
  have:=h.at_ (k:=j) (o:=o) (by simpa using J) (fun j=>t.getD j false) a w (by simp[h2]) (fun i C=>by obtain⟨e,D,rfl⟩:=Y4.1 C;obtain⟨D,Z⟩:=S4.1 D;simpa using a1 e (by simpa using D) Z) C K (fun a' w' h'=>hK a' w' ?_)
  ·exact this
  rw[show t.toArray.setIfInBounds j true=(t.set j true).toArray by simp];refine ih (t.set j true) a' w' (by simp[ht]) (by have:=Rm h2;omega) ?_;have e:Jo (0+j) (fun j=>t.getD j false)=fun i=>(t.set j true).getD i false:=by
   funext i
   unfold Jo
   by_cases a0:i=j
   ·subst a0;simp[ht,E]
   simp[a0,List.getElem?_set_ne (Ne.symm a0)]
  rw[<-e];exact h'
theorem Bw{id:Nat}{a:Act}{w:World}(I:Act->(Nat->Bool)->Act->World->Prop)(C:I a (fun _=>false) a w.drew)(h:Qs P .any l Q (I a) 0 l)(D:∀L u w,(∀j,j<l.length->L j=true)->I a L u w->Q .normal u w)(hm:P.follows .mixedOrders=true:=by kernel_rfl) (E:(l.zipIdx.all fun p=>p.1.after.all fun e=> !Region.binds .any e ||decide (e.on<p.2))=true:=by kernel_rfl):(Code.region id l.toArray true).wp P Q a w:=by
 refine wp_region_any hm ?_;have J:∀i o,l[i]?=some o->∀e∈o.after,Region.binds .any e=true->e.on<i:=fun i o ho e he Z=>by have h1:=RY.1 E (o,i) (by rw[List.mem_zipIdx_iff_getElem?];exact ho);have h2:=Array.all_eq_true_iff_forall_mem.1 h1 e he;rw[Z]at h2;simpa using h2
 have:=Qp6 h J D l.length (List.replicate l.length false) a w.drew Q3 Q3 (by
  have e:(fun j=>(List.replicate l.length false).getD j false)=fun _=>false:=by funext j;simp[List.getD_eq_getElem?_getD,List.getElem?_replicate];split<;>rfl
  rw[e];exact C)
 rw[show(List.replicate l.length false).toArray=Array.replicate l.toArray.size false by simp]at this;exact this
end
end
section
variable {α:Type} {r:α->Int}
def JD(r:α->Int)(x y:α×Nat):Prop:=r x.1<r y.1\/(r x.1=r y.1/\x.2<y.2)
theorem JD.trans{x y z}(h:JD r x y)(k:JD r y z):JD r x z:=by unfold JD at*;omega
theorem JD.asymm{x y}(h:JD r x y)(k:JD r y x):False:=by unfold JD at*;omega
theorem JD.of_not{x y}(h:¬r y.1<r x.1)(k:x.2<y.2):JD r x y:=by unfold JD;omega
def G8(r:α->Int)(L:List (α×Nat)):Prop:=L.Pairwise (JD r)
def YH(X Y:List (α×Nat)):Prop:=∀x∈X,∀y∈Y,x.2<y.2
def NZ(r:α->Int)(X Y:List (α×Nat)):Prop:=∀x∈X,∀y∈Y,JD r x y
theorem CA{X Y}:G8 r (X++Y)↔G8 r X/\G8 r Y/\NZ r X Y:=by unfold G8 NZ;rw[DZ]
theorem Jw7{L}(h:G8 r L){i j}(u:i<L.length)(C:j<L.length)(y:i<j):JD r L[i] L[j]:=(GG.1 h) i j u C y
theorem Tz{L}(h:G8 r L){i j}(u:i<L.length)(y:j<L.length)(C:i<=j):L[i]=L[j]\/JD r L[i] L[j]:=by
 by_cases e:i=j
 ·subst e;exact .inl rfl
 exact .inr (Jw7 h u y Q0)
theorem YH.perm{X i Y Y':List (α×Nat)}(h:YH X Y)(j:i.Perm X)(u:Y'.Perm Y):YH i Y':=fun x a y b=>h x (j.mem_iff.1 a) y (u.mem_iff.1 b)
theorem Qt{X Y:List (α×Nat)}(C:G8 r X)(D:G8 r Y)(h:∀(h1:0<X.length)(h2:0<Y.length),JD r (X[X.length-1]'(by omega)) Y[0]):NZ r X Y:=by
 intro x N y Z;obtain⟨i,E,rfl⟩:=ZX.1 N;obtain⟨j,J,rfl⟩:=ZX.1 Z;have u:=h Q0 Q0;have h1:X[i]=X[X.length-1]\/JD r X[i] X[X.length-1]:=Tz C E Q0 Q0;have h2:Y[0]=Y[j]\/JD r Y[0] Y[j]:=Tz D Q0 J Q0;obtain h1|h1:=h1<;>obtain h2|h2:=h2
 ·rw[h1,<-h2];exact u
 ·rw[h1];exact u.trans h2
 ·rw[<-h2];exact h1.trans u
 exact(h1.trans u).trans h2
structure VP(r:α->Int)(L R:List (α×Nat)):Prop where
 l:G8 r L
 r:G8 r R
 tag:YH L R
theorem VP.parts{L1 L2 R1 R2}(h:VP r (L1++L2) (R1++R2)):VP r L1 R1/\VP r L2 R2:=
 ⟨⟨(CA.1 h.l).1,(CA.1 h.r).1,fun x a y b=>h.tag x (T9 _ a) y (T9 _ b)⟩,⟨(CA.1 h.l).2.1,(CA.1 h.r).2.1,fun x a y b=>h.tag x (JJ _ a) y (JJ _ b)⟩⟩
theorem Jw8{X X' Y Y'}(h:NZ r X Y)(i:X'.Perm X)(j:Y'.Perm Y):NZ r X' Y':=fun x a y b=>h x (i.mem_iff.1 a) y (j.mem_iff.1 b)
theorem VP.joins{L1 L2 i C S1 S2:List (α×Nat)}(h:VP r (L1++L2) (i++C))(c1:∀(h1:0<L1.length)(h2:0<C.length),JD r (L1[L1.length-1]'(by omega)) C[0])(c2:∀(h1:0<i.length)(h2:0<L2.length),JD r (i[i.length-1]'(by omega)) L2[0])
  (D:S1.Perm (L1++i)) (s1:G8 r S1) (E:S2.Perm (L2++C)) (s2:G8 r S2):(S1++S2).Perm ((L1++L2)++(i++C))/\G8 r (S1++S2):=by
 obtain⟨J,N,Z⟩:=CA.1 h.l;obtain⟨b1,b2,b3⟩:=CA.1 h.r;have x1:=Qt J b2 c1;have x2:=Qt b1 N c2;refine⟨(D.append E).trans ?_,CA.2 ⟨s1,s2,Jw8 (X:=L1++i) (Y:=L2++C) (fun x j y u=>?_) D E⟩⟩
 ·rw[VW,VW]
  refine List.Perm.append_left _ ?_;rw[<-VW,<-VW];exact List.Perm.append_right _ List.perm_append_comm
 obtain j|j:=B8.1 j<;>obtain u|u:=B8.1 u
 ·exact Z x j y u
 ·exact x1 x j y u
 ·exact x2 x j y u
 exact b3 x j y u
theorem VP.one_l{x:α×Nat}{R:List (α×Nat)}{q:Nat}(h:VP r [x] R)(D:q<=R.length)(c1:∀(h2:q<R.length),¬r R[q].1<r x.1)(c2:∀(h1:0<q),r (R[q-1]'(by omega)).1<r x.1):
  (R.take q++x::R.drop q).Perm ([x]++R)/\G8 r (R.take q++x::R.drop q):=by
 have j:VP r ([]++[x]) (R.take q++R.drop q):=by rw[P9];exact h
 have i:=(CA.1 j.r);have k:=j.joins (S1:=R.take q) (S2:=x::R.drop q) (fun h1 _=>absurd h1 Q3) (fun h1 h2=>by
  have C:(R.take q).length=q:=by rw[R7];omega
  have u:0<q:=Q0;have e:(R.take q)[(R.take q).length-1]=R[q-1]'(by omega):=by simp[C]
  rw[e];exact .inl (c2 u)) Q3 i.1 Q3 (by
  have e:x::R.drop q=[x]++R.drop q:=rfl;rw[e];refine CA.2 ⟨h.l,i.2.1,Qt h.l i.2.1 (fun h1 h2=>?_)⟩;have y:q<R.length:=by rw[UQ]at h2;omega
  simp only[List.getElem_drop];refine JD.of_not (x:=x) (c1 (by simpa using y)) (h.tag x Q3 _ (C7 _)))
 rw[P9]at k;exact k
theorem VP.one_r{y:α×Nat}{L:List (α×Nat)}{q:Nat}(h:VP r L [y])(D:q<=L.length)(c1:∀(h2:q<L.length),r y.1<r L[q].1)(c2:∀(h1:0<q),¬r y.1<r (L[q-1]'(by omega)).1):
  (L.take q++y::L.drop q).Perm (L++[y])/\G8 r (L.take q++y::L.drop q):=by
 have j:VP r (L.take q++L.drop q) ([y]++[]):=by rw[P9];exact h
 have i:=(CA.1 j.l);have C:(L.take q).length=q:=by rw[R7];omega
 have k:=j.joins (S1:=L.take q++[y]) (S2:=L.drop q) (fun _ h2=>absurd h2 Q3) (fun h1 h2=>by
  have u:q<L.length:=by rw[UQ]at h2;omega
  have c:=c1 u;simp only[List.getElem_drop,List.length_singleton,Nat.sub_self,List.getElem_cons_zero,Nat.add_zero];exact .inl c) Q3 (CA.2 ⟨i.1,h.r,Qt i.1 h.r (fun h1 h2=>by
  have e:(L.take q)[(L.take q).length-1]=L[q-1]'(by omega):=by simp[C]
  rw[e];exact JD.of_not (c2 Q0) (h.tag _ (C7 _) _ Q3))⟩) Q3 i.2.1
 rw[P9,BF]at k;rw[VW]at k;exact k
theorem Qg7{L R:List (α×Nat)}{x:α×Nat}(h:G8 r (L++R))(ht:YH (L++R) [x])(N:NZ r [x] R)(J:∀(h1:0<L.length),¬r x.1<r (L[L.length-1]'(by omega)).1):G8 r (L++x::R):=by
 obtain⟨j,D,E⟩:=CA.1 h;have e:x::R=[x]++R:=rfl;have C:G8 r [x]:=WC _ _;have h1:NZ r L [x]:=Qt j C (fun h1 h2=>JD.of_not (J h1) (ht _ (T9 _ (C7 _)) _ Q3));rw[e];refine CA.2 ⟨j,CA.2 ⟨C,D,N⟩,fun u y v i=>?_⟩;obtain i|i:=B8.1 i
 ·exact h1 u y v i
 exact E u y v i
theorem Jw9{L' R x y}(h:G8 r (L'++(y::R)))(C:NZ r [x] R)(D:r x.1<r y.1):NZ r [x] (y::R):=by
 intro u j v i;simp at j;subst j;obtain rfl|i:=H8.1 i
 ·exact .inl D
 exact C u Q3 v i
inductive YN (r:α->Int) (bs:Nat):List (α×Nat)->Prop
 |last (L:List (α×Nat)) (h1:L.length<=bs) (h2:G8 r L):YN r bs L
 |cons (L T:List (α×Nat)) (h1:L.length=bs) (h2:G8 r L) (h3:YH L T) (h4:YN r bs T):YN r bs (L++T)
theorem YN.short{bs T}(h:YN r bs T)(i:T.length<=bs):G8 r T:=by
 cases h with
 |last L h1 h2=>exact h2
 |cons L T h1 h2 j u=>
  rw[B6]at i;have:T=[]:=EB Q0;subst this;rw[BF];exact h2
theorem YN.head{bs T}(h:YN r bs T)(C:bs<=T.length):∃L T',T=L++T'/\L.length=bs/\G8 r L/\YH L T'/\YN r bs T':=by
 cases h with
 |last L h1 h2=>exact⟨T,[],Q3,Q0,h2,fun x _ y u=>(by cases u),.last [] Q3 List.Pairwise.nil⟩
 |cons L T h1 h2 i j=>exact⟨L,T,rfl,h1,h2,i,j⟩
theorem YN.two{bs T}(h:YN r bs T)(J:bs<T.length):∃L R T',T=L++(R++T')/\L.length=bs/\R.length=min bs (T.length-bs)/\VP r L R/\YH (L++R) T'/\YN r bs T':=by
 obtain⟨L,C,rfl,h1,h2,u,D⟩:=h.head Q0;rw[B6]at J
 by_cases E:bs<=C.length
 ·obtain⟨R,T',rfl,k1,N,Z,k4⟩:=D.head E
  refine⟨L,R,T',rfl,h1,?_,⟨h2,N,fun x i y j=>u x i y (T9 _ j)⟩,fun x i y j=>?_,k4⟩
  ·rw[B6,B6];omega
  obtain i|i:=B8.1 i
  ·exact u x i y (JJ _ j)
  exact Z x i y j
 refine⟨L,C,[],Q3,h1,?_,⟨h2,D.short Q0,u⟩,fun x _ y j=>(by cases j),.last [] Q3 List.Pairwise.nil⟩;rw[B6];omega
def SK(r:α->Int)(bs:Nat)(P:List (α×Nat)):Prop:=∀Z,YN r bs Z->YH P Z->YN r bs (P++Z)
theorem Rn bs:SK r bs []:=fun Z h _=>h
theorem SK.snoc{bs P S}(h:SK r bs P)(u:S.length=bs)(C:G8 r S)(ht:YH P S):SK r bs (P++S):=fun Z D hp=>by
 rw[VW];refine h _ (.cons S Z u C (fun x j y i=>hp x (JJ _ j) y i) D) (fun x j y i=>?_);obtain i|i:=B8.1 i
 ·exact ht x j y i
 exact hp x (T9 _ j) y i
theorem SK.ends{bs P S}(h:SK r bs P)(i:S.length<=bs)(j:G8 r S)(ht:YH P S):YN r bs (P++S):=h S (.last S i j) ht
def ZB(r:α->Int)(L:List α)(x:α):List α:=L.takeWhile (fun y=>decide (r y<=r x))++x::L.dropWhile (fun y=>decide (r y<=r x))
def BR(r:α->Int)(l:List α):List α:=l.foldl (ZB r) []
def LC(r:α->Int)(L:List (α×Nat))(x:α×Nat):List (α×Nat):=L.takeWhile (fun y=>decide (r y.1<=r x.1))++x::L.dropWhile (fun y=>decide (r y.1<=r x.1))
theorem Jk7 L x:(LC r L x).map (·.1)=ZB r (L.map (·.1)) x.1:=by
 unfold LC ZB;rw[L6,T2,List.takeWhile_map,List.dropWhile_map]
 rfl
theorem Ja3 L x:(LC r L x).Perm (x::L):=by unfold LC;refine List.perm_middle.trans ?_;rw[LS]
theorem Ja4{L x}(h:G8 r L)(ht:YH L [x]):G8 r (LC r L x):=by
 have e:L.takeWhile (fun y=>decide (r y.1<=r x.1))++L.dropWhile (fun y=>decide (r y.1<=r x.1))=L:=LS;have u:∀y,(L.dropWhile (fun y=>decide (r y.1<=r x.1))).head?=some y->¬r y.1<=r x.1:=fun y i N=>by have:=List.head?_dropWhile_not (p:=fun y:α×Nat=>decide (r y.1<=r x.1)) L;rw[i]at this;simp at this;omega
 have C:∀y∈L.takeWhile (fun y=>decide (r y.1<=r x.1)),r y.1<=r x.1:=fun y i=>by have:=RY.1 (List.all_takeWhile (p:=fun y:α×Nat=>decide (r y.1<=r x.1)) (l:=L)) y i;simpa using this
 unfold LC;generalize L.takeWhile (fun y=>decide (r y.1<=r x.1))=A at*;generalize L.dropWhile (fun y=>decide (r y.1<=r x.1))=B at*;subst e;obtain⟨D,j,E⟩:=CA.1 h;refine Qg7 h ht ?_ (fun h1=>by have:=C _ (C7 (l:=A) (n:=A.length-1) Q0);omega);refine Qt (WC _ _) j (fun h1 h2=>?_);have J:=u B[0] (by rw[List.head?_eq_getElem?];exact JY h2);exact .inl Q7
theorem Jk8(l:List α):∀k L,G8 r L->(∀x∈L,x.2<k)->G8 r ((l.zipIdx k).foldl (LC r) L)/\((l.zipIdx k).foldl (LC r) L).Perm (L++l.zipIdx k)/\((l.zipIdx k).foldl (LC r) L).map (·.1)=l.foldl (ZB r) (L.map (·.1)):=by
 induction l with
 |nil=>intro k L h1 h2;exact⟨h1,Q3,rfl⟩
 |cons x t E=>
  intro k L h1 h2;rw[List.zipIdx_cons,JF,JF];have hp:=Ja3 (r:=r) L (x,k);obtain⟨u,C,D⟩:=E (k+1) (LC r L (x,k)) (Ja4 h1 (fun y i z j=>by simp at j;subst j;exact h2 y i)) (fun y i=>by
   obtain rfl|i:=H8.1 (hp.mem_iff.1 i)
   ·simp
   have:=h2 y i;omega)
  refine⟨u,C.trans ?_,by rw[D,Jk7]⟩;refine(hp.append_right _).trans ?_;rw[DV];exact List.perm_middle.symm
theorem Ro{l T}(hp:T.Perm l.zipIdx)(j:G8 r T):T.map (·.1)=BR r l:=by
 obtain⟨h1,h2,i⟩:=Jk8 (r:=r) l 0 [] List.Pairwise.nil (fun x u=>by cases u);rw[EE]at h2;have e:T=l.zipIdx.foldl (LC r) []:=Aj (le:=JD r) (fun a b _ _ h k=>(h.asymm k).elim) j h1 (hp.trans h2.symm);rw[e,i]
 rfl
