/- Contracts and walks that the law's proof needs. -/
import Derived.WalkKit
import Derived.Maps.OwnSet
import Derived.OrdersHeld
import Derived.StillTail
import Derived.RegionTactic
set_option linter.unusedVariables false
set_option maxRecDepth 100000
set_option maxHeartbeats 8000000
namespace Go.Proofs.YtnlngicnfegjgaaGreat
open Go.ChangeMaps Go.RowKit
structure IV (w w':World) (r:Nat):Prop where
 os:w'.os=w.os
 tape:w'.tape=w.tape
 output:w'.output=w.output
 size:w'.heap.size=w.heap.size
 block: ∀k,k≠r→w'.heap[k]?=w.heap[k]?
theorem IV.grown {w w':World} {r:Nat} (h:IV w w' r):w.grownBy w' (some r):=
 ⟨h.os,h.tape,h.output,Nat.le_of_eq h.size.symm,fun k _ hk=>h.block k (fun e=>hk (by rw[e]))⟩
theorem IV.below {w w':World} {r B:Nat} (h:IV w w' r) (hB:B≤r):Below B w w':=
 ⟨h.os,h.tape,h.output,Nat.le_of_eq h.size.symm,fun k hk=>h.block k (by omega)⟩
theorem IV.cell {w w':World} {r:Nat} (h:IV w w' r) {p:Addr} (hp:p.block≠r):w'.cell? p=w.cell? p:=World.cell?_of_block (h.block _ hp)
theorem UZ (w:World) (r:Nat) (o:Obj):IV w (setBlock w r o) r:=
 ⟨rfl,rfl,rfl,by simp[setBlock],fun k hk=>by simp only[setBlock];rw[Array.getElem?_setIfInBounds_ne (by omega)]⟩
def Kk1 (kd:TypeDesc):Prop:=(∃q,kd= .int q)∨kd= .string∨kd= .bool
theorem J7 {q:IntKind}:Kk1 (.int q):= .inl ⟨q,rfl⟩
def Q3 (w:World) (r:Nat) (es:List MapEntry) (c:Nat):Prop:=w.heap[r]?=some (.map es.toArray c)
section
variable {w w':World} {r c:Nat} {es:List MapEntry}
theorem Q3.lt (h:Q3 w r es c):r<w.heap.size:=(Array.getElem?_eq_some_iff.1 h).1
theorem Q3.of_block (h:Q3 w r es c) (hb:w'.heap[r]?=w.heap[r]?):Q3 w' r es c:=hb.trans h
theorem Q3.kept {row:Option Nat} (h:Q3 w r es c) (hg:w.grownBy w' row) (hne:some r≠row):Q3 w' r es c:=(hg.block r h.lt hne).trans h
theorem Q3.alloc (h:Q3 w r es c) (o:Obj):Q3 (w.alloc o) r es c:=h.kept (World.grownBy_alloc w o none) (by simp)
theorem Q3.made (w:World):Q3 (w.alloc (.map #[] 0)) w.heap.size [] 0:=heap_alloc_new w _
theorem Q3.below {B:Nat} (h:Q3 w r es c) (hb:Below B w w') (hr:r<B):Q3 w' r es c:=(hb.block r hr).trans h
theorem Q3.set (h:Q3 w r es c) (es':List MapEntry) (c':Nat):Q3 (setBlock w r (.map es'.toArray c')) r es' c':=by
 have:=h.lt
 simp only[Q3,setBlock]
 rw[Array.getElem?_setIfInBounds_self_of_lt this]
end
def Jp3 (kd:TypeDesc) (k:Value) (es:List MapEntry):Option (Option (Nat×Value)):=Instr.findNow kd k es 0
section
variable {P:Program} {t kt et:TypeId} {kd:TypeDesc} (ht:P.underlying t=some (.map kt et)) (hk:P.underlying kt=some kd) (hp:Kk1 kd) {w:World} {r c:Nat} {es:List MapEntry} (h:Q3 w r es c) (key val:Value)
include hk
theorem I3 (x:Option (Nat×Value)) (hf:Jp3 kd key es=some x) (w:World):(Instr.findKey kt key es).run P w= .ok x w:=by
 unfold Jp3 at hf
 simp[Instr.findKey,run_underlying hk,hf]
include hp
theorem U7 (em:Bool) (n:Nat) (v:Value) (w:World):(Instr.checkKey em (n+1) kt v).run P w= .ok () w:=by
 rcases hp with⟨q,rfl⟩|rfl|rfl<;>simp[Instr.checkKey,run_underlying hk]
include ht h
theorem Qa8 (hf:Jp3 kd key es=some none):
  (Instr.mapUpdate t (.map (some r)) key val).run P w= .ok () (setBlock w r (.map (es++ [(MapEntry.mk key val c)]).toArray (c+1))):=by
 have hr:w.heap[r]?=some (.map es.toArray c):=h
 simp[Instr.mapUpdate,run_underlying ht,getObj,Sem.run,hr,U7 hk hp,I3 hk key none hf,setObj,setBlock]
theorem Qo4 {z:Value} (hz:(zeroValue et).run P w= .ok z w) (ok:Bool) (x:Option (Nat×Value)) (hf:Jp3 kd key es=some x):
  (Instr.lookup t (.map (some r)) key ok).run P w= .ok (if ok then .tuple #[(x.map (·.2)).getD z,.bool x.isSome]else(x.map (·.2)).getD z) w:=by
 have hr:w.heap[r]?=some (.map es.toArray c):=h
 rcases x with _|⟨i,v⟩<;>
  simp[Instr.lookup,run_underlying ht,getObj,Sem.run,hr,U7 hk hp,I3 hk key _ hf,hz]
end
theorem Qa9 {P:Program} (w:World) {ops:Array Oper} {rest:List Oper} {o:Oper} {a:Act} {Q:Exit→Act→World→Prop}
  (hg:o.guard=none) (m x v:Operand) (t:TypeId) (hop:o.op=Op.insert t m x v) {kt et:TypeId} {kd:TypeDesc} (ht:P.underlying t=some (.map kt et)) (hk:P.underlying kt=some kd) (hp:Kk1 kd)
  (r c:Nat) (es:List MapEntry) (key val:Value) (hm:a.eval m= .map (some r)) (hx:a.eval x=key) (hv:a.eval v=val) (h:Q3 w r es c) (hf:Jp3 kd key es=some none)
  (hK: ∀w1,Q3 w1 r (es++ [MapEntry.mk key val c]) (c+1)→IV w w1 r→wpList P ops Q rest (a.put o.dst undef) w1):wpList P ops Q (o::rest) a w:=by
 refine wpList_plain hg fun K' hK'=> ?_
 have hrun:=Qa8 ht hk hp h key val hf
 unfold Oper.wp
 simp only[execOp,hop,hm,hx,hv]
 simp[hrun]
 exact hK' _ _ (hK _ (h.set _ _) (UZ _ _ _))
def Z2 (es:List MapEntry) (k:Int):Option Value:=(es.find? fun e=>match e.key with| .int .i64 n=>n ==k|_=>false).map (·.val)
def Qg9 (es:List MapEntry):Prop:= ∀e∈es,∃n:Int,e.key= .int .i64 n
def Je2 (e:MapEntry):Int:=match e.key with| .int .i64 n=>n|_=>0
theorem I4: ∀(es:List MapEntry) (k:Int) (i:Nat),Qg9 es→
  ∃x,Instr.findNow (.int .i64) (.int .i64 k) es i=some x∧x.map (·.2)=Z2 es k∧
   (∀j v,x=some (j,v)→i≤j∧ ∃(hj:j-i<es.length),(es[j-i]).key= .int .i64 k∧es[j-i].val=v∧ ∀m (hm:m<j-i),(es[m]'(by omega)).key≠ .int .i64 k)∧(x=none→ ∀e∈es,e.key≠ .int .i64 k)
 | [],k,i,_=>⟨none,rfl,rfl,by simp,by simp⟩
 |e::es,k,i,h=>by
  obtain⟨n,hn⟩:=h e (by simp);obtain⟨x,hx,hl,hs,hnn⟩:=I4 es k (i+1) (fun e' he'=>h e' (by simp[he']))
  by_cases hkn:k=n
  ·subst hkn
   refine⟨some (i,e.val),by simp[Instr.findNow,Instr.sameNow,hn],by simp[Z2,hn], ?_,by simp⟩;rintro j v hjv;simp only[Option.some.injEq,Prod.mk.injEq]at hjv;obtain⟨rfl,rfl⟩:=hjv;refine⟨Nat.le_refl _,by simp,by simpa using hn,by simp,fun m hm=>by omega⟩
  ·have hb:(k ==n)=false:=by simpa using hkn
   have hb':(n ==k)=false:=by simpa using fun e=>hkn e.symm
   refine⟨x,by simp[Instr.findNow,Instr.sameNow,hn,hb,hx],by rw[hl];simp[Z2,hn,hb'], ?_, ?_⟩
   ·rintro j v hjv
    obtain⟨h1,h2,h3,h4,h5⟩:=hs j v hjv;have e1:j-i=(j- (i+1))+1:=by omega
    refine⟨by omega,by simp only[List.length_cons];omega, ?_, ?_, ?_⟩
    ·simp only[e1,List.getElem_cons_succ];exact h3
    ·simp only[e1,List.getElem_cons_succ];exact h4
    ·intro m hm
     rcases m with _|m
     ·simp only[List.getElem_cons_zero,hn]
      intro e;injection e with _ e;exact hkn e.symm
     ·simp only[List.getElem_cons_succ]
      exact h5 m (by omega)
   ·rintro rfl e' he'
    rcases List.mem_cons.1 he' with rfl|he'
    ·rw[hn];intro e;injection e with _ e;exact hkn e.symm
    ·exact hnn rfl e' he'
def I6 (w:World) (r:Nat) (f:Int→Option Value):Prop:=
 ∃es c,Q3 w r es c∧Qg9 es∧(es.map Je2).Nodup∧ ∀k,Z2 es k=f k
def Z5 (f:Int→Option Value) (k:Int) (v:Option Value):Int→Option Value:=fun j=>if j=k then v else f j
section
variable {w w':World} {r:Nat} {f:Int→Option Value}
theorem I6.lt (h:I6 w r f):r<w.heap.size:=by obtain⟨es,c,h,_⟩:=h;exact h.lt
theorem I6.of_block (h:I6 w r f) (hb:w'.heap[r]?=w.heap[r]?):I6 w' r f:=by
 obtain⟨es,c,h,hr⟩:=h
 exact⟨es,c,h.of_block hb,hr⟩
theorem I6.kept {row:Option Nat} (h:I6 w r f) (hg:w.grownBy w' row) (hne:some r≠row):I6 w' r f:=h.of_block (hg.block r h.lt hne)
theorem I6.below {B:Nat} (h:I6 w r f) (hb:Below B w w') (hr:r<B):I6 w' r f:=h.of_block (hb.block r hr)
theorem I6.alloc (h:I6 w r f) (o:Obj):I6 (w.alloc o) r f:=h.kept (World.grownBy_alloc w o none) (by simp)
theorem I6.made (w:World):I6 (w.alloc (.map #[] 0)) w.heap.size fun _=>none:=
 ⟨[],0,Q3.made w,by simp[Qg9],by simp,by simp[Z2]⟩
variable {P:Program} {t kt et:TypeId} (ht:P.underlying t=some (.map kt et)) (hk:P.underlying kt=some (.int .i64))
theorem Qn1 {e:MapEntry} {n:Int} (h:e.key= .int .i64 n):Je2 e=n:=by simp[Je2,h]
include ht hk in
theorem I6.lookup (h:I6 w r f) {z:Value} (hz:(zeroValue et).run P w= .ok z w) (k:Int) (ok:Bool):
  (Instr.lookup t (.map (some r)) (.int .i64 k) ok).run P w= .ok (if ok then .tuple #[(f k).getD z,.bool (f k).isSome]else(f k).getD z) w:=by
 obtain⟨es,c,h,hK,_,hf⟩:=h
 obtain⟨x,hx,hl,_⟩:=I4 es k 0 hK
 rw[Qo4 ht hk J7 h _ hz ok x hx,hl,hf]
 have:x.isSome=(f k).isSome:=by rw[←hf,←hl];simp
 rw[this]
theorem Qk2: ∀(es:List MapEntry) (i:Nat) (k:Int) (v:Value),Qg9 es→(es.map Je2).Nodup→(hi:i<es.length)→es[i].key= .int .i64 k→
  ∀j,Z2 (es.modify i fun e=> {e with key:= .int .i64 k,val:=v}) j=Z5 (Z2 es) k (some v) j
 | [],i,k,v,_,_,hi,_=>by simp at hi
 |e::es,0,k,v,hK,hN,_,hkey=>by
  intro j;simp only[List.getElem_cons_zero]at hkey
  by_cases hj:j=k
  ·subst hj;simp[Z2,Z5]
  ·have hb:(k ==j)=false:=by simpa using fun e=>hj e.symm
   simp[Z2,Z5,hj,hkey,hb]
 |e::es,i+1,k,v,hK,hN,hi,hkey=>by
  intro j;simp only[List.getElem_cons_succ]at hkey;simp only[List.map_cons,List.nodup_cons]at hN;have ih:=Qk2 es i k v (fun e' he'=>hK e' (by simp[he'])) hN.2 (by simpa using hi) hkey j;obtain⟨n,hn⟩:=hK e (by simp);have hne:n≠k:=by
   rintro rfl;apply hN.1;rw[Qn1 hn];exact List.mem_map.2 ⟨es[i]'(by simpa using hi),List.getElem_mem _,Qn1 hkey⟩
  simp only[List.modify_succ_cons]
  by_cases hj:n=j
  ·subst hj
   simp[Z2,Z5,hn,hne]
  ·have hb:(n ==j)=false:=by simpa using hj
   simp only[Z2,List.find?_cons,hn,hb,Z5]at ih⊢;exact ih
theorem Qk3 (es:List MapEntry) (e:MapEntry) (k:Int) (hkey:e.key= .int .i64 k) (hno: ∀e'∈es,e'.key≠ .int .i64 k) (hK:Qg9 es):
  ∀j,Z2 (es++ [e]) j=Z5 (Z2 es) k (some e.val) j:=by
 intro j
 by_cases hj:j=k
 ·subst hj
  have:es.find? (fun e=>match e.key with| .int .i64 n=>n ==j|_=>false)=none:=by
   rw[List.find?_eq_none];intro e' he';obtain⟨n,hn⟩:=hK e' he';have:=hno e' he';rw[hn]at this⊢;simp only[beq_iff_eq];rintro rfl;exact this rfl
  simp[Z2,Z5,List.find?_append,this,hkey]
 ·have hb:(k ==j)=false:=by simpa using fun e=>hj e.symm
  simp[Z2,Z5,List.find?_append,hkey,hb,hj]
theorem Ql4 {es:List MapEntry} {i:Nat} {k:Int} {v:Value} (hK:Qg9 es):Qg9 (es.modify i fun e=> {e with key:= .int .i64 k,val:=v}):=by
 intro e he
 obtain⟨j,hj,rfl⟩:=List.mem_iff_getElem.1 he
 rw[List.getElem_modify]
 split
 ·exact⟨k,rfl⟩
 ·exact hK _ (List.getElem_mem _)
theorem Qj5 {es:List MapEntry} {i:Nat} {k:Int} {v:Value} (hi:i<es.length) (hkey:es[i].key= .int .i64 k):
  (es.modify i fun e=> {e with key:= .int .i64 k,val:=v}).map Je2=es.map Je2:=by
 apply List.ext_getElem
 ·simp
 ·intro j h1 h2
  simp only[List.getElem_map,List.getElem_modify]
  split
  ·rename_i hij
   subst hij;simp[Je2,hkey]
  ·rfl
include ht hk in
theorem I6.update (h:I6 w r f) (k:Int) (v:Value):
  ∃w',(Instr.mapUpdate t (.map (some r)) (.int .i64 k) v).run P w= .ok () w'∧I6 w' r (Z5 f k (some v))∧IV w w' r:=by
 obtain⟨es,c,h,hK,hN,hf⟩:=h
 obtain⟨x,hx,hl,hs,hno⟩:=I4 es k 0 hK
 have hfe:Z2 es=f:=funext hf
 rcases x with _|⟨i,v0⟩
 ·refine⟨_,Qa8 ht hk J7 h _ v hx,⟨_,_,h.set _ _, ?_, ?_, ?_⟩,UZ _ _ _⟩
  ·intro e he
   rcases List.mem_append.1 he with he|he
   ·exact hK e he
   ·simp at he;subst he;exact⟨k,rfl⟩
  ·rw[List.map_append,List.nodup_append]
   refine⟨hN,by simp, ?_⟩;intro a ha b hb;simp[Je2]at hb;subst hb;obtain⟨e,he,rfl⟩:=List.mem_map.1 ha;obtain⟨n,hn⟩:=hK e he;rw[Qn1 hn];rintro rfl;exact hno rfl e he hn
  ·rw[←hfe]
   exact Qk3 es (MapEntry.mk (.int .i64 k) v c) k rfl (hno rfl) hK
 ·obtain⟨_,h2,h3,h4,h5⟩:=hs i v0 rfl
  simp only[Nat.sub_zero]at h2 h3 h4;have hr:w.heap[r]?=some (.map es.toArray c):=h;refine⟨setBlock w r (.map (es.modify i fun e=> {e with key:= .int .i64 k,val:=v}).toArray c), ?_,⟨_,_,h.set _ _,Ql4 hK, ?_, ?_⟩,UZ _ _ _⟩
  ·have hst: ∀w0:World,(Instr.keyThatStays (.int .i64 k) (.int .i64 k)).run P w0= .ok (.int .i64 k) w0:=by
    intro w0;simp[Instr.keyThatStays,Instr.sameBits]
   have hidx:es[i]?=some es[i]:=by simp[h2]
   have e3:Instr.findNow (.int .i64) (.int .i64 k) es 0=some (some (i,v0)):=hx;simp[Instr.mapUpdate,run_underlying ht,getObj,Sem.run,hr,U7 hk J7,I3 hk (.int .i64 k) (some (i,v0)) e3,setObj,setBlock,hidx,h3,hst]
  ·rw[Qj5 h2 h3];exact hN
  ·rw[←hfe]
   exact Qk2 es i k v hK hN h2 h3
theorem Qv3: ∀(es:List MapEntry) (i:Nat) (k:Int),Qg9 es→(es.map Je2).Nodup→(hi:i<es.length)→es[i].key= .int .i64 k→
  ∀j,Z2 (es.eraseIdx i) j=Z5 (Z2 es) k none j
 | [],i,k,_,_,hi,_=>by simp at hi
 |e::es,0,k,hK,hN,_,hkey=>by
  intro j;simp only[List.getElem_cons_zero]at hkey;simp only[List.map_cons,List.nodup_cons,Qn1 hkey]at hN
  by_cases hj:j=k
  ·subst hj
   have:es.find? (fun e=>match e.key with| .int .i64 n=>n ==j|_=>false)=none:=by
    rw[List.find?_eq_none];intro e' he';obtain⟨n,hn⟩:=hK e' (by simp[he']);rw[hn];simp only[beq_iff_eq];rintro rfl;exact hN.1 (List.mem_map.2 ⟨e',he',Qn1 hn⟩)
   simp[Z2,Z5,this]
  ·have hb:(k ==j)=false:=by simpa using fun e=>hj e.symm
   simp[Z2,Z5,hj,hkey,hb]
 |e::es,i+1,k,hK,hN,hi,hkey=>by
  intro j;simp only[List.getElem_cons_succ]at hkey;simp only[List.map_cons,List.nodup_cons]at hN;have ih:=Qv3 es i k (fun e' he'=>hK e' (by simp[he'])) hN.2 (by simpa using hi) hkey j;obtain⟨n,hn⟩:=hK e (by simp);have hne:n≠k:=by
   rintro rfl;apply hN.1;rw[Qn1 hn];exact List.mem_map.2 ⟨es[i]'(by simpa using hi),List.getElem_mem _,Qn1 hkey⟩
  simp only[List.eraseIdx_cons_succ]
  by_cases hj:n=j
  ·subst hj
   simp[Z2,Z5,hn,hne]
  ·have hb:(n ==j)=false:=by simpa using hj
   simp only[Z2,List.find?_cons,hn,hb,Z5]at ih⊢;exact ih
include ht hk in
theorem I6.delete (h:I6 w r f) (k:Int) (a1 ty:TypeId):
  ∃w',(Builtin.delete_ #[t,a1] ty #[.map (some r),.int .i64 k]).run P w= .ok (.tuple #[]) w'∧I6 w' r (Z5 f k none)∧IV w w' r:=by
 obtain⟨es,c,h,hK,hN,hf⟩:=h
 obtain⟨x,hx,hl,hs,hno⟩:=I4 es k 0 hK
 have hfe:Z2 es=f:=funext hf
 have hr:w.heap[r]?=some (.map es.toArray c):=h
 rcases x with _|⟨i,v0⟩
 ·refine⟨setBlock w r (.map es.toArray c), ?_,⟨_,_,h.set _ _,hK,hN, ?_⟩,UZ _ _ _⟩
  ·have e3:Instr.findNow (.int .i64) (.int .i64 k) es 0=some none:=hx
   simp[Builtin.delete_,run_underlying ht,getObj,Sem.run,hr,U7 hk J7,I3 hk (.int .i64 k) none e3,setObj,setBlock]
  ·intro j
   rw[hf,Z5]
   split
   ·rename_i e;subst e;rw[←hf,←hl];rfl
   ·rfl
 ·obtain⟨_,h2,h3,h4,h5⟩:=hs i v0 rfl
  simp only[Nat.sub_zero]at h2 h3 h4;refine⟨setBlock w r (.map (es.eraseIdx i).toArray c), ?_,⟨_,_,h.set _ _,fun e he=>hK e (List.mem_of_mem_eraseIdx he), ?_, ?_⟩,UZ _ _ _⟩
  ·have e3:Instr.findNow (.int .i64) (.int .i64 k) es 0=some (some (i,v0)):=hx
   simp[Builtin.delete_,run_underlying ht,getObj,Sem.run,hr,U7 hk J7,I3 hk (.int .i64 k) (some (i,v0)) e3,setObj,setBlock]
  ·exact List.Nodup.sublist ((List.eraseIdx_sublist es i).map Je2) hN
  ·rw[←hfe]
   exact Qv3 es i k hK hN h2 h3
end
end Go.Proofs.YtnlngicnfegjgaaGreat
namespace Go.Proofs.YtnlngicnfegjgaaGreat
open Go
section
variable {P:Program} {ops:Array Oper} {Q:Exit→Act→World→Prop} {md:Region.Mode} {S:World→Prop} {t:Nat}
def I7 (P:Program) (md:Region.Mode) (ops:Array Oper) (Q:Exit→Act→World→Prop) (S:World→Prop) (t:Nat):Nat→Array Bool→Act→World→Prop
 |0,listed,a,w=>Region.ready md ops listed= []∧Q .normal a w
 |fuel+1,listed,a,w=>
  (Region.ready md ops listed= []→Q .normal a w)∧
  ∀i∈Region.ready md ops listed,wpOp P ops Q i (fun a' w'=>(i≠t→S w')∧I7 P md ops Q S t fuel (listed.setIfInBounds i true) a' w') a w
theorem Qv4: ∀(fuel:Nat) (listed:Array Bool) (a:Act) (w:World),I7 P md ops Q S t fuel listed a w→wpAny P md ops Q fuel listed a w
 |0,_,_,_,h=>h
 |fuel+1,_,_,_,h=>⟨h.1,fun i hi=>wpOp_mono (fun a' w' h'=>Qv4 fuel _ a' w' h'.2) (h.2 i hi)⟩
theorem Xe2 {i:Nat} {oi:Oper} {v:Value} (hi:ops[i]?=some oi) (hit:i≠t) (hw:Region.waitsFor md ops t i=true) (hsel: ∀(j:Nat) (o:Oper) cs b,ops[j]?=some o→o.op≠ .select cs b)
  (hQ: ∀c a w,Q (.panic c) (a.put oi.dst v) w→Q (.panic c) a w):
  ∀(fuel:Nat) (listed:Array Bool) (a:Act) (w:World),
   (∀j oj,ops[j]?=some oj→j≠i→listed.getD j true=false→(∀e∈oj.after,Region.binds md e=true→e.on≠i)→oi.apart ops oj=true)→
   i∈Region.ready md ops listed→YieldsIf P ops S oi v a→S w→
   I7 P md ops Q S t fuel (listed.setIfInBounds i true) (a.put oi.dst v) w→I7 P md ops Q S t (fuel+1) listed a w:=by
 intro fuel
 induction fuel with
 |zero=>
  intro listed a w _ hr hy hS H;refine⟨fun h=>(by rw[h]at hr;cases hr),fun j hj=> ?_⟩
  by_cases hji:j=i
  ·subst hji;exact hy.wpOp hi hS ⟨fun _=>hS,H⟩
  ·have:=ready_mono hj hji
   rw[H.1]at this
   cases this
 |succ fuel ih=>
  intro listed a w hfree hr hy hS H;refine⟨fun h=>(by rw[h]at hr;cases hr),fun j hj=> ?_⟩
  by_cases hji:j=i
  ·subst hji;exact hy.wpOp hi hS ⟨fun _=>hS,H⟩
  ·have h1:=H.2 j (ready_mono hj hji)
   obtain⟨hjun,oj,hoj,hall⟩:=mem_ready.1 hj;have hnot: ∀e∈oj.after,Region.binds md e=true→e.on≠i:=fun e he hb heq=>by
    have h1:=hall e he hb;have h0:=(mem_ready.1 hr).1;rw[heq]at h1;rcases Nat.lt_or_ge i listed.size with h'|h'
    ·simp[h']at h0 h1;rw[h0]at h1;cases h1
    ·simp[Array.getElem?_eq_none h']at h1
   have hjt:j≠t:=fun e=>by
    subst e;obtain⟨o',ho',e,he,hb,hon⟩:=Region.waitsFor_spec hw;have:o'=oj:=Option.some.inj (ho'.symm.trans hoj);subst this;exact hnot e he hb hon
   have h2:=wpOp_putIf hoj (hfree j oj hoj hji hjun hnot) (fun cs b=>hsel i oi cs b hi) (fun cs b=>hsel j oj cs b hoj) hQ hy h1;have hfree': ∀k ok,ops[k]?=some ok→k≠i→(listed.setIfInBounds j true).getD k true=false→
     (∀e∈ok.after,Region.binds md e=true→e.on≠i)→oi.apart ops ok=true:=fun k ok hk hki hun hno=>by
    refine hfree k ok hk hki ?_ hno
    by_cases hjk:j=k
    ·subst hjk;exact hjun
    ·rw[getD_set_ne true hjk]at hun;exact hun
   refine wpOp_mono (fun a' w' h3=>⟨fun _=>h3.2.1 hjt,ih (listed.setIfInBounds j true) a' w' hfree' (ready_mono hr (Ne.symm hji)) h3.1 (h3.2.1 hjt) ?_⟩) h2;rw[Array.setIfInBounds_comm _ _ hji];exact h3.2.2
theorem Xi7 {i:Nat} {oi:Oper} {v:Value} {fuel:Nat} {listed:Array Bool} {a:Act} {w:World} (hi:ops[i]?=some oi) (hit:(i ==t)=false) (hw:Region.waitsFor md ops t i=true)
  (hs:Region.noSelect ops=true) (hf:Region.free md ops listed i=true) (hr:(Region.ready md ops listed).contains i=true)
  (hQ: ∀c a w,Q (.panic c) (a.put oi.dst v) w→Q (.panic c) a w) (hy:YieldsIf P ops S oi v a) (hS:S w)
  (h:I7 P md ops Q S t fuel (listed.setIfInBounds i true) (a.put oi.dst v) w):I7 P md ops Q S t (fuel+1) listed a w:=
 Xe2 hi (by simpa using hit) hw (Region.noSelect_spec hs) hQ fuel listed a w (Region.free_spec hi hf) (by simpa using hr) hy hS h
theorem Jp4 {rs:List Nat} {fuel:Nat} {listed:Array Bool} {a:Act} {w:World} (hr:Region.ready md ops listed=rs) (hne:rs≠ [])
  (h: ∀i∈rs,wpOp P ops Q i (fun a' w'=>(i≠t→S w')∧I7 P md ops Q S t fuel (listed.setIfInBounds i true) a' w') a w):I7 P md ops Q S t (fuel+1) listed a w:=
 ⟨fun h0=>absurd (hr▸h0) hne,hr▸h⟩
theorem Qn2 {listed:Array Bool} {a:Act} {w:World} (hr:Region.ready md ops listed= []) (h:Q .normal a w):
  ∀fuel,I7 P md ops Q S t fuel listed a w
 |0=>⟨hr,h⟩
 |_+1=>⟨fun _=>h,by rw[hr];simp⟩
theorem Jo1 {id:Nat} {a:Act} {w:World} (t:Nat) (S:World→Prop) (hm:P.follows .mixedOrders=true)
  (h:I7 P .any ops Q S t ops.size (Array.replicate ops.size false) a {w with drawn:=w.drawn+1}):(Code.region id ops true).wp P Q a w:=
 wp_region_any hm (Qv4 _ _ _ _ h)
theorem U8 {id:Nat} {a:Act} {w:World} (t:Nat) (S:World→Prop) (hm:P.follows .mixedOrders=true) (hS:S w.drew)
  (h:S w.drew→I7 P .any ops Q S t ops.size (Array.replicate ops.size false) a w.drew):(Code.region id ops true).wp P Q a w:=Jo1 t S hm (h hS)
theorem Xe3 {l rest:List Oper} {i:Nat} {oi:Oper} (hl:l.drop i=oi::rest):l.toArray[i]?=some oi:=by
 have h:(l.drop i)[0]?=some oi:=by rw[hl];rfl
 rw[List.getElem?_drop]at h
 simpa using h
theorem Ky2 {l rest:List Oper} (i d:Nat) {oi:Oper} (v:Value) {fuel:Nat} {listed:Array Bool} {a:Act} {w:World} (hl:l.drop i=oi::rest) (hd:oi.dst=some d) (hit:(i ==t)=false) (hw:Region.waitsFor md l.toArray t i=true)
  (hs:Region.noSelect l.toArray=true) (hf:Region.free md l.toArray listed i=true) (hr:(Region.ready md l.toArray listed).contains i=true)
  (hQ: ∀c a w,Q (.panic c) (a.put oi.dst v) w→Q (.panic c) a w) (hwn:Region.wanted oi (yielded l.toArray a.tmps)=true) (hy: ∀w,S w→(execOp a.eval oi).run P w= .ok (.value v) w) (hS:S w)
  (h:I7 P md l.toArray Q S t fuel (listed.setIfInBounds i true) (a.put (some d) v) w):I7 P md l.toArray Q S t (fuel+1) listed a w:=
 Xi7 (Xe3 hl) hit hw hs hf hr hQ (.inl ⟨hwn,hy⟩) hS (by rw[hd];exact h)
theorem tT {l rest:List Oper} (i:Nat) (v:Value) {d:Nat} {oi:Oper} {fuel:Nat} {listed listed':Array Bool} {a a':Act} {w:World}
  (h:I7 P md l.toArray Q S t fuel listed' a' w)
  (hl:l.drop i=oi::rest:=by rfl) (hd:oi.dst=some d:=by rfl) (hit:(i ==t)=false:=by rfl) (hw:Region.waitsFor md l.toArray t i=true:=by kernel_rfl)
  (hs:Region.noSelect l.toArray=true:=by kernel_rfl) (hf:Region.free md l.toArray listed i=true:=by kernel_rfl) (hr:(Region.ready md l.toArray listed).contains i=true:=by kernel_rfl)
  (hQ: ∀c a w,Q (.panic c) (a.put oi.dst v) w→Q (.panic c) a w:=by exact fun _ _ _ h=>h) (hwn:Region.wanted oi (yielded l.toArray a.tmps)=true:=by rfl)
  (hy: ∀w,S w→(execOp a.eval oi).run P w= .ok (.value v) w:=by intro W hSw;go_simp) (hS:S w:=by first|trivial|assumption)
  (hp:a.put (some d) v=a':=by first|(simp only[Act.put,List.setIfInBounds_toArray,List.set_cons_zero,List.set_cons_succ];rfl)|rfl)
  (hli:listed.setIfInBounds i true=listed':=by first|(simp only[List.setIfInBounds_toArray,List.set_cons_zero,List.set_cons_succ];rfl)|rfl):I7 P md l.toArray Q S t (fuel+1) listed a w:=
 Ky2 i d v hl hd hit hw hs hf hr hQ hwn hy hS (by rw[hp,hli];exact h)
theorem Y5 {l rest:List Oper} (i:Nat) {o:Oper} {fuel:Nat} {listed:Array Bool} {a:Act} {w:World} (hr:Region.ready md l.toArray listed= [i]) (ho:l.drop i=o::rest)
  (h: ∀K':Act→World→Prop,(∀a w,S w→(S w→I7 P md l.toArray Q S t fuel (listed.setIfInBounds i true) a w)→K' a w)→if Region.wanted o (yielded l.toArray a.tmps)=true then Oper.wp P o a w K' Q else K' (a.put o.dst undef) w):I7 P md l.toArray Q S t (fuel+1) listed a w:=
 Jp4 hr (by simp) (fun j hj=>by
  rw[List.mem_singleton]at hj;subst hj;exact wpOp_step (Xe3 ho) fun K' hK=>h K' (fun a w hS hw=>hK a w ⟨fun _=>hS,hw hS⟩))
theorem Qn3 {l rest:List Oper} {o:Oper} {fuel:Nat} {listed:Array Bool} {a:Act} {w:World} (hr:Region.ready md l.toArray listed= [t]) (ho:l.drop t=o::rest)
  (h: ∀K':Act→World→Prop,(∀a w,I7 P md l.toArray Q S t fuel (listed.setIfInBounds t true) a w→K' a w)→if Region.wanted o (yielded l.toArray a.tmps)=true then Oper.wp P o a w K' Q else K' (a.put o.dst undef) w):I7 P md l.toArray Q S t (fuel+1) listed a w:=
 Jp4 hr (by simp) (fun j hj=>by
  rw[List.mem_singleton]at hj;subst hj;exact wpOp_step (Xe3 ho) fun K' hK=>h K' (fun a w hw=>hK a w ⟨fun e=>absurd rfl e,hw⟩))
end
end Go.Proofs.YtnlngicnfegjgaaGreat
