/- Contracts and walks that the law's proof needs. -/
import Derived.Laws.CopyRow
import Derived.Laws.CopyOwn
import Derived.Lib.AppendZerosOnto
import Derived.Lib.JoinLaws
import Derived.Lib.Overlaps
import Derived.Deep.RegionLaw
import Derived.Test.YtbmiieehkkfbgaaGreatDoorZd1
import Derived.WalkKit
import Derived.WalkLawsBesides
import Derived.WalkSpells
import Derived.Deep.LoopGhost
import Derived.Deep.DeepCutAuto
import Derived.Deep.CutBlock
import Derived.Shelf.Abstract
import Derived.Laws.EntriesVeiled
import Derived.Maps.AppendAt
import Derived.Deep.AppendLies
import Derived.Deep.AppendSrc
import Derived.Test.YtbmiieehkkfbgaaGreatDoorZd2
set_option linter.unusedVariables false
set_option maxRecDepth 100000
set_option maxHeartbeats 8000000
namespace Go.Proofs.YtbmiieehkkfbgaaGreatDoor
open Go.RowKit
theorem Z6 {P:Program} (w:World) (dT sT ty elem:TypeId) (k:Nat) (g o dLen dCap:Nat) (a:Addr) (sLen sCap:Nat) (cur:Array Value) (t:TypeId) (cs:List Value) (m:Nat) (hm:m=Nat.min sLen dLen)
  (hu:P.underlying dT=some (.slice elem)) (hs:(P.info? elem).map (·.size)=some k)
  (hg:w.heap[g]?=some (.cells cur t (0,0))) (hn:cs.length=m*k)
  (hsrc: ∀j v,cs[j]?=some v→w.cell? (a.add j)=some v) (hfit:o+cs.length≤cur.size) (h1: ∀v∈cs,v.oneCell'=true):
  (Builtin.copy_ #[dT,sT] ty #[.slice (some ⟨g,o,none⟩) dLen dCap,.slice (some a) sLen sCap]).run P w= .ok (goInt m) (w.setRow g (splice cur.toList o cs).toArray):=by
 subst hm
 have hst:=run_storeCells_at P g o t cs 0 cur w hg (by simpa using hfit) h1
 cases hq:P.info? elem with
 |none=>simp[hq]at hs
 |some i=>
  have hi:i.size=k:=by simpa [hq]using hs
  have hl:=run_firstCells_some (P:=P) w k (Nat.min sLen dLen) a sLen sCap cs hn hsrc;have e:cur.toList.take o++cs++cur.toList.drop (o+cs.length)=splice cur.toList o cs:=by unfold splice;rw[List.append_assoc]
  simp only[Nat.add_zero]at hst;rw[e]at hst;simp[Builtin.copy_,run_underlying hu,Builtin.lenOf,sizeOf,typeInfo,hq,hi,hl,hst]
theorem Qk6 {P:Program} {ops:Array Oper} {o:Oper} {a:Act} {w:World} {K:Act→World→Prop} {Q:Exit→Act→World→Prop} {E:Prop}
  (hg:o.guard=none) (d x:Operand) (dT sT:TypeId) (hop:o.op=Op.call {callee:=Callee.builtin Builtin.copy,args:= #[d,x],argTypes:= #[dT,sT]})
  (v u:Value) (hd:a.eval d=v) (hx:a.eval x=u) {v':Value} {w':World} (hr:(Builtin.copy_ #[dT,sT] o.type #[v,u]).run P w= .ok v' w') (hK:K (a.put o.dst v') w'):
  if Region.wanted o (yielded ops a.tmps)=true then Oper.wp P o a w K Q else E:=by
 have hw:Region.wanted o (yielded ops a.tmps)=true:=by simp[Region.wanted,hg]
 rw[if_pos hw]
 unfold Oper.wp
 simp[execOp,hop,resolve,invoke,builtin,hd,hx,hr,Result.andThen]
 exact hK
section
variable {w w':World} {g:Nat} {t:TypeId}
theorem QJ.setRow (w:World) (g:Nat) (cs cs':Array Value) (t:TypeId) (h:QJ w g t cs):QJ (w.setRow g cs') g t cs':=setRow_heap w g cs cs' t (0,0) h
theorem QK.setRow (w:World) (g:Nat) (cs:Array Value):QK (fun i=>i=g) w (w.setRow g cs):=⟨rfl,rfl,rfl,by simp[World.setRow],fun i _ hn=>setRow_other w g i cs (fun e=>hn e)⟩
theorem QJ.shape {w:World} {g:Nat} {t:TypeId} {cs:Array Value} (h:QJ w g t cs):w.shape? g=some (t,cs.size):=by
 unfold QJ at h
 simp[World.shape?,h]
theorem Qg9 {row:Option Nat} (h:w.grownBy w' row):QK (fun i=>row=some i) w w':=⟨h.os,h.tape,h.output,h.size,fun i hi hn=>h.block i hi (fun e=>hn e.symm)⟩
theorem QW.whole {n c sz:Nat} {xs:List Value} (h:QW w (some ⟨g,0,none⟩) n c t sz xs): ∃cur:List Value,QJ w g t cur.toArray∧n≤c∧c≤maxLen∧cur.length=c*sz∧cur.take (n*sz)=xs:=by
 rcases h.2 with⟨h1,_⟩|⟨g',cap,cur,hv,h1,h2,h3,h4,h5,h6⟩
 ·cases h1
 ·cases hv
  exact⟨cur.toList,by simpa [QJ]using h2,h3,h4,by simpa using h5,h6⟩
theorem QW.of_whole {n c sz:Nat} {cur:List Value} (hb:QJ w g t cur.toArray) (hn:n≤c) (hc:c≤maxLen) (hl:cur.length=c*sz):QW w (some ⟨g,0,none⟩) n c t sz (cur.take (n*sz)):=by
 have:n*sz≤c*sz:=Nat.mul_le_mul_right _ hn
 exact⟨by rw[List.length_take];omega,.inr ⟨g,c,cur.toArray,rfl,Nat.zero_le _,hb,hn,hc,by simpa using hl,by simp⟩⟩
end
theorem Jh0 (cur X V:List Value) (i n k:Nat) (hi:i≤n) (hX:cur.take (n*k)=X) (hV:V.length=k) (hl:(n+1)*k≤cur.length):
  (splice (splice cur ((i+1)*k) (X.drop (i*k))) (i*k) V).take ((n+1)*k)=X.take (i*k)++V++X.drop (i*k):=by
 have h1:i*k≤n*k:=Nat.mul_le_mul_right _ hi
 have e1:(i+1)*k=i*k+k:=Nat.succ_mul _ _
 have e2:(n+1)*k=n*k+k:=Nat.succ_mul _ _
 rw[e1,e2]
 rw[e2]at hl
 generalize i*k=a at*
 generalize n*k=b at*
 have hXl:X.length=b:=by rw[←hX,List.length_take];omega
 have hd:(X.drop a).length=b-a:=by rw[List.length_drop,hXl]
 have hta:X.take a=cur.take a:=by rw[←hX,List.take_take,Nat.min_eq_left h1]
 unfold splice
 rw[hV,hd,show a+k+ (b-a)=b+k by omega]
 have s1:(cur.take (a+k)++(X.drop a++cur.drop (b+k))).take a=cur.take a:=by
  rw[List.take_append_of_le_length (by rw[List.length_take];omega),List.take_take,Nat.min_eq_left (by omega)]
 have s2:(cur.take (a+k)++(X.drop a++cur.drop (b+k))).drop (a+k)=X.drop a++cur.drop (b+k):=by
  rw[List.drop_append,List.drop_eq_nil_of_le (by rw[List.length_take];omega),List.length_take,show a+k-min (a+k) cur.length=0 by omega];rfl
 rw[s1,s2,←hta]
 have hla:(X.take a).length=a:=by rw[List.length_take];omega
 rw[show X.take a++(V++(X.drop a++cur.drop (b+k)))=(X.take a++V++X.drop a)++cur.drop (b+k) by simp]
 rw[List.take_append_of_le_length (by simp only[List.length_append,hla,hV,hd];omega),List.take_of_length_le (by simp only[List.length_append,hla,hV,hd];omega)]
theorem Jn8 (cur X V:List Value) (i n k:Nat) (hi:i≤n) (hXl:X.length=n*k) (hX:cur.take (i*k)=X.take (i*k)) (hV:V.length=k) (hl:(n+1)*k≤cur.length):
  (splice (splice cur (i*k) V) ((i+1)*k) (X.drop (i*k))).take ((n+1)*k)=X.take (i*k)++V++X.drop (i*k):=by
 have h1:i*k≤n*k:=Nat.mul_le_mul_right _ hi
 have e1:(i+1)*k=i*k+k:=Nat.succ_mul _ _
 have e2:(n+1)*k=n*k+k:=Nat.succ_mul _ _
 rw[e1,e2]
 rw[e2]at hl
 generalize i*k=a at*
 generalize n*k=b at*
 have hd:(X.drop a).length=b-a:=by rw[List.length_drop,hXl]
 have hla:(X.take a).length=a:=by rw[List.length_take];omega
 unfold splice
 rw[hV,hd,hX,show a+k+ (b-a)=b+k by omega]
 have s1:(X.take a++(V++cur.drop (a+k))).take (a+k)=X.take a++V:=by
  rw[←List.append_assoc,List.take_append_of_le_length (by simp only[List.length_append,hla,hV];omega),List.take_of_length_le (by simp only[List.length_append,hla,hV];omega)]
 have hlen:(X.take a++(V++cur.drop (a+k))).length=cur.length:=by simp only[List.length_append,hla,hV,List.length_drop];omega
 rw[s1]
 rw[show X.take a++V++(X.drop a++(X.take a++(V++cur.drop (a+k))).drop (b+k))=(X.take a++V++X.drop a)++(X.take a++(V++cur.drop (a+k))).drop (b+k) by simp]
 rw[List.take_append_of_le_length (by simp only[List.length_append,hla,hV,hd];omega),List.take_of_length_le (by simp only[List.length_append,hla,hV,hd];omega)]
theorem Qo1 {α:Type} {enc:α→List Value} {k:Nat} (hk: ∀x,(enc x).length=k) (xs:List α) (y:α) (i:Nat):(JQ enc xs).take (i*k)++enc y++(JQ enc xs).drop (i*k)=JQ enc (xs.take i++y::xs.drop i):=by
 rw[Ja4 hk,Qe6,Ql5]
 have:(JQ enc xs).drop (i*k)=JQ enc (xs.drop i):=by
  have h:=Qe6 enc (xs.take i) (xs.drop i);rw[List.take_append_drop]at h
  by_cases hi:i≤xs.length
  ·rw[h,List.drop_append_of_le_length (by rw[YY hk,List.length_take];exact Nat.mul_le_mul_right _ (by omega)),List.drop_eq_nil_of_le (by rw[YY hk,List.length_take];exact Nat.mul_le_mul_right _ (by omega))];rfl
  ·rw[List.drop_eq_nil_of_le (show xs.length≤i by omega),List.drop_eq_nil_of_le (by rw[YY hk];exact Nat.mul_le_mul_right _ (by omega))];rfl
 rw[this,List.append_assoc]
theorem Qj8 (vs:List Value): ∀(l:List Value) (p:Nat),p+vs.length≤l.length→X7 l p vs=splice l p vs:=by
 induction vs with
 |nil=>intro l p h;simp[X7,splice]
 |cons v vs ih=>
  intro l p h;rw[List.length_cons]at h;rw[X7,ih _ _ (by rw[List.length_set];omega)];unfold splice;rw[List.length_cons,show p+1+vs.length=p+ (vs.length+1) by omega,List.drop_set_of_lt (by omega)];rw[List.take_succ_eq_append_getElem (by rw[List.length_set];omega),List.getElem_set_self,List.take_set_of_le (Nat.le_refl _)];simp
theorem QW.sets {t:TypeId} {g n c sz:Nat} (vs:List Value): ∀(w:World) (xs:List Value) (p:Nat),QW w (some ⟨g,0,none⟩) n c t sz xs→QW (w.setCells g p vs) (some ⟨g,0,none⟩) n c t sz (X7 xs p vs):=by
 induction vs with
 |nil=>intro w xs p h;exact h
 |cons v vs ih=>intro w xs p h;exact ih _ _ _ (h.set p v)
theorem Qt0 (X:List Value) (a b:Nat) (h1:a≤b) (h2:b≤X.length):(splice X a (X.drop b)).take (a+ (X.length-b))=X.take a++X.drop b:=by
 unfold splice
 rw[List.length_drop,←List.append_assoc]
 rw[List.take_append_of_le_length (by simp;omega),List.take_of_length_le (by simp;omega)]
theorem Je5 {α:Type} {enc:α→List Value} {k:Nat} (hk: ∀x,(enc x).length=k) (xs:List α) (i j:Nat) (hj:j≤xs.length):(JQ enc xs).take (i*k)++(JQ enc xs).drop (j*k)=JQ enc (xs.take i++xs.drop j):=by
 rw[Ja4 hk,Qe6]
 have:(JQ enc xs).drop (j*k)=JQ enc (xs.drop j):=by
  have h:=Qe6 enc (xs.take j) (xs.drop j);rw[List.take_append_drop]at h;rw[h,List.drop_append_of_le_length (by rw[YY hk,List.length_take];exact Nat.mul_le_mul_right _ (by omega)),List.drop_eq_nil_of_le (by rw[YY hk,List.length_take];exact Nat.mul_le_mul_right _ (by omega))];rfl
 rw[this]
def Qe1 (a p:Int):Int:=a-p
def Qd0 (qs:List XJ):Prop:=qs.Pairwise fun x y=>x.1<y.1
theorem Jn9 {p:Int} {qs:List XJ} (h:Qd0 qs) {i j:Nat} (hj:j<qs.length) (hij:i≤j) (hc:Qe1 qs[j].1 p<0):Qe1 (qs[i]'(by omega)).1 p<0:=by
 unfold Qe1 at*
 rcases Nat.lt_or_eq_of_le hij with hlt|rfl
 ·have:=List.pairwise_iff_getElem.1 h i j (by omega) hj hlt
  omega
 ·exact hc
def Ql9 (qs:List XJ) (p:Int) (n k:Nat):Bool:=decide (k<n) && (match qs[k]? with|some q=>Qe1 q.1 p ==0|none=>false)
theorem Jo0 {qs:List XJ} {p:Int} {n k:Nat} (hn:qs.length=n) (h:Ql9 qs p n k=true): ∃hk:k<qs.length,qs[k].1=p:=by
 unfold Ql9 at h
 rw[Bool.and_eq_true,decide_eq_true_eq]at h
 have hk:k<qs.length:=by omega
 rw[List.getElem?_eq_getElem hk]at h
 exact⟨hk,by have h2:(Qe1 qs[k].1 p ==0)=true:=h.2;rw[beq_iff_eq]at h2;unfold Qe1 at h2;omega⟩
theorem Jh1 {qs:List XJ} {p:Int} {n k:Nat} (hn:qs.length=n) (hr:Qd0 qs) (h:Ql9 qs p n k=false) (h1: ∀i (hi:i<qs.length),i<k→Qe1 qs[i].1 p<0) (h2: ∀i (hi:i<qs.length),k≤i→0≤Qe1 qs[i].1 p): ∀x∈qs,x.1≠p:=by
 intro x hx e
 obtain⟨i,hi,rfl⟩:=List.mem_iff_getElem.1 hx
 have hik: ¬i<k:=fun hik=>by have:=h1 i hi hik;unfold Qe1 at this;omega
 have hk:k<qs.length:=by omega
 have h3:Qe1 qs[k].1 p≠0:=by
  unfold Ql9 at h;rw[J0 (by omega:k<n),List.getElem?_eq_getElem hk]at h;exact fun e=>by
   have h4:(Qe1 qs[k].1 p ==0)=false:=h;rw[e]at h4;cases h4
 have h4:=h2 k hk (Nat.le_refl _)
 have h5:qs[k].1≤qs[i].1:=by
  rcases Nat.lt_or_eq_of_le (by omega:k≤i)with hlt|rfl
  ·exact Int.le_of_lt (List.pairwise_iff_getElem.1 hr k i hk hi hlt)
  ·exact Int.le_refl _
 unfold Qe1 at h3 h4
 omega
def Qp3 (a:Int):Prop:= -1099511627776≤a∧a≤1099511627776
theorem Xb4 (a b c p:Int) (ha:Qp3 a) (hp:Qp3 p) (w:World):Calls Tryz.prog 190 #[.agg #[.int .i64 a,.int .i64 b,.int .i64 c],.int .i64 p] w fun e w'=>e= .returned (.int .i64 (Qe1 a p))∧Below w.heap.size w w':=by
 have i1:RowKit.wrap64 (a-p)=a-p:=by unfold Qp3 at*;unfold RowKit.wrap64;omega
 have HB:=QQ (show Below w.heap.size w (w.alloc (.cells #[.int .i64 a,.int .i64 b,.int .i64 c] 249))from(Below.refl _ w).alloc (Nat.le_refl _) _)
 clear ha hp
 go_enter Tryz.func190,Tryz.ntmps190
 go_wp2
 go_ret
 exact⟨O9 (by unfold Qe1;first|rfl|omega|(rw[i1])),HB.out⟩
theorem Xy9 (a b c p:Int) (ha:Qp3 a) (hp:Qp3 p) (w:World):Calls Tryz.prog 189 #[.agg #[.int .i64 a,.int .i64 b,.int .i64 c],.int .i64 p] w fun e w'=>e= .returned (.int .i64 (Qe1 a p))∧Below w.heap.size w w':=by
 have i1:RowKit.wrap64 (a-p)=a-p:=by unfold Qp3 at*;unfold RowKit.wrap64;omega
 have HB:=QQ (show Below w.heap.size w (w.alloc (.cells #[.int .i64 a,.int .i64 b,.int .i64 c] 249))from(Below.refl _ w).alloc (Nat.le_refl _) _)
 clear ha hp
 go_enter Tryz.func189,Tryz.ntmps189
 go_wp2
 go_ret
 exact⟨O9 (by unfold Qe1;first|rfl|omega|(rw[i1])),HB.out⟩
theorem Jo1 (p:Int) (g:FuncId) (lb:Array Value) (A:Option Addr) (n c:Nat) (qs:List XJ) (w:World) (h:ZV w KW 3 A n qs) (hr:Qd0 qs) (hm:n≤100000)
  (eg: ∀args w,(callFunc g args).run Tryz.prog w= .ok (.enter g args) w)
  (hcmp: ∀W (q:XJ),q∈qs→Below w.heap.size w W→Calls Tryz.prog g (#[.agg #[.int .i64 q.1,.int .i64 q.2.1,.int .i64 q.2.2],.int .i64 p]++lb) W fun e w'=>e= .returned (.int .i64 (Qe1 q.1 p))∧Below W.heap.size W w'):
  Calls Tryz.prog 188 #[.slice A n c,.int .i64 p,.func (.func g) #[] lb] w fun e w'=>Below w.heap.size w w'∧ ∃k:Nat,k≤n∧(∀i (hi:i<qs.length),i<k→Qe1 qs[i].1 p<0)∧(∀i (hi:i<qs.length),k≤i→0≤Qe1 qs[i].1 p)∧
   e= .returned (.tuple #[.int .i64 k,.bool (Ql9 qs p n k)]):=by
 have HH:=QQ h
 have hl:=h.1
 have HL:=QQ hl
 have HR:=QQ hr
 have HC:=QQ hcmp
 clear h hr hcmp hl
 go_enter Tryz.func188,Tryz.ntmps188
 go_wp2_with fail
 go_loopg [9,10] n (fun gg s9 s10 wx=> ∃lo hi:Nat,lo≤hi∧hi≤n∧gg=hi-lo∧s9= .int .i64 lo∧s10= .int .i64 hi∧Below w.heap.size w wx∧Hid ((∀i (hi:i<qs.length),i<lo→Qe1 qs[i].1 p<0)∧(∀i (hx:i<qs.length),hi≤i→0≤Qe1 qs[i].1 p)))
 case atStart=>exact⟨0,n,Nat.zero_le _,Nat.le_refl _,rfl,rfl,rfl,Below.refl _ _,QQ ⟨fun i _ h=>absurd h (by omega),fun i hx h=>by have:=HL.out;omega⟩⟩
 case round=>
  obtain⟨lo,hi,hlh,hhn,rfl,rfl,rfl,hB,HI⟩:=hrel
  by_cases hlt:lo<hi
  ·have hltz:(lo:Int)< (hi:Int):=by omega
   go_upto_region 5 with fail
   have em:((lo:Int)+ (hi:Int))/2=(((lo+hi)/2:Nat):Int):=by omega
   have hm1:lo≤(lo+hi)/2:=by omega
   have hm2:(lo+hi)/2<hi:=by omega
   rw[em];generalize(lo+hi)/2=m at hm1 hm2⊢;clear em;have hml:m<qs.length:=by have:=HL.out;omega
   obtain⟨b,off,hA⟩: ∃b off,A=some ⟨b,off,none⟩:=by obtain⟨b,off,h1,_⟩:=HH.out.2 (by omega);exact⟨b,off,h1⟩
   subst hA;have hE:=HH.out.below hB (Nat.le_refl _);have x0:wr.cell? ⟨b,off+m*3,none⟩=some (.int .i64 qs[m].1):=hE.at_ hml (j:=0) rfl;have x1:wr.cell? ⟨b,off+m*3+1,none⟩=some (.int .i64 qs[m].2.1):=hE.at_ hml (j:=1) rfl;have x2:wr.cell? ⟨b,off+m*3+2,none⟩=some (.int .i64 qs[m].2.2):=hE.at_ hml (j:=2) rfl;have hcall:=HC.out wr qs[m] (List.getElem_mem hml) hB;have hi7:(0:Int)≤(m:Int):=by omega
   have hi8:(m:Int)< (n:Int):=by omega
   obtain⟨v,EV⟩: ∃v,Hid (Qe1 qs[m].1 p=v):=⟨_,QQ rfl⟩;rw[EV.out]at hcall;generalize qs[m].2.1=l0 at x1 hcall;generalize qs[m].2.2=l1 at x2 hcall;obtain⟨pr,EP⟩: ∃v,Hid (qs[m].1=v):=⟨_,QQ rfl⟩;rw[EP.out]at x0 hcall;have hsz:=hB.size;have HB:=QQ hB;clear hE hB
   by_cases hv:v<0
   ·have d1:decide (v<0)=true:=J0 hv
    have HV:=QQ hv;clear hv;go_wp2_with (go_at_fn g;refine hcall.mono ?_;rintro e w2 ⟨rfl,hb2⟩)
    go_roundg (hi- (m+1))
    case measure=>omega
    case rel=>exact⟨m+1,hi,by omega,hhn,rfl,by go_num,rfl,HB.out.trans (hb2.mono hsz),QQ ⟨fun i hx h=>Jn9 HR.out hml (by omega) (by rw[EV.out];exact HV.out),HI.out.2⟩⟩
   ·have d1:decide (v<0)=false:=OY hv
    have HV:=QQ hv;clear hv;go_wp2_with (go_at_fn g;refine hcall.mono ?_;rintro e w2 ⟨rfl,hb2⟩)
    go_roundg (m-lo)
    case measure=>omega
    case rel=>exact⟨lo,m,by omega,by omega,rfl,rfl,by go_num,HB.out.trans (hb2.mono hsz),QQ ⟨HI.out.1,fun i hx h=>by
     rcases Int.lt_or_le (Qe1 qs[i].1 p) 0 with h1|h1
     ·have:=Jn9 HR.out hx h h1
      rw[EV.out]at this;have h5:=HV.out;omega
     ·exact h1⟩⟩
  ·obtain rfl:lo=hi:=by omega
   have hltz: ¬(lo:Int)< (lo:Int):=by omega
   have HB:=QQ hB
   by_cases hkn:lo<n
   ·have hml:lo<qs.length:=by have:=HL.out;omega
    obtain⟨b,off,hA⟩: ∃b off,A=some ⟨b,off,none⟩:=by obtain⟨b,off,h1,_⟩:=HH.out.2 (by omega);exact⟨b,off,h1⟩
    subst hA;have hE:=HH.out.below hB (Nat.le_refl _);have x0:wr.cell? ⟨b,off+lo*3,none⟩=some (.int .i64 qs[lo].1):=hE.at_ hml (j:=0) rfl;have x1:wr.cell? ⟨b,off+lo*3+1,none⟩=some (.int .i64 qs[lo].2.1):=hE.at_ hml (j:=1) rfl;have x2:wr.cell? ⟨b,off+lo*3+2,none⟩=some (.int .i64 qs[lo].2.2):=hE.at_ hml (j:=2) rfl;have hcall:=HC.out wr qs[lo] (List.getElem_mem hml) hB;have hi7:(0:Int)≤(lo:Int):=by omega
    have hi8:(lo:Int)< (n:Int):=by omega
    have d1:decide ((lo:Int)< (n:Int))=true:=J0 hi8;have HG:Hid (Ql9 qs p n lo=(Qe1 qs[lo].1 p ==0)):=QQ (by unfold Ql9;rw[J0 hkn,List.getElem?_eq_getElem hml];rfl);generalize qs[lo].2.1=l0 at x1 hcall;generalize qs[lo].2.2=l1 at x2 hcall;obtain⟨v,EV⟩: ∃v,Hid (Qe1 qs[lo].1 p=v):=⟨_,QQ rfl⟩;rw[EV.out]at hcall;obtain⟨pr,EP⟩: ∃v,Hid (qs[lo].1=v):=⟨_,QQ rfl⟩;rw[EP.out]at x0 hcall;have hsz:=hB.size;clear hE hB;go_wp2_with (go_at_fn g;refine hcall.mono ?_;rintro e w2 ⟨rfl,hb2⟩)
    go_ret2;exact⟨HB.out.trans (hb2.mono hsz),lo,hhn,HI.out.1,HI.out.2,by rw[HG.out,EV.out];rfl⟩
   ·have d1:decide ((lo:Int)< (n:Int))=false:=OY (by omega)
    have hi8: ¬(lo:Int)< (n:Int):=by omega
    have HG:Hid (Ql9 qs p n lo=false):=QQ (by unfold Ql9;rw[OY hkn];rfl);clear hB;go_wp2_with fail
    go_ret2;exact⟨HB.out,lo,hhn,HI.out.1,HI.out.2,by rw[HG.out];rfl⟩
theorem QW.made (w:World) (t:TypeId) (sz:Nat):QW (w.alloc (.cells #[] t)) (some ⟨w.heap.size,0,none⟩) 0 0 t sz []:=
 ⟨by simp,.inr ⟨w.heap.size,0,#[],rfl,Nat.zero_le _,heap_alloc_new w _,Nat.le_refl _,Nat.zero_le _,by simp,by simp⟩⟩
section
variable {P:Program} {α:Type} {enc:α→List Value} {k:Nat} {w:World}
theorem Ju0 (hk: ∀x,(enc x).length=k) (hone: ∀x,∀u∈enc x,u.oneCell'=true) (t ty e:TypeId) (i:TypeInfo) (z:Value) (bytes:Nat) (ht:P.underlying t=some (.slice e)) (hi:P.info? e=some i) (hz:i.zero=some z)
  (hsize:i.size=k) (hby:i.bytes=bytes) (hzs:z.cells.size=k) (hk0:0<k)
  (Av:Option Addr) (n cv:Nat) (xs:List Value) (hown:QW w Av n cv e k xs) (A:Option Addr) (m c:Nat) (L:List α) (hE:ZV w enc k A m L) (h63:n+m≤maxLen) (hbytes:(n+m)*bytes≤140737488355328):
  ∃A' c' w',(Builtin.append_ #[t,t] ty #[.slice Av n cv,.slice A m c]).run P w= .ok (.slice A' (n+m) c') w'∧QW w' A' (n+m) c' e k (xs++JQ enc L)∧w.grownBy w' (QZ Av)∧ ∀g,QZ A'=some g→QZ Av=some g∨g=w.heap.size:=by
 cases A with
 |none=>
  have hm:m=0:=by
   rcases Nat.eq_zero_or_pos m with h|h
   ·exact h
   ·obtain⟨b,off,h1,-⟩:=hE.2 h
    cases h1
  subst hm;have hL:L= []:=List.eq_nil_of_length_eq_zero hE.1;subst hL;have hr:(Builtin.append_ #[t,t] ty #[.slice Av n cv,.slice none 0 c]).run P w= .ok (.slice Av n cv) w:=by
   rcases hown.2 with⟨h1,h2⟩|⟨g,cap,cur,hv,-,hb,hn,hc,hs,-⟩
   ·cases h1
    have hs:=Src.ofNil (size:=i.size) w ht c;simp[Builtin.append_,run_underlying ht,sizeOf,typeInfo,hi,hs.len,hs.cells]
   ·cases hv
    have h:=run_append_room_src (P:=P) (w:=w) t t ty e i ht hi g 0 n cv (.slice none 0 c) 0 [] (Src.ofNil w ht c) hn (by simp) (by simp);exact h
  exact⟨Av,cv,w,hr,by simpa [JQ]using hown,⟨rfl,rfl,rfl,Nat.le_refl _,fun _ _ _=>rfl⟩,fun g hg=> .inl hg⟩
 |some ad=>
  have hnews: ∀j u,(JQ enc L)[j]?=some u→w.cell? (ad.add j)=some u:=by
   rcases Nat.eq_zero_or_pos m with h|h
   ·have hL:L= []:=List.eq_nil_of_length_eq_zero (by have:=hE.1;omega)
    subst hL;intro j u hu;simp[JQ]at hu
   ·obtain⟨b,off,h1,-⟩:=hE.2 h
    cases h1;exact ZV.news hk hE
  have hone2: ∀u∈JQ enc L,u.oneCell'=true:=by
   intro u hu;unfold JQ at hu;simp at hu;obtain⟨x,-,hx⟩:=hu;exact hone x u hx
  obtain⟨v',w',hr,h2,h3,h4,h5⟩:=run_append_own_at (P:=P) w 0 t ty e i z k bytes ht hi hz hsize hby hzs hk0 (.slice Av n cv) n xs hown ad m c (JQ enc L) (by rw[YY hk,hE.1]) hnews hone2 h63 hbytes (Nat.zero_le _);rw[JW]at h3 h5;rcases h2.2 with⟨rfl,hz0⟩|⟨g,cap,cur,rfl,hrest⟩
  ·refine⟨none,0,w',by rw[hz0];exact hr,by rw[hz0]at h2;rw[hz0];exact h2,h3,by simp[QZ]⟩
  ·refine⟨some ⟨g,0,none⟩,cap,w',hr,h2,h3,fun g' hg'=> ?_⟩
   rcases h5 with h5|h5
   ·left;rw[←h5];exact hg'
   ·right
    have h6:some g'=some w.heap.size:=by rw[←h5];exact hg'.symm
    exact Option.some.inj h6
theorem Xb5 (hk: ∀x,(enc x).length=k) (hone: ∀x,∀u∈enc x,u.oneCell'=true) {o:Oper} {a:Act} {K:Act→World→Prop} {Q:Exit→Act→World→Prop} (s x:Operand) (t:TypeId)
  (ho:o.op= .call {callee:= .builtin .append,args:= #[s,x],argTypes:= #[t,t]})
  (e:TypeId) (i:TypeInfo) (z:Value) (bytes:Nat) (ht:P.underlying t=some (.slice e)) (hi:P.info? e=some i) (hz:i.zero=some z)
  (hsize:i.size=k) (hby:i.bytes=bytes) (hzs:z.cells.size=k) (hk0:0<k)
  (Av:Option Addr) (n cv:Nat) (xs:List Value) (hs:a.eval s= .slice Av n cv) (hown:QW w Av n cv e k xs) (A:Option Addr) (m c:Nat) (L:List α) (hx:a.eval x= .slice A m c) (hE:ZV w enc k A m L) (h63:n+m≤maxLen) (hbytes:(n+m)*bytes≤140737488355328)
  (h: ∀A' c' w',QW w' A' (n+m) c' e k (xs++JQ enc L)→w.grownBy w' (QZ Av)→(∀g,QZ A'=some g→QZ Av=some g∨g=w.heap.size)→K (a.put o.dst (.slice A' (n+m) c')) w'):o.wp P a w K Q:=by
 obtain⟨A',c',w',hr,h2,h3,h4⟩:=Ju0 (P:=P) hk hone t o.type e i z bytes ht hi hz hsize hby hzs hk0 Av n cv xs hown A m c L hE h63 hbytes
 unfold Oper.wp execOp
 simp only[ho,resolve,invoke,builtin,Sem.run_bind,Sem.run_pure,Result.andThen_ok,List.map_toArray,List.map_cons,List.map_nil,hs,hx,hr]
 exact h A' c' w' h2 h3 h4
theorem Jh2 (hk: ∀x,(enc x).length=k) (hone: ∀x,∀u∈enc x,u.oneCell'=true) {ops:Array Oper} {rest:List Oper} {o:Oper} {a:Act} {Q:Exit→Act→World→Prop} (hgd:o.guard=none) (s x:Operand) (t:TypeId)
  (ho:o.op= .call {callee:= .builtin .append,args:= #[s,x],argTypes:= #[t,t]})
  (e:TypeId) (i:TypeInfo) (z:Value) (bytes:Nat) (ht:P.underlying t=some (.slice e)) (hi:P.info? e=some i) (hz:i.zero=some z)
  (hsize:i.size=k) (hby:i.bytes=bytes) (hzs:z.cells.size=k) (hk0:0<k)
  (Av:Option Addr) (n cv:Nat) (xs:List Value) (hs:a.eval s= .slice Av n cv) (hown:QW w Av n cv e k xs) (A:Option Addr) (m c:Nat) (L:List α) (hx:a.eval x= .slice A m c) (hE:ZV w enc k A m L) (h63:n+m≤maxLen) (hbytes:(n+m)*bytes≤140737488355328)
  (h: ∀A' c' w',QW w' A' (n+m) c' e k (xs++JQ enc L)→w.grownBy w' (QZ Av)→(∀g,QZ A'=some g→QZ Av=some g∨g=w.heap.size)→wpList P ops Q rest (a.put o.dst (.slice A' (n+m) c')) w'):wpList P ops Q (o::rest) a w:=
 wpList_plain hgd fun _ hK=>Xb5 hk hone s x t ho e i z bytes ht hi hz hsize hby hzs hk0 Av n cv xs hs hown A m c L hx hE h63 hbytes fun A' c' w' h2 h3 h4=>hK _ _ (h A' c' w' h2 h3 h4)
end
end Go.Proofs.YtbmiieehkkfbgaaGreatDoor
