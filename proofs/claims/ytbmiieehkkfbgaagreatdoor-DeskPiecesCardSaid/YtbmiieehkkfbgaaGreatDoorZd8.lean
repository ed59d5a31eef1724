/- Contracts and walks that the law's proof needs. -/
import Derived.WalkKit
import Derived.WalkLawsBesides
import Derived.WalkSpells
import Derived.Deep.QuietTactic
import Derived.BigQuiet
import Derived.Test.YtbmiieehkkfbgaaGreatDoorZd1
import Derived.Test.YtbmiieehkkfbgaaGreatDoorZd7
import Derived.Test.YtbmiieehkkfbgaaGreatDoorRows
import Derived.Deep.LoopGhost
import Derived.Deep.DeepCutAuto
import Derived.Shelf.Abstract
import Derived.Laws.EntriesVeiled
import Derived.Laws.CopyRow
import Derived.Laws.CopyOwn
import Derived.Lib.AppendZerosOnto
import Derived.Lib.JoinLaws
import Derived.Lib.Overlaps
import Derived.Deep.RegionLaw
import Derived.Deep.AppendLies
import Derived.Deep.AppendSrc
import Derived.Laws.Externs
import Derived.Laws.NewBlocks
set_option linter.unusedVariables false
set_option maxRecDepth 100000
set_option maxHeartbeats 8000000
namespace Go.Proofs.YtbmiieehkkfbgaaGreatDoor
open Go.RowKit
def Qi3 (side a b:Int):Bool:=if side=1 then decide (b<a)else decide (a<b)
def Y5 (side a b:Int):Int:=if a=b then 0 else if Qi3 side a b=true then -1 else 1
theorem Ju1 (side a b:Int) (w:World):Calls Tryz.prog 187 #[.int .i64 side,.int .i64 a,.int .i64 b] w fun e w'=>e= .returned (.bool (Qi3 side a b))∧w=w':=by
 by_cases h:side=1
 ·have t:=Z2 h
  have E:Hid (Qi3 side a b=decide (b<a)):=QQ (by unfold Qi3;rw[if_pos h]);clear h;go_enter Tryz.func187,Tryz.ntmps187
  go_wp2;go_ret;exact⟨Q5 (by rw[E.out]),rfl⟩
 ·have t:=YW h
  have E:Hid (Qi3 side a b=decide (a<b)):=QQ (by unfold Qi3;rw[if_neg h]);clear h;go_enter Tryz.func187,Tryz.ntmps187
  go_wp2;go_ret;exact⟨Q5 (by rw[E.out]),rfl⟩
theorem Xp3 (side a b:Int) (L:Value) (g:Nat) (w:World) (hl: ∃A n c,L= .slice A n c) (hc:w.cell? ⟨g,0,none⟩=some (.int .i64 side)):
  Calls Tryz.prog 186 #[.agg #[.int .i64 a,L],.int .i64 b,.pointer (some ⟨g,0,none⟩)] w fun e w'=>e= .returned (.int .i64 (Y5 side a b))∧Below w.heap.size w w':=by
 obtain⟨A,n,c,rfl⟩:=hl
 have hg:=World.block_lt_of_cell? w _ hc
 have hc2:=(World.cell?_alloc_lt w (.cells #[.int .i64 a,.slice A n c] 236) ⟨g,0,none⟩ hg).trans hc
 have HB:=QQ (show Below w.heap.size w (w.alloc (.cells #[.int .i64 a,.slice A n c] 236))from(Below.refl _ w).alloc (Nat.le_refl _) _)
 by_cases h:a=b
 ·have t:=Z2 h
  have E:Hid (Y5 side a b=0):=QQ (by unfold Y5;rw[if_pos h]);clear h;go_enter Tryz.func186,Tryz.ntmps186
  go_wp2_with fail
  go_ret;exact⟨O9 (by rw[E.out]),HB.out⟩
 ·have t:=YW h
  cases hb:Qi3 side a b with
  |true=>
   have E:Hid (Y5 side a b= -1):=QQ (by unfold Y5;rw[if_neg h,hb];rfl);have HQ:=QQ hb;clear h hb;go_enter Tryz.func186,Tryz.ntmps186
   go_wp2_with (go_at_call 187;refine(Ju1 _ _ _ _).mono ?_;rintro e w1 ⟨rfl,rfl⟩;rw[HQ.out])
   all_goals go_wp2
   all_goals
    go_ret;exact⟨O9 (by rw[E.out]),HB.out⟩
  |false=>
   have E:Hid (Y5 side a b=1):=QQ (by unfold Y5;rw[if_neg h,hb];rfl);have HQ:=QQ hb;clear h hb;go_enter Tryz.func186,Tryz.ntmps186
   go_wp2_with (go_at_call 187;refine(Ju1 _ _ _ _).mono ?_;rintro e w1 ⟨rfl,rfl⟩;rw[HQ.out])
   all_goals go_wp2
   all_goals
    go_ret;exact⟨O9 (by rw[E.out]),HB.out⟩
abbrev Que:=Int×Option Addr×Nat×Nat
def OQ (q:Que):List Value:= [.int .i64 q.1,.slice q.2.1 q.2.2.1 q.2.2.2]
theorem KX (q:Que):(OQ q).length=2:=rfl
def Qq9 (side:Int) (qs:List Que):Prop:=qs.Pairwise fun x y=>Qi3 side x.1 y.1=true
theorem Xz0 {side a b c:Int} (h1:Qi3 side a b=true) (h2:Qi3 side b c=true):Qi3 side a c=true:=by
 unfold Qi3 at*
 split at h1<;>split at h2<;>simp_all<;>omega
theorem Ju2 {side a b:Int}:Y5 side a b<0↔Qi3 side a b=true:=by
 unfold Y5 Qi3
 by_cases h:a=b
 ·subst h;simp
 ·rw[if_neg h]
  split<;>split<;>simp_all
theorem Ju3 {side p:Int} {qs:List Que} (h:Qq9 side qs) {i j:Nat} (hj:j<qs.length) (hij:i≤j) (hc:Y5 side qs[j].1 p<0):Y5 side (qs[i]'(by omega)).1 p<0:=by
 rcases Nat.lt_or_eq_of_le hij with hlt|rfl
 ·rw[Ju2]at hc⊢
  exact Xz0 (List.pairwise_iff_getElem.1 h i j (by omega) hj hlt) hc
 ·exact hc
theorem Xz1 (side p:Int) (g:FuncId) (lb:Array Value) (A:Option Addr) (n c:Nat) (qs:List Que) (w:World) (h:ZV w OQ 2 A n qs) (hr:Qq9 side qs) (hm:n≤100000)
  (eg: ∀args w,(callFunc g args).run Tryz.prog w= .ok (.enter g args) w)
  (hcmp: ∀W (q:Que),Below w.heap.size w W→Calls Tryz.prog g (#[.agg #[.int .i64 q.1,.slice q.2.1 q.2.2.1 q.2.2.2],.int .i64 p]++lb) W fun e w'=>e= .returned (.int .i64 (Y5 side q.1 p))∧Below W.heap.size W w'):
  Calls Tryz.prog 185 #[.slice A n c,.int .i64 p,.func (.func g) #[] lb] w fun e w'=>Below w.heap.size w w'∧ ∃k:Nat,k≤n∧(∀i (hi:i<qs.length),i<k→Y5 side qs[i].1 p<0)∧(∀i (hi:i<qs.length),k≤i→0≤Y5 side qs[i].1 p)∧
   e= .returned (.tuple #[.int .i64 k,.bool (decide (k<n) && (match qs[k]? with|some q=>Y5 side q.1 p ==0|none=>false))]):=by
 have HH:=QQ h
 have hl:=h.1
 have HL:=QQ hl
 have HR:=QQ hr
 have HC:=QQ hcmp
 clear h hr hcmp hl
 go_enter Tryz.func185,Tryz.ntmps185
 go_wp2_with fail
 go_loopg [9,10] n (fun gg s9 s10 wx=> ∃lo hi:Nat,lo≤hi∧hi≤n∧gg=hi-lo∧s9= .int .i64 lo∧s10= .int .i64 hi∧Below w.heap.size w wx∧Hid ((∀i (hi:i<qs.length),i<lo→Y5 side qs[i].1 p<0)∧(∀i (hx:i<qs.length),hi≤i→0≤Y5 side qs[i].1 p)))
 case atStart=>exact⟨0,n,Nat.zero_le _,Nat.le_refl _,rfl,rfl,rfl,Below.refl _ _,QQ ⟨fun i _ h=>absurd h (by omega),fun i hx h=>by have:=HL.out;omega⟩⟩
 case round=>
  obtain⟨lo,hi,hlh,hhn,rfl,rfl,rfl,hB,HI⟩:=hrel
  by_cases hlt:lo<hi
  ·have hltz:(lo:Int)< (hi:Int):=by omega
   go_upto_region 5 with fail
   have em:((lo:Int)+ (hi:Int))/2=(((lo+hi)/2:Nat):Int):=by omega
   have hm1:lo≤(lo+hi)/2:=by omega
   have hm2:(lo+hi)/2<hi:=by omega
   rw[em];generalize(lo+hi)/2=m at hm1 hm2⊢;clear em;have hml:m<qs.length:=by have:=HL.out;omega
   obtain⟨b,off,hA⟩: ∃b off,A=some ⟨b,off,none⟩:=by obtain⟨b,off,h1,_⟩:=HH.out.2 (by omega);exact⟨b,off,h1⟩
   subst hA;have hE:=HH.out.below hB (Nat.le_refl _);have x0:wr.cell? ⟨b,off+m*2,none⟩=some (.int .i64 qs[m].1):=hE.at_ hml (j:=0) rfl;have x1:wr.cell? ⟨b,off+m*2+1,none⟩=some (.slice qs[m].2.1 qs[m].2.2.1 qs[m].2.2.2):=hE.at_ hml (j:=1) rfl;have hcall:=HC.out wr qs[m] hB;have hi7:(0:Int)≤(m:Int):=by omega
   have hi8:(m:Int)< (n:Int):=by omega
   obtain⟨v,EV⟩: ∃v,Hid (Y5 side qs[m].1 p=v):=⟨_,QQ rfl⟩;rw[EV.out]at hcall;generalize qs[m].2.1=l0 at x1 hcall;generalize qs[m].2.2.1=l1 at x1 hcall;generalize qs[m].2.2.2=l2 at x1 hcall;obtain⟨pr,EP⟩: ∃v,Hid (qs[m].1=v):=⟨_,QQ rfl⟩;rw[EP.out]at x0 hcall;have hsz:=hB.size;have HB:=QQ hB;clear hE hB
   by_cases hv:v<0
   ·have d1:decide (v<0)=true:=J0 hv
    have HV:=QQ hv;clear hv;go_wp2_with (go_at_fn g;refine hcall.mono ?_;rintro e w2 ⟨rfl,hb2⟩)
    go_roundg (hi- (m+1))
    case measure=>omega
    case rel=>exact⟨m+1,hi,by omega,hhn,rfl,by go_num,rfl,HB.out.trans (hb2.mono hsz),QQ ⟨fun i hx h=>Ju3 HR.out hml (by omega) (by rw[EV.out];exact HV.out),HI.out.2⟩⟩
   ·have d1:decide (v<0)=false:=OY hv
    have HV:=QQ hv;clear hv;go_wp2_with (go_at_fn g;refine hcall.mono ?_;rintro e w2 ⟨rfl,hb2⟩)
    go_roundg (m-lo)
    case measure=>omega
    case rel=>exact⟨lo,m,by omega,by omega,rfl,rfl,by go_num,HB.out.trans (hb2.mono hsz),QQ ⟨HI.out.1,fun i hx h=>by
     rcases Int.lt_or_le (Y5 side qs[i].1 p) 0 with h1|h1
     ·have:=Ju3 HR.out hx h h1
      rw[EV.out]at this;have h5:=HV.out;omega
     ·exact h1⟩⟩
  ·obtain rfl:lo=hi:=by omega
   have hltz: ¬(lo:Int)< (lo:Int):=by omega
   have HB:=QQ hB
   by_cases hkn:lo<n
   ·have hml:lo<qs.length:=by have:=HL.out;omega
    obtain⟨b,off,hA⟩: ∃b off,A=some ⟨b,off,none⟩:=by obtain⟨b,off,h1,_⟩:=HH.out.2 (by omega);exact⟨b,off,h1⟩
    subst hA;have hE:=HH.out.below hB (Nat.le_refl _);have x0:wr.cell? ⟨b,off+lo*2,none⟩=some (.int .i64 qs[lo].1):=hE.at_ hml (j:=0) rfl;have x1:wr.cell? ⟨b,off+lo*2+1,none⟩=some (.slice qs[lo].2.1 qs[lo].2.2.1 qs[lo].2.2.2):=hE.at_ hml (j:=1) rfl;have hcall:=HC.out wr qs[lo] hB;have hi7:(0:Int)≤(lo:Int):=by omega
    have hi8:(lo:Int)< (n:Int):=by omega
    have d1:decide ((lo:Int)< (n:Int))=true:=J0 hi8;have HG:Hid ((decide (lo<n) && (match qs[lo]? with|some q=>Y5 side q.1 p ==0|none=>false))=(Y5 side qs[lo].1 p ==0)):=QQ (by rw[J0 hkn,List.getElem?_eq_getElem hml];rfl);generalize qs[lo].2.1=l0 at x1 hcall;generalize qs[lo].2.2.1=l1 at x1 hcall;generalize qs[lo].2.2.2=l2 at x1 hcall;obtain⟨v,EV⟩: ∃v,Hid (Y5 side qs[lo].1 p=v):=⟨_,QQ rfl⟩;rw[EV.out]at hcall;obtain⟨pr,EP⟩: ∃v,Hid (qs[lo].1=v):=⟨_,QQ rfl⟩;rw[EP.out]at x0 hcall;have hsz:=hB.size;clear hE hB;go_wp2_with (go_at_fn g;refine hcall.mono ?_;rintro e w2 ⟨rfl,hb2⟩)
    go_ret2;exact⟨HB.out.trans (hb2.mono hsz),lo,hhn,HI.out.1,HI.out.2,by rw[HG.out,EV.out];rfl⟩
   ·have d1:decide ((lo:Int)< (n:Int))=false:=OY (by omega)
    have hi8: ¬(lo:Int)< (n:Int):=by omega
    have HG:Hid ((decide (lo<n) && (match qs[lo]? with|some q=>Y5 side q.1 p ==0|none=>false))=false):=QQ (by rw[OY hkn];rfl);clear hB;go_wp2_with fail
    go_ret2;exact⟨HB.out,lo,hhn,HI.out.1,HI.out.2,by rw[HG.out];rfl⟩
def I2 (side:Int) (o x:QX):Bool:=x.kind ==2 || (!(o.kind ==2) && (x.price ==o.price ||Qi3 side x.price o.price))
def Qt1 (side:Int) (L:List QX) (o:QX):List QX:=L.takeWhile (I2 side o)++o::L.dropWhile (I2 side o)
def O0 (L:List QX) (id:Int):List QX:=L.filter fun o=> !(o.id ==id)
def I9 (o:QX) (n:Int):QX:=⟨o.id,o.side,o.kind,o.price,o.qty-n⟩
def Xp4 (L:List QX) (id n:Int):List QX:=L.map fun o=>if o.id=id then I9 o n else o
def Qa8 (L:List QX) (id:Int):Option QX:=L.find? fun o=>o.id ==id
theorem Qv5 {α:Type} {p:α→Bool} {l1 l2:List α} (h1: ∀a∈l1,p a=true) (h2: ∀a∈l2,p a=false):(l1++l2).takeWhile p=l1∧(l1++l2).dropWhile p=l2:=by
 induction l1 with
 |nil=>
  cases l2 with
  |nil=>exact⟨rfl,rfl⟩
  |cons a l=>simp[h2 a (by simp)]
 |cons a l ih=>
  have ih:=ih (fun x hx=>h1 x (by simp[hx]));rw[List.cons_append,List.takeWhile_cons_of_pos (h1 a (by simp)),List.dropWhile_cons_of_pos (h1 a (by simp)),ih.1,ih.2];exact⟨rfl,rfl⟩
theorem Ju4 {side:Int} {l1 l2:List QX} {o:QX} (h1: ∀a∈l1,I2 side o a=true) (h2: ∀a∈l2,I2 side o a=false):Qt1 side (l1++l2) o=l1++o::l2:=by
 unfold Qt1
 rw[(Qv5 h1 h2).1,(Qv5 h1 h2).2]
theorem Jo2 (side:Int) (L:List QX) (o:QX):(Qt1 side L o).length=L.length+1:=by
 unfold Qt1
 have:=congrArg List.length (List.takeWhile_append_dropWhile (p:=I2 side o) (l:=L))
 rw[List.length_append]at this
 rw[List.length_append,List.length_cons]
 omega
theorem Xp5 {side:Int} {L:List QX} {o x:QX}:x∈Qt1 side L o↔x=o∨x∈L:=by
 have h:=List.takeWhile_append_dropWhile (p:=I2 side o) (l:=L)
 unfold Qt1
 constructor
 ·intro hx
  rcases List.mem_append.1 hx with h1|h1
  ·exact .inr (by rw[←h];exact List.mem_append_left _ h1)
  ·rcases List.mem_cons.1 h1 with h1|h1
   ·exact .inl h1
   ·exact .inr (by rw[←h];exact List.mem_append_right _ h1)
 ·rintro(rfl|hx)
  ·simp
  ·rw[←h]at hx
   rcases List.mem_append.1 hx with h1|h1
   ·exact List.mem_append_left _ h1
   ·exact List.mem_append_right _ (List.mem_cons_of_mem _ h1)
abbrev HO:=(Int×Int)×QX
def V9 (h:Int×Int):List Value:= [.int .i64 h.1,.int .i64 h.2]
theorem X8 (h:Int×Int):(V9 h).length=2:=rfl
structure QG where
 price:Int
 A:Option Addr
 c:Nat
 os:List HO
def QG.que (q:QG):Que:=(q.price,q.A,q.os.length,q.c)
def IJ (qs:List QG):List HO:=qs.flatMap (·.os)
def V2 (ms:List HO) (qs:List QG):List HO:=ms++IJ qs
def IX (l:List HO):List QX:=l.map (·.2)
def J7 (l:List HO):List (Int×Int):=l.map (·.1)
theorem Z7 (a b:List HO):IX (a++b)=IX a++IX b:=by simp[IX]
theorem Y1 (qs:List QG) {k:Nat} (hk:k<qs.length):IJ qs=IJ (qs.take k)++(qs[k].os++IJ (qs.drop (k+1))):=by
 unfold IJ
 conv=>lhs;rw[←List.take_append_drop k qs,List.drop_eq_getElem_cons hk]
 rw[List.flatMap_append,List.flatMap_cons]
theorem Ju5 (qs:List QG) {k:Nat} (hk:k<qs.length) (q:QG):IJ (qs.set k q)=IJ (qs.take k)++(q.os++IJ (qs.drop (k+1))):=by
 rw[Y1 (qs.set k q) (by simpa using hk)]
 rw[List.getElem_set_self,List.take_set_of_le (Nat.le_refl _),List.drop_set_of_lt (by omega)]
theorem Xp6 (qs:List QG) (k:Nat) (q:QG) (h:q.os= []):IJ (qs.take k++q::qs.drop k)=IJ qs:=by
 unfold IJ
 conv=>rhs;rw[←List.take_append_drop k qs]
 rw[List.flatMap_append,List.flatMap_cons,List.flatMap_append,h]
 rfl
structure Qm0 (side:Int) (ms:List HO) (qs:List QG):Prop where
 mkt: ∀x∈ms,x.2.kind=2∧x.2.side=side
 qk: ∀q∈qs,∀x∈q.os,x.2.kind≠2∧x.2.side=side∧x.2.price=q.price
 rank:Qq9 side (qs.map QG.que)
theorem Qx3 (side a:Int):Qi3 side a a=false:=by unfold Qi3;split<;>simp
theorem Ju6 {side a b:Int} (h:Qi3 side a b=true):Qi3 side b a=false:=by
 unfold Qi3 at*
 split at h<;>simp_all<;>omega
theorem Kg4 {side a b:Int} (h:Qi3 side a b=true):a≠b:=by rintro rfl;rw[Qx3]at h;cases h
theorem Ja7 {side:Int} {qs:List QG} (h:Qq9 side (qs.map QG.que)) {i j:Nat} (hj:j<qs.length) (hij:i<j):Qi3 side (qs[i]'(by omega)).price qs[j].price=true:=by
 have:=List.pairwise_iff_getElem.1 h i j (by simp;omega) (by simpa using hj) hij
 simpa [QG.que]using this
theorem Xz2 {side:Int} {ms:List HO} {qs:List QG} (h:Qm0 side ms qs) (x:HO) (hx:x.2.kind=2):Qt1 side (IX (V2 ms qs)) x.2=IX (V2 (ms++ [x]) qs):=by
 unfold V2
 rw[Z7,Ju4,Z7,Z7]
 ·simp[IX]
 ·intro a ha
  obtain⟨y,hy,rfl⟩:=List.mem_map.1 ha;unfold I2;simp[(h.mkt y hy).1]
 ·intro a ha
  obtain⟨y,hy,rfl⟩:=List.mem_map.1 ha;obtain⟨q,hq,hyq⟩:=List.mem_flatMap.1 hy;unfold I2;have:=(h.qk q hq y hyq).1;simp[this,hx]
theorem Kk9 {side:Int} {ms:List HO} {qs:List QG} (h:Qm0 side ms qs) (x:HO) (hx:x.2.kind≠2) {k:Nat} (hk:k<qs.length) (hp:qs[k].price=x.2.price) (q':QG) (hq':q'.os=qs[k].os++ [x]):
  Qt1 side (IX (V2 ms qs)) x.2=IX (V2 ms (qs.set k q')):=by
 unfold V2
 rw[Ju5 qs hk,Y1 qs hk,hq']
 have e:IX (ms++(IJ (qs.take k)++(qs[k].os++IJ (qs.drop (k+1)))))=IX (ms++(IJ (qs.take k)++qs[k].os))++IX (IJ (qs.drop (k+1))):=by simp[IX]
 rw[e,Ju4]
 ·simp[IX]
 ·intro a ha
  obtain⟨y,hy,rfl⟩:=List.mem_map.1 ha;unfold I2;rcases List.mem_append.1 hy with hy|hy
  ·simp[(h.mkt y hy).1]
  ·have hx':(x.2.kind ==2)=false:=by simpa using hx
   rw[hx'];rcases List.mem_append.1 hy with hy|hy
   ·obtain⟨q,hq,hyq⟩:=List.mem_flatMap.1 hy
    obtain⟨i,hi,rfl⟩:=List.mem_iff_getElem.1 hq;have hi':i<k:=by simp at hi;omega
    rw[List.getElem_take]at hyq;have h1:=(h.qk _ (List.getElem_mem _) y hyq).2.2;have h2:=Ja7 h.rank hk hi';rw[hp,←h1]at h2;simp[h2]
   ·have h1:=(h.qk _ (List.getElem_mem _) y hy).2.2
    simp[h1,hp]
 ·intro a ha
  obtain⟨y,hy,rfl⟩:=List.mem_map.1 ha;obtain⟨q,hq,hyq⟩:=List.mem_flatMap.1 hy;obtain⟨i,hi,rfl⟩:=List.mem_iff_getElem.1 hq;rw[List.getElem_drop]at hyq;have h0:=h.qk _ (List.getElem_mem _) y hyq;have h2:=Ja7 h.rank (i:=k) (j:=k+1+i) (by simp at hi;omega) (by omega);rw[hp,←h0.2.2]at h2;unfold I2;have h3:=Ju6 h2;have h4:=Kg4 h2;have e1:(y.2.kind ==2)=false:=by simpa using h0.1
  have e2:(y.2.price ==x.2.price)=false:=by simpa using fun e=>h4 e.symm
  rw[e1,e2,h3];simp
theorem Qr0 (q:Que): ∀u∈OQ q,u.oneCell'=true:=by
 intro u hu
 simp[OQ]at hu
 rcases hu with rfl|rfl<;>rfl
theorem Qt2:(Tryz.prog.info? 236).map (fun i=>(i.zero,i.size,i.bytes))=some (some (.agg #[.int .i64 0,.slice none 0 0]),2,32):=by kernel_rfl
theorem Xz3 (w:World):(Go.sizeOf 236).run Tryz.prog w= .ok 2 w:=by kernel_rfl
def Xp7 (w w':World) (A A':Option Addr) (n c':Nat) (qs:List Que):Prop:=
 QW w' A' n c' 236 2 (JQ OQ qs)∧QK (fun i=>QZ A=some i) w w'∧ ∀g,QZ A'=some g→QZ A=some g∨w.heap.size≤g
theorem Xp8 (w:World) (A:Option Addr) (n c:Nat) (qs:List Que) (vb:Nat) (q:Que) (h:QW w A n c 236 2 (JQ OQ qs)) (hv:QJ w vb 236 (OQ q).toArray) (hn:n≤100000):
  Calls Tryz.prog 182 #[.slice A n c,.int .i64 n,.slice (some ⟨vb,0,none⟩) 1 1] w fun e w'=>
   ∃A' c',e= .returned (.slice A' (n+1) c')∧Xp7 w w' A A' (n+1) c' (qs++ [q]):=by
 obtain⟨i0,hi0,hz0,hz1,hz2⟩:=info_parts Qt2
 have hnews: ∀j u,(OQ q)[j]?=some u→w.cell? ((⟨vb,0,none⟩:Addr).add j)=some u:=by
  have:=World.news_of_block (cs:=(OQ q).toArray) hv;simpa using this
 have HN:=QQ hnews
 have HH:=QQ (show w.ownsRow 0 236 2 (.slice A n c) n (JQ OQ qs)from h)
 clear hnews h hv
 go_enter Tryz.func182,Tryz.ntmps182
 go_wp2_with (at_builtin;refine wpList_append_lies _ (by rfl) _ _ 177 (by rfl) 0 236 i0 _ 2 32 Tryz.underlying177 hi0 hz0 hz1 hz2 rfl (by omega) (.slice A n c) n _ (by rfl) HH.out ⟨vb,0,none⟩ 1 1 (OQ q) (by rfl) (by rfl) HN.out (Qr0 _) (by omega) (by unfold maxLen;omega) (by omega) (by simp) w.heap.size (by rfl) ?_;intro gg cap w3 hown hgrow hat hlt;have HO:=QQ hown;have HG:=QQ hgrow;have HT:=QQ hat;clear hown hgrow hat)
 all_goals
  go_ret;refine⟨_,_,rfl, ?_, ?_, ?_⟩
  ·rw[Y7];exact HO.out
  ·have:=Qg9 HG.out
   rw[JW]at this;exact this
  ·intro g hg
   cases hg;have:=HT.out;rw[JW]at this;exact this.imp id (fun h=>by show _≤gg;omega)
theorem Xb6 (w:World) (b n c i:Nat) (qs:List Que) (vb:Nat) (q:Que) (h:QW w (some ⟨b,0,none⟩) n c 236 2 (JQ OQ qs)) (hv:QJ w vb 236 (OQ q).toArray) (hvb:vb≠b) (hn:n≤100000) (hi:i<n) (hc:n+1≤c):
  Calls Tryz.prog 182 #[.slice (some ⟨b,0,none⟩) n c,.int .i64 i,.slice (some ⟨vb,0,none⟩) 1 1] w fun e w'=>
   ∃A' c',e= .returned (.slice A' (n+1) c')∧Xp7 w w' (some ⟨b,0,none⟩) A' (n+1) c' (qs.take i++q::qs.drop i):=by
 obtain⟨cur,hB,hnc,hcm,hcl,hct⟩:=h.whole
 obtain⟨i0,hi0,hz0,hz1,hz2⟩:=info_parts Qt2
 have hz2': ¬((i:Int)=(n:Int)):=by omega
 have hw1:IntKind.i64.wrap ((i:Int)+ (1:Int))=(i:Int)+1:=by rw[IntKind.wrap_i64];omega
 have hb1:(0:Int)≤(i:Int)+1:=by omega
 have htn:((i:Int)+1).toNat=i+1:=by omega
 have hb2: ¬(c=i+1):=by omega
 have hb3:(i:Int)≤(n:Int)+1:=by omega
 have hb4: ¬(c=i):=by omega
 have hin:i≤n:=by omega
 have HB:=QQ hB
 have HV:=QQ hv
 have HL:=QQ hcl
 have HT:=QQ hct
 clear hB hv hcl hct
 have hov: ∀lb cb,(callFunc 198 #[.slice (some ⟨vb,0,none⟩) 1 1,.slice (some ⟨b,(i+1)*2,none⟩) lb cb]).run Tryz.prog w= .ok (.value (.bool false)) w:=fun lb cb=>by
  rw[run_callFunc_extern Tryz.func198 (by kernel_rfl) (by kernel_rfl) (by kernel_rfl) (e:=Extern.SlicesOverlaps.overlaps #[177,177] #[4]) (by kernel_rfl),
   Lib.run_overlaps_apart w 177 4 236 Tryz.underlying177 2 Xz3 ⟨vb,0,none⟩ ⟨b,(i+1)*2,none⟩ 1 1 lb cb hvb 236 236 2 cur.length (QJ.shape HV.out) (by rw[QJ.shape HB.out];simp) (by have:=HL.out;omega) (QJ.frozen HV.out 0) (QJ.frozen HV.out 2)]
  rfl
 have hfl:(JQ OQ qs).length=n*2:=h.1
 have hdl:((JQ OQ qs).drop (i*2)).length=(n-i)*2:=by rw[List.length_drop,hfl];omega
 have hcp1: ∀W,QJ W b 236 cur.toArray→ ∀ty dc sc dl sl,dl=n-i→n-i≤sl→(Builtin.copy_ #[177,177] ty #[.slice (some ⟨b,(i+1)*2,none⟩) dl dc,.slice (some ⟨b,i*2,none⟩) sl sc]).run Tryz.prog W= .ok (goInt (n-i:Nat)) (W.setRow b (splice cur ((i+1)*2) ((JQ OQ qs).drop (i*2))).toArray):=fun W hW ty dc sc dl sl e1 e2=>
  Z6 W _ _ ty 236 2 b ((i+1)*2) dl dc ⟨b,i*2,none⟩ sl sc cur.toArray 236 ((JQ OQ qs).drop (i*2)) (n-i) (by simp only[Nat.min_def];split<;>omega) Tryz.underlying177 (by rw[hi0];simp[hz1]) hW hdl
   (fun j v hj=>by
    rw[U3,QJ.cell hW];rw[List.getElem?_drop,←HT.out,List.getElem?_take]at hj
    split at hj
    ·simpa using hj
    ·cases hj)
   (by rw[hdl];simp[HL.out];omega) (fun v hv=>Qh9 Qr0 qs v (List.mem_of_mem_drop hv))
 have hcp2: ∀W c1,QJ W b 236 (List.toArray c1)→QJ W vb 236 (OQ q).toArray→c1.length=c*2→ ∀ty dc dl,1≤dl→(Builtin.copy_ #[177,177] ty #[.slice (some ⟨b,i*2,none⟩) dl dc,.slice (some ⟨vb,0,none⟩) 1 1]).run Tryz.prog W= .ok (goInt (1:Nat)) (W.setRow b (splice c1 (i*2) (OQ q)).toArray):=fun W c1 hW hv hl ty dc dl e1=>
  Z6 W _ _ ty 236 2 b (i*2) dl dc ⟨vb,0,none⟩ 1 1 c1.toArray 236 (OQ q) 1 (by simp only[Nat.min_def];split<;>omega) Tryz.underlying177 (by rw[hi0];simp[hz1]) hW rfl
   (fun j v hj=>by rw[U3,QJ.cell hv];simpa using hj) (by simp[hl,KX];omega) (Qr0 q)
 have hB1:QJ (w.drew) b 236 cur.toArray:=HB.out
 have hB2:=QJ.setRow w.drew b cur.toArray (splice cur ((i+1)*2) ((JQ OQ qs).drop (i*2))).toArray 236 hB1
 have hV2:QJ (w.drew.setRow b (splice cur ((i+1)*2) ((JQ OQ qs).drop (i*2))).toArray) vb 236 (OQ q).toArray:=QJ.keeps (HV.out.drew) (QK.setRow _ _ _) (fun e=>hvb e)
 have hl2:(splice cur ((i+1)*2) ((JQ OQ qs).drop (i*2))).length=c*2:=by rw[length_splice _ _ _ (by rw[hdl,HL.out];omega),HL.out]
 have hfin:=Jh0 cur (JQ OQ qs) (OQ q) i n 2 hin HT.out (KX q) (by rw[HL.out];omega)
 rw[Qo1 KX]at hfin
 have hK1:=QK.setRow w.drew b (splice cur ((i+1)*2) ((JQ OQ qs).drop (i*2))).toArray
 have hcpA:=hcp1 _ hB1
 generalize splice cur ((i+1)*2) ((JQ OQ qs).drop (i*2))=c1 at*
 obtain⟨W1,hW1⟩: ∃W1,W1=w.drew.setRow b c1.toArray:=⟨_,rfl⟩
 rw[←hW1]at hB2 hV2 hK1 hcpA
 have HA:=QQ hcpA
 have HC:=QQ (hcp2 W1 c1 hB2 hV2 hl2)
 have HF:=QQ hfin
 have HK:=QQ hK1
 have HB2:=QQ hB2
 have HL2:=QQ hl2
 clear hcp1 hcp2 hcpA hfin hK1 hB2 hV2 hl2 hdl hfl hW1 hB1
 clear h
 go_enter Tryz.func182,Tryz.ntmps182
 go_wp2_with (simp only[hov])
 go_region_law (refine Qk6 rfl (.tmp 73) (.tmp 76) 177 177 rfl (.slice (some ⟨b,(i+1)*2,none⟩) (n-i) (c- (i+1))) (.slice (some ⟨b,i*2,none⟩) (n+1-i) (c-i)) (by simp[Act.eval,Act.put]) (by simp[Act.eval,Act.put]) (HA.out _ _ _ _ _ rfl (by omega)) ?_)
 have hC2:=fun ty=>HC.out ty (c-i) (n+1-i) (by omega)
 go_wp2_with (simp only[hC2])
 go_ret
 have hB3:=QJ.setRow W1 b c1.toArray (splice c1 (i*2) (OQ q)).toArray 236 HB2.out
 have hR:=QW.of_whole (n:=n+1) (c:=c) (sz:=2) hB3 hc hcm (by rw[length_splice _ _ _ (by rw[HL2.out];simp[KX];omega),HL2.out])
 rw[HF.out]at hR
 refine⟨_,_,rfl,hR, ?_,fun g hg=> .inl hg⟩
 exact((QK.of_below (Below.drew (Below.refl _ w)) (fun i=>QZ (some ⟨b,0,none⟩)=some i)).trans HK.out (fun i h=> .inl (by subst h;rfl))).trans (QK.setRow _ _ _) (fun i h=> .inl (by subst h;rfl))
theorem Xi8 (w:World) (b n c i:Nat) (qs:List Que) (vb:Nat) (q:Que) (h:QW w (some ⟨b,0,none⟩) n c 236 2 (JQ OQ qs)) (hv:QJ w vb 236 (OQ q).toArray) (hn:n≤100000) (hi:i<n) (hc:c<n+1):
  Calls Tryz.prog 182 #[.slice (some ⟨b,0,none⟩) n c,.int .i64 i,.slice (some ⟨vb,0,none⟩) 1 1] w fun e w'=>
   ∃A' c',e= .returned (.slice A' (n+1) c')∧Xp7 w w' (some ⟨b,0,none⟩) A' (n+1) c' (qs.take i++q::qs.drop i):=by
 obtain⟨cur,hB,hnc,hcm,hcl,hct⟩:=h.whole
 obtain⟨i0,hi0,hz0,hz1,hz2⟩:=info_parts Qt2
 have hz2': ¬((i:Int)=(n:Int)):=by omega
 have hz3:(c:Int)< (n:Int)+1:=by omega
 have hw1:IntKind.i64.wrap ((i:Int)+ (1:Int))=(i:Int)+1:=by rw[IntKind.wrap_i64];omega
 have hb1:(0:Int)≤(i:Int)+1:=by omega
 have htn:((i:Int)+1).toNat=i+1:=by omega
 have hin:i≤n:=by omega
 have hib:(i:Int)≤(n:Int):=by omega
 have hci: ¬(c=i):=by omega
 have hkk:(n:Int)+1- (i:Int)=((n+1-i:Nat):Int):=by omega
 have hik:i+ (n+1-i)=n+1:=by omega
 have hfl:(JQ OQ qs).length=n*2:=h.1
 have hdl:((JQ OQ qs).drop (i*2)).length=(n-i)*2:=by rw[List.length_drop,hfl];omega
 have hbw:=QJ.lt hB
 have hvw:=QJ.lt hv
 have hold:(Builtin.firstCells i0.size i (.slice (some ⟨b,0,none⟩) i c)).run Tryz.prog w.drew= .ok ((JQ OQ qs).take (i*2)).toArray w.drew:=by
  rw[hz1];exact run_firstCells_some w.drew 2 i ⟨b,0,none⟩ i c _ (by rw[List.length_take,hfl];omega) (fun j v hj=>by
   rw[U3,QJ.cell (QJ.drew hB),Nat.zero_add];rw[←hct,List.take_take,List.getElem?_take]at hj
   split at hj
   ·simpa using hj
   ·cases hj)
 obtain⟨G,hG⟩: ∃G,G=grownCap w (n+1) c 236:=⟨_,rfl⟩
 have hGn:n+1≤G:=by rw[hG];exact grownCap_ge w _ _ _
 have hGm:G≤maxLen:=by rw[hG];exact grownCap_le_maxLen w (n+1) c 236 (by unfold maxLen;omega)
 have hG63:G≤9223372036854775807:=by unfold maxLen at hGm;omega
 obtain⟨ROW,hROW⟩: ∃ROW:List Value,ROW=(((JQ OQ qs).take (i*2)).toArray++Builtin.zeroCells (Value.agg #[.int .i64 0,.slice none 0 0]).cells (n+1-i)++Builtin.zeroCells (Value.agg #[.int .i64 0,.slice none 0 0]).cells (G- (n+1))).toList:=⟨_,rfl⟩
 have hRl:ROW.length=G*2:=by
  rw[hROW];simp only[Array.length_toList,Array.size_append,List.size_toArray,List.length_take,hfl,size_zeroCells];simp[Value.cells];omega
 have hRt:ROW.take (i*2)=(JQ OQ qs).take (i*2):=by
  rw[hROW];simp only[Array.toList_append,List.append_assoc];exact List.take_append_of_le_length (by simp[hfl];omega) |>.trans (by simp[List.take_take])
 have hrz: ∀ty,(Builtin.append_ #[177,3] ty #[.slice (some ⟨b,0,none⟩) i c,.int .i64 ((n:Int)+1- (i:Int))]).run Tryz.prog w=
   .ok (.slice (some ⟨w.heap.size,0,none⟩) (n+1) G) (w.drew.alloc (.cells ROW.toArray 236)):=fun ty=>by
  have h:=Lib.run_append_grow_zeros w 177 3 ty 236 i0 _ .i64 .i64 Tryz.underlying177 Tryz.underlying3 hi0 hz0 (some ⟨b,0,none⟩) i c ((JQ OQ qs).take (i*2)) hold (n+1-i) (by omega) (by omega) (by omega) (by omega) (by rw[hz2];omega) (by rw[hz2,hik];exact growslice_fits hc (by omega));rw[hik,←hG]at h;rw[hkk,h,hROW]
 obtain⟨W1,hW1⟩: ∃W1,W1=w.drew.alloc (.cells ROW.toArray 236):=⟨_,rfl⟩
 obtain⟨H,hH⟩: ∃H,H=w.heap.size:=⟨_,rfl⟩
 have hR1:QJ W1 H 236 ROW.toArray:=by rw[hW1,hH];exact QJ.new w.drew _ _
 have hS1:QJ W1 b 236 cur.toArray:=by rw[hW1];exact QJ.alloc (QJ.drew hB) _
 have hV1:QJ W1 vb 236 (OQ q).toArray:=by rw[hW1];exact QJ.alloc (QJ.drew hv) _
 have hbel:Below w.heap.size w W1:=by rw[hW1];exact(Below.drew (Below.refl _ w)).alloc (Nat.le_refl _) _
 rw[←hW1,←hH]at hrz
 have hbH:b≠H:=by omega
 have hvH:vb≠H:=by omega
 have hl2:(splice ROW (i*2) (OQ q)).length=G*2:=by rw[length_splice _ _ _ (by rw[hRl,KX];omega),hRl]
 have hcA: ∀ty,(Builtin.copy_ #[177,177] ty #[.slice (some ⟨H,i*2,none⟩) (n+1-i) (G-i),.slice (some ⟨vb,0,none⟩) 1 1]).run Tryz.prog W1= .ok (goInt (1:Nat)) (W1.setRow H (splice ROW (i*2) (OQ q)).toArray):=fun ty=>
  Z6 W1 _ _ ty 236 2 H (i*2) (n+1-i) (G-i) ⟨vb,0,none⟩ 1 1 ROW.toArray 236 (OQ q) 1 (by simp only[Nat.min_def];split<;>omega) Tryz.underlying177 (by rw[hi0];simp[hz1]) hR1 rfl
   (fun j v hj=>by rw[U3,QJ.cell hV1];simpa using hj) (by simp[hRl,KX];omega) (Qr0 q)
 have hR2:=QJ.setRow W1 H ROW.toArray (splice ROW (i*2) (OQ q)).toArray 236 hR1
 have hS2:=QJ.keeps hS1 (QK.setRow W1 H (splice ROW (i*2) (OQ q)).toArray) hbH
 have hk2:=QK.setRow W1 H (splice ROW (i*2) (OQ q)).toArray
 have hfin:=Jn8 ROW (JQ OQ qs) (OQ q) i n 2 hin hfl hRt (KX q) (by rw[hRl];omega)
 rw[Qo1 KX]at hfin
 generalize splice ROW (i*2) (OQ q)=c2 at*
 obtain⟨W2,hW2⟩: ∃W2,W2=W1.setRow H c2.toArray:=⟨_,rfl⟩
 rw[←hW2]at hR2 hS2 hk2 hcA
 have hcB: ∀ty,(Builtin.copy_ #[177,177] ty #[.slice (some ⟨H,(i+1)*2,none⟩) (n-i) (G- (i+1)),.slice (some ⟨b,i*2,none⟩) (n-i) (c-i)]).run Tryz.prog W2.drew= .ok (goInt (n-i:Nat)) (W2.drew.setRow H (splice c2 ((i+1)*2) ((JQ OQ qs).drop (i*2))).toArray):=fun ty=>
  Z6 W2.drew _ _ ty 236 2 H ((i+1)*2) (n-i) (G- (i+1)) ⟨b,i*2,none⟩ (n-i) (c-i) c2.toArray 236 ((JQ OQ qs).drop (i*2)) (n-i) (by simp only[Nat.min_def];split<;>omega) Tryz.underlying177 (by rw[hi0];simp[hz1]) (QJ.drew hR2) hdl
   (fun j v hj=>by
    rw[U3,QJ.cell (QJ.drew hS2)];rw[List.getElem?_drop,←hct,List.getElem?_take]at hj
    split at hj
    ·simpa using hj
    ·cases hj)
   (by rw[hdl];simp[hl2];omega) (fun v hv=>Qh9 Qr0 qs v (List.mem_of_mem_drop hv))
 have hR3:=QJ.setRow W2.drew H c2.toArray (splice c2 ((i+1)*2) ((JQ OQ qs).drop (i*2))).toArray 236 (QJ.drew hR2)
 have hk3:=QK.setRow W2.drew H (splice c2 ((i+1)*2) ((JQ OQ qs).drop (i*2))).toArray
 have hl3:(splice c2 ((i+1)*2) ((JQ OQ qs).drop (i*2))).length=G*2:=by rw[length_splice _ _ _ (by rw[hdl,hl2];omega),hl2]
 have hRow:=QW.of_whole (n:=n+1) (c:=G) (sz:=2) hR3 hGn hGm hl3
 rw[hfin]at hRow
 generalize splice c2 ((i+1)*2) ((JQ OQ qs).drop (i*2))=c3 at*
 obtain⟨W3,hW3⟩: ∃W3,W3=W2.drew.setRow H c3.toArray:=⟨_,rfl⟩
 rw[←hW3]at hcB hk3 hRow
 have hK:Below w.heap.size w W3:=hbel.trans (((hk2.below (B:=w.heap.size) (fun i h=>by have:i=H:=h;omega) hbel.size).trans (Below.drew (Below.refl _ W2))).trans (hk3.below (B:=w.heap.size) (fun i h=>by have:i=H:=h;omega) (Nat.le_trans hbel.size hk2.size)))
 have HK:=QQ hK
 have HR:=QQ hRow
 have HH:=QQ hH
 have hGi: ¬(G=i):=by omega
 have hGi1: ¬(G=i+1):=by omega
 have HB:=QQ hcB
 clear hK hRow hH hk3 hl3 hR3 hcB hW3 hR2 hS2 hk2 hfin hW2 hl2 hR1 hS1 hV1 hbel hW1 hRt hRl hROW hG hold hdl hfl hkk hik hB hv h hcl hct
 go_enter Tryz.func182,Tryz.ntmps182
 go_wp2_with (first|(at_builtin;refine Lib.wpList_append_run _ rfl _ _ _ _ rfl _ _ rfl rfl _ _ (hrz _) ?_)|simp only[hcA])
 go_region_law (refine Qk6 rfl (.tmp 50) (.tmp 53) 177 177 rfl (.slice (some ⟨H,(i+1)*2,none⟩) (n-i) (G- (i+1))) (.slice (some ⟨b,i*2,none⟩) (n-i) (c-i)) (by simp[Act.eval,Act.put]) (by simp[Act.eval,Act.put]) (HB.out _) ?_)
 go_wp2
 go_ret
 refine⟨_,_,rfl,HR.out,QK.of_below HK.out _,fun g hg=> .inr (by cases hg;show _≤H;rw[HH.out];exact Nat.le_refl _)⟩
theorem Jo3 (w:World) (A:Option Addr) (n c i:Nat) (qs:List Que) (vb:Nat) (q:Que) (h:QW w A n c 236 2 (JQ OQ qs)) (hv:QJ w vb 236 (OQ q).toArray) (hvb:QZ A≠some vb) (hn:n≤100000) (hi:i≤n):
  Calls Tryz.prog 182 #[.slice A n c,.int .i64 i,.slice (some ⟨vb,0,none⟩) 1 1] w fun e w'=>
   ∃A' c',e= .returned (.slice A' (n+1) c')∧Xp7 w w' A A' (n+1) c' (qs.take i++q::qs.drop i):=by
 have hl:qs.length=n:=by have:=h.1;rw[YY KX]at this;omega
 by_cases e:i=n
 ·subst e
  have:=Xp8 w A i c qs vb q h hv hn
  rwa [List.take_of_length_le (by omega),List.drop_eq_nil_of_le (by omega)]
 ·obtain⟨g,hA,_⟩:=h.elem KX (by omega) (i:=i) (by omega)
  subst hA
  by_cases hc:n+1≤c
  ·exact Xb6 w g n c i qs vb q h hv (fun e=>hvb (by rw[e];rfl)) hn (by omega) hc
  ·exact Xi8 w g n c i qs vb q h hv hn (by omega) (by omega)
theorem Jo4 (w:World) (b n c i j:Nat) (jz:Int) (hjz:jz=j) (qs:List Que) (h:QW w (some ⟨b,0,none⟩) n c 236 2 (JQ OQ qs)) (hn:n≤100000) (hij:i<j) (hj:j≤n):
  Calls Tryz.prog 152 #[.slice (some ⟨b,0,none⟩) n c,.int .i64 i,.int .i64 jz] w fun e w'=>
   e= .returned (.slice (some ⟨b,0,none⟩) (i+ (n-j)) c)∧QW w' (some ⟨b,0,none⟩) (i+ (n-j)) c 236 2 (JQ OQ (qs.take i++qs.drop j))∧QK (fun x=>x=b) w w':=by
 subst hjz
 obtain⟨hnc,hcm⟩:=h.cap
 obtain⟨i0,hi0,hz0,hz1,hz2⟩:=info_parts Qt2
 have hl:qs.length=n:=by have:=h.1;rw[YY KX]at this;omega
 have hfl:(JQ OQ qs).length=n*2:=h.1
 obtain⟨news,hnews⟩: ∃news,news=(JQ OQ qs).drop (j*2):=⟨_,rfl⟩
 have hlen:news.length=(n-j)*2:=by rw[hnews,List.length_drop,hfl];omega
 have hR:QW w.drew (some ⟨b,0,none⟩) n c 236 2 (JQ OQ qs):=h.below (Below.drew (Below.refl _ w))
 obtain⟨A,hA,hsrc⟩: ∃A:Addr,(if c=j then some (⟨b,0,none⟩:Addr)else some ⟨b,j*2,none⟩)=some A∧Hid (∀t u,news[t]?=some u→w.drew.cell? (A.add t)=some u):=by
  by_cases hcj:c=j
  ·refine⟨⟨b,0,none⟩,by simp[hcj],fun t u hu=> ?_⟩
   have h0:news.length=0:=by rw[hlen];omega
   rw[List.length_eq_zero_iff.1 h0]at hu;simp at hu
  ·refine⟨⟨b,j*2,none⟩,by simp[hcj],fun t u hu=> ?_⟩
   rw[U3];rw[hnews,List.getElem?_drop]at hu;obtain⟨g,hg,hc⟩:=hR.cell hu
   cases hg;exact hc
 have s1:Hid (news.length=(n-j)*2):=hlen
 have s2:Hid (∀u∈news,u.oneCell'=true):=by
  intro u hu;rw[hnews]at hu;exact Qh9 Qr0 qs u (List.mem_of_mem_drop hu)
 have s3:Hid (∀t,t<news.length→(w.drew.cell? ⟨b,0+i*2+t,none⟩).isSome=true∧w.drew.frozen? ⟨b,0+i*2+t,none⟩=false):=by
  intro t ht;rw[hlen]at ht;exact⟨hR.some_ (by omega),hR.frozen _⟩
 obtain⟨W1,hW1⟩: ∃W1,W1=w.drew.setCells b (0+i*2) news:=⟨_,rfl⟩
 have hR1:QW W1 (some ⟨b,0,none⟩) n c 236 2 (X7 (JQ OQ qs) (i*2) news):=by rw[hW1,Nat.zero_add];exact hR.sets _ _ _ _
 obtain⟨vs,hvl,hcl⟩:=Qc8 (P:=Tryz.prog) W1 177 236 0 (.agg #[.int .i64 0,.slice none 0 0]) 2 Tryz.underlying177 (fun _=>by kernel_rfl) rfl (by omega) (by intro v hv;simp[Value.cells]at hv;rcases hv with rfl|rfl<;>rfl) b ((i+ (n-j))*2) (n- (i+ (n-j))) (c- (i+ (n-j))) (by omega)
  (fun x hx=>hR1.some_ (by omega)) (fun x hx=>hR1.frozen _)
 have hp:=hR1.pop (i+ (n-j)) (by omega)
 rw[Qj8 _ _ _ (by rw[hlen,hfl];omega),hnews]at hp
 have hsc:=Qt0 (JQ OQ qs) (i*2) (j*2) (by omega) (by omega)
 rw[hfl,show i*2+ (n*2-j*2)=(i+ (n-j))*2 by omega]at hsc
 rw[hsc,Je5 KX _ _ _ (by omega)]at hp
 have hK:QK (fun x=>x=b) w W1:=by
  rw[hW1];exact(QK.of_below (Below.drew (Below.refl _ w)) _).trans (QK.setCells _ _ _ _) (fun i h=> .inl h)
 have HP:=QQ hp
 have HK:=QQ hK
 have hW:Hid (W1=w.drew.setCells b (0+i*2) news):=hW1
 have hic:i≤c:=by omega
 have hjc:j≤c:=by omega
 clear hp hK hW1 hsc hR1 hR hlen hnews hfl hl h
 go_enter Tryz.func152,Tryz.ntmps152
 go_wp2_with fail
 go_region_law (refine step_append_room rfl (.tmp 22) (.tmp 25) 177 rfl 236 i0 2 Tryz.underlying177 hi0 hz1 b 0 i c (by simp[Act.eval,Act.put]) A (n-j) (c-j) news (by simp[Act.eval,Act.put]) s1.out hsrc.out s2.out (by omega) s3.out ?_;rw[←hW.out])
 go_wp2
 go_ret
 exact⟨rfl,QW.sets_past _ _ _ HP.out (Nat.le_refl _),HK.out.trans (QK.setCells _ _ _ _) (fun i h=> .inl h)⟩
def Xi9 (side p:Int) (qs:List Que) (n k:Nat):Prop:=k≤n∧(∀i (hi:i<qs.length),i<k→Y5 side qs[i].1 p<0)∧(∀i (hi:i<qs.length),k≤i→0≤Y5 side qs[i].1 p)
def Qm1 (side p:Int) (qs:List Que) (n k:Nat):Bool:=decide (k<n) && (match qs[k]? with|some q=>Y5 side q.1 p ==0|none=>false)
def Xp9 (side p:Int) (qs:List Que) (n:Nat) (w:World) (e:Ending) (w':World):Prop:=Below w.heap.size w w'∧ ∃k:Nat,Xi9 side p qs n k∧e= .returned (.tuple #[.int .i64 k,.bool (Qm1 side p qs n k)])
theorem Jh3 (w:World) (b o:Nat) (side p:Int) (A:Option Addr) (n c:Nat) (qs:List Que) (hq:w.cell? ⟨b,o+1,none⟩=some (.slice A n c)) (h:ZV w OQ 2 A n qs) (hr:Qq9 side qs) (hm:n≤100000):
  Calls Tryz.prog 151 #[.pointer (some ⟨b,o,none⟩),.int .i64 side,.int .i64 p] w (Xp9 side p qs n w):=by
 have hg:=World.block_lt_of_cell? w _ hq
 have z0:=(World.cell?_alloc_lt w (.cells #[.int .i64 side] 3) ⟨b,o+1,none⟩ hg).trans hq
 have hA:Below w.heap.size w (w.alloc (.cells #[.int .i64 side] 3)):=(Below.refl _ w).alloc (Nat.le_refl _) _
 have hB1:QJ (w.alloc (.cells #[.int .i64 side] 3)) w.heap.size 3 #[.int .i64 side]:=QJ.new w _ _
 have eg:=Go.Proofs.enters_of Tryz.func186 (by kernel_rfl) rfl
 have hmk: ∀w':World,(Instr.makeFunc (.func 186) #[] #[.pointer (some ⟨w.heap.size,0,none⟩)]).run Tryz.prog w'= .ok (.func (.func 186) #[] #[.pointer (some ⟨w.heap.size,0,none⟩)]) w':=fun _=>rfl
 have hs:=Xz1 side p 186 #[.pointer (some ⟨w.heap.size,0,none⟩)] A n c qs _ (h.below hA (Nat.le_refl _)) hr hm eg (fun W q hb=>Xp3 side q.1 p _ w.heap.size W ⟨_,_,_,rfl⟩ (by rw[QJ.cell (QJ.keep hB1 hb)];rfl))
 have HS:=QQ (show Calls Tryz.prog 185 _ _ (Xp9 side p qs n _)from hs.mono fun e w' ⟨hb,k,h1,h2,h3,h4⟩=>⟨hb,k,⟨h1,h2,h3⟩,h4⟩)
 have HA:=QQ hA
 clear hs hA hB1 h hr
 go_enter Tryz.func151,Tryz.ntmps151
 go_wp2_with fail
 refine HS.out.mono ?_
 rintro e w1 ⟨hb,k,hf,rfl⟩
 have HF:=QQ hf
 have HB:=QQ (HA.out.trans (hb.mono (by simp)))
 clear hf hb
 obtain⟨fb,HE⟩: ∃fb,Hid (Qm1 side p qs n k=fb):=⟨_,QQ rfl⟩
 rw[HE.out]
 go_wp2
 go_ret2
 exact⟨HB.out,k,HF.out,by rw[HE.out];rfl⟩
end Go.Proofs.YtbmiieehkkfbgaaGreatDoor
