/- Contracts and walks that the law's proof needs. -/
import Derived.WalkKit
import Derived.WalkLawsBesides
import Derived.WalkSpells
import Derived.Test.YtnlngicnfegjgaaGreatDoorRows
import Derived.Test.YtnlngicnfegjgaaGreatDoorZd1
import Derived.Deep.RegionLaw
import Derived.Deep.QuietTactic
import Derived.Deep.RegionWith
import Derived.BigQuiet
import Derived.Deep.DeepCutAuto
import Derived.Deep.CutBlock
import Derived.Test.YtnlngicnfegjgaaGreatDoorZd8
import Derived.Test.YtnlngicnfegjgaaGreatDoorZd7
import Derived.Deep.AppendLies
import Derived.StillTailTactics
import Derived.Deep.RegionHeld3
set_option linter.unusedVariables false
set_option maxRecDepth 100000
set_option maxHeartbeats 8000000
namespace Go.Proofs.YtnlngicnfegjgaaGreatDoor
open Go.RowKit
def Jf8 (lo hi:Int) (xs:List Int):Bool:=xs.all fun n=>decide (lo≤n) &&decide (n≤hi)
theorem Xv3 (lo hi:Int) (xs:List Int) (k:Nat) (hk:k<xs.length):
  Jf8 lo hi (xs.take (k+1))=(Jf8 lo hi (xs.take k) && (decide (lo≤xs[k]) &&decide (xs[k]≤hi))):=by
 unfold Jf8
 rw[List.take_succ_eq_append_getElem hk,List.all_append]
 simp
theorem Xm4 (lo hi:Int) (xs:List Int) (k:Nat) (hk:k<xs.length) (h: ¬(lo≤xs[k]∧xs[k]≤hi)):Jf8 lo hi xs=false:=by
 unfold Jf8
 rw[List.all_eq_false]
 exact⟨xs[k],List.getElem_mem hk,by simpa using h⟩
theorem Xv4 (lo hi:Int) (b c:Nat) (xs:List Int) (w:World) (hl:xs.length≤10)
  (hc: ∀j (h:j<xs.length),w.cell? ⟨b,j,none⟩=some (.int .i64 xs[j])):
  Calls Tryz.prog 85 #[.int .i64 lo,.int .i64 hi,.slice (some ⟨b,0,none⟩) xs.length c] w fun e w'=>
   e= .returned (.bool (Jf8 lo hi xs))∧w=w':=by
 go_enter Tryz.func85,Tryz.ntmps85
 go_wp2
 go_loop [11] (fun i=> ∃k:Nat,k≤xs.length∧i= .int .i64 k∧Jf8 lo hi (xs.take k)=true) (fun i=>xs.length- (RowKit.intOf i).toNat)
 case atStart=>exact⟨0,Nat.zero_le _,rfl,rfl⟩
 case round=>
  obtain⟨k,hk,rfl,hall⟩:=hrel
  by_cases hlt:k<xs.length
  ·have hck:=hc k hlt
   have hall':=QQ hall;clear hall hc
   by_cases h1:lo≤xs[k]
   ·by_cases h2:xs[k]≤hi
    ·have hs:=Xv3 lo hi xs k hlt
     have hn:Jf8 lo hi (xs.take (k+1))=true:=by rw[hs,hall'.out];simp[h1,h2]
     have Hn:=QQ hn;clear hn hs;go_wp2
     go_round
     case rel=>exact⟨k+1,by omega,by go_num,Hn.out⟩
     case measure=>simp[RowKit.intOf];omega
    ·have hs:=QQ (Xm4 lo hi xs k hlt (by omega))
     go_wp2;go_ret;exact⟨Q6 hs.out.symm,rfl⟩
   ·have hs:=QQ (Xm4 lo hi xs k hlt (by omega))
    go_wp2;go_ret;exact⟨Q6 hs.out.symm,rfl⟩
  ·have hs:=QQ hall
   clear hall;go_wp2;go_ret;exact⟨Q6 (by rw[←hs.out,List.take_of_length_le (by omega)]),rfl⟩
theorem Qb7 (lo hi x:Int) (n:Nat) (w:World) (hn:n=w.heap.size):
  Calls Tryz.prog 85 #[.int .i64 lo,.int .i64 hi,.slice (some ⟨n,0,none⟩) 1 1] (w.alloc (.cells #[.int .i64 x] 3)) fun e w'=>
   e= .returned (.bool (decide (lo≤x) &&decide (x≤hi)))∧w.alloc (.cells #[.int .i64 x] 3)=w':=by
 subst hn
 refine(Xv4 lo hi _ 1 [x] _ (by simp) ?_).mono ?_
 ·intro j h;simp at h;subst h;simp
 ·rintro e w' ⟨rfl,rfl⟩;simp[Jf8]
def J6 (p q:Int):Bool:=(decide (1≤p) &&decide (p≤1000000)) && (decide (1≤q) &&decide (q≤1000000))
theorem V5 {p s:Int}:J6 p s=true↔1≤p∧p≤1000000∧1≤s∧s≤1000000:=by simp[J6,and_assoc]
theorem U5 (p q:Int) (w:World):Calls Tryz.prog 43 #[.int .i64 p,.int .i64 q] w fun e w'=>
  e= .returned (.bool (J6 p q))∧Below w.heap.size w w':=by
 by_cases h1:(decide (1≤p) &&decide (p≤1000000))=true
 ·have e1:J6 p q=(decide (1≤q) &&decide (q≤1000000)):=by rw[J6,h1];rfl
  rw[e1];have H1:=QQ h1;clear h1 e1;go_enter Tryz.func43,Tryz.ntmps43
  go_wp2_with fail
  refine(Qb7 _ _ _ _ _ (by simp)).mono ?_;rintro e w' ⟨rfl,rfl⟩;rw[H1.out];go_wp2_with fail
  refine(Qb7 _ _ _ _ _ (by simp)).mono ?_;rintro e w' ⟨rfl,rfl⟩;go_wp2;go_ret;exact⟨rfl,((Below.refl _ w).alloc (Nat.le_refl _) _).alloc (by simp) _⟩
 ·have h1':(decide (1≤p) &&decide (p≤1000000))=false:=by simpa using h1
  have e1:J6 p q=false:=by rw[J6,h1'];rfl
  rw[e1];have H1:=QQ h1';clear h1 h1' e1;go_enter Tryz.func43,Tryz.ntmps43
  go_wp2_with fail
  refine(Qb7 _ _ _ _ _ (by simp)).mono ?_;rintro e w' ⟨rfl,rfl⟩;rw[H1.out];go_wp2;go_ret;exact⟨rfl,(Below.refl _ w).alloc (Nat.le_refl _) _⟩
def JJ (o:QX):QX:=⟨o.id,o.side,o.kind,if o.kind=2 then 1 else o.price,o.qty⟩
def Jb1 (o:QX):Bool:=decide ((o.side=1∨o.side=2)∧1≤o.id)
def Qq6 (o:QX):Bool:=J6 (JJ o).price o.qty
theorem Ku6 (w:World) (b:Nat) (o:QX) (h:Jb1 o=false):
  Calls Tryz.prog 93 #[.pointer (some ⟨b,0,none⟩),KQ o] w fun e w'=>e= .returned (YV 1)∧Below w.heap.size w w':=by
 have HB:=QQ (show Below w.heap.size w (w.alloc (.cells (KZ o) 29))from(Below.refl _ w).alloc (Nat.le_refl _) _)
 obtain⟨id,side,kind,price,qty⟩:=o
 unfold Jb1 at h
 simp only[decide_eq_false_iff_not]at h
 unfold KQ
 dsimp only at h⊢
 by_cases h1:side=1
 ·have t1:=Ji5 h1
  have d1:decide (id<1)=true:=J5 (by omega);clear h h1;go_enter Tryz.func93,Tryz.ntmps93
  go_wp2_with fail
  go_ret;exact⟨rfl,HB.out⟩
 ·have t1:=Ji6 h1
  by_cases h2:side=2
  ·have t2:=Ji5 h2
   have d1:decide (id<1)=true:=J5 (by omega);clear h h1 h2;go_enter Tryz.func93,Tryz.ntmps93
   go_wp2_with fail
   go_ret;exact⟨rfl,HB.out⟩
  ·have t2:=Ji6 h2
   clear h h1 h2;go_enter Tryz.func93,Tryz.ntmps93
   go_wp2_with fail
   go_ret;exact⟨rfl,HB.out⟩
theorem Qd8 {o:QX}:Jb1 o=true↔(o.side=1∨o.side=2)∧1≤o.id:=by unfold Jb1;simp
theorem Kg9 (w:World) (b:Nat) (o:QX) (h:Jb1 o=true) (hr:Qq6 o=false):
  Calls Tryz.prog 93 #[.pointer (some ⟨b,0,none⟩),KQ o] w fun e w'=>e= .returned (YV 2)∧Below w.heap.size w w':=by
 have HB:=QQ (show Below w.heap.size w (w.alloc (.cells (KZ (JJ o)) 29))from(Below.refl _ w).alloc (Nat.le_refl _) _)
 obtain⟨hs,hi⟩:=Qd8.1 h
 obtain⟨id,side,kind,price,qty⟩:=o
 unfold KQ
 unfold Qq6 JJ at hr
 unfold JJ KZ at HB
 dsimp only at*
 have d1:decide (id<1)=false:=IQ (by omega)
 have HR:=QQ hr
 clear h hi hr
 rcases hs with rfl|rfl
 all_goals
  by_cases hk:kind=2
  ·have t1:=J4 hk
   rw[if_pos hk]at HR HB;have HK:=QQ hk;clear hk;go_enter Tryz.func93,Tryz.ntmps93
   go_wp2_with (go_at_call 43;refine(U5 _ _ _).mono ?_;rintro e w1 ⟨rfl,hb⟩;rw[HR.out])
   go_ret;exact⟨rfl,HB.out.trans (hb.mono (by simp))⟩
  ·have t1:=UQ hk
   rw[if_neg hk]at HR HB;have HK:=QQ hk;clear hk;go_enter Tryz.func93,Tryz.ntmps93
   go_wp2_with (go_at_call 43;refine(U5 _ _ _).mono ?_;rintro e w1 ⟨rfl,hb⟩;rw[HR.out])
   go_ret;exact⟨rfl,HB.out.trans (hb.mono (by simp))⟩
theorem Xm5 (w:World) (r:Nat) (f:Int→Option Value) (h:I6 w r f) (k:Int):(Instr.lookup 150 (.map (some r)) (.int .i64 k) true).run Tryz.prog w= .ok (.tuple #[(f k).getD (.agg #[.int .i64 0,.int .i64 0,.int .i64 0,.int .i64 0,.bool false]),.bool (f k).isSome]) w:=
 h.lookup Tryz.underlying150 Tryz.underlying3 (z:= .agg #[.int .i64 0,.int .i64 0,.int .i64 0,.int .i64 0,.bool false]) (by kernel_rfl) k true
theorem K0 {w:World} {r:Nat} {f:Int→Option Value} (h:I6 w r f) {k:Int} {x:HO} (e:f k=some (X7 x)):(Instr.lookup 150 (.map (some r)) (.int .i64 k) true).run Tryz.prog w=
  .ok (.tuple #[.agg #[.int .i64 x.1.1,.int .i64 x.1.2,.int .i64 x.2.side,.int .i64 x.2.price,.bool (x.2.kind ==2)],.bool true]) w:=by
 rw[Xm5 w r f h k,e];rfl
theorem IX {w:World} {r:Nat} {f:Int→Option Value} (h:I6 w r f) {k:Int} (e:f k=none):(Instr.lookup 150 (.map (some r)) (.int .i64 k) true).run Tryz.prog w=
  .ok (.tuple #[.agg #[.int .i64 0,.int .i64 0,.int .i64 0,.int .i64 0,.bool false],.bool false]) w:=by
 rw[Xm5 w r f h k,e];rfl
theorem Kb8 {w w1:World} {b a n r:Nat} {F:Nat→Prop} {M:Int→Int→Option QX} {f:Int→Option Value} {H:Int→HS} {reg:Nat→Int} {o:QX} (hM:XX w b a F M n r f H reg)
  (hb:Below (w.alloc (.cells (KZ o) 29)).heap.size (w.alloc (.cells (KZ o) 29)) w1):Below w.heap.size w w1∧XX w1 b a F M n r f H reg∧QJ w1 w.heap.size 29 (KZ o):=by
 have hB0:Below w.heap.size w (w.alloc (.cells (KZ o) 29)):=(Below.refl _ w).alloc (Nat.le_refl _) _
 have hB:Below w.heap.size w w1:=hB0.trans (hb.mono (by simp))
 exact⟨hB,hM.below hB,QJ.keep (QJ.new w _ _) hb⟩
theorem Kh0 (w:World) (b:Nat) (o:QX) (a:Nat) (F:Nat→Prop) (M:Int→Int→Option QX) (n r:Nat) (f:Int→Option Value) (H:Int→HS) (reg:Nat→Int) (hM:XX w b a F M n r f H reg)
  (h:Jb1 o=true) (hr:Qq6 o=true) (x:HO) (hf:f o.id=some (X7 x)):
  Calls Tryz.prog 93 #[.pointer (some ⟨b,0,none⟩),KQ o] w fun e w'=>e= .returned (YV 9)∧Below w.heap.size w w':=by
 obtain⟨hs,hi⟩:=Qd8.1 h
 obtain⟨id,side,kind,price,qty⟩:=o
 unfold KQ
 unfold Qq6 JJ at hr
 dsimp only at*
 have d1:decide (id<1)=false:=IQ (by omega)
 have HM:=QQ hM
 have HR:=QQ hr
 have HF:=QQ hf
 clear h hi hr hM hf
 rcases hs with rfl|rfl
 all_goals
  by_cases hk:kind=2
  ·have t1:=J4 hk
   rw[if_pos hk]at HR;have HK:=QQ hk;clear hk;go_enter Tryz.func93,Tryz.ntmps93
   go_wp2_with fail
   refine(U5 _ _ _).mono ?_;rintro e w1 ⟨rfl,hb⟩;rw[HR.out];obtain⟨hB,hM1,hX⟩:=Kb8 (o:=⟨id,_,kind,1,qty⟩) HM.out hb;obtain⟨x0,x1,x2,x3,x4⟩:=JW hX;obtain⟨y0,y1,y2,y3,y4,y5⟩:=hM1.cells;have hlk:=K0 (w:=(w1.alloc (.cells #[.int .i64 0,.int .i64 0,.int .i64 0,.int .i64 0,.bool false] 188)).drew) (hM1.mp.alloc _) HF.out;have hlk2:=K0 (w:=w1.drew) hM1.mp HF.out;have HB:=QQ hB;have hl1:=QJ.lt hX;have hl2:=QJ.lt hM1.blk;clear hM1 hX hB hb;go_wp2_with fail
   go_region_law (fail)
   all_goals go_wp2_with fail
   all_goals
    go_ret;exact⟨rfl,(HB.out.trans (Below.drew ((Below.refl _ w1).alloc HB.out.size _)))⟩
  ·have t1:=UQ hk
   rw[if_neg hk]at HR;have HK:=QQ hk;clear hk;go_enter Tryz.func93,Tryz.ntmps93
   go_wp2_with fail
   refine(U5 _ _ _).mono ?_;rintro e w1 ⟨rfl,hb⟩;rw[HR.out];obtain⟨hB,hM1,hX⟩:=Kb8 (o:=⟨id,_,kind,price,qty⟩) HM.out hb;obtain⟨x0,x1,x2,x3,x4⟩:=JW hX;obtain⟨y0,y1,y2,y3,y4,y5⟩:=hM1.cells;have hlk:=K0 (w:=(w1.alloc (.cells #[.int .i64 0,.int .i64 0,.int .i64 0,.int .i64 0,.bool false] 188)).drew) (hM1.mp.alloc _) HF.out;have hlk2:=K0 (w:=w1.drew) hM1.mp HF.out;have HB:=QQ hB;have hl1:=QJ.lt hX;have hl2:=QJ.lt hM1.blk;clear hM1 hX hB hb;go_wp2_with fail
   go_region_law (fail)
   all_goals go_wp2_with fail
   all_goals
    go_ret;exact⟨rfl,(HB.out.trans (Below.drew ((Below.refl _ w1).alloc HB.out.size _)))⟩
def Qn9 (w w':World) (b a r:Nat) (F:Nat→Prop) (n:Nat) (H:Int→HS) (o:QX):Prop:=
 ∃F' M' f' H' reg',XX w' b a F' M' (n+1) r f' H' reg'∧KY M' (n+1) f' H'∧XW w w' (U1 b r F H) (U1 b r F' H')∧(H' o.side).L=Qs4 o.side (H o.side).L o∧ ∀s',s'≠o.side→H' s'=H s'
section
variable {M:Int→Int→Option QX} {n:Nat} {f:Int→Option Value} {H:Int→HS} {s:Int} {o:QX} {h:Int×Int}
theorem Xm6 (hS:KY M n f H) (hs:VV s) (ho:o.side=s) (hk:o.kind=2) (hok:OkO o) (hno:M h.1 h.2=none) (hf:f o.id=none) (A':Option Addr) (c':Nat):
  KY (Z8 M h.1 h.2 (some o)) (n+1) (Z7 f o.id (some (X7 (h,o)))) (upH H s ⟨A',c',(H s).qA,(H s).qc,(H s).ms++ [(h,o)],(H s).qs⟩)∧
   (upH H s ⟨A',c',(H s).qA,(H s).qc,(H s).ms++ [(h,o)],(H s).qs⟩ s).L=Qs4 s (H s).L o:=by
 have hi:=hS.is s hs
 refine⟨hS.add (x:=(h,o)) hs ?_ ⟨?_,hi.qk,hi.rank⟩ (hS.ne s hs) hno hf hok, ?_⟩
 ·show(((H s).ms++ [(h,o)])++IZ (H s).qs).Perm ((h,o):: ((H s).ms++IZ (H s).qs))
  rw[List.append_assoc];exact List.perm_middle
 ·intro x hx
  rcases List.mem_append.1 hx with hx|hx
  ·exact hi.mkt x hx
  ·obtain rfl:x=(h,o):=by simpa using hx
   exact⟨hk,ho⟩
 ·rw[VX]
  exact(Xu9 hi (h,o) hk).symm
def Jd2 (qs:List QG) (k:Nat) (p:Int):List QG:=qs.take k++⟨p,none,0,[]⟩::qs.drop k
theorem Xm7 (qs:List QG) (k:Nat) (p:Int):(Jd2 qs k p).map QG.que=(qs.map QG.que).take k++(p,none,0,0):: (qs.map QG.que).drop k:=by
 unfold Jd2
 rw[List.map_append,List.map_cons,List.map_take,List.map_drop]
 rfl
theorem Xm8 {qs:List QG} {k:Nat} (hk:k≤qs.length) (p:Int):(Jd2 qs k p).length=qs.length+1:=by
 unfold Jd2
 simp
 omega
theorem Ku7 {qs:List QG} {k:Nat} (hk:k≤qs.length) (p:Int):(Jd2 qs k p)[k]?=some ⟨p,none,0,[]⟩:=by
 unfold Jd2
 rw[List.getElem?_append_right (by simp;omega),List.length_take,Nat.min_eq_left hk,Nat.sub_self]
 rfl
theorem Ku8 (qs:List QG) (k:Nat) (p:Int):(Jd2 qs k p).filterMap (fun q=>QZ q.A)=qs.filterMap fun q=>QZ q.A:=by
 unfold Jd2
 rw[List.filterMap_append,List.filterMap_cons_none rfl,←List.filterMap_append,List.take_append_drop]
theorem Js0 {qs:List QG} {k:Nat} {p:Int} {q:QG} (hq:q∈Jd2 qs k p):q∈qs∨q=⟨p,none,0,[]⟩:=by
 unfold Jd2 at hq
 rcases List.mem_append.1 hq with h|h
 ·exact .inl (List.mem_of_mem_take h)
 ·rcases List.mem_cons.1 h with h|h
  ·exact .inr h
  ·exact .inl (List.mem_of_mem_drop h)
theorem Xm9 {a b:Int} (h:0≤O4 s a b) (hne:a≠b) (hs:VV s):Qi7 s b a=true:=by
 unfold O4 at h
 rw[if_neg hne]at h
 split at h
 ·omega
 ·rename_i hb
  unfold Qi7 at*;rcases hs with rfl|rfl<;>simp_all<;>omega
theorem Kh1 {ms:List HO} {qs:List QG} {k:Nat} {p:Int} (hs:VV s) (h:Qm0 s ms qs) (hf:Xf7 s p (qs.map QG.que) qs.length k) (hn:Qm1 s p (qs.map QG.que) qs.length k=false):Qm0 s ms (Jd2 qs k p)∧V4 ms (Jd2 qs k p)=V4 ms qs:=by
 obtain⟨hk,hlo,hhi⟩:=hf
 have hne: ∀i (hi:i<qs.length),k≤i→qs[i].price≠p:=by
  intro i hi hki e;have h0:=hhi i (by simpa using hi) hki;simp only[List.getElem_map]at h0;have hkl:k<qs.length:=by omega
  unfold Qm1 at hn;have e1:(qs.map QG.que)[k]?=some qs[k].que:=by simp[hkl]
  rw[e1]at hn;have hd:decide (k<qs.length)=true:=by simpa using hkl
  rw[hd]at hn;have hk0:O4 s qs[k].price p≠0:=by
   have:(O4 s qs[k].que.1 p ==0)=false:=by simpa using hn
   simpa [QG.que]using this
  rcases Nat.lt_or_eq_of_le hki with hlt|rfl
  ·have hr:=Ja0 h.rank hi hlt
   rw[e]at hr;have h2:=hhi k (by simpa using hkl) (Nat.le_refl _);simp only[List.getElem_map]at h2;have h3:O4 s qs[k].que.1 p=O4 s qs[k].price p:=rfl;have h4:=Xm9 (s:=s) (a:=qs[k].price) (b:=p) (by rw[←h3];exact h2) (Kb7 hr) hs;rw[Jr8 hr]at h4
   cases h4
  ·exact hk0 (by rw[e];unfold O4;rw[if_pos rfl])
 refine⟨⟨h.mkt,fun q hq x hx=> ?_, ?_⟩, ?_⟩
 ·rcases Js0 hq with hq|rfl
  ·exact h.qk q hq x hx
  ·cases hx
 ·rw[Xm7]
  unfold Qq3;have hr:=h.rank;unfold Qq3 at hr;have hr':=hr;rw[←List.take_append_drop k (qs.map QG.que)]at hr';rw[List.pairwise_append]at hr'⊢;refine⟨hr'.1, ?_, ?_⟩
  ·rw[List.pairwise_cons]
   refine⟨fun y hy=> ?_,hr'.2.1⟩;obtain⟨i,hi,rfl⟩:=List.mem_iff_getElem.1 hy;rw[List.getElem_drop];have hi':k+i<qs.length:=by simp at hi;omega
   have h0:=hhi (k+i) (by simpa using hi') (by omega);have h1:=hne (k+i) hi' (by omega);simp only[List.getElem_map]at h0⊢;exact Xm9 h0 h1 hs
  ·intro x hx y hy
   rcases List.mem_cons.1 hy with rfl|hy
   ·obtain⟨i,hi,rfl⟩:=List.mem_iff_getElem.1 hx
    have hi':i<k:=by simp at hi;omega
    rw[List.getElem_take];have h0:=hlo i (by simp;omega) hi';exact Jr4.1 h0
   ·exact hr'.2.2 x hx y hy
 ·unfold V4
  have:=Xl8 qs k ⟨p,none,0,[]⟩ rfl;unfold Jd2;rw[this]
theorem Xv5 (hS:KY M n f H) (hs:VV s) (ho:o.side=s) (hk:o.kind≠2) (hok:OkO o) (hno:M h.1 h.2=none) (hf:f o.id=none) (qA:Option Addr) (qc:Nat) (qs:List QG) (hi:Qm0 s (H s).ms qs) (ha:V4 (H s).ms qs=(H s).all) {k:Nat} (hkl:k<qs.length) (hp:qs[k].price=o.price)
  (hne: ∀i (hi:i<qs.length),i≠k→qs[i].os≠ []) (A':Option Addr) (c':Nat):
  KY (Z8 M h.1 h.2 (some o)) (n+1) (Z7 f o.id (some (X7 (h,o)))) (upH H s ⟨(H s).mA,(H s).mc,qA,qc,(H s).ms,qs.set k ⟨qs[k].price,A',c',qs[k].os++ [(h,o)]⟩⟩)∧
   (upH H s ⟨(H s).mA,(H s).mc,qA,qc,(H s).ms,qs.set k ⟨qs[k].price,A',c',qs[k].os++ [(h,o)]⟩⟩ s).L=Qs4 s (H s).L o:=by
 refine⟨hS.add (x:=(h,o)) hs ?_ ⟨hi.mkt, ?_, ?_⟩ ?_ hno hf hok, ?_⟩
 ·rw[←ha]
  show(V4 _ _).Perm _;unfold V4;rw[Jr7 qs hkl,Y6 qs hkl];have:(H s).ms++(IZ (qs.take k)++((qs[k].os++ [(h,o)])++IZ (qs.drop (k+1))))=((H s).ms++(IZ (qs.take k)++qs[k].os))++(h,o)::IZ (qs.drop (k+1)):=by simp
  rw[this];refine List.perm_middle.trans ?_;simp
 ·intro q hq x hx
  rcases List.mem_or_eq_of_mem_set hq with hq|rfl
  ·exact hi.qk q hq x hx
  ·rcases List.mem_append.1 hx with hx|hx
   ·exact hi.qk _ (List.getElem_mem _) x hx
   ·obtain rfl:x=(h,o):=by simpa using hx
    exact⟨hk,ho,hp.symm⟩
 ·have e2:(qs.set k ⟨qs[k].price,A',c',qs[k].os++ [(h,o)]⟩).map QG.que=(qs.map QG.que).set k (qs[k].price,A',qs[k].os.length+1,c'):=by
   rw[List.map_set];simp[QG.que]
  unfold Qq3;rw[e2];rw[List.pairwise_iff_getElem];intro i j hi1 hj1 hij;have h0:=List.pairwise_iff_getElem.1 hi.rank i j (by simpa using hi1) (by simpa using hj1) hij;simp only[List.getElem_map,QG.que]at h0;simp only[List.getElem_set,List.getElem_map,QG.que]
  split<;>split<;>simp_all
 ·intro q hq
  obtain⟨i,hi1,rfl⟩:=List.mem_iff_getElem.1 hq;rw[List.getElem_set]
  split
  ·simp
  ·exact hne i (by simpa using hi1) (fun e=>by omega)
 ·rw[VX]
  have:=Kg6 hi (h,o) hk hkl hp ⟨qs[k].price,A',c',qs[k].os++ [(h,o)]⟩ rfl;rw[ha]at this;exact this.symm
variable {w w5 w6:World} {b a r:Nat} {F F':Nat→Prop} {reg':Nat→Int} {m gg cap:Nat}
theorem Qw4 (hS:KY M n f H) (hs:VV s) (ho:o.side=s) (hk:o.kind=2) (hok:OkO o) (hno:M h.1 h.2=none) (hf:f o.id=none)
  (hM5:XX w5 b a F' (Z8 M h.1 h.2 (some o)) (n+1) r (Z7 f o.id (some (X7 (h,o)))) H reg') (hS5:XW w w5 (U1 b r F H) (U1 b r F' H)) (hm:(H s).ms.length=m)
  (hK6:QK (fun i=>(Value.slice (H s).mA m (H s).mc).ownBlock=some i) w5 w6) (hO6:w6.ownsRow 0 186 2 (.slice (some ⟨gg,0,none⟩) (m+1) cap) (m+1) (QW U3 (J9 (H s).ms)++U3 h))
  (hA6:(Value.slice (H s).mA m (H s).mc).ownBlock=some gg∨gg=w5.heap.size+1):
  Qn9 w (w6.setCell ⟨b,Qp1 s,none⟩ (.slice (some ⟨gg,0,none⟩) (m+1) cap)) b a r F n H o:=by
 subst hm
 rw[XV]at hK6 hA6
 have hl:((H s).ms++ [(h,o)]).length=(H s).ms.length+1:=by simp
 have hR:QY w6 (some ⟨gg,0,none⟩) ((H s).ms++ [(h,o)]).length cap 186 2 (QW U3 (J9 ((H s).ms++ [(h,o)]))):=by
  rw[hl];have e:QW U3 (J9 ((H s).ms++ [(h,o)]))=QW U3 (J9 (H s).ms)++U3 h:=by unfold J9;rw[List.map_append,Qf2];simp[QW]
  rw[e];exact hO6
 obtain⟨reg2,hM,hB⟩:=hM5.market hs hK6 hR (fun g hg=>by cases hg;exact hA6.imp id (fun e=>by show _≤gg;omega))
 rw[hl]at hM hB
 obtain⟨h1,h2⟩:=Xm6 hS hs ho hk hok hno hf (some ⟨gg,0,none⟩) cap
 refine⟨F',_,_,_,reg2,hM,h1,hS5.trans hB, ?_,fun s' hs'=>VY (by rw[←ho];exact hs')⟩
 rw[ho]
 exact h2
def Kb9 (w wx:World) (b a r:Nat) (F F':Nat→Prop) (M':Int→Int→Option QX) (n:Nat) (f':Int→Option Value) (H:Int→HS) (s p:Int) (k pb:Nat):Prop:=
 ∃(H1:Int→HS) (reg1:Nat→Int) (qA:Option Addr) (qc:Nat) (qs:List QG),XX wx b a F' M' (n+1) r f' H1 reg1∧XW w wx (U1 b r F H) (U1 b r F' H1)∧H1=upH H s ⟨(H s).mA,(H s).mc,qA,qc,(H s).ms,qs⟩∧
  Qm0 s (H s).ms qs∧V4 (H s).ms qs=(H s).all∧ ¬U1 b r F' H1 pb∧ ∃hkl:k<qs.length,qs[k].price=p∧ ∀i (hi:i<qs.length),i≠k→qs[i].os≠ []
theorem Ku9 (H:Int→HS) (s:Int):upH H s ⟨(H s).mA,(H s).mc,(H s).qA,(H s).qc,(H s).ms,(H s).qs⟩=H:=by
 funext s'
 unfold upH
 split
 ·rename_i e;rw[e]
 ·rfl
theorem Jm4 {M':Int→Int→Option QX} {f':Int→Option Value} {p:Int} {k pb:Nat} (hnp: ¬U1 b r F' H pb) (hS:KY M n f H) (hs:VV s) (hM5:XX w5 b a F' M' (n+1) r f' H reg') (hS5:XW w w5 (U1 b r F H) (U1 b r F' H))
  (hf:Qm1 s p ((H s).qs.map QG.que) (H s).qs.length k=true):Kb9 w w5 b a r F F' M' n f' H s p k pb:=by
 unfold Qm1 at hf
 rw[Bool.and_eq_true,decide_eq_true_iff]at hf
 obtain⟨hk,hf⟩:=hf
 refine⟨H,reg',(H s).qA,(H s).qc,(H s).qs,hM5,hS5,(Ku9 H s).symm,hS.is s hs,rfl,hnp,hk, ?_,fun i hi _=>hS.ne s hs _ (List.getElem_mem _)⟩
 have e1:((H s).qs.map QG.que)[k]?=some (H s).qs[k].que:=by simp[hk]
 rw[e1]at hf
 have h0:O4 s (H s).qs[k].price p=0:=by simpa [QG.que]using hf
 unfold O4 at h0
 split at h0
 ·assumption
 ·split at h0<;>omega
theorem Jz9 {M':Int→Int→Option QX} {f':Int→Option Value} {p:Int} {k pb:Nat} (hnp: ¬U1 b r F' H pb) (hpl:pb<w5.heap.size) {A':Option Addr} {c':Nat} {v:Value} (hS:KY M n f H) (hs:VV s) (hM5:XX w5 b a F' M' (n+1) r f' H reg') (hS5:XW w w5 (U1 b r F H) (U1 b r F' H))
  (hk:Xf7 s p ((H s).qs.map QG.que) (H s).qs.length k) (hf:Qm1 s p ((H s).qs.map QG.que) (H s).qs.length k=false)
  (hI:Xl9 w5 w6 (H s).qA A' ((H s).qs.length+1) c' (((H s).qs.map QG.que).take k++(p,none,0,0):: ((H s).qs.map QG.que).drop k)) (hv:v= .slice A' ((H s).qs.length+1) c'):
  Kb9 w (w6.setCell ⟨b,Qp1 s+1,none⟩ v) b a r F F' M' n f' H s p k pb:=by
 subst hv
 obtain⟨hR,hK,hat⟩:=hI
 have hkl:=hk.1
 have hl:=Xm8 hkl p
 rw[←Xm7,←hl]at hR
 obtain⟨reg2,hM,hB⟩:=hM5.queues hs hK hR hat (fun q hq=>(Js0 hq).imp id (fun e=>by subst e;exact⟨rfl,rfl,rfl⟩)) (by rw[Ku8];exact(hM5.hx s hs).nd)
 obtain⟨h1,h2⟩:=Kh1 hs (hS.is s hs) hk hf
 rw[hl]at hM hB
 have hkq:k< (Jd2 (H s).qs k p).length:=by omega
 have hat:=Ku7 hkl p
 rw[List.getElem?_eq_getElem hkq]at hat
 refine⟨_,reg2,A',c',Jd2 (H s).qs k p,hM,hS5.trans hB,rfl,h1,h2,(fun hi=>(hB.2 pb hi).elim hnp (by omega)),hkq,by rw[Option.some.inj hat],fun i hi hik e=> ?_⟩
 have hmem:=Js0 (List.getElem_mem hi)
 rcases hmem with h3|h3
 ·exact hS.ne s hs _ h3 e
 ·
  have hr:=h1.rank;rcases Nat.lt_or_gt_of_ne hik with hlt|hgt
  ·have h4:=Ja0 hr hkq hlt
   rw[h3,Option.some.inj hat,Qw3]at h4
   cases h4
  ·have h4:=Ja0 hr hi hgt
   rw[h3,Option.some.inj hat,Qw3]at h4
   cases h4
theorem Jb7 {k qg:Nat} {H1:Int→HS} {qA:Option Addr} {qc:Nat} {qs:List QG} (hS:KY M n f H) (hs:VV s) (ho:o.side=s) (hk:o.kind≠2) (hok:OkO o) (hno:M h.1 h.2=none) (hf:f o.id=none)
  (hM5:XX w5 b a F' (Z8 M h.1 h.2 (some o)) (n+1) r (Z7 f o.id (some (X7 (h,o)))) H1 reg') (hS5:XW w w5 (U1 b r F H) (U1 b r F' H1)) (hH:H1=upH H s ⟨(H s).mA,(H s).mc,qA,qc,(H s).ms,qs⟩)
  (hi:Qm0 s (H s).ms qs) (ha:V4 (H s).ms qs=(H s).all) (hkl:k<qs.length) (hp:qs[k].price=o.price) (hne: ∀i (hi:i<qs.length),i≠k→qs[i].os≠ []) (hq:qA=some ⟨qg,0,none⟩) (hm:qs[k].os.length=m)
  (hK6:QK (fun i=>(Value.slice qs[k].A m qs[k].c).ownBlock=some i) w5 w6) (hO6:w6.ownsRow 0 186 2 (.slice (some ⟨gg,0,none⟩) (m+1) cap) (m+1) (QW U3 (J9 qs[k].os)++U3 h))
  (hA6:(Value.slice qs[k].A m qs[k].c).ownBlock=some gg∨gg=w5.heap.size+1):
  Qn9 w (w6.setCell ⟨qg,k*2+1,none⟩ (.slice (some ⟨gg,0,none⟩) (m+1) cap)) b a r F n H o:=by
 subst hm
 subst hH
 rw[XV]at hK6 hA6
 have hl:(qs[k].os++ [(h,o)]).length=qs[k].os.length+1:=by simp
 have hR:QY w6 (some ⟨gg,0,none⟩) (qs[k].os++ [(h,o)]).length cap 186 2 (QW U3 (J9 (qs[k].os++ [(h,o)]))):=by
  rw[hl];have e:QW U3 (J9 (qs[k].os++ [(h,o)]))=QW U3 (J9 qs[k].os)++U3 h:=by unfold J9;rw[List.map_append,Qf2];simp[QW]
  rw[e];exact hO6
 have eS:upH H s ⟨(H s).mA,(H s).mc,qA,qc,(H s).ms,qs⟩ s=⟨(H s).mA,(H s).mc,qA,qc,(H s).ms,qs⟩:=VX _ _ _
 have hX:=hM5.queue (s:=s) hs (w3:=w6) (k:=k) (by rw[eS];exact hkl) (qg:=qg) (by rw[eS];exact hq) (A':=some ⟨gg,0,none⟩) (c':=cap) (os':=qs[k].os++ [(h,o)])
  (by simpa only[eS]using hK6) hR (fun g hg=>by cases hg;simp only[eS];exact hA6.imp id (fun e=>by show _≤gg;omega))
 rw[hl]at hX
 simp only[eS]at hX
 obtain⟨reg2,hM,hB⟩:=hX
 have e2:upH (upH H s ⟨(H s).mA,(H s).mc,qA,qc,(H s).ms,qs⟩) s ⟨(H s).mA,(H s).mc,qA,qc,(H s).ms,qs.set k ⟨qs[k].price,some ⟨gg,0,none⟩,cap,qs[k].os++ [(h,o)]⟩⟩=upH H s ⟨(H s).mA,(H s).mc,qA,qc,(H s).ms,qs.set k ⟨qs[k].price,some ⟨gg,0,none⟩,cap,qs[k].os++ [(h,o)]⟩⟩:=by
  funext s'
  unfold upH
  split<;>rfl
 rw[e2]at hM hB
 obtain⟨h1,h2⟩:=Xv5 hS hs ho hk hok hno hf qA qc qs hi ha hkl hp hne (some ⟨gg,0,none⟩) cap
 refine⟨F',_,_,_,reg2,hM,h1,hS5.trans hB, ?_,fun s' hs'=>VY (by rw[←ho];exact hs')⟩
 rw[ho]
 exact h2
end
def Qq7 (w wx:World) (b a:Nat) (F:Nat→Prop) (M:Int→Int→Option QX) (n r:Nat) (f:Int→Option Value) (H:Int→HS) (reg:Nat→Int) (o:QX):Prop:=
 Below w.heap.size w wx∧XX wx b a F M n r f H reg∧QJ wx w.heap.size 29 (KZ o)
def Kv0 (W:World) (a:Nat) (F:Nat→Prop) (M:Int→Int→Option QX) (n:Nat) (o:QX) (e:Ending) (w':World):Prop:=
 ∃sl ag:Int,M sl ag=none∧e= .returned (.tuple #[.agg #[.int .i64 sl,.int .i64 ag],.nilIface])∧Jr2 W w' a F (Z8 M sl ag (some o)) 100 (n+1)
def Xn0 (w wx:World) (b a:Nat) (F:Nat→Prop) (M:Int→Int→Option QX) (n r:Nat) (f:Int→Option Value) (H:Int→HS) (o:QX) (s8:Value):Prop:=
 ∃(h:Int×Int) (pb:Nat) (F':Nat→Prop) (reg':Nat→Int),s8= .pointer (some ⟨pb,0,none⟩)∧M h.1 h.2=none∧QJ wx pb 186 #[.int .i64 h.1,.int .i64 h.2]∧QJ wx w.heap.size 29 (KZ o)∧
  XX wx b a F' (Z8 M h.1 h.2 (some o)) (n+1) r f H reg'∧XW w wx (U1 b r F H) (U1 b r F' H)∧ ¬U1 b r F' H pb∧ ¬U1 b r F' H w.heap.size
theorem Qi2 {w w1 wx:World} {b a n r:Nat} {F:Nat→Prop} {M:Int→Int→Option QX} {f:Int→Option Value} {H:Int→HS} {reg:Nat→Int} {o:QX} (h:Qq7 w w1 b a F M n r f H reg o) (hb:Below w1.heap.size w1 wx):Qq7 w wx b a F M n r f H reg o:=by
 obtain⟨h1,h2,h3⟩:=h
 exact⟨h1.trans (hb.mono h1.size),h2.below hb,QJ.keep h3 hb⟩
def Kx6 (wc wx:World) (qg k m:Nat) (A:Option Addr) (c:Nat) (xs:List Value):Prop:=
 ∃gg cap w6,wx=World.setCell w6 ⟨qg,k*2+1,none⟩ (.slice (some ⟨gg,0,none⟩) (m+1) cap)∧QK (fun i=>(Value.slice A m c).ownBlock=some i) wc w6∧w6.ownsRow 0 186 2 (.slice (some ⟨gg,0,none⟩) (m+1) cap) (m+1) xs∧((Value.slice A m c).ownBlock=some gg∨gg=wc.heap.size+1)
theorem Kn7 {n m:Nat} {H:Int→HS} {s:Int} (hs:VV s) (hm:(H s).ms.length=m) (h1:n=(X5 H).length) (h2:n<100):m≤1000:=by
 unfold X5 HS.all V4 at h1
 simp only[List.length_append]at h1
 rcases hs with rfl|rfl<;>omega
theorem Xg0 {M:Int→Int→Option QX} {n:Nat} {f:Int→Option Value} {H:Int→HS} {s:Int} (hs:VV s) (hS:KY M n f H) (h2:n<100):(H s).qs.length≤100000:=by
 have h1:=hS.cnt
 have h3:(H s).qs.length≤(IZ (H s).qs).length:=by
  have hne:=hS.ne s hs;generalize(H s).qs=l at hne
  induction l with
  |nil=>simp
  |cons q l ih=>
   have ih:=ih (fun q hq=>hne q (by simp[hq]));have h0:0<q.os.length:=List.length_pos_iff.2 (hne q (by simp));have e:IZ (q::l)=q.os++IZ l:=rfl;rw[e,List.length_append,List.length_cons];omega
 unfold X5 HS.all V4 at h1
 simp only[List.length_append]at h1
 rcases hs with rfl|rfl<;>omega
theorem Qo0:(Tryz.prog.info? 186).map (fun i=>(i.zero,i.size,i.bytes))=some (some (.agg #[.int .i64 0,.int .i64 0]),2,16):=by kernel_rfl
theorem KX:VV 1:= .inl rfl
theorem KK:VV 2:= .inr rfl
theorem Jp3 {wc w5:World} {a most n n':Nat} {F:Nat→Prop} {M M':Int→Int→Option QX} (hA:OAr wc a F M most n) (hto:Jr2 ((wc.alloc (.cells #[.int .i64 0,.int .i64 0] 186)).drew) w5 a F M' 100 n'):QJ w5 wc.heap.size 186 #[.int .i64 0,.int .i64 0]:=by
 obtain⟨F',_,hK,_⟩:=hto
 exact QJ.keeps (QJ.drew (QJ.new wc _ _)) hK (fun h=>by have:=hA.fp h;omega)
theorem Qi8 {w wc W w5 wx:World} {b a n r pb:Nat} {F:Nat→Prop} {M:Int→Int→Option QX} {f:Int→Option Value} {H:Int→HS} {reg:Nat→Int} {o:QX} {sl ag:Int} (hM:XX w b a F M n r f H reg) (h:Qq7 w wc b a F M n r f H reg o)
  (hW:Below wc.heap.size wc W) (hno:M sl ag=none) (hto:Jr2 W w5 a F (Z8 M sl ag (some o)) 100 (n+1)) (hk:QK (fun i=>i=pb) w5 wx) (hpb:pb<W.heap.size∨w5.heap.size≤pb) (hwp:wc.heap.size≤pb)
  (hB:QJ wx pb 186 #[.int .i64 sl,.int .i64 ag]):Xn0 w wx b a F M n r f H o (.pointer (some ⟨pb,0,none⟩)):=by
 obtain⟨h1,h2,h3⟩:=h
 have hMW:=h2.below hW
 obtain⟨F',reg',hM5,hS5⟩:=hMW.arena hto
 have hsz:=hS5.1.size
 have hxl:=QJ.lt h3
 have hws:=hW.size
 have h1s:=h1.size
 have hx: ∀i,U1 b r F' H i→i≠pb:=by
  intro i hi e;subst e;have h5:=hM5.fp hi;rcases hS5.2 i hi with h6|h6
  ·have:=h2.fp h6;omega
  ·omega
 refine⟨(sl,ag),pb,F',reg',rfl,hno,hB, ?_,hM5.keeps hk (fun i hi e=>hx i hi e),⟨?_, ?_⟩,fun h=>hx pb h rfl, ?_⟩
 ·refine QJ.keeps (QJ.keeps (QJ.keep h3 hW) hS5.1 (fun hi=> ?_)) hk (fun e=>by omega)
  have:=hM.fp hi;omega
 ·refine(((QK.of_below (h1.trans (hW.mono h1s)) (U1 b r F H)).trans hS5.1 (fun i h=> .inl h))).trans hk (fun i e=> .inr (by rw[e];omega))
 ·intro i hi
  rcases hS5.2 i hi with h6|h6
  ·exact .inl h6
  ·exact .inr (by omega)
 ·intro hi
  rcases hS5.2 _ hi with h6|h6
  ·have:=hM.fp h6;omega
  ·omega
theorem Qm2 {w w1:World} {b a n r:Nat} {F:Nat→Prop} {M:Int→Int→Option QX} {f:Int→Option Value} {H:Int→HS} {reg:Nat→Int} {o:QX} (hM:XX w b a F M n r f H reg) (h:Qq7 w w1 b a F M n r f H reg o) (hk:(o.kind ==2)=true):
  Qq7 w (w1.setCell ⟨w.heap.size,3,none⟩ (.int .i64 1)) b a F M n r f H reg (JJ o):=by
 obtain⟨h1,h2,h3⟩:=h
 have hk4:=QK.set_ w1 ⟨w.heap.size,3,none⟩ (.int .i64 1)
 have hk':o.kind=2:=by simpa using hk
 refine⟨((QK.of_below h1 (fun i=>i=w.heap.size)).trans hk4 (fun i h=> .inl h)).below (fun i hi=>by rw[hi];exact Nat.le_refl _) (Nat.le_refl _),h2.keeps hk4 (fun i hi e=> ?_), ?_⟩
 ·have:=hM.fp hi
  have e':i=w.heap.size:=e;omega
 ·have:=QJ.set_ h3 3 (.int .i64 1)
  have e:(KZ o).setIfInBounds 3 (.int .i64 1)=KZ (JJ o):=by unfold KZ JJ;rw[if_pos hk'];rfl
  rwa [e]at this
theorem Qq8 {o:QX} (hk:(o.kind ==2)=false):JJ o=o:=by
 have hk': ¬o.kind=2:=by simpa using hk
 unfold JJ
 rw[if_neg hk']
def Qi9 (w w':World) (b a r:Nat) (F:Nat→Prop) (n:Nat) (H:Int→HS) (s id:Int):Prop:=
 ∃F' M' f' H' reg',XX w' b a F' M' (n-1) r f' H' reg'∧KY M' (n-1) f' H'∧XW w w' (U1 b r F H) (U1 b r F' H')∧(H' s).L=O7 (H s).L id∧ ∀s',s'≠s→H' s'=H s'
theorem Qs8 (l:List HO) (h:Int×Int):J9 (l.filter (X3 h))=(J9 l).filter fun p=> !isH h p:=by
 unfold J9 X3
 rw[List.filter_map]
 rfl
theorem Qb0 (l:List HO) (h:Int×Int):((J9 l).filter fun p=> !isH h p).length=(l.filter (X3 h)).length:=by
 rw[←Qs8]
 simp[J9]
section
variable {M:Int→Int→Option QX} {n:Nat} {f:Int→Option Value} {H:Int→HS} {s:Int} {x:HO}
theorem KY.where_ (S:KY M n f H) (hs:VV s) (hx:x∈(H s).all):(x.2.kind=2∧x∈(H s).ms)∨(x.2.kind≠2∧ ∃k,∃hk:k< (H s).qs.length,x∈(H s).qs[k].os∧(H s).qs[k].price=x.2.price):=by
 rcases List.mem_append.1 hx with h|h
 ·exact .inl ⟨((S.is s hs).mkt x h).1,h⟩
 ·obtain⟨q,hq,hxq⟩:=List.mem_flatMap.1 h
  obtain⟨k,hk,rfl⟩:=List.mem_iff_getElem.1 hq;have h1:=(S.is s hs).qk _ hq x hxq;exact .inr ⟨h1.1,k,hk,hxq,h1.2.2.symm⟩
theorem Xn1 {ms:List HO} {qs:List QG} (hi:Qm0 s ms qs) {j k:Nat} {p:Int} (hj:j<qs.length) (hp:qs[j].price=p) (hf:Xf7 s p (qs.map QG.que) qs.length k):k=j:=by
 obtain⟨hk,hlo,hhi⟩:=hf
 have h0:O4 s p p=0:=by unfold O4;rw[if_pos rfl]
 rcases Nat.lt_trichotomy k j with h|h|h
 ·have h1:=Ja0 hi.rank hj h
  rw[hp]at h1;have h2:=hhi k (by simp;omega) (Nat.le_refl _);simp only[List.getElem_map]at h2;have h3:O4 s (qs[k]'(by omega)).price p<0:=Jr4.2 h1;have h4:O4 s (qs[k]'(by omega)).que.1 p=O4 s (qs[k]'(by omega)).price p:=rfl;omega
 ·exact h
 ·have h2:=hlo j (by simpa using hj) h
  simp only[List.getElem_map]at h2;have h4:O4 s qs[j].que.1 p=O4 s qs[j].price p:=rfl;rw[h4,hp,h0]at h2;omega
theorem Jm5 (S:KY M n f H) (hs:VV s) (hx:x∈(H s).all) (hk:x.2.kind=2) (A':Option Addr) (c':Nat):
  KY (Z8 M x.1.1 x.1.2 none) (n-1) (Z7 f x.2.id none) (upH H s ⟨A',c',(H s).qA,(H s).qc,(H s).ms.filter (X3 x.1),(H s).qs⟩)∧
   (upH H s ⟨A',c',(H s).qA,(H s).qc,(H s).ms.filter (X3 x.1),(H s).qs⟩ s).L=O7 (H s).L x.2.id:=by
 have hi:=S.is s hs
 have hall:V4 ((H s).ms.filter (X3 x.1)) (H s).qs=(H s).all.filter (X3 x.1):=by
  show _=(V4 (H s).ms (H s).qs).filter _;unfold V4;rw[List.filter_append]
  congr 1
  symm;rw[List.filter_eq_self];intro y hy;rw[Qf8];intro e;have hy':y∈(H s).all:=List.mem_append_right _ hy;have:=S.same_h (OV hs hy') (OV hs hx) e;subst this;obtain⟨q,hq,hyq⟩:=List.mem_flatMap.1 hy;exact(hi.qk q hq y hyq).1 hk
 refine⟨S.remove hs hx hall ⟨fun y hy=>hi.mkt y ((List.mem_filter.1 hy).1),hi.qk,hi.rank⟩ (S.ne s hs), ?_⟩
 rw[VX]
 show IW (V4 _ _)=_
 rw[hall]
 exact S.filter_id (OV hs hx) hs
theorem Js1 (S:KY M n f H) (hs:VV s) {k:Nat} (hk:k< (H s).qs.length) (hx:x∈(H s).qs[k].os) (hxa:x∈(H s).all):
  (H s).all.filter (X3 x.1)=(H s).ms++(IZ ((H s).qs.take k)++((H s).qs[k].os.filter (X3 x.1)++IZ ((H s).qs.drop (k+1)))):=by
 have hi:=S.is s hs
 have hnd:(X5 H).Nodup:=List.Pairwise.imp (fun h e=>h (by rw[e])) (List.pairwise_map.1 S.ids)
 have hnd2:(H s).all.Nodup:=by
  unfold X5 at hnd;rw[List.nodup_append]at hnd;rcases hs with rfl|rfl
  ·exact hnd.1
  ·exact hnd.2.1
 have e0:(H s).all=(H s).ms++(IZ ((H s).qs.take k)++((H s).qs[k].os++IZ ((H s).qs.drop (k+1)))):=by
  show V4 _ _=_;unfold V4;rw[Y6 _ hk]
 have keep: ∀l:List HO,(∀y∈l,y∈(H s).all)→x∉l→l.filter (X3 x.1)=l:=by
  intro l hl hxl;rw[List.filter_eq_self];intro y hy;rw[Qf8];intro e;have:=S.same_h (OV hs (hl y hy)) (OV hs hxa) e;subst this;exact hxl hy
 rw[e0]at hnd2
 rw[List.nodup_append,List.nodup_append,List.nodup_append]at hnd2
 obtain⟨_,⟨_,⟨_,_,d3⟩,d2⟩,d1⟩:=hnd2
 rw[e0,List.filter_append,List.filter_append,List.filter_append]
 rw[keep (H s).ms (fun y hy=>by rw[e0];simp[hy]) (fun h=>d1 x h x (by simp[hx]) rfl)]
 rw[keep (IZ ((H s).qs.take k)) (fun y hy=>by rw[e0];simp[hy]) (fun h=>d2 x h x (by simp[hx]) rfl)]
 rw[keep (IZ ((H s).qs.drop (k+1))) (fun y hy=>by rw[e0];simp[hy]) (fun h=>d3 x hx x h rfl)]
theorem Xv6 (S:KY M n f H) (hs:VV s) {k:Nat} (hk:k< (H s).qs.length) (hx:x∈(H s).qs[k].os) (hxa:x∈(H s).all) (hne:(H s).qs[k].os.filter (X3 x.1)≠ []) (A':Option Addr) (c':Nat):
  KY (Z8 M x.1.1 x.1.2 none) (n-1) (Z7 f x.2.id none) (upH H s ⟨(H s).mA,(H s).mc,(H s).qA,(H s).qc,(H s).ms,(H s).qs.set k ⟨(H s).qs[k].price,A',c',(H s).qs[k].os.filter (X3 x.1)⟩⟩)∧
   (upH H s ⟨(H s).mA,(H s).mc,(H s).qA,(H s).qc,(H s).ms,(H s).qs.set k ⟨(H s).qs[k].price,A',c',(H s).qs[k].os.filter (X3 x.1)⟩⟩ s).L=O7 (H s).L x.2.id:=by
 have hi:=S.is s hs
 have hall:V4 (H s).ms ((H s).qs.set k ⟨(H s).qs[k].price,A',c',(H s).qs[k].os.filter (X3 x.1)⟩)=(H s).all.filter (X3 x.1):=by
  rw[Js1 S hs hk hx hxa];unfold V4;rw[Jr7 _ hk]
 refine⟨S.remove hs hxa hall ⟨hi.mkt,fun q hq y hy=> ?_, ?_⟩ (fun q hq=> ?_), ?_⟩
 ·rcases List.mem_or_eq_of_mem_set hq with hq|rfl
  ·exact hi.qk q hq y hy
  ·exact hi.qk _ (List.getElem_mem _) y ((List.mem_filter.1 hy).1)
 ·have e2:((H s).qs.set k ⟨(H s).qs[k].price,A',c',(H s).qs[k].os.filter (X3 x.1)⟩).map QG.que=((H s).qs.map QG.que).set k ((H s).qs[k].price,A',((H s).qs[k].os.filter (X3 x.1)).length,c'):=by
   rw[List.map_set];simp[QG.que]
  show Qq3 s (List.map QG.que _);unfold Qq3;rw[e2,List.pairwise_iff_getElem];intro i j hi1 hj1 hij;have h0:=List.pairwise_iff_getElem.1 hi.rank i j (by simpa using hi1) (by simpa using hj1) hij;simp only[List.getElem_map,QG.que]at h0;simp only[List.getElem_set,List.getElem_map,QG.que]
  split<;>split<;>simp_all
 ·rcases List.mem_or_eq_of_mem_set hq with hq|rfl
  ·exact S.ne s hs q hq
  ·exact hne
 ·rw[VX]
  show IW (V4 _ _)=_;rw[hall];exact S.filter_id (OV hs hxa) hs
theorem Kh2 (S:KY M n f H) (hs:VV s) {k:Nat} (hk:k< (H s).qs.length) (hx:x∈(H s).qs[k].os) (hxa:x∈(H s).all) (hne:(H s).qs[k].os.filter (X3 x.1)= []) (A':Option Addr) (c':Nat):
  KY (Z8 M x.1.1 x.1.2 none) (n-1) (Z7 f x.2.id none) (upH H s ⟨(H s).mA,(H s).mc,A',c',(H s).ms,(H s).qs.take k++(H s).qs.drop (k+1)⟩)∧
   (upH H s ⟨(H s).mA,(H s).mc,A',c',(H s).ms,(H s).qs.take k++(H s).qs.drop (k+1)⟩ s).L=O7 (H s).L x.2.id:=by
 have hi:=S.is s hs
 have hall:V4 (H s).ms ((H s).qs.take k++(H s).qs.drop (k+1))=(H s).all.filter (X3 x.1):=by
  rw[Js1 S hs hk hx hxa,hne];unfold V4 IZ;rw[List.flatMap_append]
  rfl
 have hmem: ∀q∈(H s).qs.take k++(H s).qs.drop (k+1),q∈(H s).qs:=by
  intro q hq;rcases List.mem_append.1 hq with hq|hq
  ·exact List.mem_of_mem_take hq
  ·exact List.mem_of_mem_drop hq
 refine⟨S.remove hs hxa hall ⟨hi.mkt,fun q hq y hy=>hi.qk q (hmem q hq) y hy, ?_⟩ (fun q hq=>S.ne s hs q (hmem q hq)), ?_⟩
 ·show Qq3 s (List.map QG.que _)
  have:=hi.rank;unfold Qq3 at this⊢;rw[List.map_append,List.map_take,List.map_drop];have hsub:List.Sublist ((List.map QG.que (H s).qs).take k++(List.map QG.que (H s).qs).drop (k+1)) (List.map QG.que (H s).qs):=by
   conv=>rhs;rw[←List.take_append_drop k (List.map QG.que (H s).qs)]
   refine List.Sublist.append (List.Sublist.refl _) ?_;rw[←List.drop_drop];exact List.drop_sublist _ _
  exact List.Pairwise.sublist hsub this
 ·rw[VX]
  show IW (V4 _ _)=_;rw[hall];exact S.filter_id (OV hs hxa) hs
theorem Js2 {α:Type} (g:α→Option Nat) (l:List α) (k:Nat) (h:(l.filterMap g).Nodup):((l.take k++l.drop (k+1)).filterMap g).Nodup:=by
 refine List.Nodup.sublist (List.Sublist.filterMap _ ?_) h
 conv=>rhs;rw[←List.take_append_drop k l]
 refine List.Sublist.append (List.Sublist.refl _) ?_
 rw[←List.drop_drop]
 exact List.drop_sublist _ _
end
def Xn2 (p s:Int):Int:=max 1 (p-p*s/10000)
def Js3 (p s:Int):Int:=min 1000000 (p+p*s/10000)
theorem Kv1 (p s:Int) (w:World) (h1:1≤p) (h2:p≤1000000) (h3:0≤s) (h4:s≤10000):
  Calls Tryz.prog 35 #[.int .i64 p,.int .i64 s] w fun e w'=>
   e= .returned (.tuple #[.int .i64 (Xn2 p s),.int .i64 (Js3 p s),.nilIface])∧Below w.heap.size w w':=by
 go_enter Tryz.func35,Tryz.ntmps35
 have hm:0≤p*s:=Int.mul_nonneg (by omega) h3
 have hm2:p*s≤10000000000:=Int.le_trans (Int.mul_le_mul h2 h4 h3 (by omega)) (by omega)
 go_wp2_with (go_at_call 85;refine(Qb7 _ _ _ _ _ (by simp)).mono ?_;rintro e w' ⟨rfl,rfl⟩)
 all_goals
  go_ret3;exact⟨Kt8 (by unfold Xn2;omega) (by unfold Js3;omega),((Below.refl _ _).alloc (Nat.le_refl _) _).alloc (by simp) _⟩
theorem Kn8 (p s:Int) (w:World) (h: ¬(1≤p∧p≤1000000∧0≤s∧s≤10000)):
  Calls Tryz.prog 35 #[.int .i64 p,.int .i64 s] w fun e w'=>
   e= .returned (.tuple #[.int .i64 0,.int .i64 0,.iface 52 (.int .i64 2)])∧Below w.heap.size w w':=by
 by_cases h1:1≤p
 ·by_cases h2:p≤1000000
  ·by_cases h3:0≤s
   ·have h4:decide (s≤10000)=false:=by simp;omega
    clear h;go_enter Tryz.func35,Tryz.ntmps35
    go_wp2_with (go_at_call 85;refine(Qb7 _ _ _ _ _ (by simp)).mono ?_;rintro e w' ⟨rfl,rfl⟩)
    go_ret3;exact⟨rfl,((Below.refl _ _).alloc (Nat.le_refl _) _).alloc (by simp) _⟩
   ·have h4:decide (0≤s)=false:=by simp;omega
    clear h h3;go_enter Tryz.func35,Tryz.ntmps35
    go_wp2_with (go_at_call 85;refine(Qb7 _ _ _ _ _ (by simp)).mono ?_;rintro e w' ⟨rfl,rfl⟩)
    go_ret3;exact⟨rfl,((Below.refl _ _).alloc (Nat.le_refl _) _).alloc (by simp) _⟩
  ·have h4:decide (p≤1000000)=false:=by simp;omega
   clear h h2;go_enter Tryz.func35,Tryz.ntmps35
   go_wp2_with (go_at_call 85;refine(Qb7 _ _ _ _ _ (by simp)).mono ?_;rintro e w' ⟨rfl,rfl⟩)
   go_ret3;exact⟨rfl,(Below.refl _ _).alloc (Nat.le_refl _) _⟩
 ·have h4:decide (1≤p)=false:=by simp;omega
  clear h h1;go_enter Tryz.func35,Tryz.ntmps35
  go_wp2_with (go_at_call 85;refine(Qb7 _ _ _ _ _ (by simp)).mono ?_;rintro e w' ⟨rfl,rfl⟩)
  go_ret3;exact⟨rfl,(Below.refl _ _).alloc (Nat.le_refl _) _⟩
def Q5 (p s:Int):Bool:=(decide (1≤p) &&decide (p≤1000000)) && (decide (0≤s) &&decide (s≤10000))
theorem I8 {p s:Int}:Q5 p s=true↔1≤p∧p≤1000000∧0≤s∧s≤10000:=by simp[Q5,and_assoc]
def V6 (p s:Int):Int:=if Q5 p s=true then Xn2 p s else 0
def V7 (p s:Int):Int:=if Q5 p s=true then Js3 p s else 0
def Qm3 (p s:Int):Int:=if Q5 p s=true then 0 else 2
theorem Qf9 (p s:Int) (w:World):Calls Tryz.prog 35 #[.int .i64 p,.int .i64 s] w fun e w'=>
  e= .returned (.tuple #[.int .i64 (V6 p s),.int .i64 (V7 p s),YV (Qm3 p s)])∧Below w.heap.size w w':=by
 by_cases h:Q5 p s=true
 ·obtain⟨h1,h2,h3,h4⟩:=I8.1 h
  refine(Kv1 p s w h1 h2 h3 h4).mono ?_;rintro e w' ⟨rfl,hb⟩;exact⟨by rw[V6,V7,Qm3,if_pos h,if_pos h,if_pos h];rfl,hb⟩
 ·refine(Kn8 p s w (fun h'=>h (I8.2 h'))).mono ?_
  rintro e w' ⟨rfl,hb⟩;exact⟨by rw[V6,V7,Qm3,if_neg h,if_neg h,if_neg h];rfl,hb⟩
end Go.Proofs.YtnlngicnfegjgaaGreatDoor
