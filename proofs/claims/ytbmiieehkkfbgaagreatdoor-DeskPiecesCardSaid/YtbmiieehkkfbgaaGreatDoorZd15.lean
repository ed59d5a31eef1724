/- Contracts and walks that the law's proof needs. -/
import Derived.Test.YtbmiieehkkfbgaaGreatDoorZd13
import Derived.WalkKit
import Derived.WalkLawsBesides
import Derived.WalkSpells
import Derived.Deep.DeepCutAuto
import Derived.Deep.CutBlock
import Derived.Deep.QuietTactic
import Derived.BigQuiet
import Derived.BigRegion
import Derived.Deep.RegionWith
import Derived.Test.YtbmiieehkkfbgaaGreatDoorZd2
import Derived.Test.YtbmiieehkkfbgaaGreatDoorZd12
import Derived.Test.YtbmiieehkkfbgaaGreatDoorZd3
import Derived.Laws.ResultCell
import Derived.Test.YtbmiieehkkfbgaaGreatDoorZd4
set_option linter.unusedVariables false
set_option maxRecDepth 100000
set_option maxHeartbeats 8000000
namespace Go.Proofs.YtbmiieehkkfbgaaGreatDoor
open Go.RowKit
theorem Kl9 {w1:World} {a c d:Nat} {B:Option Addr} {ss:List UX} {fr:List Int} {most many:Int} {gs k:Nat} (H:KY w1 a (some ⟨gs,0,none⟩) c B d ss fr most many) (hk:k<ss.length) (x:QX):
  KY (Xp1 w1 gs (k*7) x) a (some ⟨gs,0,none⟩) c B d (ss.set k (x,ss[k].2.1,ss[k].2.2)) fr most many∧QK (OFp a (some ⟨gs,0,none⟩) B) w1 (Xp1 w1 gs (k*7) x):=by
 have hK:QK (fun i=>i=gs) w1 (Xp1 w1 gs (k*7) x):=Qs9 w1 gs (k*7) x
 have hs:=Jt6 H.slots (k*7) x
 have h5:(JQ Qn4 ss)[k*7+5]?=some (.int .i64 ss[k].2.1):=Qc7 Qi1 ss k hk 5 (by omega)
 have h6:(JQ Qn4 ss)[k*7+6]?=some (.bool ss[k].2.2):=Qc7 Qi1 ss k hk 6 (by omega)
 have e0:((((((JQ Qn4 ss).set (k*7) (.int .i64 x.id)).set (k*7+1) (.int .i64 x.side)).set (k*7+2) (.int .i64 x.kind)).set (k*7+3) (.int .i64 x.price)).set (k*7+4) (.int .i64 x.qty))=JQ Qn4 (ss.set k (x,ss[k].2.1,ss[k].2.2)):=by
  refine Eq.trans ?_ (Jk5 ss k hk (x,ss[k].2.1,ss[k].2.2));dsimp only;rw[Jt5 (i:=k*7+5),Jt5 (i:=k*7+6)]
  ·rw[List.getElem?_set_ne (by omega),List.getElem?_set_ne (by omega),List.getElem?_set_ne (by omega),List.getElem?_set_ne (by omega),List.getElem?_set_ne (by omega)]
   exact h6
  ·rw[List.getElem?_set_ne (by omega),List.getElem?_set_ne (by omega),List.getElem?_set_ne (by omega),List.getElem?_set_ne (by omega),List.getElem?_set_ne (by omega)]
   exact h5
 rw[e0]at hs
 refine⟨⟨?_, ?_, ?_,H.na,H.nb,H.nab⟩,hK.mono (fun i h=> .inr (.inl (by rw[h];rfl)))⟩
 ·rw[List.length_set];exact QJ.keeps H.blk hK (fun h=>H.na (congrArg some h.symm))
 ·rw[List.length_set];exact hs
 ·exact H.free.keeps hK (fun g hg h=>H.nab gs rfl (by rw[hg,h]))
theorem Xb9 (w:World) (a:Nat) (A:Option Addr) (c:Nat) (B:Option Addr) (d:Nat) (ss:List UX) (fr:List Int) (most many s g:Int) (x:QX) (h:KY w a A c B d ss fr most many) (hh:Qc3 ss s g=true):
  Calls Tryz.prog 195 #[.pointer (some ⟨a,0,none⟩),.agg #[.int .i64 s,.int .i64 g],KJ x] w fun e w'=>
   e= .returned (VZ 0)∧ ∃k:Nat,∃hk:k<ss.length,s=k∧ss[k].2.2=true∧ss[k].2.1=g∧Jg8 w w' a A B (ss.set k (x,ss[k].2.1,ss[k].2.2)) fr most many:=by
 have hA:Below w.heap.size w ((w.alloc (.cells #[.int .i64 s,.int .i64 g] 170)).alloc (.cells (KV x) 117)):=((Below.refl _ w).alloc (Nat.le_refl _) _).alloc (by simp) _
 have hX:QJ ((w.alloc (.cells #[.int .i64 s,.int .i64 g] 170)).alloc (.cells (KV x) 117)) (w.heap.size+1) 117 (KV x):=by simpa using QJ.new (w.alloc (.cells #[.int .i64 s,.int .i64 g] 170)) 117 (KV x)
 have HX:=QQ hX
 have H:=QQ (h.below hA)
 have HA:=QQ hA
 have Hh:=QQ hh
 clear hA hX h hh
 unfold KJ
 go_enter Tryz.func195,Tryz.ntmps195
 go_wp2_with fail
 refine(Jk4 _ a A c B d ss fr most many s g H.out).mono ?_
 rintro e w1 ⟨hB,⟨hf,rfl⟩|⟨hf,k,gs,rfl,hk,rfl,rfl⟩⟩
 ·rw[Hh.out]at hf
  cases hf
 ·have H1:=H.out.below hB
  have hX1:=QJ.keep HX.out hB;obtain⟨x0,x1,x2,x3,x4⟩:=JV hX1;obtain⟨gs',he,s0,s1,s2,s3,s4,_,_⟩:=H1.slot hk
  cases he;have f0:=H1.slots.frozen (k*7);have f1:=H1.slots.frozen (k*7+1);have f2:=H1.slots.frozen (k*7+2);have f3:=H1.slots.frozen (k*7+3);have f4:=H1.slots.frozen (k*7+4);have hl0:=H1.slots.lt (g:=gs) rfl;rw[Xo6 hk]at hf;have hf':ss[k].2.2=true∧ss[k].2.1=g:=by simpa using hf
  have HO:=QQ (Kl9 H1 hk x);have Hf:=QQ hf';have HB:=QQ hB;clear hf hf' hX1 H1 hB;go_wp2_with fail
  go_ret;obtain⟨hO,hK⟩:=HO.out;refine⟨rfl,k,hk,rfl,Hf.out.1,Hf.out.2,some ⟨gs,0,none⟩,c,B,d,hO, ?_,fun i hi=> .inl hi⟩;exact(QK.of_below (HA.out.trans (HB.out.mono HA.out.size)) _).trans hK (fun i hi=> .inl hi)
theorem Ze1 {w:World} {a:Nat} {F:Nat→Prop} {M:Int→Int→Option QX} {most n:Nat} (h:OAr w a F M most n) (s g:Int) (hy:(M s g).isSome=true) (x:QX):
  Calls Tryz.prog 195 #[.pointer (some ⟨a,0,none⟩),.agg #[.int .i64 s,.int .i64 g],KJ x] w fun e w'=>e= .returned (VZ 0)∧Jv4 w w' a F (Z1 M s g (some x)) most n:=by
 obtain⟨A,c,B,d,ss,fr,hA,hI,hL,hM,hF⟩:=h
 refine(Xb9 w a A c B d ss fr _ _ s g x hA (by rw[Qq8,←hM];exact hy)).mono ?_
 rintro e w' ⟨rfl,k,hk,rfl,h1,h2,A',c',B',d',hA',hK,hfp⟩
 have hl:=Jk7 ss (x,ss[k].2.1,ss[k].2.2) k hk
 have hl':Qi2 (ss.set k (x,ss[k].2.1,ss[k].2.2))=Qi2 ss:=by
  dsimp only at hl;omega
 refine⟨rfl,OFp a A' B',⟨A',c',B',d',_,_,hA',⟨hI.nodup, ?_, ?_, ?_⟩,by rw[hl'];exact hL, ?_,fun i=>Iff.rfl⟩,hK.mono (fun i hi=>(hF i).2 hi),fun i hi=>(hfp i hi).imp (fun h=>(hF i).2 h) id⟩
 ·intro i hi
  obtain⟨j,rfl,hj,hjf⟩:=hI.free i hi;refine⟨j,rfl,by rw[List.length_set];exact hj, ?_⟩;rw[List.getElem_set]
  split
  ·rename_i e
   subst e;exact hjf
  ·exact hjf
 ·rw[List.length_set,hl'];exact hI.count
 ·rw[List.length_set];exact hI.cap
 ·intro s' g'
  rw[Jk6 hk];unfold Z1;rw[hM]
  by_cases e1:s'=(k:Int)
  ·subst e1
   rw[if_pos rfl]
   by_cases e2:g'=g
   ·subst e2;simp[h1,h2]
   ·have:Y9 ss (k:Nat) g'=none:=by
     unfold Y9;have hh:ss[((k:Nat):Int).toNat]?=some ss[k]:=by simp[hk]
     rw[if_pos (by omega),hh];simp[h2];intro _ e;exact absurd e.symm e2
    rw[if_neg (by simp[e2]),this,if_neg];rintro⟨_,e⟩;dsimp only at e;rw[h2]at e;exact e2 e.symm
  ·rw[if_neg (by simp[e1]),if_neg e1]
set_option linter.unusedSimpArgs false
def Qa0 (o:QX):Option Int:=if o.kind=2 then none else some o.price
def Qo3 (lv:List XJ) (bu se:Int):Option Int→Int×Int
 |none=>(bu,se)
 |some p=>YV lv p
def Qx6 (lv:List XJ) (bu se:Int) (o:QX):Int:=if o.side=1 then(Qo3 lv bu se (Qa0 o)).1 else(Qo3 lv bu se (Qa0 o)).2
def Jb1 (lv:List XJ) (bu se:Int) (o:QX) (q:Int) (lv':List XJ) (bu' se':Int):Prop:=
 lv'.length≤lv.length+1∧ ∀k,Qo3 lv' bu' se' k=if k=Qa0 o then((Qo3 lv bu se k).1+q*dB o,(Qo3 lv bu se k).2+q*dS o)else Qo3 lv bu se k
section
variable(w:World) (X:Nat) (t:TypeId) (cs:Array Value) (o:Nat) (A:Option Addr) (c:Nat) (lv:List XJ) (bu se:Int) (h:Qi4 w X t cs o A c lv bu se) (z:QX)
theorem Jv6 (h:Qi4 w X t cs o A c lv bu se) (hs:Jc5 lv bu se) (hr:Qb0 z) (q:Int) (hq:q=1∨q= -1) (hp:q= -1→z.qty≤Qx6 lv bu se z):
  Calls Tryz.prog 156 #[.pointer (some ⟨X,o,none⟩),KJ z,.int .i64 q] w fun e w'=>(∃v,e= .returned v)∧ ∃lv' bu' se',Qd1 w w' X t cs o A lv' bu' se'∧Jb1 lv bu se z q lv' bu' se':=by
 by_cases hk:z.kind=2
 ·have hkey:Qa0 z=none:=if_pos hk
  refine(Xb8 w X t cs o A c lv bu se h hs z hr hk q hq (fun e=>by have:=hp e;unfold Qx6 at this;rw[hkey]at this;exact this)).mono ?_;rintro e w' ⟨h1,h2⟩;refine⟨h1,_,_,_,h2,Nat.le_succ _,fun k=> ?_⟩;rw[hkey]
  cases k with
  |none=>rw[if_pos rfl];rfl
  |some p=>rw[if_neg (by simp)];rfl
 ·have hkey:Qa0 z=some z.price:=if_neg hk
  refine(Xj5 w X t cs o A c lv bu se h hs z hr hk q hq (fun e=>by have:=hp e;unfold Qx6 at this;rw[hkey]at this;exact this)).mono ?_;rintro e w' ⟨h1,lv',h2,h3,h4⟩;refine⟨h1,_,_,_,h2,h3,fun k=> ?_⟩;rw[hkey]
  cases k with
  |none=>rw[if_neg (by simp)];rfl
  |some p=>
   show YV lv' p=_;rw[h4 p]
   by_cases e:p=z.price
   ·rw[if_pos e,if_pos (by rw[e])];rfl
   ·rw[if_neg e,if_neg (fun h=>e (Option.some.inj h))];rfl
end
def Qx7 (o:QX):Bool:=((o.side ==1 ||o.side ==2) &&decide (1≤o.qty) &&decide (o.qty≤1000000)) && (o.kind ==2 || (decide (1≤o.price) &&decide (o.price≤1000000)))
theorem Qh1 (o:QX):Qx7 o=true↔Qb0 o:=by
 unfold Qx7 Qb0
 simp only[Bool.and_eq_true,Bool.or_eq_true,decide_eq_true_eq,beq_iff_eq]
 constructor
 ·rintro⟨⟨⟨a,b⟩,c⟩,d⟩;exact⟨a,⟨b,c⟩,d⟩
 ·rintro⟨a,⟨b,c⟩,d⟩;exact⟨⟨⟨a,b⟩,c⟩,d⟩
theorem Qr1 (w:World) (z:QX):Calls Tryz.prog 154 #[KJ z] w fun e w'=>e= .returned (.bool (Qx7 z))∧Below w.heap.size w w':=by
 have HB:=QQ (show Below w.heap.size w (w.alloc (.cells #[.int .i64 z.id,.int .i64 z.side,.int .i64 z.kind,.int .i64 z.price,.int .i64 z.qty] 117))from(Below.refl _ w).alloc (Nat.le_refl _) _)
 obtain⟨zi,zs,zk,zp,zq⟩:=z
 obtain⟨bb,hbb⟩: ∃bb,Qx7 ⟨zi,zs,zk,zp,zq⟩=bb:=⟨_,rfl⟩
 rw[hbb]
 unfold Qx7 at hbb
 unfold KJ
 dsimp only at hbb HB⊢
 go_enter Tryz.func154,Tryz.ntmps154
 by_cases s1:zs=1
 ·have s1_:=Z2 s1
  by_cases q1:1≤zq
  ·have q1_:=J0 q1
   by_cases q2:zq≤1000000
   ·have q2_:=J0 q2
    by_cases k:zk=2
    ·have k_:=Z2 k
     have e:bb=true:=by rw[←hbb];simp[s1,q1,q2,k]
     subst e;clear hbb s1 q1 q2 k;go_wp2;go_ret;exact⟨rfl,HB.out⟩
    ·have k_:=YW k
     by_cases p1:1≤zp
     ·have p1_:=J0 p1
      by_cases p2:zp≤1000000
      ·have p2_:=J0 p2
       have e:bb=true:=by rw[←hbb];simp[s1,q1,q2,k,p1,p2]
       subst e;clear hbb s1 q1 q2 k p1 p2;go_wp2;go_ret;exact⟨rfl,HB.out⟩
      ·have p2_:=OY p2
       have e:bb=false:=by rw[←hbb];simp[s1,q1,q2,k,p1,p2]
       subst e;clear hbb s1 q1 q2 k p1 p2;go_wp2;go_ret;exact⟨rfl,HB.out⟩
     ·have p1_:=OY p1
      have e:bb=false:=by rw[←hbb];simp[s1,q1,q2,k,p1]
      subst e;clear hbb s1 q1 q2 k p1;go_wp2;go_ret;exact⟨rfl,HB.out⟩
   ·have q2_:=OY q2
    have e:bb=false:=by rw[←hbb];simp[s1,q1,q2]
    subst e;clear hbb s1 q1 q2;go_wp2;go_ret;exact⟨rfl,HB.out⟩
  ·have q1_:=OY q1
   have e:bb=false:=by rw[←hbb];simp[s1,q1]
   subst e;clear hbb s1 q1;go_wp2;go_ret;exact⟨rfl,HB.out⟩
 ·have s1_:=YW s1
  by_cases s2:zs=2
  ·have s2_:=Z2 s2
   by_cases q1:1≤zq
   ·have q1_:=J0 q1
    by_cases q2:zq≤1000000
    ·have q2_:=J0 q2
     by_cases k:zk=2
     ·have k_:=Z2 k
      have e:bb=true:=by rw[←hbb];simp[s1,s2,q1,q2,k]
      subst e;clear hbb s1 s2 q1 q2 k;go_wp2;go_ret;exact⟨rfl,HB.out⟩
     ·have k_:=YW k
      by_cases p1:1≤zp
      ·have p1_:=J0 p1
       by_cases p2:zp≤1000000
       ·have p2_:=J0 p2
        have e:bb=true:=by rw[←hbb];simp[s1,s2,q1,q2,k,p1,p2]
        subst e;clear hbb s1 s2 q1 q2 k p1 p2;go_wp2;go_ret;exact⟨rfl,HB.out⟩
       ·have p2_:=OY p2
        have e:bb=false:=by rw[←hbb];simp[s1,s2,q1,q2,k,p1,p2]
        subst e;clear hbb s1 s2 q1 q2 k p1 p2;go_wp2;go_ret;exact⟨rfl,HB.out⟩
      ·have p1_:=OY p1
       have e:bb=false:=by rw[←hbb];simp[s1,s2,q1,q2,k,p1]
       subst e;clear hbb s1 s2 q1 q2 k p1;go_wp2;go_ret;exact⟨rfl,HB.out⟩
    ·have q2_:=OY q2
     have e:bb=false:=by rw[←hbb];simp[s1,s2,q1,q2]
     subst e;clear hbb s1 s2 q1 q2;go_wp2;go_ret;exact⟨rfl,HB.out⟩
   ·have q1_:=OY q1
    have e:bb=false:=by rw[←hbb];simp[s1,s2,q1]
    subst e;clear hbb s1 s2 q1;go_wp2;go_ret;exact⟨rfl,HB.out⟩
  ·have s2_:=YW s2
   have e:bb=false:=by rw[←hbb];simp[s1,s2]
   subst e;clear hbb s1 s2;go_wp2;go_ret;exact⟨rfl,HB.out⟩
theorem Ka5 (w:World) (X:Nat) (t:TypeId) (cs:Array Value) (o:Nat) (A:Option Addr) (c:Nat) (lv:List XJ) (bu se:Int) (h:Qi4 w X t cs o A c lv bu se) (z:QX) (hsd:z.side=1∨z.side=2) (hk:z.kind=2):
  Calls Tryz.prog 155 #[.pointer (some ⟨X,o,none⟩),KJ z] w fun e w'=>e= .returned (.int .i64 (if z.side=1 then bu else se))∧Below w.heap.size w w':=by
 have hbx:Below w.heap.size w (w.alloc (.cells #[.int .i64 z.id,.int .i64 z.side,.int .i64 z.kind,.int .i64 z.price,.int .i64 z.qty] 117)):=(Below.refl _ w).alloc (Nat.le_refl _) _
 have h':=h.below hbx
 obtain⟨y0,y1,y2⟩:=h'.cells
 have t1:=Z2 hk
 obtain⟨w1,hw1⟩: ∃w1,w.alloc (.cells #[.int .i64 z.id,.int .i64 z.side,.int .i64 z.kind,.int .i64 z.price,.int .i64 z.qty] 117)=w1:=⟨_,rfl⟩
 obtain⟨Bx,hBx⟩: ∃Bx,w.heap.size=Bx:=⟨_,rfl⟩
 have hB1:=QJ.new w 117 #[.int .i64 z.id,.int .i64 z.side,.int .i64 z.kind,.int .i64 z.price,.int .i64 z.qty]
 rw[hw1]at hbx h' y0 y1 y2 hB1
 rw[hBx]at hB1
 have hXl:=QJ.lt h'.blk
 have hBl:=QJ.lt hB1
 obtain⟨x1,x2⟩:=(show w1.cell? ⟨Bx,1,none⟩=some (.int .i64 z.side)∧w1.cell? ⟨Bx,2,none⟩=some (.int .i64 z.kind)from⟨by rw[QJ.cell hB1];rfl,by rw[QJ.cell hB1];rfl⟩)
 have HBx:=QQ hbx
 obtain⟨v,hv⟩: ∃v,(if z.side=1 then bu else se)=v:=⟨_,rfl⟩
 rw[hv]
 have Hv:=QQ hv
 unfold KJ
 clear h h' hbx hB1 y0
 rcases hsd with hsd|hsd
 ·have i1:RowKit.wrap64 (z.side-1)=0:=by unfold RowKit.wrap64;omega
  have Hsd:=QQ hsd;clear hsd hv hk;go_enter Tryz.func155,Tryz.ntmps155
  go_upto_region 1 with fail
  clear hw1 hBx;go_wp2_with fail
  go_region
  all_goals go_wp2_with fail
  all_goals
   refine bodyPost_ret (results_tmp rfl _ _ _) rfl ?_;refine⟨O9 ?_,HBx.out.trans ?_⟩
   ·have h1:=Hv.out
    rw[if_pos Hsd.out]at h1;exact h1
   ·first
    |exact((Below.drew (Below.refl _ _)).alloc HBx.out.size _)
    |exact Below.drew ((Below.refl _ _).alloc HBx.out.size _)
 ·have i1:RowKit.wrap64 (z.side-1)=1:=by unfold RowKit.wrap64;omega
  have Hsd:=QQ hsd;clear hsd hv hk;go_enter Tryz.func155,Tryz.ntmps155
  go_upto_region 1 with fail
  clear hw1 hBx;go_wp2_with fail
  go_region
  all_goals go_wp2_with fail
  all_goals
   refine bodyPost_ret (results_tmp rfl _ _ _) rfl ?_;refine⟨O9 ?_,HBx.out.trans ?_⟩
   ·have h1:=Hv.out
    rw[if_neg (by have:=Hsd.out;omega)]at h1;exact h1
   ·first
    |exact((Below.drew (Below.refl _ _)).alloc HBx.out.size _)
    |exact Below.drew ((Below.refl _ _).alloc HBx.out.size _)
theorem Km0 (w:World) (X:Nat) (t:TypeId) (cs:Array Value) (o:Nat) (A:Option Addr) (c:Nat) (lv:List XJ) (bu se:Int) (h:Qi4 w X t cs o A c lv bu se) (hs:lv.length≤99999) (z:QX) (hsd:z.side=1∨z.side=2) (hk:z.kind≠2) (hpr:1≤z.price∧z.price≤1000000):
  Calls Tryz.prog 155 #[.pointer (some ⟨X,o,none⟩),KJ z] w fun e w'=>e= .returned (.int .i64 (if z.side=1 then(YV lv z.price).1 else(YV lv z.price).2))∧Below w.heap.size w w':=by
 have hbx:Below w.heap.size w (w.alloc (.cells #[.int .i64 z.id,.int .i64 z.side,.int .i64 z.kind,.int .i64 z.price,.int .i64 z.qty] 117)):=(Below.refl _ w).alloc (Nat.le_refl _) _
 have h':=h.below hbx
 obtain⟨n,hn⟩: ∃n,lv.length=n:=⟨_,rfl⟩
 have hn1:n≤99999:=by omega
 have y0:=h'.cells.1
 rw[hn]at y0
 obtain⟨w1,hw1⟩: ∃w1,w.alloc (.cells #[.int .i64 z.id,.int .i64 z.side,.int .i64 z.kind,.int .i64 z.price,.int .i64 z.qty] 117)=w1:=⟨_,rfl⟩
 obtain⟨Bx,hBx⟩: ∃Bx,w.heap.size=Bx:=⟨_,rfl⟩
 have hB1:=QJ.new w 117 #[.int .i64 z.id,.int .i64 z.side,.int .i64 z.kind,.int .i64 z.price,.int .i64 z.qty]
 rw[hw1]at hbx h' y0 hB1
 rw[hBx]at hB1
 have hXl:=QJ.lt h'.blk
 have hBl:=QJ.lt hB1
 obtain⟨x1,x2,x3⟩:=(show w1.cell? ⟨Bx,1,none⟩=some (.int .i64 z.side)∧w1.cell? ⟨Bx,2,none⟩=some (.int .i64 z.kind)∧w1.cell? ⟨Bx,3,none⟩=some (.int .i64 z.price)from⟨by rw[QJ.cell hB1];rfl,by rw[QJ.cell hB1];rfl,by rw[QJ.cell hB1];rfl⟩)
 have hse:=Jo1 z.price 189 #[] A n c lv w1.drew (by rw[←hn];exact ZV.of_row JX (by omega) (h'.below (Below.drew (Below.refl _ _))).row) h.ok.rank (by omega) (Go.Proofs.enters_of Tryz.func189 (by kernel_rfl) rfl)
  (fun W q hm hW=>Xy9 q.1 q.2.1 q.2.2 z.price (by have:=h.ok.pr q hm;unfold Qp3;omega) (by unfold Qp3;omega) W)
 have HSe:=QQ hse
 have t1:=YW hk
 have H:=QQ h
 have Hn:=QQ hn
 have HBx:=QQ hbx
 have HB1:=QQ hB1
 have Hsd:=QQ hsd
 obtain⟨v,hv⟩: ∃v,(if z.side=1 then(YV lv z.price).1 else(YV lv z.price).2)=v:=⟨_,rfl⟩
 rw[hv]
 have Hv:=QQ hv
 unfold KJ
 clear h h' hse hbx hB1 hk hpr hsd hn hv
 go_enter Tryz.func155,Tryz.ntmps155
 go_upto_region 1 with fail
 clear hw1 hBx
 go_wp2_with fail
 refine U4 11 (fun W=>W.cell? ⟨X,o,none⟩=some (.slice A n c)∧W.cell? ⟨Bx,3,none⟩=some (.int .i64 z.price)) (by kernel_rfl) ⟨y0,x3⟩ (fun hS=> ?_)
 refine tT 0 (.pointer (some ⟨X,o,none⟩)) ?_
 refine tT 1 (.pointer (some ⟨X,o,none⟩)) ?_
 refine tT 2 (.pointer (some ⟨X,o,none⟩)) ?_
 refine tT 3 (.slice A n c) ?_
 refine tT 4 (.pointer (some ⟨Bx,3,none⟩)) ?_
 refine tT 5 (.int .i64 z.price) ?_
 refine Y0 6 (by kernel_rfl) rfl (fun K1 hK1=> ?_)
 go_simp
 refine HSe.out.mono ?_
 rintro e w2 ⟨hb2,k,hkn,hk1,hk2,rfl⟩
 obtain⟨fb,hfb⟩: ∃fb,Ql9 lv z.price n k=fb:=⟨_,rfl⟩
 rw[hfb]
 have hy0:=(hb2.cell (p:=⟨X,o,none⟩) hXl).trans y0
 have hx3:=(hb2.cell (p:=⟨Bx,3,none⟩) hBl).trans x3
 refine hK1 _ _ ⟨hy0,hx3⟩ (fun hS=> ?_)
 clear hK1
 refine tT 7 (.tuple #[.int .i64 k,.bool fb]) ?_
 refine tT 8 (.int .i64 k) ?_
 refine tT 9 (.bool fb) ?_
 refine tT 10 (.int .i64 k) ?_
 refine Qn9 (by kernel_rfl) rfl (fun K1 hK1=> ?_)
 go_simp
 refine hK1 _ _ (Qn8 (by kernel_rfl) ?_ _)
 clear hK1
 have HB2:=QQ hb2
 clear hb2 hS
 have HW2:=QQ (show Below w.heap.size w w2 from HBx.out.trans ((Below.drew (Below.refl _ w1)).trans (HB2.out.mono HBx.out.size)))
 have hx1:w2.cell? ⟨Bx,1,none⟩=some (.int .i64 z.side):=(HB2.out.cell (p:=⟨Bx,1,none⟩) hBl).trans x1
 cases fb with
 |false=>
  have HK1:=QQ hk1;have HK2:=QQ hk2;clear hk1 hk2;go_wp2_with fail
  refine bodyPost_ret (results_tmp rfl _ _ _) rfl ?_;refine⟨O9 ?_,HW2.out⟩;have h1:=Jh4 (Jh1 Hn.out H.out.ok.rank hfb HK1.out HK2.out);have h2:=Hv.out;rw[h1]at h2;rw[←h2]
  split<;>rfl
 |true=>
  obtain⟨hkl,hkp⟩:=Jo0 Hn.out hfb;obtain⟨-,e2⟩:=Qe8.found H.out HW2.out hkl hkp;have hM2:=H.out.below HW2.out;obtain⟨g,hA1,-⟩:=hM2.row.elem JX (by omega) hkl;subst hA1;obtain⟨-,l1,l2⟩:=Qx4 hM2.row hkl;generalize lv[k].2.1=b0 at l1 e2;generalize lv[k].2.2=s0 at l2 e2;have HE2:=QQ e2;have hkz:(k:Int)< (n:Int):=by have:=Hn.out;omega
  have hk0:(0:Int)≤(k:Int):=by omega
  have hbl2:Bx<w2.heap.size:=by have:=HB2.out.size;have:w1.heap.size≤w2.heap.size:=this;omega
  clear hfb hk1 hk2 hM2 hkl hkp e2 y0 x1 x2 x3;rcases Hsd.out with hsd|hsd
  ·have i1:RowKit.wrap64 (z.side-1)=0:=by unfold RowKit.wrap64;clear hn1 hkn hbl2;omega
   have Hsd1:=QQ hsd;clear hsd;go_wp2_with fail
   go_region
   all_goals go_wp2_with fail
   all_goals
    refine bodyPost_ret (results_tmp rfl _ _ _) rfl ?_;refine⟨O9 ?_,HW2.out.trans ?_⟩
    ·have h1:=Hv.out
     rw[if_pos Hsd1.out,HE2.out]at h1;exact h1
    ·first
     |exact((Below.drew (Below.refl _ _)).alloc HW2.out.size _)
     |exact Below.drew ((Below.refl _ _).alloc HW2.out.size _)
  ·have i1:RowKit.wrap64 (z.side-1)=1:=by unfold RowKit.wrap64;clear hn1 hkn hbl2;omega
   have Hsd1:=QQ hsd;clear hsd;go_wp2_with fail
   go_region
   all_goals go_wp2_with fail
   all_goals
    refine bodyPost_ret (results_tmp rfl _ _ _) rfl ?_;refine⟨O9 ?_,HW2.out.trans ?_⟩
    ·have h1:=Hv.out
     rw[if_neg (by have:=Hsd1.out;omega),HE2.out]at h1;exact h1
    ·first
     |exact((Below.drew (Below.refl _ _)).alloc HW2.out.size _)
     |exact Below.drew ((Below.refl _ _).alloc HW2.out.size _)
theorem Kg6 (w:World) (X:Nat) (t:TypeId) (cs:Array Value) (o:Nat) (A:Option Addr) (c:Nat) (lv:List XJ) (bu se:Int) (h:Qi4 w X t cs o A c lv bu se) (hs:lv.length≤99999) (z:QX) (hr:Qb0 z):
  Calls Tryz.prog 155 #[.pointer (some ⟨X,o,none⟩),KJ z] w fun e w'=>e= .returned (.int .i64 (Qx6 lv bu se z))∧Below w.heap.size w w':=by
 unfold Qx6
 by_cases hk:z.kind=2
 ·rw[show Qa0 z=none from if_pos hk]
  exact Ka5 w X t cs o A c lv bu se h z hr.1 hk
 ·rw[show Qa0 z=some z.price from if_neg hk]
  exact Km0 w X t cs o A c lv bu se h hs z hr.1 hk (hr.2.2.resolve_left hk)
theorem Xc0 {w:World} {g:Nat} {t:TypeId} {a b c d e:Value} (h:QJ w g t #[a,b,c,d,e]):w.cell? ⟨g,0,none⟩=some a∧w.cell? ⟨g,1,none⟩=some b∧w.cell? ⟨g,2,none⟩=some c∧w.cell? ⟨g,3,none⟩=some d∧w.cell? ⟨g,4,none⟩=some e:=
 ⟨by rw[QJ.cell h];rfl,by rw[QJ.cell h];rfl,by rw[QJ.cell h];rfl,by rw[QJ.cell h];rfl,by rw[QJ.cell h];rfl⟩
theorem Qd1.pre {w w1 w':World} {X:Nat} {t:TypeId} {cs:Array Value} {o:Nat} {A:Option Addr} {lv':List XJ} {bu' se':Int} (h:Qd1 w1 w' X t cs o A lv' bu' se') (hb:Below w.heap.size w w1):Qd1 w w' X t cs o A lv' bu' se':=by
 obtain⟨cs',A',c',h1,h2,h3,h4,h5⟩:=h
 exact⟨cs',A',c',h1,h2,h3,(QK.of_below hb _).trans h4 (fun i e=> .inl e),fun g hg=>(h5 g hg).imp id (fun e=>Nat.le_trans hb.size e)⟩
def Qg0 (lv:List XJ) (bu se:Int) (z:QX) (q:Int):Int:=if Qx7 z=true then(if q= -1∧Qx6 lv bu se z<z.qty then 8 else 0)else 1
def Qv6 (lv:List XJ) (bu se:Int) (z:QX) (q:Int) (lv':List XJ) (bu' se':Int):Prop:=if Qg0 lv bu se z q=0 then Jb1 lv bu se z q lv' bu' se' else lv'=lv∧bu'=bu∧se'=se
theorem Xj8 (w:World) (X:Nat) (t:TypeId) (cs:Array Value) (o:Nat) (A:Option Addr) (c:Nat) (lv:List XJ) (bu se:Int) (h:Qi4 w X t cs o A c lv bu se) (hs:Jc5 lv bu se) (z:QX):
  Calls Tryz.prog 128 #[.pointer (some ⟨X,o,none⟩),KJ z] w fun e w'=>e= .returned (VZ (Qg0 lv bu se z 1))∧ ∃lv' bu' se',Qd1 w w' X t cs o A lv' bu' se'∧Qv6 lv bu se z 1 lv' bu' se':=by
 have hbx:Below w.heap.size w (w.alloc (.cells #[.int .i64 z.id,.int .i64 z.side,.int .i64 z.kind,.int .i64 z.price,.int .i64 z.qty] 117)):=(Below.refl _ w).alloc (Nat.le_refl _) _
 have hB1:=QJ.new w 117 #[.int .i64 z.id,.int .i64 z.side,.int .i64 z.kind,.int .i64 z.price,.int .i64 z.qty]
 have H:=QQ h
 have HS:=QQ hs
 have HBx:=QQ hbx
 have HB1:=QQ hB1
 have hbl:=QJ.lt hB1
 clear h hs hbx hB1
 unfold KJ
 cases hrb:Qx7 z with
 |false=>
  have HRb:=QQ hrb;clear hrb;go_enter Tryz.func128,Tryz.ntmps128
  go_wp2_with (go_at_call 154;refine(Qr1 _ z).mono ?_;rintro e w2 ⟨rfl,hb2⟩;rw[HRb.out];have HB2:=QQ hb2;clear hb2)
  refine bodyPost_ret (results_tmp rfl _ _ _) rfl ?_;have ht:Qg0 lv bu se z 1=1:=by unfold Qg0;rw[HRb.out];rfl
  refine⟨by rw[ht];rfl,lv,bu,se,Qd1.same H.out (HBx.out.trans (HB2.out.mono HBx.out.size)), ?_⟩;unfold Qv6;rw[ht,if_neg (by decide)];exact⟨rfl,rfl,rfl⟩
 |true=>
  have HRb:=QQ hrb;clear hrb;go_enter Tryz.func128,Tryz.ntmps128
  go_wp2_with (first|(go_at_call 154;refine(Qr1 _ z).mono ?_;rintro e w2 ⟨rfl,hb2⟩;rw[HRb.out];obtain⟨x0,x1,x2,x3,x4⟩:=Xc0 (QJ.keep HB1.out hb2);have HB2:=QQ (HBx.out.trans (hb2.mono HBx.out.size));clear hb2)|(go_at_call 156;refine(Jv6 _ X t cs o A c lv bu se z (H.out.below HB2.out) HS.out ((Qh1 z).1 HRb.out) 1 (.inl rfl) (fun e=>by cases e)).mono ?_;rintro e w3 ⟨⟨v,rfl⟩,hd⟩;have HD:=QQ hd;clear hd))
  refine bodyPost_ret (results_tmp rfl _ _ _) rfl ?_;have ht:Qg0 lv bu se z 1=0:=by unfold Qg0;rw[HRb.out];rfl
  obtain⟨lv',bu',se',h1,h2⟩:=HD.out;refine⟨by rw[ht];rfl,lv',bu',se',h1.pre HB2.out, ?_⟩;unfold Qv6;rw[ht,if_pos rfl];exact h2
theorem Jv7 (w:World) (X:Nat) (t:TypeId) (cs:Array Value) (o:Nat) (A:Option Addr) (c:Nat) (lv:List XJ) (bu se:Int) (h:Qi4 w X t cs o A c lv bu se) (hs:Jc5 lv bu se) (z:QX):
  Calls Tryz.prog 120 #[.pointer (some ⟨X,o,none⟩),KJ z] w fun e w'=>e= .returned (VZ (Qg0 lv bu se z (-1)))∧ ∃lv' bu' se',Qd1 w w' X t cs o A lv' bu' se'∧Qv6 lv bu se z (-1) lv' bu' se':=by
 have hbx:Below w.heap.size w (w.alloc (.cells #[.int .i64 z.id,.int .i64 z.side,.int .i64 z.kind,.int .i64 z.price,.int .i64 z.qty] 117)):=(Below.refl _ w).alloc (Nat.le_refl _) _
 have hB1:=QJ.new w 117 #[.int .i64 z.id,.int .i64 z.side,.int .i64 z.kind,.int .i64 z.price,.int .i64 z.qty]
 have H:=QQ h
 have HS:=QQ hs
 have HBx:=QQ hbx
 have HB1:=QQ hB1
 have hbl:=QJ.lt hB1
 clear h hs hbx hB1
 unfold KJ
 cases hrb:Qx7 z with
 |false=>
  have HRb:=QQ hrb;clear hrb;go_enter Tryz.func120,Tryz.ntmps120
  go_wp2_with (go_at_call 154;refine(Qr1 _ z).mono ?_;rintro e w2 ⟨rfl,hb2⟩;rw[HRb.out];have HB2:=QQ hb2;clear hb2)
  refine bodyPost_ret (results_tmp rfl _ _ _) rfl ?_;have ht:Qg0 lv bu se z (-1)=1:=by unfold Qg0;rw[HRb.out];rfl
  refine⟨by rw[ht];rfl,lv,bu,se,Qd1.same H.out (HBx.out.trans (HB2.out.mono HBx.out.size)), ?_⟩;unfold Qv6;rw[ht,if_neg (by decide)];exact⟨rfl,rfl,rfl⟩
 |true=>
  have HRb:=QQ hrb;clear hrb
  by_cases hq:Qx6 lv bu se z<z.qty
  ·have d1:=J0 hq
   have HQ:=QQ hq;clear hq;go_enter Tryz.func120,Tryz.ntmps120
   go_wp2_with (go_at_call 154;refine(Qr1 _ z).mono ?_;rintro e w2 ⟨rfl,hb2⟩;rw[HRb.out];obtain⟨x0,x1,x2,x3,x4⟩:=Xc0 (QJ.keep HB1.out hb2);have HB2:=QQ (HBx.out.trans (hb2.mono HBx.out.size));have HX2:=QQ (QJ.keep HB1.out hb2);clear hb2)
   go_region_with (go_at_call 155;refine(Kg6 _ X t cs o A c lv bu se (H.out.below (Below.drew HB2.out)) HS.out.n z ((Qh1 z).1 HRb.out)).mono ?_;rintro e w3 ⟨rfl,hb3⟩;obtain⟨y0,y1,y2,y3,y4⟩:=Xc0 (QJ.keep (QJ.drew HX2.out) hb3);have HB3:=QQ ((Below.drew HB2.out).trans (hb3.mono HB2.out.size));clear hb3)
   all_goals go_wp2_with fail
   all_goals
    refine bodyPost_ret (results_tmp rfl _ _ _) rfl ?_;have ht:Qg0 lv bu se z (-1)=8:=by unfold Qg0;rw[HRb.out,if_pos rfl,if_pos ⟨rfl,HQ.out⟩]
    refine⟨by rw[ht];rfl,lv,bu,se,Qd1.same H.out HB3.out, ?_⟩;unfold Qv6;rw[ht,if_neg (by decide)];exact⟨rfl,rfl,rfl⟩
  ·have d1:=OY hq
   have HQ:=QQ hq;clear hq;go_enter Tryz.func120,Tryz.ntmps120
   go_wp2_with (go_at_call 154;refine(Qr1 _ z).mono ?_;rintro e w2 ⟨rfl,hb2⟩;rw[HRb.out];obtain⟨x0,x1,x2,x3,x4⟩:=Xc0 (QJ.keep HB1.out hb2);have HB2:=QQ (HBx.out.trans (hb2.mono HBx.out.size));have HX2:=QQ (QJ.keep HB1.out hb2);clear hb2)
   go_region_with (go_at_call 155;refine(Kg6 _ X t cs o A c lv bu se (H.out.below (Below.drew HB2.out)) HS.out.n z ((Qh1 z).1 HRb.out)).mono ?_;rintro e w3 ⟨rfl,hb3⟩;obtain⟨y0,y1,y2,y3,y4⟩:=Xc0 (QJ.keep (QJ.drew HX2.out) hb3);have HB3:=QQ ((Below.drew HB2.out).trans (hb3.mono HB2.out.size));clear hb3)
   all_goals go_wp2_with (go_at_call 156;refine(Jv6 _ X t cs o A c lv bu se z (H.out.below HB3.out) HS.out ((Qh1 z).1 HRb.out) (-1) (.inr rfl) (fun _=>by have:=HQ.out;omega)).mono ?_;rintro e w4 ⟨⟨v,rfl⟩,hd⟩;have HD:=QQ hd;clear hd)
   all_goals
    refine bodyPost_ret (results_tmp rfl _ _ _) rfl ?_;have ht:Qg0 lv bu se z (-1)=0:=by unfold Qg0;rw[HRb.out,if_pos rfl,if_neg (fun e=>by have:=HQ.out;have:=e.2;omega)]
    obtain⟨lv',bu',se',h1,h2⟩:=HD.out;refine⟨by rw[ht];rfl,lv',bu',se',h1.pre HB3.out, ?_⟩;unfold Qv6;rw[ht,if_pos rfl];exact h2
theorem Zj5 (L:List Int) (h:L≠ []): ∃q∈L,∀r∈L,r≤q:=by
 induction L with
 |nil=>exact absurd rfl h
 |cons a L ih=>
  by_cases hL:L= []
  ·subst hL;exact⟨a,by simp,fun r hr=>by simp at hr;omega⟩
  ·obtain⟨q,hq,h1⟩:=ih hL
   by_cases hc:a≤q
   ·exact⟨q,by simp[hq],fun r hr=>by rcases List.mem_cons.1 hr with rfl|hr;exact hc;exact h1 r hr⟩
   ·exact⟨a,by simp,fun r hr=>by rcases List.mem_cons.1 hr with rfl|hr;exact Int.le_refl _;have:=h1 r hr;omega⟩
theorem Ka6 (p:Int) (L:List Int):(∃q∈L,p≤q∧ ∀r∈L,p≤r→q≤r)∨ ∀r∈L,r<p:=by
 induction L with
 |nil=>right;intro r hr;cases hr
 |cons a L ih=>
  rcases ih with⟨q,hq,h1,h2⟩|h
  ·by_cases hc:p≤a∧a≤q
   ·left
    exact⟨a,by simp,hc.1,fun r hr hp=>by rcases List.mem_cons.1 hr with rfl|hr;exact Int.le_refl _;have:=h2 r hr hp;omega⟩
   ·left
    exact⟨q,by simp[hq],h1,fun r hr hp=>by rcases List.mem_cons.1 hr with rfl|hr;omega;exact h2 r hr hp⟩
  ·by_cases hc:p≤a
   ·left
    exact⟨a,by simp,hc,fun r hr hp=>by rcases List.mem_cons.1 hr with rfl|hr;exact Int.le_refl _;have:=h r hr;omega⟩
   ·right
    intro r hr;rcases List.mem_cons.1 hr with rfl|hr
    ·omega
    ·exact h r hr
theorem Kv7 (p:Int) (L:List Int) (h:L≠ []): ∃q∈L,(∀r∈L,p≤r→q≤r)∧ ∀r∈L,r≤p→r≤q:=by
 rcases Ka6 p L with⟨q,hq,h1,h2⟩|h1
 ·exact⟨q,hq,h2,fun r hr hp=>by omega⟩
 ·obtain⟨q,hq,h2⟩:=Zj5 L h
  exact⟨q,hq,fun r hr hp=>by have:=h1 r hr;omega,fun r hr _=>h2 r hr⟩
theorem Xd7 (F G:QX→Int) (l:List QX) (h: ∀o∈l,F o≤G o): ∀s t:Int,s≤t→l.foldl (fun s o=>s+F o) s≤l.foldl (fun s o=>s+G o) t:=by
 induction l with
 |nil=>intro s t h;exact h
 |cons a l ih=>
  intro s t hs;rw[List.foldl_cons,List.foldl_cons];have:=h a (by simp);exact ih (fun o ho=>h o (by simp[ho])) _ _ (by omega)
theorem Kg7 {l:List QX} {more:Int} (h:Jc2 l) (hm:1≤more) (p:Int): ∃y∈Z5 l more,min (Qp1 p l) (Qp2 p l)≤KK y:=by
 have hne:V5 l more≠ []:=by unfold V5;rw[if_pos hm];simp
 obtain⟨q,hq,h1,h2⟩:=Kv7 p (V5 l more) hne
 refine⟨Ja5 (Qo0 l) q,List.mem_map.2 ⟨q,(Xy2 _ _).2 hq,rfl⟩, ?_⟩
 rw[Qq6 h]
 have d1:Qp1 p l≤Qp1 q l:=Xd7 (Je1 p) (Je1 q) l (fun o ho=>by
  have hb:=Ja6 (h o ho);unfold Je1
  by_cases hk:o.kind=2
  ·simp[hk]
  ·have:=h1 o.price (Jt1 h ho hk)
   by_cases hs:o.side=1<;>by_cases hp:p≤o.price<;>by_cases hp2:q≤o.price<;>simp[hk,hs,hp,hp2]<;>omega) 0 0 (Int.le_refl _)
 have d2:Qp2 p l≤Qp2 q l:=Xd7 (Je2 p) (Je2 q) l (fun o ho=>by
  have hb:=Ja6 (h o ho);unfold Je2
  by_cases hk:o.kind=2
  ·simp[hk]
  ·have:=h2 o.price (Jt1 h ho hk)
   by_cases hs:o.side=2<;>by_cases hp:o.price≤p<;>by_cases hp2:o.price≤q<;>simp[hk,hs,hp,hp2]<;>omega) 0 0 (Int.le_refl _)
 show min (Qp1 p l) (Qp2 p l)≤min (Qp1 q l) (Qp2 q l)
 omega
theorem Km1 (b1 b2:Bool) (r:Int) (l:List XJ): ∀x,Jo7 b1 b2 r x l=x∨Jo7 b1 b2 r x l∈l:=by
 induction l with
 |nil=>intro x;left;rfl
 |cons a l ih=>
  intro x;have e:Jo7 b1 b2 r x (a::l)=Jo7 b1 b2 r (if Qk8 b1 b2 r a x=true then a else x) l:=rfl;rw[e]
  by_cases hc:Qk8 b1 b2 r a x=true
  ·rw[if_pos hc]
   rcases ih a with h|h
   ·right;rw[h];simp
   ·right;simp[h]
  ·rw[if_neg hc]
   rcases ih x with h|h
   ·left;exact h
   ·right;simp[h]
theorem choose_spec (l:List XJ) (r:Int):(J3 l r=(0,0,0)∧ ∀y∈l,KK y≤0)∨ ∃y∈l,J3 l r=(y.1,KK y,y.2.1-y.2.2)∧1≤KK y∧ ∀z∈l,KK z≤KK y:=by
 rw[Xr7]
 obtain⟨h1,h0,h2⟩:=Qt5 l
 unfold Jv2
 by_cases hm:V8 l<1
 ·left
  rw[if_pos hm];exact⟨rfl,fun y hy=>by have:=h2 y hy;omega⟩
 ·right
  rw[if_neg hm];have hne:=Xr6 l (by omega)
  cases hb:Jo5 (V8 l) (Qp5 (V8 l) l).1 l with
  |nil=>exact absurd hb hne
  |cons x b=>
   have hmem:Jo7 (Jo6 (x::b)) (Qt4 (x::b)) r x (x::b)∈Jo5 (V8 l) (Qp5 (V8 l) l).1 l:=by
    rw[hb];rcases Km1 (Jo6 (x::b)) (Qt4 (x::b)) r (x::b) x with h|h
    ·rw[h];simp
    ·exact h
   obtain⟨g1,g2⟩:=List.mem_filter.1 hmem;simp only[Bool.and_eq_true,beq_iff_eq]at g2;refine⟨_,g1,rfl,by rw[g2.1];omega,fun z hz=>by rw[g2.1];exact h2 z hz⟩
theorem Km2 {l:List QX} {more:Int} (h:Jc2 l) (hm:1≤more) (r:Int):
  (∀p,min (Qp1 p l) (Qp2 p l)≤(J3 (Z5 l more) r).2.1)∧
  (0< (J3 (Z5 l more) r).2.1→(J3 (Z5 l more) r).2.1=min (Qp1 (J3 (Z5 l more) r).1 l) (Qp2 (J3 (Z5 l more) r).1 l)∧(J3 (Z5 l more) r).2.2=Qp1 (J3 (Z5 l more) r).1 l-Qp2 (J3 (Z5 l more) r).1 l):=by
 rcases choose_spec (Z5 l more) r with⟨e,h1⟩|⟨y,hy,e,hy1,h1⟩
 ·rw[e]
  refine⟨fun p=> ?_,fun h0=>absurd h0 (by simp)⟩;obtain⟨z,hz,hz2⟩:=Kg7 h hm p;have:=h1 z hz;show _≤(0:Int);omega
 ·rw[e]
  refine⟨fun p=> ?_,fun _=> ?_⟩
  ·obtain⟨z,hz,hz2⟩:=Kg7 h hm p
   have:=h1 z hz;show _≤KK y;omega
  ·obtain⟨q,hq,rfl⟩:=List.mem_map.1 hy
   rw[Qq6 h];exact⟨rfl,rfl⟩
theorem Km3 {w:World} {a:Act} {Q:Ending→World→Prop} {g:Nat} {cs:Array Value} (hp:a.tmps.getD 4 undef= .pointer (some ⟨g,0,none⟩)) (hd:a.defers= [])
  (hg:QJ w g 86 cs) (h2:cs.size=3) (h:Q (.returned (.agg cs)) w):bodyPost Tryz.prog Tryz.f89 Q .ret a w:=
 bodyPost_ret (results_cell_row Tryz.results89 a.tmps w g _ cs (0,0) _ hp hg Tryz.underlying86 rfl (by rw[h2];kernel_rfl)) hd h
theorem Km4 (w:World) (X:Nat) (t:TypeId) (cs:Array Value) (o:Nat) (A:Option Addr) (c:Nat) (lv:List XJ) (bu se:Int) (h:Qi4 w X t cs o A c lv bu se) (hs:Je7 lv bu se) (r:Int) (hr: -1099511627776≤r∧r≤1099511627776) (hN: ∀p∈Q8 lv bu se r,Jg6 p) (hl:(Q8 lv bu se r).length≤100000):
  Calls Tryz.prog 89 #[.pointer (some ⟨X,o,none⟩),.int .i64 r] w fun e w'=>e= .returned (Qq4 (J3 (Q8 lv bu se r) r))∧Below w.heap.size w w':=by
 have hb1:Below w.heap.size w (w.alloc (.cells #[.int .i64 0,.int .i64 0,.int .i64 0] 86)):=(Below.refl _ w).alloc (Nat.le_refl _) _
 have HP:=QQ (Ka0 _ X t cs o A c lv bu se (h.below hb1) hs r)
 have HC:=QQ (fun(W:World) (A:Option Addr) (c:Nat) (hR:QW W A (Q8 lv bu se r).length c 241 3 (JQ KW (Q8 lv bu se r)))=>Xy6 A _ c r hr (Q8 lv bu se r) W (ZV.of_row JX (by omega) hR) hN hl)
 have HB:=QQ hb1
 have HX:=QQ (QJ.new w 86 #[.int .i64 0,.int .i64 0,.int .i64 0])
 obtain⟨⟨t0,t1,t2⟩,ET⟩: ∃q,Hid (J3 (Q8 lv bu se r) r=q):=⟨_,QQ rfl⟩
 rw[ET.out]
 clear h hs hN hl hb1
 go_enter Tryz.func89,Tryz.ntmps89
 go_wp2_with fail
 refine HP.out.mono ?_
 rintro e w2 ⟨hb2,A2,c2,rfl,hR2⟩
 have hC:=HC.out w2 A2 c2 hR2
 rw[ET.out]at hC
 unfold Qq4 at hC
 dsimp only at hC
 have HC2:=QQ hC
 have HB2:=QQ hb2
 clear hC hb2 hR2 HC HP
 go_wp2_with fail
 refine HC2.out.mono ?_
 rintro e w3 ⟨rfl,hb3⟩
 have hX3:=QJ.keep (QJ.keep HX.out HB2.out) hb3
 have hf0:=QJ.frozen hX3 0
 have hf1:=QJ.frozen hX3 1
 have hf2:=QJ.frozen hX3 2
 obtain⟨z0,z1,z2⟩:w3.cell? ⟨w.heap.size,0,none⟩=some (.int .i64 0)∧w3.cell? ⟨w.heap.size,1,none⟩=some (.int .i64 0)∧w3.cell? ⟨w.heap.size,2,none⟩=some (.int .i64 0):=⟨by rw[QJ.cell hX3];rfl,by rw[QJ.cell hX3];rfl,by rw[QJ.cell hX3];rfl⟩
 have HX3:=QQ hX3
 have HB3:=QQ (HB.out.trans ((HB2.out.trans (hb3.mono HB2.out.size)).mono HB.out.size))
 clear hX3 hb3 HC2
 go_wp2_with fail
 refine Km3 (g:=w.heap.size) (cs:= #[.int .i64 t0,.int .i64 t1,.int .i64 t2]) (by with_unfolding_all rfl) (by with_unfolding_all rfl) (QJ.set_ (QJ.set_ (QJ.set_ HX3.out 0 _) 1 _) 2 _) rfl ?_
 exact⟨rfl,((HB3.out.setCell (Nat.le_refl _) _).setCell (Nat.le_refl _) _).setCell (Nat.le_refl _) _⟩
end Go.Proofs.YtbmiieehkkfbgaaGreatDoor
