/- Contracts and walks that the law's proof needs. -/
import Derived.Test.YtnlngicnfegjgaaGreatZf15
import Derived.WalkKit
import Derived.WalkLawsBesides
import Derived.WalkSpells
import Derived.Deep.DeepCutAuto
import Derived.Deep.CutBlock
import Derived.Deep.QuietTactic
import Derived.BigQuiet
import Derived.BigRegion
import Derived.Deep.RegionWith
import Derived.Test.YtnlngicnfegjgaaGreatZf2
import Derived.Test.YtnlngicnfegjgaaGreatZf13
set_option linter.unusedVariables false
set_option maxRecDepth 100000
set_option maxHeartbeats 8000000
namespace Go.Proofs.YtnlngicnfegjgaaGreat
open Go.RowKit
theorem Kf4 {w1:World} {a c d:Nat} {B:Option Addr} {ss:List UQ} {fr:List Int} {most many:Int} {gs k:Nat} (H:KW w1 a (some ⟨gs,0,none⟩) c B d ss fr most many) (hk:k<ss.length) (x:QX):
  KW (Xk1 w1 gs (k*7) x) a (some ⟨gs,0,none⟩) c B d (ss.set k (x,ss[k].2.1,ss[k].2.2)) fr most many∧QK (OFp a (some ⟨gs,0,none⟩) B) w1 (Xk1 w1 gs (k*7) x):=by
 have hK:QK (fun i=>i=gs) w1 (Xk1 w1 gs (k*7) x):=Qr7 w1 gs (k*7) x
 have hs:=Jq2 H.slots (k*7) x
 have h5:(QW Qm8 ss)[k*7+5]?=some (.int .i64 ss[k].2.1):=Qd4 Qi3 ss k hk 5 (by omega)
 have h6:(QW Qm8 ss)[k*7+6]?=some (.bool ss[k].2.2):=Qd4 Qi3 ss k hk 6 (by omega)
 have e0:((((((QW Qm8 ss).set (k*7) (.int .i64 x.id)).set (k*7+1) (.int .i64 x.side)).set (k*7+2) (.int .i64 x.kind)).set (k*7+3) (.int .i64 x.price)).set (k*7+4) (.int .i64 x.qty))=QW Qm8 (ss.set k (x,ss[k].2.1,ss[k].2.2)):=by
  refine Eq.trans ?_ (Ji6 ss k hk (x,ss[k].2.1,ss[k].2.2));dsimp only;rw[Jq1 (i:=k*7+5),Jq1 (i:=k*7+6)]
  ·rw[List.getElem?_set_ne (by omega),List.getElem?_set_ne (by omega),List.getElem?_set_ne (by omega),List.getElem?_set_ne (by omega),List.getElem?_set_ne (by omega)]
   exact h6
  ·rw[List.getElem?_set_ne (by omega),List.getElem?_set_ne (by omega),List.getElem?_set_ne (by omega),List.getElem?_set_ne (by omega),List.getElem?_set_ne (by omega)]
   exact h5
 rw[e0]at hs
 refine⟨⟨?_, ?_, ?_,H.na,H.nb,H.nab⟩,hK.mono (fun i h=> .inr (.inl (by rw[h];rfl)))⟩
 ·rw[List.length_set];exact QJ.keeps H.blk hK (fun h=>H.na (congrArg some h.symm))
 ·rw[List.length_set];exact hs
 ·exact H.free.keeps hK (fun g hg h=>H.nab gs rfl (by rw[hg,h]))
theorem Jx5 (w:World) (a:Nat) (A:Option Addr) (c:Nat) (B:Option Addr) (d:Nat) (ss:List UQ) (fr:List Int) (most many s g:Int) (x:QX) (h:KW w a A c B d ss fr most many) (hh:Qd0 ss s g=true):
  Calls Tryz.prog 95 #[.pointer (some ⟨a,0,none⟩),.agg #[.int .i64 s,.int .i64 g],KQ x] w fun e w'=>
   e= .returned (YZ 0)∧ ∃k:Nat,∃hk:k<ss.length,s=k∧ss[k].2.2=true∧ss[k].2.1=g∧Je6 w w' a A B (ss.set k (x,ss[k].2.1,ss[k].2.2)) fr most many:=by
 have hA:Below w.heap.size w ((w.alloc (.cells #[.int .i64 s,.int .i64 g] 122)).alloc (.cells (KZ x) 29)):=((Below.refl _ w).alloc (Nat.le_refl _) _).alloc (by simp) _
 have hX:QJ ((w.alloc (.cells #[.int .i64 s,.int .i64 g] 122)).alloc (.cells (KZ x) 29)) (w.heap.size+1) 29 (KZ x):=by simpa using QJ.new (w.alloc (.cells #[.int .i64 s,.int .i64 g] 122)) 29 (KZ x)
 have HX:=QQ hX
 have H:=QQ (h.below hA)
 have HA:=QQ hA
 have Hh:=QQ hh
 clear hA hX h hh
 unfold KQ
 go_enter Tryz.func95,Tryz.ntmps95
 go_wp2_with fail
 refine(Ji5 _ a A c B d ss fr most many s g H.out).mono ?_
 rintro e w1 ⟨hB,⟨hf,rfl⟩|⟨hf,k,gs,rfl,hk,rfl,rfl⟩⟩
 ·rw[Hh.out]at hf
  cases hf
 ·have H1:=H.out.below hB
  have hX1:=QJ.keep HX.out hB;obtain⟨x0,x1,x2,x3,x4⟩:=JW hX1;obtain⟨gs',he,s0,s1,s2,s3,s4,_,_⟩:=H1.slot hk
  cases he;have f0:=H1.slots.frozen (k*7);have f1:=H1.slots.frozen (k*7+1);have f2:=H1.slots.frozen (k*7+2);have f3:=H1.slots.frozen (k*7+3);have f4:=H1.slots.frozen (k*7+4);have hl0:=H1.slots.lt (g:=gs) rfl;rw[Xj6 hk]at hf;have hf':ss[k].2.2=true∧ss[k].2.1=g:=by simpa using hf
  have HO:=QQ (Kf4 H1 hk x);have Hf:=QQ hf';have HB:=QQ hB;clear hf hf' hX1 H1 hB;go_wp2_with fail
  go_ret;obtain⟨hO,hK⟩:=HO.out;refine⟨rfl,k,hk,rfl,Hf.out.1,Hf.out.2,some ⟨gs,0,none⟩,c,B,d,hO, ?_,fun i hi=> .inl hi⟩;exact(QK.of_below (HA.out.trans (HB.out.mono HA.out.size)) _).trans hK (fun i hi=> .inl hi)
theorem Ks7 {w:World} {a:Nat} {F:Nat→Prop} {M:Int→Int→Option QX} {most n:Nat} (h:OAr w a F M most n) (s g:Int) (hy:(M s g).isSome=true) (x:QX):
  Calls Tryz.prog 95 #[.pointer (some ⟨a,0,none⟩),.agg #[.int .i64 s,.int .i64 g],KQ x] w fun e w'=>e= .returned (YZ 0)∧Js0 w w' a F (Z6 M s g (some x)) most n:=by
 obtain⟨A,c,B,d,ss,fr,hA,hI,hL,hM,hF⟩:=h
 refine(Jx5 w a A c B d ss fr _ _ s g x hA (by rw[Qp9,←hM];exact hy)).mono ?_
 rintro e w' ⟨rfl,k,hk,rfl,h1,h2,A',c',B',d',hA',hK,hfp⟩
 have hl:=Ji8 ss (x,ss[k].2.1,ss[k].2.2) k hk
 have hl':Qi4 (ss.set k (x,ss[k].2.1,ss[k].2.2))=Qi4 ss:=by
  dsimp only at hl;omega
 refine⟨rfl,OFp a A' B',⟨A',c',B',d',_,_,hA',⟨hI.nodup, ?_, ?_, ?_⟩,by rw[hl'];exact hL, ?_,fun i=>Iff.rfl⟩,hK.mono (fun i hi=>(hF i).2 hi),fun i hi=>(hfp i hi).imp (fun h=>(hF i).2 h) id⟩
 ·intro i hi
  obtain⟨j,rfl,hj,hjf⟩:=hI.free i hi;refine⟨j,rfl,by rw[List.length_set];exact hj, ?_⟩;rw[List.getElem_set]
  split
  ·rename_i e
   subst e;exact hjf
  ·exact hjf
 ·rw[List.length_set,hl'];exact hI.count
 ·rw[List.length_set];exact hI.cap
 ·intro s' g'
  rw[Ji7 hk];unfold Z6;rw[hM]
  by_cases e1:s'=(k:Int)
  ·subst e1
   rw[if_pos rfl]
   by_cases e2:g'=g
   ·subst e2;simp[h1,h2]
   ·have:O5 ss (k:Nat) g'=none:=by
     unfold O5;have hh:ss[((k:Nat):Int).toNat]?=some ss[k]:=by simp[hk]
     rw[if_pos (by omega),hh];simp[h2];intro _ e;exact absurd e.symm e2
    rw[if_neg (by simp[e2]),this,if_neg];rintro⟨_,e⟩;dsimp only at e;rw[h2]at e;exact e2 e.symm
  ·rw[if_neg (by simp[e1]),if_neg e1]
set_option linter.unusedSimpArgs false
def Qa2 (o:QX):Option Int:=if o.kind=2 then none else some o.price
def Qn9 (lv:List XJ) (bu se:Int):Option Int→Int×Int
 |none=>(bu,se)
 |some p=>YV lv p
def Qw8 (lv:List XJ) (bu se:Int) (o:QX):Int:=if o.side=1 then(Qn9 lv bu se (Qa2 o)).1 else(Qn9 lv bu se (Qa2 o)).2
def Qz7 (lv:List XJ) (bu se:Int) (o:QX) (q:Int) (lv':List XJ) (bu' se':Int):Prop:=
 lv'.length≤lv.length+1∧ ∀k,Qn9 lv' bu' se' k=if k=Qa2 o then((Qn9 lv bu se k).1+q*dB o,(Qn9 lv bu se k).2+q*dS o)else Qn9 lv bu se k
section
variable(w:World) (X:Nat) (t:TypeId) (cs:Array Value) (o:Nat) (A:Option Addr) (c:Nat) (lv:List XJ) (bu se:Int) (h:Qi6 w X t cs o A c lv bu se) (z:QX)
theorem Js2 (h:Qi6 w X t cs o A c lv bu se) (hs:Ja8 lv bu se) (hr:Qb8 z) (q:Int) (hq:q=1∨q= -1) (hp:q= -1→z.qty≤Qw8 lv bu se z):
  Calls Tryz.prog 67 #[.pointer (some ⟨X,o,none⟩),KQ z,.int .i64 q] w fun e w'=>(∃v,e= .returned v)∧ ∃lv' bu' se',Qd8 w w' X t cs o A lv' bu' se'∧Qz7 lv bu se z q lv' bu' se':=by
 by_cases hk:z.kind=2
 ·have hkey:Qa2 z=none:=if_pos hk
  refine(Jx4 w X t cs o A c lv bu se h hs z hr hk q hq (fun e=>by have:=hp e;unfold Qw8 at this;rw[hkey]at this;exact this)).mono ?_;rintro e w' ⟨h1,h2⟩;refine⟨h1,_,_,_,h2,Nat.le_succ _,fun k=> ?_⟩;rw[hkey]
  cases k with
  |none=>rw[if_pos rfl];rfl
  |some p=>rw[if_neg (by simp)];rfl
 ·have hkey:Qa2 z=some z.price:=if_neg hk
  refine(Xf5 w X t cs o A c lv bu se h hs z hr hk q hq (fun e=>by have:=hp e;unfold Qw8 at this;rw[hkey]at this;exact this)).mono ?_;rintro e w' ⟨h1,lv',h2,h3,h4⟩;refine⟨h1,_,_,_,h2,h3,fun k=> ?_⟩;rw[hkey]
  cases k with
  |none=>rw[if_neg (by simp)];rfl
  |some p=>
   show YV lv' p=_;rw[h4 p]
   by_cases e:p=z.price
   ·rw[if_pos e,if_pos (by rw[e])];rfl
   ·rw[if_neg e,if_neg (fun h=>e (Option.some.inj h))];rfl
end
def Qw9 (o:QX):Bool:=((o.side ==1 ||o.side ==2) &&decide (1≤o.qty) &&decide (o.qty≤1000000)) && (o.kind ==2 || (decide (1≤o.price) &&decide (o.price≤1000000)))
theorem Qh5 (o:QX):Qw9 o=true↔Qb8 o:=by
 unfold Qw9 Qb8
 simp only[Bool.and_eq_true,Bool.or_eq_true,decide_eq_true_eq,beq_iff_eq]
 constructor
 ·rintro⟨⟨⟨a,b⟩,c⟩,d⟩;exact⟨a,⟨b,c⟩,d⟩
 ·rintro⟨a,⟨b,c⟩,d⟩;exact⟨⟨⟨a,b⟩,c⟩,d⟩
theorem Qq3 (w:World) (z:QX):Calls Tryz.prog 66 #[KQ z] w fun e w'=>e= .returned (.bool (Qw9 z))∧Below w.heap.size w w':=by
 have HB:=QQ (show Below w.heap.size w (w.alloc (.cells #[.int .i64 z.id,.int .i64 z.side,.int .i64 z.kind,.int .i64 z.price,.int .i64 z.qty] 29))from(Below.refl _ w).alloc (Nat.le_refl _) _)
 obtain⟨zi,zs,zk,zp,zq⟩:=z
 obtain⟨bb,hbb⟩: ∃bb,Qw9 ⟨zi,zs,zk,zp,zq⟩=bb:=⟨_,rfl⟩
 rw[hbb]
 unfold Qw9 at hbb
 unfold KQ
 dsimp only at hbb HB⊢
 go_enter Tryz.func66,Tryz.ntmps66
 by_cases s1:zs=1
 ·have s1_:=J3 s1
  by_cases q1:1≤zq
  ·have q1_:=J4 q1
   by_cases q2:zq≤1000000
   ·have q2_:=J4 q2
    by_cases k:zk=2
    ·have k_:=J3 k
     have e:bb=true:=by rw[←hbb];simp[s1,q1,q2,k]
     subst e;clear hbb s1 q1 q2 k;go_wp2;go_ret;exact⟨rfl,HB.out⟩
    ·have k_:=UX k
     by_cases p1:1≤zp
     ·have p1_:=J4 p1
      by_cases p2:zp≤1000000
      ·have p2_:=J4 p2
       have e:bb=true:=by rw[←hbb];simp[s1,q1,q2,k,p1,p2]
       subst e;clear hbb s1 q1 q2 k p1 p2;go_wp2;go_ret;exact⟨rfl,HB.out⟩
      ·have p2_:=OY p2
       have e:bb=false:=by rw[←hbb];simp[s1,q1,q2,k,p1,p2]
       subst e;clear hbb s1 q1 q2 k p1 p2;go_wp2;go_ret;exact⟨rfl,HB.out⟩
     ·have p1_:=OY p1
      have e:bb=false:=by rw[←hbb];simp[s1,q1,q2,k,p1]
      subst e;clear hbb s1 q1 q2 k p1;go_wp2;go_ret;exact⟨rfl,HB.out⟩
   ·have q2_:=OY q2
    have e:bb=false:=by rw[←hbb];simp[s1,q1,q2]
    subst e;clear hbb s1 q1 q2;go_wp2;go_ret;exact⟨rfl,HB.out⟩
  ·have q1_:=OY q1
   have e:bb=false:=by rw[←hbb];simp[s1,q1]
   subst e;clear hbb s1 q1;go_wp2;go_ret;exact⟨rfl,HB.out⟩
 ·have s1_:=UX s1
  by_cases s2:zs=2
  ·have s2_:=J3 s2
   by_cases q1:1≤zq
   ·have q1_:=J4 q1
    by_cases q2:zq≤1000000
    ·have q2_:=J4 q2
     by_cases k:zk=2
     ·have k_:=J3 k
      have e:bb=true:=by rw[←hbb];simp[s1,s2,q1,q2,k]
      subst e;clear hbb s1 s2 q1 q2 k;go_wp2;go_ret;exact⟨rfl,HB.out⟩
     ·have k_:=UX k
      by_cases p1:1≤zp
      ·have p1_:=J4 p1
       by_cases p2:zp≤1000000
       ·have p2_:=J4 p2
        have e:bb=true:=by rw[←hbb];simp[s1,s2,q1,q2,k,p1,p2]
        subst e;clear hbb s1 s2 q1 q2 k p1 p2;go_wp2;go_ret;exact⟨rfl,HB.out⟩
       ·have p2_:=OY p2
        have e:bb=false:=by rw[←hbb];simp[s1,s2,q1,q2,k,p1,p2]
        subst e;clear hbb s1 s2 q1 q2 k p1 p2;go_wp2;go_ret;exact⟨rfl,HB.out⟩
      ·have p1_:=OY p1
       have e:bb=false:=by rw[←hbb];simp[s1,s2,q1,q2,k,p1]
       subst e;clear hbb s1 s2 q1 q2 k p1;go_wp2;go_ret;exact⟨rfl,HB.out⟩
    ·have q2_:=OY q2
     have e:bb=false:=by rw[←hbb];simp[s1,s2,q1,q2]
     subst e;clear hbb s1 s2 q1 q2;go_wp2;go_ret;exact⟨rfl,HB.out⟩
   ·have q1_:=OY q1
    have e:bb=false:=by rw[←hbb];simp[s1,s2,q1]
    subst e;clear hbb s1 s2 q1;go_wp2;go_ret;exact⟨rfl,HB.out⟩
  ·have s2_:=UX s2
   have e:bb=false:=by rw[←hbb];simp[s1,s2]
   subst e;clear hbb s1 s2;go_wp2;go_ret;exact⟨rfl,HB.out⟩
theorem Xu9 (w:World) (X:Nat) (t:TypeId) (cs:Array Value) (o:Nat) (A:Option Addr) (c:Nat) (lv:List XJ) (bu se:Int) (h:Qi6 w X t cs o A c lv bu se) (z:QX) (hsd:z.side=1∨z.side=2) (hk:z.kind=2):
  Calls Tryz.prog 78 #[.pointer (some ⟨X,o,none⟩),KQ z] w fun e w'=>e= .returned (.int .i64 (if z.side=1 then bu else se))∧Below w.heap.size w w':=by
 have hbx:Below w.heap.size w (w.alloc (.cells #[.int .i64 z.id,.int .i64 z.side,.int .i64 z.kind,.int .i64 z.price,.int .i64 z.qty] 29)):=(Below.refl _ w).alloc (Nat.le_refl _) _
 have h':=h.below hbx
 obtain⟨y0,y1,y2⟩:=h'.cells
 have t1:=J3 hk
 obtain⟨w1,hw1⟩: ∃w1,w.alloc (.cells #[.int .i64 z.id,.int .i64 z.side,.int .i64 z.kind,.int .i64 z.price,.int .i64 z.qty] 29)=w1:=⟨_,rfl⟩
 obtain⟨Bx,hBx⟩: ∃Bx,w.heap.size=Bx:=⟨_,rfl⟩
 have hB1:=QJ.new w 29 #[.int .i64 z.id,.int .i64 z.side,.int .i64 z.kind,.int .i64 z.price,.int .i64 z.qty]
 rw[hw1]at hbx h' y0 y1 y2 hB1
 rw[hBx]at hB1
 have hXl:=QJ.lt h'.blk
 have hBl:=QJ.lt hB1
 obtain⟨x1,x2⟩:=(show w1.cell? ⟨Bx,1,none⟩=some (.int .i64 z.side)∧w1.cell? ⟨Bx,2,none⟩=some (.int .i64 z.kind)from⟨by rw[QJ.cell hB1];rfl,by rw[QJ.cell hB1];rfl⟩)
 have HBx:=QQ hbx
 obtain⟨v,hv⟩: ∃v,(if z.side=1 then bu else se)=v:=⟨_,rfl⟩
 rw[hv]
 have Hv:=QQ hv
 unfold KQ
 clear h h' hbx hB1 y0
 rcases hsd with hsd|hsd
 ·have i1:RowKit.wrap64 (z.side-1)=0:=by unfold RowKit.wrap64;omega
  have Hsd:=QQ hsd;clear hsd hv hk;go_enter Tryz.func78,Tryz.ntmps78
  go_upto_region 1 with fail
  clear hw1 hBx;go_wp2_with fail
  go_region
  all_goals go_wp2_with fail
  all_goals
   refine bodyPost_ret (results_tmp rfl _ _ _) rfl ?_;refine⟨O4 ?_,HBx.out.trans ?_⟩
   ·have h1:=Hv.out
    rw[if_pos Hsd.out]at h1;exact h1
   ·first
    |exact((Below.drew (Below.refl _ _)).alloc HBx.out.size _)
    |exact Below.drew ((Below.refl _ _).alloc HBx.out.size _)
 ·have i1:RowKit.wrap64 (z.side-1)=1:=by unfold RowKit.wrap64;omega
  have Hsd:=QQ hsd;clear hsd hv hk;go_enter Tryz.func78,Tryz.ntmps78
  go_upto_region 1 with fail
  clear hw1 hBx;go_wp2_with fail
  go_region
  all_goals go_wp2_with fail
  all_goals
   refine bodyPost_ret (results_tmp rfl _ _ _) rfl ?_;refine⟨O4 ?_,HBx.out.trans ?_⟩
   ·have h1:=Hv.out
    rw[if_neg (by have:=Hsd.out;omega)]at h1;exact h1
   ·first
    |exact((Below.drew (Below.refl _ _)).alloc HBx.out.size _)
    |exact Below.drew ((Below.refl _ _).alloc HBx.out.size _)
theorem Kf5 (w:World) (X:Nat) (t:TypeId) (cs:Array Value) (o:Nat) (A:Option Addr) (c:Nat) (lv:List XJ) (bu se:Int) (h:Qi6 w X t cs o A c lv bu se) (hs:lv.length≤99999) (z:QX) (hsd:z.side=1∨z.side=2) (hk:z.kind≠2) (hpr:1≤z.price∧z.price≤1000000):
  Calls Tryz.prog 78 #[.pointer (some ⟨X,o,none⟩),KQ z] w fun e w'=>e= .returned (.int .i64 (if z.side=1 then(YV lv z.price).1 else(YV lv z.price).2))∧Below w.heap.size w w':=by
 have hbx:Below w.heap.size w (w.alloc (.cells #[.int .i64 z.id,.int .i64 z.side,.int .i64 z.kind,.int .i64 z.price,.int .i64 z.qty] 29)):=(Below.refl _ w).alloc (Nat.le_refl _) _
 have h':=h.below hbx
 obtain⟨n,hn⟩: ∃n,lv.length=n:=⟨_,rfl⟩
 have hn1:n≤99999:=by omega
 have y0:=h'.cells.1
 rw[hn]at y0
 obtain⟨w1,hw1⟩: ∃w1,w.alloc (.cells #[.int .i64 z.id,.int .i64 z.side,.int .i64 z.kind,.int .i64 z.price,.int .i64 z.qty] 29)=w1:=⟨_,rfl⟩
 obtain⟨Bx,hBx⟩: ∃Bx,w.heap.size=Bx:=⟨_,rfl⟩
 have hB1:=QJ.new w 29 #[.int .i64 z.id,.int .i64 z.side,.int .i64 z.kind,.int .i64 z.price,.int .i64 z.qty]
 rw[hw1]at hbx h' y0 hB1
 rw[hBx]at hB1
 have hXl:=QJ.lt h'.blk
 have hBl:=QJ.lt hB1
 obtain⟨x1,x2,x3⟩:=(show w1.cell? ⟨Bx,1,none⟩=some (.int .i64 z.side)∧w1.cell? ⟨Bx,2,none⟩=some (.int .i64 z.kind)∧w1.cell? ⟨Bx,3,none⟩=some (.int .i64 z.price)from⟨by rw[QJ.cell hB1];rfl,by rw[QJ.cell hB1];rfl,by rw[QJ.cell hB1];rfl⟩)
 have hse:=Jl5 z.price 107 #[] A n c lv w1.drew (by rw[←hn];exact XZ.of_row JK (by omega) (h'.below (Below.drew (Below.refl _ _))).row) h.ok.rank (by omega) (Go.Proofs.enters_of Tryz.func107 (by kernel_rfl) rfl)
  (fun W q hm hW=>Xt2 q.1 q.2.1 q.2.2 z.price (by have:=h.ok.pr q hm;unfold Qo7;omega) (by unfold Qo7;omega) W)
 have HSe:=QQ hse
 have t1:=UX hk
 have H:=QQ h
 have Hn:=QQ hn
 have HBx:=QQ hbx
 have HB1:=QQ hB1
 have Hsd:=QQ hsd
 obtain⟨v,hv⟩: ∃v,(if z.side=1 then(YV lv z.price).1 else(YV lv z.price).2)=v:=⟨_,rfl⟩
 rw[hv]
 have Hv:=QQ hv
 unfold KQ
 clear h h' hse hbx hB1 hk hpr hsd hn hv
 go_enter Tryz.func78,Tryz.ntmps78
 go_upto_region 1 with fail
 clear hw1 hBx
 go_wp2_with fail
 refine U8 11 (fun W=>W.cell? ⟨X,o,none⟩=some (.slice A n c)∧W.cell? ⟨Bx,3,none⟩=some (.int .i64 z.price)) (by kernel_rfl) ⟨y0,x3⟩ (fun hS=> ?_)
 refine tT 0 (.pointer (some ⟨X,o,none⟩)) ?_
 refine tT 1 (.pointer (some ⟨X,o,none⟩)) ?_
 refine tT 2 (.pointer (some ⟨X,o,none⟩)) ?_
 refine tT 3 (.slice A n c) ?_
 refine tT 4 (.pointer (some ⟨Bx,3,none⟩)) ?_
 refine tT 5 (.int .i64 z.price) ?_
 refine Y5 6 (by kernel_rfl) rfl (fun K1 hK1=> ?_)
 go_simp
 refine HSe.out.mono ?_
 rintro e w2 ⟨hb2,k,hkn,hk1,hk2,rfl⟩
 obtain⟨fb,hfb⟩: ∃fb,Ql7 lv z.price n k=fb:=⟨_,rfl⟩
 rw[hfb]
 have hy0:=(hb2.cell (p:=⟨X,o,none⟩) hXl).trans y0
 have hx3:=(hb2.cell (p:=⟨Bx,3,none⟩) hBl).trans x3
 refine hK1 _ _ ⟨hy0,hx3⟩ (fun hS=> ?_)
 clear hK1
 refine tT 7 (.tuple #[.int .i64 k,.bool fb]) ?_
 refine tT 8 (.int .i64 k) ?_
 refine tT 9 (.bool fb) ?_
 refine tT 10 (.int .i64 k) ?_
 refine Qn3 (by kernel_rfl) rfl (fun K1 hK1=> ?_)
 go_simp
 refine hK1 _ _ (Qn2 (by kernel_rfl) ?_ _)
 clear hK1
 have HB2:=QQ hb2
 clear hb2 hS
 have HW2:=QQ (show Below w.heap.size w w2 from HBx.out.trans ((Below.drew (Below.refl _ w1)).trans (HB2.out.mono HBx.out.size)))
 have hx1:w2.cell? ⟨Bx,1,none⟩=some (.int .i64 z.side):=(HB2.out.cell (p:=⟨Bx,1,none⟩) hBl).trans x1
 cases fb with
 |false=>
  have HK1:=QQ hk1;have HK2:=QQ hk2;clear hk1 hk2;go_wp2_with fail
  refine bodyPost_ret (results_tmp rfl _ _ _) rfl ?_;refine⟨O4 ?_,HW2.out⟩;have h1:=Jf1 (Je9 Hn.out H.out.ok.rank hfb HK1.out HK2.out);have h2:=Hv.out;rw[h1]at h2;rw[←h2]
  split<;>rfl
 |true=>
  obtain⟨hkl,hkp⟩:=Jl4 Hn.out hfb;obtain⟨-,e2⟩:=Qf3.found H.out HW2.out hkl hkp;have hM2:=H.out.below HW2.out;obtain⟨g,hA1,-⟩:=hM2.row.elem JK (by omega) hkl;subst hA1;obtain⟨-,l1,l2⟩:=Qw6 hM2.row hkl;generalize lv[k].2.1=b0 at l1 e2;generalize lv[k].2.2=s0 at l2 e2;have HE2:=QQ e2;have hkz:(k:Int)< (n:Int):=by have:=Hn.out;omega
  have hk0:(0:Int)≤(k:Int):=by omega
  have hbl2:Bx<w2.heap.size:=by have:=HB2.out.size;have:w1.heap.size≤w2.heap.size:=this;omega
  clear hfb hk1 hk2 hM2 hkl hkp e2 y0 x1 x2 x3;rcases Hsd.out with hsd|hsd
  ·have i1:RowKit.wrap64 (z.side-1)=0:=by unfold RowKit.wrap64;clear hn1 hkn hbl2;omega
   have Hsd1:=QQ hsd;clear hsd;go_wp2_with fail
   go_region
   all_goals go_wp2_with fail
   all_goals
    refine bodyPost_ret (results_tmp rfl _ _ _) rfl ?_;refine⟨O4 ?_,HW2.out.trans ?_⟩
    ·have h1:=Hv.out
     rw[if_pos Hsd1.out,HE2.out]at h1;exact h1
    ·first
     |exact((Below.drew (Below.refl _ _)).alloc HW2.out.size _)
     |exact Below.drew ((Below.refl _ _).alloc HW2.out.size _)
  ·have i1:RowKit.wrap64 (z.side-1)=1:=by unfold RowKit.wrap64;clear hn1 hkn hbl2;omega
   have Hsd1:=QQ hsd;clear hsd;go_wp2_with fail
   go_region
   all_goals go_wp2_with fail
   all_goals
    refine bodyPost_ret (results_tmp rfl _ _ _) rfl ?_;refine⟨O4 ?_,HW2.out.trans ?_⟩
    ·have h1:=Hv.out
     rw[if_neg (by have:=Hsd1.out;omega),HE2.out]at h1;exact h1
    ·first
     |exact((Below.drew (Below.refl _ _)).alloc HW2.out.size _)
     |exact Below.drew ((Below.refl _ _).alloc HW2.out.size _)
theorem Ka0 (w:World) (X:Nat) (t:TypeId) (cs:Array Value) (o:Nat) (A:Option Addr) (c:Nat) (lv:List XJ) (bu se:Int) (h:Qi6 w X t cs o A c lv bu se) (hs:lv.length≤99999) (z:QX) (hr:Qb8 z):
  Calls Tryz.prog 78 #[.pointer (some ⟨X,o,none⟩),KQ z] w fun e w'=>e= .returned (.int .i64 (Qw8 lv bu se z))∧Below w.heap.size w w':=by
 unfold Qw8
 by_cases hk:z.kind=2
 ·rw[show Qa2 z=none from if_pos hk]
  exact Xu9 w X t cs o A c lv bu se h z hr.1 hk
 ·rw[show Qa2 z=some z.price from if_neg hk]
  exact Kf5 w X t cs o A c lv bu se h hs z hr.1 hk (hr.2.2.resolve_left hk)
theorem Jx6 {w:World} {g:Nat} {t:TypeId} {a b c d e:Value} (h:QJ w g t #[a,b,c,d,e]):w.cell? ⟨g,0,none⟩=some a∧w.cell? ⟨g,1,none⟩=some b∧w.cell? ⟨g,2,none⟩=some c∧w.cell? ⟨g,3,none⟩=some d∧w.cell? ⟨g,4,none⟩=some e:=
 ⟨by rw[QJ.cell h];rfl,by rw[QJ.cell h];rfl,by rw[QJ.cell h];rfl,by rw[QJ.cell h];rfl,by rw[QJ.cell h];rfl⟩
theorem Qd8.pre {w w1 w':World} {X:Nat} {t:TypeId} {cs:Array Value} {o:Nat} {A:Option Addr} {lv':List XJ} {bu' se':Int} (h:Qd8 w1 w' X t cs o A lv' bu' se') (hb:Below w.heap.size w w1):Qd8 w w' X t cs o A lv' bu' se':=by
 obtain⟨cs',A',c',h1,h2,h3,h4,h5⟩:=h
 exact⟨cs',A',c',h1,h2,h3,(QK.of_below hb _).trans h4 (fun i e=> .inl e),fun g hg=>(h5 g hg).imp id (fun e=>Nat.le_trans hb.size e)⟩
def Qf9 (lv:List XJ) (bu se:Int) (z:QX) (q:Int):Int:=if Qw9 z=true then(if q= -1∧Qw8 lv bu se z<z.qty then 8 else 0)else 1
def Qu3 (lv:List XJ) (bu se:Int) (z:QX) (q:Int) (lv':List XJ) (bu' se':Int):Prop:=if Qf9 lv bu se z q=0 then Qz7 lv bu se z q lv' bu' se' else lv'=lv∧bu'=bu∧se'=se
theorem Xf8 (w:World) (X:Nat) (t:TypeId) (cs:Array Value) (o:Nat) (A:Option Addr) (c:Nat) (lv:List XJ) (bu se:Int) (h:Qi6 w X t cs o A c lv bu se) (hs:Ja8 lv bu se) (z:QX):
  Calls Tryz.prog 48 #[.pointer (some ⟨X,o,none⟩),KQ z] w fun e w'=>e= .returned (YZ (Qf9 lv bu se z 1))∧ ∃lv' bu' se',Qd8 w w' X t cs o A lv' bu' se'∧Qu3 lv bu se z 1 lv' bu' se':=by
 have hbx:Below w.heap.size w (w.alloc (.cells #[.int .i64 z.id,.int .i64 z.side,.int .i64 z.kind,.int .i64 z.price,.int .i64 z.qty] 29)):=(Below.refl _ w).alloc (Nat.le_refl _) _
 have hB1:=QJ.new w 29 #[.int .i64 z.id,.int .i64 z.side,.int .i64 z.kind,.int .i64 z.price,.int .i64 z.qty]
 have H:=QQ h
 have HS:=QQ hs
 have HBx:=QQ hbx
 have HB1:=QQ hB1
 have hbl:=QJ.lt hB1
 clear h hs hbx hB1
 unfold KQ
 cases hrb:Qw9 z with
 |false=>
  have HRb:=QQ hrb;clear hrb;go_enter Tryz.func48,Tryz.ntmps48
  go_wp2_with (go_at_call 66;refine(Qq3 _ z).mono ?_;rintro e w2 ⟨rfl,hb2⟩;rw[HRb.out];have HB2:=QQ hb2;clear hb2)
  refine bodyPost_ret (results_tmp rfl _ _ _) rfl ?_;have ht:Qf9 lv bu se z 1=1:=by unfold Qf9;rw[HRb.out];rfl
  refine⟨by rw[ht];rfl,lv,bu,se,Qd8.same H.out (HBx.out.trans (HB2.out.mono HBx.out.size)), ?_⟩;unfold Qu3;rw[ht,if_neg (by decide)];exact⟨rfl,rfl,rfl⟩
 |true=>
  have HRb:=QQ hrb;clear hrb;go_enter Tryz.func48,Tryz.ntmps48
  go_wp2_with (first|(go_at_call 66;refine(Qq3 _ z).mono ?_;rintro e w2 ⟨rfl,hb2⟩;rw[HRb.out];obtain⟨x0,x1,x2,x3,x4⟩:=Jx6 (QJ.keep HB1.out hb2);have HB2:=QQ (HBx.out.trans (hb2.mono HBx.out.size));clear hb2)|(go_at_call 67;refine(Js2 _ X t cs o A c lv bu se z (H.out.below HB2.out) HS.out ((Qh5 z).1 HRb.out) 1 (.inl rfl) (fun e=>by cases e)).mono ?_;rintro e w3 ⟨⟨v,rfl⟩,hd⟩;have HD:=QQ hd;clear hd))
  refine bodyPost_ret (results_tmp rfl _ _ _) rfl ?_;have ht:Qf9 lv bu se z 1=0:=by unfold Qf9;rw[HRb.out];rfl
  obtain⟨lv',bu',se',h1,h2⟩:=HD.out;refine⟨by rw[ht];rfl,lv',bu',se',h1.pre HB2.out, ?_⟩;unfold Qu3;rw[ht,if_pos rfl];exact h2
theorem Js3 (w:World) (X:Nat) (t:TypeId) (cs:Array Value) (o:Nat) (A:Option Addr) (c:Nat) (lv:List XJ) (bu se:Int) (h:Qi6 w X t cs o A c lv bu se) (hs:Ja8 lv bu se) (z:QX):
  Calls Tryz.prog 57 #[.pointer (some ⟨X,o,none⟩),KQ z] w fun e w'=>e= .returned (YZ (Qf9 lv bu se z (-1)))∧ ∃lv' bu' se',Qd8 w w' X t cs o A lv' bu' se'∧Qu3 lv bu se z (-1) lv' bu' se':=by
 have hbx:Below w.heap.size w (w.alloc (.cells #[.int .i64 z.id,.int .i64 z.side,.int .i64 z.kind,.int .i64 z.price,.int .i64 z.qty] 29)):=(Below.refl _ w).alloc (Nat.le_refl _) _
 have hB1:=QJ.new w 29 #[.int .i64 z.id,.int .i64 z.side,.int .i64 z.kind,.int .i64 z.price,.int .i64 z.qty]
 have H:=QQ h
 have HS:=QQ hs
 have HBx:=QQ hbx
 have HB1:=QQ hB1
 have hbl:=QJ.lt hB1
 clear h hs hbx hB1
 unfold KQ
 cases hrb:Qw9 z with
 |false=>
  have HRb:=QQ hrb;clear hrb;go_enter Tryz.func57,Tryz.ntmps57
  go_wp2_with (go_at_call 66;refine(Qq3 _ z).mono ?_;rintro e w2 ⟨rfl,hb2⟩;rw[HRb.out];have HB2:=QQ hb2;clear hb2)
  refine bodyPost_ret (results_tmp rfl _ _ _) rfl ?_;have ht:Qf9 lv bu se z (-1)=1:=by unfold Qf9;rw[HRb.out];rfl
  refine⟨by rw[ht];rfl,lv,bu,se,Qd8.same H.out (HBx.out.trans (HB2.out.mono HBx.out.size)), ?_⟩;unfold Qu3;rw[ht,if_neg (by decide)];exact⟨rfl,rfl,rfl⟩
 |true=>
  have HRb:=QQ hrb;clear hrb
  by_cases hq:Qw8 lv bu se z<z.qty
  ·have d1:=J4 hq
   have HQ:=QQ hq;clear hq;go_enter Tryz.func57,Tryz.ntmps57
   go_wp2_with (go_at_call 66;refine(Qq3 _ z).mono ?_;rintro e w2 ⟨rfl,hb2⟩;rw[HRb.out];obtain⟨x0,x1,x2,x3,x4⟩:=Jx6 (QJ.keep HB1.out hb2);have HB2:=QQ (HBx.out.trans (hb2.mono HBx.out.size));have HX2:=QQ (QJ.keep HB1.out hb2);clear hb2)
   go_region_with (go_at_call 78;refine(Ka0 _ X t cs o A c lv bu se (H.out.below (Below.drew HB2.out)) HS.out.n z ((Qh5 z).1 HRb.out)).mono ?_;rintro e w3 ⟨rfl,hb3⟩;obtain⟨y0,y1,y2,y3,y4⟩:=Jx6 (QJ.keep (QJ.drew HX2.out) hb3);have HB3:=QQ ((Below.drew HB2.out).trans (hb3.mono HB2.out.size));clear hb3)
   all_goals go_wp2_with fail
   all_goals
    refine bodyPost_ret (results_tmp rfl _ _ _) rfl ?_;have ht:Qf9 lv bu se z (-1)=8:=by unfold Qf9;rw[HRb.out,if_pos rfl,if_pos ⟨rfl,HQ.out⟩]
    refine⟨by rw[ht];rfl,lv,bu,se,Qd8.same H.out HB3.out, ?_⟩;unfold Qu3;rw[ht,if_neg (by decide)];exact⟨rfl,rfl,rfl⟩
  ·have d1:=OY hq
   have HQ:=QQ hq;clear hq;go_enter Tryz.func57,Tryz.ntmps57
   go_wp2_with (go_at_call 66;refine(Qq3 _ z).mono ?_;rintro e w2 ⟨rfl,hb2⟩;rw[HRb.out];obtain⟨x0,x1,x2,x3,x4⟩:=Jx6 (QJ.keep HB1.out hb2);have HB2:=QQ (HBx.out.trans (hb2.mono HBx.out.size));have HX2:=QQ (QJ.keep HB1.out hb2);clear hb2)
   go_region_with (go_at_call 78;refine(Ka0 _ X t cs o A c lv bu se (H.out.below (Below.drew HB2.out)) HS.out.n z ((Qh5 z).1 HRb.out)).mono ?_;rintro e w3 ⟨rfl,hb3⟩;obtain⟨y0,y1,y2,y3,y4⟩:=Jx6 (QJ.keep (QJ.drew HX2.out) hb3);have HB3:=QQ ((Below.drew HB2.out).trans (hb3.mono HB2.out.size));clear hb3)
   all_goals go_wp2_with (go_at_call 67;refine(Js2 _ X t cs o A c lv bu se z (H.out.below HB3.out) HS.out ((Qh5 z).1 HRb.out) (-1) (.inr rfl) (fun _=>by have:=HQ.out;omega)).mono ?_;rintro e w4 ⟨⟨v,rfl⟩,hd⟩;have HD:=QQ hd;clear hd)
   all_goals
    refine bodyPost_ret (results_tmp rfl _ _ _) rfl ?_;have ht:Qf9 lv bu se z (-1)=0:=by unfold Qf9;rw[HRb.out,if_pos rfl,if_neg (fun e=>by have:=HQ.out;have:=e.2;omega)]
    obtain⟨lv',bu',se',h1,h2⟩:=HD.out;refine⟨by rw[ht];rfl,lv',bu',se',h1.pre HB3.out, ?_⟩;unfold Qu3;rw[ht,if_pos rfl];exact h2
end Go.Proofs.YtnlngicnfegjgaaGreat
