/- Contracts and walks that the law's proof needs. -/
import Derived.WalkKit
import Derived.WalkLawsBesides
import Derived.WalkSpells
import Derived.Deep.DeepCutAuto
import Derived.Deep.CutBlock
import Derived.Deep.QuietTactic
import Derived.BigQuiet
import Derived.BigRegion
import Derived.Deep.RegionWith
import Derived.Test.YtnlngicnfegjgaaGreatDoorZd14
import Derived.Test.YtnlngicnfegjgaaGreatDoorZd15
import Derived.Deep.LoopGhost
import Derived.Deep.AppendLies
import Derived.Deep.AppendSrc
set_option linter.unusedVariables false
set_option maxRecDepth 100000
set_option maxHeartbeats 8000000
namespace Go.Proofs.YtnlngicnfegjgaaGreatDoor
open Go.RowKit
set_option linter.unusedSimpArgs false
def Qa1 (o:QX):Option Int:=if o.kind=2 then none else some o.price
def Qo5 (lv:List XJ) (bu se:Int):Option Int→Int×Int
 |none=>(bu,se)
 |some p=>YW lv p
def Qx2 (lv:List XJ) (bu se:Int) (o:QX):Int:=if o.side=1 then(Qo5 lv bu se (Qa1 o)).1 else(Qo5 lv bu se (Qa1 o)).2
def Ja7 (lv:List XJ) (bu se:Int) (o:QX) (q:Int) (lv':List XJ) (bu' se':Int):Prop:=
 lv'.length≤lv.length+1∧ ∀k,Qo5 lv' bu' se' k=if k=Qa1 o then((Qo5 lv bu se k).1+q*dB o,(Qo5 lv bu se k).2+q*dS o)else Qo5 lv bu se k
section
variable(w:World) (X:Nat) (t:TypeId) (cs:Array Value) (o:Nat) (A:Option Addr) (c:Nat) (lv:List XJ) (bu se:Int) (h:Qj1 w X t cs o A c lv bu se) (z:QX)
theorem Ju0 (h:Qj1 w X t cs o A c lv bu se) (hs:Jb9 lv bu se) (hr:Qb9 z) (q:Int) (hq:q=1∨q= -1) (hp:q= -1→z.qty≤Qx2 lv bu se z):
  Calls Tryz.prog 121 #[.pointer (some ⟨X,o,none⟩),KQ z,.int .i64 q] w fun e w'=>(∃v,e= .returned v)∧ ∃lv' bu' se',Qe0 w w' X t cs o A lv' bu' se'∧Ja7 lv bu se z q lv' bu' se':=by
 by_cases hk:z.kind=2
 ·have hkey:Qa1 z=none:=if_pos hk
  refine(Jx9 w X t cs o A c lv bu se h hs z hr hk q hq (fun e=>by have:=hp e;unfold Qx2 at this;rw[hkey]at this;exact this)).mono ?_;rintro e w' ⟨h1,h2⟩;refine⟨h1,_,_,_,h2,Nat.le_succ _,fun k=> ?_⟩;rw[hkey]
  cases k with
  |none=>rw[if_pos rfl];rfl
  |some p=>rw[if_neg (by simp)];rfl
 ·have hkey:Qa1 z=some z.price:=if_neg hk
  refine(Xh1 w X t cs o A c lv bu se h hs z hr hk q hq (fun e=>by have:=hp e;unfold Qx2 at this;rw[hkey]at this;exact this)).mono ?_;rintro e w' ⟨h1,lv',h2,h3,h4⟩;refine⟨h1,_,_,_,h2,h3,fun k=> ?_⟩;rw[hkey]
  cases k with
  |none=>rw[if_neg (by simp)];rfl
  |some p=>
   show YW lv' p=_;rw[h4 p]
   by_cases e:p=z.price
   ·rw[if_pos e,if_pos (by rw[e])];rfl
   ·rw[if_neg e,if_neg (fun h=>e (Option.some.inj h))];rfl
end
def Qx3 (o:QX):Bool:=((o.side ==1 ||o.side ==2) &&decide (1≤o.qty) &&decide (o.qty≤1000000)) && (o.kind ==2 || (decide (1≤o.price) &&decide (o.price≤1000000)))
theorem Qh8 (o:QX):Qx3 o=true↔Qb9 o:=by
 unfold Qx3 Qb9
 simp only[Bool.and_eq_true,Bool.or_eq_true,decide_eq_true_eq,beq_iff_eq]
 constructor
 ·rintro⟨⟨⟨a,b⟩,c⟩,d⟩;exact⟨a,⟨b,c⟩,d⟩
 ·rintro⟨a,⟨b,c⟩,d⟩;exact⟨⟨⟨a,b⟩,c⟩,d⟩
theorem Qr2 (w:World) (z:QX):Calls Tryz.prog 120 #[KQ z] w fun e w'=>e= .returned (.bool (Qx3 z))∧Below w.heap.size w w':=by
 have HB:=QQ (show Below w.heap.size w (w.alloc (.cells #[.int .i64 z.id,.int .i64 z.side,.int .i64 z.kind,.int .i64 z.price,.int .i64 z.qty] 29))from(Below.refl _ w).alloc (Nat.le_refl _) _)
 obtain⟨zi,zs,zk,zp,zq⟩:=z
 obtain⟨bb,hbb⟩: ∃bb,Qx3 ⟨zi,zs,zk,zp,zq⟩=bb:=⟨_,rfl⟩
 rw[hbb]
 unfold Qx3 at hbb
 unfold KQ
 dsimp only at hbb HB⊢
 go_enter Tryz.func120,Tryz.ntmps120
 by_cases s1:zs=1
 ·have s1_:=J4 s1
  by_cases q1:1≤zq
  ·have q1_:=J5 q1
   by_cases q2:zq≤1000000
   ·have q2_:=J5 q2
    by_cases k:zk=2
    ·have k_:=J4 k
     have e:bb=true:=by rw[←hbb];simp[s1,q1,q2,k]
     subst e;clear hbb s1 q1 q2 k;go_wp2;go_ret;exact⟨rfl,HB.out⟩
    ·have k_:=UQ k
     by_cases p1:1≤zp
     ·have p1_:=J5 p1
      by_cases p2:zp≤1000000
      ·have p2_:=J5 p2
       have e:bb=true:=by rw[←hbb];simp[s1,q1,q2,k,p1,p2]
       subst e;clear hbb s1 q1 q2 k p1 p2;go_wp2;go_ret;exact⟨rfl,HB.out⟩
      ·have p2_:=IQ p2
       have e:bb=false:=by rw[←hbb];simp[s1,q1,q2,k,p1,p2]
       subst e;clear hbb s1 q1 q2 k p1 p2;go_wp2;go_ret;exact⟨rfl,HB.out⟩
     ·have p1_:=IQ p1
      have e:bb=false:=by rw[←hbb];simp[s1,q1,q2,k,p1]
      subst e;clear hbb s1 q1 q2 k p1;go_wp2;go_ret;exact⟨rfl,HB.out⟩
   ·have q2_:=IQ q2
    have e:bb=false:=by rw[←hbb];simp[s1,q1,q2]
    subst e;clear hbb s1 q1 q2;go_wp2;go_ret;exact⟨rfl,HB.out⟩
  ·have q1_:=IQ q1
   have e:bb=false:=by rw[←hbb];simp[s1,q1]
   subst e;clear hbb s1 q1;go_wp2;go_ret;exact⟨rfl,HB.out⟩
 ·have s1_:=UQ s1
  by_cases s2:zs=2
  ·have s2_:=J4 s2
   by_cases q1:1≤zq
   ·have q1_:=J5 q1
    by_cases q2:zq≤1000000
    ·have q2_:=J5 q2
     by_cases k:zk=2
     ·have k_:=J4 k
      have e:bb=true:=by rw[←hbb];simp[s1,s2,q1,q2,k]
      subst e;clear hbb s1 s2 q1 q2 k;go_wp2;go_ret;exact⟨rfl,HB.out⟩
     ·have k_:=UQ k
      by_cases p1:1≤zp
      ·have p1_:=J5 p1
       by_cases p2:zp≤1000000
       ·have p2_:=J5 p2
        have e:bb=true:=by rw[←hbb];simp[s1,s2,q1,q2,k,p1,p2]
        subst e;clear hbb s1 s2 q1 q2 k p1 p2;go_wp2;go_ret;exact⟨rfl,HB.out⟩
       ·have p2_:=IQ p2
        have e:bb=false:=by rw[←hbb];simp[s1,s2,q1,q2,k,p1,p2]
        subst e;clear hbb s1 s2 q1 q2 k p1 p2;go_wp2;go_ret;exact⟨rfl,HB.out⟩
      ·have p1_:=IQ p1
       have e:bb=false:=by rw[←hbb];simp[s1,s2,q1,q2,k,p1]
       subst e;clear hbb s1 s2 q1 q2 k p1;go_wp2;go_ret;exact⟨rfl,HB.out⟩
    ·have q2_:=IQ q2
     have e:bb=false:=by rw[←hbb];simp[s1,s2,q1,q2]
     subst e;clear hbb s1 s2 q1 q2;go_wp2;go_ret;exact⟨rfl,HB.out⟩
   ·have q1_:=IQ q1
    have e:bb=false:=by rw[←hbb];simp[s1,s2,q1]
    subst e;clear hbb s1 s2 q1;go_wp2;go_ret;exact⟨rfl,HB.out⟩
  ·have s2_:=UQ s2
   have e:bb=false:=by rw[←hbb];simp[s1,s2]
   subst e;clear hbb s1 s2;go_wp2;go_ret;exact⟨rfl,HB.out⟩
theorem Xw7 (w:World) (X:Nat) (t:TypeId) (cs:Array Value) (o:Nat) (A:Option Addr) (c:Nat) (lv:List XJ) (bu se:Int) (h:Qj1 w X t cs o A c lv bu se) (z:QX) (hsd:z.side=1∨z.side=2) (hk:z.kind=2):
  Calls Tryz.prog 133 #[.pointer (some ⟨X,o,none⟩),KQ z] w fun e w'=>e= .returned (.int .i64 (if z.side=1 then bu else se))∧Below w.heap.size w w':=by
 have hbx:Below w.heap.size w (w.alloc (.cells #[.int .i64 z.id,.int .i64 z.side,.int .i64 z.kind,.int .i64 z.price,.int .i64 z.qty] 29)):=(Below.refl _ w).alloc (Nat.le_refl _) _
 have h':=h.below hbx
 obtain⟨y0,y1,y2⟩:=h'.cells
 have t1:=J4 hk
 obtain⟨w1,hw1⟩: ∃w1,w.alloc (.cells #[.int .i64 z.id,.int .i64 z.side,.int .i64 z.kind,.int .i64 z.price,.int .i64 z.qty] 29)=w1:=⟨_,rfl⟩
 obtain⟨Bx,hBx⟩: ∃Bx,w.heap.size=Bx:=⟨_,rfl⟩
 have hB1:=QJ.new w 29 #[.int .i64 z.id,.int .i64 z.side,.int .i64 z.kind,.int .i64 z.price,.int .i64 z.qty]
 rw[hw1]at hbx h' y0 y1 y2 hB1
 rw[hBx]at hB1
 have hXl:=QJ.lt h'.blk
 have hBl:=QJ.lt hB1
 obtain⟨x1,x2⟩:=(show w1.cell? ⟨Bx,1,none⟩=some (.int .i64 z.side)∧w1.cell? ⟨Bx,2,none⟩=some (.int .i64 z.kind)from⟨by rw[QJ.cell hB1];rfl,by rw[QJ.cell hB1];rfl⟩)
 have HBx:=QQ hbx
 obtain⟨v,hv⟩: ∃v,(if z.side=1 then bu else se)=v:=⟨_,rfl⟩
 rw[hv]
 have Hv:=QQ hv
 unfold KQ
 clear h h' hbx hB1 y0
 rcases hsd with hsd|hsd
 ·have i1:RowKit.wrap64 (z.side-1)=0:=by unfold RowKit.wrap64;omega
  have Hsd:=QQ hsd;clear hsd hv hk;go_enter Tryz.func133,Tryz.ntmps133
  go_upto_region 1 with fail
  clear hw1 hBx;go_wp2_with fail
  go_region
  all_goals go_wp2_with fail
  all_goals
   refine bodyPost_ret (results_tmp rfl _ _ _) rfl ?_;refine⟨O5 ?_,HBx.out.trans ?_⟩
   ·have h1:=Hv.out
    rw[if_pos Hsd.out]at h1;exact h1
   ·first
    |exact((Below.drew (Below.refl _ _)).alloc HBx.out.size _)
    |exact Below.drew ((Below.refl _ _).alloc HBx.out.size _)
 ·have i1:RowKit.wrap64 (z.side-1)=1:=by unfold RowKit.wrap64;omega
  have Hsd:=QQ hsd;clear hsd hv hk;go_enter Tryz.func133,Tryz.ntmps133
  go_upto_region 1 with fail
  clear hw1 hBx;go_wp2_with fail
  go_region
  all_goals go_wp2_with fail
  all_goals
   refine bodyPost_ret (results_tmp rfl _ _ _) rfl ?_;refine⟨O5 ?_,HBx.out.trans ?_⟩
   ·have h1:=Hv.out
    rw[if_neg (by have:=Hsd.out;omega)]at h1;exact h1
   ·first
    |exact((Below.drew (Below.refl _ _)).alloc HBx.out.size _)
    |exact Below.drew ((Below.refl _ _).alloc HBx.out.size _)
theorem Ki2 (w:World) (X:Nat) (t:TypeId) (cs:Array Value) (o:Nat) (A:Option Addr) (c:Nat) (lv:List XJ) (bu se:Int) (h:Qj1 w X t cs o A c lv bu se) (hs:lv.length≤99999) (z:QX) (hsd:z.side=1∨z.side=2) (hk:z.kind≠2) (hpr:1≤z.price∧z.price≤1000000):
  Calls Tryz.prog 133 #[.pointer (some ⟨X,o,none⟩),KQ z] w fun e w'=>e= .returned (.int .i64 (if z.side=1 then(YW lv z.price).1 else(YW lv z.price).2))∧Below w.heap.size w w':=by
 have hbx:Below w.heap.size w (w.alloc (.cells #[.int .i64 z.id,.int .i64 z.side,.int .i64 z.kind,.int .i64 z.price,.int .i64 z.qty] 29)):=(Below.refl _ w).alloc (Nat.le_refl _) _
 have h':=h.below hbx
 obtain⟨n,hn⟩: ∃n,lv.length=n:=⟨_,rfl⟩
 have hn1:n≤99999:=by omega
 have y0:=h'.cells.1
 rw[hn]at y0
 obtain⟨w1,hw1⟩: ∃w1,w.alloc (.cells #[.int .i64 z.id,.int .i64 z.side,.int .i64 z.kind,.int .i64 z.price,.int .i64 z.qty] 29)=w1:=⟨_,rfl⟩
 obtain⟨Bx,hBx⟩: ∃Bx,w.heap.size=Bx:=⟨_,rfl⟩
 have hB1:=QJ.new w 29 #[.int .i64 z.id,.int .i64 z.side,.int .i64 z.kind,.int .i64 z.price,.int .i64 z.qty]
 rw[hw1]at hbx h' y0 hB1
 rw[hBx]at hB1
 have hXl:=QJ.lt h'.blk
 have hBl:=QJ.lt hB1
 obtain⟨x1,x2,x3⟩:=(show w1.cell? ⟨Bx,1,none⟩=some (.int .i64 z.side)∧w1.cell? ⟨Bx,2,none⟩=some (.int .i64 z.kind)∧w1.cell? ⟨Bx,3,none⟩=some (.int .i64 z.price)from⟨by rw[QJ.cell hB1];rfl,by rw[QJ.cell hB1];rfl,by rw[QJ.cell hB1];rfl⟩)
 have hse:=Jn4 z.price 181 #[] A n c lv w1.drew (by rw[←hn];exact XZ.of_row JK (by omega) (h'.below (Below.drew (Below.refl _ _))).row) h.ok.rank (by omega) (Go.Proofs.enters_of Tryz.func181 (by kernel_rfl) rfl)
  (fun W q hm hW=>Xw4 q.1 q.2.1 q.2.2 z.price (by have:=h.ok.pr q hm;unfold Qp4;omega) (by unfold Qp4;omega) W)
 have HSe:=QQ hse
 have t1:=UQ hk
 have H:=QQ h
 have Hn:=QQ hn
 have HBx:=QQ hbx
 have HB1:=QQ hB1
 have Hsd:=QQ hsd
 obtain⟨v,hv⟩: ∃v,(if z.side=1 then(YW lv z.price).1 else(YW lv z.price).2)=v:=⟨_,rfl⟩
 rw[hv]
 have Hv:=QQ hv
 unfold KQ
 clear h h' hse hbx hB1 hk hpr hsd hn hv
 go_enter Tryz.func133,Tryz.ntmps133
 go_upto_region 1 with fail
 clear hw1 hBx
 go_wp2_with fail
 refine Y1 11 (fun W=>W.cell? ⟨X,o,none⟩=some (.slice A n c)∧W.cell? ⟨Bx,3,none⟩=some (.int .i64 z.price)) (by kernel_rfl) ⟨y0,x3⟩ (fun hS=> ?_)
 refine tT 0 (.pointer (some ⟨X,o,none⟩)) ?_
 refine tT 1 (.pointer (some ⟨X,o,none⟩)) ?_
 refine tT 2 (.pointer (some ⟨X,o,none⟩)) ?_
 refine tT 3 (.slice A n c) ?_
 refine tT 4 (.pointer (some ⟨Bx,3,none⟩)) ?_
 refine tT 5 (.int .i64 z.price) ?_
 refine Y8 6 (by kernel_rfl) rfl (fun K1 hK1=> ?_)
 go_simp
 refine HSe.out.mono ?_
 rintro e w2 ⟨hb2,k,hkn,hk1,hk2,rfl⟩
 obtain⟨fb,hfb⟩: ∃fb,Qm7 lv z.price n k=fb:=⟨_,rfl⟩
 rw[hfb]
 have hy0:=(hb2.cell (p:=⟨X,o,none⟩) hXl).trans y0
 have hx3:=(hb2.cell (p:=⟨Bx,3,none⟩) hBl).trans x3
 refine hK1 _ _ ⟨hy0,hx3⟩ (fun hS=> ?_)
 clear hK1
 refine tT 7 (.tuple #[.int .i64 k,.bool fb]) ?_
 refine tT 8 (.int .i64 k) ?_
 refine tT 9 (.bool fb) ?_
 refine tT 10 (.int .i64 k) ?_
 refine Qo4 (by kernel_rfl) rfl (fun K1 hK1=> ?_)
 go_simp
 refine hK1 _ _ (Qo3 (by kernel_rfl) ?_ _)
 clear hK1
 have HB2:=QQ hb2
 clear hb2 hS
 have HW2:=QQ (show Below w.heap.size w w2 from HBx.out.trans ((Below.drew (Below.refl _ w1)).trans (HB2.out.mono HBx.out.size)))
 have hx1:w2.cell? ⟨Bx,1,none⟩=some (.int .i64 z.side):=(HB2.out.cell (p:=⟨Bx,1,none⟩) hBl).trans x1
 cases fb with
 |false=>
  have HK1:=QQ hk1;have HK2:=QQ hk2;clear hk1 hk2;go_wp2_with fail
  refine bodyPost_ret (results_tmp rfl _ _ _) rfl ?_;refine⟨O5 ?_,HW2.out⟩;have h1:=Jg8 (Jg7 Hn.out H.out.ok.rank hfb HK1.out HK2.out);have h2:=Hv.out;rw[h1]at h2;rw[←h2]
  split<;>rfl
 |true=>
  obtain⟨hkl,hkp⟩:=Jn3 Hn.out hfb;obtain⟨-,e2⟩:=Qf3.found H.out HW2.out hkl hkp;have hM2:=H.out.below HW2.out;obtain⟨g,hA1,-⟩:=hM2.row.elem JK (by omega) hkl;subst hA1;obtain⟨-,l1,l2⟩:=Qx1 hM2.row hkl;generalize lv[k].2.1=b0 at l1 e2;generalize lv[k].2.2=s0 at l2 e2;have HE2:=QQ e2;have hkz:(k:Int)< (n:Int):=by have:=Hn.out;omega
  have hk0:(0:Int)≤(k:Int):=by omega
  have hbl2:Bx<w2.heap.size:=by have:=HB2.out.size;have:w1.heap.size≤w2.heap.size:=this;omega
  clear hfb hk1 hk2 hM2 hkl hkp e2 y0 x1 x2 x3;rcases Hsd.out with hsd|hsd
  ·have i1:RowKit.wrap64 (z.side-1)=0:=by unfold RowKit.wrap64;clear hn1 hkn hbl2;omega
   have Hsd1:=QQ hsd;clear hsd;go_wp2_with fail
   go_region
   all_goals go_wp2_with fail
   all_goals
    refine bodyPost_ret (results_tmp rfl _ _ _) rfl ?_;refine⟨O5 ?_,HW2.out.trans ?_⟩
    ·have h1:=Hv.out
     rw[if_pos Hsd1.out,HE2.out]at h1;exact h1
    ·first
     |exact((Below.drew (Below.refl _ _)).alloc HW2.out.size _)
     |exact Below.drew ((Below.refl _ _).alloc HW2.out.size _)
  ·have i1:RowKit.wrap64 (z.side-1)=1:=by unfold RowKit.wrap64;clear hn1 hkn hbl2;omega
   have Hsd1:=QQ hsd;clear hsd;go_wp2_with fail
   go_region
   all_goals go_wp2_with fail
   all_goals
    refine bodyPost_ret (results_tmp rfl _ _ _) rfl ?_;refine⟨O5 ?_,HW2.out.trans ?_⟩
    ·have h1:=Hv.out
     rw[if_neg (by have:=Hsd1.out;omega),HE2.out]at h1;exact h1
    ·first
     |exact((Below.drew (Below.refl _ _)).alloc HW2.out.size _)
     |exact Below.drew ((Below.refl _ _).alloc HW2.out.size _)
theorem Kd2 (w:World) (X:Nat) (t:TypeId) (cs:Array Value) (o:Nat) (A:Option Addr) (c:Nat) (lv:List XJ) (bu se:Int) (h:Qj1 w X t cs o A c lv bu se) (hs:lv.length≤99999) (z:QX) (hr:Qb9 z):
  Calls Tryz.prog 133 #[.pointer (some ⟨X,o,none⟩),KQ z] w fun e w'=>e= .returned (.int .i64 (Qx2 lv bu se z))∧Below w.heap.size w w':=by
 unfold Qx2
 by_cases hk:z.kind=2
 ·rw[show Qa1 z=none from if_pos hk]
  exact Xw7 w X t cs o A c lv bu se h z hr.1 hk
 ·rw[show Qa1 z=some z.price from if_neg hk]
  exact Ki2 w X t cs o A c lv bu se h hs z hr.1 hk (hr.2.2.resolve_left hk)
theorem Jy0 {w:World} {g:Nat} {t:TypeId} {a b c d e:Value} (h:QJ w g t #[a,b,c,d,e]):w.cell? ⟨g,0,none⟩=some a∧w.cell? ⟨g,1,none⟩=some b∧w.cell? ⟨g,2,none⟩=some c∧w.cell? ⟨g,3,none⟩=some d∧w.cell? ⟨g,4,none⟩=some e:=
 ⟨by rw[QJ.cell h];rfl,by rw[QJ.cell h];rfl,by rw[QJ.cell h];rfl,by rw[QJ.cell h];rfl,by rw[QJ.cell h];rfl⟩
theorem Qe0.pre {w w1 w':World} {X:Nat} {t:TypeId} {cs:Array Value} {o:Nat} {A:Option Addr} {lv':List XJ} {bu' se':Int} (h:Qe0 w1 w' X t cs o A lv' bu' se') (hb:Below w.heap.size w w1):Qe0 w w' X t cs o A lv' bu' se':=by
 obtain⟨cs',A',c',h1,h2,h3,h4,h5⟩:=h
 exact⟨cs',A',c',h1,h2,h3,(QK.of_below hb _).trans h4 (fun i e=> .inl e),fun g hg=>(h5 g hg).imp id (fun e=>Nat.le_trans hb.size e)⟩
def Qg5 (lv:List XJ) (bu se:Int) (z:QX) (q:Int):Int:=if Qx3 z=true then(if q= -1∧Qx2 lv bu se z<z.qty then 8 else 0)else 1
def Qu7 (lv:List XJ) (bu se:Int) (z:QX) (q:Int) (lv':List XJ) (bu' se':Int):Prop:=if Qg5 lv bu se z q=0 then Ja7 lv bu se z q lv' bu' se' else lv'=lv∧bu'=bu∧se'=se
theorem Xh2 (w:World) (X:Nat) (t:TypeId) (cs:Array Value) (o:Nat) (A:Option Addr) (c:Nat) (lv:List XJ) (bu se:Int) (h:Qj1 w X t cs o A c lv bu se) (hs:Jb9 lv bu se) (z:QX):
  Calls Tryz.prog 88 #[.pointer (some ⟨X,o,none⟩),KQ z] w fun e w'=>e= .returned (YV (Qg5 lv bu se z 1))∧ ∃lv' bu' se',Qe0 w w' X t cs o A lv' bu' se'∧Qu7 lv bu se z 1 lv' bu' se':=by
 have hbx:Below w.heap.size w (w.alloc (.cells #[.int .i64 z.id,.int .i64 z.side,.int .i64 z.kind,.int .i64 z.price,.int .i64 z.qty] 29)):=(Below.refl _ w).alloc (Nat.le_refl _) _
 have hB1:=QJ.new w 29 #[.int .i64 z.id,.int .i64 z.side,.int .i64 z.kind,.int .i64 z.price,.int .i64 z.qty]
 have H:=QQ h
 have HS:=QQ hs
 have HBx:=QQ hbx
 have HB1:=QQ hB1
 have hbl:=QJ.lt hB1
 clear h hs hbx hB1
 unfold KQ
 cases hrb:Qx3 z with
 |false=>
  have HRb:=QQ hrb;clear hrb;go_enter Tryz.func88,Tryz.ntmps88
  go_wp2_with (go_at_call 120;refine(Qr2 _ z).mono ?_;rintro e w2 ⟨rfl,hb2⟩;rw[HRb.out];have HB2:=QQ hb2;clear hb2)
  refine bodyPost_ret (results_tmp rfl _ _ _) rfl ?_;have ht:Qg5 lv bu se z 1=1:=by unfold Qg5;rw[HRb.out];rfl
  refine⟨by rw[ht];rfl,lv,bu,se,Qe0.same H.out (HBx.out.trans (HB2.out.mono HBx.out.size)), ?_⟩;unfold Qu7;rw[ht,if_neg (by decide)];exact⟨rfl,rfl,rfl⟩
 |true=>
  have HRb:=QQ hrb;clear hrb;go_enter Tryz.func88,Tryz.ntmps88
  go_wp2_with (first|(go_at_call 120;refine(Qr2 _ z).mono ?_;rintro e w2 ⟨rfl,hb2⟩;rw[HRb.out];obtain⟨x0,x1,x2,x3,x4⟩:=Jy0 (QJ.keep HB1.out hb2);have HB2:=QQ (HBx.out.trans (hb2.mono HBx.out.size));clear hb2)|(go_at_call 121;refine(Ju0 _ X t cs o A c lv bu se z (H.out.below HB2.out) HS.out ((Qh8 z).1 HRb.out) 1 (.inl rfl) (fun e=>by cases e)).mono ?_;rintro e w3 ⟨⟨v,rfl⟩,hd⟩;have HD:=QQ hd;clear hd))
  refine bodyPost_ret (results_tmp rfl _ _ _) rfl ?_;have ht:Qg5 lv bu se z 1=0:=by unfold Qg5;rw[HRb.out];rfl
  obtain⟨lv',bu',se',h1,h2⟩:=HD.out;refine⟨by rw[ht];rfl,lv',bu',se',h1.pre HB2.out, ?_⟩;unfold Qu7;rw[ht,if_pos rfl];exact h2
theorem Ju1 (w:World) (X:Nat) (t:TypeId) (cs:Array Value) (o:Nat) (A:Option Addr) (c:Nat) (lv:List XJ) (bu se:Int) (h:Qj1 w X t cs o A c lv bu se) (hs:Jb9 lv bu se) (z:QX):
  Calls Tryz.prog 98 #[.pointer (some ⟨X,o,none⟩),KQ z] w fun e w'=>e= .returned (YV (Qg5 lv bu se z (-1)))∧ ∃lv' bu' se',Qe0 w w' X t cs o A lv' bu' se'∧Qu7 lv bu se z (-1) lv' bu' se':=by
 have hbx:Below w.heap.size w (w.alloc (.cells #[.int .i64 z.id,.int .i64 z.side,.int .i64 z.kind,.int .i64 z.price,.int .i64 z.qty] 29)):=(Below.refl _ w).alloc (Nat.le_refl _) _
 have hB1:=QJ.new w 29 #[.int .i64 z.id,.int .i64 z.side,.int .i64 z.kind,.int .i64 z.price,.int .i64 z.qty]
 have H:=QQ h
 have HS:=QQ hs
 have HBx:=QQ hbx
 have HB1:=QQ hB1
 have hbl:=QJ.lt hB1
 clear h hs hbx hB1
 unfold KQ
 cases hrb:Qx3 z with
 |false=>
  have HRb:=QQ hrb;clear hrb;go_enter Tryz.func98,Tryz.ntmps98
  go_wp2_with (go_at_call 120;refine(Qr2 _ z).mono ?_;rintro e w2 ⟨rfl,hb2⟩;rw[HRb.out];have HB2:=QQ hb2;clear hb2)
  refine bodyPost_ret (results_tmp rfl _ _ _) rfl ?_;have ht:Qg5 lv bu se z (-1)=1:=by unfold Qg5;rw[HRb.out];rfl
  refine⟨by rw[ht];rfl,lv,bu,se,Qe0.same H.out (HBx.out.trans (HB2.out.mono HBx.out.size)), ?_⟩;unfold Qu7;rw[ht,if_neg (by decide)];exact⟨rfl,rfl,rfl⟩
 |true=>
  have HRb:=QQ hrb;clear hrb
  by_cases hq:Qx2 lv bu se z<z.qty
  ·have d1:=J5 hq
   have HQ:=QQ hq;clear hq;go_enter Tryz.func98,Tryz.ntmps98
   go_wp2_with (go_at_call 120;refine(Qr2 _ z).mono ?_;rintro e w2 ⟨rfl,hb2⟩;rw[HRb.out];obtain⟨x0,x1,x2,x3,x4⟩:=Jy0 (QJ.keep HB1.out hb2);have HB2:=QQ (HBx.out.trans (hb2.mono HBx.out.size));have HX2:=QQ (QJ.keep HB1.out hb2);clear hb2)
   go_region_with (go_at_call 133;refine(Kd2 _ X t cs o A c lv bu se (H.out.below (Below.drew HB2.out)) HS.out.n z ((Qh8 z).1 HRb.out)).mono ?_;rintro e w3 ⟨rfl,hb3⟩;obtain⟨y0,y1,y2,y3,y4⟩:=Jy0 (QJ.keep (QJ.drew HX2.out) hb3);have HB3:=QQ ((Below.drew HB2.out).trans (hb3.mono HB2.out.size));clear hb3)
   all_goals go_wp2_with fail
   all_goals
    refine bodyPost_ret (results_tmp rfl _ _ _) rfl ?_;have ht:Qg5 lv bu se z (-1)=8:=by unfold Qg5;rw[HRb.out,if_pos rfl,if_pos ⟨rfl,HQ.out⟩]
    refine⟨by rw[ht];rfl,lv,bu,se,Qe0.same H.out HB3.out, ?_⟩;unfold Qu7;rw[ht,if_neg (by decide)];exact⟨rfl,rfl,rfl⟩
  ·have d1:=IQ hq
   have HQ:=QQ hq;clear hq;go_enter Tryz.func98,Tryz.ntmps98
   go_wp2_with (go_at_call 120;refine(Qr2 _ z).mono ?_;rintro e w2 ⟨rfl,hb2⟩;rw[HRb.out];obtain⟨x0,x1,x2,x3,x4⟩:=Jy0 (QJ.keep HB1.out hb2);have HB2:=QQ (HBx.out.trans (hb2.mono HBx.out.size));have HX2:=QQ (QJ.keep HB1.out hb2);clear hb2)
   go_region_with (go_at_call 133;refine(Kd2 _ X t cs o A c lv bu se (H.out.below (Below.drew HB2.out)) HS.out.n z ((Qh8 z).1 HRb.out)).mono ?_;rintro e w3 ⟨rfl,hb3⟩;obtain⟨y0,y1,y2,y3,y4⟩:=Jy0 (QJ.keep (QJ.drew HX2.out) hb3);have HB3:=QQ ((Below.drew HB2.out).trans (hb3.mono HB2.out.size));clear hb3)
   all_goals go_wp2_with (go_at_call 121;refine(Ju0 _ X t cs o A c lv bu se z (H.out.below HB3.out) HS.out ((Qh8 z).1 HRb.out) (-1) (.inr rfl) (fun _=>by have:=HQ.out;omega)).mono ?_;rintro e w4 ⟨⟨v,rfl⟩,hd⟩;have HD:=QQ hd;clear hd)
   all_goals
    refine bodyPost_ret (results_tmp rfl _ _ _) rfl ?_;have ht:Qg5 lv bu se z (-1)=0:=by unfold Qg5;rw[HRb.out,if_pos rfl,if_neg (fun e=>by have:=HQ.out;have:=e.2;omega)]
    obtain⟨lv',bu',se',h1,h2⟩:=HD.out;refine⟨by rw[ht];rfl,lv',bu',se',h1.pre HB3.out, ?_⟩;unfold Qu7;rw[ht,if_pos rfl];exact h2
def Y9 (l:List XJ) (s:Int):Int:=l.foldl (fun s x=>s+x.2.1) s
def Qn3 (l:List XJ) (s:Int):Int:=l.foldl (fun s x=>s+x.2.2) s
theorem Xb1 (l:List XJ) (x:XJ) (s:Int):Y9 (l++ [x]) s=Y9 l s+x.2.1:=by unfold Y9;rw[List.foldl_append];rfl
theorem Ki3 (l:List XJ) (x:XJ) (s:Int):Qn3 (l++ [x]) s=Qn3 l s+x.2.2:=by unfold Qn3;rw[List.foldl_append];rfl
theorem Ju2 (l:List XJ) (h: ∀x∈l,0≤x.2.1∧x.2.1≤1000000000000): ∀s:Int,s≤Y9 l s∧Y9 l s≤s+1000000000000*l.length:=by
 induction l with
 |nil=>intro s;unfold Y9;simp
 |cons x t ih=>
  intro s;have h1:=h x (by simp);have h2:=ih (fun y hy=>h y (by simp[hy])) (s+x.2.1);unfold Y9 at*;rw[List.foldl_cons,List.length_cons];omega
theorem Xw8 (l:List XJ) (h: ∀x∈l,0≤x.2.2∧x.2.2≤1000000000000): ∀s:Int,s≤Qn3 l s∧Qn3 l s≤s+1000000000000*l.length:=by
 induction l with
 |nil=>intro s;unfold Qn3;simp
 |cons x t ih=>
  intro s;have h1:=h x (by simp);have h2:=ih (fun y hy=>h y (by simp[hy])) (s+x.2.2);unfold Qn3 at*;rw[List.foldl_cons,List.length_cons];omega
structure Jd5 (lv:List XJ) (bu se:Int):Prop where
 b:0≤bu∧bu≤1000000000000
 s:0≤se∧se≤1000000000000
 lb: ∀x∈lv,0≤x.2.1∧x.2.1≤1000000000000
 ls: ∀x∈lv,0≤x.2.2∧x.2.2≤1000000000000
 n:lv.length≤99999
theorem Jd5.b_bound {lv:List XJ} {bu se:Int} (h:Jd5 lv bu se) (k:Nat):0≤Y9 (lv.take k) bu∧Y9 (lv.take k) bu≤200000000000000000:=by
 have h1:=Ju2 (lv.take k) (fun x hx=>h.lb x (List.mem_of_mem_take hx)) bu
 have h2:=h.n
 have h3:=h.b
 have h4:=List.length_take_le' k lv
 omega
theorem Jd5.s_bound {lv:List XJ} {bu se:Int} (h:Jd5 lv bu se) (k:Nat):0≤Qn3 (lv.take k) se∧Qn3 (lv.take k) se≤200000000000000000:=by
 have h1:=Xw8 (lv.take k) (fun x hx=>h.ls x (List.mem_of_mem_take hx)) se
 have h2:=h.n
 have h3:=h.s
 have h4:=List.length_take_le' k lv
 omega
def ptT (more:Int) (told:Bool) (x:XJ):Bool:=told ||decide (more≤x.1)
def ptO (more d s:Int) (told:Bool) (x:XJ) (out:List XJ):List XJ:=if told=false∧more<x.1 then out++ [(more,d,s)]else out
structure PtS where
 d:Int
 s:Int
 told:Bool
 out:List XJ
def ptF (more:Int) (s:PtS) (x:XJ):PtS:=⟨s.d-x.2.1,s.s+x.2.2,ptT more s.told x,ptO more s.d s.s s.told x s.out++ [(x.1,s.d,s.s+x.2.2)]⟩
def ptS (lv:List XJ) (bu se more:Int) (l:List XJ):PtS:=l.foldl (ptF more) ⟨Y9 lv bu,se,decide (more<1),[]⟩
def J2 (lv:List XJ) (bu se more:Int):List XJ:=let s:=ptS lv bu se more lv;if s.told=false then s.out++ [(more,s.d,s.s)]else s.out
theorem Xp0 (lv:List XJ) (bu se more:Int) (l:List XJ) (x:XJ):ptS lv bu se more (l++ [x])=ptF more (ptS lv bu se more l) x:=by unfold ptS;rw[List.foldl_append];rfl
theorem Ky2 (lv:List XJ) (bu se more:Int) (l:List XJ):(ptS lv bu se more l).d=Y9 lv bu- (Y9 l 0):=by
 have key: ∀(l:List XJ) (s:PtS),(l.foldl (ptF more) s).d=s.d-Y9 l 0:=by
  intro l
  induction l with
  |nil=>intro s;unfold Y9;simp
  |cons x t ih=>
   intro s;rw[List.foldl_cons,ih];have h0: ∀(t:List XJ) (a:Int),Y9 t a=a+Y9 t 0:=by
    intro t
    induction t with
    |nil=>intro a;unfold Y9;simp
    |cons y u ih2=>
     intro a;have e1:=ih2 (a+y.2.1);have e2:=ih2 (0+y.2.1);unfold Y9 at*;rw[List.foldl_cons,List.foldl_cons,e1,e2];omega
   have h1:=h0 t (0+x.2.1);have h2:Y9 (x::t) 0=Y9 t (0+x.2.1):=rfl;rw[h2,h1];show s.d-x.2.1-_=_;omega
 exact key l _
theorem Kp3 (lv:List XJ) (bu se more:Int) (l:List XJ):(ptS lv bu se more l).s=Qn3 l se:=by
 have key: ∀(l:List XJ) (s:PtS),(l.foldl (ptF more) s).s=Qn3 l s.s:=by
  intro l
  induction l with
  |nil=>intro s;rfl
  |cons x t ih=>intro s;rw[List.foldl_cons,ih];rfl
 exact key l _
theorem Jd5.ptd {lv:List XJ} {bu se:Int} (h:Jd5 lv bu se) (more:Int) (k:Nat): -300000000000000000≤(ptS lv bu se more (lv.take k)).d∧(ptS lv bu se more (lv.take k)).d≤300000000000000000:=by
 rw[Ky2]
 have h1:=h.b_bound lv.length
 rw[List.take_length]at h1
 have h2:=Ju2 (lv.take k) (fun x hx=>h.lb x (List.mem_of_mem_take hx)) 0
 have h3:=h.n
 have h4:=List.length_take_le' k lv
 omega
theorem Jd5.pts {lv:List XJ} {bu se:Int} (h:Jd5 lv bu se) (more:Int) (k:Nat):0≤(ptS lv bu se more (lv.take k)).s∧(ptS lv bu se more (lv.take k)).s≤300000000000000000:=by
 rw[Kp3]
 have h1:=h.s_bound k
 omega
theorem Kp4:(Tryz.prog.info? 244).map (fun i=>(i.zero,i.size,i.bytes))=some (some (.agg #[.int .i64 0,.int .i64 0,.int .i64 0]),3,24):=by kernel_rfl
theorem Xw9 (w:World) (X:Nat) (t:TypeId) (cs:Array Value) (o:Nat) (A:Option Addr) (c:Nat) (lv:List XJ) (bu se:Int) (h:Qj1 w X t cs o A c lv bu se) (hs:Jd5 lv bu se) (more:Int):
  Calls Tryz.prog 113 #[.pointer (some ⟨X,o,none⟩),.int .i64 more] w fun e w'=>Below w.heap.size w w'∧ ∃A' c',e= .returned (.slice A' (J2 lv bu se more).length c')∧QY w' A' (J2 lv bu se more).length c' 244 3 (QW KV (J2 lv bu se more)):=by
 obtain⟨y0,y1,y2⟩:=h.cells
 obtain⟨n,hn⟩: ∃n,lv.length=n:=⟨_,rfl⟩
 rw[hn]at y0
 have hr:=h.row
 rw[hn]at hr
 have hXl:=QJ.lt h.blk
 have H:=QQ h
 have HR:=QQ hr
 have HN:=QQ hn
 have HS:=QQ hs
 have hn1:n≤99999:=by have:=hs.n;omega
 clear h hr hn hs
 go_enter Tryz.func113,Tryz.ntmps113
 go_wp2_with fail
 go_region
 go_wp2_with fail
 go_loopg [5,26] n (fun gg s5 s26 wx=> ∃k:Nat,k≤n∧gg=n-k∧s26= .int .i64 k∧s5= .int .i64 (Y9 (lv.take k) bu)∧Below w.heap.size w wx)
 case atStart=>exact⟨0,Nat.zero_le _,rfl,rfl,rfl,by first|exact Below.drew (Below.refl _ _)|exact Below.refl _ _⟩
 case round=>
  obtain⟨k,hk,rfl,rfl,rfl,hB⟩:=hrel
  by_cases hlt:k<n
  ·have hkl:k<lv.length:=by have:=HN.out;omega
   obtain⟨g,hA,-⟩:=HR.out.elem JK (by omega) hkl;subst hA;obtain⟨x0,x1,x2⟩:=Qx1 (HR.out.below hB) hkl;have hltz:(k:Int)< (n:Int):=by omega
   have hk0:(0:Int)≤(k:Int):=by omega
   have HT:=QQ (List.take_succ_eq_append_getElem hkl);have hb1:=HS.out.b_bound k;have hb2:=HS.out.b_bound (k+1);rw[HT.out,Xb1]at hb2;have hi1:RowKit.wrap64 (Y9 (lv.take k) bu+lv[k].2.1)=Y9 (lv.take k) bu+lv[k].2.1:=by unfold RowKit.wrap64;omega
   have HI:Hid (Y9 (lv.take (k+1)) bu=Y9 (lv.take k) bu+lv[k].2.1):=QQ (by rw[HT.out,Xb1]);have HB:=QQ (hB.alloc hB.size (.cells #[.int .i64 lv[k].1,.int .i64 lv[k].2.1,.int .i64 lv[k].2.2] 252));generalize Y9 (lv.take k) bu=S at hi1 HI⊢;generalize lv[k].1=q0 at x0 HB;generalize lv[k].2.1=q1 at x1 hi1 HI HB;generalize lv[k].2.2=q2 at x2 HB;clear hb1 hb2 hB;go_wp2_with fail
   go_roundg (n- (k+1))
   case measure=>omega
   case rel=>exact⟨k+1,by omega,rfl,by go_num,by rw[HI.out];first|rfl|rw[hi1],HB.out⟩
  ·obtain rfl:n=k:=by omega
   have hltz: ¬(n:Int)< (n:Int):=by omega
   have etk:lv.take n=lv:=List.take_of_length_le (by rw[HN.out];exact Nat.le_refl _);rw[etk];have hD:Y9 lv bu=(ptS lv bu se more []).d:=rfl;rw[hD];obtain⟨wo,rfl⟩: ∃wo:World,wo=wr:=⟨_,rfl⟩;have y0':=(hB.cell (p:=⟨X,o,none⟩) hXl).trans y0;have HB:=QQ hB;obtain⟨tb,htb⟩: ∃tb,decide (more<1)=tb:=⟨_,rfl⟩;have HTb:=QQ (show tb=(ptS lv bu se more []).told from htb.symm);clear hB etk hD y1 y2;go_wp2_with fail
   obtain⟨i0,hi0,hz0,hz1,hz2⟩:=info_parts Kp4
   go_loopg [5,6,9,10,42] n (fun gg s5 s6 s9 s10 s42 wx=> ∃(k:Nat) (A9:Option Addr) (n9 c9:Nat),k≤n∧gg=n-k∧s42= .int .i64 k∧s5= .int .i64 (ptS lv bu se more (lv.take k)).d∧s6= .int .i64 (ptS lv bu se more (lv.take k)).s∧s10= .bool (ptS lv bu se more (lv.take k)).told∧s9= .slice A9 n9 c9∧n9≤2*k∧Below wo.heap.size wo wx∧QY wx A9 n9 c9 244 3 (QW KV (ptS lv bu se more (lv.take k)).out)∧ ∀g,QZ A9=some g→wo.heap.size≤g)
   case atStart=>exact⟨0,none,0,0,Nat.zero_le _,rfl,rfl,rfl,rfl,by rw[HTb.out];rfl,rfl,Nat.le_refl _,Below.refl _ _,World.ownsRow_nil _ _ _ _,by simp[QZ]⟩
   case round=>
    obtain⟨j,A9,n9,c9,hj,rfl,rfl,rfl,rfl,rfl,rfl,hn9,hB,hR9,hup⟩:=hrel;have dd0:=HS.out.ptd more j;have ss0:=HS.out.pts more j;have hdr: ∀b:Bool,b=true∨b=false:=fun b=>by cases b<;>simp
    by_cases hlt2:j<n
    ·have hkl:j<lv.length:=by have:=HN.out;omega
     obtain⟨g,hA,-⟩:=HR.out.elem JK (by omega) hkl;subst hA;obtain⟨x0,x1,x2⟩:=Qx1 (HR.out.below (HB.out.trans (hB.mono HB.out.size))) hkl;have hltz2:(j:Int)< (n:Int):=by omega
     have hk0:(0:Int)≤(j:Int):=by omega
     have HT:=QQ (List.take_succ_eq_append_getElem hkl);have HP:=QQ (show ptS lv bu se more (lv.take (j+1))=ptF more (ptS lv bu se more (lv.take j)) lv[j] by rw[HT.out,Xp0]);have dd1:=HS.out.ptd more (j+1);have ss1:=HS.out.pts more (j+1);rw[HP.out]at dd1 ss1;obtain⟨⟨d,su,td,out⟩,E⟩: ∃st,Hid (ptS lv bu se more (lv.take j)=st):=⟨_,QQ rfl⟩;rw[E.out]at dd0 ss0 dd1 ss1 hR9 HP⊢;dsimp only at dd0 ss0 hR9⊢;unfold ptF at dd1 ss1;dsimp only at dd1 ss1;obtain⟨⟨q0,q1,q2⟩,EQ⟩: ∃q,Hid (lv[j]=q):=⟨_,QQ rfl⟩;rw[EQ.out]at x0 x1 x2 dd1 ss1 HP;dsimp only at x0 x1 x2 dd1 ss1;have i1:RowKit.wrap64 (su+q2)=su+q2:=by unfold RowKit.wrap64;omega
     have i2:RowKit.wrap64 (d-q1)=d-q1:=by unfold RowKit.wrap64;omega
     obtain⟨w1,hw1⟩: ∃w1,wr.alloc (.cells #[.int .i64 q0,.int .i64 q1,.int .i64 q2] 252)=w1:=⟨_,rfl⟩;obtain⟨bx,hbx⟩: ∃bx,wr.heap.size=bx:=⟨_,rfl⟩;have hX1:=QJ.new wr 252 #[.int .i64 q0,.int .i64 q1,.int .i64 q2];have hb1:=hB.alloc hB.size (.cells #[.int .i64 q0,.int .i64 q1,.int .i64 q2] 252);have hr1:=hR9.below ((Below.refl _ wr).alloc (Nat.le_refl _) (.cells #[.int .i64 q0,.int .i64 q1,.int .i64 q2] 252));rw[hw1]at hX1 hb1 hr1;rw[hbx]at hX1;have hbxo:wo.heap.size≤bx:=by rw[←hbx];exact hB.size
     have hbnA:QZ A9≠some bx:=fun e=>by have h2:=hR9.lt e;omega
     have HX1:=QQ hX1;have HB1:=QQ hb1;have HR1:=QQ hr1;have HUp:=QQ hup;have HJ:=QQ hn9;have b0:w1.cell? ⟨bx,0,none⟩=some (.int .i64 q0):=by rw[QJ.cell hX1];rfl
     clear dd0 ss0 dd1 ss1 hX1 hb1 hr1 hR9 hup hB hn9 y0';obtain⟨cb,hcb⟩: ∃cb,(!td &&decide (more≤q0))=cb:=⟨_,rfl⟩;go_upto_region 12 with fail
     clear hw1 hbx x0 x1 x2
     go_cut [53] (fun s53 wx=>s53= .bool cb∧wx=w1)
     case first=>
      cases td with
      |true=>
       have HE:=QQ (show false=cb by rw[←hcb];rfl);clear hcb;go_wp2_with fail
       go_meet;exact⟨by rw[HE.out],rfl⟩
      |false=>
       by_cases m1:more≤q0
       ·have d1:=J5 m1
        have HE:=QQ (show true=cb by rw[←hcb,d1];rfl);clear hcb m1;go_wp2_with fail
        go_meet;exact⟨by rw[HE.out],rfl⟩
       ·have d1:=IQ m1
        have HE:=QQ (show false=cb by rw[←hcb,d1];rfl);clear hcb m1;go_wp2_with fail
        go_meet;exact⟨by rw[HE.out],rfl⟩
     case rest=>
      obtain⟨rfl,rfl⟩:=hcut;obtain⟨w1,rfl⟩: ∃w1:World,w1=wc:=⟨_,rfl⟩;have HCb:=QQ hcb;clear hcb;go_upto_if 53 with fail
      go_cut [9,10] (fun s9 s10 wx=> ∃(A1:Option Addr) (n1 c1:Nat),s9= .slice A1 n1 c1∧s10= .bool (ptT more td (q0,q1,q2))∧n1≤2*j+1∧Below wo.heap.size wo wx∧QY wx A1 n1 c1 244 3 (QW KV (ptO more d su td (q0,q1,q2) out))∧(∀g,QZ A1=some g→wo.heap.size≤g∧g≠bx)∧QJ wx bx 252 #[.int .i64 q0,.int .i64 q1,.int .i64 q2])
      case first=>
       cases cb with
       |false=>
        have HE1:=QQ (show ptT more td (q0,q1,q2)=td by unfold ptT;have:=HCb.out;cases td<;>simp at this⊢;exact this);have HE2:=QQ (show ptO more d su td (q0,q1,q2) out=out by unfold ptO;rw[if_neg];rintro⟨rfl,h2⟩;have:=HCb.out;simp at this;dsimp only at h2;omega);go_wp2_with fail
        go_meet;exact⟨A9,n9,c9,rfl,by rw[HE1.out],by have:=HJ.out;omega,HB1.out,by rw[HE2.out];exact HR1.out,fun g hg=>⟨HUp.out g hg,fun e=>hbnA (by rw[hg,e])⟩,HX1.out⟩
       |true=>
        obtain⟨rfl,hmq⟩:td=false∧more≤q0:=by have:=HCb.out;cases td<;>simp at this;exact⟨rfl,this⟩
        have HE1:=QQ (show ptT more false (q0,q1,q2)=true by unfold ptT;simp;exact hmq)
        by_cases m2:more<q0
        ·have d2:=J5 m2
         have HE2:=QQ (show ptO more d su false (q0,q1,q2) out=out++ [(more,d,su)] by unfold ptO;rw[if_pos ⟨rfl,m2⟩]);have HOa:=QQ (show World.ownsRow (w1.alloc (.cells #[.int .i64 more,.int .i64 d,.int .i64 su] 244)) 0 244 3 (.slice A9 n9 c9) n9 (QW KV out)from HR1.out.below ((Below.refl _ w1).alloc (Nat.le_refl _) _));have HNWa:=QQ (heap_alloc_new w1 (.cells #[.int .i64 more,.int .i64 d,.int .i64 su] 244));have hxb:=QJ.alloc HX1.out (.cells #[.int .i64 more,.int .i64 d,.int .i64 su] 244);have HXb:=QQ hxb;have hbxl:=QJ.lt HX1.out;have HBa:=QQ (HB1.out.alloc HB1.out.size (.cells #[.int .i64 more,.int .i64 d,.int .i64 su] 244));have hn9':n9≤300000:=by have:=HJ.out;omega
         have hsz1:=HB1.out.size;clear m2 hmq hxb;go_wp2_with (at_builtin;(refine wpList_append_lies _ rfl _ _ 197 rfl 0 244 i0 _ 3 24 Tryz.underlying197 hi0 hz0 hz1 hz2 rfl (by omega) (.slice A9 n9 c9) n9 _ rfl HOa.out ⟨w1.heap.size,0,none⟩ 1 1 (KV (more,d,su)) rfl rfl (World.news_of_block (cs:=(KV (more,d,su)).toArray) (t:=244) (fr:=(0,0)) HNWa.out) (Qd7 _) (by omega) (by unfold maxLen;omega) (by omega) (by simp) (w1.heap.size+1) (by simp) ?_);intro gg cap w3 hown hgrow hat hlt3;have HOw:=QQ hown;have HGr:=QQ hgrow;have HAt:=QQ hat;clear hown hgrow hat)
         go_meet;have hat:=HAt.out;rw[XV]at hat;refine⟨some ⟨gg,0,none⟩,n9+1,cap,rfl,by rw[HE1.out],by have:=HJ.out;omega,HBa.out.grown HGr.out (by simp;omega) (fun x hx=>HUp.out x (by rw[←XV A9 n9 c9];exact hx)), ?_,fun g hg=> ?_,QJ.grown HXb.out HGr.out (by rw[XV];exact fun e=>hbnA e.symm)⟩
         ·rw[HE2.out,Qa5];exact HOw.out
         ·cases hg
          rcases hat with h1|h1
          ·exact⟨HUp.out _ h1,fun e=>hbnA (by rw[h1];exact congrArg some e)⟩
          ·exact⟨by show wo.heap.size≤gg;omega,by show gg≠bx;omega⟩
        ·have d2:=IQ m2
         have HE2:=QQ (show ptO more d su false (q0,q1,q2) out=out by unfold ptO;rw[if_neg];rintro⟨-,h2⟩;exact m2 h2);clear m2 hmq;go_wp2_with fail
         go_meet;exact⟨A9,n9,c9,rfl,by rw[HE1.out],by have:=HJ.out;omega,HB1.out,by rw[HE2.out];exact HR1.out,fun g hg=>⟨HUp.out g hg,fun e=>hbnA (by rw[hg,e])⟩,HX1.out⟩
      case rest=>
       obtain⟨A1,n1,c1,rfl,rfl,hn1',hB2,hR2,hup2,hX2⟩:=hcut;obtain⟨w2,rfl⟩: ∃w2:World,w2=wc:=⟨_,rfl⟩;have c1':w2.cell? ⟨bx,1,none⟩=some (.int .i64 q1):=by rw[QJ.cell hX2];rfl
       have c2':w2.cell? ⟨bx,2,none⟩=some (.int .i64 q2):=by rw[QJ.cell hX2];rfl
       have c0':w2.cell? ⟨bx,0,none⟩=some (.int .i64 q0):=by rw[QJ.cell hX2];rfl
       have HR2:=QQ hR2;have HB2:=QQ hB2;have HUp2:=QQ hup2;have HX2:=QQ hX2;have hbxl:=QJ.lt hX2;have HOb:=QQ (show World.ownsRow (w2.alloc (.cells #[.int .i64 q0,.int .i64 d,.int .i64 (su+q2)] 244)) 0 244 3 (.slice A1 n1 c1) n1 (QW KV (ptO more d su td (q0,q1,q2) out))from HR2.out.below ((Below.refl _ w2).alloc (Nat.le_refl _) _));have HNWb:=QQ (heap_alloc_new w2 (.cells #[.int .i64 q0,.int .i64 d,.int .i64 (su+q2)] 244));have HBb:=QQ (HB2.out.alloc HB2.out.size (.cells #[.int .i64 q0,.int .i64 d,.int .i64 (su+q2)] 244));have hne:some bx≠(Value.slice A1 n1 c1).ownBlock:=by rw[XV];exact fun e=>(hup2 bx e.symm).2 rfl
       have hc1:(w2.alloc (.cells #[.int .i64 q0,.int .i64 d,.int .i64 (su+q2)] 244)).cell? ⟨bx,1,none⟩=some (.int .i64 q1):=by rw[QJ.cell (QJ.alloc hX2 _)];rfl
       have hsz1:=hB2.size;have hn1'':n1≤300000:=by omega
       have HN1:=QQ hn1';clear b0 hR2 hB2 hup2 hX2 hn1';go_wp2_with (at_builtin;(refine wpList_append_lies _ rfl _ _ 197 rfl 0 244 i0 _ 3 24 Tryz.underlying197 hi0 hz0 hz1 hz2 rfl (by omega) (.slice A1 n1 c1) n1 _ rfl HOb.out ⟨w2.heap.size,0,none⟩ 1 1 (KV (q0,d,su+q2)) rfl rfl (World.news_of_block (cs:=(KV (q0,d,su+q2)).toArray) (t:=244) (fr:=(0,0)) HNWb.out) (Qd7 _) (by omega) (by unfold maxLen;omega) (by omega) (by simp) (w2.heap.size+1) (by simp) ?_);intro gg cap w3 hown hgrow hat hlt3;have zz1:=hgrow.cell hc1 hne;have HOw:=QQ hown;have HGr:=QQ hgrow;have HAt:=QQ hat;clear hown hgrow hat)
       go_roundg (n- (j+1))
       case measure=>omega
       case rel=>
        have hat:=HAt.out;rw[XV]at hat;refine⟨j+1,some ⟨gg,0,none⟩,n1+1,cap,by omega,rfl,by go_num,by rw[HP.out,i2];rfl,by rw[HP.out];rfl,by rw[HP.out];rfl,rfl,by have:=HN1.out;omega,HBb.out.grown HGr.out (by simp;omega) (fun x hx=>(HUp2.out x (by rw[←XV A1 n1 c1];exact hx)).1), ?_,fun g hg=> ?_⟩
        ·rw[HP.out]
         show QY _ _ _ _ _ _ (QW KV (ptO more d su td (q0,q1,q2) out++ [(q0,d,su+q2)]));rw[Qa5];exact HOw.out
        ·cases hg
         rcases hat with h1|h1
         ·exact(HUp2.out _ h1).1
         ·show wo.heap.size≤gg;omega
    ·obtain rfl:n=j:=by omega
     have hltz2: ¬(n:Int)< (n:Int):=by omega
     have etk:lv.take n=lv:=List.take_of_length_le (by rw[HN.out];exact Nat.le_refl _);rw[etk]at hR9 dd0 ss0⊢;have HPt:Hid (J2 lv bu se more=if(ptS lv bu se more lv).told=false then(ptS lv bu se more lv).out++ [(more,(ptS lv bu se more lv).d,(ptS lv bu se more lv).s)]else(ptS lv bu se more lv).out):=QQ rfl;obtain⟨⟨d,su,td,out⟩,E⟩: ∃st,Hid (ptS lv bu se more lv=st):=⟨_,QQ rfl⟩;rw[E.out]at dd0 ss0 hR9 HPt⊢;dsimp only at dd0 ss0 hR9 HPt⊢;obtain⟨w1,rfl⟩: ∃w1:World,w1=wr:=⟨_,rfl⟩;have HR1:=QQ hR9;have HB1:=QQ hB;have HUp:=QQ hup;have hsz1:=hB.size
     cases td with
     |true=>
      rw[if_neg (by simp)]at HPt;have hl:=Qb6 JK (by omega) hR9;have HL:=QQ hl;clear hR9 hB hup hl;go_wp2_with fail
      refine bodyPost_ret (results_tmp rfl _ _ _) rfl ?_;rw[HPt.out,HL.out];exact⟨HB.out.trans (HB1.out.mono HB.out.size),A9,c9,rfl,HR1.out⟩
     |false=>
      rw[if_pos rfl]at HPt;have hl:=Qb6 JK (by omega) hR9;have HL:Hid ((out++ [(more,d,su)]).length=n9+1):=QQ (by simp[hl]);have HOa:=QQ (show World.ownsRow (w1.alloc (.cells #[.int .i64 more,.int .i64 d,.int .i64 su] 244)) 0 244 3 (.slice A9 n9 c9) n9 (QW KV out)from HR1.out.below ((Below.refl _ w1).alloc (Nat.le_refl _) _));have HNWa:=QQ (heap_alloc_new w1 (.cells #[.int .i64 more,.int .i64 d,.int .i64 su] 244));have HBa:=QQ (HB1.out.alloc HB1.out.size (.cells #[.int .i64 more,.int .i64 d,.int .i64 su] 244));clear hR9 hB hup hl;go_wp2_with (at_builtin;(refine wpList_append_lies _ rfl _ _ 197 rfl 0 244 i0 _ 3 24 Tryz.underlying197 hi0 hz0 hz1 hz2 rfl (by omega) (.slice A9 n9 c9) n9 _ rfl HOa.out ⟨w1.heap.size,0,none⟩ 1 1 (KV (more,d,su)) rfl rfl (World.news_of_block (cs:=(KV (more,d,su)).toArray) (t:=244) (fr:=(0,0)) HNWa.out) (Qd7 _) (by omega) (by unfold maxLen;omega) (by omega) (by simp) (w1.heap.size+1) (by simp) ?_);intro gg cap w3 hown hgrow hat hlt3;have HOw:=QQ hown;have HGr:=QQ hgrow;have HAt:=QQ hat;clear hown hgrow hat)
      refine bodyPost_ret (results_tmp rfl _ _ _) rfl ?_;rw[HPt.out,HL.out];refine⟨HB.out.trans ((HBa.out.grown HGr.out (by simp;omega) (fun x hx=>HUp.out x (by rw[←XV A9 n9 c9];exact hx))).mono HB.out.size),_,_,rfl, ?_⟩;rw[Qa5];exact HOw.out
end Go.Proofs.YtnlngicnfegjgaaGreatDoor
