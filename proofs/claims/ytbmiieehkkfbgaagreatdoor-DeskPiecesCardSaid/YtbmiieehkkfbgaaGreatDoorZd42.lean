/- Contracts and walks that the law's proof needs. -/
import Derived.WalkKit
import Derived.WalkLawsBesides
import Derived.WalkSpells
import Derived.StillTailTactics
import Derived.Deep.QuietTactic
import Derived.BigQuiet
import Derived.Deep.DeepCutAuto
import Derived.Deep.CutBlock
import Derived.Test.YtbmiieehkkfbgaaGreatDoorZd38
import Derived.Test.YtbmiieehkkfbgaaGreatDoorZd39
import Derived.Test.YtbmiieehkkfbgaaGreatDoorZd40
import Derived.Test.YtbmiieehkkfbgaaGreatDoorZd7
import Derived.Test.YtbmiieehkkfbgaaGreatDoorZd41
import Derived.Defers
import Derived.Recover
set_option linter.unusedVariables false
set_option maxRecDepth 100000
set_option maxHeartbeats 8000000
namespace Go.Proofs.YtbmiieehkkfbgaaGreatDoor
open Go.RowKit
theorem Ke7 {w:World} {e:Nat} {F:Nat→Prop} {m:VQ} (h:YQ w e F m) (hI:Qn2 m) (o:QX) (hs:UQ o.side) (hf:Qf4 o) (hq:0≤o.qty):
  Calls Tryz.prog 117 #[.pointer (some ⟨e,0,none⟩),KJ o] w fun ev w'=>ZY w w' e F (fun Fs=>Fs=(Q6 m o).fills) (Z8 m o) ev:=by
 obtain⟨oi,os,ok,op,oq⟩:=o
 rcases hs with e1|e1
 ·have e2:os=1:=e1
  subst e2;exact Za3 h hI oi ok op oq hf hq
 ·have e2:os=2:=e1
  subst e2;exact Za4 h hI oi ok op oq hf hq
theorem Zg5 {w:World} {r c:Nat} {es:List MapEntry} (h:J2 w r es c) (hK:Qn7 es) (k:Int) (v:Value) (hn:V7 es k=none):
  ∃w' es' c',(Instr.mapUpdate 124 (.map (some r)) (.int .i64 k) v).run Tryz.prog w= .ok () w'∧J2 w' r es' c'∧Qn7 es'∧Qf5 w w' r∧ ∀j,V7 es' j=if j=k then some v else V7 es j:=by
 obtain⟨x,hx,hl,hs,hno⟩:=Qe7 es k 0 hK
 have hx0:x=none:=by
  rw[hn]at hl
  cases x with
  |none=>rfl
  |some y=>simp at hl
 subst hx0
 refine⟨_,_,_,Qf7 Tryz.underlying124 Tryz.underlying3 U1 h _ v hx,h.set _ _, ?_,U0 _ _ _, ?_⟩
 ·intro e he
  rcases List.mem_append.1 he with he|he
  ·exact hK e he
  ·obtain rfl:e=_:=by simpa using he
   exact⟨k,rfl⟩
 ·intro j
  rw[Jg4 es _ k rfl (hno rfl) hK j];unfold V1
  rfl
theorem Zg6 {w:World} {r c:Nat} {es:List MapEntry} (h:J2 w r es c) (hK:Qn7 es) (k:Int) {b:Bool} (hb:V7 es k=if b=true then some (.bool true)else none):
  (Instr.lookup 124 (.map (some r)) (.int .i64 k) false).run Tryz.prog w= .ok (.bool b) w:=by
 obtain⟨x,hx,hl,-,-⟩:=Qe7 es k 0 hK
 rw[Qh4 (z:= .bool false) Tryz.underlying124 Tryz.underlying3 U1 h _ (by kernel_rfl) false x hx,hl,hb]
 cases b<;>rfl
theorem Qn2.taken {m:VQ} (h:Qn2 m) (o:QX):Qn2 (OK m o):=⟨h.tab,h.tk,h.la,h.now,h.lng,h.pk,h.pkn⟩
theorem Kj6 {o:QX}:Xl4 o=true↔(o.side≠1∧o.side≠2∨o.kind<1∨4<o.kind∨o.id<1):=by unfold Xl4;simp
theorem Kq9 {oi os ok op oq:Int} (h:Xl4 ⟨oi,os,ok,op,oq⟩=false):UQ os:=by
 have h1: ¬(os≠1∧os≠2∨ok<1∨4<ok∨oi<1):=fun x=>by
  have h2:=(Kj6 (o:=⟨oi,os,ok,op,oq⟩)).2 x;rw[h]at h2;exact Bool.noConfusion h2
 unfold UQ
 omega
theorem Xa3 {w:World} {e:Nat} {F:Nat→Prop} {m:VQ} (h:YQ w e F m) (hI:Qn2 m) (o:QX) (hf:Qf4 o):
  Calls Tryz.prog 77 #[.pointer (some ⟨e,0,none⟩),KJ o] w fun ev w'=>Q2 w w' e F (fun Fs=>Fs=Qg4 m o) (IZ m o) (IK m o) ev:=by
 have hE:=h
 obtain⟨cs,tb,bb,bk,im,T,tc,Al,lc,lv,bu,se,Ap,pc,es,mc,G,own,hM,hF⟩:=h
 obtain⟨pp,hpp⟩: ∃p,(JJ o).price=p:=⟨_,rfl⟩
 obtain⟨bd,hbd⟩: ∃b,Xl4 o=b:=⟨_,rfl⟩
 obtain⟨rb,hrb⟩: ∃b,Qr3 o=b:=⟨_,rfl⟩
 obtain⟨tb_,htb⟩: ∃b,Qj7 m.ph o.kind=b:=⟨_,rfl⟩
 obtain⟨kn,hkn⟩: ∃b,decide (o.id∈m.ids)=b:=⟨_,rfl⟩
 have HPr:Hid (JJ o=⟨o.id,o.side,o.kind,pp,o.qty⟩):=QQ (by rw[←hpp];rfl)
 have HBd:=QQ hbd
 have HRb:Hid (J4 pp o.qty=rb):=QQ (by rw[←hpp];exact hrb)
 have HRb0:=QQ hrb
 have HTb:=QQ htb
 have HKn:=QQ hkn
 have HFit:Hid (Qf4 (JJ o)):=QQ (by
  refine⟨hf.1,hf.2.1,hf.2.2.1, ?_,hf.2.2.2.2⟩;show KZ (if o.kind=2 then 1 else o.price)
  split
  ·unfold KZ;omega
  ·exact hf.2.2.2.1)
 have HE:=QQ hE
 have HF:=QQ hF
 have HI:=QQ hI
 have HM:=QQ hM
 have HPp:Hid ((if o.kind=2 then 1 else o.price)=pp):=QQ hpp
 obtain⟨X,eX⟩: ∃g,w.heap.size=g:=⟨_,rfl⟩
 have HX0:=QQ eX
 obtain⟨oi,os,ok,op,oq⟩:=o
 dsimp only at HPr HRb HPp HTb HKn
 have hb0:Below w.heap.size w (w.alloc (.cells #[.int .i64 oi,.int .i64 os,.int .i64 ok,.int .i64 op,.int .i64 oq] 117)):=(Below.refl _ w).alloc (Nat.le_refl _) _
 have hbx:=QJ.new w 117 #[.int .i64 oi,.int .i64 os,.int .i64 ok,.int .i64 op,.int .i64 oq]
 obtain⟨w0,ew0⟩: ∃W,w.alloc (.cells #[.int .i64 oi,.int .i64 os,.int .i64 ok,.int .i64 op,.int .i64 oq] 117)=W:=⟨_,rfl⟩
 rw[ew0]at hb0 hbx
 rw[eX]at hbx
 have HB0:=QQ hb0
 have HX:=QQ hbx
 obtain⟨x0,x1,x2,x3,x4⟩:=U9 hbx
 have xf:=QJ.frozen hbx 3
 unfold KJ
 dsimp only
 clear hE hM hF hI hf hpp hbd hrb htb hkn hb0 hbx
 go_enter Tryz.func77,Tryz.ntmps77
 go_upto_region 1 with fail
 try rw[ew0]
 try rw[eX]
 clear ew0 eX
 go_upto_if 8 with fail
 go_cut [] (fun wx=>Hid (Below w.heap.size w wx∧QJ wx X 117 #[.int .i64 oi,.int .i64 os,.int .i64 ok,.int .i64 pp,.int .i64 oq]))
 case first=>
  by_cases hk:ok=2
  ·have d1:=Z2 hk
   have e1:pp=1:=by rw[←HPp.out,if_pos hk]
   have H1:=QQ e1;clear hk e1;go_wp2_with fail
   go_meet;rw[H1.out];exact QQ ⟨HB0.out.trans ((QK.set_ w0 ⟨X,3,none⟩ (.int .i64 1)).below (fun i e=>by have h1:=HX0.out;have h2:i=X:=e;omega) HB0.out.size),QJ.set_ HX.out 3 (.int .i64 1)⟩
  ·have d1:=YW hk
   have e1:pp=op:=by rw[←HPp.out,if_neg hk]
   have H1:=QQ e1;clear hk e1;go_wp2_with fail
   go_meet;rw[H1.out];exact QQ ⟨HB0.out,HX.out⟩
 case rest=>
  obtain⟨hb1,hx1⟩:=hcut.out;have HB1:=QQ hb1;have HX1:=QQ hx1;clear x0 x1 x2 x3 x4 xf HB0 HX hcut hb1;obtain⟨x0,x1,x2,x3,x4⟩:=U9 hx1;clear hx1;obtain⟨w1,ew1⟩: ∃W,wc=W:=⟨_,rfl⟩;rw[ew1]at HB1 HX1 x0 x1 x2 x3 x4⊢;clear ew1;go_upto_region 3 with fail
  go_cut [10] (fun s10 wx=>s10= .bool bd∧wx=w1)
  case first=>
   have key: ∀b:Bool,(b=true↔(os≠1∧os≠2∨ok<1∨4<ok∨oi<1))→b=bd:=fun b hb=>by
    rw[←HBd.out];exact Bool.eq_iff_iff.2 (hb.trans (Kj6 (o:=⟨oi,os,ok,op,oq⟩)).symm)
   by_cases hs1:os=1
   ·have t1:=Jk1 hs1
    by_cases hk1:ok<1
    ·have t2:=J0 hk1
     have HK:=QQ (key true (by simp;omega));clear key hs1 hk1;go_wp2_with fail
     go_meet;exact⟨congrArg Value.bool HK.out,rfl⟩
    ·have t2:=OY hk1
     by_cases hk4:ok>4
     ·have t3:=J0 hk4
      have HK:=QQ (key true (by simp;omega));clear key hs1 hk1 hk4;go_wp2_with fail
      go_meet;exact⟨congrArg Value.bool HK.out,rfl⟩
     ·have t3:=OY hk4
      by_cases hi1:oi<1
      ·have t4:=J0 hi1
       have HK:=QQ (key true (by simp;omega));clear key hs1 hk1 hk4 hi1;go_wp2_with fail
       go_meet;exact⟨congrArg Value.bool HK.out,rfl⟩
      ·have t4:=OY hi1
       have HK:=QQ (key false (by simp;omega));clear key hs1 hk1 hk4 hi1;go_wp2_with fail
       go_meet;exact⟨congrArg Value.bool HK.out,rfl⟩
   ·have t1:=Je0 hs1
    by_cases hs2:os=2
    ·have t5:=Jk1 hs2
     by_cases hk1:ok<1
     ·have t2:=J0 hk1
      have HK:=QQ (key true (by simp;omega));clear key hs1 hs2 hk1;go_wp2_with fail
      go_meet;exact⟨congrArg Value.bool HK.out,rfl⟩
     ·have t2:=OY hk1
      by_cases hk4:ok>4
      ·have t3:=J0 hk4
       have HK:=QQ (key true (by simp;omega));clear key hs1 hs2 hk1 hk4;go_wp2_with fail
       go_meet;exact⟨congrArg Value.bool HK.out,rfl⟩
      ·have t3:=OY hk4
       by_cases hi1:oi<1
       ·have t4:=J0 hi1
        have HK:=QQ (key true (by simp;omega));clear key hs1 hs2 hk1 hk4 hi1;go_wp2_with fail
        go_meet;exact⟨congrArg Value.bool HK.out,rfl⟩
       ·have t4:=OY hi1
        have HK:=QQ (key false (by simp;omega));clear key hs1 hs2 hk1 hk4 hi1;go_wp2_with fail
        go_meet;exact⟨congrArg Value.bool HK.out,rfl⟩
    ·have t5:=Je0 hs2
     have HK:=QQ (key true (by simp;omega));clear key hs1 hs2;go_wp2_with fail
     go_meet;exact⟨congrArg Value.bool HK.out,rfl⟩
  case rest=>
   obtain⟨rfl,rfl⟩:=hcut
   cases bd with
   |true=>
    have HS:Hid (IK m ⟨oi,os,ok,op,oq⟩=1):=QQ (by unfold IK;rw[if_pos HBd.out]);have e1:VZ 1= .iface 45 (.int .i64 1):=rfl;go_wp2_with fail
    go_ret2;unfold IZ Qg4;rw[HS.out,if_neg (by decide),if_neg (by decide)];exact Q2.none_ (ZZ.same HE.out HB1.out) rfl
   |false=>
    go_wp2_with fail
    refine(U2 _ _ _).mono ?_;rintro ev w2 ⟨rfl,hb2⟩;rw[HRb.out];have HB2:=QQ (HB1.out.trans (hb2.mono HB1.out.size));have HX2:=QQ (QJ.keep HX1.out hb2);clear x0 x1 x2 x3 x4 hb2 HB1 HX1
    cases rb with
    |false=>
     have HS:Hid (IK m ⟨oi,os,ok,op,oq⟩=2):=QQ (by unfold IK;rw[if_neg (by rw[HBd.out];decide),if_pos HRb0.out]);go_wp2_with fail
     go_ret2;unfold IZ Qg4;rw[HS.out,if_neg (by decide),if_neg (by decide)];exact Q2.none_ (ZZ.same HE.out HB2.out) rfl
    |true=>
     have hM2:=HM.out.below HB2.out;have c14:=hM2.cell hM2.ec.c14;have HM2:=QQ hM2;obtain⟨x0,x1,x2,x3,x4⟩:=U9 HX2.out;obtain⟨ph,hph⟩: ∃p,m.ph=p:=⟨_,rfl⟩;rw[hph]at c14 HTb;have HPh:=QQ hph;have hpt: ∀W,Calls Tryz.prog 114 #[.int .i64 ph,.int .i64 ok] W fun e w'=>e= .returned (.bool tb_)∧w'=W:=fun W=>(Kk5 ph ok W).mono (fun _ _ ⟨h1,h2⟩=>⟨h1.trans (by rw[HTb.out]),h2.symm⟩)
     have HPt:=QQ hpt;clear hpt;clear hM2 hph;go_wp2_with fail
     go_quiet ((go_at_call 114;exact Calls.quiet_of_same (HPt.out _)))
     have hbq:=QY (Below.refl w2.heap.size w2) nq;have HB3:=QQ (HB2.out.trans (hbq.mono HB2.out.size));have HX3:=QQ (QJ.drewN HX2.out nq);have HM3:=QQ (HM2.out.below hbq);clear hbq HPt c14 x0 x1 x2 x3 x4;generalize w2.drewN nq=w3 at HB3 HX3 HM3⊢;clear HB2 HX2 HM2
     cases tb_ with
     |false=>
      have HS:Hid (IK m ⟨oi,os,ok,op,oq⟩=6):=QQ (by unfold IK;rw[if_neg (by rw[HBd.out];decide),if_neg (by rw[HRb0.out];decide),if_pos (by rw[HPh.out];exact HTb.out)]);go_wp2_with fail
      go_ret2;unfold IZ Qg4;rw[HS.out,if_neg (by decide),if_neg (by decide)];exact Q2.none_ (ZZ.same HE.out HB3.out) rfl
     |true=>
      obtain⟨x0,x1,x2,x3,x4⟩:=U9 HX3.out;have c13:=HM3.out.cell HM3.out.ec.c13;have hlk:=Zg6 (w:=w3.drew) (HM3.out.below (Below.drew (Below.refl _ w3))).map_ HM3.out.keys oi (b:=kn) (by rw[HM3.out.ids,←HKn.out];simp);go_wp2_with fail
      refine XY (fun t=> [].contains t) (fun W=>W.cell? ⟨e,13,none⟩=some (.map (some im))∧W.cell? ⟨X,0,none⟩=some (.int .i64 oi)∧(Instr.lookup 124 (.map (some im)) (.int .i64 oi) false).run Tryz.prog W= .ok (.bool kn) W) (by kernel_rfl) ⟨c13,x0,hlk⟩ (fun hS0=> ?_);refine tM 0 (.pointer (some ⟨e,0,none⟩)) ?_;refine tM 1 (.pointer (some ⟨e,0,none⟩)) ?_;refine tM 2 (.pointer (some ⟨e,13,none⟩)) ?_;refine tM 3 (.map (some im)) ?_;refine tM 4 (.pointer (some ⟨X,0,none⟩)) ?_;refine tM 5 (.int .i64 oi) ?_;refine tM 6 (.bool kn) ?_;refine tM 7 (.bool kn) ?_;refine VJ (by kernel_rfl) ?_ _;clear hS0;have hbq:=Below.drew (Below.refl w3.heap.size w3);have HB4:=QQ (HB3.out.trans (hbq.mono HB3.out.size));have HX4:=QQ (QJ.drew HX3.out);have HM4:=QQ (HM3.out.below hbq);clear hbq c13 hlk x0 x1 x2 x3 x4;generalize w3.drew=w4 at HB4 HX4 HM4⊢;clear HB3 HX3 HM3
      cases kn with
      |true=>
       have HS:Hid (IK m ⟨oi,os,ok,op,oq⟩=9):=QQ (by unfold IK;rw[if_neg (by rw[HBd.out];decide),if_neg (by rw[HRb0.out];decide),if_neg (by rw[HPh.out,show Qj7 ph (QX.mk oi os ok op oq).kind=true from HTb.out];decide),if_pos (of_decide_eq_true HKn.out)]);go_wp2_with fail
       go_ret2;unfold IZ Qg4;rw[HS.out,if_neg (by decide),if_neg (by decide)];exact Q2.none_ (ZZ.same HE.out HB4.out) rfl
      |false=>
       have c8:=HM4.out.cell HM4.out.ec.c8;have c12:=HM4.out.cell HM4.out.ec.c12;obtain⟨pn,hpn⟩: ∃n,m.pk.length=n:=⟨_,rfl⟩;obtain⟨ln,hln⟩: ∃n,m.L1.length+m.L2.length=n:=⟨_,rfl⟩;have hmany: ∀W,Below w4.heap.size w4 W→Calls Tryz.prog 115 #[.pointer (some ⟨bk,0,none⟩)] W fun e w'=>e= .returned (.int .i64 (ln:Nat))∧w'=W:=fun W hW=>(Xk1 W bk G m.L1 m.L2 (HM4.out.below hW).book).mono (fun _ _ ⟨h1,h2⟩=>⟨h1.trans (by rw[hln]),h2.symm⟩)
       have hfew:ln≤100:=by
        have h1:=HM4.out.book.lists.cnt;rw[List.length_append]at h1;omega
       have hpkn:pn≤100000:=by have:=HI.out.pkn;omega
       rw[hpn]at c12;have HMany:=QQ hmany;have HPn:=QQ hpn;have HLn:=QQ hln;clear hmany hpn hln;go_wp2_with fail
       go_quiet ((go_at_call 115;exact Calls.quiet_of_same (HMany.out _ (by first|exact Below.refl _ _|exact Below.drew (Below.refl _ _)|exact QY (Below.refl _ _) _))))
       have hbq:=QY (Below.refl w4.heap.size w4) nq;have HB5:=QQ (HB4.out.trans (hbq.mono HB4.out.size));have HX5:=QQ (QJ.drewN HX4.out nq);have HM5:=QQ (HM4.out.below hbq);clear hbq c8 c12 HMany;generalize w4.drewN nq=w5 at HB5 HX5 HM5⊢;clear HB4 HX4 HM4;have HErr:Hid (IK m ⟨oi,os,ok,op,oq⟩=if 100≤m.L1.length+m.L2.length+m.pk.length then 12 else 0):=QQ (by unfold IK;rw[if_neg (by rw[HBd.out];decide),if_neg (by rw[HRb0.out];decide),if_neg (by rw[HPh.out,show Qj7 ph (QX.mk oi os ok op oq).kind=true from HTb.out];decide),if_neg (of_decide_eq_false HKn.out)])
       by_cases hfull:(ln:Int)+ (pn:Int)≥100
       ·have d1:=J0 hfull
        have HS:Hid (IK m ⟨oi,os,ok,op,oq⟩=12):=QQ (by rw[HErr.out,if_pos (by rw[HLn.out,HPn.out];omega)]);go_wp2_with fail
        go_ret2;unfold IZ Qg4;rw[HS.out,if_neg (by decide),if_neg (by decide)];exact Q2.none_ (ZZ.same HE.out HB5.out) rfl
       ·have d1:=OY hfull
        have HS:Hid (IK m ⟨oi,os,ok,op,oq⟩=0):=QQ (by rw[HErr.out,if_neg (by rw[HLn.out,HPn.out];omega)]);have hS1:IZ m ⟨oi,os,ok,op,oq⟩=Qh6 (OK m ⟨oi,os,ok,pp,oq⟩) ⟨oi,os,ok,pp,oq⟩:=by unfold IZ;rw[if_pos HS.out,HPr.out]
        have hF1:Qg4 m ⟨oi,os,ok,op,oq⟩=Ql3 (OK m ⟨oi,os,ok,pp,oq⟩) ⟨oi,os,ok,pp,oq⟩:=by unfold Qg4;rw[if_pos HS.out,HPr.out]
        have HE1:=QQ (And.intro HS.out (And.intro hS1 hF1));have hM5:=HM5.out.below (Below.drew (Below.refl _ w5));obtain⟨w6,es',mc',hup,hmp,hks,htu,hlk⟩:=Zg5 hM5.map_ hM5.keys oi (.bool true) (by rw[hM5.ids,if_neg (of_decide_eq_false HKn.out)]);obtain⟨hM6,ho6⟩:=hM5.mapTo htu hmp hks (id:=oi) (fun k=>by
         rw[hlk k,hM5.ids]
         by_cases e1:k=oi
         ·rw[if_pos e1,if_pos (by rw[e1];simp)]
         ·rw[if_neg e1]
          by_cases e2:k∈m.ids
          ·rw[if_pos e2,if_pos (by simp[e2])]
          ·rw[if_neg e2,if_neg (by simp[e1,e2])])
        have hXo: ∀k,¬own X k:=fun k hk=>by have:=HM.out.ok.lt X k hk;have:=HX0.out;omega
        have hX6:=QJ.keeps (QJ.drew HX5.out) ho6.1 (fun⟨k,hk⟩=>hXo k hk);have ho06:VW w w6 own own:=((VW.of_below HB5.out).trans (VW.of_below (Below.drew (Below.refl _ w5)))).trans ho6;have c13:=HM5.out.cell HM5.out.ec.c13;have x0:=(U9 HX5.out).1;have HX6:=QQ hX6;have HM6:=QQ hM6;have HO6:=QQ ho06;have HXo:=QQ hXo;clear hM5 hmp hks htu hlk hM6 ho6 hX6 ho06 hXo hS1 hF1;go_upto_region 13 with fail
        go_cut [] (fun wx=>wx=w6)
        case first=>
         clear d1 hfull
         go_still_tail 6,(by kernel_rfl)
         change wpList _ _ _ _ _ w5.drew;go_wp2_with fail
         go_meet
         rfl
        case rest=>
         subst hcut;clear hup c13 x0 HX5 HM5 HB5 d1 hfull;obtain⟨x0,x1,x2,x3,x4⟩:=U9 HX6.out;have c14:=HM6.out.cell HM6.out.ec.c14;have c12:=HM6.out.cell HM6.out.ec.c12;have e14:(Value.int .i64 ({m with ids:=m.ids++ [oi]}:VQ).ph)= .int .i64 ph:=by rw[←HPh.out]
         have e12:(Value.slice Ap ({m with ids:=m.ids++ [oi]}:VQ).pk.length pc)= .slice Ap pn pc:=by rw[←HPn.out]
         rw[e14]at c14;rw[e12]at c12;have HAt:=QQ (UZ.at_ (m:=OK m ⟨oi,os,ok,pp,oq⟩) HM6.out (fun _ _ _=>rfl));have HBs:=QQ (HO6.out.bstep HF.out);obtain⟨F6,hF6⟩: ∃S,(fun i=> ∃k,own i k)=S:=⟨_,rfl⟩;rw[hF6]at HAt HBs;have HF6:=QQ hF6;clear e14 e12 hF6
         by_cases hpark:ok=4∧ph≠5
         ·obtain⟨hk4,hp5⟩:=hpark
          have d4:=Z2 hk4;have d5:=Je0 hp5;have HR1:Hid (Qh6 (OK m ⟨oi,os,ok,pp,oq⟩) ⟨oi,os,ok,pp,oq⟩= {OK m ⟨oi,os,ok,pp,oq⟩with pk:=m.pk++ [⟨oi,os,ok,pp,oq⟩]}∧Ql3 (OK m ⟨oi,os,ok,pp,oq⟩) ⟨oi,os,ok,pp,oq⟩= []):=by
           refine QQ ⟨?_, ?_⟩
           ·unfold Qh6;rw[if_pos ⟨hk4,by show m.ph≠5;rw[HPh.out];exact hp5⟩];rfl
           ·unfold Ql3;rw[if_pos ⟨hk4,by show m.ph≠5;rw[HPh.out];exact hp5⟩]
          clear hk4 hp5;go_wp2_with fail
          obtain⟨i0,hi0,hz0,hz1,hz2⟩:=info_parts Qu0;have hrow:QW wc.drew Ap pn pc 117 5 (JQ I6 m.pk):=by
           have h1:=(HM6.out.below (Below.drew (Below.refl _ wc))).park;rw[←HPn.out];exact h1
          have HO1:=QQ (World.ownsRow.alloc (show wc.drew.ownsRow 0 117 5 (.slice Ap pn pc) pn (JQ I6 m.pk)from hrow) (.cells #[.int .i64 oi,.int .i64 os,.int .i64 ok,.int .i64 pp,.int .i64 oq] 117));clear hrow;refine XY (fun t=> [10].contains t) (fun W=>W.cell? ⟨e,12,none⟩=some (.slice Ap pn pc)∧W.cell? ⟨X,0,none⟩=some (.int .i64 oi)∧W.cell? ⟨X,1,none⟩=some (.int .i64 os)∧W.cell? ⟨X,2,none⟩=some (.int .i64 ok)∧W.cell? ⟨X,3,none⟩=some (.int .i64 pp)∧W.cell? ⟨X,4,none⟩=some (.int .i64 oq)) (by kernel_rfl) ⟨c12,x0,x1,x2,x3,x4⟩ (fun hS0=> ?_);refine tM 0 (.pointer (some ⟨e,0,none⟩)) ?_;refine tM 1 (.pointer (some ⟨e,0,none⟩)) ?_;refine tM 2 (.pointer (some ⟨e,0,none⟩)) ?_;refine tM 3 (.pointer (some ⟨e,12,none⟩)) ?_;refine tM 4 (.slice Ap pn pc) ?_;refine tM 5 (.agg #[.int .i64 oi,.int .i64 os,.int .i64 ok,.int .i64 pp,.int .i64 oq]) ?_;refine oM 6 fun K1 hK1=> ?_
          go_simp;have hqa:Below wc.heap.size wc (wc.drew.alloc (.cells #[.int .i64 oi,.int .i64 os,.int .i64 ok,.int .i64 pp,.int .i64 oq] 117)):=(Below.drew (Below.refl _ wc)).alloc (Nat.le_refl _) _;have hSa:(fun W:World=>W.cell? ⟨e,12,none⟩=some (.slice Ap pn pc)∧W.cell? ⟨X,0,none⟩=some (.int .i64 oi)∧W.cell? ⟨X,1,none⟩=some (.int .i64 os)∧W.cell? ⟨X,2,none⟩=some (.int .i64 ok)∧W.cell? ⟨X,3,none⟩=some (.int .i64 pp)∧W.cell? ⟨X,4,none⟩=some (.int .i64 oq)) (wc.drew.alloc (.cells #[.int .i64 oi,.int .i64 os,.int .i64 ok,.int .i64 pp,.int .i64 oq] 117)):=⟨QV c12 hqa,QV x0 hqa,QV x1 hqa,QV x2 hqa,QV x3 hqa,QV x4 hqa⟩;refine hK1 _ _ (fun _=>hSa) ?_;clear hK1 hqa hS0;refine oM 7 fun K2 hK2=> ?_
          refine(if_pos (by rfl)).mpr ?_;refine wp_append_lies _ _ _ 78 rfl 0 117 i0 _ 5 40 Tryz.underlying78 hi0 hz0 hz1 hz2 rfl (by omega) (.slice Ap pn pc) pn _ rfl HO1.out ⟨wc.heap.size,0,none⟩ 1 1 [.int .i64 oi,.int .i64 os,.int .i64 ok,.int .i64 pp,.int .i64 oq] rfl rfl (World.news_of_block (cs:= #[.int .i64 oi,.int .i64 os,.int .i64 ok,.int .i64 pp,.int .i64 oq]) (t:=117) (fr:=(0,0)) (heap_alloc_new wc.drew _)) (by simp[Value.oneCell']) (by omega) (by unfold maxLen;omega) (by omega) (by simp) (wc.heap.size+1) (by simp) ?_;intro gg cap w8 hown hgrow hat8 hlt8;have hk8:=Ql2 (w2:=wc.drew) (o:= .cells #[.int .i64 oi,.int .i64 os,.int .i64 ok,.int .i64 pp,.int .i64 oq] 117) (show(wc.drew.alloc (.cells #[.int .i64 oi,.int .i64 os,.int .i64 ok,.int .i64 pp,.int .i64 oq] 117)).grownBy w8 (Value.slice Ap pn pc).ownBlock from⟨hgrow.os,hgrow.tape,hgrow.output,hgrow.size,hgrow.block⟩);rw[JW]at hk8 hat8;have HK8:=QQ hk8;have HAt8:=QQ hat8;have HOwn8:=QQ hown;have hEk:QJ w8 e 126 cs:=QJ.keeps (HM6.out.below (Below.drew (Below.refl _ wc))).ind.blk hk8 (fun x=>absurd (HM6.out.ok.uni _ _ _ (HM6.out.op _ x) HM6.out.oe) (by decide));have hXk:=QJ.keeps (QJ.drew HX6.out) hk8 (fun x=>HXo.out _ (HM6.out.op _ x));have c128:w8.cell? ⟨e,12,none⟩=some (.slice Ap pn pc):=(QJ.cell hEk 12).trans (HM6.out.ec.c12.trans (by rw[←HPn.out]));have f12:=QJ.frozen hEk 12;have hS8:(fun W:World=>W.cell? ⟨e,12,none⟩=some (.slice Ap pn pc)∧W.cell? ⟨X,0,none⟩=some (.int .i64 oi)∧W.cell? ⟨X,1,none⟩=some (.int .i64 os)∧W.cell? ⟨X,2,none⟩=some (.int .i64 ok)∧W.cell? ⟨X,3,none⟩=some (.int .i64 pp)∧W.cell? ⟨X,4,none⟩=some (.int .i64 oq)) w8:=⟨c128,(U9 hXk).1,(U9 hXk).2.1,(U9 hXk).2.2.1,(U9 hXk).2.2.2.1,(U9 hXk).2.2.2.2⟩;refine hK2 _ _ (fun _=>hS8) ?_;clear hown hgrow hat8 hk8 hEk hXk HO1 hi0 hz0 hz1 hz2 hK2 hSa c12 x0 x1 x2 x3 x4;refine oM 8 fun K4 hK4=> ?_
          go_simp;refine hK4 _ _ (fun _=>hS8) ?_;clear hK4;refine oM 9 fun K5 hK5=> ?_
          go_simp;refine hK5 _ _ (fun _=>hS8) ?_;clear hK5;refine oM 10 fun K3 hK3=> ?_
          refine(if_pos (by rfl)).mpr ?_;go_simp;refine hK3 _ _ (fun e=>absurd e (by decide)) ?_;clear hK3 c128 f12 hS8;refine VJ (by kernel_rfl) ?_ _;go_wp2_with fail
          go_ret2;have hl:(m.pk++ [(⟨oi,os,ok,pp,oq⟩:QX)]).length=pn+1:=by rw[List.length_append,HPn.out];rfl
          obtain⟨own',hM9,ho9⟩:=(HM6.out.below (Below.drew (Below.refl _ wc))).pkTo (P':=m.pk++ [⟨oi,os,ok,pp,oq⟩]) (Ap':=some ⟨gg,0,none⟩) (pc':=cap) HK8.out (by
           show w8.ownsRow 0 117 5 _ _ _;rw[hl,Y7];exact HOwn8.out) (fun i hi=>by
            have e1:gg=i:=by simpa [QZ]using hi
            subst e1;rcases HAt8.out with x|x
            ·exact .inl x
            ·right;rw[x];show wc.heap.size≤_;omega)
          rw[hl]at hM9 ho9;rw[HE1.out.1,HE1.out.2.1,HE1.out.2.2,HR1.out.1,HR1.out.2];exact Q2.none_ (ZZ.from_ HBs.out ⟨_,UZ.at_ (m:= {OK m ⟨oi,os,ok,pp,oq⟩with pk:=m.pk++ [⟨oi,os,ok,pp,oq⟩]}) hM9 (fun _ _ _=>rfl),((VW.of_below (Below.drew (Below.refl _ wc))).trans ho9).bstep (fun i=>by rw[←HF6.out])⟩) rfl
         ·have HNp:=QQ hpark
          have HR1:Hid (¬(ok=4∧ph≠5)):=QQ hpark;clear hpark;have d45:((ok ==4)=false)∨((ok ==4)=true∧(ph != 5)=false):=by
           by_cases h4:ok=4
           ·exact .inr ⟨Z2 h4,Jk1 (Decidable.byContradiction fun h=>HNp.out ⟨h4,h⟩)⟩
           ·exact .inl (YW h4)
          have HD:=QQ d45;clear d45;have HIn:=QQ (HI.out.taken ⟨oi,os,ok,pp,oq⟩)
          by_cases hp3:ph=3
          ·have d3:=Jk1 hp3
           have HP3:=QQ hp3;clear hp3;have hq0:0≤oq:=by
            have h1:=HRb.out;rw[V3]at h1;omega
           have hs12:UQ os:=Kq9 HBd.out;have hmt:=Ke7 HAt.out HIn.out ⟨oi,os,ok,pp,oq⟩ hs12 (by have:=HFit.out;rw[HPr.out]at this;exact this) hq0;unfold KJ at hmt;dsimp only at hmt;have HMt:=QQ hmt;have HR2:Hid (Qh6 (OK m ⟨oi,os,ok,pp,oq⟩) ⟨oi,os,ok,pp,oq⟩=Z8 (OK m ⟨oi,os,ok,pp,oq⟩) ⟨oi,os,ok,pp,oq⟩∧Ql3 (OK m ⟨oi,os,ok,pp,oq⟩) ⟨oi,os,ok,pp,oq⟩=(Q6 (OK m ⟨oi,os,ok,pp,oq⟩) ⟨oi,os,ok,pp,oq⟩).fills):=by
            have h1: ¬((QX.mk oi os ok pp oq).kind=4∧(OK m ⟨oi,os,ok,pp,oq⟩).ph≠5):=fun h=>HR1.out ⟨h.1,fun h5=>h.2 (HPh.out.trans h5)⟩
            have h2: ¬((OK m ⟨oi,os,ok,pp,oq⟩).ph≠3):=fun h=>h (HPh.out.trans HP3.out)
            refine QQ ⟨?_, ?_⟩
            ·unfold Qh6;rw[if_neg h1,if_neg h2]
            ·unfold Ql3;rw[if_neg h1,if_neg h2]
           clear hmt hs12 hq0;rcases HD.out with d4|⟨d4,d5⟩
           all_goals
            go_wp2_with fail
            refine HMt.out.mono ?_;rintro ev w9 hft;obtain⟨A9,c9,Fs9,rfl,hun9,hro9,hne9,hre9⟩:=hft;have HFt:=QQ (show ZY wc w9 e F6 (fun Fs=>Fs=(Q6 (OK m ⟨oi,os,ok,pp,oq⟩) ⟨oi,os,ok,pp,oq⟩).fills) (Z8 (OK m ⟨oi,os,ok,pp,oq⟩) ⟨oi,os,ok,pp,oq⟩) (.returned (.slice A9 (List.length Fs9) c9))from⟨A9,c9,Fs9,rfl,hun9,hro9,hne9,hre9⟩);clear hun9 hro9 hne9 hre9;go_wp2_with fail
            go_ret2;rw[HE1.out.1,HE1.out.2.1,HE1.out.2.2,HR2.out.1,HR2.out.2];exact(ZY.from_ HBs.out HFt.out).told 0
          ·have d3:=Je0 hp3
           have HP3:=QQ hp3;clear hp3;have hli:=Jm0 wc e F6 _ HAt.out ⟨oi,os,ok,pp,oq⟩ (by have:=HFit.out;rw[HPr.out]at this;exact this);unfold KJ at hli;dsimp only at hli;have HLi:=QQ hli;have HR2:Hid (Qh6 (OK m ⟨oi,os,ok,pp,oq⟩) ⟨oi,os,ok,pp,oq⟩=Qf3 (OK m ⟨oi,os,ok,pp,oq⟩) ⟨oi,os,ok,pp,oq⟩∧Ql3 (OK m ⟨oi,os,ok,pp,oq⟩) ⟨oi,os,ok,pp,oq⟩= []):=by
            have h1: ¬((QX.mk oi os ok pp oq).kind=4∧(OK m ⟨oi,os,ok,pp,oq⟩).ph≠5):=fun h=>HR1.out ⟨h.1,fun h5=>h.2 (HPh.out.trans h5)⟩
            have h2:((OK m ⟨oi,os,ok,pp,oq⟩).ph≠3):=fun h=>HP3.out (HPh.out.symm.trans h)
            refine QQ ⟨?_, ?_⟩
            ·unfold Qh6;rw[if_neg h1,if_pos h2]
            ·unfold Ql3;rw[if_neg h1,if_pos h2]
           clear hli;rcases HD.out with d4|⟨d4,d5⟩
           all_goals
            go_wp2_with fail
            refine HLi.out.mono ?_;rintro ev w9 ⟨rfl,hto⟩;have HTo:=QQ hto;clear hto;go_wp2_with fail
            go_ret2;rw[HE1.out.1,HE1.out.2.1,HE1.out.2.2,HR2.out.1,HR2.out.2];exact Q2.none_ (ZZ.from_ HBs.out HTo.out) rfl
end Go.Proofs.YtbmiieehkkfbgaaGreatDoor
namespace Go.Proofs.YtbmiieehkkfbgaaGreatDoor
open Go Go.RowKit
def Qh8 (ws:List ByteArray) (n:Int) (w w':World) (e:Ending):Prop:=
 match XV ws n with
 |none=>e=Qb5 3
 |some l=> ∃A c,e= .returned (.slice A l.length c)∧QW w' A l.length c 3 1 (l.map Jm7)∧ ∀g,QZ A=some g→w.heap.size≤g
theorem Xw5 (s:ByteArray) (hs:s.size≤281474976710656) (w:World) (hg:Qk7 w) {v:Int} (h:Lib.atoiAll s.data.toList= .ok v):
  Calls Tryz.prog 74 #[.string s] w fun e w'=>e= .returned (.tuple #[.int .i64 v,.nilIface])∧Below w.heap.size w w':=by
 refine(Zg9 s hs w hg).mono ?_
 rintro e w' ⟨hB,⟨v',h1,h2⟩|⟨h1,-⟩⟩
 ·rw[h]at h1;cases h1;exact⟨h2,hB⟩
 ·exact absurd h (h1 v)
theorem Kr0 (s:ByteArray) (hs:s.size≤281474976710656) (w:World) (hg:Qk7 w) (h: ∀v,Lib.atoiAll s.data.toList≠ .ok v):
  Calls Tryz.prog 74 #[.string s] w fun e w'=> ∃k u x,e= .returned (.tuple #[.int .i64 k,.iface u x])∧Below w.heap.size w w':=by
 refine(Zg9 s hs w hg).mono ?_
 rintro e w' ⟨hB,⟨v',h1,h2⟩|⟨h1,k,u,x,h2⟩⟩
 ·exact absurd h1 (h v')
 ·exact⟨k,u,x,h2,hB⟩
theorem Ke8 (s:ByteArray):((∀v,Lib.atoiAll s.data.toList≠ .ok v)∧Jj5 s=none)∨ ∃v,Lib.atoiAll s.data.toList= .ok v∧((Lib.itoa v≠s.data.toList∧Jj5 s=none)∨(Lib.itoa v=s.data.toList∧Jj5 s=some v)):=by
 unfold Jj5
 cases h:Lib.atoiAll s.data.toList with
 |range=>exact .inl ⟨fun v hv=>(by cases hv),rfl⟩
 |ok v=>
  refine .inr ⟨v,rfl, ?_⟩
  by_cases hi:Lib.itoa v=s.data.toList
  ·exact .inr ⟨hi,if_pos hi⟩
  ·exact .inl ⟨hi,if_neg hi⟩
 |_=>exact .inl ⟨fun v hv=>(by cases hv),rfl⟩
theorem Zb3 {s:ByteArray} {l:List UInt8} (h:l=s.data.toList):(⟨l.toArray⟩:ByteArray)=s:=by
 rw[h]
theorem Zb4 {s:ByteArray} {l:List UInt8} (h:l≠s.data.toList):((⟨l.toArray⟩:ByteArray).toList ==s.toList)=false:=by
 rw[ByteArray.toList_eq,ByteArray.toList_eq]
 exact beq_eq_false_iff_ne.2 (by simpa using h)
theorem Xw6 (A:Option Addr) (n0 c:Nat) (ws:List ByteArray) (n:Int) (w:World) (hg:Qk7 w) (hsz:9≤w.heap.size) (hC:OZ w A (ws.map Value.string)) (hn0:ws.length=n0)
  (hs: ∀s∈ws,s.size≤281474976710656) (hn:n0≤100000):
  Calls Tryz.prog 47 #[.slice A n0 c,.int .i64 n] w fun e w'=>Qh8 ws n w w' e∧Below w.heap.size w w':=by
 have HG:=QQ hg
 have HC:=QQ hC
 have HS:=QQ hs
 have HL:=QQ hn0
 obtain⟨i0,hi0,hz0,hz1,hz2⟩:=info_parts Kq6
 clear hg hC hs hn0
 by_cases hc:0≤n∧(n0:Int)≠n
 ·obtain⟨h1,h2⟩:=hc
  have HP:=QQ (show XV ws n=none by unfold XV;rw[HL.out,if_pos ⟨h1,h2⟩]);have t1:=J0 h1;have t2:=Je0 h2;have HM:=QQ (fun W hW=>Qe5 3 W hW);clear h1 h2;go_enter Tryz.func47,Tryz.ntmps47
  go_wp2_with (go_at_call 18;refine(HM.out _ HG.out).mono ?_;rintro e w1 ⟨he,hB⟩;unfold Qb5 at he;subst he)
  refine⟨rfl, ?_,hB⟩;unfold Qh8;rw[HP.out]
  rfl
 ·have hcase:n<0∨(0≤n∧(n0:Int)=n):=by omega
  have HP:=QQ (show XV ws n=Qd7 ws by unfold XV;rw[HL.out,if_neg hc]);clear hc;have hcase2:(decide (0≤n)=true∧((n0:Int) != n)=false)∨decide (0≤n)=false:=by
   rcases hcase with h|⟨h,h'⟩
   ·exact .inr (OY (by omega))
   ·exact .inl ⟨J0 h,Jk1 h'⟩
  clear hcase;rcases hcase2 with⟨t1,t2⟩|t1
  all_goals
   go_enter Tryz.func47,Tryz.ntmps47
   go_wp2_with fail
   go_loopg [22,5] n0 (fun gg s22 s5 wx=> ∃(k c9:Nat) (A9:Option Addr) (ls:List Int),k≤n0∧gg=n0-k∧s22= .int .i64 k∧s5= .slice A9 k c9∧Qd7 (ws.take k)=some ls∧ls.length=k∧Below w.heap.size w wx∧QW wx A9 k c9 3 1 (ls.map Jm7)∧ ∀g,QZ A9=some g→w.heap.size≤g)
   case atStart=>
    exact⟨0,0,none,[],Nat.zero_le _,rfl,rfl,rfl,rfl,rfl,Below.refl _ _,World.ownsRow_nil _ _ _ _,by simp[QZ]⟩
   case round=>
    obtain⟨k,c9,A9,ls,hk,rfl,rfl,rfl,hns,hll,hB,hR,hup⟩:=hrel;have HB:=QQ hB;have HR:=QQ hR;have HUp:=QQ hup;have HNs:=QQ hns;have HLl:=QQ hll;clear hB hR hup hns hll
    by_cases hlt:k<n0
    ·have hltz:(k:Int)< (n0:Int):=by omega
     have hk0:(0:Int)≤(k:Int):=by omega
     have hkl:k<ws.length:=by have:=HL.out;omega
     obtain⟨s,HX⟩: ∃s,Hid (ws[k]=s):=⟨_,QQ rfl⟩;have hget:(ws.map Value.string)[k]?=some (.string s):=by rw[List.getElem?_map,List.getElem?_eq_getElem hkl,HX.out];rfl
     obtain⟨b,o,hA,hc⟩:=HC.out k _ hget;have hss:=HS.out s (by rw[←HX.out];exact List.getElem_mem hkl);have hc':wr.cell? ⟨b,o+k,none⟩=some (.string s):=(HB.out.cell (p:=⟨b,o+k,none⟩) (World.block_lt_of_cell? w _ hc)).trans hc;have HTk:=QQ (show(ws.take (k+1))=ws.take k++ [s] by rw[List.take_succ_eq_append_getElem hkl,HX.out]);have HSn:=QQ (show Qd7 (ws.take (k+1))=(Jj5 s).map fun v=>ls++ [v] by rw[HTk.out,Jz6,HNs.out]);have HAll:=QQ (show Qd7 (ws.take (k+1))=none→Qd7 ws=none from fun h=>by rw[←List.take_append_drop (k+1) ws];exact Kq2 h);have HGl:=QQ (HG.out.below HB.out hsz);have HM:=QQ (fun W hW=>Qe5 3 W hW);subst hA;clear hc hget;rcases Ke8 s with⟨hno,hnp⟩|⟨v,hv,⟨hi,hnp⟩|⟨hi,hnp⟩⟩
     ·have HA:=QQ (Kr0 s hss wr HGl.out hno)
      have HP2:=QQ (show XV ws n=none by rw[HP.out];exact HAll.out (by rw[HSn.out,hnp];rfl));clear hno hnp;go_wp2_with (first
       |(go_at_call 74;refine HA.out.mono ?_;rintro e w1 ⟨kk,u,x,rfl,hB1⟩;have HB1:=QQ hB1;have HG1:=QQ (HGl.out.below hB1 (Nat.le_trans hsz HB.out.size));clear hB1)
       |(go_at_call 18;refine(HM.out _ HG1.out).mono ?_;rintro e w2 ⟨he,hB2⟩;unfold Qb5 at he;subst he))
      refine⟨rfl, ?_,HB.out.trans ((HB1.out.trans (hB2.mono HB1.out.size)).mono HB.out.size)⟩;unfold Qh8;rw[HP2.out]
      rfl
     ·have hvf:=Jz5 hv
      have HA:=QQ (Xw5 s hss wr HGl.out hv);have HP2:=QQ (show XV ws n=none by rw[HP.out];exact HAll.out (by rw[HSn.out,hnp];rfl));have HI:=QQ (fun W hW=>Xq5 v hvf W hW);have hne:=Zb4 hi;obtain⟨si,hsi⟩: ∃si,(⟨(Lib.itoa v).toArray⟩:ByteArray)=si:=⟨_,rfl⟩;rw[hsi]at hne HI;clear hnp hv hi;go_wp2_with (first
       |(go_at_call 74;refine HA.out.mono ?_;rintro e w1 ⟨rfl,hB1⟩;have HB1:=QQ hB1;have HG1:=QQ (HGl.out.below hB1 (Nat.le_trans hsz HB.out.size));clear hB1)
       |(go_at_call 14;refine(HI.out _ HG1.out).mono ?_;rintro e w3 ⟨rfl,hB3⟩;have HB3:=QQ hB3;have HG3:=QQ (HG1.out.below hB3 (Nat.le_trans hsz (Nat.le_trans HB.out.size HB1.out.size)));clear hB3)
       |(go_at_call 18;refine(HM.out _ HG3.out).mono ?_;rintro e w2 ⟨he,hB2⟩;unfold Qb5 at he;subst he))
      refine⟨rfl, ?_,HB.out.trans ((HB1.out.trans ((HB3.out.trans (hB2.mono HB3.out.size)).mono HB1.out.size)).mono HB.out.size)⟩;unfold Qh8;rw[HP2.out]
      rfl
     ·have hvf:=Jz5 hv
      have HA:=QQ (Xw5 s hss wr HGl.out hv);have HI:=QQ (fun W hW=>Xq5 v hvf W hW);have hsi:=Zb3 hi;rw[hsi]at HI;have HSn2:=QQ (show Qd7 (ws.take (k+1))=some (ls++ [v]) by rw[HSn.out,hnp];rfl);clear hnp hv hi hsi;go_wp2_with (first
       |(go_at_call 74;refine HA.out.mono ?_;rintro e w1 ⟨rfl,hB1⟩;have HB1:=QQ hB1;have HG1:=QQ (HGl.out.below hB1 (Nat.le_trans hsz HB.out.size));clear hB1)
       |(go_at_call 14;refine(HI.out _ HG1.out).mono ?_;rintro e w3 ⟨rfl,hB3⟩;have HB3:=QQ hB3;have HR1:=QQ (QW.below (QW.below (QW.below HR.out HB1.out) hB3) ((Below.refl w3.heap.size w3).alloc (Nat.le_refl _) (.cells #[.int .i64 v] 3)));have HNw:=QQ (heap_alloc_new w3 (.cells #[.int .i64 v] 3));clear hB3)
       |(at_builtin;(refine wpList_append_lies _ rfl _ _ 69 rfl 0 3 i0 _ 1 8 Tryz.underlying69 hi0 hz0 hz1 hz2 rfl (by omega) (.slice A9 k c9) k _ rfl HR1.out ⟨w3.heap.size,0,none⟩ 1 1 [.int .i64 v] rfl rfl (World.news_of_block (cs:= #[.int .i64 v]) (t:=3) (fr:=(0,0)) HNw.out) (by simp[Value.oneCell']) (by omega) (by unfold maxLen;omega) (by omega) (by simp) (w3.heap.size+1) (by simp) ?_);intro gg cap w4 hown hgrow hat hlt3;have HOw:=QQ hown;have HGr:=QQ hgrow;have HAt:=QQ hat;clear hown hgrow hat))
      go_roundg (n0- (k+1))
      case measure=>omega
      case rel=>
       have hgr:=HGr.out;rw[JW]at hgr;have hat:=HAt.out;rw[JW]at hat;have hs1:=HB.out.size;have hs2:=HB1.out.size;have hs3:=HB3.out.size;have hb3:Below w.heap.size w w4:=(((HB.out.trans ((HB1.out.trans (HB3.out.mono HB1.out.size)).mono HB.out.size)).alloc (by omega) (.cells #[.int .i64 v] 3))).grown hgr (by simp;omega) (fun y hy=>by have:=HUp.out y hy;omega);refine⟨k+1,cap,some ⟨gg,0,none⟩,ls++ [v],by omega,rfl,by go_num,rfl,HSn2.out,by rw[List.length_append,HLl.out];rfl,hb3, ?_,fun g hg=> ?_⟩
       ·rw[List.map_append]
        exact HOw.out
       ·cases hg
        rcases hat with h1|h1
        ·exact HUp.out _ h1
        ·show w.heap.size≤gg;omega
    ·have hke:k=n0:=by omega
     subst hke;have hltz: ¬(k:Int)< (k:Int):=by omega
     have htk:ws.take k=ws:=List.take_of_length_le (by have:=HL.out;omega);have hns:=HNs.out;rw[htk]at hns;have HP2:=QQ (show XV ws n=some ls by rw[HP.out];exact hns);clear htk hns;go_wp2;go_ret;refine⟨?_,HB.out⟩;unfold Qh8;rw[HP2.out];refine⟨A9,c9, ?_,by rw[HLl.out];exact HR.out,HUp.out⟩;rw[HLl.out]
     rfl
theorem Jm9 (p:Nat) (n:Int) (hn:KZ n) (old:Value) (older:List PanicEntry) (w:World) (hg:Qk7 w) (hz:9≤w.heap.size) (hc:w.cell? ⟨p,0,none⟩=some old) (hf:w.frozen? ⟨p,0,none⟩=false):
  CallsD Tryz.prog 13 #[.pointer (some ⟨p,0,none⟩)] (.panicking ({v:= .iface 47 (.agg #[.int .i64 n]),recovered:=false}::older)) w fun e u' w'=>
   e= .returned (.tuple #[])∧u'= .panicking ({v:= .iface 47 (.agg #[.int .i64 n]),recovered:=true}::older)∧w'.cell? ⟨p,0,none⟩=some (.string ⟨(Jz7 n).toArray⟩)∧QK (fun i=>i=p) w w':=by
 refine callsD_of_wpS Tryz.func13 rfl fun c₀ cs hu=> ?_
 apply wpS_seq
 apply wpS_region
 simp[wpOpsS,go_sem,recoverD,hu,Tryz.ntmps13,Exit.thenS]
 refine wpS_of_wp ?_
 obtain⟨Q0,hQ0⟩: ∃Q0:Exit→Act→World→Prop,Q0=fun e a' w'=>e= .normal∧a'.defers= []∧w'.cell? ⟨p,0,none⟩=some (.string ⟨(Jz7 n).toArray⟩)∧QK (fun i=>i=p) w w':=⟨_,rfl⟩
 have HQ0:=QQ hQ0
 clear hQ0
 rw[show(#[Value.pointer (some ⟨p,0,none⟩)]++((Array.replicate 18 undef).setIfInBounds 3 (.iface 47 (.agg #[.int .i64 n]):Value)).setIfInBounds 0 (.iface 47 (.agg #[.int .i64 n]):Value):Array Value)= #[Value.pointer (some ⟨p,0,none⟩),(.iface 47 (.agg #[.int .i64 n]):Value),undef,undef,(.iface 47 (.agg #[.int .i64 n]):Value),undef,undef,undef,undef,undef,undef,undef,undef,undef,undef,undef,undef,undef,undef]from rfl]
 clear hu
 refine wp_mono (Q:=Q0) ?_ ?_
 have hta: ∀(v:Value) (w:World),(Instr.typeAssert (.iface 47 v) 20 47 true).run Tryz.prog w= .ok (.tuple #[v,.bool true]) w:=fun v w=>by kernel_rfl
 have hnot: ∀(x:Bool) (w:World),(Op.unary .not (.bool x)).run Tryz.prog w= .ok (.bool (!x)) w:=fun _ _=>rfl
 have hpl:=World.block_lt_of_cell? w _ hc
 have hb1:Below w.heap.size w (w.alloc (.cells #[.int .i64 n] 47)):=(Below.refl _ w).alloc (Nat.le_refl _) _
 have HI:=QQ (Xq5 n hn _ (hg.below hb1 hz))
 obtain⟨si,hsi⟩: ∃si:ByteArray,⟨(Lib.itoa n).toArray⟩=si:=⟨_,rfl⟩
 have hss:si.size≤21:=by
  rw[←hsi,Lib.size_eq];simpa using Lib.itoa_length_le n hn.1 hn.2
 rw[hsi]at HI
 ·go_wp2_with fail
  refine HI.out.mono ?_;rintro e w1 ⟨rfl,hB1⟩;have hc1:w1.cell? ⟨p,0,none⟩=some old:=(hB1.cell (p:=⟨p,0,none⟩) (by simp;omega)).trans ((hb1.cell (p:=⟨p,0,none⟩) hpl).trans hc);have hf1:w1.frozen? ⟨p,0,none⟩=false:=(hB1.frozen (p:=⟨p,0,none⟩) (by simp;omega)).trans ((hb1.frozen (p:=⟨p,0,none⟩) hpl).trans hf);go_wp2_with fail
  rw[HQ0.out];refine⟨rfl,rfl, ?_, ?_⟩
  ·rw[World.cell?_setCell_same w1 _ _ hc1]
   refine congrArg (fun x=>some (Value.string x)) (Go.WideShapes.bytes_inj ?_);rw[←hsi];simp[Jz7]
  ·exact(QK.of_below ((hb1.trans (hB1.mono hb1.size))) (fun i=>i=p)).trans (QK.set_ w1 ⟨p,0,none⟩ _) (fun i hi=> .inl hi)
 ·intro e a' w' h
  rw[HQ0.out]at h;obtain⟨rfl,h1,h2,h3⟩:=h;exact⟨h1,_,rfl,_,by simp[results,Tryz.results13,go_sem],rfl,rfl,h2,h3⟩
theorem Jg0 (p:Addr) (w:World):
  CallsD Tryz.prog 13 #[.pointer (some p)] .returning w fun e u' w'=>
   e= .returned (.tuple #[])∧u'= .returning∧w'=w:=by
 refine callsD_of_wpS Tryz.func13 rfl fun c₀ cs hu=> ?_
 apply wpS_seq
 apply wpS_region
 simp[wpOpsS,go_sem,recoverD,hu,Tryz.ntmps13,Exit.thenS]
 apply wpS_seq
 apply wpS_region
 simp[wpOpsS,go_sem,Exit.thenS]
 refine wpS_cond (t:=false) (by simp[Act.eval,Array.replicate]) ?_
 simp only[Bool.false_eq_true,if_false]
 refine wpS_of_wp (wp_skip ?_)
 cases c₀
 simp_all [bodyPostS,results,Tryz.results13]
end Go.Proofs.YtbmiieehkkfbgaaGreatDoor
