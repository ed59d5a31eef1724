/- Contracts and walks that the law's proof needs. -/
import Derived.WalkKit
import Derived.WalkLawsBesides
import Derived.WalkSpells
import Derived.StillTailTactics
import Derived.Deep.QuietTactic
import Derived.BigQuiet
import Derived.Deep.DeepCutAuto
import Derived.Deep.CutBlock
import Derived.Test.YtnlngicnfegjgaaGreatDoorZd28
import Derived.Test.YtnlngicnfegjgaaGreatDoorZd29
import Derived.Test.YtnlngicnfegjgaaGreatDoorZd26
import Derived.Laws.StructEq
import Derived.Test.YtnlngicnfegjgaaGreatDoorZd22
import Derived.Test.YtnlngicnfegjgaaGreatDoorZd23
import Derived.Test.YtnlngicnfegjgaaGreatDoorZd25
import Derived.Test.YtnlngicnfegjgaaGreatDoorZd20
import Derived.Test.YtnlngicnfegjgaaGreatDoorRows
import Derived.Test.YtnlngicnfegjgaaGreatDoorZd1
import Derived.Test.YtnlngicnfegjgaaGreatDoorZd3
import GoSem.Instr.MapEntry
set_option linter.unusedVariables false
set_option maxRecDepth 100000
set_option maxHeartbeats 8000000
namespace Go.Proofs.YtnlngicnfegjgaaGreatDoor
open Go.RowKit
theorem Xz6 {w:World} {e:Nat} {F:Nat→Prop} {m:ZJ} (h:UK w e F m) (hI:Qj3 m) (o:QX) (hs:VV o.side) (hf:Qd5 o) (hq:0≤o.qty):
  Calls Tryz.prog 47 #[.pointer (some ⟨e,0,none⟩),KQ o] w fun ev w'=>ZV w w' e F (fun Fs=>Fs=(ZW m o).fills) (Z2 m o) ev:=by
 obtain⟨oi,os,ok,op,oq⟩:=o
 rcases hs with e1|e1
 ·have e2:os=1:=e1
  subst e2;exact Ks2 h hI oi ok op oq hf hq
 ·have e2:os=2:=e1
  subst e2;exact Ks3 h hI oi ok op oq hf hq
theorem Kw7 {w:World} {r c:Nat} {es:List MapEntry} (h:Q4 w r es c) (hK:Qh1 es) (k:Int) (v:Value) (hn:Z4 es k=none):
  ∃w' es' c',(Instr.mapUpdate 101 (.map (some r)) (.int .i64 k) v).run Tryz.prog w= .ok () w'∧Q4 w' r es' c'∧Qh1 es'∧IV w w' r∧ ∀j,Z4 es' j=if j=k then some v else Z4 es j:=by
 obtain⟨x,hx,hl,hs,hno⟩:=I4 es k 0 hK
 have hx0:x=none:=by
  rw[hn]at hl
  cases x with
  |none=>rfl
  |some y=>simp at hl
 subst hx0
 refine⟨_,_,_,Qa8 Tryz.underlying101 Tryz.underlying3 J8 h _ v hx,h.set _ _, ?_,UV _ _ _, ?_⟩
 ·intro e he
  rcases List.mem_append.1 he with he|he
  ·exact hK e he
  ·obtain rfl:e=_:=by simpa using he
   exact⟨k,rfl⟩
 ·intro j
  rw[Qk6 es _ k rfl (hno rfl) hK j];unfold Z7
  rfl
theorem Kw8 {w:World} {r c:Nat} {es:List MapEntry} (h:Q4 w r es c) (hK:Qh1 es) (k:Int) {b:Bool} (hb:Z4 es k=if b=true then some (.bool true)else none):
  (Instr.lookup 101 (.map (some r)) (.int .i64 k) false).run Tryz.prog w= .ok (.bool b) w:=by
 obtain⟨x,hx,hl,-,-⟩:=I4 es k 0 hK
 rw[Qp0 (z:= .bool false) Tryz.underlying101 Tryz.underlying3 J8 h _ (by kernel_rfl) false x hx,hl,hb]
 cases b<;>rfl
theorem Qj3.taken {m:ZJ} (h:Qj3 m) (o:QX):Qj3 (YX m o):=⟨h.tab,h.tk,h.la,h.now,h.lng,h.pk,h.pkn⟩
theorem Ke2 {o:QX}:Xh6 o=true↔(o.side≠1∧o.side≠2∨o.kind<1∨4<o.kind∨o.id<1):=by unfold Xh6;simp
theorem Kk9 {oi os ok op oq:Int} (h:Xh6 ⟨oi,os,ok,op,oq⟩=false):VV os:=by
 have h1: ¬(os≠1∧os≠2∨ok<1∨4<ok∨oi<1):=fun x=>by
  have h2:=(Ke2 (o:=⟨oi,os,ok,op,oq⟩)).2 x;rw[h]at h2;exact Bool.noConfusion h2
 unfold VV
 omega
theorem Qu3 {w:World} {e:Nat} {F:Nat→Prop} {m:ZJ} (h:UK w e F m) (hI:Qj3 m) (o:QX) (hf:Qd5 o):
  Calls Tryz.prog 12 #[.pointer (some ⟨e,0,none⟩),KQ o] w fun ev w'=>J7 w w' e F (fun Fs=>Fs=Qd3 m o) (OK m o) (X9 m o) ev:=by
 have hE:=h
 obtain⟨cs,tb,bb,bk,im,T,tc,Al,lc,lv,bu,se,Ap,pc,es,mc,G,own,hM,hF⟩:=h
 obtain⟨pp,hpp⟩: ∃p,(JJ o).price=p:=⟨_,rfl⟩
 obtain⟨bd,hbd⟩: ∃b,Xh6 o=b:=⟨_,rfl⟩
 obtain⟨rb,hrb⟩: ∃b,Qq6 o=b:=⟨_,rfl⟩
 obtain⟨tb_,htb⟩: ∃b,Qh4 m.ph o.kind=b:=⟨_,rfl⟩
 obtain⟨kn,hkn⟩: ∃b,decide (o.id∈m.ids)=b:=⟨_,rfl⟩
 have HPr:Hid (JJ o=⟨o.id,o.side,o.kind,pp,o.qty⟩):=QQ (by rw[←hpp];rfl)
 have HBd:=QQ hbd
 have HRb:Hid (J6 pp o.qty=rb):=QQ (by rw[←hpp];exact hrb)
 have HRb0:=QQ hrb
 have HTb:=QQ htb
 have HKn:=QQ hkn
 have HFit:Hid (Qd5 (JJ o)):=QQ (by
  refine⟨hf.1,hf.2.1,hf.2.2.1, ?_,hf.2.2.2.2⟩;show V3 (if o.kind=2 then 1 else o.price)
  split
  ·unfold V3;omega
  ·exact hf.2.2.2.1)
 have HE:=QQ hE
 have HF:=QQ hF
 have HI:=QQ hI
 have HM:=QQ hM
 have HPp:Hid ((if o.kind=2 then 1 else o.price)=pp):=QQ hpp
 obtain⟨X,eX⟩: ∃g,w.heap.size=g:=⟨_,rfl⟩
 have HX0:=QQ eX
 obtain⟨oi,os,ok,op,oq⟩:=o
 dsimp only at HPr HRb HPp HTb HKn
 have hb0:Below w.heap.size w (w.alloc (.cells #[.int .i64 oi,.int .i64 os,.int .i64 ok,.int .i64 op,.int .i64 oq] 29)):=(Below.refl _ w).alloc (Nat.le_refl _) _
 have hbx:=QJ.new w 29 #[.int .i64 oi,.int .i64 os,.int .i64 ok,.int .i64 op,.int .i64 oq]
 obtain⟨w0,ew0⟩: ∃W,w.alloc (.cells #[.int .i64 oi,.int .i64 os,.int .i64 ok,.int .i64 op,.int .i64 oq] 29)=W:=⟨_,rfl⟩
 rw[ew0]at hb0 hbx
 rw[eX]at hbx
 have HB0:=QQ hb0
 have HX:=QQ hbx
 obtain⟨x0,x1,x2,x3,x4⟩:=Y4 hbx
 have xf:=QJ.frozen hbx 3
 unfold KQ
 dsimp only
 clear hE hM hF hI hf hpp hbd hrb htb hkn hb0 hbx
 go_enter Tryz.func12,Tryz.ntmps12
 go_upto_region 1 with fail
 try rw[ew0]
 try rw[eX]
 clear ew0 eX
 go_upto_if 8 with fail
 go_cut [] (fun wx=>Hid (Below w.heap.size w wx∧QJ wx X 29 #[.int .i64 oi,.int .i64 os,.int .i64 ok,.int .i64 pp,.int .i64 oq]))
 case first=>
  by_cases hk:ok=2
  ·have d1:=J4 hk
   have e1:pp=1:=by rw[←HPp.out,if_pos hk]
   have H1:=QQ e1;clear hk e1;go_wp2_with fail
   go_meet;rw[H1.out];exact QQ ⟨HB0.out.trans ((QK.set_ w0 ⟨X,3,none⟩ (.int .i64 1)).below (fun i e=>by have h1:=HX0.out;have h2:i=X:=e;omega) HB0.out.size),QJ.set_ HX.out 3 (.int .i64 1)⟩
  ·have d1:=UQ hk
   have e1:pp=op:=by rw[←HPp.out,if_neg hk]
   have H1:=QQ e1;clear hk e1;go_wp2_with fail
   go_meet;rw[H1.out];exact QQ ⟨HB0.out,HX.out⟩
 case rest=>
  obtain⟨hb1,hx1⟩:=hcut.out;have HB1:=QQ hb1;have HX1:=QQ hx1;clear x0 x1 x2 x3 x4 xf HB0 HX hcut hb1;obtain⟨x0,x1,x2,x3,x4⟩:=Y4 hx1;clear hx1;obtain⟨w1,ew1⟩: ∃W,wc=W:=⟨_,rfl⟩;rw[ew1]at HB1 HX1 x0 x1 x2 x3 x4⊢;clear ew1;go_upto_region 3 with fail
  go_cut [10] (fun s10 wx=>s10= .bool bd∧wx=w1)
  case first=>
   have key: ∀b:Bool,(b=true↔(os≠1∧os≠2∨ok<1∨4<ok∨oi<1))→b=bd:=fun b hb=>by
    rw[←HBd.out];exact Bool.eq_iff_iff.2 (hb.trans (Ke2 (o:=⟨oi,os,ok,op,oq⟩)).symm)
   by_cases hs1:os=1
   ·have t1:=Ji5 hs1
    by_cases hk1:ok<1
    ·have t2:=J5 hk1
     have HK:=QQ (key true (by simp;omega));clear key hs1 hk1;go_wp2_with fail
     go_meet;exact⟨congrArg Value.bool HK.out,rfl⟩
    ·have t2:=IQ hk1
     by_cases hk4:ok>4
     ·have t3:=J5 hk4
      have HK:=QQ (key true (by simp;omega));clear key hs1 hk1 hk4;go_wp2_with fail
      go_meet;exact⟨congrArg Value.bool HK.out,rfl⟩
     ·have t3:=IQ hk4
      by_cases hi1:oi<1
      ·have t4:=J5 hi1
       have HK:=QQ (key true (by simp;omega));clear key hs1 hk1 hk4 hi1;go_wp2_with fail
       go_meet;exact⟨congrArg Value.bool HK.out,rfl⟩
      ·have t4:=IQ hi1
       have HK:=QQ (key false (by simp;omega));clear key hs1 hk1 hk4 hi1;go_wp2_with fail
       go_meet;exact⟨congrArg Value.bool HK.out,rfl⟩
   ·have t1:=Ji6 hs1
    by_cases hs2:os=2
    ·have t5:=Ji5 hs2
     by_cases hk1:ok<1
     ·have t2:=J5 hk1
      have HK:=QQ (key true (by simp;omega));clear key hs1 hs2 hk1;go_wp2_with fail
      go_meet;exact⟨congrArg Value.bool HK.out,rfl⟩
     ·have t2:=IQ hk1
      by_cases hk4:ok>4
      ·have t3:=J5 hk4
       have HK:=QQ (key true (by simp;omega));clear key hs1 hs2 hk1 hk4;go_wp2_with fail
       go_meet;exact⟨congrArg Value.bool HK.out,rfl⟩
      ·have t3:=IQ hk4
       by_cases hi1:oi<1
       ·have t4:=J5 hi1
        have HK:=QQ (key true (by simp;omega));clear key hs1 hs2 hk1 hk4 hi1;go_wp2_with fail
        go_meet;exact⟨congrArg Value.bool HK.out,rfl⟩
       ·have t4:=IQ hi1
        have HK:=QQ (key false (by simp;omega));clear key hs1 hs2 hk1 hk4 hi1;go_wp2_with fail
        go_meet;exact⟨congrArg Value.bool HK.out,rfl⟩
    ·have t5:=Ji6 hs2
     have HK:=QQ (key true (by simp;omega));clear key hs1 hs2;go_wp2_with fail
     go_meet;exact⟨congrArg Value.bool HK.out,rfl⟩
  case rest=>
   obtain⟨rfl,rfl⟩:=hcut
   cases bd with
   |true=>
    have HS:Hid (X9 m ⟨oi,os,ok,op,oq⟩=1):=QQ (by unfold X9;rw[if_pos HBd.out]);have e1:YV 1= .iface 52 (.int .i64 1):=rfl;go_wp2_with fail
    go_ret2;unfold OK Qd3;rw[HS.out,if_neg (by decide),if_neg (by decide)];exact J7.none_ (YZ.same HE.out HB1.out) rfl
   |false=>
    go_wp2_with fail
    refine(U5 _ _ _).mono ?_;rintro ev w2 ⟨rfl,hb2⟩;rw[HRb.out];have HB2:=QQ (HB1.out.trans (hb2.mono HB1.out.size));have HX2:=QQ (QJ.keep HX1.out hb2);clear x0 x1 x2 x3 x4 hb2 HB1 HX1
    cases rb with
    |false=>
     have HS:Hid (X9 m ⟨oi,os,ok,op,oq⟩=2):=QQ (by unfold X9;rw[if_neg (by rw[HBd.out];decide),if_pos HRb0.out]);go_wp2_with fail
     go_ret2;unfold OK Qd3;rw[HS.out,if_neg (by decide),if_neg (by decide)];exact J7.none_ (YZ.same HE.out HB2.out) rfl
    |true=>
     have hM2:=HM.out.below HB2.out;have c14:=hM2.cell hM2.ec.c14;have HM2:=QQ hM2;obtain⟨x0,x1,x2,x3,x4⟩:=Y4 HX2.out;obtain⟨ph,hph⟩: ∃p,m.ph=p:=⟨_,rfl⟩;rw[hph]at c14 HTb;have HPh:=QQ hph;have hpt: ∀W,Calls Tryz.prog 44 #[.int .i64 ph,.int .i64 ok] W fun e w'=>e= .returned (.bool tb_)∧w'=W:=fun W=>(Kg0 ph ok W).mono (fun _ _ ⟨h1,h2⟩=>⟨h1.trans (by rw[HTb.out]),h2.symm⟩)
     have HPt:=QQ hpt;clear hpt;clear hM2 hph;go_wp2_with fail
     go_quiet ((go_at_call 44;exact Calls.quiet_of_same (HPt.out _)))
     have hbq:=JQ (Below.refl w2.heap.size w2) nq;have HB3:=QQ (HB2.out.trans (hbq.mono HB2.out.size));have HX3:=QQ (QJ.drewN HX2.out nq);have HM3:=QQ (HM2.out.below hbq);clear hbq HPt c14 x0 x1 x2 x3 x4;generalize w2.drewN nq=w3 at HB3 HX3 HM3⊢;clear HB2 HX2 HM2
     cases tb_ with
     |false=>
      have HS:Hid (X9 m ⟨oi,os,ok,op,oq⟩=6):=QQ (by unfold X9;rw[if_neg (by rw[HBd.out];decide),if_neg (by rw[HRb0.out];decide),if_pos (by rw[HPh.out];exact HTb.out)]);go_wp2_with fail
      go_ret2;unfold OK Qd3;rw[HS.out,if_neg (by decide),if_neg (by decide)];exact J7.none_ (YZ.same HE.out HB3.out) rfl
     |true=>
      obtain⟨x0,x1,x2,x3,x4⟩:=Y4 HX3.out;have c13:=HM3.out.cell HM3.out.ec.c13;have hlk:=Kw8 (w:=w3.drew) (HM3.out.below (Below.drew (Below.refl _ w3))).map_ HM3.out.keys oi (b:=kn) (by rw[HM3.out.ids,←HKn.out];simp);go_wp2_with fail
      refine XK (fun t=> [].contains t) (fun W=>W.cell? ⟨e,13,none⟩=some (.map (some im))∧W.cell? ⟨X,0,none⟩=some (.int .i64 oi)∧(Instr.lookup 101 (.map (some im)) (.int .i64 oi) false).run Tryz.prog W= .ok (.bool kn) W) (by kernel_rfl) ⟨c13,x0,hlk⟩ (fun hS0=> ?_);refine tM 0 (.pointer (some ⟨e,0,none⟩)) ?_;refine tM 1 (.pointer (some ⟨e,0,none⟩)) ?_;refine tM 2 (.pointer (some ⟨e,13,none⟩)) ?_;refine tM 3 (.map (some im)) ?_;refine tM 4 (.pointer (some ⟨X,0,none⟩)) ?_;refine tM 5 (.int .i64 oi) ?_;refine tM 6 (.bool kn) ?_;refine tM 7 (.bool kn) ?_;refine ZZ (by kernel_rfl) ?_ _;clear hS0;have hbq:=Below.drew (Below.refl w3.heap.size w3);have HB4:=QQ (HB3.out.trans (hbq.mono HB3.out.size));have HX4:=QQ (QJ.drew HX3.out);have HM4:=QQ (HM3.out.below hbq);clear hbq c13 hlk x0 x1 x2 x3 x4;generalize w3.drew=w4 at HB4 HX4 HM4⊢;clear HB3 HX3 HM3
      cases kn with
      |true=>
       have HS:Hid (X9 m ⟨oi,os,ok,op,oq⟩=9):=QQ (by unfold X9;rw[if_neg (by rw[HBd.out];decide),if_neg (by rw[HRb0.out];decide),if_neg (by rw[HPh.out,show Qh4 ph (QX.mk oi os ok op oq).kind=true from HTb.out];decide),if_pos (of_decide_eq_true HKn.out)]);go_wp2_with fail
       go_ret2;unfold OK Qd3;rw[HS.out,if_neg (by decide),if_neg (by decide)];exact J7.none_ (YZ.same HE.out HB4.out) rfl
      |false=>
       have c8:=HM4.out.cell HM4.out.ec.c8;have c12:=HM4.out.cell HM4.out.ec.c12;obtain⟨pn,hpn⟩: ∃n,m.pk.length=n:=⟨_,rfl⟩;obtain⟨ln,hln⟩: ∃n,m.L1.length+m.L2.length=n:=⟨_,rfl⟩;have hmany: ∀W,Below w4.heap.size w4 W→Calls Tryz.prog 45 #[.pointer (some ⟨bk,0,none⟩)] W fun e w'=>e= .returned (.int .i64 (ln:Nat))∧w'=W:=fun W hW=>(Xh7 W bk G m.L1 m.L2 (HM4.out.below hW).book).mono (fun _ _ ⟨h1,h2⟩=>⟨h1.trans (by rw[hln]),h2.symm⟩)
       have hfew:ln≤100:=by
        have h1:=HM4.out.book.lists.cnt;rw[List.length_append]at h1;omega
       have hpkn:pn≤100000:=by have:=HI.out.pkn;omega
       rw[hpn]at c12;have HMany:=QQ hmany;have HPn:=QQ hpn;have HLn:=QQ hln;clear hmany hpn hln;go_wp2_with fail
       go_quiet ((go_at_call 45;exact Calls.quiet_of_same (HMany.out _ (by first|exact Below.refl _ _|exact Below.drew (Below.refl _ _)|exact JQ (Below.refl _ _) _))))
       have hbq:=JQ (Below.refl w4.heap.size w4) nq;have HB5:=QQ (HB4.out.trans (hbq.mono HB4.out.size));have HX5:=QQ (QJ.drewN HX4.out nq);have HM5:=QQ (HM4.out.below hbq);clear hbq c8 c12 HMany;generalize w4.drewN nq=w5 at HB5 HX5 HM5⊢;clear HB4 HX4 HM4;have HErr:Hid (X9 m ⟨oi,os,ok,op,oq⟩=if 100≤m.L1.length+m.L2.length+m.pk.length then 12 else 0):=QQ (by unfold X9;rw[if_neg (by rw[HBd.out];decide),if_neg (by rw[HRb0.out];decide),if_neg (by rw[HPh.out,show Qh4 ph (QX.mk oi os ok op oq).kind=true from HTb.out];decide),if_neg (of_decide_eq_false HKn.out)])
       by_cases hfull:(ln:Int)+ (pn:Int)≥100
       ·have d1:=J5 hfull
        have HS:Hid (X9 m ⟨oi,os,ok,op,oq⟩=12):=QQ (by rw[HErr.out,if_pos (by rw[HLn.out,HPn.out];omega)]);go_wp2_with fail
        go_ret2;unfold OK Qd3;rw[HS.out,if_neg (by decide),if_neg (by decide)];exact J7.none_ (YZ.same HE.out HB5.out) rfl
       ·have d1:=IQ hfull
        have HS:Hid (X9 m ⟨oi,os,ok,op,oq⟩=0):=QQ (by rw[HErr.out,if_neg (by rw[HLn.out,HPn.out];omega)]);have hS1:OK m ⟨oi,os,ok,op,oq⟩=Qe5 (YX m ⟨oi,os,ok,pp,oq⟩) ⟨oi,os,ok,pp,oq⟩:=by unfold OK;rw[if_pos HS.out,HPr.out]
        have hF1:Qd3 m ⟨oi,os,ok,op,oq⟩=Qi3 (YX m ⟨oi,os,ok,pp,oq⟩) ⟨oi,os,ok,pp,oq⟩:=by unfold Qd3;rw[if_pos HS.out,HPr.out]
        have HE1:=QQ (And.intro HS.out (And.intro hS1 hF1));have hM5:=HM5.out.below (Below.drew (Below.refl _ w5));obtain⟨w6,es',mc',hup,hmp,hks,htu,hlk⟩:=Kw7 hM5.map_ hM5.keys oi (.bool true) (by rw[hM5.ids,if_neg (of_decide_eq_false HKn.out)]);obtain⟨hM6,ho6⟩:=hM5.mapTo htu hmp hks (id:=oi) (fun k=>by
         rw[hlk k,hM5.ids]
         by_cases e1:k=oi
         ·rw[if_pos e1,if_pos (by rw[e1];simp)]
         ·rw[if_neg e1]
          by_cases e2:k∈m.ids
          ·rw[if_pos e2,if_pos (by simp[e2])]
          ·rw[if_neg e2,if_neg (by simp[e1,e2])])
        have hXo: ∀k,¬own X k:=fun k hk=>by have:=HM.out.ok.lt X k hk;have:=HX0.out;omega
        have hX6:=QJ.keeps (QJ.drew HX5.out) ho6.1 (fun⟨k,hk⟩=>hXo k hk);have ho06:VZ w w6 own own:=((VZ.of_below HB5.out).trans (VZ.of_below (Below.drew (Below.refl _ w5)))).trans ho6;have c13:=HM5.out.cell HM5.out.ec.c13;have x0:=(Y4 HX5.out).1;have HX6:=QQ hX6;have HM6:=QQ hM6;have HO6:=QQ ho06;have HXo:=QQ hXo;clear hM5 hmp hks htu hlk hM6 ho6 hX6 ho06 hXo hS1 hF1;go_upto_region 13 with fail
        go_cut [] (fun wx=>wx=w6)
        case first=>
         clear d1 hfull
         go_still_tail 6,(by kernel_rfl)
         change wpList _ _ _ _ _ w5.drew;go_wp2_with fail
         go_meet
         rfl
        case rest=>
         subst hcut;clear hup c13 x0 HX5 HM5 HB5 d1 hfull;obtain⟨x0,x1,x2,x3,x4⟩:=Y4 HX6.out;have c14:=HM6.out.cell HM6.out.ec.c14;have c12:=HM6.out.cell HM6.out.ec.c12;have e14:(Value.int .i64 ({m with ids:=m.ids++ [oi]}:ZJ).ph)= .int .i64 ph:=by rw[←HPh.out]
         have e12:(Value.slice Ap ({m with ids:=m.ids++ [oi]}:ZJ).pk.length pc)= .slice Ap pn pc:=by rw[←HPn.out]
         rw[e14]at c14;rw[e12]at c12;have HAt:=QQ (UX.at_ (m:=YX m ⟨oi,os,ok,pp,oq⟩) HM6.out (fun _ _ _=>rfl));have HBs:=QQ (HO6.out.bstep HF.out);obtain⟨F6,hF6⟩: ∃S,(fun i=> ∃k,own i k)=S:=⟨_,rfl⟩;rw[hF6]at HAt HBs;have HF6:=QQ hF6;clear e14 e12 hF6
         by_cases hpark:ok=4∧ph≠5
         ·obtain⟨hk4,hp5⟩:=hpark
          have d4:=J4 hk4;have d5:=Ji6 hp5;have HR1:Hid (Qe5 (YX m ⟨oi,os,ok,pp,oq⟩) ⟨oi,os,ok,pp,oq⟩= {YX m ⟨oi,os,ok,pp,oq⟩with pk:=m.pk++ [⟨oi,os,ok,pp,oq⟩]}∧Qi3 (YX m ⟨oi,os,ok,pp,oq⟩) ⟨oi,os,ok,pp,oq⟩= []):=by
           refine QQ ⟨?_, ?_⟩
           ·unfold Qe5;rw[if_pos ⟨hk4,by show m.ph≠5;rw[HPh.out];exact hp5⟩];rfl
           ·unfold Qi3;rw[if_pos ⟨hk4,by show m.ph≠5;rw[HPh.out];exact hp5⟩]
          clear hk4 hp5;go_wp2_with fail
          obtain⟨i0,hi0,hz0,hz1,hz2⟩:=info_parts Qm5;have hrow:QY wc.drew Ap pn pc 29 5 (QW U7 m.pk):=by
           have h1:=(HM6.out.below (Below.drew (Below.refl _ wc))).park;rw[←HPn.out];exact h1
          have HO1:=QQ (World.ownsRow.alloc (show wc.drew.ownsRow 0 29 5 (.slice Ap pn pc) pn (QW U7 m.pk)from hrow) (.cells #[.int .i64 oi,.int .i64 os,.int .i64 ok,.int .i64 pp,.int .i64 oq] 29));clear hrow;refine XK (fun t=> [10].contains t) (fun W=>W.cell? ⟨e,12,none⟩=some (.slice Ap pn pc)∧W.cell? ⟨X,0,none⟩=some (.int .i64 oi)∧W.cell? ⟨X,1,none⟩=some (.int .i64 os)∧W.cell? ⟨X,2,none⟩=some (.int .i64 ok)∧W.cell? ⟨X,3,none⟩=some (.int .i64 pp)∧W.cell? ⟨X,4,none⟩=some (.int .i64 oq)) (by kernel_rfl) ⟨c12,x0,x1,x2,x3,x4⟩ (fun hS0=> ?_);refine tM 0 (.pointer (some ⟨e,0,none⟩)) ?_;refine tM 1 (.pointer (some ⟨e,0,none⟩)) ?_;refine tM 2 (.pointer (some ⟨e,0,none⟩)) ?_;refine tM 3 (.pointer (some ⟨e,12,none⟩)) ?_;refine tM 4 (.slice Ap pn pc) ?_;refine tM 5 (.agg #[.int .i64 oi,.int .i64 os,.int .i64 ok,.int .i64 pp,.int .i64 oq]) ?_;refine oM 6 fun K1 hK1=> ?_
          go_simp;have hqa:Below wc.heap.size wc (wc.drew.alloc (.cells #[.int .i64 oi,.int .i64 os,.int .i64 ok,.int .i64 pp,.int .i64 oq] 29)):=(Below.drew (Below.refl _ wc)).alloc (Nat.le_refl _) _;have hSa:(fun W:World=>W.cell? ⟨e,12,none⟩=some (.slice Ap pn pc)∧W.cell? ⟨X,0,none⟩=some (.int .i64 oi)∧W.cell? ⟨X,1,none⟩=some (.int .i64 os)∧W.cell? ⟨X,2,none⟩=some (.int .i64 ok)∧W.cell? ⟨X,3,none⟩=some (.int .i64 pp)∧W.cell? ⟨X,4,none⟩=some (.int .i64 oq)) (wc.drew.alloc (.cells #[.int .i64 oi,.int .i64 os,.int .i64 ok,.int .i64 pp,.int .i64 oq] 29)):=⟨QV c12 hqa,QV x0 hqa,QV x1 hqa,QV x2 hqa,QV x3 hqa,QV x4 hqa⟩;refine hK1 _ _ (fun _=>hSa) ?_;clear hK1 hqa hS0;refine oM 7 fun K2 hK2=> ?_
          refine(if_pos (by rfl)).mpr ?_;refine wp_append_lies _ _ _ 47 rfl 0 29 i0 _ 5 40 Tryz.underlying47 hi0 hz0 hz1 hz2 rfl (by omega) (.slice Ap pn pc) pn _ rfl HO1.out ⟨wc.heap.size,0,none⟩ 1 1 [.int .i64 oi,.int .i64 os,.int .i64 ok,.int .i64 pp,.int .i64 oq] rfl rfl (World.news_of_block (cs:= #[.int .i64 oi,.int .i64 os,.int .i64 ok,.int .i64 pp,.int .i64 oq]) (t:=29) (fr:=(0,0)) (heap_alloc_new wc.drew _)) (by simp[Value.oneCell']) (by omega) (by unfold maxLen;omega) (by omega) (by simp) (wc.heap.size+1) (by simp) ?_;intro gg cap w8 hown hgrow hat8 hlt8;have hk8:=Ql1 (w2:=wc.drew) (o:= .cells #[.int .i64 oi,.int .i64 os,.int .i64 ok,.int .i64 pp,.int .i64 oq] 29) (show(wc.drew.alloc (.cells #[.int .i64 oi,.int .i64 os,.int .i64 ok,.int .i64 pp,.int .i64 oq] 29)).grownBy w8 (Value.slice Ap pn pc).ownBlock from⟨hgrow.os,hgrow.tape,hgrow.output,hgrow.size,hgrow.block⟩);rw[XV]at hk8 hat8;have HK8:=QQ hk8;have HAt8:=QQ hat8;have HOwn8:=QQ hown;have hEk:QJ w8 e 103 cs:=QJ.keeps (HM6.out.below (Below.drew (Below.refl _ wc))).ind.blk hk8 (fun x=>absurd (HM6.out.ok.uni _ _ _ (HM6.out.op _ x) HM6.out.oe) (by decide));have hXk:=QJ.keeps (QJ.drew HX6.out) hk8 (fun x=>HXo.out _ (HM6.out.op _ x));have c128:w8.cell? ⟨e,12,none⟩=some (.slice Ap pn pc):=(QJ.cell hEk 12).trans (HM6.out.ec.c12.trans (by rw[←HPn.out]));have f12:=QJ.frozen hEk 12;have hS8:(fun W:World=>W.cell? ⟨e,12,none⟩=some (.slice Ap pn pc)∧W.cell? ⟨X,0,none⟩=some (.int .i64 oi)∧W.cell? ⟨X,1,none⟩=some (.int .i64 os)∧W.cell? ⟨X,2,none⟩=some (.int .i64 ok)∧W.cell? ⟨X,3,none⟩=some (.int .i64 pp)∧W.cell? ⟨X,4,none⟩=some (.int .i64 oq)) w8:=⟨c128,(Y4 hXk).1,(Y4 hXk).2.1,(Y4 hXk).2.2.1,(Y4 hXk).2.2.2.1,(Y4 hXk).2.2.2.2⟩;refine hK2 _ _ (fun _=>hS8) ?_;clear hown hgrow hat8 hk8 hEk hXk HO1 hi0 hz0 hz1 hz2 hK2 hSa c12 x0 x1 x2 x3 x4;refine oM 8 fun K4 hK4=> ?_
          go_simp;refine hK4 _ _ (fun _=>hS8) ?_;clear hK4;refine oM 9 fun K5 hK5=> ?_
          go_simp;refine hK5 _ _ (fun _=>hS8) ?_;clear hK5;refine oM 10 fun K3 hK3=> ?_
          refine(if_pos (by rfl)).mpr ?_;go_simp;refine hK3 _ _ (fun e=>absurd e (by decide)) ?_;clear hK3 c128 f12 hS8;refine ZZ (by kernel_rfl) ?_ _;go_wp2_with fail
          go_ret2;have hl:(m.pk++ [(⟨oi,os,ok,pp,oq⟩:QX)]).length=pn+1:=by rw[List.length_append,HPn.out];rfl
          obtain⟨own',hM9,ho9⟩:=(HM6.out.below (Below.drew (Below.refl _ wc))).pkTo (P':=m.pk++ [⟨oi,os,ok,pp,oq⟩]) (Ap':=some ⟨gg,0,none⟩) (pc':=cap) HK8.out (by
           show w8.ownsRow 0 29 5 _ _ _;rw[hl,Qa5];exact HOwn8.out) (fun i hi=>by
            have e1:gg=i:=by simpa [QZ]using hi
            subst e1;rcases HAt8.out with x|x
            ·exact .inl x
            ·right;rw[x];show wc.heap.size≤_;omega)
          rw[hl]at hM9 ho9;rw[HE1.out.1,HE1.out.2.1,HE1.out.2.2,HR1.out.1,HR1.out.2];exact J7.none_ (YZ.from_ HBs.out ⟨_,UX.at_ (m:= {YX m ⟨oi,os,ok,pp,oq⟩with pk:=m.pk++ [⟨oi,os,ok,pp,oq⟩]}) hM9 (fun _ _ _=>rfl),((VZ.of_below (Below.drew (Below.refl _ wc))).trans ho9).bstep (fun i=>by rw[←HF6.out])⟩) rfl
         ·have HNp:=QQ hpark
          have HR1:Hid (¬(ok=4∧ph≠5)):=QQ hpark;clear hpark;have d45:((ok ==4)=false)∨((ok ==4)=true∧(ph != 5)=false):=by
           by_cases h4:ok=4
           ·exact .inr ⟨J4 h4,Ji5 (Decidable.byContradiction fun h=>HNp.out ⟨h4,h⟩)⟩
           ·exact .inl (UQ h4)
          have HD:=QQ d45;clear d45;have HIn:=QQ (HI.out.taken ⟨oi,os,ok,pp,oq⟩)
          by_cases hp3:ph=3
          ·have d3:=Ji5 hp3
           have HP3:=QQ hp3;clear hp3;have hq0:0≤oq:=by
            have h1:=HRb.out;rw[V5]at h1;omega
           have hs12:VV os:=Kk9 HBd.out;have hmt:=Xz6 HAt.out HIn.out ⟨oi,os,ok,pp,oq⟩ hs12 (by have:=HFit.out;rw[HPr.out]at this;exact this) hq0;unfold KQ at hmt;dsimp only at hmt;have HMt:=QQ hmt;have HR2:Hid (Qe5 (YX m ⟨oi,os,ok,pp,oq⟩) ⟨oi,os,ok,pp,oq⟩=Z2 (YX m ⟨oi,os,ok,pp,oq⟩) ⟨oi,os,ok,pp,oq⟩∧Qi3 (YX m ⟨oi,os,ok,pp,oq⟩) ⟨oi,os,ok,pp,oq⟩=(ZW (YX m ⟨oi,os,ok,pp,oq⟩) ⟨oi,os,ok,pp,oq⟩).fills):=by
            have h1: ¬((QX.mk oi os ok pp oq).kind=4∧(YX m ⟨oi,os,ok,pp,oq⟩).ph≠5):=fun h=>HR1.out ⟨h.1,fun h5=>h.2 (HPh.out.trans h5)⟩
            have h2: ¬((YX m ⟨oi,os,ok,pp,oq⟩).ph≠3):=fun h=>h (HPh.out.trans HP3.out)
            refine QQ ⟨?_, ?_⟩
            ·unfold Qe5;rw[if_neg h1,if_neg h2]
            ·unfold Qi3;rw[if_neg h1,if_neg h2]
           clear hmt hs12 hq0;rcases HD.out with d4|⟨d4,d5⟩
           all_goals
            go_wp2_with fail
            refine HMt.out.mono ?_;rintro ev w9 hft;obtain⟨A9,c9,Fs9,rfl,hun9,hro9,hne9,hre9⟩:=hft;have HFt:=QQ (show ZV wc w9 e F6 (fun Fs=>Fs=(ZW (YX m ⟨oi,os,ok,pp,oq⟩) ⟨oi,os,ok,pp,oq⟩).fills) (Z2 (YX m ⟨oi,os,ok,pp,oq⟩) ⟨oi,os,ok,pp,oq⟩) (.returned (.slice A9 (List.length Fs9) c9))from⟨A9,c9,Fs9,rfl,hun9,hro9,hne9,hre9⟩);clear hun9 hro9 hne9 hre9;go_wp2_with fail
            go_ret2;rw[HE1.out.1,HE1.out.2.1,HE1.out.2.2,HR2.out.1,HR2.out.2];exact(ZV.from_ HBs.out HFt.out).told 0
          ·have d3:=Ji6 hp3
           have HP3:=QQ hp3;clear hp3;have hli:=Jk6 wc e F6 _ HAt.out ⟨oi,os,ok,pp,oq⟩ (by have:=HFit.out;rw[HPr.out]at this;exact this);unfold KQ at hli;dsimp only at hli;have HLi:=QQ hli;have HR2:Hid (Qe5 (YX m ⟨oi,os,ok,pp,oq⟩) ⟨oi,os,ok,pp,oq⟩=Qc8 (YX m ⟨oi,os,ok,pp,oq⟩) ⟨oi,os,ok,pp,oq⟩∧Qi3 (YX m ⟨oi,os,ok,pp,oq⟩) ⟨oi,os,ok,pp,oq⟩= []):=by
            have h1: ¬((QX.mk oi os ok pp oq).kind=4∧(YX m ⟨oi,os,ok,pp,oq⟩).ph≠5):=fun h=>HR1.out ⟨h.1,fun h5=>h.2 (HPh.out.trans h5)⟩
            have h2:((YX m ⟨oi,os,ok,pp,oq⟩).ph≠3):=fun h=>HP3.out (HPh.out.symm.trans h)
            refine QQ ⟨?_, ?_⟩
            ·unfold Qe5;rw[if_neg h1,if_pos h2]
            ·unfold Qi3;rw[if_neg h1,if_pos h2]
           clear hli;rcases HD.out with d4|⟨d4,d5⟩
           all_goals
            go_wp2_with fail
            refine HLi.out.mono ?_;rintro ev w9 ⟨rfl,hto⟩;have HTo:=QQ hto;clear hto;go_wp2_with fail
            go_ret2;rw[HE1.out.1,HE1.out.2.1,HE1.out.2.2,HR2.out.1,HR2.out.2];exact J7.none_ (YZ.from_ HBs.out HTo.out) rfl
theorem Ks4 {ps:List (Int×Int)} (h:Z5 ps) {f pl:Int} (k:Ky3 ps f pl):f=0∧pl= -1:=by
 rcases k with⟨h1,-,-⟩|⟨h1,-,-⟩|⟨-,-,i,hi,-,h1,-,-⟩|⟨-,-,-,h1,h2⟩
 ·have:=h.1;omega
 ·have:=h.2.1;omega
 ·exact absurd (h.2.2 i hi) h1
 ·exact⟨h1,h2⟩
theorem Xs0 {ps:List (Int×Int)} {st dy p tk mo n pl:Int} (h:Jc4 ps st dy p tk mo n pl) (ht:Z5 ps) (hb:(Q5 p st &&Q5 p dy)=true) (hk: ¬(tk<1∨1000000<tk∨mo<0∨10<mo)):n=0∧pl= -1:=by
 rcases h with⟨h1,h2⟩|⟨-,h1,-,-⟩|⟨-,-,h1,-,-⟩|⟨-,-,-,h1,h2⟩
 ·exact absurd (Ks4 ht h1).1 h2
 ·rw[hb]at h1;cases h1
 ·exact absurd h1 hk
 ·exact⟨h1,h2⟩
theorem Jw2 (A:Option Addr) (len cap:Nat) (ps:List (Int×Int)) (st dy p tk mo:Int) (w:World) (h:O2 w A len cap ps) (hm:len≤9223372036854775807) (ht:Z5 ps) (hb:(Q5 p st &&Q5 p dy)=true) (hk: ¬(tk<1∨1000000<tk∨mo<0∨10<mo)):
  Calls Tryz.prog 15 #[.agg #[.slice A len cap,.int .i64 st,.int .i64 dy,.int .i64 p,.int .i64 tk,.int .i64 mo]] w fun e w'=>Below w.heap.size w w'∧VW (Jv9 ps st dy p tk mo)∧ ∃E F,e= .returned (.tuple #[.pointer (some ⟨E,0,none⟩),.nilIface])∧UK w' E F (Jv9 ps st dy p tk mo)∧ ∀i,F i→w.heap.size≤i:=by
 refine(Ks1 A len cap ps st dy p tk mo w h hm).mono ?_
 rintro e w' ⟨hB,⟨v,n,pl,h1,h2,h3,h4⟩|⟨h1,E,F,h2,h3,h4⟩⟩
 ·exact absurd (Xs0 h4 ht hb hk).1 h3
 ·exact⟨hB,Kk3 h1,E,F,h2,h3,h4⟩
def trP:List (Int×Int):= [(0,1),(1,2),(2,3)]
def tr0:ZJ:=Jv9 trP 1000 500 100 3 0
def tr1:ZJ:=Q8 tr0
def tr2:ZJ:=Q8 tr1
def tr3:ZJ:=OK tr2 ⟨1,2,1,101,5⟩
def tr4:ZJ:=OK tr3 ⟨2,1,2,0,2⟩
theorem Zb6:X9 tr2 ⟨1,2,1,101,5⟩=0:=by kernel_rfl
theorem Zb7:X9 tr3 ⟨2,1,2,0,2⟩=0:=by kernel_rfl
theorem Zd0:Qd3 tr3 ⟨2,1,2,0,2⟩= [⟨2,1,101,2⟩]:=by kernel_rfl
theorem Zb8:tr4.ph=3:=by kernel_rfl
theorem Za2:Z5 trP:=by unfold Z5;exact⟨by decide,by decide,by decide+kernel⟩
theorem Za3:tr0.now=0∧tr1.now=1∧tr2.now=2∧tr3.now=2:=⟨by kernel_rfl,by kernel_rfl,by kernel_rfl,by kernel_rfl⟩
theorem Ks5 (a b c d:Int) (w:World):(binOp .eql 89 (.agg #[.int .i64 a,.int .i64 b,.int .i64 c,.int .i64 d]) (.agg #[.int .i64 a,.int .i64 b,.int .i64 c,.int .i64 d])).run Tryz.prog w= .ok (.bool true) w:=by
 have hf:Tryz.prog.underlying 89=some (.struct (Tryz.prog.fieldsOf 89)):=by kernel_rfl
 have hs:Tryz.prog.stoodInHeld 89=false:=by kernel_rfl
 have hi:Tryz.prog.underlying 3=some (.int .i64):=Tryz.underlying3
 rw[run_eql_struct,run_equalIn_agg _ _ _ _ _ hf hs]
 simp[Program.fieldsOf,Tryz.underlying89,Op.eqFields,go_sem,hi]
theorem Xz7 (w:World):Calls Tryz.prog 5 #[] w fun e w'=>e= .returned (.bool true)∧Below w.heap.size w w':=by
 go_enter Tryz.func5,Tryz.ntmps5
 have hb1:Below w.heap.size w (w.alloc (.cells #[.int .i64 0,.int .i64 1,.int .i64 1,.int .i64 2,.int .i64 2,.int .i64 3] 33)):=(Below.refl _ w).alloc (Nat.le_refl _) _
 have hP:O2 (w.alloc (.cells #[.int .i64 0,.int .i64 1,.int .i64 1,.int .i64 2,.int .i64 2,.int .i64 3] 33)) (some ⟨w.heap.size,0,none⟩) 3 3 trP:=by
  have hB:=QJ.new w 33 #[.int .i64 0,.int .i64 1,.int .i64 1,.int .i64 2,.int .i64 2,.int .i64 3];refine⟨rfl,fun _=>⟨_,0,rfl,QJ.lt hB,fun i hi=> ?_⟩⟩;have hc:i=0∨i=1∨i=2:=by omega
  rcases hc with rfl|rfl|rfl
  ·exact⟨by rw[QJ.cell hB];rfl,by rw[QJ.cell hB];rfl⟩
  ·exact⟨by rw[QJ.cell hB];rfl,by rw[QJ.cell hB];rfl⟩
  ·exact⟨by rw[QJ.cell hB];rfl,by rw[QJ.cell hB];rfl⟩
 obtain⟨w1,ew1⟩: ∃W,w.alloc (.cells #[.int .i64 0,.int .i64 1,.int .i64 1,.int .i64 2,.int .i64 2,.int .i64 3] 33)=W:=⟨_,rfl⟩
 rw[ew1]at hb1 hP
 have HP:=QQ hP
 have HB1:=QQ hb1
 clear hP hb1
 go_wp2_with fail
 try rw[ew1]
 clear ew1
 refine(Jw2 _ 3 3 trP 1000 500 100 3 0 _ HP.out (by omega) Za2 (by decide) (by omega)).mono ?_
 rintro e w2 ⟨hb2,hok,e,F,rfl,hE,hF⟩
 have hok0:VW tr0:=hok
 have hE0:UK w2 e F tr0:=hE
 have HB2:=QQ (HB1.out.trans (hb2.mono HB1.out.size))
 have HF2:Hid (∀i,F i→w.heap.size≤i):=QQ (fun i hi=>Nat.le_trans HB1.out.size (hF i hi))
 clear hE hok hF hb2
 obtain⟨n0,n1,n2,n3⟩:=Za3
 have HN:=QQ (And.intro n0 (And.intro n1 (And.intro n2 n3)))
 clear n0 n1 n2 n3
 go_wp2_with fail
 refine(Jb0 hE0 (hok0.in_ (by rw[HN.out.1];omega)) (hok0.next.in_ (by show 0≤tr0.now+1∧tr0.now+1≤1000000000000;rw[HN.out.1];omega))).mono ?_
 rintro ev w3 ⟨A3,c3,Fs3,rfl,-,-,-,F3,hE1,hs3,-⟩
 have hE1:UK w3 e F3 tr1:=hE1
 have hok1:VW tr1:=hok0.tick hE1.lists
 have HB3:=QQ (HB2.out.trans (hs3.1.below HF2.out HB2.out.size))
 have HF3:Hid (∀i,F3 i→w.heap.size≤i):=QQ (fun i hi=>by rcases hs3.2 i hi with h|h;exact HF2.out i h;have:=HB2.out.size;omega)
 clear hE0 hok0 hs3
 go_wp2_with fail
 refine(Jb0 hE1 (hok1.in_ (by rw[HN.out.2.1];omega)) (hok1.next.in_ (by show 0≤tr1.now+1∧tr1.now+1≤1000000000000;rw[HN.out.2.1];omega))).mono ?_
 rintro ev w4 ⟨A4,c4,Fs4,rfl,-,-,-,F4,hE2,hs4,-⟩
 have hE2:UK w4 e F4 tr2:=hE2
 have hok2:VW tr2:=hok1.tick hE2.lists
 have HB4:=QQ (HB3.out.trans (hs4.1.below HF3.out HB3.out.size))
 have HF4:Hid (∀i,F4 i→w.heap.size≤i):=QQ (fun i hi=>by rcases hs4.2 i hi with h|h;exact HF3.out i h;have:=HB3.out.size;omega)
 clear hE1 hok1 hs4
 have hf1:Qd5 ⟨1,2,1,101,5⟩:=by unfold Qd5 V3;decide
 have hf2:Qd5 ⟨2,1,2,0,2⟩:=by unfold Qd5 V3;decide
 go_wp2_with fail
 refine(Qu3 hE2 (hok2.in_ (by rw[HN.out.2.2.1];omega)) ⟨1,2,1,101,5⟩ hf1).mono ?_
 rintro ev w5 ⟨A5,c5,Fs5,rfl,-,-,-,F5,hE3,hs5,-⟩
 have hE3:UK w5 e F5 tr3:=hE3
 have hok3:VW tr3:=hok2.order hf1 hE3.lists
 have HB5:=QQ (HB4.out.trans (hs5.1.below HF4.out HB4.out.size))
 have HF5:Hid (∀i,F5 i→w.heap.size≤i):=QQ (fun i hi=>by rcases hs5.2 i hi with h|h;exact HF4.out i h;have:=HB4.out.size;omega)
 clear hE2 hok2 hs5
 rw[Zb6,UW]
 go_wp2_with fail
 refine(Qu3 hE3 (hok3.in_ (by rw[HN.out.2.2.2];omega)) ⟨2,1,2,0,2⟩ hf2).mono ?_
 rintro ev w6 ⟨A6,c6,Fs6,rfl,hP6,hr6,-,F6,hE4,hs6,-⟩
 have hE4:UK w6 e F6 tr4:=hE4
 have hFs:Fs6= [⟨2,1,101,2⟩]:=Eq.trans hP6 Zd0
 subst hFs
 have HB6:=QQ (HB5.out.trans (hs6.1.below HF5.out HB5.out.size))
 rw[Zb7,UW]
 obtain⟨g6,rfl,hc6⟩: ∃g,A6=some ⟨g,0,none⟩∧(w6.cell? ⟨g,0,none⟩=some (.int .i64 2)∧w6.cell? ⟨g,1,none⟩=some (.int .i64 1)∧w6.cell? ⟨g,2,none⟩=some (.int .i64 101)∧w6.cell? ⟨g,3,none⟩=some (.int .i64 2)):=by
  obtain⟨g,h1,h2⟩:=QY.elem (enc:=Qb1) (xs:= [⟨2,1,101,2⟩]) Qt3 (by omega) hr6 (i:=0) (by simp);exact⟨g,h1,by simpa using h2 0 _ rfl,by simpa using h2 1 _ rfl,by simpa using h2 2 _ rfl,by simpa using h2 3 _ rfl⟩
 obtain⟨z0,z1,z2,z3⟩:=hc6
 have hph:=Qm8 hE4
 rw[Zb8]at hph
 have HPh:=QQ hph
 have heq:=Ks5 2 1 101 2
 clear hE3 hok3 hs6 hP6 hr6 hf1 hf2 hE4 hph
 go_wp2_with fail
 refine HPh.out.mono ?_
 rintro ev w7 ⟨rfl,hb7⟩
 go_wp2_with fail
 go_ret
 exact⟨rfl,HB6.out.trans (hb7.mono HB6.out.size)⟩
def pk (a n:Int):Int:=IntKind.u64.wrap a % n
theorem Z6 (a n:Int) (h:1≤n):0≤pk a n:=Int.emod_nonneg _ (by omega)
theorem Qo6 (a n:Int) (h:1≤n):pk a n<n:=Int.emod_lt_of_pos _ (by omega)
theorem Xz8 (a:Int):0≤IntKind.u64.wrap a:=by
 have h:IntKind.u64.wrap a=a % 18446744073709551616:=rfl
 rw[h];omega
theorem Kw9 (a n:Int) (h1:1≤n) (h2:n≤1000000000):wrap64 ((IntKind.u64.wrap a).tmod n)=pk a n:=by
 rw[Int.tmod_eq_emod_of_nonneg (Xz8 a)]
 have:=Z6 a n h1
 have:=Qo6 a n h1
 unfold pk at*
 unfold wrap64
 omega
theorem Qa4 (a n:Int) (w:World) (h1:1≤n) (h2:n≤1000000000):
  Calls Tryz.prog 34 #[.int .i64 a,.int .i64 n] w fun e w'=>e= .returned (.int .i64 (pk a n))∧w=w':=by
 go_enter Tryz.func34,Tryz.ntmps34
 go_wp2
 go_ret
 exact⟨O5 (Kw9 a n h1 h2),rfl⟩
end Go.Proofs.YtnlngicnfegjgaaGreatDoor
namespace Go.Proofs.YtnlngicnfegjgaaGreatDoor
open Go.ChangeMaps Go.RowKit
def Qv2 (w:World) (r:Nat) (f:Int→Option Value):Prop:=
 ∃es c,Q4 w r es c∧Qh1 es∧(es.map Jf0).Nodup∧(es.map (·.born)).Nodup∧(∀e∈es,e.born<c)∧ ∀k,Z4 es k=f k
section
variable {w w':World} {r:Nat} {f:Int→Option Value}
theorem Qv2.imap (h:Qv2 w r f):I6 w r f:=by
 obtain⟨es,c,h1,h2,h3,-,-,h4⟩:=h
 exact⟨es,c,h1,h2,h3,h4⟩
theorem Qv2.lt (h:Qv2 w r f):r<w.heap.size:=h.imap.lt
theorem Qv2.of_block (h:Qv2 w r f) (hb:w'.heap[r]?=w.heap[r]?):Qv2 w' r f:=by
 obtain⟨es,c,h,hr⟩:=h
 exact⟨es,c,h.of_block hb,hr⟩
theorem Qv2.made (w:World):Qv2 (w.alloc (.map #[] 0)) w.heap.size fun _=>none:=
 ⟨[],0,Q4.made w,by simp[Qh1],by simp,by simp,by simp,by simp[Z4]⟩
theorem Qy8 (es:List MapEntry) (i:Nat) (g:MapEntry→MapEntry) (hg: ∀e,(g e).born=e.born):(es.modify i g).map (·.born)=es.map (·.born):=by
 apply List.ext_getElem
 ·simp
 ·intro j h1 h2
  simp only[List.getElem_map,List.getElem_modify]
  split
  ·exact hg _
  ·rfl
theorem Qy9 {es:List MapEntry} {c:Nat} (h: ∀e∈es,e.born<c) (i:Nat) (g:MapEntry→MapEntry) (hg: ∀e,(g e).born=e.born): ∀e∈es.modify i g,e.born<c:=by
 intro e he
 have h1:e.born∈(es.modify i g).map (·.born):=List.mem_map.2 ⟨e,he,rfl⟩
 rw[Qy8 es i g hg]at h1
 obtain⟨e',he',h2⟩:=List.mem_map.1 h1
 rw[←h2];exact h e' he'
theorem Qz0 {es:List MapEntry} {c:Nat} (h1:(es.map (·.born)).Nodup) (h2: ∀e∈es,e.born<c) (k v:Value):((es++ [MapEntry.mk k v c]).map (·.born)).Nodup∧ ∀e∈es++ [MapEntry.mk k v c],e.born<c+1:=by
 refine⟨?_,fun e he=> ?_⟩
 ·rw[List.map_append,List.nodup_append]
  refine⟨h1,by simp,fun a ha b hb=> ?_⟩;obtain⟨e,he,rfl⟩:=List.mem_map.1 ha;have:b=c:=by simpa using hb
  have:=h2 e he;omega
 ·rcases List.mem_append.1 he with he|he
  ·have:=h2 e he;omega
  ·have:e=⟨k,v,c⟩:=by simpa using he
   rw[this];exact Nat.lt_succ_self _
theorem Xe3 {es:List MapEntry} {k:Int} (hK:Qh1 es) (hN:(es.map Jf0).Nodup) (hno: ∀e∈es,e.key≠ .int .i64 k) (v:Value) (c:Nat):Qh1 (es++ [MapEntry.mk (.int .i64 k) v c])∧((es++ [MapEntry.mk (.int .i64 k) v c]).map Jf0).Nodup:=by
 refine⟨fun e he=> ?_, ?_⟩
 ·rcases List.mem_append.1 he with he|he
  ·exact hK e he
  ·simp at he;subst he;exact⟨k,rfl⟩
 ·rw[List.map_append,List.nodup_append]
  refine⟨hN,by simp,fun a ha b hb=> ?_⟩;simp[Jf0]at hb;subst hb;obtain⟨e,he,rfl⟩:=List.mem_map.1 ha;obtain⟨n,hn⟩:=hK e he;rw[Qn6 hn];rintro rfl;exact hno e he hn
theorem Kl0 {e:MapEntry} {k:Int} (h:e.key= .int .i64 k):({e with key:= .int .i64 k}:MapEntry)=e:=by cases e;simp at h;subst h;rfl
theorem Xz9 {es:List MapEntry} {i:Nat} {k:Int} (hi:i<es.length) (hkey:es[i].key= .int .i64 k) (v:Value):(es.modify i fun e=> {e with val:=v})=es.modify i fun e=> {e with key:= .int .i64 k,val:=v}:=by
 apply List.ext_getElem
 ·simp
 ·intro j h1 h2
  rw[List.getElem_modify,List.getElem_modify]
  split
  ·rename_i e;subst e;simp[hkey]
  ·rfl
theorem Ka0 {es:List MapEntry} {i:Nat} {k:Int} (hi:i<es.length) (hkey:es[i].key= .int .i64 k):(es.modify i fun e=> {e with key:= .int .i64 k})=es:=by
 apply List.ext_getElem
 ·simp
 ·intro j h1 h2
  rw[List.getElem_modify]
  split
  ·rename_i e;subst e;exact Kl0 hkey
  ·rfl
theorem Kl1 {es:List MapEntry} (hb:(es.map (·.born)).Nodup) {i:Nat} (hi:i<es.length):es.findIdx? (fun e=>(e.born:Int) == (es[i].born:Int))=some i:=by
 rw[List.findIdx?_eq_some_iff_getElem]
 refine⟨hi,by simp,fun j hj=> ?_⟩
 intro e
 have h0:(es[j].born:Int)=(es[i].born:Int):=by simpa using e
 have h1:es[j].born=es[i].born:=by omega
 have h2:(es.map (·.born))[j]'(by simp;omega)=(es.map (·.born))[i]'(by simpa using hi):=by simpa using h1
 have:=(List.getElem_inj hb).1 h2
 omega
variable {P:Program} {t kt et:TypeId} (ht:P.underlying t=some (.map kt et)) (hk:P.underlying kt=some (.int .i64))
theorem Qz1 {es:List MapEntry} {c:Nat} (h:Q4 w r es c) (hb:(es.map (·.born)).Nodup) {i:Nat} (hi:i<es.length) (v:Value):
  (Instr.entryStore t (.map (some r)) (goInt es[i].born) v).run P w= .ok () (setBlock w r (.map (es.modify i fun e=> {e with val:=v}).toArray c)):=by
 have hr:w.heap[r]?=some (.map es.toArray c):=h
 have hf:=Kl1 hb hi
 simp[Instr.entryStore,getObj,Sem.run,hr,goInt,asInt,asIntOf,hf,setObj,setBlock]
include ht hk in
theorem Qv2.update (h:Qv2 w r f) (k:Int) (v:Value):
  ∃w',(Instr.mapUpdate t (.map (some r)) (.int .i64 k) v).run P w= .ok () w'∧Qv2 w' r (Z7 f k (some v))∧IV w w' r:=by
 obtain⟨es,c,h,hK,hN,hB,hL,hf⟩:=h
 obtain⟨x,hx,hl,hs,hno⟩:=I4 es k 0 hK
 have hfe:Z4 es=f:=funext hf
 rcases x with _|⟨i,v0⟩
 ·obtain⟨p1,p2⟩:=Qz0 hB hL (.int .i64 k) v
  obtain⟨p3,p4⟩:=Xe3 hK hN (hno rfl) v c;refine⟨_,Qa8 ht hk J8 h _ v hx,⟨_,_,h.set _ _,p3,p4,p1,p2, ?_⟩,UV _ _ _⟩;rw[←hfe];exact Qk6 es (MapEntry.mk (.int .i64 k) v c) k rfl (hno rfl) hK
 ·obtain⟨_,h2,h3,h4,h5⟩:=hs i v0 rfl
  simp only[Nat.sub_zero]at h2 h3 h4;have hr:w.heap[r]?=some (.map es.toArray c):=h;refine⟨setBlock w r (.map (es.modify i fun e=> {e with key:= .int .i64 k,val:=v}).toArray c), ?_,⟨_,_,h.set _ _,Ql6 hK, ?_, ?_, ?_, ?_⟩,UV _ _ _⟩
  ·have hst: ∀w0:World,(Instr.keyThatStays (.int .i64 k) (.int .i64 k)).run P w0= .ok (.int .i64 k) w0:=by
    intro w0;simp[Instr.keyThatStays,Instr.sameBits]
   have hidx:es[i]?=some es[i]:=by simp[h2]
   have e3:Instr.findNow (.int .i64) (.int .i64 k) es 0=some (some (i,v0)):=hx;simp[Instr.mapUpdate,run_underlying ht,getObj,Sem.run,hr,U8 hk J8,I3 hk (.int .i64 k) (some (i,v0)) e3,setObj,setBlock,hidx,h3,hst]
  ·rw[Qj7 h2 h3];exact hN
  ·rw[Qy8 es i (fun e=> {e with key:= .int .i64 k,val:=v}) (fun _=>rfl)];exact hB
  ·exact Qy9 hL i _ (fun _=>rfl)
  ·rw[←hfe]
   exact Qk5 es i k v hK hN h2 h3
include ht hk in
theorem Qv2.entry (h:Qv2 w r f) {z:Value} (hz:(zeroValue et).run P w= .ok z w) (k:Int):
  ∃(v0:Value) (st:Nat) (w1:World),(Instr.mapEntry t (.map (some r)) (.int .i64 k)).run P w= .ok (.tuple #[v0,goInt st]) w1∧IV w w1 r∧
   ∀(w2:World) (v:Value),w2.heap[r]?=w1.heap[r]?→ ∃w3,(Instr.entryStore t (.map (some r)) (goInt st) v).run P w2= .ok () w3∧Qv2 w3 r (Z7 f k (some v))∧IV w2 w3 r:=by
 obtain⟨es,c,h,hK,hN,hB,hL,hf⟩:=h
 obtain⟨x,hx,hl,hs,hno⟩:=I4 es k 0 hK
 have hfe:Z4 es=f:=funext hf
 have hr:w.heap[r]?=some (.map es.toArray c):=h
 rcases x with _|⟨i,v0⟩
 ·obtain⟨p1,p2⟩:=Qz0 hB hL (.int .i64 k) z
  have e3:Instr.findNow (.int .i64) (.int .i64 k) es 0=some none:=hx;refine⟨z,c,setBlock w r (.map (es++ [MapEntry.mk (.int .i64 k) z c]).toArray (c+1)), ?_,UV _ _ _,fun w2 v h2=> ?_⟩
  ·simp[Instr.mapEntry,run_underlying ht,getObj,Sem.run,hr,U8 hk J8,I3 hk (.int .i64 k) none e3,hz,setObj,setBlock]
  ·have hM:Q4 w2 r (es++ [MapEntry.mk (.int .i64 k) z c]) (c+1):=(h.set _ _).of_block h2
   have hi:es.length< (es++ [MapEntry.mk (.int .i64 k) z c]).length:=by simp
   have hrun:=Qz1 (P:=P) (t:=t) hM p1 hi v;have e1:(es++ [MapEntry.mk (.int .i64 k) z c])[es.length].born=c:=by simp
   rw[e1]at hrun;have e2:((es++ [MapEntry.mk (.int .i64 k) z c]).modify es.length fun e=> {e with val:=v})=es++ [MapEntry.mk (.int .i64 k) v c]:=by
    apply List.ext_getElem
    ·simp
    ·intro j h1 h3
     rw[List.getElem_modify]
     by_cases hj:es.length=j
     ·subst hj;simp
     ·have:j<es.length:=by simp at h3;omega
      rw[if_neg hj,List.getElem_append_left this,List.getElem_append_left this]
   rw[e2]at hrun;obtain⟨q1,q2⟩:=Qz0 hB hL (.int .i64 k) v;obtain⟨p3,p4⟩:=Xe3 hK hN (hno rfl) v c;refine⟨_,hrun,⟨_,_,hM.set _ _,p3,p4,q1,q2, ?_⟩,UV _ _ _⟩;rw[←hfe];exact Qk6 es (MapEntry.mk (.int .i64 k) v c) k rfl (hno rfl) hK
 ·obtain⟨_,h2,h3,h4,h5⟩:=hs i v0 rfl
  simp only[Nat.sub_zero]at h2 h3 h4;have hst: ∀w0:World,(Instr.keyThatStays (.int .i64 k) (.int .i64 k)).run P w0= .ok (.int .i64 k) w0:=by
   intro w0;simp[Instr.keyThatStays,Instr.sameBits]
  have hidx:es[i]?=some es[i]:=by simp[h2]
  have e3:Instr.findNow (.int .i64) (.int .i64 k) es 0=some (some (i,v0)):=hx;have hme:=Ka0 h2 h3;refine⟨v0,es[i].born,setBlock w r (.map es.toArray c), ?_,UV _ _ _,fun w2 v h6=> ?_⟩
  ·have hre:(Instr.mapEntry t (.map (some r)) (.int .i64 k)).run P w= .ok (.tuple #[v0,goInt es[i].born]) (setBlock w r (.map (es.modify i fun e=> {e with key:= .int .i64 k}).toArray c)):=by
    simp[Instr.mapEntry,run_underlying ht,getObj,Sem.run,hr,U8 hk J8,I3 hk (.int .i64 k) (some (i,v0)) e3,setObj,setBlock,hidx,h3,hst]
   rw[hme]at hre;exact hre
  ·have hM:Q4 w2 r es c:=(h.set _ _).of_block h6
   have hrun:=Qz1 (P:=P) (t:=t) hM hB h2 v;rw[Xz9 h2 h3 v]at hrun;refine⟨_,hrun,⟨_,_,hM.set _ _,Ql6 hK,by rw[Qj7 h2 h3];exact hN,by rw[Qy8 es i (fun e=> {e with key:= .int .i64 k,val:=v}) (fun _=>rfl)];exact hB,Qy9 hL i _ (fun _=>rfl), ?_⟩,UV _ _ _⟩;rw[←hfe];exact Qk5 es i k v hK hN h2 h3
end
def Jw3 (i:Nat):Int:= [3,4,60,6,1].getD i 0
def Jw4 (i:Nat):Int:= [1,2,3,5,7].getD i 0
def Jo9 (l:List Int) (i:Nat):Int:=1+ (if i<l.length then pk (l.getD i 0) (Jw3 i)else 0)
def X6 (l:List Int):Nat→Int
 |0=>0
 |k+1=>X6 l k+Jo9 l k
def Qi1 (l:List Int) (k:Nat):List (Int×Int):=(List.range k).map fun i=>(X6 l i,Jw4 i)
theorem Qr8 {i:Nat} (h:i<5):1≤Jw3 i∧Jw3 i≤60:=by
 have hc:i=0∨i=1∨i=2∨i=3∨i=4:=by omega
 rcases hc with rfl|rfl|rfl|rfl|rfl<;>exact⟨by decide,by decide⟩
theorem Xi8 (l:List Int) {i:Nat} (h:i<5):1≤Jo9 l i∧Jo9 l i≤60:=by
 obtain⟨h1,h2⟩:=Qr8 h
 unfold Jo9
 split
 ·have a:=Z6 (l.getD i 0) (Jw3 i) h1
  have b:=Qo6 (l.getD i 0) (Jw3 i) h1;omega
 ·omega
theorem Qr9 (l:List Int): ∀k,k≤5→0≤X6 l k∧X6 l k≤60*k
 |0,_=>⟨Int.le_refl _,Int.le_refl _⟩
 |k+1,h=>by
  obtain⟨h1,h2⟩:=Qr9 l k (by omega);obtain⟨h3,h4⟩:=Xi8 l (i:=k) (by omega);show 0≤X6 l k+Jo9 l k∧X6 l k+Jo9 l k≤60* ((k+1:Nat):Int);omega
theorem Qf5 (l:List Int) (k:Nat):(Qi1 l k).length=k:=by simp[Qi1]
theorem Qz2 (l:List Int) {k i:Nat} (h:i<k):(Qi1 l k).getD i (0,0)=(X6 l i,Jw4 i):=by
 simp[Qi1,List.getD_eq_getElem?_getD,h]
theorem Xe4 (l:List Int) (k:Nat):Qi1 l (k+1)=Qi1 l k++ [(X6 l k,Jw4 k)]:=by
 simp[Qi1,List.range_succ]
theorem Kx0 (l:List Int):Z5 (Qi1 l 5):=by
 refine⟨by rw[Qf5];omega,by rw[Qf5];omega,fun j hj=> ?_⟩
 rw[Qf5]at hj
 cases j with
 |zero=>
  unfold J0;rw[Qz2 l (by omega)]
  rfl
 |succ k=>
  show Qh2 ((Qi1 l 5).getD k (0,0)).1 ((Qi1 l 5).getD k (0,0)).2 ((Qi1 l 5).getD (k+1) (0,0)).1 ((Qi1 l 5).getD (k+1) (0,0)).2=0;rw[Qz2 l (show k<5 by omega),Qz2 l (show k+1<5 by omega)];obtain⟨h1,h2⟩:=Qr9 l (k+1) (by omega);have h3:X6 l (k+1)=X6 l k+Jo9 l k:=rfl;obtain⟨h4,h5⟩:=Xi8 l (i:=k) (by omega);refine Xk1 ?_ (by show X6 l k<X6 l (k+1);omega) (by show X6 l (k+1)≤1000000;omega);have hc:k=0∨k=1∨k=2∨k=3:=by omega
  rcases hc with rfl|rfl|rfl|rfl<;>rfl
def O1 (w:World) (r:Nat) (f:Int→Int):Prop:= ∃g,Qv2 w r g∧ ∀k,(g k).getD (.int .i64 0)= .int .i64 (f k)
structure Qn4 where
 st:Int
 dy:Int
 pr:Int
 tk:Int
 mo:Int
def Jp0 (l:List Int) (c:Qn4):ZJ:=Jv9 (Qi1 l 5) c.st c.dy c.pr c.tk c.mo
def Ji2 (e L S:Nat) (A:Option Addr) (cap:Nat) (c:Qn4) (since:Int) (hands:Bool):Array Value:=
 #[.pointer (some ⟨e,0,none⟩),.slice A 5 cap,.int .i64 c.st,.int .i64 c.dy,.int .i64 c.pr,.int .i64 c.tk,.int .i64 c.mo,.map (some L),.map (some S),.int .i64 since,.bool hands]
structure Qc9 (w:World) (D e L S:Nat) (A:Option Addr) (cap:Nat) (l:List Int) (c:Qn4) (F:Nat→Prop) (m:ZJ) (lots side:Int→Int) (since:Int) (hands:Bool):Prop where
 box:QJ w D 40 (Ji2 e L S A cap c since hands)
 eng:UK w e F m
 lots_:O1 w L lots
 side_:O1 w S side
 tab:O2 w A 5 cap (Qi1 l 5)
 cfg:YK (Jp0 l c) m
 nD: ¬F D
 nL: ¬F L
 nS: ¬F S
 nA: ∀g,QZ A=some g→ ¬F g
 dl:D≠L
 ds:D≠S
 ls:L≠S
 ad: ∀g,QZ A=some g→g≠D∧g≠L∧g≠S
theorem O1.of_block {w w':World} {r:Nat} {f:Int→Int} (h:O1 w r f) (hb:w'.heap[r]?=w.heap[r]?):O1 w' r f:=by
 obtain⟨g,h1,h2⟩:=h
 exact⟨g,h1.of_block hb,h2⟩
theorem O1.lt {w:World} {r:Nat} {f:Int→Int} (h:O1 w r f):r<w.heap.size:=by obtain⟨g,h1,-⟩:=h;exact h1.lt
theorem Qc9.keeps {w w':World} {D e L S:Nat} {A:Option Addr} {cap:Nat} {l:List Int} {c:Qn4} {F:Nat→Prop} {m:ZJ} {lots side:Int→Int} {since:Int} {hands:Bool} {Z:Nat→Prop} (h:Qc9 w D e L S A cap l c F m lots side since hands) (hk:QK Z w w') (hF: ∀i,F i→ ¬Z i) (hD: ¬Z D) (hL: ¬Z L) (hS: ¬Z S) (hA: ∀g,QZ A=some g→ ¬Z g):Qc9 w' D e L S A cap l c F m lots side since hands:=
 ⟨QJ.keeps h.box hk hD,h.eng.keeps hk hF,h.lots_.of_block (hk.block _ h.lots_.lt hL),h.side_.of_block (hk.block _ h.side_.lt hS),h.tab.keeps hk hA,h.cfg,h.nD,h.nL,h.nS,h.nA,h.dl,h.ds,h.ls,h.ad⟩
theorem Qc9.below {w w':World} {D e L S:Nat} {A:Option Addr} {cap:Nat} {l:List Int} {c:Qn4} {F:Nat→Prop} {m:ZJ} {lots side:Int→Int} {since:Int} {hands:Bool} (h:Qc9 w D e L S A cap l c F m lots side since hands) (hb:Below w.heap.size w w'):Qc9 w' D e L S A cap l c F m lots side since hands:=
 h.keeps (QK.of_below hb (fun _=>False)) (fun _ _=>id) id id id (fun _ _=>id)
theorem Qc9.engTo {w w':World} {D e L S:Nat} {A:Option Addr} {cap:Nat} {l:List Int} {c:Qn4} {F F1:Nat→Prop} {m m1:ZJ} {lots side:Int→Int} {since:Int} {hands:Bool} (h:Qc9 w D e L S A cap l c F m lots side since hands) (hE:UK w' e F1 m1) (hs:XW w w' F F1) (hA: ∀g,QZ A=some g→g<w.heap.size) (hc:YK m m1):Qc9 w' D e L S A cap l c F1 m1 lots side since hands:=by
 have n: ∀ {i:Nat},i<w.heap.size→ ¬F i→ ¬F1 i:=fun {i} hi hF h1=>by
  rcases hs.2 i h1 with h2|h2
  ·exact hF h2
  ·omega
 exact⟨QJ.keeps h.box hs.1 h.nD,hE,h.lots_.of_block (hs.1.block _ h.lots_.lt h.nL),h.side_.of_block (hs.1.block _ h.side_.lt h.nS),h.tab.keeps hs.1 h.nA,h.cfg.trans hc,n (QJ.lt h.box) h.nD,n h.lots_.lt h.nL,n h.side_.lt h.nS,fun g hg=>n (hA g hg) (h.nA g hg),h.dl,h.ds,h.ls,h.ad⟩
end Go.Proofs.YtnlngicnfegjgaaGreatDoor
