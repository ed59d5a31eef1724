/- Contracts and walks that the law's proof needs. -/
import Derived.WalkKit
import Derived.WalkLawsBesides
import Derived.WalkSpells
import Derived.StillTailTactics
import Derived.Deep.QuietTactic
import Derived.BigQuiet
import Derived.Deep.DeepCutAuto
import Derived.Deep.CutBlock
import Derived.Test.YtnlngicnfegjgaaGreatZf46
import Derived.Test.YtnlngicnfegjgaaGreatZf47
import Derived.Test.YtnlngicnfegjgaaGreatZf48
import Derived.Test.YtnlngicnfegjgaaGreatZf8
set_option linter.unusedVariables false
set_option maxRecDepth 100000
set_option maxHeartbeats 8000000
namespace Go.Proofs.YtnlngicnfegjgaaGreat
open Go.RowKit
theorem Xz0 {w:World} {e:Nat} {F:Nat→Prop} {m:ZX} (h:UY w e F m) (hI:Qj4 m) (o:QX) (hs:VV o.side) (hf:Qe5 o) (hq:0≤o.qty):
  Calls Tryz.prog 30 #[.pointer (some ⟨e,0,none⟩),KQ o] w fun ev w'=>VQ w w' e F (fun Fs=>Fs=(ZV m o).fills) (Z1 m o) ev:=by
 obtain⟨oi,os,ok,op,oq⟩:=o
 rcases hs with e1|e1
 ·have e2:os=1:=e1
  subst e2;exact Kq5 h hI oi ok op oq hf hq
 ·have e2:os=2:=e1
  subst e2;exact Kq6 h hI oi ok op oq hf hq
theorem Ku7 {w:World} {r c:Nat} {es:List MapEntry} (h:Q3 w r es c) (hK:Qg9 es) (k:Int) (v:Value) (hn:Z2 es k=none):
  ∃w' es' c',(Instr.mapUpdate 71 (.map (some r)) (.int .i64 k) v).run Tryz.prog w= .ok () w'∧Q3 w' r es' c'∧Qg9 es'∧IV w w' r∧ ∀j,Z2 es' j=if j=k then some v else Z2 es j:=by
 obtain⟨x,hx,hl,hs,hno⟩:=I4 es k 0 hK
 have hx0:x=none:=by
  rw[hn]at hl
  cases x with
  |none=>rfl
  |some y=>simp at hl
 subst hx0
 refine⟨_,_,_,Qa8 Tryz.underlying71 Tryz.underlying3 J7 h _ v hx,h.set _ _, ?_,UZ _ _ _, ?_⟩
 ·intro e he
  rcases List.mem_append.1 he with he|he
  ·exact hK e he
  ·obtain rfl:e=_:=by simpa using he
   exact⟨k,rfl⟩
 ·intro j
  rw[Qk3 es _ k rfl (hno rfl) hK j];unfold Z5
  rfl
theorem Ku8 {w:World} {r c:Nat} {es:List MapEntry} (h:Q3 w r es c) (hK:Qg9 es) (k:Int) {b:Bool} (hb:Z2 es k=if b=true then some (.bool true)else none):
  (Instr.lookup 71 (.map (some r)) (.int .i64 k) false).run Tryz.prog w= .ok (.bool b) w:=by
 obtain⟨x,hx,hl,-,-⟩:=I4 es k 0 hK
 rw[Qo4 (z:= .bool false) Tryz.underlying71 Tryz.underlying3 J7 h _ (by kernel_rfl) false x hx,hl,hb]
 cases b<;>rfl
theorem Qj4.taken {m:ZX} (h:Qj4 m) (o:QX):Qj4 (YX m o):=⟨h.tab,h.tk,h.la,h.now,h.lng,h.pk,h.pkn⟩
theorem Kc5 {o:QX}:Xh2 o=true↔(o.side≠1∧o.side≠2∨o.kind<1∨4<o.kind∨o.id<1):=by unfold Xh2;simp
theorem Kj5 {oi os ok op oq:Int} (h:Xh2 ⟨oi,os,ok,op,oq⟩=false):VV os:=by
 have h1: ¬(os≠1∧os≠2∨ok<1∨4<ok∨oi<1):=fun x=>by
  have h2:=(Kc5 (o:=⟨oi,os,ok,op,oq⟩)).2 x;rw[h]at h2;exact Bool.noConfusion h2
 unfold VV
 omega
theorem Jd7 {w:World} {e:Nat} {F:Nat→Prop} {m:ZX} (h:UY w e F m) (hI:Qj4 m) (o:QX) (hf:Qe5 o):
  Calls Tryz.prog 9 #[.pointer (some ⟨e,0,none⟩),KQ o] w fun ev w'=>J6 w w' e F (fun Fs=>Fs=Qd3 m o) (IQ m o) (V0 m o) ev:=by
 have hE:=h
 obtain⟨cs,tb,bb,bk,im,T,tc,Al,lc,lv,bu,se,Ap,pc,es,mc,G,own,hM,hF⟩:=h
 obtain⟨pp,hpp⟩: ∃p,(JJ o).price=p:=⟨_,rfl⟩
 obtain⟨bd,hbd⟩: ∃b,Xh2 o=b:=⟨_,rfl⟩
 obtain⟨rb,hrb⟩: ∃b,Qq5 o=b:=⟨_,rfl⟩
 obtain⟨tb_,htb⟩: ∃b,Qh2 m.ph o.kind=b:=⟨_,rfl⟩
 obtain⟨kn,hkn⟩: ∃b,decide (o.id∈m.ids)=b:=⟨_,rfl⟩
 have HPr:Hid (JJ o=⟨o.id,o.side,o.kind,pp,o.qty⟩):=QQ (by rw[←hpp];rfl)
 have HBd:=QQ hbd
 have HRb:Hid (J5 pp o.qty=rb):=QQ (by rw[←hpp];exact hrb)
 have HRb0:=QQ hrb
 have HTb:=QQ htb
 have HKn:=QQ hkn
 have HFit:Hid (Qe5 (JJ o)):=QQ (by
  refine⟨hf.1,hf.2.1,hf.2.2.1, ?_,hf.2.2.2.2⟩;show U1 (if o.kind=2 then 1 else o.price)
  split
  ·unfold U1;omega
  ·exact hf.2.2.2.1)
 have HE:=QQ hE
 have HF:=QQ hF
 have HI:=QQ hI
 have HM:=QQ hM
 have HPp:Hid ((if o.kind=2 then 1 else o.price)=pp):=QQ hpp
 obtain⟨X,eX⟩: ∃g,w.heap.size=g:=⟨_,rfl⟩
 have HX0:=QQ eX
 obtain⟨oi,os,ok,op,oq⟩:=o
 dsimp only at HPr HRb HPp HTb HKn
 have hb0:Below w.heap.size w (w.alloc (.cells #[.int .i64 oi,.int .i64 os,.int .i64 ok,.int .i64 op,.int .i64 oq] 29)):=(Below.refl _ w).alloc (Nat.le_refl _) _
 have hbx:=QJ.new w 29 #[.int .i64 oi,.int .i64 os,.int .i64 ok,.int .i64 op,.int .i64 oq]
 obtain⟨w0,ew0⟩: ∃W,w.alloc (.cells #[.int .i64 oi,.int .i64 os,.int .i64 ok,.int .i64 op,.int .i64 oq] 29)=W:=⟨_,rfl⟩
 rw[ew0]at hb0 hbx
 rw[eX]at hbx
 have HB0:=QQ hb0
 have HX:=QQ hbx
 obtain⟨x0,x1,x2,x3,x4⟩:=Y2 hbx
 have xf:=QJ.frozen hbx 3
 unfold KQ
 dsimp only
 clear hE hM hF hI hf hpp hbd hrb htb hkn hb0 hbx
 go_enter Tryz.func9,Tryz.ntmps9
 go_upto_region 1 with fail
 try rw[ew0]
 try rw[eX]
 clear ew0 eX
 go_upto_if 8 with fail
 go_cut [] (fun wx=>Hid (Below w.heap.size w wx∧QJ wx X 29 #[.int .i64 oi,.int .i64 os,.int .i64 ok,.int .i64 pp,.int .i64 oq]))
 case first=>
  by_cases hk:ok=2
  ·have d1:=J3 hk
   have e1:pp=1:=by rw[←HPp.out,if_pos hk]
   have H1:=QQ e1;clear hk e1;go_wp2_with fail
   go_meet;rw[H1.out];exact QQ ⟨HB0.out.trans ((QK.set_ w0 ⟨X,3,none⟩ (.int .i64 1)).below (fun i e=>by have h1:=HX0.out;have h2:i=X:=e;omega) HB0.out.size),QJ.set_ HX.out 3 (.int .i64 1)⟩
  ·have d1:=UX hk
   have e1:pp=op:=by rw[←HPp.out,if_neg hk]
   have H1:=QQ e1;clear hk e1;go_wp2_with fail
   go_meet;rw[H1.out];exact QQ ⟨HB0.out,HX.out⟩
 case rest=>
  obtain⟨hb1,hx1⟩:=hcut.out;have HB1:=QQ hb1;have HX1:=QQ hx1;clear x0 x1 x2 x3 x4 xf HB0 HX hcut hb1;obtain⟨x0,x1,x2,x3,x4⟩:=Y2 hx1;clear hx1;obtain⟨w1,ew1⟩: ∃W,wc=W:=⟨_,rfl⟩;rw[ew1]at HB1 HX1 x0 x1 x2 x3 x4⊢;clear ew1;go_upto_region 3 with fail
  go_cut [10] (fun s10 wx=>s10= .bool bd∧wx=w1)
  case first=>
   have key: ∀b:Bool,(b=true↔(os≠1∧os≠2∨ok<1∨4<ok∨oi<1))→b=bd:=fun b hb=>by
    rw[←HBd.out];exact Bool.eq_iff_iff.2 (hb.trans (Kc5 (o:=⟨oi,os,ok,op,oq⟩)).symm)
   by_cases hs1:os=1
   ·have t1:=Ji1 hs1
    by_cases hk1:ok<1
    ·have t2:=J4 hk1
     have HK:=QQ (key true (by simp;omega));clear key hs1 hk1;go_wp2_with fail
     go_meet;exact⟨congrArg Value.bool HK.out,rfl⟩
    ·have t2:=OY hk1
     by_cases hk4:ok>4
     ·have t3:=J4 hk4
      have HK:=QQ (key true (by simp;omega));clear key hs1 hk1 hk4;go_wp2_with fail
      go_meet;exact⟨congrArg Value.bool HK.out,rfl⟩
     ·have t3:=OY hk4
      by_cases hi1:oi<1
      ·have t4:=J4 hi1
       have HK:=QQ (key true (by simp;omega));clear key hs1 hk1 hk4 hi1;go_wp2_with fail
       go_meet;exact⟨congrArg Value.bool HK.out,rfl⟩
      ·have t4:=OY hi1
       have HK:=QQ (key false (by simp;omega));clear key hs1 hk1 hk4 hi1;go_wp2_with fail
       go_meet;exact⟨congrArg Value.bool HK.out,rfl⟩
   ·have t1:=Ji2 hs1
    by_cases hs2:os=2
    ·have t5:=Ji1 hs2
     by_cases hk1:ok<1
     ·have t2:=J4 hk1
      have HK:=QQ (key true (by simp;omega));clear key hs1 hs2 hk1;go_wp2_with fail
      go_meet;exact⟨congrArg Value.bool HK.out,rfl⟩
     ·have t2:=OY hk1
      by_cases hk4:ok>4
      ·have t3:=J4 hk4
       have HK:=QQ (key true (by simp;omega));clear key hs1 hs2 hk1 hk4;go_wp2_with fail
       go_meet;exact⟨congrArg Value.bool HK.out,rfl⟩
      ·have t3:=OY hk4
       by_cases hi1:oi<1
       ·have t4:=J4 hi1
        have HK:=QQ (key true (by simp;omega));clear key hs1 hs2 hk1 hk4 hi1;go_wp2_with fail
        go_meet;exact⟨congrArg Value.bool HK.out,rfl⟩
       ·have t4:=OY hi1
        have HK:=QQ (key false (by simp;omega));clear key hs1 hs2 hk1 hk4 hi1;go_wp2_with fail
        go_meet;exact⟨congrArg Value.bool HK.out,rfl⟩
    ·have t5:=Ji2 hs2
     have HK:=QQ (key true (by simp;omega));clear key hs1 hs2;go_wp2_with fail
     go_meet;exact⟨congrArg Value.bool HK.out,rfl⟩
  case rest=>
   obtain⟨rfl,rfl⟩:=hcut
   cases bd with
   |true=>
    have HS:Hid (V0 m ⟨oi,os,ok,op,oq⟩=1):=QQ (by unfold V0;rw[if_pos HBd.out]);have e1:YZ 1= .iface 68 (.int .i64 1):=rfl;go_wp2_with fail
    go_ret2;unfold IQ Qd3;rw[HS.out,if_neg (by decide),if_neg (by decide)];exact J6.none_ (YK.same HE.out HB1.out) rfl
   |false=>
    go_wp2_with fail
    refine(U5 _ _ _).mono ?_;rintro ev w2 ⟨rfl,hb2⟩;rw[HRb.out];have HB2:=QQ (HB1.out.trans (hb2.mono HB1.out.size));have HX2:=QQ (QJ.keep HX1.out hb2);clear x0 x1 x2 x3 x4 hb2 HB1 HX1
    cases rb with
    |false=>
     have HS:Hid (V0 m ⟨oi,os,ok,op,oq⟩=2):=QQ (by unfold V0;rw[if_neg (by rw[HBd.out];decide),if_pos HRb0.out]);go_wp2_with fail
     go_ret2;unfold IQ Qd3;rw[HS.out,if_neg (by decide),if_neg (by decide)];exact J6.none_ (YK.same HE.out HB2.out) rfl
    |true=>
     have hM2:=HM.out.below HB2.out;have c14:=hM2.cell hM2.ec.c14;have HM2:=QQ hM2;obtain⟨x0,x1,x2,x3,x4⟩:=Y2 HX2.out;obtain⟨ph,hph⟩: ∃p,m.ph=p:=⟨_,rfl⟩;rw[hph]at c14 HTb;have HPh:=QQ hph;have hpt: ∀W,Calls Tryz.prog 27 #[.int .i64 ph,.int .i64 ok] W fun e w'=>e= .returned (.bool tb_)∧w'=W:=fun W=>(Ke1 ph ok W).mono (fun _ _ ⟨h1,h2⟩=>⟨h1.trans (by rw[HTb.out]),h2.symm⟩)
     have HPt:=QQ hpt;clear hpt;clear hM2 hph;go_wp2_with fail
     go_quiet ((go_at_call 27;exact Calls.quiet_of_same (HPt.out _)))
     have hbq:=JQ (Below.refl w2.heap.size w2) nq;have HB3:=QQ (HB2.out.trans (hbq.mono HB2.out.size));have HX3:=QQ (QJ.drewN HX2.out nq);have HM3:=QQ (HM2.out.below hbq);clear hbq HPt c14 x0 x1 x2 x3 x4;generalize w2.drewN nq=w3 at HB3 HX3 HM3⊢;clear HB2 HX2 HM2
     cases tb_ with
     |false=>
      have HS:Hid (V0 m ⟨oi,os,ok,op,oq⟩=6):=QQ (by unfold V0;rw[if_neg (by rw[HBd.out];decide),if_neg (by rw[HRb0.out];decide),if_pos (by rw[HPh.out];exact HTb.out)]);go_wp2_with fail
      go_ret2;unfold IQ Qd3;rw[HS.out,if_neg (by decide),if_neg (by decide)];exact J6.none_ (YK.same HE.out HB3.out) rfl
     |true=>
      obtain⟨x0,x1,x2,x3,x4⟩:=Y2 HX3.out;have c13:=HM3.out.cell HM3.out.ec.c13;have hlk:=Ku8 (w:=w3.drew) (HM3.out.below (Below.drew (Below.refl _ w3))).map_ HM3.out.keys oi (b:=kn) (by rw[HM3.out.ids,←HKn.out];simp);go_wp2_with fail
      refine XK (fun t=> [].contains t) (fun W=>W.cell? ⟨e,13,none⟩=some (.map (some im))∧W.cell? ⟨X,0,none⟩=some (.int .i64 oi)∧(Instr.lookup 71 (.map (some im)) (.int .i64 oi) false).run Tryz.prog W= .ok (.bool kn) W) (by kernel_rfl) ⟨c13,x0,hlk⟩ (fun hS0=> ?_);refine tM 0 (.pointer (some ⟨e,0,none⟩)) ?_;refine tM 1 (.pointer (some ⟨e,0,none⟩)) ?_;refine tM 2 (.pointer (some ⟨e,13,none⟩)) ?_;refine tM 3 (.map (some im)) ?_;refine tM 4 (.pointer (some ⟨X,0,none⟩)) ?_;refine tM 5 (.int .i64 oi) ?_;refine tM 6 (.bool kn) ?_;refine tM 7 (.bool kn) ?_;refine ZK (by kernel_rfl) ?_ _;clear hS0;have hbq:=Below.drew (Below.refl w3.heap.size w3);have HB4:=QQ (HB3.out.trans (hbq.mono HB3.out.size));have HX4:=QQ (QJ.drew HX3.out);have HM4:=QQ (HM3.out.below hbq);clear hbq c13 hlk x0 x1 x2 x3 x4;generalize w3.drew=w4 at HB4 HX4 HM4⊢;clear HB3 HX3 HM3
      cases kn with
      |true=>
       have HS:Hid (V0 m ⟨oi,os,ok,op,oq⟩=9):=QQ (by unfold V0;rw[if_neg (by rw[HBd.out];decide),if_neg (by rw[HRb0.out];decide),if_neg (by rw[HPh.out,show Qh2 ph (QX.mk oi os ok op oq).kind=true from HTb.out];decide),if_pos (of_decide_eq_true HKn.out)]);go_wp2_with fail
       go_ret2;unfold IQ Qd3;rw[HS.out,if_neg (by decide),if_neg (by decide)];exact J6.none_ (YK.same HE.out HB4.out) rfl
      |false=>
       have c8:=HM4.out.cell HM4.out.ec.c8;have c12:=HM4.out.cell HM4.out.ec.c12;obtain⟨pn,hpn⟩: ∃n,m.pk.length=n:=⟨_,rfl⟩;obtain⟨ln,hln⟩: ∃n,m.L1.length+m.L2.length=n:=⟨_,rfl⟩;have hmany: ∀W,Below w4.heap.size w4 W→Calls Tryz.prog 28 #[.pointer (some ⟨bk,0,none⟩)] W fun e w'=>e= .returned (.int .i64 (ln:Nat))∧w'=W:=fun W hW=>(Xg1 W bk G m.L1 m.L2 (HM4.out.below hW).book).mono (fun _ _ ⟨h1,h2⟩=>⟨h1.trans (by rw[hln]),h2.symm⟩)
       have hfew:ln≤100:=by
        have h1:=HM4.out.book.lists.cnt;rw[List.length_append]at h1;omega
       have hpkn:pn≤100000:=by have:=HI.out.pkn;omega
       rw[hpn]at c12;have HMany:=QQ hmany;have HPn:=QQ hpn;have HLn:=QQ hln;clear hmany hpn hln;go_wp2_with fail
       go_quiet ((go_at_call 28;exact Calls.quiet_of_same (HMany.out _ (by first|exact Below.refl _ _|exact Below.drew (Below.refl _ _)|exact JQ (Below.refl _ _) _))))
       have hbq:=JQ (Below.refl w4.heap.size w4) nq;have HB5:=QQ (HB4.out.trans (hbq.mono HB4.out.size));have HX5:=QQ (QJ.drewN HX4.out nq);have HM5:=QQ (HM4.out.below hbq);clear hbq c8 c12 HMany;generalize w4.drewN nq=w5 at HB5 HX5 HM5⊢;clear HB4 HX4 HM4;have HErr:Hid (V0 m ⟨oi,os,ok,op,oq⟩=if 100≤m.L1.length+m.L2.length+m.pk.length then 12 else 0):=QQ (by unfold V0;rw[if_neg (by rw[HBd.out];decide),if_neg (by rw[HRb0.out];decide),if_neg (by rw[HPh.out,show Qh2 ph (QX.mk oi os ok op oq).kind=true from HTb.out];decide),if_neg (of_decide_eq_false HKn.out)])
       by_cases hfull:(ln:Int)+ (pn:Int)≥100
       ·have d1:=J4 hfull
        have HS:Hid (V0 m ⟨oi,os,ok,op,oq⟩=12):=QQ (by rw[HErr.out,if_pos (by rw[HLn.out,HPn.out];omega)]);go_wp2_with fail
        go_ret2;unfold IQ Qd3;rw[HS.out,if_neg (by decide),if_neg (by decide)];exact J6.none_ (YK.same HE.out HB5.out) rfl
       ·have d1:=OY hfull
        have HS:Hid (V0 m ⟨oi,os,ok,op,oq⟩=0):=QQ (by rw[HErr.out,if_neg (by rw[HLn.out,HPn.out];omega)]);have hS1:IQ m ⟨oi,os,ok,op,oq⟩=Qe4 (YX m ⟨oi,os,ok,pp,oq⟩) ⟨oi,os,ok,pp,oq⟩:=by unfold IQ;rw[if_pos HS.out,HPr.out]
        have hF1:Qd3 m ⟨oi,os,ok,op,oq⟩=Qi1 (YX m ⟨oi,os,ok,pp,oq⟩) ⟨oi,os,ok,pp,oq⟩:=by unfold Qd3;rw[if_pos HS.out,HPr.out]
        have HE1:=QQ (And.intro HS.out (And.intro hS1 hF1));have hM5:=HM5.out.below (Below.drew (Below.refl _ w5));obtain⟨w6,es',mc',hup,hmp,hks,htu,hlk⟩:=Ku7 hM5.map_ hM5.keys oi (.bool true) (by rw[hM5.ids,if_neg (of_decide_eq_false HKn.out)]);obtain⟨hM6,ho6⟩:=hM5.mapTo htu hmp hks (id:=oi) (fun k=>by
         rw[hlk k,hM5.ids]
         by_cases e1:k=oi
         ·rw[if_pos e1,if_pos (by rw[e1];simp)]
         ·rw[if_neg e1]
          by_cases e2:k∈m.ids
          ·rw[if_pos e2,if_pos (by simp[e2])]
          ·rw[if_neg e2,if_neg (by simp[e1,e2])])
        have hXo: ∀k,¬own X k:=fun k hk=>by have:=HM.out.ok.lt X k hk;have:=HX0.out;omega
        have hX6:=QJ.keeps (QJ.drew HX5.out) ho6.1 (fun⟨k,hk⟩=>hXo k hk);have ho06:VZ w w6 own own:=((VZ.of_below HB5.out).trans (VZ.of_below (Below.drew (Below.refl _ w5)))).trans ho6;have c13:=HM5.out.cell HM5.out.ec.c13;have x0:=(Y2 HX5.out).1;have HX6:=QQ hX6;have HM6:=QQ hM6;have HO6:=QQ ho06;have HXo:=QQ hXo;clear hM5 hmp hks htu hlk hM6 ho6 hX6 ho06 hXo hS1 hF1;go_upto_region 13 with fail
        go_cut [] (fun wx=>wx=w6)
        case first=>
         clear d1 hfull
         go_still_tail 6,(by kernel_rfl)
         change wpList _ _ _ _ _ w5.drew;go_wp2_with fail
         go_meet
         rfl
        case rest=>
         subst hcut;clear hup c13 x0 HX5 HM5 HB5 d1 hfull;obtain⟨x0,x1,x2,x3,x4⟩:=Y2 HX6.out;have c14:=HM6.out.cell HM6.out.ec.c14;have c12:=HM6.out.cell HM6.out.ec.c12;have e14:(Value.int .i64 ({m with ids:=m.ids++ [oi]}:ZX).ph)= .int .i64 ph:=by rw[←HPh.out]
         have e12:(Value.slice Ap ({m with ids:=m.ids++ [oi]}:ZX).pk.length pc)= .slice Ap pn pc:=by rw[←HPn.out]
         rw[e14]at c14;rw[e12]at c12;have HAt:=QQ (UJ.at_ (m:=YX m ⟨oi,os,ok,pp,oq⟩) HM6.out (fun _ _ _=>rfl));have HBs:=QQ (HO6.out.bstep HF.out);obtain⟨F6,hF6⟩: ∃S,(fun i=> ∃k,own i k)=S:=⟨_,rfl⟩;rw[hF6]at HAt HBs;have HF6:=QQ hF6;clear e14 e12 hF6
         by_cases hpark:ok=4∧ph≠5
         ·obtain⟨hk4,hp5⟩:=hpark
          have d4:=J3 hk4;have d5:=Ji2 hp5;have HR1:Hid (Qe4 (YX m ⟨oi,os,ok,pp,oq⟩) ⟨oi,os,ok,pp,oq⟩= {YX m ⟨oi,os,ok,pp,oq⟩with pk:=m.pk++ [⟨oi,os,ok,pp,oq⟩]}∧Qi1 (YX m ⟨oi,os,ok,pp,oq⟩) ⟨oi,os,ok,pp,oq⟩= []):=by
           refine QQ ⟨?_, ?_⟩
           ·unfold Qe4;rw[if_pos ⟨hk4,by show m.ph≠5;rw[HPh.out];exact hp5⟩];rfl
           ·unfold Qi1;rw[if_pos ⟨hk4,by show m.ph≠5;rw[HPh.out];exact hp5⟩]
          clear hk4 hp5;go_wp2_with fail
          obtain⟨i0,hi0,hz0,hz1,hz2⟩:=info_parts Qs8;have hrow:QY wc.drew Ap pn pc 29 5 (QW I1 m.pk):=by
           have h1:=(HM6.out.below (Below.drew (Below.refl _ wc))).park;rw[←HPn.out];exact h1
          have HO1:=QQ (World.ownsRow.alloc (show wc.drew.ownsRow 0 29 5 (.slice Ap pn pc) pn (QW I1 m.pk)from hrow) (.cells #[.int .i64 oi,.int .i64 os,.int .i64 ok,.int .i64 pp,.int .i64 oq] 29));clear hrow;refine XK (fun t=> [10].contains t) (fun W=>W.cell? ⟨e,12,none⟩=some (.slice Ap pn pc)∧W.cell? ⟨X,0,none⟩=some (.int .i64 oi)∧W.cell? ⟨X,1,none⟩=some (.int .i64 os)∧W.cell? ⟨X,2,none⟩=some (.int .i64 ok)∧W.cell? ⟨X,3,none⟩=some (.int .i64 pp)∧W.cell? ⟨X,4,none⟩=some (.int .i64 oq)) (by kernel_rfl) ⟨c12,x0,x1,x2,x3,x4⟩ (fun hS0=> ?_);refine tM 0 (.pointer (some ⟨e,0,none⟩)) ?_;refine tM 1 (.pointer (some ⟨e,0,none⟩)) ?_;refine tM 2 (.pointer (some ⟨e,0,none⟩)) ?_;refine tM 3 (.pointer (some ⟨e,12,none⟩)) ?_;refine tM 4 (.slice Ap pn pc) ?_;refine tM 5 (.agg #[.int .i64 oi,.int .i64 os,.int .i64 ok,.int .i64 pp,.int .i64 oq]) ?_;refine oM 6 fun K1 hK1=> ?_
          go_simp;have hqa:Below wc.heap.size wc (wc.drew.alloc (.cells #[.int .i64 oi,.int .i64 os,.int .i64 ok,.int .i64 pp,.int .i64 oq] 29)):=(Below.drew (Below.refl _ wc)).alloc (Nat.le_refl _) _;have hSa:(fun W:World=>W.cell? ⟨e,12,none⟩=some (.slice Ap pn pc)∧W.cell? ⟨X,0,none⟩=some (.int .i64 oi)∧W.cell? ⟨X,1,none⟩=some (.int .i64 os)∧W.cell? ⟨X,2,none⟩=some (.int .i64 ok)∧W.cell? ⟨X,3,none⟩=some (.int .i64 pp)∧W.cell? ⟨X,4,none⟩=some (.int .i64 oq)) (wc.drew.alloc (.cells #[.int .i64 oi,.int .i64 os,.int .i64 ok,.int .i64 pp,.int .i64 oq] 29)):=⟨QZ c12 hqa,QZ x0 hqa,QZ x1 hqa,QZ x2 hqa,QZ x3 hqa,QZ x4 hqa⟩;refine hK1 _ _ (fun _=>hSa) ?_;clear hK1 hqa hS0;refine oM 7 fun K2 hK2=> ?_
          refine(if_pos (by rfl)).mpr ?_;refine wp_append_lies _ _ _ 75 rfl 0 29 i0 _ 5 40 Tryz.underlying75 hi0 hz0 hz1 hz2 rfl (by omega) (.slice Ap pn pc) pn _ rfl HO1.out ⟨wc.heap.size,0,none⟩ 1 1 [.int .i64 oi,.int .i64 os,.int .i64 ok,.int .i64 pp,.int .i64 oq] rfl rfl (World.news_of_block (cs:= #[.int .i64 oi,.int .i64 os,.int .i64 ok,.int .i64 pp,.int .i64 oq]) (t:=29) (fr:=(0,0)) (heap_alloc_new wc.drew _)) (by simp[Value.oneCell']) (by omega) (by unfold maxLen;omega) (by omega) (by simp) (wc.heap.size+1) (by simp) ?_;intro gg cap w8 hown hgrow hat8 hlt8;have hk8:=Ql0 (w2:=wc.drew) (o:= .cells #[.int .i64 oi,.int .i64 os,.int .i64 ok,.int .i64 pp,.int .i64 oq] 29) (show(wc.drew.alloc (.cells #[.int .i64 oi,.int .i64 os,.int .i64 ok,.int .i64 pp,.int .i64 oq] 29)).grownBy w8 (Value.slice Ap pn pc).ownBlock from⟨hgrow.os,hgrow.tape,hgrow.output,hgrow.size,hgrow.block⟩);rw[XV]at hk8 hat8;have HK8:=QQ hk8;have HAt8:=QQ hat8;have HOwn8:=QQ hown;have hEk:QJ w8 e 77 cs:=QJ.keeps (HM6.out.below (Below.drew (Below.refl _ wc))).ind.blk hk8 (fun x=>absurd (HM6.out.ok.uni _ _ _ (HM6.out.op _ x) HM6.out.oe) (by decide));have hXk:=QJ.keeps (QJ.drew HX6.out) hk8 (fun x=>HXo.out _ (HM6.out.op _ x));have c128:w8.cell? ⟨e,12,none⟩=some (.slice Ap pn pc):=(QJ.cell hEk 12).trans (HM6.out.ec.c12.trans (by rw[←HPn.out]));have f12:=QJ.frozen hEk 12;have hS8:(fun W:World=>W.cell? ⟨e,12,none⟩=some (.slice Ap pn pc)∧W.cell? ⟨X,0,none⟩=some (.int .i64 oi)∧W.cell? ⟨X,1,none⟩=some (.int .i64 os)∧W.cell? ⟨X,2,none⟩=some (.int .i64 ok)∧W.cell? ⟨X,3,none⟩=some (.int .i64 pp)∧W.cell? ⟨X,4,none⟩=some (.int .i64 oq)) w8:=⟨c128,(Y2 hXk).1,(Y2 hXk).2.1,(Y2 hXk).2.2.1,(Y2 hXk).2.2.2.1,(Y2 hXk).2.2.2.2⟩;refine hK2 _ _ (fun _=>hS8) ?_;clear hown hgrow hat8 hk8 hEk hXk HO1 hi0 hz0 hz1 hz2 hK2 hSa c12 x0 x1 x2 x3 x4;refine oM 8 fun K4 hK4=> ?_
          go_simp;refine hK4 _ _ (fun _=>hS8) ?_;clear hK4;refine oM 9 fun K5 hK5=> ?_
          go_simp;refine hK5 _ _ (fun _=>hS8) ?_;clear hK5;refine oM 10 fun K3 hK3=> ?_
          refine(if_pos (by rfl)).mpr ?_;go_simp;refine hK3 _ _ (fun e=>absurd e (by decide)) ?_;clear hK3 c128 f12 hS8;refine ZK (by kernel_rfl) ?_ _;go_wp2_with fail
          go_ret2;have hl:(m.pk++ [(⟨oi,os,ok,pp,oq⟩:QX)]).length=pn+1:=by rw[List.length_append,HPn.out];rfl
          obtain⟨own',hM9,ho9⟩:=(HM6.out.below (Below.drew (Below.refl _ wc))).pkTo (P':=m.pk++ [⟨oi,os,ok,pp,oq⟩]) (Ap':=some ⟨gg,0,none⟩) (pc':=cap) HK8.out (by
           show w8.ownsRow 0 29 5 _ _ _;rw[hl,Qa5];exact HOwn8.out) (fun i hi=>by
            have e1:gg=i:=by simpa [QV]using hi
            subst e1;rcases HAt8.out with x|x
            ·exact .inl x
            ·right;rw[x];show wc.heap.size≤_;omega)
          rw[hl]at hM9 ho9;rw[HE1.out.1,HE1.out.2.1,HE1.out.2.2,HR1.out.1,HR1.out.2];exact J6.none_ (YK.from_ HBs.out ⟨_,UJ.at_ (m:= {YX m ⟨oi,os,ok,pp,oq⟩with pk:=m.pk++ [⟨oi,os,ok,pp,oq⟩]}) hM9 (fun _ _ _=>rfl),((VZ.of_below (Below.drew (Below.refl _ wc))).trans ho9).bstep (fun i=>by rw[←HF6.out])⟩) rfl
         ·have HNp:=QQ hpark
          have HR1:Hid (¬(ok=4∧ph≠5)):=QQ hpark;clear hpark;have d45:((ok ==4)=false)∨((ok ==4)=true∧(ph != 5)=false):=by
           by_cases h4:ok=4
           ·exact .inr ⟨J3 h4,Ji1 (Decidable.byContradiction fun h=>HNp.out ⟨h4,h⟩)⟩
           ·exact .inl (UX h4)
          have HD:=QQ d45;clear d45;have HIn:=QQ (HI.out.taken ⟨oi,os,ok,pp,oq⟩)
          by_cases hp3:ph=3
          ·have d3:=Ji1 hp3
           have HP3:=QQ hp3;clear hp3;have hq0:0≤oq:=by
            have h1:=HRb.out;rw[V4]at h1;omega
           have hs12:VV os:=Kj5 HBd.out;have hmt:=Xz0 HAt.out HIn.out ⟨oi,os,ok,pp,oq⟩ hs12 (by have:=HFit.out;rw[HPr.out]at this;exact this) hq0;unfold KQ at hmt;dsimp only at hmt;have HMt:=QQ hmt;have HR2:Hid (Qe4 (YX m ⟨oi,os,ok,pp,oq⟩) ⟨oi,os,ok,pp,oq⟩=Z1 (YX m ⟨oi,os,ok,pp,oq⟩) ⟨oi,os,ok,pp,oq⟩∧Qi1 (YX m ⟨oi,os,ok,pp,oq⟩) ⟨oi,os,ok,pp,oq⟩=(ZV (YX m ⟨oi,os,ok,pp,oq⟩) ⟨oi,os,ok,pp,oq⟩).fills):=by
            have h1: ¬((QX.mk oi os ok pp oq).kind=4∧(YX m ⟨oi,os,ok,pp,oq⟩).ph≠5):=fun h=>HR1.out ⟨h.1,fun h5=>h.2 (HPh.out.trans h5)⟩
            have h2: ¬((YX m ⟨oi,os,ok,pp,oq⟩).ph≠3):=fun h=>h (HPh.out.trans HP3.out)
            refine QQ ⟨?_, ?_⟩
            ·unfold Qe4;rw[if_neg h1,if_neg h2]
            ·unfold Qi1;rw[if_neg h1,if_neg h2]
           clear hmt hs12 hq0;rcases HD.out with d4|⟨d4,d5⟩
           all_goals
            go_wp2_with fail
            refine HMt.out.mono ?_;rintro ev w9 hft;obtain⟨A9,c9,Fs9,rfl,hun9,hro9,hne9,hre9⟩:=hft;have HFt:=QQ (show VQ wc w9 e F6 (fun Fs=>Fs=(ZV (YX m ⟨oi,os,ok,pp,oq⟩) ⟨oi,os,ok,pp,oq⟩).fills) (Z1 (YX m ⟨oi,os,ok,pp,oq⟩) ⟨oi,os,ok,pp,oq⟩) (.returned (.slice A9 (List.length Fs9) c9))from⟨A9,c9,Fs9,rfl,hun9,hro9,hne9,hre9⟩);clear hun9 hro9 hne9 hre9;go_wp2_with fail
            go_ret2;rw[HE1.out.1,HE1.out.2.1,HE1.out.2.2,HR2.out.1,HR2.out.2];exact(VQ.from_ HBs.out HFt.out).told 0
          ·have d3:=Ji2 hp3
           have HP3:=QQ hp3;clear hp3;have hli:=Jk2 wc e F6 _ HAt.out ⟨oi,os,ok,pp,oq⟩ (by have:=HFit.out;rw[HPr.out]at this;exact this);unfold KQ at hli;dsimp only at hli;have HLi:=QQ hli;have HR2:Hid (Qe4 (YX m ⟨oi,os,ok,pp,oq⟩) ⟨oi,os,ok,pp,oq⟩=Qc8 (YX m ⟨oi,os,ok,pp,oq⟩) ⟨oi,os,ok,pp,oq⟩∧Qi1 (YX m ⟨oi,os,ok,pp,oq⟩) ⟨oi,os,ok,pp,oq⟩= []):=by
            have h1: ¬((QX.mk oi os ok pp oq).kind=4∧(YX m ⟨oi,os,ok,pp,oq⟩).ph≠5):=fun h=>HR1.out ⟨h.1,fun h5=>h.2 (HPh.out.trans h5)⟩
            have h2:((YX m ⟨oi,os,ok,pp,oq⟩).ph≠3):=fun h=>HP3.out (HPh.out.symm.trans h)
            refine QQ ⟨?_, ?_⟩
            ·unfold Qe4;rw[if_neg h1,if_pos h2]
            ·unfold Qi1;rw[if_neg h1,if_pos h2]
           clear hli;rcases HD.out with d4|⟨d4,d5⟩
           all_goals
            go_wp2_with fail
            refine HLi.out.mono ?_;rintro ev w9 ⟨rfl,hto⟩;have HTo:=QQ hto;clear hto;go_wp2_with fail
            go_ret2;rw[HE1.out.1,HE1.out.2.1,HE1.out.2.2,HR2.out.1,HR2.out.2];exact J6.none_ (YK.from_ HBs.out HTo.out) rfl
end Go.Proofs.YtnlngicnfegjgaaGreat
