/- Contracts and walks that the law's proof needs. -/
import Derived.WalkKit
import Derived.WalkLawsBesides
import Derived.WalkSpells
import Derived.StillTailTactics
import Derived.Deep.QuietTactic
import Derived.BigQuiet
import Derived.Deep.DeepCutAuto
import Derived.Deep.CutBlock
import Derived.Test.YtbmiieehkkfbgaaGreatDoorZd36
import Derived.Test.YtbmiieehkkfbgaaGreatDoorZd33
import Derived.Test.YtbmiieehkkfbgaaGreatDoorZd35
import Derived.Lib.AtoiAll
import Derived.Lib.ItoaNum
import Derived.Lib.Join
import Derived.Lib.FieldsP
import Derived.Lib.Strings
set_option linter.unusedVariables false
set_option maxRecDepth 100000
set_option maxHeartbeats 8000000
namespace Go.Proofs.YtbmiieehkkfbgaaGreatDoor
open Go.RowKit
def Q2 (w w':World) (e:Nat) (F:Nat→Prop) (P:List XQ→Prop) (m:VQ) (E:Int) (ev:Ending):Prop:=
 ∃A c Fs,ev= .returned (.tuple #[.slice A (List.length Fs) c,VZ E])∧P Fs∧QW w' A Fs.length c 145 4 (JQ Qb3 Fs)∧(∀g,QZ A=some g→w.heap.size≤g)∧ ∃F',YQ w' e F' m∧KQ w w' F F'∧ ∀g,QZ A=some g→ ¬F' g
theorem Q2.none_ {w w':World} {e:Nat} {F:Nat→Prop} {P:List XQ→Prop} {m:VQ} {E:Int} (h:ZZ w w' e F m) (hP:P []):Q2 w w' e F P m E (.returned (.tuple #[.slice none 0 0,VZ E])):=by
 obtain⟨F',h1,h2⟩:=h
 exact⟨none,0,[],rfl,hP,World.ownsRow_nil _ _ _ _,fun g hg=>by simp[QZ]at hg,F',h1,h2,fun g hg=>by simp[QZ]at hg⟩
theorem ZY.told {w w':World} {e:Nat} {F:Nat→Prop} {P:List XQ→Prop} {m:VQ} {A:Option Addr} {n c:Nat} (h:ZY w w' e F P m (.returned (.slice A n c))) (E:Int):Q2 w w' e F P m E (.returned (.tuple #[.slice A n c,VZ E])):=by
 obtain⟨A',c',Fs,h1,h2,h3,h4,h5⟩:=h
 cases h1
 exact⟨A,c,Fs,rfl,h2,h3,h4,h5⟩
theorem ZY.step {w w1 w2:World} {e:Nat} {F:Nat→Prop} {P:List XQ→Prop} {m m2:VQ} {ev:Ending} (h:ZY w w1 e F P m ev) (k: ∀F1,YQ w1 e F1 m→ZZ w1 w2 e F1 m2):ZY w w2 e F P m2 ev:=by
 obtain⟨A,c,Fs,h1,h2,h3,h4,F1,h5,h6,h7⟩:=h
 obtain⟨F2,h8,h9⟩:=k F1 h5
 refine⟨A,c,Fs,h1,h2,h3.keeps h9.1 h7,h4,F2,h8,h6.trans h9,fun g hg hF=> ?_⟩
 rcases h9.2 g hF with h11|h11
 ·exact h7 g hg h11
 ·have:=h3.lt hg;omega
theorem ZY.as {w w':World} {e:Nat} {F:Nat→Prop} {P P':List XQ→Prop} {m m':VQ} {ev:Ending} (h:ZY w w' e F P m ev) (hP:P=P') (hm:m=m'):ZY w w' e F P' m' ev:=by
 subst hP hm
 exact h
theorem ZY.from_ {w w1 w':World} {e:Nat} {F F1:Nat→Prop} {P:List XQ→Prop} {m:VQ} {ev:Ending} (hb:KQ w w1 F F1) (h:ZY w1 w' e F1 P m ev):ZY w w' e F P m ev:=by
 obtain⟨A,c,Fs,h1,h2,h3,h4,F',h5,h6,h7⟩:=h
 exact⟨A,c,Fs,h1,h2,h3,fun g hg=>Nat.le_trans hb.1.size (h4 g hg),F',h5,hb.trans h6,h7⟩
theorem ZZ.from_ {w w1 w':World} {e:Nat} {F F1:Nat→Prop} {m:VQ} (hb:KQ w w1 F F1) (h:ZZ w1 w' e F1 m):ZZ w w' e F m:=by
 obtain⟨F',h1,h2⟩:=h
 exact⟨F',h1,hb.trans h2⟩
theorem Jf7 {w:World} {e:Nat} {cs:Array Value} {tb bb bk im:Nat} {T:Option Addr} {tc:Nat} {Al:Option Addr} {lc:Nat} {lv:List XJ} {bu se:Int} {Ap:Option Addr} {pc:Nat} {es:List MapEntry} {mc:Nat} {G:Nat→Prop} {own:Nat→Nat→Prop} {g:Int→Option Int→Int} {m:VQ}
  (h:UZ w e cs tb bb bk im T tc Al lc lv bu se Ap pc es mc G own g m) (hn:0<m.rows.length∧m.rows.length≤20) (t:Int) (W:World) (hW:Below w.heap.size w W) {a b:Int} (hp:Qp4 m.rows t m.rows.length=(a,b)):
  Calls Tryz.prog 83 #[.pointer (some ⟨tb,0,none⟩),.int .i64 t] W fun ev w'=>ev= .returned (.tuple #[.int .i64 a,.int .i64 b])∧Below W.heap.size W w':=by
 have h':=h.below hW
 have key:=Kl2 tb T m.rows.length tc m.rows t W h'.tabl h'.tabp h'.tabc hn.1 hn.2
 rw[hp]at key
 exact key
theorem Xh3 {w:World} {e:Nat} {F:Nat→Prop} {m:VQ} (h:YQ w e F m) (hI:Qn2 m) (hI1:Qn2 (XX m)):
  Calls Tryz.prog 62 #[.pointer (some ⟨e,0,none⟩)] w fun ev w'=>Q2 w w' e F (Qs0 m) (J6 m) (Jd1 m) ev:=by
 have hE:=h
 obtain⟨cs,tb,bb,bk,im,T,tc,Al,lc,lv,bu,se,Ap,pc,es,mc,G,own,hM,hF⟩:=h
 have c14:=hM.cell hM.ec.c14
 by_cases p7:m.ph=7
 ·have d7:=Z2 p7
  have HS:Hid (Qs0 m []∧J6 m=m∧Jd1 m=6):=QQ ⟨by unfold Qs0;rw[if_pos p7],by unfold J6;rw[if_pos p7],by unfold Jd1;rw[if_pos p7]⟩;have HE:=QQ hE;obtain⟨ph,hph⟩: ∃p,m.ph=p:=⟨_,rfl⟩;rw[hph]at c14 d7;clear p7 hE hM hF hI hI1 hph;go_enter Tryz.func62,Tryz.ntmps62
  go_wp2;go_ret2;rw[HS.out.2.1,HS.out.2.2];exact Q2.none_ (ZZ.same HE.out (Below.refl _ _)) HS.out.1
 ·have d7:=YW p7
  obtain⟨⟨a1,a2⟩,ha⟩: ∃q,Qp4 m.rows m.now m.rows.length=q:=⟨_,rfl⟩;obtain⟨⟨b1,b2⟩,hb⟩: ∃q,Qp4 m.rows (m.now+1) m.rows.length=q:=⟨_,rfl⟩;have HPa:=QQ (fun W hW=>Jf7 hM hI.tab m.now W hW ha);have HT:Hid (Jd1 m=0∧J6 m=O4 a1 (XX m)∧Qs0 m=Qc5 a1 (XX m)∧UV (XX m) (XX m).now=b1):=by
   refine QQ ⟨by unfold Jd1;rw[if_neg p7], ?_, ?_, ?_⟩
   ·unfold J6 UV;rw[if_neg p7,ha]
   ·funext Fs;unfold Qs0 UV;rw[if_neg p7,ha]
   ·exact congrArg Prod.fst hb
  rw[HT.out.1,HT.out.2.1,HT.out.2.2.1];have c6:=hM.cell hM.ec.c6;have c15:=hM.cell hM.ec.c15;have HM:=QQ hM;have HF:=QQ hF;have HI:=QQ hI1;have HTab:=QQ hI.tab;have HHb:=QQ hb;have i1:RowKit.wrap64 (m.now+1)=m.now+1:=by
   have h1:=hI.now;unfold RowKit.wrap64;omega
  obtain⟨nw,hnw⟩: ∃v,m.now=v:=⟨_,rfl⟩;rw[hnw]at c15 HPa i1;have HNw:=QQ hnw;obtain⟨ph,hph⟩: ∃p,m.ph=p:=⟨_,rfl⟩;rw[hph]at c14 d7;have HPh:=QQ hph;clear p7 hE hM hF hI hI1 hph ha hb hnw;go_enter Tryz.func62,Tryz.ntmps62
  go_upto_region 3 with fail
  refine XY (fun t=> [].contains t) (fun W=>W.cell? ⟨e,6,none⟩=some (.pointer (some ⟨tb,0,none⟩))∧W.cell? ⟨e,15,none⟩=some (.int .i64 nw)) (by kernel_rfl) ⟨c6,c15⟩ (fun hS0=> ?_);refine tM 0 (.pointer (some ⟨e,0,none⟩)) ?_;refine tM 1 (.pointer (some ⟨e,0,none⟩)) ?_;refine tM 2 (.pointer (some ⟨e,6,none⟩)) ?_;refine tM 3 (.pointer (some ⟨tb,0,none⟩)) ?_;refine tM 4 (.pointer (some ⟨e,0,none⟩)) ?_;refine tM 5 (.pointer (some ⟨e,0,none⟩)) ?_;refine tM 6 (.pointer (some ⟨e,15,none⟩)) ?_;refine tM 7 (.int .i64 nw) ?_;refine oM 8 fun K9 hK9=> ?_
  go_simp;refine(HPa.out w.drew (Below.drew (Below.refl _ _))).mono ?_;rintro ev w3 ⟨rfl,hq⟩;refine hK9 _ _ (fun _=>⟨QV hS0.1 hq,QV hS0.2 hq⟩) ?_;have hS1:=And.intro (QV hS0.1 hq) (QV hS0.2 hq);clear hK9 hS0;refine tM 9 (.tuple #[.int .i64 a1,.int .i64 a2]) ?_;refine tM 10 (.int .i64 a1) ?_;refine tM 11 (.int .i64 a2) ?_;refine tM 12 (.int .i64 a1) ?_;refine tM 13 (.int .i64 a2) ?_;refine VJ (by kernel_rfl) ?_ _;have hb3:Below w.heap.size w w3:=(Below.drew (Below.refl _ w)).trans hq;have hM3:=HM.out.below hb3;have c15:=hM3.cell hM3.ec.c15;rw[HNw.out]at c15;have f15:=hM3.frozen 15;obtain⟨hM4,ho4⟩:=hM3.setNow (nw+1);have HB3:=QQ hb3;clear c6 c14 hS1 hq hb3 hM3 HPa;go_upto_region 5 with fail
  obtain⟨w4,ew4⟩: ∃W,w3.setCell ⟨e,15,none⟩ (.int .i64 (nw+1))=W:=⟨_,rfl⟩;rw[ew4]at hM4 ho4⊢;have em:({m with now:=nw+1}:VQ)=XX m:=by unfold XX;rw[HNw.out]
  rw[em]at hM4;have HPb:=QQ (fun W hW=>Jf7 (a:=b1) (b:=b2) hM4 HTab.out (nw+1) W hW (by have h:=HHb.out;rw[HNw.out]at h;exact h));clear ew4 c15 f15 i1;have c6:=hM4.cell hM4.ec.c6;have c15:=hM4.cell hM4.ec.c15;have e15:(XX m).now=nw+1:=by rw[←em]
  rw[e15]at c15;have HM4:=QQ hM4;have HO4:=QQ ho4;have HE15:=QQ e15;clear hM4 ho4 em e15;refine XY (fun t=> [].contains t) (fun W=>W.cell? ⟨e,6,none⟩=some (.pointer (some ⟨tb,0,none⟩))∧W.cell? ⟨e,15,none⟩=some (.int .i64 (nw+1))) (by kernel_rfl) ⟨c6,c15⟩ (fun hS0=> ?_);refine tM 0 (.pointer (some ⟨e,0,none⟩)) ?_;refine tM 1 (.pointer (some ⟨e,0,none⟩)) ?_;refine tM 2 (.pointer (some ⟨e,6,none⟩)) ?_;refine tM 3 (.pointer (some ⟨tb,0,none⟩)) ?_;refine tM 4 (.pointer (some ⟨e,0,none⟩)) ?_;refine tM 5 (.pointer (some ⟨e,0,none⟩)) ?_;refine tM 6 (.pointer (some ⟨e,15,none⟩)) ?_;refine tM 7 (.int .i64 (nw+1)) ?_;refine oM 8 fun K9 hK9=> ?_
  go_simp;refine(HPb.out w4.drew (Below.drew (Below.refl _ _))).mono ?_;rintro ev w5 ⟨rfl,hq⟩;refine hK9 _ _ (fun _=>⟨QV hS0.1 hq,QV hS0.2 hq⟩) ?_;have hS1:=And.intro (QV hS0.1 hq) (QV hS0.2 hq);clear hK9 hS0;refine tM 9 (.tuple #[.int .i64 b1,.int .i64 b2]) ?_;refine tM 10 (.int .i64 b1) ?_;refine tM 11 (.int .i64 b2) ?_;refine tM 12 (.int .i64 b1) ?_;refine tM 13 (.int .i64 b2) ?_;refine VJ (by kernel_rfl) ?_ _;have hb5:Below w4.heap.size w4 w5:=(Below.drew (Below.refl _ w4)).trans hq;have hM5:=HM4.out.below hb5;have hE5:YQ w5 e _ (XX m):=hM5.at_ (fun _ _ _=>rfl);have hs5:=(((VW.of_below HB3.out).trans HO4.out).trans (VW.of_below hb5)).bstep HF.out;obtain⟨F5,hF5⟩: ∃F5,F5=fun i=> ∃k,own i k:=⟨_,rfl⟩
  rw[←hF5]at hE5 hs5;have c14:=hM5.cell hM5.ec.c14;rw[show(XX m).ph=m.ph from rfl,HPh.out]at c14;have c15:=hM5.cell hM5.ec.c15;rw[HE15.out]at c15;have c16:=hM5.cell hM5.ec.c16;have HE5:=QQ hE5;have HS5:=QQ hs5;have HPI:Hid (UV (XX m) (XX m).now=b1):=QQ HT.out.2.2.2;clear c6 hS1 hq hb5 hM5 hE5 hs5 hF5 HM HM4 HO4 HB3 HPb HF HHb HTab
  by_cases i7:b1=7
  ·have e7:=Z2 i7
   by_cases p5:ph=5
   ·have d5:=Z2 p5
    have HS:Hid (Qc5 a1 (XX m)=Qn6 (XX m)∧O4 a1 (XX m)=Qv7 (Qw3 (XX m))):=by
     refine QQ ⟨?_, ?_⟩
     ·funext Fs;unfold Qc5;rw[HPI.out,if_pos i7,if_pos (show(XX m).ph=5 from HPh.out.trans p5)]
     ·unfold O4;rw[HPI.out,if_pos i7,if_pos (show(XX m).ph=5 from HPh.out.trans p5)]
    clear i7 p5;go_wp2_with fail
    refine(Ql4 HE5.out HI.out.la).mono ?_;rintro ev w6 ⟨A,c,Fs,rfl,hunc,hrow,hnew,F6,hE6,hs6,hno⟩;have HFt:=QQ (show ZY _ w6 e F5 (Qn6 (XX m)) (Qw3 (XX m)) (.returned (.slice A (List.length Fs) c))from⟨A,c,Fs,rfl,hunc,hrow,hnew,F6,hE6,hs6,hno⟩);have HE6:=QQ hE6;have HRow:=QQ (And.intro hrow (And.intro hnew (And.intro hunc (And.intro hs6 hno))));clear hunc hrow hnew hE6 hs6 hno c14 c15 c16;go_wp2_with fail
    refine(Xg4 HE6.out).mono ?_;rintro ev w7 ⟨rfl,F7,hE7,hs7⟩;have HFin:Hid (ZY w5 w7 e F5 (Qn6 (XX m)) (Qv7 (Qw3 (XX m))) (.returned (.slice A (List.length Fs) c))):=by
     obtain⟨h1,h2,h3,h4,h5⟩:=HRow.out;refine QQ ⟨A,c,Fs,rfl,h3,h1.keeps hs7.1 h5,h2,F7,hE7,h4.trans hs7,fun g hg hF=> ?_⟩;rcases hs7.2 g hF with h11|h11
     ·exact h5 g hg h11
     ·have:=h1.lt hg;omega
    clear hE7 hs7 HRow HE6 HFt;go_wp2_with fail
    go_ret2;rw[HS.out.1,HS.out.2];exact(ZY.from_ HS5.out HFin.out).told 0
   ·have d5:=YW p5
    have HS:Hid (Qc5 a1 (XX m) []∧O4 a1 (XX m)=Qv7 (XX m)):=by
     refine QQ ⟨?_, ?_⟩
     ·unfold Qc5;rw[HPI.out,if_pos i7,if_neg (show¬(XX m).ph=5 from fun x=>p5 (HPh.out.symm.trans x))]
     ·unfold O4;rw[HPI.out,if_pos i7,if_neg (show¬(XX m).ph=5 from fun x=>p5 (HPh.out.symm.trans x))]
    clear i7 p5;go_wp2_with fail
    refine(Xg4 HE5.out).mono ?_;rintro ev w7 ⟨rfl,hto⟩;have HTo:=QQ hto;clear hto c14 c15 c16;go_wp2_with fail
    go_ret2;rw[HS.out.2];exact Q2.none_ (ZZ.from_ HS5.out HTo.out) HS.out.1
  ·have e7:=YW i7
   by_cases p6:ph=6
   ·have d6:=Z2 p6
    have HS:Hid (Qc5 a1 (XX m) []∧O4 a1 (XX m)=XX m):=by
     refine QQ ⟨?_, ?_⟩
     ·unfold Qc5;rw[HPI.out,if_neg i7,if_pos (show(XX m).ph=6 from HPh.out.trans p6)]
     ·unfold O4;rw[HPI.out,if_neg i7,if_pos (show(XX m).ph=6 from HPh.out.trans p6)]
    clear i7 p6;go_wp2_with fail
    go_ret2;rw[HS.out.2];exact Q2.none_ (ZZ.from_ HS5.out (ZZ.same HE5.out (Below.refl _ _))) HS.out.1
   ·have d6:=YW p6
    have q6: ¬(XX m).ph=6:=fun x=>p6 ((show(XX m).ph=m.ph from rfl).trans HPh.out▸x)
    have HQ6:=QQ q6;have HI7:=QQ i7
    by_cases ab:a1=b1
    ·have dab:=Jk1 ab
     have HAb:=QQ ab;clear i7 p6 q6 ab;obtain⟨en,hen⟩: ∃v,m.ends=v:=⟨_,rfl⟩;rw[show(XX m).ends=m.ends from rfl,hen]at c16;have HEn:=QQ hen;clear hen;have HS0:Hid (∀(c:Prop),[Decidable c]→(c↔((XX m).ph=4∧(XX m).ends≤(XX m).now))→(c→Qc5 a1 (XX m)=Y6 (XX m)∧O4 a1 (XX m)=J5 (XX m))∧(¬c→Qc5 a1 (XX m) []∧O4 a1 (XX m)=XX m)):=by
      refine QQ (fun c _ hc=>⟨fun h=>⟨?_, ?_⟩,fun h=>⟨?_, ?_⟩⟩)
      ·funext Fs;unfold Qc5;rw[HPI.out,if_neg HI7.out,if_neg HQ6.out,if_neg (fun x=>x HAb.out),if_pos (hc.1 h)]
      ·unfold O4;rw[HPI.out,if_neg HI7.out,if_neg HQ6.out,if_neg (fun x=>x HAb.out),if_pos (hc.1 h)]
      ·unfold Qc5;rw[HPI.out,if_neg HI7.out,if_neg HQ6.out,if_neg (fun x=>x HAb.out),if_neg (fun x=>h (hc.2 x))]
      ·unfold O4;rw[HPI.out,if_neg HI7.out,if_neg HQ6.out,if_neg (fun x=>x HAb.out),if_neg (fun x=>h (hc.2 x))]
     have HCd:Hid ((ph=4∧en≤nw+1)↔((XX m).ph=4∧(XX m).ends≤(XX m).now)):=QQ (by rw[HE15.out,show(XX m).ph=m.ph from rfl,HPh.out,show(XX m).ends=m.ends from rfl,HEn.out])
     by_cases p4:ph=4
     ·have d4:=Z2 p4
      by_cases en4:en≤nw+1
      ·have d8:=J0 en4
       have HS:=QQ ((HS0.out _ HCd.out).1 ⟨p4,en4⟩);clear p4;go_wp2_with fail
       go_quiet (fail)
       go_wp2_with fail
       refine(Xm1 (HE5.out.below (QY (Below.refl _ _) _)) HI.out).mono ?_;rintro ev w6 hft;obtain⟨A,c,Fs,rfl,hunc,hrow,hnew,hrest⟩:=hft;have HFt:=QQ (show ZY _ w6 e F5 (Y6 (XX m)) (J5 (XX m)) (.returned (.slice A (List.length Fs) c))from⟨A,c,Fs,rfl,hunc,hrow,hnew,hrest⟩);clear hunc hrow hnew hrest c14 c15 c16;go_wp2_with fail
       go_ret2;rw[HS.out.1,HS.out.2];exact(ZY.from_ HS5.out (ZY.pre (QY (Below.refl _ _) _) HFt.out)).told 0
      ·have d8:=OY en4
       have HS:=QQ ((HS0.out _ HCd.out).2 (fun x=>en4 x.2));clear p4;go_wp2_with fail
       go_quiet (fail)
       go_wp2_with fail
       go_ret2;rw[HS.out.2];exact Q2.none_ (ZZ.from_ HS5.out (ZZ.same HE5.out (QY (Below.refl _ _) _))) HS.out.1
     ·have d4:=YW p4
      have HS:=QQ ((HS0.out _ HCd.out).2 (fun x=>p4 x.1));clear p4;go_wp2_with fail
      go_quiet (fail)
      go_wp2_with fail
      go_ret2;rw[HS.out.2];exact Q2.none_ (ZZ.from_ HS5.out (ZZ.same HE5.out (QY (Below.refl _ _) _))) HS.out.1
    ·have dab:=Je0 ab
     have HS:Hid (Qc5 a1 (XX m)=Qg3 (XX m) b1∧O4 a1 (XX m)=O3 (XX m) b1):=by
      refine QQ ⟨?_, ?_⟩
      ·funext Fs;unfold Qc5;rw[HPI.out,if_neg HI7.out,if_neg HQ6.out,if_pos ab]
      ·unfold O4;rw[HPI.out,if_neg HI7.out,if_neg HQ6.out,if_pos ab]
     clear i7 p6 q6 ab;go_wp2_with fail
     refine(Xv8 HE5.out HI.out b1).mono ?_;rintro ev w6 ⟨A,c,Fs,rfl,hunc,hrow,hnew,hrest⟩;have HFt:=QQ (show ZY _ w6 e F5 (Qg3 (XX m) b1) (O3 (XX m) b1) (.returned (.slice A (List.length Fs) c))from⟨A,c,Fs,rfl,hunc,hrow,hnew,hrest⟩);clear hunc hrow hnew hrest c14 c15 c16;go_wp2_with fail
     go_ret2;rw[HS.out.1,HS.out.2];exact(ZY.from_ HS5.out HFt.out).told 0
theorem Xh4 {w:World} {e:Nat} {F:Nat→Prop} {m:VQ} (h:YQ w e F m) (hI:Qn2 m):
  Calls Tryz.prog 54 #[.pointer (some ⟨e,0,none⟩)] w fun ev w'=>ev= .returned (VZ (Jd2 m))∧ZZ w w' e F (Y4 m):=by
 have hE:=h
 obtain⟨cs,tb,bb,bk,im,T,tc,Al,lc,lv,bu,se,Ap,pc,es,mc,G,own,hM,hF⟩:=h
 have c14:=hM.cell hM.ec.c14
 have HE:=QQ hE
 by_cases p6:m.ph=6
 ·have d6:=Jk1 p6
  obtain⟨⟨a1,a2⟩,ha⟩: ∃q,Qp4 m.rows m.now m.rows.length=q:=⟨_,rfl⟩;have HPa:=QQ (fun W hW=>Jf7 hM hI.tab m.now W hW ha);obtain⟨SM,hSM⟩: ∃M,Y4 m=M:=⟨_,rfl⟩;have HT:Hid (Jd2 m=0∧SM=if a1=3 then Jj0 m else if a1=5 then Qc4 m else {m with ph:=a1}):=by
   refine QQ ⟨by unfold Jd2;rw[if_pos p6], ?_⟩;rw[←hSM];unfold Y4 UV;rw[if_pos p6,ha]
  rw[HT.out.1,hSM,K0];clear hSM;have c6:=hM.cell hM.ec.c6;have c15:=hM.cell hM.ec.c15;have HI:=QQ hI;obtain⟨nw,hnw⟩: ∃v,m.now=v:=⟨_,rfl⟩;rw[hnw]at c15 HPa;obtain⟨ph,hph⟩: ∃p,m.ph=p:=⟨_,rfl⟩;rw[hph]at c14 d6;clear p6 hE hM hF hI hph ha hnw;go_enter Tryz.func54,Tryz.ntmps54
  go_upto_region 3 with fail
  refine XY (fun t=> [].contains t) (fun W=>W.cell? ⟨e,6,none⟩=some (.pointer (some ⟨tb,0,none⟩))∧W.cell? ⟨e,15,none⟩=some (.int .i64 nw)) (by kernel_rfl) ⟨c6,c15⟩ (fun hS0=> ?_);refine tM 0 (.pointer (some ⟨e,0,none⟩)) ?_;refine tM 1 (.pointer (some ⟨e,0,none⟩)) ?_;refine tM 2 (.pointer (some ⟨e,6,none⟩)) ?_;refine tM 3 (.pointer (some ⟨tb,0,none⟩)) ?_;refine tM 4 (.pointer (some ⟨e,0,none⟩)) ?_;refine tM 5 (.pointer (some ⟨e,0,none⟩)) ?_;refine tM 6 (.pointer (some ⟨e,15,none⟩)) ?_;refine tM 7 (.int .i64 nw) ?_;refine oM 8 fun K9 hK9=> ?_
  go_simp;refine(HPa.out w.drew (Below.drew (Below.refl _ _))).mono ?_;rintro ev w3 ⟨rfl,hq⟩;refine hK9 _ _ (fun _=>⟨QV hS0.1 hq,QV hS0.2 hq⟩) ?_;have hS1:=And.intro (QV hS0.1 hq) (QV hS0.2 hq);clear hK9 hS0;refine tM 9 (.tuple #[.int .i64 a1,.int .i64 a2]) ?_;refine tM 10 (.int .i64 a1) ?_;refine tM 11 (.int .i64 a2) ?_;refine tM 12 (.int .i64 a1) ?_;refine tM 13 (.int .i64 a2) ?_;refine VJ (by kernel_rfl) ?_ _;have hb3:Below w.heap.size w w3:=(Below.drew (Below.refl _ w)).trans hq;have HE3:=QQ (HE.out.below hb3);have HB3:=QQ hb3;have hsp:=(HE.out.below hb3).setPh a1;have HSp:=QQ hsp.1;obtain⟨-,x1,x2,-⟩:=hsp;clear c6 c14 c15 hS1 hq hb3 HPa HE
  by_cases i3:a1=3
  ·have e3:=Z2 i3
   have HS:Hid (SM=Jj0 m):=QQ (HT.out.2.trans (if_pos i3));clear i3;go_wp2_with fail
   refine(Y3 HE3.out (by have:=HI.out.now;omega) HI.out.tk).mono ?_;rintro ev w4 ⟨rfl,hto⟩;have HTo:=QQ hto;clear hto x1 x2;go_wp2_with fail
   go_ret;rw[HS.out];exact⟨rfl,HTo.out.pre HB3.out⟩
  ·have e3:=YW i3
   by_cases i5:a1=5
   ·have e5:=Z2 i5
    have HS:Hid (SM=Qc4 m):=QQ (HT.out.2.trans ((if_neg i3).trans (if_pos i5)));clear i3 i5;go_wp2_with fail
    refine(Jq2 HE3.out HI.out.pk HI.out.pkn).mono ?_;rintro ev w4 ⟨rfl,hto⟩;have HTo:=QQ hto;clear hto x1 x2;go_wp2_with fail
    go_ret;rw[HS.out];exact⟨rfl,HTo.out.pre HB3.out⟩
   ·have e5:=YW i5
    have HS:Hid (SM= {m with ph:=a1}):=QQ (HT.out.2.trans ((if_neg i3).trans (if_neg i5)));clear i3 i5;go_wp2_with fail
    go_ret;rw[HS.out];exact⟨rfl,HSp.out.pre HB3.out⟩
 ·have d6:=Je0 p6
  have HT:Hid (Jd2 m=6∧Y4 m=m):=QQ ⟨by unfold Jd2;rw[if_neg p6],by unfold Y4;rw[if_neg p6]⟩;rw[HT.out.1,HT.out.2];obtain⟨ph,hph⟩: ∃p,m.ph=p:=⟨_,rfl⟩;rw[hph]at c14 d6;clear p6 hE hM hF hI hph;go_enter Tryz.func54,Tryz.ntmps54
  go_wp2;go_ret;exact⟨rfl,ZZ.same HE.out (Below.refl _ _)⟩
section
variable {m:VQ}
theorem YJ.in_ (h:YJ m) (hn:0≤m.now∧m.now≤1000000000000):Qn2 m:=
 ⟨⟨h.tab.1,h.tab.2.1⟩,by have:=h.tk;omega,h.la,hn,by have:=h.lng;omega,fun o ho=>(h.pk o ho).1.1,by have:=h.cnt;omega⟩
theorem Kq1 {ps:List (Int×Int)} {st dy p tk mo:Int} (h:Qj2 ps st dy p tk mo 0 (-1)):YJ (Jz2 ps st dy p tk mo):=by
 rcases h with⟨-,h⟩|⟨-,-,h,-⟩|⟨-,-,-,h,-⟩|⟨ht,hb,hn,-,-⟩
 ·exact absurd rfl h
 ·cases h
 ·cases h
 ·rw[Bool.and_eq_true,Qm4,Qm4]at hb
  obtain⟨⟨a1,a2,a3,a4⟩,⟨b1,b2,b3,b4⟩⟩:=hb;refine⟨ht,⟨a3,a4⟩,⟨b3,b4⟩,by show 1≤tk∧tk≤1000000;omega,by show 0≤mo∧mo≤10;omega,⟨a1,a2⟩,⟨a1,a2⟩,⟨List.nodup_nil,by simp[Jz2],fun o ho=>(by cases ho),fun o ho=>(by cases ho),fun o ho=>(by cases ho)⟩,fun o ho=>(by cases ho),by simp[Jz2],⟨by show(0:Int)≤0;omega,by show(0:Int)≤10;omega⟩⟩
end
end Go.Proofs.YtbmiieehkkfbgaaGreatDoor
namespace Go.Proofs.YtbmiieehkkfbgaaGreatDoor
open Go Go.RowKit
abbrev Byt:=List UInt8
structure DS where
 rows:List (Int×Int)
 st:Int
 dy:Int
 p:Int
 tk:Int
 mo:Int
 e:Option VQ
def ds0:DS:=⟨[],0,0,0,0,0,none⟩
inductive Ans where
 |ok (l:Byt)
 |bad (n:Int)
def Jj5 (s:ByteArray):Option Int:=
 match Lib.atoiAll s.data.toList with
 | .ok v=>if Lib.itoa v=s.data.toList then some v else none
 |_=>none
def Qd7:List ByteArray→Option (List Int)
 | []=>some []
 |s::l=>match Jj5 s with
  |none=>none
  |some v=>(Qd7 l).map (v:: ·)
def XV (w:List ByteArray) (n:Int):Option (List Int):=if 0≤n∧(w.length:Int)≠n then none else Qd7 w
def Z9 (l:List Int):Byt:=Lib.join (l.map Lib.itoa) [32]
def Qz5 (name:Byt) (F:List XQ):Byt:=Lib.join (name::F.map fun f=>Z9 [f.b,f.s,f.p,f.n]) [44,32]
def Qv1 (l:List QX):Byt:=Lib.join (l.map fun o=>Z9 [o.id,o.kind,o.price,o.qty]) [44,32]
theorem Jz5 {l:List UInt8} {v:Int} (h:Lib.atoiAll l= .ok v):KZ v:=by
 cases l with
 |nil=>cases h
 |cons c r=>
  unfold Lib.atoiAll at h;dsimp only at h
  cases hp:Lib.parseMag (if c.toNat=43∨c.toNat=45 then r else c::r)with
  |range=>rw[hp]at h;cases h
  |ok u=>
   rw[hp]at h;dsimp only at h
   split at h
   ·cases h
   ·split at h
    ·cases h
    ·cases h
     unfold KZ
     split<;>omega
  |_=>rw[hp]at h;cases h
theorem Za5 {s:ByteArray} {v:Int} (h:Jj5 s=some v):KZ v:=by
 unfold Jj5 at h
 split at h
 ·rename_i u hu
  split at h
  ·cases h;exact Jz5 hu
  ·cases h
 ·cases h
theorem Xh5: ∀ {w:List ByteArray} {l:List Int},Qd7 w=some l→l.length=w.length∧ ∀v∈l,KZ v
 | [],l,h=>by cases h;exact⟨rfl,fun v hv=>(by cases hv)⟩
 |s::w,l,h=>by
  unfold Qd7 at h
  split at h
  ·cases h
  ·rename_i v hv
   obtain⟨l',h1,h2⟩:=Option.map_eq_some_iff.1 h;subst h2;obtain⟨h3,h4⟩:=Xh5 h1;refine⟨by simp[h3],fun u hu=> ?_⟩;rcases List.mem_cons.1 hu with e|e
   ·rw[e];exact Za5 hv
   ·exact h4 u e
theorem Jz6: ∀(w:List ByteArray) (s:ByteArray),Qd7 (w++ [s])=match Qd7 w with
  |none=>none
  |some l=>(Jj5 s).map fun v=>l++ [v]
 | [],s=>by
  show(match Jj5 s with|none=>none|some v=>(Qd7 []).map (v:: ·))=_
  cases Jj5 s<;>rfl
 |t::w,s=>by
  rw[List.cons_append];unfold Qd7;rw[Jz6 w s]
  cases Jj5 t with
  |none=>rfl
  |some v=>
   cases Qd7 w with
   |none=>rfl
   |some l=>cases Jj5 s<;>rfl
theorem Kq2 {w w':List ByteArray} (h:Qd7 w=none):Qd7 (w++w')=none:=by
 induction w with
 |nil=>cases h
 |cons t w ih=>
  rw[List.cons_append];unfold Qd7 at h⊢
  cases hn:Jj5 t with
  |none=>rfl
  |some v=>
   rw[hn]at h;have h1:Qd7 w=none:=by
    cases hw:Qd7 w with
    |none=>rfl
    |some l=>rw[hw]at h;cases h
   show Option.map _ (Qd7 (w++w'))=none;rw[ih h1]
   rfl
theorem YK {w:List ByteArray} {n:Int} {l:List Int} (h:XV w n=some l):l.length=w.length∧(0≤n→(l.length:Int)=n)∧ ∀v∈l,KZ v:=by
 unfold XV at h
 split at h
 ·cases h
 ·rename_i hc
  obtain⟨h1,h2⟩:=Xh5 h;refine⟨h1,fun h0=> ?_,h2⟩;rw[h1];exact Decidable.byContradiction fun hne=>hc ⟨h0,hne⟩
def ZK (d:DS) (r:Option (List Int)) (f:List Int→DS×Ans):DS×Ans:=
 match r with
 |none=>(d,.bad 3)
 |some l=>f l
def X4 (d:DS) (f:VQ→DS×Ans):DS×Ans:=
 match d.e with
 |none=>(d,.bad 6)
 |some m=>f m
def noE (d:DS) (r:DS×Ans):DS×Ans:=
 match d.e with
 |none=>r
 |some _=>(d,.bad 6)
def Jr8 (n:Int) (s:Byt):Ans:=if n=0 then .ok s else .bad n
def O5:List Int→List (Int×Int)
 |a::b::l=>(a,b)::O5 l
 |_=> []
open Classical in
noncomputable def Kq3 (d:DS):Int:=if h: ∃n pl,Qj2 d.rows d.st d.dy d.p d.tk d.mo n pl then h.choose else 0
open Classical in
noncomputable def Kj1 (m:VQ):List XQ:=if h: ∃F,Qs0 m F then h.choose else []
theorem Xw1 {m:VQ} {F:List XQ} (h:Qs0 m F):Kj1 m=F:=by
 have he: ∃F,Qs0 m F:=⟨F,h⟩
 unfold Kj1
 rw[dif_pos he]
 exact Xl6 he.choose_spec h
theorem Xh6 {ps:List (Int×Int)} {n pl n' pl':Int} (h:TabIs ps n pl) (h':TabIs ps n' pl'):n=n':=by
 unfold TabIs at h h'
 rcases h with⟨a,b,-⟩|⟨a,b,-⟩|⟨a,b,i,hi,c,d,e,-⟩|⟨a,b,c,d,-⟩<;>rcases h' with⟨a',b',-⟩|⟨a',b',-⟩|⟨a',b',i',hi',c',d',e',-⟩|⟨a',b',c',d',-⟩<;>try omega
 ·rcases Nat.lt_trichotomy i i' with h|h|h
  ·exact absurd (c' i h) d
  ·rw[e,e',h]
  ·exact absurd (c i' h) d'
 ·exact absurd (c' i hi) d
 ·exact absurd (c i' hi') d'
theorem Za6 {ps:List (Int×Int)} (h:U6 ps):TabIs ps 0 (-1):= .inr (.inr (.inr ⟨h.1,h.2.1,h.2.2,rfl,rfl⟩))
theorem Kq4 {ps:List (Int×Int)} {st dy p tk mo n pl n' pl':Int} (h:Qj2 ps st dy p tk mo n pl) (h':Qj2 ps st dy p tk mo n' pl'):n=n':=by
 have T: ∀ {n pl:Int},TabIs ps n pl→n≠0→ ¬U6 ps:=fun h1 h2 h3=>h2 (Xh6 h1 (Za6 h3))
 unfold Qj2 at h h'
 rcases h with⟨a,b⟩|⟨a,b,c,-⟩|⟨a,b,c,d,-⟩|⟨a,b,c,d,-⟩<;>rcases h' with⟨a',b'⟩|⟨a',b',c',-⟩|⟨a',b',c',d',-⟩|⟨a',b',c',d',-⟩<;>
  first
  |exact Xh6 a a'
  |exact absurd a' (T a b)
  |exact absurd a (T a' b')
  |exact absurd (b.symm.trans b') (by decide)
  |exact absurd c c'
  |exact absurd c' c
  |(rw[c,c'])
  |(rw[c,d'])
  |(rw[d,c'])
  |(rw[d,d'])
theorem Kj2 {d:DS} {n pl:Int} (h:Qj2 d.rows d.st d.dy d.p d.tk d.mo n pl):Kq3 d=n:=by
 have he: ∃n pl,Qj2 d.rows d.st d.dy d.p d.tk d.mo n pl:=⟨n,pl,h⟩
 unfold Kq3
 rw[dif_pos he]
 obtain⟨pl',h'⟩:=he.choose_spec
 exact Kq4 h' h
def Xm3 (p:Int):Byt:=([[],[112,114,101,111,112,101,110],[111,112,101,110,105,110,103],[116,114,97,100,105,110,103],[118,111,108,97,116,105,108,105,116,121],[99,108,111,115,105,110,103],[104,97,108,116],[101,110,100,101,100]]:List Byt).getD p.toNat []
def Qq2 (d:DS) (w:List ByteArray):DS×Ans:=ZK d (XV w (-1)) fun l=>if l.length % 2=0 then noE d ({d with rows:=O5 l},.ok [116,97,98,108,101])else(d,.bad 3)
def Qz6 (d:DS) (w:List ByteArray):DS×Ans:=ZK d (XV w 3) fun l=>noE d ({d with st:=l.getD 0 0,dy:=l.getD 1 0,p:=l.getD 2 0},.ok [98,97,110,100,115])
def Qj3 (d:DS) (w:List ByteArray):DS×Ans:=ZK d (XV w 2) fun l=>noE d ({d with tk:=l.getD 0 0,mo:=l.getD 1 0},.ok [97,117,99,116,105,111,110])
noncomputable def Qz7 (d:DS) (w:List ByteArray):DS×Ans:=ZK d (XV w 0) fun l=>noE d (if Kq3 d=0 then {d with e:=some (Jz2 d.rows d.st d.dy d.p d.tk d.mo)}else d,Jr8 (Kq3 d) [115,116,97,114,116])
def Qh3 (s:Int) (l:List Int):QX:=⟨l.getD 0 0,s,l.getD 1 0,l.getD 2 0,l.getD 3 0⟩
def Qe3 (s:Int) (d:DS) (w:List ByteArray):DS×Ans:=ZK d (XV w 4) fun l=>X4 d fun m=>({d with e:=some (IZ m (Qh3 s l))},Jr8 (IK m (Qh3 s l)) (Qz5 [116,97,107,101,110] (Qg4 m (Qh3 s l))))
def Qh7 (d:DS) (w:List ByteArray):DS×Ans:=ZK d (XV w 1) fun l=>X4 d fun m=>({d with e:=some (UW m (l.getD 0 0))},Jr8 (Qa7 m (l.getD 0 0)) [99,97,110,99,101,108])
noncomputable def Jd4 (d:DS) (w:List ByteArray):DS×Ans:=ZK d (XV w 0) fun l=>X4 d fun m=>({d with e:=some (J6 m)},Jr8 (Jd1 m) (Qz5 (Lib.itoa (J6 m).now) (Kj1 m)))
def Jd5 (d:DS) (w:List ByteArray):DS×Ans:=ZK d (XV w 0) fun l=>X4 d fun m=>({d with e:=some (Qf0 m)},Jr8 (Qv8 m) [104,97,108,116])
def Jd6 (d:DS) (w:List ByteArray):DS×Ans:=ZK d (XV w 0) fun l=>X4 d fun m=>({d with e:=some (Y4 m)},Jr8 (Jd2 m) [111,112,101,110])
def Qz8 (d:DS) (w:List ByteArray):DS×Ans:=ZK d (XV w 0) fun l=>X4 d fun m=>(d,.ok (Xm3 m.ph))
def Qz9 (d:DS) (w:List ByteArray):DS×Ans:=ZK d (XV w 0) fun l=>X4 d fun m=>(d,.ok (Z9 [(Qm7 m).1,(Qm7 m).2.1,(Qm7 m).2.2]))
def Jq8 (d:DS) (w:List ByteArray):DS×Ans:=ZK d (XV w 0) fun l=>X4 d fun m=>(d,.ok (Z9 [m.an,m.la]))
def Kj3 (n:Int):Int:=if n=1∨n=2 then 0 else 1
def Jd7 (d:DS) (w:List ByteArray):DS×Ans:=ZK d (XV w 1) fun l=>X4 d fun m=>(d,Jr8 (Kj3 (l.getD 0 0)) (Qv1 (JY (l.getD 0 0) m.L1 m.L2)))
def Qo9 (d:DS) (w:List ByteArray):DS×Ans:=ZK d (XV w 0) fun l=>X4 d fun m=>(d,.ok (Qv1 m.pk))
def Jq9 (d:DS) (w:List ByteArray):DS×Ans:=ZK d (XV w 2) fun l=>(d,Jr8 (Qg6 (l.getD 0 0) (l.getD 1 0)) (Z9 [I3 (l.getD 0 0) (l.getD 1 0),I4 (l.getD 0 0) (l.getD 1 0)]))
def Jm5 (d:DS) (w:List ByteArray):DS×Ans:=ZK d (XV w 0) fun l=>(ds0,.ok [99,108,101,97,114])
def Xw2:Byt:= [97,117,99,116,105,111,110,32,98,97,110,100,32,98,97,110,100,115,32,98,117,121,32,99,97,110,99,101,108,32,99,108,101,97,114,32,104,97,108,116,32,104,101,108,112,32,111,112,101,110,32,111,114,100,101,114,115,32,112,97,114,107,101,100,32,112,104,97,115,101,32,113,117,111,116,101,32,114,101,102,115,32,115,101,108,108,32,115,116,97,114,116,32,116,97,98,108,101,32,116,105,99,107]
def Qw1 (d:DS) (w:List ByteArray):DS×Ans:=ZK d (XV w 0) fun l=>(d,.ok Xw2)
def Jj6:List Byt:= [[97,117,99,116,105,111,110],[98,97,110,100],[98,97,110,100,115],[98,117,121],[99,97,110,99,101,108],[99,108,101,97,114],[104,97,108,116],[104,101,108,112],[111,112,101,110],[111,114,100,101,114,115],[112,97,114,107,101,100],[112,104,97,115,101],[113,117,111,116,101],[114,101,102,115],[115,101,108,108],[115,116,97,114,116],[116,97,98,108,101],[116,105,99,107]]
noncomputable def Xh7:List (DS→List ByteArray→DS×Ans):= [Qj3,Jq9,Qz6,Qe3 1,Qh7,Jm5,Jd5,Qw1,Jd6,Jd7,Qo9,Qz8,Qz9,Jq8,Qe3 2,Qz7,Qq2,Jd4]
def Qj4 (c:ByteArray):Nat:=Jj6.idxOf c.data.toList
def Jz7 (n:Int):Byt:= [101,114,114,111,114,32]++Lib.itoa n
def Zm0:Ans→Byt
 | .ok l=>l
 | .bad n=>Jz7 n
noncomputable def Zk4 (d:DS):List ByteArray→DS×Byt
 | []=>(d,[111,107])
 |c::w=>if Qj4 c<18 then(((Xh7.getD (Qj4 c) Qw1) d w).1,Zm0 ((Xh7.getD (Qj4 c) Qw1) d w).2)else(d,Jz7 3)
def Qg5 (x:Nat):Bool:=x ==32
noncomputable def Ja0 (d:DS) (s:ByteArray):DS×Byt:=Zk4 d (Lib.goFieldsP Qg5 s)
noncomputable def Jf8:DS→List Byt→Byt
 |_,[]=> []
 |d,s::l=>(Ja0 d ⟨s.toArray⟩).2++ [10]++Jf8 (Ja0 d ⟨s.toArray⟩).1 l
noncomputable def Jf9:DS→List Byt→DS
 |d,[]=>d
 |d,s::l=>Jf9 (Ja0 d ⟨s.toArray⟩).1 l
theorem Jd8: ∀(d:DS) (l l':List Byt),Jf8 d (l++l')=Jf8 d l++Jf8 (Jf9 d l) l'
 |_,[],_=>rfl
 |d,s::l,l'=>by
  rw[List.cons_append,Jf8,Jf8,Jd8,Jf9];simp only[List.append_assoc]
theorem Xw3: ∀(d:DS) (l:List Byt) (s:Byt),Jf9 d (l++ [s])=(Ja0 (Jf9 d l) ⟨s.toArray⟩).1
 |_,[],_=>rfl
 |d,t::l,s=>by rw[List.cons_append,Jf9,Xw3,Jf9]
def Qe4:Byt→List Byt
 | []=> [[]]
 |c::l=>if c ==10 then []::Qe4 l else match Qe4 l with
  | []=> [[c]]
  |h::t=>(c::h)::t
theorem Kq5: ∀l:Byt,Qe4 l≠ []
 | []=>by simp[Qe4]
 |c::l=>by
  unfold Qe4
  split
  ·simp
  ·split<;>simp
theorem Jd9: ∀(a b:Byt),Qe4 (a++10::b)=Qe4 a++Qe4 b
 | [],b=>by simp[Qe4]
 |c::a,b=>by
  rw[List.cons_append,Qe4,Jd9 a b]
  conv=>rhs;rw[Qe4]
  split
  ·rfl
  ·cases h:Qe4 a with
   |nil=>exact absurd h (Kq5 a)
   |cons x t=>rfl
theorem Zh8 {l:Byt} (h: ∀c∈l,c≠10):Qe4 l= [l]:=by
 induction l with
 |nil=>rfl
 |cons c l ih=>
  rw[Qe4,ih (fun x hx=>h x (List.mem_cons_of_mem _ hx)),if_neg (by simpa using h c List.mem_cons_self)]
noncomputable def Jz8 (t:Byt):Byt:=if 20000<t.length then [101,114,114,111,114,32,52,10]else Jf8 ds0 (Qe4 (Lib.trimSuffix t [10]))
theorem Jm6 (s:Byt) (x:UInt8):Lib.trimSuffix (s++ [x]) [10]=if x=10 then s else s++ [x]:=by
 unfold Lib.trimSuffix Lib.hasSuffix
 by_cases h:x=10
 ·subst h
  rw[if_pos rfl,if_pos (by simp[List.isSuffixOf])];simp
 ·rw[if_neg h,if_neg (by simp[List.isSuffixOf];exact fun e=>h e.symm)]
theorem Xw4 (a b:Byt):Lib.trimSuffix (a++10::b) [10]=if b= []then a else a++10::Lib.trimSuffix b [10]:=by
 rcases List.eq_nil_or_concat b with h|⟨c,x,h⟩
 ·subst h
  rw[if_pos rfl,Jm6,if_pos rfl]
 ·have hx:b=c++ [x]:=by rw[h,List.concat_eq_append]
  rw[if_neg (by rw[hx];simp),hx,show a++10:: (c++ [x])=(a++10::c)++ [x] by simp,Jm6,Jm6]
  split
  ·rfl
  ·simp
theorem Za7 {a b:Byt} (h:a.length+b.length≤2500): ∃t,Jz8 (a++10::b)=Jz8 (a++ [10])++t:=by
 have h1: ¬20000< (a++10::b).length:=by simp;omega
 have h2: ¬20000< (a++ [10]).length:=by simp;omega
 unfold Jz8
 rw[if_neg h1,if_neg h2,show a++ [10]=a++10:: []from rfl,Xw4,Xw4,if_pos rfl]
 split
 ·exact⟨[],(List.append_nil _).symm⟩
 ·rw[Jd9,Jd8]
  exact⟨_,rfl⟩
end Go.Proofs.YtbmiieehkkfbgaaGreatDoor
