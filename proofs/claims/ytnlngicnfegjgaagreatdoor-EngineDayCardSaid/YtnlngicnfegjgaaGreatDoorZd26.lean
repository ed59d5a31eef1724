/- Contracts and walks that the law's proof needs. -/
import Derived.WalkKit
import Derived.WalkLawsBesides
import Derived.WalkSpells
import Derived.StillTailTactics
import Derived.Deep.QuietTactic
import Derived.BigQuiet
import Derived.Deep.DeepCutAuto
import Derived.Deep.CutBlock
import Derived.Test.YtnlngicnfegjgaaGreatDoorZd25
import Derived.Test.YtnlngicnfegjgaaGreatDoorZd14
import Derived.Shelf.Abstract
import Derived.Test.YtnlngicnfegjgaaGreatDoorZd19
import Derived.Test.YtnlngicnfegjgaaGreatDoorZd23
import Derived.Test.YtnlngicnfegjgaaGreatDoorZd20
set_option linter.unusedVariables false
set_option maxRecDepth 100000
set_option maxHeartbeats 8000000
namespace Go.Proofs.YtnlngicnfegjgaaGreatDoor
open Go.RowKit
def J7 (w w':World) (e:Nat) (F:Nat→Prop) (P:List JV→Prop) (m:ZJ) (E:Int) (ev:Ending):Prop:=
 ∃A c Fs,ev= .returned (.tuple #[.slice A (List.length Fs) c,YV E])∧P Fs∧QY w' A Fs.length c 89 4 (QW Qb1 Fs)∧(∀g,QZ A=some g→w.heap.size≤g)∧ ∃F',UK w' e F' m∧XW w w' F F'∧ ∀g,QZ A=some g→ ¬F' g
theorem J7.none_ {w w':World} {e:Nat} {F:Nat→Prop} {P:List JV→Prop} {m:ZJ} {E:Int} (h:YZ w w' e F m) (hP:P []):J7 w w' e F P m E (.returned (.tuple #[.slice none 0 0,YV E])):=by
 obtain⟨F',h1,h2⟩:=h
 exact⟨none,0,[],rfl,hP,World.ownsRow_nil _ _ _ _,fun g hg=>by simp[QZ]at hg,F',h1,h2,fun g hg=>by simp[QZ]at hg⟩
theorem ZV.told {w w':World} {e:Nat} {F:Nat→Prop} {P:List JV→Prop} {m:ZJ} {A:Option Addr} {n c:Nat} (h:ZV w w' e F P m (.returned (.slice A n c))) (E:Int):J7 w w' e F P m E (.returned (.tuple #[.slice A n c,YV E])):=by
 obtain⟨A',c',Fs,h1,h2,h3,h4,h5⟩:=h
 cases h1
 exact⟨A,c,Fs,rfl,h2,h3,h4,h5⟩
theorem ZV.step {w w1 w2:World} {e:Nat} {F:Nat→Prop} {P:List JV→Prop} {m m2:ZJ} {ev:Ending} (h:ZV w w1 e F P m ev) (k: ∀F1,UK w1 e F1 m→YZ w1 w2 e F1 m2):ZV w w2 e F P m2 ev:=by
 obtain⟨A,c,Fs,h1,h2,h3,h4,F1,h5,h6,h7⟩:=h
 obtain⟨F2,h8,h9⟩:=k F1 h5
 refine⟨A,c,Fs,h1,h2,h3.keeps h9.1 h7,h4,F2,h8,h6.trans h9,fun g hg hF=> ?_⟩
 rcases h9.2 g hF with h11|h11
 ·exact h7 g hg h11
 ·have:=h3.lt hg;omega
theorem ZV.as {w w':World} {e:Nat} {F:Nat→Prop} {P P':List JV→Prop} {m m':ZJ} {ev:Ending} (h:ZV w w' e F P m ev) (hP:P=P') (hm:m=m'):ZV w w' e F P' m' ev:=by
 subst hP hm
 exact h
theorem ZV.from_ {w w1 w':World} {e:Nat} {F F1:Nat→Prop} {P:List JV→Prop} {m:ZJ} {ev:Ending} (hb:XW w w1 F F1) (h:ZV w1 w' e F1 P m ev):ZV w w' e F P m ev:=by
 obtain⟨A,c,Fs,h1,h2,h3,h4,F',h5,h6,h7⟩:=h
 exact⟨A,c,Fs,h1,h2,h3,fun g hg=>Nat.le_trans hb.1.size (h4 g hg),F',h5,hb.trans h6,h7⟩
theorem YZ.from_ {w w1 w':World} {e:Nat} {F F1:Nat→Prop} {m:ZJ} (hb:XW w w1 F F1) (h:YZ w1 w' e F1 m):YZ w w' e F m:=by
 obtain⟨F',h1,h2⟩:=h
 exact⟨F',h1,hb.trans h2⟩
theorem Je4 {w:World} {e:Nat} {cs:Array Value} {tb bb bk im:Nat} {T:Option Addr} {tc:Nat} {Al:Option Addr} {lc:Nat} {lv:List XJ} {bu se:Int} {Ap:Option Addr} {pc:Nat} {es:List MapEntry} {mc:Nat} {G:Nat→Prop} {own:Nat→Nat→Prop} {g:Int→Option Int→Int} {m:ZJ}
  (h:UX w e cs tb bb bk im T tc Al lc lv bu se Ap pc es mc G own g m) (hn:0<m.rows.length∧m.rows.length≤20) (t:Int) (W:World) (hW:Below w.heap.size w W) {a b:Int} (hp:Ql9 m.rows t m.rows.length=(a,b)):
  Calls Tryz.prog 37 #[.pointer (some ⟨tb,0,none⟩),.int .i64 t] W fun ev w'=>ev= .returned (.tuple #[.int .i64 a,.int .i64 b])∧Below W.heap.size W w':=by
 have h':=h.below hW
 have key:=Kf9 tb T m.rows.length tc m.rows t W h'.tabl h'.tabp h'.tabc hn.1 hn.2
 rw[hp]at key
 exact key
theorem Jb0 {w:World} {e:Nat} {F:Nat→Prop} {m:ZJ} (h:UK w e F m) (hI:Qj3 m) (hI1:Qj3 (XQ m)):
  Calls Tryz.prog 10 #[.pointer (some ⟨e,0,none⟩)] w fun ev w'=>J7 w w' e F (Jh5 m) (Q8 m) (Jh4 m) ev:=by
 have hE:=h
 obtain⟨cs,tb,bb,bk,im,T,tc,Al,lc,lv,bu,se,Ap,pc,es,mc,G,own,hM,hF⟩:=h
 have c14:=hM.cell hM.ec.c14
 by_cases p7:m.ph=7
 ·have d7:=J4 p7
  have HS:Hid (Jh5 m []∧Q8 m=m∧Jh4 m=6):=QQ ⟨by unfold Jh5;rw[if_pos p7],by unfold Q8;rw[if_pos p7],by unfold Jh4;rw[if_pos p7]⟩;have HE:=QQ hE;obtain⟨ph,hph⟩: ∃p,m.ph=p:=⟨_,rfl⟩;rw[hph]at c14 d7;clear p7 hE hM hF hI hI1 hph;go_enter Tryz.func10,Tryz.ntmps10
  go_wp2;go_ret2;rw[HS.out.2.1,HS.out.2.2];exact J7.none_ (YZ.same HE.out (Below.refl _ _)) HS.out.1
 ·have d7:=UQ p7
  obtain⟨⟨a1,a2⟩,ha⟩: ∃q,Ql9 m.rows m.now m.rows.length=q:=⟨_,rfl⟩;obtain⟨⟨b1,b2⟩,hb⟩: ∃q,Ql9 m.rows (m.now+1) m.rows.length=q:=⟨_,rfl⟩;have HPa:=QQ (fun W hW=>Je4 hM hI.tab m.now W hW ha);have HT:Hid (Jh4 m=0∧Q8 m=I1 a1 (XQ m)∧Jh5 m=Qf0 a1 (XQ m)∧VJ (XQ m) (XQ m).now=b1):=by
   refine QQ ⟨by unfold Jh4;rw[if_neg p7], ?_, ?_, ?_⟩
   ·unfold Q8 VJ;rw[if_neg p7,ha]
   ·funext Fs;unfold Jh5 VJ;rw[if_neg p7,ha]
   ·exact congrArg Prod.fst hb
  rw[HT.out.1,HT.out.2.1,HT.out.2.2.1];have c6:=hM.cell hM.ec.c6;have c15:=hM.cell hM.ec.c15;have HM:=QQ hM;have HF:=QQ hF;have HI:=QQ hI1;have HTab:=QQ hI.tab;have HHb:=QQ hb;have i1:RowKit.wrap64 (m.now+1)=m.now+1:=by
   have h1:=hI.now;unfold RowKit.wrap64;omega
  obtain⟨nw,hnw⟩: ∃v,m.now=v:=⟨_,rfl⟩;rw[hnw]at c15 HPa i1;have HNw:=QQ hnw;obtain⟨ph,hph⟩: ∃p,m.ph=p:=⟨_,rfl⟩;rw[hph]at c14 d7;have HPh:=QQ hph;clear p7 hE hM hF hI hI1 hph ha hb hnw;go_enter Tryz.func10,Tryz.ntmps10
  go_upto_region 3 with fail
  refine XK (fun t=> [].contains t) (fun W=>W.cell? ⟨e,6,none⟩=some (.pointer (some ⟨tb,0,none⟩))∧W.cell? ⟨e,15,none⟩=some (.int .i64 nw)) (by kernel_rfl) ⟨c6,c15⟩ (fun hS0=> ?_);refine tM 0 (.pointer (some ⟨e,0,none⟩)) ?_;refine tM 1 (.pointer (some ⟨e,0,none⟩)) ?_;refine tM 2 (.pointer (some ⟨e,6,none⟩)) ?_;refine tM 3 (.pointer (some ⟨tb,0,none⟩)) ?_;refine tM 4 (.pointer (some ⟨e,0,none⟩)) ?_;refine tM 5 (.pointer (some ⟨e,0,none⟩)) ?_;refine tM 6 (.pointer (some ⟨e,15,none⟩)) ?_;refine tM 7 (.int .i64 nw) ?_;refine oM 8 fun K9 hK9=> ?_
  go_simp;refine(HPa.out w.drew (Below.drew (Below.refl _ _))).mono ?_;rintro ev w3 ⟨rfl,hq⟩;refine hK9 _ _ (fun _=>⟨QV hS0.1 hq,QV hS0.2 hq⟩) ?_;have hS1:=And.intro (QV hS0.1 hq) (QV hS0.2 hq);clear hK9 hS0;refine tM 9 (.tuple #[.int .i64 a1,.int .i64 a2]) ?_;refine tM 10 (.int .i64 a1) ?_;refine tM 11 (.int .i64 a2) ?_;refine tM 12 (.int .i64 a1) ?_;refine tM 13 (.int .i64 a2) ?_;refine ZZ (by kernel_rfl) ?_ _;have hb3:Below w.heap.size w w3:=(Below.drew (Below.refl _ w)).trans hq;have hM3:=HM.out.below hb3;have c15:=hM3.cell hM3.ec.c15;rw[HNw.out]at c15;have f15:=hM3.frozen 15;obtain⟨hM4,ho4⟩:=hM3.setNow (nw+1);have HB3:=QQ hb3;clear c6 c14 hS1 hq hb3 hM3 HPa;go_upto_region 5 with fail
  obtain⟨w4,ew4⟩: ∃W,w3.setCell ⟨e,15,none⟩ (.int .i64 (nw+1))=W:=⟨_,rfl⟩;rw[ew4]at hM4 ho4⊢;have em:({m with now:=nw+1}:ZJ)=XQ m:=by unfold XQ;rw[HNw.out]
  rw[em]at hM4;have HPb:=QQ (fun W hW=>Je4 (a:=b1) (b:=b2) hM4 HTab.out (nw+1) W hW (by have h:=HHb.out;rw[HNw.out]at h;exact h));clear ew4 c15 f15 i1;have c6:=hM4.cell hM4.ec.c6;have c15:=hM4.cell hM4.ec.c15;have e15:(XQ m).now=nw+1:=by rw[←em]
  rw[e15]at c15;have HM4:=QQ hM4;have HO4:=QQ ho4;have HE15:=QQ e15;clear hM4 ho4 em e15;refine XK (fun t=> [].contains t) (fun W=>W.cell? ⟨e,6,none⟩=some (.pointer (some ⟨tb,0,none⟩))∧W.cell? ⟨e,15,none⟩=some (.int .i64 (nw+1))) (by kernel_rfl) ⟨c6,c15⟩ (fun hS0=> ?_);refine tM 0 (.pointer (some ⟨e,0,none⟩)) ?_;refine tM 1 (.pointer (some ⟨e,0,none⟩)) ?_;refine tM 2 (.pointer (some ⟨e,6,none⟩)) ?_;refine tM 3 (.pointer (some ⟨tb,0,none⟩)) ?_;refine tM 4 (.pointer (some ⟨e,0,none⟩)) ?_;refine tM 5 (.pointer (some ⟨e,0,none⟩)) ?_;refine tM 6 (.pointer (some ⟨e,15,none⟩)) ?_;refine tM 7 (.int .i64 (nw+1)) ?_;refine oM 8 fun K9 hK9=> ?_
  go_simp;refine(HPb.out w4.drew (Below.drew (Below.refl _ _))).mono ?_;rintro ev w5 ⟨rfl,hq⟩;refine hK9 _ _ (fun _=>⟨QV hS0.1 hq,QV hS0.2 hq⟩) ?_;have hS1:=And.intro (QV hS0.1 hq) (QV hS0.2 hq);clear hK9 hS0;refine tM 9 (.tuple #[.int .i64 b1,.int .i64 b2]) ?_;refine tM 10 (.int .i64 b1) ?_;refine tM 11 (.int .i64 b2) ?_;refine tM 12 (.int .i64 b1) ?_;refine tM 13 (.int .i64 b2) ?_;refine ZZ (by kernel_rfl) ?_ _;have hb5:Below w4.heap.size w4 w5:=(Below.drew (Below.refl _ w4)).trans hq;have hM5:=HM4.out.below hb5;have hE5:UK w5 e _ (XQ m):=hM5.at_ (fun _ _ _=>rfl);have hs5:=(((VZ.of_below HB3.out).trans HO4.out).trans (VZ.of_below hb5)).bstep HF.out;obtain⟨F5,hF5⟩: ∃F5,F5=fun i=> ∃k,own i k:=⟨_,rfl⟩
  rw[←hF5]at hE5 hs5;have c14:=hM5.cell hM5.ec.c14;rw[show(XQ m).ph=m.ph from rfl,HPh.out]at c14;have c15:=hM5.cell hM5.ec.c15;rw[HE15.out]at c15;have c16:=hM5.cell hM5.ec.c16;have HE5:=QQ hE5;have HS5:=QQ hs5;have HPI:Hid (VJ (XQ m) (XQ m).now=b1):=QQ HT.out.2.2.2;clear c6 hS1 hq hb5 hM5 hE5 hs5 hF5 HM HM4 HO4 HB3 HPb HF HHb HTab
  by_cases i7:b1=7
  ·have e7:=J4 i7
   by_cases p5:ph=5
   ·have d5:=J4 p5
    have HS:Hid (Qf0 a1 (XQ m)=Qt6 (XQ m)∧I1 a1 (XQ m)=Qu8 (Qr4 (XQ m))):=by
     refine QQ ⟨?_, ?_⟩
     ·funext Fs;unfold Qf0;rw[HPI.out,if_pos i7,if_pos (show(XQ m).ph=5 from HPh.out.trans p5)]
     ·unfold I1;rw[HPI.out,if_pos i7,if_pos (show(XQ m).ph=5 from HPh.out.trans p5)]
    clear i7 p5;go_wp2_with fail
    refine(Ql4 HE5.out HI.out.la).mono ?_;rintro ev w6 ⟨A,c,Fs,rfl,hunc,hrow,hnew,F6,hE6,hs6,hno⟩;have HFt:=QQ (show ZV _ w6 e F5 (Qt6 (XQ m)) (Qr4 (XQ m)) (.returned (.slice A (List.length Fs) c))from⟨A,c,Fs,rfl,hunc,hrow,hnew,F6,hE6,hs6,hno⟩);have HE6:=QQ hE6;have HRow:=QQ (And.intro hrow (And.intro hnew (And.intro hunc (And.intro hs6 hno))));clear hunc hrow hnew hE6 hs6 hno c14 c15 c16;go_wp2_with fail
    refine(Xd4 HE6.out).mono ?_;rintro ev w7 ⟨rfl,F7,hE7,hs7⟩;have HFin:Hid (ZV w5 w7 e F5 (Qt6 (XQ m)) (Qu8 (Qr4 (XQ m))) (.returned (.slice A (List.length Fs) c))):=by
     obtain⟨h1,h2,h3,h4,h5⟩:=HRow.out;refine QQ ⟨A,c,Fs,rfl,h3,h1.keeps hs7.1 h5,h2,F7,hE7,h4.trans hs7,fun g hg hF=> ?_⟩;rcases hs7.2 g hF with h11|h11
     ·exact h5 g hg h11
     ·have:=h1.lt hg;omega
    clear hE7 hs7 HRow HE6 HFt;go_wp2_with fail
    go_ret2;rw[HS.out.1,HS.out.2];exact(ZV.from_ HS5.out HFin.out).told 0
   ·have d5:=UQ p5
    have HS:Hid (Qf0 a1 (XQ m) []∧I1 a1 (XQ m)=Qu8 (XQ m)):=by
     refine QQ ⟨?_, ?_⟩
     ·unfold Qf0;rw[HPI.out,if_pos i7,if_neg (show¬(XQ m).ph=5 from fun x=>p5 (HPh.out.symm.trans x))]
     ·unfold I1;rw[HPI.out,if_pos i7,if_neg (show¬(XQ m).ph=5 from fun x=>p5 (HPh.out.symm.trans x))]
    clear i7 p5;go_wp2_with fail
    refine(Xd4 HE5.out).mono ?_;rintro ev w7 ⟨rfl,hto⟩;have HTo:=QQ hto;clear hto c14 c15 c16;go_wp2_with fail
    go_ret2;rw[HS.out.2];exact J7.none_ (YZ.from_ HS5.out HTo.out) HS.out.1
  ·have e7:=UQ i7
   by_cases p6:ph=6
   ·have d6:=J4 p6
    have HS:Hid (Qf0 a1 (XQ m) []∧I1 a1 (XQ m)=XQ m):=by
     refine QQ ⟨?_, ?_⟩
     ·unfold Qf0;rw[HPI.out,if_neg i7,if_pos (show(XQ m).ph=6 from HPh.out.trans p6)]
     ·unfold I1;rw[HPI.out,if_neg i7,if_pos (show(XQ m).ph=6 from HPh.out.trans p6)]
    clear i7 p6;go_wp2_with fail
    go_ret2;rw[HS.out.2];exact J7.none_ (YZ.from_ HS5.out (YZ.same HE5.out (Below.refl _ _))) HS.out.1
   ·have d6:=UQ p6
    have q6: ¬(XQ m).ph=6:=fun x=>p6 ((show(XQ m).ph=m.ph from rfl).trans HPh.out▸x)
    have HQ6:=QQ q6;have HI7:=QQ i7
    by_cases ab:a1=b1
    ·have dab:=Ji5 ab
     have HAb:=QQ ab;clear i7 p6 q6 ab;obtain⟨en,hen⟩: ∃v,m.ends=v:=⟨_,rfl⟩;rw[show(XQ m).ends=m.ends from rfl,hen]at c16;have HEn:=QQ hen;clear hen;have HS0:Hid (∀(c:Prop),[Decidable c]→(c↔((XQ m).ph=4∧(XQ m).ends≤(XQ m).now))→(c→Qf0 a1 (XQ m)=Qb2 (XQ m)∧I1 a1 (XQ m)=OW (XQ m))∧(¬c→Qf0 a1 (XQ m) []∧I1 a1 (XQ m)=XQ m)):=by
      refine QQ (fun c _ hc=>⟨fun h=>⟨?_, ?_⟩,fun h=>⟨?_, ?_⟩⟩)
      ·funext Fs;unfold Qf0;rw[HPI.out,if_neg HI7.out,if_neg HQ6.out,if_neg (fun x=>x HAb.out),if_pos (hc.1 h)]
      ·unfold I1;rw[HPI.out,if_neg HI7.out,if_neg HQ6.out,if_neg (fun x=>x HAb.out),if_pos (hc.1 h)]
      ·unfold Qf0;rw[HPI.out,if_neg HI7.out,if_neg HQ6.out,if_neg (fun x=>x HAb.out),if_neg (fun x=>h (hc.2 x))]
      ·unfold I1;rw[HPI.out,if_neg HI7.out,if_neg HQ6.out,if_neg (fun x=>x HAb.out),if_neg (fun x=>h (hc.2 x))]
     have HCd:Hid ((ph=4∧en≤nw+1)↔((XQ m).ph=4∧(XQ m).ends≤(XQ m).now)):=QQ (by rw[HE15.out,show(XQ m).ph=m.ph from rfl,HPh.out,show(XQ m).ends=m.ends from rfl,HEn.out])
     by_cases p4:ph=4
     ·have d4:=J4 p4
      by_cases en4:en≤nw+1
      ·have d8:=J5 en4
       have HS:=QQ ((HS0.out _ HCd.out).1 ⟨p4,en4⟩);clear p4;go_wp2_with fail
       go_quiet (fail)
       go_wp2_with fail
       refine(Xi4 (HE5.out.below (JQ (Below.refl _ _) _)) HI.out).mono ?_;rintro ev w6 hft;obtain⟨A,c,Fs,rfl,hunc,hrow,hnew,hrest⟩:=hft;have HFt:=QQ (show ZV _ w6 e F5 (Qb2 (XQ m)) (OW (XQ m)) (.returned (.slice A (List.length Fs) c))from⟨A,c,Fs,rfl,hunc,hrow,hnew,hrest⟩);clear hunc hrow hnew hrest c14 c15 c16;go_wp2_with fail
       go_ret2;rw[HS.out.1,HS.out.2];exact(ZV.from_ HS5.out (ZV.pre (JQ (Below.refl _ _) _) HFt.out)).told 0
      ·have d8:=IQ en4
       have HS:=QQ ((HS0.out _ HCd.out).2 (fun x=>en4 x.2));clear p4;go_wp2_with fail
       go_quiet (fail)
       go_wp2_with fail
       go_ret2;rw[HS.out.2];exact J7.none_ (YZ.from_ HS5.out (YZ.same HE5.out (JQ (Below.refl _ _) _))) HS.out.1
     ·have d4:=UQ p4
      have HS:=QQ ((HS0.out _ HCd.out).2 (fun x=>p4 x.1));clear p4;go_wp2_with fail
      go_quiet (fail)
      go_wp2_with fail
      go_ret2;rw[HS.out.2];exact J7.none_ (YZ.from_ HS5.out (YZ.same HE5.out (JQ (Below.refl _ _) _))) HS.out.1
    ·have dab:=Ji6 ab
     have HS:Hid (Qf0 a1 (XQ m)=Qk1 (XQ m) b1∧I1 a1 (XQ m)=X8 (XQ m) b1):=by
      refine QQ ⟨?_, ?_⟩
      ·funext Fs;unfold Qf0;rw[HPI.out,if_neg HI7.out,if_neg HQ6.out,if_pos ab]
      ·unfold I1;rw[HPI.out,if_neg HI7.out,if_neg HQ6.out,if_pos ab]
     clear i7 p6 q6 ab;go_wp2_with fail
     refine(Xr4 HE5.out HI.out b1).mono ?_;rintro ev w6 ⟨A,c,Fs,rfl,hunc,hrow,hnew,hrest⟩;have HFt:=QQ (show ZV _ w6 e F5 (Qk1 (XQ m) b1) (X8 (XQ m) b1) (.returned (.slice A (List.length Fs) c))from⟨A,c,Fs,rfl,hunc,hrow,hnew,hrest⟩);clear hunc hrow hnew hrest c14 c15 c16;go_wp2_with fail
     go_ret2;rw[HS.out.1,HS.out.2];exact(ZV.from_ HS5.out HFt.out).told 0
theorem Kk4 {w:World} {e:Nat} {F:Nat→Prop} {m:ZJ} (h:UK w e F m) (hI:Qj3 m):
  Calls Tryz.prog 27 #[.pointer (some ⟨e,0,none⟩)] w fun ev w'=>ev= .returned (YV (Jn7 m))∧YZ w w' e F (Qa2 m):=by
 have hE:=h
 obtain⟨cs,tb,bb,bk,im,T,tc,Al,lc,lv,bu,se,Ap,pc,es,mc,G,own,hM,hF⟩:=h
 have c14:=hM.cell hM.ec.c14
 have HE:=QQ hE
 by_cases p6:m.ph=6
 ·have d6:=Ji5 p6
  obtain⟨⟨a1,a2⟩,ha⟩: ∃q,Ql9 m.rows m.now m.rows.length=q:=⟨_,rfl⟩;have HPa:=QQ (fun W hW=>Je4 hM hI.tab m.now W hW ha);obtain⟨SM,hSM⟩: ∃M,Qa2 m=M:=⟨_,rfl⟩;have HT:Hid (Jn7 m=0∧SM=if a1=3 then Jh2 m else if a1=5 then Qg6 m else {m with ph:=a1}):=by
   refine QQ ⟨by unfold Jn7;rw[if_pos p6], ?_⟩;rw[←hSM];unfold Qa2 VJ;rw[if_pos p6,ha]
  rw[HT.out.1,hSM,UW];clear hSM;have c6:=hM.cell hM.ec.c6;have c15:=hM.cell hM.ec.c15;have HI:=QQ hI;obtain⟨nw,hnw⟩: ∃v,m.now=v:=⟨_,rfl⟩;rw[hnw]at c15 HPa;obtain⟨ph,hph⟩: ∃p,m.ph=p:=⟨_,rfl⟩;rw[hph]at c14 d6;clear p6 hE hM hF hI hph ha hnw;go_enter Tryz.func27,Tryz.ntmps27
  go_upto_region 3 with fail
  refine XK (fun t=> [].contains t) (fun W=>W.cell? ⟨e,6,none⟩=some (.pointer (some ⟨tb,0,none⟩))∧W.cell? ⟨e,15,none⟩=some (.int .i64 nw)) (by kernel_rfl) ⟨c6,c15⟩ (fun hS0=> ?_);refine tM 0 (.pointer (some ⟨e,0,none⟩)) ?_;refine tM 1 (.pointer (some ⟨e,0,none⟩)) ?_;refine tM 2 (.pointer (some ⟨e,6,none⟩)) ?_;refine tM 3 (.pointer (some ⟨tb,0,none⟩)) ?_;refine tM 4 (.pointer (some ⟨e,0,none⟩)) ?_;refine tM 5 (.pointer (some ⟨e,0,none⟩)) ?_;refine tM 6 (.pointer (some ⟨e,15,none⟩)) ?_;refine tM 7 (.int .i64 nw) ?_;refine oM 8 fun K9 hK9=> ?_
  go_simp;refine(HPa.out w.drew (Below.drew (Below.refl _ _))).mono ?_;rintro ev w3 ⟨rfl,hq⟩;refine hK9 _ _ (fun _=>⟨QV hS0.1 hq,QV hS0.2 hq⟩) ?_;have hS1:=And.intro (QV hS0.1 hq) (QV hS0.2 hq);clear hK9 hS0;refine tM 9 (.tuple #[.int .i64 a1,.int .i64 a2]) ?_;refine tM 10 (.int .i64 a1) ?_;refine tM 11 (.int .i64 a2) ?_;refine tM 12 (.int .i64 a1) ?_;refine tM 13 (.int .i64 a2) ?_;refine ZZ (by kernel_rfl) ?_ _;have hb3:Below w.heap.size w w3:=(Below.drew (Below.refl _ w)).trans hq;have HE3:=QQ (HE.out.below hb3);have HB3:=QQ hb3;have hsp:=(HE.out.below hb3).setPh a1;have HSp:=QQ hsp.1;obtain⟨-,x1,x2,-⟩:=hsp;clear c6 c14 c15 hS1 hq hb3 HPa HE
  by_cases i3:a1=3
  ·have e3:=J4 i3
   have HS:Hid (SM=Jh2 m):=QQ (HT.out.2.trans (if_pos i3));clear i3;go_wp2_with fail
   refine(O0 HE3.out (by have:=HI.out.now;omega) HI.out.tk).mono ?_;rintro ev w4 ⟨rfl,hto⟩;have HTo:=QQ hto;clear hto x1 x2;go_wp2_with fail
   go_ret;rw[HS.out];exact⟨rfl,HTo.out.pre HB3.out⟩
  ·have e3:=UQ i3
   by_cases i5:a1=5
   ·have e5:=J4 i5
    have HS:Hid (SM=Qg6 m):=QQ (HT.out.2.trans ((if_neg i3).trans (if_pos i5)));clear i3 i5;go_wp2_with fail
    refine(Jo0 HE3.out HI.out.pk HI.out.pkn).mono ?_;rintro ev w4 ⟨rfl,hto⟩;have HTo:=QQ hto;clear hto x1 x2;go_wp2_with fail
    go_ret;rw[HS.out];exact⟨rfl,HTo.out.pre HB3.out⟩
   ·have e5:=UQ i5
    have HS:Hid (SM= {m with ph:=a1}):=QQ (HT.out.2.trans ((if_neg i3).trans (if_neg i5)));clear i3 i5;go_wp2_with fail
    go_ret;rw[HS.out];exact⟨rfl,HSp.out.pre HB3.out⟩
 ·have d6:=Ji6 p6
  have HT:Hid (Jn7 m=6∧Qa2 m=m):=QQ ⟨by unfold Jn7;rw[if_neg p6],by unfold Qa2;rw[if_neg p6]⟩;rw[HT.out.1,HT.out.2];obtain⟨ph,hph⟩: ∃p,m.ph=p:=⟨_,rfl⟩;rw[hph]at c14 d6;clear p6 hE hM hF hI hph;go_enter Tryz.func27,Tryz.ntmps27
  go_wp2;go_ret;exact⟨rfl,YZ.same HE.out (Below.refl _ _)⟩
structure Qa3 {σ:Type} (K:σ→List QX→List QX→(Nat→Prop)→World→Prop) (al:σ→Int→Bool) (tr:σ→Int→σ) (cnt:σ→Nat) (ga gt:FuncId) (fa ca ct:Array Value) (cutF:FuncId) (bp e0:Value):Prop where
 keep: ∀ {s:σ} {L1 L2:List QX} {F:Nat→Prop} {w w':World} {S:Nat→Prop},K s L1 L2 F w→QK S w w'→(∀i,F i→ ¬S i)→K s L1 L2 F w'
 lt: ∀ {s:σ} {L1 L2:List QX} {F:Nat→Prop} {w:World},K s L1 L2 F w→ ∀i,F i→i<w.heap.size
 ok: ∀ {s:σ} {L1 L2:List QX} {F:Nat→Prop} {w:World},K s L1 L2 F w→XY L1 L2
 allows: ∀ {s:σ} {L1 L2:List QX} {F:Nat→Prop} {w:World} (p:Int),K s L1 L2 F w→1≤p∧p≤1000000→Calls Tryz.prog ga (fa++ #[.int .i64 p]++ca) w fun e w'=>e= .returned (.bool (al s p))∧Below w.heap.size w w'
 trades: ∀ {s:σ} {L1 L2:List QX} {F:Nat→Prop} {w:World} (p:Int),K s L1 L2 F w→1≤p∧p≤1000000→cnt s≤1000→Calls Tryz.prog gt (#[.int .i64 p]++ct) w fun e w'=>e= .returned (.tuple #[])∧ ∃F',K (tr s p) L1 L2 F' w'∧XW w w' F F'
 cut: ∀ {s:σ} {L1 L2:List QX} {F:Nat→Prop} {w:World} (x:QX) (n:Int),K s L1 L2 F w→Qb3 (L1++L2) x.id=some x→1≤n→n≤x.qty→Calls Tryz.prog cutF #[bp,.int .i64 x.id,.int .i64 n] w fun e w'=>e= .returned e0∧ ∃F',K s (Qf6 L1 x n) (Qf6 L2 x n) F' w'∧XW w w' F F'
 cnt_: ∀s p,cnt (tr s p)≤cnt s+1
 ega: ∀args w,(callFunc ga args).run Tryz.prog w= .ok (.enter ga args) w
 egt: ∀args w,(callFunc gt args).run Tryz.prog w= .ok (.enter gt args) w
structure Qj4 {σ:Type} (K:σ→List QX→List QX→(Nat→Prop)→World→Prop) (w wr:World) (s:σ) (G G':Nat→Prop) (M1 M2:List QX) (A:Option Addr) (c:Nat) (F:List JV):Prop where
 mk_:K s M1 M2 G' wr
 step:XW w wr G G'
 row:QY wr A F.length c 89 4 (QW Qb1 F)
 fpA: ∀g,QZ A=some g→ ¬G' g∧w.heap.size≤g
section
variable {σ:Type} {K:σ→List QX→List QX→(Nat→Prop)→World→Prop} {al:σ→Int→Bool} {tr:σ→Int→σ} {cnt:σ→Nat} {ga gt:FuncId} {fa ca ct:Array Value} {cutF:FuncId} {bp e0:Value}
variable {w wr w':World} {s s':σ} {G G' G2:Nat→Prop} {M1 M2 N1 N2:List QX} {A:Option Addr} {c:Nat} {F:List JV}
theorem Qj4.below (hs:Qa3 K al tr cnt ga gt fa ca ct cutF bp e0) (h:Qj4 K w wr s G G' M1 M2 A c F) (hb:Below wr.heap.size wr w'):Qj4 K w w' s G G' M1 M2 A c F:=
 ⟨hs.keep h.mk_ (QK.of_below hb (fun _=>False)) (fun _ _=>id),h.step.trans (XW.of_below hb),h.row.below hb,h.fpA⟩
theorem Qj4.keep (hs:Qa3 K al tr cnt ga gt fa ca ct cutF bp e0) (h:Qj4 K w wr s G G' M1 M2 A c F) {X:Nat} (hk:QK (fun i=>i=X) wr w') (hX: ¬G' X) (hXA:QZ A≠some X) (hXw:w.heap.size≤X):Qj4 K w w' s G G' M1 M2 A c F:=
 ⟨hs.keep h.mk_ hk (fun i hi e=>hX (e▸hi)),⟨h.step.1.trans hk (fun i hi=> .inr (hi▸hXw)),h.step.2⟩,h.row.keeps hk (fun g hg e=>hXA (e▸hg)),h.fpA⟩
theorem Qj4.fill (hs:Qa3 K al tr cnt ga gt fa ca ct cutF bp e0) {f:JV} {gg cap:Nat} (h:Qj4 K w wr s G G' M1 M2 A c F) (hk:QK (fun i=>QZ A=some i) wr w') (ho:w'.ownsRow 0 89 4 (.slice (some ⟨gg,0,none⟩) (F.length+1) cap) (F.length+1) (QW Qb1 F++Qb1 f)) (hat:QZ A=some gg∨wr.heap.size≤gg):
  Qj4 K w w' s G G' M1 M2 (some ⟨gg,0,none⟩) cap (F++ [f]):=by
 refine⟨hs.keep h.mk_ hk (fun i hi e=>(h.fpA i e).1 hi),⟨h.step.1.trans hk (fun i hi=> .inr (h.fpA i hi).2),h.step.2⟩, ?_,fun g hg=> ?_⟩
 ·show w'.ownsRow 0 89 4 _ _ _
  rw[Qa5,List.length_append];exact ho
 ·have e:gg=g:=by simpa [QZ]using hg
  subst e;rcases hat with h1|h1
  ·exact h.fpA _ h1
  ·refine⟨fun hG=> ?_,Nat.le_trans h.step.1.size h1⟩
   have:=hs.lt h.mk_ _ hG;omega
theorem Qj4.turn (h:Qj4 K w wr s G G' M1 M2 A c F) (hk:K s' N1 N2 G2 w') (hb:XW wr w' G' G2):Qj4 K w w' s' G G2 N1 N2 A c F:=by
 refine⟨hk,h.step.trans hb,h.row.keeps hb.1 (fun g hg=>(h.fpA g hg).1),fun g hg=>⟨fun hG=> ?_,(h.fpA g hg).2⟩⟩
 rcases hb.2 g hG with h1|h1
 ·exact(h.fpA g hg).1 h1
 ·have:=h.row.lt hg;omega
end
def Ji1 {σ:Type} (K:σ→List QX→List QX→(Nat→Prop)→World→Prop) (w w':World) (G:Nat→Prop) (sd:Int) (L1 L2:List QX) (r:O9 σ) (e:Ending):Prop:=
 ∃A c G' M1 M2,e= .returned (.tuple #[.slice A r.fills.length c,KQ r.left,.bool r.stop])∧Qj4 K w w' r.st G G' M1 M2 A c r.fills∧JY sd M1 M2=JY sd L1 L2∧JY (3-sd) M1 M2=r.rest
structure Ky4 (e bb bk V:Nat) (cs:Array Value) (st dy an la:Int) (L1 L2:List QX) (F G:Nat→Prop) (w:World):Prop where
 book:Q1 w bk G L1 L2
 bands:J1 w bb st dy an la
 eng:QJ w e 103 cs
 var:QJ w V 37 #[.pointer (some ⟨e,0,none⟩)]
 fp: ∀i,F i↔(G i∨i=bb∨i=e∨i=V)
 gb: ¬G bb
 ge: ¬G e
 gv: ¬G V
 be:bb≠e
 bv:bb≠V
 c7:cs[7]?=some (.pointer (some ⟨bb,0,none⟩))
def Kk5 (e bb bk V:Nat) (cs:Array Value) (st dy an:Int) (la:Int) (L1 L2:List QX) (F:Nat→Prop) (w:World):Prop:= ∃G,Ky4 e bb bk V cs st dy an la L1 L2 F G w
theorem Xz2 {e bb bk V:Nat} {cs:Array Value} {st dy an la:Int} {L1 L2:List QX} {F G:Nat→Prop} {w:World} (h:Ky4 e bb bk V cs st dy an la L1 L2 F G w) (p:Int) (hp:1≤p∧p≤1000000):
  Calls Tryz.prog 96 #[.int .i64 p,.pointer (some ⟨V,0,none⟩)] w fun ev w'=>ev= .returned (.tuple #[])∧J1 w' bb st dy an p∧QK (fun i=>i=bb) w w':=by
 have x0:w.cell? ⟨V,0,none⟩=some (.pointer (some ⟨e,0,none⟩)):=by rw[QJ.cell h.var];rfl
 have x7:w.cell? ⟨e,7,none⟩=some (.pointer (some ⟨bb,0,none⟩)):=by rw[QJ.cell h.eng];exact h.c7
 have ht:=Jj7 bb st dy an la p w h.bands
 have hr:J6 p 1=true:=by rw[V5];omega
 rw[hr]at ht
 simp only[if_true]at ht
 have HT:=QQ ht
 clear h ht hr hp
 go_enter Tryz.func96,Tryz.ntmps96
 go_wp2_with fail
 refine HT.out.mono ?_
 rintro ev w2 ⟨rfl,hb,hk⟩
 go_wp2_with fail
 refine bodyPost_end (results_none rfl _ _ _) rfl ?_
 exact⟨rfl,hb,hk⟩
theorem Xd9 (e bb bk V:Nat) (cs:Array Value) (st dy an:Int):
  Qa3 (Kk5 e bb bk V cs st dy an) (fun la p=>X4 st dy an la p) (fun _ p=>p) (fun _=>0) 95 96 #[.pointer (some ⟨bb,0,none⟩)] #[] #[.pointer (some ⟨V,0,none⟩)] 119 (.pointer (some ⟨bk,0,none⟩)) .nilIface where
 keep:=by
  rintro s L1 L2 F w w' S ⟨G,h⟩ hk hF;have hf: ∀i,(G i∨i=bb∨i=e∨i=V)→ ¬S i:=fun i hi=>hF i ((h.fp i).2 hi)
  exact⟨G,h.book.keeps hk (fun i hi=>hf i (.inl hi)),QJ.keeps h.bands hk (hf bb (by simp)),QJ.keeps h.eng hk (hf e (by simp)),QJ.keeps h.var hk (hf V (by simp)),h.fp,h.gb,h.ge,h.gv,h.be,h.bv,h.c7⟩
 lt:=by
  rintro s L1 L2 F w ⟨G,h⟩ i hi;rcases(h.fp i).1 hi with h1|rfl|rfl|rfl
  ·exact h.book.fp h1
  ·exact QJ.lt h.bands
  ·exact QJ.lt h.eng
  ·exact QJ.lt h.var
 ok:=by
  rintro s L1 L2 F w ⟨G,h⟩;exact h.book.lists
 allows:=by
  rintro s L1 L2 F w p ⟨G,h⟩-;exact Xv9 bb st dy an s p w h.bands
 trades:=by
  rintro s L1 L2 F w p ⟨G,h⟩ hp-;refine(Xz2 h p hp).mono ?_;rintro ev w' ⟨rfl,hb,hk⟩;refine⟨rfl,F,⟨G,h.book.keeps hk (fun i hi hie=>h.gb (by have e1:i=bb:=hie;exact e1▸hi)),hb,QJ.keeps h.eng hk (fun x=>h.be x.symm),QJ.keeps h.var hk (fun x=>h.bv x.symm),h.fp,h.gb,h.ge,h.gv,h.be,h.bv,h.c7⟩,hk.mono (fun i hi=>(h.fp i).2 (.inr (.inl hi))),fun i hi=> .inl hi⟩
 cut:=by
  rintro s L1 L2 F w x n ⟨G,h⟩ hx h1 h2;have hok:OkO x:=h.book.lists.ok x (List.mem_of_find?_eq_some hx);have hxq:=hok.2.2.2.2;refine(Jo1 w bk G L1 L2 h.book x.id n (by unfold V3;omega)).mono ?_;rintro ev w' (⟨h3,rfl,hb⟩|⟨o,h3,h4,h5,rfl,G',hB,hk,hg⟩)
  ·exfalso
   apply h3;unfold Jt3;rw[hx];exact if_neg (by omega)
  ·rw[hx]at h3
   cases h3;have l1:=QJ.lt h.bands;have l2:=QJ.lt h.eng;have l3:=QJ.lt h.var;have n: ∀i,i<w.heap.size→ ¬G i→ ¬G' i:=fun i hi hn hG=>by
    rcases hg i hG with e1|e1
    ·exact hn e1
    ·omega
   refine⟨rfl,fun i=>G' i∨i=bb∨i=e∨i=V,⟨G',hB,QJ.keeps h.bands hk h.gb,QJ.keeps h.eng hk h.ge,QJ.keeps h.var hk h.gv,fun i=>Iff.rfl,n _ l1 h.gb,n _ l2 h.ge,n _ l3 h.gv,h.be,h.bv,h.c7⟩,hk.mono (fun i hi=>(h.fp i).2 (.inl hi)),fun i hi=> ?_⟩;rcases hi with hi|hi
   ·rcases hg i hi with e1|e1
    ·exact .inl ((h.fp i).2 (.inl e1))
    ·exact .inr e1
   ·exact .inl ((h.fp i).2 (.inr hi))
 cnt_:=fun s p=>Nat.zero_le _
 ega:=Go.Proofs.enters_of Tryz.func95 (by kernel_rfl) rfl
 egt:=Go.Proofs.enters_of Tryz.func96 (by kernel_rfl) rfl
theorem UX.meetTo {w w':World} {e:Nat} {cs:Array Value} {tb bb bk im:Nat} {T:Option Addr} {tc:Nat} {Al:Option Addr} {lc:Nat} {lv:List XJ} {bu se:Int} {Ap:Option Addr} {pc:Nat} {es:List MapEntry} {mc:Nat} {G:Nat→Prop} {own:Nat→Nat→Prop} {g:Int→Option Int→Int} {m:ZJ} {M1 M2:List QX} {la:Int} {G2 S:Nat→Prop}
  (h:UX w e cs tb bb bk im T tc Al lc lv bu se Ap pc es mc G own g m) (hk:QK S w w') (hS: ∀i,S i→G i∨i=bb∨i=e∨ ∀k,¬own i k) (hB:Q1 w' bk G2 M1 M2) (hb:J1 w' bb m.st m.dy m.an la) (he:QJ w' e 103 cs) (hG: ∀i,G2 i→G i∨w.heap.size≤i):
  UX w' e cs tb bb bk im T tc Al lc lv bu se Ap pc es mc G2 (Qr5 w own G2 4) g {m with L1:=M1,L2:=M2,la:=la}:=by
 have f: ∀ {i k:Nat},own i k→k≠4→k≠3→k≠1→ ¬S i:=fun {i k} hi h4 h3 h1 hs=>by
  rcases hS i hs with x|x|x|x
  ·exact h4 (h.ok.uni _ _ _ hi (h.oG i x))
  ·exact h3 (h.ok.uni _ _ _ hi (x▸h.ob))
  ·exact h1 (h.ok.uni _ _ _ hi (x▸h.oe))
  ·exact x k hi
 have n: ∀ {i k:Nat},own i k→Qr5 w own G2 4 i k:=fun hi=> .inl hi
 have hr:=h.ind
 refine⟨⟨he,hr.c0,hr.c1,hr.c2,hr.row.keeps hk (fun i hi=>f (h.ol i hi) (by decide) (by decide) (by decide)),hr.na,hr.ok⟩,⟨h.ec.sz,h.ec.c4,h.ec.c5,h.ec.c6,h.ec.c7,h.ec.c8,h.ec.c12,h.ec.c13,h.ec.c14,h.ec.c15,h.ec.c16,h.ec.c17⟩,h.is,Nat.lt_of_lt_of_le h.tabl hk.size,(hk.cell (p:=⟨tb,0,none⟩) h.tabl (f h.ot (by decide) (by decide) (by decide))).trans h.tabc,h.tabp.keeps hk (fun i hi=>f (h.oT i hi) (by decide) (by decide) (by decide)),hb,hB,h.park.keeps hk (fun i hi=>f (h.op i hi) (by decide) (by decide) (by decide)),h.map_.of_block (hk.block _ h.map_.lt (f h.oi (by decide) (by decide) (by decide))),h.keys,h.ids,h.ok.new_ hk.size (fun i hi=>hB.fp hi) 4,n h.oe,n h.ot,fun i hi=>n (h.oT i hi),n h.ob,fun i hi=> ?_,fun i hi=>n (h.ol i hi),fun i hi=>n (h.op i hi),n h.oi⟩
 rcases hG i hi with e1|e1
 ·exact n (h.oG i e1)
 ·exact .inr ⟨e1,hi,rfl⟩
def Kk6 (own:Nat→Nat→Prop) (V X:Nat) (A:Option Addr) (Y:Nat):Prop:=(∀k,¬own Y k)∧Y≠V∧Y≠X∧QZ A≠some Y
structure Qn1 (w1 wr:World) (e tb bb bk im V X:Nat) (cs:Array Value) (T:Option Addr) (tc:Nat) (Al:Option Addr) (lc:Nat) (lv:List XJ) (bu se:Int) (Ap:Option Addr) (pc:Nat) (es:List MapEntry) (mc:Nat) (own:Nat→Nat→Prop) (g:Int→Option Int→Int) (A:Option Addr) (c:Nat) (F:List JV) (ob:Array Value) (m1:ZJ) (G2:Nat→Prop):Prop where
 eng:UX wr e cs tb bb bk im T tc Al lc lv bu se Ap pc es mc G2 (Qr5 w1 own G2 4) g m1
 keep:QK (fun i=>(∃k,own i k)∨i=V) w1 wr
 row:QY wr A F.length c 89 4 (QW Qb1 F)
 fA: ∀i,QZ A=some i→w1.heap.size≤i∧ ¬G2 i
 var:QJ wr V 37 #[.pointer (some ⟨e,0,none⟩)]
 box:QJ wr X 29 ob
 o1:Jh6 w1 own
 nv:(∀k,¬own V k)∧(∀k,¬own X k)∧V≠X∧V<w1.heap.size∧X<w1.heap.size
section
variable {w1 wr w':World} {e tb bb bk im V X:Nat} {cs:Array Value} {T:Option Addr} {tc:Nat} {Al:Option Addr} {lc:Nat} {lv:List XJ} {bu se:Int} {Ap:Option Addr} {pc:Nat} {es:List MapEntry} {mc:Nat} {G:Nat→Prop} {own:Nat→Nat→Prop} {g:Int→Option Int→Int} {A:Option Addr} {c:Nat} {Fs:List JV} {ob:Array Value} {m m1:ZJ} {G2:Nat→Prop}
theorem Qn1.below (h:Qn1 w1 wr e tb bb bk im V X cs T tc Al lc lv bu se Ap pc es mc own g A c Fs ob m1 G2) (hb:Below wr.heap.size wr w'):Qn1 w1 w' e tb bb bk im V X cs T tc Al lc lv bu se Ap pc es mc own g A c Fs ob m1 G2:=
 ⟨h.eng.below hb,h.keep.then_ hb,h.row.below hb,h.fA,QJ.keep h.var hb,QJ.keep h.box hb,h.o1,h.nv⟩
theorem Qn1.far (h:Qn1 w1 wr e tb bb bk im V X cs T tc Al lc lv bu se Ap pc es mc own g A c Fs ob m1 G2) {Y:Nat} (hY:wr.heap.size≤Y):Kk6 (Qr5 w1 own G2 4) V X A Y:=
 ⟨fun k hk=>by have:=h.eng.ok.lt Y k hk;omega,fun x=>by have:=QJ.lt h.var;omega,fun x=>by have:=QJ.lt h.box;omega,fun x=>by have:=h.row.lt x;omega⟩
theorem Qn1.keepY (h:Qn1 w1 wr e tb bb bk im V X cs T tc Al lc lv bu se Ap pc es mc own g A c Fs ob m1 G2) {Y:Nat} (hk:QK (fun i=>i=Y) wr w') (hY:Kk6 (Qr5 w1 own G2 4) V X A Y) (hn:w1.heap.size≤Y):Qn1 w1 w' e tb bb bk im V X cs T tc Al lc lv bu se Ap pc es mc own g A c Fs ob m1 G2:=
 ⟨h.eng.keeps hk (fun i k hi hie=>hY.1 k (by have e1:i=Y:=hie;exact e1▸hi)),h.keep.trans hk (fun i hi=> .inr (by have e1:i=Y:=hi;omega)),h.row.keeps hk (fun i hi hie=>hY.2.2.2 (by have e1:i=Y:=hie;exact e1▸hi)),h.fA,QJ.keeps h.var hk (fun x=>hY.2.1 x.symm),QJ.keeps h.box hk (fun x=>hY.2.2.1 x.symm),h.o1,h.nv⟩
theorem Qn1.cells {a1 a2 a3 a4 a5:Value} (h:Qn1 w1 wr e tb bb bk im V X cs T tc Al lc lv bu se Ap pc es mc own g A c Fs #[a1,a2,a3,a4,a5] m1 G2):
  wr.cell? ⟨V,0,none⟩=some (.pointer (some ⟨e,0,none⟩))∧wr.cell? ⟨e,8,none⟩=some (.pointer (some ⟨bk,0,none⟩))∧wr.cell? ⟨e,7,none⟩=some (.pointer (some ⟨bb,0,none⟩))∧wr.cell? ⟨X,0,none⟩=some a1∧wr.cell? ⟨X,1,none⟩=some a2∧wr.cell? ⟨X,2,none⟩=some a3∧wr.cell? ⟨X,3,none⟩=some a4∧wr.cell? ⟨X,4,none⟩=some a5:=
 ⟨by rw[QJ.cell h.var];rfl,h.eng.cell h.eng.ec.c8,h.eng.cell h.eng.ec.c7,by rw[QJ.cell h.box];rfl,by rw[QJ.cell h.box];rfl,by rw[QJ.cell h.box];rfl,by rw[QJ.cell h.box];rfl,by rw[QJ.cell h.box];rfl⟩
def kF (G:Nat→Prop) (bb e V:Nat) (i:Nat):Prop:=G i∨i=bb∨i=e∨i=V
theorem Qu2 {W w4:World} {M1 M2:List QX} {F':Nat→Prop} {r:O9 Int} {o:QX} (h:UX w1 e cs tb bb bk im T tc Al lc lv bu se Ap pc es mc G own g m) (hV:QJ w1 V 37 #[.pointer (some ⟨e,0,none⟩)]) (hX:QJ w1 X 29 ob) (hn:(∀k,¬own V k)∧(∀k,¬own X k)∧V≠X) (hb:Below w1.heap.size w1 W) (hsd:VV o.side) (hr:ZW m o=r)
  (hm:Qj4 (Kk5 e bb bk V cs m.st m.dy m.an) W w4 r.st (kF G bb e V) F' M1 M2 A c r.fills) (hs1:JY o.side M1 M2=JY o.side m.L1 m.L2) (hs2:JY (3-o.side) M1 M2=r.rest):
  ∃G2,Qn1 w1 w4 e tb bb bk im V X cs T tc Al lc lv bu se Ap pc es mc own g A c r.fills ob (UY m o) G2∧ ∀i t us,QJ W i t us→w1.heap.size≤i→QJ w4 i t us∧Kk6 (Qr5 w1 own G2 4) V X A i:=by
 obtain⟨G2,hk⟩:=hm.mk_
 have hW:=hb.size
 have lV:=QJ.lt hV
 have lX:=QJ.lt hX
 have hold: ∀i,kF G bb e V i→i<w1.heap.size:=fun i hi=>by
  rcases hi with x|x|x|x
  ·exact h.book.fp x
  ·exact x▸QJ.lt h.bands
  ·exact x▸QJ.lt h.ind.blk
  ·exact x▸lV
 have hkp:QK (kF G bb e V) w1 w4:=(QK.of_below hb _).trans hm.step.1 (fun i hi=> .inl hi)
 have hG2: ∀i,G2 i→G i∨w1.heap.size≤i:=fun i hi=>by
  rcases hm.step.2 i ((hk.fp i).2 (.inl hi))with x|x
  ·rcases x with x|x|x|x
   ·exact .inl x
   ·exact absurd hi (x▸hk.gb)
   ·exact absurd hi (x▸hk.ge)
   ·exact absurd hi (x▸hk.gv)
  ·exact .inr (by omega)
 have e1:({m with L1:=M1,L2:=M2,la:=r.st}:ZJ)=UY m o:=by
  unfold UY;rw[hr];have hL:M1=(if o.side=1 then m.L1 else r.rest)∧M2=(if o.side=1 then r.rest else m.L2):=by
   rcases hsd with e2|e2
   ·rw[e2]at hs1 hs2⊢
    rw[if_pos rfl,if_pos rfl];exact⟨hs1,hs2⟩
   ·rw[e2]at hs1 hs2⊢
    rw[if_neg (by decide),if_neg (by decide)];exact⟨hs2,hs1⟩
  rw[←hL.1,←hL.2]
 have hE:=h.meetTo hkp (fun i hi=>by
  rcases hi with x|x|x|x
  ·exact .inl x
  ·exact .inr (.inl x)
  ·exact .inr (.inr (.inl x))
  ·exact .inr (.inr (.inr (x▸hn.1)))) hk.book hk.bands hk.eng hG2
 rw[e1]at hE
 have fX: ¬kF G bb e V X:=by
  rintro(x|x|x|x)
  ·exact hn.2.1 4 (h.oG X x)
  ·exact hn.2.1 3 (x▸h.ob)
  ·exact hn.2.1 1 (x▸h.oe)
  ·exact hn.2.2 x.symm
 have hA: ∀i,QZ A=some i→w1.heap.size≤i∧ ¬G2 i:=fun i hi=>⟨Nat.le_trans hW (hm.fpA i hi).2,fun x=>(hm.fpA i hi).1 ((hk.fp i).2 (.inl x))⟩
 refine⟨G2,⟨hE,hkp.mono (fun i hi=> ?_),hm.row,hA,hk.var,QJ.keeps hX hkp fX,h.ok,hn.1,hn.2.1,hn.2.2,lV,lX⟩,fun i t us hB hi=>⟨QJ.keeps hB hm.step.1 (fun x=>by have:=hold i x;omega),fun k hk2=> ?_,by omega,by omega,fun x=>by have:=(hm.fpA i x).2;have:=QJ.lt hB;omega⟩⟩
 ·rcases hi with x|x|x|x
  ·exact .inl ⟨4,h.oG i x⟩
  ·exact .inl ⟨3,x▸h.ob⟩
  ·exact .inl ⟨1,x▸h.oe⟩
  ·exact .inr x
 ·rcases hk2 with x|⟨-,x,-⟩
  ·have:=h.ok.lt i k x;omega
  ·rcases hm.step.2 i ((hk.fp i).2 (.inl x))with y|y
   ·have:=hold i y;omega
   ·have:=QJ.lt hB;omega
end
def Qe3 (sd:Int) (F:List JV) (s:Int) (k:Option Int):Int:=(F.map fun f=>if 3-sd=s∧some f.p=k then f.n else 0).sum
theorem Qe4 (sd:Int) (f:JV) (F:List JV) (s:Int) (k:Option Int):Qe3 sd (f::F) s k=(if 3-sd=s∧some f.p=k then f.n else 0)+Qe3 sd F s k:=by unfold Qe3;rw[List.map_cons,List.sum_cons]
theorem Qu9 {sd:Int} {F:List JV} (h: ∀f∈F,1≤f.n) (s:Int) (k:Option Int):0≤Qe3 sd F s k:=by
 induction F with
 |nil=>exact Int.le_refl _
 |cons f t ih=>
  rw[Qe4];have h1:=ih (fun g hg=>h g (by simp[hg]));have h2:=h f (by simp)
  split<;>omega
theorem Ke0 (o x:QX) (n:Int):(Jg6 o x n).p=x.price:=by unfold Jg6;split<;>rfl
theorem Ke1 (o x:QX) (n:Int):(Jg6 o x n).n=n:=by unfold Jg6;split<;>rfl
theorem Xz3 (x:QX) (n:Int) (s:Int) (k:Option Int):Q2 s k (Qg4 x n)=(if x.side=s∧Qa1 x=k then x.qty-n else 0):=by
 unfold Qg4
 by_cases h:n=x.qty
 ·rw[if_pos h,h]
  unfold Q2;simp
 ·rw[if_neg h]
  rw[Qc7,show Q2 s k ([]:List QX)=0 from rfl,Int.add_zero]
  rfl
section
variable {σ:Type} {al:σ→Int→Bool} {tr:σ→Int→σ}
theorem Kk7 {sd:Int} (s:Int) (k:Option Int): ∀(l:List QX) (o:QX) (t:σ),(∀x∈l,x.side=3-sd)→Q2 s k l=Q2 s k (ZX al tr l o t).rest+Qe3 sd (ZX al tr l o t).fills s k:=by
 intro l
 induction l with
 |nil=>intro o t _;rfl
 |cons x r ih=>
  intro o t h;have hx:=h x (by simp);have hr:=fun y hy=>h y (List.mem_cons_of_mem x hy)
  unfold ZX
  split
  ·show Q2 s k (x::r)=Q2 s k (x::r)+0
   omega
  ·split
   ·have:=ih o t hr
    dsimp only;rw[Qc7,Qc7];omega
   ·split
    ·show Q2 s k (x::r)=Q2 s k (x::r)+0
     omega
    ·split
     ·show Q2 s k (x::r)=Q2 s k (x::r)+0
      omega
     ·rename_i hk _ _
      have:=ih (U9 o (min o.qty x.qty)) (tr t x.price) hr;dsimp only;rw[Y2,Xz3,Qe4,Ke0,Ke1,Qc7];have hkey:Qa1 x=some x.price:=by unfold Qa1;rw[if_neg hk]
      rw[hkey]
      by_cases e:x.side=s∧some x.price=k
      ·rw[if_pos e,if_pos e,if_pos ⟨hx.symm.trans e.1,e.2⟩]
       omega
      ·rw[if_neg e,if_neg e,if_neg (fun y=>e ⟨hx.trans y.1,y.2⟩)]
       omega
structure Jk9 (f:JV):Prop where
 n:1≤f.n∧f.n≤1000000
 p:1≤f.p∧f.p≤1000000
theorem Xz4: ∀(l:List QX) (o:QX) (t:σ),(∀x∈l,OkO x)→ ∀f∈(ZX al tr l o t).fills,Jk9 f:=by
 intro l
 induction l with
 |nil=>intro o t _ f hf;cases hf
 |cons x r ih=>
  intro o t h f hf;have hx:=h x (by simp);have hr:=fun y hy=>h y (List.mem_cons_of_mem x hy)
  unfold ZX at hf
  split at hf
  ·cases hf
  ·rename_i hq
   split at hf
   ·exact ih o t hr f hf
   ·split at hf
    ·cases hf
    ·split at hf
     ·cases hf
     ·dsimp only at hf
      rcases List.mem_cons.1 hf with rfl|hf
      ·have h1:=hx.2.2.2
       have h2:=hx.2.2.1;exact⟨by rw[Ke1];omega,by rw[Ke0];exact h2⟩
      ·exact ih _ _ hr f hf
theorem Xe0: ∀(l:List QX) (o:QX) (t:σ),Qd5 o→0≤o.qty→(∀x∈l,OkO x)→Qd5 (ZX al tr l o t).left∧(ZX al tr l o t).left.id=o.id∧(ZX al tr l o t).left.side=o.side∧(ZX al tr l o t).left.kind=o.kind∧(ZX al tr l o t).left.price=o.price∧0≤(ZX al tr l o t).left.qty∧(ZX al tr l o t).left.qty≤o.qty:=by
 intro l
 induction l with
 |nil=>intro o t hf hq _;exact⟨hf,rfl,rfl,rfl,rfl,hq,Int.le_refl _⟩
 |cons x r ih=>
  intro o t hf hq0 h;have hx:=h x (by simp);have hr:=fun y hy=>h y (List.mem_cons_of_mem x hy)
  unfold ZX
  split
  ·exact⟨hf,rfl,rfl,rfl,rfl,hq0,Int.le_refl _⟩
  ·rename_i hq
   split
   ·exact ih o t hf hq0 hr
   ·split
    ·exact⟨hf,rfl,rfl,rfl,rfl,hq0,Int.le_refl _⟩
    ·split
     ·exact⟨hf,rfl,rfl,rfl,rfl,hq0,Int.le_refl _⟩
     ·have h1:=hx.2.2.2
      have hf2:=hf.2.2.2.2;unfold V3 at hf2;obtain⟨a1,a2,a3,a4,a5,a6,a7⟩:=ih (U9 o (min o.qty x.qty)) (tr t x.price) ⟨hf.1,hf.2.1,hf.2.2.1,hf.2.2.2.1,by unfold V3 U9;dsimp only;omega⟩ (by unfold U9;dsimp only;omega) hr;have h8:(U9 o (min o.qty x.qty)).qty≤o.qty:=by unfold U9;dsimp only;omega
      exact⟨a1,a2,a3,a4,a5,a6,Int.le_trans a7 h8⟩
end
end Go.Proofs.YtnlngicnfegjgaaGreatDoor
