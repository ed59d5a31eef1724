/- Contracts and walks that the law's proof needs. -/
import Derived.WalkKit
import Derived.WalkLawsBesides
import Derived.WalkSpells
import Derived.StillTailTactics
import Derived.Deep.QuietTactic
import Derived.BigQuiet
import Derived.Deep.DeepCutAuto
import Derived.Deep.CutBlock
import Derived.Test.YtnlngicnfegjgaaGreatZf44
import Derived.Test.YtnlngicnfegjgaaGreatZf40
import Derived.Test.YtnlngicnfegjgaaGreatZf43
set_option linter.unusedVariables false
set_option maxRecDepth 100000
set_option maxHeartbeats 8000000
namespace Go.Proofs.YtnlngicnfegjgaaGreat
open Go.RowKit
def J6 (w w':World) (e:Nat) (F:Nat→Prop) (P:List JV→Prop) (m:ZX) (E:Int) (ev:Ending):Prop:=
 ∃A c Fs,ev= .returned (.tuple #[.slice A (List.length Fs) c,YZ E])∧P Fs∧QY w' A Fs.length c 48 4 (QW Qb1 Fs)∧(∀g,QV A=some g→w.heap.size≤g)∧ ∃F',UY w' e F' m∧XW w w' F F'∧ ∀g,QV A=some g→ ¬F' g
theorem J6.none_ {w w':World} {e:Nat} {F:Nat→Prop} {P:List JV→Prop} {m:ZX} {E:Int} (h:YK w w' e F m) (hP:P []):J6 w w' e F P m E (.returned (.tuple #[.slice none 0 0,YZ E])):=by
 obtain⟨F',h1,h2⟩:=h
 exact⟨none,0,[],rfl,hP,World.ownsRow_nil _ _ _ _,fun g hg=>by simp[QV]at hg,F',h1,h2,fun g hg=>by simp[QV]at hg⟩
theorem VQ.told {w w':World} {e:Nat} {F:Nat→Prop} {P:List JV→Prop} {m:ZX} {A:Option Addr} {n c:Nat} (h:VQ w w' e F P m (.returned (.slice A n c))) (E:Int):J6 w w' e F P m E (.returned (.tuple #[.slice A n c,YZ E])):=by
 obtain⟨A',c',Fs,h1,h2,h3,h4,h5⟩:=h
 cases h1
 exact⟨A,c,Fs,rfl,h2,h3,h4,h5⟩
theorem VQ.step {w w1 w2:World} {e:Nat} {F:Nat→Prop} {P:List JV→Prop} {m m2:ZX} {ev:Ending} (h:VQ w w1 e F P m ev) (k: ∀F1,UY w1 e F1 m→YK w1 w2 e F1 m2):VQ w w2 e F P m2 ev:=by
 obtain⟨A,c,Fs,h1,h2,h3,h4,F1,h5,h6,h7⟩:=h
 obtain⟨F2,h8,h9⟩:=k F1 h5
 refine⟨A,c,Fs,h1,h2,h3.keeps h9.1 h7,h4,F2,h8,h6.trans h9,fun g hg hF=> ?_⟩
 rcases h9.2 g hF with h11|h11
 ·exact h7 g hg h11
 ·have:=h3.lt hg;omega
theorem VQ.from_ {w w1 w':World} {e:Nat} {F F1:Nat→Prop} {P:List JV→Prop} {m:ZX} {ev:Ending} (hb:XW w w1 F F1) (h:VQ w1 w' e F1 P m ev):VQ w w' e F P m ev:=by
 obtain⟨A,c,Fs,h1,h2,h3,h4,F',h5,h6,h7⟩:=h
 exact⟨A,c,Fs,h1,h2,h3,fun g hg=>Nat.le_trans hb.1.size (h4 g hg),F',h5,hb.trans h6,h7⟩
theorem YK.from_ {w w1 w':World} {e:Nat} {F F1:Nat→Prop} {m:ZX} (hb:XW w w1 F F1) (h:YK w1 w' e F1 m):YK w w' e F m:=by
 obtain⟨F',h1,h2⟩:=h
 exact⟨F',h1,hb.trans h2⟩
theorem Jd6 {w:World} {e:Nat} {cs:Array Value} {tb bb bk im:Nat} {T:Option Addr} {tc:Nat} {Al:Option Addr} {lc:Nat} {lv:List XJ} {bu se:Int} {Ap:Option Addr} {pc:Nat} {es:List MapEntry} {mc:Nat} {G:Nat→Prop} {own:Nat→Nat→Prop} {g:Int→Option Int→Int} {m:ZX}
  (h:UJ w e cs tb bb bk im T tc Al lc lv bu se Ap pc es mc G own g m) (hn:0<m.rows.length∧m.rows.length≤20) (t:Int) (W:World) (hW:Below w.heap.size w W) {a b:Int} (hp:Qm0 m.rows t m.rows.length=(a,b)):
  Calls Tryz.prog 21 #[.pointer (some ⟨tb,0,none⟩),.int .i64 t] W fun ev w'=>ev= .returned (.tuple #[.int .i64 a,.int .i64 b])∧Below W.heap.size W w':=by
 have h':=h.below hW
 have key:=Ke7 tb T m.rows.length tc m.rows t W h'.tabl h'.tabp h'.tabc hn.1 hn.2
 rw[hp]at key
 exact key
theorem Jk6 {w:World} {e:Nat} {F:Nat→Prop} {m:ZX} (h:UY w e F m) (hI:Qj4 m) (hI1:Qj4 (JY m)):
  Calls Tryz.prog 8 #[.pointer (some ⟨e,0,none⟩)] w fun ev w'=>J6 w w' e F (Jh1 m) (J2 m) (Jh0 m) ev:=by
 have hE:=h
 obtain⟨cs,tb,bb,bk,im,T,tc,Al,lc,lv,bu,se,Ap,pc,es,mc,G,own,hM,hF⟩:=h
 have c14:=hM.cell hM.ec.c14
 by_cases p7:m.ph=7
 ·have d7:=J3 p7
  have HS:Hid (Jh1 m []∧J2 m=m∧Jh0 m=6):=QQ ⟨by unfold Jh1;rw[if_pos p7],by unfold J2;rw[if_pos p7],by unfold Jh0;rw[if_pos p7]⟩;have HE:=QQ hE;obtain⟨ph,hph⟩: ∃p,m.ph=p:=⟨_,rfl⟩;rw[hph]at c14 d7;clear p7 hE hM hF hI hI1 hph;go_enter Tryz.func8,Tryz.ntmps8
  go_wp2;go_ret2;rw[HS.out.2.1,HS.out.2.2];exact J6.none_ (YK.same HE.out (Below.refl _ _)) HS.out.1
 ·have d7:=UX p7
  obtain⟨⟨a1,a2⟩,ha⟩: ∃q,Qm0 m.rows m.now m.rows.length=q:=⟨_,rfl⟩;obtain⟨⟨b1,b2⟩,hb⟩: ∃q,Qm0 m.rows (m.now+1) m.rows.length=q:=⟨_,rfl⟩;have HPa:=QQ (fun W hW=>Jd6 hM hI.tab m.now W hW ha);have HT:Hid (Jh0 m=0∧J2 m=I0 a1 (JY m)∧Jh1 m=Qf0 a1 (JY m)∧VJ (JY m) (JY m).now=b1):=by
   refine QQ ⟨by unfold Jh0;rw[if_neg p7], ?_, ?_, ?_⟩
   ·unfold J2 VJ;rw[if_neg p7,ha]
   ·funext Fs;unfold Jh1 VJ;rw[if_neg p7,ha]
   ·exact congrArg Prod.fst hb
  rw[HT.out.1,HT.out.2.1,HT.out.2.2.1];have c6:=hM.cell hM.ec.c6;have c15:=hM.cell hM.ec.c15;have HM:=QQ hM;have HF:=QQ hF;have HI:=QQ hI1;have HTab:=QQ hI.tab;have HHb:=QQ hb;have i1:RowKit.wrap64 (m.now+1)=m.now+1:=by
   have h1:=hI.now;unfold RowKit.wrap64;omega
  obtain⟨nw,hnw⟩: ∃v,m.now=v:=⟨_,rfl⟩;rw[hnw]at c15 HPa i1;have HNw:=QQ hnw;obtain⟨ph,hph⟩: ∃p,m.ph=p:=⟨_,rfl⟩;rw[hph]at c14 d7;have HPh:=QQ hph;clear p7 hE hM hF hI hI1 hph ha hb hnw;go_enter Tryz.func8,Tryz.ntmps8
  go_upto_region 3 with fail
  refine XK (fun t=> [].contains t) (fun W=>W.cell? ⟨e,6,none⟩=some (.pointer (some ⟨tb,0,none⟩))∧W.cell? ⟨e,15,none⟩=some (.int .i64 nw)) (by kernel_rfl) ⟨c6,c15⟩ (fun hS0=> ?_);refine tM 0 (.pointer (some ⟨e,0,none⟩)) ?_;refine tM 1 (.pointer (some ⟨e,0,none⟩)) ?_;refine tM 2 (.pointer (some ⟨e,6,none⟩)) ?_;refine tM 3 (.pointer (some ⟨tb,0,none⟩)) ?_;refine tM 4 (.pointer (some ⟨e,0,none⟩)) ?_;refine tM 5 (.pointer (some ⟨e,0,none⟩)) ?_;refine tM 6 (.pointer (some ⟨e,15,none⟩)) ?_;refine tM 7 (.int .i64 nw) ?_;refine oM 8 fun K9 hK9=> ?_
  go_simp;refine(HPa.out w.drew (Below.drew (Below.refl _ _))).mono ?_;rintro ev w3 ⟨rfl,hq⟩;refine hK9 _ _ (fun _=>⟨QZ hS0.1 hq,QZ hS0.2 hq⟩) ?_;have hS1:=And.intro (QZ hS0.1 hq) (QZ hS0.2 hq);clear hK9 hS0;refine tM 9 (.tuple #[.int .i64 a1,.int .i64 a2]) ?_;refine tM 10 (.int .i64 a1) ?_;refine tM 11 (.int .i64 a2) ?_;refine tM 12 (.int .i64 a1) ?_;refine tM 13 (.int .i64 a2) ?_;refine ZK (by kernel_rfl) ?_ _;have hb3:Below w.heap.size w w3:=(Below.drew (Below.refl _ w)).trans hq;have hM3:=HM.out.below hb3;have c15:=hM3.cell hM3.ec.c15;rw[HNw.out]at c15;have f15:=hM3.frozen 15;obtain⟨hM4,ho4⟩:=hM3.setNow (nw+1);have HB3:=QQ hb3;clear c6 c14 hS1 hq hb3 hM3 HPa;go_upto_region 5 with fail
  obtain⟨w4,ew4⟩: ∃W,w3.setCell ⟨e,15,none⟩ (.int .i64 (nw+1))=W:=⟨_,rfl⟩;rw[ew4]at hM4 ho4⊢;have em:({m with now:=nw+1}:ZX)=JY m:=by unfold JY;rw[HNw.out]
  rw[em]at hM4;have HPb:=QQ (fun W hW=>Jd6 (a:=b1) (b:=b2) hM4 HTab.out (nw+1) W hW (by have h:=HHb.out;rw[HNw.out]at h;exact h));clear ew4 c15 f15 i1;have c6:=hM4.cell hM4.ec.c6;have c15:=hM4.cell hM4.ec.c15;have e15:(JY m).now=nw+1:=by rw[←em]
  rw[e15]at c15;have HM4:=QQ hM4;have HO4:=QQ ho4;have HE15:=QQ e15;clear hM4 ho4 em e15;refine XK (fun t=> [].contains t) (fun W=>W.cell? ⟨e,6,none⟩=some (.pointer (some ⟨tb,0,none⟩))∧W.cell? ⟨e,15,none⟩=some (.int .i64 (nw+1))) (by kernel_rfl) ⟨c6,c15⟩ (fun hS0=> ?_);refine tM 0 (.pointer (some ⟨e,0,none⟩)) ?_;refine tM 1 (.pointer (some ⟨e,0,none⟩)) ?_;refine tM 2 (.pointer (some ⟨e,6,none⟩)) ?_;refine tM 3 (.pointer (some ⟨tb,0,none⟩)) ?_;refine tM 4 (.pointer (some ⟨e,0,none⟩)) ?_;refine tM 5 (.pointer (some ⟨e,0,none⟩)) ?_;refine tM 6 (.pointer (some ⟨e,15,none⟩)) ?_;refine tM 7 (.int .i64 (nw+1)) ?_;refine oM 8 fun K9 hK9=> ?_
  go_simp;refine(HPb.out w4.drew (Below.drew (Below.refl _ _))).mono ?_;rintro ev w5 ⟨rfl,hq⟩;refine hK9 _ _ (fun _=>⟨QZ hS0.1 hq,QZ hS0.2 hq⟩) ?_;have hS1:=And.intro (QZ hS0.1 hq) (QZ hS0.2 hq);clear hK9 hS0;refine tM 9 (.tuple #[.int .i64 b1,.int .i64 b2]) ?_;refine tM 10 (.int .i64 b1) ?_;refine tM 11 (.int .i64 b2) ?_;refine tM 12 (.int .i64 b1) ?_;refine tM 13 (.int .i64 b2) ?_;refine ZK (by kernel_rfl) ?_ _;have hb5:Below w4.heap.size w4 w5:=(Below.drew (Below.refl _ w4)).trans hq;have hM5:=HM4.out.below hb5;have hE5:UY w5 e _ (JY m):=hM5.at_ (fun _ _ _=>rfl);have hs5:=(((VZ.of_below HB3.out).trans HO4.out).trans (VZ.of_below hb5)).bstep HF.out;obtain⟨F5,hF5⟩: ∃F5,F5=fun i=> ∃k,own i k:=⟨_,rfl⟩
  rw[←hF5]at hE5 hs5;have c14:=hM5.cell hM5.ec.c14;rw[show(JY m).ph=m.ph from rfl,HPh.out]at c14;have c15:=hM5.cell hM5.ec.c15;rw[HE15.out]at c15;have c16:=hM5.cell hM5.ec.c16;have HE5:=QQ hE5;have HS5:=QQ hs5;have HPI:Hid (VJ (JY m) (JY m).now=b1):=QQ HT.out.2.2.2;clear c6 hS1 hq hb5 hM5 hE5 hs5 hF5 HM HM4 HO4 HB3 HPb HF HHb HTab
  by_cases i7:b1=7
  ·have e7:=J3 i7
   by_cases p5:ph=5
   ·have d5:=J3 p5
    have HS:Hid (Qf0 a1 (JY m)=Qt4 (JY m)∧I0 a1 (JY m)=Qu5 (Qr1 (JY m))):=by
     refine QQ ⟨?_, ?_⟩
     ·funext Fs;unfold Qf0;rw[HPI.out,if_pos i7,if_pos (show(JY m).ph=5 from HPh.out.trans p5)]
     ·unfold I0;rw[HPI.out,if_pos i7,if_pos (show(JY m).ph=5 from HPh.out.trans p5)]
    clear i7 p5;go_wp2_with fail
    refine(Ql2 HE5.out HI.out.la).mono ?_;rintro ev w6 ⟨A,c,Fs,rfl,hunc,hrow,hnew,F6,hE6,hs6,hno⟩;have HFt:=QQ (show VQ _ w6 e F5 (Qt4 (JY m)) (Qr1 (JY m)) (.returned (.slice A (List.length Fs) c))from⟨A,c,Fs,rfl,hunc,hrow,hnew,F6,hE6,hs6,hno⟩);have HE6:=QQ hE6;have HRow:=QQ (And.intro hrow (And.intro hnew (And.intro hunc (And.intro hs6 hno))));clear hunc hrow hnew hE6 hs6 hno c14 c15 c16;go_wp2_with fail
    refine(Xc1 HE6.out).mono ?_;rintro ev w7 ⟨rfl,F7,hE7,hs7⟩;have HFin:Hid (VQ w5 w7 e F5 (Qt4 (JY m)) (Qu5 (Qr1 (JY m))) (.returned (.slice A (List.length Fs) c))):=by
     obtain⟨h1,h2,h3,h4,h5⟩:=HRow.out;refine QQ ⟨A,c,Fs,rfl,h3,h1.keeps hs7.1 h5,h2,F7,hE7,h4.trans hs7,fun g hg hF=> ?_⟩;rcases hs7.2 g hF with h11|h11
     ·exact h5 g hg h11
     ·have:=h1.lt hg;omega
    clear hE7 hs7 HRow HE6 HFt;go_wp2_with fail
    go_ret2;rw[HS.out.1,HS.out.2];exact(VQ.from_ HS5.out HFin.out).told 0
   ·have d5:=UX p5
    have HS:Hid (Qf0 a1 (JY m) []∧I0 a1 (JY m)=Qu5 (JY m)):=by
     refine QQ ⟨?_, ?_⟩
     ·unfold Qf0;rw[HPI.out,if_pos i7,if_neg (show¬(JY m).ph=5 from fun x=>p5 (HPh.out.symm.trans x))]
     ·unfold I0;rw[HPI.out,if_pos i7,if_neg (show¬(JY m).ph=5 from fun x=>p5 (HPh.out.symm.trans x))]
    clear i7 p5;go_wp2_with fail
    refine(Xc1 HE5.out).mono ?_;rintro ev w7 ⟨rfl,hto⟩;have HTo:=QQ hto;clear hto c14 c15 c16;go_wp2_with fail
    go_ret2;rw[HS.out.2];exact J6.none_ (YK.from_ HS5.out HTo.out) HS.out.1
  ·have e7:=UX i7
   by_cases p6:ph=6
   ·have d6:=J3 p6
    have HS:Hid (Qf0 a1 (JY m) []∧I0 a1 (JY m)=JY m):=by
     refine QQ ⟨?_, ?_⟩
     ·unfold Qf0;rw[HPI.out,if_neg i7,if_pos (show(JY m).ph=6 from HPh.out.trans p6)]
     ·unfold I0;rw[HPI.out,if_neg i7,if_pos (show(JY m).ph=6 from HPh.out.trans p6)]
    clear i7 p6;go_wp2_with fail
    go_ret2;rw[HS.out.2];exact J6.none_ (YK.from_ HS5.out (YK.same HE5.out (Below.refl _ _))) HS.out.1
   ·have d6:=UX p6
    have q6: ¬(JY m).ph=6:=fun x=>p6 ((show(JY m).ph=m.ph from rfl).trans HPh.out▸x)
    have HQ6:=QQ q6;have HI7:=QQ i7
    by_cases ab:a1=b1
    ·have dab:=Ji1 ab
     have HAb:=QQ ab;clear i7 p6 q6 ab;obtain⟨en,hen⟩: ∃v,m.ends=v:=⟨_,rfl⟩;rw[show(JY m).ends=m.ends from rfl,hen]at c16;have HEn:=QQ hen;clear hen;have HS0:Hid (∀(c:Prop),[Decidable c]→(c↔((JY m).ph=4∧(JY m).ends≤(JY m).now))→(c→Qf0 a1 (JY m)=Qb2 (JY m)∧I0 a1 (JY m)=OV (JY m))∧(¬c→Qf0 a1 (JY m) []∧I0 a1 (JY m)=JY m)):=by
      refine QQ (fun c _ hc=>⟨fun h=>⟨?_, ?_⟩,fun h=>⟨?_, ?_⟩⟩)
      ·funext Fs;unfold Qf0;rw[HPI.out,if_neg HI7.out,if_neg HQ6.out,if_neg (fun x=>x HAb.out),if_pos (hc.1 h)]
      ·unfold I0;rw[HPI.out,if_neg HI7.out,if_neg HQ6.out,if_neg (fun x=>x HAb.out),if_pos (hc.1 h)]
      ·unfold Qf0;rw[HPI.out,if_neg HI7.out,if_neg HQ6.out,if_neg (fun x=>x HAb.out),if_neg (fun x=>h (hc.2 x))]
      ·unfold I0;rw[HPI.out,if_neg HI7.out,if_neg HQ6.out,if_neg (fun x=>x HAb.out),if_neg (fun x=>h (hc.2 x))]
     have HCd:Hid ((ph=4∧en≤nw+1)↔((JY m).ph=4∧(JY m).ends≤(JY m).now)):=QQ (by rw[HE15.out,show(JY m).ph=m.ph from rfl,HPh.out,show(JY m).ends=m.ends from rfl,HEn.out])
     by_cases p4:ph=4
     ·have d4:=J3 p4
      by_cases en4:en≤nw+1
      ·have d8:=J4 en4
       have HS:=QQ ((HS0.out _ HCd.out).1 ⟨p4,en4⟩);clear p4;go_wp2_with fail
       go_quiet (fail)
       go_wp2_with fail
       refine(Xh9 (HE5.out.below (JQ (Below.refl _ _) _)) HI.out).mono ?_;rintro ev w6 hft;obtain⟨A,c,Fs,rfl,hunc,hrow,hnew,hrest⟩:=hft;have HFt:=QQ (show VQ _ w6 e F5 (Qb2 (JY m)) (OV (JY m)) (.returned (.slice A (List.length Fs) c))from⟨A,c,Fs,rfl,hunc,hrow,hnew,hrest⟩);clear hunc hrow hnew hrest c14 c15 c16;go_wp2_with fail
       go_ret2;rw[HS.out.1,HS.out.2];exact(VQ.from_ HS5.out (VQ.pre (JQ (Below.refl _ _) _) HFt.out)).told 0
      ·have d8:=OY en4
       have HS:=QQ ((HS0.out _ HCd.out).2 (fun x=>en4 x.2));clear p4;go_wp2_with fail
       go_quiet (fail)
       go_wp2_with fail
       go_ret2;rw[HS.out.2];exact J6.none_ (YK.from_ HS5.out (YK.same HE5.out (JQ (Below.refl _ _) _))) HS.out.1
     ·have d4:=UX p4
      have HS:=QQ ((HS0.out _ HCd.out).2 (fun x=>p4 x.1));clear p4;go_wp2_with fail
      go_quiet (fail)
      go_wp2_with fail
      go_ret2;rw[HS.out.2];exact J6.none_ (YK.from_ HS5.out (YK.same HE5.out (JQ (Below.refl _ _) _))) HS.out.1
    ·have dab:=Ji2 ab
     have HS:Hid (Qf0 a1 (JY m)=Qk0 (JY m) b1∧I0 a1 (JY m)=X6 (JY m) b1):=by
      refine QQ ⟨?_, ?_⟩
      ·funext Fs;unfold Qf0;rw[HPI.out,if_neg HI7.out,if_neg HQ6.out,if_pos ab]
      ·unfold I0;rw[HPI.out,if_neg HI7.out,if_neg HQ6.out,if_pos ab]
     clear i7 p6 q6 ab;go_wp2_with fail
     refine(Xq7 HE5.out HI.out b1).mono ?_;rintro ev w6 ⟨A,c,Fs,rfl,hunc,hrow,hnew,hrest⟩;have HFt:=QQ (show VQ _ w6 e F5 (Qk0 (JY m) b1) (X6 (JY m) b1) (.returned (.slice A (List.length Fs) c))from⟨A,c,Fs,rfl,hunc,hrow,hnew,hrest⟩);clear hunc hrow hnew hrest c14 c15 c16;go_wp2_with fail
     go_ret2;rw[HS.out.1,HS.out.2];exact(VQ.from_ HS5.out HFt.out).told 0
theorem Kj1 {w:World} {e:Nat} {F:Nat→Prop} {m:ZX} (h:UY w e F m) (hI:Qj4 m):
  Calls Tryz.prog 15 #[.pointer (some ⟨e,0,none⟩)] w fun ev w'=>ev= .returned (YZ (Jn6 m))∧YK w w' e F (Qa3 m):=by
 have hE:=h
 obtain⟨cs,tb,bb,bk,im,T,tc,Al,lc,lv,bu,se,Ap,pc,es,mc,G,own,hM,hF⟩:=h
 have c14:=hM.cell hM.ec.c14
 have HE:=QQ hE
 by_cases p6:m.ph=6
 ·have d6:=Ji1 p6
  obtain⟨⟨a1,a2⟩,ha⟩: ∃q,Qm0 m.rows m.now m.rows.length=q:=⟨_,rfl⟩;have HPa:=QQ (fun W hW=>Jd6 hM hI.tab m.now W hW ha);obtain⟨SM,hSM⟩: ∃M,Qa3 m=M:=⟨_,rfl⟩;have HT:Hid (Jn6 m=0∧SM=if a1=3 then Jg8 m else if a1=5 then Qg6 m else {m with ph:=a1}):=by
   refine QQ ⟨by unfold Jn6;rw[if_pos p6], ?_⟩;rw[←hSM];unfold Qa3 VJ;rw[if_pos p6,ha]
  rw[HT.out.1,hSM,UV];clear hSM;have c6:=hM.cell hM.ec.c6;have c15:=hM.cell hM.ec.c15;have HI:=QQ hI;obtain⟨nw,hnw⟩: ∃v,m.now=v:=⟨_,rfl⟩;rw[hnw]at c15 HPa;obtain⟨ph,hph⟩: ∃p,m.ph=p:=⟨_,rfl⟩;rw[hph]at c14 d6;clear p6 hE hM hF hI hph ha hnw;go_enter Tryz.func15,Tryz.ntmps15
  go_upto_region 3 with fail
  refine XK (fun t=> [].contains t) (fun W=>W.cell? ⟨e,6,none⟩=some (.pointer (some ⟨tb,0,none⟩))∧W.cell? ⟨e,15,none⟩=some (.int .i64 nw)) (by kernel_rfl) ⟨c6,c15⟩ (fun hS0=> ?_);refine tM 0 (.pointer (some ⟨e,0,none⟩)) ?_;refine tM 1 (.pointer (some ⟨e,0,none⟩)) ?_;refine tM 2 (.pointer (some ⟨e,6,none⟩)) ?_;refine tM 3 (.pointer (some ⟨tb,0,none⟩)) ?_;refine tM 4 (.pointer (some ⟨e,0,none⟩)) ?_;refine tM 5 (.pointer (some ⟨e,0,none⟩)) ?_;refine tM 6 (.pointer (some ⟨e,15,none⟩)) ?_;refine tM 7 (.int .i64 nw) ?_;refine oM 8 fun K9 hK9=> ?_
  go_simp;refine(HPa.out w.drew (Below.drew (Below.refl _ _))).mono ?_;rintro ev w3 ⟨rfl,hq⟩;refine hK9 _ _ (fun _=>⟨QZ hS0.1 hq,QZ hS0.2 hq⟩) ?_;have hS1:=And.intro (QZ hS0.1 hq) (QZ hS0.2 hq);clear hK9 hS0;refine tM 9 (.tuple #[.int .i64 a1,.int .i64 a2]) ?_;refine tM 10 (.int .i64 a1) ?_;refine tM 11 (.int .i64 a2) ?_;refine tM 12 (.int .i64 a1) ?_;refine tM 13 (.int .i64 a2) ?_;refine ZK (by kernel_rfl) ?_ _;have hb3:Below w.heap.size w w3:=(Below.drew (Below.refl _ w)).trans hq;have HE3:=QQ (HE.out.below hb3);have HB3:=QQ hb3;have hsp:=(HE.out.below hb3).setPh a1;have HSp:=QQ hsp.1;obtain⟨-,x1,x2,-⟩:=hsp;clear c6 c14 c15 hS1 hq hb3 HPa HE
  by_cases i3:a1=3
  ·have e3:=J3 i3
   have HS:Hid (SM=Jg8 m):=QQ (HT.out.2.trans (if_pos i3));clear i3;go_wp2_with fail
   refine(Y9 HE3.out (by have:=HI.out.now;omega) HI.out.tk).mono ?_;rintro ev w4 ⟨rfl,hto⟩;have HTo:=QQ hto;clear hto x1 x2;go_wp2_with fail
   go_ret;rw[HS.out];exact⟨rfl,HTo.out.pre HB3.out⟩
  ·have e3:=UX i3
   by_cases i5:a1=5
   ·have e5:=J3 i5
    have HS:Hid (SM=Qg6 m):=QQ (HT.out.2.trans ((if_neg i3).trans (if_pos i5)));clear i3 i5;go_wp2_with fail
    refine(Jn7 HE3.out HI.out.pk HI.out.pkn).mono ?_;rintro ev w4 ⟨rfl,hto⟩;have HTo:=QQ hto;clear hto x1 x2;go_wp2_with fail
    go_ret;rw[HS.out];exact⟨rfl,HTo.out.pre HB3.out⟩
   ·have e5:=UX i5
    have HS:Hid (SM= {m with ph:=a1}):=QQ (HT.out.2.trans ((if_neg i3).trans (if_neg i5)));clear i3 i5;go_wp2_with fail
    go_ret;rw[HS.out];exact⟨rfl,HSp.out.pre HB3.out⟩
 ·have d6:=Ji2 p6
  have HT:Hid (Jn6 m=6∧Qa3 m=m):=QQ ⟨by unfold Jn6;rw[if_neg p6],by unfold Qa3;rw[if_neg p6]⟩;rw[HT.out.1,HT.out.2];obtain⟨ph,hph⟩: ∃p,m.ph=p:=⟨_,rfl⟩;rw[hph]at c14 d6;clear p6 hE hM hF hI hph;go_enter Tryz.func15,Tryz.ntmps15
  go_wp2;go_ret;exact⟨rfl,YK.same HE.out (Below.refl _ _)⟩
section
variable {m:ZX}
theorem VW.in_ (h:VW m) (hn:0≤m.now∧m.now≤1000000000000):Qj4 m:=
 ⟨⟨h.tab.1,h.tab.2.1⟩,by have:=h.tk;omega,h.la,hn,by have:=h.lng;omega,fun o ho=>(h.pk o ho).1.1,by have:=h.cnt;omega⟩
theorem Kj2 {ps:List (Int×Int)} {st dy p tk mo:Int} (h:Jb5 ps st dy p tk mo 0 (-1)):VW (Jv5 ps st dy p tk mo):=by
 rcases h with⟨-,h⟩|⟨-,-,h,-⟩|⟨-,-,-,h,-⟩|⟨ht,hb,hn,-,-⟩
 ·exact absurd rfl h
 ·cases h
 ·cases h
 ·rw[Bool.and_eq_true,Qa0,Qa0]at hb
  obtain⟨⟨a1,a2,a3,a4⟩,⟨b1,b2,b3,b4⟩⟩:=hb;refine⟨ht,⟨a3,a4⟩,⟨b3,b4⟩,by show 1≤tk∧tk≤1000000;omega,by show 0≤mo∧mo≤10;omega,⟨a1,a2⟩,⟨a1,a2⟩,⟨List.nodup_nil,by simp[Jv5],fun o ho=>(by cases ho),fun o ho=>(by cases ho),fun o ho=>(by cases ho)⟩,fun o ho=>(by cases ho),by simp[Jv5],⟨by show(0:Int)≤0;omega,by show(0:Int)≤10;omega⟩⟩
end
end Go.Proofs.YtnlngicnfegjgaaGreat
