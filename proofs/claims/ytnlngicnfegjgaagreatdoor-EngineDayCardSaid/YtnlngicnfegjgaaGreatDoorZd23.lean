/- Contracts and walks that the law's proof needs. -/
import Derived.Test.YtnlngicnfegjgaaGreatDoorZd22
import Derived.WalkKit
import Derived.WalkLawsBesides
import Derived.WalkSpells
import Derived.Deep.LoopGhost
import Derived.Deep.DeepCutAuto
import Derived.Deep.CutBlock
import Derived.Test.YtnlngicnfegjgaaGreatDoorZd20
import Derived.Test.YtnlngicnfegjgaaGreatDoorZd6
import Derived.Laws.Rows
import Derived.Deep.RegionWith
import Derived.Test.YtnlngicnfegjgaaGreatDoorZd13
import Derived.Test.YtnlngicnfegjgaaGreatDoorZd12
import Derived.OrdersHeld
import Derived.StillTail
import Derived.RegionTactic
set_option linter.unusedVariables false
set_option maxRecDepth 100000
set_option maxHeartbeats 8000000
namespace Go.Proofs.YtnlngicnfegjgaaGreatDoor
open Go.RowKit
theorem Jy2 {p0 p:Int} (h:Ql8 (OZ p0) p=true):p=2∨p=3∨p=5∨p=7:=by
 unfold Ql8 OZ at h
 by_cases h1:p0=1
 ·simp[h1]at h;omega
 by_cases h2:p0=2
 ·simp[h2]at h;omega
 by_cases h3:p0=3
 ·simp[h3]at h;omega
 by_cases h5:p0=5
 ·simp[h5]at h;omega
 simp[h1,h2,h3,h5]at h
theorem Z5.five {ps:List (Int×Int)} (h:Z5 ps): ∀k,k<ps.length→(ps.getD k (0,0)).2=1∨(ps.getD k (0,0)).2=2∨(ps.getD k (0,0)).2=3∨(ps.getD k (0,0)).2=5∨(ps.getD k (0,0)).2=7
 |0,hk=> .inl (by rw[h.zero])
 |k+1,hk=>by
  have hw:=h.2.2 (k+1) hk;simp only[J0,Qh2]at hw
  split at hw
  ·cases hw
  ·rename_i ha
   exact .inr (Jy2 (by simpa using ha))
theorem Xq8 {m:ZJ} (h:Z5 m.rows) {t:Int} (ht:0≤t):VJ m t=1∨VJ m t=2∨VJ m t=3∨VJ m t=5∨VJ m t=7:=by
 have hz:(m.rows.getD 0 (0,0)).1≤t:=by rw[h.zero];exact ht
 obtain⟨k,hk,-,-,e⟩:=Xk4 m.rows t hz m.rows.length h.1 (Nat.le_refl _)
 unfold VJ
 rw[e]
 exact h.five k hk
structure YK (m m':ZJ):Prop where
 rows:m'.rows=m.rows
 st:m'.st=m.st
 dy:m'.dy=m.dy
 tk:m'.tk=m.tk
 mo:m'.mo=m.mo
theorem YK.refl (m:ZJ):YK m m:=⟨rfl,rfl,rfl,rfl,rfl⟩
theorem YK.trans {m m1 m2:ZJ} (h:YK m m1) (k:YK m1 m2):YK m m2:=⟨k.rows.trans h.rows,k.st.trans h.st,k.dy.trans h.dy,k.tk.trans h.tk,k.mo.trans h.mo⟩
theorem Xd3 (m:ZJ):YK m (Qg6 m):=by
 obtain⟨e1,e2,e3,e4,e5,e6,e7,e8,e9,e10,e11,e12,e13⟩:=Qc1 m.pk {m with ph:=5}
 exact⟨e1,e2,e3,e4,e5⟩
theorem Xq9 (m:ZJ):YK m (Qe2 m):=by unfold Qe2;split<;>exact⟨rfl,rfl,rfl,rfl,rfl⟩
theorem Jv5 (m:ZJ):YK m (Qa2 m):=by
 unfold Qa2
 split
 ·split
  ·exact⟨rfl,rfl,rfl,rfl,rfl⟩
  ·split
   ·exact Xd3 m
   ·exact⟨rfl,rfl,rfl,rfl,rfl⟩
 ·exact YK.refl m
theorem Qu0 (m:ZJ) (id:Int):YK m (YJ m id):=by
 unfold YJ
 split
 ·exact YK.refl m
 ·split<;>exact⟨rfl,rfl,rfl,rfl,rfl⟩
theorem Qu1 (m:ZJ) (o:QX):YK m (OK m o)∧(OK m o).now=m.now∧(((OK m o).ph=m.ph∧(OK m o).ends=m.ends∧(OK m o).lng=m.lng)∨(m.ph=3∧(OK m o).ph=4∧(OK m o).ends=m.now+m.tk∧(OK m o).lng=0)):=by
 unfold OK
 split
 ·unfold Qe5
  split
  ·exact⟨⟨rfl,rfl,rfl,rfl,rfl⟩,rfl,.inl ⟨rfl,rfl,rfl⟩⟩
  ·split
   ·exact⟨⟨rfl,rfl,rfl,rfl,rfl⟩,rfl,.inl ⟨rfl,rfl,rfl⟩⟩
   ·rename_i h3
    have e3:m.ph=3:=by
     have: ¬m.ph≠3:=h3;omega
    obtain⟨M,hM⟩: ∃M,VK (YX m (JJ o)) (JJ o)=M:=⟨_,rfl⟩;have hM2:YK m M∧M.now=m.now∧M.ph=m.ph∧M.ends=m.ends∧M.lng=m.lng:=by
     rw[←hM];unfold VK
     split<;>exact⟨⟨rfl,rfl,rfl,rfl,rfl⟩,rfl,rfl,rfl,rfl⟩
    obtain⟨a1,a2,a3,a4,a5⟩:=hM2;unfold Z2;rw[hM]
    split
    ·exact⟨a1.trans ⟨rfl,rfl,rfl,rfl,rfl⟩,a2,.inr ⟨e3,rfl,by show M.now+M.tk=_;rw[a2,a1.tk],rfl⟩⟩
    ·exact⟨a1,a2,.inl ⟨a3,a4,a5⟩⟩
 ·exact⟨YK.refl m,rfl,.inl ⟨rfl,rfl,rfl⟩⟩
theorem Kj9 (m:ZJ) (p:Int):YK m (X8 m p):=by
 unfold X8
 split
 ·exact⟨rfl,rfl,rfl,rfl,rfl⟩
 ·split
  ·exact Xd3 m
  ·exact⟨rfl,rfl,rfl,rfl,rfl⟩
theorem Xy6 (m:ZJ):YK m (OW m):=by
 unfold OW
 split
 ·exact⟨rfl,rfl,rfl,rfl,rfl⟩
 ·split<;>exact⟨rfl,rfl,rfl,rfl,rfl⟩
theorem Qy3 (m:ZJ):YK m (Q8 m):=by
 unfold Q8
 split
 ·exact YK.refl m
 ·have h0:YK m (XQ m):=⟨rfl,rfl,rfl,rfl,rfl⟩
  unfold I1
  split
  ·split<;>exact⟨rfl,rfl,rfl,rfl,rfl⟩
  ·split
   ·exact h0
   ·split
    ·exact h0.trans (Kj9 _ _)
    ·split
     ·exact h0.trans (Xy6 _)
     ·exact h0
theorem Kk0 (m:ZJ) (p:Int):(X8 m p).now=m.now:=by
 unfold X8
 split
 ·rfl
 ·split
  ·exact(Qc1 m.pk {m with ph:=5}).2.2.2.2.2.2.2.2.2.2.1
  ·rfl
theorem Xr0 (m:ZJ) (p:Int):(X8 m p).ph=p:=by
 unfold X8
 split
 ·rename_i h;exact h.symm
 ·split
  ·rename_i h;rw[Qr6];exact h.symm
  ·rfl
theorem Xy7 (m:ZJ):(OW m).now=m.now:=by
 unfold OW
 split
 ·rfl
 ·split<;>rfl
theorem Ji0 (m:ZJ):(Q8 m).now=if m.ph=7 then m.now else m.now+1:=by
 unfold Q8
 split
 ·rfl
 ·unfold I1
  split
  ·split<;>rfl
  ·split
   ·rfl
   ·split
    ·exact Kk0 _ _
    ·split
     ·exact Xy7 _
     ·rfl
structure V9 (m:ZJ) (since:Int):Prop where
 vol:m.ph=4→since+ (m.ends-m.now)=m.tk* (m.lng+1)∧0<m.ends-m.now∧m.lng≤m.mo
 non:m.ph≠4→since=0
theorem V9.lt {m:ZJ} {since:Int} (h:V9 m since) (hk:VW m):since<m.tk* (1+m.mo):=by
 have h1:=hk.tk.1
 have h2:=hk.mo.1
 by_cases h4:m.ph=4
 ·obtain⟨a1,a2,a3⟩:=h.vol h4
  have:m.tk* (m.lng+1)≤m.tk* (1+m.mo):=Int.mul_le_mul_of_nonneg_left (by omega) (by omega);omega
 ·rw[h.non h4]
  exact Int.mul_pos (by omega) (by omega)
def Xy8 (m:ZJ) (since:Int):Int:=if(Q8 m).ph=4 then(if m.ph=4 then since+1 else since)else 0
theorem V9.tick {m:ZJ} {since:Int} (h:V9 m since) (hk:VW m) (hn:0≤m.now):V9 (Q8 m) (Xy8 m since):=by
 refine⟨fun h4=> ?_,fun h4=>if_neg h4⟩
 unfold Xy8
 rw[if_pos h4]
 have hcfg:=Qy3 m
 have hnow:=Ji0 m
 unfold Q8 at h4 hnow hcfg⊢
 by_cases h7:m.ph=7
 ·rw[if_pos h7]at h4;omega
 ·rw[if_neg h7]at h4 hnow hcfg⊢
  rw[if_neg h7]at hnow;unfold I1 at h4 hnow hcfg⊢
  by_cases e7:VJ (XQ m) (XQ m).now=7
  ·rw[if_pos e7]at h4
   exact absurd h4 (by show¬((7:Int)=4);omega)
  ·rw[if_neg e7]at h4 hnow hcfg⊢
   by_cases e6:(XQ m).ph=6
   ·rw[if_pos e6]at h4
    have e6:m.ph=6:=e6;have h4:m.ph=4:=h4;omega
   ·rw[if_neg e6]at h4 hnow hcfg⊢
    by_cases ew:VJ m m.now≠VJ (XQ m) (XQ m).now
    ·rw[if_pos ew,Xr0]at h4
     have:=Xq8 (m:=XQ m) hk.tab (t:=(XQ m).now) (by show 0≤m.now+1;omega);omega
    ·rw[if_neg ew]at h4 hnow hcfg⊢
     by_cases e4:(XQ m).ph=4∧(XQ m).ends≤(XQ m).now
     ·rw[if_pos e4]at h4 hnow hcfg⊢
      have m4:m.ph=4:=e4.1;have me:m.ends≤m.now+1:=e4.2;obtain⟨a1,a2,a3⟩:=h.vol m4;rw[if_pos m4];unfold OW at h4⊢
      by_cases hc:Jh3 (XQ m)
      ·rw[if_pos hc]at h4
       exact absurd h4 (by show¬((3:Int)=4);omega)
      ·rw[if_neg hc]at h4⊢
       by_cases hl:(XQ m).lng< (XQ m).mo
       ·rw[if_pos hl]
        have hl:m.lng<m.mo:=hl;have htk:=hk.tk.1;refine⟨?_, ?_, ?_⟩
        ·show since+1+ ((m.now+1+m.tk)- (m.now+1))=m.tk* (m.lng+1+1)
         rw[Int.mul_add m.tk (m.lng+1) 1];omega
        ·show 0< (m.now+1+m.tk)- (m.now+1)
         omega
        ·show m.lng+1≤m.mo
         omega
       ·rw[if_neg hl]at h4
        exact absurd h4 (by show¬((6:Int)=4);omega)
     ·rw[if_neg e4]at h4⊢
      have m4:m.ph=4:=h4;obtain⟨a1,a2,a3⟩:=h.vol m4;have me: ¬m.ends≤m.now+1:=fun e=>e4 ⟨m4,e⟩
      rw[if_pos m4];refine⟨?_, ?_,a3⟩
      ·show since+1+ (m.ends- (m.now+1))=m.tk* (m.lng+1)
       omega
      ·show 0<m.ends- (m.now+1)
       omega
theorem V9.order {m:ZJ} {since:Int} (h:V9 m since) (hk:VW m) (o:QX):V9 (OK m o) since:=by
 obtain⟨hc,hn,⟨a1,a2,a3⟩|⟨b0,b1,b2,b3⟩⟩:=Qu1 m o
 ·refine⟨fun h4=> ?_,fun h4=> ?_⟩
  ·rw[a2,a3,hn,hc.tk,hc.mo];exact h.vol (a1▸h4)
  ·exact h.non (a1▸h4)
 ·refine⟨fun _=> ?_,fun h4=>absurd b1 h4⟩
  rw[b2,b3,hn,hc.tk,hc.mo,h.non (by omega)];have:=hk.tk.1;have:=hk.mo.1;refine⟨?_,by omega,by omega⟩;rw[Int.mul_add,Int.mul_zero,Int.mul_one];omega
theorem Qy4 (m:ZJ) (id:Int):(YJ m id).ph=m.ph∧(YJ m id).now=m.now∧(YJ m id).ends=m.ends∧(YJ m id).lng=m.lng:=by
 unfold YJ
 split
 ·exact⟨rfl,rfl,rfl,rfl⟩
 ·split<;>exact⟨rfl,rfl,rfl,rfl⟩
theorem V9.cancel {m:ZJ} {since:Int} (h:V9 m since) (id:Int):V9 (YJ m id) since:=by
 obtain⟨a1,a2,a3,a4⟩:=Qy4 m id
 have hc:=Qu0 m id
 refine⟨fun h4=> ?_,fun h4=> ?_⟩
 ·rw[a2,a3,a4,hc.tk,hc.mo];exact h.vol (a1▸h4)
 ·exact h.non (a1▸h4)
structure Y3 (m:ZJ):Prop where
 now:0≤m.now
 ended:m.ph=7↔VJ m m.now=7
 none_:m.ph=7→m.L1= []∧m.L2= []∧m.pk= []
theorem Y3.of {m m':ZJ} (h:Y3 m) (hc:YK m m') (hn:m'.now=m.now) (hp:m'.ph=7↔m.ph=7) (hl:m'.ph=7→m'.L1= []∧m'.L2= []∧m'.pk= []):Y3 m':=by
 refine⟨by rw[hn];exact h.now, ?_,hl⟩
 rw[hp,h.ended]
 unfold VJ
 rw[hc.rows,hn]
theorem Y3.order {m:ZJ} (h:Y3 m) (o:QX):Y3 (OK m o):=by
 obtain⟨hc,hn,hp⟩:=Qu1 m o
 refine h.of hc hn ?_ ?_
 ·rcases hp with⟨a1,-,-⟩|⟨b0,b1,-,-⟩
  ·rw[a1]
  ·omega
 ·intro e7
  have m7:m.ph=7:=by
   rcases hp with⟨a1,-,-⟩|⟨b0,b1,-,-⟩
   ·rw[←a1];exact e7
   ·omega
  have e:OK m o=m:=by
   unfold OK;rw[if_neg];intro he;have:=(Qy0 he).2.2.1;rw[m7]at this;unfold Qh4 at this;simp at this
  rw[e];exact h.none_ m7
theorem Y3.cancel {m:ZJ} (h:Y3 m) (id:Int):Y3 (YJ m id):=by
 obtain⟨a1,a2,a3,a4⟩:=Qy4 m id
 refine h.of (Qu0 m id) a2 (by rw[a1]) (fun e7=> ?_)
 have m7:m.ph=7:=a1▸e7
 have e:YJ m id=m:=if_pos m7
 rw[e]
 exact h.none_ m7
theorem Y3.halt {m:ZJ} (h:Y3 m):Y3 (Qe2 m):=by
 unfold Qe2
 by_cases h67:m.ph=6∨m.ph=7
 ·rw[if_pos h67];exact h
 ·rw[if_neg h67]
  refine h.of ⟨rfl,rfl,rfl,rfl,rfl⟩ rfl ⟨fun e=>absurd e (by show¬((6:Int)=7);omega),fun e=>absurd (.inr e) h67⟩ (fun e=>absurd e (by show¬((6:Int)=7);omega))
theorem Y3.open_ {m:ZJ} (h:Y3 m):Y3 (Qa2 m):=by
 have hcf:=Jv5 m
 unfold Qa2 at hcf⊢
 by_cases h6:m.ph=6
 ·rw[if_pos h6]at hcf⊢
  have n7:VJ m m.now≠7:=fun e=>by have:=h.ended.2 e;omega
  by_cases h3:VJ m m.now=3
  ·rw[if_pos h3]at hcf⊢
   exact h.of hcf rfl ⟨fun e=>absurd e (by show¬((4:Int)=7);omega),fun e=>by omega⟩ (fun e=>absurd e (by show¬((4:Int)=7);omega))
  ·rw[if_neg h3]at hcf⊢
   by_cases h5:VJ m m.now=5
   ·rw[if_pos h5]at hcf⊢
    have hnow:(Qg6 m).now=m.now:=(Qc1 m.pk {m with ph:=5}).2.2.2.2.2.2.2.2.2.2.1;exact h.of hcf hnow ⟨fun e=>(by rw[Qr6]at e;cases e),fun e=>(by omega)⟩ (fun e=>(by rw[Qr6]at e;cases e))
   ·rw[if_neg h5]at hcf⊢
    exact h.of hcf rfl ⟨fun e=>absurd e n7,fun e=>by omega⟩ (fun e=>absurd e n7)
 ·rw[if_neg h6];exact h
theorem Y3.tick {m:ZJ} (h:Y3 m):Y3 (Q8 m):=by
 have hn:=Ji0 m
 have hc:=Qy3 m
 have hpm:VJ (Q8 m) (Q8 m).now=VJ m (Q8 m).now:=by unfold VJ;rw[hc.rows]
 by_cases h7:m.ph=7
 ·have e:Q8 m=m:=if_pos h7
  rw[e];exact h
 ·rw[if_neg h7]at hn
  have key:((Q8 m).ph=7↔VJ m (m.now+1)=7)∧((Q8 m).ph=7→(Q8 m).L1= []∧(Q8 m).L2= []∧(Q8 m).pk= []):=by
   unfold Q8;rw[if_neg h7];unfold I1
   by_cases e7:VJ (XQ m) (XQ m).now=7
   ·rw[if_pos e7]
    exact⟨⟨fun _=>e7,fun _=>rfl⟩,fun _=>⟨rfl,rfl,rfl⟩⟩
   ·rw[if_neg e7]
    have no: ∀ {K:ZJ},K.ph≠7→(K.ph=7↔VJ m (m.now+1)=7)∧(K.ph=7→K.L1= []∧K.L2= []∧K.pk= []):=fun hK=>⟨⟨fun e=>absurd e hK,fun e=>absurd e e7⟩,fun e=>absurd e hK⟩
    by_cases e6:(XQ m).ph=6
    ·rw[if_pos e6]
     exact no (by rw[e6];decide)
    ·rw[if_neg e6]
     by_cases ew:VJ m m.now≠VJ (XQ m) (XQ m).now
     ·rw[if_pos ew]
      exact no (by rw[Xr0];exact e7)
     ·rw[if_neg ew]
      by_cases e4:(XQ m).ph=4∧(XQ m).ends≤(XQ m).now
      ·rw[if_pos e4]
       refine no ?_;unfold OW
       split
       ·exact fun e=>absurd e (by show¬((3:Int)=7);omega)
       ·split
        ·show¬m.ph=7;exact h7
        ·exact fun e=>absurd e (by show¬((6:Int)=7);omega)
      ·rw[if_neg e4]
       exact no h7
  refine⟨by rw[hn];have:=h.now;omega, ?_,key.2⟩;rw[hpm,hn];exact key.1
theorem Xd4 {w:World} {e:Nat} {F:Nat→Prop} {m:ZJ} (h:UK w e F m):
  Calls Tryz.prog 39 #[.pointer (some ⟨e,0,none⟩)] w fun ev w'=>ev= .returned (.tuple #[])∧YZ w w' e F (Qu8 m):=by
 obtain⟨cs,tb,bb,bk,im,T,tc,Al,lc,lv,bu,se,Ap,pc,es,mc,G,own,hM,hF⟩:=h
 have HN:=QQ (Qx6 w)
 have HM:=QQ hM
 have HF:=QQ hF
 clear hM hF
 go_enter Tryz.func39,Tryz.ntmps39
 go_wp2_with fail
 refine HN.out.mono ?_
 rintro ev w2 ⟨hb2,b,G2,hG2,rfl,hB2⟩
 have hM2:=HM.out.below hb2
 obtain⟨hM3,ho3⟩:=hM2.setPh 7
 obtain⟨own4,hM4,ho4⟩:=hM3.pkNil
 have hB4:=(hB2.keeps (QK.set_ w2 ⟨e,14,none⟩ (.int .i64 7)) (fun i hi hie=>by have h1:=hG2 i hi;have h2:=QJ.lt HM.out.ind.blk;have h3:i=e:=hie;omega)).keeps (QK.set_ (w2.setCell ⟨e,14,none⟩ (.int .i64 7)) ⟨e,12,none⟩ (.slice none 0 0)) (fun i hi hie=>by have h1:=hG2 i hi;have h2:=QJ.lt HM.out.ind.blk;have h3:i=e:=hie;omega)
 have hs3:=ho3.1.size
 obtain⟨own5,hM5,hk5,hg5⟩:=hM4.otherBook (M1:= []) (M2:= []) hB4 (fun i k hi hk=>by
  have h1:=hG2 i hi;have h2:=hB2.fp hi;rcases ho4.2 i k hk with h3|h3
  ·have:=HM.out.ok.lt i k h3;omega
  ·omega)
 obtain⟨hM6,ho6⟩:=hM5.indNil
 have c14:=hM2.cell hM2.ec.c14
 have c12:=hM3.cell hM3.ec.c12
 have c8:=hM4.cell hM4.ec.c8
 have c9:=hM5.ind.cells
 have f14:=hM2.frozen 14
 have f12:=hM3.frozen 12
 have f8:=hM4.frozen 8
 have f9:=hM5.frozen 9
 have f10:=hM5.frozen 10
 have f11:=hM5.frozen 11
 obtain⟨c9,c10,c11⟩:=c9
 have HM6:=QQ hM6
 have HO:=QQ (And.intro hb2 (And.intro ho3 (And.intro ho4 (And.intro hk5 (And.intro hg5 ho6)))))
 have HG2:=QQ hG2
 clear hM2 hM3 hM4 hM5 hM6 ho3 ho4 hk5 hg5 ho6 hb2 hG2 hB2 hB4 hs3 HN
 go_wp2_with fail
 refine bodyPost_end (results_none rfl _ _ _) rfl ?_
 obtain⟨hb2,ho3,ho4,hk5,hg5,ho6⟩:=HO.out
 refine⟨rfl,_,UX.at_ (m:=Qu8 m) HM6.out (fun _ _ _=>rfl), ?_⟩
 have o4:=((VZ.of_below hb2).trans ho3).trans ho4
 have o5:VZ w _ own own5:=⟨o4.1.trans hk5 (fun i ⟨k,hk⟩=>(o4.2 i k hk).imp (fun x=>⟨k,x⟩) id),fun i k hi=> ?_⟩
 ·exact(o5.trans ho6).bstep HF.out
 ·rcases hg5 i k hi with h1|h1
  ·exact o4.2 i k h1
  ·exact .inr (HG2.out i h1)
theorem Kk1 (l:List QX): ∀m:ZJ,(UZ m l).pk=m.pk:=by
 induction l with
 |nil=>intro m;rfl
 |cons o t ih=>intro m;exact ih (Qc8 m o)
theorem Xr1 (m:ZJ) (l:List QX) (o:QX):UZ m (l++ [o])=Qc8 (UZ m l) o:=by unfold UZ;rw[List.foldl_append];rfl
theorem Jo0 {w:World} {e:Nat} {F:Nat→Prop} {m:ZJ} (h:UK w e F m) (hpk: ∀o∈m.pk,Qd5 o) (hcnt:m.pk.length≤100000):
  Calls Tryz.prog 76 #[.pointer (some ⟨e,0,none⟩)] w fun ev w'=>ev= .returned (.tuple #[])∧YZ w w' e F (Qg6 m):=by
 obtain⟨cs,tb,bb,bk,im,T,tc,Al,lc,lv,bu,se,Ap,pc,es,mc,G,own,hM,hF⟩:=h
 obtain⟨hM1,ho1⟩:=hM.setPh 5
 have c14:=hM.cell hM.ec.c14
 have f14:=hM.frozen 14
 have c12:=hM1.cell hM1.ec.c12
 have hcap:=hM.park.1
 have HM1:=QQ hM1
 have HO1:=QQ ho1
 have HF:=QQ hF
 have HPk:=QQ hpk
 obtain⟨n,hn⟩: ∃n,m.pk.length=n:=⟨_,rfl⟩
 have HN:=QQ hn
 rw[hn]at hcnt
 have e12:({m with ph:=5}:ZJ).pk.length=n:=hn
 rw[e12]at c12
 clear hM hM1 ho1 hF hpk hcap e12 hn
 go_enter Tryz.func76,Tryz.ntmps76
 go_upto_region 1 with fail
 obtain⟨w1,ew1⟩: ∃W,w.setCell ⟨e,14,none⟩ (.int .i64 5)=W:=⟨_,rfl⟩
 rw[ew1]at c12 HM1 HO1⊢
 clear ew1 c14 f14
 go_wp2_with fail
 go_loopg [12] n (fun gg s12 wr=> ∃(k:Nat),k≤n∧gg=n-k∧s12= .int .i64 k∧Hid (Kw4 w1 wr e tb bb bk im T tc Ap pc es mc own (UZ {m with ph:=5} (m.pk.take k))))
 case atStart=>exact⟨0,Nat.zero_le _,rfl,rfl,QQ ⟨_,_,_,_,_,_,_,_,HM1.out,VZ.of_below (Below.refl _ _)⟩⟩
 case round=>
  obtain⟨k,hk,rfl,rfl,HL⟩:=hrel;obtain⟨cs1,Al1,lc1,lv1,bu1,se1,G1,own1,hMr,hor⟩:=HL.out;have HMr:=QQ hMr;have HOr:=QQ hor;clear hMr hor HL
  by_cases hlt:k<n
  ·have hkl:k<m.pk.length:=by rw[HN.out];exact hlt
   have hpark:=HMr.out.park;rw[Kk1]at hpark;obtain⟨gp,hgp⟩:=Qc6 hpark (by show 0<m.pk.length;omega);subst hgp;obtain⟨y0,y1,y2,y3,y4⟩:=Qz7 hpark hkl;have hfit:=HPk.out _ (List.getElem_mem hkl);have htake:m.pk.take (k+1)=m.pk.take k++ [m.pk[k]]:=List.take_succ_eq_append_getElem hkl;obtain⟨x,hx⟩: ∃x,m.pk[k]=x:=⟨_,rfl⟩;rw[hx]at y0 y1 y2 y3 y4 hfit htake;have HTake:=QQ htake;have hltz:(k:Int)< (n:Int):=by omega
   have hk7:(0:Int)≤(k:Int):=by omega
   have hbx:Below wr.heap.size wr (wr.alloc (.cells #[.int .i64 x.id,.int .i64 x.side,.int .i64 x.kind,.int .i64 x.price,.int .i64 x.qty] 29)):=(Below.refl _ wr).alloc (Nat.le_refl _) _;have hZ:=QJ.new wr 29 #[.int .i64 x.id,.int .i64 x.side,.int .i64 x.kind,.int .i64 x.price,.int .i64 x.qty];have hMz:=HMr.out.below hbx;obtain⟨wz,ewz⟩: ∃W,wr.alloc (.cells #[.int .i64 x.id,.int .i64 x.side,.int .i64 x.kind,.int .i64 x.price,.int .i64 x.qty] 29)=W:=⟨_,rfl⟩;rw[ewz]at hbx hZ hMz;have hlie:=Kd5 hMz x hfit;unfold KQ at hlie;have HLie:=QQ hlie;have HBx:=QQ hbx;have HZ:=QQ hZ;clear htake hx hfit hpark hbx hZ hMz hlie;go_upto_region 4 with fail
   try rw[ewz]
   clear ewz y0 y1 y2 y3 y4;obtain⟨z0,z1,z2,z3,z4⟩:=Jy0 HZ.out;go_wp2_with fail
   refine HLie.out.mono ?_;rintro ev w4 ⟨rfl,cs4,Al4,lc4,lv4,bu4,se4,G4,own4,hM4,ho4⟩;have HM4:=QQ hM4;have HO4:=QQ ho4;clear hM4 ho4 z0 z1 z2 z3 z4;go_wp2_with fail
   go_roundg (n- (k+1))
   case measure=>omega
   case rel=>exact⟨k+1,by omega,rfl,by go_num,QQ ⟨_,_,_,_,_,_,_,_,by rw[HTake.out,Xr1];exact HM4.out,(HOr.out.trans (VZ.of_below HBx.out)).trans HO4.out⟩⟩
  ·obtain rfl:k=n:=by omega
   have hltz: ¬(k:Int)< (k:Int):=by omega
   have d12:=HMr.out.cell HMr.out.ec.c12;have g12:=HMr.out.frozen 12;go_wp2_with fail
   refine bodyPost_end (results_none rfl _ _ _) rfl ?_;obtain⟨own5,hM5,ho5⟩:=HMr.out.pkNil;rw[List.take_of_length_le (by rw[HN.out];exact Nat.le_refl _)]at hM5;exact⟨rfl,_,UX.at_ (m:=Qg6 m) hM5 (fun _ _ _=>rfl),((HO1.out.trans HOr.out).trans ho5).bstep HF.out⟩
theorem Kk2 {w1:World} {a c d:Nat} {B:Option Addr} {ss:List UJ} {fr:List Int} {most many:Int} {gs k:Nat} (H:KW w1 a (some ⟨gs,0,none⟩) c B d ss fr most many) (hk:k<ss.length) (x:QX):
  KW (Xl1 w1 gs (k*7) x) a (some ⟨gs,0,none⟩) c B d (ss.set k (x,ss[k].2.1,ss[k].2.2)) fr most many∧QK (OFp a (some ⟨gs,0,none⟩) B) w1 (Xl1 w1 gs (k*7) x):=by
 have hK:QK (fun i=>i=gs) w1 (Xl1 w1 gs (k*7) x):=Qs2 w1 gs (k*7) x
 have hs:=Jq6 H.slots (k*7) x
 have h5:(QW Qn2 ss)[k*7+5]?=some (.int .i64 ss[k].2.1):=Qd4 Qi5 ss k hk 5 (by omega)
 have h6:(QW Qn2 ss)[k*7+6]?=some (.bool ss[k].2.2):=Qd4 Qi5 ss k hk 6 (by omega)
 have e0:((((((QW Qn2 ss).set (k*7) (.int .i64 x.id)).set (k*7+1) (.int .i64 x.side)).set (k*7+2) (.int .i64 x.kind)).set (k*7+3) (.int .i64 x.price)).set (k*7+4) (.int .i64 x.qty))=QW Qn2 (ss.set k (x,ss[k].2.1,ss[k].2.2)):=by
  refine Eq.trans ?_ (Jj0 ss k hk (x,ss[k].2.1,ss[k].2.2));dsimp only;rw[Jq5 (i:=k*7+5),Jq5 (i:=k*7+6)]
  ·rw[List.getElem?_set_ne (by omega),List.getElem?_set_ne (by omega),List.getElem?_set_ne (by omega),List.getElem?_set_ne (by omega),List.getElem?_set_ne (by omega)]
   exact h6
  ·rw[List.getElem?_set_ne (by omega),List.getElem?_set_ne (by omega),List.getElem?_set_ne (by omega),List.getElem?_set_ne (by omega),List.getElem?_set_ne (by omega)]
   exact h5
 rw[e0]at hs
 refine⟨⟨?_, ?_, ?_,H.na,H.nb,H.nab⟩,hK.mono (fun i h=> .inr (.inl (by rw[h];rfl)))⟩
 ·rw[List.length_set];exact QJ.keeps H.blk hK (fun h=>H.na (congrArg some h.symm))
 ·rw[List.length_set];exact hs
 ·exact H.free.keeps hK (fun g hg h=>H.nab gs rfl (by rw[hg,h]))
theorem Jy3 (w:World) (a:Nat) (A:Option Addr) (c:Nat) (B:Option Addr) (d:Nat) (ss:List UJ) (fr:List Int) (most many s g:Int) (x:QX) (h:KW w a A c B d ss fr most many) (hh:Qd0 ss s g=true):
  Calls Tryz.prog 170 #[.pointer (some ⟨a,0,none⟩),.agg #[.int .i64 s,.int .i64 g],KQ x] w fun e w'=>
   e= .returned (YV 0)∧ ∃k:Nat,∃hk:k<ss.length,s=k∧ss[k].2.2=true∧ss[k].2.1=g∧Jf1 w w' a A B (ss.set k (x,ss[k].2.1,ss[k].2.2)) fr most many:=by
 have hA:Below w.heap.size w ((w.alloc (.cells #[.int .i64 s,.int .i64 g] 186)).alloc (.cells (KZ x) 29)):=((Below.refl _ w).alloc (Nat.le_refl _) _).alloc (by simp) _
 have hX:QJ ((w.alloc (.cells #[.int .i64 s,.int .i64 g] 186)).alloc (.cells (KZ x) 29)) (w.heap.size+1) 29 (KZ x):=by simpa using QJ.new (w.alloc (.cells #[.int .i64 s,.int .i64 g] 186)) 29 (KZ x)
 have HX:=QQ hX
 have H:=QQ (h.below hA)
 have HA:=QQ hA
 have Hh:=QQ hh
 clear hA hX h hh
 unfold KQ
 go_enter Tryz.func170,Tryz.ntmps170
 go_wp2_with fail
 refine(Ji9 _ a A c B d ss fr most many s g H.out).mono ?_
 rintro e w1 ⟨hB,⟨hf,rfl⟩|⟨hf,k,gs,rfl,hk,rfl,rfl⟩⟩
 ·rw[Hh.out]at hf
  cases hf
 ·have H1:=H.out.below hB
  have hX1:=QJ.keep HX.out hB;obtain⟨x0,x1,x2,x3,x4⟩:=JW hX1;obtain⟨gs',he,s0,s1,s2,s3,s4,_,_⟩:=H1.slot hk
  cases he;have f0:=H1.slots.frozen (k*7);have f1:=H1.slots.frozen (k*7+1);have f2:=H1.slots.frozen (k*7+2);have f3:=H1.slots.frozen (k*7+3);have f4:=H1.slots.frozen (k*7+4);have hl0:=H1.slots.lt (g:=gs) rfl;rw[Xk6 hk]at hf;have hf':ss[k].2.2=true∧ss[k].2.1=g:=by simpa using hf
  have HO:=QQ (Kk2 H1 hk x);have Hf:=QQ hf';have HB:=QQ hB;clear hf hf' hX1 H1 hB;go_wp2_with fail
  go_ret;obtain⟨hO,hK⟩:=HO.out;refine⟨rfl,k,hk,rfl,Hf.out.1,Hf.out.2,some ⟨gs,0,none⟩,c,B,d,hO, ?_,fun i hi=> .inl hi⟩;exact(QK.of_below (HA.out.trans (HB.out.mono HA.out.size)) _).trans hK (fun i hi=> .inl hi)
theorem Kw6 {w:World} {a:Nat} {F:Nat→Prop} {M:Int→Int→Option QX} {most n:Nat} (h:OAr w a F M most n) (s g:Int) (hy:(M s g).isSome=true) (x:QX):
  Calls Tryz.prog 170 #[.pointer (some ⟨a,0,none⟩),.agg #[.int .i64 s,.int .i64 g],KQ x] w fun e w'=>e= .returned (YV 0)∧Jr2 w w' a F (Z8 M s g (some x)) most n:=by
 obtain⟨A,c,B,d,ss,fr,hA,hI,hL,hM,hF⟩:=h
 refine(Jy3 w a A c B d ss fr _ _ s g x hA (by rw[Qq2,←hM];exact hy)).mono ?_
 rintro e w' ⟨rfl,k,hk,rfl,h1,h2,A',c',B',d',hA',hK,hfp⟩
 have hl:=Jj2 ss (x,ss[k].2.1,ss[k].2.2) k hk
 have hl':Qi6 (ss.set k (x,ss[k].2.1,ss[k].2.2))=Qi6 ss:=by
  dsimp only at hl;omega
 refine⟨rfl,OFp a A' B',⟨A',c',B',d',_,_,hA',⟨hI.nodup, ?_, ?_, ?_⟩,by rw[hl'];exact hL, ?_,fun i=>Iff.rfl⟩,hK.mono (fun i hi=>(hF i).2 hi),fun i hi=>(hfp i hi).imp (fun h=>(hF i).2 h) id⟩
 ·intro i hi
  obtain⟨j,rfl,hj,hjf⟩:=hI.free i hi;refine⟨j,rfl,by rw[List.length_set];exact hj, ?_⟩;rw[List.getElem_set]
  split
  ·rename_i e
   subst e;exact hjf
  ·exact hjf
 ·rw[List.length_set,hl'];exact hI.count
 ·rw[List.length_set];exact hI.cap
 ·intro s' g'
  rw[Jj1 hk];unfold Z8;rw[hM]
  by_cases e1:s'=(k:Int)
  ·subst e1
   rw[if_pos rfl]
   by_cases e2:g'=g
   ·subst e2;simp[h1,h2]
   ·have:O6 ss (k:Nat) g'=none:=by
     unfold O6;have hh:ss[((k:Nat):Int).toNat]?=some ss[k]:=by simp[hk]
     rw[if_pos (by omega),hh];simp[h2];intro _ e;exact absurd e.symm e2
    rw[if_neg (by simp[e2]),this,if_neg];rintro⟨_,e⟩;dsimp only at e;rw[h2]at e;exact e2 e.symm
  ·rw[if_neg (by simp[e1]),if_neg e1]
theorem Xd5 {w:World} {t:Act} {Q:Ending→World→Prop} {g:Nat} {cs:Array Value} {v:Value} (hp:t.tmps.getD 4 undef= .pointer (some ⟨g,0,none⟩)) (h5:t.tmps.getD 5 undef=v) (hd:t.defers= [])
  (hg:QJ w g 29 cs) (hs:cs.size=5) (h:Q (.returned (.tuple #[.agg cs,v])) w):bodyPost Tryz.prog Tryz.f67 Q .ret t w:=by
 refine bodyPost_ret (v:= .tuple #[.agg cs,v]) ?_ hd h
 have hl:=run_loadVar_row (P:=Tryz.prog) w g _ 29 cs (0,0) _ hg Tryz.underlying29 rfl (by rw[hs];kernel_rfl)
 have hp':t.tmps[4]?.getD undef= .pointer (some ⟨g,0,none⟩):=by simpa using hp
 have h5':t.tmps[5]?.getD undef=v:=by simpa using h5
 simp[results,Tryz.results67,hp',h5',asAddr,hl]
theorem Jc2 (w:World) (b a:Nat) (F:Nat→Prop) (M:Int→Int→Option QX) (n r:Nat) (f:Int→Option Value) (H:Int→HS) (reg:Nat→Int) (hM:XX w b a F M n r f H reg) (id:Int) (hf:f id=none):
  Calls Tryz.prog 67 #[.pointer (some ⟨b,0,none⟩),.int .i64 id] w fun e w'=>e= .returned (.tuple #[.agg #[.int .i64 0,.int .i64 0,.int .i64 0,.int .i64 0,.int .i64 0],YV 7])∧Below w.heap.size w w':=by
 have hb0:Below w.heap.size w (w.alloc (.cells #[.int .i64 0,.int .i64 0,.int .i64 0,.int .i64 0,.int .i64 0] 29)):=(Below.refl _ w).alloc (Nat.le_refl _) _
 have hM0:=hM.below hb0
 have hlk:=IX hM0.mp hf
 obtain⟨y0,y1,y2,y3,y4,y5⟩:=hM0.cells
 have HR:=QQ (QJ.new w 29 #[.int .i64 0,.int .i64 0,.int .i64 0,.int .i64 0,.int .i64 0])
 have HB:=QQ hb0
 clear y0 y2 y3 y4 y5 hM hM0 hf hb0
 go_enter Tryz.func67,Tryz.ntmps67
 go_wp2_with fail
 refine Xd5 (g:=w.heap.size) (cs:= #[.int .i64 0,.int .i64 0,.int .i64 0,.int .i64 0,.int .i64 0]) (v:=YV 7) (by with_unfolding_all rfl) (by with_unfolding_all rfl) (by with_unfolding_all rfl) (QJ.alloc HR.out _) rfl ?_
 exact⟨rfl,HB.out.alloc (by simp) _⟩
theorem Jv6 (w:World) (b a:Nat) (F:Nat→Prop) (M:Int→Int→Option QX) (n r:Nat) (f:Int→Option Value) (H:Int→HS) (reg:Nat→Int) (hM:XX w b a F M n r f H reg) (id:Int) (x:HO) (hf:f id=some (X7 x)) (hMx:M x.1.1 x.1.2=some x.2):
  Calls Tryz.prog 67 #[.pointer (some ⟨b,0,none⟩),.int .i64 id] w fun e w'=>e= .returned (.tuple #[KQ x.2,.nilIface])∧Below w.heap.size w w':=by
 have hb0:Below w.heap.size w (w.alloc (.cells #[.int .i64 0,.int .i64 0,.int .i64 0,.int .i64 0,.int .i64 0] 29)):=(Below.refl _ w).alloc (Nat.le_refl _) _
 have hM0:=hM.below hb0
 have hlk:=K0 hM0.mp hf
 obtain⟨y0,y1,y2,y3,y4,y5⟩:=hM0.cells
 obtain⟨⟨h1,h2⟩,o⟩:=x
 dsimp only at hlk hMx
 have HX:=QQ (QJ.alloc (QJ.new w 29 #[.int .i64 0,.int .i64 0,.int .i64 0,.int .i64 0,.int .i64 0]) (.cells #[.int .i64 h1,.int .i64 h2,.int .i64 o.side,.int .i64 o.price,.bool (o.kind ==2)] 188))
 have hb1:Below w.heap.size w ((w.alloc (.cells #[.int .i64 0,.int .i64 0,.int .i64 0,.int .i64 0,.int .i64 0] 29)).alloc (.cells #[.int .i64 h1,.int .i64 h2,.int .i64 o.side,.int .i64 o.price,.bool (o.kind ==2)] 188)):=hb0.alloc (by simp) _
 have HG:=QQ (Jg1 (hM.below hb1) hMx _ (Below.drew (Below.refl _ _)))
 have HB:=QQ hb1
 have hbl:=QJ.lt hM.blk
 clear y2 y3 y4 y5 hM hM0 hf hb0 hb1 hMx
 go_enter Tryz.func67,Tryz.ntmps67
 go_wp2_with fail
 go_region_with (go_at_call 108;refine HG.out.mono ?_;rintro e w5 ⟨rfl,hb5⟩;have hbx:=QJ.keep (QJ.drew HX.out) hb5;have z0:=(I5 hbx).1;have z1:=(I5 hbx).2.1;have z2:=(I5 hbx).2.2.1;have z3:=(I5 hbx).2.2.2.1;have z4:=(I5 hbx).2.2.2.2;have f0:=QJ.frozen hbx 0;have f1:=QJ.frozen hbx 1;have f2:=QJ.frozen hbx 2;have f3:=QJ.frozen hbx 3;have f4:=QJ.frozen hbx 4;have HBx:=QQ hbx;have HB5:=QQ (HB.out.trans ((Below.drew (Below.refl _ _)).trans (hb5.mono (Nat.le_refl _)) |>.mono HB.out.size));clear hb5 hbx)
 all_goals go_wp2_with fail
 all_goals
  refine Xd5 (g:=w.heap.size) (cs:=KZ o) (v:= .nilIface) (by with_unfolding_all rfl) (by with_unfolding_all rfl) (by with_unfolding_all rfl) ?_ rfl ?_
  ·exact QJ.set_ (QJ.set_ (QJ.set_ (QJ.set_ (QJ.set_ HBx.out 0 _) 1 _) 2 _) 3 _) 4 _
  ·refine⟨rfl,HB5.out.trans ?_⟩
   exact(Jg2 _ _ _ _ _ _ _).below (B:=w.heap.size) (fun i e=>by have e':i=w.heap.size:=e;omega) HB5.out.size
theorem Jc3 (w:World) (b:Nat) (G:Nat→Prop) (L1 L2:List QX) (h:Q1 w b G L1 L2) (id:Int):
  Calls Tryz.prog 67 #[.pointer (some ⟨b,0,none⟩),.int .i64 id] w fun e w'=>Below w.heap.size w w'∧((Qb3 (L1++L2) id=none∧e= .returned (.tuple #[KQ noO,YV 7]))∨(∃o,Qb3 (L1++L2) id=some o∧e= .returned (.tuple #[KQ o,.nilIface]))):=by
 obtain⟨a,F,M,n,r,f,H,reg,hM,hS,hG,rfl,rfl⟩:=h
 cases hf:f id with
 |none=>
  refine(Jc2 w b a F M n r f H reg hM id hf).mono ?_;rintro e w' ⟨rfl,hb⟩;exact⟨hb,.inl ⟨Ja5 hS hf,rfl⟩⟩
 |some v=>
  obtain⟨x,hx,QQ⟩:=hS.hk _ _ hf;have hv:=hS.hf x hx;rw[QQ]at hv;refine(Jv6 w b a F M n r f H reg hM id x hv (hS.hM x hx)).mono ?_;rintro e w' ⟨rfl,hb⟩;exact⟨hb,.inr ⟨x.2,by rw[←QQ];exact Ja4 hS hx,rfl⟩⟩
theorem Qy5 {w:World} {r:Nat} {f:Int→Option Value} (h:I6 w r f) {k:Int} {x:HO} (e:f k=some (X7 x)):(Instr.lookup 150 (.map (some r)) (.int .i64 k) false).run Tryz.prog w=
  .ok (.agg #[.int .i64 x.1.1,.int .i64 x.1.2,.int .i64 x.2.side,.int .i64 x.2.price,.bool (x.2.kind ==2)]) w:=by
 have:=h.lookup (P:=Tryz.prog) Tryz.underlying150 Tryz.underlying3 (z:= .agg #[.int .i64 0,.int .i64 0,.int .i64 0,.int .i64 0,.bool false]) (by kernel_rfl) k false
 rw[e]at this
 exact this
theorem Xi0 (w:World) (a b c d:Value) (e:Value):(Instr.field 188 (.agg #[a,b,c,d,e]) 0).run Tryz.prog w= .ok (.agg #[a,b]) w:=by kernel_rfl
theorem Za1 {w w':World} {b a r n:Nat} {F F' G:Nat→Prop} {M:Int→Int→Option QX} {f:Int→Option Value} {H:Int→HS} {reg':Nat→Int} {x:HO} {k:Int} (hS:KY M n f H) (hx:x∈X5 H) (h1:1≤k) (h2:k<x.2.qty)
  (hG: ∀i,G i↔U1 b r F H i) (hM:XX w' b a F' (Z8 M x.1.1 x.1.2 (some (U9 x.2 k))) n r f H reg') (hB:XW w w' (U1 b r F H) (U1 b r F' H)):Qj9 w w' b G (Qf6 (H 1).L x.2 k) (Qf6 (H 2).L x.2 k):=by
 have e: ∀L,Qf6 L x.2 k=Xl7 L x.2.id k:=fun L=>by unfold Qf6;rw[if_neg (by omega)]
 rw[e,e]
 refine⟨U1 b r F' (Qm6 H x.2.id k),⟨a,F',_,n,r,f,Qm6 H x.2.id k,reg',hM.recut,hS.cut hx h1 h2,fun i=>Iff.rfl,(Ky1 _).symm,(Ky1 _).symm⟩,hB.1.mono (fun i hi=>(hG i).2 hi),fun i hi=> ?_⟩
 exact(hB.2 i (Kv7.1 hi)).imp (fun h=>(hG i).2 h) id
theorem Jo1:Kc9:=by
 intro w b G L1 L2 h id n hfit
 have hat:=h
 obtain⟨a,F,M,m,r,f,H,reg,hM,hS,hG,rfl,rfl⟩:=h
 cases hf:f id with
 |none=>
  have hg:=Ja5 hS hf;have hE:Jt3 (H 1).L (H 2).L id n=7:=by unfold Jt3;rw[hg]
  have HC:=QQ (Jc2 w b a F M m r f H reg hM id hf);have HE:=QQ hE;clear hM hS hG hf hg hE hat;go_enter Tryz.func119,Tryz.ntmps119
  go_wp2_with fail
  refine HC.out.mono ?_;rintro e w1 ⟨rfl,hb⟩;have HB:=QQ (hb.alloc hb.size (.cells #[.int .i64 0,.int .i64 0,.int .i64 0,.int .i64 0,.int .i64 0] 29));rw[show YV 7= .iface 52 (.int .i64 7)from rfl];clear hb;go_wp2_with fail
  go_ret;refine .inl ⟨?_, ?_,HB.out⟩
  ·rw[HE.out];decide
  ·rw[HE.out];rfl
 |some v=>
  obtain⟨x,hx,hxi⟩:=hS.hk _ _ hf;have hv:=hS.hf x hx;rw[hxi]at hv;have hg:=Ja4 hS hx;rw[hxi]at hg;have hok:=hS.ok x hx;have HC:=QQ (Jv6 w b a F M m r f H reg hM id x hv (hS.hM x hx));have HM:=QQ hM;have HS_:=QQ hS;have HG:=QQ hG;have Hx:=QQ hx;have Hxi:=QQ hxi;have Hv:=QQ hv;have Hg:=QQ hg;have Hat:=QQ hat;have hq1:=hok.2.2.2;have Hfit:=QQ hfit;clear hM hS hG hf hg hat hx hxi hv hok hfit v;obtain⟨⟨h1,h2⟩,o⟩:=x;dsimp only at HC Hxi Hg hq1;unfold KQ at HC
  by_cases c1:n<1
  ·have d1:decide (n<1)=true:=J5 c1
   have hE:Jt3 (H 1).L (H 2).L id n=2:=by unfold Jt3;rw[Hg.out];exact if_pos (.inl c1)
   have HE:=QQ hE;clear hE c1;go_enter Tryz.func119,Tryz.ntmps119
   go_wp2_with fail
   refine HC.out.mono ?_;rintro e w1 ⟨rfl,hb⟩;have HB:=QQ (hb.alloc hb.size (.cells #[.int .i64 o.id,.int .i64 o.side,.int .i64 o.kind,.int .i64 o.price,.int .i64 o.qty] 29));clear hb;go_wp2_with fail
   go_ret;refine .inl ⟨?_, ?_,HB.out⟩
   ·rw[HE.out];decide
   ·rw[HE.out];rfl
  ·have d1:decide (n<1)=false:=IQ c1
   by_cases c2:o.qty<n
   ·have d2:decide (o.qty<n)=true:=J5 c2
    have hE:Jt3 (H 1).L (H 2).L id n=2:=by unfold Jt3;rw[Hg.out];exact if_pos (.inr c2)
    have HE:=QQ hE;clear hE c1 c2;go_enter Tryz.func119,Tryz.ntmps119
    go_wp2_with fail
    refine HC.out.mono ?_;rintro e w1 ⟨rfl,hb⟩;have HB:=QQ (hb.alloc hb.size (.cells #[.int .i64 o.id,.int .i64 o.side,.int .i64 o.kind,.int .i64 o.price,.int .i64 o.qty] 29));clear hb;go_wp2_with fail
    go_ret;refine .inl ⟨?_, ?_,HB.out⟩
    ·rw[HE.out];decide
    ·rw[HE.out];rfl
   ·have d2:decide (o.qty<n)=false:=IQ c2
    by_cases c3:n=o.qty
    ·subst c3
     have d3:(o.qty ==o.qty)=true:=J4 rfl;go_enter Tryz.func119,Tryz.ntmps119
     go_wp2_with fail
     refine HC.out.mono ?_;rintro e w1 ⟨rfl,hb⟩;have hb2:=hb.alloc hb.size (.cells #[.int .i64 o.id,.int .i64 o.side,.int .i64 o.kind,.int .i64 o.price,.int .i64 o.qty] 29);have HCa:=QQ (Qg0 _ b G _ _ (Hat.out.below hb2) id);have HB:=QQ hb2;clear hb hb2;go_wp2_with fail
     refine HCa.out.mono ?_;rintro e w2 (⟨h0,-,-⟩|⟨o',h0,rfl,hto⟩)
     ·rw[Hg.out]at h0
      cases h0
     ·have Hto:=QQ hto
      clear hto h0;rw[UW];go_wp2_with fail
      go_ret;obtain⟨G',hA',hB'⟩:=Hto.out;refine .inr ⟨o,Hg.out,by omega,Int.le_refl _,rfl,G', ?_,(XW.of_below HB.out).trans hB'⟩;unfold Qf6;rw[if_pos rfl,if_pos rfl,Hxi.out];exact hA'
    ·have d3:(n ==o.qty)=false:=UQ c3
     have hw:RowKit.wrap64 (o.qty-n)=o.qty-n:=by unfold RowKit.wrap64;omega
     go_enter Tryz.func119,Tryz.ntmps119
     go_wp2_with fail
     refine HC.out.mono ?_;rintro e w1 ⟨rfl,hb⟩;have hb2:=(hb.alloc hb.size (.cells #[.int .i64 o.id,.int .i64 o.side,.int .i64 o.kind,.int .i64 o.price,.int .i64 (o.qty-n)] 29));have hM2:=HM.out.below hb2;obtain⟨y0,y1,-,-,-,-⟩:=hM2.cells;have hset:=Kw6 (w:=(w1.alloc (.cells #[.int .i64 o.id,.int .i64 o.side,.int .i64 o.kind,.int .i64 o.price,.int .i64 (o.qty-n)] 29)).drew) (hM2.below (Below.drew (Below.refl _ _))).ar h1 h2 (by have:=HS_.out.hM _ Hx.out;dsimp only at this;rw[this];rfl) (U9 o n);unfold KQ U9 at hset;dsimp only at hset;have HSet:=QQ hset;have hl1:=Qy5 hM2.mp Hv.out;have hl2:=Qy5 (w:=(w1.alloc (.cells #[.int .i64 o.id,.int .i64 o.side,.int .i64 o.kind,.int .i64 o.price,.int .i64 (o.qty-n)] 29)).drew) (hM2.below (Below.drew (Below.refl _ _))).mp Hv.out;dsimp only at hl1 hl2;have HM2:=QQ (hM2.below (Below.drew (Below.refl _ _)));have hbx:=QJ.new w1 29 #[.int .i64 o.id,.int .i64 o.side,.int .i64 o.kind,.int .i64 o.price,.int .i64 (o.qty-n)];obtain⟨z0,z1,z2,z3,z4⟩:=I5 hbx;have hbl:=QJ.lt hM2.blk;have hpf:=fun(W:World) (c d e:Value)=>Xi0 W (.int .i64 h1) (.int .i64 h2) c d e
     have HB:=QQ (hb2.trans ((Below.drew (Below.refl _ _):Below _ _ (w1.alloc (.cells #[.int .i64 o.id,.int .i64 o.side,.int .i64 o.kind,.int .i64 o.price,.int .i64 (o.qty-n)] 29)).drew).mono hb2.size));clear hb hb2 hM2 hset hbx;go_wp2_with fail
     go_region_with (go_at_call 170;refine HSet.out.mono ?_;rintro e w5 ⟨rfl,hto⟩;have HT:=QQ hto;clear hto)
     all_goals go_wp2_with fail
     all_goals
      go_ret;obtain⟨F',reg',hM5,hB5⟩:=HM2.out.arena HT.out;exact .inr ⟨o,Hg.out,c1,c2,rfl,Za1 (x:=((h1,h2),o)) HS_.out Hx.out c1 (by dsimp only;omega) HG.out hM5 ((XW.of_below HB.out).trans hB5)⟩
end Go.Proofs.YtnlngicnfegjgaaGreatDoor
namespace Go.Proofs.YtnlngicnfegjgaaGreatDoor
open Go
section
variable {P:Program} {ops:Array Oper} {Q:Exit→Act→World→Prop} {md:Region.Mode} {S:World→Prop} {T:Nat→Bool}
def Z3 (P:Program) (md:Region.Mode) (ops:Array Oper) (Q:Exit→Act→World→Prop) (S:World→Prop) (T:Nat→Bool):Nat→Array Bool→Act→World→Prop
 |0,listed,a,w=>Region.ready md ops listed= []∧Q .normal a w
 |fuel+1,listed,a,w=>
  (Region.ready md ops listed= []→Q .normal a w)∧
  ∀i∈Region.ready md ops listed,wpOp P ops Q i (fun a' w'=>(T i=false→S w')∧Z3 P md ops Q S T fuel (listed.setIfInBounds i true) a' w') a w
theorem Qy6: ∀(fuel:Nat) (listed:Array Bool) (a:Act) (w:World),Z3 P md ops Q S T fuel listed a w→wpAny P md ops Q fuel listed a w
 |0,_,_,_,h=>h
 |fuel+1,_,_,_,h=>⟨h.1,fun i hi=>wpOp_mono (fun a' w' h'=>Qy6 fuel _ a' w' h'.2) (h.2 i hi)⟩
theorem Xi1 {i:Nat} {oi:Oper} {v:Value} (hi:ops[i]?=some oi) (hw: ∀t,T t=true→Region.waitsFor md ops t i=true) (hsel: ∀(j:Nat) (o:Oper) cs b,ops[j]?=some o→o.op≠ .select cs b)
  (hQ: ∀c a w,Q (.panic c) (a.put oi.dst v) w→Q (.panic c) a w):
  ∀(fuel:Nat) (listed:Array Bool) (a:Act) (w:World),
   (∀j oj,ops[j]?=some oj→j≠i→listed.getD j true=false→(∀e∈oj.after,Region.binds md e=true→e.on≠i)→oi.apart ops oj=true)→
   i∈Region.ready md ops listed→YieldsIf P ops S oi v a→S w→
   Z3 P md ops Q S T fuel (listed.setIfInBounds i true) (a.put oi.dst v) w→Z3 P md ops Q S T (fuel+1) listed a w:=by
 intro fuel
 induction fuel with
 |zero=>
  intro listed a w _ hr hy hS H;refine⟨fun h=>(by rw[h]at hr;cases hr),fun j hj=> ?_⟩
  by_cases hji:j=i
  ·subst hji;exact hy.wpOp hi hS ⟨fun _=>hS,H⟩
  ·have:=ready_mono hj hji
   rw[H.1]at this
   cases this
 |succ fuel ih=>
  intro listed a w hfree hr hy hS H;refine⟨fun h=>(by rw[h]at hr;cases hr),fun j hj=> ?_⟩
  by_cases hji:j=i
  ·subst hji;exact hy.wpOp hi hS ⟨fun _=>hS,H⟩
  ·have h1:=H.2 j (ready_mono hj hji)
   obtain⟨hjun,oj,hoj,hall⟩:=mem_ready.1 hj;have hnot: ∀e∈oj.after,Region.binds md e=true→e.on≠i:=fun e he hb heq=>by
    have h1:=hall e he hb;have h0:=(mem_ready.1 hr).1;rw[heq]at h1;rcases Nat.lt_or_ge i listed.size with h'|h'
    ·simp[h']at h0 h1;rw[h0]at h1;cases h1
    ·simp[Array.getElem?_eq_none h']at h1
   have hjt:T j=false:=by
    cases hT:T j with
    |false=>rfl
    |true=>
     exfalso
     obtain⟨o',ho',e,he,hb,hon⟩:=Region.waitsFor_spec (hw j hT);have:o'=oj:=Option.some.inj (ho'.symm.trans hoj);subst this;exact hnot e he hb hon
   have h2:=wpOp_putIf hoj (hfree j oj hoj hji hjun hnot) (fun cs b=>hsel i oi cs b hi) (fun cs b=>hsel j oj cs b hoj) hQ hy h1;have hfree': ∀k ok,ops[k]?=some ok→k≠i→(listed.setIfInBounds j true).getD k true=false→
     (∀e∈ok.after,Region.binds md e=true→e.on≠i)→oi.apart ops ok=true:=fun k ok hk hki hun hno=>by
    refine hfree k ok hk hki ?_ hno
    by_cases hjk:j=k
    ·subst hjk;exact hjun
    ·rw[getD_set_ne true hjk]at hun;exact hun
   refine wpOp_mono (fun a' w' h3=>⟨fun _=>h3.2.1 hjt,ih (listed.setIfInBounds j true) a' w' hfree' (ready_mono hr (Ne.symm hji)) h3.1 (h3.2.1 hjt) ?_⟩) h2;rw[Array.setIfInBounds_comm _ _ hji];exact h3.2.2
theorem Xr2 {i:Nat} {oi:Oper} {v:Value} {fuel:Nat} {listed:Array Bool} {a:Act} {w:World} (hi:ops[i]?=some oi) (hw: ∀t,T t=true→Region.waitsFor md ops t i=true)
  (hs:Region.noSelect ops=true) (hf:Region.free md ops listed i=true) (hr:(Region.ready md ops listed).contains i=true)
  (hQ: ∀c a w,Q (.panic c) (a.put oi.dst v) w→Q (.panic c) a w) (hy:YieldsIf P ops S oi v a) (hS:S w)
  (h:Z3 P md ops Q S T fuel (listed.setIfInBounds i true) (a.put oi.dst v) w):Z3 P md ops Q S T (fuel+1) listed a w:=
 Xi1 hi hw (Region.noSelect_spec hs) hQ fuel listed a w (Region.free_spec hi hf) (by simpa using hr) hy hS h
theorem Jv7 {rs:List Nat} {fuel:Nat} {listed:Array Bool} {a:Act} {w:World} (hr:Region.ready md ops listed=rs) (hne:rs≠ [])
  (h: ∀i∈rs,wpOp P ops Q i (fun a' w'=>(T i=false→S w')∧Z3 P md ops Q S T fuel (listed.setIfInBounds i true) a' w') a w):Z3 P md ops Q S T (fuel+1) listed a w:=
 ⟨fun h0=>absurd (hr▸h0) hne,hr▸h⟩
theorem ZZ {listed:Array Bool} {a:Act} {w:World} (hr:Region.ready md ops listed= []) (h:Q .normal a w):
  ∀fuel,Z3 P md ops Q S T fuel listed a w
 |0=>⟨hr,h⟩
 |_+1=>⟨fun _=>h,by rw[hr];simp⟩
theorem Jo8 {id:Nat} {a:Act} {w:World} (T:Nat→Bool) (S:World→Prop) (hm:P.follows .mixedOrders=true)
  (h:Z3 P .any ops Q S T ops.size (Array.replicate ops.size false) a {w with drawn:=w.drawn+1}):(Code.region id ops true).wp P Q a w:=
 wp_region_any hm (Qy6 _ _ _ _ h)
theorem XK {id:Nat} {a:Act} {w:World} (T:Nat→Bool) (S:World→Prop) (hm:P.follows .mixedOrders=true) (hS:S w.drew)
  (h:S w.drew→Z3 P .any ops Q S T ops.size (Array.replicate ops.size false) a w.drew):(Code.region id ops true).wp P Q a w:=Jo8 T S hm (h hS)
theorem Xr3 {l rest:List Oper} {i:Nat} {oi:Oper} (hl:l.drop i=oi::rest):l.toArray[i]?=some oi:=by
 have h:(l.drop i)[0]?=some oi:=by rw[hl];rfl
 rw[List.getElem?_drop]at h
 simpa using h
theorem Zb4 {l rest:List Oper} (i d:Nat) {oi:Oper} (v:Value) {ts:List Nat} {fuel:Nat} {listed:Array Bool} {a:Act} {w:World} (hl:l.drop i=oi::rest) (hd:oi.dst=some d) (hw:(ts.all fun t=>Region.waitsFor md l.toArray t i)=true)
  (hs:Region.noSelect l.toArray=true) (hf:Region.free md l.toArray listed i=true) (hr:(Region.ready md l.toArray listed).contains i=true)
  (hQ: ∀c a w,Q (.panic c) (a.put oi.dst v) w→Q (.panic c) a w) (hwn:Region.wanted oi (yielded l.toArray a.tmps)=true) (hy: ∀w,S w→(execOp a.eval oi).run P w= .ok (.value v) w) (hS:S w)
  (h:Z3 P md l.toArray Q S (fun t=>ts.contains t) fuel (listed.setIfInBounds i true) (a.put (some d) v) w):Z3 P md l.toArray Q S (fun t=>ts.contains t) (fuel+1) listed a w:=
 Xr2 (Xr3 hl) (fun t ht=>List.all_eq_true.1 hw t (by simpa using ht)) hs hf hr hQ (.inl ⟨hwn,hy⟩) hS (by rw[hd];exact h)
theorem Jo2 {S':World→Prop} (hS: ∀w,S' w→S w): ∀(fuel:Nat) {listed:Array Bool} {a:Act} {w:World},Z3 P md ops Q S' T fuel listed a w→Z3 P md ops Q S T fuel listed a w
 |0,_,_,_,h=>h
 |fuel+1,_,_,_,h=>⟨h.1,fun i hi=>wpOp_mono (fun a' w' h'=>⟨fun e=>hS _ (h'.1 e),Jo2 hS fuel h'.2⟩) (h.2 i hi)⟩
theorem opM {l rest:List Oper} (i:Nat) {o:Oper} {fuel:Nat} {listed:Array Bool} {a:Act} {w:World} (ho:l.drop i=o::rest)
  (h: ∀K':Act→World→Prop,(∀a w,(T i=false→S w)→Z3 P md l.toArray Q S T fuel (listed.setIfInBounds i true) a w→K' a w)→if Region.wanted o (yielded l.toArray a.tmps)=true then Oper.wp P o a w K' Q else K' (a.put o.dst undef) w):
  wpOp P l.toArray Q i (fun a' w'=>(T i=false→S w')∧Z3 P md l.toArray Q S T fuel (listed.setIfInBounds i true) a' w') a w:=
 wpOp_step (Xr3 ho) fun K' hK=>h K' (fun a w hS hw=>hK a w ⟨hS,hw⟩)
theorem Zb5 {i:Nat} {fuel:Nat} {listed:Array Bool} {a:Act} {w:World} (hr:Region.ready md ops listed= [i])
  (h:wpOp P ops Q i (fun a' w'=>(T i=false→S w')∧Z3 P md ops Q S T fuel (listed.setIfInBounds i true) a' w') a w):Z3 P md ops Q S T (fuel+1) listed a w:=
 Jv7 hr (by simp) (fun k hk=>by rw[List.mem_singleton]at hk;subst hk;exact h)
theorem Jo3 {i j:Nat} {fuel:Nat} {listed:Array Bool} {a:Act} {w:World} (hr:Region.ready md ops listed= [i,j])
  (h1:wpOp P ops Q i (fun a' w'=>(T i=false→S w')∧Z3 P md ops Q S T fuel (listed.setIfInBounds i true) a' w') a w)
  (h2:wpOp P ops Q j (fun a' w'=>(T j=false→S w')∧Z3 P md ops Q S T fuel (listed.setIfInBounds j true) a' w') a w):Z3 P md ops Q S T (fuel+1) listed a w:=
 Jv7 hr (by simp) (fun k hk=>by
  rw[List.mem_cons,List.mem_singleton]at hk;rcases hk with rfl|rfl
  ·exact h1
  ·exact h2)
theorem tM {l rest:List Oper} (i:Nat) (v:Value) {d:Nat} {oi:Oper} {ts:List Nat} {fuel:Nat} {listed listed':Array Bool} {a a':Act} {w:World}
  (h:Z3 P md l.toArray Q S (fun t=>ts.contains t) fuel listed' a' w)
  (hl:l.drop i=oi::rest:=by rfl) (hd:oi.dst=some d:=by rfl) (hw:(ts.all fun t=>Region.waitsFor md l.toArray t i)=true:=by kernel_rfl)
  (hs:Region.noSelect l.toArray=true:=by kernel_rfl) (hf:Region.free md l.toArray listed i=true:=by kernel_rfl) (hr:(Region.ready md l.toArray listed).contains i=true:=by kernel_rfl)
  (hQ: ∀c a w,Q (.panic c) (a.put oi.dst v) w→Q (.panic c) a w:=by exact fun _ _ _ h=>h) (hwn:Region.wanted oi (yielded l.toArray a.tmps)=true:=by rfl)
  (hy: ∀w,S w→(execOp a.eval oi).run P w= .ok (.value v) w:=by intro W hSw;go_simp) (hS:S w:=by first|trivial|assumption)
  (hp:a.put (some d) v=a':=by first|(simp only[Act.put,List.setIfInBounds_toArray,List.set_cons_zero,List.set_cons_succ];rfl)|rfl)
  (hli:listed.setIfInBounds i true=listed':=by first|(simp only[List.setIfInBounds_toArray,List.set_cons_zero,List.set_cons_succ];rfl)|rfl):Z3 P md l.toArray Q S (fun t=>ts.contains t) (fuel+1) listed a w:=
 Zb4 i d v hl hd hw hs hf hr hQ hwn hy hS (by rw[hp,hli];exact h)
theorem oM {l rest:List Oper} (i:Nat) {o:Oper} {fuel:Nat} {listed listed':Array Bool} {a:Act} {w:World}
  (h: ∀K':Act→World→Prop,(∀a w,(T i=false→S w)→Z3 P md l.toArray Q S T fuel listed' a w→K' a w)→if Region.wanted o (yielded l.toArray a.tmps)=true then Oper.wp P o a w K' Q else K' (a.put o.dst undef) w)
  (ho:l.drop i=o::rest:=by rfl) (hr:Region.ready md l.toArray listed= [i]:=by kernel_rfl)
  (hli:listed.setIfInBounds i true=listed':=by first|(simp only[List.setIfInBounds_toArray,List.set_cons_zero,List.set_cons_succ];rfl)|rfl):Z3 P md l.toArray Q S T (fuel+1) listed a w:=
 Zb5 hr (opM i ho (by rw[hli];exact h))
end
end Go.Proofs.YtnlngicnfegjgaaGreatDoor
