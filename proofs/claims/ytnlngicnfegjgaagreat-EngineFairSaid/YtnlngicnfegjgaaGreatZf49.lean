/- Contracts and walks that the law's proof needs. -/
import Derived.Test.YtnlngicnfegjgaaGreatZf42
set_option linter.unusedVariables false
set_option maxRecDepth 100000
set_option maxHeartbeats 8000000
namespace Go.Proofs.YtnlngicnfegjgaaGreat
open Go.RowKit
theorem Jx9 {p0 p:Int} (h:Ql6 (OK p0) p=true):p=2∨p=3∨p=5∨p=7:=by
 unfold Ql6 OK at h
 by_cases h1:p0=1
 ·simp[h1]at h;omega
 by_cases h2:p0=2
 ·simp[h2]at h;omega
 by_cases h3:p0=3
 ·simp[h3]at h;omega
 by_cases h5:p0=5
 ·simp[h5]at h;omega
 simp[h1,h2,h3,h5]at h
theorem Z4.five {ps:List (Int×Int)} (h:Z4 ps): ∀k,k<ps.length→(ps.getD k (0,0)).2=1∨(ps.getD k (0,0)).2=2∨(ps.getD k (0,0)).2=3∨(ps.getD k (0,0)).2=5∨(ps.getD k (0,0)).2=7
 |0,hk=> .inl (by rw[h.zero])
 |k+1,hk=>by
  have hw:=h.2.2 (k+1) hk;simp only[Q8,Qh0]at hw
  split at hw
  ·cases hw
  ·rename_i ha
   exact .inr (Jx9 (by simpa using ha))
theorem Xr2 {m:ZX} (h:Z4 m.rows) {t:Int} (ht:0≤t):VJ m t=1∨VJ m t=2∨VJ m t=3∨VJ m t=5∨VJ m t=7:=by
 have hz:(m.rows.getD 0 (0,0)).1≤t:=by rw[h.zero];exact ht
 obtain⟨k,hk,-,-,e⟩:=Xl5 m.rows t hz m.rows.length h.1 (Nat.le_refl _)
 unfold VJ
 rw[e]
 exact h.five k hk
structure YY (m m':ZX):Prop where
 rows:m'.rows=m.rows
 st:m'.st=m.st
 dy:m'.dy=m.dy
 tk:m'.tk=m.tk
 mo:m'.mo=m.mo
theorem YY.refl (m:ZX):YY m m:=⟨rfl,rfl,rfl,rfl,rfl⟩
theorem YY.trans {m m1 m2:ZX} (h:YY m m1) (k:YY m1 m2):YY m m2:=⟨k.rows.trans h.rows,k.st.trans h.st,k.dy.trans h.dy,k.tk.trans h.tk,k.mo.trans h.mo⟩
theorem Xd7 (m:ZX):YY m (Qg6 m):=by
 obtain⟨e1,e2,e3,e4,e5,e6,e7,e8,e9,e10,e11,e12,e13⟩:=Qc2 m.pk {m with ph:=5}
 exact⟨e1,e2,e3,e4,e5⟩
theorem Xr3 (m:ZX):YY m (Qe1 m):=by unfold Qe1;split<;>exact⟨rfl,rfl,rfl,rfl,rfl⟩
theorem Jv7 (m:ZX):YY m (Qa3 m):=by
 unfold Qa3
 split
 ·split
  ·exact⟨rfl,rfl,rfl,rfl,rfl⟩
  ·split
   ·exact Xd7 m
   ·exact⟨rfl,rfl,rfl,rfl,rfl⟩
 ·exact YY.refl m
theorem Qt9 (m:ZX) (id:Int):YY m (YJ m id):=by
 unfold YJ
 split
 ·exact YY.refl m
 ·split<;>exact⟨rfl,rfl,rfl,rfl,rfl⟩
theorem Qu0 (m:ZX) (o:QX):YY m (IQ m o)∧(IQ m o).now=m.now∧(((IQ m o).ph=m.ph∧(IQ m o).ends=m.ends∧(IQ m o).lng=m.lng)∨(m.ph=3∧(IQ m o).ph=4∧(IQ m o).ends=m.now+m.tk∧(IQ m o).lng=0)):=by
 unfold IQ
 split
 ·unfold Qe4
  split
  ·exact⟨⟨rfl,rfl,rfl,rfl,rfl⟩,rfl,.inl ⟨rfl,rfl,rfl⟩⟩
  ·split
   ·exact⟨⟨rfl,rfl,rfl,rfl,rfl⟩,rfl,.inl ⟨rfl,rfl,rfl⟩⟩
   ·rename_i h3
    have e3:m.ph=3:=by
     have: ¬m.ph≠3:=h3;omega
    obtain⟨M,hM⟩: ∃M,VK (YX m (JJ o)) (JJ o)=M:=⟨_,rfl⟩;have hM2:YY m M∧M.now=m.now∧M.ph=m.ph∧M.ends=m.ends∧M.lng=m.lng:=by
     rw[←hM];unfold VK
     split<;>exact⟨⟨rfl,rfl,rfl,rfl,rfl⟩,rfl,rfl,rfl,rfl⟩
    obtain⟨a1,a2,a3,a4,a5⟩:=hM2;unfold Z1;rw[hM]
    split
    ·exact⟨a1.trans ⟨rfl,rfl,rfl,rfl,rfl⟩,a2,.inr ⟨e3,rfl,by show M.now+M.tk=_;rw[a2,a1.tk],rfl⟩⟩
    ·exact⟨a1,a2,.inl ⟨a3,a4,a5⟩⟩
 ·exact⟨YY.refl m,rfl,.inl ⟨rfl,rfl,rfl⟩⟩
theorem Kj3 (m:ZX) (p:Int):YY m (X6 m p):=by
 unfold X6
 split
 ·exact⟨rfl,rfl,rfl,rfl,rfl⟩
 ·split
  ·exact Xd7 m
  ·exact⟨rfl,rfl,rfl,rfl,rfl⟩
theorem Xy7 (m:ZX):YY m (OV m):=by
 unfold OV
 split
 ·exact⟨rfl,rfl,rfl,rfl,rfl⟩
 ·split<;>exact⟨rfl,rfl,rfl,rfl,rfl⟩
theorem Qy7 (m:ZX):YY m (J2 m):=by
 unfold J2
 split
 ·exact YY.refl m
 ·have h0:YY m (JY m):=⟨rfl,rfl,rfl,rfl,rfl⟩
  unfold I0
  split
  ·split<;>exact⟨rfl,rfl,rfl,rfl,rfl⟩
  ·split
   ·exact h0
   ·split
    ·exact h0.trans (Kj3 _ _)
    ·split
     ·exact h0.trans (Xy7 _)
     ·exact h0
theorem Kj4 (m:ZX) (p:Int):(X6 m p).now=m.now:=by
 unfold X6
 split
 ·rfl
 ·split
  ·exact(Qc2 m.pk {m with ph:=5}).2.2.2.2.2.2.2.2.2.2.1
  ·rfl
theorem Xr4 (m:ZX) (p:Int):(X6 m p).ph=p:=by
 unfold X6
 split
 ·rename_i h;exact h.symm
 ·split
  ·rename_i h;rw[Qr4];exact h.symm
  ·rfl
theorem Xy8 (m:ZX):(OV m).now=m.now:=by
 unfold OV
 split
 ·rfl
 ·split<;>rfl
theorem Jh7 (m:ZX):(J2 m).now=if m.ph=7 then m.now else m.now+1:=by
 unfold J2
 split
 ·rfl
 ·unfold I0
  split
  ·split<;>rfl
  ·split
   ·rfl
   ·split
    ·exact Kj4 _ _
    ·split
     ·exact Xy8 _
     ·rfl
structure V8 (m:ZX) (since:Int):Prop where
 vol:m.ph=4→since+ (m.ends-m.now)=m.tk* (m.lng+1)∧0<m.ends-m.now∧m.lng≤m.mo
 non:m.ph≠4→since=0
theorem V8.lt {m:ZX} {since:Int} (h:V8 m since) (hk:VW m):since<m.tk* (1+m.mo):=by
 have h1:=hk.tk.1
 have h2:=hk.mo.1
 by_cases h4:m.ph=4
 ·obtain⟨a1,a2,a3⟩:=h.vol h4
  have:m.tk* (m.lng+1)≤m.tk* (1+m.mo):=Int.mul_le_mul_of_nonneg_left (by omega) (by omega);omega
 ·rw[h.non h4]
  exact Int.mul_pos (by omega) (by omega)
def Xy9 (m:ZX) (since:Int):Int:=if(J2 m).ph=4 then(if m.ph=4 then since+1 else since)else 0
theorem V8.tick {m:ZX} {since:Int} (h:V8 m since) (hk:VW m) (hn:0≤m.now):V8 (J2 m) (Xy9 m since):=by
 refine⟨fun h4=> ?_,fun h4=>if_neg h4⟩
 unfold Xy9
 rw[if_pos h4]
 have hcfg:=Qy7 m
 have hnow:=Jh7 m
 unfold J2 at h4 hnow hcfg⊢
 by_cases h7:m.ph=7
 ·rw[if_pos h7]at h4;omega
 ·rw[if_neg h7]at h4 hnow hcfg⊢
  rw[if_neg h7]at hnow;unfold I0 at h4 hnow hcfg⊢
  by_cases e7:VJ (JY m) (JY m).now=7
  ·rw[if_pos e7]at h4
   exact absurd h4 (by show¬((7:Int)=4);omega)
  ·rw[if_neg e7]at h4 hnow hcfg⊢
   by_cases e6:(JY m).ph=6
   ·rw[if_pos e6]at h4
    have e6:m.ph=6:=e6;have h4:m.ph=4:=h4;omega
   ·rw[if_neg e6]at h4 hnow hcfg⊢
    by_cases ew:VJ m m.now≠VJ (JY m) (JY m).now
    ·rw[if_pos ew,Xr4]at h4
     have:=Xr2 (m:=JY m) hk.tab (t:=(JY m).now) (by show 0≤m.now+1;omega);omega
    ·rw[if_neg ew]at h4 hnow hcfg⊢
     by_cases e4:(JY m).ph=4∧(JY m).ends≤(JY m).now
     ·rw[if_pos e4]at h4 hnow hcfg⊢
      have m4:m.ph=4:=e4.1;have me:m.ends≤m.now+1:=e4.2;obtain⟨a1,a2,a3⟩:=h.vol m4;rw[if_pos m4];unfold OV at h4⊢
      by_cases hc:Jg9 (JY m)
      ·rw[if_pos hc]at h4
       exact absurd h4 (by show¬((3:Int)=4);omega)
      ·rw[if_neg hc]at h4⊢
       by_cases hl:(JY m).lng< (JY m).mo
       ·rw[if_pos hl]
        have hl:m.lng<m.mo:=hl;have htk:=hk.tk.1;refine⟨?_, ?_, ?_⟩
        ·show since+1+ ((m.now+1+m.tk)- (m.now+1))=m.tk* (m.lng+1+1)
         rw[Int.mul_add m.tk (m.lng+1) 1];omega
        ·show 0< (m.now+1+m.tk)- (m.now+1)
         omega
        ·show m.lng+1≤m.mo
         omega
       ·rw[if_neg hl]at h4
        exact absurd h4 (by show¬((6:Int)=4);omega)
     ·rw[if_neg e4]at h4⊢
      have m4:m.ph=4:=h4;obtain⟨a1,a2,a3⟩:=h.vol m4;have me: ¬m.ends≤m.now+1:=fun e=>e4 ⟨m4,e⟩
      rw[if_pos m4];refine⟨?_, ?_,a3⟩
      ·show since+1+ (m.ends- (m.now+1))=m.tk* (m.lng+1)
       omega
      ·show 0<m.ends- (m.now+1)
       omega
theorem V8.order {m:ZX} {since:Int} (h:V8 m since) (hk:VW m) (o:QX):V8 (IQ m o) since:=by
 obtain⟨hc,hn,⟨a1,a2,a3⟩|⟨b0,b1,b2,b3⟩⟩:=Qu0 m o
 ·refine⟨fun h4=> ?_,fun h4=> ?_⟩
  ·rw[a2,a3,hn,hc.tk,hc.mo];exact h.vol (a1▸h4)
  ·exact h.non (a1▸h4)
 ·refine⟨fun _=> ?_,fun h4=>absurd b1 h4⟩
  rw[b2,b3,hn,hc.tk,hc.mo,h.non (by omega)];have:=hk.tk.1;have:=hk.mo.1;refine⟨?_,by omega,by omega⟩;rw[Int.mul_add,Int.mul_zero,Int.mul_one];omega
theorem Qy8 (m:ZX) (id:Int):(YJ m id).ph=m.ph∧(YJ m id).now=m.now∧(YJ m id).ends=m.ends∧(YJ m id).lng=m.lng:=by
 unfold YJ
 split
 ·exact⟨rfl,rfl,rfl,rfl⟩
 ·split<;>exact⟨rfl,rfl,rfl,rfl⟩
theorem V8.cancel {m:ZX} {since:Int} (h:V8 m since) (id:Int):V8 (YJ m id) since:=by
 obtain⟨a1,a2,a3,a4⟩:=Qy8 m id
 have hc:=Qt9 m id
 refine⟨fun h4=> ?_,fun h4=> ?_⟩
 ·rw[a2,a3,a4,hc.tk,hc.mo];exact h.vol (a1▸h4)
 ·exact h.non (a1▸h4)
structure Y3 (m:ZX):Prop where
 now:0≤m.now
 ended:m.ph=7↔VJ m m.now=7
 none_:m.ph=7→m.L1= []∧m.L2= []∧m.pk= []
theorem Y3.of {m m':ZX} (h:Y3 m) (hc:YY m m') (hn:m'.now=m.now) (hp:m'.ph=7↔m.ph=7) (hl:m'.ph=7→m'.L1= []∧m'.L2= []∧m'.pk= []):Y3 m':=by
 refine⟨by rw[hn];exact h.now, ?_,hl⟩
 rw[hp,h.ended]
 unfold VJ
 rw[hc.rows,hn]
theorem Y3.order {m:ZX} (h:Y3 m) (o:QX):Y3 (IQ m o):=by
 obtain⟨hc,hn,hp⟩:=Qu0 m o
 refine h.of hc hn ?_ ?_
 ·rcases hp with⟨a1,-,-⟩|⟨b0,b1,-,-⟩
  ·rw[a1]
  ·omega
 ·intro e7
  have m7:m.ph=7:=by
   rcases hp with⟨a1,-,-⟩|⟨b0,b1,-,-⟩
   ·rw[←a1];exact e7
   ·omega
  have e:IQ m o=m:=by
   unfold IQ;rw[if_neg];intro he;have:=(Qy4 he).2.2.1;rw[m7]at this;unfold Qh2 at this;simp at this
  rw[e];exact h.none_ m7
theorem Y3.cancel {m:ZX} (h:Y3 m) (id:Int):Y3 (YJ m id):=by
 obtain⟨a1,a2,a3,a4⟩:=Qy8 m id
 refine h.of (Qt9 m id) a2 (by rw[a1]) (fun e7=> ?_)
 have m7:m.ph=7:=a1▸e7
 have e:YJ m id=m:=if_pos m7
 rw[e]
 exact h.none_ m7
theorem Y3.halt {m:ZX} (h:Y3 m):Y3 (Qe1 m):=by
 unfold Qe1
 by_cases h67:m.ph=6∨m.ph=7
 ·rw[if_pos h67];exact h
 ·rw[if_neg h67]
  refine h.of ⟨rfl,rfl,rfl,rfl,rfl⟩ rfl ⟨fun e=>absurd e (by show¬((6:Int)=7);omega),fun e=>absurd (.inr e) h67⟩ (fun e=>absurd e (by show¬((6:Int)=7);omega))
theorem Y3.open_ {m:ZX} (h:Y3 m):Y3 (Qa3 m):=by
 have hcf:=Jv7 m
 unfold Qa3 at hcf⊢
 by_cases h6:m.ph=6
 ·rw[if_pos h6]at hcf⊢
  have n7:VJ m m.now≠7:=fun e=>by have:=h.ended.2 e;omega
  by_cases h3:VJ m m.now=3
  ·rw[if_pos h3]at hcf⊢
   exact h.of hcf rfl ⟨fun e=>absurd e (by show¬((4:Int)=7);omega),fun e=>by omega⟩ (fun e=>absurd e (by show¬((4:Int)=7);omega))
  ·rw[if_neg h3]at hcf⊢
   by_cases h5:VJ m m.now=5
   ·rw[if_pos h5]at hcf⊢
    have hnow:(Qg6 m).now=m.now:=(Qc2 m.pk {m with ph:=5}).2.2.2.2.2.2.2.2.2.2.1;exact h.of hcf hnow ⟨fun e=>(by rw[Qr4]at e;cases e),fun e=>(by omega)⟩ (fun e=>(by rw[Qr4]at e;cases e))
   ·rw[if_neg h5]at hcf⊢
    exact h.of hcf rfl ⟨fun e=>absurd e n7,fun e=>by omega⟩ (fun e=>absurd e n7)
 ·rw[if_neg h6];exact h
theorem Y3.tick {m:ZX} (h:Y3 m):Y3 (J2 m):=by
 have hn:=Jh7 m
 have hc:=Qy7 m
 have hpm:VJ (J2 m) (J2 m).now=VJ m (J2 m).now:=by unfold VJ;rw[hc.rows]
 by_cases h7:m.ph=7
 ·have e:J2 m=m:=if_pos h7
  rw[e];exact h
 ·rw[if_neg h7]at hn
  have key:((J2 m).ph=7↔VJ m (m.now+1)=7)∧((J2 m).ph=7→(J2 m).L1= []∧(J2 m).L2= []∧(J2 m).pk= []):=by
   unfold J2;rw[if_neg h7];unfold I0
   by_cases e7:VJ (JY m) (JY m).now=7
   ·rw[if_pos e7]
    exact⟨⟨fun _=>e7,fun _=>rfl⟩,fun _=>⟨rfl,rfl,rfl⟩⟩
   ·rw[if_neg e7]
    have no: ∀ {K:ZX},K.ph≠7→(K.ph=7↔VJ m (m.now+1)=7)∧(K.ph=7→K.L1= []∧K.L2= []∧K.pk= []):=fun hK=>⟨⟨fun e=>absurd e hK,fun e=>absurd e e7⟩,fun e=>absurd e hK⟩
    by_cases e6:(JY m).ph=6
    ·rw[if_pos e6]
     exact no (by rw[e6];decide)
    ·rw[if_neg e6]
     by_cases ew:VJ m m.now≠VJ (JY m) (JY m).now
     ·rw[if_pos ew]
      exact no (by rw[Xr4];exact e7)
     ·rw[if_neg ew]
      by_cases e4:(JY m).ph=4∧(JY m).ends≤(JY m).now
      ·rw[if_pos e4]
       refine no ?_;unfold OV
       split
       ·exact fun e=>absurd e (by show¬((3:Int)=7);omega)
       ·split
        ·show¬m.ph=7;exact h7
        ·exact fun e=>absurd e (by show¬((6:Int)=7);omega)
      ·rw[if_neg e4]
       exact no h7
  refine⟨by rw[hn];have:=h.now;omega, ?_,key.2⟩;rw[hpm,hn];exact key.1
end Go.Proofs.YtnlngicnfegjgaaGreat
