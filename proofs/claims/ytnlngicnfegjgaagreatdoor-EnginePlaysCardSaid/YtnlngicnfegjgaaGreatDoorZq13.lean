/- Parts. -/
import Derived.Test.YtnlngicnfegjgaaGreatDoorZq3
import Derived.Test.YtnlngicnfegjgaaGreatDoorZq12
set_option linter.unusedVariables false
set_option maxRecDepth 100000
set_option maxHeartbeats 8000000
open Go.Proofs.Tryz
open Go.Value renaming int→I,pointer→IP
open Go.IntKind renaming i64→O
namespace Go.Proofs.YtnlngicnfegjgaaGreatDoor
open Go.RowKit
def L5 (l:List X4) (s:Int):Int:=l.foldl (fun s x=>s+x.2.1) s
def KM (l:List X4) (s:Int):Int:=l.foldl (fun s x=>s+x.2.2) s
theorem Gl l x s:L5 (l++ [x]) s=L5 l s+x.2.1:=by unfold L5;rw[CL];rfl
theorem Qq2 l x s:KM (l++ [x]) s=KM l s+x.2.2:=by unfold KM;rw[CL];rfl
theorem Er l (h: ∀x∈l,0<=x.2.1/\x.2.1<=1000000000000): ∀s,s<=L5 l s/\L5 l s<=s+1000000000000*l.length:=by
 induction l with
 |nil=>intro s;unfold L5;simp
 |cons x t i=>
  intro s;have h1:=h x (by simp);have h2:=i (fun y hy=>h y (by simp[hy])) (s+x.2.1);unfold L5 at*;rw[QZ,XX];omega
theorem Qh5 l (h: ∀x∈l,0<=x.2.2/\x.2.2<=1000000000000): ∀s,s<=KM l s/\KM l s<=s+1000000000000*l.length:=by
 induction l with
 |nil=>intro s;unfold KM;simp
 |cons x t i=>
  intro s;have h1:=h x (by simp);have h2:=i (fun y hy=>h y (by simp[hy])) (s+x.2.2);unfold KM at*;rw[QZ,XX];omega
structure BG (lv:List X4) (bu se:Int):Prop where
 b:0<=bu/\bu<=1000000000000
 s:0<=se/\se<=1000000000000
 lb: ∀x∈lv,0<=x.2.1/\x.2.1<=1000000000000
 ls: ∀x∈lv,0<=x.2.2/\x.2.2<=1000000000000
 n:lv.length<=99999
theorem BG.b_bound {lv bu se} (h:BG lv bu se) k:0<=L5 (lv.take k) bu/\L5 (lv.take k) bu<=200000000000000000:=by
 have h1:=Er (lv.take k) (fun x i=>h.lb x (AT i)) bu
 have h2:=h.n
 have j:=h.b
 have u:=List.length_take_le' k lv
 omega
theorem BG.s_bound {lv bu se} (h:BG lv bu se) k:0<=KM (lv.take k) se/\KM (lv.take k) se<=200000000000000000:=by
 have h1:=Qh5 (lv.take k) (fun x i=>h.ls x (AT i)) se
 have h2:=h.n
 have j:=h.s
 have u:=List.length_take_le' k lv
 omega
def EK (more:Int) (told:Bool) (x:X4):Bool:=told ||decide (more<=x.1)
def EZ (more d s:Int) (told:Bool) (x:X4) (out:List X4):List X4:=if told=false/\more<x.1 then out++ [(more,d,s)]else out
structure Zi where
 d:Int
 s:Int
 told:Bool
 out:List X4
def PZ (more:Int) (s:Zi) (x:X4):Zi:=⟨s.d-x.2.1,s.s+x.2.2,EK more s.told x,EZ more s.d s.s s.told x s.out++ [(x.1,s.d,s.s+x.2.2)]⟩
def P1 (lv:List X4) (bu se more:Int) (l:List X4):Zi:=l.foldl (PZ more) ⟨L5 lv bu,se,decide (more<1),[]⟩
def XM (lv:List X4) (bu se more:Int):List X4:=let s:=P1 lv bu se more lv;if s.told=false then s.out++ [(more,s.d,s.s)]else s.out
theorem Md lv bu se more l x:P1 lv bu se more (l++ [x])=PZ more (P1 lv bu se more l) x:=by unfold P1;rw[CL];rfl
theorem Rh lv bu se more l:(P1 lv bu se more l).d=L5 lv bu- (L5 l 0):=by
 have key: ∀l s,(l.foldl (PZ more) s).d=s.d-L5 l 0:=by
  intro l
  induction l with
  |nil=>intro s;unfold L5;simp
  |cons x t C=>
   intro s;rw[QZ,C];have D: ∀t a,L5 t a=a+L5 t 0:=by
    intro t
    induction t with
    |nil=>intro a;unfold L5;simp
    |cons y u i=>
     intro a;have j:=i (a+y.2.1);have v:=i (0+y.2.1);unfold L5 at*;rw[QZ,QZ,j,v];omega
   have h1:=D t (0+x.2.1);have h2:L5 (x::t) 0=L5 t (0+x.2.1):=rfl;rw[h2,h1];show s.d-x.2.1-_=_;omega
 exact key l _
theorem Ay lv bu se more l:(P1 lv bu se more l).s=KM l se:=by
 have key: ∀l s,(l.foldl (PZ more) s).s=KM l s.s:=by
  intro l
  induction l with
  |nil=>intro s;rfl
  |cons x t i=>intro s;rw[QZ,i];rfl
 exact key l _
theorem BG.ptd {lv bu se} (h:BG lv bu se) more k: -300000000000000000<=(P1 lv bu se more (lv.take k)).d/\(P1 lv bu se more (lv.take k)).d<=300000000000000000:=by
 rw[Rh]
 have h1:=h.b_bound lv.length
 rw[List.take_length]at h1
 have h2:=Er (lv.take k) (fun x i=>h.lb x (AT i)) 0
 have j:=h.n
 have u:=List.length_take_le' k lv
 omega
theorem BG.pts {lv bu se} (h:BG lv bu se) more k:0<=(P1 lv bu se more (lv.take k)).s/\(P1 lv bu se more (lv.take k)).s<=300000000000000000:=by
 rw[Ay]
 have h1:=h.s_bound k
 omega
theorem Ja2:(prog.info? 244).map (fun i=>(i.zero,i.size,i.bytes))=some (some (.agg #[I O 0,I O 0,I O 0]),3,24):=by kernel_rfl
theorem Qh6 w X t cs o A c lv bu se (h:XQ w X t cs o A c lv bu se) (hs:BG lv bu se) more:
  Calls prog 113 #[IP (some ⟨X,o,none⟩),I O more] w fun e w'=>Below w.heap.size w w'/\ ∃A' c',e= .returned (.slice A' (XM lv bu se more).length c')/\J2 w' A' (XM lv bu se more).length c' 244 3 (Q9 X8 (XM lv bu se more)):=by
 obtain⟨y0,y1,y2⟩:=h.cells
 obtain⟨n,hn⟩:=exq lv.length
 rw[hn]at y0
 have hr:=h.row
 rw[hn]at hr
 have hXl:=J5 h.blk
 have H:=Q0 h
 have HR:=Q0 hr
 have HN:=Q0 hn
 have HS:=Q0 hs
 have hn1:n<=99999:=by have:=hs.n;omega
 clear h hr hn hs
 go_enter func113,ntmps113
 go_wp2_with fail
 go_region
 go_wp2_with fail
 go_loopg [5,26] n (fun gg s5 s26 wx=> ∃k,k<=n/\gg=n-k/\s26=I O k/\s5=I O (L5 (lv.take k) bu)/\Below w.heap.size w wx)
 case atStart=>exact⟨0,V5 _,rfl,rfl,rfl,by first|exact J3 (Q2 _ _)|exact Q2 _ _⟩
 obtain⟨k,hk,rfl,rfl,rfl,hB⟩:=hrel
 by_cases hlt:k<n
 ·have hkl:k<lv.length:=by have:=HN.out;omega
  obtain⟨g,hA,-⟩:=HR.elem E6 (by omega) hkl;subst hA;obtain⟨x0,x1,x2⟩:=WE (HR.below hB) hkl;have hltz:(k:Int)< (n:Int):=by omega
  have hk0:(0:Int)<=(k:Int):=by omega
  have HT:=Q0 (M8 hkl);have hb1:=HS.b_bound k;have hb2:=HS.b_bound (k+1);rw[HT.out,Gl]at hb2;have hi1:RowKit.wrap64 (L5 (lv.take k) bu+lv[k].2.1)=L5 (lv.take k) bu+lv[k].2.1:=by unfold RowKit.wrap64;omega
  have HI:Hid (L5 (lv.take (k+1)) bu=L5 (lv.take k) bu+lv[k].2.1):=Q0 (by rw[HT.out,Gl]);have HB:=Q0 (hB.alloc hB.size (.cells #[I O lv[k].1,I O lv[k].2.1,I O lv[k].2.2] 252));generalize L5 (lv.take k) bu=S at hi1 HI|-;generalize lv[k].1=q0 at x0 HB;generalize lv[k].2.1=q1 at x1 hi1 HI HB;generalize lv[k].2.2=q2 at x2 HB;clear hb1 hb2 hB;go_wp2_with fail
  go_roundg (n- (k+1))
  case measure=>omega
  exact⟨k+1,by omega,rfl,by go_num,by rw[HI.out];first|rfl|rw[hi1],HB⟩
 obtain rfl:n=k:=by omega
 have hltz: ¬(n:Int)< (n:Int):=by omega
 have etk:lv.take n=lv:=N7 (by rw[HN.out];exact Q4 _)
 rw[etk]
 have hD:L5 lv bu=(P1 lv bu se more []).d:=rfl
 rw[hD]
 obtain⟨wo,rfl⟩: ∃wo,wo=wr:=⟨_,rfl⟩
 have y0':=(hB.cell (p:=⟨X,o,none⟩) hXl).trans y0
 have HB:=Q0 hB
 obtain⟨tb,htb⟩:=exq (decide (more<1))
 have HTb:=Q0 (show tb=(P1 lv bu se more []).told from htb.symm)
 clear hB etk hD y1 y2
 go_wp2_with fail
 obtain⟨i0,hi0,hz0,hz1,hz2⟩:=N0 Ja2
 go_loopg [5,6,9,10,42] n (fun gg s5 s6 s9 s10 s42 wx=> ∃k A9 n9 c9,k<=n/\gg=n-k/\s42=I O k/\s5=I O (P1 lv bu se more (lv.take k)).d/\s6=I O (P1 lv bu se more (lv.take k)).s/\s10= .bool (P1 lv bu se more (lv.take k)).told/\s9= .slice A9 n9 c9/\n9<=2*k/\Below wo.heap.size wo wx/\J2 wx A9 n9 c9 244 3 (Q9 X8 (P1 lv bu se more (lv.take k)).out)/\ ∀g,Q7 A9=some g->wo.heap.size<=g)
 case atStart=>exact⟨0,none,0,0,V5 _,rfl,rfl,rfl,rfl,by rw[HTb.out];rfl,rfl,Q4 _,Q2 _ _,JX _ _ _ _,by simp[Q7]⟩
 obtain⟨j,A9,n9,c9,hj,rfl,rfl,rfl,rfl,rfl,rfl,hn9,hB,hR9,hup⟩:=hrel
 have dd0:=HS.ptd more j
 have ss0:=HS.pts more j
 have hdr: ∀b,b=true\/b=false:=fun b=>by cases b<;>simp
 by_cases hlt2:j<n
 ·have hkl:j<lv.length:=by have:=HN.out;omega
  obtain⟨g,hA,-⟩:=HR.elem E6 (by omega) hkl;subst hA;obtain⟨x0,x1,x2⟩:=WE (HR.below (HB.trans (hB.mono HB.size))) hkl;have hltz2:(j:Int)< (n:Int):=by omega
  have hk0:(0:Int)<=(j:Int):=by omega
  have HT:=Q0 (M8 hkl);have HP:=Q0 (show P1 lv bu se more (lv.take (j+1))=PZ more (P1 lv bu se more (lv.take j)) lv[j] by rw[HT.out,Md]);have dd1:=HS.ptd more (j+1);have ss1:=HS.pts more (j+1);rw[HP.out]at dd1 ss1;obtain⟨⟨d,su,td,out⟩,E⟩: ∃st,Hid (P1 lv bu se more (lv.take j)=st):=⟨_,Q0 rfl⟩;rw[E.out]at dd0 ss0 dd1 ss1 hR9 HP|-;dsimp only at dd0 ss0 hR9|-;unfold PZ at dd1 ss1;dsimp only at dd1 ss1;obtain⟨⟨q0,q1,q2⟩,EQ⟩: ∃q,Hid (lv[j]=q):=⟨_,Q0 rfl⟩;rw[EQ.out]at x0 x1 x2 dd1 ss1 HP;dsimp only at x0 x1 x2 dd1 ss1;have i1:RowKit.wrap64 (su+q2)=su+q2:=by unfold RowKit.wrap64;omega
  have i2:RowKit.wrap64 (d-q1)=d-q1:=by unfold RowKit.wrap64;omega
  obtain⟨w1,hw1⟩:=exq (wr.alloc (.cells #[I O q0,I O q1,I O q2] 252));obtain⟨bx,hbx⟩:=exq wr.heap.size;have hX1:=J9 wr 252 #[I O q0,I O q1,I O q2];have hb1:=hB.alloc hB.size (.cells #[I O q0,I O q1,I O q2] 252);have hr1:=hR9.below ((Q2 _ wr).alloc (Q4 _) (.cells #[I O q0,I O q1,I O q2] 252));rw[hw1]at hX1 hb1 hr1;rw[hbx]at hX1;have hbxo:wo.heap.size<=bx:=by rw[<-hbx];exact hB.size
  have hbnA:Q7 A9≠some bx:=fun e=>by have h2:=hR9.lt e;omega
  have HX1:=Q0 hX1;have HB1:=Q0 hb1;have HR1:=Q0 hr1;have HUp:=Q0 hup;have HJ:=Q0 hn9;have b0:w1.cell? ⟨bx,0,none⟩=some (I O q0):=by rw[J0 hX1];rfl
  clear dd0 ss0 dd1 ss1 hX1 hb1 hr1 hR9 hup hB hn9 y0';obtain⟨cb,hcb⟩:=exq (!td &&decide (more<=q0));go_upto_region 12 with fail
  clear hw1 hbx x0 x1 x2
  go_cut [53] (fun s53 wx=>s53= .bool cb/\wx=w1)
  case first=>
   cases td with
   |true=>
    have HE:=Q0 (show false=cb by rw[<-hcb];rfl);clear hcb;go_wp2_with fail
    go_meet;exact⟨by rw[HE.out],rfl⟩
   |false=>
    by_cases m1:more<=q0
    ·have d1:=Z5 m1
     have HE:=Q0 (show true=cb by rw[<-hcb,d1];rfl);clear hcb m1;go_wp2_with fail
     go_meet;exact⟨by rw[HE.out],rfl⟩
    have d1:=Z1 m1;have HE:=Q0 (show false=cb by rw[<-hcb,d1];rfl);clear hcb m1;go_wp2_with fail
    go_meet;exact⟨by rw[HE.out],rfl⟩
  obtain⟨rfl,rfl⟩:=hcut;obtain⟨w1,rfl⟩: ∃w1,w1=wc:=⟨_,rfl⟩;have HCb:=Q0 hcb;clear hcb;go_upto_if 53 with fail
  go_cut [9,10] (fun s9 s10 wx=> ∃A1 n1 c1,s9= .slice A1 n1 c1/\s10= .bool (EK more td (q0,q1,q2))/\n1<=2*j+1/\Below wo.heap.size wo wx/\J2 wx A1 n1 c1 244 3 (Q9 X8 (EZ more d su td (q0,q1,q2) out))/\(∀g,Q7 A1=some g->wo.heap.size<=g/\g≠bx)/\Q1 wx bx 252 #[I O q0,I O q1,I O q2])
  case first=>
   cases cb with
   |false=>
    have HE1:=Q0 (show EK more td (q0,q1,q2)=td by unfold EK;have:=HCb.out;cases td<;>simp at this|-;exact this);have HE2:=Q0 (show EZ more d su td (q0,q1,q2) out=out by unfold EZ;rw[Q3];rintro⟨rfl,h2⟩;have:=HCb.out;simp at this;dsimp only at h2;omega);go_wp2_with fail
    go_meet;exact⟨A9,n9,c9,rfl,by rw[HE1.out],by have:=HJ.out;omega,HB1,by rw[HE2.out];exact HR1,fun g hg=>⟨HUp g hg,fun e=>hbnA (by rw[hg,e])⟩,HX1⟩
   |true=>
    obtain⟨rfl,hmq⟩:td=false/\more<=q0:=by have:=HCb.out;cases td<;>simp at this;exact⟨rfl,this⟩
    have HE1:=Q0 (show EK more false (q0,q1,q2)=true by unfold EK;simp;exact hmq)
    by_cases m2:more<q0
    ·have d2:=Z5 m2
     have HE2:=Q0 (show EZ more d su false (q0,q1,q2) out=out++ [(more,d,su)] by unfold EZ;rw[Q5 ⟨rfl,m2⟩]);have HOa:=Q0 (show World.ownsRow (w1.alloc (.cells #[I O more,I O d,I O su] 244)) 0 244 3 (.slice A9 n9 c9) n9 (Q9 X8 out)from HR1.below ((Q2 _ w1).alloc (Q4 _) _));have HNWa:=Q0 (S5 w1 (.cells #[I O more,I O d,I O su] 244));have hxb:=G7 HX1 (.cells #[I O more,I O d,I O su] 244);have HXb:=Q0 hxb;have hbxl:=J5 HX1;have HBa:=Q0 (HB1.alloc HB1.size (.cells #[I O more,I O d,I O su] 244));have hn9':n9<=300000:=by have:=HJ.out;omega
     have hsz1:=HB1.size;clear m2 hmq hxb;go_wp2_with (at_builtin;(refine ZL _ rfl _ _ 197 rfl 0 244 i0 _ 3 24 MN hi0 hz0 hz1 hz2 rfl (by omega) (.slice A9 n9 c9) n9 _ rfl HOa ⟨w1.heap.size,0,none⟩ 1 1 (X8 (more,d,su)) rfl rfl (JB (cs:=(X8 (more,d,su)).toArray) (t:=244) (fr:=(0,0)) HNWa) (EN _) (by omega) (by unfold maxLen;omega) (by omega) (by simp) (w1.heap.size+1) (by simp) ?_);intro gg cap w3 hown hgrow hat hlt3;have HOw:=Q0 hown;have HGr:=Q0 hgrow;have HAt:=Q0 hat;clear hown hgrow hat)
     go_meet;have hat:=HAt.out;rw[A7]at hat;refine⟨some ⟨gg,0,none⟩,n9+1,cap,rfl,by rw[HE1.out],by have:=HJ.out;omega,HBa.grown HGr (by simp;omega) (fun x hx=>HUp x (by rw[<-A7 A9 n9 c9];exact hx)), ?_,fun g hg=> ?_,Q1.grown HXb HGr (by rw[A7];exact fun e=>hbnA e.symm)⟩
     ·rw[HE2.out,UE];exact HOw
     cases hg;rcases hat with h1|h1
     ·exact⟨HUp _ h1,fun e=>hbnA (by rw[h1];exact E7 some e)⟩
     exact⟨by show wo.heap.size<=gg;omega,by show gg≠bx;omega⟩
    have d2:=Z1 m2;have HE2:=Q0 (show EZ more d su false (q0,q1,q2) out=out by unfold EZ;rw[Q3];rintro⟨-,h2⟩;exact m2 h2);clear m2 hmq;go_wp2_with fail
    go_meet;exact⟨A9,n9,c9,rfl,by rw[HE1.out],by have:=HJ.out;omega,HB1,by rw[HE2.out];exact HR1,fun g hg=>⟨HUp g hg,fun e=>hbnA (by rw[hg,e])⟩,HX1⟩
  obtain⟨A1,n1,c1,rfl,rfl,hn1',hB2,hR2,hup2,hX2⟩:=hcut;obtain⟨w2,rfl⟩: ∃w2,w2=wc:=⟨_,rfl⟩;have c1':w2.cell? ⟨bx,1,none⟩=some (I O q1):=by rw[J0 hX2];rfl
  have c2':w2.cell? ⟨bx,2,none⟩=some (I O q2):=by rw[J0 hX2];rfl
  have c0':w2.cell? ⟨bx,0,none⟩=some (I O q0):=by rw[J0 hX2];rfl
  have HR2:=Q0 hR2;have HB2:=Q0 hB2;have HUp2:=Q0 hup2;have HX2:=Q0 hX2;have hbxl:=J5 hX2;have HOb:=Q0 (show World.ownsRow (w2.alloc (.cells #[I O q0,I O d,I O (su+q2)] 244)) 0 244 3 (.slice A1 n1 c1) n1 (Q9 X8 (EZ more d su td (q0,q1,q2) out))from HR2.below ((Q2 _ w2).alloc (Q4 _) _));have HNWb:=Q0 (S5 w2 (.cells #[I O q0,I O d,I O (su+q2)] 244));have HBb:=Q0 (HB2.alloc HB2.size (.cells #[I O q0,I O d,I O (su+q2)] 244));have hne:some bx≠(Value.slice A1 n1 c1).ownBlock:=by rw[A7];exact fun e=>(hup2 bx e.symm).2 rfl
  have hc1:(w2.alloc (.cells #[I O q0,I O d,I O (su+q2)] 244)).cell? ⟨bx,1,none⟩=some (I O q1):=by rw[J0 (G7 hX2 _)];rfl
  have hsz1:=hB2.size;have hn1'':n1<=300000:=by omega
  have HN1:=Q0 hn1';clear b0 hR2 hB2 hup2 hX2 hn1';go_wp2_with (at_builtin;(refine ZL _ rfl _ _ 197 rfl 0 244 i0 _ 3 24 MN hi0 hz0 hz1 hz2 rfl (by omega) (.slice A1 n1 c1) n1 _ rfl HOb ⟨w2.heap.size,0,none⟩ 1 1 (X8 (q0,d,su+q2)) rfl rfl (JB (cs:=(X8 (q0,d,su+q2)).toArray) (t:=244) (fr:=(0,0)) HNWb) (EN _) (by omega) (by unfold maxLen;omega) (by omega) (by simp) (w2.heap.size+1) (by simp) ?_);intro gg cap w3 hown hgrow hat hlt3;have zz1:=hgrow.cell hc1 hne;have HOw:=Q0 hown;have HGr:=Q0 hgrow;have HAt:=Q0 hat;clear hown hgrow hat)
  go_roundg (n- (j+1))
  case measure=>omega
  have hat:=HAt.out;rw[A7]at hat;refine⟨j+1,some ⟨gg,0,none⟩,n1+1,cap,by omega,rfl,by go_num,by rw[HP.out,i2];rfl,by rw[HP.out];rfl,by rw[HP.out];rfl,rfl,by have:=HN1.out;omega,HBb.grown HGr (by simp;omega) (fun x hx=>(HUp2 x (by rw[<-A7 A1 n1 c1];exact hx)).1), ?_,fun g hg=> ?_⟩
  ·rw[HP.out]
   show J2 _ _ _ _ _ _ (Q9 X8 (EZ more d su td (q0,q1,q2) out++ [(q0,d,su+q2)]));rw[UE];exact HOw
  cases hg;rcases hat with h1|h1
  ·exact(HUp2 _ h1).1
  show wo.heap.size<=gg;omega
 obtain rfl:n=j:=by omega
 have hltz2: ¬(n:Int)< (n:Int):=by omega
 have etk:lv.take n=lv:=N7 (by rw[HN.out];exact Q4 _)
 rw[etk]at hR9 dd0 ss0|-
 have HPt:Hid (XM lv bu se more=if(P1 lv bu se more lv).told=false then(P1 lv bu se more lv).out++ [(more,(P1 lv bu se more lv).d,(P1 lv bu se more lv).s)]else(P1 lv bu se more lv).out):=Q0 rfl
 obtain⟨⟨d,su,td,out⟩,E⟩: ∃st,Hid (P1 lv bu se more lv=st):=⟨_,Q0 rfl⟩
 rw[E.out]at dd0 ss0 hR9 HPt|-
 dsimp only at dd0 ss0 hR9 HPt|-
 obtain⟨w1,rfl⟩: ∃w1,w1=wr:=⟨_,rfl⟩
 have HR1:=Q0 hR9
 have HB1:=Q0 hB
 have HUp:=Q0 hup
 have hsz1:=hB.size
 cases td with
 |true=>
  rw[Q3 (by simp)]at HPt;have hl:=YW E6 (by omega) hR9;have HL:=Q0 hl;clear hR9 hB hup hl;go_wp2_with fail
  refine P4 (CP rfl _ _ _) rfl ?_;rw[HPt.out,HL.out];exact⟨HB.trans (HB1.mono HB.size),A9,c9,rfl,HR1⟩
 |false=>
  rw[Q5 rfl]at HPt;have hl:=YW E6 (by omega) hR9;have HL:Hid ((out++ [(more,d,su)]).length=n9+1):=Q0 (by simp[hl]);have HOa:=Q0 (show World.ownsRow (w1.alloc (.cells #[I O more,I O d,I O su] 244)) 0 244 3 (.slice A9 n9 c9) n9 (Q9 X8 out)from HR1.below ((Q2 _ w1).alloc (Q4 _) _));have HNWa:=Q0 (S5 w1 (.cells #[I O more,I O d,I O su] 244));have HBa:=Q0 (HB1.alloc HB1.size (.cells #[I O more,I O d,I O su] 244));clear hR9 hB hup hl;go_wp2_with (at_builtin;(refine ZL _ rfl _ _ 197 rfl 0 244 i0 _ 3 24 MN hi0 hz0 hz1 hz2 rfl (by omega) (.slice A9 n9 c9) n9 _ rfl HOa ⟨w1.heap.size,0,none⟩ 1 1 (X8 (more,d,su)) rfl rfl (JB (cs:=(X8 (more,d,su)).toArray) (t:=244) (fr:=(0,0)) HNWa) (EN _) (by omega) (by unfold maxLen;omega) (by omega) (by simp) (w1.heap.size+1) (by simp) ?_);intro gg cap w3 hown hgrow hat hlt3;have HOw:=Q0 hown;have HGr:=Q0 hgrow;have HAt:=Q0 hat;clear hown hgrow hat)
  refine P4 (CP rfl _ _ _) rfl ?_;rw[HPt.out,HL.out];refine⟨HB.trans ((HBa.grown HGr (by simp;omega) (fun x hx=>HUp x (by rw[<-A7 A9 n9 c9];exact hx))).mono HB.size),_,_,rfl, ?_⟩;rw[UE];exact HOw
def UY (x:Int):Int:=if x<0 then -x else x
def VQ (p:X4):Int:=UY (p.2.1-p.2.2)
def S8 (l:List X4):Int:=l.foldl (fun m p=>max m (U8 p)) 0
def ZZ (most:Int) (l:List X4):Int×Bool:=l.foldl (fun s p=>if U8 p=most/\(s.2=false\/VQ p<s.1)then(VQ p,true)else s) (0,false)
def ZT (most least:Int) (l:List X4):List X4:=l.filter fun p=>(U8 p ==most) && (VQ p ==least)
def CX (l:List X4):Bool:=l.all fun p=>decide (p.2.2<p.2.1)
def BA (l:List X4):Bool:=l.all fun p=>decide (p.2.1<p.2.2)
def ZX (buys sells:Bool) (r:Int) (p x:X4):Bool:=
 if buys then decide (x.1<p.1)else if sells then decide (p.1<x.1)else decide (UY (p.1-r)<UY (x.1-r)) || (UY (p.1-r) ==UY (x.1-r) &&decide (p.1<x.1))
def AZ (buys sells:Bool) (r:Int) (x:X4) (l:List X4):X4:=l.foldl (fun x p=>if ZX buys sells r p x=true then p else x) x
def Ri (r:Int):List X4->X4
 | []=>(0,0,0)
 |x::b=>WR [AZ (CX (x::b)) (BA (x::b)) r x (x::b)]
def ER (l:List X4) (r:Int):X4:=if S8 l<1 then(0,0,0)else Ri r (ZT (S8 l) (ZZ (S8 l) l).1 l)
theorem Nm x:UY x=max x (-x):=by unfold UY;split<;>omega
theorem Ab p:VQ p=AK p:=by unfold VQ AK;rw[Nm];omega
theorem Qh7 (l:List X4): ∀m,(l.foldl (fun m p=>max m (U8 p)) m=m\/ ∃p∈l,U8 p=l.foldl (fun m p=>max m (U8 p)) m)/\m<=l.foldl (fun m p=>max m (U8 p)) m/\ ∀p∈l,U8 p<=l.foldl (fun m p=>max m (U8 p)) m:=by
 induction l with
 |nil=>intro m;exact⟨.inl rfl,P8 _,fun p hp=>by cases hp⟩
 |cons a l i=>
  intro m;obtain⟨h1,h2,j⟩:=i (max m (U8 a));rw[QZ];have v:=Int.le_max_left m (U8 a);have u:=Int.le_max_right m (U8 a);refine⟨?_,by omega,fun p hp=> ?_⟩
  ·rcases h1 with h1|⟨p,hp,e⟩
   ·rcases Int.le_total m (U8 a)with h|h
    ·right;exact⟨a,by simp,by rw[h1];omega⟩
    left;rw[h1];omega
   exact .inr ⟨p,by simp[hp],e⟩
  rcases D4.1 hp with rfl|hp
  ·omega
  exact j p hp
theorem Xe l:(S8 l=0\/ ∃p∈l,U8 p=S8 l)/\0<=S8 l/\ ∀p∈l,U8 p<=S8 l:=Qh7 l 0
theorem Qb8 m (l:List X4): ∀s,
  let t:=l.foldl (fun s p=>if U8 p=m/\(s.2=false\/VQ p<s.1)then(VQ p,true)else s) s
  (t=s\/(t.2=true/\ ∃p∈l,U8 p=m/\VQ p=t.1))/\(s.2=true->t.2=true/\t.1<=s.1)/\ ∀p∈l,U8 p=m->t.2=true/\t.1<=VQ p:=by
 induction l with
 |nil=>intro s;exact⟨.inl rfl,fun h=>⟨h,P8 _⟩,fun p hp=>by cases hp⟩
 |cons a l D=>
  intro s;rw[QZ]
  by_cases i:U8 a=m/\(s.2=false\/VQ a<s.1)
  ·rw[Q5 i]
   obtain⟨h1,h2,v⟩:=D (VQ a,true);obtain⟨j,u⟩:=h2 rfl;refine⟨?_,fun C=>⟨j, ?_⟩,fun p hp ht=> ?_⟩
   ·rcases h1 with h1|⟨e,p,hp,y⟩
    ·exact .inr ⟨j,a,by simp,i.1,by rw[h1]⟩
    exact .inr ⟨e,p,by simp[hp],y⟩
   ·rcases i.2 with h|h
    ·rw[C]at h;cases h
    exact GK u (NX h)
   rcases D4.1 hp with rfl|hp
   ·exact⟨j,u⟩
   exact v p hp ht
  rw[Q3 i];obtain⟨h1,h2,v⟩:=D s;refine⟨?_,h2,fun p hp ht=> ?_⟩
  ·rcases h1 with h1|⟨e,p,hp,y⟩
   ·exact .inl h1
   exact .inr ⟨e,p,by simp[hp],y⟩
  rcases D4.1 hp with rfl|hp
  ·have C:s.2=true:=by
    cases h:s.2 with
    |true=>rfl
    |false=>exact absurd ⟨ht,.inl h⟩ i
   obtain⟨j,u⟩:=h2 C;refine⟨j, ?_⟩;rcases Int.lt_or_le (VQ p) s.1 with h|h
   ·exact absurd ⟨ht,.inr h⟩ i
   exact GK u h
  exact v p hp ht
theorem Db m l (h: ∃p∈l,U8 p=m):(∃p∈l,U8 p=m/\VQ p=(ZZ m l).1)/\ ∀p∈l,U8 p=m->(ZZ m l).1<=VQ p:=by
 obtain⟨h1,_,i⟩:=Qb8 m l (0,false)
 obtain⟨p,hp,e⟩:=h
 refine⟨?_,fun q u ht=>(i q u ht).2⟩
 rcases h1 with h1|⟨_,h1⟩
 ·have j:=(i p hp e).1
  rw[h1]at j
  cases j
 exact h1
theorem Yj l (h:1<=S8 l):ZT (S8 l) (ZZ (S8 l) l).1 l≠ []:=by
 obtain⟨h1,_,_⟩:=Xe l
 rcases h1 with h1|h1
 ·omega
 obtain⟨⟨p,hp,u,j⟩,_⟩:=Db (S8 l) l h1
 intro i
 have:p∈ZT (S8 l) (ZZ (S8 l) l).1 l:=P3.2 ⟨hp,by simp[u,j]⟩
 rw[i]at this
 cases this
theorem WF {F ps m} (h1: ∃p∈ps,F p=m) (h2: ∀p∈ps,F p<=m):M0 F ps=ps.filter fun p=>F p ==m:=by
 have u:ps≠ []:=by
  obtain⟨p,hp,_⟩:=h1;intro h;rw[h]at hp;cases hp
 obtain⟨⟨q,j,e⟩,i⟩:=Fy F ps u
 obtain⟨p,hp,v⟩:=h1
 have:GW F ps=m:=by
  have:=i p hp;have:=h2 q j;omega
 unfold M0
 rw[this]
theorem Qq3 ps (h:1<=S8 ps):M0 U8 ps=ps.filter (fun p=>U8 p ==S8 ps)/\M0 (fun p=> -AK p) (M0 U8 ps)=ZT (S8 ps) (ZZ (S8 ps) ps).1 ps:=by
 obtain⟨h1,J,h2⟩:=Xe ps
 have i: ∃p∈ps,U8 p=S8 ps:=h1.resolve_left (by omega)
 have j:=WF i h2
 obtain⟨⟨p,hp,E,C⟩,y⟩:=Db (S8 ps) ps i
 refine⟨j, ?_⟩
 rw[j,WF (m:= -(ZZ (S8 ps) ps).1)]
 ·unfold ZT
  rw[Zu]
  congr 1
  funext q
  rw[<-Ab];rw[Jg];simp;omega
 ·exact⟨p,P3.2 ⟨hp,by simp[E]⟩,by rw[<-Ab,C]⟩
 intro q u
 obtain⟨D,v⟩:=P3.1 u
 have:=y q D (by simpa using v)
 rw[<-Ab]
 omega
theorem Ja3 (j J:X4->Int) (u:X4->X4->Bool) (D: ∀p x,u p x=true↔(j x<j p\/(j x=j p/\J x<J p))) l: ∀pre x post,
  (∀q∈pre,u x q=true)->(∀q∈post,u q x=false)->
  ∃v y C,pre++x::post++l=v++y::C/\l.foldl (fun x p=>if u p x=true then p else x) x=y/\(∀q∈v,u y q=true)/\(∀q∈C,u q y=false):=by
 induction l with
 |nil=>intro pre x post h1 h2;exact⟨pre,x,post,by simp,rfl,h1,h2⟩
 |cons a l ih=>
  intro pre x post h1 h2;rw[QZ]
  by_cases E:u a x=true
  ·rw[Q5 E]
   obtain⟨v,y,C,e,Z,N,U⟩:=ih (pre++x::post) a [] (fun q i=>by
    have ha:=(D a x).1 E;rcases Y7.1 i with i|i
    ·have:=(D x q).1 (h1 q i)
     exact(D a q).2 (by omega)
    rcases D4.1 i with rfl|i
    ·exact E
    have h3:=h2 q i;have h4: ¬(j x<j q\/(j x=j q/\J x<J q)):=fun h=>by rw[(D q x).2 h]at h3;cases h3
    exact(D a q).2 (by omega)) (fun q i=>by cases i)
   exact⟨v,y,C,by rw[<-e];simp,Z,N,U⟩
  rw[Q3 E];obtain⟨v,y,C,e,Z,N,U⟩:=ih pre x (post++ [a]) h1 (fun q i=>by
   rcases Y7.1 i with i|i
   ·exact h2 q i
   simp at i;subst i;simpa using E)
  exact⟨v,y,C,by rw[<-e];simp,Z,N,U⟩
theorem Yk j u (v:X4->X4->Bool) (C: ∀p x,v p x=true↔(j x<j p\/(j x=j p/\u x<u p))) x l:
  ∃t,M0 u (M0 j (x::l))=(x::l).foldl (fun x p=>if v p x=true then p else x) x::t:=by
 have U:v x x=false:=by
  cases h:v x x with
  |false=>rfl
  |true=>have:=(C x x).1 h;omega
 obtain⟨pre,y,post,e,e2,J,N⟩:=Ja3 j u v C l [] x [] (fun q i=>by cases i) (fun q i=>by cases i)
 rw[QZ,Q3 (by rw[U];simp),e2]
 have e3:x::l=pre++y::post:=by simpa using e
 rw[e3]
 have D: ∀q∈pre,j q<j y\/(j q=j y/\u q<u y):=fun q i=>(C y q).1 (J q i)
 have E: ∀q∈post,¬(j y<j q\/(j y=j q/\u y<u q)):=fun q i h=>by have:=N q i;rw[(C q y).2 h]at this;cases this
 rw[WF (F:=j) (m:=j y) ⟨y,by simp,rfl⟩ (fun q i=>by
  rcases Y7.1 i with i|i
  ·have:=D q i;omega
  rcases D4.1 i with rfl|i
  ·exact P8 _
  have:=E q i;omega)]
 rw[WF (F:=u) (m:=u y) ⟨y,by simp,rfl⟩ (fun q i=>by
  obtain⟨a0,Z⟩:=P3.1 i;have hk:j q=j y:=by simpa using Z
  rcases Y7.1 a0 with i|i
  ·have:=D q i;omega
  rcases D4.1 i with rfl|i
  ·exact P8 _
  have:=E q i;omega)]
 rw[Zu,QL]
 have h0:pre.filter (fun a=>(u a ==u y) && (j a ==j y))= []:=by
  rw[List.filter_eq_nil_iff];intro q i;have:=D q i;simp;omega
 rw[h0,List.filter_cons]
 simp
theorem Dc ps:M0 (fun _=>0) ps=ps:=by
 cases ps with
 |nil=>rfl
 |cons a l=>rw[WF (m:=0) ⟨a,by simp,rfl⟩ (fun _ _=>P8 _)];simp
theorem Qh8 r x b: ∃t,DJ r (x::b)=AZ (CX (x::b)) (BA (x::b)) r x (x::b)::t:=by
 have j:((x::b).any (fun p=>decide ((p.2.1-p.2.2)*1<=0))=false)↔CX (x::b)=true:=by
  unfold CX;rw[Ja,LD];constructor
  ·intro h p hp;have:=h p hp;simp at this|-;omega
  intro h p hp;have:=h p hp;simp at this|-;omega
 have u:((x::b).any (fun p=>decide ((p.2.1-p.2.2)* -1<=0))=false)↔BA (x::b)=true:=by
  unfold BA;rw[Ja,LD];constructor
  ·intro h p hp;have:=h p hp;simp at this|-;omega
  intro h p hp;have:=h p hp;simp at this|-;omega
 unfold DJ AZ
 by_cases h1:CX (x::b)=true
 ·rw[Q5 (j.2 h1),h1]
  have:=Yk (fun p=>p.1) (fun _=>0) (ZX true (BA (x::b)) r) (fun p y=>by simp[ZX]) x b;rw[Dc]at this;exact this
 rw[Q3 (fun h=>h1 (j.1 h))]
 have i:CX (x::b)=false:=by simpa using h1
 by_cases h2:BA (x::b)=true
 ·rw[Q5 (u.2 h2),i,h2]
  have:=Yk (fun p=> -p.1) (fun _=>0) (ZX false true r) (fun p y=>by simp[ZX]) x b;rw[Dc]at this;exact this
 rw[Q3 (fun h=>h2 (u.1 h))]
 have v:BA (x::b)=false:=by simpa using h2
 rw[i,v]
 exact Yk (fun p=> -max (p.1-r) (r-p.1)) (fun p=> -p.1) (ZX false false r) (fun p y=>by simp[ZX,Nm];omega) x b
theorem Dd ps r:KV ps r=ER ps r:=by
 obtain⟨h1,C,h2⟩:=Xe ps
 unfold KV ER
 by_cases j:S8 ps<1
 ·rw[Q5 j]
  cases hk:M0 U8 ps with
  |nil=>rfl
  |cons p l=>
   have hp:p∈ps:=Fz (F:=U8) (by rw[hk];simp);have:=h2 p hp;show(if U8 p<1 then _ else _)=_;rw[Q5 (by omega)]
 rw[Q3 j]
 obtain⟨i,y⟩:=Qq3 ps (by omega)
 cases hk:M0 U8 ps with
 |nil=>
  exfalso
  obtain⟨p,hp,e⟩:=h1.resolve_left (by omega);have:p∈M0 U8 ps:=by rw[i];exact P3.2 ⟨hp,by simp[e]⟩
  rw[hk]at this
  cases this
 |cons p l=>
  have hp:p∈ps.filter (fun p=>U8 p ==S8 ps):=by rw[<-i,hk];simp
  have ht:U8 p=S8 ps:=by simpa using(P3.1 hp).2
  show(if U8 p<1 then _ else WR (DJ r (M0 (fun p=> -AK p) (p::l))))=_;rw[Q3 (by omega),<-hk,y]
  cases u:ZT (S8 ps) (ZZ (S8 ps) ps).1 ps with
  |nil=>exact absurd u (Yj ps (by omega))
  |cons x b=>
   obtain⟨t,v⟩:=Qh8 r x b;rw[v]
   rfl
def VL (w:World) (a:Nat) (F:Nat->Prop) (M:Int->Int->Option Q8) (most n:Nat):Prop:=
 ∃A c B d ss fr,R0 w a A c B d ss fr (most:Nat) (n:Nat)/\CY ss fr most/\UP ss=n/\(∀s g,M s g=JD ss s g)/\ ∀i,F i↔JN a A B i
def W8 (M:Int->Int->Option Q8) (s g:Int) (x:Option Q8):Int->Int->Option Q8:=fun s' g'=>if s'=s/\g'=g then x else M s' g'
def SF (M:Int->Int->Option Q8) (s g:Int):Q8:=(M s g).getD Y3
def SG (M:Int->Int->Option Q8) (s g:Int):Int:=if(M s g).isSome=true then 0 else 7
section
variable {w w':World} {a:Nat} {F:Nat->Prop} {M:Int->Int->Option Q8} {most n:Nat}
theorem VL.fp (h:VL w a F M most n) {i} (v:F i):i<w.heap.size:=by
 obtain⟨A,c,B,d,ss,fr,u,_,_,_,j⟩:=h
 exact u.fp ((j i).1 v)
theorem VL.keeps {S} (h:VL w a F M most n) (hk:Q6 S w w') (v: ∀i,F i-> ¬S i):VL w' a F M most n:=by
 obtain⟨A,c,B,d,ss,fr,u,D,C,y,j⟩:=h
 exact⟨A,c,B,d,ss,fr,u.keeps hk (fun i E=>v i ((j i).2 E)),D,C,y,j⟩
theorem VL.below (h:VL w a F M most n) (i:Below w.heap.size w w'):VL w' a F M most n:=h.keeps (U1 i (fun _=>False)) (fun _ _=>id)
theorem VL.le (h:VL w a F M most n):n<=most:=by
 obtain⟨A,c,B,d,ss,fr,u,i,y,v,j⟩:=h
 have h1:=i.count
 have h2:=i.cap
 omega
def PQ (w w':World) (a:Nat) (F:Nat->Prop) (M:Int->Int->Option Q8) (most n:Nat):Prop:=
 ∃F',VL w' a F' M most n/\Q6 F w w'/\ ∀i,F' i->F i\/w.heap.size<=i
theorem Ja4 (h:VL w a F M most n):Calls prog 92 #[IP (some ⟨a,0,none⟩)] w fun e w'=>e= .returned (I O n)/\w=w':=by
 obtain⟨A,c,B,d,ss,fr,i,y,v,u,j⟩:=h
 exact So w a A c B d ss fr _ _ i
theorem Jh5 (h:VL w a F M most n) s g:Calls prog 108 #[IP (some ⟨a,0,none⟩),.agg #[I O s,I O g]] w fun e w'=>
  e= .returned (.tuple #[X5 (SF M s g),U0 (SG M s g)])/\Below w.heap.size w w':=by
 obtain⟨A,c,B,d,ss,fr,i,y,C,j,v⟩:=h
 refine(Tf w a A c B d ss fr _ _ s g i).mono ?_
 rintro e w' ⟨rfl,u⟩
 refine⟨?_,u⟩
 unfold SF SG
 rw[j,Gf,Gg]
theorem WW (h:VL w a F M most n) (hm:most<=1000) x:Calls prog 130 #[IP (some ⟨a,0,none⟩),X5 x] w fun e w'=>
  (n=most/\e= .returned (.tuple #[.agg #[I O 0,I O 0],U0 12])/\Below w.heap.size w w')\/
  (n<most/\ ∃s g,M s g=none/\e= .returned (.tuple #[.agg #[I O s,I O g],U0 0])/\PQ w w' a F (W8 M s g (some x)) most (n+1)):=by
 obtain⟨A,c,B,d,ss,fr,E,v,hL,N,J⟩:=h
 have a5:=v.cap
 have a0:=v.count
 by_cases hn:n=most
 ·refine(Wf w a A c B d ss fr _ _ x E (by omega)).mono ?_
  rintro e w' ⟨rfl,hB⟩;exact .inl ⟨hn,rfl,hB⟩
 have hw:RowKit.wrap64 ((n:Int)+1)=((n+1:Nat):Int):=by unfold RowKit.wrap64;omega
 rcases List.eq_nil_or_concat fr with rfl|⟨a2,i,rfl⟩
 ·refine(Qb6 w a A c B d ss _ _ x E (by omega) (by omega)).mono ?_
  rintro e w' ⟨rfl,A',c',C,U,y,hK,Z⟩;rw[hw]at y;refine .inr ⟨by omega,_,_, ?_,rfl,JN a A' C,⟨A',c',C,U,_,_,y,v.new_ (by omega) x, ?_, ?_,fun i=>ZP⟩,hK.mono (fun i u=>(J i).2 u),fun i u=>(Z i u).imp (fun h=>(J i).2 h) id⟩
  ·rw[N];unfold JD;simp
  ·rw[Cd,hL];rfl
  intro s g;rw[Ty];unfold W8;rw[N]
  by_cases j:s=(ss.length:Nat)
  ·subst j
   by_cases D:g=0
   ·subst D;simp
   have:JD ss (ss.length:Nat) g=none:=by unfold JD;simp
   rw[Q3 (by simp[D]),this,Q5 rfl,Q3 (by simp;omega)]
  rw[Q3 (by simp[j]),Q3 j]
 rw[List.concat_eq_append]at E v a0
 obtain⟨k,rfl,a6,_⟩:=v.free i (by simp)
 obtain⟨hk,a1,a3,a4⟩:=v.old_ x (ss[k].2.1)
 refine(Qb5 w a A c B d ss a2 k _ _ x E (by omega) hk (by simp at a0;omega)).mono ?_
 rintro e w' ⟨rfl,A',c',C,U,y,hK,Z⟩
 rw[hw]at y
 refine .inr ⟨by omega,_,_, ?_,rfl,JN a A' C,⟨A',c',C,U,_,_,y,a3, ?_, ?_,fun i=>ZP⟩,hK.mono (fun i u=>(J i).2 u),fun i u=>(Z i u).imp (fun h=>(J i).2 h) id⟩
 ·rw[N];exact Ei hk a1 _
 ·rw[a4,hL]
 intro s g
 rw[Uj hk]
 unfold W8
 rw[N]
 by_cases j:s=(k:Int)
 ·subst j
  by_cases D:g=ss[k].2.1
  ·subst D;simp
  rw[Q3 (by simp[D]),Ei hk a1,Q5 rfl,Q3 (by simp;omega)]
 rw[Q3 (by simp[j]),Q3 j]
theorem Ja5 (h:VL w a F M most n) (hm:most<=1000) s g:Calls prog 127 #[IP (some ⟨a,0,none⟩),.agg #[I O s,I O g]] w fun e w'=>
  e= .returned (.tuple #[X5 (SF M s g),U0 (SG M s g)])/\((M s g=none/\Below w.heap.size w w')\/((M s g).isSome=true/\1<=n/\PQ w w' a F (W8 M s g none) most (n-1))):=by
 obtain⟨A,c,B,d,ss,fr,hA,C,hL,u,U⟩:=h
 have a3:=C.cap
 have a4:=C.count
 refine(Sp w a A c B d ss fr _ _ s g hA (by omega)).mono ?_
 rintro e w' ⟨rfl,a0⟩
 refine⟨by unfold SF SG;rw[u,Gf,Gg], ?_⟩
 rcases a0 with⟨j,hB⟩|⟨j,A',c',Z,d',J,hK,a2⟩
 ·rw[WY]at j
  refine .inl ⟨?_,hB⟩;rw[u]
  cases hv:JD ss s g with
  |none=>rfl
  |some v=>rw[hv]at j;cases j
 rw[WY]at j
 obtain⟨x,hx⟩: ∃x,JD ss s g=some x:=Option.isSome_iff_exists.1 j
 obtain⟨k,rfl,hk,h1,h2,h3⟩:=Qy3 hx
 obtain⟨a1,a5⟩:=C.take_ hk h1 Y3 (RowKit.wrap64 (ss[k].2.1+1))
 have hw:RowKit.wrap64 ((n:Int)-1)=((n-1:Nat):Int):=by unfold RowKit.wrap64;omega
 rw[hw,Gd hk]at J
 refine .inr ⟨by rw[u];exact j,by omega,JN a A' Z,⟨A',c',Z,d',_,_,J,a1,by omega, ?_,fun i=>ZP⟩,hK.mono (fun i D=>(U i).2 D),fun i D=>(a2 i D).imp (fun h=>(U i).2 h) id⟩
 intro s' N
 rw[Uj hk]
 unfold W8
 rw[u]
 by_cases y:s'=(k:Int)
 ·subst y
  rw[Q5 rfl]
  by_cases E:N=g
  ·subst E;simp
  have:JD ss (k:Nat) N=none:=by
   unfold JD;have hh:ss[((k:Nat):Int).toNat]?=some ss[k]:=by simp[hk]
   rw[Q5 (by omega),hh];simp[h2];intro _ e;exact absurd e.symm E
  rw[Q3 (by simp[E]),this,Q3 (by simp)]
 rw[Q3 (by simp[y]),Q3 y]
end
theorem Jh6 w (most:Nat) (h1:1<=most) (h2:most<=1000):Calls prog 104 #[I O most] w fun e w'=>
  Below w.heap.size w w'/\ ∃a F,(∀i,F i->w.heap.size<=i)/\e= .returned (.tuple #[IP (some ⟨a,0,none⟩),.nilIface])/\VL w' a F (fun _ _=>none) most 0:=by
 refine(Te (most:Int) w).mono ?_
 rintro e w' ⟨v,⟨y,_⟩|⟨_,a,u,rfl,j⟩⟩
 ·omega
 refine⟨v,a,JN a none none, ?_,rfl,none,0,none,0,[],[],j,CY.empty most,rfl,fun s g=>(Qa3 s g).symm,fun i=>ZP⟩
 rintro i (rfl|hi|hi)
 ·exact u
 ·cases hi
 cases hi
section
variable {α:Type} {g:Nat} {lb:Array Value} {sf:Nat} {sb:Array Value} {blk n:Nat} {r:α->Int} {St:World->List (α×Nat)->Prop}
def LQ (T:List (α×Nat)):Prop:=T.Pairwise fun x y=>x.2<y.2
theorem LQ.tag {X Y:List (α×Nat)} (h:LQ (X++Y)):VE X Y:=fun x i y hy=>(AR.1 h).2.2 x i y hy
structure SH (r:α->Int) (T0:List (α×Nat)) (a:Nat) (P:List (α×Nat)):Prop where
 len:P.length=a
 le:a<=T0.length
 perm:P.Perm (T0.take a)
 ahead:MY r 20 P
theorem SH.step {T0 P S a} (h:SH r T0 a P) (j:LQ T0) (D:a+20<=T0.length) (hp:S.Perm ((T0.drop a).take 20)) (v:C6 r S):SH r T0 (a+20) (P++S):=by
 have u:S.length=20:=by have:=hp.length_eq;simp at this;omega
 have e:T0.take (a+20)=T0.take a++(T0.drop a).take 20:=by rw[List.take_add]
 refine⟨by have:=h.len;simp;omega,D,by rw[e];exact h.perm.append hp,h.ahead.snoc u v ?_⟩
 have C:LQ (T0.take a++T0.drop a):=by rw[P2];exact j
 exact VE.perm (X:=T0.take a) (Y:=(T0.drop a).take 20) (fun x i y hy=>C.tag x i y (AT hy)) h.perm hp
theorem SH.ends {T0 P S a} (h:SH r T0 a P) (i:LQ T0) (y:T0.length<a+20) (hp:S.Perm (T0.drop a)) (u:C6 r S):(P++S).Perm T0/\VH r 20 (P++S):=by
 have j:S.length<=20:=by have:=hp.length_eq;simp at this;omega
 refine⟨?_,h.ahead.ends j u ?_⟩
 ·have:=h.perm.append hp
  rwa [P2]at this
 have v:LQ (T0.take a++T0.drop a):=by rw[P2];exact i
 exact VE.perm v.tag h.perm hp
structure Rz (r:α->Int) (T0:List (α×Nat)) (bs a:Nat) (P Q:List (α×Nat)):Prop where
 len:P.length=a
 perm:(P++Q).Perm T0
 ahead:MY r (2*bs) P
 chk:VH r bs Q
 tag:VE P Q
theorem Es (E:AX g lb sf sb blk n (fun x:α×Nat=>r x.1) St) (b9:n<=1000000) w v (hT:LQ v) (h:St w v) (hn:v.length=n):
  Calls prog 115 #[XE g lb sf sb,I O n] w fun e w'=>e= .returned (.tuple #[])/\(∃T,T.Perm v/\C6 r T/\St w' T)/\Q6 (fun k=>k=blk) w w':=by
 have J:=E.lt _ _ h
 have eg:=E.eg
 have c7:=E.start h
 have HE:=Q0 E
 have d0:=Q0 c7
 have HL:=Q0 hn
 have HT:=Q0 hT
 have c3:=Q0 b9
 have a6:=Q0 J
 have c4:=Q0 (Wd E b9)
 clear E h c7 hn J hT
 unfold XE
 go_enter func115,ntmps115
 go_wp2_with fail
 go_loopg [5,6] n (fun gg s5 s6 wx=> ∃a P,gg=n-a/\s5=I O a/\s6=I O ((a:Int)+20)/\Hid (SH r v a P)/\KY St blk w wx (ZC g lb sf sb) (P++v.drop a))
 case atStart=>exact⟨0,[],rfl,rfl,by simp,Q0 ⟨rfl,V5 _,by simp,Fv 20⟩,by simpa using d0.out⟩
 obtain⟨a,P,rfl,rfl,rfl,N,u⟩:=hrel
 have ha:a<=n:=by have:=N.le;have:=HL.out;omega
 obtain⟨c0,c1⟩:=u.cells
 by_cases J:a+20<=n
 ·have b8:(a:Int)+20<=(n:Int):=by omega
  have ed:v.drop a=(v.drop a).take 20++v.drop (a+20):=by
   have:=(P2 20 (v.drop a)).symm
   rwa [Jm]at this
  have j:=u.st;rw[ed]at j;have D:=Bt HE wr P ((v.drop a).take 20) (v.drop (a+20)) a (a+20) N.len (by have:=N.len;have:=HL.out;simp;omega) ((Zn (Jc a v) HT).sublist (List.take_sublist _ _)) j (by have:=N.len;have:=HL.out;simp;omega) c3;rw[show(((a+20:Nat):Int))=(a:Int)+20 by omega]at D;have U:=Q0 D;have HS:=Q0 u;clear D u j ed;unfold XE at U;go_wp2_with fail
  refine U.mono ?_;rintro e w2 ⟨rfl,⟨S,hp,C,j⟩,hk⟩;have HP:=Q0 hp;have d6:=Q0 C;have a4:=Q0 j;have HK:=Q0 hk;clear hp C j hk;go_wp2_with fail
  go_roundg (n- (a+20))
  case measure=>omega
  exact⟨a+20,P++S,rfl,by go_num,by rw[show(((a+20:Nat):Int))=(a:Int)+20 by omega],Q0 (N.step HT (by have:=HL.out;omega) HP d6),HS.step a6 (by have h:=a4.out;simpa only[List.append_assoc]using h) HK⟩
 have b8: ¬(a:Int)+20<=(n:Int):=by omega
 have D:=Bt HE wr P (v.drop a) [] a n N.len (by have:=N.len;have:=N.le;have:=HL.out;simp;omega) (Zn (Jc a v) HT) (by simpa using u.st) (by have:=N.len;have:=N.le;have:=HL.out;simp;omega) c3
 have U:=Q0 D
 have HS:=Q0 u
 have d4:=Q0 J
 clear D u J
 unfold XE at U
 go_wp2_with fail
 refine U.mono ?_
 rintro e w2 ⟨rfl,⟨S,hp,C,j⟩,hk⟩
 obtain⟨c5,c2⟩:=N.ends HT (by have:=HL.out;have:=d4.out;omega) hp C
 have d1:=Q0 (HS.step (l':=P++S) a6 (by simpa using j) hk)
 have d2:=Q0 c5
 have d3:=Q0 c2
 clear hp C j hk c5 c2 c0 c1
 go_wp2_with fail
 go_loopg [4] (n-20) (fun gg s4 wx=> ∃bs T,20<=bs/\bs<=2000000/\gg=n-bs/\s4=I O bs/\Hid (T.Perm v/\VH r bs T)/\KY St blk w wx (ZC g lb sf sb) T)
 case atStart=>exact⟨20,P++S,Q4 _,by omega,rfl,rfl,Q0 ⟨d2,d3⟩,d1⟩
 obtain⟨bs,T,e4,e1,rfl,rfl,a5,u⟩:=hrel
 have c8:T.length=n:=by have:=a5.1.length_eq;have:=HL.out;omega
 have d9:=Q0 c8
 clear c8
 by_cases J:bs<n
 ·have b8:(bs:Int)< (n:Int):=by omega
  have d7:=Q0 u;have a8:=Q0 J;obtain⟨wo,rfl⟩: ∃wo,wo=wr:=⟨_,rfl⟩;have e3:bs<=1000000:=by omega
  clear u J;go_wp2_with fail
  go_loopg [5,6] (n-0) (fun gg s5 s6 wx=> ∃a P Q,a<=n/\gg=n-a/\s5=I O a/\s6=I O ((a:Int)+2* (bs:Int))/\Hid (Rz r v bs a P Q)/\KY St blk w wx (ZC g lb sf sb) (P++Q))
  case atStart=>exact⟨0,[],T,V5 _,rfl,rfl,by rw[show(((0:Nat):Int))+2* (bs:Int)=2* (bs:Int) by omega],Q0 ⟨rfl,a5.1,Fv _,a5.2,fun x hx=>by cases hx⟩,d7⟩
  obtain⟨a,P,Q,e2,rfl,rfl,rfl,i,u⟩:=hrel;obtain⟨c0,c1⟩:=u.cells;have c6:P.length+Q.length=n:=by have h1:=i.perm.length_eq;have h2:=HL.out;rw[Y9]at h1;omega
  have a0:=Q0 c6;clear c6
  by_cases J:a+2*bs<=n
  ·have d5:(a:Int)+2* (bs:Int)<=(n:Int):=by omega
   obtain⟨L,R,Q',Z,b1,b2,a2,b0,a7⟩:=i.chk.two (by have:=i.len;have:=a0.out;omega);have a9:R.length=bs:=by have:=i.len;have:=a0.out;omega
   have j:=u.st;rw[Z]at j;have D:=c4.out (L.length+R.length) wr P L R Q' a (a+bs) (a+2*bs) (Q4 _) i.len (by omega) (by omega) (by omega) (by omega) a2 j (by rw[<-Z,Y9];exact a0);rw[show(((a+bs:Nat):Int))=(a:Int)+ (bs:Int) by omega,show(((a+2*bs:Nat):Int))=(a:Int)+2* (bs:Int) by omega]at D;have a1: ∀S,S.Perm (L++R)->C6 r S->Rz r v bs (a+2*bs) (P++S) Q':=fun S hp C=>by
    have h0:=i.tag;have h1:=i.perm;have h2:=i.len;rw[Z]at h0 h1;refine⟨by have:=hp.length_eq;simp at this|-;omega, ?_,i.ahead.snoc (by have:=hp.length_eq;simp at this;omega) C (VE.perm (X:=P) (Y:=L++R) (fun x hx y hy=>h0 x hx y (by rw[<-VM];exact S9 _ hy)) (TL _) hp),a7,fun x hx y hy=> ?_⟩
    ·refine List.Perm.trans ?_ h1
     rw[VM];refine List.Perm.append_left _ ?_;rw[<-VM];exact List.Perm.append_right _ hp
    rcases Y7.1 hx with hx|hx
    ·exact h0 x hx y (by simp[hy])
    exact b0 x (hp.mem_iff.1 hx) y hy
   have a3:=Q0 a1;have U:=Q0 D;have HS:=Q0 u;clear D u j a1 Z b1 b2 a9 a2 b0 a7;unfold XE at U;go_wp2_with fail
   refine U.mono ?_;rintro e w2 ⟨rfl,⟨S,hp,C,j⟩,hk⟩;have b5:=Q0 (a3 S hp C);have a4:=Q0 j;have HK:=Q0 hk;clear hp C j hk;go_wp2_with fail
   go_roundg (n- (a+2*bs))
   case measure=>omega
   exact⟨a+2*bs,P++S,Q',J,rfl,by rw[show(((a+2*bs:Nat):Int))=(a:Int)+2* (bs:Int) by omega],by rw[show(((a+2*bs:Nat):Int))=(a:Int)+2* (bs:Int) by omega],b5,HS.step a6 (by have h:=a4.out;simpa only[List.append_assoc]using h) HK⟩
  have d5: ¬(a:Int)+2* (bs:Int)<=(n:Int):=by omega
  by_cases hm:a+bs<n
  ·have c9:(a:Int)+ (bs:Int)< (n:Int):=by omega
   obtain⟨L,R,Q',Z,b1,b2,a2,b0,a7⟩:=i.chk.two (by have:=i.len;have:=a0.out;omega);have a9:a+bs+R.length=n:=by have:=i.len;have:=a0.out;omega
   have d8:Q'= []:=BN (by have h:=E7 List.length Z;have:=i.len;have:=a0.out;simp at h;omega);subst d8;have j:=u.st;rw[Z]at j;have D:=c4.out (L.length+R.length) wr P L R [] a (a+bs) n (Q4 _) i.len (by omega) a9 (by omega) (by omega) a2 j (by rw[<-Z,Y9];exact a0);rw[show(((a+bs:Nat):Int))=(a:Int)+ (bs:Int) by omega]at D;have a1: ∀S,S.Perm (L++R)->C6 r S->(P++S).Perm v/\VH r (2*bs) (P++S):=fun S hp C=>by
    have h0:=i.tag;have h1:=i.perm;have h2:=i.len;have h3:=a0.out;rw[Z,YP]at h0 h1;exact⟨(List.Perm.append_left _ hp).trans h1,i.ahead.ends (by have:=hp.length_eq;simp at this;omega) C (VE.perm h0 (TL _) hp)⟩
   have a3:=Q0 a1;have U:=Q0 D;have HS:=Q0 u;clear D u j a1 Z b1 b2 a9 a2 b0 a7;unfold XE at U;go_wp2_with fail
   refine U.mono ?_;rintro e w2 ⟨rfl,⟨S,hp,C,j⟩,hk⟩;have b5:=Q0 (a3 S hp C);have a4:=Q0 j;have HK:=Q0 hk;clear hp C j hk;go_wp2_with fail
   go_roundg (n-2*bs)
   case measure=>have:=a8.out;omega
   exact⟨2*bs,P++S,by omega,by omega,rfl,by rw[show(((2*bs:Nat):Int))=(bs:Int)*2 by omega],b5,HS.step a6 (by have h:=a4.out;simpa only[List.append_nil]using h) HK⟩
  have c9: ¬(a:Int)+ (bs:Int)< (n:Int):=by omega
  have a1:(P++Q).Perm v/\VH r (2*bs) (P++Q):=by
   have h2:=i.len;have h3:=a0.out;exact⟨i.perm,i.ahead.ends (by omega) (i.chk.short (by omega)) i.tag⟩
  have a3:=Q0 a1;have HS:=Q0 u;clear a1 u;go_wp2_with fail
  go_roundg (n-2*bs)
  case measure=>have:=a8.out;omega
  exact⟨2*bs,P++Q,by omega,by omega,rfl,by rw[show(((2*bs:Nat):Int))=(bs:Int)*2 by omega],a3,HS⟩
 have b8: ¬(bs:Int)< (n:Int):=by omega
 have HS:=Q0 u
 have a8:=Q0 J
 clear u J
 go_wp2_with fail
 go_end0
 exact⟨rfl,⟨T,a5.1,a5.2.short (by have:=d9.out;have:=a8.out;omega),HS.st⟩,HS.keep⟩
