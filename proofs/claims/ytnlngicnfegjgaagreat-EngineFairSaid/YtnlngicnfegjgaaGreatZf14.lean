/- Contracts and walks that the law's proof needs. -/
import Derived.WalkKit
import Derived.WalkLawsBesides
import Derived.WalkSpells
import Derived.Deep.LoopGhost
import Derived.Deep.DeepCutAuto
import Derived.Deep.CutBlock
import Derived.Deep.AppendLies
import Derived.Deep.AppendSrc
import Derived.BigRegion
import Derived.Test.YtnlngicnfegjgaaGreatZf11
set_option linter.unusedVariables false
set_option maxRecDepth 100000
set_option maxHeartbeats 8000000
namespace Go.Proofs.YtnlngicnfegjgaaGreat
open Go.RowKit
def Y7 (l:List XJ) (s:Int):Int:=l.foldl (fun s x=>s+x.2.1) s
def Qm9 (l:List XJ) (s:Int):Int:=l.foldl (fun s x=>s+x.2.2) s
theorem Jz2 (l:List XJ) (x:XJ) (s:Int):Y7 (l++ [x]) s=Y7 l s+x.2.1:=by unfold Y7;rw[List.foldl_append];rfl
theorem Ke9 (l:List XJ) (x:XJ) (s:Int):Qm9 (l++ [x]) s=Qm9 l s+x.2.2:=by unfold Qm9;rw[List.foldl_append];rfl
theorem Jr7 (l:List XJ) (h: ∀x∈l,0≤x.2.1∧x.2.1≤1000000000000): ∀s:Int,s≤Y7 l s∧Y7 l s≤s+1000000000000*l.length:=by
 induction l with
 |nil=>intro s;unfold Y7;simp
 |cons x t ih=>
  intro s;have h1:=h x (by simp);have h2:=ih (fun y hy=>h y (by simp[hy])) (s+x.2.1);unfold Y7 at*;rw[List.foldl_cons,List.length_cons];omega
theorem Xu3 (l:List XJ) (h: ∀x∈l,0≤x.2.2∧x.2.2≤1000000000000): ∀s:Int,s≤Qm9 l s∧Qm9 l s≤s+1000000000000*l.length:=by
 induction l with
 |nil=>intro s;unfold Qm9;simp
 |cons x t ih=>
  intro s;have h1:=h x (by simp);have h2:=ih (fun y hy=>h y (by simp[hy])) (s+x.2.2);unfold Qm9 at*;rw[List.foldl_cons,List.length_cons];omega
structure Jc3 (lv:List XJ) (bu se:Int):Prop where
 b:0≤bu∧bu≤1000000000000
 s:0≤se∧se≤1000000000000
 lb: ∀x∈lv,0≤x.2.1∧x.2.1≤1000000000000
 ls: ∀x∈lv,0≤x.2.2∧x.2.2≤1000000000000
 n:lv.length≤99999
theorem Jc3.b_bound {lv:List XJ} {bu se:Int} (h:Jc3 lv bu se) (k:Nat):0≤Y7 (lv.take k) bu∧Y7 (lv.take k) bu≤200000000000000000:=by
 have h1:=Jr7 (lv.take k) (fun x hx=>h.lb x (List.mem_of_mem_take hx)) bu
 have h2:=h.n
 have h3:=h.b
 have h4:=List.length_take_le' k lv
 omega
theorem Jc3.s_bound {lv:List XJ} {bu se:Int} (h:Jc3 lv bu se) (k:Nat):0≤Qm9 (lv.take k) se∧Qm9 (lv.take k) se≤200000000000000000:=by
 have h1:=Xu3 (lv.take k) (fun x hx=>h.ls x (List.mem_of_mem_take hx)) se
 have h2:=h.n
 have h3:=h.s
 have h4:=List.length_take_le' k lv
 omega
def ptT (more:Int) (told:Bool) (x:XJ):Bool:=told ||decide (more≤x.1)
def ptO (more d s:Int) (told:Bool) (x:XJ) (out:List XJ):List XJ:=if told=false∧more<x.1 then out++ [(more,d,s)]else out
structure PtS where
 d:Int
 s:Int
 told:Bool
 out:List XJ
def ptF (more:Int) (s:PtS) (x:XJ):PtS:=⟨s.d-x.2.1,s.s+x.2.2,ptT more s.told x,ptO more s.d s.s s.told x s.out++ [(x.1,s.d,s.s+x.2.2)]⟩
def ptS (lv:List XJ) (bu se more:Int) (l:List XJ):PtS:=l.foldl (ptF more) ⟨Y7 lv bu,se,decide (more<1),[]⟩
def Q9 (lv:List XJ) (bu se more:Int):List XJ:=let s:=ptS lv bu se more lv;if s.told=false then s.out++ [(more,s.d,s.s)]else s.out
theorem Xm2 (lv:List XJ) (bu se more:Int) (l:List XJ) (x:XJ):ptS lv bu se more (l++ [x])=ptF more (ptS lv bu se more l) x:=by unfold ptS;rw[List.foldl_append];rfl
theorem Kv2 (lv:List XJ) (bu se more:Int) (l:List XJ):(ptS lv bu se more l).d=Y7 lv bu- (Y7 l 0):=by
 have key: ∀(l:List XJ) (s:PtS),(l.foldl (ptF more) s).d=s.d-Y7 l 0:=by
  intro l
  induction l with
  |nil=>intro s;unfold Y7;simp
  |cons x t ih=>
   intro s;rw[List.foldl_cons,ih];have h0: ∀(t:List XJ) (a:Int),Y7 t a=a+Y7 t 0:=by
    intro t
    induction t with
    |nil=>intro a;unfold Y7;simp
    |cons y u ih2=>
     intro a;have e1:=ih2 (a+y.2.1);have e2:=ih2 (0+y.2.1);unfold Y7 at*;rw[List.foldl_cons,List.foldl_cons,e1,e2];omega
   have h1:=h0 t (0+x.2.1);have h2:Y7 (x::t) 0=Y7 t (0+x.2.1):=rfl;rw[h2,h1];show s.d-x.2.1-_=_;omega
 exact key l _
theorem Kl8 (lv:List XJ) (bu se more:Int) (l:List XJ):(ptS lv bu se more l).s=Qm9 l se:=by
 have key: ∀(l:List XJ) (s:PtS),(l.foldl (ptF more) s).s=Qm9 l s.s:=by
  intro l
  induction l with
  |nil=>intro s;rfl
  |cons x t ih=>intro s;rw[List.foldl_cons,ih];rfl
 exact key l _
theorem Jc3.ptd {lv:List XJ} {bu se:Int} (h:Jc3 lv bu se) (more:Int) (k:Nat): -300000000000000000≤(ptS lv bu se more (lv.take k)).d∧(ptS lv bu se more (lv.take k)).d≤300000000000000000:=by
 rw[Kv2]
 have h1:=h.b_bound lv.length
 rw[List.take_length]at h1
 have h2:=Jr7 (lv.take k) (fun x hx=>h.lb x (List.mem_of_mem_take hx)) 0
 have h3:=h.n
 have h4:=List.length_take_le' k lv
 omega
theorem Jc3.pts {lv:List XJ} {bu se:Int} (h:Jc3 lv bu se) (more:Int) (k:Nat):0≤(ptS lv bu se more (lv.take k)).s∧(ptS lv bu se more (lv.take k)).s≤300000000000000000:=by
 rw[Kl8]
 have h1:=h.s_bound k
 omega
theorem Kl9:(Tryz.prog.info? 159).map (fun i=>(i.zero,i.size,i.bytes))=some (some (.agg #[.int .i64 0,.int .i64 0,.int .i64 0]),3,24):=by kernel_rfl
theorem Xu4 (w:World) (X:Nat) (t:TypeId) (cs:Array Value) (o:Nat) (A:Option Addr) (c:Nat) (lv:List XJ) (bu se:Int) (h:Qi6 w X t cs o A c lv bu se) (hs:Jc3 lv bu se) (more:Int):
  Calls Tryz.prog 61 #[.pointer (some ⟨X,o,none⟩),.int .i64 more] w fun e w'=>Below w.heap.size w w'∧ ∃A' c',e= .returned (.slice A' (Q9 lv bu se more).length c')∧QY w' A' (Q9 lv bu se more).length c' 159 3 (QW KV (Q9 lv bu se more)):=by
 obtain⟨y0,y1,y2⟩:=h.cells
 obtain⟨n,hn⟩: ∃n,lv.length=n:=⟨_,rfl⟩
 rw[hn]at y0
 have hr:=h.row
 rw[hn]at hr
 have hXl:=QJ.lt h.blk
 have H:=QQ h
 have HR:=QQ hr
 have HN:=QQ hn
 have HS:=QQ hs
 have hn1:n≤99999:=by have:=hs.n;omega
 clear h hr hn hs
 go_enter Tryz.func61,Tryz.ntmps61
 go_wp2_with fail
 go_region
 go_wp2_with fail
 go_loopg [5,26] n (fun gg s5 s26 wx=> ∃k:Nat,k≤n∧gg=n-k∧s26= .int .i64 k∧s5= .int .i64 (Y7 (lv.take k) bu)∧Below w.heap.size w wx)
 case atStart=>exact⟨0,Nat.zero_le _,rfl,rfl,rfl,by first|exact Below.drew (Below.refl _ _)|exact Below.refl _ _⟩
 case round=>
  obtain⟨k,hk,rfl,rfl,rfl,hB⟩:=hrel
  by_cases hlt:k<n
  ·have hkl:k<lv.length:=by have:=HN.out;omega
   obtain⟨g,hA,-⟩:=HR.out.elem JK (by omega) hkl;subst hA;obtain⟨x0,x1,x2⟩:=Qw6 (HR.out.below hB) hkl;have hltz:(k:Int)< (n:Int):=by omega
   have hk0:(0:Int)≤(k:Int):=by omega
   have HT:=QQ (List.take_succ_eq_append_getElem hkl);have hb1:=HS.out.b_bound k;have hb2:=HS.out.b_bound (k+1);rw[HT.out,Jz2]at hb2;have hi1:RowKit.wrap64 (Y7 (lv.take k) bu+lv[k].2.1)=Y7 (lv.take k) bu+lv[k].2.1:=by unfold RowKit.wrap64;omega
   have HI:Hid (Y7 (lv.take (k+1)) bu=Y7 (lv.take k) bu+lv[k].2.1):=QQ (by rw[HT.out,Jz2]);have HB:=QQ (hB.alloc hB.size (.cells #[.int .i64 lv[k].1,.int .i64 lv[k].2.1,.int .i64 lv[k].2.2] 167));generalize Y7 (lv.take k) bu=S at hi1 HI⊢;generalize lv[k].1=q0 at x0 HB;generalize lv[k].2.1=q1 at x1 hi1 HI HB;generalize lv[k].2.2=q2 at x2 HB;clear hb1 hb2 hB;go_wp2_with fail
   go_roundg (n- (k+1))
   case measure=>omega
   case rel=>exact⟨k+1,by omega,rfl,by go_num,by rw[HI.out];first|rfl|rw[hi1],HB.out⟩
  ·obtain rfl:n=k:=by omega
   have hltz: ¬(n:Int)< (n:Int):=by omega
   have etk:lv.take n=lv:=List.take_of_length_le (by rw[HN.out];exact Nat.le_refl _);rw[etk];have hD:Y7 lv bu=(ptS lv bu se more []).d:=rfl;rw[hD];obtain⟨wo,rfl⟩: ∃wo:World,wo=wr:=⟨_,rfl⟩;have y0':=(hB.cell (p:=⟨X,o,none⟩) hXl).trans y0;have HB:=QQ hB;obtain⟨tb,htb⟩: ∃tb,decide (more<1)=tb:=⟨_,rfl⟩;have HTb:=QQ (show tb=(ptS lv bu se more []).told from htb.symm);clear hB etk hD y1 y2;go_wp2_with fail
   obtain⟨i0,hi0,hz0,hz1,hz2⟩:=info_parts Kl9
   go_loopg [5,6,9,10,42] n (fun gg s5 s6 s9 s10 s42 wx=> ∃(k:Nat) (A9:Option Addr) (n9 c9:Nat),k≤n∧gg=n-k∧s42= .int .i64 k∧s5= .int .i64 (ptS lv bu se more (lv.take k)).d∧s6= .int .i64 (ptS lv bu se more (lv.take k)).s∧s10= .bool (ptS lv bu se more (lv.take k)).told∧s9= .slice A9 n9 c9∧n9≤2*k∧Below wo.heap.size wo wx∧QY wx A9 n9 c9 159 3 (QW KV (ptS lv bu se more (lv.take k)).out)∧ ∀g,QV A9=some g→wo.heap.size≤g)
   case atStart=>exact⟨0,none,0,0,Nat.zero_le _,rfl,rfl,rfl,rfl,by rw[HTb.out];rfl,rfl,Nat.le_refl _,Below.refl _ _,World.ownsRow_nil _ _ _ _,by simp[QV]⟩
   case round=>
    obtain⟨j,A9,n9,c9,hj,rfl,rfl,rfl,rfl,rfl,rfl,hn9,hB,hR9,hup⟩:=hrel;have dd0:=HS.out.ptd more j;have ss0:=HS.out.pts more j;have hdr: ∀b:Bool,b=true∨b=false:=fun b=>by cases b<;>simp
    by_cases hlt2:j<n
    ·have hkl:j<lv.length:=by have:=HN.out;omega
     obtain⟨g,hA,-⟩:=HR.out.elem JK (by omega) hkl;subst hA;obtain⟨x0,x1,x2⟩:=Qw6 (HR.out.below (HB.out.trans (hB.mono HB.out.size))) hkl;have hltz2:(j:Int)< (n:Int):=by omega
     have hk0:(0:Int)≤(j:Int):=by omega
     have HT:=QQ (List.take_succ_eq_append_getElem hkl);have HP:=QQ (show ptS lv bu se more (lv.take (j+1))=ptF more (ptS lv bu se more (lv.take j)) lv[j] by rw[HT.out,Xm2]);have dd1:=HS.out.ptd more (j+1);have ss1:=HS.out.pts more (j+1);rw[HP.out]at dd1 ss1;obtain⟨⟨d,su,td,out⟩,E⟩: ∃st,Hid (ptS lv bu se more (lv.take j)=st):=⟨_,QQ rfl⟩;rw[E.out]at dd0 ss0 dd1 ss1 hR9 HP⊢;dsimp only at dd0 ss0 hR9⊢;unfold ptF at dd1 ss1;dsimp only at dd1 ss1;obtain⟨⟨q0,q1,q2⟩,EQ⟩: ∃q,Hid (lv[j]=q):=⟨_,QQ rfl⟩;rw[EQ.out]at x0 x1 x2 dd1 ss1 HP;dsimp only at x0 x1 x2 dd1 ss1;have i1:RowKit.wrap64 (su+q2)=su+q2:=by unfold RowKit.wrap64;omega
     have i2:RowKit.wrap64 (d-q1)=d-q1:=by unfold RowKit.wrap64;omega
     obtain⟨w1,hw1⟩: ∃w1,wr.alloc (.cells #[.int .i64 q0,.int .i64 q1,.int .i64 q2] 167)=w1:=⟨_,rfl⟩;obtain⟨bx,hbx⟩: ∃bx,wr.heap.size=bx:=⟨_,rfl⟩;have hX1:=QJ.new wr 167 #[.int .i64 q0,.int .i64 q1,.int .i64 q2];have hb1:=hB.alloc hB.size (.cells #[.int .i64 q0,.int .i64 q1,.int .i64 q2] 167);have hr1:=hR9.below ((Below.refl _ wr).alloc (Nat.le_refl _) (.cells #[.int .i64 q0,.int .i64 q1,.int .i64 q2] 167));rw[hw1]at hX1 hb1 hr1;rw[hbx]at hX1;have hbxo:wo.heap.size≤bx:=by rw[←hbx];exact hB.size
     have hbnA:QV A9≠some bx:=fun e=>by have h2:=hR9.lt e;omega
     have HX1:=QQ hX1;have HB1:=QQ hb1;have HR1:=QQ hr1;have HUp:=QQ hup;have HJ:=QQ hn9;have b0:w1.cell? ⟨bx,0,none⟩=some (.int .i64 q0):=by rw[QJ.cell hX1];rfl
     clear dd0 ss0 dd1 ss1 hX1 hb1 hr1 hR9 hup hB hn9 y0';obtain⟨cb,hcb⟩: ∃cb,(!td &&decide (more≤q0))=cb:=⟨_,rfl⟩;go_upto_region 12 with fail
     clear hw1 hbx x0 x1 x2
     go_cut [53] (fun s53 wx=>s53= .bool cb∧wx=w1)
     case first=>
      cases td with
      |true=>
       have HE:=QQ (show false=cb by rw[←hcb];rfl);clear hcb;go_wp2_with fail
       go_meet;exact⟨by rw[HE.out],rfl⟩
      |false=>
       by_cases m1:more≤q0
       ·have d1:=J4 m1
        have HE:=QQ (show true=cb by rw[←hcb,d1];rfl);clear hcb m1;go_wp2_with fail
        go_meet;exact⟨by rw[HE.out],rfl⟩
       ·have d1:=OY m1
        have HE:=QQ (show false=cb by rw[←hcb,d1];rfl);clear hcb m1;go_wp2_with fail
        go_meet;exact⟨by rw[HE.out],rfl⟩
     case rest=>
      obtain⟨rfl,rfl⟩:=hcut;obtain⟨w1,rfl⟩: ∃w1:World,w1=wc:=⟨_,rfl⟩;have HCb:=QQ hcb;clear hcb;go_upto_if 53 with fail
      go_cut [9,10] (fun s9 s10 wx=> ∃(A1:Option Addr) (n1 c1:Nat),s9= .slice A1 n1 c1∧s10= .bool (ptT more td (q0,q1,q2))∧n1≤2*j+1∧Below wo.heap.size wo wx∧QY wx A1 n1 c1 159 3 (QW KV (ptO more d su td (q0,q1,q2) out))∧(∀g,QV A1=some g→wo.heap.size≤g∧g≠bx)∧QJ wx bx 167 #[.int .i64 q0,.int .i64 q1,.int .i64 q2])
      case first=>
       cases cb with
       |false=>
        have HE1:=QQ (show ptT more td (q0,q1,q2)=td by unfold ptT;have:=HCb.out;cases td<;>simp at this⊢;exact this);have HE2:=QQ (show ptO more d su td (q0,q1,q2) out=out by unfold ptO;rw[if_neg];rintro⟨rfl,h2⟩;have:=HCb.out;simp at this;dsimp only at h2;omega);go_wp2_with fail
        go_meet;exact⟨A9,n9,c9,rfl,by rw[HE1.out],by have:=HJ.out;omega,HB1.out,by rw[HE2.out];exact HR1.out,fun g hg=>⟨HUp.out g hg,fun e=>hbnA (by rw[hg,e])⟩,HX1.out⟩
       |true=>
        obtain⟨rfl,hmq⟩:td=false∧more≤q0:=by have:=HCb.out;cases td<;>simp at this;exact⟨rfl,this⟩
        have HE1:=QQ (show ptT more false (q0,q1,q2)=true by unfold ptT;simp;exact hmq)
        by_cases m2:more<q0
        ·have d2:=J4 m2
         have HE2:=QQ (show ptO more d su false (q0,q1,q2) out=out++ [(more,d,su)] by unfold ptO;rw[if_pos ⟨rfl,m2⟩]);have HOa:=QQ (show World.ownsRow (w1.alloc (.cells #[.int .i64 more,.int .i64 d,.int .i64 su] 159)) 0 159 3 (.slice A9 n9 c9) n9 (QW KV out)from HR1.out.below ((Below.refl _ w1).alloc (Nat.le_refl _) _));have HNWa:=QQ (heap_alloc_new w1 (.cells #[.int .i64 more,.int .i64 d,.int .i64 su] 159));have hxb:=QJ.alloc HX1.out (.cells #[.int .i64 more,.int .i64 d,.int .i64 su] 159);have HXb:=QQ hxb;have hbxl:=QJ.lt HX1.out;have HBa:=QQ (HB1.out.alloc HB1.out.size (.cells #[.int .i64 more,.int .i64 d,.int .i64 su] 159));have hn9':n9≤300000:=by have:=HJ.out;omega
         have hsz1:=HB1.out.size;clear m2 hmq hxb;go_wp2_with (at_builtin;(refine wpList_append_lies _ rfl _ _ 134 rfl 0 159 i0 _ 3 24 Tryz.underlying134 hi0 hz0 hz1 hz2 rfl (by omega) (.slice A9 n9 c9) n9 _ rfl HOa.out ⟨w1.heap.size,0,none⟩ 1 1 (KV (more,d,su)) rfl rfl (World.news_of_block (cs:=(KV (more,d,su)).toArray) (t:=159) (fr:=(0,0)) HNWa.out) (Qd6 _) (by omega) (by unfold maxLen;omega) (by omega) (by simp) (w1.heap.size+1) (by simp) ?_);intro gg cap w3 hown hgrow hat hlt3;have HOw:=QQ hown;have HGr:=QQ hgrow;have HAt:=QQ hat;clear hown hgrow hat)
         go_meet;have hat:=HAt.out;rw[XV]at hat;refine⟨some ⟨gg,0,none⟩,n9+1,cap,rfl,by rw[HE1.out],by have:=HJ.out;omega,HBa.out.grown HGr.out (by simp;omega) (fun x hx=>HUp.out x (by rw[←XV A9 n9 c9];exact hx)), ?_,fun g hg=> ?_,QJ.grown HXb.out HGr.out (by rw[XV];exact fun e=>hbnA e.symm)⟩
         ·rw[HE2.out,Qa5];exact HOw.out
         ·cases hg
          rcases hat with h1|h1
          ·exact⟨HUp.out _ h1,fun e=>hbnA (by rw[h1];exact congrArg some e)⟩
          ·exact⟨by show wo.heap.size≤gg;omega,by show gg≠bx;omega⟩
        ·have d2:=OY m2
         have HE2:=QQ (show ptO more d su false (q0,q1,q2) out=out by unfold ptO;rw[if_neg];rintro⟨-,h2⟩;exact m2 h2);clear m2 hmq;go_wp2_with fail
         go_meet;exact⟨A9,n9,c9,rfl,by rw[HE1.out],by have:=HJ.out;omega,HB1.out,by rw[HE2.out];exact HR1.out,fun g hg=>⟨HUp.out g hg,fun e=>hbnA (by rw[hg,e])⟩,HX1.out⟩
      case rest=>
       obtain⟨A1,n1,c1,rfl,rfl,hn1',hB2,hR2,hup2,hX2⟩:=hcut;obtain⟨w2,rfl⟩: ∃w2:World,w2=wc:=⟨_,rfl⟩;have c1':w2.cell? ⟨bx,1,none⟩=some (.int .i64 q1):=by rw[QJ.cell hX2];rfl
       have c2':w2.cell? ⟨bx,2,none⟩=some (.int .i64 q2):=by rw[QJ.cell hX2];rfl
       have c0':w2.cell? ⟨bx,0,none⟩=some (.int .i64 q0):=by rw[QJ.cell hX2];rfl
       have HR2:=QQ hR2;have HB2:=QQ hB2;have HUp2:=QQ hup2;have HX2:=QQ hX2;have hbxl:=QJ.lt hX2;have HOb:=QQ (show World.ownsRow (w2.alloc (.cells #[.int .i64 q0,.int .i64 d,.int .i64 (su+q2)] 159)) 0 159 3 (.slice A1 n1 c1) n1 (QW KV (ptO more d su td (q0,q1,q2) out))from HR2.out.below ((Below.refl _ w2).alloc (Nat.le_refl _) _));have HNWb:=QQ (heap_alloc_new w2 (.cells #[.int .i64 q0,.int .i64 d,.int .i64 (su+q2)] 159));have HBb:=QQ (HB2.out.alloc HB2.out.size (.cells #[.int .i64 q0,.int .i64 d,.int .i64 (su+q2)] 159));have hne:some bx≠(Value.slice A1 n1 c1).ownBlock:=by rw[XV];exact fun e=>(hup2 bx e.symm).2 rfl
       have hc1:(w2.alloc (.cells #[.int .i64 q0,.int .i64 d,.int .i64 (su+q2)] 159)).cell? ⟨bx,1,none⟩=some (.int .i64 q1):=by rw[QJ.cell (QJ.alloc hX2 _)];rfl
       have hsz1:=hB2.size;have hn1'':n1≤300000:=by omega
       have HN1:=QQ hn1';clear b0 hR2 hB2 hup2 hX2 hn1';go_wp2_with (at_builtin;(refine wpList_append_lies _ rfl _ _ 134 rfl 0 159 i0 _ 3 24 Tryz.underlying134 hi0 hz0 hz1 hz2 rfl (by omega) (.slice A1 n1 c1) n1 _ rfl HOb.out ⟨w2.heap.size,0,none⟩ 1 1 (KV (q0,d,su+q2)) rfl rfl (World.news_of_block (cs:=(KV (q0,d,su+q2)).toArray) (t:=159) (fr:=(0,0)) HNWb.out) (Qd6 _) (by omega) (by unfold maxLen;omega) (by omega) (by simp) (w2.heap.size+1) (by simp) ?_);intro gg cap w3 hown hgrow hat hlt3;have zz1:=hgrow.cell hc1 hne;have HOw:=QQ hown;have HGr:=QQ hgrow;have HAt:=QQ hat;clear hown hgrow hat)
       go_roundg (n- (j+1))
       case measure=>omega
       case rel=>
        have hat:=HAt.out;rw[XV]at hat;refine⟨j+1,some ⟨gg,0,none⟩,n1+1,cap,by omega,rfl,by go_num,by rw[HP.out,i2];rfl,by rw[HP.out];rfl,by rw[HP.out];rfl,rfl,by have:=HN1.out;omega,HBb.out.grown HGr.out (by simp;omega) (fun x hx=>(HUp2.out x (by rw[←XV A1 n1 c1];exact hx)).1), ?_,fun g hg=> ?_⟩
        ·rw[HP.out]
         show QY _ _ _ _ _ _ (QW KV (ptO more d su td (q0,q1,q2) out++ [(q0,d,su+q2)]));rw[Qa5];exact HOw.out
        ·cases hg
         rcases hat with h1|h1
         ·exact(HUp2.out _ h1).1
         ·show wo.heap.size≤gg;omega
    ·obtain rfl:n=j:=by omega
     have hltz2: ¬(n:Int)< (n:Int):=by omega
     have etk:lv.take n=lv:=List.take_of_length_le (by rw[HN.out];exact Nat.le_refl _);rw[etk]at hR9 dd0 ss0⊢;have HPt:Hid (Q9 lv bu se more=if(ptS lv bu se more lv).told=false then(ptS lv bu se more lv).out++ [(more,(ptS lv bu se more lv).d,(ptS lv bu se more lv).s)]else(ptS lv bu se more lv).out):=QQ rfl;obtain⟨⟨d,su,td,out⟩,E⟩: ∃st,Hid (ptS lv bu se more lv=st):=⟨_,QQ rfl⟩;rw[E.out]at dd0 ss0 hR9 HPt⊢;dsimp only at dd0 ss0 hR9 HPt⊢;obtain⟨w1,rfl⟩: ∃w1:World,w1=wr:=⟨_,rfl⟩;have HR1:=QQ hR9;have HB1:=QQ hB;have HUp:=QQ hup;have hsz1:=hB.size
     cases td with
     |true=>
      rw[if_neg (by simp)]at HPt;have hl:=Qb6 JK (by omega) hR9;have HL:=QQ hl;clear hR9 hB hup hl;go_wp2_with fail
      refine bodyPost_ret (results_tmp rfl _ _ _) rfl ?_;rw[HPt.out,HL.out];exact⟨HB.out.trans (HB1.out.mono HB.out.size),A9,c9,rfl,HR1.out⟩
     |false=>
      rw[if_pos rfl]at HPt;have hl:=Qb6 JK (by omega) hR9;have HL:Hid ((out++ [(more,d,su)]).length=n9+1):=QQ (by simp[hl]);have HOa:=QQ (show World.ownsRow (w1.alloc (.cells #[.int .i64 more,.int .i64 d,.int .i64 su] 159)) 0 159 3 (.slice A9 n9 c9) n9 (QW KV out)from HR1.out.below ((Below.refl _ w1).alloc (Nat.le_refl _) _));have HNWa:=QQ (heap_alloc_new w1 (.cells #[.int .i64 more,.int .i64 d,.int .i64 su] 159));have HBa:=QQ (HB1.out.alloc HB1.out.size (.cells #[.int .i64 more,.int .i64 d,.int .i64 su] 159));clear hR9 hB hup hl;go_wp2_with (at_builtin;(refine wpList_append_lies _ rfl _ _ 134 rfl 0 159 i0 _ 3 24 Tryz.underlying134 hi0 hz0 hz1 hz2 rfl (by omega) (.slice A9 n9 c9) n9 _ rfl HOa.out ⟨w1.heap.size,0,none⟩ 1 1 (KV (more,d,su)) rfl rfl (World.news_of_block (cs:=(KV (more,d,su)).toArray) (t:=159) (fr:=(0,0)) HNWa.out) (Qd6 _) (by omega) (by unfold maxLen;omega) (by omega) (by simp) (w1.heap.size+1) (by simp) ?_);intro gg cap w3 hown hgrow hat hlt3;have HOw:=QQ hown;have HGr:=QQ hgrow;have HAt:=QQ hat;clear hown hgrow hat)
      refine bodyPost_ret (results_tmp rfl _ _ _) rfl ?_;rw[HPt.out,HL.out];refine⟨HB.out.trans ((HBa.out.grown HGr.out (by simp;omega) (fun x hx=>HUp.out x (by rw[←XV A9 n9 c9];exact hx))).mono HB.out.size),_,_,rfl, ?_⟩;rw[Qa5];exact HOw.out
end Go.Proofs.YtnlngicnfegjgaaGreat
