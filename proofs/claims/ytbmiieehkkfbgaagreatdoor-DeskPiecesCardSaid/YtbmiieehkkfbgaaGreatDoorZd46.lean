/- Contracts and walks that the law's proof needs. -/
import Derived.Test.YtbmiieehkkfbgaaGreatDoorZd45
import Derived.Test.YtbmiieehkkfbgaaGreatDoorZd9
import Derived.Test.YtbmiieehkkfbgaaGreatDoorZd41
import Derived.RangeFuncCalls
import Derived.Shelf.Abstract
set_option linter.unusedVariables false
set_option maxRecDepth 100000
set_option maxHeartbeats 8000000
namespace Go.Proofs.YtbmiieehkkfbgaaGreatDoor
open Go Go.RowKit
theorem Xn3 {w:World} {A:Option Addr} {c:Nat} {t:TypeId} {ps:List (Int×Int)} (h:QW w A ps.length c t 2 (JQ Jj8 ps)):I8 w A ps.length c ps:=by
 refine⟨rfl,fun hl=> ?_⟩
 obtain⟨g,hA,hc⟩:=QW.elem Qv3 (by omega) h hl
 refine⟨g,0,hA,h.lt (by rw[hA];rfl),fun i hi=> ?_⟩
 obtain⟨g',hA',hc'⟩:=QW.elem Qv3 (by omega) h hi
 rw[hA]at hA'
 cases hA'
 have e:ps.getD i (0,0)=ps[i]:=by rw[List.getD_eq_getElem?_getD,List.getElem?_eq_getElem hi];rfl
 rw[e]
 exact⟨by have:=hc' 0 _ rfl;rw[Nat.zero_add];exact this,by have:=hc' 1 _ rfl;rw[Nat.zero_add];exact this⟩
theorem Xc3 (ps:List (Int×Int)): ∀i,0≤IV ps i∧IV ps i≤100
 |0=>by unfold IV;split<;>omega
 |k+1=>by
  have h:=Xq2 (ps.getD k (0,0)).1 (ps.getD k (0,0)).2 (ps.getD (k+1) (0,0)).1 (ps.getD (k+1) (0,0)).2;show 0≤I1 _ _ _ _∧I1 _ _ _ _≤100;omega
theorem Zg8 {ps:List (Int×Int)} {st dy p tk mo n pl:Int} (h:Qj2 ps st dy p tk mo n pl):KZ n:=by
 rcases h with⟨h,-⟩|⟨-,-,h,-⟩|⟨-,-,-,h,-⟩|⟨-,-,-,h,-⟩
 ·rcases h with⟨-,h,-⟩|⟨-,h,-⟩|⟨-,-,i,-,-,-,h,-⟩|⟨-,-,-,h,-⟩
  ·exact XZ (by omega)
  ·exact XZ (by omega)
  ·rw[h];exact XZ (Xc3 ps i)
  ·exact XZ (by omega)
 ·exact XZ (by omega)
 ·exact XZ (by omega)
 ·exact XZ (by omega)
theorem Kf6 {w:World} {d k n0:Nat} {G:Nat→Prop} {s:DS} {A:Option Addr} {ws:List ByteArray} (h:MIn w d G k s A n0 ws) (c:Nat):
  Calls Tryz.prog 40 #[.pointer (some ⟨d,0,none⟩),.slice A n0 c] w (Qb6 w d G k (Qz7 s ws)):=by
 have H:=QQ h
 clear h
 cases hn:XV ws 0 with
 |none=>
  have HP:=QQ (show Qz7 s ws=(s,.bad 3) by unfold Qz7 ZK;rw[hn]);go_enter Tryz.func40,Tryz.ntmps40
  go_wp2_with (go_at_call 47;refine(H.out.numbers_bad c hn).mono ?_;rintro e w1 ⟨rfl,hB⟩)
  exact⟨rfl,XW HP.out rfl (XZ (by omega)) (H.out.desk.to hB)⟩
 |some l=>
  cases he:s.e with
  |some m=>
   have HP:=QQ (show Qz7 s ws=(s,.bad 6) by unfold Qz7 ZK noE;rw[hn];simp only[he]);go_enter Tryz.func40,Tryz.ntmps40
   go_wp2_with (first
    |(go_at_call 47;refine(H.out.numbers_ok c hn).mono ?_;rintro e w1 ⟨A1,c1,rfl,hB,hC,hup⟩)
    |(go_at_call 48;refine(H.out.ready_old he hB).mono ?_;rintro e w2 ⟨rfl,hB2⟩))
   exact⟨rfl,XW HP.out rfl (XZ (by omega)) (H.out.desk.to (hB.trans (hB2.mono hB.size)))⟩
  |none=>
   have HP:=QQ (show Qz7 s ws=(if Kq3 s=0 then {s with e:=some (Jz2 s.rows s.st s.dy s.p s.tk s.mo)}else s,Jr8 (Kq3 s) [115,116,97,114,116]) by unfold Qz7 ZK noE;rw[hn];simp only[he]);have HNew:=QQ (fun(A0:Option Addr) (c0:Nat) (W:World) (hPr:I8 W A0 s.rows.length c0 s.rows) (hm:s.rows.length≤9223372036854775807)=>Za2 A0 s.rows.length c0 s.rows s.st s.dy s.p s.tk s.mo W hPr hm);obtain⟨nr,hnr⟩: ∃nr,s.rows.length=nr:=⟨_,rfl⟩;have hnrm:nr≤9223372036854775807:=by
    obtain⟨A0,c0,-,hrw,-⟩:=H.out.desk.n he;have:=hrw;rw[hnr]at this
    cases A0 with
    |none=>
     have hl:=V0 Qv3 (by omega) this;obtain⟨-,h2|⟨g,cap,cur,h3,-⟩⟩:=this
     ·rw[h2.2];omega
     ·cases h3
    |some a=>
     obtain⟨-,h2|⟨g,cap,cur,h3,-,-,h4,h5,-⟩⟩:=this
     ·cases h2.1
     ·unfold maxLen at h5;omega
   have HNr:=QQ hnr;simp only[hnr]at HNew;clear hnr;go_enter Tryz.func40,Tryz.ntmps40
   go_wp2_with (first
    |(go_at_call 47;refine(H.out.numbers_ok c hn).mono ?_;rintro e w1 ⟨A1,c1,rfl,hB,hC,hup⟩)
    |(go_at_call 48;refine(H.out.ready_new he hB).mono ?_;rintro e w2 ⟨rfl,hB2⟩;have HB:=QQ (hB.trans (hB2.mono hB.size));obtain⟨A0,c0,hb,hrw,hfr,hGd⟩:=(((H.out.desk.n he).below HB.out)).parts;have HBk:=QQ hb;have HRw:=QQ hrw;have HFr:=QQ hfr;unfold Xm6 at hb;rw[HNr.out]at hb;obtain⟨z0,z1,z2,z3,z4,z5,z6⟩:=Xx0 hb;have f6:=QJ.frozen hb 6;clear hb hrw hfr hB hB2)
    |(go_at_call 61;refine(HNew.out A0 c0 w2 (by have:=Xn3 HRw.out;rw[HNr.out]at this;exact this) hnrm).mono ?_;rintro ev w3 ⟨hB3,(⟨v,n,pl,rfl,hE,hn0,hC⟩|⟨hC,E,F,rfl,hE,hF⟩)⟩))
   ·have hB3':=HB.out.trans (hB3.mono HB.out.size)
    have hc:=Kj2 (d:=s) hC;have hf:=Zg8 hC;refine(Zg0 v n pl w3 (H.out.globs hB3') hE hn0).mono ?_;rintro e w4 ⟨hev,hB4⟩;unfold Qb5 at hev;subst hev;refine⟨rfl,XW (s':=s) (a:= .bad n) ?_ rfl hf (H.out.desk.to (hB3'.trans (hB4.mono hB3'.size)))⟩;rw[HP.out,hc,if_neg hn0,Qj5 hn0]
   ·have hB3':=HB.out.trans (hB3.mono HB.out.size)
    have hc:=Kj2 (d:=s) hC;have hmo:=Zg1 hC (k+1);have HF:=QQ hF;have HE:=QQ hE;refine(Jj7 w3).mono ?_;rintro e w4 ⟨rfl,hB4⟩;have hB4':=hB3.trans (hB4.mono hB3.size);have hb4:=HBk.out.keep hB4';have HB4:=QQ hB4';have HE4:=QQ (HE.out.below hB4);have HBk4:=QQ hb4;unfold Xm6 at hb4;rw[HNr.out]at hb4;obtain⟨z0,z1,z2,z3,z4,z5,z6⟩:=Xx0 hb4;have f6:=QJ.frozen hb4 6;clear hb4 hE hF hC hB3 hB4' hB4 hB3';go_wp2_with fail
    go_ret;have hdl:d<w2.heap.size:=HBk.out.lt;have hdl0:d<w.heap.size:=by
     obtain⟨-,v0,v1,v2,v3,v4,v5,v6,h⟩:=H.out.desk.blk;exact h.lt
    have hFd: ∀i,F i→i≠d:=fun i hi e=>by have:=HF.out i hi;omega
    refine XW (s':= {s with e:=some (Jz2 s.rows s.st s.dy s.p s.tk s.mo)}) (a:= .ok [115,116,97,114,116]) ?_ rfl (by show _≤10000000000;decide) ?_
    ·rw[HP.out,hc,if_pos rfl,Qp0 rfl]
    ·have hb6:=QJ.set_ HBk4.out 6 (.pointer (some ⟨E,0,none⟩))
     refine⟨fun i=>i=d∨F i,Qs5.at_ ⟨_,_,_,_,_,_,E,F,hb6,HE4.out.keeps (QK.set_ w4 ⟨d,6,none⟩ _) (fun i hi e=>hFd i hi e),fun h=>hFd d h rfl,fun i=>Iff.rfl⟩ hmo rfl, ?_,fun i hi=> ?_⟩
     ·exact(QK.after (HB.out.trans (HB4.out.mono HB.out.size)) (QK.set_ w4 ⟨d,6,none⟩ _)).mono (fun i hi=>by rw[hi];exact hGd)
     ·rcases hi with e1|e1
      ·exact .inl (by rw[e1];exact hGd)
      ·exact .inr (Nat.le_trans HB.out.size (HF.out i e1))
theorem Jr1: ∀(n:Nat) (l:List Int) (a b:Int),l.length=2*n→O5 (l++ [a,b])=O5 l++ [(a,b)]
 |0,l,a,b,h=>by
  have:l= []:=List.length_eq_zero_iff.1 (by omega);subst this
  rfl
 |n+1,x::y::l,a,b,h=>by
  have h':l.length=2*n:=by simp at h;omega
  show(x,y)::O5 (l++ [a,b])=(x,y)::O5 l++ [(a,b)];rw[Jr1 n l a b h']
  rfl
 |n+1,[x],a,b,h=>by simp at h;omega
theorem Xx1 {l:List Int} {j:Nat} (h:2*j+1<l.length):O5 (l.take (2* (j+1)))=O5 (l.take (2*j))++ [(l[2*j],l[2*j+1])]:=by
 have h1:l.take (2* (j+1))=l.take (2*j)++ [l[2*j],l[2*j+1]]:=by
  rw[show 2* (j+1)=2*j+1+1 by omega,List.take_succ_eq_append_getElem h,List.take_succ_eq_append_getElem (by omega),List.append_assoc]
  rfl
 rw[h1,Jr1 j _ _ _ (by rw[List.length_take];omega)]
theorem Xa6: ∀(n:Nat) (l:List Int),l.length=2*n→(O5 l).length=n
 |0,l,h=>by
  have:l= []:=List.length_eq_zero_iff.1 (by omega);subst this
  rfl
 |n+1,x::y::l,h=>by
  show(O5 l).length+1=n+1;rw[Xa6 n l (by simp at h;omega)]
 |n+1,[x],h=>by simp at h;omega
theorem Kf7 {w:World} {d k n0:Nat} {G:Nat→Prop} {s:DS} {A:Option Addr} {ws:List ByteArray} (h:MIn w d G k s A n0 ws) (c:Nat):
  Calls Tryz.prog 41 #[.pointer (some ⟨d,0,none⟩),.slice A n0 c] w (Qb6 w d G k (Qq2 s ws)):=by
 have H:=QQ h
 clear h
 cases hn:XV ws (-1)with
 |none=>
  have HP:=QQ (show Qq2 s ws=(s,.bad 3) by unfold Qq2 ZK;rw[hn]);go_enter Tryz.func41,Tryz.ntmps41
  go_wp2_with (go_at_call 47;refine(H.out.numbers_bad c hn).mono ?_;rintro e w1 ⟨rfl,hB⟩)
  exact⟨rfl,XW HP.out rfl (XZ (by omega)) (H.out.desk.to hB)⟩
 |some l=>
  have HF:=QQ (YK hn);obtain⟨q,hq⟩: ∃q,l.length=q:=⟨_,rfl⟩;have HQ:=QQ hq;have hq5:q≤100000:=by have:=HF.out.1;have:=H.out.len;have:=H.out.n;omega
  by_cases hod:q % 2=0
  ·cases he:s.e with
   |some m=>
    have HP:=QQ (show Qq2 s ws=(s,.bad 6) by unfold Qq2 ZK noE;rw[hn];simp only[hq,hod,he,if_true]);have t1:(((q:Int)% 2) != 0)=false:=Jk1 (by omega);go_enter Tryz.func41,Tryz.ntmps41
    go_wp2_with (first
     |(go_at_call 47;refine(H.out.numbers_ok c hn).mono ?_;rw[HQ.out];rintro e w1 ⟨A1,c1,rfl,hB,hC,hup⟩)
     |(go_at_call 48;refine(H.out.ready_old he hB).mono ?_;rintro e w2 ⟨rfl,hB2⟩))
    exact⟨rfl,XW HP.out rfl (XZ (by omega)) (H.out.desk.to (hB.trans (hB2.mono hB.size)))⟩
   |none=>
    have HP:=QQ (show Qq2 s ws=({s with rows:=O5 l},.ok [116,97,98,108,101]) by unfold Qq2 ZK noE;rw[hn];simp only[hq,hod,he,if_true]);have t1:(((q:Int)% 2) != 0)=false:=Jk1 (by omega);obtain⟨qn,hqn⟩: ∃qn,q=2*qn:=⟨q/2,by omega⟩;have HQn:=QQ hqn;obtain⟨i0,hi0,hz0,hz1,hz2⟩:=info_parts Xq4;clear hq hod hqn;go_enter Tryz.func41,Tryz.ntmps41
    go_wp2_with (first
     |(go_at_call 47;refine(H.out.numbers_ok c hn).mono ?_;rw[HQ.out];rintro e w1 ⟨A1,c1,rfl,hB,hC,hup⟩;have HC1:=QQ hC;have HUp1:=QQ hup;clear hC hup)
     |(go_at_call 48;refine(H.out.ready_new he hB).mono ?_;rintro e w2 ⟨rfl,hB2⟩;have HB1:=QQ hB;have HB2:=QQ hB2;have HB:=QQ (hB.trans (hB2.mono hB.size));obtain⟨A0,c0,hb,hrw,hfr,hGd⟩:=(((H.out.desk.n he).below HB.out)).parts;have HBk:=QQ hb;unfold Xm6 at hb;have z0:=(Xx0 hb).1;have f0:=QJ.frozen hb 0;clear hb hrw hfr hB hB2))
    have hdl0:d<w.heap.size:=by
     obtain⟨-,v0,v1,v2,v3,v4,v5,v6,h⟩:=H.out.desk.blk;exact h.lt
    go_loopg [6] qn (fun gg s6 wx=> ∃(k j c9:Nat) (A9:Option Addr),k=2*j∧j≤qn∧gg=qn-j∧s6= .int .i64 k∧QK (fun i=>i=d) w2 wx∧QJ wx d 29 #[.slice A9 j c9,.int .i64 s.st,.int .i64 s.dy,.int .i64 s.p,.int .i64 s.tk,.int .i64 s.mo,.pointer none]∧QW wx A9 j c9 93 2 (JQ Jj8 (O5 (l.take k)))∧ ∀g,QZ A9=some g→w2.heap.size≤g)
    case atStart=>
     exact⟨0,0,0,none,rfl,Nat.zero_le _,rfl,rfl,QK.set_ w2 ⟨d,0,none⟩ _,QJ.set_ HBk.out 0 (.slice none 0 0),World.ownsRow_nil _ _ _ _,by simp[QZ]⟩
    case round=>
     obtain⟨k,j,c9,A9,hkj,hj,rfl,rfl,hK,hb,hR,hup⟩:=hrel;have HK:=QQ hK;have HBr:=QQ hb;have HR:=QQ hR;have HUp:=QQ hup;have HKj:=QQ hkj;have z0r:=(Xx0 hb).1;have f0r:=QJ.frozen hb 0;clear hK hb hR hup
     by_cases hlt:k<q
     ·have hq2:=HQn.out
      have hk0:(0:Int)≤(k:Int):=by omega
      have hk1:(k:Int)< (q:Int):=by omega
      obtain⟨k1,hk1e⟩: ∃k1:Nat,k1=k+1:=⟨_,rfl⟩;have hw1:RowKit.wrap64 ((k:Int)+1)=(k1:Int):=by unfold RowKit.wrap64;omega
      have hw2:IntKind.i64.wrap ((k:Int)+1)=(k1:Int):=by rw[IntKind.wrap_i64];omega
      have hk2:(k1:Int)< (q:Int):=by omega
      have hk3:(0:Int)≤(k1:Int):=by omega
      have hkl:k<l.length:=by have:=HQ.out;omega
      have hkl2:k+1<l.length:=by have:=HQ.out;omega
      obtain⟨x,HX⟩: ∃x,Hid (l[k]=x):=⟨_,QQ rfl⟩;obtain⟨y,HY⟩: ∃y,Hid (l[k+1]=y):=⟨_,QQ rfl⟩;obtain⟨g1,o1,hA1,cx⟩:=HC1.out k (Jm7 x) (by rw[List.getElem?_map,List.getElem?_eq_getElem hkl,HX.out];rfl);obtain⟨g1',o1',hA1',cy⟩:=HC1.out (k+1) (Jm7 y) (by rw[List.getElem?_map,List.getElem?_eq_getElem hkl2,HY.out];rfl)
      cases hA1.symm.trans hA1';subst hA1;have hgd:g1≠d:=fun h=>by have:=HUp1.out g1 rfl;omega
      have hgl:g1<w2.heap.size:=Nat.lt_of_lt_of_le (World.block_lt_of_cell? w1 _ cx) HB2.out.size;have yx:wr.cell? ⟨g1,o1+k,none⟩=some (.int .i64 x):=((HK.out.cell (p:=⟨g1,o1+k,none⟩) hgl hgd).trans (HB2.out.cell (p:=⟨g1,o1+k,none⟩) (World.block_lt_of_cell? w1 _ cx))).trans cx;have yy:wr.cell? ⟨g1,o1+k1,none⟩=some (.int .i64 y):=by rw[hk1e];exact((HK.out.cell (p:=⟨g1,o1+ (k+1),none⟩) hgl hgd).trans (HB2.out.cell (p:=⟨g1,o1+ (k+1),none⟩) (World.block_lt_of_cell? w1 _ cy))).trans cy
      have HTk:=QQ (show O5 (l.take (k+2))=O5 (l.take k)++ [(x,y)] by
       subst hkj;rw[←HX.out,←HY.out];exact Xx1 hkl2)
      have HK1:=QQ hk1e;clear cx cy hq2 hkj hA1' z0 f0 hk1e;go_wp2_with fail
      have hzd:wr.drew.cell? ⟨d,0,none⟩=some (.slice A9 j c9):=z0r;refine Z4 [21] (fun W=>W.cell? ⟨d,0,none⟩=some (.slice A9 j c9)) (fun W=>W.cell? ⟨g1,o1+k,none⟩=some (.int .i64 x)∧W.cell? ⟨g1,o1+k1,none⟩=some (.int .i64 y)) hzd ⟨yx,yy⟩ (fun hS hU=> ?_);refine tP 0 (.pointer (some ⟨d,0,none⟩)) ?_;refine tP 1 (.pointer (some ⟨d,0,none⟩)) ?_;refine tP 2 (.pointer (some ⟨d,0,none⟩)) ?_;refine tP 3 (.pointer (some ⟨d,0,none⟩)) ?_;refine tP 4 (.pointer (some ⟨d,0,none⟩)) ?_;refine tN 5 (.slice A9 j c9) ?_;refine tP 6 (.slice (some ⟨g1,o1,none⟩) q c1) ?_;refine tP 7 (.int .i64 (k:Int)) ?_;refine tP 8 (.pointer (some ⟨g1,o1+k,none⟩)) ?_;refine tP 9 (.int .i64 x) ?_;refine tP 10 (.slice (some ⟨g1,o1,none⟩) q c1) ?_;refine tP 11 (.int .i64 (k:Int)) ?_;refine tP 12 (.int .i64 (k1:Int)) ?_;refine tP 13 (.pointer (some ⟨g1,o1+k1,none⟩)) ?_;refine tP 14 (.int .i64 y) ?_;refine tP 15 (.agg #[.int .i64 x,.int .i64 y]) ?_;refine oN 16 fun K1 hK1=> ?_
      go_simp;have hqa:Below wr.heap.size wr (wr.alloc (.cells #[.int .i64 x,.int .i64 y] 93)).drew:=Below.drew ((Below.refl _ wr).alloc (Nat.le_refl _) _);have hgr:g1<wr.heap.size:=Nat.lt_of_lt_of_le hgl HK.out.size;have hUa:(wr.alloc (.cells #[.int .i64 x,.int .i64 y] 93)).drew.cell? ⟨g1,o1+k,none⟩=some (.int .i64 x)∧(wr.alloc (.cells #[.int .i64 x,.int .i64 y] 93)).drew.cell? ⟨g1,o1+k1,none⟩=some (.int .i64 y):=⟨(hqa.cell (p:=⟨g1,o1+k,none⟩) hgr).trans yx,(hqa.cell (p:=⟨g1,o1+k1,none⟩) hgr).trans yy⟩;have hSa:(wr.alloc (.cells #[.int .i64 x,.int .i64 y] 93)).drew.cell? ⟨d,0,none⟩=some (.slice A9 j c9):=(hqa.cell (p:=⟨d,0,none⟩) HBr.out.lt).trans z0r;refine hK1 _ _ (fun _=>hSa) hUa ?_;clear hK1;have hj5:j≤100000:=by have:=HQn.out;omega
      refine oN 17 fun K2 hK2=> ?_
      refine(if_pos (by rfl)).mpr ?_;refine wp_append_lies _ _ _ 24 rfl 0 93 i0 _ 2 16 Tryz.underlying24 hi0 hz0 hz1 hz2 rfl (by omega) (.slice A9 j c9) j _ rfl (QW.below HR.out hqa) ⟨wr.heap.size,0,none⟩ 1 1 [.int .i64 x,.int .i64 y] rfl rfl (World.news_of_block (cs:= #[.int .i64 x,.int .i64 y]) (t:=93) (fr:=(0,0)) (heap_alloc_new wr _)) (by simp[Value.oneCell']) (by omega) (by unfold maxLen;omega) (by omega) (by simp) (wr.heap.size+1) (by simp) ?_;intro gg cap w8 hown hgrow hat hlt8;have hgrow':=hgrow;rw[JW]at hgrow' hat;have hne: ∀i,i<w2.heap.size→some i≠QZ A9:=fun i hi e=>by have:=HUp.out i e.symm;omega
      have hdl2:d<w2.heap.size:=HBk.out.lt;have hb8:=QJ.grown (HBr.out.keep hqa) hgrow' (hne d hdl2);have z08:=(Xx0 hb8).1;have f08:=QJ.frozen hb8 0;have hk8:w8.heap[g1]?=(wr.alloc (.cells #[.int .i64 x,.int .i64 y] 93)).drew.heap[g1]?:=hgrow'.block g1 (Nat.lt_of_lt_of_le hgr hqa.size) (hne g1 hgl);have hU8:w8.cell? ⟨g1,o1+k,none⟩=some (.int .i64 x)∧w8.cell? ⟨g1,o1+k1,none⟩=some (.int .i64 y):=⟨(World.cell?_of_block (a:=⟨g1,o1+k,none⟩) hk8).trans hUa.1,(World.cell?_of_block (a:=⟨g1,o1+k1,none⟩) hk8).trans hUa.2⟩;refine hK2 _ _ (fun _=>z08) hU8 ?_;have HOw:=QQ hown;have HGr:=QQ hgrow';have HAt:=QQ hat;have HB8:=QQ hb8;clear hK2 hown hgrow hgrow' hat hb8 hk8 hUa hSa;refine tP 18 (.pointer (some ⟨d,0,none⟩)) ?_;refine tP 19 (.pointer (some ⟨d,0,none⟩)) ?_;refine tP 20 (.pointer (some ⟨d,0,none⟩)) ?_;refine oN 21 fun K3 hK3=> ?_
      go_simp;have hU9:(w8.setCell ⟨d,0,none⟩ (.slice (some ⟨gg,0,none⟩) (j+1) cap)).cell? ⟨g1,o1+k,none⟩=some (.int .i64 x)∧(w8.setCell ⟨d,0,none⟩ (.slice (some ⟨gg,0,none⟩) (j+1) cap)).cell? ⟨g1,o1+k1,none⟩=some (.int .i64 y):=⟨V4 hU8.1 hgd,V4 hU8.2 hgd⟩;refine hK3 _ _ (fun e=>absurd e (by decide)) hU9 ?_;clear hK3 hU9 hU8 z08 f08 hS hU hi0 hz0 hz1 hz2 hzd;refine U5 ?_ (by kernel_rfl) _;have hw4:IntKind.i64.wrap ((k:Int)+2)=((k+2:Nat):Int):=by rw[IntKind.wrap_i64];omega
      go_wp2_with fail
      go_roundg (qn- (j+1))
      case measure=>have:=HQn.out;have:=HKj.out;omega
      case rel=>
       have hq2:=HQn.out;have hkj:=HKj.out;have k1:=HK.out.then_ hqa;have k2:QK (fun i=>i=d) w2 w8:=⟨HGr.out.os.trans k1.os,HGr.out.tape.trans k1.tape,HGr.out.output.trans k1.output,Nat.le_trans k1.size HGr.out.size,fun i hi hn=>(HGr.out.block i (Nat.lt_of_lt_of_le hi k1.size) (hne i hi)).trans (k1.block i hi hn)⟩;have hgg:w2.heap.size≤gg:=by
        rcases HAt.out with h1|h1
        ·exact HUp.out _ h1
        ·have:=HK.out.size;omega
       refine⟨k+2,j+1,cap,some ⟨gg,0,none⟩,by omega,by omega,rfl,rfl,OJ k2 0 _,QJ.set_ HB8.out 0 _, ?_,fun g hg=>by cases hg;exact hgg⟩;rw[HTk.out,Y7];exact QW.keeps (xs:=JQ Jj8 (O5 (l.take k))++Jj8 (x,y)) HOw.out (QK.set_ w8 ⟨d,0,none⟩ _) (fun g hg e=>by cases hg;have e:gg=d:=e;omega)
     ·have hke:k=q:=by have:=HQn.out;omega
      have hltz: ¬(k:Int)< (q:Int):=by omega
      have htk:l.take k=l:=List.take_of_length_le (by have:=HQ.out;omega);have hjq:j=qn:=by have:=HQn.out;omega
      have HLen:=QQ (show(O5 l).length=j by rw[hjq];exact Xa6 qn l (by rw[HQ.out];exact HQn.out));have HR2:=QQ (show QW wr A9 j c9 93 2 (JQ Jj8 (O5 l)) by have:=HR.out;rw[htk]at this;exact this);clear htk hjq hkj hke;go_wp2_with fail
      go_ret;refine XW HP.out rfl (by show _≤10000000000;decide) (Jk0 (s':= {s with rows:=O5 l}) HB.out hGd HK.out he (A:=A9) (c:=c9) ?_ ?_ (fun i hi=>⟨fun e=> ?_,.inr (Nat.le_trans HB.out.size (HUp.out i hi))⟩))
      ·unfold Xm6
       show QJ wr d _ #[.slice A9 (O5 l).length c9,_,_,_,_,_,_];rw[HLen.out];exact HBr.out
      ·show QW wr A9 (O5 l).length c9 _ 2 _
       rw[HLen.out];exact HR2.out
      ·have:=HUp.out i hi
       have:=HBk.out.lt;omega
  ·have HP:=QQ (show Qq2 s ws=(s,.bad 3) by unfold Qq2 ZK;rw[hn];simp only[hq,hod,if_false])
   have t1:(((q:Int)% 2) != 0)=true:=Je0 (by omega);go_enter Tryz.func41,Tryz.ntmps41
   go_wp2_with (first
    |(go_at_call 47;refine(H.out.numbers_ok c hn).mono ?_;rw[HQ.out];rintro e w1 ⟨A1,c1,rfl,hB,hC,hup⟩;have HB:=QQ hB;clear hB hC hup)
    |(go_at_call 18;refine(Qe5 3 _ (H.out.globs HB.out)).mono ?_;rintro e w2 ⟨hev,hB2⟩;unfold Qb5 at hev;subst hev))
   exact⟨rfl,XW HP.out rfl (XZ (by omega)) (H.out.desk.to (HB.out.trans (hB2.mono HB.out.size)))⟩
theorem Kf8: ∀i,i<18→ ∀(args:Array Value) (w:World),(callFunc (Xa1.getD i 0) args).run Tryz.prog w= .ok (.enter (Xa1.getD i 0) args) w
 |0,_=>Go.Proofs.enters_of Tryz.func25 (by kernel_rfl) rfl
 |1,_=>Go.Proofs.enters_of Tryz.func26 (by kernel_rfl) rfl
 |2,_=>Go.Proofs.enters_of Tryz.func27 (by kernel_rfl) rfl
 |3,_=>Go.Proofs.enters_of Tryz.func28 (by kernel_rfl) rfl
 |4,_=>Go.Proofs.enters_of Tryz.func29 (by kernel_rfl) rfl
 |5,_=>Go.Proofs.enters_of Tryz.func30 (by kernel_rfl) rfl
 |6,_=>Go.Proofs.enters_of Tryz.func31 (by kernel_rfl) rfl
 |7,_=>Go.Proofs.enters_of Tryz.func32 (by kernel_rfl) rfl
 |8,_=>Go.Proofs.enters_of Tryz.func33 (by kernel_rfl) rfl
 |9,_=>Go.Proofs.enters_of Tryz.func34 (by kernel_rfl) rfl
 |10,_=>Go.Proofs.enters_of Tryz.func35 (by kernel_rfl) rfl
 |11,_=>Go.Proofs.enters_of Tryz.func36 (by kernel_rfl) rfl
 |12,_=>Go.Proofs.enters_of Tryz.func37 (by kernel_rfl) rfl
 |13,_=>Go.Proofs.enters_of Tryz.func38 (by kernel_rfl) rfl
 |14,_=>Go.Proofs.enters_of Tryz.func39 (by kernel_rfl) rfl
 |15,_=>Go.Proofs.enters_of Tryz.func40 (by kernel_rfl) rfl
 |16,_=>Go.Proofs.enters_of Tryz.func41 (by kernel_rfl) rfl
 |17,_=>Go.Proofs.enters_of Tryz.func42 (by kernel_rfl) rfl
 |n+18,h=>by omega
theorem Zc3 {w:World} {d k n0:Nat} {G:Nat→Prop} {s:DS} {A:Option Addr} {ws:List ByteArray} (h:MIn w d G k s A n0 ws) (c:Nat): ∀i,i<18→
  Calls Tryz.prog (Xa1.getD i 0) #[.pointer (some ⟨d,0,none⟩),.slice A n0 c] w (Qb6 w d G k ((Xh7.getD i Qw1) s ws))
 |0,_=>Xn2 h c
 |1,_=>Ks5 h c
 |2,_=>Kf5 h c
 |3,_=>Zc0 h c
 |4,_=>Xw9 h c
 |5,_=>Kf4 h c
 |6,_=>Kr6 h c
 |7,_=>Kr8 h c
 |8,_=>Kr7 h c
 |9,_=>Ks6 h c
 |10,_=>Xw7 h c
 |11,_=>Kf1 h c
 |12,_=>Kf0 h c
 |13,_=>Kr9 h c
 |14,_=>Ks2 h c
 |15,_=>Kf6 h c
 |16,_=>Kf7 h c
 |17,_=>Ks0 h c
 |n+18,h=>by omega
theorem Qs6 (p:Nat→Bool) (s:ByteArray): ∀(f pos:Nat) (st:Option Nat) (acc:List (Nat×Nat)),(Lib.spansFromP p s f pos st acc).1.length≤acc.length+f
 |0,_,_,acc=>Nat.le_refl _
 |f+1,pos,st,acc=>by
  unfold Lib.spansFromP
  split
  ·split
   ·cases st with
    |some a=>have h:=Qs6 p s f (pos+ (Utf8.decode s pos).2) none (acc++ [(a,pos)]);rw[List.length_append]at h;simp at h⊢;omega
    |none=>have h:=Qs6 p s f (pos+ (Utf8.decode s pos).2) none acc;simp at h⊢;omega
   ·cases st with
    |some a=>have h:=Qs6 p s f (pos+ (Utf8.decode s pos).2) (some a) acc;simp at h⊢;omega
    |none=>have h:=Qs6 p s f (pos+ (Utf8.decode s pos).2) (some pos) acc;simp at h⊢;omega
  ·simp
theorem Xh9 (p:Nat→Bool) (s:ByteArray):(Lib.goFieldsP p s).length≤s.size+1:=by
 unfold Lib.goFieldsP Lib.spansOfP
 rw[List.length_map]
 have h:=Qs6 p s s.size 0 none []
 rw[List.length_nil,Nat.zero_add]at h
 unfold Lib.closeSpans
 split
 ·rw[List.length_append];simp;exact h
 ·omega
theorem Xx2 (p:Nat→Bool) (s:ByteArray): ∀x∈Lib.goFieldsP p s,x.size≤s.size:=fun x hx=>by
 obtain⟨y,-,rfl⟩:=List.mem_map.1 hx
 rw[ByteArray.size_extract]
 omega
theorem Kf9 (w:World):PredAtRunes Tryz.prog 16 #[] Qg5 w:=fun W x hx hb=>by
 show Calls Tryz.prog 16 #[.int .i32 x] W fun e w'=>e= .returned (.bool (Qg5 x))∧ ∃q,w'=W.drewN q
 have hxb:((x:Int) ==32)=Qg5 x:=by
  unfold Qg5
  by_cases h:x=32
  ·subst h;rfl
  ·rw[YW (by omega)];exact(beq_eq_false_iff_ne.2 h).symm
 go_enter Tryz.func16,Tryz.ntmps16
 go_wp2
 go_ret
 exact⟨rfl,0,rfl⟩
theorem Kg0 (t:ByteArray) (ht:t.size≤4294967296) (w:World):
  Calls Tryz.prog 15 #[.string t,.func (.func 16) #[] #[]] w fun e w'=> ∃A,e= .returned (.slice (some ⟨A,0,none⟩) (Lib.goFieldsP Qg5 t).length (Lib.goFieldsP Qg5 t).length)∧
   OZ w' (some ⟨A,0,none⟩) ((Lib.goFieldsP Qg5 t).map Value.string)∧Below w.heap.size w w':=by
 refine(Any.strings_FieldsFunc_runes (P:=Tryz.prog) (ρ:=laysD229_ren) laysD229 16 #[] (Go.Proofs.enters_of Tryz.func16 (by kernel_rfl) rfl) Qg5 t w ht (Kf9 w) (by kernel_rfl) (by kernel_rfl)).mono ?_
 rintro e w' ⟨A,rfl,-,h2,h3⟩
 exact⟨A,rfl,OZ.of_row (Xc4 h2),h3⟩
end Go.Proofs.YtbmiieehkkfbgaaGreatDoor
