/- Contracts and walks that the law's proof needs. -/
import Derived.Test.YtbmiieehkkfbgaaGreatDoorZd44
import Derived.Test.YtbmiieehkkfbgaaGreatDoorZd36
set_option linter.unusedVariables false
set_option maxRecDepth 100000
set_option maxHeartbeats 8000000
namespace Go.Proofs.YtbmiieehkkfbgaaGreatDoor
open Go Go.RowKit
theorem Zc1 {sd:Int} (h: ¬(sd=1∨sd=2)):(sd != 1)=true∧(sd != 2)=true:=⟨Je0 (by omega),Je0 (by omega)⟩
theorem Ks3 (B:Nat) (sd:Int) (w:World) (h: ¬(sd=1∨sd=2)):Calls Tryz.prog 86 #[.pointer (some ⟨B,0,none⟩),.int .i64 sd] w fun e w'=>e= .returned (.tuple #[.slice none 0 0,VZ 1])∧Below w.heap.size w w':=by
 obtain⟨t1,t2⟩:=Zc1 h
 clear h
 go_enter Tryz.func86,Tryz.ntmps86
 go_wp2
 go_ret2
 exact⟨rfl,Below.refl _ _⟩
theorem Ks4 {w:World} {e:Nat} {F:Nat→Prop} {m:VQ} (h:YQ w e F m) (sd:Int) (hs: ¬(sd=1∨sd=2)):Calls Tryz.prog 55 #[.pointer (some ⟨e,0,none⟩),.int .i64 sd] w fun ev w'=>ev= .returned (.tuple #[.slice none 0 0,VZ 1])∧Below w.heap.size w w':=by
 obtain⟨cs,tb,bb,bk,im,T,tc,Al,lc,lv,bu,se,Ap,pc,es,mc,G,own,hM,hF⟩:=h
 have c:=hM.cell hM.ec.c8
 have HS:=QQ (fun W=>Ks3 bk sd W hs)
 clear hM hF hs
 go_enter Tryz.func55,Tryz.ntmps55
 go_wp2_with (go_at_call 86;refine(HS.out _).mono ?_;rintro ev w2 ⟨rfl,hb⟩)
 go_ret2
 exact⟨rfl,hb⟩
theorem Zc2 {m:VQ} (h:YJ m) (sd:Int):(∀o∈JY sd m.L1 m.L2,Qf4 o)∧(JY sd m.L1 m.L2).length≤100:=by
 have:=h.ls.cnt
 rw[List.length_append]at this
 unfold JY
 split
 ·exact⟨fun o ho=>(h.ls.ok o (List.mem_append_left _ ho)).1,by omega⟩
 ·exact⟨fun o ho=>(h.ls.ok o (List.mem_append_right _ ho)).1,by omega⟩
theorem Ks5 {w:World} {d k n0:Nat} {G:Nat→Prop} {s:DS} {A:Option Addr} {ws:List ByteArray} (h:MIn w d G k s A n0 ws) (c:Nat):
  Calls Tryz.prog 26 #[.pointer (some ⟨d,0,none⟩),.slice A n0 c] w (Qb6 w d G k (Jq9 s ws)):=by
 have H:=QQ h
 clear h
 cases hn:XV ws 2 with
 |none=>
  have HP:=QQ (show Jq9 s ws=(s,.bad 3) by unfold Jq9 ZK;rw[hn]);go_enter Tryz.func26,Tryz.ntmps26
  go_wp2_with (go_at_call 47;refine(H.out.numbers_bad c hn).mono ?_;rintro e w1 ⟨rfl,hB⟩)
  exact⟨rfl,XW HP.out rfl (XZ (by omega)) (H.out.desk.to hB)⟩
 |some l=>
  have HF:=QQ (YK hn);obtain⟨a,b,rfl⟩:=Zi2 (HF.out.2.1 (by omega));obtain⟨hb1,hb2⟩:=Zb9 a b;have HBF:=QQ (Ke9 hb1 hb2);clear hb1 hb2;have HBd:=QQ (fun W=>Qi8 a b W);have HEf:=QQ (Ks1 a b);have HP0:=QQ (show Jq9 s ws=(s,Jr8 (Qg6 a b) (Z9 [I3 a b,I4 a b])) by unfold Jq9 ZK;rw[hn];rfl);obtain⟨x,hx⟩: ∃x,I3 a b=x:=⟨_,rfl⟩;obtain⟨y,hy⟩: ∃y,I4 a b=y:=⟨_,rfl⟩;obtain⟨z,hz⟩: ∃z,Qg6 a b=z:=⟨_,rfl⟩;rw[hx,hy,hz]at HP0;rw[hx,hy]at HBF;rw[hz]at HEf;simp only[hx,hy,hz]at HBd;clear hx hy hz
  by_cases hz:z=0
  ·have HP:=QQ (show Jq9 s ws=(s,.ok (Z9 [x,y])) by rw[HP0.out,Qp0 hz])
   have HZ:=QQ hz;clear hz HP0;go_enter Tryz.func26,Tryz.ntmps26
   go_wp2_with (go_at_call 47;refine(H.out.numbers_ok c hn).mono ?_;rintro e w1 ⟨A1,c1,rfl,hB,hC,hup⟩;obtain⟨g1,o1,hA1,x0,x1⟩:=Kf2 hC;have hgl:=World.block_lt_of_cell? w1 _ x0;subst hA1;have HB1:=QQ hB;clear hC hup hB)
   refine Z4 [] (fun _=>True) (fun W=>W.cell? ⟨g1,o1,none⟩=some (.int .i64 a)∧W.cell? ⟨g1,o1+1,none⟩=some (.int .i64 b)) trivial ⟨x0,x1⟩ (fun _ hU=> ?_);refine tP 0 (.slice (some ⟨g1,o1,none⟩) 2 c1) ?_;refine tP 1 (.pointer (some ⟨g1,o1,none⟩)) ?_;refine tP 2 (.int .i64 a) ?_;refine tP 3 (.slice (some ⟨g1,o1,none⟩) 2 c1) ?_;refine tP 4 (.pointer (some ⟨g1,o1+1,none⟩)) ?_;refine tP 5 (.int .i64 b) ?_;refine oN 6 fun K1 hK1=> ?_
   go_simp
   go_at_call 49
   refine(HBd.out w1.drew).mono ?_;rintro ev w3 ⟨rfl,hB3⟩;have hU3:w3.cell? ⟨g1,o1,none⟩=some (.int .i64 a)∧w3.cell? ⟨g1,o1+1,none⟩=some (.int .i64 b):=⟨(hB3.cell (p:=⟨g1,o1,none⟩) hgl).trans x0,(hB3.cell (p:=⟨g1,o1+1,none⟩) hgl).trans x1⟩;refine hK1 _ _ (fun _=>trivial) hU3 ?_;clear hK1;refine tP 7 (.tuple #[.int .i64 x,.int .i64 y,VZ z]) ?_;refine tP 8 (.int .i64 x) ?_;refine tP 9 (.int .i64 y) ?_;refine tP 10 (VZ z) ?_;refine tP 11 (.int .i64 x) ?_;refine tP 12 (.int .i64 y) ?_;refine tP 13 (VZ z) ?_;refine U5 ?_ (by kernel_rfl) _;have HB:=QQ (HB1.out.trans ((show Below w1.heap.size w1 w3 from(show Below w1.heap.size w1 w1.drew from QY (Below.refl _ w1) 1).trans hB3).mono HB1.out.size));have HG3:=QQ (H.out.globs HB.out);have HS3:=QQ (H.out.sizes HB.out);clear hU hU3 hB3;go_wp2_with (first
    |(go_at_call 18;refine(Jb8 _ HZ.out _).mono ?_;rintro e w4 ⟨rfl,hB4⟩;have HB4:=QQ (HB.out.trans (hB4.mono HB.out.size));have HG4:=QQ (H.out.globs HB4.out);have HS4:=QQ (H.out.sizes HB4.out);clear hB4)
    |(go_at_call 50;refine(Ja2 (some ⟨w4.heap.size,0,none⟩) 2 2 [x,y] _ (HG4.out.below ((Below.refl _ w4).alloc (Nat.le_refl _) _) HS4.out) (by have:=HS4.out;simp;omega) (OZ.of_blk (QJ.new w4 3 #[.int .i64 x,.int .i64 y])) rfl HBF.out (by omega)).mono ?_;rintro e w5 ⟨rfl,hB5⟩))
   go_ret;have hle:=Ja1 (l:= [x,y]) HBF.out;exact XW HP.out rfl (by show _≤10000000000;simp only[List.length_cons,List.length_nil]at hle;omega) (H.out.desk.to ((HB4.out.alloc HB4.out.size _).trans (hB5.mono (by have:=HB4.out.size;simp;omega))))
  ·have HP:=QQ (show Jq9 s ws=(s,.bad z) by rw[HP0.out,Qj5 hz])
   have HZ:=QQ hz;clear hz HP0;go_enter Tryz.func26,Tryz.ntmps26
   go_wp2_with (go_at_call 47;refine(H.out.numbers_ok c hn).mono ?_;rintro e w1 ⟨A1,c1,rfl,hB,hC,hup⟩;obtain⟨g1,o1,hA1,x0,x1⟩:=Kf2 hC;have hgl:=World.block_lt_of_cell? w1 _ x0;subst hA1;have HB1:=QQ hB;clear hC hup hB)
   refine Z4 [] (fun _=>True) (fun W=>W.cell? ⟨g1,o1,none⟩=some (.int .i64 a)∧W.cell? ⟨g1,o1+1,none⟩=some (.int .i64 b)) trivial ⟨x0,x1⟩ (fun _ hU=> ?_);refine tP 0 (.slice (some ⟨g1,o1,none⟩) 2 c1) ?_;refine tP 1 (.pointer (some ⟨g1,o1,none⟩)) ?_;refine tP 2 (.int .i64 a) ?_;refine tP 3 (.slice (some ⟨g1,o1,none⟩) 2 c1) ?_;refine tP 4 (.pointer (some ⟨g1,o1+1,none⟩)) ?_;refine tP 5 (.int .i64 b) ?_;refine oN 6 fun K1 hK1=> ?_
   go_simp
   go_at_call 49
   refine(HBd.out w1.drew).mono ?_;rintro ev w3 ⟨rfl,hB3⟩;have hU3:w3.cell? ⟨g1,o1,none⟩=some (.int .i64 a)∧w3.cell? ⟨g1,o1+1,none⟩=some (.int .i64 b):=⟨(hB3.cell (p:=⟨g1,o1,none⟩) hgl).trans x0,(hB3.cell (p:=⟨g1,o1+1,none⟩) hgl).trans x1⟩;refine hK1 _ _ (fun _=>trivial) hU3 ?_;clear hK1;refine tP 7 (.tuple #[.int .i64 x,.int .i64 y,VZ z]) ?_;refine tP 8 (.int .i64 x) ?_;refine tP 9 (.int .i64 y) ?_;refine tP 10 (VZ z) ?_;refine tP 11 (.int .i64 x) ?_;refine tP 12 (.int .i64 y) ?_;refine tP 13 (VZ z) ?_;refine U5 ?_ (by kernel_rfl) _;have HB:=QQ (HB1.out.trans ((show Below w1.heap.size w1 w3 from(show Below w1.heap.size w1 w1.drew from QY (Below.refl _ w1) 1).trans hB3).mono HB1.out.size));have HG3:=QQ (H.out.globs HB.out);have HS3:=QQ (H.out.sizes HB.out);clear hU hU3 hB3;go_wp2_with (go_at_call 18;refine(Qn3 _ HZ.out _ HG3.out).mono ?_;rintro e w4 ⟨rfl,hB4⟩)
   exact⟨rfl,XW HP.out rfl HEf.out (H.out.desk.to (HB.out.trans (hB4.mono HB.out.size)))⟩
theorem Ks6 {w:World} {d k n0:Nat} {G:Nat→Prop} {s:DS} {A:Option Addr} {ws:List ByteArray} (h:MIn w d G k s A n0 ws) (c:Nat):
  Calls Tryz.prog 34 #[.pointer (some ⟨d,0,none⟩),.slice A n0 c] w (Qb6 w d G k (Jd7 s ws)):=by
 have H:=QQ h
 clear h
 cases hn:XV ws 1 with
 |none=>
  have HP:=QQ (show Jd7 s ws=(s,.bad 3) by unfold Jd7 ZK;rw[hn]);go_enter Tryz.func34,Tryz.ntmps34
  go_wp2_with (go_at_call 47;refine(H.out.numbers_bad c hn).mono ?_;rintro e w1 ⟨rfl,hB⟩)
  exact⟨rfl,XW HP.out rfl (XZ (by omega)) (H.out.desk.to hB)⟩
 |some l=>
  have HF:=QQ (YK hn)
  cases he:s.e with
  |none=>
   have HP:=QQ (show Jd7 s ws=(s,.bad 6) by unfold Jd7 ZK X4;rw[hn];simp only[he]);go_enter Tryz.func34,Tryz.ntmps34
   go_wp2_with (first
    |(go_at_call 47;refine(H.out.numbers_ok c hn).mono ?_;rintro e w1 ⟨A1,c1,rfl,hB,hC,hup⟩)
    |(go_at_call 48;refine(H.out.ready_not he hB).mono ?_;rintro e w2 ⟨rfl,hB2⟩))
   exact⟨rfl,XW HP.out rfl (XZ (by omega)) (H.out.desk.to (hB.trans (hB2.mono hB.size)))⟩
  |some m=>
   obtain⟨i,rfl⟩:=Zi1 (HF.out.2.1 (by omega));have HO:=QQ (H.out.mok he)
   by_cases hz:i=1∨i=2
   ·have HP:=QQ (show Jd7 s ws=(s,.ok (Qv1 (JY i m.L1 m.L2))) by unfold Jd7 ZK X4;rw[hn];simp only[he];exact congrArg _ (Qp0 (show Kj3 i=0 from if_pos hz) _))
    have HZ:=QQ hz;clear hz;obtain⟨q,hq⟩: ∃q,JY i m.L1 m.L2=q:=⟨_,rfl⟩;have HQ:=QQ hq;have HQ2:=QQ (Zc2 HO.out.ok i);rw[hq]at HP HQ2;clear hq;go_enter Tryz.func34,Tryz.ntmps34
    go_wp2_with (first
     |(go_at_call 47;refine(H.out.numbers_ok c hn).mono ?_;rintro e w1 ⟨A1,c1,rfl,hB,hC,hup⟩;obtain⟨g1,o1,hA1,x0⟩:=Xn1 hC;subst hA1;clear hC hup)
     |(go_at_call 48;refine(H.out.ready_yes he hB).mono ?_;rintro e w2 ⟨rfl,hB2⟩;have HB:=QQ (hB.trans (hB2.mono hB.size));have hgl:=Nat.lt_of_lt_of_le (World.block_lt_of_cell? w1 _ x0) hB2.size;have y0:=(hB2.cell (p:=⟨g1,o1,none⟩) (World.block_lt_of_cell? w1 _ x0)).trans x0;clear x0;obtain⟨e,F,c6,hE,hfr,hnx⟩:=H.out.engine he HB.out;have HE:=QQ hE;have HX:=QQ hnx;have HFr:=QQ hfr;clear hE hnx hfr;clear hB hB2))
    refine Z4 [] (fun _=>True) (fun W=>W.cell? ⟨d,6,none⟩=some (.pointer (some ⟨e,0,none⟩))∧W.cell? ⟨g1,o1,none⟩=some (.int .i64 i)) trivial ⟨c6,y0⟩ (fun _ hU=> ?_);have HEd:=QQ (show YQ w2.drew e F m from HE.out.below (QY (Below.refl _ w2) 1));refine tP 0 (.pointer (some ⟨d,0,none⟩)) ?_;refine tP 1 (.pointer (some ⟨d,0,none⟩)) ?_;refine tP 2 (.pointer (some ⟨d,6,none⟩)) ?_;refine tP 3 (.pointer (some ⟨e,0,none⟩)) ?_;refine tP 4 (.slice (some ⟨g1,o1,none⟩) 1 c1) ?_;refine tP 5 (.pointer (some ⟨g1,o1,none⟩)) ?_;refine tP 6 (.int .i64 i) ?_;refine oN 7 fun K1 hK1=> ?_
    go_simp
    go_at_call 55
    refine(Kp1 HEd.out i HZ.out).mono ?_;rw[HQ.out];rintro ev w3 ⟨hB3,A2,c2,rfl,hR2,hup2⟩;have HR2:=QQ hR2;clear hR2 hup2;have hdl:d<w2.drew.heap.size:=World.block_lt_of_cell? w2 ⟨d,6,none⟩ c6;have hU3:w3.cell? ⟨d,6,none⟩=some (.pointer (some ⟨e,0,none⟩))∧w3.cell? ⟨g1,o1,none⟩=some (.int .i64 i):=⟨(hB3.cell (p:=⟨d,6,none⟩) hdl).trans c6,(hB3.cell (p:=⟨g1,o1,none⟩) hgl).trans y0⟩;refine hK1 _ _ (fun _=>trivial) hU3 ?_;clear hK1 hdl;refine tP 8 (.tuple #[.slice A2 q.length c2,.nilIface]) ?_;refine tP 9 (.slice A2 q.length c2) ?_;refine tP 10 (.nilIface) ?_;refine tP 11 (.slice A2 q.length c2) ?_;refine tP 12 (.nilIface) ?_;refine U5 ?_ (by kernel_rfl) _;have HB3:=QQ (HB.out.trans ((show Below w2.heap.size w2 w3 from(show Below w2.heap.size w2 w2.drew from QY (Below.refl _ w2) 1).trans hB3).mono HB.out.size));have HG3:=QQ (H.out.globs HB3.out);have HS3:=QQ (H.out.sizes HB3.out);clear hU hU3 hB3;go_wp2_with (first
     |(go_at_call 18;refine(Jj7 _).mono ?_;rintro e w4 ⟨rfl,hB4⟩;have HR4:=QQ (HR2.out.below hB4);have HB4:=QQ (HB3.out.trans (hB4.mono HB3.out.size));have HG4:=QQ (H.out.globs HB4.out);have HS4:=QQ (H.out.sizes HB4.out);clear hB4)
     |(go_at_call 56;refine(Xa4 A2 q.length c2 q w4 HG4.out HS4.out HR4.out HQ2.out.1 (by have:=HQ2.out.2;omega)).mono ?_;rintro e w5 ⟨rfl,hB5⟩))
    go_ret;have hle:=Jg1 HQ2.out.1;have hln:=HQ2.out.2;exact XW HP.out rfl (by show _≤10000000000;omega) (H.out.desk.to (HB4.out.trans (hB5.mono HB4.out.size)))
   ·have HP:=QQ (show Jd7 s ws=(s,.bad 1) by unfold Jd7 ZK X4;rw[hn];simp only[he];exact congrArg _ ((Qj5 (show Kj3 i≠0 from by rw[show Kj3 i=1 from if_neg hz];decide) _).trans (congrArg _ (if_neg hz))))
    have HZ:=QQ hz;clear hz;go_enter Tryz.func34,Tryz.ntmps34
    go_wp2_with (first
     |(go_at_call 47;refine(H.out.numbers_ok c hn).mono ?_;rintro e w1 ⟨A1,c1,rfl,hB,hC,hup⟩;obtain⟨g1,o1,hA1,x0⟩:=Xn1 hC;subst hA1;clear hC hup)
     |(go_at_call 48;refine(H.out.ready_yes he hB).mono ?_;rintro e w2 ⟨rfl,hB2⟩;have HB:=QQ (hB.trans (hB2.mono hB.size));have hgl:=Nat.lt_of_lt_of_le (World.block_lt_of_cell? w1 _ x0) hB2.size;have y0:=(hB2.cell (p:=⟨g1,o1,none⟩) (World.block_lt_of_cell? w1 _ x0)).trans x0;clear x0;obtain⟨e,F,c6,hE,hfr,hnx⟩:=H.out.engine he HB.out;have HE:=QQ hE;have HX:=QQ hnx;have HFr:=QQ hfr;clear hE hnx hfr;clear hB hB2))
    refine Z4 [] (fun _=>True) (fun W=>W.cell? ⟨d,6,none⟩=some (.pointer (some ⟨e,0,none⟩))∧W.cell? ⟨g1,o1,none⟩=some (.int .i64 i)) trivial ⟨c6,y0⟩ (fun _ hU=> ?_);have HEd:=QQ (show YQ w2.drew e F m from HE.out.below (QY (Below.refl _ w2) 1));refine tP 0 (.pointer (some ⟨d,0,none⟩)) ?_;refine tP 1 (.pointer (some ⟨d,0,none⟩)) ?_;refine tP 2 (.pointer (some ⟨d,6,none⟩)) ?_;refine tP 3 (.pointer (some ⟨e,0,none⟩)) ?_;refine tP 4 (.slice (some ⟨g1,o1,none⟩) 1 c1) ?_;refine tP 5 (.pointer (some ⟨g1,o1,none⟩)) ?_;refine tP 6 (.int .i64 i) ?_;refine oN 7 fun K1 hK1=> ?_
    go_simp
    go_at_call 55
    refine(Ks4 HEd.out i HZ.out).mono ?_;rintro ev w3 ⟨rfl,hB3⟩;have hdl:d<w2.drew.heap.size:=World.block_lt_of_cell? w2 ⟨d,6,none⟩ c6;have hU3:w3.cell? ⟨d,6,none⟩=some (.pointer (some ⟨e,0,none⟩))∧w3.cell? ⟨g1,o1,none⟩=some (.int .i64 i):=⟨(hB3.cell (p:=⟨d,6,none⟩) hdl).trans c6,(hB3.cell (p:=⟨g1,o1,none⟩) hgl).trans y0⟩;refine hK1 _ _ (fun _=>trivial) hU3 ?_;clear hK1 hdl;refine tP 8 (.tuple #[.slice none 0 0,VZ 1]) ?_;refine tP 9 (.slice none 0 0) ?_;refine tP 10 (VZ 1) ?_;refine tP 11 (.slice none 0 0) ?_;refine tP 12 (VZ 1) ?_;refine U5 ?_ (by kernel_rfl) _;have HB3:=QQ (HB.out.trans ((show Below w2.heap.size w2 w3 from(show Below w2.heap.size w2 w2.drew from QY (Below.refl _ w2) 1).trans hB3).mono HB.out.size));have HG3:=QQ (H.out.globs HB3.out);have HS3:=QQ (H.out.sizes HB3.out);clear hU hU3 hB3;go_wp2_with (go_at_call 18;refine(Qn3 1 (by omega) _ HG3.out).mono ?_;rintro e w4 ⟨rfl,hB4⟩)
    exact⟨rfl,XW HP.out rfl (XZ (by omega)) (H.out.desk.to (HB3.out.trans (hB4.mono HB3.out.size)))⟩
theorem J1.blk {w:World} {d k:Nat} {G:Nat→Prop} {s:DS} (h:J1 w d G k s):G d∧ ∃v0 v1 v2 v3 v4 v5 v6,QJ w d 29 #[v0,v1,v2,v3,v4,v5,v6]:=by
 cases he:s.e with
 |none=>
  obtain⟨A,c,h1,-,-,h2⟩:=h.n he;exact⟨(h2 d).2 (.inl rfl),_,_,_,_,_,_,_,h1⟩
 |some m=>
  obtain⟨v0,v1,v2,v3,v4,v5,e,F,h1,-,-,h2⟩:=(h.e he).1;exact⟨(h2 d).2 (.inl rfl),_,_,_,_,_,_,_,h1⟩
theorem Xx0 {w:World} {g:Nat} {t:TypeId} {a b c d e f h:Value} (H:QJ w g t #[a,b,c,d,e,f,h]):w.cell? ⟨g,0,none⟩=some a∧w.cell? ⟨g,1,none⟩=some b∧w.cell? ⟨g,2,none⟩=some c∧w.cell? ⟨g,3,none⟩=some d∧w.cell? ⟨g,4,none⟩=some e∧w.cell? ⟨g,5,none⟩=some f∧w.cell? ⟨g,6,none⟩=some h:=
 ⟨by rw[QJ.cell H];rfl,by rw[QJ.cell H];rfl,by rw[QJ.cell H];rfl,by rw[QJ.cell H];rfl,by rw[QJ.cell H];rfl,by rw[QJ.cell H];rfl,by rw[QJ.cell H];rfl⟩
theorem Jk0 {w w1 w2:World} {d k:Nat} {G:Nat→Prop} {s':DS} {A:Option Addr} {c:Nat} (hb:Below w.heap.size w w1) (hG:G d) (hk:QK (fun i=>i=d) w1 w2) (he:s'.e=none)
  (h1:QJ w2 d 29 (Xm6 A c s' none)) (h2:QW w2 A s'.rows.length c 93 2 (JQ Jj8 s'.rows)) (h3: ∀i,QZ A=some i→i≠d∧(G i∨w.heap.size≤i)):
  Qc6 w w2 d G k s':=by
 refine⟨fun i=>i=d∨QZ A=some i,Ja3.at_ ⟨A,c,h1,h2,fun i hi=>(h3 i hi).1,fun i=>Iff.rfl⟩ he,((QK.after hb hk).mono (fun i hi=>by rw[hi];exact hG)),fun i hi=> ?_⟩
 rcases hi with e1|e1
 ·exact .inl (by rw[e1];exact hG)
 ·exact(h3 i e1).2
theorem OJ {w w2:World} {d:Nat} (h:QK (fun i=>i=d) w w2) (i:Nat) (v:Value):QK (fun i=>i=d) w (w2.setCell ⟨d,i,none⟩ v):=
 h.trans (QK.set_ w2 ⟨d,i,none⟩ v) (fun _ hi=> .inl hi)
theorem Kf4 {w:World} {d k n0:Nat} {G:Nat→Prop} {s:DS} {A:Option Addr} {ws:List ByteArray} (h:MIn w d G k s A n0 ws) (c:Nat):
  Calls Tryz.prog 30 #[.pointer (some ⟨d,0,none⟩),.slice A n0 c] w (Qb6 w d G k (Jm5 s ws)):=by
 have H:=QQ h
 clear h
 cases hn:XV ws 0 with
 |none=>
  have HP:=QQ (show Jm5 s ws=(s,.bad 3) by unfold Jm5 ZK;rw[hn]);go_enter Tryz.func30,Tryz.ntmps30
  go_wp2_with (go_at_call 47;refine(H.out.numbers_bad c hn).mono ?_;rintro e w1 ⟨rfl,hB⟩)
  exact⟨rfl,XW HP.out rfl (XZ (by omega)) (H.out.desk.to hB)⟩
 |some l=>
  have HP:=QQ (show Jm5 s ws=(ds0,.ok [99,108,101,97,114]) by unfold Jm5 ZK;rw[hn]);go_enter Tryz.func30,Tryz.ntmps30
  go_wp2_with (go_at_call 47;refine(H.out.numbers_ok c hn).mono ?_;rintro e w1 ⟨A1,c1,rfl,hB,hC,hup⟩;obtain⟨hGd,v0,v1,v2,v3,v4,v5,v6,hb⟩:=(H.out.desk.below hB).blk;have HBk:=QQ hb;obtain⟨x0,x1,x2,x3,x4,x5,x6⟩:=Xx0 hb;have f0:=QJ.frozen hb 0;have f1:=QJ.frozen hb 1;have f2:=QJ.frozen hb 2;have f3:=QJ.frozen hb 3;have f4:=QJ.frozen hb 4;have f5:=QJ.frozen hb 5;have f6:=QJ.frozen hb 6;clear hb hC hup)
  go_ret;have hb:=QJ.set_ (QJ.set_ (QJ.set_ (QJ.set_ (QJ.set_ (QJ.set_ (QJ.set_ HBk.out 0 (.slice none 0 0)) 1 (.int .i64 0)) 2 (.int .i64 0)) 3 (.int .i64 0)) 4 (.int .i64 0)) 5 (.int .i64 0)) 6 (.pointer none);exact XW HP.out rfl (by show _≤10000000000;decide) (Jk0 hB hGd (OJ (OJ (OJ (OJ (OJ (OJ (OJ (QK.refl _ _) 0 _) 1 _) 2 _) 3 _) 4 _) 5 _) 6 _) rfl (A:=none) (c:=0) (s':=ds0) hb (World.ownsRow_nil _ _ _ _) (fun i hi=>by cases hi))
theorem Ja3.parts {w:World} {d:Nat} {G:Nat→Prop} {s:DS} (h:Ja3 w d G s): ∃A c,QJ w d 29 (Xm6 A c s none)∧QW w A s.rows.length c 93 2 (JQ Jj8 s.rows)∧(∀i,QZ A=some i→i≠d∧G i)∧G d:=by
 obtain⟨A,c,h1,h2,h3,h4⟩:=h
 exact⟨A,c,h1,h2,fun i hi=>⟨h3 i hi,(h4 i).2 (.inr hi)⟩,(h4 d).2 (.inl rfl)⟩
theorem V4 {w:World} {p q:Addr} {v u:Value} (h:w.cell? q=some u) (hb:q.block≠p.block):(w.setCell p v).cell? q=some u:=(World.cell?_of_block (Below.heap_setCell w p v q.block hb)).trans h
theorem Kf5 {w:World} {d k n0:Nat} {G:Nat→Prop} {s:DS} {A:Option Addr} {ws:List ByteArray} (h:MIn w d G k s A n0 ws) (c:Nat):
  Calls Tryz.prog 27 #[.pointer (some ⟨d,0,none⟩),.slice A n0 c] w (Qb6 w d G k (Qz6 s ws)):=by
 have H:=QQ h
 clear h
 cases hn:XV ws 3 with
 |none=>
  have HP:=QQ (show Qz6 s ws=(s,.bad 3) by unfold Qz6 ZK;rw[hn]);go_enter Tryz.func27,Tryz.ntmps27
  go_wp2_with (go_at_call 47;refine(H.out.numbers_bad c hn).mono ?_;rintro e w1 ⟨rfl,hB⟩)
  exact⟨rfl,XW HP.out rfl (XZ (by omega)) (H.out.desk.to hB)⟩
 |some l=>
  have HF:=QQ (YK hn)
  cases he:s.e with
  |some m=>
   have HP:=QQ (show Qz6 s ws=(s,.bad 6) by unfold Qz6 ZK noE;rw[hn];simp only[he]);go_enter Tryz.func27,Tryz.ntmps27
   go_wp2_with (first
    |(go_at_call 47;refine(H.out.numbers_ok c hn).mono ?_;rintro e w1 ⟨A1,c1,rfl,hB,hC,hup⟩)
    |(go_at_call 48;refine(H.out.ready_old he hB).mono ?_;rintro e w2 ⟨rfl,hB2⟩))
   exact⟨rfl,XW HP.out rfl (XZ (by omega)) (H.out.desk.to (hB.trans (hB2.mono hB.size)))⟩
  |none=>
   obtain⟨a,b,c3,rfl⟩:=Zm1 (HF.out.2.1 (by omega));have HP:=QQ (show Qz6 s ws=({s with st:=a,dy:=b,p:=c3},.ok [98,97,110,100,115]) by unfold Qz6 ZK noE;rw[hn];simp only[he];rfl);go_enter Tryz.func27,Tryz.ntmps27
   go_wp2_with (first
    |(go_at_call 47;refine(H.out.numbers_ok c hn).mono ?_;rintro e w1 ⟨A1,c1,rfl,hB,hC,hup⟩;obtain⟨g1,o1,hA1,x0,x1,x2⟩:=Zk6 hC;subst hA1;have HUp:=QQ (hup g1 rfl);clear hC hup)
    |(go_at_call 48;refine(H.out.ready_new he hB).mono ?_;rintro e w2 ⟨rfl,hB2⟩;have HB:=QQ (hB.trans (hB2.mono hB.size));have y0:=(hB2.cell (p:=⟨g1,o1,none⟩) (World.block_lt_of_cell? w1 _ x0)).trans x0;have y1:=(hB2.cell (p:=⟨g1,o1+1,none⟩) (World.block_lt_of_cell? w1 _ x1)).trans x1;have y2:=(hB2.cell (p:=⟨g1,o1+2,none⟩) (World.block_lt_of_cell? w1 _ x2)).trans x2;clear x0 x1 x2;obtain⟨A0,c0,hb,hrw,hfr,hGd⟩:=(((H.out.desk.n he).below HB.out)).parts;have HBk:=QQ hb;have HRw:=QQ hrw;have HFr:=QQ hfr;unfold Xm6 at hb;obtain⟨z0,z1,z2,z3,z4,z5,z6⟩:=Xx0 hb;have f0:=QJ.frozen hb 0;have f1:=QJ.frozen hb 1;have f2:=QJ.frozen hb 2;have f3:=QJ.frozen hb 3;have f4:=QJ.frozen hb 4;have f5:=QJ.frozen hb 5;clear hb hrw hfr;clear hB hB2))
   have hdl:d<w.heap.size:=H.out.desk.blk.2.elim fun _ h=>h.elim fun _ h=>h.elim fun _ h=>h.elim fun _ h=>h.elim fun _ h=>h.elim fun _ h=>h.elim fun _ h=>h.lt
   have hgd:g1≠d:=fun h=>by have:=HUp.out;omega
   refine Z4 [] (fun _=>True) (fun W=>W.cell? ⟨g1,o1,none⟩=some (.int .i64 a)∧W.cell? ⟨g1,o1+1,none⟩=some (.int .i64 b)∧W.cell? ⟨g1,o1+2,none⟩=some (.int .i64 c3)) trivial ⟨y0,y1,y2⟩ (fun _ hU0=> ?_);replace hU0:w2.drew.cell? ⟨g1,o1,none⟩=some (.int .i64 a)∧w2.drew.cell? ⟨g1,o1+1,none⟩=some (.int .i64 b)∧w2.drew.cell? ⟨g1,o1+2,none⟩=some (.int .i64 c3):=hU0;refine tP 0 (.pointer (some ⟨d,0,none⟩)) ?_;refine tP 1 (.pointer (some ⟨d,0,none⟩)) ?_;refine tP 2 (.pointer (some ⟨d,0,none⟩)) ?_;refine tP 3 (.slice (some ⟨g1,o1,none⟩) 3 c1) ?_;refine tP 4 (.pointer (some ⟨g1,o1,none⟩)) ?_;refine tP 5 (.int .i64 a) ?_;refine tP 6 (.slice (some ⟨g1,o1,none⟩) 3 c1) ?_;refine tP 7 (.pointer (some ⟨g1,o1+1,none⟩)) ?_;refine tP 8 (.int .i64 b) ?_;refine tP 9 (.slice (some ⟨g1,o1,none⟩) 3 c1) ?_;refine tP 10 (.pointer (some ⟨g1,o1+2,none⟩)) ?_;refine tP 11 (.int .i64 c3) ?_;refine tP 12 (.pointer (some ⟨d,0,none⟩)) ?_;refine tP 13 (.pointer (some ⟨d,0,none⟩)) ?_;refine tP 14 (.pointer (some ⟨d,1,none⟩)) ?_;refine oN 15 fun K1 hK1=> ?_
   go_simp;obtain⟨y0_0,y1_0,y2_0⟩:=hU0;have hU1:(w2.drew.setCell ⟨d,1,none⟩ (.int .i64 a)).cell? ⟨g1,o1,none⟩=some (.int .i64 a)∧(w2.drew.setCell ⟨d,1,none⟩ (.int .i64 a)).cell? ⟨g1,o1+1,none⟩=some (.int .i64 b)∧(w2.drew.setCell ⟨d,1,none⟩ (.int .i64 a)).cell? ⟨g1,o1+2,none⟩=some (.int .i64 c3):=⟨V4 y0_0 hgd,V4 y1_0 hgd,V4 y2_0 hgd⟩;refine hK1 _ _ (fun _=>trivial) hU1 ?_;clear hK1;refine tP 16 (.pointer (some ⟨d,0,none⟩)) ?_;refine tP 17 (.pointer (some ⟨d,0,none⟩)) ?_;refine tP 18 (.pointer (some ⟨d,2,none⟩)) ?_;refine oN 19 fun K1 hK1=> ?_
   go_simp;obtain⟨y0_1,y1_1,y2_1⟩:=hU1;have hU2:((w2.drew.setCell ⟨d,1,none⟩ (.int .i64 a)).setCell ⟨d,2,none⟩ (.int .i64 b)).cell? ⟨g1,o1,none⟩=some (.int .i64 a)∧((w2.drew.setCell ⟨d,1,none⟩ (.int .i64 a)).setCell ⟨d,2,none⟩ (.int .i64 b)).cell? ⟨g1,o1+1,none⟩=some (.int .i64 b)∧((w2.drew.setCell ⟨d,1,none⟩ (.int .i64 a)).setCell ⟨d,2,none⟩ (.int .i64 b)).cell? ⟨g1,o1+2,none⟩=some (.int .i64 c3):=⟨V4 y0_1 hgd,V4 y1_1 hgd,V4 y2_1 hgd⟩;refine hK1 _ _ (fun _=>trivial) hU2 ?_;clear hK1;refine tP 20 (.pointer (some ⟨d,0,none⟩)) ?_;refine tP 21 (.pointer (some ⟨d,0,none⟩)) ?_;refine tP 22 (.pointer (some ⟨d,3,none⟩)) ?_;refine oN 23 fun K1 hK1=> ?_
   go_simp;obtain⟨y0_2,y1_2,y2_2⟩:=hU2;have hU3:(((w2.drew.setCell ⟨d,1,none⟩ (.int .i64 a)).setCell ⟨d,2,none⟩ (.int .i64 b)).setCell ⟨d,3,none⟩ (.int .i64 c3)).cell? ⟨g1,o1,none⟩=some (.int .i64 a)∧(((w2.drew.setCell ⟨d,1,none⟩ (.int .i64 a)).setCell ⟨d,2,none⟩ (.int .i64 b)).setCell ⟨d,3,none⟩ (.int .i64 c3)).cell? ⟨g1,o1+1,none⟩=some (.int .i64 b)∧(((w2.drew.setCell ⟨d,1,none⟩ (.int .i64 a)).setCell ⟨d,2,none⟩ (.int .i64 b)).setCell ⟨d,3,none⟩ (.int .i64 c3)).cell? ⟨g1,o1+2,none⟩=some (.int .i64 c3):=⟨V4 y0_2 hgd,V4 y1_2 hgd,V4 y2_2 hgd⟩;refine hK1 _ _ (fun _=>trivial) hU3 ?_;clear hK1;refine U5 ?_ (by kernel_rfl) _;go_wp2_with fail
   go_ret;exact XW HP.out rfl (by show _≤10000000000;decide) (Jk0 (w1:=w2.drew) (QY HB.out 1) hGd (OJ (OJ (OJ (QK.refl _ _) 1 _) 2 _) 3 _) he (A:=A0) (c:=c0) (QJ.set_ (QJ.set_ (QJ.set_ HBk.out 1 (.int .i64 a)) 2 (.int .i64 b)) 3 (.int .i64 c3)) (QW.keeps (HRw.out.below (QY (Below.refl _ w2) 1)) (OJ (OJ (OJ (QK.refl _ _) 1 _) 2 _) 3 _) (fun i hi=>(HFr.out i hi).1)) (fun i hi=>⟨(HFr.out i hi).1,.inl (HFr.out i hi).2⟩))
theorem Xn2 {w:World} {d k n0:Nat} {G:Nat→Prop} {s:DS} {A:Option Addr} {ws:List ByteArray} (h:MIn w d G k s A n0 ws) (c:Nat):
  Calls Tryz.prog 25 #[.pointer (some ⟨d,0,none⟩),.slice A n0 c] w (Qb6 w d G k (Qj3 s ws)):=by
 have H:=QQ h
 clear h
 cases hn:XV ws 2 with
 |none=>
  have HP:=QQ (show Qj3 s ws=(s,.bad 3) by unfold Qj3 ZK;rw[hn]);go_enter Tryz.func25,Tryz.ntmps25
  go_wp2_with (go_at_call 47;refine(H.out.numbers_bad c hn).mono ?_;rintro e w1 ⟨rfl,hB⟩)
  exact⟨rfl,XW HP.out rfl (XZ (by omega)) (H.out.desk.to hB)⟩
 |some l=>
  have HF:=QQ (YK hn)
  cases he:s.e with
  |some m=>
   have HP:=QQ (show Qj3 s ws=(s,.bad 6) by unfold Qj3 ZK noE;rw[hn];simp only[he]);go_enter Tryz.func25,Tryz.ntmps25
   go_wp2_with (first
    |(go_at_call 47;refine(H.out.numbers_ok c hn).mono ?_;rintro e w1 ⟨A1,c1,rfl,hB,hC,hup⟩)
    |(go_at_call 48;refine(H.out.ready_old he hB).mono ?_;rintro e w2 ⟨rfl,hB2⟩))
   exact⟨rfl,XW HP.out rfl (XZ (by omega)) (H.out.desk.to (hB.trans (hB2.mono hB.size)))⟩
  |none=>
   obtain⟨a,b,rfl⟩:=Zi2 (HF.out.2.1 (by omega));have HP:=QQ (show Qj3 s ws=({s with tk:=a,mo:=b},.ok [97,117,99,116,105,111,110]) by unfold Qj3 ZK noE;rw[hn];simp only[he];rfl);go_enter Tryz.func25,Tryz.ntmps25
   go_wp2_with (first
    |(go_at_call 47;refine(H.out.numbers_ok c hn).mono ?_;rintro e w1 ⟨A1,c1,rfl,hB,hC,hup⟩;obtain⟨g1,o1,hA1,x0,x1⟩:=Kf2 hC;subst hA1;have HUp:=QQ (hup g1 rfl);clear hC hup)
    |(go_at_call 48;refine(H.out.ready_new he hB).mono ?_;rintro e w2 ⟨rfl,hB2⟩;have HB:=QQ (hB.trans (hB2.mono hB.size));have y0:=(hB2.cell (p:=⟨g1,o1,none⟩) (World.block_lt_of_cell? w1 _ x0)).trans x0;have y1:=(hB2.cell (p:=⟨g1,o1+1,none⟩) (World.block_lt_of_cell? w1 _ x1)).trans x1;clear x0 x1;obtain⟨A0,c0,hb,hrw,hfr,hGd⟩:=(((H.out.desk.n he).below HB.out)).parts;have HBk:=QQ hb;have HRw:=QQ hrw;have HFr:=QQ hfr;unfold Xm6 at hb;obtain⟨z0,z1,z2,z3,z4,z5,z6⟩:=Xx0 hb;have f0:=QJ.frozen hb 0;have f1:=QJ.frozen hb 1;have f2:=QJ.frozen hb 2;have f3:=QJ.frozen hb 3;have f4:=QJ.frozen hb 4;have f5:=QJ.frozen hb 5;clear hb hrw hfr;clear hB hB2))
   have hdl:d<w.heap.size:=H.out.desk.blk.2.elim fun _ h=>h.elim fun _ h=>h.elim fun _ h=>h.elim fun _ h=>h.elim fun _ h=>h.elim fun _ h=>h.elim fun _ h=>h.lt
   have hgd:g1≠d:=fun h=>by have:=HUp.out;omega
   refine Z4 [] (fun _=>True) (fun W=>W.cell? ⟨g1,o1,none⟩=some (.int .i64 a)∧W.cell? ⟨g1,o1+1,none⟩=some (.int .i64 b)) trivial ⟨y0,y1⟩ (fun _ hU0=> ?_);replace hU0:w2.drew.cell? ⟨g1,o1,none⟩=some (.int .i64 a)∧w2.drew.cell? ⟨g1,o1+1,none⟩=some (.int .i64 b):=hU0;refine tP 0 (.pointer (some ⟨d,0,none⟩)) ?_;refine tP 1 (.pointer (some ⟨d,0,none⟩)) ?_;refine tP 2 (.slice (some ⟨g1,o1,none⟩) 2 c1) ?_;refine tP 3 (.pointer (some ⟨g1,o1,none⟩)) ?_;refine tP 4 (.int .i64 a) ?_;refine tP 5 (.slice (some ⟨g1,o1,none⟩) 2 c1) ?_;refine tP 6 (.pointer (some ⟨g1,o1+1,none⟩)) ?_;refine tP 7 (.int .i64 b) ?_;refine tP 8 (.pointer (some ⟨d,0,none⟩)) ?_;refine tP 9 (.pointer (some ⟨d,0,none⟩)) ?_;refine tP 10 (.pointer (some ⟨d,4,none⟩)) ?_;refine oN 11 fun K1 hK1=> ?_
   go_simp;obtain⟨y0_0,y1_0⟩:=hU0;have hU1:(w2.drew.setCell ⟨d,4,none⟩ (.int .i64 a)).cell? ⟨g1,o1,none⟩=some (.int .i64 a)∧(w2.drew.setCell ⟨d,4,none⟩ (.int .i64 a)).cell? ⟨g1,o1+1,none⟩=some (.int .i64 b):=⟨V4 y0_0 hgd,V4 y1_0 hgd⟩;refine hK1 _ _ (fun _=>trivial) hU1 ?_;clear hK1;refine tP 12 (.pointer (some ⟨d,0,none⟩)) ?_;refine tP 13 (.pointer (some ⟨d,0,none⟩)) ?_;refine tP 14 (.pointer (some ⟨d,5,none⟩)) ?_;refine oN 15 fun K1 hK1=> ?_
   go_simp;obtain⟨y0_1,y1_1⟩:=hU1;have hU2:((w2.drew.setCell ⟨d,4,none⟩ (.int .i64 a)).setCell ⟨d,5,none⟩ (.int .i64 b)).cell? ⟨g1,o1,none⟩=some (.int .i64 a)∧((w2.drew.setCell ⟨d,4,none⟩ (.int .i64 a)).setCell ⟨d,5,none⟩ (.int .i64 b)).cell? ⟨g1,o1+1,none⟩=some (.int .i64 b):=⟨V4 y0_1 hgd,V4 y1_1 hgd⟩;refine hK1 _ _ (fun _=>trivial) hU2 ?_;clear hK1;refine U5 ?_ (by kernel_rfl) _;go_wp2_with fail
   go_ret;exact XW HP.out rfl (by show _≤10000000000;decide) (Jk0 (w1:=w2.drew) (QY HB.out 1) hGd (OJ (OJ (QK.refl _ _) 4 _) 5 _) he (A:=A0) (c:=c0) (QJ.set_ (QJ.set_ HBk.out 4 (.int .i64 a)) 5 (.int .i64 b)) (QW.keeps (HRw.out.below (QY (Below.refl _ w2) 1)) (OJ (OJ (QK.refl _ _) 4 _) 5 _) (fun i hi=>(HFr.out i hi).1)) (fun i hi=>⟨(HFr.out i hi).1,.inl (HFr.out i hi).2⟩))
end Go.Proofs.YtbmiieehkkfbgaaGreatDoor
