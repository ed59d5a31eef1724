/- Contracts and walks that the law's proof needs. -/
import Derived.Test.YtbmiieehkkfbgaaGreatDoorZd43
import Derived.Test.YtbmiieehkkfbgaaGreatDoorZd32
import Derived.Test.YtbmiieehkkfbgaaGreatDoorZd31
import Derived.Test.YtbmiieehkkfbgaaGreatDoorZd42
import Derived.Test.YtbmiieehkkfbgaaGreatDoorZd37
import Derived.Test.YtbmiieehkkfbgaaGreatDoorZd25
import Derived.Test.YtbmiieehkkfbgaaGreatDoorZd2
import Derived.StillTailTactics
set_option linter.unusedVariables false
set_option maxRecDepth 100000
set_option maxHeartbeats 8000000
namespace Go.Proofs.YtbmiieehkkfbgaaGreatDoor
open Go Go.RowKit
theorem Ke9 {a b:Int} (ha:KZ a) (hb:KZ b): ∀v∈ [a,b],KZ v:=fun v hv=>by
 simp only[List.mem_cons,List.not_mem_nil,or_false]at hv
 rcases hv with rfl|rfl<;>assumption
theorem Zb6 {a b c:Int} (ha:KZ a) (hb:KZ b) (hc:KZ c): ∀v∈ [a,b,c],KZ v:=fun v hv=>by
 simp only[List.mem_cons,List.not_mem_nil,or_false]at hv
 rcases hv with rfl|rfl|rfl<;>assumption
theorem Zg7 (w:World) (t u:TypeId) (cs cs':Array Value):QJ ((w.alloc (.cells cs t)).alloc (.cells cs' u)) (w.heap.size+1) u cs':=by
 have h:=QJ.new (w.alloc (.cells cs t)) u cs'
 simpa using h
theorem Kr9 {w:World} {d k n0:Nat} {G:Nat→Prop} {s:DS} {A:Option Addr} {ws:List ByteArray} (h:MIn w d G k s A n0 ws) (c:Nat):
  Calls Tryz.prog 38 #[.pointer (some ⟨d,0,none⟩),.slice A n0 c] w (Qb6 w d G k (Jq8 s ws)):=by
 have H:=QQ h
 clear h
 cases hn:XV ws 0 with
 |none=>
  have HP:=QQ (show Jq8 s ws=(s,.bad 3) by unfold Jq8 ZK;rw[hn]);go_enter Tryz.func38,Tryz.ntmps38
  go_wp2_with (go_at_call 47;refine(H.out.numbers_bad c hn).mono ?_;rintro e w1 ⟨rfl,hB⟩)
  exact⟨rfl,XW HP.out rfl (XZ (by omega)) (H.out.desk.to hB)⟩
 |some l=>
  have HF:=QQ (YK hn)
  cases he:s.e with
  |none=>
   have HP:=QQ (show Jq8 s ws=(s,.bad 6) by unfold Jq8 ZK X4;rw[hn];simp only[he]);go_enter Tryz.func38,Tryz.ntmps38
   go_wp2_with (first
    |(go_at_call 47;refine(H.out.numbers_ok c hn).mono ?_;rintro e w1 ⟨A1,c1,rfl,hB,hC,hup⟩)
    |(go_at_call 48;refine(H.out.ready_not he hB).mono ?_;rintro e w2 ⟨rfl,hB2⟩))
   exact⟨rfl,XW HP.out rfl (XZ (by omega)) (H.out.desk.to (hB.trans (hB2.mono hB.size)))⟩
  |some m=>
   have HO:=QQ (H.out.mok he);have HP:=QQ (show Jq8 s ws=(s,.ok (Z9 [m.an,m.la])) by unfold Jq8 ZK X4;rw[hn];simp only[he]);go_enter Tryz.func38,Tryz.ntmps38
   go_wp2_with (first
    |(go_at_call 47;refine(H.out.numbers_ok c hn).mono ?_;rintro e w1 ⟨A1,c1,rfl,hB,hC,hup⟩)
    |(go_at_call 48;refine(H.out.ready_yes he hB).mono ?_;rintro e w2 ⟨rfl,hB2⟩;have HB:=QQ (hB.trans (hB2.mono hB.size));obtain⟨e,F,c6,hE,hfr,hnx⟩:=H.out.engine he HB.out;have HE:=QQ hE;have HX:=QQ hnx;have HFr:=QQ hfr;clear hE hnx hfr;clear hB hB2)
    |(go_at_call 60;refine(Kp0 HE.out).mono ?_;rintro ev w3 ⟨rfl,hB3⟩;have HB3:=QQ ((H.out.globs (HB.out.trans (hB3.mono HB.out.size))));have HS3:=QQ (H.out.sizes (HB.out.trans (hB3.mono HB.out.size)));have HBB:=QQ (HB.out.trans (hB3.mono HB.out.size));clear hB3)
    |(go_at_call 50;refine(Ja2 (some ⟨w3.heap.size,0,none⟩) 2 2 [m.an,m.la] _ (HB3.out.below ((Below.refl _ w3).alloc (Nat.le_refl _) _) HS3.out) (by have:=HS3.out;simp;omega) (OZ.of_blk (QJ.new w3 3 #[.int .i64 m.an,.int .i64 m.la])) rfl (Ke9 (Q7 (by have:=HO.out.ok.an;omega)) (Q7 (by have:=HO.out.ok.la;omega))) (by omega)).mono ?_;rintro e w4 ⟨rfl,hB4⟩))
   go_ret;have hle:=Ja1 (l:= [m.an,m.la]) (Ke9 (Q7 (by have:=HO.out.ok.an;omega)) (Q7 (by have:=HO.out.ok.la;omega)));exact XW HP.out rfl (by show _≤10000000000;simp only[List.length_cons,List.length_nil]at hle;omega) (H.out.desk.to ((HBB.out.alloc HBB.out.size _).trans (hB4.mono (by have:=HBB.out.size;simp;omega))))
theorem Kf0 {w:World} {d k n0:Nat} {G:Nat→Prop} {s:DS} {A:Option Addr} {ws:List ByteArray} (h:MIn w d G k s A n0 ws) (c:Nat):
  Calls Tryz.prog 37 #[.pointer (some ⟨d,0,none⟩),.slice A n0 c] w (Qb6 w d G k (Qz9 s ws)):=by
 have H:=QQ h
 clear h
 cases hn:XV ws 0 with
 |none=>
  have HP:=QQ (show Qz9 s ws=(s,.bad 3) by unfold Qz9 ZK;rw[hn]);go_enter Tryz.func37,Tryz.ntmps37
  go_wp2_with (go_at_call 47;refine(H.out.numbers_bad c hn).mono ?_;rintro e w1 ⟨rfl,hB⟩)
  exact⟨rfl,XW HP.out rfl (XZ (by omega)) (H.out.desk.to hB)⟩
 |some l=>
  have HF:=QQ (YK hn)
  cases he:s.e with
  |none=>
   have HP:=QQ (show Qz9 s ws=(s,.bad 6) by unfold Qz9 ZK X4;rw[hn];simp only[he]);go_enter Tryz.func37,Tryz.ntmps37
   go_wp2_with (first
    |(go_at_call 47;refine(H.out.numbers_ok c hn).mono ?_;rintro e w1 ⟨A1,c1,rfl,hB,hC,hup⟩)
    |(go_at_call 48;refine(H.out.ready_not he hB).mono ?_;rintro e w2 ⟨rfl,hB2⟩))
   exact⟨rfl,XW HP.out rfl (XZ (by omega)) (H.out.desk.to (hB.trans (hB2.mono hB.size)))⟩
  |some m=>
   have HO:=QQ (H.out.mok he);obtain⟨hq1,hq2,hq3⟩:=Kq8 HO.out.ok;obtain⟨q1,q2,q3,hq⟩: ∃q1 q2 q3,Qm7 m=(q1,q2,q3):=⟨_,_,_,rfl⟩;rw[hq]at hq1 hq2 hq3;have HQF:=QQ (Zb6 hq1 hq2 hq3);have HQ:=QQ hq;clear hq1 hq2 hq3 hq;have HP:=QQ (show Qz9 s ws=(s,.ok (Z9 [q1,q2,q3])) by unfold Qz9 ZK X4;rw[hn];simp only[he,HQ.out]);go_enter Tryz.func37,Tryz.ntmps37
   go_wp2_with (first
    |(go_at_call 47;refine(H.out.numbers_ok c hn).mono ?_;rintro e w1 ⟨A1,c1,rfl,hB,hC,hup⟩)
    |(go_at_call 48;refine(H.out.ready_yes he hB).mono ?_;rintro e w2 ⟨rfl,hB2⟩;have HB:=QQ (hB.trans (hB2.mono hB.size));obtain⟨e,F,c6,hE,hfr,hnx⟩:=H.out.engine he HB.out;have HE:=QQ hE;have HX:=QQ hnx;have HFr:=QQ hfr;clear hE hnx hfr;clear hB hB2)
    |(go_at_call 59;refine(Kd5 HE.out HO.out.ok.la).mono ?_;rw[HQ.out];unfold Qq4;rintro ev w3 ⟨rfl,hB3⟩;have HB3:=QQ ((H.out.globs (HB.out.trans (hB3.mono HB.out.size))));have HS3:=QQ (H.out.sizes (HB.out.trans (hB3.mono HB.out.size)));have HBB:=QQ (HB.out.trans (hB3.mono HB.out.size));clear hB3)
    |(go_at_call 50;refine(Ja2 (some ⟨w3.heap.size+1,0,none⟩) 3 3 [q1,q2,q3] _ (HB3.out.below (((Below.refl _ w3).alloc (Nat.le_refl _) _).alloc (by simp) _) HS3.out) (by have:=HS3.out;simp;omega) (OZ.of_blk (Zg7 w3 86 3 #[.int .i64 q1,.int .i64 q2,.int .i64 q3] #[.int .i64 q1,.int .i64 q2,.int .i64 q3])) rfl HQF.out (by omega)).mono ?_;rintro e w4 ⟨rfl,hB4⟩))
   go_ret;have hle:=Ja1 (l:= [q1,q2,q3]) HQF.out;exact XW HP.out rfl (by show _≤10000000000;simp only[List.length_cons,List.length_nil]at hle;omega) (H.out.desk.to (((HBB.out.alloc HBB.out.size _).alloc (by have:=HBB.out.size;simp;omega) _).trans (hB4.mono (by have:=HBB.out.size;simp;omega))))
theorem Xw7 {w:World} {d k n0:Nat} {G:Nat→Prop} {s:DS} {A:Option Addr} {ws:List ByteArray} (h:MIn w d G k s A n0 ws) (c:Nat):
  Calls Tryz.prog 35 #[.pointer (some ⟨d,0,none⟩),.slice A n0 c] w (Qb6 w d G k (Qo9 s ws)):=by
 have H:=QQ h
 clear h
 cases hn:XV ws 0 with
 |none=>
  have HP:=QQ (show Qo9 s ws=(s,.bad 3) by unfold Qo9 ZK;rw[hn]);go_enter Tryz.func35,Tryz.ntmps35
  go_wp2_with (go_at_call 47;refine(H.out.numbers_bad c hn).mono ?_;rintro e w1 ⟨rfl,hB⟩)
  exact⟨rfl,XW HP.out rfl (XZ (by omega)) (H.out.desk.to hB)⟩
 |some l=>
  have HF:=QQ (YK hn)
  cases he:s.e with
  |none=>
   have HP:=QQ (show Qo9 s ws=(s,.bad 6) by unfold Qo9 ZK X4;rw[hn];simp only[he]);go_enter Tryz.func35,Tryz.ntmps35
   go_wp2_with (first
    |(go_at_call 47;refine(H.out.numbers_ok c hn).mono ?_;rintro e w1 ⟨A1,c1,rfl,hB,hC,hup⟩)
    |(go_at_call 48;refine(H.out.ready_not he hB).mono ?_;rintro e w2 ⟨rfl,hB2⟩))
   exact⟨rfl,XW HP.out rfl (XZ (by omega)) (H.out.desk.to (hB.trans (hB2.mono hB.size)))⟩
  |some m=>
   have HO:=QQ (H.out.mok he);have HP:=QQ (show Qo9 s ws=(s,.ok (Qv1 m.pk)) by unfold Qo9 ZK X4;rw[hn];simp only[he]);go_enter Tryz.func35,Tryz.ntmps35
   go_wp2_with (first
    |(go_at_call 47;refine(H.out.numbers_ok c hn).mono ?_;rintro e w1 ⟨A1,c1,rfl,hB,hC,hup⟩)
    |(go_at_call 48;refine(H.out.ready_yes he hB).mono ?_;rintro e w2 ⟨rfl,hB2⟩;have HB:=QQ (hB.trans (hB2.mono hB.size));obtain⟨e,F,c6,hE,hfr,hnx⟩:=H.out.engine he HB.out;have HE:=QQ hE;have HX:=QQ hnx;have HFr:=QQ hfr;clear hE hnx hfr;clear hB hB2)
    |(go_at_call 57;refine(Xu9 HE.out (by have:=HO.out.ok.cnt;omega)).mono ?_;rintro ev w3 ⟨hB3,A2,c2,rfl,hR2,hup2⟩;have HR2:=QQ hR2;clear hR2 hup2;have HB3:=QQ ((H.out.globs (HB.out.trans (hB3.mono HB.out.size))));have HS3:=QQ (H.out.sizes (HB.out.trans (hB3.mono HB.out.size)));have HBB:=QQ (HB.out.trans (hB3.mono HB.out.size));clear hB3)
    |(go_at_call 56;refine(Xa4 A2 m.pk.length c2 m.pk w3 HB3.out HS3.out HR2.out (fun o ho=>(HO.out.ok.pk o ho).1.1) (by have:=HO.out.ok.cnt;omega)).mono ?_;rintro e w4 ⟨rfl,hB4⟩))
   go_ret;have hle:=Jg1 (L:=m.pk) (fun o ho=>(HO.out.ok.pk o ho).1.1);exact XW HP.out rfl (by show _≤10000000000;have:=HO.out.ok.cnt;omega) (H.out.desk.to (HBB.out.trans (hB4.mono HBB.out.size)))
theorem Zb7 {p:Int} (h:p=1∨p=2∨p=3∨p=4∨p=5∨p=6∨p=7) (w:World):(Instr.index 83 (.agg #[.string ⟨#[]⟩,.string ⟨#[112,114,101,111,112,101,110]⟩,.string ⟨#[111,112,101,110,105,110,103]⟩,.string ⟨#[116,114,97,100,105,110,103]⟩,.string ⟨#[118,111,108,97,116,105,108,105,116,121]⟩,.string ⟨#[99,108,111,115,105,110,103]⟩,.string ⟨#[104,97,108,116]⟩,.string ⟨#[101,110,100,101,100]⟩]) (.int .i64 p)).run Tryz.prog w= .ok (.string ⟨(Xm3 p).toArray⟩) w:=by
 rcases h with rfl|rfl|rfl|rfl|rfl|rfl|rfl<;>kernel_rfl
theorem Zk5 {p:Int} (h:p=1∨p=2∨p=3∨p=4∨p=5∨p=6∨p=7):(Xm3 p).length≤10000000000:=by
 rcases h with rfl|rfl|rfl|rfl|rfl|rfl|rfl<;>decide
theorem Kf1 {w:World} {d k n0:Nat} {G:Nat→Prop} {s:DS} {A:Option Addr} {ws:List ByteArray} (h:MIn w d G k s A n0 ws) (c:Nat):
  Calls Tryz.prog 36 #[.pointer (some ⟨d,0,none⟩),.slice A n0 c] w (Qb6 w d G k (Qz8 s ws)):=by
 have H:=QQ h
 clear h
 cases hn:XV ws 0 with
 |none=>
  have HP:=QQ (show Qz8 s ws=(s,.bad 3) by unfold Qz8 ZK;rw[hn]);go_enter Tryz.func36,Tryz.ntmps36
  go_wp2_with (go_at_call 47;refine(H.out.numbers_bad c hn).mono ?_;rintro e w1 ⟨rfl,hB⟩)
  exact⟨rfl,XW HP.out rfl (XZ (by omega)) (H.out.desk.to hB)⟩
 |some l=>
  have HF:=QQ (YK hn)
  cases he:s.e with
  |none=>
   have HP:=QQ (show Qz8 s ws=(s,.bad 6) by unfold Qz8 ZK X4;rw[hn];simp only[he]);go_enter Tryz.func36,Tryz.ntmps36
   go_wp2_with (first
    |(go_at_call 47;refine(H.out.numbers_ok c hn).mono ?_;rintro e w1 ⟨A1,c1,rfl,hB,hC,hup⟩)
    |(go_at_call 48;refine(H.out.ready_not he hB).mono ?_;rintro e w2 ⟨rfl,hB2⟩))
   exact⟨rfl,XW HP.out rfl (XZ (by omega)) (H.out.desk.to (hB.trans (hB2.mono hB.size)))⟩
  |some m=>
   have HO:=QQ (H.out.mok he);have hph:m.ph=1∨m.ph=2∨m.ph=3∨m.ph=4∨m.ph=5∨m.ph=6∨m.ph=7:=by have:=HO.out.ph;omega
   have HP:=QQ (show Qz8 s ws=(s,.ok (Xm3 m.ph)) by unfold Qz8 ZK X4;rw[hn];simp only[he]);have hix:=Zb7 hph;have HL:=QQ (Zk5 hph);clear hph;go_enter Tryz.func36,Tryz.ntmps36
   go_wp2_with (first
    |(go_at_call 47;refine(H.out.numbers_ok c hn).mono ?_;rintro e w1 ⟨A1,c1,rfl,hB,hC,hup⟩)
    |(go_at_call 48;refine(H.out.ready_yes he hB).mono ?_;rintro e w2 ⟨rfl,hB2⟩;have HB:=QQ (hB.trans (hB2.mono hB.size));obtain⟨e,F,c6,hE,hfr,hnx⟩:=H.out.engine he HB.out;have HE:=QQ hE;have HX:=QQ hnx;have HFr:=QQ hfr;clear hE hnx hfr;clear hB hB2)
    |(go_at_call 58;refine(Kd4 HE.out).mono ?_;rintro ev w3 ⟨rfl,hB3⟩))
   go_ret;exact XW HP.out rfl HL.out (H.out.desk.to (HB.out.trans (hB3.mono HB.out.size)))
theorem Ks0 {w:World} {d k n0:Nat} {G:Nat→Prop} {s:DS} {A:Option Addr} {ws:List ByteArray} (h:MIn w d G k s A n0 ws) (c:Nat):
  Calls Tryz.prog 42 #[.pointer (some ⟨d,0,none⟩),.slice A n0 c] w (Qb6 w d G k (Jd4 s ws)):=by
 have H:=QQ h
 clear h
 cases hn:XV ws 0 with
 |none=>
  have HP:=QQ (show Jd4 s ws=(s,.bad 3) by unfold Jd4 ZK;rw[hn]);go_enter Tryz.func42,Tryz.ntmps42
  go_wp2_with (go_at_call 47;refine(H.out.numbers_bad c hn).mono ?_;rintro e w1 ⟨rfl,hB⟩)
  exact⟨rfl,XW HP.out rfl (XZ (by omega)) (H.out.desk.to hB)⟩
 |some l=>
  have HF:=QQ (YK hn)
  cases he:s.e with
  |none=>
   have HP:=QQ (show Jd4 s ws=(s,.bad 6) by unfold Jd4 ZK X4;rw[hn];simp only[he]);go_enter Tryz.func42,Tryz.ntmps42
   go_wp2_with (first
    |(go_at_call 47;refine(H.out.numbers_ok c hn).mono ?_;rintro e w1 ⟨A1,c1,rfl,hB,hC,hup⟩)
    |(go_at_call 48;refine(H.out.ready_not he hB).mono ?_;rintro e w2 ⟨rfl,hB2⟩))
   exact⟨rfl,XW HP.out rfl (XZ (by omega)) (H.out.desk.to (hB.trans (hB2.mono hB.size)))⟩
  |some m=>
   have HO:=QQ (H.out.mok he);have hnw:=HO.out.now
   by_cases hz:Jd1 m=0
   ·have HP:=QQ (show Jd4 s ws=({s with e:=some (J6 m)},.ok (Qz5 (Lib.itoa (J6 m).now) (Kj1 m))) by unfold Jd4 ZK X4;rw[hn];simp only[he];rw[Qp0 hz])
    have HZ:=QQ hz;clear hz;obtain⟨tn,htn⟩: ∃tn,(J6 m).now=tn:=⟨_,rfl⟩;have HTn:=QQ htn;have htf:KZ tn:=by
     rw[←htn,Jj4];have:=H.out.k
     split<;>exact Q7 (by omega)
    clear htn;go_enter Tryz.func42,Tryz.ntmps42
    go_wp2_with (first
     |(go_at_call 47;refine(H.out.numbers_ok c hn).mono ?_;rintro e w1 ⟨A1,c1,rfl,hB,hC,hup⟩)
     |(go_at_call 48;refine(H.out.ready_yes he hB).mono ?_;rintro e w2 ⟨rfl,hB2⟩;have HB:=QQ (hB.trans (hB2.mono hB.size));obtain⟨e,F,c6,hE,hfr,hnx⟩:=H.out.engine he HB.out;have HE:=QQ hE;have HX:=QQ hnx;have HFr:=QQ hfr;clear hE hnx hfr;clear hB hB2)
     |(go_at_call 62;refine(Xh3 HE.out (HO.out.in_ H.out.k6) (HO.out.next H.out.k6)).mono ?_;rintro ev w3 hT;have hT2:=hT.to;have HN:=QQ (HX.out _ _ hT2 (HO.out.tick hT2.lists));obtain⟨A2,c2,Fs,rfl,hF,hR2,hup2,hrest⟩:=hT;have HFs:=QQ hF;have HR2:=QQ hR2;clear hT2 hup2 hrest hF hR2)
     |(go_at_call 18;refine(Jb8 _ HZ.out _).mono ?_;rintro e w4 ⟨rfl,hB4⟩;obtain⟨G4,hD4⟩:=HN.out.2.2.1;obtain⟨e4,F4,c64,hE4,-,-⟩:=(hD4.below hB4).eng;have HE4:=QQ hE4;have HB4:=QQ hB4;clear hD4 hE4 hB4)
     |(go_at_call 64;refine(Kz1 HE4.out).mono ?_;rintro ev w5 ⟨rfl,hB5⟩;rw[HTn.out];have HB5:=QQ (HB4.out.trans (hB5.mono HB4.out.size));have HG5:=QQ (HN.out.1.below HB5.out HN.out.2.1);clear hB5)
     |(go_at_call 14;refine(Xq5 tn htf _ HG5.out).mono ?_;rintro ev w6 ⟨rfl,hB6⟩;have HB6:=QQ (HB5.out.trans (hB6.mono HB5.out.size));clear hB6)
     |(go_at_call 63;refine(Xh8 ⟨(Lib.itoa tn).toArray⟩ A2 Fs.length c2 Fs _ (HN.out.1.below HB6.out HN.out.2.1) (Nat.le_trans HN.out.2.1 HB6.out.size) (HR2.out.below HB6.out) (Jb7 HO.out.ok HFs.out).1 (Jb7 HO.out.ok HFs.out).2 (by have:=Lib.itoa_length_le tn htf.1 htf.2;rw[Lib.size_eq];show(Lib.itoa tn).length≤1000;omega)).mono ?_;rintro ev w7 ⟨rfl,hB7⟩))
    go_ret;have hle:=Jn0 (nm:=Lib.itoa tn) (by have:=Lib.itoa_length_le tn htf.1 htf.2;omega) (Jb7 HO.out.ok HFs.out).1;have hln:=(Jb7 HO.out.ok HFs.out).2;refine XW HP.out ?_ ?_ (HN.out.2.2.2 _ (HB6.out.trans (hB7.mono HB6.out.size)))
    ·rw[HTn.out,Xw1 HFs.out]
     rfl
    ·rw[HTn.out,Xw1 HFs.out]
     show _≤10000000000;omega
   ·have HP:=QQ (show Jd4 s ws=({s with e:=some (J6 m)},.bad (Jd1 m)) by unfold Jd4 ZK X4;rw[hn];simp only[he];rw[Qj5 hz])
    have HZ:=QQ hz;clear hz;go_enter Tryz.func42,Tryz.ntmps42
    go_wp2_with (first
     |(go_at_call 47;refine(H.out.numbers_ok c hn).mono ?_;rintro e w1 ⟨A1,c1,rfl,hB,hC,hup⟩)
     |(go_at_call 48;refine(H.out.ready_yes he hB).mono ?_;rintro e w2 ⟨rfl,hB2⟩;have HB:=QQ (hB.trans (hB2.mono hB.size));obtain⟨e,F,c6,hE,hfr,hnx⟩:=H.out.engine he HB.out;have HE:=QQ hE;have HX:=QQ hnx;have HFr:=QQ hfr;clear hE hnx hfr;clear hB hB2)
     |(go_at_call 62;refine(Xh3 HE.out (HO.out.in_ H.out.k6) (HO.out.next H.out.k6)).mono ?_;rintro ev w3 hT;have hT2:=hT.to;have HN:=QQ (HX.out _ _ hT2 (HO.out.tick hT2.lists));obtain⟨A2,c2,Fs,rfl,hrest⟩:=hT;clear hT2 hrest)
     |(go_at_call 18;refine(Qn3 _ HZ.out _ HN.out.1).mono ?_;rintro e w4 ⟨rfl,hB4⟩))
    exact⟨rfl,XW HP.out rfl (Kr5 _) (HN.out.2.2.2 _ hB4)⟩
theorem Xn1 {w:World} {A:Option Addr} {a:Int} (h:OZ w A ([a].map Jm7)): ∃g o,A=some ⟨g,o,none⟩∧w.cell? ⟨g,o,none⟩=some (.int .i64 a):=by
 obtain⟨g,o,h1,h2⟩:=h 0 _ rfl
 exact⟨g,o,h1,h2⟩
theorem Kf2 {w:World} {A:Option Addr} {a b:Int} (h:OZ w A ([a,b].map Jm7)): ∃g o,A=some ⟨g,o,none⟩∧w.cell? ⟨g,o,none⟩=some (.int .i64 a)∧w.cell? ⟨g,o+1,none⟩=some (.int .i64 b):=by
 obtain⟨g,o,h1,h2⟩:=h 0 _ rfl
 obtain⟨g',o',h3,h4⟩:=h 1 _ rfl
 cases h1.symm.trans h3
 exact⟨g,o,h1,h2,h4⟩
theorem Zk6 {w:World} {A:Option Addr} {a b c:Int} (h:OZ w A ([a,b,c].map Jm7)): ∃g o,A=some ⟨g,o,none⟩∧w.cell? ⟨g,o,none⟩=some (.int .i64 a)∧w.cell? ⟨g,o+1,none⟩=some (.int .i64 b)∧w.cell? ⟨g,o+2,none⟩=some (.int .i64 c):=by
 obtain⟨g,o,h1,h2⟩:=h 0 _ rfl
 obtain⟨g',o',h3,h4⟩:=h 1 _ rfl
 cases h1.symm.trans h3
 obtain⟨g',o',h5,h6⟩:=h 2 _ rfl
 cases h1.symm.trans h5
 exact⟨g,o,h1,h2,h4,h6⟩
theorem Zb8 {w:World} {A:Option Addr} {a b c d:Int} (h:OZ w A ([a,b,c,d].map Jm7)): ∃g o,A=some ⟨g,o,none⟩∧w.cell? ⟨g,o,none⟩=some (.int .i64 a)∧w.cell? ⟨g,o+1,none⟩=some (.int .i64 b)∧w.cell? ⟨g,o+2,none⟩=some (.int .i64 c)∧w.cell? ⟨g,o+3,none⟩=some (.int .i64 d):=by
 obtain⟨g,o,h1,h2⟩:=h 0 _ rfl
 obtain⟨g',o',h3,h4⟩:=h 1 _ rfl
 cases h1.symm.trans h3
 obtain⟨g',o',h5,h6⟩:=h 2 _ rfl
 cases h1.symm.trans h5
 obtain⟨g',o',h7,h8⟩:=h 3 _ rfl
 cases h1.symm.trans h7
 exact⟨g,o,h1,h2,h4,h6,h8⟩
theorem Zi1 {l:List Int} (h:(l.length:Int)=1): ∃a,l= [a]:=by
 match l,h with
 | [a],_=>exact⟨a,rfl⟩
 | [],h=>simp at h
 |_::_::_,h=>simp at h;omega
theorem Zi2 {l:List Int} (h:(l.length:Int)=2): ∃a b,l= [a,b]:=by
 match l,h with
 | [a,b],_=>exact⟨a,b,rfl⟩
 | [],h=>simp at h
 | [_],h=>simp at h
 |_::_::_::_,h=>simp at h;omega
theorem Zm1 {l:List Int} (h:(l.length:Int)=3): ∃a b c,l= [a,b,c]:=by
 match l,h with
 | [a,b,c],_=>exact⟨a,b,c,rfl⟩
 | [],h=>simp at h
 | [_],h=>simp at h
 | [_,_],h=>simp at h
 |_::_::_::_::_,h=>simp at h;omega
theorem Zm2 {l:List Int} (h:(l.length:Int)=4): ∃a b c d,l= [a,b,c,d]:=by
 match l,h with
 | [a,b,c,d],_=>exact⟨a,b,c,d,rfl⟩
 | [],h=>simp at h
 | [_],h=>simp at h
 | [_,_],h=>simp at h
 | [_,_,_],h=>simp at h
 |_::_::_::_::_::_,h=>simp at h;omega
theorem Xw8 (m:VQ) (i:Int):KZ (Qa7 m i):=by
 unfold Qa7
 split
 ·exact XZ (by omega)
 ·split
  ·exact XZ (by omega)
  ·split<;>exact XZ (by omega)
theorem Kf3 (m:VQ) (o:QX):KZ (IK m o):=by
 unfold IK
 split
 ·exact XZ (by omega)
 ·split
  ·exact XZ (by omega)
  ·split
   ·exact XZ (by omega)
   ·split
    ·exact XZ (by omega)
    ·split<;>exact XZ (by omega)
theorem Ks1 (p s:Int):KZ (Qg6 p s):=by unfold Qg6;split<;>exact XZ (by omega)
theorem Zb9 (p s:Int):KZ (I3 p s)∧KZ (I4 p s):=by
 unfold I3 I4
 split
 ·rename_i h
  obtain⟨h1,h2,h3,h4⟩:=Qm4.1 h;have hd:0≤p*s:=Int.mul_nonneg (by omega) (by omega);unfold Kh6 Xk4;exact⟨Q7 (by omega),Q7 (by omega)⟩
 ·exact⟨XZ (by omega),XZ (by omega)⟩
theorem Xw9 {w:World} {d k n0:Nat} {G:Nat→Prop} {s:DS} {A:Option Addr} {ws:List ByteArray} (h:MIn w d G k s A n0 ws) (c:Nat):
  Calls Tryz.prog 29 #[.pointer (some ⟨d,0,none⟩),.slice A n0 c] w (Qb6 w d G k (Qh7 s ws)):=by
 have H:=QQ h
 clear h
 cases hn:XV ws 1 with
 |none=>
  have HP:=QQ (show Qh7 s ws=(s,.bad 3) by unfold Qh7 ZK;rw[hn]);go_enter Tryz.func29,Tryz.ntmps29
  go_wp2_with (go_at_call 47;refine(H.out.numbers_bad c hn).mono ?_;rintro e w1 ⟨rfl,hB⟩)
  exact⟨rfl,XW HP.out rfl (XZ (by omega)) (H.out.desk.to hB)⟩
 |some l=>
  have HF:=QQ (YK hn)
  cases he:s.e with
  |none=>
   have HP:=QQ (show Qh7 s ws=(s,.bad 6) by unfold Qh7 ZK X4;rw[hn];simp only[he]);go_enter Tryz.func29,Tryz.ntmps29
   go_wp2_with (first
    |(go_at_call 47;refine(H.out.numbers_ok c hn).mono ?_;rintro e w1 ⟨A1,c1,rfl,hB,hC,hup⟩)
    |(go_at_call 48;refine(H.out.ready_not he hB).mono ?_;rintro e w2 ⟨rfl,hB2⟩))
   exact⟨rfl,XW HP.out rfl (XZ (by omega)) (H.out.desk.to (hB.trans (hB2.mono hB.size)))⟩
  |some m=>
   obtain⟨i,rfl⟩:=Zi1 (HF.out.2.1 (by omega));have HO:=QQ (H.out.mok he)
   by_cases hz:Qa7 m i=0
   ·have HP:=QQ (show Qh7 s ws=({s with e:=some (UW m i)},.ok [99,97,110,99,101,108]) by unfold Qh7 ZK X4;rw[hn];simp only[he];exact congrArg _ (Qp0 hz _))
    have HZ:=QQ hz;clear hz;go_enter Tryz.func29,Tryz.ntmps29
    go_wp2_with (first
     |(go_at_call 47;refine(H.out.numbers_ok c hn).mono ?_;rintro e w1 ⟨A1,c1,rfl,hB,hC,hup⟩;obtain⟨g1,o1,hA1,x0⟩:=Xn1 hC;subst hA1;clear hC hup)
     |(go_at_call 48;refine(H.out.ready_yes he hB).mono ?_;rintro e w2 ⟨rfl,hB2⟩;have HB:=QQ (hB.trans (hB2.mono hB.size));have y0:=(hB2.cell (p:=⟨g1,o1,none⟩) (World.block_lt_of_cell? w1 _ x0)).trans x0;clear x0;obtain⟨e,F,c6,hE,hfr,hnx⟩:=H.out.engine he HB.out;have HE:=QQ hE;have HX:=QQ hnx;have HFr:=QQ hfr;clear hE hnx hfr;clear hB hB2))
    go_still_tail 7,(by kernel_rfl)
    change wpList _ _ _ _ _ w2.drew;generalize hwd:w2.drew=w2d;have HB':=QQ (show Below w.heap.size w w2d by rw[←hwd];exact QY HB.out 1);have HXd:=QQ (fun w3 m' (hT:ZZ w2d w3 e F m') hM=>HX.out w3 m' (ZZ.pre (w1:=w2d) (by rw[←hwd];exact QY (Below.refl _ w2) 1) hT) hM);have HEd:=QQ (show YQ w2d e F m from HE.out.below (by rw[←hwd];exact QY (Below.refl _ w2) 1));clear hwd;go_wp2_with (first
     |(go_at_call 52;refine(Jq7 HEd.out (by have:=HO.out.ok.cnt;omega) i).mono ?_;rintro ev w3 ⟨rfl,hT⟩;have HN:=QQ (HXd.out _ _ hT (HO.out.cancel i (ZZ.lists hT)));clear hT)
     |(go_at_call 18;refine(Jb8 _ HZ.out _).mono ?_;rintro e w4 ⟨rfl,hB4⟩))
    go_ret;exact XW HP.out rfl (by show _≤10000000000;decide) (HN.out.2.2.2 _ hB4)
   ·have HP:=QQ (show Qh7 s ws=({s with e:=some (UW m i)},.bad (Qa7 m i)) by unfold Qh7 ZK X4;rw[hn];simp only[he];exact congrArg _ (Qj5 hz _))
    have HZ:=QQ hz;clear hz;go_enter Tryz.func29,Tryz.ntmps29
    go_wp2_with (first
     |(go_at_call 47;refine(H.out.numbers_ok c hn).mono ?_;rintro e w1 ⟨A1,c1,rfl,hB,hC,hup⟩;obtain⟨g1,o1,hA1,x0⟩:=Xn1 hC;subst hA1;clear hC hup)
     |(go_at_call 48;refine(H.out.ready_yes he hB).mono ?_;rintro e w2 ⟨rfl,hB2⟩;have HB:=QQ (hB.trans (hB2.mono hB.size));have y0:=(hB2.cell (p:=⟨g1,o1,none⟩) (World.block_lt_of_cell? w1 _ x0)).trans x0;clear x0;obtain⟨e,F,c6,hE,hfr,hnx⟩:=H.out.engine he HB.out;have HE:=QQ hE;have HX:=QQ hnx;have HFr:=QQ hfr;clear hE hnx hfr;clear hB hB2))
    go_still_tail 7,(by kernel_rfl)
    change wpList _ _ _ _ _ w2.drew;generalize hwd:w2.drew=w2d;have HB':=QQ (show Below w.heap.size w w2d by rw[←hwd];exact QY HB.out 1);have HXd:=QQ (fun w3 m' (hT:ZZ w2d w3 e F m') hM=>HX.out w3 m' (ZZ.pre (w1:=w2d) (by rw[←hwd];exact QY (Below.refl _ w2) 1) hT) hM);have HEd:=QQ (show YQ w2d e F m from HE.out.below (by rw[←hwd];exact QY (Below.refl _ w2) 1));clear hwd;go_wp2_with (first
     |(go_at_call 52;refine(Jq7 HEd.out (by have:=HO.out.ok.cnt;omega) i).mono ?_;rintro ev w3 ⟨rfl,hT⟩;have HN:=QQ (HXd.out _ _ hT (HO.out.cancel i (ZZ.lists hT)));clear hT)
     |(go_at_call 18;refine(Qn3 _ HZ.out _ HN.out.1).mono ?_;rintro e w4 ⟨rfl,hB4⟩))
    exact⟨rfl,XW HP.out rfl (Xw8 m i) (HN.out.2.2.2 _ hB4)⟩
theorem Xa5 {w:World} {d k n0:Nat} {G:Nat→Prop} {s:DS} {A:Option Addr} {ws:List ByteArray} (h:MIn w d G k s A n0 ws) (c:Nat) (sd:Int) (hsd:KZ sd):
  Calls Tryz.prog 51 #[.pointer (some ⟨d,0,none⟩),.int .i64 sd,.slice A n0 c] w (Qb6 w d G k (Qe3 sd s ws)):=by
 have H:=QQ h
 clear h
 cases hn:XV ws 4 with
 |none=>
  have HP:=QQ (show Qe3 sd s ws=(s,.bad 3) by unfold Qe3 ZK;rw[hn]);go_enter Tryz.func51,Tryz.ntmps51
  go_wp2_with (go_at_call 47;refine(H.out.numbers_bad c hn).mono ?_;rintro e w1 ⟨rfl,hB⟩)
  exact⟨rfl,XW HP.out rfl (XZ (by omega)) (H.out.desk.to hB)⟩
 |some l=>
  have HF:=QQ (YK hn)
  cases he:s.e with
  |none=>
   have HP:=QQ (show Qe3 sd s ws=(s,.bad 6) by unfold Qe3 ZK X4;rw[hn];simp only[he]);go_enter Tryz.func51,Tryz.ntmps51
   go_wp2_with (first
    |(go_at_call 47;refine(H.out.numbers_ok c hn).mono ?_;rintro e w1 ⟨A1,c1,rfl,hB,hC,hup⟩)
    |(go_at_call 48;refine(H.out.ready_not he hB).mono ?_;rintro e w2 ⟨rfl,hB2⟩))
   exact⟨rfl,XW HP.out rfl (XZ (by omega)) (H.out.desk.to (hB.trans (hB2.mono hB.size)))⟩
  |some m=>
   obtain⟨a,b,c3,d4,rfl⟩:=Zm2 (HF.out.2.1 (by omega));have HO:=QQ (H.out.mok he);have HFO:=QQ (Zb1 hsd rfl HF.out.2.2)
   by_cases hz:IK m (Qh3 sd [a,b,c3,d4])=0
   ·have HP:=QQ (show Qe3 sd s ws=({s with e:=some (IZ m (Qh3 sd [a,b,c3,d4]))},.ok (Qz5 [116,97,107,101,110] (Qg4 m (Qh3 sd [a,b,c3,d4])))) by unfold Qe3 ZK X4;rw[hn];simp only[he];exact congrArg _ (Qp0 hz _))
    have HZ:=QQ hz;clear hz;go_enter Tryz.func51,Tryz.ntmps51
    go_wp2_with (first
     |(go_at_call 47;refine(H.out.numbers_ok c hn).mono ?_;rintro e w1 ⟨A1,c1,rfl,hB,hC,hup⟩;obtain⟨g1,o1,hA1,x0,x1,x2,x3⟩:=Zb8 hC;subst hA1;have HUp:=QQ (hup g1 rfl);clear hC hup)
     |(go_at_call 48;refine(H.out.ready_yes he hB).mono ?_;rintro e w2 ⟨rfl,hB2⟩;have HB:=QQ (hB.trans (hB2.mono hB.size));have hgl:=Nat.lt_of_lt_of_le (World.block_lt_of_cell? w1 _ x0) hB2.size;have y0:=(hB2.cell (p:=⟨g1,o1,none⟩) (World.block_lt_of_cell? w1 _ x0)).trans x0;have y1:=(hB2.cell (p:=⟨g1,o1+1,none⟩) (World.block_lt_of_cell? w1 _ x1)).trans x1;have y2:=(hB2.cell (p:=⟨g1,o1+2,none⟩) (World.block_lt_of_cell? w1 _ x2)).trans x2;have y3:=(hB2.cell (p:=⟨g1,o1+3,none⟩) (World.block_lt_of_cell? w1 _ x3)).trans x3;clear x0 x1 x2 x3;obtain⟨e,F,c6,hE,hfr,hnx⟩:=H.out.engine he HB.out;have HE:=QQ hE;have HX:=QQ hnx;have HFr:=QQ hfr;clear hE hnx hfr;clear hB hB2))
    obtain⟨E3,HE3⟩: ∃E3,Hid (VZ (IK m (Qh3 sd [a,b,c3,d4]))=E3):=⟨_,QQ rfl⟩;refine Z4 [] (fun _=>True) (fun W=>W.cell? ⟨d,6,none⟩=some (.pointer (some ⟨e,0,none⟩))∧W.cell? ⟨g1,o1,none⟩=some (.int .i64 a)∧W.cell? ⟨g1,o1+1,none⟩=some (.int .i64 b)∧W.cell? ⟨g1,o1+2,none⟩=some (.int .i64 c3)∧W.cell? ⟨g1,o1+3,none⟩=some (.int .i64 d4)) trivial ⟨c6,y0,y1,y2,y3⟩ (fun _ hU=> ?_);have HEd:=QQ (show YQ w2.drew e F m from HE.out.below (QY (Below.refl _ w2) 1));have HOr:=QQ (Xa3 HEd.out (HO.out.in_ H.out.k6) (Qh3 sd [a,b,c3,d4]) HFO.out);have HXd:=QQ (fun w3 m' (hT:ZZ w2.drew w3 e F m') hM=>HX.out w3 m' (ZZ.pre (w1:=w2.drew) (QY (Below.refl _ w2) 1) hT) hM);unfold KJ Qh3 at HOr;dsimp only[List.getD_cons_zero,List.getD_cons_succ]at HOr;refine tP 0 (.pointer (some ⟨d,0,none⟩)) ?_;refine tP 1 (.pointer (some ⟨d,0,none⟩)) ?_;refine tP 2 (.pointer (some ⟨d,6,none⟩)) ?_;refine tP 3 (.pointer (some ⟨e,0,none⟩)) ?_;refine tP 4 (.slice (some ⟨g1,o1,none⟩) 4 c1) ?_;refine tP 5 (.pointer (some ⟨g1,o1,none⟩)) ?_;refine tP 6 (.int .i64 a) ?_;refine tP 7 (.int .i64 sd) ?_;refine tP 8 (.slice (some ⟨g1,o1,none⟩) 4 c1) ?_;refine tP 9 (.pointer (some ⟨g1,o1+1,none⟩)) ?_;refine tP 10 (.int .i64 b) ?_;refine tP 11 (.slice (some ⟨g1,o1,none⟩) 4 c1) ?_;refine tP 12 (.pointer (some ⟨g1,o1+2,none⟩)) ?_;refine tP 13 (.int .i64 c3) ?_;refine tP 14 (.slice (some ⟨g1,o1,none⟩) 4 c1) ?_;refine tP 15 (.pointer (some ⟨g1,o1+3,none⟩)) ?_;refine tP 16 (.int .i64 d4) ?_;refine tP 17 (.agg #[.int .i64 a,.int .i64 sd,.int .i64 b,.int .i64 c3,.int .i64 d4]) ?_;refine oN 18 fun K1 hK1=> ?_
    go_simp
    go_at_call 77
    refine HOr.out.mono ?_;rintro ev w3 hT;replace hT:Q2 w2.drew w3 e F (fun Fs=>Fs=Qg4 m (Qh3 sd [a,b,c3,d4])) (IZ m (Qh3 sd [a,b,c3,d4])) (IK m (Qh3 sd [a,b,c3,d4])) ev:=hT;have hT2:=hT.to;have hkp:=hT2.keep;have HN:=QQ (HXd.out _ _ hT2 (HO.out.order HFO.out hT2.lists));obtain⟨A2,c2,Fs,rfl,hF,hR2,hup2,hrest⟩:=hT;have HFs:=QQ hF;have HR2:=QQ hR2;clear hT2 hup2 hrest hF hR2;have hfd: ¬F d:=fun h=>(HFr.out d h).2 rfl
    have hfg: ¬F g1:=fun h=>by have:=(HFr.out g1 h).1;have:=HUp.out;omega
    have hdl:d<w2.drew.heap.size:=World.block_lt_of_cell? w2 ⟨d,6,none⟩ c6;have hU3:w3.cell? ⟨d,6,none⟩=some (.pointer (some ⟨e,0,none⟩))∧w3.cell? ⟨g1,o1,none⟩=some (.int .i64 a)∧w3.cell? ⟨g1,o1+1,none⟩=some (.int .i64 b)∧w3.cell? ⟨g1,o1+2,none⟩=some (.int .i64 c3)∧w3.cell? ⟨g1,o1+3,none⟩=some (.int .i64 d4):=⟨(hkp.cell (p:=⟨d,6,none⟩) hdl hfd).trans c6,(hkp.cell (p:=⟨g1,o1,none⟩) hgl hfg).trans y0,(hkp.cell (p:=⟨g1,o1+1,none⟩) hgl hfg).trans y1,(hkp.cell (p:=⟨g1,o1+2,none⟩) hgl hfg).trans y2,(hkp.cell (p:=⟨g1,o1+3,none⟩) hgl hfg).trans y3⟩;refine hK1 _ _ (fun _=>trivial) hU3 ?_;clear hK1 hkp hfd hfg hdl;refine tP 19 (.tuple #[.slice A2 Fs.length c2,VZ (IK m (Qh3 sd [a,b,c3,d4]))]) ?_;refine tP 20 (.slice A2 Fs.length c2) ?_;refine tP 21 (VZ (IK m (Qh3 sd [a,b,c3,d4]))) ?_;refine tP 22 (.slice A2 Fs.length c2) ?_;refine tP 23 (VZ (IK m (Qh3 sd [a,b,c3,d4]))) ?_;refine U5 ?_ (by kernel_rfl) _;clear hU3 hU;go_wp2_with (first
     |(go_at_call 18;refine(Jb8 _ HZ.out _).mono ?_;rintro e w4 ⟨rfl,hB4⟩;have HB4:=QQ hB4;clear hB4)
     |(go_at_call 63;refine(Xh8 ⟨#[116,97,107,101,110]⟩ A2 Fs.length c2 Fs _ (HN.out.1.below HB4.out HN.out.2.1) (Nat.le_trans HN.out.2.1 HB4.out.size) (HR2.out.below HB4.out) (by rw[HFs.out];exact(Qv2 HO.out.ok HFO.out).1) (by rw[HFs.out];exact(Qv2 HO.out.ok HFO.out).2) (by decide)).mono ?_;rintro ev w7 ⟨rfl,hB7⟩))
    go_ret;have hle:=Jn0 (nm:= [116,97,107,101,110]) (by decide) (Qv2 HO.out.ok HFO.out).1;have hln:=(Qv2 HO.out.ok HFO.out).2;refine XW HP.out ?_ ?_ (HN.out.2.2.2 _ (HB4.out.trans (hB7.mono HB4.out.size)))
    ·rw[←HFs.out]
     rfl
    ·show _≤10000000000
     omega
   ·have HP:=QQ (show Qe3 sd s ws=({s with e:=some (IZ m (Qh3 sd [a,b,c3,d4]))},.bad (IK m (Qh3 sd [a,b,c3,d4]))) by unfold Qe3 ZK X4;rw[hn];simp only[he];exact congrArg _ (Qj5 hz _))
    have HZ:=QQ hz;clear hz;go_enter Tryz.func51,Tryz.ntmps51
    go_wp2_with (first
     |(go_at_call 47;refine(H.out.numbers_ok c hn).mono ?_;rintro e w1 ⟨A1,c1,rfl,hB,hC,hup⟩;obtain⟨g1,o1,hA1,x0,x1,x2,x3⟩:=Zb8 hC;subst hA1;have HUp:=QQ (hup g1 rfl);clear hC hup)
     |(go_at_call 48;refine(H.out.ready_yes he hB).mono ?_;rintro e w2 ⟨rfl,hB2⟩;have HB:=QQ (hB.trans (hB2.mono hB.size));have hgl:=Nat.lt_of_lt_of_le (World.block_lt_of_cell? w1 _ x0) hB2.size;have y0:=(hB2.cell (p:=⟨g1,o1,none⟩) (World.block_lt_of_cell? w1 _ x0)).trans x0;have y1:=(hB2.cell (p:=⟨g1,o1+1,none⟩) (World.block_lt_of_cell? w1 _ x1)).trans x1;have y2:=(hB2.cell (p:=⟨g1,o1+2,none⟩) (World.block_lt_of_cell? w1 _ x2)).trans x2;have y3:=(hB2.cell (p:=⟨g1,o1+3,none⟩) (World.block_lt_of_cell? w1 _ x3)).trans x3;clear x0 x1 x2 x3;obtain⟨e,F,c6,hE,hfr,hnx⟩:=H.out.engine he HB.out;have HE:=QQ hE;have HX:=QQ hnx;have HFr:=QQ hfr;clear hE hnx hfr;clear hB hB2))
    obtain⟨E3,HE3⟩: ∃E3,Hid (VZ (IK m (Qh3 sd [a,b,c3,d4]))=E3):=⟨_,QQ rfl⟩;refine Z4 [] (fun _=>True) (fun W=>W.cell? ⟨d,6,none⟩=some (.pointer (some ⟨e,0,none⟩))∧W.cell? ⟨g1,o1,none⟩=some (.int .i64 a)∧W.cell? ⟨g1,o1+1,none⟩=some (.int .i64 b)∧W.cell? ⟨g1,o1+2,none⟩=some (.int .i64 c3)∧W.cell? ⟨g1,o1+3,none⟩=some (.int .i64 d4)) trivial ⟨c6,y0,y1,y2,y3⟩ (fun _ hU=> ?_);have HEd:=QQ (show YQ w2.drew e F m from HE.out.below (QY (Below.refl _ w2) 1));have HOr:=QQ (Xa3 HEd.out (HO.out.in_ H.out.k6) (Qh3 sd [a,b,c3,d4]) HFO.out);have HXd:=QQ (fun w3 m' (hT:ZZ w2.drew w3 e F m') hM=>HX.out w3 m' (ZZ.pre (w1:=w2.drew) (QY (Below.refl _ w2) 1) hT) hM);unfold KJ Qh3 at HOr;dsimp only[List.getD_cons_zero,List.getD_cons_succ]at HOr;refine tP 0 (.pointer (some ⟨d,0,none⟩)) ?_;refine tP 1 (.pointer (some ⟨d,0,none⟩)) ?_;refine tP 2 (.pointer (some ⟨d,6,none⟩)) ?_;refine tP 3 (.pointer (some ⟨e,0,none⟩)) ?_;refine tP 4 (.slice (some ⟨g1,o1,none⟩) 4 c1) ?_;refine tP 5 (.pointer (some ⟨g1,o1,none⟩)) ?_;refine tP 6 (.int .i64 a) ?_;refine tP 7 (.int .i64 sd) ?_;refine tP 8 (.slice (some ⟨g1,o1,none⟩) 4 c1) ?_;refine tP 9 (.pointer (some ⟨g1,o1+1,none⟩)) ?_;refine tP 10 (.int .i64 b) ?_;refine tP 11 (.slice (some ⟨g1,o1,none⟩) 4 c1) ?_;refine tP 12 (.pointer (some ⟨g1,o1+2,none⟩)) ?_;refine tP 13 (.int .i64 c3) ?_;refine tP 14 (.slice (some ⟨g1,o1,none⟩) 4 c1) ?_;refine tP 15 (.pointer (some ⟨g1,o1+3,none⟩)) ?_;refine tP 16 (.int .i64 d4) ?_;refine tP 17 (.agg #[.int .i64 a,.int .i64 sd,.int .i64 b,.int .i64 c3,.int .i64 d4]) ?_;refine oN 18 fun K1 hK1=> ?_
    go_simp
    go_at_call 77
    refine HOr.out.mono ?_;rintro ev w3 hT;replace hT:Q2 w2.drew w3 e F (fun Fs=>Fs=Qg4 m (Qh3 sd [a,b,c3,d4])) (IZ m (Qh3 sd [a,b,c3,d4])) (IK m (Qh3 sd [a,b,c3,d4])) ev:=hT;have hT2:=hT.to;have hkp:=hT2.keep;have HN:=QQ (HXd.out _ _ hT2 (HO.out.order HFO.out hT2.lists));obtain⟨A2,c2,Fs,rfl,hrest⟩:=hT;clear hT2 hrest;have hfd: ¬F d:=fun h=>(HFr.out d h).2 rfl
    have hfg: ¬F g1:=fun h=>by have:=(HFr.out g1 h).1;have:=HUp.out;omega
    have hdl:d<w2.drew.heap.size:=World.block_lt_of_cell? w2 ⟨d,6,none⟩ c6;have hU3:w3.cell? ⟨d,6,none⟩=some (.pointer (some ⟨e,0,none⟩))∧w3.cell? ⟨g1,o1,none⟩=some (.int .i64 a)∧w3.cell? ⟨g1,o1+1,none⟩=some (.int .i64 b)∧w3.cell? ⟨g1,o1+2,none⟩=some (.int .i64 c3)∧w3.cell? ⟨g1,o1+3,none⟩=some (.int .i64 d4):=⟨(hkp.cell (p:=⟨d,6,none⟩) hdl hfd).trans c6,(hkp.cell (p:=⟨g1,o1,none⟩) hgl hfg).trans y0,(hkp.cell (p:=⟨g1,o1+1,none⟩) hgl hfg).trans y1,(hkp.cell (p:=⟨g1,o1+2,none⟩) hgl hfg).trans y2,(hkp.cell (p:=⟨g1,o1+3,none⟩) hgl hfg).trans y3⟩;refine hK1 _ _ (fun _=>trivial) hU3 ?_;clear hK1 hkp hfd hfg hdl;refine tP 19 (.tuple #[.slice A2 Fs.length c2,VZ (IK m (Qh3 sd [a,b,c3,d4]))]) ?_;refine tP 20 (.slice A2 Fs.length c2) ?_;refine tP 21 (VZ (IK m (Qh3 sd [a,b,c3,d4]))) ?_;refine tP 22 (.slice A2 Fs.length c2) ?_;refine tP 23 (VZ (IK m (Qh3 sd [a,b,c3,d4]))) ?_;refine U5 ?_ (by kernel_rfl) _;clear hU3 hU;go_wp2_with (first
     |(go_at_call 18;refine(Qn3 _ HZ.out _ HN.out.1).mono ?_;rintro e w4 ⟨rfl,hB4⟩))
    exact⟨rfl,XW HP.out rfl (Kf3 _ _) (HN.out.2.2.2 _ hB4)⟩
theorem Zc0 {w:World} {d k n0:Nat} {G:Nat→Prop} {s:DS} {A:Option Addr} {ws:List ByteArray} (h:MIn w d G k s A n0 ws) (c:Nat):
  Calls Tryz.prog 28 #[.pointer (some ⟨d,0,none⟩),.slice A n0 c] w (Qb6 w d G k (Qe3 1 s ws)):=by
 have HO:=QQ (Xa5 h c 1 (XZ (by omega)))
 clear h
 cases hr:(Qe3 1 s ws).2 with
 |ok x=>
  go_enter Tryz.func28,Tryz.ntmps28
  go_wp2_with (go_at_call 51;refine HO.out.mono ?_;rintro ev w1 ⟨h1,h2,h3⟩;replace h1:ev= .returned (.string ⟨x.toArray⟩):=(by rw[h1,hr];rfl);subst h1)
  go_ret;exact⟨by rw[hr];rfl,h2,h3⟩
 |bad x=>
  go_enter Tryz.func28,Tryz.ntmps28
  go_wp2_with (go_at_call 51;refine HO.out.mono ?_;rintro ev w1 ⟨h1,h2,h3⟩;replace h1:ev= .panicked [{v:= .iface 47 (.agg #[.int .i64 x]),recovered:=false}]:=(by rw[h1,hr];rfl);subst h1)
  exact⟨rfl,by rw[hr];rfl,h2,h3⟩
theorem Ks2 {w:World} {d k n0:Nat} {G:Nat→Prop} {s:DS} {A:Option Addr} {ws:List ByteArray} (h:MIn w d G k s A n0 ws) (c:Nat):
  Calls Tryz.prog 39 #[.pointer (some ⟨d,0,none⟩),.slice A n0 c] w (Qb6 w d G k (Qe3 2 s ws)):=by
 have HO:=QQ (Xa5 h c 2 (XZ (by omega)))
 clear h
 cases hr:(Qe3 2 s ws).2 with
 |ok x=>
  go_enter Tryz.func39,Tryz.ntmps39
  go_wp2_with (go_at_call 51;refine HO.out.mono ?_;rintro ev w1 ⟨h1,h2,h3⟩;replace h1:ev= .returned (.string ⟨x.toArray⟩):=(by rw[h1,hr];rfl);subst h1)
  go_ret;exact⟨by rw[hr];rfl,h2,h3⟩
 |bad x=>
  go_enter Tryz.func39,Tryz.ntmps39
  go_wp2_with (go_at_call 51;refine HO.out.mono ?_;rintro ev w1 ⟨h1,h2,h3⟩;replace h1:ev= .panicked [{v:= .iface 47 (.agg #[.int .i64 x]),recovered:=false}]:=(by rw[h1,hr];rfl);subst h1)
  exact⟨rfl,by rw[hr];rfl,h2,h3⟩
end Go.Proofs.YtbmiieehkkfbgaaGreatDoor
