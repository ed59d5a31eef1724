/- Contracts and walks that the law's proof needs. -/
import Derived.Test.YtbmiieehkkfbgaaGreatDoorZd21
import Derived.WalkKit
import Derived.WalkLawsBesides
import Derived.WalkSpells
import Derived.Deep.RegionLaw
import Derived.Shelf.Abstract
import Derived.Deep.LoopGhost
import Derived.Test.YtbmiieehkkfbgaaGreatDoorZd9
import Derived.Test.YtbmiieehkkfbgaaGreatDoorZd20
import Derived.Test.YtbmiieehkkfbgaaGreatDoorZd11
import Derived.Test.YtbmiieehkkfbgaaGreatDoorZd7
import Derived.Test.YtbmiieehkkfbgaaGreatDoorZd25
import Derived.Test.YtbmiieehkkfbgaaGreatDoorZd17
set_option linter.unusedVariables false
set_option maxRecDepth 100000
set_option maxHeartbeats 8000000
namespace Go.Proofs.YtbmiieehkkfbgaaGreatDoor
open Go.RowKit
theorem Kn9 (w:World) (b a:Nat) (F:Nat→Prop) (M:Int→Int→Option QX) (n r:Nat) (f:Int→Option Value) (H:Int→HS) (reg:Nat→Int) (hM:XK w b a F M n r f H reg) (hS:ZX M n f H) (x:HO) (hx:x∈(H 2).all) (hk:x.2.kind=2) (hn:n≤100):
  Calls Tryz.prog 119 #[.pointer (some ⟨b,0,none⟩),.int .i64 x.2.id] w fun e w'=>e= .returned (.tuple #[KJ x.2,VZ 0])∧Qi6 w w' b a r F n H 2 x.2.id:=by
 have hf:=hS.hf x (OX ZJ hx)
 have hsd:=hS.side_of ZJ hx
 have hMx:=hS.hM x (OX ZJ hx)
 obtain⟨⟨h1,h2⟩,o⟩:=x
 dsimp only at hf hsd hMx hk⊢
 have hmk:(o.kind ==2)=true:=by simpa using hk
 have hb0:Below w.heap.size w (w.alloc (.cells #[.int .i64 0,.int .i64 0,.int .i64 0,.int .i64 0,.int .i64 0] 117)):=(Below.refl _ w).alloc (Nat.le_refl _) _
 have hM0:=hM.below hb0
 have hlk:=X5 hM0.mp hf
 dsimp only at hlk
 rw[hsd,hmk]at hlk
 obtain⟨y0,y1,y2,y3,y4,y5⟩:=hM0.cells
 have HM:=QQ hM
 have HSm:=QQ hS
 have HX:=QQ hx
 have HKd:=QQ hk
 have HSd:=QQ hsd
 have HMx:=QQ hMx
 have HN:=QQ hn
 have HM0:=QQ hM0
 clear y0 y2 y3 y4 y5 hM hS hx hk hsd hMx hn hM0 hf hmk hb0
 go_enter Tryz.func119,Tryz.ntmps119
 go_upto_region 4 with fail
 clear hlk y1
 obtain⟨hb1,hM1,hR1,hP1⟩:=Ql0 (h1:=h1) (h2:=h2) (sd:=2) (pr:=o.price) (mk:=true) HM.out
 have hrb:=QQ (show¬V6 b r F H w.heap.size from fun h=>by have:=HM.out.fp h;omega)
 have hpb:=QQ (show¬V6 b r F H (w.heap.size+1)from fun h=>by have:=HM.out.fp h;omega)
 obtain⟨pb,hpbe⟩: ∃pb,pb=w.heap.size+1:=⟨_,rfl⟩
 obtain⟨rb,hrbe⟩: ∃rb,rb=w.heap.size:=⟨_,rfl⟩
 have hne:rb≠pb:=by omega
 have HLT:=QQ (show w.heap.size≤rb∧w.heap.size≤pb by omega)
 rw[←hpbe]at hP1 hpb⊢
 rw[←hrbe]at hR1 hrb⊢
 generalize(w.alloc (.cells #[.int .i64 0,.int .i64 0,.int .i64 0,.int .i64 0,.int .i64 0] 117)).alloc (.cells #[.int .i64 h1,.int .i64 h2,.int .i64 2,.int .i64 o.price,.bool true] 172)=w1 at hb1 hM1 hR1 hP1⊢
 obtain⟨w2,hdel,hI2,hT2⟩:=Js2 w1 r f hM1.mp o.id
 obtain⟨hM2,hS2⟩:=hM1.map_ hT2 hI2
 have HS2:=QQ ((KQ.of_below (G:=V6 b r F H) hb1).trans hS2)
 have hP2:QJ w2 pb 172 #[.int .i64 h1,.int .i64 h2,.int .i64 2,.int .i64 o.price,.bool true]:=QJ.of_block hP1 (hT2.block pb (fun e=>hpb.out (.inr (.inl e))))
 have hR2:QJ w2 rb 117 #[.int .i64 0,.int .i64 0,.int .i64 0,.int .i64 0,.int .i64 0]:=QJ.of_block hR1 (hT2.block rb (fun e=>hrb.out (.inr (.inl e))))
 have y1:=hM1.cells.2.1
 have HM2:=QQ hM2
 have HP2:=QQ hP2
 have HR2:=QQ hR2
 obtain⟨p0,p1,p2,p3,p4⟩:=Qc0 hP2
 clear hM1 hR1 hP1 hT2 hI2 hM2 hS2 hP2 hR2 hb1 hpbe hrbe
 go_wp2_with (simp only[hdel])
 clear hdel y1
 go_quiet (fail)
 have hq:Below w2.heap.size w2 (w2.drewN nq):=QY (Below.refl _ _) nq
 have HM3:=QQ (HM2.out.below hq)
 have HP3:=QQ (QJ.drewN HP2.out nq)
 have HR3:=QQ (QJ.drewN HR2.out nq)
 have HS3:=QQ (HS2.out.trans (KQ.of_below hq))
 clear hq p0 p1 p2 p3 p4
 generalize w2.drewN nq=w3 at HM3 HP3 HR3 HS3⊢
 clear HM2 HP2 HR2 HS2
 obtain⟨p0,p1,p2,p3,p4⟩:=Qc0 HP3.out
 obtain⟨y0,y1,y2,y3,y4,y5⟩:=HM3.out.cells
 have hmf: ∀(fn:Fn) (first cap:Array Value) (w:World),(Instr.makeFunc fn first cap).run Tryz.prog w= .ok (.func fn first cap) w:=fun _ _ _ _=>rfl
 have eg:=Go.Proofs.enters_of Tryz.func148 (by kernel_rfl) rfl
 obtain⟨m,hm⟩: ∃m,(H 2).ms.length=m:=⟨_,rfl⟩
 rw[hm]at y4
 have hmb:QZ (H 2).mA≠some b:=fun e=>by have h3:=(HM3.out.hx 2 ZJ).gm b e;have h4:=HM3.out.gb;omega
 have hdrop:=Jh6 w3 (H 2).mA m (H 2).mc (J7 (H 2).ms) pb (h1,h2) (by rw[←hm];exact(HM3.out.hx 2 ZJ).rm) (by have:=Kh7 ZJ HSm.out HN.out;omega) (fun e=>hpb.out (XK.fpH 2 ZJ (.inl e))) p0 p1
 have HD:=QQ hdrop
 have HMb:=QQ hmb
 have Hm:=QQ hm
 clear y0 y1 y2 y3 y4 y5 hdrop hmb hm
 have y4:w3.cell? ⟨b,4,none⟩=some (.slice (H 2).mA m (H 2).mc):=by rw[QJ.cell HM3.out.blk];exact congrArg (fun k=>some (Value.slice (H 2).mA k (H 2).mc)) Hm.out
 go_wp2_with fail
 refine HD.out.mono ?_
 rintro e w4 ⟨hk4,rfl,hr4⟩
 have b4:=QJ.keeps HM3.out.blk hk4 HMb.out
 have r0:w4.cell? ⟨b,4,none⟩=some (.slice (H 2).mA m (H 2).mc):=by rw[QJ.cell b4];exact congrArg (fun k=>some (Value.slice (H 2).mA k (H 2).mc)) Hm.out
 have rf0:=QJ.frozen b4 4
 rw[Qa6]at hr4⊢
 rw[←Qt8]at hr4
 obtain⟨reg5,hM5,hB5⟩:=HM3.out.market ZJ (A':=(H 2).mA) (c':=(H 2).mc) (ms':=(H 2).ms.filter (J9 (h1,h2))) hk4 hr4 (fun g hg=> .inl hg)
 have hq4: ∀g,¬V6 b r F H g→QZ (H 2).mA≠some g∧g≠b:=fun g hg=>⟨fun e=>hg (XK.fpH 2 ZJ (.inl e)),fun e=>hg (.inl e)⟩
 have HP5:=QQ (QJ.far (QJ.keeps HP3.out hk4 (hq4 _ hpb.out).1) (p:=⟨b,4,none⟩) (hq4 _ hpb.out).2 (.slice (H 2).mA ((H 2).ms.filter (J9 (h1,h2))).length (H 2).mc))
 have HR5:=QQ (QJ.far (QJ.keeps HR3.out hk4 (hq4 _ hrb.out).1) (p:=⟨b,4,none⟩) (hq4 _ hrb.out).2 (.slice (H 2).mA ((H 2).ms.filter (J9 (h1,h2))).length (H 2).mc))
 obtain⟨hS5,hL5⟩:=Jp3 HSm.out ZJ HX.out HKd.out (H 2).mA (H 2).mc
 have H13:=QQ (show Jl4 w (w4.setCell ⟨b,4,none⟩ (.slice (H 2).mA ((H 2).ms.filter (J9 (h1,h2))).length (H 2).mc)) b a r F M n (V1 f o.id none) H 2 o.id h1 h2 pb rb #[.int .i64 h1,.int .i64 h2,.int .i64 2,.int .i64 o.price,.bool true]from
  ⟨_,reg5,hM5,HS3.out.trans hB5,hS5,hL5,fun s' h=>UJ h,HP5.out,HR5.out,Xk6 ZJ (fun i hi=>hi) hrb.out⟩)
 clear hM5 hB5 hS5 hL5 hk4 hr4 b4 hq4 p0 p1 p2 p3 p4 y4 HP5 HR5 HM3 HP3 HR3 HS3
 obtain⟨nl,hnl⟩: ∃nl,((H 2).ms.filter (J9 (h1,h2))).length=nl:=⟨_,rfl⟩
 rw[hnl]at H13⊢
 clear hnl
 obtain⟨H5,reg5,hM5,hB5,hS5,hL5,hO5,hP5,hR5,hn5⟩:=H13.out
 have q0:=hM5.cells.1
 obtain⟨p0,p1,p2,p3,p4⟩:=Qc0 hP5
 clear hM5 hB5 hS5 hL5 hO5 hP5 hR5 hn5
 go_upto_region 13 with fail
 generalize(w4.setCell ⟨b,4,none⟩ (.slice (H 2).mA nl (H 2).mc))=w5 at H13 q0 p0 p1 p2 p3 p4⊢
 obtain⟨H5,reg5,hM5,hB5,hS5,hL5,hO5,hP5,hR5,hn5⟩:=H13.out
 have hget:=Ji8 (M:=M) hM5 (Below.drew (Below.refl w5.heap.size w5)) HMx.out
 have HG:=QQ hget
 have HB5:=QQ (hB5.trans (KQ.of_below (Below.drew (Below.refl w5.heap.size w5))))
 have HR5:=QQ hR5
 have HN5:=QQ hn5
 have HS5:=QQ hS5
 have HL5:=QQ hL5
 have HO5:=QQ hO5
 clear hget p2 p3 p4 hM5 hB5 hS5 hL5 hO5 hP5 hR5 hn5 H13
 go_cut [5,104] (fun s5 s104 wx=>s5= .nilIface∧Xk7 w wx b a r rb F M n (V1 f o.id none) H 2 o.id h1 h2 (KV o))
 case first=>as_aux_lemma=>
  go_region_with (go_at_call 153;refine HG.out.mono ?_;rintro e w6 ⟨rfl,F6,reg6,hM6,hB6⟩;have hr6:QJ w6 rb 117 #[.int .i64 0,.int .i64 0,.int .i64 0,.int .i64 0,.int .i64 0]:=QJ.keeps (QJ.drew HR5.out) hB6.1 HN5.out;have z0:=(Qc0 hr6).1;have z1:=(Qc0 hr6).2.1;have z2:=(Qc0 hr6).2.2.1;have z3:=(Qc0 hr6).2.2.2.1;have z4:=(Qc0 hr6).2.2.2.2;have f0:=QJ.frozen hr6 0;have f1:=QJ.frozen hr6 1;have f2:=QJ.frozen hr6 2;have f3:=QJ.frozen hr6 3;have f4:=QJ.frozen hr6 4;have HM6:=QQ hM6;have HB6:=QQ hB6;have HR6:=QQ hr6;clear hM6 hr6 hB6)
  all_goals go_wp2_with fail
  all_goals go_meet
  all_goals
   have hnb6: ¬V6 b r F6 H5 rb:=fun h=>(HB6.out.2 rb h).elim HN5.out (fun h3=>by have h4:=QJ.lt (QJ.drew HR5.out);omega)
   exact⟨rfl,Jb2 HM6.out (HB5.out.trans HB6.out) hnb6 HLT.out.1 HS5.out HL5.out HO5.out,QJ.set_ (QJ.set_ (QJ.set_ (QJ.set_ (QJ.set_ HR6.out 0 _) 1 _) 2 _) 3 _) 4 _⟩
 case rest=>
  obtain⟨rfl,hdone,hbox⟩:=hcut;have HDn:=QQ hdone;have HBx:=QQ hbox;clear hdone hbox;go_wp2_with fail
  refine Qm3 (g:=rb) (cs:=KV o) (v:=VZ 0) (by with_unfolding_all rfl) (by with_unfolding_all rfl) (by with_unfolding_all rfl) HBx.out rfl ?_;exact⟨rfl,HDn.out⟩
theorem Ko0 (w:World) (b a:Nat) (F:Nat→Prop) (M:Int→Int→Option QX) (n r:Nat) (f:Int→Option Value) (H:Int→HS) (reg:Nat→Int) (hM:XK w b a F M n r f H reg) (hS:ZX M n f H) (x:HO) (hx:x∈(H 2).all) (hk:x.2.kind≠2) (hn:n≤100) (k:Nat) (hkl:k< (H 2).qs.length) (hxk:x∈(H 2).qs[k].os) (hpk:(H 2).qs[k].price=x.2.price):
  Calls Tryz.prog 119 #[.pointer (some ⟨b,0,none⟩),.int .i64 x.2.id] w fun e w'=>e= .returned (.tuple #[KJ x.2,VZ 0])∧Qi6 w w' b a r F n H 2 x.2.id:=by
 have hf:=hS.hf x (OX ZJ hx)
 have hsd:=hS.side_of ZJ hx
 have hMx:=hS.hM x (OX ZJ hx)
 obtain⟨⟨h1,h2⟩,o⟩:=x
 dsimp only at hf hsd hMx hk⊢
 have hmk:(o.kind ==2)=false:=by simpa using hk
 have hb0:Below w.heap.size w (w.alloc (.cells #[.int .i64 0,.int .i64 0,.int .i64 0,.int .i64 0,.int .i64 0] 117)):=(Below.refl _ w).alloc (Nat.le_refl _) _
 have hM0:=hM.below hb0
 have hlk:=X5 hM0.mp hf
 dsimp only at hlk
 rw[hsd,hmk]at hlk
 obtain⟨y0,y1,y2,y3,y4,y5⟩:=hM0.cells
 have HM:=QQ hM
 have HSm:=QQ hS
 have HX:=QQ hx
 have HKd:=QQ hk
 have HSd:=QQ hsd
 have HMx:=QQ hMx
 have HN:=QQ hn
 have HM0:=QQ hM0
 clear y0 y2 y3 y4 y5 hM hS hx hk hsd hMx hn hM0 hf hmk hb0
 go_enter Tryz.func119,Tryz.ntmps119
 go_upto_region 4 with fail
 clear hlk y1
 obtain⟨hb1,hM1,hR1,hP1⟩:=Ql0 (h1:=h1) (h2:=h2) (sd:=2) (pr:=o.price) (mk:=false) HM.out
 have hrb:=QQ (show¬V6 b r F H w.heap.size from fun h=>by have:=HM.out.fp h;omega)
 have hpb:=QQ (show¬V6 b r F H (w.heap.size+1)from fun h=>by have:=HM.out.fp h;omega)
 obtain⟨pb,hpbe⟩: ∃pb,pb=w.heap.size+1:=⟨_,rfl⟩
 obtain⟨rb,hrbe⟩: ∃rb,rb=w.heap.size:=⟨_,rfl⟩
 have hne:rb≠pb:=by omega
 have HLT:=QQ (show w.heap.size≤rb∧w.heap.size≤pb by omega)
 rw[←hpbe]at hP1 hpb⊢
 rw[←hrbe]at hR1 hrb⊢
 generalize(w.alloc (.cells #[.int .i64 0,.int .i64 0,.int .i64 0,.int .i64 0,.int .i64 0] 117)).alloc (.cells #[.int .i64 h1,.int .i64 h2,.int .i64 2,.int .i64 o.price,.bool false] 172)=w1 at hb1 hM1 hR1 hP1⊢
 obtain⟨w2,hdel,hI2,hT2⟩:=Js2 w1 r f hM1.mp o.id
 obtain⟨hM2,hS2⟩:=hM1.map_ hT2 hI2
 have HS2:=QQ ((KQ.of_below (G:=V6 b r F H) hb1).trans hS2)
 have hP2:QJ w2 pb 172 #[.int .i64 h1,.int .i64 h2,.int .i64 2,.int .i64 o.price,.bool false]:=QJ.of_block hP1 (hT2.block pb (fun e=>hpb.out (.inr (.inl e))))
 have hR2:QJ w2 rb 117 #[.int .i64 0,.int .i64 0,.int .i64 0,.int .i64 0,.int .i64 0]:=QJ.of_block hR1 (hT2.block rb (fun e=>hrb.out (.inr (.inl e))))
 have y1:=hM1.cells.2.1
 have HM2:=QQ hM2
 have HP2:=QQ hP2
 have HR2:=QQ hR2
 obtain⟨p0,p1,p2,p3,p4⟩:=Qc0 hP2
 clear hM1 hR1 hP1 hT2 hI2 hM2 hS2 hP2 hR2 hb1 hpbe hrbe
 go_wp2_with (simp only[hdel])
 clear hdel y1
 go_quiet (fail)
 have hq:Below w2.heap.size w2 (w2.drewN nq):=QY (Below.refl _ _) nq
 have HM3:=QQ (HM2.out.below hq)
 have HP3:=QQ (QJ.drewN HP2.out nq)
 have HR3:=QQ (QJ.drewN HR2.out nq)
 have HS3:=QQ (HS2.out.trans (KQ.of_below hq))
 clear hq p0 p1 p2 p3 p4
 generalize w2.drewN nq=w3 at HM3 HP3 HR3 HS3⊢
 clear HM2 HP2 HR2 HS2
 obtain⟨p0,p1,p2,p3,p4⟩:=Qc0 HP3.out
 obtain⟨y0,y1,y2,y3,y4,y5⟩:=HM3.out.cells
 have hmf: ∀(fn:Fn) (first cap:Array Value) (w:World),(Instr.makeFunc fn first cap).run Tryz.prog w= .ok (.func fn first cap) w:=fun _ _ _ _=>rfl
 have eg:=Go.Proofs.enters_of Tryz.func148 (by kernel_rfl) rfl
 have hx3:=HM3.out.hx 2 ZJ
 obtain⟨qg,hqg,hqc⟩:=hx3.rq.elem KX (by omega) (i:=k) (by simpa using hkl)
 obtain⟨q,hqk⟩: ∃q,(H 2).qs[k]'hkl=q:=⟨_,rfl⟩
 have hmem:q∈(H 2).qs:=by rw[←hqk];exact List.getElem_mem _
 have q0:w3.cell? ⟨qg,k*2,none⟩=some (.int .i64 q.price):=by have:=hqc 0 _ rfl;rw[←hqk];simpa [QG.que]using this
 have q1:w3.cell? ⟨qg,k*2+1,none⟩=some (.slice q.A q.os.length q.c):=by have:=hqc 1 _ rfl;rw[←hqk];simpa [QG.que]using this
 have hqb:QZ (H 2).qA=some qg:=by rw[hqg];rfl
 have hql:=hx3.rq.lt hqb
 have hqm:QZ q.A≠some qg:=fun e=>by have h3:=hx3.gl _ hmem qg e;have h4:=hx3.gq qg hqb;omega
 have hqB:QZ q.A≠some b:=fun e=>by have h3:=hx3.gl _ hmem b e;have h4:=HM3.out.gb;omega
 have hqp:QZ q.A≠some pb:=fun e=>hpb.out (XK.fpH 2 ZJ (.inr (.inr ⟨q,hmem,e⟩)))
 have hqs:=Js3 ZJ HSm.out HN.out
 have hos:q.os.length≤1000:=by rw[←hqk];exact Kx7 ZJ HSm.out HN.out hkl
 have hfind:=Jh3 w3 b 4 2 o.price (H 2).qA (H 2).qs.length (H 2).qc ((H 2).qs.map QG.que) (by exact y5) (ZV.of_row KX (by omega) hx3.rq) (HSm.out.is 2 ZJ).rank hqs
 have HFi:=QQ hfind
 have HqA:=QQ hqg
 have Hqk:=QQ hqk
 have Hkl:=QQ hkl
 have Hxk:=QQ hxk
 have Hpk:=QQ hpk
 have HRow:=QQ (hx3.rl q hmem)
 have HQR:=QQ hx3.rq
 have HQm:=QQ hqm
 have HQB:=QQ hqB
 have HQp:=QQ hqp
 have HQb2:=QQ (show b≠qg from fun e=>by have h3:=HM3.out.gb;have h4:=hx3.gq qg hqb;rw[e]at h3;omega)
 clear hfind hx3 hqc hmem hqm hqB hqp hqb hqk hxk hpk
 go_wp2_with fail
 refine HFi.out.mono ?_
 rintro e w4 ⟨hb4,k4,hk4,rfl⟩
 obtain rfl:k4=k:=Xs7 (HSm.out.is 2 ZJ) Hkl.out Hpk.out hk4
 obtain⟨fb,HFb⟩: ∃fb,Hid (Qm1 2 o.price ((H 2).qs.map QG.que) (H 2).qs.length k4=fb):=⟨_,QQ rfl⟩
 rw[HFb.out]
 have HM4:=QQ (HM3.out.below hb4)
 have HP4:=QQ (QJ.keep HP3.out hb4)
 have HR4:=QQ (QJ.keep HR3.out hb4)
 have HS4:=QQ (HS3.out.trans (KQ.of_below hb4))
 obtain⟨hc4,hf4⟩:=Zh5 hb4
 have q0':w4.cell? ⟨qg,k4*2,none⟩=some (.int .i64 q.price):=(hc4 _ _ hql).trans q0
 have q1':w4.cell? ⟨qg,k4*2+1,none⟩=some (.slice q.A q.os.length q.c):=(hc4 _ _ hql).trans q1
 have hrow4:=HRow.out.below hb4
 have hqr4:=HQR.out.below hb4
 have hql4:qg<w4.heap.size:=by have:=hb4.size;omega
 clear hk4 q0 q1 p0 p1 p2 p3 p4 y0 y1 y2 y3 y4 y5 hql hc4 hf4 hb4 HFi HM3 HP3 HR3 HS3 HRow HQR
 obtain⟨l,hll⟩: ∃l,(H 2).qs.length=l:=⟨_,rfl⟩
 obtain⟨m,hm⟩: ∃m,q.os.length=m:=⟨_,rfl⟩
 rw[hm]at q1' hrow4
 have y5:w4.cell? ⟨b,5,none⟩=some (.slice (some ⟨qg,0,none⟩) l (H 2).qc):=by rw[QJ.cell HM4.out.blk];rw[←HqA.out,←hll];rfl
 obtain⟨p0,p1,p2,p3,p4⟩:=Qc0 HP4.out
 have hkz:(k4:Int)< (l:Int):=by omega
 have hk0:(0:Int)≤(k4:Int):=by omega
 have hdrop: ∀W,Below w4.heap.size w4 W→Calls Tryz.prog 148 #[.slice q.A m q.c,.pointer (some ⟨pb,0,none⟩)] W _:=fun W hW=>Jh6 W q.A m q.c (J7 q.os) pb (h1,h2) (hrow4.below hW) (by omega) HQp.out ((QJ.cell (QJ.keep HP4.out hW) 0).trans rfl) ((QJ.cell (QJ.keep HP4.out hW) 1).trans rfl)
 have HD:=QQ (hdrop w4.drew (Below.drew (Below.refl _ _)))
 have HQR4:=QQ hqr4
 have HL:=QQ hll
 have Hm:=QQ hm
 have hbl:=QJ.lt HM4.out.blk
 clear hdrop hrow4 hqr4 hll hm hos hqs
 go_upto_region 10 with fail
 go_cut [72] (fun s72 wx=>Xk5 w4 wx qg k4 q.A q.c q.os (h1,h2))
 case first=>
  go_region_with (go_at_call 148;refine HD.out.mono ?_;rintro e w5 ⟨hk5,rfl,hr5⟩;have z1:w5.cell? ⟨b,5,none⟩=some (.slice (some ⟨qg,0,none⟩) l (H 2).qc):=(hk5.cell (p:=⟨b,5,none⟩) hbl HQB.out).trans y5;have z2:w5.cell? ⟨qg,k4*2+1,none⟩=some (.slice q.A m q.c):=(hk5.cell (p:=⟨qg,k4*2+1,none⟩) hql4 HQm.out).trans q1';have z3:=(hk5.frozen (p:=⟨qg,k4*2+1,none⟩) hql4 HQm.out).trans (QW.frozen (by rw[←HqA.out];exact HQR4.out) (k4*2+1):w4.frozen? ⟨qg,k4*2+1,none⟩=false);have HK5:=QQ hk5;have HR5:=QQ hr5;clear hk5 hr5)
  all_goals go_wp2_with fail
  all_goals go_meet
  all_goals exact Xf1 HK5.out HR5.out
 case rest=>
  have hX:=Jw6 HM4.out HS4.out ZJ Hkl.out Hqk.out HqA.out hcut HP4.out HR4.out hpb.out hrb.out;have HX11:=QQ hX;obtain⟨reg6,hM6,_,_,_⟩:=hX;have hr6:=Kh8 ZJ HqA.out hM6;have HR6:=QQ hr6;clear p0 p1 p2 p3 p4 q0' q1' y5 HD hcut;have hbl6:=QJ.lt hM6.blk;have y5:wc.cell? ⟨b,5,none⟩=some (.slice (some ⟨qg,0,none⟩) l (H 2).qc):=by
   rw[QJ.cell hM6.blk];have e:Qu1 H 2 k4 q (h1,h2) 2=⟨(H 2).mA,(H 2).mc,(H 2).qA,(H 2).qc,(H 2).ms,(H 2).qs.set k4 ⟨q.price,q.A,q.c,q.os.filter (J9 (h1,h2))⟩⟩:=by unfold Qu1;rw[VV]
   show some (Value.slice (Qu1 H 2 k4 q (h1,h2) 2).qA (Qu1 H 2 k4 q (h1,h2) 2).qs.length (Qu1 H 2 k4 q (h1,h2) 2).qc)=_;rw[e];dsimp only;rw[HqA.out,List.length_set,HL.out]
  have hf6:=QJ.frozen hM6.blk 5;obtain⟨nl,hnl⟩: ∃nl,(q.os.filter (J9 (h1,h2))).length=nl:=⟨_,rfl⟩;have q1:wc.cell? ⟨qg,k4*2+1,none⟩=some (.slice q.A nl q.c):=by
   obtain⟨g,hg,hc⟩:=hr6.elem KX (by omega) (i:=k4) (by have:=Hkl.out;simpa using this)
   cases hg;have:=hc 1 _ rfl;rw[←hnl];simpa [QG.que]using this
  have Hnl:=QQ hnl;have hl6:l≤100000:=by have h3:=Js3 ZJ HSm.out HN.out;have h4:=HL.out;omega
  have hkl4:k4<l:=by omega
  clear hr6 hM6 hnl;go_upto_if 84 with fail
  go_cut [85] (fun s85 wx=>Jl4 w wx b a r F M n (V1 f o.id none) H 2 o.id h1 h2 pb rb #[.int .i64 h1,.int .i64 h2,.int .i64 2,.int .i64 o.price,.bool false])
  case first=>as_aux_lemma=>
   by_cases hz:nl=0
   ·have Hz:=QQ hz
    have t1:((nl:Int) ==0)=true:=Z2 (by omega);have hdel:=Jo4 wc qg l (H 2).qc k4 (k4+1) ((k4:Int)+1) (by omega) _ (by rw[←HL.out];exact HR6.out) hl6 (by omega) (by omega);have HDl:=QQ hdel;have hw1:IntKind.i64.wrap ((k4:Int)+1)=(k4:Int)+1:=by rw[IntKind.wrap_i64];omega
    clear hdel hz;go_wp2_with fail
    refine HDl.out.mono ?_;rintro e w7 ⟨rfl,hr7,hk7⟩;have y7:w7.cell? ⟨b,5,none⟩=some (.slice (some ⟨qg,0,none⟩) l (H 2).qc):=(hk7.cell (p:=⟨b,5,none⟩) hbl6 HQb2.out).trans y5;have f7:=(hk7.frozen (p:=⟨b,5,none⟩) hbl6 HQb2.out).trans hf6;have HR7:=QQ hr7;have HK7:=QQ hk7;clear hr7 hk7;go_wp2_with fail
    go_meet;have h9:=Jp6 HSm.out ZJ Hkl.out Hqk.out HqA.out (by rw[←Hqk.out];exact Hxk.out) HX.out (Hnl.out.trans Hz.out) rfl HX11.out hpb.out hrb.out (by rw[HL.out];exact HR7.out) HK7.out;rw[HL.out]at h9;exact h9
   ·have Hz:=QQ hz
    have t1:((nl:Int) ==0)=false:=YW (by omega);clear hz;go_wp2_with fail
    go_meet;exact Jp5 HSm.out ZJ Hkl.out Hqk.out (by rw[←Hqk.out];exact Hxk.out) HX.out (fun e=>Hz.out (Hnl.out.symm.trans e)) rfl HX11.out hrb.out
  case rest=>
   have H13:=QQ hcut;clear q1 y5 hf6 hcut;obtain⟨H5,reg5,hM5,hB5,hS5,hL5,hO5,hP5,hR5,hn5⟩:=H13.out;have q0:=hM5.cells.1;obtain⟨p0,p1,p2,p3,p4⟩:=Qc0 hP5;clear hM5 hB5 hS5 hL5 hO5 hP5 hR5 hn5;go_upto_region 13 with fail
   obtain⟨H5,reg5,hM5,hB5,hS5,hL5,hO5,hP5,hR5,hn5⟩:=H13.out;have hget:=Ji8 (M:=M) hM5 (Below.drew (Below.refl wc.heap.size wc)) HMx.out;have HG:=QQ hget;have HB5:=QQ (hB5.trans (KQ.of_below (Below.drew (Below.refl wc.heap.size wc))));have HR5:=QQ hR5;have HN5:=QQ hn5;have HS5:=QQ hS5;have HL5:=QQ hL5;have HO5:=QQ hO5;clear hget p2 p3 p4 hM5 hB5 hS5 hL5 hO5 hP5 hR5 hn5 H13
   go_cut [5,104] (fun s5 s104 wx=>s5= .nilIface∧Xk7 w wx b a r rb F M n (V1 f o.id none) H 2 o.id h1 h2 (KV o))
   case first=>as_aux_lemma=>
    go_region_with (go_at_call 153;refine HG.out.mono ?_;rintro e w6 ⟨rfl,F6,reg6,hM6,hB6⟩;have hr6:QJ w6 rb 117 #[.int .i64 0,.int .i64 0,.int .i64 0,.int .i64 0,.int .i64 0]:=QJ.keeps (QJ.drew HR5.out) hB6.1 HN5.out;have z0:=(Qc0 hr6).1;have z1:=(Qc0 hr6).2.1;have z2:=(Qc0 hr6).2.2.1;have z3:=(Qc0 hr6).2.2.2.1;have z4:=(Qc0 hr6).2.2.2.2;have f0:=QJ.frozen hr6 0;have f1:=QJ.frozen hr6 1;have f2:=QJ.frozen hr6 2;have f3:=QJ.frozen hr6 3;have f4:=QJ.frozen hr6 4;have HM6:=QQ hM6;have HB6:=QQ hB6;have HR6:=QQ hr6;clear hM6 hr6 hB6)
    all_goals go_wp2_with fail
    all_goals go_meet
    all_goals
     have hnb6: ¬V6 b r F6 H5 rb:=fun h=>(HB6.out.2 rb h).elim HN5.out (fun h3=>by have h4:=QJ.lt (QJ.drew HR5.out);omega)
     exact⟨rfl,Jb2 HM6.out (HB5.out.trans HB6.out) hnb6 HLT.out.1 HS5.out HL5.out HO5.out,QJ.set_ (QJ.set_ (QJ.set_ (QJ.set_ (QJ.set_ HR6.out 0 _) 1 _) 2 _) 3 _) 4 _⟩
   case rest=>
    obtain⟨rfl,hdone,hbox⟩:=hcut;have HDn:=QQ hdone;have HBx:=QQ hbox;clear hdone hbox;go_wp2_with fail
    refine Qm3 (g:=rb) (cs:=KV o) (v:=VZ 0) (by with_unfolding_all rfl) (by with_unfolding_all rfl) (by with_unfolding_all rfl) HBx.out rfl ?_;exact⟨rfl,HDn.out⟩
theorem Xu0 (w:World) (b n c i j:Nat) (jz:Int) (hjz:jz=j) (qs:List QX) (h:QW w (some ⟨b,0,none⟩) n c 117 5 (JQ I6 qs)) (hn:n≤100000) (hij:i<j) (hj:j≤n):
  Calls Tryz.prog 80 #[.slice (some ⟨b,0,none⟩) n c,.int .i64 i,.int .i64 jz] w fun e w'=>
   e= .returned (.slice (some ⟨b,0,none⟩) (i+ (n-j)) c)∧QW w' (some ⟨b,0,none⟩) (i+ (n-j)) c 117 5 (JQ I6 (qs.take i++qs.drop j))∧QK (fun x=>x=b) w w':=by
 subst hjz
 obtain⟨hnc,hcm⟩:=h.cap
 obtain⟨i0,hi0,hz0,hz1,hz2⟩:=info_parts Qu0
 have hl:qs.length=n:=by have:=h.1;rw[YY O6]at this;omega
 have hfl:(JQ I6 qs).length=n*5:=h.1
 obtain⟨news,hnews⟩: ∃news,news=(JQ I6 qs).drop (j*5):=⟨_,rfl⟩
 have hlen:news.length=(n-j)*5:=by rw[hnews,List.length_drop,hfl];omega
 have hR:QW w.drew (some ⟨b,0,none⟩) n c 117 5 (JQ I6 qs):=h.below (Below.drew (Below.refl _ w))
 obtain⟨A,hA,hsrc⟩: ∃A:Addr,(if c=j then some (⟨b,0,none⟩:Addr)else some ⟨b,j*5,none⟩)=some A∧Hid (∀t u,news[t]?=some u→w.drew.cell? (A.add t)=some u):=by
  by_cases hcj:c=j
  ·refine⟨⟨b,0,none⟩,by simp[hcj],fun t u hu=> ?_⟩
   have h0:news.length=0:=by rw[hlen];omega
   rw[List.length_eq_zero_iff.1 h0]at hu;simp at hu
  ·refine⟨⟨b,j*5,none⟩,by simp[hcj],fun t u hu=> ?_⟩
   rw[U3];rw[hnews,List.getElem?_drop]at hu;obtain⟨g,hg,hc⟩:=hR.cell hu
   cases hg;exact hc
 have s1:Hid (news.length=(n-j)*5):=hlen
 have s2:Hid (∀u∈news,u.oneCell'=true):=by
  intro u hu;rw[hnews]at hu;exact Qh9 Js5 qs u (List.mem_of_mem_drop hu)
 have s3:Hid (∀t,t<news.length→(w.drew.cell? ⟨b,0+i*5+t,none⟩).isSome=true∧w.drew.frozen? ⟨b,0+i*5+t,none⟩=false):=by
  intro t ht;rw[hlen]at ht;exact⟨hR.some_ (by omega),hR.frozen _⟩
 obtain⟨W1,hW1⟩: ∃W1,W1=w.drew.setCells b (0+i*5) news:=⟨_,rfl⟩
 have hR1:QW W1 (some ⟨b,0,none⟩) n c 117 5 (X7 (JQ I6 qs) (i*5) news):=by rw[hW1,Nat.zero_add];exact hR.sets _ _ _ _
 obtain⟨vs,hvl,hcl⟩:=Qc8 (P:=Tryz.prog) W1 78 117 0 (.agg #[.int .i64 0,.int .i64 0,.int .i64 0,.int .i64 0,.int .i64 0]) 5 Tryz.underlying78 (fun _=>by kernel_rfl) rfl (by omega) (by intro v hv;simp[Value.cells]at hv;rcases hv with rfl|rfl|rfl|rfl|rfl<;>rfl) b ((i+ (n-j))*5) (n- (i+ (n-j))) (c- (i+ (n-j))) (by omega)
  (fun x hx=>hR1.some_ (by omega)) (fun x hx=>hR1.frozen _)
 have hp:=hR1.pop (i+ (n-j)) (by omega)
 rw[Qj8 _ _ _ (by rw[hlen,hfl];omega),hnews]at hp
 have hsc:=Qt0 (JQ I6 qs) (i*5) (j*5) (by omega) (by omega)
 rw[hfl,show i*5+ (n*5-j*5)=(i+ (n-j))*5 by omega]at hsc
 rw[hsc,Je5 O6 _ _ _ (by omega)]at hp
 have hK:QK (fun x=>x=b) w W1:=by
  rw[hW1];exact(QK.of_below (Below.drew (Below.refl _ w)) _).trans (QK.setCells _ _ _ _) (fun i h=> .inl h)
 have HP:=QQ hp
 have HK:=QQ hK
 have hW:Hid (W1=w.drew.setCells b (0+i*5) news):=hW1
 have hic:i≤c:=by omega
 have hjc:j≤c:=by omega
 clear hp hK hW1 hsc hR1 hR hlen hnews hfl hl h
 go_enter Tryz.func80,Tryz.ntmps80
 go_wp2_with fail
 go_region_law (refine step_append_room rfl (.tmp 22) (.tmp 25) 78 rfl 117 i0 5 Tryz.underlying78 hi0 hz1 b 0 i c (by simp[Act.eval,Act.put]) A (n-j) (c-j) news (by simp[Act.eval,Act.put]) s1.out hsrc.out s2.out (by omega) s3.out ?_;rw[←hW.out])
 go_wp2
 go_ret
 exact⟨rfl,QW.sets_past _ _ _ HP.out (Nat.le_refl _),HK.out.trans (QK.setCells _ _ _ _) (fun i h=> .inl h)⟩
def Zl9 (w:World) (S:Nat→Prop) (g:FuncId) (lb:Array Value) (F:QX→Bool):Prop:=
 ∀W p,QK S w W→Calls Tryz.prog g (#[KJ p]++lb) W fun e w'=>e= .returned (.bool (F p))∧Below W.heap.size W w'
theorem Kc2 (g:FuncId) (lb:Array Value) (F:QX→Bool) (eg: ∀args w,(callFunc g args).run Tryz.prog w= .ok (.enter g args) w) (A:Option Addr) (n c:Nat) (ps:List QX) (w:World) (S:Nat→Prop)
  (hp:Zl9 w S g lb F) (h:ZV w I6 5 A n ps) (hm:n≤1000000):
  Calls Tryz.prog 78 #[.slice A n c,.func (.func g) #[] lb] w fun e w'=>Below w.heap.size w w'∧
   (((∀i (hi:i<ps.length),F ps[i]=false)∧e= .returned (.int .i64 (-1)))∨ ∃(k:Nat) (hk:k<ps.length),F ps[k]=true∧(∀i (hi:i<ps.length),i<k→F ps[i]=false)∧e= .returned (.int .i64 k)):=by
 have hl:=h.1
 have HP:=QQ hp
 have HL:=QQ hl
 have HH:=QQ h
 clear hp hl h
 go_enter Tryz.func78,Tryz.ntmps78
 go_wp2
 go_loopg [5,8] n (fun gg _ s8 wr=> ∃kk:Nat,kk≤n∧gg=n-kk∧s8= .int .i64 kk∧Below w.heap.size w wr∧Hid (∀i (hi:i<ps.length),i<kk→F ps[i]=false))
 case atStart=>exact⟨0,Nat.zero_le _,rfl,rfl,Below.refl _ w,QQ fun i _ hi=>absurd hi (Nat.not_lt_zero _)⟩
 case round=>
  obtain⟨kk,hkk,rfl,rfl,hB,HA⟩:=hrel
  by_cases hlt:kk<n
  ·obtain⟨b,off,rfl,_,_⟩:=HH.out.2 (by omega)
   have hkl:kk<ps.length:=by have:=HL.out;omega
   obtain⟨x0,x1,x2,x3,x4⟩:=Zi3 (HH.out.below hB (Nat.le_refl _)) hkl;have hcall:=HP.out wr ps[kk] (QK.of_below hB _);have hltz:(kk:Int)< (n:Int):=by omega
   obtain⟨p,E⟩: ∃p,Hid (ps[kk]=p):=⟨_,QQ rfl⟩;rw[E.out]at x0 x1 x2 x3 x4 hcall;obtain⟨p0,p1,p2,p3,p4⟩:=p;unfold KJ at hcall;dsimp only at x0 x1 x2 x3 x4 hcall
   cases hq:F ⟨p0,p1,p2,p3,p4⟩with
   |true=>
    rw[hq]at hcall;have HQ:=QQ hq;clear hq;go_wp2_with (go_at_fn g;refine hcall.mono ?_;rintro e w' ⟨rfl,hb'⟩)
    go_ret;exact⟨hB.trans (hb'.mono hB.size),.inr ⟨kk,hkl,by rw[E.out];exact HQ.out,HA.out,rfl⟩⟩
   |false=>
    rw[hq]at hcall;have HQ:=QQ hq;clear hq;go_wp2_with (go_at_fn g;refine hcall.mono ?_;rintro e w' ⟨rfl,hb'⟩)
    go_roundg (n- (kk+1))
    case measure=>omega
    case rel=>
     refine⟨kk+1,by omega,rfl,by go_num,hB.trans (hb'.mono hB.size),QQ fun i hi hik=> ?_⟩
     by_cases e:i=kk
     ·subst e
      rw[E.out];exact HQ.out
     ·exact HA.out i hi (by omega)
  ·have hltz: ¬(kk:Int)< (n:Int):=by omega
   obtain rfl:kk=n:=by omega
   go_wp2;go_ret;exact⟨hB,.inl ⟨fun i hi=>HA.out i hi (by have:=HL.out;omega),rfl⟩⟩
theorem Kc3 {w w':World} {p:Addr} {v:Value} (h:w.cell? p=some v) (hb:Below w.heap.size w w'):w'.cell? p=some v:=(hb.cell (World.block_lt_of_cell? _ _ h)).trans h
theorem Xu1 (w:World) (B:Nat) (id:Int) (hB:QJ w B 3 #[.int .i64 id]) (o:QX):
  Calls Tryz.prog 79 #[KJ o,.pointer (some ⟨B,0,none⟩)] w fun e w'=>e= .returned (.bool (o.id ==id))∧Below w.heap.size w w':=by
 have hb1:Below w.heap.size w (w.alloc (.cells #[.int .i64 o.id,.int .i64 o.side,.int .i64 o.kind,.int .i64 o.price,.int .i64 o.qty] 117)):=(Below.refl _ w).alloc (Nat.le_refl _) _
 have HB1:=QQ hb1
 have x1:w.cell? ⟨B,0,none⟩=some (.int .i64 id):=by rw[QJ.cell hB];rfl
 have x2:=Kc3 x1 hb1
 have hl:=QJ.lt hB
 clear hB hb1
 unfold KJ
 go_enter Tryz.func79,Tryz.ntmps79
 go_wp2
 go_ret
 exact⟨rfl,HB1.out⟩
section
variable {w w':World} {b a r:Nat} {F:Nat→Prop} {M:Int→Int→Option QX} {n:Nat} {f:Int→Option Value} {H:Int→HS} {s:Int}
theorem Kc4 (S:ZX M n f H) {x:HO} {s':Int} (hs:UQ s) (hs':UQ s') (hx:x∈(H s).all) (hne:s'≠s):O0 (H s').L x.2.id=(H s').L:=by
 rw[←S.filter_id (OX hs hx) hs',S.filter_other hs hs' hx hne]
 rfl
theorem Zf3 {G:Nat→Prop} (S:ZX M n f H) {x:HO} (hs:UQ s) (hx:x∈(H s).all) (hG: ∀i,G i↔V6 b r F H i) (h:Qi6 w w' b a r F n H s x.2.id):Qj9 w w' b G (O0 (H 1).L x.2.id) (O0 (H 2).L x.2.id):=by
 obtain⟨F',M',f',H',reg',hM,hS,hB,hL,hO⟩:=h
 have key: ∀s',UQ s'→O0 (H s').L x.2.id=(H' s').L:=by
  intro s' hs'
  by_cases e:s'=s
  ·subst e;exact hL.symm
  ·rw[hO s' e];exact Kc4 S hs hs' hx e
 refine⟨V6 b r F' H',⟨a,F',M',n-1,r,f',H',reg',hM,hS,fun i=>Iff.rfl,key 1 (.inl rfl),key 2 (.inr rfl)⟩,hB.1.mono (fun i hi=>(hG i).2 hi),fun i hi=>(hB.2 i hi).imp (fun h=>(hG i).2 h) id⟩
theorem Jb3 (S:ZX M n f H) {x:HO} (hx:x∈X0 H):Qa8 ((H 1).L++(H 2).L) x.2.id=some x.2:=by
 have e:(H 1).L++(H 2).L=IX (X0 H):=(Z7 _ _).symm
 rw[e]
 unfold Qa8
 cases hf:(IX (X0 H)).find? (fun o=>o.id ==x.2.id)with
 |none=>
  rw[List.find?_eq_none]at hf;have:=hf x.2 (List.mem_map.2 ⟨x,hx,rfl⟩);simp at this
 |some o=>
  have h1:=List.mem_of_find?_eq_some hf;obtain⟨y,hy,rfl⟩:=List.mem_map.1 h1;have h2:=List.find?_some hf;have h3:y.2.id=x.2.id:=by simpa using h2
  rw[S.same_id hy hx h3]
theorem Jb4 (S:ZX M n f H) {id:Int} (h:f id=none):Qa8 ((H 1).L++(H 2).L) id=none:=by
 have e:(H 1).L++(H 2).L=IX (X0 H):=(Z7 _ _).symm
 rw[e]
 unfold Qa8
 rw[List.find?_eq_none]
 intro o ho
 obtain⟨y,hy,rfl⟩:=List.mem_map.1 ho
 have:=S.none_.1 h y hy
 simpa using this
end
def Jw8 (w:World) (b:Nat) (G:Nat→Prop) (L1 L2:List QX) (id:Int) (e:Ending) (w':World):Prop:=
 (Qa8 (L1++L2) id=none∧e= .returned (.tuple #[.agg #[.int .i64 0,.int .i64 0,.int .i64 0,.int .i64 0,.int .i64 0],VZ 7])∧Below w.heap.size w w')∨
 (∃o,Qa8 (L1++L2) id=some o∧e= .returned (.tuple #[KJ o,VZ 0])∧Qj9 w w' b G (O0 L1 id) (O0 L2 id))
theorem Qg1 (w:World) (b:Nat) (G:Nat→Prop) (L1 L2:List QX) (h:Q1 w b G L1 L2) (id:Int):
  Calls Tryz.prog 119 #[.pointer (some ⟨b,0,none⟩),.int .i64 id] w (Jw8 w b G L1 L2 id):=by
 obtain⟨a,F,M,n,r,f,H,reg,hM,hS,hG,rfl,rfl⟩:=h
 have hn:=hM.ar.le
 cases hf:f id with
 |none=>
  refine(Jw7 w b a F M n r f H reg hM id hf).mono ?_;rintro e w' ⟨rfl,hb⟩;exact .inl ⟨Jb4 hS hf,rfl,hb⟩
 |some v=>
  obtain⟨x,hx,rfl⟩:=hS.hk id v hf;obtain⟨hs,hxs⟩:=hS.side_mem hx;have fin: ∀s,UQ s→x∈(H s).all→ ∀e w',(e= .returned (.tuple #[KJ x.2,VZ 0])∧Qi6 w w' b a r F n H s x.2.id)→Jw8 w b G (H 1).L (H 2).L x.2.id e w':=by
   rintro s hs hxs e w' ⟨rfl,hl⟩;exact .inr ⟨x.2,Jb3 hS hx,rfl,Zf3 hS hs hxs hG hl⟩
  generalize x.2.side=s at hs hxs;rcases hs with rfl|rfl
  ·rcases hS.where_ ZQ hxs with⟨hk,_⟩|⟨hk,k,hkl,hxk,hpk⟩
   ·exact(Kn7 w b a F M n r f H reg hM hS x hxs hk hn).mono (fin 1 ZQ hxs)
   ·exact(Kn8 w b a F M n r f H reg hM hS x hxs hk hn k hkl hxk hpk).mono (fin 1 ZQ hxs)
  ·rcases hS.where_ ZJ hxs with⟨hk,_⟩|⟨hk,k,hkl,hxk,hpk⟩
   ·exact(Kn9 w b a F M n r f H reg hM hS x hxs hk hn).mono (fin 2 ZJ hxs)
   ·exact(Ko0 w b a F M n r f H reg hM hS x hxs hk hn k hkl hxk hpk).mono (fin 2 ZJ hxs)
def Qm5 (L1 L2:List QX) (o:QX):Int:=
 if Jc0 o=false then 1 else if Qr3 o=false then 2 else if(Qa8 (L1++L2) o.id).isSome=true then 9 else if L1.length+L2.length=100 then 12 else 0
def Qd4 (s:Int) (L:List QX) (o:QX):List QX:=if o.side=s then Qt1 s L (JJ o)else L
def Js4 (w:World) (b:Nat) (G:Nat→Prop) (L1 L2:List QX) (o:QX) (e:Ending) (w':World):Prop:=
 (Qm5 L1 L2 o≠0∧e= .returned (VZ (Qm5 L1 L2 o))∧Below w.heap.size w w')∨
 (Qm5 L1 L2 o=0∧e= .returned (VZ 0)∧Qj9 w w' b G (Qd4 1 L1 o) (Qd4 2 L2 o))
theorem Zj9 {w w':World} {b a r:Nat} {F G:Nat→Prop} {n:Nat} {H:Int→HS} {o:QX} (hs:UQ o.side) (hG: ∀i,G i↔V6 b r F H i) (h:Qo4 w w' b a r F n H (JJ o)):Qj9 w w' b G (Qd4 1 (H 1).L o) (Qd4 2 (H 2).L o):=by
 obtain⟨F',M',f',H',reg',hM,hS,hB,hL,hO⟩:=h
 have es:(JJ o).side=o.side:=rfl
 rw[es]at hL hO
 have key: ∀s',UQ s'→Qd4 s' (H s').L o=(H' s').L:=by
  intro s' hs';unfold Qd4
  by_cases e:o.side=s'
  ·rw[if_pos e];rw[e]at hL;exact hL.symm
  ·rw[if_neg e,hO s' (fun e'=>e e'.symm)]
 refine⟨V6 b r F' H',⟨a,F',M',n+1,r,f',H',reg',hM,hS,fun i=>Iff.rfl,key 1 (.inl rfl),key 2 (.inr rfl)⟩,hB.1.mono (fun i hi=>(hG i).2 hi),fun i hi=>(hB.2 i hi).imp (fun h=>(hG i).2 h) id⟩
def Zk0 (L1 L2:List QX) (o:QX):List QX×List QX:=if Qm5 L1 L2 o=0 then(Qd4 1 L1 o,Qd4 2 L2 o)else(L1,L2)
theorem Qj9.of_below {w w':World} {b:Nat} {G:Nat→Prop} {L1 L2:List QX} (h:Q1 w b G L1 L2) (hb:Below w.heap.size w w'):Qj9 w w' b G L1 L2:=⟨G,h.below hb,KQ.of_below hb⟩
theorem Js4.to {w w':World} {b:Nat} {G:Nat→Prop} {L1 L2:List QX} {o:QX} {e:Ending} (h:Q1 w b G L1 L2) (hp:Js4 w b G L1 L2 o e w'):e= .returned (VZ (Qm5 L1 L2 o))∧Qj9 w w' b G (Zk0 L1 L2 o).1 (Zk0 L1 L2 o).2:=by
 unfold Zk0
 rcases hp with⟨h0,h1,h2⟩|⟨h0,h1,h2⟩
 ·rw[if_neg h0];exact⟨h1,Qj9.of_below h h2⟩
 ·rw[if_pos h0,h0];exact⟨h1,h2⟩
end Go.Proofs.YtbmiieehkkfbgaaGreatDoor
