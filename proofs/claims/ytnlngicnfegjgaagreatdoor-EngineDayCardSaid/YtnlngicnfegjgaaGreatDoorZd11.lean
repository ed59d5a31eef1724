/- Contracts and walks that the law's proof needs. -/
import Derived.Test.YtnlngicnfegjgaaGreatDoorZd10
import Derived.Test.YtnlngicnfegjgaaGreatDoorZd9
import Derived.Test.YtnlngicnfegjgaaGreatDoorZd1
set_option linter.unusedVariables false
set_option maxRecDepth 100000
set_option maxHeartbeats 8000000
namespace Go.Proofs.YtnlngicnfegjgaaGreatDoor
open Go.RowKit
theorem Kh5 (w:World) (b a:Nat) (F:Nat→Prop) (M:Int→Int→Option QX) (n r:Nat) (f:Int→Option Value) (H:Int→HS) (reg:Nat→Int) (hM:XX w b a F M n r f H reg) (hS:KY M n f H) (x:HO) (hx:x∈(H 2).all) (hk:x.2.kind=2) (hn:n≤100):
  Calls Tryz.prog 89 #[.pointer (some ⟨b,0,none⟩),.int .i64 x.2.id] w fun e w'=>e= .returned (.tuple #[KQ x.2,YV 0])∧Qi9 w w' b a r F n H 2 x.2.id:=by
 have hf:=hS.hf x (OV KK hx)
 have hsd:=hS.side_of KK hx
 have hMx:=hS.hM x (OV KK hx)
 obtain⟨⟨h1,h2⟩,o⟩:=x
 dsimp only at hf hsd hMx hk⊢
 have hmk:(o.kind ==2)=true:=by simpa using hk
 have hb0:Below w.heap.size w (w.alloc (.cells #[.int .i64 0,.int .i64 0,.int .i64 0,.int .i64 0,.int .i64 0] 29)):=(Below.refl _ w).alloc (Nat.le_refl _) _
 have hM0:=hM.below hb0
 have hlk:=K0 hM0.mp hf
 dsimp only at hlk
 rw[hsd,hmk]at hlk
 obtain⟨y0,y1,y2,y3,y4,y5⟩:=hM0.cells
 have HM:=QQ hM
 have HSm:=QQ hS
 have HX:=QQ hx
 have HKd:=QQ hk
 have HSd:=QQ hsd
 have HMx:=QQ hMx
 have HN:=QQ hn
 have HM0:=QQ hM0
 clear y0 y2 y3 y4 y5 hM hS hx hk hsd hMx hn hM0 hf hmk hb0
 go_enter Tryz.func89,Tryz.ntmps89
 go_upto_region 4 with fail
 clear hlk y1
 obtain⟨hb1,hM1,hR1,hP1⟩:=Qk8 (h1:=h1) (h2:=h2) (sd:=2) (pr:=o.price) (mk:=true) HM.out
 have hrb:=QQ (show¬U1 b r F H w.heap.size from fun h=>by have:=HM.out.fp h;omega)
 have hpb:=QQ (show¬U1 b r F H (w.heap.size+1)from fun h=>by have:=HM.out.fp h;omega)
 obtain⟨pb,hpbe⟩: ∃pb,pb=w.heap.size+1:=⟨_,rfl⟩
 obtain⟨rb,hrbe⟩: ∃rb,rb=w.heap.size:=⟨_,rfl⟩
 have hne:rb≠pb:=by omega
 have HLT:=QQ (show w.heap.size≤rb∧w.heap.size≤pb by omega)
 rw[←hpbe]at hP1 hpb⊢
 rw[←hrbe]at hR1 hrb⊢
 generalize(w.alloc (.cells #[.int .i64 0,.int .i64 0,.int .i64 0,.int .i64 0,.int .i64 0] 29)).alloc (.cells #[.int .i64 h1,.int .i64 h2,.int .i64 2,.int .i64 o.price,.bool true] 188)=w1 at hb1 hM1 hR1 hP1⊢
 obtain⟨w2,hdel,hI2,hT2⟩:=Jp4 w1 r f hM1.mp o.id
 obtain⟨hM2,hS2⟩:=hM1.map_ hT2 hI2
 have HS2:=QQ ((XW.of_below (G:=U1 b r F H) hb1).trans hS2)
 have hP2:QJ w2 pb 188 #[.int .i64 h1,.int .i64 h2,.int .i64 2,.int .i64 o.price,.bool true]:=QJ.of_block hP1 (hT2.block pb (fun e=>hpb.out (.inr (.inl e))))
 have hR2:QJ w2 rb 29 #[.int .i64 0,.int .i64 0,.int .i64 0,.int .i64 0,.int .i64 0]:=QJ.of_block hR1 (hT2.block rb (fun e=>hrb.out (.inr (.inl e))))
 have y1:=hM1.cells.2.1
 have HM2:=QQ hM2
 have HP2:=QQ hP2
 have HR2:=QQ hR2
 obtain⟨p0,p1,p2,p3,p4⟩:=Qc4 hP2
 clear hM1 hR1 hP1 hT2 hI2 hM2 hS2 hP2 hR2 hb1 hpbe hrbe
 go_wp2_with (simp only[hdel])
 clear hdel y1
 go_quiet (fail)
 have hq:Below w2.heap.size w2 (w2.drewN nq):=JQ (Below.refl _ _) nq
 have HM3:=QQ (HM2.out.below hq)
 have HP3:=QQ (QJ.drewN HP2.out nq)
 have HR3:=QQ (QJ.drewN HR2.out nq)
 have HS3:=QQ (HS2.out.trans (XW.of_below hq))
 clear hq p0 p1 p2 p3 p4
 generalize w2.drewN nq=w3 at HM3 HP3 HR3 HS3⊢
 clear HM2 HP2 HR2 HS2
 obtain⟨p0,p1,p2,p3,p4⟩:=Qc4 HP3.out
 obtain⟨y0,y1,y2,y3,y4,y5⟩:=HM3.out.cells
 have hmf: ∀(fn:Fn) (first cap:Array Value) (w:World),(Instr.makeFunc fn first cap).run Tryz.prog w= .ok (.func fn first cap) w:=fun _ _ _ _=>rfl
 have eg:=Go.Proofs.enters_of Tryz.func122 (by kernel_rfl) rfl
 obtain⟨m,hm⟩: ∃m,(H 2).ms.length=m:=⟨_,rfl⟩
 rw[hm]at y4
 have hmb:QZ (H 2).mA≠some b:=fun e=>by have h3:=(HM3.out.hx 2 KK).gm b e;have h4:=HM3.out.gb;omega
 have hdrop:=Jf7 w3 (H 2).mA m (H 2).mc (J9 (H 2).ms) pb (h1,h2) (by rw[←hm];exact(HM3.out.hx 2 KK).rm) (by have:=Kc0 KK HSm.out HN.out;omega) (fun e=>hpb.out (XX.fpH 2 KK (.inl e))) p0 p1
 have HD:=QQ hdrop
 have HMb:=QQ hmb
 have Hm:=QQ hm
 clear y0 y1 y2 y3 y4 y5 hdrop hmb hm
 have y4:w3.cell? ⟨b,4,none⟩=some (.slice (H 2).mA m (H 2).mc):=by rw[QJ.cell HM3.out.blk];exact congrArg (fun k=>some (Value.slice (H 2).mA k (H 2).mc)) Hm.out
 go_wp2_with fail
 refine HD.out.mono ?_
 rintro e w4 ⟨hk4,rfl,hr4⟩
 have b4:=QJ.keeps HM3.out.blk hk4 HMb.out
 have r0:w4.cell? ⟨b,4,none⟩=some (.slice (H 2).mA m (H 2).mc):=by rw[QJ.cell b4];exact congrArg (fun k=>some (Value.slice (H 2).mA k (H 2).mc)) Hm.out
 have rf0:=QJ.frozen b4 4
 rw[Qb0]at hr4⊢
 rw[←Qs8]at hr4
 obtain⟨reg5,hM5,hB5⟩:=HM3.out.market KK (A':=(H 2).mA) (c':=(H 2).mc) (ms':=(H 2).ms.filter (X3 (h1,h2))) hk4 hr4 (fun g hg=> .inl hg)
 have hq4: ∀g,¬U1 b r F H g→QZ (H 2).mA≠some g∧g≠b:=fun g hg=>⟨fun e=>hg (XX.fpH 2 KK (.inl e)),fun e=>hg (.inl e)⟩
 have HP5:=QQ (QJ.far (QJ.keeps HP3.out hk4 (hq4 _ hpb.out).1) (p:=⟨b,4,none⟩) (hq4 _ hpb.out).2 (.slice (H 2).mA ((H 2).ms.filter (X3 (h1,h2))).length (H 2).mc))
 have HR5:=QQ (QJ.far (QJ.keeps HR3.out hk4 (hq4 _ hrb.out).1) (p:=⟨b,4,none⟩) (hq4 _ hrb.out).2 (.slice (H 2).mA ((H 2).ms.filter (X3 (h1,h2))).length (H 2).mc))
 obtain⟨hS5,hL5⟩:=Jm5 HSm.out KK HX.out HKd.out (H 2).mA (H 2).mc
 have H13:=QQ (show Jj8 w (w4.setCell ⟨b,4,none⟩ (.slice (H 2).mA ((H 2).ms.filter (X3 (h1,h2))).length (H 2).mc)) b a r F M n (Z7 f o.id none) H 2 o.id h1 h2 pb rb #[.int .i64 h1,.int .i64 h2,.int .i64 2,.int .i64 o.price,.bool true]from
  ⟨_,reg5,hM5,HS3.out.trans hB5,hS5,hL5,fun s' h=>VY h,HP5.out,HR5.out,Xg3 KK (fun i hi=>hi) hrb.out⟩)
 clear hM5 hB5 hS5 hL5 hk4 hr4 b4 hq4 p0 p1 p2 p3 p4 y4 HP5 HR5 HM3 HP3 HR3 HS3
 obtain⟨nl,hnl⟩: ∃nl,((H 2).ms.filter (X3 (h1,h2))).length=nl:=⟨_,rfl⟩
 rw[hnl]at H13⊢
 clear hnl
 obtain⟨H5,reg5,hM5,hB5,hS5,hL5,hO5,hP5,hR5,hn5⟩:=H13.out
 have q0:=hM5.cells.1
 obtain⟨p0,p1,p2,p3,p4⟩:=Qc4 hP5
 clear hM5 hB5 hS5 hL5 hO5 hP5 hR5 hn5
 go_upto_region 13 with fail
 generalize(w4.setCell ⟨b,4,none⟩ (.slice (H 2).mA nl (H 2).mc))=w5 at H13 q0 p0 p1 p2 p3 p4⊢
 obtain⟨H5,reg5,hM5,hB5,hS5,hL5,hO5,hP5,hR5,hn5⟩:=H13.out
 have hget:=Jf9 (M:=M) hM5 (Below.drew (Below.refl w5.heap.size w5)) HMx.out
 have HG:=QQ hget
 have HB5:=QQ (hB5.trans (XW.of_below (Below.drew (Below.refl w5.heap.size w5))))
 have HR5:=QQ hR5
 have HN5:=QQ hn5
 have HS5:=QQ hS5
 have HL5:=QQ hL5
 have HO5:=QQ hO5
 clear hget p2 p3 p4 hM5 hB5 hS5 hL5 hO5 hP5 hR5 hn5 H13
 go_cut [5,104] (fun s5 s104 wx=>s5= .nilIface∧Xg4 w wx b a r rb F M n (Z7 f o.id none) H 2 o.id h1 h2 (KZ o))
 case first=>as_aux_lemma=>
  go_region_with (go_at_call 127;refine HG.out.mono ?_;rintro e w6 ⟨rfl,F6,reg6,hM6,hB6⟩;have hr6:QJ w6 rb 29 #[.int .i64 0,.int .i64 0,.int .i64 0,.int .i64 0,.int .i64 0]:=QJ.keeps (QJ.drew HR5.out) hB6.1 HN5.out;have z0:=(Qc4 hr6).1;have z1:=(Qc4 hr6).2.1;have z2:=(Qc4 hr6).2.2.1;have z3:=(Qc4 hr6).2.2.2.1;have z4:=(Qc4 hr6).2.2.2.2;have f0:=QJ.frozen hr6 0;have f1:=QJ.frozen hr6 1;have f2:=QJ.frozen hr6 2;have f3:=QJ.frozen hr6 3;have f4:=QJ.frozen hr6 4;have HM6:=QQ hM6;have HB6:=QQ hB6;have HR6:=QQ hr6;clear hM6 hr6 hB6)
  all_goals go_wp2_with fail
  all_goals go_meet
  all_goals
   have hnb6: ¬U1 b r F6 H5 rb:=fun h=>(HB6.out.2 rb h).elim HN5.out (fun h3=>by have h4:=QJ.lt (QJ.drew HR5.out);omega)
   exact⟨rfl,Ja3 HM6.out (HB5.out.trans HB6.out) hnb6 HLT.out.1 HS5.out HL5.out HO5.out,QJ.set_ (QJ.set_ (QJ.set_ (QJ.set_ (QJ.set_ HR6.out 0 _) 1 _) 2 _) 3 _) 4 _⟩
 case rest=>
  obtain⟨rfl,hdone,hbox⟩:=hcut;have HDn:=QQ hdone;have HBx:=QQ hbox;clear hdone hbox;go_wp2_with fail
  refine Qm4 (g:=rb) (cs:=KZ o) (v:=YV 0) (by with_unfolding_all rfl) (by with_unfolding_all rfl) (by with_unfolding_all rfl) HBx.out rfl ?_;exact⟨rfl,HDn.out⟩
theorem Kh6 (w:World) (b a:Nat) (F:Nat→Prop) (M:Int→Int→Option QX) (n r:Nat) (f:Int→Option Value) (H:Int→HS) (reg:Nat→Int) (hM:XX w b a F M n r f H reg) (hS:KY M n f H) (x:HO) (hx:x∈(H 2).all) (hk:x.2.kind≠2) (hn:n≤100) (k:Nat) (hkl:k< (H 2).qs.length) (hxk:x∈(H 2).qs[k].os) (hpk:(H 2).qs[k].price=x.2.price):
  Calls Tryz.prog 89 #[.pointer (some ⟨b,0,none⟩),.int .i64 x.2.id] w fun e w'=>e= .returned (.tuple #[KQ x.2,YV 0])∧Qi9 w w' b a r F n H 2 x.2.id:=by
 have hf:=hS.hf x (OV KK hx)
 have hsd:=hS.side_of KK hx
 have hMx:=hS.hM x (OV KK hx)
 obtain⟨⟨h1,h2⟩,o⟩:=x
 dsimp only at hf hsd hMx hk⊢
 have hmk:(o.kind ==2)=false:=by simpa using hk
 have hb0:Below w.heap.size w (w.alloc (.cells #[.int .i64 0,.int .i64 0,.int .i64 0,.int .i64 0,.int .i64 0] 29)):=(Below.refl _ w).alloc (Nat.le_refl _) _
 have hM0:=hM.below hb0
 have hlk:=K0 hM0.mp hf
 dsimp only at hlk
 rw[hsd,hmk]at hlk
 obtain⟨y0,y1,y2,y3,y4,y5⟩:=hM0.cells
 have HM:=QQ hM
 have HSm:=QQ hS
 have HX:=QQ hx
 have HKd:=QQ hk
 have HSd:=QQ hsd
 have HMx:=QQ hMx
 have HN:=QQ hn
 have HM0:=QQ hM0
 clear y0 y2 y3 y4 y5 hM hS hx hk hsd hMx hn hM0 hf hmk hb0
 go_enter Tryz.func89,Tryz.ntmps89
 go_upto_region 4 with fail
 clear hlk y1
 obtain⟨hb1,hM1,hR1,hP1⟩:=Qk8 (h1:=h1) (h2:=h2) (sd:=2) (pr:=o.price) (mk:=false) HM.out
 have hrb:=QQ (show¬U1 b r F H w.heap.size from fun h=>by have:=HM.out.fp h;omega)
 have hpb:=QQ (show¬U1 b r F H (w.heap.size+1)from fun h=>by have:=HM.out.fp h;omega)
 obtain⟨pb,hpbe⟩: ∃pb,pb=w.heap.size+1:=⟨_,rfl⟩
 obtain⟨rb,hrbe⟩: ∃rb,rb=w.heap.size:=⟨_,rfl⟩
 have hne:rb≠pb:=by omega
 have HLT:=QQ (show w.heap.size≤rb∧w.heap.size≤pb by omega)
 rw[←hpbe]at hP1 hpb⊢
 rw[←hrbe]at hR1 hrb⊢
 generalize(w.alloc (.cells #[.int .i64 0,.int .i64 0,.int .i64 0,.int .i64 0,.int .i64 0] 29)).alloc (.cells #[.int .i64 h1,.int .i64 h2,.int .i64 2,.int .i64 o.price,.bool false] 188)=w1 at hb1 hM1 hR1 hP1⊢
 obtain⟨w2,hdel,hI2,hT2⟩:=Jp4 w1 r f hM1.mp o.id
 obtain⟨hM2,hS2⟩:=hM1.map_ hT2 hI2
 have HS2:=QQ ((XW.of_below (G:=U1 b r F H) hb1).trans hS2)
 have hP2:QJ w2 pb 188 #[.int .i64 h1,.int .i64 h2,.int .i64 2,.int .i64 o.price,.bool false]:=QJ.of_block hP1 (hT2.block pb (fun e=>hpb.out (.inr (.inl e))))
 have hR2:QJ w2 rb 29 #[.int .i64 0,.int .i64 0,.int .i64 0,.int .i64 0,.int .i64 0]:=QJ.of_block hR1 (hT2.block rb (fun e=>hrb.out (.inr (.inl e))))
 have y1:=hM1.cells.2.1
 have HM2:=QQ hM2
 have HP2:=QQ hP2
 have HR2:=QQ hR2
 obtain⟨p0,p1,p2,p3,p4⟩:=Qc4 hP2
 clear hM1 hR1 hP1 hT2 hI2 hM2 hS2 hP2 hR2 hb1 hpbe hrbe
 go_wp2_with (simp only[hdel])
 clear hdel y1
 go_quiet (fail)
 have hq:Below w2.heap.size w2 (w2.drewN nq):=JQ (Below.refl _ _) nq
 have HM3:=QQ (HM2.out.below hq)
 have HP3:=QQ (QJ.drewN HP2.out nq)
 have HR3:=QQ (QJ.drewN HR2.out nq)
 have HS3:=QQ (HS2.out.trans (XW.of_below hq))
 clear hq p0 p1 p2 p3 p4
 generalize w2.drewN nq=w3 at HM3 HP3 HR3 HS3⊢
 clear HM2 HP2 HR2 HS2
 obtain⟨p0,p1,p2,p3,p4⟩:=Qc4 HP3.out
 obtain⟨y0,y1,y2,y3,y4,y5⟩:=HM3.out.cells
 have hmf: ∀(fn:Fn) (first cap:Array Value) (w:World),(Instr.makeFunc fn first cap).run Tryz.prog w= .ok (.func fn first cap) w:=fun _ _ _ _=>rfl
 have eg:=Go.Proofs.enters_of Tryz.func122 (by kernel_rfl) rfl
 have hx3:=HM3.out.hx 2 KK
 obtain⟨qg,hqg,hqc⟩:=hx3.rq.elem KJ (by omega) (i:=k) (by simpa using hkl)
 obtain⟨q,hqk⟩: ∃q,(H 2).qs[k]'hkl=q:=⟨_,rfl⟩
 have hmem:q∈(H 2).qs:=by rw[←hqk];exact List.getElem_mem _
 have q0:w3.cell? ⟨qg,k*2,none⟩=some (.int .i64 q.price):=by have:=hqc 0 _ rfl;rw[←hqk];simpa [QG.que]using this
 have q1:w3.cell? ⟨qg,k*2+1,none⟩=some (.slice q.A q.os.length q.c):=by have:=hqc 1 _ rfl;rw[←hqk];simpa [QG.que]using this
 have hqb:QZ (H 2).qA=some qg:=by rw[hqg];rfl
 have hql:=hx3.rq.lt hqb
 have hqm:QZ q.A≠some qg:=fun e=>by have h3:=hx3.gl _ hmem qg e;have h4:=hx3.gq qg hqb;omega
 have hqB:QZ q.A≠some b:=fun e=>by have h3:=hx3.gl _ hmem b e;have h4:=HM3.out.gb;omega
 have hqp:QZ q.A≠some pb:=fun e=>hpb.out (XX.fpH 2 KK (.inr (.inr ⟨q,hmem,e⟩)))
 have hqs:=Jp5 KK HSm.out HN.out
 have hos:q.os.length≤1000:=by rw[←hqk];exact Kn9 KK HSm.out HN.out hkl
 have hfind:=Jf5 w3 b 4 2 o.price (H 2).qA (H 2).qs.length (H 2).qc ((H 2).qs.map QG.que) (by exact y5) (XZ.of_row KJ (by omega) hx3.rq) (HSm.out.is 2 KK).rank hqs
 have HFi:=QQ hfind
 have HqA:=QQ hqg
 have Hqk:=QQ hqk
 have Hkl:=QQ hkl
 have Hxk:=QQ hxk
 have Hpk:=QQ hpk
 have HRow:=QQ (hx3.rl q hmem)
 have HQR:=QQ hx3.rq
 have HQm:=QQ hqm
 have HQB:=QQ hqB
 have HQp:=QQ hqp
 have HQb2:=QQ (show b≠qg from fun e=>by have h3:=HM3.out.gb;have h4:=hx3.gq qg hqb;rw[e]at h3;omega)
 clear hfind hx3 hqc hmem hqm hqB hqp hqb hqk hxk hpk
 go_wp2_with fail
 refine HFi.out.mono ?_
 rintro e w4 ⟨hb4,k4,hk4,rfl⟩
 obtain rfl:k4=k:=Xn1 (HSm.out.is 2 KK) Hkl.out Hpk.out hk4
 obtain⟨fb,HFb⟩: ∃fb,Hid (Qm1 2 o.price ((H 2).qs.map QG.que) (H 2).qs.length k4=fb):=⟨_,QQ rfl⟩
 rw[HFb.out]
 have HM4:=QQ (HM3.out.below hb4)
 have HP4:=QQ (QJ.keep HP3.out hb4)
 have HR4:=QQ (QJ.keep HR3.out hb4)
 have HS4:=QQ (HS3.out.trans (XW.of_below hb4))
 obtain⟨hc4,hf4⟩:=Kx7 hb4
 have q0':w4.cell? ⟨qg,k4*2,none⟩=some (.int .i64 q.price):=(hc4 _ _ hql).trans q0
 have q1':w4.cell? ⟨qg,k4*2+1,none⟩=some (.slice q.A q.os.length q.c):=(hc4 _ _ hql).trans q1
 have hrow4:=HRow.out.below hb4
 have hqr4:=HQR.out.below hb4
 have hql4:qg<w4.heap.size:=by have:=hb4.size;omega
 clear hk4 q0 q1 p0 p1 p2 p3 p4 y0 y1 y2 y3 y4 y5 hql hc4 hf4 hb4 HFi HM3 HP3 HR3 HS3 HRow HQR
 obtain⟨l,hll⟩: ∃l,(H 2).qs.length=l:=⟨_,rfl⟩
 obtain⟨m,hm⟩: ∃m,q.os.length=m:=⟨_,rfl⟩
 rw[hm]at q1' hrow4
 have y5:w4.cell? ⟨b,5,none⟩=some (.slice (some ⟨qg,0,none⟩) l (H 2).qc):=by rw[QJ.cell HM4.out.blk];rw[←HqA.out,←hll];rfl
 obtain⟨p0,p1,p2,p3,p4⟩:=Qc4 HP4.out
 have hkz:(k4:Int)< (l:Int):=by omega
 have hk0:(0:Int)≤(k4:Int):=by omega
 have hdrop: ∀W,Below w4.heap.size w4 W→Calls Tryz.prog 122 #[.slice q.A m q.c,.pointer (some ⟨pb,0,none⟩)] W _:=fun W hW=>Jf7 W q.A m q.c (J9 q.os) pb (h1,h2) (hrow4.below hW) (by omega) HQp.out ((QJ.cell (QJ.keep HP4.out hW) 0).trans rfl) ((QJ.cell (QJ.keep HP4.out hW) 1).trans rfl)
 have HD:=QQ (hdrop w4.drew (Below.drew (Below.refl _ _)))
 have HQR4:=QQ hqr4
 have HL:=QQ hll
 have Hm:=QQ hm
 have hbl:=QJ.lt HM4.out.blk
 clear hdrop hrow4 hqr4 hll hm hos hqs
 go_upto_region 10 with fail
 go_cut [72] (fun s72 wx=>Xg2 w4 wx qg k4 q.A q.c q.os (h1,h2))
 case first=>
  go_region_with (go_at_call 122;refine HD.out.mono ?_;rintro e w5 ⟨hk5,rfl,hr5⟩;have z1:w5.cell? ⟨b,5,none⟩=some (.slice (some ⟨qg,0,none⟩) l (H 2).qc):=(hk5.cell (p:=⟨b,5,none⟩) hbl HQB.out).trans y5;have z2:w5.cell? ⟨qg,k4*2+1,none⟩=some (.slice q.A m q.c):=(hk5.cell (p:=⟨qg,k4*2+1,none⟩) hql4 HQm.out).trans q1';have z3:=(hk5.frozen (p:=⟨qg,k4*2+1,none⟩) hql4 HQm.out).trans (QY.frozen (by rw[←HqA.out];exact HQR4.out) (k4*2+1):w4.frozen? ⟨qg,k4*2+1,none⟩=false);have HK5:=QQ hk5;have HR5:=QQ hr5;clear hk5 hr5)
  all_goals go_wp2_with fail
  all_goals go_meet
  all_goals exact Xa0 HK5.out HR5.out
 case rest=>
  have hX:=Js4 HM4.out HS4.out KK Hkl.out Hqk.out HqA.out hcut HP4.out HR4.out hpb.out hrb.out;have HX11:=QQ hX;obtain⟨reg6,hM6,_,_,_⟩:=hX;have hr6:=Kc1 KK HqA.out hM6;have HR6:=QQ hr6;clear p0 p1 p2 p3 p4 q0' q1' y5 HD hcut;have hbl6:=QJ.lt hM6.blk;have y5:wc.cell? ⟨b,5,none⟩=some (.slice (some ⟨qg,0,none⟩) l (H 2).qc):=by
   rw[QJ.cell hM6.blk];have e:Qs9 H 2 k4 q (h1,h2) 2=⟨(H 2).mA,(H 2).mc,(H 2).qA,(H 2).qc,(H 2).ms,(H 2).qs.set k4 ⟨q.price,q.A,q.c,q.os.filter (X3 (h1,h2))⟩⟩:=by unfold Qs9;rw[VX]
   show some (Value.slice (Qs9 H 2 k4 q (h1,h2) 2).qA (Qs9 H 2 k4 q (h1,h2) 2).qs.length (Qs9 H 2 k4 q (h1,h2) 2).qc)=_;rw[e];dsimp only;rw[HqA.out,List.length_set,HL.out]
  have hf6:=QJ.frozen hM6.blk 5;obtain⟨nl,hnl⟩: ∃nl,(q.os.filter (X3 (h1,h2))).length=nl:=⟨_,rfl⟩;have q1:wc.cell? ⟨qg,k4*2+1,none⟩=some (.slice q.A nl q.c):=by
   obtain⟨g,hg,hc⟩:=hr6.elem KJ (by omega) (i:=k4) (by have:=Hkl.out;simpa using this)
   cases hg;have:=hc 1 _ rfl;rw[←hnl];simpa [QG.que]using this
  have Hnl:=QQ hnl;have hl6:l≤100000:=by have h3:=Jp5 KK HSm.out HN.out;have h4:=HL.out;omega
  have hkl4:k4<l:=by omega
  clear hr6 hM6 hnl;go_upto_if 84 with fail
  go_cut [85] (fun s85 wx=>Jj8 w wx b a r F M n (Z7 f o.id none) H 2 o.id h1 h2 pb rb #[.int .i64 h1,.int .i64 h2,.int .i64 2,.int .i64 o.price,.bool false])
  case first=>as_aux_lemma=>
   by_cases hz:nl=0
   ·have Hz:=QQ hz
    have t1:((nl:Int) ==0)=true:=J4 (by omega);have hdel:=Jm2 wc qg l (H 2).qc k4 (k4+1) ((k4:Int)+1) (by omega) _ (by rw[←HL.out];exact HR6.out) hl6 (by omega) (by omega);have HDl:=QQ hdel;have hw1:IntKind.i64.wrap ((k4:Int)+1)=(k4:Int)+1:=by rw[IntKind.wrap_i64];omega
    clear hdel hz;go_wp2_with fail
    refine HDl.out.mono ?_;rintro e w7 ⟨rfl,hr7,hk7⟩;have y7:w7.cell? ⟨b,5,none⟩=some (.slice (some ⟨qg,0,none⟩) l (H 2).qc):=(hk7.cell (p:=⟨b,5,none⟩) hbl6 HQb2.out).trans y5;have f7:=(hk7.frozen (p:=⟨b,5,none⟩) hbl6 HQb2.out).trans hf6;have HR7:=QQ hr7;have HK7:=QQ hk7;clear hr7 hk7;go_wp2_with fail
    go_meet;have h9:=Jm7 HSm.out KK Hkl.out Hqk.out HqA.out (by rw[←Hqk.out];exact Hxk.out) HX.out (Hnl.out.trans Hz.out) rfl HX11.out hpb.out hrb.out (by rw[HL.out];exact HR7.out) HK7.out;rw[HL.out]at h9;exact h9
   ·have Hz:=QQ hz
    have t1:((nl:Int) ==0)=false:=UQ (by omega);clear hz;go_wp2_with fail
    go_meet;exact Jm6 HSm.out KK Hkl.out Hqk.out (by rw[←Hqk.out];exact Hxk.out) HX.out (fun e=>Hz.out (Hnl.out.symm.trans e)) rfl HX11.out hrb.out
  case rest=>
   have H13:=QQ hcut;clear q1 y5 hf6 hcut;obtain⟨H5,reg5,hM5,hB5,hS5,hL5,hO5,hP5,hR5,hn5⟩:=H13.out;have q0:=hM5.cells.1;obtain⟨p0,p1,p2,p3,p4⟩:=Qc4 hP5;clear hM5 hB5 hS5 hL5 hO5 hP5 hR5 hn5;go_upto_region 13 with fail
   obtain⟨H5,reg5,hM5,hB5,hS5,hL5,hO5,hP5,hR5,hn5⟩:=H13.out;have hget:=Jf9 (M:=M) hM5 (Below.drew (Below.refl wc.heap.size wc)) HMx.out;have HG:=QQ hget;have HB5:=QQ (hB5.trans (XW.of_below (Below.drew (Below.refl wc.heap.size wc))));have HR5:=QQ hR5;have HN5:=QQ hn5;have HS5:=QQ hS5;have HL5:=QQ hL5;have HO5:=QQ hO5;clear hget p2 p3 p4 hM5 hB5 hS5 hL5 hO5 hP5 hR5 hn5 H13
   go_cut [5,104] (fun s5 s104 wx=>s5= .nilIface∧Xg4 w wx b a r rb F M n (Z7 f o.id none) H 2 o.id h1 h2 (KZ o))
   case first=>as_aux_lemma=>
    go_region_with (go_at_call 127;refine HG.out.mono ?_;rintro e w6 ⟨rfl,F6,reg6,hM6,hB6⟩;have hr6:QJ w6 rb 29 #[.int .i64 0,.int .i64 0,.int .i64 0,.int .i64 0,.int .i64 0]:=QJ.keeps (QJ.drew HR5.out) hB6.1 HN5.out;have z0:=(Qc4 hr6).1;have z1:=(Qc4 hr6).2.1;have z2:=(Qc4 hr6).2.2.1;have z3:=(Qc4 hr6).2.2.2.1;have z4:=(Qc4 hr6).2.2.2.2;have f0:=QJ.frozen hr6 0;have f1:=QJ.frozen hr6 1;have f2:=QJ.frozen hr6 2;have f3:=QJ.frozen hr6 3;have f4:=QJ.frozen hr6 4;have HM6:=QQ hM6;have HB6:=QQ hB6;have HR6:=QQ hr6;clear hM6 hr6 hB6)
    all_goals go_wp2_with fail
    all_goals go_meet
    all_goals
     have hnb6: ¬U1 b r F6 H5 rb:=fun h=>(HB6.out.2 rb h).elim HN5.out (fun h3=>by have h4:=QJ.lt (QJ.drew HR5.out);omega)
     exact⟨rfl,Ja3 HM6.out (HB5.out.trans HB6.out) hnb6 HLT.out.1 HS5.out HL5.out HO5.out,QJ.set_ (QJ.set_ (QJ.set_ (QJ.set_ (QJ.set_ HR6.out 0 _) 1 _) 2 _) 3 _) 4 _⟩
   case rest=>
    obtain⟨rfl,hdone,hbox⟩:=hcut;have HDn:=QQ hdone;have HBx:=QQ hbox;clear hdone hbox;go_wp2_with fail
    refine Qm4 (g:=rb) (cs:=KZ o) (v:=YV 0) (by with_unfolding_all rfl) (by with_unfolding_all rfl) (by with_unfolding_all rfl) HBx.out rfl ?_;exact⟨rfl,HDn.out⟩
section
variable {w w':World} {b a r:Nat} {F:Nat→Prop} {M:Int→Int→Option QX} {n:Nat} {f:Int→Option Value} {H:Int→HS} {s:Int}
theorem Xw0 (S:KY M n f H) {x:HO} {s':Int} (hs:VV s) (hs':VV s') (hx:x∈(H s).all) (hne:s'≠s):O7 (H s').L x.2.id=(H s').L:=by
 rw[←S.filter_id (OV hs hx) hs',S.filter_other hs hs' hx hne]
 rfl
theorem Kv3 {G:Nat→Prop} (S:KY M n f H) {x:HO} (hs:VV s) (hx:x∈(H s).all) (hG: ∀i,G i↔U1 b r F H i) (h:Qi9 w w' b a r F n H s x.2.id):Qj9 w w' b G (O7 (H 1).L x.2.id) (O7 (H 2).L x.2.id):=by
 obtain⟨F',M',f',H',reg',hM,hS,hB,hL,hO⟩:=h
 have key: ∀s',VV s'→O7 (H s').L x.2.id=(H' s').L:=by
  intro s' hs'
  by_cases e:s'=s
  ·subst e;exact hL.symm
  ·rw[hO s' e];exact Xw0 S hs hs' hx e
 refine⟨U1 b r F' H',⟨a,F',M',n-1,r,f',H',reg',hM,hS,fun i=>Iff.rfl,key 1 (.inl rfl),key 2 (.inr rfl)⟩,hB.1.mono (fun i hi=>(hG i).2 hi),fun i hi=>(hB.2 i hi).imp (fun h=>(hG i).2 h) id⟩
theorem Ja4 (S:KY M n f H) {x:HO} (hx:x∈X5 H):Qb3 ((H 1).L++(H 2).L) x.2.id=some x.2:=by
 have e:(H 1).L++(H 2).L=IW (X5 H):=(V2 _ _).symm
 rw[e]
 unfold Qb3
 cases hf:(IW (X5 H)).find? (fun o=>o.id ==x.2.id)with
 |none=>
  rw[List.find?_eq_none]at hf;have:=hf x.2 (List.mem_map.2 ⟨x,hx,rfl⟩);simp at this
 |some o=>
  have h1:=List.mem_of_find?_eq_some hf;obtain⟨y,hy,rfl⟩:=List.mem_map.1 h1;have h2:=List.find?_some hf;have h3:y.2.id=x.2.id:=by simpa using h2
  rw[S.same_id hy hx h3]
theorem Ja5 (S:KY M n f H) {id:Int} (h:f id=none):Qb3 ((H 1).L++(H 2).L) id=none:=by
 have e:(H 1).L++(H 2).L=IW (X5 H):=(V2 _ _).symm
 rw[e]
 unfold Qb3
 rw[List.find?_eq_none]
 intro o ho
 obtain⟨y,hy,rfl⟩:=List.mem_map.1 ho
 have:=S.none_.1 h y hy
 simpa using this
end
def Js6 (w:World) (b:Nat) (G:Nat→Prop) (L1 L2:List QX) (id:Int) (e:Ending) (w':World):Prop:=
 (Qb3 (L1++L2) id=none∧e= .returned (.tuple #[.agg #[.int .i64 0,.int .i64 0,.int .i64 0,.int .i64 0,.int .i64 0],YV 7])∧Below w.heap.size w w')∨
 (∃o,Qb3 (L1++L2) id=some o∧e= .returned (.tuple #[KQ o,YV 0])∧Qj9 w w' b G (O7 L1 id) (O7 L2 id))
theorem Qg0 (w:World) (b:Nat) (G:Nat→Prop) (L1 L2:List QX) (h:Q1 w b G L1 L2) (id:Int):
  Calls Tryz.prog 89 #[.pointer (some ⟨b,0,none⟩),.int .i64 id] w (Js6 w b G L1 L2 id):=by
 obtain⟨a,F,M,n,r,f,H,reg,hM,hS,hG,rfl,rfl⟩:=h
 have hn:=hM.ar.le
 cases hf:f id with
 |none=>
  refine(Js5 w b a F M n r f H reg hM id hf).mono ?_;rintro e w' ⟨rfl,hb⟩;exact .inl ⟨Ja5 hS hf,rfl,hb⟩
 |some v=>
  obtain⟨x,hx,rfl⟩:=hS.hk id v hf;obtain⟨hs,hxs⟩:=hS.side_mem hx;have fin: ∀s,VV s→x∈(H s).all→ ∀e w',(e= .returned (.tuple #[KQ x.2,YV 0])∧Qi9 w w' b a r F n H s x.2.id)→Js6 w b G (H 1).L (H 2).L x.2.id e w':=by
   rintro s hs hxs e w' ⟨rfl,hl⟩;exact .inr ⟨x.2,Ja4 hS hx,rfl,Kv3 hS hs hxs hG hl⟩
  generalize x.2.side=s at hs hxs;rcases hs with rfl|rfl
  ·rcases hS.where_ KX hxs with⟨hk,_⟩|⟨hk,k,hkl,hxk,hpk⟩
   ·exact(Kh3 w b a F M n r f H reg hM hS x hxs hk hn).mono (fin 1 KX hxs)
   ·exact(Kh4 w b a F M n r f H reg hM hS x hxs hk hn k hkl hxk hpk).mono (fin 1 KX hxs)
  ·rcases hS.where_ KK hxs with⟨hk,_⟩|⟨hk,k,hkl,hxk,hpk⟩
   ·exact(Kh5 w b a F M n r f H reg hM hS x hxs hk hn).mono (fin 2 KK hxs)
   ·exact(Kh6 w b a F M n r f H reg hM hS x hxs hk hn k hkl hxk hpk).mono (fin 2 KK hxs)
def Qk9 (L1 L2:List QX) (o:QX):Int:=
 if Jb1 o=false then 1 else if Qq6 o=false then 2 else if(Qb3 (L1++L2) o.id).isSome=true then 9 else if L1.length+L2.length=100 then 12 else 0
def Qb8 (s:Int) (L:List QX) (o:QX):List QX:=if o.side=s then Qs4 s L (JJ o)else L
def Jp6 (w:World) (b:Nat) (G:Nat→Prop) (L1 L2:List QX) (o:QX) (e:Ending) (w':World):Prop:=
 (Qk9 L1 L2 o≠0∧e= .returned (YV (Qk9 L1 L2 o))∧Below w.heap.size w w')∨
 (Qk9 L1 L2 o=0∧e= .returned (YV 0)∧Qj9 w w' b G (Qb8 1 L1 o) (Qb8 2 L2 o))
theorem Kz8 {w w':World} {b a r:Nat} {F G:Nat→Prop} {n:Nat} {H:Int→HS} {o:QX} (hs:VV o.side) (hG: ∀i,G i↔U1 b r F H i) (h:Qn9 w w' b a r F n H (JJ o)):Qj9 w w' b G (Qb8 1 (H 1).L o) (Qb8 2 (H 2).L o):=by
 obtain⟨F',M',f',H',reg',hM,hS,hB,hL,hO⟩:=h
 have es:(JJ o).side=o.side:=rfl
 rw[es]at hL hO
 have key: ∀s',VV s'→Qb8 s' (H s').L o=(H' s').L:=by
  intro s' hs';unfold Qb8
  by_cases e:o.side=s'
  ·rw[if_pos e];rw[e]at hL;exact hL.symm
  ·rw[if_neg e,hO s' (fun e'=>e e'.symm)]
 refine⟨U1 b r F' H',⟨a,F',M',n+1,r,f',H',reg',hM,hS,fun i=>Iff.rfl,key 1 (.inl rfl),key 2 (.inr rfl)⟩,hB.1.mono (fun i hi=>(hG i).2 hi),fun i hi=>(hB.2 i hi).imp (fun h=>(hG i).2 h) id⟩
def Kz9 (L1 L2:List QX) (o:QX):List QX×List QX:=if Qk9 L1 L2 o=0 then(Qb8 1 L1 o,Qb8 2 L2 o)else(L1,L2)
theorem Qj9.of_below {w w':World} {b:Nat} {G:Nat→Prop} {L1 L2:List QX} (h:Q1 w b G L1 L2) (hb:Below w.heap.size w w'):Qj9 w w' b G L1 L2:=⟨G,h.below hb,XW.of_below hb⟩
theorem Jp6.to {w w':World} {b:Nat} {G:Nat→Prop} {L1 L2:List QX} {o:QX} {e:Ending} (h:Q1 w b G L1 L2) (hp:Jp6 w b G L1 L2 o e w'):e= .returned (YV (Qk9 L1 L2 o))∧Qj9 w w' b G (Kz9 L1 L2 o).1 (Kz9 L1 L2 o).2:=by
 unfold Kz9
 rcases hp with⟨h0,h1,h2⟩|⟨h0,h1,h2⟩
 ·rw[if_neg h0];exact⟨h1,Qj9.of_below h h2⟩
 ·rw[if_pos h0,h0];exact⟨h1,h2⟩
def O3 (s p:Int) (o:QX):Bool:=(o.kind ==2) || ((s ==1) &&decide (p≤o.price)) || ((s ==2) &&decide (o.price≤p))
def Qt0 (s:Int) (a b:QX):Prop:= ∀p,O3 s p b=true→O3 s p a=true
def Qg1 (s:Int) (L:List QX):Prop:=L.Pairwise (Qt0 s)
theorem Qt0.trans {s:Int} {a b c:QX} (h:Qt0 s a b) (k:Qt0 s b c):Qt0 s a c:=fun p hp=>h p (k p hp)
theorem Kh7 {s:Int} (hs:VV s) {o x:QX} (h:I7 s o x=true):Qt0 s x o:=by
 intro p hp
 unfold I7 Qi7 at h
 unfold O3 at hp⊢
 rcases hs with rfl|rfl
 ·simp at h hp⊢
  omega
 ·simp at h hp⊢
  omega
theorem Ko1 {s:Int} (hs:VV s) {o x:QX} (h:I7 s o x=false):Qt0 s o x:=by
 intro p hp
 unfold I7 Qi7 at h
 unfold O3 at hp⊢
 rcases hs with rfl|rfl
 ·simp at h hp⊢
  omega
 ·simp at h hp⊢
  omega
theorem Jb8 {α:Type} {q:α→Bool}: ∀ {l:List α} {a:α},a∈l.takeWhile q→q a=true
 | [],_,h=>by simp at h
 |b::l,a,h=>by
  rw[List.takeWhile_cons]at h
  split at h
  ·rename_i hq
   rcases List.mem_cons.1 h with rfl|h
   ·exact hq
   ·exact Jb8 h
  ·cases h
theorem Qw6 {α:Type} {q:α→Bool}: ∀ {l:List α} {d:α} {r:List α},l.dropWhile q=d::r→q d=false
 | [],_,_,h=>by simp at h
 |a::l,d,r,h=>by
  rw[List.dropWhile_cons]at h
  split at h
  ·exact Qw6 h
  ·rename_i hq
   cases h;simpa using hq
theorem Qt1 {s:Int} (hs:VV s) {L:List QX} (h:Qg1 s L) (o:QX):Qg1 s (Qs4 s L o):=by
 unfold Qs4 Qg1 at*
 have hsp:L.takeWhile (I7 s o)++L.dropWhile (I7 s o)=L:=List.takeWhile_append_dropWhile
 rw[←hsp,List.pairwise_append]at h
 obtain⟨h1,h2,h3⟩:=h
 have hyes: ∀a∈L.takeWhile (I7 s o),Qt0 s a o:=fun a ha=>Kh7 hs (Jb8 ha)
 have hno: ∀b∈L.dropWhile (I7 s o),Qt0 s o b:=by
  cases hd:L.dropWhile (I7 s o)with
  |nil=>intro b hb;cases hb
  |cons d r=>
   have hdn:=Ko1 hs (Qw6 hd);rw[hd]at h2;intro b hb;rcases List.mem_cons.1 hb with rfl|hb
   ·exact hdn
   ·exact hdn.trans ((List.pairwise_cons.1 h2).1 b hb)
 rw[List.pairwise_append]
 refine⟨h1,List.pairwise_cons.2 ⟨hno,h2⟩,fun a ha b hb=> ?_⟩
 rcases List.mem_cons.1 hb with rfl|hb
 ·exact hyes a ha
 ·exact h3 a ha b hb
def Qb4 (f:QX→Int):List QX→Int
 | []=>0
 |o::l=>f o+Qb4 f l
theorem Qw7 {f:QX→Int} (l l':List QX):Qb4 f (l++l')=Qb4 f l+Qb4 f l':=by
 induction l with
 |nil=>simp[Qb4]
 |cons a l ih=>simp only[List.cons_append,Qb4,ih];omega
theorem Js7 (f:QX→Int) (l:List QX): ∀s:Int,l.foldl (fun s o=>s+f o) s=s+Qb4 f l:=by
 induction l with
 |nil=>intro s;simp[Qb4]
 |cons a l ih=>intro s;rw[List.foldl_cons,ih];simp only[Qb4];omega
theorem Js8 {f g:QX→Int} {l:List QX} (h: ∀o∈l,f o=g o):Qb4 f l=Qb4 g l:=by
 induction l with
 |nil=>rfl
 |cons a l ih=>simp only[Qb4];rw[h a (by simp),ih (fun o ho=>h o (by simp[ho]))]
theorem Xa1 {f:QX→Int} {l:List QX} (h: ∀o∈l,f o=0):Qb4 f l=0:=by
 induction l with
 |nil=>rfl
 |cons a l ih=>simp only[Qb4];rw[h a (by simp),ih (fun o ho=>h o (by simp[ho]))];rfl
theorem Jm8 {f:QX→Int} {l:List QX} (h: ∀o∈l,0≤f o):0≤Qb4 f l:=by
 induction l with
 |nil=>simp[Qb4]
 |cons a l ih=>
  have h1:=h a (by simp);have h2:=ih (fun o ho=>h o (by simp[ho]));simp only[Qb4];omega
theorem Kv4 {f g:QX→Int} {l:List QX} (h: ∀o∈l,f o≤g o):Qb4 f l≤Qb4 g l:=by
 induction l with
 |nil=>simp[Qb4]
 |cons a l ih=>
  have h1:=h a (by simp);have h2:=ih (fun o ho=>h o (by simp[ho]));simp only[Qb4];omega
theorem Ko2 {f:QX→Int} {l:List QX} (h: ∀o∈l,0≤f o) {x:QX} (hx:x∈l):f x≤Qb4 f l:=by
 induction l with
 |nil=>cases hx
 |cons a l ih=>
  have h1:=h a (by simp);have h2:=Jm8 (fun o ho=>h o (by simp[ho]): ∀o∈l,0≤f o);simp only[Qb4];rcases List.mem_cons.1 hx with rfl|hx
  ·omega
  ·have:=ih (fun o ho=>h o (by simp[ho])) hx
   omega
def V8 (s p:Int) (L:List QX):Int:=Qb4 (fun o=>if O3 s p o=true then o.qty else 0) L
def Jx6 (L:List QX):Int:=Qb4 (fun o=>o.qty) L
def ZK:List QX→Int→List QX
 | [],_=> []
 |o::t,a=>if a≤0 then o::t else if o.qty≤a then ZK t (a-o.qty)else U9 o a::t
def Qt2 (a q:Int):Int:=if a≤0 then 0 else if a<q then a else q
def Y7:List QX→Int→Int→Int
 | [],_,_=>0
 |o::t,a,id=>if o.id=id then Qt2 a o.qty else Y7 t (a-o.qty) id
theorem Qh6 (L:List QX) {a:Int} (h:a≤0):ZK L a=L:=by
 cases L with
 |nil=>rfl
 |cons o t=>unfold ZK;rw[if_pos h]
theorem Y0 (id:Int): ∀(L:List QX) {a:Int},a≤0→(∀o∈L,1≤o.qty)→Y7 L a id=0
 | [],_,_,_=>rfl
 |o::t,a,h,hq=>by
  unfold Y7;have h1:=hq o (by simp)
  split
  ·unfold Qt2;rw[if_pos h]
  ·exact Y0 id t (by omega) (fun o ho=>hq o (by simp[ho]))
theorem Qq9 {x:QX}: ∀ {L:List QX} {a:Int},x∈ZK L a→ ∃o∈L,o.id=x.id∧o.side=x.side∧o.kind=x.kind∧o.price=x.price∧x.qty≤o.qty
 | [],_,h=>by cases h
 |o::t,a,h=>by
  unfold ZK at h
  split at h
  ·exact⟨x,h,rfl,rfl,rfl,rfl,Int.le_refl _⟩
  ·split at h
   ·obtain⟨y,hy,h1⟩:=Qq9 h
    exact⟨y,List.mem_cons_of_mem _ hy,h1⟩
   ·rcases List.mem_cons.1 h with rfl|h
    ·exact⟨o,by simp,rfl,rfl,rfl,rfl,by unfold U9;dsimp only;omega⟩
    ·exact⟨x,List.mem_cons_of_mem _ h,rfl,rfl,rfl,rfl,Int.le_refl _⟩
theorem Js9: ∀ {L:List QX} {a:Int},0≤a→a<Jx6 L→ZK L a≠ []
 | [],a,h0,h=>by simp[Jx6,Qb4]at h;omega
 |o::t,a,h0,h=>by
  have e:Jx6 (o::t)=o.qty+Jx6 t:=rfl;unfold ZK
  split
  ·simp
  ·split
   ·exact Js9 (by omega) (by omega)
   ·simp
theorem Jd3 {x:QX} {t:List QX} {n:Int}: ∀ {L:List QX} {a:Int},(∀o∈L,1≤o.qty)→0≤a→ZK L a=x::t→1≤n→n≤x.qty→(if n=x.qty then t else U9 x n::t)=ZK L (a+n)
 | [],a,_,_,h,_,_=>by simp[ZK]at h
 |o::s,a,hq,h0,h,h1,h2=>by
  have ho:=hq o (by simp);have hs: ∀o∈s,1≤o.qty:=fun y hy=>hq y (by simp[hy])
  unfold ZK at h
  by_cases ha:a≤0
  ·rw[if_pos ha]at h
   injection h with e1 e2
   subst e1;subst e2;unfold ZK;rw[if_neg (show¬a+n≤0 by omega)]
   by_cases e:n=o.qty
   ·rw[if_pos e,if_pos (show o.qty≤a+n by omega),Qh6 _ (by omega)]
   ·rw[if_neg e,if_neg (show¬o.qty≤a+n by omega)]
    have:a+n=n:=by omega
    rw[this]
  ·rw[if_neg ha]at h
   by_cases hb:o.qty≤a
   ·rw[if_pos hb]at h
    have ih:=Jd3 hs (by omega) h h1 h2;rw[ih]
    conv=>rhs;unfold ZK
    rw[if_neg (show¬a+n≤0 by omega),if_pos (show o.qty≤a+n by omega)]
    congr 1
    omega
   ·rw[if_neg hb]at h
    injection h with e1 e2
    subst e1;subst e2;have e3:(U9 o a).qty=o.qty-a:=rfl;rw[e3]at h2⊢
    conv=>rhs;unfold ZK
    rw[if_neg (show¬a+n≤0 by omega)]
    by_cases e:n=o.qty-a
    ·rw[if_pos e,if_pos (show o.qty≤a+n by omega),Qh6 _ (by omega)]
    ·rw[if_neg e,if_neg (show¬o.qty≤a+n by omega)]
     have e4:U9 (U9 o a) n=U9 o (a+n):=by unfold U9;dsimp only;congr 1;omega
     rw[e4]
theorem Qw8 {x:QX} {t:List QX} {n:Int} (id:Int): ∀ {L:List QX} {a:Int},(∀o∈L,1≤o.qty)→(L.map (·.id)).Nodup→0≤a→ZK L a=x::t→1≤n→n≤x.qty→
  Y7 L (a+n) id=Y7 L a id+ (if x.id=id then n else 0)
 | [],a,_,_,_,h,_,_=>by simp[ZK]at h
 |o::s,a,hq,hn,h0,h,h1,h2=>by
  have ho:=hq o (by simp);have hs: ∀o∈s,1≤o.qty:=fun y hy=>hq y (by simp[hy])
  rw[List.map_cons,List.nodup_cons]at hn;unfold ZK at h;unfold Y7
  by_cases ha:a≤0
  ·rw[if_pos ha]at h
   injection h with e1 e2
   subst e1
   by_cases e:o.id=id
   ·rw[if_pos e,if_pos e,if_pos e]
    unfold Qt2;rw[if_neg (by omega),if_pos ha]
    split<;>omega
   ·rw[if_neg e,if_neg e,if_neg e,Y0 id s (by omega) hs,Y0 id s (by omega) hs]
    rfl
  ·rw[if_neg ha]at h
   by_cases hb:o.qty≤a
   ·rw[if_pos hb]at h
    have hx:x.id≠o.id:=by
     intro e;have hm:x∈ZK s (a-o.qty):=by rw[h];simp
     obtain⟨y,hy,hyi,_⟩:=Qq9 hm;exact hn.1 (List.mem_map.2 ⟨y,hy,hyi.trans e⟩)
    by_cases e:o.id=id
    ·rw[if_pos e,if_pos e,if_neg (by rw[←e];exact hx)]
     unfold Qt2;rw[if_neg (by omega),if_neg (by omega),if_neg (by omega),if_neg (by omega)];omega
    ·rw[if_neg e,if_neg e]
     have ih:=Qw8 id hs hn.2 (by omega) h h1 h2;rw[←ih]
     congr 1
     omega
   ·rw[if_neg hb]at h
    injection h with e1 e2
    subst e1;have e3:(U9 o a).qty=o.qty-a:=rfl;have e4:(U9 o a).id=o.id:=rfl;rw[e3]at h2;rw[e4]
    by_cases e:o.id=id
    ·rw[if_pos e,if_pos e,if_pos e]
     unfold Qt2;rw[if_neg (show¬a+n≤0 by omega),if_neg ha,if_pos (show a<o.qty by omega)]
     split<;>omega
    ·rw[if_neg e,if_neg e,if_neg e,Y0 id s (by omega) hs,Y0 id s (by omega) hs]
     rfl
theorem Kh8 {pre:List QX} {o:QX} {post:List QX}: ∀ {a:Int},((pre++o::post).map (·.id)).Nodup→Y7 (pre++o::post) a o.id=Qt2 (a-Jx6 pre) o.qty:=by
 induction pre with
 |nil=>
  intro a h;show Y7 (o::post) a o.id=Qt2 (a-0) o.qty;unfold Y7;rw[if_pos rfl]
  congr 1
  omega
 |cons y pre ih=>
  intro a h;rw[List.cons_append,List.map_cons,List.nodup_cons]at h;have hne:y.id≠o.id:=fun e=>h.1 (List.mem_map.2 ⟨o,by simp,e.symm⟩)
  show Y7 (y:: (pre++o::post)) a o.id=_;unfold Y7;rw[if_neg hne,ih h.2];have e:Jx6 (y::pre)=y.qty+Jx6 pre:=rfl;rw[e]
  congr 1
  omega
theorem Xg5 (s p:Int) (l l':List QX):V8 s p (l++l')=V8 s p l+V8 s p l':=Qw7 l l'
theorem Xa2 {s p:Int} {L:List QX} (h: ∀o∈L,1≤o.qty):V8 s p L≤Jx6 L:=by
 refine Kv4 fun o ho=> ?_
 have:=h o ho
 split<;>omega
theorem Jj9 {s p:Int} {x:QX}: ∀ {L:List QX} {a:Int},Qg1 s L→(∀o∈L,1≤o.qty)→x∈ZK L a→O3 s p x=true→a+1≤V8 s p L
 | [],a,_,_,h,_=>by cases h
 |o::t,a,hr,hq,h,hw=>by
  have ho:=hq o (by simp);have ht: ∀o∈t,1≤o.qty:=fun y hy=>hq y (by simp[hy])
  have hr':=List.pairwise_cons.1 hr;have hnn: ∀l:List QX,(∀o∈l,1≤o.qty)→ ∀y∈l,0≤(if O3 s p y=true then y.qty else 0):=fun l hl y hy=>by
   have:=hl y hy
   split<;>omega
  have e:V8 s p (o::t)=(if O3 s p o=true then o.qty else 0)+V8 s p t:=rfl;have h0:0≤V8 s p t:=Jm8 (hnn t ht);unfold ZK at h
  by_cases ha:a≤0
  ·rw[if_pos ha]at h
   have h1:=Ko2 (hnn (o::t) hq) h;rw[if_pos hw]at h1;have h2:=hq x h;show a+1≤Qb4 _ _;omega
  ·rw[if_neg ha]at h
   by_cases hb:o.qty≤a
   ·rw[if_pos hb]at h
    have ih:=Jj9 hr'.2 ht h hw;have hwo:O3 s p o=true:=by
     obtain⟨y,hy,h1,h2,h3,h4,h5⟩:=Qq9 h;refine hr'.1 y hy p ?_;unfold O3 at hw⊢;rw[h3,h4];exact hw
    rw[e,if_pos hwo];omega
   ·rw[if_neg hb]at h
    have hwo:O3 s p o=true:=by
     rcases List.mem_cons.1 h with rfl|h
     ·exact hw
     ·exact hr'.1 x h p hw
    rw[e,if_pos hwo];omega
structure JV where
 b:Int
 s:Int
 p:Int
 n:Int
def I2 (g:JV→Int):List JV→Int
 | []=>0
 |f::l=>g f+I2 g l
theorem Jk0 (g:JV→Int) (l:List JV) (f:JV):I2 g (l++ [f])=I2 g l+g f:=by
 induction l with
 |nil=>simp[I2]
 |cons a l ih=>simp only[List.cons_append,I2,ih];omega
structure Ql0 (L1 L2:List QX) (p a:Int) (F:List JV):Prop where
 one: ∀f∈F,f.p=p∧1≤f.n∧(∃o∈L1,o.id=f.b)∧(∃o∈L2,o.id=f.s)
 sum:I2 (·.n) F=a
 buy: ∀id,I2 (fun f=>if f.b=id then f.n else 0) F=Y7 L1 a id
 sell: ∀id,I2 (fun f=>if f.s=id then f.n else 0) F=Y7 L2 a id
 len:(F.length:Int)≤a
theorem Ql0.start {L1 L2:List QX} {p:Int} (h1: ∀o∈L1,1≤o.qty) (h2: ∀o∈L2,1≤o.qty):Ql0 L1 L2 p 0 []:=
 ⟨fun f hf=>(by cases hf),rfl,fun id=>(Y0 id L1 (Int.le_refl _) h1).symm,fun id=>(Y0 id L2 (Int.le_refl _) h2).symm,by simp⟩
theorem Ql0.step {L1 L2:List QX} {p a n:Int} {F:List JV} (h:Ql0 L1 L2 p a F) (h1: ∀o∈L1,1≤o.qty) (h2: ∀o∈L2,1≤o.qty) (d1:(L1.map (·.id)).Nodup) (d2:(L2.map (·.id)).Nodup) (h0:0≤a)
  {x y:QX} {t u:List QX} (hx:ZK L1 a=x::t) (hy:ZK L2 a=y::u) (hn:1≤n) (hnx:n≤x.qty) (hny:n≤y.qty):Ql0 L1 L2 p (a+n) (F++ [⟨x.id,y.id,p,n⟩]):=by
 refine⟨?_, ?_, ?_, ?_, ?_⟩
 ·intro f hf
  rcases List.mem_append.1 hf with hf|hf
  ·exact h.one f hf
  ·rw[List.mem_singleton]at hf
   subst hf;obtain⟨o,ho,e,_⟩:=Qq9 (show x∈ZK L1 a by rw[hx];simp);obtain⟨o',ho',e',_⟩:=Qq9 (show y∈ZK L2 a by rw[hy];simp);exact⟨rfl,hn,⟨o,ho,e⟩,o',ho',e'⟩
 ·rw[Jk0,h.sum]
 ·intro id
  rw[Jk0,h.buy,Qw8 id h1 d1 h0 hx hn hnx]
 ·intro id
  rw[Jk0,h.sell,Qw8 id h2 d2 h0 hy hn hny]
 ·have:=h.len
  rw[List.length_append];simp;omega
theorem Qr0 (s:Int) (L:List QX) (o:QX):(Qs4 s L o).Perm (o::L):=by
 unfold Qs4
 refine List.perm_middle.trans ?_
 rw[List.takeWhile_append_dropWhile]
structure Jm9 (x L1 L2:List QX):Prop where
 r1:Qg1 1 L1
 r2:Qg1 2 L2
 perm:(L1++L2).Perm (x.map JJ)
 s1: ∀o∈L1,o.side=1
 s2: ∀o∈L2,o.side=2
theorem Jm9.nil:Jm9 [] [] []:=⟨List.Pairwise.nil,List.Pairwise.nil,List.Perm.refl _,fun o h=>(by cases h),fun o h=>(by cases h)⟩
theorem Jm9.add {x L1 L2:List QX} (h:Jm9 x L1 L2) {o:QX} (hs:VV o.side):Jm9 (x++ [o]) (Qb8 1 L1 o) (Qb8 2 L2 o):=by
 rcases hs with hs|hs
 ·have e1:Qb8 1 L1 o=Qs4 1 L1 (JJ o):=by unfold Qb8;rw[if_pos hs]
  have e2:Qb8 2 L2 o=L2:=by unfold Qb8;rw[if_neg (by omega)]
  rw[e1,e2];refine⟨Qt1 (.inl rfl) h.r1 _,h.r2, ?_,fun y hy=> ?_,h.s2⟩
  ·rw[List.map_append]
   exact((Qr0 1 L1 (JJ o)).append_right L2).trans ((h.perm.cons (JJ o)).trans (List.perm_append_singleton _ _).symm)
  ·rcases Qq4.1 hy with rfl|hy
   ·exact hs
   ·exact h.s1 y hy
 ·have e1:Qb8 1 L1 o=L1:=by unfold Qb8;rw[if_neg (by omega)]
  have e2:Qb8 2 L2 o=Qs4 2 L2 (JJ o):=by unfold Qb8;rw[if_pos hs]
  rw[e1,e2];refine⟨h.r1,Qt1 (.inr rfl) h.r2 _, ?_,h.s1,fun y hy=> ?_⟩
  ·rw[List.map_append]
   exact((Qr0 2 L2 (JJ o)).append_left L1).trans (List.perm_middle.trans ((h.perm.cons (JJ o)).trans (List.perm_append_singleton _ _).symm))
  ·rcases Qq4.1 hy with rfl|hy
   ·exact hs
   ·exact h.s2 y hy
structure Kc2 (x:List QX):Prop where
 id: ∀i (h:i<x.length),x[i].id=i+1
 ok: ∀o∈x,okO o=true
 price: ∀o∈x,1≤o.price∧o.price≤60
 len:x.length≤60
theorem Jm9.of {x L1 L2:List QX} {k:Nat} (h:Jm9 (x.take k) L1 L2) {o:QX} (ho:o∈L1++L2): ∃i,∃hi:i<x.length,i<k∧o=JJ x[i]:=by
 obtain⟨y,hy,rfl⟩:=List.mem_map.1 (h.perm.mem_iff.1 ho)
 obtain⟨i,hi,rfl⟩:=List.mem_iff_getElem.1 hy
 rw[List.length_take]at hi
 exact⟨i,by omega,by omega,by rw[List.getElem_take]⟩
theorem Kc2.side {x:List QX} (h:Kc2 x) {o:QX} (ho:o∈x):VV o.side:=by
 have:=h.ok o ho
 unfold okO at this
 simp at this
 exact this.2
theorem Kc2.add {x L1 L2:List QX} {k:Nat} (h:Kc2 x) (hb:Jm9 (x.take k) L1 L2) (hk:k<x.length):Qk9 L1 L2 x[k]=0:=by
 have hm:x[k]∈x:=List.getElem_mem _
 have h1:Jb1 x[k]=true:=Qd8.2 ⟨h.side hm,by rw[h.id k hk];omega⟩
 have h2:Qq6 x[k]=true:=by
  have h3:=h.price _ hm;have h4:=h.ok _ hm;unfold okO at h4;simp at h4;unfold Qq6;rw[V5];refine⟨?_, ?_,h4.1.1,h4.1.2⟩
  ·unfold JJ;dsimp only;split<;>omega
  ·unfold JJ;dsimp only;split<;>omega
 have h3:Qb3 (L1++L2) x[k].id=none:=by
  unfold Qb3;rw[List.find?_eq_none];intro o ho;obtain⟨i,hi,hik,rfl⟩:=hb.of ho;have e1:(JJ x[i]).id=x[i].id:=rfl;have e2:=h.id i hi;have e3:=h.id k hk;rw[e1,e2,e3];simp;omega
 have h4:L1.length+L2.length=k:=by
  have:=hb.perm.length_eq;rw[List.length_append,List.length_map,List.length_take]at this;omega
 unfold Qk9
 rw[if_neg (by rw[h1];decide),if_neg (by rw[h2];decide),h3,if_neg (by decide),if_neg (by have:=h.len;omega)]
end Go.Proofs.YtnlngicnfegjgaaGreatDoor
