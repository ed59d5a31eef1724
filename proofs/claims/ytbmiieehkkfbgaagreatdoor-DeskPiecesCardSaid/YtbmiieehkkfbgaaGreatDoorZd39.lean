/- Contracts and walks that the law's proof needs. -/
import Derived.WalkKit
import Derived.WalkLawsBesides
import Derived.WalkSpells
import Derived.StillTailTactics
import Derived.Deep.QuietTactic
import Derived.BigQuiet
import Derived.Deep.LoopGhost
import Derived.Deep.DeepCutAuto
import Derived.Deep.CutBlock
import Derived.Test.YtbmiieehkkfbgaaGreatDoorZd37
import Derived.Test.YtbmiieehkkfbgaaGreatDoorZd30
import Derived.Test.YtbmiieehkkfbgaaGreatDoorZd2
set_option linter.unusedVariables false
set_option maxRecDepth 100000
set_option maxHeartbeats 8000000
namespace Go.Proofs.YtbmiieehkkfbgaaGreatDoor
open Go.RowKit
theorem Za4 {w:World} {e:Nat} {F:Nat→Prop} {m:VQ} (h:YQ w e F m) (hI:Qn2 m) (oi ok op oq:Int) (hf:Qf4 ⟨oi,2,ok,op,oq⟩) (hq:0≤oq):
  Calls Tryz.prog 117 #[.pointer (some ⟨e,0,none⟩),KJ ⟨oi,2,ok,op,oq⟩] w fun ev w'=>ZY w w' e F (fun Fs=>Fs=(Q6 m ⟨oi,2,ok,op,oq⟩).fills) (Z8 m ⟨oi,2,ok,op,oq⟩) ev:=by
 obtain⟨cs,tb,bb,bk,im,T,tc,Al,lc,lv,bu,se,Ap,pc,es,mc,G,own,hM,hF⟩:=h
 have hle:=Xg2 (al:=fun la p=>I5 m.st m.dy m.an la p) (tr:=fun _ p=>p) (JY (3-2) m.L1 m.L2) ⟨oi,2,ok,op,oq⟩ m.la hf hq (Xm2 hM.book.lists _)
 have hins:=Xw0 hM.book.lists ⟨oi,2,ok,op,oq⟩
 have hlen:=Xv9 hM.book.lists ⟨oi,2,ok,op,oq⟩
 have hr0:VX (fun la p=>I5 m.st m.dy m.an la p) (fun _ p=>p) (JY (3-2) m.L1 m.L2) ⟨oi,2,ok,op,oq⟩ m.la=Q6 m ⟨oi,2,ok,op,oq⟩:=rfl
 rw[hr0]at hle
 obtain⟨r,hr⟩: ∃r,Q6 m ⟨oi,2,ok,op,oq⟩=r:=⟨_,rfl⟩
 rw[hr]at hle hins hlen
 obtain⟨fl,⟨i1,i2,i3,i4,i5⟩,sp,st,rst⟩:=r
 dsimp only at hle hins hlen
 have HR:=QQ hr
 have HLe:=QQ hle.1
 have HIns:=QQ hins
 have HLen:=QQ hlen
 have HI:=QQ hI
 have HF:=QQ hF
 have HLs:=QQ hM.book.lists
 have HFew:Hid (lv.length≤100):=QQ (by have h1:=hM.is.few hM.ind.ok;have h2:=hM.book.lists.cnt;unfold Qa4 at h1;omega)
 clear hr0 hr hle hins hlen hI hF
 have hqv:Below w.heap.size w (w.alloc (.cells #[.pointer (some ⟨e,0,none⟩)] 27)):=(Below.refl _ w).alloc (Nat.le_refl _) _
 have hv:=QJ.new w 27 #[.pointer (some ⟨e,0,none⟩)]
 obtain⟨w0,ew0⟩: ∃W,w.alloc (.cells #[.pointer (some ⟨e,0,none⟩)] 27)=W:=⟨_,rfl⟩
 rw[ew0]at hqv hv
 have hqx:Below w0.heap.size w0 (w0.alloc (.cells #[.int .i64 oi,.int .i64 2,.int .i64 ok,.int .i64 op,.int .i64 oq] 117)):=(Below.refl _ w0).alloc (Nat.le_refl _) _
 have hx:=QJ.new w0 117 #[.int .i64 oi,.int .i64 2,.int .i64 ok,.int .i64 op,.int .i64 oq]
 obtain⟨w1,ew1⟩: ∃W,w0.alloc (.cells #[.int .i64 oi,.int .i64 2,.int .i64 ok,.int .i64 op,.int .i64 oq] 117)=W:=⟨_,rfl⟩
 rw[ew1]at hqx hx
 have hvx:QJ w1 w.heap.size 27 #[.pointer (some ⟨e,0,none⟩)]:=QJ.keep hv hqx
 have hb1:Below w.heap.size w w1:=hqv.trans (hqx.mono hqv.size)
 have hM1:=hM.below hb1
 have hnv:(∀k,¬own w.heap.size k)∧(∀k,¬own w0.heap.size k)∧w.heap.size≠w0.heap.size:=by
  have l1:=QJ.lt hv;exact⟨fun k hk=>by have:=hM.ok.lt _ k hk;omega,fun k hk=>by have:=hM.ok.lt _ k hk;omega,by omega⟩
 obtain⟨V,eV⟩: ∃g,w.heap.size=g:=⟨_,rfl⟩
 obtain⟨X,eX⟩: ∃g,w0.heap.size=g:=⟨_,rfl⟩
 have hVl:w.heap.size≤V:=by omega
 rw[eV]at hvx hnv
 rw[eX]at hx hnv
 have HM1:=QQ hM1
 have HV:=QQ hvx
 have HX:=QQ hx
 have HNV:=QQ hnv
 have HB1:=QQ hb1
 have HVl:=QQ hVl
 have c8:=hM1.cell hM1.ec.c8
 have c7:=hM1.cell hM1.ec.c7
 have v0:w1.cell? ⟨V,0,none⟩=some (.pointer (some ⟨e,0,none⟩)):=by rw[QJ.cell hvx];rfl
 obtain⟨x0,x1,x2,x3,x4⟩:=U9 hx
 have hcall: ∀W,Below w1.heap.size w1 W→Calls Tryz.prog 143 #[.pointer (some ⟨bk,0,none⟩),.agg #[.int .i64 oi,.int .i64 2,.int .i64 ok,.int .i64 op,.int .i64 oq],.func (.func 144) #[.pointer (some ⟨bb,0,none⟩)] #[],.func (.func 145) #[] #[.pointer (some ⟨V,0,none⟩)]] W fun ev w'=> ∃A c F' M1 M2,ev= .returned (.tuple #[.slice A (List.length fl) c,.agg #[.int .i64 i1,.int .i64 i2,.int .i64 i3,.int .i64 i4,.int .i64 i5],.bool sp])∧Qi9 (Ko7 e bb bk V cs m.st m.dy m.an) W w' st (kF G bb e V) F' M1 M2 A c fl∧JY 2 M1 M2=JY 2 m.L1 m.L2∧JY (3-2) M1 M2=rst:=by
  intro W hb;have hW:=HM1.out.below hb;have u: ∀ {i k k':Nat},own i k→own i k'→k=k':=fun a b=>hW.ok.uni _ _ _ a b
  have hk:Ko7 e bb bk V cs m.st m.dy m.an m.la m.L1 m.L2 (kF G bb e V) W:=⟨G,hW.book,hW.bands,hW.ind.blk,QJ.keep HV.out hb,fun i=>Iff.rfl,fun x=>absurd (u (hW.oG _ x) hW.ob) (by decide),fun x=>absurd (u (hW.oG _ x) hW.oe) (by decide),fun x=>HNV.out.1 _ (hW.oG _ x),fun x=>absurd (u hW.ob (x▸hW.oe)) (by decide),fun x=>HNV.out.1 3 (x▸hW.ob),hW.ec.c7⟩;have hc:=Qy8 (Xg1 e bb bk V cs m.st m.dy m.an) (fun hk sd hs=>by obtain⟨G',hk⟩:=hk;exact Qb9 _ bk G' _ _ hk.book sd hs) W m.la (kF G bb e V) m.L1 m.L2 hk rfl oi 2 ok op oq ZJ hf;refine hc.mono ?_;rintro ev w' ⟨A,c,F',M1,M2,he,hmm,hs1,hs2⟩;have hr:VX (fun la p=>I5 m.st m.dy m.an la p) (fun _ p=>p) (JY (3-2) m.L1 m.L2) ⟨oi,2,ok,op,oq⟩ m.la=⟨fl,⟨i1,i2,i3,i4,i5⟩,sp,st,rst⟩:=HR.out;rw[hr]at he hmm hs2;exact⟨A,c,F',M1,M2,he,hmm,hs1,hs2⟩
 have HMt:=QQ hcall
 clear hcall hM hM1 hqv hv hqx hx hvx hb1 hnv hVl hf hq
 unfold KJ
 dsimp only
 go_enter Tryz.func117,Tryz.ntmps117
 go_upto_region 1 with fail
 try rw[ew0]
 try rw[ew1]
 try rw[eV]
 try rw[eX]
 clear ew0 ew1 eV eX
 go_cut [5,6,7] (fun s5 s6 s7 wx=> ∃A c Y G2,s5= .slice A (List.length fl) c∧s6= .pointer (some ⟨Y,0,none⟩)∧s7= .bool sp∧QJ wx Y 117 #[.int .i64 i1,.int .i64 i2,.int .i64 i3,.int .i64 i4,.int .i64 i5]∧Ko8 (Qs2 w1 own G2 4) V X A Y∧Qm8 w1 wx e tb bb bk im V X cs T tc Al lc lv bu se Ap pc es mc own (fun s q=>Q3 s q (Qa4 m)) A c fl #[.int .i64 oi,.int .i64 2,.int .i64 ok,.int .i64 op,.int .i64 oq] (Qa5 m ⟨oi,2,ok,op,oq⟩) G2)
 case first=>
  refine XY (fun t=> [].contains t) (fun W=>W.cell? ⟨V,0,none⟩=some (.pointer (some ⟨e,0,none⟩))∧W.cell? ⟨e,8,none⟩=some (.pointer (some ⟨bk,0,none⟩))∧W.cell? ⟨e,7,none⟩=some (.pointer (some ⟨bb,0,none⟩))∧W.cell? ⟨X,0,none⟩=some (.int .i64 oi)∧W.cell? ⟨X,1,none⟩=some (.int .i64 2)∧W.cell? ⟨X,2,none⟩=some (.int .i64 ok)∧W.cell? ⟨X,3,none⟩=some (.int .i64 op)∧W.cell? ⟨X,4,none⟩=some (.int .i64 oq)) (by kernel_rfl) ⟨v0,c8,c7,x0,x1,x2,x3,x4⟩ (fun hS0=> ?_);refine tM 0 (.pointer (some ⟨e,0,none⟩)) ?_;refine tM 1 (.pointer (some ⟨e,0,none⟩)) ?_;refine tM 2 (.pointer (some ⟨e,8,none⟩)) ?_;refine tM 3 (.pointer (some ⟨bk,0,none⟩)) ?_;refine tM 4 (.agg #[.int .i64 oi,.int .i64 2,.int .i64 ok,.int .i64 op,.int .i64 oq]) ?_;refine tM 5 (.pointer (some ⟨e,0,none⟩)) ?_;refine tM 6 (.pointer (some ⟨e,0,none⟩)) ?_;refine tM 7 (.pointer (some ⟨e,7,none⟩)) ?_;refine tM 8 (.pointer (some ⟨bb,0,none⟩)) ?_;refine tM 9 (.func (.func 144) #[.pointer (some ⟨bb,0,none⟩)] #[]) ?_;refine tM 10 (.func (.func 145) #[] #[.pointer (some ⟨V,0,none⟩)]) ?_;refine Jn2 (i:=11) (j:=16) (by kernel_rfl) ?_ ?_
  ·skip
   refine opM 11 rfl (fun K1 hK1=> ?_);go_simp;refine(HMt.out w1.drew (Below.drew (Below.refl _ _))).mono ?_;rintro ev w4 ⟨A,c,F',M1,M2,rfl,hmm,hs1,hs2⟩;obtain⟨G2,h4,ho4⟩:=Qu7 HM1.out HV.out HX.out HNV.out (Below.drew (Below.refl _ w1)) ZJ HR.out hmm hs1 hs2;have hS4:=h4.cells;refine hK1 _ _ (fun _=>hS4) ?_;clear hK1 hS0;refine tM 12 (.tuple #[.slice A (List.length fl) c,.agg #[.int .i64 i1,.int .i64 i2,.int .i64 i3,.int .i64 i4,.int .i64 i5],.bool sp]) ?_;refine tM 13 (.slice A (List.length fl) c) ?_;refine tM 14 (.agg #[.int .i64 i1,.int .i64 i2,.int .i64 i3,.int .i64 i4,.int .i64 i5]) ?_;refine tM 15 (.bool sp) ?_;refine oM 16 fun K2 hK2=> ?_
   go_simp;have hq5:Below w4.heap.size w4 (w4.alloc (.cells #[.int .i64 0,.int .i64 0,.int .i64 0,.int .i64 0,.int .i64 0] 117)):=(Below.refl _ _).alloc (Nat.le_refl _) _;have hy5:=QJ.new w4 117 #[.int .i64 0,.int .i64 0,.int .i64 0,.int .i64 0,.int .i64 0];obtain⟨Y,eY⟩: ∃g,w4.heap.size=g:=⟨_,rfl⟩;have hYn4:w4.heap.size≤Y:=Nat.le_of_eq eY;have hYn:w1.heap.size≤Y:=Nat.le_trans h4.keep.size hYn4;obtain⟨w5,ew5⟩: ∃W,w4.alloc (.cells #[.int .i64 0,.int .i64 0,.int .i64 0,.int .i64 0,.int .i64 0] 117)=W:=⟨_,rfl⟩;rw[ew5]at hq5 hy5⊢;rw[eY]at hy5⊢;have h5:=h4.below hq5;refine hK2 _ _ (fun _=>h5.cells) ?_;have hS5:=h5.cells;clear hK2 ew5 eY hS4;refine tM 17 (.slice A (List.length fl) c) ?_;refine oM 18 fun K5 hK5=> ?_
   refine(if_pos (by rfl)).mpr ?_;refine wp_store_row 117 _ _ rfl Y #[.int .i64 i1,.int .i64 i2,.int .i64 i3,.int .i64 i4,.int .i64 i5] rfl rfl 117 #[.int .i64 0,.int .i64 0,.int .i64 0,.int .i64 0,.int .i64 0] hy5 (by show(Tryz.prog.info? 117).map (·.size)=some 5;kernel_rfl) rfl (by simp[Value.oneCell']) ?_;have hy6:=QJ.setRow _ _ _ #[.int .i64 i1,.int .i64 i2,.int .i64 i3,.int .i64 i4,.int .i64 i5] _ hy5;have hk6:=QK.setRow w5 Y #[.int .i64 i1,.int .i64 i2,.int .i64 i3,.int .i64 i4,.int .i64 i5];obtain⟨w6,ew6⟩: ∃W,w5.setRow Y #[.int .i64 i1,.int .i64 i2,.int .i64 i3,.int .i64 i4,.int .i64 i5]=W:=⟨_,rfl⟩;rw[ew6]at hy6 hk6⊢;have h6:=h5.keepY hk6 (h4.far hYn4) hYn;refine hK5 _ _ (fun _=>h6.cells) ?_;have hS6:=h6.cells;clear hK5 ew6;simp only[Act.put];refine tM 19 (.bool sp) ?_;refine VJ (by kernel_rfl) ?_ _;go_wp2_with fail
   go_meet;exact⟨A,c,Y,G2,rfl,rfl,rfl,hy6,(h4.far hYn4),h6⟩
  ·skip
   refine opM 16 rfl (fun K1 hK1=> ?_);go_simp;have hq4:Below w1.heap.size w1 (w1.alloc (.cells #[.int .i64 0,.int .i64 0,.int .i64 0,.int .i64 0,.int .i64 0] 117)).drew:=Below.drew ((Below.refl _ _).alloc (Nat.le_refl _) _);have hy4:=QJ.drew (QJ.new w1 117 #[.int .i64 0,.int .i64 0,.int .i64 0,.int .i64 0,.int .i64 0]);obtain⟨Y,eY⟩: ∃g,w1.heap.size=g:=⟨_,rfl⟩;have hYn:w1.heap.size≤Y:=Nat.le_of_eq eY;obtain⟨w4,ew4⟩: ∃W,(w1.alloc (.cells #[.int .i64 0,.int .i64 0,.int .i64 0,.int .i64 0,.int .i64 0] 117)).drew=W:=⟨_,rfl⟩;rw[ew4]at hq4 hy4⊢;rw[eY]at hy4⊢;have hS4:(fun W:World=>W.cell? ⟨V,0,none⟩=some (.pointer (some ⟨e,0,none⟩))∧W.cell? ⟨e,8,none⟩=some (.pointer (some ⟨bk,0,none⟩))∧W.cell? ⟨e,7,none⟩=some (.pointer (some ⟨bb,0,none⟩))∧W.cell? ⟨X,0,none⟩=some (.int .i64 oi)∧W.cell? ⟨X,1,none⟩=some (.int .i64 2)∧W.cell? ⟨X,2,none⟩=some (.int .i64 ok)∧W.cell? ⟨X,3,none⟩=some (.int .i64 op)∧W.cell? ⟨X,4,none⟩=some (.int .i64 oq)) w4:=⟨QV v0 hq4,QV c8 hq4,QV c7 hq4,QV x0 hq4,QV x1 hq4,QV x2 hq4,QV x3 hq4,QV x4 hq4⟩;refine hK1 _ _ (fun _=>hS4) ?_;clear hK1 ew4 eY hS0;refine oM 11 fun K2 hK2=> ?_
   go_simp;refine(HMt.out w4 hq4).mono ?_;rintro ev w5 ⟨A,c,F',M1,M2,rfl,hmm,hs1,hs2⟩;obtain⟨G2,h5,ho5⟩:=Qu7 HM1.out HV.out HX.out HNV.out hq4 ZJ HR.out hmm hs1 hs2;have hy5:=ho5 _ _ _ hy4 hYn;have hS5:=h5.cells;refine hK2 _ _ (fun _=>hS5) ?_;clear hK2 hS4;refine tM 12 (.tuple #[.slice A (List.length fl) c,.agg #[.int .i64 i1,.int .i64 i2,.int .i64 i3,.int .i64 i4,.int .i64 i5],.bool sp]) ?_;refine tM 13 (.slice A (List.length fl) c) ?_;refine tM 14 (.agg #[.int .i64 i1,.int .i64 i2,.int .i64 i3,.int .i64 i4,.int .i64 i5]) ?_;refine tM 15 (.bool sp) ?_;refine tM 17 (.slice A (List.length fl) c) ?_;refine oM 18 fun K5 hK5=> ?_
   refine(if_pos (by rfl)).mpr ?_;refine wp_store_row 117 _ _ rfl Y #[.int .i64 i1,.int .i64 i2,.int .i64 i3,.int .i64 i4,.int .i64 i5] rfl rfl 117 #[.int .i64 0,.int .i64 0,.int .i64 0,.int .i64 0,.int .i64 0] hy5.1 (by show(Tryz.prog.info? 117).map (·.size)=some 5;kernel_rfl) rfl (by simp[Value.oneCell']) ?_;have hy6:=QJ.setRow _ _ _ #[.int .i64 i1,.int .i64 i2,.int .i64 i3,.int .i64 i4,.int .i64 i5] _ hy5.1;have hk6:=QK.setRow w5 Y #[.int .i64 i1,.int .i64 i2,.int .i64 i3,.int .i64 i4,.int .i64 i5];obtain⟨w6,ew6⟩: ∃W,w5.setRow Y #[.int .i64 i1,.int .i64 i2,.int .i64 i3,.int .i64 i4,.int .i64 i5]=W:=⟨_,rfl⟩;rw[ew6]at hy6 hk6⊢;have h6:=h5.keepY hk6 hy5.2 hYn;refine hK5 _ _ (fun _=>h6.cells) ?_;have hS6:=h6.cells;clear hK5 ew6;simp only[Act.put];refine tM 19 (.bool sp) ?_;refine VJ (by kernel_rfl) ?_ _;go_wp2_with fail
   go_meet;exact⟨A,c,Y,G2,rfl,rfl,rfl,hy6,hy5.2,h6⟩
 case rest=>
  obtain⟨A,c,Y,G2,rfl,rfl,rfl,hyb,hfar,hma⟩:=hcut;have HL0:Hid (Xh1 w wc e tb bb bk im V X Y T tc Ap pc es mc own A c fl #[.int .i64 oi,.int .i64 2,.int .i64 ok,.int .i64 op,.int .i64 oq] #[.int .i64 i1,.int .i64 i2,.int .i64 i3,.int .i64 i4,.int .i64 i5] (Qa5 m ⟨oi,2,ok,op,oq⟩) 2 0):=by
   have hfl:(Q6 m ⟨oi,2,ok,op,oq⟩).fills=fl:=by rw[HR.out]
   rw[←hfl]at hma;have h1:=hma.loop HB1.out HVl.out HLs.out ZJ HFew.out hyb hfar;rw[hfl]at h1;exact QQ h1
  have HLx:Hid ((Q6 m ⟨oi,2,ok,op,oq⟩).left=⟨i1,i2,i3,i4,i5⟩∧(Q6 m ⟨oi,2,ok,op,oq⟩).stop=sp∧(Q6 m ⟨oi,2,ok,op,oq⟩).fills=fl):=QQ (by rw[HR.out];exact⟨rfl,rfl,rfl⟩);obtain⟨m1,hm1⟩: ∃M,Qa5 m ⟨oi,2,ok,op,oq⟩=M:=⟨_,rfl⟩;rw[hm1]at HL0;have HM0:=QQ hm1;clear hyb hfar hma v0 c8 c7 x0 x1 x2 x3 x4 HMt HM1 HV HX HNV HFew HR hm1;obtain⟨n,hn⟩: ∃n,fl.length=n:=⟨_,rfl⟩;rw[hn]at HLen⊢;have HN:=QQ hn;have hn100:=HLen.out;clear hn;go_wp2_with fail
  go_loopg [29] n (fun gg s29 wr=> ∃k:Nat,k≤n∧gg=n-k∧s29= .int .i64 k∧Hid (Xh1 w wr e tb bb bk im V X Y T tc Ap pc es mc own A c fl #[.int .i64 oi,.int .i64 2,.int .i64 ok,.int .i64 op,.int .i64 oq] #[.int .i64 i1,.int .i64 i2,.int .i64 i3,.int .i64 i4,.int .i64 i5] m1 2 k))
  case atStart=>exact⟨0,Nat.zero_le _,rfl,rfl,HL0⟩
  case round=>
   obtain⟨k,hk,rfl,rfl,HL⟩:=hrel;clear HL0;obtain⟨cs2,Al2,lc2,lv2,bu2,se2,G2',own2,hL⟩:=HL.out;have HL2:=QQ hL;clear HL
   by_cases hlt:k<n
   ·have hkl:k<fl.length:=by rw[HN.out];exact hlt
    obtain⟨ga,hga⟩:=Qc1 hL.row.row (by omega);subst hga;obtain⟨y0,y1,y2,y3⟩:=Jz4 hL.row.row hkl;obtain⟨⟨fb,fs,fp,fn⟩,hfe⟩: ∃f,fl[k]=f:=⟨_,rfl⟩;rw[hfe]at y0 y1 y2 y3;have HFe:Hid (fl[k]'hkl=⟨fb,fs,fp,fn⟩):=QQ hfe;have hltz:(k:Int)< (n:Int):=by omega
    have hk7:(0:Int)≤(k:Int):=by omega
    obtain⟨v0,x1,-,-,-,-,-⟩:=hL.cells;have hbp:Below wr.heap.size wr (wr.alloc (.cells #[.int .i64 fb,.int .i64 fs,.int .i64 fp,.int .i64 fn] 145)):=(Below.refl _ wr).alloc (Nat.le_refl _) _;have hP:=QJ.new wr 145 #[.int .i64 fb,.int .i64 fs,.int .i64 fp,.int .i64 fn];obtain⟨wp,ewp⟩: ∃W,wr.alloc (.cells #[.int .i64 fb,.int .i64 fs,.int .i64 fp,.int .i64 fn] 145)=W:=⟨_,rfl⟩;obtain⟨P,eP⟩: ∃g,wr.heap.size=g:=⟨_,rfl⟩;rw[ewp]at hbp hP;rw[eP]at hP;obtain⟨p0,p1,p2,p3⟩:=Xu6 hP;have hbz:Below wp.heap.size wp (wp.alloc (.cells #[.int .i64 0,.int .i64 2,.int .i64 1,.int .i64 fp,.int .i64 fn] 117)):=(Below.refl _ wp).alloc (Nat.le_refl _) _;have hZ:=QJ.new wp 117 #[.int .i64 0,.int .i64 2,.int .i64 1,.int .i64 fp,.int .i64 fn];obtain⟨wz,ewz⟩: ∃W,wp.alloc (.cells #[.int .i64 0,.int .i64 2,.int .i64 1,.int .i64 fp,.int .i64 fn] 117)=W:=⟨_,rfl⟩;obtain⟨Z,eZ⟩: ∃g,wp.heap.size=g:=⟨_,rfl⟩;rw[ewz]at hbz hZ;rw[eZ]at hZ;have hbw:Below wr.heap.size wr wz:=hbp.trans (hbz.mono hbp.size);have hZl:wr.heap.size≤Z:=by have:=hbp.size;omega
    have HBw:=QQ hbw;have HZl:=QQ hZl;have HZ:=QQ hZ;clear hbp hP hbz hbw hZ hL hZl;go_upto_region 5 with fail
    try rw[ewp]
    try rw[eP]
    clear ewp eP y0 y1 y2 y3;go_upto_region 6 with fail
    try rw[ewz]
    try rw[eZ]
    clear ewz eZ p0 p1 p2 p3;have v0:=QV v0 HBw.out;have x1:=QV x1 HBw.out;have z1:=(U9 HZ.out).2.1;have zf:=QJ.frozen HZ.out 1;go_upto_region 8 with fail
    have HZ2:=QQ (QJ.set_ HZ.out 1 (.int .i64 1));have HQ:Hid (Below wr.heap.size wr (wz.setCell ⟨Z,1,none⟩ (.int .i64 1))):=QQ (HBw.out.trans ((QK.set_ wz ⟨Z,1,none⟩ (.int .i64 1)).below (fun i e=>e▸HZl.out) HBw.out.size));have v0:=QV (HL2.out.cells).1 HQ.out;have x1:=QV (HL2.out.cells).2.1 HQ.out;obtain⟨wq,ewq⟩: ∃W,wz.setCell ⟨Z,1,none⟩ (.int .i64 1)=W:=⟨_,rfl⟩;rw[ewq]at HQ HZ2 v0 x1⊢;clear ewq HZ HBw z1 zf;obtain⟨z0,z1,z2,z3,z4⟩:=U9 HZ2.out;have hLq:=HL2.out.below (HQ.out.trans ((Below.drew (Below.refl _ wq)).mono HQ.out.size));have htake:=Jv7 wq.drew e 126 cs2 9 Al2 lc2 lv2 bu2 se2 hLq.eng.ind (hLq.small HIns.out (by rw[HN.out];exact hn100) (by omega)) ⟨0,1,1,fp,fn⟩;unfold KJ at htake;have HTk:=QQ htake;have HLq:=QQ hLq;clear htake hLq HL2
    go_still_tail 4,(by kernel_rfl)
    change wpList _ _ _ _ _ wq.drew;go_wp2_with fail
    refine HTk.out.mono ?_;rintro ev w9 ⟨rfl,lv',bu',se',hit,htd⟩;have HNx:=QQ (HLq.out.next HIns.out hkl ZJ HFe.out hit htd);clear hit htd z0 z1 z2 z3 z4 v0 x1 HTk HLq;go_wp2_with fail
    go_roundg (n- (k+1))
    case measure=>omega
    case rel=>exact⟨k+1,by omega,rfl,by go_num,HNx⟩
   ·obtain rfl:k=n:=by omega
    have hltz: ¬(k:Int)< (k:Int):=by omega
    have HE0:=QQ (HL2.out.end_ HF.out (by rw[HN.out];exact Nat.le_refl _));obtain⟨v0,-,y0,y1,y2,y3,y4⟩:=hL.cells;obtain⟨F1,hF1⟩: ∃S,(fun i=> ∃j,own2 i j)=S:=⟨_,rfl⟩;rw[hF1]at HE0;clear hL HL2 hF1
    by_cases hq5:0<i5
    ·have d5:=J0 hq5
     by_cases hk3:i3=2
     ·have d3:=Z2 hk3
      have HS2:Hid (UK m ⟨oi,2,ok,op,oq⟩=m1):=QQ (by unfold UK;rw[HLx.out.1,if_neg (fun x=>x.2 hk3)];exact HM0.out)
      cases sp with
      |true=>
       have hme:=HE0.out.eng;rw[←HS2.out]at hme;have HVo:=QQ (Y3 hme ⟨by have:=(IY m ⟨oi,2,ok,op,oq⟩).1;have:=HI.out.now;omega,by have:=(IY m ⟨oi,2,ok,op,oq⟩).1;have:=HI.out.now;omega⟩ (by rw[(IY m ⟨oi,2,ok,op,oq⟩).2];exact HI.out.tk));clear hme;go_wp2_with fail
       refine HVo.out.mono ?_;rintro ev wf ⟨rfl,htv⟩;have hEe:=HE0.out;rw[←HS2.out]at hEe;obtain⟨F9,hE9⟩:=hEe.then_ htv;have HE9:=QQ hE9;clear htv hEe hE9 HVo;go_wp2_with fail
       go_ret;have e9:Z8 m ⟨oi,2,ok,op,oq⟩=Jj0 (UK m ⟨oi,2,ok,op,oq⟩):=by unfold Z8;rw[HLx.out.2.1,if_pos rfl]
       rw[e9,←HN.out];exact HE9.out.fills HLx.out.2.2.symm
      |false=>
       go_wp2_with fail
       go_ret;have e9:Z8 m ⟨oi,2,ok,op,oq⟩=(UK m ⟨oi,2,ok,op,oq⟩):=by unfold Z8;rw[HLx.out.2.1,if_neg (by decide)]
       rw[e9,HS2.out,←HN.out];exact HE0.out.fills HLx.out.2.2.symm
     ·have d3:=YW hk3
      have HS2:Hid (UK m ⟨oi,2,ok,op,oq⟩=Qf3 m1 ⟨i1,i2,i3,i4,i5⟩):=QQ (by unfold UK;rw[HLx.out.1,if_pos ⟨hq5,hk3⟩,HM0.out]);have HLi:=QQ (Jm0 wr e F1 m1 HE0.out.eng ⟨i1,i2,i3,i4,i5⟩ HLe.out);unfold KJ at HLi;go_wp2_with fail
      refine HLi.out.mono ?_;rintro ev w9 ⟨rfl,hto⟩;obtain⟨F2,hE2⟩:=HE0.out.then_ hto;have HE2:=QQ hE2;have v0:=(show w9.cell? ⟨V,0,none⟩=some (.pointer (some ⟨e,0,none⟩)) by rw[QJ.cell hE2.v.1];rfl);clear hto hE2 y0 y1 y2 y3 y4 HLi HE0
      cases sp with
      |true=>
       have hme:=HE2.out.eng;rw[←HS2.out]at hme;have HVo:=QQ (Y3 hme ⟨by have:=(IY m ⟨oi,2,ok,op,oq⟩).1;have:=HI.out.now;omega,by have:=(IY m ⟨oi,2,ok,op,oq⟩).1;have:=HI.out.now;omega⟩ (by rw[(IY m ⟨oi,2,ok,op,oq⟩).2];exact HI.out.tk));clear hme;go_wp2_with fail
       refine HVo.out.mono ?_;rintro ev wf ⟨rfl,htv⟩;have hEe:=HE2.out;rw[←HS2.out]at hEe;obtain⟨F9,hE9⟩:=hEe.then_ htv;have HE9:=QQ hE9;clear htv hEe hE9 HVo;go_wp2_with fail
       go_ret;have e9:Z8 m ⟨oi,2,ok,op,oq⟩=Jj0 (UK m ⟨oi,2,ok,op,oq⟩):=by unfold Z8;rw[HLx.out.2.1,if_pos rfl]
       rw[e9,←HN.out];exact HE9.out.fills HLx.out.2.2.symm
      |false=>
       go_wp2_with fail
       go_ret;have e9:Z8 m ⟨oi,2,ok,op,oq⟩=(UK m ⟨oi,2,ok,op,oq⟩):=by unfold Z8;rw[HLx.out.2.1,if_neg (by decide)]
       rw[e9,HS2.out,←HN.out];exact HE2.out.fills HLx.out.2.2.symm
    ·have d5:=OY hq5
     have HS2:Hid (UK m ⟨oi,2,ok,op,oq⟩=m1):=QQ (by unfold UK;rw[HLx.out.1,if_neg (fun x=>hq5 x.1)];exact HM0.out)
     cases sp with
     |true=>
      have hme:=HE0.out.eng;rw[←HS2.out]at hme;have HVo:=QQ (Y3 hme ⟨by have:=(IY m ⟨oi,2,ok,op,oq⟩).1;have:=HI.out.now;omega,by have:=(IY m ⟨oi,2,ok,op,oq⟩).1;have:=HI.out.now;omega⟩ (by rw[(IY m ⟨oi,2,ok,op,oq⟩).2];exact HI.out.tk));clear hme;go_wp2_with fail
      refine HVo.out.mono ?_;rintro ev wf ⟨rfl,htv⟩;have hEe:=HE0.out;rw[←HS2.out]at hEe;obtain⟨F9,hE9⟩:=hEe.then_ htv;have HE9:=QQ hE9;clear htv hEe hE9 HVo;go_wp2_with fail
      go_ret;have e9:Z8 m ⟨oi,2,ok,op,oq⟩=Jj0 (UK m ⟨oi,2,ok,op,oq⟩):=by unfold Z8;rw[HLx.out.2.1,if_pos rfl]
      rw[e9,←HN.out];exact HE9.out.fills HLx.out.2.2.symm
     |false=>
      go_wp2_with fail
      go_ret;have e9:Z8 m ⟨oi,2,ok,op,oq⟩=(UK m ⟨oi,2,ok,op,oq⟩):=by unfold Z8;rw[HLx.out.2.1,if_neg (by decide)]
      rw[e9,HS2.out,←HN.out];exact HE0.out.fills HLx.out.2.2.symm
end Go.Proofs.YtbmiieehkkfbgaaGreatDoor
