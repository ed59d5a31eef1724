/- Contracts and walks that the law's proof needs. -/
import Derived.WalkKit
import Derived.WalkLawsBesides
import Derived.WalkSpells
import Derived.StillTailTactics
import Derived.Deep.QuietTactic
import Derived.BigQuiet
import Derived.Deep.CutBlock
import Derived.Test.YtnlngicnfegjgaaGreatDoorZd19
import Derived.Test.YtnlngicnfegjgaaGreatDoorZd11
import Derived.Maps.Own
import Derived.Test.YtnlngicnfegjgaaGreatDoorZd8
import Derived.Deep.DeepCutAuto
import Derived.Laws.ResultCell
import Derived.Test.YtnlngicnfegjgaaGreatDoorZd16
import Derived.Test.YtnlngicnfegjgaaGreatDoorZd2
import Derived.BigRegion
import Derived.Test.YtnlngicnfegjgaaGreatDoorZd13
import Derived.Test.YtnlngicnfegjgaaGreatDoorZd3
import Derived.Test.YtnlngicnfegjgaaGreatDoorZd14
set_option linter.unusedVariables false
set_option maxRecDepth 100000
set_option maxHeartbeats 8000000
namespace Go.Proofs.YtnlngicnfegjgaaGreatDoor
open Go.RowKit
theorem X0 {L1 L2:List QX} (h:XY L1 L2):Xh5 (L1++L2):=fun o ho=>by
 have h1:=h.ok o ho
 refine⟨?_,h1.2.2.2,.inr h1.2.2.1⟩
 rcases List.mem_append.1 ho with h2|h2
 ·exact .inl (h.s1 o h2)
 ·exact .inr (h.s2 o h2)
theorem Xx8 {L1 L2:List QX} (h:XY L1 L2) (s:Int) (k:Option Int):0≤Q2 s k (L1++L2)∧Q2 s k (L1++L2)≤1000000000:=by
 have h1:=Qh9 (s:=s) (k:=k) (X0 h)
 have h2:=h.cnt
 omega
theorem Ju7 {L1 L2:List QX} {lv:List XJ} {bu se:Int} (h:XY L1 L2) (hk:Jb2 lv) (hi:Qe1 lv bu se (fun s k=>Q2 s k (L1++L2))):Jd5 lv bu se:=
 hi.mild hk (fun s k=>Xx8 h s k) (by have:=hi.few hk;have:=h.cnt;omega)
theorem Xp8 (z:QX):Qa1 (JJ z)=Qa1 z:=by
 unfold Qa1 JJ
 dsimp only
 split<;>rfl
theorem Kr1 {L1 L2:List QX} {z:QX} (hz:VV z.side) (s:Int) (k:Option Int):Q2 s k (Qb8 1 L1 z++Qb8 2 L2 z)=Q2 s k (L1++L2)+if z.side=s∧Qa1 z=k then 1*z.qty else 0:=by
 have key: ∀s' L,Q2 s k (Qs4 s' L (JJ z))=(if z.side=s∧Qa1 z=k then z.qty else 0)+Q2 s k L:=fun s' L=>by
  rw[Xb9 (Qr0 s' L (JJ z)),Qc7,Xp8]
  rfl
 rw[Y2,Y2]
 unfold Qb8
 rcases hz with e|e
 ·rw[if_pos e,if_neg (by omega),key,Int.one_mul]
  omega
 ·rw[if_neg (by omega),if_pos e,key,Int.one_mul]
  omega
theorem Xx9 {L1 L2:List QX} {z:QX} (h:Qk9 L1 L2 z=0):Qb9 z:=by
 unfold Qk9 at h
 cases h1:Jb1 z with
 |false=>rw[h1]at h;simp at h
 |true=>
  cases h2:Qq6 z with
  |false=>rw[h1,h2]at h;simp at h
  |true=>
   unfold Jb1 at h1;unfold Qq6 at h2;rw[V5]at h2;simp at h1;refine⟨h1.1,h2.2.2, ?_⟩;unfold JJ at h2;dsimp only at h2
   by_cases hk:z.kind=2
   ·exact .inl hk
   ·rw[if_neg hk]at h2
    exact .inr ⟨h2.1,h2.2.1⟩
theorem Ju8 {lv lv':List XJ} {bu se bu' se':Int} {z:QX} (hz:Qb9 z) (h:Qu7 lv bu se z 1 lv' bu' se'):Qg5 lv bu se z 1=0∧Ja7 lv bu se z 1 lv' bu' se':=by
 have e:Qg5 lv bu se z 1=0:=by
  unfold Qg5;rw[if_pos ((Qh8 z).2 hz),if_neg (by intro x;exact absurd x.1 (by decide))]
 unfold Qu7 at h
 rw[if_pos e]at h
 exact⟨e,h⟩
theorem Kw3 {m:ZJ} {z:QX} (h:Qk9 m.L1 m.L2 z≠0):Qc8 m z=m:=by
 unfold Qc8 Jt6
 rw[if_neg h,if_neg h]
theorem Kr2 {m:ZJ} {z:QX} (h:Qk9 m.L1 m.L2 z=0):Qc8 m z= {m with L1:=Qb8 1 m.L1 z,L2:=Qb8 2 m.L2 z}:=by
 unfold Qc8 Jt6
 rw[if_pos h,if_pos h]
def Kw4 (w w':World) (e tb bb bk im:Nat) (T:Option Addr) (tc:Nat) (Ap:Option Addr) (pc:Nat) (es:List MapEntry) (mc:Nat) (own:Nat→Nat→Prop) (m:ZJ):Prop:=
 ∃cs Al lc lv bu se G own',UX w' e cs tb bb bk im T tc Al lc lv bu se Ap pc es mc G own' (fun s k=>Q2 s k (Qc0 m)) m∧VZ w w' own own'
theorem Kw4.to {w w':World} {e tb bb bk im:Nat} {T:Option Addr} {tc:Nat} {Ap:Option Addr} {pc:Nat} {es:List MapEntry} {mc:Nat} {own:Nat→Nat→Prop} {m:ZJ} {F:Nat→Prop} (h:Kw4 w w' e tb bb bk im T tc Ap pc es mc own m) (hF: ∀i,F i↔ ∃k,own i k):YZ w w' e F m:=by
 obtain⟨cs,Al,lc,lv,bu,se,G,own',hM,ho⟩:=h
 exact⟨_,hM.at_ (fun _ _ _=>rfl),ho.bstep hF⟩
theorem UX.lots {w:World} {e:Nat} {cs:Array Value} {tb bb bk im:Nat} {T:Option Addr} {tc:Nat} {Al:Option Addr} {lc:Nat} {lv:List XJ} {bu se:Int} {Ap:Option Addr} {pc:Nat} {es:List MapEntry} {mc:Nat} {G:Nat→Prop} {own:Nat→Nat→Prop} {g g':Int→Option Int→Int} {m:ZJ}
  (h:UX w e cs tb bb bk im T tc Al lc lv bu se Ap pc es mc G own g m) (hg: ∀s k,(s=1∨s=2)→g s k=g' s k):UX w e cs tb bb bk im T tc Al lc lv bu se Ap pc es mc G own g' m:=
 ⟨h.ind,h.ec,h.is.congr hg,h.tabl,h.tabc,h.tabp,h.bands,h.book,h.park,h.map_,h.keys,h.ids,h.ok,h.oe,h.ot,h.oT,h.ob,h.oG,h.ol,h.op,h.oi⟩
theorem Kd5 {w:World} {e:Nat} {cs:Array Value} {tb bb bk im:Nat} {T:Option Addr} {tc:Nat} {Al:Option Addr} {lc:Nat} {lv:List XJ} {bu se:Int} {Ap:Option Addr} {pc:Nat} {es:List MapEntry} {mc:Nat} {G:Nat→Prop} {own:Nat→Nat→Prop} {m:ZJ}
  (hM:UX w e cs tb bb bk im T tc Al lc lv bu se Ap pc es mc G own (fun s k=>Q2 s k (Qc0 m)) m) (z:QX) (hf:Qd5 z):
  Calls Tryz.prog 46 #[.pointer (some ⟨e,0,none⟩),KQ z] w fun ev w'=>ev= .returned (.tuple #[])∧Kw4 w w' e tb bb bk im T tc Ap pc es mc own (Qc8 m z):=by
 have hb1:Below w.heap.size w (w.alloc (.cells (KZ z) 29)):=(Below.refl _ w).alloc (Nat.le_refl _) _
 have hX:=QJ.new w 29 (KZ z)
 have hM1:=hM.below hb1
 obtain⟨w1,ew1⟩: ∃W,w.alloc (.cells (KZ z) 29)=W:=⟨_,rfl⟩
 rw[ew1]at hb1 hX hM1
 have hadd:=Xp7 w1.drew bk G m.L1 m.L2 (hM1.book.below (Below.drew (Below.refl _ _))) z hf
 unfold KZ at ew1
 unfold KQ at hadd⊢
 have HAdd:=QQ hadd
 have HM1:=QQ hM1
 have HX:=QQ hX
 have HB1:=QQ hb1
 have HO:=QQ hM.ok
 have HFit:=QQ hf
 have c8:=hM1.cell hM1.ec.c8
 obtain⟨x0,x1,x2,x3,x4⟩:=JW hX
 clear hM hb1 hX hM1 hadd hf
 go_enter Tryz.func46,Tryz.ntmps46
 go_upto_region 1 with fail
 try rw[ew1]
 clear ew1
 go_still_tail 5,(by kernel_rfl)
 change wpList _ _ _ _ _ w1.drew
 go_wp2_with fail
 refine HAdd.out.mono ?_
 rintro ev w2 (⟨hne,rfl,hb2⟩|⟨hz,rfl,hto⟩)
 ·have hb12:Below w1.heap.size w1 w2:=(Below.drew (Below.refl _ w1)).trans hb2
  have HB12:=QQ hb12;have HNe:=QQ hne;clear hb2 hb12 c8 x0 x1 x2 x3 x4;unfold YV;rw[if_neg hne];clear hne HAdd;go_wp2_with fail
  refine bodyPost_end (results_none rfl _ _ _) rfl ?_;rw[Kw3 HNe.out];exact⟨rfl,_,_,_,_,_,_,_,_,HM1.out.below HB12.out,VZ.of_below (HB1.out.trans (HB12.out.mono HB1.out.size))⟩
 ·rw[UW]
  obtain⟨G2,own2,hM2,ho2⟩:=(HM1.out.below (Below.drew (Below.refl _ w1))).bookTo hto;have hX2:=QJ.keeps (QJ.drew HX.out) ho2.1 (fun⟨k,hk⟩=>Nat.lt_irrefl _ (HO.out.lt _ _ hk));have hml:=Ju7 HM1.out.book.lists HM1.out.ind.ok HM1.out.is;have hind:=Xh2 w2.drew e 103 cs 9 Al lc lv bu se (hM2.below (Below.drew (Below.refl _ w2))).ind hml.small z;unfold KQ at hind;have HInd:=QQ hind;have HM2:=QQ hM2;have HO2:=QQ ho2;have HZ:=QQ hz;obtain⟨x0,x1,x2,x3,x4⟩:=JW hX2;clear hto hM2 ho2 hX2 hml hind hz HAdd c8;go_wp2_with fail
  go_still_tail 4,(by kernel_rfl)
  change wpList _ _ _ _ _ w2.drew;go_wp2_with fail
  refine HInd.out.mono ?_;rintro ev w3 ⟨rfl,lv',bu',se',hit,htd⟩;clear x0 x1 x2 x3 x4;go_wp2_with fail
  refine bodyPost_end (results_none rfl _ _ _) rfl ?_;have hr:=Xx9 HZ.out;obtain⟨-,hchg⟩:=Ju8 hr htd;have his:=(HM2.out.is).chg hr.1 hchg;obtain⟨cs3,Al3,lc3,own3,hM3,ho3⟩:=(HM2.out.below (Below.drew (Below.refl _ w2))).indTo hit his;rw[Kr2 HZ.out];refine⟨rfl,_,_,_,_,_,_,_,_,hM3.lots (fun s k hs=> ?_),(((VZ.of_below (HB1.out.trans ((Below.drew (Below.refl _ w1)).mono HB1.out.size))).trans HO2.out).trans (VZ.of_below (Below.drew (Below.refl _ w2)))).trans ho3⟩;exact(Kr1 hr.1 s k).symm
theorem Jk6 (w:World) (e:Nat) (F:Nat→Prop) (m:ZJ) (h:UK w e F m) (z:QX) (hf:Qd5 z):
  Calls Tryz.prog 46 #[.pointer (some ⟨e,0,none⟩),KQ z] w fun ev w'=>ev= .returned (.tuple #[])∧YZ w w' e F (Qc8 m z):=by
 obtain⟨cs,tb,bb,bk,im,T,tc,Al,lc,lv,bu,se,Ap,pc,es,mc,G,own,hM,hF⟩:=h
 exact(Kd5 hM z hf).mono fun ev w' ⟨h1,h2⟩=>⟨h1,h2.to hF⟩
theorem Kr3 {L:List QX} (hn:(L.map (·.id)).Nodup) {id:Int} {o:QX} (h:Qb3 L id=some o):L.Perm (o::O7 L id):=by
 have QQ:o.id=id:=by
  have:=List.find?_some h;simpa using this
 obtain⟨A,B,rfl⟩:=List.append_of_mem (List.mem_of_find?_eq_some h)
 rw[List.map_append,List.map_cons,List.nodup_append,List.nodup_cons]at hn
 have e:O7 (A++o::B) id=A++B:=by
  unfold O7;rw[List.filter_append,List.filter_cons_of_neg (by simp[QQ]),List.filter_eq_self.2 (fun y hy=> ?_),List.filter_eq_self.2 (fun y hy=> ?_)]
  ·have:y.id≠id:=fun e=>hn.2.1.1 (by rw[QQ,←e];exact List.mem_map.2 ⟨y,hy,rfl⟩)
   simpa using this
  ·have:=hn.2.2 _ (List.mem_map.2 ⟨y,hy,rfl⟩) _ (List.mem_cons_self)
   rw[QQ]at this;simpa using this
 rw[e]
 exact List.perm_middle
theorem Kr4 {L1 L2:List QX} (hl:XY L1 L2) {id:Int} {o:QX} (h:Qb3 (L1++L2) id=some o) (s:Int) (k:Option Int):Q2 s k (O7 L1 id++O7 L2 id)=Q2 s k (L1++L2)+if o.side=s∧Qa1 o=k then -1*o.qty else 0:=by
 have e:O7 L1 id++O7 L2 id=O7 (L1++L2) id:=(List.filter_append _ _).symm
 rw[e,Xb9 (Kr3 hl.ids h),Qc7]
 split<;>omega
theorem Xc2 {lv lv':List XJ} {bu se bu' se':Int} {z:QX} (hz:Qb9 z) (hq:z.qty≤Qx2 lv bu se z) (h:Qu7 lv bu se z (-1) lv' bu' se'):Qg5 lv bu se z (-1)=0∧Ja7 lv bu se z (-1) lv' bu' se':=by
 have e:Qg5 lv bu se z (-1)=0:=by
  unfold Qg5;rw[if_pos ((Qh8 z).2 hz),if_neg (by omega)]
 unfold Qu7 at h
 rw[if_pos e]at h
 exact⟨e,h⟩
def Ju9 (m:ZJ) (id:Int):ZJ:= {m with L1:=O7 m.L1 id,L2:=O7 m.L2 id}
theorem Jv0 {m:ZJ} {id:Int} (h:Qb3 (Qc0 m) id=none):Ju9 m id=m:=by
 unfold Ju9
 unfold Qb3 at h
 rw[List.find?_eq_none]at h
 have e: ∀L:List QX,(∀o∈L,o∈Qc0 m)→O7 L id=L:=fun L hL=>List.filter_eq_self.2 (fun o ho=>by have:=h o (hL o ho);simpa using this)
 rw[e _ (fun o ho=>List.mem_append_left _ ho),e _ (fun o ho=>List.mem_append_right _ ho)]
theorem Kj2 (w:World) (e:Nat) (F:Nat→Prop) (m:ZJ) (h:UK w e F m) (id:Int):
  Calls Tryz.prog 68 #[.pointer (some ⟨e,0,none⟩),.int .i64 id] w fun ev w'=>ev= .returned (.tuple #[])∧YZ w w' e F (Ju9 m id):=by
 obtain⟨cs,tb,bb,bk,im,T,tc,Al,lc,lv,bu,se,Ap,pc,es,mc,G,own,hM,hF⟩:=h
 have hcan:=Qg0 w bk G m.L1 m.L2 hM.book id
 have HCan:=QQ hcan
 have HM:=QQ hM
 have HF:=QQ hF
 have c8:=hM.cell hM.ec.c8
 clear hM hcan hF
 go_enter Tryz.func68,Tryz.ntmps68
 go_wp2_with fail
 refine HCan.out.mono ?_
 rintro ev w2 (⟨hno,rfl,hb2⟩|⟨o,hgo,rfl,hto⟩)
 ·have HNo:=QQ hno
  have HB2:=QQ hb2;clear hno hb2 HCan c8;have e7:YV 7= .iface 52 (.int .i64 7):=rfl;rw[e7];go_wp2_with fail
  refine bodyPost_end (results_none rfl _ _ _) rfl ?_;rw[Jv0 HNo.out];have hb3:Below w.heap.size w (w2.alloc (.cells (KZ noO) 29)):=HB2.out.alloc HB2.out.size _;exact⟨rfl,_,(HM.out.below hb3).at_ (fun _ _ _=>rfl),(VZ.of_below hb3).bstep HF.out⟩
 ·obtain⟨G2,own2,hM2,ho2⟩:=HM.out.bookTo hto
  have hb3:Below w2.heap.size w2 (w2.alloc (.cells (KZ o) 29)):=(Below.refl _ w2).alloc (Nat.le_refl _) _;have hX:=QJ.new w2 29 (KZ o);have hM3:=hM2.below hb3;obtain⟨w3,ew3⟩: ∃W,w2.alloc (.cells (KZ o) 29)=W:=⟨_,rfl⟩;rw[ew3]at hb3 hX hM3;have hml:=Ju7 HM.out.book.lists HM.out.ind.ok HM.out.is;have hind:=Ju1 w3.drew e 103 cs 9 Al lc lv bu se (hM3.below (Below.drew (Below.refl _ w3))).ind hml.small o;unfold KQ at hind;have HInd:=QQ hind;have HM3:=QQ hM3;have HO2:=QQ ho2;have HB3:=QQ hb3;have HGo:=QQ hgo;obtain⟨x0,x1,x2,x3,x4⟩:=JW hX;clear hto hM2 ho2 hX hml hind hgo HCan c8 hM3 hb3;unfold KZ at ew3;unfold KQ;rw[UW];go_upto_region 1 with fail
  try rw[ew3]
  clear ew3;go_wp2_with fail
  go_still_tail 4,(by kernel_rfl)
  change wpList _ _ _ _ _ w3.drew;go_wp2_with fail
  refine HInd.out.mono ?_;rintro ev w4 ⟨rfl,lv',bu',se',hit,htd⟩;clear x0 x1 x2 x3 x4;go_wp2_with fail
  refine bodyPost_end (results_none rfl _ _ _) rfl ?_;have hr:Qb9 o:=X0 HM.out.book.lists o (List.mem_of_find?_eq_some HGo.out);have hq:o.qty≤Qx2 lv bu se o:=by
   rw[HM.out.is.has hr.1];exact Kq9 (X0 HM.out.book.lists) (List.mem_of_find?_eq_some HGo.out)
  obtain⟨-,hchg⟩:=Xc2 hr hq htd;have his:=(HM3.out.is).chg hr.1 hchg;obtain⟨cs3,Al3,lc3,own3,hM4,ho4⟩:=(HM3.out.below (Below.drew (Below.refl _ w3))).indTo hit his;refine⟨rfl,_,UX.at_ (m:=Ju9 m id) hM4 (fun s k hs=> ?_),((HO2.out.trans (VZ.of_below (HB3.out.trans ((Below.drew (Below.refl _ w3)).mono HB3.out.size)))).trans ho4).bstep HF.out⟩;exact(Kr4 HM.out.book.lists HGo.out s k).symm
def noH:HS:=⟨none,0,none,0,[],[]⟩
theorem Qx6 (w:World):Calls Tryz.prog 52 #[] w fun e w'=>Below w.heap.size w w'∧ ∃b G,(∀i,G i→w.heap.size≤i)∧e= .returned (.pointer (some ⟨b,0,none⟩))∧Q1 w' b G [] []:=by
 have hnew:Calls Tryz.prog 104 #[.int .i64 100] w _:=Ku5 w 100 (by omega) (by omega)
 have HN:=QQ hnew
 have hmm:= @run_makeMap Tryz.prog
 clear hnew
 go_enter Tryz.func52,Tryz.ntmps52
 go_wp2_with (go_at_call 104;refine HN.out.mono ?_;rintro e w1 ⟨hB,a,F,hF,rfl,hA⟩;have HB:=QQ hB;have HF:=QQ hF;have HA:=QQ hA;clear hB hF hA)
 go_ret
 have hb1:Below w1.heap.size w1 (w1.alloc (.map #[] 0)):=(Below.refl _ _).alloc (Nat.le_refl _) _
 have hb2:Below w1.heap.size w1 ((w1.alloc (.map #[] 0)).alloc (.cells (IK a w1.heap.size fun _=>noH) 157)):=hb1.alloc (by simp) _
 have hA2:=HA.out.below hb2
 have hM:I6 ((w1.alloc (.map #[] 0)).alloc (.cells (IK a w1.heap.size fun _=>noH) 157)) w1.heap.size (fun _=>none):=(I6.made w1).alloc _
 have hsz:=HB.out.size
 refine⟨HB.out.trans (hb2.mono hsz),w1.heap.size+1,U1 (w1.heap.size+1) w1.heap.size F (fun _=>noH), ?_,by simp,a,F,_,0,w1.heap.size,_,fun _=>noH,fun i=>if i=w1.heap.size+1 then 1 else if i=w1.heap.size then 2 else 3,⟨?_,hA2,hM, ?_,if_pos rfl, ?_, ?_⟩, ?_,fun i=>Iff.rfl,rfl,rfl⟩
 ·rintro i (rfl|rfl|hi|hi|hi)
  ·omega
  ·exact hsz
  ·exact HF.out i hi
  ·rcases hi with hi|hi|⟨q,hq,_⟩
   ·cases hi
   ·cases hi
   ·cases hq
  ·rcases hi with hi|hi|⟨q,hq,_⟩
   ·cases hi
   ·cases hi
   ·cases hq
 ·have:=QJ.new (w1.alloc (.map #[] 0)) 157 (IK a w1.heap.size fun _=>noH)
  rwa [World.size_alloc]at this
 ·intro s hs
  exact⟨⟨rfl,.inl ⟨rfl,rfl⟩⟩,⟨rfl,.inl ⟨rfl,rfl⟩⟩,fun q hq=>(by cases hq),fun g hg=>(by cases hg),fun g hg=>(by cases hg),fun q hq=>(by cases hq),List.nodup_nil⟩
 ·rw[if_neg (by omega),if_pos rfl]
 ·intro i hi
  have:=HA.out.fp hi;rw[if_neg (by omega),if_neg (by omega)]
 ·exact⟨fun s hs=>⟨fun x hx=>(by cases hx),fun q hq=>(by cases hq),List.Pairwise.nil⟩,fun s hs q hq=>(by cases hq),fun x hx=>(by cases hx),fun x hx=>(by cases hx),fun k v hv=>(by cases hv),List.nodup_nil,rfl,fun x hx=>(by cases hx)⟩
theorem Xh7 (w:World) (b:Nat) (G:Nat→Prop) (L1 L2:List QX) (h:Q1 w b G L1 L2):Calls Tryz.prog 45 #[.pointer (some ⟨b,0,none⟩)] w fun e w'=>e= .returned (.int .i64 (L1.length+L2.length:Nat))∧w=w':=by
 obtain⟨a,F,M,n,r,f,H,reg,hM,hS,hG,rfl,rfl⟩:=h
 have z0:=hM.cells.1
 have HA:=QQ hM.ar
 have HE:Hid (n=(H 1).L.length+ (H 2).L.length):=QQ (by rw[hS.cnt];simp[X5,HS.L,IW])
 clear hM hS hG
 go_enter Tryz.func45,Tryz.ntmps45
 go_wp2_with (go_at_call 92;refine(Kn3 HA.out).mono ?_;rintro e w' ⟨rfl,rfl⟩)
 go_ret
 exact⟨O5 (by rw[HE.out]),rfl⟩
end Go.Proofs.YtnlngicnfegjgaaGreatDoor
namespace Go.Proofs.YtnlngicnfegjgaaGreatDoor
open Go.ChangeMaps Go.RowKit
section
variable {w w':World} {e:Nat} {cs:Array Value} {tb bb bk im:Nat} {T:Option Addr} {tc:Nat} {Al:Option Addr} {lc:Nat} {lv:List XJ} {bu se:Int} {Ap:Option Addr} {pc:Nat} {es:List MapEntry} {mc:Nat} {G:Nat→Prop} {own:Nat→Nat→Prop} {g:Int→Option Int→Int} {m:ZJ}
theorem JZ {i j:Nat} {v u:Value} (h:cs[i]?=some v) (hne:j≠i):(cs.setIfInBounds j u)[i]?=some v:=by rw[Array.getElem?_setIfInBounds_ne hne];exact h
theorem Qt7 {j:Nat} {u:Value} (h:j<cs.size):(cs.setIfInBounds j u)[j]?=some u:=Array.getElem?_setIfInBounds_self_of_lt h
theorem Jd9.setPh (h:Jd9 cs tb bb bk im Ap pc m) (v:Int):Jd9 (cs.setIfInBounds 14 (.int .i64 v)) tb bb bk im Ap pc {m with ph:=v}:=
 ⟨by rw[Array.size_setIfInBounds];exact h.sz,JZ h.c4 (by decide),JZ h.c5 (by decide),JZ h.c6 (by decide),JZ h.c7 (by decide),JZ h.c8 (by decide),JZ h.c12 (by decide),JZ h.c13 (by decide),Qt7 (by have:=h.sz;omega),JZ h.c15 (by decide),JZ h.c16 (by decide),JZ h.c17 (by decide)⟩
theorem Jd9.setNow (h:Jd9 cs tb bb bk im Ap pc m) (v:Int):Jd9 (cs.setIfInBounds 15 (.int .i64 v)) tb bb bk im Ap pc {m with now:=v}:=
 ⟨by rw[Array.size_setIfInBounds];exact h.sz,JZ h.c4 (by decide),JZ h.c5 (by decide),JZ h.c6 (by decide),JZ h.c7 (by decide),JZ h.c8 (by decide),JZ h.c12 (by decide),JZ h.c13 (by decide),JZ h.c14 (by decide),Qt7 (by have:=h.sz;omega),JZ h.c16 (by decide),JZ h.c17 (by decide)⟩
theorem Jd9.setEnds (h:Jd9 cs tb bb bk im Ap pc m) (v:Int):Jd9 (cs.setIfInBounds 16 (.int .i64 v)) tb bb bk im Ap pc {m with ends:=v}:=
 ⟨by rw[Array.size_setIfInBounds];exact h.sz,JZ h.c4 (by decide),JZ h.c5 (by decide),JZ h.c6 (by decide),JZ h.c7 (by decide),JZ h.c8 (by decide),JZ h.c12 (by decide),JZ h.c13 (by decide),JZ h.c14 (by decide),JZ h.c15 (by decide),Qt7 (by have:=h.sz;omega),JZ h.c17 (by decide)⟩
theorem Jd9.setLng (h:Jd9 cs tb bb bk im Ap pc m) (v:Int):Jd9 (cs.setIfInBounds 17 (.int .i64 v)) tb bb bk im Ap pc {m with lng:=v}:=
 ⟨by rw[Array.size_setIfInBounds];exact h.sz,JZ h.c4 (by decide),JZ h.c5 (by decide),JZ h.c6 (by decide),JZ h.c7 (by decide),JZ h.c8 (by decide),JZ h.c12 (by decide),JZ h.c13 (by decide),JZ h.c14 (by decide),JZ h.c15 (by decide),JZ h.c16 (by decide),Qt7 (by have:=h.sz;omega)⟩
theorem UX.setCell_ {j:Nat} {v:Value} {m':ZJ} (h:UX w e cs tb bb bk im T tc Al lc lv bu se Ap pc es mc G own g m) (hj:j≠9∧j≠10∧j≠11) (hc:Jd9 (cs.setIfInBounds j v) tb bb bk im Ap pc m')
  (hm:m'.rows=m.rows∧m'.st=m.st∧m'.dy=m.dy∧m'.an=m.an∧m'.la=m.la∧m'.L1=m.L1∧m'.L2=m.L2∧m'.pk=m.pk∧m'.ids=m.ids):
  UX (w.setCell ⟨e,j,none⟩ v) e (cs.setIfInBounds j v) tb bb bk im T tc Al lc lv bu se Ap pc es mc G own g m'∧VZ w (w.setCell ⟨e,j,none⟩ v) own own:=
 h.cellsTo (QJ.set_ h.ind.blk j v) (QK.set_ w ⟨e,j,none⟩ v) hc (Array.getElem?_setIfInBounds_ne hj.1) (Array.getElem?_setIfInBounds_ne hj.2.1) (Array.getElem?_setIfInBounds_ne hj.2.2) hm
theorem UX.setPh (h:UX w e cs tb bb bk im T tc Al lc lv bu se Ap pc es mc G own g m) (v:Int):
  UX (w.setCell ⟨e,14,none⟩ (.int .i64 v)) e (cs.setIfInBounds 14 (.int .i64 v)) tb bb bk im T tc Al lc lv bu se Ap pc es mc G own g {m with ph:=v}∧VZ w (w.setCell ⟨e,14,none⟩ (.int .i64 v)) own own:=
 h.setCell_ (by decide) (h.ec.setPh v) ⟨rfl,rfl,rfl,rfl,rfl,rfl,rfl,rfl,rfl⟩
theorem UX.setNow (h:UX w e cs tb bb bk im T tc Al lc lv bu se Ap pc es mc G own g m) (v:Int):
  UX (w.setCell ⟨e,15,none⟩ (.int .i64 v)) e (cs.setIfInBounds 15 (.int .i64 v)) tb bb bk im T tc Al lc lv bu se Ap pc es mc G own g {m with now:=v}∧VZ w (w.setCell ⟨e,15,none⟩ (.int .i64 v)) own own:=
 h.setCell_ (by decide) (h.ec.setNow v) ⟨rfl,rfl,rfl,rfl,rfl,rfl,rfl,rfl,rfl⟩
theorem UX.setEnds (h:UX w e cs tb bb bk im T tc Al lc lv bu se Ap pc es mc G own g m) (v:Int):
  UX (w.setCell ⟨e,16,none⟩ (.int .i64 v)) e (cs.setIfInBounds 16 (.int .i64 v)) tb bb bk im T tc Al lc lv bu se Ap pc es mc G own g {m with ends:=v}∧VZ w (w.setCell ⟨e,16,none⟩ (.int .i64 v)) own own:=
 h.setCell_ (by decide) (h.ec.setEnds v) ⟨rfl,rfl,rfl,rfl,rfl,rfl,rfl,rfl,rfl⟩
theorem UX.setLng (h:UX w e cs tb bb bk im T tc Al lc lv bu se Ap pc es mc G own g m) (v:Int):
  UX (w.setCell ⟨e,17,none⟩ (.int .i64 v)) e (cs.setIfInBounds 17 (.int .i64 v)) tb bb bk im T tc Al lc lv bu se Ap pc es mc G own g {m with lng:=v}∧VZ w (w.setCell ⟨e,17,none⟩ (.int .i64 v)) own own:=
 h.setCell_ (by decide) (h.ec.setLng v) ⟨rfl,rfl,rfl,rfl,rfl,rfl,rfl,rfl,rfl⟩
theorem UX.frozen (h:UX w e cs tb bb bk im T tc Al lc lv bu se Ap pc es mc G own g m) (i:Nat):w.frozen? ⟨e,i,none⟩=false:=QJ.frozen h.ind.blk i
theorem UX.pkTo {P':List QX} {Ap':Option Addr} {pc':Nat} (h:UX w e cs tb bb bk im T tc Al lc lv bu se Ap pc es mc G own g m) (hk:QK (fun i=>QZ Ap=some i) w w') (hr:QY w' Ap' P'.length pc' 29 5 (QW U7 P')) (hg: ∀i,QZ Ap'=some i→QZ Ap=some i∨w.heap.size≤i):
  ∃own',UX (w'.setCell ⟨e,12,none⟩ (.slice Ap' P'.length pc')) e (cs.setIfInBounds 12 (.slice Ap' P'.length pc')) tb bb bk im T tc Al lc lv bu se Ap' pc' es mc G own' g {m with pk:=P'}∧VZ w (w'.setCell ⟨e,12,none⟩ (.slice Ap' P'.length pc')) own own':=by
 have f: ∀ {i k:Nat},own i k→k≠6→ ¬QZ Ap=some i:=fun hi hne=>h.fit (S:=fun i=>QZ Ap=some i) h.op hi hne
 have f1: ∀ {i k:Nat},own i k→k≠1→ ¬i=e:=fun hi hne=>h.fit (S:=fun i=>i=e) (fun i hi=>hi▸h.oe) hi hne
 have n: ∀ {i k:Nat},own i k→Qr5 w own (fun i=>QZ Ap'=some i) 6 i k:=fun hi=> .inl hi
 have he:e<w.heap.size:=QJ.lt h.ind.blk
 have hk2:=QK.set_ w' ⟨e,12,none⟩ (.slice Ap' P'.length pc')
 have hk':QK (fun i=>QZ Ap=some i∨i=e) w (w'.setCell ⟨e,12,none⟩ (.slice Ap' P'.length pc')):=(hk.mono (fun i hi=> .inl hi)).trans hk2 (fun i hi=> .inl (.inr hi))
 have q: ∀ {i k:Nat},own i k→k≠6→k≠1→ ¬(QZ Ap=some i∨i=e):=fun hi h6 h1 x=>x.elim (f hi h6) (f1 hi h1)
 have hr2:=h.ind
 have hne: ∀i,QZ Ap'=some i→ ¬i=e:=fun i hi hie=>by
  rcases hg i hi with e1|e1
  ·exact f h.oe (by decide) (hie▸e1)
  ·omega
 have hsz:=hk.size
 refine⟨Qr5 w own (fun i=>QZ Ap'=some i) 6,⟨⟨QJ.set_ (QJ.keeps hr2.blk hk (f h.oe (by decide))) 12 _, ?_, ?_, ?_,hr2.row.keeps hk' (fun i hi=>q (h.ol i hi) (by decide) (by decide)),hr2.na,hr2.ok⟩, ?_,h.is,Nat.lt_of_lt_of_le h.tabl hk'.size,(hk'.cell (p:=⟨tb,0,none⟩) h.tabl (q h.ot (by decide) (by decide))).trans h.tabc,h.tabp.keeps hk' (fun i hi=>q (h.oT i hi) (by decide) (by decide)),QJ.keeps h.bands hk' (q h.ob (by decide) (by decide)),h.book.keeps hk' (fun i hi=>q (h.oG i hi) (by decide) (by decide)),hr.keeps hk2 hne,h.map_.of_block (hk'.block _ h.map_.lt (q h.oi (by decide) (by decide))),h.keys,h.ids,h.ok.new_ hk'.size (fun i hi=>Nat.lt_of_lt_of_le (hr.lt hi) hk2.size) 6,n h.oe,n h.ot,fun i hi=>n (h.oT i hi),n h.ob,fun i hi=>n (h.oG i hi),fun i hi=>n (h.ol i hi),fun i hi=> ?_,n h.oi⟩,hk'.mono (fun i hi=> ?_),fun i k hi=>hi.imp id (fun x=>x.1)⟩
 ·exact JZ hr2.c0 (by decide)
 ·exact JZ hr2.c1 (by decide)
 ·exact JZ hr2.c2 (by decide)
 ·have hc:=h.ec
  exact⟨by rw[Array.size_setIfInBounds];exact hc.sz,JZ hc.c4 (by decide),JZ hc.c5 (by decide),JZ hc.c6 (by decide),JZ hc.c7 (by decide),JZ hc.c8 (by decide),Qt7 (by have:=hc.sz;omega),JZ hc.c13 (by decide),JZ hc.c14 (by decide),JZ hc.c15 (by decide),JZ hc.c16 (by decide),JZ hc.c17 (by decide)⟩
 ·rcases hg i hi with e1|e1
  ·exact n (h.op i e1)
  ·exact .inr ⟨e1,hi,rfl⟩
 ·rcases hi with hi|rfl
  ·exact⟨6,h.op i hi⟩
  ·exact⟨1,h.oe⟩
theorem UX.pkNil (h:UX w e cs tb bb bk im T tc Al lc lv bu se Ap pc es mc G own g m):
  ∃own',UX (w.setCell ⟨e,12,none⟩ (.slice none 0 0)) e (cs.setIfInBounds 12 (.slice none 0 0)) tb bb bk im T tc Al lc lv bu se none 0 es mc G own' g {m with pk:= []}∧VZ w (w.setCell ⟨e,12,none⟩ (.slice none 0 0)) own own':=
 h.pkTo (P':= []) (QK.of_below (Below.refl _ _) _) (World.ownsRow_nil _ _ _ _) (fun i hi=>by simp[QZ]at hi)
theorem UX.indNil (h:UX w e cs tb bb bk im T tc Al lc lv bu se Ap pc es mc G own g m):
  UX (((w.setCell ⟨e,9,none⟩ (.slice none 0 0)).setCell ⟨e,10,none⟩ (.int .i64 0)).setCell ⟨e,11,none⟩ (.int .i64 0)) e (((cs.setIfInBounds 9 (.slice none 0 0)).setIfInBounds 10 (.int .i64 0)).setIfInBounds 11 (.int .i64 0)) tb bb bk im T tc none 0 [] 0 0 Ap pc es mc G own (fun s k=>Q2 s k []) m∧VZ w (((w.setCell ⟨e,9,none⟩ (.slice none 0 0)).setCell ⟨e,10,none⟩ (.int .i64 0)).setCell ⟨e,11,none⟩ (.int .i64 0)) own own:=by
 have hk:=((QK.set_ w ⟨e,9,none⟩ (.slice none 0 0)).trans (QK.set_ _ ⟨e,10,none⟩ (.int .i64 0)) (fun i hi=> .inl hi)).trans (QK.set_ _ ⟨e,11,none⟩ (.int .i64 0)) (fun i hi=> .inl hi)
 have f: ∀ {i k:Nat},own i k→k≠1→ ¬i=e:=fun hi hne=>h.fit (S:=fun i=>i=e) (fun i hi=>hi▸h.oe) hi hne
 have hc:=h.ec
 have hs:=hc.sz
 have c: ∀i v,cs[i]?=some v→i≠9→i≠10→i≠11→(((cs.setIfInBounds 9 (.slice none 0 0)).setIfInBounds 10 (.int .i64 0)).setIfInBounds 11 (.int .i64 0))[i]?=some v:=fun i v hv h9 h10 h11=>JZ (JZ (JZ hv (Ne.symm h9)) (Ne.symm h10)) (Ne.symm h11)
 refine⟨⟨⟨QJ.set_ (QJ.set_ (QJ.set_ h.ind.blk 9 _) 10 _) 11 _,JZ (JZ (Qt7 (by omega)) (by decide)) (by decide),JZ (Qt7 (by simp;omega)) (by decide),Qt7 (by simp;omega),World.ownsRow_nil _ _ _ _,by simp[QZ],Xp5⟩,⟨by simp;exact hs,c _ _ hc.c4 (by decide) (by decide) (by decide),c _ _ hc.c5 (by decide) (by decide) (by decide),c _ _ hc.c6 (by decide) (by decide) (by decide),c _ _ hc.c7 (by decide) (by decide) (by decide),c _ _ hc.c8 (by decide) (by decide) (by decide),c _ _ hc.c12 (by decide) (by decide) (by decide),c _ _ hc.c13 (by decide) (by decide) (by decide),c _ _ hc.c14 (by decide) (by decide) (by decide),c _ _ hc.c15 (by decide) (by decide) (by decide),c _ _ hc.c16 (by decide) (by decide) (by decide),c _ _ hc.c17 (by decide) (by decide) (by decide)⟩,Xc0,Nat.lt_of_lt_of_le h.tabl hk.size,(hk.cell (p:=⟨tb,0,none⟩) h.tabl (f h.ot (by decide))).trans h.tabc,h.tabp.keeps hk (fun i hi=>f (h.oT i hi) (by decide)),QJ.keeps h.bands hk (f h.ob (by decide)),h.book.keeps hk (fun i hi=>f (h.oG i hi) (by decide)),h.park.keeps hk (fun i hi=>f (h.op i hi) (by decide)),h.map_.of_block (hk.block _ h.map_.lt (f h.oi (by decide))),h.keys,h.ids,h.ok.mono hk.size,h.oe,h.ot,h.oT,h.ob,h.oG,fun i hi=>by simp[QZ]at hi,h.op,h.oi⟩,hk.mono (fun i hi=>⟨1,hi▸h.oe⟩),fun i k hi=> .inl hi⟩
theorem UX.otherBook {b':Nat} {G':Nat→Prop} {M1 M2:List QX} (h:UX w e cs tb bb bk im T tc Al lc lv bu se Ap pc es mc G own g m) (hB:Q1 w b' G' M1 M2) (hG: ∀i k,G' i→ ¬own i k):
  ∃own',UX (w.setCell ⟨e,8,none⟩ (.pointer (some ⟨b',0,none⟩))) e (cs.setIfInBounds 8 (.pointer (some ⟨b',0,none⟩))) tb bb b' im T tc Al lc lv bu se Ap pc es mc G' own' g {m with L1:=M1,L2:=M2}∧QK (fun i=> ∃k,own i k) w (w.setCell ⟨e,8,none⟩ (.pointer (some ⟨b',0,none⟩)))∧ ∀i k,own' i k→own i k∨G' i:=by
 have hk:=QK.set_ w ⟨e,8,none⟩ (.pointer (some ⟨b',0,none⟩))
 have f: ∀ {i k:Nat},own i k→k≠1→ ¬i=e:=fun hi hne=>h.fit (S:=fun i=>i=e) (fun i hi=>hi▸h.oe) hi hne
 have hc:=h.ec
 have hr2:=h.ind
 have n: ∀ {i k:Nat},own i k→own i k∨(G' i∧k=4):=fun hi=> .inl hi
 refine⟨fun i k=>own i k∨(G' i∧k=4),⟨⟨QJ.set_ hr2.blk 8 _,JZ hr2.c0 (by decide),JZ hr2.c1 (by decide),JZ hr2.c2 (by decide),hr2.row.keeps hk (fun i hi=>f (h.ol i hi) (by decide)),hr2.na,hr2.ok⟩,⟨by simp;exact hc.sz,JZ hc.c4 (by decide),JZ hc.c5 (by decide),JZ hc.c6 (by decide),JZ hc.c7 (by decide),Qt7 (by have:=hc.sz;omega),JZ hc.c12 (by decide),JZ hc.c13 (by decide),JZ hc.c14 (by decide),JZ hc.c15 (by decide),JZ hc.c16 (by decide),JZ hc.c17 (by decide)⟩,h.is,Nat.lt_of_lt_of_le h.tabl hk.size,(hk.cell (p:=⟨tb,0,none⟩) h.tabl (f h.ot (by decide))).trans h.tabc,h.tabp.keeps hk (fun i hi=>f (h.oT i hi) (by decide)),QJ.keeps h.bands hk (f h.ob (by decide)),hB.keeps hk (fun i hi hie=>hG i 1 hi (by have h3:i=e:=hie;rw[h3];exact h.oe)),h.park.keeps hk (fun i hi=>f (h.op i hi) (by decide)),h.map_.of_block (hk.block _ h.map_.lt (f h.oi (by decide))),h.keys,h.ids,⟨fun i k k' h1 h2=> ?_,fun i k h1=> ?_⟩,n h.oe,n h.ot,fun i hi=>n (h.oT i hi),n h.ob,fun i hi=> .inr ⟨hi,rfl⟩,fun i hi=>n (h.ol i hi),fun i hi=>n (h.op i hi),n h.oi⟩,hk.mono (fun i hi=>⟨1,hi▸h.oe⟩),fun i k hi=>hi.imp id (fun x=>x.1)⟩
 ·rcases h1 with h1|⟨a1,b1⟩
  ·rcases h2 with h2|⟨a2,b2⟩
   ·exact h.ok.uni i k k' h1 h2
   ·exact absurd h1 (hG i k a2)
  ·rcases h2 with h2|⟨a2,b2⟩
   ·exact absurd h2 (hG i k' a1)
   ·rw[b1,b2]
 ·rcases h1 with h1|⟨a1,b1⟩
  ·exact Nat.lt_of_lt_of_le (h.ok.lt i k h1) hk.size
  ·exact Nat.lt_of_lt_of_le (hB.fp a1) hk.size
theorem UX.mapTo {es':List MapEntry} {mc':Nat} {id:Int} (h:UX w e cs tb bb bk im T tc Al lc lv bu se Ap pc es mc G own g m) (ht:IV w w' im) (hm:Q4 w' im es' mc') (hks:Qh1 es') (QQ: ∀k,Z4 es' k=if k∈m.ids++ [id]then some (.bool true)else none):
  UX w' e cs tb bb bk im T tc Al lc lv bu se Ap pc es' mc' G own g {m with ids:=m.ids++ [id]}∧VZ w w' own own:=by
 have hk:QK (fun i=>i=im) w w':=⟨ht.os,ht.tape,ht.output,Nat.le_of_eq ht.size.symm,fun i _ hn=>ht.block i hn⟩
 have f: ∀ {i k:Nat},own i k→k≠7→ ¬i=im:=fun hi hne=>h.fit (S:=fun i=>i=im) (fun i hi=>hi▸h.oi) hi hne
 exact⟨⟨h.ind.keeps hk (f h.oe (by decide)) (fun i hi=>f (h.ol i hi) (by decide)),⟨h.ec.sz,h.ec.c4,h.ec.c5,h.ec.c6,h.ec.c7,h.ec.c8,h.ec.c12,h.ec.c13,h.ec.c14,h.ec.c15,h.ec.c16,h.ec.c17⟩,h.is,Nat.lt_of_lt_of_le h.tabl hk.size,(hk.cell (p:=⟨tb,0,none⟩) h.tabl (f h.ot (by decide))).trans h.tabc,h.tabp.keeps hk (fun i hi=>f (h.oT i hi) (by decide)),QJ.keeps h.bands hk (f h.ob (by decide)),h.book.keeps hk (fun i hi=>f (h.oG i hi) (by decide)),h.park.keeps hk (fun i hi=>f (h.op i hi) (by decide)),hm,hks,QQ,h.ok.mono hk.size,h.oe,h.ot,h.oT,h.ob,h.oG,h.ol,h.op,h.oi⟩,hk.mono (fun i hi=>⟨7,hi▸h.oi⟩),fun i k hi=> .inl hi⟩
end
end Go.Proofs.YtnlngicnfegjgaaGreatDoor
namespace Go.Proofs.YtnlngicnfegjgaaGreatDoor
open Go.RowKit
theorem Kj3 {w:World} {a:Act} {Q:Ending→World→Prop} {g:Nat} {cs:Array Value} (hp:a.tmps.getD 4 undef= .pointer (some ⟨g,0,none⟩)) (hd:a.defers= [])
  (hg:QJ w g 83 cs) (h2:cs.size=3) (h:Q (.returned (.agg cs)) w):bodyPost Tryz.prog Tryz.f80 Q .ret a w:=
 bodyPost_ret (results_cell_row Tryz.results80 a.tmps w g _ cs (0,0) _ hp hg Tryz.underlying83 rfl (by rw[h2];kernel_rfl)) hd h
theorem Kj4 (w:World) (X:Nat) (t:TypeId) (cs:Array Value) (o:Nat) (A:Option Addr) (c:Nat) (lv:List XJ) (bu se:Int) (h:Qj1 w X t cs o A c lv bu se) (hs:Jd5 lv bu se) (r:Int) (hr: -1099511627776≤r∧r≤1099511627776) (hN: ∀p∈J2 lv bu se r,Je7 p) (hl:(J2 lv bu se r).length≤100000):
  Calls Tryz.prog 80 #[.pointer (some ⟨X,o,none⟩),.int .i64 r] w fun e w'=>e= .returned (Qv7 (Q9 (J2 lv bu se r) r))∧Below w.heap.size w w':=by
 have hb1:Below w.heap.size w (w.alloc (.cells #[.int .i64 0,.int .i64 0,.int .i64 0] 83)):=(Below.refl _ w).alloc (Nat.le_refl _) _
 have HP:=QQ (Xw9 _ X t cs o A c lv bu se (h.below hb1) hs r)
 have HC:=QQ (fun(W:World) (A:Option Addr) (c:Nat) (hR:QY W A (J2 lv bu se r).length c 244 3 (QW KV (J2 lv bu se r)))=>Xt9 A _ c r hr (J2 lv bu se r) W (XZ.of_row JK (by omega) hR) hN hl)
 have HB:=QQ hb1
 have HX:=QQ (QJ.new w 83 #[.int .i64 0,.int .i64 0,.int .i64 0])
 obtain⟨⟨t0,t1,t2⟩,ET⟩: ∃q,Hid (Q9 (J2 lv bu se r) r=q):=⟨_,QQ rfl⟩
 rw[ET.out]
 clear h hs hN hl hb1
 go_enter Tryz.func80,Tryz.ntmps80
 go_wp2_with fail
 refine HP.out.mono ?_
 rintro e w2 ⟨hb2,A2,c2,rfl,hR2⟩
 have hC:=HC.out w2 A2 c2 hR2
 rw[ET.out]at hC
 unfold Qv7 at hC
 dsimp only at hC
 have HC2:=QQ hC
 have HB2:=QQ hb2
 clear hC hb2 hR2 HC HP
 go_wp2_with fail
 refine HC2.out.mono ?_
 rintro e w3 ⟨rfl,hb3⟩
 have hX3:=QJ.keep (QJ.keep HX.out HB2.out) hb3
 have hf0:=QJ.frozen hX3 0
 have hf1:=QJ.frozen hX3 1
 have hf2:=QJ.frozen hX3 2
 obtain⟨z0,z1,z2⟩:w3.cell? ⟨w.heap.size,0,none⟩=some (.int .i64 0)∧w3.cell? ⟨w.heap.size,1,none⟩=some (.int .i64 0)∧w3.cell? ⟨w.heap.size,2,none⟩=some (.int .i64 0):=⟨by rw[QJ.cell hX3];rfl,by rw[QJ.cell hX3];rfl,by rw[QJ.cell hX3];rfl⟩
 have HX3:=QQ hX3
 have HB3:=QQ (HB.out.trans ((HB2.out.trans (hb3.mono HB2.out.size)).mono HB.out.size))
 clear hX3 hb3 HC2
 go_wp2_with fail
 refine Kj3 (g:=w.heap.size) (cs:= #[.int .i64 t0,.int .i64 t1,.int .i64 t2]) (by with_unfolding_all rfl) (by with_unfolding_all rfl) (QJ.set_ (QJ.set_ (QJ.set_ HX3.out 0 _) 1 _) 2 _) rfl ?_
 exact⟨rfl,((HB3.out.setCell (Nat.le_refl _) _).setCell (Nat.le_refl _) _).setCell (Nat.le_refl _) _⟩
section
variable {w:World} {e:Nat} {F:Nat→Prop} {m:ZJ}
theorem Qm8 (h:UK w e F m):Calls Tryz.prog 9 #[.pointer (some ⟨e,0,none⟩)] w fun ev w'=>ev= .returned (.int .i64 m.ph)∧Below w.heap.size w w':=by
 obtain⟨cs,tb,bb,bk,im,T,tc,Al,lc,lv,bu,se,Ap,pc,es,mc,G,own,hM,hF⟩:=h
 have c:=hM.cell hM.ec.c14
 clear hM hF
 go_enter Tryz.func9,Tryz.ntmps9
 go_wp2
 go_ret
 exact⟨rfl,Below.refl _ _⟩
theorem Xp9 (h:UK w e F m):Calls Tryz.prog 8 #[.pointer (some ⟨e,0,none⟩)] w fun ev w'=>ev= .returned (.int .i64 m.now)∧Below w.heap.size w w':=by
 obtain⟨cs,tb,bb,bk,im,T,tc,Al,lc,lv,bu,se,Ap,pc,es,mc,G,own,hM,hF⟩:=h
 have c:=hM.cell hM.ec.c15
 clear hM hF
 go_enter Tryz.func8,Tryz.ntmps8
 go_wp2
 go_ret
 exact⟨rfl,Below.refl _ _⟩
theorem Kj5 (h:UK w e F m):Calls Tryz.prog 29 #[.pointer (some ⟨e,0,none⟩)] w fun ev w'=>ev= .returned (.tuple #[.int .i64 m.an,.int .i64 m.la])∧Below w.heap.size w w':=by
 obtain⟨cs,tb,bb,bk,im,T,tc,Al,lc,lv,bu,se,Ap,pc,es,mc,G,own,hM,hF⟩:=h
 have c:=hM.cell hM.ec.c7
 have HB:=QQ hM.bands
 clear hM hF
 go_enter Tryz.func29,Tryz.ntmps29
 go_wp2_with fail
 go_quiet (first|(go_at_call 77;exact Calls.quiet_of_same ((Xv7 bb m.st m.dy m.an m.la _ (by first|exact HB.out|exact QJ.drew HB.out|exact QJ.drewN HB.out _)).mono (fun _ _ ⟨h1,h2⟩=>⟨h1,h2.symm⟩)))|(go_at_call 78;exact Calls.quiet_of_same ((Qw5 bb m.st m.dy m.an m.la _ (by first|exact HB.out|exact QJ.drew HB.out|exact QJ.drewN HB.out _)).mono (fun _ _ ⟨h1,h2⟩=>⟨h1,h2.symm⟩))))
 go_wp2
 go_ret2
 exact⟨rfl,JQ (Below.refl _ _) _⟩
theorem Ja8 (h:UK w e F m) (sd:Int) (hs:VV sd):Calls Tryz.prog 11 #[.pointer (some ⟨e,0,none⟩),.int .i64 sd] w fun ev w'=>Below w.heap.size w w'∧ ∃A c,ev= .returned (.tuple #[.slice A (JY sd m.L1 m.L2).length c,.nilIface])∧QY w' A (JY sd m.L1 m.L2).length c 29 5 (QW U7 (JY sd m.L1 m.L2))∧ ∀g,QZ A=some g→w.heap.size≤g:=by
 obtain⟨cs,tb,bb,bk,im,T,tc,Al,lc,lv,bu,se,Ap,pc,es,mc,G,own,hM,hF⟩:=h
 have c:=hM.cell hM.ec.c8
 have HS:=QQ (Qc5 w bk G m.L1 m.L2 hM.book sd hs)
 clear hM hF hs
 obtain⟨l,hl⟩: ∃l,JY sd m.L1 m.L2=l:=⟨_,rfl⟩
 rw[hl]at HS⊢
 go_enter Tryz.func11,Tryz.ntmps11
 go_wp2_with fail
 refine HS.out.mono ?_
 rintro ev w2 ⟨hb,A,cc,rfl,hr,hg⟩
 have HR:=QQ hr
 have HG:=QQ hg
 clear hr hg
 go_wp2_with fail
 go_ret2
 exact⟨hb,A,cc,rfl,HR.out,HG.out⟩
theorem Kj6 (h:UK w e F m):Calls Tryz.prog 25 #[.pointer (some ⟨e,0,none⟩)] w fun ev w'=>ev= .returned (YV (Jc0 m))∧YZ w w' e F (Qe2 m):=by
 obtain⟨cs,tb,bb,bk,im,T,tc,Al,lc,lv,bu,se,Ap,pc,es,mc,G,own,hM,hF⟩:=h
 have c:=hM.cell hM.ec.c14
 have f:=hM.frozen 14
 have HM:=QQ hM
 have HF:=QQ hF
 clear hM hF
 obtain⟨p,hp⟩: ∃p,m.ph=p:=⟨_,rfl⟩
 rw[hp]at c
 have HP:=QQ hp
 clear hp
 by_cases c6:p=6
 ·have d:=J4 c6
  have HE:Hid (Jc0 m=6∧Qe2 m=m):=QQ (by unfold Jc0 Qe2;rw[HP.out,if_pos (.inl c6),if_pos (.inl c6)];exact⟨rfl,rfl⟩);clear c6;rw[HE.out.1,HE.out.2];go_enter Tryz.func25,Tryz.ntmps25
  go_wp2;go_ret;exact⟨rfl,_,HM.out.at_ (fun _ _ _=>rfl),(VZ.of_below (Below.refl _ _)).bstep HF.out⟩
 ·have d:=UQ c6
  by_cases c7:p=7
  ·have d7:=J4 c7
   have HE:Hid (Jc0 m=6∧Qe2 m=m):=QQ (by unfold Jc0 Qe2;rw[HP.out,if_pos (.inr c7),if_pos (.inr c7)];exact⟨rfl,rfl⟩);clear c6 c7;rw[HE.out.1,HE.out.2];go_enter Tryz.func25,Tryz.ntmps25
   go_wp2;go_ret;exact⟨rfl,_,HM.out.at_ (fun _ _ _=>rfl),(VZ.of_below (Below.refl _ _)).bstep HF.out⟩
  ·have d7:=UQ c7
   have HE:Hid (Jc0 m=0∧Qe2 m= {m with ph:=6}):=QQ (by unfold Jc0 Qe2;rw[HP.out,if_neg (by omega),if_neg (by omega)];exact⟨rfl,rfl⟩);clear c6 c7;rw[HE.out.1,HE.out.2];go_enter Tryz.func25,Tryz.ntmps25
   go_wp2;go_ret;obtain⟨hM2,ho⟩:=HM.out.setPh 6;exact⟨rfl,_,hM2.at_ (fun _ _ _=>rfl),ho.bstep HF.out⟩
theorem O0 (h:UK w e F m) (hn: -1000000000000≤m.now∧m.now≤1000000000000) (ht:0≤m.tk∧m.tk≤1000000):Calls Tryz.prog 75 #[.pointer (some ⟨e,0,none⟩)] w fun ev w'=>ev= .returned (.tuple #[])∧YZ w w' e F (Jh2 m):=by
 obtain⟨cs,tb,bb,bk,im,T,tc,Al,lc,lv,bu,se,Ap,pc,es,mc,G,own,hM,hF⟩:=h
 have c4:=hM.cell hM.ec.c4
 have c15:=hM.cell hM.ec.c15
 have c14:=hM.cell hM.ec.c14
 have c16:=hM.cell hM.ec.c16
 have c17:=hM.cell hM.ec.c17
 have f14:=hM.frozen 14
 have f16:=hM.frozen 16
 have f17:=hM.frozen 17
 have i1:RowKit.wrap64 (m.now+m.tk)=m.now+m.tk:=by unfold RowKit.wrap64;omega
 have HM:=QQ hM
 have HF:=QQ hF
 clear hM hF hn ht
 go_enter Tryz.func75,Tryz.ntmps75
 go_region
 go_wp2
 refine bodyPost_end (results_none rfl _ _ _) rfl ?_
 obtain⟨hM1,ho1⟩:=HM.out.setPh 4
 obtain⟨hM2,ho2⟩:=hM1.setEnds (m.now+m.tk)
 obtain⟨hM3,ho3⟩:=hM2.setLng 0
 have hd:=Below.drew (Below.refl (((w.setCell ⟨e,14,none⟩ (.int .i64 4)).setCell ⟨e,16,none⟩ (.int .i64 (m.now+m.tk))).setCell ⟨e,17,none⟩ (.int .i64 0)).heap.size (((w.setCell ⟨e,14,none⟩ (.int .i64 4)).setCell ⟨e,16,none⟩ (.int .i64 (m.now+m.tk))).setCell ⟨e,17,none⟩ (.int .i64 0)))
 exact⟨rfl,_,(hM3.below hd).at_ (m:=Jh2 m) (fun _ _ _=>rfl),(((ho1.trans ho2).trans ho3).trans (VZ.of_below hd)).bstep HF.out⟩
end
section
variable {w w':World} {e:Nat} {F:Nat→Prop} {cs:Array Value} {tb bb bk im:Nat} {T:Option Addr} {tc:Nat} {Al:Option Addr} {lc:Nat} {lv:List XJ} {bu se:Int} {Ap:Option Addr} {pc:Nat} {es:List MapEntry} {mc:Nat} {G:Nat→Prop} {own:Nat→Nat→Prop} {m:ZJ}
theorem Xc3 (hM:UX w e cs tb bb bk im T tc Al lc lv bu se Ap pc es mc G own (fun s k=>Q2 s k (Qc0 m)) m) (hla:1≤m.la∧m.la≤1000000) (W:World) (hW:Below w.heap.size w W):
  Calls Tryz.prog 80 #[.pointer (some ⟨e,9,none⟩),.int .i64 m.la] W fun ev w'=>ev= .returned (Qv7 (YY m))∧Below W.heap.size W w':=by
 have hl:=hM.book.lists
 have hr:=X0 hl
 have hp:=hM.is.points hM.ind.ok hr m.la
 have hcnt:(Qc0 m).length≤100:=hl.cnt
 have hnear:=Kq6 (l:=Qc0 m) (more:=m.la) hcnt (fun o ho hk=>(hr o ho).2.2.resolve_left hk) hla.2
 have hN: ∀p∈J2 lv bu se m.la,Je7 p:=fun p h=>by
  have h1:=hnear p (hp▸h);exact⟨⟨h1.1,h1.2.1⟩,⟨by omega,by omega⟩,⟨by omega,by omega⟩⟩
 have hlen:(J2 lv bu se m.la).length≤100000:=by
  have h1:=Xt4 (Qc0 m) m.la;have h2:(J2 lv bu se m.la).length=(V0 (Qc0 m) m.la).length:=congrArg List.length hp;omega
 have key:=Kj4 W e 103 cs 9 Al lc lv bu se (hM.below hW).ind (Ju7 hl hM.ind.ok hM.is) m.la (by omega) hN hlen
 have e2:Q9 (J2 lv bu se m.la) m.la=YY m:=by
  unfold YY;rw[hp]
  rfl
 rw[e2]at key
 exact key
end
theorem Xc4 {L1 L2:List QX} (h:XY L1 L2) (p:Int):Qo7 p (L1++L2)=V8 1 p L1:=by
 have e1:Qo7 p (L1++L2)=Qb4 (Jc6 p) (L1++L2):=by unfold Qo7;rw[Js7];omega
 have e3:Qb4 (Jc6 p) L2=0:=Xa1 fun o ho=>by unfold Jc6;rw[if_neg (by have:=h.s2 o ho;omega)]
 have e4:Qb4 (Jc6 p) L1=V8 1 p L1:=Js8 fun o ho=>by
  have:=h.s1 o ho;unfold Jc6 O3
  by_cases hk:o.kind=2<;>by_cases hp:p≤o.price<;>simp[this,hk,hp]
 rw[e1,Qw7,e3,e4]
 omega
theorem Xc5 {L1 L2:List QX} (h:XY L1 L2) (p:Int):Qo8 p (L1++L2)=V8 2 p L2:=by
 have e1:Qo8 p (L1++L2)=Qb4 (Jc7 p) (L1++L2):=by unfold Qo8;rw[Js7];omega
 have e3:Qb4 (Jc7 p) L1=0:=Xa1 fun o ho=>by unfold Jc7;rw[if_neg (by have:=h.s1 o ho;omega)]
 have e4:Qb4 (Jc7 p) L2=V8 2 p L2:=Js8 fun o ho=>by
  have:=h.s2 o ho;unfold Jc7 O3
  by_cases hk:o.kind=2<;>by_cases hp:o.price≤p<;>simp[this,hk,hp]
 rw[e1,Qw7,e3,e4]
 omega
theorem Jn8 {L1 L2:List QX} (h:XY L1 L2):Jb4 (L1++L2):=fun o ho=>by
 have h1:=X0 h o ho
 unfold okO
 rw[J5 h1.2.1.1,J5 h1.2.1.2]
 rcases h1.1 with e|e
 ·rw[e];rfl
 ·rw[e];rfl
theorem Xq0 {L1 L2:List QX} (h:XY L1 L2) {more:Int} (hm:1≤more∧more≤1000000): ∀y∈V0 (L1++L2) more,1≤y.1∧y.1≤1000000:=by
 intro y hy
 obtain⟨q,hq,rfl⟩:=List.mem_map.1 hy
 have hq:=(Xt5 _ _).1 hq
 show 1≤q∧q≤1000000
 unfold U0 at hq
 rcases List.mem_append.1 hq with hq|hq
 ·rw[if_pos hm.1]at hq
  simp at hq;omega
 ·obtain⟨o,ho,rfl⟩:=List.mem_map.1 hq
  have h1:=(List.mem_filter.1 (List.mem_filter.1 ho).1).1;exact(h.ok o h1).2.2.1
theorem Ja9 {m:ZJ} (h:XY m.L1 m.L2) (hla:1≤m.la∧m.la≤1000000) (hq:0< (YY m).2.1):
  (YY m).2.1≤V8 1 (YY m).1 m.L1∧(YY m).2.1≤V8 2 (YY m).1 m.L2∧1≤(YY m).1∧(YY m).1≤1000000:=by
 have hb:=(Jz1 (Jn8 h) hla.1 m.la).2 hq
 have h1:=hb.1
 rw[Xc4 h,Xc5 h]at h1
 have h2:(YY m).2.1=min (V8 1 (YY m).1 m.L1) (V8 2 (YY m).1 m.L2):=h1
 refine⟨by omega,by omega, ?_⟩
 rcases choose_spec (V0 (Qc0 m) m.la) m.la with⟨e,-⟩|⟨y,hy,e,-,-⟩
 ·have:(YY m).2.1=0:=by unfold YY;rw[e]
  omega
 ·have e2:(YY m).1=y.1:=by unfold YY;rw[e]
  rw[e2];exact Xq0 h hla y hy
def Qb5 (L:List QX):List QX:=L.filter fun o=>o.kind ==1
theorem Qp7 {L:List QX} {o:QX} (h:o.kind=1):Qb5 (L++ [o])=Qb5 L++ [o]:=by unfold Qb5;rw[List.filter_append,List.filter_cons_of_pos (by simp[h])];rfl
theorem Qt8 {L:List QX} {o:QX} (h:o.kind≠1):Qb5 (L++ [o])=Qb5 L:=by unfold Qb5;rw[List.filter_append,List.filter_cons_of_neg (by simpa using h)];simp
theorem Qx7 {L:List QX} {o:QX} (h:o∈Qb5 L):o∈L:=(List.mem_filter.1 h).1
def Qx8 (l:List QX) (k:Nat):List QX:=Qb5 (l.take k)++l.drop k
theorem Xc6 (l:List QX):Qx8 l 0=l:=by unfold Qx8;rw[List.take_zero,List.drop_zero];rfl
theorem Xq1 {l:List QX} {k:Nat} (h:l.length≤k):Qx8 l k=Qb5 l:=by unfold Qx8;rw[List.take_of_length_le h,List.drop_eq_nil_of_le h,List.append_nil]
theorem Xq2 {l:List QX} {k:Nat} (hk:k<l.length) (h:l[k].kind=1):Qx8 l (k+1)=Qx8 l k:=by
 unfold Qx8
 rw[List.take_succ_eq_append_getElem hk,Qp7 h,List.drop_eq_getElem_cons hk]
 simp
theorem Kd6 {l:List QX} {k:Nat} (hk:k<l.length) (h:l[k].kind≠1) (hn:(l.map (·.id)).Nodup):O7 (Qx8 l k) l[k].id=Qx8 l (k+1)∧l[k]∈Qx8 l k:=by
 have hd:=List.drop_eq_getElem_cons hk
 have e:l=l.take k++l[k]::l.drop (k+1):=by rw[←hd,List.take_append_drop]
 have hn2:((l.take k++l[k]::l.drop (k+1)).map (·.id)).Nodup:=by rw[←e];exact hn
 rw[List.map_append,List.map_cons,List.nodup_append,List.nodup_cons]at hn2
 refine⟨?_,List.mem_append_right _ (by rw[hd];exact List.mem_cons_self)⟩
 unfold Qx8
 rw[List.take_succ_eq_append_getElem hk,Qt8 h,hd]
 unfold O7
 rw[List.filter_append,List.filter_cons_of_neg (by simp),List.filter_eq_self.2 (fun y hy=> ?_),List.filter_eq_self.2 (fun y hy=> ?_)]
 ·have:y.id≠l[k].id:=fun e2=>hn2.2.1.1 (by rw[←e2];exact List.mem_map.2 ⟨y,hy,rfl⟩)
  simpa using this
 ·have:=hn2.2.2 _ (List.mem_map.2 ⟨y,Qx7 hy,rfl⟩) _ (List.mem_cons_self)
  simpa using this
end Go.Proofs.YtnlngicnfegjgaaGreatDoor
