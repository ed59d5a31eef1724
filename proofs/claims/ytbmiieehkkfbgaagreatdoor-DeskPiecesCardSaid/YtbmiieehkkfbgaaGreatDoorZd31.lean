/- Contracts and walks that the law's proof needs. -/
import Derived.WalkKit
import Derived.WalkLawsBesides
import Derived.WalkSpells
import Derived.StillTailTactics
import Derived.Deep.QuietTactic
import Derived.BigQuiet
import Derived.Deep.CutBlock
import Derived.Test.YtbmiieehkkfbgaaGreatDoorZd30
import Derived.Test.YtbmiieehkkfbgaaGreatDoorZd26
import Derived.Shelf.Abstract
import Derived.Test.YtbmiieehkkfbgaaGreatDoorZd29
import Derived.Test.YtbmiieehkkfbgaaGreatDoorZd28
import Derived.Test.YtbmiieehkkfbgaaGreatDoorZd27
import Derived.Test.YtbmiieehkkfbgaaGreatDoorZd20
import Derived.Test.YtbmiieehkkfbgaaGreatDoorZd7
set_option linter.unusedVariables false
set_option maxRecDepth 100000
set_option maxHeartbeats 8000000
namespace Go.Proofs.YtbmiieehkkfbgaaGreatDoor
open Go.RowKit
theorem J8 {L1 L2:List QX} (h:ZW L1 L2):Xk3 (L1++L2):=fun o ho=>by
 have h1:=h.ok o ho
 refine⟨?_,h1.2.2.2,.inr h1.2.2.1⟩
 rcases List.mem_append.1 ho with h2|h2
 ·exact .inl (h.s1 o h2)
 ·exact .inr (h.s2 o h2)
theorem Kc8 {L1 L2:List QX} (h:ZW L1 L2) (s:Int) (k:Option Int):0≤Q3 s k (L1++L2)∧Q3 s k (L1++L2)≤1000000000:=by
 have h1:=Qh2 (s:=s) (k:=k) (J8 h)
 have h2:=h.cnt
 omega
theorem Jy1 {L1 L2:List QX} {lv:List XJ} {bu se:Int} (h:ZW L1 L2) (hk:Jb9 lv) (hi:Qd3 lv bu se (fun s k=>Q3 s k (L1++L2))):Je7 lv bu se:=
 hi.mild hk (fun s k=>Kc8 h s k) (by have:=hi.few hk;have:=h.cnt;omega)
theorem Xu8 (z:QX):Qa0 (JJ z)=Qa0 z:=by
 unfold Qa0 JJ
 dsimp only
 split<;>rfl
theorem Ky7 {L1 L2:List QX} {z:QX} (hz:UQ z.side) (s:Int) (k:Option Int):Q3 s k (Qd4 1 L1 z++Qd4 2 L2 z)=Q3 s k (L1++L2)+if z.side=s∧Qa0 z=k then 1*z.qty else 0:=by
 have key: ∀s' L,Q3 s k (Qt1 s' L (JJ z))=(if z.side=s∧Qa0 z=k then z.qty else 0)+Q3 s k L:=fun s' L=>by
  rw[Xe7 (Qr7 s' L (JJ z)),Qb8,Xu8]
  rfl
 rw[U7,U7]
 unfold Qd4
 rcases hz with e|e
 ·rw[if_pos e,if_neg (by omega),key,Int.one_mul]
  omega
 ·rw[if_neg (by omega),if_pos e,key,Int.one_mul]
  omega
theorem Kc9 {L1 L2:List QX} {z:QX} (h:Qm5 L1 L2 z=0):Qb0 z:=by
 unfold Qm5 at h
 cases h1:Jc0 z with
 |false=>rw[h1]at h;simp at h
 |true=>
  cases h2:Qr3 z with
  |false=>rw[h1,h2]at h;simp at h
  |true=>
   unfold Jc0 at h1;unfold Qr3 at h2;rw[V3]at h2;simp at h1;refine⟨h1.1,h2.2.2, ?_⟩;unfold JJ at h2;dsimp only at h2
   by_cases hk:z.kind=2
   ·exact .inl hk
   ·rw[if_neg hk]at h2
    exact .inr ⟨h2.1,h2.2.1⟩
theorem Jy2 {lv lv':List XJ} {bu se bu' se':Int} {z:QX} (hz:Qb0 z) (h:Qv6 lv bu se z 1 lv' bu' se'):Qg0 lv bu se z 1=0∧Jb1 lv bu se z 1 lv' bu' se':=by
 have e:Qg0 lv bu se z 1=0:=by
  unfold Qg0;rw[if_pos ((Qh1 z).2 hz),if_neg (by intro x;exact absurd x.1 (by decide))]
 unfold Qv6 at h
 rw[if_pos e]at h
 exact⟨e,h⟩
theorem Zf7 {m:VQ} {z:QX} (h:Qm5 m.L1 m.L2 z≠0):Qf3 m z=m:=by
 unfold Qf3 Jx4
 rw[if_neg h,if_neg h]
theorem Ky8 {m:VQ} {z:QX} (h:Qm5 m.L1 m.L2 z=0):Qf3 m z= {m with L1:=Qd4 1 m.L1 z,L2:=Qd4 2 m.L2 z}:=by
 unfold Qf3 Jx4
 rw[if_pos h,if_pos h]
def Zf8 (w w':World) (e tb bb bk im:Nat) (T:Option Addr) (tc:Nat) (Ap:Option Addr) (pc:Nat) (es:List MapEntry) (mc:Nat) (own:Nat→Nat→Prop) (m:VQ):Prop:=
 ∃cs Al lc lv bu se G own',UZ w' e cs tb bb bk im T tc Al lc lv bu se Ap pc es mc G own' (fun s k=>Q3 s k (Qa4 m)) m∧VW w w' own own'
theorem Zf8.to {w w':World} {e tb bb bk im:Nat} {T:Option Addr} {tc:Nat} {Ap:Option Addr} {pc:Nat} {es:List MapEntry} {mc:Nat} {own:Nat→Nat→Prop} {m:VQ} {F:Nat→Prop} (h:Zf8 w w' e tb bb bk im T tc Ap pc es mc own m) (hF: ∀i,F i↔ ∃k,own i k):ZZ w w' e F m:=by
 obtain⟨cs,Al,lc,lv,bu,se,G,own',hM,ho⟩:=h
 exact⟨_,hM.at_ (fun _ _ _=>rfl),ho.bstep hF⟩
theorem UZ.lots {w:World} {e:Nat} {cs:Array Value} {tb bb bk im:Nat} {T:Option Addr} {tc:Nat} {Al:Option Addr} {lc:Nat} {lv:List XJ} {bu se:Int} {Ap:Option Addr} {pc:Nat} {es:List MapEntry} {mc:Nat} {G:Nat→Prop} {own:Nat→Nat→Prop} {g g':Int→Option Int→Int} {m:VQ}
  (h:UZ w e cs tb bb bk im T tc Al lc lv bu se Ap pc es mc G own g m) (hg: ∀s k,(s=1∨s=2)→g s k=g' s k):UZ w e cs tb bb bk im T tc Al lc lv bu se Ap pc es mc G own g' m:=
 ⟨h.ind,h.ec,h.is.congr hg,h.tabl,h.tabc,h.tabp,h.bands,h.book,h.park,h.map_,h.keys,h.ids,h.ok,h.oe,h.ot,h.oT,h.ob,h.oG,h.ol,h.op,h.oi⟩
theorem Ki5 {w:World} {e:Nat} {cs:Array Value} {tb bb bk im:Nat} {T:Option Addr} {tc:Nat} {Al:Option Addr} {lc:Nat} {lv:List XJ} {bu se:Int} {Ap:Option Addr} {pc:Nat} {es:List MapEntry} {mc:Nat} {G:Nat→Prop} {own:Nat→Nat→Prop} {m:VQ}
  (hM:UZ w e cs tb bb bk im T tc Al lc lv bu se Ap pc es mc G own (fun s k=>Q3 s k (Qa4 m)) m) (z:QX) (hf:Qf4 z):
  Calls Tryz.prog 116 #[.pointer (some ⟨e,0,none⟩),KJ z] w fun ev w'=>ev= .returned (.tuple #[])∧Zf8 w w' e tb bb bk im T tc Ap pc es mc own (Qf3 m z):=by
 have hb1:Below w.heap.size w (w.alloc (.cells (KV z) 117)):=(Below.refl _ w).alloc (Nat.le_refl _) _
 have hX:=QJ.new w 117 (KV z)
 have hM1:=hM.below hb1
 obtain⟨w1,ew1⟩: ∃W,w.alloc (.cells (KV z) 117)=W:=⟨_,rfl⟩
 rw[ew1]at hb1 hX hM1
 have hadd:=Xu7 w1.drew bk G m.L1 m.L2 (hM1.book.below (Below.drew (Below.refl _ _))) z hf
 unfold KV at ew1
 unfold KJ at hadd⊢
 have HAdd:=QQ hadd
 have HM1:=QQ hM1
 have HX:=QQ hX
 have HB1:=QQ hb1
 have HO:=QQ hM.ok
 have HFit:=QQ hf
 have c8:=hM1.cell hM1.ec.c8
 obtain⟨x0,x1,x2,x3,x4⟩:=JV hX
 clear hM hb1 hX hM1 hadd hf
 go_enter Tryz.func116,Tryz.ntmps116
 go_upto_region 1 with fail
 try rw[ew1]
 clear ew1
 go_still_tail 5,(by kernel_rfl)
 change wpList _ _ _ _ _ w1.drew
 go_wp2_with fail
 refine HAdd.out.mono ?_
 rintro ev w2 (⟨hne,rfl,hb2⟩|⟨hz,rfl,hto⟩)
 ·have hb12:Below w1.heap.size w1 w2:=(Below.drew (Below.refl _ w1)).trans hb2
  have HB12:=QQ hb12;have HNe:=QQ hne;clear hb2 hb12 c8 x0 x1 x2 x3 x4;unfold VZ;rw[if_neg hne];clear hne HAdd;go_wp2_with fail
  refine bodyPost_end (results_none rfl _ _ _) rfl ?_;rw[Zf7 HNe.out];exact⟨rfl,_,_,_,_,_,_,_,_,HM1.out.below HB12.out,VW.of_below (HB1.out.trans (HB12.out.mono HB1.out.size))⟩
 ·rw[K0]
  obtain⟨G2,own2,hM2,ho2⟩:=(HM1.out.below (Below.drew (Below.refl _ w1))).bookTo hto;have hX2:=QJ.keeps (QJ.drew HX.out) ho2.1 (fun⟨k,hk⟩=>Nat.lt_irrefl _ (HO.out.lt _ _ hk));have hml:=Jy1 HM1.out.book.lists HM1.out.ind.ok HM1.out.is;have hind:=Xj8 w2.drew e 126 cs 9 Al lc lv bu se (hM2.below (Below.drew (Below.refl _ w2))).ind hml.small z;unfold KJ at hind;have HInd:=QQ hind;have HM2:=QQ hM2;have HO2:=QQ ho2;have HZ:=QQ hz;obtain⟨x0,x1,x2,x3,x4⟩:=JV hX2;clear hto hM2 ho2 hX2 hml hind hz HAdd c8;go_wp2_with fail
  go_still_tail 4,(by kernel_rfl)
  change wpList _ _ _ _ _ w2.drew;go_wp2_with fail
  refine HInd.out.mono ?_;rintro ev w3 ⟨rfl,lv',bu',se',hit,htd⟩;clear x0 x1 x2 x3 x4;go_wp2_with fail
  refine bodyPost_end (results_none rfl _ _ _) rfl ?_;have hr:=Kc9 HZ.out;obtain⟨-,hchg⟩:=Jy2 hr htd;have his:=(HM2.out.is).chg hr.1 hchg;obtain⟨cs3,Al3,lc3,own3,hM3,ho3⟩:=(HM2.out.below (Below.drew (Below.refl _ w2))).indTo hit his;rw[Ky8 HZ.out];refine⟨rfl,_,_,_,_,_,_,_,_,hM3.lots (fun s k hs=> ?_),(((VW.of_below (HB1.out.trans ((Below.drew (Below.refl _ w1)).mono HB1.out.size))).trans HO2.out).trans (VW.of_below (Below.drew (Below.refl _ w2)))).trans ho3⟩;exact(Ky7 hr.1 s k).symm
theorem Jm0 (w:World) (e:Nat) (F:Nat→Prop) (m:VQ) (h:YQ w e F m) (z:QX) (hf:Qf4 z):
  Calls Tryz.prog 116 #[.pointer (some ⟨e,0,none⟩),KJ z] w fun ev w'=>ev= .returned (.tuple #[])∧ZZ w w' e F (Qf3 m z):=by
 obtain⟨cs,tb,bb,bk,im,T,tc,Al,lc,lv,bu,se,Ap,pc,es,mc,G,own,hM,hF⟩:=h
 exact(Ki5 hM z hf).mono fun ev w' ⟨h1,h2⟩=>⟨h1,h2.to hF⟩
theorem Ky9 {L:List QX} (hn:(L.map (·.id)).Nodup) {id:Int} {o:QX} (h:Qa8 L id=some o):L.Perm (o::O0 L id):=by
 have QQ:o.id=id:=by
  have:=List.find?_some h;simpa using this
 obtain⟨A,B,rfl⟩:=List.append_of_mem (List.mem_of_find?_eq_some h)
 rw[List.map_append,List.map_cons,List.nodup_append,List.nodup_cons]at hn
 have e:O0 (A++o::B) id=A++B:=by
  unfold O0;rw[List.filter_append,List.filter_cons_of_neg (by simp[QQ]),List.filter_eq_self.2 (fun y hy=> ?_),List.filter_eq_self.2 (fun y hy=> ?_)]
  ·have:y.id≠id:=fun e=>hn.2.1.1 (by rw[QQ,←e];exact List.mem_map.2 ⟨y,hy,rfl⟩)
   simpa using this
  ·have:=hn.2.2 _ (List.mem_map.2 ⟨y,hy,rfl⟩) _ (List.mem_cons_self)
   rw[QQ]at this;simpa using this
 rw[e]
 exact List.perm_middle
theorem Kz0 {L1 L2:List QX} (hl:ZW L1 L2) {id:Int} {o:QX} (h:Qa8 (L1++L2) id=some o) (s:Int) (k:Option Int):Q3 s k (O0 L1 id++O0 L2 id)=Q3 s k (L1++L2)+if o.side=s∧Qa0 o=k then -1*o.qty else 0:=by
 have e:O0 L1 id++O0 L2 id=O0 (L1++L2) id:=(List.filter_append _ _).symm
 rw[e,Xe7 (Ky9 hl.ids h),Qb8]
 split<;>omega
theorem Xg0 {lv lv':List XJ} {bu se bu' se':Int} {z:QX} (hz:Qb0 z) (hq:z.qty≤Qx6 lv bu se z) (h:Qv6 lv bu se z (-1) lv' bu' se'):Qg0 lv bu se z (-1)=0∧Jb1 lv bu se z (-1) lv' bu' se':=by
 have e:Qg0 lv bu se z (-1)=0:=by
  unfold Qg0;rw[if_pos ((Qh1 z).2 hz),if_neg (by omega)]
 unfold Qv6 at h
 rw[if_pos e]at h
 exact⟨e,h⟩
def Jy3 (m:VQ) (id:Int):VQ:= {m with L1:=O0 m.L1 id,L2:=O0 m.L2 id}
theorem Jy4 {m:VQ} {id:Int} (h:Qa8 (Qa4 m) id=none):Jy3 m id=m:=by
 unfold Jy3
 unfold Qa8 at h
 rw[List.find?_eq_none]at h
 have e: ∀L:List QX,(∀o∈L,o∈Qa4 m)→O0 L id=L:=fun L hL=>List.filter_eq_self.2 (fun o ho=>by have:=h o (hL o ho);simpa using this)
 rw[e _ (fun o ho=>List.mem_append_left _ ho),e _ (fun o ho=>List.mem_append_right _ ho)]
theorem Ko6 (w:World) (e:Nat) (F:Nat→Prop) (m:VQ) (h:YQ w e F m) (id:Int):
  Calls Tryz.prog 82 #[.pointer (some ⟨e,0,none⟩),.int .i64 id] w fun ev w'=>ev= .returned (.tuple #[])∧ZZ w w' e F (Jy3 m id):=by
 obtain⟨cs,tb,bb,bk,im,T,tc,Al,lc,lv,bu,se,Ap,pc,es,mc,G,own,hM,hF⟩:=h
 have hcan:=Qg1 w bk G m.L1 m.L2 hM.book id
 have HCan:=QQ hcan
 have HM:=QQ hM
 have HF:=QQ hF
 have c8:=hM.cell hM.ec.c8
 clear hM hcan hF
 go_enter Tryz.func82,Tryz.ntmps82
 go_wp2_with fail
 refine HCan.out.mono ?_
 rintro ev w2 (⟨hno,rfl,hb2⟩|⟨o,hgo,rfl,hto⟩)
 ·have HNo:=QQ hno
  have HB2:=QQ hb2;clear hno hb2 HCan c8;have e7:VZ 7= .iface 45 (.int .i64 7):=rfl;rw[e7];go_wp2_with fail
  refine bodyPost_end (results_none rfl _ _ _) rfl ?_;rw[Jy4 HNo.out];have hb3:Below w.heap.size w (w2.alloc (.cells (KV noO) 117)):=HB2.out.alloc HB2.out.size _;exact⟨rfl,_,(HM.out.below hb3).at_ (fun _ _ _=>rfl),(VW.of_below hb3).bstep HF.out⟩
 ·obtain⟨G2,own2,hM2,ho2⟩:=HM.out.bookTo hto
  have hb3:Below w2.heap.size w2 (w2.alloc (.cells (KV o) 117)):=(Below.refl _ w2).alloc (Nat.le_refl _) _;have hX:=QJ.new w2 117 (KV o);have hM3:=hM2.below hb3;obtain⟨w3,ew3⟩: ∃W,w2.alloc (.cells (KV o) 117)=W:=⟨_,rfl⟩;rw[ew3]at hb3 hX hM3;have hml:=Jy1 HM.out.book.lists HM.out.ind.ok HM.out.is;have hind:=Jv7 w3.drew e 126 cs 9 Al lc lv bu se (hM3.below (Below.drew (Below.refl _ w3))).ind hml.small o;unfold KJ at hind;have HInd:=QQ hind;have HM3:=QQ hM3;have HO2:=QQ ho2;have HB3:=QQ hb3;have HGo:=QQ hgo;obtain⟨x0,x1,x2,x3,x4⟩:=JV hX;clear hto hM2 ho2 hX hml hind hgo HCan c8 hM3 hb3;unfold KV at ew3;unfold KJ;rw[K0];go_upto_region 1 with fail
  try rw[ew3]
  clear ew3;go_wp2_with fail
  go_still_tail 4,(by kernel_rfl)
  change wpList _ _ _ _ _ w3.drew;go_wp2_with fail
  refine HInd.out.mono ?_;rintro ev w4 ⟨rfl,lv',bu',se',hit,htd⟩;clear x0 x1 x2 x3 x4;go_wp2_with fail
  refine bodyPost_end (results_none rfl _ _ _) rfl ?_;have hr:Qb0 o:=J8 HM.out.book.lists o (List.mem_of_find?_eq_some HGo.out);have hq:o.qty≤Qx6 lv bu se o:=by
   rw[HM.out.is.has hr.1];exact Kx4 (J8 HM.out.book.lists) (List.mem_of_find?_eq_some HGo.out)
  obtain⟨-,hchg⟩:=Xg0 hr hq htd;have his:=(HM3.out.is).chg hr.1 hchg;obtain⟨cs3,Al3,lc3,own3,hM4,ho4⟩:=(HM3.out.below (Below.drew (Below.refl _ w3))).indTo hit his;refine⟨rfl,_,UZ.at_ (m:=Jy3 m id) hM4 (fun s k hs=> ?_),((HO2.out.trans (VW.of_below (HB3.out.trans ((Below.drew (Below.refl _ w3)).mono HB3.out.size)))).trans ho4).bstep HF.out⟩;exact(Kz0 HM.out.book.lists HGo.out s k).symm
structure Zh7 (e bb bk V:Nat) (cs:Array Value) (st dy an la:Int) (L1 L2:List QX) (F G:Nat→Prop) (w:World):Prop where
 book:Q1 w bk G L1 L2
 bands:Q9 w bb st dy an la
 eng:QJ w e 126 cs
 var:QJ w V 27 #[.pointer (some ⟨e,0,none⟩)]
 fp: ∀i,F i↔(G i∨i=bb∨i=e∨i=V)
 gb: ¬G bb
 ge: ¬G e
 gv: ¬G V
 be:bb≠e
 bv:bb≠V
 c7:cs[7]?=some (.pointer (some ⟨bb,0,none⟩))
def Ko7 (e bb bk V:Nat) (cs:Array Value) (st dy an:Int) (la:Int) (L1 L2:List QX) (F:Nat→Prop) (w:World):Prop:= ∃G,Zh7 e bb bk V cs st dy an la L1 L2 F G w
theorem Kd0 {e bb bk V:Nat} {cs:Array Value} {st dy an la:Int} {L1 L2:List QX} {F G:Nat→Prop} {w:World} (h:Zh7 e bb bk V cs st dy an la L1 L2 F G w) (p:Int) (hp:1≤p∧p≤1000000):
  Calls Tryz.prog 145 #[.int .i64 p,.pointer (some ⟨V,0,none⟩)] w fun ev w'=>ev= .returned (.tuple #[])∧Q9 w' bb st dy an p∧QK (fun i=>i=bb) w w':=by
 have x0:w.cell? ⟨V,0,none⟩=some (.pointer (some ⟨e,0,none⟩)):=by rw[QJ.cell h.var];rfl
 have x7:w.cell? ⟨e,7,none⟩=some (.pointer (some ⟨bb,0,none⟩)):=by rw[QJ.cell h.eng];exact h.c7
 have ht:=Jl5 bb st dy an la p w h.bands
 have hr:J4 p 1=true:=by rw[V3];omega
 rw[hr]at ht
 simp only[if_true]at ht
 have HT:=QQ ht
 clear h ht hr hp
 go_enter Tryz.func145,Tryz.ntmps145
 go_wp2_with fail
 refine HT.out.mono ?_
 rintro ev w2 ⟨rfl,hb,hk⟩
 go_wp2_with fail
 refine bodyPost_end (results_none rfl _ _ _) rfl ?_
 exact⟨rfl,hb,hk⟩
theorem Xg1 (e bb bk V:Nat) (cs:Array Value) (st dy an:Int):
  Qa1 (Ko7 e bb bk V cs st dy an) (fun la p=>I5 st dy an la p) (fun _ p=>p) (fun _=>0) 144 145 #[.pointer (some ⟨bb,0,none⟩)] #[] #[.pointer (some ⟨V,0,none⟩)] 175 (.pointer (some ⟨bk,0,none⟩)) .nilIface where
 keep:=by
  rintro s L1 L2 F w w' S ⟨G,h⟩ hk hF;have hf: ∀i,(G i∨i=bb∨i=e∨i=V)→ ¬S i:=fun i hi=>hF i ((h.fp i).2 hi)
  exact⟨G,h.book.keeps hk (fun i hi=>hf i (.inl hi)),QJ.keeps h.bands hk (hf bb (by simp)),QJ.keeps h.eng hk (hf e (by simp)),QJ.keeps h.var hk (hf V (by simp)),h.fp,h.gb,h.ge,h.gv,h.be,h.bv,h.c7⟩
 lt:=by
  rintro s L1 L2 F w ⟨G,h⟩ i hi;rcases(h.fp i).1 hi with h1|rfl|rfl|rfl
  ·exact h.book.fp h1
  ·exact QJ.lt h.bands
  ·exact QJ.lt h.eng
  ·exact QJ.lt h.var
 ok:=by
  rintro s L1 L2 F w ⟨G,h⟩;exact h.book.lists
 allows:=by
  rintro s L1 L2 F w p ⟨G,h⟩-;exact Kc1 bb st dy an s p w h.bands
 trades:=by
  rintro s L1 L2 F w p ⟨G,h⟩ hp-;refine(Kd0 h p hp).mono ?_;rintro ev w' ⟨rfl,hb,hk⟩;refine⟨rfl,F,⟨G,h.book.keeps hk (fun i hi hie=>h.gb (by have e1:i=bb:=hie;exact e1▸hi)),hb,QJ.keeps h.eng hk (fun x=>h.be x.symm),QJ.keeps h.var hk (fun x=>h.bv x.symm),h.fp,h.gb,h.ge,h.gv,h.be,h.bv,h.c7⟩,hk.mono (fun i hi=>(h.fp i).2 (.inr (.inl hi))),fun i hi=> .inl hi⟩
 cut:=by
  rintro s L1 L2 F w x n ⟨G,h⟩ hx h1 h2;have hok:OkO x:=h.book.lists.ok x (List.mem_of_find?_eq_some hx);have hxq:=hok.2.2.2.2;refine(Jp8 w bk G L1 L2 h.book x.id n (by unfold KZ;omega)).mono ?_;rintro ev w' (⟨h3,rfl,hb⟩|⟨o,h3,h4,h5,rfl,G',hB,hk,hg⟩)
  ·exfalso
   apply h3;unfold Jx3;rw[hx];exact if_neg (by omega)
  ·rw[hx]at h3
   cases h3;have l1:=QJ.lt h.bands;have l2:=QJ.lt h.eng;have l3:=QJ.lt h.var;have n: ∀i,i<w.heap.size→ ¬G i→ ¬G' i:=fun i hi hn hG=>by
    rcases hg i hG with e1|e1
    ·exact hn e1
    ·omega
   refine⟨rfl,fun i=>G' i∨i=bb∨i=e∨i=V,⟨G',hB,QJ.keeps h.bands hk h.gb,QJ.keeps h.eng hk h.ge,QJ.keeps h.var hk h.gv,fun i=>Iff.rfl,n _ l1 h.gb,n _ l2 h.ge,n _ l3 h.gv,h.be,h.bv,h.c7⟩,hk.mono (fun i hi=>(h.fp i).2 (.inl hi)),fun i hi=> ?_⟩;rcases hi with hi|hi
   ·rcases hg i hi with e1|e1
    ·exact .inl ((h.fp i).2 (.inl e1))
    ·exact .inr e1
   ·exact .inl ((h.fp i).2 (.inr hi))
 cnt_:=fun s p=>Nat.zero_le _
 ega:=Go.Proofs.enters_of Tryz.func144 (by kernel_rfl) rfl
 egt:=Go.Proofs.enters_of Tryz.func145 (by kernel_rfl) rfl
theorem UZ.meetTo {w w':World} {e:Nat} {cs:Array Value} {tb bb bk im:Nat} {T:Option Addr} {tc:Nat} {Al:Option Addr} {lc:Nat} {lv:List XJ} {bu se:Int} {Ap:Option Addr} {pc:Nat} {es:List MapEntry} {mc:Nat} {G:Nat→Prop} {own:Nat→Nat→Prop} {g:Int→Option Int→Int} {m:VQ} {M1 M2:List QX} {la:Int} {G2 S:Nat→Prop}
  (h:UZ w e cs tb bb bk im T tc Al lc lv bu se Ap pc es mc G own g m) (hk:QK S w w') (hS: ∀i,S i→G i∨i=bb∨i=e∨ ∀k,¬own i k) (hB:Q1 w' bk G2 M1 M2) (hb:Q9 w' bb m.st m.dy m.an la) (he:QJ w' e 126 cs) (hG: ∀i,G2 i→G i∨w.heap.size≤i):
  UZ w' e cs tb bb bk im T tc Al lc lv bu se Ap pc es mc G2 (Qs2 w own G2 4) g {m with L1:=M1,L2:=M2,la:=la}:=by
 have f: ∀ {i k:Nat},own i k→k≠4→k≠3→k≠1→ ¬S i:=fun {i k} hi h4 h3 h1 hs=>by
  rcases hS i hs with x|x|x|x
  ·exact h4 (h.ok.uni _ _ _ hi (h.oG i x))
  ·exact h3 (h.ok.uni _ _ _ hi (x▸h.ob))
  ·exact h1 (h.ok.uni _ _ _ hi (x▸h.oe))
  ·exact x k hi
 have n: ∀ {i k:Nat},own i k→Qs2 w own G2 4 i k:=fun hi=> .inl hi
 have hr:=h.ind
 refine⟨⟨he,hr.c0,hr.c1,hr.c2,hr.row.keeps hk (fun i hi=>f (h.ol i hi) (by decide) (by decide) (by decide)),hr.na,hr.ok⟩,⟨h.ec.sz,h.ec.c4,h.ec.c5,h.ec.c6,h.ec.c7,h.ec.c8,h.ec.c12,h.ec.c13,h.ec.c14,h.ec.c15,h.ec.c16,h.ec.c17⟩,h.is,Nat.lt_of_lt_of_le h.tabl hk.size,(hk.cell (p:=⟨tb,0,none⟩) h.tabl (f h.ot (by decide) (by decide) (by decide))).trans h.tabc,h.tabp.keeps hk (fun i hi=>f (h.oT i hi) (by decide) (by decide) (by decide)),hb,hB,h.park.keeps hk (fun i hi=>f (h.op i hi) (by decide) (by decide) (by decide)),h.map_.of_block (hk.block _ h.map_.lt (f h.oi (by decide) (by decide) (by decide))),h.keys,h.ids,h.ok.new_ hk.size (fun i hi=>hB.fp hi) 4,n h.oe,n h.ot,fun i hi=>n (h.oT i hi),n h.ob,fun i hi=> ?_,fun i hi=>n (h.ol i hi),fun i hi=>n (h.op i hi),n h.oi⟩
 rcases hG i hi with e1|e1
 ·exact n (h.oG i e1)
 ·exact .inr ⟨e1,hi,rfl⟩
def Ko8 (own:Nat→Nat→Prop) (V X:Nat) (A:Option Addr) (Y:Nat):Prop:=(∀k,¬own Y k)∧Y≠V∧Y≠X∧QZ A≠some Y
structure Qm8 (w1 wr:World) (e tb bb bk im V X:Nat) (cs:Array Value) (T:Option Addr) (tc:Nat) (Al:Option Addr) (lc:Nat) (lv:List XJ) (bu se:Int) (Ap:Option Addr) (pc:Nat) (es:List MapEntry) (mc:Nat) (own:Nat→Nat→Prop) (g:Int→Option Int→Int) (A:Option Addr) (c:Nat) (F:List XQ) (ob:Array Value) (m1:VQ) (G2:Nat→Prop):Prop where
 eng:UZ wr e cs tb bb bk im T tc Al lc lv bu se Ap pc es mc G2 (Qs2 w1 own G2 4) g m1
 keep:QK (fun i=>(∃k,own i k)∨i=V) w1 wr
 row:QW wr A F.length c 145 4 (JQ Qb3 F)
 fA: ∀i,QZ A=some i→w1.heap.size≤i∧ ¬G2 i
 var:QJ wr V 27 #[.pointer (some ⟨e,0,none⟩)]
 box:QJ wr X 117 ob
 o1:Jj2 w1 own
 nv:(∀k,¬own V k)∧(∀k,¬own X k)∧V≠X∧V<w1.heap.size∧X<w1.heap.size
section
variable {w1 wr w':World} {e tb bb bk im V X:Nat} {cs:Array Value} {T:Option Addr} {tc:Nat} {Al:Option Addr} {lc:Nat} {lv:List XJ} {bu se:Int} {Ap:Option Addr} {pc:Nat} {es:List MapEntry} {mc:Nat} {G:Nat→Prop} {own:Nat→Nat→Prop} {g:Int→Option Int→Int} {A:Option Addr} {c:Nat} {Fs:List XQ} {ob:Array Value} {m m1:VQ} {G2:Nat→Prop}
theorem Qm8.below (h:Qm8 w1 wr e tb bb bk im V X cs T tc Al lc lv bu se Ap pc es mc own g A c Fs ob m1 G2) (hb:Below wr.heap.size wr w'):Qm8 w1 w' e tb bb bk im V X cs T tc Al lc lv bu se Ap pc es mc own g A c Fs ob m1 G2:=
 ⟨h.eng.below hb,h.keep.then_ hb,h.row.below hb,h.fA,QJ.keep h.var hb,QJ.keep h.box hb,h.o1,h.nv⟩
theorem Qm8.far (h:Qm8 w1 wr e tb bb bk im V X cs T tc Al lc lv bu se Ap pc es mc own g A c Fs ob m1 G2) {Y:Nat} (hY:wr.heap.size≤Y):Ko8 (Qs2 w1 own G2 4) V X A Y:=
 ⟨fun k hk=>by have:=h.eng.ok.lt Y k hk;omega,fun x=>by have:=QJ.lt h.var;omega,fun x=>by have:=QJ.lt h.box;omega,fun x=>by have:=h.row.lt x;omega⟩
theorem Qm8.keepY (h:Qm8 w1 wr e tb bb bk im V X cs T tc Al lc lv bu se Ap pc es mc own g A c Fs ob m1 G2) {Y:Nat} (hk:QK (fun i=>i=Y) wr w') (hY:Ko8 (Qs2 w1 own G2 4) V X A Y) (hn:w1.heap.size≤Y):Qm8 w1 w' e tb bb bk im V X cs T tc Al lc lv bu se Ap pc es mc own g A c Fs ob m1 G2:=
 ⟨h.eng.keeps hk (fun i k hi hie=>hY.1 k (by have e1:i=Y:=hie;exact e1▸hi)),h.keep.trans hk (fun i hi=> .inr (by have e1:i=Y:=hi;omega)),h.row.keeps hk (fun i hi hie=>hY.2.2.2 (by have e1:i=Y:=hie;exact e1▸hi)),h.fA,QJ.keeps h.var hk (fun x=>hY.2.1 x.symm),QJ.keeps h.box hk (fun x=>hY.2.2.1 x.symm),h.o1,h.nv⟩
theorem Qm8.cells {a1 a2 a3 a4 a5:Value} (h:Qm8 w1 wr e tb bb bk im V X cs T tc Al lc lv bu se Ap pc es mc own g A c Fs #[a1,a2,a3,a4,a5] m1 G2):
  wr.cell? ⟨V,0,none⟩=some (.pointer (some ⟨e,0,none⟩))∧wr.cell? ⟨e,8,none⟩=some (.pointer (some ⟨bk,0,none⟩))∧wr.cell? ⟨e,7,none⟩=some (.pointer (some ⟨bb,0,none⟩))∧wr.cell? ⟨X,0,none⟩=some a1∧wr.cell? ⟨X,1,none⟩=some a2∧wr.cell? ⟨X,2,none⟩=some a3∧wr.cell? ⟨X,3,none⟩=some a4∧wr.cell? ⟨X,4,none⟩=some a5:=
 ⟨by rw[QJ.cell h.var];rfl,h.eng.cell h.eng.ec.c8,h.eng.cell h.eng.ec.c7,by rw[QJ.cell h.box];rfl,by rw[QJ.cell h.box];rfl,by rw[QJ.cell h.box];rfl,by rw[QJ.cell h.box];rfl,by rw[QJ.cell h.box];rfl⟩
def kF (G:Nat→Prop) (bb e V:Nat) (i:Nat):Prop:=G i∨i=bb∨i=e∨i=V
theorem Qu7 {W w4:World} {M1 M2:List QX} {F':Nat→Prop} {r:U8 Int} {o:QX} (h:UZ w1 e cs tb bb bk im T tc Al lc lv bu se Ap pc es mc G own g m) (hV:QJ w1 V 27 #[.pointer (some ⟨e,0,none⟩)]) (hX:QJ w1 X 117 ob) (hn:(∀k,¬own V k)∧(∀k,¬own X k)∧V≠X) (hb:Below w1.heap.size w1 W) (hsd:UQ o.side) (hr:Q6 m o=r)
  (hm:Qi9 (Ko7 e bb bk V cs m.st m.dy m.an) W w4 r.st (kF G bb e V) F' M1 M2 A c r.fills) (hs1:JY o.side M1 M2=JY o.side m.L1 m.L2) (hs2:JY (3-o.side) M1 M2=r.rest):
  ∃G2,Qm8 w1 w4 e tb bb bk im V X cs T tc Al lc lv bu se Ap pc es mc own g A c r.fills ob (Qa5 m o) G2∧ ∀i t us,QJ W i t us→w1.heap.size≤i→QJ w4 i t us∧Ko8 (Qs2 w1 own G2 4) V X A i:=by
 obtain⟨G2,hk⟩:=hm.mk_
 have hW:=hb.size
 have lV:=QJ.lt hV
 have lX:=QJ.lt hX
 have hold: ∀i,kF G bb e V i→i<w1.heap.size:=fun i hi=>by
  rcases hi with x|x|x|x
  ·exact h.book.fp x
  ·exact x▸QJ.lt h.bands
  ·exact x▸QJ.lt h.ind.blk
  ·exact x▸lV
 have hkp:QK (kF G bb e V) w1 w4:=(QK.of_below hb _).trans hm.step.1 (fun i hi=> .inl hi)
 have hG2: ∀i,G2 i→G i∨w1.heap.size≤i:=fun i hi=>by
  rcases hm.step.2 i ((hk.fp i).2 (.inl hi))with x|x
  ·rcases x with x|x|x|x
   ·exact .inl x
   ·exact absurd hi (x▸hk.gb)
   ·exact absurd hi (x▸hk.ge)
   ·exact absurd hi (x▸hk.gv)
  ·exact .inr (by omega)
 have e1:({m with L1:=M1,L2:=M2,la:=r.st}:VQ)=Qa5 m o:=by
  unfold Qa5;rw[hr];have hL:M1=(if o.side=1 then m.L1 else r.rest)∧M2=(if o.side=1 then r.rest else m.L2):=by
   rcases hsd with e2|e2
   ·rw[e2]at hs1 hs2⊢
    rw[if_pos rfl,if_pos rfl];exact⟨hs1,hs2⟩
   ·rw[e2]at hs1 hs2⊢
    rw[if_neg (by decide),if_neg (by decide)];exact⟨hs2,hs1⟩
  rw[←hL.1,←hL.2]
 have hE:=h.meetTo hkp (fun i hi=>by
  rcases hi with x|x|x|x
  ·exact .inl x
  ·exact .inr (.inl x)
  ·exact .inr (.inr (.inl x))
  ·exact .inr (.inr (.inr (x▸hn.1)))) hk.book hk.bands hk.eng hG2
 rw[e1]at hE
 have fX: ¬kF G bb e V X:=by
  rintro(x|x|x|x)
  ·exact hn.2.1 4 (h.oG X x)
  ·exact hn.2.1 3 (x▸h.ob)
  ·exact hn.2.1 1 (x▸h.oe)
  ·exact hn.2.2 x.symm
 have hA: ∀i,QZ A=some i→w1.heap.size≤i∧ ¬G2 i:=fun i hi=>⟨Nat.le_trans hW (hm.fpA i hi).2,fun x=>(hm.fpA i hi).1 ((hk.fp i).2 (.inl x))⟩
 refine⟨G2,⟨hE,hkp.mono (fun i hi=> ?_),hm.row,hA,hk.var,QJ.keeps hX hkp fX,h.ok,hn.1,hn.2.1,hn.2.2,lV,lX⟩,fun i t us hB hi=>⟨QJ.keeps hB hm.step.1 (fun x=>by have:=hold i x;omega),fun k hk2=> ?_,by omega,by omega,fun x=>by have:=(hm.fpA i x).2;have:=QJ.lt hB;omega⟩⟩
 ·rcases hi with x|x|x|x
  ·exact .inl ⟨4,h.oG i x⟩
  ·exact .inl ⟨3,x▸h.ob⟩
  ·exact .inl ⟨1,x▸h.oe⟩
  ·exact .inr x
 ·rcases hk2 with x|⟨-,x,-⟩
  ·have:=h.ok.lt i k x;omega
  ·rcases hm.step.2 i ((hk.fp i).2 (.inl x))with y|y
   ·have:=hold i y;omega
   ·have:=QJ.lt hB;omega
end
theorem Kd1 (w:World) (A:Option Addr) (n c:Nat) (l:List QX) (h:QW w A n c 117 5 (JQ I6 l)) (hn:n≤100000):
  Calls Tryz.prog 87 #[.slice A n c] w fun e w'=>Below w.heap.size w w'∧ ∃A' c',e= .returned (.slice A' n c')∧QW w' A' n c' 117 5 (JQ I6 l)∧ ∀g,QZ A'=some g→w.heap.size≤g:=by
 rcases h.2 with⟨hv,h0⟩|⟨g,cap,cur,hv,-⟩
 ·cases hv
  have hl:JQ I6 l= []:=List.eq_nil_of_length_eq_zero (by have:=h.1;omega);rw[hl];have hne: ∀wx,(binOp .eql 78 (.slice none 0 0) (.slice none 0 0)).run Tryz.prog wx= .ok (.bool true) wx:=fun wx=>Lib.run_eql_slice_nil (P:=Tryz.prog) wx 78 117 none 0 0 0 0 Tryz.underlying78
  clear h hl;go_enter Tryz.func87,Tryz.ntmps87
  go_wp2;go_ret;exact⟨Below.refl _ _,none,0,rfl,World.ownsRow_nil _ _ _ _,fun g hg=>by simp[QZ]at hg⟩
 ·cases hv
  obtain⟨i0,hi0,hz0,hz1,hz2⟩:=info_parts Qu0;have hE:=QQ ((ZV.of_row O6 (by omega) h).below ((Below.refl _ w).alloc (Nat.le_refl _) (.cells #[] 117)) (Nat.le_refl _));have HW:=QQ (QW.made w 117 5);have hne: ∀wx,(binOp .eql 78 (.slice (some ⟨g,0,none⟩) n c) (.slice none 0 0)).run Tryz.prog wx= .ok (.bool false) wx:=fun wx=>Lib.run_eql_slice_nil (P:=Tryz.prog) wx 78 117 (some ⟨g,0,none⟩) n c 0 0 Tryz.underlying78
  clear h;go_enter Tryz.func87,Tryz.ntmps87
  go_wp2_with (at_builtin;refine Jh2 O6 Js5 rfl (.tmp 5) (.tmp 6) 78 rfl 117 i0 _ 40 Tryz.underlying78 hi0 hz0 hz1 hz2 rfl (by omega) (some ⟨w.heap.size,0,none⟩) 0 0 [] rfl HW.out (some ⟨g,0,none⟩) n c l rfl hE.out (by unfold maxLen;omega) (by omega) ?_;intro A' c' w2 hr hg hat)
  go_ret;have hb:Below w.heap.size w w2:=((Below.refl _ w).alloc (Nat.le_refl _) (.cells #[] 117)).grown hg (by simp) (fun q hq=>by simp[QZ]at hq;omega);simp only[Nat.zero_add,List.nil_append]at hr;refine⟨hb,A',c',rfl,hr,fun q hq=> ?_⟩;rcases hat q hq with x|x
  ·have:w.heap.size=q:=by simpa [QZ]using x
   omega
  ·have:q=w.heap.size+1:=by simpa using x
   omega
theorem Xu9 {w:World} {e:Nat} {F:Nat→Prop} {m:VQ} (h:YQ w e F m) (hn:m.pk.length≤100000):
  Calls Tryz.prog 57 #[.pointer (some ⟨e,0,none⟩)] w fun ev w'=>Below w.heap.size w w'∧ ∃A c,ev= .returned (.slice A m.pk.length c)∧QW w' A m.pk.length c 117 5 (JQ I6 m.pk)∧ ∀g,QZ A=some g→w.heap.size≤g:=by
 obtain⟨cs,tb,bb,bk,im,T,tc,Al,lc,lv,bu,se,Ap,pc,es,mc,G,own,hM,hF⟩:=h
 have c12:=hM.cell hM.ec.c12
 have HC:=QQ (Kd1 w Ap m.pk.length pc m.pk hM.park hn)
 clear hM hF
 obtain⟨n,hn'⟩: ∃n,m.pk.length=n:=⟨_,rfl⟩
 rw[hn']at c12 HC⊢
 clear hn' hn
 go_enter Tryz.func57,Tryz.ntmps57
 go_wp2_with fail
 refine HC.out.mono ?_
 rintro ev w2 ⟨hb,A,c,rfl,hr,hg⟩
 have HR:=QQ hr
 have HG:=QQ hg
 clear hr hg HC
 go_wp2_with fail
 go_ret
 exact⟨hb,A,c,rfl,HR.out,HG.out⟩
end Go.Proofs.YtbmiieehkkfbgaaGreatDoor
