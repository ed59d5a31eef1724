/- Contracts and walks that the law's proof needs. -/
import Derived.WalkKit
import Derived.WalkLawsBesides
import Derived.WalkSpells
import Derived.Shelf.Abstract
import Derived.Test.YtnlngicnfegjgaaGreatZf37
import Derived.Test.YtnlngicnfegjgaaGreatZf34
import Derived.Test.YtnlngicnfegjgaaGreatZf33
import Derived.Test.YtnlngicnfegjgaaGreatZf32
import Derived.Test.YtnlngicnfegjgaaGreatZf21
set_option linter.unusedVariables false
set_option maxRecDepth 100000
set_option maxHeartbeats 8000000
namespace Go.Proofs.YtnlngicnfegjgaaGreat
open Go.RowKit
structure Kv9 (e bb bk V:Nat) (cs:Array Value) (st dy an la:Int) (L1 L2:List QX) (F G:Nat→Prop) (w:World):Prop where
 book:Q1 w bk G L1 L2
 bands:J0 w bb st dy an la
 eng:QJ w e 77 cs
 var:QJ w V 33 #[.pointer (some ⟨e,0,none⟩)]
 fp: ∀i,F i↔(G i∨i=bb∨i=e∨i=V)
 gb: ¬G bb
 ge: ¬G e
 gv: ¬G V
 be:bb≠e
 bv:bb≠V
 c7:cs[7]?=some (.pointer (some ⟨bb,0,none⟩))
def Ki1 (e bb bk V:Nat) (cs:Array Value) (st dy an:Int) (la:Int) (L1 L2:List QX) (F:Nat→Prop) (w:World):Prop:= ∃G,Kv9 e bb bk V cs st dy an la L1 L2 F G w
theorem Xx3 {e bb bk V:Nat} {cs:Array Value} {st dy an la:Int} {L1 L2:List QX} {F G:Nat→Prop} {w:World} (h:Kv9 e bb bk V cs st dy an la L1 L2 F G w) (p:Int) (hp:1≤p∧p≤1000000):
  Calls Tryz.prog 55 #[.int .i64 p,.pointer (some ⟨V,0,none⟩)] w fun ev w'=>ev= .returned (.tuple #[])∧J0 w' bb st dy an p∧QK (fun i=>i=bb) w w':=by
 have x0:w.cell? ⟨V,0,none⟩=some (.pointer (some ⟨e,0,none⟩)):=by rw[QJ.cell h.var];rfl
 have x7:w.cell? ⟨e,7,none⟩=some (.pointer (some ⟨bb,0,none⟩)):=by rw[QJ.cell h.eng];exact h.c7
 have ht:=Jj6 bb st dy an la p w h.bands
 have hr:J5 p 1=true:=by rw[V4];omega
 rw[hr]at ht
 simp only[if_true]at ht
 have HT:=QQ ht
 clear h ht hr hp
 go_enter Tryz.func55,Tryz.ntmps55
 go_wp2_with fail
 refine HT.out.mono ?_
 rintro ev w2 ⟨rfl,hb,hk⟩
 go_wp2_with fail
 refine bodyPost_end (results_none rfl _ _ _) rfl ?_
 exact⟨rfl,hb,hk⟩
theorem Xb8 (e bb bk V:Nat) (cs:Array Value) (st dy an:Int):
  Qa4 (Ki1 e bb bk V cs st dy an) (fun la p=>X3 st dy an la p) (fun _ p=>p) (fun _=>0) 54 55 #[.pointer (some ⟨bb,0,none⟩)] #[] #[.pointer (some ⟨V,0,none⟩)] 64 (.pointer (some ⟨bk,0,none⟩)) .nilIface where
 keep:=by
  rintro s L1 L2 F w w' S ⟨G,h⟩ hk hF;have hf: ∀i,(G i∨i=bb∨i=e∨i=V)→ ¬S i:=fun i hi=>hF i ((h.fp i).2 hi)
  exact⟨G,h.book.keeps hk (fun i hi=>hf i (.inl hi)),QJ.keeps h.bands hk (hf bb (by simp)),QJ.keeps h.eng hk (hf e (by simp)),QJ.keeps h.var hk (hf V (by simp)),h.fp,h.gb,h.ge,h.gv,h.be,h.bv,h.c7⟩
 lt:=by
  rintro s L1 L2 F w ⟨G,h⟩ i hi;rcases(h.fp i).1 hi with h1|rfl|rfl|rfl
  ·exact h.book.fp h1
  ·exact QJ.lt h.bands
  ·exact QJ.lt h.eng
  ·exact QJ.lt h.var
 ok:=by
  rintro s L1 L2 F w ⟨G,h⟩;exact h.book.lists
 allows:=by
  rintro s L1 L2 F w p ⟨G,h⟩-;exact Xw5 bb st dy an s p w h.bands
 trades:=by
  rintro s L1 L2 F w p ⟨G,h⟩ hp-;refine(Xx3 h p hp).mono ?_;rintro ev w' ⟨rfl,hb,hk⟩;refine⟨rfl,F,⟨G,h.book.keeps hk (fun i hi hie=>h.gb (by have e1:i=bb:=hie;exact e1▸hi)),hb,QJ.keeps h.eng hk (fun x=>h.be x.symm),QJ.keeps h.var hk (fun x=>h.bv x.symm),h.fp,h.gb,h.ge,h.gv,h.be,h.bv,h.c7⟩,hk.mono (fun i hi=>(h.fp i).2 (.inr (.inl hi))),fun i hi=> .inl hi⟩
 cut:=by
  rintro s L1 L2 F w x n ⟨G,h⟩ hx h1 h2;have hok:OkO x:=h.book.lists.ok x (List.mem_of_find?_eq_some hx);have hxq:=hok.2.2.2.2;refine(Jn3 w bk G L1 L2 h.book x.id n (by unfold U1;omega)).mono ?_;rintro ev w' (⟨h3,rfl,hb⟩|⟨o,h3,h4,h5,rfl,G',hB,hk,hg⟩)
  ·exfalso
   apply h3;unfold Jt9;rw[hx];exact if_neg (by omega)
  ·rw[hx]at h3
   cases h3;have l1:=QJ.lt h.bands;have l2:=QJ.lt h.eng;have l3:=QJ.lt h.var;have n: ∀i,i<w.heap.size→ ¬G i→ ¬G' i:=fun i hi hn hG=>by
    rcases hg i hG with e1|e1
    ·exact hn e1
    ·omega
   refine⟨rfl,fun i=>G' i∨i=bb∨i=e∨i=V,⟨G',hB,QJ.keeps h.bands hk h.gb,QJ.keeps h.eng hk h.ge,QJ.keeps h.var hk h.gv,fun i=>Iff.rfl,n _ l1 h.gb,n _ l2 h.ge,n _ l3 h.gv,h.be,h.bv,h.c7⟩,hk.mono (fun i hi=>(h.fp i).2 (.inl hi)),fun i hi=> ?_⟩;rcases hi with hi|hi
   ·rcases hg i hi with e1|e1
    ·exact .inl ((h.fp i).2 (.inl e1))
    ·exact .inr e1
   ·exact .inl ((h.fp i).2 (.inr hi))
 cnt_:=fun s p=>Nat.zero_le _
 ega:=Go.Proofs.enters_of Tryz.func54 (by kernel_rfl) rfl
 egt:=Go.Proofs.enters_of Tryz.func55 (by kernel_rfl) rfl
theorem UJ.meetTo {w w':World} {e:Nat} {cs:Array Value} {tb bb bk im:Nat} {T:Option Addr} {tc:Nat} {Al:Option Addr} {lc:Nat} {lv:List XJ} {bu se:Int} {Ap:Option Addr} {pc:Nat} {es:List MapEntry} {mc:Nat} {G:Nat→Prop} {own:Nat→Nat→Prop} {g:Int→Option Int→Int} {m:ZX} {M1 M2:List QX} {la:Int} {G2 S:Nat→Prop}
  (h:UJ w e cs tb bb bk im T tc Al lc lv bu se Ap pc es mc G own g m) (hk:QK S w w') (hS: ∀i,S i→G i∨i=bb∨i=e∨ ∀k,¬own i k) (hB:Q1 w' bk G2 M1 M2) (hb:J0 w' bb m.st m.dy m.an la) (he:QJ w' e 77 cs) (hG: ∀i,G2 i→G i∨w.heap.size≤i):
  UJ w' e cs tb bb bk im T tc Al lc lv bu se Ap pc es mc G2 (Qr3 w own G2 4) g {m with L1:=M1,L2:=M2,la:=la}:=by
 have f: ∀ {i k:Nat},own i k→k≠4→k≠3→k≠1→ ¬S i:=fun {i k} hi h4 h3 h1 hs=>by
  rcases hS i hs with x|x|x|x
  ·exact h4 (h.ok.uni _ _ _ hi (h.oG i x))
  ·exact h3 (h.ok.uni _ _ _ hi (x▸h.ob))
  ·exact h1 (h.ok.uni _ _ _ hi (x▸h.oe))
  ·exact x k hi
 have n: ∀ {i k:Nat},own i k→Qr3 w own G2 4 i k:=fun hi=> .inl hi
 have hr:=h.ind
 refine⟨⟨he,hr.c0,hr.c1,hr.c2,hr.row.keeps hk (fun i hi=>f (h.ol i hi) (by decide) (by decide) (by decide)),hr.na,hr.ok⟩,⟨h.ec.sz,h.ec.c4,h.ec.c5,h.ec.c6,h.ec.c7,h.ec.c8,h.ec.c12,h.ec.c13,h.ec.c14,h.ec.c15,h.ec.c16,h.ec.c17⟩,h.is,Nat.lt_of_lt_of_le h.tabl hk.size,(hk.cell (p:=⟨tb,0,none⟩) h.tabl (f h.ot (by decide) (by decide) (by decide))).trans h.tabc,h.tabp.keeps hk (fun i hi=>f (h.oT i hi) (by decide) (by decide) (by decide)),hb,hB,h.park.keeps hk (fun i hi=>f (h.op i hi) (by decide) (by decide) (by decide)),h.map_.of_block (hk.block _ h.map_.lt (f h.oi (by decide) (by decide) (by decide))),h.keys,h.ids,h.ok.new_ hk.size (fun i hi=>hB.fp hi) 4,n h.oe,n h.ot,fun i hi=>n (h.oT i hi),n h.ob,fun i hi=> ?_,fun i hi=>n (h.ol i hi),fun i hi=>n (h.op i hi),n h.oi⟩
 rcases hG i hi with e1|e1
 ·exact n (h.oG i e1)
 ·exact .inr ⟨e1,hi,rfl⟩
def Ki2 (own:Nat→Nat→Prop) (V X:Nat) (A:Option Addr) (Y:Nat):Prop:=(∀k,¬own Y k)∧Y≠V∧Y≠X∧QV A≠some Y
structure Qm5 (w1 wr:World) (e tb bb bk im V X:Nat) (cs:Array Value) (T:Option Addr) (tc:Nat) (Al:Option Addr) (lc:Nat) (lv:List XJ) (bu se:Int) (Ap:Option Addr) (pc:Nat) (es:List MapEntry) (mc:Nat) (own:Nat→Nat→Prop) (g:Int→Option Int→Int) (A:Option Addr) (c:Nat) (F:List JV) (ob:Array Value) (m1:ZX) (G2:Nat→Prop):Prop where
 eng:UJ wr e cs tb bb bk im T tc Al lc lv bu se Ap pc es mc G2 (Qr3 w1 own G2 4) g m1
 keep:QK (fun i=>(∃k,own i k)∨i=V) w1 wr
 row:QY wr A F.length c 48 4 (QW Qb1 F)
 fA: ∀i,QV A=some i→w1.heap.size≤i∧ ¬G2 i
 var:QJ wr V 33 #[.pointer (some ⟨e,0,none⟩)]
 box:QJ wr X 29 ob
 o1:Jh3 w1 own
 nv:(∀k,¬own V k)∧(∀k,¬own X k)∧V≠X∧V<w1.heap.size∧X<w1.heap.size
section
variable {w1 wr w':World} {e tb bb bk im V X:Nat} {cs:Array Value} {T:Option Addr} {tc:Nat} {Al:Option Addr} {lc:Nat} {lv:List XJ} {bu se:Int} {Ap:Option Addr} {pc:Nat} {es:List MapEntry} {mc:Nat} {G:Nat→Prop} {own:Nat→Nat→Prop} {g:Int→Option Int→Int} {A:Option Addr} {c:Nat} {Fs:List JV} {ob:Array Value} {m m1:ZX} {G2:Nat→Prop}
theorem Qm5.below (h:Qm5 w1 wr e tb bb bk im V X cs T tc Al lc lv bu se Ap pc es mc own g A c Fs ob m1 G2) (hb:Below wr.heap.size wr w'):Qm5 w1 w' e tb bb bk im V X cs T tc Al lc lv bu se Ap pc es mc own g A c Fs ob m1 G2:=
 ⟨h.eng.below hb,h.keep.then_ hb,h.row.below hb,h.fA,QJ.keep h.var hb,QJ.keep h.box hb,h.o1,h.nv⟩
theorem Qm5.far (h:Qm5 w1 wr e tb bb bk im V X cs T tc Al lc lv bu se Ap pc es mc own g A c Fs ob m1 G2) {Y:Nat} (hY:wr.heap.size≤Y):Ki2 (Qr3 w1 own G2 4) V X A Y:=
 ⟨fun k hk=>by have:=h.eng.ok.lt Y k hk;omega,fun x=>by have:=QJ.lt h.var;omega,fun x=>by have:=QJ.lt h.box;omega,fun x=>by have:=h.row.lt x;omega⟩
theorem Qm5.keepY (h:Qm5 w1 wr e tb bb bk im V X cs T tc Al lc lv bu se Ap pc es mc own g A c Fs ob m1 G2) {Y:Nat} (hk:QK (fun i=>i=Y) wr w') (hY:Ki2 (Qr3 w1 own G2 4) V X A Y) (hn:w1.heap.size≤Y):Qm5 w1 w' e tb bb bk im V X cs T tc Al lc lv bu se Ap pc es mc own g A c Fs ob m1 G2:=
 ⟨h.eng.keeps hk (fun i k hi hie=>hY.1 k (by have e1:i=Y:=hie;exact e1▸hi)),h.keep.trans hk (fun i hi=> .inr (by have e1:i=Y:=hi;omega)),h.row.keeps hk (fun i hi hie=>hY.2.2.2 (by have e1:i=Y:=hie;exact e1▸hi)),h.fA,QJ.keeps h.var hk (fun x=>hY.2.1 x.symm),QJ.keeps h.box hk (fun x=>hY.2.2.1 x.symm),h.o1,h.nv⟩
theorem Qm5.cells {a1 a2 a3 a4 a5:Value} (h:Qm5 w1 wr e tb bb bk im V X cs T tc Al lc lv bu se Ap pc es mc own g A c Fs #[a1,a2,a3,a4,a5] m1 G2):
  wr.cell? ⟨V,0,none⟩=some (.pointer (some ⟨e,0,none⟩))∧wr.cell? ⟨e,8,none⟩=some (.pointer (some ⟨bk,0,none⟩))∧wr.cell? ⟨e,7,none⟩=some (.pointer (some ⟨bb,0,none⟩))∧wr.cell? ⟨X,0,none⟩=some a1∧wr.cell? ⟨X,1,none⟩=some a2∧wr.cell? ⟨X,2,none⟩=some a3∧wr.cell? ⟨X,3,none⟩=some a4∧wr.cell? ⟨X,4,none⟩=some a5:=
 ⟨by rw[QJ.cell h.var];rfl,h.eng.cell h.eng.ec.c8,h.eng.cell h.eng.ec.c7,by rw[QJ.cell h.box];rfl,by rw[QJ.cell h.box];rfl,by rw[QJ.cell h.box];rfl,by rw[QJ.cell h.box];rfl,by rw[QJ.cell h.box];rfl⟩
def kF (G:Nat→Prop) (bb e V:Nat) (i:Nat):Prop:=G i∨i=bb∨i=e∨i=V
theorem Qt5 {W w4:World} {M1 M2:List QX} {F':Nat→Prop} {r:O9 Int} {o:QX} (h:UJ w1 e cs tb bb bk im T tc Al lc lv bu se Ap pc es mc G own g m) (hV:QJ w1 V 33 #[.pointer (some ⟨e,0,none⟩)]) (hX:QJ w1 X 29 ob) (hn:(∀k,¬own V k)∧(∀k,¬own X k)∧V≠X) (hb:Below w1.heap.size w1 W) (hsd:VV o.side) (hr:ZV m o=r)
  (hm:Qj0 (Ki1 e bb bk V cs m.st m.dy m.an) W w4 r.st (kF G bb e V) F' M1 M2 A c r.fills) (hs1:XQ o.side M1 M2=XQ o.side m.L1 m.L2) (hs2:XQ (3-o.side) M1 M2=r.rest):
  ∃G2,Qm5 w1 w4 e tb bb bk im V X cs T tc Al lc lv bu se Ap pc es mc own g A c r.fills ob (UW m o) G2∧ ∀i t us,QJ W i t us→w1.heap.size≤i→QJ w4 i t us∧Ki2 (Qr3 w1 own G2 4) V X A i:=by
 obtain⟨G2,hk⟩:=hm.mk_
 have hW:=hb.size
 have lV:=QJ.lt hV
 have lX:=QJ.lt hX
 have hold: ∀i,kF G bb e V i→i<w1.heap.size:=fun i hi=>by
  rcases hi with x|x|x|x
  ·exact h.book.fp x
  ·exact x▸QJ.lt h.bands
  ·exact x▸QJ.lt h.ind.blk
  ·exact x▸lV
 have hkp:QK (kF G bb e V) w1 w4:=(QK.of_below hb _).trans hm.step.1 (fun i hi=> .inl hi)
 have hG2: ∀i,G2 i→G i∨w1.heap.size≤i:=fun i hi=>by
  rcases hm.step.2 i ((hk.fp i).2 (.inl hi))with x|x
  ·rcases x with x|x|x|x
   ·exact .inl x
   ·exact absurd hi (x▸hk.gb)
   ·exact absurd hi (x▸hk.ge)
   ·exact absurd hi (x▸hk.gv)
  ·exact .inr (by omega)
 have e1:({m with L1:=M1,L2:=M2,la:=r.st}:ZX)=UW m o:=by
  unfold UW;rw[hr];have hL:M1=(if o.side=1 then m.L1 else r.rest)∧M2=(if o.side=1 then r.rest else m.L2):=by
   rcases hsd with e2|e2
   ·rw[e2]at hs1 hs2⊢
    rw[if_pos rfl,if_pos rfl];exact⟨hs1,hs2⟩
   ·rw[e2]at hs1 hs2⊢
    rw[if_neg (by decide),if_neg (by decide)];exact⟨hs2,hs1⟩
  rw[←hL.1,←hL.2]
 have hE:=h.meetTo hkp (fun i hi=>by
  rcases hi with x|x|x|x
  ·exact .inl x
  ·exact .inr (.inl x)
  ·exact .inr (.inr (.inl x))
  ·exact .inr (.inr (.inr (x▸hn.1)))) hk.book hk.bands hk.eng hG2
 rw[e1]at hE
 have fX: ¬kF G bb e V X:=by
  rintro(x|x|x|x)
  ·exact hn.2.1 4 (h.oG X x)
  ·exact hn.2.1 3 (x▸h.ob)
  ·exact hn.2.1 1 (x▸h.oe)
  ·exact hn.2.2 x.symm
 have hA: ∀i,QV A=some i→w1.heap.size≤i∧ ¬G2 i:=fun i hi=>⟨Nat.le_trans hW (hm.fpA i hi).2,fun x=>(hm.fpA i hi).1 ((hk.fp i).2 (.inl x))⟩
 refine⟨G2,⟨hE,hkp.mono (fun i hi=> ?_),hm.row,hA,hk.var,QJ.keeps hX hkp fX,h.ok,hn.1,hn.2.1,hn.2.2,lV,lX⟩,fun i t us hB hi=>⟨QJ.keeps hB hm.step.1 (fun x=>by have:=hold i x;omega),fun k hk2=> ?_,by omega,by omega,fun x=>by have:=(hm.fpA i x).2;have:=QJ.lt hB;omega⟩⟩
 ·rcases hi with x|x|x|x
  ·exact .inl ⟨4,h.oG i x⟩
  ·exact .inl ⟨3,x▸h.ob⟩
  ·exact .inl ⟨1,x▸h.oe⟩
  ·exact .inr x
 ·rcases hk2 with x|⟨-,x,-⟩
  ·have:=h.ok.lt i k x;omega
  ·rcases hm.step.2 i ((hk.fp i).2 (.inl x))with y|y
   ·have:=hold i y;omega
   ·have:=QJ.lt hB;omega
end
end Go.Proofs.YtnlngicnfegjgaaGreat
namespace Go.Proofs.YtnlngicnfegjgaaGreat
open Go.ChangeMaps Go.RowKit
section
variable {w w':World} {e:Nat} {cs:Array Value} {tb bb bk im:Nat} {T:Option Addr} {tc:Nat} {Al:Option Addr} {lc:Nat} {lv:List XJ} {bu se:Int} {Ap:Option Addr} {pc:Nat} {es:List MapEntry} {mc:Nat} {G:Nat→Prop} {own:Nat→Nat→Prop} {g:Int→Option Int→Int} {m:ZX}
theorem JZ {i j:Nat} {v u:Value} (h:cs[i]?=some v) (hne:j≠i):(cs.setIfInBounds j u)[i]?=some v:=by rw[Array.getElem?_setIfInBounds_ne hne];exact h
theorem Qt6 {j:Nat} {u:Value} (h:j<cs.size):(cs.setIfInBounds j u)[j]?=some u:=Array.getElem?_setIfInBounds_self_of_lt h
theorem Jd0.setPh (h:Jd0 cs tb bb bk im Ap pc m) (v:Int):Jd0 (cs.setIfInBounds 14 (.int .i64 v)) tb bb bk im Ap pc {m with ph:=v}:=
 ⟨by rw[Array.size_setIfInBounds];exact h.sz,JZ h.c4 (by decide),JZ h.c5 (by decide),JZ h.c6 (by decide),JZ h.c7 (by decide),JZ h.c8 (by decide),JZ h.c12 (by decide),JZ h.c13 (by decide),Qt6 (by have:=h.sz;omega),JZ h.c15 (by decide),JZ h.c16 (by decide),JZ h.c17 (by decide)⟩
theorem Jd0.setNow (h:Jd0 cs tb bb bk im Ap pc m) (v:Int):Jd0 (cs.setIfInBounds 15 (.int .i64 v)) tb bb bk im Ap pc {m with now:=v}:=
 ⟨by rw[Array.size_setIfInBounds];exact h.sz,JZ h.c4 (by decide),JZ h.c5 (by decide),JZ h.c6 (by decide),JZ h.c7 (by decide),JZ h.c8 (by decide),JZ h.c12 (by decide),JZ h.c13 (by decide),JZ h.c14 (by decide),Qt6 (by have:=h.sz;omega),JZ h.c16 (by decide),JZ h.c17 (by decide)⟩
theorem Jd0.setEnds (h:Jd0 cs tb bb bk im Ap pc m) (v:Int):Jd0 (cs.setIfInBounds 16 (.int .i64 v)) tb bb bk im Ap pc {m with ends:=v}:=
 ⟨by rw[Array.size_setIfInBounds];exact h.sz,JZ h.c4 (by decide),JZ h.c5 (by decide),JZ h.c6 (by decide),JZ h.c7 (by decide),JZ h.c8 (by decide),JZ h.c12 (by decide),JZ h.c13 (by decide),JZ h.c14 (by decide),JZ h.c15 (by decide),Qt6 (by have:=h.sz;omega),JZ h.c17 (by decide)⟩
theorem Jd0.setLng (h:Jd0 cs tb bb bk im Ap pc m) (v:Int):Jd0 (cs.setIfInBounds 17 (.int .i64 v)) tb bb bk im Ap pc {m with lng:=v}:=
 ⟨by rw[Array.size_setIfInBounds];exact h.sz,JZ h.c4 (by decide),JZ h.c5 (by decide),JZ h.c6 (by decide),JZ h.c7 (by decide),JZ h.c8 (by decide),JZ h.c12 (by decide),JZ h.c13 (by decide),JZ h.c14 (by decide),JZ h.c15 (by decide),JZ h.c16 (by decide),Qt6 (by have:=h.sz;omega)⟩
theorem UJ.setCell_ {j:Nat} {v:Value} {m':ZX} (h:UJ w e cs tb bb bk im T tc Al lc lv bu se Ap pc es mc G own g m) (hj:j≠9∧j≠10∧j≠11) (hc:Jd0 (cs.setIfInBounds j v) tb bb bk im Ap pc m')
  (hm:m'.rows=m.rows∧m'.st=m.st∧m'.dy=m.dy∧m'.an=m.an∧m'.la=m.la∧m'.L1=m.L1∧m'.L2=m.L2∧m'.pk=m.pk∧m'.ids=m.ids):
  UJ (w.setCell ⟨e,j,none⟩ v) e (cs.setIfInBounds j v) tb bb bk im T tc Al lc lv bu se Ap pc es mc G own g m'∧VZ w (w.setCell ⟨e,j,none⟩ v) own own:=
 h.cellsTo (QJ.set_ h.ind.blk j v) (QK.set_ w ⟨e,j,none⟩ v) hc (Array.getElem?_setIfInBounds_ne hj.1) (Array.getElem?_setIfInBounds_ne hj.2.1) (Array.getElem?_setIfInBounds_ne hj.2.2) hm
theorem UJ.setPh (h:UJ w e cs tb bb bk im T tc Al lc lv bu se Ap pc es mc G own g m) (v:Int):
  UJ (w.setCell ⟨e,14,none⟩ (.int .i64 v)) e (cs.setIfInBounds 14 (.int .i64 v)) tb bb bk im T tc Al lc lv bu se Ap pc es mc G own g {m with ph:=v}∧VZ w (w.setCell ⟨e,14,none⟩ (.int .i64 v)) own own:=
 h.setCell_ (by decide) (h.ec.setPh v) ⟨rfl,rfl,rfl,rfl,rfl,rfl,rfl,rfl,rfl⟩
theorem UJ.setNow (h:UJ w e cs tb bb bk im T tc Al lc lv bu se Ap pc es mc G own g m) (v:Int):
  UJ (w.setCell ⟨e,15,none⟩ (.int .i64 v)) e (cs.setIfInBounds 15 (.int .i64 v)) tb bb bk im T tc Al lc lv bu se Ap pc es mc G own g {m with now:=v}∧VZ w (w.setCell ⟨e,15,none⟩ (.int .i64 v)) own own:=
 h.setCell_ (by decide) (h.ec.setNow v) ⟨rfl,rfl,rfl,rfl,rfl,rfl,rfl,rfl,rfl⟩
theorem UJ.setEnds (h:UJ w e cs tb bb bk im T tc Al lc lv bu se Ap pc es mc G own g m) (v:Int):
  UJ (w.setCell ⟨e,16,none⟩ (.int .i64 v)) e (cs.setIfInBounds 16 (.int .i64 v)) tb bb bk im T tc Al lc lv bu se Ap pc es mc G own g {m with ends:=v}∧VZ w (w.setCell ⟨e,16,none⟩ (.int .i64 v)) own own:=
 h.setCell_ (by decide) (h.ec.setEnds v) ⟨rfl,rfl,rfl,rfl,rfl,rfl,rfl,rfl,rfl⟩
theorem UJ.setLng (h:UJ w e cs tb bb bk im T tc Al lc lv bu se Ap pc es mc G own g m) (v:Int):
  UJ (w.setCell ⟨e,17,none⟩ (.int .i64 v)) e (cs.setIfInBounds 17 (.int .i64 v)) tb bb bk im T tc Al lc lv bu se Ap pc es mc G own g {m with lng:=v}∧VZ w (w.setCell ⟨e,17,none⟩ (.int .i64 v)) own own:=
 h.setCell_ (by decide) (h.ec.setLng v) ⟨rfl,rfl,rfl,rfl,rfl,rfl,rfl,rfl,rfl⟩
theorem UJ.frozen (h:UJ w e cs tb bb bk im T tc Al lc lv bu se Ap pc es mc G own g m) (i:Nat):w.frozen? ⟨e,i,none⟩=false:=QJ.frozen h.ind.blk i
theorem UJ.pkTo {P':List QX} {Ap':Option Addr} {pc':Nat} (h:UJ w e cs tb bb bk im T tc Al lc lv bu se Ap pc es mc G own g m) (hk:QK (fun i=>QV Ap=some i) w w') (hr:QY w' Ap' P'.length pc' 29 5 (QW I1 P')) (hg: ∀i,QV Ap'=some i→QV Ap=some i∨w.heap.size≤i):
  ∃own',UJ (w'.setCell ⟨e,12,none⟩ (.slice Ap' P'.length pc')) e (cs.setIfInBounds 12 (.slice Ap' P'.length pc')) tb bb bk im T tc Al lc lv bu se Ap' pc' es mc G own' g {m with pk:=P'}∧VZ w (w'.setCell ⟨e,12,none⟩ (.slice Ap' P'.length pc')) own own':=by
 have f: ∀ {i k:Nat},own i k→k≠6→ ¬QV Ap=some i:=fun hi hne=>h.fit (S:=fun i=>QV Ap=some i) h.op hi hne
 have f1: ∀ {i k:Nat},own i k→k≠1→ ¬i=e:=fun hi hne=>h.fit (S:=fun i=>i=e) (fun i hi=>hi▸h.oe) hi hne
 have n: ∀ {i k:Nat},own i k→Qr3 w own (fun i=>QV Ap'=some i) 6 i k:=fun hi=> .inl hi
 have he:e<w.heap.size:=QJ.lt h.ind.blk
 have hk2:=QK.set_ w' ⟨e,12,none⟩ (.slice Ap' P'.length pc')
 have hk':QK (fun i=>QV Ap=some i∨i=e) w (w'.setCell ⟨e,12,none⟩ (.slice Ap' P'.length pc')):=(hk.mono (fun i hi=> .inl hi)).trans hk2 (fun i hi=> .inl (.inr hi))
 have q: ∀ {i k:Nat},own i k→k≠6→k≠1→ ¬(QV Ap=some i∨i=e):=fun hi h6 h1 x=>x.elim (f hi h6) (f1 hi h1)
 have hr2:=h.ind
 have hne: ∀i,QV Ap'=some i→ ¬i=e:=fun i hi hie=>by
  rcases hg i hi with e1|e1
  ·exact f h.oe (by decide) (hie▸e1)
  ·omega
 have hsz:=hk.size
 refine⟨Qr3 w own (fun i=>QV Ap'=some i) 6,⟨⟨QJ.set_ (QJ.keeps hr2.blk hk (f h.oe (by decide))) 12 _, ?_, ?_, ?_,hr2.row.keeps hk' (fun i hi=>q (h.ol i hi) (by decide) (by decide)),hr2.na,hr2.ok⟩, ?_,h.is,Nat.lt_of_lt_of_le h.tabl hk'.size,(hk'.cell (p:=⟨tb,0,none⟩) h.tabl (q h.ot (by decide) (by decide))).trans h.tabc,h.tabp.keeps hk' (fun i hi=>q (h.oT i hi) (by decide) (by decide)),QJ.keeps h.bands hk' (q h.ob (by decide) (by decide)),h.book.keeps hk' (fun i hi=>q (h.oG i hi) (by decide) (by decide)),hr.keeps hk2 hne,h.map_.of_block (hk'.block _ h.map_.lt (q h.oi (by decide) (by decide))),h.keys,h.ids,h.ok.new_ hk'.size (fun i hi=>Nat.lt_of_lt_of_le (hr.lt hi) hk2.size) 6,n h.oe,n h.ot,fun i hi=>n (h.oT i hi),n h.ob,fun i hi=>n (h.oG i hi),fun i hi=>n (h.ol i hi),fun i hi=> ?_,n h.oi⟩,hk'.mono (fun i hi=> ?_),fun i k hi=>hi.imp id (fun x=>x.1)⟩
 ·exact JZ hr2.c0 (by decide)
 ·exact JZ hr2.c1 (by decide)
 ·exact JZ hr2.c2 (by decide)
 ·have hc:=h.ec
  exact⟨by rw[Array.size_setIfInBounds];exact hc.sz,JZ hc.c4 (by decide),JZ hc.c5 (by decide),JZ hc.c6 (by decide),JZ hc.c7 (by decide),JZ hc.c8 (by decide),Qt6 (by have:=hc.sz;omega),JZ hc.c13 (by decide),JZ hc.c14 (by decide),JZ hc.c15 (by decide),JZ hc.c16 (by decide),JZ hc.c17 (by decide)⟩
 ·rcases hg i hi with e1|e1
  ·exact n (h.op i e1)
  ·exact .inr ⟨e1,hi,rfl⟩
 ·rcases hi with hi|rfl
  ·exact⟨6,h.op i hi⟩
  ·exact⟨1,h.oe⟩
theorem UJ.pkNil (h:UJ w e cs tb bb bk im T tc Al lc lv bu se Ap pc es mc G own g m):
  ∃own',UJ (w.setCell ⟨e,12,none⟩ (.slice none 0 0)) e (cs.setIfInBounds 12 (.slice none 0 0)) tb bb bk im T tc Al lc lv bu se none 0 es mc G own' g {m with pk:= []}∧VZ w (w.setCell ⟨e,12,none⟩ (.slice none 0 0)) own own':=
 h.pkTo (P':= []) (QK.of_below (Below.refl _ _) _) (World.ownsRow_nil _ _ _ _) (fun i hi=>by simp[QV]at hi)
theorem UJ.indNil (h:UJ w e cs tb bb bk im T tc Al lc lv bu se Ap pc es mc G own g m):
  UJ (((w.setCell ⟨e,9,none⟩ (.slice none 0 0)).setCell ⟨e,10,none⟩ (.int .i64 0)).setCell ⟨e,11,none⟩ (.int .i64 0)) e (((cs.setIfInBounds 9 (.slice none 0 0)).setIfInBounds 10 (.int .i64 0)).setIfInBounds 11 (.int .i64 0)) tb bb bk im T tc none 0 [] 0 0 Ap pc es mc G own (fun s k=>Q2 s k []) m∧VZ w (((w.setCell ⟨e,9,none⟩ (.slice none 0 0)).setCell ⟨e,10,none⟩ (.int .i64 0)).setCell ⟨e,11,none⟩ (.int .i64 0)) own own:=by
 have hk:=((QK.set_ w ⟨e,9,none⟩ (.slice none 0 0)).trans (QK.set_ _ ⟨e,10,none⟩ (.int .i64 0)) (fun i hi=> .inl hi)).trans (QK.set_ _ ⟨e,11,none⟩ (.int .i64 0)) (fun i hi=> .inl hi)
 have f: ∀ {i k:Nat},own i k→k≠1→ ¬i=e:=fun hi hne=>h.fit (S:=fun i=>i=e) (fun i hi=>hi▸h.oe) hi hne
 have hc:=h.ec
 have hs:=hc.sz
 have c: ∀i v,cs[i]?=some v→i≠9→i≠10→i≠11→(((cs.setIfInBounds 9 (.slice none 0 0)).setIfInBounds 10 (.int .i64 0)).setIfInBounds 11 (.int .i64 0))[i]?=some v:=fun i v hv h9 h10 h11=>JZ (JZ (JZ hv (Ne.symm h9)) (Ne.symm h10)) (Ne.symm h11)
 refine⟨⟨⟨QJ.set_ (QJ.set_ (QJ.set_ h.ind.blk 9 _) 10 _) 11 _,JZ (JZ (Qt6 (by omega)) (by decide)) (by decide),JZ (Qt6 (by simp;omega)) (by decide),Qt6 (by simp;omega),World.ownsRow_nil _ _ _ _,by simp[QV],Xo0⟩,⟨by simp;exact hs,c _ _ hc.c4 (by decide) (by decide) (by decide),c _ _ hc.c5 (by decide) (by decide) (by decide),c _ _ hc.c6 (by decide) (by decide) (by decide),c _ _ hc.c7 (by decide) (by decide) (by decide),c _ _ hc.c8 (by decide) (by decide) (by decide),c _ _ hc.c12 (by decide) (by decide) (by decide),c _ _ hc.c13 (by decide) (by decide) (by decide),c _ _ hc.c14 (by decide) (by decide) (by decide),c _ _ hc.c15 (by decide) (by decide) (by decide),c _ _ hc.c16 (by decide) (by decide) (by decide),c _ _ hc.c17 (by decide) (by decide) (by decide)⟩,Xa5,Nat.lt_of_lt_of_le h.tabl hk.size,(hk.cell (p:=⟨tb,0,none⟩) h.tabl (f h.ot (by decide))).trans h.tabc,h.tabp.keeps hk (fun i hi=>f (h.oT i hi) (by decide)),QJ.keeps h.bands hk (f h.ob (by decide)),h.book.keeps hk (fun i hi=>f (h.oG i hi) (by decide)),h.park.keeps hk (fun i hi=>f (h.op i hi) (by decide)),h.map_.of_block (hk.block _ h.map_.lt (f h.oi (by decide))),h.keys,h.ids,h.ok.mono hk.size,h.oe,h.ot,h.oT,h.ob,h.oG,fun i hi=>by simp[QV]at hi,h.op,h.oi⟩,hk.mono (fun i hi=>⟨1,hi▸h.oe⟩),fun i k hi=> .inl hi⟩
theorem UJ.otherBook {b':Nat} {G':Nat→Prop} {M1 M2:List QX} (h:UJ w e cs tb bb bk im T tc Al lc lv bu se Ap pc es mc G own g m) (hB:Q1 w b' G' M1 M2) (hG: ∀i k,G' i→ ¬own i k):
  ∃own',UJ (w.setCell ⟨e,8,none⟩ (.pointer (some ⟨b',0,none⟩))) e (cs.setIfInBounds 8 (.pointer (some ⟨b',0,none⟩))) tb bb b' im T tc Al lc lv bu se Ap pc es mc G' own' g {m with L1:=M1,L2:=M2}∧QK (fun i=> ∃k,own i k) w (w.setCell ⟨e,8,none⟩ (.pointer (some ⟨b',0,none⟩)))∧ ∀i k,own' i k→own i k∨G' i:=by
 have hk:=QK.set_ w ⟨e,8,none⟩ (.pointer (some ⟨b',0,none⟩))
 have f: ∀ {i k:Nat},own i k→k≠1→ ¬i=e:=fun hi hne=>h.fit (S:=fun i=>i=e) (fun i hi=>hi▸h.oe) hi hne
 have hc:=h.ec
 have hr2:=h.ind
 have n: ∀ {i k:Nat},own i k→own i k∨(G' i∧k=4):=fun hi=> .inl hi
 refine⟨fun i k=>own i k∨(G' i∧k=4),⟨⟨QJ.set_ hr2.blk 8 _,JZ hr2.c0 (by decide),JZ hr2.c1 (by decide),JZ hr2.c2 (by decide),hr2.row.keeps hk (fun i hi=>f (h.ol i hi) (by decide)),hr2.na,hr2.ok⟩,⟨by simp;exact hc.sz,JZ hc.c4 (by decide),JZ hc.c5 (by decide),JZ hc.c6 (by decide),JZ hc.c7 (by decide),Qt6 (by have:=hc.sz;omega),JZ hc.c12 (by decide),JZ hc.c13 (by decide),JZ hc.c14 (by decide),JZ hc.c15 (by decide),JZ hc.c16 (by decide),JZ hc.c17 (by decide)⟩,h.is,Nat.lt_of_lt_of_le h.tabl hk.size,(hk.cell (p:=⟨tb,0,none⟩) h.tabl (f h.ot (by decide))).trans h.tabc,h.tabp.keeps hk (fun i hi=>f (h.oT i hi) (by decide)),QJ.keeps h.bands hk (f h.ob (by decide)),hB.keeps hk (fun i hi hie=>hG i 1 hi (by have h3:i=e:=hie;rw[h3];exact h.oe)),h.park.keeps hk (fun i hi=>f (h.op i hi) (by decide)),h.map_.of_block (hk.block _ h.map_.lt (f h.oi (by decide))),h.keys,h.ids,⟨fun i k k' h1 h2=> ?_,fun i k h1=> ?_⟩,n h.oe,n h.ot,fun i hi=>n (h.oT i hi),n h.ob,fun i hi=> .inr ⟨hi,rfl⟩,fun i hi=>n (h.ol i hi),fun i hi=>n (h.op i hi),n h.oi⟩,hk.mono (fun i hi=>⟨1,hi▸h.oe⟩),fun i k hi=>hi.imp id (fun x=>x.1)⟩
 ·rcases h1 with h1|⟨a1,b1⟩
  ·rcases h2 with h2|⟨a2,b2⟩
   ·exact h.ok.uni i k k' h1 h2
   ·exact absurd h1 (hG i k a2)
  ·rcases h2 with h2|⟨a2,b2⟩
   ·exact absurd h2 (hG i k' a1)
   ·rw[b1,b2]
 ·rcases h1 with h1|⟨a1,b1⟩
  ·exact Nat.lt_of_lt_of_le (h.ok.lt i k h1) hk.size
  ·exact Nat.lt_of_lt_of_le (hB.fp a1) hk.size
theorem UJ.mapTo {es':List MapEntry} {mc':Nat} {id:Int} (h:UJ w e cs tb bb bk im T tc Al lc lv bu se Ap pc es mc G own g m) (ht:IV w w' im) (hm:Q3 w' im es' mc') (hks:Qg9 es') (QQ: ∀k,Z2 es' k=if k∈m.ids++ [id]then some (.bool true)else none):
  UJ w' e cs tb bb bk im T tc Al lc lv bu se Ap pc es' mc' G own g {m with ids:=m.ids++ [id]}∧VZ w w' own own:=by
 have hk:QK (fun i=>i=im) w w':=⟨ht.os,ht.tape,ht.output,Nat.le_of_eq ht.size.symm,fun i _ hn=>ht.block i hn⟩
 have f: ∀ {i k:Nat},own i k→k≠7→ ¬i=im:=fun hi hne=>h.fit (S:=fun i=>i=im) (fun i hi=>hi▸h.oi) hi hne
 exact⟨⟨h.ind.keeps hk (f h.oe (by decide)) (fun i hi=>f (h.ol i hi) (by decide)),⟨h.ec.sz,h.ec.c4,h.ec.c5,h.ec.c6,h.ec.c7,h.ec.c8,h.ec.c12,h.ec.c13,h.ec.c14,h.ec.c15,h.ec.c16,h.ec.c17⟩,h.is,Nat.lt_of_lt_of_le h.tabl hk.size,(hk.cell (p:=⟨tb,0,none⟩) h.tabl (f h.ot (by decide))).trans h.tabc,h.tabp.keeps hk (fun i hi=>f (h.oT i hi) (by decide)),QJ.keeps h.bands hk (f h.ob (by decide)),h.book.keeps hk (fun i hi=>f (h.oG i hi) (by decide)),h.park.keeps hk (fun i hi=>f (h.op i hi) (by decide)),hm,hks,QQ,h.ok.mono hk.size,h.oe,h.ot,h.oT,h.ob,h.oG,h.ol,h.op,h.oi⟩,hk.mono (fun i hi=>⟨7,hi▸h.oi⟩),fun i k hi=> .inl hi⟩
end
end Go.Proofs.YtnlngicnfegjgaaGreat
