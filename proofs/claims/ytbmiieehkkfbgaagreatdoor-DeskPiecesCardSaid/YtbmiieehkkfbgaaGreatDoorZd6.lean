/- Contracts and walks that the law's proof needs. -/
import Derived.WalkKit
import Derived.WalkLawsBesides
import Derived.WalkSpells
import Derived.Deep.QuietTactic
import Derived.BigQuiet
import Derived.Deep.AppendLies
import Derived.Deep.RegionHeld3
import Derived.Test.YtbmiieehkkfbgaaGreatDoorRows
import Derived.Test.YtbmiieehkkfbgaaGreatDoorZd1
import Derived.Deep.RegionLaw
import Derived.Deep.DeepCutAuto
set_option linter.unusedVariables false
set_option maxRecDepth 100000
set_option maxHeartbeats 8000000
namespace Go.Proofs.YtbmiieehkkfbgaaGreatDoor
open Go.RowKit
abbrev UX:=QX×Int×Bool
def Qn4 (s:UX):List Value:=I6 s.1++ [.int .i64 s.2.1,.bool s.2.2]
theorem Qi1 (s:UX):(Qn4 s).length=7:=rfl
theorem Kt9 (s:UX): ∀u∈Qn4 s,u.oneCell'=true:=by
 intro u hu
 simp[Qn4,I6]at hu
 rcases hu with rfl|rfl|rfl|rfl|rfl|rfl|rfl<;>rfl
def Qa2 (l:List Int):List Value:=l.map fun x=> .int .i64 x
structure KY (w:World) (a:Nat) (A:Option Addr) (c:Nat) (B:Option Addr) (d:Nat) (ss:List UX) (fr:List Int) (most many:Int):Prop where
 blk:QJ w a 254 #[.slice A ss.length c,.slice B fr.length d,.int .i64 most,.int .i64 many]
 slots:QW w A ss.length c 228 7 (JQ Qn4 ss)
 free:QW w B fr.length d 3 1 (Qa2 fr)
 na:QZ A≠some a
 nb:QZ B≠some a
 nab: ∀g,QZ A=some g→QZ B≠some g
theorem KY.slot {w:World} {a c d:Nat} {A B:Option Addr} {ss:List UX} {fr:List Int} {most many:Int} (h:KY w a A c B d ss fr most many) {k:Nat} (hk:k<ss.length):
  ∃g,A=some ⟨g,0,none⟩∧w.cell? ⟨g,k*7,none⟩=some (.int .i64 ss[k].1.id)∧w.cell? ⟨g,k*7+1,none⟩=some (.int .i64 ss[k].1.side)∧w.cell? ⟨g,k*7+2,none⟩=some (.int .i64 ss[k].1.kind)∧
   w.cell? ⟨g,k*7+3,none⟩=some (.int .i64 ss[k].1.price)∧w.cell? ⟨g,k*7+4,none⟩=some (.int .i64 ss[k].1.qty)∧w.cell? ⟨g,k*7+5,none⟩=some (.int .i64 ss[k].2.1)∧w.cell? ⟨g,k*7+6,none⟩=some (.bool ss[k].2.2):=by
 obtain⟨g,hg,hc⟩:=h.slots.elem Qi1 (by omega) hk
 exact⟨g,hg,hc 0 _ rfl,hc 1 _ rfl,hc 2 _ rfl,hc 3 _ rfl,hc 4 _ rfl,hc 5 _ rfl,hc 6 _ rfl⟩
theorem KY.cells {w:World} {a c d:Nat} {A B:Option Addr} {ss:List UX} {fr:List Int} {most many:Int} (h:KY w a A c B d ss fr most many):
  w.cell? ⟨a,0,none⟩=some (.slice A ss.length c)∧w.cell? ⟨a,1,none⟩=some (.slice B fr.length d)∧w.cell? ⟨a,2,none⟩=some (.int .i64 most)∧w.cell? ⟨a,3,none⟩=some (.int .i64 many):=by
 refine⟨?_, ?_, ?_, ?_⟩<;>(rw[QJ.cell h.blk];rfl)
section
variable {w w':World} {a c d:Nat} {A B:Option Addr} {ss:List UX} {fr:List Int} {most many:Int}
def OFp (a:Nat) (A B:Option Addr) (i:Nat):Prop:=i=a∨QZ A=some i∨QZ B=some i
theorem KY.fp (h:KY w a A c B d ss fr most many) {i:Nat} (hi:OFp a A B i):i<w.heap.size:=by
 rcases hi with rfl|hi|hi
 ·exact QJ.lt h.blk
 ·exact h.slots.lt hi
 ·exact h.free.lt hi
theorem KY.keeps {S:Nat→Prop} (h:KY w a A c B d ss fr most many) (hk:QK S w w') (hn: ∀i,OFp a A B i→ ¬S i):KY w' a A c B d ss fr most many:=
 ⟨QJ.keeps h.blk hk (hn a (.inl rfl)),h.slots.keeps hk (fun g hg=>hn g (.inr (.inl hg))),h.free.keeps hk (fun g hg=>hn g (.inr (.inr hg))),h.na,h.nb,h.nab⟩
theorem KY.below (h:KY w a A c B d ss fr most many) (hb:Below w.heap.size w w'):KY w' a A c B d ss fr most many:=h.keeps (QK.of_below hb (fun _=>False)) (fun _ _=>id)
end
def Qc3 (ss:List UX) (s g:Int):Bool:=decide (0≤s) &&match ss[s.toNat]? with|some (_,age,full)=>full && (age ==g)|none=>false
def noO:QX:=⟨0,0,0,0,0⟩
def Xo5 (ss:List UX) (s:Int):QX:=match ss[s.toNat]? with|some (x,_,_)=>x|none=>noO
theorem Xo6 {ss:List UX} {k:Nat} {g:Int} (h:k<ss.length):Qc3 ss k g=(ss[k].2.2 && (ss[k].2.1 ==g)):=by
 simp[Qc3,h]
theorem Kk6 {ss:List UX} {s g:Int} (h:s<0):Qc3 ss s g=false:=by
 simp[Qc3];omega
theorem Kk7 {ss:List UX} {s g:Int} (h0:0≤s) (h:(ss.length:Int)≤s):Qc3 ss s g=false:=by
 have:ss[s.toNat]?=none:=List.getElem?_eq_none (by omega)
 simp[Qc3,this]
theorem Jk4 (w:World) (a:Nat) (A:Option Addr) (c:Nat) (B:Option Addr) (d:Nat) (ss:List UX) (fr:List Int) (most many s g:Int) (h:KY w a A c B d ss fr most many):
  Calls Tryz.prog 147 #[.pointer (some ⟨a,0,none⟩),.agg #[.int .i64 s,.int .i64 g]] w fun e w'=>
   Below w.heap.size w w'∧((Qc3 ss s g=false∧e= .returned (.pointer none))∨(Qc3 ss s g=true∧ ∃k gs,s=(k:Nat)∧k<ss.length∧A=some ⟨gs,0,none⟩∧e= .returned (.pointer (some ⟨gs,k*7,none⟩)))):=by
 have c0:=h.cells.1
 have hlt:=QJ.lt h.blk
 have z0:=(World.cell?_alloc_lt w (.cells #[.int .i64 s,.int .i64 g] 170) ⟨a,0,none⟩ hlt).trans c0
 have HB:=QQ (show Below w.heap.size w (w.alloc (.cells #[.int .i64 s,.int .i64 g] 170))from(Below.refl _ w).alloc (Nat.le_refl _) _)
 by_cases h1:s<0
 ·have d1:=J0 h1
  have E:=QQ (Kk6 (ss:=ss) (g:=g) h1);clear h1;go_enter Tryz.func147,Tryz.ntmps147
  go_wp2_with fail
  go_quiet (fail)
  go_wp2;go_ret;exact⟨QY HB.out _,.inl ⟨E.out,rfl⟩⟩
 ·have d1:=OY h1
  by_cases h2:(ss.length:Int)≤s
  ·have d2:=J0 h2
   have E:=QQ (Kk7 (ss:=ss) (g:=g) (by omega) h2);clear h1 h2;go_enter Tryz.func147,Tryz.ntmps147
   go_wp2_with fail
   go_quiet (fail)
   go_wp2;go_ret;exact⟨QY HB.out _,.inl ⟨E.out,rfl⟩⟩
  ·have d2:=OY h2
   obtain⟨k,rfl⟩: ∃k:Nat,s=k:=⟨s.toNat,by omega⟩;have hk:k<ss.length:=by omega
   have i1:(0:Int)≤(k:Int):=by omega
   have i2:(k:Int)< (ss.length:Int):=by omega
   obtain⟨gs,rfl,s0,_,_,_,_,s1,s2⟩:=h.slot hk;have hgs:=World.block_lt_of_cell? w _ s0;replace s1:=(World.cell?_alloc_lt w (.cells #[.int .i64 k,.int .i64 g] 170) ⟨gs,k*7+5,none⟩ hgs).trans s1;replace s2:=(World.cell?_alloc_lt w (.cells #[.int .i64 k,.int .i64 g] 170) ⟨gs,k*7+6,none⟩ hgs).trans s2;have Hh:=QQ (Xo6 (g:=g) hk);generalize ss[k].2.1=age at s1 Hh
   cases hf:ss[k].2.2
   ·rw[hf]at s2
    have E:Hid (Qc3 ss k g=false):=QQ (by rw[Hh.out,hf];rfl);clear h1 h2 s0 hf;go_enter Tryz.func147,Tryz.ntmps147
    go_wp2_with fail
    go_quiet (fail)
    go_wp2_with fail
    go_quiet (fail)
    go_wp2_with fail
    go_quiet (fail)
    go_wp2;go_ret;exact⟨QY (QY (QY HB.out _) _) _,.inl ⟨E.out,rfl⟩⟩
   ·rw[hf]at s2
    by_cases ha:age=g
    ·have b1:=Z2 ha
     have E:Hid (Qc3 ss k g=true):=QQ (by rw[Hh.out,hf,b1];rfl);clear h1 h2 s0 hf ha;go_enter Tryz.func147,Tryz.ntmps147
     go_wp2_with fail
     go_quiet (fail)
     go_wp2_with fail
     go_quiet (fail)
     go_wp2_with fail
     go_quiet (fail)
     go_wp2;go_ret;exact⟨QY (QY (QY HB.out _) _) _,.inr ⟨E.out,k,gs,rfl,hk,rfl,rfl⟩⟩
    ·have b1:=YW ha
     have E:Hid (Qc3 ss k g=false):=QQ (by rw[Hh.out,hf,b1];rfl);clear h1 h2 s0 hf ha;go_enter Tryz.func147,Tryz.ntmps147
     go_wp2_with fail
     go_quiet (fail)
     go_wp2_with fail
     go_quiet (fail)
     go_wp2_with fail
     go_quiet (fail)
     go_wp2;go_ret;exact⟨QY (QY (QY HB.out _) _) _,.inl ⟨E.out,rfl⟩⟩
def Jg8 (w w':World) (a:Nat) (A B:Option Addr) (ss:List UX) (fr:List Int) (most many:Int):Prop:=
 ∃A' c' B' d',KY w' a A' c' B' d' ss fr most many∧QK (OFp a A B) w w'∧ ∀i,OFp a A' B' i→OFp a A B i∨w.heap.size≤i
theorem Jt3 (w:World) (a:Nat) (A:Option Addr) (c:Nat) (B:Option Addr) (d:Nat) (ss:List UX) (fr:List Int) (most many:Int) (h:KY w a A c B d ss fr most many):
  Calls Tryz.prog 141 #[.pointer (some ⟨a,0,none⟩)] w fun e w'=>e= .returned (.int .i64 many)∧w=w':=by
 have c3:=h.cells.2.2.2
 go_enter Tryz.func141,Tryz.ntmps141
 go_wp2
 go_ret
 exact⟨rfl,rfl⟩
theorem Xb2 (most:Int) (w:World):Calls Tryz.prog 125 #[.int .i64 most] w fun e w'=>
  Below w.heap.size w w'∧((most<1∨1000<most)∧e= .returned (.tuple #[.pointer none,VZ 2])∨
   (1≤most∧most≤1000)∧ ∃a,w.heap.size≤a∧e= .returned (.tuple #[.pointer (some ⟨a,0,none⟩),.nilIface])∧KY w' a none 0 none 0 [] [] most 0):=by
 by_cases h1:most<1
 ·have d1:=J0 h1
  have H1:=QQ h1;clear h1;go_enter Tryz.func125,Tryz.ntmps125
  go_wp2;go_ret2;exact⟨Below.refl _ _,.inl ⟨.inl H1.out,rfl⟩⟩
 ·have d1:=OY h1
  by_cases h2:1000<most
  ·have d2:=J0 h2
   have H2:=QQ h2;clear h1 h2;go_enter Tryz.func125,Tryz.ntmps125
   go_wp2;go_ret2;exact⟨Below.refl _ _,.inl ⟨.inr H2.out,rfl⟩⟩
  ·have d2:=OY h2
   have H2:=QQ (show 1≤most∧most≤1000 by omega);clear h1 h2;go_enter Tryz.func125,Tryz.ntmps125
   go_wp2;go_ret2;refine⟨(Below.refl _ w).alloc (Nat.le_refl _) _,.inr ⟨H2.out,w.heap.size,Nat.le_refl _,rfl,⟨QJ.new _ _ _,World.ownsRow_nil _ _ _ _,World.ownsRow_nil _ _ _ _, ?_, ?_, ?_⟩⟩⟩
   ·simp[QZ]
   ·simp[QZ]
   ·simp[QZ]
def Jn6 (ss:List UX) (s g:Int):QX:=if Qc3 ss s g=true then Xo5 ss s else noO
def Jn7 (ss:List UX) (s g:Int):Int:=if Qc3 ss s g=true then 0 else 7
theorem Xo7 {ss:List UX} {s g:Int} (h:Qc3 ss s g=false):Jn6 ss s g=noO:=by simp[Jn6,h]
theorem Xo8 {ss:List UX} {s g:Int} (h:Qc3 ss s g=false):Jn7 ss s g=7:=by simp[Jn7,h]
theorem Xc9 {ss:List UX} {s g:Int} (h:Qc3 ss s g=true):Jn6 ss s g=Xo5 ss s:=by simp[Jn6,h]
theorem Xd0 {ss:List UX} {s g:Int} (h:Qc3 ss s g=true):Jn7 ss s g=0:=by simp[Jn7,h]
theorem Xo9 {ss:List UX} {k:Nat} (h:k<ss.length):Xo5 ss (k:Nat)=ss[k].1:=by
 simp[Xo5,h]
theorem Xp0 {w:World} {t:Act} {Q:Ending→World→Prop} {g:Nat} {cs:Array Value} {v:Value} (hp:t.tmps.getD 4 undef= .pointer (some ⟨g,0,none⟩)) (h5:t.tmps.getD 5 undef=v) (hd:t.defers= [])
  (hg:QJ w g 117 cs) (hs:cs.size=5) (h:Q (.returned (.tuple #[.agg cs,v])) w):bodyPost Tryz.prog Tryz.f118 Q .ret t w:=by
 refine bodyPost_ret (v:= .tuple #[.agg cs,v]) ?_ hd h
 have hl:=run_loadVar_row (P:=Tryz.prog) w g _ 117 cs (0,0) _ hg Tryz.underlying117 rfl (by rw[hs];kernel_rfl)
 have hp':t.tmps[4]?.getD undef= .pointer (some ⟨g,0,none⟩):=by simpa using hp
 have h5':t.tmps[5]?.getD undef=v:=by simpa using h5
 simp[results,Tryz.results118,hp',h5',asAddr,hl]
theorem Xb3 (w:World) (a:Nat) (A:Option Addr) (c:Nat) (B:Option Addr) (d:Nat) (ss:List UX) (fr:List Int) (most many s g:Int) (h:KY w a A c B d ss fr most many):
  Calls Tryz.prog 118 #[.pointer (some ⟨a,0,none⟩),.agg #[.int .i64 s,.int .i64 g]] w fun e w'=>
   e= .returned (.tuple #[KJ (Jn6 ss s g),VZ (Jn7 ss s g)])∧Below w.heap.size w w':=by
 have hA:Below w.heap.size w ((w.alloc (.cells #[.int .i64 s,.int .i64 g] 170)).alloc (.cells #[.int .i64 0,.int .i64 0,.int .i64 0,.int .i64 0,.int .i64 0] 117)):=((Below.refl _ w).alloc (Nat.le_refl _) _).alloc (by simp) _
 have HA:=QQ hA
 have H:=QQ (h.below hA)
 have hz:QJ ((w.alloc (.cells #[.int .i64 s,.int .i64 g] 170)).alloc (.cells #[.int .i64 0,.int .i64 0,.int .i64 0,.int .i64 0,.int .i64 0] 117)) (w.heap.size+1) 117 #[.int .i64 0,.int .i64 0,.int .i64 0,.int .i64 0,.int .i64 0]:=by simpa using QJ.new (w.alloc (.cells #[.int .i64 s,.int .i64 g] 170)) 117 #[.int .i64 0,.int .i64 0,.int .i64 0,.int .i64 0,.int .i64 0]
 have HZ:=QQ hz
 clear hA h hz
 go_enter Tryz.func118,Tryz.ntmps118
 go_wp2_with fail
 refine(Jk4 _ a A c B d ss fr most many s g H.out).mono ?_
 rintro e w1 ⟨hB,hcase⟩
 have hZ1:=QJ.keep HZ.out hB
 have z0:w1.cell? ⟨w.heap.size+1,0,none⟩=some (.int .i64 0):=by rw[QJ.cell hZ1];rfl
 have z1:w1.cell? ⟨w.heap.size+1,1,none⟩=some (.int .i64 0):=by rw[QJ.cell hZ1];rfl
 have z2:w1.cell? ⟨w.heap.size+1,2,none⟩=some (.int .i64 0):=by rw[QJ.cell hZ1];rfl
 have z3:w1.cell? ⟨w.heap.size+1,3,none⟩=some (.int .i64 0):=by rw[QJ.cell hZ1];rfl
 have z4:w1.cell? ⟨w.heap.size+1,4,none⟩=some (.int .i64 0):=by rw[QJ.cell hZ1];rfl
 have y0:=QJ.frozen hZ1 0
 have y1:=QJ.frozen hZ1 1
 have y2:=QJ.frozen hZ1 2
 have y3:=QJ.frozen hZ1 3
 have y4:=QJ.frozen hZ1 4
 have hlt:=QJ.lt hZ1
 have HZ1:=QQ hZ1
 have hB1:=HA.out.trans (hB.mono (by simp;omega))
 have HB1:=QQ hB1
 clear hZ1 hB1
 rcases hcase with⟨hf,rfl⟩|⟨hf,k,gs,rfl,hk,rfl,rfl⟩
 ·have E:=QQ hf
  clear hf hB;go_wp2_with fail
  try simp only[Exit.inBlock,Exit.then]
  refine Xp0 (g:=w.heap.size+1) (cs:= #[.int .i64 0,.int .i64 0,.int .i64 0,.int .i64 0,.int .i64 0]) (v:=VZ 7) (by with_unfolding_all rfl) (by with_unfolding_all rfl) (by with_unfolding_all rfl) (QJ.alloc (QJ.set_ (QJ.set_ (QJ.set_ (QJ.set_ (QJ.set_ HZ1.out 0 _) 1 _) 2 _) 3 _) 4 _) _) rfl ?_;refine⟨by rw[Xo7 E.out,Xo8 E.out];rfl, ?_⟩;have hs:=HB1.out.size;exact(((((HB1.out.setCell (by simp) _).setCell (by simp) _).setCell (by simp) _).setCell (by simp) _).setCell (by simp) _).alloc (by simpa [World.setCell]using hs) _
 ·have E:=QQ hf
  clear hf;obtain⟨gs',he,s0,s1,s2,s3,s4,_,_⟩:=(H.out.below hB).slot hk
  cases he;have T:=QQ (Xo9 hk);generalize ss[k].1=x at s0 s1 s2 s3 s4 T;clear hB;go_wp2_with fail
  try simp only[Exit.inBlock,Exit.then]
  refine Xp0 (g:=w.heap.size+1) (cs:=KV x) (v:=VZ 0) (by with_unfolding_all rfl) (by with_unfolding_all rfl) (by with_unfolding_all rfl) (QJ.set_ (QJ.set_ (QJ.set_ (QJ.set_ (QJ.set_ HZ1.out 0 _) 1 _) 2 _) 3 _) 4 _) rfl ?_;refine⟨by rw[Xc9 E.out,Xd0 E.out,T.out];rfl, ?_⟩;exact((((HB1.out.setCell (by simp) _).setCell (by simp) _).setCell (by simp) _).setCell (by simp) _).setCell (by simp) _
def Xy8 (ss:List UX) (s:Int):List UX:=match ss[s.toNat]? with|some v=>ss.set s.toNat (noO,RowKit.wrap64 (v.2.1+1),false)|none=>ss
theorem Xd1 {ss:List UX} {k:Nat} (h:k<ss.length):Xy8 ss (k:Nat)=ss.set k (noO,RowKit.wrap64 (ss[k].2.1+1),false):=by
 simp[Xy8,h]
theorem Kk8:(Tryz.prog.info? 3).map (fun i=>(i.zero,i.size,i.bytes))=some (some (.int .i64 0),1,8):=by kernel_rfl
theorem Jt4 {w:World} {g:Nat} {t:TypeId} {cs:Array Value} (h:QJ w g t cs):w.frozen? ⟨g,0,none⟩=false∧w.frozen? ⟨g,1,none⟩=false∧w.frozen? ⟨g,2,none⟩=false∧w.frozen? ⟨g,3,none⟩=false∧w.frozen? ⟨g,4,none⟩=false:=
 ⟨QJ.frozen h 0,QJ.frozen h 1,QJ.frozen h 2,QJ.frozen h 3,QJ.frozen h 4⟩
theorem Jt5 {l:List Value} {i:Nat} {v:Value} (h:l[i]?=some v):l.set i v=l:=by
 apply List.ext_getElem?
 intro j
 by_cases e:i=j
 ·subst e
  have hi:=(List.getElem?_eq_some_iff.1 h).1;rw[List.getElem?_set_self hi,h]
 ·rw[List.getElem?_set_ne e]
theorem Jk5 (ss:List UX) (k:Nat) (hk:k<ss.length) (y:UX):(((((((JQ Qn4 ss).set (k*7) (.int .i64 y.1.id)).set (k*7+1) (.int .i64 y.1.side)).set (k*7+2) (.int .i64 y.1.kind)).set (k*7+3) (.int .i64 y.1.price)).set (k*7+4) (.int .i64 y.1.qty)).set (k*7+5) (.int .i64 y.2.1)).set (k*7+6) (.bool y.2.2)=JQ Qn4 (ss.set k y):=
 Qq3 Qi1 y ss k hk
abbrev Xp1 (w:World) (g p:Nat) (o:QX):World:=((((w.setCell ⟨g,p,none⟩ (.int .i64 o.id)).setCell ⟨g,p+1,none⟩ (.int .i64 o.side)).setCell ⟨g,p+2,none⟩ (.int .i64 o.kind)).setCell ⟨g,p+3,none⟩ (.int .i64 o.price)).setCell ⟨g,p+4,none⟩ (.int .i64 o.qty)
theorem Qs9 (w:World) (g p:Nat) (o:QX):QK (fun i=>i=g) w (Xp1 w g p o):=
 ((((QK.set_ w ⟨g,p,none⟩ _).trans (QK.set_ _ ⟨g,p+1,none⟩ _) (fun i h=> .inl h)).trans (QK.set_ _ ⟨g,p+2,none⟩ _) (fun i h=> .inl h)).trans (QK.set_ _ ⟨g,p+3,none⟩ _) (fun i h=> .inl h)).trans (QK.set_ _ ⟨g,p+4,none⟩ _) (fun i h=> .inl h)
theorem Jt6 {w:World} {g n c:Nat} {t:TypeId} {xs:List Value} (h:QW w (some ⟨g,0,none⟩) n c t 7 xs) (p:Nat) (o:QX):
  QW (Xp1 w g p o) (some ⟨g,0,none⟩) n c t 7 (((((xs.set p (.int .i64 o.id)).set (p+1) (.int .i64 o.side)).set (p+2) (.int .i64 o.kind)).set (p+3) (.int .i64 o.price)).set (p+4) (.int .i64 o.qty)):=
 ((((h.set p _).set (p+1) _).set (p+2) _).set (p+3) _).set (p+4) _
theorem Zj1 {w1:World} {a c d:Nat} {B:Option Addr} {ss:List UX} {fr:List Int} {most many:Int} {gs k:Nat} (H:KY w1 a (some ⟨gs,0,none⟩) c B d ss fr most many) (hk:k<ss.length) (u:Int):
  let w2:=((Xp1 w1 gs (k*7) noO).setCell ⟨gs,k*7+6,none⟩ (.bool false)).setCell ⟨gs,k*7+5,none⟩ (.int .i64 u)
  KY w2 a (some ⟨gs,0,none⟩) c B d (ss.set k (noO,u,false)) fr most many∧QK (OFp a (some ⟨gs,0,none⟩) B) w1 w2:=by
 intro w2
 have hK:QK (fun i=>i=gs) w1 w2:=((Qs9 w1 gs (k*7) noO).trans (QK.set_ _ ⟨gs,k*7+6,none⟩ _) (fun i h=> .inl h)).trans (QK.set_ _ ⟨gs,k*7+5,none⟩ _) (fun i h=> .inl h)
 have hs:=((Jt6 H.slots (k*7) noO).set (k*7+6) (.bool false)).set (k*7+5) (.int .i64 u)
 rw[List.set_comm _ _ (show k*7+6≠k*7+5 by omega),Jk5 ss k hk (noO,u,false)]at hs
 refine⟨⟨?_, ?_, ?_,H.na,H.nb,H.nab⟩,hK.mono (fun i h=> .inr (.inl (by rw[h];rfl)))⟩
 ·rw[List.length_set];exact QJ.keeps H.blk hK (fun h=>H.na (congrArg some h.symm))
 ·rw[List.length_set];exact hs
 ·exact H.free.keeps hK (fun g hg h=>H.nab gs rfl (by rw[hg,h]))
theorem OV {w2 w3:World} {o:Obj} {row:Option Nat} (h:((w2.alloc o).drew).grownBy w3 row):QK (fun i=>row=some i) w2 w3:=
 ⟨h.os,h.tape,h.output,by have:=h.size;simp at this;omega,fun i hi hn=>(h.block i (by simp;omega) (fun e=>hn e.symm)).trans (heap_alloc_old w2 o hi)⟩
theorem Zj2 {w2 w3:World} {a c d:Nat} {A B:Option Addr} {ss:List UX} {fr:List Int} {most many:Int} (H:KY w2 a A c B d ss fr most many) {o:Obj} {gg cap:Nat} {s m:Int}
  (hown:w3.ownsRow 0 3 1 (.slice (some ⟨gg,0,none⟩) (fr.length+1) cap) (fr.length+1) (Qa2 fr++ [.int .i64 s])) (hgrow:((w2.alloc o).drew).grownBy w3 (Value.slice B fr.length d).ownBlock)
  (hat:(Value.slice B fr.length d).ownBlock=some gg∨gg=w2.heap.size+1):
  let w5:=(w3.setCell ⟨a,1,none⟩ (.slice (some ⟨gg,0,none⟩) (fr.length+1) cap)).setCell ⟨a,3,none⟩ (.int .i64 m)
  KY w5 a A c (some ⟨gg,0,none⟩) cap ss (fr++ [s]) most m∧QK (OFp a A B) w2 w5∧ ∀i,OFp a A (some ⟨gg,0,none⟩) i→OFp a A B i∨w2.heap.size≤i:=by
 intro w5
 rw[JW]at hgrow hat
 have hal:=QJ.lt H.blk
 have hK:=OV hgrow
 have hga:gg≠a:=by
  rcases hat with h|h
  ·intro e;exact H.nb (by rw[h,e])
  ·omega
 have hgA: ∀g,QZ A=some g→g≠gg:=by
  intro g hg e;rcases hat with h|h
  ·exact H.nab g hg (by rw[h,e])
  ·have:=H.slots.lt hg;omega
 have b3:=QJ.keeps H.blk hK H.nb
 have s3:=H.slots.keeps hK (fun g hg=>H.nab g hg)
 have f3:QW w3 (some ⟨gg,0,none⟩) (fr.length+1) cap 3 1 (Qa2 fr++ [.int .i64 s]):=hown
 have k4:=QK.set_ w3 ⟨a,1,none⟩ (.slice (some ⟨gg,0,none⟩) (fr.length+1) cap)
 have k5:=QK.set_ (w3.setCell ⟨a,1,none⟩ (.slice (some ⟨gg,0,none⟩) (fr.length+1) cap)) ⟨a,3,none⟩ (.int .i64 m)
 have k45:QK (fun i=>i=a) w3 w5:=k4.trans k5 (fun i h=> .inl h)
 have e1:(fr++ [s]).length=fr.length+1:=by simp
 have e2:Qa2 (fr++ [s])=Qa2 fr++ [.int .i64 s]:=by simp[Qa2]
 refine⟨⟨?_, ?_, ?_,H.na, ?_, ?_⟩, ?_, ?_⟩
 ·rw[e1]
  exact QJ.set_ (QJ.set_ b3 1 _) 3 _
 ·exact s3.keeps k45 (fun g hg e=>H.na (by rw[hg,e]))
 ·rw[e1,e2]
  exact f3.keeps k45 (fun g hg e=>by cases hg;exact hga e)
 ·intro e;cases e;exact hga rfl
 ·intro g hg e;cases e;exact hgA _ hg rfl
 ·exact(hK.mono (fun i h=> .inr (.inr h))).trans k45 (fun i h=> .inl (.inl h))
 ·rintro i (h|h|h)
  ·exact .inl (.inl h)
  ·exact .inl (.inr (.inl h))
  ·cases h
   rcases hat with h|h
   ·exact .inl (.inr (.inr h))
   ·exact .inr (by show _≤gg;omega)
theorem Xd2 {w:World} {t:Act} {Q:Ending→World→Prop} {g:Nat} {cs:Array Value} {v:Value} (hp:t.tmps.getD 4 undef= .pointer (some ⟨g,0,none⟩)) (h5:t.tmps.getD 5 undef=v) (hd:t.defers= [])
  (hg:QJ w g 117 cs) (hs:cs.size=5) (h:Q (.returned (.tuple #[.agg cs,v])) w):bodyPost Tryz.prog Tryz.f153 Q .ret t w:=by
 refine bodyPost_ret (v:= .tuple #[.agg cs,v]) ?_ hd h
 have hl:=run_loadVar_row (P:=Tryz.prog) w g _ 117 cs (0,0) _ hg Tryz.underlying117 rfl (by rw[hs];kernel_rfl)
 have hp':t.tmps[4]?.getD undef= .pointer (some ⟨g,0,none⟩):=by simpa using hp
 have h5':t.tmps[5]?.getD undef=v:=by simpa using h5
 simp[results,Tryz.results153,hp',h5',asAddr,hl]
theorem Jt7 (w:World) (a:Nat) (A:Option Addr) (c:Nat) (B:Option Addr) (d:Nat) (ss:List UX) (fr:List Int) (most many s g:Int) (h:KY w a A c B d ss fr most many) (hfr:fr.length≤2000):
  Calls Tryz.prog 153 #[.pointer (some ⟨a,0,none⟩),.agg #[.int .i64 s,.int .i64 g]] w fun e w'=>
   e= .returned (.tuple #[KJ (Jn6 ss s g),VZ (Jn7 ss s g)])∧
   ((Qc3 ss s g=false∧Below w.heap.size w w')∨(Qc3 ss s g=true∧Jg8 w w' a A B (Xy8 ss s) (fr++ [s]) most (RowKit.wrap64 (many-1)))):=by
 have hA:Below w.heap.size w ((w.alloc (.cells #[.int .i64 s,.int .i64 g] 170)).alloc (.cells #[.int .i64 0,.int .i64 0,.int .i64 0,.int .i64 0,.int .i64 0] 117)):=((Below.refl _ w).alloc (Nat.le_refl _) _).alloc (by simp) _
 have hX:QJ ((w.alloc (.cells #[.int .i64 s,.int .i64 g] 170)).alloc (.cells #[.int .i64 0,.int .i64 0,.int .i64 0,.int .i64 0,.int .i64 0] 117)) w.heap.size 170 #[.int .i64 s,.int .i64 g]:=QJ.alloc (QJ.new _ _ _) _
 have hz:QJ ((w.alloc (.cells #[.int .i64 s,.int .i64 g] 170)).alloc (.cells #[.int .i64 0,.int .i64 0,.int .i64 0,.int .i64 0,.int .i64 0] 117)) (w.heap.size+1) 117 (KV noO):=show QJ _ _ _ #[.int .i64 0,.int .i64 0,.int .i64 0,.int .i64 0,.int .i64 0]from(by simpa using QJ.new (w.alloc (.cells #[.int .i64 s,.int .i64 g] 170)) 117 #[.int .i64 0,.int .i64 0,.int .i64 0,.int .i64 0,.int .i64 0])
 have hsz0:((w.alloc (.cells #[.int .i64 s,.int .i64 g] 170)).alloc (.cells #[.int .i64 0,.int .i64 0,.int .i64 0,.int .i64 0,.int .i64 0] 117)).heap.size=w.heap.size+2:=by simp
 have HXX:=QQ hX
 have HZ:=QQ hz
 have HS0:=QQ hsz0
 have Hfp:=QQ (fun i (hi:OFp a A B i)=>h.fp hi)
 have HA:=QQ hA
 have H:=QQ (h.below hA)
 clear hA h hX hz hsz0
 go_enter Tryz.func153,Tryz.ntmps153
 go_wp2_with fail
 refine(Jk4 _ a A c B d ss fr most many s g H.out).mono ?_
 rintro e w1 ⟨hB,hcase⟩
 have hZ1:=QJ.keep HZ.out hB
 obtain⟨z0,z1,z2,z3,z4⟩:=JV hZ1
 obtain⟨y0,y1,y2,y3,y4⟩:=Jt4 hZ1
 dsimp only[noO]at z0 z1 z2 z3 z4
 have hlt:=QJ.lt hZ1
 have HZ1:=QQ hZ1
 have hB1:=HA.out.trans (hB.mono (by simp;omega))
 have HB1:=QQ hB1
 have hsz1:w.heap.size+2≤w1.heap.size:=by have:=hB.size;rw[HS0.out]at this;exact this
 clear hZ1 hB1
 rcases hcase with⟨hf,rfl⟩|⟨hf,k,gs,rfl,hk,rfl,rfl⟩
 ·have E:=QQ hf
  clear hf hB;go_wp2_with fail
  try simp only[Exit.inBlock,Exit.then]
  refine Xd2 (g:=w.heap.size+1) (cs:= #[.int .i64 0,.int .i64 0,.int .i64 0,.int .i64 0,.int .i64 0]) (v:=VZ 7) (by with_unfolding_all rfl) (by with_unfolding_all rfl) (by with_unfolding_all rfl) (QJ.alloc (QJ.set_ (QJ.set_ (QJ.set_ (QJ.set_ (QJ.set_ HZ1.out 0 _) 1 _) 2 _) 3 _) 4 _) _) rfl ?_;refine⟨by rw[Xo7 E.out,Xo8 E.out];rfl,.inl ⟨E.out, ?_⟩⟩;have hs:=HB1.out.size;exact(((((HB1.out.setCell (by simp) _).setCell (by simp) _).setCell (by simp) _).setCell (by simp) _).setCell (by simp) _).alloc (by simpa [World.setCell]using hs) _
 ·have E:=QQ hf
  have HX1:=QQ (QJ.keep HXX.out hB);clear hf;have hH1:=H.out.below hB;have HH1:=QQ hH1;obtain⟨gs',he,s0,s1,s2,s3,s4,s5,s6⟩:=hH1.slot hk
  cases he;have TH:=QQ (Xo9 hk);have TT:=QQ (Xd1 hk);obtain⟨x,EX⟩: ∃x,Hid (ss[k].1=x):=⟨_,QQ rfl⟩;rw[EX.out]at s0 s1 s2 s3 s4 TH;obtain⟨age,EA⟩: ∃u,Hid (ss[k].2.1=u):=⟨_,QQ rfl⟩;rw[EA.out]at s5 TT;generalize ss[k].2.2=full at s6;have hgs:=World.block_lt_of_cell? w1 _ s0;clear hB hH1;go_upto_region 6 with fail
  have hbw:Below w1.heap.size w1 ((w1.alloc (.cells #[.int .i64 0,.int .i64 0,.int .i64 0,.int .i64 0,.int .i64 0] 117)).alloc (.cells #[.int .i64 x.id,.int .i64 x.side,.int .i64 x.kind,.int .i64 x.price,.int .i64 x.qty] 117)):=((Below.refl _ w1).alloc (Nat.le_refl _) _).alloc (by simp) _;have hH2:=HH1.out.below hbw;have hb7:QJ ((w1.alloc (.cells #[.int .i64 0,.int .i64 0,.int .i64 0,.int .i64 0,.int .i64 0] 117)).alloc (.cells #[.int .i64 x.id,.int .i64 x.side,.int .i64 x.kind,.int .i64 x.price,.int .i64 x.qty] 117)) w1.heap.size 117 (KV noO):=QJ.alloc (QJ.new w1 _ _) _;have hb8:QJ ((w1.alloc (.cells #[.int .i64 0,.int .i64 0,.int .i64 0,.int .i64 0,.int .i64 0] 117)).alloc (.cells #[.int .i64 x.id,.int .i64 x.side,.int .i64 x.kind,.int .i64 x.price,.int .i64 x.qty] 117)) (w1.heap.size+1) 117 (KV x):=show QJ _ _ _ #[.int .i64 x.id,.int .i64 x.side,.int .i64 x.kind,.int .i64 x.price,.int .i64 x.qty]from(by simpa using QJ.new (w1.alloc (.cells #[.int .i64 0,.int .i64 0,.int .i64 0,.int .i64 0,.int .i64 0] 117)) 117 #[.int .i64 x.id,.int .i64 x.side,.int .i64 x.kind,.int .i64 x.price,.int .i64 x.qty])
  have hb4:=QJ.keep HZ1.out hbw;have hbX:=QJ.keep HX1.out hbw;have hBW:=HB1.out.trans (hbw.mono (by omega));have hszW:((w1.alloc (.cells #[.int .i64 0,.int .i64 0,.int .i64 0,.int .i64 0,.int .i64 0] 117)).alloc (.cells #[.int .i64 x.id,.int .i64 x.side,.int .i64 x.kind,.int .i64 x.price,.int .i64 x.qty] 117)).heap.size=w1.heap.size+2:=by simp
  clear s0 s1 s2 s3 s4 s5 s6 z0 z1 z2 z3 z4 y0 y1 y2 y3 y4 hlt hgs hbw HH1 HZ1 HX1 HB1;generalize((w1.alloc (.cells #[.int .i64 0,.int .i64 0,.int .i64 0,.int .i64 0,.int .i64 0] 117)).alloc (.cells #[.int .i64 x.id,.int .i64 x.side,.int .i64 x.kind,.int .i64 x.price,.int .i64 x.qty] 117))=wv at hH2 hb7 hb8 hb4 hbX hBW hszW⊢;obtain⟨b7,hb7e⟩: ∃b7,w1.heap.size=b7:=⟨_,rfl⟩;rw[hb7e]at hb7 hb8 hszW hsz1⊢;have HT:=QQ (fun u=>Zj1 hH2 hk u);obtain⟨gs',he,s0,s1,s2,s3,s4,s5,s6⟩:=hH2.slot hk
  cases he;have f0:=hH2.slots.frozen (k*7);have f1:=hH2.slots.frozen (k*7+1);have f2:=hH2.slots.frozen (k*7+2);have f3:=hH2.slots.frozen (k*7+3);have f4:=hH2.slots.frozen (k*7+4);have f5:=hH2.slots.frozen (k*7+5);have f6:=hH2.slots.frozen (k*7+6);obtain⟨z0,z1,z2,z3,z4⟩:=JV hb7;dsimp only[noO]at z0 z1 z2 z3 z4;rw[EX.out]at s0 s1 s2 s3 s4;rw[EA.out]at s5;generalize ss[k].2.2=full at s6;have HB8:=QQ hb8;have HB4:=QQ hb4;have HBX:=QQ hbX;have HBW:=QQ hBW;clear hH2 hb7 hb8 hb4 hbX hBW hb7e;go_upto_region 8 with fail
  have hT2:=HT.out (RowKit.wrap64 (age+1));obtain⟨w2,hW⟩: ∃w2,w2=(World.setCell (World.setCell (World.setCell (World.setCell (World.setCell (World.setCell (World.setCell wv ⟨gs,k*7,none⟩ (.int .i64 0)) ⟨gs,k*7+1,none⟩ (.int .i64 0)) ⟨gs,k*7+2,none⟩ (.int .i64 0)) ⟨gs,k*7+3,none⟩ (.int .i64 0)) ⟨gs,k*7+4,none⟩ (.int .i64 0)) ⟨gs,k*7+6,none⟩ (.bool false)) ⟨gs,k*7+5,none⟩ (.int .i64 (RowKit.wrap64 (age+1)))):=⟨_,rfl⟩;rw[←hW];replace hT2:KY w2 a (some ⟨gs,0,none⟩) c B d (ss.set k (noO,RowKit.wrap64 (age+1),false)) fr most many∧QK (OFp a (some ⟨gs,0,none⟩) B) wv w2:=by rw[hW];exact hT2
  clear HT s0 s1 s2 s3 s4 s5 s6 f0 f1 f2 f3 f4 f5 f6 z0 z1 z2 z3 z4 hW;obtain⟨hA2,hK2⟩:=hT2;have hX2:QJ w2 w.heap.size 170 #[.int .i64 (k:Int),.int .i64 g]:=QJ.keeps HBX.out hK2 (fun hi=>Nat.lt_irrefl _ (Hfp.out _ hi));have hB8:=QJ.keeps HB8.out hK2 (fun hi=>by have:=Hfp.out _ hi;omega);have hB4:=QJ.keeps HB4.out hK2 (fun hi=>by have:=Hfp.out _ hi;omega);have HB8':=QQ hB8;have HB4':=QQ hB4;have hs2:=hK2.size;have HK2:=QQ hK2;clear hB8 hB4 hK2 HB8 HB4 HBX;have q1:=hA2.cells.2.1;have q3:=hA2.cells.2.2.2;have qf1:=QJ.frozen hA2.blk 1;have qf3:=QJ.frozen hA2.blk 3;have qx:w2.cell? ⟨w.heap.size,0,none⟩=some (.int .i64 (k:Int)):=by rw[QJ.cell hX2];rfl
  have hal:=QJ.lt hA2.blk;obtain⟨i0,hi0,hz0,hz1,hz2⟩:=info_parts Kk8;have hnb:some a≠(Value.slice B fr.length d).ownBlock:=by rw[JW];exact hA2.nb.symm
  have HF:=QQ hA2.free;have HA2:=QQ hA2;clear hA2 hX2
  go_region_law ((refine step_append_lies _ (by rfl) _ _ _ (by rfl) 0 3 i0 _ 1 8 Tryz.underlying69 hi0 hz0 hz1 hz2 rfl (by omega) (.slice B fr.length d) fr.length _ (by rfl) ((World.ownsRow.alloc HF.out _).drew) ⟨w2.heap.size,0,none⟩ 1 1 [.int .i64 (k:Int)] (by rfl) (by rfl) (World.news_of_block (cs:= #[.int .i64 (k:Int)]) (t:=3) (fr:=(0,0)) (heap_alloc_new w2 _)) (by simp[Value.oneCell']) (by omega) (by unfold maxLen;omega) (by omega) (by simp) (w2.heap.size+1) (by simp) ?_;intro gg cap w3 hown hgrow hat hlt;have r1:w3.cell? ⟨a,1,none⟩=some (.slice B fr.length d):=(hgrow.cell_far ⟨a,1,none⟩ (by simp;omega) hnb).trans ((World.cell?_alloc_lt w2 _ ⟨a,1,none⟩ hal).trans q1);have r3:w3.cell? ⟨a,3,none⟩=some (.int .i64 many):=(hgrow.cell_far ⟨a,3,none⟩ (by simp;omega) hnb).trans ((World.cell?_alloc_lt w2 _ ⟨a,3,none⟩ hal).trans q3);have b3:=QJ.keeps HA2.out.blk (OV hgrow) (fun e=>hnb e.symm);have rf1:=QJ.frozen b3 1;have rf3:=QJ.frozen b3 3;clear b3))
  all_goals go_upto_region 10 with fail
  all_goals
   obtain⟨hA5,hK5,hF5⟩:=Zj2 (m:=RowKit.wrap64 (many-1)) HA2.out hown hgrow hat;have hB8:=QJ.keeps HB8'.out hK5 (fun hi=>by have:=Hfp.out _ hi;omega);have hB4:=QJ.keeps HB4'.out hK5 (fun hi=>by have:=Hfp.out _ hi;omega);have hs5:=hK5.size;clear hgrow hown hat r1 r3 rf1 rf3;generalize World.setCell (World.setCell w3 ⟨a,1,none⟩ (.slice (some ⟨gg,0,none⟩) (fr.length+1) cap)) ⟨a,3,none⟩ (.int .i64 (RowKit.wrap64 (many-1)))=w5 at hA5 hK5 hF5 hB8 hB4 hs5⊢;obtain⟨c0,c1,c2,c3,c4⟩:=JV hB8;obtain⟨z0,z1,z2,z3,z4⟩:=JV hB4;dsimp only[noO]at z0 z1 z2 z3 z4;obtain⟨y0,y1,y2,y3,y4⟩:=Jt4 hB4;have hlt4:=QJ.lt hB4;have HB4x:=QQ hB4;have HA5:=QQ hA5;have HK5:=QQ hK5;have HF5:=QQ hF5;clear hB8 hB4 hA5 hK5 hF5 q1 q3 qf1 qf3 qx hnb;go_wp2_with fail
   try simp only[Exit.inBlock,Exit.then]
   refine Xd2 (g:=w.heap.size+1) (cs:=KV x) (v:=VZ 0) (by with_unfolding_all rfl) (by with_unfolding_all rfl) (by with_unfolding_all rfl) (QJ.set_ (QJ.set_ (QJ.set_ (QJ.set_ (QJ.set_ HB4x.out 0 _) 1 _) 2 _) 3 _) 4 _) rfl ?_;have hk6:=Qs9 w5 (w.heap.size+1) 0 x;have hs1:=HBW.out.size;refine⟨by rw[Xc9 E.out,Xd0 E.out,TH.out];rfl,.inr ⟨E.out,some ⟨gs,0,none⟩,c,some ⟨gg,0,none⟩,cap, ?_, ?_, ?_⟩⟩
   ·rw[TT.out]
    refine HA5.out.keeps hk6 ?_;intro j hj e;rcases HF5.out j hj with h|h
    ·have:=Hfp.out j h
     omega
    ·omega
   ·exact(((QK.of_below HBW.out _).trans HK2.out (fun i h=> .inl h)).trans HK5.out (fun i h=> .inl h)).trans hk6 (fun i h=> .inr (by omega))
   ·intro i hi
    rcases HF5.out i hi with h|h
    ·exact .inl h
    ·exact .inr (by omega)
def Qi2 (ss:List UX):Nat:=(ss.filter fun s=>s.2.2).length
def Y9 (ss:List UX) (s g:Int):Option QX:=if 0≤s then(match ss[s.toNat]? with|some v=>if v.2.2=true∧v.2.1=g then some v.1 else none|none=>none)else none
theorem Qq8 (ss:List UX) (s g:Int):Qc3 ss s g=(Y9 ss s g).isSome:=by
 unfold Qc3 Y9
 by_cases h:0≤s
 ·rw[if_pos h]
  cases e:ss[s.toNat]? with
  |none=>simp
  |some v=>
   obtain⟨x,age,full⟩:=v
   cases full
   ·simp
   ·by_cases h2:age=g<;>simp[h,h2]
 ·rw[if_neg h];simp[h]
theorem Xd3 (ss:List UX) (s g:Int):Jn6 ss s g=(Y9 ss s g).getD noO:=by
 unfold Jn6
 rw[Qq8]
 unfold Y9 Xo5
 by_cases h:0≤s
 ·rw[if_pos h]
  cases e:ss[s.toNat]? with
  |none=>simp
  |some v=>
   obtain⟨x,age,full⟩:=v
   by_cases h2:full=true∧age=g
   ·simp[h2.1,h2.2]
   ·have:(if full=true∧age=g then some x else none:Option QX)=none:=if_neg h2
    simp[this]
 ·rw[if_neg h];rfl
theorem Xd4 (ss:List UX) (s g:Int):Jn7 ss s g=if(Y9 ss s g).isSome=true then 0 else 7:=by unfold Jn7;rw[Qq8]
theorem Jk6 {ss:List UX} {k:Nat} (hk:k<ss.length) (v:UX) (s g:Int):Y9 (ss.set k v) s g=if s=k then(if v.2.2=true∧v.2.1=g then some v.1 else none)else Y9 ss s g:=by
 unfold Y9
 by_cases h:0≤s
 ·rw[if_pos h,if_pos h]
  by_cases e:s=k
  ·subst e
   rw[if_pos rfl];have:(ss.set k v)[((k:Nat):Int).toNat]?=some v:=by simp[hk]
   rw[this]
  ·rw[if_neg e,List.getElem?_set_ne (by omega)]
 ·rw[if_neg h,if_neg h,if_neg (by omega)]
theorem Xi7 (ss:List UX) (v:UX) (s g:Int):Y9 (ss++ [v]) s g=if s=(ss.length:Nat)then(if v.2.2=true∧v.2.1=g then some v.1 else none)else Y9 ss s g:=by
 unfold Y9
 by_cases h:0≤s
 ·rw[if_pos h,if_pos h]
  by_cases e:s=(ss.length:Nat)
  ·rw[if_pos e]
   have:(ss++ [v])[s.toNat]?=some v:=by subst e;simp
   rw[this]
  ·rw[if_neg e]
   by_cases h2:s.toNat<ss.length
   ·rw[List.getElem?_append_left h2]
   ·rw[List.getElem?_eq_none (by simp;omega),List.getElem?_eq_none (by omega)]
 ·rw[if_neg h,if_neg h,if_neg (by omega)]
theorem Xp2 (s g:Int):Y9 [] s g=none:=by unfold Y9;split<;>simp
theorem Jt8 {ss:List UX} {k:Nat} (hk:k<ss.length) (hf:ss[k].2.2=false) (g:Int):Y9 ss (k:Nat) g=none:=by
 unfold Y9
 have:ss[((k:Nat):Int).toNat]?=some ss[k]:=by simp[hk]
 rw[if_pos (by omega),this]
 simp[hf]
theorem Ku0 {ss:List UX} {s g:Int} {x:QX} (h:Y9 ss s g=some x): ∃k:Nat,s=k∧ ∃hk:k<ss.length,ss[k].2.2=true∧ss[k].2.1=g∧ss[k].1=x:=by
 unfold Y9 at h
 by_cases h0:0≤s
 ·rw[if_pos h0]at h
  cases e:ss[s.toNat]? with
  |none=>rw[e]at h;cases h
  |some v=>
   rw[e]at h;obtain⟨hk,hv⟩:=List.getElem?_eq_some_iff.1 e;dsimp only at h
   split at h
   ·rename_i hc
    cases h;exact⟨s.toNat,by omega,hk,by rw[hv];exact hc.1,by rw[hv];exact hc.2,by rw[hv]⟩
   ·cases h
 ·rw[if_neg h0]at h;cases h
theorem Jg9 (ss:List UX) (s:UX):Qi2 (ss++ [s])=Qi2 ss+if s.2.2=true then 1 else 0:=by
 unfold Qi2
 rw[List.filter_append]
 cases h:s.2.2<;>simp[h]
theorem Jt9 (s:UX) (ss:List UX):Qi2 (s::ss)=(if s.2.2=true then 1 else 0)+Qi2 ss:=by
 unfold Qi2
 cases h:s.2.2<;>simp[h]<;>omega
theorem Jk7 (ss:List UX) (v:UX): ∀k (h:k<ss.length),Qi2 (ss.set k v)+ (if ss[k].2.2=true then 1 else 0)=Qi2 ss+ (if v.2.2=true then 1 else 0):=by
 induction ss with
 |nil=>intro k h;simp at h
 |cons s ss ih=>
  intro k h
  cases k with
  |zero=>simp only[List.set_cons_zero,List.getElem_cons_zero,Jt9];omega
  |succ k=>
   have:=ih k (by simpa using h);simp only[List.set_cons_succ,List.getElem_cons_succ,Jt9];omega
structure Jk8 (ss:List UX) (fr:List Int) (most:Nat):Prop where
 nodup:fr.Nodup
 free: ∀i∈fr,∃k:Nat,i=k∧ ∃h:k<ss.length,ss[k].2.2=false
 count:ss.length=fr.length+Qi2 ss
 cap:ss.length≤most
theorem Jk8.empty (most:Nat):Jk8 [] [] most:=⟨List.nodup_nil,fun i h=>by simp at h,rfl,Nat.zero_le _⟩
theorem Jk8.new_ {ss:List UX} {most:Nat} (h:Jk8 ss [] most) (hl:Qi2 ss<most) (x:QX):Jk8 (ss++ [(x,0,true)]) [] most:=by
 have hc:=h.count
 refine⟨List.nodup_nil,fun i h=>by simp at h, ?_, ?_⟩
 ·rw[Jg9];simp at hc⊢;omega
 ·simp at hc⊢;omega
theorem Jk8.old_ {ss:List UX} {fr:List Int} {k most:Nat} (h:Jk8 ss (fr++ [(k:Int)]) most) (x:QX) (a:Int): ∃hk:k<ss.length,ss[k].2.2=false∧Jk8 (ss.set k (x,a,true)) fr most∧Qi2 (ss.set k (x,a,true))=Qi2 ss+1:=by
 obtain⟨k',e,hk,hf⟩:=h.free k (by simp)
 obtain rfl:k=k':=by omega
 have hl:=Jk7 ss (x,a,true) k hk
 rw[hf]at hl
 simp at hl
 have hn:=h.nodup
 rw[List.nodup_append]at hn
 have hc:=h.count
 refine⟨hk,hf,⟨hn.1,fun i hi=> ?_, ?_, ?_⟩,hl⟩
 ·obtain⟨j,rfl,hj,hjf⟩:=h.free i (by simp[hi])
  have hne:k≠j:=fun e=>hn.2.2 (j:Int) hi (k:Int) (by simp) (by rw[e])
  exact⟨j,rfl,by simpa using hj,by rw[List.getElem_set_ne hne];exact hjf⟩
 ·rw[List.length_set,hl,hc];simp;omega
 ·rw[List.length_set];exact h.cap
theorem Jk8.take_ {ss:List UX} {fr:List Int} {k most:Nat} (h:Jk8 ss fr most) (hk:k<ss.length) (hf:ss[k].2.2=true) (x:QX) (a:Int):Jk8 (ss.set k (x,a,false)) (fr++ [(k:Int)]) most∧Qi2 (ss.set k (x,a,false))+1=Qi2 ss:=by
 have hl:=Jk7 ss (x,a,false) k hk
 rw[hf]at hl
 simp at hl
 have hc:=h.count
 have hne: ∀i∈fr,i≠(k:Int):=by
  intro i hi e;obtain⟨j,rfl,hj,hjf⟩:=h.free i hi;obtain rfl:j=k:=by omega
  rw[hf]at hjf;cases hjf
 refine⟨⟨?_, ?_, ?_, ?_⟩,hl⟩
 ·rw[List.nodup_append]
  refine⟨h.nodup,by simp,fun i hi j hj=> ?_⟩;simp at hj;subst hj;exact hne i hi
 ·intro i hi
  rcases List.mem_append.1 hi with hi|hi
  ·obtain⟨j,rfl,hj,hjf⟩:=h.free i hi
   have:k≠j:=fun e=>hne _ hi (by rw[e])
   exact⟨j,rfl,by simpa using hj,by rw[List.getElem_set_ne this];exact hjf⟩
  ·simp at hi
   subst hi;exact⟨k,rfl,by simpa using hk,by rw[List.getElem_set_self]⟩
 ·rw[List.length_set];simp;omega
 ·rw[List.length_set];exact h.cap
end Go.Proofs.YtbmiieehkkfbgaaGreatDoor
