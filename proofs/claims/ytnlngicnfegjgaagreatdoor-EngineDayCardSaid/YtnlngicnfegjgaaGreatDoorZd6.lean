/- Contracts and walks that the law's proof needs. -/
import Derived.WalkKit
import Derived.WalkLawsBesides
import Derived.WalkSpells
import Derived.Deep.RegionLaw
import Derived.Deep.AppendLies
import Derived.Deep.DeepCutAuto
import Derived.Deep.QuietTactic
import Derived.BigQuiet
import Derived.Test.YtnlngicnfegjgaaGreatDoorZd5
import Derived.Laws.CopyRow
import Derived.Laws.CopyOwn
import Derived.Lib.AppendZerosOnto
import Derived.Lib.JoinLaws
import Derived.Lib.Overlaps
import Derived.Test.YtnlngicnfegjgaaGreatDoorZd1
set_option linter.unusedVariables false
set_option maxRecDepth 100000
set_option maxHeartbeats 8000000
namespace Go.Proofs.YtnlngicnfegjgaaGreatDoor
open Go.RowKit
theorem Jr0 {w:World} {t:Act} {Q:Ending→World→Prop} {g:Nat} {x y v:Value} (hp:t.tmps.getD 4 undef= .pointer (some ⟨g,0,none⟩)) (h5:t.tmps.getD 5 undef=v) (hd:t.defers= [])
  (hg:QJ w g 186 #[x,y]) (h:Q (.returned (.tuple #[.agg #[x,y],v])) w):bodyPost Tryz.prog Tryz.f130 Q .ret t w:=by
 refine bodyPost_ret (v:= .tuple #[.agg #[x,y],v]) ?_ hd h
 have hl:=run_loadVar_row (P:=Tryz.prog) w g _ 186 #[x,y] (0,0) _ hg Tryz.underlying186 rfl (by kernel_rfl)
 have hp':t.tmps[4]?.getD undef= .pointer (some ⟨g,0,none⟩):=by simpa using hp
 have h5':t.tmps[5]?.getD undef=v:=by simpa using h5
 simp[results,Tryz.results130,hp',h5',asAddr,hl]
abbrev Jj4 (w:World) (x:QX):World:=(w.alloc (.cells #[.int .i64 x.id,.int .i64 x.side,.int .i64 x.kind,.int .i64 x.price,.int .i64 x.qty] 29)).alloc (.cells #[.int .i64 0,.int .i64 0] 186)
theorem Jd0 (w:World) (x:QX):Below w.heap.size w (Jj4 w x):=((Below.refl _ w).alloc (Nat.le_refl _) _).alloc (by simp) _
theorem Jr1 (w:World) (x:QX):QJ (Jj4 w x) (w.heap.size+1) 186 #[.int .i64 0,.int .i64 0]:=by simpa using QJ.new (w.alloc (.cells #[.int .i64 x.id,.int .i64 x.side,.int .i64 x.kind,.int .i64 x.price,.int .i64 x.qty] 29)) 186 #[.int .i64 0,.int .i64 0]
theorem Xl3 (w:World) (x:QX):QJ (Jj4 w x) w.heap.size 29 (KZ x):=QJ.alloc (QJ.new w _ _) _
theorem Xf5 (w:World) (a:Nat) (A:Option Addr) (c:Nat) (B:Option Addr) (d:Nat) (ss:List UJ) (fr:List Int) (most many:Int) (x:QX) (h:KW w a A c B d ss fr most many) (hm:many=most):
  Calls Tryz.prog 130 #[.pointer (some ⟨a,0,none⟩),KQ x] w fun e w'=>
   e= .returned (.tuple #[.agg #[.int .i64 0,.int .i64 0],YV 12])∧Below w.heap.size w w':=by
 unfold KQ
 have t1:=J4 hm
 clear hm
 have hA:=Jd0 w x
 obtain⟨q0,q1,q2,q3⟩:=(h.below hA).cells
 have HA:=QQ hA
 clear hA
 unfold Jj4 at q0 q1 q2 q3
 go_enter Tryz.func130,Tryz.ntmps130
 go_wp2_with fail
 go_quiet (fail)
 go_wp2
 try simp only[Exit.inBlock,Exit.then]
 refine Jr0 (g:=w.heap.size+1) (x:= .int .i64 0) (y:= .int .i64 0) (v:=YV 12) (by with_unfolding_all rfl) (by with_unfolding_all rfl) (by with_unfolding_all rfl) (QJ.set_ (QJ.set_ (QJ.drewN (Jr1 w x) _) 0 _) 1 _) ?_
 exact⟨rfl,((JQ HA.out _).setCell (by simp) _).setCell (by simp) _⟩
theorem Ku3 {w1:World} {a c d:Nat} {ss:List UJ} {fr:List Int} {most many:Int} {gs gb i:Nat} (H:KW w1 a (some ⟨gs,0,none⟩) c (some ⟨gb,0,none⟩) d ss (fr++ [(i:Int)]) most many) (hi:i<ss.length) (m:Int) (x:QX):
  let w5:=(Xl1 ((w1.setCell ⟨a,3,none⟩ (.int .i64 m)).setCell ⟨a,1,none⟩ (.slice (some ⟨gb,0,none⟩) fr.length d)) gs (i*7) x).setCell ⟨gs,i*7+6,none⟩ (.bool true)
  KW w5 a (some ⟨gs,0,none⟩) c (some ⟨gb,0,none⟩) d (ss.set i (x,ss[i].2.1,true)) fr most m∧QK (OFp a (some ⟨gs,0,none⟩) (some ⟨gb,0,none⟩)) w1 w5:=by
 intro w5
 have u1:gs≠a:=fun e=>H.na (by rw[←e];rfl)
 have u2:gb≠a:=fun e=>H.nb (by rw[←e];rfl)
 have u3:gb≠gs:=fun e=>H.nab gs rfl (by rw[←e];rfl)
 have k12:=(QK.set_ w1 ⟨a,3,none⟩ (.int .i64 m)).trans (QK.set_ _ ⟨a,1,none⟩ (.slice (some ⟨gb,0,none⟩) fr.length d)) (fun j h=> .inl h)
 have k34:QK (fun j=>j=gs) ((w1.setCell ⟨a,3,none⟩ (.int .i64 m)).setCell ⟨a,1,none⟩ (.slice (some ⟨gb,0,none⟩) fr.length d)) w5:=(Qs2 _ gs (i*7) x).trans (QK.set_ _ ⟨gs,i*7+6,none⟩ (.bool true)) (fun j h=> .inl h)
 have hs:=(Jq6 (H.slots.keeps k12 (fun g hg e=>by cases hg;exact u1 e)) (i*7) x).set (i*7+6) (.bool true)
 have h5:(QW Qn2 ss)[i*7+5]?=some (.int .i64 ss[i].2.1):=Qd4 Qi5 ss i hi 5 (by omega)
 have e0:((((((QW Qn2 ss).set (i*7) (.int .i64 x.id)).set (i*7+1) (.int .i64 x.side)).set (i*7+2) (.int .i64 x.kind)).set (i*7+3) (.int .i64 x.price)).set (i*7+4) (.int .i64 x.qty)).set (i*7+6) (.bool true)=QW Qn2 (ss.set i (x,ss[i].2.1,true)):=by
  refine Eq.trans ?_ (Jj0 ss i hi (x,ss[i].2.1,true));refine congrArg (fun l=>List.set l (i*7+6) (Value.bool true)) (Jq5 ?_).symm;rw[List.getElem?_set_ne (by omega),List.getElem?_set_ne (by omega),List.getElem?_set_ne (by omega),List.getElem?_set_ne (by omega),List.getElem?_set_ne (by omega)];exact h5
 rw[e0]at hs
 have hf:=((H.free.pop fr.length (by simp)).keeps k12 (fun g hg e=>by cases hg;exact u2 e)).keeps k34 (fun g hg e=>by cases hg;exact u3 e)
 have e1:(Qa6 (fr++ [(i:Int)])).take (fr.length*1)=Qa6 fr:=by
  unfold Qa6;rw[List.map_append];simp
 rw[e1]at hf
 refine⟨⟨?_, ?_,hf,H.na,H.nb,H.nab⟩, ?_⟩
 ·rw[List.length_set];exact QJ.keeps (QJ.set_ (QJ.set_ H.blk 3 _) 1 _) k34 (fun e=>u1 e.symm)
 ·rw[List.length_set];exact hs
 ·exact(k12.mono (fun j h=> .inl h)).trans (k34.mono (fun j h=>(.inr (.inl (by rw[h];rfl)):OFp a (some ⟨gs,0,none⟩) (some ⟨gb,0,none⟩) j))) (fun j h=> .inl h)
theorem Xl4 (w:World) (a:Nat) (A:Option Addr) (c:Nat) (B:Option Addr) (d:Nat) (ss:List UJ) (fr:List Int) (i:Nat) (most many:Int) (x:QX) (h:KW w a A c B d ss (fr++ [(i:Int)]) most many) (hm:many≠most) (hi:i<ss.length) (hfr:fr.length≤2000):
  Calls Tryz.prog 130 #[.pointer (some ⟨a,0,none⟩),KQ x] w fun e w'=>
   e= .returned (.tuple #[.agg #[.int .i64 i,.int .i64 (ss[i].2.1)],YV 0])∧Jf1 w w' a A B (ss.set i (x,ss[i].2.1,true)) fr most (RowKit.wrap64 (many+1)):=by
 unfold KQ
 have t1:=UQ hm
 clear hm
 have hA:=Jd0 w x
 have H0:=h.below hA
 have hbox:=Xl3 w x
 obtain⟨q0,q1,q2,q3⟩:=H0.cells
 obtain⟨gs,rfl,s0,s1,s2,s3,s4,s5,s6⟩:=H0.slot hi
 have f0:=H0.slots.frozen (i*7)
 have f1:=H0.slots.frozen (i*7+1)
 have f2:=H0.slots.frozen (i*7+2)
 have f3:=H0.slots.frozen (i*7+3)
 have f4:=H0.slots.frozen (i*7+4)
 have f6:=H0.slots.frozen (i*7+6)
 obtain⟨gb,rfl,y0⟩:=H0.free.cell (j:=fr.length) (u:= .int .i64 (i:Int)) (by simp[Qa6])
 have g1:=QJ.frozen H0.blk 1
 have g3:=QJ.frozen H0.blk 3
 have e1:(fr++ [(i:Int)]).length=fr.length+1:=by simp
 rw[e1]at q1
 obtain⟨n,hn⟩: ∃n,fr.length=n:=⟨_,rfl⟩
 rw[hn]at q1 y0
 have hcap:n+1≤d:=by
  rcases H0.free.2 with⟨hh,_⟩|⟨g',cap',cur,hv,_,_,h1,_⟩
  ·cases hh
  ·cases hv;rw[e1,hn]at h1;exact h1
 have i1:RowKit.wrap64 (n:Int)=(n:Int):=by unfold RowKit.wrap64;omega
 have u1:gs≠a:=fun e=>H0.na (by rw[←e];rfl)
 have u2:gb≠a:=fun e=>H0.nb (by rw[←e];rfl)
 have u3:gb≠gs:=fun e=>H0.nab gs rfl (by rw[←e];rfl)
 have hla:=QJ.lt h.blk
 have hls:=h.slots.lt (g:=gs) rfl
 have hlb:=h.free.lt (g:=gb) rfl
 have u4:a≠w.heap.size+1:=by omega
 have u5:gs≠w.heap.size+1:=by omega
 have u6:gb≠w.heap.size+1:=by omega
 have u7:a≠w.heap.size:=by omega
 have u8:gs≠w.heap.size:=by omega
 have u9:gb≠w.heap.size:=by omega
 have i2:(0:Int)< (n:Int)+1:=by omega
 have i3:(0:Int)≤(n:Int):=by omega
 have i4:(n:Int)≤(d:Int):=by omega
 have i5:(n:Int)< (n:Int)+1:=by omega
 have i6:(0:Int)≤(i:Int):=by omega
 have i7:(i:Int)< (ss.length:Int):=by omega
 have d1:decide ((0:Int)< (n:Int)+1)=true:=J5 i2
 have HH:=QQ H0
 have HA:=QQ hA
 have Hn:=QQ hn
 clear H0 hA h hn e1 hbox hla hls hlb
 unfold Jj4 at q0 q1 q2 q3 s0 s1 s2 s3 s4 s5 s6 f0 f1 f2 f3 f4 f6 y0 g1 g3
 go_enter Tryz.func130,Tryz.ntmps130
 go_wp2_with fail
 go_quiet (fail)
 go_wp2_with fail
 try simp only[Exit.inBlock,Exit.then]
 have HD:KW ((Jj4 w x).drewN nq) a (some ⟨gs,0,none⟩) c (some ⟨gb,0,none⟩) d ss (fr++ [(i:Int)]) most many:=⟨HH.out.blk,HH.out.slots,HH.out.free,HH.out.na,HH.out.nb,HH.out.nab⟩
 obtain⟨hA5,hK5⟩:=Ku3 HD hi (RowKit.wrap64 (many+1)) x
 rw[Hn.out]at hA5 hK5
 have hb0:=JQ HA.out nq
 have hR:QJ ((Jj4 w x).drewN nq) (w.heap.size+1) 186 #[.int .i64 0,.int .i64 0]:=QJ.drewN (Jr1 w x) _
 have hRn: ∀j,OFp a (some ⟨gs,0,none⟩) (some ⟨gb,0,none⟩) j→j≠w.heap.size+1:=by
  rintro j (rfl|h|h)
  ·exact u4
  ·cases h;exact u5
  ·cases h;exact u6
 have hR5:=QJ.keeps hR hK5 (fun h=>hRn _ h rfl)
 have hks:=(QK.set_ ((Xl1 ((((Jj4 w x).drewN nq).setCell ⟨a,3,none⟩ (.int .i64 (RowKit.wrap64 (many+1)))).setCell ⟨a,1,none⟩ (.slice (some ⟨gb,0,none⟩) n d)) gs (i*7) x).setCell ⟨gs,i*7+6,none⟩ (.bool true)) ⟨w.heap.size+1,0,none⟩ (.int .i64 (i:Int))).trans (QK.set_ _ ⟨w.heap.size+1,1,none⟩ (.int .i64 ss[i].2.1)) (fun j h=> .inl h)
 refine Jr0 (g:=w.heap.size+1) (x:= .int .i64 (i:Int)) (y:= .int .i64 ss[i].2.1) (v:=YV 0) (by with_unfolding_all rfl) (by with_unfolding_all rfl) (by with_unfolding_all rfl) (QJ.set_ (QJ.set_ hR5 0 _) 1 _) ?_
 refine⟨rfl,some ⟨gs,0,none⟩,c,some ⟨gb,0,none⟩,d,hA5.keeps hks (fun j hj=>hRn j hj), ?_,fun j hj=> .inl hj⟩
 exact((QK.of_below hb0 _).trans hK5 (fun j h=> .inl h)).trans hks (fun j h=> .inr (by have:j=w.heap.size+1:=h;omega))
theorem Xu6:(Tryz.prog.info? 239).map (fun i=>(i.zero,i.size,i.bytes))=some (some (.agg #[.int .i64 0,.int .i64 0,.int .i64 0,.int .i64 0,.int .i64 0,.int .i64 0,.bool false]),7,56):=by kernel_rfl
theorem Kn2 {w2 w3:World} {a c d:Nat} {A B:Option Addr} {ss:List UJ} {fr:List Int} {most many:Int} (H:KW w2 a A c B d ss fr most many) {o:Obj} {gg cap:Nat} {x:QX}
  (hown:w3.ownsRow 0 239 7 (.slice (some ⟨gg,0,none⟩) (ss.length+1) cap) (ss.length+1) (QW Qn2 ss++Qn2 (x,0,true))) (hgrow:((w2.alloc o).drew).grownBy w3 (Value.slice A ss.length c).ownBlock)
  (hat:(Value.slice A ss.length c).ownBlock=some gg∨gg=w2.heap.size+1):
  let w5:=w3.setCell ⟨a,0,none⟩ (.slice (some ⟨gg,0,none⟩) (ss.length+1) cap)
  KW w5 a (some ⟨gg,0,none⟩) cap B d (ss++ [(x,0,true)]) fr most many∧QK (OFp a A B) w2 w5∧(∀i,OFp a (some ⟨gg,0,none⟩) B i→OFp a A B i∨w2.heap.size≤i):=by
 intro w5
 rw[XV]at hgrow hat
 have hal:=QJ.lt H.blk
 have hK:=IJ hgrow
 have hga:gg≠a:=by
  rcases hat with h|h
  ·intro e;exact H.na (by rw[h,e])
  ·omega
 have hgB: ∀g,QZ B=some g→g≠gg:=by
  intro g hg e;rcases hat with h|h
  ·exact H.nab gg h (by rw[hg,e])
  ·have:=H.free.lt hg;omega
 have b3:=QJ.keeps H.blk hK H.na
 have f3:=H.free.keeps hK (fun g hg e=>H.nab g e hg)
 have s3:QY w3 (some ⟨gg,0,none⟩) (ss.length+1) cap 239 7 (QW Qn2 ss++Qn2 (x,0,true)):=hown
 have k4:QK (fun i=>i=a) w3 w5:=QK.set_ w3 ⟨a,0,none⟩ (.slice (some ⟨gg,0,none⟩) (ss.length+1) cap)
 have e1:(ss++ [(x,(0:Int),true)]).length=ss.length+1:=by simp
 have e2:QW Qn2 (ss++ [(x,0,true)])=QW Qn2 ss++Qn2 (x,0,true):=Qa5 _ _ _
 refine⟨⟨?_, ?_, ?_, ?_,H.nb, ?_⟩, ?_, ?_⟩
 ·rw[e1];exact QJ.set_ b3 0 _
 ·rw[e1,e2];exact s3.keeps k4 (fun g hg e=>by cases hg;exact hga e)
 ·exact f3.keeps k4 (fun g hg e=>H.nb (by rw[hg,e]))
 ·intro e;cases e;exact hga rfl
 ·intro g hg e;cases hg;exact hgB _ e rfl
 ·exact(hK.mono (fun i h=>(.inr (.inl h):OFp a A B i))).trans k4 (fun i h=> .inl (.inl h))
 ·rintro i (h|h|h)
  ·exact .inl (.inl h)
  ·cases h
   rcases hat with h|h
   ·exact .inl (.inr (.inl h))
   ·exact .inr (by show _≤gg;omega)
  ·exact .inl (.inr (.inr h))
theorem Xl5 (w:World) (a:Nat) (A:Option Addr) (c:Nat) (B:Option Addr) (d:Nat) (ss:List UJ) (most many:Int) (x:QX) (h:KW w a A c B d ss [] most many) (hm:many≠most) (hss:ss.length≤2000):
  Calls Tryz.prog 130 #[.pointer (some ⟨a,0,none⟩),KQ x] w fun e w'=>
   e= .returned (.tuple #[.agg #[.int .i64 ss.length,.int .i64 0],YV 0])∧Jf1 w w' a A B (ss++ [(x,0,true)]) [] most (RowKit.wrap64 (many+1)):=by
 unfold KQ
 have t1:=UQ hm
 clear hm
 have hA:=Jd0 w x
 have H0:=h.below hA
 obtain⟨q0,q1,q2,q3⟩:=H0.cells
 have g3:=QJ.frozen H0.blk 3
 have Hfp:=QQ (fun i (hi:OFp a A B i)=>h.fp hi)
 have hla:=QJ.lt h.blk
 have u4:a≠w.heap.size+1:=by omega
 have u7:a≠w.heap.size:=by omega
 have HH:=QQ H0
 have HA:=QQ hA
 clear H0 hA h hla
 obtain⟨n,hn⟩: ∃n,ss.length=n:=⟨_,rfl⟩
 have Hn:=QQ hn
 unfold Jj4 at q0 q1 q2 q3 g3
 go_enter Tryz.func130,Tryz.ntmps130
 go_wp2_with fail
 go_quiet (fail)
 go_upto_region 11 with fail
 have HD:KW ((Jj4 w x).drewN nq) a A c B d ss [] most many:=⟨HH.out.blk,HH.out.slots,HH.out.free,HH.out.na,HH.out.nb,HH.out.nab⟩
 have hb0:=JQ HA.out nq
 have hR:QJ ((Jj4 w x).drewN nq) (w.heap.size+1) 186 #[.int .i64 0,.int .i64 0]:=QJ.drewN (Jr1 w x) _
 have hX:QJ ((Jj4 w x).drewN nq) w.heap.size 29 (KZ x):=QJ.drewN (Xl3 w x) _
 unfold Jj4 at HD hb0 hR hX
 generalize World.drewN ((w.alloc (.cells #[.int .i64 x.id,.int .i64 x.side,.int .i64 x.kind,.int .i64 x.price,.int .i64 x.qty] 29)).alloc (.cells #[.int .i64 0,.int .i64 0] 186)) nq=w1 at HD hb0 hR hX⊢
 have hk2:=QK.set_ w1 ⟨a,3,none⟩ (.int .i64 (RowKit.wrap64 (many+1)))
 have HD2:KW (w1.setCell ⟨a,3,none⟩ (.int .i64 (RowKit.wrap64 (many+1)))) a A c B d ss [] most (RowKit.wrap64 (many+1)):=
  ⟨QJ.set_ HD.blk 3 _,HD.slots.keeps hk2 (fun g hg e=>HD.na (by rw[hg,e])),HD.free.keeps hk2 (fun g hg e=>HD.nb (by rw[hg,e])),HD.na,HD.nb,HD.nab⟩
 have hR2:=QJ.keeps hR hk2 (fun e=>u4 e.symm)
 have hX2:=QJ.keeps hX hk2 (fun e=>u7 e.symm)
 generalize hW:w1.setCell ⟨a,3,none⟩ (.int .i64 (RowKit.wrap64 (many+1)))=w2 at hk2 HD2 hR2 hX2⊢
 clear hW q0 q1 q2 q3 g3 HD hR hX
 have hal:=QJ.lt HD2.blk
 have q0:=HD2.cells.1
 rw[hn]at q0
 obtain⟨bx0,bx1,bx2,bx3,bx4⟩:=JW hX2
 obtain⟨i0,hi0,hz0,hz1,hz2⟩:=info_parts Xu6
 have hna:some a≠(Value.slice A n c).ownBlock:=by rw[XV];exact HD2.na.symm
 have hnR:some (w.heap.size+1)≠(Value.slice A n c).ownBlock:=by
  rw[XV];intro e;have:=Hfp.out _ (.inr (.inl e.symm));omega
 have hs0:=HD2.slots
 rw[hn]at hs0
 have HS:=QQ (show w2.ownsRow 0 239 7 (.slice A n c) n (QW Qn2 ss)from hs0)
 have HA2:=QQ HD2
 have HR2:=QQ hR2
 have HK2:=QQ hk2
 have hss':n≤2000:=by omega
 have i1:RowKit.wrap64 (n:Int)=(n:Int):=by unfold RowKit.wrap64;omega
 clear HD2 hs0 hn hR2 hk2 hss hX2
 go_region_law ((refine step_append_lies _ (by rfl) _ _ _ (by rfl) 0 239 i0 _ 7 56 Tryz.underlying216 hi0 hz0 hz1 hz2 rfl (by omega) (.slice A n c) n _ (by rfl) ((World.ownsRow.alloc HS.out _).drew) ⟨w2.heap.size,0,none⟩ 1 1 (Qn2 (x,0,true)) (by rfl) (by rfl) (World.news_of_block (cs:= #[.int .i64 x.id,.int .i64 x.side,.int .i64 x.kind,.int .i64 x.price,.int .i64 x.qty,.int .i64 0,.bool true]) (t:=239) (fr:=(0,0)) (heap_alloc_new w2 _)) (Kn0 _) (by omega) (by unfold maxLen;omega) (by omega) (by simp) (w2.heap.size+1) (by simp) ?_;intro gg cap w3 hown hgrow hat hlt;have hg2:=QQ hgrow;have b3:=QJ.keeps HA2.out.blk (IJ hgrow) (fun e=>hna e.symm);have r0:w3.cell? ⟨a,0,none⟩=some (.slice A n c):=(by rw[QJ.cell b3];exact congrArg (fun k=>some (Value.slice A k c)) Hn.out);have rf0:=QJ.frozen b3 0;have R3:=QJ.keeps HR2.out (IJ hgrow) (fun e=>hnR e.symm);have rc0:w3.cell? ⟨w.heap.size+1,0,none⟩=some (.int .i64 0):=(by rw[QJ.cell R3];rfl);have rc1:w3.cell? ⟨w.heap.size+1,1,none⟩=some (.int .i64 0):=(by rw[QJ.cell R3];rfl);have qf0:=QJ.frozen R3 0;have qf1:=QJ.frozen R3 1;have HR3:=QQ R3;clear b3 R3 hgrow))
 all_goals go_wp2_with fail
 all_goals try simp only[Exit.inBlock,Exit.then]
 all_goals
  obtain rfl:ss.length=n:=Hn.out;obtain⟨hA5,hK5,hF5⟩:=Kn2 HA2.out hown hg2.out hat;have hRl:=QJ.lt HR2.out;have hs1:=hb0.size;have hs2:=HK2.out.size;have R5:=QJ.far HR3.out (p:=⟨a,0,none⟩) (Ne.symm u4) (.slice (some ⟨gg,0,none⟩) (ss.length+1) cap);have hks:=(QK.set_ (w3.setCell ⟨a,0,none⟩ (.slice (some ⟨gg,0,none⟩) (ss.length+1) cap)) ⟨w.heap.size+1,0,none⟩ (.int .i64 (ss.length:Int))).trans (QK.set_ _ ⟨w.heap.size+1,1,none⟩ (.int .i64 0)) (fun j h=> .inl h);refine Jr0 (g:=w.heap.size+1) (x:= .int .i64 (ss.length:Int)) (y:= .int .i64 0) (v:=YV 0) (by with_unfolding_all rfl) (by with_unfolding_all rfl) (by with_unfolding_all rfl) (QJ.set_ (QJ.set_ R5 0 _) 1 _) ?_;refine⟨rfl,some ⟨gg,0,none⟩,cap,B,d,hA5.keeps hks ?_, ?_, ?_⟩
  ·intro j hj e
   have e':j=w.heap.size+1:=e;rcases hF5 j hj with h|h
   ·have:=Hfp.out j h
    omega
   ·omega
  ·exact(((QK.of_below hb0 (OFp a A B)).trans HK2.out (fun j h=> .inl (.inl h))).trans hK5 (fun j h=> .inl h)).trans hks (fun j h=> .inr (by have:j=w.heap.size+1:=h;omega))
  ·intro j hj
   rcases hF5 j hj with h|h
   ·exact .inl h
   ·exact .inr (by omega)
def OAr (w:World) (a:Nat) (F:Nat→Prop) (M:Int→Int→Option QX) (most n:Nat):Prop:=
 ∃A c B d ss fr,KW w a A c B d ss fr (most:Nat) (n:Nat)∧Jj3 ss fr most∧Qi6 ss=n∧(∀s g,M s g=O6 ss s g)∧ ∀i,F i↔OFp a A B i
def Z8 (M:Int→Int→Option QX) (s g:Int) (x:Option QX):Int→Int→Option QX:=fun s' g'=>if s'=s∧g'=g then x else M s' g'
def Kg4 (M:Int→Int→Option QX) (s g:Int):QX:=(M s g).getD noO
def Kg5 (M:Int→Int→Option QX) (s g:Int):Int:=if(M s g).isSome=true then 0 else 7
section
variable {w w':World} {a:Nat} {F:Nat→Prop} {M:Int→Int→Option QX} {most n:Nat}
theorem OAr.fp (h:OAr w a F M most n) {i:Nat} (hi:F i):i<w.heap.size:=by
 obtain⟨A,c,B,d,ss,fr,hA,_,_,_,hF⟩:=h
 exact hA.fp ((hF i).1 hi)
theorem OAr.keeps {S:Nat→Prop} (h:OAr w a F M most n) (hk:QK S w w') (hn: ∀i,F i→ ¬S i):OAr w' a F M most n:=by
 obtain⟨A,c,B,d,ss,fr,hA,hI,hL,hM,hF⟩:=h
 exact⟨A,c,B,d,ss,fr,hA.keeps hk (fun i hi=>hn i ((hF i).2 hi)),hI,hL,hM,hF⟩
theorem OAr.below (h:OAr w a F M most n) (hb:Below w.heap.size w w'):OAr w' a F M most n:=h.keeps (QK.of_below hb (fun _=>False)) (fun _ _=>id)
theorem OAr.le (h:OAr w a F M most n):n≤most:=by
 obtain⟨A,c,B,d,ss,fr,hA,hI,hL,hM,hF⟩:=h
 have h1:=hI.count
 have h2:=hI.cap
 omega
def Jr2 (w w':World) (a:Nat) (F:Nat→Prop) (M:Int→Int→Option QX) (most n:Nat):Prop:=
 ∃F',OAr w' a F' M most n∧QK F w w'∧ ∀i,F' i→F i∨w.heap.size≤i
theorem Kn3 (h:OAr w a F M most n):Calls Tryz.prog 92 #[.pointer (some ⟨a,0,none⟩)] w fun e w'=>e= .returned (.int .i64 n)∧w=w':=by
 obtain⟨A,c,B,d,ss,fr,hA,hI,hL,hM,hF⟩:=h
 exact Jq3 w a A c B d ss fr _ _ hA
theorem Ku4 (h:OAr w a F M most n) (s g:Int):Calls Tryz.prog 108 #[.pointer (some ⟨a,0,none⟩),.agg #[.int .i64 s,.int .i64 g]] w fun e w'=>
  e= .returned (.tuple #[KQ (Kg4 M s g),YV (Kg5 M s g)])∧Below w.heap.size w w':=by
 obtain⟨A,c,B,d,ss,fr,hA,hI,hL,hM,hF⟩:=h
 refine(Jx4 w a A c B d ss fr _ _ s g hA).mono ?_
 rintro e w' ⟨rfl,hB⟩
 refine⟨?_,hB⟩
 unfold Kg4 Kg5
 rw[hM,Jz7,Jz8]
theorem Jf3 (h:OAr w a F M most n) (hm:most≤1000) (x:QX):Calls Tryz.prog 130 #[.pointer (some ⟨a,0,none⟩),KQ x] w fun e w'=>
  (n=most∧e= .returned (.tuple #[.agg #[.int .i64 0,.int .i64 0],YV 12])∧Below w.heap.size w w')∨
  (n<most∧ ∃s g,M s g=none∧e= .returned (.tuple #[.agg #[.int .i64 s,.int .i64 g],YV 0])∧Jr2 w w' a F (Z8 M s g (some x)) most (n+1)):=by
 obtain⟨A,c,B,d,ss,fr,hA,hI,hL,hM,hF⟩:=h
 have hcap:=hI.cap
 have hcnt:=hI.count
 by_cases hn:n=most
 ·refine(Xf5 w a A c B d ss fr _ _ x hA (by omega)).mono ?_
  rintro e w' ⟨rfl,hB⟩;exact .inl ⟨hn,rfl,hB⟩
 ·have hw:RowKit.wrap64 ((n:Int)+1)=((n+1:Nat):Int):=by unfold RowKit.wrap64;omega
  rcases List.eq_nil_or_concat fr with rfl|⟨fr0,i,rfl⟩
  ·refine(Xl5 w a A c B d ss _ _ x hA (by omega) (by omega)).mono ?_
   rintro e w' ⟨rfl,A',c',B',d',hA',hK,hf⟩;rw[hw]at hA';refine .inr ⟨by omega,_,_, ?_,rfl,OFp a A' B',⟨A',c',B',d',_,_,hA',hI.new_ (by omega) x, ?_, ?_,fun i=>Iff.rfl⟩,hK.mono (fun i hi=>(hF i).2 hi),fun i hi=>(hf i hi).imp (fun h=>(hF i).2 h) id⟩
   ·rw[hM];unfold O6;simp
   ·rw[Jf2,hL];rfl
   ·intro s g
    rw[Xf4];unfold Z8;rw[hM]
    by_cases e1:s=(ss.length:Nat)
    ·subst e1
     by_cases e2:g=0
     ·subst e2;simp
     ·have:O6 ss (ss.length:Nat) g=none:=by unfold O6;simp
      rw[if_neg (by simp[e2]),this,if_pos rfl,if_neg (by simp;omega)]
    ·rw[if_neg (by simp[e1]),if_neg e1]
  ·rw[List.concat_eq_append]at hA hI hcnt
   obtain⟨k,rfl,hk0,_⟩:=hI.free i (by simp);obtain⟨hk,hkf,hI',hL'⟩:=hI.old_ x (ss[k].2.1);refine(Xl4 w a A c B d ss fr0 k _ _ x hA (by omega) hk (by simp at hcnt;omega)).mono ?_;rintro e w' ⟨rfl,A',c',B',d',hA',hK,hf⟩;rw[hw]at hA';refine .inr ⟨by omega,_,_, ?_,rfl,OFp a A' B',⟨A',c',B',d',_,_,hA',hI', ?_, ?_,fun i=>Iff.rfl⟩,hK.mono (fun i hi=>(hF i).2 hi),fun i hi=>(hf i hi).imp (fun h=>(hF i).2 h) id⟩
   ·rw[hM];exact Jq8 hk hkf _
   ·rw[hL',hL]
   ·intro s g
    rw[Jj1 hk];unfold Z8;rw[hM]
    by_cases e1:s=(k:Int)
    ·subst e1
     by_cases e2:g=ss[k].2.1
     ·subst e2;simp
     ·rw[if_neg (by simp[e2]),Jq8 hk hkf,if_pos rfl,if_neg (by simp;omega)]
    ·rw[if_neg (by simp[e1]),if_neg e1]
theorem Kn4 (h:OAr w a F M most n) (hm:most≤1000) (s g:Int):Calls Tryz.prog 127 #[.pointer (some ⟨a,0,none⟩),.agg #[.int .i64 s,.int .i64 g]] w fun e w'=>
  e= .returned (.tuple #[KQ (Kg4 M s g),YV (Kg5 M s g)])∧((M s g=none∧Below w.heap.size w w')∨((M s g).isSome=true∧1≤n∧Jr2 w w' a F (Z8 M s g none) most (n-1))):=by
 obtain⟨A,c,B,d,ss,fr,hA,hI,hL,hM,hF⟩:=h
 have hcap:=hI.cap
 have hcnt:=hI.count
 refine(Jq7 w a A c B d ss fr _ _ s g hA (by omega)).mono ?_
 rintro e w' ⟨rfl,hcase⟩
 refine⟨by unfold Kg4 Kg5;rw[hM,Jz7,Jz8], ?_⟩
 rcases hcase with⟨hf,hB⟩|⟨hf,A',c',B',d',hA',hK,hfp⟩
 ·rw[Qq2]at hf
  refine .inl ⟨?_,hB⟩;rw[hM]
  cases hv:O6 ss s g with
  |none=>rfl
  |some v=>rw[hv]at hf;cases hf
 ·rw[Qq2]at hf
  obtain⟨x,hx⟩: ∃x,O6 ss s g=some x:=Option.isSome_iff_exists.1 hf;obtain⟨k,rfl,hk,h1,h2,h3⟩:=Kn1 hx;obtain⟨hI',hL'⟩:=hI.take_ hk h1 noO (RowKit.wrap64 (ss[k].2.1+1));have hw:RowKit.wrap64 ((n:Int)-1)=((n-1:Nat):Int):=by unfold RowKit.wrap64;omega
  rw[hw,Jz5 hk]at hA';refine .inr ⟨by rw[hM];exact hf,by omega,OFp a A' B',⟨A',c',B',d',_,_,hA',hI',by omega, ?_,fun i=>Iff.rfl⟩,hK.mono (fun i hi=>(hF i).2 hi),fun i hi=>(hfp i hi).imp (fun h=>(hF i).2 h) id⟩;intro s' g';rw[Jj1 hk];unfold Z8;rw[hM]
  by_cases e1:s'=(k:Int)
  ·subst e1
   rw[if_pos rfl]
   by_cases e2:g'=g
   ·subst e2;simp
   ·have:O6 ss (k:Nat) g'=none:=by
     unfold O6;have hh:ss[((k:Nat):Int).toNat]?=some ss[k]:=by simp[hk]
     rw[if_pos (by omega),hh];simp[h2];intro _ e;exact absurd e.symm e2
    rw[if_neg (by simp[e2]),this,if_neg (by simp)]
  ·rw[if_neg (by simp[e1]),if_neg e1]
end
theorem Ku5 (w:World) (most:Nat) (h1:1≤most) (h2:most≤1000):Calls Tryz.prog 104 #[.int .i64 most] w fun e w'=>
  Below w.heap.size w w'∧ ∃a F,(∀i,F i→w.heap.size≤i)∧e= .returned (.tuple #[.pointer (some ⟨a,0,none⟩),.nilIface])∧OAr w' a F (fun _ _=>none) most 0:=by
 refine(Jx3 (most:Int) w).mono ?_
 rintro e w' ⟨hB,⟨hbad,_⟩|⟨_,a,ha,rfl,hA⟩⟩
 ·omega
 ·refine⟨hB,a,OFp a none none, ?_,rfl,none,0,none,0,[],[],hA,Jj3.empty most,rfl,fun s g=>(Xl2 s g).symm,fun i=>Iff.rfl⟩
  rintro i (rfl|hi|hi)
  ·exact ha
  ·cases hi
  ·cases hi
theorem V1 {P:Program} (w:World) (dT sT ty elem:TypeId) (k:Nat) (g o dLen dCap:Nat) (a:Addr) (sLen sCap:Nat) (cur:Array Value) (t:TypeId) (cs:List Value) (m:Nat) (hm:m=Nat.min sLen dLen)
  (hu:P.underlying dT=some (.slice elem)) (hs:(P.info? elem).map (·.size)=some k)
  (hg:w.heap[g]?=some (.cells cur t (0,0))) (hn:cs.length=m*k)
  (hsrc: ∀j v,cs[j]?=some v→w.cell? (a.add j)=some v) (hfit:o+cs.length≤cur.size) (h1: ∀v∈cs,v.oneCell'=true):
  (Builtin.copy_ #[dT,sT] ty #[.slice (some ⟨g,o,none⟩) dLen dCap,.slice (some a) sLen sCap]).run P w= .ok (goInt m) (w.setRow g (splice cur.toList o cs).toArray):=by
 subst hm
 have hst:=run_storeCells_at P g o t cs 0 cur w hg (by simpa using hfit) h1
 cases hq:P.info? elem with
 |none=>simp[hq]at hs
 |some i=>
  have hi:i.size=k:=by simpa [hq]using hs
  have hl:=run_firstCells_some (P:=P) w k (Nat.min sLen dLen) a sLen sCap cs hn hsrc;have e:cur.toList.take o++cs++cur.toList.drop (o+cs.length)=splice cur.toList o cs:=by unfold splice;rw[List.append_assoc]
  simp only[Nat.add_zero]at hst;rw[e]at hst;simp[Builtin.copy_,run_underlying hu,Builtin.lenOf,sizeOf,typeInfo,hq,hi,hl,hst]
theorem Qk7 {P:Program} {ops:Array Oper} {o:Oper} {a:Act} {w:World} {K:Act→World→Prop} {Q:Exit→Act→World→Prop} {E:Prop}
  (hg:o.guard=none) (d x:Operand) (dT sT:TypeId) (hop:o.op=Op.call {callee:=Callee.builtin Builtin.copy,args:= #[d,x],argTypes:= #[dT,sT]})
  (v u:Value) (hd:a.eval d=v) (hx:a.eval x=u) {v':Value} {w':World} (hr:(Builtin.copy_ #[dT,sT] o.type #[v,u]).run P w= .ok v' w') (hK:K (a.put o.dst v') w'):
  if Region.wanted o (yielded ops a.tmps)=true then Oper.wp P o a w K Q else E:=by
 have hw:Region.wanted o (yielded ops a.tmps)=true:=by simp[Region.wanted,hg]
 rw[if_pos hw]
 unfold Oper.wp
 simp[execOp,hop,resolve,invoke,builtin,hd,hx,hr,Result.andThen]
 exact hK
section
variable {w w':World} {g:Nat} {t:TypeId}
theorem QJ.setRow (w:World) (g:Nat) (cs cs':Array Value) (t:TypeId) (h:QJ w g t cs):QJ (w.setRow g cs') g t cs':=setRow_heap w g cs cs' t (0,0) h
theorem QK.setRow (w:World) (g:Nat) (cs:Array Value):QK (fun i=>i=g) w (w.setRow g cs):=⟨rfl,rfl,rfl,by simp[World.setRow],fun i _ hn=>setRow_other w g i cs (fun e=>hn e)⟩
theorem QJ.shape {w:World} {g:Nat} {t:TypeId} {cs:Array Value} (h:QJ w g t cs):w.shape? g=some (t,cs.size):=by
 unfold QJ at h
 simp[World.shape?,h]
theorem Qh5 {row:Option Nat} (h:w.grownBy w' row):QK (fun i=>row=some i) w w':=⟨h.os,h.tape,h.output,h.size,fun i hi hn=>h.block i hi (fun e=>hn e.symm)⟩
theorem QY.whole {n c sz:Nat} {xs:List Value} (h:QY w (some ⟨g,0,none⟩) n c t sz xs): ∃cur:List Value,QJ w g t cur.toArray∧n≤c∧c≤maxLen∧cur.length=c*sz∧cur.take (n*sz)=xs:=by
 rcases h.2 with⟨h1,_⟩|⟨g',cap,cur,hv,h1,h2,h3,h4,h5,h6⟩
 ·cases h1
 ·cases hv
  exact⟨cur.toList,by simpa [QJ]using h2,h3,h4,by simpa using h5,h6⟩
theorem QY.of_whole {n c sz:Nat} {cur:List Value} (hb:QJ w g t cur.toArray) (hn:n≤c) (hc:c≤maxLen) (hl:cur.length=c*sz):QY w (some ⟨g,0,none⟩) n c t sz (cur.take (n*sz)):=by
 have:n*sz≤c*sz:=Nat.mul_le_mul_right _ hn
 exact⟨by rw[List.length_take];omega,.inr ⟨g,c,cur.toArray,rfl,Nat.zero_le _,hb,hn,hc,by simpa using hl,by simp⟩⟩
end
theorem Jf4 (cur X V:List Value) (i n k:Nat) (hi:i≤n) (hX:cur.take (n*k)=X) (hV:V.length=k) (hl:(n+1)*k≤cur.length):
  (splice (splice cur ((i+1)*k) (X.drop (i*k))) (i*k) V).take ((n+1)*k)=X.take (i*k)++V++X.drop (i*k):=by
 have h1:i*k≤n*k:=Nat.mul_le_mul_right _ hi
 have e1:(i+1)*k=i*k+k:=Nat.succ_mul _ _
 have e2:(n+1)*k=n*k+k:=Nat.succ_mul _ _
 rw[e1,e2]
 rw[e2]at hl
 generalize i*k=a at*
 generalize n*k=b at*
 have hXl:X.length=b:=by rw[←hX,List.length_take];omega
 have hd:(X.drop a).length=b-a:=by rw[List.length_drop,hXl]
 have hta:X.take a=cur.take a:=by rw[←hX,List.take_take,Nat.min_eq_left h1]
 unfold splice
 rw[hV,hd,show a+k+ (b-a)=b+k by omega]
 have s1:(cur.take (a+k)++(X.drop a++cur.drop (b+k))).take a=cur.take a:=by
  rw[List.take_append_of_le_length (by rw[List.length_take];omega),List.take_take,Nat.min_eq_left (by omega)]
 have s2:(cur.take (a+k)++(X.drop a++cur.drop (b+k))).drop (a+k)=X.drop a++cur.drop (b+k):=by
  rw[List.drop_append,List.drop_eq_nil_of_le (by rw[List.length_take];omega),List.length_take,show a+k-min (a+k) cur.length=0 by omega];rfl
 rw[s1,s2,←hta]
 have hla:(X.take a).length=a:=by rw[List.length_take];omega
 rw[show X.take a++(V++(X.drop a++cur.drop (b+k)))=(X.take a++V++X.drop a)++cur.drop (b+k) by simp]
 rw[List.take_append_of_le_length (by simp only[List.length_append,hla,hV,hd];omega),List.take_of_length_le (by simp only[List.length_append,hla,hV,hd];omega)]
theorem Jl9 (cur X V:List Value) (i n k:Nat) (hi:i≤n) (hXl:X.length=n*k) (hX:cur.take (i*k)=X.take (i*k)) (hV:V.length=k) (hl:(n+1)*k≤cur.length):
  (splice (splice cur (i*k) V) ((i+1)*k) (X.drop (i*k))).take ((n+1)*k)=X.take (i*k)++V++X.drop (i*k):=by
 have h1:i*k≤n*k:=Nat.mul_le_mul_right _ hi
 have e1:(i+1)*k=i*k+k:=Nat.succ_mul _ _
 have e2:(n+1)*k=n*k+k:=Nat.succ_mul _ _
 rw[e1,e2]
 rw[e2]at hl
 generalize i*k=a at*
 generalize n*k=b at*
 have hd:(X.drop a).length=b-a:=by rw[List.length_drop,hXl]
 have hla:(X.take a).length=a:=by rw[List.length_take];omega
 unfold splice
 rw[hV,hd,hX,show a+k+ (b-a)=b+k by omega]
 have s1:(X.take a++(V++cur.drop (a+k))).take (a+k)=X.take a++V:=by
  rw[←List.append_assoc,List.take_append_of_le_length (by simp only[List.length_append,hla,hV];omega),List.take_of_length_le (by simp only[List.length_append,hla,hV];omega)]
 have hlen:(X.take a++(V++cur.drop (a+k))).length=cur.length:=by simp only[List.length_append,hla,hV,List.length_drop];omega
 rw[s1]
 rw[show X.take a++V++(X.drop a++(X.take a++(V++cur.drop (a+k))).drop (b+k))=(X.take a++V++X.drop a)++(X.take a++(V++cur.drop (a+k))).drop (b+k) by simp]
 rw[List.take_append_of_le_length (by simp only[List.length_append,hla,hV,hd];omega),List.take_of_length_le (by simp only[List.length_append,hla,hV,hd];omega)]
theorem Qn7 {α:Type} {enc:α→List Value} {k:Nat} (hk: ∀x,(enc x).length=k) (xs:List α) (y:α) (i:Nat):(QW enc xs).take (i*k)++enc y++(QW enc xs).drop (i*k)=QW enc (xs.take i++y::xs.drop i):=by
 rw[Qz6 hk,Qf2,Ql5]
 have:(QW enc xs).drop (i*k)=QW enc (xs.drop i):=by
  have h:=Qf2 enc (xs.take i) (xs.drop i);rw[List.take_append_drop]at h
  by_cases hi:i≤xs.length
  ·rw[h,List.drop_append_of_le_length (by rw[OJ hk,List.length_take];exact Nat.mul_le_mul_right _ (by omega)),List.drop_eq_nil_of_le (by rw[OJ hk,List.length_take];exact Nat.mul_le_mul_right _ (by omega))];rfl
  ·rw[List.drop_eq_nil_of_le (show xs.length≤i by omega),List.drop_eq_nil_of_le (by rw[OJ hk];exact Nat.mul_le_mul_right _ (by omega))];rfl
 rw[this,List.append_assoc]
theorem Qj8 (vs:List Value): ∀(l:List Value) (p:Nat),p+vs.length≤l.length→Z0 l p vs=splice l p vs:=by
 induction vs with
 |nil=>intro l p h;simp[Z0,splice]
 |cons v vs ih=>
  intro l p h;rw[List.length_cons]at h;rw[Z0,ih _ _ (by rw[List.length_set];omega)];unfold splice;rw[List.length_cons,show p+1+vs.length=p+ (vs.length+1) by omega,List.drop_set_of_lt (by omega)];rw[List.take_succ_eq_append_getElem (by rw[List.length_set];omega),List.getElem_set_self,List.take_set_of_le (Nat.le_refl _)];simp
theorem QY.sets {t:TypeId} {g n c sz:Nat} (vs:List Value): ∀(w:World) (xs:List Value) (p:Nat),QY w (some ⟨g,0,none⟩) n c t sz xs→QY (w.setCells g p vs) (some ⟨g,0,none⟩) n c t sz (Z0 xs p vs):=by
 induction vs with
 |nil=>intro w xs p h;exact h
 |cons v vs ih=>intro w xs p h;exact ih _ _ _ (h.set p v)
theorem Qs3 (X:List Value) (a b:Nat) (h1:a≤b) (h2:b≤X.length):(splice X a (X.drop b)).take (a+ (X.length-b))=X.take a++X.drop b:=by
 unfold splice
 rw[List.length_drop,←List.append_assoc]
 rw[List.take_append_of_le_length (by simp;omega),List.take_of_length_le (by simp;omega)]
theorem Jd1 {α:Type} {enc:α→List Value} {k:Nat} (hk: ∀x,(enc x).length=k) (xs:List α) (i j:Nat) (hj:j≤xs.length):(QW enc xs).take (i*k)++(QW enc xs).drop (j*k)=QW enc (xs.take i++xs.drop j):=by
 rw[Qz6 hk,Qf2]
 have:(QW enc xs).drop (j*k)=QW enc (xs.drop j):=by
  have h:=Qf2 enc (xs.take j) (xs.drop j);rw[List.take_append_drop]at h;rw[h,List.drop_append_of_le_length (by rw[OJ hk,List.length_take];exact Nat.mul_le_mul_right _ (by omega)),List.drop_eq_nil_of_le (by rw[OJ hk,List.length_take];exact Nat.mul_le_mul_right _ (by omega))];rfl
 rw[this]
end Go.Proofs.YtnlngicnfegjgaaGreatDoor
