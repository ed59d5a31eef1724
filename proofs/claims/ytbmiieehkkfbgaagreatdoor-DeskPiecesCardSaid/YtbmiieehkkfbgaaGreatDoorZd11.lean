/- Contracts and walks that the law's proof needs. -/
import Derived.WalkKit
import Derived.WalkLawsBesides
import Derived.WalkSpells
import Derived.Deep.RegionLaw
import Derived.Deep.AppendLies
import Derived.Deep.DeepCutAuto
import Derived.Deep.QuietTactic
import Derived.BigQuiet
import Derived.Test.YtbmiieehkkfbgaaGreatDoorZd6
import Derived.Deep.LoopGhost
import Derived.Deep.CutBlock
import Derived.Shelf.Abstract
import Derived.Laws.EntriesVeiled
import Derived.Test.YtbmiieehkkfbgaaGreatDoorRows
import Derived.Test.YtbmiieehkkfbgaaGreatDoorZd1
import Derived.Test.YtbmiieehkkfbgaaGreatDoorZd8
set_option linter.unusedVariables false
set_option maxRecDepth 100000
set_option maxHeartbeats 8000000
namespace Go.Proofs.YtbmiieehkkfbgaaGreatDoor
open Go.RowKit
theorem Ju9 {w:World} {t:Act} {Q:Ending→World→Prop} {g:Nat} {x y v:Value} (hp:t.tmps.getD 4 undef= .pointer (some ⟨g,0,none⟩)) (h5:t.tmps.getD 5 undef=v) (hd:t.defers= [])
  (hg:QJ w g 170 #[x,y]) (h:Q (.returned (.tuple #[.agg #[x,y],v])) w):bodyPost Tryz.prog Tryz.f181 Q .ret t w:=by
 refine bodyPost_ret (v:= .tuple #[.agg #[x,y],v]) ?_ hd h
 have hl:=run_loadVar_row (P:=Tryz.prog) w g _ 170 #[x,y] (0,0) _ hg Tryz.underlying170 rfl (by kernel_rfl)
 have hp':t.tmps[4]?.getD undef= .pointer (some ⟨g,0,none⟩):=by simpa using hp
 have h5':t.tmps[5]?.getD undef=v:=by simpa using h5
 simp[results,Tryz.results181,hp',h5',asAddr,hl]
abbrev Jk9 (w:World) (x:QX):World:=(w.alloc (.cells #[.int .i64 x.id,.int .i64 x.side,.int .i64 x.kind,.int .i64 x.price,.int .i64 x.qty] 117)).alloc (.cells #[.int .i64 0,.int .i64 0] 170)
theorem Je6 (w:World) (x:QX):Below w.heap.size w (Jk9 w x):=((Below.refl _ w).alloc (Nat.le_refl _) _).alloc (by simp) _
theorem Jv0 (w:World) (x:QX):QJ (Jk9 w x) (w.heap.size+1) 170 #[.int .i64 0,.int .i64 0]:=by simpa using QJ.new (w.alloc (.cells #[.int .i64 x.id,.int .i64 x.side,.int .i64 x.kind,.int .i64 x.price,.int .i64 x.qty] 117)) 170 #[.int .i64 0,.int .i64 0]
theorem Xr0 (w:World) (x:QX):QJ (Jk9 w x) w.heap.size 117 (KV x):=QJ.alloc (QJ.new w _ _) _
theorem Xj3 (w:World) (a:Nat) (A:Option Addr) (c:Nat) (B:Option Addr) (d:Nat) (ss:List UX) (fr:List Int) (most many:Int) (x:QX) (h:KY w a A c B d ss fr most many) (hm:many=most):
  Calls Tryz.prog 181 #[.pointer (some ⟨a,0,none⟩),KJ x] w fun e w'=>
   e= .returned (.tuple #[.agg #[.int .i64 0,.int .i64 0],VZ 12])∧Below w.heap.size w w':=by
 unfold KJ
 have t1:=Z2 hm
 clear hm
 have hA:=Je6 w x
 obtain⟨q0,q1,q2,q3⟩:=(h.below hA).cells
 have HA:=QQ hA
 clear hA
 unfold Jk9 at q0 q1 q2 q3
 go_enter Tryz.func181,Tryz.ntmps181
 go_wp2_with fail
 go_quiet (fail)
 go_wp2
 try simp only[Exit.inBlock,Exit.then]
 refine Ju9 (g:=w.heap.size+1) (x:= .int .i64 0) (y:= .int .i64 0) (v:=VZ 12) (by with_unfolding_all rfl) (by with_unfolding_all rfl) (by with_unfolding_all rfl) (QJ.set_ (QJ.set_ (QJ.drewN (Jv0 w x) _) 0 _) 1 _) ?_
 exact⟨rfl,((QY HA.out _).setCell (by simp) _).setCell (by simp) _⟩
theorem Zd7 {w1:World} {a c d:Nat} {ss:List UX} {fr:List Int} {most many:Int} {gs gb i:Nat} (H:KY w1 a (some ⟨gs,0,none⟩) c (some ⟨gb,0,none⟩) d ss (fr++ [(i:Int)]) most many) (hi:i<ss.length) (m:Int) (x:QX):
  let w5:=(Xp1 ((w1.setCell ⟨a,3,none⟩ (.int .i64 m)).setCell ⟨a,1,none⟩ (.slice (some ⟨gb,0,none⟩) fr.length d)) gs (i*7) x).setCell ⟨gs,i*7+6,none⟩ (.bool true)
  KY w5 a (some ⟨gs,0,none⟩) c (some ⟨gb,0,none⟩) d (ss.set i (x,ss[i].2.1,true)) fr most m∧QK (OFp a (some ⟨gs,0,none⟩) (some ⟨gb,0,none⟩)) w1 w5:=by
 intro w5
 have u1:gs≠a:=fun e=>H.na (by rw[←e];rfl)
 have u2:gb≠a:=fun e=>H.nb (by rw[←e];rfl)
 have u3:gb≠gs:=fun e=>H.nab gs rfl (by rw[←e];rfl)
 have k12:=(QK.set_ w1 ⟨a,3,none⟩ (.int .i64 m)).trans (QK.set_ _ ⟨a,1,none⟩ (.slice (some ⟨gb,0,none⟩) fr.length d)) (fun j h=> .inl h)
 have k34:QK (fun j=>j=gs) ((w1.setCell ⟨a,3,none⟩ (.int .i64 m)).setCell ⟨a,1,none⟩ (.slice (some ⟨gb,0,none⟩) fr.length d)) w5:=(Qs9 _ gs (i*7) x).trans (QK.set_ _ ⟨gs,i*7+6,none⟩ (.bool true)) (fun j h=> .inl h)
 have hs:=(Jt6 (H.slots.keeps k12 (fun g hg e=>by cases hg;exact u1 e)) (i*7) x).set (i*7+6) (.bool true)
 have h5:(JQ Qn4 ss)[i*7+5]?=some (.int .i64 ss[i].2.1):=Qc7 Qi1 ss i hi 5 (by omega)
 have e0:((((((JQ Qn4 ss).set (i*7) (.int .i64 x.id)).set (i*7+1) (.int .i64 x.side)).set (i*7+2) (.int .i64 x.kind)).set (i*7+3) (.int .i64 x.price)).set (i*7+4) (.int .i64 x.qty)).set (i*7+6) (.bool true)=JQ Qn4 (ss.set i (x,ss[i].2.1,true)):=by
  refine Eq.trans ?_ (Jk5 ss i hi (x,ss[i].2.1,true));refine congrArg (fun l=>List.set l (i*7+6) (Value.bool true)) (Jt5 ?_).symm;rw[List.getElem?_set_ne (by omega),List.getElem?_set_ne (by omega),List.getElem?_set_ne (by omega),List.getElem?_set_ne (by omega),List.getElem?_set_ne (by omega)];exact h5
 rw[e0]at hs
 have hf:=((H.free.pop fr.length (by simp)).keeps k12 (fun g hg e=>by cases hg;exact u2 e)).keeps k34 (fun g hg e=>by cases hg;exact u3 e)
 have e1:(Qa2 (fr++ [(i:Int)])).take (fr.length*1)=Qa2 fr:=by
  unfold Qa2;rw[List.map_append];simp
 rw[e1]at hf
 refine⟨⟨?_, ?_,hf,H.na,H.nb,H.nab⟩, ?_⟩
 ·rw[List.length_set];exact QJ.keeps (QJ.set_ (QJ.set_ H.blk 3 _) 1 _) k34 (fun e=>u1 e.symm)
 ·rw[List.length_set];exact hs
 ·exact(k12.mono (fun j h=> .inl h)).trans (k34.mono (fun j h=>(.inr (.inl (by rw[h];rfl)):OFp a (some ⟨gs,0,none⟩) (some ⟨gb,0,none⟩) j))) (fun j h=> .inl h)
theorem Xr1 (w:World) (a:Nat) (A:Option Addr) (c:Nat) (B:Option Addr) (d:Nat) (ss:List UX) (fr:List Int) (i:Nat) (most many:Int) (x:QX) (h:KY w a A c B d ss (fr++ [(i:Int)]) most many) (hm:many≠most) (hi:i<ss.length) (hfr:fr.length≤2000):
  Calls Tryz.prog 181 #[.pointer (some ⟨a,0,none⟩),KJ x] w fun e w'=>
   e= .returned (.tuple #[.agg #[.int .i64 i,.int .i64 (ss[i].2.1)],VZ 0])∧Jg8 w w' a A B (ss.set i (x,ss[i].2.1,true)) fr most (RowKit.wrap64 (many+1)):=by
 unfold KJ
 have t1:=YW hm
 clear hm
 have hA:=Je6 w x
 have H0:=h.below hA
 have hbox:=Xr0 w x
 obtain⟨q0,q1,q2,q3⟩:=H0.cells
 obtain⟨gs,rfl,s0,s1,s2,s3,s4,s5,s6⟩:=H0.slot hi
 have f0:=H0.slots.frozen (i*7)
 have f1:=H0.slots.frozen (i*7+1)
 have f2:=H0.slots.frozen (i*7+2)
 have f3:=H0.slots.frozen (i*7+3)
 have f4:=H0.slots.frozen (i*7+4)
 have f6:=H0.slots.frozen (i*7+6)
 obtain⟨gb,rfl,y0⟩:=H0.free.cell (j:=fr.length) (u:= .int .i64 (i:Int)) (by simp[Qa2])
 have g1:=QJ.frozen H0.blk 1
 have g3:=QJ.frozen H0.blk 3
 have e1:(fr++ [(i:Int)]).length=fr.length+1:=by simp
 rw[e1]at q1
 obtain⟨n,hn⟩: ∃n,fr.length=n:=⟨_,rfl⟩
 rw[hn]at q1 y0
 have hcap:n+1≤d:=by
  rcases H0.free.2 with⟨hh,_⟩|⟨g',cap',cur,hv,_,_,h1,_⟩
  ·cases hh
  ·cases hv;rw[e1,hn]at h1;exact h1
 have i1:RowKit.wrap64 (n:Int)=(n:Int):=by unfold RowKit.wrap64;omega
 have u1:gs≠a:=fun e=>H0.na (by rw[←e];rfl)
 have u2:gb≠a:=fun e=>H0.nb (by rw[←e];rfl)
 have u3:gb≠gs:=fun e=>H0.nab gs rfl (by rw[←e];rfl)
 have hla:=QJ.lt h.blk
 have hls:=h.slots.lt (g:=gs) rfl
 have hlb:=h.free.lt (g:=gb) rfl
 have u4:a≠w.heap.size+1:=by omega
 have u5:gs≠w.heap.size+1:=by omega
 have u6:gb≠w.heap.size+1:=by omega
 have u7:a≠w.heap.size:=by omega
 have u8:gs≠w.heap.size:=by omega
 have u9:gb≠w.heap.size:=by omega
 have i2:(0:Int)< (n:Int)+1:=by omega
 have i3:(0:Int)≤(n:Int):=by omega
 have i4:(n:Int)≤(d:Int):=by omega
 have i5:(n:Int)< (n:Int)+1:=by omega
 have i6:(0:Int)≤(i:Int):=by omega
 have i7:(i:Int)< (ss.length:Int):=by omega
 have d1:decide ((0:Int)< (n:Int)+1)=true:=J0 i2
 have HH:=QQ H0
 have HA:=QQ hA
 have Hn:=QQ hn
 clear H0 hA h hn e1 hbox hla hls hlb
 unfold Jk9 at q0 q1 q2 q3 s0 s1 s2 s3 s4 s5 s6 f0 f1 f2 f3 f4 f6 y0 g1 g3
 go_enter Tryz.func181,Tryz.ntmps181
 go_wp2_with fail
 go_quiet (fail)
 go_wp2_with fail
 try simp only[Exit.inBlock,Exit.then]
 have HD:KY ((Jk9 w x).drewN nq) a (some ⟨gs,0,none⟩) c (some ⟨gb,0,none⟩) d ss (fr++ [(i:Int)]) most many:=⟨HH.out.blk,HH.out.slots,HH.out.free,HH.out.na,HH.out.nb,HH.out.nab⟩
 obtain⟨hA5,hK5⟩:=Zd7 HD hi (RowKit.wrap64 (many+1)) x
 rw[Hn.out]at hA5 hK5
 have hb0:=QY HA.out nq
 have hR:QJ ((Jk9 w x).drewN nq) (w.heap.size+1) 170 #[.int .i64 0,.int .i64 0]:=QJ.drewN (Jv0 w x) _
 have hRn: ∀j,OFp a (some ⟨gs,0,none⟩) (some ⟨gb,0,none⟩) j→j≠w.heap.size+1:=by
  rintro j (rfl|h|h)
  ·exact u4
  ·cases h;exact u5
  ·cases h;exact u6
 have hR5:=QJ.keeps hR hK5 (fun h=>hRn _ h rfl)
 have hks:=(QK.set_ ((Xp1 ((((Jk9 w x).drewN nq).setCell ⟨a,3,none⟩ (.int .i64 (RowKit.wrap64 (many+1)))).setCell ⟨a,1,none⟩ (.slice (some ⟨gb,0,none⟩) n d)) gs (i*7) x).setCell ⟨gs,i*7+6,none⟩ (.bool true)) ⟨w.heap.size+1,0,none⟩ (.int .i64 (i:Int))).trans (QK.set_ _ ⟨w.heap.size+1,1,none⟩ (.int .i64 ss[i].2.1)) (fun j h=> .inl h)
 refine Ju9 (g:=w.heap.size+1) (x:= .int .i64 (i:Int)) (y:= .int .i64 ss[i].2.1) (v:=VZ 0) (by with_unfolding_all rfl) (by with_unfolding_all rfl) (by with_unfolding_all rfl) (QJ.set_ (QJ.set_ hR5 0 _) 1 _) ?_
 refine⟨rfl,some ⟨gs,0,none⟩,c,some ⟨gb,0,none⟩,d,hA5.keeps hks (fun j hj=>hRn j hj), ?_,fun j hj=> .inl hj⟩
 exact((QK.of_below hb0 _).trans hK5 (fun j h=> .inl h)).trans hks (fun j h=> .inr (by have:j=w.heap.size+1:=h;omega))
theorem Xz7:(Tryz.prog.info? 228).map (fun i=>(i.zero,i.size,i.bytes))=some (some (.agg #[.int .i64 0,.int .i64 0,.int .i64 0,.int .i64 0,.int .i64 0,.int .i64 0,.bool false]),7,56):=by kernel_rfl
theorem Ku8 {w2 w3:World} {a c d:Nat} {A B:Option Addr} {ss:List UX} {fr:List Int} {most many:Int} (H:KY w2 a A c B d ss fr most many) {o:Obj} {gg cap:Nat} {x:QX}
  (hown:w3.ownsRow 0 228 7 (.slice (some ⟨gg,0,none⟩) (ss.length+1) cap) (ss.length+1) (JQ Qn4 ss++Qn4 (x,0,true))) (hgrow:((w2.alloc o).drew).grownBy w3 (Value.slice A ss.length c).ownBlock)
  (hat:(Value.slice A ss.length c).ownBlock=some gg∨gg=w2.heap.size+1):
  let w5:=w3.setCell ⟨a,0,none⟩ (.slice (some ⟨gg,0,none⟩) (ss.length+1) cap)
  KY w5 a (some ⟨gg,0,none⟩) cap B d (ss++ [(x,0,true)]) fr most many∧QK (OFp a A B) w2 w5∧(∀i,OFp a (some ⟨gg,0,none⟩) B i→OFp a A B i∨w2.heap.size≤i):=by
 intro w5
 rw[JW]at hgrow hat
 have hal:=QJ.lt H.blk
 have hK:=OV hgrow
 have hga:gg≠a:=by
  rcases hat with h|h
  ·intro e;exact H.na (by rw[h,e])
  ·omega
 have hgB: ∀g,QZ B=some g→g≠gg:=by
  intro g hg e;rcases hat with h|h
  ·exact H.nab gg h (by rw[hg,e])
  ·have:=H.free.lt hg;omega
 have b3:=QJ.keeps H.blk hK H.na
 have f3:=H.free.keeps hK (fun g hg e=>H.nab g e hg)
 have s3:QW w3 (some ⟨gg,0,none⟩) (ss.length+1) cap 228 7 (JQ Qn4 ss++Qn4 (x,0,true)):=hown
 have k4:QK (fun i=>i=a) w3 w5:=QK.set_ w3 ⟨a,0,none⟩ (.slice (some ⟨gg,0,none⟩) (ss.length+1) cap)
 have e1:(ss++ [(x,(0:Int),true)]).length=ss.length+1:=by simp
 have e2:JQ Qn4 (ss++ [(x,0,true)])=JQ Qn4 ss++Qn4 (x,0,true):=Y7 _ _ _
 refine⟨⟨?_, ?_, ?_, ?_,H.nb, ?_⟩, ?_, ?_⟩
 ·rw[e1];exact QJ.set_ b3 0 _
 ·rw[e1,e2];exact s3.keeps k4 (fun g hg e=>by cases hg;exact hga e)
 ·exact f3.keeps k4 (fun g hg e=>H.nb (by rw[hg,e]))
 ·intro e;cases e;exact hga rfl
 ·intro g hg e;cases hg;exact hgB _ e rfl
 ·exact(hK.mono (fun i h=>(.inr (.inl h):OFp a A B i))).trans k4 (fun i h=> .inl (.inl h))
 ·rintro i (h|h|h)
  ·exact .inl (.inl h)
  ·cases h
   rcases hat with h|h
   ·exact .inl (.inr (.inl h))
   ·exact .inr (by show _≤gg;omega)
  ·exact .inl (.inr (.inr h))
theorem Xr2 (w:World) (a:Nat) (A:Option Addr) (c:Nat) (B:Option Addr) (d:Nat) (ss:List UX) (most many:Int) (x:QX) (h:KY w a A c B d ss [] most many) (hm:many≠most) (hss:ss.length≤2000):
  Calls Tryz.prog 181 #[.pointer (some ⟨a,0,none⟩),KJ x] w fun e w'=>
   e= .returned (.tuple #[.agg #[.int .i64 ss.length,.int .i64 0],VZ 0])∧Jg8 w w' a A B (ss++ [(x,0,true)]) [] most (RowKit.wrap64 (many+1)):=by
 unfold KJ
 have t1:=YW hm
 clear hm
 have hA:=Je6 w x
 have H0:=h.below hA
 obtain⟨q0,q1,q2,q3⟩:=H0.cells
 have g3:=QJ.frozen H0.blk 3
 have Hfp:=QQ (fun i (hi:OFp a A B i)=>h.fp hi)
 have hla:=QJ.lt h.blk
 have u4:a≠w.heap.size+1:=by omega
 have u7:a≠w.heap.size:=by omega
 have HH:=QQ H0
 have HA:=QQ hA
 clear H0 hA h hla
 obtain⟨n,hn⟩: ∃n,ss.length=n:=⟨_,rfl⟩
 have Hn:=QQ hn
 unfold Jk9 at q0 q1 q2 q3 g3
 go_enter Tryz.func181,Tryz.ntmps181
 go_wp2_with fail
 go_quiet (fail)
 go_upto_region 11 with fail
 have HD:KY ((Jk9 w x).drewN nq) a A c B d ss [] most many:=⟨HH.out.blk,HH.out.slots,HH.out.free,HH.out.na,HH.out.nb,HH.out.nab⟩
 have hb0:=QY HA.out nq
 have hR:QJ ((Jk9 w x).drewN nq) (w.heap.size+1) 170 #[.int .i64 0,.int .i64 0]:=QJ.drewN (Jv0 w x) _
 have hX:QJ ((Jk9 w x).drewN nq) w.heap.size 117 (KV x):=QJ.drewN (Xr0 w x) _
 unfold Jk9 at HD hb0 hR hX
 generalize World.drewN ((w.alloc (.cells #[.int .i64 x.id,.int .i64 x.side,.int .i64 x.kind,.int .i64 x.price,.int .i64 x.qty] 117)).alloc (.cells #[.int .i64 0,.int .i64 0] 170)) nq=w1 at HD hb0 hR hX⊢
 have hk2:=QK.set_ w1 ⟨a,3,none⟩ (.int .i64 (RowKit.wrap64 (many+1)))
 have HD2:KY (w1.setCell ⟨a,3,none⟩ (.int .i64 (RowKit.wrap64 (many+1)))) a A c B d ss [] most (RowKit.wrap64 (many+1)):=
  ⟨QJ.set_ HD.blk 3 _,HD.slots.keeps hk2 (fun g hg e=>HD.na (by rw[hg,e])),HD.free.keeps hk2 (fun g hg e=>HD.nb (by rw[hg,e])),HD.na,HD.nb,HD.nab⟩
 have hR2:=QJ.keeps hR hk2 (fun e=>u4 e.symm)
 have hX2:=QJ.keeps hX hk2 (fun e=>u7 e.symm)
 generalize hW:w1.setCell ⟨a,3,none⟩ (.int .i64 (RowKit.wrap64 (many+1)))=w2 at hk2 HD2 hR2 hX2⊢
 clear hW q0 q1 q2 q3 g3 HD hR hX
 have hal:=QJ.lt HD2.blk
 have q0:=HD2.cells.1
 rw[hn]at q0
 obtain⟨bx0,bx1,bx2,bx3,bx4⟩:=JV hX2
 obtain⟨i0,hi0,hz0,hz1,hz2⟩:=info_parts Xz7
 have hna:some a≠(Value.slice A n c).ownBlock:=by rw[JW];exact HD2.na.symm
 have hnR:some (w.heap.size+1)≠(Value.slice A n c).ownBlock:=by
  rw[JW];intro e;have:=Hfp.out _ (.inr (.inl e.symm));omega
 have hs0:=HD2.slots
 rw[hn]at hs0
 have HS:=QQ (show w2.ownsRow 0 228 7 (.slice A n c) n (JQ Qn4 ss)from hs0)
 have HA2:=QQ HD2
 have HR2:=QQ hR2
 have HK2:=QQ hk2
 have hss':n≤2000:=by omega
 have i1:RowKit.wrap64 (n:Int)=(n:Int):=by unfold RowKit.wrap64;omega
 clear HD2 hs0 hn hR2 hk2 hss hX2
 go_region_law ((refine step_append_lies _ (by rfl) _ _ _ (by rfl) 0 228 i0 _ 7 56 Tryz.underlying252 hi0 hz0 hz1 hz2 rfl (by omega) (.slice A n c) n _ (by rfl) ((World.ownsRow.alloc HS.out _).drew) ⟨w2.heap.size,0,none⟩ 1 1 (Qn4 (x,0,true)) (by rfl) (by rfl) (World.news_of_block (cs:= #[.int .i64 x.id,.int .i64 x.side,.int .i64 x.kind,.int .i64 x.price,.int .i64 x.qty,.int .i64 0,.bool true]) (t:=228) (fr:=(0,0)) (heap_alloc_new w2 _)) (Kt9 _) (by omega) (by unfold maxLen;omega) (by omega) (by simp) (w2.heap.size+1) (by simp) ?_;intro gg cap w3 hown hgrow hat hlt;have hg2:=QQ hgrow;have b3:=QJ.keeps HA2.out.blk (OV hgrow) (fun e=>hna e.symm);have r0:w3.cell? ⟨a,0,none⟩=some (.slice A n c):=(by rw[QJ.cell b3];exact congrArg (fun k=>some (Value.slice A k c)) Hn.out);have rf0:=QJ.frozen b3 0;have R3:=QJ.keeps HR2.out (OV hgrow) (fun e=>hnR e.symm);have rc0:w3.cell? ⟨w.heap.size+1,0,none⟩=some (.int .i64 0):=(by rw[QJ.cell R3];rfl);have rc1:w3.cell? ⟨w.heap.size+1,1,none⟩=some (.int .i64 0):=(by rw[QJ.cell R3];rfl);have qf0:=QJ.frozen R3 0;have qf1:=QJ.frozen R3 1;have HR3:=QQ R3;clear b3 R3 hgrow))
 all_goals go_wp2_with fail
 all_goals try simp only[Exit.inBlock,Exit.then]
 all_goals
  obtain rfl:ss.length=n:=Hn.out;obtain⟨hA5,hK5,hF5⟩:=Ku8 HA2.out hown hg2.out hat;have hRl:=QJ.lt HR2.out;have hs1:=hb0.size;have hs2:=HK2.out.size;have R5:=QJ.far HR3.out (p:=⟨a,0,none⟩) (Ne.symm u4) (.slice (some ⟨gg,0,none⟩) (ss.length+1) cap);have hks:=(QK.set_ (w3.setCell ⟨a,0,none⟩ (.slice (some ⟨gg,0,none⟩) (ss.length+1) cap)) ⟨w.heap.size+1,0,none⟩ (.int .i64 (ss.length:Int))).trans (QK.set_ _ ⟨w.heap.size+1,1,none⟩ (.int .i64 0)) (fun j h=> .inl h);refine Ju9 (g:=w.heap.size+1) (x:= .int .i64 (ss.length:Int)) (y:= .int .i64 0) (v:=VZ 0) (by with_unfolding_all rfl) (by with_unfolding_all rfl) (by with_unfolding_all rfl) (QJ.set_ (QJ.set_ R5 0 _) 1 _) ?_;refine⟨rfl,some ⟨gg,0,none⟩,cap,B,d,hA5.keeps hks ?_, ?_, ?_⟩
  ·intro j hj e
   have e':j=w.heap.size+1:=e;rcases hF5 j hj with h|h
   ·have:=Hfp.out j h
    omega
   ·omega
  ·exact(((QK.of_below hb0 (OFp a A B)).trans HK2.out (fun j h=> .inl (.inl h))).trans hK5 (fun j h=> .inl h)).trans hks (fun j h=> .inr (by have:j=w.heap.size+1:=h;omega))
  ·intro j hj
   rcases hF5 j hj with h|h
   ·exact .inl h
   ·exact .inr (by omega)
def Ku9 (h:Int×Int):Value:= .agg #[.int .i64 h.1,.int .i64 h.2]
section
variable {w:World} {A:Option Addr} {len:Nat} {ps:List (Int×Int)}
theorem Zj3 {b off:Nat} (h:ZV w V9 2 (some ⟨b,off,none⟩) len ps) {i:Nat} (hi:i<ps.length):
  w.cell? ⟨b,off+i*2,none⟩=some (.int .i64 ps[i].1)∧w.cell? ⟨b,off+i*2+1,none⟩=some (.int .i64 ps[i].2):=⟨h.at_ hi (j:=0) rfl,h.at_ hi (j:=1) rfl⟩
theorem Ja9 {g n c:Nat} {t:TypeId} (h:QW w (some ⟨g,0,none⟩) n c t 2 (JQ V9 ps)) {i:Nat} (hi:i<ps.length):
  w.cell? ⟨g,i*2,none⟩=some (.int .i64 ps[i].1)∧w.cell? ⟨g,i*2+1,none⟩=some (.int .i64 ps[i].2):=by
 obtain⟨g',hg,hc⟩:=h.elem X8 (by omega) hi
 cases hg
 exact⟨hc 0 _ rfl,hc 1 _ rfl⟩
end
theorem Jh5 (h:Int×Int): ∀u∈V9 h,u.oneCell'=true:=by
 intro u hu
 simp[V9]at hu
 rcases hu with rfl|rfl<;>rfl
def Kv0 (w:World) (S:Nat→Prop) (g:FuncId) (lb:Array Value) (F:(Int×Int)→Bool):Prop:=
 ∀W p,QK S w W→Calls Tryz.prog g (#[Ku9 p]++lb) W fun e w'=>e= .returned (.bool (F p))∧Below W.heap.size W w'
theorem Xz8 (g:FuncId) (lb:Array Value) (F:(Int×Int)→Bool) (eg: ∀args w,(callFunc g args).run Tryz.prog w= .ok (.enter g args) w) (A:Option Addr) (n c:Nat) (ps:List (Int×Int)) (w:World) (S:Nat→Prop)
  (hp:Kv0 w S g lb F) (h:ZV w V9 2 A n ps) (hm:n≤1000000):
  Calls Tryz.prog 184 #[.slice A n c,.func (.func g) #[] lb] w fun e w'=>Below w.heap.size w w'∧
   (((∀i (hi:i<ps.length),F ps[i]=false)∧e= .returned (.int .i64 (-1)))∨ ∃(k:Nat) (hk:k<ps.length),F ps[k]=true∧(∀i (hi:i<ps.length),i<k→F ps[i]=false)∧e= .returned (.int .i64 k)):=by
 have hl:=h.1
 have HP:=QQ hp
 have HL:=QQ hl
 have HH:=QQ h
 clear hp hl h
 go_enter Tryz.func184,Tryz.ntmps184
 go_wp2
 go_loopg [5,8] n (fun gg _ s8 wr=> ∃kk:Nat,kk≤n∧gg=n-kk∧s8= .int .i64 kk∧Below w.heap.size w wr∧Hid (∀i (hi:i<ps.length),i<kk→F ps[i]=false))
 case atStart=>exact⟨0,Nat.zero_le _,rfl,rfl,Below.refl _ w,QQ fun i _ hi=>absurd hi (Nat.not_lt_zero _)⟩
 case round=>
  obtain⟨kk,hkk,rfl,rfl,hB,HA⟩:=hrel
  by_cases hlt:kk<n
  ·obtain⟨b,off,rfl,_,_⟩:=HH.out.2 (by omega)
   have hkl:kk<ps.length:=by have:=HL.out;omega
   obtain⟨x0,x1⟩:=Zj3 (HH.out.below hB (Nat.le_refl _)) hkl;have hcall:=HP.out wr ps[kk] (QK.of_below hB _);have hltz:(kk:Int)< (n:Int):=by omega
   obtain⟨p,E⟩: ∃p,Hid (ps[kk]=p):=⟨_,QQ rfl⟩;rw[E.out]at x0 x1 hcall;obtain⟨p0,p1⟩:=p;unfold Ku9 at hcall;dsimp only at x0 x1 hcall
   cases hq:F (p0,p1)with
   |true=>
    rw[hq]at hcall;have HQ:=QQ hq;clear hq;go_wp2_with (go_at_fn g;refine hcall.mono ?_;rintro e w' ⟨rfl,hb'⟩)
    go_ret;exact⟨hB.trans (hb'.mono hB.size),.inr ⟨kk,hkl,by rw[E.out];exact HQ.out,HA.out,rfl⟩⟩
   |false=>
    rw[hq]at hcall;have HQ:=QQ hq;clear hq;go_wp2_with (go_at_fn g;refine hcall.mono ?_;rintro e w' ⟨rfl,hb'⟩)
    go_roundg (n- (kk+1))
    case measure=>omega
    case rel=>
     refine⟨kk+1,by omega,rfl,by go_num,hB.trans (hb'.mono hB.size),QQ fun i hi hik=> ?_⟩
     by_cases e:i=kk
     ·subst e
      rw[E.out];exact HQ.out
     ·exact HA.out i hi (by omega)
  ·have hltz: ¬(kk:Int)< (n:Int):=by omega
   obtain rfl:kk=n:=by omega
   go_wp2;go_ret;exact⟨hB,.inl ⟨fun i hi=>HA.out i hi (by have:=HL.out;omega),rfl⟩⟩
structure Qo2 (F:(Int×Int)→Bool) (ps cs:List (Int×Int)) (i j:Nat):Prop where
 len:cs.length=ps.length
 lt:i<j
 jn:j≤ps.length
 done:cs.take i=(ps.take j).filter (fun p=> !F p)
 rest: ∀m (h:m<ps.length) (h':m<cs.length),j≤m→cs[m]=ps[m]
theorem Qo2.skip {F:(Int×Int)→Bool} {ps cs:List (Int×Int)} {i j:Nat} (h:Qo2 F ps cs i j) (hj:j<ps.length) (hF:F ps[j]=true):Qo2 F ps cs i (j+1):=
 ⟨h.len,by have:=h.lt;omega,hj,by rw[List.take_succ_eq_append_getElem hj,List.filter_append,h.done];simp[hF],fun m hm hm' hle=>h.rest m hm hm' (by omega)⟩
theorem Qo2.keep {F:(Int×Int)→Bool} {ps cs:List (Int×Int)} {i j:Nat} (h:Qo2 F ps cs i j) (hj:j<ps.length) (hF:F ps[j]=false):Qo2 F ps (cs.set i ps[j]) (i+1) (j+1):=by
 have hlt:=h.lt
 have hlen:=h.len
 refine⟨by rw[List.length_set];exact h.len,by omega,hj, ?_,fun m hm hm' hle=> ?_⟩
 ·rw[List.take_succ_eq_append_getElem hj,List.filter_append,←h.done,List.take_succ_eq_append_getElem (by rw[List.length_set];omega),List.getElem_set_self,List.take_set_of_le (Nat.le_refl _)]
  simp[hF]
 ·rw[List.getElem_set_ne (by omega)]
  exact h.rest m hm (by simpa using hm') (by omega)
theorem Kl3 {w:World} {g n c:Nat} {t:TypeId} {cs:List (Int×Int)} (h:QW w (some ⟨g,0,none⟩) n c t 2 (JQ V9 cs)) {i:Nat} (hi:i<cs.length) (p:(Int×Int)):
  QW ((w.setCell ⟨g,i*2,none⟩ (.int .i64 p.1)).setCell ⟨g,i*2+1,none⟩ (.int .i64 p.2)) (some ⟨g,0,none⟩) n c t 2 (JQ V9 (cs.set i p)):=by
 rw[←Qq3 X8 p cs i hi]
 exact(h.set _ _).set _ _
theorem Jb0 (w:World) (g a b:Nat) (x y:Value):QK (fun i=>i=g) w ((w.setCell ⟨g,a,none⟩ x).setCell ⟨g,b,none⟩ y):=
 (QK.set_ w ⟨g,a,none⟩ x).trans (QK.set_ _ ⟨g,b,none⟩ y) (fun i h=> .inl h)
theorem Xr3 (g:FuncId) (lb:Array Value) (F:(Int×Int)→Bool) (eg: ∀args w,(callFunc g args).run Tryz.prog w= .ok (.enter g args) w) (A:Option Addr) (n c:Nat) (ps:List (Int×Int)) (w:World) (S:Nat→Prop)
  (hp:Kv0 w S g lb F) (h:QW w A n c 170 2 (JQ V9 ps)) (hS: ∀g,QZ A=some g→S g) (hm:n≤1000000):
  Calls Tryz.prog 149 #[.slice A n c,.func (.func g) #[] lb] w fun e w'=>QK S w w'∧
   ∃m,e= .returned (.slice A m c)∧QW w' A m c 170 2 (JQ V9 (ps.filter fun p=> !F p)):=by
 have HP:=QQ hp
 have HH:=QQ h
 have HL:=QQ (V0 X8 (by omega) h)
 have HE:=QQ (ZV.of_row X8 (by omega) h)
 clear hp h
 go_enter Tryz.func149,Tryz.ntmps149
 go_wp2_with fail
 refine(Xz8 g lb F eg A n c ps w S HP.out HE.out hm).mono ?_
 rintro e w1 ⟨hB,⟨hno,rfl⟩|⟨k,hk,hy,hbef,rfl⟩⟩
 ·have HX:Hid (ps.filter (fun p=> !F p)=ps):=QQ (by
   rw[List.filter_eq_self];intro p hp;obtain⟨i,hi,rfl⟩:=List.mem_iff_getElem.1 hp;rw[hno i hi];rfl)
  clear hno;go_wp2;go_ret;exact⟨QK.of_below hB _,n,rfl,by rw[HX.out];exact HH.out.below hB⟩
 ·obtain⟨gr,rfl⟩: ∃gr,A=some ⟨gr,0,none⟩:=by obtain⟨gr,hA,_⟩:=HH.out.elem X8 (by omega) hk;exact⟨gr,hA⟩
  have hSg:=hS gr rfl;have hn:=HL.out;have hneg:((k:Int) == -1)=false:=YW (by omega);have HI0:Qo2 F ps ps k (k+1):=⟨rfl,by omega,by omega,by
   rw[List.take_succ_eq_append_getElem hk,List.filter_append,List.filter_eq_self.2]
   ·simp[hy]
   ·intro p hp
    obtain⟨i,hi,rfl⟩:=List.mem_iff_getElem.1 hp;have hi':i<k:=by simp at hi;omega
    rw[List.getElem_take,hbef i (by omega) hi'];rfl,fun m _ _ _=>rfl⟩
  have HI:=QQ HI0;have HR:=QQ (HH.out.below hB);clear hbef hy HI0;have HN1:=QQ hn;have hk6:k<1000000:=by omega
  clear hn hk;go_wp2_with fail
  go_loopg [5,6,7] n (fun gg s5 s6 _ wr=> ∃(i j:Nat) (cs:List (Int×Int)),s5= .int .i64 i∧s6= .int .i64 j∧j≤n∧n-j≤gg∧QK S w wr∧QW wr (some ⟨gr,0,none⟩) n c 170 2 (JQ V9 cs)∧Hid (Qo2 F ps cs i j))
  case atStart=>exact⟨k,k+1,ps,rfl,by go_num,by have:=HI.out.jn;have:=HN1.out;omega,by omega,QK.of_below hB _,HR.out,HI⟩
  case round=>
   obtain⟨i,j,cs,rfl,rfl,hj,hg,hK,hR,HJ⟩:=hrel;have hij:=HJ.out.lt;have hcl:cs.length=n:=by have:=HJ.out.len;have:=HN1.out;omega
   have HC:=QQ hcl
   by_cases hlt:j<n
   ·have hjl:j<cs.length:=by omega
    have hjp:j<ps.length:=by have:=HN1.out;omega
    obtain⟨x0,x1⟩:=Ja9 hR hjl;have hltz:(j:Int)< (n:Int):=by omega
    have er:=HJ.out.rest j hjp hjl (Nat.le_refl _);obtain⟨p,E⟩: ∃p,Hid (ps[j]=p):=⟨_,QQ rfl⟩;rw[er,E.out]at x0 x1;obtain⟨p0,p1⟩:=p;dsimp only at x0 x1;have hA1:Below wr.heap.size wr (wr.alloc (.cells #[.int .i64 p0,.int .i64 p1] 170)):=(Below.refl _ _).alloc (Nat.le_refl _) _;have HA1:=QQ hA1;have hcall:=HP.out _ (p0,p1) (hK.then_ hA1);have HR1:=QQ (hR.below hA1);have HB1:=QQ (QJ.new wr 170 #[.int .i64 p0,.int .i64 p1]);have HK:=QQ hK;have hgr:=hR.lt (g:=gr) rfl;unfold Ku9 at hcall;dsimp only at hcall;clear hR er hcl hA1 hK
    cases hq:F (p0,p1)with
    |true=>
     rw[hq]at hcall;have HQ:=QQ hq;clear hq;go_wp2_with (go_at_fn g;refine hcall.mono ?_;rintro e w' ⟨rfl,hb'⟩)
     go_roundg (n- (j+1))
     case measure=>omega
     case rel=>exact⟨i,j+1,cs,rfl,by go_num,by omega,by omega,HK.out.then_ (HA1.out.trans (hb'.mono (by simp))),HR1.out.below hb',QQ (HJ.out.skip hjp (by rw[E.out];exact HQ.out))⟩
    |false=>
     rw[hq]at hcall;have HQ:=QQ hq;clear hq;go_wp2_with fail
     refine hcall.mono ?_;rintro e w2 ⟨rfl,hb'⟩;have hR2:=HR1.out.below hb';have hB2:=QJ.keep HB1.out hb';have z0:w2.cell? ⟨wr.heap.size,0,none⟩=some (.int .i64 p0):=by rw[QJ.cell hB2];rfl
     have z1:w2.cell? ⟨wr.heap.size,1,none⟩=some (.int .i64 p1):=by rw[QJ.cell hB2];rfl
     have hil:i<cs.length:=by have:=HC.out;omega
     have hi6:(i:Int)< (n:Int):=by omega
     have hi7:(0:Int)≤(i:Int):=by omega
     obtain⟨y0,y1⟩:=Ja9 hR2 hil;have f0:=hR2.frozen (i*2);have f1:=hR2.frozen (i*2+1);generalize cs[i].1=o0 at y0;generalize cs[i].2=o1 at y1;have HR2:=QQ hR2;clear x0 x1 hR2 hB2;go_wp2_with fail
     go_roundg (n- (j+1))
     case measure=>omega
     case rel=>
      refine⟨i+1,j+1,cs.set i (p0,p1),by go_num,by go_num,by omega,by omega, ?_,Kl3 HR2.out (by have:=HC.out;omega) (p0,p1),QQ ?_⟩
      ·exact((HK.out.then_ HA1.out).then_ hb').trans (Jb0 _ _ _ _ _ _) (fun x hx=> .inl (by subst hx;exact hSg))
      ·have:=HJ.out.keep hjp (by rw[E.out];exact HQ.out)
       rw[E.out]at this;exact this
   ·obtain rfl:j=n:=by omega
    have hltz: ¬(j:Int)< (j:Int):=by omega
    have hic:i<j:=hij;obtain⟨vs,hvl,hclr⟩:=Qc8 (P:=Tryz.prog) wr 176 170 0 (.agg #[.int .i64 0,.int .i64 0]) 2 Tryz.underlying176 (fun _=>by kernel_rfl) rfl (by omega) (by intro v hv;simp[Value.cells]at hv;subst hv;rfl) gr (i*2) (j-i) (c-i) (by omega)
     (fun x hx=>hR.some_ (by omega)) (fun x hx=>hR.frozen _)
    have HR3:=QQ hR;obtain⟨hc1,hc2⟩:=hR.cap;have hc3:i<c:=by omega
    have hc4: ¬c=i:=by omega
    have hi7:(0:Int)≤(i:Int):=by omega
    have hi8:(i:Int)≤(j:Int):=by omega
    have hi9:(j:Int)≤(c:Int):=by omega
    clear hcl hR;go_wp2_with fail
    go_ret;refine⟨hK.trans (QK.setCells _ _ _ _) (fun x hx=> .inl (by subst hx;exact hSg)),i,rfl, ?_⟩;have hd:=HJ.out.done;rw[List.take_of_length_le (l:=ps) (by rw[HN1.out];exact Nat.le_refl _)]at hd;rw[←hd,←Ja4 X8];exact QW.sets_past _ _ _ (HR3.out.pop i (by omega)) (Nat.le_refl _)
def isH (h p:Int×Int):Bool:=p.1 ==h.1 &&p.2 ==h.2
theorem Zj4 {h p:Int×Int}:isH h p=true↔p=h:=by
 unfold isH
 obtain⟨a,b⟩:=h
 obtain⟨c,d⟩:=p
 simp
theorem Xj4 (p:Int×Int) (pb:Nat) (h:Int×Int) (w:World) (h0:w.cell? ⟨pb,0,none⟩=some (.int .i64 h.1)) (h1:w.cell? ⟨pb,1,none⟩=some (.int .i64 h.2)):
  Calls Tryz.prog 150 #[Ku9 p,.pointer (some ⟨pb,0,none⟩)] w fun e w'=>e= .returned (.bool (isH h p))∧Below w.heap.size w w':=by
 obtain⟨a,b⟩:=p
 obtain⟨c,d⟩:=h
 unfold Ku9
 dsimp only at*
 have hg:=World.block_lt_of_cell? w _ h0
 have z0:=(World.cell?_alloc_lt w (.cells #[.int .i64 a,.int .i64 b] 170) ⟨pb,0,none⟩ hg).trans h0
 have z1:=(World.cell?_alloc_lt w (.cells #[.int .i64 a,.int .i64 b] 170) ⟨pb,1,none⟩ hg).trans h1
 have HE:Hid (isH (c,d) (a,b)=((a ==c) && (b ==d))):=QQ rfl
 go_enter Tryz.func150,Tryz.ntmps150
 go_wp2
 all_goals
  go_ret;exact⟨Q5 (by simp[isH, *]),(Below.refl _ _).alloc (Nat.le_refl _) _⟩
theorem Jh6 (w:World) (A:Option Addr) (n c:Nat) (hs:List (Int×Int)) (pb:Nat) (h:Int×Int) (hR:QW w A n c 170 2 (JQ V9 hs)) (hm:n≤1000000)
  (hne:QZ A≠some pb) (h0:w.cell? ⟨pb,0,none⟩=some (.int .i64 h.1)) (h1:w.cell? ⟨pb,1,none⟩=some (.int .i64 h.2)):
  Calls Tryz.prog 148 #[.slice A n c,.pointer (some ⟨pb,0,none⟩)] w fun e w'=>QK (fun i=>QZ A=some i) w w'∧
   e= .returned (.slice A (hs.filter fun p=> !isH h p).length c)∧QW w' A (hs.filter fun p=> !isH h p).length c 170 2 (JQ V9 (hs.filter fun p=> !isH h p)):=by
 have eg:=Go.Proofs.enters_of Tryz.func150 (by kernel_rfl) rfl
 have hg:=World.block_lt_of_cell? w _ h0
 have hp:Kv0 w (fun i=>QZ A=some i) 150 #[.pointer (some ⟨pb,0,none⟩)] (isH h):=fun W p hK=>
  Xj4 p pb h W ((hK.cell (p:=⟨pb,0,none⟩) hg hne).trans h0) ((hK.cell (p:=⟨pb,1,none⟩) hg hne).trans h1)
 have hmk: ∀w:World,(Instr.makeFunc (.func 150) #[] #[.pointer (some ⟨pb,0,none⟩)]).run Tryz.prog w= .ok (.func (.func 150) #[] #[.pointer (some ⟨pb,0,none⟩)]) w:=fun _=>rfl
 have HR:=QQ hR
 have HP:=QQ hp
 clear hR hp h0 h1
 go_enter Tryz.func148,Tryz.ntmps148
 go_wp2_with fail
 refine(Xr3 _ _ (isH h) eg A n c hs w _ HP.out HR.out (fun _ e=>e) hm).mono ?_
 rintro e w1 ⟨hK,m,rfl,hR1⟩
 have hl:=V0 X8 (by omega) hR1
 have HL:=QQ hl
 have HK:=QQ hK
 have HR1:=QQ hR1
 clear hl hK hR1
 go_wp2
 go_ret
 refine⟨HK.out,by rw[HL.out];rfl, ?_⟩
 rw[HL.out]
 exact HR1.out
end Go.Proofs.YtbmiieehkkfbgaaGreatDoor
