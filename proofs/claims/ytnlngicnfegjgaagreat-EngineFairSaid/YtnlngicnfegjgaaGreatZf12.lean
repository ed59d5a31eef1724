/- Contracts and walks that the law's proof needs. -/
import Derived.WalkKit
import Derived.WalkLawsBesides
import Derived.WalkSpells
import Derived.Deep.RegionLaw
import Derived.Deep.AppendLies
import Derived.Deep.DeepCutAuto
import Derived.Deep.QuietTactic
import Derived.BigQuiet
import Derived.Test.YtnlngicnfegjgaaGreatZf7
set_option linter.unusedVariables false
set_option maxRecDepth 100000
set_option maxHeartbeats 8000000
namespace Go.Proofs.YtnlngicnfegjgaaGreat
open Go.RowKit
theorem Jr5 {w:World} {t:Act} {Q:Ending→World→Prop} {g:Nat} {x y v:Value} (hp:t.tmps.getD 4 undef= .pointer (some ⟨g,0,none⟩)) (h5:t.tmps.getD 5 undef=v) (hd:t.defers= [])
  (hg:QJ w g 122 #[x,y]) (h:Q (.returned (.tuple #[.agg #[x,y],v])) w):bodyPost Tryz.prog Tryz.f75 Q .ret t w:=by
 refine bodyPost_ret (v:= .tuple #[.agg #[x,y],v]) ?_ hd h
 have hl:=run_loadVar_row (P:=Tryz.prog) w g _ 122 #[x,y] (0,0) _ hg Tryz.underlying122 rfl (by kernel_rfl)
 have hp':t.tmps[4]?.getD undef= .pointer (some ⟨g,0,none⟩):=by simpa using hp
 have h5':t.tmps[5]?.getD undef=v:=by simpa using h5
 simp[results,Tryz.results75,hp',h5',asAddr,hl]
abbrev Jj0 (w:World) (x:QX):World:=(w.alloc (.cells #[.int .i64 x.id,.int .i64 x.side,.int .i64 x.kind,.int .i64 x.price,.int .i64 x.qty] 29)).alloc (.cells #[.int .i64 0,.int .i64 0] 122)
theorem Jc2 (w:World) (x:QX):Below w.heap.size w (Jj0 w x):=((Below.refl _ w).alloc (Nat.le_refl _) _).alloc (by simp) _
theorem Jr6 (w:World) (x:QX):QJ (Jj0 w x) (w.heap.size+1) 122 #[.int .i64 0,.int .i64 0]:=by simpa using QJ.new (w.alloc (.cells #[.int .i64 x.id,.int .i64 x.side,.int .i64 x.kind,.int .i64 x.price,.int .i64 x.qty] 29)) 122 #[.int .i64 0,.int .i64 0]
theorem Xl8 (w:World) (x:QX):QJ (Jj0 w x) w.heap.size 29 (KZ x):=QJ.alloc (QJ.new w _ _) _
theorem Xf3 (w:World) (a:Nat) (A:Option Addr) (c:Nat) (B:Option Addr) (d:Nat) (ss:List UQ) (fr:List Int) (most many:Int) (x:QX) (h:KW w a A c B d ss fr most many) (hm:many=most):
  Calls Tryz.prog 75 #[.pointer (some ⟨a,0,none⟩),KQ x] w fun e w'=>
   e= .returned (.tuple #[.agg #[.int .i64 0,.int .i64 0],YZ 12])∧Below w.heap.size w w':=by
 unfold KQ
 have t1:=J3 hm
 clear hm
 have hA:=Jc2 w x
 obtain⟨q0,q1,q2,q3⟩:=(h.below hA).cells
 have HA:=QQ hA
 clear hA
 unfold Jj0 at q0 q1 q2 q3
 go_enter Tryz.func75,Tryz.ntmps75
 go_wp2_with fail
 go_quiet (fail)
 go_wp2
 try simp only[Exit.inBlock,Exit.then]
 refine Jr5 (g:=w.heap.size+1) (x:= .int .i64 0) (y:= .int .i64 0) (v:=YZ 12) (by with_unfolding_all rfl) (by with_unfolding_all rfl) (by with_unfolding_all rfl) (QJ.set_ (QJ.set_ (QJ.drewN (Jr6 w x) _) 0 _) 1 _) ?_
 exact⟨rfl,((JQ HA.out _).setCell (by simp) _).setCell (by simp) _⟩
theorem Ks3 {w1:World} {a c d:Nat} {ss:List UQ} {fr:List Int} {most many:Int} {gs gb i:Nat} (H:KW w1 a (some ⟨gs,0,none⟩) c (some ⟨gb,0,none⟩) d ss (fr++ [(i:Int)]) most many) (hi:i<ss.length) (m:Int) (x:QX):
  let w5:=(Xk1 ((w1.setCell ⟨a,3,none⟩ (.int .i64 m)).setCell ⟨a,1,none⟩ (.slice (some ⟨gb,0,none⟩) fr.length d)) gs (i*7) x).setCell ⟨gs,i*7+6,none⟩ (.bool true)
  KW w5 a (some ⟨gs,0,none⟩) c (some ⟨gb,0,none⟩) d (ss.set i (x,ss[i].2.1,true)) fr most m∧QK (OFp a (some ⟨gs,0,none⟩) (some ⟨gb,0,none⟩)) w1 w5:=by
 intro w5
 have u1:gs≠a:=fun e=>H.na (by rw[←e];rfl)
 have u2:gb≠a:=fun e=>H.nb (by rw[←e];rfl)
 have u3:gb≠gs:=fun e=>H.nab gs rfl (by rw[←e];rfl)
 have k12:=(QK.set_ w1 ⟨a,3,none⟩ (.int .i64 m)).trans (QK.set_ _ ⟨a,1,none⟩ (.slice (some ⟨gb,0,none⟩) fr.length d)) (fun j h=> .inl h)
 have k34:QK (fun j=>j=gs) ((w1.setCell ⟨a,3,none⟩ (.int .i64 m)).setCell ⟨a,1,none⟩ (.slice (some ⟨gb,0,none⟩) fr.length d)) w5:=(Qr7 _ gs (i*7) x).trans (QK.set_ _ ⟨gs,i*7+6,none⟩ (.bool true)) (fun j h=> .inl h)
 have hs:=(Jq2 (H.slots.keeps k12 (fun g hg e=>by cases hg;exact u1 e)) (i*7) x).set (i*7+6) (.bool true)
 have h5:(QW Qm8 ss)[i*7+5]?=some (.int .i64 ss[i].2.1):=Qd4 Qi3 ss i hi 5 (by omega)
 have e0:((((((QW Qm8 ss).set (i*7) (.int .i64 x.id)).set (i*7+1) (.int .i64 x.side)).set (i*7+2) (.int .i64 x.kind)).set (i*7+3) (.int .i64 x.price)).set (i*7+4) (.int .i64 x.qty)).set (i*7+6) (.bool true)=QW Qm8 (ss.set i (x,ss[i].2.1,true)):=by
  refine Eq.trans ?_ (Ji6 ss i hi (x,ss[i].2.1,true));refine congrArg (fun l=>List.set l (i*7+6) (Value.bool true)) (Jq1 ?_).symm;rw[List.getElem?_set_ne (by omega),List.getElem?_set_ne (by omega),List.getElem?_set_ne (by omega),List.getElem?_set_ne (by omega),List.getElem?_set_ne (by omega)];exact h5
 rw[e0]at hs
 have hf:=((H.free.pop fr.length (by simp)).keeps k12 (fun g hg e=>by cases hg;exact u2 e)).keeps k34 (fun g hg e=>by cases hg;exact u3 e)
 have e1:(Qa6 (fr++ [(i:Int)])).take (fr.length*1)=Qa6 fr:=by
  unfold Qa6;rw[List.map_append];simp
 rw[e1]at hf
 refine⟨⟨?_, ?_,hf,H.na,H.nb,H.nab⟩, ?_⟩
 ·rw[List.length_set];exact QJ.keeps (QJ.set_ (QJ.set_ H.blk 3 _) 1 _) k34 (fun e=>u1 e.symm)
 ·rw[List.length_set];exact hs
 ·exact(k12.mono (fun j h=> .inl h)).trans (k34.mono (fun j h=>(.inr (.inl (by rw[h];rfl)):OFp a (some ⟨gs,0,none⟩) (some ⟨gb,0,none⟩) j))) (fun j h=> .inl h)
theorem Xl9 (w:World) (a:Nat) (A:Option Addr) (c:Nat) (B:Option Addr) (d:Nat) (ss:List UQ) (fr:List Int) (i:Nat) (most many:Int) (x:QX) (h:KW w a A c B d ss (fr++ [(i:Int)]) most many) (hm:many≠most) (hi:i<ss.length) (hfr:fr.length≤2000):
  Calls Tryz.prog 75 #[.pointer (some ⟨a,0,none⟩),KQ x] w fun e w'=>
   e= .returned (.tuple #[.agg #[.int .i64 i,.int .i64 (ss[i].2.1)],YZ 0])∧Je6 w w' a A B (ss.set i (x,ss[i].2.1,true)) fr most (RowKit.wrap64 (many+1)):=by
 unfold KQ
 have t1:=UX hm
 clear hm
 have hA:=Jc2 w x
 have H0:=h.below hA
 have hbox:=Xl8 w x
 obtain⟨q0,q1,q2,q3⟩:=H0.cells
 obtain⟨gs,rfl,s0,s1,s2,s3,s4,s5,s6⟩:=H0.slot hi
 have f0:=H0.slots.frozen (i*7)
 have f1:=H0.slots.frozen (i*7+1)
 have f2:=H0.slots.frozen (i*7+2)
 have f3:=H0.slots.frozen (i*7+3)
 have f4:=H0.slots.frozen (i*7+4)
 have f6:=H0.slots.frozen (i*7+6)
 obtain⟨gb,rfl,y0⟩:=H0.free.cell (j:=fr.length) (u:= .int .i64 (i:Int)) (by simp[Qa6])
 have g1:=QJ.frozen H0.blk 1
 have g3:=QJ.frozen H0.blk 3
 have e1:(fr++ [(i:Int)]).length=fr.length+1:=by simp
 rw[e1]at q1
 obtain⟨n,hn⟩: ∃n,fr.length=n:=⟨_,rfl⟩
 rw[hn]at q1 y0
 have hcap:n+1≤d:=by
  rcases H0.free.2 with⟨hh,_⟩|⟨g',cap',cur,hv,_,_,h1,_⟩
  ·cases hh
  ·cases hv;rw[e1,hn]at h1;exact h1
 have i1:RowKit.wrap64 (n:Int)=(n:Int):=by unfold RowKit.wrap64;omega
 have u1:gs≠a:=fun e=>H0.na (by rw[←e];rfl)
 have u2:gb≠a:=fun e=>H0.nb (by rw[←e];rfl)
 have u3:gb≠gs:=fun e=>H0.nab gs rfl (by rw[←e];rfl)
 have hla:=QJ.lt h.blk
 have hls:=h.slots.lt (g:=gs) rfl
 have hlb:=h.free.lt (g:=gb) rfl
 have u4:a≠w.heap.size+1:=by omega
 have u5:gs≠w.heap.size+1:=by omega
 have u6:gb≠w.heap.size+1:=by omega
 have u7:a≠w.heap.size:=by omega
 have u8:gs≠w.heap.size:=by omega
 have u9:gb≠w.heap.size:=by omega
 have i2:(0:Int)< (n:Int)+1:=by omega
 have i3:(0:Int)≤(n:Int):=by omega
 have i4:(n:Int)≤(d:Int):=by omega
 have i5:(n:Int)< (n:Int)+1:=by omega
 have i6:(0:Int)≤(i:Int):=by omega
 have i7:(i:Int)< (ss.length:Int):=by omega
 have d1:decide ((0:Int)< (n:Int)+1)=true:=J4 i2
 have HH:=QQ H0
 have HA:=QQ hA
 have Hn:=QQ hn
 clear H0 hA h hn e1 hbox hla hls hlb
 unfold Jj0 at q0 q1 q2 q3 s0 s1 s2 s3 s4 s5 s6 f0 f1 f2 f3 f4 f6 y0 g1 g3
 go_enter Tryz.func75,Tryz.ntmps75
 go_wp2_with fail
 go_quiet (fail)
 go_wp2_with fail
 try simp only[Exit.inBlock,Exit.then]
 have HD:KW ((Jj0 w x).drewN nq) a (some ⟨gs,0,none⟩) c (some ⟨gb,0,none⟩) d ss (fr++ [(i:Int)]) most many:=⟨HH.out.blk,HH.out.slots,HH.out.free,HH.out.na,HH.out.nb,HH.out.nab⟩
 obtain⟨hA5,hK5⟩:=Ks3 HD hi (RowKit.wrap64 (many+1)) x
 rw[Hn.out]at hA5 hK5
 have hb0:=JQ HA.out nq
 have hR:QJ ((Jj0 w x).drewN nq) (w.heap.size+1) 122 #[.int .i64 0,.int .i64 0]:=QJ.drewN (Jr6 w x) _
 have hRn: ∀j,OFp a (some ⟨gs,0,none⟩) (some ⟨gb,0,none⟩) j→j≠w.heap.size+1:=by
  rintro j (rfl|h|h)
  ·exact u4
  ·cases h;exact u5
  ·cases h;exact u6
 have hR5:=QJ.keeps hR hK5 (fun h=>hRn _ h rfl)
 have hks:=(QK.set_ ((Xk1 ((((Jj0 w x).drewN nq).setCell ⟨a,3,none⟩ (.int .i64 (RowKit.wrap64 (many+1)))).setCell ⟨a,1,none⟩ (.slice (some ⟨gb,0,none⟩) n d)) gs (i*7) x).setCell ⟨gs,i*7+6,none⟩ (.bool true)) ⟨w.heap.size+1,0,none⟩ (.int .i64 (i:Int))).trans (QK.set_ _ ⟨w.heap.size+1,1,none⟩ (.int .i64 ss[i].2.1)) (fun j h=> .inl h)
 refine Jr5 (g:=w.heap.size+1) (x:= .int .i64 (i:Int)) (y:= .int .i64 ss[i].2.1) (v:=YZ 0) (by with_unfolding_all rfl) (by with_unfolding_all rfl) (by with_unfolding_all rfl) (QJ.set_ (QJ.set_ hR5 0 _) 1 _) ?_
 refine⟨rfl,some ⟨gs,0,none⟩,c,some ⟨gb,0,none⟩,d,hA5.keeps hks (fun j hj=>hRn j hj), ?_,fun j hj=> .inl hj⟩
 exact((QK.of_below hb0 _).trans hK5 (fun j h=> .inl h)).trans hks (fun j h=> .inr (by have:j=w.heap.size+1:=h;omega))
theorem Xu1:(Tryz.prog.info? 157).map (fun i=>(i.zero,i.size,i.bytes))=some (some (.agg #[.int .i64 0,.int .i64 0,.int .i64 0,.int .i64 0,.int .i64 0,.int .i64 0,.bool false]),7,56):=by kernel_rfl
theorem Kl4 {w2 w3:World} {a c d:Nat} {A B:Option Addr} {ss:List UQ} {fr:List Int} {most many:Int} (H:KW w2 a A c B d ss fr most many) {o:Obj} {gg cap:Nat} {x:QX}
  (hown:w3.ownsRow 0 157 7 (.slice (some ⟨gg,0,none⟩) (ss.length+1) cap) (ss.length+1) (QW Qm8 ss++Qm8 (x,0,true))) (hgrow:((w2.alloc o).drew).grownBy w3 (Value.slice A ss.length c).ownBlock)
  (hat:(Value.slice A ss.length c).ownBlock=some gg∨gg=w2.heap.size+1):
  let w5:=w3.setCell ⟨a,0,none⟩ (.slice (some ⟨gg,0,none⟩) (ss.length+1) cap)
  KW w5 a (some ⟨gg,0,none⟩) cap B d (ss++ [(x,0,true)]) fr most many∧QK (OFp a A B) w2 w5∧(∀i,OFp a (some ⟨gg,0,none⟩) B i→OFp a A B i∨w2.heap.size≤i):=by
 intro w5
 rw[XV]at hgrow hat
 have hal:=QJ.lt H.blk
 have hK:=IJ hgrow
 have hga:gg≠a:=by
  rcases hat with h|h
  ·intro e;exact H.na (by rw[h,e])
  ·omega
 have hgB: ∀g,QV B=some g→g≠gg:=by
  intro g hg e;rcases hat with h|h
  ·exact H.nab gg h (by rw[hg,e])
  ·have:=H.free.lt hg;omega
 have b3:=QJ.keeps H.blk hK H.na
 have f3:=H.free.keeps hK (fun g hg e=>H.nab g e hg)
 have s3:QY w3 (some ⟨gg,0,none⟩) (ss.length+1) cap 157 7 (QW Qm8 ss++Qm8 (x,0,true)):=hown
 have k4:QK (fun i=>i=a) w3 w5:=QK.set_ w3 ⟨a,0,none⟩ (.slice (some ⟨gg,0,none⟩) (ss.length+1) cap)
 have e1:(ss++ [(x,(0:Int),true)]).length=ss.length+1:=by simp
 have e2:QW Qm8 (ss++ [(x,0,true)])=QW Qm8 ss++Qm8 (x,0,true):=Qa5 _ _ _
 refine⟨⟨?_, ?_, ?_, ?_,H.nb, ?_⟩, ?_, ?_⟩
 ·rw[e1];exact QJ.set_ b3 0 _
 ·rw[e1,e2];exact s3.keeps k4 (fun g hg e=>by cases hg;exact hga e)
 ·exact f3.keeps k4 (fun g hg e=>H.nb (by rw[hg,e]))
 ·intro e;cases e;exact hga rfl
 ·intro g hg e;cases hg;exact hgB _ e rfl
 ·exact(hK.mono (fun i h=>(.inr (.inl h):OFp a A B i))).trans k4 (fun i h=> .inl (.inl h))
 ·rintro i (h|h|h)
  ·exact .inl (.inl h)
  ·cases h
   rcases hat with h|h
   ·exact .inl (.inr (.inl h))
   ·exact .inr (by show _≤gg;omega)
  ·exact .inl (.inr (.inr h))
theorem Xm0 (w:World) (a:Nat) (A:Option Addr) (c:Nat) (B:Option Addr) (d:Nat) (ss:List UQ) (most many:Int) (x:QX) (h:KW w a A c B d ss [] most many) (hm:many≠most) (hss:ss.length≤2000):
  Calls Tryz.prog 75 #[.pointer (some ⟨a,0,none⟩),KQ x] w fun e w'=>
   e= .returned (.tuple #[.agg #[.int .i64 ss.length,.int .i64 0],YZ 0])∧Je6 w w' a A B (ss++ [(x,0,true)]) [] most (RowKit.wrap64 (many+1)):=by
 unfold KQ
 have t1:=UX hm
 clear hm
 have hA:=Jc2 w x
 have H0:=h.below hA
 obtain⟨q0,q1,q2,q3⟩:=H0.cells
 have g3:=QJ.frozen H0.blk 3
 have Hfp:=QQ (fun i (hi:OFp a A B i)=>h.fp hi)
 have hla:=QJ.lt h.blk
 have u4:a≠w.heap.size+1:=by omega
 have u7:a≠w.heap.size:=by omega
 have HH:=QQ H0
 have HA:=QQ hA
 clear H0 hA h hla
 obtain⟨n,hn⟩: ∃n,ss.length=n:=⟨_,rfl⟩
 have Hn:=QQ hn
 unfold Jj0 at q0 q1 q2 q3 g3
 go_enter Tryz.func75,Tryz.ntmps75
 go_wp2_with fail
 go_quiet (fail)
 go_upto_region 11 with fail
 have HD:KW ((Jj0 w x).drewN nq) a A c B d ss [] most many:=⟨HH.out.blk,HH.out.slots,HH.out.free,HH.out.na,HH.out.nb,HH.out.nab⟩
 have hb0:=JQ HA.out nq
 have hR:QJ ((Jj0 w x).drewN nq) (w.heap.size+1) 122 #[.int .i64 0,.int .i64 0]:=QJ.drewN (Jr6 w x) _
 have hX:QJ ((Jj0 w x).drewN nq) w.heap.size 29 (KZ x):=QJ.drewN (Xl8 w x) _
 unfold Jj0 at HD hb0 hR hX
 generalize World.drewN ((w.alloc (.cells #[.int .i64 x.id,.int .i64 x.side,.int .i64 x.kind,.int .i64 x.price,.int .i64 x.qty] 29)).alloc (.cells #[.int .i64 0,.int .i64 0] 122)) nq=w1 at HD hb0 hR hX⊢
 have hk2:=QK.set_ w1 ⟨a,3,none⟩ (.int .i64 (RowKit.wrap64 (many+1)))
 have HD2:KW (w1.setCell ⟨a,3,none⟩ (.int .i64 (RowKit.wrap64 (many+1)))) a A c B d ss [] most (RowKit.wrap64 (many+1)):=
  ⟨QJ.set_ HD.blk 3 _,HD.slots.keeps hk2 (fun g hg e=>HD.na (by rw[hg,e])),HD.free.keeps hk2 (fun g hg e=>HD.nb (by rw[hg,e])),HD.na,HD.nb,HD.nab⟩
 have hR2:=QJ.keeps hR hk2 (fun e=>u4 e.symm)
 have hX2:=QJ.keeps hX hk2 (fun e=>u7 e.symm)
 generalize hW:w1.setCell ⟨a,3,none⟩ (.int .i64 (RowKit.wrap64 (many+1)))=w2 at hk2 HD2 hR2 hX2⊢
 clear hW q0 q1 q2 q3 g3 HD hR hX
 have hal:=QJ.lt HD2.blk
 have q0:=HD2.cells.1
 rw[hn]at q0
 obtain⟨bx0,bx1,bx2,bx3,bx4⟩:=JW hX2
 obtain⟨i0,hi0,hz0,hz1,hz2⟩:=info_parts Xu1
 have hna:some a≠(Value.slice A n c).ownBlock:=by rw[XV];exact HD2.na.symm
 have hnR:some (w.heap.size+1)≠(Value.slice A n c).ownBlock:=by
  rw[XV];intro e;have:=Hfp.out _ (.inr (.inl e.symm));omega
 have hs0:=HD2.slots
 rw[hn]at hs0
 have HS:=QQ (show w2.ownsRow 0 157 7 (.slice A n c) n (QW Qm8 ss)from hs0)
 have HA2:=QQ HD2
 have HR2:=QQ hR2
 have HK2:=QQ hk2
 have hss':n≤2000:=by omega
 have i1:RowKit.wrap64 (n:Int)=(n:Int):=by unfold RowKit.wrap64;omega
 clear HD2 hs0 hn hR2 hk2 hss hX2
 go_region_law ((refine step_append_lies _ (by rfl) _ _ _ (by rfl) 0 157 i0 _ 7 56 Tryz.underlying129 hi0 hz0 hz1 hz2 rfl (by omega) (.slice A n c) n _ (by rfl) ((World.ownsRow.alloc HS.out _).drew) ⟨w2.heap.size,0,none⟩ 1 1 (Qm8 (x,0,true)) (by rfl) (by rfl) (World.news_of_block (cs:= #[.int .i64 x.id,.int .i64 x.side,.int .i64 x.kind,.int .i64 x.price,.int .i64 x.qty,.int .i64 0,.bool true]) (t:=157) (fr:=(0,0)) (heap_alloc_new w2 _)) (Kk9 _) (by omega) (by unfold maxLen;omega) (by omega) (by simp) (w2.heap.size+1) (by simp) ?_;intro gg cap w3 hown hgrow hat hlt;have hg2:=QQ hgrow;have b3:=QJ.keeps HA2.out.blk (IJ hgrow) (fun e=>hna e.symm);have r0:w3.cell? ⟨a,0,none⟩=some (.slice A n c):=(by rw[QJ.cell b3];exact congrArg (fun k=>some (Value.slice A k c)) Hn.out);have rf0:=QJ.frozen b3 0;have R3:=QJ.keeps HR2.out (IJ hgrow) (fun e=>hnR e.symm);have rc0:w3.cell? ⟨w.heap.size+1,0,none⟩=some (.int .i64 0):=(by rw[QJ.cell R3];rfl);have rc1:w3.cell? ⟨w.heap.size+1,1,none⟩=some (.int .i64 0):=(by rw[QJ.cell R3];rfl);have qf0:=QJ.frozen R3 0;have qf1:=QJ.frozen R3 1;have HR3:=QQ R3;clear b3 R3 hgrow))
 all_goals go_wp2_with fail
 all_goals try simp only[Exit.inBlock,Exit.then]
 all_goals
  obtain rfl:ss.length=n:=Hn.out;obtain⟨hA5,hK5,hF5⟩:=Kl4 HA2.out hown hg2.out hat;have hRl:=QJ.lt HR2.out;have hs1:=hb0.size;have hs2:=HK2.out.size;have R5:=QJ.far HR3.out (p:=⟨a,0,none⟩) (Ne.symm u4) (.slice (some ⟨gg,0,none⟩) (ss.length+1) cap);have hks:=(QK.set_ (w3.setCell ⟨a,0,none⟩ (.slice (some ⟨gg,0,none⟩) (ss.length+1) cap)) ⟨w.heap.size+1,0,none⟩ (.int .i64 (ss.length:Int))).trans (QK.set_ _ ⟨w.heap.size+1,1,none⟩ (.int .i64 0)) (fun j h=> .inl h);refine Jr5 (g:=w.heap.size+1) (x:= .int .i64 (ss.length:Int)) (y:= .int .i64 0) (v:=YZ 0) (by with_unfolding_all rfl) (by with_unfolding_all rfl) (by with_unfolding_all rfl) (QJ.set_ (QJ.set_ R5 0 _) 1 _) ?_;refine⟨rfl,some ⟨gg,0,none⟩,cap,B,d,hA5.keeps hks ?_, ?_, ?_⟩
  ·intro j hj e
   have e':j=w.heap.size+1:=e;rcases hF5 j hj with h|h
   ·have:=Hfp.out j h
    omega
   ·omega
  ·exact(((QK.of_below hb0 (OFp a A B)).trans HK2.out (fun j h=> .inl (.inl h))).trans hK5 (fun j h=> .inl h)).trans hks (fun j h=> .inr (by have:j=w.heap.size+1:=h;omega))
  ·intro j hj
   rcases hF5 j hj with h|h
   ·exact .inl h
   ·exact .inr (by omega)
end Go.Proofs.YtnlngicnfegjgaaGreat
