/- Contracts and walks that the law's proof needs. -/
import Derived.Test.YtnlngicnfegjgaaGreatZf52
import Derived.Test.YtnlngicnfegjgaaGreatZf49
set_option linter.unusedVariables false
set_option maxRecDepth 100000
set_option maxHeartbeats 8000000
namespace Go.Proofs.YtnlngicnfegjgaaGreat
open Go.ChangeMaps Go.RowKit
def sinceN (q:Int) (m m':ZX) (since:Int):Int:=if m'.ph=4 then(if q=2∧m.ph=4 then since+1 else since)else 0
structure U4 (q:Int) (m m':ZX) (lots1 side1:Int→Int) (Fs:List JV) (since:Int) (hands hands1:Bool):Prop where
 good:ZW lots1 side1 Fs
 plain:Qg7 m' (JX lots1 Fs) side1
 bands:q=0→IY (fun la p=>X3 m.st m.dy m.an la p) m.la Fs∧(Fs≠ []→m.ph=3)
 cfg:YY m m'
 now:m'.now=m.now∨m'.now=m.now+1∧m.ph≠7
 time:hands1=false→hands=false∧V8 m' (sinceN q m m' since)
 end_:Y3 m'
 lts: ∀id,lots1 id≤30
section
variable {m:ZX} {lots side:Int→Int} {since:Int} {hands:Bool}
theorem V8.sinceN {m':ZX} (h:V8 m' since) (q:Int) (hq:q≠2):V8 m' (sinceN q m m' since):=by
 unfold Go.Proofs.YtnlngicnfegjgaaGreat.sinceN
 by_cases h4:m'.ph=4
 ·rw[if_pos h4,if_neg (fun e=>hq e.1)];exact h
 ·rw[if_neg h4]
  have:=h.non h4;rw[←this];exact h
theorem U4.order (h:Qg7 m lots side) (he:Y3 m) (hl: ∀id,lots id≤30) (ht:hands=false→V8 m since) {o:QX} (hf:Qe5 o) (hq:o.qty≤30) (hls:XY (IQ m o).L1 (IQ m o).L2):
  U4 0 m (IQ m o) (Jv4 m lots o) (Xd4 m side o) (Qd3 m o) since hands hands:=by
 obtain⟨h1,h2,h3,h4⟩:=Ki8 h hf hls
 obtain⟨t1,t2,-⟩:=Qu0 m o
 refine⟨h1,h4,fun _=>⟨h2,h3⟩,t1,.inl t2,fun e=>⟨e,((ht e).order h.ok_ o).sinceN 0 (by decide)⟩,he.order o,fun id=> ?_⟩
 unfold Jv4
 split
 ·unfold Qg8;split
  ·exact hq
  ·exact hl id
 ·exact hl id
theorem U4.cancel (h:Qg7 m lots side) (he:Y3 m) (hl: ∀id,lots id≤30) (ht:hands=false→V8 m since) (id:Int) (hls:XY (YJ m id).L1 (YJ m id).L2):
  U4 1 m (YJ m id) lots side [] since hands hands:=by
 obtain⟨a1,a2,a3,a4⟩:=Qy8 m id
 exact⟨ZW.nil _ _,by rw[OQ];exact h.cancel id hls,fun e=>absurd e (by decide),Qt9 m id,.inl a2,fun e=>⟨e,((ht e).cancel id).sinceN 1 (by decide)⟩,he.cancel id,hl⟩
theorem U4.tick (h:Qg7 m lots side) (he:Y3 m) (hl: ∀id,lots id≤30) (ht:hands=false→V8 m since) {Fs:List JV} (hF:Jh1 m Fs) (hls:XY (J2 m).L1 (J2 m).L2):
  U4 2 m (J2 m) lots side Fs since hands hands:=by
 obtain⟨h1,h2⟩:=Kp8 h hF hls
 have hn:=Jh7 m
 refine⟨h1,h2,fun e=>absurd e (by decide),Qy7 m,(if h7:m.ph=7 then .inl (by rw[if_pos h7]at hn;exact hn)else .inr ⟨by rw[if_neg h7]at hn;exact hn,h7⟩),fun e=>⟨e, ?_⟩,he.tick,hl⟩
 have:=(ht e).tick h.ok_ he.now
 unfold Xy9 at this
 unfold Go.Proofs.YtnlngicnfegjgaaGreat.sinceN
 simpa using this
theorem U4.halt (h:Qg7 m lots side) (he:Y3 m) (hl: ∀id,lots id≤30) (ht:hands=false→V8 m since):
  U4 3 m (Qe1 m) lots side [] since hands (hands ||decide (Jb3 m=0)):=by
 have hn:(Qe1 m).now=m.now:=by unfold Qe1;split<;>rfl
 refine⟨ZW.nil _ _,by rw[OQ];exact h.halt,fun e=>absurd e (by decide),Xr3 m,.inl hn,fun e=> ?_,he.halt,hl⟩
 rw[Bool.or_eq_false_iff,decide_eq_false_iff_not]at e
 refine⟨e.1, ?_⟩
 have hs:Qe1 m=m:=by
  unfold Jb3 at e;unfold Qe1
  by_cases h67:m.ph=6∨m.ph=7
  ·rw[if_pos h67]
  ·rw[if_neg h67]at e;exact absurd rfl e.2
 rw[hs]
 exact(ht e.1).sinceN 3 (by decide)
theorem Kq9 (m:ZX):(Qa3 m).now=m.now:=by
 unfold Qa3
 split
 ·split
  ·rfl
  ·split
   ·exact(Qc2 m.pk {m with ph:=5}).2.2.2.2.2.2.2.2.2.2.1
   ·rfl
 ·rfl
theorem U4.open_ (h:Qg7 m lots side) (he:Y3 m) (hl: ∀id,lots id≤30) (ht:hands=false→V8 m since) (hls:XY (Qa3 m).L1 (Qa3 m).L2):
  U4 4 m (Qa3 m) lots side [] since hands (hands ||decide (Jn6 m=0)):=by
 have hn:=Kq9 m
 refine⟨ZW.nil _ _,by rw[OQ];exact h.open_ hls,fun e=>absurd e (by decide),Jv7 m,.inl hn,fun e=> ?_,he.open_,hl⟩
 rw[Bool.or_eq_false_iff,decide_eq_false_iff_not]at e
 refine⟨e.1, ?_⟩
 have hs:Qa3 m=m:=by
  unfold Jn6 at e;unfold Qa3
  by_cases h6:m.ph=6
  ·rw[if_pos h6]at e;exact absurd rfl e.2
  ·rw[if_neg h6]
 rw[hs]
 exact(ht e.1).sinceN 4 (by decide)
theorem U4.none_ (h:Qg7 m lots side) (he:Y3 m) (hl: ∀id,lots id≤30) (ht:hands=false→V8 m since) (q:Int) (hq:q≠2) (h0:q≠0):U4 q m m lots side [] since hands hands:=
 ⟨ZW.nil _ _,by rw[OQ];exact h,fun e=>absurd e h0,YY.refl m,.inl rfl,fun e=>⟨e,(ht e).sinceN q hq⟩,he,hl⟩
theorem Xr7 (Fs:List JV) {k:Nat} (hk:k<Fs.length):Fs=Fs.take k++Fs[k]::Fs.drop (k+1):=by
 rw[List.getElem_cons_drop];exact(List.take_append_drop k Fs).symm
theorem Kc6 {Fs:List JV} (h:ZW lots side Fs) {k:Nat} (hk:k<Fs.length):1≤Fs[k].n∧side Fs[k].b=1∧side Fs[k].s=2∧Fs[k].n≤JX lots (Fs.take k) Fs[k].b∧Fs[k].n≤JX lots (Fs.take k) Fs[k].s∧Fs[k].b≠Fs[k].s:=by
 obtain⟨a1,a2,a3,a4,a5⟩:=h _ _ _ (Xr7 Fs hk)
 exact⟨a1,a2,a3,a4,a5,fun e=>by rw[e]at a2;omega⟩
theorem Kc7 {al:Int→Int→Bool} {la:Int} {Fs:List JV} (h:IY al la Fs) {k:Nat} (hk:k<Fs.length):al (Jk5 la (Fs.take k)) Fs[k].p=true:=h _ _ _ (Xr7 Fs hk)
theorem Kj7 (la:Int) (Fs:List JV) {k:Nat} (hk:k<Fs.length):Jk5 la (Fs.take (k+1))=Fs[k].p:=by
 rw[List.take_succ_eq_append_getElem hk,Xq6]
theorem Kj8 (lots:Int→Int) (Fs:List JV) {k:Nat} (hk:k<Fs.length) (hne:Fs[k].b≠Fs[k].s):
  JX lots (Fs.take (k+1))=Qg8 (Qg8 (JX lots (Fs.take k)) Fs[k].b (JX lots (Fs.take k) Fs[k].b-Fs[k].n)) Fs[k].s (JX lots (Fs.take k) Fs[k].s-Fs[k].n):=by
 funext id
 rw[List.take_succ_eq_append_getElem hk]
 unfold Qg8 JX
 rw[Xq5]
 generalize Fs[k]=f at hne⊢
 obtain⟨fb,fs,fp,fn⟩:=f
 dsimp only at hne⊢
 generalize Z7 (Fs.take k)=tr
 by_cases h1:id=fs
 ·subst h1
  rw[if_pos rfl,if_neg hne,if_pos rfl];omega
 ·rw[if_neg h1,if_neg (fun e:fs=id=>h1 e.symm)]
  by_cases h2:id=fb
  ·subst h2
   rw[if_pos rfl,if_pos rfl];omega
  ·rw[if_neg h2,if_neg (fun e:fb=id=>h2 e.symm)];omega
theorem Ji0 {Fs:List JV} (h:ZW lots side Fs) (k:Nat) (id:Int):JX lots (Fs.take k) id≤lots id:=by
 have hp: ∀f∈Fs.take k,0≤f.n:=fun f hf=>by
  obtain⟨i,hi,e⟩:=List.mem_iff_getElem.1 (List.mem_of_mem_take hf);have:=(Kc6 h hi).1;rw[e]at this;omega
 have h1:0≤Qm7 (Fs.take k) id:=Jh6 (fun f hf=>by have:=hp f hf;split<;>omega)
 have h2:0≤Jd3 (Fs.take k) id:=Jh6 (fun f hf=>by have:=hp f hf;split<;>omega)
 unfold JX Z7
 omega
end
theorem Xi3 {m:ZX} {l:List Int} (hr:m.rows=Qh9 l 5) (t:Int):VJ m t=7↔Z8 l 4≤t:=by
 unfold VJ
 rw[hr,Qf5]
 have g: ∀i,i<5→(Qh9 l 5).getD i (0,0)=(Z8 l i,Jw0 i):=fun i hi=>Jh8 l hi
 have no7: ∀k,k≤4→(Qm0 (Qh9 l 5) t k).1≠7:=by
  intro k
  induction k with
  |zero=>intro _ e;exact absurd e (by simp[Qm0])
  |succ k ih=>
   intro hk
   by_cases h:((Qh9 l 5).getD k (0,0)).1≤t∨k=0
   ·rw[Xz8 h (by rw[Qf5];omega),g k (by omega)]
    have hc:k=0∨k=1∨k=2∨k=3:=by omega
    rcases hc with rfl|rfl|rfl|rfl
    ·exact(by decide:Jw0 0≠7)
    ·exact(by decide:Jw0 1≠7)
    ·exact(by decide:Jw0 2≠7)
    ·exact(by decide:Jw0 3≠7)
   ·rw[Xf1 (fun e=>h (.inl e)) (fun e=>h (.inr e))]
    exact ih (by omega)
 by_cases h:Z8 l 4≤t
 ·rw[Jz0 (k:=4) (.inl (by rw[g 4 (by omega)];exact h)) (by rw[Qf5];omega),g 4 (by omega)]
  exact⟨fun _=>h,fun _=>rfl⟩
 ·rw[Xf1 (k:=4) (by rw[g 4 (by omega)];exact h) (by decide)]
  exact⟨fun e=>absurd e (no7 4 (by omega)),fun e=>absurd e h⟩
structure Jd8 (w0 w:World) (D e L S:Nat) (A:Option Addr) (cap:Nat) (l:List Int) (c:Qn0) (F:Nat→Prop) (m:ZX) (lots side:Int→Int) (since:Int) (hands:Bool) (k:Nat):Prop where
 day:Qc9 w D e L S A cap l c F m lots side since hands
 plain:Qg7 m lots side
 time:hands=false→V8 m since
 now:m.now≤k
 fin:m.now≤Z8 l 4
 end_:Y3 m
 lts: ∀id,lots id≤30
 snc:0≤since∧since≤k
 c0:VW (Jo6 l c)
 bel:Below w0.heap.size w0 w
 fl: ∀i,F i→w0.heap.size≤i
 dl:w0.heap.size≤D
 ll:w0.heap.size≤L
 sl:w0.heap.size≤S
 al: ∀g,QV A=some g→w0.heap.size≤g
structure Y4 (w0 w:World) (D e L S:Nat) (A:Option Addr) (cap:Nat) (l:List Int) (c:Qn0) (X:Nat) (xs:Array Value) (F:Nat→Prop) (m:ZX) (lots side:Int→Int) (since:Int) (hands:Bool):Prop where
 day:Qc9 w D e L S A cap l c F m lots side since hands
 box:QJ w X 31 xs
 nX: ¬F X
 xd:X≠D
 xl:X≠L
 xs_:X≠S
 bel:Below w0.heap.size w0 w
 fl: ∀i,F i→w0.heap.size≤i
 dl:w0.heap.size≤D
 ll:w0.heap.size≤L
 sl:w0.heap.size≤S
structure J1 (w:World) (D L S:Nat) (F:Nat→Prop) (A:Option Addr) (n c:Nat) (Fs:List JV):Prop where
 row:QY w A n c 48 4 (QW Qb1 Fs)
 len:Fs.length=n
 far: ∀g,QV A=some g→ ¬F g∧g≠D∧g≠L∧g≠S
section
variable {w0 w w':World} {D e L S:Nat} {A A1:Option Addr} {cap n c1:Nat} {l:List Int} {c:Qn0} {X:Nat} {xs:Array Value} {F F' F1:Nat→Prop} {m m' m1:ZX} {lots side lots1 side1 lots':Int→Int} {since:Int} {hands hands1:Bool} {k:Nat} {Fs:List JV}
theorem IV.trans_ {w1:World} {r:Nat} (h:IV w w1 r) (h':IV w1 w' r):IV w w' r:=
 ⟨h'.os.trans h.os,h'.tape.trans h.tape,h'.output.trans h.output,h'.size.trans h.size,fun k hk=>(h'.block k hk).trans (h.block k hk)⟩
theorem Qc9.tabLt (h:Qc9 w D e L S A cap l c F m lots side since hands): ∀g,QV A=some g→g<w.heap.size:=by
 intro g hg
 obtain⟨b,off,hA,hlt,-⟩:=h.tab.2 (by omega)
 subst hA
 have:b=g:=by simpa [QV]using hg
 omega
theorem Jd8.does (h:Jd8 w0 w D e L S A cap l c F m lots side since hands k) (cs:Array Value):Y4 w0 (w.alloc (.cells cs 31)) D e L S A cap l c w.heap.size cs F m lots side since hands:=by
 have hb:=(Below.refl w.heap.size w).alloc (Nat.le_refl _) (.cells cs 31)
 have h1:=QJ.lt h.day.box
 have h2:=h.day.lots_.lt
 have h3:=h.day.side_.lt
 exact⟨h.day.below hb,QJ.new w _ cs,fun hx=>by have:=h.day.eng.lt hx;omega,by omega,by omega,by omega,h.bel.trans (hb.mono h.bel.size),h.fl,h.dl,h.ll,h.sl⟩
theorem Y4.below (h:Y4 w0 w D e L S A cap l c X xs F m lots side since hands) (hb:Below w.heap.size w w'):Y4 w0 w' D e L S A cap l c X xs F m lots side since hands:=
 ⟨h.day.below hb,QJ.keep h.box hb,h.nX,h.xd,h.xl,h.xs_,h.bel.trans (hb.mono h.bel.size),h.fl,h.dl,h.ll,h.sl⟩
theorem Y4.step (h:Y4 w0 w D e L S A cap l c X xs F m lots side since hands) (hE:UY w' e F1 m1) (hs:XW w w' F F1) (hc:YY m m1):Y4 w0 w' D e L S A cap l c X xs F1 m1 lots side since hands:=by
 have hx:=QJ.lt h.box
 have hz:=h.bel.size
 refine⟨h.day.engTo hE hs h.day.tabLt hc,QJ.keeps h.box hs.1 h.nX,fun hx1=> ?_,h.xd,h.xl,h.xs_,h.bel.trans (hs.1.below h.fl hz),fun i hi=> ?_,h.dl,h.ll,h.sl⟩
 ·rcases hs.2 X hx1 with h1|h1
  ·exact h.nX h1
  ·omega
 ·rcases hs.2 i hi with h1|h1
  ·exact h.fl i h1
  ·omega
theorem Y4.engTo (h:Y4 w0 w D e L S A cap l c X xs F m lots side since hands) (ht:YK w w' e F m1) (hc:YY m m1): ∃F1,Y4 w0 w' D e L S A cap l c X xs F1 m1 lots side since hands:=by
 obtain⟨F1,hE,hs⟩:=ht
 exact⟨F1,h.step hE hs hc⟩
theorem Y4.fillsE {P:List JV→Prop} {E:Int} {ev:Ending} (h:Y4 w0 w D e L S A cap l c X xs F m lots side since hands) (ht:J6 w w' e F P m1 E ev) (hc:YY m m1):
  ∃A1 c1 Fs F1,ev= .returned (.tuple #[.slice A1 (List.length Fs) c1,YZ E])∧P Fs∧J1 w' D L S F1 A1 Fs.length c1 Fs∧Y4 w0 w' D e L S A cap l c X xs F1 m1 lots side since hands:=by
 obtain⟨A1,c1,Fs,h1,h2,h3,h4,F1,hE,hs,h5⟩:=ht
 have q1:=QJ.lt h.day.box
 have q2:=h.day.lots_.lt
 have q3:=h.day.side_.lt
 exact⟨A1,c1,Fs,F1,h1,h2,⟨h3,rfl,fun g hg=>⟨h5 g hg,by have:=h4 g hg;omega,by have:=h4 g hg;omega,by have:=h4 g hg;omega⟩⟩,h.step hE hs hc⟩
theorem J1.none_ (w:World) (D L S:Nat) (F:Nat→Prop):J1 w D L S F none 0 0 []:=⟨World.ownsRow_nil _ _ _ _,rfl,fun g hg=>by simp[QV]at hg⟩
theorem J1.keeps {Z:Nat→Prop} (h:J1 w D L S F A1 n c1 Fs) (hk:QK Z w w') (hZ: ∀i,Z i→F i∨i=D∨i=L∨i=S):J1 w' D L S F A1 n c1 Fs:=
 ⟨h.row.keeps hk (fun g hg hz=>by
  obtain⟨h1,h2,h3,h4⟩:=h.far g hg;rcases hZ g hz with e|e|e|e
  ·exact h1 e
  ·exact h2 e
  ·exact h3 e
  ·exact h4 e),h.len,h.far⟩
theorem J1.below (h:J1 w D L S F A1 n c1 Fs) (hb:Below w.heap.size w w'):J1 w' D L S F A1 n c1 Fs:=⟨h.row.below hb,h.len,h.far⟩
theorem J1.turnL (h:J1 w D L S F A1 n c1 Fs) (ht:IV w w' L):J1 w' D L S F A1 n c1 Fs:=h.keeps ht.keeps (fun i e=> .inr (.inr (.inl e)))
theorem J1.turnS (h:J1 w D L S F A1 n c1 Fs) (ht:IV w w' S):J1 w' D L S F A1 n c1 Fs:=h.keeps ht.keeps (fun i e=> .inr (.inr (.inr e)))
theorem Y4.lotsTo (h:Y4 w0 w D e L S A cap l c X xs F m lots side since hands) (ht:IV w w' L) (hm:O0 w' L lots1):Y4 w0 w' D e L S A cap l c X xs F m lots1 side since hands:=
 ⟨h.day.lotsTo ht hm,QJ.keeps h.box ht.keeps h.xl,h.nX,h.xd,h.xl,h.xs_,h.bel.trans (ht.below h.ll),h.fl,h.dl,h.ll,h.sl⟩
theorem Y4.sideTo (h:Y4 w0 w D e L S A cap l c X xs F m lots side since hands) (ht:IV w w' S) (hm:O0 w' S side1):Y4 w0 w' D e L S A cap l c X xs F m lots side1 since hands:=
 ⟨h.day.sideTo ht hm,QJ.keeps h.box ht.keeps h.xs_,h.nX,h.xd,h.xl,h.xs_,h.bel.trans (ht.below h.sl),h.fl,h.dl,h.ll,h.sl⟩
theorem Y4.sinceTo (h:Y4 w0 w D e L S A cap l c X xs F m lots side since hands) (v:Int):Y4 w0 (w.setCell ⟨D,9,none⟩ (.int .i64 v)) D e L S A cap l c X xs F m lots side v hands:=
 ⟨h.day.sinceTo v,QJ.keeps h.box (QK.set_ w ⟨D,9,none⟩ _) h.xd,h.nX,h.xd,h.xl,h.xs_,h.bel.setCell h.dl _,h.fl,h.dl,h.ll,h.sl⟩
theorem Y4.handsTo (h:Y4 w0 w D e L S A cap l c X xs F m lots side since hands) (v:Bool):Y4 w0 (w.setCell ⟨D,10,none⟩ (.bool v)) D e L S A cap l c X xs F m lots side since v:=
 ⟨h.day.handsTo v,QJ.keeps h.box (QK.set_ w ⟨D,10,none⟩ _) h.xd,h.nX,h.xd,h.xl,h.xs_,h.bel.setCell h.dl _,h.fl,h.dl,h.ll,h.sl⟩
def Kz1 (w0 w:World) (D e L S:Nat) (A:Option Addr) (cap:Nat) (l:List Int) (c:Qn0) (X:Nat) (xs:Array Value) (q:Int) (m:ZX) (since:Int) (hands:Bool) (v:Value):Prop:=
 ∃A1 c1 Fs F1 m1 lots1 side1 hands1,v= .slice A1 (List.length Fs) c1∧J1 w D L S F1 A1 Fs.length c1 Fs∧Y4 w0 w D e L S A cap l c X xs F1 m1 lots1 side1 since hands1∧U4 q m m1 lots1 side1 Fs since hands hands1
theorem Jd8.same (h:Jd8 w0 w D e L S A cap l c F m lots side since hands k) (d:Y4 w0 w' D e L S A cap l c X xs F m lots side since hands):Jd8 w0 w' D e L S A cap l c F m lots side since hands (k+1):=
 ⟨d.day,h.plain,h.time,by have:=h.now;omega,h.fin,h.end_,h.lts,by have:=h.snc;omega,h.c0,d.bel,d.fl,d.dl,d.ll,d.sl,h.al⟩
def Qd2 (q la:Int) (Fs:List JV) (k:Nat):Int:=if q=0 then Jk5 la (Fs.take k)else la
theorem Jw2 (q la:Int) (Fs:List JV):Qd2 q la Fs 0=la:=by unfold Qd2;split<;>rfl
theorem Jw3 {la:Int} {Fs:List JV} {k:Nat} (hk:k<Fs.length):Qd2 0 la Fs (k+1)=Fs[k].p:=by unfold Qd2;rw[if_pos rfl];exact Kj7 la Fs hk
theorem Kr0 {q:Int} (hq:q≠0) (la:Int) (Fs:List JV) (k k':Nat):Qd2 q la Fs k=Qd2 q la Fs k':=by unfold Qd2;rw[if_neg hq,if_neg hq]
theorem Kr1 {m:ZX} {Fs:List JV} (hk:VW m) (h:IY (fun la p=>X3 m.st m.dy m.an la p) m.la Fs): ∀k,k≤Fs.length→(1≤Qd2 0 m.la Fs k∧Qd2 0 m.la Fs k≤1000000)∧ ∀hk:k<Fs.length,(V5 m.an m.st≤Fs[k].p∧Fs[k].p≤V6 m.an m.st)∧V5 (Qd2 0 m.la Fs k) m.dy≤Fs[k].p∧Fs[k].p≤V6 (Qd2 0 m.la Fs k) m.dy:=by
 intro k hkl
 have key: ∀hk:k<Fs.length,(V5 m.an m.st≤Fs[k].p∧Fs[k].p≤V6 m.an m.st)∧V5 (Qd2 0 m.la Fs k) m.dy≤Fs[k].p∧Fs[k].p≤V6 (Qd2 0 m.la Fs k) m.dy:=fun hk=>by
  have h1:=Kc7 h hk;unfold X3 Qu4 inB at h1;unfold Qd2;rw[if_pos rfl];simp only[Bool.and_eq_true,decide_eq_true_eq]at h1;omega
 refine⟨?_,key⟩
 rcases Nat.eq_zero_or_pos k with rfl|hp
 ·rw[Jw2];exact hk.la
 ·obtain⟨j,rfl⟩: ∃j,k=j+1:=⟨k-1,by omega⟩
  have hj:j<Fs.length:=by omega
  rw[Jw3 hj];have h1:=Kc7 h hj;unfold X3 Qu4 inB at h1;simp only[Bool.and_eq_true,decide_eq_true_eq]at h1;have hb:Q5 m.an m.st=true:=Qa0.2 ⟨hk.an.1,hk.an.2,hk.st.1,hk.st.2⟩;have h2:V5 m.an m.st=Xo5 m.an m.st:=if_pos hb;have h3:V6 m.an m.st=Jt2 m.an m.st:=if_pos hb;rw[h2,h3]at h1;unfold Xo5 Jt2 at h1;omega
theorem Jd8.next (h:Jd8 w0 w D e L S A cap l c F m lots side since hands k) {q:Int} (s:U4 q m m1 lots1 side1 Fs since hands hands1) (d:Y4 w0 w' D e L S A cap l c X xs F1 m1 (JX lots1 Fs) side1 (sinceN q m m1 since) hands1):
  Jd8 w0 w' D e L S A cap l c F1 m1 (JX lots1 Fs) side1 (sinceN q m m1 since) hands1 (k+1):=by
 refine⟨d.day,s.plain,fun e=>(s.time e).2,by have:=s.now;have:=h.now;omega, ?_,s.end_,fun id=> ?_, ?_,h.c0,d.bel,d.fl,d.dl,d.ll,d.sl,h.al⟩
 ·have hf:=h.fin
  rcases s.now with e|⟨e,h7⟩
  ·omega
  ·have h8: ¬Z8 l 4≤m.now:=fun hx=>h7 (h.end_.ended.2 ((Xi3 h.day.cfg.rows m.now).2 hx))
   omega
 ·have h1:=Ji0 s.good Fs.length id
  rw[List.take_length]at h1;have:=s.lts id;omega
 ·have:=h.snc
  unfold sinceN
  split
  ·split<;>omega
  ·omega
end
theorem Kr2 {l:List Int} {c:Qn0} (h:VW (Jo6 l c)):Qg7 (Jo6 l c) (fun _=>0) (fun _=>0):=
 ⟨h,⟨fun o ho=>(by cases ho),List.nodup_nil,List.Pairwise.nil,List.Pairwise.nil⟩,fun e=>absurd e (by show¬((1:Int)=3);decide)⟩
theorem Xz3 (l:List Int) (c:Qn0):V8 (Jo6 l c) 0:=⟨fun e=>absurd e (by show¬((1:Int)=4);decide),fun _=>rfl⟩
theorem Xe0 (l:List Int):0<Z8 l 4:=by
 have h1:Z8 l 4=Z8 l 3+Jo5 l 3:=rfl
 have:=Qr6 l 3 (by omega)
 have:=Xi1 l (i:=3) (by omega)
 omega
theorem Kj9 (l:List Int) (c:Qn0):Y3 (Jo6 l c):=
 ⟨Int.le_refl _,⟨fun e=>absurd e (by show¬((1:Int)=7);decide),fun e=>absurd ((Xi3 (m:=Jo6 l c) rfl 0).1 e) (by have:=Xe0 l;omega)⟩,fun e=>absurd e (by show¬((1:Int)=7);decide)⟩
theorem Kr3 {w w':World} {D e L S:Nat} {A:Option Addr} {cap:Nat} {l:List Int} {c:Qn0} {F:Nat→Prop} (hb:Below w.heap.size w w') (hd:Qc9 w' D e L S A cap l c F (Jo6 l c) (fun _=>0) (fun _=>0) 0 false) (hk:VW (Jo6 l c)) (hF: ∀i,F i→w.heap.size≤i) (h1:w.heap.size≤D) (h2:w.heap.size≤L) (h3:w.heap.size≤S) (h4: ∀g,QV A=some g→w.heap.size≤g):
  Jd8 w w' D e L S A cap l c F (Jo6 l c) (fun _=>0) (fun _=>0) 0 false 0:=
 ⟨hd,Kr2 hk,fun _=>Xz3 l c,Int.le_refl _,Int.le_of_lt (Xe0 l),Kj9 l c,fun _=>(by show(0:Int)≤30;decide),⟨Int.le_refl _,Int.le_refl _⟩,hk,hb,hF,h1,h2,h3,h4⟩
theorem Jd8.below {w0 w w':World} {D e L S:Nat} {A:Option Addr} {cap:Nat} {l:List Int} {c:Qn0} {F:Nat→Prop} {m:ZX} {lots side:Int→Int} {since:Int} {hands:Bool} {k:Nat} (h:Jd8 w0 w D e L S A cap l c F m lots side since hands k) (hb:Below w.heap.size w w'):Jd8 w0 w' D e L S A cap l c F m lots side since hands k:=
 ⟨h.day.below hb,h.plain,h.time,h.now,h.fin,h.end_,h.lts,h.snc,h.c0,h.bel.trans (hb.mono h.bel.size),h.fl,h.dl,h.ll,h.sl,h.al⟩
def Kv0 (w0 w:World) (D:Nat) (k:Nat):Prop:= ∃e L S A cap l c F m lots side since hands,Jd8 w0 w D e L S A cap l c F m lots side since hands k
structure Jd9 (w0 w:World) (D e L S:Nat) (A:Option Addr) (cap:Nat) (l:List Int) (c:Qn0) (F:Nat→Prop) (m:ZX) (lots side:Int→Int) (since:Int) (hands:Bool):Prop where
 day:Qc9 w D e L S A cap l c F m lots side since hands
 ok_:VW m
 end_:Y3 m
 fin:m.now≤Z8 l 4
 bel:Below w0.heap.size w0 w
 fl: ∀i,F i→w0.heap.size≤i
section
variable {w0 w w':World} {D e L S:Nat} {A:Option Addr} {cap:Nat} {l:List Int} {c:Qn0} {F:Nat→Prop} {m m1:ZX} {lots side:Int→Int} {since:Int} {hands:Bool} {k:Nat}
theorem Jd9.below (h:Jd9 w0 w D e L S A cap l c F m lots side since hands) (hb:Below w.heap.size w w'):Jd9 w0 w' D e L S A cap l c F m lots side since hands:=
 ⟨h.day.below hb,h.ok_,h.end_,h.fin,h.bel.trans (hb.mono h.bel.size),h.fl⟩
theorem Jd9.step {F1:Nat→Prop} (h:Jd9 w0 w D e L S A cap l c F m lots side since hands) (hE:UY w' e F1 m1) (hs:XW w w' F F1) (hc:YY m m1) (h1:VW m1) (h2:Y3 m1) (h3:m1.now≤Z8 l 4):Jd9 w0 w' D e L S A cap l c F1 m1 lots side since hands:=by
 have hz:=h.bel.size
 refine⟨h.day.engTo hE hs h.day.tabLt hc,h1,h2,h3,h.bel.trans (hs.1.below h.fl hz),fun i hi=> ?_⟩
 rcases hs.2 i hi with h4|h4
 ·exact h.fl i h4
 ·omega
theorem Jd9.in_ (h:Jd9 w0 w D e L S A cap l c F m lots side since hands):Qj4 m∧Qj4 (JY m):=by
 have h1:=h.end_.now
 have h2:=h.fin
 have h3:=(Qr6 l 4 (by omega)).2
 exact⟨h.ok_.in_ ⟨h1,by omega⟩,h.ok_.next.in_ ⟨by show 0≤m.now+1;omega,by show m.now+1≤1000000000000;omega⟩⟩
theorem Jd9.live (h:Jd9 w0 w D e L S A cap l c F m lots side since hands) (hn:m.now<Z8 l 4):m.ph≠7:=fun e=>by
 have:=(Xi3 h.day.cfg.rows m.now).1 (h.end_.ended.1 e)
 omega
theorem Jd9.over (h:Jd9 w0 w D e L S A cap l c F m lots side since hands) (hn: ¬m.now<Z8 l 4):m.now=Z8 l 4∧m.ph=7∧m.L1= []∧m.L2= []∧m.pk= []:=by
 have h1:=h.fin
 have h7:=h.end_.ended.2 ((Xi3 h.day.cfg.rows m.now).2 (by omega))
 exact⟨by omega,h7,h.end_.none_ h7⟩
theorem Jd9.tick (h:Jd9 w0 w D e L S A cap l c F m lots side since hands) (hn:m.now<Z8 l 4) {ev:Ending} (ht:J6 w w' e F (Jh1 m) (J2 m) (Jh0 m) ev):
  ∃A1 n1 c1 F1,ev= .returned (.tuple #[.slice A1 n1 c1,.nilIface])∧Jd9 w0 w' D e L S A cap l c F1 (J2 m) lots side since hands∧(J2 m).now=m.now+1:=by
 have h7:=h.live hn
 have hnow:=Jh7 m
 rw[if_neg h7]at hnow
 obtain⟨A1,c1,Fs,h1,h2,h3,h4,F1,hE,hs,h5⟩:=ht
 have e0:Jh0 m=0:=if_neg h7
 rw[e0,UV]at h1
 exact⟨A1,_,c1,F1,h1,h.step hE hs (Qy7 m) (h.ok_.tick hE.lists) h.end_.tick (by omega),hnow⟩
end
abbrev Kc8:=Int×QX
def Kr4 (x:Kc8):List Value:= .int .i64 x.1::I1 x.2
theorem Kz2 {w:World} {b off len:Nat} {l:List Kc8} (h:XZ w Kr4 6 (some ⟨b,off,none⟩) len l) {i:Nat} (hi:i<l.length):
  w.cell? ⟨b,off+i*6,none⟩=some (.int .i64 l[i].1)∧w.cell? ⟨b,off+i*6+1,none⟩=some (.int .i64 l[i].2.id)∧w.cell? ⟨b,off+i*6+2,none⟩=some (.int .i64 l[i].2.side)∧w.cell? ⟨b,off+i*6+3,none⟩=some (.int .i64 l[i].2.kind)∧w.cell? ⟨b,off+i*6+4,none⟩=some (.int .i64 l[i].2.price)∧w.cell? ⟨b,off+i*6+5,none⟩=some (.int .i64 l[i].2.qty):=
 ⟨h.at_ hi (j:=0) rfl,h.at_ hi (j:=1) rfl,h.at_ hi (j:=2) rfl,h.at_ hi (j:=3) rfl,h.at_ hi (j:=4) rfl,h.at_ hi (j:=5) rfl⟩
def Kr5 (rows:List (List Int)):List Kc8:=rows.map fun r=>(r.getD 0 0,⟨r.getD 1 0,r.getD 2 0,r.getD 3 0,r.getD 4 0,r.getD 5 0⟩)
theorem Xz4 {w:World} {A:Option Addr} {len cap:Nat} {rows:List (List Int)} (h:Jb6 w 6 A len cap rows):XZ w Kr4 6 A len (Kr5 rows):=by
 obtain⟨h1,_,_,h4,_,h6⟩:=h
 refine⟨by simp[Kr5,h1],fun hl=> ?_⟩
 obtain⟨b,off,hA,hb,hc⟩:=h6 hl
 refine⟨b,off,hA,hb,fun i hi j u hu=> ?_⟩
 have hi':i<rows.length:=by simpa [Kr5]using hi
 have hr:=(h4 rows[i] (List.getElem_mem _)).1
 have e:(Kr5 rows)[i]=(rows[i].getD 0 0,⟨rows[i].getD 1 0,rows[i].getD 2 0,rows[i].getD 3 0,rows[i].getD 4 0,rows[i].getD 5 0⟩):=by simp[Kr5]
 rw[e]at hu
 have key: ∀j (hj:j<rows[i].length),w.cell? ⟨b,off+i*6+j,none⟩=some (.int .i64 (rows[i].getD j 0)):=by
  intro j hj;rw[hc i hi' j hj];simp[List.getD_eq_getElem?_getD,hj]
 match j,hu with
 |0,hu=>cases hu;exact key 0 (by omega)
 |1,hu=>cases hu;exact key 1 (by omega)
 |2,hu=>cases hu;exact key 2 (by omega)
 |3,hu=>cases hu;exact key 3 (by omega)
 |4,hu=>cases hu;exact key 4 (by omega)
 |5,hu=>cases hu;exact key 5 (by omega)
end Go.Proofs.YtnlngicnfegjgaaGreat
