/- Contracts and walks that the law's proof needs. -/
import Derived.WalkKit
import Derived.WalkLawsBesides
import Derived.WalkSpells
import Derived.Deep.RegionLaw
import Derived.Deep.QuietTactic
import Derived.Deep.RegionWith
import Derived.BigQuiet
import Derived.StillTailTactics
import Derived.Deep.DeepCutAuto
import Derived.Deep.CutBlock
import Derived.Test.YtbmiieehkkfbgaaGreatDoorZd17
import Derived.Test.YtbmiieehkkfbgaaGreatDoorZd8
set_option linter.unusedVariables false
set_option maxRecDepth 100000
set_option maxHeartbeats 8000000
namespace Go.Proofs.YtbmiieehkkfbgaaGreatDoor
open Go.RowKit
theorem Qc0 {w:World} {g:Nat} {t:TypeId} {a b c d e:Value} (h:QJ w g t #[a,b,c,d,e]):
  w.cell? ⟨g,0,none⟩=some a∧w.cell? ⟨g,1,none⟩=some b∧w.cell? ⟨g,2,none⟩=some c∧w.cell? ⟨g,3,none⟩=some d∧w.cell? ⟨g,4,none⟩=some e:=
 ⟨by rw[QJ.cell h];rfl,by rw[QJ.cell h];rfl,by rw[QJ.cell h];rfl,by rw[QJ.cell h];rfl,by rw[QJ.cell h];rfl⟩
theorem Zh5 {W w1:World} (hb:Below W.heap.size W w1):(∀b o,b<W.heap.size→w1.cell? ⟨b,o,none⟩=W.cell? ⟨b,o,none⟩)∧(∀b o,b<W.heap.size→w1.frozen? ⟨b,o,none⟩=W.frozen? ⟨b,o,none⟩):=
 ⟨fun b o h=>hb.cell (p:=⟨b,o,none⟩) h,fun b o h=>hb.frozen (p:=⟨b,o,none⟩) h⟩
theorem QK.drew0 {S:Nat→Prop} {w w':World} (h:QK S w.drew w'):QK S w w':=⟨h.os,h.tape,h.output,h.size,h.block⟩
theorem Ql0 {w:World} {b a n r:Nat} {F:Nat→Prop} {M:Int→Int→Option QX} {f:Int→Option Value} {H:Int→HS} {reg:Nat→Int} {h1 h2 sd pr:Int} {mk:Bool} (hM:XK w b a F M n r f H reg):
  let W:=(w.alloc (.cells #[.int .i64 0,.int .i64 0,.int .i64 0,.int .i64 0,.int .i64 0] 117)).alloc (.cells #[.int .i64 h1,.int .i64 h2,.int .i64 sd,.int .i64 pr,.bool mk] 172)
  Below w.heap.size w W∧XK W b a F M n r f H reg∧QJ W w.heap.size 117 #[.int .i64 0,.int .i64 0,.int .i64 0,.int .i64 0,.int .i64 0]∧QJ W (w.heap.size+1) 172 #[.int .i64 h1,.int .i64 h2,.int .i64 sd,.int .i64 pr,.bool mk]:=by
 intro W
 have hb:Below w.heap.size w W:=((Below.refl _ w).alloc (Nat.le_refl _) _).alloc (by simp) _
 refine⟨hb,hM.below hb,QJ.alloc (QJ.new w _ _) _, ?_⟩
 have:=QJ.new (w.alloc (.cells #[.int .i64 0,.int .i64 0,.int .i64 0,.int .i64 0,.int .i64 0] 117)) 172 #[.int .i64 h1,.int .i64 h2,.int .i64 sd,.int .i64 pr,.bool mk]
 rwa [World.size_alloc]at this
theorem Js2 (w:World) (r:Nat) (f:Int→Option Value) (h:I7 w r f) (id:Int):
  ∃w',(∀ty,(Builtin.delete_ #[175,3] ty #[.map (some r),.int .i64 id]).run Tryz.prog w= .ok (.tuple #[]) w')∧I7 w' r (V1 f id none)∧Qf5 w w' r:=by
 obtain⟨w',h1,h2,h3⟩:=h.delete (P:=Tryz.prog) (t:=175) Tryz.underlying175 Tryz.underlying3 id 3 0
 exact⟨w',fun ty=>h1,h2,h3⟩
section
variable {M:Int→Int→Option QX} {n m:Nat} {f:Int→Option Value} {H:Int→HS} {s:Int}
theorem Kh7 (hs:UQ s) (hS:ZX M n f H) (h2:n≤100):(H s).ms.length≤1000:=by
 have h1:=hS.cnt
 unfold X0 HS.all V2 at h1
 simp only[List.length_append]at h1
 rcases hs with rfl|rfl<;>omega
theorem Js3 (hs:UQ s) (hS:ZX M n f H) (h2:n≤100):(H s).qs.length≤100000:=by
 have h1:=hS.cnt
 have h3:(H s).qs.length≤(IJ (H s).qs).length:=by
  have hne:=hS.ne s hs;generalize(H s).qs=l at hne
  induction l with
  |nil=>simp
  |cons q l ih=>
   have ih:=ih (fun q hq=>hne q (by simp[hq]));have h0:0<q.os.length:=List.length_pos_iff.2 (hne q (by simp));have e:IJ (q::l)=q.os++IJ l:=rfl;rw[e,List.length_append,List.length_cons];omega
 unfold X0 HS.all V2 at h1
 simp only[List.length_append]at h1
 rcases hs with rfl|rfl<;>omega
theorem Kx7 (hs:UQ s) (hS:ZX M n f H) (h2:n≤100) {k:Nat} (hk:k< (H s).qs.length):(H s).qs[k].os.length≤1000:=by
 have h1:=hS.cnt
 have h3:(H s).qs[k].os.length≤(IJ (H s).qs).length:=by
  rw[Y1 _ hk];simp only[List.length_append];omega
 unfold X0 HS.all V2 at h1
 simp only[List.length_append]at h1
 rcases hs with rfl|rfl<;>omega
end
def Xk5 (w wx:World) (qg k:Nat) (A:Option Addr) (c:Nat) (os:List HO) (h:Int×Int):Prop:=
 ∃w5,wx=World.setCell w5 ⟨qg,k*2+1,none⟩ (.slice A (os.filter (J9 h)).length c)∧QK (fun i=>QZ A=some i) w w5∧QW w5 A (os.filter (J9 h)).length c 170 2 (JQ V9 (J7 (os.filter (J9 h))))
theorem Xf1 {w w5:World} {qg k:Nat} {A:Option Addr} {c:Nat} {os:List HO} {h:Int×Int} (hk:QK (fun i=>QZ A=some i) w.drew w5) (hr:QW w5 A ((J7 os).filter fun p=> !isH h p).length c 170 2 (JQ V9 ((J7 os).filter fun p=> !isH h p))):
  Xk5 w (w5.setCell ⟨qg,k*2+1,none⟩ (.slice A ((J7 os).filter fun p=> !isH h p).length c)) qg k A c os h:=by
 refine⟨w5,by rw[Qa6],hk.drew0, ?_⟩
 rw[Qa6,←Qt8]at hr
 exact hr
def Jl4 (w wx:World) (b a r:Nat) (F:Nat→Prop) (M:Int→Int→Option QX) (n:Nat) (f':Int→Option Value) (H:Int→HS) (s id h1 h2:Int) (pb rb:Nat) (place:Array Value):Prop:=
 ∃(H5:Int→HS) (reg5:Nat→Int),XK wx b a F M n r f' H5 reg5∧KQ w wx (V6 b r F H) (V6 b r F H5)∧ZX (Z1 M h1 h2 none) (n-1) f' H5∧(H5 s).L=O0 (H s).L id∧(∀s',s'≠s→H5 s'=H s')∧
  QJ wx pb 172 place∧QJ wx rb 117 #[.int .i64 0,.int .i64 0,.int .i64 0,.int .i64 0,.int .i64 0]∧ ¬V6 b r F H5 rb
section
variable {w5:World} {b a n r:Nat} {F:Nat→Prop} {M:Int→Int→Option QX} {f:Int→Option Value} {H:Int→HS} {reg:Nat→Int} {s:Int}
theorem Xk6 (hs:UQ s) {h':HS} (hh: ∀i,HFp h' i→HFp (H s) i) {i:Nat} (h: ¬V6 b r F H i): ¬V6 b r F (upH H s h') i:=fun hi=>
 (Xj7 hs (m:=i+1) (fun j hj=> .inl (hh j hj)) i hi).elim h (by omega)
theorem Ji8 {W:World} {h1 h2:Int} {o:QX} (hM:XK w5 b a F M n r f H reg) (hW:Below w5.heap.size w5 W) (hMx:M h1 h2=some o):
  Calls Tryz.prog 153 #[.pointer (some ⟨a,0,none⟩),.agg #[.int .i64 h1,.int .i64 h2]] W fun e w'=>
   e= .returned (.tuple #[.agg #[.int .i64 o.id,.int .i64 o.side,.int .i64 o.kind,.int .i64 o.price,.int .i64 o.qty],.nilIface])∧ ∃F6 reg6,XK w' b a F6 (Z1 M h1 h2 none) (n-1) r f H reg6∧KQ W w' (V6 b r F H) (V6 b r F6 H):=by
 have hMW:=hM.below hW
 refine(Kv6 hMW.ar (by omega) h1 h2).mono ?_
 rintro e w' ⟨rfl,hc⟩
 refine⟨by unfold Kl6 Kl7;rw[hMx];rfl, ?_⟩
 rcases hc with⟨h,_⟩|⟨_,_,hto⟩
 ·rw[hMx]at h;cases h
 ·exact hMW.arena hto
theorem Qm3 {w:World} {t:Act} {Q:Ending→World→Prop} {g:Nat} {cs:Array Value} {v:Value} (hp:t.tmps.getD 4 undef= .pointer (some ⟨g,0,none⟩)) (h5:t.tmps.getD 5 undef=v) (hd:t.defers= [])
  (hg:QJ w g 117 cs) (hs:cs.size=5) (h:Q (.returned (.tuple #[.agg cs,v])) w):bodyPost Tryz.prog Tryz.f119 Q .ret t w:=by
 refine bodyPost_ret (v:= .tuple #[.agg cs,v]) ?_ hd h
 have hl:=run_loadVar_row (P:=Tryz.prog) w g _ 117 cs (0,0) _ hg Tryz.underlying117 rfl (by rw[hs];kernel_rfl)
 have hp':t.tmps[4]?.getD undef= .pointer (some ⟨g,0,none⟩):=by simpa using hp
 have h5':t.tmps[5]?.getD undef=v:=by simpa using h5
 simp[results,Tryz.results119,hp',h5',asAddr,hl]
end
theorem Zj7 (w:World) (g:Nat) (a b c d e:Value):QK (fun i=>i=g) w (((((w.setCell ⟨g,0,none⟩ a).setCell ⟨g,1,none⟩ b).setCell ⟨g,2,none⟩ c).setCell ⟨g,3,none⟩ d).setCell ⟨g,4,none⟩ e):=
 ((((QK.set_ w ⟨g,0,none⟩ a).trans (QK.set_ _ ⟨g,1,none⟩ b) (fun i h=> .inl h)).trans (QK.set_ _ ⟨g,2,none⟩ c) (fun i h=> .inl h)).trans (QK.set_ _ ⟨g,3,none⟩ d) (fun i h=> .inl h)).trans (QK.set_ _ ⟨g,4,none⟩ e) (fun i h=> .inl h)
theorem Jb2 {w w6:World} {b a n r rb:Nat} {F F6:Nat→Prop} {M':Int→Int→Option QX} {f':Int→Option Value} {H H5:Int→HS} {reg6:Nat→Int} {s id:Int} {x0 x1 x2 x3 x4:Value} (hM:XK w6 b a F6 M' (n-1) r f' H5 reg6) (hB:KQ w w6 (V6 b r F H) (V6 b r F6 H5))
  (hn: ¬V6 b r F6 H5 rb) (hrb:w.heap.size≤rb) (hS:ZX M' (n-1) f' H5) (hL:(H5 s).L=O0 (H s).L id) (hO: ∀s',s'≠s→H5 s'=H s'):
  Qi6 w (((((w6.setCell ⟨rb,0,none⟩ x0).setCell ⟨rb,1,none⟩ x1).setCell ⟨rb,2,none⟩ x2).setCell ⟨rb,3,none⟩ x3).setCell ⟨rb,4,none⟩ x4) b a r F n H s id:=by
 have hk:=Zj7 w6 rb x0 x1 x2 x3 x4
 exact⟨F6,M',f',H5,reg6,hM.keeps hk (fun i hi e=>hn (by rw[←e];exact hi)),hS,⟨hB.1.trans hk (fun i e=> .inr (by rw[e];exact hrb)),hB.2⟩,hL,hO⟩
section
variable {w w4 wx w7:World} {b a n r k qg pb rb:Nat} {F:Nat→Prop} {M:Int→Int→Option QX} {f f':Int→Option Value} {H:Int→HS} {reg4 reg6:Nat→Int} {s:Int} {q:QG} {h:Int×Int} {o:QX} {pl:Array Value}
def Qu1 (H:Int→HS) (s:Int) (k:Nat) (q:QG) (h:Int×Int):Int→HS:=upH H s ⟨(H s).mA,(H s).mc,(H s).qA,(H s).qc,(H s).ms,(H s).qs.set k ⟨q.price,q.A,q.c,q.os.filter (J9 h)⟩⟩
def Kx8 (w wx:World) (b a r:Nat) (F:Nat→Prop) (M:Int→Int→Option QX) (n:Nat) (f':Int→Option Value) (H:Int→HS) (s:Int) (k:Nat) (q:QG) (h:Int×Int) (pb rb:Nat) (pl:Array Value):Prop:=
 ∃reg6,XK wx b a F M n r f' (Qu1 H s k q h) reg6∧KQ w wx (V6 b r F H) (V6 b r F (Qu1 H s k q h))∧QJ wx pb 172 pl∧QJ wx rb 117 #[.int .i64 0,.int .i64 0,.int .i64 0,.int .i64 0,.int .i64 0]
theorem Zj8 (hs:UQ s) (hk:k< (H s).qs.length) (hqk:(H s).qs[k]=q): ∀i,HFp ⟨(H s).mA,(H s).mc,(H s).qA,(H s).qc,(H s).ms,(H s).qs.set k ⟨q.price,q.A,q.c,q.os.filter (J9 h)⟩⟩ i→HFp (H s) i:=by
 rintro i (hi|hi|⟨q',hq',hi⟩)
 ·exact .inl hi
 ·exact .inr (.inl hi)
 ·rcases List.mem_or_eq_of_mem_set hq' with h1|rfl
  ·exact .inr (.inr ⟨q',h1,hi⟩)
  ·exact .inr (.inr ⟨q,by rw[←hqk];exact List.getElem_mem _,hi⟩)
theorem Jw6 (hM4:XK w4 b a F M n r f' H reg4) (hS4:KQ w w4 (V6 b r F H) (V6 b r F H)) (hs:UQ s) (hk:k< (H s).qs.length) (hqk:(H s).qs[k]=q) (hqA:(H s).qA=some ⟨qg,0,none⟩) (hD:Xk5 w4 wx qg k q.A q.c q.os h)
  (hP:QJ w4 pb 172 pl) (hR:QJ w4 rb 117 #[.int .i64 0,.int .i64 0,.int .i64 0,.int .i64 0,.int .i64 0]) (hpb: ¬V6 b r F H pb) (hrb: ¬V6 b r F H rb):Kx8 w wx b a r F M n f' H s k q h pb rb pl:=by
 subst hqk
 obtain⟨w5,rfl,hk5,hr5⟩:=hD
 obtain⟨reg6,hM6,hB6⟩:=hM4.queue hs hk hqA hk5 hr5 (fun g hg=> .inl hg)
 have hq4: ∀g,¬V6 b r F H g→QZ (H s).qs[k].A≠some g∧g≠qg:=fun g hg=>⟨fun e=>hg (XK.fpH s hs (.inr (.inr ⟨_,List.getElem_mem _,e⟩))),fun e=>hg (XK.fpH s hs (.inr (.inl (by rw[hqA,e];rfl))))⟩
 exact⟨reg6,hM6,hS4.trans hB6,QJ.far (QJ.keeps hP hk5 (hq4 _ hpb).1) (p:=⟨qg,k*2+1,none⟩) (hq4 _ hpb).2 _,QJ.far (QJ.keeps hR hk5 (hq4 _ hrb).1) (p:=⟨qg,k*2+1,none⟩) (hq4 _ hrb).2 _⟩
theorem Jp5 (hS:ZX M n f H) (hs:UQ s) (hk:k< (H s).qs.length) (hqk:(H s).qs[k]=q) (hx:(h,o)∈q.os) (hxa:(h,o)∈(H s).all) (hne:(q.os.filter (J9 h)).length≠0) (hf:f'=V1 f o.id none)
  (hX:Kx8 w wx b a r F M n f' H s k q h pb rb pl) (hrb: ¬V6 b r F H rb):Jl4 w wx b a r F M n f' H s o.id h.1 h.2 pb rb pl:=by
 subst hf
 obtain⟨reg6,hM,hB,hP,hR⟩:=hX
 subst hqk
 obtain⟨h1,h2⟩:=Kb3 hS hs hk hx hxa (fun e=>hne (by rw[e];rfl)) (H s).qs[k].A (H s).qs[k].c
 exact⟨_,reg6,hM,hB,h1,h2,fun s' hs'=>UJ hs',hP,hR,Xk6 hs (Zj8 hs hk rfl) hrb⟩
theorem Kh8 (hs:UQ s) (hqA:(H s).qA=some ⟨qg,0,none⟩) (hM:XK wx b a F M n r f' (Qu1 H s k q h) reg6):
  QW wx (some ⟨qg,0,none⟩) (H s).qs.length (H s).qc 236 2 (JQ OQ (((H s).qs.set k ⟨q.price,q.A,q.c,q.os.filter (J9 h)⟩).map QG.que)):=by
 have h1:=(hM.hx s hs).rq
 have e:Qu1 H s k q h s=⟨(H s).mA,(H s).mc,(H s).qA,(H s).qc,(H s).ms,(H s).qs.set k ⟨q.price,q.A,q.c,q.os.filter (J9 h)⟩⟩:=by unfold Qu1;rw[VV]
 rw[e]at h1
 dsimp only at h1
 rw[hqA,List.length_set]at h1
 exact h1
theorem Jp6 (hS:ZX M n f H) (hs:UQ s) (hk:k< (H s).qs.length) (hqk:(H s).qs[k]=q) (hqA:(H s).qA=some ⟨qg,0,none⟩) (hx:(h,o)∈q.os) (hxa:(h,o)∈(H s).all) (hne:(q.os.filter (J9 h)).length=0) (hf:f'=V1 f o.id none)
  (hX:Kx8 w wx b a r F M n f' H s k q h pb rb pl) (hpb: ¬V6 b r F H pb) (hrb: ¬V6 b r F H rb)
  (hR7:QW w7 (some ⟨qg,0,none⟩) (k+ ((H s).qs.length- (k+1))) (H s).qc 236 2 (JQ OQ ((((H s).qs.set k ⟨q.price,q.A,q.c,q.os.filter (J9 h)⟩).map QG.que).take k++(((H s).qs.set k ⟨q.price,q.A,q.c,q.os.filter (J9 h)⟩).map QG.que).drop (k+1))))
  (hK7:QK (fun x=>x=qg) wx w7):
  Jl4 w (w7.setCell ⟨b,Qp6 s+1,none⟩ (.slice (some ⟨qg,0,none⟩) (k+ ((H s).qs.length- (k+1))) (H s).qc)) b a r F M n f' H s o.id h.1 h.2 pb rb pl:=by
 subst hf
 obtain⟨reg6,hM,hB,hP,hR⟩:=hX
 subst hqk
 have e:Qu1 H s k (H s).qs[k] h s=⟨(H s).mA,(H s).mc,(H s).qA,(H s).qc,(H s).ms,(H s).qs.set k ⟨(H s).qs[k].price,(H s).qs[k].A,(H s).qs[k].c,(H s).qs[k].os.filter (J9 h)⟩⟩:=by unfold Qu1;rw[VV]
 have hl:((H s).qs.take k++(H s).qs.drop (k+1)).length=k+ ((H s).qs.length- (k+1)):=by simp;omega
 have hset:((H s).qs.set k ⟨(H s).qs[k].price,(H s).qs[k].A,(H s).qs[k].c,(H s).qs[k].os.filter (J9 h)⟩).take k=(H s).qs.take k:=List.take_set_of_le (Nat.le_refl _)
 have hset2:((H s).qs.set k ⟨(H s).qs[k].price,(H s).qs[k].A,(H s).qs[k].c,(H s).qs[k].os.filter (J9 h)⟩).drop (k+1)=(H s).qs.drop (k+1):=List.drop_set_of_lt (by omega)
 rw[←List.map_take,←List.map_drop,hset,hset2,←List.map_append,←hl]at hR7
 have hX:=hM.queues (s:=s) hs (w3:=w7) (A':=some ⟨qg,0,none⟩) (c':=(H s).qc) (qs':=(H s).qs.take k++(H s).qs.drop (k+1))
  (by rw[e];dsimp only;rw[hqA];exact hK7.mono (fun i e=>by rw[e];rfl)) hR7 (fun g hg=> .inl (by rw[e];dsimp only;rw[hqA];exact hg))
  (fun q hq=> .inl (by
   rw[e];dsimp only;rcases List.mem_append.1 hq with hq|hq
   ·rw[←hset]at hq;exact List.mem_of_mem_take hq
   ·rw[←hset2]at hq;exact List.mem_of_mem_drop hq))
  (by
   have h3:=Jw0 (fun q:QG=>QZ q.A) _ k (hM.hx s hs).nd;rw[e]at h3;dsimp only at h3;rw[hset,hset2]at h3;exact h3)
 rw[hl]at hX
 obtain⟨reg7,hM7,hB7⟩:=hX
 rw[e]at hM7 hB7
 dsimp only at hM7 hB7
 have e2:upH (Qu1 H s k (H s).qs[k] h) s ⟨(H s).mA,(H s).mc,some ⟨qg,0,none⟩,(H s).qc,(H s).ms,(H s).qs.take k++(H s).qs.drop (k+1)⟩=upH H s ⟨(H s).mA,(H s).mc,some ⟨qg,0,none⟩,(H s).qc,(H s).ms,(H s).qs.take k++(H s).qs.drop (k+1)⟩:=by
  funext s'
  unfold Qu1 upH
  split<;>rfl
 rw[e2]at hM7 hB7
 obtain⟨h1,h2⟩:=Km9 hS hs hk hx hxa (List.length_eq_zero_iff.1 hne) (some ⟨qg,0,none⟩) (H s).qc
 have hfp: ∀i,HFp ⟨(H s).mA,(H s).mc,some ⟨qg,0,none⟩,(H s).qc,(H s).ms,(H s).qs.take k++(H s).qs.drop (k+1)⟩ i→HFp (H s) i:=by
  rintro i (hi|hi|⟨q',hq',hi⟩)
  ·exact .inl hi
  ·exact .inr (.inl (by rw[hqA];exact hi))
  ·refine .inr (.inr ⟨q', ?_,hi⟩)
   rcases List.mem_append.1 hq' with hq|hq
   ·exact List.mem_of_mem_take hq
   ·exact List.mem_of_mem_drop hq
 have hq4: ∀g,¬V6 b r F H g→g≠qg∧g≠b:=fun g hg=>⟨fun e=>hg (XK.fpH s hs (.inr (.inl (by rw[hqA,e];rfl)))),fun e=>hg (.inl e)⟩
 exact⟨_,reg7,hM7,hB.trans hB7,h1,h2,fun s' hs'=>UJ hs',QJ.far (QJ.keeps hP hK7 (hq4 _ hpb).1) (p:=⟨b,Qp6 s+1,none⟩) (hq4 _ hpb).2 _,QJ.far (QJ.keeps hR hK7 (hq4 _ hrb).1) (p:=⟨b,Qp6 s+1,none⟩) (hq4 _ hrb).2 _,Xk6 hs hfp hrb⟩
end
def Xk7 (w wx:World) (b a r rb:Nat) (F:Nat→Prop) (M:Int→Int→Option QX) (n:Nat) (f':Int→Option Value) (H:Int→HS) (s id h1 h2:Int) (cs:Array Value):Prop:=
 Qi6 w wx b a r F n H s id∧QJ wx rb 117 cs
theorem Jw7 (w:World) (b a:Nat) (F:Nat→Prop) (M:Int→Int→Option QX) (n r:Nat) (f:Int→Option Value) (H:Int→HS) (reg:Nat→Int) (hM:XK w b a F M n r f H reg) (id:Int) (hf:f id=none):
  Calls Tryz.prog 119 #[.pointer (some ⟨b,0,none⟩),.int .i64 id] w fun e w'=>e= .returned (.tuple #[.agg #[.int .i64 0,.int .i64 0,.int .i64 0,.int .i64 0,.int .i64 0],VZ 7])∧Below w.heap.size w w':=by
 have hb0:Below w.heap.size w (w.alloc (.cells #[.int .i64 0,.int .i64 0,.int .i64 0,.int .i64 0,.int .i64 0] 117)):=(Below.refl _ w).alloc (Nat.le_refl _) _
 have hM0:=hM.below hb0
 have hlk:=OW hM0.mp hf
 obtain⟨y0,y1,y2,y3,y4,y5⟩:=hM0.cells
 have HR:=QQ (QJ.new w 117 #[.int .i64 0,.int .i64 0,.int .i64 0,.int .i64 0,.int .i64 0])
 have HB:=QQ hb0
 clear y0 y2 y3 y4 y5 hM hM0 hf hb0
 go_enter Tryz.func119,Tryz.ntmps119
 go_wp2_with fail
 refine Qm3 (g:=w.heap.size) (cs:= #[.int .i64 0,.int .i64 0,.int .i64 0,.int .i64 0,.int .i64 0]) (v:=VZ 7) (by with_unfolding_all rfl) (by with_unfolding_all rfl) (by with_unfolding_all rfl) (QJ.alloc HR.out _) rfl ?_
 exact⟨rfl,HB.out.alloc (by simp) _⟩
theorem Kb5 (w:World) (b:Nat) (o:QX) (a:Nat) (F:Nat→Prop) (M:Int→Int→Option QX) (n r:Nat) (f:Int→Option Value) (H:Int→HS) (reg:Nat→Int) (hM:XK w b a F M n r f H reg)
  (hS:ZX M n f H) (hfit:Qf4 o)
  (h:Jc0 o=true) (hr:Qr3 o=true) (hf:f o.id=none) (hn:n<100) (hsd:o.side=1) (hkd:(o.kind ==2)=true):
  Calls Tryz.prog 142 #[.pointer (some ⟨b,0,none⟩),KJ o] w fun e w'=>e= .returned (VZ 0)∧Qo4 w w' b a r F n H (JJ o):=by
 obtain⟨hs,hi⟩:=Qd2.1 h
 obtain⟨mk,hmk,hmkv⟩: ∃mk,(o.kind ==2)=mk∧mk=true:=⟨_,rfl,hkd⟩
 have HMkv:=QQ hmkv
 clear hmkv hkd
 obtain⟨o',ho'⟩: ∃o',JJ o=o':=⟨_,rfl⟩
 have HSide:=QQ hsd
 have HM:=QQ hM
 clear hsd
 have HR:=QQ (show J4 o'.price o.qty=true by rw[←ho'];exact hr)
 have HF:=QQ hf
 have HK:=QQ hmk
 have HN:=QQ hn
 have HSd:=QQ hs
 have HO:=QQ ho'
 have HI:=QQ hi
 have HSm:=QQ hS
 have HOk:=QQ (show OkO o' by
  have hp:=V3.1 (show J4 o'.price o.qty=true by rw[←ho'];exact hr);rw[←ho']at hp⊢;obtain⟨f1,f2,f3,f4,f5⟩:=hfit;exact⟨⟨f1,f2,f3,by unfold KZ;omega,f5⟩,hi,⟨hp.1,hp.2.1⟩,⟨hp.2.2.1,hp.2.2.2⟩⟩)
 have B0:=QJ.new w 117 (KV o)
 have hB0:Below w.heap.size w (w.alloc (.cells (KV o) 117)):=(Below.refl _ w).alloc (Nat.le_refl _) _
 have HX0:=QQ B0
 have HB0:=QQ hB0
 unfold KJ
 clear h hi hr hM hf hn hs hS hfit ho' hmk B0 hB0
 go_enter Tryz.func142,Tryz.ntmps142
 go_upto_region 1 with fail
 go_cut [25] (fun s25 wx=>s25= .bool false∧Qr4 w wx b a F M n r f H reg o)
 case first=>
  obtain⟨id,side,kind,price,qty⟩:=o;have d1:decide (id<1)=false:=OY (by have:=HI.out;dsimp only at this;omega);rcases HSd.out with h1|h1
  ·dsimp only at h1
   subst h1;go_wp2_with fail
   go_meet;exact⟨rfl,HB0.out,HM.out.below HB0.out,HX0.out⟩
  ·dsimp only at h1
   subst h1;go_wp2_with fail
   go_meet;exact⟨rfl,HB0.out,HM.out.below HB0.out,HX0.out⟩
 case rest=>
  obtain⟨rfl,h8⟩:=hcut;have H8:=QQ h8;obtain⟨x0,x1,x2,x3,x4⟩:=JV h8.2.2;have xf:=QJ.frozen h8.2.2 3;have t1:=HK.out;clear h8;go_upto_if 30 with fail
  go_cut [31] (fun s31 wx=>Qr4 w wx b a F M n r f H reg o')
  case first=>
   cases mk with
   |true=>
    have t2:=QQ t1;clear t1;go_wp2_with fail
    go_meet;rw[←HO.out];exact Qm2 HM.out H8.out t2.out
   |false=>
    have t2:=QQ t1;clear t1;go_wp2_with fail
    go_meet;rw[←HO.out,Qr5 t2.out];exact H8.out
  case rest=>
   clear x0 x1 x2 x3 x4 xf H8 HX0 HB0;have e4:o'.qty=o.qty:=by rw[←HO.out];rfl
   have e0:o'.id=o.id:=by rw[←HO.out];rfl
   have e1:o'.side=o.side:=by rw[←HO.out];rfl
   have e2:o'.kind=o.kind:=by rw[←HO.out];rfl
   have H8:=QQ hcut;obtain⟨x0,x1,x2,x3,x4⟩:=JV hcut.2.2;rw[e4]at x4;rw[e0]at x0;rw[e1]at x1;rw[e2]at x2;clear t1 hcut;have E4:=QQ e4;have E0:=QQ e0;have E1:=QQ e1;have E2:=QQ e2;clear e4 e0 e1 e2;go_wp2_with fail
   refine(U2 _ _ _).mono ?_;rintro e w1 ⟨rfl,hb⟩;rw[HR.out];clear x0 x1 x2 x3 x4;have h8:=Qh5 H8.out hb;clear H8 HR;have H8:=QQ h8;have hl1:=QJ.lt h8.2.2;have hl2:=QJ.lt h8.2.1.blk;obtain⟨x0,x1,x2,x3,x4⟩:=JV h8.2.2;obtain⟨y0,y1,y2,y3,y4,y5⟩:=h8.2.1.cells;rw[E4.out]at x4;rw[E0.out]at x0;rw[E1.out]at x1;rw[E2.out]at x2;have hlk:=OW (w:=(w1.alloc (.cells #[.int .i64 0,.int .i64 0,.int .i64 0,.int .i64 0,.bool false] 172)).drew) (h8.2.1.mp.alloc _) HF.out;have hlk2:=OW (w:=w1.drew) h8.2.1.mp HF.out;clear h8 hb;go_upto_region 8 with fail
   go_cut [7] (fun s7 wx=>s7= .bool false∧Qr4 w wx b a F M n r f H reg o')
   case first=>
    clear y0 y2 y3 y4 y5 x1 x2 x3 x4
    as_aux_lemma=>
    go_region_law (fail)
    all_goals go_wp2_with fail
    all_goals go_meet
    all_goals exact⟨rfl,Qh5 H8.out (Below.drew ((Below.refl _ w1).alloc (Nat.le_refl _) _))⟩
   case rest=>
    clear x0 x1 x2 x3 x4 y0 y1 y2 y3 y4 y5 hlk hlk2 hl1 hl2 H8;obtain⟨rfl,h8⟩:=hcut;have H8:=QQ h8;have hl1:=QJ.lt h8.2.2;have hl2:=QJ.lt h8.2.1.blk;have hao:KJ o'= .agg #[.int .i64 o.id,.int .i64 o.side,.int .i64 o.kind,.int .i64 o'.price,.int .i64 o.qty]:=by unfold KJ;rw[E0.out,E1.out,E2.out,E4.out]
    have hput: ∀W,Below wc.heap.size wc W→Calls Tryz.prog 181 #[.pointer (some ⟨a,0,none⟩),.agg #[.int .i64 o.id,.int .i64 o.side,.int .i64 o.kind,.int .i64 o'.price,.int .i64 o.qty]] W (Ze6 W a F M n o'):=by
     intro W hW;rw[←hao];refine(Jh8 (h8.2.1.ar.below hW) (by omega) o').mono ?_;rintro e w' (⟨h1,_,_⟩|⟨_,sl,ag,h1,h2,h3⟩)
     ·have:=HN.out;omega
     ·exact⟨sl,ag,h1,h2,h3⟩
    have HPA:=QQ (hput ((wc.alloc (.cells #[.int .i64 0,.int .i64 0] 170)).drew) (Below.drew ((Below.refl _ _).alloc (Nat.le_refl _) _)));have HPB:=QQ (hput wc.drew (Below.drew (Below.refl _ _)));obtain⟨x0,x1,x2,x3,x4⟩:=JV h8.2.2;obtain⟨y0,y1,y2,y3,y4,y5⟩:=h8.2.1.cells;rw[E4.out]at x4;rw[E0.out]at x0;rw[E1.out]at x1;rw[E2.out]at x2;clear h8 hput hao;go_upto_region 11 with fail
    go_cut [8,9] (fun s8 s9 wx=>s9= .nilIface∧Xs6 w wx b a F M n r f H o' s8)
    case first=>
     clear y1 y2 y3 y4 y5
     as_aux_lemma=>
     go_region_with (first|(go_at_call 181;refine HPA.out.mono ?_;rintro e w5 ⟨sl,ag,hno,rfl,hto⟩;have hb5:=Js1 H8.out.2.1.ar hto;have z0:w5.cell? ⟨wc.heap.size,0,none⟩=some (.int .i64 0):=(by rw[QJ.cell hb5];rfl);have z1:w5.cell? ⟨wc.heap.size,1,none⟩=some (.int .i64 0):=(by rw[QJ.cell hb5];rfl);have f0:=QJ.frozen hb5 0;have f1:=QJ.frozen hb5 1;have HB5:=QQ hb5;have HT5:=QQ hto;have HNo:=QQ hno;clear hto hno hb5)|(go_at_call 181;refine HPB.out.mono ?_;rintro e w5 ⟨sl,ag,hno,rfl,hto⟩;have HT5:=QQ hto;have HNo:=QQ hno;clear hto hno))
     all_goals go_wp2_with fail
     all_goals go_meet
     all_goals
      refine⟨rfl, ?_⟩
      first
       |exact Qi5 HM.out H8.out (Below.drew ((Below.refl _ _).alloc (Nat.le_refl _) _)) HNo.out HT5.out (Jb0 _ _ 0 1 _ _) (.inl (by simp)) (Nat.le_refl _) (QJ.set_ (QJ.set_ HB5.out 0 _) 1 _)
       |exact Qi5 HM.out H8.out (Below.drew (Below.refl _ _)) HNo.out HT5.out (QK.of_below ((Below.refl _ _).alloc (Nat.le_refl _) _) _) (.inr (Nat.le_refl _)) (Nat.le_trans (Below.drew (Below.refl wc.heap.size wc)).size HT5.out.choose_spec.2.1.size) (QJ.new _ _ _)
    case rest=>
     obtain⟨rfl,hd,pb,F',reg',rfl,hno,hPb,hX,hM3,hS3,hnp,hnx⟩:=hcut;clear x0 x1 x2 x3 x4 y0 y1 y2 y3 y4 y5 hl1 hl2 H8 HPA HPB;have hI0:I7 wc.drew r f:=hM3.mp.of_block rfl;obtain⟨w4,hup,hI4,hT4⟩:=hI0.update (P:=Tryz.prog) (t:=175) Tryz.underlying175 Tryz.underlying3 o.id (.agg #[.int .i64 hd.1,.int .i64 hd.2,.int .i64 o.side,.int .i64 o'.price,.bool mk]);have hB3:Below wc.heap.size wc wc.drew:=Below.drew (Below.refl _ _);obtain⟨hM4,hS4⟩:=(hM3.below hB3).map_ hT4 hI4;have hS34:=(hS3.trans (KQ.of_below hB3)).trans hS4;have hPb4:QJ w4 pb 170 #[.int .i64 hd.1,.int .i64 hd.2]:=QJ.of_block (QJ.drew hPb) (hT4.block pb (fun e=>hnp (.inr (.inl e))));have hX4:QJ w4 w.heap.size 117 (KV o'):=QJ.of_block (QJ.drew hX) (hT4.block _ (fun e=>hnx (.inr (.inl e))));obtain⟨x0,x1,x2,x3,x4⟩:=JV hX;rw[E0.out]at x0;rw[E1.out]at x1;have p0:wc.cell? ⟨pb,0,none⟩=some (.int .i64 hd.1):=by rw[QJ.cell hPb];rfl
     have p1:wc.cell? ⟨pb,1,none⟩=some (.int .i64 hd.2):=by rw[QJ.cell hPb];rfl
     have y1:=hM3.cells.2.1;have HM4:=QQ hM4;have HS34:=QQ hS34;have HPb:=QQ hPb4;have HX4:=QQ hX4;have HNo:=QQ hno;have HNp:=QQ hnp;have HNx:=QQ hnx;clear hI0 hI4 hT4 hM4 hS4 hS34 hPb4 hX4 hPb hX hM3 hS3 hno hnp hnx hB3 x2 x4;go_upto_region 14 with fail
     go_cut [75] (fun s75 wx=>wx=w4)
     case first=>
      go_still_tail 13,(by kernel_rfl)
      change wpList _ _ _ _ _ wc.drew;go_wp2_with fail
      go_meet
      rfl
     case rest=>
      subst hcut;clear x0 x1 x3 p0 p1 y1 hup;have hpv:Value.agg #[.int .i64 hd.1,.int .i64 hd.2,.int .i64 o.side,.int .i64 o'.price,.bool mk]=X3 (hd,o'):=by
       unfold X3;dsimp only;rw[E1.out,E2.out,HK.out]
      have HMp:=QQ (show XK wc b a F' (Z1 M hd.1 hd.2 (some o')) (n+1) r (V1 f o'.id (some (X3 (hd,o')))) H reg' by rw[←hpv,E0.out];exact HM4.out);clear hpv HM4;have hs:=HSide.out;have hs':o'.side=1:=E1.out.trans hs;have HSd1:=QQ hs';obtain⟨y0,y1,y2,y3,y4,y5⟩:=HMp.out.cells;have x1:wc.cell? ⟨w.heap.size,1,none⟩=some (.int .i64 1):=by rw[QJ.cell HX4.out];show some (Value.int .i64 o'.side)=_;rw[hs']
      have HSd2:=QQ hs;clear y0 y1 y2 y3 y4 y5 hs hs';have hmk2:=HMkv.out;subst hmk2;have HKm:Hid (o'.kind=2):=QQ (by rw[E2.out];simpa using HK.out);go_wp2_with fail
      go_quiet (fail)
      have hq:Below wc.heap.size wc (wc.drewN nq):=QY (Below.refl _ _) nq;have HM5:=QQ (HMp.out.below hq);have HPb5:=QQ (QJ.drewN HPb.out nq);have HS5:=QQ (HS34.out.trans (KQ.of_below hq));clear x1 hq;generalize wc.drewN nq=w5 at HM5 HPb5 HS5⊢;obtain⟨y0,y1,y2,y3,y4,y5⟩:=HM5.out.cells;obtain⟨m,hm⟩: ∃m,(H 1).ms.length=m:=⟨_,rfl⟩;rw[hm]at y2;have HRow:=QQ (show QW w5 (H 1).mA m (H 1).mc 170 2 (JQ V9 (J7 (H 1).ms)) by rw[←hm];exact(HM5.out.hx 1 ZQ).rm);have Hm:=QQ hm;have hm100:m≤1000:=Kw3 ZQ hm HSm.out.cnt HN.out;have hmb:QZ (H 1).mA≠some b:=fun e=>by have:=(HM5.out.hx 1 ZQ).gm b e;have:=HM5.out.gb;omega
      have HMb:=QQ hmb;obtain⟨p0,p1⟩:w5.cell? ⟨pb,0,none⟩=some (.int .i64 hd.1)∧w5.cell? ⟨pb,1,none⟩=some (.int .i64 hd.2):=⟨by rw[QJ.cell HPb5.out];rfl,by rw[QJ.cell HPb5.out];rfl⟩;have hbl:=QJ.lt HM5.out.blk;have hpl:=QJ.lt HPb5.out;obtain⟨i0,hi0,hz0,hz1,hz2⟩:=info_parts Qo5;clear hm hmb y0 y1;go_upto_region 17 with fail
      go_region_law ((refine step_append_lies _ (by rfl) _ _ _ (by rfl) 0 170 i0 _ 2 16 Tryz.underlying176 hi0 hz0 hz1 hz2 rfl (by omega) (.slice (H 1).mA m (H 1).mc) m _ (by rfl) ((World.ownsRow.alloc HRow.out _).drew) ⟨w5.heap.size,0,none⟩ 1 1 (V9 hd) (by rfl) (by rfl) (World.news_of_block (cs:= #[.int .i64 hd.1,.int .i64 hd.2]) (t:=170) (fr:=(0,0)) (heap_alloc_new w5 _)) (Jh5 _) (by omega) (by unfold maxLen;omega) (by omega) (by simp) (w5.heap.size+1) (by simp) ?_;intro gg cap w6 hown hgrow hat hlt;have hk6:=OV hgrow;have b6:=QJ.keeps HM5.out.blk hk6 (fun e=>by rw[JW]at e;exact HMb.out e);have r0:w6.cell? ⟨b,2,none⟩=some (.slice (H 1).mA m (H 1).mc):=(by rw[QJ.cell b6];exact congrArg (fun k=>some (Value.slice (H 1).mA k (H 1).mc)) Hm.out);have rf0:=QJ.frozen b6 2;have HK6:=QQ hk6;have HO6:=QQ hown;have HA6:=QQ hat;clear b6 hgrow hk6 hown hat))
      all_goals go_wp2_with fail
      all_goals
       go_ret;refine⟨rfl, ?_⟩;rw[HO.out];exact Qx8 HSm.out ZQ HSd1.out HKm.out HOk.out HNo.out (by rw[E0.out];exact HF.out) HM5.out HS5.out Hm.out HK6.out HO6.out HA6.out
end Go.Proofs.YtbmiieehkkfbgaaGreatDoor
