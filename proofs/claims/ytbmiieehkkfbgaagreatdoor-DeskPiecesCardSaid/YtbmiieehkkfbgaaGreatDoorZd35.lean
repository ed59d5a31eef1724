/- Contracts and walks that the law's proof needs. -/
import Derived.Test.YtbmiieehkkfbgaaGreatDoorZd33
import Derived.WalkKit
import Derived.WalkLawsBesides
import Derived.WalkSpells
import Derived.StillTailTactics
import Derived.Deep.QuietTactic
import Derived.BigQuiet
import Derived.BigRegion
import Derived.Deep.DeepCutAuto
import Derived.Deep.CutBlock
import Derived.Test.YtbmiieehkkfbgaaGreatDoorZd34
set_option linter.unusedVariables false
set_option maxRecDepth 100000
set_option maxHeartbeats 8000000
namespace Go.Proofs.YtbmiieehkkfbgaaGreatDoor
open Go.RowKit
def Qo8 (o:QX):Int×Int×Int×Int:=(o.id,o.side,o.kind,o.price)
def Ki9 (s p:Int) (k:Int×Int×Int×Int):Bool:=(k.2.2.1 ==2) || ((s ==1) &&decide (p≤k.2.2.2)) || ((s ==2) &&decide (k.2.2.2≤p))
def IW (K L:List QX):Prop:=(K.map Qo8).Sublist (L.map Qo8)
section
variable {K L K' L' M:List QX} {s:Int}
theorem IW.refl (L:List QX):IW L L:=List.Sublist.refl _
theorem IW.trans (h:IW K L) (h':IW L M):IW K M:=List.Sublist.trans h h'
theorem IW.of_sub (h:K.Sublist L):IW K L:=h.map _
theorem IW.append (h:IW K L) (h':IW K' L'):IW (K++K') (L++L'):=by
 unfold IW
 rw[List.map_append,List.map_append]
 exact List.Sublist.append h h'
theorem IW.nil (L:List QX):IW [] L:=List.nil_sublist _
theorem IW.cons {x y:QX} (h:IW K L) (e:Qo8 x=Qo8 y):IW (x::K) (y::L):=by
 unfold IW
 rw[List.map_cons,List.map_cons,e]
 exact List.Sublist.cons_cons _ h
theorem IW.skip (h:IW K L) (y:QX):IW K (y::L):=List.Sublist.cons _ h
theorem IW.mem (h:IW K L) {x:QX} (hx:x∈K): ∃o∈L,Qo8 o=Qo8 x:=by
 have h1:=h.subset (List.mem_map.2 ⟨x,hx,rfl⟩)
 obtain⟨o,ho,e⟩:=List.mem_map.1 h1
 exact⟨o,ho,e⟩
theorem IW.ranked (h:IW K L) (hr:Qu3 s L):Qu3 s K:=by
 have h1:(L.map Qo8).Pairwise (fun a b=> ∀p,Ki9 s p b=true→Ki9 s p a=true):=List.pairwise_map.2 hr
 have h2:(K.map Qo8).Pairwise (fun a b=> ∀p,Ki9 s p b=true→Ki9 s p a=true):=h1.sublist h
 rw[List.pairwise_map]at h2
 exact h2
theorem Kd8 (L:List QX):L.map (·.id)=(L.map Qo8).map (·.1):=by rw[List.map_map];rfl
theorem IW.nodup (h:IW K L) (hn:(L.map (·.id)).Nodup):(K.map (·.id)).Nodup:=by
 rw[Kd8]at hn⊢
 exact List.Nodup.sublist (List.Sublist.map _ h) hn
theorem Kp5 {x o:QX} (h:Qo8 o=Qo8 x):x.id=o.id∧x.side=o.side∧x.kind=o.kind∧x.price=o.price:=by
 unfold Qo8 at h
 simp only[Prod.mk.injEq]at h
 exact⟨h.1.symm,h.2.1.symm,h.2.2.1.symm,h.2.2.2.symm⟩
end
theorem Jy7 (L:List QX) (id:Int):IW (O0 L id) L:=IW.of_sub List.filter_sublist
theorem Kd9 (L:List QX) (k:Nat):IW (Jl8 L k) L:=by
 refine IW.of_sub ?_
 unfold Jl8
 have h:(L.take k++L.drop (k+1)).Sublist (L.take k++L.drop k):=List.Sublist.append (List.Sublist.refl _) (by
  have e:L.drop (k+1)=(L.drop k).drop 1:=by rw[List.drop_drop]
  rw[e];exact List.drop_sublist _ _)
 rw[List.take_append_drop]at h
 exact h
theorem Kz2 {g:XQ→Int} {l:List XQ} (h: ∀f∈l,0≤g f):0≤Qa3 g l:=by
 induction l with
 |nil=>exact Int.le_refl _
 |cons f t ih=>
  have h1:=h f (List.mem_cons_self);have h2:=ih (fun z hz=>h z (List.mem_cons_of_mem _ hz));show 0≤g f+Qa3 g t;omega
def Xv6 (F:List XQ) (id:Int):Int:=Qa3 (fun f=>if f.b=id then f.n else 0) F
def Kz3 (F:List XQ) (id:Int):Int:=Qa3 (fun f=>if f.s=id then f.n else 0) F
def Qn0 (F:List XQ) (id:Int):Int:=Xv6 F id+Kz3 F id
theorem Jy8 (id:Int):Qn0 [] id=0:=rfl
theorem Jq5 (f:XQ) (F:List XQ) (id:Int):Qn0 (f::F) id=((if f.b=id then f.n else 0)+ (if f.s=id then f.n else 0))+Qn0 F id:=by
 unfold Qn0 Xv6 Kz3
 show(if f.b=id then f.n else 0)+Qa3 _ F+ ((if f.s=id then f.n else 0)+Qa3 _ F)=_
 omega
def Jm4 (lots:Int→Int) (F:List XQ) (id:Int):Int:=lots id-Qn0 F id
def Qs4 (lots side:Int→Int) (F:List XQ):Prop:=
 ∀F1 f F2,F=F1++f::F2→1≤f.n∧side f.b=1∧side f.s=2∧f.n≤lots f.b-Qn0 F1 f.b∧f.n≤lots f.s-Qn0 F1 f.s
theorem Qs4.nil (lots side:Int→Int):Qs4 lots side []:=fun F1 f F2 h=>by cases F1<;>cases h
theorem Qs4.cons {lots side:Int→Int} {f:XQ} {F:List XQ} (h1:1≤f.n) (hb:side f.b=1) (hs:side f.s=2) (lb:f.n≤lots f.b) (ls:f.n≤lots f.s)
  (h:Qs4 (fun id=>lots id- ((if f.b=id then f.n else 0)+ (if f.s=id then f.n else 0))) side F):Qs4 lots side (f::F):=by
 intro F1 g F2 e
 cases F1 with
 |nil=>
  rw[List.nil_append]at e
  cases e;exact⟨h1,hb,hs,by rw[Jy8];omega,by rw[Jy8];omega⟩
 |cons z F1=>
  rw[List.cons_append]at e
  cases e;obtain⟨a1,a2,a3,a4,a5⟩:=h F1 g F2 rfl;refine⟨a1,a2,a3, ?_, ?_⟩
  ·rw[Jq5];dsimp only at a4;omega
  ·rw[Jq5];dsimp only at a5;omega
def Kz4 (la:Int):List XQ→Int
 | []=>la
 |f::F=>Kz4 f.p F
def Ql6 (al:Int→Int→Bool) (la:Int) (F:List XQ):Prop:= ∀F1 f F2,F=F1++f::F2→al (Kz4 la F1) f.p=true
theorem Ql6.nil (al:Int→Int→Bool) (la:Int):Ql6 al la []:=fun F1 f F2 h=>by cases F1<;>cases h
theorem Ql6.cons {al:Int→Int→Bool} {la:Int} {f:XQ} {F:List XQ} (h1:al la f.p=true) (h:Ql6 al f.p F):Ql6 al la (f::F):=by
 intro F1 g F2 e
 cases F1 with
 |nil=>
  rw[List.nil_append]at e
  cases e;exact h1
 |cons z F1=>
  rw[List.cons_append]at e
  cases e;exact h F1 g F2 rfl
def Zk2 (L1 L2:List QX):Prop:=(∀o∈L1++L2,o.kind=1)∧ ∀x∈L1,∀y∈L2,x.price<y.price
structure Zm6 (lots side:Int→Int) (al:Int→Int→Bool) (L:List QX) (o:QX) (s:Int) (r:U8 Int):Prop where
 good:Qs4 lots side r.fills
 bands:Ql6 al s r.fills
 left:r.left.qty=Jm4 lots r.fills o.id
 key:Qo8 r.left=Qo8 o
 pos:0≤r.left.qty
 rest: ∀x∈r.rest,x.qty=Jm4 lots r.fills x.id
 other: ∀id,id≠o.id→(∀x∈L,x.id≠id)→Jm4 lots r.fills id=lots id
 stop:r.stop=false→r.left.qty<1∨ ∀x∈r.rest,X6 o x=true
structure Qk1 (m:VQ) (lots side:Int→Int):Prop where
 has: ∀o∈m.L1++m.L2++m.pk,lots o.id=o.qty∧side o.id=o.side∧o.id∈m.ids
 one:((m.L1++m.L2++m.pk).map (·.id)).Nodup
 r1:Qu3 1 m.L1
 r2:Qu3 2 m.L2
section
variable {m m':VQ} {lots lots' side side':Int→Int}
theorem Qk1.under (h:Qk1 m lots side) (u1:IW m'.L1 m.L1) (u2:IW m'.L2 m.L2) (u3:IW m'.pk m.pk) (hi:m'.ids=m.ids) (hq: ∀o∈m'.L1++m'.L2++m'.pk,o.qty=lots' o.id):Qk1 m' lots' side:=by
 have u:=(u1.append u2).append u3
 refine⟨fun o ho=> ?_,u.nodup h.one,u1.ranked h.r1,u2.ranked h.r2⟩
 obtain⟨x,hx,e⟩:=u.mem ho
 obtain⟨a1,a2,a3⟩:=h.has x hx
 obtain⟨e1,e2,e3,e4⟩:=Kp5 e
 exact⟨(hq o ho).symm,by rw[e1,a2,e2],by rw[hi,e1];exact a3⟩
theorem Qk1.same (h:Qk1 m lots side) (e1:m'.L1=m.L1) (e2:m'.L2=m.L2) (e3:m'.pk=m.pk) (e4:m'.ids=m.ids):Qk1 m' lots side:=
 ⟨by rw[e1,e2,e3,e4];exact h.has,by rw[e1,e2,e3];exact h.one,by rw[e1];exact h.r1,by rw[e2];exact h.r2⟩
theorem Qk1.lie (h:Qk1 m lots side) {o:QX} (hs:UQ o.side) (hl:lots o.id=o.qty) (hd:side o.id=o.side) (hi:o.id∈m.ids) (hf: ∀x∈m.L1++m.L2++m.pk,x.id≠o.id):Qk1 (Qf3 m o) lots side:=by
 by_cases ha:Qm5 m.L1 m.L2 o=0
 ·have e1:(Qf3 m o).L1=Qd4 1 m.L1 o:=if_pos ha
  have e2:(Qf3 m o).L2=Qd4 2 m.L2 o:=if_pos ha;have hp:((Qf3 m o).L1++(Qf3 m o).L2++(Qf3 m o).pk).Perm (JJ o:: (m.L1++m.L2++m.pk)):=by
   rw[e1,e2];show(Qd4 1 m.L1 o++Qd4 2 m.L2 o++m.pk).Perm _;unfold Qd4;rcases hs with e|e
   ·rw[if_pos e,if_neg (by omega),←List.cons_append,←List.cons_append]
    exact((Qr7 1 m.L1 (JJ o)).append_right _).append_right _
   ·rw[if_neg (by omega),if_pos e,←List.cons_append]
    exact(((Qr7 2 m.L2 (JJ o)).append_left _).trans List.perm_middle).append_right _
  refine⟨fun x hx=> ?_, ?_, ?_, ?_⟩
  ·rcases List.mem_cons.1 (hp.mem_iff.1 hx)with rfl|hx
   ·exact⟨hl,hd,hi⟩
   ·exact h.has x hx
  ·refine(hp.map (·.id)).nodup_iff.2 ?_
   rw[List.map_cons,List.nodup_cons];refine⟨fun hm=> ?_,h.one⟩;obtain⟨x,hx,e⟩:=List.mem_map.1 hm;exact hf x hx e
  ·rw[e1]
   unfold Qd4
   split
   ·exact Qu4 (.inl rfl) h.r1 _
   ·exact h.r1
  ·rw[e2]
   unfold Qd4
   split
   ·exact Qu4 (.inr rfl) h.r2 _
   ·exact h.r2
 ·have e1:(Qf3 m o).L1=m.L1:=if_neg ha
  have e2:(Qf3 m o).L2=m.L2:=if_neg ha;exact h.same e1 e2 rfl rfl
theorem Jy9: ∀(l:List QX) (m:VQ),Qk1 {m with pk:=l} lots side→(∀o∈l,UQ o.side)→Qk1 {UY m l with pk:= []} lots side
 | [],m,h,_=>h
 |o::t,m,h,hs=>by
  have ho:=h.has o (by simp);have h1:Qk1 {m with pk:=t} lots side:=h.under (IW.refl _) (IW.refl _) ((IW.refl t).skip o) rfl (fun x hx=>(h.has x (by
   show x∈m.L1++m.L2++(o::t);rcases List.mem_append.1 hx with hx|hx
   ·exact List.mem_append_left _ hx
   ·exact List.mem_append_right _ (List.mem_cons_of_mem _ hx))).1.symm)
  have hone:=h.one;have hone:((m.L1++m.L2++(o::t)).map (·.id)).Nodup:=hone;have hp:(m.L1++m.L2++(o::t)).Perm (o:: (m.L1++m.L2++t)):=List.perm_middle;have hone2:=(hp.map (·.id)).nodup_iff.1 hone;rw[List.map_cons,List.nodup_cons]at hone2;have h2:=h1.lie (o:=o) (hs o (by simp)) ho.1 ho.2.1 ho.2.2 (fun x hx e=>hone2.1 (List.mem_map.2 ⟨x,hx,e⟩));exact Jy9 t (Qf3 m o) h2 (fun x hx=>hs x (by simp[hx]))
end
structure Jr7 (m:VQ) (lots side:Int→Int):Prop where
 ok_:YJ m
 w:Qk1 m lots side
 tr:m.ph=3→Zk2 m.L1 m.L2
section
variable {m:VQ} {lots side:Int→Int}
theorem Kp6 (h:Qk1 m lots side) (hs: ∀o∈m.pk,UQ o.side):Qk1 (Qc4 m) lots side:=by
 have h1:Qk1 {({m with ph:=5}:VQ)with pk:=m.pk} lots side:=h.same rfl rfl rfl rfl
 exact Jy9 m.pk {m with ph:=5} h1 hs
theorem Qk1.setPh (h:Qk1 m lots side) (p:Int):Qk1 {m with ph:=p} lots side:=h.same rfl rfl rfl rfl
theorem Qk1.vol (h:Qk1 m lots side):Qk1 (Jj0 m) lots side:=h.same rfl rfl rfl rfl
theorem Qk1.over (h:Qk1 m lots side) {lots':Int→Int}:Qk1 (Qv7 m) lots' side:=h.under (IW.nil _) (IW.nil _) (IW.nil _) rfl (fun o ho=>(by cases ho))
theorem Jr7.halt (h:Jr7 m lots side):Jr7 (Qf0 m) lots side:=by
 refine⟨h.ok_.halt, ?_, ?_⟩
 ·unfold Qf0
  split
  ·exact h.w
  ·exact h.w.setPh 6
 ·unfold Qf0
  split
  ·exact h.tr
  ·intro e;exact absurd e (by show¬((6:Int)=3);omega)
theorem Jb6 (m:VQ):(Qc4 m).ph=5:=(O8 m.pk {m with ph:=5}).2.2.2.2.2.2.2.2.2.1
theorem Jr7.open_ (h:Jr7 m lots side) (hl:ZW (Y4 m).L1 (Y4 m).L2):Jr7 (Y4 m) lots side:=by
 refine⟨h.ok_.open_ hl, ?_, ?_⟩
 ·unfold Y4
  split
  ·split
   ·exact h.w.vol
   ·split
    ·exact Kp6 h.w (fun o ho=>(h.ok_.pk o ho).2)
    ·exact h.w.setPh _
  ·exact h.w
 ·unfold Y4
  split
  ·split
   ·intro e;exact absurd e (by show¬((4:Int)=3);omega)
   ·split
    ·intro e;rw[Jb6]at e;cases e
    ·rename_i h3 _
     intro e;exact absurd e h3
  ·exact h.tr
theorem Jr7.cancel (h:Jr7 m lots side) (id:Int) (hl:ZW (UW m id).L1 (UW m id).L2):Jr7 (UW m id) lots side:=by
 refine⟨h.ok_.cancel id hl, ?_, ?_⟩
 ·unfold UW
  split
  ·exact h.w
  ·split
   ·exact h.w.under (IW.refl _) (IW.refl _) (Kd9 _ _) rfl (fun o ho=>(h.w.has o (by
     rcases List.mem_append.1 ho with ho|ho
     ·exact List.mem_append_left _ ho
     ·exact List.mem_append_right _ (Xv5 ho))).1.symm)
   ·exact h.w.under (Jy7 _ _) (Jy7 _ _) (IW.refl _) rfl (fun o ho=>(h.w.has o (by
     rcases List.mem_append.1 ho with ho|ho
     ·rcases List.mem_append.1 ho with ho|ho
      ·exact List.mem_append_left _ (List.mem_append_left _ (List.mem_filter.1 ho).1)
      ·exact List.mem_append_left _ (List.mem_append_right _ (List.mem_filter.1 ho).1)
     ·exact List.mem_append_right _ ho)).1.symm)
 ·unfold UW
  split
  ·exact h.tr
  ·split
   ·exact h.tr
   ·intro e
    obtain⟨a1,a2⟩:=h.tr e;refine⟨fun o ho=> ?_,fun x hx y hy=>a2 x (List.mem_filter.1 hx).1 y (List.mem_filter.1 hy).1⟩;rcases List.mem_append.1 ho with ho|ho
    ·exact a1 o (List.mem_append_left _ (List.mem_filter.1 ho).1)
    ·exact a1 o (List.mem_append_right _ (List.mem_filter.1 ho).1)
theorem Jr7.next (h:Jr7 m lots side):Jr7 (XX m) lots side:=⟨h.ok_.next,h.w.same rfl rfl rfl rfl,h.tr⟩
end
theorem Xc2 {p0 p:Int} (h:Qk5 (YZ p0) p=true):p=2∨p=3∨p=5∨p=7:=by
 unfold Qk5 YZ at h
 by_cases h1:p0=1
 ·simp[h1]at h;omega
 by_cases h2:p0=2
 ·simp[h2]at h;omega
 by_cases h3:p0=3
 ·simp[h3]at h;omega
 by_cases h5:p0=5
 ·simp[h5]at h;omega
 simp[h1,h2,h3,h5]at h
theorem U6.five {ps:List (Int×Int)} (h:U6 ps): ∀k,k<ps.length→(ps.getD k (0,0)).2=1∨(ps.getD k (0,0)).2=2∨(ps.getD k (0,0)).2=3∨(ps.getD k (0,0)).2=5∨(ps.getD k (0,0)).2=7
 |0,hk=> .inl (by rw[h.zero])
 |k+1,hk=>by
  have hw:=h.2.2 (k+1) hk;simp only[IV,I1]at hw
  split at hw
  ·cases hw
  ·rename_i ha
   exact .inr (Xc2 (by simpa using ha))
theorem Qz3 {m:VQ} (h:U6 m.rows) {t:Int} (ht:0≤t):UV m t=1∨UV m t=2∨UV m t=3∨UV m t=5∨UV m t=7:=by
 have hz:(m.rows.getD 0 (0,0)).1≤t:=by rw[h.zero];exact ht
 obtain⟨k,hk,-,-,e⟩:=Xq7 m.rows t hz m.rows.length h.1 (Nat.le_refl _)
 unfold UV
 rw[e]
 exact h.five k hk
structure Z0 (m m':VQ):Prop where
 rows:m'.rows=m.rows
 st:m'.st=m.st
 dy:m'.dy=m.dy
 tk:m'.tk=m.tk
 mo:m'.mo=m.mo
theorem Z0.refl (m:VQ):Z0 m m:=⟨rfl,rfl,rfl,rfl,rfl⟩
theorem Z0.trans {m m1 m2:VQ} (h:Z0 m m1) (k:Z0 m1 m2):Z0 m m2:=⟨k.rows.trans h.rows,k.st.trans h.st,k.dy.trans h.dy,k.tk.trans h.tk,k.mo.trans h.mo⟩
theorem Xh0 (m:VQ):Z0 m (Qc4 m):=by
 obtain⟨e1,e2,e3,e4,e5,e6,e7,e8,e9,e10,e11,e12,e13⟩:=O8 m.pk {m with ph:=5}
 exact⟨e1,e2,e3,e4,e5⟩
theorem Kz5 (m:VQ):Z0 m (Y4 m):=by
 unfold Y4
 split
 ·split
  ·exact⟨rfl,rfl,rfl,rfl,rfl⟩
  ·split
   ·exact Xh0 m
   ·exact⟨rfl,rfl,rfl,rfl,rfl⟩
 ·exact Z0.refl m
theorem Jz0 (m:VQ) (id:Int):Z0 m (UW m id):=by
 unfold UW
 split
 ·exact Z0.refl m
 ·split<;>exact⟨rfl,rfl,rfl,rfl,rfl⟩
theorem Jf6 (m:VQ) (o:QX):Z0 m (IZ m o)∧(IZ m o).now=m.now∧(((IZ m o).ph=m.ph∧(IZ m o).ends=m.ends∧(IZ m o).lng=m.lng)∨(m.ph=3∧(IZ m o).ph=4∧(IZ m o).ends=m.now+m.tk∧(IZ m o).lng=0)):=by
 unfold IZ
 split
 ·unfold Qh6
  split
  ·exact⟨⟨rfl,rfl,rfl,rfl,rfl⟩,rfl,.inl ⟨rfl,rfl,rfl⟩⟩
  ·split
   ·exact⟨⟨rfl,rfl,rfl,rfl,rfl⟩,rfl,.inl ⟨rfl,rfl,rfl⟩⟩
   ·rename_i h3
    have e3:m.ph=3:=by
     have: ¬m.ph≠3:=h3;omega
    obtain⟨M,hM⟩: ∃M,UK (OK m (JJ o)) (JJ o)=M:=⟨_,rfl⟩;have hM2:Z0 m M∧M.now=m.now∧M.ph=m.ph∧M.ends=m.ends∧M.lng=m.lng:=by
     rw[←hM];unfold UK
     split<;>exact⟨⟨rfl,rfl,rfl,rfl,rfl⟩,rfl,rfl,rfl,rfl⟩
    obtain⟨a1,a2,a3,a4,a5⟩:=hM2;unfold Z8;rw[hM]
    split
    ·exact⟨a1.trans ⟨rfl,rfl,rfl,rfl,rfl⟩,a2,.inr ⟨e3,rfl,by show M.now+M.tk=_;rw[a2,a1.tk],rfl⟩⟩
    ·exact⟨a1,a2,.inl ⟨a3,a4,a5⟩⟩
 ·exact⟨Z0.refl m,rfl,.inl ⟨rfl,rfl,rfl⟩⟩
theorem Kp7 (m:VQ) (p:Int):Z0 m (O3 m p):=by
 unfold O3
 split
 ·exact⟨rfl,rfl,rfl,rfl,rfl⟩
 ·split
  ·exact Xh0 m
  ·exact⟨rfl,rfl,rfl,rfl,rfl⟩
theorem Ke0 (m:VQ):Z0 m (J5 m):=by
 unfold J5
 split
 ·exact⟨rfl,rfl,rfl,rfl,rfl⟩
 ·split<;>exact⟨rfl,rfl,rfl,rfl,rfl⟩
theorem Xv7 (m:VQ):Z0 m (J6 m):=by
 unfold J6
 split
 ·exact Z0.refl m
 ·have h0:Z0 m (XX m):=⟨rfl,rfl,rfl,rfl,rfl⟩
  unfold O4
  split
  ·split<;>exact⟨rfl,rfl,rfl,rfl,rfl⟩
  ·split
   ·exact h0
   ·split
    ·exact h0.trans (Kp7 _ _)
    ·split
     ·exact h0.trans (Ke0 _)
     ·exact h0
theorem Kp8 (m:VQ) (p:Int):(O3 m p).now=m.now:=by
 unfold O3
 split
 ·rfl
 ·split
  ·exact(O8 m.pk {m with ph:=5}).2.2.2.2.2.2.2.2.2.2.1
  ·rfl
theorem Jz1 (m:VQ) (p:Int):(O3 m p).ph=p:=by
 unfold O3
 split
 ·rename_i h;exact h.symm
 ·split
  ·rename_i h;rw[Jb6];exact h.symm
  ·rfl
theorem Ke1 (m:VQ):(J5 m).now=m.now:=by
 unfold J5
 split
 ·rfl
 ·split<;>rfl
theorem Jj4 (m:VQ):(J6 m).now=if m.ph=7 then m.now else m.now+1:=by
 unfold J6
 split
 ·rfl
 ·unfold O4
  split
  ·split<;>rfl
  ·split
   ·rfl
   ·split
    ·exact Kp8 _ _
    ·split
     ·exact Ke1 _
     ·rfl
structure Qn1 (m:VQ) (since:Int):Prop where
 vol:m.ph=4→since+ (m.ends-m.now)=m.tk* (m.lng+1)∧0<m.ends-m.now∧m.lng≤m.mo
 non:m.ph≠4→since=0
theorem Qn1.lt {m:VQ} {since:Int} (h:Qn1 m since) (hk:YJ m):since<m.tk* (1+m.mo):=by
 have h1:=hk.tk.1
 have h2:=hk.mo.1
 by_cases h4:m.ph=4
 ·obtain⟨a1,a2,a3⟩:=h.vol h4
  have:m.tk* (m.lng+1)≤m.tk* (1+m.mo):=Int.mul_le_mul_of_nonneg_left (by omega) (by omega);omega
 ·rw[h.non h4]
  exact Int.mul_pos (by omega) (by omega)
def Kz6 (m:VQ) (since:Int):Int:=if(J6 m).ph=4 then(if m.ph=4 then since+1 else since)else 0
theorem Qn1.tick {m:VQ} {since:Int} (h:Qn1 m since) (hk:YJ m) (hn:0≤m.now):Qn1 (J6 m) (Kz6 m since):=by
 refine⟨fun h4=> ?_,fun h4=>if_neg h4⟩
 unfold Kz6
 rw[if_pos h4]
 have hcfg:=Xv7 m
 have hnow:=Jj4 m
 unfold J6 at h4 hnow hcfg⊢
 by_cases h7:m.ph=7
 ·rw[if_pos h7]at h4;omega
 ·rw[if_neg h7]at h4 hnow hcfg⊢
  rw[if_neg h7]at hnow;unfold O4 at h4 hnow hcfg⊢
  by_cases e7:UV (XX m) (XX m).now=7
  ·rw[if_pos e7]at h4
   exact absurd h4 (by show¬((7:Int)=4);omega)
  ·rw[if_neg e7]at h4 hnow hcfg⊢
   by_cases e6:(XX m).ph=6
   ·rw[if_pos e6]at h4
    have e6:m.ph=6:=e6;have h4:m.ph=4:=h4;omega
   ·rw[if_neg e6]at h4 hnow hcfg⊢
    by_cases ew:UV m m.now≠UV (XX m) (XX m).now
    ·rw[if_pos ew,Jz1]at h4
     have:=Qz3 (m:=XX m) hk.tab (t:=(XX m).now) (by show 0≤m.now+1;omega);omega
    ·rw[if_neg ew]at h4 hnow hcfg⊢
     by_cases e4:(XX m).ph=4∧(XX m).ends≤(XX m).now
     ·rw[if_pos e4]at h4 hnow hcfg⊢
      have m4:m.ph=4:=e4.1;have me:m.ends≤m.now+1:=e4.2;obtain⟨a1,a2,a3⟩:=h.vol m4;rw[if_pos m4];unfold J5 at h4⊢
      by_cases hc:Jq1 (XX m)
      ·rw[if_pos hc]at h4
       exact absurd h4 (by show¬((3:Int)=4);omega)
      ·rw[if_neg hc]at h4⊢
       by_cases hl:(XX m).lng< (XX m).mo
       ·rw[if_pos hl]
        have hl:m.lng<m.mo:=hl;have htk:=hk.tk.1;refine⟨?_, ?_, ?_⟩
        ·show since+1+ ((m.now+1+m.tk)- (m.now+1))=m.tk* (m.lng+1+1)
         rw[Int.mul_add m.tk (m.lng+1) 1];omega
        ·show 0< (m.now+1+m.tk)- (m.now+1)
         omega
        ·show m.lng+1≤m.mo
         omega
       ·rw[if_neg hl]at h4
        exact absurd h4 (by show¬((6:Int)=4);omega)
     ·rw[if_neg e4]at h4⊢
      have m4:m.ph=4:=h4;obtain⟨a1,a2,a3⟩:=h.vol m4;have me: ¬m.ends≤m.now+1:=fun e=>e4 ⟨m4,e⟩
      rw[if_pos m4];refine⟨?_, ?_,a3⟩
      ·show since+1+ (m.ends- (m.now+1))=m.tk* (m.lng+1)
       omega
      ·show 0<m.ends- (m.now+1)
       omega
theorem Qn1.order {m:VQ} {since:Int} (h:Qn1 m since) (hk:YJ m) (o:QX):Qn1 (IZ m o) since:=by
 obtain⟨hc,hn,⟨a1,a2,a3⟩|⟨b0,b1,b2,b3⟩⟩:=Jf6 m o
 ·refine⟨fun h4=> ?_,fun h4=> ?_⟩
  ·rw[a2,a3,hn,hc.tk,hc.mo];exact h.vol (a1▸h4)
  ·exact h.non (a1▸h4)
 ·refine⟨fun _=> ?_,fun h4=>absurd b1 h4⟩
  rw[b2,b3,hn,hc.tk,hc.mo,h.non (by omega)];have:=hk.tk.1;have:=hk.mo.1;refine⟨?_,by omega,by omega⟩;rw[Int.mul_add,Int.mul_zero,Int.mul_one];omega
theorem Qz4 (m:VQ) (id:Int):(UW m id).ph=m.ph∧(UW m id).now=m.now∧(UW m id).ends=m.ends∧(UW m id).lng=m.lng:=by
 unfold UW
 split
 ·exact⟨rfl,rfl,rfl,rfl⟩
 ·split<;>exact⟨rfl,rfl,rfl,rfl⟩
theorem Qn1.cancel {m:VQ} {since:Int} (h:Qn1 m since) (id:Int):Qn1 (UW m id) since:=by
 obtain⟨a1,a2,a3,a4⟩:=Qz4 m id
 have hc:=Jz0 m id
 refine⟨fun h4=> ?_,fun h4=> ?_⟩
 ·rw[a2,a3,a4,hc.tk,hc.mo];exact h.vol (a1▸h4)
 ·exact h.non (a1▸h4)
structure Qg7 (m:VQ):Prop where
 now:0≤m.now
 ended:m.ph=7↔UV m m.now=7
 none_:m.ph=7→m.L1= []∧m.L2= []∧m.pk= []
theorem Qg7.of {m m':VQ} (h:Qg7 m) (hc:Z0 m m') (hn:m'.now=m.now) (hp:m'.ph=7↔m.ph=7) (hl:m'.ph=7→m'.L1= []∧m'.L2= []∧m'.pk= []):Qg7 m':=by
 refine⟨by rw[hn];exact h.now, ?_,hl⟩
 rw[hp,h.ended]
 unfold UV
 rw[hc.rows,hn]
theorem Qg7.order {m:VQ} (h:Qg7 m) (o:QX):Qg7 (IZ m o):=by
 obtain⟨hc,hn,hp⟩:=Jf6 m o
 refine h.of hc hn ?_ ?_
 ·rcases hp with⟨a1,-,-⟩|⟨b0,b1,-,-⟩
  ·rw[a1]
  ·omega
 ·intro e7
  have m7:m.ph=7:=by
   rcases hp with⟨a1,-,-⟩|⟨b0,b1,-,-⟩
   ·rw[←a1];exact e7
   ·omega
  have e:IZ m o=m:=by
   unfold IZ;rw[if_neg];intro he;have:=(Qz2 he).2.2.1;rw[m7]at this;unfold Qj7 at this;simp at this
  rw[e];exact h.none_ m7
theorem Qg7.cancel {m:VQ} (h:Qg7 m) (id:Int):Qg7 (UW m id):=by
 obtain⟨a1,a2,a3,a4⟩:=Qz4 m id
 refine h.of (Jz0 m id) a2 (by rw[a1]) (fun e7=> ?_)
 have m7:m.ph=7:=a1▸e7
 have e:UW m id=m:=if_pos m7
 rw[e]
 exact h.none_ m7
theorem Qg7.halt {m:VQ} (h:Qg7 m):Qg7 (Qf0 m):=by
 unfold Qf0
 by_cases h67:m.ph=6∨m.ph=7
 ·rw[if_pos h67];exact h
 ·rw[if_neg h67]
  refine h.of ⟨rfl,rfl,rfl,rfl,rfl⟩ rfl ⟨fun e=>absurd e (by show¬((6:Int)=7);omega),fun e=>absurd (.inr e) h67⟩ (fun e=>absurd e (by show¬((6:Int)=7);omega))
theorem Qg7.open_ {m:VQ} (h:Qg7 m):Qg7 (Y4 m):=by
 have hcf:=Kz5 m
 unfold Y4 at hcf⊢
 by_cases h6:m.ph=6
 ·rw[if_pos h6]at hcf⊢
  have n7:UV m m.now≠7:=fun e=>by have:=h.ended.2 e;omega
  by_cases h3:UV m m.now=3
  ·rw[if_pos h3]at hcf⊢
   exact h.of hcf rfl ⟨fun e=>absurd e (by show¬((4:Int)=7);omega),fun e=>by omega⟩ (fun e=>absurd e (by show¬((4:Int)=7);omega))
  ·rw[if_neg h3]at hcf⊢
   by_cases h5:UV m m.now=5
   ·rw[if_pos h5]at hcf⊢
    have hnow:(Qc4 m).now=m.now:=(O8 m.pk {m with ph:=5}).2.2.2.2.2.2.2.2.2.2.1;exact h.of hcf hnow ⟨fun e=>(by rw[Jb6]at e;cases e),fun e=>(by omega)⟩ (fun e=>(by rw[Jb6]at e;cases e))
   ·rw[if_neg h5]at hcf⊢
    exact h.of hcf rfl ⟨fun e=>absurd e n7,fun e=>by omega⟩ (fun e=>absurd e n7)
 ·rw[if_neg h6];exact h
theorem Qg7.tick {m:VQ} (h:Qg7 m):Qg7 (J6 m):=by
 have hn:=Jj4 m
 have hc:=Xv7 m
 have hpm:UV (J6 m) (J6 m).now=UV m (J6 m).now:=by unfold UV;rw[hc.rows]
 by_cases h7:m.ph=7
 ·have e:J6 m=m:=if_pos h7
  rw[e];exact h
 ·rw[if_neg h7]at hn
  have key:((J6 m).ph=7↔UV m (m.now+1)=7)∧((J6 m).ph=7→(J6 m).L1= []∧(J6 m).L2= []∧(J6 m).pk= []):=by
   unfold J6;rw[if_neg h7];unfold O4
   by_cases e7:UV (XX m) (XX m).now=7
   ·rw[if_pos e7]
    exact⟨⟨fun _=>e7,fun _=>rfl⟩,fun _=>⟨rfl,rfl,rfl⟩⟩
   ·rw[if_neg e7]
    have no: ∀ {K:VQ},K.ph≠7→(K.ph=7↔UV m (m.now+1)=7)∧(K.ph=7→K.L1= []∧K.L2= []∧K.pk= []):=fun hK=>⟨⟨fun e=>absurd e hK,fun e=>absurd e e7⟩,fun e=>absurd e hK⟩
    by_cases e6:(XX m).ph=6
    ·rw[if_pos e6]
     exact no (by rw[e6];decide)
    ·rw[if_neg e6]
     by_cases ew:UV m m.now≠UV (XX m) (XX m).now
     ·rw[if_pos ew]
      exact no (by rw[Jz1];exact e7)
     ·rw[if_neg ew]
      by_cases e4:(XX m).ph=4∧(XX m).ends≤(XX m).now
      ·rw[if_pos e4]
       refine no ?_;unfold J5
       split
       ·exact fun e=>absurd e (by show¬((3:Int)=7);omega)
       ·split
        ·show¬m.ph=7;exact h7
        ·exact fun e=>absurd e (by show¬((6:Int)=7);omega)
      ·rw[if_neg e4]
       exact no h7
  refine⟨by rw[hn];have:=h.now;omega, ?_,key.2⟩;rw[hpm,hn];exact key.1
def ZY (w w':World) (e:Nat) (F:Nat→Prop) (P:List XQ→Prop) (m:VQ) (ev:Ending):Prop:=
 ∃A c Fs,ev= .returned (.slice A (List.length Fs) c)∧P Fs∧QW w' A Fs.length c 145 4 (JQ Qb3 Fs)∧(∀g,QZ A=some g→w.heap.size≤g)∧ ∃F',YQ w' e F' m∧KQ w w' F F'∧ ∀g,QZ A=some g→ ¬F' g
theorem ZY.none_ {w w':World} {e:Nat} {F:Nat→Prop} {P:List XQ→Prop} {m:VQ} (h:ZZ w w' e F m) (hP:P []):ZY w w' e F P m (.returned (.slice none 0 0)):=by
 obtain⟨F',h1,h2⟩:=h
 exact⟨none,0,[],rfl,hP,World.ownsRow_nil _ _ _ _,fun g hg=>by simp[QZ]at hg,F',h1,h2,fun g hg=>by simp[QZ]at hg⟩
theorem YQ.setPh {w:World} {e:Nat} {F:Nat→Prop} {m:VQ} (h:YQ w e F m) (v:Int):ZZ w (w.setCell ⟨e,14,none⟩ (.int .i64 v)) e F {m with ph:=v}∧w.cell? ⟨e,14,none⟩=some (.int .i64 m.ph)∧w.frozen? ⟨e,14,none⟩=false∧F e:=by
 obtain⟨cs,tb,bb,bk,im,T,tc,Al,lc,lv,bu,se,Ap,pc,es,mc,G,own,hM,hF⟩:=h
 obtain⟨h1,h2⟩:=hM.setPh v
 exact⟨⟨_,h1.at_ (fun _ _ _=>rfl),h2.bstep hF⟩,hM.cell hM.ec.c14,hM.frozen 14,(hF e).2 ⟨1,hM.oe⟩⟩
theorem ZZ.trans {w w1 w2:World} {e:Nat} {F:Nat→Prop} {m1 m2:VQ} (h:ZZ w w1 e F m1) (k: ∀F1,YQ w1 e F1 m1→ZZ w1 w2 e F1 m2):ZZ w w2 e F m2:=by
 obtain⟨F1,h1,h2⟩:=h
 obtain⟨F2,h3,h4⟩:=k F1 h1
 exact⟨F2,h3,h2.trans h4⟩
theorem ZY.setPh {w w':World} {e:Nat} {F:Nat→Prop} {P:List XQ→Prop} {m:VQ} {ev:Ending} (h:ZY w w' e F P m ev) (v:Int):ZY w (w'.setCell ⟨e,14,none⟩ (.int .i64 v)) e F P {m with ph:=v} ev:=by
 obtain⟨A,c,Fs,h1,h2,h3,h4,F',h5,h6,h7⟩:=h
 obtain⟨⟨F2,h8,h9⟩,-,-,h10⟩:=h5.setPh v
 refine⟨A,c,Fs,h1,h2,h3.keeps (QK.set_ w' ⟨e,14,none⟩ (.int .i64 v)) (fun g hg hge=>h7 g hg (by have h3:g=e:=hge;rw[h3];exact h10)),h4,F2,h8,h6.trans h9,fun g hg hF=> ?_⟩
 rcases h9.2 g hF with h11|h11
 ·exact h7 g hg h11
 ·have:=h3.lt hg;omega
theorem ZY.pre {w w1 w':World} {e:Nat} {F:Nat→Prop} {P:List XQ→Prop} {m:VQ} {ev:Ending} (hb:Below w.heap.size w w1) (h:ZY w1 w' e F P m ev):ZY w w' e F P m ev:=by
 obtain⟨A,c,Fs,h1,h2,h3,h4,F',h5,h6,h7⟩:=h
 exact⟨A,c,Fs,h1,h2,h3,fun g hg=>Nat.le_trans hb.size (h4 g hg),F',h5,(KQ.of_below hb).trans h6,h7⟩
theorem ZZ.pre {w w1 w':World} {e:Nat} {F:Nat→Prop} {m:VQ} (hb:Below w.heap.size w w1) (h:ZZ w1 w' e F m):ZZ w w' e F m:=by
 obtain⟨F',h1,h2⟩:=h
 exact⟨F',h1,(KQ.of_below hb).trans h2⟩
structure Qn2 (m:VQ):Prop where
 tab:0<m.rows.length∧m.rows.length≤20
 tk:0≤m.tk∧m.tk≤1000000
 la:1≤m.la∧m.la≤1000000
 now:0≤m.now∧m.now≤1000000000000
 lng:0≤m.lng∧m.lng≤1000000000000
 pk: ∀o∈m.pk,Qf4 o
 pkn:m.pk.length≤100000
theorem Xv8 {w:World} {e:Nat} {F:Nat→Prop} {m:VQ} (h:YQ w e F m) (hI:Qn2 m) (p:Int):
  Calls Tryz.prog 97 #[.pointer (some ⟨e,0,none⟩),.int .i64 p] w fun ev w'=>ZY w w' e F (Qg3 m p) (O3 m p) ev:=by
 have HU:=QQ (Ql4 h hI.la)
 have HC:=QQ (Jq2 h hI.pk hI.pkn)
 have HPh:=QQ (h.setPh p)
 have hE:=QQ h
 clear hI h
 by_cases c3:p=3
 ·have d3:=Z2 c3
  have HE:Hid (Qg3 m p=Qn6 m∧O3 m p= {Qw3 m with ph:=3}):=QQ ⟨by funext F;unfold Qg3;rw[if_pos c3],by unfold O3;rw[if_pos c3]⟩;rw[HE.out.1,HE.out.2];clear c3;go_enter Tryz.func97,Tryz.ntmps97
  go_wp2_with fail
  refine HU.out.mono ?_;rintro ev w2 ⟨A,c,Fs,rfl,hunc,hrow,hnew,F2,hE2,hs2,hno⟩;have HF:=QQ (show ZY w w2 e F (Qn6 m) (Qw3 m) (.returned (.slice A (List.length Fs) c))from⟨A,c,Fs,rfl,hunc,hrow,hnew,F2,hE2,hs2,hno⟩);obtain⟨-,x1,x2,-⟩:=hE2.setPh 3;clear hunc hrow hnew hE2 hs2 hno;go_wp2_with fail
  go_ret;exact HF.out.setPh 3
 ·have d3:=YW c3
  by_cases c5:p=5
  ·have d5:=Z2 c5
   have HE:Hid (Qg3 m p []∧O3 m p=Qc4 m):=QQ ⟨by unfold Qg3;rw[if_neg c3],by unfold O3;rw[if_neg c3,if_pos c5]⟩;rw[HE.out.2];clear c3 c5;go_enter Tryz.func97,Tryz.ntmps97
   go_wp2_with fail
   refine HC.out.mono ?_;rintro ev w2 ⟨rfl,hto⟩;have HTo:=QQ hto;clear hto;go_wp2_with fail
   go_ret;exact ZY.none_ HTo.out HE.out.1
  ·have d5:=YW c5
   have HE:Hid (Qg3 m p []∧O3 m p= {m with ph:=p}):=QQ ⟨by unfold Qg3;rw[if_neg c3],by unfold O3;rw[if_neg c3,if_neg c5]⟩;rw[HE.out.2];obtain⟨-,x1,x2,-⟩:=HPh.out;clear c3 c5;go_enter Tryz.func97,Tryz.ntmps97
   go_wp2_with fail
   go_ret;exact ZY.none_ HPh.out.1 HE.out.1
end Go.Proofs.YtbmiieehkkfbgaaGreatDoor
