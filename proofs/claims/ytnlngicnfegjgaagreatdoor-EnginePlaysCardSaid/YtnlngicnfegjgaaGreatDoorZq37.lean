/- Parts. -/
import Derived.Test.YtnlngicnfegjgaaGreatDoorZq36
set_option linter.unusedVariables false
set_option maxRecDepth 100000
set_option maxHeartbeats 8000000
open Go.Value renaming int→I,pointer→IP
open Go.IntKind renaming i64→O
namespace Go.Proofs.YtnlngicnfegjgaaGreatDoor
open Go.RowKit
def BF (o:Q8):Int×Int×Int×Int:=(o.id,o.side,o.kind,o.price)
def Zc (s p:Int) (k:Int×Int×Int×Int):Bool:=(k.2.2.1 ==2) || ((s ==1) &&decide (p<=k.2.2.2)) || ((s ==2) &&decide (k.2.2.2<=p))
def G9 (K L:List Q8):Prop:=(K.map BF).Sublist (L.map BF)
section
variable {K L K' L' M:List Q8} {s:Int}
theorem G9.refl L:G9 L L:=List.Sublist.refl _
theorem G9.trans (h:G9 K L) (i:G9 L M):G9 K M:=List.Sublist.trans h i
theorem G9.of_sub (h:K.Sublist L):G9 K L:=h.map _
theorem G9.append (h:G9 K L) (i:G9 K' L'):G9 (K++K') (L++L'):=by
 unfold G9
 rw[T1,T1]
 exact Zs h i
theorem G9.nil L:G9 [] L:=List.nil_sublist _
theorem G9.cons {x y} (h:G9 K L) (e:BF x=BF y):G9 (x::K) (y::L):=by
 unfold G9
 rw[S6,S6,e]
 exact List.Sublist.cons_cons _ h
theorem G9.skip (h:G9 K L) y:G9 K (y::L):=List.Sublist.cons _ h
theorem G9.mem (h:G9 K L) {x} (i:x∈K): ∃o∈L,BF o=BF x:=by
 have h1:=h.subset (U4.2 ⟨x,i,rfl⟩)
 obtain⟨o,j,e⟩:=U4.1 h1
 exact⟨o,j,e⟩
theorem G9.ranked (h:G9 K L) (i:GP s L):GP s K:=by
 have h1:(L.map BF).Pairwise (fun a b=> ∀p,Zc s p b=true->Zc s p a=true):=TE.2 i
 have h2:(K.map BF).Pairwise (fun a b=> ∀p,Zc s p b=true->Zc s p a=true):=h1.sublist h
 rw[TE]at h2
 exact h2
theorem Qm1 (L:List Q8):L.map (·.id)=(L.map BF).map (·.1):=by rw[BQ];rfl
theorem G9.nodup (h:G9 K L) (i:(L.map (·.id)).Nodup):(K.map (·.id)).Nodup:=by
 rw[Qm1]at i|-
 exact TA (List.Sublist.map _ h) i
theorem Qu5 {x o} (h:BF o=BF x):x.id=o.id/\x.side=o.side/\x.kind=o.kind/\x.price=o.price:=by
 unfold BF at h
 simp only[Prod.mk.injEq]at h
 exact⟨h.1.symm,h.2.1.symm,h.2.2.1.symm,h.2.2.2.symm⟩
end
theorem Fo L id:G9 (D1 L id) L:=G9.of_sub Zr
theorem Qm2 L k:G9 (S3 L k) L:=by
 refine G9.of_sub ?_
 unfold S3
 have h:(L.take k++L.drop (k+1)).Sublist (L.take k++L.drop k):=Zs (List.Sublist.refl _) (by
  have e:L.drop (k+1)=(L.drop k).drop 1:=by rw[Jm]
  rw[e];exact Jc _ _)
 rw[P2]at h
 exact h
def Mz (F:List B5) (id:Int):Int:=QH (fun f=>if f.b=id then f.n else 0) F
def Py (F:List B5) (id:Int):Int:=QH (fun f=>if f.s=id then f.n else 0) F
def NF (F:List B5) (id:Int):Int:=Mz F id+Py F id
theorem Fp id:NF [] id=0:=rfl
theorem Dv f F id:NF (f::F) id=((if f.b=id then f.n else 0)+ (if f.s=id then f.n else 0))+NF F id:=by
 unfold NF Mz Py
 show(if f.b=id then f.n else 0)+QH _ F+ ((if f.s=id then f.n else 0)+QH _ F)=_
 omega
def Ux (lots:Int->Int) (F:List B5) (id:Int):Int:=lots id-NF F id
def RL (lots side:Int->Int) (F:List B5):Prop:=
 ∀F1 f F2,F=F1++f::F2->1<=f.n/\side f.b=1/\side f.s=2/\f.n<=lots f.b-NF F1 f.b/\f.n<=lots f.s-NF F1 f.s
theorem RL.nil lots side:RL lots side []:=fun i f j h=>by cases i<;>cases h
theorem RL.cons {lots side f F} (h1:1<=f.n) (j:side f.b=1) (J:side f.s=2) (lb:f.n<=lots f.b) (N:f.n<=lots f.s)
  (h:RL (fun id=>lots id- ((if f.b=id then f.n else 0)+ (if f.s=id then f.n else 0))) side F):RL lots side (f::F):=by
 intro i g E e
 cases i with
 |nil=>
  rw[VZ]at e
  cases e;exact⟨h1,j,J,by rw[Fp];omega,by rw[Fp];omega⟩
 |cons z i=>
  rw[MS]at e
  cases e;obtain⟨D,u,v,y,C⟩:=h i g E rfl;refine⟨D,u,v, ?_, ?_⟩
  ·rw[Dv];dsimp only at y;omega
  rw[Dv];dsimp only at C;omega
def Pz (la:Int):List B5->Int
 | []=>la
 |f::F=>Pz f.p F
def RD (al:Int->Int->Bool) (la:Int) (F:List B5):Prop:= ∀F1 f F2,F=F1++f::F2->al (Pz la F1) f.p=true
theorem RD.nil al la:RD al la []:=fun i f j h=>by cases i<;>cases h
theorem RD.cons {al la f F} (h1:al la f.p=true) (h:RD al f.p F):RD al la (f::F):=by
 intro i g j e
 cases i with
 |nil=>
  rw[VZ]at e
  cases e;exact h1
 |cons z i=>
  rw[MS]at e
  cases e;exact h i g j rfl
def Jl7 (L1 L2:List Q8):Prop:=(∀o∈L1++L2,o.kind=1)/\ ∀x∈L1,∀y∈L2,x.price<y.price
structure Jn9 (lots side:Int->Int) (al:Int->Int->Bool) (L:List Q8) (o:Q8) (s:Int) (r:QF Int):Prop where
 good:RL lots side r.fills
 bands:RD al s r.fills
 left:r.left.qty=Ux lots r.fills o.id
 key:BF r.left=BF o
 pos:0<=r.left.qty
 rest: ∀x∈r.rest,x.qty=Ux lots r.fills x.id
 other: ∀id,id≠o.id->(∀x∈L,x.id≠id)->Ux lots r.fills id=lots id
 stop:r.stop=false->r.left.qty<1\/ ∀x∈r.rest,W2 o x=true
structure XD (m:X7) (lots side:Int->Int):Prop where
 has: ∀o∈m.L1++m.L2++m.pk,lots o.id=o.qty/\side o.id=o.side/\o.id∈m.ids
 one:((m.L1++m.L2++m.pk).map (·.id)).Nodup
 r1:GP 1 m.L1
 r2:GP 2 m.L2
section
variable {m m':X7} {lots lots' side side':Int->Int}
theorem XD.under (h:XD m lots side) (i:G9 m'.L1 m.L1) (y:G9 m'.L2 m.L2) (Z:G9 m'.pk m.pk) (U:m'.ids=m.ids) (D: ∀o∈m'.L1++m'.L2++m'.pk,o.qty=lots' o.id):XD m' lots' side:=by
 have u:=(i.append y).append Z
 refine⟨fun o v=> ?_,u.nodup h.one,i.ranked h.r1,y.ranked h.r2⟩
 obtain⟨x,C,e⟩:=u.mem v
 obtain⟨a1,E,J⟩:=h.has x C
 obtain⟨j,N,e3,e4⟩:=Qu5 e
 exact⟨(D o v).symm,by rw[j,E,N],by rw[U,j];exact J⟩
theorem XD.same (h:XD m lots side) (j:m'.L1=m.L1) (i:m'.L2=m.L2) (u:m'.pk=m.pk) (v:m'.ids=m.ids):XD m' lots side:=
 ⟨by rw[j,i,u,v];exact h.has,by rw[j,i,u];exact h.one,by rw[j];exact h.r1,by rw[i];exact h.r2⟩
theorem XD.lie (h:XD m lots side) {o} (y:Z4 o.side) (E:lots o.id=o.qty) (D:side o.id=o.side) (J:o.id∈m.ids) (C: ∀x∈m.L1++m.L2++m.pk,x.id≠o.id):XD (M6 m o) lots side:=by
 by_cases j:addE m.L1 m.L2 o=0
 ·have v:(M6 m o).L1=KQ 1 m.L1 o:=Q5 j
  have u:(M6 m o).L2=KQ 2 m.L2 o:=Q5 j;have hp:((M6 m o).L1++(M6 m o).L2++(M6 m o).pk).Perm (V3 o:: (m.L1++m.L2++m.pk)):=by
   rw[v,u];show(KQ 1 m.L1 o++KQ 2 m.L2 o++m.pk).Perm _;unfold KQ;rcases y with e|e
   ·rw[Q5 e,Q3 (by omega),<-MS,<-MS]
    exact((Us 1 m.L1 (V3 o)).append_right _).append_right _
   rw[Q3 (by omega),Q5 e,<-MS];exact(((Us 2 m.L2 (V3 o)).append_left _).trans Jd).append_right _
  refine⟨fun x i=> ?_, ?_, ?_, ?_⟩
  ·rcases D4.1 (hp.mem_iff.1 i)with rfl|i
   ·exact⟨E,D,J⟩
   exact h.has x i
  ·refine(hp.map (·.id)).nodup_iff.2 ?_
   rw[S6,KT];refine⟨fun N=> ?_,h.one⟩;obtain⟨x,i,e⟩:=U4.1 N;exact C x i e
  ·rw[v]
   unfold KQ
   split
   ·exact Fc (.inl rfl) h.r1 _
   exact h.r1
  rw[u];unfold KQ
  split
  ·exact Fc (.inr rfl) h.r2 _
  exact h.r2
 have v:(M6 m o).L1=m.L1:=Q3 j
 have u:(M6 m o).L2=m.L2:=Q3 j
 exact h.same v u rfl rfl
theorem Fq: ∀(l:List Q8) (m:X7),XD {m with pk:=l} lots side->(∀o∈l,Z4 o.side)->XD {L3 m l with pk:= []} lots side
 | [],m,h,_=>h
 |o::t,m,h,hs=>by
  have ho:=h.has o (by simp);have h1:XD {m with pk:=t} lots side:=h.under (G9.refl _) (G9.refl _) ((G9.refl t).skip o) rfl (fun x hx=>(h.has x (by
   show x∈m.L1++m.L2++(o::t);rcases Y7.1 hx with hx|hx
   ·exact S9 _ hx
   exact QB _ (EU _ hx))).1.symm)
  have hone:=h.one;have hone:((m.L1++m.L2++(o::t)).map (·.id)).Nodup:=hone;have hp:(m.L1++m.L2++(o::t)).Perm (o:: (m.L1++m.L2++t)):=Jd;have hone2:=(hp.map (·.id)).nodup_iff.1 hone;rw[S6,KT]at hone2;have h2:=h1.lie (o:=o) (hs o (by simp)) ho.1 ho.2.1 ho.2.2 (fun x hx e=>hone2.1 (U4.2 ⟨x,hx,e⟩));exact Fq t (M6 m o) h2 (fun x hx=>hs x (by simp[hx]))
end
structure DK (m:X7) (lots side:Int->Int):Prop where
 ok_:B9 m
 w:XD m lots side
 tr:m.ph=3->Jl7 m.L1 m.L2
section
variable {m:X7} {lots side:Int->Int}
theorem Qu6 (h:XD m lots side) (i: ∀o∈m.pk,Z4 o.side):XD (ZR m) lots side:=by
 have h1:XD {({m with ph:=5}:X7)with pk:=m.pk} lots side:=h.same rfl rfl rfl rfl
 exact Fq m.pk {m with ph:=5} h1 i
theorem XD.setPh (h:XD m lots side) p:XD {m with ph:=p} lots side:=h.same rfl rfl rfl rfl
theorem XD.vol (h:XD m lots side):XD (VX m) lots side:=h.same rfl rfl rfl rfl
theorem XD.over (h:XD m lots side) {lots'}:XD (YF m) lots' side:=h.under (G9.nil _) (G9.nil _) (G9.nil _) rfl (fun o i=>(by cases i))
theorem DK.halt (h:DK m lots side):DK (XY m) lots side:=by
 refine⟨h.ok_.halt, ?_, ?_⟩
 ·unfold XY
  split
  ·exact h.w
  exact h.w.setPh 6
 unfold XY
 split
 ·exact h.tr
 intro e;exact absurd e (by show¬((6:Int)=3);omega)
theorem Xv m:(ZR m).ph=5:=(LH m.pk {m with ph:=5}).2.2.2.2.2.2.2.2.2.1
theorem DK.open_ (h:DK m lots side) (u:B8 (QR m).L1 (QR m).L2):DK (QR m) lots side:=by
 refine⟨h.ok_.open_ u, ?_, ?_⟩
 ·unfold QR
  split
  ·split
   ·exact h.w.vol
   split
   ·exact Qu6 h.w (fun o i=>(h.ok_.pk o i).2)
   exact h.w.setPh _
  exact h.w
 unfold QR
 split
 ·split
  ·intro e;exact absurd e (by show¬((4:Int)=3);omega)
  split
  ·intro e;rw[Xv]at e;cases e
  rename_i j _;intro e;exact absurd e j
 exact h.tr
theorem DK.cancel (h:DK m lots side) id (C:B8 (N4 m id).L1 (N4 m id).L2):DK (N4 m id) lots side:=by
 refine⟨h.ok_.cancel id C, ?_, ?_⟩
 ·unfold N4
  split
  ·exact h.w
  split
  ·exact h.w.under (G9.refl _) (G9.refl _) (Qm2 _ _) rfl (fun o i=>(h.w.has o (by
    rcases Y7.1 i with i|i
    ·exact S9 _ i
    exact QB _ (My i))).1.symm)
  exact h.w.under (Fo _ _) (Fo _ _) (G9.refl _) rfl (fun o i=>(h.w.has o (by
   rcases Y7.1 i with i|i
   ·rcases Y7.1 i with i|i
    ·exact S9 _ (S9 _ (P3.1 i).1)
    exact S9 _ (QB _ (P3.1 i).1)
   exact QB _ i)).1.symm)
 unfold N4
 split
 ·exact h.tr
 split
 ·exact h.tr
 intro e
 obtain⟨j,v⟩:=h.tr e
 refine⟨fun o i=> ?_,fun x u y hy=>v x (P3.1 u).1 y (P3.1 hy).1⟩
 rcases Y7.1 i with i|i
 ·exact j o (S9 _ (P3.1 i).1)
 exact j o (QB _ (P3.1 i).1)
theorem DK.next (h:DK m lots side):DK (K0 m) lots side:=⟨h.ok_.next,h.w.same rfl rfl rfl rfl,h.tr⟩
end
structure LX (cs:Array Value) (T:Option Addr) (tc:Nat) (Ap:Option Addr) (pc:Nat) (Ai:Option Addr) (ic:Nat) (m:X7):Prop where
 sz:cs.size=14
 c0:cs[0]?=some (.slice T m.rows.length tc)
 c1:cs[1]?=some (I O m.st)
 c2:cs[2]?=some (I O m.dy)
 c3:cs[3]?=some (I O m.an)
 c4:cs[4]?=some (I O m.la)
 c5:cs[5]?=some (I O m.tk)
 c6:cs[6]?=some (I O m.mo)
 c8:cs[8]?=some (.slice Ap m.pk.length pc)
 c9:cs[9]?=some (.slice Ai m.ids.length ic)
 c10:cs[10]?=some (I O m.ph)
 c11:cs[11]?=some (I O m.now)
 c12:cs[12]?=some (I O m.ends)
 c13:cs[13]?=some (I O m.lng)
def CD (i:Int):List Value:= [I O i]
theorem Dw i:(CD i).length=1:=rfl
structure V8 (w:World) (R:Nat) (cs:Array Value) (T:Option Addr) (tc:Nat) (AL:Option Addr) (Ap:Option Addr) (pc:Nat) (Ai:Option Addr) (ic:Nat) (own:Nat->Nat->Prop) (m:X7) (L:List Q8):Prop where
 rc:LX cs T tc Ap pc Ai ic m
 bk:JL w R 81 cs 7 AL L
 tabp:T4 w T m.rows.length tc m.rows
 park:J2 w Ap m.pk.length pc 29 5 (Q9 X9 m.pk)
 idr:J2 w Ai m.ids.length ic 3 1 (Q9 CD m.ids)
 twin:E5 L m.L1 m.L2
 few:L.length<=100
 ok:FC w own
 oR:own R 1
 oT: ∀i,Q7 T=some i->own i 2
 oL: ∀i,Q7 AL=some i->own i 3
 op: ∀i,Q7 Ap=some i->own i 4
 oi: ∀i,Q7 Ai=some i->own i 5
def D7 (w:World) (R:Nat) (F:Nat->Prop) (m:X7):Prop:=
 ∃cs T tc AL Ap pc Ai ic own L,V8 w R cs T tc AL Ap pc Ai ic own m L/\ ∀i,F i↔ ∃k,own i k
def C9 (w w':World) (R:Nat) (F:Nat->Prop) (m:X7):Prop:= ∃F',D7 w' R F' m/\Z3 w w' F F'
section
variable {w w':World} {R:Nat} {cs:Array Value} {T:Option Addr} {tc:Nat} {AL Ap:Option Addr} {pc:Nat} {Ai:Option Addr} {ic:Nat} {own:Nat->Nat->Prop} {m:X7} {L:List Q8}
theorem V8.cell (h:V8 w R cs T tc AL Ap pc Ai ic own m L) {i v} (j:cs[i]?=some v):w.cell? ⟨R,i,none⟩=some v:=by rw[J0 h.bk.blk];exact j
theorem V8.frozen (h:V8 w R cs T tc AL Ap pc Ai ic own m L) i:w.frozen? ⟨R,i,none⟩=false:=J1 h.bk.blk i
theorem V8.fit {S:Nat->Prop} (h:V8 w R cs T tc AL Ap pc Ai ic own m L) {K} (v: ∀i,S i->own i K) {i k} (u:own i k) (hk:k≠K): ¬S i:=fun j=>hk (h.ok.uni i k K u (v i j))
theorem V8.keeps {S} (h:V8 w R cs T tc AL Ap pc Ai ic own m L) (hk:Q6 S w w') (u: ∀i k,own i k-> ¬S i):V8 w' R cs T tc AL Ap pc Ai ic own m L:=
 ⟨h.rc,h.bk.keeps hk (u _ _ h.oR) (fun i j=>u i _ (h.oL i j)),h.tabp.keeps hk (fun i j=>u i _ (h.oT i j)),h.park.keeps hk (fun i j=>u i _ (h.op i j)),h.idr.keeps hk (fun i j=>u i _ (h.oi i j)),h.twin,h.few,h.ok.mono hk.size,h.oR,h.oT,h.oL,h.op,h.oi⟩
theorem V8.below (h:V8 w R cs T tc AL Ap pc Ai ic own m L) (i:Below w.heap.size w w'):V8 w' R cs T tc AL Ap pc Ai ic own m L:=
 h.keeps (U1 i (fun _=>False)) (fun _ _ _=>id)
theorem V8.at_ (h:V8 w R cs T tc AL Ap pc Ai ic own m L):D7 w R (fun i=> ∃k,own i k) m:=⟨cs,T,tc,AL,Ap,pc,Ai,ic,own,L,h,fun i=>ZP⟩
theorem V8.blt (h:V8 w R cs T tc AL Ap pc Ai ic own m L):R<w.heap.size:=h.bk.blt
theorem LX.set_ {m' cs'} (h:LX cs T tc Ap pc Ai ic m) (hs:cs'.size=14) (h0:cs'[0]?=cs[0]?) (h1:cs'[1]?=cs[1]?) (h2:cs'[2]?=cs[2]?) (h5:cs'[5]?=cs[5]?) (D:cs'[6]?=cs[6]?) (y:cs'[8]?=cs[8]?) (h9:cs'[9]?=cs[9]?)
  (E:m'.rows=m.rows/\m'.st=m.st/\m'.dy=m.dy/\m'.tk=m.tk/\m'.mo=m.mo/\m'.pk=m.pk/\m'.ids=m.ids) (i:cs'[3]?=some (I O m'.an)) (N:cs'[4]?=some (I O m'.la)) (a0:cs'[10]?=some (I O m'.ph)) (u:cs'[11]?=some (I O m'.now)) (J:cs'[12]?=some (I O m'.ends)) (C:cs'[13]?=some (I O m'.lng)):LX cs' T tc Ap pc Ai ic m':=by
 obtain⟨v,e2,Z,e4,U,e6,j⟩:=E
 exact⟨hs,by rw[h0,v];exact h.c0,by rw[h1,e2];exact h.c1,by rw[h2,Z];exact h.c2,i,N,by rw[h5,e4];exact h.c5,by rw[D,U];exact h.c6,by rw[y,e6];exact h.c8,by rw[h9,j];exact h.c9,a0,u,J,C⟩
theorem LX.same {m'} (h:LX cs T tc Ap pc Ai ic m) (C:m'.rows=m.rows/\m'.st=m.st/\m'.dy=m.dy/\m'.an=m.an/\m'.la=m.la/\m'.tk=m.tk/\m'.mo=m.mo/\m'.pk=m.pk/\m'.ids=m.ids/\m'.ph=m.ph/\m'.now=m.now/\m'.ends=m.ends/\m'.lng=m.lng):LX cs T tc Ap pc Ai ic m':=by
 obtain⟨v,e2,U,N,J,Z,i,j,e9,D,y,u,E⟩:=C
 exact⟨h.sz,by rw[v];exact h.c0,by rw[e2];exact h.c1,by rw[U];exact h.c2,by rw[N];exact h.c3,by rw[J];exact h.c4,by rw[Z];exact h.c5,by rw[i];exact h.c6,by rw[j];exact h.c8,by rw[e9];exact h.c9,by rw[D];exact h.c10,by rw[y];exact h.c11,by rw[u];exact h.c12,by rw[E];exact h.c13⟩
theorem V8.cellsTo {cs' m'} (h:V8 w R cs T tc AL Ap pc Ai ic own m L) (y:Q1 w' R 81 cs') (hk:Q6 (fun i=>i=R) w w') (E:LX cs' T tc Ap pc Ai ic m') (v:cs'[7]?=cs[7]?)
  (J:m'.rows=m.rows/\m'.L1=m.L1/\m'.L2=m.L2/\m'.pk=m.pk/\m'.ids=m.ids):V8 w' R cs' T tc AL Ap pc Ai ic own m' L/\Z8 w w' own own:=by
 obtain⟨D,e2,Z,U,N⟩:=J
 have f: ∀ {i k},own i k->k≠1-> ¬i=R:=fun j a0=>h.fit (S:=fun i=>i=R) (fun i j=>j▸h.oR) j a0
 have u:=h.bk
 refine⟨⟨E,⟨y,by rw[v];exact u.at_,u.els.keeps hk (fun i j=>f (h.oL i j) (by decide)),u.ne,fun g C=>T8 (u.lt g C) hk.size⟩, ?_, ?_, ?_, ?_,h.few,h.ok.mono hk.size,h.oR,h.oT,h.oL,h.op,h.oi⟩,hk.mono (fun i j=>⟨1,j▸h.oR⟩),fun i k j=> .inl j⟩
 ·rw[D];exact h.tabp.keeps hk (fun i j=>f (h.oT i j) (by decide))
 ·rw[U];exact h.park.keeps hk (fun i j=>f (h.op i j) (by decide))
 ·rw[N];exact h.idr.keeps hk (fun i j=>f (h.oi i j) (by decide))
 rw[e2,Z];exact h.twin
theorem V8.setI {j v m'} (h:V8 w R cs T tc AL Ap pc Ai ic own m L) (i:j≠7) (u:LX (cs.setIfInBounds j (I O v)) T tc Ap pc Ai ic m') (y:m'.rows=m.rows/\m'.L1=m.L1/\m'.L2=m.L2/\m'.pk=m.pk/\m'.ids=m.ids):
  V8 (w.setCell ⟨R,j,none⟩ (I O v)) R (cs.setIfInBounds j (I O v)) T tc AL Ap pc Ai ic own m' L/\Z8 w (w.setCell ⟨R,j,none⟩ (I O v)) own own:=
 h.cellsTo (J7 h.bk.blk j _) (V2 w ⟨R,j,none⟩ _) u (UB i) y
theorem V8.setAn (h:V8 w R cs T tc AL Ap pc Ai ic own m L) v:V8 (w.setCell ⟨R,3,none⟩ (I O v)) R (cs.setIfInBounds 3 (I O v)) T tc AL Ap pc Ai ic own {m with an:=v} L/\Z8 w (w.setCell ⟨R,3,none⟩ (I O v)) own own:=
 h.setI (by decide) ⟨by rw[AN];exact h.rc.sz,J6 h.rc.c0 (by decide),J6 h.rc.c1 (by decide),J6 h.rc.c2 (by decide),UX (by have:=h.rc.sz;omega),J6 h.rc.c4 (by decide),J6 h.rc.c5 (by decide),J6 h.rc.c6 (by decide),J6 h.rc.c8 (by decide),J6 h.rc.c9 (by decide),J6 h.rc.c10 (by decide),J6 h.rc.c11 (by decide),J6 h.rc.c12 (by decide),J6 h.rc.c13 (by decide)⟩ ⟨rfl,rfl,rfl,rfl,rfl⟩
theorem V8.setLa (h:V8 w R cs T tc AL Ap pc Ai ic own m L) v:V8 (w.setCell ⟨R,4,none⟩ (I O v)) R (cs.setIfInBounds 4 (I O v)) T tc AL Ap pc Ai ic own {m with la:=v} L/\Z8 w (w.setCell ⟨R,4,none⟩ (I O v)) own own:=
 h.setI (by decide) ⟨by rw[AN];exact h.rc.sz,J6 h.rc.c0 (by decide),J6 h.rc.c1 (by decide),J6 h.rc.c2 (by decide),J6 h.rc.c3 (by decide),UX (by have:=h.rc.sz;omega),J6 h.rc.c5 (by decide),J6 h.rc.c6 (by decide),J6 h.rc.c8 (by decide),J6 h.rc.c9 (by decide),J6 h.rc.c10 (by decide),J6 h.rc.c11 (by decide),J6 h.rc.c12 (by decide),J6 h.rc.c13 (by decide)⟩ ⟨rfl,rfl,rfl,rfl,rfl⟩
theorem V8.setPh (h:V8 w R cs T tc AL Ap pc Ai ic own m L) v:V8 (w.setCell ⟨R,10,none⟩ (I O v)) R (cs.setIfInBounds 10 (I O v)) T tc AL Ap pc Ai ic own {m with ph:=v} L/\Z8 w (w.setCell ⟨R,10,none⟩ (I O v)) own own:=
 h.setI (by decide) ⟨by rw[AN];exact h.rc.sz,J6 h.rc.c0 (by decide),J6 h.rc.c1 (by decide),J6 h.rc.c2 (by decide),J6 h.rc.c3 (by decide),J6 h.rc.c4 (by decide),J6 h.rc.c5 (by decide),J6 h.rc.c6 (by decide),J6 h.rc.c8 (by decide),J6 h.rc.c9 (by decide),UX (by have:=h.rc.sz;omega),J6 h.rc.c11 (by decide),J6 h.rc.c12 (by decide),J6 h.rc.c13 (by decide)⟩ ⟨rfl,rfl,rfl,rfl,rfl⟩
theorem V8.setNow (h:V8 w R cs T tc AL Ap pc Ai ic own m L) v:V8 (w.setCell ⟨R,11,none⟩ (I O v)) R (cs.setIfInBounds 11 (I O v)) T tc AL Ap pc Ai ic own {m with now:=v} L/\Z8 w (w.setCell ⟨R,11,none⟩ (I O v)) own own:=
 h.setI (by decide) ⟨by rw[AN];exact h.rc.sz,J6 h.rc.c0 (by decide),J6 h.rc.c1 (by decide),J6 h.rc.c2 (by decide),J6 h.rc.c3 (by decide),J6 h.rc.c4 (by decide),J6 h.rc.c5 (by decide),J6 h.rc.c6 (by decide),J6 h.rc.c8 (by decide),J6 h.rc.c9 (by decide),J6 h.rc.c10 (by decide),UX (by have:=h.rc.sz;omega),J6 h.rc.c12 (by decide),J6 h.rc.c13 (by decide)⟩ ⟨rfl,rfl,rfl,rfl,rfl⟩
theorem V8.setEnds (h:V8 w R cs T tc AL Ap pc Ai ic own m L) v:V8 (w.setCell ⟨R,12,none⟩ (I O v)) R (cs.setIfInBounds 12 (I O v)) T tc AL Ap pc Ai ic own {m with ends:=v} L/\Z8 w (w.setCell ⟨R,12,none⟩ (I O v)) own own:=
 h.setI (by decide) ⟨by rw[AN];exact h.rc.sz,J6 h.rc.c0 (by decide),J6 h.rc.c1 (by decide),J6 h.rc.c2 (by decide),J6 h.rc.c3 (by decide),J6 h.rc.c4 (by decide),J6 h.rc.c5 (by decide),J6 h.rc.c6 (by decide),J6 h.rc.c8 (by decide),J6 h.rc.c9 (by decide),J6 h.rc.c10 (by decide),J6 h.rc.c11 (by decide),UX (by have:=h.rc.sz;omega),J6 h.rc.c13 (by decide)⟩ ⟨rfl,rfl,rfl,rfl,rfl⟩
theorem V8.setLng (h:V8 w R cs T tc AL Ap pc Ai ic own m L) v:V8 (w.setCell ⟨R,13,none⟩ (I O v)) R (cs.setIfInBounds 13 (I O v)) T tc AL Ap pc Ai ic own {m with lng:=v} L/\Z8 w (w.setCell ⟨R,13,none⟩ (I O v)) own own:=
 h.setI (by decide) ⟨by rw[AN];exact h.rc.sz,J6 h.rc.c0 (by decide),J6 h.rc.c1 (by decide),J6 h.rc.c2 (by decide),J6 h.rc.c3 (by decide),J6 h.rc.c4 (by decide),J6 h.rc.c5 (by decide),J6 h.rc.c6 (by decide),J6 h.rc.c8 (by decide),J6 h.rc.c9 (by decide),J6 h.rc.c10 (by decide),J6 h.rc.c11 (by decide),J6 h.rc.c12 (by decide),UX (by have:=h.rc.sz;omega)⟩ ⟨rfl,rfl,rfl,rfl,rfl⟩
theorem V8.bookAt {A' c' M M1 M2} (h:V8 w R cs T tc AL Ap pc Ai ic own m L) (y:JL w' R 81 (cs.setIfInBounds 7 (.slice A' M.length c')) 7 A' M) (hk:Q6 (fun i=>i=R) w w') (C: ∀g,Q7 A'=some g->Q7 AL=some g\/w.heap.size<=g) (E:E5 M M1 M2) (J:M.length<=100):
  V8 w' R (cs.setIfInBounds 7 (.slice A' M.length c')) T tc A' Ap pc Ai ic (JQ w own (fun i=>Q7 A'=some i) 3) {m with L1:=M1,L2:=M2} M/\Z8 w w' own (JQ w own (fun i=>Q7 A'=some i) 3):=by
 have f: ∀ {i k},own i k->k≠1-> ¬i=R:=fun j D=>h.fit (S:=fun i=>i=R) (fun i j=>j▸h.oR) j D
 have n: ∀ {i k},own i k->JQ w own (fun i=>Q7 A'=some i) 3 i k:=fun j=> .inl j
 have u:=h.rc
 refine⟨⟨⟨by rw[AN];exact u.sz,J6 u.c0 (by decide),J6 u.c1 (by decide),J6 u.c2 (by decide),J6 u.c3 (by decide),J6 u.c4 (by decide),J6 u.c5 (by decide),J6 u.c6 (by decide),J6 u.c8 (by decide),J6 u.c9 (by decide),J6 u.c10 (by decide),J6 u.c11 (by decide),J6 u.c12 (by decide),J6 u.c13 (by decide)⟩,y,h.tabp.keeps hk (fun i j=>f (h.oT i j) (by decide)),h.park.keeps hk (fun i j=>f (h.op i j) (by decide)),h.idr.keeps hk (fun i j=>f (h.oi i j) (by decide)),E,J,h.ok.new_ hk.size (fun i j=>y.lt i j) 3,n h.oR,fun i j=>n (h.oT i j),fun i j=> ?_,fun i j=>n (h.op i j),fun i j=>n (h.oi i j)⟩,hk.mono (fun i j=>⟨1,j▸h.oR⟩),fun i k j=>j.imp id (fun x=>x.1)⟩
 rcases C i j with v|v
 ·exact n (h.oL i v)
 exact .inr ⟨v,j,rfl⟩
theorem V8.bookTo {M M1 M2} (h:V8 w R cs T tc AL Ap pc Ai ic own m L) (ht:JV w w' R 81 cs 7 AL M) (v:E5 M M1 M2) (C:M.length<=100):
  ∃y i own',V8 w' R y T tc i Ap pc Ai ic own' {m with L1:=M1,L2:=M2} M/\Z8 w w' own own':=by
 obtain⟨A',c',j,hk,u⟩:=ht
 exact⟨_,A',_,h.bookAt j hk u v C⟩
theorem V8.pkTo {P' Ap' pc'} (h:V8 w R cs T tc AL Ap pc Ai ic own m L) (D:Below w.heap.size w w') (E:J2 w' Ap' P'.length pc' 29 5 (Q9 X9 P')) (y: ∀i,Q7 Ap'=some i->w.heap.size<=i):
  ∃own',V8 (w'.setCell ⟨R,8,none⟩ (.slice Ap' P'.length pc')) R (cs.setIfInBounds 8 (.slice Ap' P'.length pc')) T tc AL Ap' pc' Ai ic own' {m with pk:=P'} L/\Z8 w (w'.setCell ⟨R,8,none⟩ (.slice Ap' P'.length pc')) own own':=by
 have C:=V2 w' ⟨R,8,none⟩ (.slice Ap' P'.length pc')
 have hk:Q6 (fun i=>i=R) w (w'.setCell ⟨R,8,none⟩ (.slice Ap' P'.length pc')):=(U1 D _).trans C (fun i j=> .inl j)
 have f: ∀ {i k},own i k->k≠1-> ¬i=R:=fun j N=>h.fit (S:=fun i=>i=R) (fun i j=>j▸h.oR) j N
 have n: ∀ {i k},own i k->JQ w own (fun i=>Q7 Ap'=some i) 4 i k:=fun j=> .inl j
 have u:=h.rc
 have v:=h.bk
 have U:=h.blt
 refine⟨JQ w own (fun i=>Q7 Ap'=some i) 4,⟨⟨by rw[AN];exact u.sz,J6 u.c0 (by decide),J6 u.c1 (by decide),J6 u.c2 (by decide),J6 u.c3 (by decide),J6 u.c4 (by decide),J6 u.c5 (by decide),J6 u.c6 (by decide),UX (by have:=u.sz;omega),J6 u.c9 (by decide),J6 u.c10 (by decide),J6 u.c11 (by decide),J6 u.c12 (by decide),J6 u.c13 (by decide)⟩,⟨J7 (J4 v.blk D) 8 _,by rw[UB (by decide)];exact v.at_,v.els.keeps hk (fun i j=>f (h.oL i j) (by decide)),v.ne,fun g y=>T8 (v.lt g y) hk.size⟩,h.tabp.keeps hk (fun i j=>f (h.oT i j) (by decide)),E.keeps C (fun i j J=> ?_),h.idr.keeps hk (fun i j=>f (h.oi i j) (by decide)),h.twin,h.few,h.ok.new_ hk.size (fun i j=>T8 (E.lt j) C.size) 4,n h.oR,fun i j=>n (h.oT i j),fun i j=>n (h.oL i j),fun i j=> .inr ⟨y i j,j,rfl⟩,fun i j=>n (h.oi i j)⟩,hk.mono (fun i j=>⟨1,j▸h.oR⟩),fun i k j=>j.imp id (fun x=>x.1)⟩
 have h1:=y i j
 have h2:i=R:=J
 omega
theorem V8.pkNil (h:V8 w R cs T tc AL Ap pc Ai ic own m L):
  ∃own',V8 (w.setCell ⟨R,8,none⟩ (.slice none 0 0)) R (cs.setIfInBounds 8 (.slice none 0 0)) T tc AL none 0 Ai ic own' {m with pk:= []} L/\Z8 w (w.setCell ⟨R,8,none⟩ (.slice none 0 0)) own own':=
 h.pkTo (P':= []) (Q2 _ _) (JX _ _ _ _) (fun i j=>by simp[Q7]at j)
theorem V8.idsTo {I' Ai' ic'} (h:V8 w R cs T tc AL Ap pc Ai ic own m L) (hk:Q6 (fun i=>Q7 Ai=some i) w w') (N:J2 w' Ai' I'.length ic' 3 1 (Q9 CD I')) (D: ∀i,Q7 Ai'=some i->Q7 Ai=some i\/w.heap.size<=i):
  ∃own',V8 (w'.setCell ⟨R,9,none⟩ (.slice Ai' I'.length ic')) R (cs.setIfInBounds 9 (.slice Ai' I'.length ic')) T tc AL Ap pc Ai' ic' own' {m with ids:=I'} L/\Z8 w (w'.setCell ⟨R,9,none⟩ (.slice Ai' I'.length ic')) own own':=by
 have E:=V2 w' ⟨R,9,none⟩ (.slice Ai' I'.length ic')
 have y:Q6 (fun i=>Q7 Ai=some i\/i=R) w (w'.setCell ⟨R,9,none⟩ (.slice Ai' I'.length ic')):=(hk.mono (fun i j=> .inl j)).trans E (fun i j=> .inl (.inr j))
 have f: ∀ {i k},own i k->k≠5-> ¬Q7 Ai=some i:=fun j J=>h.fit (S:=fun i=>Q7 Ai=some i) h.oi j J
 have f1: ∀ {i k},own i k->k≠1-> ¬i=R:=fun j J=>h.fit (S:=fun i=>i=R) (fun i j=>j▸h.oR) j J
 have q: ∀ {i k},own i k->k≠5->k≠1-> ¬(Q7 Ai=some i\/i=R):=fun j U h1 x=>x.elim (f j U) (f1 j h1)
 have n: ∀ {i k},own i k->JQ w own (fun i=>Q7 Ai'=some i) 5 i k:=fun j=> .inl j
 have u:=h.rc
 have C:=h.bk
 have hR:=h.blt
 refine⟨JQ w own (fun i=>Q7 Ai'=some i) 5,⟨⟨by rw[AN];exact u.sz,J6 u.c0 (by decide),J6 u.c1 (by decide),J6 u.c2 (by decide),J6 u.c3 (by decide),J6 u.c4 (by decide),J6 u.c5 (by decide),J6 u.c6 (by decide),J6 u.c8 (by decide),UX (by have:=u.sz;omega),J6 u.c10 (by decide),J6 u.c11 (by decide),J6 u.c12 (by decide),J6 u.c13 (by decide)⟩,⟨J7 (X0 C.blk hk (f h.oR (by decide))) 9 _,by rw[UB (by decide)];exact C.at_,C.els.keeps y (fun i j=>q (h.oL i j) (by decide) (by decide)),C.ne,fun g D=>T8 (C.lt g D) y.size⟩,h.tabp.keeps y (fun i j=>q (h.oT i j) (by decide) (by decide)),h.park.keeps y (fun i j=>q (h.op i j) (by decide) (by decide)),N.keeps E (fun i j Z=> ?_),h.twin,h.few,h.ok.new_ y.size (fun i j=>T8 (N.lt j) E.size) 5,n h.oR,fun i j=>n (h.oT i j),fun i j=>n (h.oL i j),fun i j=>n (h.op i j),fun i j=> ?_⟩,y.mono (fun i j=> ?_),fun i k j=>j.imp id (fun x=>x.1)⟩
 ·have h2:i=R:=Z
  rcases D i j with v|v
  ·exact f h.oR (by decide) (h2▸v)
  omega
 ·rcases D i j with v|v
  ·exact n (h.oi i v)
  exact .inr ⟨v,j,rfl⟩
 rcases j with j|rfl
 ·exact⟨5,h.oi i j⟩
 exact⟨1,h.oR⟩
theorem V8.bookNil (h:V8 w R cs T tc AL Ap pc Ai ic own m L):
  V8 (w.setCell ⟨R,7,none⟩ (.slice none 0 0)) R (cs.setIfInBounds 7 (.slice none 0 0)) T tc none Ap pc Ai ic own {m with L1:= [],L2:= []} []/\Z8 w (w.setCell ⟨R,7,none⟩ (.slice none 0 0)) own own:=by
 have hk:=V2 w ⟨R,7,none⟩ (.slice none 0 0)
 have f: ∀ {i k},own i k->k≠1-> ¬i=R:=fun j C=>h.fit (S:=fun i=>i=R) (fun i j=>j▸h.oR) j C
 have u:=h.rc
 exact⟨⟨⟨by rw[AN];exact u.sz,J6 u.c0 (by decide),J6 u.c1 (by decide),J6 u.c2 (by decide),J6 u.c3 (by decide),J6 u.c4 (by decide),J6 u.c5 (by decide),J6 u.c6 (by decide),J6 u.c8 (by decide),J6 u.c9 (by decide),J6 u.c10 (by decide),J6 u.c11 (by decide),J6 u.c12 (by decide),J6 u.c13 (by decide)⟩,⟨J7 h.bk.blk 7 _,⟨0,UX (by have:=u.sz;omega),Q4 _,V5 _⟩,⟨rfl,fun v=>absurd v (by decide)⟩,by simp[Q7],fun g y=>by simp[Q7]at y⟩,h.tabp.keeps hk (fun i j=>f (h.oT i j) (by decide)),h.park.keeps hk (fun i j=>f (h.op i j) (by decide)),h.idr.keeps hk (fun i j=>f (h.oi i j) (by decide)),Mv,by simp,h.ok.mono hk.size,h.oR,h.oT,fun i j=>by simp[Q7]at j,h.op,h.oi⟩,hk.mono (fun i j=>⟨1,j▸h.oR⟩),fun i k j=> .inl j⟩
theorem D7.below {F} (h:D7 w R F m) (j:Below w.heap.size w w'):D7 w' R F m:=by
 obtain⟨cs,T,tc,AL,Ap,pc,Ai,ic,own,L,u,i⟩:=h
 exact⟨cs,T,tc,AL,Ap,pc,Ai,ic,own,L,u.below j,i⟩
theorem D7.keeps {F S} (h:D7 w R F m) (hk:Q6 S w w') (v: ∀i,F i-> ¬S i):D7 w' R F m:=by
 obtain⟨cs,T,tc,AL,Ap,pc,Ai,ic,own,L,u,j⟩:=h
 exact⟨cs,T,tc,AL,Ap,pc,Ai,ic,own,L,u.keeps hk (fun i k y=>v i ((j i).2 ⟨k,y⟩)),j⟩
theorem D7.lt {F} (h:D7 w R F m) {i} (v:F i):i<w.heap.size:=by
 obtain⟨cs,T,tc,AL,Ap,pc,Ai,ic,own,L,u,j⟩:=h
 obtain⟨k,hk⟩:=(j i).1 v
 exact u.ok.lt i k hk
theorem C9.same {F} (h:D7 w R F m) (i:Below w.heap.size w w'):C9 w w' R F m:=⟨F,h.below i,C1 i⟩
abbrev DE:=@C9.same
theorem C9.then_ {F w''} (h:C9 w w' R F m) (i:Below w'.heap.size w' w''):C9 w w'' R F m:=by
 obtain⟨F',h1,h2⟩:=h
 exact⟨F',h1.below i,h2.trans (C1 i)⟩
theorem V8.to_ {own0 F w0} (h:V8 w R cs T tc AL Ap pc Ai ic own m L) (j:Z8 w0 w own0 own) (u: ∀i,F i↔ ∃k,own0 i k):C9 w0 w R F m:=⟨_,h.at_,j.bstep u⟩
theorem V8.perm (h:V8 w R cs T tc AL Ap pc Ai ic own m L):L.Perm (L6 m):=by
 have i:(L6 m)=JR 1 L++JR 2 L:=by
  unfold L6;rw[h.twin.s1,h.twin.s2]
 rw[i]
 refine((Jy 1 L).append (Jy 2 L)).trans ?_ |>.symm
 have C:=fun o u=>(h.twin.ok o u).2
 clear i
 have key: ∀l,(∀o∈l,Z4 o.side)->(C4 1 l++C4 2 l).Perm l:=by
  intro l
  induction l with
  |nil=>intro _;exact TL _
  |cons x t y=>
   intro v;have ht:=y (fun o u=>v o (EU _ u));rcases v x PE with e|e
   ·have i:C4 1 (x::t)=x::C4 1 t:=ML (by simp[e])
    have j:C4 2 (x::t)=C4 2 t:=CF (by simp[e]);rw[i,j,MS];exact ht.cons x
   have i:C4 1 (x::t)=C4 1 t:=CF (by simp[e]);have j:C4 2 (x::t)=x::C4 2 t:=ML (by simp[e]);rw[i,j];exact List.perm_middle.trans (ht.cons x)
 exact key L C
end
theorem Tn {p0 p} (h:N6 (M5 p0) p=true):p=2\/p=3\/p=5\/p=7:=by
 unfold N6 M5 at h
 by_cases h1:p0=1
 ·simp[h1]at h;omega
 by_cases h2:p0=2
 ·simp[h2]at h;omega
 by_cases j:p0=3
 ·simp[j]at h;omega
 by_cases i:p0=5
 ·simp[i]at h;omega
 simp[h1,h2,j,i]at h
theorem KD.five {ps:List (Int×Int)} (h:KD ps): ∀k,k<ps.length->(ps.getD k (0,0)).2=1\/(ps.getD k (0,0)).2=2\/(ps.getD k (0,0)).2=3\/(ps.getD k (0,0)).2=5\/(ps.getD k (0,0)).2=7
 |0,hk=> .inl (by rw[h.zero])
 |k+1,hk=>by
  have hw:=h.2.2 (k+1) hk;simp only[ZJ,BS]at hw
  split at hw
  ·cases hw
  rename_i ha;exact .inr (Tn (by simpa using ha))
theorem Qe3 {m} (h:KD m.rows) {t} (ht:0<=t):C8 m t=1\/C8 m t=2\/C8 m t=3\/C8 m t=5\/C8 m t=7:=by
 have i:(m.rows.getD 0 (0,0)).1<=t:=by rw[h.zero];exact ht
 obtain⟨k,hk,-,-,e⟩:=Ma m.rows t i m.rows.length h.1 (Q4 _)
 unfold C8
 rw[e]
 exact h.five k hk
structure ZN (m m':X7):Prop where
 rows:m'.rows=m.rows
 st:m'.st=m.st
 dy:m'.dy=m.dy
 tk:m'.tk=m.tk
 mo:m'.mo=m.mo
theorem ZN.refl m:ZN m m:=⟨rfl,rfl,rfl,rfl,rfl⟩
theorem ZN.trans {m m1 m2} (h:ZN m m1) (k:ZN m1 m2):ZN m m2:=⟨k.rows.trans h.rows,k.st.trans h.st,k.dy.trans h.dy,k.tk.trans h.tk,k.mo.trans h.mo⟩
theorem Lf m:ZN m (ZR m):=by
 obtain⟨u,v,i,y,j,D,e7,Z,U,N,E,C,J⟩:=LH m.pk {m with ph:=5}
 exact⟨u,v,i,y,j⟩
theorem Je3 m:ZN m (QR m):=by
 unfold QR
 split
 ·split
  ·exact⟨rfl,rfl,rfl,rfl,rfl⟩
  split
  ·exact Lf m
  exact⟨rfl,rfl,rfl,rfl,rfl⟩
 exact ZN.refl m
theorem Fr m id:ZN m (N4 m id):=by
 unfold N4
 split
 ·exact ZN.refl m
 split<;>exact⟨rfl,rfl,rfl,rfl,rfl⟩
theorem Uc m o:ZN m (N9 m o)/\(N9 m o).now=m.now/\(((N9 m o).ph=m.ph/\(N9 m o).ends=m.ends/\(N9 m o).lng=m.lng)\/(m.ph=3/\(N9 m o).ph=4/\(N9 m o).ends=m.now+m.tk/\(N9 m o).lng=0)):=by
 unfold N9
 split
 ·unfold ZM
  split
  ·exact⟨⟨rfl,rfl,rfl,rfl,rfl⟩,rfl,.inl ⟨rfl,rfl,rfl⟩⟩
  split
  ·exact⟨⟨rfl,rfl,rfl,rfl,rfl⟩,rfl,.inl ⟨rfl,rfl,rfl⟩⟩
  rename_i C;have D:m.ph=3:=by
   have: ¬m.ph≠3:=C;omega
  obtain⟨M,u⟩:=exq (C5 (Y6 m (V3 o)) (V3 o));have v:ZN m M/\M.now=m.now/\M.ph=m.ph/\M.ends=m.ends/\M.lng=m.lng:=by
   rw[<-u];unfold C5
   split<;>exact⟨⟨rfl,rfl,rfl,rfl,rfl⟩,rfl,rfl,rfl,rfl⟩
  obtain⟨i,j,y,E,J⟩:=v;unfold M3;rw[u]
  split
  ·exact⟨i.trans ⟨rfl,rfl,rfl,rfl,rfl⟩,j,.inr ⟨D,rfl,by show M.now+M.tk=_;rw[j,i.tk],rfl⟩⟩
  exact⟨i,j,.inl ⟨y,E,J⟩⟩
 exact⟨ZN.refl m,rfl,.inl ⟨rfl,rfl,rfl⟩⟩
theorem Qu7 m p:ZN m (JZ m p):=by
 unfold JZ
 split
 ·exact⟨rfl,rfl,rfl,rfl,rfl⟩
 split
 ·exact Lf m
 exact⟨rfl,rfl,rfl,rfl,rfl⟩
theorem Qm3 m:ZN m (QU m):=by
 unfold QU
 split
 ·exact⟨rfl,rfl,rfl,rfl,rfl⟩
 split<;>exact⟨rfl,rfl,rfl,rfl,rfl⟩
theorem Na m:ZN m (N5 m):=by
 unfold N5
 split
 ·exact ZN.refl m
 have i:ZN m (K0 m):=⟨rfl,rfl,rfl,rfl,rfl⟩
 unfold W7
 split
 ·split<;>exact⟨rfl,rfl,rfl,rfl,rfl⟩
 split
 ·exact i
 split
 ·exact i.trans (Qu7 _ _)
 split
 ·exact i.trans (Qm3 _)
 exact i
theorem Qu8 m p:(JZ m p).now=m.now:=by
 unfold JZ
 split
 ·rfl
 split
 ·exact(LH m.pk {m with ph:=5}).2.2.2.2.2.2.2.2.2.2.1
 rfl
theorem Nb m p:(JZ m p).ph=p:=by
 unfold JZ
 split
 ·rename_i h;exact h.symm
 split
 ·rename_i h;rw[Xv];exact h.symm
 rfl
theorem Qm4 m:(QU m).now=m.now:=by
 unfold QU
 split
 ·rfl
 split<;>rfl
theorem Yv m:(N5 m).now=if m.ph=7 then m.now else m.now+1:=by
 unfold N5
 split
 ·rfl
 unfold W7
 split
 ·split<;>rfl
 split
 ·rfl
 split
 ·exact Qu8 _ _
 split
 ·exact Qm4 _
 rfl
structure DR (m:X7) (since:Int):Prop where
 vol:m.ph=4->since+ (m.ends-m.now)=m.tk* (m.lng+1)/\0<m.ends-m.now/\m.lng<=m.mo
 non:m.ph≠4->since=0
theorem DR.lt {m since} (h:DR m since) (hk:B9 m):since<m.tk* (1+m.mo):=by
 have h1:=hk.tk.1
 have h2:=hk.mo.1
 by_cases i:m.ph=4
 ·obtain⟨u,v,j⟩:=h.vol i
  have:m.tk* (m.lng+1)<=m.tk* (1+m.mo):=Int.mul_le_mul_of_nonneg_left (by omega) (by omega);omega
 rw[h.non i]
 exact Int.mul_pos (by omega) (by omega)
def Ra (m:X7) (since:Int):Int:=if(N5 m).ph=4 then(if m.ph=4 then since+1 else since)else 0
theorem DR.tick {m since} (h:DR m since) (hk:B9 m) (hn:0<=m.now):DR (N5 m) (Ra m since):=by
 refine⟨fun i=> ?_,fun i=>Q3 i⟩
 unfold Ra
 rw[Q5 i]
 have u:=Na m
 have j:=Yv m
 unfold N5 at i j u|-
 by_cases E:m.ph=7
 ·rw[Q5 E]at i;omega
 rw[Q3 E]at i j u|-
 rw[Q3 E]at j
 unfold W7 at i j u|-
 by_cases U:C8 (K0 m) (K0 m).now=7
 ·rw[Q5 U]at i
  exact absurd i (by show¬((7:Int)=4);omega)
 rw[Q3 U]at i j u|-
 by_cases C:(K0 m).ph=6
 ·rw[Q5 C]at i
  have C:m.ph=6:=C;have i:m.ph=4:=i;omega
 rw[Q3 C]at i j u|-
 by_cases Z:C8 m m.now≠C8 (K0 m) (K0 m).now
 ·rw[Q5 Z,Nb]at i
  have:=Qe3 (m:=K0 m) hk.tab (t:=(K0 m).now) (by show 0<=m.now+1;omega);omega
 rw[Q3 Z]at i j u|-
 by_cases y:(K0 m).ph=4/\(K0 m).ends<=(K0 m).now
 ·rw[Q5 y]at i j u|-
  have v:m.ph=4:=y.1;have me:m.ends<=m.now+1:=y.2;obtain⟨a1,a2,J⟩:=h.vol v;rw[Q5 v];unfold QU at i|-
  by_cases N:BE (K0 m)
  ·rw[Q5 N]at i
   exact absurd i (by show¬((3:Int)=4);omega)
  rw[Q3 N]at i|-
  by_cases D:(K0 m).lng< (K0 m).mo
  ·rw[Q5 D]
   have D:m.lng<m.mo:=D;have a0:=hk.tk.1;refine⟨?_, ?_, ?_⟩
   ·show since+1+ ((m.now+1+m.tk)- (m.now+1))=m.tk* (m.lng+1+1)
    rw[Int.mul_add m.tk (m.lng+1) 1];omega
   ·show 0< (m.now+1+m.tk)- (m.now+1)
    omega
   show m.lng+1<=m.mo;omega
  rw[Q3 D]at i;exact absurd i (by show¬((6:Int)=4);omega)
 rw[Q3 y]at i|-
 have v:m.ph=4:=i
 obtain⟨a1,a2,J⟩:=h.vol v
 have me: ¬m.ends<=m.now+1:=fun e=>y ⟨v,e⟩
 rw[Q5 v]
 refine⟨?_, ?_,J⟩
 ·show since+1+ (m.ends- (m.now+1))=m.tk* (m.lng+1)
  omega
 show 0<m.ends- (m.now+1)
 omega
theorem DR.order {m since} (h:DR m since) (hk:B9 m) o:DR (N9 m o) since:=by
 obtain⟨j,v,⟨u,E,y⟩|⟨J,D,C,b3⟩⟩:=Uc m o
 ·refine⟨fun i=> ?_,fun i=> ?_⟩
  ·rw[E,y,v,j.tk,j.mo];exact h.vol (u▸i)
  exact h.non (u▸i)
 refine⟨fun _=> ?_,fun i=>absurd D i⟩
 rw[C,b3,v,j.tk,j.mo,h.non (by omega)]
 have:=hk.tk.1
 have:=hk.mo.1
 refine⟨?_,by omega,by omega⟩
 rw[Int.mul_add,Int.mul_zero,Int.mul_one]
 omega
theorem Vp m id:(N4 m id).ph=m.ph/\(N4 m id).now=m.now/\(N4 m id).ends=m.ends/\(N4 m id).lng=m.lng:=by
 unfold N4
 split
 ·exact⟨rfl,rfl,rfl,rfl⟩
 split<;>exact⟨rfl,rfl,rfl,rfl⟩
theorem DR.cancel {m since} (h:DR m since) id:DR (N4 m id) since:=by
 obtain⟨u,C,v,y⟩:=Vp m id
 have j:=Fr m id
 refine⟨fun i=> ?_,fun i=> ?_⟩
 ·rw[C,v,y,j.tk,j.mo];exact h.vol (u▸i)
 exact h.non (u▸i)
structure UZ (m:X7):Prop where
 now:0<=m.now
 ended:m.ph=7↔C8 m m.now=7
 none_:m.ph=7->m.L1= []/\m.L2= []/\m.pk= []
theorem UZ.of {m m'} (h:UZ m) (j:ZN m m') (i:m'.now=m.now) (hp:m'.ph=7↔m.ph=7) (u:m'.ph=7->m'.L1= []/\m'.L2= []/\m'.pk= []):UZ m':=by
 refine⟨by rw[i];exact h.now, ?_,u⟩
 rw[hp,h.ended]
 unfold C8
 rw[j.rows,i]
theorem UZ.order {m} (h:UZ m) o:UZ (N9 m o):=by
 obtain⟨y,D,hp⟩:=Uc m o
 refine h.of y D ?_ ?_
 ·rcases hp with⟨i,-,-⟩|⟨v,C,-,-⟩
  ·rw[i]
  omega
 intro E
 have j:m.ph=7:=by
  rcases hp with⟨i,-,-⟩|⟨v,C,-,-⟩
  ·rw[<-i];exact E
  omega
 have e:N9 m o=m:=by
  unfold N9;rw[Q3];intro u;have:=(Du u).2.2.1;rw[j]at this;unfold VY at this;simp at this
 rw[e]
 exact h.none_ j
theorem UZ.cancel {m} (h:UZ m) id:UZ (N4 m id):=by
 obtain⟨i,u,y,C⟩:=Vp m id
 refine h.of (Fr m id) u (by rw[i]) (fun v=> ?_)
 have j:m.ph=7:=i▸v
 have e:N4 m id=m:=Q5 j
 rw[e]
 exact h.none_ j
theorem UZ.halt {m} (h:UZ m):UZ (XY m):=by
 unfold XY
 by_cases i:m.ph=6\/m.ph=7
 ·rw[Q5 i];exact h
 rw[Q3 i]
 refine h.of ⟨rfl,rfl,rfl,rfl,rfl⟩ rfl ⟨fun e=>absurd e (by show¬((6:Int)=7);omega),fun e=>absurd (.inr e) i⟩ (fun e=>absurd e (by show¬((6:Int)=7);omega))
theorem UZ.open_ {m} (h:UZ m):UZ (QR m):=by
 have i:=Je3 m
 unfold QR at i|-
 by_cases u:m.ph=6
 ·rw[Q5 u]at i|-
  have y:C8 m m.now≠7:=fun e=>by have:=h.ended.2 e;omega
  by_cases j:C8 m m.now=3
  ·rw[Q5 j]at i|-
   exact h.of i rfl ⟨fun e=>absurd e (by show¬((4:Int)=7);omega),fun e=>by omega⟩ (fun e=>absurd e (by show¬((4:Int)=7);omega))
  rw[Q3 j]at i|-
  by_cases v:C8 m m.now=5
  ·rw[Q5 v]at i|-
   have C:(ZR m).now=m.now:=(LH m.pk {m with ph:=5}).2.2.2.2.2.2.2.2.2.2.1;exact h.of i C ⟨fun e=>(by rw[Xv]at e;cases e),fun e=>(by omega)⟩ (fun e=>(by rw[Xv]at e;cases e))
  rw[Q3 v]at i|-;exact h.of i rfl ⟨fun e=>absurd e y,fun e=>by omega⟩ (fun e=>absurd e y)
 rw[Q3 u];exact h
theorem UZ.tick {m} (h:UZ m):UZ (N5 m):=by
 have y:=Yv m
 have J:=Na m
 have N:C8 (N5 m) (N5 m).now=C8 m (N5 m).now:=by unfold C8;rw[J.rows]
 by_cases i:m.ph=7
 ·have e:N5 m=m:=Q5 i
  rw[e];exact h
 rw[Q3 i]at y
 have key:((N5 m).ph=7↔C8 m (m.now+1)=7)/\((N5 m).ph=7->(N5 m).L1= []/\(N5 m).L2= []/\(N5 m).pk= []):=by
  unfold N5;rw[Q3 i];unfold W7
  by_cases j:C8 (K0 m) (K0 m).now=7
  ·rw[Q5 j]
   exact⟨⟨fun _=>j,fun _=>rfl⟩,fun _=>⟨rfl,rfl,rfl⟩⟩
  rw[Q3 j];have u: ∀ {K:X7},K.ph≠7->(K.ph=7↔C8 m (m.now+1)=7)/\(K.ph=7->K.L1= []/\K.L2= []/\K.pk= []):=fun D=>⟨⟨fun e=>absurd e D,fun e=>absurd e j⟩,fun e=>absurd e D⟩
  by_cases v:(K0 m).ph=6
  ·rw[Q5 v]
   exact u (by rw[v];decide)
  rw[Q3 v]
  by_cases E:C8 m m.now≠C8 (K0 m) (K0 m).now
  ·rw[Q5 E]
   exact u (by rw[Nb];exact j)
  rw[Q3 E]
  by_cases C:(K0 m).ph=4/\(K0 m).ends<=(K0 m).now
  ·rw[Q5 C]
   refine u ?_;unfold QU
   split
   ·exact fun e=>absurd e (by show¬((3:Int)=7);omega)
   split
   ·show¬m.ph=7;exact i
   exact fun e=>absurd e (by show¬((6:Int)=7);omega)
  rw[Q3 C];exact u i
 refine⟨by rw[y];have:=h.now;omega, ?_,key.2⟩
 rw[N,y]
 exact key.1
