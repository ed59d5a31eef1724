/- Parts. -/
import Derived.Test.YtnlngicnfegjgaaGreatDoorZq29
set_option linter.unusedVariables false
set_option maxRecDepth 100000
set_option maxHeartbeats 8000000
open Go.Proofs.Tryz
open Go.Value renaming int→I,pointer→IP
open Go.IntKind renaming i64→O
namespace Go.Proofs.YtnlngicnfegjgaaGreatDoor
open Go.RowKit
theorem Jj3 a b c d w:(binOp .neq 89 (.agg #[.int .i64 a,.int .i64 b,.int .i64 c,.int .i64 d]) (.agg #[.int .i64 a,.int .i64 b,.int .i64 c,.int .i64 d])).run prog w= .ok (.bool false) w:=by
 have i:prog.underlying 89=some (.struct (prog.fieldsOf 89)):=by kernel_rfl
 have j:prog.stoodInHeld 89=false:=by kernel_rfl
 have u:prog.underlying 3=some (.int .i64):=VN
 rw[run_neq_struct,run_equalIn_agg _ _ _ _ _ i j]
 simp[Program.fieldsOf,underlying89,Op.eqFields,go_sem,u]
theorem Pb {w b off len l} (h:V4 w D8 4 (some ⟨b,off,none⟩) len l) {i} (u:i<l.length):
  w.cell? ⟨b,off+i*4,none⟩=some (I O l[i].b)/\w.cell? ⟨b,off+i*4+1,none⟩=some (I O l[i].s)/\w.cell? ⟨b,off+i*4+2,none⟩=some (I O l[i].p)/\w.cell? ⟨b,off+i*4+3,none⟩=some (I O l[i].n):=
 ⟨h.at_ u (j:=0) rfl,h.at_ u (j:=1) rfl,h.at_ u (j:=2) rfl,h.at_ u (j:=3) rfl⟩
theorem Bz A u n c c2 ps w (h:V4 w D8 4 A n ps) (h2:V4 w D8 4 u n ps) (hm:n<=1000000000):
  Calls prog 21 #[.slice A n c,.slice u n c2] w fun e w'=>e= .returned (.bool true)/\Below w.heap.size w w':=by
 have D:=Q0 h
 have E:=Q0 h2
 have C:=h.1
 have HL:=Q0 C
 have e0:((n:Int) != (n:Int))=false:=JW rfl
 clear h h2 C
 go_enter func21,ntmps21
 go_wp2_with fail
 go_loopg [5] n (fun gg N wx=> ∃k,k<=n/\gg=n-k/\N=I O k/\Below w.heap.size w wx)
 case atStart=>exact⟨0,V5 _,rfl,rfl,Q2 _ _⟩
 obtain⟨k,hk,rfl,rfl,j⟩:=hrel
 by_cases a2:k<n
 ·have y:k<ps.length:=by have:=HL.out;omega
  obtain⟨b,i,U⟩: ∃b i,A=some ⟨b,i,none⟩:=by obtain⟨b,i,h1,_⟩:=D.2 (by omega);exact⟨b,i,h1⟩
  obtain⟨b2,a5,a1⟩: ∃b i,u=some ⟨b,i,none⟩:=by obtain⟨b,i,h1,_⟩:=E.2 (by omega);exact⟨b,i,h1⟩
  subst U a1;obtain⟨x0,x1,x2,x3⟩:=Pb (D.below j (Q4 _)) y;obtain⟨J,y1,y2,Z⟩:=Pb (E.below j (Q4 _)) y;have a0:(k:Int)< (n:Int):=by omega
  have a3:(0:Int)<=(k:Int):=by omega
  obtain⟨o,v⟩:=exq (ps[k]);rw[v]at x0 x1 x2 x3 J y1 y2 Z;clear v;have a4:=Jj3 o.b o.s o.p o.n;go_wp2_with fail
  go_quiet (fail)
  go_wp2_with fail
  go_roundg (n- (k+1))
  case measure=>omega
  exact⟨k+1,by omega,rfl,by go_num,U7 j _⟩
 obtain rfl:k=n:=by omega
 have a0: ¬(k:Int)< (k:Int):=by omega
 go_wp2
 go_ret
 exact⟨rfl,j⟩
structure X7 where
 rows:List (Int×Int)
 st:Int
 dy:Int
 tk:Int
 mo:Int
 an:Int
 la:Int
 L1:List Q8
 L2:List Q8
 pk:List Q8
 ids:List Int
 ph:Int
 now:Int
 ends:Int
 lng:Int
def C8 (m:X7) (t:Int):Int:=(phAt m.rows t m.rows.length).1
def L6 (m:X7):List Q8:=m.L1++m.L2
def P5 (m:X7):X4:=KV (S7 (L6 m) m.la) m.la
def NT (m:X7):X4:=if GC m.ph=true then P5 m else(0,0,0)
def Aj (p t:Int) (L1 L2:List Q8) (F:List B5):Prop:=CT L1 L2 p t F/\BK t L1 L2 F
def QW (m:X7) (F:List B5):Prop:=if 0< (P5 m).2.1 then Aj (P5 m).1 (P5 m).2.1 m.L1 m.L2 F else F= []
def BL (m:X7) (L:List Q8):List Q8:=(if 0< (P5 m).2.1 then V9 L (P5 m).2.1 else L).filter fun o=>o.kind ==1
def P0 (m:X7) (p:Int):Int:=if 0< (P5 m).2.1 then(P5 m).1 else p
def KJ (m:X7):X7:= {m with L1:=BL m m.L1,L2:=BL m m.L2,an:=P0 m m.an,la:=P0 m m.la}
def M6 (m:X7) (o:Q8):X7:= {m with L1:=FA 1 m.L1 m.L2 m.L1 o,L2:=FA 2 m.L1 m.L2 m.L2 o}
def L3 (m:X7) (l:List Q8):X7:=l.foldl M6 m
def ZR (m:X7):X7:= {L3 {m with ph:=5} m.pk with pk:= []}
def VX (m:X7):X7:= {m with ph:=4,ends:=m.now+m.tk,lng:=0}
def YF (m:X7):X7:= {m with ph:=7,pk:= [],L1:= [],L2:= []}
def JZ (m:X7) (p:Int):X7:=if p=3 then {KJ m with ph:=3}else if p=5 then ZR m else {m with ph:=p}
def ZA (m:X7) (p:Int) (F:List B5):Prop:=if p=3 then QW m F else F= []
def BE (m:X7):Prop:=(P5 m).2.1=0\/US m.st m.an (P5 m).1=true
instance(m:X7):Decidable (BE m):=by unfold BE;infer_instance
def QU (m:X7):X7:=
 if BE m then {KJ m with ph:=3}else if m.lng<m.mo then {m with lng:=m.lng+1,ends:=m.now+m.tk}else {m with ph:=6}
def KU (m:X7) (F:List B5):Prop:=if BE m then QW m F else F= []
def K0 (m:X7):X7:= {m with now:=m.now+1}
def W7 (was:Int) (m:X7):X7:=
 if C8 m m.now=7 then YF (if m.ph=5 then KJ m else m)
 else if m.ph=6 then m
 else if was≠C8 m m.now then JZ m (C8 m m.now)
 else if m.ph=4/\m.ends<=m.now then QU m else m
def QP (was:Int) (m:X7) (F:List B5):Prop:=
 if C8 m m.now=7 then(if m.ph=5 then QW m F else F= [])
 else if m.ph=6 then F= []
 else if was≠C8 m m.now then ZA m (C8 m m.now) F
 else if m.ph=4/\m.ends<=m.now then KU m F else F= []
def DW (m:X7):Int:=if m.ph=7 then 6 else 0
def N5 (m:X7):X7:=if m.ph=7 then m else W7 (C8 m m.now) (K0 m)
def AV (m:X7) (F:List B5):Prop:=if m.ph=7 then F= []else QP (C8 m m.now) (K0 m) F
def AU (m:X7):Int:=if m.ph=6\/m.ph=7 then 6 else 0
def XY (m:X7):X7:=if m.ph=6\/m.ph=7 then m else {m with ph:=6}
def EJ (m:X7):Int:=if m.ph=6 then 0 else 6
def QR (m:X7):X7:=if m.ph=6 then(if C8 m m.now=3 then VX m else if C8 m m.now=5 then ZR m else {m with ph:=C8 m m.now})else m
def CZ (m:X7) (id:Int):Bool:=m.pk.any fun o=>o.id ==id
def UL (m:X7) (id:Int):Int:=if m.ph=7 then 6 else if CZ m id=true then 0 else if(Y0 (L6 m) id).isSome=true then 0 else 7
def N4 (m:X7) (id:Int):X7:=if m.ph=7 then m else if CZ m id=true then {m with pk:=S3 m.pk (m.pk.findIdx fun o=>o.id ==id)}else {m with L1:=D1 m.L1 id,L2:=D1 m.L2 id}
def FH (o:Q8):Bool:=decide (o.side≠1/\o.side≠2\/o.kind<1\/4<o.kind\/o.id<1)
def QJ (m:X7) (o:Q8):Int:=
 if FH o=true then 1 else if JH o=false then 2 else if VY m.ph o.kind=false then 6 else if o.id∈m.ids then 9 else if 100<=m.L1.length+m.L2.length+m.pk.length then 12 else 0
def D9 (m:X7) (o:Q8):QF Int:=V7 (fun la p=>ZK m.st m.dy m.an la p) (fun _ p=>p) (X6 (3-o.side) m.L1 m.L2) o m.la
def XU (m:X7) (o:Q8):X7:= {m with L1:=if o.side=1 then m.L1 else(D9 m o).rest,L2:=if o.side=1 then(D9 m o).rest else m.L2,la:=(D9 m o).st}
def C5 (m:X7) (o:Q8):X7:=if 0< (D9 m o).left.qty/\(D9 m o).left.kind≠2 then M6 (XU m o) (D9 m o).left else XU m o
def M3 (m:X7) (o:Q8):X7:=if(D9 m o).stop=true then VX (C5 m o)else C5 m o
def Y6 (m:X7) (o:Q8):X7:= {m with ids:=m.ids++ [o.id]}
def ZM (m:X7) (o:Q8):X7:=if o.kind=4/\m.ph≠5 then {m with pk:=m.pk++ [o]}else if m.ph≠3 then M6 m o else M3 m o
def UM (m:X7) (o:Q8):List B5:=if o.kind=4/\m.ph≠5 then []else if m.ph≠3 then []else(D9 m o).fills
def N9 (m:X7) (o:Q8):X7:=if QJ m o=0 then ZM (Y6 m (V3 o)) (V3 o)else m
def UJ (m:X7) (o:Q8):List B5:=if QJ m o=0 then UM (Y6 m (V3 o)) (V3 o)else []
structure B9 (m:X7):Prop where
 tab:KD m.rows
 st:0<=m.st/\m.st<=10000
 dy:0<=m.dy/\m.dy<=10000
 tk:1<=m.tk/\m.tk<=1000000
 mo:0<=m.mo/\m.mo<=10
 an:1<=m.an/\m.an<=1000000
 la:1<=m.la/\m.la<=1000000
 ls:B8 m.L1 m.L2
 pk: ∀o∈m.pk,JJ o/\Z4 o.side
 cnt:m.L1.length+m.L2.length+m.pk.length<=100
 lng:0<=m.lng/\m.lng<=10
theorem Wr {p t L1 L2 F F'} (h:Aj p t L1 L2 F) (j:Aj p t L1 L2 F'):F=F':=
 Qt1 h.2 j.2 (fun f i=>⟨(h.1.one f i).1,(h.1.one f i).2.1⟩) (fun f i=>⟨(j.1.one f i).1,(j.1.one f i).2.1⟩) h.1.sum j.1.sum
theorem QW.unique {m F F'} (h:QW m F) (i:QW m F'):F=F':=by
 unfold QW at h i
 split at h
 ·rw[Q5 (by assumption)]at i
  exact Wr h i
 rw[Q3 (by assumption)]at i
 rw[h,i]
theorem Ws {m F F'} (h:AV m F) (i:AV m F'):F=F':=by
 have key: ∀m,∀p,ZA m p F->ZA m p F'->F=F':=fun m p h i=>by
  unfold ZA at h i
  split at h
  ·rw[Q5 (by assumption)]at i;exact h.unique i
  rw[Q3 (by assumption)]at i;rw[h,i]
 have j: ∀m,KU m F->KU m F'->F=F':=fun m h i=>by
  unfold KU at h i
  split at h
  ·rw[Q5 (by assumption)]at i;exact h.unique i
  rw[Q3 (by assumption)]at i;rw[h,i]
 unfold AV at h i
 split at h
 ·rw[Q5 (by assumption)]at i;rw[h,i]
 rw[Q3 (by assumption)]at i
 unfold QP at h i
 split at h
 ·rw[Q5 (by assumption)]at i
  split at h
  ·rw[Q5 (by assumption)]at i;exact h.unique i
  rw[Q3 (by assumption)]at i;rw[h,i]
 rw[Q3 (by assumption)]at i
 split at h
 ·rw[Q5 (by assumption)]at i;rw[h,i]
 rw[Q3 (by assumption)]at i
 split at h
 ·rw[Q5 (by assumption)]at i;exact key _ _ h i
 rw[Q3 (by assumption)]at i
 split at h
 ·rw[Q5 (by assumption)]at i;exact j _ h i
 rw[Q3 (by assumption)]at i;rw[h,i]
structure YA {σ:Type} (K:σ->List Q8->List Q8->(Nat->Prop)->World->Prop) (al:σ->Int->Bool) (tr:σ->Int->σ) (cnt:σ->Nat) (ga gt:FuncId) (fa ca ct:Array Value) (cutF:FuncId) (bp e0:Value):Prop where
 keep: ∀ {s:σ} {L1 L2:List Q8} {F:Nat->Prop} {w w':World} {S:Nat->Prop},K s L1 L2 F w->Q6 S w w'->(∀i,F i-> ¬S i)->K s L1 L2 F w'
 lt: ∀ {s:σ} {L1 L2:List Q8} {F:Nat->Prop} {w:World},K s L1 L2 F w-> ∀i,F i->i<w.heap.size
 ok: ∀ {s:σ} {L1 L2:List Q8} {F:Nat->Prop} {w:World},K s L1 L2 F w->B8 L1 L2
 allows: ∀ {s:σ} {L1 L2:List Q8} {F:Nat->Prop} {w:World} (p:Int),K s L1 L2 F w->1<=p/\p<=1000000->Calls prog ga (fa++ #[I O p]++ca) w fun e w'=>e= .returned (.bool (al s p))/\Below w.heap.size w w'
 trades: ∀ {s:σ} {L1 L2:List Q8} {F:Nat->Prop} {w:World} (p:Int),K s L1 L2 F w->1<=p/\p<=1000000->cnt s<=1000->Calls prog gt (#[I O p]++ct) w fun e w'=>e= .returned (.tuple #[])/\ ∃F',K (tr s p) L1 L2 F' w'/\Z3 w w' F F'
 cut: ∀ {s:σ} {L1 L2:List Q8} {F:Nat->Prop} {w:World} (x:Q8) (n:Int),K s L1 L2 F w->Y0 (L1++L2) x.id=some x->1<=n->n<=x.qty->Calls prog cutF #[bp,I O x.id,I O n] w fun e w'=>e= .returned e0/\ ∃F',K s (E9 L1 x n) (E9 L2 x n) F' w'/\Z3 w w' F F'
 cnt_: ∀s p,cnt (tr s p)<=cnt s+1
 ega: ∀args w,(callFunc ga args).run prog w= .ok (.enter ga args) w
 egt: ∀args w,(callFunc gt args).run prog w= .ok (.enter gt args) w
structure VC {σ:Type} (K:σ->List Q8->List Q8->(Nat->Prop)->World->Prop) (w wr:World) (s:σ) (G G':Nat->Prop) (M1 M2:List Q8) (A:Option Addr) (c:Nat) (F:List B5):Prop where
 mk_:K s M1 M2 G' wr
 step:Z3 w wr G G'
 row:J2 wr A F.length c 89 4 (Q9 D8 F)
 fpA: ∀g,Q7 A=some g-> ¬G' g/\w.heap.size<=g
section
variable {σ:Type} {K:σ->List Q8->List Q8->(Nat->Prop)->World->Prop} {al:σ->Int->Bool} {tr:σ->Int->σ} {cnt:σ->Nat} {ga gt:FuncId} {fa ca ct:Array Value} {cutF:FuncId} {bp e0:Value}
variable {w wr w':World} {s s':σ} {G G' G2:Nat->Prop} {M1 M2 N1 N2:List Q8} {A:Option Addr} {c:Nat} {F:List B5}
theorem VC.below (j:YA K al tr cnt ga gt fa ca ct cutF bp e0) (h:VC K w wr s G G' M1 M2 A c F) (i:Below wr.heap.size wr w'):VC K w w' s G G' M1 M2 A c F:=
 ⟨j.keep h.mk_ (U1 i (fun _=>False)) (fun _ _=>id),h.step.trans (C1 i),h.row.below i,h.fpA⟩
theorem VC.keep (D:YA K al tr cnt ga gt fa ca ct cutF bp e0) (h:VC K w wr s G G' M1 M2 A c F) {X} (hk:Q6 (fun i=>i=X) wr w') (u: ¬G' X) (v:Q7 A≠some X) (C:w.heap.size<=X):VC K w w' s G G' M1 M2 A c F:=
 ⟨D.keep h.mk_ hk (fun i j e=>u (e▸j)),⟨h.step.1.trans hk (fun i j=> .inr (j▸C)),h.step.2⟩,h.row.keeps hk (fun g y e=>v (e▸y)),h.fpA⟩
theorem VC.fill (u:YA K al tr cnt ga gt fa ca ct cutF bp e0) {f gg cap} (h:VC K w wr s G G' M1 M2 A c F) (hk:Q6 (fun i=>Q7 A=some i) wr w') (D:w'.ownsRow 0 89 4 (.slice (some ⟨gg,0,none⟩) (F.length+1) cap) (F.length+1) (Q9 D8 F++D8 f)) (y:Q7 A=some gg\/wr.heap.size<=gg):
  VC K w w' s G G' M1 M2 (some ⟨gg,0,none⟩) cap (F++ [f]):=by
 refine⟨u.keep h.mk_ hk (fun i j e=>(h.fpA i e).1 j),⟨h.step.1.trans hk (fun i j=> .inr (h.fpA i j).2),h.step.2⟩, ?_,fun g C=> ?_⟩
 ·show w'.ownsRow 0 89 4 _ _ _
  rw[UE,Y9];exact D
 have e:gg=g:=by simpa [Q7]using C
 subst e
 rcases y with h1|h1
 ·exact h.fpA _ h1
 refine⟨fun v=> ?_,G0 h.step.1.size h1⟩
 have:=u.lt h.mk_ _ v
 omega
theorem VC.turn (h:VC K w wr s G G' M1 M2 A c F) (hk:K s' N1 N2 G2 w') (j:Z3 wr w' G' G2):VC K w w' s' G G2 N1 N2 A c F:=by
 refine⟨hk,h.step.trans j,h.row.keeps j.1 (fun g i=>(h.fpA g i).1),fun g i=>⟨fun u=> ?_,(h.fpA g i).2⟩⟩
 rcases j.2 g u with h1|h1
 ·exact(h.fpA g i).1 h1
 have:=h.row.lt i;omega
end
def ND {σ:Type} (K:σ->List Q8->List Q8->(Nat->Prop)->World->Prop) (w w':World) (G:Nat->Prop) (sd:Int) (L1 L2:List Q8) (r:QF σ) (e:Ending):Prop:=
 ∃A c G' M1 M2,e= .returned (.tuple #[.slice A r.fills.length c,X5 r.left,.bool r.stop])/\VC K w w' r.st G G' M1 M2 A c r.fills/\X6 sd M1 M2=X6 sd L1 L2/\X6 (3-sd) M1 M2=r.rest
theorem Sa {P:Program} {j:Func} {p q u:Tmp} {i:TypeId} (h:j.results= #[.tmp u,.cell p i,.tmp q]) (tmps:Array Value) (w:World) (g:Nat) (t:TypeId) (cs:Array Value) (v1 v2:Value) (fr:Nat×Nat) (d:TypeDesc)
  (Z:tmps.getD u undef=v1) (hp:tmps.getD p undef= IP (some ⟨g,0,none⟩)) (C:tmps.getD q undef=v2) (E:w.heap[g]?=some (.cells cs t fr))
  (J:P.underlying i=some d) (D:(match d with| .struct _| .array _ _=>true|_=>false)=true) (U:(P.info? i).map (·.size)=some cs.size):(results j tmps).run P w= .ok (.tuple #[v1,.agg cs,v2]) w:=by
 have N:tmps[u]?.getD undef=v1:=by simpa using Z
 have v:tmps[p]?.getD undef= IP (some ⟨g,0,none⟩):=by simpa using hp
 have y:tmps[q]?.getD undef=v2:=by simpa using C
 simp[results,h,N,v,y,asAddr,run_loadVar_row w g t i cs fr d E J D U,Result.andThen]
theorem A5 {w g t a b c d e} (h:Q1 w g t #[a,b,c,d,e]):w.cell? ⟨g,0,none⟩=some a/\w.cell? ⟨g,1,none⟩=some b/\w.cell? ⟨g,2,none⟩=some c/\w.cell? ⟨g,3,none⟩=some d/\w.cell? ⟨g,4,none⟩=some e:=
 ⟨by rw[J0 h];rfl,by rw[J0 h];rfl,by rw[J0 h];rfl,by rw[J0 h];rfl,by rw[J0 h];rfl⟩
theorem Qk {w g t a b c d} (h:Q1 w g t #[a,b,c,d]):w.cell? ⟨g,0,none⟩=some a/\w.cell? ⟨g,1,none⟩=some b/\w.cell? ⟨g,2,none⟩=some c/\w.cell? ⟨g,3,none⟩=some d:=
 ⟨by rw[J0 h];rfl,by rw[J0 h];rfl,by rw[J0 h];rfl,by rw[J0 h];rfl⟩
theorem VT {w Y t a0 b0 c0 d0 e0} (h:Q1 w Y t #[a0,b0,c0,d0,e0]) a b c d e:
  Q1 (((((w.setCell ⟨Y,0,none⟩ a).setCell ⟨Y,1,none⟩ b).setCell ⟨Y,2,none⟩ c).setCell ⟨Y,3,none⟩ d).setCell ⟨Y,4,none⟩ e) Y t #[a,b,c,d,e]/\Q6 (fun i=>i=Y) w (((((w.setCell ⟨Y,0,none⟩ a).setCell ⟨Y,1,none⟩ b).setCell ⟨Y,2,none⟩ c).setCell ⟨Y,3,none⟩ d).setCell ⟨Y,4,none⟩ e):=
 ⟨J7 (J7 (J7 (J7 (J7 h 0 a) 1 b) 2 c) 3 d) 4 e,
  ((((V2 w ⟨Y,0,none⟩ a).trans (V2 _ ⟨Y,1,none⟩ b) (fun _ h=> .inl h)).trans (V2 _ ⟨Y,2,none⟩ c) (fun _ h=> .inl h)).trans (V2 _ ⟨Y,3,none⟩ d) (fun _ h=> .inl h)).trans (V2 _ ⟨Y,4,none⟩ e) (fun _ h=> .inl h)⟩
theorem VW {fn} (v:fn.results= #[.tmp 8,.cell 9 29,.tmp 10]) {w a Q o v1 v2} g (C:a.tmps.getD 9 undef= IP (some ⟨g,0,none⟩)) (j:a.tmps.getD 8 undef=v1) (u:a.tmps.getD 10 undef=v2) (y:a.defers= [])
  (i:Q1 w g 29 (J8 o)) (h:Q (.returned (.tuple #[v1,X5 o,v2])) w):bodyPost prog fn Q .ret a w:=
 P4 (Sa v a.tmps w g 29 (J8 o) v1 v2 (0,0) _ j C u i PF rfl (by show(prog.info? 29).map (·.size)=some 5;kernel_rfl)) y h
structure CV {σ:Type} (K:σ->List Q8->List Q8->(Nat->Prop)->World->Prop) (w wr:World) (s:σ) (G G':Nat->Prop) (M1 M2 l:List Q8) (ob:Q8) (X Y:Nat) (AL:Option Addr) (n cl:Nat) (A:Option Addr) (c:Nat) (F:List B5):Prop where
 m:VC K w wr s G G' M1 M2 A c F
 bx:Q1 wr X 29 (J8 ob)
 by_:Q1 wr Y 29 (J8 Y3)
 xg: ¬G' X
 yg: ¬G' Y
 xa:Q7 A≠some X
 ya:Q7 A≠some Y
 xy:X≠Y
 lr:J2 wr AL n cl 29 5 (Q9 X9 l)
 lg: ∀g,Q7 AL=some g-> ¬G' g/\Q7 A≠some g/\g≠X/\g≠Y
 wx:w.heap.size<=X
 wy:w.heap.size<=Y
structure YG {σ:Type} (K:σ->List Q8->List Q8->(Nat->Prop)->World->Prop) (al:σ->Int->Bool) (tr:σ->Int->σ) (cnt:σ->Nat) (w wr:World) (s0 s:σ) (G G':Nat->Prop) (L1 L2 M1 M2:List Q8) (l:List Q8) (oi sd ok op oq q:Int) (X Y:Nat) (AL:Option Addr) (n cl:Nat) (A:Option Addr) (c:Nat) (F:List B5) (R:List Q8) (k:Nat):Prop where
 v:CV K w wr s G G' M1 M2 l ⟨oi,sd,ok,op,q⟩ X Y AL n cl A c F
 eq:V7 al tr l ⟨oi,sd,ok,op,oq⟩ s0=QF.join F R (V7 al tr (l.drop k) ⟨oi,sd,ok,op,q⟩ s)
 own:X6 sd M1 M2=X6 sd L1 L2
 oth:X6 (3-sd) M1 M2=R++l.drop k
 fl:F.length<=k
 qb:G8 q
 cn:cnt s<=F.length
section
variable {σ:Type} {K:σ->List Q8->List Q8->(Nat->Prop)->World->Prop} {al:σ->Int->Bool} {tr:σ->Int->σ} {cnt:σ->Nat} {ga gt:FuncId} {fa ca ct:Array Value} {cutF:FuncId} {bp e0:Value}
variable {w wr w':World} {s0 s s':σ} {G G' G2:Nat->Prop} {L1 L2 M1 M2 N1 N2 l R R':List Q8} {ob:Q8} {oi sd ok op oq q:Int} {X Y:Nat} {AL A:Option Addr} {n cl c k:Nat} {F:List B5}
theorem CV.below (j:YA K al tr cnt ga gt fa ca ct cutF bp e0) (h:CV K w wr s G G' M1 M2 l ob X Y AL n cl A c F) (i:Below wr.heap.size wr w'):CV K w w' s G G' M1 M2 l ob X Y AL n cl A c F:=
 ⟨h.m.below j i,J4 h.bx i,J4 h.by_ i,h.xg,h.yg,h.xa,h.ya,h.xy,h.lr.below i,h.lg,h.wx,h.wy⟩
theorem YG.below (i:YA K al tr cnt ga gt fa ca ct cutF bp e0) (h:YG K al tr cnt w wr s0 s G G' L1 L2 M1 M2 l oi sd ok op oq q X Y AL n cl A c F R k) (j:Below wr.heap.size wr w'):YG K al tr cnt w w' s0 s G G' L1 L2 M1 M2 l oi sd ok op oq q X Y AL n cl A c F R k:=
 ⟨h.v.below i j,h.eq,h.own,h.oth,h.fl,h.qb,h.cn⟩
theorem YG.pass {x t} (h:YG K al tr cnt w wr s0 s G G' L1 L2 M1 M2 l oi sd ok op oq q X Y AL n cl A c F R k) (i:l.drop k=x::t) (j: ¬q<1) (hk:x.kind=2):YG K al tr cnt w wr s0 s G G' L1 L2 M1 M2 l oi sd ok op oq q X Y AL n cl A c F (R++ [x]) (k+1):=by
 have e:l.drop (k+1)=t:=by rw[<-Jm,i];rfl
 refine⟨h.v, ?_,h.own, ?_,Nat.le_succ_of_le h.fl,h.qb,h.cn⟩
 ·rw[h.eq,i,e,Qd6 (by exact j) hk]
 rw[h.oth,i,e];simp
theorem CV.fill (y:YA K al tr cnt ga gt fa ca ct cutF bp e0) {f gg cap} (h:CV K w wr s G G' M1 M2 l ob X Y AL n cl A c F) (hk:Q6 (fun i=>Q7 A=some i) wr w') (v:w'.ownsRow 0 89 4 (.slice (some ⟨gg,0,none⟩) (F.length+1) cap) (F.length+1) (Q9 D8 F++D8 f)) (u:Q7 A=some gg\/wr.heap.size<=gg):
  CV K w w' s G G' M1 M2 l ob X Y AL n cl (some ⟨gg,0,none⟩) cap (F++ [f]):=by
 have C:=J5 h.bx
 have D:=J5 h.by_
 refine⟨h.m.fill y hk v u,X0 h.bx hk h.xa,X0 h.by_ hk h.ya,h.xg,h.yg,fun e=> ?_,fun e=> ?_,h.xy,h.lr.keeps hk (fun g j=>(h.lg g j).2.1),fun g j=>⟨(h.lg g j).1,fun e=> ?_,(h.lg g j).2.2⟩,h.wx,h.wy⟩
 ·have e:gg=X:=by simpa [Q7]using e
  subst e;rcases u with h1|h1
  ·exact h.xa h1
  omega
 ·have e:gg=Y:=by simpa [Q7]using e
  subst e;rcases u with h1|h1
  ·exact h.ya h1
  omega
 have e:gg=g:=by simpa [Q7]using e
 subst e
 rcases u with h1|h1
 ·exact(h.lg _ j).2.1 h1
 have:=h.lr.lt j;omega
theorem CV.turn (h:CV K w wr s G G' M1 M2 l ob X Y AL n cl A c F) (hk:K s' N1 N2 G2 w') (i:Z3 wr w' G' G2):CV K w w' s' G G2 N1 N2 l ob X Y AL n cl A c F:=by
 have u:=J5 h.bx
 have v:=J5 h.by_
 refine⟨h.m.turn hk i,X0 h.bx i.1 h.xg,X0 h.by_ i.1 h.yg,fun e=> ?_,fun e=> ?_,h.xa,h.ya,h.xy,h.lr.keeps i.1 (fun g j=>(h.lg g j).1),fun g j=>⟨fun e=> ?_,(h.lg g j).2⟩,h.wx,h.wy⟩
 ·rcases i.2 _ e with h1|h1
  ·exact h.xg h1
  omega
 ·rcases i.2 _ e with h1|h1
  ·exact h.yg h1
  omega
 rcases i.2 _ e with h1|h1
 ·exact(h.lg g j).1 h1
 have:=h.lr.lt j;omega
theorem CV.lots (j:YA K al tr cnt ga gt fa ca ct cutF bp e0) {q'} (h:CV K w wr s G G' M1 M2 l ⟨oi,sd,ok,op,q⟩ X Y AL n cl A c F):CV K w (wr.setCell ⟨X,4,none⟩ (I O q')) s G G' M1 M2 l ⟨oi,sd,ok,op,q'⟩ X Y AL n cl A c F:=by
 have hk:=V2 wr ⟨X,4,none⟩ (I O q')
 exact⟨h.m.keep j hk h.xg h.xa h.wx,J7 h.bx 4 _,X0 h.by_ hk (fun e=>h.xy e.symm),h.xg,h.yg,h.xa,h.ya,h.xy,h.lr.keeps hk (fun g i e=>(h.lg g i).2.2.1 e),h.lg,h.wx,h.wy⟩
theorem YG.done (u:YA K al tr cnt ga gt fa ca ct cutF bp e0) (h:YG K al tr cnt w wr s0 s G G' L1 L2 M1 M2 l oi sd ok op oq q X Y AL n cl A c F R k) {st} (j:QF.join F R (V7 al tr (l.drop k) ⟨oi,sd,ok,op,q⟩ s)=⟨F,⟨oi,sd,ok,op,q⟩,st,s,R++l.drop k⟩) (hk:Q6 (fun i=>i=Y) wr w'):
  ND K w w' G sd L1 L2 (V7 al tr l ⟨oi,sd,ok,op,oq⟩ s0) (.returned (.tuple #[.slice A F.length c,X5 ⟨oi,sd,ok,op,q⟩,.bool st])):=by
 have e:=h.eq.trans j
 rw[e]
 exact⟨A,c,G',M1,M2,rfl,h.v.m.keep u hk h.v.yg h.v.ya h.v.wy,h.own,h.oth⟩
end
section
variable {L L1 L2:List Q8}
theorem Jd4 (h:E5 L L1 L2) (u:B8 L1 L2) {o} (j:R9 o):addE L1 L2 o=JT L o/\E5 (YE L o) (FA 1 L1 L2 L1 o) (FA 2 L1 L2 L2 o):=by
 have e:=h.addE u o
 refine⟨e, ?_⟩
 unfold FA
 rw[e]
 by_cases i:JT L o=0
 ·rw[Q5 i,Q5 i];exact h.add j i
 rw[Q3 i,Q3 i]
 unfold YE
 rw[Q3 i]
 exact h
theorem Qd7 (h:E5 L L1 L2) (v:B8 L1 L2) id:Rs L1 L2 id=SP L id/\Rt L1 L2 id=SR L id/\E5 (CK L id) (D1 L1 id) (D1 L2 id):=by
 unfold Rs Rt SP SR
 rw[h.get v]
 refine⟨rfl,rfl, ?_⟩
 cases j:Y0 L id with
 |some o=>exact h.cancel j
 |none=>
  have h2:=Ah.1 j;have e:CK L id=L:=by
   unfold CK S3;rw[List.findIdx_eq_length.2 (fun x u=>by simpa using h2 x u)];simp
  rw[e,Xt (fun o i=>h2 o (h.mem.1 (Y7.2 (.inl i)))),Xt (fun o i=>h2 o (h.mem.1 (Y7.2 (.inr i))))];exact h
theorem Jd5 (h:E5 L L1 L2) (N:B8 L1 L2) id n:BH L1 L2 id n=FB L id n/\E5 (BD L id n) (Qj L1 L2 L1 id n) (Qj L1 L2 L2 id n):=by
 unfold BH FB BD Qj
 rw[h.get N]
 cases j:Y0 L id with
 |none=>exact⟨rfl,h⟩
 |some o=>
  dsimp only
  by_cases i:1<=n/\n<=o.qty
  ·rw[Q3 (by omega),Q5 i,Q5 i,Q5 i,Q5 i]
   refine⟨rfl, ?_⟩;have v:o∈L/\o.id=id:=by
    unfold Y0 at j;have h2:=TG j;simp at h2;exact⟨FP j,h2⟩
   unfold E9
   by_cases u:n=o.qty
   ·rw[Q5 u,Q5 u,Q5 u,v.2]
    exact h.cancel j
   rw[Q3 u,Q3 u,Q3 u,v.2];rcases WK L id with⟨-,h2⟩|⟨k,hk,-,D,U,y⟩
   ·rw[h2]at j;cases j
   have J:L[k]=o:=by
    rw[j]at y
    first
     |exact(KZ y).symm
     |exact KZ y
   have es:L.set (L.findIdx fun o=>o.id ==id) (B6 o n)=ZW L id n:=by
    rw[D];have:=Jd1 h.ids hk n;rw[J,v.2]at this;exact this
   rw[es];refine h.map (fun x C e=> ?_);have E:x=o:=PS h.ids C v.1 (by rw[e,v.2]);subst E;have:=(h.ok x C).1.2.2.2;omega
  rw[Q5 (by omega),Q3 i,Q3 i,Q3 i,Q3 i];exact⟨rfl,h⟩
end
theorem Jd6 a b c d e w:(binOp .neq 29 (.agg #[.int .i64 a,.int .i64 b,.int .i64 c,.int .i64 d,.int .i64 e]) (.agg #[.int .i64 a,.int .i64 b,.int .i64 c,.int .i64 d,.int .i64 e])).run prog w= .ok (.bool false) w:=by
 have i:prog.underlying 29=some (.struct (prog.fieldsOf 29)):=by kernel_rfl
 have j:prog.stoodInHeld 29=false:=by kernel_rfl
 have u:prog.underlying 3=some (.int .i64):=VN
 rw[run_neq_struct,run_equalIn_agg _ _ _ _ _ i j]
 simp[Program.fieldsOf,underlying29,Op.eqFields,go_sem,u]
theorem Va A u n c c2 ps w (h:V4 w X9 5 A n ps) (h2:V4 w X9 5 u n ps) (hm:n<=1000000):
  Calls prog 32 #[.slice A n c,.slice u n c2] w fun e w'=>e= .returned (.bool true)/\Below w.heap.size w w':=by
 have D:=Q0 h
 have E:=Q0 h2
 have C:=h.1
 have HL:=Q0 C
 have e0:((n:Int) != (n:Int))=false:=JW rfl
 clear h h2 C
 go_enter func32,ntmps32
 go_wp2_with fail
 go_loopg [5] n (fun gg N wx=> ∃k,k<=n/\gg=n-k/\N=I O k/\Below w.heap.size w wx)
 case atStart=>exact⟨0,V5 _,rfl,rfl,Q2 _ _⟩
 obtain⟨k,hk,rfl,rfl,j⟩:=hrel
 by_cases a2:k<n
 ·have y:k<ps.length:=by have:=HL.out;omega
  obtain⟨b,i,U⟩: ∃b i,A=some ⟨b,i,none⟩:=by obtain⟨b,i,h1,_⟩:=D.2 (by omega);exact⟨b,i,h1⟩
  obtain⟨b2,a5,a1⟩: ∃b i,u=some ⟨b,i,none⟩:=by obtain⟨b,i,h1,_⟩:=E.2 (by omega);exact⟨b,i,h1⟩
  subst U a1;obtain⟨x0,x1,x2,x3,x4⟩:=CW (D.below j (Q4 _)) y;obtain⟨J,y1,y2,Z,y4⟩:=CW (E.below j (Q4 _)) y;have a0:(k:Int)< (n:Int):=by omega
  have a3:(0:Int)<=(k:Int):=by omega
  obtain⟨o,v⟩:=exq (ps[k]);rw[v]at x0 x1 x2 x3 x4 J y1 y2 Z y4;clear v;have a4:=Jd6 o.id o.side o.kind o.price o.qty;go_wp2_with fail
  go_quiet (fail)
  go_wp2_with fail
  go_roundg (n- (k+1))
  case measure=>omega
  exact⟨k+1,by omega,rfl,by go_num,U7 j _⟩
 obtain rfl:k=n:=by omega
 have a0: ¬(k:Int)< (k:Int):=by omega
 go_wp2
 go_ret
 exact⟨rfl,j⟩
section
variable {P:Program} {Q:Exit->Act->World->Prop} {md:Region.Mode} {S:World->Prop} {l rest:List Oper} {oi:Oper} {fuel:Nat} {listed:Array Bool} {a:Act} {w:World}
theorem Jn1 (i d:Nat) v (D:l.drop i=oi::rest) (u:oi.dst=some d) (E:Region.noSelect l.toArray=true) (j:Region.free md l.toArray listed i=true) (J:(Region.ready md l.toArray listed).contains i=true)
  (y: ∀c a w,Q (.panic c) (a.put oi.dst v) w->Q (.panic c) a w) (C:Region.wanted oi (yielded l.toArray a.tmps)=true) (hy: ∀w,S w->(execOp a.eval oi).run P w= .ok (.value v) w) (N:S w)
  (h:wpAnyH P md l.toArray Q S fuel (listed.setIfInBounds i true) (a.put (some d) v) w):wpAnyH P md l.toArray Q S (fuel+1) listed a w:=
 wpAnyH_take (NL D) E j J y (.inl ⟨C,hy⟩) N (by rw[u];exact h)
theorem tH (i:Nat) (v:Value) {d:Nat} {listed':Array Bool} {a':Act} (h:wpAnyH P md l.toArray Q S fuel listed' a' w)
  (J:l.drop i=oi::rest:=by rfl) (j:oi.dst=some d:=by rfl) (N:Region.noSelect l.toArray=true:=by kernel_rfl) (y:Region.free md l.toArray listed i=true:=by kernel_rfl) (U:(Region.ready md l.toArray listed).contains i=true:=by kernel_rfl)
  (C: ∀c a w,Q (.panic c) (a.put oi.dst v) w->Q (.panic c) a w:=by exact fun _ _ _ h=>h) (D:Region.wanted oi (yielded l.toArray a.tmps)=true:=by rfl)
  (hy: ∀w,S w->(execOp a.eval oi).run P w= .ok (.value v) w:=by intro W Z;go_simp) (E:S w:=by first|trivial|assumption)
  (hp:a.put (some d) v=a':=by first|(simp only[Act.put,List.setIfInBounds_toArray,List.set_cons_zero,List.set_cons_succ];rfl)|rfl)
  (u:listed.setIfInBounds i true=listed':=by first|(simp only[List.setIfInBounds_toArray,List.set_cons_zero,List.set_cons_succ];rfl)|rfl):wpAnyH P md l.toArray Q S (fuel+1) listed a w:=
 Jn1 i d v J j N y U C D hy E (by rw[hp,u];exact h)
theorem CC i (E:Region.ready md l.toArray listed= [i]) (D:l.drop i=oi::rest)
  (h: ∀K',(∀a w,S w->(S w->wpAnyH P md l.toArray Q S fuel (listed.setIfInBounds i true) a w)->K' a w)->if Region.wanted oi (yielded l.toArray a.tmps)=true then Oper.wp P oi a w K' Q else K' (a.put oi.dst undef) w):wpAnyH P md l.toArray Q S (fuel+1) listed a w:=
 wpAnyH_all E (by simp) (fun j u=>by
  rw[VK]at u;subst u;exact wpOp_step (NL D) fun K' y=>h K' (fun a w v C=>y a w ⟨v,C v⟩))
theorem Be {ops id} S (j:P.follows .mixedOrders=true) (i:S w.drew)
  (h:S w.drew->wpAnyH P .any ops Q S ops.size (Array.replicate ops.size false) a w.drew):(Code.region id ops true).wp P Q a w:=wp_region_held j (h i)
end
theorem Qk4 w e:FU w (U0 e) e (-1):=by
 unfold U0
 by_cases h:e=0
 ·rw[Q5 h];exact .inl ⟨rfl,h,rfl⟩
 rw[Q3 h];exact .inr (.inl ⟨rfl,rfl⟩)
theorem Jy s L:(JR s L).Perm (C4 s L):=Fk _
theorem E5.lists {L L1 L2} (h:E5 L L1 L2) (C:L.length<=100):B8 L1 L2:=by
 have u: ∀s,((JR s L).map (·.id)).Nodup:=fun s=>by
  refine((Jy s L).map (·.id)).nodup_iff.2 ?_;exact TA ((Zr).map _) h.ids
 have h1: ∀o∈L1,o∈L/\o.side=1:=fun o i=>WV.1 (h.s1▸i)
 have h2: ∀o∈L2,o∈L/\o.side=2:=fun o i=>WV.1 (h.s2▸i)
 refine⟨?_, ?_,fun o i=>(h.ok o (h.mem.1 i)).1,fun o i=>(h1 o i).2,fun o i=>(h2 o i).2⟩
 ·rw[T1,YX]
  refine⟨h.s1▸u 1,h.s2▸u 2,fun a D b v e=> ?_⟩;obtain⟨x,j,rfl⟩:=U4.1 D;obtain⟨y,hy,rfl⟩:=U4.1 v;have J:x=y:=PS h.ids (h1 x j).1 (h2 y hy).1 e;have E:=(h1 x j).2;have N:=(h2 y hy).2;rw[J]at E;omega
 rw[Y9,h.len]
 exact C
theorem E5.want {L L1 L2} (h:E5 L L1 L2) {s} (i:Z4 s) p:C7 s p (C4 s L)=C7 s p (X6 s L1 L2):=by
 rw[h.side i]
 exact Qt0 (Jy s L).symm
theorem E5.cutS_ {L L1 L2} (h:E5 L L1 L2) (j:B8 L1 L2) {x n} (i:Y0 (L1++L2) x.id=some x) (h1:1<=n) (h2:n<=x.qty):FB L x.id n=0/\E5 (BD L x.id n) (E9 L1 x n) (E9 L2 x n):=by
 obtain⟨a,b⟩:=Jd5 h j x.id n
 have e: ∀K,Qj L1 L2 K x.id n=E9 K x n:=fun K=>by
  unfold Qj;rw[i];exact Q5 ⟨h1,h2⟩
 rw[e,e]at b
 refine⟨?_,b⟩
 rw[<-a]
 unfold BH
 rw[i]
 exact Q3 (by omega)
theorem Ut L id n:(BD L id n).length<=L.length:=by
 unfold BD
 split
 ·exact Q4 _
 split
 ·split
  ·unfold S3
   rw[Y9,T6,KK];omega
  rw[QN];exact Q4 _
 exact Q4 _
structure XR (w wr:World) (B:Nat) (t:TypeId) (cs:Array Value) (o0:Nat) (A A':Option Addr) (c':Nat) (M M1 M2:List Q8) (Af:Option Addr) (c:Nat) (F:List B5):Prop where
 ref:JL wr B t (cs.setIfInBounds o0 (.slice A' M.length c')) o0 A' M
 keep:Q6 (fun i=>i=B) w wr
 grow: ∀g,Q7 A'=some g->Q7 A=some g\/w.heap.size<=g
 blt:B<w.heap.size
 twin:E5 M M1 M2
 few:M.length<=100
 row:J2 wr Af F.length c 89 4 (Q9 D8 F)
 fp: ∀g,Q7 Af=some g->w.heap.size<=g/\Q7 A'≠some g
section
variable {w wr w':World} {B:Nat} {t:TypeId} {cs:Array Value} {o0:Nat} {A A':Option Addr} {c':Nat} {M M1 M2:List Q8} {Af:Option Addr} {c:Nat} {F:List B5}
theorem XR.start {L L1 L2} (h:JL w B t cs o0 A L) (ht:E5 L L1 L2) (j:L.length<=100): ∃c',XR w w B t cs o0 A A c' L L1 L2 none 0 []:=by
 obtain⟨c,u,-⟩:=h.at_
 refine⟨c, ?_,U1 (Q2 _ _) _,fun g i=> .inl i,h.blt,ht,j,JX _ _ _ _,fun g i=>by simp[Q7]at i⟩
 rw[Cl u]
 exact h
theorem XR.below (h:XR w wr B t cs o0 A A' c' M M1 M2 Af c F) (i:Below wr.heap.size wr w'):XR w w' B t cs o0 A A' c' M M1 M2 Af c F:=
 ⟨h.ref.below i,h.keep.then_ i,h.grow,h.blt,h.twin,h.few,h.row.below i,h.fp⟩
theorem XR.fill {f gg cap} (h:XR w wr B t cs o0 A A' c' M M1 M2 Af c F) (hk:Q6 (fun i=>Q7 Af=some i) wr w') (v:w'.ownsRow 0 89 4 (.slice (some ⟨gg,0,none⟩) (F.length+1) cap) (F.length+1) (Q9 D8 F++D8 f)) (u:Q7 Af=some gg\/wr.heap.size<=gg):
  XR w w' B t cs o0 A A' c' M M1 M2 (some ⟨gg,0,none⟩) cap (F++ [f]):=by
 refine⟨h.ref.keeps hk (fun e=>by have:=(h.fp _ e).1;have:=h.blt;omega) (fun g j e=>(h.fp g e).2 j),h.keep.trans hk (fun i y=> .inr (h.fp i y).1),h.grow,h.blt,h.twin,h.few, ?_,fun g j=> ?_⟩
 ·show w'.ownsRow 0 89 4 _ _ _
  rw[UE,Y9];exact v
 have e:gg=g:=by simpa [Q7]using j
 subst e
 rcases u with h1|h1
 ·exact h.fp _ h1
 refine⟨G0 h.keep.size h1,fun e=> ?_⟩
 have:=h.ref.lt _ e
 omega
theorem XR.cut {M' M1' M2'} (h:XR w wr B t cs o0 A A' c' M M1 M2 Af c F) (ht:JV wr w' B t (cs.setIfInBounds o0 (.slice A' M.length c')) o0 A' M') (D:E5 M' M1' M2') (E:M'.length<=100): ∃u v,XR w w' B t cs o0 A u v M' M1' M2' Af c F/\Q6 (fun i=>i=B) wr w':=by
 obtain⟨u,v,h1,h2,y⟩:=ht
 rw[Dp]at h1
 have J:=h.ref.blt
 refine⟨u,v,⟨h1,h.keep.trans h2 (fun i e=> .inl e),fun g j=> ?_,h.blt,D,E,h.row.keeps h2 (fun g j e=> ?_),fun g j=>⟨(h.fp g j).1,fun e=> ?_⟩⟩,h2⟩
 ·rcases y g j with e|e
  ·exact h.grow g e
  exact .inr (G0 h.keep.size e)
 ·have:=(h.fp g j).1
  have:=h.blt;omega
 rcases y g e with C|C
 ·exact(h.fp g j).2 C
 have:=h.row.lt j;omega
theorem XR.refTo (h:XR w wr B t cs o0 A A' c' M M1 M2 Af c F):JV w wr B t cs o0 A M:=⟨A',c',h.ref,h.keep,h.grow⟩
theorem XR.lists (h:XR w wr B t cs o0 A A' c' M M1 M2 Af c F):B8 M1 M2:=h.twin.lists h.few
end
theorem Qk5 {s p L} (h: ∀o∈L,1<=o.qty/\o.qty<=1000000):0<=C7 s p (C4 s L)/\C7 s p (C4 s L)<=1000000*L.length:=by
 have h1:=WQ (s:=s) (p:=p) (L:=C4 s L) (fun o i=>h o (P3.1 i).1)
 have h2:=Ev s L
 omega
theorem Qt7 {s p} {L:List Q8} {i} (j:i<L.length):C7 s p (C4 s (L.take (i+1)))=C7 s p (C4 s (L.take i))+ (if L[i].side=s/\KB s p L[i]=true then L[i].qty else 0):=by
 rw[M8 j,Vk,Cm]
 congr 1
 by_cases h:L[i].side=s
 ·rw[Q5 (Z0 h)]
  unfold C7;simp only[T5,h,true_and];omega
 rw[Q3 (by rw[X3 h];simp),Q3 (by rintro⟨h1,-⟩;exact h h1)]
 rfl
theorem Co w B t cs o0 A L (h:JL w B t cs o0 A L) (hn:L.length<=1000) s p (hs:Z4 s) (hq: ∀o∈L,1<=o.qty/\o.qty<=1000000):
  Calls prog 139 #[IP (some ⟨B,o0,none⟩),I O s,I O p] w fun e w'=>e= .returned (I O (C7 s p (C4 s L)))/\Below w.heap.size w w':=by
 obtain⟨c,hc,-⟩:=h.cell
 obtain⟨n,a0⟩:=exq L.length
 have HE:=Q0 h.els
 have HQ:=Q0 hq
 rw[a0]at hc HE hn
 have Z:=Q0 a0
 clear h hq a0
 go_enter func139,ntmps139
 go_wp2_with fail
 clear hc
 go_loopg [7,15] n (fun g s7 a8 wr=> ∃i,i<=n/\g=n-i/\a8=I O i/\s7=I O (C7 s p (C4 s (L.take i)))/\Hid (Below w.heap.size w wr))
 case atStart=>exact⟨0,V5 _,rfl,rfl,rfl,Q0 (Q2 _ _)⟩
 obtain⟨i,hi,rfl,rfl,rfl,N⟩:=hrel
 by_cases a5:i<n
 ·have a4:i<L.length:=by rw[Z.out];exact a5
  obtain⟨gA,oA,hA⟩: ∃b a1,A=some ⟨b,a1,none⟩:=by obtain⟨b,a1,h1,_⟩:=HE.2 (by omega);exact⟨b,a1,h1⟩
  subst hA;obtain⟨x0,x1,x2,x3,x4⟩:=CW (HE.below N (Q4 _)) a4;have j:=Q0 (Qt7 (s:=s) (p:=p) a4);have a3:=Qk5 (s:=s) (p:=p) (fun y hy=>HQ y (AT hy): ∀y∈L.take i,_);have a6:=HQ.out L[i] (Y1 _);obtain⟨o,ho⟩:=exq (L[i]);rw[ho]at x0 x1 x2 x3 x4 j a6;rw[T6,Z.out,PR (by omega)]at a3;obtain⟨D,a2⟩:=exq (C7 s p (C4 s (L.take i)));rw[a2]at j a3|-;have i1:RowKit.wrap64 (D+o.qty)=D+o.qty:=by unfold RowKit.wrap64;omega
  have J:=Q0 (N.trans (((Q2 wr.heap.size wr).alloc (Q4 _) (.cells #[I O o.id,I O o.side,I O o.kind,I O o.price,I O o.qty] 29)).mono N.size));have a9:(i:Int)< (n:Int):=by omega
  have b0:(0:Int)<=(i:Int):=by omega
  clear ho a2 N;rcases hs with rfl|rfl
  ·by_cases h1:o.side=1
   ·have d1:=Z0 h1
    by_cases h2:o.kind=2
    ·have E:=Z0 h2
     have u:=Q0 (show D+o.qty=C7 1 p (C4 1 (L.take (i+1))) by rw[j.out,Q5 ⟨h1,by unfold KB;rw[E];rfl⟩]);clear h1 h2;clear j;go_wp2_with fail
     go_roundg (n- (i+1))
     case measure=>omega
     exact⟨i+1,by omega,rfl,by go_num,by rw[<-u.out],J⟩
    have E:=X3 h2
    by_cases v:p<=o.price
    ·have U:=Z5 v
     have u:=Q0 (show D+o.qty=C7 1 p (C4 1 (L.take (i+1))) by rw[j.out,Q5 ⟨h1,by unfold KB;rw[E];simp[v]⟩]);clear h1 h2 v;clear j;go_wp2_with fail
     go_roundg (n- (i+1))
     case measure=>omega
     exact⟨i+1,by omega,rfl,by go_num,by rw[<-u.out],J⟩
    have U:=Z1 v;have u:=Q0 (show D=C7 1 p (C4 1 (L.take (i+1))) by rw[j.out,Q3 (by rintro⟨-,C⟩;unfold KB at C;rw[E]at C;simp at C;omega)];omega);clear h1 h2 v;clear j;go_wp2_with fail
    go_roundg (n- (i+1))
    case measure=>omega
    exact⟨i+1,by omega,rfl,by go_num,by rw[<-u.out],J⟩
   have d1:=X3 h1;have u:=Q0 (show D=C7 1 p (C4 1 (L.take (i+1))) by rw[j.out,Q3 (by rintro⟨C,-⟩;exact h1 C)];omega);clear h1;clear j;go_wp2_with fail
   go_roundg (n- (i+1))
   case measure=>omega
   exact⟨i+1,by omega,rfl,by go_num,by rw[<-u.out],J⟩
  by_cases h1:o.side=2
  ·have d1:=Z0 h1
   by_cases h2:o.kind=2
   ·have E:=Z0 h2
    have u:=Q0 (show D+o.qty=C7 2 p (C4 2 (L.take (i+1))) by rw[j.out,Q5 ⟨h1,by unfold KB;rw[E];rfl⟩]);clear h1 h2;clear j;go_wp2_with fail
    go_roundg (n- (i+1))
    case measure=>omega
    exact⟨i+1,by omega,rfl,by go_num,by rw[<-u.out],J⟩
   have E:=X3 h2
   by_cases v:o.price<=p
   ·have U:=Z5 v
    have u:=Q0 (show D+o.qty=C7 2 p (C4 2 (L.take (i+1))) by rw[j.out,Q5 ⟨h1,by unfold KB;rw[E];simp[v]⟩]);clear h1 h2 v;clear j;go_wp2_with fail
    go_roundg (n- (i+1))
    case measure=>omega
    exact⟨i+1,by omega,rfl,by go_num,by rw[<-u.out],J⟩
   have U:=Z1 v;have u:=Q0 (show D=C7 2 p (C4 2 (L.take (i+1))) by rw[j.out,Q3 (by rintro⟨-,C⟩;unfold KB at C;rw[E]at C;simp at C;omega)];omega);clear h1 h2 v;clear j;go_wp2_with fail
   go_roundg (n- (i+1))
   case measure=>omega
   exact⟨i+1,by omega,rfl,by go_num,by rw[<-u.out],J⟩
  have d1:=X3 h1;have u:=Q0 (show D=C7 2 p (C4 2 (L.take (i+1))) by rw[j.out,Q3 (by rintro⟨C,-⟩;exact h1 C)];omega);clear h1;clear j;go_wp2_with fail
  go_roundg (n- (i+1))
  case measure=>omega
  exact⟨i+1,by omega,rfl,by go_num,by rw[<-u.out],J⟩
 obtain rfl:i=n:=by omega
 have a9: ¬(i:Int)< (i:Int):=by omega
 have a7:L.take i=L:=N7 (by rw[Z.out];exact Q4 _)
 rw[a7]
 go_wp2_with fail
 go_ret
 exact⟨rfl,N⟩
structure Jo0 (Bk:List Q8->List Q8->(Nat->Prop)->World->Prop) (cutF:FuncId) (bp e0:Value):Prop where
 keep: ∀ {L1 L2:List Q8} {F:Nat->Prop} {w w':World} {S:Nat->Prop},Bk L1 L2 F w->Q6 S w w'->(∀i,F i-> ¬S i)->Bk L1 L2 F w'
 lt: ∀ {L1 L2:List Q8} {F:Nat->Prop} {w:World},Bk L1 L2 F w-> ∀i,F i->i<w.heap.size
 ok: ∀ {L1 L2:List Q8} {F:Nat->Prop} {w:World},Bk L1 L2 F w->B8 L1 L2
 cut: ∀ {L1 L2:List Q8} {F:Nat->Prop} {w:World} (x:Q8) (n:Int),Bk L1 L2 F w->Y0 (L1++L2) x.id=some x->1<=n->n<=x.qty->Calls prog cutF #[bp,I O x.id,I O n] w fun e w'=>e= .returned e0/\ ∃F',Bk (E9 L1 x n) (E9 L2 x n) F' w'/\Z3 w w' F F'
