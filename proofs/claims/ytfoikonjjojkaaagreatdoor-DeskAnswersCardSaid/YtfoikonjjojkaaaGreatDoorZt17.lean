/- Parts. -/
import Derived.Test.YtfoikonjjojkaaaGreatDoorZt16
set_option linter.unusedVariables false
set_option maxRecDepth 100000
set_option maxHeartbeats 8000000
open Go.Proofs.Tryz
open Go.Value renaming int→I,pointer→IP
open Go.IntKind renaming i64→O
namespace Go.Proofs.YtfoikonjjojkaaaGreatDoor
open Go.RowKit
structure XN(σ:Type)where
 fills:List C6
 left:X6
 stop:Bool
 st:σ
 rest:List X6
def CJ(o x:X6)(n:Int):C6:=if o.side=2 then⟨x.id,o.id,x.price,n⟩else⟨o.id,x.id,x.price,n⟩
def VA(o x:X6):Bool:= !(o.kind ==2) && ((o.side ==1 &&decide (o.price<x.price)) || (o.side ==2 &&decide (x.price<o.price)))
def FC(x:X6)(n:Int):List X6:=if n=x.qty then []else [D9 x n]
section
variable {σ:Type} (al:σ->Int->Bool) (tr:σ->Int->σ)
def A4:List X6->X6->σ->XN σ
 | [],o,s=>⟨[],o,false,s,[]⟩
 |x::t,o,s=>
  if o.qty<1 then⟨[],o,false,s,x::t⟩
  else if x.kind=2 then⟨(A4 t o s).fills,(A4 t o s).left,(A4 t o s).stop,(A4 t o s).st,x:: (A4 t o s).rest⟩
  else if VA o x=true then⟨[],o,false,s,x::t⟩
  else if al s x.price=false then⟨[],o,true,s,x::t⟩
  else⟨CJ o x (min o.qty x.qty):: (A4 t (D9 o (min o.qty x.qty)) (tr s x.price)).fills,(A4 t (D9 o (min o.qty x.qty)) (tr s x.price)).left,(A4 t (D9 o (min o.qty x.qty)) (tr s x.price)).stop,(A4 t (D9 o (min o.qty x.qty)) (tr s x.price)).st,FC x (min o.qty x.qty)++(A4 t (D9 o (min o.qty x.qty)) (tr s x.price)).rest⟩
def XN.join(F:List C6)(R:List X6)(r:XN σ):XN σ:=⟨F++r.fills,r.left,r.stop,r.st,R++r.rest⟩
variable {al tr} {F:List C6} {R t:List X6} {x o:X6} {s:σ}
theorem join_nil(r:XN σ):XN.join [] [] r=r:=rfl
theorem Qb8:XN.join F R (A4 al tr [] o s)=⟨F,o,false,s,R⟩:=by unfold A4 XN.join;simp
theorem Sv(h:o.qty<1):XN.join F R (A4 al tr t o s)=⟨F,o,false,s,R++t⟩:=by
 cases t with
 |nil=>unfold A4 XN.join;simp
 |cons x t=>unfold A4 XN.join;rw[X0 h];simp
theorem Qy0(h:¬o.qty<1)(hk:x.kind=2):XN.join F R (A4 al tr (x::t) o s)=XN.join F (R++[x]) (A4 al tr t o s):=by rw[A4,J8 h,X0 hk];unfold XN.join;simp
theorem Ml(h:¬o.qty<1)(hk:¬x.kind=2)(i:VA o x=true):XN.join F R (A4 al tr (x::t) o s)=⟨F,o,false,s,R++x::t⟩:=by rw[A4,J8 h,J8 hk,X0 i];unfold XN.join;simp
theorem Sw(h:¬o.qty<1)(hk:¬x.kind=2)(j:VA o x=false)(i:al s x.price=false):XN.join F R (A4 al tr (x::t) o s)=⟨F,o,true,s,R++x::t⟩:=by rw[A4,J8 h,J8 hk,J8 (by rw[j];simp),X0 i];unfold XN.join;simp
theorem Pt(h:¬o.qty<1)(hk:¬x.kind=2)(j:VA o x=false)(i:al s x.price=true){n}(u:min o.qty x.qty=n):XN.join F R (A4 al tr (x::t) o s)=XN.join (F++[CJ o x n]) (R++FC x n) (A4 al tr t (D9 o n) (tr s x.price)):=by rw[A4,J8 h,J8 hk,J8 (by rw[j];simp),J8 (by rw[i];simp),u];unfold XN.join;simp
end
theorem Xc4{R t x n}(u:((R++x::t).map (·.id)).Nodup):QV (R++x::t) x n=(R++FC x n)++t:=by
 rw[L6,T2,BE,UX]at u;have h1:∀y∈R,y.id≠x.id:=fun y i e=>u.2.2 _ (Y4.2 ⟨y,i,rfl⟩) _ (FR) e
 have h2:∀y∈t,y.id≠x.id:=fun y i e=>u.2.1.1 (Y4.2 ⟨y,i,e⟩)
 unfold QV FC
 by_cases j:n=x.qty
 ·rw[X0 j,X0 j]
  unfold L9;rw[JE,ED Q3,VT.2 (fun y i=>by simpa using h1 y i),VT.2 (fun y i=>by simpa using h2 y i)];simp
 rw[J8 j,J8 j];unfold YX;rw[L6,T2,X0 rfl];have C:R.map (fun o=>if o.id=x.id then D9 o n else o)=R:=by
  conv=>rhs;rw[<-List.map_id R]
  exact UM fun y i=>J8 (h1 y i)
 have D:t.map (fun o=>if o.id=x.id then D9 o n else o)=t:=by
  conv=>rhs;rw[<-List.map_id t]
  exact UM fun y i=>J8 (h2 y i)
 rw[C,D];simp
theorem Sx s M1 M2 x n:V1 s (QV M1 x n) (QV M2 x n)=QV (V1 s M1 M2) x n:=by
 unfold V1
 split<;>rfl
theorem Xc5{L1 L2}(h:E5 L1 L2)s:((V1 s L1 L2).map (·.id)).Nodup:=by
 have h1:=MA h;unfold V1
 split
 ·exact h1.1
 exact h1.2.1
theorem Qb9{M1 M2 R t s x n}(h:E5 M1 M2)(N:V5 s)(D:V1 (3-s) M1 M2=R++x::t):B4 (M1++M2) x.id=some x/\V1 s (QV M1 x n) (QV M2 x n)=V1 s M1 M2/\V1 (3-s) (QV M1 x n) (QV M2 x n)=(R++FC x n)++t:=by
 have J:=Xc5 h (3-s);rw[D]at J;obtain⟨Z,d2,E⟩:=MA h;have i:x∈V1 (3-s) M1 M2:=by rw[D];simp
 refine⟨?_,?_,by rw[Sx,D,Xc4 J]⟩
 ·refine Kv h.ids ?_
  unfold V1 at i
  split at i
  ·exact T9 _ i
  exact JJ _ i
 rw[Sx];refine Ci fun y j=>?_
 obtain rfl|rfl:=N
 ·have u:V1 1 M1 M2=M1:=rfl
  have C:V1 (3-1) M1 M2=M2:=rfl;rw[u]at j;rw[C]at i;exact E y j x i
 have u:V1 2 M1 M2=M2:=rfl;have C:V1 (3-2) M1 M2=M1:=rfl;rw[u]at j;rw[C]at i;exact fun e=>E x i y j e.symm
structure Z6 where
 rows:List (Int×Int)
 st:Int
 dy:Int
 tk:Int
 mo:Int
 an:Int
 la:Int
 L1:List X6
 L2:List X6
 pk:List X6
 ids:List Int
 ph:Int
 now:Int
 ends:Int
 lng:Int
def L5(m:Z6)(t:Int):Int:=(phAt m.rows t m.rows.length).1
def P1(m:Z6):List X6:=m.L1++m.L2
def M5(m:Z6):Z7:=ZM (QJ (P1 m) m.la) m.la
def AX(m:Z6):Z7:=if PQ m.ph=true then M5 m else(0,0,0)
def Fc(p t:Int)(L1 L2:List X6)(F:List C6):Prop:=GX L1 L2 p t F/\DC t L1 L2 F
def XD(m:Z6)(F:List C6):Prop:=if 0<(M5 m).2.1 then Fc (M5 m).1 (M5 m).2.1 m.L1 m.L2 F else F=[]
def EU(m:Z6)(L:List X6):List X6:=(if 0<(M5 m).2.1 then Y3 L (M5 m).2.1 else L).filter fun o=>o.kind ==1
def S8(m:Z6)(p:Int):Int:=if 0<(M5 m).2.1 then(M5 m).1 else p
def ZD(m:Z6):Z6:={m with L1:=EU m m.L1,L2:=EU m m.L2,an:=S8 m m.an,la:=S8 m m.la}
def S3(m:Z6)(o:X6):Z6:={m with L1:=MW 1 m.L1 m.L2 m.L1 o,L2:=MW 2 m.L1 m.L2 m.L2 o}
def N7(m:Z6)(l:List X6):Z6:=l.foldl S3 m
def VB(m:Z6):Z6:={N7 {m with ph:=5} m.pk with pk:=[]}
def BU(m:Z6):Z6:={m with ph:=4,ends:=m.now+m.tk,lng:=0}
def CX(m:Z6):Z6:={m with ph:=7,pk:=[],L1:=[],L2:=[]}
def XM(m:Z6)(p:Int):Z6:=if p=3 then {ZD m with ph:=3}else if p=5 then VB m else {m with ph:=p}
def UY(m:Z6)(p:Int)(F:List C6):Prop:=if p=3 then XD m F else F=[]
def DN(m:Z6):Prop:=(M5 m).2.1=0\/AS m.st m.an (M5 m).1=true
instance(m:Z6):Decidable (DN m):=by unfold DN;infer_instance
def JB(m:Z6):Z6:=
 if DN m then {ZD m with ph:=3}else if m.lng<m.mo then {m with lng:=m.lng+1,ends:=m.now+m.tk}else {m with ph:=6}
def ZN(m:Z6)(F:List C6):Prop:=if DN m then XD m F else F=[]
def V2(m:Z6):Z6:={m with now:=m.now+1}
def QR(was:Int)(m:Z6):Z6:=
 if L5 m m.now=7 then CX (if m.ph=5 then ZD m else m)
 else if m.ph=6 then m
 else if was≠L5 m m.now then XM m (L5 m m.now)
 else if m.ph=4/\m.ends<=m.now then JB m else m
def XY(was:Int)(m:Z6)(F:List C6):Prop:=
 if L5 m m.now=7 then(if m.ph=5 then XD m F else F=[])
 else if m.ph=6 then F=[]
 else if was≠L5 m m.now then UY m (L5 m m.now) F
 else if m.ph=4/\m.ends<=m.now then ZN m F else F=[]
def AT(m:Z6):Int:=if m.ph=7 then 6 else 0
def G9(m:Z6):Z6:=if m.ph=7 then m else QR (L5 m m.now) (V2 m)
def AZ(m:Z6)(F:List C6):Prop:=if m.ph=7 then F=[]else XY (L5 m m.now) (V2 m) F
def UE(m:Z6):Int:=if m.ph=6\/m.ph=7 then 6 else 0
def JN(m:Z6):Z6:=if m.ph=6\/m.ph=7 then m else {m with ph:=6}
def AW(m:Z6):Int:=if m.ph=6 then 0 else 6
def QK(m:Z6):Z6:=if m.ph=6 then(if L5 m m.now=3 then BU m else if L5 m m.now=5 then VB m else {m with ph:=L5 m m.now})else m
def FD(m:Z6)(id:Int):Bool:=m.pk.any fun o=>o.id ==id
def ZP(m:Z6)(id:Int):Int:=if m.ph=7 then 6 else if FD m id=true then 0 else if(B4 (P1 m) id).isSome=true then 0 else 7
def N3(m:Z6)(id:Int):Z6:=if m.ph=7 then m else if FD m id=true then {m with pk:=QM m.pk (m.pk.findIdx fun o=>o.id ==id)}else {m with L1:=L9 m.L1 id,L2:=L9 m.L2 id}
def NA(o:X6):Bool:=decide (o.side≠1/\o.side≠2\/o.kind<1\/4<o.kind\/o.id<1)
def P3(m:Z6)(o:X6):Int:=
 if NA o=true then 1 else if KS o=false then 2 else if YC m.ph o.kind=false then 6 else if o.id∈m.ids then 9 else if 100<=m.L1.length+m.L2.length+m.pk.length then 12 else 0
def S6(m:Z6)(o:X6):XN Int:=A4 (fun la p=>YA m.st m.dy m.an la p) (fun _ p=>p) (V1 (3-o.side) m.L1 m.L2) o m.la
def VC(m:Z6)(o:X6):Z6:={m with L1:=if o.side=1 then m.L1 else(S6 m o).rest,L2:=if o.side=1 then(S6 m o).rest else m.L2,la:=(S6 m o).st}
def T5(m:Z6)(o:X6):Z6:=if 0<(S6 m o).left.qty/\(S6 m o).left.kind≠2 then S3 (VC m o) (S6 m o).left else VC m o
def XP(m:Z6)(o:X6):Z6:=if(S6 m o).stop=true then BU (T5 m o)else T5 m o
def B7(m:Z6)(o:X6):Z6:={m with ids:=m.ids++[o.id]}
def UR(m:Z6)(o:X6):Z6:=if o.kind=4/\m.ph≠5 then {m with pk:=m.pk++[o]}else if m.ph≠3 then S3 m o else XP m o
def AG(m:Z6)(o:X6):List C6:=if o.kind=4/\m.ph≠5 then []else if m.ph≠3 then []else(S6 m o).fills
def M8(m:Z6)(o:X6):Z6:=if P3 m o=0 then UR (B7 m (U6 o)) (U6 o)else m
def ZT(m:Z6)(o:X6):List C6:=if P3 m o=0 then AG (B7 m (U6 o)) (U6 o)else []
structure D5(m:Z6):Prop where
 tab:KH m.rows
 st:0<=m.st/\m.st<=10000
 dy:0<=m.dy/\m.dy<=10000
 tk:1<=m.tk/\m.tk<=1000000
 mo:0<=m.mo/\m.mo<=10
 an:1<=m.an/\m.an<=1000000
 la:1<=m.la/\m.la<=1000000
 ls:E5 m.L1 m.L2
 pk:∀o∈m.pk,KG o/\V5 o.side
 cnt:m.L1.length+m.L2.length+m.pk.length<=100
 lng:0<=m.lng/\m.lng<=10
theorem Qs3{p t L1 L2 F F'}(h:Fc p t L1 L2 F)(j:Fc p t L1 L2 F'):F=F':=
 Jq2 h.2 j.2 (fun f i=>⟨(h.1.one f i).1,(h.1.one f i).2.1⟩) (fun f i=>⟨(j.1.one f i).1,(j.1.one f i).2.1⟩) h.1.sum j.1.sum
theorem XD.unique{m F F'}(h:XD m F)(i:XD m F'):F=F':=by
 unfold XD at h i
 split at h
 ·rw[X0 J1]at i
  exact Qs3 h i
 rw[J8 J1]at i;rw[h,i]
theorem Qs4{m F F'}(h:AZ m F)(i:AZ m F'):F=F':=by
 have key:∀m,∀p,UY m p F->UY m p F'->F=F':=fun m p h i=>by
  unfold UY at h i
  split at h
  ·rw[X0 J1]at i;exact h.unique i
  rw[J8 J1]at i;rw[h,i]
 have j:∀m,ZN m F->ZN m F'->F=F':=fun m h i=>by
  unfold ZN at h i
  split at h
  ·rw[X0 J1]at i;exact h.unique i
  rw[J8 J1]at i;rw[h,i]
 unfold AZ at h i
 split at h
 ·rw[X0 J1]at i;rw[h,i]
 rw[J8 J1]at i;unfold XY at h i
 split at h
 ·rw[X0 J1]at i
  split at h
  ·rw[X0 J1]at i;exact h.unique i
  rw[J8 J1]at i;rw[h,i]
 rw[J8 J1]at i
 split at h
 ·rw[X0 J1]at i;rw[h,i]
 rw[J8 J1]at i
 split at h
 ·rw[X0 J1]at i;exact key _ _ h i
 rw[J8 J1]at i
 split at h
 ·rw[X0 J1]at i;exact j _ h i
 rw[J8 J1]at i;rw[h,i]
structure GJ{σ:Type}(K:σ->List X6->List X6->(Nat->Prop)->World->Prop)(al:σ->Int->Bool)(tr:σ->Int->σ)(cnt:σ->Nat)(ga gt:FuncId)(fa ca ct:Array Value)(cutF:FuncId)(bp e0:Value):Prop where
 keep:∀{s:σ}{L1 L2:List X6}{F:Nat->Prop}{w w':World}{S:Nat->Prop},K s L1 L2 F w->X4 S w w'->(∀i,F i->¬S i)->K s L1 L2 F w'
 lt:∀{s:σ}{L1 L2:List X6}{F:Nat->Prop}{w:World},K s L1 L2 F w->∀i,F i->i<w.heap.size
 ok:∀{s:σ}{L1 L2:List X6}{F:Nat->Prop}{w:World},K s L1 L2 F w->E5 L1 L2
 allows:∀{s:σ}{L1 L2:List X6}{F:Nat->Prop}{w:World}(p:Int),K s L1 L2 F w->1<=p/\p<=1000000->Calls prog ga (fa++ #[I O p]++ca) w fun e w'=>e=.returned (.bool (al s p))/\Bz w w'
 trades:∀{s:σ}{L1 L2:List X6}{F:Nat->Prop}{w:World}(p:Int),K s L1 L2 F w->1<=p/\p<=1000000->cnt s<=1000->Calls prog gt (#[I O p]++ct) w fun e w'=>e=.returned (.tuple #[])/\∃F',K (tr s p) L1 L2 F' w'/\U2 w w' F F'
 cut:∀{s:σ}{L1 L2:List X6}{F:Nat->Prop}{w:World}(x:X6)(n:Int),K s L1 L2 F w->B4 (L1++L2) x.id=some x->1<=n->n<=x.qty->Calls prog cutF #[bp,I O x.id,I O n] w fun e w'=>e=.returned e0/\∃F',K s (QV L1 x n) (QV L2 x n) F' w'/\U2 w w' F F'
 cnt_:∀s p,cnt (tr s p)<=cnt s+1
 ega:∀args w,(callFunc ga args).run prog w=.ok (.enter ga args) w
 egt:∀args w,(callFunc gt args).run prog w=.ok (.enter gt args) w
structure AV{σ:Type}(K:σ->List X6->List X6->(Nat->Prop)->World->Prop)(w wr:World)(s:σ)(G G':Nat->Prop)(M1 M2:List X6)(A:Option Addr)(c:Nat)(F:List C6):Prop where
 mk_:K s M1 M2 G' wr
 step:U2 w wr G G'
 row:X8 wr A F.length c 127 4 (X7 QT F)
 fpA:∀g,X5 A=some g->¬G' g/\w.heap.size<=g
section
variable {σ:Type} {K:σ->List X6->List X6->(Nat->Prop)->World->Prop} {al:σ->Int->Bool} {tr:σ->Int->σ} {cnt:σ->Nat} {ga gt:FuncId} {fa ca ct:Array Value} {cutF:FuncId} {bp e0:Value}
variable {w wr w':World} {s s':σ} {G G' G2:Nat->Prop} {M1 M2 N1 N2:List X6} {A:Option Addr} {c:Nat} {F:List C6}
theorem AV.below(j:GJ K al tr cnt ga gt fa ca ct cutF bp e0)(h:AV K w wr s G G' M1 M2 A c F)(i:Bz wr w'):AV K w w' s G G' M1 M2 A c F:=
 ⟨j.keep h.mk_ (B9 i (fun _=>False)) (fun _ _=>id),h.step.trans (S5 i),h.row.below i,h.fpA⟩
theorem AV.keep(E:GJ K al tr cnt ga gt fa ca ct cutF bp e0)(h:AV K w wr s G G' M1 M2 A c F){X}(hk:X4 (fun i=>i=X) wr w')(u:¬G' X)(y:X5 A≠some X)(C:w.heap.size<=X):AV K w w' s G G' M1 M2 A c F:=
 ⟨E.keep h.mk_ hk (fun i j e=>u (e▸j)),⟨h.step.1.trans hk (fun i j=>.inr (j▸C)),h.step.2⟩,h.row.keeps hk (fun g D e=>y (e▸D)),h.fpA⟩
theorem AV.fill(u:GJ K al tr cnt ga gt fa ca ct cutF bp e0){f gg cap}(h:AV K w wr s G G' M1 M2 A c F)(hk:X4 (fun i=>X5 A=some i) wr w')(E:w'.ownsRow 0 127 4 (.slice (sA gg) (F.length+1) cap) (F.length+1) (X7 QT F++QT f))(C:X5 A=some gg\/wr.heap.size<=gg):AV K w w' s G G' M1 M2 (sA gg) cap (F++[f]):=by
 refine⟨u.keep h.mk_ hk (fun i j e=>(h.fpA i e).1 j),⟨h.step.1.trans hk (fun i j=>.inr (h.fpA i j).2),h.step.2⟩,?_,fun g D=>?_⟩
 ·show w'.ownsRow 0 127 4 _ _ _
  rw[AQ,B6];exact E
 have e:gg=g:=by simpa [X5]using D
 subst e;obtain h1|h1:=C
 ·exact h.fpA _ h1
 refine⟨fun y=>?_,U4 h.step.1.size h1⟩;have:=u.lt h.mk_ _ y;omega
theorem AV.turn(h:AV K w wr s G G' M1 M2 A c F)(hk:K s' N1 N2 G2 w')(j:U2 wr w' G' G2):AV K w w' s' G G2 N1 N2 A c F:=by
 refine⟨hk,h.step.trans j,h.row.keeps j.1 (fun g i=>(h.fpA g i).1),fun g i=>⟨fun u=>?_,(h.fpA g i).2⟩⟩;obtain h1|h1:=j.2 g u
 ·exact(h.fpA g i).1 h1
 have:=h.row.lt i;omega
end
def Eg{σ}(K:σ->List X6->List X6->(Nat->Prop)->World->Prop)(w w':World)(G:Nat->Prop)(sd:Int)(L1 L2:List X6)(r:XN σ)(e:Ending):Prop:=
 ∃A c G' M1 M2,e=.returned (.tuple #[.slice A r.fills.length c,V6 r.left,.bool r.stop])/\AV K w w' r.st G G' M1 M2 A c r.fills/\V1 sd M1 M2=V1 sd L1 L2/\V1 (3-sd) M1 M2=r.rest
section
variable {L L1 L2:List X6}
theorem Xc6(h:M7 L L1 L2)(u:E5 L1 L2){o}(j:JV o):addE L1 L2 o=KE L o/\M7 (CQ L o) (MW 1 L1 L2 L1 o) (MW 2 L1 L2 L2 o):=by
 have e:=h.addE u o;refine⟨e,?_⟩;unfold MW;rw[e]
 by_cases i:KE L o=0
 ·rw[X0 i,X0 i];exact h.add j i
 rw[J8 i,J8 i];unfold CQ;rw[J8 i];exact h
theorem Qy1(h:M7 L L1 L2)(u:E5 L1 L2)id:Qj5 L1 L2 id=Jp L id/\Qj6 L1 L2 id=Jq L id/\M7 (FB L id) (L9 L1 id) (L9 L2 id):=by
 unfold Qj5 Qj6 Jp Jq;rw[h.get u];refine⟨rfl,rfl,?_⟩
 cases j:B4 L id with
 |some o=>exact h.cancel j
 |none=>
  have h2:=Fb.1 j;have e:FB L id=L:=by unfold FB QM;rw[List.findIdx_eq_length.2 (fun x y=>by simpa using h2 x y)];simp
  rw[e,Uo (fun o i=>h2 o (h.mem.1 (B8.2 (.inl i)))),Uo (fun o i=>h2 o (h.mem.1 (B8.2 (.inr i))))];exact h
theorem Xc7(h:M7 L L1 L2)(Z:E5 L1 L2)id n:EZ L1 L2 id n=NQ L id n/\M7 (DM L id n) (Zo L1 L2 L1 id n) (Zo L1 L2 L2 id n):=by
 unfold EZ NQ DM Zo;rw[h.get Z]
 cases j:B4 L id with
 |none=>exact⟨rfl,h⟩
 |some o=>
  dsimp only
  by_cases i:1<=n/\n<=o.qty
  ·rw[J8 Q0,X0 i,X0 i,X0 i,X0 i]
   refine⟨rfl,?_⟩;have y:o∈L/\o.id=id:=by unfold B4 at j;have h2:=Xo j;simp at h2;exact⟨NE j,h2⟩
   unfold QV
   by_cases u:n=o.qty
   ·rw[X0 u,X0 u,X0 u,y.2]
    exact h.cancel j
   rw[J8 u,J8 u,J8 u,y.2];rcases Ke L id with⟨-,h2⟩|⟨k,hk,-,N,h4,C⟩
   ·rw[h2]at j;cases j
   have E:L[k]=o:=by
    rw[j]at C
    first
     |exact(XG C).symm
     |exact XG C
   have es:L.set (L.findIdx fun o=>o.id ==id) (D9 o n)=YX L id n:=by rw[N];have:=Xc3 h.ids hk n;rw[E,y.2]at this;exact this
   rw[es];refine h.map (fun x D e=>?_);have J:x=o:=WM h.ids D y.1 (by rw[e,y.2]);subst J;have:=(h.ok x D).1.2.2.2;omega
  rw[X0 Q0,J8 i,J8 i,J8 i,J8 i];exact⟨rfl,h⟩
end
theorem Vz s L:(KX s L).Perm (G7 s L):=Ps _
theorem M7.lists{L L1 L2}(h:M7 L L1 L2)(Z:L.length<=100):E5 L1 L2:=by
 have j:∀s,((KX s L).map (·.id)).Nodup:=fun s=>by refine((Vz s L).map (·.id)).nodup_iff.2 ?_;exact Xe ((At).map _) h.ids
 have h1:∀o∈L1,o∈L/\o.side=1:=fun o i=>Kf.1 (h.s1▸i)
 have h2:∀o∈L2,o∈L/\o.side=2:=fun o i=>Kf.1 (h.s2▸i)
 refine⟨?_,?_,fun o i=>(h.ok o (h.mem.1 i)).1,fun o i=>(h1 o i).2,fun o i=>(h2 o i).2⟩
 ·rw[L6,BE]
  refine⟨h.s1▸j 1,h.s2▸j 2,fun a J b N e=>?_⟩;obtain⟨x,u,rfl⟩:=Y4.1 J;obtain⟨y,C,rfl⟩:=Y4.1 N;have D:x=y:=WM h.ids (h1 x u).1 (h2 y C).1 e;have E:=(h1 x u).2;have e4:=(h2 y C).2;rw[D]at E;omega
 rw[B6,h.len];exact Z
theorem M7.want{L L1 L2}(h:M7 L L1 L2){s}(i:V5 s)p:H9 s p (G7 s L)=H9 s p (V1 s L1 L2):=by rw[h.side i];exact Jq1 (Vz s L).symm
theorem M7.cutS_{L L1 L2}(h:M7 L L1 L2)(j:E5 L1 L2){x n}(i:B4 (L1++L2) x.id=some x)(h1:1<=n)(h2:n<=x.qty):NQ L x.id n=0/\M7 (DM L x.id n) (QV L1 x n) (QV L2 x n):=by
 obtain⟨a,b⟩:=Xc7 h j x.id n;have e:∀K,Zo L1 L2 K x.id n=QV K x n:=fun K=>by unfold Zo;rw[i];exact X0 ⟨h1,h2⟩
 rw[e,e]at b;refine⟨?_,b⟩;rw[<-a];unfold EZ;rw[i];exact J8 Q0
theorem Dg L id n:(DM L id n).length<=L.length:=by
 unfold DM
 split
 ·exact X3 _
 split
 ·split
  ·unfold QM
   rw[B6,R7,UQ];omega
  rw[XH];exact X3 _
 exact X3 _
theorem Qk7{P:Program}{j:Func}{p q u:Tmp}{i:TypeId}(h:j.results= #[.tmp u,.cell p i,.tmp q])(tmps:Array Value)(w:World)(g:Nat)(t:TypeId)(cs:Array Value)(v1 v2:Value)(fr:Nat×Nat)(d:TypeDesc)(a1:tmps.getD u undef=v1) (hp:tmps.getD p undef=pA g) (J:tmps.getD q undef=v2) (C:w.heap[g]?=some (.cells cs t fr))(Z:P.underlying i=some d) (y:(match d with| .struct _| .array _ _=>true|_=>false)=true) (D:(P.info? i).map (·.size)=some cs.size):(results j tmps).run P w=.ok (.tuple #[v1,.agg cs,v2]) w:=by
 have a0:tmps[u]?.getD undef=v1:=by simpa using a1
 have E:tmps[p]?.getD undef=pA g:=by simpa using hp
 have N:tmps[q]?.getD undef=v2:=by simpa using J
 simp[results,h,a0,E,N,asAddr,run_loadVar_row w g t i cs fr d C Z y D,Result.andThen]
theorem S0{w g t a b c d e}(h:J7 w g t #[a,b,c,d,e]):w.cell? (aD g 0)=some a/\w.cell? (aD g 1)=some b/\w.cell? (aD g 2)=some c/\w.cell? (aD g 3)=some d/\w.cell? (aD g 4)=some e:=
 ⟨by rw[X9 h];rfl,by rw[X9 h];rfl,by rw[X9 h];rfl,by rw[X9 h];rfl,by rw[X9 h];rfl⟩
theorem Gc{w g t a b c d}(h:J7 w g t #[a,b,c,d]):w.cell? (aD g 0)=some a/\w.cell? (aD g 1)=some b/\w.cell? (aD g 2)=some c/\w.cell? (aD g 3)=some d:=
 ⟨by rw[X9 h];rfl,by rw[X9 h];rfl,by rw[X9 h];rfl,by rw[X9 h];rfl⟩
theorem RN{w Y t a0 b0 c0 d0 e0}(h:J7 w Y t #[a0,b0,c0,d0,e0])a b c d e:J7 (((((w.setCell (aD Y 0) a).setCell (aD Y 1) b).setCell (aD Y 2) c).setCell (aD Y 3) d).setCell (aD Y 4) e) Y t #[a,b,c,d,e]/\X4 (fun i=>i=Y) w (((((w.setCell (aD Y 0) a).setCell (aD Y 1) b).setCell (aD Y 2) c).setCell (aD Y 3) d).setCell (aD Y 4) e):=
 ⟨Z0 (Z0 (Z0 (Z0 (Z0 h 0 a) 1 b) 2 c) 3 d) 4 e,((((U1 w ⟨Y,0,none⟩ a).trans (U1 _ ⟨Y,1,none⟩ b) (fun _ h=>.inl h)).trans (U1 _ ⟨Y,2,none⟩ c) (fun _ h=>.inl h)).trans (U1 _ ⟨Y,3,none⟩ d) (fun _ h=>.inl h)).trans (U1 _ ⟨Y,4,none⟩ e) (fun _ h=>.inl h)⟩
theorem RP{fn}(C:fn.results= #[.tmp 8,.cell 9 84,.tmp 10]){w a Q o v1 v2}g(u:a.tmps.getD 9 undef=pA g)(j:a.tmps.getD 8 undef=v1)(i:a.tmps.getD 10 undef=v2)(y:a.defers=[])(D:J7 w g 84 (Z8 o)) (h:Q (.returned (.tuple #[v1,V6 o,v2])) w):bodyPost prog fn Q .ret a w:=
 QA (Qk7 C a.tmps w g 84 (Z8 o) v1 v2 (0,0) _ j u i D underlying84 rfl (by show(prog.info? 84).map (·.size)=some 5;kernel_rfl)) y h
structure DP{σ:Type}(K:σ->List X6->List X6->(Nat->Prop)->World->Prop)(w wr:World)(s:σ)(G G':Nat->Prop)(M1 M2 l:List X6)(ob:X6)(X Y:Nat)(AL:Option Addr)(n cl:Nat)(A:Option Addr)(c:Nat)(F:List C6):Prop where
 m:AV K w wr s G G' M1 M2 A c F
 bx:J7 wr X 84 (Z8 ob)
 by_:J7 wr Y 84 (Z8 D4)
 xg:¬G' X
 yg:¬G' Y
 xa:X5 A≠some X
 ya:X5 A≠some Y
 xy:X≠Y
 lr:X8 wr AL n cl 84 5 (X7 U0 l)
 lg:∀g,X5 AL=some g->¬G' g/\X5 A≠some g/\g≠X/\g≠Y
 wx:w.heap.size<=X
 wy:w.heap.size<=Y
structure GY{σ:Type}(K:σ->List X6->List X6->(Nat->Prop)->World->Prop)(al:σ->Int->Bool)(tr:σ->Int->σ)(cnt:σ->Nat)(w wr:World)(s0 s:σ)(G G':Nat->Prop)(L1 L2 M1 M2:List X6)(l:List X6)(oi sd ok op oq q:Int)(X Y:Nat)(AL:Option Addr)(n cl:Nat)(A:Option Addr)(c:Nat)(F:List C6)(R:List X6)(k:Nat):Prop where
 v:DP K w wr s G G' M1 M2 l ⟨oi,sd,ok,op,q⟩ X Y AL n cl A c F
 eq:A4 al tr l ⟨oi,sd,ok,op,oq⟩ s0=XN.join F R (A4 al tr (l.drop k) ⟨oi,sd,ok,op,q⟩ s)
 own:V1 sd M1 M2=V1 sd L1 L2
 oth:V1 (3-sd) M1 M2=R++l.drop k
 fl:F.length<=k
 qb:V3 q
 cn:cnt s<=F.length
section
variable {σ:Type} {K:σ->List X6->List X6->(Nat->Prop)->World->Prop} {al:σ->Int->Bool} {tr:σ->Int->σ} {cnt:σ->Nat} {ga gt:FuncId} {fa ca ct:Array Value} {cutF:FuncId} {bp e0:Value}
variable {w wr w':World} {s0 s s':σ} {G G' G2:Nat->Prop} {L1 L2 M1 M2 N1 N2 l R R':List X6} {ob:X6} {oi sd ok op oq q:Int} {X Y:Nat} {AL A:Option Addr} {n cl c k:Nat} {F:List C6}
theorem DP.below(j:GJ K al tr cnt ga gt fa ca ct cutF bp e0)(h:DP K w wr s G G' M1 M2 l ob X Y AL n cl A c F)(i:Bz wr w'):DP K w w' s G G' M1 M2 l ob X Y AL n cl A c F:=
 ⟨h.m.below j i,Z4 h.bx i,Z4 h.by_ i,h.xg,h.yg,h.xa,h.ya,h.xy,h.lr.below i,h.lg,h.wx,h.wy⟩
theorem GY.below(j:GJ K al tr cnt ga gt fa ca ct cutF bp e0)(h:GY K al tr cnt w wr s0 s G G' L1 L2 M1 M2 l oi sd ok op oq q X Y AL n cl A c F R k)(i:Bz wr w'):GY K al tr cnt w w' s0 s G G' L1 L2 M1 M2 l oi sd ok op oq q X Y AL n cl A c F R k:=
 ⟨h.v.below j i,h.eq,h.own,h.oth,h.fl,h.qb,h.cn⟩
theorem GY.pass{x t}(h:GY K al tr cnt w wr s0 s G G' L1 L2 M1 M2 l oi sd ok op oq q X Y AL n cl A c F R k)(i:l.drop k=x::t)(j:¬q<1)(hk:x.kind=2):GY K al tr cnt w wr s0 s G G' L1 L2 M1 M2 l oi sd ok op oq q X Y AL n cl A c F (R++[x]) (k+1):=by
 have e:l.drop (k+1)=t:=by rw[<-Xr,i];rfl
 refine⟨h.v,?_,h.own,?_,Nat.le_succ_of_le h.fl,h.qb,h.cn⟩
 ·rw[h.eq,i,e,Qy0 (by exact j) hk]
 rw[h.oth,i,e];simp
theorem DP.fill(C:GJ K al tr cnt ga gt fa ca ct cutF bp e0){f gg cap}(h:DP K w wr s G G' M1 M2 l ob X Y AL n cl A c F)(hk:X4 (fun i=>X5 A=some i) wr w')(y:w'.ownsRow 0 127 4 (.slice (sA gg) (F.length+1) cap) (F.length+1) (X7 QT F++QT f))(u:X5 A=some gg\/wr.heap.size<=gg):DP K w w' s G G' M1 M2 l ob X Y AL n cl (sA gg) cap (F++[f]):=by
 have D:=Z9 h.bx;have E:=Z9 h.by_;refine⟨h.m.fill C hk y u,V0 h.bx hk h.xa,V0 h.by_ hk h.ya,h.xg,h.yg,fun e=>?_,fun e=>?_,h.xy,h.lr.keeps hk (fun g j=>(h.lg g j).2.1),fun g j=>⟨(h.lg g j).1,fun e=>?_,(h.lg g j).2.2⟩,h.wx,h.wy⟩
 ·have e:gg=X:=by simpa [X5]using e
  subst e;obtain h1|h1:=u
  ·exact h.xa h1
  omega
 ·have e:gg=Y:=by simpa [X5]using e
  subst e;obtain h1|h1:=u
  ·exact h.ya h1
  omega
 have e:gg=g:=by simpa [X5]using e
 subst e;obtain h1|h1:=u
 ·exact(h.lg _ j).2.1 h1
 have:=h.lr.lt j;omega
theorem DP.turn(h:DP K w wr s G G' M1 M2 l ob X Y AL n cl A c F)(hk:K s' N1 N2 G2 w')(i:U2 wr w' G' G2):DP K w w' s' G G2 N1 N2 l ob X Y AL n cl A c F:=by
 have u:=Z9 h.bx;have y:=Z9 h.by_;refine⟨h.m.turn hk i,V0 h.bx i.1 h.xg,V0 h.by_ i.1 h.yg,fun e=>?_,fun e=>?_,h.xa,h.ya,h.xy,h.lr.keeps i.1 (fun g j=>(h.lg g j).1),fun g j=>⟨fun e=>?_,(h.lg g j).2⟩,h.wx,h.wy⟩
 ·obtain h1|h1:=i.2 _ e
  ·exact h.xg h1
  omega
 ·obtain h1|h1:=i.2 _ e
  ·exact h.yg h1
  omega
 obtain h1|h1:=i.2 _ e
 ·exact(h.lg g j).1 h1
 have:=h.lr.lt j;omega
theorem DP.lots(j:GJ K al tr cnt ga gt fa ca ct cutF bp e0){q'}(h:DP K w wr s G G' M1 M2 l ⟨oi,sd,ok,op,q⟩ X Y AL n cl A c F):DP K w (wr.setCell (aD X 4) (I O q')) s G G' M1 M2 l ⟨oi,sd,ok,op,q'⟩ X Y AL n cl A c F:=by have hk:=U1 wr (aD X 4) (I O q');exact⟨h.m.keep j hk h.xg h.xa h.wx,Z0 h.bx 4 _,V0 h.by_ hk (fun e=>h.xy e.symm),h.xg,h.yg,h.xa,h.ya,h.xy,h.lr.keeps hk (fun g i e=>(h.lg g i).2.2.1 e),h.lg,h.wx,h.wy⟩
theorem GY.done(u:GJ K al tr cnt ga gt fa ca ct cutF bp e0)(h:GY K al tr cnt w wr s0 s G G' L1 L2 M1 M2 l oi sd ok op oq q X Y AL n cl A c F R k){st}(j:XN.join F R (A4 al tr (l.drop k) ⟨oi,sd,ok,op,q⟩ s)=⟨F,⟨oi,sd,ok,op,q⟩,st,s,R++l.drop k⟩)(hk:X4 (fun i=>i=Y) wr w'):Eg K w w' G sd L1 L2 (A4 al tr l ⟨oi,sd,ok,op,oq⟩ s0) (.returned (.tuple #[.slice A F.length c,V6 ⟨oi,sd,ok,op,q⟩,.bool st])):=by have e:=h.eq.trans j;rw[e];exact⟨A,c,G',M1,M2,rfl,h.v.m.keep u hk h.v.yg h.v.ya h.v.wy,h.own,h.oth⟩
end
structure VD(w wr:World)(B:Nat)(t:TypeId)(cs:Array Value)(o0:Nat)(A A':Option Addr)(c':Nat)(M M1 M2:List X6)(Af:Option Addr)(c:Nat)(F:List C6):Prop where
 ref:KY wr B t (cs.setIfInBounds o0 (.slice A' M.length c')) o0 A' M
 keep:X4 (fun i=>i=B) w wr
 grow:∀g,X5 A'=some g->X5 A=some g\/w.heap.size<=g
 blt:B<w.heap.size
 twin:M7 M M1 M2
 few:M.length<=100
 row:X8 wr Af F.length c 127 4 (X7 QT F)
 fp:∀g,X5 Af=some g->w.heap.size<=g/\X5 A'≠some g
section
variable {w wr w':World} {B:Nat} {t:TypeId} {cs:Array Value} {o0:Nat} {A A':Option Addr} {c':Nat} {M M1 M2:List X6} {Af:Option Addr} {c:Nat} {F:List C6}
theorem VD.start{L L1 L2}(h:KY w B t cs o0 A L)(ht:M7 L L1 L2)(u:L.length<=100):∃c',VD w w B t cs o0 A A c' L L1 L2 none 0 []:=by obtain⟨c,j,-⟩:=h.at_;refine⟨c,?_,B9 Q5 _,fun g i=>.inl i,h.blt,ht,u,QY _ _ _ _,fun g i=>by simp[X5]at i⟩;rw[Lj j];exact h
theorem VD.below(h:VD w wr B t cs o0 A A' c' M M1 M2 Af c F)(i:Bz wr w'):VD w w' B t cs o0 A A' c' M M1 M2 Af c F:=
 ⟨h.ref.below i,h.keep.then_ i,h.grow,h.blt,h.twin,h.few,h.row.below i,h.fp⟩
theorem VD.fill{f gg cap}(h:VD w wr B t cs o0 A A' c' M M1 M2 Af c F)(hk:X4 (fun i=>X5 Af=some i) wr w')(C:w'.ownsRow 0 127 4 (.slice (sA gg) (F.length+1) cap) (F.length+1) (X7 QT F++QT f))(u:X5 Af=some gg\/wr.heap.size<=gg):VD w w' B t cs o0 A A' c' M M1 M2 (sA gg) cap (F++[f]):=by
 refine⟨h.ref.keeps hk (fun e=>by have:=(h.fp _ e).1;have:=h.blt;omega) (fun g j e=>(h.fp g e).2 j),h.keep.trans hk (fun i y=>.inr (h.fp i y).1),h.grow,h.blt,h.twin,h.few,?_,fun g j=>?_⟩
 ·show w'.ownsRow 0 127 4 _ _ _
  rw[AQ,B6];exact C
 have e:gg=g:=by simpa [X5]using j
 subst e;obtain h1|h1:=u
 ·exact h.fp _ h1
 refine⟨U4 h.keep.size h1,fun e=>?_⟩;have:=h.ref.lt _ e;omega
theorem VD.cut{M' M1' M2'}(h:VD w wr B t cs o0 A A' c' M M1 M2 Af c F)(ht:KV wr w' B t (cs.setIfInBounds o0 (.slice A' M.length c')) o0 A' M')(E:M7 M' M1' M2')(D:M'.length<=100):∃u c2,VD w w' B t cs o0 A u c2 M' M1' M2' Af c F/\X4 (fun i=>i=B) wr w':=by
 obtain⟨u,c2,h1,h2,C⟩:=ht;rw[Mk]at h1;have J:=h.ref.blt;refine⟨u,c2,⟨h1,h.keep.trans h2 (fun i e=>.inl e),fun g j=>?_,h.blt,E,D,h.row.keeps h2 (fun g j e=>?_),fun g j=>⟨(h.fp g j).1,fun e=>?_⟩⟩,h2⟩
 ·obtain e|e:=C g j
  ·exact h.grow g e
  exact .inr (U4 h.keep.size e)
 ·have:=(h.fp g j).1
  have:=h.blt;omega
 obtain y|y:=C g e
 ·exact(h.fp g j).2 y
 have:=h.row.lt j;omega
theorem VD.lists(h:VD w wr B t cs o0 A A' c' M M1 M2 Af c F):E5 M1 M2:=h.twin.lists h.few
end
theorem Jf9{s p L}(h:∀o∈L,1<=o.qty/\o.qty<=1000000):0<=H9 s p (G7 s L)/\H9 s p (G7 s L)<=1000000*L.length:=by have h1:=Vy (s:=s) (p:=p) (L:=G7 s L) (fun o i=>h o (S4.1 i).1);have h2:=Pg s L;omega
theorem Jq8{s p}{L:List X6}{i}(j:i<L.length):H9 s p (G7 s (L.take (i+1)))=H9 s p (G7 s (L.take i))+(if L[i].side=s/\VQ s p L[i]=true then L[i].qty else 0):=by
 rw[M9 j,Bo,Lk]
 congr 1
 by_cases h:L[i].side=s
 ·rw[X0 (V4 h)]
  unfold H9;simp only[QL,h,true_and];omega
 rw[J8 (by rw[Z3 h];simp),J8 (by rintro⟨h1,-⟩;exact h h1)]
 rfl
theorem Ll w B t cs o0 A L(h:KY w B t cs o0 A L)(hn:L.length<=1000)s p(hs:V5 s)(hq:∀o∈L,1<=o.qty/\o.qty<=1000000):Calls prog 175 #[IP (some (aD B o0)),I O s,I O p] w fun e w'=>e=.returned (I O (H9 s p (G7 s L)))/\Bz w w':=by
 obtain⟨c,hc,-⟩:=h.cell;obtain⟨n,a0⟩:=exq L.length;obtain⟨HE,HQ⟩:=Xt6 h.els hq;rw[a0]at hc HE hn;have HN:=J6 a0;clear h hq a0;go_enter func175,ntmps175
 go_wp2_with fail
 clear hc
 go_loopg [7,15] n (fun g s7 a9 wr=>∃i,i<=n/\g=n-i/\a9=I O i/\s7=I O (H9 s p (G7 s (L.take i)))/\Hid (Bz w wr))
 case atStart=>exact⟨0,U9 _,rfl,rfl,rfl,J6 Q5⟩
 obtain⟨i,hi,rfl,rfl,rfl,Z⟩:=hrel
 by_cases a6:i<n
 ·have a4:i<L.length:=by rw[HN.out];exact a6
  obtain⟨gA,oA,hA⟩:∃b a1,A=some (aD b a1):=by obtain⟨b,a1,h1,_⟩:=HE.2 Q0;exact⟨b,a1,h1⟩
  subst hA;obtain⟨x0,x1,x2,x3,x4⟩:=ML (HE.below Z Q2) a4;have j:=J6 (Jq8 (s:=s) (p:=p) a4);have a3:=Jf9 (s:=s) (p:=p) (fun y hy=>HQ y (CV hy):∀y∈L.take i,_);have a8:=HQ.out L[i] (C7 _);obtain⟨o,ho⟩:=exq (L[i]);rw[ho]at x0 x1 x2 x3 x4 j a8;rw[R7,HN.out,SW Q0]at a3;obtain⟨E,a2⟩:=exq (H9 s p (G7 s (L.take i)));rw[a2]at j a3|-;have i1:RowKit.wrap64 (E+o.qty)=E+o.qty:=by unfold RowKit.wrap64;omega
  have N:=J6 (Z.trans (((J9 (zS wr) wr).alloc Q2 (.cells #[I O o.id,I O o.side,I O o.kind,I O o.price,I O o.qty] 84)).mono Z.size));have a7:(i:Int)<(n:Int):=Q0;have b0:(0:Int)<=(i:Int):=Q0;clear ho a2 Z;obtain rfl|rfl:=hs
  ·by_cases h1:o.side=1
   ·have d1:=V4 h1
    by_cases h2:o.kind=2
    ·have J:=V4 h2
     have u:=J6 (show E+o.qty=H9 1 p (G7 1 (L.take (i+1))) by rw[j.out,X0 ⟨h1,by unfold VQ;rw[J];rfl⟩]);clear h1 h2;clear j;go_wp2
     go_roundg (n-(i+1))
     case measure=>omega
     exact⟨i+1,Q0,rfl,J5,by rw[<-u.out],N⟩
    have J:=Z3 h2
    by_cases C:p<=o.price
    ·have d3:=V7 C
     have u:=J6 (show E+o.qty=H9 1 p (G7 1 (L.take (i+1))) by rw[j.out,X0 ⟨h1,by unfold VQ;rw[J];simp[C]⟩]);clear h1 h2 C;clear j;go_wp2
     go_roundg (n-(i+1))
     case measure=>omega
     exact⟨i+1,Q0,rfl,J5,by rw[<-u.out],N⟩
    have d3:=V9 C;have u:=J6 (show E=H9 1 p (G7 1 (L.take (i+1))) by rw[j.out,J8 (by rintro⟨-,D⟩;unfold VQ at D;rw[J]at D;simp at D;omega)];omega);clear h1 h2 C;clear j;go_wp2
    go_roundg (n-(i+1))
    case measure=>omega
    exact⟨i+1,Q0,rfl,J5,by rw[<-u.out],N⟩
   have d1:=Z3 h1;have u:=J6 (show E=H9 1 p (G7 1 (L.take (i+1))) by rw[j.out,J8 (by rintro⟨D,-⟩;exact h1 D)];omega);clear h1;clear j;go_wp2
   go_roundg (n-(i+1))
   case measure=>omega
   exact⟨i+1,Q0,rfl,J5,by rw[<-u.out],N⟩
  by_cases h1:o.side=2
  ·have d1:=V4 h1
   by_cases h2:o.kind=2
   ·have J:=V4 h2
    have u:=J6 (show E+o.qty=H9 2 p (G7 2 (L.take (i+1))) by rw[j.out,X0 ⟨h1,by unfold VQ;rw[J];rfl⟩]);clear h1 h2;clear j;go_wp2
    go_roundg (n-(i+1))
    case measure=>omega
    exact⟨i+1,Q0,rfl,J5,by rw[<-u.out],N⟩
   have J:=Z3 h2
   by_cases C:o.price<=p
   ·have d3:=V7 C
    have u:=J6 (show E+o.qty=H9 2 p (G7 2 (L.take (i+1))) by rw[j.out,X0 ⟨h1,by unfold VQ;rw[J];simp[C]⟩]);clear h1 h2 C;clear j;go_wp2
    go_roundg (n-(i+1))
    case measure=>omega
    exact⟨i+1,Q0,rfl,J5,by rw[<-u.out],N⟩
   have d3:=V9 C;have u:=J6 (show E=H9 2 p (G7 2 (L.take (i+1))) by rw[j.out,J8 (by rintro⟨-,D⟩;unfold VQ at D;rw[J]at D;simp at D;omega)];omega);clear h1 h2 C;clear j;go_wp2
   go_roundg (n-(i+1))
   case measure=>omega
   exact⟨i+1,Q0,rfl,J5,by rw[<-u.out],N⟩
  have d1:=Z3 h1;have u:=J6 (show E=H9 2 p (G7 2 (L.take (i+1))) by rw[j.out,J8 (by rintro⟨D,-⟩;exact h1 D)];omega);clear h1;clear j;go_wp2
  go_roundg (n-(i+1))
  case measure=>omega
  exact⟨i+1,Q0,rfl,J5,by rw[<-u.out],N⟩
 obtain rfl:i=n:=by omega
 have a7:¬(i:Int)<(i:Int):=Q0;have a5:L.take i=L:=M4 (by rw[HN.out];exact X3 _);rw[a5];go_wp2;go_ret;exact⟨rfl,Z⟩
section
open Go.ChangeMaps
structure DQ(cs:Array Value)(tb bb bk im:Nat)(Ap:Option Addr)(pc:Nat)(m:Z6):Prop where
 sz:cs.size=18
 c4:cs[4]?=some (I O m.tk)
 c5:cs[5]?=some (I O m.mo)
 c6:cs[6]?=some (pA tb)
 c7:cs[7]?=some (pA bb)
 c8:cs[8]?=some (pA bk)
 c12:cs[12]?=some (.slice Ap m.pk.length pc)
 c13:cs[13]?=some (.map (some im))
 c14:cs[14]?=some (I O m.ph)
 c15:cs[15]?=some (I O m.now)
 c16:cs[16]?=some (I O m.ends)
 c17:cs[17]?=some (I O m.lng)
structure NJ(w:World)(own:Nat->Nat->Prop):Prop where
 uni:∀i k k',own i k->own i k'->k=k'
 lt:∀i k,own i k->i<w.heap.size
def KQ(w:World)(own:Nat->Nat->Prop)(N:Nat->Prop)(K:Nat)(i k:Nat):Prop:=own i k\/(w.heap.size<=i/\N i/\k=K)
def U3(w w':World)(own own':Nat->Nat->Prop):Prop:=X4 (fun i=>∃k,own i k) w w'/\∀i k,own' i k->own i k\/w.heap.size<=i
theorem U3.trans{w w1 w2 o o1 o2}(h:U3 w w1 o o1)(k:U3 w1 w2 o1 o2):U3 w w2 o o2:=by
 refine⟨h.1.trans k.1 (fun i⟨n,j⟩=>?_),fun i n j=>?_⟩
 ·obtain e|e:=h.2 i n j
  ·exact .inl ⟨n,e⟩
  exact .inr e
 obtain e|e:=k.2 i n j
 ·exact h.2 i n e
 exact .inr (U4 h.1.size e)
theorem U3.of_below{w w' o}(h:Bz w w'):U3 w w' o o:=⟨B9 h _,fun i k j=>.inl j⟩
abbrev N0:=@U3.of_below
theorem NJ.mono{w w' own}(h:NJ w own)(u:w.heap.size<=w'.heap.size):NJ w' own:=⟨h.uni,fun i k j=>D0 (h.lt i k j) u⟩
theorem NJ.new_{w w' own}(h:NJ w own)(J:w.heap.size<=w'.heap.size){N}(E:∀i,N i->i<w'.heap.size)K:NJ w' (KQ w own N K):=by
 refine⟨fun i k u h1 h2=>?_,fun i k h1=>?_⟩
 ·obtain h1|⟨y,j,c1⟩:=h1
  ·obtain h2|⟨C,D,c2⟩:=h2
   ·exact h.uni i k u h1 h2
   have:=h.lt i k h1;omega
  obtain h2|⟨C,D,c2⟩:=h2
  ·have:=h.lt i u h2;omega
  rw[c1,c2]
 obtain h1|⟨y,j,c1⟩:=h1
 ·exact D0 (h.lt i k h1) J
 exact E i j
structure U8(w:World)(e:Nat)(cs:Array Value)(tb bb bk im:Nat)(T:Option Addr)(tc:Nat)(Al:Option Addr)(lc:Nat)(lv:List Z7)(bu se:Int)(Ap:Option Addr)(pc:Nat)(es:List MapEntry)(mc:Nat)(G:Nat->Prop)(own:Nat->Nat->Prop)(g:Int->Option Int->Int)(m:Z6):Prop where
 ind:KF w e 203 cs 9 Al lc lv bu se
 ec:DQ cs tb bb bk im Ap pc m
 is:UD lv bu se g
 tabl:tb<w.heap.size
 tabc:w.cell? (aD tb 0)=some (.slice T m.rows.length tc)
 tabp:JW w T m.rows.length tc m.rows
 bands:ZU w bb m.st m.dy m.an m.la
 book:JC w bk G m.L1 m.L2
 park:X8 w Ap m.pk.length pc 84 5 (X7 U0 m.pk)
 map_:M6 w im es mc
 keys:DH es
 ids:∀k,JT es k=if k∈m.ids then some (.bool true)else none
 ok:NJ w own
 oe:own e 1
 ot:own tb 2
 oT:∀i,X5 T=some i->own i 2
 ob:own bb 3
 oG:∀i,G i->own i 4
 ol:∀i,X5 Al=some i->own i 5
 op:∀i,X5 Ap=some i->own i 6
 oi:own im 7
def Xt0(w:World)(e:Nat)(F:Nat->Prop)(g:Int->Option Int->Int)(m:Z6):Prop:=
 ∃cs tb bb bk im T tc Al lc lv bu se Ap pc es mc G own,U8 w e cs tb bb bk im T tc Al lc lv bu se Ap pc es mc G own g m/\∀i,F i↔∃k,own i k
def D8(w:World)(e:Nat)(F:Nat->Prop)(m:Z6):Prop:=Xt0 w e F (fun s k=>C4 s k (P1 m)) m
def A5(w w':World)(e:Nat)(F:Nat->Prop)(m:Z6):Prop:=∃F',D8 w' e F' m/\U2 w w' F F'
section
variable {w w':World} {e:Nat} {cs:Array Value} {tb bb bk im:Nat} {T:Option Addr} {tc:Nat} {Al:Option Addr} {lc:Nat} {lv:List Z7} {bu se:Int} {Ap:Option Addr} {pc:Nat} {es:List MapEntry} {mc:Nat} {G:Nat->Prop} {own:Nat->Nat->Prop} {g:Int->Option Int->Int} {m:Z6}
theorem JW.keeps{A n c ps S}(h:JW w A n c ps)(hk:X4 S w w')(J:∀i,X5 A=some i->¬S i):JW w' A n c ps:=by refine⟨h.1,fun E=>?_⟩;obtain⟨b,N,u,j,C⟩:=h.2 E;have y:¬S b:=J b (by rw[u];rfl);exact⟨b,N,u,D0 j hk.size,fun i D=>⟨(hk.cell (p:=(aD b _)) j y).trans (C i D).1,(hk.cell (p:=(aD b _)) j y).trans (C i D).2⟩⟩
theorem U8.cell(h:U8 w e cs tb bb bk im T tc Al lc lv bu se Ap pc es mc G own g m){i v}(j:cs[i]?=some v):w.cell? (aD e i)=some v:=by rw[X9 h.ind.blk];exact j
theorem U8.fit{S:Nat->Prop}(h:U8 w e cs tb bb bk im T tc Al lc lv bu se Ap pc es mc G own g m){K}(j:∀i,S i->own i K){i k}(u:own i k)(hk:k≠K):¬S i:=fun y=>hk (h.ok.uni i k K u (j i y))
theorem U8.keeps{S}(h:U8 w e cs tb bb bk im T tc Al lc lv bu se Ap pc es mc G own g m)(hk:X4 S w w')(j:∀i k,own i k->¬S i):U8 w' e cs tb bb bk im T tc Al lc lv bu se Ap pc es mc G own g m:=
 ⟨h.ind.keeps hk (j _ _ h.oe) (fun i u=>j i _ (h.ol i u)),h.ec,h.is,D0 h.tabl hk.size,(hk.cell (p:=(aD tb 0)) h.tabl (j _ _ h.ot)).trans h.tabc,h.tabp.keeps hk (fun i u=>j i _ (h.oT i u)),V0 h.bands hk (j _ _ h.ob),h.book.keeps hk (fun i u=>j i _ (h.oG i u)),h.park.keeps hk (fun i u=>j i _ (h.op i u)),h.map_.of_block (hk.block _ h.map_.lt (j _ _ h.oi)),h.keys,h.ids,h.ok.mono hk.size,h.oe,h.ot,h.oT,h.ob,h.oG,h.ol,h.op,h.oi⟩
theorem U8.below(h:U8 w e cs tb bb bk im T tc Al lc lv bu se Ap pc es mc G own g m)(i:Bz w w'):U8 w' e cs tb bb bk im T tc Al lc lv bu se Ap pc es mc G own g m:=
 h.keeps (B9 i (fun _=>False)) (fun _ _ _=>id)
theorem Jq9{S N K}(hk:X4 S w w')(u:∀i,S i->own i K):U3 w w' own (KQ w own N K):=
 ⟨hk.mono (fun i j=>⟨K,u i j⟩),fun i k j=>j.imp id (fun x=>x.1)⟩
theorem U8.bookStep{M1 M2 G'}(h:U8 w e cs tb bb bk im T tc Al lc lv bu se Ap pc es mc G own g m)(y:JC w' bk G' M1 M2)(ht:U2 w w' G G'):U8 w' e cs tb bb bk im T tc Al lc lv bu se Ap pc es mc G' (KQ w own G' 4) g {m with L1:=M1,L2:=M2}/\U3 w w' own (KQ w own G' 4):=by
 obtain⟨hk,C⟩:=ht;have f:∀{i k},own i k->k≠4->¬G i:=fun j D=>h.fit h.oG j D
 have n:∀{i k},own i k->KQ w own G' 4 i k:=fun j=>.inl j
 refine⟨⟨h.ind.keeps hk (f h.oe Q1) (fun i j=>f (h.ol i j) Q1),⟨h.ec.sz,h.ec.c4,h.ec.c5,h.ec.c6,h.ec.c7,h.ec.c8,h.ec.c12,h.ec.c13,h.ec.c14,h.ec.c15,h.ec.c16,h.ec.c17⟩,h.is,D0 h.tabl hk.size,(hk.cell (p:=(aD tb 0)) h.tabl (f h.ot Q1)).trans h.tabc,h.tabp.keeps hk (fun i j=>f (h.oT i j) Q1),V0 h.bands hk (f h.ob Q1),y,h.park.keeps hk (fun i j=>f (h.op i j) Q1),h.map_.of_block (hk.block _ h.map_.lt (f h.oi Q1)),h.keys,h.ids,h.ok.new_ hk.size (fun i j=>y.fp j) 4,n h.oe,n h.ot,fun i j=>n (h.oT i j),n h.ob,fun i j=>?_,fun i j=>n (h.ol i j),fun i j=>n (h.op i j),n h.oi⟩,Jq9 hk h.oG⟩;obtain u|u:=C i j
 ·exact n (h.oG i u)
 exact .inr ⟨u,j,rfl⟩
theorem U8.bookTo{M1 M2}(h:U8 w e cs tb bb bk im T tc Al lc lv bu se Ap pc es mc G own g m)(ht:GK w w' bk G M1 M2):∃G' own',U8 w' e cs tb bb bk im T tc Al lc lv bu se Ap pc es mc G' own' g {m with L1:=M1,L2:=M2}/\U3 w w' own own':=by obtain⟨G',i,j⟩:=ht;obtain⟨h1,h2⟩:=h.bookStep i j;exact⟨G',_,h1,h2⟩
theorem U8.indTo{lv' bu' se' g'}(h:U8 w e cs tb bb bk im T tc Al lc lv bu se Ap pc es mc G own g m)(ht:UC w w' e 203 cs 9 Al lv' bu' se')(j:UD lv' bu' se' g'):∃y u E own',U8 w' e y tb bb bk im T tc u E lv' bu' se' Ap pc es mc G own' g' m/\U3 w w' own own':=by
 obtain⟨y,u,E,J,a1,a0,hk,hg⟩:=ht;have f:∀{i k},own i k->k≠1->k≠5->¬(i=e\/X5 Al=some i):=fun j h1 h5 D=>by
  obtain rfl|D:=D
  ·exact h1 (h.ok.uni _ _ _ j h.oe)
  exact h5 (h.ok.uni _ _ _ j (h.ol _ D))
 have n:∀{i k},own i k->KQ w own (fun i=>X5 u=some i) 5 i k:=fun j=>.inl j
 have c:∀i v,cs[i]?=some v->i≠9->i≠10->i≠11->y[i]?=some v:=fun i v hv h9 N Z=>(a0 i h9 N Z).trans hv
 refine⟨y,u,E,KQ w own (fun i=>X5 u=some i) 5,⟨J,⟨a1.trans h.ec.sz,c _ _ h.ec.c4 Q1 Q1 Q1,c _ _ h.ec.c5 Q1 Q1 Q1,c _ _ h.ec.c6 Q1 Q1 Q1,c _ _ h.ec.c7 Q1 Q1 Q1,c _ _ h.ec.c8 Q1 Q1 Q1,c _ _ h.ec.c12 Q1 Q1 Q1,c _ _ h.ec.c13 Q1 Q1 Q1,c _ _ h.ec.c14 Q1 Q1 Q1,c _ _ h.ec.c15 Q1 Q1 Q1,c _ _ h.ec.c16 Q1 Q1 Q1,c _ _ h.ec.c17 Q1 Q1 Q1⟩,j,D0 h.tabl hk.size,(hk.cell (p:=(aD tb 0)) h.tabl (f h.ot Q1 Q1)).trans h.tabc,h.tabp.keeps hk (fun i j=>f (h.oT i j) Q1 Q1),V0 h.bands hk (f h.ob Q1 Q1),h.book.keeps hk (fun i j=>f (h.oG i j) Q1 Q1),h.park.keeps hk (fun i j=>f (h.op i j) Q1 Q1),h.map_.of_block (hk.block _ h.map_.lt (f h.oi Q1 Q1)),h.keys,h.ids,h.ok.new_ hk.size (fun i j=>J.row.lt j) 5,n h.oe,n h.ot,fun i j=>n (h.oT i j),n h.ob,fun i j=>n (h.oG i j),fun i j=>?_,fun i j=>n (h.op i j),n h.oi⟩,hk.mono (fun i j=>?_),fun i k j=>j.imp id (fun x=>x.1)⟩
 ·obtain C|C:=hg i j
  ·exact n (h.ol i C)
  exact .inr ⟨C,j,rfl⟩
 obtain rfl|j:=j
 ·exact⟨1,h.oe⟩
 exact⟨5,h.ol i j⟩
theorem U8.bandsTo{an la}(h:U8 w e cs tb bb bk im T tc Al lc lv bu se Ap pc es mc G own g m)(u:ZU w' bb m.st m.dy an la)(hk:X4 (fun i=>i=bb) w w'):U8 w' e cs tb bb bk im T tc Al lc lv bu se Ap pc es mc G own g {m with an:=an,la:=la}/\U3 w w' own own:=by
 have f:∀{i k},own i k->k≠3->¬i=bb:=fun j y=>h.fit (S:=fun i=>i=bb) (fun i j=>j▸h.ob) j y
 exact⟨⟨h.ind.keeps hk (f h.oe Q1) (fun i j=>f (h.ol i j) Q1),⟨h.ec.sz,h.ec.c4,h.ec.c5,h.ec.c6,h.ec.c7,h.ec.c8,h.ec.c12,h.ec.c13,h.ec.c14,h.ec.c15,h.ec.c16,h.ec.c17⟩,h.is,D0 h.tabl hk.size,(hk.cell (p:=(aD tb 0)) h.tabl (f h.ot Q1)).trans h.tabc,h.tabp.keeps hk (fun i j=>f (h.oT i j) Q1),u,h.book.keeps hk (fun i j=>f (h.oG i j) Q1),h.park.keeps hk (fun i j=>f (h.op i j) Q1),h.map_.of_block (hk.block _ h.map_.lt (f h.oi Q1)),h.keys,h.ids,h.ok.mono hk.size,h.oe,h.ot,h.oT,h.ob,h.oG,h.ol,h.op,h.oi⟩,hk.mono (fun i j=>⟨3,j▸h.ob⟩),fun i k j=>.inl j⟩
theorem U8.cellsTo{cs' m'}(h:U8 w e cs tb bb bk im T tc Al lc lv bu se Ap pc es mc G own g m)(hb:J7 w' e 203 cs')(hk:X4 (fun i=>i=e) w w')(hc:DQ cs' tb bb bk im Ap pc m')(h9:cs'[9]?=cs[9]?)(a0:cs'[10]?=cs[10]?)(a1:cs'[11]?=cs[11]?)(hm:m'.rows=m.rows/\m'.st=m.st/\m'.dy=m.dy/\m'.an=m.an/\m'.la=m.la/\m'.L1=m.L1/\m'.L2=m.L2/\m'.pk=m.pk/\m'.ids=m.ids):U8 w' e cs' tb bb bk im T tc Al lc lv bu se Ap pc es mc G own g m'/\U3 w w' own own:=by
 obtain⟨y,C,D,E,J,N,Z,e8,e9⟩:=hm;have f:∀{i k},own i k->k≠1->¬i=e:=fun j a2=>h.fit (S:=fun i=>i=e) (fun i j=>j▸h.oe) j a2
 have u:=h.ind;refine⟨⟨⟨hb,h9.trans u.c0,a0.trans u.c1,a1.trans u.c2,u.row.keeps hk (fun i j=>f (h.ol i j) Q1),u.na,u.ok⟩,hc,h.is,D0 h.tabl hk.size,?_,?_,?_,?_,?_,h.map_.of_block (hk.block _ h.map_.lt (f h.oi Q1)),h.keys,?_,h.ok.mono hk.size,h.oe,h.ot,h.oT,h.ob,h.oG,h.ol,h.op,h.oi⟩,hk.mono (fun i j=>⟨1,j▸h.oe⟩),fun i k j=>.inl j⟩
 ·rw[y];exact(hk.cell (p:=(aD tb 0)) h.tabl (f h.ot Q1)).trans h.tabc
 ·rw[y];exact h.tabp.keeps hk (fun i j=>f (h.oT i j) Q1)
 ·rw[C,D,E,J];exact V0 h.bands hk (f h.ob Q1)
 ·rw[N,Z];exact h.book.keeps hk (fun i j=>f (h.oG i j) Q1)
 ·rw[e8];exact h.park.keeps hk (fun i j=>f (h.op i j) Q1)
 rw[e9];exact h.ids
theorem U8.at_(h:U8 w e cs tb bb bk im T tc Al lc lv bu se Ap pc es mc G own g m)(j:∀s k,(s=1\/s=2)->g s k=C4 s k (P1 m)):D8 w e (fun i=>∃k,own i k) m:=
 ⟨cs,tb,bb,bk,im,T,tc,Al,lc,lv,bu,se,Ap,pc,es,mc,G,own,⟨h.ind,h.ec,h.is.congr j,h.tabl,h.tabc,h.tabp,h.bands,h.book,h.park,h.map_,h.keys,h.ids,h.ok,h.oe,h.ot,h.oT,h.ob,h.oG,h.ol,h.op,h.oi⟩,fun i=>KL⟩
abbrev MF:=@U8.at_
theorem U3.bstep{F own'}(h:U3 w w' own own')(y:∀i,F i↔∃k,own i k):U2 w w' F (fun i=>∃k,own' i k):=by
 refine⟨h.1.mono (fun i u=>(y i).2 u),fun i⟨k,u⟩=>?_⟩;obtain j|j:=h.2 i k u
 ·exact .inl ((y i).2 ⟨k,j⟩)
 exact .inr j
theorem D8.below{F}(h:D8 w e F m)(u:Bz w w'):D8 w' e F m:=by obtain⟨cs,tb,bb,bk,im,T,tc,Al,lc,lv,bu,se,Ap,pc,es,mc,G,own,j,i⟩:=h;exact⟨cs,tb,bb,bk,im,T,tc,Al,lc,lv,bu,se,Ap,pc,es,mc,G,own,j.below u,i⟩
theorem D8.keeps{F S}(h:D8 w e F m)(hk:X4 S w w')(y:∀i,F i->¬S i):D8 w' e F m:=by obtain⟨cs,tb,bb,bk,im,T,tc,Al,lc,lv,bu,se,Ap,pc,es,mc,G,own,u,j⟩:=h;exact⟨cs,tb,bb,bk,im,T,tc,Al,lc,lv,bu,se,Ap,pc,es,mc,G,own,u.keeps hk (fun i k C=>y i ((j i).2 ⟨k,C⟩)),j⟩
theorem D8.lt{F}(h:D8 w e F m){i}(y:F i):i<w.heap.size:=by obtain⟨cs,tb,bb,bk,im,T,tc,Al,lc,lv,bu,se,Ap,pc,es,mc,G,own,u,j⟩:=h;obtain⟨k,hk⟩:=(j i).1 y;exact u.ok.lt i k hk
theorem A5.same{F}(h:D8 w e F m)(i:Bz w w'):A5 w w' e F m:=⟨F,h.below i,S5 i⟩
abbrev LQ:=@A5.same
theorem A5.then_{F w''}(h:A5 w w' e F m)(i:Bz w' w''):A5 w w'' e F m:=by obtain⟨F',h1,h2⟩:=h;exact⟨F',h1.below i,h2.trans (S5 i)⟩
