/- Parts. -/
import Derived.Test.YtnlngicnfegjgaaGreatDoorZq45
set_option linter.unusedVariables false
set_option maxRecDepth 100000
set_option maxHeartbeats 8000000
open Go.Proofs.Tryz
open Go.Value renaming int→I,pointer→IP
open Go.IntKind renaming i64→O
namespace Go.Proofs.YtnlngicnfegjgaaGreatDoor
open Go.RowKit
abbrev Zd:=Int×Q8
def Ao (x:Zd):List Value:=I O x.1::X9 x.2
def Qc (x:Zd):Array Value:= #[I O x.1,I O x.2.id,I O x.2.side,I O x.2.kind,I O x.2.price,I O x.2.qty]
theorem Jj7 {w b off len l} (h:V4 w Ao 6 (some ⟨b,off,none⟩) len l) {i} (u:i<l.length):
  w.cell? ⟨b,off+i*6,none⟩=some (I O l[i].1)/\w.cell? ⟨b,off+i*6+1,none⟩=some (I O l[i].2.id)/\w.cell? ⟨b,off+i*6+2,none⟩=some (I O l[i].2.side)/\w.cell? ⟨b,off+i*6+3,none⟩=some (I O l[i].2.kind)/\w.cell? ⟨b,off+i*6+4,none⟩=some (I O l[i].2.price)/\w.cell? ⟨b,off+i*6+5,none⟩=some (I O l[i].2.qty):=
 ⟨h.at_ u (j:=0) rfl,h.at_ u (j:=1) rfl,h.at_ u (j:=2) rfl,h.at_ u (j:=3) rfl,h.at_ u (j:=4) rfl,h.at_ u (j:=5) rfl⟩
theorem RN {w X t x} (h:Q1 w X t (Qc x)):w.cell? ⟨X,0,none⟩=some (I O x.1)/\w.cell? ⟨X,1,none⟩=some (I O x.2.id)/\w.cell? ⟨X,2,none⟩=some (I O x.2.side)/\w.cell? ⟨X,3,none⟩=some (I O x.2.kind)/\w.cell? ⟨X,4,none⟩=some (I O x.2.price)/\w.cell? ⟨X,5,none⟩=some (I O x.2.qty):=
 ⟨by rw[J0 h];rfl,by rw[J0 h];rfl,by rw[J0 h];rfl,by rw[J0 h];rfl,by rw[J0 h];rfl,by rw[J0 h];rfl⟩
structure CU (w0 w:World) (e R:Nat) (F F':Nat->Prop) (me mr:X7):Prop where
 eng:C3 w e F me
 ref:D7 w R F' mr
 bel:Below w0.heap.size w0 w
 fl: ∀i,F i->w0.heap.size<=i
 fl': ∀i,F' i->w0.heap.size<=i
 ap: ∀i,F i-> ¬F' i
structure KC (w0 w:World) (e R X:Nat) (xs:Array Value) (F F':Nat->Prop) (me mr:X7):Prop where
 duo:CU w0 w e R F F' me mr
 box:Q1 w X 66 xs
 nx: ¬F X
 nx': ¬F' X
section
variable {w0 w w':World} {e R X:Nat} {xs:Array Value} {F F':Nat->Prop} {me mr:X7}
theorem CU.below (h:CU w0 w e R F F' me mr) (i:Below w.heap.size w w'):CU w0 w' e R F F' me mr:=
 ⟨h.eng.below i,h.ref.below i,h.bel.trans (i.mono h.bel.size),h.fl,h.fl',h.ap⟩
theorem KC.below (h:KC w0 w e R X xs F F' me mr) (i:Below w.heap.size w w'):KC w0 w' e R X xs F F' me mr:=
 ⟨h.duo.below i,J4 h.box i,h.nx,h.nx'⟩
theorem CU.boxed (h:CU w0 w e R F F' me mr) xs:KC w0 (w.alloc (.cells xs 66)) e R w.heap.size xs F F' me mr:=
 ⟨h.below ((Q2 _ _).alloc (Q4 _) _),J9 _ _ _,fun i=>YK _ (h.eng.lt i),fun i=>YK _ (h.ref.lt i)⟩
theorem CU.engStep {F1 m} (h:CU w0 w e R F F' me mr) (h1:C3 w' e F1 m) (ht:Z3 w w' F F1):CU w0 w' e R F1 F' m mr:=by
 obtain⟨hk,v⟩:=ht
 have y:=h.bel.size
 refine⟨h1,h.ref.keeps hk (fun i j u=>h.ap i u j),h.bel.trans (hk.below h.fl h.bel.size),fun i j=> ?_,h.fl',fun i j u=> ?_⟩
 ·rcases v i j with h2|h2
  ·exact h.fl i h2
  omega
 rcases v i j with h2|h2
 ·exact h.ap i h2 u
 have:=h.ref.lt u;omega
theorem CU.refStep {F1 m} (h:CU w0 w e R F F' me mr) (h1:D7 w' R F1 m) (ht:Z3 w w' F' F1):CU w0 w' e R F F1 me m:=by
 obtain⟨hk,v⟩:=ht
 have y:=h.bel.size
 refine⟨h.eng.keeps hk (fun i j u=>h.ap i j u),h1,h.bel.trans (hk.below h.fl' h.bel.size),h.fl,fun i j=> ?_,fun i j u=> ?_⟩
 ·rcases v i j with h2|h2
  ·exact h.fl' i h2
  omega
 rcases v i u with h2|h2
 ·exact h.ap i j h2
 have:=h.eng.lt j;omega
theorem KC.engStep {F1 m} (h:KC w0 w e R X xs F F' me mr) (h1:C3 w' e F1 m) (ht:Z3 w w' F F1):KC w0 w' e R X xs F1 F' m mr:=by
 have j:=J5 h.box
 refine⟨h.duo.engStep h1 ht,X0 h.box ht.1 h.nx,fun i=> ?_,h.nx'⟩
 rcases ht.2 X i with h2|h2
 ·exact h.nx h2
 omega
theorem KC.refStep {F1 m} (h:KC w0 w e R X xs F F' me mr) (h1:D7 w' R F1 m) (ht:Z3 w w' F' F1):KC w0 w' e R X xs F F1 me m:=by
 have j:=J5 h.box
 refine⟨h.duo.refStep h1 ht,X0 h.box ht.1 h.nx',h.nx,fun i=> ?_⟩
 rcases ht.2 X i with h2|h2
 ·exact h.nx' h2
 omega
theorem KC.engTo {m} (h:KC w0 w e R X xs F F' me mr) (ht:C0 w w' e F m): ∃i,KC w0 w' e R X xs i F' m mr:=by
 obtain⟨i,h1,h2⟩:=ht
 exact⟨i,h.engStep h1 h2⟩
theorem KC.refTo {m} (h:KC w0 w e R X xs F F' me mr) (ht:C9 w w' R F' m): ∃i,KC w0 w' e R X xs F i me m:=by
 obtain⟨i,h1,h2⟩:=ht
 exact⟨i,h.refStep h1 h2⟩
theorem KC.fillsR {P m E ev} (h:KC w0 w e R X xs F F' me mr) (ht:XZ w w' R F' P m E ev):
  ∃A c Fs,ev= .returned (.tuple #[.slice A (List.length Fs) c,I O E])/\P Fs/\J2 w' A Fs.length c 89 4 (Q9 D8 Fs)/\(∀g,Q7 A=some g-> ¬F g)/\ ∃i,KC w0 w' e R X xs F i me m:=by
 obtain⟨A,c,Fs,h1,h2,j,C,i,D,y,J⟩:=ht
 exact⟨A,c,Fs,h1,h2,j,fun g v u=>by have a:=C g v;have b:=h.duo.eng.lt u;omega,i,h.refStep D y⟩
theorem KC.fillsE {P m E ev A2 n2 c2 xs2} (h:KC w0 w e R X xs F F' me mr) (ht:UQ w w' e F P m E ev) (C:J2 w A2 n2 c2 89 4 xs2) (v: ∀g,Q7 A2=some g-> ¬F g):
  ∃A c Fs,ev= .returned (.tuple #[.slice A (List.length Fs) c,U0 E])/\P Fs/\J2 w' A Fs.length c 89 4 (Q9 D8 Fs)/\J2 w' A2 n2 c2 89 4 xs2/\ ∃i,KC w0 w' e R X xs i F' m mr:=by
 obtain⟨A,c,Fs,h1,h2,u,J,i,y,j,D⟩:=ht
 exact⟨A,c,Fs,h1,h2,u,C.keeps j.1 v,i,h.engStep y j⟩
end
theorem Li m:(ZR m).ids=m.ids:=by
 obtain⟨y,e2,U,N,J,Z,j,u,i,D,C,v,E⟩:=LH m.pk {m with ph:=5}
 exact i
theorem Qw7 m o:(N9 m o).ids.length<=m.ids.length+1:=by
 unfold N9
 split
 ·have u:(Y6 m (V3 o)).ids.length=m.ids.length+1:=by unfold Y6;simp
  obtain⟨M,j⟩:=exq (Y6 m (V3 o));rw[j]at u|-;have h1:(ZM M (V3 o)).ids=M.ids:=by
   unfold ZM
   split
   ·rfl
   split
   ·rfl
   have i:(C5 M (V3 o)).ids=M.ids:=by
    unfold C5
    split<;>rfl
   unfold M3
   split
   ·exact i
   exact i
  rw[h1];omega
 omega
theorem Qn4 m id:(N4 m id).ids=m.ids:=by
 unfold N4
 split
 ·rfl
 split<;>rfl
theorem Jf5 m:(XY m).ids=m.ids/\(XY m).now=m.now:=by
 unfold XY;split<;>exact⟨rfl,rfl⟩
theorem Jf6 m:(QR m).ids=m.ids/\(QR m).now=m.now:=by
 unfold QR
 split
 ·split
  ·exact⟨rfl,rfl⟩
  split
  ·exact⟨Li m,(LH m.pk {m with ph:=5}).2.2.2.2.2.2.2.2.2.2.1⟩
  exact⟨rfl,rfl⟩
 exact⟨rfl,rfl⟩
theorem Qw8 m p:(JZ m p).ids=m.ids:=by
 unfold JZ
 split
 ·rfl
 split
 ·exact Li m
 rfl
theorem Qn5 m:(QU m).ids=m.ids:=by
 unfold QU
 split
 ·rfl
 split<;>rfl
theorem Jf7 m:(N5 m).ids=m.ids:=by
 unfold N5
 split
 ·rfl
 unfold W7
 split
 ·split<;>rfl
 split
 ·rfl
 split
 ·exact Qw8 _ _
 split
 ·exact Qn5 _
 rfl
theorem Aq {m} (h:B9 m) {F} (i:QW m F):F.length<=1000000000:=by
 unfold QW at i
 split at i
 ·rename_i u
  obtain⟨h1,-,-,-⟩:=RC h.ls h.la u;have h2:=WQ (s:=1) (p:=(P5 m).1) (L:=m.L1) (fun o v=>(h.ls.ok o (S9 _ v)).2.2.2);have j:=h.ls.cnt;have y:=i.1.len;rw[Y9]at j;omega
 subst i;simp
theorem Jf8 {m} (h:B9 m) {F} (i:AV m F):F.length<=1000000000:=by
 have j:=h.next
 unfold AV at i
 split at i
 ·subst i;simp
 unfold QP at i
 split at i
 ·split at i
  ·exact Aq j i
  subst i;simp
 split at i
 ·subst i;simp
 split at i
 ·unfold ZA at i
  split at i
  ·exact Aq j i
  subst i;simp
 split at i
 ·unfold KU at i
  split at i
  ·exact Aq j i
  subst i;simp
 subst i;simp
theorem Qw9 {m} (h:B9 m) o:(UJ m o).length<=1000000000:=by
 unfold UJ
 split
 ·unfold UM
  split
  ·simp
  split
  ·simp
  have i:B8 (Y6 m (V3 o)).L1 (Y6 m (V3 o)).L2:=h.ls;have:=Yw i (V3 o);omega
 simp
def XJ (m:X7) (k:Nat):Prop:=B9 m/\0<=m.now/\m.now<=k/\m.ids.length<=k
theorem XJ.in_ {m k} (h:XJ m k) (hk:k<=150):VD m:=h.1.in_ ⟨h.2.1,by have:=h.2.2.1;omega⟩
theorem XJ.next {m k} (h:XJ m k) (hk:k<=150):VD (K0 m):=h.1.next.in_ ⟨by have:=h.2.1;show 0<=m.now+1;omega,by have:=h.2.2.1;show m.now+1<=1000000000000;omega⟩
theorem XJ.order {m k} (h:XJ m k) {o} (i:R9 o) (j:B8 (N9 m o).L1 (N9 m o).L2):XJ (N9 m o) (k+1):=by
 obtain⟨h1,h2,u,v⟩:=h
 have C:=(Uc m o).2.1
 have y:=Qw7 m o
 exact⟨h1.order i j,by omega,by omega,by omega⟩
theorem XJ.cancel {m k} (h:XJ m k) id (j:B8 (N4 m id).L1 (N4 m id).L2):XJ (N4 m id) (k+1):=by
 obtain⟨h1,h2,u,v⟩:=h
 have y:=(Vp m id).2.1
 have i:=Qn4 m id
 exact⟨h1.cancel id j,by omega,by omega,by rw[i];omega⟩
theorem XJ.halt {m k} (h:XJ m k):XJ (XY m) (k+1):=by
 obtain⟨h1,h2,j,u⟩:=h
 obtain⟨i,v⟩:=Jf5 m
 exact⟨h1.halt,by omega,by omega,by rw[i];omega⟩
theorem XJ.open_ {m k} (h:XJ m k) (j:B8 (QR m).L1 (QR m).L2):XJ (QR m) (k+1):=by
 obtain⟨h1,h2,u,v⟩:=h
 obtain⟨i,y⟩:=Jf6 m
 exact⟨h1.open_ j,by omega,by omega,by rw[i];omega⟩
theorem XJ.tick {m k} (h:XJ m k) (u:B8 (N5 m).L1 (N5 m).L2):XJ (N5 m) (k+1):=by
 obtain⟨h1,h2,v,y⟩:=h
 have i:=Jf7 m
 have j:=Yv m
 have C:(N5 m).now=m.now\/(N5 m).now=m.now+1:=by
  rw[j]
  split
  ·exact .inl rfl
  exact .inr rfl
 exact⟨h1.tick u,by omega,by omega,by rw[i];omega⟩
theorem XJ.up {m k} (h:XJ m k):XJ m (k+1):=by
 obtain⟨h1,h2,i,j⟩:=h
 exact⟨h1,h2,by omega,by omega⟩
def Re (w0 w:World) (e R k:Nat):Prop:= ∃F F' m,CU w0 w e R F F' m m/\XJ m k
def Rf (w0 w:World) (e R X k:Nat) (x:Zd):Prop:= ∃F F' m,KC w0 w e R X (Qc x) F F' m m/\XJ m k
def Ze (ps:List (Int×Int)) (st dy p tk mo:Int) (w w':World) (ev ee:Value) (n pl:Int):Prop:=
 (n≠0/\ev= .pointer none/\FU w' ee n pl)\/(n=0/\pl= -1/\ee= .nilIface/\ ∃E F,ev= IP (some ⟨E,0,none⟩)/\C3 w' E F (CE ps st dy p tk mo)/\ ∀i,F i->w.heap.size<=i)
def ME (ps:List (Int×Int)) (st dy p tk mo:Int) (T:Option Addr) (w w':World) (rv:Value) (n:Int):Prop:=
 (n≠0/\rv= .pointer none)\/(n=0/\ ∃R F,rv= IP (some ⟨R,0,none⟩)/\D7 w' R F (CE ps st dy p tk mo)/\ ∀i,F i->w.heap.size<=i\/Q7 T=some i)
theorem Qx0 A len cap ps st dy p i j w (h:T4 w A len cap ps) (N:len<=9223372036854775807):
  Calls prog 15 #[.agg #[.slice A len cap,I O st,I O dy,I O p,I O i,I O j]] w fun e w'=> ∃J D n pl,e= .returned (.tuple #[J,D])/\Below w.heap.size w w'/\UV ps st dy p i j n pl/\Ze ps st dy p i j w w' J D n pl:=by
 refine(Je7 A len cap ps st dy p i j w h N).mono ?_
 rintro e w' ⟨C,⟨v,n,pl,h1,h2,u,y⟩|⟨h1,E,F,h2,u,y⟩⟩
 ·exact⟨_,_,n,pl,h1,C,y,.inl ⟨u,rfl,h2⟩⟩
 exact⟨_,_,0,-1,h2,C,h1,.inr ⟨rfl,rfl,rfl,E,F,rfl,u,y⟩⟩
theorem Uz {n pl} T len tc ps st dy p i j w (h:T4 w T len tc ps) (D:len<=60) (J: ∀g,Q7 T=some g->g<w.heap.size) (C:UV ps st dy p i j n pl):
  Calls prog 16 #[.slice T len tc,I O st,I O dy,I O p,I O i,I O j] w fun e w'=> ∃v,e= .returned (.tuple #[v,.agg #[I O n,I O pl]])/\Below w.heap.size w w'/\ME ps st dy p i j T w w' v n:=by
 refine(Jf2 T len tc ps st dy p i j w h D J).mono ?_
 rintro e w' ⟨y,⟨N,U,h1,h2,u⟩|⟨h1,R,F,h2,u,E⟩⟩
 ·obtain⟨rfl,rfl⟩:=Lg C u
  exact⟨_,h1,y,.inl ⟨h2,rfl⟩⟩
 obtain⟨rfl,rfl⟩:=Lg C h1
 exact⟨_,h2,y,.inr ⟨rfl,R,F,rfl,u,E⟩⟩
theorem Ze.below {ps st dy p tk mo w w1 w2 ev ee n pl} (h:Ze ps st dy p tk mo w w1 ev ee n pl) (j:Below w1.heap.size w1 w2):Ze ps st dy p tk mo w w2 ev ee n pl:=by
 rcases h with⟨h1,h2,i⟩|⟨h1,h2,i,E,F,u,v,y⟩
 ·exact .inl ⟨h1,h2,i.below j⟩
 exact .inr ⟨h1,h2,i,E,F,u,v.below j,y⟩
theorem ME.below {ps st dy p tk mo T w w1 w2 rv n} (h:ME ps st dy p tk mo T w w1 rv n) (u:Below w1.heap.size w1 w2):ME ps st dy p tk mo T w w2 rv n:=by
 rcases h with⟨h1,h2⟩|⟨h1,R,F,i,j,v⟩
 ·exact .inl ⟨h1,h2⟩
 exact .inr ⟨h1,R,F,i,j.below u,v⟩
def LK (ps:List (Int×Int)) (st dy p tk mo:Int) (w0 w':World) (rv:Value) (n:Int):Prop:=
 (n≠0/\rv= .pointer none)\/(n=0/\ ∃R F,rv= IP (some ⟨R,0,none⟩)/\D7 w' R F (CE ps st dy p tk mo)/\ ∀i,F i->w0.heap.size<=i)
theorem ME.old {ps st dy p tk mo T w0 w w1 w2 g rv n} (h:ME ps st dy p tk mo T w w1 rv n) (J:w0.heap.size<=w.heap.size) (v: ∀i,Q7 T=some i->w0.heap.size<=i/\i≠g) (N:g<w.heap.size) (hk:Q6 (fun i=>i=g) w1 w2):LK ps st dy p tk mo w0 w2 rv n:=by
 rcases h with⟨h1,h2⟩|⟨h1,R,F,D,E,y⟩
 ·exact .inl ⟨h1,h2⟩
 refine .inr ⟨h1,R,F,D,E.keeps hk (fun i u e=> ?_),fun i u=> ?_⟩
 ·have C:i=g:=e
  rcases y i u with j|j
  ·omega
  exact(v i j).2 C
 rcases y i u with j|j
 ·omega
 exact(v i j).1
theorem ME.new_ {ps st dy p tk mo T w0 w w1 w2 w3 g rv n} (h:ME ps st dy p tk mo T w w1 rv n) (N:w0.heap.size<=w.heap.size) (D: ∀i,Q7 T=some i->w0.heap.size<=i) (C:Below w1.heap.size w1 w2) (U:w1.heap.size<=g) (hk:Q6 (fun i=>i=g) w2 w3):LK ps st dy p tk mo w0 w3 rv n:=by
 rcases h with⟨h1,h2⟩|⟨h1,R,F,y,v,E⟩
 ·exact .inl ⟨h1,h2⟩
 refine .inr ⟨h1,R,F,y,(v.below C).keeps hk (fun i j e=> ?_),fun i j=> ?_⟩
 ·have J:i=g:=e
  have:=v.lt j;omega
 rcases E i j with u|u
 ·omega
 exact D i u
theorem LK.below {ps st dy p tk mo w0 w1 w2 rv n} (h:LK ps st dy p tk mo w0 w1 rv n) (u:Below w1.heap.size w1 w2):LK ps st dy p tk mo w0 w2 rv n:=by
 rcases h with⟨h1,h2⟩|⟨h1,R,F,i,j,v⟩
 ·exact .inl ⟨h1,h2⟩
 exact .inr ⟨h1,R,F,i,j.below u,v⟩
theorem Qx1 a b c w:(binOp .neq 83 (.agg #[.int .i64 a,.int .i64 b,.int .i64 c]) (.agg #[.int .i64 a,.int .i64 b,.int .i64 c])).run prog w= .ok (.bool false) w:=by
 have j:prog.underlying 83=some (.struct (prog.fieldsOf 83)):=by kernel_rfl
 have i:prog.stoodInHeld 83=false:=by kernel_rfl
 have u:prog.underlying 3=some (.int .i64):=VN
 rw[run_neq_struct,run_equalIn_agg _ _ _ _ _ j i]
 simp[Program.fieldsOf,underlying83,Op.eqFields,go_sem,u]
theorem D7.side {w R F m} (h:D7 w R F m) sd (v:Z4 sd):
  Calls prog 33 #[IP (some ⟨R,7,none⟩),I O sd] w fun e w'=>Below w.heap.size w w'/\ ∃A' c',e= .returned (.slice A' (X6 sd m.L1 m.L2).length c')/\J2 w' A' (X6 sd m.L1 m.L2).length c' 29 5 (Q9 X9 (X6 sd m.L1 m.L2)):=by
 obtain⟨cs,T,tc,AL,Ap,pc,Ai,ic,own,L,i,y⟩:=h
 rw[i.twin.side v]
 refine(Hc i.bk (by have:=i.few;omega) sd (fun o u=> ?_)).mono ?_
 ·have h1:=(i.twin.ok o (P3.1 u).1).1.2.2.1
  omega
 rintro e w' ⟨h1,A',c',h2,j,-⟩
 exact⟨h1,A',c',h2,j⟩
theorem D7.cmp {w R F m} (h:D7 w R F m): ∃Ap pc,J2 w Ap m.pk.length pc 29 5 (Q9 X9 m.pk)/\ ∀W,Below w.heap.size w W->W.cell? ⟨R,10,none⟩=some (I O m.ph)/\W.cell? ⟨R,11,none⟩=some (I O m.now)/\W.cell? ⟨R,3,none⟩=some (I O m.an)/\W.cell? ⟨R,4,none⟩=some (I O m.la)/\W.cell? ⟨R,8,none⟩=some (.slice Ap m.pk.length pc):=by
 obtain⟨cs,T,tc,AL,Ap,pc,Ai,ic,own,L,i,u⟩:=h
 refine⟨Ap,pc,i.park,fun W j=> ?_⟩
 have i:=i.below j
 exact⟨i.cell i.rc.c10,i.cell i.rc.c11,i.cell i.rc.c3,i.cell i.rc.c4,i.cell i.rc.c8⟩
theorem SK {w w' A n c P} (h:J2 w A n c 29 5 (Q9 X9 P)) (i:Below w.heap.size w w'):V4 w' X9 5 A n P:=(VV H6 (by omega) h).below i (Q4 _)
