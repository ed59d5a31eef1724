/- Parts. -/
import Derived.Test.YtnlngicnfegjgaaGreatDoorZq1
set_option linter.unusedVariables false
set_option maxRecDepth 100000
set_option maxHeartbeats 8000000
open Go.Proofs.Tryz
open Go.Value renaming int→I,pointer→IP
open Go.IntKind renaming i64→O
namespace Go.Proofs.YtnlngicnfegjgaaGreatDoor
open Go.RowKit
def U8 (p:X4):Int:=min p.2.1 p.2.2
def AK (p:X4):Int:=max (p.2.1-p.2.2) (p.2.2-p.2.1)
def UU (p:X4):Prop:=(-1099511627776<=p.1/\p.1<=1099511627776)/\(-1099511627776<=p.2.1/\p.2.1<=1099511627776)/\(-1099511627776<=p.2.2/\p.2.2<=1099511627776)
def AA (w:World) (S:Nat->Prop) (g:FuncId) (lb:Array Value) (F:X4->Int):Prop:=
 ∀W p,Q6 S w W->UU p->Calls prog g (#[QX p]++lb) W fun e w'=>e= .returned (I O (F p))/\Below W.heap.size W w'
def WP (w:World) (S:Nat->Prop) (g:FuncId) (lb:Array Value) (F:X4->Bool):Prop:=
 ∀W p,Q6 S w W->UU p->Calls prog g (#[QX p]++lb) W fun e w'=>e= .returned (.bool (F p))/\Below W.heap.size W w'
section
variable {w:World} {S:Nat->Prop}
theorem AA.later {w1 g lb F S'} (h:AA w S g lb F) (hk:Q6 S' w w1) (j: ∀i,S' i->S i):AA w1 S g lb F:=
 fun W p u hp=>h W p ((hk.mono j).trans u (fun _ h=> .inl h)) hp
end
theorem Vs p w:Calls prog 144 #[QX p] w fun e w'=>e= .returned (I O (U8 p))/\Below w.heap.size w w':=by
 obtain⟨a,b,c⟩:=p
 unfold QX U8
 dsimp only
 go_enter func144,ntmps144
 go_wp2
 all_goals
  go_ret;exact⟨T3 (by omega),(Q2 _ _).alloc (Q4 _) _⟩
theorem Qx7 p (hp:UU p) w:Calls prog 145 #[QX p] w fun e w'=>e= .returned (I O (AK p))/\Below w.heap.size w w':=by
 obtain⟨a,b,c⟩:=p
 obtain⟨⟨_,_⟩,⟨_,_⟩,⟨_,_⟩⟩:=hp
 unfold QX AK
 dsimp only at*
 go_enter func145,ntmps145
 go_wp2
 all_goals
  go_ret;exact⟨T3 (by omega),(Q2 _ _).alloc (Q4 _) _⟩
theorem Qo1 w S:AA w S 144 #[] U8:=fun W p _ _=>Vs p W
theorem Qx8 w S:AA w S 154 #[] (fun p=>p.1):=by
 rintro W ⟨a,b,c⟩ _ _
 show Calls prog 154 #[.agg #[I O a,I O b,I O c]] W _
 go_enter func154,ntmps154
 go_wp2
 go_ret
 exact⟨rfl,(Q2 _ _).alloc (Q4 _) _⟩
theorem Qx9 w S:AA w S 155 #[] (fun p=> -p.1):=by
 rintro W ⟨a,b,c⟩ _ ⟨⟨_,_⟩,⟨_,_⟩,⟨_,_⟩⟩
 show Calls prog 155 #[.agg #[I O a,I O b,I O c]] W _
 dsimp only at*
 go_enter func155,ntmps155
 go_wp2
 go_ret
 exact⟨rfl,(Q2 _ _).alloc (Q4 _) _⟩
theorem Qo2 w S:AA w S 157 #[] (fun p=> -p.1):=by
 rintro W ⟨a,b,c⟩ _ ⟨⟨_,_⟩,⟨_,_⟩,⟨_,_⟩⟩
 show Calls prog 157 #[.agg #[I O a,I O b,I O c]] W _
 dsimp only at*
 go_enter func157,ntmps157
 go_wp2
 go_ret
 exact⟨rfl,(Q2 _ _).alloc (Q4 _) _⟩
theorem Jj9 w S i r (C: -1099511627776<=r/\r<=1099511627776) (y:Q1 w i 3 #[I O r]) (u: ¬S i):
  AA w S 156 #[IP (some ⟨i,0,none⟩)] (fun p=> -max (p.1-r) (r-p.1)):=by
 rintro W ⟨a,b,c⟩ v ⟨⟨_,_⟩,⟨_,_⟩,⟨_,_⟩⟩
 obtain⟨_,_⟩:=C
 have j:=X0 y v u
 have E:=J5 j
 have D:(W.alloc (.cells #[I O a,I O b,I O c] 244)).cell? ⟨i,0,none⟩=some (I O r):=by rw[J0 (G7 j _)];rfl
 show Calls prog 156 #[.agg #[I O a,I O b,I O c],IP (some ⟨i,0,none⟩)] W _
 dsimp only at*
 go_enter func156,ntmps156
 go_wp2
 all_goals
  go_ret;exact⟨T3 (by omega),(Q2 _ _).alloc (Q4 _) _⟩
theorem Jg0 w S i (y:Q1 w i 245 #[.func (.func 145) #[] #[]]) (v: ¬S i):
  AA w S 150 #[IP (some ⟨i,0,none⟩)] (fun p=> -AK p):=by
 rintro W ⟨a,b,c⟩ N hp
 have u:=X0 y N v
 have a0:=J5 u
 have D: -2199023255552<=AK (a,b,c)/\AK (a,b,c)<=2199023255552:=by
  obtain⟨⟨_,_⟩,⟨_,_⟩,⟨_,_⟩⟩:=hp;unfold AK;dsimp only at*;omega
 obtain⟨_,_⟩:=D
 have z0:(W.alloc (.cells #[I O a,I O b,I O c] 244)).cell? ⟨i,0,none⟩=some (.func (.func 145) #[] #[]):=by rw[J0 (G7 u _)];rfl
 have j:=Qx7 (a,b,c) hp
 obtain⟨L,E⟩: ∃L,Hid (AK (a,b,c)=L):=⟨_,rfl⟩
 rw[E.out]at j
 rename_i J U
 rw[E.out]at J U
 have Z:=Q0 j
 clear j
 show Calls prog 150 #[.agg #[I O a,I O b,I O c],IP (some ⟨i,0,none⟩)] W _
 go_enter func150,ntmps150
 go_wp2_with fail
 refine(Z _).mono ?_
 rintro e w1 ⟨rfl,C⟩
 go_wp2
 go_ret
 exact⟨T3 (by rw[E.out]),((Q2 _ _).alloc (Q4 _) _).trans (C.mono (by simp))⟩
theorem BU {w w'} (i:Below w.heap.size w w') {p v} (h:w.cell? p=some v):w'.cell? p=some v:=(i.cell (V6 w p h)).trans h
theorem Qo3 {w0 W w w' S p1 p2 p3 p4 p5 v1 v2 v3 v4 v5} (i:Below w.heap.size w w')
  (h:(Q6 S w0 w/\Below W.heap.size W w)/\w.cell? p1=some v1/\w.cell? p2=some v2/\w.cell? p3=some v3/\w.cell? p4=some v4/\w.cell? p5=some v5):
  (Q6 S w0 w'/\Below W.heap.size W w')/\w'.cell? p1=some v1/\w'.cell? p2=some v2/\w'.cell? p3=some v3/\w'.cell? p4=some v4/\w'.cell? p5=some v5:=
 ⟨⟨h.1.1.then_ i,h.1.2.trans (i.mono h.1.2.size)⟩,BU i h.2.1,BU i h.2.2.1,BU i h.2.2.2.1,BU i h.2.2.2.2.1,BU i h.2.2.2.2.2⟩
theorem Jg1 w S j i g lb F most (eg: ∀J w,(callFunc g J).run prog w= .ok (.enter g J) w) (E:AA w S g lb F)
  (D:Q1 w j 245 #[.func (.func g) #[] lb]) (y:Q1 w i 3 #[I O most]) (a2: ¬S j) (a0: ¬S i):
  WP w S 149 #[IP (some ⟨j,0,none⟩),IP (some ⟨i,0,none⟩)] (fun p=>F p != most):=by
 rintro W ⟨a,b,c⟩ u hp
 have U:=X0 D u a2
 have N:=X0 y u a0
 have C:Below W.heap.size W (W.alloc (.cells #[I O a,I O b,I O c] 244)):=(Q2 _ _).alloc (Q4 _) _
 have hK:=u.then_ C.drew
 have Z:=C.drew
 have v:=J9 W 244 #[I O a,I O b,I O c]
 have z0:(W.alloc (.cells #[I O a,I O b,I O c] 244)).drew.cell? ⟨j,0,none⟩=some (.func (.func g) #[] lb):=by rw[J0 (Z2 (G7 U _))];rfl
 have z1:(W.alloc (.cells #[I O a,I O b,I O c] 244)).drew.cell? ⟨i,0,none⟩=some (I O most):=by rw[J0 (Z2 (G7 N _))];rfl
 have y0:(W.alloc (.cells #[I O a,I O b,I O c] 244)).drew.cell? ⟨W.heap.size,0,none⟩=some (I O a):=by rw[J0 (Z2 v)];rfl
 have y1:(W.alloc (.cells #[I O a,I O b,I O c] 244)).drew.cell? ⟨W.heap.size,1,none⟩=some (I O b):=by rw[J0 (Z2 v)];rfl
 have y2:(W.alloc (.cells #[I O a,I O b,I O c] 244)).drew.cell? ⟨W.heap.size,2,none⟩=some (I O c):=by rw[J0 (Z2 v)];rfl
 have HF:=Q0 E
 have Hm:=Q0 y
 clear E D y U N v C u
 show Calls prog 149 #[.agg #[I O a,I O b,I O c],IP (some ⟨j,0,none⟩),IP (some ⟨i,0,none⟩)] W _
 go_enter func149,ntmps149
 go_wp2_with fail
 go_region_held3 (fun w'=>(Q6 S w w'/\Below W.heap.size W w')/\w'.cell? ⟨j,0,none⟩=some (.func (.func g) #[] lb)/\w'.cell? ⟨i,0,none⟩=some (I O most)/\w'.cell? ⟨W.heap.size,0,none⟩=some (I O a)/\w'.cell? ⟨W.heap.size,1,none⟩=some (I O b)/\w'.cell? ⟨W.heap.size,2,none⟩=some (I O c))
  (first|exact⟨⟨hK,Z⟩,z0,z1,y0,y1,y2⟩|assumption|exact Qo3 a1 (by assumption))
  ((go_at_fn g;refine(HF _ (a,b,c) (And.left (And.left (by assumption))) hp).mono ?_;rintro e w1 ⟨rfl,a1⟩))
 go_wp2
 go_ret
 exact⟨rfl,And.right (And.left (by assumption))⟩
theorem Jg2 w S sb i (C:i=1\/i= -1) (u:Q1 w sb 3 #[I O i]) (y: ¬S sb):
  WP w S 153 #[IP (some ⟨sb,0,none⟩)] (fun p=>decide ((p.2.1-p.2.2)*i<=0)):=by
 rintro W ⟨a,b,c⟩ v ⟨⟨_,_⟩,⟨_,_⟩,⟨_,_⟩⟩
 have j:=X0 u v y
 have E:=J5 j
 have D:(W.alloc (.cells #[I O a,I O b,I O c] 244)).cell? ⟨sb,0,none⟩=some (I O i):=by rw[J0 (G7 j _)];rfl
 show Calls prog 153 #[.agg #[I O a,I O b,I O c],IP (some ⟨sb,0,none⟩)] W _
 dsimp only at*
 clear u j v
 rcases C with rfl|rfl
 ·go_enter func153,ntmps153
  go_wp2;go_ret;exact⟨T2 (by simp),(Q2 _ _).alloc (Q4 _) _⟩
 go_enter func153,ntmps153
 go_wp2
 go_ret
 exact⟨T2 (by simp),(Q2 _ _).alloc (Q4 _) _⟩
theorem Eg g lb F (eg: ∀a0 w,(callFunc g a0).run prog w= .ok (.enter g a0) w) A n c ps w S
  (hp:WP w S g lb F) (h:V4 w X8 3 A n ps) (hN: ∀p∈ps,UU p) (hm:n<=1000000):
  Calls prog 183 #[.slice A n c,.func (.func g) #[] lb] w fun e w'=>Below w.heap.size w w'/\
   (((∀i (u:i<ps.length),F ps[i]=false)/\e= .returned (I O (-1)))\/ ∃(k:Nat) (hk:k<ps.length),F ps[k]=true/\(∀i (u:i<ps.length),i<k->F ps[i]=false)/\e= .returned (I O k)):=by
 have hl:=h.1
 have HP:=Q0 hp
 have HL:=Q0 hl
 have Z:=Q0 h
 clear hp hl h
 go_enter func183,ntmps183
 go_wp2
 go_loopg [5,8] n (fun gg _ s8 wr=> ∃j,j<=n/\gg=n-j/\s8=I O j/\Below w.heap.size w wr/\Hid (∀i (u:i<ps.length),i<j->F ps[i]=false))
 case atStart=>exact⟨0,V5 _,rfl,rfl,Q2 _ w,Q0 fun i _ u=>absurd u (Nat.not_lt_zero _)⟩
 obtain⟨j,a5,rfl,rfl,v,J⟩:=hrel
 by_cases a4:j<n
 ·obtain⟨b,a3,rfl,_,_⟩:=Z.2 (by omega)
  have U:j<ps.length:=by have:=HL.out;omega
  obtain⟨x0,x1,x2⟩:=Kl (Z.below v (Q4 _)) U;have y:=HP.out wr ps[j] (U1 v _) (hN _ (Y1 _));have a1:(j:Int)< (n:Int):=by omega
  obtain⟨p,E⟩: ∃p,Hid (ps[j]=p):=⟨_,Q0 rfl⟩;rw[E.out]at x0 x1 x2 y;obtain⟨p0,p1,p2⟩:=p;unfold QX at y;dsimp only at x0 x1 x2 y
  cases C:F (p0,p1,p2)with
  |true=>
   rw[C]at y;have D:=Q0 C;clear C;go_wp2_with (go_at_fn g;refine y.mono ?_;rintro e w' ⟨rfl,N⟩)
   go_ret;exact⟨v.trans (N.mono v.size),.inr ⟨j,U,by rw[E.out];exact D,J,rfl⟩⟩
  |false=>
   rw[C]at y;have D:=Q0 C;clear C;go_wp2_with (go_at_fn g;refine y.mono ?_;rintro e w' ⟨rfl,N⟩)
   go_roundg (n- (j+1))
   case measure=>omega
   refine⟨j+1,by omega,rfl,by go_num,v.trans (N.mono v.size),Q0 fun i u a2=> ?_⟩
   by_cases e:i=j
   ·subst e
    rw[E.out];exact D
   exact J i u (by omega)
 have a1: ¬(j:Int)< (n:Int):=by omega
 obtain rfl:j=n:=by omega
 go_wp2
 go_ret
 exact⟨v,.inl ⟨fun i u=>J i u (by have:=HL.out;omega),rfl⟩⟩
theorem Tb g lb F (eg: ∀C w,(callFunc g C).run prog w= .ok (.enter g C) w) A n c ps w S
  (hp:WP w S g lb F) (h:V4 w X8 3 A n ps) (y: ∀p∈ps,UU p) (E:n<=1000000):
  Calls prog 152 #[.slice A n c,.func (.func g) #[] lb] w fun e w'=>Below w.heap.size w w'/\e= .returned (.bool (ps.any F)):=by
 have U:=Q0 hp
 have J:=Q0 h
 have D:=Q0 y
 clear hp h y
 go_enter func152,ntmps152
 go_wp2_with fail
 refine(Eg g lb F eg A n c ps w S U J D E).mono ?_
 rintro e w' ⟨u,⟨v,rfl⟩|⟨k,hk,hy,_,rfl⟩⟩
 ·have j:Hid (ps.any F=false):=Q0 (by
   rw[Ja];intro p hp;obtain⟨i,N,rfl⟩:=XG.1 hp;rw[v i N];simp)
  clear v;go_wp2;go_ret;exact⟨u,T2 (by rw[j.out])⟩
 have j:Hid (ps.any F=true):=Q0 (by rw[TF];exact⟨_,Y1 hk,hy⟩)
 clear hy
 go_wp2
 go_ret
 exact⟨u,T2 (by rw[j.out])⟩
structure MK (F:X4->Bool) (ps cs:List X4) (i j:Nat):Prop where
 len:cs.length=ps.length
 lt:i<j
 jn:j<=ps.length
 done:cs.take i=(ps.take j).filter (fun p=> !F p)
 rest: ∀m (h:m<ps.length) (h':m<cs.length),j<=m->cs[m]=ps[m]
theorem MK.skip {F ps cs i j} (h:MK F ps cs i j) (u:j<ps.length) (C:F ps[j]=true):MK F ps cs i (j+1):=
 ⟨h.len,by have:=h.lt;omega,u,by rw[M8 u,QL,h.done];simp[C],fun m y v D=>h.rest m y v (by omega)⟩
theorem MK.keep {F ps cs i j} (h:MK F ps cs i j) (u:j<ps.length) (C:F ps[j]=false):MK F ps (cs.set i ps[j]) (i+1) (j+1):=by
 have J:=h.lt
 have D:=h.len
 refine⟨by rw[QN];exact h.len,by omega,u, ?_,fun m y v E=> ?_⟩
 ·rw[M8 u,QL,<-h.done,M8 (by rw[QN];omega),MM,TZ (Q4 _)]
  simp[C]
 rw[PA (by omega)]
 exact h.rest m y (by simpa using v) (by omega)
theorem Qo4 {w g n c t cs} (h:J2 w (some ⟨g,0,none⟩) n c t 3 (Q9 X8 cs)) {i} (j:i<cs.length) p:
  J2 (((w.setCell ⟨g,i*3,none⟩ (I O p.1)).setCell ⟨g,i*3+1,none⟩ (I O p.2.1)).setCell ⟨g,i*3+2,none⟩ (I O p.2.2)) (some ⟨g,0,none⟩) n c t 3 (Q9 X8 (cs.set i p)):=by
 rw[<-NY E6 p cs i j]
 exact((h.set _ _).set _ _).set _ _
theorem Po w g a b c x y z:Q6 (fun i=>i=g) w (((w.setCell ⟨g,a,none⟩ x).setCell ⟨g,b,none⟩ y).setCell ⟨g,c,none⟩ z):=
 ((V2 w ⟨g,a,none⟩ x).trans (V2 _ ⟨g,b,none⟩ y) (fun i h=> .inl h)).trans (V2 _ ⟨g,c,none⟩ z) (fun i h=> .inl h)
theorem Qa2 g lb F (eg: ∀a9 w,(callFunc g a9).run prog w= .ok (.enter g a9) w) A n c ps w S
  (hp:WP w S g lb F) (h:J2 w A n c 244 3 (Q9 X8 ps)) (hS: ∀g,Q7 A=some g->S g) (hN: ∀p∈ps,UU p) (hm:n<=1000000):
  Calls prog 148 #[.slice A n c,.func (.func g) #[] lb] w fun e w'=>Q6 S w w'/\
   ∃m,e= .returned (.slice A m c)/\J2 w' A m c 244 3 (Q9 X8 (ps.filter fun p=> !F p)):=by
 have HP:=Q0 hp
 have HH:=Q0 h
 have HN:=Q0 hN
 have HL:=Q0 (YW E6 (by omega) h)
 have HE:=Q0 (VV E6 (by omega) h)
 clear hp h hN
 go_enter func148,ntmps148
 go_wp2_with fail
 refine(Eg g lb F eg A n c ps w S HP HE HN hm).mono ?_
 rintro e w1 ⟨hB,⟨a7,rfl⟩|⟨k,hk,hy,a6,rfl⟩⟩
 ·have HX:Hid (ps.filter (fun p=> !F p)=ps):=Q0 (by
   rw[KR];intro p hp;obtain⟨i,hi,rfl⟩:=XG.1 hp;rw[a7 i hi];rfl)
  clear a7;go_wp2;go_ret;exact⟨U1 hB _,n,rfl,by rw[HX.out];exact HH.below hB⟩
 obtain⟨y,rfl⟩: ∃y,A=some ⟨y,0,none⟩:=by obtain⟨y,hA,_⟩:=HH.elem E6 (by omega) hk;exact⟨y,hA⟩
 have a8:=hS y rfl
 have hn:=HL.out
 have d5:((k:Int) == -1)=false:=X3 (by omega)
 have b2:MK F ps ps k (k+1):=⟨rfl,by omega,by omega,by
  rw[M8 hk,QL,KR.2]
  ·simp[hy]
  intro p hp;obtain⟨i,hi,rfl⟩:=XG.1 hp;have c1:i<k:=by simp at hi;omega
  rw[LB,a6 i (by omega) c1];rfl,fun m _ _ _=>rfl⟩
 have HI:=Q0 b2
 have HR:=Q0 (HH.below hB)
 clear a6 hy b2
 have a2:=Q0 hn
 have d3:k<1000000:=by omega
 clear hn hk
 go_wp2_with fail
 go_loopg [5,6,7] n (fun gg s5 s6 _ wr=> ∃(i j:Nat) (cs:List X4),s5=I O i/\s6=I O j/\j<=n/\n-j<=gg/\Q6 S w wr/\J2 wr (some ⟨y,0,none⟩) n c 244 3 (Q9 X8 cs)/\Hid (MK F ps cs i j))
 case atStart=>exact⟨k,k+1,ps,rfl,by go_num,by have:=HI.jn;have:=a2.out;omega,by omega,U1 hB _,HR,HI⟩
 obtain⟨i,j,cs,rfl,rfl,hj,hg,hK,u,Z⟩:=hrel
 have c5:=Z.lt
 have a5:cs.length=n:=by have:=Z.len;have:=a2.out;omega
 have HC:=Q0 a5
 by_cases d1:j<n
 ·have b5:j<cs.length:=by omega
  have a4:j<ps.length:=by have:=a2.out;omega
  obtain⟨x0,x1,x2⟩:=NG u b5;have c4:(j:Int)< (n:Int):=by omega
  have er:=Z.rest j a4 b5 (Q4 _);obtain⟨p,E⟩: ∃p,Hid (ps[j]=p):=⟨_,Q0 rfl⟩;rw[er,E.out]at x0 x1 x2;have b1:UU p:=by rw[<-E.out];exact HN _ (Y1 _)
  obtain⟨p0,D,C⟩:=p;dsimp only at x0 x1 x2;have a3:Below wr.heap.size wr (wr.alloc (.cells #[I O p0,I O D,I O C] 244)):=(Q2 _ _).alloc (Q4 _) _;have b8:=Q0 a3;have N:=HP.out _ (p0,D,C) (hK.then_ a3) b1;have b0:=Q0 (u.below a3);have c6:=Q0 (J9 wr 244 #[I O p0,I O D,I O C]);have HK:=Q0 hK;have c8:=u.lt (g:=y) rfl;unfold QX at N;dsimp only at N;clear u er b1 a5 a3 hK
  cases U:F (p0,D,C)with
  |true=>
   rw[U]at N;have HQ:=Q0 U;clear U;go_wp2_with (go_at_fn g;refine N.mono ?_;rintro e w' ⟨rfl,a0⟩)
   go_roundg (n- (j+1))
   case measure=>omega
   exact⟨i,j+1,cs,rfl,by go_num,by omega,by omega,HK.then_ (b8.trans (a0.mono (by simp))),b0.below a0,Q0 (Z.skip a4 (by rw[E.out];exact HQ))⟩
  |false=>
   rw[U]at N;have HQ:=Q0 U;clear U;go_wp2_with fail
   refine N.mono ?_;rintro e w2 ⟨rfl,a0⟩;have J:=b0.below a0;have a1:=J4 c6 a0;have z0:w2.cell? ⟨wr.heap.size,0,none⟩=some (I O p0):=by rw[J0 a1];rfl
   have z1:w2.cell? ⟨wr.heap.size,1,none⟩=some (I O D):=by rw[J0 a1];rfl
   have z2:w2.cell? ⟨wr.heap.size,2,none⟩=some (I O C):=by rw[J0 a1];rfl
   have c2:i<cs.length:=by have:=HC.out;omega
   have d0:(i:Int)< (n:Int):=by omega
   have c0:(0:Int)<=(i:Int):=by omega
   obtain⟨y0,y1,y2⟩:=NG J c2;have f0:=J.frozen (i*3);have f1:=J.frozen (i*3+1);have f2:=J.frozen (i*3+2);generalize cs[i].1=o0 at y0;generalize cs[i].2.1=o1 at y1;generalize cs[i].2.2=o2 at y2;have c3:=Q0 J;clear x0 x1 x2 J a1;go_wp2_with fail
   go_roundg (n- (j+1))
   case measure=>omega
   refine⟨i+1,j+1,cs.set i (p0,D,C),by go_num,by go_num,by omega,by omega, ?_,Qo4 c3 (by have:=HC.out;omega) (p0,D,C),Q0 ?_⟩
   ·exact((HK.then_ b8).then_ a0).trans (Po _ _ _ _ _ _ _ _) (fun x hx=> .inl (by subst hx;exact a8))
   have:=Z.keep a4 (by rw[E.out];exact HQ);rw[E.out]at this;exact this
 obtain rfl:j=n:=by omega
 have c4: ¬(j:Int)< (j:Int):=by omega
 have d2:i<j:=c5
 obtain⟨vs,d4,c7⟩:=TM (P:=prog) wr 197 244 0 (.agg #[I O 0,I O 0,I O 0]) 3 MN (fun _=>by kernel_rfl) rfl (by omega) (by intro v hv;simp[Value.cells]at hv;subst hv;rfl) y (i*3) (j-i) (c-i) (by omega)
  (fun x hx=>u.some_ (by omega)) (fun x hx=>u.frozen _)
 have b9:=Q0 u
 obtain⟨d9,e1⟩:=u.cap
 have d6:i<c:=by omega
 have d8: ¬c=i:=by omega
 have c0:(0:Int)<=(i:Int):=by omega
 have c9:(i:Int)<=(j:Int):=by omega
 have d7:(j:Int)<=(c:Int):=by omega
 clear a5 u
 go_wp2_with fail
 go_ret
 refine⟨hK.trans (DU _ _ _ _) (fun x hx=> .inl (by subst hx;exact a8)),i,rfl, ?_⟩
 have hd:=Z.done
 rw[N7 (l:=ps) (by rw[a2.out];exact Q4 _)]at hd
 rw[<-hd,<-Xk E6]
 exact Je _ _ _ (b9.pop i (by omega)) (Q4 _)
theorem Jg3:(prog.info? 244).map (fun i=>(i.zero,i.size,i.bytes))=some (some (.agg #[I O 0,I O 0,I O 0]),3,24):=by kernel_rfl
theorem Qf2 A n c ps w (h:V4 w X8 3 A n ps) (hn:0<n) (hm:n<=1000000):
  Calls prog 146 #[.slice A n c] w fun e w'=>Below w.heap.size w w'/\
   ∃g c',e= .returned (.slice (some ⟨g,0,none⟩) n c')/\w.heap.size<=g/\J2 w' (some ⟨g,0,none⟩) n c' 244 3 (Q9 X8 ps):=by
 obtain⟨b,i,rfl,a6⟩: ∃b i,A=some ⟨b,i,none⟩/\b<w.heap.size:=by obtain⟨b,i,h1,h2,_⟩:=h.2 hn;exact⟨b,i,h1,h2⟩
 have a3: ∀wx,(binOp .eql 197 (.slice (some ⟨b,i,none⟩) n c) (.slice none 0 0)).run prog wx= .ok (.bool false) wx:=fun wx=>Qu (P:=prog) wx 197 244 (some ⟨b,i,none⟩) n c 0 0 MN
 have E:=Q0 h
 have y:=h.1
 have HL:=Q0 y
 clear h y
 obtain⟨i0,a1,a2,D,Z⟩:=N0 Jg3
 go_enter func146,ntmps146
 have u:(w.alloc (.cells #[] 244)).ownsRow w.heap.size 244 3 (.slice (some ⟨w.heap.size,0,none⟩) 0 0) 0 []:=⟨rfl,.inr ⟨w.heap.size,0,#[],rfl,Q4 _,S5 w _,Q4 _,V5 _,rfl,rfl⟩⟩
 have j:(Q9 X8 ps).length=n*3:=by rw[YV E6,HL.out]
 have C:=(E.below ((Q2 _ w).alloc (Q4 _) (.cells #[] 244)) (Q4 _)).news E6
 have HO:=Q0 u
 have U:=Q0 j
 have a0:=Q0 C
 clear u j C
 go_wp2_with (at_builtin;go_loud (refine ZL _ rfl _ _ 197 rfl w.heap.size 244 i0 _ 3 24 MN a1 a2 D Z rfl (by omega) _ 0 [] rfl HO ⟨b,i,none⟩ n c (Q9 X8 ps) rfl U a0 (LP EN _) (by omega) (by unfold maxLen;omega) (by omega) (by simp) (w.heap.size+1) (by simp) ?_);intro g cap w1 v J N a4)
 go_ret
 have a5:g=w.heap.size\/g=w.heap.size+1:=by
  rcases N with h|h
  ·exact .inl (KZ h).symm
  exact .inr h
 simp only[Nat.zero_add,List.nil_append]at v
 exact⟨((Q2 _ w).alloc (Q4 _) _).grown J (by simp) (fun q hq=>by cases hq;exact Q4 _),g,cap,by simp,by omega,Fu v⟩
theorem Qf3 A n c ps w (h:V4 w X8 3 A n ps) (u:n<=1000000):
  Calls prog 146 #[.slice A n c] w fun e w'=>Below w.heap.size w w'/\
   ∃A' c',e= .returned (.slice A' n c')/\(∀g,Q7 A'=some g->w.heap.size<=g)/\J2 w' A' n c' 244 3 (Q9 X8 ps):=by
 by_cases v:0<n
 ·refine(Qf2 A n c ps w h v u).mono ?_
  rintro e w' ⟨j,g,c',rfl,i,D⟩;exact⟨j,_,c',rfl,fun x C=>by cases C;exact i,D⟩
 obtain rfl:n=0:=by omega
 obtain rfl:ps= []:=BN h.1
 clear h
 cases A with
 |none=>
  have y: ∀wx,(binOp .eql 197 (.slice none 0 c) (.slice none 0 0)).run prog wx= .ok (.bool true) wx:=fun wx=>Qu (P:=prog) wx 197 244 none 0 c 0 0 MN
  go_enter func146,ntmps146
  go_wp2;go_ret;exact⟨Q2 _ _,none,0,rfl,by simp[Q7],JX _ _ _ _⟩
 |some a=>
  have y: ∀wx,(binOp .eql 197 (.slice (some a) 0 c) (.slice none 0 0)).run prog wx= .ok (.bool false) wx:=fun wx=>Qu (P:=prog) wx 197 244 (some a) 0 c 0 0 MN
  go_enter func146,ntmps146
  go_wp2;go_ret;exact⟨(Q2 _ _).alloc (Q4 _) _,some ⟨w.heap.size,0,none⟩,0,rfl,fun g i=>by cases i;exact Q4 _,⟨rfl,.inr ⟨w.heap.size,0,#[],rfl,V5 _,S5 w _,Q4 _,V5 _,rfl,rfl⟩⟩⟩
def GW (F:X4->Int):List X4->Int
 | []=>0
 |p::r=>r.foldl (fun m q=>if m<F q then F q else m) (F p)
theorem Fx F l p (h:0<l.length):GW F (l++ [p])=if GW F l<F p then F p else GW F l:=by
 cases l with
 |nil=>simp at h
 |cons a l=>
  show List.foldl _ _ (l++ [p])=_;rw[CL]
  rfl
def M0 (F:X4->Int) (ps:List X4):List X4:=ps.filter fun p=>F p ==GW F ps
theorem Qf4 (F:X4->Int) (l:List X4): ∀m,(l.foldl (fun m q=>if m<F q then F q else m) m=m\/ ∃p∈l,F p=l.foldl (fun m q=>if m<F q then F q else m) m)/\
  m<=l.foldl (fun m q=>if m<F q then F q else m) m/\ ∀p∈l,F p<=l.foldl (fun m q=>if m<F q then F q else m) m:=by
 induction l with
 |nil=>intro m;exact⟨.inl rfl,P8 _,fun p hp=>by cases hp⟩
 |cons a l u=>
  intro m;obtain⟨h1,h2,i⟩:=u (if m<F a then F a else m);rw[QZ]
  by_cases j:m<F a
  ·rw[Q5 j]at h1 h2 i|-
   refine⟨.inr ?_,by omega,fun p hp=> ?_⟩
   ·rcases h1 with h1|⟨p,hp,e⟩
    ·exact⟨a,by simp,h1.symm⟩
    exact⟨p,by simp[hp],e⟩
   rcases D4.1 hp with rfl|hp
   ·exact h2
   exact i p hp
  rw[Q3 j]at h1 h2 i|-;refine⟨?_,h2,fun p hp=> ?_⟩
  ·rcases h1 with h1|⟨p,hp,e⟩
   ·exact .inl h1
   exact .inr ⟨p,by simp[hp],e⟩
  rcases D4.1 hp with rfl|hp
  ·omega
  exact i p hp
theorem Fy F ps (h:ps≠ []):(∃p∈ps,F p=GW F ps)/\ ∀p∈ps,F p<=GW F ps:=by
 cases ps with
 |nil=>exact absurd rfl h
 |cons a l=>
  obtain⟨h1,h2,i⟩:=Qf4 F l (F a);refine⟨?_,fun p hp=> ?_⟩
  ·rcases h1 with h1|⟨p,hp,e⟩
   ·exact⟨a,by simp,h1.symm⟩
   exact⟨p,by simp[hp],e⟩
  rcases D4.1 hp with rfl|hp
  ·exact h2
  exact i p hp
theorem WD F {ps} (h:ps≠ []):M0 F ps≠ []:=by
 obtain⟨⟨p,hp,e⟩,_⟩:=Fy F ps h
 intro i
 have:p∈M0 F ps:=P3.2 ⟨hp,by simp[e]⟩
 rw[i]at this
 cases this
theorem Fz {F ps p} (h:p∈M0 F ps):p∈ps:=(P3.1 h).1
theorem AA.less {w S S' g lb F} (h:AA w S g lb F) (j: ∀i,S' i->S i):AA w S' g lb F:=
 fun W p u hp=>h W p (u.mono j) hp
theorem Qy0 g lb F (eg: ∀b8 w,(callFunc g b8).run prog w= .ok (.enter g b8) w) b7 A n c ps w
  (hF:AA w (fun i=>Q7 A=some i) g lb F) (hb:Q1 w b7 197 #[.slice A n c]) (h:J2 w A n c 244 3 (Q9 X8 ps)) (b5:Q7 A≠some b7) (hN: ∀p∈ps,UU p) (hm:n<=1000000):
  Calls prog 147 #[.func (.func g) #[] lb,IP (some ⟨b7,0,none⟩)] w fun e w'=>e= .returned (.tuple #[])/\Q6 (fun i=>i=b7\/Q7 A=some i) w w'/\
   ∃m,Q1 w' b7 197 #[.slice A m c]/\J2 w' A m c 244 3 (Q9 X8 (M0 F ps)):=by
 have HP:=Q0 hF
 have y:=Q0 h
 have HN:=Q0 hN
 have HL:=Q0 (YW E6 (by omega) h)
 have HE:=Q0 (VV E6 (by omega) h)
 have a0:=Q0 hb
 have d8:=J5 hb
 have c3:=Q0 b5
 clear hF h hN hb b5
 have z0:((w.alloc (.cells #[.func (.func g) #[] lb] 245)).alloc (.cells #[I O 0] 3)).cell? ⟨b7,0,none⟩=some (.slice A n c):=by rw[J0 (G7 (G7 a0 _) _)];rfl
 go_enter func147,ntmps147
 go_wp2_with fail
 go_loopg [4,5,6,9] n (fun gg _ _ _ s9 wr=> ∃k m,k<=n/\gg=n-k/\s9=I O k/\Below w.heap.size w wr/\Q1 wr w.heap.size 245 #[.func (.func g) #[] lb]/\Q1 wr (w.heap.size+1) 3 #[I O m]/\Hid (m=GW F (ps.take k)))
 case atStart=>exact⟨0,0,V5 _,rfl,rfl,((Q2 _ w).alloc (Q4 _) _).alloc (by simp) _,G7 (J9 _ _ _) _,by have:=J9 (w.alloc (.cells #[.func (.func g) #[] lb] 245)) 3 #[I O 0];simpa using this,Q0 rfl⟩
 obtain⟨k,m,hk,rfl,rfl,j,Z,D,HM⟩:=hrel
 by_cases e1:k<n
 ·have a5:k<ps.length:=by have:=HL.out;omega
  have c1:=j.size;obtain⟨gr,hA⟩: ∃gr,A=some ⟨gr,0,none⟩:=by obtain⟨gr,hA,_⟩:=y.elem E6 (by omega) a5;exact⟨gr,hA⟩
  subst hA;obtain⟨x0,x1,x2⟩:=NG (y.below j) a5;have d2:(k:Int)< (n:Int):=by omega
  have d7:(0:Int)<=(k:Int):=by omega
  have a7:UU ps[k]:=HN.out _ (Y1 _);obtain⟨p,E⟩: ∃p,Hid (ps[k]=p):=⟨_,Q0 rfl⟩;rw[E.out]at x0 x1 x2 a7;have HT:=Q0 (M8 a5);obtain⟨p0,v,u⟩:=p;dsimp only at x0 x1 x2;have J:Below wr.heap.size wr (wr.alloc (.cells #[I O p0,I O v,I O u] 244)):=(Q2 _ _).alloc (Q4 _) _;have U:=HP.out _ (p0,v,u) (U1 (j.trans (J.mono c1)) _) a7;have a9:=J4 Z J;have y0:(wr.alloc (.cells #[I O p0,I O v,I O u] 244)).cell? ⟨w.heap.size,0,none⟩=some (.func (.func g) #[] lb):=by rw[J0 a9];rfl
  have d1:=Q0 a9;have d5:=Q0 (J4 D J);have d3:=Q0 (j.trans (J.mono c1));have d9:=J5 D;unfold QX at U;dsimp only at U;clear Z D a7 a9 J j;go_wp2_with fail
  refine U.mono ?_;rintro e w2 ⟨rfl,b1⟩;have b0:=J4 d1 b1;have C:=J4 d5 b1;have a1:=d3.trans (b1.mono (by simp;omega));have q0:w2.cell? ⟨w.heap.size+1,0,none⟩=some (I O m):=by rw[J0 C];rfl
  have qf:w2.frozen? ⟨w.heap.size+1,0,none⟩=false:=J1 C 0;have a6:=J7 C 0 (I O (F (p0,v,u)));have a4:=XP b0 (p:=⟨w.heap.size+1,0,none⟩) (by simp) (I O (F (p0,v,u)));have a8:=a1.setCell (p:=⟨w.heap.size+1,0,none⟩) (by simp) (I O (F (p0,v,u)));generalize hf:F (p0,v,u)=f at a6 a4 a8;have E2:=Q0 hf;have G1:=Q0 a6;have G2:=Q0 a4;have G3:=Q0 a8;have G4:=Q0 C;have G5:=Q0 b0;have G6:=Q0 a1;clear x0 x1 x2 y0 U a6 a4 a8 C b0 a1 hf
  by_cases c9:k=0
  ·subst c9
   go_wp2_with fail
   go_roundg (n- (0+1))
   case measure=>omega
   exact⟨0+1,f,by omega,rfl,by go_num,G3,G2,G1,Q0 (by rw[HT.out,E.out,<-E2.out];rfl)⟩
  have t0:=X3 (show(k:Int)≠0 by omega)
  by_cases a2:m<f
  ·have t1:=Z5 a2
   go_wp2_with fail
   go_roundg (n- (k+1))
   case measure=>omega
   exact⟨k+1,f,by omega,rfl,by go_num,G3,G2,G1,Q0 (by rw[HT.out,Fx F _ _ (by simp;omega),<-HM.out,E.out,E2.out,Q5 a2])⟩
  have t1:=Z1 a2;go_wp2_with fail
  go_roundg (n- (k+1))
  case measure=>omega
  exact⟨k+1,m,by omega,rfl,by go_num,G6,G5,G4,Q0 (by rw[HT.out,Fx F _ _ (by simp;omega),<-HM.out,E.out,E2.out,Q3 (by omega)])⟩
 obtain rfl:k=n:=by omega
 have d2: ¬(k:Int)< (k:Int):=by omega
 have c7:wr.cell? ⟨b7,0,none⟩=some (.slice A k c):=by rw[J0 (a0.keep j)];rfl
 have f7:wr.frozen? ⟨b7,0,none⟩=false:=J1 (a0.keep j) 0
 have HR:=Q0 (y.below j)
 have c0:=Jg1 wr (fun i=>Q7 A=some i) w.heap.size (w.heap.size+1) g lb F m eg (HP.later (U1 j (fun _=>False)) (fun _ h=>h.elim)) Z D (fun h=>by have:=y.lt h;omega) (fun h=>by have:=y.lt h;omega)
 have c6:=Q0 c0
 have HB:=Q0 j
 clear c0 Z D j
 go_wp2_with fail
 refine(Qa2 _ _ _ (XH func149 (by kernel_rfl) rfl) A k c ps wr _ c6 HR (fun _ h=>h) HN hm).mono ?_
 rintro e w2 ⟨hK,mm,rfl,b2⟩
 have d6: ¬Q7 A=some b7:=c3.out
 have N:=(a0.keep HB).keeps hK d6
 have c8:w2.cell? ⟨b7,0,none⟩=some (.slice A k c):=by rw[J0 N];rfl
 have f8:=J1 N 0
 have a3:=V2 w2 ⟨b7,0,none⟩ (.slice A mm c)
 have b9:=b2.keeps a3 (fun x hx e=>c3 (by rw[hx,e]))
 have c2:=J7 N 0 (.slice A mm c)
 have c4:=Q0 b9
 have d4:=Q0 c2
 have c5:=Q0 (((U1 HB (fun i=>i=b7\/Q7 A=some i)).trans hK (fun i h=> .inl (.inr h))).trans a3 (fun i h=> .inl (.inl h)))
 have e7:(fun p=> !(F p != m))=fun p=>F p ==GW F ps:=by
  funext p
  rw[HM.out,N7 (by rw[HL.out];exact Q4 _)];simp[bne]
 have d0:=Q0 e7
 clear N a3 b9 c2 e7 c7 f7 b2 hK
 go_wp2_with fail
 go_end0
 refine⟨rfl,c5,mm,d4, ?_⟩
 unfold M0
 rw[<-d0.out]
 exact c4
theorem Ln i (y:i=1\/i= -1) b7 A n c ps w
  (u:Q1 w b7 197 #[.slice A n c]) (h:J2 w A n c 244 3 (Q9 X8 ps)) (C: ∀p∈ps,UU p) (E:n<=1000000):
  Calls prog 151 #[I O i,IP (some ⟨b7,0,none⟩)] w fun e w'=>e= .returned (.bool (!(ps.any fun p=>decide ((p.2.1-p.2.2)*i<=0))))/\Below w.heap.size w w':=by
 have z0:(w.alloc (.cells #[I O i] 3)).cell? ⟨b7,0,none⟩=some (.slice A n c):=by rw[J0 (G7 u _)];rfl
 have j:Below w.heap.size w (w.alloc (.cells #[I O i] 3)):=(Q2 _ _).alloc (Q4 _) _
 have N:=Q0 (VV E6 (by omega) (h.below j))
 have Z:=Q0 (Jg2 (w.alloc (.cells #[I O i] 3)) (fun _=>False) w.heap.size i y (J9 _ _ _) id)
 have U:=Q0 j
 have J:=Q0 C
 have a0: ∀v first cap w,(Instr.makeFunc v first cap).run prog w= .ok (.func v first cap) w:=fun _ _ _ _=>rfl
 clear u h j C y
 go_enter func151,ntmps151
 go_wp2_with fail
 refine(Tb _ _ _ (XH func153 (by kernel_rfl) rfl) A n c ps _ _ Z N J E).mono ?_
 rintro e w1 ⟨D,rfl⟩
 go_wp2
 go_ret
 exact⟨rfl,U.trans (D.mono (by simp))⟩
structure UT (w0 w:World) (b3 b4 b6 b7:Nat) (r:Int) (A:Option Addr) (m c:Nat) (ps:List X4):Prop where
 around:Q1 w b3 3 #[I O r]
 quote:Q1 w b4 83 #[I O 0,I O 0,I O 0]
 left:Q1 w b6 245 #[.func (.func 145) #[] #[]]
 best:Q1 w b7 197 #[.slice A m c]
 row:J2 w A m c 244 3 (Q9 X8 ps)
 near: ∀p∈ps,UU p
 below:Below w0.heap.size w0 w
 u3:w0.heap.size<=b3
 u4:w0.heap.size<=b4
 u6:w0.heap.size<=b6
 u7:w0.heap.size<=b7
 uA: ∀g,Q7 A=some g->w0.heap.size<=g/\g≠b3/\g≠b4/\g≠b6/\g≠b7
 n73:b7≠b3
 n74:b7≠b4
 n76:b7≠b6
section
variable {w0 w w':World} {b3 b4 b6 b7 m c:Nat} {r:Int} {A:Option Addr} {ps:List X4}
theorem UT.keep (h:UT w0 w b3 b4 b6 b7 r A m c ps) (i:Below w.heap.size w w'):UT w0 w' b3 b4 b6 b7 r A m c ps:=
 ⟨J4 h.around i,J4 h.quote i,J4 h.left i,J4 h.best i,h.row.below i,h.near,h.below.trans (i.mono h.below.size),h.u3,h.u4,h.u6,h.u7,h.uA,h.n73,h.n74,h.n76⟩
theorem UT.kept (h:UT w0 w b3 b4 b6 b7 r A m c ps) {F m'} (hk:Q6 (fun i=>i=b7\/Q7 A=some i) w w') (u:Q1 w' b7 197 #[.slice A m' c]) (j:J2 w' A m' c 244 3 (Q9 X8 (M0 F ps))):
  UT w0 w' b3 b4 b6 b7 r A m' c (M0 F ps):=
 ⟨X0 h.around hk (fun e=>e.elim (fun e=>h.n73 e.symm) (fun e=>(h.uA _ e).2.1 rfl)),X0 h.quote hk (fun e=>e.elim (fun e=>h.n74 e.symm) (fun e=>(h.uA _ e).2.2.1 rfl)),X0 h.left hk (fun e=>e.elim (fun e=>h.n76 e.symm) (fun e=>(h.uA _ e).2.2.2.1 rfl)),
  u,j,fun p hp=>h.near p (Fz hp),h.below.trans (hk.below (fun i e=>e.elim (fun e=>by rw[e];exact h.u7) (fun e=>(h.uA _ e).1)) h.below.size),h.u3,h.u4,h.u6,h.u7,h.uA,h.n73,h.n74,h.n76⟩
theorem UT.n7 (h:UT w0 w b3 b4 b6 b7 r A m c ps):Q7 A≠some b7:=fun e=>(h.uA _ e).2.2.2.2 rfl
theorem UT.step (h:UT w0 w b3 b4 b6 b7 r A m c ps) g lb F (eg: ∀u w,(callFunc g u).run prog w= .ok (.enter g u) w) (D:AA w (fun i=>Q7 A=some i) g lb F) (y:m<=1000000):
  Calls prog 147 #[.func (.func g) #[] lb,IP (some ⟨b7,0,none⟩)] w fun e w'=>e= .returned (.tuple #[])/\ ∃m',m'<=m/\(M0 F ps).length=m'/\UT w0 w' b3 b4 b6 b7 r A m' c (M0 F ps):=by
 refine(Qy0 g lb F eg b7 A m c ps w D h.best h.row h.n7 h.near y).mono ?_
 rintro e w' ⟨rfl,C,m',J,j⟩
 have v:=YW E6 (by omega) j
 have E:=YW E6 (by omega) h.row
 exact⟨rfl,m',by rw[<-v,<-E];exact FR _ _,v,h.kept C J j⟩
end
theorem UT.q {w0 w b3 b4 b6 b7 m c r A ps} (h:UT w0 w b3 b4 b6 b7 r A m c ps):
  w.cell? ⟨b4,0,none⟩=some (I O 0)/\w.cell? ⟨b4,1,none⟩=some (I O 0)/\w.cell? ⟨b4,2,none⟩=some (I O 0)/\w.frozen? ⟨b4,0,none⟩=false/\w.frozen? ⟨b4,1,none⟩=false/\w.frozen? ⟨b4,2,none⟩=false:=
 ⟨by rw[J0 h.quote];rfl,by rw[J0 h.quote];rfl,by rw[J0 h.quote];rfl,J1 h.quote 0,J1 h.quote 1,J1 h.quote 2⟩
theorem UT.y7 {w0 w b3 b4 b6 b7 m c r A ps} (h:UT w0 w b3 b4 b6 b7 r A m c ps):w.cell? ⟨b7,0,none⟩=some (.slice A m c):=by rw[J0 h.best];rfl
theorem Ug {w w'} (y:Below w.heap.size w w') {p v} (h:(w.cell? p).isSome=true) (i:w.frozen? p=v):w'.frozen? p=v:=by
 obtain⟨u,j⟩:=Option.isSome_iff_exists.1 h
 exact(y.frozen (V6 w p j)).trans i
def BT (w:World) (a:Addr):Value:=(w.cell? a).getD undef
theorem Qy1 {w a} (h:(w.cell? a).isSome=true):w.cell? a=some (BT w a):=by
 obtain⟨v,i⟩:=Option.isSome_iff_exists.1 h
 unfold BT
 rw[i];rfl
theorem EF {w a v} (h:w.cell? a=some v):w.cell? a=some (BT w a):=Qy1 (by rw[h];rfl)
def QS (g B:Nat) (v1 v2 v3:Value) (w:World):Prop:=
 (w.cell? ⟨g,0,none⟩=some v1/\w.cell? ⟨g,1,none⟩=some v2/\w.cell? ⟨g,2,none⟩=some v3)/\(w.cell? ⟨B,0,none⟩=some (BT w ⟨B,0,none⟩)/\w.cell? ⟨B,1,none⟩=some (BT w ⟨B,1,none⟩)/\w.cell? ⟨B,2,none⟩=some (BT w ⟨B,2,none⟩))/\
  w.frozen? ⟨B,0,none⟩=false/\w.frozen? ⟨B,1,none⟩=false/\w.frozen? ⟨B,2,none⟩=false
theorem Pp {w w' g B v1 v2 v3} (i:Below w.heap.size w w') (h:QS g B v1 v2 v3 w):QS g B v1 v2 v3 w':=
 ⟨⟨BU i h.1.1,BU i h.1.2.1,BU i h.1.2.2⟩,⟨EF (BU i h.2.1.1),EF (BU i h.2.1.2.1),EF (BU i h.2.1.2.2)⟩,Ug i (by rw[h.2.1.1];rfl) h.2.2.1,Ug i (by rw[h.2.1.2.1];rfl) h.2.2.2.1,Ug i (by rw[h.2.1.2.2];rfl) h.2.2.2.2⟩
theorem SZ {w g B v1 v2 v3} (D:g≠B) i x (h:QS g B v1 v2 v3 w):QS g B v1 v2 v3 (w.setCell ⟨B,i,none⟩ x):=by
 have u: ∀j,(w.setCell ⟨B,i,none⟩ x).cell? ⟨g,j,none⟩=w.cell? ⟨g,j,none⟩:=fun j=>World.cell?_of_block (Below.heap_setCell w ⟨B,i,none⟩ x g D)
 have y: ∀j v,w.cell? ⟨B,j,none⟩=some v->(w.setCell ⟨B,i,none⟩ x).cell? ⟨B,j,none⟩=some (BT (w.setCell ⟨B,i,none⟩ x) ⟨B,j,none⟩):=fun j v C=>by
  obtain⟨v',hy⟩:=cell?_setCell_some (w:=w) (p:=⟨B,i,none⟩) (x:=x) (q:=⟨B,j,none⟩) (v:=v) C;exact EF hy
 refine⟨⟨(u 0).trans h.1.1,(u 1).trans h.1.2.1,(u 2).trans h.1.2.2⟩,⟨y 0 _ h.2.1.1,y 1 _ h.2.1.2.1,y 2 _ h.2.1.2.2⟩, ?_, ?_, ?_⟩
 ·simpa using h.2.2.1
 ·simpa using h.2.2.2.1
 simpa using h.2.2.2.2
def DJ (r:Int) (b2:List X4):List X4:=
 if b2.any (fun p=>decide ((p.2.1-p.2.2)*1<=0))=false then M0 (fun p=>p.1) b2
 else if b2.any (fun p=>decide ((p.2.1-p.2.2)* -1<=0))=false then M0 (fun p=> -p.1) b2
 else M0 (fun p=> -p.1) (M0 (fun p=> -max (p.1-r) (r-p.1)) b2)
def WR:List X4->X4
 | []=>(0,0,0)
 |p::_=>(p.1,U8 p,p.2.1-p.2.2)
def KV (ps:List X4) (r:Int):X4:=
 match M0 U8 ps with
 | []=>(0,0,0)
 |p::l=>if U8 p<1 then(0,0,0)else WR (DJ r (M0 (fun p=> -AK p) (p::l)))
theorem Vt {w a Q g cs} (hp:a.tmps.getD 4 undef= IP (some ⟨g,0,none⟩)) (i:a.defers= [])
  (j:Q1 w g 83 cs) (h2:cs.size=3) (h:Q (.returned (.agg cs)) w):bodyPost prog Tryz.f112 Q .ret a w:=
 P4 (PG Tryz.results112 a.tmps w g _ cs (0,0) _ hp j TC rfl (by rw[h2];kernel_rfl)) i h
theorem Qf5 A n c r (hr: -1099511627776<=r/\r<=1099511627776) ps w (h:V4 w X8 3 A n ps) (hN: ∀p∈ps,UU p) (hm:n<=100000):
  Calls prog 112 #[.slice A n c,I O r] w fun e w'=>e= .returned (QX (KV ps r))/\Below w.heap.size w w':=by
 have c4:Below w.heap.size w (((w.alloc (.cells #[I O r] 3)).alloc (.cells #[I O 0,I O 0,I O 0] 83)).alloc (.cells #[.func (.func 145) #[] #[]] 245)):=(((Q2 _ w).alloc (Q4 _) _).alloc (by simp) _).alloc (by simp;omega) _
 have HH:=Q0 (h.below c4 (Q4 _))
 have HN:=Q0 hN
 have g2:=Q0 c4
 clear h hN c4
 go_enter func112,ntmps112
 go_wp2_with fail
 refine(Qf3 A n c ps _ HH (by omega)).mono ?_
 rintro e w1 ⟨a0,A',c',rfl,f9,hR⟩
 have g1:=a0.size
 simp at g1
 have e5:UT w (w1.alloc (.cells #[.slice A' n c'] 197)) w.heap.size (w.heap.size+1) (w.heap.size+1+1) w1.heap.size r A' n c' ps:=by
  have e3:Q1 (((w.alloc (.cells #[I O r] 3)).alloc (.cells #[I O 0,I O 0,I O 0] 83)).alloc (.cells #[.func (.func 145) #[] #[]] 245)) w.heap.size 3 #[I O r]:=G7 (G7 (J9 w _ _) _) _;have e4:Q1 (((w.alloc (.cells #[I O r] 3)).alloc (.cells #[I O 0,I O 0,I O 0] 83)).alloc (.cells #[.func (.func 145) #[] #[]] 245)) (w.heap.size+1) 83 #[I O 0,I O 0,I O 0]:=by
   have:=G7 (J9 (w.alloc (.cells #[I O r] 3)) 83 #[I O 0,I O 0,I O 0]) (.cells #[.func (.func 145) #[] #[]] 245);simpa using this
  have e6:Q1 (((w.alloc (.cells #[I O r] 3)).alloc (.cells #[I O 0,I O 0,I O 0] 83)).alloc (.cells #[.func (.func 145) #[] #[]] 245)) (w.heap.size+1+1) 245 #[.func (.func 145) #[] #[]]:=by
   have:=J9 ((w.alloc (.cells #[I O r] 3)).alloc (.cells #[I O 0,I O 0,I O 0] 83)) 245 #[.func (.func 145) #[] #[]];simpa using this
  refine⟨G7 (J4 e3 a0) _,G7 (J4 e4 a0) _,G7 (J4 e6 a0) _,J9 _ _ _,hR.below ((Q2 _ _).alloc (Q4 _) _),HN,g2.trans ((a0.alloc a0.size _).mono (by simp;omega)),Q4 _,by omega,by omega,by omega,fun g hg=> ?_,by omega,by omega,by omega⟩;have h1:=f9 g hg;have h2:=hR.lt hg;simp at h1;omega
 have HC:=Q0 e5
 have i1: ∀fn first cap w,(Instr.makeFunc fn first cap).run prog w= .ok (.func fn first cap) w:=fun _ _ _ _=>rfl
 have HR:=Q0 hR
 clear e5 hR a0
 go_wp2_with fail
 refine(HC.step _ _ _ (XH func144 (by kernel_rfl) rfl) (Qo1 _ _) (by omega)).mono ?_
 rintro e w2 ⟨rfl,m2,i5,e8,c9⟩
 have a8:=Q0 c9
 have c7:=Q0 e8
 have y7:w2.cell? ⟨w1.heap.size,0,none⟩=some (.slice A' m2 c'):=by rw[J0 c9.best];rfl
 clear c9 e8
 by_cases hz:m2=0
 ·subst hz
  obtain⟨d0,d1,d2,q0,q1,q2⟩:=a8.q;go_wp2_with fail
  try simp only[Exit.inBlock,Exit.then]
  refine Vt (g:=w.heap.size+1) (cs:= #[I O 0,I O 0,I O 0]) (by with_unfolding_all rfl) (by with_unfolding_all rfl) (J7 (J7 (J7 a8.quote 0 _) 1 _) 2 _) rfl ?_;have e0:M0 U8 ps= []:=BN c7;refine⟨by unfold KV;rw[e0];rfl,((a8.below.setCell (by simp) _).setCell (by simp) _).setCell (by simp) _⟩
 have t0:=X3 (show(m2:Int)≠0 by omega)
 obtain⟨p,l,c0⟩: ∃p l,M0 U8 ps=p::l:=by
  cases hk:M0 U8 ps with
  |nil=>rw[hk]at c7;exact absurd c7.symm hz
  |cons p l=>exact⟨p,l,rfl⟩
 have b0:=a8.row
 rw[c0]at b0
 obtain⟨gr,rfl⟩: ∃gr,A'=some ⟨gr,0,none⟩:=by obtain⟨gr,hA,_⟩:=b0.elem E6 (by omega) (i:=0) (by simp);exact⟨gr,hA⟩
 obtain⟨x0,x1,Z⟩:=NG b0 (i:=0) (by simp)
 simp only[List.getElem_cons_zero,Nat.zero_mul,Nat.zero_add]at x0 x1 Z
 have v:=Vs p w2
 obtain⟨p0,p1,p2⟩:=p
 unfold QX at v
 dsimp only at x0 x1 Z v
 have i0:(0:Int)< (m2:Int):=by omega
 have c5:=Q0 c0
 obtain⟨t,HT⟩: ∃t,Hid (U8 (p0,p1,p2)=t):=⟨_,Q0 rfl⟩
 rw[HT.out]at v
 clear b0 c0
 go_wp2_with fail
 refine v.mono ?_
 rintro e w3 ⟨rfl,g7⟩
 have U:=Q0 (a8.keep g7)
 clear x0 x1 Z v y7
 by_cases a3:t<1
 ·have dt:=Z5 a3
  obtain⟨d0,d1,d2,q0,q1,q2⟩:=U.q;have g6:=Q0 a3;clear a3;go_wp2_with fail
  try simp only[Exit.inBlock,Exit.then]
  refine Vt (g:=w.heap.size+1) (cs:= #[I O 0,I O 0,I O 0]) (by with_unfolding_all rfl) (by with_unfolding_all rfl) (J7 (J7 (J7 U.quote 0 _) 1 _) 2 _) rfl ?_;refine⟨?_,((U.below.setCell (by simp) _).setCell (by simp) _).setCell (by simp) _⟩;have e1:KV ps r=(0,0,0):=by unfold KV;rw[c5.out];show(if U8 (p0,p1,p2)<1 then _ else _)=_;rw[HT.out,Q5 g6.out]
  rw[e1];rfl
 have dt:=Z1 a3
 have d4:Hid (KV ps r=WR (DJ r (M0 (fun p=> -AK p) ((p0,p1,p2)::l)))):=Q0 (by unfold KV;rw[c5.out];show(if U8 (p0,p1,p2)<1 then _ else _)=_;rw[HT.out,Q3 a3])
 clear a3
 go_wp2_with fail
 rw[c5.out]at U
 refine(U.step _ _ _ (XH func150 (by kernel_rfl) rfl) (Jg0 _ _ _ U.left (fun e=>(U.uA _ e).2.2.2.1 rfl)) (by omega)).mono ?_
 rintro e w4 ⟨rfl,m4,h7,f1,c3⟩
 have b8:M0 (fun p=> -AK p) ((p0,p1,p2)::l)≠ []:=WD _ (by simp)
 have d3:=Q0 f1
 generalize M0 (fun p=> -AK p) ((p0,p1,p2)::l)=j at b8 c3 d3 d4
 have a7:=Q0 c3
 have h6:0<m4:=by have:=d3.out;have:=PB.2 b8;omega
 have c2:=Q0 b8
 clear c3 f1 b8
 go_upto_block 0 with fail
 go_cut [38] (fun i6 wx=> ∃m5 a4,m5<=n/\0<m5/\a4.length=m5/\UT w wx w.heap.size (w.heap.size+1) (w.heap.size+1+1) w1.heap.size r (some ⟨gr,0,none⟩) m5 c' a4/\Hid (DJ r j=a4))
 case first=>
  have N:=Ln 1 (.inl rfl) w1.heap.size _ m4 c' j w4 a7.best a7.row a7.near (by omega)
  cases a2:j.any (fun p=>decide ((p.2.1-p.2.2)*1<=0))with
  |false=>
   rw[a2]at N;simp only[Bool.not_false]at N;have a5:Hid (DJ r j=M0 (fun p=>p.1) j):=Q0 (by unfold DJ;rw[Q5 a2]);clear a2;go_wp2_with fail
   refine N.mono ?_;rintro e w5 ⟨rfl,c1⟩;have y:=Q0 (a7.keep c1);clear N;go_wp2_with fail
   refine(y.step _ _ _ (XH func154 (by kernel_rfl) rfl) (Qx8 _ _) (by omega)).mono ?_;rintro e w6 ⟨rfl,m6,i7,e9,f4⟩;have f3:M0 (fun p=>p.1) j≠ []:=WD _ c2;have f6:0<m6:=by have:=PB.2 f3;omega
   have D:=Q0 f4;have g4:=Q0 e9;clear f4 e9 f3;go_wp2_with fail
   go_meet;exact⟨m6,_,by omega,f6,g4,D,a5⟩
  |true=>
   rw[a2]at N;simp only[Bool.not_true]at N;have e2:=Q0 a2;clear a2;go_wp2_with fail
   refine N.mono ?_;rintro e w5 ⟨rfl,c1⟩;have y:=Q0 (a7.keep c1);clear N;have E:=Ln (-1) (.inr rfl) w1.heap.size _ m4 c' j w5 y.best y.row y.near (by omega)
   cases a1:j.any (fun p=>decide ((p.2.1-p.2.2)* -1<=0))with
   |false=>
    rw[a1]at E;simp only[Bool.not_false]at E;have a5:Hid (DJ r j=M0 (fun p=> -p.1) j):=Q0 (by unfold DJ;rw[Q3 (by rw[e2.out];simp),Q5 a1]);clear a1;go_wp2_with fail
    refine E.mono ?_;rintro e w6 ⟨rfl,c6⟩;have D:=Q0 (y.keep c6);clear E;go_wp2_with fail
    refine(D.step _ _ _ (XH func155 (by kernel_rfl) rfl) (Qx9 _ _) (by omega)).mono ?_;rintro e w7 ⟨rfl,m7,g0,b9,a9⟩;have a6:M0 (fun p=> -p.1) j≠ []:=WD _ c2;have g9:0<m7:=by have:=PB.2 a6;omega
    have c8:=Q0 a9;have h0:=Q0 b9;clear a9 b9 a6;go_wp2_with fail
    go_meet;exact⟨m7,_,by omega,g9,h0,c8,a5⟩
   |true=>
    rw[a1]at E;simp only[Bool.not_true]at E;have a5:Hid (DJ r j=M0 (fun p=> -p.1) (M0 (fun p=> -max (p.1-r) (r-p.1)) j)):=Q0 (by unfold DJ;rw[Q3 (by rw[e2.out];simp),Q3 (by rw[a1];simp)]);clear a1;go_wp2_with fail
    refine E.mono ?_;rintro e w6 ⟨rfl,c6⟩;have D:=Q0 (y.keep c6);clear E;go_wp2_with fail
    refine(D.step _ _ _ (XH func156 (by kernel_rfl) rfl) (Jj9 _ _ _ r hr D.around (fun e=>(D.uA _ e).2.1 rfl)) (by omega)).mono ?_;rintro e w7 ⟨rfl,m7,g0,b9,a9⟩;have a6:M0 (fun p=> -max (p.1-r) (r-p.1)) j≠ []:=WD _ c2;have c8:=Q0 a9;have g3:=Q0 a6;clear a9 b9 a6;go_wp2_with fail
    refine(c8.step _ _ _ (XH func157 (by kernel_rfl) rfl) (Qo2 _ _) (by omega)).mono ?_;rintro e w8 ⟨rfl,m8,i8,d9,d7⟩;have f2:M0 (fun p=> -p.1) (M0 (fun p=> -max (p.1-r) (r-p.1)) j)≠ []:=WD _ g3;have f8:0<m8:=by have:=PB.2 f2;omega
    have h4:=Q0 d7;have f7:=Q0 d9;clear d7 d9 f2;go_wp2_with fail
    go_meet;exact⟨m8,_,by omega,f8,f7,h4,a5⟩
 obtain⟨m5,a4,h8,i4,g5,J,f5⟩:=hcut
 obtain⟨q,l5,rfl⟩: ∃q l5,a4=q::l5:=by
  cases a4 with
  |nil=>simp at g5;omega
  |cons q l5=>exact⟨q,l5,rfl⟩
 have d6:=J.row
 obtain⟨x0,x1,Z⟩:=NG d6 (i:=0) (by simp)
 simp only[List.getElem_cons_zero,Nat.zero_mul,Nat.zero_add]at x0 x1 Z
 have y7:=J.y7
 have g8:=J.near q (by simp)
 have HQ:Hid (KV ps r=(q.1,U8 q,q.2.1-q.2.2)):=Q0 (by rw[d4.out,f5.out];rfl)
 obtain⟨C,u,p5⟩:=q
 dsimp only at x0 x1 Z
 have h5:(0:Int)< (m5:Int):=by omega
 have d5:Below wc.heap.size wc (wc.alloc (.cells #[I O C,I O u,I O p5] 244)):=(Q2 _ _).alloc (Q4 _) _
 have y:=Q0 (J.keep d5)
 have HZ:=Q0 (J9 wc 244 #[I O C,I O u,I O p5])
 have i2:=J.below.size
 have i3:=J5 J.quote
 have D:=Q0 J
 obtain⟨⟨b1,b2⟩,⟨b3,b4⟩,⟨b5,b6⟩⟩:=g8
 dsimp only at b1 b2 b3 b4 b5 b6
 clear d6 J d5
 have z0:(wc.alloc (.cells #[I O C,I O u,I O p5] 244)).drew.cell? ⟨wc.heap.size,0,none⟩=some (I O C):=by rw[J0 (Z2 HZ)];rfl
 have z1:(wc.alloc (.cells #[I O C,I O u,I O p5] 244)).drew.cell? ⟨wc.heap.size,1,none⟩=some (I O u):=by rw[J0 (Z2 HZ)];rfl
 have z2:(wc.alloc (.cells #[I O C,I O u,I O p5] 244)).drew.cell? ⟨wc.heap.size,2,none⟩=some (I O p5):=by rw[J0 (Z2 HZ)];rfl
 have hq:=(y.keep ((Q2 _ _).drew)).q
 have v:=Vs (C,u,p5)
 unfold QX at v
 dsimp only at v
 obtain⟨t5,d8⟩: ∃t,Hid (U8 (C,u,p5)=t):=⟨_,Q0 rfl⟩
 rw[d8.out]at v
 have h3:=Q0 v
 have h9:IntKind.i64.wrap (u-p5)=u-p5:=IntWalk.i64_in _ (by omega)
 clear v
 go_wp2_with fail
 clear x0 x1 Z y7
 go_region_held3 (fun w'=>(w'.cell? ⟨wc.heap.size,0,none⟩=some (I O C)/\w'.cell? ⟨wc.heap.size,1,none⟩=some (I O u)/\w'.cell? ⟨wc.heap.size,2,none⟩=some (I O p5))/\
   (w'.cell? ⟨w.heap.size+1,0,none⟩=some (BT w' ⟨w.heap.size+1,0,none⟩)/\w'.cell? ⟨w.heap.size+1,1,none⟩=some (BT w' ⟨w.heap.size+1,1,none⟩)/\w'.cell? ⟨w.heap.size+1,2,none⟩=some (BT w' ⟨w.heap.size+1,2,none⟩))/\w'.frozen? ⟨w.heap.size+1,0,none⟩=false/\w'.frozen? ⟨w.heap.size+1,1,none⟩=false/\w'.frozen? ⟨w.heap.size+1,2,none⟩=false)
  (first|exact⟨⟨z0,z1,z2⟩,⟨EF hq.1,EF hq.2.1,EF hq.2.2.1⟩,hq.2.2.2⟩|assumption|exact Pp (g:=wc.heap.size) (B:=w.heap.size+1) f0 (by assumption)|exact SZ (g:=wc.heap.size) (B:=w.heap.size+1) (by omega) 2 _ (SZ (by omega) 1 _ (SZ (by omega) 0 _ (by assumption))))
  ((go_at_call 144;refine(h3 _).mono ?_;rintro e w9 ⟨rfl,f0⟩))
 go_wp2_with fail
 try simp only[Exit.inBlock,Exit.then]
 have e7:=(y.keep ((Q2 _ _).drew)).keep f0
 refine Vt (g:=w.heap.size+1) (cs:= #[I O C,I O t5,I O (u-p5)]) (by with_unfolding_all rfl) (by with_unfolding_all rfl) (J7 (J7 (J7 e7.quote 0 _) 1 _) 2 _) rfl ?_
 refine⟨?_,((e7.below.setCell (by simp) _).setCell (by simp) _).setCell (by simp) _⟩
 rw[HQ.out,<-d8.out]
 rfl
