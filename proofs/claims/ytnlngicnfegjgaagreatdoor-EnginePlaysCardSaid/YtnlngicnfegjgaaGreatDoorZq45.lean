/- Parts. -/
import Derived.Test.YtnlngicnfegjgaaGreatDoorZq44
import Derived.Test.YtnlngicnfegjgaaGreatDoorZq41
set_option linter.unusedVariables false
set_option maxRecDepth 100000
set_option maxHeartbeats 8000000
open Go.Proofs.Tryz
open Go.Value renaming int→I,pointer→IP
open Go.IntKind renaming i64→O
namespace Go.Proofs.YtnlngicnfegjgaaGreatDoor
open Go.RowKit
theorem Jf4 i: ∀u∈CD i,u.oneCell'=true:=by intro u j;simp[CD]at j;subst j;rfl
theorem Tq:(prog.info? 3).map (fun i=>(i.zero,i.size,i.bytes))=some (some (I O 0),1,8):=by kernel_rfl
theorem Tr:(prog.info? 29).map (fun i=>(i.zero,i.size,i.bytes))=some (some (.agg #[I O 0,I O 0,I O 0,I O 0,I O 0]),5,40):=by kernel_rfl
theorem Jl8 {w g n c t zs} (h:J2 w (some ⟨g,0,none⟩) n c t 1 (Q9 CD zs)) {i} (j:i<zs.length):w.cell? ⟨g,i,none⟩=some (I O zs[i]):=by
 obtain⟨y,v,u⟩:=h.elem Dw (by omega) j
 cases v
 have h1:=u 0 _ rfl
 rw[Nat.mul_one,Nat.add_zero]at h1
 exact h1
theorem Qw6 {w g t i} (h:Q1 w g t #[I O i]):V4 w CD 1 (some ⟨g,0,none⟩) 1 [i]:=by
 refine⟨rfl,fun _=>⟨g,0,rfl,J5 h,fun k hk j u v=> ?_⟩⟩
 have y:k=0:=by simpa using hk
 subst y
 rw[J0 h]
 match j,v with
 |0,v=>exact v
theorem V8.idsSnoc {w w' R cs T tc AL Ap pc Ai Ai' ic ic' n own m L i} (h:V8 w R cs T tc AL Ap pc Ai ic own m L) (C:m.ids.length=n) (hk:Q6 (fun i=>Q7 Ai=some i) w w') (y:J2 w' Ai' (n+1) ic' 3 1 (Q9 CD m.ids++Q9 CD [i])) (v: ∀i,Q7 Ai'=some i->Q7 Ai=some i\/w.heap.size<=i):
  ∃own',V8 (w'.setCell ⟨R,9,none⟩ (.slice Ai' (n+1) ic')) R (cs.setIfInBounds 9 (.slice Ai' (n+1) ic')) T tc AL Ap pc Ai' ic' own' {m with ids:=m.ids++ [i]} L/\Z8 w (w'.setCell ⟨R,9,none⟩ (.slice Ai' (n+1) ic')) own own':=by
 have j:(m.ids++ [i]).length=n+1:=by rw[Y9,YL,C]
 have u:J2 w' Ai' (m.ids++ [i]).length ic' 3 1 (Q9 CD (m.ids++ [i])):=by
  rw[j,UE];exact y
 have key:=h.idsTo hk u v
 rw[j]at key
 exact key
def Rd (w wx:World) (R V X:Nat) (T:Option Addr) (tc:Nat) (AL Ap:Option Addr) (pc:Nat) (own:Nat->Nat->Prop) (ob:Array Value) (m:X7) (L:List Q8):Prop:=
 ∃cs Ai ic own',V8 wx R cs T tc AL Ap pc Ai ic own' m L/\Z3 w wx (fun i=> ∃k,own i k) (fun i=> ∃k,own' i k)/\(Q1 wx V 58 #[IP (some ⟨R,0,none⟩)]/\VG own' V)/\(Q1 wx X 29 ob/\VG own' X)
theorem An {w W A p v} (h:w.cell? p=some v) (hk:Q6 (fun i=>Q7 A=some i) w W) (j:Q7 A≠some p.block):W.cell? p=some v:=(hk.cell (V6 w _ h) j).trans h
theorem VA.fin {w wr R V X T tc Ap pc Ai ic own own' A c Fs ob m cs AL L F P}
  (h:VA w wr R V X T tc Ap pc Ai ic own A c Fs ob m cs AL own' L) (u: ∀i,F i↔ ∃k,own i k) (y:P Fs):XZ w wr R F P m 0 (.returned (.tuple #[.slice A (List.length Fs) c,I O 0])):=
 ⟨A,c,Fs,rfl,y,h.row,h.new_,_,h.mk_.at_,⟨h.step.1.mono (fun i j=>(u i).2 j),fun i j=>(h.step.2 i j).imp (fun e=>(u i).2 e) id⟩,fun g v ⟨k,hk⟩=>h.far g v k hk⟩
theorem VA.vol {w wr w' R V X T tc Ap pc Ai ic own own' A c Fs ob m m2 cs AL L F P}
  (h:VA w wr R V X T tc Ap pc Ai ic own A c Fs ob m cs AL own' L) (y: ∀i,F i↔ ∃k,own i k) (ht:C9 wr w' R (fun i=> ∃k,own' i k) m2) (E:P Fs):XZ w w' R F P m2 0 (.returned (.tuple #[.slice A (List.length Fs) c,I O 0])):=by
 obtain⟨C,h1,h2⟩:=ht
 have v:=h.step.trans h2
 refine⟨A,c,Fs,rfl,E,h.row.keeps h2.1 (fun g j ⟨k,hk⟩=>h.far g j k hk),h.new_,C,h1,⟨v.1.mono (fun i u=>(y i).2 u),fun i u=>(v.2 i u).imp (fun e=>(y i).2 e) id⟩,fun g j D=> ?_⟩
 rcases h2.2 g D with⟨k,hk⟩|e
 ·exact h.far g j k hk
 have:=h.row.lt j;omega
theorem Qn3 {w R F m} (h:D7 w R F m) (hI:VD m) (hids:m.ids.length<=100000) o (hf:R9 o):
  Calls prog 19 #[IP (some ⟨R,0,none⟩),X5 o] w fun ev w'=>XZ w w' R F (fun Fs=>Fs=UJ m o) (N9 m o) (QJ m o) ev:=by
 have l9:=Q0 h
 obtain⟨cs,T,tc,AL,Ap,pc,Ai,ic,own,L,hM,hF⟩:=h
 obtain⟨u,m7⟩:=exq ((V3 o).price)
 obtain⟨bd,y8⟩:=exq (FH o)
 obtain⟨rb,p9⟩:=exq (JH o)
 obtain⟨z0,u8⟩:=exq (VY m.ph o.kind)
 have i8:Hid (V3 o=⟨o.id,o.side,o.kind,u,o.qty⟩):=Q0 (by rw[<-m7];rfl)
 have g7:=Q0 y8
 have z1:Hid (H9 u o.qty=rb):=Q0 (by rw[<-m7];exact p9)
 have p3:=Q0 p9
 have l2:=Q0 u8
 have u6:Hid (R9 (V3 o)):=Q0 (by
  refine⟨hf.1,hf.2.1,hf.2.2.1, ?_,hf.2.2.2.2⟩;show G8 (if o.kind=2 then 1 else o.price)
  split
  ·unfold G8;omega
  exact hf.2.2.2.1)
 have v6:Hid (G8 o.price):=Q0 hf.2.2.2.1
 have HF:=Q0 hF
 have HI:=Q0 hI
 have HM:=Q0 hM
 have q7:Hid ((if o.kind=2 then 1 else o.price)=u):=Q0 m7
 obtain⟨oi,os,ok,op,oq⟩:=o
 dsimp only at i8 z1 q7 l2 v6
 have n6:Below w.heap.size w (w.alloc (.cells #[IP (some ⟨R,0,none⟩)] 58)):=(Q2 _ w).alloc (Q4 _) _
 have hv:=J9 w 58 #[IP (some ⟨R,0,none⟩)]
 obtain⟨w0,q2⟩:=exq (w.alloc (.cells #[IP (some ⟨R,0,none⟩)] 58))
 rw[q2]at n6 hv
 have p2:Below w0.heap.size w0 (w0.alloc (.cells #[I O oi,I O os,I O ok,I O op,I O oq] 29)):=(Q2 _ w0).alloc (Q4 _) _
 have hx:=J9 w0 29 #[I O oi,I O os,I O ok,I O op,I O oq]
 obtain⟨w1,g8⟩:=exq (w0.alloc (.cells #[I O oi,I O os,I O ok,I O op,I O oq] 29))
 rw[g8]at p2 hx
 have r9:Q1 w1 w.heap.size 58 #[IP (some ⟨R,0,none⟩)]:=J4 hv p2
 have k6:Below w.heap.size w w1:=n6.trans (p2.mono n6.size)
 have hlv:=J5 hv
 obtain⟨V,eV⟩:=exq w.heap.size
 obtain⟨X,eX⟩:=exq w0.heap.size
 have b0:Hid ((w.heap.size<=V/\w.heap.size<=X)/\V≠X):=Q0 ⟨⟨by omega,by omega⟩,by omega⟩
 rw[eV]at r9
 rw[eX]at hx
 have p7:=Q0 k6
 have HX:=Q0 hx
 have HV:=Q0 r9
 obtain⟨x0,x1,x2,x3,x4⟩:=A5 hx
 have xf:=J1 hx 3
 unfold X5
 dsimp only
 clear hM hF hI hf m7 y8 p9 u8 n6 hv p2 hx r9 k6 hlv
 go_enter func19,ntmps19
 go_upto_region 1 with fail
 try rw[q2]
 try rw[g8]
 try rw[eV]
 try rw[eX]
 clear q2 g8 eV eX
 go_upto_if 13 with fail
 go_cut [] (fun wx=>Hid (Below w.heap.size w wx/\Q1 wx V 58 #[IP (some ⟨R,0,none⟩)]/\Q1 wx X 29 #[I O oi,I O os,I O ok,I O u,I O oq]))
 case first=>
  by_cases hk:ok=2
  ·have d1:=Z0 hk
   have e1:u=1:=by rw[<-q7.out,Q5 hk]
   have H1:=Q0 e1;clear hk e1;go_wp2_with fail
   go_meet;rw[H1.out];have hks:=V2 w1 ⟨X,3,none⟩ (I O 1);exact Q0 ⟨p7.trans (hks.below (fun i e=>by have h1:=b0.1.2;have h2:i=X:=e;omega) p7.size),X0 HV hks (fun e=>b0.2 e),J7 HX 3 (I O 1)⟩
  have d1:=X3 hk;have e1:u=op:=by rw[<-q7.out,Q3 hk]
  have H1:=Q0 e1;clear hk e1;go_wp2_with fail
  go_meet;rw[H1.out];exact Q0 ⟨p7,HV,HX⟩
 obtain⟨k6,t7,t0⟩:=hcut.out
 have f6:=Q0 k6
 have r8:=Q0 t7
 have q1:=Q0 t0
 clear x0 x1 x2 x3 x4 xf p7 HX HV hcut k6
 obtain⟨x0,x1,x2,x3,x4⟩:=A5 t0
 have v0:wc.cell? ⟨V,0,none⟩=some (IP (some ⟨R,0,none⟩)):=by rw[J0 t7];rfl
 clear t0 t7
 obtain⟨w1,g8⟩:=exq wc
 rw[g8]at f6 q1 r8 x0 x1 x2 x3 x4 v0|-
 clear g8
 go_upto_region 3 with fail
 go_cut [29] (fun s29 wx=>s29= .bool bd/\wx=w1)
 case first=>
  have key: ∀b,(b=true↔(os≠1/\os≠2\/ok<1\/4<ok\/oi<1))->b=bd:=fun b hb=>by
   rw[<-g7.out];exact Jg.2 (hb.trans (Ak (o:=⟨oi,os,ok,op,oq⟩)).symm)
  by_cases c4:1<=os/\os<=2
  ·have f9:(decide (1<=os) &&decide (os<=2))=true:=by simp;omega
   have k0:=Q0 f9
   by_cases a5:1<=ok/\ok<=4
   ·have j0:(decide (1<=ok) &&decide (ok<=4))=true:=by simp;omega
    have m9:=Q0 j0
    by_cases o9:oi<1
    ·have t4:=Z5 o9
     have HK:=Q0 (key true (by simp;omega));clear key c4 a5 o9 f9 j0;go_wp2_with (go_at_call 55;refine(UH _ _ _ _).mono ?_;rintro e w' ⟨rfl,rfl⟩;first|rw[k0.out]|rw[m9.out])
     go_meet;exact⟨E7 Value.bool HK,rfl⟩
    have t4:=Z1 o9;have HK:=Q0 (key false (by simp;omega));clear key c4 a5 o9 f9 j0;go_wp2_with (go_at_call 55;refine(UH _ _ _ _).mono ?_;rintro e w' ⟨rfl,rfl⟩;first|rw[k0.out]|rw[m9.out])
    go_meet;exact⟨E7 Value.bool HK,rfl⟩
   have j0:(decide (1<=ok) &&decide (ok<=4))=false:=by simp;omega
   have m9:=Q0 j0;have HK:=Q0 (key true (by simp;omega));clear key c4 a5 f9 j0;go_wp2_with (go_at_call 55;refine(UH _ _ _ _).mono ?_;rintro e w' ⟨rfl,rfl⟩;first|rw[k0.out]|rw[m9.out])
   go_meet;exact⟨E7 Value.bool HK,rfl⟩
  have f9:(decide (1<=os) &&decide (os<=2))=false:=by simp;omega
  have k0:=Q0 f9;have HK:=Q0 (key true (by simp;omega));clear key c4 f9;go_wp2_with (go_at_call 55;refine(UH _ _ _ _).mono ?_;rintro e w' ⟨rfl,rfl⟩;rw[k0.out])
  go_meet;exact⟨E7 Value.bool HK,rfl⟩
 obtain⟨rfl,rfl⟩:=hcut
 cases bd with
 |true=>
  have HS:Hid (QJ m ⟨oi,os,ok,op,oq⟩=1):=Q0 (by unfold QJ;rw[Q5 g7.out]);go_wp2_with fail
  go_ret2;unfold N9 UJ;rw[HS.out,Q3 (by decide),Q3 (by decide)];exact YR (DE l9 f6) rfl
 |false=>
  go_wp2_with fail
  refine(DG _ _ _).mono ?_;rintro ev w2 ⟨rfl,rfl⟩;rw[z1.out]
  cases rb with
  |false=>
   have HS:Hid (QJ m ⟨oi,os,ok,op,oq⟩=2):=Q0 (by unfold QJ;rw[Q3 (by rw[g7.out];decide),Q5 p3.out]);go_wp2_with fail
   go_ret2;unfold N9 UJ;rw[HS.out,Q3 (by decide),Q3 (by decide)];exact YR (DE l9 f6) rfl
  |true=>
   have n4:=HM.below f6;have f3:=n4.cell n4.rc.c10;have HM2:=Q0 n4;obtain⟨ph,s2⟩:=exq m.ph;rw[s2]at f3 l2;have e3:=Q0 s2;have u2: ∀W,Calls prog 58 #[I O ph,I O ok] W fun e w'=>e= .returned (.bool z0)/\w'=W:=fun W=>(Qg3 ph ok W).mono (fun _ _ ⟨h1,h2⟩=>⟨h1.trans (by rw[l2.out]),h2.symm⟩)
   have y6:=Q0 u2;clear u2 n4 s2;go_wp2_with fail
   go_quiet ((go_at_call 58;exact TU (y6 _)))
   have f5:=U7 (Q2 wc.heap.size wc) nq;have i6:=Q0 (f6.trans (f5.mono f6.size));have p6:=Q0 (P9 q1 nq);have o3:=Q0 (P9 r8 nq);have c3:=Q0 (HM2.below f5);clear f5 y6 f3 x0 x1 x2 x3 x4 v0;generalize wc.drewN nq=w3 at i6 p6 c3 o3|-;clear f6 q1 HM2 r8
   cases z0 with
   |false=>
    have HS:Hid (QJ m ⟨oi,os,ok,op,oq⟩=6):=Q0 (by unfold QJ;rw[Q3 (by rw[g7.out];decide),Q3 (by rw[p3.out];decide),Q5 (by rw[e3.out];exact l2)]);go_wp2_with fail
    go_ret2;unfold N9 UJ;rw[HS.out,Q3 (by decide),Q3 (by decide)];exact YR (DE l9 i6) rfl
   |true=>
    obtain⟨x0,x1,x2,x3,x4⟩:=A5 p6;have v0:w3.cell? ⟨V,0,none⟩=some (IP (some ⟨R,0,none⟩)):=by rw[J0 o3.out];rfl
    have c9:=c3.cell c3.rc.c9;obtain⟨n9,r6⟩:=exq m.ids.length;rw[r6]at c9 hids;have j7:=Q0 r6;have t5:Hid (QJ m ⟨oi,os,ok,op,oq⟩=if oi∈m.ids then 9 else if 100<=m.L1.length+m.L2.length+m.pk.length then 12 else 0):=Q0 (by unfold QJ;rw[Q3 (by rw[g7.out];decide),Q3 (by rw[p3.out];decide),Q3 (by rw[e3.out,show VY ph (Q8.mk oi os ok op oq).kind=true from l2.out];decide)]);clear r6;go_wp2_with fail
    go_loopg [49] n9 (fun gg s49 wx=> ∃k,k<=n9/\gg=n9-k/\s49=I O k/\wx=w3/\Hid (∀j (hj:j<m.ids.length),j<k->m.ids[j]≠oi))
    case atStart=>exact⟨0,V5 _,rfl,rfl,rfl,Q0 fun j hj h=>absurd h (by omega)⟩
    obtain⟨k,hk,rfl,rfl,rfl,t2⟩:=hrel
    by_cases hlt:k<n9
    ·have y9:k<m.ids.length:=by rw[j7.out];exact hlt
     have q6:=c3.idr;obtain⟨gi,hgi⟩:=QC q6 (by omega);subst hgi;have y0:=Jl8 q6 y9;have hltz:(k:Int)< (n9:Int):=by omega
     have hk0:(0:Int)<=(k:Int):=by omega
     obtain⟨z,hz⟩:=exq (m.ids[k]);rw[hz]at y0;have HZ:=Q0 hz;clear q6 hz
     by_cases he:z=oi
     ·have d1:=Z0 he
      have HS:Hid (QJ m ⟨oi,os,ok,op,oq⟩=9):=Q0 (by rw[t5.out,Q5 (by rw[<-he,<-HZ.out];exact Y1 y9)]);clear he;go_wp2_with fail
      go_ret2;unfold N9 UJ;rw[HS.out,Q3 (by decide),Q3 (by decide)];exact YR (DE l9 i6) rfl
     have d1:=X3 he;have HNo2:Hid (∀j (hj:j<m.ids.length),j<k+1->m.ids[j]≠oi):=Q0 (fun j hj hjk=>by
      by_cases e:j=k
      ·subst e;rw[HZ.out];exact he
      exact t2 j hj (by omega))
     clear he;go_wp2_with fail
     go_roundg (n9- (k+1))
     case measure=>omega
     exact⟨k+1,by omega,rfl,by go_num,rfl,HNo2⟩
    obtain rfl:k=n9:=by omega
    have hltz: ¬(k:Int)< (k:Int):=by omega
    have HNin:Hid (oi∉m.ids):=Q0 (fun hin=>by
     obtain⟨j,hj,e⟩:=XG.1 hin;exact t2 j hj (by have:=j7.out;omega) e)
    have z9:Hid (QJ m ⟨oi,os,ok,op,oq⟩=if 100<=m.L1.length+m.L2.length+m.pk.length then 12 else 0):=Q0 (by rw[t5.out,Q3 HNin.out]);obtain⟨c7c,c7,-,-⟩:=c3.bk.cell;have c8:=c3.cell c3.rc.c8;obtain⟨pn,s3⟩:=exq m.pk.length;obtain⟨ln,p0⟩:=exq L.length;have hfew:ln<=100:=by have:=c3.few;omega
    have hpkn:pn<=100000:=by have:=HI.pkn;omega
    have x8:Hid (m.L1.length+m.L2.length=ln):=Q0 (by rw[c3.twin.len];exact p0);have k9:=Q0 s3;have HLl:=Q0 p0;rw[s3]at c8;rw[p0]at c7;clear s3 p0 t2 t5;go_wp2_with fail
    go_quiet (fail)
    have f5:=U7 (Q2 wr.heap.size wr) nq;have k1:=Q0 (i6.trans (f5.mono i6.size));have t8:=Q0 (P9 p6 nq);have q8:=Q0 (P9 o3 nq);have s7:=Q0 (c3.below f5);clear f5 c7 c8 c9 x0 x1 x2 x3 x4 v0;generalize wr.drewN nq=w5 at k1 t8 s7 q8|-;clear i6 p6 c3 o3
    by_cases n8:(ln:Int)+ (pn:Int)>=100
    ·have d1:=Z5 n8
     have HS:Hid (QJ m ⟨oi,os,ok,op,oq⟩=12):=Q0 (by rw[z9.out,Q5 (by rw[x8.out,k9.out];omega)]);go_wp2_with fail
     go_ret2;unfold N9 UJ;rw[HS.out,Q3 (by decide),Q3 (by decide)];exact YR (DE l9 k1) rfl
    have d1:=Z1 n8;have HS:Hid (QJ m ⟨oi,os,ok,op,oq⟩=0):=Q0 (by rw[z9.out,Q3 (by rw[x8.out,k9.out];omega)]);have hS1:N9 m ⟨oi,os,ok,op,oq⟩=ZM (Y6 m ⟨oi,os,ok,u,oq⟩) ⟨oi,os,ok,u,oq⟩:=by unfold N9;rw[Q5 HS.out,i8.out]
    have z8:UJ m ⟨oi,os,ok,op,oq⟩=UM (Y6 m ⟨oi,os,ok,u,oq⟩) ⟨oi,os,ok,u,oq⟩:=by unfold UJ;rw[Q5 HS.out,i8.out]
    have a0:=Q0 (And.intro HS (And.intro hS1 z8));clear hS1 z8;obtain⟨ii,hii,hiz0,hiz1,hiz2⟩:=N0 Tq;obtain⟨i0,j4,g9,h8,h7⟩:=N0 Tr;go_upto_region 17 with fail
    go_cut [] (fun wx=>Hid (Rd w wx R V X T tc AL Ap pc own #[I O oi,I O os,I O ok,I O u,I O oq] (Y6 m ⟨oi,os,ok,u,oq⟩) L))
    case first=>
     clear d1 n8;have h3:=s7.below (J3 (Q2 _ w5));have o1:=Z2 t8;have n7:=Z2 q8;have x0:=(A5 o1).1;have v0:w5.drew.cell? ⟨V,0,none⟩=some (IP (some ⟨R,0,none⟩)):=by rw[J0 n7];rfl
     have c9:=h3.cell h3.rc.c9;rw[j7.out]at c9;have nV:Q7 Ai≠some V:=fun e=>by have:=HM.ok.lt V 5 (HM.oi V e);have:=b0.1.1;omega
     have nX:Q7 Ai≠some X:=fun e=>by have:=HM.ok.lt X 5 (HM.oi X e);have:=b0.1.2;omega
     have nR:Q7 Ai≠some R:=fun e=>absurd (HM.ok.uni R 5 1 (HM.oi R e) HM.oR) (by decide)
     have a1:Hid (∀W,Q6 (fun i=>Q7 Ai=some i) w5.drew W->W.cell? ⟨V,0,none⟩=some (IP (some ⟨R,0,none⟩))/\W.cell? ⟨R,9,none⟩=some (.slice Ai k ic)/\W.cell? ⟨X,0,none⟩=some (I O oi)):=Q0 (fun W hk=>⟨An v0 hk nV,An c9 hk nR,An x0 hk nX⟩);have l1:Hid (∀W,Q6 (fun i=>Q7 Ai=some i) w5.drew W->W.frozen? ⟨R,9,none⟩=false):=Q0 (fun W hk=>J1 (X0 h3.bk.blk hk nR) 9);have HFin:Hid (∀W A' c',Q6 (fun i=>Q7 Ai=some i) w5.drew W->J2 W A' (k+1) c' 3 1 (Q9 CD m.ids++Q9 CD [oi])->(∀g,Q7 A'=some g->Q7 Ai=some g\/w5.drew.heap.size<=g)->Rd w (W.setCell ⟨R,9,none⟩ (.slice A' (k+1) c')) R V X T tc AL Ap pc own #[I O oi,I O os,I O ok,I O u,I O oq] (Y6 m ⟨oi,os,ok,u,oq⟩) L):=Q0 (fun W A' c' hk hr hg=>by
      obtain⟨own',d7,o7⟩:=h3.idsSnoc j7 hk hr hg;have fV: ∀Y,w.heap.size<=Y->Y<w5.drew.heap.size->VG own' Y:=fun Y hY hl k' t3=>by
       rcases o7.2 Y k' t3 with e|e
       ·have:=HM.ok.lt Y k' e;omega
       omega
      have gV:=fV V b0.1.1 (J5 n7);have gX:=fV X b0.1.2 (J5 o1);have oV: ∀Y,w.heap.size<=Y-> ¬ ∃k,own Y k:=fun Y hY ⟨k',t3⟩=>by have:=HM.ok.lt Y k' t3;omega
      exact⟨_,_,_,own',d7,(C1 (k1.trans ((J3 (Q2 _ w5)).mono k1.size))).trans (o7.bstep (fun i=>ZP)),⟨X0 n7 o7.1 (oV V b0.1.1),gV⟩,⟨X0 o1 o7.1 (oV X b0.1.2),gX⟩⟩)
     have n2:=h3.idr;rw[j7.out]at n2;have HOw:=Q0 n2;have HLt:Hid (∀g,Q7 Ai=some g->g<w5.drew.heap.size):=Q0 (fun g hg=>n2.lt hg);refine CH 11 (fun W=>W.cell? ⟨V,0,none⟩=some (IP (some ⟨R,0,none⟩))/\W.cell? ⟨R,9,none⟩=some (.slice Ai k ic)/\W.cell? ⟨X,0,none⟩=some (I O oi)) (by kernel_rfl) ⟨v0,c9,x0⟩ (fun C=> ?_);clear h3 o1 n7 x0 v0 c9 nV nX nR n2;refine tT 0 (IP (some ⟨R,0,none⟩)) ?_;refine tT 1 (IP (some ⟨R,0,none⟩)) ?_;refine tT 2 (IP (some ⟨R,0,none⟩)) ?_;refine tT 3 (IP (some ⟨R,9,none⟩)) ?_;refine tT 4 (.slice Ai k ic) ?_;refine tT 5 (IP (some ⟨X,0,none⟩)) ?_;refine tT 6 (I O oi) ?_;clear C;refine Y8 7 (by kernel_rfl) rfl (fun K1 v=> ?_);go_simp;have a2:Below w5.drew.heap.size w5.drew (w5.alloc (.cells #[I O oi] 3)).drew:=(Q2 _ w5.drew).alloc (Q4 _) (.cells #[I O oi] 3);have hZ:=Z2 (J9 w5 3 #[I O oi]);obtain⟨v1,q9⟩:=exq ((w5.alloc (.cells #[I O oi] 3)).drew);obtain⟨Z,eZ⟩:=exq w5.heap.size;rw[q9]at a2 hZ;rw[eZ]at hZ;have hZl:w5.drew.heap.size<=Z:=YZ eZ;rw[q9,eZ];clear q9 eZ;have a5:Q6 (fun i=>Q7 Ai=some i) w5.drew v1:=U1 a2 _;have HK1:=Q0 a5;have k5:=Q0 (Qw6 hZ);have HOw1:=Q0 (HOw.below a2);have hsz:=a2.size;refine v _ _ (a1 _ a5) (fun C=> ?_);clear v C a2 hZ a5
     try simp only[Act.put,List.setIfInBounds_toArray,List.set_cons_zero,List.set_cons_succ]
     refine Y8 8 (by kernel_rfl) rfl (fun K1 v=> ?_);refine KS Dw Jf4 (by rfl) _ _ _ (by rfl) 3 ii _ 8 underlying22 hii hiz0 hiz1 hiz2 rfl (by omega) Ai k ic (Q9 CD m.ids) (by rfl) HOw1 (some ⟨Z,0,none⟩) 1 1 [oi] (by rfl) k5 (by unfold maxLen;omega) (by omega) ?_;intro A' c' v2 a8 b8 b9;have r7:Q6 (fun i=>Q7 Ai=some i) w5.drew v2:=HK1.trans (GY b8) (fun i hi=> .inl hi);have k8:=Q0 r7;have e6:=Q0 a8;have HG2:Hid (∀g,Q7 A'=some g->Q7 Ai=some g\/w5.drew.heap.size<=g):=Q0 (fun g hg=>(b9 g hg).imp id (fun e=>by omega));refine v _ _ (a1 _ r7) (fun C=> ?_);clear v C a8 b8 b9 r7;simp only[Act.put,List.setIfInBounds_toArray,List.set_cons_zero,List.set_cons_succ];refine Y8 9 (by kernel_rfl) rfl (fun K1 v=> ?_);go_simp;refine v _ _ (a1 _ k8) (fun C=> ?_);clear v C;refine Y8 10 (by kernel_rfl) rfl (fun K1 v=> ?_);go_simp;refine v _ _ (a1 _ k8) (fun C=> ?_);clear v C;have g4:=l1.out _ k8;obtain⟨-,g2,-⟩:=a1.out _ k8;refine YY (by kernel_rfl) rfl (fun K1 v=> ?_);go_simp;refine v _ _ (YU (by kernel_rfl) ?_ _);clear v g4 g2;go_wp2_with fail
     go_meet;exact Q0 (HFin _ _ _ k8 e6 HG2)
    obtain⟨cs6,m8,p1,m6,d7,s4,⟨o5,x9⟩,p5,v4⟩:=hcut.out;obtain⟨w6,k3⟩:=exq wc;rw[k3]at d7 s4 o5 p5|-;have a7:=Q0 d7;have g0:=Q0 s4;have f0:=Q0 (And.intro o5 x9);have d8:=Q0 (And.intro p5 v4);obtain⟨x0,x1,x2,x3,x4⟩:=A5 p5;have v0:w6.cell? ⟨V,0,none⟩=some (IP (some ⟨R,0,none⟩)):=by rw[J0 o5];rfl
    have f3:=d7.cell d7.rc.c10;have c8:=d7.cell d7.rc.c8;have v8:(Value.int .i64 (Y6 m ⟨oi,os,ok,u,oq⟩).ph)=I O ph:=by rw[<-e3.out];rfl
    have e8:(Value.slice Ap (Y6 m ⟨oi,os,ok,u,oq⟩).pk.length pc)= .slice Ap pn pc:=by rw[<-k9.out];rfl
    rw[v8]at f3;rw[e8]at c8;have hpn9:pn<=100:=by omega
    clear d7 s4 o5 x9 p5 v4 k3 v8 e8 hcut d1 n8 s7 t8 q8 k1;go_upto_region 18 with fail
    go_cut [91] (fun s91 wx=>s91= .bool (decide (ok=4/\ph≠5))/\wx=w6)
    case first=>
     by_cases f8:ok=4
     ·have d4:=Z0 f8
      by_cases i9:ph=5
      ·have d5:=JW i9
       have HK:Hid (decide (ok=4/\ph≠5)=false):=Q0 (by simp[i9]);clear f8 i9;go_wp2_with fail
       go_meet;exact⟨by rw[HK.out],rfl⟩
      have d5:=JF i9;have HK:Hid (decide (ok=4/\ph≠5)=true):=Q0 (by simp[i9,f8]);clear f8 i9;go_wp2_with fail
      go_meet;exact⟨by rw[HK.out],rfl⟩
     have d4:=X3 f8;have HK:Hid (decide (ok=4/\ph≠5)=false):=Q0 (by simp[f8]);clear f8;go_wp2_with fail
     go_meet;exact⟨by rw[HK.out],rfl⟩
    obtain⟨rfl,rfl⟩:=hcut;obtain⟨w6,k3⟩:=exq wc;rw[k3]at a7 g0 f0 d8 x0 x1 x2 x3 x4 v0 f3 c8|-;clear k3
    by_cases b5:ok=4/\ph≠5
    ·have g6:decide (ok=4/\ph≠5)=true:=EC b5
     rw[g6];have a4:Hid (ZM (Y6 m ⟨oi,os,ok,u,oq⟩) ⟨oi,os,ok,u,oq⟩= {Y6 m ⟨oi,os,ok,u,oq⟩with pk:=m.pk++ [⟨oi,os,ok,u,oq⟩]}/\UM (Y6 m ⟨oi,os,ok,u,oq⟩) ⟨oi,os,ok,u,oq⟩= []):=by
      refine Q0 ⟨?_, ?_⟩
      ·unfold ZM;rw[Q5 ⟨b5.1,by show m.ph≠5;rw[e3.out];exact b5.2⟩];rfl
      unfold UM;rw[Q5 ⟨b5.1,by show m.ph≠5;rw[e3.out];exact b5.2⟩]
     clear b5 g6;have x5:=a7.park;have z6:V4 w6 X9 5 Ap pn m.pk:=by
      have h1:=VV H6 (by omega) x5;rw[show(Y6 m ⟨oi,os,ok,u,oq⟩).pk.length=pn from k9.out]at h1;exact h1
     have k5:=Q0 z6;have hnb:pn<=1000:=by omega
     have a1:Hid (∀W,Below w6.heap.size w6 W->(W.cell? ⟨X,0,none⟩=some (I O oi)/\W.cell? ⟨X,1,none⟩=some (I O os)/\W.cell? ⟨X,2,none⟩=some (I O ok)/\W.cell? ⟨X,3,none⟩=some (I O u)/\W.cell? ⟨X,4,none⟩=some (I O oq))/\W.cell? ⟨V,0,none⟩=some (IP (some ⟨R,0,none⟩))/\W.cell? ⟨R,8,none⟩=some (.slice Ap pn pc)):=Q0 (fun W hb=>⟨⟨T9 x0 hb,T9 x1 hb,T9 x2 hb,T9 x3 hb,T9 x4 hb⟩,T9 v0 hb,T9 c8 hb⟩);have t6:Hid (∀W,Below w6.heap.size w6 W->W.cell? ⟨R,8,none⟩=some (.slice Ap pn pc)):=Q0 (fun W hb=>T9 c8 hb);have l1:Hid (∀W,Below w6.heap.size w6 W->W.frozen? ⟨R,8,none⟩=false):=Q0 (fun W hb=>(a7.below hb).frozen 8);have r0:Hid (∀W A' c',Below w6.heap.size w6 W->J2 W A' (pn+1) c' 29 5 (Q9 X9 m.pk++Q9 X9 [⟨oi,os,ok,u,oq⟩])->(∀g,Q7 A'=some g->w6.heap.size<=g)->XZ w (W.setCell ⟨R,8,none⟩ (.slice A' (pn+1) c')) R F (fun Fs=>Fs=UM (Y6 m ⟨oi,os,ok,u,oq⟩) ⟨oi,os,ok,u,oq⟩) (ZM (Y6 m ⟨oi,os,ok,u,oq⟩) ⟨oi,os,ok,u,oq⟩) 0 (.returned (.tuple #[.slice none 0 0,I O 0]))):=Q0 (fun W A' c' hb hr hg=>by
      have u1:(m.pk++ [(⟨oi,os,ok,u,oq⟩:Q8)]).length=pn+1:=by rw[Y9,YL,k9.out]
      have a8:J2 W A' (m.pk++ [(⟨oi,os,ok,u,oq⟩:Q8)]).length c' 29 5 (Q9 X9 (m.pk++ [⟨oi,os,ok,u,oq⟩])):=by
       rw[u1,UE];exact hr
      obtain⟨x6,m4,f7⟩:=a7.pkTo hb a8 hg;rw[u1]at m4 f7;rw[a4.1,a4.2];refine YR ⟨_,m4.at_, ?_⟩ rfl;have h9:=g0.trans (f7.bstep (fun i=>ZP));exact⟨h9.1.mono (fun i hi=>(HF i).2 hi),fun i hi=>(h9.2 i hi).imp (fun e=>(HF i).2 e) id⟩)
     clear x5 z6 f3;go_upto_region 19 with fail
     refine CH 12 (fun W=>(W.cell? ⟨X,0,none⟩=some (I O oi)/\W.cell? ⟨X,1,none⟩=some (I O os)/\W.cell? ⟨X,2,none⟩=some (I O ok)/\W.cell? ⟨X,3,none⟩=some (I O u)/\W.cell? ⟨X,4,none⟩=some (I O oq))/\W.cell? ⟨V,0,none⟩=some (IP (some ⟨R,0,none⟩))/\W.cell? ⟨R,8,none⟩=some (.slice Ap pn pc)) (by kernel_rfl) (a1 _ (J3 (Q2 _ _))) (fun C=> ?_);refine tT 0 (IP (some ⟨R,0,none⟩)) ?_;refine tT 2 (IP (some ⟨R,0,none⟩)) ?_;refine tT 3 (IP (some ⟨R,0,none⟩)) ?_;refine tT 4 (IP (some ⟨R,8,none⟩)) ?_;refine tT 5 (.slice Ap pn pc) ?_;refine tT 7 (.agg #[I O oi,I O os,I O ok,I O u,I O oq]) ?_;clear x0 x1 x2 x3 x4 v0 c8 C;have y:=Q0 (show Below w6.heap.size w6 w6 from Q2 _ _);have a3:=Q0 (Q4 w6.heap.size);refine Xa 1 8 (by kernel_rfl) rfl rfl (fun K1 v=> ?_) (fun K1 v=> ?_)
     ·go_simp
      obtain⟨v1_,e4⟩:=exq ((w6.alloc (.cells #[] 29)).drew);have a2:Below w6.heap.size w6 v1_:=by rw[<-e4];exact J3 ((Q2 _ _).alloc (Q4 _) _)
      have d6:=Q0 (show J2 v1_ (some ⟨w6.heap.size,0,none⟩) 0 0 29 5 [] by rw[<-e4];exact GA _ _ _);have y:=Q0 (y.trans (a2.mono y.size));obtain⟨ge,d0⟩:=exq w6.heap.size;have g3:w6.heap.size<=ge:=by rw[<-d0];have:=a3.out;exact this
      rw[e4,d0];rw[d0]at d6;clear e4 d0 a2;have a3:=Q0 y.size;refine v _ _ (a1 _ y) (fun C=> ?_);clear v C;refine Xa 6 8 (by kernel_rfl) rfl rfl (fun K1 v=> ?_) (fun K1 v=> ?_)
      ·refine KS H6 JK (by rfl) _ _ _ (by rfl) 29 i0 _ 40 QM j4 g9 h8 h7 rfl (by omega) (some ⟨ge,0,none⟩) 0 0 [] (by rfl) d6 (Ap) pn pc m.pk (by rfl) (k5.below y (Q4 _)) (by unfold maxLen;omega) (by omega) ?_
       intro A1 c1 v2_ b1 b2 f1;rw[QQ,VZ]at b1;rw[QQ];have a5:=GY b2;have g1:=Q0 b1;have f4:=Q0 (ZY f1 (KE g3) a3);have y:=Q0 (ZQ y b2 (KE g3) a3);have a3:=Q0 y.size;clear b1 b2 f1 a5;refine v _ _ (a1 _ y) (fun C=> ?_);clear v C;simp only[Act.put,List.setIfInBounds_toArray,List.set_cons_zero,List.set_cons_succ];refine Y8 8 (by kernel_rfl) rfl (fun K1 v=> ?_);go_simp;obtain⟨v3_,p4⟩:=exq (v2_.alloc (.cells #[I O oi,I O os,I O ok,I O u,I O oq] 29));have a2:Below v2_.heap.size v2_ v3_:=by rw[<-p4];exact(Q2 _ _).alloc (Q4 _) _
       have g1:=Q0 (g1.below a2);have a6:=Q0 (show V4 v3_ X9 5 (some ⟨v2_.heap.size,0,none⟩) 1 [(⟨oi,os,ok,u,oq⟩:Q8)] by rw[<-p4];exact RA (p:=(⟨oi,os,ok,u,oq⟩:Q8)) (t:=29) (S5 v2_ _) (by simp));have y:=Q0 (y.trans (a2.mono y.size));obtain⟨gb,c0⟩:=exq v2_.heap.size;rw[p4,c0];rw[c0]at a6;clear p4 c0 a2;have a3:=Q0 y.size;refine v _ _ (a1 _ y) (fun C=> ?_);clear v C;refine Y8 9 (by kernel_rfl) rfl (fun K1 v=> ?_);refine KS H6 JK (by rfl) _ _ _ (by rfl) 29 i0 _ 40 QM j4 g9 h8 h7 rfl (by omega) (A1) pn c1 (Q9 X9 m.pk) (by rfl) g1 (some ⟨gb,0,none⟩) 1 1 [(⟨oi,os,ok,u,oq⟩:Q8)] (by rfl) a6 (by unfold maxLen;omega) (by omega) ?_;intro A2 c2 v9 a8 b8 b9;have l5:=Q0 a8;have m0:=Q0 (ZY b9 f4 a3);have y:=Q0 (ZQ y b8 f4 a3);clear a8 b8 b9;refine v _ _ (a1 _ y) (fun C=> ?_);clear v C;simp only[Act.put,List.setIfInBounds_toArray,List.set_cons_zero,List.set_cons_succ];refine Y8 10 (by kernel_rfl) rfl (fun K1 v=> ?_);go_simp;refine v _ _ (a1 _ y) (fun C=> ?_);clear v C;refine Y8 11 (by kernel_rfl) rfl (fun K1 v=> ?_);go_simp;refine v _ _ (a1 _ y) (fun C=> ?_);clear v C;have g4:=l1.out _ y;have g2:=t6.out _ y;refine YY (by kernel_rfl) rfl (fun K1 v=> ?_);go_simp;refine v _ _ (YU (by kernel_rfl) ?_ _);clear v g4 g2;go_wp2_with fail
       go_ret2;rw[a0.1,a0.2.1,a0.2.2];exact r0 _ _ _ y l5 m0
      go_simp;obtain⟨v2_,d9⟩:=exq (v1_.alloc (.cells #[I O oi,I O os,I O ok,I O u,I O oq] 29));have a2:Below v1_.heap.size v1_ v2_:=by rw[<-d9];exact(Q2 _ _).alloc (Q4 _) _
      have hlte:ge<v1_.heap.size:=d6.lt rfl;have d6:=Q0 (d6.below a2);have a6:=Q0 (show V4 v2_ X9 5 (some ⟨v1_.heap.size,0,none⟩) 1 [(⟨oi,os,ok,u,oq⟩:Q8)] by rw[<-d9];exact RA (p:=(⟨oi,os,ok,u,oq⟩:Q8)) (t:=29) (S5 v1_ _) (by simp));have y:=Q0 (y.trans (a2.mono y.size));obtain⟨gb,c0⟩:=exq v1_.heap.size;have q0:ge≠gb:=by omega
      rw[d9,c0];rw[c0]at a6;clear d9 c0 a2;have a3:=Q0 y.size;refine v _ _ (a1 _ y) (fun C=> ?_);clear v C;refine Y8 6 (by kernel_rfl) rfl (fun K1 v=> ?_);refine KS H6 JK (by rfl) _ _ _ (by rfl) 29 i0 _ 40 QM j4 g9 h8 h7 rfl (by omega) (some ⟨ge,0,none⟩) 0 0 [] (by rfl) d6 (Ap) pn pc m.pk (by rfl) (k5.below y (Q4 _)) (by unfold maxLen;omega) (by omega) ?_;intro A1 c1 v3_ b1 b2 f1;rw[QQ,VZ]at b1;rw[QQ];have a5:=GY b2;have a6:=Q0 (a6.keeps a5 (fun g hg e=>by cases hg;have e:some ge=some gb:=e;exact q0 (KZ e)));have g1:=Q0 b1;have f4:=Q0 (ZY f1 (KE g3) a3);have y:=Q0 (ZQ y b2 (KE g3) a3);have a3:=Q0 y.size;clear b1 b2 f1 a5;refine v _ _ (a1 _ y) (fun C=> ?_);clear v C;simp only[Act.put,List.setIfInBounds_toArray,List.set_cons_zero,List.set_cons_succ];refine Y8 9 (by kernel_rfl) rfl (fun K1 v=> ?_);refine KS H6 JK (by rfl) _ _ _ (by rfl) 29 i0 _ 40 QM j4 g9 h8 h7 rfl (by omega) (A1) pn c1 (Q9 X9 m.pk) (by rfl) g1 (some ⟨gb,0,none⟩) 1 1 [(⟨oi,os,ok,u,oq⟩:Q8)] (by rfl) a6 (by unfold maxLen;omega) (by omega) ?_;intro A2 c2 v9 a8 b8 b9;have l5:=Q0 a8;have m0:=Q0 (ZY b9 f4 a3);have y:=Q0 (ZQ y b8 f4 a3);clear a8 b8 b9;refine v _ _ (a1 _ y) (fun C=> ?_);clear v C;simp only[Act.put,List.setIfInBounds_toArray,List.set_cons_zero,List.set_cons_succ];refine Y8 10 (by kernel_rfl) rfl (fun K1 v=> ?_);go_simp;refine v _ _ (a1 _ y) (fun C=> ?_);clear v C;refine Y8 11 (by kernel_rfl) rfl (fun K1 v=> ?_);go_simp;refine v _ _ (a1 _ y) (fun C=> ?_);clear v C;have g4:=l1.out _ y;have g2:=t6.out _ y;refine YY (by kernel_rfl) rfl (fun K1 v=> ?_);go_simp;refine v _ _ (YU (by kernel_rfl) ?_ _);clear v g4 g2;go_wp2_with fail
      go_ret2;rw[a0.1,a0.2.1,a0.2.2];exact r0 _ _ _ y l5 m0
     go_simp;obtain⟨v1_,e4⟩:=exq ((w6.alloc (.cells #[I O oi,I O os,I O ok,I O u,I O oq] 29)).drew);have a2:Below w6.heap.size w6 v1_:=by rw[<-e4];exact J3 ((Q2 _ _).alloc (Q4 _) _)
     have a6:=Q0 (show V4 v1_ X9 5 (some ⟨w6.heap.size,0,none⟩) 1 [(⟨oi,os,ok,u,oq⟩:Q8)] by rw[<-e4];exact RA (p:=(⟨oi,os,ok,u,oq⟩:Q8)) (t:=29) (S5 w6 _) (by simp));have y:=Q0 (y.trans (a2.mono y.size));obtain⟨gb,c0⟩:=exq w6.heap.size;rw[e4,c0];rw[c0]at a6;clear e4 c0 a2;have a3:=Q0 y.size;refine v _ _ (a1 _ y) (fun C=> ?_);clear v C;refine Y8 1 (by kernel_rfl) rfl (fun K1 v=> ?_);go_simp;obtain⟨v2_,d9⟩:=exq (v1_.alloc (.cells #[] 29));have a2:Below v1_.heap.size v1_ v2_:=by rw[<-d9];exact(Q2 _ _).alloc (Q4 _) _
     have hltb:gb<v1_.heap.size:=by obtain⟨b,o,h1,h2,-⟩:=a6.2 (by omega);cases h1;exact h2
     have a6:=Q0 (a6.below a2 (Q4 _));have d6:=Q0 (show J2 v2_ (some ⟨v1_.heap.size,0,none⟩) 0 0 29 5 [] by rw[<-d9];exact GA _ _ _);have y:=Q0 (y.trans (a2.mono y.size));obtain⟨ge,d0⟩:=exq v1_.heap.size;have g3:w6.heap.size<=ge:=by rw[<-d0];have:=a3.out;exact this
     have q0:ge≠gb:=by omega
     rw[d9,d0];rw[d0]at d6;clear d9 d0 a2;have a3:=Q0 y.size;refine v _ _ (a1 _ y) (fun C=> ?_);clear v C;refine Y8 6 (by kernel_rfl) rfl (fun K1 v=> ?_);refine KS H6 JK (by rfl) _ _ _ (by rfl) 29 i0 _ 40 QM j4 g9 h8 h7 rfl (by omega) (some ⟨ge,0,none⟩) 0 0 [] (by rfl) d6 (Ap) pn pc m.pk (by rfl) (k5.below y (Q4 _)) (by unfold maxLen;omega) (by omega) ?_;intro A1 c1 v3_ b1 b2 f1;rw[QQ,VZ]at b1;rw[QQ];have a5:=GY b2;have a6:=Q0 (a6.keeps a5 (fun g hg e=>by cases hg;have e:some ge=some gb:=e;exact q0 (KZ e)));have g1:=Q0 b1;have f4:=Q0 (ZY f1 (KE g3) a3);have y:=Q0 (ZQ y b2 (KE g3) a3);have a3:=Q0 y.size;clear b1 b2 f1 a5;refine v _ _ (a1 _ y) (fun C=> ?_);clear v C;simp only[Act.put,List.setIfInBounds_toArray,List.set_cons_zero,List.set_cons_succ];refine Y8 9 (by kernel_rfl) rfl (fun K1 v=> ?_);refine KS H6 JK (by rfl) _ _ _ (by rfl) 29 i0 _ 40 QM j4 g9 h8 h7 rfl (by omega) (A1) pn c1 (Q9 X9 m.pk) (by rfl) g1 (some ⟨gb,0,none⟩) 1 1 [(⟨oi,os,ok,u,oq⟩:Q8)] (by rfl) a6 (by unfold maxLen;omega) (by omega) ?_;intro A2 c2 v9 a8 b8 b9;have l5:=Q0 a8;have m0:=Q0 (ZY b9 f4 a3);have y:=Q0 (ZQ y b8 f4 a3);clear a8 b8 b9;refine v _ _ (a1 _ y) (fun C=> ?_);clear v C;simp only[Act.put,List.setIfInBounds_toArray,List.set_cons_zero,List.set_cons_succ];refine Y8 10 (by kernel_rfl) rfl (fun K1 v=> ?_);go_simp;refine v _ _ (a1 _ y) (fun C=> ?_);clear v C;refine Y8 11 (by kernel_rfl) rfl (fun K1 v=> ?_);go_simp;refine v _ _ (a1 _ y) (fun C=> ?_);clear v C;have g4:=l1.out _ y;have g2:=t6.out _ y;refine YY (by kernel_rfl) rfl (fun K1 v=> ?_);go_simp;refine v _ _ (YU (by kernel_rfl) ?_ _);clear v g4 g2;go_wp2_with fail
     go_ret2;rw[a0.1,a0.2.1,a0.2.2];exact r0 _ _ _ y l5 m0
    have g6:decide (ok=4/\ph≠5)=false:=PP b5;rw[g6];clear c8
    by_cases j1:ph=3
    ·have d3:=JW j1
     have a4:Hid (ZM (Y6 m ⟨oi,os,ok,u,oq⟩) ⟨oi,os,ok,u,oq⟩=M3 (Y6 m ⟨oi,os,ok,u,oq⟩) ⟨oi,os,ok,u,oq⟩/\UM (Y6 m ⟨oi,os,ok,u,oq⟩) ⟨oi,os,ok,u,oq⟩=(D9 (Y6 m ⟨oi,os,ok,u,oq⟩) ⟨oi,os,ok,u,oq⟩).fills):=by
      have e1: ¬((⟨oi,os,ok,u,oq⟩:Q8).kind=4/\(Y6 m ⟨oi,os,ok,u,oq⟩).ph≠5):=fun x=>b5 ⟨x.1,by have:=x.2;rw[show(Y6 m ⟨oi,os,ok,u,oq⟩).ph=ph from e3.out]at this;exact this⟩
      have e2: ¬(Y6 m ⟨oi,os,ok,u,oq⟩).ph≠3:=fun x=>x (e3.trans j1)
      refine Q0 ⟨?_, ?_⟩
      ·unfold ZM;rw[Q3 e1,Q3 e2]
      unfold UM;rw[Q3 e1,Q3 e2]
     clear b5 g6 j1;have c6:R9 ⟨oi,os,ok,u,oq⟩:=by have h1:=u6.out;rw[i8.out]at h1;exact h1
     have n0:JJ (V3 ⟨oi,os,ok,op,oq⟩)/\Z4 (V3 ⟨oi,os,ok,op,oq⟩).side/\1<=ok/\ok<=4:=Lc ⟨c6.1,c6.2.1,c6.2.2.1,v6,c6.2.2.2.2⟩ g7 p3;rw[i8.out]at n0;have u0:Z4 os:=n0.2.1;have z3:0<=oq:=by have:=n0.1.2.2.2.1;show 0<=oq;have e:(⟨oi,os,ok,u,oq⟩:Q8).qty=oq:=rfl;omega
     obtain⟨M,p8⟩:=exq (Y6 m ⟨oi,os,ok,u,oq⟩);rw[p8]at a7 a4;have z4:=a7.twin.lists a7.few;have l4:=Uv (al:=fun la p=>ZK M.st M.dy M.an la p) (tr:=fun _ p=>p) (X6 (3-os) M.L1 M.L2) ⟨oi,os,ok,u,oq⟩ M.la c6 z3 (Kj z4 _);have l0:=Uy (fun la p=>ZK M.st M.dy M.an la p) (fun _ p=>p) (X6 (3-os) M.L1 M.L2) ⟨oi,os,ok,u,oq⟩ M.la;have z2:V7 (fun la p=>ZK M.st M.dy M.an la p) (fun _ p=>p) (X6 (3-os) M.L1 M.L2) ⟨oi,os,ok,u,oq⟩ M.la=D9 M ⟨oi,os,ok,u,oq⟩:=rfl;rw[z2]at l4 l0;obtain⟨r,hr⟩:=exq (D9 M ⟨oi,os,ok,u,oq⟩);rw[hr]at l4 l0 a4;obtain⟨fl,⟨U,N,E,J,D⟩,sp,st,rst⟩:=r;dsimp only at l4 l0 a4;have HR:=Q0 hr;have HLe:=Q0 l4.1;have v7:=Q0 l0;have t9:=Q0 u0;have x7:(-1000000000000<=M.now/\M.now<=1000000000000)/\(0<=M.tk/\M.tk<=1000000):=by
      rw[<-p8];have h1:=HI.now;exact⟨⟨by show -1000000000000<=m.now;omega,h1.2⟩,HI.tk⟩
     have n5:=Q0 x7;have y7: ∀W,Below w6.heap.size w6 W->Calls prog 60 #[IP (some ⟨R,7,none⟩),.agg #[I O oi,I O os,I O ok,I O u,I O oq],.func (.func 61) #[IP (some ⟨R,0,none⟩)] #[],.func (.func 62) #[] #[IP (some ⟨V,0,none⟩)]] W fun ev w'=> ∃A c G' M1 M2,ev= .returned (.tuple #[.slice A (List.length fl) c,.agg #[I O U,I O N,I O E,I O J,I O D],.bool sp])/\VC (Zh R V T tc Ap pc m8 p1 M) W w' st (fun i=>(∃k,m6 i k)\/i=V) G' M1 M2 A c fl/\X6 os M1 M2=X6 os M.L1 M.L2/\X6 (3-os) M1 M2=rst:=by
      intro W hb;have hk:Zh R V T tc Ap pc m8 p1 M M.la M.L1 M.L2 (fun i=>(∃k,m6 i k)\/i=V) W:=⟨cs6,AL,m6,L,a7.below hb,J4 f0.1 hb,f0.2,fun i=>ZP⟩;have hc:=Wv (Qw3 R V T tc Ap pc m8 p1 M) (fun hk sd hs=>by
       obtain⟨j2,h0,own',L',hk⟩:=hk;have n1:=hk.mk_;have h1:=Hc n1.bk (by have:=n1.few;omega) sd (Qk8 n1.twin sd);rw[<-n1.twin.side hs]at h1;exact h1) W M.la _ M.L1 M.L2 hk rfl oi os ok u oq t9 c6
      refine hc.mono ?_;rintro ev w' ⟨A,c,G',M1,M2,he,i7,c4,j3⟩;have hr:V7 (fun la p=>ZK M.st M.dy M.an la p) (fun _ p=>p) (X6 (3-os) M.L1 M.L2) ⟨oi,os,ok,u,oq⟩ M.la=⟨fl,⟨U,N,E,J,D⟩,sp,st,rst⟩:=HR.out;rw[hr]at he i7 j3;exact⟨A,c,G',M1,M2,he,i7,c4,j3⟩
     have r5:=Q0 y7;have o4:=Q0 p8;clear y7 c6 n0 u0 z3 z4 l4 l0 z2 hr p8 x7;go_upto_region 24 with fail
     clear f3
     go_cut [8,9,10] (fun s8 s9 s10 wx=> ∃A c Y j2 h0 own' L',s8= .slice A (List.length fl) c/\s9= IP (some ⟨Y,0,none⟩)/\s10= .bool sp/\Q1 wx Y 29 #[I O U,I O N,I O E,I O J,I O D]/\VG own' Y/\VA w wx R V X T tc Ap pc m8 p1 own A c fl #[I O oi,I O os,I O ok,I O u,I O oq] (XU M ⟨oi,os,ok,u,oq⟩) j2 h0 own' L')
     case first=>
      have a9:=And.intro (T9 v0 (J3 (Q2 _ w6))) (And.intro (T9 x0 (J3 (Q2 _ w6))) (And.intro (T9 x1 (J3 (Q2 _ w6))) (And.intro (T9 x2 (J3 (Q2 _ w6))) (And.intro (T9 x3 (J3 (Q2 _ w6))) (T9 x4 (J3 (Q2 _ w6)))))));refine XF (fun t=> [].contains t) (fun W=>W.cell? ⟨V,0,none⟩=some (IP (some ⟨R,0,none⟩))/\W.cell? ⟨X,0,none⟩=some (I O oi)/\W.cell? ⟨X,1,none⟩=some (I O os)/\W.cell? ⟨X,2,none⟩=some (I O ok)/\W.cell? ⟨X,3,none⟩=some (I O u)/\W.cell? ⟨X,4,none⟩=some (I O oq)) (by kernel_rfl) a9 (fun a9=> ?_);clear x0 x1 x2 x3 x4 v0;refine tM 0 (IP (some ⟨R,0,none⟩)) ?_;refine tM 1 (IP (some ⟨R,0,none⟩)) ?_;refine tM 2 (IP (some ⟨R,7,none⟩)) ?_;refine tM 3 (.agg #[I O oi,I O os,I O ok,I O u,I O oq]) ?_;refine tM 4 (IP (some ⟨R,0,none⟩)) ?_;refine tM 5 (.func (.func 61) #[IP (some ⟨R,0,none⟩)] #[]) ?_;refine tM 6 (.func (.func 62) #[] #[IP (some ⟨V,0,none⟩)]) ?_;refine UK (i:=7) (j:=12) (by kernel_rfl) ?_ ?_
      ·skip
       refine L9 7 rfl (fun K1 v=> ?_);go_simp;refine(r5 w6.drew (J3 (Q2 _ _))).mono ?_;rintro ev w4 ⟨A,c,G',M1,M2,rfl,i7,c4,j3⟩;obtain⟨j2,h0,own',L',h4,ho4⟩:=Dz a7.out g0.out (J3 (Q2 _ w6)) (Z2 d8.out.1) d8.out.2 b0.out.1 b0.out.2 t9.out HR.out i7 c4 j3;have k4:=h4.cells;refine v _ _ (fun _=>k4) ?_;clear v a9;refine tM 8 (.tuple #[.slice A (List.length fl) c,.agg #[I O U,I O N,I O E,I O J,I O D],.bool sp]) ?_;refine tM 9 (.slice A (List.length fl) c) ?_;refine tM 10 (.agg #[I O U,I O N,I O E,I O J,I O D]) ?_;refine tM 11 (.bool sp) ?_;refine oM 12 fun K2 j5=> ?_
       go_simp;have z7:Below w4.heap.size w4 (w4.alloc (.cells #[I O 0,I O 0,I O 0,I O 0,I O 0] 29)):=(Q2 _ _).alloc (Q4 _) _;have g5:=J9 w4 29 #[I O 0,I O 0,I O 0,I O 0,I O 0];obtain⟨Y,eY⟩:=exq w4.heap.size;have hYn4:w4.heap.size<=Y:=YZ eY;obtain⟨w5,u4⟩:=exq (w4.alloc (.cells #[I O 0,I O 0,I O 0,I O 0,I O 0] 29));rw[u4]at z7 g5|-;rw[eY]at g5|-;have h5:=h4.below z7;have e7:=h4.newFar hYn4;have n3:Y≠V:=fun e=>by have:=J5 h4.var;omega
       have r2:Y≠X:=fun e=>by have:=J5 h4.box;omega
       have s5:Q7 A≠some Y:=fun e=>by have:=h4.row.lt e;omega
       have r4:w.heap.size<=Y:=by have:=h4.step.1.size;omega
       refine j5 _ _ (fun _=>h5.cells) ?_;have hS5:=h5.cells;clear j5 u4 eY k4;refine tM 13 (.slice A (List.length fl) c) ?_;refine oM 14 fun K5 l7=> ?_
       refine(Q5 (by rfl)).mpr ?_;refine M9 29 _ _ rfl Y #[I O U,I O N,I O E,I O J,I O D] rfl rfl 29 #[I O 0,I O 0,I O 0,I O 0,I O 0] g5 (by show(prog.info? 29).map (·.size)=some 5;kernel_rfl) rfl (by simp[Value.oneCell']) ?_;have l3:=D6 _ _ _ #[I O U,I O N,I O E,I O J,I O D] _ g5;have k7:=B7 w5 Y #[I O U,I O N,I O E,I O J,I O D];obtain⟨w9,j6⟩:=exq (w5.setRow Y #[I O U,I O N,I O E,I O J,I O D]);rw[j6]at l3 k7|-;have h6:=h5.keepY k7 e7 n3 r2 s5 r4;refine l7 _ _ (fun _=>h6.cells) ?_;have hS6:=h6.cells;clear l7 j6;simp only[Act.put];refine tM 15 (.bool sp) ?_;refine D5 (by kernel_rfl) ?_ _;go_wp2_with fail
       go_meet;exact⟨A,c,Y,j2,h0,own',L',rfl,rfl,rfl,l3,e7,h6⟩
      skip
      refine L9 12 rfl (fun K1 v=> ?_);go_simp;have j9:Below w6.heap.size w6 (w6.alloc (.cells #[I O 0,I O 0,I O 0,I O 0,I O 0] 29)).drew:=J3 ((Q2 _ _).alloc (Q4 _) _);have s6:=Z2 (J9 w6 29 #[I O 0,I O 0,I O 0,I O 0,I O 0]);obtain⟨Y,eY⟩:=exq w6.heap.size;obtain⟨w4,u7⟩:=exq ((w6.alloc (.cells #[I O 0,I O 0,I O 0,I O 0,I O 0] 29)).drew);rw[u7]at j9 s6|-;rw[eY]at s6|-;have hYf6:VG m6 Y:=fun k hk=>by have:=a7.ok.lt Y k hk;omega
      have n3:Y≠V:=fun e=>by have:=J5 f0.1;omega
      have r2:Y≠X:=fun e=>by have:=J5 d8.1;omega
      have r4:w.heap.size<=Y:=by have:=g0.1.size;omega
      have u9:=J4 d8.1 j9;have k4:=And.intro (show w4.cell? ⟨V,0,none⟩=some (IP (some ⟨R,0,none⟩)) by rw[J0 (J4 f0.1 j9)];rfl) (A5 u9);refine v _ _ (fun _=>k4) ?_;clear v u7 eY a9;refine oM 7 fun K2 j5=> ?_
      go_simp;refine(r5 w4 j9).mono ?_;rintro ev w5 ⟨A,c,G',M1,M2,rfl,i7,c4,j3⟩;obtain⟨j2,h0,own',L',h5,ho5⟩:=Dz a7.out g0.out j9 u9 d8.out.2 b0.out.1 b0.out.2 t9.out HR.out i7 c4 j3;obtain⟨g5,e7,s5⟩:=ho5 _ _ _ s6 hYf6 n3;have hS5:=h5.cells;refine j5 _ _ (fun _=>hS5) ?_;clear j5 k4;refine tM 8 (.tuple #[.slice A (List.length fl) c,.agg #[I O U,I O N,I O E,I O J,I O D],.bool sp]) ?_;refine tM 9 (.slice A (List.length fl) c) ?_;refine tM 10 (.agg #[I O U,I O N,I O E,I O J,I O D]) ?_;refine tM 11 (.bool sp) ?_;refine tM 13 (.slice A (List.length fl) c) ?_;refine oM 14 fun K5 l7=> ?_
      refine(Q5 (by rfl)).mpr ?_;refine M9 29 _ _ rfl Y #[I O U,I O N,I O E,I O J,I O D] rfl rfl 29 #[I O 0,I O 0,I O 0,I O 0,I O 0] g5 (by show(prog.info? 29).map (·.size)=some 5;kernel_rfl) rfl (by simp[Value.oneCell']) ?_;have l3:=D6 _ _ _ #[I O U,I O N,I O E,I O J,I O D] _ g5;have k7:=B7 w5 Y #[I O U,I O N,I O E,I O J,I O D];obtain⟨w9,j6⟩:=exq (w5.setRow Y #[I O U,I O N,I O E,I O J,I O D]);rw[j6]at l3 k7|-;have h6:=h5.keepY k7 e7 n3 r2 s5 r4;refine l7 _ _ (fun _=>h6.cells) ?_;have hS6:=h6.cells;clear l7 j6;simp only[Act.put];refine tM 15 (.bool sp) ?_;refine D5 (by kernel_rfl) ?_ _;go_wp2_with fail
      go_meet;exact⟨A,c,Y,j2,h0,own',L',rfl,rfl,rfl,l3,e7,h6⟩
     obtain⟨A,c,Y,cs7,AL7,x6,L7,rfl,rfl,rfl,s1,e7,r1⟩:=hcut;obtain⟨w7,u5⟩:=exq wc;rw[u5]at s1 r1|-;have o6:=Q0 (And.intro s1 e7);have c5:=Q0 r1;clear s1 e7 r1 u5 v0 x0 x1 x2 x3 x4 r5 a7 f0 d8 g0;have e6:Hid ((D9 M ⟨oi,os,ok,u,oq⟩).left=⟨U,N,E,J,D⟩/\(D9 M ⟨oi,os,ok,u,oq⟩).stop=sp):=Q0 (by rw[HR.out];exact⟨rfl,rfl⟩);have l6:Hid ((XU M ⟨oi,os,ok,u,oq⟩).now=M.now/\(XU M ⟨oi,os,ok,u,oq⟩).tk=M.tk):=Q0 ⟨rfl,rfl⟩;obtain⟨m1,q3⟩:=exq (XU M ⟨oi,os,ok,u,oq⟩);rw[q3]at c5 l6;have z5:=Q0 q3;clear q3;obtain⟨v0,x0,x1,x2,x3,x4⟩:=c5.cells;obtain⟨y0,y1,y2,y3,y4⟩:=A5 o6.1;clear x0 x1 x3 x4 y0 y1 y2 y3
     by_cases e5:0<D/\ok≠2
     ·have l8:Hid (C5 M ⟨oi,os,ok,u,oq⟩=M6 m1 ⟨U,N,E,J,D⟩):=Q0 (by
       unfold C5;rw[e6.1,Q5 ⟨e5.1,by show E≠2;rw[v7.out];exact e5.2⟩,z5.out])
      have d5:decide ((0:Int)<D)=true:=Z5 e5.1;have d2:=JF e5.2;have d5':=e5.1;clear e5;have j8:=Am (c5.mk_.below (J3 (Q2 _ w7))) ⟨U,N,E,J,D⟩ HLe;unfold X5 at j8;dsimp only at j8;obtain⟨re,k2⟩:=exq (JT L7 ⟨U,N,E,J,D⟩);rw[k2]at j8;have f2:=Q0 j8;have a9:=And.intro (T9 v0 (J3 (Q2 _ w7))) (A5 (Z2 o6.1));clear j8 k2;go_upto_region 26 with fail
      refine XF (fun t=> [].contains t) (fun W=>W.cell? ⟨V,0,none⟩=some (IP (some ⟨R,0,none⟩))/\W.cell? ⟨Y,0,none⟩=some (I O U)/\W.cell? ⟨Y,1,none⟩=some (I O N)/\W.cell? ⟨Y,2,none⟩=some (I O E)/\W.cell? ⟨Y,3,none⟩=some (I O J)/\W.cell? ⟨Y,4,none⟩=some (I O D)) (by kernel_rfl) a9 (fun a9=> ?_);refine tM 0 (IP (some ⟨R,0,none⟩)) ?_;refine tM 1 (IP (some ⟨R,0,none⟩)) ?_;refine tM 2 (IP (some ⟨R,7,none⟩)) ?_;refine tM 3 (.agg #[I O U,I O N,I O E,I O J,I O D]) ?_;refine oM 4 fun K1 v=> ?_
      go_simp;refine f2.mono ?_;rintro ev w8 ⟨rfl,cs8,AL8,own8,L8,v3,q4⟩;have o2:=(c5.below (J3 (Q2 _ w7))).turn v3 q4;have y5:=X0 (Z2 o6.1) q4.1 (fun⟨k,hk⟩=>o6.2 k hk);have u3:=And.intro o2.cells.1 (A5 y5);refine v _ _ (fun _=>u3) ?_;have t1:=Q0 o2;clear v3 q4 v a9 f2 u3 y5 c5 v0 x2 y4;refine D5 (by kernel_rfl) ?_ _;have v0:=o2.cells.1;clear o2
      cases sp with
      |true=>
       have m5:=Vd (t1.mk_.at_) (by show -1000000000000<=(M6 m1 ⟨U,N,E,J,D⟩).now/\(M6 m1 ⟨U,N,E,J,D⟩).now<=1000000000000;have h1:(M6 m1 ⟨U,N,E,J,D⟩).now=m1.now:=rfl;rw[h1,l6.1];exact n5.1) (by show 0<=(M6 m1 ⟨U,N,E,J,D⟩).tk/\(M6 m1 ⟨U,N,E,J,D⟩).tk<=1000000;have h1:(M6 m1 ⟨U,N,E,J,D⟩).tk=m1.tk:=rfl;rw[h1,l6.2];exact n5.2);have r3:=Q0 m5;clear m5;go_wp2_with fail
       refine r3.mono ?_;rintro ev w9 ⟨rfl,m3⟩;have q5:=Q0 m3;clear m3;go_wp2_with fail
       go_ret2;have e9:M3 M ⟨oi,os,ok,u,oq⟩=VX (M6 m1 ⟨U,N,E,J,D⟩):=by unfold M3;rw[e6.2,Q5 rfl,l8.out]
       rw[a0.1,a0.2.1,a0.2.2,o4.out,a4.1,a4.2,e9];exact t1.vol HF q5 rfl
      |false=>
       go_wp2_with fail
       go_ret2;have e9:M3 M ⟨oi,os,ok,u,oq⟩=M6 m1 ⟨U,N,E,J,D⟩:=by unfold M3;rw[e6.2,Q3 (by decide),l8.out]
       rw[a0.1,a0.2.1,a0.2.2,o4.out,a4.1,a4.2,e9];exact t1.fin HF rfl
     have l8:Hid (C5 M ⟨oi,os,ok,u,oq⟩=m1):=Q0 (by
      unfold C5;rw[e6.1,Q3 (fun x=>e5 ⟨x.1,by have h1:=x.2;intro e;apply h1;show E=2;rw[v7.out];exact e⟩),z5.out])
     have o8: ¬(0:Int)<D\/ok=2:=by
      by_cases h1:(0:Int)<D
      ·by_cases h2:ok=2
       ·exact .inr h2
       exact absurd ⟨h1,h2⟩ e5
      exact .inl h1
     clear e5;go_upto_region 25 with fail
     go_cut [133] (fun s133 wx=>s133= .bool false/\wx=w7)
     case first=>
      by_cases h1:(0:Int)<D
      ·have d1:=Z5 h1
       have d2:=JW (o8.resolve_left (fun x=>x h1));clear o8;go_wp2_with fail
       go_meet;exact⟨rfl,rfl⟩
      have d1:=Z1 h1;clear o8;go_wp2_with fail
      go_meet;exact⟨rfl,rfl⟩
     obtain⟨rfl,rfl⟩:=hcut;clear o8 x2 y4
     cases sp with
     |true=>
      have m5:=Vd (c5.mk_.at_) (by show -1000000000000<=(m1).now/\(m1).now<=1000000000000;have h1:(m1).now=m1.now:=rfl;rw[h1,l6.1];exact n5.1) (by show 0<=(m1).tk/\(m1).tk<=1000000;have h1:(m1).tk=m1.tk:=rfl;rw[h1,l6.2];exact n5.2);have r3:=Q0 m5;clear m5;go_wp2_with fail
      refine r3.mono ?_;rintro ev w9 ⟨rfl,m3⟩;have q5:=Q0 m3;clear m3;go_wp2_with fail
      go_ret2;have e9:M3 M ⟨oi,os,ok,u,oq⟩=VX (m1):=by unfold M3;rw[e6.2,Q5 rfl,l8.out]
      rw[a0.1,a0.2.1,a0.2.2,o4.out,a4.1,a4.2,e9];exact c5.vol HF q5 rfl
     |false=>
      go_wp2_with fail
      go_ret2;have e9:M3 M ⟨oi,os,ok,u,oq⟩=m1:=by unfold M3;rw[e6.2,Q3 (by decide),l8.out]
      rw[a0.1,a0.2.1,a0.2.2,o4.out,a4.1,a4.2,e9];exact c5.fin HF rfl
    have d3:=JF j1;have a4:Hid (ZM (Y6 m ⟨oi,os,ok,u,oq⟩) ⟨oi,os,ok,u,oq⟩=M6 (Y6 m ⟨oi,os,ok,u,oq⟩) ⟨oi,os,ok,u,oq⟩/\UM (Y6 m ⟨oi,os,ok,u,oq⟩) ⟨oi,os,ok,u,oq⟩= []):=by
     have e1: ¬((⟨oi,os,ok,u,oq⟩:Q8).kind=4/\(Y6 m ⟨oi,os,ok,u,oq⟩).ph≠5):=fun x=>b5 ⟨x.1,by have:=x.2;rw[show(Y6 m ⟨oi,os,ok,u,oq⟩).ph=ph from e3.out]at this;exact this⟩
     have e2:(Y6 m ⟨oi,os,ok,u,oq⟩).ph≠3:=fun x=>j1 (e3.symm.trans x)
     refine Q0 ⟨?_, ?_⟩
     ·unfold ZM;rw[Q3 e1,Q5 e2]
     unfold UM;rw[Q3 e1,Q5 e2]
    clear b5 g6 j1;have c6:R9 ⟨oi,os,ok,u,oq⟩:=by have h1:=u6.out;rw[i8.out]at h1;exact h1
    have f2:=Q0 (Am (a7.below (J3 (Q2 _ w6))) ⟨oi,os,ok,u,oq⟩ c6);unfold X5 at f2;dsimp only at f2;obtain⟨re,k2⟩:=exq (JT L ⟨oi,os,ok,u,oq⟩);rw[k2]at f2;have a9:=And.intro (T9 v0 (J3 (Q2 _ w6))) (And.intro (T9 x0 (J3 (Q2 _ w6))) (And.intro (T9 x1 (J3 (Q2 _ w6))) (And.intro (T9 x2 (J3 (Q2 _ w6))) (And.intro (T9 x3 (J3 (Q2 _ w6))) (T9 x4 (J3 (Q2 _ w6)))))));clear k2 c6;go_upto_region 22 with fail
    refine XF (fun t=> [].contains t) (fun W=>W.cell? ⟨V,0,none⟩=some (IP (some ⟨R,0,none⟩))/\W.cell? ⟨X,0,none⟩=some (I O oi)/\W.cell? ⟨X,1,none⟩=some (I O os)/\W.cell? ⟨X,2,none⟩=some (I O ok)/\W.cell? ⟨X,3,none⟩=some (I O u)/\W.cell? ⟨X,4,none⟩=some (I O oq)) (by kernel_rfl) a9 (fun a9=> ?_);refine tM 0 (IP (some ⟨R,0,none⟩)) ?_;refine tM 1 (IP (some ⟨R,0,none⟩)) ?_;refine tM 2 (IP (some ⟨R,7,none⟩)) ?_;refine tM 3 (.agg #[I O oi,I O os,I O ok,I O u,I O oq]) ?_;refine oM 4 fun K1 v=> ?_
    go_simp;refine f2.mono ?_;rintro ev w7 ⟨rfl,cs7,AL7,x6,L7,m4,f7⟩;have v5:=And.intro (show w7.cell? ⟨V,0,none⟩=some (IP (some ⟨R,0,none⟩)) by rw[J0 (X0 (Z2 f0.1) f7.1 (fun⟨k,hk⟩=>f0.2 k hk))];rfl) (A5 (X0 (Z2 d8.1) f7.1 (fun⟨k,hk⟩=>d8.2 k hk)));refine v _ _ (fun _=>v5) ?_;have c5:=Q0 m4;have HO7:=Q0 f7;clear m4 f7 x0 x1 x2 x3 x4 v0 f3 v a9 f2 v5;refine D5 (by kernel_rfl) ?_ _;go_wp2_with fail
    go_ret2;rw[a0.1,a0.2.1,a0.2.2,a4.1,a4.2];have h9:=(g0.trans (C1 (J3 (Q2 _ w6)))).trans (HO7.bstep (fun i=>ZP));exact YR ⟨_,c5.at_,⟨h9.1.mono (fun i hi=>(HF i).2 hi),fun i hi=>(h9.2 i hi).imp (fun e=>(HF i).2 e) id⟩⟩ rfl
