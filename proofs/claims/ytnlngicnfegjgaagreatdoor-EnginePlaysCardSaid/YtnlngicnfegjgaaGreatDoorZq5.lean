/- Parts. -/
import Derived.Test.YtnlngicnfegjgaaGreatDoorZq1
set_option linter.unusedVariables false
set_option maxRecDepth 100000
set_option maxHeartbeats 8000000
open Go.Proofs.Tryz
open Go.Value renaming int→I,pointer→IP
open Go.IntKind renaming i64→O
namespace Go.Proofs.YtnlngicnfegjgaaGreatDoor
open Go.RowKit
abbrev BW:=Q8×Int×Bool
def KL (s:BW):List Value:=X9 s.1++ [I O s.2.1,.bool s.2.2]
theorem TS s:(KL s).length=7:=rfl
theorem Qy2 s: ∀u∈KL s,u.oneCell'=true:=by
 intro u i
 simp[KL,X9]at i
 rcases i with rfl|rfl|rfl|rfl|rfl|rfl|rfl<;>rfl
def EH (l:List Int):List Value:=l.map fun x=>I O x
structure R0 (w:World) (a:Nat) (A:Option Addr) (c:Nat) (B:Option Addr) (d:Nat) (ss:List BW) (fr:List Int) (most many:Int):Prop where
 blk:Q1 w a 218 #[.slice A ss.length c,.slice B fr.length d,I O most,I O many]
 slots:J2 w A ss.length c 239 7 (Q9 KL ss)
 free:J2 w B fr.length d 3 1 (EH fr)
 na:Q7 A≠some a
 nb:Q7 B≠some a
 nab: ∀g,Q7 A=some g->Q7 B≠some g
theorem R0.slot {w a c d A B ss fr most many} (h:R0 w a A c B d ss fr most many) {k} (hk:k<ss.length):
  ∃g,A=some ⟨g,0,none⟩/\w.cell? ⟨g,k*7,none⟩=some (I O ss[k].1.id)/\w.cell? ⟨g,k*7+1,none⟩=some (I O ss[k].1.side)/\w.cell? ⟨g,k*7+2,none⟩=some (I O ss[k].1.kind)/\
   w.cell? ⟨g,k*7+3,none⟩=some (I O ss[k].1.price)/\w.cell? ⟨g,k*7+4,none⟩=some (I O ss[k].1.qty)/\w.cell? ⟨g,k*7+5,none⟩=some (I O ss[k].2.1)/\w.cell? ⟨g,k*7+6,none⟩=some (.bool ss[k].2.2):=by
 obtain⟨g,j,i⟩:=h.slots.elem TS (by omega) hk
 exact⟨g,j,i 0 _ rfl,i 1 _ rfl,i 2 _ rfl,i 3 _ rfl,i 4 _ rfl,i 5 _ rfl,i 6 _ rfl⟩
theorem R0.cells {w a c d A B ss fr most many} (h:R0 w a A c B d ss fr most many):
  w.cell? ⟨a,0,none⟩=some (.slice A ss.length c)/\w.cell? ⟨a,1,none⟩=some (.slice B fr.length d)/\w.cell? ⟨a,2,none⟩=some (I O most)/\w.cell? ⟨a,3,none⟩=some (I O many):=by
 refine⟨?_, ?_, ?_, ?_⟩<;>(rw[J0 h.blk];rfl)
section
variable {w w':World} {a c d:Nat} {A B:Option Addr} {ss:List BW} {fr:List Int} {most many:Int}
def JN (a:Nat) (A B:Option Addr) (i:Nat):Prop:=i=a\/Q7 A=some i\/Q7 B=some i
theorem R0.fp (h:R0 w a A c B d ss fr most many) {i} (j:JN a A B i):i<w.heap.size:=by
 rcases j with rfl|j|j
 ·exact J5 h.blk
 ·exact h.slots.lt j
 exact h.free.lt j
theorem R0.keeps {S} (h:R0 w a A c B d ss fr most many) (hk:Q6 S w w') (u: ∀i,JN a A B i-> ¬S i):R0 w' a A c B d ss fr most many:=
 ⟨X0 h.blk hk (u a (.inl rfl)),h.slots.keeps hk (fun g j=>u g (.inr (.inl j))),h.free.keeps hk (fun g j=>u g (.inr (.inr j))),h.na,h.nb,h.nab⟩
theorem R0.below (h:R0 w a A c B d ss fr most many) (i:Below w.heap.size w w'):R0 w' a A c B d ss fr most many:=h.keeps (U1 i (fun _=>False)) (fun _ _=>id)
end
def KG (ss:List BW) (s g:Int):Bool:=decide (0<=s) &&match ss[s.toNat]? with|some (_,age,full)=>full && (age ==g)|none=>false
def Y3:Q8:=⟨0,0,0,0,0⟩
def Qg (ss:List BW) (s:Int):Q8:=match ss[s.toNat]? with|some (x,_,_)=>x|none=>Y3
theorem Lq {ss} {k:Nat} {g} (h:k<ss.length):KG ss k g=(ss[k].2.2 && (ss[k].2.1 ==g)):=by
 simp[KG,h]
theorem Qo8 {ss s g} (h:s<0):KG ss s g=false:=by
 simp[KG];omega
theorem Qo9 {ss s g} (i:0<=s) (h:(ss.length:Int)<=s):KG ss s g=false:=by
 have:ss[s.toNat]?=none:=DV (by omega)
 simp[KG,this]
theorem Uh w a A c B d ss fr most many s g (h:R0 w a A c B d ss fr most many):
  Calls prog 138 #[IP (some ⟨a,0,none⟩),.agg #[I O s,I O g]] w fun e w'=>
   Below w.heap.size w w'/\((KG ss s g=false/\e= .returned (.pointer none))\/(KG ss s g=true/\ ∃k gs,s=(k:Nat)/\k<ss.length/\A=some ⟨gs,0,none⟩/\e= .returned (IP (some ⟨gs,k*7,none⟩)))):=by
 have c0:=h.cells.1
 have hlt:=J5 h.blk
 have z0:=(S4 w (.cells #[I O s,I O g] 186) ⟨a,0,none⟩ hlt).trans c0
 have HB:=Q0 (show Below w.heap.size w (w.alloc (.cells #[I O s,I O g] 186))from(Q2 _ w).alloc (Q4 _) _)
 by_cases h1:s<0
 ·have d1:=Z5 h1
  have E:=Q0 (Qo8 (ss:=ss) (g:=g) h1);clear h1;go_enter func138,ntmps138
  go_wp2_with fail
  go_quiet (fail)
  go_wp2;go_ret;exact⟨U7 HB.out _,.inl ⟨E.out,rfl⟩⟩
 have d1:=Z1 h1
 by_cases h2:(ss.length:Int)<=s
 ·have d2:=Z5 h2
  have E:=Q0 (Qo9 (ss:=ss) (g:=g) (by omega) h2);clear h1 h2;go_enter func138,ntmps138
  go_wp2_with fail
  go_quiet (fail)
  go_wp2;go_ret;exact⟨U7 HB.out _,.inl ⟨E.out,rfl⟩⟩
 have d2:=Z1 h2
 obtain⟨k,rfl⟩: ∃k:Nat,s=k:=⟨s.toNat,by omega⟩
 have hk:k<ss.length:=by omega
 have i1:(0:Int)<=(k:Int):=by omega
 have i2:(k:Int)< (ss.length:Int):=by omega
 obtain⟨gs,rfl,s0,_,_,_,_,s1,s2⟩:=h.slot hk
 have hgs:=V6 w _ s0
 replace s1:=(S4 w (.cells #[I O k,I O g] 186) ⟨gs,k*7+5,none⟩ hgs).trans s1
 replace s2:=(S4 w (.cells #[I O k,I O g] 186) ⟨gs,k*7+6,none⟩ hgs).trans s2
 have Hh:=Q0 (Lq (g:=g) hk)
 generalize ss[k].2.1=age at s1 Hh
 cases hf:ss[k].2.2
 ·rw[hf]at s2
  have E:Hid (KG ss k g=false):=Q0 (by rw[Hh.out,hf];rfl);clear h1 h2 s0 hf;go_enter func138,ntmps138
  go_wp2_with fail
  go_quiet (fail)
  go_wp2_with fail
  go_quiet (fail)
  go_wp2_with fail
  go_quiet (fail)
  go_wp2;go_ret;exact⟨U7 (U7 (U7 HB.out _) _) _,.inl ⟨E.out,rfl⟩⟩
 rw[hf]at s2
 by_cases ha:age=g
 ·have b1:=Z0 ha
  have E:Hid (KG ss k g=true):=Q0 (by rw[Hh.out,hf,b1];rfl);clear h1 h2 s0 hf ha;go_enter func138,ntmps138
  go_wp2_with fail
  go_quiet (fail)
  go_wp2_with fail
  go_quiet (fail)
  go_wp2_with fail
  go_quiet (fail)
  go_wp2;go_ret;exact⟨U7 (U7 (U7 HB.out _) _) _,.inr ⟨E.out,k,gs,rfl,hk,rfl,rfl⟩⟩
 have b1:=X3 ha
 have E:Hid (KG ss k g=false):=Q0 (by rw[Hh.out,hf,b1];rfl)
 clear h1 h2 s0 hf ha
 go_enter func138,ntmps138
 go_wp2_with fail
 go_quiet (fail)
 go_wp2_with fail
 go_quiet (fail)
 go_wp2_with fail
 go_quiet (fail)
 go_wp2
 go_ret
 exact⟨U7 (U7 (U7 HB.out _) _) _,.inl ⟨E.out,rfl⟩⟩
def Xx (w w':World) (a:Nat) (A B:Option Addr) (ss:List BW) (fr:List Int) (most many:Int):Prop:=
 ∃A' c' B' d',R0 w' a A' c' B' d' ss fr most many/\Q6 (JN a A B) w w'/\ ∀i,JN a A' B' i->JN a A B i\/w.heap.size<=i
theorem So w a A c B d ss fr most many (h:R0 w a A c B d ss fr most many):
  Calls prog 92 #[IP (some ⟨a,0,none⟩)] w fun e w'=>e= .returned (I O many)/\w=w':=by
 have i:=h.cells.2.2.2
 go_enter func92,ntmps92
 go_wp2
 go_ret
 exact⟨rfl,rfl⟩
theorem Te most w:Calls prog 104 #[I O most] w fun e w'=>
  Below w.heap.size w w'/\((most<1\/1000<most)/\e= .returned (.tuple #[.pointer none,U0 2])\/
   (1<=most/\most<=1000)/\ ∃a,w.heap.size<=a/\e= .returned (.tuple #[IP (some ⟨a,0,none⟩),.nilIface])/\R0 w' a none 0 none 0 [] [] most 0):=by
 by_cases h1:most<1
 ·have u:=Z5 h1
  have j:=Q0 h1;clear h1;go_enter func104,ntmps104
  go_wp2;go_ret2;exact⟨Q2 _ _,.inl ⟨.inl j,rfl⟩⟩
 have u:=Z1 h1
 by_cases h2:1000<most
 ·have v:=Z5 h2
  have i:=Q0 h2;clear h1 h2;go_enter func104,ntmps104
  go_wp2;go_ret2;exact⟨Q2 _ _,.inl ⟨.inr i,rfl⟩⟩
 have v:=Z1 h2
 have i:=Q0 (show 1<=most/\most<=1000 by omega)
 clear h1 h2
 go_enter func104,ntmps104
 go_wp2
 go_ret2
 refine⟨(Q2 _ w).alloc (Q4 _) _,.inr ⟨i,w.heap.size,Q4 _,rfl,⟨J9 _ _ _,JX _ _ _ _,JX _ _ _ _, ?_, ?_, ?_⟩⟩⟩
 ·simp[Q7]
 ·simp[Q7]
 simp[Q7]
def MA (ss:List BW) (s g:Int):Q8:=if KG ss s g=true then Qg ss s else Y3
def MB (ss:List BW) (s g:Int):Int:=if KG ss s g=true then 0 else 7
theorem Ls {ss s g} (h:KG ss s g=false):MA ss s g=Y3:=by simp[MA,h]
theorem Lt {ss s g} (h:KG ss s g=false):MB ss s g=7:=by simp[MB,h]
theorem Gb {ss s g} (h:KG ss s g=true):MA ss s g=Qg ss s:=by simp[MA,h]
theorem Gc {ss s g} (h:KG ss s g=true):MB ss s g=0:=by simp[MB,h]
theorem Lu {ss k} (h:k<ss.length):Qg ss (k:Nat)=ss[k].1:=by
 simp[Qg,h]
theorem Lv {w t Q g cs v} (hp:t.tmps.getD 4 undef= IP (some ⟨g,0,none⟩)) (y:t.tmps.getD 5 undef=v) (D:t.defers= [])
  (C:Q1 w g 29 cs) (j:cs.size=5) (h:Q (.returned (.tuple #[.agg cs,v])) w):bodyPost prog Tryz.f108 Q .ret t w:=by
 refine P4 (v:= .tuple #[.agg cs,v]) ?_ D h
 have u:=Jf (P:=prog) w g _ 29 cs (0,0) _ C PF rfl (by rw[j];kernel_rfl)
 have E:t.tmps[4]?.getD undef= IP (some ⟨g,0,none⟩):=by simpa using hp
 have i:t.tmps[5]?.getD undef=v:=by simpa using y
 simp[results,Tryz.results108,E,i,asAddr,u]
theorem Tf w a A c B d ss fr most many s g (h:R0 w a A c B d ss fr most many):
  Calls prog 108 #[IP (some ⟨a,0,none⟩),.agg #[I O s,I O g]] w fun e w'=>
   e= .returned (.tuple #[X5 (MA ss s g),U0 (MB ss s g)])/\Below w.heap.size w w':=by
 have y:Below w.heap.size w ((w.alloc (.cells #[I O s,I O g] 186)).alloc (.cells #[I O 0,I O 0,I O 0,I O 0,I O 0] 29)):=((Q2 _ w).alloc (Q4 _) _).alloc (by simp) _
 have HA:=Q0 y
 have H:=Q0 (h.below y)
 have N:Q1 ((w.alloc (.cells #[I O s,I O g] 186)).alloc (.cells #[I O 0,I O 0,I O 0,I O 0,I O 0] 29)) (w.heap.size+1) 29 #[I O 0,I O 0,I O 0,I O 0,I O 0]:=by simpa using J9 (w.alloc (.cells #[I O s,I O g] 186)) 29 #[I O 0,I O 0,I O 0,I O 0,I O 0]
 have Z:=Q0 N
 clear y h N
 go_enter func108,ntmps108
 go_wp2_with fail
 refine(Uh _ a A c B d ss fr most many s g H).mono ?_
 rintro e w1 ⟨j,a0⟩
 have i:=J4 Z j
 have z0:w1.cell? ⟨w.heap.size+1,0,none⟩=some (I O 0):=by rw[J0 i];rfl
 have z1:w1.cell? ⟨w.heap.size+1,1,none⟩=some (I O 0):=by rw[J0 i];rfl
 have z2:w1.cell? ⟨w.heap.size+1,2,none⟩=some (I O 0):=by rw[J0 i];rfl
 have z3:w1.cell? ⟨w.heap.size+1,3,none⟩=some (I O 0):=by rw[J0 i];rfl
 have z4:w1.cell? ⟨w.heap.size+1,4,none⟩=some (I O 0):=by rw[J0 i];rfl
 have y0:=J1 i 0
 have y1:=J1 i 1
 have y2:=J1 i 2
 have y3:=J1 i 3
 have y4:=J1 i 4
 have a1:=J5 i
 have J:=Q0 i
 have D:=HA.trans (j.mono (by simp;omega))
 have C:=Q0 D
 clear i D
 rcases a0 with⟨u,rfl⟩|⟨u,k,gs,rfl,hk,rfl,rfl⟩
 ·have E:=Q0 u
  clear u j;go_wp2_with fail
  try simp only[Exit.inBlock,Exit.then]
  refine Lv (g:=w.heap.size+1) (cs:= #[I O 0,I O 0,I O 0,I O 0,I O 0]) (v:=U0 7) (by with_unfolding_all rfl) (by with_unfolding_all rfl) (by with_unfolding_all rfl) (G7 (J7 (J7 (J7 (J7 (J7 J 0 _) 1 _) 2 _) 3 _) 4 _) _) rfl ?_;refine⟨by rw[Ls E,Lt E.out];rfl, ?_⟩;have hs:=C.size;exact(((((C.setCell (by simp) _).setCell (by simp) _).setCell (by simp) _).setCell (by simp) _).setCell (by simp) _).alloc (by simpa [World.setCell]using hs) _
 have E:=Q0 u
 clear u
 obtain⟨a2,he,s0,U,s2,s3,s4,_,_⟩:=(H.below j).slot hk
 cases he
 have T:=Q0 (Lu hk)
 generalize ss[k].1=x at s0 U s2 s3 s4 T
 clear j
 go_wp2_with fail
 try simp only[Exit.inBlock,Exit.then]
 refine Lv (g:=w.heap.size+1) (cs:=J8 x) (v:=U0 0) (by with_unfolding_all rfl) (by with_unfolding_all rfl) (by with_unfolding_all rfl) (J7 (J7 (J7 (J7 (J7 J 0 _) 1 _) 2 _) 3 _) 4 _) rfl ?_
 refine⟨by rw[Gb E,Gc E,T.out];rfl, ?_⟩
 exact((((C.setCell (by simp) _).setCell (by simp) _).setCell (by simp) _).setCell (by simp) _).setCell (by simp) _
def As (ss:List BW) (s:Int):List BW:=match ss[s.toNat]? with|some v=>ss.set s.toNat (Y3,RowKit.wrap64 (v.2.1+1),false)|none=>ss
theorem Gd {ss k} (h:k<ss.length):As ss (k:Nat)=ss.set k (Y3,RowKit.wrap64 (ss[k].2.1+1),false):=by
 simp[As,h]
theorem Qp0:(prog.info? 3).map (fun i=>(i.zero,i.size,i.bytes))=some (some (I O 0),1,8):=by kernel_rfl
theorem Eh {w g t cs} (h:Q1 w g t cs):w.frozen? ⟨g,0,none⟩=false/\w.frozen? ⟨g,1,none⟩=false/\w.frozen? ⟨g,2,none⟩=false/\w.frozen? ⟨g,3,none⟩=false/\w.frozen? ⟨g,4,none⟩=false:=
 ⟨J1 h 0,J1 h 1,J1 h 2,J1 h 3,J1 h 4⟩
theorem Yc {l:List Value} {i v} (h:l[i]?=some v):l.set i v=l:=by
 apply Jb
 intro j
 by_cases e:i=j
 ·subst e
  have u:=(TQ.1 h).1;rw[Qt u,h]
 rw[ZH e]
theorem Ui ss k (hk:k<ss.length) y:(((((((Q9 KL ss).set (k*7) (I O y.1.id)).set (k*7+1) (I O y.1.side)).set (k*7+2) (I O y.1.kind)).set (k*7+3) (I O y.1.price)).set (k*7+4) (I O y.1.qty)).set (k*7+5) (I O y.2.1)).set (k*7+6) (.bool y.2.2)=Q9 KL (ss.set k y):=
 NY TS y ss k hk
abbrev MF (w:World) (g p:Nat) (o:Q8):World:=((((w.setCell ⟨g,p,none⟩ (I O o.id)).setCell ⟨g,p+1,none⟩ (I O o.side)).setCell ⟨g,p+2,none⟩ (I O o.kind)).setCell ⟨g,p+3,none⟩ (I O o.price)).setCell ⟨g,p+4,none⟩ (I O o.qty)
theorem Jz w g p o:Q6 (fun i=>i=g) w (MF w g p o):=
 ((((V2 w ⟨g,p,none⟩ _).trans (V2 _ ⟨g,p+1,none⟩ _) (fun i h=> .inl h)).trans (V2 _ ⟨g,p+2,none⟩ _) (fun i h=> .inl h)).trans (V2 _ ⟨g,p+3,none⟩ _) (fun i h=> .inl h)).trans (V2 _ ⟨g,p+4,none⟩ _) (fun i h=> .inl h)
theorem Yd {w g n c t xs} (h:J2 w (some ⟨g,0,none⟩) n c t 7 xs) p o:
  J2 (MF w g p o) (some ⟨g,0,none⟩) n c t 7 (((((xs.set p (I O o.id)).set (p+1) (I O o.side)).set (p+2) (I O o.kind)).set (p+3) (I O o.price)).set (p+4) (I O o.qty)):=
 ((((h.set p _).set (p+1) _).set (p+2) _).set (p+3) _).set (p+4) _
theorem Jk0 {w1 a c d B ss fr most many gs k} (H:R0 w1 a (some ⟨gs,0,none⟩) c B d ss fr most many) (hk:k<ss.length) u:
  let w2:=((MF w1 gs (k*7) Y3).setCell ⟨gs,k*7+6,none⟩ (.bool false)).setCell ⟨gs,k*7+5,none⟩ (I O u)
  R0 w2 a (some ⟨gs,0,none⟩) c B d (ss.set k (Y3,u,false)) fr most many/\Q6 (JN a (some ⟨gs,0,none⟩) B) w1 w2:=by
 intro w2
 have j:Q6 (fun i=>i=gs) w1 w2:=((Jz w1 gs (k*7) Y3).trans (V2 _ ⟨gs,k*7+6,none⟩ _) (fun i h=> .inl h)).trans (V2 _ ⟨gs,k*7+5,none⟩ _) (fun i h=> .inl h)
 have v:=((Yd H.slots (k*7) Y3).set (k*7+6) (.bool false)).set (k*7+5) (I O u)
 rw[List.set_comm _ _ (show k*7+6≠k*7+5 by omega),Ui ss k hk (Y3,u,false)]at v
 refine⟨⟨?_, ?_, ?_,H.na,H.nb,H.nab⟩,j.mono (fun i h=> .inr (.inl (by rw[h];rfl)))⟩
 ·rw[QN];exact X0 H.blk j (fun h=>H.na (E7 some h.symm))
 ·rw[QN];exact v
 exact H.free.keeps j (fun g y h=>H.nab gs rfl (by rw[y,h]))
theorem EB {w2 w3 o row} (h:((w2.alloc o).drew).grownBy w3 row):Q6 (fun i=>row=some i) w2 w3:=
 ⟨h.os,h.tape,h.output,by have:=h.size;simp at this;omega,fun i j u=>(h.block i (by simp;omega) (fun e=>u e.symm)).trans (heap_alloc_old w2 o j)⟩
theorem Jk1 {w2 w3 a c d A B ss fr most many} (H:R0 w2 a A c B d ss fr most many) {o gg cap s m}
  (N:w3.ownsRow 0 3 1 (.slice (some ⟨gg,0,none⟩) (fr.length+1) cap) (fr.length+1) (EH fr++ [I O s])) (C:((w2.alloc o).drew).grownBy w3 (Value.slice B fr.length d).ownBlock)
  (u:(Value.slice B fr.length d).ownBlock=some gg\/gg=w2.heap.size+1):
  let w5:=(w3.setCell ⟨a,1,none⟩ (.slice (some ⟨gg,0,none⟩) (fr.length+1) cap)).setCell ⟨a,3,none⟩ (I O m)
  R0 w5 a A c (some ⟨gg,0,none⟩) cap ss (fr++ [s]) most m/\Q6 (JN a A B) w2 w5/\ ∀i,JN a A (some ⟨gg,0,none⟩) i->JN a A B i\/w2.heap.size<=i:=by
 intro w5
 rw[A7]at C u
 have a1:=J5 H.blk
 have v:=EB C
 have E:gg≠a:=by
  rcases u with h|h
  ·intro e;exact H.nb (by rw[h,e])
  omega
 have a0: ∀g,Q7 A=some g->g≠gg:=by
  intro g j e;rcases u with h|h
  ·exact H.nab g j (by rw[h,e])
  have:=H.slots.lt j;omega
 have b3:=X0 H.blk v H.nb
 have U:=H.slots.keeps v (fun g j=>H.nab g j)
 have f3:J2 w3 (some ⟨gg,0,none⟩) (fr.length+1) cap 3 1 (EH fr++ [I O s]):=N
 have Z:=V2 w3 ⟨a,1,none⟩ (.slice (some ⟨gg,0,none⟩) (fr.length+1) cap)
 have J:=V2 (w3.setCell ⟨a,1,none⟩ (.slice (some ⟨gg,0,none⟩) (fr.length+1) cap)) ⟨a,3,none⟩ (I O m)
 have y:Q6 (fun i=>i=a) w3 w5:=Z.trans J (fun i h=> .inl h)
 have D:(fr++ [s]).length=fr.length+1:=by simp
 have e2:EH (fr++ [s])=EH fr++ [I O s]:=by simp[EH]
 refine⟨⟨?_, ?_, ?_,H.na, ?_, ?_⟩, ?_, ?_⟩
 ·rw[D]
  exact J7 (J7 b3 1 _) 3 _
 ·exact U.keeps y (fun g j e=>H.na (by rw[j,e]))
 ·rw[D,e2]
  exact f3.keeps y (fun g j e=>by cases j;exact E e)
 ·intro e;cases e;exact E rfl
 ·intro g j e;cases e;exact a0 _ j rfl
 ·exact(v.mono (fun i h=> .inr (.inr h))).trans y (fun i h=> .inl (.inl h))
 rintro i (h|h|h)
 ·exact .inl (.inl h)
 ·exact .inl (.inr (.inl h))
 cases h
 rcases u with h|h
 ·exact .inl (.inr (.inr h))
 exact .inr (by show _<=gg;omega)
theorem Ge {w t Q g cs v} (hp:t.tmps.getD 4 undef= IP (some ⟨g,0,none⟩)) (y:t.tmps.getD 5 undef=v) (D:t.defers= [])
  (C:Q1 w g 29 cs) (j:cs.size=5) (h:Q (.returned (.tuple #[.agg cs,v])) w):bodyPost prog Tryz.f127 Q .ret t w:=by
 refine P4 (v:= .tuple #[.agg cs,v]) ?_ D h
 have u:=Jf (P:=prog) w g _ 29 cs (0,0) _ C PF rfl (by rw[j];kernel_rfl)
 have E:t.tmps[4]?.getD undef= IP (some ⟨g,0,none⟩):=by simpa using hp
 have i:t.tmps[5]?.getD undef=v:=by simpa using y
 simp[results,Tryz.results127,E,i,asAddr,u]
theorem Sp w a A c B d ss fr most many s g (h:R0 w a A c B d ss fr most many) (hfr:fr.length<=2000):
  Calls prog 127 #[IP (some ⟨a,0,none⟩),.agg #[I O s,I O g]] w fun e w'=>
   e= .returned (.tuple #[X5 (MA ss s g),U0 (MB ss s g)])/\
   ((KG ss s g=false/\Below w.heap.size w w')\/(KG ss s g=true/\Xx w w' a A B (As ss s) (fr++ [s]) most (RowKit.wrap64 (many-1)))):=by
 have hA:Below w.heap.size w ((w.alloc (.cells #[I O s,I O g] 186)).alloc (.cells #[I O 0,I O 0,I O 0,I O 0,I O 0] 29)):=((Q2 _ w).alloc (Q4 _) _).alloc (by simp) _
 have hX:Q1 ((w.alloc (.cells #[I O s,I O g] 186)).alloc (.cells #[I O 0,I O 0,I O 0,I O 0,I O 0] 29)) w.heap.size 186 #[I O s,I O g]:=G7 (J9 _ _ _) _
 have hz:Q1 ((w.alloc (.cells #[I O s,I O g] 186)).alloc (.cells #[I O 0,I O 0,I O 0,I O 0,I O 0] 29)) (w.heap.size+1) 29 (J8 Y3):=show Q1 _ _ _ #[I O 0,I O 0,I O 0,I O 0,I O 0]from(by simpa using J9 (w.alloc (.cells #[I O s,I O g] 186)) 29 #[I O 0,I O 0,I O 0,I O 0,I O 0])
 have hsz0:((w.alloc (.cells #[I O s,I O g] 186)).alloc (.cells #[I O 0,I O 0,I O 0,I O 0,I O 0] 29)).heap.size=w.heap.size+2:=by simp
 have HXX:=Q0 hX
 have HZ:=Q0 hz
 have HS0:=Q0 hsz0
 have Hfp:=Q0 (fun i (hi:JN a A B i)=>h.fp hi)
 have HA:=Q0 hA
 have H:=Q0 (h.below hA)
 clear hA h hX hz hsz0
 go_enter func127,ntmps127
 go_wp2_with fail
 refine(Uh _ a A c B d ss fr most many s g H.out).mono ?_
 rintro e w1 ⟨hB,hcase⟩
 have hZ1:=J4 HZ.out hB
 obtain⟨z0,z1,z2,z3,z4⟩:=Z6 hZ1
 obtain⟨y0,y1,y2,y3,y4⟩:=Eh hZ1
 dsimp only[Y3]at z0 z1 z2 z3 z4
 have hlt:=J5 hZ1
 have HZ1:=Q0 hZ1
 have hB1:=HA.out.trans (hB.mono (by simp;omega))
 have HB1:=Q0 hB1
 have hsz1:w.heap.size+2<=w1.heap.size:=by have:=hB.size;rw[HS0.out]at this;exact this
 clear hZ1 hB1
 rcases hcase with⟨hf,rfl⟩|⟨hf,k,gs,rfl,hk,rfl,rfl⟩
 ·have E:=Q0 hf
  clear hf hB;go_wp2_with fail
  try simp only[Exit.inBlock,Exit.then]
  refine Ge (g:=w.heap.size+1) (cs:= #[I O 0,I O 0,I O 0,I O 0,I O 0]) (v:=U0 7) (by with_unfolding_all rfl) (by with_unfolding_all rfl) (by with_unfolding_all rfl) (G7 (J7 (J7 (J7 (J7 (J7 HZ1.out 0 _) 1 _) 2 _) 3 _) 4 _) _) rfl ?_;refine⟨by rw[Ls E.out,Lt E.out];rfl,.inl ⟨E.out, ?_⟩⟩;have hs:=HB1.out.size;exact(((((HB1.out.setCell (by simp) _).setCell (by simp) _).setCell (by simp) _).setCell (by simp) _).setCell (by simp) _).alloc (by simpa [World.setCell]using hs) _
 have E:=Q0 hf
 have HX1:=Q0 (J4 HXX.out hB)
 clear hf
 have hH1:=H.out.below hB
 have HH1:=Q0 hH1
 obtain⟨gs',he,s0,s1,s2,s3,s4,s5,s6⟩:=hH1.slot hk
 cases he
 have TH:=Q0 (Lu hk)
 have TT:=Q0 (Gd hk)
 obtain⟨x,EX⟩: ∃x,Hid (ss[k].1=x):=⟨_,Q0 rfl⟩
 rw[EX.out]at s0 s1 s2 s3 s4 TH
 obtain⟨age,EA⟩: ∃u,Hid (ss[k].2.1=u):=⟨_,Q0 rfl⟩
 rw[EA.out]at s5 TT
 generalize ss[k].2.2=full at s6
 have hgs:=V6 w1 _ s0
 clear hB hH1
 go_upto_region 6 with fail
 have hbw:Below w1.heap.size w1 ((w1.alloc (.cells #[I O 0,I O 0,I O 0,I O 0,I O 0] 29)).alloc (.cells #[I O x.id,I O x.side,I O x.kind,I O x.price,I O x.qty] 29)):=((Q2 _ w1).alloc (Q4 _) _).alloc (by simp) _
 have hH2:=HH1.out.below hbw
 have hb7:Q1 ((w1.alloc (.cells #[I O 0,I O 0,I O 0,I O 0,I O 0] 29)).alloc (.cells #[I O x.id,I O x.side,I O x.kind,I O x.price,I O x.qty] 29)) w1.heap.size 29 (J8 Y3):=G7 (J9 w1 _ _) _
 have hb8:Q1 ((w1.alloc (.cells #[I O 0,I O 0,I O 0,I O 0,I O 0] 29)).alloc (.cells #[I O x.id,I O x.side,I O x.kind,I O x.price,I O x.qty] 29)) (w1.heap.size+1) 29 (J8 x):=show Q1 _ _ _ #[I O x.id,I O x.side,I O x.kind,I O x.price,I O x.qty]from(by simpa using J9 (w1.alloc (.cells #[I O 0,I O 0,I O 0,I O 0,I O 0] 29)) 29 #[I O x.id,I O x.side,I O x.kind,I O x.price,I O x.qty])
 have hb4:=J4 HZ1.out hbw
 have hbX:=J4 HX1.out hbw
 have hBW:=HB1.out.trans (hbw.mono (by omega))
 have hszW:((w1.alloc (.cells #[I O 0,I O 0,I O 0,I O 0,I O 0] 29)).alloc (.cells #[I O x.id,I O x.side,I O x.kind,I O x.price,I O x.qty] 29)).heap.size=w1.heap.size+2:=by simp
 clear s0 s1 s2 s3 s4 s5 s6 z0 z1 z2 z3 z4 y0 y1 y2 y3 y4 hlt hgs hbw HH1 HZ1 HX1 HB1
 generalize((w1.alloc (.cells #[I O 0,I O 0,I O 0,I O 0,I O 0] 29)).alloc (.cells #[I O x.id,I O x.side,I O x.kind,I O x.price,I O x.qty] 29))=wv at hH2 hb7 hb8 hb4 hbX hBW hszW|-
 obtain⟨b7,hb7e⟩: ∃b7,w1.heap.size=b7:=⟨_,rfl⟩
 rw[hb7e]at hb7 hb8 hszW hsz1|-
 have HT:=Q0 (fun u=>Jk0 hH2 hk u)
 obtain⟨gs',he,s0,s1,s2,s3,s4,s5,s6⟩:=hH2.slot hk
 cases he
 have f0:=hH2.slots.frozen (k*7)
 have f1:=hH2.slots.frozen (k*7+1)
 have f2:=hH2.slots.frozen (k*7+2)
 have f3:=hH2.slots.frozen (k*7+3)
 have f4:=hH2.slots.frozen (k*7+4)
 have f5:=hH2.slots.frozen (k*7+5)
 have f6:=hH2.slots.frozen (k*7+6)
 obtain⟨z0,z1,z2,z3,z4⟩:=Z6 hb7
 dsimp only[Y3]at z0 z1 z2 z3 z4
 rw[EX.out]at s0 s1 s2 s3 s4
 rw[EA.out]at s5
 generalize ss[k].2.2=full at s6
 have HB8:=Q0 hb8
 have HB4:=Q0 hb4
 have HBX:=Q0 hbX
 have HBW:=Q0 hBW
 clear hH2 hb7 hb8 hb4 hbX hBW hb7e
 go_upto_region 8 with fail
 have hT2:=HT.out (RowKit.wrap64 (age+1))
 obtain⟨w2,hW⟩: ∃w2,w2=(World.setCell (World.setCell (World.setCell (World.setCell (World.setCell (World.setCell (World.setCell wv ⟨gs,k*7,none⟩ (I O 0)) ⟨gs,k*7+1,none⟩ (I O 0)) ⟨gs,k*7+2,none⟩ (I O 0)) ⟨gs,k*7+3,none⟩ (I O 0)) ⟨gs,k*7+4,none⟩ (I O 0)) ⟨gs,k*7+6,none⟩ (.bool false)) ⟨gs,k*7+5,none⟩ (I O (RowKit.wrap64 (age+1)))):=⟨_,rfl⟩
 rw[<-hW]
 replace hT2:R0 w2 a (some ⟨gs,0,none⟩) c B d (ss.set k (Y3,RowKit.wrap64 (age+1),false)) fr most many/\Q6 (JN a (some ⟨gs,0,none⟩) B) wv w2:=by rw[hW];exact hT2
 clear HT s0 s1 s2 s3 s4 s5 s6 f0 f1 f2 f3 f4 f5 f6 z0 z1 z2 z3 z4 hW
 obtain⟨hA2,hK2⟩:=hT2
 have hX2:Q1 w2 w.heap.size 186 #[I O (k:Int),I O g]:=X0 HBX.out hK2 (fun hi=>YK _ (Hfp.out _ hi))
 have hB8:=X0 HB8.out hK2 (fun hi=>by have:=Hfp.out _ hi;omega)
 have hB4:=X0 HB4.out hK2 (fun hi=>by have:=Hfp.out _ hi;omega)
 have HB8':=Q0 hB8
 have HB4':=Q0 hB4
 have hs2:=hK2.size
 have HK2:=Q0 hK2
 clear hB8 hB4 hK2 HB8 HB4 HBX
 have q1:=hA2.cells.2.1
 have q3:=hA2.cells.2.2.2
 have qf1:=J1 hA2.blk 1
 have qf3:=J1 hA2.blk 3
 have qx:w2.cell? ⟨w.heap.size,0,none⟩=some (I O (k:Int)):=by rw[J0 hX2];rfl
 have hal:=J5 hA2.blk
 obtain⟨i0,hi0,hz0,hz1,hz2⟩:=N0 Qp0
 have hnb:some a≠(Value.slice B fr.length d).ownBlock:=by rw[A7];exact hA2.nb.symm
 have HF:=Q0 hA2.free
 have HA2:=Q0 hA2
 clear hA2 hX2
 go_region_law ((refine PH _ (by rfl) _ _ _ (by rfl) 0 3 i0 _ 1 8 underlying22 hi0 hz0 hz1 hz2 rfl (by omega) (.slice B fr.length d) fr.length _ (by rfl) ((YM HF.out _).drew) ⟨w2.heap.size,0,none⟩ 1 1 [I O (k:Int)] (by rfl) (by rfl) (JB (cs:= #[I O (k:Int)]) (t:=3) (fr:=(0,0)) (S5 w2 _)) (by simp[Value.oneCell']) (by omega) (by unfold maxLen;omega) (by omega) (by simp) (w2.heap.size+1) (by simp) ?_;intro gg cap w3 hown hgrow hat hlt;have r1:w3.cell? ⟨a,1,none⟩=some (.slice B fr.length d):=(hgrow.cell_far ⟨a,1,none⟩ (by simp;omega) hnb).trans ((S4 w2 _ ⟨a,1,none⟩ hal).trans q1);have r3:w3.cell? ⟨a,3,none⟩=some (I O many):=(hgrow.cell_far ⟨a,3,none⟩ (by simp;omega) hnb).trans ((S4 w2 _ ⟨a,3,none⟩ hal).trans q3);have b3:=X0 HA2.out.blk (EB hgrow) (fun e=>hnb e.symm);have rf1:=J1 b3 1;have rf3:=J1 b3 3;clear b3))
 all_goals go_upto_region 10 with fail
 all_goals
  obtain⟨hA5,hK5,hF5⟩:=Jk1 (m:=RowKit.wrap64 (many-1)) HA2.out hown hgrow hat;have hB8:=X0 HB8'.out hK5 (fun hi=>by have:=Hfp.out _ hi;omega);have hB4:=X0 HB4'.out hK5 (fun hi=>by have:=Hfp.out _ hi;omega);have hs5:=hK5.size;clear hgrow hown hat r1 r3 rf1 rf3;generalize World.setCell (World.setCell w3 ⟨a,1,none⟩ (.slice (some ⟨gg,0,none⟩) (fr.length+1) cap)) ⟨a,3,none⟩ (I O (RowKit.wrap64 (many-1)))=w5 at hA5 hK5 hF5 hB8 hB4 hs5|-;obtain⟨c0,c1,c2,c3,c4⟩:=Z6 hB8;obtain⟨z0,z1,z2,z3,z4⟩:=Z6 hB4;dsimp only[Y3]at z0 z1 z2 z3 z4;obtain⟨y0,y1,y2,y3,y4⟩:=Eh hB4;have hlt4:=J5 hB4;have HB4x:=Q0 hB4;have HA5:=Q0 hA5;have HK5:=Q0 hK5;have HF5:=Q0 hF5;clear hB8 hB4 hA5 hK5 hF5 q1 q3 qf1 qf3 qx hnb;go_wp2_with fail
  try simp only[Exit.inBlock,Exit.then]
  refine Ge (g:=w.heap.size+1) (cs:=J8 x) (v:=U0 0) (by with_unfolding_all rfl) (by with_unfolding_all rfl) (by with_unfolding_all rfl) (J7 (J7 (J7 (J7 (J7 HB4x.out 0 _) 1 _) 2 _) 3 _) 4 _) rfl ?_;have hk6:=Jz w5 (w.heap.size+1) 0 x;have hs1:=HBW.out.size;refine⟨by rw[Gb E.out,Gc E.out,TH.out];rfl,.inr ⟨E.out,some ⟨gs,0,none⟩,c,some ⟨gg,0,none⟩,cap, ?_, ?_, ?_⟩⟩
  ·rw[TT.out]
   refine HA5.out.keeps hk6 ?_;intro j hj e;rcases HF5.out j hj with h|h
   ·have:=Hfp.out j h
    omega
   omega
  ·exact(((U1 HBW.out _).trans HK2.out (fun i h=> .inl h)).trans HK5.out (fun i h=> .inl h)).trans hk6 (fun i h=> .inr (by omega))
  intro i hi;rcases HF5.out i hi with h|h
  ·exact .inl h
  exact .inr (by omega)
def UP (ss:List BW):Nat:=(ss.filter fun s=>s.2.2).length
def JD (ss:List BW) (s g:Int):Option Q8:=if 0<=s then(match ss[s.toNat]? with|some v=>if v.2.2=true/\v.2.1=g then some v.1 else none|none=>none)else none
theorem WY ss s g:KG ss s g=(JD ss s g).isSome:=by
 unfold KG JD
 by_cases h:0<=s
 ·rw[Q5 h]
  cases e:ss[s.toNat]? with
  |none=>simp
  |some v=>
   obtain⟨x,j,i⟩:=v
   cases i
   ·simp
   by_cases h2:j=g<;>simp[h,h2]
 rw[Q3 h];simp[h]
theorem Gf ss s g:MA ss s g=(JD ss s g).getD Y3:=by
 unfold MA
 rw[WY]
 unfold JD Qg
 by_cases h:0<=s
 ·rw[Q5 h]
  cases e:ss[s.toNat]? with
  |none=>simp
  |some v=>
   obtain⟨x,j,i⟩:=v
   by_cases h2:i=true/\j=g
   ·simp[h2.1,h2.2]
   have:(if i=true/\j=g then some x else none:Option Q8)=none:=Q3 h2;simp[this]
 rw[Q3 h];rfl
theorem Gg ss s g:MB ss s g=if(JD ss s g).isSome=true then 0 else 7:=by unfold MB;rw[WY]
theorem Uj {ss} {k:Nat} (hk:k<ss.length) v s g:JD (ss.set k v) s g=if s=k then(if v.2.2=true/\v.2.1=g then some v.1 else none)else JD ss s g:=by
 unfold JD
 by_cases h:0<=s
 ·rw[Q5 h,Q5 h]
  by_cases e:s=k
  ·subst e
   rw[Q5 rfl];have:(ss.set k v)[((k:Nat):Int).toNat]?=some v:=by simp[hk]
   rw[this]
  rw[Q3 e,ZH (by omega)]
 rw[Q3 h,Q3 h,Q3 (by omega)]
theorem Ty ss v s g:JD (ss++ [v]) s g=if s=(ss.length:Nat)then(if v.2.2=true/\v.2.1=g then some v.1 else none)else JD ss s g:=by
 unfold JD
 by_cases h:0<=s
 ·rw[Q5 h,Q5 h]
  by_cases e:s=(ss.length:Nat)
  ·rw[Q5 e]
   have:(ss++ [v])[s.toNat]?=some v:=by subst e;simp
   rw[this]
  rw[Q3 e]
  by_cases h2:s.toNat<ss.length
  ·rw[List.getElem?_append_left h2]
  rw[DV (by simp;omega),DV (by omega)]
 rw[Q3 h,Q3 h,Q3 (by omega)]
theorem Qa3 s g:JD [] s g=none:=by unfold JD;split<;>simp
theorem Ei {ss k} (hk:k<ss.length) (i:ss[k].2.2=false) g:JD ss (k:Nat) g=none:=by
 unfold JD
 have:ss[((k:Nat):Int).toNat]?=some ss[k]:=by simp[hk]
 rw[Q5 (by omega),this]
 simp[i]
theorem Qy3 {ss s g x} (h:JD ss s g=some x): ∃k:Nat,s=k/\ ∃hk:k<ss.length,ss[k].2.2=true/\ss[k].2.1=g/\ss[k].1=x:=by
 unfold JD at h
 by_cases u:0<=s
 ·rw[Q5 u]at h
  cases e:ss[s.toNat]? with
  |none=>rw[e]at h;cases h
  |some v=>
   rw[e]at h;obtain⟨hk,i⟩:=TQ.1 e;dsimp only at h
   split at h
   ·rename_i j
    cases h;exact⟨s.toNat,by omega,hk,by rw[i];exact j.1,by rw[i];exact j.2,by rw[i]⟩
   cases h
 rw[Q3 u]at h;cases h
theorem Cd ss s:UP (ss++ [s])=UP ss+if s.2.2=true then 1 else 0:=by
 unfold UP
 rw[QL]
 cases h:s.2.2<;>simp[h]
theorem Ej s ss:UP (s::ss)=(if s.2.2=true then 1 else 0)+UP ss:=by
 unfold UP
 cases h:s.2.2<;>simp[h]<;>omega
theorem Uk ss v: ∀k (h:k<ss.length),UP (ss.set k v)+ (if ss[k].2.2=true then 1 else 0)=UP ss+ (if v.2.2=true then 1 else 0):=by
 induction ss with
 |nil=>intro k h;simp at h
 |cons s ss i=>
  intro k h
  cases k with
  |zero=>simp only[List.set_cons_zero,List.getElem_cons_zero,Ej];omega
  |succ k=>
   have:=i k (by simpa using h);simp only[List.set_cons_succ,List.getElem_cons_succ,Ej];omega
structure CY (ss:List BW) (fr:List Int) (most:Nat):Prop where
 nodup:fr.Nodup
 free: ∀i∈fr,∃k:Nat,i=k/\ ∃h:k<ss.length,ss[k].2.2=false
 count:ss.length=fr.length+UP ss
 cap:ss.length<=most
theorem CY.empty most:CY [] [] most:=⟨MW,fun i h=>by simp at h,rfl,V5 _⟩
theorem CY.new_ {ss most} (h:CY ss [] most) (u:UP ss<most) x:CY (ss++ [(x,0,true)]) [] most:=by
 have j:=h.count
 refine⟨MW,fun i h=>by simp at h, ?_, ?_⟩
 ·rw[Cd];simp at j|-;omega
 simp at j|-;omega
theorem CY.old_ {ss fr} {k most:Nat} (h:CY ss (fr++ [(k:Int)]) most) x a: ∃hk:k<ss.length,ss[k].2.2=false/\CY (ss.set k (x,a,true)) fr most/\UP (ss.set k (x,a,true))=UP ss+1:=by
 obtain⟨k',e,hk,y⟩:=h.free k (by simp)
 obtain rfl:k=k':=by omega
 have u:=Uk ss (x,a,true) k hk
 rw[y]at u
 simp at u
 have v:=h.nodup
 rw[YX]at v
 have E:=h.count
 refine⟨hk,y,⟨v.1,fun i C=> ?_, ?_, ?_⟩,u⟩
 ·obtain⟨j,rfl,J,N⟩:=h.free i (by simp[C])
  have D:k≠j:=fun e=>v.2.2 (j:Int) C (k:Int) (by simp) (by rw[e])
  exact⟨j,rfl,by simpa using J,by rw[PA D];exact N⟩
 ·rw[QN,u,E];simp;omega
 rw[QN];exact h.cap
theorem CY.take_ {ss fr k most} (h:CY ss fr most) (hk:k<ss.length) (E:ss[k].2.2=true) x a:CY (ss.set k (x,a,false)) (fr++ [(k:Int)]) most/\UP (ss.set k (x,a,false))+1=UP ss:=by
 have C:=Uk ss (x,a,false) k hk
 rw[E]at C
 simp at C
 have J:=h.count
 have D: ∀i∈fr,i≠(k:Int):=by
  intro i u e;obtain⟨j,rfl,v,y⟩:=h.free i u;obtain rfl:j=k:=by omega
  rw[E]at y;cases y
 refine⟨⟨?_, ?_, ?_, ?_⟩,C⟩
 ·rw[YX]
  refine⟨h.nodup,by simp,fun i u j v=> ?_⟩;simp at v;subst v;exact D i u
 ·intro i u
  rcases Y7.1 u with u|u
  ·obtain⟨j,rfl,v,y⟩:=h.free i u
   have:k≠j:=fun e=>D _ u (by rw[e])
   exact⟨j,rfl,by simpa using v,by rw[PA this];exact y⟩
  simp at u;subst u;exact⟨k,rfl,by simpa using hk,by rw[MM]⟩
 ·rw[QN];simp;omega
 rw[QN];exact h.cap
theorem LG {P} w N sT ty D k g o J a0 a y U u t cs m (hm:m=Nat.min y J)
  (hu:P.underlying N=some (.slice D)) (Z:(P.info? D).map (·.size)=some k)
  (hg:w.heap[g]?=some (.cells u t (0,0))) (hn:cs.length=m*k)
  (a2: ∀j v,cs[j]?=some v->w.cell? (a.add j)=some v) (a1:o+cs.length<=u.size) (h1: ∀v∈cs,v.oneCell'=true):
  (Builtin.copy_ #[N,sT] ty #[.slice (some ⟨g,o,none⟩) J a0,.slice (some a) y U]).run P w= .ok (goInt m) (w.setRow g (splice u.toList o cs).toArray):=by
 subst hm
 have E:=run_storeCells_at P g o t cs 0 u w hg (by simpa using a1) h1
 cases C:P.info? D with
 |none=>simp[C]at Z
 |some i=>
  have hi:i.size=k:=by simpa [C]using Z
  have hl:=run_firstCells_some (P:=P) w k (Nat.min y J) a y U cs hn a2;have e:u.toList.take o++cs++u.toList.drop (o+cs.length)=splice u.toList o cs:=by unfold splice;rw[VM]
  simp only[Nat.add_zero]at E;rw[e]at E;simp[Builtin.copy_,run_underlying hu,Builtin.lenOf,sizeOf,typeInfo,C,hi,hl,E]
theorem Jo {P ops o a w K Q E}
  (D:o.guard=none) d x i j (J:o.op=Op.call {callee:=Callee.builtin Builtin.copy,args:= #[d,x],argTypes:= #[i,j]})
  v u (C:a.eval d=v) (y:a.eval x=u) {v' w'} (Z:(Builtin.copy_ #[i,j] o.type #[v,u]).run P w= .ok v' w') (U:K (a.put o.dst v') w'):
  if Region.wanted o (yielded ops a.tmps)=true then Oper.wp P o a w K Q else E:=by
 have N:Region.wanted o (yielded ops a.tmps)=true:=by simp[Region.wanted,D]
 rw[Q5 N]
 unfold Oper.wp
 simp[execOp,J,resolve,invoke,builtin,C,y,Z,Result.andThen]
 exact U
section
variable {w w':World} {g:Nat} {t:TypeId}
theorem Q1.setRow w g cs cs' t (h:Q1 w g t cs):Q1 (w.setRow g cs') g t cs':=setRow_heap w g cs cs' t (0,0) h
abbrev D6:=@Q1.setRow
theorem Q6.setRow w g cs:Q6 (fun i=>i=g) w (w.setRow g cs):=⟨rfl,rfl,rfl,by simp[World.setRow],fun i _ j=>setRow_other w g i cs (fun e=>j e)⟩
abbrev B7:=@Q6.setRow
theorem Q1.shape {w g t cs} (h:Q1 w g t cs):w.shape? g=some (t,cs.size):=by
 unfold Q1 at h
 simp[World.shape?,h]
theorem Zx {row} (h:w.grownBy w' row):Q6 (fun i=>row=some i) w w':=⟨h.os,h.tape,h.output,h.size,fun i u j=>h.block i u (fun e=>j e.symm)⟩
theorem J2.whole {n c sz xs} (h:J2 w (some ⟨g,0,none⟩) n c t sz xs): ∃i:List Value,Q1 w g t i.toArray/\n<=c/\c<=maxLen/\i.length=c*sz/\i.take (n*sz)=xs:=by
 rcases h.2 with⟨h1,_⟩|⟨D,cap,i,v,h1,h2,j,y,C,u⟩
 ·cases h1
 cases v
 exact⟨i.toList,by simpa [Q1]using h2,j,y,by simpa using C,u⟩
theorem J2.of_whole {n c sz} {i:List Value} (u:Q1 w g t i.toArray) (j:n<=c) (y:c<=maxLen) (v:i.length=c*sz):J2 w (some ⟨g,0,none⟩) n c t sz (i.take (n*sz)):=by
 have:n*sz<=c*sz:=LU _ j
 exact⟨by rw[T6];omega,.inr ⟨g,c,i.toArray,rfl,V5 _,u,j,y,by simpa using v,by simp⟩⟩
end
theorem Ce (j X V:List Value) i n k (U:i<=n) (y:j.take (n*k)=X) (u:V.length=k) (N:(n+1)*k<=j.length):
  (splice (splice j ((i+1)*k) (X.drop (i*k))) (i*k) V).take ((n+1)*k)=X.take (i*k)++V++X.drop (i*k):=by
 have h1:i*k<=n*k:=LU _ U
 have E:(i+1)*k=i*k+k:=GX _ _
 have C:(n+1)*k=n*k+k:=GX _ _
 rw[E,C]
 rw[C]at N
 generalize i*k=a at*
 generalize n*k=b at*
 have a1:X.length=b:=by rw[<-y,T6];omega
 have v:(X.drop a).length=b-a:=by rw[KK,a1]
 have a0:X.take a=j.take a:=by rw[<-y,Jl,PR h1]
 unfold splice
 rw[u,v,show a+k+ (b-a)=b+k by omega]
 have J:(j.take (a+k)++(X.drop a++j.drop (b+k))).take a=j.take a:=by
  rw[PV (by rw[T6];omega),Jl,PR (by omega)]
 have Z:(j.take (a+k)++(X.drop a++j.drop (b+k))).drop (a+k)=X.drop a++j.drop (b+k):=by
  rw[List.drop_append,CG (by rw[T6];omega),T6,show a+k-min (a+k) j.length=0 by omega];rfl
 rw[J,Z,<-a0]
 have D:(X.take a).length=a:=by rw[T6];omega
 rw[show X.take a++(V++(X.drop a++j.drop (b+k)))=(X.take a++V++X.drop a)++j.drop (b+k) by simp]
 rw[PV (by simp only[List.length_append,D,u,v];omega),N7 (by simp only[List.length_append,D,u,v];omega)]
theorem Cr (j X V:List Value) i n k (U:i<=n) (Z:X.length=n*k) (J:j.take (i*k)=X.take (i*k)) (u:V.length=k) (N:(n+1)*k<=j.length):
  (splice (splice j (i*k) V) ((i+1)*k) (X.drop (i*k))).take ((n+1)*k)=X.take (i*k)++V++X.drop (i*k):=by
 have h1:i*k<=n*k:=LU _ U
 have D:(i+1)*k=i*k+k:=GX _ _
 have C:(n+1)*k=n*k+k:=GX _ _
 rw[D,C]
 rw[C]at N
 generalize i*k=a at*
 generalize n*k=b at*
 have y:(X.drop a).length=b-a:=by rw[KK,Z]
 have v:(X.take a).length=a:=by rw[T6];omega
 unfold splice
 rw[u,y,J,show a+k+ (b-a)=b+k by omega]
 have E:(X.take a++(V++j.drop (a+k))).take (a+k)=X.take a++V:=by
  rw[<-VM,PV (by simp only[List.length_append,v,u];omega),N7 (by simp only[List.length_append,v,u];omega)]
 have a0:(X.take a++(V++j.drop (a+k))).length=j.length:=by simp only[List.length_append,v,u,List.length_drop];omega
 rw[E]
 rw[show X.take a++V++(X.drop a++(X.take a++(V++j.drop (a+k))).drop (b+k))=(X.take a++V++X.drop a)++(X.take a++(V++j.drop (a+k))).drop (b+k) by simp]
 rw[PV (by simp only[List.length_append,v,u,y];omega),N7 (by simp only[List.length_append,v,u,y];omega)]
theorem Js {α enc k} (hk: ∀x,(enc x).length=k) xs (y:α) i:(Q9 enc xs).take (i*k)++enc y++(Q9 enc xs).drop (i*k)=Q9 enc (xs.take i++y::xs.drop i):=by
 rw[Xk hk,DB,RY]
 have:(Q9 enc xs).drop (i*k)=Q9 enc (xs.drop i):=by
  have h:=DB enc (xs.take i) (xs.drop i);rw[P2]at h
  by_cases j:i<=xs.length
  ·rw[h,List.drop_append_of_le_length (by rw[YV hk,T6];exact LU _ (by omega)),CG (by rw[YV hk,T6];exact LU _ (by omega))];rfl
  rw[CG (show xs.length<=i by omega),CG (by rw[YV hk];exact LU _ (by omega))];rfl
 rw[this,VM]
theorem Zy vs: ∀l p,p+vs.length<=l.length->UG l p vs=splice l p vs:=by
 induction vs with
 |nil=>intro l p h;simp[UG,splice]
 |cons v vs i=>
  intro l p h;rw[XX]at h;rw[UG,i _ _ (by rw[QN];omega)];unfold splice;rw[XX,show p+1+vs.length=p+ (vs.length+1) by omega,Zp (by omega)];rw[M8 (by rw[QN];omega),MM,TZ (Q4 _)];simp
theorem J2.sets {t g n c sz} i: ∀w xs p,J2 w (some ⟨g,0,none⟩) n c t sz xs->J2 (w.setCells g p i) (some ⟨g,0,none⟩) n c t sz (UG xs p i):=by
 induction i with
 |nil=>intro w xs p h;exact h
 |cons v i j=>intro w xs p h;exact j _ _ _ (h.set p v)
theorem Ve (X:List Value) a b (h1:a<=b) (h2:b<=X.length):(splice X a (X.drop b)).take (a+ (X.length-b))=X.take a++X.drop b:=by
 unfold splice
 rw[KK,<-VM]
 rw[PV (by simp;omega),N7 (by simp;omega)]
theorem Vu {α enc k} (hk: ∀x,(enc x).length=k) (xs:List α) i j (u:j<=xs.length):(Q9 enc xs).take (i*k)++(Q9 enc xs).drop (j*k)=Q9 enc (xs.take i++xs.drop j):=by
 rw[Xk hk,DB]
 have:(Q9 enc xs).drop (j*k)=Q9 enc (xs.drop j):=by
  have h:=DB enc (xs.take j) (xs.drop j);rw[P2]at h;rw[h,List.drop_append_of_le_length (by rw[YV hk,T6];exact LU _ (by omega)),CG (by rw[YV hk,T6];exact LU _ (by omega))];rfl
 rw[this]
