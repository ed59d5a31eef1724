/- Contracts and walks that the law's proof needs. -/
import Derived.Test.YtbmiieehkkfbgaaGreatDoorZd42
import Derived.Test.YtbmiieehkkfbgaaGreatDoorZd41
import Derived.Test.YtbmiieehkkfbgaaGreatDoorZd40
import Derived.Test.YtbmiieehkkfbgaaGreatDoorZd37
import Derived.Test.YtbmiieehkkfbgaaGreatDoorZd32
set_option linter.unusedVariables false
set_option maxRecDepth 100000
set_option maxHeartbeats 8000000
namespace Go.Proofs.YtbmiieehkkfbgaaGreatDoor
open Go Go.RowKit
def Jj8 (p:Int×Int):List Value:= [.int .i64 p.1,.int .i64 p.2]
theorem Qv3 (p:Int×Int):(Jj8 p).length=2:=rfl
def Xm6 (A:Option Addr) (c:Nat) (s:DS) (p:Option Addr):Array Value:= #[.slice A s.rows.length c,.int .i64 s.st,.int .i64 s.dy,.int .i64 s.p,.int .i64 s.tk,.int .i64 s.mo,.pointer p]
def Ja3 (w:World) (d:Nat) (G:Nat→Prop) (s:DS):Prop:=
 ∃A c,QJ w d 29 (Xm6 A c s none)∧QW w A s.rows.length c 93 2 (JQ Jj8 s.rows)∧(∀i,QZ A=some i→i≠d)∧ ∀i,G i↔i=d∨QZ A=some i
def Qs5 (w:World) (d:Nat) (G:Nat→Prop) (m:VQ):Prop:=
 ∃v0 v1 v2 v3 v4 v5 e F,QJ w d 29 #[v0,v1,v2,v3,v4,v5,.pointer (some ⟨e,0,none⟩)]∧YQ w e F m∧ ¬F d∧ ∀i,G i↔i=d∨F i
def J1 (w:World) (d:Nat) (G:Nat→Prop) (k:Nat) (s:DS):Prop:=
 match s.e with
 |none=>Ja3 w d G s
 |some m=>Qs5 w d G m∧MOk m k
def Qc6 (w w':World) (d:Nat) (G:Nat→Prop) (k:Nat) (s:DS):Prop:= ∃G',J1 w' d G' k s∧KQ w w' G G'
section
variable {w w':World} {d k:Nat} {G:Nat→Prop} {s:DS} {m:VQ}
theorem Ja3.below (h:Ja3 w d G s) (hb:Below w.heap.size w w'):Ja3 w' d G s:=by
 obtain⟨A,c,h1,h2,h3,h4⟩:=h
 exact⟨A,c,h1.keep hb,h2.below hb,h3,h4⟩
theorem Qs5.below (h:Qs5 w d G m) (hb:Below w.heap.size w w'):Qs5 w' d G m:=by
 obtain⟨v0,v1,v2,v3,v4,v5,e,F,h1,h2,h3,h4⟩:=h
 exact⟨v0,v1,v2,v3,v4,v5,e,F,h1.keep hb,h2.below hb,h3,h4⟩
theorem J1.n (h:J1 w d G k s) (he:s.e=none):Ja3 w d G s:=by unfold J1 at h;rw[he]at h;exact h
theorem J1.e (h:J1 w d G k s) (he:s.e=some m):Qs5 w d G m∧MOk m k:=by unfold J1 at h;rw[he]at h;exact h
theorem Ja3.at_ (h:Ja3 w d G s) (he:s.e=none):J1 w d G k s:=by unfold J1;rw[he];exact h
theorem Qs5.at_ (h:Qs5 w d G m) (ho:MOk m k) (he:s.e=some m):J1 w d G k s:=by unfold J1;rw[he];exact⟨h,ho⟩
theorem J1.below (h:J1 w d G k s) (hb:Below w.heap.size w w'):J1 w' d G k s:=by
 cases he:s.e with
 |none=>exact(h.n he |>.below hb).at_ he
 |some m=>exact((h.e he).1.below hb).at_ (h.e he).2 he
theorem J1.up (h:J1 w d G k s):J1 w d G (k+1) s:=by
 cases he:s.e with
 |none=>exact(h.n he).at_ he
 |some m=>exact(h.e he).1.at_ (h.e he).2.up he
theorem J1.cell6 (h:J1 w d G k s): ∃p:Option Addr,w.cell? ⟨d,6,none⟩=some (.pointer p)∧p.isSome=s.e.isSome:=by
 cases he:s.e with
 |none=>
  obtain⟨A,c,h1,-⟩:=h.n he;exact⟨none,by rw[QJ.cell h1];rfl,rfl⟩
 |some m=>
  obtain⟨v0,v1,v2,v3,v4,v5,e,F,h1,-⟩:=(h.e he).1;exact⟨some ⟨e,0,none⟩,by rw[QJ.cell h1];rfl,rfl⟩
theorem J1.to (h:J1 w d G k s) (hb:Below w.heap.size w w'):Qc6 w w' d G (k+1) s:=⟨G,(h.below hb).up,KQ.of_below hb⟩
theorem Qc6.pre {w0:World} (hb:Below w0.heap.size w0 w) (h:Qc6 w w' d G k s):Qc6 w0 w' d G k s:=by
 obtain⟨G',h1,h2⟩:=h
 exact⟨G',h1,(KQ.of_below hb).trans h2⟩
theorem Qc6.then_ {w2:World} (h:Qc6 w w' d G k s) (hb:Below w'.heap.size w' w2):Qc6 w w2 d G k s:=by
 obtain⟨G',h1,h2⟩:=h
 exact⟨G',h1.below hb,h2.trans (KQ.of_below hb)⟩
theorem Qs5.eng (h:Qs5 w d G m): ∃e F,w.cell? ⟨d,6,none⟩=some (.pointer (some ⟨e,0,none⟩))∧YQ w e F m∧ ¬F d∧
  ∀w' m',ZZ w w' e F m'→ ∃G',Qs5 w' d G' m'∧KQ w w' G G':=by
 obtain⟨v0,v1,v2,v3,v4,v5,e,F,h1,h2,h3,h4⟩:=h
 refine⟨e,F,by rw[QJ.cell h1];rfl,h2,h3,fun w' m' ht=> ?_⟩
 obtain⟨F',h5,h6,h7⟩:=ht
 refine⟨fun i=>i=d∨F' i,⟨v0,v1,v2,v3,v4,v5,e,F',QJ.keeps h1 h6 h3,h5,fun hd=> ?_,fun i=>Iff.rfl⟩,h6.mono (fun i hi=>(h4 i).2 (.inr hi)),fun i hi=> ?_⟩
 ·rcases h7 d hd with e1|e1
  ·exact h3 e1
  ·have:=h1.lt;omega
 ·rcases hi with e1|e1
  ·exact .inl ((h4 i).2 (.inl e1))
  ·exact(h7 i e1).imp (fun x=>(h4 i).2 (.inr x)) id
end
def Zb5 (p:Option Addr) (yes:Bool):Ending:=if p.isSome=yes then .returned (.tuple #[])else Qb5 6
theorem Kr1 (d:Nat) (p:Option Addr) (yes:Bool) (w:World) (hg:Qk7 w) (hc:w.cell? ⟨d,6,none⟩=some (.pointer p)):
  Calls Tryz.prog 48 #[.pointer (some ⟨d,0,none⟩),.bool yes] w fun e w'=>e=Zb5 p yes∧Below w.heap.size w w':=by
 have HM:=QQ (Qe5 6 w hg)
 cases p with
 |none=>
  cases yes
  ·go_enter Tryz.func48,Tryz.ntmps48
   go_wp2_with fail
   go_end0
   exact⟨rfl,Below.refl _ _⟩
  ·go_enter Tryz.func48,Tryz.ntmps48
   go_wp2_with (go_at_call 18;refine HM.out.mono ?_;rintro e w1 ⟨he,hB⟩;unfold Qb5 at he;subst he)
   exact⟨rfl,rfl,hB⟩
 |some p=>
  cases yes
  ·go_enter Tryz.func48,Tryz.ntmps48
   go_wp2_with (go_at_call 18;refine HM.out.mono ?_;rintro e w1 ⟨he,hB⟩;unfold Qb5 at he;subst he)
   exact⟨rfl,rfl,hB⟩
  ·go_enter Tryz.func48,Tryz.ntmps48
   go_wp2_with fail
   go_end0
   exact⟨rfl,Below.refl _ _⟩
structure MIn (w:World) (d:Nat) (G:Nat→Prop) (k:Nat) (s:DS) (A:Option Addr) (n0:Nat) (ws:List ByteArray):Prop where
 desk:J1 w d G k s
 glob:Qk7 w
 size:9≤w.heap.size
 gs: ∀i,G i→9≤i
 cells:OZ w A (ws.map Value.string)
 len:ws.length=n0
 szs: ∀s∈ws,s.size≤281474976710656
 n:n0≤100000
 k:k≤100000
def Kr2:Ans→Ending
 | .ok l=> .returned (.string ⟨l.toArray⟩)
 | .bad n=>Qb5 n
def Zi0:Ans→Prop
 | .ok l=>l.length≤10000000000
 | .bad n=>KZ n
def Qb6 (w:World) (d:Nat) (G:Nat→Prop) (k:Nat) (r:DS×Ans) (e:Ending) (w':World):Prop:=
 e=Kr2 r.2∧Zi0 r.2∧Qc6 w w' d G (k+1) r.1
section
variable {w:World} {d k n0:Nat} {G:Nat→Prop} {s:DS} {A:Option Addr} {ws:List ByteArray}
theorem MIn.numbers (h:MIn w d G k s A n0 ws) (c:Nat) (n:Int):Calls Tryz.prog 47 #[.slice A n0 c,.int .i64 n] w fun e w'=>Qh8 ws n w w' e∧Below w.heap.size w w':=
 Xw6 A n0 c ws n w h.glob h.size h.cells h.len h.szs h.n
theorem Xm7 {n:Int} {w':World} {e:Ending} (hn:XV ws n=none) (h:Qh8 ws n w w' e):e=Qb5 3:=by
 unfold Qh8 at h
 rw[hn]at h
 exact h
theorem Xm8 {n:Int} {w':World} {e:Ending} {l:List Int} (hn:XV ws n=some l) (h:Qh8 ws n w w' e): ∃A c,e= .returned (.slice A l.length c)∧OZ w' A (l.map Jm7)∧ ∀g,QZ A=some g→w.heap.size≤g:=by
 unfold Qh8 at h
 rw[hn]at h
 obtain⟨A,c,h1,h2,h3⟩:=h
 exact⟨A,c,h1,OZ.of_row h2,h3⟩
end
def Jj9 (f:XQ):ByteArray:=⟨(Z9 [f.b,f.s,f.p,f.n]).toArray⟩
def Xm9 (o:QX):ByteArray:=⟨(Z9 [o.id,o.kind,o.price,o.qty]).toArray⟩
theorem Xn0 {a b c d:Int} (ha:KZ a) (hb:KZ b) (hc:KZ c) (hd:KZ d):(Z9 [a,b,c,d]).length≤88:=Ja1 (l:= [a,b,c,d]) fun v hv=>by
 simp only[List.mem_cons,List.not_mem_nil,or_false]at hv
 rcases hv with rfl|rfl|rfl|rfl<;>assumption
theorem Jn0 {nm:Byt} (hn:nm.length≤1000) {F:List XQ} (hf: ∀f∈F,Zg2 f):(Qz5 nm F).length≤(F.length+1)*90+1002:=by
 have h:=Xm5 (k:=88) (xs:=F.map fun f=>Z9 [f.b,f.s,f.p,f.n]) [44,32] (fun x hx=>by
  obtain⟨f,hf',rfl⟩:=List.mem_map.1 hx;obtain⟨a,b,c,d⟩:=hf f hf';exact Xn0 a b c d)
 rw[List.length_map]at h
 have h2:=Xm4 (k:=88) (xs:=F.map fun f=>Z9 [f.b,f.s,f.p,f.n]) (fun x hx=>by
  obtain⟨f,hf',rfl⟩:=List.mem_map.1 hx;obtain⟨a,b,c,d⟩:=hf f hf';exact Xn0 a b c d)
 unfold Qz5
 rw[Lib.join_length,show Lib.lens (nm::F.map fun f=>Z9 [f.b,f.s,f.p,f.n])=nm.length+Lib.lens (F.map fun f=>Z9 [f.b,f.s,f.p,f.n]) by simp[Lib.lens]]
 rw[List.length_map]at h2⊢
 show 2*F.length+_≤_
 omega
theorem Jg1 {L:List QX} (hf: ∀o∈L,Qf4 o):(Qv1 L).length≤L.length*90:=by
 have h:=Xm5 (k:=88) (xs:=L.map fun o=>Z9 [o.id,o.kind,o.price,o.qty]) [44,32] (fun x hx=>by
  obtain⟨f,hf',rfl⟩:=List.mem_map.1 hx;obtain⟨a,b,c,d,e⟩:=hf f hf';exact Xn0 a c d e)
 rw[List.length_map]at h
 exact h
theorem Xh8 (nm:ByteArray) (A:Option Addr) (n0 c:Nat) (l:List XQ) (w:World) (hg:Qk7 w) (hsz:9≤w.heap.size) (hR:QW w A n0 c 145 4 (JQ Qb3 l)) (hf: ∀f∈l,Zg2 f) (hn:n0≤100000000) (hnm:nm.size≤1000):
  Calls Tryz.prog 63 #[.string nm,.slice A n0 c] w fun e w'=>e= .returned (.string ⟨(Qz5 nm.data.toList l).toArray⟩)∧Below w.heap.size w w':=by
 have HG:=QQ hg
 have HA:=QQ hR
 have HFs:=QQ hf
 have HL:=QQ (V0 Qu6 (by omega) hR)
 obtain⟨i0,hi0,hz0,hz1,hz2⟩:=info_parts Jz9
 clear hg hR hf
 go_enter Tryz.func63,Tryz.ntmps63
 go_wp2_with fail
 go_loopg [12,5] n0 (fun gg s8 s3 wx=> ∃(k c9:Nat) (A9:Option Addr),k≤n0∧gg=n0-k∧s8= .int .i64 k∧s3= .slice A9 (k+1) c9∧Below w.heap.size w wx∧QW wx A9 (k+1) c9 9 1 ((nm:: (l.take k).map Jj9).map Value.string)∧ ∀g,QZ A9=some g→w.heap.size≤g)
 case atStart=>
  refine⟨0,1,some ⟨w.heap.size,0,none⟩,Nat.zero_le _,rfl,rfl,rfl,(Below.refl _ w).alloc (Nat.le_refl _) _,⟨rfl,.inr ⟨w.heap.size,1,#[.string nm],rfl,Nat.zero_le _,heap_alloc_new w _,by omega,by unfold maxLen;omega,rfl,rfl⟩⟩,fun g hg=> ?_⟩
  cases hg;exact Nat.le_refl _
 case round=>
  obtain⟨k,c9,A9,hk,rfl,rfl,rfl,hB,hR,hup⟩:=hrel;have HB:=QQ hB;have HR:=QQ hR;have HUp:=QQ hup;clear hB hR hup
  by_cases hlt:k<n0
  ·have hltz:(k:Int)< (n0:Int):=by omega
   have hk0:(0:Int)≤(k:Int):=by omega
   have hkl:k<l.length:=by have:=HL.out;omega
   obtain⟨g0,hA⟩: ∃g0,A=some ⟨g0,0,none⟩:=by
    obtain⟨g0,h1,-⟩:=QW.elem Qu6 (by omega) HA.out hkl;exact⟨g0,h1⟩
   subst hA;obtain⟨x0,x1,x2,x3⟩:=Jz4 (HA.out.below HB.out) hkl;obtain⟨f,HX⟩: ∃f,Hid (l[k]=f):=⟨_,QQ rfl⟩;rw[HX.out]at x0 x1 x2 x3;have HF:=HFs.out f (by rw[←HX.out];exact List.getElem_mem hkl);have hfl: ∀v∈ [f.b,f.s,f.p,f.n],KZ v:=fun v hv=>by
    simp only[List.mem_cons,List.not_mem_nil,or_false]at hv;rcases hv with rfl|rfl|rfl|rfl<;>first|exact HF.1|exact HF.2.1|exact HF.2.2.1|exact HF.2.2.2|exact HF.2.2.2.1|exact HF.2.2.2.2
   have HTk:=QQ (show(nm:: (l.take (k+1)).map Jj9)=(nm:: (l.take k).map Jj9)++ [Jj9 f] by rw[List.take_succ_eq_append_getElem hkl,HX.out,List.map_append];rfl);have hB2:Below wr.heap.size wr ((wr.alloc (.cells #[.int .i64 f.b,.int .i64 f.s,.int .i64 f.p,.int .i64 f.n] 145)).alloc (.cells #[.int .i64 f.b,.int .i64 f.s,.int .i64 f.p,.int .i64 f.n] 3)):=((Below.refl _ wr).alloc (Nat.le_refl _) _).alloc (by simp) _;have HB2:=QQ hB2;have HGl:=QQ ((HG.out.below HB.out hsz).below hB2 (Nat.le_trans hsz HB.out.size));have hblk:QJ ((wr.alloc (.cells #[.int .i64 f.b,.int .i64 f.s,.int .i64 f.p,.int .i64 f.n] 145)).alloc (.cells #[.int .i64 f.b,.int .i64 f.s,.int .i64 f.p,.int .i64 f.n] 3)) (wr.heap.size+1) 3 #[.int .i64 f.b,.int .i64 f.s,.int .i64 f.p,.int .i64 f.n]:=by
    have h:=QJ.new (wr.alloc (.cells #[.int .i64 f.b,.int .i64 f.s,.int .i64 f.p,.int .i64 f.n] 145)) 3 #[.int .i64 f.b,.int .i64 f.s,.int .i64 f.p,.int .i64 f.n];simpa using h
   have HJ:=QQ (Ja2 (some ⟨wr.heap.size+1,0,none⟩) 4 4 [f.b,f.s,f.p,f.n] ((wr.alloc (.cells #[.int .i64 f.b,.int .i64 f.s,.int .i64 f.p,.int .i64 f.n] 145)).alloc (.cells #[.int .i64 f.b,.int .i64 f.s,.int .i64 f.p,.int .i64 f.n] 3)) HGl.out (Nat.le_trans hsz (Nat.le_trans HB.out.size hB2.size)) (OZ.of_blk hblk) rfl hfl (by omega));clear hB2 hblk hfl HF;go_wp2_with (first
    |(go_at_call 50;refine HJ.out.mono ?_;rintro e w1 ⟨rfl,hB1⟩;have HB1:=QQ hB1;have HR1:=QQ (QW.below (QW.below (QW.below HR.out HB2.out) hB1) ((Below.refl w1.heap.size w1).alloc (Nat.le_refl _) (.cells #[.string ⟨(Z9 [f.b,f.s,f.p,f.n]).toArray⟩] 9)));have HNw:=QQ (heap_alloc_new w1 (.cells #[.string ⟨(Z9 [f.b,f.s,f.p,f.n]).toArray⟩] 9));clear hB1)
    |(at_builtin;(refine wpList_append_lies _ rfl _ _ 50 rfl 0 9 i0 _ 1 16 Tryz.underlying50 hi0 hz0 hz1 hz2 rfl (by omega) (.slice A9 (k+1) c9) (k+1) _ rfl HR1.out ⟨w1.heap.size,0,none⟩ 1 1 [.string ⟨(Z9 [f.b,f.s,f.p,f.n]).toArray⟩] rfl rfl (World.news_of_block (cs:= #[.string ⟨(Z9 [f.b,f.s,f.p,f.n]).toArray⟩]) (t:=9) (fr:=(0,0)) HNw.out) (by simp[Value.oneCell']) (by omega) (by unfold maxLen;omega) (by omega) (by simp) (w1.heap.size+1) (by simp) ?_);intro gg cap w3 hown hgrow hat hlt3;have HOw:=QQ hown;have HGr:=QQ hgrow;have HAt:=QQ hat;clear hown hgrow hat))
   go_roundg (n0- (k+1))
   case measure=>omega
   case rel=>
    have hgr:=HGr.out;rw[JW]at hgr;have hat:=HAt.out;rw[JW]at hat;have hs1:=HB.out.size;have hs2:=HB2.out.size;have hs3:=HB1.out.size;have hb3:Below w.heap.size w w3:=(((HB.out.trans ((HB2.out.trans (HB1.out.mono HB2.out.size)).mono HB.out.size)).alloc (by omega) (.cells #[.string ⟨(Z9 [f.b,f.s,f.p,f.n]).toArray⟩] 9))).grown hgr (by simp;omega) (fun y hy=>by have:=HUp.out y hy;omega);refine⟨k+1,cap,some ⟨gg,0,none⟩,by omega,rfl,by go_num,rfl,hb3, ?_,fun g hg=> ?_⟩
    ·rw[HTk.out,List.map_append]
     exact HOw.out
    ·cases hg
     rcases hat with h1|h1
     ·exact HUp.out _ h1
     ·show w.heap.size≤gg;omega
  ·have hke:k=n0:=by omega
   subst hke;have hltz: ¬(k:Int)< (k:Int):=by omega
   have htk:l.take k=l:=List.take_of_length_le (by have:=HL.out;omega);have hl:=HL.out;have hR:=HR.out;rw[htk]at hR;have hle:(nm:: (l).map Jj9).length=k+1:=by simp[hl]
   have hmap:(nm:: (l).map Jj9).map (·.data.toList)=nm.data.toList::l.map fun f=>Z9 [f.b,f.s,f.p,f.n]:=by
    rw[List.map_cons,List.map_map];exact congrArg _ (List.map_congr_left fun v _=>by simp[Jj9])
   have hjl:(Lib.join ((nm:: (l).map Jj9).map (·.data.toList)) [44,32]).length≤140737488355328:=by
    rw[hmap];have:=Jn0 (nm:=nm.data.toList) (by rw[←Lib.size_eq];exact hnm) HFs.out;unfold Qz5 at this;omega
   have hJ:=Ku6 A9 c9 (nm:: (l).map Jj9) ⟨#[44,32]⟩ wr (by rw[hle];exact hR) hjl (by rw[hle];omega);rw[hle]at hJ;simp only[hmap]at hJ;have HJ2:=QQ hJ;clear hJ hjl hR htk hl hle hmap;go_wp2_with (go_at_call 76;refine HJ2.out.mono ?_;rintro e w1 ⟨rfl,hB1⟩)
   go_ret;exact⟨rfl,HB.out.trans (hB1.mono HB.out.size)⟩
theorem Xa4 (A:Option Addr) (n0 c:Nat) (l:List QX) (w:World) (hg:Qk7 w) (hsz:9≤w.heap.size) (hR:QW w A n0 c 117 5 (JQ I6 l)) (hf: ∀f∈l,Qf4 f) (hn:n0≤100000000):
  Calls Tryz.prog 56 #[.slice A n0 c] w fun e w'=>e= .returned (.string ⟨(Qv1 l).toArray⟩)∧Below w.heap.size w w':=by
 have HG:=QQ hg
 have HA:=QQ hR
 have HFs:=QQ hf
 have HL:=QQ (V0 O6 (by omega) hR)
 obtain⟨i0,hi0,hz0,hz1,hz2⟩:=info_parts Jz9
 clear hg hR hf
 go_enter Tryz.func56,Tryz.ntmps56
 go_wp2_with fail
 go_loopg [8,3] n0 (fun gg s8 s3 wx=> ∃(k c9:Nat) (A9:Option Addr),k≤n0∧gg=n0-k∧s8= .int .i64 k∧s3= .slice A9 (k) c9∧Below w.heap.size w wx∧QW wx A9 (k) c9 9 1 (((l.take k).map Xm9).map Value.string)∧ ∀g,QZ A9=some g→w.heap.size≤g)
 case atStart=>
  exact⟨0,0,none,Nat.zero_le _,rfl,rfl,rfl,Below.refl _ _,World.ownsRow_nil _ _ _ _,by simp[QZ]⟩
 case round=>
  obtain⟨k,c9,A9,hk,rfl,rfl,rfl,hB,hR,hup⟩:=hrel;have HB:=QQ hB;have HR:=QQ hR;have HUp:=QQ hup;clear hB hR hup
  by_cases hlt:k<n0
  ·have hltz:(k:Int)< (n0:Int):=by omega
   have hk0:(0:Int)≤(k:Int):=by omega
   have hkl:k<l.length:=by have:=HL.out;omega
   obtain⟨g0,hA⟩: ∃g0,A=some ⟨g0,0,none⟩:=by
    obtain⟨g0,h1,-⟩:=QW.elem O6 (by omega) HA.out hkl;exact⟨g0,h1⟩
   subst hA;obtain⟨x0,x1,x2,x3,x4⟩:=Qs7 (HA.out.below HB.out) hkl;obtain⟨f,HX⟩: ∃f,Hid (l[k]=f):=⟨_,QQ rfl⟩;rw[HX.out]at x0 x1 x2 x3 x4;have HF:=HFs.out f (by rw[←HX.out];exact List.getElem_mem hkl);have hfl: ∀v∈ [f.id,f.kind,f.price,f.qty],KZ v:=fun v hv=>by
    simp only[List.mem_cons,List.not_mem_nil,or_false]at hv;rcases hv with rfl|rfl|rfl|rfl<;>first|exact HF.1|exact HF.2.1|exact HF.2.2.1|exact HF.2.2.2|exact HF.2.2.2.1|exact HF.2.2.2.2
   have HTk:=QQ (show((l.take (k+1)).map Xm9)=((l.take k).map Xm9)++ [Xm9 f] by rw[List.take_succ_eq_append_getElem hkl,HX.out,List.map_append];rfl);have hB2:Below wr.heap.size wr ((wr.alloc (.cells #[.int .i64 f.id,.int .i64 f.side,.int .i64 f.kind,.int .i64 f.price,.int .i64 f.qty] 117)).alloc (.cells #[.int .i64 f.id,.int .i64 f.kind,.int .i64 f.price,.int .i64 f.qty] 3)):=((Below.refl _ wr).alloc (Nat.le_refl _) _).alloc (by simp) _;have HB2:=QQ hB2;have HGl:=QQ ((HG.out.below HB.out hsz).below hB2 (Nat.le_trans hsz HB.out.size));have hblk:QJ ((wr.alloc (.cells #[.int .i64 f.id,.int .i64 f.side,.int .i64 f.kind,.int .i64 f.price,.int .i64 f.qty] 117)).alloc (.cells #[.int .i64 f.id,.int .i64 f.kind,.int .i64 f.price,.int .i64 f.qty] 3)) (wr.heap.size+1) 3 #[.int .i64 f.id,.int .i64 f.kind,.int .i64 f.price,.int .i64 f.qty]:=by
    have h:=QJ.new (wr.alloc (.cells #[.int .i64 f.id,.int .i64 f.side,.int .i64 f.kind,.int .i64 f.price,.int .i64 f.qty] 117)) 3 #[.int .i64 f.id,.int .i64 f.kind,.int .i64 f.price,.int .i64 f.qty];simpa using h
   have HJ:=QQ (Ja2 (some ⟨wr.heap.size+1,0,none⟩) 4 4 [f.id,f.kind,f.price,f.qty] ((wr.alloc (.cells #[.int .i64 f.id,.int .i64 f.side,.int .i64 f.kind,.int .i64 f.price,.int .i64 f.qty] 117)).alloc (.cells #[.int .i64 f.id,.int .i64 f.kind,.int .i64 f.price,.int .i64 f.qty] 3)) HGl.out (Nat.le_trans hsz (Nat.le_trans HB.out.size hB2.size)) (OZ.of_blk hblk) rfl hfl (by omega));clear hB2 hblk hfl HF;go_wp2_with (first
    |(go_at_call 50;refine HJ.out.mono ?_;rintro e w1 ⟨rfl,hB1⟩;have HB1:=QQ hB1;have HR1:=QQ (QW.below (QW.below (QW.below HR.out HB2.out) hB1) ((Below.refl w1.heap.size w1).alloc (Nat.le_refl _) (.cells #[.string ⟨(Z9 [f.id,f.kind,f.price,f.qty]).toArray⟩] 9)));have HNw:=QQ (heap_alloc_new w1 (.cells #[.string ⟨(Z9 [f.id,f.kind,f.price,f.qty]).toArray⟩] 9));clear hB1)
    |(at_builtin;(refine wpList_append_lies _ rfl _ _ 50 rfl 0 9 i0 _ 1 16 Tryz.underlying50 hi0 hz0 hz1 hz2 rfl (by omega) (.slice A9 (k) c9) (k) _ rfl HR1.out ⟨w1.heap.size,0,none⟩ 1 1 [.string ⟨(Z9 [f.id,f.kind,f.price,f.qty]).toArray⟩] rfl rfl (World.news_of_block (cs:= #[.string ⟨(Z9 [f.id,f.kind,f.price,f.qty]).toArray⟩]) (t:=9) (fr:=(0,0)) HNw.out) (by simp[Value.oneCell']) (by omega) (by unfold maxLen;omega) (by omega) (by simp) (w1.heap.size+1) (by simp) ?_);intro gg cap w3 hown hgrow hat hlt3;have HOw:=QQ hown;have HGr:=QQ hgrow;have HAt:=QQ hat;clear hown hgrow hat))
   go_roundg (n0- (k+1))
   case measure=>omega
   case rel=>
    have hgr:=HGr.out;rw[JW]at hgr;have hat:=HAt.out;rw[JW]at hat;have hs1:=HB.out.size;have hs2:=HB2.out.size;have hs3:=HB1.out.size;have hb3:Below w.heap.size w w3:=(((HB.out.trans ((HB2.out.trans (HB1.out.mono HB2.out.size)).mono HB.out.size)).alloc (by omega) (.cells #[.string ⟨(Z9 [f.id,f.kind,f.price,f.qty]).toArray⟩] 9))).grown hgr (by simp;omega) (fun y hy=>by have:=HUp.out y hy;omega);refine⟨k+1,cap,some ⟨gg,0,none⟩,by omega,rfl,by go_num,rfl,hb3, ?_,fun g hg=> ?_⟩
    ·rw[HTk.out,List.map_append]
     exact HOw.out
    ·cases hg
     rcases hat with h1|h1
     ·exact HUp.out _ h1
     ·show w.heap.size≤gg;omega
  ·have hke:k=n0:=by omega
   subst hke;have hltz: ¬(k:Int)< (k:Int):=by omega
   have htk:l.take k=l:=List.take_of_length_le (by have:=HL.out;omega);have hl:=HL.out;have hR:=HR.out;rw[htk]at hR;have hle:((l).map Xm9).length=k:=by simp[hl]
   have hmap:((l).map Xm9).map (·.data.toList)=l.map fun o=>Z9 [o.id,o.kind,o.price,o.qty]:=by
    rw[List.map_map];exact List.map_congr_left fun v _=>by simp[Xm9]
   have hjl:(Lib.join (((l).map Xm9).map (·.data.toList)) [44,32]).length≤140737488355328:=by
    rw[hmap];have:=Jg1 HFs.out;unfold Qv1 at this;omega
   have hJ:=Ku6 A9 c9 ((l).map Xm9) ⟨#[44,32]⟩ wr (by rw[hle];exact hR) hjl (by rw[hle];omega);rw[hle]at hJ;simp only[hmap]at hJ;have HJ2:=QQ hJ;clear hJ hjl hR htk hl hle hmap;go_wp2_with (go_at_call 76;refine HJ2.out.mono ?_;rintro e w1 ⟨rfl,hB1⟩)
   go_ret;exact⟨rfl,HB.out.trans (hB1.mono HB.out.size)⟩
theorem XZ {n:Int} (h:0≤n∧n≤100):KZ n:=by unfold KZ;omega
theorem Jb8 (n:Int) (hn:n=0) (w:World):Calls Tryz.prog 18 #[VZ n] w fun e w'=>e= .returned (.tuple #[])∧Below w.heap.size w w':=by
 subst hn
 exact Jj7 w
theorem Qn3 (n:Int) (hn:n≠0) (w:World) (hg:Qk7 w):Calls Tryz.prog 18 #[VZ n] w fun e w'=>e= .panicked [{v:= .iface 47 (.agg #[.int .i64 n]),recovered:=false}]∧Below w.heap.size w w':=by
 refine(Za9 n w hg).mono ?_
 rintro e w' ⟨rfl,h⟩
 exact⟨by unfold Za8;rw[if_neg hn];rfl,h⟩
theorem Jn1 {w w':World} {G G':Nat→Prop} (hg:Qk7 w) (hs:KQ w w' G G') (gs: ∀i,G i→9≤i) (hz:9≤w.heap.size):Qk7 w':=hg.below (QK.below hs.1 gs hz) (Nat.le_refl _)
theorem ZZ.lists {w w':World} {e:Nat} {F:Nat→Prop} {m:VQ} (h:ZZ w w' e F m):ZW m.L1 m.L2:=by
 obtain⟨F',h1,-⟩:=h
 exact h1.lists
theorem ZZ.keep {w w':World} {e:Nat} {F:Nat→Prop} {m:VQ} (h:ZZ w w' e F m):QK F w w':=by
 obtain⟨F',-,h1⟩:=h
 exact h1.1
theorem Q2.to {w w':World} {e:Nat} {F:Nat→Prop} {P:List XQ→Prop} {m:VQ} {E:Int} {ev:Ending} (h:Q2 w w' e F P m E ev):ZZ w w' e F m:=by
 obtain⟨A,c,Fs,-,-,-,-,F',h5,h6,-⟩:=h
 exact⟨F',h5,h6⟩
section
variable {w:World} {d k n0:Nat} {G:Nat→Prop} {s:DS} {A:Option Addr} {ws:List ByteArray} {m:VQ} {w1:World}
theorem MIn.numbers_bad (h:MIn w d G k s A n0 ws) (c:Nat) {n:Int} (hn:XV ws n=none):
  Calls Tryz.prog 47 #[.slice A n0 c,.int .i64 n] w fun e w'=>e= .panicked [{v:= .iface 47 (.agg #[.int .i64 3]),recovered:=false}]∧Below w.heap.size w w':=by
 refine(h.numbers c n).mono ?_
 rintro e w' ⟨h1,h2⟩
 exact⟨Xm7 hn h1,h2⟩
theorem MIn.numbers_ok (h:MIn w d G k s A n0 ws) (c:Nat) {n:Int} {l:List Int} (hn:XV ws n=some l):
  Calls Tryz.prog 47 #[.slice A n0 c,.int .i64 n] w fun e w'=> ∃A1 c1,e= .returned (.slice A1 l.length c1)∧Below w.heap.size w w'∧OZ w' A1 (l.map Jm7)∧ ∀g,QZ A1=some g→w.heap.size≤g:=by
 refine(h.numbers c n).mono ?_
 rintro e w' ⟨h1,h2⟩
 obtain⟨A1,c1,h3,h4,h5⟩:=Xm8 hn h1
 exact⟨A1,c1,h3,h2,h4,h5⟩
theorem MIn.globs (h:MIn w d G k s A n0 ws) (hb:Below w.heap.size w w1):Qk7 w1:=h.glob.below hb h.size
theorem MIn.sizes (h:MIn w d G k s A n0 ws) (hb:Below w.heap.size w w1):9≤w1.heap.size:=Nat.le_trans h.size hb.size
theorem MIn.readies (h:MIn w d G k s A n0 ws) (hb:Below w.heap.size w w1) (yes:Bool):
  Calls Tryz.prog 48 #[.pointer (some ⟨d,0,none⟩),.bool yes] w1 fun e w'=>e=(if s.e.isSome=yes then .returned (.tuple #[])else .panicked [{v:= .iface 47 (.agg #[.int .i64 6]),recovered:=false}])∧Below w1.heap.size w1 w':=by
 obtain⟨p,hp,he⟩:=(h.desk.below hb).cell6
 refine(Kr1 d p yes w1 (h.globs hb) hp).mono ?_
 rintro e w' ⟨rfl,h1⟩
 exact⟨by unfold Zb5 Qb5;rw[he],h1⟩
theorem MIn.ready_yes (h:MIn w d G k s A n0 ws) (he:s.e=some m) (hb:Below w.heap.size w w1):
  Calls Tryz.prog 48 #[.pointer (some ⟨d,0,none⟩),.bool true] w1 fun e w'=>e= .returned (.tuple #[])∧Below w1.heap.size w1 w':=by
 refine(h.readies hb true).mono ?_
 rintro e w' ⟨rfl,h1⟩
 exact⟨by rw[he];rfl,h1⟩
theorem MIn.ready_not (h:MIn w d G k s A n0 ws) (he:s.e=none) (hb:Below w.heap.size w w1):
  Calls Tryz.prog 48 #[.pointer (some ⟨d,0,none⟩),.bool true] w1 fun e w'=>e= .panicked [{v:= .iface 47 (.agg #[.int .i64 6]),recovered:=false}]∧Below w1.heap.size w1 w':=by
 refine(h.readies hb true).mono ?_
 rintro e w' ⟨rfl,h1⟩
 exact⟨by rw[he];rfl,h1⟩
theorem MIn.ready_new (h:MIn w d G k s A n0 ws) (he:s.e=none) (hb:Below w.heap.size w w1):
  Calls Tryz.prog 48 #[.pointer (some ⟨d,0,none⟩),.bool false] w1 fun e w'=>e= .returned (.tuple #[])∧Below w1.heap.size w1 w':=by
 refine(h.readies hb false).mono ?_
 rintro e w' ⟨rfl,h1⟩
 exact⟨by rw[he];rfl,h1⟩
theorem MIn.ready_old (h:MIn w d G k s A n0 ws) (he:s.e=some m) (hb:Below w.heap.size w w1):
  Calls Tryz.prog 48 #[.pointer (some ⟨d,0,none⟩),.bool false] w1 fun e w'=>e= .panicked [{v:= .iface 47 (.agg #[.int .i64 6]),recovered:=false}]∧Below w1.heap.size w1 w':=by
 refine(h.readies hb false).mono ?_
 rintro e w' ⟨rfl,h1⟩
 exact⟨by rw[he];rfl,h1⟩
theorem MIn.engine (h:MIn w d G k s A n0 ws) (he:s.e=some m) (hb:Below w.heap.size w w1):
  ∃e F,w1.cell? ⟨d,6,none⟩=some (.pointer (some ⟨e,0,none⟩))∧YQ w1 e F m∧(∀i,F i→i<w.heap.size∧i≠d)∧
   ∀w3 m',ZZ w1 w3 e F m'→MOk m' (k+1)→Qk7 w3∧9≤w3.heap.size∧(∃G',Qs5 w3 d G' m')∧ ∀w4,Below w3.heap.size w3 w4→Qc6 w w4 d G (k+1) {s with e:=some m'}:=by
 obtain⟨e,F,c6,hE,hFd,hn⟩:=(h.desk.e he).1.eng
 refine⟨e,F,(hb.cell (p:=⟨d,6,none⟩) (World.block_lt_of_cell? w _ c6)).trans c6,hE.below hb,fun i hi=>⟨hE.lt hi,fun e1=>hFd (e1▸hi)⟩,fun w3 m' ht hm=> ?_⟩
 obtain⟨G',h5,h60⟩:=hn w3 m' (ZZ.pre hb ht)
 have h6:KQ w w3 G G':=h60
 refine⟨Jn1 h.glob h6 h.gs h.size,Nat.le_trans h.size h6.1.size,⟨G',h5⟩,fun w4 hb4=>⟨G',(h5.below hb4).at_ hm rfl,h6.trans (KQ.of_below hb4)⟩⟩
theorem MIn.mok (h:MIn w d G k s A n0 ws) (he:s.e=some m):MOk m k:=(h.desk.e he).2
theorem MIn.k6 (h:MIn w d G k s A n0 ws):k≤1000000:=Nat.le_trans h.k (by omega)
theorem XW {r:DS×Ans} {w':World} {e:Ending} {a:Ans} {s':DS} (hr:r=(s',a)) (he:e=Kr2 a) (ha:Zi0 a) (hd:Qc6 w w' d G (k+1) s'):Qb6 w d G k r e w':=by
 subst hr
 exact⟨he,ha,hd⟩
theorem Qp0 {n:Int} (hn:n=0) (l:Byt):Jr8 n l= .ok l:=if_pos hn
theorem Qj5 {n:Int} (hn:n≠0) (l:Byt):Jr8 n l= .bad n:=if_neg hn
end
theorem Kr3 (m:VQ):KZ (Qv8 m):=by unfold Qv8;split<;>exact XZ (by omega)
theorem Kr4 (m:VQ):KZ (Jd2 m):=by unfold Jd2;split<;>exact XZ (by omega)
theorem Kr5 (m:VQ):KZ (Jd1 m):=by unfold Jd1;split<;>exact XZ (by omega)
theorem Kr6 {w:World} {d k n0:Nat} {G:Nat→Prop} {s:DS} {A:Option Addr} {ws:List ByteArray} (h:MIn w d G k s A n0 ws) (c:Nat):
  Calls Tryz.prog 31 #[.pointer (some ⟨d,0,none⟩),.slice A n0 c] w (Qb6 w d G k (Jd5 s ws)):=by
 have H:=QQ h
 clear h
 cases hn:XV ws 0 with
 |none=>
  have HP:=QQ (show Jd5 s ws=(s,.bad 3) by unfold Jd5 ZK;rw[hn]);go_enter Tryz.func31,Tryz.ntmps31
  go_wp2_with (go_at_call 47;refine(H.out.numbers_bad c hn).mono ?_;rintro e w1 ⟨rfl,hB⟩)
  exact⟨rfl,XW HP.out rfl (XZ (by omega)) (H.out.desk.to hB)⟩
 |some l=>
  have HF:=QQ (YK hn)
  cases he:s.e with
  |none=>
   have HP:=QQ (show Jd5 s ws=(s,.bad 6) by unfold Jd5 ZK X4;rw[hn];simp only[he]);go_enter Tryz.func31,Tryz.ntmps31
   go_wp2_with (first
    |(go_at_call 47;refine(H.out.numbers_ok c hn).mono ?_;rintro e w1 ⟨A1,c1,rfl,hB,hC,hup⟩)
    |(go_at_call 48;refine(H.out.ready_not he hB).mono ?_;rintro e w2 ⟨rfl,hB2⟩))
   exact⟨rfl,XW HP.out rfl (XZ (by omega)) (H.out.desk.to (hB.trans (hB2.mono hB.size)))⟩
  |some m=>
   have HO:=QQ (H.out.mok he)
   by_cases hz:Qv8 m=0
   ·have HP:=QQ (show Jd5 s ws=({s with e:=some (Qf0 m)},.ok [104,97,108,116]) by unfold Jd5 ZK X4;rw[hn];simp only[he];rw[Qp0 hz])
    have HZ:=QQ hz;clear hz;go_enter Tryz.func31,Tryz.ntmps31
    go_wp2_with (first
     |(go_at_call 47;refine(H.out.numbers_ok c hn).mono ?_;rintro e w1 ⟨A1,c1,rfl,hB,hC,hup⟩)
     |(go_at_call 48;refine(H.out.ready_yes he hB).mono ?_;rintro e w2 ⟨rfl,hB2⟩;have HB:=QQ (hB.trans (hB2.mono hB.size));obtain⟨e,F,c6,hE,hfr,hnx⟩:=H.out.engine he HB.out;have HE:=QQ hE;have HX:=QQ hnx;have HFr:=QQ hfr;clear hE hnx hfr;clear hB hB2)
     |(go_at_call 53;refine(Xg3 HE.out).mono ?_;rintro ev w3 ⟨rfl,hT⟩;have HT:=QQ hT;have HN:=QQ (HX.out _ _ hT (HO.out.halt));clear hT)
     |(go_at_call 18;refine(Jb8 _ HZ.out _).mono ?_;rintro e w4 ⟨rfl,hB4⟩))
    go_ret;exact XW HP.out rfl (by show _≤10000000000;decide) (HN.out.2.2.2 _ hB4)
   ·have HP:=QQ (show Jd5 s ws=({s with e:=some (Qf0 m)},.bad (Qv8 m)) by unfold Jd5 ZK X4;rw[hn];simp only[he];rw[Qj5 hz])
    have HZ:=QQ hz;clear hz;go_enter Tryz.func31,Tryz.ntmps31
    go_wp2_with (first
     |(go_at_call 47;refine(H.out.numbers_ok c hn).mono ?_;rintro e w1 ⟨A1,c1,rfl,hB,hC,hup⟩)
     |(go_at_call 48;refine(H.out.ready_yes he hB).mono ?_;rintro e w2 ⟨rfl,hB2⟩;have HB:=QQ (hB.trans (hB2.mono hB.size));obtain⟨e,F,c6,hE,hfr,hnx⟩:=H.out.engine he HB.out;have HE:=QQ hE;have HX:=QQ hnx;have HFr:=QQ hfr;clear hE hnx hfr;clear hB hB2)
     |(go_at_call 53;refine(Xg3 HE.out).mono ?_;rintro ev w3 ⟨rfl,hT⟩;have HT:=QQ hT;have HN:=QQ (HX.out _ _ hT (HO.out.halt));clear hT)
     |(go_at_call 18;refine(Qn3 _ HZ.out _ HN.out.1).mono ?_;rintro e w4 ⟨rfl,hB4⟩))
    exact⟨rfl,XW HP.out rfl (Kr3 _) (HN.out.2.2.2 _ hB4)⟩
theorem Kr7 {w:World} {d k n0:Nat} {G:Nat→Prop} {s:DS} {A:Option Addr} {ws:List ByteArray} (h:MIn w d G k s A n0 ws) (c:Nat):
  Calls Tryz.prog 33 #[.pointer (some ⟨d,0,none⟩),.slice A n0 c] w (Qb6 w d G k (Jd6 s ws)):=by
 have H:=QQ h
 clear h
 cases hn:XV ws 0 with
 |none=>
  have HP:=QQ (show Jd6 s ws=(s,.bad 3) by unfold Jd6 ZK;rw[hn]);go_enter Tryz.func33,Tryz.ntmps33
  go_wp2_with (go_at_call 47;refine(H.out.numbers_bad c hn).mono ?_;rintro e w1 ⟨rfl,hB⟩)
  exact⟨rfl,XW HP.out rfl (XZ (by omega)) (H.out.desk.to hB)⟩
 |some l=>
  have HF:=QQ (YK hn)
  cases he:s.e with
  |none=>
   have HP:=QQ (show Jd6 s ws=(s,.bad 6) by unfold Jd6 ZK X4;rw[hn];simp only[he]);go_enter Tryz.func33,Tryz.ntmps33
   go_wp2_with (first
    |(go_at_call 47;refine(H.out.numbers_ok c hn).mono ?_;rintro e w1 ⟨A1,c1,rfl,hB,hC,hup⟩)
    |(go_at_call 48;refine(H.out.ready_not he hB).mono ?_;rintro e w2 ⟨rfl,hB2⟩))
   exact⟨rfl,XW HP.out rfl (XZ (by omega)) (H.out.desk.to (hB.trans (hB2.mono hB.size)))⟩
  |some m=>
   have HO:=QQ (H.out.mok he)
   by_cases hz:Jd2 m=0
   ·have HP:=QQ (show Jd6 s ws=({s with e:=some (Y4 m)},.ok [111,112,101,110]) by unfold Jd6 ZK X4;rw[hn];simp only[he];rw[Qp0 hz])
    have HZ:=QQ hz;clear hz;go_enter Tryz.func33,Tryz.ntmps33
    go_wp2_with (first
     |(go_at_call 47;refine(H.out.numbers_ok c hn).mono ?_;rintro e w1 ⟨A1,c1,rfl,hB,hC,hup⟩)
     |(go_at_call 48;refine(H.out.ready_yes he hB).mono ?_;rintro e w2 ⟨rfl,hB2⟩;have HB:=QQ (hB.trans (hB2.mono hB.size));obtain⟨e,F,c6,hE,hfr,hnx⟩:=H.out.engine he HB.out;have HE:=QQ hE;have HX:=QQ hnx;have HFr:=QQ hfr;clear hE hnx hfr;clear hB hB2)
     |(go_at_call 54;refine(Xh4 HE.out (HO.out.in_ H.out.k6)).mono ?_;rintro ev w3 ⟨rfl,hT⟩;have HT:=QQ hT;have HN:=QQ (HX.out _ _ hT (HO.out.open_ (ZZ.lists hT)));clear hT)
     |(go_at_call 18;refine(Jb8 _ HZ.out _).mono ?_;rintro e w4 ⟨rfl,hB4⟩))
    go_ret;exact XW HP.out rfl (by show _≤10000000000;decide) (HN.out.2.2.2 _ hB4)
   ·have HP:=QQ (show Jd6 s ws=({s with e:=some (Y4 m)},.bad (Jd2 m)) by unfold Jd6 ZK X4;rw[hn];simp only[he];rw[Qj5 hz])
    have HZ:=QQ hz;clear hz;go_enter Tryz.func33,Tryz.ntmps33
    go_wp2_with (first
     |(go_at_call 47;refine(H.out.numbers_ok c hn).mono ?_;rintro e w1 ⟨A1,c1,rfl,hB,hC,hup⟩)
     |(go_at_call 48;refine(H.out.ready_yes he hB).mono ?_;rintro e w2 ⟨rfl,hB2⟩;have HB:=QQ (hB.trans (hB2.mono hB.size));obtain⟨e,F,c6,hE,hfr,hnx⟩:=H.out.engine he HB.out;have HE:=QQ hE;have HX:=QQ hnx;have HFr:=QQ hfr;clear hE hnx hfr;clear hB hB2)
     |(go_at_call 54;refine(Xh4 HE.out (HO.out.in_ H.out.k6)).mono ?_;rintro ev w3 ⟨rfl,hT⟩;have HT:=QQ hT;have HN:=QQ (HX.out _ _ hT (HO.out.open_ (ZZ.lists hT)));clear hT)
     |(go_at_call 18;refine(Qn3 _ HZ.out _ HN.out.1).mono ?_;rintro e w4 ⟨rfl,hB4⟩))
    exact⟨rfl,XW HP.out rfl (Kr4 _) (HN.out.2.2.2 _ hB4)⟩
theorem Kr8 {w:World} {d k n0:Nat} {G:Nat→Prop} {s:DS} {A:Option Addr} {ws:List ByteArray} (h:MIn w d G k s A n0 ws) (c:Nat):
  Calls Tryz.prog 32 #[.pointer (some ⟨d,0,none⟩),.slice A n0 c] w (Qb6 w d G k (Qw1 s ws)):=by
 have H:=QQ h
 clear h
 cases hn:XV ws 0 with
 |none=>
  have HP:=QQ (show Qw1 s ws=(s,.bad 3) by unfold Qw1 ZK;rw[hn]);go_enter Tryz.func32,Tryz.ntmps32
  go_wp2_with (go_at_call 47;refine(H.out.numbers_bad c hn).mono ?_;rintro e w1 ⟨rfl,hB⟩)
  exact⟨rfl,XW HP.out rfl (XZ (by omega)) (H.out.desk.to hB)⟩
 |some l=>
  have HF:=QQ (YK hn);have HP:=QQ (show Qw1 s ws=(s,.ok Xw2) by unfold Qw1 ZK;rw[hn]);go_enter Tryz.func32,Tryz.ntmps32
  go_wp2_with (go_at_call 47;refine(H.out.numbers_ok c hn).mono ?_;rintro e w1 ⟨A1,c1,rfl,hB,hC,hup⟩)
  go_ret;exact XW HP.out rfl (by show _≤10000000000;decide) (H.out.desk.to hB)
end Go.Proofs.YtbmiieehkkfbgaaGreatDoor
