/- Contracts and walks that the law's proof needs. -/
import Derived.WalkKit
import Derived.WalkLawsBesides
import Derived.WalkSpells
import Derived.Deep.LoopGhost
import Derived.Deep.DeepCutAuto
import Derived.Deep.CutBlock
import Derived.Deep.AppendLies
import Derived.Deep.QuietTactic
import Derived.Lib.ItoaLen
import Derived.BigQuiet
import Derived.Test.YtbmiieehkkfbgaaGreatDoorZd9
import Derived.Test.YtbmiieehkkfbgaaGreatDoorZd40
import Derived.Test.YtbmiieehkkfbgaaGreatDoorZd33
import Derived.Test.YtbmiieehkkfbgaaGreatDoorZd35
import Derived.Test.YtbmiieehkkfbgaaGreatDoorZd1
set_option linter.unusedVariables false
set_option maxRecDepth 100000
set_option maxHeartbeats 8000000
namespace Go.Proofs.YtbmiieehkkfbgaaGreatDoor
open Go Go.RowKit
def Qb5 (n:Int):Ending:= .panicked [{v:= .iface 47 (.agg #[.int .i64 n]),recovered:=false}]
def Za8 (n:Int):Ending:=if n=0 then .returned (.tuple #[])else Qb5 n
theorem Jj7 (w:World):Calls Tryz.prog 18 #[.nilIface] w fun e w'=>e= .returned (.tuple #[])∧Below w.heap.size w w':=by
 go_enter Tryz.func18,Tryz.ntmps18
 go_wp2
 go_end0
 exact⟨rfl,Below.refl _ _⟩
theorem Qe5 (n:Int) (w:World) (hg:Qk7 w):Calls Tryz.prog 18 #[.iface 45 (.int .i64 n)] w fun e w'=>e=Qb5 n∧Below w.heap.size w w':=by
 have HT:=QQ hg.err
 go_enter Tryz.func18,Tryz.ntmps18
 go_wp2_with (go_at_call 43;refine(Xx6 n _ HT.out).mono ?_;rintro e w1 ⟨rfl,hB⟩)
 exact⟨rfl,rfl,hB⟩
theorem Zf9 (g:Nat) (n:Int) (w:World) (hg:Qk7 w) (hc:w.cell? ⟨g,0,none⟩=some (.int .i64 n)):Calls Tryz.prog 18 #[.iface 196 (.pointer (some ⟨g,0,none⟩))] w fun e w'=>e=Qb5 n∧Below w.heap.size w w':=by
 have HT:=QQ hg.err
 go_enter Tryz.func18,Tryz.ntmps18
 go_wp2_with (go_at_call 43;refine(Zd0 g n _ HT.out hc).mono ?_;rintro e w1 ⟨rfl,hB⟩)
 exact⟨rfl,rfl,hB⟩
theorem Za9 (n:Int) (w:World) (hg:Qk7 w):Calls Tryz.prog 18 #[VZ n] w fun e w'=>e=Za8 n∧Below w.heap.size w w':=by
 unfold VZ Za8
 by_cases h:n=0
 ·rw[if_pos h,if_pos h];exact Jj7 w
 ·rw[if_neg h,if_neg h];exact Qe5 n w hg
theorem Zg0 (v:Value) (n pl:Int) (w:World) (hg:Qk7 w) (h:Xc5 w v n pl) (hn:n≠0):Calls Tryz.prog 18 #[v] w fun e w'=>e=Qb5 n∧Below w.heap.size w w':=by
 rcases h with⟨rfl,rfl,rfl⟩|⟨rfl,rfl⟩|⟨g,rfl,h2,h3⟩
 ·exact absurd rfl hn
 ·exact Qe5 n w hg
 ·exact Zf9 g n w hg h2
theorem Jz9:(Tryz.prog.info? 9).map (fun i=>(i.zero,i.size,i.bytes))=some (some (.string ⟨#[]⟩),1,16):=by kernel_rfl
theorem Kq6:(Tryz.prog.info? 3).map (fun i=>(i.zero,i.size,i.bytes))=some (some (.int .i64 0),1,8):=by kernel_rfl
def OZ (w:World) (A:Option Addr) (vs:List Value):Prop:= ∀j v,vs[j]?=some v→ ∃b o,A=some ⟨b,o,none⟩∧w.cell? ⟨b,o+j,none⟩=some v
theorem OZ.below {w w':World} {A:Option Addr} {vs:List Value} (h:OZ w A vs) (hb:Below w.heap.size w w'):OZ w' A vs:=fun j v hv=>by
 obtain⟨b,o,h1,h2⟩:=h j v hv
 exact⟨b,o,h1,(hb.cell (p:=⟨b,o+j,none⟩) (World.block_lt_of_cell? w _ h2)).trans h2⟩
theorem OZ.of_row {w:World} {A:Option Addr} {n c:Nat} {t:TypeId} {vs:List Value} (h:QW w A n c t 1 vs):OZ w A vs:=fun j v hv=>by
 obtain⟨g,h1,h2⟩:=h.cell hv
 exact⟨g,0,h1,by rw[Nat.zero_add];exact h2⟩
theorem OZ.of_blk {w:World} {g:Nat} {t:TypeId} {cs:Array Value} (h:QJ w g t cs):OZ w (some ⟨g,0,none⟩) cs.toList:=fun j v hv=>⟨g,0,rfl,by
 rw[Nat.zero_add,QJ.cell h]
 simpa using hv⟩
def Jm7 (n:Int):Value:= .int .i64 n
def Ke5 (n:Int):ByteArray:=⟨(Lib.itoa n).toArray⟩
theorem Xm4 {k:Nat}: ∀ {xs:List (List UInt8)},(∀x∈xs,x.length≤k)→Lib.lens xs≤xs.length*k
 | [],_=>Nat.zero_le _
 |x::xs,h=>by
  have h1:=h x List.mem_cons_self;have h2:=Xm4 (xs:=xs) (fun y hy=>h y (List.mem_cons_of_mem _ hy));rw[show Lib.lens (x::xs)=x.length+Lib.lens xs by simp[Lib.lens],List.length_cons,Nat.succ_mul];omega
theorem Xm5 {k:Nat} {xs:List (List UInt8)} (sep:List UInt8) (h: ∀x∈xs,x.length≤k):(Lib.join xs sep).length≤xs.length* (k+sep.length):=by
 cases xs with
 |nil=>simp[Lib.join_nil]
 |cons x r=>
  have h1:=Xm4 h;rw[Lib.join_length,Nat.mul_add];have h2:sep.length*r.length≤(x::r).length*sep.length:=by rw[Nat.mul_comm];exact Nat.mul_le_mul_right _ (by simp)
  omega
theorem Ja1 {l:List Int} (h: ∀v∈l,KZ v):(Z9 l).length≤l.length*22:=by
 have h1:=Xm5 (k:=21) (xs:=l.map Lib.itoa) [32] (fun x hx=>by
  obtain⟨v,hv,rfl⟩:=List.mem_map.1 hx;exact Lib.itoa_length_le v (h v hv).1 (h v hv).2)
 rw[List.length_map]at h1
 exact h1
theorem Ja2 (A:Option Addr) (n0 c:Nat) (l:List Int) (w:World) (hg:Qk7 w) (hsz:9≤w.heap.size) (hC:OZ w A (l.map Jm7)) (hn0:l.length=n0) (hf: ∀v∈l,KZ v) (hn:n0≤100000):
  Calls Tryz.prog 50 #[.slice A n0 c] w fun e w'=>e= .returned (.string ⟨(Z9 l).toArray⟩)∧Below w.heap.size w w':=by
 have HG:=QQ hg
 have HC:=QQ hC
 have HF:=QQ hf
 have HL:=QQ hn0
 obtain⟨i0,hi0,hz0,hz1,hz2⟩:=info_parts Jz9
 clear hg hC hf hn0
 go_enter Tryz.func50,Tryz.ntmps50
 go_wp2_with fail
 go_loopg [8,3] n0 (fun gg s8 s3 wx=> ∃(k c9:Nat) (A9:Option Addr),k≤n0∧gg=n0-k∧s8= .int .i64 k∧s3= .slice A9 k c9∧Below w.heap.size w wx∧QW wx A9 k c9 9 1 (((l.take k).map Ke5).map Value.string)∧ ∀g,QZ A9=some g→w.heap.size≤g)
 case atStart=>
  exact⟨0,0,none,Nat.zero_le _,rfl,rfl,rfl,Below.refl _ _,World.ownsRow_nil _ _ _ _,by simp[QZ]⟩
 case round=>
  obtain⟨k,c9,A9,hk,rfl,rfl,rfl,hB,hR,hup⟩:=hrel;have HB:=QQ hB;have HR:=QQ hR;have HUp:=QQ hup;clear hB hR hup
  by_cases hlt:k<n0
  ·have hltz:(k:Int)< (n0:Int):=by omega
   have hk0:(0:Int)≤(k:Int):=by omega
   have hkl:k<l.length:=by have:=HL.out;omega
   obtain⟨x,HX⟩: ∃x,Hid (l[k]=x):=⟨_,QQ rfl⟩;have hget:(l.map Jm7)[k]?=some (Jm7 x):=by rw[List.getElem?_map,List.getElem?_eq_getElem hkl,HX.out];rfl
   obtain⟨b,o,hA,hc⟩:=HC.out k _ hget;have hxf:=HF.out x (by rw[←HX.out];exact List.getElem_mem hkl);have hc':wr.cell? ⟨b,o+k,none⟩=some (.int .i64 x):=(HB.out.cell (p:=⟨b,o+k,none⟩) (World.block_lt_of_cell? w _ hc)).trans hc;have HTk:=QQ (show(l.take (k+1))=l.take k++ [x] by rw[List.take_succ_eq_append_getElem hkl,HX.out]);have HGl:=QQ (HG.out.below HB.out hsz);have HI:=QQ (Xq5 x hxf wr HGl.out);subst hA;clear hc hget hxf;go_wp2_with (first
    |(go_at_call 14;refine HI.out.mono ?_;rintro e w1 ⟨rfl,hB1⟩;have HB1:=QQ hB1;have HR1:=QQ (QW.below (QW.below HR.out hB1) ((Below.refl w1.heap.size w1).alloc (Nat.le_refl _) (.cells #[.string ⟨(Lib.itoa x).toArray⟩] 9)));have HNw:=QQ (heap_alloc_new w1 (.cells #[.string ⟨(Lib.itoa x).toArray⟩] 9));clear hB1)
    |(at_builtin;(refine wpList_append_lies _ rfl _ _ 50 rfl 0 9 i0 _ 1 16 Tryz.underlying50 hi0 hz0 hz1 hz2 rfl (by omega) (.slice A9 k c9) k _ rfl HR1.out ⟨w1.heap.size,0,none⟩ 1 1 [.string ⟨(Lib.itoa x).toArray⟩] rfl rfl (World.news_of_block (cs:= #[.string ⟨(Lib.itoa x).toArray⟩]) (t:=9) (fr:=(0,0)) HNw.out) (by simp[Value.oneCell']) (by omega) (by unfold maxLen;omega) (by omega) (by simp) (w1.heap.size+1) (by simp) ?_);intro gg cap w3 hown hgrow hat hlt3;have HOw:=QQ hown;have HGr:=QQ hgrow;have HAt:=QQ hat;clear hown hgrow hat))
   go_roundg (n0- (k+1))
   case measure=>omega
   case rel=>
    have hgr:=HGr.out;rw[JW]at hgr;have hat:=HAt.out;rw[JW]at hat;have hs1:=HB.out.size;have hs2:=HB1.out.size;have hb3:Below w.heap.size w w3:=(((HB.out.trans (HB1.out.mono HB.out.size)).alloc (by omega) (.cells #[.string ⟨(Lib.itoa x).toArray⟩] 9))).grown hgr (by simp;omega) (fun y hy=>by have:=HUp.out y hy;omega);refine⟨k+1,cap,some ⟨gg,0,none⟩,by omega,rfl,by go_num,rfl,hb3, ?_,fun g hg=> ?_⟩
    ·rw[HTk.out,List.map_append,List.map_append]
     exact HOw.out
    ·cases hg
     rcases hat with h1|h1
     ·exact HUp.out _ h1
     ·show w.heap.size≤gg;omega
  ·have hke:k=n0:=by omega
   subst hke;have hltz: ¬(k:Int)< (k:Int):=by omega
   have htk:l.take k=l:=List.take_of_length_le (by have:=HL.out;omega);have hl:=HL.out;have hR:=HR.out;rw[htk]at hR;have hjl:(Lib.join ((l.map Ke5).map (·.data.toList)) [32]).length≤140737488355328:=by
    have h1:=Ja1 HF.out;have h2:(l.map Ke5).map (·.data.toList)=l.map Lib.itoa:=by rw[List.map_map];exact List.map_congr_left fun v _=>by simp[Ke5]
    rw[h2];unfold Z9 at h1;omega
   have HJ:=QQ (Ku6 A9 c9 (l.map Ke5) ⟨#[32]⟩ wr (by rw[List.length_map,hl];exact hR) hjl (by rw[List.length_map,hl];omega));have hJ:=HJ.out;rw[List.length_map,hl]at hJ;have HJ2:=QQ hJ;clear hJ HJ hjl hR htk hl;go_wp2_with (go_at_call 76;refine HJ2.out.mono ?_;rintro e w1 ⟨rfl,hB1⟩)
   go_ret;refine⟨?_,HB.out.trans (hB1.mono HB.out.size)⟩;have h2:List.map ((fun x:ByteArray=>x.data.toList)∘Ke5) l=l.map Lib.itoa:=List.map_congr_left fun v _=>by simp[Ke5]
   rw[h2]
   rfl
structure MOk (m:VQ) (k:Nat):Prop where
 ok:YJ m
 now:0≤m.now∧m.now≤k
 ph:1≤m.ph∧m.ph≤7
section
variable {m:VQ} {k:Nat}
theorem MOk.in_ (h:MOk m k) (hk:k≤1000000):Qn2 m:=h.ok.in_ ⟨h.now.1,by have:=h.now.2;omega⟩
theorem MOk.next (h:MOk m k) (hk:k≤1000000):Qn2 (XX m):=h.ok.next.in_ ⟨by have:=h.now.1;show 0≤m.now+1;omega,by have:=h.now.2;show m.now+1≤1000000000000;omega⟩
theorem MOk.up (h:MOk m k):MOk m (k+1):=⟨h.ok,⟨h.now.1,by have:=h.now.2;omega⟩,h.ph⟩
theorem MOk.order (h:MOk m k) {o:QX} (hf:Qf4 o) (hl:ZW (IZ m o).L1 (IZ m o).L2):MOk (IZ m o) (k+1):=by
 obtain⟨-,hn,hp⟩:=Jf6 m o
 refine⟨h.ok.order hf hl,⟨by rw[hn];exact h.now.1,by rw[hn];have:=h.now.2;omega⟩, ?_⟩
 have:=h.ph
 rcases hp with⟨e,-,-⟩|⟨-,e,-,-⟩<;>omega
theorem MOk.cancel (h:MOk m k) (id:Int) (hl:ZW (UW m id).L1 (UW m id).L2):MOk (UW m id) (k+1):=by
 obtain⟨hp,hn,-,-⟩:=Qz4 m id
 exact⟨h.ok.cancel id hl,⟨by rw[hn];exact h.now.1,by rw[hn];have:=h.now.2;omega⟩,by rw[hp];exact h.ph⟩
theorem MOk.halt (h:MOk m k):MOk (Qf0 m) (k+1):=by
 refine⟨h.ok.halt, ?_, ?_⟩
 ·unfold Qf0;split<;>exact⟨h.now.1,by have:=h.now.2;show m.now≤_;omega⟩
 ·have:=h.ph
  unfold Qf0;split
  ·exact this
  ·show 1≤(6:Int)∧(6:Int)≤7;omega
theorem Zh9 {p:Int} (h:p=1∨p=2∨p=3∨p=5∨p=7):1≤p∧p≤7:=by omega
theorem Kq7 (m:VQ):(Qc4 m).now=m.now:=(O8 m.pk {m with ph:=5}).2.2.2.2.2.2.2.2.2.2.1
theorem Zb0 (m:VQ):(Qc4 m).ph=5:=(O8 m.pk {m with ph:=5}).2.2.2.2.2.2.2.2.2.1
theorem MOk.open_ (h:MOk m k) (hl:ZW (Y4 m).L1 (Y4 m).L2):MOk (Y4 m) (k+1):=by
 have hp:=Zh9 (Qz3 h.ok.tab h.now.1)
 have hn:(Y4 m).now=m.now∧1≤(Y4 m).ph∧(Y4 m).ph≤7:=by
  unfold Y4
  split
  ·split
   ·exact⟨rfl,by show 1≤(4:Int);omega,by show(4:Int)≤7;omega⟩
   ·split
    ·rw[Kq7,Zb0];omega
    ·exact⟨rfl,hp⟩
  ·exact⟨rfl,h.ph⟩
 exact⟨h.ok.open_ hl,⟨by rw[hn.1];exact h.now.1,by rw[hn.1];have:=h.now.2;omega⟩,hn.2⟩
theorem MOk.tick (h:MOk m k) (hl:ZW (J6 m).L1 (J6 m).L2):MOk (J6 m) (k+1):=by
 have hn:=Jj4 m
 have hp:=Zh9 (Qz3 (m:=XX m) h.ok.tab (t:=m.now+1) (by have:=h.now.1;omega))
 have hph:1≤(J6 m).ph∧(J6 m).ph≤7:=by
  unfold J6
  split
  ·exact h.ph
  ·unfold O4
   split
   ·show 1≤(7:Int)∧(7:Int)≤7;omega
   ·split
    ·exact h.ph
    ·split
     ·rw[Jz1];exact hp
     ·split
      ·unfold J5
       split
       ·show 1≤(3:Int)∧(3:Int)≤7;omega
       ·split
        ·exact h.ph
        ·show 1≤(6:Int)∧(6:Int)≤7;omega
      ·exact h.ph
 refine⟨h.ok.tick hl, ?_,hph⟩
 rw[hn]
 have:=h.now
 split<;>omega
theorem Zg1 {ps:List (Int×Int)} {st dy p tk mo:Int} (h:Qj2 ps st dy p tk mo 0 (-1)) (k:Nat):MOk (Jz2 ps st dy p tk mo) k:=
 ⟨Kq1 h,by show 0≤(0:Int)∧(0:Int)≤k;omega,by show 1≤(1:Int)∧(1:Int)≤7;omega⟩
def Zg2 (f:XQ):Prop:=KZ f.b∧KZ f.s∧KZ f.p∧KZ f.n
theorem Q7 {x:Int} (h: -1000000000≤x∧x≤1000000000):KZ x:=by unfold KZ;omega
theorem Jr0 (h:YJ m):(1≤(YX m).1∧(YX m).1≤1000000∨(YX m).1=0)∧0≤(YX m).2.1∧(YX m).2.1≤100000000∧ -100000000≤(YX m).2.2∧(YX m).2.2≤100000000:=by
 have hn:=Xt2 (l:=Qa4 m) (more:=m.la) h.ls.cnt (fun o ho _=>(h.ls.ok o ho).2.2.1) h.la.2
 unfold YX
 rcases choose_spec (Z5 (Qa4 m) m.la) m.la with⟨e,-⟩|⟨y,hy,e,h1,-⟩
 ·rw[e];exact⟨.inr rfl,by show(0:Int)≤0;omega,by show(0:Int)≤_;omega,by show _≤(0:Int);omega,by show(0:Int)≤_;omega⟩
 ·have hp:=Jq3 h.ls h.la y hy
  obtain⟨-,-,a,b,c,d⟩:=hn y hy;rw[e];refine⟨.inl hp, ?_, ?_, ?_, ?_⟩
  ·show 0≤KK y;omega
  ·show KK y≤_;unfold KK;omega
  ·show _≤y.2.1-y.2.2;omega
  ·show y.2.1-y.2.2≤_;omega
theorem Kq8 (h:YJ m):KZ (Qm7 m).1∧KZ (Qm7 m).2.1∧KZ (Qm7 m).2.2:=by
 have hw:=Jr0 h
 unfold Qm7
 split
 ·exact⟨Q7 (by omega),Q7 (by omega),Q7 (by omega)⟩
 ·exact⟨Q7 (by show _≤(0:Int)∧(0:Int)≤_;omega),Q7 (by show _≤(0:Int)∧(0:Int)≤_;omega),Q7 (by show _≤(0:Int)∧(0:Int)≤_;omega)⟩
theorem Kj4 {g:XQ→Int}: ∀ {F:List XQ},(∀f∈F,1≤g f)→ ∀f∈F,g f≤Qa3 g F
 | [],_,f,hf=>by cases hf
 |x::F,h,f,hf=>by
  have h0:0≤Qa3 g F:=Kz2 fun y hy=>by have:=h y (List.mem_cons_of_mem _ hy);omega
  have h1:=h x List.mem_cons_self;show g f≤g x+Qa3 g F;rcases List.mem_cons.1 hf with e|e
  ·rw[e];omega
  ·have:=Kj4 (fun y hy=>h y (List.mem_cons_of_mem _ hy)) f e
   omega
def Zg3 (F:List XQ):Prop:=(∀f∈F,Zg2 f)∧F.length≤100000000
theorem Qd8:Zg3 []:=⟨fun f hf=>(by cases hf),by simp⟩
theorem Xa0 (h:YJ m) {F:List XQ} (hF:Qn6 m F):Zg3 F:=by
 have hw:=Jr0 h
 unfold Qn6 at hF
 split at hF
 ·rename_i hq
  obtain⟨hk,-⟩:=hF;have hl:=hk.len;have hpr:=(Qs3 h.ls h.la hq).2.2;refine⟨fun f hf=> ?_,by omega⟩;obtain⟨hp,hn,⟨a,ha,ea⟩,⟨b,hb,eb⟩⟩:=hk.one f hf;have hs:=Kj4 (g:=fun f:XQ=>f.n) (fun f hf=>(hk.one f hf).2.1) f hf;have hsum:=hk.sum;have fa:=(h.ls.ok a (List.mem_append_left _ ha)).1.1;have fb:=(h.ls.ok b (List.mem_append_right _ hb)).1.1;rw[ea]at fa;rw[eb]at fb;have hs2:f.n≤Qa3 (fun f:XQ=>f.n) F:=hs;have hsum2:Qa3 (fun f:XQ=>f.n) F=(YX m).2.1:=hsum;exact⟨fa,fb,by rw[hp];exact Q7 (by omega),Q7 (by omega)⟩
 ·rw[hF];exact Qd8
theorem Jb7 (h:YJ m) {F:List XQ} (hF:Qs0 m F):Zg3 F:=by
 have hx:=h.next
 unfold Qs0 at hF
 split at hF
 ·rw[hF];exact Qd8
 ·unfold Qc5 at hF
  split at hF
  ·split at hF
   ·exact Xa0 hx hF
   ·rw[hF];exact Qd8
  ·split at hF
   ·rw[hF];exact Qd8
   ·split at hF
    ·unfold Qg3 at hF
     split at hF
     ·exact Xa0 hx hF
     ·rw[hF];exact Qd8
    ·split at hF
     ·unfold Y6 at hF
      split at hF
      ·exact Xa0 hx hF
      ·rw[hF];exact Qd8
     ·rw[hF];exact Qd8
theorem Jm8 (al:Int→Int→Bool) (tr:Int→Int→Int): ∀(L:List QX) (o:QX) (s:Int),(∀x∈L,OkO x)→KZ o.id→o.qty≤1000000→
  (∀f∈(VX al tr L o s).fills,Zg2 f)∧(VX al tr L o s).fills.length≤L.length
 | [],o,s,_,_,_=>⟨fun f hf=>(by cases hf),Nat.le_refl _⟩
 |x::L,o,s,hL,ho,hq=>by
  have hx:=hL x List.mem_cons_self;have hL': ∀y∈L,OkO y:=fun y hy=>hL y (List.mem_cons_of_mem _ hy)
  unfold VX
  split
  ·exact⟨fun f hf=>(by cases hf),Nat.zero_le _⟩
  ·rename_i h1
   split
   ·obtain⟨a,b⟩:=Jm8 al tr L o s hL' ho hq
    exact⟨a,Nat.le_succ_of_le b⟩
   ·split
    ·exact⟨fun f hf=>(by cases hf),Nat.zero_le _⟩
    ·split
     ·exact⟨fun f hf=>(by cases hf),Nat.zero_le _⟩
     ·obtain⟨a,b⟩:=Jm8 al tr L (I9 o (min o.qty x.qty)) (tr s x.price) hL' ho (by have:=hx.2.2.2;show o.qty-min o.qty x.qty≤_;omega)
      refine⟨fun f hf=> ?_,Nat.succ_le_succ b⟩;rcases List.mem_cons.1 hf with e|e
      ·rw[e]
       have hm:KZ (min o.qty x.qty):=Q7 (by have:=hx.2.2.2;omega);have hp:KZ x.price:=Q7 (by have:=hx.2.2.1;omega);unfold Jx8
       split
       ·exact⟨hx.1.1,ho,hp,hm⟩
       ·exact⟨ho,hx.1.1,hp,hm⟩
      ·exact a f e
theorem Qv2 (h:YJ m) {o:QX} (hf:Qf4 o):Zg3 (Qg4 m o):=by
 unfold Qg4
 split
 ·rename_i he
  obtain⟨hb,hr,-,-,-⟩:=Qz2 he;obtain⟨hok,hs,-,-⟩:=Xg6 hf hb hr;unfold Ql3
  split
  ·exact Qd8
  ·split
   ·exact Qd8
   ·unfold Q6
    have hL: ∀x∈JY (3- (JJ o).side) m.L1 m.L2,OkO x:=fun x hx=>by
     unfold JY at hx
     split at hx
     ·exact h.ls.ok x (List.mem_append_left _ hx)
     ·exact h.ls.ok x (List.mem_append_right _ hx)
    have hc:(JY (3- (JJ o).side) m.L1 m.L2).length≤100:=by
     have:=h.ls.cnt;rw[List.length_append]at this;unfold JY
     split<;>omega
    obtain⟨a,b⟩:=Jm8 (fun la p=>I5 (OK m (JJ o)).st (OK m (JJ o)).dy (OK m (JJ o)).an la p) (fun _ p=>p) _ (JJ o) (OK m (JJ o)).la hL hok.1.1 (by have:=hok.2.2.2;omega);exact⟨a,Nat.le_trans b (by show(JY (3- (JJ o).side) m.L1 m.L2).length≤_;omega)⟩
 ·exact Qd8
theorem Zb1 {s:Int} (hs:KZ s) {l:List Int} (hl:l.length=4) (hf: ∀v∈l,KZ v):Qf4 (Qh3 s l):=by
 obtain⟨a,b,c,d,rfl⟩: ∃a b c d,l= [a,b,c,d]:=by
  match l,hl with
  | [a,b,c,d],_=>exact⟨a,b,c,d,rfl⟩
 exact⟨hf a (by simp),hs,hf b (by simp),hf c (by simp),hf d (by simp)⟩
end
def Xa1:List Nat:= [25,26,27,28,29,30,31,32,33,34,35,36,37,38,39,40,41,42]
def fnV (d i:Nat):Value:=if i<18 then .func (.func (Xa1.getD i 0)) #[.pointer (some ⟨d,0,none⟩)] #[]else .nilFunc
def Kj5 (f:Nat→Value):List Byt→Nat→List MapEntry
 | [],_=> []
 |n::ns,j=>⟨.string ⟨n.toArray⟩,f j,j⟩::Kj5 f ns (j+1)
theorem Xa2 (f:Nat→Value) (c:ByteArray): ∀(ns:List Byt) (i j:Nat),
  Instr.findNow .string (.string c) (Kj5 f ns j) i=some (if ns.idxOf c.data.toList<ns.length then some (i+ns.idxOf c.data.toList,f (j+ns.idxOf c.data.toList))else none)
 | [],i,j=>rfl
 |n::ns,i,j=>by
  unfold Kj5 Instr.findNow Instr.sameNow
  by_cases h:c.data.toList=n
  ·have hb:(c == (⟨n.toArray⟩:ByteArray))=true:=by
    show(c.data ==n.toArray)=true;rw[beq_iff_eq,←h]
   simp only[hb];rw[show(n::ns).idxOf c.data.toList=0 by rw[h];exact List.idxOf_cons_self];simp
  ·have hb:(c == (⟨n.toArray⟩:ByteArray))=false:=by
    show(c.data ==n.toArray)=false;exact beq_eq_false_iff_ne.2 fun e=>h (by rw[e])
   simp only[hb];rw[Xa2 f c ns (i+1) (j+1),show(n::ns).idxOf c.data.toList=ns.idxOf c.data.toList+1 by rw[List.idxOf_cons];simp[show(n ==c.data.toList)=false from beq_eq_false_iff_ne.2 fun e=>h e.symm]];have e1:i+1+ns.idxOf c.data.toList=i+ (ns.idxOf c.data.toList+1):=by omega
   have e2:j+1+ns.idxOf c.data.toList=j+ (ns.idxOf c.data.toList+1):=by omega
   simp only[List.length_cons,Nat.succ_lt_succ_iff,e1,e2]
theorem Zg4 (w:World):(zeroValue 53).run Tryz.prog w= .ok .nilFunc w:=by kernel_rfl
theorem Ke6 {w:World} {r n d:Nat} (h:J2 w r (Kj5 (fnV d) Jj6 0) n) (c:ByteArray):
  (Instr.lookup 66 (.map (some r)) (.string c) false).run Tryz.prog w= .ok (fnV d (Qj4 c)) w:=by
 have hf:=Xa2 (fnV d) c Jj6 0 0
 rw[Qh4 Tryz.underlying66 Tryz.underlying9 VK h (.string c) (Zg4 w) false _ hf]
 rw[Nat.zero_add]
 have hlen:Jj6.length=18:=rfl
 rw[hlen]
 show Result.ok ((Option.map (·.2) (if Qj4 c<18 then some (Qj4 c,fnV d (Qj4 c))else none)).getD .nilFunc) w=_
 split
 ·rfl
 ·rename_i h
  show Result.ok Value.nilFunc w=_;unfold fnV;rw[if_neg h]
theorem Zb2 (d:Nat) (c:ByteArray) (w:World):Calls Tryz.prog 17 #[.pointer (some ⟨d,0,none⟩),.string c] w fun e w'=>e= .returned (fnV d (Qj4 c))∧Below w.heap.size w w':=by
 have hmm:= @run_makeMap Tryz.prog
 have hmf: ∀(fn:Fn) (first cap:Array Value) (w:World),(Instr.makeFunc fn first cap).run Tryz.prog w= .ok (.func fn first cap) w:=fun _ _ _ _=>rfl
 go_enter Tryz.func17,Tryz.ntmps17
 go_wp2_with (first
  |((with_reducible (refine JZ (o:=⟨none,.insert 66 (.tmp 5) (.const (.string ⟨#[97,117,99,116,105,111,110]⟩)) (.tmp 7),_,_,_,_⟩) _ rfl (.tmp 5) (.const (.string ⟨#[97,117,99,116,105,111,110]⟩)) (.tmp 7) 66 rfl Tryz.underlying66 Tryz.underlying9 VK w.heap.size 0 [] (.string ⟨#[97,117,99,116,105,111,110]⟩) (.func (.func 25) #[.pointer (some ⟨d,0,none⟩)] #[]) (by with_unfolding_all rfl) (by with_unfolding_all rfl) (by with_unfolding_all rfl) (J2.made w) (by with_unfolding_all rfl) ?_));intro w1 h1 t1)
  |((with_reducible (refine JZ (o:=⟨none,.insert 66 (.tmp 5) (.const (.string ⟨#[98,97,110,100]⟩)) (.tmp 9),_,_,_,_⟩) _ rfl (.tmp 5) (.const (.string ⟨#[98,97,110,100]⟩)) (.tmp 9) 66 rfl Tryz.underlying66 Tryz.underlying9 VK w.heap.size 1 _ (.string ⟨#[98,97,110,100]⟩) (.func (.func 26) #[.pointer (some ⟨d,0,none⟩)] #[]) (by with_unfolding_all rfl) (by with_unfolding_all rfl) (by with_unfolding_all rfl) h1 (by with_unfolding_all rfl) ?_));intro w2 h2 t2)
  |((with_reducible (refine JZ (o:=⟨none,.insert 66 (.tmp 5) (.const (.string ⟨#[98,97,110,100,115]⟩)) (.tmp 11),_,_,_,_⟩) _ rfl (.tmp 5) (.const (.string ⟨#[98,97,110,100,115]⟩)) (.tmp 11) 66 rfl Tryz.underlying66 Tryz.underlying9 VK w.heap.size 2 _ (.string ⟨#[98,97,110,100,115]⟩) (.func (.func 27) #[.pointer (some ⟨d,0,none⟩)] #[]) (by with_unfolding_all rfl) (by with_unfolding_all rfl) (by with_unfolding_all rfl) h2 (by with_unfolding_all rfl) ?_));intro w3 h3 t3)
  |((with_reducible (refine JZ (o:=⟨none,.insert 66 (.tmp 5) (.const (.string ⟨#[98,117,121]⟩)) (.tmp 13),_,_,_,_⟩) _ rfl (.tmp 5) (.const (.string ⟨#[98,117,121]⟩)) (.tmp 13) 66 rfl Tryz.underlying66 Tryz.underlying9 VK w.heap.size 3 _ (.string ⟨#[98,117,121]⟩) (.func (.func 28) #[.pointer (some ⟨d,0,none⟩)] #[]) (by with_unfolding_all rfl) (by with_unfolding_all rfl) (by with_unfolding_all rfl) h3 (by with_unfolding_all rfl) ?_));intro w4 h4 t4)
  |((with_reducible (refine JZ (o:=⟨none,.insert 66 (.tmp 5) (.const (.string ⟨#[99,97,110,99,101,108]⟩)) (.tmp 15),_,_,_,_⟩) _ rfl (.tmp 5) (.const (.string ⟨#[99,97,110,99,101,108]⟩)) (.tmp 15) 66 rfl Tryz.underlying66 Tryz.underlying9 VK w.heap.size 4 _ (.string ⟨#[99,97,110,99,101,108]⟩) (.func (.func 29) #[.pointer (some ⟨d,0,none⟩)] #[]) (by with_unfolding_all rfl) (by with_unfolding_all rfl) (by with_unfolding_all rfl) h4 (by with_unfolding_all rfl) ?_));intro w5 h5 t5)
  |((with_reducible (refine JZ (o:=⟨none,.insert 66 (.tmp 5) (.const (.string ⟨#[99,108,101,97,114]⟩)) (.tmp 17),_,_,_,_⟩) _ rfl (.tmp 5) (.const (.string ⟨#[99,108,101,97,114]⟩)) (.tmp 17) 66 rfl Tryz.underlying66 Tryz.underlying9 VK w.heap.size 5 _ (.string ⟨#[99,108,101,97,114]⟩) (.func (.func 30) #[.pointer (some ⟨d,0,none⟩)] #[]) (by with_unfolding_all rfl) (by with_unfolding_all rfl) (by with_unfolding_all rfl) h5 (by with_unfolding_all rfl) ?_));intro w6 h6 t6)
  |((with_reducible (refine JZ (o:=⟨none,.insert 66 (.tmp 5) (.const (.string ⟨#[104,97,108,116]⟩)) (.tmp 19),_,_,_,_⟩) _ rfl (.tmp 5) (.const (.string ⟨#[104,97,108,116]⟩)) (.tmp 19) 66 rfl Tryz.underlying66 Tryz.underlying9 VK w.heap.size 6 _ (.string ⟨#[104,97,108,116]⟩) (.func (.func 31) #[.pointer (some ⟨d,0,none⟩)] #[]) (by with_unfolding_all rfl) (by with_unfolding_all rfl) (by with_unfolding_all rfl) h6 (by with_unfolding_all rfl) ?_));intro w7 h7 t7)
  |((with_reducible (refine JZ (o:=⟨none,.insert 66 (.tmp 5) (.const (.string ⟨#[104,101,108,112]⟩)) (.tmp 21),_,_,_,_⟩) _ rfl (.tmp 5) (.const (.string ⟨#[104,101,108,112]⟩)) (.tmp 21) 66 rfl Tryz.underlying66 Tryz.underlying9 VK w.heap.size 7 _ (.string ⟨#[104,101,108,112]⟩) (.func (.func 32) #[.pointer (some ⟨d,0,none⟩)] #[]) (by with_unfolding_all rfl) (by with_unfolding_all rfl) (by with_unfolding_all rfl) h7 (by with_unfolding_all rfl) ?_));intro w8 h8 t8)
  |((with_reducible (refine JZ (o:=⟨none,.insert 66 (.tmp 5) (.const (.string ⟨#[111,112,101,110]⟩)) (.tmp 23),_,_,_,_⟩) _ rfl (.tmp 5) (.const (.string ⟨#[111,112,101,110]⟩)) (.tmp 23) 66 rfl Tryz.underlying66 Tryz.underlying9 VK w.heap.size 8 _ (.string ⟨#[111,112,101,110]⟩) (.func (.func 33) #[.pointer (some ⟨d,0,none⟩)] #[]) (by with_unfolding_all rfl) (by with_unfolding_all rfl) (by with_unfolding_all rfl) h8 (by with_unfolding_all rfl) ?_));intro w9 h9 t9)
  |((with_reducible (refine JZ (o:=⟨none,.insert 66 (.tmp 5) (.const (.string ⟨#[111,114,100,101,114,115]⟩)) (.tmp 25),_,_,_,_⟩) _ rfl (.tmp 5) (.const (.string ⟨#[111,114,100,101,114,115]⟩)) (.tmp 25) 66 rfl Tryz.underlying66 Tryz.underlying9 VK w.heap.size 9 _ (.string ⟨#[111,114,100,101,114,115]⟩) (.func (.func 34) #[.pointer (some ⟨d,0,none⟩)] #[]) (by with_unfolding_all rfl) (by with_unfolding_all rfl) (by with_unfolding_all rfl) h9 (by with_unfolding_all rfl) ?_));intro w10 h10 t10)
  |((with_reducible (refine JZ (o:=⟨none,.insert 66 (.tmp 5) (.const (.string ⟨#[112,97,114,107,101,100]⟩)) (.tmp 27),_,_,_,_⟩) _ rfl (.tmp 5) (.const (.string ⟨#[112,97,114,107,101,100]⟩)) (.tmp 27) 66 rfl Tryz.underlying66 Tryz.underlying9 VK w.heap.size 10 _ (.string ⟨#[112,97,114,107,101,100]⟩) (.func (.func 35) #[.pointer (some ⟨d,0,none⟩)] #[]) (by with_unfolding_all rfl) (by with_unfolding_all rfl) (by with_unfolding_all rfl) h10 (by with_unfolding_all rfl) ?_));intro w11 h11 t11)
  |((with_reducible (refine JZ (o:=⟨none,.insert 66 (.tmp 5) (.const (.string ⟨#[112,104,97,115,101]⟩)) (.tmp 29),_,_,_,_⟩) _ rfl (.tmp 5) (.const (.string ⟨#[112,104,97,115,101]⟩)) (.tmp 29) 66 rfl Tryz.underlying66 Tryz.underlying9 VK w.heap.size 11 _ (.string ⟨#[112,104,97,115,101]⟩) (.func (.func 36) #[.pointer (some ⟨d,0,none⟩)] #[]) (by with_unfolding_all rfl) (by with_unfolding_all rfl) (by with_unfolding_all rfl) h11 (by with_unfolding_all rfl) ?_));intro w12 h12 t12)
  |((with_reducible (refine JZ (o:=⟨none,.insert 66 (.tmp 5) (.const (.string ⟨#[113,117,111,116,101]⟩)) (.tmp 31),_,_,_,_⟩) _ rfl (.tmp 5) (.const (.string ⟨#[113,117,111,116,101]⟩)) (.tmp 31) 66 rfl Tryz.underlying66 Tryz.underlying9 VK w.heap.size 12 _ (.string ⟨#[113,117,111,116,101]⟩) (.func (.func 37) #[.pointer (some ⟨d,0,none⟩)] #[]) (by with_unfolding_all rfl) (by with_unfolding_all rfl) (by with_unfolding_all rfl) h12 (by with_unfolding_all rfl) ?_));intro w13 h13 t13)
  |((with_reducible (refine JZ (o:=⟨none,.insert 66 (.tmp 5) (.const (.string ⟨#[114,101,102,115]⟩)) (.tmp 33),_,_,_,_⟩) _ rfl (.tmp 5) (.const (.string ⟨#[114,101,102,115]⟩)) (.tmp 33) 66 rfl Tryz.underlying66 Tryz.underlying9 VK w.heap.size 13 _ (.string ⟨#[114,101,102,115]⟩) (.func (.func 38) #[.pointer (some ⟨d,0,none⟩)] #[]) (by with_unfolding_all rfl) (by with_unfolding_all rfl) (by with_unfolding_all rfl) h13 (by with_unfolding_all rfl) ?_));intro w14 h14 t14)
  |((with_reducible (refine JZ (o:=⟨none,.insert 66 (.tmp 5) (.const (.string ⟨#[115,101,108,108]⟩)) (.tmp 35),_,_,_,_⟩) _ rfl (.tmp 5) (.const (.string ⟨#[115,101,108,108]⟩)) (.tmp 35) 66 rfl Tryz.underlying66 Tryz.underlying9 VK w.heap.size 14 _ (.string ⟨#[115,101,108,108]⟩) (.func (.func 39) #[.pointer (some ⟨d,0,none⟩)] #[]) (by with_unfolding_all rfl) (by with_unfolding_all rfl) (by with_unfolding_all rfl) h14 (by with_unfolding_all rfl) ?_));intro w15 h15 t15)
  |((with_reducible (refine JZ (o:=⟨none,.insert 66 (.tmp 5) (.const (.string ⟨#[115,116,97,114,116]⟩)) (.tmp 37),_,_,_,_⟩) _ rfl (.tmp 5) (.const (.string ⟨#[115,116,97,114,116]⟩)) (.tmp 37) 66 rfl Tryz.underlying66 Tryz.underlying9 VK w.heap.size 15 _ (.string ⟨#[115,116,97,114,116]⟩) (.func (.func 40) #[.pointer (some ⟨d,0,none⟩)] #[]) (by with_unfolding_all rfl) (by with_unfolding_all rfl) (by with_unfolding_all rfl) h15 (by with_unfolding_all rfl) ?_));intro w16 h16 t16)
  |((with_reducible (refine JZ (o:=⟨none,.insert 66 (.tmp 5) (.const (.string ⟨#[116,97,98,108,101]⟩)) (.tmp 39),_,_,_,_⟩) _ rfl (.tmp 5) (.const (.string ⟨#[116,97,98,108,101]⟩)) (.tmp 39) 66 rfl Tryz.underlying66 Tryz.underlying9 VK w.heap.size 16 _ (.string ⟨#[116,97,98,108,101]⟩) (.func (.func 41) #[.pointer (some ⟨d,0,none⟩)] #[]) (by with_unfolding_all rfl) (by with_unfolding_all rfl) (by with_unfolding_all rfl) h16 (by with_unfolding_all rfl) ?_));intro w17 h17 t17)
  |((with_reducible (refine JZ (o:=⟨none,.insert 66 (.tmp 5) (.const (.string ⟨#[116,105,99,107]⟩)) (.tmp 41),_,_,_,_⟩) _ rfl (.tmp 5) (.const (.string ⟨#[116,105,99,107]⟩)) (.tmp 41) 66 rfl Tryz.underlying66 Tryz.underlying9 VK w.heap.size 17 _ (.string ⟨#[116,105,99,107]⟩) (.func (.func 42) #[.pointer (some ⟨d,0,none⟩)] #[]) (by with_unfolding_all rfl) (by with_unfolding_all rfl) (by with_unfolding_all rfl) h17 (by with_unfolding_all rfl) ?_));intro w18 h18 t18;have hlk:=Ke6 h18 c))
 go_ret
 exact⟨rfl,((((((((((((((((((((Below.refl _ w).alloc (Nat.le_refl _) _).trans (t1.below (Nat.le_refl _))).trans (t2.below (Nat.le_refl _))).trans (t3.below (Nat.le_refl _))).trans (t4.below (Nat.le_refl _))).trans (t5.below (Nat.le_refl _))).trans (t6.below (Nat.le_refl _))).trans (t7.below (Nat.le_refl _))).trans (t8.below (Nat.le_refl _))).trans (t9.below (Nat.le_refl _))).trans (t10.below (Nat.le_refl _))).trans (t11.below (Nat.le_refl _))).trans (t12.below (Nat.le_refl _))).trans (t13.below (Nat.le_refl _))).trans (t14.below (Nat.le_refl _))).trans (t15.below (Nat.le_refl _))).trans (t16.below (Nat.le_refl _))).trans (t17.below (Nat.le_refl _))).trans (t18.below (Nat.le_refl _)))⟩
end Go.Proofs.YtbmiieehkkfbgaaGreatDoor
