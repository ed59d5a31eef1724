/- Contracts and walks that the law's proof needs. -/
import Derived.WalkKit
import Derived.WalkLawsBesides
import Derived.WalkSpells
import Derived.Deep.QuietTactic
import Derived.BigQuiet
import Derived.Deep.LoopGhost
import Derived.Deep.DeepCutAuto
import Derived.Deep.CutBlock
import Derived.Shelf.Abstract
import Derived.Laws.EntriesVeiled
import Derived.Test.YtnlngicnfegjgaaGreatRows
import Derived.Test.YtnlngicnfegjgaaGreatZf1
import Derived.Test.YtnlngicnfegjgaaGreatZf9
import Derived.Deep.RegionWith
import Derived.Test.YtnlngicnfegjgaaGreatZf2
import Derived.Test.YtnlngicnfegjgaaGreatZf11
set_option linter.unusedVariables false
set_option maxRecDepth 100000
set_option maxHeartbeats 8000000
namespace Go.Proofs.YtnlngicnfegjgaaGreat
open Go.RowKit
def Kl5 (h:Int×Int):Value:= .agg #[.int .i64 h.1,.int .i64 h.2]
section
variable {w:World} {A:Option Addr} {len:Nat} {ps:List (Int×Int)}
theorem Kw8 {b off:Nat} (h:XZ w U3 2 (some ⟨b,off,none⟩) len ps) {i:Nat} (hi:i<ps.length):
  w.cell? ⟨b,off+i*2,none⟩=some (.int .i64 ps[i].1)∧w.cell? ⟨b,off+i*2+1,none⟩=some (.int .i64 ps[i].2):=⟨h.at_ hi (j:=0) rfl,h.at_ hi (j:=1) rfl⟩
theorem Qz5 {g n c:Nat} {t:TypeId} (h:QY w (some ⟨g,0,none⟩) n c t 2 (QW U3 ps)) {i:Nat} (hi:i<ps.length):
  w.cell? ⟨g,i*2,none⟩=some (.int .i64 ps[i].1)∧w.cell? ⟨g,i*2+1,none⟩=some (.int .i64 ps[i].2):=by
 obtain⟨g',hg,hc⟩:=h.elem Z0 (by omega) hi
 cases hg
 exact⟨hc 0 _ rfl,hc 1 _ rfl⟩
end
theorem Jf2 (h:Int×Int): ∀u∈U3 h,u.oneCell'=true:=by
 intro u hu
 simp[U3]at hu
 rcases hu with rfl|rfl<;>rfl
def Kl6 (w:World) (S:Nat→Prop) (g:FuncId) (lb:Array Value) (F:(Int×Int)→Bool):Prop:=
 ∀W p,QK S w W→Calls Tryz.prog g (#[Kl5 p]++lb) W fun e w'=>e= .returned (.bool (F p))∧Below W.heap.size W w'
theorem Xu2 (g:FuncId) (lb:Array Value) (F:(Int×Int)→Bool) (eg: ∀args w,(callFunc g args).run Tryz.prog w= .ok (.enter g args) w) (A:Option Addr) (n c:Nat) (ps:List (Int×Int)) (w:World) (S:Nat→Prop)
  (hp:Kl6 w S g lb F) (h:XZ w U3 2 A n ps) (hm:n≤1000000):
  Calls Tryz.prog 101 #[.slice A n c,.func (.func g) #[] lb] w fun e w'=>Below w.heap.size w w'∧
   (((∀i (hi:i<ps.length),F ps[i]=false)∧e= .returned (.int .i64 (-1)))∨ ∃(k:Nat) (hk:k<ps.length),F ps[k]=true∧(∀i (hi:i<ps.length),i<k→F ps[i]=false)∧e= .returned (.int .i64 k)):=by
 have hl:=h.1
 have HP:=QQ hp
 have HL:=QQ hl
 have HH:=QQ h
 clear hp hl h
 go_enter Tryz.func101,Tryz.ntmps101
 go_wp2
 go_loopg [5,8] n (fun gg _ s8 wr=> ∃kk:Nat,kk≤n∧gg=n-kk∧s8= .int .i64 kk∧Below w.heap.size w wr∧Hid (∀i (hi:i<ps.length),i<kk→F ps[i]=false))
 case atStart=>exact⟨0,Nat.zero_le _,rfl,rfl,Below.refl _ w,QQ fun i _ hi=>absurd hi (Nat.not_lt_zero _)⟩
 case round=>
  obtain⟨kk,hkk,rfl,rfl,hB,HA⟩:=hrel
  by_cases hlt:kk<n
  ·obtain⟨b,off,rfl,_,_⟩:=HH.out.2 (by omega)
   have hkl:kk<ps.length:=by have:=HL.out;omega
   obtain⟨x0,x1⟩:=Kw8 (HH.out.below hB (Nat.le_refl _)) hkl;have hcall:=HP.out wr ps[kk] (QK.of_below hB _);have hltz:(kk:Int)< (n:Int):=by omega
   obtain⟨p,E⟩: ∃p,Hid (ps[kk]=p):=⟨_,QQ rfl⟩;rw[E.out]at x0 x1 hcall;obtain⟨p0,p1⟩:=p;unfold Kl5 at hcall;dsimp only at x0 x1 hcall
   cases hq:F (p0,p1)with
   |true=>
    rw[hq]at hcall;have HQ:=QQ hq;clear hq;go_wp2_with (go_at_fn g;refine hcall.mono ?_;rintro e w' ⟨rfl,hb'⟩)
    go_ret;exact⟨hB.trans (hb'.mono hB.size),.inr ⟨kk,hkl,by rw[E.out];exact HQ.out,HA.out,rfl⟩⟩
   |false=>
    rw[hq]at hcall;have HQ:=QQ hq;clear hq;go_wp2_with (go_at_fn g;refine hcall.mono ?_;rintro e w' ⟨rfl,hb'⟩)
    go_roundg (n- (kk+1))
    case measure=>omega
    case rel=>
     refine⟨kk+1,by omega,rfl,by go_num,hB.trans (hb'.mono hB.size),QQ fun i hi hik=> ?_⟩
     by_cases e:i=kk
     ·subst e
      rw[E.out];exact HQ.out
     ·exact HA.out i hi (by omega)
  ·have hltz: ¬(kk:Int)< (n:Int):=by omega
   obtain rfl:kk=n:=by omega
   go_wp2;go_ret;exact⟨hB,.inl ⟨fun i hi=>HA.out i hi (by have:=HL.out;omega),rfl⟩⟩
structure Qn8 (F:(Int×Int)→Bool) (ps cs:List (Int×Int)) (i j:Nat):Prop where
 len:cs.length=ps.length
 lt:i<j
 jn:j≤ps.length
 done:cs.take i=(ps.take j).filter (fun p=> !F p)
 rest: ∀m (h:m<ps.length) (h':m<cs.length),j≤m→cs[m]=ps[m]
theorem Qn8.skip {F:(Int×Int)→Bool} {ps cs:List (Int×Int)} {i j:Nat} (h:Qn8 F ps cs i j) (hj:j<ps.length) (hF:F ps[j]=true):Qn8 F ps cs i (j+1):=
 ⟨h.len,by have:=h.lt;omega,hj,by rw[List.take_succ_eq_append_getElem hj,List.filter_append,h.done];simp[hF],fun m hm hm' hle=>h.rest m hm hm' (by omega)⟩
theorem Qn8.keep {F:(Int×Int)→Bool} {ps cs:List (Int×Int)} {i j:Nat} (h:Qn8 F ps cs i j) (hj:j<ps.length) (hF:F ps[j]=false):Qn8 F ps (cs.set i ps[j]) (i+1) (j+1):=by
 have hlt:=h.lt
 have hlen:=h.len
 refine⟨by rw[List.length_set];exact h.len,by omega,hj, ?_,fun m hm hm' hle=> ?_⟩
 ·rw[List.take_succ_eq_append_getElem hj,List.filter_append,←h.done,List.take_succ_eq_append_getElem (by rw[List.length_set];omega),List.getElem_set_self,List.take_set_of_le (Nat.le_refl _)]
  simp[hF]
 ·rw[List.getElem_set_ne (by omega)]
  exact h.rest m hm (by simpa using hm') (by omega)
theorem Ke8 {w:World} {g n c:Nat} {t:TypeId} {cs:List (Int×Int)} (h:QY w (some ⟨g,0,none⟩) n c t 2 (QW U3 cs)) {i:Nat} (hi:i<cs.length) (p:(Int×Int)):
  QY ((w.setCell ⟨g,i*2,none⟩ (.int .i64 p.1)).setCell ⟨g,i*2+1,none⟩ (.int .i64 p.2)) (some ⟨g,0,none⟩) n c t 2 (QW U3 (cs.set i p)):=by
 rw[←Qp6 Z0 p cs i hi]
 exact(h.set _ _).set _ _
theorem Qz6 (w:World) (g a b:Nat) (x y:Value):QK (fun i=>i=g) w ((w.setCell ⟨g,a,none⟩ x).setCell ⟨g,b,none⟩ y):=
 (QK.set_ w ⟨g,a,none⟩ x).trans (QK.set_ _ ⟨g,b,none⟩ y) (fun i h=> .inl h)
theorem Xm1 (g:FuncId) (lb:Array Value) (F:(Int×Int)→Bool) (eg: ∀args w,(callFunc g args).run Tryz.prog w= .ok (.enter g args) w) (A:Option Addr) (n c:Nat) (ps:List (Int×Int)) (w:World) (S:Nat→Prop)
  (hp:Kl6 w S g lb F) (h:QY w A n c 122 2 (QW U3 ps)) (hS: ∀g,QV A=some g→S g) (hm:n≤1000000):
  Calls Tryz.prog 69 #[.slice A n c,.func (.func g) #[] lb] w fun e w'=>QK S w w'∧
   ∃m,e= .returned (.slice A m c)∧QY w' A m c 122 2 (QW U3 (ps.filter fun p=> !F p)):=by
 have HP:=QQ hp
 have HH:=QQ h
 have HL:=QQ (Qb6 Z0 (by omega) h)
 have HE:=QQ (XZ.of_row Z0 (by omega) h)
 clear hp h
 go_enter Tryz.func69,Tryz.ntmps69
 go_wp2_with fail
 refine(Xu2 g lb F eg A n c ps w S HP.out HE.out hm).mono ?_
 rintro e w1 ⟨hB,⟨hno,rfl⟩|⟨k,hk,hy,hbef,rfl⟩⟩
 ·have HX:Hid (ps.filter (fun p=> !F p)=ps):=QQ (by
   rw[List.filter_eq_self];intro p hp;obtain⟨i,hi,rfl⟩:=List.mem_iff_getElem.1 hp;rw[hno i hi];rfl)
  clear hno;go_wp2;go_ret;exact⟨QK.of_below hB _,n,rfl,by rw[HX.out];exact HH.out.below hB⟩
 ·obtain⟨gr,rfl⟩: ∃gr,A=some ⟨gr,0,none⟩:=by obtain⟨gr,hA,_⟩:=HH.out.elem Z0 (by omega) hk;exact⟨gr,hA⟩
  have hSg:=hS gr rfl;have hn:=HL.out;have hneg:((k:Int) == -1)=false:=UX (by omega);have HI0:Qn8 F ps ps k (k+1):=⟨rfl,by omega,by omega,by
   rw[List.take_succ_eq_append_getElem hk,List.filter_append,List.filter_eq_self.2]
   ·simp[hy]
   ·intro p hp
    obtain⟨i,hi,rfl⟩:=List.mem_iff_getElem.1 hp;have hi':i<k:=by simp at hi;omega
    rw[List.getElem_take,hbef i (by omega) hi'];rfl,fun m _ _ _=>rfl⟩
  have HI:=QQ HI0;have HR:=QQ (HH.out.below hB);clear hbef hy HI0;have HN1:=QQ hn;have hk6:k<1000000:=by omega
  clear hn hk;go_wp2_with fail
  go_loopg [5,6,7] n (fun gg s5 s6 _ wr=> ∃(i j:Nat) (cs:List (Int×Int)),s5= .int .i64 i∧s6= .int .i64 j∧j≤n∧n-j≤gg∧QK S w wr∧QY wr (some ⟨gr,0,none⟩) n c 122 2 (QW U3 cs)∧Hid (Qn8 F ps cs i j))
  case atStart=>exact⟨k,k+1,ps,rfl,by go_num,by have:=HI.out.jn;have:=HN1.out;omega,by omega,QK.of_below hB _,HR.out,HI⟩
  case round=>
   obtain⟨i,j,cs,rfl,rfl,hj,hg,hK,hR,HJ⟩:=hrel;have hij:=HJ.out.lt;have hcl:cs.length=n:=by have:=HJ.out.len;have:=HN1.out;omega
   have HC:=QQ hcl
   by_cases hlt:j<n
   ·have hjl:j<cs.length:=by omega
    have hjp:j<ps.length:=by have:=HN1.out;omega
    obtain⟨x0,x1⟩:=Qz5 hR hjl;have hltz:(j:Int)< (n:Int):=by omega
    have er:=HJ.out.rest j hjp hjl (Nat.le_refl _);obtain⟨p,E⟩: ∃p,Hid (ps[j]=p):=⟨_,QQ rfl⟩;rw[er,E.out]at x0 x1;obtain⟨p0,p1⟩:=p;dsimp only at x0 x1;have hA1:Below wr.heap.size wr (wr.alloc (.cells #[.int .i64 p0,.int .i64 p1] 122)):=(Below.refl _ _).alloc (Nat.le_refl _) _;have HA1:=QQ hA1;have hcall:=HP.out _ (p0,p1) (hK.then_ hA1);have HR1:=QQ (hR.below hA1);have HB1:=QQ (QJ.new wr 122 #[.int .i64 p0,.int .i64 p1]);have HK:=QQ hK;have hgr:=hR.lt (g:=gr) rfl;unfold Kl5 at hcall;dsimp only at hcall;clear hR er hcl hA1 hK
    cases hq:F (p0,p1)with
    |true=>
     rw[hq]at hcall;have HQ:=QQ hq;clear hq;go_wp2_with (go_at_fn g;refine hcall.mono ?_;rintro e w' ⟨rfl,hb'⟩)
     go_roundg (n- (j+1))
     case measure=>omega
     case rel=>exact⟨i,j+1,cs,rfl,by go_num,by omega,by omega,HK.out.then_ (HA1.out.trans (hb'.mono (by simp))),HR1.out.below hb',QQ (HJ.out.skip hjp (by rw[E.out];exact HQ.out))⟩
    |false=>
     rw[hq]at hcall;have HQ:=QQ hq;clear hq;go_wp2_with fail
     refine hcall.mono ?_;rintro e w2 ⟨rfl,hb'⟩;have hR2:=HR1.out.below hb';have hB2:=QJ.keep HB1.out hb';have z0:w2.cell? ⟨wr.heap.size,0,none⟩=some (.int .i64 p0):=by rw[QJ.cell hB2];rfl
     have z1:w2.cell? ⟨wr.heap.size,1,none⟩=some (.int .i64 p1):=by rw[QJ.cell hB2];rfl
     have hil:i<cs.length:=by have:=HC.out;omega
     have hi6:(i:Int)< (n:Int):=by omega
     have hi7:(0:Int)≤(i:Int):=by omega
     obtain⟨y0,y1⟩:=Qz5 hR2 hil;have f0:=hR2.frozen (i*2);have f1:=hR2.frozen (i*2+1);generalize cs[i].1=o0 at y0;generalize cs[i].2=o1 at y1;have HR2:=QQ hR2;clear x0 x1 hR2 hB2;go_wp2_with fail
     go_roundg (n- (j+1))
     case measure=>omega
     case rel=>
      refine⟨i+1,j+1,cs.set i (p0,p1),by go_num,by go_num,by omega,by omega, ?_,Ke8 HR2.out (by have:=HC.out;omega) (p0,p1),QQ ?_⟩
      ·exact((HK.out.then_ HA1.out).then_ hb').trans (Qz6 _ _ _ _ _ _) (fun x hx=> .inl (by subst hx;exact hSg))
      ·have:=HJ.out.keep hjp (by rw[E.out];exact HQ.out)
       rw[E.out]at this;exact this
   ·obtain rfl:j=n:=by omega
    have hltz: ¬(j:Int)< (j:Int):=by omega
    have hic:i<j:=hij;obtain⟨vs,hvl,hclr⟩:=Qd5 (P:=Tryz.prog) wr 106 122 0 (.agg #[.int .i64 0,.int .i64 0]) 2 Tryz.underlying106 (fun _=>by kernel_rfl) rfl (by omega) (by intro v hv;simp[Value.cells]at hv;subst hv;rfl) gr (i*2) (j-i) (c-i) (by omega)
     (fun x hx=>hR.some_ (by omega)) (fun x hx=>hR.frozen _)
    have HR3:=QQ hR;obtain⟨hc1,hc2⟩:=hR.cap;have hc3:i<c:=by omega
    have hc4: ¬c=i:=by omega
    have hi7:(0:Int)≤(i:Int):=by omega
    have hi8:(i:Int)≤(j:Int):=by omega
    have hi9:(j:Int)≤(c:Int):=by omega
    clear hcl hR;go_wp2_with fail
    go_ret;refine⟨hK.trans (QK.setCells _ _ _ _) (fun x hx=> .inl (by subst hx;exact hSg)),i,rfl, ?_⟩;have hd:=HJ.out.done;rw[List.take_of_length_le (l:=ps) (by rw[HN1.out];exact Nat.le_refl _)]at hd;rw[←hd,←Qy9 Z0];exact QY.sets_past _ _ _ (HR3.out.pop i (by omega)) (Nat.le_refl _)
def isH (h p:Int×Int):Bool:=p.1 ==h.1 &&p.2 ==h.2
theorem Kw9 {h p:Int×Int}:isH h p=true↔p=h:=by
 unfold isH
 obtain⟨a,b⟩:=h
 obtain⟨c,d⟩:=p
 simp
theorem Xf4 (p:Int×Int) (pb:Nat) (h:Int×Int) (w:World) (h0:w.cell? ⟨pb,0,none⟩=some (.int .i64 h.1)) (h1:w.cell? ⟨pb,1,none⟩=some (.int .i64 h.2)):
  Calls Tryz.prog 70 #[Kl5 p,.pointer (some ⟨pb,0,none⟩)] w fun e w'=>e= .returned (.bool (isH h p))∧Below w.heap.size w w':=by
 obtain⟨a,b⟩:=p
 obtain⟨c,d⟩:=h
 unfold Kl5
 dsimp only at*
 have hg:=World.block_lt_of_cell? w _ h0
 have z0:=(World.cell?_alloc_lt w (.cells #[.int .i64 a,.int .i64 b] 122) ⟨pb,0,none⟩ hg).trans h0
 have z1:=(World.cell?_alloc_lt w (.cells #[.int .i64 a,.int .i64 b] 122) ⟨pb,1,none⟩ hg).trans h1
 have HE:Hid (isH (c,d) (a,b)=((a ==c) && (b ==d))):=QQ rfl
 go_enter Tryz.func70,Tryz.ntmps70
 go_wp2
 all_goals
  go_ret;exact⟨Q6 (by simp[isH, *]),(Below.refl _ _).alloc (Nat.le_refl _) _⟩
theorem Jf3 (w:World) (A:Option Addr) (n c:Nat) (hs:List (Int×Int)) (pb:Nat) (h:Int×Int) (hR:QY w A n c 122 2 (QW U3 hs)) (hm:n≤1000000)
  (hne:QV A≠some pb) (h0:w.cell? ⟨pb,0,none⟩=some (.int .i64 h.1)) (h1:w.cell? ⟨pb,1,none⟩=some (.int .i64 h.2)):
  Calls Tryz.prog 68 #[.slice A n c,.pointer (some ⟨pb,0,none⟩)] w fun e w'=>QK (fun i=>QV A=some i) w w'∧
   e= .returned (.slice A (hs.filter fun p=> !isH h p).length c)∧QY w' A (hs.filter fun p=> !isH h p).length c 122 2 (QW U3 (hs.filter fun p=> !isH h p)):=by
 have eg:=Go.Proofs.enters_of Tryz.func70 (by kernel_rfl) rfl
 have hg:=World.block_lt_of_cell? w _ h0
 have hp:Kl6 w (fun i=>QV A=some i) 70 #[.pointer (some ⟨pb,0,none⟩)] (isH h):=fun W p hK=>
  Xf4 p pb h W ((hK.cell (p:=⟨pb,0,none⟩) hg hne).trans h0) ((hK.cell (p:=⟨pb,1,none⟩) hg hne).trans h1)
 have hmk: ∀w:World,(Instr.makeFunc (.func 70) #[] #[.pointer (some ⟨pb,0,none⟩)]).run Tryz.prog w= .ok (.func (.func 70) #[] #[.pointer (some ⟨pb,0,none⟩)]) w:=fun _=>rfl
 have HR:=QQ hR
 have HP:=QQ hp
 clear hR hp h0 h1
 go_enter Tryz.func68,Tryz.ntmps68
 go_wp2_with fail
 refine(Xm1 _ _ (isH h) eg A n c hs w _ HP.out HR.out (fun _ e=>e) hm).mono ?_
 rintro e w1 ⟨hK,m,rfl,hR1⟩
 have hl:=Qb6 Z0 (by omega) hR1
 have HL:=QQ hl
 have HK:=QQ hK
 have HR1:=QQ hR1
 clear hl hK hR1
 go_wp2
 go_ret
 refine⟨HK.out,by rw[HL.out];rfl, ?_⟩
 rw[HL.out]
 exact HR1.out
theorem Jx4 (w:World) (X:Nat) (t:TypeId) (cs:Array Value) (o:Nat) (A:Option Addr) (c:Nat) (lv:List XJ) (bu se:Int) (h:Qi6 w X t cs o A c lv bu se) (hs:Ja8 lv bu se) (z:QX) (hr:Qb8 z) (hk:z.kind=2) (q:Int) (hq:q=1∨q= -1) (hp:q= -1→z.qty≤(if z.side=1 then bu else se)):
  Calls Tryz.prog 67 #[.pointer (some ⟨X,o,none⟩),KQ z,.int .i64 q] w fun e w'=>(∃v,e= .returned v)∧Qd8 w w' X t cs o A lv (bu+q*dB z) (se+q*dS z):=by
 obtain⟨⟨hb1,hb2⟩,⟨hs1,hs2⟩,-,-⟩:=hs
 obtain⟨hsd,⟨hq1,hq2⟩,-⟩:=hr
 have hbx:Below w.heap.size w (w.alloc (.cells #[.int .i64 z.id,.int .i64 z.side,.int .i64 z.kind,.int .i64 z.price,.int .i64 z.qty] 29)):=(Below.refl _ w).alloc (Nat.le_refl _) _
 have h':=h.below hbx
 obtain⟨y0,y1,y2⟩:=h'.cells
 have f1:=QJ.frozen h'.blk (o+1)
 have f2:=QJ.frozen h'.blk (o+2)
 have hX:=QJ.lt h.blk
 have t1:=J3 hk
 have H:=QQ h
 have HBx:=QQ hbx
 unfold KQ
 have hm1:RowKit.wrap64 (z.qty*q)=z.qty*q:=by rcases hq with rfl|rfl<;>(unfold RowKit.wrap64;omega)
 obtain⟨m,hm⟩: ∃m,z.qty*q=m:=⟨_,rfl⟩
 have hmq:m=q*z.qty:=by rw[←hm,Int.mul_comm]
 have hmb: -1000000≤m∧m≤1000000:=by rcases hq with rfl|rfl<;>omega
 rw[hm]at hm1
 rcases hsd with hsd|hsd
 ·have t2:=J3 hsd
  have i1:RowKit.wrap64 (bu+m)=bu+m:=by unfold RowKit.wrap64;omega
  have e1:bu+q*dB z=bu+m:=by unfold dB;rw[if_pos hsd,hmq]
  have e2:se+q*dS z=se:=by unfold dS;rw[if_pos hsd];omega
  rw[e1,e2];clear h h' hbx hk hsd hq hp hm1 hmq hb1 hb2 hs1 hs2 hq1 hq2 e1 e2 y0 y2 f2;go_enter Tryz.func67,Tryz.ntmps67
  go_wp2_with fail
  refine bodyPost_ret (results_none rfl _ _ _) rfl ?_;exact⟨⟨_,rfl⟩,(H.out.market (Below.refl _ _) _ _ 1 _ (.inl ⟨rfl,rfl,rfl⟩)).then_ ((Below.refl _ _).alloc (Nat.le_refl _) _)⟩
 ·have t2:=UX (show¬z.side=1 by omega)
  have i1:RowKit.wrap64 (se+m)=se+m:=by unfold RowKit.wrap64;omega
  have e1:bu+q*dB z=bu:=by unfold dB;rw[if_neg (by omega)];omega
  have e2:se+q*dS z=se+m:=by unfold dS;rw[if_neg (by omega),hmq]
  rw[e1,e2];clear h h' hbx hk hsd hq hp hm1 hmq hb1 hb2 hs1 hs2 hq1 hq2 e1 e2 y0 y1 f1;go_enter Tryz.func67,Tryz.ntmps67
  go_wp2_with fail
  refine bodyPost_ret (results_none rfl _ _ _) rfl ?_;exact⟨⟨_,rfl⟩,(H.out.market (Below.refl _ _) _ _ 2 _ (.inr ⟨rfl,rfl,rfl⟩)).then_ ((Below.refl _ _).alloc (Nat.le_refl _) _)⟩
theorem Ks4 {lv2:List XJ} {n1 k m2:Nat} (h:lv2.length=n1) (hk:k<lv2.length) (e:k+ (n1- (k+1))=m2):lv2.length=m2+1:=by omega
theorem Kl7 {n k:Nat} (hn:n≤99999) (hk:k≤n):RowKit.wrap64 ((k:Int)+1)=(k:Int)+1:=by unfold RowKit.wrap64;omega
theorem Xf5 (w:World) (X:Nat) (t:TypeId) (cs:Array Value) (o:Nat) (A:Option Addr) (c:Nat) (lv:List XJ) (bu se:Int) (h:Qi6 w X t cs o A c lv bu se) (hs:Ja8 lv bu se) (z:QX) (hr:Qb8 z) (hk:z.kind≠2) (q:Int) (hq:q=1∨q= -1) (hp:q= -1→z.qty≤(if z.side=1 then(YV lv z.price).1 else(YV lv z.price).2)):
  Calls Tryz.prog 67 #[.pointer (some ⟨X,o,none⟩),KQ z,.int .i64 q] w fun e w'=>(∃v,e= .returned v)∧ ∃lv',Qd8 w w' X t cs o A lv' bu se∧lv'.length≤lv.length+1∧ ∀p,YV lv' p=if p=z.price then((YV lv p).1+q*dB z,(YV lv p).2+q*dS z)else YV lv p:=by
 obtain⟨hsd,⟨hq1,hq2⟩,hpr⟩:=hr
 have hpr:1≤z.price∧z.price≤1000000:=hpr.resolve_left hk
 have hbx:Below w.heap.size w (w.alloc (.cells #[.int .i64 z.id,.int .i64 z.side,.int .i64 z.kind,.int .i64 z.price,.int .i64 z.qty] 29)):=(Below.refl _ w).alloc (Nat.le_refl _) _
 have h':=h.below hbx
 obtain⟨n,hn⟩: ∃n,lv.length=n:=⟨_,rfl⟩
 have hn1:n≤99999:=by have:=hs.n;omega
 have y0:=h'.cells.1
 rw[hn]at y0
 obtain⟨w1,hw1⟩: ∃w1,w.alloc (.cells #[.int .i64 z.id,.int .i64 z.side,.int .i64 z.kind,.int .i64 z.price,.int .i64 z.qty] 29)=w1:=⟨_,rfl⟩
 obtain⟨Bx,hBx⟩: ∃Bx,w.heap.size=Bx:=⟨_,rfl⟩
 have hB1:=QJ.new w 29 #[.int .i64 z.id,.int .i64 z.side,.int .i64 z.kind,.int .i64 z.price,.int .i64 z.qty]
 rw[hw1]at hbx h' y0 hB1
 rw[hBx]at hB1
 have hXl:=QJ.lt h'.blk
 have hXB:X<Bx:=by rw[←hBx];exact QJ.lt h.blk
 have hBl:=QJ.lt hB1
 obtain⟨x0,x1,x2,x3,x4⟩:=(show w1.cell? ⟨Bx,0,none⟩=some (.int .i64 z.id)∧w1.cell? ⟨Bx,1,none⟩=some (.int .i64 z.side)∧w1.cell? ⟨Bx,2,none⟩=some (.int .i64 z.kind)∧w1.cell? ⟨Bx,3,none⟩=some (.int .i64 z.price)∧w1.cell? ⟨Bx,4,none⟩=some (.int .i64 z.qty)from⟨by rw[QJ.cell hB1];rfl,by rw[QJ.cell hB1];rfl,by rw[QJ.cell hB1];rfl,by rw[QJ.cell hB1];rfl,by rw[QJ.cell hB1];rfl⟩)
 have hse:=Jl5 z.price 98 #[] A n c lv w1.drew (by rw[←hn];exact XZ.of_row JK (by omega) (h'.below (Below.drew (Below.refl _ _))).row) h.ok.rank (by omega) (Go.Proofs.enters_of Tryz.func98 (by kernel_rfl) rfl)
  (fun W q hm hW=>Jx0 q.1 q.2.1 q.2.2 z.price (by have:=h.ok.pr q hm;unfold Qo7;omega) (by unfold Qo7;omega) W)
 have HSe:=QQ hse
 have t1:=UX hk
 have H:=QQ h
 have HS:=QQ hs
 have Hn:=QQ hn
 have HNb:=QQ (show QV A≠some Bx from fun e=>by have:=h.row.lt e;omega)
 have HBx:=QQ hbx
 have HB1:=QQ hB1
 have hm1:RowKit.wrap64 (z.qty*q)=z.qty*q:=by rcases hq with rfl|rfl<;>(unfold RowKit.wrap64;omega)
 obtain⟨m,hm⟩: ∃m,z.qty*q=m:=⟨_,rfl⟩
 have hmq:q*z.qty=m:=by rw[←hm,Int.mul_comm]
 replace hm1:RowKit.wrap64 (z.qty*q)=m:=hm1.trans hm
 have Hm:=QQ hmq
 have Hq:=QQ hq
 have Hp:=QQ hp
 have Hsd:=QQ hsd
 have Hq12:=QQ (show 1≤z.qty∧z.qty≤1000000 from⟨hq1,hq2⟩)
 unfold KQ
 clear h h' hs hse hbx hB1 hk hpr hq hp hm hmq hsd hn hq1 hq2
 go_enter Tryz.func67,Tryz.ntmps67
 go_upto_region 1 with fail
 clear hw1 hBx
 go_wp2_with fail
 refine U8 11 (fun W=>W.cell? ⟨X,o,none⟩=some (.slice A n c)∧W.cell? ⟨Bx,3,none⟩=some (.int .i64 z.price)) (by kernel_rfl) ⟨y0,x3⟩ (fun hS=> ?_)
 refine tT 0 (.pointer (some ⟨X,o,none⟩)) ?_
 refine tT 1 (.pointer (some ⟨X,o,none⟩)) ?_
 refine tT 2 (.pointer (some ⟨X,o,none⟩)) ?_
 refine tT 3 (.slice A n c) ?_
 refine tT 4 (.pointer (some ⟨Bx,3,none⟩)) ?_
 refine tT 5 (.int .i64 z.price) ?_
 refine Y5 6 (by kernel_rfl) rfl (fun K1 hK1=> ?_)
 go_simp
 refine HSe.out.mono ?_
 rintro e w2 ⟨hb2,k,hkn,hk1,hk2,rfl⟩
 obtain⟨fb,hfb⟩: ∃fb,Ql7 lv z.price n k=fb:=⟨_,rfl⟩
 rw[hfb]
 have hy0:=(hb2.cell (p:=⟨X,o,none⟩) hXl).trans y0
 have hx3:=(hb2.cell (p:=⟨Bx,3,none⟩) hBl).trans x3
 refine hK1 _ _ ⟨hy0,hx3⟩ (fun hS=> ?_)
 clear hK1
 refine tT 7 (.tuple #[.int .i64 k,.bool fb]) ?_
 refine tT 8 (.int .i64 k) ?_
 refine tT 9 (.bool fb) ?_
 refine tT 10 (.int .i64 k) ?_
 refine Qn3 (by kernel_rfl) rfl (fun K1 hK1=> ?_)
 go_simp
 refine hK1 _ _ (Qn2 (by kernel_rfl) ?_ _)
 clear hK1
 have HB2:=QQ hb2
 clear hb2 hS
 go_upto_if 47 with fail
 obtain⟨⟨lb1,lb2⟩,⟨ls1,ls2⟩⟩:=HS.out.lot H.out.ok z.price
 obtain⟨b0,hb0⟩: ∃b0,(YV lv z.price).1=b0:=⟨_,rfl⟩
 obtain⟨s0,hs0⟩: ∃s0,(YV lv z.price).2=s0:=⟨_,rfl⟩
 have hlot:YV lv z.price=(b0,s0):=by rw[←hb0,←hs0]
 rw[hb0]at lb1 lb2
 rw[hs0]at ls1 ls2
 have HLot:=QQ hlot
 clear hb0 hs0 hlot
 have HW2:=QQ (show Below w.heap.size w w2 from HBx.out.trans ((Below.drew (Below.refl _ w1)).trans (HB2.out.mono HBx.out.size)))
 have HBb2:=QQ (QJ.keep (QJ.drew HB1.out) HB2.out)
 have HFb:=QQ hfb
 have HK1:=QQ hk1
 have HK2:=QQ hk2
 have hXl2:X<w2.heap.size:=Nat.lt_of_lt_of_le (QJ.lt H.out.blk) HW2.out.size
 have HP:=QQ (hpr.resolve_left (fun e=>by rw[J3 e]at t1;cases t1))
 clear hfb hk1 hk2 HSe HB1 HB2 HBx x0 x1 x2 x3 x4 y0 hXl hBl hpr t1
 go_cut [48] (fun s48 wx=> ∃cs1 A1 c1 lv1,Qf3 w wx X t cs o A lv bu se z.price k cs1 A1 c1 lv1 b0 s0∧QJ wx Bx 29 #[.int .i64 z.id,.int .i64 z.side,.int .i64 z.kind,.int .i64 z.price,.int .i64 z.qty])
 case first=>
  cases fb with
  |true=>
   go_wp2_with fail
   go_meet;obtain⟨hkl,hkp⟩:=Jl4 Hn.out HFb.out;obtain⟨e1,e2⟩:=Qf3.found H.out HW2.out hkl hkp;rw[HLot.out]at e2;obtain⟨rfl,rfl⟩:=Prod.mk.inj e2;exact⟨_,_,_,_,e1,HBb2.out⟩
  |false=>
   have hvb:Below w2.heap.size w2 ((w2.alloc (.cells #[.int .i64 z.price,.int .i64 0,.int .i64 0] 167)).drew):=Below.drew ((Below.refl _ _).alloc (Nat.le_refl _) _);have hM2:=(H.out.below HW2.out).below hvb;have hr2:=hM2.row;rw[Hn.out]at hr2;have hins:=Xl1 ((w2.alloc (.cells #[.int .i64 z.price,.int .i64 0,.int .i64 0] 167)).drew) A n c k lv w2.heap.size (z.price,0,0) hr2 (QJ.drew (QJ.new w2 _ _)) (fun e=>by have:=(H.out.below HW2.out).row.lt e;omega) (by omega) hkn;have HIns:=QQ hins;have HM2:=QQ hM2;have HV2:=QQ hvb;have HBv:=QQ (QJ.keep HBb2.out hvb);have hnn:lv.length=n:=Hn.out;have HNn:=QQ hnn;clear hM2 hvb hr2 hins hnn hS;go_wp2_with fail
   go_region_with (go_at_call 99;refine HIns.out.mono ?_;rintro e w3 ⟨A3,c3,rfl,hI3⟩;have b3:=QJ.keeps HM2.out.blk hI3.2.1 (fun e=>HM2.out.na e);have r0:w3.cell? ⟨X,o,none⟩=some (.slice A n c):=(by rw[QJ.cell b3,←HNn.out];exact HM2.out.c0);have rf0:=QJ.frozen b3 o;have HI3:=QQ hI3;clear hI3 b3)
   all_goals go_wp2_with fail
   all_goals go_meet
   all_goals
    have h3:=HI3.out;have hb3:=QJ.keeps HBv.out h3.2.1 HNb.out;rw[←Hn.out]at h3;obtain⟨e1,e2⟩:=Qf3.new_ H.out (HW2.out.trans (HV2.out.mono HW2.out.size)) (by have:=Hn.out;omega) HK1.out HK2.out (Je9 Hn.out H.out.ok.rank HFb.out HK1.out HK2.out) h3;rw[Hn.out]at e1;rw[HLot.out]at e2;obtain⟨rfl,rfl⟩:=Prod.mk.inj e2;exact⟨_,_,_,_,e1,QJ.far hb3 (by show Bx≠X;omega) _⟩
 case rest=>
  obtain⟨cs1,A1,c1,lv1,hM,hB⟩:=hcut;obtain⟨hkl,hkv,-⟩:=hM.parts;obtain⟨g,hA1,-⟩:=hM.row.elem JK (by omega) hkl;subst hA1;obtain⟨n1,hn1'⟩: ∃n1,lv1.length=n1:=⟨_,rfl⟩;have y0:wc.cell? ⟨X,o,none⟩=some (.slice (some ⟨g,0,none⟩) n1 c1):=by rw[QJ.cell hM.blk,←hn1'];exact hM.c0
  obtain⟨l0,l1,l2⟩:=Qw6 hM.row hkl;rw[hkv]at l1 l2;dsimp only at l1 l2;have x1:wc.cell? ⟨Bx,1,none⟩=some (.int .i64 z.side):=by rw[QJ.cell hB];rfl
  have hkz:(k:Int)< (n1:Int):=by omega
  have hk0:(0:Int)≤(k:Int):=by omega
  have f1:=hM.row.frozen (k*3+1);have f2:=hM.row.frozen (k*3+2);have HM:=QQ hM;have Hn1:=QQ hn1';have hmq:=Hm.out;have hq12:=Hq12.out;have hmb: -1000000≤m∧m≤1000000:=by rcases Hq.out with rfl|rfl<;>omega
  have hnn:0≤b0+q*dB z∧0≤s0+q*dS z:=by
   have hp:=Hp.out;rw[HLot.out]at hp;unfold dB dS;rcases Hq.out with rfl|rfl
   ·split<;>omega
   ·have hp:=hp rfl
    split at hp<;>(dsimp only at hp;split<;>omega)
  obtain⟨hz1,hz2⟩:=hnn;obtain⟨b',hb'⟩: ∃b',b0+q*dB z=b':=⟨_,rfl⟩;obtain⟨s',hs'⟩: ∃s',s0+q*dS z=s':=⟨_,rfl⟩;rw[hb']at hz1;rw[hs']at hz2;have Hz:=QQ (And.intro hz1 hz2);have Hbs:=QQ (And.intro hb' hs');have Hmq:=QQ hmq;have Hmb:=QQ hmb;clear hM hB l0 hkl hkv hn1' hz1 hz2 hb' hs' hmq hmb hq12 Hq Hp;go_upto_if 69 with fail
  go_cut [70] (fun s70 wx=> ∃lv2,lv2.length=n1∧Qf3 w wx X t cs o A lv bu se z.price k cs1 (some ⟨g,0,none⟩) c1 lv2 b' s')
  case first=>
   rcases Hsd.out with hsd|hsd
   ·have t2:=J3 hsd
    have i1:RowKit.wrap64 (b0+m)=b0+m:=by have:=Hmb.out;unfold RowKit.wrap64;omega
    have HSd:=QQ hsd;clear hsd l2 f2;go_wp2_with fail
    go_meet;refine⟨_, ?_,HM.out.put 1 (b0+m) (.inl ⟨rfl, ?_, ?_⟩)⟩
    ·rw[List.length_set];exact Hn1.out
    ·have:=Hbs.out.1
     unfold dB at this;rw[if_pos HSd.out,Hmq.out]at this;exact this.symm
    ·have:=Hbs.out.2
     unfold dS at this;rw[if_pos HSd.out]at this;omega
   ·have t2:=UX (show¬z.side=1 by omega)
    have i1:RowKit.wrap64 (s0+m)=s0+m:=by have:=Hmb.out;unfold RowKit.wrap64;omega
    have HSd:=QQ (show¬z.side=1 by omega);clear hsd l1 f1;go_wp2_with fail
    go_meet;refine⟨_, ?_,HM.out.put 2 (s0+m) (.inr ⟨rfl, ?_, ?_⟩)⟩
    ·rw[List.length_set];exact Hn1.out
    ·have:=Hbs.out.1
     unfold dB at this;rw[if_neg HSd.out]at this;omega
    ·have:=Hbs.out.2
     unfold dS at this;rw[if_neg HSd.out,Hmq.out]at this;exact this.symm
  case rest=>
   obtain⟨lv2,hl2,hM2⟩:=hcut;obtain⟨hkl,hkv,-⟩:=hM2.parts;obtain⟨-,l1,l2⟩:=Qw6 hM2.row hkl;rw[hkv]at l1 l2;dsimp only at l1 l2;have HM2:=QQ hM2;have Hl2:=QQ hl2;have hfin: ∀lv':List XJ,(∀p',YV lv' p'=if p'=z.price then(b',s')else YV lv p')→ ∀p',YV lv' p'=if p'=z.price then((YV lv p').1+q*dB z,(YV lv p').2+q*dS z)else YV lv p':=fun lv' h p'=>by
    rw[h p']
    by_cases e:p'=z.price
    ·rw[if_pos e,if_pos e,e,HLot.out,Hbs.out.1,Hbs.out.2]
    ·rw[if_neg e,if_neg e]
   have HFin:=QQ hfin
   by_cases hz1:b'=0
   ·by_cases hz2:s'=0
    ·subst hz1
     subst hz2;have hrow:=hM2.row;rw[hl2]at hrow;have h0z:((0:Int) ==0)=true:=rfl;have hdel:=Xl4 wc g n1 c1 k (k+1) ((k:Int)+1) (by omega) lv2 hrow (by have:=hM2.len;have:=Hn.out;omega) (by omega) (by omega);obtain⟨m2,hm2⟩: ∃m2,k+ (n1- (k+1))=m2:=⟨_,rfl⟩;rw[hm2]at hdel;have y0:wc.cell? ⟨X,o,none⟩=some (.slice (some ⟨g,0,none⟩) n1 c1):=by rw[QJ.cell hM2.blk,←hl2];exact hM2.c0
     have i3:RowKit.wrap64 ((k:Int)+1)=(k:Int)+1:=Kl7 (by have:=Hn.out;omega) hkn;have HDel:=QQ hdel;have Hm2:=QQ (Ks4 hl2 hkl hm2);clear hdel hm2 hrow hM2 hkl hkv hfin;go_wp2_with fail
     refine HDel.out.mono ?_;rintro e w4 ⟨rfl,hr4,hk4⟩
     (have b4:=QJ.keeps HM2.out.blk hk4 (fun e=>HM2.out.na (by rw[e];rfl));have r0:w4.cell? ⟨X,o,none⟩=some (.slice (some ⟨g,0,none⟩) n1 c1):=(by rw[QJ.cell b4,←Hl2.out];exact HM2.out.c0);have rf0:=QJ.frozen b4 o;have HR4:=QQ hr4;have HK4:=QQ hk4;clear hr4 hk4 b4)
     all_goals go_wp2_with fail
     all_goals
      refine bodyPost_end (results_none rfl _ _ _) rfl ?_;obtain⟨lv',h1,h2,h3⟩:=HM2.out.del H.out.ok (Below.refl _ _) Hm2.out HR4.out HK4.out;exact⟨⟨_,rfl⟩,lv',h1,h2,HFin.out lv' h3⟩
    ·have h0z:((0:Int) ==0)=true:=rfl
     have d2:=UX hz2;have Hz2:=QQ hz2;subst hz1;clear hz2 hM2 hkl hkv hfin;go_wp2_with fail
     refine bodyPost_end (results_none rfl _ _ _) rfl ?_;obtain⟨lv',h1,h2,h3⟩:=HM2.out.done H.out.ok HP.out Hz.out.1 Hz.out.2 (fun e=>Hz2.out e.2);exact⟨⟨_,rfl⟩,lv',h1,h2,HFin.out lv' h3⟩
   ·have d1:=UX hz1
    have Hz1:=QQ hz1;clear hz1 hM2 hkl hkv hfin;go_wp2_with fail
    refine bodyPost_end (results_none rfl _ _ _) rfl ?_;obtain⟨lv',h1,h2,h3⟩:=HM2.out.done H.out.ok HP.out Hz.out.1 Hz.out.2 (fun e=>Hz1.out e.1);exact⟨⟨_,rfl⟩,lv',h1,h2,HFin.out lv' h3⟩
end Go.Proofs.YtnlngicnfegjgaaGreat
