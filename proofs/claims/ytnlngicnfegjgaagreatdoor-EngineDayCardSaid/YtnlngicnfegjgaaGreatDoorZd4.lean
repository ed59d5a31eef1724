/- Contracts and walks that the law's proof needs. -/
import Derived.WalkKit
import Derived.Below
import Derived.Deep.AppendLies
import Derived.Test.YtnlngicnfegjgaaGreatDoorZd1
import Derived.WalkLawsBesides
import Derived.WalkSpells
import Derived.Test.YtnlngicnfegjgaaGreatDoorZd3
import Derived.Test.YtnlngicnfegjgaaGreatDoorRows
set_option linter.unusedVariables false
set_option maxRecDepth 100000
set_option maxHeartbeats 8000000
namespace Go.Proofs.YtnlngicnfegjgaaGreatDoor
open Go.RowKit
def O2 (w:World) (A:Option Addr) (len _cap:Nat) (ps:List (Int×Int)):Prop:=
 ps.length=len∧(0<len→ ∃b off,A=some ⟨b,off,none⟩∧b<w.heap.size∧
  ∀i,i<len→w.cell? ⟨b,off+i*2,none⟩=some (.int .i64 (ps.getD i (0,0)).1)∧w.cell? ⟨b,off+i*2+1,none⟩=some (.int .i64 (ps.getD i (0,0)).2))
theorem O2.below {w w':World} {A:Option Addr} {len cap B:Nat} {ps:List (Int×Int)} (h:O2 w A len cap ps) (hb:Below B w w') (hB:w.heap.size≤B):O2 w' A len cap ps:=by
 refine⟨h.1,fun hl=> ?_⟩
 obtain⟨b,off,hA,hlt,hc⟩:=h.2 hl
 exact⟨b,off,hA,by have:=hb.size;omega,fun i hi=>⟨(hb.cell (p:=⟨b,_,none⟩) (by show b<B;omega)).trans (hc i hi).1,(hb.cell (p:=⟨b,_,none⟩) (by show b<B;omega)).trans (hc i hi).2⟩⟩
theorem O2.at_ {w:World} {b off len cap:Nat} {ps:List (Int×Int)} (h:O2 w (some ⟨b,off,none⟩) len cap ps) {i:Nat} (hi:i<len):
  w.cell? ⟨b,off+i*2,none⟩=some (.int .i64 (ps.getD i (0,0)).1)∧w.cell? ⟨b,off+i*2+1,none⟩=some (.int .i64 (ps.getD i (0,0)).2):=by
 obtain⟨b',off',hA,_,hc⟩:=h.2 (by omega)
 cases hA
 exact hc i hi
def OY (ps:List (Int×Int)):List Value:=ps.flatMap fun p=> [.int .i64 p.1,.int .i64 p.2]
theorem Qh3 (ps:List (Int×Int)):(OY ps).length=ps.length*2:=by
 induction ps with
 |nil=>rfl
 |cons p ps ih=>simp[OY]at ih⊢;omega
theorem Jx2 (ps:List (Int×Int)): ∀u∈OY ps,u.oneCell'=true:=by
 intro u hu
 obtain⟨p,_,h⟩:=List.mem_flatMap.1 hu
 simp at h
 rcases h with rfl|rfl<;>rfl
theorem Jb6 (ps:List (Int×Int)): ∀i,i<ps.length→(OY ps)[i*2]?=some (.int .i64 (ps.getD i (0,0)).1)∧(OY ps)[i*2+1]?=some (.int .i64 (ps.getD i (0,0)).2):=by
 induction ps with
 |nil=>intro i hi;simp at hi
 |cons p ps ih=>
  intro i hi
  cases i with
  |zero=>simp[OY]
  |succ k=>
   have h:=ih k (by simpa using hi);have e1:(k+1)*2=k*2+1+1:=by omega
   simp only[OY,List.flatMap_cons,List.cons_append,List.nil_append,e1,List.getElem?_cons_succ,List.getD_cons_succ]at h⊢;exact h
theorem O2.news {w:World} {b off len cap:Nat} {ps:List (Int×Int)} (h:O2 w (some ⟨b,off,none⟩) len cap ps): ∀j u,(OY ps)[j]?=some u→w.cell? ((⟨b,off,none⟩:Addr).add j)=some u:=by
 intro j u hu
 have hj:j<ps.length*2:=by
  rw[←Qh3];rcases Nat.lt_or_ge j (OY ps).length with h|h
  ·exact h
  ·rw[List.getElem?_eq_none h]at hu;cases hu
 have hl:=h.1
 obtain⟨b',off',hA,_,hc⟩:=h.2 (by omega)
 cases hA
 have hadd:(⟨b,off,none⟩:Addr).add j=⟨b,off+j,none⟩:=by
  unfold Addr.add
  split
  ·rename_i h;subst h;rfl
  ·rfl
 rw[hadd]
 have hg:=Jb6 ps (j/2) (by omega)
 have hcj:=hc (j/2) (by omega)
 rcases Nat.mod_two_eq_zero_or_one j with hm|hm
 ·have e:j/2*2=j:=by omega
  rw[e]at hg hcj;rw[hcj.1,←hu,hg.1]
 ·have e:j/2*2+1=j:=by omega
  rw[e]at hg;rw[show off+j=off+j/2*2+1 from by omega,hcj.2,←hu,hg.2]
theorem O2.of_own {w:World} {base g n cap:Nat} {e:TypeId} {ps:List (Int×Int)} (h:w.ownsRow base e 2 (.slice (some ⟨g,0,none⟩) n cap) n (OY ps)):O2 w (some ⟨g,0,none⟩) n cap ps:=by
 have hl:ps.length=n:=by have:=h.1;rw[Qh3]at this;omega
 refine⟨hl,fun hn=>⟨g,0,rfl,(h.lt g rfl).2,fun i hi=> ?_⟩⟩
 have hg:=Jb6 ps i (by omega)
 have c1:=h.cells (g:=g) rfl _ _ hg.1
 have c2:=h.cells (g:=g) rfl _ _ hg.2
 have hadd: ∀j,(⟨g,0,none⟩:Addr).add j=⟨g,0+j,none⟩:=by
  intro j;unfold Addr.add
  split
  ·rename_i h;subst h;rfl
  ·rfl
 rw[hadd]at c1 c2
 exact⟨c1,by rw[←c2];congr 1⟩
def J0 (ps:List (Int×Int)):Nat→Int
 |0=>if ps.getD 0 (0,0)=(0,1)then 0 else 1
 |k+1=>Qh2 (ps.getD k (0,0)).1 (ps.getD k (0,0)).2 (ps.getD (k+1) (0,0)).1 (ps.getD (k+1) (0,0)).2
theorem Xk2 (b off len cap:Nat) (x y:Int) (w:World) (hl:0<len)
  (c0:w.cell? ⟨b,off,none⟩=some (.int .i64 x)) (c1:w.cell? ⟨b,off+1,none⟩=some (.int .i64 y)):
  Calls Tryz.prog 103 #[.slice (some ⟨b,off,none⟩) len cap,.int .i64 0] w fun e w'=>e= .returned (.int .i64 (if(x,y)=(0,1)then 0 else 1))∧w=w':=by
 by_cases hx:x=0
 ·by_cases hy:y=1
  ·have hx':=J4 hx
   have hy':=J4 hy;rw[if_pos (by rw[hx,hy])];clear hx hy;go_enter Tryz.func103,Tryz.ntmps103
   go_wp2;go_ret;exact⟨rfl,rfl⟩
  ·have hx':=J4 hx
   have hy':=UQ hy;rw[if_neg (by simp[hy])];clear hx hy;go_enter Tryz.func103,Tryz.ntmps103
   go_wp2;go_ret;exact⟨rfl,rfl⟩
 ·have hx':=UQ hx
  rw[if_neg (by simp[hx])];clear hx;go_enter Tryz.func103,Tryz.ntmps103
  go_wp2;go_ret;exact⟨rfl,rfl⟩
theorem Kf8 (A:Option Addr) (len cap:Nat) (ps:List (Int×Int)) (i:Nat) (w:World) (h:O2 w A len cap ps) (hi:i<len) (hl:len≤20):
  Calls Tryz.prog 103 #[.slice A len cap,.int .i64 (i:Int)] w fun e w'=>e= .returned (.int .i64 (J0 ps i))∧Below w.heap.size w w':=by
 obtain⟨b,off,rfl,hlt,hc⟩:=h.2 (by omega)
 cases i with
 |zero=>
  have h0:=hc 0 (by omega);refine(Xk2 b off len cap _ _ w hi (by simpa using h0.1) (by simpa using h0.2)).mono ?_;rintro e w' ⟨rfl,rfl⟩;exact⟨rfl,Below.refl _ _⟩
 |succ k=>
  exact Xu4 b off len cap k _ _ _ _ w hi hl hlt (hc k (by omega)).1 (hc k (by omega)).2 (hc (k+1) hi).1 (hc (k+1) hi).2
theorem Xk3:(Tryz.prog.info? 33).map (fun i=>(i.zero,i.size,i.bytes))=some (some (.agg #[.int .i64 0,.int .i64 0]),2,16):=by kernel_rfl
def Kb5 (ps:List (Int×Int)) (w:World) (e:Ending) (w':World):Prop:=
 Below w.heap.size w w'∧
 ((ps.length=0∧e= .returned (.tuple #[.pointer none,.iface 52 (.int .i64 8)]))∨
  (20<ps.length∧e= .returned (.tuple #[.pointer none,.iface 52 (.int .i64 4)]))∨
  (0<ps.length∧ps.length≤20∧ ∃i,i<ps.length∧(∀j,j<i→J0 ps j=0)∧J0 ps i≠0∧ ∃g,e= .returned (.tuple #[.pointer none,.iface 172 (.pointer (some ⟨g,0,none⟩))])∧
   w.heap.size≤g∧w'.cell? ⟨g,0,none⟩=some (.int .i64 (J0 ps i))∧w'.cell? ⟨g,1,none⟩=some (.int .i64 i))∨
  (0<ps.length∧ps.length≤20∧(∀j,j<ps.length→J0 ps j=0)∧ ∃t A cap,e= .returned (.tuple #[.pointer (some ⟨t,0,none⟩),.nilIface])∧
   w.heap.size≤t∧t<w'.heap.size∧w'.cell? ⟨t,0,none⟩=some (.slice A ps.length cap)∧O2 w' A ps.length cap ps))
def Km8 (ps:List (Int×Int)) (w:World) (e:Ending) (w':World):Prop:=
 Below w.heap.size w w'∧
 ((ps.length=0∧e= .returned (.tuple #[.pointer none,.iface 52 (.int .i64 8)]))∨
  (20<ps.length∧e= .returned (.tuple #[.pointer none,.iface 52 (.int .i64 4)]))∨
  (0<ps.length∧ps.length≤20∧ ∃i,i<ps.length∧(∀j,j<i→J0 ps j=0)∧J0 ps i≠0∧ ∃g,e= .returned (.tuple #[.pointer none,.iface 172 (.pointer (some ⟨g,0,none⟩))])∧
   w.heap.size≤g∧w'.cell? ⟨g,0,none⟩=some (.int .i64 (J0 ps i))∧w'.cell? ⟨g,1,none⟩=some (.int .i64 i))∨
  (0<ps.length∧ps.length≤20∧(∀j,j<ps.length→J0 ps j=0)∧ ∃t A cap,e= .returned (.tuple #[.pointer (some ⟨t,0,none⟩),.nilIface])∧
   w.heap.size≤t∧t<w'.heap.size∧w'.cell? ⟨t,0,none⟩=some (.slice A ps.length cap)∧O2 w' A ps.length cap ps∧ ∀g,QZ A=some g→w.heap.size≤g∧g≠t))
theorem Km9 (A:Option Addr) (len cap:Nat) (ps:List (Int×Int)) (w:World) (h:O2 w A len cap ps) (hm:len≤9223372036854775807):
  Calls Tryz.prog 50 #[.slice A len cap] w (Km8 ps w):=by
 have hlen:=h.1
 by_cases h0:len=0
 ·subst h0
  go_enter Tryz.func50,Tryz.ntmps50
  go_wp2;go_ret2;exact⟨Below.refl _ _,.inl ⟨hlen,rfl⟩⟩
 ·by_cases h20:20<len
  ·have e0:((len:Int) ==0)=false:=by simp;omega
   go_enter Tryz.func50,Tryz.ntmps50
   go_wp2;go_ret2;exact⟨Below.refl _ _,.inr (.inl ⟨by omega,rfl⟩)⟩
  ·have e0:((len:Int) ==0)=false:=by simp;omega
   have e1:decide (20< (len:Int))=false:=by simp;omega
   obtain⟨b,off,rfl,hlt,hc⟩:=h.2 (by omega);go_enter Tryz.func50,Tryz.ntmps50
   go_wp2
   go_loopw [19] (fun i wr=> ∃k:Nat,k≤len∧i= .int .i64 k∧Below w.heap.size w wr∧ ∀j,j<k→J0 ps j=0) (fun i _=>len- (RowKit.intOf i).toNat)
   case atStart=>exact⟨0,Nat.zero_le _,rfl,Below.refl _ _,fun j hj=>by omega⟩
   case round=>
    obtain⟨k,hk,rfl,hB,hall⟩:=hrel;have Hall:=QQ hall;clear hall
    by_cases hkl:k<len
    ·have hP:O2 wr (some ⟨b,off,none⟩) len cap ps:=h.below hB (Nat.le_refl _)
     have q1:=(hB.cell (p:=⟨b,off+k*2,none⟩) hlt).trans (hc k hkl).1;have q2:=(hB.cell (p:=⟨b,off+k*2+1,none⟩) hlt).trans (hc k hkl).2;have HP:=QQ hP;clear hP hc h;generalize hx:(ps.getD k (0,0)).1=x at q1;generalize hy:(ps.getD k (0,0)).2=y at q2;clear hx hy;go_wp2_with fail
     refine(Kf8 _ len cap ps k _ (HP.out.below ((Below.refl wr.heap.size wr).alloc (Nat.le_refl _) _) (Nat.le_refl _)) hkl (by omega)).mono ?_;rintro e w1 ⟨rfl,hB1⟩;have hB2:Below w.heap.size w w1:=(hB.alloc hB.size _).trans (hB1.mono (by simp;have:=hB.size;omega))
     by_cases hz:J0 ps k=0
     ·have Hz:=QQ hz
      rw[hz];clear hz;have r0:w1.cell? ⟨wr.heap.size,0,none⟩=some (.int .i64 x):=(hB1.cell (p:=⟨wr.heap.size,0,none⟩) (by simp)).trans (by simp);have r1:w1.cell? ⟨wr.heap.size,1,none⟩=some (.int .i64 y):=(hB1.cell (p:=⟨wr.heap.size,1,none⟩) (by simp)).trans (by simp);go_wp2
      go_roundw
      case rel=>
       refine⟨k+1,by omega,by go_num,hB2,fun j hj=> ?_⟩;rcases Nat.lt_or_eq_of_le (Nat.le_of_lt_succ hj)with h|h
       ·exact Hall.out j h
       ·rw[h];exact Hz.out
      case measure=>simp[RowKit.intOf];omega
     ·have hz':(J0 ps k != 0)=true:=Ji6 hz
      have Hz:=QQ hz;obtain⟨e,he⟩: ∃e,J0 ps k=e:=⟨_,rfl⟩;rw[he]at hz';rw[he];have He:=QQ he;clear hz he;go_wp2;go_ret2;refine⟨hB2.alloc hB2.size _,.inr (.inr (.inl ⟨by omega,by omega,k,by omega,Hall.out,Hz.out,w1.heap.size,rfl,hB2.size, ?_, ?_⟩))⟩
      ·rw[He.out];simp
      ·simp
    ·obtain rfl:k=len:=by omega
     obtain⟨i0,hi0,hz0,hz1,hz2⟩:=info_parts Xk3;have HP:=QQ (h.below hB (Nat.le_refl _));have hsz:=hB.size;have Hlen:=QQ hlen;have Hl:=QQ h.1;clear hc h hlen;go_wp2_with ((with_reducible (refine wpList_append_lies _ rfl (.tmp 36) (.tmp 37) 34 rfl w.heap.size 33 i0 _ 2 16 Tryz.underlying34 hi0 hz0 hz1 hz2 (by with_unfolding_all rfl) (by omega) (.slice (some ⟨wr.heap.size,0,none⟩) 0 0) 0 [] (by with_unfolding_all rfl) (World.ownsRow_made wr #[] 0 hsz (by omega) rfl) ⟨b,off,none⟩ k cap (OY ps) (by with_unfolding_all rfl) (by rw[Qh3,Hl.out]) (HP.out.below ((Below.refl wr.heap.size wr).alloc (Nat.le_refl _) _) (Nat.le_refl _)).news (Jx2 ps) (by omega) (by unfold maxLen;omega) (by omega) (by simp;omega) (wr.heap.size+1) (by simp) ?_));intro g cap' w1 hown hgrow hat hlt1)
     go_ret2;have hB1:Below w.heap.size w w1:=(hB.alloc hsz _).grown hgrow (by simp;omega) (fun q hq=>by simp[Value.ownBlock]at hq;omega);simp only[Nat.zero_add,List.nil_append]at hown;have hP1:=(O2.of_own hown).below ((Below.refl w1.heap.size w1).alloc (Nat.le_refl _) (.cells #[.slice (some ⟨g,0,none⟩) k cap'] 144)) (Nat.le_refl _);refine⟨hB1.alloc hB1.size _,.inr (.inr (.inr ⟨by have:=Hl.out;omega,by have:=Hl.out;omega,fun j hj=>Hall.out j (by have:=Hl.out;omega),w1.heap.size,some ⟨g,0,none⟩,cap',rfl,hB1.size,by simp, ?_, ?_⟩))⟩
     ·simp;exact Hl.out.symm
     ·rw[Hl.out]
      refine⟨hP1,fun q hq=> ?_⟩;have e1:g=q:=by simpa [QZ]using hq
      subst e1;have h8:wr.heap.size≤g:=by
       rcases hat with x|x
       ·have:wr.heap.size=g:=by simpa [Value.ownBlock]using x
        omega
       ·omega
      exact⟨by omega,by omega⟩
def Ql9 (ps:List (Int×Int)) (now:Int):Nat→Int×Int
 |0=>(1,-1)
 |k+1=>if(ps.getD k (0,0)).1≤now∨k=0 then((ps.getD k (0,0)).2,if k+1<ps.length then(ps.getD (k+1) (0,0)).1 else -1)else Ql9 ps now k
theorem Xf2 {ps:List (Int×Int)} {now:Int} {k:Nat} (h: ¬(ps.getD k (0,0)).1≤now) (hk:k≠0):Ql9 ps now (k+1)=Ql9 ps now k:=by
 simp only[Ql9];rw[if_neg (by omega)]
theorem Kb6 {ps:List (Int×Int)} {now:Int} {k:Nat} (h:(ps.getD k (0,0)).1≤now∨k=0) (hk:k+1<ps.length):Ql9 ps now (k+1)=((ps.getD k (0,0)).2,(ps.getD (k+1) (0,0)).1):=by
 simp only[Ql9];rw[if_pos h,if_pos hk]
theorem Jz2 {ps:List (Int×Int)} {now:Int} {k:Nat} (h:(ps.getD k (0,0)).1≤now∨k=0) (hk: ¬k+1<ps.length):Ql9 ps now (k+1)=((ps.getD k (0,0)).2,-1):=by
 simp only[Ql9];rw[if_pos h,if_neg hk]
theorem Kf9 (t:Nat) (A:Option Addr) (len cap:Nat) (ps:List (Int×Int)) (now:Int) (w:World) (ht:t<w.heap.size) (h:O2 w A len cap ps) (hc:w.cell? ⟨t,0,none⟩=some (.slice A len cap)) (h0:0<len) (hm:len≤20):
  Calls Tryz.prog 37 #[.pointer (some ⟨t,0,none⟩),.int .i64 now] w fun e w'=>e= .returned (.tuple #[.int .i64 (Ql9 ps now len).1,.int .i64 (Ql9 ps now len).2])∧Below w.heap.size w w':=by
 obtain⟨b,off,rfl,hlt,_⟩:=h.2 h0
 have hlen:=QQ h.1
 go_enter Tryz.func37,Tryz.ntmps37
 go_wp2
 go_loopw [4,5,13] (fun p n i wr=> ∃k:Nat,k≤len∧i= .int .i64 k∧p= .int .i64 (Ql9 ps now k).1∧n= .int .i64 (Ql9 ps now k).2∧Below w.heap.size w wr) (fun _ _ i _=>len- (RowKit.intOf i).toNat)
 case atStart=>exact⟨0,Nat.zero_le _,rfl,rfl,rfl,Below.refl _ _⟩
 case round=>
  obtain⟨k,hk,rfl,rfl,rfl,hB⟩:=hrel
  by_cases hkl:k<len
  ·have hcr: ∀o,(wr.alloc o).cell? ⟨t,0,none⟩=some (.slice (some ⟨b,off,none⟩) len cap):=fun o=>(World.cell?_alloc_lt _ _ _ (Nat.lt_of_lt_of_le ht hB.size)).trans ((hB.cell (p:=⟨t,0,none⟩) ht).trans hc)
   have q1:=(hB.cell (p:=⟨b,off+k*2,none⟩) hlt).trans (h.at_ hkl).1;have q2:=(hB.cell (p:=⟨b,off+k*2+1,none⟩) hlt).trans (h.at_ hkl).2;have Hno:=fun a b=>QQ (Xf2 (ps:=ps) (now:=now) (k:=k) a b)
   have Hin:=fun a b=>QQ (Kb6 (ps:=ps) (now:=now) (k:=k) a b)
   have Hla:=fun a b=>QQ (Jz2 (ps:=ps) (now:=now) (k:=k) a b)
   have Hq:=QQ h;generalize Ql9 ps now k=pk at*;have Hq3: ∀h1:k+1<len,wr.cell? ⟨b,off+ (k+1)*2,none⟩=some (.int .i64 (ps.getD (k+1) (0,0)).1):=fun h1=>(hB.cell (p:=⟨b,off+ (k+1)*2,none⟩) hlt).trans (Hq.out.at_ h1).1
   clear h hc;generalize(ps.getD k (0,0)).1=x at*;generalize(ps.getD k (0,0)).2=y at*;generalize(ps.getD (k+1) (0,0)).1=z at*
   by_cases h1:k+1<len
   ·have q3: ∀o,(wr.alloc o).cell? ⟨b,off+ (k+1)*2,none⟩=some (.int .i64 z):=fun o=>(World.cell?_alloc_lt _ _ _ (Nat.lt_of_lt_of_le hlt hB.size)).trans (Hq3 h1)
    clear Hq3
    by_cases hx:x≤now
    ·have P:=Hin (Or.inl hx) (by have:=hlen.out;omega)
     clear Hin Hno Hla;go_wp2
     go_roundw
     case rel=>exact⟨k+1,by omega,by go_num,by rw[P.out],by rw[P.out],hB.alloc hB.size _⟩
     case measure=>simp[RowKit.intOf];omega
    ·have dx:decide (x≤now)=false:=IQ hx
     by_cases h0':k=0
     ·have P:=Hin (Or.inr h0') (by have:=hlen.out;omega)
      have z0:((k:Int) ==0)=true:=J4 (by omega);clear Hin Hno Hla h0';go_wp2
      go_roundw
      case rel=>exact⟨k+1,by omega,by go_num,by rw[P.out],by rw[P.out],hB.alloc hB.size _⟩
      case measure=>simp[RowKit.intOf];omega
     ·have P:=Hno hx h0'
      have z0:((k:Int) ==0)=false:=UQ (by omega);clear Hin Hno Hla;go_wp2
      go_roundw
      case rel=>exact⟨k+1,by omega,by go_num,by rw[P.out],by rw[P.out],hB.alloc hB.size _⟩
      case measure=>simp[RowKit.intOf];omega
   ·have d1:decide ((k:Int)+1< (len:Int))=false:=IQ (by omega)
    clear Hq3
    by_cases hx:x≤now
    ·have P:=Hla (Or.inl hx) (by have:=hlen.out;omega)
     clear Hin Hno Hla;go_wp2
     go_roundw
     case rel=>exact⟨k+1,by omega,by go_num,by rw[P.out],by rw[P.out],hB.alloc hB.size _⟩
     case measure=>simp[RowKit.intOf];omega
    ·have dx:decide (x≤now)=false:=IQ hx
     by_cases h0':k=0
     ·have P:=Hla (Or.inr h0') (by have:=hlen.out;omega)
      have z0:((k:Int) ==0)=true:=J4 (by omega);clear Hin Hno Hla h0';go_wp2
      go_roundw
      case rel=>exact⟨k+1,by omega,by go_num,by rw[P.out],by rw[P.out],hB.alloc hB.size _⟩
      case measure=>simp[RowKit.intOf];omega
     ·have P:=Hno hx h0'
      have z0:((k:Int) ==0)=false:=UQ (by omega);clear Hin Hno Hla;go_wp2
      go_roundw
      case rel=>exact⟨k+1,by omega,by go_num,by rw[P.out],by rw[P.out],hB.alloc hB.size _⟩
      case measure=>simp[RowKit.intOf];omega
  ·obtain rfl:k=len:=by omega
   go_wp2;go_ret2;exact⟨rfl,hB⟩
def Z5 (ps:List (Int×Int)):Prop:=0<ps.length∧ps.length≤20∧ ∀j,j<ps.length→J0 ps j=0
theorem Kb5.good {ps:List (Int×Int)} {w w':World} {e:Ending} (h:Kb5 ps w e w') (hok:Z5 ps):
  Below w.heap.size w w'∧ ∃t A cap,e= .returned (.tuple #[.pointer (some ⟨t,0,none⟩),.nilIface])∧
   w.heap.size≤t∧t<w'.heap.size∧w'.cell? ⟨t,0,none⟩=some (.slice A ps.length cap)∧O2 w' A ps.length cap ps:=by
 obtain⟨hB,h⟩:=h
 obtain⟨h1,h2,h3⟩:=hok
 refine⟨hB, ?_⟩
 rcases h with h|h|⟨_,_,i,hi,_,hn,_⟩|⟨_,_,_,h⟩
 ·omega
 ·omega
 ·exact absurd (h3 i hi) hn
 ·exact h
theorem Xf3 {p0 p:Int} (h:Ql8 (OZ p0) p=true):p0<p:=by
 unfold Ql8 OZ at h
 by_cases h1:p0=1
 ·simp[h1]at h;omega
 by_cases h2:p0=2
 ·simp[h2]at h;omega
 by_cases h3:p0=3
 ·simp[h3]at h;omega
 by_cases h5:p0=5
 ·simp[h5]at h;omega
 simp[h1,h2,h3,h5]at h
theorem Z5.step {ps:List (Int×Int)} (h:Z5 ps) (k:Nat) (hk:k+1<ps.length):
  (ps.getD k (0,0)).1< (ps.getD (k+1) (0,0)).1∧(ps.getD k (0,0)).2< (ps.getD (k+1) (0,0)).2:=by
 have hw:=h.2.2 (k+1) hk
 simp only[J0,Qh2]at hw
 split at hw
 ·cases hw
 ·rename_i ha
  split at hw
  ·cases hw
  ·rename_i hb
   exact⟨by omega,Xf3 (by simpa using ha)⟩
theorem Z5.zero {ps:List (Int×Int)} (h:Z5 ps):(ps.getD 0 (0,0))=(0,1):=by
 have hw:=h.2.2 0 h.1
 simp only[J0]at hw
 split at hw
 ·assumption
 ·cases hw
theorem Xk4 (ps:List (Int×Int)) (now:Int) (h0:(ps.getD 0 (0,0)).1≤now): ∀m,0<m→m≤ps.length→
  ∃k,k<m∧(ps.getD k (0,0)).1≤now∧(∀j,k<j→j<m→now< (ps.getD j (0,0)).1)∧
   Ql9 ps now m=((ps.getD k (0,0)).2,if k+1<ps.length then(ps.getD (k+1) (0,0)).1 else -1)
 |0,h,_=>absurd h (by omega)
 |m+1,_,hm=>by
  by_cases hc:(ps.getD m (0,0)).1≤now∨m=0
  ·refine⟨m,by omega, ?_,fun j h1 h2=>by omega,by simp only[Ql9];rw[if_pos hc]⟩
   rcases hc with h|h
   ·exact h
   ·rw[h];exact h0
  ·obtain⟨k,hk,h1,h2,h3⟩:=Xk4 ps now h0 m (by omega) (by omega)
   refine⟨k,by omega,h1,fun j hj1 hj2=> ?_,by simp only[Ql9];rw[if_neg hc];exact h3⟩;rcases Nat.lt_or_ge j m with h|h
   ·exact h2 j hj1 h
   ·have:j=m:=by omega
    subst this;omega
def Qh4 (p k:Int):Bool:=
 if p=1 then decide (k=1∨k=3∨k=4)
 else if p=2∨p=4∨p=5 then decide (k=1∨k=2∨k=3∨k=4)
 else if p=3 then decide (k=1∨k=2∨k=4)else false
theorem five (p:Int):p=1∨p=2∨p=3∨p=4∨p=5∨(¬(p=1∨p=2∨p=3∨p=4∨p=5)):=by omega
theorem Zc6 (k:Int):k=1∨k=2∨k=3∨k=4∨(¬(k=1∨k=2∨k=3∨k=4)):=by omega
theorem Kg0 (p k:Int) (w:World):Calls Tryz.prog 44 #[.int .i64 p,.int .i64 k] w fun e w'=>e= .returned (.bool (Qh4 p k))∧w=w':=by
 rcases five p with rfl|rfl|rfl|rfl|rfl|hp
 case inr.inr.inr.inr.inr=>
  have hf:Qh4 p k=false:=by unfold Qh4;rw[if_neg (by omega),if_neg (by omega),if_neg (by omega)]
  have p1:=UQ (a:=p) (b:=1) (by omega);have p2:=UQ (a:=p) (b:=2) (by omega);have p3:=UQ (a:=p) (b:=3) (by omega);have p4:=UQ (a:=p) (b:=4) (by omega);have p5:=UQ (a:=p) (b:=5) (by omega);rw[hf];clear hf hp;go_enter Tryz.func44,Tryz.ntmps44
  go_wp2;go_ret;exact⟨rfl,rfl⟩
 all_goals
  rcases Zc6 k with rfl|rfl|rfl|rfl|hk
  case inr.inr.inr.inr=>
   have k1:=UQ (a:=k) (b:=1) (by omega);have k2:=UQ (a:=k) (b:=2) (by omega);have k3:=UQ (a:=k) (b:=3) (by omega);have k4:=UQ (a:=k) (b:=4) (by omega);rw[show Qh4 _ k=false by simp[Qh4];omega];clear hk;go_enter Tryz.func44,Tryz.ntmps44
   go_wp2;go_ret;exact⟨rfl,rfl⟩
  all_goals
   go_enter Tryz.func44,Tryz.ntmps44
   go_wp2;go_ret;exact⟨rfl,rfl⟩
end Go.Proofs.YtnlngicnfegjgaaGreatDoor
