/- Contracts and walks that the law's proof needs. -/
import Derived.WalkKit
import Derived.WalkLawsBesides
import Derived.WalkSpells
import Derived.Deep.LoopGhost
import Derived.Deep.DeepCutAuto
import Derived.Deep.CutBlock
import Derived.Test.YtnlngicnfegjgaaGreatZf53
import Derived.Test.YtnlngicnfegjgaaGreatZf54
set_option linter.unusedVariables false
set_option maxRecDepth 100000
set_option maxHeartbeats 8000000
namespace Go.Proofs.YtnlngicnfegjgaaGreat
open Go.ChangeMaps Go.RowKit
theorem Kk0 {w0 w:World} {D k:Nat} (h:Kv0 w0 w D k) (hk:k≤200) (q oi os ok op oq:Int):
  Calls Tryz.prog 6 #[.pointer (some ⟨D,0,none⟩),.agg #[.int .i64 q,.int .i64 oi,.int .i64 os,.int .i64 ok,.int .i64 op,.int .i64 oq]] w fun ev w'=>ev= .returned (.bool true)∧Kv0 w0 w' D (k+1):=by
 obtain⟨e,L,S,A,cap,l,c,F,m,lots,side,since,hands,h⟩:=h
 refine(Kr6 h hk q oi os ok op oq).mono ?_
 rintro ev w' ⟨rfl,F',m',lots',side',since',hands',h'⟩
 exact⟨rfl,_,_,_,_,_,_,_,_,_,_,_,_,_,h'⟩
theorem Jw4 (a b p t mo:Int) (A:Option Addr) (len cap:Nat) (l:List Int) (A2:Option Addr) (len2 cap2:Nat) (sl:List Kc8) (w:World) (h:XZ w Kx9 1 A len l) (h2:XZ w Kr4 6 A2 len2 sl):
  Calls Tryz.prog 3 #[.int .i64 a,.int .i64 b,.int .i64 p,.int .i64 t,.int .i64 mo,.slice A len cap,.slice A2 len2 cap2] w fun e w'=>e= .returned (.bool true)∧Below w.heap.size w w':=by
 have HL:=QQ h
 have HL2:=QQ h2
 clear h h2
 by_cases hn2:200<len2
 ·have q1:(200:Int)< (len2:Int):=by omega
  clear hn2;go_enter Tryz.func3,Tryz.ntmps3
  go_wp2_with fail
  go_ret;exact⟨rfl,Below.refl _ _⟩
 ·have q1: ¬(200:Int)< (len2:Int):=by omega
  by_cases hn:10<len
  ·have q2:(10:Int)< (len:Int):=by omega
   clear hn2 hn;go_enter Tryz.func3,Tryz.ntmps3
   go_wp2_with fail
   go_ret;exact⟨rfl,Below.refl _ _⟩
  ·have q2: ¬(10:Int)< (len:Int):=by omega
   have hle:len≤10:=by omega
   have hle2:len2≤200:=by omega
   have HLe:=QQ (And.intro hle hle2);clear hn2 hn hle hle2;go_enter Tryz.func3,Tryz.ntmps3
   go_wp2_with fail
   refine(Xz1 _).mono ?_;rintro ev w1 ⟨rfl,hb1⟩;have HB1:=QQ hb1;clear hb1;go_wp2_with fail
   refine(Xz2 a b p t mo A len cap l _ (HL.out.below HB1.out (Nat.le_refl _)) HLe.out.1).mono ?_;rintro ev w2 ⟨hb2,D,E,L,S,T,ct,F,c,rfl,hd,hk,hF,g1,g2,g3,g4⟩;have HA:Hid (Kv0 w1 w2 D 0):=QQ ⟨_,_,_,_,_,_,_,_,_,_,_,_,_,Kr3 hb2 hd hk hF g1 g2 g3 g4⟩;clear hb2 hd hk hF g1 g2 g3 g4;go_upto_region 8 with fail
   go_wp2_with fail
   go_loopg [16] len2 (fun gg s16 wx=> ∃k:Nat,k≤len2∧gg=len2-k∧s16= .int .i64 k∧Kv0 w1 wx D k)
   case atStart=>exact⟨0,Nat.zero_le _,rfl,rfl,HA.out⟩
   case round=>
    obtain⟨k,hk,rfl,rfl,hP⟩:=hrel;have HP:=QQ hP;have HBr:Hid (Below w.heap.size w wr):=QQ (by obtain⟨_,_,_,_,_,_,_,_,_,_,_,_,_,h1⟩:=hP;exact HB1.out.trans (h1.bel.mono HB1.out.size));clear hP
    by_cases hlt:k<len2
    ·have hkl:k<sl.length:=by have:=HL2.out.1;omega
     have hEl:=HL2.out.below HBr.out (Nat.le_refl _);obtain⟨gA,oA,hA⟩: ∃b off,A2=some ⟨b,off,none⟩:=by obtain⟨b,off,h1,_⟩:=hEl.2 (by omega);exact⟨b,off,h1⟩
     subst hA;obtain⟨x0,x1,x2,x3,x4,x5⟩:=Kz2 hEl hkl;have hltz:(k:Int)< (len2:Int):=by omega
     have hk7:(0:Int)≤(k:Int):=by omega
     have hkb:k<200:=by have:=HLe.out.2;omega
     obtain⟨⟨q,oi,os,ok,op,oq⟩,eo⟩: ∃o,sl[k]=o:=⟨_,rfl⟩;rw[eo]at x0 x1 x2 x3 x4 x5;dsimp only at x0 x1 x2 x3 x4 x5;clear eo hEl;have HDo:=QQ (Kk0 HP.out (by omega) q oi os ok op oq);go_wp2_with fail
     refine HDo.out.mono ?_;rintro ev w4 ⟨rfl,hA4⟩;have HA4:=QQ hA4;clear hA4;go_wp2_with fail
     go_roundg (len2- (k+1))
     case measure=>omega
     case rel=>exact⟨k+1,by omega,rfl,by go_num,HA4.out⟩
    ·obtain rfl:k=len2:=by omega
     have hltz: ¬(k:Int)< (k:Int):=by omega
     go_wp2_with fail
     go_ret;exact⟨rfl,HBr.out⟩
end Go.Proofs.YtnlngicnfegjgaaGreat
namespace Go.Proofs.YtnlngicnfegjgaaGreat
open Go.RowKit
theorem Xi4 {w:World} {A:Option Addr} {len cap:Nat} {rows:List (List Int)} (h:Jb6 w 1 A len cap rows):XZ w Kx9 1 A len (rows.map fun r=>r.getD 0 0):=by
 obtain⟨h1,_,_,h4,_,h6⟩:=h
 refine⟨by simp[h1],fun hl=> ?_⟩
 obtain⟨b,off,hA,hb,hc⟩:=h6 hl
 refine⟨b,off,hA,hb,fun i hi j u hu=> ?_⟩
 have hi':i<rows.length:=by simpa using hi
 have hr:=(h4 rows[i] (List.getElem_mem _)).1
 have e:(rows.map fun r=>r.getD 0 0)[i]=rows[i].getD 0 0:=by simp
 rw[e]at hu
 match j,hu with
 |0,hu=>
  cases hu;rw[hc i hi' 0 (by omega)];have:0<rows[i].length:=by omega
  simp[List.getD_eq_getElem?_getD,this]
theorem Jo7 (a b p t mo:Int) {W:World} {A:Option Addr} {len cap:Nat} {rows:List (List Int)} {A2:Option Addr} {len2 cap2:Nat} {rows2:List (List Int)} (h:Jb6 W 1 A len cap rows) (h2:Jb6 W 6 A2 len2 cap2 rows2):
  Calls Tryz.prog 3 #[.int .i64 a,.int .i64 b,.int .i64 p,.int .i64 t,.int .i64 mo,.slice A len cap,.slice A2 len2 cap2] W fun e w'=>e= .returned (.bool true)∧Below W.heap.size W w':=
 Jw4 a b p t mo A len cap _ A2 len2 cap2 _ W (Xi4 h) (Xz4 h2)
end Go.Proofs.YtnlngicnfegjgaaGreat
