/- Contracts and walks that the law's proof needs. -/
import Derived.WalkKit
import Derived.WalkLawsBesides
import Derived.WalkSpells
import Derived.Deep.RegionLaw
import Derived.Deep.AppendLies
import Derived.Deep.AppendSrc
import Derived.Lib.JoinLaws
import Derived.Lib.AppendZerosOnto
import Derived.Lib.Overlaps
import Derived.Laws.Externs
import Derived.Laws.NewBlocks
import Derived.Test.YtbmiieehkkfbgaaGreatDoorZd7
import Derived.Test.YtbmiieehkkfbgaaGreatDoorZd1
import Derived.Test.YtbmiieehkkfbgaaGreatDoorZd5
import Derived.WalkSmall
import Derived.Lib.SmallJoins
import Derived.Shelf.Strings.Prefix
import Derived.Shelf.Strings.Search3
import Derived.Shelf.Strings.FieldsFuncAny
import Derived.Shelf.Strings.OnBuilder
import Derived.Shelf.Strings.BuilderK
import Derived.Shelf.Strconv.Itoa3
import Derived.Shelf.Strconv.ErrVarAll
import Derived.Test.YtbmiieehkkfbgaaGreatDoorDeskLaid
import Derived.Test.YtbmiieehkkfbgaaGreatDoorZd3
set_option linter.unusedVariables false
set_option maxRecDepth 100000
set_option maxHeartbeats 8000000
namespace Go.Proofs.YtbmiieehkkfbgaaGreatDoor
open Go.RowKit
theorem Qt3:(Tryz.prog.info? 249).map (fun i=>(i.zero,i.size,i.bytes))=some (some (.agg #[.int .i64 0,.int .i64 0,.int .i64 0]),3,24):=by kernel_rfl
theorem Xz4 (w:World):(Go.sizeOf 249).run Tryz.prog w= .ok 3 w:=by kernel_rfl
def Ju7 (w w':World) (A A':Option Addr) (n c':Nat) (qs:List XJ):Prop:=
 QW w' A' n c' 249 3 (JQ KW qs)∧QK (fun i=>QZ A=some i) w w'∧ ∀g,QZ A'=some g→QZ A=some g∨w.heap.size≤g
theorem Xq0 (w:World) (A:Option Addr) (n c:Nat) (qs:List XJ) (vb:Nat) (q:XJ) (h:QW w A n c 249 3 (JQ KW qs)) (hv:QJ w vb 249 (KW q).toArray) (hn:n≤100000):
  Calls Tryz.prog 191 #[.slice A n c,.int .i64 n,.slice (some ⟨vb,0,none⟩) 1 1] w fun e w'=>
   ∃A' c',e= .returned (.slice A' (n+1) c')∧Ju7 w w' A A' (n+1) c' (qs++ [q]):=by
 obtain⟨i0,hi0,hz0,hz1,hz2⟩:=info_parts Qt3
 have hnews: ∀j u,(KW q)[j]?=some u→w.cell? ((⟨vb,0,none⟩:Addr).add j)=some u:=by
  have:=World.news_of_block (cs:=(KW q).toArray) hv;simpa using this
 have HN:=QQ hnews
 have HH:=QQ (show w.ownsRow 0 249 3 (.slice A n c) n (JQ KW qs)from h)
 clear hnews h hv
 go_enter Tryz.func191,Tryz.ntmps191
 go_wp2_with (at_builtin;refine wpList_append_lies _ (by rfl) _ _ 121 (by rfl) 0 249 i0 _ 3 24 Tryz.underlying121 hi0 hz0 hz1 hz2 rfl (by omega) (.slice A n c) n _ (by rfl) HH.out ⟨vb,0,none⟩ 1 1 (KW q) (by rfl) (by rfl) HN.out (Qc9 _) (by omega) (by unfold maxLen;omega) (by omega) (by simp) w.heap.size (by rfl) ?_;intro gg cap w3 hown hgrow hat hlt;have HO:=QQ hown;have HG:=QQ hgrow;have HT:=QQ hat;clear hown hgrow hat)
 all_goals
  go_ret;refine⟨_,_,rfl, ?_, ?_, ?_⟩
  ·rw[Y7];exact HO.out
  ·have:=Qg9 HG.out
   rw[JW]at this;exact this
  ·intro g hg
   cases hg;have:=HT.out;rw[JW]at this;exact this.imp id (fun h=>by show _≤gg;omega)
theorem Xb7 (w:World) (b n c i:Nat) (qs:List XJ) (vb:Nat) (q:XJ) (h:QW w (some ⟨b,0,none⟩) n c 249 3 (JQ KW qs)) (hv:QJ w vb 249 (KW q).toArray) (hvb:vb≠b) (hn:n≤100000) (hi:i<n) (hc:n+1≤c):
  Calls Tryz.prog 191 #[.slice (some ⟨b,0,none⟩) n c,.int .i64 i,.slice (some ⟨vb,0,none⟩) 1 1] w fun e w'=>
   ∃A' c',e= .returned (.slice A' (n+1) c')∧Ju7 w w' (some ⟨b,0,none⟩) A' (n+1) c' (qs.take i++q::qs.drop i):=by
 obtain⟨cur,hB,hnc,hcm,hcl,hct⟩:=h.whole
 obtain⟨i0,hi0,hz0,hz1,hz2⟩:=info_parts Qt3
 have hz2': ¬((i:Int)=(n:Int)):=by omega
 have hw1:IntKind.i64.wrap ((i:Int)+ (1:Int))=(i:Int)+1:=by rw[IntKind.wrap_i64];omega
 have hb1:(0:Int)≤(i:Int)+1:=by omega
 have htn:((i:Int)+1).toNat=i+1:=by omega
 have hb2: ¬(c=i+1):=by omega
 have hb3:(i:Int)≤(n:Int)+1:=by omega
 have hb4: ¬(c=i):=by omega
 have hin:i≤n:=by omega
 have HB:=QQ hB
 have HV:=QQ hv
 have HL:=QQ hcl
 have HT:=QQ hct
 clear hB hv hcl hct
 have hov: ∀lb cb,(callFunc 200 #[.slice (some ⟨vb,0,none⟩) 1 1,.slice (some ⟨b,(i+1)*3,none⟩) lb cb]).run Tryz.prog w= .ok (.value (.bool false)) w:=fun lb cb=>by
  rw[run_callFunc_extern Tryz.func200 (by kernel_rfl) (by kernel_rfl) (by kernel_rfl) (e:=Extern.SlicesOverlaps.overlaps #[121,121] #[4]) (by kernel_rfl),
   Lib.run_overlaps_apart w 121 4 249 Tryz.underlying121 3 Xz4 ⟨vb,0,none⟩ ⟨b,(i+1)*3,none⟩ 1 1 lb cb hvb 249 249 3 cur.length (QJ.shape HV.out) (by rw[QJ.shape HB.out];simp) (by have:=HL.out;omega) (QJ.frozen HV.out 0) (QJ.frozen HV.out 3)]
  rfl
 have hfl:(JQ KW qs).length=n*3:=h.1
 have hdl:((JQ KW qs).drop (i*3)).length=(n-i)*3:=by rw[List.length_drop,hfl];omega
 have hcp1: ∀W,QJ W b 249 cur.toArray→ ∀ty dc sc dl sl,dl=n-i→n-i≤sl→(Builtin.copy_ #[121,121] ty #[.slice (some ⟨b,(i+1)*3,none⟩) dl dc,.slice (some ⟨b,i*3,none⟩) sl sc]).run Tryz.prog W= .ok (goInt (n-i:Nat)) (W.setRow b (splice cur ((i+1)*3) ((JQ KW qs).drop (i*3))).toArray):=fun W hW ty dc sc dl sl e1 e2=>
  Z6 W _ _ ty 249 3 b ((i+1)*3) dl dc ⟨b,i*3,none⟩ sl sc cur.toArray 249 ((JQ KW qs).drop (i*3)) (n-i) (by simp only[Nat.min_def];split<;>omega) Tryz.underlying121 (by rw[hi0];simp[hz1]) hW hdl
   (fun j v hj=>by
    rw[U3,QJ.cell hW];rw[List.getElem?_drop,←HT.out,List.getElem?_take]at hj
    split at hj
    ·simpa using hj
    ·cases hj)
   (by rw[hdl];simp[HL.out];omega) (fun v hv=>Qh9 Qc9 qs v (List.mem_of_mem_drop hv))
 have hcp2: ∀W c1,QJ W b 249 (List.toArray c1)→QJ W vb 249 (KW q).toArray→c1.length=c*3→ ∀ty dc dl,1≤dl→(Builtin.copy_ #[121,121] ty #[.slice (some ⟨b,i*3,none⟩) dl dc,.slice (some ⟨vb,0,none⟩) 1 1]).run Tryz.prog W= .ok (goInt (1:Nat)) (W.setRow b (splice c1 (i*3) (KW q)).toArray):=fun W c1 hW hv hl ty dc dl e1=>
  Z6 W _ _ ty 249 3 b (i*3) dl dc ⟨vb,0,none⟩ 1 1 c1.toArray 249 (KW q) 1 (by simp only[Nat.min_def];split<;>omega) Tryz.underlying121 (by rw[hi0];simp[hz1]) hW rfl
   (fun j v hj=>by rw[U3,QJ.cell hv];simpa using hj) (by simp[hl,JX];omega) (Qc9 q)
 have hB1:QJ (w.drew) b 249 cur.toArray:=HB.out
 have hB2:=QJ.setRow w.drew b cur.toArray (splice cur ((i+1)*3) ((JQ KW qs).drop (i*3))).toArray 249 hB1
 have hV2:QJ (w.drew.setRow b (splice cur ((i+1)*3) ((JQ KW qs).drop (i*3))).toArray) vb 249 (KW q).toArray:=QJ.keeps (HV.out.drew) (QK.setRow _ _ _) (fun e=>hvb e)
 have hl2:(splice cur ((i+1)*3) ((JQ KW qs).drop (i*3))).length=c*3:=by rw[length_splice _ _ _ (by rw[hdl,HL.out];omega),HL.out]
 have hfin:=Jh0 cur (JQ KW qs) (KW q) i n 3 hin HT.out (JX q) (by rw[HL.out];omega)
 rw[Qo1 JX]at hfin
 have hK1:=QK.setRow w.drew b (splice cur ((i+1)*3) ((JQ KW qs).drop (i*3))).toArray
 have hcpA:=hcp1 _ hB1
 generalize splice cur ((i+1)*3) ((JQ KW qs).drop (i*3))=c1 at*
 obtain⟨W1,hW1⟩: ∃W1,W1=w.drew.setRow b c1.toArray:=⟨_,rfl⟩
 rw[←hW1]at hB2 hV2 hK1 hcpA
 have HA:=QQ hcpA
 have HC:=QQ (hcp2 W1 c1 hB2 hV2 hl2)
 have HF:=QQ hfin
 have HK:=QQ hK1
 have HB2:=QQ hB2
 have HL2:=QQ hl2
 clear hcp1 hcp2 hcpA hfin hK1 hB2 hV2 hl2 hdl hfl hW1 hB1
 clear h
 go_enter Tryz.func191,Tryz.ntmps191
 go_wp2_with (simp only[hov])
 go_region_law (refine Qk6 rfl (.tmp 73) (.tmp 76) 121 121 rfl (.slice (some ⟨b,(i+1)*3,none⟩) (n-i) (c- (i+1))) (.slice (some ⟨b,i*3,none⟩) (n+1-i) (c-i)) (by simp[Act.eval,Act.put]) (by simp[Act.eval,Act.put]) (HA.out _ _ _ _ _ rfl (by omega)) ?_)
 have hC2:=fun ty=>HC.out ty (c-i) (n+1-i) (by omega)
 go_wp2_with (simp only[hC2])
 go_ret
 have hB3:=QJ.setRow W1 b c1.toArray (splice c1 (i*3) (KW q)).toArray 249 HB2.out
 have hR:=QW.of_whole (n:=n+1) (c:=c) (sz:=3) hB3 hc hcm (by rw[length_splice _ _ _ (by rw[HL2.out];simp[JX];omega),HL2.out])
 rw[HF.out]at hR
 refine⟨_,_,rfl,hR, ?_,fun g hg=> .inl hg⟩
 exact((QK.of_below (Below.drew (Below.refl _ w)) (fun i=>QZ (some ⟨b,0,none⟩)=some i)).trans HK.out (fun i h=> .inl (by subst h;rfl))).trans (QK.setRow _ _ _) (fun i h=> .inl (by subst h;rfl))
theorem Xj0 (w:World) (b n c i:Nat) (qs:List XJ) (vb:Nat) (q:XJ) (h:QW w (some ⟨b,0,none⟩) n c 249 3 (JQ KW qs)) (hv:QJ w vb 249 (KW q).toArray) (hn:n≤100000) (hi:i<n) (hc:c<n+1):
  Calls Tryz.prog 191 #[.slice (some ⟨b,0,none⟩) n c,.int .i64 i,.slice (some ⟨vb,0,none⟩) 1 1] w fun e w'=>
   ∃A' c',e= .returned (.slice A' (n+1) c')∧Ju7 w w' (some ⟨b,0,none⟩) A' (n+1) c' (qs.take i++q::qs.drop i):=by
 obtain⟨cur,hB,hnc,hcm,hcl,hct⟩:=h.whole
 obtain⟨i0,hi0,hz0,hz1,hz2⟩:=info_parts Qt3
 have hz2': ¬((i:Int)=(n:Int)):=by omega
 have hz3:(c:Int)< (n:Int)+1:=by omega
 have hw1:IntKind.i64.wrap ((i:Int)+ (1:Int))=(i:Int)+1:=by rw[IntKind.wrap_i64];omega
 have hb1:(0:Int)≤(i:Int)+1:=by omega
 have htn:((i:Int)+1).toNat=i+1:=by omega
 have hin:i≤n:=by omega
 have hib:(i:Int)≤(n:Int):=by omega
 have hci: ¬(c=i):=by omega
 have hkk:(n:Int)+1- (i:Int)=((n+1-i:Nat):Int):=by omega
 have hik:i+ (n+1-i)=n+1:=by omega
 have hfl:(JQ KW qs).length=n*3:=h.1
 have hdl:((JQ KW qs).drop (i*3)).length=(n-i)*3:=by rw[List.length_drop,hfl];omega
 have hbw:=QJ.lt hB
 have hvw:=QJ.lt hv
 have hold:(Builtin.firstCells i0.size i (.slice (some ⟨b,0,none⟩) i c)).run Tryz.prog w.drew= .ok ((JQ KW qs).take (i*3)).toArray w.drew:=by
  rw[hz1];exact run_firstCells_some w.drew 3 i ⟨b,0,none⟩ i c _ (by rw[List.length_take,hfl];omega) (fun j v hj=>by
   rw[U3,QJ.cell (QJ.drew hB),Nat.zero_add];rw[←hct,List.take_take,List.getElem?_take]at hj
   split at hj
   ·simpa using hj
   ·cases hj)
 obtain⟨G,hG⟩: ∃G,G=grownCap w (n+1) c 249:=⟨_,rfl⟩
 have hGn:n+1≤G:=by rw[hG];exact grownCap_ge w _ _ _
 have hGm:G≤maxLen:=by rw[hG];exact grownCap_le_maxLen w (n+1) c 249 (by unfold maxLen;omega)
 have hG63:G≤9223372036854775807:=by unfold maxLen at hGm;omega
 obtain⟨ROW,hROW⟩: ∃ROW:List Value,ROW=(((JQ KW qs).take (i*3)).toArray++Builtin.zeroCells (Value.agg #[.int .i64 0,.int .i64 0,.int .i64 0]).cells (n+1-i)++Builtin.zeroCells (Value.agg #[.int .i64 0,.int .i64 0,.int .i64 0]).cells (G- (n+1))).toList:=⟨_,rfl⟩
 have hRl:ROW.length=G*3:=by
  rw[hROW];simp only[Array.length_toList,Array.size_append,List.size_toArray,List.length_take,hfl,size_zeroCells];simp[Value.cells];omega
 have hRt:ROW.take (i*3)=(JQ KW qs).take (i*3):=by
  rw[hROW];simp only[Array.toList_append,List.append_assoc];exact List.take_append_of_le_length (by simp[hfl];omega) |>.trans (by simp[List.take_take])
 have hrz: ∀ty,(Builtin.append_ #[121,3] ty #[.slice (some ⟨b,0,none⟩) i c,.int .i64 ((n:Int)+1- (i:Int))]).run Tryz.prog w=
   .ok (.slice (some ⟨w.heap.size,0,none⟩) (n+1) G) (w.drew.alloc (.cells ROW.toArray 249)):=fun ty=>by
  have h:=Lib.run_append_grow_zeros w 121 3 ty 249 i0 _ .i64 .i64 Tryz.underlying121 Tryz.underlying3 hi0 hz0 (some ⟨b,0,none⟩) i c ((JQ KW qs).take (i*3)) hold (n+1-i) (by omega) (by omega) (by omega) (by omega) (by rw[hz2];omega) (by rw[hz2,hik];exact growslice_fits hc (by omega));rw[hik,←hG]at h;rw[hkk,h,hROW]
 obtain⟨W1,hW1⟩: ∃W1,W1=w.drew.alloc (.cells ROW.toArray 249):=⟨_,rfl⟩
 obtain⟨H,hH⟩: ∃H,H=w.heap.size:=⟨_,rfl⟩
 have hR1:QJ W1 H 249 ROW.toArray:=by rw[hW1,hH];exact QJ.new w.drew _ _
 have hS1:QJ W1 b 249 cur.toArray:=by rw[hW1];exact QJ.alloc (QJ.drew hB) _
 have hV1:QJ W1 vb 249 (KW q).toArray:=by rw[hW1];exact QJ.alloc (QJ.drew hv) _
 have hbel:Below w.heap.size w W1:=by rw[hW1];exact(Below.drew (Below.refl _ w)).alloc (Nat.le_refl _) _
 rw[←hW1,←hH]at hrz
 have hbH:b≠H:=by omega
 have hvH:vb≠H:=by omega
 have hl2:(splice ROW (i*3) (KW q)).length=G*3:=by rw[length_splice _ _ _ (by rw[hRl,JX];omega),hRl]
 have hcA: ∀ty,(Builtin.copy_ #[121,121] ty #[.slice (some ⟨H,i*3,none⟩) (n+1-i) (G-i),.slice (some ⟨vb,0,none⟩) 1 1]).run Tryz.prog W1= .ok (goInt (1:Nat)) (W1.setRow H (splice ROW (i*3) (KW q)).toArray):=fun ty=>
  Z6 W1 _ _ ty 249 3 H (i*3) (n+1-i) (G-i) ⟨vb,0,none⟩ 1 1 ROW.toArray 249 (KW q) 1 (by simp only[Nat.min_def];split<;>omega) Tryz.underlying121 (by rw[hi0];simp[hz1]) hR1 rfl
   (fun j v hj=>by rw[U3,QJ.cell hV1];simpa using hj) (by simp[hRl,JX];omega) (Qc9 q)
 have hR2:=QJ.setRow W1 H ROW.toArray (splice ROW (i*3) (KW q)).toArray 249 hR1
 have hS2:=QJ.keeps hS1 (QK.setRow W1 H (splice ROW (i*3) (KW q)).toArray) hbH
 have hk2:=QK.setRow W1 H (splice ROW (i*3) (KW q)).toArray
 have hfin:=Jn8 ROW (JQ KW qs) (KW q) i n 3 hin hfl hRt (JX q) (by rw[hRl];omega)
 rw[Qo1 JX]at hfin
 generalize splice ROW (i*3) (KW q)=c2 at*
 obtain⟨W2,hW2⟩: ∃W2,W2=W1.setRow H c2.toArray:=⟨_,rfl⟩
 rw[←hW2]at hR2 hS2 hk2 hcA
 have hcB: ∀ty,(Builtin.copy_ #[121,121] ty #[.slice (some ⟨H,(i+1)*3,none⟩) (n-i) (G- (i+1)),.slice (some ⟨b,i*3,none⟩) (n-i) (c-i)]).run Tryz.prog W2.drew= .ok (goInt (n-i:Nat)) (W2.drew.setRow H (splice c2 ((i+1)*3) ((JQ KW qs).drop (i*3))).toArray):=fun ty=>
  Z6 W2.drew _ _ ty 249 3 H ((i+1)*3) (n-i) (G- (i+1)) ⟨b,i*3,none⟩ (n-i) (c-i) c2.toArray 249 ((JQ KW qs).drop (i*3)) (n-i) (by simp only[Nat.min_def];split<;>omega) Tryz.underlying121 (by rw[hi0];simp[hz1]) (QJ.drew hR2) hdl
   (fun j v hj=>by
    rw[U3,QJ.cell (QJ.drew hS2)];rw[List.getElem?_drop,←hct,List.getElem?_take]at hj
    split at hj
    ·simpa using hj
    ·cases hj)
   (by rw[hdl];simp[hl2];omega) (fun v hv=>Qh9 Qc9 qs v (List.mem_of_mem_drop hv))
 have hR3:=QJ.setRow W2.drew H c2.toArray (splice c2 ((i+1)*3) ((JQ KW qs).drop (i*3))).toArray 249 (QJ.drew hR2)
 have hk3:=QK.setRow W2.drew H (splice c2 ((i+1)*3) ((JQ KW qs).drop (i*3))).toArray
 have hl3:(splice c2 ((i+1)*3) ((JQ KW qs).drop (i*3))).length=G*3:=by rw[length_splice _ _ _ (by rw[hdl,hl2];omega),hl2]
 have hRow:=QW.of_whole (n:=n+1) (c:=G) (sz:=3) hR3 hGn hGm hl3
 rw[hfin]at hRow
 generalize splice c2 ((i+1)*3) ((JQ KW qs).drop (i*3))=c3 at*
 obtain⟨W3,hW3⟩: ∃W3,W3=W2.drew.setRow H c3.toArray:=⟨_,rfl⟩
 rw[←hW3]at hcB hk3 hRow
 have hK:Below w.heap.size w W3:=hbel.trans (((hk2.below (B:=w.heap.size) (fun i h=>by have:i=H:=h;omega) hbel.size).trans (Below.drew (Below.refl _ W2))).trans (hk3.below (B:=w.heap.size) (fun i h=>by have:i=H:=h;omega) (Nat.le_trans hbel.size hk2.size)))
 have HK:=QQ hK
 have HR:=QQ hRow
 have HH:=QQ hH
 have hGi: ¬(G=i):=by omega
 have hGi1: ¬(G=i+1):=by omega
 have HB:=QQ hcB
 clear hK hRow hH hk3 hl3 hR3 hcB hW3 hR2 hS2 hk2 hfin hW2 hl2 hR1 hS1 hV1 hbel hW1 hRt hRl hROW hG hold hdl hfl hkk hik hB hv h hcl hct
 go_enter Tryz.func191,Tryz.ntmps191
 go_wp2_with (first|(at_builtin;refine Lib.wpList_append_run _ rfl _ _ _ _ rfl _ _ rfl rfl _ _ (hrz _) ?_)|simp only[hcA])
 go_region_law (refine Qk6 rfl (.tmp 50) (.tmp 53) 121 121 rfl (.slice (some ⟨H,(i+1)*3,none⟩) (n-i) (G- (i+1))) (.slice (some ⟨b,i*3,none⟩) (n-i) (c-i)) (by simp[Act.eval,Act.put]) (by simp[Act.eval,Act.put]) (HB.out _) ?_)
 go_wp2
 go_ret
 refine⟨_,_,rfl,HR.out,QK.of_below HK.out _,fun g hg=> .inr (by cases hg;show _≤H;rw[HH.out];exact Nat.le_refl _)⟩
theorem Xq1 (w:World) (A:Option Addr) (n c i:Nat) (qs:List XJ) (vb:Nat) (q:XJ) (h:QW w A n c 249 3 (JQ KW qs)) (hv:QJ w vb 249 (KW q).toArray) (hvb:QZ A≠some vb) (hn:n≤100000) (hi:i≤n):
  Calls Tryz.prog 191 #[.slice A n c,.int .i64 i,.slice (some ⟨vb,0,none⟩) 1 1] w fun e w'=>
   ∃A' c',e= .returned (.slice A' (n+1) c')∧Ju7 w w' A A' (n+1) c' (qs.take i++q::qs.drop i):=by
 have hl:qs.length=n:=by have:=h.1;rw[YY JX]at this;omega
 by_cases e:i=n
 ·subst e
  have:=Xq0 w A i c qs vb q h hv hn
  rwa [List.take_of_length_le (by omega),List.drop_eq_nil_of_le (by omega)]
 ·obtain⟨g,hA,_⟩:=h.elem JX (by omega) (i:=i) (by omega)
  subst hA
  by_cases hc:n+1≤c
  ·exact Xb7 w g n c i qs vb q h hv (fun e=>hvb (by rw[e];rfl)) hn (by omega) hc
  ·exact Xj0 w g n c i qs vb q h hv hn (by omega) (by omega)
def IV (ps:List (Int×Int)):Nat→Int
 |0=>if ps.getD 0 (0,0)=(0,1)then 0 else 1
 |k+1=>I1 (ps.getD k (0,0)).1 (ps.getD k (0,0)).2 (ps.getD (k+1) (0,0)).1 (ps.getD (k+1) (0,0)).2
theorem Xq2 (a0 p0 a p:Int):I1 a0 p0 a p=0∨I1 a0 p0 a p=1∨I1 a0 p0 a p=10∨I1 a0 p0 a p=2:=by
 unfold I1
 by_cases h1:Qk5 (YZ p0) p=false
 ·rw[if_pos h1];simp
 ·rw[if_neg h1]
  by_cases h2:a≤a0
  ·rw[if_pos h2];simp
  ·rw[if_neg h2]
   by_cases h3:1000000<a
   ·rw[if_pos h3];simp
   ·rw[if_neg h3];simp
theorem Xq3 (b off len cap:Nat) (x y:Int) (w:World) (hl:0<len)
  (c0:w.cell? ⟨b,off,none⟩=some (.int .i64 x)) (c1:w.cell? ⟨b,off+1,none⟩=some (.int .i64 y)):
  Calls Tryz.prog 124 #[.slice (some ⟨b,off,none⟩) len cap,.int .i64 0] w fun e w'=>e= .returned (.int .i64 (if(x,y)=(0,1)then 0 else 1))∧w=w':=by
 by_cases hx:x=0
 ·by_cases hy:y=1
  ·have hx':=Z2 hx
   have hy':=Z2 hy;rw[if_pos (by rw[hx,hy])];clear hx hy;go_enter Tryz.func124,Tryz.ntmps124
   go_wp2;go_ret;exact⟨rfl,rfl⟩
  ·have hx':=Z2 hx
   have hy':=YW hy;rw[if_neg (by simp[hy])];clear hx hy;go_enter Tryz.func124,Tryz.ntmps124
   go_wp2;go_ret;exact⟨rfl,rfl⟩
 ·have hx':=YW hx
  rw[if_neg (by simp[hx])];clear hx;go_enter Tryz.func124,Tryz.ntmps124
  go_wp2;go_ret;exact⟨rfl,rfl⟩
theorem Kl0 (A:Option Addr) (len cap:Nat) (ps:List (Int×Int)) (i:Nat) (w:World) (h:I8 w A len cap ps) (hi:i<len) (hl:len≤20):
  Calls Tryz.prog 124 #[.slice A len cap,.int .i64 (i:Int)] w fun e w'=>e= .returned (.int .i64 (IV ps i))∧Below w.heap.size w w':=by
 obtain⟨b,off,rfl,hlt,hc⟩:=h.2 (by omega)
 cases i with
 |zero=>
  have h0:=hc 0 (by omega);refine(Xq3 b off len cap _ _ w hi (by simpa using h0.1) (by simpa using h0.2)).mono ?_;rintro e w' ⟨rfl,rfl⟩;exact⟨rfl,Below.refl _ _⟩
 |succ k=>
  exact Xy7 b off len cap k _ _ _ _ w hi hl hlt (hc k (by omega)).1 (hc k (by omega)).2 (hc (k+1) hi).1 (hc (k+1) hi).2
theorem Xq4:(Tryz.prog.info? 93).map (fun i=>(i.zero,i.size,i.bytes))=some (some (.agg #[.int .i64 0,.int .i64 0]),2,16):=by kernel_rfl
def Js0 (ps:List (Int×Int)) (w:World) (e:Ending) (w':World):Prop:=
 Below w.heap.size w w'∧
 ((ps.length=0∧e= .returned (.tuple #[.pointer none,.iface 45 (.int .i64 8)]))∨
  (20<ps.length∧e= .returned (.tuple #[.pointer none,.iface 45 (.int .i64 4)]))∨
  (0<ps.length∧ps.length≤20∧ ∃i,i<ps.length∧(∀j,j<i→IV ps j=0)∧IV ps i≠0∧ ∃g,e= .returned (.tuple #[.pointer none,.iface 196 (.pointer (some ⟨g,0,none⟩))])∧
   w.heap.size≤g∧w'.cell? ⟨g,0,none⟩=some (.int .i64 (IV ps i))∧w'.cell? ⟨g,1,none⟩=some (.int .i64 i))∨
  (0<ps.length∧ps.length≤20∧(∀j,j<ps.length→IV ps j=0)∧ ∃t A cap,e= .returned (.tuple #[.pointer (some ⟨t,0,none⟩),.nilIface])∧
   w.heap.size≤t∧t<w'.heap.size∧w'.cell? ⟨t,0,none⟩=some (.slice A ps.length cap)∧I8 w' A ps.length cap ps))
def Ku1 (ps:List (Int×Int)) (w:World) (e:Ending) (w':World):Prop:=
 Below w.heap.size w w'∧
 ((ps.length=0∧e= .returned (.tuple #[.pointer none,.iface 45 (.int .i64 8)]))∨
  (20<ps.length∧e= .returned (.tuple #[.pointer none,.iface 45 (.int .i64 4)]))∨
  (0<ps.length∧ps.length≤20∧ ∃i,i<ps.length∧(∀j,j<i→IV ps j=0)∧IV ps i≠0∧ ∃g,e= .returned (.tuple #[.pointer none,.iface 196 (.pointer (some ⟨g,0,none⟩))])∧
   w.heap.size≤g∧w'.cell? ⟨g,0,none⟩=some (.int .i64 (IV ps i))∧w'.cell? ⟨g,1,none⟩=some (.int .i64 i))∨
  (0<ps.length∧ps.length≤20∧(∀j,j<ps.length→IV ps j=0)∧ ∃t A cap,e= .returned (.tuple #[.pointer (some ⟨t,0,none⟩),.nilIface])∧
   w.heap.size≤t∧t<w'.heap.size∧w'.cell? ⟨t,0,none⟩=some (.slice A ps.length cap)∧I8 w' A ps.length cap ps∧ ∀g,QZ A=some g→w.heap.size≤g∧g≠t))
theorem Ku2 (A:Option Addr) (len cap:Nat) (ps:List (Int×Int)) (w:World) (h:I8 w A len cap ps) (hm:len≤9223372036854775807):
  Calls Tryz.prog 92 #[.slice A len cap] w (Ku1 ps w):=by
 have hlen:=h.1
 by_cases h0:len=0
 ·subst h0
  go_enter Tryz.func92,Tryz.ntmps92
  go_wp2;go_ret2;exact⟨Below.refl _ _,.inl ⟨hlen,rfl⟩⟩
 ·by_cases h20:20<len
  ·have e0:((len:Int) ==0)=false:=by simp;omega
   go_enter Tryz.func92,Tryz.ntmps92
   go_wp2;go_ret2;exact⟨Below.refl _ _,.inr (.inl ⟨by omega,rfl⟩)⟩
  ·have e0:((len:Int) ==0)=false:=by simp;omega
   have e1:decide (20< (len:Int))=false:=by simp;omega
   obtain⟨b,off,rfl,hlt,hc⟩:=h.2 (by omega);go_enter Tryz.func92,Tryz.ntmps92
   go_wp2
   go_loopw [19] (fun i wr=> ∃k:Nat,k≤len∧i= .int .i64 k∧Below w.heap.size w wr∧ ∀j,j<k→IV ps j=0) (fun i _=>len- (RowKit.intOf i).toNat)
   case atStart=>exact⟨0,Nat.zero_le _,rfl,Below.refl _ _,fun j hj=>by omega⟩
   case round=>
    obtain⟨k,hk,rfl,hB,hall⟩:=hrel;have Hall:=QQ hall;clear hall
    by_cases hkl:k<len
    ·have hP:I8 wr (some ⟨b,off,none⟩) len cap ps:=h.below hB (Nat.le_refl _)
     have q1:=(hB.cell (p:=⟨b,off+k*2,none⟩) hlt).trans (hc k hkl).1;have q2:=(hB.cell (p:=⟨b,off+k*2+1,none⟩) hlt).trans (hc k hkl).2;have HP:=QQ hP;clear hP hc h;generalize hx:(ps.getD k (0,0)).1=x at q1;generalize hy:(ps.getD k (0,0)).2=y at q2;clear hx hy;go_wp2_with fail
     refine(Kl0 _ len cap ps k _ (HP.out.below ((Below.refl wr.heap.size wr).alloc (Nat.le_refl _) _) (Nat.le_refl _)) hkl (by omega)).mono ?_;rintro e w1 ⟨rfl,hB1⟩;have hB2:Below w.heap.size w w1:=(hB.alloc hB.size _).trans (hB1.mono (by simp;have:=hB.size;omega))
     by_cases hz:IV ps k=0
     ·have Hz:=QQ hz
      rw[hz];clear hz;have r0:w1.cell? ⟨wr.heap.size,0,none⟩=some (.int .i64 x):=(hB1.cell (p:=⟨wr.heap.size,0,none⟩) (by simp)).trans (by simp);have r1:w1.cell? ⟨wr.heap.size,1,none⟩=some (.int .i64 y):=(hB1.cell (p:=⟨wr.heap.size,1,none⟩) (by simp)).trans (by simp);go_wp2
      go_roundw
      case rel=>
       refine⟨k+1,by omega,by go_num,hB2,fun j hj=> ?_⟩;rcases Nat.lt_or_eq_of_le (Nat.le_of_lt_succ hj)with h|h
       ·exact Hall.out j h
       ·rw[h];exact Hz.out
      case measure=>simp[RowKit.intOf];omega
     ·have hz':(IV ps k != 0)=true:=Je0 hz
      have Hz:=QQ hz;obtain⟨e,he⟩: ∃e,IV ps k=e:=⟨_,rfl⟩;rw[he]at hz';rw[he];have He:=QQ he;clear hz he;go_wp2;go_ret2;refine⟨hB2.alloc hB2.size _,.inr (.inr (.inl ⟨by omega,by omega,k,by omega,Hall.out,Hz.out,w1.heap.size,rfl,hB2.size, ?_, ?_⟩))⟩
      ·rw[He.out];simp
      ·simp
    ·obtain rfl:k=len:=by omega
     obtain⟨i0,hi0,hz0,hz1,hz2⟩:=info_parts Xq4;have HP:=QQ (h.below hB (Nat.le_refl _));have hsz:=hB.size;have Hlen:=QQ hlen;have Hl:=QQ h.1;clear hc h hlen;go_wp2_with ((with_reducible (refine wpList_append_lies _ rfl (.tmp 36) (.tmp 37) 24 rfl w.heap.size 93 i0 _ 2 16 Tryz.underlying24 hi0 hz0 hz1 hz2 (by with_unfolding_all rfl) (by omega) (.slice (some ⟨wr.heap.size,0,none⟩) 0 0) 0 [] (by with_unfolding_all rfl) (World.ownsRow_made wr #[] 0 hsz (by omega) rfl) ⟨b,off,none⟩ k cap (Y8 ps) (by with_unfolding_all rfl) (by rw[Qg8,Hl.out]) (HP.out.below ((Below.refl wr.heap.size wr).alloc (Nat.le_refl _) _) (Nat.le_refl _)).news (Xb1 ps) (by omega) (by unfold maxLen;omega) (by omega) (by simp;omega) (wr.heap.size+1) (by simp) ?_));intro g cap' w1 hown hgrow hat hlt1)
     go_ret2;have hB1:Below w.heap.size w w1:=(hB.alloc hsz _).grown hgrow (by simp;omega) (fun q hq=>by simp[Value.ownBlock]at hq;omega);simp only[Nat.zero_add,List.nil_append]at hown;have hP1:=(I8.of_own hown).below ((Below.refl w1.heap.size w1).alloc (Nat.le_refl _) (.cells #[.slice (some ⟨g,0,none⟩) k cap'] 186)) (Nat.le_refl _);refine⟨hB1.alloc hB1.size _,.inr (.inr (.inr ⟨by have:=Hl.out;omega,by have:=Hl.out;omega,fun j hj=>Hall.out j (by have:=Hl.out;omega),w1.heap.size,some ⟨g,0,none⟩,cap',rfl,hB1.size,by simp, ?_, ?_⟩))⟩
     ·simp;exact Hl.out.symm
     ·rw[Hl.out]
      refine⟨hP1,fun q hq=> ?_⟩;have e1:g=q:=by simpa [QZ]using hq
      subst e1;have h8:wr.heap.size≤g:=by
       rcases hat with x|x
       ·have:wr.heap.size=g:=by simpa [Value.ownBlock]using x
        omega
       ·omega
      exact⟨by omega,by omega⟩
def Qp4 (ps:List (Int×Int)) (now:Int):Nat→Int×Int
 |0=>(1,-1)
 |k+1=>if(ps.getD k (0,0)).1≤now∨k=0 then((ps.getD k (0,0)).2,if k+1<ps.length then(ps.getD (k+1) (0,0)).1 else -1)else Qp4 ps now k
theorem Zd5 {ps:List (Int×Int)} {now:Int} {k:Nat} (h: ¬(ps.getD k (0,0)).1≤now) (hk:k≠0):Qp4 ps now (k+1)=Qp4 ps now k:=by
 simp only[Qp4];rw[if_neg (by omega)]
theorem Zd6 {ps:List (Int×Int)} {now:Int} {k:Nat} (h:(ps.getD k (0,0)).1≤now∨k=0) (hk:k+1<ps.length):Qp4 ps now (k+1)=((ps.getD k (0,0)).2,(ps.getD (k+1) (0,0)).1):=by
 simp only[Qp4];rw[if_pos h,if_pos hk]
theorem Kl1 {ps:List (Int×Int)} {now:Int} {k:Nat} (h:(ps.getD k (0,0)).1≤now∨k=0) (hk: ¬k+1<ps.length):Qp4 ps now (k+1)=((ps.getD k (0,0)).2,-1):=by
 simp only[Qp4];rw[if_pos h,if_neg hk]
theorem Kl2 (t:Nat) (A:Option Addr) (len cap:Nat) (ps:List (Int×Int)) (now:Int) (w:World) (ht:t<w.heap.size) (h:I8 w A len cap ps) (hc:w.cell? ⟨t,0,none⟩=some (.slice A len cap)) (h0:0<len) (hm:len≤20):
  Calls Tryz.prog 83 #[.pointer (some ⟨t,0,none⟩),.int .i64 now] w fun e w'=>e= .returned (.tuple #[.int .i64 (Qp4 ps now len).1,.int .i64 (Qp4 ps now len).2])∧Below w.heap.size w w':=by
 obtain⟨b,off,rfl,hlt,_⟩:=h.2 h0
 have hlen:=QQ h.1
 go_enter Tryz.func83,Tryz.ntmps83
 go_wp2
 go_loopw [4,5,13] (fun p n i wr=> ∃k:Nat,k≤len∧i= .int .i64 k∧p= .int .i64 (Qp4 ps now k).1∧n= .int .i64 (Qp4 ps now k).2∧Below w.heap.size w wr) (fun _ _ i _=>len- (RowKit.intOf i).toNat)
 case atStart=>exact⟨0,Nat.zero_le _,rfl,rfl,rfl,Below.refl _ _⟩
 case round=>
  obtain⟨k,hk,rfl,rfl,rfl,hB⟩:=hrel
  by_cases hkl:k<len
  ·have hcr: ∀o,(wr.alloc o).cell? ⟨t,0,none⟩=some (.slice (some ⟨b,off,none⟩) len cap):=fun o=>(World.cell?_alloc_lt _ _ _ (Nat.lt_of_lt_of_le ht hB.size)).trans ((hB.cell (p:=⟨t,0,none⟩) ht).trans hc)
   have q1:=(hB.cell (p:=⟨b,off+k*2,none⟩) hlt).trans (h.at_ hkl).1;have q2:=(hB.cell (p:=⟨b,off+k*2+1,none⟩) hlt).trans (h.at_ hkl).2;have Hno:=fun a b=>QQ (Zd5 (ps:=ps) (now:=now) (k:=k) a b)
   have Hin:=fun a b=>QQ (Zd6 (ps:=ps) (now:=now) (k:=k) a b)
   have Hla:=fun a b=>QQ (Kl1 (ps:=ps) (now:=now) (k:=k) a b)
   have Hq:=QQ h;generalize Qp4 ps now k=pk at*;have Hq3: ∀h1:k+1<len,wr.cell? ⟨b,off+ (k+1)*2,none⟩=some (.int .i64 (ps.getD (k+1) (0,0)).1):=fun h1=>(hB.cell (p:=⟨b,off+ (k+1)*2,none⟩) hlt).trans (Hq.out.at_ h1).1
   clear h hc;generalize(ps.getD k (0,0)).1=x at*;generalize(ps.getD k (0,0)).2=y at*;generalize(ps.getD (k+1) (0,0)).1=z at*
   by_cases h1:k+1<len
   ·have q3: ∀o,(wr.alloc o).cell? ⟨b,off+ (k+1)*2,none⟩=some (.int .i64 z):=fun o=>(World.cell?_alloc_lt _ _ _ (Nat.lt_of_lt_of_le hlt hB.size)).trans (Hq3 h1)
    clear Hq3
    by_cases hx:x≤now
    ·have P:=Hin (Or.inl hx) (by have:=hlen.out;omega)
     clear Hin Hno Hla;go_wp2
     go_roundw
     case rel=>exact⟨k+1,by omega,by go_num,by rw[P.out],by rw[P.out],hB.alloc hB.size _⟩
     case measure=>simp[RowKit.intOf];omega
    ·have dx:decide (x≤now)=false:=OY hx
     by_cases h0':k=0
     ·have P:=Hin (Or.inr h0') (by have:=hlen.out;omega)
      have z0:((k:Int) ==0)=true:=Z2 (by omega);clear Hin Hno Hla h0';go_wp2
      go_roundw
      case rel=>exact⟨k+1,by omega,by go_num,by rw[P.out],by rw[P.out],hB.alloc hB.size _⟩
      case measure=>simp[RowKit.intOf];omega
     ·have P:=Hno hx h0'
      have z0:((k:Int) ==0)=false:=YW (by omega);clear Hin Hno Hla;go_wp2
      go_roundw
      case rel=>exact⟨k+1,by omega,by go_num,by rw[P.out],by rw[P.out],hB.alloc hB.size _⟩
      case measure=>simp[RowKit.intOf];omega
   ·have d1:decide ((k:Int)+1< (len:Int))=false:=OY (by omega)
    clear Hq3
    by_cases hx:x≤now
    ·have P:=Hla (Or.inl hx) (by have:=hlen.out;omega)
     clear Hin Hno Hla;go_wp2
     go_roundw
     case rel=>exact⟨k+1,by omega,by go_num,by rw[P.out],by rw[P.out],hB.alloc hB.size _⟩
     case measure=>simp[RowKit.intOf];omega
    ·have dx:decide (x≤now)=false:=OY hx
     by_cases h0':k=0
     ·have P:=Hla (Or.inr h0') (by have:=hlen.out;omega)
      have z0:((k:Int) ==0)=true:=Z2 (by omega);clear Hin Hno Hla h0';go_wp2
      go_roundw
      case rel=>exact⟨k+1,by omega,by go_num,by rw[P.out],by rw[P.out],hB.alloc hB.size _⟩
      case measure=>simp[RowKit.intOf];omega
     ·have P:=Hno hx h0'
      have z0:((k:Int) ==0)=false:=YW (by omega);clear Hin Hno Hla;go_wp2
      go_roundw
      case rel=>exact⟨k+1,by omega,by go_num,by rw[P.out],by rw[P.out],hB.alloc hB.size _⟩
      case measure=>simp[RowKit.intOf];omega
  ·obtain rfl:k=len:=by omega
   go_wp2;go_ret2;exact⟨rfl,hB⟩
end Go.Proofs.YtbmiieehkkfbgaaGreatDoor
namespace Go.Proofs.YtbmiieehkkfbgaaGreatDoor
open Go Go.RowKit Go.Shelf
structure Qk7 (w:World):Prop where
  err:Qk4 w
  pow : Lib.TabIs Tryz.prog w "internal/strconv.uint64pow10" .u64 Lib.pow10Tab
  stx : ∃ tp p, w.var? Tryz.prog "strconv.ErrSyntax" = some #[.iface tp p]
  rng : ∃ tp p, w.var? Tryz.prog "strconv.ErrRange" = some #[.iface tp p]
theorem Ku3 : Tryz.prog.globalNamed "internal/strconv.uint64pow10" = some 4 := by kernel_rfl
theorem Ku4 : Tryz.prog.globalNamed "strconv.ErrSyntax" = some 7 := by kernel_rfl
theorem Ku5 : Tryz.prog.globalNamed "strconv.ErrRange" = some 8 := by kernel_rfl
theorem Qk7.below {w w':World} {B:Nat} (h:Qk7 w) (hb:Below B w w') (hB:9≤B):Qk7 w':=by
  obtain⟨h1,h2,⟨a,b,h3⟩,⟨c,d,h4⟩⟩:=h;exact⟨(hb.cell (p:=⟨3,0,none⟩) (Nat.lt_of_lt_of_le (by decide) hB)).trans h1,var?_below hb Ku3 (Nat.lt_of_lt_of_le (by decide) hB) h2,⟨a,b,var?_below hb Ku4 (Nat.lt_of_lt_of_le (by decide) hB) h3⟩,⟨c,d,var?_below hb Ku5 (Nat.lt_of_lt_of_le (by decide) hB) h4⟩⟩
theorem Xj1:Builder.Extra Tryz.prog laysD156_ren where
  sizeBuilder:=by kernel_rfl
  liesBuilder:=by kernel_rfl
  t5:=Tryz.underlying5
  a5:=Tryz.isAgg5
  z5:=Tryz.sizeOf5
  v5:=Tryz.zeroValue5
  infoByte:=by kernel_rfl
  cellsByte:=by kernel_rfl
  sizeByte:=by kernel_rfl
  neB5:=by decide
theorem Zm8 (B b:Nat) (bs:List Value) (s:ByteArray) (w:World) (h:Lib.IsBuilderF 33 5 B b bs w) (hlen:bs.length+s.size≤140737488355328) (hBw:B≤w.heap.size):
    Calls Tryz.prog 7 #[.pointer (some ⟨b,0,none⟩),.string s] w fun e w'=>e= .returned (.tuple #[.int .i64 s.size,.nilIface])∧(Lib.BuilderAtF 33 5 B b (.pointer (some ⟨b,0,none⟩)) (bs++Lib.strCells s) w'∧Below B w w'∧Lib.OthersKept 5 (some b) w w'):=
  Any.Builder_WriteString_k (P:=Tryz.prog) (ρ:=laysD156_ren) {laysD156 with} Xj1 B b bs s w h hlen hBw
theorem Zm5 (B b:Nat) (l:List UInt8) (w:World) (h:Lib.IsBuilderF 33 5 B b (Lib.byteCells l) w) (hBw:B≤w.heap.size):
    Calls Tryz.prog 9 #[.pointer (some ⟨b,0,none⟩)] w fun e w'=>e= .returned (.string ⟨l.toArray⟩)∧(Lib.IsBuilderF 33 5 B b (Lib.byteCells l) w'∧Below B w w'∧Lib.OthersKept 5 (some b) w w'):=
  Any.Builder_String_any_k (P:=Tryz.prog) (ρ:=laysD156_ren) {laysD156 with} Xj1 B b l w h hBw
theorem Zn3 (s p:ByteArray) (w:World) (hs:s.size≤9223372036854775807):
    Calls Tryz.prog 6 #[.string s,.string p] w fun e w'=>e= .returned (.string ⟨(Lib.trimSuffix s.data.toList p.data.toList).toArray⟩)∧w'=w:=
  Any.strings_TrimSuffix (P:=Tryz.prog) (ρ:=laysD102_ren) laysD102 s p w hs
theorem Zm9 (s:ByteArray) (c:UInt8) (w:World):
    Calls Tryz.prog 21 #[.string s,.string ⟨#[c]⟩] w fun e w'=>e= .returned (.int .i64 (Lib.indexByte s.data.toList c))∧w'=w:=
  Any.strings_Index_one (P:=Tryz.prog) (ρ:=laysD143_ren) laysD143 s c w
theorem Xq5 (n:Int) (hn: -9223372036854775808≤n∧n≤9223372036854775807) (w:World) (hg:Qk7 w):
    Calls Tryz.prog 14 #[.int .i64 n] w fun e w'=>e= .returned (.string ⟨(Lib.itoa n).toArray⟩)∧Below w.heap.size w w':=by
  refine(Any.strconv_Itoa (P:=Tryz.prog) (ρ:=laysDM171_ren) laysDM171 n hn.1 hn.2 w hg.pow).mono ?_;rintro e w' ⟨rfl,k,os,rfl⟩;exact⟨rfl,⟨rfl,rfl,rfl,by simp[Go.Sort.grow],fun i hi=>by show(w.heap++os)[i]?=_;exact Array.getElem?_append_left hi⟩⟩
theorem Zg9 (s:ByteArray) (hs:s.size≤281474976710656) (w:World) (hg:Qk7 w):
    Calls Tryz.prog 74 #[.string s] w fun e w'=>Below w.heap.size w w'∧
      ((∃v,Lib.atoiAll s.data.toList= .ok v∧e= .returned (.tuple #[.int .i64 v,.nilIface]))∨
       ((∀v,Lib.atoiAll s.data.toList≠ .ok v)∧ ∃k u x,e= .returned (.tuple #[.int .i64 k,.iface u x]))):=by
  cases h:Lib.atoiAll s.data.toList with
  |ok v=>
    refine(Any.strconv_Atoi_ok (P:=Tryz.prog) (ρ:=laysDC172_ren) laysDC172 s (by omega) v h w).mono ?_;rintro e w' ⟨rfl,h1⟩;refine⟨?_,.inl ⟨v,rfl,rfl⟩⟩;rcases h1 with rfl|⟨t,rfl⟩
    ·exact Below.refl _ _
    ·exact Lib.bytesWorld_below _ _ _
  |range=>
    obtain⟨tp,p,hv⟩:=hg.rng;refine(Any.strconv_Atoi_range_var (P:=Tryz.prog) (ρ:=laysDC172_ren) laysDC172 s hs h tp p w hv).mono ?_;rintro e w' ⟨N,rfl,h1,h2,h3⟩;exact⟨h3,.inr ⟨fun v hv=>(by cases hv),_,_,_,rfl⟩⟩
  |_=>
    obtain⟨tp,p,hv⟩:=hg.stx;refine(Any.strconv_Atoi_syntax_var (P:=Tryz.prog) (ρ:=laysDC172_ren) laysDC172 s hs h tp p w hv).mono ?_;rintro e w' ⟨N,rfl,h1,h2,h3⟩;exact⟨h3,.inr ⟨fun v hv=>(by cases hv),_,_,_,rfl⟩⟩
theorem Ku6 (A:Option Addr) (c:Nat) (xs:List ByteArray) (sep:ByteArray) (w:World) (hR:QW w A xs.length c 9 1 (xs.map Value.string))
    (hlen:(Lib.join (xs.map (·.data.toList)) sep.data.toList).length≤140737488355328) (hN:xs.length≤140737488355328):
    Calls Tryz.prog 76 #[.slice A xs.length c,.string sep] w fun e w'=>e= .returned (.string ⟨(Lib.join (xs.map (·.data.toList)) sep.data.toList).toArray⟩)∧Below w.heap.size w w':=by
  cases xs with
  |nil=>
    refine(Any.strings_Join_none (P:=Tryz.prog) (ρ:=laysD156_ren) laysD156 Xj1 A c sep w).mono ?_;rintro e w' ⟨rfl,rfl⟩;exact⟨rfl,Below.refl _ _⟩
  |cons x xs=>
    obtain⟨b,hA,hb⟩: ∃b,A=some ⟨b,0,none⟩∧b<w.heap.size:=by
      obtain⟨b,hA,-⟩:=QW.cell hR (j:=0) (u:= .string x) rfl;exact⟨b,hA,hR.lt (by rw[hA];rfl)⟩
    subst hA;refine(Any.strings_Join (P:=Tryz.prog) (ρ:=laysD156_ren) laysD156 Xj1 b 0 c (x::xs) sep w (fun j y hy=> ?_) hb hN hR.cap.1 hlen);obtain⟨b',hA,hc⟩:=QW.cell hR (j:=j) (u:= .string y) (by rw[List.getElem?_map,hy];rfl)
    cases hA;rw[Nat.zero_add];exact hc
end Go.Proofs.YtbmiieehkkfbgaaGreatDoor
