/-
  The walk of desk.line: a line is answered.
-/
import Derived.Test.YtbmiieehkkfbgaaGreatDoorZd46
import Derived.Test.YtbmiieehkkfbgaaGreatDoorZd42
set_option linter.unusedVariables false
set_option maxRecDepth 100000
set_option maxHeartbeats 8000000
namespace Go.Proofs.YtbmiieehkkfbgaaGreatDoor
open Go Go.RowKit
structure LIn (w:World) (d:Nat) (G:Nat→Prop) (k:Nat) (s:DS) (t:ByteArray):Prop where
 desk:J1 w d G k s
 glob:Qk7 w
 size:9≤w.heap.size
 gs: ∀i,G i→9≤i
 t:t.size≤30000
 k:k≤100000
def Zm3 (w:World) (d:Nat) (G:Nat→Prop) (k:Nat) (r:DS×Byt) (e:Ending) (w':World):Prop:=
 e= .returned (.string ⟨r.2.toArray⟩)∧r.2.length≤10000000000∧Qc6 w w' d G (k+1) r.1
theorem Xn4 {n:Int} (hn:KZ n):(Jz7 n).length≤10000000000:=by
 have:=Lib.itoa_length_le n hn.1 hn.2
 unfold Jz7
 rw[List.length_append]
 simp only[List.length_cons,List.length_nil]
 omega
section
variable {w:World} {d k:Nat} {G:Nat→Prop} {s:DS} {t:ByteArray}
theorem LIn.min (h:LIn w d G k s t) {w1:World} (hb:Below w.heap.size w w1) {A:Option Addr} {c:ByteArray} {ws:List ByteArray} (hw:Lib.goFieldsP Qg5 t=c::ws) (hC:OZ w1 A (ws.map Value.string)) {n1:Nat} (hn:ws.length=n1):
  MIn w1 d G k s A n1 ws:=by
 refine⟨h.desk.below hb,h.glob.below hb h.size,Nat.le_trans h.size hb.size,h.gs,hC,hn,fun x hx=> ?_, ?_,h.k⟩
 ·have:=Xx2 Qg5 t x (by rw[hw];exact List.mem_cons_of_mem _ hx)
  have:=h.t;omega
 ·have:=Xh9 Qg5 t
  rw[hw,List.length_cons]at this;have:=h.t;omega
theorem Xa7 {w1:World} {A:Nat} {v:Value} {vs:List Value} (h:OZ w1 (some ⟨A,0,none⟩) (v::vs)):OZ w1 (some ⟨A,1,none⟩) vs:=fun j v hv=>by
 obtain⟨b,o,h1,h2⟩:=h (j+1) v (by simpa using hv)
 cases h1
 exact⟨A,1,rfl,by rw[Nat.zero_add]at h2;rw[Nat.add_comm 1 j];exact h2⟩
theorem J1.lt (h:J1 w d G k s): ∀i,G i→i<w.heap.size:=fun i hi=>by
 cases he:s.e with
 |none=>
  obtain⟨A,c,h1,h2,-,h4⟩:=h.n he;rcases(h4 i).1 hi with e|e
  ·rw[e];exact h1.lt
  ·exact h2.lt e
 |some m=>
  obtain⟨v0,v1,v2,v3,v4,v5,e,F,h1,h2,-,h4⟩:=(h.e he).1;rcases(h4 i).1 hi with e|e
  ·rw[e];exact h1.lt
  ·exact h2.lt e
theorem J1.keeps {w':World} {S:Nat→Prop} (h:J1 w d G k s) (hk:QK S w w') (hS: ∀i,G i→ ¬S i):J1 w' d G k s:=by
 cases he:s.e with
 |none=>
  obtain⟨A,c,h1,h2,h3,h4⟩:=h.n he;exact Ja3.at_ ⟨A,c,QJ.keeps h1 hk (hS d ((h4 d).2 (.inl rfl))),h2.keeps hk (fun g hg=>hS g ((h4 g).2 (.inr hg))),h3,h4⟩ he
 |some m=>
  obtain⟨v0,v1,v2,v3,v4,v5,e,F,h1,h2,h3,h4⟩:=(h.e he).1;exact Qs5.at_ ⟨v0,v1,v2,v3,v4,v5,e,F,QJ.keeps h1 hk (hS d ((h4 d).2 (.inl rfl))),h2.keeps hk (fun g hg=>hS g ((h4 g).2 (.inr hg))),h3,h4⟩ (h.e he).2 he
theorem Qc6.own {w2 w3 w4:World} {p:Nat} (hb:Below w.heap.size w w2) (h:Qc6 w2 w3 d G k s) (hp:w.heap.size≤p) (hp2:p<w2.heap.size) (hG: ∀i,G i→i<w.heap.size) (hk:QK (fun i=>i=p) w3 w4):Qc6 w w4 d G k s:=by
 obtain⟨G',h1,h2,h3⟩:=h
 refine⟨G',h1.keeps hk (fun i hi e=> ?_),((QK.after hb h2).trans hk (fun i hi=> .inr (by rw[hi];exact hp))),fun i hi=>(h3 i hi).imp id (fun x=>Nat.le_trans hb.size x)⟩
 rcases h3 i hi with e1|e1
 ·have:=hG i e1;omega
 ·omega
end
theorem Zm4 {w:World} {d k:Nat} {G:Nat→Prop} {s:DS} {t:ByteArray} (h:LIn w d G k s t):
  Calls Tryz.prog 8 #[.pointer (some ⟨d,0,none⟩),.string t] w (Zm3 w d G k (Ja0 s t)):=by
 have H:=QQ h
 have hmf: ∀(fn:Fn) (first cap:Array Value) (w:World),(Instr.makeFunc fn first cap).run Tryz.prog w= .ok (.func fn first cap) w:=fun _ _ _ _=>rfl
 have hb0:Below w.heap.size w (w.alloc (.cells #[.string ⟨#[]⟩] 9)):=(Below.refl _ w).alloc (Nat.le_refl _) _
 have HB0:=QQ hb0
 have HFl:=QQ (Kg0 t (by have:=h.t;omega) (w.alloc (.cells #[.string ⟨#[]⟩] 9)))
 clear h hb0
 cases hw:Lib.goFieldsP Qg5 t with
 |nil=>
  rw[hw]at HFl;have HP:=QQ (show Ja0 s t=(s,[111,107]) by unfold Ja0;rw[hw];rfl)
  go_enter_defers Tryz.func8,Tryz.ntmps8
  go_wp2_with (go_at_call 15;refine HFl.out.mono ?_;rintro e w1 ⟨A,rfl,hC,hB1⟩;have hc1:w1.cell? ⟨w.heap.size,0,none⟩=some (.string ⟨#[]⟩):=(hB1.cell (p:=⟨w.heap.size,0,none⟩) (by simp)).trans (by simp);have hf1:w1.frozen? ⟨w.heap.size,0,none⟩=false:=(hB1.frozen (p:=⟨w.heap.size,0,none⟩) (by simp)).trans (by simp);have hwl:w.heap.size<w1.heap.size:=(by have:=hB1.size;simp at this;omega);have HB1:=QQ (HB0.out.trans (hB1.mono HB0.out.size));clear hC hB1)
  refine leaves_cons (f:=13) (args:= #[.pointer (some ⟨w.heap.size,0,none⟩)]) (by simp) (by simp[go_sem]) ?_;refine(Jg0 ⟨w.heap.size,0,none⟩ _).mono ?_;rintro e u' w2 ⟨rfl,rfl,rfl⟩;have hr:(w1.setCell ⟨w.heap.size,0,none⟩ (.string ⟨#[111,107]⟩)).cell? ⟨w.heap.size,0,none⟩=some (.string ⟨#[111,107]⟩):=World.cell?_setCell_same w1 _ _ hc1;refine⟨.string ⟨#[111,107]⟩,by simp[results,Tryz.results8,go_sem,hr], ?_⟩;rw[HP.out];exact⟨rfl,by show([111,107]:Byt).length≤10000000000;decide,H.out.desk.to (HB1.out.setCell (p:=⟨w.heap.size,0,none⟩) (Nat.le_refl _) _)⟩
 |cons c ws=>
  rw[hw]at HFl;obtain⟨n1,hn1⟩: ∃n1,ws.length=n1:=⟨_,rfl⟩;have HN1:=QQ hn1;rw[List.length_cons,hn1]at HFl;have hnz:((n1:Int)+1 ==0)=false:=YW (by omega);have hn1b:n1≤100000:=by
   have:=Xh9 Qg5 t;rw[hw,List.length_cons]at this;have:=H.out.t;omega
  have HDo:=QQ (fun W=>Zb2 d c W)
  by_cases hi:Qj4 c<18
  ·have HP0:=QQ (show Ja0 s t=(((Xh7.getD (Qj4 c) Qw1) s ws).1,Zm0 ((Xh7.getD (Qj4 c) Qw1) s ws).2) by unfold Ja0;rw[hw];exact if_pos hi)
   have henter:=Kf8 (Qj4 c) hi;have HAll:=QQ (fun(A:Option Addr) (c0:Nat) (W:World) (hW:Below w.heap.size w W) (hC:OZ W A (ws.map Value.string))=>Zc3 (H.out.min hW hw hC hn1) c0 (Qj4 c) hi);obtain⟨r,hr⟩: ∃r,(Xh7.getD (Qj4 c) Qw1) s ws=r:=⟨_,rfl⟩;rw[hr]at HP0;simp only[hr]at HAll;obtain⟨K,hK⟩: ∃K,Xa1.getD (Qj4 c) 0=K:=⟨_,rfl⟩;have HV:=QQ (show fnV d (Qj4 c)= .func (.func K) #[.pointer (some ⟨d,0,none⟩)] #[] by unfold fnV;rw[if_pos hi,hK]);rw[hK]at henter HAll;have hfe: ∀w:World,(binOp BinOp.eql 53 (.func (.func K) #[.pointer (some ⟨d,0,none⟩)] #[]) .nilFunc).run Tryz.prog w= .ok (.bool false) w:=fun _=>by kernel_rfl
   have hGl:=QQ H.out.desk.lt;clear hi hr hK hn1
   by_cases h0:n1=0
   ·have hws:ws= []:=List.length_eq_zero_iff.1 (HN1.out.trans h0)
    cases hra:r.2 with
    |ok x=>
     go_enter_defers Tryz.func8,Tryz.ntmps8
     go_wp2_with (first
      |(go_at_call 15;refine HFl.out.mono ?_;rintro e w1 ⟨A,rfl,hC,hB1⟩;have hc1:w1.cell? ⟨w.heap.size,0,none⟩=some (.string ⟨#[]⟩):=(hB1.cell (p:=⟨w.heap.size,0,none⟩) (by simp)).trans (by simp);have hf1:w1.frozen? ⟨w.heap.size,0,none⟩=false:=(hB1.frozen (p:=⟨w.heap.size,0,none⟩) (by simp)).trans (by simp);have hwl:w.heap.size<w1.heap.size:=(by have:=hB1.size;simp at this;omega);have HB1:=QQ (HB0.out.trans (hB1.mono HB0.out.size));have HC:=QQ hC;obtain⟨bA,oA,hA0,hw0⟩:=hC 0 _ rfl;cases hA0;replace hw0:w1.cell? ⟨A,0,none⟩=some (.string c):=hw0;clear hC hB1)
      |(go_at_call 17;refine(HDo.out _).mono ?_;rintro e w2 ⟨rfl,hB2⟩;rw[HV.out];have HB2:=QQ (HB1.out.trans (hB2.mono HB1.out.size));have HC2:=QQ (HC.out.below hB2);have hc2:w2.cell? ⟨w.heap.size,0,none⟩=some (.string ⟨#[]⟩):=(hB2.cell (p:=⟨w.heap.size,0,none⟩) hwl).trans hc1;have hf2:w2.frozen? ⟨w.heap.size,0,none⟩=false:=(hB2.frozen (p:=⟨w.heap.size,0,none⟩) hwl).trans hf1;have HL2:=QQ (Nat.lt_of_lt_of_le hwl hB2.size);clear hc1 hf1 hB2))
     refine(show Calls Tryz.prog K #[.pointer (some ⟨d,0,none⟩),.slice (some ⟨A,0,none⟩) 0 0] w2 (Qb6 w2 d G k r)from h0▸HAll.out (some ⟨A,0,none⟩) 0 w2 HB2.out (by rw[hws];exact fun j v hv=>by cases hv)).mono ?_;rintro ev w3 ⟨hev,hao,hdt⟩;replace hev:=hev.trans (congrArg Kr2 hra);rw[hra]at hao;have hkp:QK G w2 w3:=by obtain⟨G',-,h1,-⟩:=hdt;exact h1
     have hng: ¬G w.heap.size:=fun h=>by have:=hGl.out _ h;omega
     have hc3:w3.cell? ⟨w.heap.size,0,none⟩=some (.string ⟨#[]⟩):=(hkp.cell (p:=⟨w.heap.size,0,none⟩) HL2.out hng).trans hc2;have hf3:w3.frozen? ⟨w.heap.size,0,none⟩=false:=(hkp.frozen (p:=⟨w.heap.size,0,none⟩) HL2.out hng).trans hf2;change ev= .returned (.string ⟨x.toArray⟩)at hev;subst hev;have HDT:=QQ hdt;clear hdt hkp hng;go_wp2_with fail
     refine leaves_cons (f:=13) (args:= #[.pointer (some ⟨w.heap.size,0,none⟩)]) (by simp) (by simp[go_sem]) ?_;refine(Jg0 ⟨w.heap.size,0,none⟩ _).mono ?_;rintro e u' w4 ⟨rfl,rfl,rfl⟩;have hrd:(w3.setCell ⟨w.heap.size,0,none⟩ (.string ⟨x.toArray⟩)).cell? ⟨w.heap.size,0,none⟩=some (.string ⟨x.toArray⟩):=World.cell?_setCell_same w3 _ _ hc3;refine⟨.string ⟨x.toArray⟩,by simp[results,Tryz.results8,go_sem,hrd], ?_⟩;rw[HP0.out,hra];exact⟨rfl,hao,HDT.out.own HB2.out (Nat.le_refl _) HL2.out hGl.out (QK.set_ w3 ⟨w.heap.size,0,none⟩ _)⟩
    |bad x=>
     go_enter_defers Tryz.func8,Tryz.ntmps8
     go_wp2_with (first
      |(go_at_call 15;refine HFl.out.mono ?_;rintro e w1 ⟨A,rfl,hC,hB1⟩;have hc1:w1.cell? ⟨w.heap.size,0,none⟩=some (.string ⟨#[]⟩):=(hB1.cell (p:=⟨w.heap.size,0,none⟩) (by simp)).trans (by simp);have hf1:w1.frozen? ⟨w.heap.size,0,none⟩=false:=(hB1.frozen (p:=⟨w.heap.size,0,none⟩) (by simp)).trans (by simp);have hwl:w.heap.size<w1.heap.size:=(by have:=hB1.size;simp at this;omega);have HB1:=QQ (HB0.out.trans (hB1.mono HB0.out.size));have HC:=QQ hC;obtain⟨bA,oA,hA0,hw0⟩:=hC 0 _ rfl;cases hA0;replace hw0:w1.cell? ⟨A,0,none⟩=some (.string c):=hw0;clear hC hB1)
      |(go_at_call 17;refine(HDo.out _).mono ?_;rintro e w2 ⟨rfl,hB2⟩;rw[HV.out];have HB2:=QQ (HB1.out.trans (hB2.mono HB1.out.size));have HC2:=QQ (HC.out.below hB2);have hc2:w2.cell? ⟨w.heap.size,0,none⟩=some (.string ⟨#[]⟩):=(hB2.cell (p:=⟨w.heap.size,0,none⟩) hwl).trans hc1;have hf2:w2.frozen? ⟨w.heap.size,0,none⟩=false:=(hB2.frozen (p:=⟨w.heap.size,0,none⟩) hwl).trans hf1;have HL2:=QQ (Nat.lt_of_lt_of_le hwl hB2.size);clear hc1 hf1 hB2))
     refine(show Calls Tryz.prog K #[.pointer (some ⟨d,0,none⟩),.slice (some ⟨A,0,none⟩) 0 0] w2 (Qb6 w2 d G k r)from h0▸HAll.out (some ⟨A,0,none⟩) 0 w2 HB2.out (by rw[hws];exact fun j v hv=>by cases hv)).mono ?_;rintro ev w3 ⟨hev,hao,hdt⟩;replace hev:=hev.trans (congrArg Kr2 hra);rw[hra]at hao;have hkp:QK G w2 w3:=by obtain⟨G',-,h1,-⟩:=hdt;exact h1
     have hng: ¬G w.heap.size:=fun h=>by have:=hGl.out _ h;omega
     have hc3:w3.cell? ⟨w.heap.size,0,none⟩=some (.string ⟨#[]⟩):=(hkp.cell (p:=⟨w.heap.size,0,none⟩) HL2.out hng).trans hc2;have hf3:w3.frozen? ⟨w.heap.size,0,none⟩=false:=(hkp.frozen (p:=⟨w.heap.size,0,none⟩) HL2.out hng).trans hf2;change ev= .panicked [{v:= .iface 47 (.agg #[.int .i64 x]),recovered:=false}]at hev;subst hev;refine leaves_cons (f:=13) (args:= #[.pointer (some ⟨w.heap.size,0,none⟩)]) (by simp) (by simp[go_sem]) ?_;have hg3:=Jn1 (H.out.glob.below HB2.out H.out.size) ⟨hkp,hdt.choose_spec.2.2⟩ H.out.gs (Nat.le_trans H.out.size HB2.out.size);refine(Jm9 w.heap.size x hao _ [] w3 hg3 (Nat.le_trans H.out.size (Nat.le_trans HB2.out.size hkp.size)) hc3 hf3).mono ?_;rintro e u' w4 ⟨rfl,rfl,hrd,hk4⟩;refine⟨.string ⟨(Jz7 x).toArray⟩,by simp[results,Tryz.results8,go_sem,hrd], ?_⟩;rw[HP0.out,hra];exact⟨rfl,Xn4 hao,hdt.own HB2.out (Nat.le_refl _) HL2.out hGl.out hk4⟩
   ·have hn1z:(1:Int)≤(n1:Int):=by omega
    cases hra:r.2 with
    |ok x=>
     go_enter_defers Tryz.func8,Tryz.ntmps8
     go_wp2_with (first
      |(go_at_call 15;refine HFl.out.mono ?_;rintro e w1 ⟨A,rfl,hC,hB1⟩;have hc1:w1.cell? ⟨w.heap.size,0,none⟩=some (.string ⟨#[]⟩):=(hB1.cell (p:=⟨w.heap.size,0,none⟩) (by simp)).trans (by simp);have hf1:w1.frozen? ⟨w.heap.size,0,none⟩=false:=(hB1.frozen (p:=⟨w.heap.size,0,none⟩) (by simp)).trans (by simp);have hwl:w.heap.size<w1.heap.size:=(by have:=hB1.size;simp at this;omega);have HB1:=QQ (HB0.out.trans (hB1.mono HB0.out.size));have HC:=QQ hC;obtain⟨bA,oA,hA0,hw0⟩:=hC 0 _ rfl;cases hA0;replace hw0:w1.cell? ⟨A,0,none⟩=some (.string c):=hw0;clear hC hB1)
      |(go_at_call 17;refine(HDo.out _).mono ?_;rintro e w2 ⟨rfl,hB2⟩;rw[HV.out];have HB2:=QQ (HB1.out.trans (hB2.mono HB1.out.size));have HC2:=QQ (HC.out.below hB2);have hc2:w2.cell? ⟨w.heap.size,0,none⟩=some (.string ⟨#[]⟩):=(hB2.cell (p:=⟨w.heap.size,0,none⟩) hwl).trans hc1;have hf2:w2.frozen? ⟨w.heap.size,0,none⟩=false:=(hB2.frozen (p:=⟨w.heap.size,0,none⟩) hwl).trans hf1;have HL2:=QQ (Nat.lt_of_lt_of_le hwl hB2.size);clear hc1 hf1 hB2))
     refine(HAll.out (some ⟨A,1,none⟩) n1 w2 HB2.out (Xa7 HC2.out)).mono ?_;rintro ev w3 ⟨hev,hao,hdt⟩;replace hev:=hev.trans (congrArg Kr2 hra);rw[hra]at hao;have hkp:QK G w2 w3:=by obtain⟨G',-,h1,-⟩:=hdt;exact h1
     have hng: ¬G w.heap.size:=fun h=>by have:=hGl.out _ h;omega
     have hc3:w3.cell? ⟨w.heap.size,0,none⟩=some (.string ⟨#[]⟩):=(hkp.cell (p:=⟨w.heap.size,0,none⟩) HL2.out hng).trans hc2;have hf3:w3.frozen? ⟨w.heap.size,0,none⟩=false:=(hkp.frozen (p:=⟨w.heap.size,0,none⟩) HL2.out hng).trans hf2;change ev= .returned (.string ⟨x.toArray⟩)at hev;subst hev;have HDT:=QQ hdt;clear hdt hkp hng;go_wp2_with fail
     refine leaves_cons (f:=13) (args:= #[.pointer (some ⟨w.heap.size,0,none⟩)]) (by simp) (by simp[go_sem]) ?_;refine(Jg0 ⟨w.heap.size,0,none⟩ _).mono ?_;rintro e u' w4 ⟨rfl,rfl,rfl⟩;have hrd:(w3.setCell ⟨w.heap.size,0,none⟩ (.string ⟨x.toArray⟩)).cell? ⟨w.heap.size,0,none⟩=some (.string ⟨x.toArray⟩):=World.cell?_setCell_same w3 _ _ hc3;refine⟨.string ⟨x.toArray⟩,by simp[results,Tryz.results8,go_sem,hrd], ?_⟩;rw[HP0.out,hra];exact⟨rfl,hao,HDT.out.own HB2.out (Nat.le_refl _) HL2.out hGl.out (QK.set_ w3 ⟨w.heap.size,0,none⟩ _)⟩
    |bad x=>
     go_enter_defers Tryz.func8,Tryz.ntmps8
     go_wp2_with (first
      |(go_at_call 15;refine HFl.out.mono ?_;rintro e w1 ⟨A,rfl,hC,hB1⟩;have hc1:w1.cell? ⟨w.heap.size,0,none⟩=some (.string ⟨#[]⟩):=(hB1.cell (p:=⟨w.heap.size,0,none⟩) (by simp)).trans (by simp);have hf1:w1.frozen? ⟨w.heap.size,0,none⟩=false:=(hB1.frozen (p:=⟨w.heap.size,0,none⟩) (by simp)).trans (by simp);have hwl:w.heap.size<w1.heap.size:=(by have:=hB1.size;simp at this;omega);have HB1:=QQ (HB0.out.trans (hB1.mono HB0.out.size));have HC:=QQ hC;obtain⟨bA,oA,hA0,hw0⟩:=hC 0 _ rfl;cases hA0;replace hw0:w1.cell? ⟨A,0,none⟩=some (.string c):=hw0;clear hC hB1)
      |(go_at_call 17;refine(HDo.out _).mono ?_;rintro e w2 ⟨rfl,hB2⟩;rw[HV.out];have HB2:=QQ (HB1.out.trans (hB2.mono HB1.out.size));have HC2:=QQ (HC.out.below hB2);have hc2:w2.cell? ⟨w.heap.size,0,none⟩=some (.string ⟨#[]⟩):=(hB2.cell (p:=⟨w.heap.size,0,none⟩) hwl).trans hc1;have hf2:w2.frozen? ⟨w.heap.size,0,none⟩=false:=(hB2.frozen (p:=⟨w.heap.size,0,none⟩) hwl).trans hf1;have HL2:=QQ (Nat.lt_of_lt_of_le hwl hB2.size);clear hc1 hf1 hB2))
     refine(HAll.out (some ⟨A,1,none⟩) n1 w2 HB2.out (Xa7 HC2.out)).mono ?_;rintro ev w3 ⟨hev,hao,hdt⟩;replace hev:=hev.trans (congrArg Kr2 hra);rw[hra]at hao;have hkp:QK G w2 w3:=by obtain⟨G',-,h1,-⟩:=hdt;exact h1
     have hng: ¬G w.heap.size:=fun h=>by have:=hGl.out _ h;omega
     have hc3:w3.cell? ⟨w.heap.size,0,none⟩=some (.string ⟨#[]⟩):=(hkp.cell (p:=⟨w.heap.size,0,none⟩) HL2.out hng).trans hc2;have hf3:w3.frozen? ⟨w.heap.size,0,none⟩=false:=(hkp.frozen (p:=⟨w.heap.size,0,none⟩) HL2.out hng).trans hf2;change ev= .panicked [{v:= .iface 47 (.agg #[.int .i64 x]),recovered:=false}]at hev;subst hev;refine leaves_cons (f:=13) (args:= #[.pointer (some ⟨w.heap.size,0,none⟩)]) (by simp) (by simp[go_sem]) ?_;have hg3:=Jn1 (H.out.glob.below HB2.out H.out.size) ⟨hkp,hdt.choose_spec.2.2⟩ H.out.gs (Nat.le_trans H.out.size HB2.out.size);refine(Jm9 w.heap.size x hao _ [] w3 hg3 (Nat.le_trans H.out.size (Nat.le_trans HB2.out.size hkp.size)) hc3 hf3).mono ?_;rintro e u' w4 ⟨rfl,rfl,hrd,hk4⟩;refine⟨.string ⟨(Jz7 x).toArray⟩,by simp[results,Tryz.results8,go_sem,hrd], ?_⟩;rw[HP0.out,hra];exact⟨rfl,Xn4 hao,hdt.own HB2.out (Nat.le_refl _) HL2.out hGl.out hk4⟩
  ·have HP0:=QQ (show Ja0 s t=(s,Jz7 3) by unfold Ja0;rw[hw];exact if_neg hi)
   have HV:=QQ (show fnV d (Qj4 c)= .nilFunc by unfold fnV;rw[if_neg hi]);have hfe: ∀w:World,(binOp BinOp.eql 53 .nilFunc .nilFunc).run Tryz.prog w= .ok (.bool true) w:=fun _=>by kernel_rfl
   clear hi hn1
   go_enter_defers Tryz.func8,Tryz.ntmps8
   go_wp2_with (first
    |(go_at_call 15;refine HFl.out.mono ?_;rintro e w1 ⟨A,rfl,hC,hB1⟩;have hc1:w1.cell? ⟨w.heap.size,0,none⟩=some (.string ⟨#[]⟩):=(hB1.cell (p:=⟨w.heap.size,0,none⟩) (by simp)).trans (by simp);have hf1:w1.frozen? ⟨w.heap.size,0,none⟩=false:=(hB1.frozen (p:=⟨w.heap.size,0,none⟩) (by simp)).trans (by simp);have hwl:w.heap.size<w1.heap.size:=(by have:=hB1.size;simp at this;omega);have HB1:=QQ (HB0.out.trans (hB1.mono HB0.out.size));obtain⟨bA,oA,hA0,hw0⟩:=hC 0 _ rfl;cases hA0;replace hw0:w1.cell? ⟨A,0,none⟩=some (.string c):=hw0;clear hC hB1)
    |(go_at_call 17;refine(HDo.out _).mono ?_;rintro e w2 ⟨rfl,hB2⟩;rw[HV.out];have HB2:=QQ (HB1.out.trans (hB2.mono HB1.out.size));have hc2:w2.cell? ⟨w.heap.size,0,none⟩=some (.string ⟨#[]⟩):=(hB2.cell (p:=⟨w.heap.size,0,none⟩) hwl).trans hc1;have hf2:w2.frozen? ⟨w.heap.size,0,none⟩=false:=(hB2.frozen (p:=⟨w.heap.size,0,none⟩) hwl).trans hf1;have HL2:=QQ (Nat.lt_of_lt_of_le hwl hB2.size);clear hc1 hf1 hB2)
    |(go_at_call 18;refine(Qe5 3 w2 (H.out.glob.below HB2.out H.out.size)).mono ?_;rintro e w3 ⟨hev,hB3⟩;unfold Qb5 at hev;subst hev))
   have hc3:w3.cell? ⟨w.heap.size,0,none⟩=some (.string ⟨#[]⟩):=(hB3.cell (p:=⟨w.heap.size,0,none⟩) HL2.out).trans hc2;have hf3:w3.frozen? ⟨w.heap.size,0,none⟩=false:=(hB3.frozen (p:=⟨w.heap.size,0,none⟩) HL2.out).trans hf2;have hB3':=HB2.out.trans (hB3.mono HB2.out.size);refine leaves_cons (f:=13) (args:= #[.pointer (some ⟨w.heap.size,0,none⟩)]) (by simp) (by simp[go_sem]) ?_;refine(Jm9 w.heap.size 3 (XZ (by omega)) _ [] w3 (H.out.glob.below hB3' H.out.size) (Nat.le_trans H.out.size hB3'.size) hc3 hf3).mono ?_;rintro e u' w4 ⟨rfl,rfl,hrd,hk4⟩;refine⟨.string ⟨(Jz7 3).toArray⟩,by simp[results,Tryz.results8,go_sem,hrd], ?_⟩;rw[HP0.out];exact⟨rfl,Xn4 (XZ (by omega)),Qc6.own HB2.out (H.out.desk.below HB2.out |>.to hB3) (Nat.le_refl _) HL2.out H.out.desk.lt hk4⟩
end Go.Proofs.YtbmiieehkkfbgaaGreatDoor
