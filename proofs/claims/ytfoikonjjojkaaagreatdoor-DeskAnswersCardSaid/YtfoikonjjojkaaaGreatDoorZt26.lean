/- Parts. -/
import Derived.Test.YtfoikonjjojkaaaGreatDoorZt25
set_option linter.unusedVariables false
set_option maxRecDepth 100000
set_option maxHeartbeats 8000000
open Go.Proofs.Tryz
open Go.Value renaming int→I,pointer→IP
open Go.IntKind renaming i64→O
namespace Go.Proofs.YtfoikonjjojkaaaGreatDoor
open Go Go.RowKit
structure Gg(w:World)(d:Nat)(G:Nat->Prop)(k:Nat)(s:DS)(t:ByteArray):Prop where
 desk:JM w d G k s
 glob:QH w
 size:12<=w.heap.size
 gs:∀i,G i->12<=i
 t:t.size<=30000
 k:k<=100000
def Xr6(w:World)(d:Nat)(G:Nat->Prop)(k:Nat)(r:DS×E9)(e:Ending)(w':World):Prop:=
 e=.returned (.string ⟨r.2.toArray⟩)/\r.2.length<=10000000000/\BP w w' d G (k+1) r.1
theorem Fi{n}(i:V3 n):(BB n).length<=10000000000:=by have:=Xi n i.1 i.2;unfold BB;rw[B6];simp only[List.length_cons,List.length_nil];omega
section
variable {w:World} {d k:Nat} {G:Nat->Prop} {s:DS} {t:ByteArray}
theorem Gg.min(h:Gg w d G k s t){w1}(i:Bz w w1){A c ws}(j:Lib.goFieldsP ZW t=c::ws)(u:QB w1 A (ws.map Value.string)){n1}(y:ws.length=n1):M3 w1 d G k s A n1 ws:=by
 refine⟨h.desk.below i,h.glob.below i h.size,U4 h.size i.size,h.gs,u,y,fun x C=>?_,?_,h.k⟩
 ·have:=Nc ZW t x (by rw[j];exact VS _ C)
  have:=h.t;omega
 have:=Ts ZW t;rw[j,JA]at this;have:=h.t;omega
theorem Ri{w1 A v vs}(h:QB w1 (sA A) (v::vs)):QB w1 (some (aD A 1)) vs:=fun j v i=>by
 obtain⟨b,o,h1,h2⟩:=h (j+1) v (by simpa using i)
 cases h1;exact⟨A,1,rfl,by rw[KC]at h2;rw[Nat.add_comm 1 j];exact h2⟩
theorem JM.lt(h:JM w d G k s):∀i,G i->i<w.heap.size:=fun i y=>by
 cases u:s.e with
 |none=>
  obtain⟨A,c,h1,h2,-,j⟩:=h.n u;rcases(j i).1 y with e|e
  ·rw[e];exact h1.lt
  exact h2.lt e
 |some m=>
  obtain⟨C,D,E,J,N,Z,e,F,h1,h2,-,j⟩:=(h.e u).1;rcases(j i).1 y with e|e
  ·rw[e];exact h1.lt
  exact h2.lt e
theorem JM.keeps{w' S}(h:JM w d G k s)(hk:X4 S w w')(y:∀i,G i->¬S i):JM w' d G k s:=by
 cases u:s.e with
 |none=>
  obtain⟨A,c,h1,h2,C,j⟩:=h.n u;exact GB.at_ ⟨A,c,V0 h1 hk (y d ((j d).2 (.inl rfl))),h2.keeps hk (fun g D=>y g ((j g).2 (.inr D))),C,j⟩ u
 |some m=>
  obtain⟨E,J,N,Z,v4,v5,e,F,h1,h2,C,j⟩:=(h.e u).1;exact FF.at_ ⟨E,J,N,Z,v4,v5,e,F,V0 h1 hk (y d ((j d).2 (.inl rfl))),h2.keeps hk (fun g D=>y g ((j g).2 (.inr D))),C,j⟩ (h.e u).2 u
theorem BP.own{w2 w3 w4 p}(C:Bz w w2)(h:BP w2 w3 d G k s)(hp:w.heap.size<=p)(E:p<w2.heap.size)(D:∀i,G i->i<w.heap.size)(hk:X4 (fun i=>i=p) w3 w4):BP w w4 d G k s:=by
 obtain⟨G',h1,h2,y⟩:=h;refine⟨G',h1.keeps hk (fun i j e=>?_),((X4.after C h2).trans hk (fun i j=>.inr (by rw[j];exact hp))),fun i j=>(y i j).imp id (fun x=>U4 C.size x)⟩;obtain u|u:=y i j
 ·have:=D i u;omega
 omega
end
theorem Xg1{w d k G s t}(h:Gg w d G k s t):Calls prog 9 #[pA d,.string t] w (Xr6 w d G k (XS s t)):=by
 have H:=J6 h;have e1:∀(fn:Fn)(first cap:Array Value)(w:World),(Instr.makeFunc fn first cap).run prog w=.ok (.func fn first cap) w:=fun _ _ _ _=>rfl
 have d5:Bz w (w.alloc (.cells #[.string ⟨#[]⟩] 9)):=(J9 _ w).alloc Q2 _;obtain⟨a7,a8⟩:=Xt6 d5 (Jj4 t (by have:=h.t;omega) (w.alloc (.cells #[.string ⟨#[]⟩] 9)));clear h d5
 cases hw:Lib.goFieldsP ZW t with
 |nil=>
  rw[hw]at a8;have HP:=J6 (show XS s t=(s,[111,107]) by unfold XS;rw[hw];rfl)
  go_enter_defers func9,ntmps9
  go_wp2_with (go_at_call 20;refine a8.mono ?_;rintro e w1⟨A,rfl,C,i⟩;have a0:w1.cell? ⟨w.heap.size,0,none⟩=some (.string ⟨#[]⟩):=(i.cell (p:=⟨w.heap.size,0,none⟩) Q3).trans Q3;have a2:w1.frozen? ⟨w.heap.size,0,none⟩=false:=(i.frozen (p:=⟨w.heap.size,0,none⟩) Q3).trans Q3;have E:w.heap.size<w1.heap.size:=(by have:=i.size;simp at this;omega);have Z:=J6 (a7.trans (i.mono a7.size));clear C i)
  refine leaves_cons (f:=18) (args:= #[pA (zS w)]) Q3 (by simp[go_sem]) ?_;refine(Cp (aD (zS w) 0) _).mono ?_;rintro e u' w2⟨rfl,rfl,rfl⟩;have hr:(w1.setCell (aD (zS w) 0) (.string ⟨#[111,107]⟩)).cell? (aD (zS w) 0)=some (.string ⟨#[111,107]⟩):=Jv w1 _ _ a0;refine⟨.string ⟨#[111,107]⟩,by simp[results,Tryz.results9,go_sem,hr],?_⟩;rw[HP.out];exact⟨rfl,by show([111,107]:E9).length<=10000000000;decide,H.desk.to (Z.setCell (p:=(aD (zS w) 0)) Q2 _)⟩
 |cons c ws=>
  rw[hw]at a8;obtain⟨n1,d0⟩:=exq ws.length;have d7:=J6 d0;rw[JA,d0]at a8;have e4:((n1:Int)+1 ==0)=false:=Z3 Q0;have e2:n1<=100000:=by have:=Ts ZW t;rw[hw,JA]at this;have:=H.t;omega
  have c8:=J6 (fun W=>Xf1 d c W)
  by_cases hi:H6 c<18
  ·have b9:=J6 (show XS s t=(((CR.getD (H6 c) VX) s ws).1,Zu ((CR.getD (H6 c) VX) s ws).2) by unfold XS;rw[hw];exact X0 hi)
   have d8:=Jj2 (H6 c) hi;have c6:=J6 (fun(A:Option Addr)(c0:Nat)(W:World)(hW:Bz w W)(C:QB W A (ws.map Value.string))=>Xg0 (H.min hW hw C d0) c0 (H6 c) hi);obtain⟨r,hr⟩:=exq ((CR.getD (H6 c) VX) s ws);rw[hr]at b9;simp only[hr]at c6;obtain⟨K,hK⟩:=exq (Zi.getD (H6 c) 0);have HV:=J6 (show NC d (H6 c)=.func (.func K) #[pA d] #[] by unfold NC;rw[X0 hi,hK]);rw[hK]at d8 c6;have d9:∀w:World,(binOp BinOp.eql 67 (.func (.func K) #[pA d] #[]) .nilFunc).run prog w=.ok (.bool false) w:=fun _=>Q4
   have b8:=J6 H.desk.lt;clear hi hr hK d0
   by_cases h0:n1=0
   ·have d6:ws=[]:=Va.1 (d7.trans h0)
    cases a6:r.2 with
    |ok x=>
     go_enter_defers func9,ntmps9
     go_wp2_with (first
      |(go_at_call 20;refine a8.mono ?_;rintro e w1⟨A,rfl,C,i⟩;have a0:w1.cell? ⟨w.heap.size,0,none⟩=some (.string ⟨#[]⟩):=(i.cell (p:=⟨w.heap.size,0,none⟩) Q3).trans Q3;have a2:w1.frozen? ⟨w.heap.size,0,none⟩=false:=(i.frozen (p:=⟨w.heap.size,0,none⟩) Q3).trans Q3;have E:w.heap.size<w1.heap.size:=(by have:=i.size;simp at this;omega);have Z:=J6 (a7.trans (i.mono a7.size));have HC:=J6 C;obtain⟨bA,oA,a9,a3⟩:=C 0 _ rfl;cases a9;replace a3:w1.cell? ⟨A,0,none⟩=some (.string c):=a3;clear C i)
      |(go_at_call 22;refine(c8 _).mono ?_;rintro e w2⟨rfl,u⟩;rw[HV.out];have y:=J6 (Z.trans (u.mono Z.size));have c7:=J6 (HC.below u);have b0:w2.cell? ⟨w.heap.size,0,none⟩=some (.string ⟨#[]⟩):=(u.cell (p:=⟨w.heap.size,0,none⟩) E).trans a0;have b2:w2.frozen? ⟨w.heap.size,0,none⟩=false:=(u.frozen (p:=⟨w.heap.size,0,none⟩) E).trans a2;have J:=J6 (D0 E u.size);clear a0 a2 u))
     refine(show Calls prog K #[IP (some ⟨d,0,none⟩),.slice (some ⟨A,0,none⟩) 0 0] w2 (VK w2 d G k r)from by have h:=c6.out (some ⟨A,0,none⟩) 0 w2 y.out (by rw[d6];exact fun j v hv=>by cases hv);rw[h0]at h;exact h).mono ?_;rintro ev w3⟨D,a4,a1⟩;replace D:=D.trans (C5 Jn a6);rw[a6]at a4;have N:X4 G w2 w3:=by obtain⟨G',-,h1,-⟩:=a1;exact h1
     have a5:¬G w.heap.size:=fun h=>by have:=b8.out _ h;omega
     have b1:w3.cell? (aD (zS w) 0)=some (.string ⟨#[]⟩):=(N.cell (p:=(aD (zS w) 0)) J a5).trans b0;have c5:w3.frozen? (aD (zS w) 0)=false:=(N.frozen (p:=(aD (zS w) 0)) J a5).trans b2;change ev=.returned (.string ⟨x.toArray⟩)at D;subst D;have d2:=J6 a1;clear a1 N a5;go_wp2_with fail
     refine leaves_cons (f:=18) (args:= #[pA (zS w)]) Q3 (by simp[go_sem]) ?_;refine(Cp (aD (zS w) 0) _).mono ?_;rintro e u' w4⟨rfl,rfl,rfl⟩;have b5:(w3.setCell (aD (zS w) 0) (.string ⟨x.toArray⟩)).cell? (aD (zS w) 0)=some (.string ⟨x.toArray⟩):=Jv w3 _ _ b1;refine⟨.string ⟨x.toArray⟩,by simp[results,Tryz.results9,go_sem,b5],?_⟩;rw[b9.out,a6];exact⟨rfl,a4,d2.own y Q2 J b8 (U1 w3 (aD (zS w) 0) _)⟩
    |bad x=>
     go_enter_defers func9,ntmps9
     go_wp2_with (first
      |(go_at_call 20;refine a8.mono ?_;rintro e w1⟨A,rfl,C,i⟩;have a0:w1.cell? ⟨w.heap.size,0,none⟩=some (.string ⟨#[]⟩):=(i.cell (p:=⟨w.heap.size,0,none⟩) Q3).trans Q3;have a2:w1.frozen? ⟨w.heap.size,0,none⟩=false:=(i.frozen (p:=⟨w.heap.size,0,none⟩) Q3).trans Q3;have E:w.heap.size<w1.heap.size:=(by have:=i.size;simp at this;omega);have Z:=J6 (a7.trans (i.mono a7.size));have HC:=J6 C;obtain⟨bA,oA,a9,a3⟩:=C 0 _ rfl;cases a9;replace a3:w1.cell? ⟨A,0,none⟩=some (.string c):=a3;clear C i)
      |(go_at_call 22;refine(c8 _).mono ?_;rintro e w2⟨rfl,u⟩;rw[HV.out];have y:=J6 (Z.trans (u.mono Z.size));have c7:=J6 (HC.below u);have b0:w2.cell? ⟨w.heap.size,0,none⟩=some (.string ⟨#[]⟩):=(u.cell (p:=⟨w.heap.size,0,none⟩) E).trans a0;have b2:w2.frozen? ⟨w.heap.size,0,none⟩=false:=(u.frozen (p:=⟨w.heap.size,0,none⟩) E).trans a2;have J:=J6 (D0 E u.size);clear a0 a2 u))
     refine(show Calls prog K #[IP (some ⟨d,0,none⟩),.slice (some ⟨A,0,none⟩) 0 0] w2 (VK w2 d G k r)from by have h:=c6.out (some ⟨A,0,none⟩) 0 w2 y.out (by rw[d6];exact fun j v hv=>by cases hv);rw[h0]at h;exact h).mono ?_;rintro ev w3⟨D,a4,a1⟩;replace D:=D.trans (C5 Jn a6);rw[a6]at a4;have N:X4 G w2 w3:=by obtain⟨G',-,h1,-⟩:=a1;exact h1
     have a5:¬G w.heap.size:=fun h=>by have:=b8.out _ h;omega
     have b1:w3.cell? (aD (zS w) 0)=some (.string ⟨#[]⟩):=(N.cell (p:=(aD (zS w) 0)) J a5).trans b0;have c5:w3.frozen? (aD (zS w) 0)=false:=(N.frozen (p:=(aD (zS w) 0)) J a5).trans b2;change ev=.panicked [{v:=.iface 62 (.agg #[I O x]),recovered:=false}]at D;subst D;refine leaves_cons (f:=18) (args:= #[pA (zS w)]) Q3 (by simp[go_sem]) ?_;have d3:=Us (H.glob.below y H.size) ⟨N,a1.choose_spec.2.2⟩ H.gs (U4 H.size y.size);refine(Dk (zS w) x a4 _ [] w3 d3 (U4 H.size (U4 y.size N.size)) b1 c5).mono ?_;rintro e u' w4⟨rfl,rfl,b5,c9⟩;refine⟨.string ⟨(BB x).toArray⟩,by simp[results,Tryz.results9,go_sem,b5],?_⟩;rw[b9.out,a6];exact⟨rfl,Fi a4,a1.own y Q2 J b8 c9⟩
   have e3:(1:Int)<=(n1:Int):=by omega
   cases a6:r.2 with
   |ok x=>
    go_enter_defers func9,ntmps9
    go_wp2_with (first
     |(go_at_call 20;refine a8.mono ?_;rintro e w1⟨A,rfl,C,i⟩;have a0:w1.cell? ⟨w.heap.size,0,none⟩=some (.string ⟨#[]⟩):=(i.cell (p:=⟨w.heap.size,0,none⟩) Q3).trans Q3;have a2:w1.frozen? ⟨w.heap.size,0,none⟩=false:=(i.frozen (p:=⟨w.heap.size,0,none⟩) Q3).trans Q3;have E:w.heap.size<w1.heap.size:=(by have:=i.size;simp at this;omega);have Z:=J6 (a7.trans (i.mono a7.size));have HC:=J6 C;obtain⟨bA,oA,a9,a3⟩:=C 0 _ rfl;cases a9;replace a3:w1.cell? ⟨A,0,none⟩=some (.string c):=a3;clear C i)
     |(go_at_call 22;refine(c8 _).mono ?_;rintro e w2⟨rfl,u⟩;rw[HV.out];have y:=J6 (Z.trans (u.mono Z.size));have c7:=J6 (HC.below u);have b0:w2.cell? ⟨w.heap.size,0,none⟩=some (.string ⟨#[]⟩):=(u.cell (p:=⟨w.heap.size,0,none⟩) E).trans a0;have b2:w2.frozen? ⟨w.heap.size,0,none⟩=false:=(u.frozen (p:=⟨w.heap.size,0,none⟩) E).trans a2;have J:=J6 (D0 E u.size);clear a0 a2 u))
    refine(c6 (some (aD A 1)) n1 w2 y (Ri c7)).mono ?_;rintro ev w3⟨D,a4,a1⟩;replace D:=D.trans (C5 Jn a6);rw[a6]at a4;have N:X4 G w2 w3:=by obtain⟨G',-,h1,-⟩:=a1;exact h1
    have a5:¬G w.heap.size:=fun h=>by have:=b8.out _ h;omega
    have b1:w3.cell? (aD (zS w) 0)=some (.string ⟨#[]⟩):=(N.cell (p:=(aD (zS w) 0)) J a5).trans b0;have c5:w3.frozen? (aD (zS w) 0)=false:=(N.frozen (p:=(aD (zS w) 0)) J a5).trans b2;change ev=.returned (.string ⟨x.toArray⟩)at D;subst D;have d2:=J6 a1;clear a1 N a5;go_wp2_with fail
    refine leaves_cons (f:=18) (args:= #[pA (zS w)]) Q3 (by simp[go_sem]) ?_;refine(Cp (aD (zS w) 0) _).mono ?_;rintro e u' w4⟨rfl,rfl,rfl⟩;have b5:(w3.setCell (aD (zS w) 0) (.string ⟨x.toArray⟩)).cell? (aD (zS w) 0)=some (.string ⟨x.toArray⟩):=Jv w3 _ _ b1;refine⟨.string ⟨x.toArray⟩,by simp[results,Tryz.results9,go_sem,b5],?_⟩;rw[b9.out,a6];exact⟨rfl,a4,d2.own y Q2 J b8 (U1 w3 (aD (zS w) 0) _)⟩
   |bad x=>
    go_enter_defers func9,ntmps9
    go_wp2_with (first
     |(go_at_call 20;refine a8.mono ?_;rintro e w1⟨A,rfl,C,i⟩;have a0:w1.cell? ⟨w.heap.size,0,none⟩=some (.string ⟨#[]⟩):=(i.cell (p:=⟨w.heap.size,0,none⟩) Q3).trans Q3;have a2:w1.frozen? ⟨w.heap.size,0,none⟩=false:=(i.frozen (p:=⟨w.heap.size,0,none⟩) Q3).trans Q3;have E:w.heap.size<w1.heap.size:=(by have:=i.size;simp at this;omega);have Z:=J6 (a7.trans (i.mono a7.size));have HC:=J6 C;obtain⟨bA,oA,a9,a3⟩:=C 0 _ rfl;cases a9;replace a3:w1.cell? ⟨A,0,none⟩=some (.string c):=a3;clear C i)
     |(go_at_call 22;refine(c8 _).mono ?_;rintro e w2⟨rfl,u⟩;rw[HV.out];have y:=J6 (Z.trans (u.mono Z.size));have c7:=J6 (HC.below u);have b0:w2.cell? ⟨w.heap.size,0,none⟩=some (.string ⟨#[]⟩):=(u.cell (p:=⟨w.heap.size,0,none⟩) E).trans a0;have b2:w2.frozen? ⟨w.heap.size,0,none⟩=false:=(u.frozen (p:=⟨w.heap.size,0,none⟩) E).trans a2;have J:=J6 (D0 E u.size);clear a0 a2 u))
    refine(c6 (some (aD A 1)) n1 w2 y (Ri c7)).mono ?_;rintro ev w3⟨D,a4,a1⟩;replace D:=D.trans (C5 Jn a6);rw[a6]at a4;have N:X4 G w2 w3:=by obtain⟨G',-,h1,-⟩:=a1;exact h1
    have a5:¬G w.heap.size:=fun h=>by have:=b8.out _ h;omega
    have b1:w3.cell? (aD (zS w) 0)=some (.string ⟨#[]⟩):=(N.cell (p:=(aD (zS w) 0)) J a5).trans b0;have c5:w3.frozen? (aD (zS w) 0)=false:=(N.frozen (p:=(aD (zS w) 0)) J a5).trans b2;change ev=.panicked [{v:=.iface 62 (.agg #[I O x]),recovered:=false}]at D;subst D;refine leaves_cons (f:=18) (args:= #[pA (zS w)]) Q3 (by simp[go_sem]) ?_;have d3:=Us (H.glob.below y H.size) ⟨N,a1.choose_spec.2.2⟩ H.gs (U4 H.size y.size);refine(Dk (zS w) x a4 _ [] w3 d3 (U4 H.size (U4 y.size N.size)) b1 c5).mono ?_;rintro e u' w4⟨rfl,rfl,b5,c9⟩;refine⟨.string ⟨(BB x).toArray⟩,by simp[results,Tryz.results9,go_sem,b5],?_⟩;rw[b9.out,a6];exact⟨rfl,Fi a4,a1.own y Q2 J b8 c9⟩
  have b9:=J6 (show XS s t=(s,BB 3) by unfold XS;rw[hw];exact J8 hi);have HV:=J6 (show NC d (H6 c)=.nilFunc by unfold NC;rw[J8 hi]);have d9:∀w:World,(binOp BinOp.eql 67 .nilFunc .nilFunc).run prog w=.ok (.bool true) w:=fun _=>Q4
  clear hi d0
  go_enter_defers func9,ntmps9
  go_wp2_with (first
   |(go_at_call 20;refine a8.mono ?_;rintro e w1⟨A,rfl,C,i⟩;have a0:w1.cell? ⟨w.heap.size,0,none⟩=some (.string ⟨#[]⟩):=(i.cell (p:=⟨w.heap.size,0,none⟩) Q3).trans Q3;have a2:w1.frozen? ⟨w.heap.size,0,none⟩=false:=(i.frozen (p:=⟨w.heap.size,0,none⟩) Q3).trans Q3;have E:w.heap.size<w1.heap.size:=(by have:=i.size;simp at this;omega);have Z:=J6 (a7.trans (i.mono a7.size));obtain⟨bA,oA,a9,a3⟩:=C 0 _ rfl;cases a9;replace a3:w1.cell? ⟨A,0,none⟩=some (.string c):=a3;clear C i)
   |(go_at_call 22;refine(c8 _).mono ?_;rintro e w2⟨rfl,u⟩;rw[HV.out];have y:=J6 (Z.trans (u.mono Z.size));have b0:w2.cell? ⟨w.heap.size,0,none⟩=some (.string ⟨#[]⟩):=(u.cell (p:=⟨w.heap.size,0,none⟩) E).trans a0;have b2:w2.frozen? ⟨w.heap.size,0,none⟩=false:=(u.frozen (p:=⟨w.heap.size,0,none⟩) E).trans a2;have J:=J6 (D0 E u.size);clear a0 a2 u)
   |(go_at_call 23;refine(TA 3 w2 (H.glob.below y H.size)).mono ?_;rintro e w3⟨D,d1⟩;unfold AP at D;subst D))
  have b1:w3.cell? (aD (zS w) 0)=some (.string ⟨#[]⟩):=(d1.cell (p:=(aD (zS w) 0)) J).trans b0;have c5:w3.frozen? (aD (zS w) 0)=false:=(d1.frozen (p:=(aD (zS w) 0)) J).trans b2;have d4:=y.trans (d1.mono y.size);refine leaves_cons (f:=18) (args:= #[pA (zS w)]) Q3 (by simp[go_sem]) ?_;refine(Dk (zS w) 3 (D1 Q0) _ [] w3 (H.glob.below d4 H.size) (U4 H.size d4.size) b1 c5).mono ?_;rintro e u' w4⟨rfl,rfl,b5,c9⟩;refine⟨.string ⟨(BB 3).toArray⟩,by simp[results,Tryz.results9,go_sem,b5],?_⟩;rw[b9.out];exact⟨rfl,Fi (D1 Q0),BP.own y (H.desk.below y |>.to d1) Q2 J H.desk.lt c9⟩
section
open Go.Shelf
theorem Qt2 s j w:Calls prog 6 #[.string s,.string j] w fun e w'=>e=.returned (.func (.func 41) #[] #[pA (w.heap.size+1),pA w.heap.size,pA (w.heap.size+2)])/\w'=((w.alloc (.cells #[.string s] 9)).alloc (.cells #[.string j] 9)).alloc (.cells #[I O 0] 3):=by
 have u:∀i first cap w,(Instr.makeFunc i first cap).run prog w=.ok (.func i first cap) w:=fun _ _ _ _=>rfl
 go_enter func6,ntmps6
 go_wp2;go_ret;exact⟨rfl,rfl⟩
theorem Vv:∀(l:E9),(∀x∈E6 l,x.length<=l.length)/\(E6 l).length<=l.length+1
 | []=>⟨fun x hx=>by simp[E6]at hx;rw[hx];exact X3 _,by simp[E6]⟩
 |c::l=>by
  obtain⟨h1,h2⟩:=Vv l;rw[My]
  split
  ·refine⟨fun x hx=>?_,Q7⟩
   obtain e|e:=H8.1 hx
   ·rw[e];exact U9 _
   have:=h1 x e;simp;omega
  cases hs:E6 l with
  |nil=>exact absurd hs (Ur l)
  |cons y ys=>
   rw[hs]at h1 h2;refine⟨fun x hx=>?_,by simp at h2|-;omega⟩;obtain e|e:=H8.1 hx
   ·rw[e]
    have:=h1 y FR;simp;omega
   have:=h1 x (VS _ e);simp;omega
theorem Nd d l x:BN d (l++[x.data.toList])=BN d l++((XS (JL d l) x).2++[10])/\JL d (l++[x.data.toList])=(XS (JL d l) x).1:=by
 have e:(⟨x.data.toList.toArray⟩:ByteArray)=x:=by rw[Array.toArray_toList]
 rw[Ho,Mv,e];refine⟨?_,rfl⟩;show BN d l++((XS (JL d l) ⟨x.data.toList.toArray⟩).2++[10]++[])=_;rw[e,BF]
structure SG(w:World)(pre:List E9)(W:World):Prop where
 ex:∃G p v,JM W w.heap.size G pre.length (JL QU pre)/\GF W w.heap.size (w.heap.size+1) p v (BN QU pre)/\(∀i,G i->i=w.heap.size\/w.heap.size+7<=i)/\(∀i,v.ownBlock=some i->w.heap.size+7<=i/\¬G i)
 len:(BN QU pre).length<=pre.length*10000000001
 low:Bz w W
 size:w.heap.size+7<=W.heap.size
theorem SG.keeps{w W W' pre S}(h:SG w pre W)(hk:X4 S W W')(u:∀i,S i->w.heap.size+2<=i/\i<w.heap.size+7):SG w pre W':=by
 obtain⟨⟨G,p,v,h1,h2,C,D⟩,J,E,N⟩:=h;refine⟨⟨G,p,v,h1.keeps hk (fun i j e=>?_),h2.keeps hk (fun i j e=>?_),C,D⟩,J,E.trans (hk.below (fun i j=>by have:=u i j;omega) (by have:=E.size;omega)),U4 N hk.size⟩
 ·have:=C i j
  have:=u i e;omega
 have:=u i e;obtain y|y:=j
 ·omega
 have:=(D i y).1;omega
theorem SG.line{w W pre}(h:SG w pre W)(hg:QH w)(hz:12<=w.heap.size)x(hx:x.size<=30000)(hp:pre.length<=5000):Calls prog 9 #[pA w.heap.size,.string x] W fun e W1=>e=.returned (.string ⟨(XS (JL QU pre) x).2.toArray⟩)/\(XS (JL QU pre) x).2.length<=10000000000/\(∀i,w.heap.size+2<=i->i<w.heap.size+7->W1.heap[i]?=W.heap[i]?)/\W.heap.size<=W1.heap.size/\∀s,s.data.toList=(XS (JL QU pre) x).2++[10]->Calls prog 8 #[pA (w.heap.size+1),.string s] W1 fun e W2=>(∃k,e=.returned (.tuple #[I O k,.nilIface]))/\SG w (pre++[x.data.toList]) W2/\(∀i,w.heap.size+2<=i->i<w.heap.size+7->W2.heap[i]?=W1.heap[i]?):=by
 obtain⟨⟨G,p,v,h1,h2,y,C⟩,hl,D,a9⟩:=h;obtain⟨Z,e2⟩:=Nd QU pre x;refine(Xg1 (w:=W) (d:=w.heap.size) (G:=G) (k:=pre.length) (s:=JL QU pre) (t:=x) ⟨h1,hg.below D hz,U4 hz D.size,fun i j=>by have:=y i j;omega,hx,Q0⟩).mono ?_;rintro e W1⟨rfl,a6,G',hd,hk,N⟩;have a0:∀i,G' i->i=w.heap.size\/w.heap.size+7<=i:=fun i j=>by
  obtain e|e:=N i j
  ·exact y i e
  omega
 have a1:GF W1 w.heap.size (w.heap.size+1) p v (BN QU pre):=h2.keeps hk (fun i j e=>by
  obtain u|u:=j
  ·have:=y i e;omega
  exact(C i u).2 e)
 refine⟨rfl,a6,fun i a4 a5=>hk.block i Q0 (fun e=>by have:=y i e;omega),hk.size,fun s hs=>?_⟩;have a8:s.size=(XS (JL QU pre) x).2.length+1:=by rw[KD,hs,B6];rfl
 refine(Jt3 a1 s ?_).mono ?_
 ·have h5:pre.length*10000000001<=5000*10000000001:=GM _ hp
  omega
 rintro e W2⟨rfl,v',a2,E,a7⟩;have a3:∀i,v.ownBlock=some i->i<W.heap.size:=fun i j=>(h2.lt (.inr j)).2
 refine⟨⟨_,rfl⟩,⟨⟨G',some ⟨w.heap.size+1,0,none⟩,v',?_,?_,a0,fun i j=>?_⟩,?_,?_,?_⟩,fun i a4 a5=>E.block i (by have:=hk.size;omega) (fun e=>?_)⟩
 ·rw[e2,B6]
  refine hd.keeps E (fun i j e=>?_);obtain e|e:=e
  ·have:=a0 i j;omega
  obtain u|u:=N i j
  ·exact(C i e).2 u
  have:=a3 i e;omega
 ·rw[Z,<-hs];exact a2
 ·obtain e|e:=a7 i (.inr j)
  ·obtain e|e:=e
   ·exact absurd j (e▸a2.far)
   refine⟨(C i e).1,fun J=>?_⟩;obtain u|u:=N i J
   ·exact(C i e).2 u
   have:=a3 i e;omega
  refine⟨by have:=hk.size;omega,fun J=>?_⟩;have:=hd.lt i J;omega
 ·rw[Z,B6,B6,B6]
  simp only[List.length_cons,List.length_nil];omega
 ·have q1:Below w.heap.size W W1:=hk.below (fun i j=>by have:=y i j;omega) D.size
  have q2:Below w.heap.size W1 W2:=E.below (fun i j=>(a1.lt j).1) (U4 D.size hk.size);exact D.trans (q1.trans q2)
 ·have:=hk.size
  have:=E.size;omega
 obtain e|e:=e
 ·omega
 have:=(C i e).1;omega
theorem Qz6 w j u y C D c1 c2 c3 c4 i:let W:=((((w.alloc (.cells c1 j)).alloc (.cells c2 u)).alloc (.cells c3 y)).alloc (.cells c4 C)).alloc (.cells i D)
  J7 W w.heap.size j c1/\J7 W (w.heap.size+1) u c2/\J7 W (w.heap.size+2) y c3/\J7 W (w.heap.size+3) C c4/\J7 W (w.heap.size+4) D i/\W.heap.size=w.heap.size+5/\Bz w W:=by
 intro W;have h1:=G0 (G0 (G0 (G0 (Z5 w j c1) (.cells c2 u)) (.cells c3 y)) (.cells c4 C)) (.cells i D);have h2:=G0 (G0 (G0 (Z5 (w.alloc (.cells c1 j)) u c2) (.cells c3 y)) (.cells c4 C)) (.cells i D);have E:=G0 (G0 (Z5 ((w.alloc (.cells c1 j)).alloc (.cells c2 u)) y c3) (.cells c4 C)) (.cells i D);have J:=G0 (Z5 (((w.alloc (.cells c1 j)).alloc (.cells c2 u)).alloc (.cells c3 y)) C c4) (.cells i D);have N:=Z5 ((((w.alloc (.cells c1 j)).alloc (.cells c2 u)).alloc (.cells c3 y)).alloc (.cells c4 C)) D i;simp only[World.size_alloc]at h2 E J N;exact⟨h1,h2,E,J,N,by simp[W],((((((J9 _ w).alloc Q2 _).alloc Q3 _).alloc Q7 _).alloc Q7 _).alloc Q7 _)⟩
attribute [local go_sem] Oper.semAt_some
theorem Jj5 n(hn:6<=n)t(ht:t.size<=4000)w(hg:QH w)(hz:12<=w.heap.size):CallsIn Fence.wide n prog 4 #[.string t] w fun e w'=>e=.returned (.string ⟨(Ql t.data.toList).toArray⟩)/\Bz w w':=by
 have h1:1<=n:=Q0;have d7:Fence.wide.fn 7:=trivial;have d6:Fence.wide.fn 6:=trivial;have HG:=J6 hg;obtain⟨q,hq⟩:∃q:ByteArray,⟨(Lib.trimSuffix t.data.toList [10]).toArray⟩=q:=⟨_,rfl⟩;obtain⟨E,HT⟩:=Xt6 hq (fun W=>Xq4 t ⟨#[10]⟩ W Q0);have d5:¬(20000:Int)<(t.size:Int):=Q0;clear hg hq;refine Av func4 rfl trivial ?_ rfl;simp only[ntmps4,List.size_toArray,List.length_cons,List.length_nil,Nat.reduceAdd,Nat.reduceSub,Array.replicate_succ,Array.replicate_zero,List.push_toArray,List.append_toArray,List.nil_append,List.cons_append]
 gi_wp2_with (first
  |(gi_at_call 7;refine(DU.2 (HT _)).mono ?_;rintro e w1⟨N,rfl⟩;replace N:=N.trans (C5 (fun x=>Ending.returned (.string x)) E);subst N)
  |(gi_at_call 6;refine(DU.2 (Qt2 q _ _)).mono ?_;rintro e w1⟨rfl,rfl⟩))
 obtain⟨b1,b2,b3,b4,b5,a9,J⟩:=Qz6 w 29 33 9 9 3 #[.slice none 0 0,I O 0,I O 0,I O 0,I O 0,I O 0,.pointer none] #[.pointer none,.slice none 0 0] #[.string q] #[.string ⟨#[10]⟩] #[I O 0];obtain⟨C,a3⟩:=exq (((((w.alloc (.cells #[.slice none 0 0,I O 0,I O 0,I O 0,I O 0,I O 0,.pointer none] 29)).alloc (.cells #[.pointer none,.slice none 0 0] 33)).alloc (.cells #[.string q] 9)).alloc (.cells #[.string ⟨#[10]⟩] 9)).alloc (.cells #[I O 0] 3));rw[a3]at b1 b2 b3 b4 b5 a9 J|-;clear a3;have d2:q.size<=4000:=by
  rw[<-E.out];have:(Lib.trimSuffix t.data.toList [10]).length<=t.data.toList.length:=by
   unfold Lib.trimSuffix
   split
   ·rw[R7];omega
   exact X3 _
  rw[KD]at ht|-;exact U4 (by simpa using this) ht
 have b9:=J6 (show∀o o',SG w [] ((C.alloc o).alloc o')from fun o o'=>by have hk:Bz C ((C.alloc o).alloc o'):=(Q5.alloc Q2 _).alloc Q3 _;refine⟨⟨fun i=>i=w.heap.size,none,.slice none 0 0,GB.at_ ⟨none,0,b1.keep hk,QY _ _ _ _,fun i j=>(by cases j),fun i=>⟨.inl,fun h=>h.elim id (fun e=>(by cases e))⟩⟩ rfl,⟨Nat.le_succ _,b2.keep hk,⟨rfl,.inl ⟨rfl,rfl⟩⟩,fun e=>(by cases e),.inl rfl⟩,fun i j=>.inl j,fun i j=>(by cases j)⟩,U9 _,J.trans (hk.mono J.size),Q7⟩)
 refine Qz0 n Q0 q Q0 (w.heap.size+3) (w.heap.size+2) (w.heap.size+4) rfl rfl b4 b3 b5 Q0 Q0 (SG w)
  (fun pre W W' h hk=>h.keeps hk (fun i j=>Q0)) b9
  (fun x=>{tmps:= #[.string t,undef,.string ⟨#[]⟩,IP (some ⟨w.heap.size,0,none⟩),IP (some ⟨w.heap.size+1,0,none⟩),.string x,.string t,I O t.size,.bool false,.agg #[.slice none 0 0,I O 0,I O 0,I O 0,I O 0,I O 0,.pointer none],.string t,.string q,.func (.func 41) #[] #[IP (some ⟨w.heap.size+3,0,none⟩),IP (some ⟨w.heap.size+2,0,none⟩),IP (some ⟨w.heap.size+4,0,none⟩)],.string x,undef,undef,undef,undef,undef],defers:=[]}) ?assign ?body ?done
 case assign=>
  intro l x W K hK
  gi_wp2
  exact hK
 case body=>
  intro pre x e2 W j Z;have b8:=(Vv q.data.toList).1 x.data.toList (by rw[Z];simp);have a5:=(Vv q.data.toList).2;rw[Z,B6,JA]at a5;rw[<-KD]at b8 a5;rw[<-KD]at b8;have D:=J6 (j.line HG hz x Q0 Q0);obtain⟨r,u⟩:=exq ((XS (JL QU pre) x).2);rw[u]at D;have d9:Fence.wide.fn 9:=trivial;have d8:Fence.wide.fn 8:=trivial;have c9:1<=n-1-1:=Q0;obtain⟨rb,a6⟩:∃rb:ByteArray,⟨r.toArray⟩=rb:=⟨_,rfl⟩;rw[a6]at D;have a8:rb.data.toList=r:=by rw[<-a6]
  clear j u Z
  gi_wp2_with (first
   |(gi_at_call 9;refine(CallsIn.inRound _ (DU.2 D)).mono ?_;rintro e W1⟨rfl,a7,a4,d4,b0⟩;have d3:rb.size<=10000000000:=(by rw[KD,a8];exact a7);have HW:=J6 b0;have y:=J6 a4;clear b0 a4 a7)
   |(gi_at_call 8;refine(CallsIn.inRound _ (DU.2 (HW _ (by simp[a8])))).mono ?_;rintro e W2⟨⟨kk,rfl⟩,d0,d1⟩))
  exact⟨y _ Q0 Q0,y _ Q0 Q0,y _ Q0 Q0,y _ Q0 Q0,y _ Q0 Q0⟩
 intro W j hD;obtain⟨G,p,v,-,hb,-,-⟩:=j.ex;obtain⟨a1,a0⟩:=Xt6 (Xh9 w.heap.size (w.heap.size+1) _ W hb.is j.low.size) j.low;have e1:Fence.wide.fn 10:=trivial;obtain⟨r,u⟩:∃r:ByteArray,⟨(BN QU (E6 q.data.toList)).toArray⟩=r:=⟨_,rfl⟩;rw[u]at a1;have HR:=J6 u;clear j hb u
 gi_wp2_with (gi_at_call 10;refine(DU.2 a1).mono ?_;rintro e W2⟨rfl,-,a2,c7⟩)
 have c5:W.heap[w.heap.size+5]?=some (.deferred (some [])):=by rw[<-a9];exact hD
 have c6:=c7 (w.heap.size+5) _ c5 Q3 (fun c fz e=>by cases e);refine⟨Q3,.inl ⟨_,_,rfl,run_takeDeferred c6,?_⟩⟩;have c8:Ql t.data.toList=BN QU (E6 q.data.toList):=by unfold Ql;rw[<-KD,J8 Q0,<-E.out]
 refine⟨_,DA rfl _ _ _,?_,?_⟩
 ·rw[c8,HR.out]
  rfl
 exact(a0.trans a2).trans ((Xy W2 (w.heap.size+5) _).below (fun i j=>by have j:i=w.heap.size+5:=j;omega) (U4 a0.size a2.size))
theorem Qz7 t(ht:t.size<=4000)w(i:QH w)(j:12<=w.heap.size):Calls prog 4 #[.string t] w fun e w'=>e=.returned (.string ⟨(Ql t.data.toList).toArray⟩)/\Bz w w':=
 DU.1 (Jj5 6 Q0 t ht w i j)
