/- Parts. -/
import Derived.Test.YtnlngicnfegjgaaGreatDoorZq1
set_option linter.unusedVariables false
set_option maxRecDepth 100000
set_option maxHeartbeats 8000000
namespace Go.Proofs.YtnlngicnfegjgaaGreatDoor
section
open Go
section
variable {P:Program} {ops:Array Oper} {Q:Exit->Act->World->Prop} {md:Region.Mode} {S:World->Prop} {t:Nat}
def KF (P:Program) (md:Region.Mode) (ops:Array Oper) (Q:Exit->Act->World->Prop) (S:World->Prop) (t:Nat):Nat->Array Bool->Act->World->Prop
 |0,listed,a,w=>Region.ready md ops listed= []/\Q .normal a w
 |fuel+1,listed,a,w=>
  (Region.ready md ops listed= []->Q .normal a w)/\
  ∀i∈Region.ready md ops listed,wpOp P ops Q i (fun a' w'=>(i≠t->S w')/\KF P md ops Q S t fuel (listed.setIfInBounds i true) a' w') a w
theorem Bl: ∀(fuel:Nat) (listed:Array Bool) (a:Act) (w:World),KF P md ops Q S t fuel listed a w->wpAny P md ops Q fuel listed a w
 |0,_,_,_,h=>h
 |fuel+1,_,_,_,h=>⟨h.1,fun i hi=>wpOp_mono (fun a' w' h'=>Bl fuel _ a' w' h'.2) (h.2 i hi)⟩
theorem Tt {i oi v} (N:ops[i]?=some oi) (b8:i≠t) (hw:Region.waitsFor md ops t i=true) (a5: ∀(j:Nat) o cs b,ops[j]?=some o->o.op≠ .select cs b)
  (hQ: ∀c a w,Q (.panic c) (a.put oi.dst v) w->Q (.panic c) a w):
  ∀fuel listed a w,
   (∀j oj,ops[j]?=some oj->j≠i->listed.getD j true=false->(∀e∈oj.after,Region.binds md e=true->e.on≠i)->oi.apart ops oj=true)->
   i∈Region.ready md ops listed->YieldsIf P ops S oi v a->S w->
   KF P md ops Q S t fuel (listed.setIfInBounds i true) (a.put oi.dst v) w->KF P md ops Q S t (fuel+1) listed a w:=by
 intro fuel
 induction fuel with
 |zero=>
  intro listed a w _ y hy C H;refine⟨fun h=>(by rw[h]at y;cases y),fun j D=> ?_⟩
  by_cases u:j=i
  ·subst u;exact hy.wpOp N C ⟨fun _=>C,H⟩
  have:=ready_mono D u;rw[H.1]at this
  cases this
 |succ fuel ih=>
  intro listed a w a0 y hy C H;refine⟨fun h=>(by rw[h]at y;cases y),fun j D=> ?_⟩
  by_cases u:j=i
  ·subst u;exact hy.wpOp N C ⟨fun _=>C,H⟩
  have h1:=H.2 j (ready_mono D u);obtain⟨a4,oj,E,a9⟩:=mem_ready.1 D;have a3: ∀e∈oj.after,Region.binds md e=true->e.on≠i:=fun e he Z b2=>by
   have h1:=a9 e he Z;have h0:=(mem_ready.1 y).1;rw[b2]at h1;rcases ED i listed.size with U|U
   ·simp[U]at h0 h1;rw[h0]at h1;cases h1
   simp[Array.getElem?_eq_none U]at h1
  have a2:j≠t:=fun e=>by
   subst e;obtain⟨o',b5,e,he,Z,a8⟩:=Region.waitsFor_spec hw;have:o'=oj:=KZ (b5.symm.trans E);subst this;exact a3 e he Z a8
  have h2:=wpOp_putIf E (a0 j oj E u a4 a3) (fun cs b=>a5 i oi cs b N) (fun cs b=>a5 j oj cs b E) hQ hy h1;have b0: ∀k ok,ops[k]?=some ok->k≠i->(listed.setIfInBounds j true).getD k true=false->
    (∀e∈ok.after,Region.binds md e=true->e.on≠i)->oi.apart ops ok=true:=fun k ok hk b1 a6 a7=>by
   refine a0 k ok hk b1 ?_ a7
   by_cases a1:j=k
   ·subst a1;exact a4
   rw[getD_set_ne true a1]at a6;exact a6
  refine wpOp_mono (fun a' w' J=>⟨fun _=>J.2.1 a2,ih (listed.setIfInBounds j true) a' w' b0 (ready_mono y (XV u)) J.1 (J.2.1 a2) ?_⟩) h2;rw[Array.setIfInBounds_comm _ _ u];exact J.2.2
theorem Qa0 {i oi v fuel listed a w} (j:ops[i]?=some oi) (u:(i ==t)=false) (C:Region.waitsFor md ops t i=true)
  (E:Region.noSelect ops=true) (y:Region.free md ops listed i=true) (J:(Region.ready md ops listed).contains i=true)
  (D: ∀c a w,Q (.panic c) (a.put oi.dst v) w->Q (.panic c) a w) (hy:YieldsIf P ops S oi v a) (N:S w)
  (h:KF P md ops Q S t fuel (listed.setIfInBounds i true) (a.put oi.dst v) w):KF P md ops Q S t (fuel+1) listed a w:=
 Tt j (by simpa using u) C (Region.noSelect_spec E) D fuel listed a w (Region.free_spec j y) (by simpa using J) hy N h
theorem Vq {rs fuel listed a w} (j:Region.ready md ops listed=rs) (u:rs≠ [])
  (h: ∀i∈rs,wpOp P ops Q i (fun v w'=>(i≠t->S w')/\KF P md ops Q S t fuel (listed.setIfInBounds i true) v w') a w):KF P md ops Q S t (fuel+1) listed a w:=
 ⟨fun y=>absurd (j▸y) u,j▸h⟩
theorem YU {listed:Array Bool} {a:Act} {w:World} (hr:Region.ready md ops listed= []) (h:Q .normal a w):
  ∀fuel,KF P md ops Q S t fuel listed a w
 |0=>⟨hr,h⟩
 |_+1=>⟨fun _=>h,by rw[hr];simp⟩
theorem Sh {id a w} t S (i:P.follows .mixedOrders=true)
  (h:KF P .any ops Q S t ops.size (Array.replicate ops.size false) a {w with drawn:=w.drawn+1}):(Code.region id ops true).wp P Q a w:=
 wp_region_any i (Bl _ _ _ _ h)
theorem CH {id a w} t S (j:P.follows .mixedOrders=true) (i:S w.drew)
  (h:S w.drew->KF P .any ops Q S t ops.size (Array.replicate ops.size false) a w.drew):(Code.region id ops true).wp P Q a w:=Sh t S j (h i)
theorem NL {l rest:List Oper} {i oi} (j:l.drop i=oi::rest):l.toArray[i]?=some oi:=by
 have h:(l.drop i)[0]?=some oi:=by rw[j];rfl
 rw[FS]at h
 simpa using h
theorem Jm0 {l rest:List Oper} (i d:Nat) {oi} v {fuel listed a w} (N:l.drop i=oi::rest) (j:oi.dst=some d) (u:(i ==t)=false) (E:Region.waitsFor md l.toArray t i=true)
  (U:Region.noSelect l.toArray=true) (y:Region.free md l.toArray listed i=true) (Z:(Region.ready md l.toArray listed).contains i=true)
  (C: ∀c a w,Q (.panic c) (a.put oi.dst v) w->Q (.panic c) a w) (D:Region.wanted oi (yielded l.toArray a.tmps)=true) (hy: ∀w,S w->(execOp a.eval oi).run P w= .ok (.value v) w) (J:S w)
  (h:KF P md l.toArray Q S t fuel (listed.setIfInBounds i true) (a.put (some d) v) w):KF P md l.toArray Q S t (fuel+1) listed a w:=
 Qa0 (NL N) u E U y Z C (.inl ⟨D,hy⟩) J (by rw[j];exact h)
theorem tT {l rest:List Oper} (i:Nat) (v:Value) {d:Nat} {oi:Oper} {fuel:Nat} {listed listed':Array Bool} {a a':Act} {w:World}
  (h:KF P md l.toArray Q S t fuel listed' a' w)
  (U:l.drop i=oi::rest:=by rfl) (j:oi.dst=some d:=by rfl) (u:(i ==t)=false:=by rfl) (J:Region.waitsFor md l.toArray t i=true:=by kernel_rfl)
  (Z:Region.noSelect l.toArray=true:=by kernel_rfl) (C:Region.free md l.toArray listed i=true:=by kernel_rfl) (D:(Region.ready md l.toArray listed).contains i=true:=by kernel_rfl)
  (E: ∀c a w,Q (.panic c) (a.put oi.dst v) w->Q (.panic c) a w:=by exact fun _ _ _ h=>h) (N:Region.wanted oi (yielded l.toArray a.tmps)=true:=by rfl)
  (hy: ∀w,S w->(execOp a.eval oi).run P w= .ok (.value v) w:=by intro W a0;go_simp) (hS:S w:=by first|trivial|assumption)
  (hp:a.put (some d) v=a':=by first|(simp only[Act.put,List.setIfInBounds_toArray,List.set_cons_zero,List.set_cons_succ];rfl)|rfl)
  (y:listed.setIfInBounds i true=listed':=by first|(simp only[List.setIfInBounds_toArray,List.set_cons_zero,List.set_cons_succ];rfl)|rfl):KF P md l.toArray Q S t (fuel+1) listed a w:=
 Jm0 i d v U j u J Z C D E N hy hS (by rw[hp,y];exact h)
theorem Y8 {l rest:List Oper} i {o fuel listed a w} (E:Region.ready md l.toArray listed= [i]) (y:l.drop i=o::rest)
  (h: ∀K',(∀a w,S w->(S w->KF P md l.toArray Q S t fuel (listed.setIfInBounds i true) a w)->K' a w)->if Region.wanted o (yielded l.toArray a.tmps)=true then Oper.wp P o a w K' Q else K' (a.put o.dst undef) w):KF P md l.toArray Q S t (fuel+1) listed a w:=
 Vq E (by simp) (fun j u=>by
  rw[VK]at u;subst u;exact wpOp_step (NL y) fun K' C=>h K' (fun a w v D=>C a w ⟨fun _=>v,D v⟩))
theorem YY {l rest:List Oper} {o fuel listed a w} (C:Region.ready md l.toArray listed= [t]) (u:l.drop t=o::rest)
  (h: ∀K',(∀a w,KF P md l.toArray Q S t fuel (listed.setIfInBounds t true) a w->K' a w)->if Region.wanted o (yielded l.toArray a.tmps)=true then Oper.wp P o a w K' Q else K' (a.put o.dst undef) w):KF P md l.toArray Q S t (fuel+1) listed a w:=
 Vq C (by simp) (fun j i=>by
  rw[VK]at i;subst i;exact wpOp_step (NL u) fun K' v=>h K' (fun a w y=>v a w ⟨fun e=>absurd rfl e,y⟩))
end
section
variable {P:Program} {ops:Array Oper} {Q:Exit->Act->World->Prop} {md:Region.Mode} {S:World->Prop} {T:Nat->Bool}
def QD (P:Program) (md:Region.Mode) (ops:Array Oper) (Q:Exit->Act->World->Prop) (S:World->Prop) (T:Nat->Bool):Nat->Array Bool->Act->World->Prop
 |0,listed,a,w=>Region.ready md ops listed= []/\Q .normal a w
 |fuel+1,listed,a,w=>
  (Region.ready md ops listed= []->Q .normal a w)/\
  ∀i∈Region.ready md ops listed,wpOp P ops Q i (fun a' w'=>(T i=false->S w')/\QD P md ops Q S T fuel (listed.setIfInBounds i true) a' w') a w
theorem Bm: ∀(fuel:Nat) (listed:Array Bool) (a:Act) (w:World),QD P md ops Q S T fuel listed a w->wpAny P md ops Q fuel listed a w
 |0,_,_,_,h=>h
 |fuel+1,_,_,_,h=>⟨h.1,fun i hi=>wpOp_mono (fun a' w' h'=>Bm fuel _ a' w' h'.2) (h.2 i hi)⟩
theorem Tu {i oi v} (N:ops[i]?=some oi) (hw: ∀t,T t=true->Region.waitsFor md ops t i=true) (a5: ∀(j:Nat) o cs b,ops[j]?=some o->o.op≠ .select cs b)
  (hQ: ∀c a w,Q (.panic c) (a.put oi.dst v) w->Q (.panic c) a w):
  ∀fuel listed a w,
   (∀j oj,ops[j]?=some oj->j≠i->listed.getD j true=false->(∀e∈oj.after,Region.binds md e=true->e.on≠i)->oi.apart ops oj=true)->
   i∈Region.ready md ops listed->YieldsIf P ops S oi v a->S w->
   QD P md ops Q S T fuel (listed.setIfInBounds i true) (a.put oi.dst v) w->QD P md ops Q S T (fuel+1) listed a w:=by
 intro fuel
 induction fuel with
 |zero=>
  intro listed a w _ y hy C H;refine⟨fun h=>(by rw[h]at y;cases y),fun j D=> ?_⟩
  by_cases u:j=i
  ·subst u;exact hy.wpOp N C ⟨fun _=>C,H⟩
  have:=ready_mono D u;rw[H.1]at this
  cases this
 |succ fuel ih=>
  intro listed a w a0 y hy C H;refine⟨fun h=>(by rw[h]at y;cases y),fun j D=> ?_⟩
  by_cases u:j=i
  ·subst u;exact hy.wpOp N C ⟨fun _=>C,H⟩
  have h1:=H.2 j (ready_mono D u);obtain⟨a4,oj,E,a9⟩:=mem_ready.1 D;have a3: ∀e∈oj.after,Region.binds md e=true->e.on≠i:=fun e he Z b2=>by
   have h1:=a9 e he Z;have h0:=(mem_ready.1 y).1;rw[b2]at h1;rcases ED i listed.size with U|U
   ·simp[U]at h0 h1;rw[h0]at h1;cases h1
   simp[Array.getElem?_eq_none U]at h1
  have a2:T j=false:=by
   cases hT:T j with
   |false=>rfl
   |true=>
    exfalso
    obtain⟨o',b5,e,he,Z,a8⟩:=Region.waitsFor_spec (hw j hT);have:o'=oj:=KZ (b5.symm.trans E);subst this;exact a3 e he Z a8
  have h2:=wpOp_putIf E (a0 j oj E u a4 a3) (fun cs b=>a5 i oi cs b N) (fun cs b=>a5 j oj cs b E) hQ hy h1;have b0: ∀k ok,ops[k]?=some ok->k≠i->(listed.setIfInBounds j true).getD k true=false->
    (∀e∈ok.after,Region.binds md e=true->e.on≠i)->oi.apart ops ok=true:=fun k ok hk b1 a6 a7=>by
   refine a0 k ok hk b1 ?_ a7
   by_cases a1:j=k
   ·subst a1;exact a4
   rw[getD_set_ne true a1]at a6;exact a6
  refine wpOp_mono (fun a' w' J=>⟨fun _=>J.2.1 a2,ih (listed.setIfInBounds j true) a' w' b0 (ready_mono y (XV u)) J.1 (J.2.1 a2) ?_⟩) h2;rw[Array.setIfInBounds_comm _ _ u];exact J.2.2
theorem Qa1 {i oi v fuel listed a w} (j:ops[i]?=some oi) (y: ∀t,T t=true->Region.waitsFor md ops t i=true)
  (D:Region.noSelect ops=true) (u:Region.free md ops listed i=true) (E:(Region.ready md ops listed).contains i=true)
  (C: ∀c a w,Q (.panic c) (a.put oi.dst v) w->Q (.panic c) a w) (hy:YieldsIf P ops S oi v a) (J:S w)
  (h:QD P md ops Q S T fuel (listed.setIfInBounds i true) (a.put oi.dst v) w):QD P md ops Q S T (fuel+1) listed a w:=
 Tu j y (Region.noSelect_spec D) C fuel listed a w (Region.free_spec j u) (by simpa using E) hy J h
theorem Vr {rs fuel listed a w} (j:Region.ready md ops listed=rs) (u:rs≠ [])
  (h: ∀i∈rs,wpOp P ops Q i (fun v w'=>(T i=false->S w')/\QD P md ops Q S T fuel (listed.setIfInBounds i true) v w') a w):QD P md ops Q S T (fuel+1) listed a w:=
 ⟨fun y=>absurd (j▸y) u,j▸h⟩
theorem D5 {listed:Array Bool} {a:Act} {w:World} (hr:Region.ready md ops listed= []) (h:Q .normal a w):
  ∀fuel,QD P md ops Q S T fuel listed a w
 |0=>⟨hr,h⟩
 |_+1=>⟨fun _=>h,by rw[hr];simp⟩
theorem Si {id a w} T S (i:P.follows .mixedOrders=true)
  (h:QD P .any ops Q S T ops.size (Array.replicate ops.size false) a {w with drawn:=w.drawn+1}):(Code.region id ops true).wp P Q a w:=
 wp_region_any i (Bm _ _ _ _ h)
theorem XF {id a w} T S (j:P.follows .mixedOrders=true) (i:S w.drew)
  (h:S w.drew->QD P .any ops Q S T ops.size (Array.replicate ops.size false) a w.drew):(Code.region id ops true).wp P Q a w:=Si T S j (h i)
theorem Lk {l rest:List Oper} {i oi} (j:l.drop i=oi::rest):l.toArray[i]?=some oi:=by
 have h:(l.drop i)[0]?=some oi:=by rw[j];rfl
 rw[FS]at h
 simpa using h
theorem Jm1 {l rest:List Oper} (i d:Nat) {oi} v {ts:List Nat} {fuel listed a w} (J:l.drop i=oi::rest) (j:oi.dst=some d) (D:(ts.all fun t=>Region.waitsFor md l.toArray t i)=true)
  (N:Region.noSelect l.toArray=true) (u:Region.free md l.toArray listed i=true) (U:(Region.ready md l.toArray listed).contains i=true)
  (y: ∀c a w,Q (.panic c) (a.put oi.dst v) w->Q (.panic c) a w) (C:Region.wanted oi (yielded l.toArray a.tmps)=true) (hy: ∀w,S w->(execOp a.eval oi).run P w= .ok (.value v) w) (E:S w)
  (h:QD P md l.toArray Q S (fun t=>ts.contains t) fuel (listed.setIfInBounds i true) (a.put (some d) v) w):QD P md l.toArray Q S (fun t=>ts.contains t) (fuel+1) listed a w:=
 Qa1 (Lk J) (fun t ht=>LD.1 D t (by simpa using ht)) N u U y (.inl ⟨C,hy⟩) E (by rw[j];exact h)
theorem UD {S':World->Prop} (hS: ∀w,S' w->S w): ∀(fuel:Nat) {listed:Array Bool} {a:Act} {w:World},QD P md ops Q S' T fuel listed a w->QD P md ops Q S T fuel listed a w
 |0,_,_,_,h=>h
 |fuel+1,_,_,_,h=>⟨h.1,fun i hi=>wpOp_mono (fun a' w' h'=>⟨fun e=>hS _ (h'.1 e),UD hS fuel h'.2⟩) (h.2 i hi)⟩
theorem L9 {l rest:List Oper} i {o fuel} {listed:Array Bool} {a w} (j:l.drop i=o::rest)
  (h: ∀K',(∀a w,(T i=false->S w)->QD P md l.toArray Q S T fuel (listed.setIfInBounds i true) a w->K' a w)->if Region.wanted o (yielded l.toArray a.tmps)=true then Oper.wp P o a w K' Q else K' (a.put o.dst undef) w):
  wpOp P l.toArray Q i (fun y w'=>(T i=false->S w')/\QD P md l.toArray Q S T fuel (listed.setIfInBounds i true) y w') a w:=
 wpOp_step (Lk j) fun K' u=>h K' (fun a w C v=>u a w ⟨C,v⟩)
theorem Jm2 {i fuel listed a w} (j:Region.ready md ops listed= [i])
  (h:wpOp P ops Q i (fun u w'=>(T i=false->S w')/\QD P md ops Q S T fuel (listed.setIfInBounds i true) u w') a w):QD P md ops Q S T (fuel+1) listed a w:=
 Vr j (by simp) (fun k hk=>by rw[VK]at hk;subst hk;exact h)
theorem UK {i j fuel listed a w} (v:Region.ready md ops listed= [i,j])
  (h1:wpOp P ops Q i (fun u w'=>(T i=false->S w')/\QD P md ops Q S T fuel (listed.setIfInBounds i true) u w') a w)
  (h2:wpOp P ops Q j (fun u w'=>(T j=false->S w')/\QD P md ops Q S T fuel (listed.setIfInBounds j true) u w') a w):QD P md ops Q S T (fuel+1) listed a w:=
 Vr v (by simp) (fun k hk=>by
  rw[D4,VK]at hk;rcases hk with rfl|rfl
  ·exact h1
  exact h2)
theorem Rg {i j m fuel listed a w} (y:Region.ready md ops listed= [i,j,m])
  (h1:wpOp P ops Q i (fun u w'=>(T i=false->S w')/\QD P md ops Q S T fuel (listed.setIfInBounds i true) u w') a w)
  (h2:wpOp P ops Q j (fun u w'=>(T j=false->S w')/\QD P md ops Q S T fuel (listed.setIfInBounds j true) u w') a w)
  (v:wpOp P ops Q m (fun u w'=>(T m=false->S w')/\QD P md ops Q S T fuel (listed.setIfInBounds m true) u w') a w):QD P md ops Q S T (fuel+1) listed a w:=
 Vr y (by simp) (fun k hk=>by
  rw[D4,D4,VK]at hk;rcases hk with rfl|rfl|rfl
  ·exact h1
  ·exact h2
  exact v)
theorem tM {l rest:List Oper} (i:Nat) (v:Value) {d:Nat} {oi:Oper} {ts:List Nat} {fuel:Nat} {listed listed':Array Bool} {a a':Act} {w:World}
  (h:QD P md l.toArray Q S (fun t=>ts.contains t) fuel listed' a' w)
  (N:l.drop i=oi::rest:=by rfl) (j:oi.dst=some d:=by rfl) (E:(ts.all fun t=>Region.waitsFor md l.toArray t i)=true:=by kernel_rfl)
  (U:Region.noSelect l.toArray=true:=by kernel_rfl) (y:Region.free md l.toArray listed i=true:=by kernel_rfl) (C:(Region.ready md l.toArray listed).contains i=true:=by kernel_rfl)
  (D: ∀c a w,Q (.panic c) (a.put oi.dst v) w->Q (.panic c) a w:=by exact fun _ _ _ h=>h) (J:Region.wanted oi (yielded l.toArray a.tmps)=true:=by rfl)
  (hy: ∀w,S w->(execOp a.eval oi).run P w= .ok (.value v) w:=by intro W a0;go_simp) (Z:S w:=by first|trivial|assumption)
  (hp:a.put (some d) v=a':=by first|(simp only[Act.put,List.setIfInBounds_toArray,List.set_cons_zero,List.set_cons_succ];rfl)|rfl)
  (u:listed.setIfInBounds i true=listed':=by first|(simp only[List.setIfInBounds_toArray,List.set_cons_zero,List.set_cons_succ];rfl)|rfl):QD P md l.toArray Q S (fun t=>ts.contains t) (fuel+1) listed a w:=
 Jm1 i d v N j E U y C D J hy Z (by rw[hp,u];exact h)
theorem oM {l rest:List Oper} (i:Nat) {o:Oper} {fuel:Nat} {listed listed':Array Bool} {a:Act} {w:World}
  (h: ∀K':Act->World->Prop,(∀a w,(T i=false->S w)->QD P md l.toArray Q S T fuel listed' a w->K' a w)->if Region.wanted o (yielded l.toArray a.tmps)=true then Oper.wp P o a w K' Q else K' (a.put o.dst undef) w)
  (u:l.drop i=o::rest:=by rfl) (v:Region.ready md l.toArray listed= [i]:=by kernel_rfl)
  (j:listed.setIfInBounds i true=listed':=by first|(simp only[List.setIfInBounds_toArray,List.set_cons_zero,List.set_cons_succ];rfl)|rfl):QD P md l.toArray Q S T (fuel+1) listed a w:=
 Jm2 v (L9 i u (by rw[j];exact h))
end
end
section
variable {α:Type} {r:α->Int}
def QK (r:α->Int) (x y:α×Nat):Prop:=r x.1<r y.1\/(r x.1=r y.1/\x.2<y.2)
theorem QK.trans {x y z} (h:QK r x y) (k:QK r y z):QK r x z:=by unfold QK at*;omega
theorem QK.asymm {x y} (h:QK r x y) (k:QK r y x):False:=by unfold QK at*;omega
theorem QK.of_not {x y} (h: ¬r y.1<r x.1) (k:x.2<y.2):QK r x y:=by unfold QK;omega
def C6 (r:α->Int) (L:List (α×Nat)):Prop:=L.Pairwise (QK r)
def VE (X Y:List (α×Nat)):Prop:= ∀x∈X,∀y∈Y,x.2<y.2
def FE (r:α->Int) (X Y:List (α×Nat)):Prop:= ∀x∈X,∀y∈Y,QK r x y
theorem YS {X Y}:C6 r (X++Y)↔C6 r X/\C6 r Y/\FE r X Y:=by unfold C6 FE;rw[AR]
theorem Qx3 {L} (h:C6 r L) {i j} (y:i<L.length) (u:j<L.length) (v:i<j):QK r L[i] L[j]:=(DZ.1 h) i j y u v
theorem Ll {L} (h:C6 r L) {i j} (v:i<L.length) (u:j<L.length) (y:i<=j):L[i]=L[j]\/QK r L[i] L[j]:=by
 by_cases e:i=j
 ·subst e;exact .inl rfl
 exact .inr (Qx3 h v u (by omega))
theorem VE.perm {X i Y Y':List (α×Nat)} (h:VE X Y) (j:i.Perm X) (hy:Y'.Perm Y):VE i Y':=fun x a y b=>h x (j.mem_iff.1 a) y (hy.mem_iff.1 b)
theorem RW {X Y:List (α×Nat)} (C:C6 r X) (E:C6 r Y) (h: ∀(h1:0<X.length) (h2:0<Y.length),QK r (X[X.length-1]'(by omega)) Y[0]):FE r X Y:=by
 intro x v y hy
 obtain⟨i,J,rfl⟩:=XG.1 v
 obtain⟨j,D,rfl⟩:=XG.1 hy
 have u:=h (by omega) (by omega)
 have h1:X[i]=X[X.length-1]\/QK r X[i] X[X.length-1]:=Ll C J (by omega) (by omega)
 have h2:Y[0]=Y[j]\/QK r Y[0] Y[j]:=Ll E (by omega) D (by omega)
 rcases h1 with h1|h1<;>rcases h2 with h2|h2
 ·rw[h1,<-h2];exact u
 ·rw[h1];exact u.trans h2
 ·rw[<-h2];exact h1.trans u
 exact(h1.trans u).trans h2
structure KN (r:α->Int) (L R:List (α×Nat)):Prop where
 l:C6 r L
 r:C6 r R
 tag:VE L R
theorem KN.parts {L1 L2 R1 R2} (h:KN r (L1++L2) (R1++R2)):KN r L1 R1/\KN r L2 R2:=
 ⟨⟨(YS.1 h.l).1,(YS.1 h.r).1,fun x a y b=>h.tag x (S9 _ a) y (S9 _ b)⟩,
  ⟨(YS.1 h.l).2.1,(YS.1 h.r).2.1,fun x a y b=>h.tag x (QB _ a) y (QB _ b)⟩⟩
theorem Qx4 {X X' Y Y'} (h:FE r X Y) (i:X'.Perm X) (hy:Y'.Perm Y):FE r X' Y':=fun x a y b=>h x (i.mem_iff.1 a) y (hy.mem_iff.1 b)
theorem KN.joins {L1 L2 j u S1 S2:List (α×Nat)} (h:KN r (L1++L2) (j++u)) (D: ∀(h1:0<L1.length) (h2:0<u.length),QK r (L1[L1.length-1]'(by omega)) u[0]) (c2: ∀(h1:0<j.length) (h2:0<L2.length),QK r (j[j.length-1]'(by omega)) L2[0])
  (C:S1.Perm (L1++j)) (s1:C6 r S1) (v:S2.Perm (L2++u)) (E:C6 r S2):(S1++S2).Perm ((L1++L2)++(j++u))/\C6 r (S1++S2):=by
 obtain⟨a1,U,Z⟩:=YS.1 h.l
 obtain⟨b1,b2,b3⟩:=YS.1 h.r
 have N:=RW a1 b2 D
 have J:=RW b1 U c2
 refine⟨(C.append v).trans ?_,YS.2 ⟨s1,E,Qx4 (X:=L1++j) (Y:=L2++u) (fun x i y hy=> ?_) C v⟩⟩
 ·rw[VM,VM]
  refine List.Perm.append_left _ ?_;rw[<-VM,<-VM];exact List.Perm.append_right _ List.perm_append_comm
 rcases Y7.1 i with i|i<;>rcases Y7.1 hy with hy|hy
 ·exact Z x i y hy
 ·exact N x i y hy
 ·exact J x i y hy
 exact b3 x i y hy
theorem KN.one_l {x:α×Nat} {R:List (α×Nat)} {q:Nat} (h:KN r [x] R) (E:q<=R.length) (u: ∀(h2:q<R.length),¬r R[q].1<r x.1) (C: ∀(h1:0<q),r (R[q-1]'(by omega)).1<r x.1):
  (R.take q++x::R.drop q).Perm ([x]++R)/\C6 r (R.take q++x::R.drop q):=by
 have j:KN r ([]++ [x]) (R.take q++R.drop q):=by rw[P2];exact h
 have i:=(YS.1 j.r)
 have k:=j.joins (S1:=R.take q) (S2:=x::R.drop q) (fun h1 _=>absurd h1 (by simp)) (fun h1 h2=>by
  have D:(R.take q).length=q:=by rw[T6];omega
  have y:0<q:=by omega
  have e:(R.take q)[(R.take q).length-1]=R[q-1]'(by omega):=by simp[D]
  rw[e];exact .inl (C y)) (by simp) i.1 (by simp) (by
  have e:x::R.drop q= [x]++R.drop q:=rfl;rw[e];refine YS.2 ⟨h.l,i.2.1,RW h.l i.2.1 (fun h1 h2=> ?_)⟩;have v:q<R.length:=by rw[KK]at h2;omega
  simp only[List.getElem_drop];refine QK.of_not (x:=x) (u (by simpa using v)) (h.tag x (by simp) _ (Y1 _)))
 rw[P2]at k
 exact k
theorem KN.one_r {y:α×Nat} {L:List (α×Nat)} {q:Nat} (h:KN r L [y]) (E:q<=L.length) (u: ∀(h2:q<L.length),r y.1<r L[q].1) (C: ∀(h1:0<q),¬r y.1<r (L[q-1]'(by omega)).1):
  (L.take q++y::L.drop q).Perm (L++ [y])/\C6 r (L.take q++y::L.drop q):=by
 have j:KN r (L.take q++L.drop q) ([y]++ []):=by rw[P2];exact h
 have i:=(YS.1 j.l)
 have D:(L.take q).length=q:=by rw[T6];omega
 have k:=j.joins (S1:=L.take q++ [y]) (S2:=L.drop q) (fun _ h2=>absurd h2 (by simp)) (fun h1 h2=>by
  have v:q<L.length:=by rw[KK]at h2;omega
  have c:=u v;simp only[List.getElem_drop,List.length_singleton,Nat.sub_self,List.getElem_cons_zero,Nat.add_zero];exact .inl c) (by simp) (YS.2 ⟨i.1,h.r,RW i.1 h.r (fun h1 h2=>by
  have e:(L.take q)[(L.take q).length-1]=L[q-1]'(by omega):=by simp[D]
  rw[e];exact QK.of_not (C (by omega)) (h.tag _ (Y1 _) _ (by simp)))⟩) (by simp) i.2.1
 rw[P2,YP]at k
 rw[VM]at k
 exact k
theorem Pn {L R:List (α×Nat)} {x:α×Nat} (h:C6 r (L++R)) (ht:VE (L++R) [x]) (N:FE r [x] R) (J: ∀(h1:0<L.length),¬r x.1<r (L[L.length-1]'(by omega)).1):C6 r (L++x::R):=by
 obtain⟨C,D,E⟩:=YS.1 h
 have e:x::R= [x]++R:=rfl
 have j:C6 r [x]:=PY _ _
 have h1:FE r L [x]:=RW C j (fun h1 h2=>QK.of_not (J h1) (ht _ (S9 _ (Y1 _)) _ (by simp)))
 rw[e]
 refine YS.2 ⟨C,YS.2 ⟨j,D,N⟩,fun u y v i=> ?_⟩
 rcases Y7.1 i with i|i
 ·exact h1 u y v i
 exact E u y v i
theorem Qx5 {L' R x y} (h:C6 r (L'++(y::R))) (C:FE r [x] R) (hy:r x.1<r y.1):FE r [x] (y::R):=by
 intro u j v i
 simp at j
 subst j
 rcases D4.1 i with rfl|i
 ·exact .inl hy
 exact C u (by simp) v i
inductive VH (r:α->Int) (bs:Nat):List (α×Nat)->Prop
 |last (L:List (α×Nat)) (h1:L.length<=bs) (h2:C6 r L):VH r bs L
 |cons (L T:List (α×Nat)) (h1:L.length=bs) (h2:C6 r L) (h3:VE L T) (h4:VH r bs T):VH r bs (L++T)
theorem VH.short {bs T} (h:VH r bs T) (i:T.length<=bs):C6 r T:=by
 cases h with
 |last L h1 h2=>exact h2
 |cons L T h1 h2 j u=>
  rw[Y9]at i;have:T= []:=BN (by omega);subst this;rw[YP];exact h2
theorem VH.head {bs T} (h:VH r bs T) (u:bs<=T.length): ∃L T',T=L++T'/\L.length=bs/\C6 r L/\VE L T'/\VH r bs T':=by
 cases h with
 |last L h1 h2=>exact⟨T,[],by simp,by omega,h2,fun x _ y hy=>(by cases hy),.last [] (by simp) List.Pairwise.nil⟩
 |cons L T h1 h2 i j=>exact⟨L,T,rfl,h1,h2,i,j⟩
theorem VH.two {bs T} (h:VH r bs T) (N:bs<T.length): ∃L R T',T=L++(R++T')/\L.length=bs/\R.length=min bs (T.length-bs)/\KN r L R/\VE (L++R) T'/\VH r bs T':=by
 obtain⟨L,v,rfl,h1,h2,j,u⟩:=h.head (by omega)
 rw[Y9]at N
 by_cases D:bs<=v.length
 ·obtain⟨R,T',rfl,U,E,J,C⟩:=u.head D
  refine⟨L,R,T',rfl,h1, ?_,⟨h2,E,fun x i y hy=>j x i y (S9 _ hy)⟩,fun x i y hy=> ?_,C⟩
  ·rw[Y9,Y9];omega
  rcases Y7.1 i with i|i
  ·exact j x i y (QB _ hy)
  exact J x i y hy
 refine⟨L,v,[],by simp,h1, ?_,⟨h2,u.short (by omega),j⟩,fun x _ y hy=>(by cases hy),.last [] (by simp) List.Pairwise.nil⟩
 rw[Y9];omega
def MY (r:α->Int) (bs:Nat) (P:List (α×Nat)):Prop:= ∀Z,VH r bs Z->VE P Z->VH r bs (P++Z)
theorem Fv bs:MY r bs []:=fun Z h _=>h
theorem MY.snoc {bs P S} (h:MY r bs P) (u:S.length=bs) (v:C6 r S) (ht:VE P S):MY r bs (P++S):=fun Z j hp=>by
 rw[VM]
 refine h _ (.cons S Z u v (fun x i y hy=>hp x (QB _ i) y hy) j) (fun x i y hy=> ?_)
 rcases Y7.1 hy with hy|hy
 ·exact ht x i y hy
 exact hp x (S9 _ i) y hy
theorem MY.ends {bs P S} (h:MY r bs P) (i:S.length<=bs) (j:C6 r S) (ht:VE P S):VH r bs (P++S):=h S (.last S i j) ht
def XT (r:α->Int) (L:List α) (x:α):List α:=L.takeWhile (fun y=>decide (r y<=r x))++x::L.dropWhile (fun y=>decide (r y<=r x))
def YC (r:α->Int) (l:List α):List α:=l.foldl (XT r) []
def DS (r:α->Int) (L:List (α×Nat)) (x:α×Nat):List (α×Nat):=L.takeWhile (fun y=>decide (r y.1<=r x.1))++x::L.dropWhile (fun y=>decide (r y.1<=r x.1))
theorem Qn6 L x:(DS r L x).map (·.1)=XT r (L.map (·.1)) x.1:=by
 unfold DS XT
 rw[T1,S6,List.takeWhile_map,List.dropWhile_map]
 rfl
theorem Qe8 L x:(DS r L x).Perm (x::L):=by
 unfold DS
 refine List.perm_middle.trans ?_
 rw[FN]
theorem Qe9 {L x} (h:C6 r L) (ht:VE L [x]):C6 r (DS r L x):=by
 have e:L.takeWhile (fun y=>decide (r y.1<=r x.1))++L.dropWhile (fun y=>decide (r y.1<=r x.1))=L:=FN
 have j: ∀y,(L.dropWhile (fun y=>decide (r y.1<=r x.1))).head?=some y-> ¬r y.1<=r x.1:=fun y hy D=>by
  have:=List.head?_dropWhile_not (p:=fun y:α×Nat=>decide (r y.1<=r x.1)) L;rw[hy]at this;simp at this;omega
 have i: ∀y∈L.takeWhile (fun y=>decide (r y.1<=r x.1)),r y.1<=r x.1:=fun y hy=>by
  have:=LD.1 (List.all_takeWhile (p:=fun y:α×Nat=>decide (r y.1<=r x.1)) (l:=L)) y hy;simpa using this
 unfold DS
 generalize L.takeWhile (fun y=>decide (r y.1<=r x.1))=A at*
 generalize L.dropWhile (fun y=>decide (r y.1<=r x.1))=B at*
 subst e
 obtain⟨v,u,E⟩:=YS.1 h
 refine Pn h ht ?_ (fun h1=>by have:=i _ (Y1 (l:=A) (n:=A.length-1) (by omega));omega)
 refine RW (PY _ _) u (fun h1 h2=> ?_)
 have C:=j B[0] (by rw[List.head?_eq_getElem?];exact KP h2)
 exact .inl (by simp;omega)
theorem Qn7 (l:List α): ∀k L,C6 r L->(∀x∈L,x.2<k)->C6 r ((l.zipIdx k).foldl (DS r) L)/\((l.zipIdx k).foldl (DS r) L).Perm (L++l.zipIdx k)/\((l.zipIdx k).foldl (DS r) L).map (·.1)=l.foldl (XT r) (L.map (·.1)):=by
 induction l with
 |nil=>intro k L h1 h2;exact⟨h1,by simp,rfl⟩
 |cons x t u=>
  intro k L h1 h2;rw[List.zipIdx_cons,QZ,QZ];have hp:=Qe8 (r:=r) L (x,k);obtain⟨C,j,v⟩:=u (k+1) (DS r L (x,k)) (Qe9 h1 (fun y hy z i=>by simp at i;subst i;exact h2 y hy)) (fun y hy=>by
   rcases D4.1 (hp.mem_iff.1 hy)with rfl|hy
   ·simp
   have:=h2 y hy;omega)
  refine⟨C,j.trans ?_,by rw[v,Qn6]⟩;refine(hp.append_right _).trans ?_;rw[MS];exact List.perm_middle.symm
theorem Fw {l T} (hp:T.Perm l.zipIdx) (u:C6 r T):T.map (·.1)=YC r l:=by
 obtain⟨h1,h2,j⟩:=Qn7 (r:=r) l 0 [] List.Pairwise.nil (fun x i=>by cases i)
 rw[VZ]at h2
 have e:T=l.zipIdx.foldl (DS r) []:=Zk (le:=QK r) (fun a b _ _ h k=>(h.asymm k).elim) u h1 (hp.trans h2.symm)
 rw[e,j]
 rfl
end
section
open Go.RowKit
def JA (o:Q8):Bool:=(decide (1<=o.qty) &&decide (o.qty<=1000000)) && (o.side ==1 ||o.side ==2)
def XA (p:Int) (o:Q8):Int:=if o.side=1/\(o.kind=2\/p<=o.price)then o.qty else 0
def XB (p:Int) (o:Q8):Int:=if o.side=2/\(o.kind=2\/o.price<=p)then o.qty else 0
def JU (p:Int) (l:List Q8):Int:=l.foldl (fun s o=>s+XA p o) 0
def JY (p:Int) (l:List Q8):Int:=l.foldl (fun s o=>s+XB p o) 0
theorem Qn8 p l o:JU p (l++ [o])=JU p l+XA p o:=by unfold JU;rw[CL];rfl
theorem Qn9 p l o:JY p (l++ [o])=JY p l+XB p o:=by unfold JY;rw[CL];rfl
def P6 (l:List Q8):List Q8:=l.filter JA
def N3 (l:List Q8) (more:Int):List Int:=(if 1<=more then [more]else [])++((P6 l).filter (fun o=> !(o.kind ==2))).map (·.price)
theorem Ea l o:P6 (l++ [o])=P6 l++(if JA o=true then [o]else []):=by
 unfold P6
 rw[QL]
 cases h:JA o<;>simp[h]
theorem Tv l o more:N3 (l++ [o]) more=N3 l more++(if JA o=true/\o.kind≠2 then [o.price]else []):=by
 unfold N3
 rw[Ea,QL,T1,VM]
 congr 2
 by_cases h1:JA o=true
 ·by_cases h2:o.kind=2<;>simp[h1,h2]
 simp[h1]
def BM (s:List Int×Option Int) (p:Int):List Int×Option Int:=if s.2=some p then s else(s.1++ [p],some p)
def Qp (l:List Int):List Int×Option Int:=l.foldl BM ([],none)
def dd (l:List Int):List Int:=(Qp l).1
theorem Lm l p:Qp (l++ [p])=BM (Qp l) p:=by unfold Qp;rw[CL];rfl
theorem Qx6 l:(Qp l).2=l.getLast?:=by
 rcases List.eq_nil_or_concat l with rfl|⟨l',p,rfl⟩
 ·rfl
 rw[List.concat_eq_append,Lm,List.getLast?_append]
 unfold BM
 split
 ·rename_i h;rw[h];rfl
 rfl
theorem Jf9 l p:dd (l++ [p])=if l.getLast?=some p then dd l else dd l++ [p]:=by
 unfold dd
 rw[Lm,<-Qx6]
 unfold BM
 split<;>rfl
theorem Ng (l:List Int): ∀j o,j.Pairwise (· < ·)->(∀x∈j,∀y∈l,x<=y)->(∀y,o=some y->y∈j/\ ∀x∈j,x<=y)->(o=none->j= [])->l.Pairwise (· <= ·)->
  (l.foldl BM (j,o)).1.Pairwise (· < ·)/\ ∀x,x∈(l.foldl BM (j,o)).1↔x∈j\/x∈l:=by
 induction l with
 |nil=>intro j o h1 h2 v E u;exact⟨h1,fun x=>by simp⟩
 |cons a l N=>
  intro j o h1 h2 v E u;rw[QZ];rw[LY]at u
  by_cases C:o=some a
  ·have e:BM (j,o) a=(j,o):=by unfold BM;rw[Q5 C]
   rw[e];obtain⟨D,J⟩:=N j o h1 (fun x i y hy=>h2 x i y (by simp[hy])) v E u.2;refine⟨D,fun x=> ?_⟩;rw[J];have:=(v a C).1;constructor
   ·rintro(h|h)
    ·exact .inl h
    exact .inr (by simp[h])
   rintro(h|h)
   ·exact .inl h
   rcases D4.1 h with rfl|h
   ·exact .inl this
   exact .inr h
  have e:BM (j,o) a=(j++ [a],some a):=by unfold BM;rw[Q3 C]
  rw[e];have U: ∀x∈j,x<a:=by
   intro x i
   cases o with
   |none=>rw[E rfl]at i;cases i
   |some y=>
    obtain⟨k1,Z⟩:=v y rfl;have h6:=h2 y k1 a (by simp);have h7:=Z x i;have h8:y≠a:=fun e=>C (by rw[e])
    omega
  obtain⟨D,J⟩:=N (j++ [a]) (some a) (AR.2 ⟨h1,PY _ _,fun x i y hy=>by simp at hy;subst hy;exact U x i⟩)
   (fun x i y hy=>by
    rcases Y7.1 i with i|i
    ·exact h2 x i y (by simp[hy])
    simp at i;subst i;exact u.1 y hy)
   (fun y hy=>by
    cases hy;exact⟨by simp,fun x i=>by
     rcases Y7.1 i with i|i
     ·exact NX (U x i)
     simp at i;omega⟩)
   (fun h=>by cases h) u.2
  refine⟨D,fun x=> ?_⟩;rw[J];simp[or_assoc]
theorem Qo0 (L ss:List Int) (E:ss.Nodup) (u: ∀x,x∈ss↔x∈L):dd (L.mergeSort fun x y=>decide (x<=y))=ss.mergeSort fun x y=>decide (x<=y):=by
 have tr: ∀a b c:Int,(decide (a<=b))=true->(decide (b<=c))=true->(decide (a<=c))=true:=fun a b c h1 h2=>by simp at*;omega
 have j: ∀a b:Int,(decide (a<=b) ||decide (b<=a))=true:=fun a b=>by simp;omega
 have C:=TX tr j L
 have D:(L.mergeSort fun x y=>decide (x<=y)).Pairwise (· <= ·):=C.imp (fun h=>by simpa using h)
 obtain⟨i,N⟩:=Ng (L.mergeSort fun x y=>decide (x<=y)) [] none List.Pairwise.nil (fun x U=>by cases U) (fun y h=>by cases h) (fun _=>rfl) D
 have v: ∀x,x∈dd (L.mergeSort fun x y=>decide (x<=y))↔x∈L:=fun x=>by
  show x∈(List.foldl BM ([],none) _).1↔_;rw[N];simp[List.mem_mergeSort]
 have J:(dd (L.mergeSort fun x y=>decide (x<=y))).Nodup:=i.imp (fun h=>by omega)
 refine Zk (le:=fun a b=>a<=b) (fun a b _ _ h1 h2=>by omega) (i.imp (fun h=>by omega)) ((TX tr j ss).imp (fun h=>by simpa using h)) ?_
 refine List.Perm.trans ?_ (Zo ss _).symm
 exact(List.perm_ext_iff_of_nodup J E).2 fun x=>(v x).trans (u x).symm
def BV (g:List Q8) (p:Int):X4:=(p,JU p g,JY p g)
def S7 (l:List Q8) (more:Int):List X4:=(dd ((N3 l more).mergeSort fun x y=>decide (x<=y))).map (BV (P6 l))
theorem Eb (F:Q8->Int) (l:List Q8) (i: ∀o∈l,0<=F o/\F o<=1000000): ∀s,0<=s->0<=l.foldl (fun s o=>s+F o) s/\l.foldl (fun s o=>s+F o) s<=s+1000000*l.length:=by
 induction l with
 |nil=>intro s u;simp;omega
 |cons a l v=>
  intro s u;have h1:=i a (by simp);have h2:=v (fun o j=>i o (by simp[j])) (s+F a) (by omega);rw[QZ,XX];refine⟨h2.1,GK h2.2 ?_⟩
  push_cast
  omega
theorem NM {o} (h:JA o=true):1<=o.qty/\o.qty<=1000000:=by unfold JA at h;simp at h;exact h.1
theorem Qf0 {p o} (h:JA o=true):0<=XA p o/\XA p o<=1000000:=by
 have:=NM h
 unfold XA
 split<;>omega
theorem Qf1 {p o} (h:JA o=true):0<=XB p o/\XB p o<=1000000:=by
 have:=NM h
 unfold XB
 split<;>omega
theorem Ec {p l} (h: ∀o∈l,JA o=true):0<=JU p l/\JU p l<=1000000*l.length:=by
 have:=Eb (XA p) l (fun o i=>Qf0 (h o i)) 0 (P8 _)
 unfold JU
 omega
theorem Ed {p l} (h: ∀o∈l,JA o=true):0<=JY p l/\JY p l<=1000000*l.length:=by
 have:=Eb (XB p) l (fun o i=>Qf1 (h o i)) 0 (P8 _)
 unfold JY
 omega
theorem Xw {l}: ∀o∈P6 l,JA o=true:=fun o i=>(P3.1 i).2
theorem Jj8 (l:List Int): ∀s,(l.foldl BM s).1.length<=s.1.length+l.length:=by
 induction l with
 |nil=>intro s;simp
 |cons a l i=>
  intro s;rw[QZ];refine G0 (i _) ?_;unfold BM
  split<;>simp<;>omega
theorem Ee l more:(S7 l more).length<=l.length+1:=by
 unfold S7
 rw[MT]
 have h1:=Jj8 ((N3 l more).mergeSort fun x y=>decide (x<=y)) ([],none)
 rw[List.length_mergeSort]at h1
 have h2:(N3 l more).length<=l.length+1:=by
  unfold N3;rw[Y9,MT];have j:=FR (fun o:Q8=> !(o.kind ==2)) (P6 l);have u:(P6 l).length<=l.length:=FR JA l;have i:(if 1<=more then [more]else []).length<=1:=by split<;>simp
  omega
 simp only[List.length_nil,Nat.zero_add]at h1
 exact G0 h1 h2
theorem Ar (L:List Int) x:x∈dd (L.mergeSort fun x y=>decide (x<=y))↔x∈L:=by
 have tr: ∀a b c:Int,(decide (a<=b))=true->(decide (b<=c))=true->(decide (a<=c))=true:=fun a b c h1 h2=>by simp at*;omega
 have v: ∀a b:Int,(decide (a<=b) ||decide (b<=a))=true:=fun a b=>by simp;omega
 have i:(L.mergeSort fun x y=>decide (x<=y)).Pairwise (· <= ·):=(TX tr v L).imp (fun h=>by simpa using h)
 obtain⟨_,j⟩:=Ng (L.mergeSort fun x y=>decide (x<=y)) [] none List.Pairwise.nil (fun x u=>by cases u) (fun y h=>by cases h) (fun _=>rfl) i
 show x∈(List.foldl BM ([],none) _).1↔_
 rw[j]
 simp[List.mem_mergeSort]
def FV (l:List Q8):Prop:= ∀o∈l,JA o=true
theorem WU {l} (h:FV l):P6 l=l:=KR.2 h
theorem Ef {l more} (h:FV l) {o} (i:o∈l) (hk: ¬o.kind=2):o.price∈N3 l more:=by
 unfold N3
 rw[WU h]
 refine Y7.2 (.inr (U4.2 ⟨o,P3.2 ⟨i,by simp[hk]⟩,rfl⟩))
