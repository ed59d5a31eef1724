/- Contracts and walks that the law's proof needs. -/
import Derived.OrdersHeld
import Derived.StillTail
import Derived.RegionTactic
import Derived.Test.YtnlngicnfegjgaaGreatZf2
import GoSem.Instr.MapEntry
set_option linter.unusedVariables false
set_option maxRecDepth 100000
set_option maxHeartbeats 8000000
namespace Go.Proofs.YtnlngicnfegjgaaGreat
open Go
section
variable {P:Program} {ops:Array Oper} {Q:Exit→Act→World→Prop} {md:Region.Mode} {S:World→Prop} {T:Nat→Bool}
def K0 (P:Program) (md:Region.Mode) (ops:Array Oper) (Q:Exit→Act→World→Prop) (S:World→Prop) (T:Nat→Bool):Nat→Array Bool→Act→World→Prop
 |0,listed,a,w=>Region.ready md ops listed= []∧Q .normal a w
 |fuel+1,listed,a,w=>
  (Region.ready md ops listed= []→Q .normal a w)∧
  ∀i∈Region.ready md ops listed,wpOp P ops Q i (fun a' w'=>(T i=false→S w')∧K0 P md ops Q S T fuel (listed.setIfInBounds i true) a' w') a w
theorem Qv5: ∀(fuel:Nat) (listed:Array Bool) (a:Act) (w:World),K0 P md ops Q S T fuel listed a w→wpAny P md ops Q fuel listed a w
 |0,_,_,_,h=>h
 |fuel+1,_,_,_,h=>⟨h.1,fun i hi=>wpOp_mono (fun a' w' h'=>Qv5 fuel _ a' w' h'.2) (h.2 i hi)⟩
theorem Xe4 {i:Nat} {oi:Oper} {v:Value} (hi:ops[i]?=some oi) (hw: ∀t,T t=true→Region.waitsFor md ops t i=true) (hsel: ∀(j:Nat) (o:Oper) cs b,ops[j]?=some o→o.op≠ .select cs b)
  (hQ: ∀c a w,Q (.panic c) (a.put oi.dst v) w→Q (.panic c) a w):
  ∀(fuel:Nat) (listed:Array Bool) (a:Act) (w:World),
   (∀j oj,ops[j]?=some oj→j≠i→listed.getD j true=false→(∀e∈oj.after,Region.binds md e=true→e.on≠i)→oi.apart ops oj=true)→
   i∈Region.ready md ops listed→YieldsIf P ops S oi v a→S w→
   K0 P md ops Q S T fuel (listed.setIfInBounds i true) (a.put oi.dst v) w→K0 P md ops Q S T (fuel+1) listed a w:=by
 intro fuel
 induction fuel with
 |zero=>
  intro listed a w _ hr hy hS H;refine⟨fun h=>(by rw[h]at hr;cases hr),fun j hj=> ?_⟩
  by_cases hji:j=i
  ·subst hji;exact hy.wpOp hi hS ⟨fun _=>hS,H⟩
  ·have:=ready_mono hj hji
   rw[H.1]at this
   cases this
 |succ fuel ih=>
  intro listed a w hfree hr hy hS H;refine⟨fun h=>(by rw[h]at hr;cases hr),fun j hj=> ?_⟩
  by_cases hji:j=i
  ·subst hji;exact hy.wpOp hi hS ⟨fun _=>hS,H⟩
  ·have h1:=H.2 j (ready_mono hj hji)
   obtain⟨hjun,oj,hoj,hall⟩:=mem_ready.1 hj;have hnot: ∀e∈oj.after,Region.binds md e=true→e.on≠i:=fun e he hb heq=>by
    have h1:=hall e he hb;have h0:=(mem_ready.1 hr).1;rw[heq]at h1;rcases Nat.lt_or_ge i listed.size with h'|h'
    ·simp[h']at h0 h1;rw[h0]at h1;cases h1
    ·simp[Array.getElem?_eq_none h']at h1
   have hjt:T j=false:=by
    cases hT:T j with
    |false=>rfl
    |true=>
     exfalso
     obtain⟨o',ho',e,he,hb,hon⟩:=Region.waitsFor_spec (hw j hT);have:o'=oj:=Option.some.inj (ho'.symm.trans hoj);subst this;exact hnot e he hb hon
   have h2:=wpOp_putIf hoj (hfree j oj hoj hji hjun hnot) (fun cs b=>hsel i oi cs b hi) (fun cs b=>hsel j oj cs b hoj) hQ hy h1;have hfree': ∀k ok,ops[k]?=some ok→k≠i→(listed.setIfInBounds j true).getD k true=false→
     (∀e∈ok.after,Region.binds md e=true→e.on≠i)→oi.apart ops ok=true:=fun k ok hk hki hun hno=>by
    refine hfree k ok hk hki ?_ hno
    by_cases hjk:j=k
    ·subst hjk;exact hjun
    ·rw[getD_set_ne true hjk]at hun;exact hun
   refine wpOp_mono (fun a' w' h3=>⟨fun _=>h3.2.1 hjt,ih (listed.setIfInBounds j true) a' w' hfree' (ready_mono hr (Ne.symm hji)) h3.1 (h3.2.1 hjt) ?_⟩) h2;rw[Array.setIfInBounds_comm _ _ hji];exact h3.2.2
theorem Xi8 {i:Nat} {oi:Oper} {v:Value} {fuel:Nat} {listed:Array Bool} {a:Act} {w:World} (hi:ops[i]?=some oi) (hw: ∀t,T t=true→Region.waitsFor md ops t i=true)
  (hs:Region.noSelect ops=true) (hf:Region.free md ops listed i=true) (hr:(Region.ready md ops listed).contains i=true)
  (hQ: ∀c a w,Q (.panic c) (a.put oi.dst v) w→Q (.panic c) a w) (hy:YieldsIf P ops S oi v a) (hS:S w)
  (h:K0 P md ops Q S T fuel (listed.setIfInBounds i true) (a.put oi.dst v) w):K0 P md ops Q S T (fuel+1) listed a w:=
 Xe4 hi hw (Region.noSelect_spec hs) hQ fuel listed a w (Region.free_spec hi hf) (by simpa using hr) hy hS h
theorem Jp5 {rs:List Nat} {fuel:Nat} {listed:Array Bool} {a:Act} {w:World} (hr:Region.ready md ops listed=rs) (hne:rs≠ [])
  (h: ∀i∈rs,wpOp P ops Q i (fun a' w'=>(T i=false→S w')∧K0 P md ops Q S T fuel (listed.setIfInBounds i true) a' w') a w):K0 P md ops Q S T (fuel+1) listed a w:=
 ⟨fun h0=>absurd (hr▸h0) hne,hr▸h⟩
theorem ZK {listed:Array Bool} {a:Act} {w:World} (hr:Region.ready md ops listed= []) (h:Q .normal a w):
  ∀fuel,K0 P md ops Q S T fuel listed a w
 |0=>⟨hr,h⟩
 |_+1=>⟨fun _=>h,by rw[hr];simp⟩
theorem Jo2 {id:Nat} {a:Act} {w:World} (T:Nat→Bool) (S:World→Prop) (hm:P.follows .mixedOrders=true)
  (h:K0 P .any ops Q S T ops.size (Array.replicate ops.size false) a {w with drawn:=w.drawn+1}):(Code.region id ops true).wp P Q a w:=
 wp_region_any hm (Qv5 _ _ _ _ h)
theorem XK {id:Nat} {a:Act} {w:World} (T:Nat→Bool) (S:World→Prop) (hm:P.follows .mixedOrders=true) (hS:S w.drew)
  (h:S w.drew→K0 P .any ops Q S T ops.size (Array.replicate ops.size false) a w.drew):(Code.region id ops true).wp P Q a w:=Jo2 T S hm (h hS)
theorem Xi9 {l rest:List Oper} {i:Nat} {oi:Oper} (hl:l.drop i=oi::rest):l.toArray[i]?=some oi:=by
 have h:(l.drop i)[0]?=some oi:=by rw[hl];rfl
 rw[List.getElem?_drop]at h
 simpa using h
theorem Ky3 {l rest:List Oper} (i d:Nat) {oi:Oper} (v:Value) {ts:List Nat} {fuel:Nat} {listed:Array Bool} {a:Act} {w:World} (hl:l.drop i=oi::rest) (hd:oi.dst=some d) (hw:(ts.all fun t=>Region.waitsFor md l.toArray t i)=true)
  (hs:Region.noSelect l.toArray=true) (hf:Region.free md l.toArray listed i=true) (hr:(Region.ready md l.toArray listed).contains i=true)
  (hQ: ∀c a w,Q (.panic c) (a.put oi.dst v) w→Q (.panic c) a w) (hwn:Region.wanted oi (yielded l.toArray a.tmps)=true) (hy: ∀w,S w→(execOp a.eval oi).run P w= .ok (.value v) w) (hS:S w)
  (h:K0 P md l.toArray Q S (fun t=>ts.contains t) fuel (listed.setIfInBounds i true) (a.put (some d) v) w):K0 P md l.toArray Q S (fun t=>ts.contains t) (fuel+1) listed a w:=
 Xi8 (Xi9 hl) (fun t ht=>List.all_eq_true.1 hw t (by simpa using ht)) hs hf hr hQ (.inl ⟨hwn,hy⟩) hS (by rw[hd];exact h)
theorem Jk7 {S':World→Prop} (hS: ∀w,S' w→S w): ∀(fuel:Nat) {listed:Array Bool} {a:Act} {w:World},K0 P md ops Q S' T fuel listed a w→K0 P md ops Q S T fuel listed a w
 |0,_,_,_,h=>h
 |fuel+1,_,_,_,h=>⟨h.1,fun i hi=>wpOp_mono (fun a' w' h'=>⟨fun e=>hS _ (h'.1 e),Jk7 hS fuel h'.2⟩) (h.2 i hi)⟩
theorem opM {l rest:List Oper} (i:Nat) {o:Oper} {fuel:Nat} {listed:Array Bool} {a:Act} {w:World} (ho:l.drop i=o::rest)
  (h: ∀K':Act→World→Prop,(∀a w,(T i=false→S w)→K0 P md l.toArray Q S T fuel (listed.setIfInBounds i true) a w→K' a w)→if Region.wanted o (yielded l.toArray a.tmps)=true then Oper.wp P o a w K' Q else K' (a.put o.dst undef) w):
  wpOp P l.toArray Q i (fun a' w'=>(T i=false→S w')∧K0 P md l.toArray Q S T fuel (listed.setIfInBounds i true) a' w') a w:=
 wpOp_step (Xi9 ho) fun K' hK=>h K' (fun a w hS hw=>hK a w ⟨hS,hw⟩)
theorem Ky4 {i:Nat} {fuel:Nat} {listed:Array Bool} {a:Act} {w:World} (hr:Region.ready md ops listed= [i])
  (h:wpOp P ops Q i (fun a' w'=>(T i=false→S w')∧K0 P md ops Q S T fuel (listed.setIfInBounds i true) a' w') a w):K0 P md ops Q S T (fuel+1) listed a w:=
 Jp5 hr (by simp) (fun k hk=>by rw[List.mem_singleton]at hk;subst hk;exact h)
theorem Jk8 {i j:Nat} {fuel:Nat} {listed:Array Bool} {a:Act} {w:World} (hr:Region.ready md ops listed= [i,j])
  (h1:wpOp P ops Q i (fun a' w'=>(T i=false→S w')∧K0 P md ops Q S T fuel (listed.setIfInBounds i true) a' w') a w)
  (h2:wpOp P ops Q j (fun a' w'=>(T j=false→S w')∧K0 P md ops Q S T fuel (listed.setIfInBounds j true) a' w') a w):K0 P md ops Q S T (fuel+1) listed a w:=
 Jp5 hr (by simp) (fun k hk=>by
  rw[List.mem_cons,List.mem_singleton]at hk;rcases hk with rfl|rfl
  ·exact h1
  ·exact h2)
theorem tM {l rest:List Oper} (i:Nat) (v:Value) {d:Nat} {oi:Oper} {ts:List Nat} {fuel:Nat} {listed listed':Array Bool} {a a':Act} {w:World}
  (h:K0 P md l.toArray Q S (fun t=>ts.contains t) fuel listed' a' w)
  (hl:l.drop i=oi::rest:=by rfl) (hd:oi.dst=some d:=by rfl) (hw:(ts.all fun t=>Region.waitsFor md l.toArray t i)=true:=by kernel_rfl)
  (hs:Region.noSelect l.toArray=true:=by kernel_rfl) (hf:Region.free md l.toArray listed i=true:=by kernel_rfl) (hr:(Region.ready md l.toArray listed).contains i=true:=by kernel_rfl)
  (hQ: ∀c a w,Q (.panic c) (a.put oi.dst v) w→Q (.panic c) a w:=by exact fun _ _ _ h=>h) (hwn:Region.wanted oi (yielded l.toArray a.tmps)=true:=by rfl)
  (hy: ∀w,S w→(execOp a.eval oi).run P w= .ok (.value v) w:=by intro W hSw;go_simp) (hS:S w:=by first|trivial|assumption)
  (hp:a.put (some d) v=a':=by first|(simp only[Act.put,List.setIfInBounds_toArray,List.set_cons_zero,List.set_cons_succ];rfl)|rfl)
  (hli:listed.setIfInBounds i true=listed':=by first|(simp only[List.setIfInBounds_toArray,List.set_cons_zero,List.set_cons_succ];rfl)|rfl):K0 P md l.toArray Q S (fun t=>ts.contains t) (fuel+1) listed a w:=
 Ky3 i d v hl hd hw hs hf hr hQ hwn hy hS (by rw[hp,hli];exact h)
theorem oM {l rest:List Oper} (i:Nat) {o:Oper} {fuel:Nat} {listed listed':Array Bool} {a:Act} {w:World}
  (h: ∀K':Act→World→Prop,(∀a w,(T i=false→S w)→K0 P md l.toArray Q S T fuel listed' a w→K' a w)→if Region.wanted o (yielded l.toArray a.tmps)=true then Oper.wp P o a w K' Q else K' (a.put o.dst undef) w)
  (ho:l.drop i=o::rest:=by rfl) (hr:Region.ready md l.toArray listed= [i]:=by kernel_rfl)
  (hli:listed.setIfInBounds i true=listed':=by first|(simp only[List.setIfInBounds_toArray,List.set_cons_zero,List.set_cons_succ];rfl)|rfl):K0 P md l.toArray Q S T (fuel+1) listed a w:=
 Ky4 hr (opM i ho (by rw[hli];exact h))
end
section
variable {P:Program} {ops:Array Oper} {Q:Exit→Act→World→Prop} {md:Region.Mode} {S U:World→Prop} {T:Nat→Bool}
def Qj6 (P:Program) (md:Region.Mode) (ops:Array Oper) (Q:Exit→Act→World→Prop) (S U:World→Prop) (T:Nat→Bool):Nat→Array Bool→Act→World→Prop
 |0,listed,a,w=>Region.ready md ops listed= []∧Q .normal a w
 |fuel+1,listed,a,w=>
  (Region.ready md ops listed= []→Q .normal a w)∧
  ∀i∈Region.ready md ops listed,wpOp P ops Q i (fun a' w'=>((T i=false→S w→S w')∧(U w→U w'))∧Qj6 P md ops Q S U T fuel (listed.setIfInBounds i true) a' w') a w
theorem Qv6: ∀(fuel:Nat) (listed:Array Bool) (a:Act) (w:World),Qj6 P md ops Q S U T fuel listed a w→wpAny P md ops Q fuel listed a w
 |0,_,_,_,h=>h
 |fuel+1,_,_,_,h=>⟨h.1,fun i hi=>wpOp_mono (fun a' w' h'=>Qv6 fuel _ a' w' h'.2) (h.2 i hi)⟩
theorem Je3 {R:World→Prop} {i:Nat} {oi:Oper} {v:Value} (hi:ops[i]?=some oi) (hsel: ∀(j:Nat) (o:Oper) cs b,ops[j]?=some o→o.op≠ .select cs b)
  (hQ: ∀c a w,Q (.panic c) (a.put oi.dst v) w→Q (.panic c) a w):
  ∀(fuel:Nat) (listed:Array Bool) (a:Act) (w:World),
   (∀j oj,ops[j]?=some oj→j≠i→listed.getD j true=false→(∀e∈oj.after,Region.binds md e=true→e.on≠i)→oi.apart ops oj=true)→
   i∈Region.ready md ops listed→YieldsIf P ops R oi v a→(U w∧ ∀w,U w→R w)∨(S w∧(∀w,S w→R w)∧ ∀t,T t=true→Region.waitsFor md ops t i=true)→
   Qj6 P md ops Q S U T fuel (listed.setIfInBounds i true) (a.put oi.dst v) w→Qj6 P md ops Q S U T (fuel+1) listed a w:=by
 intro fuel
 induction fuel with
 |zero=>
  intro listed a w _ hr hy hS H;have hRw:R w:=hS.elim (fun h=>h.2 w h.1) (fun h=>h.2.1 w h.1);refine⟨fun h=>(by rw[h]at hr;cases hr),fun j hj=> ?_⟩
  by_cases hji:j=i
  ·subst hji;exact hy.wpOp hi hRw ⟨⟨fun _ h=>h,fun h=>h⟩,H⟩
  ·have:=ready_mono hj hji
   rw[H.1]at this
   cases this
 |succ fuel ih=>
  intro listed a w hfree hr hy hS H;have hRw:R w:=hS.elim (fun h=>h.2 w h.1) (fun h=>h.2.1 w h.1);refine⟨fun h=>(by rw[h]at hr;cases hr),fun j hj=> ?_⟩
  by_cases hji:j=i
  ·subst hji;exact hy.wpOp hi hRw ⟨⟨fun _ h=>h,fun h=>h⟩,H⟩
  ·have h1:=H.2 j (ready_mono hj hji)
   obtain⟨hjun,oj,hoj,hall⟩:=mem_ready.1 hj;have hnot: ∀e∈oj.after,Region.binds md e=true→e.on≠i:=fun e he hb heq=>by
    have h1:=hall e he hb;have h0:=(mem_ready.1 hr).1;rw[heq]at h1;rcases Nat.lt_or_ge i listed.size with h'|h'
    ·simp[h']at h0 h1;rw[h0]at h1;cases h1
    ·simp[Array.getElem?_eq_none h']at h1
   have hnext: ∀w',((T j=false→S w→S w')∧(U w→U w'))→(U w'∧ ∀w,U w→R w)∨(S w'∧(∀w,S w→R w)∧ ∀t,T t=true→Region.waitsFor md ops t i=true):=fun w' hk=>by
    rcases hS with⟨hS,hR⟩|⟨hS,hR,hw⟩
    ·exact .inl ⟨hk.2 hS,hR⟩
    ·refine .inr ⟨hk.1 ?_ hS,hR,hw⟩
     cases hT:T j with
     |false=>rfl
     |true=>
      exfalso
      obtain⟨o',ho',e,he,hb,hon⟩:=Region.waitsFor_spec (hw j hT);have:o'=oj:=Option.some.inj (ho'.symm.trans hoj);subst this;exact hnot e he hb hon
   have h2:=wpOp_putIf hoj (hfree j oj hoj hji hjun hnot) (fun cs b=>hsel i oi cs b hi) (fun cs b=>hsel j oj cs b hoj) hQ hy h1;have hfree': ∀k ok,ops[k]?=some ok→k≠i→(listed.setIfInBounds j true).getD k true=false→
     (∀e∈ok.after,Region.binds md e=true→e.on≠i)→oi.apart ops ok=true:=fun k ok hk hki hun hno=>by
    refine hfree k ok hk hki ?_ hno
    by_cases hjk:j=k
    ·subst hjk;exact hjun
    ·rw[getD_set_ne true hjk]at hun;exact hun
   refine wpOp_mono (fun a' w' h3=>⟨h3.2.1,ih (listed.setIfInBounds j true) a' w' hfree' (ready_mono hr (Ne.symm hji)) h3.1 (hnext w' h3.2.1) ?_⟩) h2;rw[Array.setIfInBounds_comm _ _ hji];exact h3.2.2
theorem Qb7 {listed:Array Bool} {a:Act} {w:World} (h:Q .normal a w) (hr:Region.ready md ops listed= []:=by kernel_rfl):
  ∀fuel,Qj6 P md ops Q S U T fuel listed a w
 |0=>⟨hr,h⟩
 |_+1=>⟨fun _=>h,by rw[hr];simp⟩
theorem I8 {id:Nat} {a:Act} {w:World} (T:List Nat) (S U:World→Prop) (hS:S w.drew) (hU:U w.drew)
  (h:S w.drew→U w.drew→Qj6 P .any ops Q S U (fun t=>T.contains t) ops.size (Array.replicate ops.size false) a w.drew) (hm:P.follows .mixedOrders=true:=by kernel_rfl):(Code.region id ops true).wp P Q a w:=
 wp_region_any hm (Qv6 _ _ _ _ (h hS hU))
theorem Qv7 {l rest:List Oper} {i:Nat} {oi:Oper} (hl:l.drop i=oi::rest):l.toArray[i]?=some oi:=by
 have h:(l.drop i)[0]?=some oi:=by rw[hl];rfl
 rw[List.getElem?_drop]at h
 simpa using h
theorem tN {l rest:List Oper} (i:Nat) (v:Value) {d:Nat} {oi:Oper} {ts:List Nat} {fuel:Nat} {listed listed':Array Bool} {a a':Act} {w:World}
  (h:Qj6 P md l.toArray Q S U (fun t=>ts.contains t) fuel listed' a' w)
  (hl:l.drop i=oi::rest:=by rfl) (hd:oi.dst=some d:=by rfl) (hw:(ts.all fun t=>Region.waitsFor md l.toArray t i)=true:=by kernel_rfl)
  (hs:Region.noSelect l.toArray=true:=by kernel_rfl) (hf:Region.free md l.toArray listed i=true:=by kernel_rfl) (hr:(Region.ready md l.toArray listed).contains i=true:=by kernel_rfl)
  (hQ: ∀c a w,Q (.panic c) (a.put oi.dst v) w→Q (.panic c) a w:=by exact fun _ _ _ h=>h) (hwn:Region.wanted oi (yielded l.toArray a.tmps)=true:=by rfl)
  (hy: ∀w,S w→(execOp a.eval oi).run P w= .ok (.value v) w:=by intro W hSw;go_simp) (hS:S w:=by first|trivial|assumption)
  (hp:a.put (some d) v=a':=by first|(simp only[Act.put,List.setIfInBounds_toArray,List.set_cons_zero,List.set_cons_succ];rfl)|rfl)
  (hli:listed.setIfInBounds i true=listed':=by first|(simp only[List.setIfInBounds_toArray,List.set_cons_zero,List.set_cons_succ];rfl)|rfl):Qj6 P md l.toArray Q S U (fun t=>ts.contains t) (fuel+1) listed a w:=
 Je3 (R:=S) (Qv7 hl) (Region.noSelect_spec hs) hQ fuel listed a w (Region.free_spec (Qv7 hl) hf) (by simpa using hr) (.inl ⟨hwn,hy⟩) (.inr ⟨hS,fun _ h=>h,fun t ht=>List.all_eq_true.1 hw t (by simpa using ht)⟩) (by rw[hd,hp,hli];exact h)
theorem tP {l rest:List Oper} (i:Nat) (v:Value) {d:Nat} {oi:Oper} {fuel:Nat} {listed listed':Array Bool} {a a':Act} {w:World}
  (h:Qj6 P md l.toArray Q S U T fuel listed' a' w)
  (hl:l.drop i=oi::rest:=by rfl) (hd:oi.dst=some d:=by rfl)
  (hs:Region.noSelect l.toArray=true:=by kernel_rfl) (hf:Region.free md l.toArray listed i=true:=by kernel_rfl) (hr:(Region.ready md l.toArray listed).contains i=true:=by kernel_rfl)
  (hQ: ∀c a w,Q (.panic c) (a.put oi.dst v) w→Q (.panic c) a w:=by exact fun _ _ _ h=>h) (hwn:Region.wanted oi (yielded l.toArray a.tmps)=true:=by rfl)
  (hy: ∀w,U w→(execOp a.eval oi).run P w= .ok (.value v) w:=by intro W hSw;go_simp) (hU:U w:=by first|trivial|assumption)
  (hp:a.put (some d) v=a':=by first|(simp only[Act.put,List.setIfInBounds_toArray,List.set_cons_zero,List.set_cons_succ];rfl)|rfl)
  (hli:listed.setIfInBounds i true=listed':=by first|(simp only[List.setIfInBounds_toArray,List.set_cons_zero,List.set_cons_succ];rfl)|rfl):Qj6 P md l.toArray Q S U T (fuel+1) listed a w:=
 Je3 (R:=U) (Qv7 hl) (Region.noSelect_spec hs) hQ fuel listed a w (Region.free_spec (Qv7 hl) hf) (by simpa using hr) (.inl ⟨hwn,hy⟩) (.inl ⟨hU,fun _ h=>h⟩) (by rw[hd,hp,hli];exact h)
theorem oN {l rest:List Oper} (i:Nat) {o:Oper} {fuel:Nat} {listed listed':Array Bool} {a:Act} {w:World}
  (h: ∀K':Act→World→Prop,(∀a w',(T i=false→S w')→U w'→Qj6 P md l.toArray Q S U T fuel listed' a w'→K' a w')→if Region.wanted o (yielded l.toArray a.tmps)=true then Oper.wp P o a w K' Q else K' (a.put o.dst undef) w)
  (ho:l.drop i=o::rest:=by rfl) (hr:Region.ready md l.toArray listed= [i]:=by kernel_rfl)
  (hli:listed.setIfInBounds i true=listed':=by first|(simp only[List.setIfInBounds_toArray,List.set_cons_zero,List.set_cons_succ];rfl)|rfl):Qj6 P md l.toArray Q S U T (fuel+1) listed a w:=
 ⟨fun h0=>absurd (hr▸h0) (by simp),hr▸fun k hk=>by
  rw[List.mem_singleton]at hk;subst hk;exact wpOp_step (Qv7 ho) fun K' hK=>h K' (fun a w' hS hU hw=>hK a w' ⟨⟨fun e _=>hS e,fun _=>hU⟩,by rw[hli];exact hw⟩)⟩
end
end Go.Proofs.YtnlngicnfegjgaaGreat
namespace Go.Proofs.YtnlngicnfegjgaaGreat
open Go.ChangeMaps Go.RowKit
def Qu8 (w:World) (r:Nat) (f:Int→Option Value):Prop:=
 ∃es c,Q3 w r es c∧Qg9 es∧(es.map Je2).Nodup∧(es.map (·.born)).Nodup∧(∀e∈es,e.born<c)∧ ∀k,Z2 es k=f k
section
variable {w w':World} {r:Nat} {f:Int→Option Value}
theorem Qu8.imap (h:Qu8 w r f):I6 w r f:=by
 obtain⟨es,c,h1,h2,h3,-,-,h4⟩:=h
 exact⟨es,c,h1,h2,h3,h4⟩
theorem Qu8.lt (h:Qu8 w r f):r<w.heap.size:=h.imap.lt
theorem Qu8.of_block (h:Qu8 w r f) (hb:w'.heap[r]?=w.heap[r]?):Qu8 w' r f:=by
 obtain⟨es,c,h,hr⟩:=h
 exact⟨es,c,h.of_block hb,hr⟩
theorem Qu8.made (w:World):Qu8 (w.alloc (.map #[] 0)) w.heap.size fun _=>none:=
 ⟨[],0,Q3.made w,by simp[Qg9],by simp,by simp,by simp,by simp[Z2]⟩
theorem Qv8 (es:List MapEntry) (i:Nat) (g:MapEntry→MapEntry) (hg: ∀e,(g e).born=e.born):(es.modify i g).map (·.born)=es.map (·.born):=by
 apply List.ext_getElem
 ·simp
 ·intro j h1 h2
  simp only[List.getElem_map,List.getElem_modify]
  split
  ·exact hg _
  ·rfl
theorem Qv9 {es:List MapEntry} {c:Nat} (h: ∀e∈es,e.born<c) (i:Nat) (g:MapEntry→MapEntry) (hg: ∀e,(g e).born=e.born): ∀e∈es.modify i g,e.born<c:=by
 intro e he
 have h1:e.born∈(es.modify i g).map (·.born):=List.mem_map.2 ⟨e,he,rfl⟩
 rw[Qv8 es i g hg]at h1
 obtain⟨e',he',h2⟩:=List.mem_map.1 h1
 rw[←h2];exact h e' he'
theorem Qw0 {es:List MapEntry} {c:Nat} (h1:(es.map (·.born)).Nodup) (h2: ∀e∈es,e.born<c) (k v:Value):((es++ [MapEntry.mk k v c]).map (·.born)).Nodup∧ ∀e∈es++ [MapEntry.mk k v c],e.born<c+1:=by
 refine⟨?_,fun e he=> ?_⟩
 ·rw[List.map_append,List.nodup_append]
  refine⟨h1,by simp,fun a ha b hb=> ?_⟩;obtain⟨e,he,rfl⟩:=List.mem_map.1 ha;have:b=c:=by simpa using hb
  have:=h2 e he;omega
 ·rcases List.mem_append.1 he with he|he
  ·have:=h2 e he;omega
  ·have:e=⟨k,v,c⟩:=by simpa using he
   rw[this];exact Nat.lt_succ_self _
theorem Jy0 {es:List MapEntry} {k:Int} (hK:Qg9 es) (hN:(es.map Je2).Nodup) (hno: ∀e∈es,e.key≠ .int .i64 k) (v:Value) (c:Nat):Qg9 (es++ [MapEntry.mk (.int .i64 k) v c])∧((es++ [MapEntry.mk (.int .i64 k) v c]).map Je2).Nodup:=by
 refine⟨fun e he=> ?_, ?_⟩
 ·rcases List.mem_append.1 he with he|he
  ·exact hK e he
  ·simp at he;subst he;exact⟨k,rfl⟩
 ·rw[List.map_append,List.nodup_append]
  refine⟨hN,by simp,fun a ha b hb=> ?_⟩;simp[Je2]at hb;subst hb;obtain⟨e,he,rfl⟩:=List.mem_map.1 ha;obtain⟨n,hn⟩:=hK e he;rw[Qn1 hn];rintro rfl;exact hno e he hn
theorem Kd1 {e:MapEntry} {k:Int} (h:e.key= .int .i64 k):({e with key:= .int .i64 k}:MapEntry)=e:=by cases e;simp at h;subst h;rfl
theorem Xr8 {es:List MapEntry} {i:Nat} {k:Int} (hi:i<es.length) (hkey:es[i].key= .int .i64 k) (v:Value):(es.modify i fun e=> {e with val:=v})=es.modify i fun e=> {e with key:= .int .i64 k,val:=v}:=by
 apply List.ext_getElem
 ·simp
 ·intro j h1 h2
  rw[List.getElem_modify,List.getElem_modify]
  split
  ·rename_i e;subst e;simp[hkey]
  ·rfl
theorem Xr9 {es:List MapEntry} {i:Nat} {k:Int} (hi:i<es.length) (hkey:es[i].key= .int .i64 k):(es.modify i fun e=> {e with key:= .int .i64 k})=es:=by
 apply List.ext_getElem
 ·simp
 ·intro j h1 h2
  rw[List.getElem_modify]
  split
  ·rename_i e;subst e;exact Kd1 hkey
  ·rfl
theorem Kd2 {es:List MapEntry} (hb:(es.map (·.born)).Nodup) {i:Nat} (hi:i<es.length):es.findIdx? (fun e=>(e.born:Int) == (es[i].born:Int))=some i:=by
 rw[List.findIdx?_eq_some_iff_getElem]
 refine⟨hi,by simp,fun j hj=> ?_⟩
 intro e
 have h0:(es[j].born:Int)=(es[i].born:Int):=by simpa using e
 have h1:es[j].born=es[i].born:=by omega
 have h2:(es.map (·.born))[j]'(by simp;omega)=(es.map (·.born))[i]'(by simpa using hi):=by simpa using h1
 have:=(List.getElem_inj hb).1 h2
 omega
variable {P:Program} {t kt et:TypeId} (ht:P.underlying t=some (.map kt et)) (hk:P.underlying kt=some (.int .i64))
theorem Qw1 {es:List MapEntry} {c:Nat} (h:Q3 w r es c) (hb:(es.map (·.born)).Nodup) {i:Nat} (hi:i<es.length) (v:Value):
  (Instr.entryStore t (.map (some r)) (goInt es[i].born) v).run P w= .ok () (setBlock w r (.map (es.modify i fun e=> {e with val:=v}).toArray c)):=by
 have hr:w.heap[r]?=some (.map es.toArray c):=h
 have hf:=Kd2 hb hi
 simp[Instr.entryStore,getObj,Sem.run,hr,goInt,asInt,asIntOf,hf,setObj,setBlock]
include ht hk in
theorem Qu8.update (h:Qu8 w r f) (k:Int) (v:Value):
  ∃w',(Instr.mapUpdate t (.map (some r)) (.int .i64 k) v).run P w= .ok () w'∧Qu8 w' r (Z5 f k (some v))∧IV w w' r:=by
 obtain⟨es,c,h,hK,hN,hB,hL,hf⟩:=h
 obtain⟨x,hx,hl,hs,hno⟩:=I4 es k 0 hK
 have hfe:Z2 es=f:=funext hf
 rcases x with _|⟨i,v0⟩
 ·obtain⟨p1,p2⟩:=Qw0 hB hL (.int .i64 k) v
  obtain⟨p3,p4⟩:=Jy0 hK hN (hno rfl) v c;refine⟨_,Qa8 ht hk J7 h _ v hx,⟨_,_,h.set _ _,p3,p4,p1,p2, ?_⟩,UZ _ _ _⟩;rw[←hfe];exact Qk3 es (MapEntry.mk (.int .i64 k) v c) k rfl (hno rfl) hK
 ·obtain⟨_,h2,h3,h4,h5⟩:=hs i v0 rfl
  simp only[Nat.sub_zero]at h2 h3 h4;have hr:w.heap[r]?=some (.map es.toArray c):=h;refine⟨setBlock w r (.map (es.modify i fun e=> {e with key:= .int .i64 k,val:=v}).toArray c), ?_,⟨_,_,h.set _ _,Ql4 hK, ?_, ?_, ?_, ?_⟩,UZ _ _ _⟩
  ·have hst: ∀w0:World,(Instr.keyThatStays (.int .i64 k) (.int .i64 k)).run P w0= .ok (.int .i64 k) w0:=by
    intro w0;simp[Instr.keyThatStays,Instr.sameBits]
   have hidx:es[i]?=some es[i]:=by simp[h2]
   have e3:Instr.findNow (.int .i64) (.int .i64 k) es 0=some (some (i,v0)):=hx;simp[Instr.mapUpdate,run_underlying ht,getObj,Sem.run,hr,U7 hk J7,I3 hk (.int .i64 k) (some (i,v0)) e3,setObj,setBlock,hidx,h3,hst]
  ·rw[Qj5 h2 h3];exact hN
  ·rw[Qv8 es i (fun e=> {e with key:= .int .i64 k,val:=v}) (fun _=>rfl)];exact hB
  ·exact Qv9 hL i _ (fun _=>rfl)
  ·rw[←hfe]
   exact Qk2 es i k v hK hN h2 h3
include ht hk in
theorem Qu8.entry (h:Qu8 w r f) {z:Value} (hz:(zeroValue et).run P w= .ok z w) (k:Int):
  ∃(v0:Value) (st:Nat) (w1:World),(Instr.mapEntry t (.map (some r)) (.int .i64 k)).run P w= .ok (.tuple #[v0,goInt st]) w1∧IV w w1 r∧
   ∀(w2:World) (v:Value),w2.heap[r]?=w1.heap[r]?→ ∃w3,(Instr.entryStore t (.map (some r)) (goInt st) v).run P w2= .ok () w3∧Qu8 w3 r (Z5 f k (some v))∧IV w2 w3 r:=by
 obtain⟨es,c,h,hK,hN,hB,hL,hf⟩:=h
 obtain⟨x,hx,hl,hs,hno⟩:=I4 es k 0 hK
 have hfe:Z2 es=f:=funext hf
 have hr:w.heap[r]?=some (.map es.toArray c):=h
 rcases x with _|⟨i,v0⟩
 ·obtain⟨p1,p2⟩:=Qw0 hB hL (.int .i64 k) z
  have e3:Instr.findNow (.int .i64) (.int .i64 k) es 0=some none:=hx;refine⟨z,c,setBlock w r (.map (es++ [MapEntry.mk (.int .i64 k) z c]).toArray (c+1)), ?_,UZ _ _ _,fun w2 v h2=> ?_⟩
  ·simp[Instr.mapEntry,run_underlying ht,getObj,Sem.run,hr,U7 hk J7,I3 hk (.int .i64 k) none e3,hz,setObj,setBlock]
  ·have hM:Q3 w2 r (es++ [MapEntry.mk (.int .i64 k) z c]) (c+1):=(h.set _ _).of_block h2
   have hi:es.length< (es++ [MapEntry.mk (.int .i64 k) z c]).length:=by simp
   have hrun:=Qw1 (P:=P) (t:=t) hM p1 hi v;have e1:(es++ [MapEntry.mk (.int .i64 k) z c])[es.length].born=c:=by simp
   rw[e1]at hrun;have e2:((es++ [MapEntry.mk (.int .i64 k) z c]).modify es.length fun e=> {e with val:=v})=es++ [MapEntry.mk (.int .i64 k) v c]:=by
    apply List.ext_getElem
    ·simp
    ·intro j h1 h3
     rw[List.getElem_modify]
     by_cases hj:es.length=j
     ·subst hj;simp
     ·have:j<es.length:=by simp at h3;omega
      rw[if_neg hj,List.getElem_append_left this,List.getElem_append_left this]
   rw[e2]at hrun;obtain⟨q1,q2⟩:=Qw0 hB hL (.int .i64 k) v;obtain⟨p3,p4⟩:=Jy0 hK hN (hno rfl) v c;refine⟨_,hrun,⟨_,_,hM.set _ _,p3,p4,q1,q2, ?_⟩,UZ _ _ _⟩;rw[←hfe];exact Qk3 es (MapEntry.mk (.int .i64 k) v c) k rfl (hno rfl) hK
 ·obtain⟨_,h2,h3,h4,h5⟩:=hs i v0 rfl
  simp only[Nat.sub_zero]at h2 h3 h4;have hst: ∀w0:World,(Instr.keyThatStays (.int .i64 k) (.int .i64 k)).run P w0= .ok (.int .i64 k) w0:=by
   intro w0;simp[Instr.keyThatStays,Instr.sameBits]
  have hidx:es[i]?=some es[i]:=by simp[h2]
  have e3:Instr.findNow (.int .i64) (.int .i64 k) es 0=some (some (i,v0)):=hx;have hme:=Xr9 h2 h3;refine⟨v0,es[i].born,setBlock w r (.map es.toArray c), ?_,UZ _ _ _,fun w2 v h6=> ?_⟩
  ·have hre:(Instr.mapEntry t (.map (some r)) (.int .i64 k)).run P w= .ok (.tuple #[v0,goInt es[i].born]) (setBlock w r (.map (es.modify i fun e=> {e with key:= .int .i64 k}).toArray c)):=by
    simp[Instr.mapEntry,run_underlying ht,getObj,Sem.run,hr,U7 hk J7,I3 hk (.int .i64 k) (some (i,v0)) e3,setObj,setBlock,hidx,h3,hst]
   rw[hme]at hre;exact hre
  ·have hM:Q3 w2 r es c:=(h.set _ _).of_block h6
   have hrun:=Qw1 (P:=P) (t:=t) hM hB h2 v;rw[Xr8 h2 h3 v]at hrun;refine⟨_,hrun,⟨_,_,hM.set _ _,Ql4 hK,by rw[Qj5 h2 h3];exact hN,by rw[Qv8 es i (fun e=> {e with key:= .int .i64 k,val:=v}) (fun _=>rfl)];exact hB,Qv9 hL i _ (fun _=>rfl), ?_⟩,UZ _ _ _⟩;rw[←hfe];exact Qk2 es i k v hK hN h2 h3
end
end Go.Proofs.YtnlngicnfegjgaaGreat
