/- Contracts and walks that the law's proof needs. -/
import Derived.OrdersHeld
import Derived.StillTail
import Derived.RegionTactic
set_option linter.unusedVariables false
set_option maxRecDepth 100000
set_option maxHeartbeats 8000000
namespace Go.Proofs.YtbmiieehkkfbgaaGreatDoor
open Go
section
variable {P:Program} {ops:Array Oper} {Q:Exit→Act→World→Prop} {md:Region.Mode} {S:World→Prop} {t:Nat}
def I0 (P:Program) (md:Region.Mode) (ops:Array Oper) (Q:Exit→Act→World→Prop) (S:World→Prop) (t:Nat):Nat→Array Bool→Act→World→Prop
 |0,listed,a,w=>Region.ready md ops listed= []∧Q .normal a w
 |fuel+1,listed,a,w=>
  (Region.ready md ops listed= []→Q .normal a w)∧
  ∀i∈Region.ready md ops listed,wpOp P ops Q i (fun a' w'=>(i≠t→S w')∧I0 P md ops Q S t fuel (listed.setIfInBounds i true) a' w') a w
theorem Qw6: ∀(fuel:Nat) (listed:Array Bool) (a:Act) (w:World),I0 P md ops Q S t fuel listed a w→wpAny P md ops Q fuel listed a w
 |0,_,_,_,h=>h
 |fuel+1,_,_,_,h=>⟨h.1,fun i hi=>wpOp_mono (fun a' w' h'=>Qw6 fuel _ a' w' h'.2) (h.2 i hi)⟩
theorem Xi0 {i:Nat} {oi:Oper} {v:Value} (hi:ops[i]?=some oi) (hit:i≠t) (hw:Region.waitsFor md ops t i=true) (hsel: ∀(j:Nat) (o:Oper) cs b,ops[j]?=some o→o.op≠ .select cs b)
  (hQ: ∀c a w,Q (.panic c) (a.put oi.dst v) w→Q (.panic c) a w):
  ∀(fuel:Nat) (listed:Array Bool) (a:Act) (w:World),
   (∀j oj,ops[j]?=some oj→j≠i→listed.getD j true=false→(∀e∈oj.after,Region.binds md e=true→e.on≠i)→oi.apart ops oj=true)→
   i∈Region.ready md ops listed→YieldsIf P ops S oi v a→S w→
   I0 P md ops Q S t fuel (listed.setIfInBounds i true) (a.put oi.dst v) w→I0 P md ops Q S t (fuel+1) listed a w:=by
 intro fuel
 induction fuel with
 |zero=>
  intro listed a w _ hr hy hS H;refine⟨fun h=>(by rw[h]at hr;cases hr),fun j hj=> ?_⟩
  by_cases hji:j=i
  ·subst hji;exact hy.wpOp hi hS ⟨fun _=>hS,H⟩
  ·have:=ready_mono hj hji
   rw[H.1]at this
   cases this
 |succ fuel ih=>
  intro listed a w hfree hr hy hS H;refine⟨fun h=>(by rw[h]at hr;cases hr),fun j hj=> ?_⟩
  by_cases hji:j=i
  ·subst hji;exact hy.wpOp hi hS ⟨fun _=>hS,H⟩
  ·have h1:=H.2 j (ready_mono hj hji)
   obtain⟨hjun,oj,hoj,hall⟩:=mem_ready.1 hj;have hnot: ∀e∈oj.after,Region.binds md e=true→e.on≠i:=fun e he hb heq=>by
    have h1:=hall e he hb;have h0:=(mem_ready.1 hr).1;rw[heq]at h1;rcases Nat.lt_or_ge i listed.size with h'|h'
    ·simp[h']at h0 h1;rw[h0]at h1;cases h1
    ·simp[Array.getElem?_eq_none h']at h1
   have hjt:j≠t:=fun e=>by
    subst e;obtain⟨o',ho',e,he,hb,hon⟩:=Region.waitsFor_spec hw;have:o'=oj:=Option.some.inj (ho'.symm.trans hoj);subst this;exact hnot e he hb hon
   have h2:=wpOp_putIf hoj (hfree j oj hoj hji hjun hnot) (fun cs b=>hsel i oi cs b hi) (fun cs b=>hsel j oj cs b hoj) hQ hy h1;have hfree': ∀k ok,ops[k]?=some ok→k≠i→(listed.setIfInBounds j true).getD k true=false→
     (∀e∈ok.after,Region.binds md e=true→e.on≠i)→oi.apart ops ok=true:=fun k ok hk hki hun hno=>by
    refine hfree k ok hk hki ?_ hno
    by_cases hjk:j=k
    ·subst hjk;exact hjun
    ·rw[getD_set_ne true hjk]at hun;exact hun
   refine wpOp_mono (fun a' w' h3=>⟨fun _=>h3.2.1 hjt,ih (listed.setIfInBounds j true) a' w' hfree' (ready_mono hr (Ne.symm hji)) h3.1 (h3.2.1 hjt) ?_⟩) h2;rw[Array.setIfInBounds_comm _ _ hji];exact h3.2.2
theorem Xn5 {i:Nat} {oi:Oper} {v:Value} {fuel:Nat} {listed:Array Bool} {a:Act} {w:World} (hi:ops[i]?=some oi) (hit:(i ==t)=false) (hw:Region.waitsFor md ops t i=true)
  (hs:Region.noSelect ops=true) (hf:Region.free md ops listed i=true) (hr:(Region.ready md ops listed).contains i=true)
  (hQ: ∀c a w,Q (.panic c) (a.put oi.dst v) w→Q (.panic c) a w) (hy:YieldsIf P ops S oi v a) (hS:S w)
  (h:I0 P md ops Q S t fuel (listed.setIfInBounds i true) (a.put oi.dst v) w):I0 P md ops Q S t (fuel+1) listed a w:=
 Xi0 hi (by simpa using hit) hw (Region.noSelect_spec hs) hQ fuel listed a w (Region.free_spec hi hf) (by simpa using hr) hy hS h
theorem Js8 {rs:List Nat} {fuel:Nat} {listed:Array Bool} {a:Act} {w:World} (hr:Region.ready md ops listed=rs) (hne:rs≠ [])
  (h: ∀i∈rs,wpOp P ops Q i (fun a' w'=>(i≠t→S w')∧I0 P md ops Q S t fuel (listed.setIfInBounds i true) a' w') a w):I0 P md ops Q S t (fuel+1) listed a w:=
 ⟨fun h0=>absurd (hr▸h0) hne,hr▸h⟩
theorem Qn8 {listed:Array Bool} {a:Act} {w:World} (hr:Region.ready md ops listed= []) (h:Q .normal a w):
  ∀fuel,I0 P md ops Q S t fuel listed a w
 |0=>⟨hr,h⟩
 |_+1=>⟨fun _=>h,by rw[hr];simp⟩
theorem Jr3 {id:Nat} {a:Act} {w:World} (t:Nat) (S:World→Prop) (hm:P.follows .mixedOrders=true)
  (h:I0 P .any ops Q S t ops.size (Array.replicate ops.size false) a {w with drawn:=w.drawn+1}):(Code.region id ops true).wp P Q a w:=
 wp_region_any hm (Qw6 _ _ _ _ h)
theorem U4 {id:Nat} {a:Act} {w:World} (t:Nat) (S:World→Prop) (hm:P.follows .mixedOrders=true) (hS:S w.drew)
  (h:S w.drew→I0 P .any ops Q S t ops.size (Array.replicate ops.size false) a w.drew):(Code.region id ops true).wp P Q a w:=Jr3 t S hm (h hS)
theorem Xi1 {l rest:List Oper} {i:Nat} {oi:Oper} (hl:l.drop i=oi::rest):l.toArray[i]?=some oi:=by
 have h:(l.drop i)[0]?=some oi:=by rw[hl];rfl
 rw[List.getElem?_drop]at h
 simpa using h
theorem Zk7 {l rest:List Oper} (i d:Nat) {oi:Oper} (v:Value) {fuel:Nat} {listed:Array Bool} {a:Act} {w:World} (hl:l.drop i=oi::rest) (hd:oi.dst=some d) (hit:(i ==t)=false) (hw:Region.waitsFor md l.toArray t i=true)
  (hs:Region.noSelect l.toArray=true) (hf:Region.free md l.toArray listed i=true) (hr:(Region.ready md l.toArray listed).contains i=true)
  (hQ: ∀c a w,Q (.panic c) (a.put oi.dst v) w→Q (.panic c) a w) (hwn:Region.wanted oi (yielded l.toArray a.tmps)=true) (hy: ∀w,S w→(execOp a.eval oi).run P w= .ok (.value v) w) (hS:S w)
  (h:I0 P md l.toArray Q S t fuel (listed.setIfInBounds i true) (a.put (some d) v) w):I0 P md l.toArray Q S t (fuel+1) listed a w:=
 Xn5 (Xi1 hl) hit hw hs hf hr hQ (.inl ⟨hwn,hy⟩) hS (by rw[hd];exact h)
theorem tT {l rest:List Oper} (i:Nat) (v:Value) {d:Nat} {oi:Oper} {fuel:Nat} {listed listed':Array Bool} {a a':Act} {w:World}
  (h:I0 P md l.toArray Q S t fuel listed' a' w)
  (hl:l.drop i=oi::rest:=by rfl) (hd:oi.dst=some d:=by rfl) (hit:(i ==t)=false:=by rfl) (hw:Region.waitsFor md l.toArray t i=true:=by kernel_rfl)
  (hs:Region.noSelect l.toArray=true:=by kernel_rfl) (hf:Region.free md l.toArray listed i=true:=by kernel_rfl) (hr:(Region.ready md l.toArray listed).contains i=true:=by kernel_rfl)
  (hQ: ∀c a w,Q (.panic c) (a.put oi.dst v) w→Q (.panic c) a w:=by exact fun _ _ _ h=>h) (hwn:Region.wanted oi (yielded l.toArray a.tmps)=true:=by rfl)
  (hy: ∀w,S w→(execOp a.eval oi).run P w= .ok (.value v) w:=by intro W hSw;go_simp) (hS:S w:=by first|trivial|assumption)
  (hp:a.put (some d) v=a':=by first|(simp only[Act.put,List.setIfInBounds_toArray,List.set_cons_zero,List.set_cons_succ];rfl)|rfl)
  (hli:listed.setIfInBounds i true=listed':=by first|(simp only[List.setIfInBounds_toArray,List.set_cons_zero,List.set_cons_succ];rfl)|rfl):I0 P md l.toArray Q S t (fuel+1) listed a w:=
 Zk7 i d v hl hd hit hw hs hf hr hQ hwn hy hS (by rw[hp,hli];exact h)
theorem Y0 {l rest:List Oper} (i:Nat) {o:Oper} {fuel:Nat} {listed:Array Bool} {a:Act} {w:World} (hr:Region.ready md l.toArray listed= [i]) (ho:l.drop i=o::rest)
  (h: ∀K':Act→World→Prop,(∀a w,S w→(S w→I0 P md l.toArray Q S t fuel (listed.setIfInBounds i true) a w)→K' a w)→if Region.wanted o (yielded l.toArray a.tmps)=true then Oper.wp P o a w K' Q else K' (a.put o.dst undef) w):I0 P md l.toArray Q S t (fuel+1) listed a w:=
 Js8 hr (by simp) (fun j hj=>by
  rw[List.mem_singleton]at hj;subst hj;exact wpOp_step (Xi1 ho) fun K' hK=>h K' (fun a w hS hw=>hK a w ⟨fun _=>hS,hw hS⟩))
theorem Qn9 {l rest:List Oper} {o:Oper} {fuel:Nat} {listed:Array Bool} {a:Act} {w:World} (hr:Region.ready md l.toArray listed= [t]) (ho:l.drop t=o::rest)
  (h: ∀K':Act→World→Prop,(∀a w,I0 P md l.toArray Q S t fuel (listed.setIfInBounds t true) a w→K' a w)→if Region.wanted o (yielded l.toArray a.tmps)=true then Oper.wp P o a w K' Q else K' (a.put o.dst undef) w):I0 P md l.toArray Q S t (fuel+1) listed a w:=
 Js8 hr (by simp) (fun j hj=>by
  rw[List.mem_singleton]at hj;subst hj;exact wpOp_step (Xi1 ho) fun K' hK=>h K' (fun a w hw=>hK a w ⟨fun e=>absurd rfl e,hw⟩))
end
section
variable {P:Program} {ops:Array Oper} {Q:Exit→Act→World→Prop} {md:Region.Mode} {S:World→Prop} {T:Nat→Bool}
def Z3 (P:Program) (md:Region.Mode) (ops:Array Oper) (Q:Exit→Act→World→Prop) (S:World→Prop) (T:Nat→Bool):Nat→Array Bool→Act→World→Prop
 |0,listed,a,w=>Region.ready md ops listed= []∧Q .normal a w
 |fuel+1,listed,a,w=>
  (Region.ready md ops listed= []→Q .normal a w)∧
  ∀i∈Region.ready md ops listed,wpOp P ops Q i (fun a' w'=>(T i=false→S w')∧Z3 P md ops Q S T fuel (listed.setIfInBounds i true) a' w') a w
theorem Qw7: ∀(fuel:Nat) (listed:Array Bool) (a:Act) (w:World),Z3 P md ops Q S T fuel listed a w→wpAny P md ops Q fuel listed a w
 |0,_,_,_,h=>h
 |fuel+1,_,_,_,h=>⟨h.1,fun i hi=>wpOp_mono (fun a' w' h'=>Qw7 fuel _ a' w' h'.2) (h.2 i hi)⟩
theorem Xi2 {i:Nat} {oi:Oper} {v:Value} (hi:ops[i]?=some oi) (hw: ∀t,T t=true→Region.waitsFor md ops t i=true) (hsel: ∀(j:Nat) (o:Oper) cs b,ops[j]?=some o→o.op≠ .select cs b)
  (hQ: ∀c a w,Q (.panic c) (a.put oi.dst v) w→Q (.panic c) a w):
  ∀(fuel:Nat) (listed:Array Bool) (a:Act) (w:World),
   (∀j oj,ops[j]?=some oj→j≠i→listed.getD j true=false→(∀e∈oj.after,Region.binds md e=true→e.on≠i)→oi.apart ops oj=true)→
   i∈Region.ready md ops listed→YieldsIf P ops S oi v a→S w→
   Z3 P md ops Q S T fuel (listed.setIfInBounds i true) (a.put oi.dst v) w→Z3 P md ops Q S T (fuel+1) listed a w:=by
 intro fuel
 induction fuel with
 |zero=>
  intro listed a w _ hr hy hS H;refine⟨fun h=>(by rw[h]at hr;cases hr),fun j hj=> ?_⟩
  by_cases hji:j=i
  ·subst hji;exact hy.wpOp hi hS ⟨fun _=>hS,H⟩
  ·have:=ready_mono hj hji
   rw[H.1]at this
   cases this
 |succ fuel ih=>
  intro listed a w hfree hr hy hS H;refine⟨fun h=>(by rw[h]at hr;cases hr),fun j hj=> ?_⟩
  by_cases hji:j=i
  ·subst hji;exact hy.wpOp hi hS ⟨fun _=>hS,H⟩
  ·have h1:=H.2 j (ready_mono hj hji)
   obtain⟨hjun,oj,hoj,hall⟩:=mem_ready.1 hj;have hnot: ∀e∈oj.after,Region.binds md e=true→e.on≠i:=fun e he hb heq=>by
    have h1:=hall e he hb;have h0:=(mem_ready.1 hr).1;rw[heq]at h1;rcases Nat.lt_or_ge i listed.size with h'|h'
    ·simp[h']at h0 h1;rw[h0]at h1;cases h1
    ·simp[Array.getElem?_eq_none h']at h1
   have hjt:T j=false:=by
    cases hT:T j with
    |false=>rfl
    |true=>
     exfalso
     obtain⟨o',ho',e,he,hb,hon⟩:=Region.waitsFor_spec (hw j hT);have:o'=oj:=Option.some.inj (ho'.symm.trans hoj);subst this;exact hnot e he hb hon
   have h2:=wpOp_putIf hoj (hfree j oj hoj hji hjun hnot) (fun cs b=>hsel i oi cs b hi) (fun cs b=>hsel j oj cs b hoj) hQ hy h1;have hfree': ∀k ok,ops[k]?=some ok→k≠i→(listed.setIfInBounds j true).getD k true=false→
     (∀e∈ok.after,Region.binds md e=true→e.on≠i)→oi.apart ops ok=true:=fun k ok hk hki hun hno=>by
    refine hfree k ok hk hki ?_ hno
    by_cases hjk:j=k
    ·subst hjk;exact hjun
    ·rw[getD_set_ne true hjk]at hun;exact hun
   refine wpOp_mono (fun a' w' h3=>⟨fun _=>h3.2.1 hjt,ih (listed.setIfInBounds j true) a' w' hfree' (ready_mono hr (Ne.symm hji)) h3.1 (h3.2.1 hjt) ?_⟩) h2;rw[Array.setIfInBounds_comm _ _ hji];exact h3.2.2
theorem Xn6 {i:Nat} {oi:Oper} {v:Value} {fuel:Nat} {listed:Array Bool} {a:Act} {w:World} (hi:ops[i]?=some oi) (hw: ∀t,T t=true→Region.waitsFor md ops t i=true)
  (hs:Region.noSelect ops=true) (hf:Region.free md ops listed i=true) (hr:(Region.ready md ops listed).contains i=true)
  (hQ: ∀c a w,Q (.panic c) (a.put oi.dst v) w→Q (.panic c) a w) (hy:YieldsIf P ops S oi v a) (hS:S w)
  (h:Z3 P md ops Q S T fuel (listed.setIfInBounds i true) (a.put oi.dst v) w):Z3 P md ops Q S T (fuel+1) listed a w:=
 Xi2 hi hw (Region.noSelect_spec hs) hQ fuel listed a w (Region.free_spec hi hf) (by simpa using hr) hy hS h
theorem Js9 {rs:List Nat} {fuel:Nat} {listed:Array Bool} {a:Act} {w:World} (hr:Region.ready md ops listed=rs) (hne:rs≠ [])
  (h: ∀i∈rs,wpOp P ops Q i (fun a' w'=>(T i=false→S w')∧Z3 P md ops Q S T fuel (listed.setIfInBounds i true) a' w') a w):Z3 P md ops Q S T (fuel+1) listed a w:=
 ⟨fun h0=>absurd (hr▸h0) hne,hr▸h⟩
theorem VJ {listed:Array Bool} {a:Act} {w:World} (hr:Region.ready md ops listed= []) (h:Q .normal a w):
  ∀fuel,Z3 P md ops Q S T fuel listed a w
 |0=>⟨hr,h⟩
 |_+1=>⟨fun _=>h,by rw[hr];simp⟩
theorem Jr4 {id:Nat} {a:Act} {w:World} (T:Nat→Bool) (S:World→Prop) (hm:P.follows .mixedOrders=true)
  (h:Z3 P .any ops Q S T ops.size (Array.replicate ops.size false) a {w with drawn:=w.drawn+1}):(Code.region id ops true).wp P Q a w:=
 wp_region_any hm (Qw7 _ _ _ _ h)
theorem XY {id:Nat} {a:Act} {w:World} (T:Nat→Bool) (S:World→Prop) (hm:P.follows .mixedOrders=true) (hS:S w.drew)
  (h:S w.drew→Z3 P .any ops Q S T ops.size (Array.replicate ops.size false) a w.drew):(Code.region id ops true).wp P Q a w:=Jr4 T S hm (h hS)
theorem Xn7 {l rest:List Oper} {i:Nat} {oi:Oper} (hl:l.drop i=oi::rest):l.toArray[i]?=some oi:=by
 have h:(l.drop i)[0]?=some oi:=by rw[hl];rfl
 rw[List.getElem?_drop]at h
 simpa using h
theorem Zk8 {l rest:List Oper} (i d:Nat) {oi:Oper} (v:Value) {ts:List Nat} {fuel:Nat} {listed:Array Bool} {a:Act} {w:World} (hl:l.drop i=oi::rest) (hd:oi.dst=some d) (hw:(ts.all fun t=>Region.waitsFor md l.toArray t i)=true)
  (hs:Region.noSelect l.toArray=true) (hf:Region.free md l.toArray listed i=true) (hr:(Region.ready md l.toArray listed).contains i=true)
  (hQ: ∀c a w,Q (.panic c) (a.put oi.dst v) w→Q (.panic c) a w) (hwn:Region.wanted oi (yielded l.toArray a.tmps)=true) (hy: ∀w,S w→(execOp a.eval oi).run P w= .ok (.value v) w) (hS:S w)
  (h:Z3 P md l.toArray Q S (fun t=>ts.contains t) fuel (listed.setIfInBounds i true) (a.put (some d) v) w):Z3 P md l.toArray Q S (fun t=>ts.contains t) (fuel+1) listed a w:=
 Xn6 (Xn7 hl) (fun t ht=>List.all_eq_true.1 hw t (by simpa using ht)) hs hf hr hQ (.inl ⟨hwn,hy⟩) hS (by rw[hd];exact h)
theorem opM {l rest:List Oper} (i:Nat) {o:Oper} {fuel:Nat} {listed:Array Bool} {a:Act} {w:World} (ho:l.drop i=o::rest)
  (h: ∀K':Act→World→Prop,(∀a w,(T i=false→S w)→Z3 P md l.toArray Q S T fuel (listed.setIfInBounds i true) a w→K' a w)→if Region.wanted o (yielded l.toArray a.tmps)=true then Oper.wp P o a w K' Q else K' (a.put o.dst undef) w):
  wpOp P l.toArray Q i (fun a' w'=>(T i=false→S w')∧Z3 P md l.toArray Q S T fuel (listed.setIfInBounds i true) a' w') a w:=
 wpOp_step (Xn7 ho) fun K' hK=>h K' (fun a w hS hw=>hK a w ⟨hS,hw⟩)
theorem Zk9 {i:Nat} {fuel:Nat} {listed:Array Bool} {a:Act} {w:World} (hr:Region.ready md ops listed= [i])
  (h:wpOp P ops Q i (fun a' w'=>(T i=false→S w')∧Z3 P md ops Q S T fuel (listed.setIfInBounds i true) a' w') a w):Z3 P md ops Q S T (fuel+1) listed a w:=
 Js9 hr (by simp) (fun k hk=>by rw[List.mem_singleton]at hk;subst hk;exact h)
theorem Jn2 {i j:Nat} {fuel:Nat} {listed:Array Bool} {a:Act} {w:World} (hr:Region.ready md ops listed= [i,j])
  (h1:wpOp P ops Q i (fun a' w'=>(T i=false→S w')∧Z3 P md ops Q S T fuel (listed.setIfInBounds i true) a' w') a w)
  (h2:wpOp P ops Q j (fun a' w'=>(T j=false→S w')∧Z3 P md ops Q S T fuel (listed.setIfInBounds j true) a' w') a w):Z3 P md ops Q S T (fuel+1) listed a w:=
 Js9 hr (by simp) (fun k hk=>by
  rw[List.mem_cons,List.mem_singleton]at hk;rcases hk with rfl|rfl
  ·exact h1
  ·exact h2)
theorem tM {l rest:List Oper} (i:Nat) (v:Value) {d:Nat} {oi:Oper} {ts:List Nat} {fuel:Nat} {listed listed':Array Bool} {a a':Act} {w:World}
  (h:Z3 P md l.toArray Q S (fun t=>ts.contains t) fuel listed' a' w)
  (hl:l.drop i=oi::rest:=by rfl) (hd:oi.dst=some d:=by rfl) (hw:(ts.all fun t=>Region.waitsFor md l.toArray t i)=true:=by kernel_rfl)
  (hs:Region.noSelect l.toArray=true:=by kernel_rfl) (hf:Region.free md l.toArray listed i=true:=by kernel_rfl) (hr:(Region.ready md l.toArray listed).contains i=true:=by kernel_rfl)
  (hQ: ∀c a w,Q (.panic c) (a.put oi.dst v) w→Q (.panic c) a w:=by exact fun _ _ _ h=>h) (hwn:Region.wanted oi (yielded l.toArray a.tmps)=true:=by rfl)
  (hy: ∀w,S w→(execOp a.eval oi).run P w= .ok (.value v) w:=by intro W hSw;go_simp) (hS:S w:=by first|trivial|assumption)
  (hp:a.put (some d) v=a':=by first|(simp only[Act.put,List.setIfInBounds_toArray,List.set_cons_zero,List.set_cons_succ];rfl)|rfl)
  (hli:listed.setIfInBounds i true=listed':=by first|(simp only[List.setIfInBounds_toArray,List.set_cons_zero,List.set_cons_succ];rfl)|rfl):Z3 P md l.toArray Q S (fun t=>ts.contains t) (fuel+1) listed a w:=
 Zk8 i d v hl hd hw hs hf hr hQ hwn hy hS (by rw[hp,hli];exact h)
theorem oM {l rest:List Oper} (i:Nat) {o:Oper} {fuel:Nat} {listed listed':Array Bool} {a:Act} {w:World}
  (h: ∀K':Act→World→Prop,(∀a w,(T i=false→S w)→Z3 P md l.toArray Q S T fuel listed' a w→K' a w)→if Region.wanted o (yielded l.toArray a.tmps)=true then Oper.wp P o a w K' Q else K' (a.put o.dst undef) w)
  (ho:l.drop i=o::rest:=by rfl) (hr:Region.ready md l.toArray listed= [i]:=by kernel_rfl)
  (hli:listed.setIfInBounds i true=listed':=by first|(simp only[List.setIfInBounds_toArray,List.set_cons_zero,List.set_cons_succ];rfl)|rfl):Z3 P md l.toArray Q S T (fuel+1) listed a w:=
 Zk9 hr (opM i ho (by rw[hli];exact h))
end
section
variable {P:Program} {ops:Array Oper} {Q:Exit→Act→World→Prop} {md:Region.Mode} {S U:World→Prop} {T:Nat→Bool}
def Qj6 (P:Program) (md:Region.Mode) (ops:Array Oper) (Q:Exit→Act→World→Prop) (S U:World→Prop) (T:Nat→Bool):Nat→Array Bool→Act→World→Prop
 |0,listed,a,w=>Region.ready md ops listed= []∧Q .normal a w
 |fuel+1,listed,a,w=>
  (Region.ready md ops listed= []→Q .normal a w)∧
  ∀i∈Region.ready md ops listed,wpOp P ops Q i (fun a' w'=>((T i=false→S w→S w')∧(U w→U w'))∧Qj6 P md ops Q S U T fuel (listed.setIfInBounds i true) a' w') a w
theorem Qw8: ∀(fuel:Nat) (listed:Array Bool) (a:Act) (w:World),Qj6 P md ops Q S U T fuel listed a w→wpAny P md ops Q fuel listed a w
 |0,_,_,_,h=>h
 |fuel+1,_,_,_,h=>⟨h.1,fun i hi=>wpOp_mono (fun a' w' h'=>Qw8 fuel _ a' w' h'.2) (h.2 i hi)⟩
theorem Jg5 {R:World→Prop} {i:Nat} {oi:Oper} {v:Value} (hi:ops[i]?=some oi) (hsel: ∀(j:Nat) (o:Oper) cs b,ops[j]?=some o→o.op≠ .select cs b)
  (hQ: ∀c a w,Q (.panic c) (a.put oi.dst v) w→Q (.panic c) a w):
  ∀(fuel:Nat) (listed:Array Bool) (a:Act) (w:World),
   (∀j oj,ops[j]?=some oj→j≠i→listed.getD j true=false→(∀e∈oj.after,Region.binds md e=true→e.on≠i)→oi.apart ops oj=true)→
   i∈Region.ready md ops listed→YieldsIf P ops R oi v a→(U w∧ ∀w,U w→R w)∨(S w∧(∀w,S w→R w)∧ ∀t,T t=true→Region.waitsFor md ops t i=true)→
   Qj6 P md ops Q S U T fuel (listed.setIfInBounds i true) (a.put oi.dst v) w→Qj6 P md ops Q S U T (fuel+1) listed a w:=by
 intro fuel
 induction fuel with
 |zero=>
  intro listed a w _ hr hy hS H;have hRw:R w:=hS.elim (fun h=>h.2 w h.1) (fun h=>h.2.1 w h.1);refine⟨fun h=>(by rw[h]at hr;cases hr),fun j hj=> ?_⟩
  by_cases hji:j=i
  ·subst hji;exact hy.wpOp hi hRw ⟨⟨fun _ h=>h,fun h=>h⟩,H⟩
  ·have:=ready_mono hj hji
   rw[H.1]at this
   cases this
 |succ fuel ih=>
  intro listed a w hfree hr hy hS H;have hRw:R w:=hS.elim (fun h=>h.2 w h.1) (fun h=>h.2.1 w h.1);refine⟨fun h=>(by rw[h]at hr;cases hr),fun j hj=> ?_⟩
  by_cases hji:j=i
  ·subst hji;exact hy.wpOp hi hRw ⟨⟨fun _ h=>h,fun h=>h⟩,H⟩
  ·have h1:=H.2 j (ready_mono hj hji)
   obtain⟨hjun,oj,hoj,hall⟩:=mem_ready.1 hj;have hnot: ∀e∈oj.after,Region.binds md e=true→e.on≠i:=fun e he hb heq=>by
    have h1:=hall e he hb;have h0:=(mem_ready.1 hr).1;rw[heq]at h1;rcases Nat.lt_or_ge i listed.size with h'|h'
    ·simp[h']at h0 h1;rw[h0]at h1;cases h1
    ·simp[Array.getElem?_eq_none h']at h1
   have hnext: ∀w',((T j=false→S w→S w')∧(U w→U w'))→(U w'∧ ∀w,U w→R w)∨(S w'∧(∀w,S w→R w)∧ ∀t,T t=true→Region.waitsFor md ops t i=true):=fun w' hk=>by
    rcases hS with⟨hS,hR⟩|⟨hS,hR,hw⟩
    ·exact .inl ⟨hk.2 hS,hR⟩
    ·refine .inr ⟨hk.1 ?_ hS,hR,hw⟩
     cases hT:T j with
     |false=>rfl
     |true=>
      exfalso
      obtain⟨o',ho',e,he,hb,hon⟩:=Region.waitsFor_spec (hw j hT);have:o'=oj:=Option.some.inj (ho'.symm.trans hoj);subst this;exact hnot e he hb hon
   have h2:=wpOp_putIf hoj (hfree j oj hoj hji hjun hnot) (fun cs b=>hsel i oi cs b hi) (fun cs b=>hsel j oj cs b hoj) hQ hy h1;have hfree': ∀k ok,ops[k]?=some ok→k≠i→(listed.setIfInBounds j true).getD k true=false→
     (∀e∈ok.after,Region.binds md e=true→e.on≠i)→oi.apart ops ok=true:=fun k ok hk hki hun hno=>by
    refine hfree k ok hk hki ?_ hno
    by_cases hjk:j=k
    ·subst hjk;exact hjun
    ·rw[getD_set_ne true hjk]at hun;exact hun
   refine wpOp_mono (fun a' w' h3=>⟨h3.2.1,ih (listed.setIfInBounds j true) a' w' hfree' (ready_mono hr (Ne.symm hji)) h3.1 (hnext w' h3.2.1) ?_⟩) h2;rw[Array.setIfInBounds_comm _ _ hji];exact h3.2.2
theorem U5 {listed:Array Bool} {a:Act} {w:World} (h:Q .normal a w) (hr:Region.ready md ops listed= []:=by kernel_rfl):
  ∀fuel,Qj6 P md ops Q S U T fuel listed a w
 |0=>⟨hr,h⟩
 |_+1=>⟨fun _=>h,by rw[hr];simp⟩
theorem Z4 {id:Nat} {a:Act} {w:World} (T:List Nat) (S U:World→Prop) (hS:S w.drew) (hU:U w.drew)
  (h:S w.drew→U w.drew→Qj6 P .any ops Q S U (fun t=>T.contains t) ops.size (Array.replicate ops.size false) a w.drew) (hm:P.follows .mixedOrders=true:=by kernel_rfl):(Code.region id ops true).wp P Q a w:=
 wp_region_any hm (Qw8 _ _ _ _ (h hS hU))
theorem Qw9 {l rest:List Oper} {i:Nat} {oi:Oper} (hl:l.drop i=oi::rest):l.toArray[i]?=some oi:=by
 have h:(l.drop i)[0]?=some oi:=by rw[hl];rfl
 rw[List.getElem?_drop]at h
 simpa using h
theorem tN {l rest:List Oper} (i:Nat) (v:Value) {d:Nat} {oi:Oper} {ts:List Nat} {fuel:Nat} {listed listed':Array Bool} {a a':Act} {w:World}
  (h:Qj6 P md l.toArray Q S U (fun t=>ts.contains t) fuel listed' a' w)
  (hl:l.drop i=oi::rest:=by rfl) (hd:oi.dst=some d:=by rfl) (hw:(ts.all fun t=>Region.waitsFor md l.toArray t i)=true:=by kernel_rfl)
  (hs:Region.noSelect l.toArray=true:=by kernel_rfl) (hf:Region.free md l.toArray listed i=true:=by kernel_rfl) (hr:(Region.ready md l.toArray listed).contains i=true:=by kernel_rfl)
  (hQ: ∀c a w,Q (.panic c) (a.put oi.dst v) w→Q (.panic c) a w:=by exact fun _ _ _ h=>h) (hwn:Region.wanted oi (yielded l.toArray a.tmps)=true:=by rfl)
  (hy: ∀w,S w→(execOp a.eval oi).run P w= .ok (.value v) w:=by intro W hSw;go_simp) (hS:S w:=by first|trivial|assumption)
  (hp:a.put (some d) v=a':=by first|(simp only[Act.put,List.setIfInBounds_toArray,List.set_cons_zero,List.set_cons_succ];rfl)|rfl)
  (hli:listed.setIfInBounds i true=listed':=by first|(simp only[List.setIfInBounds_toArray,List.set_cons_zero,List.set_cons_succ];rfl)|rfl):Qj6 P md l.toArray Q S U (fun t=>ts.contains t) (fuel+1) listed a w:=
 Jg5 (R:=S) (Qw9 hl) (Region.noSelect_spec hs) hQ fuel listed a w (Region.free_spec (Qw9 hl) hf) (by simpa using hr) (.inl ⟨hwn,hy⟩) (.inr ⟨hS,fun _ h=>h,fun t ht=>List.all_eq_true.1 hw t (by simpa using ht)⟩) (by rw[hd,hp,hli];exact h)
theorem tP {l rest:List Oper} (i:Nat) (v:Value) {d:Nat} {oi:Oper} {fuel:Nat} {listed listed':Array Bool} {a a':Act} {w:World}
  (h:Qj6 P md l.toArray Q S U T fuel listed' a' w)
  (hl:l.drop i=oi::rest:=by rfl) (hd:oi.dst=some d:=by rfl)
  (hs:Region.noSelect l.toArray=true:=by kernel_rfl) (hf:Region.free md l.toArray listed i=true:=by kernel_rfl) (hr:(Region.ready md l.toArray listed).contains i=true:=by kernel_rfl)
  (hQ: ∀c a w,Q (.panic c) (a.put oi.dst v) w→Q (.panic c) a w:=by exact fun _ _ _ h=>h) (hwn:Region.wanted oi (yielded l.toArray a.tmps)=true:=by rfl)
  (hy: ∀w,U w→(execOp a.eval oi).run P w= .ok (.value v) w:=by intro W hSw;go_simp) (hU:U w:=by first|trivial|assumption)
  (hp:a.put (some d) v=a':=by first|(simp only[Act.put,List.setIfInBounds_toArray,List.set_cons_zero,List.set_cons_succ];rfl)|rfl)
  (hli:listed.setIfInBounds i true=listed':=by first|(simp only[List.setIfInBounds_toArray,List.set_cons_zero,List.set_cons_succ];rfl)|rfl):Qj6 P md l.toArray Q S U T (fuel+1) listed a w:=
 Jg5 (R:=U) (Qw9 hl) (Region.noSelect_spec hs) hQ fuel listed a w (Region.free_spec (Qw9 hl) hf) (by simpa using hr) (.inl ⟨hwn,hy⟩) (.inl ⟨hU,fun _ h=>h⟩) (by rw[hd,hp,hli];exact h)
theorem oN {l rest:List Oper} (i:Nat) {o:Oper} {fuel:Nat} {listed listed':Array Bool} {a:Act} {w:World}
  (h: ∀K':Act→World→Prop,(∀a w',(T i=false→S w')→U w'→Qj6 P md l.toArray Q S U T fuel listed' a w'→K' a w')→if Region.wanted o (yielded l.toArray a.tmps)=true then Oper.wp P o a w K' Q else K' (a.put o.dst undef) w)
  (ho:l.drop i=o::rest:=by rfl) (hr:Region.ready md l.toArray listed= [i]:=by kernel_rfl)
  (hli:listed.setIfInBounds i true=listed':=by first|(simp only[List.setIfInBounds_toArray,List.set_cons_zero,List.set_cons_succ];rfl)|rfl):Qj6 P md l.toArray Q S U T (fuel+1) listed a w:=
 ⟨fun h0=>absurd (hr▸h0) (by simp),hr▸fun k hk=>by
  rw[List.mem_singleton]at hk;subst hk;exact wpOp_step (Qw9 ho) fun K' hK=>h K' (fun a w' hS hU hw=>hK a w' ⟨⟨fun e _=>hS e,fun _=>hU⟩,by rw[hli];exact hw⟩)⟩
end
end Go.Proofs.YtbmiieehkkfbgaaGreatDoor
