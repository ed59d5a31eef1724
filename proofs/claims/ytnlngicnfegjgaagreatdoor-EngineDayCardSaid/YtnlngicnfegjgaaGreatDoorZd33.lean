/- Contracts and walks that the law's proof needs. -/
import Derived.OrdersHeld
import Derived.StillTail
import Derived.RegionTactic
set_option linter.unusedVariables false
set_option maxRecDepth 100000
set_option maxHeartbeats 8000000
namespace Go.Proofs.YtnlngicnfegjgaaGreatDoor
open Go
section
variable {P:Program} {ops:Array Oper} {Q:Exit→Act→World→Prop} {md:Region.Mode} {S U:World→Prop} {T:Nat→Bool}
def Qk3 (P:Program) (md:Region.Mode) (ops:Array Oper) (Q:Exit→Act→World→Prop) (S U:World→Prop) (T:Nat→Bool):Nat→Array Bool→Act→World→Prop
 |0,listed,a,w=>Region.ready md ops listed= []∧Q .normal a w
 |fuel+1,listed,a,w=>
  (Region.ready md ops listed= []→Q .normal a w)∧
  ∀i∈Region.ready md ops listed,wpOp P ops Q i (fun a' w'=>((T i=false→S w→S w')∧(U w→U w'))∧Qk3 P md ops Q S U T fuel (listed.setIfInBounds i true) a' w') a w
theorem Qz4: ∀(fuel:Nat) (listed:Array Bool) (a:Act) (w:World),Qk3 P md ops Q S U T fuel listed a w→wpAny P md ops Q fuel listed a w
 |0,_,_,_,h=>h
 |fuel+1,_,_,_,h=>⟨h.1,fun i hi=>wpOp_mono (fun a' w' h'=>Qz4 fuel _ a' w' h'.2) (h.2 i hi)⟩
theorem Ji4 {R:World→Prop} {i:Nat} {oi:Oper} {v:Value} (hi:ops[i]?=some oi) (hsel: ∀(j:Nat) (o:Oper) cs b,ops[j]?=some o→o.op≠ .select cs b)
  (hQ: ∀c a w,Q (.panic c) (a.put oi.dst v) w→Q (.panic c) a w):
  ∀(fuel:Nat) (listed:Array Bool) (a:Act) (w:World),
   (∀j oj,ops[j]?=some oj→j≠i→listed.getD j true=false→(∀e∈oj.after,Region.binds md e=true→e.on≠i)→oi.apart ops oj=true)→
   i∈Region.ready md ops listed→YieldsIf P ops R oi v a→(U w∧ ∀w,U w→R w)∨(S w∧(∀w,S w→R w)∧ ∀t,T t=true→Region.waitsFor md ops t i=true)→
   Qk3 P md ops Q S U T fuel (listed.setIfInBounds i true) (a.put oi.dst v) w→Qk3 P md ops Q S U T (fuel+1) listed a w:=by
 intro fuel
 induction fuel with
 |zero=>
  intro listed a w _ hr hy hS H;have hRw:R w:=hS.elim (fun h=>h.2 w h.1) (fun h=>h.2.1 w h.1);refine⟨fun h=>(by rw[h]at hr;cases hr),fun j hj=> ?_⟩
  by_cases hji:j=i
  ·subst hji;exact hy.wpOp hi hRw ⟨⟨fun _ h=>h,fun h=>h⟩,H⟩
  ·have:=ready_mono hj hji
   rw[H.1]at this
   cases this
 |succ fuel ih=>
  intro listed a w hfree hr hy hS H;have hRw:R w:=hS.elim (fun h=>h.2 w h.1) (fun h=>h.2.1 w h.1);refine⟨fun h=>(by rw[h]at hr;cases hr),fun j hj=> ?_⟩
  by_cases hji:j=i
  ·subst hji;exact hy.wpOp hi hRw ⟨⟨fun _ h=>h,fun h=>h⟩,H⟩
  ·have h1:=H.2 j (ready_mono hj hji)
   obtain⟨hjun,oj,hoj,hall⟩:=mem_ready.1 hj;have hnot: ∀e∈oj.after,Region.binds md e=true→e.on≠i:=fun e he hb heq=>by
    have h1:=hall e he hb;have h0:=(mem_ready.1 hr).1;rw[heq]at h1;rcases Nat.lt_or_ge i listed.size with h'|h'
    ·simp[h']at h0 h1;rw[h0]at h1;cases h1
    ·simp[Array.getElem?_eq_none h']at h1
   have hnext: ∀w',((T j=false→S w→S w')∧(U w→U w'))→(U w'∧ ∀w,U w→R w)∨(S w'∧(∀w,S w→R w)∧ ∀t,T t=true→Region.waitsFor md ops t i=true):=fun w' hk=>by
    rcases hS with⟨hS,hR⟩|⟨hS,hR,hw⟩
    ·exact .inl ⟨hk.2 hS,hR⟩
    ·refine .inr ⟨hk.1 ?_ hS,hR,hw⟩
     cases hT:T j with
     |false=>rfl
     |true=>
      exfalso
      obtain⟨o',ho',e,he,hb,hon⟩:=Region.waitsFor_spec (hw j hT);have:o'=oj:=Option.some.inj (ho'.symm.trans hoj);subst this;exact hnot e he hb hon
   have h2:=wpOp_putIf hoj (hfree j oj hoj hji hjun hnot) (fun cs b=>hsel i oi cs b hi) (fun cs b=>hsel j oj cs b hoj) hQ hy h1;have hfree': ∀k ok,ops[k]?=some ok→k≠i→(listed.setIfInBounds j true).getD k true=false→
     (∀e∈ok.after,Region.binds md e=true→e.on≠i)→oi.apart ops ok=true:=fun k ok hk hki hun hno=>by
    refine hfree k ok hk hki ?_ hno
    by_cases hjk:j=k
    ·subst hjk;exact hjun
    ·rw[getD_set_ne true hjk]at hun;exact hun
   refine wpOp_mono (fun a' w' h3=>⟨h3.2.1,ih (listed.setIfInBounds j true) a' w' hfree' (ready_mono hr (Ne.symm hji)) h3.1 (hnext w' h3.2.1) ?_⟩) h2;rw[Array.setIfInBounds_comm _ _ hji];exact h3.2.2
theorem Qc2 {listed:Array Bool} {a:Act} {w:World} (h:Q .normal a w) (hr:Region.ready md ops listed= []:=by kernel_rfl):
  ∀fuel,Qk3 P md ops Q S U T fuel listed a w
 |0=>⟨hr,h⟩
 |_+1=>⟨fun _=>h,by rw[hr];simp⟩
theorem Qa0 {id:Nat} {a:Act} {w:World} (T:List Nat) (S U:World→Prop) (hS:S w.drew) (hU:U w.drew)
  (h:S w.drew→U w.drew→Qk3 P .any ops Q S U (fun t=>T.contains t) ops.size (Array.replicate ops.size false) a w.drew) (hm:P.follows .mixedOrders=true:=by kernel_rfl):(Code.region id ops true).wp P Q a w:=
 wp_region_any hm (Qz4 _ _ _ _ (h hS hU))
theorem Qz5 {l rest:List Oper} {i:Nat} {oi:Oper} (hl:l.drop i=oi::rest):l.toArray[i]?=some oi:=by
 have h:(l.drop i)[0]?=some oi:=by rw[hl];rfl
 rw[List.getElem?_drop]at h
 simpa using h
theorem tN {l rest:List Oper} (i:Nat) (v:Value) {d:Nat} {oi:Oper} {ts:List Nat} {fuel:Nat} {listed listed':Array Bool} {a a':Act} {w:World}
  (h:Qk3 P md l.toArray Q S U (fun t=>ts.contains t) fuel listed' a' w)
  (hl:l.drop i=oi::rest:=by rfl) (hd:oi.dst=some d:=by rfl) (hw:(ts.all fun t=>Region.waitsFor md l.toArray t i)=true:=by kernel_rfl)
  (hs:Region.noSelect l.toArray=true:=by kernel_rfl) (hf:Region.free md l.toArray listed i=true:=by kernel_rfl) (hr:(Region.ready md l.toArray listed).contains i=true:=by kernel_rfl)
  (hQ: ∀c a w,Q (.panic c) (a.put oi.dst v) w→Q (.panic c) a w:=by exact fun _ _ _ h=>h) (hwn:Region.wanted oi (yielded l.toArray a.tmps)=true:=by rfl)
  (hy: ∀w,S w→(execOp a.eval oi).run P w= .ok (.value v) w:=by intro W hSw;go_simp) (hS:S w:=by first|trivial|assumption)
  (hp:a.put (some d) v=a':=by first|(simp only[Act.put,List.setIfInBounds_toArray,List.set_cons_zero,List.set_cons_succ];rfl)|rfl)
  (hli:listed.setIfInBounds i true=listed':=by first|(simp only[List.setIfInBounds_toArray,List.set_cons_zero,List.set_cons_succ];rfl)|rfl):Qk3 P md l.toArray Q S U (fun t=>ts.contains t) (fuel+1) listed a w:=
 Ji4 (R:=S) (Qz5 hl) (Region.noSelect_spec hs) hQ fuel listed a w (Region.free_spec (Qz5 hl) hf) (by simpa using hr) (.inl ⟨hwn,hy⟩) (.inr ⟨hS,fun _ h=>h,fun t ht=>List.all_eq_true.1 hw t (by simpa using ht)⟩) (by rw[hd,hp,hli];exact h)
theorem tP {l rest:List Oper} (i:Nat) (v:Value) {d:Nat} {oi:Oper} {fuel:Nat} {listed listed':Array Bool} {a a':Act} {w:World}
  (h:Qk3 P md l.toArray Q S U T fuel listed' a' w)
  (hl:l.drop i=oi::rest:=by rfl) (hd:oi.dst=some d:=by rfl)
  (hs:Region.noSelect l.toArray=true:=by kernel_rfl) (hf:Region.free md l.toArray listed i=true:=by kernel_rfl) (hr:(Region.ready md l.toArray listed).contains i=true:=by kernel_rfl)
  (hQ: ∀c a w,Q (.panic c) (a.put oi.dst v) w→Q (.panic c) a w:=by exact fun _ _ _ h=>h) (hwn:Region.wanted oi (yielded l.toArray a.tmps)=true:=by rfl)
  (hy: ∀w,U w→(execOp a.eval oi).run P w= .ok (.value v) w:=by intro W hSw;go_simp) (hU:U w:=by first|trivial|assumption)
  (hp:a.put (some d) v=a':=by first|(simp only[Act.put,List.setIfInBounds_toArray,List.set_cons_zero,List.set_cons_succ];rfl)|rfl)
  (hli:listed.setIfInBounds i true=listed':=by first|(simp only[List.setIfInBounds_toArray,List.set_cons_zero,List.set_cons_succ];rfl)|rfl):Qk3 P md l.toArray Q S U T (fuel+1) listed a w:=
 Ji4 (R:=U) (Qz5 hl) (Region.noSelect_spec hs) hQ fuel listed a w (Region.free_spec (Qz5 hl) hf) (by simpa using hr) (.inl ⟨hwn,hy⟩) (.inl ⟨hU,fun _ h=>h⟩) (by rw[hd,hp,hli];exact h)
theorem oN {l rest:List Oper} (i:Nat) {o:Oper} {fuel:Nat} {listed listed':Array Bool} {a:Act} {w:World}
  (h: ∀K':Act→World→Prop,(∀a w',(T i=false→S w')→U w'→Qk3 P md l.toArray Q S U T fuel listed' a w'→K' a w')→if Region.wanted o (yielded l.toArray a.tmps)=true then Oper.wp P o a w K' Q else K' (a.put o.dst undef) w)
  (ho:l.drop i=o::rest:=by rfl) (hr:Region.ready md l.toArray listed= [i]:=by kernel_rfl)
  (hli:listed.setIfInBounds i true=listed':=by first|(simp only[List.setIfInBounds_toArray,List.set_cons_zero,List.set_cons_succ];rfl)|rfl):Qk3 P md l.toArray Q S U T (fuel+1) listed a w:=
 ⟨fun h0=>absurd (hr▸h0) (by simp),hr▸fun k hk=>by
  rw[List.mem_singleton]at hk;subst hk;exact wpOp_step (Qz5 ho) fun K' hK=>h K' (fun a w' hS hU hw=>hK a w' ⟨⟨fun e _=>hS e,fun _=>hU⟩,by rw[hli];exact hw⟩)⟩
end
end Go.Proofs.YtnlngicnfegjgaaGreatDoor
