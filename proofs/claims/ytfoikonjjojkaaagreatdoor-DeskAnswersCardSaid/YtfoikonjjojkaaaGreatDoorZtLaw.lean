/-
  The statement DeskAnswers and its tied card: for every text the Go function returns true and leaves its arguments as they were. No condition beside the card's own.
-/
import Derived.Test.YtfoikonjjojkaaaGreatDoorZt30
import Derived.Test.YtfoikonjjojkaaaGreatDoorZt7
set_option linter.unusedVariables false
set_option maxRecDepth 100000
set_option maxHeartbeats 8000000
open Go.Proofs.Tryz
namespace Go.Proofs.YtfoikonjjojkaaaGreatDoor.deskAnswers
open Go.ChangeShapes Go.WideShapes Go.ChangeAt Go.RowKit Go.Deep
open Go.ChangeMaps (open_string shut_string)
theorem own:ownKnob prog.godebug=none:=by kernel_rfl
theorem Xp3(os:Os)(started:os.Started)(H:Type)(enc:TypeId×Value->H):ReturnsInHanded {} Tryz.checked os 3 .any (fun w args=>(Rows.deskAnswersSpec.pre enc prog Tryz.f3 [] false w args/\laidMetH prog Rows.deskAnswersRow.laid w)/\sizedMet enc prog Tryz.f3 (OpenSpec.ofChange Rows.deskAnswersSpec) false w args) (Rows.deskAnswersSpec.post enc prog Tryz.f3 false true false false):=by
 refine Qk9 (C:=Tryz.checked) (X:=fun w _=>laidMetH prog Rows.deskAnswersRow.laid w) (fun _ _ _ hh h=>h.of_heap hh) own started (by kernel_rfl) func3
  (ChangeSpec.witness_shaped (enc:=enc) (C:=Tryz.checked) (os:=os) (X:=fun w _=>laidMetH prog Rows.deskAnswersRow.laid w) false (Dq os) #[.string ⟨#[]⟩] 8 rfl (Qu9 os) (by kernel_rfl) (by kernel_rfl) (by kernel_rfl) (Qq7 os _)) ?_
 intro W base args ds gs before hval0 hW hsz0 hL hsh;have hsz:(DataW.weightsEach prog (Tryz.f3.params.toList++Rows.deskAnswersSpec.plain.varTypes prog) (ds++gs)).all (· <=reachBytes)=true:=hsz0;have hval:∀(j:Nat)t v,Tryz.f3.params[j]?=some t->args[j]?=some v->Value.okWide prog W .any base t v:=hval0;have hW':=hW;obtain⟨p,q,hA0,hV,rfl,hfz,hnd⟩:=hW;have hA:DataW.TrodAll enc prog W 0 (fun _=>true) true Tryz.f3.params.toList args.toList ds p:=hA0;rw[Tryz.params3]at hA hval hsz;obtain⟨v0,vs0,d0,QU,p0,q0,hargs,rfl,rfl,h0,r0'⟩:=trodAll_cons hA;obtain⟨rfl,rfl,rfl⟩:=trodAll_nil r0';obtain rfl:args= #[v0]:=by cases args;simp_all
 obtain⟨rfl,rfl⟩:=trodVars_none hV;obtain⟨s0,rfl,rfl,rfl,m0⟩:=open_string underlying9 (hval 0 9 v0 rfl rfl) h0;clear hA0 hval0 hsz0;have h2:=reachBytes_lt;have e3:(2:Nat)^47=140737488355328:=by decide
 have l0:s0.size<=140737488355328:=by have h1:=sized_string hsz (j:=0) (t:=9) rfl rfl;rw[Lib.size_eq];omega
 have hbase:12<=W.heap.size:=by obtain⟨cs,hh,-⟩:=hsh.1 11 #[.pointer none] 180 (of_decide_eq_true (by kernel_rfl)) (by kernel_rfl);exact(Array.getElem?_eq_some_iff.1 hh).1
 refine(Qm1 s0 W l0 (Qp3 hL hsh) hbase).mono fun e W'⟨he,bel⟩=>?_
 subst he;exact⟨_,rfl,_,_,_,[],_,[],hW',trodAll_mk1 (shut_bool underlying4 _),(trodAll_cons_mk (shut_string underlying9 m0) trodAll_mk0),rfl,bel.frame _,fun h=>by cases h⟩
theorem c1:(Rows.deskAnswersRow.inPlace ==Tryz.pinned.checked.prog.inPlace 3)=true:=by kernel_rfl
theorem c2:(Rows.deskAnswersRow.unfollowed ==Tryz.pinned.checked.prog.unfollowed 3)=true:=by kernel_rfl
theorem c3:(Rows.deskAnswersRow.recurses ==Tryz.pinned.checked.prog.recurses 3)=true:=by kernel_rfl
theorem c4:(Rows.deskAnswersRow.named ==Tryz.pinned.checked.prog.varsNamed 3)=true:=by kernel_rfl
theorem Xp4:joinedFacts Tryz.pinned.checked.prog 3 Tryz.f3 Rows.deskAnswersSpec Rows.deskAnswersRow=true:=by
 unfold joinedFacts;rw[c1,c2,c3,c4]
 kernel_rfl
theorem Xt2:Rows.DeskAnswersSaid:=
 OpenClaim.holds_of_wide 3 Tryz.f3 rfl rfl rfl rfl rfl rfl rfl ⟨rfl,rfl,rfl,rfl,rfl⟩ rfl rfl rfl rfl rfl (by kernel_rfl) func3 Xp4
  (of_decide_eq_true (by kernel_rfl)) (by unfold Func.isWrapper;first|(rw[if_pos (by decide+kernel)];kernel_rfl)|(rw[if_neg (by decide+kernel)];exact⟨rfl,rfl⟩))
  (fun os started H enc _=>Xp3 os started H enc)
theorem plain (f : FuncId) (fn : Func) (hf : Tryz.pinned.checked.prog.funcNamed "openbell/openbelllaw.DeskAnswers" = some f) (hfn : Tryz.pinned.checked.prog.funcs[f]? = some fn) :
  true=Tryz.pinned.checked.prog.looks []/\∀(j:Nat)t,fn.params[j]?=some t->Tryz.pinned.checked.prog.wantsStandIn t=false:=by
 obtain rfl : f = 3 := Option.some.inj ((show Tryz.prog.funcNamed "openbell/openbelllaw.DeskAnswers" = some 3 by kernel_rfl).symm.trans hf) |>.symm
 obtain rfl:fn=Tryz.f3:=(Option.some.inj (func3.symm.trans hfn)).symm;refine⟨by kernel_rfl,fun j t ht=>?_⟩;rw[Tryz.params3]at ht;have hall:([9].all fun t=> !prog.wantsStandIn t)=true:=by kernel_rfl
 have hm:t∈[9]:=by simpa using Array.mem_of_getElem? ht
 have:=List.all_eq_true.1 hall t hm;have h2:prog.wantsStandIn t=false:=by simpa using this
 exact h2
theorem proved:Rows.DeskAnswersCardSaid:=
 Claim7.holds_tied_plain_at .later [] _ _ _ _ Xt2 (fun _ h=>by cases h) (by kernel_rfl) (fun _ h=>by cases h) deskAnswers_row_tie rfl ⟨rfl,rfl⟩ (by kernel_rfl) rfl plain (by kernel_rfl)
#print axioms proved
