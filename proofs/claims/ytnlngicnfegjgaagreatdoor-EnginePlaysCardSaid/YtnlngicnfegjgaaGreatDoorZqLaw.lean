/-
  The statement EnginePlays and its tied card: for every input the Go function returns true and leaves its arguments as they were. No condition beside the card's own.
-/
import Derived.Test.YtnlngicnfegjgaaGreatDoorZq47
set_option linter.unusedVariables false
set_option maxRecDepth 100000
set_option maxHeartbeats 8000000
open Go.Proofs.Tryz
namespace Go.Proofs.YtnlngicnfegjgaaGreatDoor.enginePlays
open Go.ChangeShapes Go.WideShapes Go.ChangeAt Go.RowKit Go.Deep
theorem own:ownKnob prog.godebug=none:=by kernel_rfl
theorem Pm:laidOutB prog=true:=by kernel_rfl
theorem Jl9 os (a4:os.Started) H (enc:TypeId×Value->H):
  ReturnsInHanded {} Tryz.checked os 4 .any (fun w i=>(Rows.enginePlaysSpec.pre enc prog Tryz.f4 [] false w i/\laidMetH prog Rows.enginePlaysRow.laid w)/\sizedMet enc prog Tryz.f4 (OpenSpec.ofChange Rows.enginePlaysSpec) false w i)
   (Rows.enginePlaysSpec.post enc prog Tryz.f4 false true false false):=by
 refine returnsInHanded_of_change_and (C:=Tryz.checked) (X:=fun w _=>laidMetH prog Rows.enginePlaysRow.laid w) (fun _ _ _ hh h=>h.of_heap hh) own a4 (by kernel_rfl) func4
  (ChangeSpec.witness_at (enc:=enc) (C:=Tryz.checked) (os:=os) (X:=fun w _=>laidMetH prog Rows.enginePlaysRow.laid w) false (Gj os) #[.agg #[.slice none 0 0,.int .i64 0,.int .i64 0,.int .i64 0,.int .i64 0,.int .i64 0],.slice none 0 0] 8 rfl (by kernel_rfl) (by kernel_rfl) (by kernel_rfl) (by kernel_rfl) (by kernel_rfl) (Tk os _)) ?_
 intro W base i ds gs c1 J Z _ _ hL _
 have D: ∀j t v,Tryz.f4.params[j]?=some t->i[j]?=some v->Value.okWide prog W .any base t v:=J
 have a5:=Z
 obtain⟨p,q,U,hV,rfl,b5,c7⟩:=Z
 have hA:DataW.TrodAll enc prog W 0 (fun _=>true) true Tryz.f4.params.toList i.toList ds p:=U
 rw[Tryz.params4]at hA D
 obtain⟨v0,b0,d0,c5,p0,q0,b8,rfl,rfl,E,a8⟩:=trodAll_cons hA
 obtain⟨v1,d2,d1,b2,p1,q1,rfl,rfl,rfl,h1,a2⟩:=trodAll_cons a8
 obtain⟨rfl,rfl,rfl⟩:=trodAll_nil a2
 obtain rfl:i= #[v0,v1]:=by cases i;simp_all
 obtain⟨rfl,rfl⟩:=trodVars_none hV
 obtain⟨c4,rfl,a7⟩:=okWide_struct underlying36 (D 0 36 v0 rfl rfl)
 have k0:=E
 have a6: ∀x∈p0,x.block<W.heap.size:=by obtain⟨m,y⟩:=k0;exact DataW.trod_lt m _ _ _ y
 obtain⟨A0,c2,b9,c8,a9,c0,b1,c6,c3,rfl,r0⟩:=Qa6 a7 E
 obtain⟨A1,a3,a1,rfl⟩:=okWide_slice underlying55 (D 1 55 v1 rfl rfl)
 have N:=h1
 have a0: ∀x∈p1,x.block<W.heap.size:=by obtain⟨m,y⟩:=N;exact DataW.trod_lt m _ _ _ y
 obtain⟨c9,r1⟩: ∃rows,GH W 6 A1 a3 a1 rows:=Zz (et:=66) underlying55 (by kernel_rfl) (by kernel_rfl) (by omega) h1
 clear U J
 have hE:=Sj hL
 refine(Sf r0 r1 hE).mono fun e W' ⟨he,u⟩=> ?_
 subst he
 exact⟨_,rfl,_,_,_,[],_,[],a5,trodAll_mk1 (shut_bool underlying4 _),(trodAll_cons_mk (Below.trod Pm (by kernel_rfl) (of_decide_eq_true (by kernel_rfl)) k0 u a6) (trodAll_cons_mk (Below.trod Pm (by kernel_rfl) (of_decide_eq_true (by kernel_rfl)) N u a0) trodAll_mk0)),rfl,u.frame _,fun h=>by cases h⟩
theorem Jn8:Rows.EnginePlaysSaid:=
 OpenClaim.holds_of_wide 4 Tryz.f4 rfl rfl rfl rfl rfl rfl rfl ⟨rfl,rfl,rfl,rfl,rfl⟩ rfl rfl rfl rfl rfl (by kernel_rfl) func4 (by kernel_rfl)
  (of_decide_eq_true (by kernel_rfl)) (by unfold Func.isWrapper;first|(rw[if_pos (by decide+kernel)];kernel_rfl)|(rw[if_neg (by decide+kernel)];exact⟨rfl,rfl⟩))
  (fun os i H enc _=>Jl9 os i H enc)
theorem Jn4 f i (y : Tryz.pinned.checked.prog.funcNamed "openbell/openbelllaw.EnginePlays" = some f) (u : Tryz.pinned.checked.prog.funcs[f]? = some i) :
  true=Tryz.pinned.checked.prog.looks []/\ ∀(j:Nat) t,i.params[j]?=some t->Tryz.pinned.checked.prog.wantsStandIn t=false:=by
 obtain rfl : f = 4 := Option.some.inj ((show Tryz.prog.funcNamed "openbell/openbelllaw.EnginePlays" = some 4 by kernel_rfl).symm.trans y) |>.symm
 obtain rfl:i=Tryz.f4:=(Option.some.inj (func4.symm.trans u)).symm
 refine⟨by kernel_rfl,fun j t ht=> ?_⟩
 rw[Tryz.params4]at ht
 have v:([36,55].all fun t=> !prog.wantsStandIn t)=true:=by kernel_rfl
 have C:t∈ [36,55]:=by simpa using Array.mem_of_getElem? ht
 have:=List.all_eq_true.1 v t C
 have h2:prog.wantsStandIn t=false:=by simpa using this
 exact h2
theorem proved:Rows.EnginePlaysCardSaid:=
 Claim7.holds_tied_plain_at .later [] _ _ _ _ Jn8 (fun _ h=>by cases h) (by kernel_rfl) (fun _ h=>by cases h) enginePlays_row_tie rfl ⟨rfl,rfl⟩ (by kernel_rfl) rfl Jn4 (by kernel_rfl)
#print axioms proved
