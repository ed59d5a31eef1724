/- Parts. -/
import Derived.Test.YtfoikonjjojkaaaGreatDoorZt1
set_option linter.unusedVariables false
set_option maxRecDepth 100000
set_option maxHeartbeats 8000000
open Go.Proofs.Tryz
open Go.Value renaming int→I,pointer→IP
open Go.IntKind renaming i64→O
namespace Go.Proofs.YtfoikonjjojkaaaGreatDoor
section
open Go
section
variable {P:Program} {ops:Array Oper} {Q:Exit->Act->World->Prop} {md:Region.Mode} {S U:World->Prop} {T:Nat->Bool}
def CH(P:Program)(md:Region.Mode)(ops:Array Oper)(Q:Exit->Act->World->Prop)(S U:World->Prop)(T:Nat->Bool):Nat->Array Bool->Act->World->Prop
 |0,listed,a,w=>Region.ready md ops listed=[]/\Q .normal a w
 |fuel+1,listed,a,w=>
  (Region.ready md ops listed=[]->Q .normal a w)/\
  ∀i∈Region.ready md ops listed,wpOp P ops Q i (fun a' w'=>((T i=false->S w->S w')/\(U w->U w'))/\CH P md ops Q S U T fuel (listed.setIfInBounds i true) a' w') a w
theorem Gw:∀(fuel:Nat)(listed:Array Bool)(a:Act)(w:World),CH P md ops Q S U T fuel listed a w->wpAny P md ops Q fuel listed a w
 |0,_,_,_,h=>h
 |fuel+1,_,_,_,h=>⟨h.1,fun i hi=>wpOp_mono (fun a' w' h'=>Gw fuel _ a' w' h'.2) (h.2 i hi)⟩
theorem Lb{R i oi v}(hi:ops[i]?=some oi)(a5:∀(j:Nat)o cs b,ops[j]?=some o->o.op≠.select cs b)(hQ:∀c a w,Q (.panic c) (a.put oi.dst v) w->Q (.panic c) a w):∀fuel u a w,(∀j oj,ops[j]?=some oj->j≠i->u.getD j true=false->(∀e∈oj.after,Region.binds md e=true->e.on≠i)->oi.apart ops oj=true)->i∈Region.ready md ops u->YieldsIf P ops R oi v a->(U w/\∀w,U w->R w)\/(S w/\(∀w,S w->R w)/\∀t,T t=true->Region.waitsFor md ops t i=true)->CH P md ops Q S U T fuel (u.setIfInBounds i true) (a.put oi.dst v) w->CH P md ops Q S U T (fuel+1) u a w:=by
 intro fuel
 induction fuel with
 |zero=>
  intro u a w _ D Z y H;have a0:R w:=y.elim (fun h=>h.2 w h.1) (fun h=>h.2.1 w h.1);refine⟨fun h=>(by rw[h]at D;cases D),fun j J=>?_⟩
  by_cases C:j=i
  ·subst C;exact Z.wpOp hi a0 ⟨⟨fun _ h=>h,fun h=>h⟩,H⟩
  have:=RE J C;rw[H.1]at this
  cases this
 |succ fuel ih=>
  intro u a w a1 D Z y H;have a0:R w:=y.elim (fun h=>h.2 w h.1) (fun h=>h.2.1 w h.1);refine⟨fun h=>(by rw[h]at D;cases D),fun j J=>?_⟩
  by_cases C:j=i
  ·subst C;exact Z.wpOp hi a0 ⟨⟨fun _ h=>h,fun h=>h⟩,H⟩
  have h1:=H.2 j (RE J C);obtain⟨a3,oj,N,a7⟩:=RH.1 J;have a4:∀e∈oj.after,Region.binds md e=true->e.on≠i:=fun e he hb a8=>by
   have h1:=a7 e he hb;have h0:=(RH.1 D).1;rw[a8]at h1;obtain h'|h':=FT i u.size
   ·simp[h']at h0 h1;rw[h0]at h1;cases h1
   simp[Array.getElem?_eq_none h']at h1
  have b1:∀w',((T j=false->S w->S w')/\(U w->U w'))->(U w'/\∀w,U w->R w)\/(S w'/\(∀w,S w->R w)/\∀t,T t=true->Region.waitsFor md ops t i=true):=fun w' hk=>by
   rcases y with⟨y,hR⟩|⟨y,hR,hw⟩
   ·exact .inl ⟨hk.2 y,hR⟩
   refine .inr ⟨hk.1 ?_ y,hR,hw⟩
   cases hT:T j with
   |false=>rfl
   |true=>
    exfalso
    obtain⟨o',b5,e,he,hb,b8⟩:=Region.waitsFor_spec (hw j hT);have:o'=oj:=XG (b5.symm.trans N);subst this;exact a4 e he hb b8
  have h2:=wpOp_putIf N (a1 j oj N C a3 a4) (fun cs b=>a5 i oi cs b hi) (fun cs b=>a5 j oj cs b N) hQ Z h1;have a9:∀k ok,ops[k]?=some ok->k≠i->(u.setIfInBounds j true).getD k true=false->(∀e∈ok.after,Region.binds md e=true->e.on≠i)->oi.apart ops ok=true:=fun k ok hk b0 a6 b2=>by
   refine a1 k ok hk b0 ?_ b2
   by_cases a2:j=k
   ·subst a2;exact a3
   rw[getD_set_ne true a2]at a6;exact a6
  refine wpOp_mono (fun a' w' E=>⟨E.2.1,ih (u.setIfInBounds j true) a' w' a9 (RE D (Ne.symm C)) E.1 (b1 w' E.2.1) ?_⟩) h2;rw[Array.setIfInBounds_comm _ _ C];exact E.2.2
theorem YW{listed:Array Bool}{a:Act}{w:World}(h:Q .normal a w)(hr:Region.ready md ops listed=[]:=by kernel_rfl):
  ∀fuel,CH P md ops Q S U T fuel listed a w
 |0=>⟨hr,h⟩
 |_+1=>⟨fun _=>h,by rw[hr];simp⟩
theorem AE{id:Nat}{a:Act}{w:World}(T:List Nat)(S U:World->Prop)(i:S w.drew)(j:U w.drew)(h:S w.drew->U w.drew->CH P .any ops Q S U (fun t=>T.contains t) ops.size (Array.replicate ops.size false) a w.drew) (u:P.follows .mixedOrders=true:=by kernel_rfl):(Code.region id ops true).wp P Q a w:=
 wp_region_any u (Gw _ _ _ _ (h i j))
theorem TG{l u:List Oper}{i oi}(j:l.drop i=oi::u):l.toArray[i]?=some oi:=by
 have h:(l.drop i)[0]?=some oi:=by rw[j];rfl
 rw[Xg]at h;simpa using h
theorem tN{l rest:List Oper}(i:Nat){v:Value}{d:Nat}{oi:Oper}{ts:List Nat}{fuel:Nat}{j listed':Array Bool}{a a':Act}{w:World}(h:CH P md l.toArray Q S U (fun t=>ts.contains t) fuel listed' a' w)(u:l.drop i=oi::rest:=by rfl) (D:oi.dst=some d:=by rfl) (hw:(ts.all fun t=>Region.waitsFor md l.toArray t i)=true:=by kernel_rfl)
  (Z:Region.noSelect l.toArray=true:=by kernel_rfl) (E:Region.free md l.toArray j i=true:=by kernel_rfl) (N:(Region.ready md l.toArray j).contains i=true:=by kernel_rfl)
  (y:∀c a w,Q (.panic c) (a.put oi.dst v) w->Q (.panic c) a w:=by exact fun _ _ _ h=>h) (a0:Region.wanted oi (yielded l.toArray a.tmps)=true:=by rfl)
  (hy:∀w,S w->(execOp a.eval oi).run P w=.ok (.value v) w:=by intro W a1;go_simp<;>rfl) (C:S w:=by first|trivial|assumption)
  (hp:a.put (some d) v=a':=by first|(simp only[Act.put,List.setIfInBounds_toArray,List.set_cons_zero,List.set_cons_succ];rfl)|rfl)
  (J:j.setIfInBounds i true=listed':=by first|(simp only[List.setIfInBounds_toArray,List.set_cons_zero,List.set_cons_succ];rfl)|rfl):CH P md l.toArray Q S U (fun t=>ts.contains t) (fuel+1) j a w:=
 Lb (R:=S) (TG u) (Ao Z) y fuel j a w (Region.free_spec (TG u) E) (by simpa using N) (.inl ⟨a0,hy⟩) (.inr ⟨C,fun _ h=>h,fun t ht=>RY.1 hw t (by simpa using ht)⟩) (by rw[D,hp,J];exact h)
theorem tP{l rest:List Oper}(i:Nat){v:Value}{d:Nat}{oi:Oper}{fuel:Nat}{j listed':Array Bool}{a a':Act}{w:World}(h:CH P md l.toArray Q S U T fuel listed' a' w)(u:l.drop i=oi::rest:=by rfl) (D:oi.dst=some d:=by rfl)
  (Z:Region.noSelect l.toArray=true:=by kernel_rfl) (E:Region.free md l.toArray j i=true:=by kernel_rfl) (N:(Region.ready md l.toArray j).contains i=true:=by kernel_rfl)
  (y:∀c a w,Q (.panic c) (a.put oi.dst v) w->Q (.panic c) a w:=by exact fun _ _ _ h=>h) (a0:Region.wanted oi (yielded l.toArray a.tmps)=true:=by rfl)
  (hy:∀w,U w->(execOp a.eval oi).run P w=.ok (.value v) w:=by intro W a1;go_simp<;>rfl) (C:U w:=by first|trivial|assumption)
  (hp:a.put (some d) v=a':=by first|(simp only[Act.put,List.setIfInBounds_toArray,List.set_cons_zero,List.set_cons_succ];rfl)|rfl)
  (J:j.setIfInBounds i true=listed':=by first|(simp only[List.setIfInBounds_toArray,List.set_cons_zero,List.set_cons_succ];rfl)|rfl):CH P md l.toArray Q S U T (fuel+1) j a w:=
 Lb (R:=U) (TG u) (Ao Z) y fuel j a w (Region.free_spec (TG u) E) (by simpa using N) (.inl ⟨a0,hy⟩) (.inl ⟨C,fun _ h=>h⟩) (by rw[D,hp,J];exact h)
theorem oN{l rest:List Oper}(i:Nat){o:Oper}{fuel:Nat}{j listed':Array Bool}{a:Act}{w:World}(h:∀K':Act->World->Prop,(∀a w',(T i=false->S w')->U w'->CH P md l.toArray Q S U T fuel listed' a w'->K' a w')->if Region.wanted o (yielded l.toArray a.tmps)=true then Oper.wp P o a w K' Q else K' (a.put o.dst undef) w)(N:l.drop i=o::rest:=by rfl) (u:Region.ready md l.toArray j=[i]:=by kernel_rfl)
  (J:j.setIfInBounds i true=listed':=by first|(simp only[List.setIfInBounds_toArray,List.set_cons_zero,List.set_cons_succ];rfl)|rfl):CH P md l.toArray Q S U T (fuel+1) j a w:=
 ⟨fun y=>absurd (u▸y) Q3,u▸fun k hk=>by rw[UN]at hk;subst hk;exact wpOp_step (TG N) fun K' C=>h K' (fun a w' D E Z=>C a w' ⟨⟨fun e _=>D e,fun _=>E⟩,by rw[J];exact Z⟩)⟩
theorem oN2{l rest rest':List Oper}(i j:Nat){o o':Oper}{fuel:Nat}{u l1 l2:Array Bool}{a:Act}{w:World}(h:∀K':Act->World->Prop,(∀a w',(T i=false->S w')->U w'->CH P md l.toArray Q S U T fuel l1 a w'->K' a w')->if Region.wanted o (yielded l.toArray a.tmps)=true then Oper.wp P o a w K' Q else K' (a.put o.dst undef) w)(N:∀K':Act->World->Prop,(∀a w',(T j=false->S w')->U w'->CH P md l.toArray Q S U T fuel l2 a w'->K' a w')->if Region.wanted o' (yielded l.toArray a.tmps)=true then Oper.wp P o' a w K' Q else K' (a.put o'.dst undef) w)(ho:l.drop i=o::rest:=by rfl) (a0:l.drop j=o'::rest':=by rfl) (J:Region.ready md l.toArray u=[i,j]:=by kernel_rfl)
  (h1:u.setIfInBounds i true=l1:=by first|(simp only[List.setIfInBounds_toArray,List.set_cons_zero,List.set_cons_succ];rfl)|rfl) (h2:u.setIfInBounds j true=l2:=by first|(simp only[List.setIfInBounds_toArray,List.set_cons_zero,List.set_cons_succ];rfl)|rfl):CH P md l.toArray Q S U T (fuel+1) u a w:=
 ⟨fun Z=>absurd (J▸Z) Q3,J▸fun k hk=>by
  simp only[List.mem_cons,List.not_mem_nil,or_false]at hk;obtain rfl|rfl:=hk
  ·exact wpOp_step (TG ho) fun K' y=>h K' (fun a w' C D E=>y a w' ⟨⟨fun e _=>C e,fun _=>D⟩,by rw[h1];exact E⟩)
  exact wpOp_step (TG a0) fun K' y=>N K' (fun a w' C D E=>y a w' ⟨⟨fun e _=>C e,fun _=>D⟩,by rw[h2];exact E⟩)⟩
end
end
section
open Go.RowKit
def XE(o:X6):Bool:=(decide (1<=o.qty) &&decide (o.qty<=1000000)) && (o.side ==1 ||o.side ==2)
def KP(p:Int)(o:X6):Int:=if o.side=1/\(o.kind=2\/p<=o.price)then o.qty else 0
def KR(p:Int)(o:X6):Int:=if o.side=2/\(o.kind=2\/o.price<=p)then o.qty else 0
def XT(p:Int)(l:List X6):Int:=l.foldl (fun s o=>s+KP p o) 0
def XW(p:Int)(l:List X6):Int:=l.foldl (fun s o=>s+KR p o) 0
theorem Jk9 p l o:XT p (l++[o])=XT p l+KP p o:=by unfold XT;rw[FS];rfl
theorem Jl0 p l o:XW p (l++[o])=XW p l+KR p o:=by unfold XW;rw[FS];rfl
def T6(l:List X6):List X6:=l.filter XE
def R8(l:List X6)(more:Int):List Int:=(if 1<=more then [more]else [])++((T6 l).filter (fun o=> !(o.kind ==2))).map (·.price)
theorem Nk l o:T6 (l++[o])=T6 l++(if XE o=true then [o]else []):=by
 unfold T6;rw[JE]
 cases h:XE o<;>simp[h]
theorem Qp7 l o more:R8 (l++[o]) more=R8 l more++(if XE o=true/\o.kind≠2 then [o.price]else []):=by
 unfold R8;rw[Nk,JE,L6,VW]
 congr 2
 by_cases h1:XE o=true
 ·by_cases h2:o.kind=2<;>simp[h1,h2]
 simp[h1]
def EY(s:List Int×Option Int)(p:Int):List Int×Option Int:=if s.2=some p then s else(s.1++[p],some p)
def Zx(l:List Int):List Int×Option Int:=l.foldl EY ([],none)
def dd(l:List Int):List Int:=(Zx l).1
theorem Wa l p:Zx (l++[p])=EY (Zx l) p:=by unfold Zx;rw[FS];rfl
theorem Jx0 l:(Zx l).2=l.getLast?:=by
 obtain rfl|⟨l',p,rfl⟩:=Ak l
 ·rfl
 rw[Am,Wa,List.getLast?_append];unfold EY
 split
 ·rename_i h;rw[h];rfl
 rfl
theorem Xg7 l p:dd (l++[p])=if l.getLast?=some p then dd l else dd l++[p]:=by
 unfold dd;rw[Wa,<-Jx0];unfold EY
 split<;>rfl
theorem Qd6(l:List Int):∀j o,j.Pairwise (· < ·)->(∀x∈j,∀y∈l,x<=y)->(∀y,o=some y->y∈j/\∀x∈j,x<=y)->(o=none->j=[])->l.Pairwise (· <= ·)->(l.foldl EY (j,o)).1.Pairwise (· < ·)/\∀x,x∈(l.foldl EY (j,o)).1↔x∈j\/x∈l:=by
 induction l with
 |nil=>intro j o h1 h2 D Z C;exact⟨h1,fun x=>Q3⟩
 |cons a l ih=>
  intro j o h1 h2 D Z C;rw[JF];rw[RV]at C
  by_cases E:o=some a
  ·have e:EY (j,o) a=(j,o):=by unfold EY;rw[X0 E]
   rw[e];obtain⟨J,N⟩:=ih j o h1 (fun x i y u=>h2 x i y (by simp[u])) D Z C.2;refine⟨J,fun x=>?_⟩;rw[N];have:=(D a E).1;constructor
   ·rintro(h|h)
    ·exact .inl h
    exact .inr (by simp[h])
   rintro(h|h)
   ·exact .inl h
   obtain rfl|h:=H8.1 h
   ·exact .inl this
   exact .inr h
  have e:EY (j,o) a=(j++[a],some a):=by unfold EY;rw[J8 E]
  rw[e];have a0:∀x∈j,x<a:=by
   intro x i
   cases o with
   |none=>rw[Z rfl]at i;cases i
   |some y=>
    obtain⟨k1,k2⟩:=D y rfl;have h6:=h2 y k1 a Q3;have h7:=k2 x i;have h8:y≠a:=fun e=>E (by rw[e])
    omega
  obtain⟨J,N⟩:=ih (j++[a]) (some a) (DZ.2 ⟨h1,WC _ _,fun x i y u=>by simp at u;subst u;exact a0 x i⟩)
   (fun x i y u=>by
    obtain i|i:=B8.1 i
    ·exact h2 x i y (by simp[u])
    simp at i;subst i;exact C.1 y u)
   (fun y u=>by
    cases u;exact⟨Q3,fun x i=>by
     obtain i|i:=B8.1 i
     ·exact TX (a0 x i)
     simp at i;omega⟩)
   (fun h=>by cases h) C.2
  refine⟨J,fun x=>?_⟩;rw[N];simp[or_assoc]
theorem Jl1(L ss:List Int)(E:ss.Nodup)(C:∀x,x∈ss↔x∈L):dd (L.mergeSort fun x y=>decide (x<=y))=ss.mergeSort fun x y=>decide (x<=y):=by
 have tr:∀a b c:Int,(decide (a<=b))=true->(decide (b<=c))=true->(decide (a<=c))=true:=fun a b c h1 h2=>by simp at*;omega
 have j:∀a b:Int,(decide (a<=b) ||decide (b<=a))=true:=fun a b=>Q7
 have N:=Jy tr j L;have Z:(L.mergeSort fun x y=>decide (x<=y)).Pairwise (· <= ·):=N.imp (fun h=>by simpa using h);obtain⟨i,u⟩:=Qd6 (L.mergeSort fun x y=>decide (x<=y)) [] none List.Pairwise.nil (fun x hx=>by cases hx) (fun y h=>by cases h) (fun _=>rfl) Z;have D:∀x,x∈dd (L.mergeSort fun x y=>decide (x<=y))↔x∈L:=fun x=>by show x∈(List.foldl EY ([],none) _).1↔_;rw[u];simp[List.mem_mergeSort]
 have J:(dd (L.mergeSort fun x y=>decide (x<=y))).Nodup:=i.imp (fun h=>Q0);refine Aj (le:=fun a b=>a<=b) (fun a b _ _ h1 h2=>Q0) (i.imp (fun h=>Q0)) ((Jy tr j ss).imp (fun h=>by simpa using h)) ?_;refine List.Perm.trans ?_ (Aq ss _).symm;exact(List.perm_ext_iff_of_nodup J E).2 fun x=>(D x).trans (C x).symm
def DD(g:List X6)(p:Int):Z7:=(p,XT p g,XW p g)
def QJ(l:List X6)(more:Int):List Z7:=(dd ((R8 l more).mergeSort fun x y=>decide (x<=y))).map (DD (T6 l))
theorem Nl(F:X6->Int)(l:List X6)(i:∀o∈l,0<=F o/\F o<=1000000):∀s,0<=s->0<=l.foldl (fun s o=>s+F o) s/\l.foldl (fun s o=>s+F o) s<=s+1000000*l.length:=by
 induction l with
 |nil=>intro s u;simp;omega
 |cons a l y=>
  intro s u;have h1:=i a Q3;have h2:=y (fun o j=>i o (by simp[j])) (s+F a) Q0;rw[JF,JA];refine⟨h2.1,NH h2.2 ?_⟩
  push_cast
  omega
theorem WQ{o}(h:XE o=true):1<=o.qty/\o.qty<=1000000:=by unfold XE at h;simp at h;exact h.1
theorem Ja5{p o}(h:XE o=true):0<=KP p o/\KP p o<=1000000:=by
 have:=WQ h;unfold KP
 split<;>omega
theorem Ja6{p o}(h:XE o=true):0<=KR p o/\KR p o<=1000000:=by
 have:=WQ h;unfold KR
 split<;>omega
theorem Nn{p l}(h:∀o∈l,XE o=true):0<=XT p l/\XT p l<=1000000*l.length:=by have:=Nl (KP p) l (fun o i=>Ja5 (h o i)) 0 (T3 _);unfold XT;omega
theorem No{p l}(h:∀o∈l,XE o=true):0<=XW p l/\XW p l<=1000000*l.length:=by have:=Nl (KR p) l (fun o i=>Ja6 (h o i)) 0 (T3 _);unfold XW;omega
theorem Uv{l}:∀o∈T6 l,XE o=true:=fun o i=>(S4.1 i).2
theorem Xm2(l:List Int):∀s,(l.foldl EY s).1.length<=s.1.length+l.length:=by
 induction l with
 |nil=>intro s;simp
 |cons a l i=>
  intro s;rw[JF];refine U4 (i _) ?_;unfold EY
  split<;>simp<;>omega
theorem Np l more:(QJ l more).length<=l.length+1:=by
 unfold QJ;rw[UJ];have h1:=Xm2 ((R8 l more).mergeSort fun x y=>decide (x<=y)) ([],none);rw[List.length_mergeSort]at h1;have h2:(R8 l more).length<=l.length+1:=by
  unfold R8;rw[B6,UJ];have i:=NF (fun o:X6=> !(o.kind ==2)) (T6 l);have j:(T6 l).length<=l.length:=NF XE l;have u:(if 1<=more then [more]else []).length<=1:=by split<;>simp
  omega
 simp only[List.length_nil,Nat.zero_add]at h1;exact U4 h1 h2
theorem Fl(L:List Int)x:x∈dd (L.mergeSort fun x y=>decide (x<=y))↔x∈L:=by
 have tr:∀a b c:Int,(decide (a<=b))=true->(decide (b<=c))=true->(decide (a<=c))=true:=fun a b c h1 h2=>by simp at*;omega
 have C:∀a b:Int,(decide (a<=b) ||decide (b<=a))=true:=fun a b=>Q7
 have j:(L.mergeSort fun x y=>decide (x<=y)).Pairwise (· <= ·):=(Jy tr C L).imp (fun h=>by simpa using h);obtain⟨_,i⟩:=Qd6 (L.mergeSort fun x y=>decide (x<=y)) [] none List.Pairwise.nil (fun x u=>by cases u) (fun y h=>by cases h) (fun _=>rfl) j;show x∈(List.foldl EY ([],none) _).1↔_;rw[i];simp[List.mem_mergeSort]
def MS(l:List X6):Prop:=∀o∈l,XE o=true
theorem Ki{l}(h:MS l):T6 l=l:=VT.2 h
theorem Nq{l more}(h:MS l){o}(i:o∈l)(hk:¬o.kind=2):o.price∈R8 l more:=by unfold R8;rw[Ki h];refine B8.2 (.inr (Y4.2 ⟨o,S4.2 ⟨i,by simp[hk]⟩,rfl⟩))
def Y7(p:Z7):Int:=min p.2.1 p.2.2
def CL(p:Z7):Int:=max (p.2.1-p.2.2) (p.2.2-p.2.1)
def AY(p:Z7):Prop:=(-1099511627776<=p.1/\p.1<=1099511627776)/\(-1099511627776<=p.2.1/\p.2.1<=1099511627776)/\(-1099511627776<=p.2.2/\p.2.2<=1099511627776)
def CS(w:World)(S:Nat->Prop)(g:FuncId)(lb:Array Value)(F:Z7->Int):Prop:=
 ∀W p,X4 S w W->AY p->Calls prog g (#[QW p]++lb) W fun e w'=>e=.returned (I O (F p))/\Bz W w'
def Ky(w:World)(S:Nat->Prop)(g:FuncId)(lb:Array Value)(F:Z7->Bool):Prop:=
 ∀W p,X4 S w W->AY p->Calls prog g (#[QW p]++lb) W fun e w'=>e=.returned (.bool (F p))/\Bz W w'
section
variable {w:World} {S:Nat->Prop}
theorem CS.later{w1 g lb F S'}(h:CS w S g lb F)(hk:X4 S' w w1)(j:∀i,S' i->S i):CS w1 S g lb F:=
 fun W p u hp=>h W p ((hk.mono j).trans u (fun _ h=>.inl h)) hp
end
theorem By p w:Calls prog 238 #[QW p] w fun e w'=>e=.returned (I O (Y7 p))/\Bz w w':=by
 obtain⟨a,b,c⟩:=p;unfold QW Y7;dsimp only;go_enter func238,ntmps238
 go_wp2
 all_goals
  go_ret;exact⟨JK Q0,Q5.alloc Q2 _⟩
theorem Jx1 p(hp:AY p)w:Calls prog 239 #[QW p] w fun e w'=>e=.returned (I O (CL p))/\Bz w w':=by
 obtain⟨a,b,c⟩:=p;obtain⟨⟨_,_⟩,⟨_,_⟩,⟨_,_⟩⟩:=hp;unfold QW CL;dsimp only at*;go_enter func239,ntmps239
 go_wp2
 all_goals
  go_ret;exact⟨JK Q0,Q5.alloc Q2 _⟩
theorem Jl2 w S:CS w S 238 #[] Y7:=fun W p _ _=>By p W
theorem Jx2 w S:CS w S 248 #[] (fun p=>p.1):=by
 rintro W⟨a,b,c⟩_ _;show Calls prog 248 #[.agg #[I O a,I O b,I O c]] W _;go_enter func248,ntmps248
 go_wp2;go_ret;exact⟨rfl,Q5.alloc Q2 _⟩
theorem Jx3 w S:CS w S 249 #[] (fun p=> -p.1):=by
 rintro W⟨a,b,c⟩_⟨⟨_,_⟩,⟨_,_⟩,⟨_,_⟩⟩;show Calls prog 249 #[.agg #[I O a,I O b,I O c]] W _;dsimp only at*;go_enter func249,ntmps249
 go_wp2;go_ret;exact⟨rfl,Q5.alloc Q2 _⟩
theorem Jl3 w S:CS w S 251 #[] (fun p=> -p.1):=by
 rintro W⟨a,b,c⟩_⟨⟨_,_⟩,⟨_,_⟩,⟨_,_⟩⟩;show Calls prog 251 #[.agg #[I O a,I O b,I O c]] W _;dsimp only at*;go_enter func251,ntmps251
 go_wp2;go_ret;exact⟨rfl,Q5.alloc Q2 _⟩
theorem Xm3 w S i r(D: -1099511627776<=r/\r<=1099511627776)(C:J7 w i 3 #[I O r])(u:¬S i):CS w S 250 #[pA i] (fun p=> -max (p.1-r) (r-p.1)):=by
 rintro W⟨a,b,c⟩y⟨⟨_,_⟩,⟨_,_⟩,⟨_,_⟩⟩;obtain⟨_,_⟩:=D;have j:=V0 C y u;have E:=Z9 j;have J:(W.alloc (.cells #[I O a,I O b,I O c] 323)).cell? (aD i 0)=some (I O r):=by rw[X9 (G0 j _)];rfl
 show Calls prog 250 #[.agg #[I O a,I O b,I O c],pA i] W _;dsimp only at*;go_enter func250,ntmps250
 go_wp2
 all_goals
  go_ret;exact⟨JK Q0,Q5.alloc Q2 _⟩
theorem Xg8 w S i(Z:J7 w i 324 #[.func (.func 239) #[] #[]])(J:¬S i):CS w S 244 #[pA i] (fun p=> -CL p):=by
 rintro W⟨a,b,c⟩N hp;have u:=V0 Z N J;have a0:=Z9 u;have D: -2199023255552<=CL (a,b,c)/\CL (a,b,c)<=2199023255552:=by obtain⟨⟨_,_⟩,⟨_,_⟩,⟨_,_⟩⟩:=hp;unfold CL;dsimp only at*;omega
 obtain⟨_,_⟩:=D;have z0:(W.alloc (.cells #[I O a,I O b,I O c] 323)).cell? (aD i 0)=some (.func (.func 239) #[] #[]):=by rw[X9 (G0 u _)];rfl
 have j:=Jx1 (a,b,c) hp;obtain⟨L,E⟩:∃L,Hid (CL (a,b,c)=L):=⟨_,rfl⟩;rw[E.out]at j;rename_i q1 q2;rw[E.out]at q1 q2;have y:=J6 j;clear j;show Calls prog 244 #[.agg #[I O a,I O b,I O c],pA i] W _;go_enter func244,ntmps244
 go_wp2_with fail
 refine(y _).mono ?_;rintro e w1⟨rfl,C⟩;go_wp2;go_ret;exact⟨JK (by rw[E.out]),(Q5.alloc Q2 _).trans (C.mono Q3)⟩
theorem DE{w w'}(i:Bz w w'){p v}(h:w.cell? p=some v):w'.cell? p=some v:=(i.cell (U5 w p h)).trans h
theorem Jl4{w0 W w w' S p1 p2 p3 p4 p5 v1 v2 v3 v4 v5}(i:Bz w w')(h:(X4 S w0 w/\Bz W w)/\w.cell? p1=some v1/\w.cell? p2=some v2/\w.cell? p3=some v3/\w.cell? p4=some v4/\w.cell? p5=some v5):(X4 S w0 w'/\Bz W w')/\w'.cell? p1=some v1/\w'.cell? p2=some v2/\w'.cell? p3=some v3/\w'.cell? p4=some v4/\w'.cell? p5=some v5:=
 ⟨⟨h.1.1.then_ i,h.1.2.trans (i.mono h.1.2.size)⟩,DE i h.2.1,DE i h.2.2.1,DE i h.2.2.2.1,DE i h.2.2.2.2.1,DE i h.2.2.2.2.2⟩
theorem Xg9 w S i j g lb F most(eg:∀args w,(callFunc g args).run prog w=.ok (.enter g args) w)(N:CS w S g lb F)(Z:J7 w i 324 #[.func (.func g) #[] lb]) (D:J7 w j 3 #[I O most]) (a1:¬S i) (a2:¬S j):Ky w S 243 #[pA i,pA j] (fun p=>F p != most):=by
 rintro W⟨a,b,c⟩u hp;have E:=V0 Z u a1;have J:=V0 D u a2;have C:Bz W (W.alloc (.cells #[I O a,I O b,I O c] 323)):=Q5.alloc Q2 _;have hK:=u.then_ C.drew;have hB:=C.drew;have y:=Z5 W 323 #[I O a,I O b,I O c];have z0:(W.alloc (.cells #[I O a,I O b,I O c] 323)).drew.cell? (aD i 0)=some (.func (.func g) #[] lb):=by rw[X9 (Y6 (G0 E _))];rfl
 have z1:(W.alloc (.cells #[I O a,I O b,I O c] 323)).drew.cell? (aD j 0)=some (I O most):=by rw[X9 (Y6 (G0 J _))];rfl
 have y0:(W.alloc (.cells #[I O a,I O b,I O c] 323)).drew.cell? (aD (zS W) 0)=some (I O a):=by rw[X9 (Y6 y)];rfl
 have y1:(W.alloc (.cells #[I O a,I O b,I O c] 323)).drew.cell? (aD (zS W) 1)=some (I O b):=by rw[X9 (Y6 y)];rfl
 have y2:(W.alloc (.cells #[I O a,I O b,I O c] 323)).drew.cell? (aD (zS W) 2)=some (I O c):=by rw[X9 (Y6 y)];rfl
 obtain⟨HF,Hm⟩:=Xt6 N D;clear N Z D E J y C u;show Calls prog 243 #[.agg #[I O a,I O b,I O c],pA i,pA j] W _;go_enter func243,ntmps243
 go_wp2_with fail
 go_region_held3 (fun w'=>(X4 S w w'/\Bz W w')/\w'.cell? ⟨i,0,none⟩=some (.func (.func g) #[] lb)/\w'.cell? ⟨j,0,none⟩=some (I O most)/\w'.cell? ⟨W.heap.size,0,none⟩=some (I O a)/\w'.cell? ⟨W.heap.size,1,none⟩=some (I O b)/\w'.cell? ⟨W.heap.size,2,none⟩=some (I O c))
  (first|exact⟨⟨hK,hB⟩,z0,z1,y0,y1,y2⟩|assumption|exact Jl4 a0 J1)
  ((go_at_fn g;refine(HF _ (a,b,c) (And.left (And.left J1)) hp).mono ?_;rintro e w1⟨rfl,a0⟩))
 go_wp2;go_ret;exact⟨rfl,And.right (And.left J1)⟩
theorem Xh0 w S sb i(D:i=1\/i= -1)(y:J7 w sb 3 #[I O i])(C:¬S sb):Ky w S 247 #[pA sb] (fun p=>decide ((p.2.1-p.2.2)*i<=0)):=by
 rintro W⟨a,b,c⟩u⟨⟨_,_⟩,⟨_,_⟩,⟨_,_⟩⟩;have j:=V0 y u C;have E:=Z9 j;have J:(W.alloc (.cells #[I O a,I O b,I O c] 323)).cell? (aD sb 0)=some (I O i):=by rw[X9 (G0 j _)];rfl
 show Calls prog 247 #[.agg #[I O a,I O b,I O c],pA sb] W _;dsimp only at*;clear y j u;obtain rfl|rfl:=D
 ·go_enter func247,ntmps247
  go_wp2;go_ret;exact⟨JH Q3,Q5.alloc Q2 _⟩
 go_enter func247,ntmps247
 go_wp2;go_ret;exact⟨JH Q3,Q5.alloc Q2 _⟩
theorem Nr g lb F(eg:∀args w,(callFunc g args).run prog w=.ok (.enter g args) w)A n c ps w S(hp:Ky w S g lb F) (h:C0 w Y8 3 A n ps) (hN:∀p∈ps,AY p) (hm:n<=1000000):Calls prog 272 #[.slice A n c,.func (.func g) #[] lb] w fun e w'=>Bz w w'/\(((∀i(u:i<ps.length),F ps[i]=false)/\e=.returned (I O (-1)))\/∃(k:Nat)(hk:k<ps.length),F ps[k]=true/\(∀i(u:i<ps.length),i<k->F ps[i]=false)/\e=.returned (I O k)):=by
 have hl:=h.1;obtain⟨HP,HL,HH⟩:=Xt7 hp hl h;clear hp hl h;go_enter func272,ntmps272
 go_wp2
 go_loopg [5,8] n (fun gg _ s8 wr=>∃j,j<=n/\gg=n-j/\s8=I O j/\Bz w wr/\Hid (∀i(u:i<ps.length),i<j->F ps[i]=false))
 case atStart=>exact⟨0,U9 _,rfl,rfl,J9 _ w,J6 fun i _ u=>absurd u (Nat.not_lt_zero _)⟩
 obtain⟨j,a3,rfl,rfl,y,J⟩:=hrel
 by_cases a4:j<n
 ·obtain⟨b,a5,rfl,_,_⟩:=HH.2 Q0
  have a0:j<ps.length:=by have:=HL.out;omega
  obtain⟨x0,x1,x2⟩:=Yn (HH.below y Q2) a0;have C:=HP.out wr ps[j] (B9 y _) (hN _ (C7 _));have a1:(j:Int)<(n:Int):=Q0;obtain⟨p,E⟩:∃p,Hid (ps[j]=p):=⟨_,J6 rfl⟩;rw[E.out]at x0 x1 x2 C;obtain⟨p0,p1,p2⟩:=p;unfold QW at C;dsimp only at x0 x1 x2 C
  cases D:F (p0,p1,p2)with
  |true=>
   rw[D]at C;have N:=J6 D;clear D;go_wp2_with (go_at_fn g;refine C.mono ?_;rintro e w'⟨rfl,Z⟩)
   go_ret;exact⟨y.trans (Z.mono y.size),.inr ⟨j,a0,by rw[E.out];exact N,J,rfl⟩⟩
  |false=>
   rw[D]at C;have N:=J6 D;clear D;go_wp2_with (go_at_fn g;refine C.mono ?_;rintro e w'⟨rfl,Z⟩)
   go_roundg (n-(j+1))
   case measure=>omega
   refine⟨j+1,Q0,rfl,J5,y.trans (Z.mono y.size),J6 fun i u a2=>?_⟩
   by_cases e:i=j
   ·subst e
    rw[E.out];exact N
   exact J i u Q0
 have a1:¬(j:Int)<(n:Int):=by omega
 obtain rfl:j=n:=Q0;go_wp2;go_ret;exact⟨y,.inl ⟨fun i u=>J i u (by have:=HL.out;omega),rfl⟩⟩
theorem Qn6 g lb F(eg:∀args w,(callFunc g args).run prog w=.ok (.enter g args) w)A n c ps w S(hp:Ky w S g lb F) (h:C0 w Y8 3 A n ps) (y:∀p∈ps,AY p) (hm:n<=1000000):Calls prog 246 #[.slice A n c,.func (.func g) #[] lb] w fun e w'=>Bz w w'/\e=.returned (.bool (ps.any F)):=by
 obtain⟨N,E,J⟩:=Xt7 hp h y;clear hp h y;go_enter func246,ntmps246
 go_wp2_with fail
 refine(Nr g lb F eg A n c ps w S N E J hm).mono ?_;rintro e w'⟨u,⟨C,rfl⟩|⟨k,hk,D,_,rfl⟩⟩
 ·have j:Hid (ps.any F=false):=J6 (by
   rw[Vg];intro p hp;obtain⟨i,Z,rfl⟩:=ZX.1 hp;rw[C i Z];simp)
  clear C;go_wp2;go_ret;exact⟨u,JH (by rw[j.out])⟩
 have j:Hid (ps.any F=true):=J6 (by rw[Vj];exact⟨_,C7 hk,D⟩);clear D;go_wp2;go_ret;exact⟨u,JH (by rw[j.out])⟩
structure RT(F:Z7->Bool)(ps cs:List Z7)(i j:Nat):Prop where
 len:cs.length=ps.length
 lt:i<j
 jn:j<=ps.length
 done:cs.take i=(ps.take j).filter (fun p=> !F p)
 rest:∀m(h:m<ps.length)(h':m<cs.length),j<=m->cs[m]=ps[m]
theorem RT.skip{F ps cs i j}(h:RT F ps cs i j)(u:j<ps.length)(y:F ps[j]=true):RT F ps cs i (j+1):=
 ⟨h.len,by have:=h.lt;omega,u,by rw[M9 u,JE,h.done];simp[y],fun m C D E=>h.rest m C D Q0⟩
theorem RT.keep{F ps cs i j}(h:RT F ps cs i j)(u:j<ps.length)(y:F ps[j]=false):RT F ps (cs.set i ps[j]) (i+1) (j+1):=by
 have N:=h.lt;have J:=h.len;refine⟨by rw[XH];exact h.len,Q0,u,?_,fun m C D E=>?_⟩
 ·rw[M9 u,JE,<-h.done,M9 (by rw[XH];omega),SL,Xb Q2]
  simp[y]
 rw[WD Q0];exact h.rest m C (by simpa using D) Q0
theorem Jl5{w g n c t cs}(h:X8 w (sA g) n c t 3 (X7 Y8 cs)){i}(j:i<cs.length)p:X8 (((w.setCell (aD g (i*3)) (I O p.1)).setCell (aD g (i*3+1)) (I O p.2.1)).setCell (aD g (i*3+2)) (I O p.2.2)) (sA g) n c t 3 (X7 Y8 (cs.set i p)):=by rw[<-TB QE p cs i j];exact((h.set _ _).set _ _).set _ _
theorem Qg8 w g a b c x y z:X4 (fun i=>i=g) w (((w.setCell (aD g a) x).setCell (aD g b) y).setCell (aD g c) z):=
 ((U1 w ⟨g,a,none⟩ x).trans (U1 _ ⟨g,b,none⟩ y) (fun i h=>.inl h)).trans (U1 _ ⟨g,c,none⟩ z) (fun i h=>.inl h)
theorem Qu0 g lb F(eg:∀args w,(callFunc g args).run prog w=.ok (.enter g args) w)A n c ps w S(hp:Ky w S g lb F) (h:X8 w A n c 323 3 (X7 Y8 ps)) (hS:∀g,X5 A=some g->S g) (hN:∀p∈ps,AY p) (hm:n<=1000000):Calls prog 242 #[.slice A n c,.func (.func g) #[] lb] w fun e w'=>X4 S w w'/\∃m,e=.returned (.slice A m c)/\X8 w' A m c 323 3 (X7 Y8 (ps.filter fun p=> !F p)):=by
 obtain⟨HP,HH,HN,HL,HE⟩:=Xt9 hp h hN (YU QE Q0 h) (CY QE Q0 h);clear hp h hN;go_enter func242,ntmps242
 go_wp2_with fail
 refine(Nr g lb F eg A n c ps w S HP HE HN hm).mono ?_;rintro e w1⟨hB,⟨b2,rfl⟩|⟨k,hk,hy,b0,rfl⟩⟩
 ·have HX:Hid (ps.filter (fun p=> !F p)=ps):=J6 (by
   rw[VT];intro p hp;obtain⟨i,hi,rfl⟩:=ZX.1 hp;rw[b2 i hi];rfl)
  clear b2;go_wp2;go_ret;exact⟨B9 hB _,n,rfl,by rw[HX.out];exact HH.below hB⟩
 obtain⟨gr,rfl⟩:∃gr,A=sA gr:=by obtain⟨gr,hA,_⟩:=HH.elem QE Q0 hk;exact⟨gr,hA⟩
 have a9:=hS gr rfl;have hn:=HL.out;have e3:((k:Int) == -1)=false:=Z3 Q0;have a6:RT F ps ps k (k+1):=⟨rfl,Q0,Q0,by
  rw[M9 hk,JE,VT.2]
  ·simp[hy]
  intro p hp;obtain⟨i,hi,rfl⟩:=ZX.1 hp;have c5:i<k:=by simp at hi;omega
  rw[MQ,b0 i Q0 c5];rfl,fun m _ _ _=>rfl⟩
 obtain⟨HI,HR⟩:=Xt6 a6 (HH.below hB);clear b0 hy a6;have a0:=J6 hn;have e1:k<1000000:=Q0;clear hn hk;go_wp2_with fail
 go_loopg [5,6,7] n (fun gg s5 s6 _ wr=>∃(i j:Nat)(cs:List Z7),s5=I O i/\s6=I O j/\j<=n/\n-j<=gg/\X4 S w wr/\X8 wr (sA gr) n c 323 3 (X7 Y8 cs)/\Hid (RT F ps cs i j))
 case atStart=>exact⟨k,k+1,ps,rfl,J5,by have:=HI.jn;have:=a0.out;omega,Q0,B9 hB _,HR,HI⟩
 obtain⟨i,j,cs,rfl,rfl,hj,hg,hK,u,D⟩:=hrel;have c7:=D.lt;have a3:cs.length=n:=by have:=D.len;have:=a0.out;omega
 have HC:=J6 a3
 by_cases e2:j<n
 ·have b1:j<cs.length:=by omega
  have a4:j<ps.length:=by have:=a0.out;omega
  obtain⟨x0,x1,x2⟩:=TW u b1;have c9:(j:Int)<(n:Int):=Q0;have er:=D.rest j a4 b1 Q2;obtain⟨p,E⟩:∃p,Hid (ps[j]=p):=⟨_,J6 rfl⟩;rw[er,E.out]at x0 x1 x2;have a8:AY p:=by rw[<-E.out];exact HN _ (C7 _)
  obtain⟨p0,y,C⟩:=p;dsimp only at x0 x1 x2;have a1:Bz wr (wr.alloc (.cells #[I O p0,I O y,I O C] 323)):=Q5.alloc Q2 _;have a5:=J6 a1;have Z:=HP.out _ (p0,y,C) (hK.then_ a1) a8;obtain⟨a7,b5,HK⟩:=Xt7 (u.below a1) (Z5 wr 323 #[I O p0,I O y,I O C]) hK;have d5:=u.lt (g:=gr) rfl;unfold QW at Z;dsimp only at Z;clear u er a8 a3 a1 hK
  cases hq:F (p0,y,C)with
  |true=>
   rw[hq]at Z;have HQ:=J6 hq;clear hq;go_wp2_with (go_at_fn g;refine Z.mono ?_;rintro e w'⟨rfl,N⟩)
   go_roundg (n-(j+1))
   case measure=>omega
   exact⟨i,j+1,cs,rfl,J5,Q0,Q0,HK.then_ (a5.trans (N.mono Q3)),a7.below N,J6 (D.skip a4 (by rw[E.out];exact HQ))⟩
  |false=>
   rw[hq]at Z;have HQ:=J6 hq;clear hq;go_wp2_with fail
   refine Z.mono ?_;rintro e w2⟨rfl,N⟩;have J:=a7.below N;have a2:=Z4 b5 N;have z0:w2.cell? (aD (zS wr) 0)=some (I O p0):=by rw[X9 a2];rfl
   have z1:w2.cell? (aD (zS wr) 1)=some (I O y):=by rw[X9 a2];rfl
   have z2:w2.cell? (aD (zS wr) 2)=some (I O C):=by rw[X9 a2];rfl
   have c8:i<cs.length:=by have:=HC.out;omega
   have d6:(i:Int)<(n:Int):=Q0;have c6:(0:Int)<=(i:Int):=Q0;obtain⟨y0,y1,y2⟩:=TW J c8;have f0:=J.frozen (i*3);have f1:=J.frozen (i*3+1);have f2:=J.frozen (i*3+2);generalize cs[i].1=o0 at y0;generalize cs[i].2.1=o1 at y1;generalize cs[i].2.2=o2 at y2;have b8:=J6 J;clear x0 x1 x2 J a2;go_wp2
   go_roundg (n-(j+1))
   case measure=>omega
   refine⟨i+1,j+1,cs.set i (p0,y,C),J5,J5,Q0,Q0,?_,Jl5 b8 (by have:=HC.out;omega) (p0,y,C),J6 ?_⟩
   ·exact((HK.then_ a5).then_ N).trans (Qg8 _ _ _ _ _ _ _ _) (fun x hx=>.inl (by subst hx;exact a9))
   have:=D.keep a4 (by rw[E.out];exact HQ);rw[E.out]at this;exact this
 obtain rfl:j=n:=by omega
 have c9:¬(j:Int)<(j:Int):=Q0;have d9:i<j:=c7;obtain⟨vs,e4,d4⟩:=Bd (P:=prog) wr 282 323 0 (.agg #[I O 0,I O 0,I O 0]) 3 underlying282 (fun _=>Q4) rfl Q0 (by intro v hv;simp[Value.cells]at hv;subst hv;rfl) gr (i*3) (j-i) (c-i) Q0
  (fun x hx=>u.some_ Q0) (fun x hx=>u.frozen _)
 have b9:=J6 u;obtain⟨d0,d1⟩:=u.cap;have d2:i<c:=Q0;have d3:¬c=i:=Q0;have c6:(0:Int)<=(i:Int):=Q0;have d7:(i:Int)<=(j:Int):=Q0;have d8:(j:Int)<=(c:Int):=Q0;clear a3 u;go_wp2;go_ret;refine⟨hK.trans (TQ _ _ _ _) (fun x hx=>.inl (by subst hx;exact a9)),i,rfl,?_⟩;have hd:=D.done;rw[M4 (l:=ps) (by rw[a0.out];exact X3 _)]at hd;rw[<-hd,<-Uf QE];exact X8.sets_past _ _ _ (b9.pop i Q0) Q2
theorem Xh1:(prog.info? 323).map (fun i=>(i.zero,i.size,i.bytes))=some (some (.agg #[I O 0,I O 0,I O 0]),3,24):=Q4
theorem Ja7 A n c ps w(h:C0 w Y8 3 A n ps)(hn:0<n)(hm:n<=1000000):Calls prog 240 #[.slice A n c] w fun e w'=>Bz w w'/\∃g c',e=.returned (.slice (sA g) n c')/\w.heap.size<=g/\X8 w' (sA g) n c' 323 3 (X7 Y8 ps):=by
 obtain⟨b,i,rfl,a7⟩:∃b i,A=some ⟨b,i,none⟩/\b<w.heap.size:=by obtain⟨b,i,h1,h2,_⟩:=h.2 hn;exact⟨b,i,h1,h2⟩
 have a9:∀wx,(binOp .eql 282 (.slice (some ⟨b,i,none⟩) n c) (.slice none 0 0)).run prog wx=.ok (.bool false) wx:=fun wx=>Vc (P:=prog) wx 282 323 (some ⟨b,i,none⟩) n c 0 0 underlying282
 have E:=J6 h;have j:=h.1;have J:=J6 j;clear h j;obtain⟨i0,a2,a3,a4,a5⟩:=W8 Xh1;go_enter func240,ntmps240
 have D:(w.alloc (.cells #[] 323)).ownsRow w.heap.size 323 3 (.slice (some ⟨w.heap.size,0,none⟩) 0 0) 0 []:=⟨rfl,.inr ⟨w.heap.size,0,#[],rfl,X3 _,QN w _,X3 _,U9 _,rfl,rfl⟩⟩;have u:(X7 Y8 ps).length=n*3:=by rw[EG QE,J.out]
 have y:=(E.below ((J9 _ w).alloc Q2 (.cells #[] 323)) Q2).news QE;obtain⟨HO,N,Z⟩:=Xt7 D u y;clear D u y;go_wp2_with (at_builtin;go_loud (refine VZ _ rfl _ _ 282 rfl w.heap.size 323 i0 _ 3 24 underlying282 a2 a3 a4 a5 rfl Q0 _ 0 [] rfl HO ⟨b,i,none⟩ n c (X7 Y8 ps) rfl N Z (Uu Qh _) Q0 Q9 Q0 Q3 (w.heap.size+1) Q3 ?_);intro g cap w1 C a1 a0 a8)
 go_ret;have a6:g=w.heap.size\/g=w.heap.size+1:=by
  obtain h|h:=a0
  ·exact .inl (XG h).symm
  exact .inr h
 simp only[Nat.zero_add,List.nil_append]at C;exact⟨((J9 _ w).alloc Q2 _).grown a1 Q3 (fun q hq=>by cases hq;exact X3 _),g,cap,Q3,Q0,Ct C⟩
theorem Ja8 A n c ps w(h:C0 w Y8 3 A n ps)(y:n<=1000000):Calls prog 240 #[.slice A n c] w fun e w'=>Bz w w'/\∃A' c',e=.returned (.slice A' n c')/\(∀g,X5 A'=some g->w.heap.size<=g)/\X8 w' A' n c' 323 3 (X7 Y8 ps):=by
 by_cases C:0<n
 ·refine(Ja7 A n c ps w h C y).mono ?_
  rintro e w'⟨j,g,c',rfl,i,u⟩;exact⟨j,_,c',rfl,fun x E=>by cases E;exact i,u⟩
 obtain rfl:n=0:=by omega
 obtain rfl:ps=[]:=EB h.1;clear h
 cases A with
 |none=>
  have D:∀wx,(binOp .eql 282 (.slice none 0 c) (.slice none 0 0)).run prog wx=.ok (.bool true) wx:=fun wx=>Vc (P:=prog) wx 282 323 none 0 c 0 0 underlying282
  go_enter func240,ntmps240
  go_wp2;go_ret;exact⟨J9 _ _,none,0,rfl,by simp[X5],QY _ _ _ _⟩
 |some a=>
  have D:∀wx,(binOp .eql 282 (.slice (some a) 0 c) (.slice none 0 0)).run prog wx=.ok (.bool false) wx:=fun wx=>Vc (P:=prog) wx 282 323 (some a) 0 c 0 0 underlying282
  go_enter func240,ntmps240
  go_wp2;go_ret;exact⟨Q5.alloc Q2 _,sA (zS w),0,rfl,fun g i=>by cases i;exact X3 _,⟨rfl,.inr ⟨zS w,0,#[],rfl,U9 _,QN w _,X3 _,U9 _,rfl,rfl⟩⟩⟩
def PN(F:Z7->Int):List Z7->Int
 | []=>0
 |p::r=>r.foldl (fun m q=>if m<F q then F q else m) (F p)
theorem Rp F l p(h:0<l.length):PN F (l++[p])=if PN F l<F p then F p else PN F l:=by
 cases l with
 |nil=>simp at h
 |cons a l=>
  show List.foldl _ _ (l++[p])=_;rw[FS]
  rfl
def P4(F:Z7->Int)(ps:List Z7):List Z7:=ps.filter fun p=>F p ==PN F ps
theorem Ja9(F:Z7->Int)(l:List Z7):∀m,(l.foldl (fun m q=>if m<F q then F q else m) m=m\/∃p∈l,F p=l.foldl (fun m q=>if m<F q then F q else m) m)/\m<=l.foldl (fun m q=>if m<F q then F q else m) m/\∀p∈l,F p<=l.foldl (fun m q=>if m<F q then F q else m) m:=by
 induction l with
 |nil=>intro m;exact⟨.inl rfl,T3 _,fun p hp=>by cases hp⟩
 |cons a l u=>
  intro m;obtain⟨h1,h2,i⟩:=u (if m<F a then F a else m);rw[JF]
  by_cases j:m<F a
  ·rw[X0 j]at h1 h2 i|-
   refine⟨.inr ?_,Q0,fun p hp=>?_⟩
   ·obtain h1|⟨p,hp,e⟩:=h1
    ·exact⟨a,Q3,h1.symm⟩
    exact⟨p,by simp[hp],e⟩
   obtain rfl|hp:=H8.1 hp
   ·exact h2
   exact i p hp
  rw[J8 j]at h1 h2 i|-;refine⟨?_,h2,fun p hp=>?_⟩
  ·obtain h1|⟨p,hp,e⟩:=h1
   ·exact .inl h1
   exact .inr ⟨p,by simp[hp],e⟩
  obtain rfl|hp:=H8.1 hp
  ·omega
  exact i p hp
theorem Rq F ps(h:ps≠[]):(∃p∈ps,F p=PN F ps)/\∀p∈ps,F p<=PN F ps:=by
 cases ps with
 |nil=>exact absurd rfl h
 |cons a l=>
  obtain⟨h1,h2,i⟩:=Ja9 F l (F a);refine⟨?_,fun p hp=>?_⟩
  ·obtain h1|⟨p,hp,e⟩:=h1
   ·exact⟨a,Q3,h1.symm⟩
   exact⟨p,by simp[hp],e⟩
  obtain rfl|hp:=H8.1 hp
  ·exact h2
  exact i p hp
theorem Kq F{ps}(h:ps≠[]):P4 F ps≠[]:=by
 obtain⟨⟨p,hp,e⟩,_⟩:=Rq F ps h;intro i;have:p∈P4 F ps:=S4.2 ⟨hp,by simp[e]⟩;rw[i]at this
 cases this
theorem Rr{F ps p}(h:p∈P4 F ps):p∈ps:=(S4.1 h).1
theorem CS.less{w S S' g lb F}(h:CS w S g lb F)(j:∀i,S' i->S i):CS w S' g lb F:=
 fun W p u hp=>h W p (u.mono j) hp
theorem Jx4 g lb F(eg:∀args w,(callFunc g args).run prog w=.ok (.enter g args) w)b7 A n c ps w(hF:CS w (fun i=>X5 A=some i) g lb F) (hb:J7 w b7 282 #[.slice A n c]) (h:X8 w A n c 323 3 (X7 Y8 ps)) (d0:X5 A≠some b7) (hN:∀p∈ps,AY p) (hm:n<=1000000):Calls prog 241 #[.func (.func g) #[] lb,pA b7] w fun e w'=>e=.returned (.tuple #[])/\X4 (fun i=>i=b7\/X5 A=some i) w w'/\∃m,J7 w' b7 282 #[.slice A m c]/\X8 w' A m c 323 3 (X7 Y8 (P4 F ps)):=by
 obtain⟨HP,C,HN,HL,HE,Z⟩:=Xu0 hF h hN (YU QE Q0 h) (CY QE Q0 h) hb;have e6:=Z9 hb;have b8:=J6 d0;clear hF h hN hb d0;have z0:((w.alloc (.cells #[.func (.func g) #[] lb] 324)).alloc (.cells #[I O 0] 3)).cell? (aD b7 0)=some (.slice A n c):=by rw[X9 (G0 (G0 Z _) _)];rfl
 go_enter func241,ntmps241
 go_wp2_with fail
 go_loopg [4,5,6,9] n (fun gg _ _ _ s9 wr=>∃k m,k<=n/\gg=n-k/\s9=I O k/\Bz w wr/\J7 wr (zS w) 324 #[.func (.func g) #[] lb]/\J7 wr (zS w+1) 3 #[I O m]/\Hid (m=PN F (ps.take k)))
 case atStart=>exact⟨0,0,U9 _,rfl,rfl,((J9 _ w).alloc Q2 _).alloc Q3 _,G0 (Z5 _ _ _) _,by have:=Z5 (w.alloc (.cells #[.func (.func g) #[] lb] 324)) 3 #[I O 0];simpa using this,J6 rfl⟩
 obtain⟨k,m,hk,rfl,rfl,j,a1,J,HM⟩:=hrel
 by_cases e8:k<n
 ·have b5:k<ps.length:=by have:=HL.out;omega
  have d1:=j.size;obtain⟨gr,hA⟩:∃gr,A=sA gr:=by obtain⟨gr,hA,_⟩:=C.elem QE Q0 b5;exact⟨gr,hA⟩
  subst hA;obtain⟨x0,x1,x2⟩:=TW (C.below j) b5;have e2:(k:Int)<(n:Int):=Q0;have e5:(0:Int)<=(k:Int):=Q0;have a5:AY ps[k]:=HN.out _ (C7 _);obtain⟨p,E⟩:∃p,Hid (ps[k]=p):=⟨_,J6 rfl⟩;rw[E.out]at x0 x1 x2 a5;have HT:=J6 (M9 b5);obtain⟨p0,u,y⟩:=p;dsimp only at x0 x1 x2;have D:Bz wr (wr.alloc (.cells #[I O p0,I O u,I O y] 323)):=Q5.alloc Q2 _;have a2:=HP.out _ (p0,u,y) (B9 (j.trans (D.mono d1)) _) a5;have a7:=Z4 a1 D;have y0:(wr.alloc (.cells #[I O p0,I O u,I O y] 323)).cell? (aD (zS w) 0)=some (.func (.func g) #[] lb):=by rw[X9 a7];rfl
  obtain⟨d5,d7,d3⟩:=Xt7 a7 (Z4 J D) (j.trans (D.mono d1));have e4:=Z9 J;unfold QW at a2;dsimp only at a2;clear a1 J a5 a7 D j;go_wp2_with fail
  refine a2.mono ?_;rintro e w2⟨rfl,a6⟩;have a8:=Z4 d5 a6;have N:=Z4 d7 a6;have a3:=d3.trans (a6.mono Q7);have q0:w2.cell? (aD (zS w+1) 0)=some (I O m):=by rw[X9 N];rfl
  have qf:w2.frozen? (aD (zS w+1) 0)=false:=K0 N 0;have b0:=Z0 N 0 (I O (F (p0,u,y)));have a9:=ZR a8 (p:=(aD (zS w+1) 0)) Q3 (I O (F (p0,u,y)));have a4:=a3.setCell (p:=(aD (zS w+1) 0)) Q3 (I O (F (p0,u,y)));generalize hf:F (p0,u,y)=f at b0 a9 a4;obtain⟨E2,G1,G2,G3,G4,G5,G6⟩:=Xu1 hf b0 a9 a4 N a8 a3;clear x0 x1 x2 y0 a2 b0 a9 a4 N a8 a3 hf
  by_cases e1:k=0
  ·subst e1
   go_wp2
   go_roundg (n-(0+1))
   case measure=>omega
   exact⟨0+1,f,Q0,rfl,J5,G3,G2,G1,J6 (by rw[HT.out,E.out,<-E2.out];rfl)⟩
  have t0:=Z3 (show(k:Int)≠0 by omega)
  by_cases b1:m<f
  ·have t1:=V7 b1
   go_wp2
   go_roundg (n-(k+1))
   case measure=>omega
   exact⟨k+1,f,Q0,rfl,J5,G3,G2,G1,J6 (by rw[HT.out,Rp F _ _ Q7,<-HM.out,E.out,E2.out,X0 b1])⟩
  have t1:=V9 b1;go_wp2
  go_roundg (n-(k+1))
  case measure=>omega
  exact⟨k+1,m,Q0,rfl,J5,G6,G5,G4,J6 (by rw[HT.out,Rp F _ _ Q7,<-HM.out,E.out,E2.out,J8 Q0])⟩
 obtain rfl:k=n:=by omega
 have e2:¬(k:Int)<(k:Int):=Q0;have c7:wr.cell? (aD b7 0)=some (.slice A k c):=by rw[X9 (Z.keep j)];rfl
 have f7:wr.frozen? (aD b7 0)=false:=K0 (Z.keep j) 0;have HR:=J6 (C.below j);have b9:=Xg9 wr (fun i=>X5 A=some i) w.heap.size (w.heap.size+1) g lb F m eg (HP.out.later (B9 j (fun _=>False)) (fun _ h=>h.elim)) a1 J (fun h=>by have:=C.out.lt h;omega) (fun h=>by have:=C.out.lt h;omega);obtain⟨d8,HB⟩:=Xt6 b9 j;clear b9 a1 J j;go_wp2_with fail
 refine(Qu0 _ _ _ (R0 func243 Q4 rfl) A k c ps wr _ d8 HR (fun _ h=>h) HN hm).mono ?_;rintro e w2⟨hK,mm,rfl,c5⟩;have e3:¬X5 A=some b7:=b8.out;have a0:=(Z.keep HB).keeps hK e3;have c8:w2.cell? (aD b7 0)=some (.slice A k c):=by rw[X9 a0];rfl
 have f8:=K0 a0 0;have b2:=U1 w2 (aD b7 0) (.slice A mm c);have c6:=c5.keeps b2 (fun x hx e=>b8 (by rw[hx,e]));have c9:=Z0 a0 0 (.slice A mm c);obtain⟨d9,d2,d6⟩:=Xt7 c6 c9 (((B9 HB (fun i=>i=b7\/X5 A=some i)).trans hK (fun i h=>.inl (.inr h))).trans b2 (fun i h=>.inl (.inl h)));have e7:(fun p=> !(F p != m))=fun p=>F p ==PN F ps:=by
  funext p
  rw[HM.out,M4 (by rw[HL.out];exact X3 _)];simp[bne]
 have d4:=J6 e7;clear a0 b2 c6 c9 e7 c7 f7 c5 hK;go_wp2_with fail
 go_end0
 refine⟨rfl,d6,mm,d2,?_⟩;unfold P4;rw[<-d4.out];exact d9
theorem Wb i(D:i=1\/i= -1)b7 A n c ps w(C:J7 w b7 282 #[.slice A n c]) (h:X8 w A n c 323 3 (X7 Y8 ps)) (y:∀p∈ps,AY p) (hm:n<=1000000):Calls prog 245 #[I O i,pA b7] w fun e w'=>e=.returned (.bool (!(ps.any fun p=>decide ((p.2.1-p.2.2)*i<=0))))/\Bz w w':=by
 have z0:(w.alloc (.cells #[I O i] 3)).cell? (aD b7 0)=some (.slice A n c):=by rw[X9 (G0 C _)];rfl
 have j:Bz w (w.alloc (.cells #[I O i] 3)):=Q5.alloc Q2 _;obtain⟨J,Z,E,N⟩:=Xt8 (CY QE Q0 (h.below j)) (Xh0 (w.alloc (.cells #[I O i] 3)) (fun _=>False) (zS w) i D (Z5 _ _ _) id) j y;have a0:∀u first cap w,(Instr.makeFunc u first cap).run prog w=.ok (.func u first cap) w:=fun _ _ _ _=>rfl
 clear C h j y D;go_enter func245,ntmps245
 go_wp2_with fail
 refine(Qn6 _ _ _ (R0 func247 Q4 rfl) A n c ps _ _ Z J N hm).mono ?_;rintro e w1⟨hB,rfl⟩;go_wp2;go_ret;exact⟨rfl,E.trans (hB.mono Q3)⟩
structure BK(w0 w:World)(b3 b4 b6 b7:Nat)(r:Int)(A:Option Addr)(m c:Nat)(ps:List Z7):Prop where
 around:J7 w b3 3 #[I O r]
 quote:J7 w b4 99 #[I O 0,I O 0,I O 0]
 left:J7 w b6 324 #[.func (.func 239) #[] #[]]
 best:J7 w b7 282 #[.slice A m c]
 row:X8 w A m c 323 3 (X7 Y8 ps)
 near:∀p∈ps,AY p
 below:Bz w0 w
 u3:w0.heap.size<=b3
 u4:w0.heap.size<=b4
 u6:w0.heap.size<=b6
 u7:w0.heap.size<=b7
 uA:∀g,X5 A=some g->w0.heap.size<=g/\g≠b3/\g≠b4/\g≠b6/\g≠b7
 n73:b7≠b3
 n74:b7≠b4
 n76:b7≠b6
section
variable {w0 w w':World} {b3 b4 b6 b7 m c:Nat} {r:Int} {A:Option Addr} {ps:List Z7}
theorem BK.keep(h:BK w0 w b3 b4 b6 b7 r A m c ps)(i:Bz w w'):BK w0 w' b3 b4 b6 b7 r A m c ps:=
 ⟨Z4 h.around i,Z4 h.quote i,Z4 h.left i,Z4 h.best i,h.row.below i,h.near,h.below.trans (i.mono h.below.size),h.u3,h.u4,h.u6,h.u7,h.uA,h.n73,h.n74,h.n76⟩
theorem BK.kept(h:BK w0 w b3 b4 b6 b7 r A m c ps){F m'}(hk:X4 (fun i=>i=b7\/X5 A=some i) w w')(j:J7 w' b7 282 #[.slice A m' c])(u:X8 w' A m' c 323 3 (X7 Y8 (P4 F ps))):BK w0 w' b3 b4 b6 b7 r A m' c (P4 F ps):=
 ⟨V0 h.around hk (fun e=>e.elim (fun e=>h.n73 e.symm) (fun e=>(h.uA _ e).2.1 rfl)),V0 h.quote hk (fun e=>e.elim (fun e=>h.n74 e.symm) (fun e=>(h.uA _ e).2.2.1 rfl)),V0 h.left hk (fun e=>e.elim (fun e=>h.n76 e.symm) (fun e=>(h.uA _ e).2.2.2.1 rfl)),j,u,fun p hp=>h.near p (Rr hp),h.below.trans (hk.below (fun i e=>e.elim (fun e=>by rw[e];exact h.u7) (fun e=>(h.uA _ e).1)) h.below.size),h.u3,h.u4,h.u6,h.u7,h.uA,h.n73,h.n74,h.n76⟩
theorem BK.n7(h:BK w0 w b3 b4 b6 b7 r A m c ps):X5 A≠some b7:=fun e=>(h.uA _ e).2.2.2.2 rfl
theorem BK.step(h:BK w0 w b3 b4 b6 b7 r A m c ps)g lb F(eg:∀args w,(callFunc g args).run prog w=.ok (.enter g args) w)(C:CS w (fun i=>X5 A=some i) g lb F)(J:m<=1000000):Calls prog 241 #[.func (.func g) #[] lb,pA b7] w fun e w'=>e=.returned (.tuple #[])/\∃m',m'<=m/\(P4 F ps).length=m'/\BK w0 w' b3 b4 b6 b7 r A m' c (P4 F ps):=by refine(Jx4 g lb F eg b7 A m c ps w C h.best h.row h.n7 h.near J).mono ?_;rintro e w'⟨rfl,D,m',E,u⟩;have j:=YU QE Q0 u;have y:=YU QE Q0 h.row;exact⟨rfl,m',by rw[<-j,<-y];exact NF _ _,j,h.kept D E u⟩
end
theorem BK.q{w0 w b3 b4 b6 b7 m c r A ps}(h:BK w0 w b3 b4 b6 b7 r A m c ps):w.cell? (aD b4 0)=some (I O 0)/\w.cell? (aD b4 1)=some (I O 0)/\w.cell? (aD b4 2)=some (I O 0)/\w.frozen? (aD b4 0)=false/\w.frozen? (aD b4 1)=false/\w.frozen? (aD b4 2)=false:=
 ⟨by rw[X9 h.quote];rfl,by rw[X9 h.quote];rfl,by rw[X9 h.quote];rfl,K0 h.quote 0,K0 h.quote 1,K0 h.quote 2⟩
theorem BK.y7{w0 w b3 b4 b6 b7 m c r A ps}(h:BK w0 w b3 b4 b6 b7 r A m c ps):w.cell? (aD b7 0)=some (.slice A m c):=by rw[X9 h.best];rfl
theorem Cu{w w'}(i:Bz w w'){p v}(h:(w.cell? p).isSome=true)(j:w.frozen? p=v):w'.frozen? p=v:=by obtain⟨u,y⟩:=Option.isSome_iff_exists.1 h;exact(i.frozen (U5 w p y)).trans j
def FZ(w:World)(a:Addr):Value:=(w.cell? a).getD undef
theorem Jx5{w a}(h:(w.cell? a).isSome=true):w.cell? a=some (FZ w a):=by obtain⟨v,i⟩:=Option.isSome_iff_exists.1 h;unfold FZ;rw[i];rfl
theorem MV{w a v}(h:w.cell? a=some v):w.cell? a=some (FZ w a):=Jx5 (by rw[h];rfl)
def QS(g B:Nat)(v1 v2 v3:Value)(w:World):Prop:=
 (w.cell? (aD g 0)=some v1/\w.cell? (aD g 1)=some v2/\w.cell? (aD g 2)=some v3)/\(w.cell? (aD B 0)=some (FZ w (aD B 0))/\w.cell? (aD B 1)=some (FZ w (aD B 1))/\w.cell? (aD B 2)=some (FZ w (aD B 2)))/\w.frozen? (aD B 0)=false/\w.frozen? (aD B 1)=false/\w.frozen? (aD B 2)=false
theorem Qg9{w w' g B v1 v2 v3}(i:Bz w w')(h:QS g B v1 v2 v3 w):QS g B v1 v2 v3 w':=
 ⟨⟨DE i h.1.1,DE i h.1.2.1,DE i h.1.2.2⟩,⟨MV (DE i h.2.1.1),MV (DE i h.2.1.2.1),MV (DE i h.2.1.2.2)⟩,Cu i (by rw[h.2.1.1];rfl) h.2.2.1,Cu i (by rw[h.2.1.2.1];rfl) h.2.2.2.1,Cu i (by rw[h.2.1.2.2];rfl) h.2.2.2.2⟩
theorem Qz{w g B v1 v2 v3}(C:g≠B)i x(h:QS g B v1 v2 v3 w):QS g B v1 v2 v3 (w.setCell (aD B i) x):=by
 have u:∀j,(w.setCell (aD B i) x).cell? (aD g j)=w.cell? (aD g j):=fun j=>SR (Xf w (aD B i) x g C)
 have y:∀j v,w.cell? (aD B j)=some v->(w.setCell (aD B i) x).cell? (aD B j)=some (FZ (w.setCell (aD B i) x) (aD B j)):=fun j v D=>by obtain⟨v',E⟩:=cell?_setCell_some (w:=w) (p:=(aD B i)) (x:=x) (q:=(aD B j)) (v:=v) D;exact MV E
 refine⟨⟨(u 0).trans h.1.1,(u 1).trans h.1.2.1,(u 2).trans h.1.2.2⟩,⟨y 0 _ h.2.1.1,y 1 _ h.2.1.2.1,y 2 _ h.2.1.2.2⟩,?_,?_,?_⟩
 ·simpa using h.2.2.1
 ·simpa using h.2.2.2.1
 simpa using h.2.2.2.2
def GV(r:Int)(b2:List Z7):List Z7:=
 if b2.any (fun p=>decide ((p.2.1-p.2.2)*1<=0))=false then P4 (fun p=>p.1) b2
 else if b2.any (fun p=>decide ((p.2.1-p.2.2)* -1<=0))=false then P4 (fun p=> -p.1) b2
 else P4 (fun p=> -p.1) (P4 (fun p=> -max (p.1-r) (r-p.1)) b2)
def Kz:List Z7->Z7
 | []=>(0,0,0)
 |p::_=>(p.1,Y7 p,p.2.1-p.2.2)
def ZM(ps:List Z7)(r:Int):Z7:=
 match P4 Y7 ps with
 | []=>(0,0,0)
 |p::l=>if Y7 p<1 then(0,0,0)else Kz (GV r (P4 (fun p=> -CL p) (p::l)))
theorem Ca{w a Q g cs}(hp:a.tmps.getD 4 undef=pA g)(i:a.defers=[])(j:J7 w g 99 cs) (h2:cs.size=3) (h:Q (.returned (.agg cs)) w):bodyPost prog Tryz.f206 Q .ret a w:=
 QA (WE Tryz.results206 a.tmps w g _ cs (0,0) _ hp j underlying99 rfl (by rw[h2];kernel_rfl)) i h
theorem Jb0 A n c r(hr: -1099511627776<=r/\r<=1099511627776)ps w(h:C0 w Y8 3 A n ps)(hN:∀p∈ps,AY p)(hm:n<=100000):Calls prog 206 #[.slice A n c,I O r] w fun e w'=>e=.returned (QW (ZM ps r))/\Bz w w':=by
 have d3:Bz w (((w.alloc (.cells #[I O r] 3)).alloc (.cells #[I O 0,I O 0,I O 0] 99)).alloc (.cells #[.func (.func 239) #[] #[]] 324)):=(((J9 _ w).alloc Q2 _).alloc Q3 _).alloc Q7 _;obtain⟨HH,HN,g1⟩:=Xt7 (h.below d3 Q2) hN d3;clear h hN d3;go_enter func206,ntmps206
 go_wp2_with fail
 refine(Ja8 A n c ps _ HH Q0).mono ?_;rintro e w1⟨a1,A',c',rfl,i0,hR⟩;have h9:=a1.size;simp at h9;have f1:BK w (w1.alloc (.cells #[.slice A' n c'] 282)) w.heap.size (w.heap.size+1) (w.heap.size+1+1) w1.heap.size r A' n c' ps:=by
  have e3:J7 (((w.alloc (.cells #[I O r] 3)).alloc (.cells #[I O 0,I O 0,I O 0] 99)).alloc (.cells #[.func (.func 239) #[] #[]] 324)) w.heap.size 3 #[I O r]:=G0 (G0 (Z5 w _ _) _) _;have e4:J7 (((w.alloc (.cells #[I O r] 3)).alloc (.cells #[I O 0,I O 0,I O 0] 99)).alloc (.cells #[.func (.func 239) #[] #[]] 324)) (w.heap.size+1) 99 #[I O 0,I O 0,I O 0]:=by have:=G0 (Z5 (w.alloc (.cells #[I O r] 3)) 99 #[I O 0,I O 0,I O 0]) (.cells #[.func (.func 239) #[] #[]] 324);simpa using this
  have e6:J7 (((w.alloc (.cells #[I O r] 3)).alloc (.cells #[I O 0,I O 0,I O 0] 99)).alloc (.cells #[.func (.func 239) #[] #[]] 324)) (w.heap.size+1+1) 324 #[.func (.func 239) #[] #[]]:=by have:=Z5 ((w.alloc (.cells #[I O r] 3)).alloc (.cells #[I O 0,I O 0,I O 0] 99)) 324 #[.func (.func 239) #[] #[]];simpa using this
  refine⟨G0 (Z4 e3 a1) _,G0 (Z4 e4 a1) _,G0 (Z4 e6 a1) _,Z5 _ _ _,hR.below (Q5.alloc Q2 _),HN,g1.trans ((a1.alloc a1.size _).mono Q7),X3 _,Q0,Q0,Q0,fun g hg=>?_,Q0,Q0,Q0⟩;have h1:=i0 g hg;have h2:=hR.lt hg;simp at h1;omega
 have HC:=J6 f1;have j0:∀fn first cap w,(Instr.makeFunc fn first cap).run prog w=.ok (.func fn first cap) w:=fun _ _ _ _=>rfl
 have HR:=J6 hR;clear f1 hR a1;go_wp2_with fail
 refine(HC.step _ _ _ (R0 func238 Q4 rfl) (Jl2 _ _) Q0).mono ?_;rintro e w2⟨rfl,m2,i1,f4,d6⟩;obtain⟨a6,c7⟩:=Xt6 d6 f4;have y7:w2.cell? ⟨w1.heap.size,0,none⟩=some (.slice A' m2 c'):=by rw[X9 d6.best];rfl
 clear d6 f4
 by_cases hz:m2=0
 ·subst hz
  obtain⟨d0,d1,d2,q0,q1,q2⟩:=a6.q;go_wp2_with fail
  try simp only[Exit.inBlock,Exit.then]
  refine Ca (g:=w.heap.size+1) (cs:= #[I O 0,I O 0,I O 0]) Q6 Q6 (Z0 (Z0 (Z0 a6.quote 0 _) 1 _) 2 _) rfl ?_;have e0:P4 Y7 ps=[]:=EB c7;refine⟨by unfold ZM;rw[e0];rfl,((a6.below.setCell Q3 _).setCell Q3 _).setCell Q3 _⟩
 have t0:=Z3 (show(m2:Int)≠0 by omega);obtain⟨p,l,d8⟩:∃p l,P4 Y7 ps=p::l:=by
  cases hk:P4 Y7 ps with
  |nil=>rw[hk]at c7;exact absurd c7.symm hz
  |cons p l=>exact⟨p,l,rfl⟩
 have c5:=a6.row;rw[d8]at c5;obtain⟨gr,rfl⟩:∃gr,A'=some ⟨gr,0,none⟩:=by obtain⟨gr,hA,_⟩:=c5.elem QE Q0 (i:=0) Q3;exact⟨gr,hA⟩
 obtain⟨x0,x1,x2⟩:=TW c5 (i:=0) Q3;simp only[List.getElem_cons_zero,Nat.zero_mul,Nat.zero_add]at x0 x1 x2;have y:=By p w2;obtain⟨p0,p1,p2⟩:=p;unfold QW at y;dsimp only at x0 x1 x2 y;have i2:(0:Int)<(m2:Int):=Q0;have c9:=J6 d8;obtain⟨t,HT⟩:∃t,Hid (Y7 (p0,p1,p2)=t):=⟨_,J6 rfl⟩;rw[HT.out]at y;clear c5 d8;go_wp2_with fail
 refine y.mono ?_;rintro e w3⟨rfl,h0⟩;have a0:=J6 (a6.keep h0);clear x0 x1 x2 y y7
 by_cases a4:t<1
 ·have dt:=V7 a4
  obtain⟨d0,d1,d2,q0,q1,q2⟩:=a0.q;have g9:=J6 a4;clear a4;go_wp2_with fail
  try simp only[Exit.inBlock,Exit.then]
  refine Ca (g:=w.heap.size+1) (cs:= #[I O 0,I O 0,I O 0]) Q6 Q6 (Z0 (Z0 (Z0 a0.quote 0 _) 1 _) 2 _) rfl ?_;refine⟨?_,((a0.below.setCell Q3 _).setCell Q3 _).setCell Q3 _⟩;have e1:ZM ps r=(0,0,0):=by unfold ZM;rw[c9.out];show(if Y7 (p0,p1,p2)<1 then _ else _)=_;rw[HT.out,X0 g9.out]
  rw[e1];rfl
 have dt:=V9 a4;have e5:Hid (ZM ps r=Kz (GV r (P4 (fun p=> -CL p) ((p0,p1,p2)::l)))):=J6 (by unfold ZM;rw[c9.out];show(if Y7 (p0,p1,p2)<1 then _ else _)=_;rw[HT.out,J8 a4]);clear a4;go_wp2_with fail
 rw[c9.out]at a0;refine(a0.step _ _ _ (R0 func244 Q4 rfl) (Xg8 _ _ _ a0.left (fun e=>(a0.uA _ e).2.2.2.1 rfl)) Q0).mono ?_;rintro e w4⟨rfl,m4,i3,f5,d7⟩;have b9:P4 (fun p=> -CL p) ((p0,p1,p2)::l)≠[]:=Kq _ Q3;have e7:=J6 f5;generalize P4 (fun p=> -CL p) ((p0,p1,p2)::l)=j at b9 d7 e7 e5;have a7:=J6 d7;have i4:0<m4:=by have:=e7.out;have:=RZ.2 b9;omega
 have c8:=J6 b9;clear d7 f5 b9;go_upto_block 0 with fail
 go_cut [38] (fun j4 wx=>∃m5 a5,m5<=n/\0<m5/\a5.length=m5/\BK w wx w.heap.size (w.heap.size+1) (w.heap.size+1+1) w1.heap.size r (some ⟨gr,0,none⟩) m5 c' a5/\Hid (GV r j=a5))
 case first=>
  have N:=Wb 1 (.inl rfl) w1.heap.size _ m4 c' j w4 a7.best a7.row a7.near Q0
  cases a2:j.any (fun p=>decide ((p.2.1-p.2.2)*1<=0))with
  |false=>
   rw[a2]at N;simp only[Bool.not_false]at N;have a8:Hid (GV r j=P4 (fun p=>p.1) j):=J6 (by unfold GV;rw[X0 a2]);clear a2;go_wp2_with fail
   refine N.mono ?_;rintro e w5⟨rfl,d4⟩;have C:=J6 (a7.keep d4);clear N;go_wp2_with fail
   refine(C.step _ _ _ (R0 func248 Q4 rfl) (Jx2 _ _) Q0).mono ?_;rintro e w6⟨rfl,m6,i8,f6,f2⟩;have f8:P4 (fun p=>p.1) j≠[]:=Kq _ c8;have h5:0<m6:=by have:=RZ.2 f8;omega
   obtain⟨E,g3⟩:=Xt6 f2 f6;clear f2 f6 f8;go_wp2;go_meet;exact⟨m6,_,Q0,h5,g3,E,a8⟩
  |true=>
   rw[a2]at N;simp only[Bool.not_true]at N;have d9:=J6 a2;clear a2;go_wp2_with fail
   refine N.mono ?_;rintro e w5⟨rfl,d4⟩;have C:=J6 (a7.keep d4);clear N;have Z:=Wb (-1) (.inr rfl) w1.heap.size _ m4 c' j w5 C.best C.row C.near Q0
   cases a3:j.any (fun p=>decide ((p.2.1-p.2.2)* -1<=0))with
   |false=>
    rw[a3]at Z;simp only[Bool.not_false]at Z;have a8:Hid (GV r j=P4 (fun p=> -p.1) j):=J6 (by unfold GV;rw[J8 (by rw[d9.out];simp),X0 a3]);clear a3;go_wp2_with fail
    refine Z.mono ?_;rintro e w6⟨rfl,d5⟩;have E:=J6 (C.keep d5);clear Z;go_wp2_with fail
    refine(E.step _ _ _ (R0 func249 Q4 rfl) (Jx3 _ _) Q0).mono ?_;rintro e w7⟨rfl,m7,h6,b8,a9⟩;have b0:P4 (fun p=> -p.1) j≠[]:=Kq _ c8;have h7:0<m7:=by have:=RZ.2 b0;omega
    obtain⟨c6,g4⟩:=Xt6 a9 b8;clear a9 b8 b0;go_wp2;go_meet;exact⟨m7,_,Q0,h7,g4,c6,a8⟩
   |true=>
    rw[a3]at Z;simp only[Bool.not_true]at Z;have a8:Hid (GV r j=P4 (fun p=> -p.1) (P4 (fun p=> -max (p.1-r) (r-p.1)) j)):=J6 (by unfold GV;rw[J8 (by rw[d9.out];simp),J8 (by rw[a3];simp)]);clear a3;go_wp2_with fail
    refine Z.mono ?_;rintro e w6⟨rfl,d5⟩;have E:=J6 (C.keep d5);clear Z;go_wp2_with fail
    refine(E.step _ _ _ (R0 func250 Q4 rfl) (Xm3 _ _ _ r hr E.around (fun e=>(E.uA _ e).2.1 rfl)) Q0).mono ?_;rintro e w7⟨rfl,m7,h6,b8,a9⟩;have b0:P4 (fun p=> -max (p.1-r) (r-p.1)) j≠[]:=Kq _ c8;obtain⟨c6,g6⟩:=Xt6 a9 b0;clear a9 b8 b0;go_wp2_with fail
    refine(c6.step _ _ _ (R0 func251 Q4 rfl) (Jl3 _ _) Q0).mono ?_;rintro e w8⟨rfl,m8,i9,f7,f3⟩;have f9:P4 (fun p=> -p.1) (P4 (fun p=> -max (p.1-r) (r-p.1)) j)≠[]:=Kq _ g6;have h8:0<m8:=by have:=RZ.2 f9;omega
    obtain⟨g2,g5⟩:=Xt6 f3 f7;clear f3 f7 f9;go_wp2;go_meet;exact⟨m8,_,Q0,h8,g5,g2,a8⟩
 obtain⟨m5,a5,i5,i6,h4,J,g7⟩:=hcut;obtain⟨q,l5,rfl⟩:∃q l5,a5=q::l5:=by
  cases a5 with
  |nil=>simp at h4;omega
  |cons q l5=>exact⟨q,l5,rfl⟩
 have g0:=J.row;obtain⟨x0,x1,x2⟩:=TW g0 (i:=0) Q3;simp only[List.getElem_cons_zero,Nat.zero_mul,Nat.zero_add]at x0 x1 x2;have y7:=J.y7;have h3:=J.near q Q3;have HQ:Hid (ZM ps r=(q.1,Y7 q,q.2.1-q.2.2)):=J6 (by rw[e5.out,g7.out];rfl);obtain⟨D,u,p5⟩:=q;dsimp only at x0 x1 x2;have i7:(0:Int)<(m5:Int):=Q0;have e9:Bz wc (wc.alloc (.cells #[I O D,I O u,I O p5] 323)):=Q5.alloc Q2 _;obtain⟨C,HZ⟩:=Xt6 (J.keep e9) (Z5 wc 323 #[I O D,I O u,I O p5]);have j1:=J.below.size;have j2:=Z9 J.quote;have E:=J6 J;obtain⟨⟨b1,b2⟩,⟨b3,b4⟩,⟨b5,b6⟩⟩:=h3;dsimp only at b1 b2 b3 b4 b5 b6;clear g0 J e9;have z0:(wc.alloc (.cells #[I O D,I O u,I O p5] 323)).drew.cell? ⟨wc.heap.size,0,none⟩=some (I O D):=by rw[X9 (Y6 HZ)];rfl
 have z1:(wc.alloc (.cells #[I O D,I O u,I O p5] 323)).drew.cell? ⟨wc.heap.size,1,none⟩=some (I O u):=by rw[X9 (Y6 HZ)];rfl
 have z2:(wc.alloc (.cells #[I O D,I O u,I O p5] 323)).drew.cell? ⟨wc.heap.size,2,none⟩=some (I O p5):=by rw[X9 (Y6 HZ)];rfl
 have hq:=(C.keep (Q5.drew)).q;have y:=By (D,u,p5);unfold QW at y;dsimp only at y;obtain⟨t5,e8⟩:∃t,Hid (Y7 (D,u,p5)=t):=⟨_,J6 rfl⟩;rw[e8.out]at y;have g8:=J6 y;have j3:IntKind.i64.wrap (u-p5)=u-p5:=IntWalk.i64_in _ Q0;clear y;go_wp2_with fail
 clear x0 x1 x2 y7
 go_region_held3 (fun w'=>(w'.cell? ⟨wc.heap.size,0,none⟩=some (I O D)/\w'.cell? ⟨wc.heap.size,1,none⟩=some (I O u)/\w'.cell? ⟨wc.heap.size,2,none⟩=some (I O p5))/\(w'.cell? ⟨w.heap.size+1,0,none⟩=some (FZ w' ⟨w.heap.size+1,0,none⟩)/\w'.cell? ⟨w.heap.size+1,1,none⟩=some (FZ w' ⟨w.heap.size+1,1,none⟩)/\w'.cell? ⟨w.heap.size+1,2,none⟩=some (FZ w' ⟨w.heap.size+1,2,none⟩))/\w'.frozen? ⟨w.heap.size+1,0,none⟩=false/\w'.frozen? ⟨w.heap.size+1,1,none⟩=false/\w'.frozen? ⟨w.heap.size+1,2,none⟩=false)
  (first|exact⟨⟨z0,z1,z2⟩,⟨MV hq.1,MV hq.2.1,MV hq.2.2.1⟩,hq.2.2.2⟩|assumption|exact Qg9 (g:=wc.heap.size) (B:=w.heap.size+1) f0 J1|exact Qz (g:=wc.heap.size) (B:=w.heap.size+1) Q0 2 _ (Qz Q0 1 _ (Qz Q0 0 _ J1)))
  ((go_at_call 238;refine(g8 _).mono ?_;rintro e w9⟨rfl,f0⟩))
 go_wp2_with fail
 try simp only[Exit.inBlock,Exit.then]
 have e2:=(C.keep (Q5.drew)).keep f0;refine Ca (g:=w.heap.size+1) (cs:= #[I O D,I O t5,I O (u-p5)]) Q6 Q6 (Z0 (Z0 (Z0 e2.quote 0 _) 1 _) 2 _) rfl ?_;refine⟨?_,((e2.below.setCell Q3 _).setCell Q3 _).setCell Q3 _⟩;rw[HQ.out,<-e8.out]
 rfl
