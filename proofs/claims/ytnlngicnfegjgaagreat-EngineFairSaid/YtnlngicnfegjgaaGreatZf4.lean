/- Contracts and walks that the law's proof needs. -/
import Derived.Test.YtnlngicnfegjgaaGreatZf1
import Derived.Lib.SlKeysI
set_option linter.unusedVariables false
set_option maxRecDepth 100000
set_option maxHeartbeats 8000000
namespace Go.Proofs.YtnlngicnfegjgaaGreat
open Go.RowKit
def okO (o:QX):Bool:=(decide (1≤o.qty) &&decide (o.qty≤1000000)) && (o.side ==1 ||o.side ==2)
def Jb7 (p:Int) (o:QX):Int:=if o.side=1∧(o.kind=2∨p≤o.price)then o.qty else 0
def Jb8 (p:Int) (o:QX):Int:=if o.side=2∧(o.kind=2∨o.price≤p)then o.qty else 0
def Qo5 (p:Int) (l:List QX):Int:=l.foldl (fun s o=>s+Jb7 p o) 0
def Qo6 (p:Int) (l:List QX):Int:=l.foldl (fun s o=>s+Jb8 p o) 0
def Qn4 (l:List QX):List QX:=l.filter okO
def V9 (l:List QX) (more:Int):List Int:=(if 1≤more then [more]else [])++((Qn4 l).filter (fun o=> !(o.kind ==2))).map (·.price)
def ddF (s:List Int×Option Int) (p:Int):List Int×Option Int:=if s.2=some p then s else(s.1++ [p],some p)
def ddS (l:List Int):List Int×Option Int:=l.foldl ddF ([],none)
def dd (l:List Int):List Int:=(ddS l).1
theorem Xz5 (l:List Int): ∀(acc:List Int) (o:Option Int),acc.Pairwise (· < ·)→(∀x∈acc,∀y∈l,x≤y)→(∀y,o=some y→y∈acc∧ ∀x∈acc,x≤y)→(o=none→acc= [])→l.Pairwise (· ≤ ·)→
  (l.foldl ddF (acc,o)).1.Pairwise (· < ·)∧ ∀x,x∈(l.foldl ddF (acc,o)).1↔x∈acc∨x∈l:=by
 induction l with
 |nil=>intro acc o h1 h2 h3 h4 h5;exact⟨h1,fun x=>by simp⟩
 |cons a l ih=>
  intro acc o h1 h2 h3 h4 h5;rw[List.foldl_cons];rw[List.pairwise_cons]at h5
  by_cases ho:o=some a
  ·have e:ddF (acc,o) a=(acc,o):=by unfold ddF;rw[if_pos ho]
   rw[e];obtain⟨g1,g2⟩:=ih acc o h1 (fun x hx y hy=>h2 x hx y (by simp[hy])) h3 h4 h5.2;refine⟨g1,fun x=> ?_⟩;rw[g2];have:=(h3 a ho).1;constructor
   ·rintro(h|h)
    ·exact .inl h
    ·exact .inr (by simp[h])
   ·rintro(h|h)
    ·exact .inl h
    ·rcases List.mem_cons.1 h with rfl|h
     ·exact .inl this
     ·exact .inr h
  ·have e:ddF (acc,o) a=(acc++ [a],some a):=by unfold ddF;rw[if_neg ho]
   rw[e];have hlt: ∀x∈acc,x<a:=by
    intro x hx
    cases o with
    |none=>rw[h4 rfl]at hx;cases hx
    |some y=>
     obtain⟨k1,k2⟩:=h3 y rfl;have h6:=h2 y k1 a (by simp);have h7:=k2 x hx;have h8:y≠a:=fun e=>ho (by rw[e])
     omega
   obtain⟨g1,g2⟩:=ih (acc++ [a]) (some a) (List.pairwise_append.2 ⟨h1,List.pairwise_singleton _ _,fun x hx y hy=>by simp at hy;subst hy;exact hlt x hx⟩)
    (fun x hx y hy=>by
     rcases List.mem_append.1 hx with hx|hx
     ·exact h2 x hx y (by simp[hy])
     ·simp at hx;subst hx;exact h5.1 y hy)
    (fun y hy=>by
     cases hy;exact⟨by simp,fun x hx=>by
      rcases List.mem_append.1 hx with hx|hx
      ·exact Int.le_of_lt (hlt x hx)
      ·simp at hx;omega⟩)
    (fun h=>by cases h) h5.2
   refine⟨g1,fun x=> ?_⟩;rw[g2];simp[or_assoc]
theorem Kd3 (L ss:List Int) (hnd:ss.Nodup) (hm: ∀x,x∈ss↔x∈L):dd (L.mergeSort fun x y=>decide (x≤y))=ss.mergeSort fun x y=>decide (x≤y):=by
 have tr: ∀a b c:Int,(decide (a≤b))=true→(decide (b≤c))=true→(decide (a≤c))=true:=fun a b c h1 h2=>by simp at*;omega
 have tot: ∀a b:Int,(decide (a≤b) ||decide (b≤a))=true:=fun a b=>by simp;omega
 have hs:=List.pairwise_mergeSort tr tot L
 have hs':(L.mergeSort fun x y=>decide (x≤y)).Pairwise (· ≤ ·):=hs.imp (fun h=>by simpa using h)
 obtain⟨g1,g2⟩:=Xz5 (L.mergeSort fun x y=>decide (x≤y)) [] none List.Pairwise.nil (fun x hx=>by cases hx) (fun y h=>by cases h) (fun _=>rfl) hs'
 have hmem: ∀x,x∈dd (L.mergeSort fun x y=>decide (x≤y))↔x∈L:=fun x=>by
  show x∈(List.foldl ddF ([],none) _).1↔_;rw[g2];simp[List.mem_mergeSort]
 have hnd2:(dd (L.mergeSort fun x y=>decide (x≤y))).Nodup:=g1.imp (fun h=>by omega)
 refine List.Perm.eq_of_pairwise (le:=fun a b=>a≤b) (fun a b _ _ h1 h2=>by omega) (g1.imp (fun h=>by omega)) ((List.pairwise_mergeSort tr tot ss).imp (fun h=>by simpa using h)) ?_
 refine List.Perm.trans ?_ (List.mergeSort_perm ss _).symm
 exact(List.perm_ext_iff_of_nodup hnd2 hnd).2 fun x=>(hmem x).trans (hm x).symm
def Qz1 (g:List QX) (p:Int):XJ:=(p,Qo5 p g,Qo6 p g)
def Z9 (l:List QX) (more:Int):List XJ:=(dd ((V9 l more).mergeSort fun x y=>decide (x≤y))).map (Qz1 (Qn4 l))
theorem Jp6 (F:QX→Int) (l:List QX) (hF: ∀o∈l,0≤F o∧F o≤1000000): ∀s:Int,0≤s→0≤l.foldl (fun s o=>s+F o) s∧l.foldl (fun s o=>s+F o) s≤s+1000000*l.length:=by
 induction l with
 |nil=>intro s hs;simp;omega
 |cons a l ih=>
  intro s hs;have h1:=hF a (by simp);have h2:=ih (fun o ho=>hF o (by simp[ho])) (s+F a) (by omega);rw[List.foldl_cons,List.length_cons];refine⟨h2.1,Int.le_trans h2.2 ?_⟩
  push_cast
  omega
theorem Qz2 {o:QX} (h:okO o=true):1≤o.qty∧o.qty≤1000000:=by unfold okO at h;simp at h;exact h.1
theorem Xs0 {p:Int} {o:QX} (h:okO o=true):0≤Jb7 p o∧Jb7 p o≤1000000:=by
 have:=Qz2 h
 unfold Jb7
 split<;>omega
theorem Xs1 {p:Int} {o:QX} (h:okO o=true):0≤Jb8 p o∧Jb8 p o≤1000000:=by
 have:=Qz2 h
 unfold Jb8
 split<;>omega
theorem Xs2 {p:Int} {l:List QX} (h: ∀o∈l,okO o=true):0≤Qo5 p l∧Qo5 p l≤1000000*l.length:=by
 have:=Jp6 (Jb7 p) l (fun o ho=>Xs0 (h o ho)) 0 (Int.le_refl _)
 unfold Qo5
 omega
theorem Xs3 {p:Int} {l:List QX} (h: ∀o∈l,okO o=true):0≤Qo6 p l∧Qo6 p l≤1000000*l.length:=by
 have:=Jp6 (Jb8 p) l (fun o ho=>Xs1 (h o ho)) 0 (Int.le_refl _)
 unfold Qo6
 omega
theorem Xj0 {l:List QX}: ∀o∈Qn4 l,okO o=true:=fun o ho=>(List.mem_filter.1 ho).2
theorem Kw2 (l:List Int): ∀s:List Int×Option Int,(l.foldl ddF s).1.length≤s.1.length+l.length:=by
 induction l with
 |nil=>intro s;simp
 |cons a l ih=>
  intro s;rw[List.foldl_cons];refine Nat.le_trans (ih _) ?_;unfold ddF
  split<;>simp<;>omega
theorem Xs4 (l:List QX) (more:Int):(Z9 l more).length≤l.length+1:=by
 unfold Z9
 rw[List.length_map]
 have h1:=Kw2 ((V9 l more).mergeSort fun x y=>decide (x≤y)) ([],none)
 rw[List.length_mergeSort]at h1
 have h2:(V9 l more).length≤l.length+1:=by
  unfold V9;rw[List.length_append,List.length_map];have h3:=List.length_filter_le (fun o:QX=> !(o.kind ==2)) (Qn4 l);have h4:(Qn4 l).length≤l.length:=List.length_filter_le okO l;have h5:(if 1≤more then [more]else []).length≤1:=by split<;>simp
  omega
 simp only[List.length_nil,Nat.zero_add]at h1
 exact Nat.le_trans h1 h2
theorem Xs5 (L:List Int) (x:Int):x∈dd (L.mergeSort fun x y=>decide (x≤y))↔x∈L:=by
 have tr: ∀a b c:Int,(decide (a≤b))=true→(decide (b≤c))=true→(decide (a≤c))=true:=fun a b c h1 h2=>by simp at*;omega
 have tot: ∀a b:Int,(decide (a≤b) ||decide (b≤a))=true:=fun a b=>by simp;omega
 have hs':(L.mergeSort fun x y=>decide (x≤y)).Pairwise (· ≤ ·):=(List.pairwise_mergeSort tr tot L).imp (fun h=>by simpa using h)
 obtain⟨_,g2⟩:=Xz5 (L.mergeSort fun x y=>decide (x≤y)) [] none List.Pairwise.nil (fun x hx=>by cases hx) (fun y h=>by cases h) (fun _=>rfl) hs'
 show x∈(List.foldl ddF ([],none) _).1↔_
 rw[g2]
 simp[List.mem_mergeSort]
def Ja5 (l:List QX):Prop:= ∀o∈l,okO o=true
theorem Qp8 {l:List QX} (h:Ja5 l):Qn4 l=l:=List.filter_eq_self.2 h
theorem Jp7 {l:List QX} {more:Int} (h:Ja5 l) {o:QX} (ho:o∈l) (hk: ¬o.kind=2):o.price∈V9 l more:=by
 unfold V9
 rw[Qp8 h]
 refine List.mem_append.2 (.inr (List.mem_map.2 ⟨o,List.mem_filter.2 ⟨ho,by simp[hk]⟩,rfl⟩))
end Go.Proofs.YtnlngicnfegjgaaGreat
