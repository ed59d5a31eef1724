/- Contracts and walks that the law's proof needs. -/
import Derived.Test.YtnlngicnfegjgaaGreatZf29
import Derived.Test.YtnlngicnfegjgaaGreatZf30
import Derived.Test.YtnlngicnfegjgaaGreatZf19
import Derived.Test.YtnlngicnfegjgaaGreatZf4
set_option linter.unusedVariables false
set_option maxRecDepth 100000
set_option maxHeartbeats 8000000
namespace Go.Proofs.YtnlngicnfegjgaaGreat
open Go.RowKit
section
variable {w w':World} {b a r:Nat} {F:Nat→Prop} {M:Int→Int→Option QX} {n:Nat} {f:Int→Option Value} {H:Int→HS} {s:Int}
theorem Xw8 (S:KY M n f H) {x:HO} {s':Int} (hs:VV s) (hs':VV s') (hx:x∈(H s).all) (hne:s'≠s):O6 (H s').L x.2.id=(H s').L:=by
 rw[←S.filter_id (OZ hs hx) hs',S.filter_other hs hs' hx hne]
 rfl
theorem Kt9 {G:Nat→Prop} (S:KY M n f H) {x:HO} (hs:VV s) (hx:x∈(H s).all) (hG: ∀i,G i↔U0 b r F H i) (h:Qi8 w w' b a r F n H s x.2.id):Qj8 w w' b G (O6 (H 1).L x.2.id) (O6 (H 2).L x.2.id):=by
 obtain⟨F',M',f',H',reg',hM,hS,hB,hL,hO⟩:=h
 have key: ∀s',VV s'→O6 (H s').L x.2.id=(H' s').L:=by
  intro s' hs'
  by_cases e:s'=s
  ·subst e;exact hL.symm
  ·rw[hO s' e];exact Xw8 S hs hs' hx e
 refine⟨U0 b r F' H',⟨a,F',M',n-1,r,f',H',reg',hM,hS,fun i=>Iff.rfl,key 1 (.inl rfl),key 2 (.inr rfl)⟩,hB.1.mono (fun i hi=>(hG i).2 hi),fun i hi=>(hB.2 i hi).imp (fun h=>(hG i).2 h) id⟩
theorem Qz9 (S:KY M n f H) {x:HO} (hx:x∈X4 H):Qb3 ((H 1).L++(H 2).L) x.2.id=some x.2:=by
 have e:(H 1).L++(H 2).L=IW (X4 H):=(V2 _ _).symm
 rw[e]
 unfold Qb3
 cases hf:(IW (X4 H)).find? (fun o=>o.id ==x.2.id)with
 |none=>
  rw[List.find?_eq_none]at hf;have:=hf x.2 (List.mem_map.2 ⟨x,hx,rfl⟩);simp at this
 |some o=>
  have h1:=List.mem_of_find?_eq_some hf;obtain⟨y,hy,rfl⟩:=List.mem_map.1 h1;have h2:=List.find?_some hf;have h3:y.2.id=x.2.id:=by simpa using h2
  rw[S.same_id hy hx h3]
theorem Ja0 (S:KY M n f H) {id:Int} (h:f id=none):Qb3 ((H 1).L++(H 2).L) id=none:=by
 have e:(H 1).L++(H 2).L=IW (X4 H):=(V2 _ _).symm
 rw[e]
 unfold Qb3
 rw[List.find?_eq_none]
 intro o ho
 obtain⟨y,hy,rfl⟩:=List.mem_map.1 ho
 have:=S.none_.1 h y hy
 simpa using this
end
def Jt5 (w:World) (b:Nat) (G:Nat→Prop) (L1 L2:List QX) (id:Int) (e:Ending) (w':World):Prop:=
 (Qb3 (L1++L2) id=none∧e= .returned (.tuple #[.agg #[.int .i64 0,.int .i64 0,.int .i64 0,.int .i64 0,.int .i64 0],YZ 7])∧Below w.heap.size w w')∨
 (∃o,Qb3 (L1++L2) id=some o∧e= .returned (.tuple #[KQ o,YZ 0])∧Qj8 w w' b G (O6 L1 id) (O6 L2 id))
theorem Qg1 (w:World) (b:Nat) (G:Nat→Prop) (L1 L2:List QX) (h:Q1 w b G L1 L2) (id:Int):
  Calls Tryz.prog 49 #[.pointer (some ⟨b,0,none⟩),.int .i64 id] w (Jt5 w b G L1 L2 id):=by
 obtain⟨a,F,M,n,r,f,H,reg,hM,hS,hG,rfl,rfl⟩:=h
 have hn:=hM.ar.le
 cases hf:f id with
 |none=>
  refine(Jt4 w b a F M n r f H reg hM id hf).mono ?_;rintro e w' ⟨rfl,hb⟩;exact .inl ⟨Ja0 hS hf,rfl,hb⟩
 |some v=>
  obtain⟨x,hx,rfl⟩:=hS.hk id v hf;obtain⟨hs,hxs⟩:=hS.side_mem hx;have fin: ∀s,VV s→x∈(H s).all→ ∀e w',(e= .returned (.tuple #[KQ x.2,YZ 0])∧Qi8 w w' b a r F n H s x.2.id)→Jt5 w b G (H 1).L (H 2).L x.2.id e w':=by
   rintro s hs hxs e w' ⟨rfl,hl⟩;exact .inr ⟨x.2,Qz9 hS hx,rfl,Kt9 hS hs hxs hG hl⟩
  generalize x.2.side=s at hs hxs;rcases hs with rfl|rfl
  ·rcases hS.where_ KX hxs with⟨hk,_⟩|⟨hk,k,hkl,hxk,hpk⟩
   ·exact(Kh1 w b a F M n r f H reg hM hS x hxs hk hn).mono (fin 1 KX hxs)
   ·exact(Kh2 w b a F M n r f H reg hM hS x hxs hk hn k hkl hxk hpk).mono (fin 1 KX hxs)
  ·rcases hS.where_ KK hxs with⟨hk,_⟩|⟨hk,k,hkl,hxk,hpk⟩
   ·exact(Kh3 w b a F M n r f H reg hM hS x hxs hk hn).mono (fin 2 KK hxs)
   ·exact(Kh4 w b a F M n r f H reg hM hS x hxs hk hn k hkl hxk hpk).mono (fin 2 KK hxs)
def Qk8 (L1 L2:List QX) (o:QX):Int:=
 if Ja3 o=false then 1 else if Qq5 o=false then 2 else if(Qb3 (L1++L2) o.id).isSome=true then 9 else if L1.length+L2.length=100 then 12 else 0
def Qc0 (s:Int) (L:List QX) (o:QX):List QX:=if o.side=s then Qr9 s L (JJ o)else L
def Jp2 (w:World) (b:Nat) (G:Nat→Prop) (L1 L2:List QX) (o:QX) (e:Ending) (w':World):Prop:=
 (Qk8 L1 L2 o≠0∧e= .returned (YZ (Qk8 L1 L2 o))∧Below w.heap.size w w')∨
 (Qk8 L1 L2 o=0∧e= .returned (YZ 0)∧Qj8 w w' b G (Qc0 1 L1 o) (Qc0 2 L2 o))
theorem Kx4 {w w':World} {b a r:Nat} {F G:Nat→Prop} {n:Nat} {H:Int→HS} {o:QX} (hs:VV o.side) (hG: ∀i,G i↔U0 b r F H i) (h:Qo0 w w' b a r F n H (JJ o)):Qj8 w w' b G (Qc0 1 (H 1).L o) (Qc0 2 (H 2).L o):=by
 obtain⟨F',M',f',H',reg',hM,hS,hB,hL,hO⟩:=h
 have es:(JJ o).side=o.side:=rfl
 rw[es]at hL hO
 have key: ∀s',VV s'→Qc0 s' (H s').L o=(H' s').L:=by
  intro s' hs';unfold Qc0
  by_cases e:o.side=s'
  ·rw[if_pos e];rw[e]at hL;exact hL.symm
  ·rw[if_neg e,hO s' (fun e'=>e e'.symm)]
 refine⟨U0 b r F' H',⟨a,F',M',n+1,r,f',H',reg',hM,hS,fun i=>Iff.rfl,key 1 (.inl rfl),key 2 (.inr rfl)⟩,hB.1.mono (fun i hi=>(hG i).2 hi),fun i hi=>(hB.2 i hi).imp (fun h=>(hG i).2 h) id⟩
def Kx5 (L1 L2:List QX) (o:QX):List QX×List QX:=if Qk8 L1 L2 o=0 then(Qc0 1 L1 o,Qc0 2 L2 o)else(L1,L2)
theorem Qj8.of_below {w w':World} {b:Nat} {G:Nat→Prop} {L1 L2:List QX} (h:Q1 w b G L1 L2) (hb:Below w.heap.size w w'):Qj8 w w' b G L1 L2:=⟨G,h.below hb,XW.of_below hb⟩
theorem Jp2.to {w w':World} {b:Nat} {G:Nat→Prop} {L1 L2:List QX} {o:QX} {e:Ending} (h:Q1 w b G L1 L2) (hp:Jp2 w b G L1 L2 o e w'):e= .returned (YZ (Qk8 L1 L2 o))∧Qj8 w w' b G (Kx5 L1 L2 o).1 (Kx5 L1 L2 o).2:=by
 unfold Kx5
 rcases hp with⟨h0,h1,h2⟩|⟨h0,h1,h2⟩
 ·rw[if_neg h0];exact⟨h1,Qj8.of_below h h2⟩
 ·rw[if_pos h0,h0];exact⟨h1,h2⟩
def O2 (s p:Int) (o:QX):Bool:=(o.kind ==2) || ((s ==1) &&decide (p≤o.price)) || ((s ==2) &&decide (o.price≤p))
def Qt0 (s:Int) (a b:QX):Prop:= ∀p,O2 s p b=true→O2 s p a=true
def Qg2 (s:Int) (L:List QX):Prop:=L.Pairwise (Qt0 s)
theorem Qt0.trans {s:Int} {a b c:QX} (h:Qt0 s a b) (k:Qt0 s b c):Qt0 s a c:=fun p hp=>h p (k p hp)
theorem Kh5 {s:Int} (hs:VV s) {o x:QX} (h:I9 s o x=true):Qt0 s x o:=by
 intro p hp
 unfold I9 Qi5 at h
 unfold O2 at hp⊢
 rcases hs with rfl|rfl
 ·simp at h hp⊢
  omega
 ·simp at h hp⊢
  omega
theorem Ko7 {s:Int} (hs:VV s) {o x:QX} (h:I9 s o x=false):Qt0 s o x:=by
 intro p hp
 unfold I9 Qi5 at h
 unfold O2 at hp⊢
 rcases hs with rfl|rfl
 ·simp at h hp⊢
  omega
 ·simp at h hp⊢
  omega
theorem Jb0 {α:Type} {q:α→Bool}: ∀ {l:List α} {a:α},a∈l.takeWhile q→q a=true
 | [],_,h=>by simp at h
 |b::l,a,h=>by
  rw[List.takeWhile_cons]at h
  split at h
  ·rename_i hq
   rcases List.mem_cons.1 h with rfl|h
   ·exact hq
   ·exact Jb0 h
  ·cases h
theorem Qx5 {α:Type} {q:α→Bool}: ∀ {l:List α} {d:α} {r:List α},l.dropWhile q=d::r→q d=false
 | [],_,_,h=>by simp at h
 |a::l,d,r,h=>by
  rw[List.dropWhile_cons]at h
  split at h
  ·exact Qx5 h
  ·rename_i hq
   cases h;simpa using hq
theorem Qt1 {s:Int} (hs:VV s) {L:List QX} (h:Qg2 s L) (o:QX):Qg2 s (Qr9 s L o):=by
 unfold Qr9 Qg2 at*
 have hsp:L.takeWhile (I9 s o)++L.dropWhile (I9 s o)=L:=List.takeWhile_append_dropWhile
 rw[←hsp,List.pairwise_append]at h
 obtain⟨h1,h2,h3⟩:=h
 have hyes: ∀a∈L.takeWhile (I9 s o),Qt0 s a o:=fun a ha=>Kh5 hs (Jb0 ha)
 have hno: ∀b∈L.dropWhile (I9 s o),Qt0 s o b:=by
  cases hd:L.dropWhile (I9 s o)with
  |nil=>intro b hb;cases hb
  |cons d r=>
   have hdn:=Ko7 hs (Qx5 hd);rw[hd]at h2;intro b hb;rcases List.mem_cons.1 hb with rfl|hb
   ·exact hdn
   ·exact hdn.trans ((List.pairwise_cons.1 h2).1 b hb)
 rw[List.pairwise_append]
 refine⟨h1,List.pairwise_cons.2 ⟨hno,h2⟩,fun a ha b hb=> ?_⟩
 rcases List.mem_cons.1 hb with rfl|hb
 ·exact hyes a ha
 ·exact h3 a ha b hb
def Qb4 (f:QX→Int):List QX→Int
 | []=>0
 |o::l=>f o+Qb4 f l
theorem Qx6 {f:QX→Int} (l l':List QX):Qb4 f (l++l')=Qb4 f l+Qb4 f l':=by
 induction l with
 |nil=>simp[Qb4]
 |cons a l ih=>simp only[List.cons_append,Qb4,ih];omega
theorem Jt6 (f:QX→Int) (l:List QX): ∀s:Int,l.foldl (fun s o=>s+f o) s=s+Qb4 f l:=by
 induction l with
 |nil=>intro s;simp[Qb4]
 |cons a l ih=>intro s;rw[List.foldl_cons,ih];simp only[Qb4];omega
theorem Jt7 {f g:QX→Int} {l:List QX} (h: ∀o∈l,f o=g o):Qb4 f l=Qb4 g l:=by
 induction l with
 |nil=>rfl
 |cons a l ih=>simp only[Qb4];rw[h a (by simp),ih (fun o ho=>h o (by simp[ho]))]
theorem Xa9 {f:QX→Int} {l:List QX} (h: ∀o∈l,f o=0):Qb4 f l=0:=by
 induction l with
 |nil=>rfl
 |cons a l ih=>simp only[Qb4];rw[h a (by simp),ih (fun o ho=>h o (by simp[ho]))];rfl
theorem Jn1 {f:QX→Int} {l:List QX} (h: ∀o∈l,0≤f o):0≤Qb4 f l:=by
 induction l with
 |nil=>simp[Qb4]
 |cons a l ih=>
  have h1:=h a (by simp);have h2:=ih (fun o ho=>h o (by simp[ho]));simp only[Qb4];omega
theorem Ku0 {f g:QX→Int} {l:List QX} (h: ∀o∈l,f o≤g o):Qb4 f l≤Qb4 g l:=by
 induction l with
 |nil=>simp[Qb4]
 |cons a l ih=>
  have h1:=h a (by simp);have h2:=ih (fun o ho=>h o (by simp[ho]));simp only[Qb4];omega
theorem Ko8 {f:QX→Int} {l:List QX} (h: ∀o∈l,0≤f o) {x:QX} (hx:x∈l):f x≤Qb4 f l:=by
 induction l with
 |nil=>cases hx
 |cons a l ih=>
  have h1:=h a (by simp);have h2:=Jn1 (fun o ho=>h o (by simp[ho]): ∀o∈l,0≤f o);simp only[Qb4];rcases List.mem_cons.1 hx with rfl|hx
  ·omega
  ·have:=ih (fun o ho=>h o (by simp[ho])) hx
   omega
def V7 (s p:Int) (L:List QX):Int:=Qb4 (fun o=>if O2 s p o=true then o.qty else 0) L
def Jx7 (L:List QX):Int:=Qb4 (fun o=>o.qty) L
def ZZ:List QX→Int→List QX
 | [],_=> []
 |o::t,a=>if a≤0 then o::t else if o.qty≤a then ZZ t (a-o.qty)else U9 o a::t
def Qt2 (a q:Int):Int:=if a≤0 then 0 else if a<q then a else q
def Y8:List QX→Int→Int→Int
 | [],_,_=>0
 |o::t,a,id=>if o.id=id then Qt2 a o.qty else Y8 t (a-o.qty) id
theorem Qh7 (L:List QX) {a:Int} (h:a≤0):ZZ L a=L:=by
 cases L with
 |nil=>rfl
 |cons o t=>unfold ZZ;rw[if_pos h]
theorem Y1 (id:Int): ∀(L:List QX) {a:Int},a≤0→(∀o∈L,1≤o.qty)→Y8 L a id=0
 | [],_,_,_=>rfl
 |o::t,a,h,hq=>by
  unfold Y8;have h1:=hq o (by simp)
  split
  ·unfold Qt2;rw[if_pos h]
  ·exact Y1 id t (by omega) (fun o ho=>hq o (by simp[ho]))
theorem Qq8 {x:QX}: ∀ {L:List QX} {a:Int},x∈ZZ L a→ ∃o∈L,o.id=x.id∧o.side=x.side∧o.kind=x.kind∧o.price=x.price∧x.qty≤o.qty
 | [],_,h=>by cases h
 |o::t,a,h=>by
  unfold ZZ at h
  split at h
  ·exact⟨x,h,rfl,rfl,rfl,rfl,Int.le_refl _⟩
  ·split at h
   ·obtain⟨y,hy,h1⟩:=Qq8 h
    exact⟨y,List.mem_cons_of_mem _ hy,h1⟩
   ·rcases List.mem_cons.1 h with rfl|h
    ·exact⟨o,by simp,rfl,rfl,rfl,rfl,by unfold U9;dsimp only;omega⟩
    ·exact⟨x,List.mem_cons_of_mem _ h,rfl,rfl,rfl,rfl,Int.le_refl _⟩
theorem Jt8: ∀ {L:List QX} {a:Int},0≤a→a<Jx7 L→ZZ L a≠ []
 | [],a,h0,h=>by simp[Jx7,Qb4]at h;omega
 |o::t,a,h0,h=>by
  have e:Jx7 (o::t)=o.qty+Jx7 t:=rfl;unfold ZZ
  split
  ·simp
  ·split
   ·exact Jt8 (by omega) (by omega)
   ·simp
theorem Jc8 {x:QX} {t:List QX} {n:Int}: ∀ {L:List QX} {a:Int},(∀o∈L,1≤o.qty)→0≤a→ZZ L a=x::t→1≤n→n≤x.qty→(if n=x.qty then t else U9 x n::t)=ZZ L (a+n)
 | [],a,_,_,h,_,_=>by simp[ZZ]at h
 |o::s,a,hq,h0,h,h1,h2=>by
  have ho:=hq o (by simp);have hs: ∀o∈s,1≤o.qty:=fun y hy=>hq y (by simp[hy])
  unfold ZZ at h
  by_cases ha:a≤0
  ·rw[if_pos ha]at h
   injection h with e1 e2
   subst e1;subst e2;unfold ZZ;rw[if_neg (show¬a+n≤0 by omega)]
   by_cases e:n=o.qty
   ·rw[if_pos e,if_pos (show o.qty≤a+n by omega),Qh7 _ (by omega)]
   ·rw[if_neg e,if_neg (show¬o.qty≤a+n by omega)]
    have:a+n=n:=by omega
    rw[this]
  ·rw[if_neg ha]at h
   by_cases hb:o.qty≤a
   ·rw[if_pos hb]at h
    have ih:=Jc8 hs (by omega) h h1 h2;rw[ih]
    conv=>rhs;unfold ZZ
    rw[if_neg (show¬a+n≤0 by omega),if_pos (show o.qty≤a+n by omega)]
    congr 1
    omega
   ·rw[if_neg hb]at h
    injection h with e1 e2
    subst e1;subst e2;have e3:(U9 o a).qty=o.qty-a:=rfl;rw[e3]at h2⊢
    conv=>rhs;unfold ZZ
    rw[if_neg (show¬a+n≤0 by omega)]
    by_cases e:n=o.qty-a
    ·rw[if_pos e,if_pos (show o.qty≤a+n by omega),Qh7 _ (by omega)]
    ·rw[if_neg e,if_neg (show¬o.qty≤a+n by omega)]
     have e4:U9 (U9 o a) n=U9 o (a+n):=by unfold U9;dsimp only;congr 1;omega
     rw[e4]
theorem Qx7 {x:QX} {t:List QX} {n:Int} (id:Int): ∀ {L:List QX} {a:Int},(∀o∈L,1≤o.qty)→(L.map (·.id)).Nodup→0≤a→ZZ L a=x::t→1≤n→n≤x.qty→
  Y8 L (a+n) id=Y8 L a id+ (if x.id=id then n else 0)
 | [],a,_,_,_,h,_,_=>by simp[ZZ]at h
 |o::s,a,hq,hn,h0,h,h1,h2=>by
  have ho:=hq o (by simp);have hs: ∀o∈s,1≤o.qty:=fun y hy=>hq y (by simp[hy])
  rw[List.map_cons,List.nodup_cons]at hn;unfold ZZ at h;unfold Y8
  by_cases ha:a≤0
  ·rw[if_pos ha]at h
   injection h with e1 e2
   subst e1
   by_cases e:o.id=id
   ·rw[if_pos e,if_pos e,if_pos e]
    unfold Qt2;rw[if_neg (by omega),if_pos ha]
    split<;>omega
   ·rw[if_neg e,if_neg e,if_neg e,Y1 id s (by omega) hs,Y1 id s (by omega) hs]
    rfl
  ·rw[if_neg ha]at h
   by_cases hb:o.qty≤a
   ·rw[if_pos hb]at h
    have hx:x.id≠o.id:=by
     intro e;have hm:x∈ZZ s (a-o.qty):=by rw[h];simp
     obtain⟨y,hy,hyi,_⟩:=Qq8 hm;exact hn.1 (List.mem_map.2 ⟨y,hy,hyi.trans e⟩)
    by_cases e:o.id=id
    ·rw[if_pos e,if_pos e,if_neg (by rw[←e];exact hx)]
     unfold Qt2;rw[if_neg (by omega),if_neg (by omega),if_neg (by omega),if_neg (by omega)];omega
    ·rw[if_neg e,if_neg e]
     have ih:=Qx7 id hs hn.2 (by omega) h h1 h2;rw[←ih]
     congr 1
     omega
   ·rw[if_neg hb]at h
    injection h with e1 e2
    subst e1;have e3:(U9 o a).qty=o.qty-a:=rfl;have e4:(U9 o a).id=o.id:=rfl;rw[e3]at h2;rw[e4]
    by_cases e:o.id=id
    ·rw[if_pos e,if_pos e,if_pos e]
     unfold Qt2;rw[if_neg (show¬a+n≤0 by omega),if_neg ha,if_pos (show a<o.qty by omega)]
     split<;>omega
    ·rw[if_neg e,if_neg e,if_neg e,Y1 id s (by omega) hs,Y1 id s (by omega) hs]
     rfl
theorem Kh6 {pre:List QX} {o:QX} {post:List QX}: ∀ {a:Int},((pre++o::post).map (·.id)).Nodup→Y8 (pre++o::post) a o.id=Qt2 (a-Jx7 pre) o.qty:=by
 induction pre with
 |nil=>
  intro a h;show Y8 (o::post) a o.id=Qt2 (a-0) o.qty;unfold Y8;rw[if_pos rfl]
  congr 1
  omega
 |cons y pre ih=>
  intro a h;rw[List.cons_append,List.map_cons,List.nodup_cons]at h;have hne:y.id≠o.id:=fun e=>h.1 (List.mem_map.2 ⟨o,by simp,e.symm⟩)
  show Y8 (y:: (pre++o::post)) a o.id=_;unfold Y8;rw[if_neg hne,ih h.2];have e:Jx7 (y::pre)=y.qty+Jx7 pre:=rfl;rw[e]
  congr 1
  omega
theorem Xg8 (s p:Int) (l l':List QX):V7 s p (l++l')=V7 s p l+V7 s p l':=Qx6 l l'
theorem Xb0 {s p:Int} {L:List QX} (h: ∀o∈L,1≤o.qty):V7 s p L≤Jx7 L:=by
 refine Ku0 fun o ho=> ?_
 have:=h o ho
 split<;>omega
theorem Jj7 {s p:Int} {x:QX}: ∀ {L:List QX} {a:Int},Qg2 s L→(∀o∈L,1≤o.qty)→x∈ZZ L a→O2 s p x=true→a+1≤V7 s p L
 | [],a,_,_,h,_=>by cases h
 |o::t,a,hr,hq,h,hw=>by
  have ho:=hq o (by simp);have ht: ∀o∈t,1≤o.qty:=fun y hy=>hq y (by simp[hy])
  have hr':=List.pairwise_cons.1 hr;have hnn: ∀l:List QX,(∀o∈l,1≤o.qty)→ ∀y∈l,0≤(if O2 s p y=true then y.qty else 0):=fun l hl y hy=>by
   have:=hl y hy
   split<;>omega
  have e:V7 s p (o::t)=(if O2 s p o=true then o.qty else 0)+V7 s p t:=rfl;have h0:0≤V7 s p t:=Jn1 (hnn t ht);unfold ZZ at h
  by_cases ha:a≤0
  ·rw[if_pos ha]at h
   have h1:=Ko8 (hnn (o::t) hq) h;rw[if_pos hw]at h1;have h2:=hq x h;show a+1≤Qb4 _ _;omega
  ·rw[if_neg ha]at h
   by_cases hb:o.qty≤a
   ·rw[if_pos hb]at h
    have ih:=Jj7 hr'.2 ht h hw;have hwo:O2 s p o=true:=by
     obtain⟨y,hy,h1,h2,h3,h4,h5⟩:=Qq8 h;refine hr'.1 y hy p ?_;unfold O2 at hw⊢;rw[h3,h4];exact hw
    rw[e,if_pos hwo];omega
   ·rw[if_neg hb]at h
    have hwo:O2 s p o=true:=by
     rcases List.mem_cons.1 h with rfl|h
     ·exact hw
     ·exact hr'.1 x h p hw
    rw[e,if_pos hwo];omega
structure JV where
 b:Int
 s:Int
 p:Int
 n:Int
def I2 (g:JV→Int):List JV→Int
 | []=>0
 |f::l=>g f+I2 g l
theorem Jj8 (g:JV→Int) (l:List JV) (f:JV):I2 g (l++ [f])=I2 g l+g f:=by
 induction l with
 |nil=>simp[I2]
 |cons a l ih=>simp only[List.cons_append,I2,ih];omega
structure Qk9 (L1 L2:List QX) (p a:Int) (F:List JV):Prop where
 one: ∀f∈F,f.p=p∧1≤f.n∧(∃o∈L1,o.id=f.b)∧(∃o∈L2,o.id=f.s)
 sum:I2 (·.n) F=a
 buy: ∀id,I2 (fun f=>if f.b=id then f.n else 0) F=Y8 L1 a id
 sell: ∀id,I2 (fun f=>if f.s=id then f.n else 0) F=Y8 L2 a id
 len:(F.length:Int)≤a
theorem Qk9.start {L1 L2:List QX} {p:Int} (h1: ∀o∈L1,1≤o.qty) (h2: ∀o∈L2,1≤o.qty):Qk9 L1 L2 p 0 []:=
 ⟨fun f hf=>(by cases hf),rfl,fun id=>(Y1 id L1 (Int.le_refl _) h1).symm,fun id=>(Y1 id L2 (Int.le_refl _) h2).symm,by simp⟩
theorem Qk9.step {L1 L2:List QX} {p a n:Int} {F:List JV} (h:Qk9 L1 L2 p a F) (h1: ∀o∈L1,1≤o.qty) (h2: ∀o∈L2,1≤o.qty) (d1:(L1.map (·.id)).Nodup) (d2:(L2.map (·.id)).Nodup) (h0:0≤a)
  {x y:QX} {t u:List QX} (hx:ZZ L1 a=x::t) (hy:ZZ L2 a=y::u) (hn:1≤n) (hnx:n≤x.qty) (hny:n≤y.qty):Qk9 L1 L2 p (a+n) (F++ [⟨x.id,y.id,p,n⟩]):=by
 refine⟨?_, ?_, ?_, ?_, ?_⟩
 ·intro f hf
  rcases List.mem_append.1 hf with hf|hf
  ·exact h.one f hf
  ·rw[List.mem_singleton]at hf
   subst hf;obtain⟨o,ho,e,_⟩:=Qq8 (show x∈ZZ L1 a by rw[hx];simp);obtain⟨o',ho',e',_⟩:=Qq8 (show y∈ZZ L2 a by rw[hy];simp);exact⟨rfl,hn,⟨o,ho,e⟩,o',ho',e'⟩
 ·rw[Jj8,h.sum]
 ·intro id
  rw[Jj8,h.buy,Qx7 id h1 d1 h0 hx hn hnx]
 ·intro id
  rw[Jj8,h.sell,Qx7 id h2 d2 h0 hy hn hny]
 ·have:=h.len
  rw[List.length_append];simp;omega
theorem Qq9 (s:Int) (L:List QX) (o:QX):(Qr9 s L o).Perm (o::L):=by
 unfold Qr9
 refine List.perm_middle.trans ?_
 rw[List.takeWhile_append_dropWhile]
structure Jn2 (x L1 L2:List QX):Prop where
 r1:Qg2 1 L1
 r2:Qg2 2 L2
 perm:(L1++L2).Perm (x.map JJ)
 s1: ∀o∈L1,o.side=1
 s2: ∀o∈L2,o.side=2
theorem Jn2.nil:Jn2 [] [] []:=⟨List.Pairwise.nil,List.Pairwise.nil,List.Perm.refl _,fun o h=>(by cases h),fun o h=>(by cases h)⟩
theorem Jn2.add {x L1 L2:List QX} (h:Jn2 x L1 L2) {o:QX} (hs:VV o.side):Jn2 (x++ [o]) (Qc0 1 L1 o) (Qc0 2 L2 o):=by
 rcases hs with hs|hs
 ·have e1:Qc0 1 L1 o=Qr9 1 L1 (JJ o):=by unfold Qc0;rw[if_pos hs]
  have e2:Qc0 2 L2 o=L2:=by unfold Qc0;rw[if_neg (by omega)]
  rw[e1,e2];refine⟨Qt1 (.inl rfl) h.r1 _,h.r2, ?_,fun y hy=> ?_,h.s2⟩
  ·rw[List.map_append]
   exact((Qq9 1 L1 (JJ o)).append_right L2).trans ((h.perm.cons (JJ o)).trans (List.perm_append_singleton _ _).symm)
  ·rcases Qq1.1 hy with rfl|hy
   ·exact hs
   ·exact h.s1 y hy
 ·have e1:Qc0 1 L1 o=L1:=by unfold Qc0;rw[if_neg (by omega)]
  have e2:Qc0 2 L2 o=Qr9 2 L2 (JJ o):=by unfold Qc0;rw[if_pos hs]
  rw[e1,e2];refine⟨h.r1,Qt1 (.inr rfl) h.r2 _, ?_,h.s1,fun y hy=> ?_⟩
  ·rw[List.map_append]
   exact((Qq9 2 L2 (JJ o)).append_left L1).trans (List.perm_middle.trans ((h.perm.cons (JJ o)).trans (List.perm_append_singleton _ _).symm))
  ·rcases Qq1.1 hy with rfl|hy
   ·exact hs
   ·exact h.s2 y hy
structure Kb2 (x:List QX):Prop where
 id: ∀i (h:i<x.length),x[i].id=i+1
 ok: ∀o∈x,okO o=true
 price: ∀o∈x,1≤o.price∧o.price≤60
 len:x.length≤60
theorem Jn2.of {x L1 L2:List QX} {k:Nat} (h:Jn2 (x.take k) L1 L2) {o:QX} (ho:o∈L1++L2): ∃i,∃hi:i<x.length,i<k∧o=JJ x[i]:=by
 obtain⟨y,hy,rfl⟩:=List.mem_map.1 (h.perm.mem_iff.1 ho)
 obtain⟨i,hi,rfl⟩:=List.mem_iff_getElem.1 hy
 rw[List.length_take]at hi
 exact⟨i,by omega,by omega,by rw[List.getElem_take]⟩
theorem Kb2.side {x:List QX} (h:Kb2 x) {o:QX} (ho:o∈x):VV o.side:=by
 have:=h.ok o ho
 unfold okO at this
 simp at this
 exact this.2
theorem Kb2.add {x L1 L2:List QX} {k:Nat} (h:Kb2 x) (hb:Jn2 (x.take k) L1 L2) (hk:k<x.length):Qk8 L1 L2 x[k]=0:=by
 have hm:x[k]∈x:=List.getElem_mem _
 have h1:Ja3 x[k]=true:=Qd9.2 ⟨h.side hm,by rw[h.id k hk];omega⟩
 have h2:Qq5 x[k]=true:=by
  have h3:=h.price _ hm;have h4:=h.ok _ hm;unfold okO at h4;simp at h4;unfold Qq5;rw[V4];refine⟨?_, ?_,h4.1.1,h4.1.2⟩
  ·unfold JJ;dsimp only;split<;>omega
  ·unfold JJ;dsimp only;split<;>omega
 have h3:Qb3 (L1++L2) x[k].id=none:=by
  unfold Qb3;rw[List.find?_eq_none];intro o ho;obtain⟨i,hi,hik,rfl⟩:=hb.of ho;have e1:(JJ x[i]).id=x[i].id:=rfl;have e2:=h.id i hi;have e3:=h.id k hk;rw[e1,e2,e3];simp;omega
 have h4:L1.length+L2.length=k:=by
  have:=hb.perm.length_eq;rw[List.length_append,List.length_map,List.length_take]at this;omega
 unfold Qk8
 rw[if_neg (by rw[h1];decide),if_neg (by rw[h2];decide),h3,if_neg (by decide),if_neg (by have:=h.len;omega)]
def Qg3 (id n:Int) (y:HO):HO:=if y.2.id=id then(y.1,U9 y.2 n)else y
def QG.cut (q:QG) (id n:Int):QG:=⟨q.price,q.A,q.c,q.os.map (Qg3 id n)⟩
def HS.cut (h:HS) (id n:Int):HS:=⟨h.mA,h.mc,h.qA,h.qc,h.ms.map (Qg3 id n),h.qs.map fun q=>q.cut id n⟩
section
variable {id k:Int}
theorem Ko9 (y:HO):(Qg3 id k y).1=y.1:=by unfold Qg3;split<;>rfl
theorem Jj9 (y:HO):(Qg3 id k y).2.id=y.2.id∧(Qg3 id k y).2.side=y.2.side∧(Qg3 id k y).2.kind=y.2.kind∧(Qg3 id k y).2.price=y.2.price:=by unfold Qg3;split<;>exact⟨rfl,rfl,rfl,rfl⟩
theorem Xw9 (y:HO):X5 (Qg3 id k y)=X5 y:=by
 obtain⟨_,h2,h3,h4⟩:=Jj9 (id:=id) (k:=k) y
 unfold X5
 rw[Ko9,h2,h3,h4]
theorem Xp0 (l:List HO):J8 (l.map (Qg3 id k))=J8 l:=by
 unfold J8
 rw[List.map_map]
 exact List.map_congr_left fun y _=>Ko9 y
theorem Kb3 (q:QG):(q.cut id k).que=q.que:=by unfold QG.cut QG.que;simp
theorem Kp0 (l:List HO):IW (l.map (Qg3 id k))=Xk5 (IW l) id k:=by
 unfold IW Xk5
 rw[List.map_map,List.map_map]
 refine List.map_congr_left fun y _=> ?_
 show(Qg3 id k y).2=if y.2.id=id then U9 y.2 k else y.2
 unfold Qg3
 split<;>rfl
theorem Kp1 (qs:List QG):IZ (qs.map fun q=>q.cut id k)=(IZ qs).map (Qg3 id k):=by
 induction qs with
 |nil=>rfl
 |cons q qs ih=>
  have e1:IZ (q::qs)=q.os++IZ qs:=rfl;have e2:IZ (List.map (fun q=>q.cut id k) (q::qs))=q.os.map (Qg3 id k)++IZ (qs.map fun q=>q.cut id k):=rfl;rw[e1,e2,ih,List.map_append]
theorem Xg9 (h:HS):(h.cut id k).all=h.all.map (Qg3 id k):=by
 show V3 _ _=List.map _ (V3 h.ms h.qs)
 unfold V3 HS.cut
 dsimp only
 rw[Kp1,List.map_append]
theorem Kv8 (h:HS):(h.cut id k).L=Xk5 h.L id k:=by
 unfold HS.L
 rw[Xg9,Kp0]
def Qm4 (H:Int→HS) (id k:Int):Int→HS:=fun s=>(H s).cut id k
theorem Jg6 (H:Int→HS):X4 (Qm4 H id k)=(X4 H).map (Qg3 id k):=by
 unfold X4 Qm4
 rw[Xg9,Xg9,List.map_append]
variable {w w':World} {b a n r:Nat} {F:Nat→Prop} {M:Int→Int→Option QX} {f:Int→Option Value} {H:Int→HS} {reg:Nat→Int}
theorem Qs4.recut {s:Int} {h:HS} (X:Qs4 w reg s h):Qs4 w reg s (h.cut id k):=by
 refine⟨?_, ?_, ?_,X.gm,X.gq, ?_, ?_⟩
 ·show QY w h.mA (h.ms.map (Qg3 id k)).length h.mc _ 2 (QW U3 (J8 (h.ms.map (Qg3 id k))))
  rw[List.length_map,Xp0];exact X.rm
 ·show QY w h.qA (h.qs.map fun q=>q.cut id k).length h.qc _ 2 (QW OX ((h.qs.map fun q=>q.cut id k).map QG.que))
  rw[List.length_map,List.map_map];have e:(QG.que∘fun q=>q.cut id k)=QG.que:=by funext q;exact Kb3 q
  rw[e];exact X.rq
 ·intro q hq
  obtain⟨q0,hq0,rfl⟩:=List.mem_map.1 hq;show QY w q0.A (q0.os.map (Qg3 id k)).length q0.c _ 2 (QW U3 (J8 (q0.os.map (Qg3 id k))));rw[List.length_map,Xp0];exact X.rl q0 hq0
 ·intro q hq
  obtain⟨q0,hq0,rfl⟩:=List.mem_map.1 hq;exact X.gl q0 hq0
 ·show((h.qs.map fun q=>q.cut id k).filterMap fun q=>QV q.A).Nodup
  rw[List.filterMap_map];exact X.nd
theorem Kb4 {h:HS} {i:Nat}:HFp (h.cut id k) i↔HFp h i:=by
 unfold HFp HS.cut
 dsimp only
 constructor
 ·rintro(h1|h1|⟨q,hq,h1⟩)
  ·exact .inl h1
  ·exact .inr (.inl h1)
  ·obtain⟨q0,hq0,rfl⟩:=List.mem_map.1 hq
   exact .inr (.inr ⟨q0,hq0,h1⟩)
 ·rintro(h1|h1|⟨q,hq,h1⟩)
  ·exact .inl h1
  ·exact .inr (.inl h1)
  ·exact .inr (.inr ⟨q.cut id k,List.mem_map.2 ⟨q,hq,rfl⟩,h1⟩)
theorem Ku1 {i:Nat}:U0 b r F (Qm4 H id k) i↔U0 b r F H i:=by
 unfold U0 Qm4
 rw[Kb4,Kb4]
theorem XX.recut (h:XX w b a F M n r f H reg):XX w b a F M n r f (Qm4 H id k) reg:=by
 refine⟨?_,h.ar,h.mp,fun s hs=>(h.hx s hs).recut,h.gb,h.gr,h.gF⟩
 have e:IK a r (Qm4 H id k)=IK a r H:=by
  unfold IK Qm4 HS.cut;simp
 rw[e]
 exact h.blk
theorem KY.cut (S:KY M n f H) {x:HO} (hx:x∈X4 H) (h1:1≤k) (h2:k<x.2.qty):KY (Z6 M x.1.1 x.1.2 (some (U9 x.2 k))) n f (Qm4 H x.2.id k):=by
 have hmem: ∀y,y∈X4 (Qm4 H x.2.id k)→ ∃y0∈X4 H,y=Qg3 x.2.id k y0:=by
  intro y hy;rw[Jg6]at hy;obtain⟨y0,h,rfl⟩:=List.mem_map.1 hy;exact⟨y0,h,rfl⟩
 refine⟨fun s hs=> ?_,fun s hs=> ?_, ?_, ?_, ?_, ?_, ?_, ?_⟩
 ·have X:=S.is s hs
  refine⟨?_, ?_, ?_⟩
  ·intro y hy
   obtain⟨y0,h,rfl⟩:=List.mem_map.1 hy;obtain⟨_,e2,e3,_⟩:=Jj9 (id:=x.2.id) (k:=k) y0;rw[e2,e3];exact X.mkt y0 h
  ·intro q hq y hy
   obtain⟨q0,hq0,rfl⟩:=List.mem_map.1 hq;obtain⟨y0,h,rfl⟩:=List.mem_map.1 (show y∈q0.os.map _ from hy);obtain⟨_,e2,e3,e4⟩:=Jj9 (id:=x.2.id) (k:=k) y0;rw[e2,e3,e4];exact X.qk q0 hq0 y0 h
  ·show Qq0 s (((H s).qs.map fun q=>q.cut x.2.id k).map QG.que)
   rw[List.map_map];have e:(QG.que∘fun q=>q.cut x.2.id k)=QG.que:=by funext q;exact Kb3 q
   rw[e];exact X.rank
 ·intro q hq
  obtain⟨q0,hq0,rfl⟩:=List.mem_map.1 hq;intro e;exact S.ne s hs q0 hq0 (List.map_eq_nil_iff.1 (show q0.os.map _= []from e))
 ·intro y hy
  obtain⟨y0,h,rfl⟩:=hmem y hy
  by_cases e:y0.2.id=x.2.id
  ·have e':=S.same_id h hx e
   subst e';have ec:Qg3 y0.2.id k y0=(y0.1,U9 y0.2 k):=if_pos rfl;rw[ec];unfold Z6;rw[if_pos ⟨rfl,rfl⟩]
  ·have ec:Qg3 x.2.id k y0=y0:=if_neg e
   rw[ec];unfold Z6;rw[if_neg]
   ·exact S.hM y0 h
   ·rintro⟨h3,h4⟩
    have e':=S.same_h h hx (Prod.ext h3 h4);exact e (by rw[e'])
 ·intro y hy
  obtain⟨y0,h,rfl⟩:=hmem y hy;rw[Xw9,(Jj9 y0).1];exact S.hf y0 h
 ·intro i v hv
  obtain⟨y,hy,e⟩:=S.hk i v hv;refine⟨Qg3 x.2.id k y, ?_,by rw[(Jj9 y).1];exact e⟩;rw[Jg6];exact List.mem_map.2 ⟨y,hy,rfl⟩
 ·rw[Jg6,List.map_map]
  have e:((fun x:HO=>x.2.id)∘Qg3 x.2.id k)=fun x:HO=>x.2.id:=by funext y;exact(Jj9 y).1
  rw[e];exact S.ids
 ·rw[Jg6,List.length_map]
  exact S.cnt
 ·intro y hy
  obtain⟨y0,h,rfl⟩:=hmem y hy;have ok:=S.ok y0 h
  by_cases e:y0.2.id=x.2.id
  ·have e':=S.same_id h hx e
   subst e';have ec:Qg3 y0.2.id k y0=(y0.1,U9 y0.2 k):=if_pos rfl;rw[ec];obtain⟨⟨f1,f2,f3,f4,f5⟩,o1,o2,o3⟩:=ok;unfold U9;refine⟨⟨f1,f2,f3,f4, ?_⟩,o1,o2, ?_⟩
   ·unfold U1 at*;dsimp only;omega
   ·dsimp only;omega
  ·have ec:Qg3 x.2.id k y0=y0:=if_neg e
   rw[ec];exact ok
end
def Qf6 (L:List QX) (o:QX) (n:Int):List QX:=if n=o.qty then O6 L o.id else Xk5 L o.id n
theorem Xb1 {x:QX} {t:List QX} {n:Int} (h: ∀y∈t,y.id≠x.id):Qf6 (x::t) x n=if n=x.qty then t else U9 x n::t:=by
 unfold Qf6
 split
 ·unfold O6
  rw[List.filter_cons];simp;intro y hy;exact h y hy
 ·unfold Xk5
  rw[List.map_cons,if_pos rfl]
  congr 1
  refine(List.map_congr_left fun y hy=> ?_).trans (List.map_id _);rw[if_neg (h y hy)]
  rfl
theorem Jc9 {x:QX} {L:List QX} {n:Int} (h: ∀y∈L,y.id≠x.id):Qf6 L x n=L:=by
 unfold Qf6
 split
 ·unfold O6
  rw[List.filter_eq_self];intro y hy;simpa using h y hy
 ·unfold Xk5
  refine(List.map_congr_left fun y hy=> ?_).trans (List.map_id _);rw[if_neg (h y hy)]
  rfl
def Jt9 (L1 L2:List QX) (id n:Int):Int:=
 match Qb3 (L1++L2) id with
 |none=>7
 |some o=>if n<1∨o.qty<n then 2 else 0
def Ku2 (w:World) (b:Nat) (G:Nat→Prop) (L1 L2:List QX) (id n:Int) (e:Ending) (w':World):Prop:=
 (Jt9 L1 L2 id n≠0∧e= .returned (YZ (Jt9 L1 L2 id n))∧Below w.heap.size w w')∨
 (∃o,Qb3 (L1++L2) id=some o∧1≤n∧n≤o.qty∧e= .returned (YZ 0)∧Qj8 w w' b G (Qf6 L1 o n) (Qf6 L2 o n))
def Kb5:Prop:= ∀(w:World) (b:Nat) (G:Nat→Prop) (L1 L2:List QX),Q1 w b G L1 L2→ ∀id n:Int,U1 n→Calls Tryz.prog 64 #[.pointer (some ⟨b,0,none⟩),.int .i64 id,.int .i64 n] w (Ku2 w b G L1 L2 id n)
def Jk0 (L:List QX) (k:Nat):List QX:=L.take k++L.drop (k+1)
def Ju0 (s:Int) (L1 L2 L:List QX) (o:QX):List QX:=if Qk8 L1 L2 o=0 then Qc0 s L o else L
theorem Xb2 {L:List QX} {id:Int} (h: ∀o∈L,o.id≠id):O6 L id=L:=List.filter_eq_self.2 (fun o ho=>by simpa using h o ho)
end Go.Proofs.YtnlngicnfegjgaaGreat
