/- Parts. -/
import Derived.Test.YtfoikonjjojkaaaGreatDoorZt17
set_option linter.unusedVariables false
set_option maxRecDepth 100000
set_option maxHeartbeats 8000000
open Go.Proofs.Tryz
open Go.Value renaming int→I,pointer→IP
open Go.IntKind renaming i64→O
namespace Go.Proofs.YtfoikonjjojkaaaGreatDoor
open Go.RowKit
theorem Qj7{w g n c t L tl x}(h:X8 w (sA g) n c t 5 (X7 U0 L))(e:L=x::tl):w.cell? (aD g 0)=some (I O x.id)/\w.cell? (aD g 1)=some (I O x.side)/\w.cell? (aD g 2)=some (I O x.kind)/\w.cell? (aD g 3)=some (I O x.price)/\w.cell? (aD g 4)=some (I O x.qty):=by subst e;have h1:=ER h (i:=0) Q3;simpa using h1
theorem Xr3{W W' g a b c d e}(h:W.cell? (aD g 0)=some a/\W.cell? (aD g 1)=some b/\W.cell? (aD g 2)=some c/\W.cell? (aD g 3)=some d/\W.cell? (aD g 4)=some e)(j:Bz W W'):W'.cell? (aD g 0)=some a/\W'.cell? (aD g 1)=some b/\W'.cell? (aD g 2)=some c/\W'.cell? (aD g 3)=some d/\W'.cell? (aD g 4)=some e:=by
 have key:∀{i v},W.cell? (aD g i)=some v->W'.cell? (aD g i)=some v:=fun {i v}hc=>(j.cell (p:=(aD g i)) (U5 W _ hc)).trans hc
 exact⟨key h.1,key h.2.1,key h.2.2.1,key h.2.2.2.1,key h.2.2.2.2⟩
theorem Xo4{W W' g B a b c d e}(h:W.cell? (aD g 0)=some a/\W.cell? (aD g 1)=some b/\W.cell? (aD g 2)=some c/\W.cell? (aD g 3)=some d/\W.cell? (aD g 4)=some e)(hk:X4 (fun i=>i=B) W W')(j:g≠B):W'.cell? (aD g 0)=some a/\W'.cell? (aD g 1)=some b/\W'.cell? (aD g 2)=some c/\W'.cell? (aD g 3)=some d/\W'.cell? (aD g 4)=some e:=by
 have key:∀{i v},W.cell? (aD g i)=some v->W'.cell? (aD g i)=some v:=fun {i v}hc=>(hk.cell (p:=(aD g i)) (U5 W _ hc) j).trans hc
 exact⟨key h.1,key h.2.1,key h.2.2.1,key h.2.2.2.1,key h.2.2.2.2⟩
theorem VD.prices{w wr B t cs o0 A A' c' M M1 M2 Af c F}(h:VD w wr B t cs o0 A A' c' M M1 M2 Af c F)s:∀o∈G7 s M,-1000000000<=o.price/\o.price<=1000000000:=by intro o i;have h1:=(h.twin.ok o (S4.1 i).1).1.2.2.1;omega
theorem VD.qtys{w wr B t cs o0 A A' c' M M1 M2 Af c F}(h:VD w wr B t cs o0 A A' c' M M1 M2 Af c F):∀o∈M,-1000000000<=o.qty/\o.qty<=1000000000:=by intro o i;have h1:=(h.twin.ok o i).1.2.2.2;omega
def Xr4(w wr wx:World)(B:Nat)(t:TypeId)(cs:Array Value)(o0:Nat)(A A':Option Addr)(c':Nat)(M M1 M2:List X6)(Af:Option Addr)(c:Nat)(F:List C6)(x y:X6)(s9 s10:Value):Prop:=
 ∃B1 B2,s9=pA B1/\s10=pA B2/\B1≠B2/\J7 wx B1 84 (Z8 x)/\J7 wx B2 84 (Z8 y)/\wr.heap.size<=B1/\wr.heap.size<=B2/\VD w wx B t cs o0 A A' c' M M1 M2 Af c F/\Bz wr wx
def BQ(n:Nat)(w:World)(x:X6)(p q r:Bool)(va vb vc:Value):Prop:=
 (q=true->p=true)/\(r=true->q=true)/\(p=true->∃g c,va=.slice (sA g) n c/\(q=true->vb=pA g)/\(r=true->vc=.agg #[I O x.id,I O x.side,I O x.kind,I O x.price,I O x.qty])/\(r=false->w.cell? (aD g 0)=some (I O x.id)/\w.cell? (aD g 1)=some (I O x.side)/\w.cell? (aD g 2)=some (I O x.kind)/\w.cell? (aD g 3)=some (I O x.price)/\w.cell? (aD g 4)=some (I O x.qty)))
def FM(n:Nat)(w:World)(p q:Bool)(v:Value)(x:X6):Prop:=(q=true->p=true)/\(p=true->∃b,v=pA b/\n<=b/\J7 w b 84 (if q then Z8 x else Z8 D4))
section
variable {n:Nat} {w w':World} {x:X6} {p q r:Bool} {v va vb vc:Value}
theorem BQ.below(h:BQ n w x p q r va vb vc)(u:Bz w w'):BQ n w' x p q r va vb vc:=
 ⟨h.1,h.2.1,fun e=>by obtain⟨g,c,h1,h2,i,j⟩:=h.2.2 e;exact⟨g,c,h1,h2,i,fun e=>Xr3 (j e) u⟩⟩
theorem BQ.got(h:BQ n w x false q r va vb vc){g c}(i:w'.cell? (aD g 0)=some (I O x.id)/\w'.cell? (aD g 1)=some (I O x.side)/\w'.cell? (aD g 2)=some (I O x.kind)/\w'.cell? (aD g 3)=some (I O x.price)/\w'.cell? (aD g 4)=some (I O x.qty)):BQ n w' x true q r (.slice (sA g) n c) vb vc:=
 ⟨fun _=>rfl,h.2.1,fun _=>⟨g,c,rfl,fun e=>(by cases h.1 e),fun e=>(by cases h.1 (h.2.1 e)),fun _=>i⟩⟩
theorem BQ.done(h:BQ n w x p q true va vb vc):BQ n w' x p q true va vb vc:=
 ⟨h.1,h.2.1,fun e=>by obtain⟨g,c,h1,h2,i,-⟩:=h.2.2 e;exact⟨g,c,h1,h2,i,fun e=>(by cases e)⟩⟩
theorem BQ.keeps(h:BQ n w x p q r va vb vc){b}(hk:X4 (fun i=>i=b) w w')(C:r=false->p=true->∀g c,va=.slice (sA g) n c->g≠b):BQ n w' x p q r va vb vc:=
 ⟨h.1,h.2.1,fun e=>by obtain⟨g,c,h1,h2,u,y⟩:=h.2.2 e;exact⟨g,c,h1,h2,u,fun j=>Xo4 (y j) hk (C j e g c h1)⟩⟩
theorem FM.below(h:FM n w p q v x)(j:Bz w w'):FM n w' p q v x:=⟨h.1,fun e=>by obtain⟨b,h1,h2,i⟩:=h.2 e;exact⟨b,h1,h2,Z4 i j⟩⟩
theorem FM.new_(h:FM n w false q v x)(i:n<=w.heap.size):FM n (w.alloc (.cells (Z8 D4) 84)) true q (pA w.heap.size) x:=by
 cases q with
 |true=>cases h.1 rfl
 |false=>exact⟨fun _=>rfl,fun _=>⟨_,rfl,i,Z5 _ _ _⟩⟩
theorem FM.lt(h:FM n w true q v x):v≠pA w.heap.size:=by
 obtain⟨b,rfl,h2,i⟩:=h.2 rfl;intro e
 cases e;exact NG _ (Z9 i)
theorem FM.keeps(h:FM n w p q v x){b}(hk:X4 (fun i=>i=b) w w')(C:p=true->v≠pA b):FM n w' p q v x:=⟨h.1,fun e=>by obtain⟨j,h1,h2,y⟩:=h.2 e;exact⟨j,h1,h2,V0 y hk (fun u=>C e (by rw[h1];exact C5 (fun b=>Value.pointer (some ⟨b,0,none⟩)) u))⟩⟩
end
def Jg0(w w':World)(B:Nat)(t:TypeId)(cs:Array Value)(o0:Nat)(A:Option Addr)(L1 L2:List X6)(p q:Int)(e:Ending):Prop:=
 ∃F Af c A' c' M,e=.returned (.tuple #[.slice Af F.length c,I O 0])/\GX L1 L2 p q F/\DC q L1 L2 F/\VD w w' B t cs o0 A A' c' M (Y3 L1 q) (Y3 L2 q) Af c F
theorem Jg1 w B t cs o0 A L L1 L2(h:KY w B t cs o0 A L)(ht:M7 L L1 L2)(hn:L.length<=100)p q(p2:1<=q)(d7:q<=H9 1 p L1)(d8:q<=H9 2 p L2):Calls prog 126 #[IP (some (aD B o0)),I O p,I O q] w fun e w'=>Jg0 w w' B t cs o0 A L1 L2 p q e:=by
 have hl:=ht.lists hn;have f8:∀o∈L1,1<=o.qty:=fun o ho=>(hl.ok o (T9 _ ho)).2.2.2.1
 have f9:∀o∈L2,1<=o.qty:=fun o ho=>(hl.ok o (JJ _ ho)).2.2.2.1
 have o5:q<=PS L1:=NH d7 (Un f8);have o6:q<=PS L2:=NH d8 (Un f9);have p3:q<=100000000:=by have h1:=Vy (s:=1) (p:=p) (L:=L1) (fun o ho=>(hl.ok o (T9 _ ho)).2.2.2);have h2:=hl.cnt;rw[B6]at h2;omega
 obtain⟨i7,i8,-⟩:=MA hl;have hq:∀o∈L,1<=o.qty/\o.qty<=1000000:=fun o ho=>(ht.ok o ho).1.2.2.2
 have d2:=Ll w B t cs o0 A L h Q0 1 p Zc hq;rw[ht.want Zc,show V1 1 L1 L2=L1 from rfl]at d2;have d6:=ht.want (s:=2) Zd p;rw[show V1 2 L1 L2=L2 from rfl]at d6;obtain⟨a1,ha⟩:=exq (H9 1 p L1);obtain⟨a2,j⟩:=exq (H9 2 p L2);rw[ha]at d2 d7;rw[j]at d8 d6;obtain⟨g3,g9,HQ,d9,HN,HT,e3,e4⟩:=Xu2 d2 d6 hq h hn ht f8 f9;obtain⟨m4,m5⟩:=Xt6 i7 i8;have o3:=h.blt;clear h ht hn hq d2 d6 ha j hl f8 f9 i7 i8;go_enter func126,ntmps126
 go_upto_region 1 with fail
 go_cut [21] (fun n8 wx=>n8=.bool false/\Hid (Bz w wx))
 case first=>
  go_wp2_with fail
  refine g3.mono ?_;rintro e w1⟨rfl,u⟩;have f1:=Ll w1 B t cs o0 A L (d9.below u) (by have:=HN.out;omega) 2 p Zd HQ;rw[g9.out]at f1;obtain⟨g4,c6⟩:=Xt6 f1 u;clear f1 u g3;go_wp2_with fail
  refine g4.mono ?_;rintro e w2⟨rfl,C⟩;have a6:=J6 (c6.trans (C.mono c6.size));clear C g4 c6;go_wp2_with fail
  all_goals refine(VY _ _ _ _).mono ?_
  all_goals rintro e w'⟨rfl,rfl⟩
  all_goals first
   |rw[show(decide (1<=q) &&decide (q<=a1))=true by simp;omega]
   |rw[show(decide (1<=q) &&decide (q<=a2))=true by simp;omega]
   |rw[show(decide (1<=q) &&decide (q<=min a1 a2))=true by simp only[Bool.and_eq_true,decide_eq_true_eq];omega]
  all_goals clear d7 d8
  all_goals go_wp2_with fail
  all_goals go_meet
  all_goals exact⟨rfl,a6⟩
 case rest=>
 obtain⟨rfl,a6⟩:=hcut;clear d7 d8;obtain⟨w2,i9⟩:=exq wc;rw[i9]at a6|-;clear i9;obtain⟨c0,k5⟩:=VD.start d9 HT HN;have i2:=J6 (show VD w w2 B t cs o0 A A c0 L (Y3 L1 0) (Y3 L2 0) none 0 [] by rw[Qd _ (T3 _),Qd _ (T3 _)];exact k5.below a6);clear k5 a6 d9 HT HQ g9;go_wp2_with fail
 go_loopg [2,8] q.toNat (fun g s2 s8 wr=>∃a F Af c A' c' M,0<=a/\a<=q/\g=(q-a).toNat/\s2=I O (q-a)/\s8=.slice Af F.length c/\Hid (GX L1 L2 p a F)/\Hid (DC q L1 L2 F)/\Hid (VD w wr B t cs o0 A A' c' M (Y3 L1 a) (Y3 L2 a) Af c F))
 case atStart=>exact⟨0,[],none,0,A,c0,L,T3 _,Q0,Q3,Q3,rfl,J6 (GX.start e3 e4),J6 (DC.start q L1 L2),i2⟩
 obtain⟨a,F,Af,c,A',c',M,c7,o7,rfl,rfl,rfl,HF,HX,HR⟩:=hrel;clear i2
 by_cases o8:a<q
 ·have d3:decide (0<q-a)=true:=V7 Q0
  obtain⟨x,t1,hx⟩:∃x t1,Y3 L1 a=x::t1:=by
   cases E:Y3 L1 a with
   |nil=>exact absurd E (Ku c7 Q0)
   |cons x t1=>exact⟨x,t1,rfl⟩
  obtain⟨y,u1,hy⟩:∃y u1,Y3 L2 a=y::u1:=by
   cases E:Y3 L2 a with
   |nil=>exact absurd E (Ku c7 Q0)
   |cons y u1=>exact⟨y,u1,rfl⟩
  obtain⟨d0,d1⟩:=Xt6 hx hy;obtain⟨M1,e6⟩:=exq (Y3 L1 a);obtain⟨M2,e9⟩:=exq (Y3 L2 a);rw[e6]at hx HR;rw[e9]at hy HR;obtain⟨l5,l6,Hx,Hy⟩:=Xt8 e6 e9 hx hy;obtain⟨m1,f4⟩:=exq M1.length;obtain⟨m2,f5⟩:=exq M2.length;have k1:0<m1:=by rw[<-f4,hx,JA];omega
  have k2:0<m2:=by rw[<-f5,hy,JA];omega
  have o9:(0:Int)<(m1:Int):=Q0;have p0:(0:Int)<(m2:Int):=Q0;obtain⟨m6,m7,i5,i6⟩:=Xt8 f4 f5 k1 k2;clear hx hy e6 e9 f4 f5 k1 k2;obtain⟨g2,l8⟩:=Xt6 (fun g(hg:X5 Af=some g)=>HR.row.lt hg) HR.keep.size;go_upto_region 5 with fail
  go_cut [9,10] (fun s9 n6 wx=>Xr4 w wr wx B t cs o0 A A' c' M M1 M2 Af c F x y s9 n6)
  case first=>
   have l3:=J6 (show Bz wr wr.drew from Z2 Q5);refine Bw (fun a0 L a w=>∃va vb vc vd ve vf vg vh v9 a3,a=FK a0 [(24,va),(25,vb),(26,vc),(27,vd),(28,ve),(29,vf),(30,vg),(31,vh),(9,v9),(10,a3)]/\Bz wr w/\(L 0=true->va=IP (some ⟨B,o0,none⟩))/\(L 4=true->ve=IP (some ⟨B,o0,none⟩))/\BQ m1 w x (L 1) (L 2) (L 3) vb vc vd/\BQ m2 w y (L 5) (L 6) (L 7) vf vg vh/\FM wr.heap.size w (L 8) (L 10) v9 x/\FM wr.heap.size w (L 9) (L 11) a3 y/\(L 8=true->L 9=true->v9≠a3)/\(L 7=false->L 5=true->L 8=true->∀g c b,vf=.slice (some ⟨g,0,none⟩) m2 c->v9=IP (some ⟨b,0,none⟩)->g≠b)) ?_ ?_ ?_
   ·exact⟨u24,u25,u26,u27,u28,u29,u30,u31,u9,u10,P6,l3,fun e=>(by cases e),fun e=>(by cases e),⟨fun e=>(by cases e),fun e=>(by cases e),fun e=>(by cases e)⟩,⟨fun e=>(by cases e),fun e=>(by cases e),fun e=>(by cases e)⟩,⟨fun e=>(by cases e),fun e=>(by cases e)⟩,⟨fun e=>(by cases e),fun e=>(by cases e)⟩,fun e=>(by cases e),fun _ e=>(by cases e)⟩
   ·refine⟨?_,?_,?_,?_,?_,?_,?_,?_,?_,?_,?_,?_,trivial⟩
    all_goals
     rintro L a w hL E⟨va,vb,vc,vd,ve,vf,vg,vh,v9,a3,rfl,j,h0,h4,N,Z,u,C,J,hx⟩K hK;simp[WJ,Region.binds]at E;simp only[FK,Act.put,List.setIfInBounds_toArray,List.set_cons_zero,List.set_cons_succ]
    ·go_simp
     exact hK _ _ ⟨IP (some ⟨B,o0,none⟩),vb,vc,vd,ve,vf,vg,vh,v9,a3,P6,j,fun _=>rfl,h4,N,Z,u,C,J,hx⟩
    ·obtain rfl:=h0 E
     rw[hL]at N;go_simp
     go_at_call 39
     have a4:=HR.below j;obtain⟨cc,f2,-⟩:=a4.ref.cell;refine(Da _ B o0 A' _ cc M 1 f2 a4.ref.els (by have:=a4.few;omega) (a4.prices 1)).mono ?_;rintro e w1⟨D,A1,c1,rfl,b8,k3⟩;rw[<-a4.twin.s1,m6.out]at b8|-;obtain⟨g1,rfl⟩:=EL b8 i5;exact hK _ _ ⟨_,_,vc,vd,ve,vf,vg,vh,v9,a3,P6,j.trans (D.mono j.size),h0,h4,N.got (Qj7 b8 Hx),Z.below D,u.below D,C.below D,J,hx⟩
    ·obtain⟨g,c1,rfl,h2,h3,h5⟩:=N.2.2 E
     have hm:=i5.out;go_simp;exact hK _ _ ⟨va,_,_,vd,ve,vf,vg,vh,v9,a3,P6,j,h0,h4,⟨fun _=>E,fun _=>rfl,fun _=>⟨g,c1,rfl,fun _=>rfl,h3,h5⟩⟩,Z,u,C,J,hx⟩
    ·obtain⟨g,c1,rfl,h2,h3,h5⟩:=N.2.2 (N.1 E)
     obtain rfl:=h2 E;obtain⟨c0,c1,c2,c3,c4⟩:=h5 hL;go_simp;exact hK _ _ ⟨va,_,_,_,ve,vf,vg,vh,v9,a3,P6,j,h0,h4,⟨N.1,fun _=>E,fun _=>⟨g,_,rfl,fun _=>rfl,fun _=>rfl,fun e=>(by cases e)⟩⟩,Z,u,C,J,hx⟩
    ·go_simp
     exact hK _ _ ⟨va,vb,vc,vd,IP (some ⟨B,o0,none⟩),vf,vg,vh,v9,a3,P6,j,h0,fun _=>rfl,N,Z,u,C,J,hx⟩
    ·obtain rfl:=h4 E.1
     rw[hL]at Z;go_simp
     go_at_call 39
     have a4:=HR.below j;obtain⟨cc,f2,-⟩:=a4.ref.cell;refine(Da _ B o0 A' _ cc M 2 f2 a4.ref.els (by have:=a4.few;omega) (a4.prices 2)).mono ?_;rintro e w1⟨D,A1,c1,rfl,b8,k3⟩;rw[<-a4.twin.s2,m7.out]at b8|-;obtain⟨g1,rfl⟩:=EL b8 i6;exact hK _ _ ⟨va,vb,vc,vd,_,_,vg,vh,v9,a3,P6,j.trans (D.mono j.size),h0,h4,N.below D,Z.got (Qj7 b8 Hy),u.below D,C.below D,J,fun _ _ e8 g c b h1 h2=>by cases h1;obtain⟨b',h3,-,h5⟩:=u.2 e8;rw[h3]at h2;cases h2;have h6:w.heap.size<=g1:=k3 g1 rfl;have:=Z9 h5;omega⟩
    ·obtain⟨g,c1,rfl,h2,h3,h5⟩:=Z.2.2 E
     have hm:=i6.out;go_simp;exact hK _ _ ⟨va,vb,vc,vd,ve,_,_,vh,v9,a3,P6,j,h0,h4,N,⟨fun _=>E,fun _=>rfl,fun _=>⟨g,c1,rfl,fun _=>rfl,h3,h5⟩⟩,u,C,J,hx⟩
    ·obtain⟨g,c1,rfl,h2,h3,h5⟩:=Z.2.2 (Z.1 E)
     obtain rfl:=h2 E;obtain⟨c0,c1,c2,c3,c4⟩:=h5 hL;go_simp;exact hK _ _ ⟨va,vb,vc,vd,ve,_,_,_,v9,a3,P6,j,h0,h4,N,⟨Z.1,fun _=>E,fun _=>⟨g,_,rfl,fun _=>rfl,fun _=>rfl,fun e=>(by cases e)⟩⟩,u,C,J,fun e7=>by cases e7⟩
    ·rw[hL]at u
     go_simp;have D:Bz w (w.alloc (.cells (Z8 D4) 84)):=Q5.alloc Q2 _;exact hK _ _ ⟨va,vb,vc,vd,ve,vf,vg,vh,_,a3,P6,j.trans (D.mono j.size),h0,h4,N.below D,Z.below D,u.new_ j.size,C.below D,fun _ e=>by rw[show L 9=true from e]at C;exact(Ne.symm C.lt),fun e7 e5 _ g c b h1 h2=>by cases h2;obtain⟨g',c',h3,-,-,h5⟩:=Z.2.2 e5;rw[h3]at h1;cases h1;exact fun e=>by have:=U5 _ _ (h5 e7).1;dsimp only at this;omega⟩
    ·rw[hL]at C
     go_simp;have D:Bz w (w.alloc (.cells (Z8 D4) 84)):=Q5.alloc Q2 _;exact hK _ _ ⟨va,vb,vc,vd,ve,vf,vg,vh,v9,_,P6,j.trans (D.mono j.size),h0,h4,N.below D,Z.below D,u.below D,C.new_ j.size,fun e _=>by rw[show L 8=true from e]at u;exact u.lt,hx⟩
    ·obtain⟨h8,h3,h5,-,h1,-⟩:=E
     obtain⟨b,rfl,c8,a9⟩:=u.2 h8;rw[hL]at a9;obtain⟨g,c1,rfl,-,hv,-⟩:=N.2.2 h1;obtain rfl:=hv h3;refine(X0 Q8).mpr ?_;refine DY 84 _ _ rfl b #[I O x.id,I O x.side,I O x.kind,I O x.price,I O x.qty] rfl rfl 84 (Z8 D4) a9 (by show(prog.info? 84).map (·.size)=some 5;kernel_rfl) rfl J0 ?_;have hk:=UP w b #[I O x.id,I O x.side,I O x.kind,I O x.price,I O x.qty];exact hK _ _ ⟨va,_,vc,_,ve,vf,vg,vh,_,a3,P6,j.trans (hk.below (fun i e=>e▸c8) j.size),h0,h4,(show BQ m1 _ x (L 1) (L 2) (L 3) _ _ _ by rw[h3]at N|-;exact N.done),Z.keeps hk (fun e7 e5 g c e=>hx e7 e5 h8 g c b e rfl),⟨fun _=>h8,fun _=>⟨b,rfl,c8,BH _ _ _ _ _ a9⟩⟩,C.keeps hk (fun e e'=>J h8 e e'.symm),J,hx⟩
    obtain⟨h9,h7,o2,-,h1,-,h3,-,h5,-,-,h8,-⟩:=E;obtain⟨b,rfl,c8,a9⟩:=C.2 h9;rw[hL]at a9;obtain⟨g,c1,rfl,-,hv,-⟩:=Z.2.2 h5;obtain rfl:=hv h7;refine(X0 Q8).mpr ?_;refine DY 84 _ _ rfl b #[I O y.id,I O y.side,I O y.kind,I O y.price,I O y.qty] rfl rfl 84 (Z8 D4) a9 (by show(prog.info? 84).map (·.size)=some 5;kernel_rfl) rfl J0 ?_;have hk:=UP w b #[I O y.id,I O y.side,I O y.kind,I O y.price,I O y.qty];exact hK _ _ ⟨va,vb,vc,vd,ve,_,vg,_,v9,_,P6,j.trans (hk.below (fun i e=>e▸c8) j.size),h0,h4,(show BQ m1 _ x (L 1) (L 2) (L 3) _ _ _ by rw[h3]at N|-;exact N.done),(show BQ m2 _ y (L 5) (L 6) (L 7) _ _ _ by rw[h7]at Z|-;exact Z.done),u.keeps hk (fun e e'=>J e h9 e'),⟨fun _=>h9,fun _=>⟨b,rfl,c8,BH _ _ _ _ _ a9⟩⟩,J,fun e7=>absurd h7 (by rw[show L 7=false from e7];decide)⟩
   rintro L a w a8⟨va,vb,vc,vd,ve,vf,vg,vh,v9,a3,rfl,j,-,-,-,-,u,C,J,-⟩;obtain⟨b1,rfl,b5,j7⟩:=u.2 (a8 8 Q3);obtain⟨b2,rfl,n3,j8⟩:=C.2 (a8 9 Q3);rw[a8 10 Q3]at j7;rw[a8 11 Q3]at j8;have J:=J (a8 8 Q3) (a8 9 Q3);simp only[FK,Act.put,List.setIfInBounds_toArray,List.set_cons_zero,List.set_cons_succ];clear a8 u C;go_wp2;go_meet;exact⟨_,_,rfl,rfl,fun e=>J (by rw[e]),j7,j8,b5,n3,HR.below j,j⟩
  obtain⟨B1,B2,rfl,rfl,J,hX,hY,j1,j2,g0,j4⟩:=hcut;obtain⟨w5,j0⟩:=exq wc;rw[j0]at hX hY g0 j4|-;clear j0 HR;obtain⟨l9,m3,b9,n9,c6,a6⟩:=Xu0 hX hY g0 J j1 j2;have k0:=Z9 hX;have f3:=Z9 hY;obtain⟨x0,-,-,-,x4⟩:=D7 hX;obtain⟨y0,-,-,-,y4⟩:=D7 hY;clear hX hY g0 J j1 j2 j4;obtain⟨n,hn⟩:=exq (min (q-a) (min x.qty y.qty));have n4:1<=x.qty:=(b9.lists.ok x (T9 _ (by rw[Hx.out];simp))).2.2.2.1;have n5:1<=y.qty:=(b9.lists.ok y (JJ _ (by rw[Hy.out];simp))).2.2.2.1;have b5:1<=n:=Q0;have f6:n<=x.qty:=Q0;have f7:n<=y.qty:=Q0;have p1:n<=q-a:=Q0;have g7:=J6 hn;clear hn;go_upto_region 6 with fail
  go_cut [11] (fun n7 wx=>n7=I O n/\wx=w5)
  case first=>
   go_wp2_with fail
   all_goals go_meet
   all_goals refine⟨?_,rfl⟩
   all_goals rw[<-g7.out]
   all_goals congr 1
   all_goals first
    |omega
    |(split at h<;>first|omega|(split<;>omega))
    |(split<;>first|omega|(split at h<;>omega))
  obtain⟨rfl,rfl⟩:=hcut;have o4:F.length<=100000000:=by have:=HF.len;omega
  obtain⟨i0,j6,k7,k8,k9⟩:=W8 Up;have g8:=J6 (LW (show wc.ownsRow 0 127 4 (.slice Af F.length c) F.length (X7 QT F)from b9.row) (.cells #[I O x.id,I O y.id,I O p,I O n] 127));go_upto_region 8 with(at_builtin;refine VZ _ rfl _ _ 85 rfl 0 127 i0 _ 4 32 underlying85 j6 k7 k8 k9 rfl Q0 (.slice Af F.length c) F.length _ rfl g8 ⟨wc.heap.size,0,none⟩ 1 1 [I O x.id,I O y.id,I O p,I O n] rfl rfl (XF (cs:= #[I O x.id,I O y.id,I O p,I O n]) (t:=127) (fr:=(0,0)) (QN wc _)) J0 Q0 Q9 Q0 Q3 (wc.heap.size+1) Q3 ?_;intro gg cap w6 k4 j5 f0 n2)
  have c5:=WP j5;rw[C8]at c5 f0;have a5:=b9.fill (f:=⟨x.id,y.id,p,n⟩) c5 k4 (f0.imp id (fun e=>Q0));have l1:¬X5 Af=some B1:=fun e=>by have h1:=g2.out _ e;have h2:=c6.out;omega
  have l2:¬X5 Af=some B2:=fun e=>by have h1:=g2.out _ e;have h2:=a6.out;omega
  have z0:w6.cell? ⟨B1,0,none⟩=some (I O x.id):=(c5.cell (p:=⟨B1,0,none⟩) k0 l1).trans x0;have z1:w6.cell? ⟨B2,0,none⟩=some (I O y.id):=(c5.cell (p:=⟨B2,0,none⟩) f3 l2).trans y0;have n1:B2<w6.heap.size:=D0 f3 c5.size;have k6:B2≠B:=by have h1:=a6.out;have h2:=b9.blt;have h3:=l8.out;omega
  rw[<-l5.out,<-l6.out]at a5;obtain⟨c1,c2,c3⟩:=Su a5.lists e3 c7 d0 b5 f6;have d4:=a5.twin.cutS_ a5.lists c1 b5 f6;rw[c2,c3]at d4;have b0:=Ef w6 B t _ o0 A' M a5.ref (by have:=a5.few;omega) x.id n a5.qtys;rw[d4.1]at b0;obtain⟨g5,e1,i3,l4,m0,m8⟩:=Xu0 b0 a5 d4.2 (HF.step e3 e4 m4 m5 c7 d0 d1 b5 f6 f7) (HX.step HF.sum (z:=⟨x.id,y.id,p,n⟩) (by rw[d0.out,d1.out];exact g7.symm) (by rw[d0.out];rfl) (by rw[d1.out];rfl)) k6;clear c5 k4 j5 f0 n2 a5 l1 l2 c1 c2 c3 b0 d4 x0 x4 y0 y4 g8 b9 l9 m3 HF HX k0 f3 j6 k7 k8 k9 n4 n5 k6;go_wp2_with fail
  refine g5.mono ?_;rintro e w7⟨rfl,c9⟩;obtain⟨A2,o1,a7,j9⟩:=e1.cut c9 i3 (U4 (Dg _ _ _) e1.few);have z2:w7.cell? ⟨B2,0,none⟩=some (I O y.id):=(j9.cell (p:=⟨B2,0,none⟩) n1 m8).trans z1;obtain⟨c1,c2,c3⟩:=Pr a7.lists e4 c7 d1 b5 f7;have d5:=a7.twin.cutS_ a7.lists c1 b5 f7;rw[c2,c3]at d5;have b0:=Ef w7 B t _ o0 A2 _ a7.ref (by have:=a7.few;omega) y.id n a7.qtys;rw[d5.1]at b0;obtain⟨g6,e2,i4⟩:=Xt7 b0 a7 d5.2;clear c9 j9 a7 c1 c2 c3 b0 d5 z0 z1 g5 e1 i3;go_wp2_with fail
  refine g6.mono ?_;rintro e w8⟨rfl,c9⟩;obtain⟨A3,m9,j3,-⟩:=e2.cut c9 i4 (U4 (Dg _ _ _) e2.few);have l7:=J6 j3;have i1:RowKit.wrap64 (q-a-n)=q-(a+n):=by unfold RowKit.wrap64;omega
  clear c9 j3 z2 g6 e2 i4;go_wp2
  go_roundg (q-(a+n)).toNat
  case measure=>omega
  exact⟨a+n,F++[⟨x.id,y.id,p,n⟩],_,cap,A3,m9,_,Q0,Q0,rfl,by congr 1<;>omega,Q3,l4,m0,l7⟩
 obtain rfl:a=q:=by omega
 have d3:decide (0<a-a)=false:=V9 Q0;go_wp2_with fail
 refine QA (results_tmp2 rfl _ _ _) rfl ?_;exact⟨F,Af,c,A',c',M,rfl,HF,HX,HR⟩
structure Xt4(Bk:List X6->List X6->(Nat->Prop)->World->Prop)(cutF:FuncId)(bp e0:Value):Prop where
 keep:∀{L1 L2:List X6}{F:Nat->Prop}{w w':World}{S:Nat->Prop},Bk L1 L2 F w->X4 S w w'->(∀i,F i->¬S i)->Bk L1 L2 F w'
 lt:∀{L1 L2:List X6}{F:Nat->Prop}{w:World},Bk L1 L2 F w->∀i,F i->i<w.heap.size
 ok:∀{L1 L2:List X6}{F:Nat->Prop}{w:World},Bk L1 L2 F w->E5 L1 L2
 cut:∀{L1 L2:List X6}{F:Nat->Prop}{w:World}(x:X6)(n:Int),Bk L1 L2 F w->B4 (L1++L2) x.id=some x->1<=n->n<=x.qty->Calls prog cutF #[bp,I O x.id,I O n] w fun e w'=>e=.returned e0/\∃F',Bk (QV L1 x n) (QV L2 x n) F' w'/\U2 w w' F F'
theorem Qs5{σ:Type}{K:σ->List X6->List X6->(Nat->Prop)->World->Prop}{al:σ->Int->Bool}{tr:σ->Int->σ}{cnt:σ->Nat}{ga gt:FuncId}{fa ca ct:Array Value}{b o0:Nat}(hs:GJ K al tr cnt ga gt fa ca ct 125 (IP (some (aD b o0))) (I O 0))(hside:∀{s:σ}{L1 L2:List X6}{F:Nat->Prop}{w:World},K s L1 L2 F w->∀sd,V5 sd->Calls prog 39 #[IP (some (aD b o0)),I O sd] w fun e w'=>Bz w w'/\∃A c,e=.returned (.slice A (V1 sd L1 L2).length c)/\X8 w' A (V1 sd L1 L2).length c 84 5 (X7 U0 (V1 sd L1 L2))/\∀g,X5 A=some g->w.heap.size<=g)(w:World) (s0:σ) (G:Nat->Prop) (L1 L2:List X6) (h:K s0 L1 L2 G w) (h0:cnt s0=0) (oi sd ok op oq:Int) (hsd:V5 sd) (hf:JV ⟨oi,sd,ok,op,oq⟩):Calls prog 76 #[IP (some (aD b o0)),.agg #[I O oi,I O sd,I O ok,I O op,I O oq],.func (.func ga) fa ca,.func (.func gt) #[] ct] w fun e w'=>Eg K w w' G sd L1 L2 (A4 al tr (V1 (3-sd) L1 L2) ⟨oi,sd,ok,op,oq⟩ s0) e:=by
 have HS:=J6 hs;have ega:=hs.ega;have egt:=hs.egt;have hlt:=hs.lt h;have hlists:=hs.ok h;obtain⟨l,hl⟩:∃l,V1 (3-sd) L1 L2=l:=⟨_,rfl⟩;rw[hl];have hok:∀x∈l,KG x:=fun x hx=>by
  rw[<-hl]at hx;refine hlists.ok x ?_;unfold V1 at hx
  split at hx
  ·exact T9 _ hx
  exact JJ _ hx
 have hlen:l.length<=100:=by
  have h1:=hlists.cnt;rw[B6]at h1;rw[<-hl];unfold V1
  split<;>omega
 obtain⟨n,hn⟩:∃n,l.length=n:=⟨_,rfl⟩;rw[hn]at hlen;have hA1:Bz w (w.alloc (.cells (Z8 ⟨oi,sd,ok,op,oq⟩) 84)):=(J9 _ w).alloc Q2 _;have hA2:Bz w ((w.alloc (.cells (Z8 ⟨oi,sd,ok,op,oq⟩) 84)).alloc (.cells (Z8 D4) 84)):=hA1.alloc Q3 _;have hX:=G0 (Z5 w 84 (Z8 ⟨oi,sd,ok,op,oq⟩)) (.cells (Z8 D4) 84);have hY:J7 ((w.alloc (.cells (Z8 ⟨oi,sd,ok,op,oq⟩) 84)).alloc (.cells (Z8 D4) 84)) (w.heap.size+1) 84 (Z8 D4):=by have:=Z5 (w.alloc (.cells (Z8 ⟨oi,sd,ok,op,oq⟩) 84)) 84 (Z8 D4);rw[Xl]at this;exact this
 obtain⟨w2,ew2⟩:∃W,((w.alloc (.cells (Z8 ⟨oi,sd,ok,op,oq⟩) 84)).alloc (.cells (Z8 D4) 84))=W:=⟨_,rfl⟩;rw[ew2]at hA2 hX hY;have hK2:=hs.keep h (B9 hA2 (fun _=>False)) (fun _ _=>id);have hcall:=hside hK2 (3-sd) (by unfold V5 at hsd|-;omega);have i3:RowKit.wrap64 (3-sd)=3-sd:=by unfold V5 at hsd;unfold RowKit.wrap64;omega
 rw[hl,hn]at hcall;obtain⟨HC,HX,HY,HA2,HLt,HK2,HOk,HN⟩:=Xu2 hcall hX hY hA2 hlt hK2 hok hn;have HL:=J6 hl;have hxs:=hX.lt;have hys:=hY.lt;have hqf:V3 oq:=hf.2.2.2.2;obtain⟨x0,x1,x2,x3,x4⟩:=D7 hX;dsimp only at x0 x1 x2 x3 x4;clear hs h hside hlists hok hA1 hA2 hX hY hK2 hcall hn hlt hf;unfold Z8 D4 at ew2;dsimp only at ew2;show Calls prog 76 #[IP (some ⟨b,o0,none⟩),.agg #[I O oi,I O sd,I O ok,I O op,I O oq],.func (.func ga) fa ca,.func (.func gt) #[] ct] w _;go_enter func76,ntmps76
 go_upto_region 2 with fail
 try rw[ew2]
 clear ew2;go_wp2_with fail
 refine HC.out.mono ?_;rintro e w3⟨hb3,AL,cl,rfl,hrow3,hnew3⟩;have hw2:w.heap.size<=w2.heap.size:=HA2.out.size;have HST:=J6 (show GY K al tr cnt w w3 s0 s0 G G L1 L2 L1 L2 l oi sd ok op oq oq w.heap.size (w.heap.size+1) AL n cl none 0 [] [] 0 from
  ⟨⟨⟨HS.out.keep HK2.out (B9 hb3 (fun _=>False)) (fun _ _=>id),S5 (HA2.out.trans (hb3.mono HA2.out.size)),QY _ _ _ _,fun g hg=>by simp[X5]at hg⟩,Z4 HX.out hb3,Z4 HY.out hb3,fun e=>NG _ (HLt.out _ e),fun e=>by have:=HLt.out _ e;omega,by simp[X5],by simp[X5],Q0,hrow3,fun g hg=>⟨fun e=>by have:=HLt.out _ e;have:=hnew3 g hg;omega,by simp[X5],by have:=hnew3 g hg;omega,by have:=hnew3 g hg;omega⟩,X3 _,Q0⟩,by rw[Xs];rfl,rfl,by rw[Xs,EE];exact HL.out,U9 _,hqf,by rw[h0];exact U9 _⟩)
 clear hb3 hrow3 hnew3 x0 x1 x2 x3 x4 HX HY HC HK2 HLt;obtain⟨X,eX⟩:∃X,w.heap.size=X:=⟨_,rfl⟩;obtain⟨Y,eY⟩:∃Y,w.heap.size+1=Y:=⟨_,rfl⟩;rw[eY,eX]at HST|-;have HEX:=J6 eX;clear eX eY hxs hys HA2 hw2;go_wp2_with fail
 go_loopg [11,23] n (fun gg s11 s28 wr=>∃(k:Nat)(q:Int)(s:σ)(G':Nat->Prop)(M1 M2:List X6)(A:Option Addr)(c:Nat)(F:List C6)(R:List X6),k<=n/\gg=n-k/\s28=I O k/\s11=.slice A F.length c/\Hid (GY K al tr cnt w wr s0 s G G' L1 L2 M1 M2 l oi sd ok op oq q X Y AL n cl A c F R k))
 case atStart=>exact⟨0,oq,s0,G,L1,L2,none,0,[],[],U9 _,rfl,rfl,rfl,HST⟩
 obtain⟨k,q,s,G',M1,M2,A,c,F,R,hk,rfl,rfl,rfl,HW⟩:=hrel;clear HST
 by_cases hlt:k<n
 ·have hkl:k<l.length:=by rw[HN.out];exact hlt
  obtain⟨gl,hgl⟩:=EL HW.out.v.lr Q0;subst hgl;obtain⟨y0,y1,y2,y3,y4⟩:=ER HW.out.v.lr hkl;have hdrop:=CZ hkl;have hxok:=HOk.out l[k] (C7 hkl);obtain⟨x,hx⟩:∃x,l[k]=x:=⟨_,rfl⟩;rw[hx]at y0 y1 y2 y3 y4 hdrop hxok;obtain⟨HDrop,HXok⟩:=Xt6 hdrop hxok;have hltz:(k:Int)<(n:Int):=Q0;have hk7:(0:Int)<=(k:Int):=Q0;clear hdrop hxok hx;go_upto_region 6 with fail
  obtain⟨wa,ewa⟩:∃W,(wr.alloc (.cells #[I O x.id,I O x.side,I O x.kind,I O x.price,I O x.qty] 84))=W:=⟨_,rfl⟩;obtain⟨Z,eZ⟩:∃Z,wr.heap.size=Z:=⟨_,rfl⟩;have hZ:=Z5 wr 84 (Z8 x);unfold Z8 at hZ;have hWa:=HW.out.below HS.out ((J9 wr.heap.size wr).alloc Q2 (.cells #[I O x.id,I O x.side,I O x.kind,I O x.price,I O x.qty] 84));have hGZ:¬G' wr.heap.size:=fun e=>NG _ (HS.out.lt HW.out.v.m.mk_ _ e)
  have hZA:X5 A≠some wr.heap.size:=fun e=>NG _ (HW.out.v.m.row.lt e)
  have hZX:wr.heap.size≠X:=fun e=>by have:=Z9 HW.out.v.bx;omega
  rw[ewa]at hZ hWa|-;rw[eZ]at hZ hGZ hZA hZX|-;obtain⟨HZA,HZX⟩:=Xt6 hZA hZX;clear hZA hZX;obtain⟨x0,x1,x2,x3,x4⟩:=D7 hWa.v.bx;obtain⟨z0,z1,z2,z3,z4⟩:=S0 hZ;dsimp only at x0 x1 x2 x3 x4;obtain⟨HWa,HZ,HGZ⟩:=Xt7 hWa hZ hGZ;clear hWa hZ hGZ HW ewa eZ y0 y1 y2 y3 y4
  by_cases c0:q<1
  ·have d0:decide (q<=0)=true:=V7 Q0
   have HC0:=J6 c0;clear c0;have hY:=HWa.out.v.by_;obtain⟨v0,v1,v2,v3,v4⟩:=D7 hY;have f0:=K0 hY 0;have f1:=K0 hY 1;have f2:=K0 hY 2;have f3:=K0 hY 3;have f4:=K0 hY 4;obtain⟨hy1,hy2⟩:=RN hY (I O oi) (I O sd) (I O ok) (I O op) (I O q);obtain⟨HY1,HY2⟩:=Xt6 hy1 hy2;clear hY hy1 hy2;go_wp2_with fail
   go_region
   go_wp2_with fail
   exact RP rfl (o:=⟨oi,sd,ok,op,q⟩) Y rfl rfl rfl rfl (Y6 HY1.out) (HWa.out.done HS.out (by rw[HDrop.out];exact Sv HC0.out) (HY2.out.then_ (Z2 Q5)))
  have d0:decide (q<=0)=false:=V9 Q0;have HC0:Hid (1<=q):=J6 Q0;clear c0
  by_cases c1:x.kind=2
  ·have d1:=V4 c1
   have HC1:=J6 c1;clear c1;go_wp2_with fail
   go_roundg (n-(k+1))
   case measure=>omega
   exact⟨k+1,q,s,G',M1,M2,A,c,F,R++[x],Q0,rfl,J5,rfl,J6 (HWa.out.pass HDrop.out (by have:=HC0.out;omega) HC1.out)⟩
  have d1:=Z3 c1;have HC1:=J6 c1;clear c1;go_upto_if 35 with fail
  go_cut [11] (fun s11 wx=>s11=.slice A F.length c/\VA ⟨oi,sd,ok,op,q⟩ x=false/\wx=wa)
  case first=>
   by_cases c2:ok=2
   ·have d2:=KN c2
    have HE:Hid (VA ⟨oi,sd,ok,op,q⟩ x=false):=J6 (by unfold VA;dsimp only;rw[V4 c2];rfl);clear c2;go_wp2_with fail
    go_meet;exact⟨rfl,HE.out,rfl⟩
   have d2:=XQ c2;have hb:VA ⟨oi,sd,ok,op,q⟩ x=if sd=1 then decide (op<x.price)else decide (x.price<op):=by unfold VA;dsimp only;rw[Z3 c2];obtain rfl|rfl:=hsd<;>simp
   clear c2;obtain hs|hs:=hsd
   all_goals
    first
     |have d4:=V4 hs
      have d5:=Z3 (show sd≠2 by omega);rw[X0 hs]at hb
      (obtain c3|c3:=Decidable.em (op<x.price))
     |have d4:=Z3 (show sd≠1 by omega)
      have d5:=V4 hs;rw[J8 (show¬sd=1 by omega)]at hb
      (obtain c3|c3:=Decidable.em (x.price<op))
    all_goals clear hs
   all_goals
    first
     |have d3:=V9 c3
      rw[d3]at hb;have HE:=J6 hb;clear c3 hb;go_wp2_with fail
      go_meet;exact⟨rfl,HE.out,rfl⟩
     |have d3:=V7 c3
      rw[d3]at hb;have HE:=J6 hb;clear c3 hb;have hY:=HWa.out.v.by_;obtain⟨v0,v1,v2,v3,v4⟩:=D7 hY;have f0:=K0 hY 0;have f1:=K0 hY 1;have f2:=K0 hY 2;have f3:=K0 hY 3;have f4:=K0 hY 4;obtain⟨hy1,hy2⟩:=RN hY (I O oi) (I O sd) (I O ok) (I O op) (I O q);obtain⟨HY1,HY2⟩:=Xt6 hy1 hy2;clear hY hy1 hy2;go_wp2_with fail
      go_region
      go_wp2_with fail
      exact RP rfl (o:=⟨oi,sd,ok,op,q⟩) Y rfl rfl rfl rfl (Y6 HY1.out) (HWa.out.done HS.out (by rw[HDrop.out];exact Ml (by have:=HC0.out;show¬q<1;omega) HC1.out HE.out) (HY2.out.then_ (Z2 Q5)))
  obtain⟨rfl,hbb,rfl⟩:=hcut;have HBB:=J6 hbb;clear hbb;go_wp2_with fail
  go_at_fn ga
  refine(HS.out.allows x.price HWa.out.v.m.mk_ ⟨HXok.out.2.2.1.1,HXok.out.2.2.1.2⟩).mono ?_;rintro e wb⟨rfl,hbb⟩;have hWb:=HWa.out.below HS.out hbb;have hZb:=Z4 HZ.out hbb;obtain⟨ab,hab⟩:∃ab,al s x.price=ab:=⟨_,rfl⟩;rw[hab];obtain⟨HAB,HWa,HZ⟩:=Xt7 hab hWb hZb;obtain⟨x0,x1,x2,x3,x4⟩:=D7 hWb.v.bx;obtain⟨z0,z1,z2,z3,z4⟩:=S0 hZb;dsimp only at x0 x1 x2 x3 x4;clear hWb hZb hbb hab
  cases ab with
  |false=>
   have hY:=HWa.out.v.by_;obtain⟨v0,v1,v2,v3,v4⟩:=D7 hY;have f0:=K0 hY 0;have f1:=K0 hY 1;have f2:=K0 hY 2;have f3:=K0 hY 3;have f4:=K0 hY 4;obtain⟨hy1,hy2⟩:=RN hY (I O oi) (I O sd) (I O ok) (I O op) (I O q);obtain⟨HY1,HY2⟩:=Xt6 hy1 hy2;clear hY hy1 hy2;go_wp2_with fail
   go_region
   go_wp2_with fail
   exact RP rfl (o:=⟨oi,sd,ok,op,q⟩) Y rfl rfl rfl rfl (Y6 HY1.out) (HWa.out.done HS.out (by rw[HDrop.out];exact Sw (by have:=HC0.out;show¬q<1;omega) HC1.out HBB.out HAB.out) (HY2.out.then_ (Z2 Q5)))
  |true=>
   clear x0 x1 x2 x3 x4 z0 z1 z2 z3 z4;obtain⟨m,hm⟩:∃m,min q x.qty=m:=⟨_,rfl⟩;have hq1:=HC0.out;have hxq:=HXok.out.2.2.2;have hqb:=HWa.out.qb;unfold V3 at hqb;have hm1:1<=m:=Q0;have hmx:m<=x.qty:=Q0;have hmq:m<=q:=Q0;have HM:=J6 hm;clear hm;go_upto_region 13 with fail
   obtain⟨x0,x1,x2,x3,x4⟩:=D7 HWa.out.v.bx;obtain⟨z0,z1,z2,z3,z4⟩:=S0 HZ.out;dsimp only at x0 x1 x2 x3 x4
   go_cut [15] (fun s15 wx=>s15=I O m/\wx=wb)
   case first=>
    go_wp2_with fail
    all_goals go_meet
    all_goals refine⟨?_,rfl⟩
    all_goals rw[<-HM.out]
    all_goals congr 1
    all_goals omega
   obtain⟨rfl,rfl⟩:=hcut;have hF1:F.length<=100000000:=by have:=HWa.out.fl;omega
   have HCn:Hid (cnt s<=F.length):=J6 HWa.out.cn;have HCk:Hid (cnt s<=1000):=J6 (by have:=HWa.out.fl;have:=HWa.out.cn;omega);obtain⟨i0,hi0,hz0,hz1,hz2⟩:=W8 Up;go_upto_if 70 with fail
   go_cut [11] (fun s11 wx=>∃gg cap,s11=.slice (some ⟨gg,0,none⟩) (F.length+1) cap/\Hid (DP K w wx s G G' M1 M2 l ⟨oi,sd,ok,op,q⟩ X Y (some ⟨gl,0,none⟩) n cl (some ⟨gg,0,none⟩) cap (F++[CJ ⟨oi,sd,ok,op,q⟩ x m]))/\Hid (J7 wx Z 84 #[I O x.id,I O x.side,I O x.kind,I O x.price,I O x.qty]))
   case first=>
    obtain hs|hs:=hsd
    ·have d5:=V4 hs
     have HFe:Hid (CJ ⟨oi,sd,ok,op,q⟩ x m=⟨oi,x.id,x.price,m⟩):=J6 (by unfold CJ;dsimp only;rw[J8 Q0]);clear hs;have HO1:=J6 (LW (show wc.ownsRow 0 127 4 (.slice A F.length c) F.length (X7 QT F)from HWa.out.v.m.row) (.cells #[I O oi,I O x.id,I O x.price,I O m] 127));go_wp2_with (at_builtin;refine VZ _ rfl _ _ 85 rfl 0 127 i0 _ 4 32 underlying85 hi0 hz0 hz1 hz2 rfl Q0 (.slice A F.length c) F.length _ rfl HO1.out ⟨wc.heap.size,0,none⟩ 1 1 [I O oi,I O x.id,I O x.price,I O m] rfl rfl (XF (cs:= #[I O oi,I O x.id,I O x.price,I O m]) (t:=127) (fr:=(0,0)) (QN wc _)) J0 Q0 Q9 Q0 Q3 (wc.heap.size+1) Q3 ?_;intro gg cap w6 hown hgrow hat6 hlt6)
     go_meet;have hk6:=WP hgrow;rw[C8]at hk6 hat6;exact⟨gg,cap,rfl,J6 (by rw[HFe.out];exact HWa.out.v.fill HS.out (f:=⟨oi,x.id,x.price,m⟩) hk6 hown (hat6.imp id (fun e=>Q0))),J6 (V0 HZ.out hk6 HZA.out)⟩
    have d5:=Z3 (show sd≠1 by omega);have HFe:Hid (CJ ⟨oi,sd,ok,op,q⟩ x m=⟨x.id,oi,x.price,m⟩):=J6 (by unfold CJ;dsimp only;rw[X0 hs]);clear hs;have HO1:=J6 (LW (show wc.ownsRow 0 127 4 (.slice A F.length c) F.length (X7 QT F)from HWa.out.v.m.row) (.cells #[I O x.id,I O oi,I O x.price,I O m] 127));go_wp2_with (at_builtin;refine VZ _ rfl _ _ 85 rfl 0 127 i0 _ 4 32 underlying85 hi0 hz0 hz1 hz2 rfl Q0 (.slice A F.length c) F.length _ rfl HO1.out ⟨wc.heap.size,0,none⟩ 1 1 [I O x.id,I O oi,I O x.price,I O m] rfl rfl (XF (cs:= #[I O x.id,I O oi,I O x.price,I O m]) (t:=127) (fr:=(0,0)) (QN wc _)) J0 Q0 Q9 Q0 Q3 (wc.heap.size+1) Q3 ?_;intro gg cap w6 hown hgrow hat6 hlt6)
    go_meet;have hk6:=WP hgrow;rw[C8]at hk6 hat6;exact⟨gg,cap,rfl,J6 (by rw[HFe.out];exact HWa.out.v.fill HS.out (f:=⟨x.id,oi,x.price,m⟩) hk6 hown (hat6.imp id (fun e=>Q0))),J6 (V0 HZ.out hk6 HZA.out)⟩
   case rest=>
   obtain⟨gg,cap,rfl,HV6,HZ6⟩:=hcut;have hV6:=HV6.out;obtain⟨hget,hown6,hoth6⟩:=Qb9 (n:=m) (HS.out.ok hV6.m.mk_) hsd (HWa.out.oth.trans (by rw[HDrop.out]));have hcc:=HS.out.cut x m hV6.m.mk_ hget hm1 hmx;obtain⟨HCC,HOwn,HOth,HEq,HFl⟩:=Xt9 hcc (hown6.trans HWa.out.own) hoth6 (show A4 al tr l ⟨oi,sd,ok,op,oq⟩ s0=XN.join (F++[CJ ⟨oi,sd,ok,op,q⟩ x m]) (R++FC x m) (A4 al tr (l.drop (k+1)) ⟨oi,sd,ok,op,q-m⟩ (tr s x.price))from HWa.out.eq.trans (by rw[HDrop.out];exact Pt (by have:=HC0.out;show¬q<1;omega) HC1.out HBB.out HAB.out HM.out)) HWa.out.fl;clear x0 x1 x2 x3 x4 z0 z1 z2 z3 z4 hV6 hget hown6 hoth6 hcc hi0 hz0 hz1 hz2 HWa HZ;obtain⟨z0,z1,z2,z3,z4⟩:=S0 HZ6.out;go_wp2_with fail
   refine HCC.out.mono ?_;rintro e w7⟨rfl,G2,hk7,hb7⟩;have hV7:=HV6.out.turn hk7 hb7;have hZ7:=V0 HZ6.out hb7.1 (fun e=>HGZ.out e);have hV8:=hV7.lots HS.out (q':=q-m);have hZ8:=V0 hZ7 (U1 w7 ⟨X,4,none⟩ (I O (q-m))) HZX.out;have i1:RowKit.wrap64 (q-m)=q-m:=by unfold RowKit.wrap64;omega
   have f4:=K0 hV7.bx 4;obtain⟨x0,x1,x2,x3,x4⟩:=D7 hV7.bx;dsimp only at x0 x1 x2 x3 x4;obtain⟨HV8,HZ8⟩:=Xt6 hV8 hZ8;clear hV7 hZ7 hV8 hZ8 hk7 hb7 z0 z1 z2 z3 z4 HV6 HZ6 HCC;go_upto_region 19 with fail
   obtain⟨w8,ew8⟩:∃W,w7.setCell ⟨X,4,none⟩ (I O (q-m))=W:=⟨_,rfl⟩;rw[ew8]at HV8 HZ8|-;clear ew8 x0 x1 x2 x3 x4 f4;obtain⟨z0,z1,z2,z3,z4⟩:=S0 HZ8.out;go_wp2_with fail
   go_at_fn gt
   refine(HS.out.trades x.price HV8.out.m.mk_ ⟨HXok.out.2.2.1.1,HXok.out.2.2.1.2⟩ HCk.out).mono ?_;rintro e w9⟨rfl,G3,hk9,hb9⟩;have HV9:=J6 (HV8.out.turn hk9 hb9);clear hk9 hb9 z0 z1 z2 z3 z4 HV8 HZ8 i1;go_wp2_with fail
   go_roundg (n-(k+1))
   case measure=>omega
   exact⟨k+1,q-m,tr s x.price,G3,QV M1 x m,QV M2 x m,some ⟨gg,0,none⟩,cap,F++[CJ ⟨oi,sd,ok,op,q⟩ x m],R++FC x m,Q0,rfl,J5,Q3,J6 ⟨HV9.out,HEq.out,HOwn.out,HOth.out,by rw[B6,SN];exact Nat.succ_le_succ HFl.out,(by unfold V3;omega),by have h1:=HS.out.cnt_ s x.price;have h2:=HCn.out;rw[B6,SN];omega⟩⟩
 obtain rfl:k=n:=by omega
 have hltz:¬(k:Int)<(k:Int):=Q0;have hY:=HW.out.v.by_;obtain⟨v0,v1,v2,v3,v4⟩:=D7 hY;obtain⟨x0,x1,x2,x3,x4⟩:=D7 HW.out.v.bx;dsimp only at x0 x1 x2 x3 x4;have f0:=K0 hY 0;have f1:=K0 hY 1;have f2:=K0 hY 2;have f3:=K0 hY 3;have f4:=K0 hY 4;obtain⟨hy1,hy2⟩:=RN hY (I O oi) (I O sd) (I O ok) (I O op) (I O q);obtain⟨HY1,HY2⟩:=Xt6 hy1 hy2;clear hY hy1 hy2;go_wp2_with fail
 go_region
 go_wp2_with fail
 have hdn:l.drop k=[]:=GH (by rw[HN.out];exact X3 _);exact RP rfl (o:=⟨oi,sd,ok,op,q⟩) Y rfl rfl rfl rfl (Y6 HY1.out) (HW.out.done HS.out (by rw[hdn,Qb8,BF]) (HY2.out.then_ (Z2 Q5)))
theorem Qn3{σ K al tr cnt ga gt fa ca ct b}(u:GJ K al tr cnt ga gt fa ca ct 255 (pA b) .nilIface)(l2:∀{s:σ}{L1 L2 F w},K s L1 L2 F w->∀sd,V5 sd->Calls prog 150 #[pA b,I O sd] w fun e w'=>Bz w w'/\∃A c,e=.returned (.tuple #[.slice A (V1 sd L1 L2).length c,.nilIface])/\X8 w' A (V1 sd L1 L2).length c 84 5 (X7 U0 (V1 sd L1 L2))/\∀g,X5 A=some g->w.heap.size<=g) w s0 G L1 L2 (h:K s0 L1 L2 G w) (h0:cnt s0=0) oi os ok op oq (b8:V5 os) (hf:JV ⟨oi,os,ok,op,oq⟩):Calls prog 223 #[pA b,.agg #[I O oi,I O os,I O ok,I O op,I O oq],.func (.func ga) fa ca,.func (.func gt) #[] ct] w fun e w'=>Eg K w w' G os L1 L2 (A4 al tr (V1 (3-os) L1 L2) ⟨oi,os,ok,op,oq⟩ s0) e:=by
 have HS:=J6 u;have p2:=u.ega;have p3:=u.egt;have e1:=u.lt h;have h7:=u.ok h;obtain⟨l,hl⟩:=exq (V1 (3-os) L1 L2);rw[hl];have k6:∀x∈l,KG x:=fun x hx=>by
  rw[<-hl]at hx;refine h7.ok x ?_;unfold V1 at hx
  split at hx
  ·exact T9 _ hx
  exact JJ _ hx
 have n6:l.length<=100:=by
  have h1:=h7.cnt;rw[B6]at h1;rw[<-hl];unfold V1
  split<;>omega
 obtain⟨n,hn⟩:=exq l.length;rw[hn]at n6;have j1:Bz w (w.alloc (.cells (Z8 ⟨oi,os,ok,op,oq⟩) 84)):=(J9 _ w).alloc Q2 _;have c8:Bz w ((w.alloc (.cells (Z8 ⟨oi,os,ok,op,oq⟩) 84)).alloc (.cells (Z8 D4) 84)):=j1.alloc Q3 _;have hX:=G0 (Z5 w 84 (Z8 ⟨oi,os,ok,op,oq⟩)) (.cells (Z8 D4) 84);have j:J7 ((w.alloc (.cells (Z8 ⟨oi,os,ok,op,oq⟩) 84)).alloc (.cells (Z8 D4) 84)) (w.heap.size+1) 84 (Z8 D4):=by have:=Z5 (w.alloc (.cells (Z8 ⟨oi,os,ok,op,oq⟩) 84)) 84 (Z8 D4);rw[Xl]at this;exact this
 obtain⟨w2,b1⟩:=exq ((w.alloc (.cells (Z8 ⟨oi,os,ok,op,oq⟩) 84)).alloc (.cells (Z8 D4) 84));rw[b1]at c8 hX j;have e9:=u.keep h (B9 c8 (fun _=>False)) (fun _ _=>id);have h3:=l2 e9 (3-os) (by unfold V5 at b8|-;omega);rw[hl,hn]at h3;obtain⟨HC,HX,HY,b9,c6,i4,m5,HN⟩:=Xu2 h3 hX j c8 e1 e9 k6 hn;have HL:=J6 hl;have o5:=hX.lt;have o6:=j.lt;have o3:V3 oq:=hf.2.2.2.2;obtain⟨y,C,D,E,J⟩:=D7 hX;dsimp only at y C D E J;clear u h l2 h7 k6 j1 c8 hX j e9 h3 hn e1 hf;unfold Z8 D4 at b1;dsimp only at b1;have i3:RowKit.wrap64 (3-os)=3-os:=by unfold V5 at b8;unfold RowKit.wrap64;omega
 go_enter func223,ntmps223
 go_upto_region 2 with fail
 try rw[b1]
 clear b1;go_wp2_with fail
 refine HC.mono ?_;rintro e w3⟨b5,AL,cl,rfl,l1,e2⟩;have o4:w.heap.size<=w2.heap.size:=b9.size;have e5:=J6 (show GY K al tr cnt w w3 s0 s0 G G L1 L2 L1 L2 l oi os ok op oq oq w.heap.size (w.heap.size+1) AL n cl none 0 [] [] 0 from
  ⟨⟨⟨HS.keep i4 (B9 b5 (fun _=>False)) (fun _ _=>id),S5 (b9.trans (b5.mono b9.size)),QY _ _ _ _,fun g hg=>by simp[X5]at hg⟩,Z4 HX b5,Z4 HY b5,fun e=>NG _ (c6 _ e),fun e=>by have:=c6.out _ e;omega,by simp[X5],by simp[X5],Q0,l1,fun g hg=>⟨fun e=>by have:=c6.out _ e;have:=e2 g hg;omega,by simp[X5],by have:=e2 g hg;omega,by have:=e2 g hg;omega⟩,X3 _,Q0⟩,by rw[Xs];rfl,rfl,by rw[Xs,EE];exact HL,U9 _,o3,by rw[h0];exact U9 _⟩)
 clear b5 l1 e2 y C D E J HX HY HC i4 c6;obtain⟨X,eX⟩:=exq w.heap.size;obtain⟨Y,eY⟩:=exq (w.heap.size+1);rw[eY,eX]at e5|-;have p1:=J6 eX;clear eX eY o5 o6 b9 o4;go_wp2_with fail
 go_loopg [11,28] n (fun gg o7 o9 wr=>∃k q s G' M1 M2 A c F R,k<=n/\gg=n-k/\o9=I O k/\o7=.slice A F.length c/\Hid (GY K al tr cnt w wr s0 s G G' L1 L2 M1 M2 l oi os ok op oq q X Y AL n cl A c F R k))
 case atStart=>exact⟨0,oq,s0,G,L1,L2,none,0,[],[],U9 _,rfl,rfl,rfl,e5⟩
 obtain⟨k,q,s,G',M1,M2,A,c,F,R,hk,rfl,rfl,rfl,HW⟩:=hrel;clear e5
 by_cases e1:k<n
 ·have h6:k<l.length:=by rw[HN.out];exact e1
  obtain⟨gl,n5⟩:=EL HW.v.lr Q0;subst n5;obtain⟨y0,y1,y2,y3,y4⟩:=ER HW.v.lr h6;have h4:=CZ h6;have h8:=m5.out l[k] (C7 h6);obtain⟨x,hx⟩:=exq (l[k]);rw[hx]at y0 y1 y2 y3 y4 h4 h8;obtain⟨a7,b0⟩:=Xt6 h4 h8;have n8:(k:Int)<(n:Int):=Q0;have h5:(0:Int)<=(k:Int):=Q0;clear h4 h8 hx;go_upto_region 6 with fail
  obtain⟨wa,i8⟩:=exq (wr.alloc (.cells #[I O x.id,I O x.side,I O x.kind,I O x.price,I O x.qty] 84));obtain⟨Z,eZ⟩:=exq wr.heap.size;have hZ:=Z5 wr 84 (Z8 x);unfold Z8 at hZ;have d8:=HW.below HS ((J9 wr.heap.size wr).alloc Q2 (.cells #[I O x.id,I O x.side,I O x.kind,I O x.price,I O x.qty] 84));have e8:¬G' wr.heap.size:=fun e=>NG _ (HS.lt HW.v.m.mk_ _ e)
  have g0:X5 A≠some wr.heap.size:=fun e=>NG _ (HW.v.m.row.lt e)
  have g3:wr.heap.size≠X:=fun e=>by have:=Z9 HW.v.bx;omega
  rw[i8]at hZ d8|-;rw[eZ]at hZ e8 g0 g3|-;obtain⟨n2,n3⟩:=Xt6 g0 g3;clear g0 g3;obtain⟨y,C,D,E,J⟩:=D7 d8.v.bx;obtain⟨z0,z1,z2,z3,z4⟩:=S0 hZ;dsimp only at y C D E J;obtain⟨N,HZ,m4⟩:=Xt7 d8 hZ e8;clear d8 hZ e8 HW i8 eZ y0 y1 y2 y3 y4
  by_cases c0:q<1
  ·have d0:decide (q<1)=true:=V7 c0
   have a3:=J6 c0;clear c0;have j:=N.v.by_;obtain⟨v0,v1,v2,v3,v4⟩:=D7 j;have f0:=K0 j 0;have f1:=K0 j 1;have f2:=K0 j 2;have f3:=K0 j 3;have f4:=K0 j 4;obtain⟨a1,a2⟩:=RN j (I O oi) (I O os) (I O ok) (I O op) (I O q);obtain⟨a4,a5⟩:=Xt6 a1 a2;clear j a1 a2;go_wp2_with fail
   go_region
   go_wp2_with fail
   exact RP rfl (o:=⟨oi,os,ok,op,q⟩) Y rfl rfl rfl rfl (Y6 a4) (N.done HS (by rw[a7.out];exact Sv a3) (a5.then_ (Z2 Q5)))
  have d0:decide (q<1)=false:=V9 c0;have a3:Hid (1<=q):=J6 Q0;clear c0
  by_cases c1:x.kind=2
  ·have d1:=V4 c1
   have a9:=J6 c1;clear c1;go_wp2
   go_roundg (n-(k+1))
   case measure=>omega
   exact⟨k+1,q,s,G',M1,M2,A,c,F,R++[x],Q0,rfl,J5,rfl,J6 (N.pass a7 (by have:=a3.out;omega) a9)⟩
  have d1:=Z3 c1;have a9:=J6 c1;clear c1;go_upto_region 9 with fail
  go_cut [42] (fun p0 wx=>p0=.bool (VA ⟨oi,os,ok,op,q⟩ x)/\wx=wa)
  case first=>
   by_cases c2:ok=2
   ·have d2:=KN c2
    have HE:Hid (VA ⟨oi,os,ok,op,q⟩ x=false):=J6 (by unfold VA;dsimp only;rw[V4 c2];rfl);clear c2;go_wp2;go_meet;exact⟨by rw[HE.out],rfl⟩
   have d2:=XQ c2;obtain u|u:=b8
   ·have d4:=V4 u
    by_cases c3:op<x.price
    ·have d3:=V7 c3
     have HE:Hid (VA ⟨oi,os,ok,op,q⟩ x=true):=J6 (by subst u;unfold VA;dsimp only;rw[Z3 c2];simp;exact c3);clear c2 c3 u;go_wp2;go_meet;exact⟨by rw[HE.out],rfl⟩
    have d3:=V9 c3;have d5:=Z3 (show os≠2 by omega);have HE:Hid (VA ⟨oi,os,ok,op,q⟩ x=false):=J6 (by subst u;unfold VA;dsimp only;rw[Z3 c2];simp;omega);clear c2 c3 u;go_wp2;go_meet;exact⟨by rw[HE.out],rfl⟩
   have d4:=Z3 (show os≠1 by omega);have d5:=V4 u
   by_cases c3:x.price<op
   ·have d3:=V7 c3
    have HE:Hid (VA ⟨oi,os,ok,op,q⟩ x=true):=J6 (by subst u;unfold VA;dsimp only;rw[Z3 c2];simp;exact c3);clear c2 c3 u;go_wp2;go_meet;exact⟨by rw[HE.out],rfl⟩
   have d3:=V9 c3;have HE:Hid (VA ⟨oi,os,ok,op,q⟩ x=false):=J6 (by subst u;unfold VA;dsimp only;rw[Z3 c2];simp;omega);clear c2 c3 u;go_wp2;go_meet;exact⟨by rw[HE.out],rfl⟩
  obtain⟨rfl,rfl⟩:=hcut;obtain⟨bb,a6⟩:=exq (VA ⟨oi,os,ok,op,q⟩ x);rw[a6];have e4:=J6 a6;clear a6
  cases bb with
  |true=>
   have j:=N.v.by_;obtain⟨v0,v1,v2,v3,v4⟩:=D7 j;have f0:=K0 j 0;have f1:=K0 j 1;have f2:=K0 j 2;have f3:=K0 j 3;have f4:=K0 j 4;obtain⟨a1,a2⟩:=RN j (I O oi) (I O os) (I O ok) (I O op) (I O q);obtain⟨a4,a5⟩:=Xt6 a1 a2;clear j a1 a2;go_wp2_with fail
   go_region
   go_wp2_with fail
   exact RP rfl (o:=⟨oi,os,ok,op,q⟩) Y rfl rfl rfl rfl (Y6 a4) (N.done HS (by rw[a7.out];exact Ml (by have:=a3.out;show¬q<1;omega) a9 e4) (a5.then_ (Z2 Q5)))
  |false=>
   go_wp2_with fail
   go_at_fn ga
   refine(HS.allows x.price N.v.m.mk_ ⟨b0.2.2.1.1,b0.2.2.1.2⟩).mono ?_;rintro e wb⟨rfl,a6⟩;have f6:=N.below HS a6;have g4:=Z4 HZ a6;obtain⟨ab,g6⟩:=exq (al s x.price);rw[g6];obtain⟨h9,N,HZ⟩:=Xt7 g6 f6 g4;obtain⟨y,C,D,E,J⟩:=D7 f6.v.bx;obtain⟨z0,z1,z2,z3,z4⟩:=S0 g4;dsimp only at y C D E J;clear f6 g4 a6 g6
   cases ab with
   |false=>
    have j:=N.v.by_;obtain⟨v0,v1,v2,v3,v4⟩:=D7 j;have f0:=K0 j 0;have f1:=K0 j 1;have f2:=K0 j 2;have f3:=K0 j 3;have f4:=K0 j 4;obtain⟨a1,a2⟩:=RN j (I O oi) (I O os) (I O ok) (I O op) (I O q);obtain⟨a4,a5⟩:=Xt6 a1 a2;clear j a1 a2;go_wp2_with fail
    go_region
    go_wp2_with fail
    exact RP rfl (o:=⟨oi,os,ok,op,q⟩) Y rfl rfl rfl rfl (Y6 a4) (N.done HS (by rw[a7.out];exact Sw (by have:=a3.out;show¬q<1;omega) a9 e4 h9) (a5.then_ (Z2 Q5)))
   |true=>
    clear y C D E J z0 z1 z2 z3 z4;obtain⟨m,hm⟩:=exq (min q x.qty);have e3:=a3.out;have p6:=b0.2.2.2;have o2:=N.qb;unfold V3 at o2;have n9:1<=m:=Q0;have o1:m<=x.qty:=Q0;have p5:m<=q:=Q0;have HM:=J6 hm;clear hm;go_upto_region 13 with fail
    obtain⟨y,C,D,E,J⟩:=D7 N.v.bx;obtain⟨z0,z1,z2,z3,z4⟩:=S0 HZ;dsimp only at y C D E J
    go_cut [16] (fun o8 wx=>o8=I O m/\wx=wb)
    case first=>
     go_wp2_with fail
     all_goals go_meet
     all_goals refine⟨?_,rfl⟩
     all_goals rw[<-HM.out]
     all_goals congr 1
     all_goals omega
    obtain⟨rfl,rfl⟩:=hcut;have p4:F.length<=100000000:=by have:=N.fl;omega
    have l7:Hid (cnt s<=F.length):=J6 N.cn;have l6:Hid (cnt s<=1000):=J6 (by have:=N.fl;have:=N.cn;omega);obtain⟨i0,k3,l3,l4,l5⟩:=W8 Up;go_upto_region 15 with fail
    have b2:Bz wc (wc.alloc (.cells #[I O oi,I O x.id,I O x.price,I O m] 127)):=Q5.alloc Q2 _;have hQ:=Z5 wc 127 #[I O oi,I O x.id,I O x.price,I O m];obtain⟨Q,eQ⟩:=exq wc.heap.size;have m8:Hid (wc.heap.size<=Q):=J6 Q0;obtain⟨wf,i9⟩:=exq (wc.alloc (.cells #[I O oi,I O x.id,I O x.price,I O m] 127));have f7:=N.below HS b2;have f8:X≠wc.heap.size:=fun e=>by have:=Z9 N.v.bx;omega
    have g5:=Z4 HZ b2;rw[i9]at hQ f7 g5 b2|-;have c5:=J6 b2;rw[eQ]at hQ f8|-;have n1:=J6 f8;clear f8;obtain⟨a0,a8,HQ⟩:=Xt7 f7 g5 hQ;clear y C D E J z0 z1 z2 z3 z4 b2 i9 eQ f7 g5;obtain⟨y,C,D,E,J⟩:=D7 a0.v.bx;obtain⟨z0,z1,z2,z3,z4⟩:=S0 a8;obtain⟨q0,q1,q2,q3⟩:=Gc hQ;dsimp only at y C D E J;clear hQ;obtain⟨fb,fs,k0,j9,j8⟩:∃a b,CJ ⟨oi,os,ok,op,q⟩ x m=⟨a,b,x.price,m⟩/\(os=2->a=x.id/\b=oi)/\(os≠2->a=oi/\b=x.id):=by
     unfold CJ;dsimp only
     split
     ·exact⟨_,_,rfl,fun _=>⟨rfl,rfl⟩,fun h=>absurd ‹_› h⟩
     exact⟨_,_,rfl,fun h=>absurd h ‹_›,fun _=>⟨rfl,rfl⟩⟩
    obtain⟨m0,l9,l8⟩:=Xt7 k0 j9 j8;clear k0 j9 j8;go_upto_if 95 with fail
    go_cut [] (fun wx=>Hid (Bz wf wx\/X4 (fun i=>i=Q) wf wx)/\Hid (J7 wx Q 127 #[I O fb,I O fs,I O x.price,I O m]))
    case first=>
     obtain u|u:=b8
     ·have d5:=Z3 (show os≠2 by omega)
      have HG:=J6 (l8 Q0);clear u;go_wp2;go_meet;rw[HG.1,HG.2];exact⟨J6 (.inl Q5),HQ⟩
     have d5:=V4 u;have HG:=J6 (l9 u);have f0:=K0 HQ 0;have f1:=K0 HQ 1;have k4:=U1 wf ⟨Q,0,none⟩ (I O x.id);have p7:=(k4.cell (p:=⟨X,0,none⟩) (Z9 a0.v.bx) (fun e=>n1 e)).trans y;have e3:=Z0 HQ 0 (I O x.id);have g1:(wf.setCell ⟨Q,0,none⟩ (I O x.id)).cell? ⟨Q,1,none⟩=some (I O x.id):=by rw[X9 e3];rfl
     have g2:=K0 e3 1;clear k4 e3 u;go_upto_region 16 with fail
     go_region
     go_wp2;go_meet;rw[HG.1,HG.2];exact⟨J6 (.inr (((U1 wf ⟨Q,0,none⟩ (I O x.id)).trans (U1 _ ⟨Q,1,none⟩ (I O oi)) (fun _ h=>.inl h)).then_ (Z2 Q5))),J6 (Y6 (Z0 (Z0 HQ 0 _) 1 _))⟩
    case rest=>
    have g8:=hcut.1.elim (fun h=>c5.trans (h.mono c5.size)) (fun h=>c5.trans (h.below (fun i e=>e▸m8.out) c5.size));have f5:=N.below HS g8;have f9:=Z4 HZ g8;have c9:=hcut.2.out;obtain⟨wg,j0⟩:=exq wc;rw[j0]at f5 f9 c9|-;clear y C D E J z0 z1 z2 z3 z4 q0 q1 q2 q3 g8 j0 a0 a8 HQ hcut;obtain⟨a0,a8⟩:=Xt6 f5 f9;obtain⟨y,C,D,E,J⟩:=D7 a0.v.bx;obtain⟨z0,z1,z2,z3,z4⟩:=S0 a8;obtain⟨q0,q1,q2,q3⟩:=Gc c9;dsimp only at y C D E J;have HQ:=J6 c9;clear f5 f9 c9;have i5:=J6 (LW (show wg.ownsRow 0 127 4 (.slice A F.length c) F.length (X7 QT F)from a0.v.m.row) (.cells #[I O fb,I O fs,I O x.price,I O m] 127));go_upto_region 18 with(at_builtin;refine VZ _ rfl _ _ 85 rfl 0 127 i0 _ 4 32 underlying85 k3 l3 l4 l5 rfl Q0 (.slice A F.length c) F.length _ rfl i5 ⟨wg.heap.size,0,none⟩ 1 1 [I O fb,I O fs,I O x.price,I O m] rfl rfl (XF (cs:= #[I O fb,I O fs,I O x.price,I O m]) (t:=127) (fr:=(0,0)) (QN wg _)) J0 Q0 Q9 Q0 Q3 (wg.heap.size+1) Q3 ?_;intro gg cap w6 k8 k2 g7 n7)
    have d9:=WP k2;rw[C8]at d9 g7;have d6:=a0.v.fill HS (f:=⟨fb,fs,x.price,m⟩) d9 k8 (g7.imp id (fun e=>Q0));have j3:=V0 a8 d9 n2;obtain⟨k1,k9,k7⟩:=Qb9 (n:=m) (HS.ok d6.m.mk_) b8 (a0.oth.trans (by rw[a7.out]));have j7:=HS.cut x m d6.m.mk_ k1 n9 o1;obtain⟨i2,i6,e6,m7,m6,HEq,m3⟩:=Xu1 j7 d6 j3 (k9.trans a0.own) k7 (show A4 al tr l ⟨oi,os,ok,op,oq⟩ s0=XN.join (F++[⟨fb,fs,x.price,m⟩]) (R++FC x m) (A4 al tr (l.drop (k+1)) ⟨oi,os,ok,op,q-m⟩ (tr s x.price))from a0.eq.trans (by rw[a7.out,<-m0.out];exact Pt (by have:=a3.out;show¬q<1;omega) a9 e4 h9 HM)) a0.fl;clear y C D E J z0 z1 z2 z3 z4 q0 q1 q2 q3 d9 k8 k2 g7 n7 d6 j3 k1 k9 k7 j7 i5 k3 l3 l4 l5 a0 a8 HQ N HZ;obtain⟨z0,z1,z2,z3,z4⟩:=S0 e6;go_wp2_with fail
    refine i2.mono ?_;rintro e w7⟨rfl,G2,h5,g9⟩;have d7:=i6.turn h5 g9;have j4:=V0 e6 g9.1 (fun e=>m4 e);have j2:=d7.lots HS (q':=q-m);have j5:=V0 j4 (U1 w7 ⟨X,4,none⟩ (I O (q-m))) n3;have i1:RowKit.wrap64 (q-m)=q-m:=by unfold RowKit.wrap64;omega
    have f4:=K0 d7.bx 4;obtain⟨y,C,D,E,J⟩:=D7 d7.bx;dsimp only at y C D E J;obtain⟨c7,e7⟩:=Xt6 j2 j5;clear d7 j4 j2 j5 h5 g9 z0 z1 z2 z3 z4 i6 e6 i2;go_upto_region 20 with fail
    obtain⟨w8,i7⟩:=exq (w7.setCell ⟨X,4,none⟩ (I O (q-m)));rw[i7]at c7 e7|-;clear i7 y C D E J f4;obtain⟨z0,z1,z2,z3,z4⟩:=S0 e7;go_wp2_with fail
    go_at_fn gt
    refine(HS.trades x.price c7.m.mk_ ⟨b0.2.2.1.1,b0.2.2.1.2⟩ l6).mono ?_;rintro e w9⟨rfl,G3,k5,j6⟩;have m9:=J6 (c7.turn k5 j6);clear k5 j6 z0 z1 z2 z3 z4 c7 e7 i1;go_wp2
    go_roundg (n-(k+1))
    case measure=>omega
    exact⟨k+1,q-m,tr s x.price,G3,QV M1 x m,QV M2 x m,some ⟨gg,0,none⟩,cap,F++[⟨fb,fs,x.price,m⟩],R++FC x m,Q0,rfl,J5,Q3,J6 ⟨m9.out,HEq.out,m7.out,m6.out,by rw[B6,SN];exact Nat.succ_le_succ m3.out,(by unfold V3;omega),by have h1:=HS.out.cnt_ s x.price;have h2:=l7.out;rw[B6,SN];omega⟩⟩
 obtain rfl:k=n:=by omega
 have n8:¬(k:Int)<(k:Int):=Q0;have j:=HW.v.by_;obtain⟨v0,v1,v2,v3,v4⟩:=D7 j;obtain⟨y,C,D,E,J⟩:=D7 HW.v.bx;dsimp only at y C D E J;have f0:=K0 j 0;have f1:=K0 j 1;have f2:=K0 j 2;have f3:=K0 j 3;have f4:=K0 j 4;obtain⟨a1,a2⟩:=RN j (I O oi) (I O os) (I O ok) (I O op) (I O q);obtain⟨a4,a5⟩:=Xt6 a1 a2;clear j a1 a2;go_wp2_with fail
 go_region
 go_wp2_with fail
 have n4:l.drop k=[]:=GH (by rw[HN.out];exact X3 _);exact RP rfl (o:=⟨oi,os,ok,op,q⟩) Y rfl rfl rfl rfl (Y6 a4) (HW.done HS (by rw[n4,Qb8,BF]) (a5.then_ (Z2 Q5)))
theorem Xc8{L L1 L2}(h:M7 L L1 L2):∀o∈L,-1000000000<=o.qty/\o.qty<=1000000000:=fun o i=>by have:=(h.ok o i).1.2.2.2;omega
theorem Jg2{L L1 L2}(h:M7 L L1 L2)sd:∀o∈G7 sd L,-1000000000<=o.price/\o.price<=1000000000:=fun o i=>by have:=(h.ok o (S4.1 i).1).1.2.2.1;omega
theorem EH{L1 L2}(h:E5 L1 L2):Yq (L1++L2):=fun o i=>by
 have h1:=h.ok o i;refine⟨?_,h1.2.2.2,.inr h1.2.2.1⟩;obtain h2|h2:=B8.1 i
 ·exact .inl (h.s1 o h2)
 exact .inr (h.s2 o h2)
theorem Jg3{L1 L2}(h:E5 L1 L2)s k:0<=C4 s k (L1++L2)/\C4 s k (L1++L2)<=1000000000:=by have h1:=Qb (s:=s) (k:=k) (EH h);have h2:=h.cnt;omega
theorem Eh{L1 L2 lv bu se}(h:E5 L1 L2)(hk:CK lv)(i:UD lv bu se (fun s k=>C4 s k (L1++L2))):CT lv bu se:=
 i.mild hk (fun s k=>Jg3 h s k) (by have:=i.few hk;have:=h.cnt;omega)
theorem Qy2 z:T8 (U6 z)=T8 z:=by
 unfold T8 U6;dsimp only
 split<;>rfl
theorem Xc9{L1 L2 z}(i:V5 z.side)s k:C4 s k (QD 1 L1 z++QD 2 L2 z)=C4 s k (L1++L2)+if z.side=s/\T8 z=k then 1*z.qty else 0:=by
 have key:∀s' L,C4 s k (UF s' L (U6 z))=(if z.side=s/\T8 z=k then z.qty else 0)+C4 s k L:=fun s' L=>by
  rw[Sj (Km s' L (U6 z)),PJ,Qy2]
  rfl
 rw[NR,NR];unfold QD;obtain e|e:=i
 ·rw[X0 e,J8 Q0,key,Int.one_mul]
  omega
 rw[J8 Q0,X0 e,key,Int.one_mul];omega
theorem Jg4{L1 L2 z}(h:addE L1 L2 z=0):AH z:=by
 unfold addE at h
 cases h1:UG z with
 |false=>rw[h1]at h;simp at h
 |true=>
  cases h2:KS z with
  |false=>rw[h1,h2]at h;simp at h
  |true=>
   unfold UG at h1;unfold KS at h2;rw[RD]at h2;simp at h1;refine⟨h1.1,h2.2.2,?_⟩;unfold U6 at h2;dsimp only at h2
   by_cases hk:z.kind=2
   ·exact .inl hk
   rw[J8 hk]at h2;exact .inr ⟨h2.1,h2.2.1⟩
theorem Ei{lv lv' bu se bu' se' z}(i:AH z)(h:GU lv bu se z 1 lv' bu' se'):YG lv bu se z 1=0/\Qo lv bu se z 1 lv' bu' se':=by
 have e:YG lv bu se z 1=0:=by unfold YG;rw[X0 ((Qa z).2 i),J8 (by intro x;exact absurd x.1 Q1)]
 unfold GU at h;rw[X0 e]at h;exact⟨e,h⟩
theorem Xk9{m z}(h:addE m.L1 m.L2 z≠0):S3 m z=m:=by unfold S3 MW;rw[J8 h,J8 h]
theorem Xd0{m z}(h:addE m.L1 m.L2 z=0):S3 m z={m with L1:=QD 1 m.L1 z,L2:=QD 2 m.L2 z}:=by unfold S3 MW;rw[X0 h,X0 h]
def Ad(w w':World)(e tb bb bk im:Nat)(T:Option Addr)(tc:Nat)(Ap:Option Addr)(pc:Nat)(es:List MapEntry)(mc:Nat)(own:Nat->Nat->Prop)(m:Z6):Prop:=
 ∃cs Al lc lv bu se G own',U8 w' e cs tb bb bk im T tc Al lc lv bu se Ap pc es mc G own' (fun s k=>C4 s k (P1 m)) m/\U3 w w' own own'
theorem Ad.to{w w' e tb bb bk im T tc Ap pc es mc own m F}(h:Ad w w' e tb bb bk im T tc Ap pc es mc own m)(j:∀i,F i↔∃k,own i k):A5 w w' e F m:=by obtain⟨cs,Al,lc,lv,bu,se,G,own',u,y⟩:=h;exact⟨_,u.at_ (fun _ _ _=>rfl),y.bstep j⟩
theorem U8.lots{w e cs tb bb bk im T tc Al lc lv bu se Ap pc es mc G own g g' m}(h:U8 w e cs tb bb bk im T tc Al lc lv bu se Ap pc es mc G own g m) (i:∀s k,(s=1\/s=2)->g s k=g' s k):U8 w e cs tb bb bk im T tc Al lc lv bu se Ap pc es mc G own g' m:=
 ⟨h.ind,h.ec,h.is.congr i,h.tabl,h.tabc,h.tabp,h.bands,h.book,h.park,h.map_,h.keys,h.ids,h.ok,h.oe,h.ot,h.oT,h.ob,h.oG,h.ol,h.op,h.oi⟩
theorem Qf4{w e cs tb bb bk im T tc Al lc lv bu se Ap pc es mc G own m}(J:U8 w e cs tb bb bk im T tc Al lc lv bu se Ap pc es mc G own (fun s k=>C4 s k (P1 m)) m) z (hf:JV z):Calls prog 200 #[pA e,V6 z] w fun E w'=>E=.returned (.tuple #[])/\Ad w w' e tb bb bk im T tc Ap pc es mc own (S3 m z):=by
 have D:Bz w (w.alloc (.cells (Z8 z) 84)):=(J9 _ w).alloc Q2 _;have C:=Z5 w 84 (Z8 z);have i:=J.below D;obtain⟨w1,y⟩:=exq (w.alloc (.cells (Z8 z) 84));rw[y]at D C i;have Z:=Qx5 w1.drew bk G m.L1 m.L2 (i.book.below (Z2 Q5)) z hf;unfold Z8 at y;unfold V6 at Z|-;obtain⟨HAdd,j,HX,u,HO,c5⟩:=Xu0 Z i C D J.ok hf;have c8:=i.cell i.ec.c8;obtain⟨x0,x1,x2,x3,x4⟩:=D7 C;clear J D C i Z hf;go_enter func200,ntmps200
 go_upto_region 1 with fail
 try rw[y]
 clear y
 go_still_tail 5,Q4
 change wpList _ _ _ _ _ w1.drew;go_wp2_with fail
 refine HAdd.mono ?_;rintro E w2(⟨hne,rfl,hb2⟩|⟨hz,rfl,hto⟩)
 ·have a5:Bz w1 w2:=(Z2 (J9 _ w1)).trans hb2
  obtain⟨a2,a8⟩:=Xt6 a5 hne;clear hb2 a5 c8 x0 x1 x2 x3 x4;unfold Y9;rw[J8 hne];clear hne HAdd;go_wp2_with fail
  refine EF (YV rfl _ _ _) rfl ?_;rw[Xk9 a8.out];exact⟨rfl,_,_,_,_,_,_,_,_,j.below a2,N0 (u.trans (a2.mono u.size))⟩
 rw[DB];obtain⟨G2,own2,N,a1⟩:=(j.below (Z2 (J9 _ w1))).bookTo hto;have a4:=V0 (Y6 HX) a1.1 (fun⟨k,hk⟩=>NG _ (HO.lt _ _ hk));have a6:=Eh j.book.lists j.ind.ok j.is;have a0:=Ew w2.drew e 203 cs 9 Al lc lv bu se (N.below (Z2 (J9 _ w2))).ind a6.small z;unfold V6 at a0;obtain⟨a7,a3,a9,HZ⟩:=Xt8 a0 N a1 hz;obtain⟨x0,x1,x2,x3,x4⟩:=D7 a4;clear hto N a1 a4 a6 a0 hz HAdd c8;go_wp2_with fail
 go_still_tail 4,Q4
 change wpList _ _ _ _ _ w2.drew;go_wp2_with fail
 refine a7.mono ?_;rintro E w3⟨rfl,lv',bu',se',hit,b8⟩;clear x0 x1 x2 x3 x4;go_wp2_with fail
 refine EF (YV rfl _ _ _) rfl ?_;have hr:=Jg4 HZ;obtain⟨-,b1⟩:=Ei hr b8;have b2:=(a3.is).chg hr.1 b1;obtain⟨c6,b9,c7,c9,b0,b5⟩:=(a3.below (Z2 (J9 _ w2))).indTo hit b2;rw[Xd0 HZ.out];refine⟨rfl,_,_,_,_,_,_,_,_,b0.lots (fun s k hs=>?_),(((N0 (u.trans ((Z2 (J9 _ w1)).mono u.size))).trans a9).trans (N0 (Z2 (J9 _ w2)))).trans b5⟩;exact(Xc9 hr.1 s k).symm
theorem Sy w e F m(h:D8 w e F m)z(y:JV z):Calls prog 200 #[pA e,V6 z] w fun i w'=>i=.returned (.tuple #[])/\A5 w w' e F (S3 m z):=by obtain⟨cs,tb,bb,bk,im,T,tc,Al,lc,lv,bu,se,Ap,pc,es,mc,G,own,u,j⟩:=h;exact(Qf4 u z y).mono fun i w'⟨h1,h2⟩=>⟨h1,h2.to j⟩
theorem Xd1{L}(i:(L.map (·.id)).Nodup){id o}(h:B4 L id=some o):L.Perm (o::L9 L id):=by
 have J6:o.id=id:=by have:=Xo h;simpa using this
 obtain⟨A,B,rfl⟩:=List.append_of_mem (NE h);rw[L6,T2,BE,UX]at i;have e:L9 (A++o::B) id=A++B:=by
  unfold L9;rw[JE,ED (by simp[J6]),VT.2 (fun y j=>?_),VT.2 (fun y j=>?_)]
  ·have:y.id≠id:=fun e=>i.2.1.1 (by rw[J6,<-e];exact Y4.2 ⟨y,j,rfl⟩)
   simpa using this
  have:=i.2.2 _ (Y4.2 ⟨y,j,rfl⟩) _ (FR);rw[J6]at this;simpa using this
 rw[e];exact Vk
theorem Xd2{L1 L2}(i:E5 L1 L2){id o}(h:B4 (L1++L2) id=some o)s k:C4 s k (L9 L1 id++L9 L2 id)=C4 s k (L1++L2)+if o.side=s/\T8 o=k then -1*o.qty else 0:=by
 have e:L9 L1 id++L9 L2 id=L9 (L1++L2) id:=(JE _ _).symm;rw[e,Sj (Xd1 i.ids h),PJ]
 split<;>omega
theorem Sz{lv lv' bu se bu' se' z}(i:AH z)(j:z.qty<=BZ lv bu se z)(h:GU lv bu se z (-1) lv' bu' se'):YG lv bu se z (-1)=0/\Qo lv bu se z (-1) lv' bu' se':=by
 have e:YG lv bu se z (-1)=0:=by unfold YG;rw[X0 ((Qa z).2 i),J8 Q0]
 unfold GU at h;rw[X0 e]at h;exact⟨e,h⟩
def WK(m:Z6)(id:Int):Z6:={m with L1:=L9 m.L1 id,L2:=L9 m.L2 id}
theorem Pu{m id}(h:B4 (P1 m) id=none):WK m id=m:=by
 unfold WK;unfold B4 at h;rw[GN]at h;have e:∀L,(∀o∈L,o∈P1 m)->L9 L id=L:=fun L j=>VT.2 (fun o i=>by have:=h o (j o i);simpa using this)
 rw[e _ (fun o i=>T9 _ i),e _ (fun o i=>JJ _ i)]
theorem Jr0 w e F m(h:D8 w e F m)id:Calls prog 146 #[pA e,I O id] w fun J w'=>J=.returned (.tuple #[])/\A5 w w' e F (WK m id):=by
 obtain⟨cs,tb,bb,bk,im,T,tc,Al,lc,lv,bu,se,Ap,pc,es,mc,G,own,u,hF⟩:=h;have a4:=Vo w bk G m.L1 m.L2 u.book id;obtain⟨D,i,HF⟩:=Xt7 a4 u hF;have c8:=u.cell u.ec.c8;clear u a4 hF;go_enter func146,ntmps146
 go_wp2_with fail
 refine D.mono ?_;rintro J w2(⟨hno,rfl,hb2⟩|⟨o,hgo,rfl,hto⟩)
 ·have a8:=J6 hno
  have a0:=J6 hb2;clear hno hb2 D c8;have e7:Y9 7=.iface 52 (I O 7):=rfl;rw[e7];go_wp2_with fail
  refine EF (YV rfl _ _ _) rfl ?_;rw[Pu a8.out];have j:Bz w (w2.alloc (.cells (Z8 D4) 84)):=a0.alloc a0.size _;exact⟨rfl,_,(i.below j).at_ (fun _ _ _=>rfl),(N0 j).bstep HF⟩
 obtain⟨G2,own2,a3,a6⟩:=i.bookTo hto;have j:Bz w2 (w2.alloc (.cells (Z8 o) 84)):=(J9 _ w2).alloc Q2 _;have N:=Z5 w2 84 (Z8 o);have C:=a3.below j;obtain⟨w3,y⟩:=exq (w2.alloc (.cells (Z8 o) 84));rw[y]at j N C;have a5:=Eh i.book.lists i.ind.ok i.is;have Z:=Qa0 w3.drew e 203 cs 9 Al lc lv bu se (C.below (Z2 (J9 _ w3))).ind a5.small o;unfold V6 at Z;obtain⟨a7,a2,a9,a1,E⟩:=Xt9 Z C a6 j hgo;obtain⟨x0,x1,x2,x3,x4⟩:=D7 N;clear hto a3 a6 N a5 Z hgo D c8 C j;unfold Z8 at y;unfold V6;rw[DB];go_upto_region 1 with fail
 try rw[y]
 clear y;go_wp2_with fail
 go_still_tail 4,Q4
 change wpList _ _ _ _ _ w3.drew;go_wp2_with fail
 refine a7.mono ?_;rintro J w4⟨rfl,lv',bu',se',hit,b8⟩;clear x0 x1 x2 x3 x4;go_wp2_with fail
 refine EF (YV rfl _ _ _) rfl ?_;have hr:AH o:=EH i.book.lists o (NE E);have hq:o.qty<=BZ lv bu se o:=by rw[i.is.has hr.1];exact Xb0 (EH i.book.lists) (NE E)
 obtain⟨-,b1⟩:=Sz hr hq b8;have b2:=(a2.is).chg hr.1 b1;obtain⟨c5,b9,c6,c7,b0,b5⟩:=(a2.below (Z2 (J9 _ w3))).indTo hit b2;refine⟨rfl,_,MF (m:=WK m id) b0 (fun s k hs=>?_),((a9.trans (N0 (a1.trans ((Z2 (J9 _ w3)).mono a1.size)))).trans b5).bstep HF⟩;exact(Xd2 i.book.lists E s k).symm
