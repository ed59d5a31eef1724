/- Parts. -/
import Derived.Test.YtfoikonjjojkaaaGreatDoorZt13
set_option linter.unusedVariables false
set_option maxRecDepth 100000
set_option maxHeartbeats 8000000
open Go.Proofs.Tryz
open Go.Value renaming int→I,pointer→IP
open Go.IntKind renaming i64→O
namespace Go.Proofs.YtfoikonjjojkaaaGreatDoor
open Go.RowKit
theorem PR{w g t a b c d e}(h:J7 w g t #[a,b,c,d,e]):w.cell? (aD g 0)=some a/\w.cell? (aD g 1)=some b/\w.cell? (aD g 2)=some c/\w.cell? (aD g 3)=some d/\w.cell? (aD g 4)=some e:=
 ⟨by rw[X9 h];rfl,by rw[X9 h];rfl,by rw[X9 h];rfl,by rw[X9 h];rfl,by rw[X9 h];rfl⟩
theorem Xr1{W w1}(i:Bz W w1):(∀b o,b<W.heap.size->w1.cell? (aD b o)=W.cell? (aD b o))/\(∀b o,b<W.heap.size->w1.frozen? (aD b o)=W.frozen? (aD b o)):=
 ⟨fun b o h=>i.cell (p:=(aD b o)) h,fun b o h=>i.frozen (p:=(aD b o)) h⟩
theorem X4.drew0{S w w'}(h:X4 S w.drew w'):X4 S w w':=⟨h.os,h.tape,h.output,h.size,h.block⟩
theorem Qr8{w b a n r F M f H reg h1 h2 sd pr mk}(j:Y0 w b a F M n r f H reg):let W:=(w.alloc (.cells #[I O 0,I O 0,I O 0,I O 0,I O 0] 84)).alloc (.cells #[I O h1,I O h2,I O sd,I O pr,.bool mk] 263)
  Bz w W/\Y0 W b a F M n r f H reg/\J7 W w.heap.size 84 #[I O 0,I O 0,I O 0,I O 0,I O 0]/\J7 W (w.heap.size+1) 263 #[I O h1,I O h2,I O sd,I O pr,.bool mk]:=by
 intro W;have i:Bz w W:=((J9 _ w).alloc Q2 _).alloc Q3 _;refine⟨i,j.below i,G0 (Z5 w _ _) _,?_⟩;have:=Z5 (w.alloc (.cells #[I O 0,I O 0,I O 0,I O 0,I O 0] 84)) 263 #[I O h1,I O h2,I O sd,I O pr,.bool mk]
 rwa [Xl]at this
theorem Xk1 w r f(h:QF w r f)id:∃w',(∀i,(Builtin.delete_ #[266,3] i #[.map (some r),I O id]).run prog w=.ok (.tuple #[]) w')/\QF w' r (T7 f id none)/\CG w w' r:=by obtain⟨w',h1,h2,j⟩:=h.delete (P:=prog) (t:=266) underlying266 underlying3 id 3 0;exact⟨w',fun i=>h1,h2,j⟩
section
variable {M:Int->Int->Option X6} {n m:Nat} {f:Int->Option Value} {H:Int->HS} {s:Int}
theorem Xk2(j:V5 s)(i:B5 M n f H)(h2:n<=100):(H s).ms.length<=1000:=by have h1:=i.cnt;unfold E8 HS.all N6 at h1;simp only[List.length_append]at h1;obtain rfl|rfl:=j<;>omega
theorem Qf0(u:V5 s)(j:B5 M n f H)(h2:n<=100):(H s).qs.length<=100000:=by
 have h1:=j.cnt;have E:(H s).qs.length<=(C9 (H s).qs).length:=by
  have i:=j.ne s u;generalize(H s).qs=l at i
  induction l with
  |nil=>simp
  |cons q l y=>
   have y:=y (fun q C=>i q (by simp[C]));have D:0<q.os.length:=RZ.2 (i q Q3);have e:C9 (q::l)=q.os++C9 l:=rfl;rw[e,B6,JA];omega
 unfold E8 HS.all N6 at h1;simp only[List.length_append]at h1;obtain rfl|rfl:=u<;>omega
theorem Xn8(j:V5 s)(i:B5 M n f H)(h2:n<=100){k}(hk:k<(H s).qs.length):(H s).qs[k].os.length<=1000:=by
 have h1:=i.cnt;have u:(H s).qs[k].os.length<=(C9 (H s).qs).length:=by rw[NT _ hk];simp only[List.length_append];omega
 unfold E8 HS.all N6 at h1;simp only[List.length_append]at h1;obtain rfl|rfl:=j<;>omega
end
def Fr(w wx:World)(qg k:Nat)(A:Option Addr)(c:Nat)(os:List HO)(h:Int×Int):Prop:=
 ∃w5,wx=World.setCell w5 (aD qg (k*2+1)) (.slice A (os.filter (L3 h)).length c)/\X4 (fun i=>X5 A=some i) w w5/\X8 w5 A (os.filter (L3 h)).length c 261 2 (X7 S7 (N9 (os.filter (L3 h))))
theorem Jp7{w w5 qg k A c os h}(hk:X4 (fun i=>X5 A=some i) w.drew w5)(j:X8 w5 A ((N9 os).filter fun p=> !WA h p).length c 261 2 (X7 S7 ((N9 os).filter fun p=> !WA h p))):Fr w (w5.setCell (aD qg (k*2+1)) (.slice A ((N9 os).filter fun p=> !WA h p).length c)) qg k A c os h:=by refine⟨w5,by rw[Bb],hk.drew0,?_⟩;rw[Bb,<-Cc]at j;exact j
def Yr(w wx:World)(b a r:Nat)(F:Nat->Prop)(M:Int->Int->Option X6)(n:Nat)(f':Int->Option Value)(H:Int->HS)(s id h1 h2:Int)(pb rb:Nat)(place:Array Value):Prop:=
 ∃H5 reg5,Y0 wx b a F M n r f' H5 reg5/\U2 w wx (Y1 b r F H) (Y1 b r F H5)/\B5 (XA M h1 h2 none) (n-1) f' H5/\(H5 s).L=L9 (H s).L id/\(∀s',s'≠s->H5 s'=H s')/\J7 wx pb 263 place/\J7 wx rb 84 #[I O 0,I O 0,I O 0,I O 0,I O 0]/\¬Y1 b r F H5 rb
section
variable {w5:World} {b a n r:Nat} {F:Nat->Prop} {M:Int->Int->Option X6} {f:Int->Option Value} {H:Int->HS} {reg:Nat->Int} {s:Int}
theorem Ft(D:V5 s){h'}(u:∀i,DJ h' i->DJ (H s) i){i}(h:¬Y1 b r F H i):¬Y1 b r F (P8 H s h') i:=fun y=>
 (Yp D (m:=i+1) (fun j C=>.inl (u j C)) i y).elim h Q0
theorem Xb3{W h1 h2 o}(y:Y0 w5 b a F M n r f H reg)(C:Bz w5 W)(u:M h1 h2=some o):Calls prog 233 #[pA a,.agg #[I O h1,I O h2]] W fun e w'=>e=.returned (.tuple #[.agg #[I O o.id,I O o.side,I O o.kind,I O o.price,I O o.qty],.nilIface])/\∃i reg6,Y0 w' b a i (XA M h1 h2 none) (n-1) r f H reg6/\U2 W w' (Y1 b r F H) (Y1 b r i H):=by
 have j:=y.below C;refine(Jz5 j.ar Q0 h1 h2).mono ?_;rintro e w'⟨rfl,D⟩;refine⟨by unfold Jj Jk;rw[u];rfl,?_⟩;rcases D with⟨h,_⟩|⟨_,_,E⟩
 ·rw[u]at h;cases h
 exact j.arena E
theorem Pm{w t Q g cs v}(hp:t.tmps.getD 4 undef=pA g)(i:t.tmps.getD 5 undef=v)(u:t.defers=[])(y:J7 w g 84 cs) (E:cs.size=5) (h:Q (.returned (.tuple #[.agg cs,v])) w):bodyPost prog Tryz.f203 Q .ret t w:=by
 refine QA (v:=.tuple #[.agg cs,v]) ?_ u h;have C:=Vl (P:=prog) w g _ 84 cs (0,0) _ y underlying84 rfl (by rw[E];kernel_rfl);have D:t.tmps[4]?.getD undef=pA g:=by simpa using hp
 have j:t.tmps[5]?.getD undef=v:=by simpa using i
 simp[results,Tryz.results203,D,j,asAddr,C]
end
theorem Xn9 w g a b c d e:X4 (fun i=>i=g) w (((((w.setCell (aD g 0) a).setCell (aD g 1) b).setCell (aD g 2) c).setCell (aD g 3) d).setCell (aD g 4) e):=
 ((((U1 w ⟨g,0,none⟩ a).trans (U1 _ ⟨g,1,none⟩ b) (fun i h=>.inl h)).trans (U1 _ ⟨g,2,none⟩ c) (fun i h=>.inl h)).trans (U1 _ ⟨g,3,none⟩ d) (fun i h=>.inl h)).trans (U1 _ ⟨g,4,none⟩ e) (fun i h=>.inl h)
theorem Jp8{w w6 b a n r rb F F6 M' f' H H5 reg6 s id x0 x1 x2 x3 x4}(y:Y0 w6 b a F6 M' (n-1) r f' H5 reg6)(j:U2 w w6 (Y1 b r F H) (Y1 b r F6 H5))(J:¬Y1 b r F6 H5 rb) (N:w.heap.size<=rb) (D:B5 M' (n-1) f' H5) (u:(H5 s).L=L9 (H s).L id) (C:∀s',s'≠s->H5 s'=H s'):Uy w (((((w6.setCell (aD rb 0) x0).setCell (aD rb 1) x1).setCell (aD rb 2) x2).setCell (aD rb 3) x3).setCell (aD rb 4) x4) b a r F n H s id:=by have hk:=Xn9 w6 rb x0 x1 x2 x3 x4;exact⟨F6,M',f',H5,reg6,y.keeps hk (fun i E e=>J (by rw[<-e];exact E)),D,⟨j.1.trans hk (fun i e=>.inr (by rw[e];exact N)),j.2⟩,u,C⟩
section
variable {w w4 wx w7:World} {b a n r k qg pb rb:Nat} {F:Nat->Prop} {M:Int->Int->Option X6} {f f':Int->Option Value} {H:Int->HS} {reg4 reg6:Nat->Int} {s:Int} {q:QG} {h:Int×Int} {o:X6} {pl:Array Value}
def LH(H:Int->HS)(s:Int)(k:Nat)(q:QG)(h:Int×Int):Int->HS:=P8 H s ⟨(H s).mA,(H s).mc,(H s).qA,(H s).qc,(H s).ms,(H s).qs.set k ⟨q.price,q.A,q.c,q.os.filter (L3 h)⟩⟩
def Gb(w wx:World)(b a r:Nat)(F:Nat->Prop)(M:Int->Int->Option X6)(n:Nat)(f':Int->Option Value)(H:Int->HS)(s:Int)(k:Nat)(q:QG)(h:Int×Int)(pb rb:Nat)(pl:Array Value):Prop:=
 ∃reg6,Y0 wx b a F M n r f' (LH H s k q h) reg6/\U2 w wx (Y1 b r F H) (Y1 b r F (LH H s k q h))/\J7 wx pb 263 pl/\J7 wx rb 84 #[I O 0,I O 0,I O 0,I O 0,I O 0]
theorem Xo0(u:V5 s)(hk:k<(H s).qs.length)(j:(H s).qs[k]=q):∀i,DJ ⟨(H s).mA,(H s).mc,(H s).qA,(H s).qc,(H s).ms,(H s).qs.set k ⟨q.price,q.A,q.c,q.os.filter (L3 h)⟩⟩ i->DJ (H s) i:=by
 rintro i(hi|hi|⟨q',hq',hi⟩)
 ·exact .inl hi
 ·exact .inr (.inl hi)
 obtain h1|rfl:=RJ hq'
 ·exact .inr (.inr ⟨q',h1,hi⟩)
 exact .inr (.inr ⟨q,by rw[<-j];exact C7 _,hi⟩)
theorem Je5(Z:Y0 w4 b a F M n r f' H reg4)(a1:U2 w w4 (Y1 b r F H) (Y1 b r F H))(y:V5 s)(hk:k<(H s).qs.length)(a2:(H s).qs[k]=q)(D:(H s).qA=sA qg)(N:Fr w4 wx qg k q.A q.c q.os h)(hP:J7 w4 pb 263 pl) (hR:J7 w4 rb 84 #[I O 0,I O 0,I O 0,I O 0,I O 0]) (C:¬Y1 b r F H pb) (E:¬Y1 b r F H rb):Gb w wx b a r F M n f' H s k q h pb rb pl:=by
 subst a2;obtain⟨w5,rfl,u,a3⟩:=N;obtain⟨reg6,a0,J⟩:=Z.queue y hk D u a3 (fun g i=>.inl i);have j:∀g,¬Y1 b r F H g->X5 (H s).qs[k].A≠some g/\g≠qg:=fun g i=>⟨fun e=>i (GQ s y (.inr (.inr ⟨_,C7 _,e⟩))),fun e=>i (GQ s y (.inr (.inl (by rw[D,e];rfl))))⟩
 exact⟨reg6,a0,a1.trans J,ZR (V0 hP u (j _ C).1) (p:=(aD qg (k*2+1))) (j _ C).2 _,ZR (V0 hR u (j _ E).1) (p:=(aD qg (k*2+1))) (j _ E).2 _⟩
theorem Qw9(D:B5 M n f H)(i:V5 s)(hk:k<(H s).qs.length)(Z:(H s).qs[k]=q)(hx:(h,o)∈q.os)(a2:(h,o)∈(H s).all)(N:(q.os.filter (L3 h)).length≠0)(J:f'=T7 f o.id none)(E:Gb w wx b a r F M n f' H s k q h pb rb pl) (a0:¬Y1 b r F H rb):Yr w wx b a r F M n f' H s o.id h.1 h.2 pb rb pl:=by subst J;obtain⟨reg6,u,j,y,C⟩:=E;subst Z;obtain⟨h1,h2⟩:=Je3 D i hk hx a2 (fun e=>N (by rw[e];rfl)) (H s).qs[k].A (H s).qs[k].c;exact⟨_,reg6,u,j,h1,h2,fun s' a1=>ZK a1,y,C,Ft i (Xo0 i hk rfl) a0⟩
theorem Xk3(u:V5 s)(j:(H s).qA=sA qg)(i:Y0 wx b a F M n r f' (LH H s k q h) reg6):X8 wx (sA qg) (H s).qs.length (H s).qc 320 2 (X7 YJ (((H s).qs.set k ⟨q.price,q.A,q.c,q.os.filter (L3 h)⟩).map QG.que)):=by
 have h1:=(i.hx s u).rq;have e:LH H s k q h s=⟨(H s).mA,(H s).mc,(H s).qA,(H s).qc,(H s).ms,(H s).qs.set k ⟨q.price,q.A,q.c,q.os.filter (L3 h)⟩⟩:=by unfold LH;rw[XK]
 rw[e]at h1;dsimp only at h1;rw[j,XH]at h1;exact h1
theorem Qx0(hS:B5 M n f H)(u:V5 s)(hk:k<(H s).qs.length)(a8:(H s).qs[k]=q)(Z:(H s).qA=sA qg)(hx:(h,o)∈q.os)(b0:(h,o)∈(H s).all)(a7:(q.os.filter (L3 h)).length=0)(hf:f'=T7 f o.id none)(E:Gb w wx b a r F M n f' H s k q h pb rb pl) (a5:¬Y1 b r F H pb) (a1:¬Y1 b r F H rb)(a4:X8 w7 (sA qg) (k+((H s).qs.length-(k+1))) (H s).qc 320 2 (X7 YJ ((((H s).qs.set k ⟨q.price,q.A,q.c,q.os.filter (L3 h)⟩).map QG.que).take k++(((H s).qs.set k ⟨q.price,q.A,q.c,q.os.filter (L3 h)⟩).map QG.que).drop (k+1))))(a0:X4 (fun x=>x=qg) wx w7):Yr w (w7.setCell (aD b (XB s+1)) (.slice (sA qg) (k+((H s).qs.length-(k+1))) (H s).qc)) b a r F M n f' H s o.id h.1 h.2 pb rb pl:=by
 subst hf;obtain⟨reg6,hM,hB,hP,hR⟩:=E;subst a8;have e:LH H s k (H s).qs[k] h s=⟨(H s).mA,(H s).mc,(H s).qA,(H s).qc,(H s).ms,(H s).qs.set k ⟨(H s).qs[k].price,(H s).qs[k].A,(H s).qs[k].c,(H s).qs[k].os.filter (L3 h)⟩⟩:=by unfold LH;rw[XK]
 have hl:((H s).qs.take k++(H s).qs.drop (k+1)).length=k+((H s).qs.length-(k+1)):=Q7;have a2:((H s).qs.set k ⟨(H s).qs[k].price,(H s).qs[k].A,(H s).qs[k].c,(H s).qs[k].os.filter (L3 h)⟩).take k=(H s).qs.take k:=Xb Q2;have a3:((H s).qs.set k ⟨(H s).qs[k].price,(H s).qs[k].A,(H s).qs[k].c,(H s).qs[k].os.filter (L3 h)⟩).drop (k+1)=(H s).qs.drop (k+1):=Ar Q0;rw[<-List.map_take,<-List.map_drop,a2,a3,<-L6,<-hl]at a4;have E:=hM.queues (s:=s) u (w3:=w7) (A':=sA qg) (c':=(H s).qc) (qs':=(H s).qs.take k++(H s).qs.drop (k+1))
  (by rw[e];dsimp only;rw[Z];exact a0.mono (fun i e=>by rw[e];rfl)) a4 (fun g J=>.inl (by rw[e];dsimp only;rw[Z];exact J))
  (fun q j=>.inl (by
   rw[e];dsimp only;obtain j|j:=B8.1 j
   ·rw[<-a2]at j;exact CV j
   rw[<-a3]at j;exact FP j))
  (by have y:=Qn0 (fun q:QG=>X5 q.A) _ k (hM.hx s u).nd;rw[e]at y;dsimp only at y;rw[a2,a3]at y;exact y)
 rw[hl]at E;obtain⟨b1,D,C⟩:=E;rw[e]at D C;dsimp only at D C;have e2:P8 (LH H s k (H s).qs[k] h) s ⟨(H s).mA,(H s).mc,sA qg,(H s).qc,(H s).ms,(H s).qs.take k++(H s).qs.drop (k+1)⟩=P8 H s ⟨(H s).mA,(H s).mc,sA qg,(H s).qc,(H s).ms,(H s).qs.take k++(H s).qs.drop (k+1)⟩:=by
  funext s'
  unfold LH P8
  split<;>rfl
 rw[e2]at D C;obtain⟨h1,h2⟩:=Jo8 hS u hk hx b0 (Va.1 a7) (sA qg) (H s).qc;have a6:∀i,DJ ⟨(H s).mA,(H s).mc,sA qg,(H s).qc,(H s).ms,(H s).qs.take k++(H s).qs.drop (k+1)⟩ i->DJ (H s) i:=by
  rintro i(hi|hi|⟨q',hq',hi⟩)
  ·exact .inl hi
  ·exact .inr (.inl (by rw[Z];exact hi))
  refine .inr (.inr ⟨q',?_,hi⟩);obtain j|j:=B8.1 hq'
  ·exact CV j
  exact FP j
 have N:∀g,¬Y1 b r F H g->g≠qg/\g≠b:=fun g J=>⟨fun e=>J (GQ s u (.inr (.inl (by rw[Z,e];rfl)))),fun e=>J (.inl e)⟩
 exact⟨_,b1,D,hB.trans C,h1,h2,fun s' a9=>ZK a9,ZR (V0 hP a0 (N _ a5).1) (p:=(aD b (XB s+1))) (N _ a5).2 _,ZR (V0 hR a0 (N _ a1).1) (p:=(aD b (XB s+1))) (N _ a1).2 _,Ft u a6 a1⟩
end
def Xo1(w wx:World)(b a r rb:Nat)(F:Nat->Prop)(M:Int->Int->Option X6)(n:Nat)(f':Int->Option Value)(H:Int->HS)(s id h1 h2:Int)(cs:Array Value):Prop:=
 Uy w wx b a r F n H s id/\J7 wx rb 84 cs
theorem Qn1 w b a F M n r f H reg(u:Y0 w b a F M n r f H reg)id(y:f id=none):Calls prog 203 #[pA b,I O id] w fun e w'=>e=.returned (.tuple #[.agg #[I O 0,I O 0,I O 0,I O 0,I O 0],Y9 7])/\Bz w w':=by
 have j:Bz w (w.alloc (.cells #[I O 0,I O 0,I O 0,I O 0,I O 0] 84)):=(J9 _ w).alloc Q2 _;have i:=u.below j;have a0:=Vq i.mp y;obtain⟨E,y1,J,N,Z,y5⟩:=i.cells;obtain⟨D,C⟩:=Xt6 (Z5 w 84 #[I O 0,I O 0,I O 0,I O 0,I O 0]) j;clear E J N Z y5 u i y j;go_enter func203,ntmps203
 go_wp2_with fail
 refine Pm (g:=zS w) (cs:= #[I O 0,I O 0,I O 0,I O 0,I O 0]) (v:=Y9 7) Q6 Q6 Q6 (G0 D _) rfl ?_;exact⟨rfl,C.alloc Q3 _⟩
theorem Xb4 w b o a F M n r f H reg(hM:Y0 w b a F M n r f H reg)(hS:B5 M n f H) (m9:JV o)(h:UG o=true) (hr:KS o=true) (hf:f o.id=none) (s6:n<=100):Calls prog 222 #[pA b,V6 o] w fun e w'=>(n=100/\e=.returned (Y9 12)/\Bz w w')\/(n<100/\e=.returned (Y9 0)/\Yj w w' b a r F n H (U6 o)):=by
 obtain⟨hs,hi⟩:=Kt.1 h;obtain⟨mk,n7⟩:=exq (o.kind ==2);obtain⟨o',f6⟩:=exq (U6 o);obtain⟨HM,HR,HF,HK,k8,HO,HI,a3⟩:=Xu2 hM (show JZ o'.price o.qty=true by rw[<-f6];exact hr) hf n7 hs f6 hi hS;have k2:=J6 (show KG o' by have hp:=RD.1 (show JZ o'.price o.qty=true by rw[<-f6];exact hr);rw[<-f6]at hp|-;obtain⟨f1,f2,f3,f4,f5⟩:=m9;exact⟨⟨f1,f2,f3,(by unfold V3;omega),f5⟩,hi,⟨hp.1,hp.2.1⟩,⟨hp.2.2.1,hp.2.2.2⟩⟩)
 have B0:=Z5 w 84 (Z8 o);have l2:Bz w (w.alloc (.cells (Z8 o) 84)):=(J9 _ w).alloc Q2 _;obtain⟨d5,c7⟩:=Xt6 B0 l2;unfold V6;clear h hi hr hM hf hs hS m9 f6 n7 B0 l2;go_enter func222,ntmps222
 go_upto_region 1 with fail
 go_cut [25] (fun r8 wx=>r8=.bool false/\SD w wx b a F M n r f H reg o)
 case first=>
  obtain⟨id,side,kind,t3,qty⟩:=o;have d1:decide (id<1)=false:=V9 (by have:=HI.out;dsimp only at this;omega);obtain h1|h1:=k8.out
  ·dsimp only at h1
   subst h1;go_wp2;go_meet;exact⟨rfl,c7,HM.below c7,d5⟩
  dsimp only at h1;subst h1;go_wp2;go_meet;exact⟨rfl,c7,HM.below c7,d5⟩
 obtain⟨rfl,u⟩:=hcut;have D:=J6 u;obtain⟨E,C,J,x3,N⟩:=D7 u.2.2;have xf:=K0 u.2.2 3;have t1:=HK.out;clear u;go_upto_if 30 with fail
 go_cut [31] (fun t8 wx=>SD w wx b a F M n r f H reg o')
 case first=>
  cases mk with
  |true=>
   have t2:=J6 t1;clear t1;go_wp2;go_meet;rw[<-HO.out];exact Je2 HM D t2
  |false=>
   have t2:=J6 t1;clear t1;go_wp2;go_meet;rw[<-HO.out,Jo7 t2.out];exact D
 clear E C J x3 N xf D d5 c7;have e4:o'.qty=o.qty:=by rw[<-HO.out];rfl
 have e0:o'.id=o.id:=by rw[<-HO.out];rfl
 have e1:o'.side=o.side:=by rw[<-HO.out];rfl
 have e2:o'.kind=o.kind:=by rw[<-HO.out];rfl
 have D:=J6 hcut;obtain⟨E,C,J,x3,N⟩:=D7 hcut.2.2;rw[e4]at N;rw[e0]at E;rw[e1]at C;rw[e2]at J;clear t1 hcut;obtain⟨E4,E0,E1,E2⟩:=Xt8 e4 e0 e1 e2;clear e4 e0 e1 e2;go_wp2_with fail
 refine(RG _ _ _).mono ?_;rintro e w1⟨rfl,hb⟩;rw[HR.out];clear E C J x3 N;have u:=Qe8 D hb;clear D HR;have D:=J6 u;have g6:=Z9 u.2.2;have g7:=Z9 u.2.1.blk;obtain⟨E,C,J,x3,N⟩:=D7 u.2.2;obtain⟨y0,y1,y2,y3,y4,y5⟩:=u.2.1.cells;rw[E4.out]at N;rw[E0.out]at E;rw[E1.out]at C;rw[E2.out]at J;have q6:=Vq (w:=(w1.alloc (.cells #[I O 0,I O 0,I O 0,I O 0,.bool false] 263)).drew) (u.2.1.mp.alloc _) HF;have q7:=Vq (w:=w1.drew) u.2.1.mp HF;clear u hb;go_upto_region 8 with fail
 go_cut [7] (fun s7 wx=>s7=.bool false/\SD w wx b a F M n r f H reg o')
 case first=>
  clear y0 y2 y3 y4 y5 C J x3 N
  as_aux_lemma=>
  go_region_law (fail)
  all_goals go_wp2_with fail
  all_goals go_meet
  all_goals exact⟨rfl,Qe8 D (Z2 ((J9 _ w1).alloc Q2 _))⟩
 clear E C J x3 N y0 y1 y2 y3 y4 y5 q6 q7 g6 g7 D;obtain⟨rfl,u⟩:=hcut
 by_cases hn:n=100
 ·have HN:=J6 hn
  have D:=J6 u;have g6:=Z9 u.2.2;have g7:=Z9 u.2.1.blk;have e3:V6 o'=.agg #[I O o.id,I O o.side,I O o.kind,I O o'.price,I O o.qty]:=by unfold V6;rw[E0.out,E1.out,E2.out,E4.out]
  have a9:∀W,Bz wc W->Calls prog 260 #[pA a,.agg #[I O o.id,I O o.side,I O o.kind,I O o'.price,I O o.qty]] W fun e w'=>e=.returned (.tuple #[.agg #[I O 0,I O 0],.iface 52 (I O 12)])/\Bz W w':=by
   intro W hW;rw[<-e3];refine(Qe2 (u.2.1.ar.below hW) Q0 o').mono ?_;rintro e w'(⟨_,h2,h3⟩|⟨h1,_⟩)
   ·exact⟨h2,h3⟩
   have:=HN.out;omega
  obtain⟨d3,d4⟩:=Xt6 (a9 ((wc.alloc (.cells #[I O 0,I O 0] 261)).drew) (Z2 (Q5.alloc Q2 _))) (a9 wc.drew (Z2 Q5));have m5:J7 (wc.alloc (.cells #[I O 0,I O 0] 261)).drew (zS wc) 261 #[I O 0,I O 0]:=Y6 (Z5 wc _ _);obtain⟨d5,l3,l4⟩:=Xt7 m5 (show Bz wc (wc.alloc (.cells #[I O 0,I O 0] 261)).drew from Z2 (Q5.alloc Q2 _)) (show Bz wc wc.drew from Z2 Q5);obtain⟨E,C,J,x3,N⟩:=D7 u.2.2;have y0:=u.2.1.cells.1;rw[E4.out]at N;rw[E0.out]at E;rw[E1.out]at C;rw[E2.out]at J;clear u a9 e3 m5;go_upto_region 11 with fail
  go_cut [9] (fun s9 wx=>s9=.iface 52 (I O 12)/\Bz wc wx)
  case first=>
   go_region_with (first|(go_at_call 260;refine d3.mono ?_;rintro e w5⟨rfl,hb⟩;have a1:=Z4 d5 hb;have z0:w5.cell? ⟨wc.heap.size,0,none⟩=some (I O 0):=(by rw[X9 a1];rfl);have z1:w5.cell? ⟨wc.heap.size,1,none⟩=some (I O 0):=(by rw[X9 a1];rfl);have f0:=K0 a1 0;have f1:=K0 a1 1;have a6:=J6 (l3.trans (hb.mono l3.size));clear hb a1)|(go_at_call 260;refine d4.mono ?_;rintro e w5⟨rfl,hb⟩;have a6:=J6 (l4.trans (hb.mono l4.size));clear hb))
   all_goals go_wp2_with fail
   all_goals go_meet
   all_goals
    refine⟨rfl,?_⟩
    first
     |exact a6.trans ((Et w5 (zS wc) 0 1 _ _).below (B:=zS wc) (fun i e=>by have e':i=(zS wc):=e;omega) a6.size)
     |exact a6.alloc a6.size _
  obtain⟨rfl,hb⟩:=hcut;clear E C J x3 N y0 d3 d4;have HB:=J6 (D.1.trans (hb.mono D.1.size));clear hb;go_wp2;go_ret;exact .inl ⟨HN,rfl,HB⟩
 have hn:n<100:=Q0;have HN:=J6 hn;clear hn;have D:=J6 u;have g6:=Z9 u.2.2;have g7:=Z9 u.2.1.blk;have e3:V6 o'=.agg #[I O o.id,I O o.side,I O o.kind,I O o'.price,I O o.qty]:=by unfold V6;rw[E0.out,E1.out,E2.out,E4.out]
 have a9:∀W,Bz wc W->Calls prog 260 #[pA a,.agg #[I O o.id,I O o.side,I O o.kind,I O o'.price,I O o.qty]] W (Xs6 W a F M n o'):=by
  intro W hW;rw[<-e3];refine(Qe2 (u.2.1.ar.below hW) Q0 o').mono ?_;rintro e w'(⟨h1,_,_⟩|⟨_,sl,ag,h1,h2,h3⟩)
  ·have:=HN.out;omega
  exact⟨sl,ag,h1,h2,h3⟩
 obtain⟨d3,d4⟩:=Xt6 (a9 ((wc.alloc (.cells #[I O 0,I O 0] 261)).drew) (Z2 (Q5.alloc Q2 _))) (a9 wc.drew (Z2 Q5));obtain⟨E,C,J,x3,N⟩:=D7 u.2.2;obtain⟨y0,y1,y2,y3,y4,y5⟩:=u.2.1.cells;rw[E4.out]at N;rw[E0.out]at E;rw[E1.out]at C;rw[E2.out]at J;clear u a9 e3;go_upto_region 11 with fail
 go_cut [8,9] (fun s8 s9 wx=>s9=.nilIface/\Qj2 w wx b a F M n r f H o' s8)
 case first=>
  clear y1 y2 y3 y4 y5
  as_aux_lemma=>
  go_region_with (first|(go_at_call 260;refine d3.mono ?_;rintro e w5⟨sl,ag,a5,rfl,c5⟩;have a1:=Xj2 D.2.1.ar c5;have z0:w5.cell? ⟨wc.heap.size,0,none⟩=some (I O 0):=(by rw[X9 a1];rfl);have z1:w5.cell? ⟨wc.heap.size,1,none⟩=some (I O 0):=(by rw[X9 a1];rfl);have f0:=K0 a1 0;have f1:=K0 a1 1;have a6:=J6 a1;have g1:=J6 c5;have b1:=J6 a5;clear c5 a5 a1)|(go_at_call 260;refine d4.mono ?_;rintro e w5⟨sl,ag,a5,rfl,c5⟩;have g1:=J6 c5;have b1:=J6 a5;clear c5 a5))
  all_goals go_wp2_with fail
  all_goals go_meet
  all_goals
   refine⟨rfl,?_⟩
   first
    |exact Qa6 HM D (Z2 (Q5.alloc Q2 _)) b1 g1 (Et _ _ 0 1 _ _) (.inl Q3) Q2 (Z0 (Z0 a6 0 _) 1 _)
    |exact Qa6 HM D (Z2 Q5) b1 g1 (B9 (Q5.alloc Q2 _) _) (.inr Q2) (U4 (Z2 (J9 (zS wc) wc)).size g1.choose_spec.2.1.size) (Z5 _ _ _)
 obtain⟨rfl,j,pb,F',reg',rfl,a5,g4,hX,g3,l9,i7,i9⟩:=hcut;clear E C J x3 N y0 y1 y2 y3 y4 y5 g6 g7 D d3 d4;have l5:QF wc.drew r f:=g3.mp.of_block rfl;obtain⟨w4,r5,l6,g5⟩:=l5.update (P:=prog) (t:=266) underlying266 underlying3 o.id (.agg #[I O j.1,I O j.2,I O o.side,I O o'.price,.bool mk]);have i3:Bz wc wc.drew:=Z2 Q5;obtain⟨l7,m3⟩:=(g3.below i3).map_ g5 l6;have m0:=(l9.trans (S5 i3)).trans m3;have l8:J7 w4 pb 261 #[I O j.1,I O j.2]:=J7.of_block (Y6 g4) (g5.block pb (fun e=>i7 (.inr (.inl e))));have m6:J7 w4 (zS w) 84 (Z8 o'):=J7.of_block (Y6 hX) (g5.block _ (fun e=>i9 (.inr (.inl e))));obtain⟨E,C,J,x3,N⟩:=D7 hX;rw[E0.out]at E;rw[E1.out]at C;have p0:wc.cell? (aD pb 0)=some (I O j.1):=by rw[X9 g4];rfl
 have p1:wc.cell? (aD pb 1)=some (I O j.2):=by rw[X9 g4];rfl
 have y1:=g3.cells.2.1;obtain⟨j9,k6,k3,i2,b1,f9,r9⟩:=Xu1 l7 m0 l8 m6 a5 i7 i9;clear l5 l6 g5 l7 m3 m0 l8 m6 g4 hX g3 l9 a5 i7 i9 i3 J N;go_upto_region 14 with fail
 go_cut [75] (fun t9 wx=>wx=w4)
 case first=>
  go_still_tail 13,Q4
  change wpList _ _ _ _ _ wc.drew;go_wp2;go_meet
  rfl
 subst hcut;clear E C x3 p0 p1 y1 r5;have o2:Value.agg #[I O j.1,I O j.2,I O o.side,I O o'.price,.bool mk]=AM (j,o'):=by unfold AM;dsimp only;rw[E1.out,E2.out,HK.out]
 have k1:=J6 (show Y0 wc b a F' (XA M j.1 j.2 (some o')) (n+1) r (T7 f o'.id (some (AM (j,o')))) H reg' by rw[<-o2,E0.out];exact j9);clear o2 j9;have g8:o'.side=o.side:=E1.out;obtain⟨s,g9⟩:=exq o.side;rw[g9]at g8;have y:=J6 (show V5 s by have:=k8.out;rw[g9]at this;exact this);have C:wc.cell? (aD (zS w) 1)=some (I O s):=by rw[X9 i2.out];show some (Value.int .i64 o'.side)=_;rw[g8]
 have h9:=J6 g8;obtain⟨kk,n4⟩:=exq (XB s);have a7:=J6 n4;clear g8 n4;rw[g9];clear g9;go_upto_region 15 with fail
 go_cut [10] (fun r7 wx=>r7=IP (some ⟨b,kk,none⟩)/\Bz wc wx)
 case first=>
  obtain rfl|rfl:=y.out
  all_goals
   go_wp2_with fail
   go_quiet (fail)
   go_wp2;go_meet;exact⟨by rw[<-a7.out];rfl,Y5 Q5 nq⟩
 case rest=>
 obtain⟨rfl,hq⟩:=hcut;obtain⟨a2,b2,d6,g0⟩:=Xt8 (k1.below hq) (Z4 k3 hq) (Z4 i2 hq) (k6.trans (S5 hq));clear hq C;obtain⟨w5,l1⟩:=exq wc;rw[l1]at a2 b2 d6 g0|-;clear l1 k1 k3 i2 k6;obtain⟨ym,yq⟩:=a2.cellM y;rw[a7.out]at ym yq;have e7:=Z9 a2.blk;have o8:=J6 e7
 cases mk with
 |true=>
 as_aux_lemma=>
 have h4:Hid (o'.kind=2):=J6 (by rw[E2.out];simpa using HK.out);obtain⟨m,hm⟩:=exq ((H s).ms.length);rw[hm]at ym;obtain⟨h7,Hm⟩:=Xt6 (show X8 w5 (H s).mA m (H s).mc 261 2 (X7 S7 (N9 (H s).ms)) by rw[<-hm];exact(a2.hx s y).rm) hm;have q9:m<=1000:=Xn6 y hm a3.cnt HN;have n6:X5 (H s).mA≠some b:=fun e=>by have h5:s=1\/s=2:=y.out;have:=(a2.hx s y).gm b e;have:=a2.gb;omega
 have k0:=J6 n6;obtain⟨p0,p1⟩:w5.cell? (aD pb 0)=some (I O j.1)/\w5.cell? (aD pb 1)=some (I O j.2):=⟨by rw[X9 b2.out];rfl,by rw[X9 b2.out];rfl⟩;have f8:=Z9 b2;obtain⟨i0,i6,j3,j4,j5⟩:=W8 Mg;clear hm n6 yq;go_upto_region 17 with fail
 go_region_law ((refine step_append_lies _ Q8 _ _ _ Q8 0 261 i0 _ 2 16 underlying267 i6 j3 j4 j5 rfl Q0 (.slice (H s).mA m (H s).mc) m _ Q8 ((LW h7 _).drew) (aD (zS w5) 0) 1 1 (S7 j) Q8 Q8 (XF (cs:= #[I O j.1,I O j.2]) (t:=261) (fr:=(0,0)) (QN w5 _)) (Wx _) Q0 Q9 Q0 Q3 (zS w5+1) Q3 ?_;intro gg cap w6 f7 e8 e5 q8;have Z:=RA e8;have b6:=V0 a2.blk Z (fun e=>by rw[C8]at e;exact k0 e);have r0:w6.cell? (aD b kk)=some (.slice (H s).mA m (H s).mc):=(Z.cell (p:=(aD b kk)) o8 (fun e=>by rw[C8]at e;exact k0 e)).trans ym;have r6:=K0 b6 kk;have c9:=J6 Z;have d2:=J6 f7;have c6:=J6 e5;clear b6 e8 Z f7 e5))
 all_goals go_wp2_with fail
 all_goals
  go_ret;refine .inr ⟨HN,rfl,?_⟩;rw[HO.out];have e:=a7.out;subst e;exact Qm9 a3 y h9 h4 k2 b1 (by rw[E0.out];exact HF) a2 g0 Hm c9 d2 c6
 |false=>
 as_aux_lemma=>
 have h4:Hid (o'.kind≠2):=J6 (by rw[E2.out];simpa using HK.out);have C:w5.cell? (aD (zS w) 1)=some (I O s):=by rw[X9 d6.out];show some (Value.int .i64 o'.side)=_;rw[h9.out]
 have x3:w5.cell? (aD (zS w) 3)=some (I O o'.price):=by rw[X9 d6.out];rfl
 have m8:=Wu w5 b kk s o'.price _ _ _ _ yq (by have:=CY MK Q0 (a2.hx s y).rq;exact this) (a3.is s y).rank (Qh4 y a3 HN)
 have j6:=J6 m8;clear m8;go_wp2_with fail
 refine j6.mono ?_;rintro e w7⟨e6,k,n3,rfl⟩;obtain⟨d0,h6,k9,k7,j8⟩:=Xt9 (a2.below e6) (Z4 b2 e6) (Z4 d6 e6) (g0.trans (S5 e6)) n3;clear C x3 e6 n3 a2 b2 d6 g0 j6 ym yq;obtain⟨fb,h0⟩:∃fb,Hid (PU s o'.price ((H s).qs.map QG.que) (H s).qs.length k=fb):=⟨_,J6 rfl⟩;rw[h0.out];go_upto_if 104 with fail
 go_cut [105] (fun t6 wx=>Ga w wx b a r F F' (XA M j.1 j.2 (some o')) n (T7 f o'.id (some (AM (j,o')))) H s o'.price k pb/\J7 wx pb 261 #[I O j.1,I O j.2])
 case first=>
  cases fb with
  |true=>
   go_wp2;go_meet;exact⟨Qw3 f9 a3 y d0 k7 h0,h6⟩
  |false=>
   have j2:Bz w7 ((w7.alloc (.cells #[I O o'.price,.slice none 0 0] 320)).drew):=Z2 (Q5.alloc Q2 _);have d7:=d0.below j2;have n2:=Qu6 Xt5 ((w7.alloc (.cells #[I O o'.price,.slice none 0 0] 320)).drew) (H s).qA (H s).qs.length (H s).qc k ((H s).qs.map QG.que) w7.heap.size (o'.price,none,0,0) (d7.hx s y.out).rq (Y6 (Z5 w7 _ _)) (fun e=>by have:=(d0.out.hx s y.out).rq.lt e;omega) (Qh4 y.out a3.out HN.out) j8.out.1;have p3:=J6 n2;have z3:=(d0.cellM y).2;rw[a7.out]at z3;have x3:w7.cell? (aD (zS w) 3)=some (I O o'.price):=by rw[X9 k9.out];rfl
   have e7:=Z9 d0.blk;have t0:=Z9 k9;have b0:=J6 d7;have z8:=(d7.cellM y).2;rw[a7.out]at z8;obtain⟨q2,o6⟩:=Xt6 z8 (Z9 d7.blk);clear z8;have i1:=J6 j2;clear n2 d7 j2;go_wp2_with fail
   as_aux_lemma=>
   go_region_with (go_at_call 261;refine p3.mono ?_;rintro e w8⟨A8,c8,rfl,g2⟩;have b8:=V0 b0.blk g2.2.1 (fun e=>by have h1:=(b0.hx s y).gq b e;have h2:=b0.gb;omega);have r0:w8.cell? ⟨b,kk+1,none⟩=some (.slice (H s).qA (H s).qs.length (H s).qc):=(g2.2.1.cell (p:=⟨b,kk+1,none⟩) o6 (fun e=>by have h1:=(b0.hx s y).gq b e;have h2:=b0.gb;omega)).trans q2;have r6:=K0 b8 (kk+1);have j7:=J6 g2;clear g2 b8)
   all_goals go_wp2_with fail
   all_goals go_meet
   all_goals
    have e:=a7.out;subst e;refine⟨Jo6 f9 (Z9 (Z4 h6 i1)) a3 y b0 (k7.trans (S5 i1)) j8 h0 j7 rfl,?_⟩;refine ZR (V0 (Z4 h6 i1) j7.2.1 (fun e=>?_)) (fun e=>?_) _
    ·exact f9 (GQ s y (.inr (.inl e)))
    exact f9 (.inl e)
 obtain⟨⟨H1,t4,qA,qc,qs,a8,m4,i4,n1,i5,i8,b5,o1,n8⟩,d8⟩:=hcut;have e1:H1 s=⟨(H s).mA,(H s).mc,qA,qc,(H s).ms,qs⟩:=by rw[i4];exact XK _ _ _
 have a4:=a8.hx s y;rw[e1]at a4;obtain⟨qg,o3,j1⟩:=a4.rq.elem MK Q0 (i:=k) (by simpa using b5);dsimp only at o3;subst o3;have y3:=(a8.cellM y).2;rw[a7.out]at y3;rw[e1]at y3;dsimp only at y3;obtain⟨q,b9⟩:=exq (qs[k]'b5);obtain⟨m,hm⟩:=exq q.os.length;have q0:wc.cell? (aD qg (k*2))=some (I O q.price):=by have:=j1 0 _ rfl;rw[<-b9];simpa [QG.que]using this
 have q1:wc.cell? (aD qg (k*2+1))=some (.slice q.A m q.c):=by have:=j1 1 _ rfl;rw[<-hm,<-b9];simpa [QG.que]using this
 have e9:q∈qs:=by rw[<-b9];exact C7 _
 obtain⟨h7,p7⟩:=Xt6 (show X8 wc q.A m q.c 261 2 (X7 S7 (N9 q.os)) by rw[<-hm];exact a4.rl _ e9) a4.rq;have j0:(X5 (some ((aD qg 0):Addr)))=some qg:=rfl;have q5:=a4.gq qg j0;have o4:=a4.rq.lt j0;have o5:X5 q.A≠some qg:=fun e=>by have:=a4.gl _ e9 qg e;omega
 obtain⟨k4,k5,s3,s2,p8⟩:=Xt9 o5 (show X5 q.A≠some pb from fun e=>i8 (GQ s y (.inr (.inr ⟨q,by rw[e1];exact e9,e⟩)))) (show qg≠pb from fun e=>i8 (GQ s y (.inr (.inl (by rw[e1,<-e];rfl))))) (show qg≠b from fun e=>by have h2:=a8.gb;rw[<-e]at h2;omega) (show X5 q.A≠some b from fun e=>by have h1:=a4.gl _ e9 b e;have h2:=a8.gb;omega);obtain⟨l,n5⟩:=exq qs.length;have q9:m<=1000:=by
  have h1:=a3.cnt;have h2:=HN.out;have h3:m<=(N6 (H s).ms qs).length:=by unfold N6;rw[NT qs b5,b9];simp only[List.length_append];omega
  rw[i5]at h3;unfold E8 at h1;simp only[List.length_append]at h1;obtain e|e:=y.out
  all_goals
   rw[e]at h3;omega
 rw[n5]at y3;obtain⟨p4,p9,o9,p2,o7,p6,p5,s1⟩:=Xu2 a8 m4 i4 n1 i5 o1 n8 d8;obtain⟨Hm,q3⟩:=Xt6 hm b5;have s5:(k:Int)<(l:Int):=Q0;have s4:(0:Int)<=(k:Int):=Q0;obtain⟨p0,p1⟩:wc.cell? (aD pb 0)=some (I O j.1)/\wc.cell? (aD pb 1)=some (I O j.2):=⟨by rw[X9 d8];rfl,by rw[X9 d8];rfl⟩;have e7:=Z9 a8.blk;have f8:=Z9 d8;obtain⟨i0,i6,j3,j4,j5⟩:=W8 Mg;clear i8 a8 m4 i4 n1 i5 o1 n8 d8 hm o5 q5 j0 e9 e1 a4 j1 n5;have q4:=J6 b9;clear b9;go_upto_region 22 with fail
 go_cut [133] (fun t7 wx=>Xq6 wc wx qg k m q.A q.c (X7 S7 (N9 q.os)++S7 j))
 case first=>
  as_aux_lemma=>
  refine SP 18 (fun W=>W.cell? ⟨qg,k*2+1,none⟩=some (.slice q.A m q.c)/\W.cell? ⟨b,kk+1,none⟩=some (.slice (some ⟨qg,0,none⟩) l qc)/\W.cell? ⟨pb,0,none⟩=some (I O j.1)/\W.cell? ⟨pb,1,none⟩=some (I O j.2)) Q4 ⟨q1,y3,p0,p1⟩ (fun hS=>?_);refine tT 0 ?_;refine tT 1 ?_;refine tT 2 ?_;refine tT 3 ?_;refine tT 4 ?_;refine tT 5 ?_;refine tT 6 ?_;refine tT 7 ?_;refine tT 8 ?_;refine tT 9 ?_;refine tT 10 ?_;refine tT 11 ?_;refine tT 12 ?_;refine tT 13 ?_;refine VU 14 Q4 rfl (fun K1 a0=>?_);go_simp;have d9:Bz wc (wc.alloc (.cells #[I O j.1,I O j.2] 261)).drew:=Z2 ((J9 _ wc).alloc Q2 _);refine a0 _ _ ⟨(d9.cell (p:=(aD qg (k*2+1))) o4).trans q1,(d9.cell (p:=(aD b (kk+1))) e7).trans y3,(d9.cell (p:=(aD pb 0)) f8).trans p0,(d9.cell (p:=(aD pb 1)) f8).trans p1⟩ (fun hS=>?_);clear a0 d9;refine VU 15 Q4 rfl (fun K1 a0=>?_);refine step_append_lies _ Q8 _ _ _ Q8 0 261 i0 _ 2 16 underlying267 i6 j3 j4 j5 rfl Q0 (.slice q.A m q.c) m _ Q8 ((LW h7 _).drew) (aD (zS wc) 0) 1 1 (S7 j) Q8 Q8 (XF (cs:= #[I O j.1,I O j.2]) (t:=261) (fr:=(0,0)) (QN wc _)) (Wx _) Q0 Q9 Q0 Q3 (zS wc+1) Q3 ?_;intro gg cap w6 f7 e8 e5 q8;have Z:=RA e8;have R6:=RB p7 Z (fun g hg e=>by rw[C8]at e;cases hg;exact k4 e);have r1:w6.cell? (aD qg (k*2+1))=some (.slice q.A m q.c):=(Z.cell (p:=(aD qg (k*2+1))) o4 (fun e=>by rw[C8]at e;exact k4 e)).trans q1;have r2:w6.cell? (aD b (kk+1))=some (.slice (sA qg) l qc):=(Z.cell (p:=(aD b (kk+1))) e7 (fun e=>by rw[C8]at e;exact p8 e)).trans y3;have r3:w6.cell? (aD pb 0)=some (I O j.1):=(Z.cell (p:=(aD pb 0)) f8 (fun e=>by rw[C8]at e;exact k5 e)).trans p0;have r4:w6.cell? (aD pb 1)=some (I O j.2):=(Z.cell (p:=(aD pb 1)) f8 (fun e=>by rw[C8]at e;exact k5 e)).trans p1;have t5:=X8.frozen R6 (k*2+1);obtain⟨c9,d2,c6⟩:=Xt7 Z f7 e5;clear R6 e8 Z f7 e5;refine a0 _ _ ⟨r1,r2,r3,r4⟩ (fun hS=>?_);clear a0;simp only[Act.put,List.setIfInBounds_toArray,List.set_cons_zero,List.set_cons_succ];refine VU 16 Q4 rfl (fun K1 a0=>?_);go_simp;refine a0 _ _ ⟨r1,r2,r3,r4⟩ (fun hS=>?_);clear a0;refine VU 17 Q4 rfl (fun K1 a0=>?_);go_simp;refine a0 _ _ ⟨r1,r2,r3,r4⟩ (fun hS=>?_);clear a0;refine TV Q4 rfl (fun K1 a0=>?_);go_simp;refine a0 _ _ (TZ Q4 ?_ _);clear a0;go_wp2;go_meet;exact⟨gg,cap,w6,rfl,c9,d2,c6⟩
 obtain⟨gg,cap,w6,rfl,Z,n9,m7⟩:=hcut;obtain⟨c9,d2,c6⟩:=Xt7 Z n9 m7;clear Z n9 m7;go_wp2;go_ret
 first|refine .inr ⟨HN,rfl,?_⟩|refine⟨HN,rfl,?_⟩
 rw[HO.out];have b5:=q3.out;have e:qs[k]=q:=q4.out;refine Qo5 (k:=k) (qg:=qg) (qs:=qs) (qA:=sA qg) (qc:=qc) a3 y h9 h4 k2 b1 (by rw[E0.out];exact HF) p4 p9 o9 p2 o7 b5 (p6) p5 rfl (by rw[e];exact Hm) ?_ ?_ ?_
 ·rw[e];exact c9
 ·rw[e];exact d2
 rw[e];exact c6
set_option linter.unusedSimpArgs false
structure KY(w:World)(B:Nat)(t:TypeId)(cs:Array Value)(o0:Nat)(A:Option Addr)(L:List X6):Prop where
 blk:J7 w B t cs
 at_:∃c,cs[o0]?=some (.slice A L.length c)/\L.length<=c/\c<=maxLen
 els:C0 w U0 5 A L.length L
 ne:X5 A≠some B
 lt:∀g,X5 A=some g->g<w.heap.size
def KV(w w':World)(B:Nat)(t:TypeId)(cs:Array Value)(o0:Nat)(A:Option Addr)(L:List X6):Prop:=
 ∃A' c',KY w' B t (cs.setIfInBounds o0 (.slice A' L.length c')) o0 A' L/\X4 (fun i=>i=B) w w'/\∀g,X5 A'=some g->X5 A=some g\/w.heap.size<=g
section
variable {w w':World} {B:Nat} {t:TypeId} {cs:Array Value} {o0:Nat} {A:Option Addr} {L:List X6}
theorem KY.below(h:KY w B t cs o0 A L)(i:Bz w w'):KY w' B t cs o0 A L:=
 ⟨Z4 h.blk i,h.at_,h.els.below i Q2,h.ne,fun g j=>D0 (h.lt g j) i.size⟩
theorem KY.keeps{S}(h:KY w B t cs o0 A L)(hk:X4 S w w')(h1:¬S B)(h2:∀g,X5 A=some g->¬S g):KY w' B t cs o0 A L:=
 ⟨V0 h.blk hk h1,h.at_,h.els.keeps hk h2,h.ne,fun g i=>D0 (h.lt g i) hk.size⟩
theorem Lj{cs:Array Value}{o v}(h:cs[o]?=some v):cs.setIfInBounds o v=cs:=by apply Array.ext';rw[Array.toList_setIfInBounds];obtain⟨j,i⟩:=EC.1 h;rw[<-i,<-Array.getElem_toList];exact List.set_getElem_self _
theorem KV.same(h:KY w B t cs o0 A L)(i:Bz w w'):KV w w' B t cs o0 A L:=by obtain⟨c,j,-⟩:=h.at_;exact⟨A,c,by rw[Lj j];exact h.below i,B9 i _,fun g u=>.inl u⟩
abbrev RF:=@KV.same
theorem KY.cell(h:KY w B t cs o0 A L):∃c,w.cell? (aD B o0)=some (.slice A L.length c)/\L.length<=c/\c<=maxLen:=by obtain⟨c,i,h1⟩:=h.at_;exact⟨c,by rw[X9 h.blk];exact i,h1⟩
theorem KY.blt(h:KY w B t cs o0 A L):B<w.heap.size:=Z9 h.blk
theorem X8.le_cap{w A n c sz t xs}(h:X8 w A n c t sz xs):n<=c/\c<=maxLen:=by
 rcases h.2 with⟨h1,h2⟩|⟨g,cap,y,u,-,-,j,i,-,-⟩
 ·cases h1;exact⟨Q0,Q9⟩
 cases u;exact⟨j,i⟩
theorem KY.put(h:KY w B t cs o0 A L){w1}(C:Bz w w1){A' n' c' L' t'}(u:X8 w1 A' n' c' t' 5 (X7 U0 L'))(y:∀g,X5 A'=some g->w.heap.size<=g):KV w (w1.setCell (aD B o0) (.slice A' n' c')) B t cs o0 A L':=by
 have J:L'.length=n':=YU JG Q0 u;subst J;have hB:=h.blt;have D:∀g,X5 A'=some g->g≠B:=fun g j=>by have:=y g j;omega
 have Z:X8 (w1.setCell (aD B o0) (.slice A' L'.length c')) A' L'.length c' t' 5 (X7 U0 L'):=RB u (U1 w1 (aD B o0) _) (fun g j e=>D g j e);obtain⟨c,E,-⟩:=h.at_;have N:o0<cs.size:=(EC.1 E).1;refine⟨A',c',⟨Z0 (Z4 h.blk C) o0 _,⟨c',by simp[N],X8.le_cap u⟩,CY JG Q0 Z,fun e=>D B e rfl,fun g j=>?_⟩,(B9 C _).trans (U1 w1 ⟨B,o0,none⟩ _) (fun i e=>.inl e),fun g j=>.inr (y g j)⟩;have:=u.lt j;simpa using this
end
def SE(L:List X6)(id:Int):Int:=if L.findIdx (fun o=>o.id ==id)<L.length then(L.findIdx (fun o=>o.id ==id):Int)else -1
theorem Qh5{L:List X6}{id k}(hk:k<L.length)(h1:L[k].id=id)(h2:∀j(i:j<L.length),j<k->L[j].id≠id):L.findIdx (fun o=>o.id ==id)=k:=by have h:L.findIdx (fun o=>o.id ==id)=k:=(List.findIdx_eq hk).2 ⟨by simp[h1],fun j i=>by simpa using h2 j Q0 i⟩;exact h
theorem Xb5{L:List X6}{id}(h:∀j(i:j<L.length),L[j].id≠id):L.findIdx (fun o=>o.id ==id)=L.length:=by rw[List.findIdx_eq_length];intro o u;obtain⟨j,i,rfl⟩:=ZX.1 u;simpa using h j i
theorem Dc w B t cs o0 A L(h:KY w B t cs o0 A L)(hn:L.length<=100000)id:Calls prog 124 #[IP (some (aD B o0)),I O id] w fun e w'=>e=.returned (I O (SE L id))/\Bz w w':=by
 obtain⟨c,hc,-⟩:=h.cell;obtain⟨n,a1⟩:=exq L.length;have J:=J6 h.els;rw[a1]at hc J;have HN:=J6 a1;have a8:n<=100000:=Q0;clear h hn a1;go_enter func124,ntmps124
 go_wp2_with fail
 go_loopg [12] n (fun gg a4 wx=>∃k,k<=n/\gg=n-k/\a4=I O k/\Bz w wx/\Hid (∀j(y:j<L.length),j<k->L[j].id≠id))
 case atStart=>exact⟨0,U9 _,rfl,rfl,J9 _ _,J6 fun j y h=>absurd h Q0⟩
 obtain⟨k,hk,rfl,rfl,i,N⟩:=hrel
 by_cases a7:k<n
 ·have a0:k<L.length:=by have:=HN.out;omega
  obtain⟨b,D,hA⟩:∃b D,A=some (aD b D):=by obtain⟨b,D,h1,_⟩:=J.2 Q0;exact⟨b,D,h1⟩
  subst hA;obtain⟨x0,x1,x2,x3,x4⟩:=ML (J.below i Q2) a0;have a3:(k:Int)<(n:Int):=Q0;have a6:(0:Int)<=(k:Int):=Q0;obtain⟨o,E⟩:∃o,Hid (L[k]=o):=⟨_,J6 rfl⟩;rw[E.out]at x0 x1 x2 x3 x4;have C:=J6 (i.alloc i.size (.cells (Z8 o) 84));clear i
  by_cases u:o.id=id
  ·have d1:=V4 u
   have Z:Hid (SE L id=k):=J6 (by have e:=Qh5 a0 (by rw[E.out];exact u) N;unfold SE;rw[e,X0 a0])
   clear u;go_wp2;go_ret;exact⟨JK (by rw[Z.out]),C⟩
  have d1:=Z3 u;have a2:Hid (∀j(y:j<L.length),j<k+1->L[j].id≠id):=J6 (fun j y a5=>by
   by_cases e:j=k
   ·subst e;rw[E.out];exact u
   exact N j y Q0)
  clear u;go_wp2
  go_roundg (n-(k+1))
  case measure=>omega
  exact⟨k+1,Q0,rfl,J5,C,a2⟩
 obtain rfl:n=k:=by omega
 have a3:¬(n:Int)<(n:Int):=Q0;have C:=J6 i;have Z:Hid (SE L id= -1):=J6 (by have e:=Xb5 (L:=L) (id:=id) (fun j y=>N j y (by have:=HN.out;omega));unfold SE;rw[e,J8 Q0])
 clear i;go_wp2;go_ret;exact⟨JK (by rw[Z.out]),C⟩
theorem Ke L id:(SE L id= -1/\B4 L id=none)\/∃(k:Nat)(hk:k<L.length),SE L id=k/\L.findIdx (fun o=>o.id ==id)=k/\L[k].id=id/\B4 L id=some L[k]:=by
 unfold SE B4
 by_cases h:L.findIdx (fun o=>o.id ==id)<L.length
 ·right
  refine⟨_,h,X0 h,rfl,?_,?_⟩
  ·have:=List.findIdx_getElem (xs:=L) (p:=fun o=>o.id ==id) (w:=h)
   simpa using this
  rw[List.find?_eq_getElem?_findIdx];exact JY h
 left
 refine⟨J8 h,?_⟩;rw[List.find?_eq_getElem?_findIdx];exact GL Q0
theorem Qm0{P:Program}{j:Func}{p u:Tmp}{i:TypeId}(h:j.results= #[.cell p i,.tmp u])(tmps:Array Value)(w:World)(g:Nat)(t:TypeId)(cs:Array Value)(v:Value)(fr:Nat×Nat)(d:TypeDesc)(hp:tmps.getD p undef=pA g) (J:tmps.getD u undef=v) (C:w.heap[g]?=some (.cells cs t fr))(Z:P.underlying i=some d) (y:(match d with| .struct _| .array _ _=>true|_=>false)=true) (D:(P.info? i).map (·.size)=some cs.size):(results j tmps).run P w=.ok (.tuple #[.agg cs,v]) w:=by
 have E:tmps[p]?.getD undef=pA g:=by simpa using hp
 have N:tmps[u]?.getD undef=v:=by simpa using J
 simp[results,h,E,N,asAddr,run_loadVar_row w g t i cs fr d C Z y D,Sem.run_bind,Result.andThen]
theorem Qb3{fn}(u:fn.results= #[.cell 4 84,.tmp 5]){w a Q cs v}g(C:cs.size=5)(hp:a.tmps.getD 4 undef=pA g)(i:a.tmps.getD 5 undef=v)(j:a.defers=[])(y:J7 w g 84 cs) (h:Q (.returned (.tuple #[.agg cs,v])) w):bodyPost prog fn Q .ret a w:=
 QA (Qm0 u a.tmps w g 84 cs v (0,0) _ hp i y underlying84 rfl (by rw[C];show(prog.info? 84).map (·.size)=some 5;kernel_rfl)) j h
def Jp(L:List X6)(id:Int):Int:=if(B4 L id).isSome=true then 0 else 7
def Jq(L:List X6)(id:Int):X6:=(B4 L id).getD D4
theorem Qj3{w g t a b c d e}(h:J7 w g t #[a,b,c,d,e]):w.cell? (aD g 0)=some a/\w.cell? (aD g 1)=some b/\w.cell? (aD g 2)=some c/\w.cell? (aD g 3)=some d/\w.cell? (aD g 4)=some e:=
 ⟨by rw[X9 h];rfl,by rw[X9 h];rfl,by rw[X9 h];rfl,by rw[X9 h];rfl,by rw[X9 h];rfl⟩
def QX(p s:Int):Bool:=(decide (1<=p) &&decide (p<=1000000)) && (decide (0<=s) &&decide (s<=10000))
theorem Qc{p s}:QX p s=true↔1<=p/\p<=1000000/\0<=s/\s<=10000:=by simp[QX,and_assoc]
def XV(p s:Int):Int:=if QX p s=true then Zm p s else 0
def XU(p s:Int):Int:=if QX p s=true then Ze p s else 0
def KM(p s:Int):Int:=if QX p s=true then 0 else 2
theorem RM p s w:Calls prog 96 #[I O p,I O s] w fun e w'=>e=.returned (.tuple #[I O (XV p s),I O (XU p s),Y9 (KM p s)])/\Bz w w':=by
 by_cases h:QX p s=true
 ·obtain⟨h1,h2,u,y⟩:=Qc.1 h
  refine(Xk0 p s w h1 h2 u y).mono ?_;rintro e w'⟨rfl,i⟩;exact⟨by rw[XV,XU,KM,X0 h,X0 h,X0 h];rfl,i⟩
 refine(Xb2 p s w (fun j=>h (Qc.2 j))).mono ?_;rintro e w'⟨rfl,i⟩;exact⟨by rw[XV,XU,KM,J8 h,J8 h,J8 h];rfl,i⟩
theorem Xs9:Jh U0 84 91 5 144 (.agg #[I O 0,I O 0,I O 0,I O 0,I O 0]):=⟨JG,BL,.inr (.inl ⟨rfl,rfl,rfl,rfl,rfl⟩)⟩
def Xr2(w:World)(S:Nat->Prop)(g:FuncId)(lb:Array Value)(F:X6->Bool):Prop:=
 ∀W p,X4 S w W->Calls prog g (#[V6 p]++lb) W fun e w'=>e=.returned (.bool (F p))/\Bz W w'
theorem Je6 g lb F(eg:∀args w,(callFunc g args).run prog w=.ok (.enter g args) w)A n c ps w S(hp:Xr2 w S g lb F) (h:C0 w U0 5 A n ps) (hm:n<=1000000):Calls prog 142 #[.slice A n c,.func (.func g) #[] lb] w fun e w'=>Bz w w'/\(((∀i(u:i<ps.length),F ps[i]=false)/\e=.returned (I O (-1)))\/∃(k:Nat)(hk:k<ps.length),F ps[k]=true/\(∀i(u:i<ps.length),i<k->F ps[i]=false)/\e=.returned (I O k)):=by
 have hl:=h.1;obtain⟨HP,HL,HH⟩:=Xt7 hp hl h;clear hp hl h;go_enter func142,ntmps142
 go_wp2
 go_loopg [5,8] n (fun gg _ s8 wr=>∃j,j<=n/\gg=n-j/\s8=I O j/\Bz w wr/\Hid (∀i(u:i<ps.length),i<j->F ps[i]=false))
 case atStart=>exact⟨0,U9 _,rfl,rfl,J9 _ w,J6 fun i _ u=>absurd u (Nat.not_lt_zero _)⟩
 obtain⟨j,a4,rfl,rfl,C,Z⟩:=hrel
 by_cases a5:j<n
 ·obtain⟨b,a6,rfl,_,_⟩:=HH.2 Q0
  have a1:j<ps.length:=by have:=HL.out;omega
  obtain⟨x0,x1,x2,x3,x4⟩:=ML (HH.below C Q2) a1;have D:=HP.out wr ps[j] (B9 C _);have a2:(j:Int)<(n:Int):=Q0;obtain⟨p,E⟩:∃p,Hid (ps[j]=p):=⟨_,J6 rfl⟩;rw[E.out]at x0 x1 x2 x3 x4 D;obtain⟨p0,p1,p2,p3,p4⟩:=p;unfold V6 at D;dsimp only at x0 x1 x2 x3 x4 D
  cases J:F ⟨p0,p1,p2,p3,p4⟩with
  |true=>
   rw[J]at D;have HQ:=J6 J;clear J;go_wp2_with (go_at_fn g;refine D.mono ?_;rintro e w'⟨rfl,a0⟩)
   go_ret;exact⟨C.trans (a0.mono C.size),.inr ⟨j,a1,by rw[E.out];exact HQ,Z,rfl⟩⟩
  |false=>
   rw[J]at D;have HQ:=J6 J;clear J;go_wp2_with (go_at_fn g;refine D.mono ?_;rintro e w'⟨rfl,a0⟩)
   go_roundg (n-(j+1))
   case measure=>omega
   refine⟨j+1,Q0,rfl,J5,C.trans (a0.mono C.size),J6 fun i u a3=>?_⟩
   by_cases e:i=j
   ·subst e
    rw[E.out];exact HQ
   exact Z i u Q0
 have a2:¬(j:Int)<(n:Int):=by omega
 obtain rfl:j=n:=Q0;go_wp2;go_ret;exact⟨C,.inl ⟨fun i u=>Z i u (by have:=HL.out;omega),rfl⟩⟩
theorem Je7{w w' p v}(h:w.cell? p=some v)(i:Bz w w'):w'.cell? p=some v:=(i.cell (U5 _ _ h)).trans h
theorem Qx1 w B id(i:J7 w B 3 #[I O id])o:Calls prog 143 #[V6 o,pA B] w fun e w'=>e=.returned (.bool (o.id ==id))/\Bz w w':=by
 have j:Bz w (w.alloc (.cells #[I O o.id,I O o.side,I O o.kind,I O o.price,I O o.qty] 84)):=(J9 _ w).alloc Q2 _;have u:=J6 j;have C:w.cell? (aD B 0)=some (I O id):=by rw[X9 i];rfl
 have E:=Je7 C j;have D:=Z9 i;clear i j;unfold V6;go_enter func143,ntmps143
 go_wp2;go_ret;exact⟨rfl,u⟩
attribute [local go_sem↓] Go.wp_at_zero Go.wp_at_succ
def ZU(w:World)(b:Nat)(st dy an la:Int):Prop:=J7 w b 285 #[I O st,I O dy,I O an,I O la]
section
variable {w:World} {b:Nat} {st dy an la:Int} (h:ZU w b st dy an la)
include h
theorem ZU.c0:w.cell? (aD b 0)=some (I O st):=by rw[X9 h];rfl
theorem ZU.c1:w.cell? (aD b 1)=some (I O dy):=by rw[X9 h];rfl
theorem ZU.c2:w.cell? (aD b 2)=some (I O an):=by rw[X9 h];rfl
theorem ZU.c3:w.cell? (aD b 3)=some (I O la):=by rw[X9 h];rfl
end
theorem Je8 b st dy an la w(h:ZU w b st dy an la):Calls prog 155 #[pA b] w fun e w'=>e=.returned (I O an)/\w=w':=by
 have c:=h.c2;go_enter func155,ntmps155
 go_wp2;go_ret;exact⟨rfl,rfl⟩
theorem Qj b st dy an la w(h:ZU w b st dy an la):Calls prog 154 #[pA b] w fun e w'=>e=.returned (I O la)/\w=w':=by
 have c:=h.c3;go_enter func154,ntmps154
 go_wp2;go_ret;exact⟨rfl,rfl⟩
theorem Je9 b st dy an la w(h:ZU w b st dy an la):Calls prog 256 #[pA b] w fun e w'=>e=.returned (.tuple #[I O (XV an st),I O (XU an st)])/\Bz w w':=by
 have c0:=h.c0;have c2:=h.c2;go_enter func256,ntmps256
 go_wp2
 go_region_held3 (fun w'=>w'.cell? ⟨b,0,none⟩=some (I O st)/\w'.cell? ⟨b,2,none⟩=some (I O an))
  (first|go_keep|exact⟨(i.cell (p:=(aD b 0)) (Z9 h)).trans c0,(i.cell (p:=(aD b 2)) (Z9 h)).trans c2⟩)
  (first|(go_at_call 96;refine(RM _ _ _).mono ?_;rintro e w1⟨rfl,i⟩))
 go_wp2;go_ret2;exact⟨rfl,(J9 _ w).drew.trans i⟩
theorem Qx2 b st dy an la w(h:ZU w b st dy an la):Calls prog 262 #[pA b] w fun e w'=>e=.returned (.tuple #[I O (XV la dy),I O (XU la dy)])/\Bz w w':=by
 have c1:=h.c1;have c3:=h.c3;go_enter func262,ntmps262
 go_wp2
 go_region_held3 (fun w'=>w'.cell? ⟨b,1,none⟩=some (I O dy)/\w'.cell? ⟨b,3,none⟩=some (I O la))
  (first|go_keep|exact⟨(i.cell (p:=(aD b 1)) (Z9 h)).trans c1,(i.cell (p:=(aD b 3)) (Z9 h)).trans c3⟩)
  (first|(go_at_call 96;refine(RM _ _ _).mono ?_;rintro e w1⟨rfl,i⟩))
 go_wp2;go_ret2;exact⟨rfl,(J9 _ w).drew.trans i⟩
def Zz(p lo hi:Int):Bool:=decide (lo<=p) &&decide (p<=hi)
def AS(st an p:Int):Bool:=Zz p (XV an st) (XU an st)
def YA(st dy an la p:Int):Bool:=AS st an p &&Zz p (XV la dy) (XU la dy)
theorem Qb4 b st dy an la p w(h:ZU w b st dy an la):Calls prog 213 #[pA b,I O p] w fun e w'=>e=.returned (.bool (AS st an p))/\Bz w w':=by
 unfold AS Zz;go_enter func213,ntmps213
 go_wp2_with fail
 refine(Je9 b st dy an la w h).mono ?_;rintro e w1⟨rfl,j⟩
 by_cases h1:XV an st<=p
 ·have i:=V7 h1
  have E:=J6 (show decide (p<=XU an st)=(decide (XV an st<=p) &&decide (p<=XU an st)) by rw[i];rfl);go_wp2;go_ret;exact⟨JH E,j⟩
 have i:=V9 h1;have E:=J6 (show false=(decide (XV an st<=p) &&decide (p<=XU an st)) by rw[i];rfl);clear h1;go_wp2;go_ret;exact⟨JH E,j⟩
theorem Jf0 b st dy an la p w(h:ZU w b st dy an la):Calls prog 224 #[pA b,I O p] w fun e w'=>e=.returned (.bool (YA st dy an la p))/\Bz w w':=by
 unfold YA Zz;go_enter func224,ntmps224
 go_wp2_with fail
 refine(Qx2 b st dy an la w h).mono ?_;rintro e w1⟨rfl,u⟩;go_wp2_with fail
 refine(Qb4 b st dy an la p w1 (Z4 h u)).mono ?_;rintro e w2⟨rfl,D⟩;have y:Bz w w2:=u.trans (D.mono u.size)
 by_cases i:AS st an p=true
 ·by_cases h1:XV la dy<=p
  ·have j:=V7 h1
   have E:=J6 (show decide (p<=XU la dy)=(AS st an p && (decide (XV la dy<=p) &&decide (p<=XU la dy))) by rw[j,i];rfl);rw[i];clear i;go_wp2;go_ret;exact⟨JH E,y⟩
  have j:=V9 h1;have E:=J6 (show false=(AS st an p && (decide (XV la dy<=p) &&decide (p<=XU la dy))) by rw[j,i];rfl);rw[i];clear h1 i;go_wp2;go_ret;exact⟨JH E,y⟩
 have C:AS st an p=false:=by simpa using i
 have E:=J6 (show false=(AS st an p && (decide (XV la dy<=p) &&decide (p<=XU la dy))) by rw[C];rfl);rw[C];clear i C;go_wp2;go_ret;exact⟨JH E,y⟩
theorem Dd b st dy an la p w(h:ZU w b st dy an la):Calls prog 226 #[pA b,I O p] w fun e w'=>e=.returned (Y9 (if JZ p 1=true then 0 else 2))/\ZU w' b st dy an (if JZ p 1=true then p else la)/\X4 (fun i=>i=b) w w':=by
 by_cases j:JZ p 1=true
 ·rw[X0 j,X0 j,DB]
  have y:=J6 j;clear j;go_enter func226,ntmps226
  go_wp2_with fail
  refine(RG p 1 w).mono ?_;rintro e w1⟨rfl,u⟩;rw[y.out];have h1:ZU w1 b st dy an la:=Z4 h u;have c3:=h1.c3;have D:=K0 h1 3;go_wp2;go_ret;exact⟨rfl,Z0 h1 3 _,X4.after u (U1 _ (aD b 3) _)⟩
 have C:JZ p 1=false:=by simpa using j
 rw[J8 j,J8 j,Qi];have y:=J6 C;clear j C;go_enter func226,ntmps226
 go_wp2_with fail
 refine(RG p 1 w).mono ?_;rintro e w1⟨rfl,u⟩;rw[y.out];go_wp2;go_ret;exact⟨rfl,Z4 h u,B9 u _⟩
theorem Xk4 b st dy an la p w(h:ZU w b st dy an la):Calls prog 211 #[pA b,I O p] w fun e w'=>e=.returned (Y9 (if JZ p 1=true then 0 else 2))/\ZU w' b st dy (if JZ p 1=true then p else an) (if JZ p 1=true then p else la)/\X4 (fun i=>i=b) w w':=by
 by_cases j:JZ p 1=true
 ·rw[X0 j,X0 j,X0 j,DB]
  go_enter func211,ntmps211
  go_wp2_with fail
  refine(Dd b st dy an la p w h).mono ?_;rintro e w1⟨rfl,h1,u⟩;rw[X0 j]at h1;rw[X0 j,DB];have y:=K0 h1 2;have c2:=ZU.c2 h1;clear j;go_wp2;go_ret;exact⟨rfl,Z0 h1 2 _,u.trans (U1 _ (aD b 2) _) (fun i h=>.inl h)⟩
 rw[J8 j,J8 j,J8 j,Qi];go_enter func211,ntmps211
 go_wp2_with fail
 refine(Dd b st dy an la p w h).mono ?_;rintro e w1⟨rfl,h1,u⟩;rw[J8 j]at h1;rw[J8 j,Qi];clear j;go_wp2;go_ret;exact⟨rfl,h1,u⟩
theorem Qr9 st dy p w:Calls prog 157 #[I O st,I O dy,I O p] w fun e w'=>Bz w w'/\((QX p st &&QX p dy)=true/\(∃b,w.heap.size<=b/\e=.returned (.tuple #[pA b,.nilIface])/\ZU w' b st dy p p)\/(QX p st &&QX p dy)=false/\e=.returned (.tuple #[.pointer none,Y9 2])):=by
 have Z:∀w,(Instr.index 289 (.agg #[I O st,I O dy]) (I O 0)).run prog w=.ok (I O st) w:=fun _=>Q4
 have i1:∀w,(Instr.index 289 (.agg #[I O st,I O dy]) (I O 1)).run prog w=.ok (I O dy) w:=fun _=>Q4
 by_cases h1:QX p st=true
 ·by_cases h2:QX p dy=true
  ·have i:KM p st=0:=by rw[KM,X0 h1]
   have y:KM p dy=0:=by rw[KM,X0 h2]
   obtain⟨H,u,D⟩:=Xt7 (show(QX p st &&QX p dy)=true by rw[h1,h2];rfl) i y;clear h1 h2 i y;go_enter func157,ntmps157
   go_wp2;refine Xp 3 ?_;rw[NS];go_wp2_with fail
   refine(RM _ _ _).mono ?_;rintro e w1⟨rfl,j⟩;rw[u.out,DB];go_wp2;rw[NS];go_wp2_with fail
   refine(RM _ _ _).mono ?_;rintro e w2⟨rfl,E⟩;rw[D.out,DB];go_wp2;rw[NS];go_wp2;go_ret2;have C:Bz w w2:=j.trans (E.mono j.size);exact⟨C.alloc C.size _,.inl ⟨H,_,C.size,rfl,Z5 _ _ _⟩⟩
  have N:QX p dy=false:=by simpa using h2
  have i:KM p st=0:=by rw[KM,X0 h1]
  have y:KM p dy=2:=by rw[KM,J8 h2]
  obtain⟨H,u,D⟩:=Xt7 (show(QX p st &&QX p dy)=false by rw[h1,N];rfl) i y;clear h1 h2 N i y;go_enter func157,ntmps157
  go_wp2;refine Xp 2 ?_;rw[NS];go_wp2_with fail
  refine(RM _ _ _).mono ?_;rintro e w1⟨rfl,j⟩;rw[u.out,DB];go_wp2;rw[NS];go_wp2_with fail
  refine(RM _ _ _).mono ?_;rintro e w2⟨rfl,E⟩;rw[D.out,Qi];go_wp2;go_ret2;have C:Bz w w2:=j.trans (E.mono j.size);exact⟨C,.inr ⟨H,rfl⟩⟩
 have J:QX p st=false:=by simpa using h1
 have i:KM p st=2:=by rw[KM,J8 h1]
 obtain⟨H,u⟩:=Xt6 (show(QX p st &&QX p dy)=false by rw[J];rfl) i;clear h1 J i;go_enter func157,ntmps157
 go_wp2;refine Xp 1 ?_;rw[NS];go_wp2_with fail
 refine(RM _ _ _).mono ?_;rintro e w1⟨rfl,j⟩;rw[u.out,Qi];go_wp2;go_ret2;exact⟨j,.inr ⟨H,rfl⟩⟩
theorem VY n i j w:Calls prog 37 #[I O n,I O i,I O j] w fun e w'=>e=.returned (.bool (decide (i<=n) &&decide (n<=j)))/\w=w':=by
 by_cases h:i<=n
 ·go_enter func37,ntmps37
  go_wp2;go_ret;exact⟨JH (by simp[h]),rfl⟩
 have u:decide (i<=n)=false:=by simpa using h
 go_enter func37,ntmps37
 go_wp2;go_ret;exact⟨JH Q3,rfl⟩
theorem MU p q w:Calls prog 71 #[I O p,I O q] w fun e w'=>e=.returned (.bool (JZ p q))/\w=w':=by
 by_cases h1:(decide (1<=p) &&decide (p<=1000000))=true
 ·have i:JZ p q=(decide (1<=q) &&decide (q<=1000000)):=by rw[JZ,h1];rfl
  rw[i];have j:=J6 h1;clear h1 i;go_enter func71,ntmps71
  go_wp2_with fail
  refine(VY _ _ _ _).mono ?_;rintro e w'⟨rfl,rfl⟩;rw[j.out];go_wp2_with fail
  refine(VY _ _ _ _).mono ?_;rintro e w'⟨rfl,rfl⟩;go_wp2;go_ret;exact⟨rfl,rfl⟩
 have u:(decide (1<=p) &&decide (p<=1000000))=false:=by simpa using h1
 have i:JZ p q=false:=by rw[JZ,u];rfl
 rw[i];have j:=J6 u;clear h1 u i;go_enter func71,ntmps71
 go_wp2_with fail
 refine(VY _ _ _ _).mono ?_;rintro e w'⟨rfl,rfl⟩;rw[j.out];go_wp2;go_ret;exact⟨rfl,rfl⟩
theorem Sn{p}:JZ p 1=(decide (1<=p) &&decide (p<=1000000)):=by simp[JZ]
theorem Ui p s w:Calls prog 27 #[I O p,I O s] w fun e w'=>e=.returned (.tuple #[I O (XV p s),I O (XU p s),I O (KM p s)])/\w=w':=by
 by_cases h1:JZ p 1=true
 ·by_cases h2:(decide (0<=s) &&decide (s<=10000))=true
  ·have i:QX p s=true:=by rw[QX,<-Sn,h1,h2];rfl
   obtain⟨N,E,D,J⟩:=Qc.1 i;rw[XV,XU,KM,X0 i,X0 i,X0 i];obtain⟨j,u⟩:=Xt6 h1 h2;clear h1 h2 i;have Z:0<=p*s:=Int.mul_nonneg Q0 D;have a0:p*s<=10000000000:=NH (Int.mul_le_mul E J D Q0) Q0;go_enter func27,ntmps27
   go_wp2_with fail
   refine(MU _ _ _).mono ?_;rintro e w'⟨rfl,rfl⟩;rw[j.out];go_wp2_with fail
   refine(VY _ _ _ _).mono ?_;rintro e w'⟨rfl,rfl⟩;rw[u.out];go_wp2
   all_goals
    go_ret3;exact⟨Qd4 (by unfold Zm;omega) (by unfold Ze;omega),rfl⟩
  have C:(decide (0<=s) &&decide (s<=10000))=false:=by simpa using h2
  have i:¬QX p s=true:=by rw[QX,C];simp
  rw[XV,XU,KM,J8 i,J8 i,J8 i];obtain⟨j,u⟩:=Xt6 h1 C;clear h1 h2 C i;go_enter func27,ntmps27
  go_wp2_with fail
  refine(MU _ _ _).mono ?_;rintro e w'⟨rfl,rfl⟩;rw[j.out];go_wp2_with fail
  refine(VY _ _ _ _).mono ?_;rintro e w'⟨rfl,rfl⟩;rw[u.out];go_wp2;go_ret3;exact⟨rfl,rfl⟩
 have y:JZ p 1=false:=by simpa using h1
 have i:¬QX p s=true:=by rw[QX,<-Sn,y];simp
 rw[XV,XU,KM,J8 i,J8 i,J8 i];have j:=J6 y;clear h1 y i;go_enter func27,ntmps27
 go_wp2_with fail
 refine(MU _ _ _).mono ?_;rintro e w'⟨rfl,rfl⟩;rw[j.out];go_wp2;go_ret3;exact⟨rfl,rfl⟩
