/- Parts. -/
import Derived.Test.YtfoikonjjojkaaaGreatDoorZt23
set_option linter.unusedVariables false
set_option maxRecDepth 100000
set_option maxHeartbeats 8000000
open Go.Proofs.Tryz
open Go.Value renaming int→I,pointer→IP
open Go.IntKind renaming i64→O
namespace Go.Proofs.YtfoikonjjojkaaaGreatDoor
open Go Go.RowKit
section
open Go.Shelf
attribute [local go_sem] Oper.semAt_some
theorem My(c:UInt8)(l:E9):E6 (c::l)=if c ==10 then []::E6 l else match E6 l with
  | []=>[[c]]
  |h::t=>(c::h)::t:=rfl
theorem Mz:∀r:E9,(Lib.indexByte r 10= -1/\E6 r=[r])\/∃i:Nat,Lib.indexByte r 10=i/\i<r.length/\E6 r=r.take i::E6 (r.drop (i+1))
 | []=>.inl ⟨rfl,rfl⟩
 |c::l=>by
  rw[My];unfold Lib.indexByte
  by_cases h:(c ==10)=true
  ·rw[X0 h,X0 h]
   exact .inr ⟨0,rfl,Q3,rfl⟩
  rw[J8 h,J8 h];rcases Mz l with⟨h1,h2⟩|⟨i,h1,h2,h3⟩
  ·rw[h1,h2]
   exact .inl ⟨rfl,rfl⟩
  rw[h1,h3];refine .inr ⟨i+1,?_,by simpa using h2,rfl⟩;have:¬(((i:Int) == -1)=true):=Q3;rw[J8 this]
  rfl
theorem Rg(r:ByteArray)i:(r.extract 0 i).data.toList=r.data.toList.take i:=by rw[Lib.extract_data,Xs,Nat.sub_zero]
theorem Ji4(r:ByteArray)i:(r.extract i r.size).data.toList=r.data.toList.drop i:=by rw[Lib.extract_data,KD];exact M4 (by rw[UQ];exact X3 _)
theorem Xf4 n(hn:2<=n)l u j y t(ht:t.size<=30000)(J:List E9->World->Prop)(hJ:∀pre W W',J pre W->X4 (fun i=>i=j) W W'->J pre W')(hY:∀pre x q W,J pre W->E6 t.data.toList=pre++x.data.toList::q->YieldAt Fence.wide (n-1) prog l #[.string x] W fun e W'=>e=.returned (.bool true)/\J (pre++[x.data.toList]) W'/\W'.heap[u]?=W.heap[u]?/\W'.heap[j]?=W.heap[j]?/\W'.heap[y]?=W.heap[y]?) W (c8:u≠j) (c9:y≠j) (a3:J7 W u 9 #[.string ⟨#[10]⟩]) (a6:J7 W j 9 #[.string t]) (a7:J7 W y 3 #[I O 0]) (h0:J [] W):CallsIn Fence.wide n prog 41 #[.func (.yield l) #[] #[],pA u,pA j,pA y] W fun e W'=>(∃v,e=.returned v)/\J (E6 t.data.toList) W':=by
 obtain⟨HJ,HY,H0⟩:=Xt7 hJ hY h0;have b1:W.cell? (aD u 0)=some (.string ⟨#[10]⟩):=by rw[X9 a3];rfl
 obtain⟨b5,b8,b9⟩:=Xt7 a3 a6 a7;clear hJ hY h0 a3 a6 a7;refine callsIn_of_wp func41 rfl trivial ?_ rfl;simp only[ntmps41,List.size_toArray,List.length_cons,List.length_nil,Nat.reduceAdd,Nat.reduceSub,Array.replicate_succ,Array.replicate_zero,List.push_toArray,List.append_toArray,List.nil_append,List.cons_append]
 gi_wp2
 clear b1
 gi_loopg [7] (t.size+1) (fun gg s7 wr=>∃pre r,r.size<gg/\r.size<=30000/\E6 t.data.toList=pre++E6 r.data.toList/\J pre wr/\J7 wr u 9 #[.string ⟨#[10]⟩]/\J7 wr j 9 #[.string r]/\J7 wr y 3 #[I O 0])
 case atStart=>exact⟨[],t,Nat.lt_succ_self _,ht,rfl,H0,b5,b8,b9⟩
 obtain⟨pre,r,d3,hr,D,N,c1,c2,c3⟩:=hrel;obtain⟨d1,Hj,C1,C2,C3⟩:=Xt9 D N c1 c2 c3;have x1:wr.cell? (aD u 0)=some (.string ⟨#[10]⟩):=by rw[X9 c1];rfl
 have x2:wr.cell? (aD j 0)=some (.string r):=by rw[X9 c2];rfl
 have x3:wr.cell? (aD y 0)=some (I O 0):=by rw[X9 c3];rfl
 have e2:Fence.wide.fn 43:=trivial;have d2:1<=n:=Q0;clear c1 c2 c3;rcases Mz r.data.toList with⟨h1,h2⟩|⟨i,h1,h2,h3⟩
 ·have E:=J6 (Qh2 r 10 wr)
  rw[h1]at E;obtain⟨fn,tmps,c6,c7,hy,hR⟩:=HY.out pre r [] wr N (by rw[D,h2]);have a2:=J6 (show E6 t.data.toList=pre++[r.data.toList] by rw[D,h2]);clear h1 h2 D N
  gi_wp2_with (gi_at_call 43;refine(DU.2 E).mono ?_;rintro e w1⟨rfl,rfl⟩)
  refine hR.mono ?_;rintro e C⟨rfl,a0,-,-,-⟩
  gi_wp2
  go_end0
  exact⟨⟨_,rfl⟩,by rw[a2.out];exact a0⟩
 have E:=J6 (Qh2 r 10 wr);rw[h1]at E;obtain⟨fn,tmps,c6,c7,hy,hR⟩:=HY.out pre (r.extract 0 i) (E6 (r.data.toList.drop (i+1))) wr N (by rw[D,h3,Rg]);rw[<-KD]at h2;obtain⟨Z,d7⟩:∃Z,Z=i+1:=⟨_,rfl⟩;have d4:(0:Int)<=(i:Int):=Q0;have d5:(i:Int)<=(r.size:Int):=Q0;have d9:IntKind.i64.wrap (i:Int)=(i:Int):=by rw[YR];omega
 have e1:IntKind.i64.wrap ((i:Int)+1)=(Z:Int):=by rw[YR];omega
 have d6:(0:Int)<=(Z:Int):=Q0;have d8:(Z:Int)<=(r.size:Int):=Q0;obtain⟨a2,a5⟩:=Xt6 (show E6 t.data.toList=(pre++[(r.extract 0 i).data.toList])++E6 (r.extract (i+1) r.size).data.toList by rw[D,h3,Rg,Ji4,VW];rfl) (show(r.extract (i+1) r.size).size<r.size by rw[ByteArray.size_extract];omega);clear h1 h3 D N
 gi_wp2_with (gi_at_call 43;refine(DU.2 E).mono ?_;rintro e w1⟨rfl,rfl⟩)
 refine hR.mono ?_;rintro e C⟨rfl,a0,a8,a9,b0⟩;obtain⟨a4,a1,b2⟩:=Xt7 (show J7 C u 9 #[.string ⟨#[10]⟩]from a8.trans C1) (show J7 C j 9 #[.string r]from a9.trans C2) (show J7 C y 3 #[I O 0]from b0.trans C3);have y1:C.cell? (aD u 0)=some (.string ⟨#[10]⟩):=by rw[X9 a4.out];rfl
 have y2:C.cell? (aD j 0)=some (.string r):=by rw[X9 a1.out];rfl
 have f2:=K0 a1 0;have c5:=J6 a0;clear a0 a8 a9 b0 x1 x2 x3
 gi_wp2
 gi_roundg r.size
 case measure=>omega
 have d0:=U1 C (aD j 0) (.string (r.extract (i+1) r.size));exact⟨_,r.extract (i+1) r.size,by have:=a5.out;omega,by have:=a5.out;omega,a2,HJ _ _ _ c5 d0,ZR a4 c8 _,Z0 a1 0 _,ZR b2 c9 _⟩
end
def BX(p:Int×Int):List Value:=[I O p.1,I O p.2]
theorem Bj p:(BX p).length=2:=rfl
def AC(A:Option Addr)(c:Nat)(s:DS)(p:Option Addr):Array Value:= #[.slice A s.rows.length c,I O s.st,I O s.dy,I O s.p,I O s.tk,I O s.mo,.pointer p]
def GB(w:World)(d:Nat)(G:Nat->Prop)(s:DS):Prop:=
 ∃A c,J7 w d 29 (AC A c s none)/\X8 w A s.rows.length c 152 2 (X7 BX s.rows)/\(∀i,X5 A=some i->i≠d)/\∀i,G i↔i=d\/X5 A=some i
def FF(w:World)(d:Nat)(G:Nat->Prop)(m:Z6):Prop:=
 ∃v0 v1 v2 v3 v4 v5 e F,J7 w d 29 #[v0,v1,v2,v3,v4,v5,pA e]/\D8 w e F m/\¬F d/\∀i,G i↔i=d\/F i
def JM(w:World)(d:Nat)(G:Nat->Prop)(k:Nat)(s:DS):Prop:=
 match s.e with
 |none=>GB w d G s
 |some m=>FF w d G m/\JU m k
def BP(w w':World)(d:Nat)(G:Nat->Prop)(k:Nat)(s:DS):Prop:=∃G',JM w' d G' k s/\U2 w w' G G'
section
variable {w w':World} {d k:Nat} {G:Nat->Prop} {s:DS} {m:Z6}
theorem GB.below(h:GB w d G s)(i:Bz w w'):GB w' d G s:=by obtain⟨A,c,h1,h2,j,u⟩:=h;exact⟨A,c,h1.keep i,h2.below i,j,u⟩
theorem FF.below(h:FF w d G m)(i:Bz w w'):FF w' d G m:=by obtain⟨y,C,D,E,J,N,e,F,h1,h2,j,u⟩:=h;exact⟨y,C,D,E,J,N,e,F,h1.keep i,h2.below i,j,u⟩
theorem JM.n(h:JM w d G k s)(i:s.e=none):GB w d G s:=by unfold JM at h;rw[i]at h;exact h
theorem JM.e(h:JM w d G k s)(i:s.e=some m):FF w d G m/\JU m k:=by unfold JM at h;rw[i]at h;exact h
theorem GB.at_(h:GB w d G s)(i:s.e=none):JM w d G k s:=by unfold JM;rw[i];exact h
theorem FF.at_(h:FF w d G m)(j:JU m k)(i:s.e=some m):JM w d G k s:=by unfold JM;rw[i];exact⟨h,j⟩
theorem JM.below(h:JM w d G k s)(j:Bz w w'):JM w' d G k s:=by
 cases i:s.e with
 |none=>exact(h.n i |>.below j).at_ i
 |some m=>exact((h.e i).1.below j).at_ (h.e i).2 i
theorem JM.up(h:JM w d G k s):JM w d G (k+1) s:=by
 cases i:s.e with
 |none=>exact(h.n i).at_ i
 |some m=>exact(h.e i).1.at_ (h.e i).2.up i
theorem JM.cell6(h:JM w d G k s):∃p,w.cell? (aD d 6)=some (.pointer p)/\p.isSome=s.e.isSome:=by
 cases i:s.e with
 |none=>
  obtain⟨A,c,h1,-⟩:=h.n i;exact⟨none,by rw[X9 h1];rfl,rfl⟩
 |some m=>
  obtain⟨j,u,y,C,D,E,e,F,h1,-⟩:=(h.e i).1;exact⟨sA e,by rw[X9 h1];rfl,rfl⟩
theorem JM.to(h:JM w d G k s)(i:Bz w w'):BP w w' d G (k+1) s:=⟨G,(h.below i).up,S5 i⟩
theorem BP.pre{w0}(i:Bz w0 w)(h:BP w w' d G k s):BP w0 w' d G k s:=by obtain⟨G',h1,h2⟩:=h;exact⟨G',h1,(S5 i).trans h2⟩
theorem BP.then_{w2}(h:BP w w' d G k s)(i:Bz w' w2):BP w w2 d G k s:=by obtain⟨G',h1,h2⟩:=h;exact⟨G',h1.below i,h2.trans (S5 i)⟩
theorem FF.eng(h:FF w d G m):∃e F,w.cell? (aD d 6)=some (pA e)/\D8 w e F m/\¬F d/\∀w' m',A5 w w' e F m'->∃G',FF w' d G' m'/\U2 w w' G G':=by
 obtain⟨Z,v1,v2,v3,v4,v5,e,F,h1,h2,u,y⟩:=h;refine⟨e,F,by rw[X9 h1];rfl,h2,u,fun w' m' ht=>?_⟩;obtain⟨F',J,D,E⟩:=ht;refine⟨fun i=>i=d\/F' i,⟨Z,v1,v2,v3,v4,v5,e,F',V0 h1 D u,J,fun N=>?_,fun i=>KL⟩,D.mono (fun i C=>(y i).2 (.inr C)),fun i C=>?_⟩
 ·obtain j|j:=E d N
  ·exact u j
  have:=h1.lt;omega
 obtain j|j:=C
 ·exact .inl ((y i).2 (.inl j))
 exact(E i j).imp (fun x=>(y i).2 (.inr x)) id
end
def Qi2(p:Option Addr)(yes:Bool):Ending:=if p.isSome=yes then .returned (.tuple #[])else AP 6
theorem Jt4 d p j w(C:QH w)(D:w.cell? (aD d 6)=some (.pointer p)):Calls prog 95 #[pA d,.bool j] w fun e w'=>e=Qi2 p j/\Bz w w':=by
 have y:=J6 (TA 6 w C)
 cases p with
 |none=>
  cases j
  ·go_enter func95,ntmps95
   go_wp2_with fail
   go_end0
   exact⟨rfl,J9 _ _⟩
  go_enter func95,ntmps95
  go_wp2_with (go_at_call 23;refine y.mono ?_;rintro e w1⟨i,u⟩;unfold AP at i;subst i)
  exact⟨rfl,rfl,u⟩
 |some p=>
  cases j
  ·go_enter func95,ntmps95
   go_wp2_with (go_at_call 23;refine y.mono ?_;rintro e w1⟨i,u⟩;unfold AP at i;subst i)
   exact⟨rfl,rfl,u⟩
  go_enter func95,ntmps95
  go_wp2_with fail
  go_end0
  exact⟨rfl,J9 _ _⟩
structure M3(w:World)(d:Nat)(G:Nat->Prop)(k:Nat)(s:DS)(A:Option Addr)(n0:Nat)(ws:List ByteArray):Prop where
 desk:JM w d G k s
 glob:QH w
 size:12<=w.heap.size
 gs:∀i,G i->12<=i
 cells:QB w A (ws.map Value.string)
 len:ws.length=n0
 szs:∀s∈ws,s.size<=281474976710656
 n:n0<=100000
 k:k<=100000
def Jn:XJ->Ending
 | .ok l=>.returned (.string ⟨l.toArray⟩)
 | .bad n=>AP n
def Qk0:XJ->Prop
 | .ok l=>l.length<=10000000000
 | .bad n=>V3 n
def VK(w:World)(d:Nat)(G:Nat->Prop)(k:Nat)(r:DS×XJ)(e:Ending)(w':World):Prop:=
 e=Jn r.2/\Qk0 r.2/\BP w w' d G (k+1) r.1
section
variable {w:World} {d k n0:Nat} {G:Nat->Prop} {s:DS} {A:Option Addr} {ws:List ByteArray}
theorem M3.numbers(h:M3 w d G k s A n0 ws)c n:Calls prog 94 #[.slice A n0 c,I O n] w fun e w'=>MH ws n w w' e/\Bz w w':=
 Qy9 A n0 c ws n w h.glob h.size h.cells h.len h.szs h.n
theorem Qs9{n w' e}(i:D6 ws n=none)(h:MH ws n w w' e):e=AP 3:=by unfold MH at h;rw[i]at h;exact h
theorem Qt0{n w' e l}(j:D6 ws n=some l)(h:MH ws n w w' e):∃A c,e=.returned (.slice A l.length c)/\QB w' A (l.map YL)/\∀g,X5 A=some g->w.heap.size<=g:=by unfold MH at h;rw[j]at h;obtain⟨A,c,h1,h2,i⟩:=h;exact⟨A,c,h1,QB.of_row h2,i⟩
end
section
open Go.Shelf
theorem Xy W l o:X4 (fun i=>i=l) W (W.putObj l o):=⟨rfl,rfl,rfl,by simp[World.putObj],fun i _ j=>DK j⟩
theorem Qz0(n:Nat)(hn:4<=n){g:Operand}{ps:Array Tmp}{assign body:Code}{Q:Exit->Act->World->Prop}{a:Act}{w:World}(t:ByteArray)(ht:t.size<=30000)(B1 B2 B3:Nat)(hg:a.eval g=.func (.func 41) #[] #[pA B1,pA B2,pA B3]) (hps:ps.size=1)(hB1:J7 w B1 9 #[.string ⟨#[10]⟩]) (hB2:J7 w B2 9 #[.string t]) (hB3:J7 w B3 3 #[I O 0]) (h12:B1≠B2) (h32:B3≠B2)(ii:List E9->World->Prop) (hI:∀pre W W',ii pre W->X4 (fun i=>i=B2\/i=w.heap.size\/i=w.heap.size+1) W W'->ii pre W')(h0:∀o o',ii [] ((w.alloc o).alloc o')) (a₁:ByteArray->Act)(hassign:∀(l:Nat)(x:ByteArray)(W:World)(K:Act->World->Prop),K (a₁ x) W->assign.wpIn (Fence.wide.inRound l) (n-1-1) prog (Exit.then K (fun _ _ _=>False)) {tmps:=(ps.zip #[.string x]).foldl (fun t(p,v)=>t.setIfInBounds p v) a.tmps,defers:=[]} W)(hbody:∀(pre:List E9)(x:ByteArray)(q:List E9)(W:World),ii pre W->E6 t.data.toList=pre++x.data.toList::q->body.wpIn (Fence.wide.inRound (w.heap.size+1)) (n-1-1) prog (fun e _ W'=>e=.normal/\ii (pre++[x.data.toList]) W'/\∀i,i=B1\/i=B2\/i=B3\/i=w.heap.size\/i=w.heap.size+1->W'.heap[i]?=W.heap[i]?) (a₁ x) W)(hdone:∀W,ii (E6 t.data.toList) W->W.heap[w.heap.size]?=some (.deferred (some []))->Q .normal {a with defers:={target:=.collected w.heap.size,args:= #[]}::a.defers} W):(Code.rangeFunc g ps assign body).wpIn Fence.wide n prog Q a w:=by
 refine wpIn_rangeFunc ?_;intro fn hfn;obtain⟨rec,hrec⟩:∃rec:LoopState->Option Code->Loop,rec=fun st pe=>{state:=st,pending:=pe,fn,tmps:=a.tmps,params:=ps,assign,body,defers:=w.heap.size}:=⟨_,rfl⟩
 obtain⟨W1,hW1⟩:=exq ((w.alloc (.deferred (some []))).alloc (.loop (rec .ready none)));have hL1:W1.heap[w.heap.size+1]?=some (.loop (rec .ready none)):=by
  rw[<-hW1];have h:=World.alloc_heap_new (w.alloc (.deferred (some []))) (.loop (rec .ready none))
  rwa [Xl]at h
 have hD1:W1.heap[w.heap.size]?=some (.deferred (some [])):=by rw[<-hW1];exact(Below.heap_alloc _ _ _ Q3).trans (World.alloc_heap_new w _)
 have hI1:ii [] W1:=by rw[<-hW1];exact h0 _ _
 have hb1:Bz w W1:=by rw[<-hW1];exact((J9 _ w).alloc Q2 _).alloc Q3 _
 have l1:=hB1.lt;have l2:=hB2.lt;have l3:=hB3.lt;refine⟨w.heap.size+1,[{target:=.collected w.heap.size,args:= #[]}],W1,{target:=.fn (.func 41) #[IP (some ⟨B1,0,none⟩),IP (some ⟨B2,0,none⟩),IP (some ⟨B3,0,none⟩)],args:= #[.func (.yield (w.heap.size+1)) #[] #[]]},W1,41,#[.func (.yield (w.heap.size+1)) #[] #[]]++ #[IP (some ⟨B1,0,none⟩),IP (some ⟨B2,0,none⟩),IP (some ⟨B3,0,none⟩)],W1,?_,?_,?_,?_,fun _=>Q0,?_⟩
 ·rw[<-hW1,hrec];exact run_enterLoop_outer _ _ _ _ _
 ·simp only[resolve,hg]
  simp[go_sem]
 ·intro f' hf'
  trivial
 ·have eg:=enters_of func41 Q4 rfl
  simp[invoke,go_sem,eg _ _]
 refine(Xf4 (n-1) Q0 (w.heap.size+1) B1 B2 B3 t ht
  (fun pre W=>ii pre W/\W.heap[w.heap.size+1]?=some (.loop (rec .ready none))/\W.heap[w.heap.size]?=some (.deferred (some [])))
  (fun pre W W' h hk=>⟨hI pre W W' h.1 (hk.mono (fun i hi=>.inl hi)),(hk.block _ (EC.1 h.2.1).1 (fun e=>by have e:w.heap.size+1=B2:=e;omega)).trans h.2.1,(hk.block _ (EC.1 h.2.2).1 (fun e=>by have e:w.heap.size=B2:=e;omega)).trans h.2.2⟩)
  ?_ W1 h12 h32 (hB1.keep hb1) (hB2.keep hb1) (hB3.keep hb1) ⟨hI1,hL1,hD1⟩).mono ?_
 ·rintro pre x q W⟨hi,hl,hd⟩hsp
  have hlt:w.heap.size+1<W.heap.size:=(EC.1 hl).1;have hy:=run_yield (P:=prog) (args:= #[.string x]) hl (by rw[hrec];exact hps.symm);rw[hrec]at hy;refine⟨fn,_,assign,body,hy,roundIn_of_wpIn hfn (hassign _ x W _ ?_)⟩;clear hy;refine⟨_,run_beginRound hl (by rw[hrec]),?_⟩;have hl2:(W.putObj (w.heap.size+1) (.loop {rec .ready none with state:=.busy})).heap[w.heap.size+1]?=some (.loop {rec .ready none with state:=.busy}):=World.putObj_heap_same hlt;have hkp:=Xy W (w.heap.size+1) (.loop {rec .ready none with state:=.busy});refine wpIn_mono (hbody pre x q _ (hI pre _ _ hi (hkp.mono (fun i hi=>.inr (.inr hi)))) hsp) ?_;rintro e a3 W3⟨rfl,hi3,hkept⟩;have hl3:=(hkept _ (.inr (.inr (.inr (.inr rfl))))).trans hl2;have hd3:=(hkept _ (.inr (.inr (.inr (.inl rfl))))).trans ((DK (w:=W) (r:=w.heap.size+1) (k:=w.heap.size) (o:=.loop {rec .ready none with state:=.busy}) Q0).trans hd);have hlt3:w.heap.size+1<W3.heap.size:=(EC.1 hl3).1;have hr:=run_endRound (P:=prog) none hl3;have hkp3:=Xy W3 (w.heap.size+1) (.loop (rec .ready none));rw[hrec]at hr hkp3|-;refine⟨_,_,hr,rfl,⟨hI _ _ _ hi3 (hkp3.mono (fun i hi=>.inr (.inr hi))),World.putObj_heap_same hlt3,(DK Q0).trans hd3⟩,?_,?_,?_⟩
  ·exact(DK Q0).trans ((hkept _ (.inl rfl)).trans (DK Q0))
  ·exact(DK Q0).trans ((hkept _ (.inr (.inl rfl))).trans (DK Q0))
  exact(DK Q0).trans ((hkept _ (.inr (.inr (.inl rfl)))).trans (DK Q0))
 rintro e W2⟨⟨v,rfl⟩,hi,hl,hd⟩;have hkp:=Xy W2 (w.heap.size+1) (.loop {rec .ready none with state:=.exhausted});refine⟨none,_,by have:=run_endLoop (P:=prog) hl (by rw[hrec];simp);rw[hrec]at this;exact this,hdone _ (hI _ _ _ hi ?_) ((DK Q0).trans hd)⟩;exact(Xy W2 (w.heap.size+1) _).mono (fun i hi=>.inr (.inr hi))
end
def PL(f:C6):ByteArray:=⟨(N8 [f.b,f.s,f.p,f.n]).toArray⟩
def PW(o:X6):ByteArray:=⟨(N8 [o.id,o.kind,o.price,o.qty]).toArray⟩
theorem Yl{a b c d}(j:V3 a)(u:V3 b)(y:V3 c)(C:V3 d):(N8 [a,b,c,d]).length<=88:=PZ (l:=[a,b,c,d]) fun v i=>by simp only[List.mem_cons,List.not_mem_nil,or_false]at i;obtain rfl|rfl|rfl|rfl:=i<;>assumption
theorem Ko{nm}(y:nm.length<=1000){F}(u:∀f∈F,Zv f):(YD nm F).length<=(F.length+1)*90+1002:=by
 have h:=Fg (k:=88) (xs:=F.map fun f=>N8 [f.b,f.s,f.p,f.n]) [44,32] (fun x j=>by obtain⟨f,i,rfl⟩:=Y4.1 j;obtain⟨a,b,c,d⟩:=u f i;exact Yl a b c d)
 rw[UJ]at h;have h2:=Ff (k:=88) (xs:=F.map fun f=>N8 [f.b,f.s,f.p,f.n]) (fun x j=>by obtain⟨f,i,rfl⟩:=Y4.1 j;obtain⟨a,b,c,d⟩:=u f i;exact Yl a b c d)
 unfold YD;rw[Lib.join_length,show Lib.lens (nm::F.map fun f=>N8 [f.b,f.s,f.p,f.n])=nm.length+Lib.lens (F.map fun f=>N8 [f.b,f.s,f.p,f.n]) by simp[Lib.lens]];rw[UJ]at h2|-;show 2*F.length+_<=_;omega
theorem Kh{L}(i:∀o∈L,JV o):(MG L).length<=L.length*90:=by
 have h:=Fg (k:=88) (xs:=L.map fun o=>N8 [o.id,o.kind,o.price,o.qty]) [44,32] (fun x u=>by obtain⟨f,j,rfl⟩:=Y4.1 u;obtain⟨a,b,c,d,e⟩:=i f j;exact Yl a c d e)
 rw[UJ]at h;exact h
theorem Tq nm A n0 c l w(D:QH w)(a4:12<=w.heap.size)(i:X8 w A n0 c 127 4 (X7 QT l))(hf:∀f∈l,Zv f)(hn:n0<=100000000)(d8:nm.size<=1000):Calls prog 110 #[.string nm,.slice A n0 c] w fun e w'=>e=.returned (.string ⟨(YD nm.data.toList l).toArray⟩)/\Bz w w':=by
 obtain⟨HG,HA,a6,HL⟩:=Xt8 D i hf (YU Xx Q0 i);obtain⟨i0,d5,d9,e1,e2⟩:=W8 Ye;clear D i hf;go_enter func110,ntmps110
 go_wp2_with fail
 go_loopg [12,5] n0 (fun gg s8 s3 wx=>∃k E C,k<=n0/\gg=n0-k/\s8=I O k/\s3=.slice C (k+1) E/\Bz w wx/\X8 wx C (k+1) E 9 1 ((nm:: (l.take k).map PL).map Value.string)/\∀g,X5 C=some g->w.heap.size<=g)
 case atStart=>
  refine⟨0,1,some ⟨w.heap.size,0,none⟩,U9 _,rfl,rfl,rfl,(J9 _ w).alloc Q2 _,⟨rfl,.inr ⟨w.heap.size,1,#[.string nm],rfl,U9 _,QN w _,Q0,Q9,rfl,rfl⟩⟩,fun g D=>?_⟩
  cases D;exact X3 _
 obtain⟨k,E,C,hk,rfl,rfl,rfl,hB,i,b9⟩:=hrel;obtain⟨j,HR,a7⟩:=Xt7 hB i b9;clear hB i b9
 by_cases e4:k<n0
 ·have d7:(k:Int)<(n0:Int):=by omega
  have e3:(0:Int)<=(k:Int):=Q0;have a1:k<l.length:=by have:=HL.out;omega
  obtain⟨g0,hA⟩:∃g0,A=some ⟨g0,0,none⟩:=by obtain⟨g0,h1,-⟩:=X8.elem Xx Q0 HA a1;exact⟨g0,h1⟩
  subst hA;obtain⟨x0,x1,x2,x3⟩:=Ek (HA.below j) a1;obtain⟨f,HX⟩:∃f,Hid (l[k]=f):=⟨_,J6 rfl⟩;rw[HX.out]at x0 x1 x2 x3;have u:=a6.out f (by rw[<-HX.out];exact C7 a1);have a9:∀v∈[f.b,f.s,f.p,f.n],V3 v:=fun v hv=>by simp only[List.mem_cons,List.not_mem_nil,or_false]at hv;obtain rfl|rfl|rfl|rfl:=hv<;>first|exact u.1|exact u.2.1|exact u.2.2.1|exact u.2.2.2|exact u.2.2.2.1|exact u.2.2.2.2
  have d3:=J6 (show(nm:: (l.take (k+1)).map PL)=(nm:: (l.take k).map PL)++[PL f] by rw[M9 a1,HX.out,L6];rfl);have a0:Bz wr ((wr.alloc (.cells #[I O f.b,I O f.s,I O f.p,I O f.n] 127)).alloc (.cells #[I O f.b,I O f.s,I O f.p,I O f.n] 3)):=((J9 _ wr).alloc Q2 _).alloc Q3 _;obtain⟨Z,c6⟩:=Xt6 a0 ((HG.below j a4).below a0 (U4 a4 j.size));have a8:J7 ((wr.alloc (.cells #[I O f.b,I O f.s,I O f.p,I O f.n] 127)).alloc (.cells #[I O f.b,I O f.s,I O f.p,I O f.n] 3)) (wr.heap.size+1) 3 #[I O f.b,I O f.s,I O f.p,I O f.n]:=by have h:=Z5 (wr.alloc (.cells #[I O f.b,I O f.s,I O f.p,I O f.n] 127)) 3 #[I O f.b,I O f.s,I O f.p,I O f.n];simpa using h
  have HJ:=J6 (LB _ (.inl rfl) (some ⟨wr.heap.size+1,0,none⟩) 4 4 [f.b,f.s,f.p,f.n] ((wr.alloc (.cells #[I O f.b,I O f.s,I O f.p,I O f.n] 127)).alloc (.cells #[I O f.b,I O f.s,I O f.p,I O f.n] 3)) c6 (U4 a4 (U4 j.size a0.size)) (MJ a8) rfl a9 Q0);clear a0 a8 a9 u;go_wp2_with (first
   |(go_at_call 97;refine HJ.mono ?_;rintro e w1⟨rfl,J⟩;have a5:=J6 J;have d2:=J6 (CC (CC (CC HR Z) J) ((J9 w1.heap.size w1).alloc Q2 (.cells #[.string ⟨(N8 [f.b,f.s,f.p,f.n]).toArray⟩] 9)));have d0:=J6 (QN w1 (.cells #[.string ⟨(N8 [f.b,f.s,f.p,f.n]).toArray⟩] 9));clear J)
   |(at_builtin;(refine VZ _ rfl _ _ 43 rfl 0 9 i0 _ 1 16 underlying43 d5 d9 e1 e2 rfl Q0 (.slice C (k+1) E) (k+1) _ rfl d2 ⟨w1.heap.size,0,none⟩ 1 1 [.string ⟨(N8 [f.b,f.s,f.p,f.n]).toArray⟩] rfl rfl (XF (cs:= #[.string ⟨(N8 [f.b,f.s,f.p,f.n]).toArray⟩]) (t:=9) (fr:=(0,0)) d0) J0 Q0 Q9 Q0 Q3 (w1.heap.size+1) Q3 ?_);intro gg cap w3 b5 b1 N e5;have d1:=J6 b5;have c7:=J6 b1;have c5:=J6 N;clear b5 b1 N))
  go_roundg (n0-(k+1))
  case measure=>omega
  have b0:=c7.out;rw[C8]at b0;have N:=c5.out;rw[C8]at N;have e6:=j.size;have e7:=Z.size;have e8:=a5.size;have d4:Bz w w3:=(((j.trans ((Z.trans (a5.mono Z.size)).mono j.size)).alloc Q0 (.cells #[.string ⟨(N8 [f.b,f.s,f.p,f.n]).toArray⟩] 9))).grown b0 Q7 (fun y hy=>by have:=a7.out y hy;omega);refine⟨k+1,cap,some ⟨gg,0,none⟩,Q0,rfl,J5,rfl,d4,?_,fun g D=>?_⟩
  ·rw[d3.out,L6]
   exact d1
  cases D;obtain h1|h1:=N
  ·exact a7 _ h1
  show w.heap.size<=gg;omega
 have d6:k=n0:=by omega
 subst d6;have d7:¬(k:Int)<(k:Int):=Q0;have b8:l.take k=l:=M4 (by have:=HL.out;omega);have hl:=HL.out;have i:=HR.out;rw[b8]at i;have a2:(nm:: (l).map PL).length=k+1:=by simp[hl]
 have a3:(nm:: (l).map PL).map (·.data.toList)=nm.data.toList::l.map fun f=>N8 [f.b,f.s,f.p,f.n]:=by rw[T2,YT];exact C5 _ (UM fun v _=>by simp[PL])
 have b2:(Lib.join ((nm:: (l).map PL).map (·.data.toList)) [44,32]).length<=140737488355328:=by rw[a3];have:=Ko (nm:=nm.data.toList) (by rw[<-KD];exact d8) a6;unfold YD at this;omega
 have hJ:=Fx C E (nm:: (l).map PL) ⟨#[44,32]⟩ wr (by rw[a2];exact i) b2 (by rw[a2];omega);rw[a2]at hJ;simp only[a3]at hJ;have c8:=J6 hJ;clear hJ b2 i b8 hl a2 a3;go_wp2_with (go_at_call 40;refine c8.mono ?_;rintro e w1⟨rfl,J⟩)
 go_ret;exact⟨rfl,j.trans (J.mono j.size)⟩
theorem Yf E(a3:E=103\/E=38)A n0 c l w(hg:QH w)(a5:12<=w.heap.size)(i:X8 w A n0 c 84 5 (X7 U0 l))(hf:∀f∈l,JV f)(hn:n0<=100000000):Calls prog E #[.slice A n0 c] w fun e w'=>e=.returned (.string ⟨(MG l).toArray⟩)/\Bz w w':=by
 obtain⟨HG,HA,a7,HL⟩:=Xt8 hg i hf (YU JG Q0 i);obtain⟨i0,d6,d9,e1,e2⟩:=W8 Ye;clear hg i hf;obtain rfl|rfl:=a3
 all_goals
  first
   |go_enter func103,ntmps103
   |go_enter func38,ntmps38
  go_wp2_with fail
  go_loopg [8,3] n0 (fun gg s8 s3 wx=>∃k D C,k<=n0/\gg=n0-k/\s8=I O k/\s3=.slice C (k) D/\Bz w wx/\X8 wx C (k) D 9 1 (((l.take k).map PW).map Value.string)/\∀g,X5 C=some g->w.heap.size<=g)
  case atStart=>exact⟨0,0,none,U9 _,rfl,rfl,rfl,J9 _ _,QY _ _ _ _,by simp[X5]⟩
  obtain⟨k,D,C,hk,rfl,rfl,rfl,hB,i,c5⟩:=hrel;obtain⟨j,HR,a8⟩:=Xt7 hB i c5;clear hB i c5
  by_cases e4:k<n0
  ·have d8:(k:Int)<(n0:Int):=by omega
   have e3:(0:Int)<=(k:Int):=Q0;have a1:k<l.length:=by have:=HL.out;omega
   obtain⟨g0,hA⟩:∃g0,A=some ⟨g0,0,none⟩:=by obtain⟨g0,h1,-⟩:=X8.elem JG Q0 HA a1;exact⟨g0,h1⟩
   subst hA;obtain⟨x0,x1,x2,x3,x4⟩:=ER (HA.below j) a1;obtain⟨f,HX⟩:∃f,Hid (l[k]=f):=⟨_,J6 rfl⟩;rw[HX.out]at x0 x1 x2 x3 x4;have u:=a7.out f (by rw[<-HX.out];exact C7 a1);have b0:∀v∈[f.id,f.kind,f.price,f.qty],V3 v:=fun v hv=>by simp only[List.mem_cons,List.not_mem_nil,or_false]at hv;obtain rfl|rfl|rfl|rfl:=hv<;>first|exact u.1|exact u.2.1|exact u.2.2.1|exact u.2.2.2|exact u.2.2.2.1|exact u.2.2.2.2
   have d4:=J6 (show((l.take (k+1)).map PW)=((l.take k).map PW)++[PW f] by rw[M9 a1,HX.out,L6];rfl);have a0:Bz wr ((wr.alloc (.cells #[I O f.id,I O f.side,I O f.kind,I O f.price,I O f.qty] 84)).alloc (.cells #[I O f.id,I O f.kind,I O f.price,I O f.qty] 3)):=((J9 _ wr).alloc Q2 _).alloc Q3 _;obtain⟨Z,c7⟩:=Xt6 a0 ((HG.below j a5).below a0 (U4 a5 j.size));have a9:J7 ((wr.alloc (.cells #[I O f.id,I O f.side,I O f.kind,I O f.price,I O f.qty] 84)).alloc (.cells #[I O f.id,I O f.kind,I O f.price,I O f.qty] 3)) (wr.heap.size+1) 3 #[I O f.id,I O f.kind,I O f.price,I O f.qty]:=by have h:=Z5 (wr.alloc (.cells #[I O f.id,I O f.side,I O f.kind,I O f.price,I O f.qty] 84)) 3 #[I O f.id,I O f.kind,I O f.price,I O f.qty];simpa using h
   have HJ:=J6 (fun E a3=>LB E a3 (some ⟨wr.heap.size+1,0,none⟩) 4 4 [f.id,f.kind,f.price,f.qty] ((wr.alloc (.cells #[I O f.id,I O f.side,I O f.kind,I O f.price,I O f.qty] 84)).alloc (.cells #[I O f.id,I O f.kind,I O f.price,I O f.qty] 3)) c7 (U4 a5 (U4 j.size a0.size)) (MJ a9) rfl b0 Q0);clear a0 a9 b0 u;go_wp2_with (first
    |((first|(go_at_call 97;refine(HJ _ (.inl rfl)).mono ?_)|(go_at_call 14;refine(HJ _ (.inr rfl)).mono ?_));rintro e w1⟨rfl,J⟩;have a6:=J6 J;have d3:=J6 (CC (CC (CC HR Z) J) ((J9 w1.heap.size w1).alloc Q2 (.cells #[.string ⟨(N8 [f.id,f.kind,f.price,f.qty]).toArray⟩] 9)));have d1:=J6 (QN w1 (.cells #[.string ⟨(N8 [f.id,f.kind,f.price,f.qty]).toArray⟩] 9));clear J)
    |(at_builtin;(refine VZ _ rfl _ _ 43 rfl 0 9 i0 _ 1 16 underlying43 d6 d9 e1 e2 rfl Q0 (.slice C (k) D) (k) _ rfl d3 ⟨w1.heap.size,0,none⟩ 1 1 [.string ⟨(N8 [f.id,f.kind,f.price,f.qty]).toArray⟩] rfl rfl (XF (cs:= #[.string ⟨(N8 [f.id,f.kind,f.price,f.qty]).toArray⟩]) (t:=9) (fr:=(0,0)) d1) J0 Q0 Q9 Q0 Q3 (w1.heap.size+1) Q3 ?_);intro gg cap w3 b8 b2 N e5;have d2:=J6 b8;have c8:=J6 b2;have c6:=J6 N;clear b8 b2 N))
   go_roundg (n0-(k+1))
   case measure=>omega
   have b1:=c8.out;rw[C8]at b1;have N:=c6.out;rw[C8]at N;have e6:=j.size;have e7:=Z.size;have e8:=a6.size;have d5:Bz w w3:=(((j.trans ((Z.trans (a6.mono Z.size)).mono j.size)).alloc Q0 (.cells #[.string ⟨(N8 [f.id,f.kind,f.price,f.qty]).toArray⟩] 9))).grown b1 Q7 (fun y hy=>by have:=a8.out y hy;omega);refine⟨k+1,cap,some ⟨gg,0,none⟩,Q0,rfl,J5,rfl,d5,?_,fun g hg=>?_⟩
   ·rw[d4.out,L6]
    exact d2
   cases hg;obtain h1|h1:=N
   ·exact a8 _ h1
   show w.heap.size<=gg;omega
  have d7:k=n0:=by omega
  subst d7;have d8:¬(k:Int)<(k:Int):=Q0;have b9:l.take k=l:=M4 (by have:=HL.out;omega);have hl:=HL.out;have i:=HR.out;rw[b9]at i;have a2:((l).map PW).length=k:=by simp[hl]
  have a4:((l).map PW).map (·.data.toList)=l.map fun o=>N8 [o.id,o.kind,o.price,o.qty]:=by rw[YT];exact UM fun v _=>by simp[PW]
  have b5:(Lib.join (((l).map PW).map (·.data.toList)) [44,32]).length<=140737488355328:=by rw[a4];have:=Kh a7;unfold MG at this;omega
  have hJ:=Fx C D ((l).map PW) ⟨#[44,32]⟩ wr (by rw[a2];exact i) b5 (by rw[a2];omega);rw[a2]at hJ;simp only[a4]at hJ;have d0:=J6 hJ;clear hJ b5 i b9 hl a2 a4;go_wp2_with (go_at_call 40;refine d0.mono ?_;rintro e w1⟨rfl,J⟩)
  go_ret;exact⟨rfl,j.trans (J.mono j.size)⟩
section
open Go.Shelf
theorem Qi3 s c m w(j:s.size<4294967281)(i:w.cell? (aD 4 0)=some (I O m)):Calls prog 11 #[.string s,.string ⟨#[c]⟩] w fun e w'=>e=.returned (.slice (sA w.heap.size) (Lib.countB s ⟨#[c]⟩+1) (Lib.countB s ⟨#[c]⟩+1))/\w'=w.alloc (.cells ((Lib.splitB ⟨#[c]⟩ 0 (Lib.countB s ⟨#[c]⟩) s).map Value.string).toArray 9):=
 Any.strings_Split (P:=prog) (ρ:=laysD146_ren) laysD146 Q4 s ⟨#[c]⟩ m w j i Q2
theorem Xl7 n(j:V3 n)w(u:QH w):Calls prog 26 #[I O n,I O 10] w fun e w'=>e=.returned (.string ⟨(Lib.itoa n).toArray⟩)/\Bz w w':=by refine(Any.strconv_FormatInt_10 (P:=prog) (ρ:=laysDM173_ren) laysDM173 n j.1 j.2 w u.pow).mono ?_;rintro e w'⟨rfl,k,os,rfl⟩;exact⟨rfl,⟨rfl,rfl,rfl,by simp[Go.Sort.grow],fun i y=>by show(w.heap++os)[i]?=_;exact Array.getElem?_append_left y⟩⟩
theorem Xo6 s(D:s.size<=281474976710656)w(C:QH w):Calls prog 25 #[.string s,I O 10,I O 64] w fun e w'=>Bz w w'/\((∃v,Lib.atoiAll s.data.toList=.ok v/\e=.returned (.tuple #[I O v,.nilIface]))\/((∀v,Lib.atoiAll s.data.toList≠.ok v)/\∃k u x,e=.returned (.tuple #[I O k,.iface u x]))):=by
 rw[<-Lib.parseIntB_64]
 cases h:Lib.parseIntB 64 s.data.toList with
 |ok v=>
  refine(Any.strconv_ParseInt_10_at64_ok (P:=prog) (ρ:=laysDC174_ren) laysDC174 s Q0 v h w).mono ?_;rintro e w'⟨rfl,h1⟩;refine⟨?_,.inl ⟨v,rfl,rfl⟩⟩;obtain rfl|⟨t,rfl⟩:=h1
  ·exact J9 _ _
  ·exact Lib.bytesWorld_below _ _ _
 |range=>
  obtain⟨y,p,i⟩:=C.rng;refine(Any.strconv_ParseInt_10_at64_range_var (P:=prog) (ρ:=laysDC174_ren) laysDC174 s D h y p w i).mono ?_;rintro e w'⟨N,rfl,h1,h2,j⟩;exact⟨j,.inr ⟨fun v i=>(by cases i),_,_,_,rfl⟩⟩
 |_=>
  obtain⟨y,p,i⟩:=C.stx;refine(Any.strconv_ParseInt_10_at64_syntax_var (P:=prog) (ρ:=laysDC174_ren) laysDC174 s D h y p w i).mono ?_;rintro e w'⟨N,rfl,h1,h2,j⟩;exact⟨j,.inr ⟨fun v i=>(by cases i),_,_,_,rfl⟩⟩
def GD(s:ByteArray):Int:=(ZF s).getD 0
theorem Qz1 s(hs:s.size<=281474976710656)w(Z:QH w)(a3:12<=w.heap.size):Calls prog 12 #[.string s] w fun e w'=>e=.returned (.tuple #[I O (GD s),.bool (ZF s).isSome])/\Bz w w':=by
 obtain⟨N,HG⟩:=Xt6 (Xo6 s hs w Z) Z;have hc:=Rf s;have E:=J6 hc;clear Z hc;go_enter func12,ntmps12
 go_wp2_with fail
 refine N.mono ?_;rintro e w1⟨C,⟨v,J,rfl⟩|⟨a2,k,u,x,rfl⟩⟩
 ·have HF:=J6 (Xl7 v (Yc J) w1 (HG.below C a3))
  rcases E.out with⟨h1,h2⟩|⟨v',h1,h2⟩
  ·exact absurd J (h1 v)
  ·rw[J]at h1
   cases h1;have D:=J6 C;clear C J N E HG;go_wp2_with fail
   refine HF.mono ?_;rintro e w2⟨rfl,a1⟩;have a0:=J6 (D.trans (a1.mono D.size));clear a1;rcases h2 with⟨y,i⟩|⟨y,i⟩
   ·have t1:(Lib.itoa v ==s.toList)=false:=by have h:=Qc9 y;rwa [show(⟨(Lib.itoa v).toArray⟩:ByteArray).toList=Lib.itoa v by simp]at h
    have j:=J6 i;clear y i;go_wp2;go_ret2;exact⟨by unfold GD;rw[j.out];rfl,a0⟩
   ·have t1:=Qc8 y
    rw[t1];have j:=J6 i;clear y i t1;go_wp2;go_ret2;exact⟨by unfold GD;rw[j.out];rfl,a0⟩
 ·have D:=J6 C
  have i:ZF s=none:=by
   rcases E.out with⟨_,h⟩|⟨v,h,_⟩
   ·exact h
   ·exact absurd h (a2 v)
  have j:=J6 i;clear C a2 i N E;go_wp2;go_ret2;exact⟨by unfold GD;rw[j.out];rfl,D⟩
theorem Qz2 nm F f:YD nm (F++[f])=YD nm F++(44::32::N8 [f.b,f.s,f.p,f.n]):=by unfold YD;rw[Lib.join_cons,Lib.join_cons];simp[Lib.joinTail]
theorem Ln nm A n0 c l w(hg:QH w)(a0:12<=w.heap.size)(hR:X8 w A n0 c 127 4 (X7 QT l))(y:∀f∈l,Zv f)(hn:n0<=100000000)(b2:nm.size<=1000):Calls prog 30 #[.string nm,.slice A n0 c] w fun e w'=>e=.returned (.string ⟨(YD nm.data.toList l).toArray⟩)/\Bz w w':=by
 obtain⟨HG,HA,a2,E⟩:=Xt8 hg hR y (YU Xx Q0 hR);clear hg hR y;go_enter func30,ntmps30
 go_wp2_with fail
 go_loopg [0,9] n0 (fun gg s0 s9 wx=>∃k:Nat,k<=n0/\gg=n0-k/\s9=I O k/\(∃sb,s0=.string sb/\Hid (sb.data.toList=YD nm.data.toList (l.take k)))/\Bz w wx)
 case atStart=>exact⟨0,U9 _,rfl,rfl,⟨nm,rfl,J6 (by simp[YD,Lib.join_one])⟩,J9 _ _⟩
 obtain⟨k,hk,rfl,rfl,⟨sb,rfl,J⟩,hB⟩:=hrel;have j:=J6 hB;clear hB;have c5:sb.size<=100000000000:=by have h:=Ko (nm:=nm.data.toList) (by simpa using b2) (F:=l.take k) (fun f y=>a2 f (CV y));rw[<-J.out,R7]at h;rw[KD];have:=E.out;omega
 by_cases b9:k<n0
 ·have b1:(k:Int)<(n0:Int):=by omega
  have b8:(0:Int)<=(k:Int):=Q0;have C:k<l.length:=by have:=E.out;omega
  obtain⟨g0,hA⟩:∃g0,A=sA g0:=by obtain⟨g0,h1,-⟩:=X8.elem Xx Q0 HA C;exact⟨g0,h1⟩
  subst hA;obtain⟨x0,x1,x2,x3⟩:=Ek (HA.below j) C;obtain⟨f,N⟩:∃f,Hid (l[k]=f):=⟨_,J6 rfl⟩;rw[N.out]at x0 x1 x2 x3;have i:=a2.out f (by rw[<-N.out];exact C7 C);have a5:∀v∈[f.b,f.s,f.p,f.n],V3 v:=fun v hv=>by simp only[List.mem_cons,List.not_mem_nil,or_false]at hv;obtain rfl|rfl|rfl|rfl:=hv<;>first|exact i.1|exact i.2.1|exact i.2.2.1|exact i.2.2.2
  have a9:=J6 (show YD nm.data.toList (l.take (k+1))=YD nm.data.toList (l.take k)++(44::32::N8 [f.b,f.s,f.p,f.n]) by rw[M9 C,N.out,Qz2]);obtain⟨w2,Z⟩:=exq ((wr.alloc (.cells #[I O f.b,I O f.s,I O f.p,I O f.n] 127)).alloc (.cells #[I O f.b,I O f.s,I O f.p,I O f.n] 3));have u:Bz wr w2:=by rw[<-Z];exact((J9 _ wr).alloc Q2 _).alloc Q3 _
  have a4:J7 w2 (zS wr+1) 3 #[I O f.b,I O f.s,I O f.p,I O f.n]:=by have h:=Z5 (wr.alloc (.cells #[I O f.b,I O f.s,I O f.p,I O f.n] 127)) 3 #[I O f.b,I O f.s,I O f.p,I O f.n];rw[Z]at h;simpa using h
  obtain⟨HJ,a1⟩:=Xt6 (LB _ (.inr rfl) (sA (zS wr+1)) 4 4 [f.b,f.s,f.p,f.n] w2 ((HG.below j a0).below u (U4 a0 j.size)) (U4 a0 (U4 j.size u.size)) (MJ a4) rfl a5 Q0) (j.trans (u.mono j.size));obtain⟨sj,D⟩:∃sj:ByteArray,⟨(N8 [f.b,f.s,f.p,f.n]).toArray⟩=sj:=⟨_,rfl⟩;have b5:sj.size<=88:=by rw[<-D,KD];simpa using Yl i.1 i.2.1 i.2.2.1 i.2.2.2
  rw[D]at HJ;have a8:=J6 D;clear u a4 a5 i D;go_wp2_with fail
  clear Z;refine HJ.mono ?_;rintro e w1⟨rfl,a3⟩;have a7:=J6 (a1.trans (a3.mono a1.size));clear a3;go_wp2
  go_roundg (n0-(k+1))
  case measure=>omega
  exact⟨k+1,Q0,rfl,J5,⟨_,rfl,J6 (by rw[a9.out,<-J.out,<-a8.out];simp)⟩,a7.out⟩
 ·have b0:k=n0:=by omega
  subst b0;have b1:¬(k:Int)<(k:Int):=Q0;have a6:l.take k=l:=M4 (by have:=E.out;omega);have h:=J.out;rw[a6]at h;have H:=J6 h;clear h a6;go_wp2;go_ret;exact⟨C5 (fun x=>Ending.returned (.string x)) (Go.WideShapes.bytes_inj (by rw[<-H.out])),j⟩
end
theorem D1{n}(h:0<=n/\n<=100):V3 n:=(by unfold V3;omega)
theorem Qr n(i:n=0)w:Calls prog 23 #[Y9 n] w fun e w'=>e=.returned (.tuple #[])/\Bz w w':=by subst i;exact Yd w
theorem TP n(j:n≠0)w(i:QH w):Calls prog 23 #[Y9 n] w fun e w'=>e=.panicked [{v:=.iface 62 (.agg #[I O n]),recovered:=false}]/\Bz w w':=by refine(Xf2 n w i).mono ?_;rintro e w'⟨rfl,h⟩;exact⟨by unfold Gd;rw[J8 j];rfl,h⟩
theorem Us{w w' G G'}(u:QH w)(y:U2 w w' G G')(j:∀i,G i->12<=i)(C:12<=w.heap.size):QH w':=u.below (X4.below y.1 j C) Q2
theorem A5.lists{w w' e F m}(h:A5 w w' e F m):E5 m.L1 m.L2:=by obtain⟨F',h1,-⟩:=h;exact h1.lists
theorem A5.keep{w w' e F m}(h:A5 w w' e F m):X4 F w w':=by obtain⟨F',-,h1⟩:=h;exact h1.1
theorem UZ.to{w w' e F P m E ev}(h:UZ w w' e F P m E ev):A5 w w' e F m:=by obtain⟨A,c,Fs,-,-,-,-,F',i,j,-⟩:=h;exact⟨F',i,j⟩
section
variable {w:World} {d k n0:Nat} {G:Nat->Prop} {s:DS} {A:Option Addr} {ws:List ByteArray} {m:Z6} {w1:World}
theorem M3.numbers_bad(h:M3 w d G k s A n0 ws)c{n}(i:D6 ws n=none):Calls prog 94 #[.slice A n0 c,I O n] w fun e w'=>e=.panicked [{v:=.iface 62 (.agg #[I O 3]),recovered:=false}]/\Bz w w':=by refine(h.numbers c n).mono ?_;rintro e w'⟨h1,h2⟩;exact⟨Qs9 i h1,h2⟩
theorem M3.numbers_ok(h:M3 w d G k s A n0 ws)c{n l}(C:D6 ws n=some l):Calls prog 94 #[.slice A n0 c,I O n] w fun e w'=>∃i c1,e=.returned (.slice i l.length c1)/\Bz w w'/\QB w' i (l.map YL)/\∀g,X5 i=some g->w.heap.size<=g:=by refine(h.numbers c n).mono ?_;rintro e w'⟨h1,h2⟩;obtain⟨i,c1,j,u,y⟩:=Qt0 C h1;exact⟨i,c1,j,h2,u,y⟩
theorem M3.globs(h:M3 w d G k s A n0 ws)(i:Bz w w1):QH w1:=h.glob.below i h.size
theorem M3.sizes(h:M3 w d G k s A n0 ws)(i:Bz w w1):12<=w1.heap.size:=U4 h.size i.size
theorem M3.readies(h:M3 w d G k s A n0 ws)(j:Bz w w1)i:Calls prog 95 #[pA d,.bool i] w1 fun e w'=>e=(if s.e.isSome=i then .returned (.tuple #[])else .panicked [{v:=.iface 62 (.agg #[I O 6]),recovered:=false}])/\Bz w1 w':=by obtain⟨p,hp,u⟩:=(h.desk.below j).cell6;refine(Jt4 d p i w1 (h.globs j) hp).mono ?_;rintro e w'⟨rfl,h1⟩;exact⟨by unfold Qi2 AP;rw[u],h1⟩
theorem M3.ready_yes(h:M3 w d G k s A n0 ws)(j:s.e=some m)(i:Bz w w1):Calls prog 95 #[pA d,.bool true] w1 fun e w'=>e=.returned (.tuple #[])/\Bz w1 w':=by refine(h.readies i true).mono ?_;rintro e w'⟨rfl,h1⟩;exact⟨by rw[j];rfl,h1⟩
theorem M3.ready_not(h:M3 w d G k s A n0 ws)(j:s.e=none)(i:Bz w w1):Calls prog 95 #[pA d,.bool true] w1 fun e w'=>e=.panicked [{v:=.iface 62 (.agg #[I O 6]),recovered:=false}]/\Bz w1 w':=by refine(h.readies i true).mono ?_;rintro e w'⟨rfl,h1⟩;exact⟨by rw[j];rfl,h1⟩
theorem M3.ready_new(h:M3 w d G k s A n0 ws)(j:s.e=none)(i:Bz w w1):Calls prog 95 #[pA d,.bool false] w1 fun e w'=>e=.returned (.tuple #[])/\Bz w1 w':=by refine(h.readies i false).mono ?_;rintro e w'⟨rfl,h1⟩;exact⟨by rw[j];rfl,h1⟩
theorem M3.ready_old(h:M3 w d G k s A n0 ws)(j:s.e=some m)(i:Bz w w1):Calls prog 95 #[pA d,.bool false] w1 fun e w'=>e=.panicked [{v:=.iface 62 (.agg #[I O 6]),recovered:=false}]/\Bz w1 w':=by refine(h.readies i false).mono ?_;rintro e w'⟨rfl,h1⟩;exact⟨by rw[j];rfl,h1⟩
theorem M3.engine(h:M3 w d G k s A n0 ws)(he:s.e=some m)(u:Bz w w1):∃e F,w1.cell? (aD d 6)=some (pA e)/\D8 w1 e F m/\(∀i,F i->i<w.heap.size/\i≠d)/\∀w3 m',A5 w1 w3 e F m'->JU m' (k+1)->QH w3/\12<=w3.heap.size/\(∃G',FF w3 d G' m')/\∀w4,Bz w3 w4->BP w w4 d G (k+1) {s with e:=some m'}:=by obtain⟨e,F,y,D,a0,hn⟩:=(h.desk.e he).1.eng;refine⟨e,F,(u.cell (p:=(aD d 6)) (U5 w _ y)).trans y,D.below u,fun i J=>⟨D.lt J,fun N=>a0 (N▸J)⟩,fun w3 m' ht hm=>?_⟩;obtain⟨G',C,Z⟩:=hn w3 m' (RL u ht);have j:U2 w w3 G G':=Z;refine⟨Us h.glob j h.gs h.size,U4 h.size j.1.size,⟨G',C⟩,fun w4 E=>⟨G',(C.below E).at_ hm rfl,j.trans (S5 E)⟩⟩
theorem M3.mok(h:M3 w d G k s A n0 ws)(i:s.e=some m):JU m k:=(h.desk.e i).2
theorem M3.k6(h:M3 w d G k s A n0 ws):k<=1000000:=U4 h.k Q0
theorem D2{r w' e a s'}(y:r=(s',a))(u:e=Jn a)(i:Qk0 a)(j:BP w w' d G (k+1) s'):VK w d G k r e w':=by subst y;exact⟨u,i,j⟩
theorem RS{n}(i:n=0)l:JQ n l=.ok l:=X0 i
theorem LK{n}(i:n≠0)l:JQ n l=.bad n:=J8 i
end
theorem Jt5 m:V3 (UE m):=by unfold UE;split<;>exact D1 Q0
theorem Jt6 m:V3 (AW m):=by unfold AW;split<;>exact D1 Q0
theorem Jt7 m:V3 (AT m):=by unfold AT;split<;>exact D1 Q0
theorem Jt8{w d k n0 G s A ws}(h:M3 w d G k s A n0 ws)c:Calls prog 53 #[pA d,.slice A n0 c] w (VK w d G k (DW s ws)):=by
 have H:=J6 h;clear h
 cases u:D6 ws 0 with
 |none=>
  have y:=J6 (show DW s ws=(s,.bad 3) by unfold DW V8;rw[u]);go_enter func53,ntmps53
  go_wp2_with (go_at_call 94;refine(H.numbers_bad c u).mono ?_;rintro e w1⟨rfl,i⟩)
  exact⟨rfl,D2 y rfl (D1 Q0) (H.desk.to i)⟩
 |some l=>
  have HF:=J6 (VV u)
  cases j:s.e with
  |none=>
   have y:=J6 (show DW s ws=(s,.bad 6) by unfold DW V8 D3;rw[u];simp only[j]);go_enter func53,ntmps53
   go_wp2_with (first
    |(go_at_call 94;refine(H.numbers_ok c u).mono ?_;rintro e w1⟨A1,c1,rfl,i,hC,a1⟩)
    |(go_at_call 95;refine(H.ready_not j i).mono ?_;rintro e w2⟨rfl,C⟩))
   exact⟨rfl,D2 y rfl (D1 Q0) (H.desk.to (i.trans (C.mono i.size)))⟩
  |some m=>
   have HO:=J6 (H.mok j)
   by_cases E:UE m=0
   ·have y:=J6 (show DW s ws=({s with e:=some (JN m)},.ok [104,97,108,116]) by unfold DW V8 D3;rw[u];simp only[j];rw[RS E])
    have HZ:=J6 E;clear E;go_enter func53,ntmps53
    go_wp2_with (first
     |(go_at_call 94;refine(H.numbers_ok c u).mono ?_;rintro e w1⟨A1,c1,rfl,i,hC,a1⟩)
     |(go_at_call 95;refine(H.ready_yes j i).mono ?_;rintro e w2⟨rfl,C⟩;have HB:=J6 (i.trans (C.mono i.size));obtain⟨e,F,c6,J,N,Z⟩:=H.engine j HB;have HE:=J6 J;have HX:=J6 Z;have a2:=J6 N;clear J Z N;clear i C)
     |(go_at_call 100;refine(Tb HE).mono ?_;rintro ev w3⟨rfl,D⟩;have HT:=J6 D;have HN:=J6 (HX _ _ D (HO.halt));clear D)
     |(go_at_call 23;refine(Qr _ HZ _).mono ?_;rintro e w4⟨rfl,a0⟩))
    go_ret;exact D2 y rfl (by show _<=10000000000;decide) (HN.2.2.2 _ a0)
   have y:=J6 (show DW s ws=({s with e:=some (JN m)},.bad (UE m)) by unfold DW V8 D3;rw[u];simp only[j];rw[LK E]);have HZ:=J6 E;clear E;go_enter func53,ntmps53
   go_wp2_with (first
    |(go_at_call 94;refine(H.numbers_ok c u).mono ?_;rintro e w1⟨A1,c1,rfl,i,hC,a1⟩)
    |(go_at_call 95;refine(H.ready_yes j i).mono ?_;rintro e w2⟨rfl,C⟩;have HB:=J6 (i.trans (C.mono i.size));obtain⟨e,F,c6,J,N,Z⟩:=H.engine j HB;have HE:=J6 J;have HX:=J6 Z;have a2:=J6 N;clear J Z N;clear i C)
    |(go_at_call 100;refine(Tb HE).mono ?_;rintro ev w3⟨rfl,D⟩;have HT:=J6 D;have HN:=J6 (HX _ _ D (HO.halt));clear D)
    |(go_at_call 23;refine(TP _ HZ _ HN.1).mono ?_;rintro e w4⟨rfl,a0⟩))
   exact⟨rfl,D2 y rfl (Jt5 _) (HN.2.2.2 _ a0)⟩
theorem Jt9{w d k n0 G s A ws}(h:M3 w d G k s A n0 ws)c:Calls prog 55 #[pA d,.slice A n0 c] w (VK w d G k (EJ s ws)):=by
 have H:=J6 h;clear h
 cases y:D6 ws 0 with
 |none=>
  have C:=J6 (show EJ s ws=(s,.bad 3) by unfold EJ V8;rw[y]);go_enter func55,ntmps55
  go_wp2_with (go_at_call 94;refine(H.numbers_bad c y).mono ?_;rintro e w1⟨rfl,i⟩)
  exact⟨rfl,D2 C rfl (D1 Q0) (H.desk.to i)⟩
 |some l=>
  have HF:=J6 (VV y)
  cases u:s.e with
  |none=>
   have C:=J6 (show EJ s ws=(s,.bad 6) by unfold EJ V8 D3;rw[y];simp only[u]);go_enter func55,ntmps55
   go_wp2_with (first
    |(go_at_call 94;refine(H.numbers_ok c y).mono ?_;rintro e w1⟨A1,c1,rfl,i,hC,a1⟩)
    |(go_at_call 95;refine(H.ready_not u i).mono ?_;rintro e w2⟨rfl,D⟩))
   exact⟨rfl,D2 C rfl (D1 Q0) (H.desk.to (i.trans (D.mono i.size)))⟩
  |some m=>
   have HO:=J6 (H.mok u)
   by_cases E:AW m=0
   ·have C:=J6 (show EJ s ws=({s with e:=some (QK m)},.ok [111,112,101,110]) by unfold EJ V8 D3;rw[y];simp only[u];rw[RS E])
    have HZ:=J6 E;clear E;go_enter func55,ntmps55
    go_wp2_with (first
     |(go_at_call 94;refine(H.numbers_ok c y).mono ?_;rintro e w1⟨A1,c1,rfl,i,hC,a1⟩)
     |(go_at_call 95;refine(H.ready_yes u i).mono ?_;rintro e w2⟨rfl,D⟩;have HB:=J6 (i.trans (D.mono i.size));obtain⟨e,F,c6,J,N,Z⟩:=H.engine u HB;have HE:=J6 J;have HX:=J6 Z;have a2:=J6 N;clear J Z N;clear i D)
     |(go_at_call 101;refine(Tk HE (HO.in_ H.k6)).mono ?_;rintro ev w3⟨rfl,j⟩;have HT:=J6 j;have HN:=J6 (HX _ _ j (HO.open_ (A5.lists j)));clear j)
     |(go_at_call 23;refine(Qr _ HZ _).mono ?_;rintro e w4⟨rfl,a0⟩))
    go_ret;exact D2 C rfl (by show _<=10000000000;decide) (HN.2.2.2 _ a0)
   have C:=J6 (show EJ s ws=({s with e:=some (QK m)},.bad (AW m)) by unfold EJ V8 D3;rw[y];simp only[u];rw[LK E]);have HZ:=J6 E;clear E;go_enter func55,ntmps55
   go_wp2_with (first
    |(go_at_call 94;refine(H.numbers_ok c y).mono ?_;rintro e w1⟨A1,c1,rfl,i,hC,a1⟩)
    |(go_at_call 95;refine(H.ready_yes u i).mono ?_;rintro e w2⟨rfl,D⟩;have HB:=J6 (i.trans (D.mono i.size));obtain⟨e,F,c6,J,N,Z⟩:=H.engine u HB;have HE:=J6 J;have HX:=J6 Z;have a2:=J6 N;clear J Z N;clear i D)
    |(go_at_call 101;refine(Tk HE (HO.in_ H.k6)).mono ?_;rintro ev w3⟨rfl,j⟩;have HT:=J6 j;have HN:=J6 (HX _ _ j (HO.open_ (A5.lists j)));clear j)
    |(go_at_call 23;refine(TP _ HZ _ HN.1).mono ?_;rintro e w4⟨rfl,a0⟩))
   exact⟨rfl,D2 C rfl (Jt6 _) (HN.2.2.2 _ a0)⟩
theorem Ju0{w d k n0 G s A ws}(h:M3 w d G k s A n0 ws)c:Calls prog 54 #[pA d,.slice A n0 c] w (VK w d G k (VX s ws)):=by
 have H:=J6 h;clear h
 cases i:D6 ws 0 with
 |none=>
  have j:=J6 (show VX s ws=(s,.bad 3) by unfold VX V8;rw[i]);go_enter func54,ntmps54
  go_wp2_with (go_at_call 94;refine(H.numbers_bad c i).mono ?_;rintro e w1⟨rfl,u⟩)
  exact⟨rfl,D2 j rfl (D1 Q0) (H.desk.to u)⟩
 |some l=>
  obtain⟨C,j⟩:=Xt6 (VV i) (show VX s ws=(s,.ok En) by unfold VX V8;rw[i]);go_enter func54,ntmps54
  go_wp2_with (go_at_call 94;refine(H.numbers_ok c i).mono ?_;rintro e w1⟨y,c1,rfl,u,D,E⟩)
  go_ret;exact D2 j rfl (by show _<=10000000000;decide) (H.desk.to u)
theorem Yt{a b}(j:V3 a)(u:V3 b):∀v∈[a,b],V3 v:=fun v i=>by simp only[List.mem_cons,List.not_mem_nil,or_false]at i;obtain rfl|rfl:=i<;>assumption
theorem Xf5{a b c}(j:V3 a)(u:V3 b)(y:V3 c):∀v∈[a,b,c],V3 v:=fun v i=>by simp only[List.mem_cons,List.not_mem_nil,or_false]at i;obtain rfl|rfl|rfl:=i<;>assumption
theorem Xl8(w:World)t u cs cs':J7 ((w.alloc (.cells cs t)).alloc (.cells cs' u)) (w.heap.size+1) u cs':=by have h:=Z5 (w.alloc (.cells cs t)) u cs';simpa using h
theorem Ju1{w d k n0 G s A ws}(h:M3 w d G k s A n0 ws)c:Calls prog 60 #[pA d,.slice A n0 c] w (VK w d G k (FE s ws)):=by
 have H:=J6 h;clear h
 cases u:D6 ws 0 with
 |none=>
  have C:=J6 (show FE s ws=(s,.bad 3) by unfold FE V8;rw[u]);go_enter func60,ntmps60
  go_wp2_with (go_at_call 94;refine(H.numbers_bad c u).mono ?_;rintro e w1⟨rfl,i⟩)
  exact⟨rfl,D2 C rfl (D1 Q0) (H.desk.to i)⟩
 |some l=>
  have HF:=J6 (VV u)
  cases y:s.e with
  |none=>
   have C:=J6 (show FE s ws=(s,.bad 6) by unfold FE V8 D3;rw[u];simp only[y]);go_enter func60,ntmps60
   go_wp2_with (first
    |(go_at_call 94;refine(H.numbers_ok c u).mono ?_;rintro e w1⟨A1,c1,rfl,i,hC,a5⟩)
    |(go_at_call 95;refine(H.ready_not y i).mono ?_;rintro e w2⟨rfl,D⟩))
   exact⟨rfl,D2 C rfl (D1 Q0) (H.desk.to (i.trans (D.mono i.size)))⟩
  |some m=>
   obtain⟨HO,C⟩:=Xt6 (H.mok y) (show FE s ws=(s,.ok (N8 [m.an,m.la])) by unfold FE V8 D3;rw[u];simp only[y]);go_enter func60,ntmps60
   go_wp2_with (first
    |(go_at_call 94;refine(H.numbers_ok c u).mono ?_;rintro e w1⟨A1,c1,rfl,i,hC,a5⟩)
    |(go_at_call 95;refine(H.ready_yes y i).mono ?_;rintro e w2⟨rfl,D⟩;have j:=J6 (i.trans (D.mono i.size));obtain⟨e,F,c6,Z,a0,a1⟩:=H.engine y j;have HE:=J6 Z;have HX:=J6 a1;have a6:=J6 a0;clear Z a1 a0;clear i D)
    |(go_at_call 107;refine(Jr3 HE).mono ?_;rintro ev w3⟨rfl,E⟩;have a2:=J6 ((H.globs (j.trans (E.mono j.size))));have N:=J6 (H.sizes (j.trans (E.mono j.size)));have J:=J6 (j.trans (E.mono j.size));clear E)
    |(go_at_call 97;refine(LB _ (.inl rfl) (some ⟨w3.heap.size,0,none⟩) 2 2 [m.an,m.la] _ (a2.below ((J9 _ w3).alloc Q2 _) N) (by have:=N.out;simp;omega) (MJ (Z5 w3 3 #[I O m.an,I O m.la])) rfl (Yt (AF (by have:=HO.ok.an;omega)) (AF (by have:=HO.ok.la;omega))) Q0).mono ?_;rintro e w4⟨rfl,a3⟩))
   go_ret;have a4:=PZ (l:=[m.an,m.la]) (Yt (AF (by have:=HO.ok.an;omega)) (AF (by have:=HO.ok.la;omega)));exact D2 C rfl (by show _<=10000000000;simp only[List.length_cons,List.length_nil]at a4;omega) (H.desk.to ((J.alloc J.size _).trans (a3.mono (by have:=J.size;simp;omega))))
theorem Ji5{w d k n0 G s A ws}(h:M3 w d G k s A n0 ws)c:Calls prog 59 #[pA d,.slice A n0 c] w (VK w d G k (FX s ws)):=by
 have H:=J6 h;clear h
 cases u:D6 ws 0 with
 |none=>
  have J:=J6 (show FX s ws=(s,.bad 3) by unfold FX V8;rw[u]);go_enter func59,ntmps59
  go_wp2_with (go_at_call 94;refine(H.numbers_bad c u).mono ?_;rintro e w1⟨rfl,i⟩)
  exact⟨rfl,D2 J rfl (D1 Q0) (H.desk.to i)⟩
 |some l=>
  have HF:=J6 (VV u)
  cases E:s.e with
  |none=>
   have J:=J6 (show FX s ws=(s,.bad 6) by unfold FX V8 D3;rw[u];simp only[E]);go_enter func59,ntmps59
   go_wp2_with (first
    |(go_at_call 94;refine(H.numbers_ok c u).mono ?_;rintro e w1⟨A1,c1,rfl,i,hC,b1⟩)
    |(go_at_call 95;refine(H.ready_not E i).mono ?_;rintro e w2⟨rfl,Z⟩))
   exact⟨rfl,D2 J rfl (D1 Q0) (H.desk.to (i.trans (Z.mono i.size)))⟩
  |some m=>
   have HO:=J6 (H.mok E);obtain⟨a1,a2,a3⟩:=Tn HO.ok;obtain⟨y,C,D,hq⟩:∃y C D,AX m=(y,C,D):=⟨_,_,_,rfl⟩;rw[hq]at a1 a2 a3;obtain⟨a4,HQ⟩:=Xt6 (Xf5 a1 a2 a3) hq;clear a1 a2 a3 hq;have J:=J6 (show FX s ws=(s,.ok (N8 [y,C,D])) by unfold FX V8 D3;rw[u];simp only[E,HQ.out]);go_enter func59,ntmps59
   go_wp2_with (first
    |(go_at_call 94;refine(H.numbers_ok c u).mono ?_;rintro e w1⟨A1,c1,rfl,i,hC,b1⟩)
    |(go_at_call 95;refine(H.ready_yes E i).mono ?_;rintro e w2⟨rfl,Z⟩;have j:=J6 (i.trans (Z.mono i.size));obtain⟨e,F,c6,hE,a6,a7⟩:=H.engine E j;have HE:=J6 hE;have HX:=J6 a7;have b2:=J6 a6;clear hE a7 a6;clear i Z)
    |(go_at_call 106;refine(Jh0 HE HO.ok.la).mono ?_;rw[HQ.out];unfold QW;rintro ev w3⟨rfl,a0⟩;have a8:=J6 ((H.globs (j.trans (a0.mono j.size))));have a5:=J6 (H.sizes (j.trans (a0.mono j.size)));have N:=J6 (j.trans (a0.mono j.size));clear a0)
    |(go_at_call 97;refine(LB _ (.inl rfl) (some ⟨w3.heap.size+1,0,none⟩) 3 3 [y,C,D] _ (a8.below (((J9 _ w3).alloc Q2 _).alloc Q3 _) a5) (by have:=a5.out;simp;omega) (MJ (Xl8 w3 99 3 #[I O y,I O C,I O D] #[I O y,I O C,I O D])) rfl a4 Q0).mono ?_;rintro e w4⟨rfl,a9⟩))
   go_ret;have b0:=PZ (l:=[y,C,D]) a4;exact D2 J rfl (by show _<=10000000000;simp only[List.length_cons,List.length_nil]at b0;omega) (H.desk.to (((N.alloc N.size _).alloc (by have:=N.size;simp;omega) _).trans (a9.mono (by have:=N.size;simp;omega))))
theorem Qz3{w d k n0 G s A ws}(h:M3 w d G k s A n0 ws)c:Calls prog 57 #[pA d,.slice A n0 c] w (VK w d G k (ES s ws)):=by
 have H:=J6 h;clear h
 cases u:D6 ws 0 with
 |none=>
  have C:=J6 (show ES s ws=(s,.bad 3) by unfold ES V8;rw[u]);go_enter func57,ntmps57
  go_wp2_with (go_at_call 94;refine(H.numbers_bad c u).mono ?_;rintro e w1⟨rfl,i⟩)
  exact⟨rfl,D2 C rfl (D1 Q0) (H.desk.to i)⟩
 |some l=>
  have HF:=J6 (VV u)
  cases y:s.e with
  |none=>
   have C:=J6 (show ES s ws=(s,.bad 6) by unfold ES V8 D3;rw[u];simp only[y]);go_enter func57,ntmps57
   go_wp2_with (first
    |(go_at_call 94;refine(H.numbers_ok c u).mono ?_;rintro e w1⟨A1,c1,rfl,i,hC,a7⟩)
    |(go_at_call 95;refine(H.ready_not y i).mono ?_;rintro e w2⟨rfl,D⟩))
   exact⟨rfl,D2 C rfl (D1 Q0) (H.desk.to (i.trans (D.mono i.size)))⟩
  |some m=>
   obtain⟨HO,C⟩:=Xt6 (H.mok y) (show ES s ws=(s,.ok (MG m.pk)) by unfold ES V8 D3;rw[u];simp only[y]);go_enter func57,ntmps57
   go_wp2_with (first
    |(go_at_call 94;refine(H.numbers_ok c u).mono ?_;rintro e w1⟨A1,c1,rfl,i,hC,a7⟩)
    |(go_at_call 95;refine(H.ready_yes y i).mono ?_;rintro e w2⟨rfl,D⟩;have j:=J6 (i.trans (D.mono i.size));obtain⟨e,F,c6,Z,a1,a2⟩:=H.engine y j;have HE:=J6 Z;have HX:=J6 a2;have a9:=J6 a1;clear Z a2 a1;clear i D)
    |(go_at_call 104;refine(Qy3 HE (by have:=HO.ok.cnt;omega)).mono ?_;rintro ev w3⟨E,A2,c2,rfl,a0,a8⟩;have a4:=J6 a0;clear a0 a8;have a3:=J6 ((H.globs (j.trans (E.mono j.size))));have a5:=J6 (H.sizes (j.trans (E.mono j.size)));have N:=J6 (j.trans (E.mono j.size));clear E)
    |(go_at_call 103;refine(Yf _ (.inl rfl) A2 m.pk.length c2 m.pk w3 a3 a5 a4 (fun o J=>(HO.ok.pk o J).1.1) (by have:=HO.ok.cnt;omega)).mono ?_;rintro e w4⟨rfl,a6⟩))
   go_ret;have b0:=Kh (L:=m.pk) (fun o J=>(HO.ok.pk o J).1.1);exact D2 C rfl (by show _<=10000000000;have:=HO.ok.cnt;omega) (H.desk.to (N.trans (a6.mono N.size)))
theorem Xf6{p}(h:p=1\/p=2\/p=3\/p=4\/p=5\/p=6\/p=7)w:(Instr.index 147 (.agg #[.string ⟨#[]⟩,.string ⟨#[112,114,101,111,112,101,110]⟩,.string ⟨#[111,112,101,110,105,110,103]⟩,.string ⟨#[116,114,97,100,105,110,103]⟩,.string ⟨#[118,111,108,97,116,105,108,105,116,121]⟩,.string ⟨#[99,108,111,115,105,110,103]⟩,.string ⟨#[104,97,108,116]⟩,.string ⟨#[101,110,100,101,100]⟩]) (I O p)).run prog w=.ok (.string ⟨(YE p).toArray⟩) w:=by obtain rfl|rfl|rfl|rfl|rfl|rfl|rfl:=h<;>kernel_rfl
theorem Xo7{p}(h:p=1\/p=2\/p=3\/p=4\/p=5\/p=6\/p=7):(YE p).length<=10000000000:=by obtain rfl|rfl|rfl|rfl|rfl|rfl|rfl:=h<;>decide
theorem Ji6{w d k n0 G s A ws}(h:M3 w d G k s A n0 ws)c:Calls prog 58 #[pA d,.slice A n0 c] w (VK w d G k (FJ s ws)):=by
 have H:=J6 h;clear h
 cases j:D6 ws 0 with
 |none=>
  have y:=J6 (show FJ s ws=(s,.bad 3) by unfold FJ V8;rw[j]);go_enter func58,ntmps58
  go_wp2_with (go_at_call 94;refine(H.numbers_bad c j).mono ?_;rintro e w1⟨rfl,i⟩)
  exact⟨rfl,D2 y rfl (D1 Q0) (H.desk.to i)⟩
 |some l=>
  have HF:=J6 (VV j)
  cases u:s.e with
  |none=>
   have y:=J6 (show FJ s ws=(s,.bad 6) by unfold FJ V8 D3;rw[j];simp only[u]);go_enter func58,ntmps58
   go_wp2_with (first
    |(go_at_call 94;refine(H.numbers_ok c j).mono ?_;rintro e w1⟨A1,c1,rfl,i,hC,a1⟩)
    |(go_at_call 95;refine(H.ready_not u i).mono ?_;rintro e w2⟨rfl,C⟩))
   exact⟨rfl,D2 y rfl (D1 Q0) (H.desk.to (i.trans (C.mono i.size)))⟩
  |some m=>
   have HO:=J6 (H.mok u);have E:m.ph=1\/m.ph=2\/m.ph=3\/m.ph=4\/m.ph=5\/m.ph=6\/m.ph=7:=by have:=HO.ph;omega
   have y:=J6 (show FJ s ws=(s,.ok (YE m.ph)) by unfold FJ V8 D3;rw[j];simp only[u]);have a3:=Xf6 E;have HL:=J6 (Xo7 E);clear E;go_enter func58,ntmps58
   go_wp2_with (first
    |(go_at_call 94;refine(H.numbers_ok c j).mono ?_;rintro e w1⟨A1,c1,rfl,i,hC,a1⟩)
    |(go_at_call 95;refine(H.ready_yes u i).mono ?_;rintro e w2⟨rfl,C⟩;have D:=J6 (i.trans (C.mono i.size));obtain⟨e,F,c6,J,N,Z⟩:=H.engine u D;have HE:=J6 J;have HX:=J6 Z;have a2:=J6 N;clear J Z N;clear i C)
    |(go_at_call 105;refine(Jg9 HE).mono ?_;rintro ev w3⟨rfl,a0⟩))
   go_ret;exact D2 y rfl HL (H.desk.to (D.trans (a0.mono D.size)))
theorem Ju2{w d k n0 G s A ws}(h:M3 w d G k s A n0 ws)c:Calls prog 64 #[pA d,.slice A n0 c] w (VK w d G k (CN s ws)):=by
 have H:=J6 h;clear h
 cases y:D6 ws 0 with
 |none=>
  have C:=J6 (show CN s ws=(s,.bad 3) by unfold CN V8;rw[y]);go_enter func64,ntmps64
  go_wp2_with (go_at_call 94;refine(H.numbers_bad c y).mono ?_;rintro e w1⟨rfl,i⟩)
  exact⟨rfl,D2 C rfl (D1 Q0) (H.desk.to i)⟩
 |some l=>
  have HF:=J6 (VV y)
  cases u:s.e with
  |none=>
   have C:=J6 (show CN s ws=(s,.bad 6) by unfold CN V8 D3;rw[y];simp only[u]);go_enter func64,ntmps64
   go_wp2_with (first
    |(go_at_call 94;refine(H.numbers_ok c y).mono ?_;rintro e w1⟨A1,c1,rfl,i,hC,b8⟩)
    |(go_at_call 95;refine(H.ready_not u i).mono ?_;rintro e w2⟨rfl,D⟩))
   exact⟨rfl,D2 C rfl (D1 Q0) (H.desk.to (i.trans (D.mono i.size)))⟩
  |some m=>
   have HO:=J6 (H.mok u);have d4:=HO.now
   by_cases N:AT m=0
   ·have C:=J6 (show CN s ws=({s with e:=some (G9 m)},.ok (YD (Lib.itoa (G9 m).now) (Zp m))) by unfold CN V8 D3;rw[y];simp only[u];rw[RS N])
    have HZ:=J6 N;clear N;obtain⟨tn,a7⟩:=exq ((G9 m).now);have a5:=J6 a7;have a3:V3 tn:=by
     rw[<-a7,Yb];have:=H.k
     split<;>exact AF Q0
    clear a7;go_enter func64,ntmps64
    go_wp2_with (first
     |(go_at_call 94;refine(H.numbers_ok c y).mono ?_;rintro e w1⟨A1,c1,rfl,i,hC,b8⟩)
     |(go_at_call 95;refine(H.ready_yes u i).mono ?_;rintro e w2⟨rfl,D⟩;have HB:=J6 (i.trans (D.mono i.size));obtain⟨e,F,c6,hE,a1,a2⟩:=H.engine u HB;have HE:=J6 hE;have HX:=J6 a2;have c5:=J6 a1;clear hE a2 a1;clear i D)
     |(go_at_call 109;refine(Tj HE (HO.in_ H.k6) (HO.next H.k6)).mono ?_;rintro ev w3 hT;have E:=hT.to;have j:=J6 (HX _ _ E (HO.tick E.lists));obtain⟨A2,c2,Fs,rfl,hF,b5,d0,a6⟩:=hT;have J:=J6 hF;have c8:=J6 b5;clear E d0 a6 hF b5)
     |(go_at_call 23;refine(Qr _ HZ _).mono ?_;rintro e w4⟨rfl,a0⟩;obtain⟨G4,b1⟩:=j.2.2.1;obtain⟨e4,F4,d1,b2,-,-⟩:=(b1.below a0).eng;have b9:=J6 b2;have a8:=J6 a0;clear b1 b2 a0)
     |(go_at_call 111;refine(Xd3 b9).mono ?_;rintro ev w5⟨rfl,a9⟩;rw[a5.out];have a4:=J6 (a8.trans (a9.mono a8.size));have c7:=J6 (j.1.below a4 j.2.1);clear a9)
     |(go_at_call 19;refine(Zl tn a3 _ c7).mono ?_;rintro ev w6⟨rfl,b0⟩;have Z:=J6 (a4.trans (b0.mono a4.size));clear b0)
     |(go_at_call 110;refine(Tq ⟨(Lib.itoa tn).toArray⟩ A2 Fs.length c2 Fs _ (j.1.below Z j.2.1) (U4 j.2.1 Z.size) (c8.below Z) (Kn HO.ok J).1 (Kn HO.ok J).2 (by have:=Xi tn a3.1 a3.2;rw[KD];show(Lib.itoa tn).length<=1000;omega)).mono ?_;rintro ev w7⟨rfl,c9⟩))
    go_ret;have d2:=Ko (nm:=Lib.itoa tn) (by have:=Xi tn a3.1 a3.2;omega) (Kn HO.ok J).1;have d3:=(Kn HO.ok J).2;refine D2 C ?_ ?_ (j.2.2.2 _ (Z.trans (c9.mono Z.size)))
    ·rw[a5.out,Em J.out]
     rfl
    rw[a5.out,Em J.out];show _<=10000000000;omega
   have C:=J6 (show CN s ws=({s with e:=some (G9 m)},.bad (AT m)) by unfold CN V8 D3;rw[y];simp only[u];rw[LK N]);have HZ:=J6 N;clear N;go_enter func64,ntmps64
   go_wp2_with (first
    |(go_at_call 94;refine(H.numbers_ok c y).mono ?_;rintro e w1⟨A1,c1,rfl,i,hC,b8⟩)
    |(go_at_call 95;refine(H.ready_yes u i).mono ?_;rintro e w2⟨rfl,D⟩;have HB:=J6 (i.trans (D.mono i.size));obtain⟨e,F,c6,hE,a1,a2⟩:=H.engine u HB;have HE:=J6 hE;have HX:=J6 a2;have c5:=J6 a1;clear hE a2 a1;clear i D)
    |(go_at_call 109;refine(Tj HE (HO.in_ H.k6) (HO.next H.k6)).mono ?_;rintro ev w3 hT;have E:=hT.to;have j:=J6 (HX _ _ E (HO.tick E.lists));obtain⟨A2,c2,Fs,rfl,a6⟩:=hT;clear E a6)
    |(go_at_call 23;refine(TP _ HZ _ j.1).mono ?_;rintro e w4⟨rfl,a0⟩))
   exact⟨rfl,D2 C rfl (Jt7 _) (j.2.2.2 _ a0)⟩
