/-
  What the parts of Book.Cancel leave, for its walk.
-/
import Derived.WalkKit
import Derived.WalkLawsBesides
import Derived.WalkSpells
import Derived.Deep.RegionLaw
import Derived.Deep.QuietTactic
import Derived.Deep.RegionWith
import Derived.BigQuiet
import Derived.StillTailTactics
import Derived.Deep.DeepCutAuto
import Derived.Deep.CutBlock
import Derived.Test.YtkcgchpbjegneaaGreatDoorBookAddL
import Derived.Test.YtkcgchpbjegneaaGreatDoorQueue
namespace Go.Proofs.YtkcgchpbjegneaaGreatDoor
open Go.RowKit
set_option linter.unusedVariables false

theorem blk5 {w : World} {g : Nat} {t : TypeId} {a b c d e : Value} (h : Blk w g t #[a, b, c, d, e]) :
    w.cell? ⟨g, 0, none⟩ = some a ∧ w.cell? ⟨g, 1, none⟩ = some b ∧ w.cell? ⟨g, 2, none⟩ = some c ∧ w.cell? ⟨g, 3, none⟩ = some d ∧ w.cell? ⟨g, 4, none⟩ = some e :=
  ⟨by rw [Blk.cell h]; rfl, by rw [Blk.cell h]; rfl, by rw [Blk.cell h]; rfl, by rw [Blk.cell h]; rfl, by rw [Blk.cell h]; rfl⟩
theorem bcell {W w1 : World} (hb : Below W.heap.size W w1) : (∀ b o, b < W.heap.size → w1.cell? ⟨b, o, none⟩ = W.cell? ⟨b, o, none⟩) ∧ (∀ b o, b < W.heap.size → w1.frozen? ⟨b, o, none⟩ = W.frozen? ⟨b, o, none⟩) :=
  ⟨fun b o h => hb.cell (p := ⟨b, o, none⟩) h, fun b o h => hb.frozen (p := ⟨b, o, none⟩) h⟩
theorem Keeps.drew0 {S : Nat → Prop} {w w' : World} (h : Keeps S w.drew w') : Keeps S w w' := ⟨h.os, h.tape, h.output, h.size, h.block⟩
theorem cancel_boxes {w : World} {b a n r : Nat} {F : Nat → Prop} {M : Int → Int → Option Ord5} {f : Int → Option Value} {H : Int → HS} {reg : Nat → Int} {h1 h2 sd pr : Int} {mk : Bool} (hM : BookM w b a F M n r f H reg) :
    let W := (w.alloc (.cells #[.int .i64 0, .int .i64 0, .int .i64 0, .int .i64 0, .int .i64 0] 24)).alloc (.cells #[.int .i64 h1, .int .i64 h2, .int .i64 sd, .int .i64 pr, .bool mk] 157)
    Below w.heap.size w W ∧ BookM W b a F M n r f H reg ∧ Blk W w.heap.size 24 #[.int .i64 0, .int .i64 0, .int .i64 0, .int .i64 0, .int .i64 0] ∧ Blk W (w.heap.size + 1) 157 #[.int .i64 h1, .int .i64 h2, .int .i64 sd, .int .i64 pr, .bool mk] := by
  intro W
  have hb : Below w.heap.size w W := ((Below.refl _ w).alloc (Nat.le_refl _) _).alloc (by simp) _
  refine ⟨hb, hM.below hb, Blk.alloc (Blk.new w _ _) _, ?_⟩
  have := Blk.new (w.alloc (.cells #[.int .i64 0, .int .i64 0, .int .i64 0, .int .i64 0, .int .i64 0] 24)) 157 #[.int .i64 h1, .int .i64 h2, .int .i64 sd, .int .i64 pr, .bool mk]
  rwa [World.size_alloc] at this
theorem map_del (w : World) (r : Nat) (f : Int → Option Value) (h : IMap w r f) (id : Int) :
    ∃ w', (∀ ty, (Builtin.delete_ #[146, 3] ty #[.map (some r), .int .i64 id]).run Tryz.prog w = .ok (.tuple #[]) w') ∧ IMap w' r (updI f id none) ∧ Turned w w' r := by
  obtain ⟨w', h1, h2, h3⟩ := h.delete (P := Tryz.prog) (t := 146) Tryz.underlying146 Tryz.underlying3 id 3 0
  exact ⟨w', fun ty => h1, h2, h3⟩
section
variable {M : Int → Int → Option Ord5} {n m : Nat} {f : Int → Option Value} {H : Int → HS} {s : Int}
theorem ms_len2 (hs : Is12 s) (hS : BookS M n f H) (h2 : n ≤ 100) : (H s).ms.length ≤ 1000 := by
  have h1 := hS.cnt
  unfold allH HS.all hOrd at h1
  simp only [List.length_append] at h1
  rcases hs with rfl | rfl <;> omega
theorem qs_len2 (hs : Is12 s) (hS : BookS M n f H) (h2 : n ≤ 100) : (H s).qs.length ≤ 100000 := by
  have h1 := hS.cnt
  have h3 : (H s).qs.length ≤ (qOrd (H s).qs).length := by
    have hne := hS.ne s hs
    generalize (H s).qs = l at hne
    induction l with
    | nil => simp
    | cons q l ih =>
      have ih := ih (fun q hq => hne q (by simp [hq]))
      have h0 : 0 < q.os.length := List.length_pos_iff.2 (hne q (by simp))
      have e : qOrd (q :: l) = q.os ++ qOrd l := rfl
      rw [e, List.length_append, List.length_cons]
      omega
  unfold allH HS.all hOrd at h1
  simp only [List.length_append] at h1
  rcases hs with rfl | rfl <;> omega
theorem os_len (hs : Is12 s) (hS : BookS M n f H) (h2 : n ≤ 100) {k : Nat} (hk : k < (H s).qs.length) : (H s).qs[k].os.length ≤ 1000 := by
  have h1 := hS.cnt
  have h3 : (H s).qs[k].os.length ≤ (qOrd (H s).qs).length := by
    rw [qOrd_split _ hk]
    simp only [List.length_append]
    omega
  unfold allH HS.all hOrd at h1
  simp only [List.length_append] at h1
  rcases hs with rfl | rfl <;> omega
end
/-- behind a handle dropped out of its queue -/
def Drop10 (w wx : World) (qg k : Nat) (A : Option Addr) (c : Nat) (os : List HO) (h : Int × Int) : Prop :=
  ∃ w5, wx = World.setCell w5 ⟨qg, k * 2 + 1, none⟩ (.slice A (os.filter (notH h)).length c) ∧ Keeps (fun i => blkOf A = some i) w w5 ∧ RowAt w5 A (os.filter (notH h)).length c 155 2 (flat encH (hndL (os.filter (notH h))))
theorem drop10_of {w w5 : World} {qg k : Nat} {A : Option Addr} {c : Nat} {os : List HO} {h : Int × Int} (hk : Keeps (fun i => blkOf A = some i) w.drew w5) (hr : RowAt w5 A ((hndL os).filter fun p => !isH h p).length c 155 2 (flat encH ((hndL os).filter fun p => !isH h p))) :
    Drop10 w (w5.setCell ⟨qg, k * 2 + 1, none⟩ (.slice A ((hndL os).filter fun p => !isH h p).length c)) qg k A c os h := by
  refine ⟨w5, by rw [ord_filter_length], hk.drew0, ?_⟩
  rw [ord_filter_length, ← hnd_filter] at hr
  exact hr
/-- ahead of Take -/
def Less13 (w wx : World) (b a r : Nat) (F : Nat → Prop) (M : Int → Int → Option Ord5) (n : Nat) (f' : Int → Option Value) (H : Int → HS) (s id h1 h2 : Int) (pb rb : Nat) (place : Array Value) : Prop :=
  ∃ (H5 : Int → HS) (reg5 : Nat → Int), BookM wx b a F M n r f' H5 reg5 ∧ BStep w wx (BFp b r F H) (BFp b r F H5) ∧ BookS (withO M h1 h2 none) (n - 1) f' H5 ∧ (H5 s).L = remI (H s).L id ∧ (∀ s', s' ≠ s → H5 s' = H s') ∧
    Blk wx pb 157 place ∧ Blk wx rb 24 #[.int .i64 0, .int .i64 0, .int .i64 0, .int .i64 0, .int .i64 0] ∧ ¬ BFp b r F H5 rb
section
variable {w5 : World} {b a n r : Nat} {F : Nat → Prop} {M : Int → Int → Option Ord5} {f : Int → Option Value} {H : Int → HS} {reg : Nat → Int} {s : Int}
theorem not_up (hs : Is12 s) {h' : HS} (hh : ∀ i, HFp h' i → HFp (H s) i) {i : Nat} (h : ¬ BFp b r F H i) : ¬ BFp b r F (upH H s h') i := fun hi =>
  (BFp_up hs (m := i + 1) (fun j hj => .inl (hh j hj)) i hi).elim h (by omega)
theorem take_one {W : World} {h1 h2 : Int} {o : Ord5} (hM : BookM w5 b a F M n r f H reg) (hW : Below w5.heap.size w5 W) (hMx : M h1 h2 = some o) :
    Calls Tryz.prog 136 #[.pointer (some ⟨a, 0, none⟩), .agg #[.int .i64 h1, .int .i64 h2]] W fun e w' =>
      e = .returned (.tuple #[.agg #[.int .i64 o.id, .int .i64 o.side, .int .i64 o.kind, .int .i64 o.price, .int .i64 o.qty], .nilIface]) ∧ ∃ F6 reg6, BookM w' b a F6 (withO M h1 h2 none) (n - 1) r f H reg6 ∧ BStep W w' (BFp b r F H) (BFp b r F6 H) := by
  have hMW := hM.below hW
  refine (oar_take hMW.ar (by omega) h1 h2).mono ?_
  rintro e w' ⟨rfl, hc⟩
  refine ⟨by unfold getO errO; rw [hMx]; rfl, ?_⟩
  rcases hc with ⟨h, _⟩ | ⟨_, _, hto⟩
  · rw [hMx] at h; cases h
  · exact hMW.arena hto
theorem cancel_ret {w : World} {t : Act} {Q : Ending → World → Prop} {g : Nat} {cs : Array Value} {v : Value} (hp : t.tmps.getD 4 undef = .pointer (some ⟨g, 0, none⟩)) (h5 : t.tmps.getD 5 undef = v) (hd : t.defers = [])
    (hg : Blk w g 24 cs) (hs : cs.size = 5) (h : Q (.returned (.tuple #[.agg cs, v])) w) : bodyPost Tryz.prog Tryz.f101 Q .ret t w := by
  refine bodyPost_ret (v := .tuple #[.agg cs, v]) ?_ hd h
  have hl := run_loadVar_row (P := Tryz.prog) w g _ 24 cs (0, 0) _ hg Tryz.underlying24 rfl (by rw [hs]; kernel_rfl)
  have hp' : t.tmps[4]?.getD undef = .pointer (some ⟨g, 0, none⟩) := by simpa using hp
  have h5' : t.tmps[5]?.getD undef = v := by simpa using h5
  simp [results, Tryz.results101, hp', h5', asAddr, hl]
end

theorem keeps5 (w : World) (g : Nat) (a b c d e : Value) : Keeps (fun i => i = g) w (((((w.setCell ⟨g, 0, none⟩ a).setCell ⟨g, 1, none⟩ b).setCell ⟨g, 2, none⟩ c).setCell ⟨g, 3, none⟩ d).setCell ⟨g, 4, none⟩ e) :=
  ((((Keeps.set_ w ⟨g, 0, none⟩ a).trans (Keeps.set_ _ ⟨g, 1, none⟩ b) (fun i h => .inl h)).trans (Keeps.set_ _ ⟨g, 2, none⟩ c) (fun i h => .inl h)).trans (Keeps.set_ _ ⟨g, 3, none⟩ d) (fun i h => .inl h)).trans (Keeps.set_ _ ⟨g, 4, none⟩ e) (fun i h => .inl h)
theorem less_done {w w6 : World} {b a n r rb : Nat} {F F6 : Nat → Prop} {M' : Int → Int → Option Ord5} {f' : Int → Option Value} {H H5 : Int → HS} {reg6 : Nat → Int} {s id : Int} {x0 x1 x2 x3 x4 : Value} (hM : BookM w6 b a F6 M' (n - 1) r f' H5 reg6) (hB : BStep w w6 (BFp b r F H) (BFp b r F6 H5))
    (hn : ¬ BFp b r F6 H5 rb) (hrb : w.heap.size ≤ rb) (hS : BookS M' (n - 1) f' H5) (hL : (H5 s).L = remI (H s).L id) (hO : ∀ s', s' ≠ s → H5 s' = H s') :
    LessDone w (((((w6.setCell ⟨rb, 0, none⟩ x0).setCell ⟨rb, 1, none⟩ x1).setCell ⟨rb, 2, none⟩ x2).setCell ⟨rb, 3, none⟩ x3).setCell ⟨rb, 4, none⟩ x4) b a r F n H s id := by
  have hk := keeps5 w6 rb x0 x1 x2 x3 x4
  exact ⟨F6, M', f', H5, reg6, hM.keeps hk (fun i hi e => hn (by rw [← e]; exact hi)), hS, ⟨hB.1.trans hk (fun i e => .inr (by rw [e]; exact hrb)), hB.2⟩, hL, hO⟩
section
variable {w w4 wx w7 : World} {b a n r k qg pb rb : Nat} {F : Nat → Prop} {M : Int → Int → Option Ord5} {f f' : Int → Option Value} {H : Int → HS} {reg4 reg6 : Nat → Int} {s : Int} {q : QG} {h : Int × Int} {o : Ord5} {pl : Array Value}
def midH (H : Int → HS) (s : Int) (k : Nat) (q : QG) (h : Int × Int) : Int → HS := upH H s ⟨(H s).mA, (H s).mc, (H s).qA, (H s).qc, (H s).ms, (H s).qs.set k ⟨q.price, q.A, q.c, q.os.filter (notH h)⟩⟩
/-- the book between the drop and what follows -/
def Mid11 (w wx : World) (b a r : Nat) (F : Nat → Prop) (M : Int → Int → Option Ord5) (n : Nat) (f' : Int → Option Value) (H : Int → HS) (s : Int) (k : Nat) (q : QG) (h : Int × Int) (pb rb : Nat) (pl : Array Value) : Prop :=
  ∃ reg6, BookM wx b a F M n r f' (midH H s k q h) reg6 ∧ BStep w wx (BFp b r F H) (BFp b r F (midH H s k q h)) ∧ Blk wx pb 157 pl ∧ Blk wx rb 24 #[.int .i64 0, .int .i64 0, .int .i64 0, .int .i64 0, .int .i64 0]
theorem mid_fp (hs : Is12 s) (hk : k < (H s).qs.length) (hqk : (H s).qs[k] = q) : ∀ i, HFp ⟨(H s).mA, (H s).mc, (H s).qA, (H s).qc, (H s).ms, (H s).qs.set k ⟨q.price, q.A, q.c, q.os.filter (notH h)⟩⟩ i → HFp (H s) i := by
  rintro i (hi | hi | ⟨q', hq', hi⟩)
  · exact .inl hi
  · exact .inr (.inl hi)
  · rcases List.mem_or_eq_of_mem_set hq' with h1 | rfl
    · exact .inr (.inr ⟨q', h1, hi⟩)
    · exact .inr (.inr ⟨q, by rw [← hqk]; exact List.getElem_mem _, hi⟩)
theorem cancel_mid (hM4 : BookM w4 b a F M n r f' H reg4) (hS4 : BStep w w4 (BFp b r F H) (BFp b r F H)) (hs : Is12 s) (hk : k < (H s).qs.length) (hqk : (H s).qs[k] = q) (hqA : (H s).qA = some ⟨qg, 0, none⟩) (hD : Drop10 w4 wx qg k q.A q.c q.os h)
    (hP : Blk w4 pb 157 pl) (hR : Blk w4 rb 24 #[.int .i64 0, .int .i64 0, .int .i64 0, .int .i64 0, .int .i64 0]) (hpb : ¬ BFp b r F H pb) (hrb : ¬ BFp b r F H rb) : Mid11 w wx b a r F M n f' H s k q h pb rb pl := by
  subst hqk
  obtain ⟨w5, rfl, hk5, hr5⟩ := hD
  obtain ⟨reg6, hM6, hB6⟩ := hM4.queue hs hk hqA hk5 hr5 (fun g hg => .inl hg)
  have hq4 : ∀ g, ¬ BFp b r F H g → blkOf (H s).qs[k].A ≠ some g ∧ g ≠ qg := fun g hg => ⟨fun e => hg (BookM.fpH s hs (.inr (.inr ⟨_, List.getElem_mem _, e⟩))), fun e => hg (BookM.fpH s hs (.inr (.inl (by rw [hqA, e]; rfl))))⟩
  exact ⟨reg6, hM6, hS4.trans hB6, Blk.far (Blk.keeps hP hk5 (hq4 _ hpb).1) (p := ⟨qg, k * 2 + 1, none⟩) (hq4 _ hpb).2 _, Blk.far (Blk.keeps hR hk5 (hq4 _ hrb).1) (p := ⟨qg, k * 2 + 1, none⟩) (hq4 _ hrb).2 _⟩
theorem less13_keep (hS : BookS M n f H) (hs : Is12 s) (hk : k < (H s).qs.length) (hqk : (H s).qs[k] = q) (hx : (h, o) ∈ q.os) (hxa : (h, o) ∈ (H s).all) (hne : (q.os.filter (notH h)).length ≠ 0) (hf : f' = updI f o.id none)
    (hX : Mid11 w wx b a r F M n f' H s k q h pb rb pl) (hrb : ¬ BFp b r F H rb) : Less13 w wx b a r F M n f' H s o.id h.1 h.2 pb rb pl := by
  subst hf
  obtain ⟨reg6, hM, hB, hP, hR⟩ := hX
  subst hqk
  obtain ⟨h1, h2⟩ := less_queue hS hs hk hx hxa (fun e => hne (by rw [e]; rfl)) (H s).qs[k].A (H s).qs[k].c
  exact ⟨_, reg6, hM, hB, h1, h2, fun s' hs' => upH_other hs', hP, hR, not_up hs (mid_fp hs hk rfl) hrb⟩
theorem mid_qs : (midH H s k q h s).qs = (H s).qs.set k ⟨q.price, q.A, q.c, q.os.filter (notH h)⟩ := by unfold midH; rw [upH_self]
/-- what Delete is to be told -/
theorem mid_row (hs : Is12 s) (hqA : (H s).qA = some ⟨qg, 0, none⟩) (hM : BookM wx b a F M n r f' (midH H s k q h) reg6) :
    RowAt wx (some ⟨qg, 0, none⟩) (H s).qs.length (H s).qc 166 2 (flat encQ (((H s).qs.set k ⟨q.price, q.A, q.c, q.os.filter (notH h)⟩).map QG.que)) := by
  have h1 := (hM.hx s hs).rq
  have e : midH H s k q h s = ⟨(H s).mA, (H s).mc, (H s).qA, (H s).qc, (H s).ms, (H s).qs.set k ⟨q.price, q.A, q.c, q.os.filter (notH h)⟩⟩ := by unfold midH; rw [upH_self]
  rw [e] at h1
  dsimp only at h1
  rw [hqA, List.length_set] at h1
  exact h1
theorem less13_last (hS : BookS M n f H) (hs : Is12 s) (hk : k < (H s).qs.length) (hqk : (H s).qs[k] = q) (hqA : (H s).qA = some ⟨qg, 0, none⟩) (hx : (h, o) ∈ q.os) (hxa : (h, o) ∈ (H s).all) (hne : (q.os.filter (notH h)).length = 0) (hf : f' = updI f o.id none)
    (hX : Mid11 w wx b a r F M n f' H s k q h pb rb pl) (hpb : ¬ BFp b r F H pb) (hrb : ¬ BFp b r F H rb)
    (hR7 : RowAt w7 (some ⟨qg, 0, none⟩) (k + ((H s).qs.length - (k + 1))) (H s).qc 166 2 (flat encQ ((((H s).qs.set k ⟨q.price, q.A, q.c, q.os.filter (notH h)⟩).map QG.que).take k ++ (((H s).qs.set k ⟨q.price, q.A, q.c, q.os.filter (notH h)⟩).map QG.que).drop (k + 1))))
    (hK7 : Keeps (fun x => x = qg) wx w7) :
    Less13 w (w7.setCell ⟨b, hoff s + 1, none⟩ (.slice (some ⟨qg, 0, none⟩) (k + ((H s).qs.length - (k + 1))) (H s).qc)) b a r F M n f' H s o.id h.1 h.2 pb rb pl := by
  subst hf
  obtain ⟨reg6, hM, hB, hP, hR⟩ := hX
  subst hqk
  have e : midH H s k (H s).qs[k] h s = ⟨(H s).mA, (H s).mc, (H s).qA, (H s).qc, (H s).ms, (H s).qs.set k ⟨(H s).qs[k].price, (H s).qs[k].A, (H s).qs[k].c, (H s).qs[k].os.filter (notH h)⟩⟩ := by unfold midH; rw [upH_self]
  have hl : ((H s).qs.take k ++ (H s).qs.drop (k + 1)).length = k + ((H s).qs.length - (k + 1)) := by simp; omega
  have hset : ((H s).qs.set k ⟨(H s).qs[k].price, (H s).qs[k].A, (H s).qs[k].c, (H s).qs[k].os.filter (notH h)⟩).take k = (H s).qs.take k := List.take_set_of_le (Nat.le_refl _)
  have hset2 : ((H s).qs.set k ⟨(H s).qs[k].price, (H s).qs[k].A, (H s).qs[k].c, (H s).qs[k].os.filter (notH h)⟩).drop (k + 1) = (H s).qs.drop (k + 1) := List.drop_set_of_lt (by omega)
  rw [← List.map_take, ← List.map_drop, hset, hset2, ← List.map_append, ← hl] at hR7
  have hX := hM.queues (s := s) hs (w3 := w7) (A' := some ⟨qg, 0, none⟩) (c' := (H s).qc) (qs' := (H s).qs.take k ++ (H s).qs.drop (k + 1))
    (by rw [e]; dsimp only; rw [hqA]; exact hK7.mono (fun i e => by rw [e]; rfl)) hR7 (fun g hg => .inl (by rw [e]; dsimp only; rw [hqA]; exact hg))
    (fun q hq => .inl (by
      rw [e]
      dsimp only
      rcases List.mem_append.1 hq with hq | hq
      · rw [← hset] at hq; exact List.mem_of_mem_take hq
      · rw [← hset2] at hq; exact List.mem_of_mem_drop hq))
    (by
      have h3 := nodup_fm_erase (fun q : QG => blkOf q.A) _ k (hM.hx s hs).nd
      rw [e] at h3
      dsimp only at h3
      rw [hset, hset2] at h3
      exact h3)
  rw [hl] at hX
  obtain ⟨reg7, hM7, hB7⟩ := hX
  rw [e] at hM7 hB7
  dsimp only at hM7 hB7
  have e2 : upH (midH H s k (H s).qs[k] h) s ⟨(H s).mA, (H s).mc, some ⟨qg, 0, none⟩, (H s).qc, (H s).ms, (H s).qs.take k ++ (H s).qs.drop (k + 1)⟩ = upH H s ⟨(H s).mA, (H s).mc, some ⟨qg, 0, none⟩, (H s).qc, (H s).ms, (H s).qs.take k ++ (H s).qs.drop (k + 1)⟩ := by
    funext s'
    unfold midH upH
    split <;> rfl
  rw [e2] at hM7 hB7
  obtain ⟨h1, h2⟩ := less_last hS hs hk hx hxa (List.length_eq_zero_iff.1 hne) (some ⟨qg, 0, none⟩) (H s).qc
  have hfp : ∀ i, HFp ⟨(H s).mA, (H s).mc, some ⟨qg, 0, none⟩, (H s).qc, (H s).ms, (H s).qs.take k ++ (H s).qs.drop (k + 1)⟩ i → HFp (H s) i := by
    rintro i (hi | hi | ⟨q', hq', hi⟩)
    · exact .inl hi
    · exact .inr (.inl (by rw [hqA]; exact hi))
    · refine .inr (.inr ⟨q', ?_, hi⟩)
      rcases List.mem_append.1 hq' with hq | hq
      · exact List.mem_of_mem_take hq
      · exact List.mem_of_mem_drop hq
  have hq4 : ∀ g, ¬ BFp b r F H g → g ≠ qg ∧ g ≠ b := fun g hg => ⟨fun e => hg (BookM.fpH s hs (.inr (.inl (by rw [hqA, e]; rfl)))), fun e => hg (.inl e)⟩
  exact ⟨_, reg7, hM7, hB.trans hB7, h1, h2, fun s' hs' => upH_other hs', Blk.far (Blk.keeps hP hK7 (hq4 _ hpb).1) (p := ⟨b, hoff s + 1, none⟩) (hq4 _ hpb).2 _, Blk.far (Blk.keeps hR hK7 (hq4 _ hrb).1) (p := ⟨b, hoff s + 1, none⟩) (hq4 _ hrb).2 _, not_up hs hfp hrb⟩
end
/-- behind Take -/
def Take13 (w wx : World) (b a r rb : Nat) (F : Nat → Prop) (M : Int → Int → Option Ord5) (n : Nat) (f' : Int → Option Value) (H : Int → HS) (s id h1 h2 : Int) (cs : Array Value) : Prop :=
  LessDone w wx b a r F n H s id ∧ Blk wx rb 24 cs
set_option maxRecDepth 100000 in
set_option maxHeartbeats 1000000 in
theorem cancel_missing (w : World) (b a : Nat) (F : Nat → Prop) (M : Int → Int → Option Ord5) (n r : Nat) (f : Int → Option Value) (H : Int → HS) (reg : Nat → Int) (hM : BookM w b a F M n r f H reg) (id : Int) (hf : f id = none) :
    Calls Tryz.prog 101 #[.pointer (some ⟨b, 0, none⟩), .int .i64 id] w fun e w' => e = .returned (.tuple #[.agg #[.int .i64 0, .int .i64 0, .int .i64 0, .int .i64 0, .int .i64 0], errV 7]) ∧ Below w.heap.size w w' := by
  have hb0 : Below w.heap.size w (w.alloc (.cells #[.int .i64 0, .int .i64 0, .int .i64 0, .int .i64 0, .int .i64 0] 24)) := (Below.refl _ w).alloc (Nat.le_refl _) _
  have hM0 := hM.below hb0
  have hlk := map_look_none hM0.mp hf
  obtain ⟨y0, y1, y2, y3, y4, y5⟩ := hM0.cells
  have HR := hid (Blk.new w 24 #[.int .i64 0, .int .i64 0, .int .i64 0, .int .i64 0, .int .i64 0])
  have HB := hid hb0
  clear y0 y2 y3 y4 y5 hM hM0 hf hb0
  go_enter Tryz.func101, Tryz.ntmps101
  go_wp2_with fail
  refine cancel_ret (g := w.heap.size) (cs := #[.int .i64 0, .int .i64 0, .int .i64 0, .int .i64 0, .int .i64 0]) (v := errV 7) (by with_unfolding_all rfl) (by with_unfolding_all rfl) (by with_unfolding_all rfl) (Blk.alloc HR.out _) rfl ?_
  exact ⟨rfl, HB.out.alloc (by simp) _⟩
end Go.Proofs.YtkcgchpbjegneaaGreatDoor
