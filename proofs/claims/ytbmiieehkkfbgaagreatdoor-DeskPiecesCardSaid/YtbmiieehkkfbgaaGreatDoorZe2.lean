/- Contracts and walks that the law's proof needs. -/
import Derived.Test.YtbmiieehkkfbgaaGreatDoorZe1
import Derived.Test.YtbmiieehkkfbgaaGreatDoorZdLaw
import Derived.KernelRfl
import Derived.BigQuiet
import Derived.BigGuard
import Derived.WalkKit
import Derived.ChangeSame
import Derived.ChangeVars
import Derived.JoinedOf
import Derived.RowKit
import Derived.RowKitTokens
import Derived.LaidLaws
import Derived.LaidHandle
import Derived.Stop.Joined
import Derived.Lib.LaidTab
import Derived.Deep.DeepLaidRun
set_option linter.unusedVariables false
namespace Go.Proofs.YtbmiieehkkfbgaaGreatDoor
open Go Go.RowKit Go.Shelf
set_option linter.unusedVariables false

theorem splitSeq_any (s sep : ByteArray) (w : World) :
    Calls Tryz.prog 5 #[.string s, .string sep] w fun e w' => e = .returned (.func (.func 19) #[] #[.pointer (some ⟨w.heap.size + 1, 0, none⟩), .pointer (some ⟨w.heap.size, 0, none⟩), .pointer (some ⟨w.heap.size + 2, 0, none⟩)]) ∧
      w' = ((w.alloc (.cells #[.string s] 9)).alloc (.cells #[.string sep] 9)).alloc (.cells #[.int .i64 0] 3) := by
  have hmf : ∀ (fn : Fn) (first cap : Array Value) (w : World), (Instr.makeFunc fn first cap).run Tryz.prog w = .ok (.func fn first cap) w := fun _ _ _ _ => rfl
  go_enter Tryz.func5, Tryz.ntmps5
  go_wp2
  go_ret
  exact ⟨rfl, rfl⟩

theorem splitP_small : ∀ (l : Byt), (∀ x ∈ Qe4 l, x.length ≤ l.length) ∧ (Qe4 l).length ≤ l.length + 1
  | [] => ⟨fun x hx => by simp [Qe4] at hx; rw [hx]; exact Nat.le_refl _, by simp [Qe4]⟩
  | c :: l => by
    obtain ⟨h1, h2⟩ := splitP_small l
    rw [splitP_cons]
    split
    · refine ⟨fun x hx => ?_, by simp; omega⟩
      rcases List.mem_cons.1 hx with e | e
      · rw [e]; exact Nat.zero_le _
      · have := h1 x e; simp; omega
    · cases hs : Qe4 l with
      | nil => exact absurd hs (Kq5 l)
      | cons y ys =>
        rw [hs] at h1 h2
        refine ⟨fun x hx => ?_, by simp at h2 ⊢; omega⟩
        rcases List.mem_cons.1 hx with e | e
        · rw [e]
          have := h1 y List.mem_cons_self
          simp; omega
        · have := h1 x (List.mem_cons_of_mem _ e)
          simp; omega
theorem linesM_snoc (d : DS) (l : List Byt) (x : ByteArray) : Jf8 d (l ++ [x.data.toList]) = Jf8 d l ++ ((Ja0 (Jf9 d l) x).2 ++ [10]) ∧ Jf9 d (l ++ [x.data.toList]) = (Ja0 (Jf9 d l) x).1 := by
  have e : (⟨x.data.toList.toArray⟩ : ByteArray) = x := by rw [Array.toArray_toList]
  rw [Jd8, Xw3, e]
  refine ⟨?_, rfl⟩
  show Jf8 d l ++ ((Ja0 (Jf9 d l) ⟨x.data.toList.toArray⟩).2 ++ [10] ++ []) = _
  rw [e, List.append_nil]
structure SesJ (w : World) (pre : List Byt) (W : World) : Prop where
  ex : ∃ G p v, J1 W w.heap.size G pre.length (Jf9 ds0 pre) ∧ Bld W w.heap.size (w.heap.size + 1) p v (Jf8 ds0 pre) ∧
    (∀ i, G i → i = w.heap.size ∨ w.heap.size + 7 ≤ i) ∧ (∀ i, v.ownBlock = some i → w.heap.size + 7 ≤ i ∧ ¬ G i)
  len : (Jf8 ds0 pre).length ≤ pre.length * 10000000001
  low : Below w.heap.size w W
  size : w.heap.size + 7 ≤ W.heap.size
theorem SesJ.keeps {w W W' : World} {pre : List Byt} {S : Nat → Prop} (h : SesJ w pre W) (hk : QK S W W') (hS : ∀ i, S i → w.heap.size + 2 ≤ i ∧ i < w.heap.size + 7) : SesJ w pre W' := by
  obtain ⟨⟨G, p, v, h1, h2, h3, h4⟩, hl, hb, hz⟩ := h
  refine ⟨⟨G, p, v, h1.keeps hk (fun i hi e => ?_), h2.keeps hk (fun i hi e => ?_), h3, h4⟩, hl, hb.trans (hk.below (fun i hi => by have := hS i hi; omega) (by have := hb.size; omega)), Nat.le_trans hz hk.size⟩
  · have := h3 i hi
    have := hS i e
    omega
  · have := hS i e
    rcases hi with e1 | e1
    · omega
    · have := (h4 i e1).1; omega
theorem SesJ.line {w W : World} {pre : List Byt} (h : SesJ w pre W) (hg : Qk7 w) (hz : 9 ≤ w.heap.size) (x : ByteArray) (hx : x.size ≤ 30000) (hp : pre.length ≤ 5000) :
    Calls Tryz.prog 8 #[.pointer (some ⟨w.heap.size, 0, none⟩), .string x] W fun e W1 => e = .returned (.string ⟨(Ja0 (Jf9 ds0 pre) x).2.toArray⟩) ∧ (Ja0 (Jf9 ds0 pre) x).2.length ≤ 10000000000 ∧
      (∀ i, w.heap.size + 2 ≤ i → i < w.heap.size + 7 → W1.heap[i]? = W.heap[i]?) ∧ W.heap.size ≤ W1.heap.size ∧
      ∀ s : ByteArray, s.data.toList = (Ja0 (Jf9 ds0 pre) x).2 ++ [10] → Calls Tryz.prog 7 #[.pointer (some ⟨w.heap.size + 1, 0, none⟩), .string s] W1 fun e W2 =>
        (∃ k, e = .returned (.tuple #[.int .i64 k, .nilIface])) ∧ SesJ w (pre ++ [x.data.toList]) W2 ∧ (∀ i, w.heap.size + 2 ≤ i → i < w.heap.size + 7 → W2.heap[i]? = W1.heap[i]?) := by
  obtain ⟨⟨G, p, v, h1, h2, h3, h4⟩, hl, hb, hsz⟩ := h
  obtain ⟨e1, e2⟩ := linesM_snoc ds0 pre x
  refine (Zm4 (w := W) (d := w.heap.size) (G := G) (k := pre.length) (s := Jf9 ds0 pre) (t := x) ⟨h1, hg.below hb hz, Nat.le_trans hz hb.size, fun i hi => by have := h3 i hi; omega, hx, by omega⟩).mono ?_
  rintro e W1 ⟨rfl, hlen, G', hd, hk, hnew⟩
  have hG' : ∀ i, G' i → i = w.heap.size ∨ w.heap.size + 7 ≤ i := fun i hi => by
    rcases hnew i hi with e | e
    · exact h3 i e
    · omega
  have hb1 : Bld W1 w.heap.size (w.heap.size + 1) p v (Jf8 ds0 pre) := h2.keeps hk (fun i hi e => by
    rcases hi with e3 | e3
    · have := h3 i e; omega
    · exact (h4 i e3).2 e)
  refine ⟨rfl, hlen, fun i hi1 hi2 => hk.block i (by omega) (fun e => by have := h3 i e; omega), hk.size, fun s hs => ?_⟩
  have hss : s.size = (Ja0 (Jf9 ds0 pre) x).2.length + 1 := by rw [Lib.size_eq, hs, List.length_append]; rfl
  refine (write_any hb1 s ?_).mono ?_
  · have h5 : pre.length * 10000000001 ≤ 5000 * 10000000001 := Nat.mul_le_mul_right _ hp
    omega
  rintro e W2 ⟨rfl, v', hb2, hk2, hn2⟩
  have hv1 : ∀ i, v.ownBlock = some i → i < W.heap.size := fun i hi => (h2.lt (.inr hi)).2
  refine ⟨⟨_, rfl⟩, ⟨⟨G', some ⟨w.heap.size + 1, 0, none⟩, v', ?_, ?_, hG', fun i hi => ?_⟩, ?_, ?_, ?_⟩, fun i hi1 hi2 => hk2.block i (by have := hk.size; omega) (fun e => ?_)⟩
  · rw [e2, List.length_append]
    refine hd.keeps hk2 (fun i hi e => ?_)
    rcases e with e | e
    · have := hG' i hi; omega
    · rcases hnew i hi with e3 | e3
      · exact (h4 i e).2 e3
      · have := hv1 i e; omega
  · rw [e1, ← hs]; exact hb2
  · rcases hn2 i (.inr hi) with e | e
    · rcases e with e | e
      · exact absurd hi (e ▸ hb2.far)
      · refine ⟨(h4 i e).1, fun hg' => ?_⟩
        rcases hnew i hg' with e3 | e3
        · exact (h4 i e).2 e3
        · have := hv1 i e; omega
    · refine ⟨by have := hk.size; omega, fun hg' => ?_⟩
      have := hd.lt i hg'
      omega
  · rw [e1, List.length_append, List.length_append, List.length_append]
    simp only [List.length_cons, List.length_nil]
    omega
  · have q1 : Below w.heap.size W W1 := hk.below (fun i hi => by have := h3 i hi; omega) hb.size
    have q2 : Below w.heap.size W1 W2 := hk2.below (fun i hi => (hb1.lt hi).1) (Nat.le_trans hb.size hk.size)
    exact hb.trans (q1.trans q2)
  · have := hk.size
    have := hk2.size
    omega
  · rcases e with e | e
    · omega
    · have := (h4 i e).1; omega

theorem five_blocks (w : World) (t1 t2 t3 t4 t5 : TypeId) (c1 c2 c3 c4 c5 : Array Value) :
    let W := ((((w.alloc (.cells c1 t1)).alloc (.cells c2 t2)).alloc (.cells c3 t3)).alloc (.cells c4 t4)).alloc (.cells c5 t5)
    QJ W w.heap.size t1 c1 ∧ QJ W (w.heap.size + 1) t2 c2 ∧ QJ W (w.heap.size + 2) t3 c3 ∧ QJ W (w.heap.size + 3) t4 c4 ∧ QJ W (w.heap.size + 4) t5 c5 ∧ W.heap.size = w.heap.size + 5 ∧ Below w.heap.size w W := by
  intro W
  have h1 := QJ.alloc (QJ.alloc (QJ.alloc (QJ.alloc (QJ.new w t1 c1) (.cells c2 t2)) (.cells c3 t3)) (.cells c4 t4)) (.cells c5 t5)
  have h2 := QJ.alloc (QJ.alloc (QJ.alloc (QJ.new (w.alloc (.cells c1 t1)) t2 c2) (.cells c3 t3)) (.cells c4 t4)) (.cells c5 t5)
  have h3 := QJ.alloc (QJ.alloc (QJ.new ((w.alloc (.cells c1 t1)).alloc (.cells c2 t2)) t3 c3) (.cells c4 t4)) (.cells c5 t5)
  have h4 := QJ.alloc (QJ.new (((w.alloc (.cells c1 t1)).alloc (.cells c2 t2)).alloc (.cells c3 t3)) t4 c4) (.cells c5 t5)
  have h5 := QJ.new ((((w.alloc (.cells c1 t1)).alloc (.cells c2 t2)).alloc (.cells c3 t3)).alloc (.cells c4 t4)) t5 c5
  simp only [World.size_alloc] at h2 h3 h4 h5
  exact ⟨h1, h2, h3, h4, h5, by simp [W], ((((((Below.refl _ w).alloc (Nat.le_refl _) _).alloc (by simp) _).alloc (by simp; omega) _).alloc (by simp; omega) _).alloc (by simp; omega) _)⟩

attribute [local go_sem] Oper.semAt_some
set_option maxRecDepth 100000 in
set_option maxHeartbeats 8000000 in
theorem session_in (n : Nat) (hn : 6 ≤ n) (t : ByteArray) (ht : t.size ≤ 3000) (w : World) (hg : Qk7 w) (hz : 9 ≤ w.heap.size) :
    CallsIn Fence.wide n Tryz.prog 4 #[.string t] w fun e w' => e = .returned (.string ⟨(Jz8 t.data.toList).toArray⟩) ∧ Below w.heap.size w w' := by
  have h1 : 1 ≤ n := by omega
  have hw6 : Fence.wide.fn 6 := trivial
  have hw5 : Fence.wide.fn 5 := trivial
  have HG := QQ hg
  obtain ⟨q, hq⟩ : ∃ q : ByteArray, ⟨(Lib.trimSuffix t.data.toList [10]).toArray⟩ = q := ⟨_, rfl⟩
  have HQ := QQ hq
  have HT := QQ (fun W => Zn3 t ⟨#[10]⟩ W (by omega))
  have htz : ¬ (20000 : Int) < (t.size : Int) := by omega
  clear hg hq
  refine callsIn_of_wp_marks Tryz.func4 rfl trivial ?_ rfl
  simp only [Tryz.ntmps4, List.size_toArray, List.length_cons, List.length_nil, Nat.reduceAdd, Nat.reduceSub, Array.replicate_succ, Array.replicate_zero, List.push_toArray, List.append_toArray, List.nil_append, List.cons_append]
  gi_wp2_with (first
    | (gi_at_call 6; refine (callsIn_wide.2 (HT.out _)).mono ?_; rintro e w1 ⟨he, rfl⟩; replace he := he.trans (congrArg (fun x => Ending.returned (.string x)) HQ.out); subst he)
    | (gi_at_call 5; refine (callsIn_wide.2 (splitSeq_any q _ _)).mono ?_; rintro e w1 ⟨rfl, rfl⟩))
  obtain ⟨b1, b2, b3, b4, b5, hsz0, hb0⟩ := five_blocks w 29 33 9 9 3 #[.slice none 0 0, .int .i64 0, .int .i64 0, .int .i64 0, .int .i64 0, .int .i64 0, .pointer none] #[.pointer none, .slice none 0 0] #[.string q] #[.string ⟨#[10]⟩] #[.int .i64 0]
  obtain ⟨W0, hW0⟩ : ∃ W0, (((((w.alloc (.cells #[.slice none 0 0, .int .i64 0, .int .i64 0, .int .i64 0, .int .i64 0, .int .i64 0, .pointer none] 29)).alloc (.cells #[.pointer none, .slice none 0 0] 33)).alloc (.cells #[.string q] 9)).alloc (.cells #[.string ⟨#[10]⟩] 9)).alloc (.cells #[.int .i64 0] 3)) = W0 := ⟨_, rfl⟩
  rw [hW0] at b1 b2 b3 b4 b5 hsz0 hb0 ⊢
  clear hW0
  have hqs : q.size ≤ 3000 := by
    rw [← HQ.out]
    have : (Lib.trimSuffix t.data.toList [10]).length ≤ t.data.toList.length := by
      unfold Lib.trimSuffix
      split
      · rw [List.length_take]; omega
      · exact Nat.le_refl _
    rw [Lib.size_eq] at ht ⊢
    exact Nat.le_trans (by simpa using this) ht
  have HS0 := QQ (show ∀ o o', SesJ w [] ((W0.alloc o).alloc o') from fun o o' => by
    have hk : Below W0.heap.size W0 ((W0.alloc o).alloc o') := ((Below.refl _ _).alloc (Nat.le_refl _) _).alloc (by simp) _
    refine ⟨⟨fun i => i = w.heap.size, none, .slice none 0 0, Ja3.at_ ⟨none, 0, b1.keep hk, World.ownsRow_nil _ _ _ _, fun i hi => (by cases hi), fun i => ⟨.inl, fun h => h.elim id (fun e => (by cases e))⟩⟩ rfl, ⟨Nat.le_succ _, b2.keep hk, ⟨rfl, .inl ⟨rfl, rfl⟩⟩, fun e => (by cases e), .inl rfl⟩, fun i hi => .inl hi, fun i hi => (by cases hi)⟩, Nat.zero_le _, hb0.trans (hk.mono hb0.size), by simp; omega⟩)
  refine range_split n (by omega) q (by omega) (w.heap.size + 3) (w.heap.size + 2) (w.heap.size + 4) rfl rfl b4 b3 b5 (by omega) (by omega) (SesJ w)
    (fun pre W W' h hk => h.keeps hk (fun i hi => by omega)) HS0.out
    (fun x => { tmps := #[.string t, undef, .string ⟨#[]⟩, .pointer (some ⟨w.heap.size, 0, none⟩), .pointer (some ⟨w.heap.size + 1, 0, none⟩), .string x, .string t, .int .i64 t.size, .bool false, .agg #[.slice none 0 0, .int .i64 0, .int .i64 0, .int .i64 0, .int .i64 0, .int .i64 0, .pointer none], .string t, .string q, .func (.func 19) #[] #[.pointer (some ⟨w.heap.size + 3, 0, none⟩), .pointer (some ⟨w.heap.size + 2, 0, none⟩), .pointer (some ⟨w.heap.size + 4, 0, none⟩)], .string x, undef, undef, undef, undef, undef], defers := [] }) ?assign ?body ?done
  case assign =>
    intro l x W K hK
    gi_wp2
    exact hK
  case body =>
    intro pre x rest W hi hsp
    have hxs := (splitP_small q.data.toList).1 x.data.toList (by rw [hsp]; simp)
    have hpl := (splitP_small q.data.toList).2
    rw [hsp, List.length_append, List.length_cons] at hpl
    rw [← Lib.size_eq] at hxs hpl
    rw [← Lib.size_eq] at hxs
    have HL := QQ (hi.line HG.out hz x (by omega) (by omega))
    obtain ⟨r, hr⟩ : ∃ r, (Ja0 (Jf9 ds0 pre) x).2 = r := ⟨_, rfl⟩
    rw [hr] at HL
    have hw8 : Fence.wide.fn 8 := trivial
    have hw7 : Fence.wide.fn 7 := trivial
    have h1' : 1 ≤ n - 1 - 1 := by omega
    obtain ⟨rb, hrb⟩ : ∃ rb : ByteArray, ⟨r.toArray⟩ = rb := ⟨_, rfl⟩
    rw [hrb] at HL
    have hrz : rb.data.toList = r := by rw [← hrb]
    clear hi hr hsp
    gi_wp2_with (first
      | (gi_at_call 8; refine (CallsIn.inRound _ (callsIn_wide.2 HL.out)).mono ?_; rintro e W1 ⟨rfl, hrl, hkp1, hsz1, hwr⟩; have hrs : rb.size ≤ 10000000000 := (by rw [Lib.size_eq, hrz]; exact hrl); have HW := QQ hwr; have HK1 := QQ hkp1; clear hwr hkp1 hrl)
      | (gi_at_call 7; refine (CallsIn.inRound _ (callsIn_wide.2 (HW.out _ (by simp [hrz])))).mono ?_; rintro e W2 ⟨⟨kk, rfl⟩, hJ2, hkp2⟩))
    exact ⟨HK1.out _ (by omega) (by omega), HK1.out _ (by omega) (by omega), HK1.out _ (by omega) (by omega), HK1.out _ (by omega) (by omega), HK1.out _ (by omega) (by omega)⟩
  case done =>
    intro W hi hD
    obtain ⟨G, p, v, -, hb, -, -⟩ := hi.ex
    have HSt := QQ (Zm5 w.heap.size (w.heap.size + 1) _ W hb.is hi.low.size)
    have HLow := QQ hi.low
    have hw9 : Fence.wide.fn 9 := trivial
    obtain ⟨r, hr⟩ : ∃ r : ByteArray, ⟨(Jf8 ds0 (Qe4 q.data.toList)).toArray⟩ = r := ⟨_, rfl⟩
    rw [hr] at HSt
    have HR := QQ hr
    clear hi hb hr
    gi_wp2_with (gi_at_call 9; refine (callsIn_wide.2 HSt.out).mono ?_; rintro e W2 ⟨rfl, -, hB2, hO2⟩)
    have hD' : W.heap[w.heap.size + 5]? = some (.deferred (some [])) := by rw [← hsz0]; exact hD
    have hD2 := hO2 (w.heap.size + 5) _ hD' (by simp) (fun c fz e => by cases e)
    refine ⟨by simp, .inl ⟨_, _, rfl, run_takeDeferred hD2, ?_⟩⟩
    have hses : Jz8 t.data.toList = Jf8 ds0 (Qe4 q.data.toList) := by
      unfold Jz8
      rw [← Lib.size_eq, if_neg (by omega), ← HQ.out]
    refine ⟨_, results_tmp rfl _ _ _, ?_, ?_⟩
    · rw [hses, HR.out]
      rfl
    · exact (HLow.out.trans hB2).trans ((keeps_putObj W2 (w.heap.size + 5) _).below (fun i hi => by have hi : i = w.heap.size + 5 := hi; omega) (Nat.le_trans HLow.out.size hB2.size))
theorem session_any (t : ByteArray) (ht : t.size ≤ 3000) (w : World) (hg : Qk7 w) (hz : 9 ≤ w.heap.size) :
    Calls Tryz.prog 4 #[.string t] w fun e w' => e = .returned (.string ⟨(Jz8 t.data.toList).toArray⟩) ∧ Below w.heap.size w w' :=
  callsIn_wide.1 (session_in 6 (by omega) t ht w hg hz)
end Go.Proofs.YtbmiieehkkfbgaaGreatDoor
namespace Go.Proofs.YtbmiieehkkfbgaaGreatDoor
open Go Go.RowKit
set_option linter.unusedVariables false

theorem dec_small {u : Nat} (h : u < 10) : Lib.decDigits u = [UInt8.ofNat (48 + u)] := by rw [Lib.decDigits, dif_pos h]
theorem dec_big {u : Nat} (h : ¬ u < 10) : Lib.decDigits u = Lib.decDigits (u / 10) ++ [UInt8.ofNat (48 + u % 10)] := by rw [Lib.decDigits, dif_neg h]
theorem itoa_50 : Lib.itoa 50 = [53, 48] := by
  show Lib.decDigits 50 = _
  rw [dec_big (by decide), dec_small (by decide)]; rfl
theorem itoa_45 : Lib.itoa 45 = [52, 53] := by
  show Lib.decDigits 45 = _
  rw [dec_big (by decide), dec_small (by decide)]; rfl
theorem itoa_55 : Lib.itoa 55 = [53, 53] := by
  show Lib.decDigits 55 = _
  rw [dec_big (by decide), dec_small (by decide)]; rfl
theorem itoa_3 : Lib.itoa 3 = [51] := by
  show Lib.decDigits 3 = _
  rw [dec_small (by decide)]; rfl
theorem itoa_1000 : Lib.itoa 1000 = [49, 48, 48, 48] := by
  show Lib.decDigits 1000 = _
  rw [dec_big (by decide), dec_big (by decide), dec_big (by decide), dec_small (by decide)]; rfl
theorem words_1 : Lib.goFieldsP Qg5 ⟨#[98, 97, 110, 100, 32, 53, 48, 32, 49, 48, 48, 48]⟩ = [⟨#[98, 97, 110, 100]⟩, ⟨#[53, 48]⟩, ⟨#[49, 48, 48, 48]⟩] := by kernel_rfl
theorem words_2 : Lib.goFieldsP Qg5 ⟨#[120]⟩ = [⟨#[120]⟩] := by kernel_rfl
theorem num_50 : Jj5 ⟨#[53, 48]⟩ = some 50 := by
  unfold Jj5
  have h : Lib.atoiAll ((⟨#[53, 48]⟩ : ByteArray)).data.toList = .ok 50 := by kernel_rfl
  rw [h]
  simp only [itoa_50, if_true]
theorem num_1000 : Jj5 ⟨#[49, 48, 48, 48]⟩ = some 1000 := by
  unfold Jj5
  have h : Lib.atoiAll ((⟨#[49, 48, 48, 48]⟩ : ByteArray)).data.toList = .ok 1000 := by kernel_rfl
  rw [h]
  simp only [itoa_1000, if_true]
theorem line_1 : Ja0 ds0 ⟨#[98, 97, 110, 100, 32, 53, 48, 32, 49, 48, 48, 48]⟩ = (ds0, [52, 53, 32, 53, 53]) := by
  unfold Ja0
  rw [words_1]
  have hc : Qj4 ⟨#[98, 97, 110, 100]⟩ = 1 := by kernel_rfl
  unfold Zk4
  dsimp only
  rw [hc, if_pos (by decide)]
  show ((Jq9 ds0 [⟨#[53, 48]⟩, ⟨#[49, 48, 48, 48]⟩]).1, Zm0 (Jq9 ds0 [⟨#[53, 48]⟩, ⟨#[49, 48, 48, 48]⟩]).2) = _
  have hn : XV [⟨#[53, 48]⟩, ⟨#[49, 48, 48, 48]⟩] 2 = some [50, 1000] := by
    unfold XV
    rw [if_neg (by decide)]
    simp only [Qd7, num_50, num_1000, Option.map]
  have hb : Jq9 ds0 [⟨#[53, 48]⟩, ⟨#[49, 48, 48, 48]⟩] = (ds0, .ok [52, 53, 32, 53, 53]) := by
    unfold Jq9 ZK
    rw [hn]
    have h1 : Qg6 50 1000 = 0 := by decide
    have h2 : I3 50 1000 = 45 := by decide
    have h3 : I4 50 1000 = 55 := by decide
    show (ds0, Jr8 (Qg6 50 1000) (Z9 [I3 50 1000, I4 50 1000])) = _
    rw [h1, h2, h3]
    unfold Z9
    simp only [List.map, itoa_45, itoa_55]
    rfl
  rw [hb]
  rfl
theorem line_2 : Ja0 ds0 ⟨#[120]⟩ = (ds0, [101, 114, 114, 111, 114, 32, 51]) := by
  unfold Ja0
  rw [words_2]
  have hc : Qj4 ⟨#[120]⟩ = 18 := by kernel_rfl
  unfold Zk4
  dsimp only
  rw [hc, if_neg (by decide)]
  unfold Jz7
  rw [itoa_3]
  rfl
theorem chosen_session : Jz8 [98, 97, 110, 100, 32, 53, 48, 32, 49, 48, 48, 48, 10, 120, 10] = [52, 53, 32, 53, 53, 10, 101, 114, 114, 111, 114, 32, 51, 10] := by
  unfold Jz8
  rw [if_neg (by decide)]
  have h : Qe4 (Lib.trimSuffix [98, 97, 110, 100, 32, 53, 48, 32, 49, 48, 48, 48, 10, 120, 10] [10]) = [[98, 97, 110, 100, 32, 53, 48, 32, 49, 48, 48, 48], [120]] := by kernel_rfl
  rw [h]
  simp only [Jf8]
  rw [show (⟨([98, 97, 110, 100, 32, 53, 48, 32, 49, 48, 48, 48] : List UInt8).toArray⟩ : ByteArray) = ⟨#[98, 97, 110, 100, 32, 53, 48, 32, 49, 48, 48, 48]⟩ from rfl, show (⟨([120] : List UInt8).toArray⟩ : ByteArray) = ⟨#[120]⟩ from rfl, line_1]
  dsimp only
  rw [line_2]
  rfl
theorem chosen_x : Jz8 [120, 10] = [101, 114, 114, 111, 114, 32, 51, 10] := by
  unfold Jz8
  rw [if_neg (by decide)]
  have h : Qe4 (Lib.trimSuffix [120, 10] [10]) = [[120]] := by kernel_rfl
  rw [h]
  simp only [Jf8]
  rw [show (⟨([120] : List UInt8).toArray⟩ : ByteArray) = ⟨#[120]⟩ from rfl, line_2]
  rfl
end Go.Proofs.YtbmiieehkkfbgaaGreatDoor
namespace Go.Proofs.YtbmiieehkkfbgaaGreatDoor
open Go Go.RowKit
set_option linter.unusedVariables false

theorem app_data (a b : ByteArray) : (a ++ b).data.toList = a.data.toList ++ b.data.toList := by simp
theorem piece_eq {xs ys : ByteArray} {tl : Byt} (h : ys.data.toList = xs.data.toList ++ tl) : ((ys.extract 0 xs.size).toList == xs.toList) = true ∧ xs.size ≤ ys.size := by
  refine ⟨?_, ?_⟩
  · rw [ByteArray.toList_eq, ByteArray.toList_eq, bytes_take, h, Lib.size_eq, List.take_left]
    exact beq_self_eq_true _
  · rw [Lib.size_eq, Lib.size_eq, h, List.length_append]
    omega
set_option maxRecDepth 100000 in
set_option maxHeartbeats 4000000 in
theorem deskPieces_any (a b : ByteArray) (w : World) (ha : a.size ≤ 140737488355328) (hb : b.size ≤ 140737488355328) (hg : Qk7 w) (hz : 9 ≤ w.heap.size) :
    Calls Tryz.prog 3 #[.string a, .string b] w fun e w' => e = .returned (.bool true) ∧ Below w.heap.size w w' := by
  by_cases hs : a.size + b.size ≤ 2500
  · have hsz : ¬ (2500 : Int) < (a.size : Int) + (b.size : Int) := by omega
    have hsw : IntKind.i64.wrap ((a.size : Int) + (b.size : Int)) = (a.size : Int) + (b.size : Int) := by rw [IntKind.wrap_i64]; omega
    have hsa : a.size ≤ 2500 := by omega
    have hsb : b.size ≤ 2500 := by omega
    obtain ⟨tl, htl⟩ := Za7 (a := a.data.toList) (b := b.data.toList) (by rw [← Lib.size_eq, ← Lib.size_eq]; exact hs)
    have S0 := session_any ⟨#[98, 97, 110, 100, 32, 53, 48, 32, 49, 48, 48, 48, 10, 120, 10]⟩ (by decide) w hg hz
    rw [show Jz8 ((⟨#[98, 97, 110, 100, 32, 53, 48, 32, 49, 48, 48, 48, 10, 120, 10]⟩ : ByteArray)).data.toList = [52, 53, 32, 53, 53, 10, 101, 114, 114, 111, 114, 32, 51, 10] from chosen_session] at S0
    obtain ⟨xs, hxs⟩ : ∃ xs : ByteArray, ⟨(Jz8 (a ++ ⟨#[10]⟩).data.toList).toArray⟩ = xs := ⟨_, rfl⟩
    obtain ⟨ys, hys⟩ : ∃ ys : ByteArray, ⟨(Jz8 (a ++ ⟨#[10]⟩ ++ b).data.toList).toArray⟩ = ys := ⟨_, rfl⟩
    have hya : ys.data.toList = xs.data.toList ++ tl := by
      rw [← hys, ← hxs, app_data, app_data, List.append_assoc]
      exact htl
    have S1 := QQ (fun W (hW : Qk7 W) (hZ : 9 ≤ W.heap.size) => session_any (a ++ ⟨#[10]⟩) (by rw [ByteArray.size_append]; show a.size + 1 ≤ _; omega) W hW hZ)
    have S2 := QQ (fun W (hW : Qk7 W) (hZ : 9 ≤ W.heap.size) => session_any (a ++ ⟨#[10]⟩ ++ b) (by rw [ByteArray.size_append, ByteArray.size_append]; show a.size + 1 + b.size ≤ _; omega) W hW hZ)
    rw [hxs] at S1
    rw [hys] at S2
    obtain ⟨heq, hle⟩ := piece_eq hya
    have hleI : (xs.size : Int) ≤ (ys.size : Int) := by omega
    have hx0 : (0 : Int) ≤ (xs.size : Int) := by omega
    have HS0 := QQ S0
    have HG := QQ hg
    have hdec : decide ((xs.size : Int) ≤ (ys.size : Int)) = true := decide_eq_true hleI
    clear S0 hys hxs hya htl hs hg
    go_enter Tryz.func3, Tryz.ntmps3
    go_wp2_with fail
    refine HS0.out.mono ?_
    rintro e w1 ⟨rfl, hB1⟩
    have HG1 := QQ (HG.out.below hB1 hz)
    have HZ1 := QQ (Nat.le_trans hz hB1.size)
    have HB1 := QQ hB1
    clear hB1
    go_wp2_with fail
    refine (S1.out w1 HG1.out HZ1.out).mono ?_
    rintro e w2 ⟨rfl, hB2⟩
    have HG2 := QQ (HG1.out.below hB2 HZ1.out)
    have HZ2 := QQ (Nat.le_trans HZ1.out hB2.size)
    have HB2 := QQ hB2
    clear hB2
    go_wp2_with fail
    refine (S2.out w2 HG2.out HZ2.out).mono ?_
    rintro e w3 ⟨rfl, hB3⟩
    have HB3 := QQ hB3
    clear hB3
    go_wp2_with fail
    go_ret
    exact ⟨rfl, HB1.out.trans ((HB2.out.trans (HB3.out.mono HB2.out.size)).mono HB1.out.size)⟩
  · have hsz : (2500 : Int) < (a.size : Int) + (b.size : Int) := by omega
    clear hs
    have hsw : IntKind.i64.wrap ((a.size : Int) + (b.size : Int)) = (a.size : Int) + (b.size : Int) := by rw [IntKind.wrap_i64]; omega
    go_enter Tryz.func3, Tryz.ntmps3
    go_wp2_with fail
    go_ret
    exact ⟨rfl, Below.refl _ _⟩
end Go.Proofs.YtbmiieehkkfbgaaGreatDoor
namespace Go.Proofs.YtbmiieehkkfbgaaGreatDoor
open Go Go.ChangeShapes Go.WideShapes Go.RowKit

def deskLaid : List (String × DataW Unit) := [("math/bits.deBruijn32tab", Rows.laid_math_bits_deBruijn32tab), ("math/bits.deBruijn64tab", Rows.laid_math_bits_deBruijn64tab), ("internal/strconv.uint64pow10", Rows.laid_internal_strconv_uint64pow10), ("unicode/utf8.acceptRanges", Rows.laid_unicode_utf8_acceptRanges), ("errors.errorType", Rows.laid_errors_errorType), ("strconv.ErrRange", Rows.laid_strconv_ErrRange), ("strconv.ErrSyntax", Rows.laid_strconv_ErrSyntax), ("unicode/utf8.first", Rows.laid_unicode_utf8_first)]
def deskData : List (String × DataW Unit) := [("math/bits.deBruijn32tab", Rows.laid_math_bits_deBruijn32tab), ("math/bits.deBruijn64tab", Rows.laid_math_bits_deBruijn64tab), ("internal/strconv.uint64pow10", Rows.laid_internal_strconv_uint64pow10), ("unicode/utf8.acceptRanges", Rows.laid_unicode_utf8_acceptRanges), ("strconv.ErrRange", Rows.laid_strconv_ErrRange), ("strconv.ErrSyntax", Rows.laid_strconv_ErrSyntax), ("unicode/utf8.first", Rows.laid_unicode_utf8_first)]
theorem deskH {W : World} (h : laidMetH Tryz.prog deskLaid W) : laidMet Tryz.prog deskData W ∧ handlesMet Tryz.prog [("errors.errorType", Rows.laid_errors_errorType)] W := h
theorem et : Tryz.prog.globalNamed "errors.errorType" = some 3 := by kernel_rfl
theorem rt : (Tryz.prog.cutTypes.find? (·.1 == "internal/reflectlite.rtype")).map (·.2) = some 204 := by kernel_rfl
theorem oneRow : ((List.range 315).filter fun t => Tryz.prog.rowNamed t [101, 114, 114, 111, 114]) = [39] := by kernel_rfl
theorem typesSize : Tryz.prog.types.size = 315 := by kernel_rfl
theorem gtypes : (Tryz.prog.globals[4]?).map (·.type) = some 162 ∧ (Tryz.prog.globals[7]?).map (·.type) = some 39 ∧ (Tryz.prog.globals[8]?).map (·.type) = some 39 := ⟨by kernel_rfl, by kernel_rfl, by kernel_rfl⟩
theorem tab20 : Tryz.prog.cellsOf 162 = 20 ∧ Tryz.prog.cellsOf 108 = 1 := ⟨by kernel_rfl, by kernel_rfl⟩
theorem laid_tail {P : Program} {w : World} {x : String × DataW Unit} {l : List (String × DataW Unit)} {ps : List MemPlace} (h : DataW.LaidVars P w (x :: l) ps) : ∃ q, DataW.LaidVars P w l q := by
  obtain ⟨n, d⟩ := x
  obtain ⟨g, t, cs, fuel, p, q, -, -, -, -, h5, -⟩ := h
  exact ⟨q, h5⟩
theorem pow_laid {W : World} {rest : List (String × DataW Unit)} {ps : List MemPlace} (h : DataW.LaidVars Tryz.prog W (("internal/strconv.uint64pow10", Rows.laid_internal_strconv_uint64pow10) :: rest) ps) : Lib.TabIs Tryz.prog W "internal/strconv.uint64pow10" .u64 Lib.pow10Tab := by
  obtain ⟨g', t', cs, fuel, p, q, hg', ht', hvar, hd, -, -⟩ := h
  obtain rfl := Option.some.inj (Ku3.symm.trans hg')
  obtain rfl := Option.some.inj (gtypes.1.symm.trans ht')
  have hd' : DataW.trod (fun _ => ()) Tryz.prog W 0 (fun _ => true) false fuel 162 cs.toList = some (Lib.tabData .u64 Lib.pow10Tab, p) := hd
  unfold Lib.TabIs
  rw [hvar, ← Lib.cells_of_tab Tryz.underlying162 Tryz.underlying108 tab20.2 tab20.1 hd']
theorem err_laid {W : World} {nm tn : String} {d : DataW Unit} {g : Nat} {rest : List (String × DataW Unit)} {ps : List MemPlace} (hg : Tryz.prog.globalNamed nm = some g) (ht : (Tryz.prog.globals[g]?).map (·.type) = some 39)
    (h : DataW.LaidVars Tryz.prog W ((nm, .iface tn d) :: rest) ps) : ∃ tp p, W.var? Tryz.prog nm = some #[.iface tp p] := by
  obtain ⟨g', t', cs, fuel, p, q, hg', ht', hvar, hd, -, -⟩ := h
  obtain rfl := Option.some.inj (hg.symm.trans hg')
  obtain rfl := Option.some.inj (ht.symm.trans ht')
  obtain ⟨fuel', u, v, hc, -, -⟩ := iface_of_trod Tryz.underlying39 hd
  refine ⟨u, v, ?_⟩
  rw [hvar]
  exact congrArg some (Array.toList_inj.1 hc)
theorem glob_of_laid {W : World} (h : laidMetH Tryz.prog deskLaid W) : Qk7 W := by
  obtain ⟨⟨ps, hl, -, -⟩, hh⟩ := deskH h
  obtain ⟨p1, h1⟩ := laid_tail hl
  obtain ⟨p2, h2⟩ := laid_tail h1
  obtain ⟨p3, h3⟩ := laid_tail h2
  obtain ⟨p4, h4⟩ := laid_tail h3
  obtain ⟨p5, h5⟩ := laid_tail h4
  refine ⟨?_, pow_laid h2, err_laid Ku4 gtypes.2.1 h5, err_laid Ku5 gtypes.2.2 h4⟩
  obtain ⟨name, u, ty, e1, e2, e3, e4, e5⟩ := hh _ (List.mem_singleton.2 rfl)
  have en : name = [101, 114, 114, 111, 114] := (Option.some.inj e1).symm
  subst en
  obtain rfl := Option.some.inj (rt.symm.trans e2)
  have hm : ty ∈ (List.range 315).filter fun t => Tryz.prog.rowNamed t [101, 114, 114, 111, 114] := List.mem_filter.2 ⟨List.mem_range.2 (by rw [← typesSize]; exact e3), e4⟩
  rw [oneRow] at hm
  obtain rfl := List.mem_singleton.1 hm
  have hh : typeHandle Tryz.prog 39 = .pointer (some ⟨9, 39, none⟩) := by kernel_rfl
  rw [hh] at e5
  have := World.var?_cell et e5 0
  simpa [Qk4] using this

def litV : DataW Unit → Value
  | .lit (.int k n) => .int k n
  | _ => .int .u8 0
def rowV : DataW Unit → Array Value
  | .agg l => (l.map litV).toArray
  | _ => #[]
def rowsV : DataW Unit → Array Value
  | .agg l => (l.flatMap fun d => (rowV d).toList).toArray
  | _ => #[]
def putG (h : Array Obj) (g : Nat) (cs : Array Value) : Array Obj := h.modify g fun
  | .cells _ t frozen => .cells cs t frozen
  | o => o
abbrev synS : ByteArray := { data := #[105, 110, 118, 97, 108, 105, 100, 32, 115, 121, 110, 116, 97, 120] }
abbrev rngS : ByteArray := { data := #[118, 97, 108, 117, 101, 32, 111, 117, 116, 32, 111, 102, 32, 114, 97, 110, 103, 101] }
noncomputable def low : Nat := (World.holding Tryz.prog default ⟨#[], #[], []⟩).heap.size
noncomputable def deskWorld (os : Os) : World :=
  let w0 := World.holding Tryz.prog os ⟨#[.cells #[.string synS] 282, .cells #[.string rngS] 282], #[], []⟩
  { w0 with heap := putG (putG (putG (putG (putG (putG (putG (putG w0.heap 3 #[.iface 204 (.agg #[.pointer (some ⟨9, 39, none⟩)])])
      7 #[.iface 280 (.pointer (some ⟨low, 0, none⟩))]) 8 #[.iface 280 (.pointer (some ⟨low + 1, 0, none⟩))])
      4 (rowV Rows.laid_internal_strconv_uint64pow10)) 5 (rowV Rows.laid_math_bits_deBruijn32tab)) 6 (rowV Rows.laid_math_bits_deBruijn64tab))
      1 (rowsV Rows.laid_unicode_utf8_acceptRanges)) 0 (rowV Rows.laid_unicode_utf8_first) }
theorem deskWorld_met (os : Os) (args : Array Value) : laidMetH Tryz.prog deskLaid ((deskWorld os).forCall (fun _ _ => 0) ⟨#[], args, []⟩).memory :=
  laidMetH_of_parts (laidMet_of_run3 8 (by kernel_rfl) (by kernel_rfl) (by kernel_rfl)) (by kernel_rfl)
end Go.Proofs.YtbmiieehkkfbgaaGreatDoor
