/-
  Walks of slices.IndexFunc, DeleteFunc at arena.Handle, and of what Book.Cancel hands to them.
-/
import Derived.WalkKit
import Derived.WalkLawsBesides
import Derived.WalkSpells
import Derived.Deep.QuietTactic
import Derived.BigQuiet
import Derived.Deep.LoopGhost
import Derived.Deep.DeepCutAuto
import Derived.Deep.CutBlock
import Derived.Shelf.Abstract
import Derived.Laws.EntriesVeiled
import Derived.Test.YtkcgchpbjegneaaGreatDoorRows
import Derived.Test.YtkcgchpbjegneaaGreatDoorMem
import Derived.Test.YtkcgchpbjegneaaGreatDoorQueue
namespace Go.Proofs.YtkcgchpbjegneaaGreatDoor
open Go.RowKit
set_option linter.unusedVariables false

def aggH (h : Int × Int) : Value := .agg #[.int .i64 h.1, .int .i64 h.2]
section
variable {w : World} {A : Option Addr} {len : Nat} {ps : List (Int × Int)}
theorem hnd_at {b off : Nat} (h : ElemsAt w encH 2 (some ⟨b, off, none⟩) len ps) {i : Nat} (hi : i < ps.length) :
    w.cell? ⟨b, off + i * 2, none⟩ = some (.int .i64 ps[i].1) ∧ w.cell? ⟨b, off + i * 2 + 1, none⟩ = some (.int .i64 ps[i].2) := ⟨h.at_ hi (j := 0) rfl, h.at_ hi (j := 1) rfl⟩
theorem hnd_own {g n c : Nat} {t : TypeId} (h : RowAt w (some ⟨g, 0, none⟩) n c t 2 (flat encH ps)) {i : Nat} (hi : i < ps.length) :
    w.cell? ⟨g, i * 2, none⟩ = some (.int .i64 ps[i].1) ∧ w.cell? ⟨g, i * 2 + 1, none⟩ = some (.int .i64 ps[i].2) := by
  obtain ⟨g', hg, hc⟩ := h.elem encH_length (by omega) hi
  cases hg
  exact ⟨hc 0 _ rfl, hc 1 _ rfl⟩
end
theorem encH_one (h : Int × Int) : ∀ u ∈ encH h, u.oneCell' = true := by
  intro u hu
  simp [encH] at hu
  rcases hu with rfl | rfl <;> rfl
/-- what a function value says of each handle, in each world that has come of w by turns within S -/
def PredH (w : World) (S : Nat → Prop) (g : FuncId) (lb : Array Value) (F : (Int × Int) → Bool) : Prop :=
  ∀ W p, Keeps S w W → Calls Tryz.prog g (#[aggH p] ++ lb) W fun e w' => e = .returned (.bool (F p)) ∧ Below W.heap.size W w'

set_option maxHeartbeats 1000000 in
theorem indexH_any (g : FuncId) (lb : Array Value) (F : (Int × Int) → Bool) (eg : ∀ args w, (callFunc g args).run Tryz.prog w = .ok (.enter g args) w) (A : Option Addr) (n c : Nat) (ps : List (Int × Int)) (w : World) (S : Nat → Prop)
    (hp : PredH w S g lb F) (h : ElemsAt w encH 2 A n ps) (hm : n ≤ 1000000) :
    Calls Tryz.prog 175 #[.slice A n c, .func (.func g) #[] lb] w fun e w' => Below w.heap.size w w' ∧
      (((∀ i (hi : i < ps.length), F ps[i] = false) ∧ e = .returned (.int .i64 (-1))) ∨ ∃ (k : Nat) (hk : k < ps.length), F ps[k] = true ∧ (∀ i (hi : i < ps.length), i < k → F ps[i] = false) ∧ e = .returned (.int .i64 k)) := by
  have hl := h.1
  have HP := hid hp
  have HL := hid hl
  have HH := hid h
  clear hp hl h
  go_enter Tryz.func175, Tryz.ntmps175
  go_wp2
  go_loopg [5, 8] n (fun gg _ s8 wr => ∃ kk : Nat, kk ≤ n ∧ gg = n - kk ∧ s8 = .int .i64 kk ∧ Below w.heap.size w wr ∧ Hid (∀ i (hi : i < ps.length), i < kk → F ps[i] = false))
  case atStart => exact ⟨0, Nat.zero_le _, rfl, rfl, Below.refl _ w, hid fun i _ hi => absurd hi (Nat.not_lt_zero _)⟩
  case round =>
    obtain ⟨kk, hkk, rfl, rfl, hB, HA⟩ := hrel
    by_cases hlt : kk < n
    · obtain ⟨b, off, rfl, _, _⟩ := HH.out.2 (by omega)
      have hkl : kk < ps.length := by have := HL.out; omega
      obtain ⟨x0, x1⟩ := hnd_at (HH.out.below hB (Nat.le_refl _)) hkl
      have hcall := HP.out wr ps[kk] (Keeps.of_below hB _)
      have hltz : (kk : Int) < (n : Int) := by omega
      obtain ⟨p, E⟩ : ∃ p, Hid (ps[kk] = p) := ⟨_, hid rfl⟩
      rw [E.out] at x0 x1 hcall
      obtain ⟨p0, p1⟩ := p
      unfold aggH at hcall
      dsimp only at x0 x1 hcall
      cases hq : F (p0, p1) with
      | true =>
        rw [hq] at hcall
        have HQ := hid hq
        clear hq
        go_wp2_with (go_at_fn g; refine hcall.mono ?_; rintro e w' ⟨rfl, hb'⟩)
        go_ret
        exact ⟨hB.trans (hb'.mono hB.size), .inr ⟨kk, hkl, by rw [E.out]; exact HQ.out, HA.out, rfl⟩⟩
      | false =>
        rw [hq] at hcall
        have HQ := hid hq
        clear hq
        go_wp2_with (go_at_fn g; refine hcall.mono ?_; rintro e w' ⟨rfl, hb'⟩)
        go_roundg (n - (kk + 1))
        case measure => omega
        case rel =>
          refine ⟨kk + 1, by omega, rfl, by go_num, hB.trans (hb'.mono hB.size), hid fun i hi hik => ?_⟩
          by_cases e : i = kk
          · subst e
            rw [E.out]; exact HQ.out
          · exact HA.out i hi (by omega)
    · have hltz : ¬ (kk : Int) < (n : Int) := by omega
      obtain rfl : kk = n := by omega
      go_wp2
      go_ret
      exact ⟨hB, .inl ⟨fun i hi => HA.out i hi (by have := HL.out; omega), rfl⟩⟩

/-- what DeleteFunc's rounds hold -/
structure DelInvH (F : (Int × Int) → Bool) (ps cs : List (Int × Int)) (i j : Nat) : Prop where
  len : cs.length = ps.length
  lt : i < j
  jn : j ≤ ps.length
  done : cs.take i = (ps.take j).filter (fun p => !F p)
  rest : ∀ m (h : m < ps.length) (h' : m < cs.length), j ≤ m → cs[m] = ps[m]

theorem DelInvH.skip {F : (Int × Int) → Bool} {ps cs : List (Int × Int)} {i j : Nat} (h : DelInvH F ps cs i j) (hj : j < ps.length) (hF : F ps[j] = true) : DelInvH F ps cs i (j + 1) :=
  ⟨h.len, by have := h.lt; omega, hj, by rw [List.take_succ_eq_append_getElem hj, List.filter_append, h.done]; simp [hF], fun m hm hm' hle => h.rest m hm hm' (by omega)⟩
theorem DelInvH.keep {F : (Int × Int) → Bool} {ps cs : List (Int × Int)} {i j : Nat} (h : DelInvH F ps cs i j) (hj : j < ps.length) (hF : F ps[j] = false) : DelInvH F ps (cs.set i ps[j]) (i + 1) (j + 1) := by
  have hlt := h.lt
  have hlen := h.len
  refine ⟨by rw [List.length_set]; exact h.len, by omega, hj, ?_, fun m hm hm' hle => ?_⟩
  · rw [List.take_succ_eq_append_getElem hj, List.filter_append, ← h.done, List.take_succ_eq_append_getElem (by rw [List.length_set]; omega), List.getElem_set_self, List.take_set_of_le (Nat.le_refl _)]
    simp [hF]
  · rw [List.getElem_set_ne (by omega)]
    exact h.rest m hm (by simpa using hm') (by omega)
theorem hnd_store {w : World} {g n c : Nat} {t : TypeId} {cs : List (Int × Int)} (h : RowAt w (some ⟨g, 0, none⟩) n c t 2 (flat encH cs)) {i : Nat} (hi : i < cs.length) (p : (Int × Int)) :
    RowAt ((w.setCell ⟨g, i * 2, none⟩ (.int .i64 p.1)).setCell ⟨g, i * 2 + 1, none⟩ (.int .i64 p.2)) (some ⟨g, 0, none⟩) n c t 2 (flat encH (cs.set i p)) := by
  rw [← flat_sets encH_length p cs i hi]
  exact (h.set _ _).set _ _
theorem keeps2h (w : World) (g a b : Nat) (x y : Value) : Keeps (fun i => i = g) w ((w.setCell ⟨g, a, none⟩ x).setCell ⟨g, b, none⟩ y) :=
  (Keeps.set_ w ⟨g, a, none⟩ x).trans (Keeps.set_ _ ⟨g, b, none⟩ y) (fun i h => .inl h)

set_option maxRecDepth 100000 in
set_option maxHeartbeats 4000000 in
theorem deleteH_any (g : FuncId) (lb : Array Value) (F : (Int × Int) → Bool) (eg : ∀ args w, (callFunc g args).run Tryz.prog w = .ok (.enter g args) w) (A : Option Addr) (n c : Nat) (ps : List (Int × Int)) (w : World) (S : Nat → Prop)
    (hp : PredH w S g lb F) (h : RowAt w A n c 155 2 (flat encH ps)) (hS : ∀ g, blkOf A = some g → S g) (hm : n ≤ 1000000) :
    Calls Tryz.prog 133 #[.slice A n c, .func (.func g) #[] lb] w fun e w' => Keeps S w w' ∧
      ∃ m, e = .returned (.slice A m c) ∧ RowAt w' A m c 155 2 (flat encH (ps.filter fun p => !F p)) := by
  have HP := hid hp
  have HH := hid h
  have HL := hid (row_length encH_length (by omega) h)
  have HE := hid (ElemsAt.of_row encH_length (by omega) h)
  clear hp h
  go_enter Tryz.func133, Tryz.ntmps133
  go_wp2_with fail
  refine (indexH_any g lb F eg A n c ps w S HP.out HE.out hm).mono ?_
  rintro e w1 ⟨hB, ⟨hno, rfl⟩ | ⟨k, hk, hy, hbef, rfl⟩⟩
  · have HX : Hid (ps.filter (fun p => !F p) = ps) := hid (by
      rw [List.filter_eq_self]
      intro p hp
      obtain ⟨i, hi, rfl⟩ := List.mem_iff_getElem.1 hp
      rw [hno i hi]; rfl)
    clear hno
    go_wp2
    go_ret
    exact ⟨Keeps.of_below hB _, n, rfl, by rw [HX.out]; exact HH.out.below hB⟩
  · obtain ⟨gr, rfl⟩ : ∃ gr, A = some ⟨gr, 0, none⟩ := by obtain ⟨gr, hA, _⟩ := HH.out.elem encH_length (by omega) hk; exact ⟨gr, hA⟩
    have hSg := hS gr rfl
    have hn := HL.out
    have hneg : ((k : Int) == -1) = false := beqF (by omega)
    have HI0 : DelInvH F ps ps k (k + 1) := ⟨rfl, by omega, by omega, by
      rw [List.take_succ_eq_append_getElem hk, List.filter_append, List.filter_eq_self.2]
      · simp [hy]
      · intro p hp
        obtain ⟨i, hi, rfl⟩ := List.mem_iff_getElem.1 hp
        have hi' : i < k := by simp at hi; omega
        rw [List.getElem_take, hbef i (by omega) hi']; rfl, fun m _ _ _ => rfl⟩
    have HI := hid HI0
    have HR := hid (HH.out.below hB)
    clear hbef hy HI0
    have HN1 := hid hn
    have hk6 : k < 1000000 := by omega
    clear hn hk
    go_wp2_with fail
    go_loopg [5, 6, 7] n (fun gg s5 s6 _ wr => ∃ (i j : Nat) (cs : List (Int × Int)), s5 = .int .i64 i ∧ s6 = .int .i64 j ∧ j ≤ n ∧ n - j ≤ gg ∧ Keeps S w wr ∧ RowAt wr (some ⟨gr, 0, none⟩) n c 155 2 (flat encH cs) ∧ Hid (DelInvH F ps cs i j))
    case atStart => exact ⟨k, k + 1, ps, rfl, by go_num, by have := HI.out.jn; have := HN1.out; omega, by omega, Keeps.of_below hB _, HR.out, HI⟩
    case round =>
      obtain ⟨i, j, cs, rfl, rfl, hj, hg, hK, hR, HJ⟩ := hrel
      have hij := HJ.out.lt
      have hcl : cs.length = n := by have := HJ.out.len; have := HN1.out; omega
      have HC := hid hcl
      by_cases hlt : j < n
      · have hjl : j < cs.length := by omega
        have hjp : j < ps.length := by have := HN1.out; omega
        obtain ⟨x0, x1⟩ := hnd_own hR hjl
        have hltz : (j : Int) < (n : Int) := by omega
        have er := HJ.out.rest j hjp hjl (Nat.le_refl _)
        obtain ⟨p, E⟩ : ∃ p, Hid (ps[j] = p) := ⟨_, hid rfl⟩
        rw [er, E.out] at x0 x1
        obtain ⟨p0, p1⟩ := p
        dsimp only at x0 x1
        have hA1 : Below wr.heap.size wr (wr.alloc (.cells #[.int .i64 p0, .int .i64 p1] 155)) := (Below.refl _ _).alloc (Nat.le_refl _) _
        have HA1 := hid hA1
        have hcall := HP.out _ (p0, p1) (hK.then_ hA1)
        have HR1 := hid (hR.below hA1)
        have HB1 := hid (Blk.new wr 155 #[.int .i64 p0, .int .i64 p1])
        have HK := hid hK
        have hgr := hR.lt (g := gr) rfl
        unfold aggH at hcall
        dsimp only at hcall
        clear hR er hcl hA1 hK
        cases hq : F (p0, p1) with
        | true =>
          rw [hq] at hcall
          have HQ := hid hq
          clear hq
          go_wp2_with (go_at_fn g; refine hcall.mono ?_; rintro e w' ⟨rfl, hb'⟩)
          go_roundg (n - (j + 1))
          case measure => omega
          case rel => exact ⟨i, j + 1, cs, rfl, by go_num, by omega, by omega, HK.out.then_ (HA1.out.trans (hb'.mono (by simp))), HR1.out.below hb', hid (HJ.out.skip hjp (by rw [E.out]; exact HQ.out))⟩
        | false =>
          rw [hq] at hcall
          have HQ := hid hq
          clear hq
          go_wp2_with fail
          refine hcall.mono ?_
          rintro e w2 ⟨rfl, hb'⟩
          have hR2 := HR1.out.below hb'
          have hB2 := Blk.keep HB1.out hb'
          have z0 : w2.cell? ⟨wr.heap.size, 0, none⟩ = some (.int .i64 p0) := by rw [Blk.cell hB2]; rfl
          have z1 : w2.cell? ⟨wr.heap.size, 1, none⟩ = some (.int .i64 p1) := by rw [Blk.cell hB2]; rfl
          have hil : i < cs.length := by have := HC.out; omega
          have hi6 : (i : Int) < (n : Int) := by omega
          have hi7 : (0 : Int) ≤ (i : Int) := by omega
          obtain ⟨y0, y1⟩ := hnd_own hR2 hil
          have f0 := hR2.frozen (i * 2)
          have f1 := hR2.frozen (i * 2 + 1)
          generalize cs[i].1 = o0 at y0
          generalize cs[i].2 = o1 at y1
          have HR2 := hid hR2
          clear x0 x1 hR2 hB2
          go_wp2_with fail
          go_roundg (n - (j + 1))
          case measure => omega
          case rel =>
            refine ⟨i + 1, j + 1, cs.set i (p0, p1), by go_num, by go_num, by omega, by omega, ?_, hnd_store HR2.out (by have := HC.out; omega) (p0, p1), hid ?_⟩
            · exact ((HK.out.then_ HA1.out).then_ hb').trans (keeps2h _ _ _ _ _ _) (fun x hx => .inl (by subst hx; exact hSg))
            · have := HJ.out.keep hjp (by rw [E.out]; exact HQ.out)
              rw [E.out] at this
              exact this
      · obtain rfl : j = n := by omega
        have hltz : ¬ (j : Int) < (j : Int) := by omega
        have hic : i < j := hij
        obtain ⟨vs, hvl, hclr⟩ := run_clear_any (P := Tryz.prog) wr 147 155 0 (.agg #[.int .i64 0, .int .i64 0]) 2 Tryz.underlying147 (fun _ => by kernel_rfl) rfl (by omega) (by intro v hv; simp [Value.cells] at hv; subst hv; rfl) gr (i * 2) (j - i) (c - i) (by omega)
          (fun x hx => hR.some_ (by omega)) (fun x hx => hR.frozen _)
        have HR3 := hid hR
        obtain ⟨hc1, hc2⟩ := hR.cap
        have hc3 : i < c := by omega
        have hc4 : ¬ c = i := by omega
        have hi7 : (0 : Int) ≤ (i : Int) := by omega
        have hi8 : (i : Int) ≤ (j : Int) := by omega
        have hi9 : (j : Int) ≤ (c : Int) := by omega
        clear hcl hR
        go_wp2_with fail
        go_ret
        refine ⟨hK.trans (Keeps.setCells _ _ _ _) (fun x hx => .inl (by subst hx; exact hSg)), i, rfl, ?_⟩
        have hd := HJ.out.done
        rw [List.take_of_length_le (l := ps) (by rw [HN1.out]; exact Nat.le_refl _)] at hd
        rw [← hd, ← flat_take encH_length]
        exact RowAt.sets_past _ _ _ (HR3.out.pop i (by omega)) (Nat.le_refl _)

def isH (h p : Int × Int) : Bool := p.1 == h.1 && p.2 == h.2
theorem isH_eq {h p : Int × Int} : isH h p = true ↔ p = h := by
  unfold isH
  obtain ⟨a, b⟩ := h
  obtain ⟨c, d⟩ := p
  simp
set_option maxHeartbeats 1000000 in
theorem cancelIs_any (p : Int × Int) (pb : Nat) (h : Int × Int) (w : World) (h0 : w.cell? ⟨pb, 0, none⟩ = some (.int .i64 h.1)) (h1 : w.cell? ⟨pb, 1, none⟩ = some (.int .i64 h.2)) :
    Calls Tryz.prog 134 #[aggH p, .pointer (some ⟨pb, 0, none⟩)] w fun e w' => e = .returned (.bool (isH h p)) ∧ Below w.heap.size w w' := by
  obtain ⟨a, b⟩ := p
  obtain ⟨c, d⟩ := h
  unfold aggH
  dsimp only at *
  have hg := World.block_lt_of_cell? w _ h0
  have z0 := (World.cell?_alloc_lt w (.cells #[.int .i64 a, .int .i64 b] 155) ⟨pb, 0, none⟩ hg).trans h0
  have z1 := (World.cell?_alloc_lt w (.cells #[.int .i64 a, .int .i64 b] 155) ⟨pb, 1, none⟩ hg).trans h1
  have HE : Hid (isH (c, d) (a, b) = ((a == c) && (b == d))) := hid rfl
  go_enter Tryz.func134, Tryz.ntmps134
  go_wp2
  all_goals
    go_ret
    exact ⟨ret_bool (by simp [isH, *]), (Below.refl _ _).alloc (Nat.le_refl _) _⟩

set_option maxHeartbeats 1000000 in
/-- a handle taken out of a list -/
theorem drop_any (w : World) (A : Option Addr) (n c : Nat) (hs : List (Int × Int)) (pb : Nat) (h : Int × Int) (hR : RowAt w A n c 155 2 (flat encH hs)) (hm : n ≤ 1000000)
    (hne : blkOf A ≠ some pb) (h0 : w.cell? ⟨pb, 0, none⟩ = some (.int .i64 h.1)) (h1 : w.cell? ⟨pb, 1, none⟩ = some (.int .i64 h.2)) :
    Calls Tryz.prog 132 #[.slice A n c, .pointer (some ⟨pb, 0, none⟩)] w fun e w' => Keeps (fun i => blkOf A = some i) w w' ∧
      e = .returned (.slice A (hs.filter fun p => !isH h p).length c) ∧ RowAt w' A (hs.filter fun p => !isH h p).length c 155 2 (flat encH (hs.filter fun p => !isH h p)) := by
  have eg := Go.Proofs.enters_of Tryz.func134 (by kernel_rfl) rfl
  have hg := World.block_lt_of_cell? w _ h0
  have hp : PredH w (fun i => blkOf A = some i) 134 #[.pointer (some ⟨pb, 0, none⟩)] (isH h) := fun W p hK =>
    cancelIs_any p pb h W ((hK.cell (p := ⟨pb, 0, none⟩) hg hne).trans h0) ((hK.cell (p := ⟨pb, 1, none⟩) hg hne).trans h1)
  have hmk : ∀ w : World, (Instr.makeFunc (.func 134) #[] #[.pointer (some ⟨pb, 0, none⟩)]).run Tryz.prog w = .ok (.func (.func 134) #[] #[.pointer (some ⟨pb, 0, none⟩)]) w := fun _ => rfl
  have HR := hid hR
  have HP := hid hp
  clear hR hp h0 h1
  go_enter Tryz.func132, Tryz.ntmps132
  go_wp2_with fail
  refine (deleteH_any _ _ (isH h) eg A n c hs w _ HP.out HR.out (fun _ e => e) hm).mono ?_
  rintro e w1 ⟨hK, m, rfl, hR1⟩
  have hl := row_length encH_length (by omega) hR1
  have HL := hid hl
  have HK := hid hK
  have HR1 := hid hR1
  clear hl hK hR1
  go_wp2
  go_ret
  refine ⟨HK.out, by rw [HL.out]; rfl, ?_⟩
  rw [HL.out]
  exact HR1.out
end Go.Proofs.YtkcgchpbjegneaaGreatDoor
