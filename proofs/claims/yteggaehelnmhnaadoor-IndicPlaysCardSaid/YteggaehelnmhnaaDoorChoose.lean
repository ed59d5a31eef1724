/-
  Walks of the small functions of curve.Choose, and of slices.IndexFunc, ContainsFunc, DeleteFunc at its points.
  Walks of slices.IndexFunc, ContainsFunc, DeleteFunc at points.
  Walks of slices.Clone at points and of curve.Choose's closures keep and side.
  The walk of curve.Choose.
-/
import Derived.WalkKit
import Derived.WalkLawsBesides
import Derived.WalkSpells
import Derived.Deep.QuietTactic
import Derived.BigQuiet
import Derived.Deep.LoopGhost
import Derived.Deep.AppendLies
import Derived.Deep.RegionHeld3
import Derived.Deep.DeepCutAuto
import Derived.Deep.CutBlock
import Derived.Shelf.Abstract
import Derived.Test.YteggaehelnmhnaaDoorRows
import Derived.Test.YteggaehelnmhnaaDoorMem
import Derived.Laws.ResultCell
import Derived.Laws.EntriesVeiled
namespace Go.Proofs.YteggaehelnmhnaaDoor
open Go.RowKit
set_option linter.unusedVariables false

def traded (p : Tri) : Int := min p.2.1 p.2.2
def leftOf (p : Tri) : Int := max (p.2.1 - p.2.2) (p.2.2 - p.2.1)
/-- no number of a point is far from nought -/
def Near (p : Tri) : Prop := (-1099511627776 ≤ p.1 ∧ p.1 ≤ 1099511627776) ∧ (-1099511627776 ≤ p.2.1 ∧ p.2.1 ≤ 1099511627776) ∧ (-1099511627776 ≤ p.2.2 ∧ p.2.2 ≤ 1099511627776)

/-- what a function value gives at each point, in each world that has come of w by turns within S -/
def FnAt (w : World) (S : Nat → Prop) (g : FuncId) (lb : Array Value) (F : Tri → Int) : Prop :=
  ∀ W p, Keeps S w W → Near p → Calls Tryd.prog g (#[aggT p] ++ lb) W fun e w' => e = .returned (.int .i64 (F p)) ∧ Below W.heap.size W w'
def PredAt3 (w : World) (S : Nat → Prop) (g : FuncId) (lb : Array Value) (F : Tri → Bool) : Prop :=
  ∀ W p, Keeps S w W → Near p → Calls Tryd.prog g (#[aggT p] ++ lb) W fun e w' => e = .returned (.bool (F p)) ∧ Below W.heap.size W w'

section
variable {w : World} {S : Nat → Prop}
theorem FnAt.later {w1 : World} {g : FuncId} {lb : Array Value} {F : Tri → Int} {S' : Nat → Prop} (h : FnAt w S g lb F) (hk : Keeps S' w w1) (hS : ∀ i, S' i → S i) : FnAt w1 S g lb F :=
  fun W p hW hp => h W p ((hk.mono hS).trans hW (fun _ h => .inl h)) hp
end

set_option maxHeartbeats 400000 in
theorem traded_any (p : Tri) (w : World) : Calls Tryd.prog 31 #[aggT p] w fun e w' => e = .returned (.int .i64 (traded p)) ∧ Below w.heap.size w w' := by
  obtain ⟨a, b, c⟩ := p
  unfold aggT traded
  dsimp only
  go_enter Tryd.func31, Tryd.ntmps31
  go_wp2
  all_goals
    go_ret
    exact ⟨ret_int (by omega), (Below.refl _ _).alloc (Nat.le_refl _) _⟩

set_option maxHeartbeats 400000 in
theorem left_any (p : Tri) (hp : Near p) (w : World) : Calls Tryd.prog 32 #[aggT p] w fun e w' => e = .returned (.int .i64 (leftOf p)) ∧ Below w.heap.size w w' := by
  obtain ⟨a, b, c⟩ := p
  obtain ⟨⟨_, _⟩, ⟨_, _⟩, ⟨_, _⟩⟩ := hp
  unfold aggT leftOf
  dsimp only at *
  go_enter Tryd.func32, Tryd.ntmps32
  go_wp2
  all_goals
    go_ret
    exact ⟨ret_int (by omega), (Below.refl _ _).alloc (Nat.le_refl _) _⟩

theorem traded_at (w : World) (S : Nat → Prop) : FnAt w S 31 #[] traded := fun W p _ _ => traded_any p W

theorem price_at (w : World) (S : Nat → Prop) : FnAt w S 41 #[] (fun p => p.1) := by
  rintro W ⟨a, b, c⟩ _ _
  show Calls Tryd.prog 41 #[.agg #[.int .i64 a, .int .i64 b, .int .i64 c]] W _
  go_enter Tryd.func41, Tryd.ntmps41
  go_wp2
  go_ret
  exact ⟨rfl, (Below.refl _ _).alloc (Nat.le_refl _) _⟩

theorem minus_at (w : World) (S : Nat → Prop) : FnAt w S 42 #[] (fun p => -p.1) := by
  rintro W ⟨a, b, c⟩ _ ⟨⟨_, _⟩, ⟨_, _⟩, ⟨_, _⟩⟩
  show Calls Tryd.prog 42 #[.agg #[.int .i64 a, .int .i64 b, .int .i64 c]] W _
  dsimp only at *
  go_enter Tryd.func42, Tryd.ntmps42
  go_wp2
  go_ret
  exact ⟨rfl, (Below.refl _ _).alloc (Nat.le_refl _) _⟩

theorem minus2_at (w : World) (S : Nat → Prop) : FnAt w S 44 #[] (fun p => -p.1) := by
  rintro W ⟨a, b, c⟩ _ ⟨⟨_, _⟩, ⟨_, _⟩, ⟨_, _⟩⟩
  show Calls Tryd.prog 44 #[.agg #[.int .i64 a, .int .i64 b, .int .i64 c]] W _
  dsimp only at *
  go_enter Tryd.func44, Tryd.ntmps44
  go_wp2
  go_ret
  exact ⟨rfl, (Below.refl _ _).alloc (Nat.le_refl _) _⟩

theorem far_at (w : World) (S : Nat → Prop) (b1 : Nat) (r : Int) (hr : -1099511627776 ≤ r ∧ r ≤ 1099511627776) (hb : Blk w b1 3 #[.int .i64 r]) (hS : ¬ S b1) :
    FnAt w S 43 #[.pointer (some ⟨b1, 0, none⟩)] (fun p => -max (p.1 - r) (r - p.1)) := by
  rintro W ⟨a, b, c⟩ hW ⟨⟨_, _⟩, ⟨_, _⟩, ⟨_, _⟩⟩
  obtain ⟨_, _⟩ := hr
  have hB := Blk.keeps hb hW hS
  have hlt := Blk.lt hB
  have z0 : (W.alloc (.cells #[.int .i64 a, .int .i64 b, .int .i64 c] 60)).cell? ⟨b1, 0, none⟩ = some (.int .i64 r) := by rw [Blk.cell (Blk.alloc hB _)]; rfl
  show Calls Tryd.prog 43 #[.agg #[.int .i64 a, .int .i64 b, .int .i64 c], .pointer (some ⟨b1, 0, none⟩)] W _
  dsimp only at *
  go_enter Tryd.func43, Tryd.ntmps43
  go_wp2
  all_goals
    go_ret
    exact ⟨ret_int (by omega), (Below.refl _ _).alloc (Nat.le_refl _) _⟩

theorem left_at (w : World) (S : Nat → Prop) (b1 : Nat) (hb : Blk w b1 77 #[.func (.func 32) #[] #[]]) (hS : ¬ S b1) :
    FnAt w S 37 #[.pointer (some ⟨b1, 0, none⟩)] (fun p => -leftOf p) := by
  rintro W ⟨a, b, c⟩ hW hp
  have hB := Blk.keeps hb hW hS
  have hlt := Blk.lt hB
  have hL : -2199023255552 ≤ leftOf (a, b, c) ∧ leftOf (a, b, c) ≤ 2199023255552 := by
    obtain ⟨⟨_, _⟩, ⟨_, _⟩, ⟨_, _⟩⟩ := hp
    unfold leftOf
    dsimp only at *
    omega
  obtain ⟨_, _⟩ := hL
  have z0 : (W.alloc (.cells #[.int .i64 a, .int .i64 b, .int .i64 c] 60)).cell? ⟨b1, 0, none⟩ = some (.func (.func 32) #[] #[]) := by rw [Blk.cell (Blk.alloc hB _)]; rfl
  have hl := left_any (a, b, c) hp
  obtain ⟨L, E⟩ : ∃ L, Hid (leftOf (a, b, c) = L) := ⟨_, rfl⟩
  rw [E.out] at hl
  rename_i q1 q2
  rw [E.out] at q1 q2
  have HL := hid hl
  clear hl
  show Calls Tryd.prog 37 #[.agg #[.int .i64 a, .int .i64 b, .int .i64 c], .pointer (some ⟨b1, 0, none⟩)] W _
  go_enter Tryd.func37, Tryd.ntmps37
  go_wp2_with fail
  refine (HL.out _).mono ?_
  rintro e w1 ⟨rfl, hB1⟩
  go_wp2
  go_ret
  exact ⟨ret_int (by rw [E.out]), ((Below.refl _ _).alloc (Nat.le_refl _) _).trans (hB1.mono (by simp))⟩

theorem cell_on {w w' : World} (hb : Below w.heap.size w w') {p : Addr} {v : Value} (h : w.cell? p = some v) : w'.cell? p = some v := (hb.cell (World.block_lt_of_cell? w p h)).trans h
theorem pred_keep {w0 W w w' : World} {S : Nat → Prop} {p1 p2 p3 p4 p5 : Addr} {v1 v2 v3 v4 v5 : Value} (hb : Below w.heap.size w w')
    (h : (Keeps S w0 w ∧ Below W.heap.size W w) ∧ w.cell? p1 = some v1 ∧ w.cell? p2 = some v2 ∧ w.cell? p3 = some v3 ∧ w.cell? p4 = some v4 ∧ w.cell? p5 = some v5) :
    (Keeps S w0 w' ∧ Below W.heap.size W w') ∧ w'.cell? p1 = some v1 ∧ w'.cell? p2 = some v2 ∧ w'.cell? p3 = some v3 ∧ w'.cell? p4 = some v4 ∧ w'.cell? p5 = some v5 :=
  ⟨⟨h.1.1.then_ hb, h.1.2.trans (hb.mono h.1.2.size)⟩, cell_on hb h.2.1, cell_on hb h.2.2.1, cell_on hb h.2.2.2.1, cell_on hb h.2.2.2.2.1, cell_on hb h.2.2.2.2.2⟩

set_option maxHeartbeats 1000000 in
/-- which are not at most -/
theorem pred_at (w : World) (S : Nat → Prop) (fb mb : Nat) (g : FuncId) (lb : Array Value) (F : Tri → Int) (most : Int) (eg : ∀ args w, (callFunc g args).run Tryd.prog w = .ok (.enter g args) w) (hF : FnAt w S g lb F)
    (hf : Blk w fb 77 #[.func (.func g) #[] lb]) (hm : Blk w mb 3 #[.int .i64 most]) (hSf : ¬ S fb) (hSm : ¬ S mb) :
    PredAt3 w S 36 #[.pointer (some ⟨fb, 0, none⟩), .pointer (some ⟨mb, 0, none⟩)] (fun p => F p != most) := by
  rintro W ⟨a, b, c⟩ hW hp
  have hBf := Blk.keeps hf hW hSf
  have hBm := Blk.keeps hm hW hSm
  have hA : Below W.heap.size W (W.alloc (.cells #[.int .i64 a, .int .i64 b, .int .i64 c] 60)) := (Below.refl _ _).alloc (Nat.le_refl _) _
  have hK := hW.then_ hA.drew
  have hB := hA.drew
  have hz := Blk.new W 60 #[.int .i64 a, .int .i64 b, .int .i64 c]
  have z0 : (W.alloc (.cells #[.int .i64 a, .int .i64 b, .int .i64 c] 60)).drew.cell? ⟨fb, 0, none⟩ = some (.func (.func g) #[] lb) := by rw [Blk.cell (Blk.drew (Blk.alloc hBf _))]; rfl
  have z1 : (W.alloc (.cells #[.int .i64 a, .int .i64 b, .int .i64 c] 60)).drew.cell? ⟨mb, 0, none⟩ = some (.int .i64 most) := by rw [Blk.cell (Blk.drew (Blk.alloc hBm _))]; rfl
  have y0 : (W.alloc (.cells #[.int .i64 a, .int .i64 b, .int .i64 c] 60)).drew.cell? ⟨W.heap.size, 0, none⟩ = some (.int .i64 a) := by rw [Blk.cell (Blk.drew hz)]; rfl
  have y1 : (W.alloc (.cells #[.int .i64 a, .int .i64 b, .int .i64 c] 60)).drew.cell? ⟨W.heap.size, 1, none⟩ = some (.int .i64 b) := by rw [Blk.cell (Blk.drew hz)]; rfl
  have y2 : (W.alloc (.cells #[.int .i64 a, .int .i64 b, .int .i64 c] 60)).drew.cell? ⟨W.heap.size, 2, none⟩ = some (.int .i64 c) := by rw [Blk.cell (Blk.drew hz)]; rfl
  have HF := hid hF
  have Hm := hid hm
  clear hF hf hm hBf hBm hz hA hW
  show Calls Tryd.prog 36 #[.agg #[.int .i64 a, .int .i64 b, .int .i64 c], .pointer (some ⟨fb, 0, none⟩), .pointer (some ⟨mb, 0, none⟩)] W _
  go_enter Tryd.func36, Tryd.ntmps36
  go_wp2_with fail
  go_region_held3 (fun w' => (Keeps S w w' ∧ Below W.heap.size W w') ∧ w'.cell? ⟨fb, 0, none⟩ = some (.func (.func g) #[] lb) ∧ w'.cell? ⟨mb, 0, none⟩ = some (.int .i64 most) ∧ w'.cell? ⟨W.heap.size, 0, none⟩ = some (.int .i64 a) ∧ w'.cell? ⟨W.heap.size, 1, none⟩ = some (.int .i64 b) ∧ w'.cell? ⟨W.heap.size, 2, none⟩ = some (.int .i64 c))
    (first | exact ⟨⟨hK, hB⟩, z0, z1, y0, y1, y2⟩ | assumption | exact pred_keep hB1 (by assumption))
    ((go_at_fn g; refine (HF.out _ (a, b, c) (And.left (And.left (by assumption))) hp).mono ?_; rintro e w1 ⟨rfl, hB1⟩))
  go_wp2
  go_ret
  exact ⟨rfl, And.right (And.left (by assumption))⟩

set_option maxHeartbeats 1000000 in
/-- which are not of one sign -/
theorem sign_at (w : World) (S : Nat → Prop) (sb : Nat) (sg : Int) (hsg : sg = 1 ∨ sg = -1) (hb : Blk w sb 3 #[.int .i64 sg]) (hS : ¬ S sb) :
    PredAt3 w S 40 #[.pointer (some ⟨sb, 0, none⟩)] (fun p => decide ((p.2.1 - p.2.2) * sg ≤ 0)) := by
  rintro W ⟨a, b, c⟩ hW ⟨⟨_, _⟩, ⟨_, _⟩, ⟨_, _⟩⟩
  have hB := Blk.keeps hb hW hS
  have hlt := Blk.lt hB
  have z0 : (W.alloc (.cells #[.int .i64 a, .int .i64 b, .int .i64 c] 60)).cell? ⟨sb, 0, none⟩ = some (.int .i64 sg) := by rw [Blk.cell (Blk.alloc hB _)]; rfl
  show Calls Tryd.prog 40 #[.agg #[.int .i64 a, .int .i64 b, .int .i64 c], .pointer (some ⟨sb, 0, none⟩)] W _
  dsimp only at *
  clear hb hB hW
  rcases hsg with rfl | rfl
  · go_enter Tryd.func40, Tryd.ntmps40
    go_wp2
    go_ret
    exact ⟨ret_bool (by simp), (Below.refl _ _).alloc (Nat.le_refl _) _⟩
  · go_enter Tryd.func40, Tryd.ntmps40
    go_wp2
    go_ret
    exact ⟨ret_bool (by simp), (Below.refl _ _).alloc (Nat.le_refl _) _⟩
end Go.Proofs.YteggaehelnmhnaaDoor
namespace Go.Proofs.YteggaehelnmhnaaDoor
open Go.RowKit
set_option linter.unusedVariables false

set_option maxHeartbeats 1000000 in
theorem indexT_any (g : FuncId) (lb : Array Value) (F : Tri → Bool) (eg : ∀ args w, (callFunc g args).run Tryd.prog w = .ok (.enter g args) w) (A : Option Addr) (n c : Nat) (ps : List Tri) (w : World) (S : Nat → Prop)
    (hp : PredAt3 w S g lb F) (h : ElemsAt w encT 3 A n ps) (hN : ∀ p ∈ ps, Near p) (hm : n ≤ 1000000) :
    Calls Tryd.prog 50 #[.slice A n c, .func (.func g) #[] lb] w fun e w' => Below w.heap.size w w' ∧
      (((∀ i (hi : i < ps.length), F ps[i] = false) ∧ e = .returned (.int .i64 (-1))) ∨ ∃ (k : Nat) (hk : k < ps.length), F ps[k] = true ∧ (∀ i (hi : i < ps.length), i < k → F ps[i] = false) ∧ e = .returned (.int .i64 k)) := by
  have hl := h.1
  have HP := hid hp
  have HL := hid hl
  have HH := hid h
  clear hp hl h
  go_enter Tryd.func50, Tryd.ntmps50
  go_wp2
  go_loopg [5, 8] n (fun gg _ s8 wr => ∃ kk : Nat, kk ≤ n ∧ gg = n - kk ∧ s8 = .int .i64 kk ∧ Below w.heap.size w wr ∧ Hid (∀ i (hi : i < ps.length), i < kk → F ps[i] = false))
  case atStart => exact ⟨0, Nat.zero_le _, rfl, rfl, Below.refl _ w, hid fun i _ hi => absurd hi (Nat.not_lt_zero _)⟩
  case round =>
    obtain ⟨kk, hkk, rfl, rfl, hB, HA⟩ := hrel
    by_cases hlt : kk < n
    · obtain ⟨b, off, rfl, _, _⟩ := HH.out.2 (by omega)
      have hkl : kk < ps.length := by have := HL.out; omega
      obtain ⟨x0, x1, x2⟩ := tri_at (HH.out.below hB (Nat.le_refl _)) hkl
      have hcall := HP.out wr ps[kk] (Keeps.of_below hB _) (hN _ (List.getElem_mem _))
      have hltz : (kk : Int) < (n : Int) := by omega
      obtain ⟨p, E⟩ : ∃ p, Hid (ps[kk] = p) := ⟨_, hid rfl⟩
      rw [E.out] at x0 x1 x2 hcall
      obtain ⟨p0, p1, p2⟩ := p
      unfold aggT at hcall
      dsimp only at x0 x1 x2 hcall
      cases hq : F (p0, p1, p2) with
      | true =>
        rw [hq] at hcall
        have HQ := hid hq
        clear hq
        go_wp2_with (go_at_fn g; refine hcall.mono ?_; rintro e w' ⟨rfl, hb'⟩)
        go_ret
        exact ⟨hB.trans (hb'.mono hB.size), .inr ⟨kk, hkl, by rw [E.out]; exact HQ.out, HA.out, rfl⟩⟩
      | false =>
        rw [hq] at hcall
        have HQ := hid hq
        clear hq
        go_wp2_with (go_at_fn g; refine hcall.mono ?_; rintro e w' ⟨rfl, hb'⟩)
        go_roundg (n - (kk + 1))
        case measure => omega
        case rel =>
          refine ⟨kk + 1, by omega, rfl, by go_num, hB.trans (hb'.mono hB.size), hid fun i hi hik => ?_⟩
          by_cases e : i = kk
          · subst e
            rw [E.out]; exact HQ.out
          · exact HA.out i hi (by omega)
    · have hltz : ¬ (kk : Int) < (n : Int) := by omega
      obtain rfl : kk = n := by omega
      go_wp2
      go_ret
      exact ⟨hB, .inl ⟨fun i hi => HA.out i hi (by have := HL.out; omega), rfl⟩⟩

set_option maxHeartbeats 1000000 in
theorem containsT_any (g : FuncId) (lb : Array Value) (F : Tri → Bool) (eg : ∀ args w, (callFunc g args).run Tryd.prog w = .ok (.enter g args) w) (A : Option Addr) (n c : Nat) (ps : List Tri) (w : World) (S : Nat → Prop)
    (hp : PredAt3 w S g lb F) (h : ElemsAt w encT 3 A n ps) (hN : ∀ p ∈ ps, Near p) (hm : n ≤ 1000000) :
    Calls Tryd.prog 39 #[.slice A n c, .func (.func g) #[] lb] w fun e w' => Below w.heap.size w w' ∧ e = .returned (.bool (ps.any F)) := by
  have HP := hid hp
  have HH := hid h
  have HN := hid hN
  clear hp h hN
  go_enter Tryd.func39, Tryd.ntmps39
  go_wp2_with fail
  refine (indexT_any g lb F eg A n c ps w S HP.out HH.out HN.out hm).mono ?_
  rintro e w' ⟨hB, ⟨hno, rfl⟩ | ⟨k, hk, hy, _, rfl⟩⟩
  · have HE : Hid (ps.any F = false) := hid (by
      rw [List.any_eq_false]
      intro p hp
      obtain ⟨i, hi, rfl⟩ := List.mem_iff_getElem.1 hp
      rw [hno i hi]; simp)
    clear hno
    go_wp2
    go_ret
    exact ⟨hB, ret_bool (by rw [HE.out])⟩
  · have HE : Hid (ps.any F = true) := hid (by rw [List.any_eq_true]; exact ⟨_, List.getElem_mem hk, hy⟩)
    clear hy
    go_wp2
    go_ret
    exact ⟨hB, ret_bool (by rw [HE.out])⟩

/-- what DeleteFunc's rounds hold -/
structure DelInv (F : Tri → Bool) (ps cs : List Tri) (i j : Nat) : Prop where
  len : cs.length = ps.length
  lt : i < j
  jn : j ≤ ps.length
  done : cs.take i = (ps.take j).filter (fun p => !F p)
  rest : ∀ m (h : m < ps.length) (h' : m < cs.length), j ≤ m → cs[m] = ps[m]

theorem DelInv.skip {F : Tri → Bool} {ps cs : List Tri} {i j : Nat} (h : DelInv F ps cs i j) (hj : j < ps.length) (hF : F ps[j] = true) : DelInv F ps cs i (j + 1) :=
  ⟨h.len, by have := h.lt; omega, hj, by rw [List.take_succ_eq_append_getElem hj, List.filter_append, h.done]; simp [hF], fun m hm hm' hle => h.rest m hm hm' (by omega)⟩
theorem DelInv.keep {F : Tri → Bool} {ps cs : List Tri} {i j : Nat} (h : DelInv F ps cs i j) (hj : j < ps.length) (hF : F ps[j] = false) : DelInv F ps (cs.set i ps[j]) (i + 1) (j + 1) := by
  have hlt := h.lt
  have hlen := h.len
  refine ⟨by rw [List.length_set]; exact h.len, by omega, hj, ?_, fun m hm hm' hle => ?_⟩
  · rw [List.take_succ_eq_append_getElem hj, List.filter_append, ← h.done, List.take_succ_eq_append_getElem (by rw [List.length_set]; omega), List.getElem_set_self, List.take_set_of_le (Nat.le_refl _)]
    simp [hF]
  · rw [List.getElem_set_ne (by omega)]
    exact h.rest m hm (by simpa using hm') (by omega)
theorem tri_store {w : World} {g n c : Nat} {t : TypeId} {cs : List Tri} (h : RowAt w (some ⟨g, 0, none⟩) n c t 3 (flat encT cs)) {i : Nat} (hi : i < cs.length) (p : Tri) :
    RowAt (((w.setCell ⟨g, i * 3, none⟩ (.int .i64 p.1)).setCell ⟨g, i * 3 + 1, none⟩ (.int .i64 p.2.1)).setCell ⟨g, i * 3 + 2, none⟩ (.int .i64 p.2.2)) (some ⟨g, 0, none⟩) n c t 3 (flat encT (cs.set i p)) := by
  rw [← flat_sets encT_length p cs i hi]
  exact ((h.set _ _).set _ _).set _ _
theorem keeps3 (w : World) (g a b c : Nat) (x y z : Value) : Keeps (fun i => i = g) w (((w.setCell ⟨g, a, none⟩ x).setCell ⟨g, b, none⟩ y).setCell ⟨g, c, none⟩ z) :=
  ((Keeps.set_ w ⟨g, a, none⟩ x).trans (Keeps.set_ _ ⟨g, b, none⟩ y) (fun i h => .inl h)).trans (Keeps.set_ _ ⟨g, c, none⟩ z) (fun i h => .inl h)

set_option maxRecDepth 100000 in
set_option maxHeartbeats 4000000 in
theorem deleteT_any (g : FuncId) (lb : Array Value) (F : Tri → Bool) (eg : ∀ args w, (callFunc g args).run Tryd.prog w = .ok (.enter g args) w) (A : Option Addr) (n c : Nat) (ps : List Tri) (w : World) (S : Nat → Prop)
    (hp : PredAt3 w S g lb F) (h : RowAt w A n c 60 3 (flat encT ps)) (hS : ∀ g, blkOf A = some g → S g) (hN : ∀ p ∈ ps, Near p) (hm : n ≤ 1000000) :
    Calls Tryd.prog 35 #[.slice A n c, .func (.func g) #[] lb] w fun e w' => Keeps S w w' ∧
      ∃ m, e = .returned (.slice A m c) ∧ RowAt w' A m c 60 3 (flat encT (ps.filter fun p => !F p)) := by
  have HP := hid hp
  have HH := hid h
  have HN := hid hN
  have HL := hid (row_length encT_length (by omega) h)
  have HE := hid (ElemsAt.of_row encT_length (by omega) h)
  clear hp h hN
  go_enter Tryd.func35, Tryd.ntmps35
  go_wp2_with fail
  refine (indexT_any g lb F eg A n c ps w S HP.out HE.out HN.out hm).mono ?_
  rintro e w1 ⟨hB, ⟨hno, rfl⟩ | ⟨k, hk, hy, hbef, rfl⟩⟩
  · have HX : Hid (ps.filter (fun p => !F p) = ps) := hid (by
      rw [List.filter_eq_self]
      intro p hp
      obtain ⟨i, hi, rfl⟩ := List.mem_iff_getElem.1 hp
      rw [hno i hi]; rfl)
    clear hno
    go_wp2
    go_ret
    exact ⟨Keeps.of_below hB _, n, rfl, by rw [HX.out]; exact HH.out.below hB⟩
  · obtain ⟨gr, rfl⟩ : ∃ gr, A = some ⟨gr, 0, none⟩ := by obtain ⟨gr, hA, _⟩ := HH.out.elem encT_length (by omega) hk; exact ⟨gr, hA⟩
    have hSg := hS gr rfl
    have hn := HL.out
    have hneg : ((k : Int) == -1) = false := beqF (by omega)
    have HI0 : DelInv F ps ps k (k + 1) := ⟨rfl, by omega, by omega, by
      rw [List.take_succ_eq_append_getElem hk, List.filter_append, List.filter_eq_self.2]
      · simp [hy]
      · intro p hp
        obtain ⟨i, hi, rfl⟩ := List.mem_iff_getElem.1 hp
        have hi' : i < k := by simp at hi; omega
        rw [List.getElem_take, hbef i (by omega) hi']; rfl, fun m _ _ _ => rfl⟩
    have HI := hid HI0
    have HR := hid (HH.out.below hB)
    clear hbef hy HI0
    have HN1 := hid hn
    have hk6 : k < 1000000 := by omega
    clear hn hk
    go_wp2_with fail
    go_loopg [5, 6, 7] n (fun gg s5 s6 _ wr => ∃ (i j : Nat) (cs : List Tri), s5 = .int .i64 i ∧ s6 = .int .i64 j ∧ j ≤ n ∧ n - j ≤ gg ∧ Keeps S w wr ∧ RowAt wr (some ⟨gr, 0, none⟩) n c 60 3 (flat encT cs) ∧ Hid (DelInv F ps cs i j))
    case atStart => exact ⟨k, k + 1, ps, rfl, by go_num, by have := HI.out.jn; have := HN1.out; omega, by omega, Keeps.of_below hB _, HR.out, HI⟩
    case round =>
      obtain ⟨i, j, cs, rfl, rfl, hj, hg, hK, hR, HJ⟩ := hrel
      have hij := HJ.out.lt
      have hcl : cs.length = n := by have := HJ.out.len; have := HN1.out; omega
      have HC := hid hcl
      by_cases hlt : j < n
      · have hjl : j < cs.length := by omega
        have hjp : j < ps.length := by have := HN1.out; omega
        obtain ⟨x0, x1, x2⟩ := tri_own hR hjl
        have hltz : (j : Int) < (n : Int) := by omega
        have er := HJ.out.rest j hjp hjl (Nat.le_refl _)
        obtain ⟨p, E⟩ : ∃ p, Hid (ps[j] = p) := ⟨_, hid rfl⟩
        rw [er, E.out] at x0 x1 x2
        have hNp : Near p := by rw [← E.out]; exact HN.out _ (List.getElem_mem _)
        obtain ⟨p0, p1, p2⟩ := p
        dsimp only at x0 x1 x2
        have hA1 : Below wr.heap.size wr (wr.alloc (.cells #[.int .i64 p0, .int .i64 p1, .int .i64 p2] 60)) := (Below.refl _ _).alloc (Nat.le_refl _) _
        have HA1 := hid hA1
        have hcall := HP.out _ (p0, p1, p2) (hK.then_ hA1) hNp
        have HR1 := hid (hR.below hA1)
        have HB1 := hid (Blk.new wr 60 #[.int .i64 p0, .int .i64 p1, .int .i64 p2])
        have HK := hid hK
        have hgr := hR.lt (g := gr) rfl
        unfold aggT at hcall
        dsimp only at hcall
        clear hR er hNp hcl hA1 hK
        cases hq : F (p0, p1, p2) with
        | true =>
          rw [hq] at hcall
          have HQ := hid hq
          clear hq
          go_wp2_with (go_at_fn g; refine hcall.mono ?_; rintro e w' ⟨rfl, hb'⟩)
          go_roundg (n - (j + 1))
          case measure => omega
          case rel => exact ⟨i, j + 1, cs, rfl, by go_num, by omega, by omega, HK.out.then_ (HA1.out.trans (hb'.mono (by simp))), HR1.out.below hb', hid (HJ.out.skip hjp (by rw [E.out]; exact HQ.out))⟩
        | false =>
          rw [hq] at hcall
          have HQ := hid hq
          clear hq
          go_wp2_with fail
          refine hcall.mono ?_
          rintro e w2 ⟨rfl, hb'⟩
          have hR2 := HR1.out.below hb'
          have hB2 := Blk.keep HB1.out hb'
          have z0 : w2.cell? ⟨wr.heap.size, 0, none⟩ = some (.int .i64 p0) := by rw [Blk.cell hB2]; rfl
          have z1 : w2.cell? ⟨wr.heap.size, 1, none⟩ = some (.int .i64 p1) := by rw [Blk.cell hB2]; rfl
          have z2 : w2.cell? ⟨wr.heap.size, 2, none⟩ = some (.int .i64 p2) := by rw [Blk.cell hB2]; rfl
          have hil : i < cs.length := by have := HC.out; omega
          have hi6 : (i : Int) < (n : Int) := by omega
          have hi7 : (0 : Int) ≤ (i : Int) := by omega
          obtain ⟨y0, y1, y2⟩ := tri_own hR2 hil
          have f0 := hR2.frozen (i * 3)
          have f1 := hR2.frozen (i * 3 + 1)
          have f2 := hR2.frozen (i * 3 + 2)
          generalize cs[i].1 = o0 at y0
          generalize cs[i].2.1 = o1 at y1
          generalize cs[i].2.2 = o2 at y2
          have HR2 := hid hR2
          clear x0 x1 x2 hR2 hB2
          go_wp2_with fail
          go_roundg (n - (j + 1))
          case measure => omega
          case rel =>
            refine ⟨i + 1, j + 1, cs.set i (p0, p1, p2), by go_num, by go_num, by omega, by omega, ?_, tri_store HR2.out (by have := HC.out; omega) (p0, p1, p2), hid ?_⟩
            · exact ((HK.out.then_ HA1.out).then_ hb').trans (keeps3 _ _ _ _ _ _ _ _) (fun x hx => .inl (by subst hx; exact hSg))
            · have := HJ.out.keep hjp (by rw [E.out]; exact HQ.out)
              rw [E.out] at this
              exact this
      · obtain rfl : j = n := by omega
        have hltz : ¬ (j : Int) < (j : Int) := by omega
        have hic : i < j := hij
        obtain ⟨vs, hvl, hclr⟩ := run_clear_any (P := Tryd.prog) wr 41 60 0 (.agg #[.int .i64 0, .int .i64 0, .int .i64 0]) 3 Tryd.underlying41 (fun _ => by kernel_rfl) rfl (by omega) (by intro v hv; simp [Value.cells] at hv; subst hv; rfl) gr (i * 3) (j - i) (c - i) (by omega)
          (fun x hx => hR.some_ (by omega)) (fun x hx => hR.frozen _)
        have HR3 := hid hR
        obtain ⟨hc1, hc2⟩ := hR.cap
        have hc3 : i < c := by omega
        have hc4 : ¬ c = i := by omega
        have hi7 : (0 : Int) ≤ (i : Int) := by omega
        have hi8 : (i : Int) ≤ (j : Int) := by omega
        have hi9 : (j : Int) ≤ (c : Int) := by omega
        clear hcl hR
        go_wp2_with fail
        go_ret
        refine ⟨hK.trans (Keeps.setCells _ _ _ _) (fun x hx => .inl (by subst hx; exact hSg)), i, rfl, ?_⟩
        have hd := HJ.out.done
        rw [List.take_of_length_le (l := ps) (by rw [HN1.out]; exact Nat.le_refl _)] at hd
        rw [← hd, ← flat_take encT_length]
        exact RowAt.sets_past _ _ _ (HR3.out.pop i (by omega)) (Nat.le_refl _)
end Go.Proofs.YteggaehelnmhnaaDoor
namespace Go.Proofs.YteggaehelnmhnaaDoor
open Go.RowKit
set_option linter.unusedVariables false

theorem pt_info : (Tryd.prog.info? 60).map (fun i => (i.zero, i.size, i.bytes)) = some (some (.agg #[.int .i64 0, .int .i64 0, .int .i64 0]), 3, 24) := by kernel_rfl

set_option maxRecDepth 100000 in
set_option maxHeartbeats 1000000 in
theorem cloneT_any (A : Option Addr) (n c : Nat) (ps : List Tri) (w : World) (h : ElemsAt w encT 3 A n ps) (hn : 0 < n) (hm : n ≤ 1000000) :
    Calls Tryd.prog 33 #[.slice A n c] w fun e w' => Below w.heap.size w w' ∧
      ∃ g c', e = .returned (.slice (some ⟨g, 0, none⟩) n c') ∧ w.heap.size ≤ g ∧ RowAt w' (some ⟨g, 0, none⟩) n c' 60 3 (flat encT ps) := by
  obtain ⟨b, off, rfl, hlt⟩ : ∃ b off, A = some ⟨b, off, none⟩ ∧ b < w.heap.size := by obtain ⟨b, off, h1, h2, _⟩ := h.2 hn; exact ⟨b, off, h1, h2⟩
  have hne : ∀ wx, (binOp .eql 41 (.slice (some ⟨b, off, none⟩) n c) (.slice none 0 0)).run Tryd.prog wx = .ok (.bool false) wx := fun wx => Lib.run_eql_slice_nil (P := Tryd.prog) wx 41 60 (some ⟨b, off, none⟩) n c 0 0 Tryd.underlying41
  have HH := hid h
  have hl := h.1
  have HL := hid hl
  clear h hl
  obtain ⟨i0, hi0, hz0, hz1, hz2⟩ := info_parts pt_info
  go_enter Tryd.func33, Tryd.ntmps33
  have hown0 : (w.alloc (.cells #[] 60)).ownsRow w.heap.size 60 3 (.slice (some ⟨w.heap.size, 0, none⟩) 0 0) 0 [] := ⟨rfl, .inr ⟨w.heap.size, 0, #[], rfl, Nat.le_refl _, heap_alloc_new w _, Nat.le_refl _, Nat.zero_le _, rfl, rfl⟩⟩
  have hl2 : (flat encT ps).length = n * 3 := by rw [flat_length encT_length, HL.out]
  have hnews := (HH.out.below ((Below.refl _ w).alloc (Nat.le_refl _) (.cells #[] 60)) (Nat.le_refl _)).news encT_length
  have HO := hid hown0
  have HL2 := hid hl2
  have HNW := hid hnews
  clear hown0 hl2 hnews
  go_wp2_with (at_builtin; go_loud (refine wpList_append_lies _ rfl _ _ 41 rfl w.heap.size 60 i0 _ 3 24 Tryd.underlying41 hi0 hz0 hz1 hz2 rfl (by omega) _ 0 [] rfl HO.out ⟨b, off, none⟩ n c (flat encT ps) rfl HL2.out HNW.out (flat_one encT_one _) (by omega) (by unfold maxLen; omega) (by omega) (by simp) (w.heap.size + 1) (by simp) ?_); intro g cap w1 hown hgrow hat hlt1)
  go_ret
  have hb0 : g = w.heap.size ∨ g = w.heap.size + 1 := by
    rcases hat with h | h
    · exact .inl (Option.some.inj h).symm
    · exact .inr h
  simp only [Nat.zero_add, List.nil_append] at hown
  exact ⟨((Below.refl _ w).alloc (Nat.le_refl _) _).grown hgrow (by simp) (fun q hq => by cases hq; exact Nat.le_refl _), g, cap, by simp, by omega, own_base0 hown⟩

set_option maxRecDepth 100000 in
set_option maxHeartbeats 1000000 in
/-- Clone, whatever length -/
theorem cloneT_all (A : Option Addr) (n c : Nat) (ps : List Tri) (w : World) (h : ElemsAt w encT 3 A n ps) (hm : n ≤ 1000000) :
    Calls Tryd.prog 33 #[.slice A n c] w fun e w' => Below w.heap.size w w' ∧
      ∃ A' c', e = .returned (.slice A' n c') ∧ (∀ g, blkOf A' = some g → w.heap.size ≤ g) ∧ RowAt w' A' n c' 60 3 (flat encT ps) := by
  by_cases hn : 0 < n
  · refine (cloneT_any A n c ps w h hn hm).mono ?_
    rintro e w' ⟨hB, g, c', rfl, hg, hR⟩
    exact ⟨hB, _, c', rfl, fun x hx => by cases hx; exact hg, hR⟩
  · obtain rfl : n = 0 := by omega
    obtain rfl : ps = [] := List.eq_nil_of_length_eq_zero h.1
    clear h
    cases A with
    | none =>
      have hne : ∀ wx, (binOp .eql 41 (.slice none 0 c) (.slice none 0 0)).run Tryd.prog wx = .ok (.bool true) wx := fun wx => Lib.run_eql_slice_nil (P := Tryd.prog) wx 41 60 none 0 c 0 0 Tryd.underlying41
      go_enter Tryd.func33, Tryd.ntmps33
      go_wp2
      go_ret
      exact ⟨Below.refl _ _, none, 0, rfl, by simp [blkOf], World.ownsRow_nil _ _ _ _⟩
    | some a =>
      have hne : ∀ wx, (binOp .eql 41 (.slice (some a) 0 c) (.slice none 0 0)).run Tryd.prog wx = .ok (.bool false) wx := fun wx => Lib.run_eql_slice_nil (P := Tryd.prog) wx 41 60 (some a) 0 c 0 0 Tryd.underlying41
      go_enter Tryd.func33, Tryd.ntmps33
      go_wp2
      go_ret
      exact ⟨(Below.refl _ _).alloc (Nat.le_refl _) _, some ⟨w.heap.size, 0, none⟩, 0, rfl, fun g hg => by cases hg; exact Nat.le_refl _, ⟨rfl, .inr ⟨w.heap.size, 0, #[], rfl, Nat.zero_le _, heap_alloc_new w _, Nat.le_refl _, Nat.zero_le _, rfl, rfl⟩⟩⟩

/-- the greatest of all (0: there is none) -/
def topF (F : Tri → Int) : List Tri → Int
  | [] => 0
  | p :: r => r.foldl (fun m q => if m < F q then F q else m) (F p)
theorem topF_one (F : Tri → Int) (p : Tri) : topF F [p] = F p := rfl
theorem topF_snoc (F : Tri → Int) (l : List Tri) (p : Tri) (h : 0 < l.length) : topF F (l ++ [p]) = if topF F l < F p then F p else topF F l := by
  cases l with
  | nil => simp at h
  | cons a l =>
    show List.foldl _ _ (l ++ [p]) = _
    rw [List.foldl_append]
    rfl
/-- those of the greatest -/
def keepL (F : Tri → Int) (ps : List Tri) : List Tri := ps.filter fun p => F p == topF F ps

theorem foldF_spec (F : Tri → Int) (l : List Tri) : ∀ m : Int, (l.foldl (fun m q => if m < F q then F q else m) m = m ∨ ∃ p ∈ l, F p = l.foldl (fun m q => if m < F q then F q else m) m) ∧
    m ≤ l.foldl (fun m q => if m < F q then F q else m) m ∧ ∀ p ∈ l, F p ≤ l.foldl (fun m q => if m < F q then F q else m) m := by
  induction l with
  | nil => intro m; exact ⟨.inl rfl, Int.le_refl _, fun p hp => by cases hp⟩
  | cons a l ih =>
    intro m
    obtain ⟨h1, h2, h3⟩ := ih (if m < F a then F a else m)
    rw [List.foldl_cons]
    by_cases hlt : m < F a
    · rw [if_pos hlt] at h1 h2 h3 ⊢
      refine ⟨.inr ?_, by omega, fun p hp => ?_⟩
      · rcases h1 with h1 | ⟨p, hp, e⟩
        · exact ⟨a, by simp, h1.symm⟩
        · exact ⟨p, by simp [hp], e⟩
      · rcases List.mem_cons.1 hp with rfl | hp
        · exact h2
        · exact h3 p hp
    · rw [if_neg hlt] at h1 h2 h3 ⊢
      refine ⟨?_, h2, fun p hp => ?_⟩
      · rcases h1 with h1 | ⟨p, hp, e⟩
        · exact .inl h1
        · exact .inr ⟨p, by simp [hp], e⟩
      · rcases List.mem_cons.1 hp with rfl | hp
        · omega
        · exact h3 p hp
theorem topF_spec (F : Tri → Int) (ps : List Tri) (h : ps ≠ []) : (∃ p ∈ ps, F p = topF F ps) ∧ ∀ p ∈ ps, F p ≤ topF F ps := by
  cases ps with
  | nil => exact absurd rfl h
  | cons a l =>
    obtain ⟨h1, h2, h3⟩ := foldF_spec F l (F a)
    refine ⟨?_, fun p hp => ?_⟩
    · rcases h1 with h1 | ⟨p, hp, e⟩
      · exact ⟨a, by simp, h1.symm⟩
      · exact ⟨p, by simp [hp], e⟩
    · rcases List.mem_cons.1 hp with rfl | hp
      · exact h2
      · exact h3 p hp
theorem keepL_ne (F : Tri → Int) {ps : List Tri} (h : ps ≠ []) : keepL F ps ≠ [] := by
  obtain ⟨⟨p, hp, e⟩, _⟩ := topF_spec F ps h
  intro h0
  have : p ∈ keepL F ps := List.mem_filter.2 ⟨hp, by simp [e]⟩
  rw [h0] at this
  cases this
theorem keepL_sub {F : Tri → Int} {ps : List Tri} {p : Tri} (h : p ∈ keepL F ps) : p ∈ ps := (List.mem_filter.1 h).1

theorem FnAt.less {w : World} {S S' : Nat → Prop} {g : FuncId} {lb : Array Value} {F : Tri → Int} (h : FnAt w S g lb F) (hS : ∀ i, S' i → S i) : FnAt w S' g lb F :=
  fun W p hW hp => h W p (hW.mono hS) hp

set_option maxRecDepth 100000 in
set_option maxHeartbeats 4000000 in
theorem keep_any (g : FuncId) (lb : Array Value) (F : Tri → Int) (eg : ∀ args w, (callFunc g args).run Tryd.prog w = .ok (.enter g args) w) (b7 : Nat) (A : Option Addr) (n c : Nat) (ps : List Tri) (w : World)
    (hF : FnAt w (fun i => blkOf A = some i) g lb F) (hb : Blk w b7 41 #[.slice A n c]) (h : RowAt w A n c 60 3 (flat encT ps)) (hne : blkOf A ≠ some b7) (hN : ∀ p ∈ ps, Near p) (hm : n ≤ 1000000) :
    Calls Tryd.prog 34 #[.func (.func g) #[] lb, .pointer (some ⟨b7, 0, none⟩)] w fun e w' => e = .returned (.tuple #[]) ∧ Keeps (fun i => i = b7 ∨ blkOf A = some i) w w' ∧
      ∃ m, Blk w' b7 41 #[.slice A m c] ∧ RowAt w' A m c 60 3 (flat encT (keepL F ps)) := by
  have HP := hid hF
  have HH := hid h
  have HN := hid hN
  have HL := hid (row_length encT_length (by omega) h)
  have HE := hid (ElemsAt.of_row encT_length (by omega) h)
  have HBB := hid hb
  have hlt := Blk.lt hb
  have HNE := hid hne
  clear hF h hN hb hne
  have z0 : ((w.alloc (.cells #[.func (.func g) #[] lb] 77)).alloc (.cells #[.int .i64 0] 3)).cell? ⟨b7, 0, none⟩ = some (.slice A n c) := by rw [Blk.cell (Blk.alloc (Blk.alloc HBB.out _) _)]; rfl
  go_enter Tryd.func34, Tryd.ntmps34
  go_wp2_with fail
  go_loopg [4, 5, 6, 9] n (fun gg _ _ _ s9 wr => ∃ (k : Nat) (m : Int), k ≤ n ∧ gg = n - k ∧ s9 = .int .i64 k ∧ Below w.heap.size w wr ∧ Blk wr w.heap.size 77 #[.func (.func g) #[] lb] ∧ Blk wr (w.heap.size + 1) 3 #[.int .i64 m] ∧ Hid (m = topF F (ps.take k)))
  case atStart => exact ⟨0, 0, Nat.zero_le _, rfl, rfl, ((Below.refl _ w).alloc (Nat.le_refl _) _).alloc (by simp) _, Blk.alloc (Blk.new _ _ _) _, by have := Blk.new (w.alloc (.cells #[.func (.func g) #[] lb] 77)) 3 #[.int .i64 0]; simpa using this, hid rfl⟩
  case round =>
    obtain ⟨k, m, hk, rfl, rfl, hB, hbf, hbm, HM⟩ := hrel
    by_cases hlt2 : k < n
    · have hkl : k < ps.length := by have := HL.out; omega
      have hsz := hB.size
      obtain ⟨gr, hA⟩ : ∃ gr, A = some ⟨gr, 0, none⟩ := by obtain ⟨gr, hA, _⟩ := HH.out.elem encT_length (by omega) hkl; exact ⟨gr, hA⟩
      subst hA
      obtain ⟨x0, x1, x2⟩ := tri_own (HH.out.below hB) hkl
      have hltz : (k : Int) < (n : Int) := by omega
      have hi7 : (0 : Int) ≤ (k : Int) := by omega
      have hNp : Near ps[k] := HN.out _ (List.getElem_mem _)
      obtain ⟨p, E⟩ : ∃ p, Hid (ps[k] = p) := ⟨_, hid rfl⟩
      rw [E.out] at x0 x1 x2 hNp
      have HT := hid (List.take_succ_eq_append_getElem hkl)
      obtain ⟨p0, p1, p2⟩ := p
      dsimp only at x0 x1 x2
      have hA1 : Below wr.heap.size wr (wr.alloc (.cells #[.int .i64 p0, .int .i64 p1, .int .i64 p2] 60)) := (Below.refl _ _).alloc (Nat.le_refl _) _
      have hcall := HP.out _ (p0, p1, p2) (Keeps.of_below (hB.trans (hA1.mono hsz)) _) hNp
      have hbf1 := Blk.keep hbf hA1
      have y0 : (wr.alloc (.cells #[.int .i64 p0, .int .i64 p1, .int .i64 p2] 60)).cell? ⟨w.heap.size, 0, none⟩ = some (.func (.func g) #[] lb) := by rw [Blk.cell hbf1]; rfl
      have HF1 := hid hbf1
      have HM1 := hid (Blk.keep hbm hA1)
      have HBL := hid (hB.trans (hA1.mono hsz))
      have hbs := Blk.lt hbm
      unfold aggT at hcall
      dsimp only at hcall
      clear hbf hbm hNp hbf1 hA1 hB
      go_wp2_with fail
      refine hcall.mono ?_
      rintro e w2 ⟨rfl, hb'⟩
      have hbf2 := Blk.keep HF1.out hb'
      have hbm2 := Blk.keep HM1.out hb'
      have hB2 := HBL.out.trans (hb'.mono (by simp; omega))
      have q0 : w2.cell? ⟨w.heap.size + 1, 0, none⟩ = some (.int .i64 m) := by rw [Blk.cell hbm2]; rfl
      have qf : w2.frozen? ⟨w.heap.size + 1, 0, none⟩ = false := Blk.frozen hbm2 0
      have hbm3 := Blk.set_ hbm2 0 (.int .i64 (F (p0, p1, p2)))
      have hbf3 := Blk.far hbf2 (p := ⟨w.heap.size + 1, 0, none⟩) (by simp) (.int .i64 (F (p0, p1, p2)))
      have hB3 := hB2.setCell (p := ⟨w.heap.size + 1, 0, none⟩) (by simp) (.int .i64 (F (p0, p1, p2)))
      generalize hf : F (p0, p1, p2) = f at hbm3 hbf3 hB3
      have E2 := hid hf
      have G1 := hid hbm3
      have G2 := hid hbf3
      have G3 := hid hB3
      have G4 := hid hbm2
      have G5 := hid hbf2
      have G6 := hid hB2
      clear x0 x1 x2 y0 hcall hbm3 hbf3 hB3 hbm2 hbf2 hB2 hf
      by_cases hk0 : k = 0
      · subst hk0
        go_wp2_with fail
        go_roundg (n - (0 + 1))
        case measure => omega
        case rel => exact ⟨0 + 1, f, by omega, rfl, by go_num, G3.out, G2.out, G1.out, hid (by rw [HT.out, E.out, ← E2.out]; rfl)⟩
      · have t0 := beqF (show (k : Int) ≠ 0 by omega)
        by_cases hgt : m < f
        · have t1 := decT hgt
          go_wp2_with fail
          go_roundg (n - (k + 1))
          case measure => omega
          case rel => exact ⟨k + 1, f, by omega, rfl, by go_num, G3.out, G2.out, G1.out, hid (by rw [HT.out, topF_snoc F _ _ (by simp; omega), ← HM.out, E.out, E2.out, if_pos hgt])⟩
        · have t1 := decF hgt
          go_wp2_with fail
          go_roundg (n - (k + 1))
          case measure => omega
          case rel => exact ⟨k + 1, m, by omega, rfl, by go_num, G6.out, G5.out, G4.out, hid (by rw [HT.out, topF_snoc F _ _ (by simp; omega), ← HM.out, E.out, E2.out, if_neg (by omega)])⟩
    · obtain rfl : k = n := by omega
      have hltz : ¬ (k : Int) < (k : Int) := by omega
      have c7 : wr.cell? ⟨b7, 0, none⟩ = some (.slice A k c) := by rw [Blk.cell (HBB.out.keep hB)]; rfl
      have f7 : wr.frozen? ⟨b7, 0, none⟩ = false := Blk.frozen (HBB.out.keep hB) 0
      have HR := hid (HH.out.below hB)
      have hPred := pred_at wr (fun i => blkOf A = some i) w.heap.size (w.heap.size + 1) g lb F m eg (HP.out.later (Keeps.of_below hB (fun _ => False)) (fun _ h => h.elim)) hbf hbm (fun h => by have := HH.out.lt h; omega) (fun h => by have := HH.out.lt h; omega)
      have HPr := hid hPred
      have HB := hid hB
      clear hPred hbf hbm hB
      go_wp2_with fail
      refine (deleteT_any _ _ _ (Go.Proofs.enters_of Tryd.func36 (by kernel_rfl) rfl) A k c ps wr _ HPr.out HR.out (fun _ h => h) HN.out hm).mono ?_
      rintro e w2 ⟨hK, mm, rfl, hR2⟩
      have hne7 : ¬ blkOf A = some b7 := HNE.out
      have hb2 := (HBB.out.keep HB.out).keeps hK hne7
      have c8 : w2.cell? ⟨b7, 0, none⟩ = some (.slice A k c) := by rw [Blk.cell hb2]; rfl
      have f8 := Blk.frozen hb2 0
      have hk3 := Keeps.set_ w2 ⟨b7, 0, none⟩ (.slice A mm c)
      have hR3 := hR2.keeps hk3 (fun x hx e => HNE.out (by rw [hx, e]))
      have hb3 := Blk.set_ hb2 0 (.slice A mm c)
      have HR3 := hid hR3
      have HB3 := hid hb3
      have HK3 := hid (((Keeps.of_below HB.out (fun i => i = b7 ∨ blkOf A = some i)).trans hK (fun i h => .inl (.inr h))).trans hk3 (fun i h => .inl (.inl h)))
      have e7 : (fun p => !(F p != m)) = fun p => F p == topF F ps := by
        funext p
        rw [HM.out, List.take_of_length_le (by rw [HL.out]; exact Nat.le_refl _)]
        simp [bne]
      have HE7 := hid e7
      clear hb2 hk3 hR3 hb3 e7 c7 f7 hR2 hK
      go_wp2_with fail
      go_end0
      refine ⟨rfl, HK3.out, mm, HB3.out, ?_⟩
      unfold keepL
      rw [← HE7.out]
      exact HR3.out

set_option maxRecDepth 100000 in
set_option maxHeartbeats 1000000 in
theorem side_any (sg : Int) (hsg : sg = 1 ∨ sg = -1) (b7 : Nat) (A : Option Addr) (n c : Nat) (ps : List Tri) (w : World)
    (hb : Blk w b7 41 #[.slice A n c]) (h : RowAt w A n c 60 3 (flat encT ps)) (hN : ∀ p ∈ ps, Near p) (hm : n ≤ 1000000) :
    Calls Tryd.prog 38 #[.int .i64 sg, .pointer (some ⟨b7, 0, none⟩)] w fun e w' => e = .returned (.bool (!(ps.any fun p => decide ((p.2.1 - p.2.2) * sg ≤ 0)))) ∧ Below w.heap.size w w' := by
  have z0 : (w.alloc (.cells #[.int .i64 sg] 3)).cell? ⟨b7, 0, none⟩ = some (.slice A n c) := by rw [Blk.cell (Blk.alloc hb _)]; rfl
  have hA : Below w.heap.size w (w.alloc (.cells #[.int .i64 sg] 3)) := (Below.refl _ _).alloc (Nat.le_refl _) _
  have HE := hid (ElemsAt.of_row encT_length (by omega) (h.below hA))
  have HP := hid (sign_at (w.alloc (.cells #[.int .i64 sg] 3)) (fun _ => False) w.heap.size sg hsg (Blk.new _ _ _) id)
  have HA := hid hA
  have HN := hid hN
  have hmf : ∀ (fn : Fn) (first cap : Array Value) (w : World), (Instr.makeFunc fn first cap).run Tryd.prog w = .ok (.func fn first cap) w := fun _ _ _ _ => rfl
  clear hb h hA hN hsg
  go_enter Tryd.func38, Tryd.ntmps38
  go_wp2_with fail
  refine (containsT_any _ _ _ (Go.Proofs.enters_of Tryd.func40 (by kernel_rfl) rfl) A n c ps _ _ HP.out HE.out HN.out hm).mono ?_
  rintro e w1 ⟨hB, rfl⟩
  go_wp2
  go_ret
  exact ⟨rfl, HA.out.trans (hB.mono (by simp))⟩
end Go.Proofs.YteggaehelnmhnaaDoor
namespace Go.Proofs.YteggaehelnmhnaaDoor
open Go.RowKit
set_option linter.unusedVariables false

/-- what Choose holds: its boxes and the points that are left -/
structure ChAt (w0 w : World) (b3 b4 b6 b7 : Nat) (r : Int) (A : Option Addr) (m c : Nat) (ps : List Tri) : Prop where
  around : Blk w b3 3 #[.int .i64 r]
  quote : Blk w b4 46 #[.int .i64 0, .int .i64 0, .int .i64 0]
  left : Blk w b6 77 #[.func (.func 32) #[] #[]]
  best : Blk w b7 41 #[.slice A m c]
  row : RowAt w A m c 60 3 (flat encT ps)
  near : ∀ p ∈ ps, Near p
  below : Below w0.heap.size w0 w
  u3 : w0.heap.size ≤ b3
  u4 : w0.heap.size ≤ b4
  u6 : w0.heap.size ≤ b6
  u7 : w0.heap.size ≤ b7
  uA : ∀ g, blkOf A = some g → w0.heap.size ≤ g ∧ g ≠ b3 ∧ g ≠ b4 ∧ g ≠ b6 ∧ g ≠ b7
  n73 : b7 ≠ b3
  n74 : b7 ≠ b4
  n76 : b7 ≠ b6

section
variable {w0 w w' : World} {b3 b4 b6 b7 m c : Nat} {r : Int} {A : Option Addr} {ps : List Tri}
theorem ChAt.keep (h : ChAt w0 w b3 b4 b6 b7 r A m c ps) (hb : Below w.heap.size w w') : ChAt w0 w' b3 b4 b6 b7 r A m c ps :=
  ⟨Blk.keep h.around hb, Blk.keep h.quote hb, Blk.keep h.left hb, Blk.keep h.best hb, h.row.below hb, h.near, h.below.trans (hb.mono h.below.size), h.u3, h.u4, h.u6, h.u7, h.uA, h.n73, h.n74, h.n76⟩
theorem ChAt.kept (h : ChAt w0 w b3 b4 b6 b7 r A m c ps) {F : Tri → Int} {m' : Nat} (hk : Keeps (fun i => i = b7 ∨ blkOf A = some i) w w') (hb : Blk w' b7 41 #[.slice A m' c]) (hr : RowAt w' A m' c 60 3 (flat encT (keepL F ps))) :
    ChAt w0 w' b3 b4 b6 b7 r A m' c (keepL F ps) :=
  ⟨Blk.keeps h.around hk (fun e => e.elim (fun e => h.n73 e.symm) (fun e => (h.uA _ e).2.1 rfl)), Blk.keeps h.quote hk (fun e => e.elim (fun e => h.n74 e.symm) (fun e => (h.uA _ e).2.2.1 rfl)), Blk.keeps h.left hk (fun e => e.elim (fun e => h.n76 e.symm) (fun e => (h.uA _ e).2.2.2.1 rfl)),
    hb, hr, fun p hp => h.near p (keepL_sub hp), h.below.trans (hk.below (fun i e => e.elim (fun e => by rw [e]; exact h.u7) (fun e => (h.uA _ e).1)) h.below.size), h.u3, h.u4, h.u6, h.u7, h.uA, h.n73, h.n74, h.n76⟩
theorem ChAt.n7 (h : ChAt w0 w b3 b4 b6 b7 r A m c ps) : blkOf A ≠ some b7 := fun e => (h.uA _ e).2.2.2.2 rfl
theorem ChAt.step (h : ChAt w0 w b3 b4 b6 b7 r A m c ps) (g : FuncId) (lb : Array Value) (F : Tri → Int) (eg : ∀ args w, (callFunc g args).run Tryd.prog w = .ok (.enter g args) w) (hF : FnAt w (fun i => blkOf A = some i) g lb F) (hm : m ≤ 1000000) :
    Calls Tryd.prog 34 #[.func (.func g) #[] lb, .pointer (some ⟨b7, 0, none⟩)] w fun e w' => e = .returned (.tuple #[]) ∧ ∃ m', m' ≤ m ∧ (keepL F ps).length = m' ∧ ChAt w0 w' b3 b4 b6 b7 r A m' c (keepL F ps) := by
  refine (keep_any g lb F eg b7 A m c ps w hF h.best h.row h.n7 h.near hm).mono ?_
  rintro e w' ⟨rfl, hK, m', hb, hr⟩
  have e1 := row_length encT_length (by omega) hr
  have e2 := row_length encT_length (by omega) h.row
  exact ⟨rfl, m', by rw [← e1, ← e2]; exact List.length_filter_le _ _, e1, h.kept hK hb hr⟩
end

theorem ChAt.q {w0 w : World} {b3 b4 b6 b7 m c : Nat} {r : Int} {A : Option Addr} {ps : List Tri} (h : ChAt w0 w b3 b4 b6 b7 r A m c ps) :
    w.cell? ⟨b4, 0, none⟩ = some (.int .i64 0) ∧ w.cell? ⟨b4, 1, none⟩ = some (.int .i64 0) ∧ w.cell? ⟨b4, 2, none⟩ = some (.int .i64 0) ∧ w.frozen? ⟨b4, 0, none⟩ = false ∧ w.frozen? ⟨b4, 1, none⟩ = false ∧ w.frozen? ⟨b4, 2, none⟩ = false :=
  ⟨by rw [Blk.cell h.quote]; rfl, by rw [Blk.cell h.quote]; rfl, by rw [Blk.cell h.quote]; rfl, Blk.frozen h.quote 0, Blk.frozen h.quote 1, Blk.frozen h.quote 2⟩
theorem ChAt.y7 {w0 w : World} {b3 b4 b6 b7 m c : Nat} {r : Int} {A : Option Addr} {ps : List Tri} (h : ChAt w0 w b3 b4 b6 b7 r A m c ps) : w.cell? ⟨b7, 0, none⟩ = some (.slice A m c) := by rw [Blk.cell h.best]; rfl

theorem some_on {w w' : World} (hb : Below w.heap.size w w') {p : Addr} (h : (w.cell? p).isSome = true) : (w'.cell? p).isSome = true := by
  obtain ⟨v, hv⟩ := Option.isSome_iff_exists.1 h
  rw [cell_on hb hv]; rfl
theorem frozen_on {w w' : World} (hb : Below w.heap.size w w') {p : Addr} {v : Bool} (h : (w.cell? p).isSome = true) (hf : w.frozen? p = v) : w'.frozen? p = v := by
  obtain ⟨u, hu⟩ := Option.isSome_iff_exists.1 h
  exact (hb.frozen (World.block_lt_of_cell? w p hu)).trans hf
/-- what a cell holds, whatever that is -/
def valAt (w : World) (a : Addr) : Value := (w.cell? a).getD undef
theorem valAt_of {w : World} {a : Addr} (h : (w.cell? a).isSome = true) : w.cell? a = some (valAt w a) := by
  obtain ⟨v, hv⟩ := Option.isSome_iff_exists.1 h
  unfold valAt
  rw [hv]; rfl
theorem valAt_some {w : World} {a : Addr} {v : Value} (h : w.cell? a = some v) : w.cell? a = some (valAt w a) := valAt_of (by rw [h]; rfl)
def QS (g B : Nat) (v1 v2 v3 : Value) (w : World) : Prop :=
  (w.cell? ⟨g, 0, none⟩ = some v1 ∧ w.cell? ⟨g, 1, none⟩ = some v2 ∧ w.cell? ⟨g, 2, none⟩ = some v3) ∧ (w.cell? ⟨B, 0, none⟩ = some (valAt w ⟨B, 0, none⟩) ∧ w.cell? ⟨B, 1, none⟩ = some (valAt w ⟨B, 1, none⟩) ∧ w.cell? ⟨B, 2, none⟩ = some (valAt w ⟨B, 2, none⟩)) ∧
    w.frozen? ⟨B, 0, none⟩ = false ∧ w.frozen? ⟨B, 1, none⟩ = false ∧ w.frozen? ⟨B, 2, none⟩ = false
theorem q_keep {w w' : World} {g B : Nat} {v1 v2 v3 : Value} (hb : Below w.heap.size w w') (h : QS g B v1 v2 v3 w) : QS g B v1 v2 v3 w' :=
  ⟨⟨cell_on hb h.1.1, cell_on hb h.1.2.1, cell_on hb h.1.2.2⟩, ⟨valAt_some (cell_on hb h.2.1.1), valAt_some (cell_on hb h.2.1.2.1), valAt_some (cell_on hb h.2.1.2.2)⟩, frozen_on hb (by rw [h.2.1.1]; rfl) h.2.2.1, frozen_on hb (by rw [h.2.1.2.1]; rfl) h.2.2.2.1, frozen_on hb (by rw [h.2.1.2.2]; rfl) h.2.2.2.2⟩
theorem q_set {w : World} {g B : Nat} {v1 v2 v3 : Value} (hne : g ≠ B) (i : Nat) (x : Value) (h : QS g B v1 v2 v3 w) : QS g B v1 v2 v3 (w.setCell ⟨B, i, none⟩ x) := by
  have far : ∀ j, (w.setCell ⟨B, i, none⟩ x).cell? ⟨g, j, none⟩ = w.cell? ⟨g, j, none⟩ := fun j => World.cell?_of_block (Below.heap_setCell w ⟨B, i, none⟩ x g hne)
  have near : ∀ j v, w.cell? ⟨B, j, none⟩ = some v → (w.setCell ⟨B, i, none⟩ x).cell? ⟨B, j, none⟩ = some (valAt (w.setCell ⟨B, i, none⟩ x) ⟨B, j, none⟩) := fun j v hv => by
    obtain ⟨v', hy⟩ := cell?_setCell_some (w := w) (p := ⟨B, i, none⟩) (x := x) (q := ⟨B, j, none⟩) (v := v) hv
    exact valAt_some hy
  refine ⟨⟨(far 0).trans h.1.1, (far 1).trans h.1.2.1, (far 2).trans h.1.2.2⟩, ⟨near 0 _ h.2.1.1, near 1 _ h.2.1.2.1, near 2 _ h.2.1.2.2⟩, ?_, ?_, ?_⟩
  · simpa using h.2.2.1
  · simpa using h.2.2.2.1
  · simpa using h.2.2.2.2

/-- what Choose answers -/
def pick3 (r : Int) (b2 : List Tri) : List Tri :=
  if b2.any (fun p => decide ((p.2.1 - p.2.2) * 1 ≤ 0)) = false then keepL (fun p => p.1) b2
  else if b2.any (fun p => decide ((p.2.1 - p.2.2) * -1 ≤ 0)) = false then keepL (fun p => -p.1) b2
  else keepL (fun p => -p.1) (keepL (fun p => -max (p.1 - r) (r - p.1)) b2)
def quoteOf : List Tri → Tri
  | [] => (0, 0, 0)
  | p :: _ => (p.1, traded p, p.2.1 - p.2.2)
def chooseP (ps : List Tri) (r : Int) : Tri :=
  match keepL traded ps with
  | [] => (0, 0, 0)
  | p :: l => if traded p < 1 then (0, 0, 0) else quoteOf (pick3 r (keepL (fun p => -leftOf p) (p :: l)))

theorem choose_ret {w : World} {a : Act} {Q : Ending → World → Prop} {g : Nat} {cs : Array Value} (hp : a.tmps.getD 4 undef = .pointer (some ⟨g, 0, none⟩)) (hd : a.defers = [])
    (hg : Blk w g 46 cs) (h2 : cs.size = 3) (h : Q (.returned (.agg cs)) w) : bodyPost Tryd.prog Tryd.f21 Q .ret a w :=
  bodyPost_ret (results_cell_row Tryd.results21 a.tmps w g _ cs (0, 0) _ hp hg Tryd.underlying46 rfl (by rw [h2]; kernel_rfl)) hd h

set_option maxRecDepth 100000 in
set_option maxHeartbeats 4000000 in
theorem choose_any (A : Option Addr) (n c : Nat) (r : Int) (hr : -1099511627776 ≤ r ∧ r ≤ 1099511627776) (ps : List Tri) (w : World) (h : ElemsAt w encT 3 A n ps) (hN : ∀ p ∈ ps, Near p) (hm : n ≤ 100000) :
    Calls Tryd.prog 21 #[.slice A n c, .int .i64 r] w fun e w' => e = .returned (aggT (chooseP ps r)) ∧ Below w.heap.size w w' := by
  have hA2 : Below w.heap.size w (((w.alloc (.cells #[.int .i64 r] 3)).alloc (.cells #[.int .i64 0, .int .i64 0, .int .i64 0] 46)).alloc (.cells #[.func (.func 32) #[] #[]] 77)) := (((Below.refl _ w).alloc (Nat.le_refl _) _).alloc (by simp) _).alloc (by simp; omega) _
  have HH := hid (h.below hA2 (Nat.le_refl _))
  have HN := hid hN
  have HA2 := hid hA2
  clear h hN hA2
  go_enter Tryd.func21, Tryd.ntmps21
  go_wp2_with fail
  refine (cloneT_all A n c ps _ HH.out (by omega)).mono ?_
  rintro e w1 ⟨hB1, A', c', rfl, hup, hR⟩
  have hs1 := hB1.size
  simp at hs1
  have hC0 : ChAt w (w1.alloc (.cells #[.slice A' n c'] 41)) w.heap.size (w.heap.size + 1) (w.heap.size + 1 + 1) w1.heap.size r A' n c' ps := by
    have e3 : Blk (((w.alloc (.cells #[.int .i64 r] 3)).alloc (.cells #[.int .i64 0, .int .i64 0, .int .i64 0] 46)).alloc (.cells #[.func (.func 32) #[] #[]] 77)) w.heap.size 3 #[.int .i64 r] := Blk.alloc (Blk.alloc (Blk.new w _ _) _) _
    have e4 : Blk (((w.alloc (.cells #[.int .i64 r] 3)).alloc (.cells #[.int .i64 0, .int .i64 0, .int .i64 0] 46)).alloc (.cells #[.func (.func 32) #[] #[]] 77)) (w.heap.size + 1) 46 #[.int .i64 0, .int .i64 0, .int .i64 0] := by
      have := Blk.alloc (Blk.new (w.alloc (.cells #[.int .i64 r] 3)) 46 #[.int .i64 0, .int .i64 0, .int .i64 0]) (.cells #[.func (.func 32) #[] #[]] 77)
      simpa using this
    have e6 : Blk (((w.alloc (.cells #[.int .i64 r] 3)).alloc (.cells #[.int .i64 0, .int .i64 0, .int .i64 0] 46)).alloc (.cells #[.func (.func 32) #[] #[]] 77)) (w.heap.size + 1 + 1) 77 #[.func (.func 32) #[] #[]] := by
      have := Blk.new ((w.alloc (.cells #[.int .i64 r] 3)).alloc (.cells #[.int .i64 0, .int .i64 0, .int .i64 0] 46)) 77 #[.func (.func 32) #[] #[]]
      simpa using this
    refine ⟨Blk.alloc (Blk.keep e3 hB1) _, Blk.alloc (Blk.keep e4 hB1) _, Blk.alloc (Blk.keep e6 hB1) _, Blk.new _ _ _, hR.below ((Below.refl _ _).alloc (Nat.le_refl _) _), HN.out, HA2.out.trans ((hB1.alloc hB1.size _).mono (by simp; omega)), Nat.le_refl _, by omega, by omega, by omega, fun g hg => ?_, by omega, by omega, by omega⟩
    have h1 := hup g hg
    have h2 := hR.lt hg
    simp at h1
    omega
  have HC := hid hC0
  have hmf : ∀ (fn : Fn) (first cap : Array Value) (w : World), (Instr.makeFunc fn first cap).run Tryd.prog w = .ok (.func fn first cap) w := fun _ _ _ _ => rfl
  have HR := hid hR
  clear hC0 hR hB1
  go_wp2_with fail
  refine (HC.out.step _ _ _ (Go.Proofs.enters_of Tryd.func31 (by kernel_rfl) rfl) (traded_at _ _) (by omega)).mono ?_
  rintro e w2 ⟨rfl, m2, hm2, hl2, hC2⟩
  have HC2 := hid hC2
  have HL2 := hid hl2
  have y7 : w2.cell? ⟨w1.heap.size, 0, none⟩ = some (.slice A' m2 c') := by rw [Blk.cell hC2.best]; rfl
  clear hC2 hl2
  by_cases hz : m2 = 0
  · subst hz
    obtain ⟨d0, d1, d2, q0, q1, q2⟩ := HC2.out.q
    go_wp2_with fail
    try simp only [Exit.inBlock, Exit.then]
    refine choose_ret (g := w.heap.size + 1) (cs := #[.int .i64 0, .int .i64 0, .int .i64 0]) (by with_unfolding_all rfl) (by with_unfolding_all rfl) (Blk.set_ (Blk.set_ (Blk.set_ HC2.out.quote 0 _) 1 _) 2 _) rfl ?_
    have e0 : keepL traded ps = [] := List.eq_nil_of_length_eq_zero HL2.out
    refine ⟨by unfold chooseP; rw [e0]; rfl, ((HC2.out.below.setCell (by simp) _).setCell (by simp) _).setCell (by simp) _⟩
  · have t0 := beqF (show (m2 : Int) ≠ 0 by omega)
    obtain ⟨p, l, hpl⟩ : ∃ p l, keepL traded ps = p :: l := by
      cases hk : keepL traded ps with
      | nil => rw [hk] at HL2; exact absurd HL2.out.symm hz
      | cons p l => exact ⟨p, l, rfl⟩
    have hrow2 := HC2.out.row
    rw [hpl] at hrow2
    obtain ⟨gr, rfl⟩ : ∃ gr, A' = some ⟨gr, 0, none⟩ := by obtain ⟨gr, hA, _⟩ := hrow2.elem encT_length (by omega) (i := 0) (by simp); exact ⟨gr, hA⟩
    obtain ⟨x0, x1, x2⟩ := tri_own hrow2 (i := 0) (by simp)
    simp only [List.getElem_cons_zero, Nat.zero_mul, Nat.zero_add] at x0 x1 x2
    have hT := traded_any p w2
    obtain ⟨p0, p1, p2⟩ := p
    unfold aggT at hT
    dsimp only at x0 x1 x2 hT
    have hm3 : (0 : Int) < (m2 : Int) := by omega
    have HPL := hid hpl
    obtain ⟨t, HT⟩ : ∃ t, Hid (traded (p0, p1, p2) = t) := ⟨_, hid rfl⟩
    rw [HT.out] at hT
    clear hrow2 hpl
    go_wp2_with fail
    refine hT.mono ?_
    rintro e w3 ⟨rfl, hB3⟩
    have HC3 := hid (HC2.out.keep hB3)
    clear x0 x1 x2 hT y7
    by_cases hlt : t < 1
    · have dt := decT hlt
      obtain ⟨d0, d1, d2, q0, q1, q2⟩ := HC3.out.q
      have Hlt := hid hlt
      clear hlt
      go_wp2_with fail
      try simp only [Exit.inBlock, Exit.then]
      refine choose_ret (g := w.heap.size + 1) (cs := #[.int .i64 0, .int .i64 0, .int .i64 0]) (by with_unfolding_all rfl) (by with_unfolding_all rfl) (Blk.set_ (Blk.set_ (Blk.set_ HC3.out.quote 0 _) 1 _) 2 _) rfl ?_
      refine ⟨?_, ((HC3.out.below.setCell (by simp) _).setCell (by simp) _).setCell (by simp) _⟩
      have e1 : chooseP ps r = (0, 0, 0) := by unfold chooseP; rw [HPL.out]; show (if traded (p0, p1, p2) < 1 then _ else _) = _; rw [HT.out, if_pos Hlt.out]
      rw [e1]; rfl
    · have dt := decF hlt
      have HE1 : Hid (chooseP ps r = quoteOf (pick3 r (keepL (fun p => -leftOf p) ((p0, p1, p2) :: l)))) := hid (by unfold chooseP; rw [HPL.out]; show (if traded (p0, p1, p2) < 1 then _ else _) = _; rw [HT.out, if_neg hlt])
      clear hlt
      go_wp2_with fail
      rw [HPL.out] at HC3
      refine (HC3.out.step _ _ _ (Go.Proofs.enters_of Tryd.func37 (by kernel_rfl) rfl) (left_at _ _ _ HC3.out.left (fun e => (HC3.out.uA _ e).2.2.2.1 rfl)) (by omega)).mono ?_
      rintro e w4 ⟨rfl, m4, hm4, hl4, hC4⟩
      have hne4 : keepL (fun p => -leftOf p) ((p0, p1, p2) :: l) ≠ [] := keepL_ne _ (by simp)
      have HL4 := hid hl4
      generalize keepL (fun p => -leftOf p) ((p0, p1, p2) :: l) = ps4 at hne4 hC4 HL4 HE1
      have HC4 := hid hC4
      have hm40 : 0 < m4 := by have := HL4.out; have := List.length_pos_iff.2 hne4; omega
      have HNE := hid hne4
      clear hC4 hl4 hne4
      go_upto_block 0 with fail
      go_cut [38] (fun s38 wx => ∃ (m5 : Nat) (ps5 : List Tri), m5 ≤ n ∧ 0 < m5 ∧ ps5.length = m5 ∧ ChAt w wx w.heap.size (w.heap.size + 1) (w.heap.size + 1 + 1) w1.heap.size r (some ⟨gr, 0, none⟩) m5 c' ps5 ∧ Hid (pick3 r ps4 = ps5))
      case first =>
        have hS1 := side_any 1 (.inl rfl) w1.heap.size _ m4 c' ps4 w4 HC4.out.best HC4.out.row HC4.out.near (by omega)
        cases hb1 : ps4.any (fun p => decide ((p.2.1 - p.2.2) * 1 ≤ 0)) with
        | false =>
          rw [hb1] at hS1
          simp only [Bool.not_false] at hS1
          have HP3 : Hid (pick3 r ps4 = keepL (fun p => p.1) ps4) := hid (by unfold pick3; rw [if_pos hb1])
          clear hb1
          go_wp2_with fail
          refine hS1.mono ?_
          rintro e w5 ⟨rfl, hB5⟩
          have HC5 := hid (HC4.out.keep hB5)
          clear hS1
          go_wp2_with fail
          refine (HC5.out.step _ _ _ (Go.Proofs.enters_of Tryd.func41 (by kernel_rfl) rfl) (price_at _ _) (by omega)).mono ?_
          rintro e w6 ⟨rfl, m6, hm6, hl6, hC6⟩
          have hne6 : keepL (fun p => p.1) ps4 ≠ [] := keepL_ne _ HNE.out
          have hm60 : 0 < m6 := by have := List.length_pos_iff.2 hne6; omega
          have HC6 := hid hC6
          have HL6 := hid hl6
          clear hC6 hl6 hne6
          go_wp2_with fail
          go_meet
          exact ⟨m6, _, by omega, hm60, HL6.out, HC6.out, HP3⟩
        | true =>
          rw [hb1] at hS1
          simp only [Bool.not_true] at hS1
          have HB1 := hid hb1
          clear hb1
          go_wp2_with fail
          refine hS1.mono ?_
          rintro e w5 ⟨rfl, hB5⟩
          have HC5 := hid (HC4.out.keep hB5)
          clear hS1
          have hS2 := side_any (-1) (.inr rfl) w1.heap.size _ m4 c' ps4 w5 HC5.out.best HC5.out.row HC5.out.near (by omega)
          cases hb2 : ps4.any (fun p => decide ((p.2.1 - p.2.2) * -1 ≤ 0)) with
          | false =>
            rw [hb2] at hS2
            simp only [Bool.not_false] at hS2
            have HP3 : Hid (pick3 r ps4 = keepL (fun p => -p.1) ps4) := hid (by unfold pick3; rw [if_neg (by rw [HB1.out]; simp), if_pos hb2])
            clear hb2
            go_wp2_with fail
            refine hS2.mono ?_
            rintro e w6 ⟨rfl, hB6⟩
            have HC6 := hid (HC5.out.keep hB6)
            clear hS2
            go_wp2_with fail
            refine (HC6.out.step _ _ _ (Go.Proofs.enters_of Tryd.func42 (by kernel_rfl) rfl) (minus_at _ _) (by omega)).mono ?_
            rintro e w7 ⟨rfl, m7, hm7, hl7, hC7⟩
            have hne7 : keepL (fun p => -p.1) ps4 ≠ [] := keepL_ne _ HNE.out
            have hm70 : 0 < m7 := by have := List.length_pos_iff.2 hne7; omega
            have HC7 := hid hC7
            have HL7 := hid hl7
            clear hC7 hl7 hne7
            go_wp2_with fail
            go_meet
            exact ⟨m7, _, by omega, hm70, HL7.out, HC7.out, HP3⟩
          | true =>
            rw [hb2] at hS2
            simp only [Bool.not_true] at hS2
            have HP3 : Hid (pick3 r ps4 = keepL (fun p => -p.1) (keepL (fun p => -max (p.1 - r) (r - p.1)) ps4)) := hid (by unfold pick3; rw [if_neg (by rw [HB1.out]; simp), if_neg (by rw [hb2]; simp)])
            clear hb2
            go_wp2_with fail
            refine hS2.mono ?_
            rintro e w6 ⟨rfl, hB6⟩
            have HC6 := hid (HC5.out.keep hB6)
            clear hS2
            go_wp2_with fail
            refine (HC6.out.step _ _ _ (Go.Proofs.enters_of Tryd.func43 (by kernel_rfl) rfl) (far_at _ _ _ r hr HC6.out.around (fun e => (HC6.out.uA _ e).2.1 rfl)) (by omega)).mono ?_
            rintro e w7 ⟨rfl, m7, hm7, hl7, hC7⟩
            have hne7 : keepL (fun p => -max (p.1 - r) (r - p.1)) ps4 ≠ [] := keepL_ne _ HNE.out
            have HC7 := hid hC7
            have HN7 := hid hne7
            clear hC7 hl7 hne7
            go_wp2_with fail
            refine (HC7.out.step _ _ _ (Go.Proofs.enters_of Tryd.func44 (by kernel_rfl) rfl) (minus2_at _ _) (by omega)).mono ?_
            rintro e w8 ⟨rfl, m8, hm8, hl8, hC8⟩
            have hne8 : keepL (fun p => -p.1) (keepL (fun p => -max (p.1 - r) (r - p.1)) ps4) ≠ [] := keepL_ne _ HN7.out
            have hm80 : 0 < m8 := by have := List.length_pos_iff.2 hne8; omega
            have HC8 := hid hC8
            have HL8 := hid hl8
            clear hC8 hl8 hne8
            go_wp2_with fail
            go_meet
            exact ⟨m8, _, by omega, hm80, HL8.out, HC8.out, HP3⟩
      case rest =>
        obtain ⟨m5, ps5, hm5, hm50, hl5, hC5, HP5⟩ := hcut
        obtain ⟨q, l5, rfl⟩ : ∃ q l5, ps5 = q :: l5 := by
          cases ps5 with
          | nil => simp at hl5; omega
          | cons q l5 => exact ⟨q, l5, rfl⟩
        have hrow5 := hC5.row
        obtain ⟨x0, x1, x2⟩ := tri_own hrow5 (i := 0) (by simp)
        simp only [List.getElem_cons_zero, Nat.zero_mul, Nat.zero_add] at x0 x1 x2
        have y7 := hC5.y7
        have hNq := hC5.near q (by simp)
        have HQ : Hid (chooseP ps r = (q.1, traded q, q.2.1 - q.2.2)) := hid (by rw [HE1.out, HP5.out]; rfl)
        obtain ⟨p3, p4, p5⟩ := q
        dsimp only at x0 x1 x2
        have hm51 : (0 : Int) < (m5 : Int) := by omega
        have hA5 : Below wc.heap.size wc (wc.alloc (.cells #[.int .i64 p3, .int .i64 p4, .int .i64 p5] 60)) := (Below.refl _ _).alloc (Nat.le_refl _) _
        have HC5 := hid (hC5.keep hA5)
        have HZ := hid (Blk.new wc 60 #[.int .i64 p3, .int .i64 p4, .int .i64 p5])
        have hs5 := hC5.below.size
        have hs6 := Blk.lt hC5.quote
        have HC6 := hid hC5
        obtain ⟨⟨b1, b2⟩, ⟨b3, b4⟩, ⟨b5, b6⟩⟩ := hNq
        dsimp only at b1 b2 b3 b4 b5 b6
        clear hrow5 hC5 hA5
        have z0 : (wc.alloc (.cells #[.int .i64 p3, .int .i64 p4, .int .i64 p5] 60)).drew.cell? ⟨wc.heap.size, 0, none⟩ = some (.int .i64 p3) := by rw [Blk.cell (Blk.drew HZ.out)]; rfl
        have z1 : (wc.alloc (.cells #[.int .i64 p3, .int .i64 p4, .int .i64 p5] 60)).drew.cell? ⟨wc.heap.size, 1, none⟩ = some (.int .i64 p4) := by rw [Blk.cell (Blk.drew HZ.out)]; rfl
        have z2 : (wc.alloc (.cells #[.int .i64 p3, .int .i64 p4, .int .i64 p5] 60)).drew.cell? ⟨wc.heap.size, 2, none⟩ = some (.int .i64 p5) := by rw [Blk.cell (Blk.drew HZ.out)]; rfl
        have hq := (HC5.out.keep ((Below.refl _ _).drew)).q
        have hT := traded_any (p3, p4, p5)
        unfold aggT at hT
        dsimp only at hT
        obtain ⟨t5, HT5⟩ : ∃ t, Hid (traded (p3, p4, p5) = t) := ⟨_, hid rfl⟩
        rw [HT5.out] at hT
        have HTT := hid hT
        have hw45 : IntKind.i64.wrap (p4 - p5) = p4 - p5 := IntWalk.i64_in _ (by omega)
        clear hT
        go_wp2_with fail
        clear x0 x1 x2 y7
        go_region_held3 (fun w' => (w'.cell? ⟨wc.heap.size, 0, none⟩ = some (.int .i64 p3) ∧ w'.cell? ⟨wc.heap.size, 1, none⟩ = some (.int .i64 p4) ∧ w'.cell? ⟨wc.heap.size, 2, none⟩ = some (.int .i64 p5)) ∧
            (w'.cell? ⟨w.heap.size + 1, 0, none⟩ = some (valAt w' ⟨w.heap.size + 1, 0, none⟩) ∧ w'.cell? ⟨w.heap.size + 1, 1, none⟩ = some (valAt w' ⟨w.heap.size + 1, 1, none⟩) ∧ w'.cell? ⟨w.heap.size + 1, 2, none⟩ = some (valAt w' ⟨w.heap.size + 1, 2, none⟩)) ∧ w'.frozen? ⟨w.heap.size + 1, 0, none⟩ = false ∧ w'.frozen? ⟨w.heap.size + 1, 1, none⟩ = false ∧ w'.frozen? ⟨w.heap.size + 1, 2, none⟩ = false)
          (first | exact ⟨⟨z0, z1, z2⟩, ⟨valAt_some hq.1, valAt_some hq.2.1, valAt_some hq.2.2.1⟩, hq.2.2.2⟩ | assumption | exact q_keep (g := wc.heap.size) (B := w.heap.size + 1) hB9 (by assumption) | exact q_set (g := wc.heap.size) (B := w.heap.size + 1) (by omega) 2 _ (q_set (by omega) 1 _ (q_set (by omega) 0 _ (by assumption))))
          ((go_at_call 31; refine (HTT.out _).mono ?_; rintro e w9 ⟨rfl, hB9⟩))
        go_wp2_with fail
        try simp only [Exit.inBlock, Exit.then]
        have HC9 := (HC5.out.keep ((Below.refl _ _).drew)).keep hB9
        refine choose_ret (g := w.heap.size + 1) (cs := #[.int .i64 p3, .int .i64 t5, .int .i64 (p4 - p5)]) (by with_unfolding_all rfl) (by with_unfolding_all rfl) (Blk.set_ (Blk.set_ (Blk.set_ HC9.quote 0 _) 1 _) 2 _) rfl ?_
        refine ⟨?_, ((HC9.below.setCell (by simp) _).setCell (by simp) _).setCell (by simp) _⟩
        rw [HQ.out, ← HT5.out]
        rfl
end Go.Proofs.YteggaehelnmhnaaDoor
