/-
  Walks of the small functions of curve.Choose, and of slices.IndexFunc, ContainsFunc, DeleteFunc at its points.
-/
import Derived.WalkKit
import Derived.WalkLawsBesides
import Derived.WalkSpells
import Derived.Deep.QuietTactic
import Derived.BigQuiet
import Derived.Deep.LoopGhost
import Derived.Deep.AppendLies
import Derived.Deep.RegionHeld3
import Derived.Deep.DeepCutAuto
import Derived.Deep.CutBlock
import Derived.Shelf.Abstract
import Derived.Test.YtaagaamamjabbaaRows
import Derived.Test.YtaagaamamjabbaaTri
namespace Go.Proofs.Ytaagaamamjabbaa
open Go.RowKit
set_option linter.unusedVariables false

def traded (p : Tri) : Int := min p.2.1 p.2.2
def leftOf (p : Tri) : Int := max (p.2.1 - p.2.2) (p.2.2 - p.2.1)
/-- no number of a point is far from nought -/
def Near (p : Tri) : Prop := (-1099511627776 ≤ p.1 ∧ p.1 ≤ 1099511627776) ∧ (-1099511627776 ≤ p.2.1 ∧ p.2.1 ≤ 1099511627776) ∧ (-1099511627776 ≤ p.2.2 ∧ p.2.2 ≤ 1099511627776)

/-- what a function value gives at each point, in each world that has come of w by turns within S -/
def FnAt (w : World) (S : Nat → Prop) (g : FuncId) (lb : Array Value) (F : Tri → Int) : Prop :=
  ∀ W p, Keeps S w W → Near p → Calls Try.prog g (#[aggT p] ++ lb) W fun e w' => e = .returned (.int .i64 (F p)) ∧ Below W.heap.size W w'
def PredAt3 (w : World) (S : Nat → Prop) (g : FuncId) (lb : Array Value) (F : Tri → Bool) : Prop :=
  ∀ W p, Keeps S w W → Near p → Calls Try.prog g (#[aggT p] ++ lb) W fun e w' => e = .returned (.bool (F p)) ∧ Below W.heap.size W w'

section
variable {w : World} {S : Nat → Prop}
theorem FnAt.later {w1 : World} {g : FuncId} {lb : Array Value} {F : Tri → Int} {S' : Nat → Prop} (h : FnAt w S g lb F) (hk : Keeps S' w w1) (hS : ∀ i, S' i → S i) : FnAt w1 S g lb F :=
  fun W p hW hp => h W p ((hk.mono hS).trans hW (fun _ h => .inl h)) hp
end

set_option maxHeartbeats 400000 in
theorem traded_any (p : Tri) (w : World) : Calls Try.prog 22 #[aggT p] w fun e w' => e = .returned (.int .i64 (traded p)) ∧ Below w.heap.size w w' := by
  obtain ⟨a, b, c⟩ := p
  unfold aggT traded
  dsimp only
  go_enter Try.func22, Try.ntmps22
  go_wp2
  all_goals
    go_ret
    exact ⟨ret_int (by omega), (Below.refl _ _).alloc (Nat.le_refl _) _⟩

set_option maxHeartbeats 400000 in
theorem left_any (p : Tri) (hp : Near p) (w : World) : Calls Try.prog 23 #[aggT p] w fun e w' => e = .returned (.int .i64 (leftOf p)) ∧ Below w.heap.size w w' := by
  obtain ⟨a, b, c⟩ := p
  obtain ⟨⟨_, _⟩, ⟨_, _⟩, ⟨_, _⟩⟩ := hp
  unfold aggT leftOf
  dsimp only at *
  go_enter Try.func23, Try.ntmps23
  go_wp2
  all_goals
    go_ret
    exact ⟨ret_int (by omega), (Below.refl _ _).alloc (Nat.le_refl _) _⟩

theorem traded_at (w : World) (S : Nat → Prop) : FnAt w S 22 #[] traded := fun W p _ _ => traded_any p W

theorem price_at (w : World) (S : Nat → Prop) : FnAt w S 32 #[] (fun p => p.1) := by
  rintro W ⟨a, b, c⟩ _ _
  show Calls Try.prog 32 #[.agg #[.int .i64 a, .int .i64 b, .int .i64 c]] W _
  go_enter Try.func32, Try.ntmps32
  go_wp2
  go_ret
  exact ⟨rfl, (Below.refl _ _).alloc (Nat.le_refl _) _⟩

theorem minus_at (w : World) (S : Nat → Prop) : FnAt w S 33 #[] (fun p => -p.1) := by
  rintro W ⟨a, b, c⟩ _ ⟨⟨_, _⟩, ⟨_, _⟩, ⟨_, _⟩⟩
  show Calls Try.prog 33 #[.agg #[.int .i64 a, .int .i64 b, .int .i64 c]] W _
  dsimp only at *
  go_enter Try.func33, Try.ntmps33
  go_wp2
  go_ret
  exact ⟨rfl, (Below.refl _ _).alloc (Nat.le_refl _) _⟩

theorem minus2_at (w : World) (S : Nat → Prop) : FnAt w S 35 #[] (fun p => -p.1) := by
  rintro W ⟨a, b, c⟩ _ ⟨⟨_, _⟩, ⟨_, _⟩, ⟨_, _⟩⟩
  show Calls Try.prog 35 #[.agg #[.int .i64 a, .int .i64 b, .int .i64 c]] W _
  dsimp only at *
  go_enter Try.func35, Try.ntmps35
  go_wp2
  go_ret
  exact ⟨rfl, (Below.refl _ _).alloc (Nat.le_refl _) _⟩

theorem far_at (w : World) (S : Nat → Prop) (b1 : Nat) (r : Int) (hr : -1099511627776 ≤ r ∧ r ≤ 1099511627776) (hb : Blk w b1 3 #[.int .i64 r]) (hS : ¬ S b1) :
    FnAt w S 34 #[.pointer (some ⟨b1, 0, none⟩)] (fun p => -max (p.1 - r) (r - p.1)) := by
  rintro W ⟨a, b, c⟩ hW ⟨⟨_, _⟩, ⟨_, _⟩, ⟨_, _⟩⟩
  obtain ⟨_, _⟩ := hr
  have hB := Blk.keeps hb hW hS
  have hlt := Blk.lt hB
  have z0 : (W.alloc (.cells #[.int .i64 a, .int .i64 b, .int .i64 c] 25)).cell? ⟨b1, 0, none⟩ = some (.int .i64 r) := by rw [Blk.cell (Blk.alloc hB _)]; rfl
  show Calls Try.prog 34 #[.agg #[.int .i64 a, .int .i64 b, .int .i64 c], .pointer (some ⟨b1, 0, none⟩)] W _
  dsimp only at *
  go_enter Try.func34, Try.ntmps34
  go_wp2
  all_goals
    go_ret
    exact ⟨ret_int (by omega), (Below.refl _ _).alloc (Nat.le_refl _) _⟩

theorem left_at (w : World) (S : Nat → Prop) (b1 : Nat) (hb : Blk w b1 57 #[.func (.func 23) #[] #[]]) (hS : ¬ S b1) :
    FnAt w S 28 #[.pointer (some ⟨b1, 0, none⟩)] (fun p => -leftOf p) := by
  rintro W ⟨a, b, c⟩ hW hp
  have hB := Blk.keeps hb hW hS
  have hlt := Blk.lt hB
  have hL : -2199023255552 ≤ leftOf (a, b, c) ∧ leftOf (a, b, c) ≤ 2199023255552 := by
    obtain ⟨⟨_, _⟩, ⟨_, _⟩, ⟨_, _⟩⟩ := hp
    unfold leftOf
    dsimp only at *
    omega
  obtain ⟨_, _⟩ := hL
  have z0 : (W.alloc (.cells #[.int .i64 a, .int .i64 b, .int .i64 c] 25)).cell? ⟨b1, 0, none⟩ = some (.func (.func 23) #[] #[]) := by rw [Blk.cell (Blk.alloc hB _)]; rfl
  have hl := left_any (a, b, c) hp
  obtain ⟨L, E⟩ : ∃ L, Hid (leftOf (a, b, c) = L) := ⟨_, rfl⟩
  rw [E.out] at hl
  rename_i q1 q2
  rw [E.out] at q1 q2
  have HL := hid hl
  clear hl
  show Calls Try.prog 28 #[.agg #[.int .i64 a, .int .i64 b, .int .i64 c], .pointer (some ⟨b1, 0, none⟩)] W _
  go_enter Try.func28, Try.ntmps28
  go_wp2_with fail
  refine (HL.out _).mono ?_
  rintro e w1 ⟨rfl, hB1⟩
  go_wp2
  go_ret
  exact ⟨ret_int (by rw [E.out]), ((Below.refl _ _).alloc (Nat.le_refl _) _).trans (hB1.mono (by simp))⟩

theorem cell_on {w w' : World} (hb : Below w.heap.size w w') {p : Addr} {v : Value} (h : w.cell? p = some v) : w'.cell? p = some v := (hb.cell (World.block_lt_of_cell? w p h)).trans h
theorem pred_keep {w0 W w w' : World} {S : Nat → Prop} {p1 p2 p3 p4 p5 : Addr} {v1 v2 v3 v4 v5 : Value} (hb : Below w.heap.size w w')
    (h : (Keeps S w0 w ∧ Below W.heap.size W w) ∧ w.cell? p1 = some v1 ∧ w.cell? p2 = some v2 ∧ w.cell? p3 = some v3 ∧ w.cell? p4 = some v4 ∧ w.cell? p5 = some v5) :
    (Keeps S w0 w' ∧ Below W.heap.size W w') ∧ w'.cell? p1 = some v1 ∧ w'.cell? p2 = some v2 ∧ w'.cell? p3 = some v3 ∧ w'.cell? p4 = some v4 ∧ w'.cell? p5 = some v5 :=
  ⟨⟨h.1.1.then_ hb, h.1.2.trans (hb.mono h.1.2.size)⟩, cell_on hb h.2.1, cell_on hb h.2.2.1, cell_on hb h.2.2.2.1, cell_on hb h.2.2.2.2.1, cell_on hb h.2.2.2.2.2⟩

set_option maxHeartbeats 1000000 in
/-- which are not at most -/
theorem pred_at (w : World) (S : Nat → Prop) (fb mb : Nat) (g : FuncId) (lb : Array Value) (F : Tri → Int) (most : Int) (eg : ∀ args w, (callFunc g args).run Try.prog w = .ok (.enter g args) w) (hF : FnAt w S g lb F)
    (hf : Blk w fb 57 #[.func (.func g) #[] lb]) (hm : Blk w mb 3 #[.int .i64 most]) (hSf : ¬ S fb) (hSm : ¬ S mb) :
    PredAt3 w S 27 #[.pointer (some ⟨fb, 0, none⟩), .pointer (some ⟨mb, 0, none⟩)] (fun p => F p != most) := by
  rintro W ⟨a, b, c⟩ hW hp
  have hBf := Blk.keeps hf hW hSf
  have hBm := Blk.keeps hm hW hSm
  have hA : Below W.heap.size W (W.alloc (.cells #[.int .i64 a, .int .i64 b, .int .i64 c] 25)) := (Below.refl _ _).alloc (Nat.le_refl _) _
  have hK := hW.then_ hA.drew
  have hB := hA.drew
  have hz := Blk.new W 25 #[.int .i64 a, .int .i64 b, .int .i64 c]
  have z0 : (W.alloc (.cells #[.int .i64 a, .int .i64 b, .int .i64 c] 25)).drew.cell? ⟨fb, 0, none⟩ = some (.func (.func g) #[] lb) := by rw [Blk.cell (Blk.drew (Blk.alloc hBf _))]; rfl
  have z1 : (W.alloc (.cells #[.int .i64 a, .int .i64 b, .int .i64 c] 25)).drew.cell? ⟨mb, 0, none⟩ = some (.int .i64 most) := by rw [Blk.cell (Blk.drew (Blk.alloc hBm _))]; rfl
  have y0 : (W.alloc (.cells #[.int .i64 a, .int .i64 b, .int .i64 c] 25)).drew.cell? ⟨W.heap.size, 0, none⟩ = some (.int .i64 a) := by rw [Blk.cell (Blk.drew hz)]; rfl
  have y1 : (W.alloc (.cells #[.int .i64 a, .int .i64 b, .int .i64 c] 25)).drew.cell? ⟨W.heap.size, 1, none⟩ = some (.int .i64 b) := by rw [Blk.cell (Blk.drew hz)]; rfl
  have y2 : (W.alloc (.cells #[.int .i64 a, .int .i64 b, .int .i64 c] 25)).drew.cell? ⟨W.heap.size, 2, none⟩ = some (.int .i64 c) := by rw [Blk.cell (Blk.drew hz)]; rfl
  have HF := hid hF
  have Hm := hid hm
  clear hF hf hm hBf hBm hz hA hW
  show Calls Try.prog 27 #[.agg #[.int .i64 a, .int .i64 b, .int .i64 c], .pointer (some ⟨fb, 0, none⟩), .pointer (some ⟨mb, 0, none⟩)] W _
  go_enter Try.func27, Try.ntmps27
  go_wp2_with fail
  go_region_held3 (fun w' => (Keeps S w w' ∧ Below W.heap.size W w') ∧ w'.cell? ⟨fb, 0, none⟩ = some (.func (.func g) #[] lb) ∧ w'.cell? ⟨mb, 0, none⟩ = some (.int .i64 most) ∧ w'.cell? ⟨W.heap.size, 0, none⟩ = some (.int .i64 a) ∧ w'.cell? ⟨W.heap.size, 1, none⟩ = some (.int .i64 b) ∧ w'.cell? ⟨W.heap.size, 2, none⟩ = some (.int .i64 c))
    (first | exact ⟨⟨hK, hB⟩, z0, z1, y0, y1, y2⟩ | assumption | exact pred_keep hB1 (by assumption))
    ((go_at_fn g; refine (HF.out _ (a, b, c) (And.left (And.left (by assumption))) hp).mono ?_; rintro e w1 ⟨rfl, hB1⟩))
  go_wp2
  go_ret
  exact ⟨rfl, And.right (And.left (by assumption))⟩

set_option maxHeartbeats 1000000 in
/-- which are not of one sign -/
theorem sign_at (w : World) (S : Nat → Prop) (sb : Nat) (sg : Int) (hsg : sg = 1 ∨ sg = -1) (hb : Blk w sb 3 #[.int .i64 sg]) (hS : ¬ S sb) :
    PredAt3 w S 31 #[.pointer (some ⟨sb, 0, none⟩)] (fun p => decide ((p.2.1 - p.2.2) * sg ≤ 0)) := by
  rintro W ⟨a, b, c⟩ hW ⟨⟨_, _⟩, ⟨_, _⟩, ⟨_, _⟩⟩
  have hB := Blk.keeps hb hW hS
  have hlt := Blk.lt hB
  have z0 : (W.alloc (.cells #[.int .i64 a, .int .i64 b, .int .i64 c] 25)).cell? ⟨sb, 0, none⟩ = some (.int .i64 sg) := by rw [Blk.cell (Blk.alloc hB _)]; rfl
  show Calls Try.prog 31 #[.agg #[.int .i64 a, .int .i64 b, .int .i64 c], .pointer (some ⟨sb, 0, none⟩)] W _
  dsimp only at *
  clear hb hB hW
  rcases hsg with rfl | rfl
  · go_enter Try.func31, Try.ntmps31
    go_wp2
    go_ret
    exact ⟨ret_bool (by simp), (Below.refl _ _).alloc (Nat.le_refl _) _⟩
  · go_enter Try.func31, Try.ntmps31
    go_wp2
    go_ret
    exact ⟨ret_bool (by simp), (Below.refl _ _).alloc (Nat.le_refl _) _⟩
end Go.Proofs.Ytaagaamamjabbaa
