/-
  Walks of package num: within, Right.
  The walk of Book.Add, where it tells an error.
  What an order more makes of a book's lists: the two ways in which Add ends. No walk.
  What the parts of Book.Add leave, for its walk.
  What an order less makes of a book's lists. No walk.
-/
import Derived.WalkKit
import Derived.WalkLawsBesides
import Derived.WalkSpells
import Derived.Test.YtkcgchpbjegneaaGreatDoorRows
import Derived.Test.YtkcgchpbjegneaaGreatDoorMem
import Derived.Deep.RegionLaw
import Derived.Deep.QuietTactic
import Derived.Deep.RegionWith
import Derived.BigQuiet
import Derived.Deep.DeepCutAuto
import Derived.Deep.CutBlock
import Derived.Test.YtkcgchpbjegneaaGreatDoorBookAt
import Derived.Test.YtkcgchpbjegneaaGreatDoorQueue
import Derived.Deep.AppendLies
import Derived.StillTailTactics
import Derived.Deep.RegionHeld3
namespace Go.Proofs.YtkcgchpbjegneaaGreatDoor
open Go.RowKit

def allIn (lo hi : Int) (xs : List Int) : Bool := xs.all fun n => decide (lo ≤ n) && decide (n ≤ hi)

theorem allIn_take (lo hi : Int) (xs : List Int) (k : Nat) (hk : k < xs.length) :
    allIn lo hi (xs.take (k+1)) = (allIn lo hi (xs.take k) && (decide (lo ≤ xs[k]) && decide (xs[k] ≤ hi))) := by
  unfold allIn
  rw [List.take_succ_eq_append_getElem hk, List.all_append]
  simp

theorem allIn_no (lo hi : Int) (xs : List Int) (k : Nat) (hk : k < xs.length) (h : ¬ (lo ≤ xs[k] ∧ xs[k] ≤ hi)) : allIn lo hi xs = false := by
  unfold allIn
  rw [List.all_eq_false]
  exact ⟨xs[k], List.getElem_mem hk, by simpa using h⟩

set_option maxHeartbeats 400000 in
theorem within_any (lo hi : Int) (b c : Nat) (xs : List Int) (w : World) (hl : xs.length ≤ 10)
    (hc : ∀ j (h : j < xs.length), w.cell? ⟨b, j, none⟩ = some (.int .i64 xs[j])) :
    Calls Tryz.prog 110 #[.int .i64 lo, .int .i64 hi, .slice (some ⟨b, 0, none⟩) xs.length c] w fun e w' =>
      e = .returned (.bool (allIn lo hi xs)) ∧ w = w' := by
  go_enter Tryz.func110, Tryz.ntmps110
  go_wp2
  go_loop [11] (fun i => ∃ k : Nat, k ≤ xs.length ∧ i = .int .i64 k ∧ allIn lo hi (xs.take k) = true) (fun i => xs.length - (intOf i).toNat)
  case atStart => exact ⟨0, Nat.zero_le _, rfl, rfl⟩
  case round =>
    obtain ⟨k, hk, rfl, hall⟩ := hrel
    by_cases hlt : k < xs.length
    · have hck := hc k hlt
      have hall' := hid hall
      clear hall hc
      by_cases h1 : lo ≤ xs[k]
      · by_cases h2 : xs[k] ≤ hi
        · have hs := allIn_take lo hi xs k hlt
          have hn : allIn lo hi (xs.take (k+1)) = true := by rw [hs, hall'.out]; simp [h1, h2]
          have Hn := hid hn
          clear hn hs
          go_wp2
          go_round
          case rel => exact ⟨k + 1, by omega, by go_num, Hn.out⟩
          case measure => simp [intOf]; omega
        · have hs := hid (allIn_no lo hi xs k hlt (by omega))
          go_wp2
          go_ret
          exact ⟨ret_bool hs.out.symm, rfl⟩
      · have hs := hid (allIn_no lo hi xs k hlt (by omega))
        go_wp2
        go_ret
        exact ⟨ret_bool hs.out.symm, rfl⟩
    · have hs := hid hall
      clear hall
      go_wp2
      go_ret
      exact ⟨ret_bool (by rw [← hs.out, List.take_of_length_le (by omega)]), rfl⟩

theorem within_new (lo hi x : Int) (n : Nat) (w : World) (hn : n = w.heap.size) :
    Calls Tryz.prog 110 #[.int .i64 lo, .int .i64 hi, .slice (some ⟨n, 0, none⟩) 1 1] (w.alloc (.cells #[.int .i64 x] 3)) fun e w' =>
      e = .returned (.bool (decide (lo ≤ x) && decide (x ≤ hi))) ∧ w.alloc (.cells #[.int .i64 x] 3) = w' := by
  subst hn
  refine (within_any lo hi _ 1 [x] _ (by simp) ?_).mono ?_
  · intro j h; simp at h; subst h; simp
  · rintro e w' ⟨rfl, rfl⟩; simp [allIn]

/-- a price, and a number of lots, that may be -/
def rightB (p q : Int) : Bool := (decide (1 ≤ p) && decide (p ≤ 1000000)) && (decide (1 ≤ q) && decide (q ≤ 1000000))
theorem rightB_iff {p s : Int} : rightB p s = true ↔ 1 ≤ p ∧ p ≤ 1000000 ∧ 1 ≤ s ∧ s ≤ 1000000 := by simp [rightB, and_assoc]

set_option maxHeartbeats 400000 in
theorem right_any (p q : Int) (w : World) : Calls Tryz.prog 65 #[.int .i64 p, .int .i64 q] w fun e w' =>
    e = .returned (.bool (rightB p q)) ∧ Below w.heap.size w w' := by
  by_cases h1 : (decide (1 ≤ p) && decide (p ≤ 1000000)) = true
  · have e1 : rightB p q = (decide (1 ≤ q) && decide (q ≤ 1000000)) := by rw [rightB, h1]; rfl
    rw [e1]
    have H1 := hid h1
    clear h1 e1
    go_enter Tryz.func65, Tryz.ntmps65
    go_wp2_with fail
    refine (within_new _ _ _ _ _ (by simp)).mono ?_
    rintro e w' ⟨rfl, rfl⟩
    rw [H1.out]
    go_wp2_with fail
    refine (within_new _ _ _ _ _ (by simp)).mono ?_
    rintro e w' ⟨rfl, rfl⟩
    go_wp2
    go_ret
    exact ⟨rfl, ((Below.refl _ w).alloc (Nat.le_refl _) _).alloc (by simp) _⟩
  · have h1' : (decide (1 ≤ p) && decide (p ≤ 1000000)) = false := by simpa using h1
    have e1 : rightB p q = false := by rw [rightB, h1']; rfl
    rw [e1]
    have H1 := hid h1'
    clear h1 h1' e1
    go_enter Tryz.func65, Tryz.ntmps65
    go_wp2_with fail
    refine (within_new _ _ _ _ _ (by simp)).mono ?_
    rintro e w' ⟨rfl, rfl⟩
    rw [H1.out]
    go_wp2
    go_ret
    exact ⟨rfl, (Below.refl _ w).alloc (Nat.le_refl _) _⟩

end Go.Proofs.YtkcgchpbjegneaaGreatDoor
namespace Go.Proofs.YtkcgchpbjegneaaGreatDoor
open Go.RowKit
set_option linter.unusedVariables false

/-- a Market order's price is nothing -/
def pricedO (o : Ord5) : Ord5 := ⟨o.id, o.side, o.kind, if o.kind = 2 then 1 else o.price, o.qty⟩
def argB (o : Ord5) : Bool := decide ((o.side = 1 ∨ o.side = 2) ∧ 1 ≤ o.id)
def rngB (o : Ord5) : Bool := rightB (pricedO o).price o.qty

set_option maxRecDepth 100000 in
set_option maxHeartbeats 1000000 in
theorem add_arg (w : World) (b : Nat) (o : Ord5) (h : argB o = false) :
    Calls Tryz.prog 42 #[.pointer (some ⟨b, 0, none⟩), aggO o] w fun e w' => e = .returned (errV 1) ∧ Below w.heap.size w w' := by
  have HB := hid (show Below w.heap.size w (w.alloc (.cells (boxO o) 24)) from (Below.refl _ w).alloc (Nat.le_refl _) _)
  obtain ⟨id, side, kind, price, qty⟩ := o
  unfold argB at h
  simp only [decide_eq_false_iff_not] at h
  unfold aggO
  dsimp only at h ⊢
  by_cases h1 : side = 1
  · have t1 := bneF h1
    have d1 : decide (id < 1) = true := decT (by omega)
    clear h h1
    go_enter Tryz.func42, Tryz.ntmps42
    go_wp2_with fail
    go_ret
    exact ⟨rfl, HB.out⟩
  · have t1 := bneT h1
    by_cases h2 : side = 2
    · have t2 := bneF h2
      have d1 : decide (id < 1) = true := decT (by omega)
      clear h h1 h2
      go_enter Tryz.func42, Tryz.ntmps42
      go_wp2_with fail
      go_ret
      exact ⟨rfl, HB.out⟩
    · have t2 := bneT h2
      clear h h1 h2
      go_enter Tryz.func42, Tryz.ntmps42
      go_wp2_with fail
      go_ret
      exact ⟨rfl, HB.out⟩

/-- behind the tests of the side and of the number: what remains, from a world with the order boxed -/
theorem argB_iff {o : Ord5} : argB o = true ↔ (o.side = 1 ∨ o.side = 2) ∧ 1 ≤ o.id := by unfold argB; simp
set_option maxRecDepth 100000 in
set_option maxHeartbeats 1000000 in
theorem add_range (w : World) (b : Nat) (o : Ord5) (h : argB o = true) (hr : rngB o = false) :
    Calls Tryz.prog 42 #[.pointer (some ⟨b, 0, none⟩), aggO o] w fun e w' => e = .returned (errV 2) ∧ Below w.heap.size w w' := by
  have HB := hid (show Below w.heap.size w (w.alloc (.cells (boxO (pricedO o)) 24)) from (Below.refl _ w).alloc (Nat.le_refl _) _)
  obtain ⟨hs, hi⟩ := argB_iff.1 h
  obtain ⟨id, side, kind, price, qty⟩ := o
  unfold aggO
  unfold rngB pricedO at hr
  unfold pricedO boxO at HB
  dsimp only at *
  have d1 : decide (id < 1) = false := decF (by omega)
  have HR := hid hr
  clear h hi hr
  rcases hs with rfl | rfl
  all_goals
    by_cases hk : kind = 2
    · have t1 := beqT hk
      rw [if_pos hk] at HR HB
      have HK := hid hk
      clear hk
      go_enter Tryz.func42, Tryz.ntmps42
      go_wp2_with (go_at_call 65; refine (right_any _ _ _).mono ?_; rintro e w1 ⟨rfl, hb⟩; rw [HR.out])
      go_ret
      exact ⟨rfl, HB.out.trans (hb.mono (by simp))⟩
    · have t1 := beqF hk
      rw [if_neg hk] at HR HB
      have HK := hid hk
      clear hk
      go_enter Tryz.func42, Tryz.ntmps42
      go_wp2_with (go_at_call 65; refine (right_any _ _ _).mono ?_; rintro e w1 ⟨rfl, hb⟩; rw [HR.out])
      go_ret
      exact ⟨rfl, HB.out.trans (hb.mono (by simp))⟩

theorem map_look (w : World) (r : Nat) (f : Int → Option Value) (h : IMap w r f) (k : Int) : (Instr.lookup 146 (.map (some r)) (.int .i64 k) true).run Tryz.prog w = .ok (.tuple #[(f k).getD (.agg #[.int .i64 0, .int .i64 0, .int .i64 0, .int .i64 0, .bool false]), .bool (f k).isSome]) w :=
  h.lookup Tryz.underlying146 Tryz.underlying3 (z := .agg #[.int .i64 0, .int .i64 0, .int .i64 0, .int .i64 0, .bool false]) (by kernel_rfl) k true


theorem map_look_some {w : World} {r : Nat} {f : Int → Option Value} (h : IMap w r f) {k : Int} {x : HO} (e : f k = some (placeV x)) : (Instr.lookup 146 (.map (some r)) (.int .i64 k) true).run Tryz.prog w =
    .ok (.tuple #[.agg #[.int .i64 x.1.1, .int .i64 x.1.2, .int .i64 x.2.side, .int .i64 x.2.price, .bool (x.2.kind == 2)], .bool true]) w := by
  rw [map_look w r f h k, e]; rfl
theorem map_look_none {w : World} {r : Nat} {f : Int → Option Value} (h : IMap w r f) {k : Int} (e : f k = none) : (Instr.lookup 146 (.map (some r)) (.int .i64 k) true).run Tryz.prog w =
    .ok (.tuple #[.agg #[.int .i64 0, .int .i64 0, .int .i64 0, .int .i64 0, .bool false], .bool false]) w := by
  rw [map_look w r f h k, e]; rfl
/-- an order boxed, behind the first tests of Add -/
theorem add_box {w w1 : World} {b a n r : Nat} {F : Nat → Prop} {M : Int → Int → Option Ord5} {f : Int → Option Value} {H : Int → HS} {reg : Nat → Int} {o : Ord5} (hM : BookM w b a F M n r f H reg)
    (hb : Below (w.alloc (.cells (boxO o) 24)).heap.size (w.alloc (.cells (boxO o) 24)) w1) : Below w.heap.size w w1 ∧ BookM w1 b a F M n r f H reg ∧ Blk w1 w.heap.size 24 (boxO o) := by
  have hB0 : Below w.heap.size w (w.alloc (.cells (boxO o) 24)) := (Below.refl _ w).alloc (Nat.le_refl _) _
  have hB : Below w.heap.size w w1 := hB0.trans (hb.mono (by simp))
  exact ⟨hB, hM.below hB, Blk.keep (Blk.new w _ _) hb⟩

set_option maxRecDepth 100000 in
set_option maxHeartbeats 1000000 in
theorem add_twice (w : World) (b : Nat) (o : Ord5) (a : Nat) (F : Nat → Prop) (M : Int → Int → Option Ord5) (n r : Nat) (f : Int → Option Value) (H : Int → HS) (reg : Nat → Int) (hM : BookM w b a F M n r f H reg)
    (h : argB o = true) (hr : rngB o = true) (x : HO) (hf : f o.id = some (placeV x)) :
    Calls Tryz.prog 42 #[.pointer (some ⟨b, 0, none⟩), aggO o] w fun e w' => e = .returned (errV 9) ∧ Below w.heap.size w w' := by
  obtain ⟨hs, hi⟩ := argB_iff.1 h
  obtain ⟨id, side, kind, price, qty⟩ := o
  unfold aggO
  unfold rngB pricedO at hr
  dsimp only at *
  have d1 : decide (id < 1) = false := decF (by omega)
  have HM := hid hM
  have HR := hid hr
  have HF := hid hf
  clear h hi hr hM hf
  rcases hs with rfl | rfl
  all_goals
    by_cases hk : kind = 2
    · have t1 := beqT hk
      rw [if_pos hk] at HR
      have HK := hid hk
      clear hk
      go_enter Tryz.func42, Tryz.ntmps42
      go_wp2_with fail
      refine (right_any _ _ _).mono ?_
      rintro e w1 ⟨rfl, hb⟩
      rw [HR.out]
      obtain ⟨hB, hM1, hX⟩ := add_box (o := ⟨id, _, kind, 1, qty⟩) HM.out hb
      obtain ⟨x0, x1, x2, x3, x4⟩ := ord_box hX
      obtain ⟨y0, y1, y2, y3, y4, y5⟩ := hM1.cells
      have hlk := map_look_some (w := (w1.alloc (.cells #[.int .i64 0, .int .i64 0, .int .i64 0, .int .i64 0, .bool false] 157)).drew) (hM1.mp.alloc _) HF.out
      have hlk2 := map_look_some (w := w1.drew) hM1.mp HF.out
      have HB := hid hB
      have hl1 := Blk.lt hX
      have hl2 := Blk.lt hM1.blk
      clear hM1 hX hB hb
      go_wp2_with fail
      go_region_law (fail)
      all_goals go_wp2_with fail
      all_goals
        go_ret
        exact ⟨rfl, (HB.out.trans (Below.drew ((Below.refl _ w1).alloc HB.out.size _)))⟩
    · have t1 := beqF hk
      rw [if_neg hk] at HR
      have HK := hid hk
      clear hk
      go_enter Tryz.func42, Tryz.ntmps42
      go_wp2_with fail
      refine (right_any _ _ _).mono ?_
      rintro e w1 ⟨rfl, hb⟩
      rw [HR.out]
      obtain ⟨hB, hM1, hX⟩ := add_box (o := ⟨id, _, kind, price, qty⟩) HM.out hb
      obtain ⟨x0, x1, x2, x3, x4⟩ := ord_box hX
      obtain ⟨y0, y1, y2, y3, y4, y5⟩ := hM1.cells
      have hlk := map_look_some (w := (w1.alloc (.cells #[.int .i64 0, .int .i64 0, .int .i64 0, .int .i64 0, .bool false] 157)).drew) (hM1.mp.alloc _) HF.out
      have hlk2 := map_look_some (w := w1.drew) hM1.mp HF.out
      have HB := hid hB
      have hl1 := Blk.lt hX
      have hl2 := Blk.lt hM1.blk
      clear hM1 hX hB hb
      go_wp2_with fail
      go_region_law (fail)
      all_goals go_wp2_with fail
      all_goals
        go_ret
        exact ⟨rfl, (HB.out.trans (Below.drew ((Below.refl _ w1).alloc HB.out.size _)))⟩
end Go.Proofs.YtkcgchpbjegneaaGreatDoor
namespace Go.Proofs.YtkcgchpbjegneaaGreatDoor
open Go.RowKit
set_option linter.unusedVariables false

/-- the book with an order more -/
def AddDone (w w' : World) (b a r : Nat) (F : Nat → Prop) (n : Nat) (H : Int → HS) (o : Ord5) : Prop :=
  ∃ F' M' f' H' reg', BookM w' b a F' M' (n + 1) r f' H' reg' ∧ BookS M' (n + 1) f' H' ∧ BStep w w' (BFp b r F H) (BFp b r F' H') ∧ (H' o.side).L = insO o.side (H o.side).L o ∧ ∀ s', s' ≠ o.side → H' s' = H s'

section
variable {M : Int → Int → Option Ord5} {n : Nat} {f : Int → Option Value} {H : Int → HS} {s : Int} {o : Ord5} {h : Int × Int}
theorem done_market (hS : BookS M n f H) (hs : Is12 s) (ho : o.side = s) (hk : o.kind = 2) (hok : OkO o) (hno : M h.1 h.2 = none) (hf : f o.id = none) (A' : Option Addr) (c' : Nat) :
    BookS (withO M h.1 h.2 (some o)) (n + 1) (updI f o.id (some (placeV (h, o)))) (upH H s ⟨A', c', (H s).qA, (H s).qc, (H s).ms ++ [(h, o)], (H s).qs⟩) ∧
      (upH H s ⟨A', c', (H s).qA, (H s).qc, (H s).ms ++ [(h, o)], (H s).qs⟩ s).L = insO s (H s).L o := by
  have hi := hS.is s hs
  refine ⟨hS.add (x := (h, o)) hs ?_ ⟨?_, hi.qk, hi.rank⟩ (hS.ne s hs) hno hf hok, ?_⟩
  · show (((H s).ms ++ [(h, o)]) ++ qOrd (H s).qs).Perm ((h, o) :: ((H s).ms ++ qOrd (H s).qs))
    rw [List.append_assoc]
    exact List.perm_middle
  · intro x hx
    rcases List.mem_append.1 hx with hx | hx
    · exact hi.mkt x hx
    · obtain rfl : x = (h, o) := by simpa using hx
      exact ⟨hk, ho⟩
  · rw [upH_self]
    exact (ins_market hi (h, o) hk).symm
/-- a queue that may be empty put in, where the price has none -/
def insQ (qs : List QG) (k : Nat) (p : Int) : List QG := qs.take k ++ ⟨p, none, 0, []⟩ :: qs.drop k
theorem insQ_que (qs : List QG) (k : Nat) (p : Int) : (insQ qs k p).map QG.que = (qs.map QG.que).take k ++ (p, none, 0, 0) :: (qs.map QG.que).drop k := by
  unfold insQ
  rw [List.map_append, List.map_cons, List.map_take, List.map_drop]
  rfl
theorem insQ_length {qs : List QG} {k : Nat} (hk : k ≤ qs.length) (p : Int) : (insQ qs k p).length = qs.length + 1 := by
  unfold insQ
  simp
  omega
theorem insQ_at {qs : List QG} {k : Nat} (hk : k ≤ qs.length) (p : Int) : (insQ qs k p)[k]? = some ⟨p, none, 0, []⟩ := by
  unfold insQ
  rw [List.getElem?_append_right (by simp; omega), List.length_take, Nat.min_eq_left hk, Nat.sub_self]
  rfl
theorem insQ_fm (qs : List QG) (k : Nat) (p : Int) : (insQ qs k p).filterMap (fun q => blkOf q.A) = qs.filterMap fun q => blkOf q.A := by
  unfold insQ
  rw [List.filterMap_append, List.filterMap_cons_none rfl, ← List.filterMap_append, List.take_append_drop]
theorem insQ_mem {qs : List QG} {k : Nat} {p : Int} {q : QG} (hq : q ∈ insQ qs k p) : q ∈ qs ∨ q = ⟨p, none, 0, []⟩ := by
  unfold insQ at hq
  rcases List.mem_append.1 hq with h | h
  · exact .inl (List.mem_of_mem_take h)
  · rcases List.mem_cons.1 h with h | h
    · exact .inr h
    · exact .inl (List.mem_of_mem_drop h)
theorem cmpQ_pos {a b : Int} (h : 0 ≤ cmpQ s a b) (hne : a ≠ b) (hs : Is12 s) : betB s b a = true := by
  unfold cmpQ at h
  rw [if_neg hne] at h
  split at h
  · omega
  · rename_i hb
    unfold betB at *
    rcases hs with rfl | rfl <;> simp_all <;> omega
theorem insQ_half {ms : List HO} {qs : List QG} {k : Nat} {p : Int} (hs : Is12 s) (h : HalfIs s ms qs) (hf : FoundK s p (qs.map QG.que) qs.length k) (hn : foundB s p (qs.map QG.que) qs.length k = false) : HalfIs s ms (insQ qs k p) ∧ hOrd ms (insQ qs k p) = hOrd ms qs := by
  obtain ⟨hk, hlo, hhi⟩ := hf
  have hne : ∀ i (hi : i < qs.length), k ≤ i → qs[i].price ≠ p := by
    intro i hi hki e
    have h0 := hhi i (by simpa using hi) hki
    simp only [List.getElem_map] at h0
    -- the first one there is not the price
    have hkl : k < qs.length := by omega
    unfold foundB at hn
    have e1 : (qs.map QG.que)[k]? = some qs[k].que := by simp [hkl]
    rw [e1] at hn
    have hd : decide (k < qs.length) = true := by simpa using hkl
    rw [hd] at hn
    have hk0 : cmpQ s qs[k].price p ≠ 0 := by
      have : (cmpQ s qs[k].que.1 p == 0) = false := by simpa using hn
      simpa [QG.que] using this
    rcases Nat.lt_or_eq_of_le hki with hlt | rfl
    · have hr := rank_at h.rank hi hlt
      rw [e] at hr
      have h2 := hhi k (by simpa using hkl) (Nat.le_refl _)
      simp only [List.getElem_map] at h2
      have h3 : cmpQ s qs[k].que.1 p = cmpQ s qs[k].price p := rfl
      have h4 := cmpQ_pos (s := s) (a := qs[k].price) (b := p) (by rw [← h3]; exact h2) (betB_ne hr) hs
      rw [betB_asymm hr] at h4
      cases h4
    · exact hk0 (by rw [e]; unfold cmpQ; rw [if_pos rfl])
  refine ⟨⟨h.mkt, fun q hq x hx => ?_, ?_⟩, ?_⟩
  · rcases insQ_mem hq with hq | rfl
    · exact h.qk q hq x hx
    · cases hx
  · rw [insQ_que]
    unfold RankQ
    have hr := h.rank
    unfold RankQ at hr
    have hr' := hr
    rw [← List.take_append_drop k (qs.map QG.que)] at hr'
    rw [List.pairwise_append] at hr' ⊢
    refine ⟨hr'.1, ?_, ?_⟩
    · rw [List.pairwise_cons]
      refine ⟨fun y hy => ?_, hr'.2.1⟩
      obtain ⟨i, hi, rfl⟩ := List.mem_iff_getElem.1 hy
      rw [List.getElem_drop]
      have hi' : k + i < qs.length := by simp at hi; omega
      have h0 := hhi (k + i) (by simpa using hi') (by omega)
      have h1 := hne (k + i) hi' (by omega)
      simp only [List.getElem_map] at h0 ⊢
      exact cmpQ_pos h0 h1 hs
    · intro x hx y hy
      rcases List.mem_cons.1 hy with rfl | hy
      · obtain ⟨i, hi, rfl⟩ := List.mem_iff_getElem.1 hx
        have hi' : i < k := by simp at hi; omega
        rw [List.getElem_take]
        have h0 := hlo i (by simp; omega) hi'
        exact cmpQ_neg.1 h0
      · exact hr'.2.2 x hx y hy
  · unfold hOrd
    have := qOrd_insert qs k ⟨p, none, 0, []⟩ rfl
    unfold insQ
    rw [this]
/-- an order behind those of its queue -/
theorem done_queue (hS : BookS M n f H) (hs : Is12 s) (ho : o.side = s) (hk : o.kind ≠ 2) (hok : OkO o) (hno : M h.1 h.2 = none) (hf : f o.id = none) (qA : Option Addr) (qc : Nat) (qs : List QG) (hi : HalfIs s (H s).ms qs) (ha : hOrd (H s).ms qs = (H s).all) {k : Nat} (hkl : k < qs.length) (hp : qs[k].price = o.price)
    (hne : ∀ i (hi : i < qs.length), i ≠ k → qs[i].os ≠ []) (A' : Option Addr) (c' : Nat) :
    BookS (withO M h.1 h.2 (some o)) (n + 1) (updI f o.id (some (placeV (h, o)))) (upH H s ⟨(H s).mA, (H s).mc, qA, qc, (H s).ms, qs.set k ⟨qs[k].price, A', c', qs[k].os ++ [(h, o)]⟩⟩) ∧
      (upH H s ⟨(H s).mA, (H s).mc, qA, qc, (H s).ms, qs.set k ⟨qs[k].price, A', c', qs[k].os ++ [(h, o)]⟩⟩ s).L = insO s (H s).L o := by
  refine ⟨hS.add (x := (h, o)) hs ?_ ⟨hi.mkt, ?_, ?_⟩ ?_ hno hf hok, ?_⟩
  · rw [← ha]
    show (hOrd _ _).Perm _
    unfold hOrd
    rw [qOrd_set qs hkl, qOrd_split qs hkl]
    have : (H s).ms ++ (qOrd (qs.take k) ++ ((qs[k].os ++ [(h, o)]) ++ qOrd (qs.drop (k + 1)))) = ((H s).ms ++ (qOrd (qs.take k) ++ qs[k].os)) ++ (h, o) :: qOrd (qs.drop (k + 1)) := by simp
    rw [this]
    refine List.perm_middle.trans ?_
    simp
  · intro q hq x hx
    rcases List.mem_or_eq_of_mem_set hq with hq | rfl
    · exact hi.qk q hq x hx
    · rcases List.mem_append.1 hx with hx | hx
      · exact hi.qk _ (List.getElem_mem _) x hx
      · obtain rfl : x = (h, o) := by simpa using hx
        exact ⟨hk, ho, hp.symm⟩
  · have e2 : (qs.set k ⟨qs[k].price, A', c', qs[k].os ++ [(h, o)]⟩).map QG.que = (qs.map QG.que).set k (qs[k].price, A', qs[k].os.length + 1, c') := by
      rw [List.map_set]
      simp [QG.que]
    unfold RankQ
    rw [e2]
    rw [List.pairwise_iff_getElem]
    intro i j hi1 hj1 hij
    have h0 := List.pairwise_iff_getElem.1 hi.rank i j (by simpa using hi1) (by simpa using hj1) hij
    simp only [List.getElem_map, QG.que] at h0
    simp only [List.getElem_set, List.getElem_map, QG.que]
    split <;> split <;> simp_all
  · intro q hq
    obtain ⟨i, hi1, rfl⟩ := List.mem_iff_getElem.1 hq
    rw [List.getElem_set]
    split
    · simp
    · exact hne i (by simpa using hi1) (fun e => by omega)
  · rw [upH_self]
    have := ins_queue hi (h, o) hk hkl hp ⟨qs[k].price, A', c', qs[k].os ++ [(h, o)]⟩ rfl
    rw [ha] at this
    exact this.symm

variable {w w5 w6 : World} {b a r : Nat} {F F' : Nat → Prop} {reg' : Nat → Int} {m gg cap : Nat}
theorem addDone_market (hS : BookS M n f H) (hs : Is12 s) (ho : o.side = s) (hk : o.kind = 2) (hok : OkO o) (hno : M h.1 h.2 = none) (hf : f o.id = none)
    (hM5 : BookM w5 b a F' (withO M h.1 h.2 (some o)) (n + 1) r (updI f o.id (some (placeV (h, o)))) H reg') (hS5 : BStep w w5 (BFp b r F H) (BFp b r F' H)) (hm : (H s).ms.length = m)
    (hK6 : Keeps (fun i => (Value.slice (H s).mA m (H s).mc).ownBlock = some i) w5 w6) (hO6 : w6.ownsRow 0 155 2 (.slice (some ⟨gg, 0, none⟩) (m + 1) cap) (m + 1) (flat encH (hndL (H s).ms) ++ encH h))
    (hA6 : (Value.slice (H s).mA m (H s).mc).ownBlock = some gg ∨ gg = w5.heap.size + 1) :
    AddDone w (w6.setCell ⟨b, hoff s, none⟩ (.slice (some ⟨gg, 0, none⟩) (m + 1) cap)) b a r F n H o := by
  subst hm
  rw [own_slice] at hK6 hA6
  have hl : ((H s).ms ++ [(h, o)]).length = (H s).ms.length + 1 := by simp
  have hR : RowAt w6 (some ⟨gg, 0, none⟩) ((H s).ms ++ [(h, o)]).length cap 155 2 (flat encH (hndL ((H s).ms ++ [(h, o)]))) := by
    rw [hl]
    have e : flat encH (hndL ((H s).ms ++ [(h, o)])) = flat encH (hndL (H s).ms) ++ encH h := by unfold hndL; rw [List.map_append, flat_append]; simp [flat]
    rw [e]
    exact hO6
  obtain ⟨reg2, hM, hB⟩ := hM5.market hs hK6 hR (fun g hg => by cases hg; exact hA6.imp id (fun e => by show _ ≤ gg; omega))
  rw [hl] at hM hB
  obtain ⟨h1, h2⟩ := done_market hS hs ho hk hok hno hf (some ⟨gg, 0, none⟩) cap
  refine ⟨F', _, _, _, reg2, hM, h1, hS5.trans hB, ?_, fun s' hs' => upH_other (by rw [← ho]; exact hs')⟩
  rw [ho]
  exact h2

/-- behind the search for the queue -/
def Add20 (w wx : World) (b a r : Nat) (F F' : Nat → Prop) (M' : Int → Int → Option Ord5) (n : Nat) (f' : Int → Option Value) (H : Int → HS) (s p : Int) (k pb : Nat) : Prop :=
  ∃ (H1 : Int → HS) (reg1 : Nat → Int) (qA : Option Addr) (qc : Nat) (qs : List QG), BookM wx b a F' M' (n + 1) r f' H1 reg1 ∧ BStep w wx (BFp b r F H) (BFp b r F' H1) ∧ H1 = upH H s ⟨(H s).mA, (H s).mc, qA, qc, (H s).ms, qs⟩ ∧
    HalfIs s (H s).ms qs ∧ hOrd (H s).ms qs = (H s).all ∧ ¬ BFp b r F' H1 pb ∧ ∃ hkl : k < qs.length, qs[k].price = p ∧ ∀ i (hi : i < qs.length), i ≠ k → qs[i].os ≠ []
theorem upH_eta (H : Int → HS) (s : Int) : upH H s ⟨(H s).mA, (H s).mc, (H s).qA, (H s).qc, (H s).ms, (H s).qs⟩ = H := by
  funext s'
  unfold upH
  split
  · rename_i e; rw [e]
  · rfl
theorem add20_found {M' : Int → Int → Option Ord5} {f' : Int → Option Value} {p : Int} {k pb : Nat} (hnp : ¬ BFp b r F' H pb) (hS : BookS M n f H) (hs : Is12 s) (hM5 : BookM w5 b a F' M' (n + 1) r f' H reg') (hS5 : BStep w w5 (BFp b r F H) (BFp b r F' H))
    (hf : foundB s p ((H s).qs.map QG.que) (H s).qs.length k = true) : Add20 w w5 b a r F F' M' n f' H s p k pb := by
  unfold foundB at hf
  rw [Bool.and_eq_true, decide_eq_true_iff] at hf
  obtain ⟨hk, hf⟩ := hf
  refine ⟨H, reg', (H s).qA, (H s).qc, (H s).qs, hM5, hS5, (upH_eta H s).symm, hS.is s hs, rfl, hnp, hk, ?_, fun i hi _ => hS.ne s hs _ (List.getElem_mem _)⟩
  have e1 : ((H s).qs.map QG.que)[k]? = some (H s).qs[k].que := by simp [hk]
  rw [e1] at hf
  have h0 : cmpQ s (H s).qs[k].price p = 0 := by simpa [QG.que] using hf
  unfold cmpQ at h0
  split at h0
  · assumption
  · split at h0 <;> omega
theorem add20_new {M' : Int → Int → Option Ord5} {f' : Int → Option Value} {p : Int} {k pb : Nat} (hnp : ¬ BFp b r F' H pb) (hpl : pb < w5.heap.size) {A' : Option Addr} {c' : Nat} {v : Value} (hS : BookS M n f H) (hs : Is12 s) (hM5 : BookM w5 b a F' M' (n + 1) r f' H reg') (hS5 : BStep w w5 (BFp b r F H) (BFp b r F' H))
    (hk : FoundK s p ((H s).qs.map QG.que) (H s).qs.length k) (hf : foundB s p ((H s).qs.map QG.que) (H s).qs.length k = false)
    (hI : InsTo w5 w6 (H s).qA A' ((H s).qs.length + 1) c' (((H s).qs.map QG.que).take k ++ (p, none, 0, 0) :: ((H s).qs.map QG.que).drop k)) (hv : v = .slice A' ((H s).qs.length + 1) c') :
    Add20 w (w6.setCell ⟨b, hoff s + 1, none⟩ v) b a r F F' M' n f' H s p k pb := by
  subst hv
  obtain ⟨hR, hK, hat⟩ := hI
  have hkl := hk.1
  have hl := insQ_length hkl p
  rw [← insQ_que, ← hl] at hR
  obtain ⟨reg2, hM, hB⟩ := hM5.queues hs hK hR hat (fun q hq => (insQ_mem hq).imp id (fun e => by subst e; exact ⟨rfl, rfl, rfl⟩)) (by rw [insQ_fm]; exact (hM5.hx s hs).nd)
  obtain ⟨h1, h2⟩ := insQ_half hs (hS.is s hs) hk hf
  rw [hl] at hM hB
  have hkq : k < (insQ (H s).qs k p).length := by omega
  have hat := insQ_at hkl p
  rw [List.getElem?_eq_getElem hkq] at hat
  refine ⟨_, reg2, A', c', insQ (H s).qs k p, hM, hS5.trans hB, rfl, h1, h2, (fun hi => (hB.2 pb hi).elim hnp (by omega)), hkq, by rw [Option.some.inj hat], fun i hi hik e => ?_⟩
  have hmem := insQ_mem (List.getElem_mem hi)
  rcases hmem with h3 | h3
  · exact hS.ne s hs _ h3 e
  · -- another empty queue of that price: ranks differ
    have hr := h1.rank
    rcases Nat.lt_or_gt_of_ne hik with hlt | hgt
    · have h4 := rank_at hr hkq hlt
      rw [h3, Option.some.inj hat, betB_irrefl] at h4
      cases h4
    · have h4 := rank_at hr hi hgt
      rw [h3, Option.some.inj hat, betB_irrefl] at h4
      cases h4
theorem addDone_queue {k qg : Nat} {H1 : Int → HS} {qA : Option Addr} {qc : Nat} {qs : List QG} (hS : BookS M n f H) (hs : Is12 s) (ho : o.side = s) (hk : o.kind ≠ 2) (hok : OkO o) (hno : M h.1 h.2 = none) (hf : f o.id = none)
    (hM5 : BookM w5 b a F' (withO M h.1 h.2 (some o)) (n + 1) r (updI f o.id (some (placeV (h, o)))) H1 reg') (hS5 : BStep w w5 (BFp b r F H) (BFp b r F' H1)) (hH : H1 = upH H s ⟨(H s).mA, (H s).mc, qA, qc, (H s).ms, qs⟩)
    (hi : HalfIs s (H s).ms qs) (ha : hOrd (H s).ms qs = (H s).all) (hkl : k < qs.length) (hp : qs[k].price = o.price) (hne : ∀ i (hi : i < qs.length), i ≠ k → qs[i].os ≠ []) (hq : qA = some ⟨qg, 0, none⟩) (hm : qs[k].os.length = m)
    (hK6 : Keeps (fun i => (Value.slice qs[k].A m qs[k].c).ownBlock = some i) w5 w6) (hO6 : w6.ownsRow 0 155 2 (.slice (some ⟨gg, 0, none⟩) (m + 1) cap) (m + 1) (flat encH (hndL qs[k].os) ++ encH h))
    (hA6 : (Value.slice qs[k].A m qs[k].c).ownBlock = some gg ∨ gg = w5.heap.size + 1) :
    AddDone w (w6.setCell ⟨qg, k * 2 + 1, none⟩ (.slice (some ⟨gg, 0, none⟩) (m + 1) cap)) b a r F n H o := by
  subst hm
  subst hH
  rw [own_slice] at hK6 hA6
  have hl : (qs[k].os ++ [(h, o)]).length = qs[k].os.length + 1 := by simp
  have hR : RowAt w6 (some ⟨gg, 0, none⟩) (qs[k].os ++ [(h, o)]).length cap 155 2 (flat encH (hndL (qs[k].os ++ [(h, o)]))) := by
    rw [hl]
    have e : flat encH (hndL (qs[k].os ++ [(h, o)])) = flat encH (hndL qs[k].os) ++ encH h := by unfold hndL; rw [List.map_append, flat_append]; simp [flat]
    rw [e]
    exact hO6
  have eS : upH H s ⟨(H s).mA, (H s).mc, qA, qc, (H s).ms, qs⟩ s = ⟨(H s).mA, (H s).mc, qA, qc, (H s).ms, qs⟩ := upH_self _ _ _
  have hX := hM5.queue (s := s) hs (w3 := w6) (k := k) (by rw [eS]; exact hkl) (qg := qg) (by rw [eS]; exact hq) (A' := some ⟨gg, 0, none⟩) (c' := cap) (os' := qs[k].os ++ [(h, o)])
    (by simpa only [eS] using hK6) hR (fun g hg => by cases hg; simp only [eS]; exact hA6.imp id (fun e => by show _ ≤ gg; omega))
  rw [hl] at hX
  simp only [eS] at hX
  obtain ⟨reg2, hM, hB⟩ := hX
  have e2 : upH (upH H s ⟨(H s).mA, (H s).mc, qA, qc, (H s).ms, qs⟩) s ⟨(H s).mA, (H s).mc, qA, qc, (H s).ms, qs.set k ⟨qs[k].price, some ⟨gg, 0, none⟩, cap, qs[k].os ++ [(h, o)]⟩⟩ = upH H s ⟨(H s).mA, (H s).mc, qA, qc, (H s).ms, qs.set k ⟨qs[k].price, some ⟨gg, 0, none⟩, cap, qs[k].os ++ [(h, o)]⟩⟩ := by
    funext s'
    unfold upH
    split <;> rfl
  rw [e2] at hM hB
  obtain ⟨h1, h2⟩ := done_queue hS hs ho hk hok hno hf qA qc qs hi ha hkl hp hne (some ⟨gg, 0, none⟩) cap
  refine ⟨F', _, _, _, reg2, hM, h1, hS5.trans hB, ?_, fun s' hs' => upH_other (by rw [← ho]; exact hs')⟩
  rw [ho]
  exact h2
end
end Go.Proofs.YtkcgchpbjegneaaGreatDoor
namespace Go.Proofs.YtkcgchpbjegneaaGreatDoor
open Go.RowKit
set_option linter.unusedVariables false

/-- behind the look into the map -/
def Add8 (w wx : World) (b a : Nat) (F : Nat → Prop) (M : Int → Int → Option Ord5) (n r : Nat) (f : Int → Option Value) (H : Int → HS) (reg : Nat → Int) (o : Ord5) : Prop :=
  Below w.heap.size w wx ∧ BookM wx b a F M n r f H reg ∧ Blk wx w.heap.size 24 (boxO o)
/-- what Put tells and leaves -/
def PutP (W : World) (a : Nat) (F : Nat → Prop) (M : Int → Int → Option Ord5) (n : Nat) (o : Ord5) (e : Ending) (w' : World) : Prop :=
  ∃ sl ag : Int, M sl ag = none ∧ e = .returned (.tuple #[.agg #[.int .i64 sl, .int .i64 ag], .nilIface]) ∧ OArTo W w' a F (withO M sl ag (some o)) 100 (n + 1)
/-- behind Put -/
def Add11 (w wx : World) (b a : Nat) (F : Nat → Prop) (M : Int → Int → Option Ord5) (n r : Nat) (f : Int → Option Value) (H : Int → HS) (o : Ord5) (s8 : Value) : Prop :=
  ∃ (h : Int × Int) (pb : Nat) (F' : Nat → Prop) (reg' : Nat → Int), s8 = .pointer (some ⟨pb, 0, none⟩) ∧ M h.1 h.2 = none ∧ Blk wx pb 155 #[.int .i64 h.1, .int .i64 h.2] ∧ Blk wx w.heap.size 24 (boxO o) ∧
    BookM wx b a F' (withO M h.1 h.2 (some o)) (n + 1) r f H reg' ∧ BStep w wx (BFp b r F H) (BFp b r F' H) ∧ ¬ BFp b r F' H pb ∧ ¬ BFp b r F' H w.heap.size

theorem add8_of {w w1 wx : World} {b a n r : Nat} {F : Nat → Prop} {M : Int → Int → Option Ord5} {f : Int → Option Value} {H : Int → HS} {reg : Nat → Int} {o : Ord5} (h : Add8 w w1 b a F M n r f H reg o) (hb : Below w1.heap.size w1 wx) : Add8 w wx b a F M n r f H reg o := by
  obtain ⟨h1, h2, h3⟩ := h
  exact ⟨h1.trans (hb.mono h1.size), h2.below hb, Blk.keep h3 hb⟩

/-- behind an order appended to its queue -/
def Add22 (wc wx : World) (qg k m : Nat) (A : Option Addr) (c : Nat) (xs : List Value) : Prop :=
  ∃ gg cap w6, wx = World.setCell w6 ⟨qg, k * 2 + 1, none⟩ (.slice (some ⟨gg, 0, none⟩) (m + 1) cap) ∧ Keeps (fun i => (Value.slice A m c).ownBlock = some i) wc w6 ∧ w6.ownsRow 0 155 2 (.slice (some ⟨gg, 0, none⟩) (m + 1) cap) (m + 1) xs ∧ ((Value.slice A m c).ownBlock = some gg ∨ gg = wc.heap.size + 1)
theorem keep_alloc {w : World} {o : Obj} {p : Addr} {v : Value} (h : w.cell? p = some v) : (w.alloc o).cell? p = some v := (World.cell?_alloc_lt w o p (World.block_lt_of_cell? w _ h)).trans h
theorem keep4_alloc {w : World} {o : Obj} {p1 p2 p3 p4 : Addr} {v1 v2 v3 v4 : Value} (h : w.cell? p1 = some v1 ∧ w.cell? p2 = some v2 ∧ w.cell? p3 = some v3 ∧ w.cell? p4 = some v4) :
    (w.alloc o).cell? p1 = some v1 ∧ (w.alloc o).cell? p2 = some v2 ∧ (w.alloc o).cell? p3 = some v3 ∧ (w.alloc o).cell? p4 = some v4 := ⟨keep_alloc h.1, keep_alloc h.2.1, keep_alloc h.2.2.1, keep_alloc h.2.2.2⟩
theorem keep3_alloc {w : World} {o : Obj} {p1 p2 p3 : Addr} {v1 v2 v3 : Value} (h : w.cell? p1 = some v1 ∧ w.cell? p2 = some v2 ∧ w.cell? p3 = some v3) :
    (w.alloc o).cell? p1 = some v1 ∧ (w.alloc o).cell? p2 = some v2 ∧ (w.alloc o).cell? p3 = some v3 := ⟨keep_alloc h.1, keep_alloc h.2.1, keep_alloc h.2.2⟩
theorem ms_len {n m : Nat} {H : Int → HS} {s : Int} (hs : Is12 s) (hm : (H s).ms.length = m) (h1 : n = (allH H).length) (h2 : n < 100) : m ≤ 1000 := by
  unfold allH HS.all hOrd at h1
  simp only [List.length_append] at h1
  rcases hs with rfl | rfl <;> omega
theorem qs_len {M : Int → Int → Option Ord5} {n : Nat} {f : Int → Option Value} {H : Int → HS} {s : Int} (hs : Is12 s) (hS : BookS M n f H) (h2 : n < 100) : (H s).qs.length ≤ 100000 := by
  have h1 := hS.cnt
  have h3 : (H s).qs.length ≤ (qOrd (H s).qs).length := by
    have hne := hS.ne s hs
    generalize (H s).qs = l at hne
    induction l with
    | nil => simp
    | cons q l ih =>
      have ih := ih (fun q hq => hne q (by simp [hq]))
      have h0 : 0 < q.os.length := List.length_pos_iff.2 (hne q (by simp))
      have e : qOrd (q :: l) = q.os ++ qOrd l := rfl
      rw [e, List.length_append, List.length_cons]
      omega
  unfold allH HS.all hOrd at h1
  simp only [List.length_append] at h1
  rcases hs with rfl | rfl <;> omega
theorem handle_info : (Tryz.prog.info? 155).map (fun i => (i.zero, i.size, i.bytes)) = some (some (.agg #[.int .i64 0, .int .i64 0]), 2, 16) := by kernel_rfl
theorem Is12_1 : Is12 1 := .inl rfl
theorem Is12_2 : Is12 2 := .inr rfl
theorem put_box {wc w5 : World} {a most n n' : Nat} {F : Nat → Prop} {M M' : Int → Int → Option Ord5} (hA : OAr wc a F M most n) (hto : OArTo ((wc.alloc (.cells #[.int .i64 0, .int .i64 0] 155)).drew) w5 a F M' 100 n') : Blk w5 wc.heap.size 155 #[.int .i64 0, .int .i64 0] := by
  obtain ⟨F', _, hK, _⟩ := hto
  exact Blk.keeps (Blk.drew (Blk.new wc _ _)) hK (fun h => by have := hA.fp h; omega)
theorem add11_of {w wc W w5 wx : World} {b a n r pb : Nat} {F : Nat → Prop} {M : Int → Int → Option Ord5} {f : Int → Option Value} {H : Int → HS} {reg : Nat → Int} {o : Ord5} {sl ag : Int} (hM : BookM w b a F M n r f H reg) (h : Add8 w wc b a F M n r f H reg o)
    (hW : Below wc.heap.size wc W) (hno : M sl ag = none) (hto : OArTo W w5 a F (withO M sl ag (some o)) 100 (n + 1)) (hk : Keeps (fun i => i = pb) w5 wx) (hpb : pb < W.heap.size ∨ w5.heap.size ≤ pb) (hwp : wc.heap.size ≤ pb)
    (hB : Blk wx pb 155 #[.int .i64 sl, .int .i64 ag]) : Add11 w wx b a F M n r f H o (.pointer (some ⟨pb, 0, none⟩)) := by
  obtain ⟨h1, h2, h3⟩ := h
  have hMW := h2.below hW
  obtain ⟨F', reg', hM5, hS5⟩ := hMW.arena hto
  have hsz := hS5.1.size
  have hxl := Blk.lt h3
  have hws := hW.size
  have h1s := h1.size
  have hx : ∀ i, BFp b r F' H i → i ≠ pb := by
    intro i hi e
    subst e
    have h5 := hM5.fp hi
    rcases hS5.2 i hi with h6 | h6
    · have := h2.fp h6; omega
    · omega
  refine ⟨(sl, ag), pb, F', reg', rfl, hno, hB, ?_, hM5.keeps hk (fun i hi e => hx i hi e), ⟨?_, ?_⟩, fun h => hx pb h rfl, ?_⟩
  · refine Blk.keeps (Blk.keeps (Blk.keep h3 hW) hS5.1 (fun hi => ?_)) hk (fun e => by omega)
    have := hM.fp hi
    omega
  · refine (((Keeps.of_below (h1.trans (hW.mono h1s)) (BFp b r F H)).trans hS5.1 (fun i h => .inl h))).trans hk (fun i e => .inr (by rw [e]; omega))
  · intro i hi
    rcases hS5.2 i hi with h6 | h6
    · exact .inl h6
    · exact .inr (by omega)
  · intro hi
    rcases hS5.2 _ hi with h6 | h6
    · have := hM.fp h6; omega
    · omega
theorem add8_price {w w1 : World} {b a n r : Nat} {F : Nat → Prop} {M : Int → Int → Option Ord5} {f : Int → Option Value} {H : Int → HS} {reg : Nat → Int} {o : Ord5} (hM : BookM w b a F M n r f H reg) (h : Add8 w w1 b a F M n r f H reg o) (hk : (o.kind == 2) = true) :
    Add8 w (w1.setCell ⟨w.heap.size, 3, none⟩ (.int .i64 1)) b a F M n r f H reg (pricedO o) := by
  obtain ⟨h1, h2, h3⟩ := h
  have hk4 := Keeps.set_ w1 ⟨w.heap.size, 3, none⟩ (.int .i64 1)
  have hk' : o.kind = 2 := by simpa using hk
  refine ⟨((Keeps.of_below h1 (fun i => i = w.heap.size)).trans hk4 (fun i h => .inl h)).below (fun i hi => by rw [hi]; exact Nat.le_refl _) (Nat.le_refl _), h2.keeps hk4 (fun i hi e => ?_), ?_⟩
  · have := hM.fp hi
    have e' : i = w.heap.size := e
    omega
  · have := Blk.set_ h3 3 (.int .i64 1)
    have e : (boxO o).setIfInBounds 3 (.int .i64 1) = boxO (pricedO o) := by unfold boxO pricedO; rw [if_pos hk']; rfl
    rwa [e] at this
theorem priced_no {o : Ord5} (hk : (o.kind == 2) = false) : pricedO o = o := by
  have hk' : ¬ o.kind = 2 := by simpa using hk
  unfold pricedO
  rw [if_neg hk']

end Go.Proofs.YtkcgchpbjegneaaGreatDoor
namespace Go.Proofs.YtkcgchpbjegneaaGreatDoor
open Go.RowKit
set_option linter.unusedVariables false

/-- the book with an order less -/
def LessDone (w w' : World) (b a r : Nat) (F : Nat → Prop) (n : Nat) (H : Int → HS) (s id : Int) : Prop :=
  ∃ F' M' f' H' reg', BookM w' b a F' M' (n - 1) r f' H' reg' ∧ BookS M' (n - 1) f' H' ∧ BStep w w' (BFp b r F H) (BFp b r F' H') ∧ (H' s).L = remI (H s).L id ∧ ∀ s', s' ≠ s → H' s' = H s'

theorem hnd_filter (l : List HO) (h : Int × Int) : hndL (l.filter (notH h)) = (hndL l).filter fun p => !isH h p := by
  unfold hndL notH
  rw [List.filter_map]
  rfl
theorem ord_filter_length (l : List HO) (h : Int × Int) : ((hndL l).filter fun p => !isH h p).length = (l.filter (notH h)).length := by
  rw [← hnd_filter]
  simp [hndL]
theorem qOrd_filter (qs : List QG) (p : HO → Bool) : (qOrd qs).filter p = qs.flatMap fun q => q.os.filter p := by
  unfold qOrd
  rw [List.filter_flatMap]

section
variable {M : Int → Int → Option Ord5} {n : Nat} {f : Int → Option Value} {H : Int → HS} {s : Int} {x : HO}
/-- an order that lies: at any price, or in the queue of its price -/
theorem BookS.where_ (S : BookS M n f H) (hs : Is12 s) (hx : x ∈ (H s).all) : (x.2.kind = 2 ∧ x ∈ (H s).ms) ∨ (x.2.kind ≠ 2 ∧ ∃ k, ∃ hk : k < (H s).qs.length, x ∈ (H s).qs[k].os ∧ (H s).qs[k].price = x.2.price) := by
  rcases List.mem_append.1 hx with h | h
  · exact .inl ⟨((S.is s hs).mkt x h).1, h⟩
  · obtain ⟨q, hq, hxq⟩ := List.mem_flatMap.1 h
    obtain ⟨k, hk, rfl⟩ := List.mem_iff_getElem.1 hq
    have h1 := (S.is s hs).qk _ hq x hxq
    exact .inr ⟨h1.1, k, hk, hxq, h1.2.2.symm⟩
/-- the search finds it -/
theorem found_at {ms : List HO} {qs : List QG} (hi : HalfIs s ms qs) {j k : Nat} {p : Int} (hj : j < qs.length) (hp : qs[j].price = p) (hf : FoundK s p (qs.map QG.que) qs.length k) : k = j := by
  obtain ⟨hk, hlo, hhi⟩ := hf
  have h0 : cmpQ s p p = 0 := by unfold cmpQ; rw [if_pos rfl]
  rcases Nat.lt_trichotomy k j with h | h | h
  · have h1 := rank_at hi.rank hj h
    rw [hp] at h1
    have h2 := hhi k (by simp; omega) (Nat.le_refl _)
    simp only [List.getElem_map] at h2
    have h3 : cmpQ s (qs[k]'(by omega)).price p < 0 := cmpQ_neg.2 h1
    have h4 : cmpQ s (qs[k]'(by omega)).que.1 p = cmpQ s (qs[k]'(by omega)).price p := rfl
    omega
  · exact h
  · have h2 := hlo j (by simpa using hj) h
    simp only [List.getElem_map] at h2
    have h4 : cmpQ s qs[j].que.1 p = cmpQ s qs[j].price p := rfl
    rw [h4, hp, h0] at h2
    omega

theorem less_market (S : BookS M n f H) (hs : Is12 s) (hx : x ∈ (H s).all) (hk : x.2.kind = 2) (A' : Option Addr) (c' : Nat) :
    BookS (withO M x.1.1 x.1.2 none) (n - 1) (updI f x.2.id none) (upH H s ⟨A', c', (H s).qA, (H s).qc, (H s).ms.filter (notH x.1), (H s).qs⟩) ∧
      (upH H s ⟨A', c', (H s).qA, (H s).qc, (H s).ms.filter (notH x.1), (H s).qs⟩ s).L = remI (H s).L x.2.id := by
  have hi := S.is s hs
  have hall : hOrd ((H s).ms.filter (notH x.1)) (H s).qs = (H s).all.filter (notH x.1) := by
    show _ = (hOrd (H s).ms (H s).qs).filter _
    unfold hOrd
    rw [List.filter_append]
    congr 1
    symm
    rw [List.filter_eq_self]
    intro y hy
    rw [notH_iff]
    intro e
    have hy' : y ∈ (H s).all := List.mem_append_right _ hy
    have := S.same_h (mem_allH hs hy') (mem_allH hs hx) e
    subst this
    obtain ⟨q, hq, hyq⟩ := List.mem_flatMap.1 hy
    exact (hi.qk q hq y hyq).1 hk
  refine ⟨S.remove hs hx hall ⟨fun y hy => hi.mkt y ((List.mem_filter.1 hy).1), hi.qk, hi.rank⟩ (S.ne s hs), ?_⟩
  rw [upH_self]
  show ordL (hOrd _ _) = _
  rw [hall]
  exact S.filter_id (mem_allH hs hx) hs

theorem mid_filter (S : BookS M n f H) (hs : Is12 s) {k : Nat} (hk : k < (H s).qs.length) (hx : x ∈ (H s).qs[k].os) (hxa : x ∈ (H s).all) :
    (H s).all.filter (notH x.1) = (H s).ms ++ (qOrd ((H s).qs.take k) ++ ((H s).qs[k].os.filter (notH x.1) ++ qOrd ((H s).qs.drop (k + 1)))) := by
  have hi := S.is s hs
  have hnd : (allH H).Nodup := List.Pairwise.imp (fun h e => h (by rw [e])) (List.pairwise_map.1 S.ids)
  have hnd2 : (H s).all.Nodup := by
    unfold allH at hnd
    rw [List.nodup_append] at hnd
    rcases hs with rfl | rfl
    · exact hnd.1
    · exact hnd.2.1
  have e0 : (H s).all = (H s).ms ++ (qOrd ((H s).qs.take k) ++ ((H s).qs[k].os ++ qOrd ((H s).qs.drop (k + 1)))) := by
    show hOrd _ _ = _
    unfold hOrd
    rw [qOrd_split _ hk]
  have keep : ∀ l : List HO, (∀ y ∈ l, y ∈ (H s).all) → x ∉ l → l.filter (notH x.1) = l := by
    intro l hl hxl
    rw [List.filter_eq_self]
    intro y hy
    rw [notH_iff]
    intro e
    have := S.same_h (mem_allH hs (hl y hy)) (mem_allH hs hxa) e
    subst this
    exact hxl hy
  rw [e0] at hnd2
  rw [List.nodup_append, List.nodup_append, List.nodup_append] at hnd2
  obtain ⟨_, ⟨_, ⟨_, _, d3⟩, d2⟩, d1⟩ := hnd2
  rw [e0, List.filter_append, List.filter_append, List.filter_append]
  rw [keep (H s).ms (fun y hy => by rw [e0]; simp [hy]) (fun h => d1 x h x (by simp [hx]) rfl)]
  rw [keep (qOrd ((H s).qs.take k)) (fun y hy => by rw [e0]; simp [hy]) (fun h => d2 x h x (by simp [hx]) rfl)]
  rw [keep (qOrd ((H s).qs.drop (k + 1))) (fun y hy => by rw [e0]; simp [hy]) (fun h => d3 x hx x h rfl)]

/-- .. others of its queue lie yet -/
theorem less_queue (S : BookS M n f H) (hs : Is12 s) {k : Nat} (hk : k < (H s).qs.length) (hx : x ∈ (H s).qs[k].os) (hxa : x ∈ (H s).all) (hne : (H s).qs[k].os.filter (notH x.1) ≠ []) (A' : Option Addr) (c' : Nat) :
    BookS (withO M x.1.1 x.1.2 none) (n - 1) (updI f x.2.id none) (upH H s ⟨(H s).mA, (H s).mc, (H s).qA, (H s).qc, (H s).ms, (H s).qs.set k ⟨(H s).qs[k].price, A', c', (H s).qs[k].os.filter (notH x.1)⟩⟩) ∧
      (upH H s ⟨(H s).mA, (H s).mc, (H s).qA, (H s).qc, (H s).ms, (H s).qs.set k ⟨(H s).qs[k].price, A', c', (H s).qs[k].os.filter (notH x.1)⟩⟩ s).L = remI (H s).L x.2.id := by
  have hi := S.is s hs
  have hall : hOrd (H s).ms ((H s).qs.set k ⟨(H s).qs[k].price, A', c', (H s).qs[k].os.filter (notH x.1)⟩) = (H s).all.filter (notH x.1) := by
    rw [mid_filter S hs hk hx hxa]
    unfold hOrd
    rw [qOrd_set _ hk]
  refine ⟨S.remove hs hxa hall ⟨hi.mkt, fun q hq y hy => ?_, ?_⟩ (fun q hq => ?_), ?_⟩
  · rcases List.mem_or_eq_of_mem_set hq with hq | rfl
    · exact hi.qk q hq y hy
    · exact hi.qk _ (List.getElem_mem _) y ((List.mem_filter.1 hy).1)
  · have e2 : ((H s).qs.set k ⟨(H s).qs[k].price, A', c', (H s).qs[k].os.filter (notH x.1)⟩).map QG.que = ((H s).qs.map QG.que).set k ((H s).qs[k].price, A', ((H s).qs[k].os.filter (notH x.1)).length, c') := by
      rw [List.map_set]
      simp [QG.que]
    show RankQ s (List.map QG.que _)
    unfold RankQ
    rw [e2, List.pairwise_iff_getElem]
    intro i j hi1 hj1 hij
    have h0 := List.pairwise_iff_getElem.1 hi.rank i j (by simpa using hi1) (by simpa using hj1) hij
    simp only [List.getElem_map, QG.que] at h0
    simp only [List.getElem_set, List.getElem_map, QG.que]
    split <;> split <;> simp_all
  · rcases List.mem_or_eq_of_mem_set hq with hq | rfl
    · exact S.ne s hs q hq
    · exact hne
  · rw [upH_self]
    show ordL (hOrd _ _) = _
    rw [hall]
    exact S.filter_id (mem_allH hs hxa) hs
/-- .. it was the last one of its queue -/
theorem less_last (S : BookS M n f H) (hs : Is12 s) {k : Nat} (hk : k < (H s).qs.length) (hx : x ∈ (H s).qs[k].os) (hxa : x ∈ (H s).all) (hne : (H s).qs[k].os.filter (notH x.1) = []) (A' : Option Addr) (c' : Nat) :
    BookS (withO M x.1.1 x.1.2 none) (n - 1) (updI f x.2.id none) (upH H s ⟨(H s).mA, (H s).mc, A', c', (H s).ms, (H s).qs.take k ++ (H s).qs.drop (k + 1)⟩) ∧
      (upH H s ⟨(H s).mA, (H s).mc, A', c', (H s).ms, (H s).qs.take k ++ (H s).qs.drop (k + 1)⟩ s).L = remI (H s).L x.2.id := by
  have hi := S.is s hs
  have hall : hOrd (H s).ms ((H s).qs.take k ++ (H s).qs.drop (k + 1)) = (H s).all.filter (notH x.1) := by
    rw [mid_filter S hs hk hx hxa, hne]
    unfold hOrd qOrd
    rw [List.flatMap_append]
    rfl
  have hmem : ∀ q ∈ (H s).qs.take k ++ (H s).qs.drop (k + 1), q ∈ (H s).qs := by
    intro q hq
    rcases List.mem_append.1 hq with hq | hq
    · exact List.mem_of_mem_take hq
    · exact List.mem_of_mem_drop hq
  refine ⟨S.remove hs hxa hall ⟨hi.mkt, fun q hq y hy => hi.qk q (hmem q hq) y hy, ?_⟩ (fun q hq => S.ne s hs q (hmem q hq)), ?_⟩
  · show RankQ s (List.map QG.que _)
    have := hi.rank
    unfold RankQ at this ⊢
    rw [List.map_append, List.map_take, List.map_drop]
    have hsub : List.Sublist ((List.map QG.que (H s).qs).take k ++ (List.map QG.que (H s).qs).drop (k + 1)) (List.map QG.que (H s).qs) := by
      conv => rhs; rw [← List.take_append_drop k (List.map QG.que (H s).qs)]
      refine List.Sublist.append (List.Sublist.refl _) ?_
      rw [← List.drop_drop]
      exact List.drop_sublist _ _
    exact List.Pairwise.sublist hsub this
  · rw [upH_self]
    show ordL (hOrd _ _) = _
    rw [hall]
    exact S.filter_id (mem_allH hs hxa) hs
theorem nodup_fm_erase {α : Type} (g : α → Option Nat) (l : List α) (k : Nat) (h : (l.filterMap g).Nodup) : ((l.take k ++ l.drop (k + 1)).filterMap g).Nodup := by
  refine List.Nodup.sublist (List.Sublist.filterMap _ ?_) h
  conv => rhs; rw [← List.take_append_drop k l]
  refine List.Sublist.append (List.Sublist.refl _) ?_
  rw [← List.drop_drop]
  exact List.drop_sublist _ _
end
end Go.Proofs.YtkcgchpbjegneaaGreatDoor
