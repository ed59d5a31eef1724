/-
  The walks of Indic.right, has, Add, Take.
-/
import Derived.WalkKit
import Derived.WalkLawsBesides
import Derived.WalkSpells
import Derived.Deep.DeepCutAuto
import Derived.Deep.CutBlock
import Derived.Deep.QuietTactic
import Derived.BigQuiet
import Derived.BigRegion
import Derived.Deep.RegionWith
import Derived.Test.YteggaehelnmhnaaDoorHeldT
import Derived.Test.YteggaehelnmhnaaDoorIndChange
namespace Go.Proofs.YteggaehelnmhnaaDoor
open Go.RowKit
set_option linter.unusedVariables false
set_option linter.unusedSimpArgs false

/-- where an order lies: a price, or at any -/
def keyO (o : Ord5) : Option Int := if o.kind = 2 then none else some o.price
def lotsK (lv : List Tri) (bu se : Int) : Option Int → Int × Int
  | none => (bu, se)
  | some p => lotAt lv p
def hasI (lv : List Tri) (bu se : Int) (o : Ord5) : Int := if o.side = 1 then (lotsK lv bu se (keyO o)).1 else (lotsK lv bu se (keyO o)).2
def ChgSpec (lv : List Tri) (bu se : Int) (o : Ord5) (q : Int) (lv' : List Tri) (bu' se' : Int) : Prop :=
  lv'.length ≤ lv.length + 1 ∧ ∀ k, lotsK lv' bu' se' k = if k = keyO o then ((lotsK lv bu se k).1 + q * dB o, (lotsK lv bu se k).2 + q * dS o) else lotsK lv bu se k
section
variable (w : World) (X : Nat) (t : TypeId) (cs : Array Value) (o : Nat) (A : Option Addr) (c : Nat) (lv : List Tri) (bu se : Int) (h : IndM w X t cs o A c lv bu se) (z : Ord5)
theorem change_any (h : IndM w X t cs o A c lv bu se) (hs : Small lv bu se) (hr : RightO z) (q : Int) (hq : q = 1 ∨ q = -1) (hp : q = -1 → z.qty ≤ hasI lv bu se z) :
    Calls Tryd.prog 17 #[.pointer (some ⟨X, o, none⟩), aggO z, .int .i64 q] w fun e w' => (∃ v, e = .returned v) ∧ ∃ lv' bu' se', IndTo w w' X t cs o A lv' bu' se' ∧ ChgSpec lv bu se z q lv' bu' se' := by
  by_cases hk : z.kind = 2
  · have hkey : keyO z = none := if_pos hk
    refine (change_market w X t cs o A c lv bu se h hs z hr hk q hq (fun e => by have := hp e; unfold hasI at this; rw [hkey] at this; exact this)).mono ?_
    rintro e w' ⟨h1, h2⟩
    refine ⟨h1, _, _, _, h2, Nat.le_succ _, fun k => ?_⟩
    rw [hkey]
    cases k with
    | none => rw [if_pos rfl]; rfl
    | some p => rw [if_neg (by simp)]; rfl
  · have hkey : keyO z = some z.price := if_neg hk
    refine (change_level w X t cs o A c lv bu se h hs z hr hk q hq (fun e => by have := hp e; unfold hasI at this; rw [hkey] at this; exact this)).mono ?_
    rintro e w' ⟨h1, lv', h2, h3, h4⟩
    refine ⟨h1, _, _, _, h2, h3, fun k => ?_⟩
    rw [hkey]
    cases k with
    | none => rw [if_neg (by simp)]; rfl
    | some p =>
      show lotAt lv' p = _
      rw [h4 p]
      by_cases e : p = z.price
      · rw [if_pos e, if_pos (by rw [e])]; rfl
      · rw [if_neg e, if_neg (fun h => e (Option.some.inj h))]; rfl
end

def rightO (o : Ord5) : Bool := ((o.side == 1 || o.side == 2) && decide (1 ≤ o.qty) && decide (o.qty ≤ 1000000)) && (o.kind == 2 || (decide (1 ≤ o.price) && decide (o.price ≤ 1000000)))
theorem rightO_iff (o : Ord5) : rightO o = true ↔ RightO o := by
  unfold rightO RightO
  simp only [Bool.and_eq_true, Bool.or_eq_true, decide_eq_true_eq, beq_iff_eq]
  constructor
  · rintro ⟨⟨⟨a, b⟩, c⟩, d⟩; exact ⟨a, ⟨b, c⟩, d⟩
  · rintro ⟨a, ⟨b, c⟩, d⟩; exact ⟨⟨⟨a, b⟩, c⟩, d⟩

set_option maxRecDepth 100000 in
set_option maxHeartbeats 4000000 in
theorem right_ind (w : World) (z : Ord5) : Calls Tryd.prog 16 #[aggO z] w fun e w' => e = .returned (.bool (rightO z)) ∧ Below w.heap.size w w' := by
  have HB := hid (show Below w.heap.size w (w.alloc (.cells #[.int .i64 z.id, .int .i64 z.side, .int .i64 z.kind, .int .i64 z.price, .int .i64 z.qty] 28)) from (Below.refl _ w).alloc (Nat.le_refl _) _)
  obtain ⟨zi, zs, zk, zp, zq⟩ := z
  obtain ⟨bb, hbb⟩ : ∃ bb, rightO ⟨zi, zs, zk, zp, zq⟩ = bb := ⟨_, rfl⟩
  rw [hbb]
  unfold rightO at hbb
  unfold aggO
  dsimp only at hbb HB ⊢
  go_enter Tryd.func16, Tryd.ntmps16
  by_cases s1 : zs = 1
  · have s1_ := beqT s1
    by_cases q1 : 1 ≤ zq
    · have q1_ := decT q1
      by_cases q2 : zq ≤ 1000000
      · have q2_ := decT q2
        by_cases k : zk = 2
        · have k_ := beqT k
          have e : bb = true := by rw [← hbb]; simp [s1, q1, q2, k]
          subst e
          clear hbb s1 q1 q2 k
          go_wp2
          go_ret
          exact ⟨rfl, HB.out⟩
        · have k_ := beqF k
          by_cases p1 : 1 ≤ zp
          · have p1_ := decT p1
            by_cases p2 : zp ≤ 1000000
            · have p2_ := decT p2
              have e : bb = true := by rw [← hbb]; simp [s1, q1, q2, k, p1, p2]
              subst e
              clear hbb s1 q1 q2 k p1 p2
              go_wp2
              go_ret
              exact ⟨rfl, HB.out⟩
            · have p2_ := decF p2
              have e : bb = false := by rw [← hbb]; simp [s1, q1, q2, k, p1, p2]
              subst e
              clear hbb s1 q1 q2 k p1 p2
              go_wp2
              go_ret
              exact ⟨rfl, HB.out⟩
          · have p1_ := decF p1
            have e : bb = false := by rw [← hbb]; simp [s1, q1, q2, k, p1]
            subst e
            clear hbb s1 q1 q2 k p1
            go_wp2
            go_ret
            exact ⟨rfl, HB.out⟩
      · have q2_ := decF q2
        have e : bb = false := by rw [← hbb]; simp [s1, q1, q2]
        subst e
        clear hbb s1 q1 q2
        go_wp2
        go_ret
        exact ⟨rfl, HB.out⟩
    · have q1_ := decF q1
      have e : bb = false := by rw [← hbb]; simp [s1, q1]
      subst e
      clear hbb s1 q1
      go_wp2
      go_ret
      exact ⟨rfl, HB.out⟩
  · have s1_ := beqF s1
    by_cases s2 : zs = 2
    · have s2_ := beqT s2
      by_cases q1 : 1 ≤ zq
      · have q1_ := decT q1
        by_cases q2 : zq ≤ 1000000
        · have q2_ := decT q2
          by_cases k : zk = 2
          · have k_ := beqT k
            have e : bb = true := by rw [← hbb]; simp [s1, s2, q1, q2, k]
            subst e
            clear hbb s1 s2 q1 q2 k
            go_wp2
            go_ret
            exact ⟨rfl, HB.out⟩
          · have k_ := beqF k
            by_cases p1 : 1 ≤ zp
            · have p1_ := decT p1
              by_cases p2 : zp ≤ 1000000
              · have p2_ := decT p2
                have e : bb = true := by rw [← hbb]; simp [s1, s2, q1, q2, k, p1, p2]
                subst e
                clear hbb s1 s2 q1 q2 k p1 p2
                go_wp2
                go_ret
                exact ⟨rfl, HB.out⟩
              · have p2_ := decF p2
                have e : bb = false := by rw [← hbb]; simp [s1, s2, q1, q2, k, p1, p2]
                subst e
                clear hbb s1 s2 q1 q2 k p1 p2
                go_wp2
                go_ret
                exact ⟨rfl, HB.out⟩
            · have p1_ := decF p1
              have e : bb = false := by rw [← hbb]; simp [s1, s2, q1, q2, k, p1]
              subst e
              clear hbb s1 s2 q1 q2 k p1
              go_wp2
              go_ret
              exact ⟨rfl, HB.out⟩
        · have q2_ := decF q2
          have e : bb = false := by rw [← hbb]; simp [s1, s2, q1, q2]
          subst e
          clear hbb s1 s2 q1 q2
          go_wp2
          go_ret
          exact ⟨rfl, HB.out⟩
      · have q1_ := decF q1
        have e : bb = false := by rw [← hbb]; simp [s1, s2, q1]
        subst e
        clear hbb s1 s2 q1
        go_wp2
        go_ret
        exact ⟨rfl, HB.out⟩
    · have s2_ := beqF s2
      have e : bb = false := by rw [← hbb]; simp [s1, s2]
      subst e
      clear hbb s1 s2
      go_wp2
      go_ret
      exact ⟨rfl, HB.out⟩

set_option maxRecDepth 100000 in
set_option maxHeartbeats 4000000 in
theorem has_market (w : World) (X : Nat) (t : TypeId) (cs : Array Value) (o : Nat) (A : Option Addr) (c : Nat) (lv : List Tri) (bu se : Int) (h : IndM w X t cs o A c lv bu se) (z : Ord5) (hsd : z.side = 1 ∨ z.side = 2) (hk : z.kind = 2) :
    Calls Tryd.prog 18 #[.pointer (some ⟨X, o, none⟩), aggO z] w fun e w' => e = .returned (.int .i64 (if z.side = 1 then bu else se)) ∧ Below w.heap.size w w' := by
  have hbx : Below w.heap.size w (w.alloc (.cells #[.int .i64 z.id, .int .i64 z.side, .int .i64 z.kind, .int .i64 z.price, .int .i64 z.qty] 28)) := (Below.refl _ w).alloc (Nat.le_refl _) _
  have h' := h.below hbx
  obtain ⟨y0, y1, y2⟩ := h'.cells
  have t1 := beqT hk
  obtain ⟨w1, hw1⟩ : ∃ w1, w.alloc (.cells #[.int .i64 z.id, .int .i64 z.side, .int .i64 z.kind, .int .i64 z.price, .int .i64 z.qty] 28) = w1 := ⟨_, rfl⟩
  obtain ⟨Bx, hBx⟩ : ∃ Bx, w.heap.size = Bx := ⟨_, rfl⟩
  have hB1 := Blk.new w 28 #[.int .i64 z.id, .int .i64 z.side, .int .i64 z.kind, .int .i64 z.price, .int .i64 z.qty]
  rw [hw1] at hbx h' y0 y1 y2 hB1
  rw [hBx] at hB1
  have hXl := Blk.lt h'.blk
  have hBl := Blk.lt hB1
  obtain ⟨x1, x2⟩ := (show w1.cell? ⟨Bx, 1, none⟩ = some (.int .i64 z.side) ∧ w1.cell? ⟨Bx, 2, none⟩ = some (.int .i64 z.kind) from ⟨by rw [Blk.cell hB1]; rfl, by rw [Blk.cell hB1]; rfl⟩)
  have HBx := hid hbx
  obtain ⟨v, hv⟩ : ∃ v, (if z.side = 1 then bu else se) = v := ⟨_, rfl⟩
  rw [hv]
  have Hv := hid hv
  unfold aggO
  clear h h' hbx hB1 y0
  rcases hsd with hsd | hsd
  · have i1 : RowKit.wrap64 (z.side - 1) = 0 := by unfold RowKit.wrap64; omega
    have Hsd := hid hsd
    clear hsd hv hk
    go_enter Tryd.func18, Tryd.ntmps18
    go_upto_region 1 with fail
    clear hw1 hBx
    go_wp2_with fail
    go_region
    all_goals go_wp2_with fail
    all_goals
      refine bodyPost_ret (results_tmp rfl _ _ _) rfl ?_
      refine ⟨ret_int ?_, HBx.out.trans ?_⟩
      · have h1 := Hv.out
        rw [if_pos Hsd.out] at h1
        exact h1
      · first
        | exact ((Below.drew (Below.refl _ _)).alloc HBx.out.size _)
        | exact Below.drew ((Below.refl _ _).alloc HBx.out.size _)
  · have i1 : RowKit.wrap64 (z.side - 1) = 1 := by unfold RowKit.wrap64; omega
    have Hsd := hid hsd
    clear hsd hv hk
    go_enter Tryd.func18, Tryd.ntmps18
    go_upto_region 1 with fail
    clear hw1 hBx
    go_wp2_with fail
    go_region
    all_goals go_wp2_with fail
    all_goals
      refine bodyPost_ret (results_tmp rfl _ _ _) rfl ?_
      refine ⟨ret_int ?_, HBx.out.trans ?_⟩
      · have h1 := Hv.out
        rw [if_neg (by have := Hsd.out; omega)] at h1
        exact h1
      · first
        | exact ((Below.drew (Below.refl _ _)).alloc HBx.out.size _)
        | exact Below.drew ((Below.refl _ _).alloc HBx.out.size _)

set_option maxRecDepth 100000 in
set_option maxHeartbeats 4000000 in
theorem has_level (w : World) (X : Nat) (t : TypeId) (cs : Array Value) (o : Nat) (A : Option Addr) (c : Nat) (lv : List Tri) (bu se : Int) (h : IndM w X t cs o A c lv bu se) (hs : lv.length ≤ 99999) (z : Ord5) (hsd : z.side = 1 ∨ z.side = 2) (hk : z.kind ≠ 2) (hpr : 1 ≤ z.price ∧ z.price ≤ 1000000) :
    Calls Tryd.prog 18 #[.pointer (some ⟨X, o, none⟩), aggO z] w fun e w' => e = .returned (.int .i64 (if z.side = 1 then (lotAt lv z.price).1 else (lotAt lv z.price).2)) ∧ Below w.heap.size w w' := by
  have hbx : Below w.heap.size w (w.alloc (.cells #[.int .i64 z.id, .int .i64 z.side, .int .i64 z.kind, .int .i64 z.price, .int .i64 z.qty] 28)) := (Below.refl _ w).alloc (Nat.le_refl _) _
  have h' := h.below hbx
  obtain ⟨n, hn⟩ : ∃ n, lv.length = n := ⟨_, rfl⟩
  have hn1 : n ≤ 99999 := by omega
  have y0 := h'.cells.1
  rw [hn] at y0
  obtain ⟨w1, hw1⟩ : ∃ w1, w.alloc (.cells #[.int .i64 z.id, .int .i64 z.side, .int .i64 z.kind, .int .i64 z.price, .int .i64 z.qty] 28) = w1 := ⟨_, rfl⟩
  obtain ⟨Bx, hBx⟩ : ∃ Bx, w.heap.size = Bx := ⟨_, rfl⟩
  have hB1 := Blk.new w 28 #[.int .i64 z.id, .int .i64 z.side, .int .i64 z.kind, .int .i64 z.price, .int .i64 z.qty]
  rw [hw1] at hbx h' y0 hB1
  rw [hBx] at hB1
  have hXl := Blk.lt h'.blk
  have hBl := Blk.lt hB1
  obtain ⟨x1, x2, x3⟩ := (show w1.cell? ⟨Bx, 1, none⟩ = some (.int .i64 z.side) ∧ w1.cell? ⟨Bx, 2, none⟩ = some (.int .i64 z.kind) ∧ w1.cell? ⟨Bx, 3, none⟩ = some (.int .i64 z.price) from ⟨by rw [Blk.cell hB1]; rfl, by rw [Blk.cell hB1]; rfl, by rw [Blk.cell hB1]; rfl⟩)
  have hse := searchL_any z.price 29 #[] A n c lv w1.drew (by rw [← hn]; exact ElemsAt.of_row encT_length (by omega) (h'.below (Below.drew (Below.refl _ _))).row) h.ok.rank (by omega) (Go.Proofs.enters_of Tryd.func29 (by kernel_rfl) rfl)
    (fun W q hm hW => hasCmp_any q.1 q.2.1 q.2.2 z.price (by have := h.ok.pr q hm; unfold Near40; omega) (by unfold Near40; omega) W)
  have HSe := hid hse
  have t1 := beqF hk
  have H := hid h
  have Hn := hid hn
  have HBx := hid hbx
  have HB1 := hid hB1
  have Hsd := hid hsd
  obtain ⟨v, hv⟩ : ∃ v, (if z.side = 1 then (lotAt lv z.price).1 else (lotAt lv z.price).2) = v := ⟨_, rfl⟩
  rw [hv]
  have Hv := hid hv
  unfold aggO
  clear h h' hse hbx hB1 hk hpr hsd hn hv
  go_enter Tryd.func18, Tryd.ntmps18
  go_upto_region 1 with fail
  clear hw1 hBx
  go_wp2_with fail
  refine wp_region_heldT_drew 11 (fun W => W.cell? ⟨X, o, none⟩ = some (.slice A n c) ∧ W.cell? ⟨Bx, 3, none⟩ = some (.int .i64 z.price)) (by kernel_rfl) ⟨y0, x3⟩ (fun hS => ?_)
  refine takeT 0 25 (.pointer (some ⟨X, o, none⟩)) rfl rfl rfl (by kernel_rfl) (by kernel_rfl) (by kernel_rfl) (by kernel_rfl) (fun _ _ _ h => h) (by rfl) ?_ (by assumption) ?_
  · intro W hSw; go_simp
  simp only [Act.put, List.setIfInBounds_toArray, List.set_cons_zero, List.set_cons_succ]
  refine takeT 1 26 (.pointer (some ⟨X, o, none⟩)) rfl rfl rfl (by kernel_rfl) (by kernel_rfl) (by kernel_rfl) (by kernel_rfl) (fun _ _ _ h => h) (by rfl) ?_ (by assumption) ?_
  · intro W hSw; go_simp
  simp only [Act.put, List.setIfInBounds_toArray, List.set_cons_zero, List.set_cons_succ]
  refine takeT 2 27 (.pointer (some ⟨X, o, none⟩)) rfl rfl rfl (by kernel_rfl) (by kernel_rfl) (by kernel_rfl) (by kernel_rfl) (fun _ _ _ h => h) (by rfl) ?_ (by assumption) ?_
  · intro W hSw; go_simp
  simp only [Act.put, List.setIfInBounds_toArray, List.set_cons_zero, List.set_cons_succ]
  refine takeT 3 28 (.slice A n c) rfl rfl rfl (by kernel_rfl) (by kernel_rfl) (by kernel_rfl) (by kernel_rfl) (fun _ _ _ h => h) (by rfl) ?_ (by assumption) ?_
  · intro W hSw; go_simp
  simp only [Act.put, List.setIfInBounds_toArray, List.set_cons_zero, List.set_cons_succ]
  refine takeT 4 29 (.pointer (some ⟨Bx, 3, none⟩)) rfl rfl rfl (by kernel_rfl) (by kernel_rfl) (by kernel_rfl) (by kernel_rfl) (fun _ _ _ h => h) (by rfl) ?_ (by assumption) ?_
  · intro W hSw; go_simp
  simp only [Act.put, List.setIfInBounds_toArray, List.set_cons_zero, List.set_cons_succ]
  refine takeT 5 30 (.int .i64 z.price) rfl rfl rfl (by kernel_rfl) (by kernel_rfl) (by kernel_rfl) (by kernel_rfl) (fun _ _ _ h => h) (by rfl) ?_ (by assumption) ?_
  · intro W hSw; go_simp
  simp only [Act.put, List.setIfInBounds_toArray, List.set_cons_zero, List.set_cons_succ]
  refine wpAnyT_one 6 (by kernel_rfl) rfl (fun K1 hK1 => ?_)
  go_simp
  refine HSe.out.mono ?_
  rintro e w2 ⟨hb2, k, hkn, hk1, hk2, rfl⟩
  obtain ⟨fb, hfb⟩ : ∃ fb, foundL lv z.price n k = fb := ⟨_, rfl⟩
  rw [hfb]
  have hy0 := (hb2.cell (p := ⟨X, o, none⟩) hXl).trans y0
  have hx3 := (hb2.cell (p := ⟨Bx, 3, none⟩) hBl).trans x3
  refine hK1 _ _ ⟨hy0, hx3⟩ (fun hS => ?_)
  clear hK1
  refine takeT 7 24 (.tuple #[.int .i64 k, .bool fb]) rfl rfl rfl (by kernel_rfl) (by kernel_rfl) (by kernel_rfl) (by kernel_rfl) (fun _ _ _ h => h) (by rfl) ?_ (by assumption) ?_
  · intro W hSw; go_simp
  simp only [Act.put, List.setIfInBounds_toArray, List.set_cons_zero, List.set_cons_succ]
  refine takeT 8 32 (.int .i64 k) rfl rfl rfl (by kernel_rfl) (by kernel_rfl) (by kernel_rfl) (by kernel_rfl) (fun _ _ _ h => h) (by rfl) ?_ (by assumption) ?_
  · intro W hSw; go_simp
  simp only [Act.put, List.setIfInBounds_toArray, List.set_cons_zero, List.set_cons_succ]
  refine takeT 9 33 (.bool fb) rfl rfl rfl (by kernel_rfl) (by kernel_rfl) (by kernel_rfl) (by kernel_rfl) (fun _ _ _ h => h) (by rfl) ?_ (by assumption) ?_
  · intro W hSw; go_simp
  simp only [Act.put, List.setIfInBounds_toArray, List.set_cons_zero, List.set_cons_succ]
  refine takeT 10 5 (.int .i64 k) rfl rfl rfl (by kernel_rfl) (by kernel_rfl) (by kernel_rfl) (by kernel_rfl) (fun _ _ _ h => h) (by rfl) ?_ (by assumption) ?_
  · intro W hSw; go_simp
  simp only [Act.put, List.setIfInBounds_toArray, List.set_cons_zero, List.set_cons_succ]
  refine wpAnyT_last (by kernel_rfl) rfl (fun K1 hK1 => ?_)
  go_simp
  refine hK1 _ _ (wpAnyT_done (by kernel_rfl) ?_ _)
  clear hK1
  have HB2 := hid hb2
  clear hb2 hS
  have HW2 := hid (show Below w.heap.size w w2 from HBx.out.trans ((Below.drew (Below.refl _ w1)).trans (HB2.out.mono HBx.out.size)))
  have hx1 : w2.cell? ⟨Bx, 1, none⟩ = some (.int .i64 z.side) := (HB2.out.cell (p := ⟨Bx, 1, none⟩) hBl).trans x1
  cases fb with
  | false =>
    have HK1 := hid hk1
    have HK2 := hid hk2
    clear hk1 hk2
    go_wp2_with fail
    refine bodyPost_ret (results_tmp rfl _ _ _) rfl ?_
    refine ⟨ret_int ?_, HW2.out⟩
    have h1 := lot_none (foundL_false Hn.out H.out.ok.rank hfb HK1.out HK2.out)
    have h2 := Hv.out
    rw [h1] at h2
    rw [← h2]
    split <;> rfl
  | true =>
    obtain ⟨hkl, hkp⟩ := foundL_true Hn.out hfb
    obtain ⟨-, e2⟩ := LvMid.found H.out HW2.out hkl hkp
    have hM2 := H.out.below HW2.out
    obtain ⟨g, hA1, -⟩ := hM2.row.elem encT_length (by omega) hkl
    subst hA1
    obtain ⟨-, l1, l2⟩ := lv_cells hM2.row hkl
    generalize lv[k].2.1 = b0 at l1 e2
    generalize lv[k].2.2 = s0 at l2 e2
    have HE2 := hid e2
    have hkz : (k : Int) < (n : Int) := by have := Hn.out; omega
    have hk0 : (0 : Int) ≤ (k : Int) := by omega
    have hbl2 : Bx < w2.heap.size := by have := HB2.out.size; have : w1.heap.size ≤ w2.heap.size := this; omega
    clear hfb hk1 hk2 hM2 hkl hkp e2 y0 x1 x2 x3
    rcases Hsd.out with hsd | hsd
    · have i1 : RowKit.wrap64 (z.side - 1) = 0 := by unfold RowKit.wrap64; clear hn1 hkn hbl2; omega
      have Hsd1 := hid hsd
      clear hsd
      go_wp2_with fail
      go_region
      all_goals go_wp2_with fail
      all_goals
        refine bodyPost_ret (results_tmp rfl _ _ _) rfl ?_
        refine ⟨ret_int ?_, HW2.out.trans ?_⟩
        · have h1 := Hv.out
          rw [if_pos Hsd1.out, HE2.out] at h1
          exact h1
        · first
          | exact ((Below.drew (Below.refl _ _)).alloc HW2.out.size _)
          | exact Below.drew ((Below.refl _ _).alloc HW2.out.size _)
    · have i1 : RowKit.wrap64 (z.side - 1) = 1 := by unfold RowKit.wrap64; clear hn1 hkn hbl2; omega
      have Hsd1 := hid hsd
      clear hsd
      go_wp2_with fail
      go_region
      all_goals go_wp2_with fail
      all_goals
        refine bodyPost_ret (results_tmp rfl _ _ _) rfl ?_
        refine ⟨ret_int ?_, HW2.out.trans ?_⟩
        · have h1 := Hv.out
          rw [if_neg (by have := Hsd1.out; omega), HE2.out] at h1
          exact h1
        · first
          | exact ((Below.drew (Below.refl _ _)).alloc HW2.out.size _)
          | exact Below.drew ((Below.refl _ _).alloc HW2.out.size _)
theorem has_any (w : World) (X : Nat) (t : TypeId) (cs : Array Value) (o : Nat) (A : Option Addr) (c : Nat) (lv : List Tri) (bu se : Int) (h : IndM w X t cs o A c lv bu se) (hs : lv.length ≤ 99999) (z : Ord5) (hr : RightO z) :
    Calls Tryd.prog 18 #[.pointer (some ⟨X, o, none⟩), aggO z] w fun e w' => e = .returned (.int .i64 (hasI lv bu se z)) ∧ Below w.heap.size w w' := by
  unfold hasI
  by_cases hk : z.kind = 2
  · rw [show keyO z = none from if_pos hk]
    exact has_market w X t cs o A c lv bu se h z hr.1 hk
  · rw [show keyO z = some z.price from if_neg hk]
    exact has_level w X t cs o A c lv bu se h hs z hr.1 hk (hr.2.2.resolve_left hk)
theorem box5 {w : World} {g : Nat} {t : TypeId} {a b c d e : Value} (h : Blk w g t #[a, b, c, d, e]) : w.cell? ⟨g, 0, none⟩ = some a ∧ w.cell? ⟨g, 1, none⟩ = some b ∧ w.cell? ⟨g, 2, none⟩ = some c ∧ w.cell? ⟨g, 3, none⟩ = some d ∧ w.cell? ⟨g, 4, none⟩ = some e :=
  ⟨by rw [Blk.cell h]; rfl, by rw [Blk.cell h]; rfl, by rw [Blk.cell h]; rfl, by rw [Blk.cell h]; rfl, by rw [Blk.cell h]; rfl⟩
theorem IndTo.pre {w w1 w' : World} {X : Nat} {t : TypeId} {cs : Array Value} {o : Nat} {A : Option Addr} {lv' : List Tri} {bu' se' : Int} (h : IndTo w1 w' X t cs o A lv' bu' se') (hb : Below w.heap.size w w1) : IndTo w w' X t cs o A lv' bu' se' := by
  obtain ⟨cs', A', c', h1, h2, h3, h4, h5⟩ := h
  exact ⟨cs', A', c', h1, h2, h3, (Keeps.of_below hb _).trans h4 (fun i e => .inl e), fun g hg => (h5 g hg).imp id (fun e => Nat.le_trans hb.size e)⟩
/-- Add's and Take's error, and what is there behind it -/
def ToldE (lv : List Tri) (bu se : Int) (z : Ord5) (q : Int) : Int := if rightO z = true then (if q = -1 ∧ hasI lv bu se z < z.qty then 8 else 0) else 1
def ToldI (lv : List Tri) (bu se : Int) (z : Ord5) (q : Int) (lv' : List Tri) (bu' se' : Int) : Prop := if ToldE lv bu se z q = 0 then ChgSpec lv bu se z q lv' bu' se' else lv' = lv ∧ bu' = bu ∧ se' = se

set_option maxRecDepth 100000 in
set_option maxHeartbeats 4000000 in
theorem add_ind (w : World) (X : Nat) (t : TypeId) (cs : Array Value) (o : Nat) (A : Option Addr) (c : Nat) (lv : List Tri) (bu se : Int) (h : IndM w X t cs o A c lv bu se) (hs : Small lv bu se) (z : Ord5) :
    Calls Tryd.prog 6 #[.pointer (some ⟨X, o, none⟩), aggO z] w fun e w' => e = .returned (errV (ToldE lv bu se z 1)) ∧ ∃ lv' bu' se', IndTo w w' X t cs o A lv' bu' se' ∧ ToldI lv bu se z 1 lv' bu' se' := by
  have hbx : Below w.heap.size w (w.alloc (.cells #[.int .i64 z.id, .int .i64 z.side, .int .i64 z.kind, .int .i64 z.price, .int .i64 z.qty] 28)) := (Below.refl _ w).alloc (Nat.le_refl _) _
  have hB1 := Blk.new w 28 #[.int .i64 z.id, .int .i64 z.side, .int .i64 z.kind, .int .i64 z.price, .int .i64 z.qty]
  have H := hid h
  have HS := hid hs
  have HBx := hid hbx
  have HB1 := hid hB1
  have hbl := Blk.lt hB1
  clear h hs hbx hB1
  unfold aggO
  cases hrb : rightO z with
  | false =>
    have HRb := hid hrb
    clear hrb
    go_enter Tryd.func6, Tryd.ntmps6
    go_wp2_with (go_at_call 16; refine (right_ind _ z).mono ?_; rintro e w2 ⟨rfl, hb2⟩; rw [HRb.out]; have HB2 := hid hb2; clear hb2)
    refine bodyPost_ret (results_tmp rfl _ _ _) rfl ?_
    have ht : ToldE lv bu se z 1 = 1 := by unfold ToldE; rw [HRb.out]; rfl
    refine ⟨by rw [ht]; rfl, lv, bu, se, IndTo.same H.out (HBx.out.trans (HB2.out.mono HBx.out.size)), ?_⟩
    unfold ToldI
    rw [ht, if_neg (by decide)]
    exact ⟨rfl, rfl, rfl⟩
  | true =>
    have HRb := hid hrb
    clear hrb
    go_enter Tryd.func6, Tryd.ntmps6
    go_wp2_with (first | (go_at_call 16; refine (right_ind _ z).mono ?_; rintro e w2 ⟨rfl, hb2⟩; rw [HRb.out]; obtain ⟨x0, x1, x2, x3, x4⟩ := box5 (Blk.keep HB1.out hb2); have HB2 := hid (HBx.out.trans (hb2.mono HBx.out.size)); clear hb2) | (go_at_call 17; refine (change_any _ X t cs o A c lv bu se z (H.out.below HB2.out) HS.out ((rightO_iff z).1 HRb.out) 1 (.inl rfl) (fun e => by cases e)).mono ?_; rintro e w3 ⟨⟨v, rfl⟩, hd⟩; have HD := hid hd; clear hd))
    refine bodyPost_ret (results_tmp rfl _ _ _) rfl ?_
    have ht : ToldE lv bu se z 1 = 0 := by unfold ToldE; rw [HRb.out]; rfl
    obtain ⟨lv', bu', se', h1, h2⟩ := HD.out
    refine ⟨by rw [ht]; rfl, lv', bu', se', h1.pre HB2.out, ?_⟩
    unfold ToldI
    rw [ht, if_pos rfl]
    exact h2

set_option maxRecDepth 100000 in
set_option maxHeartbeats 4000000 in
theorem take_ind (w : World) (X : Nat) (t : TypeId) (cs : Array Value) (o : Nat) (A : Option Addr) (c : Nat) (lv : List Tri) (bu se : Int) (h : IndM w X t cs o A c lv bu se) (hs : Small lv bu se) (z : Ord5) :
    Calls Tryd.prog 7 #[.pointer (some ⟨X, o, none⟩), aggO z] w fun e w' => e = .returned (errV (ToldE lv bu se z (-1))) ∧ ∃ lv' bu' se', IndTo w w' X t cs o A lv' bu' se' ∧ ToldI lv bu se z (-1) lv' bu' se' := by
  have hbx : Below w.heap.size w (w.alloc (.cells #[.int .i64 z.id, .int .i64 z.side, .int .i64 z.kind, .int .i64 z.price, .int .i64 z.qty] 28)) := (Below.refl _ w).alloc (Nat.le_refl _) _
  have hB1 := Blk.new w 28 #[.int .i64 z.id, .int .i64 z.side, .int .i64 z.kind, .int .i64 z.price, .int .i64 z.qty]
  have H := hid h
  have HS := hid hs
  have HBx := hid hbx
  have HB1 := hid hB1
  have hbl := Blk.lt hB1
  clear h hs hbx hB1
  unfold aggO
  cases hrb : rightO z with
  | false =>
    have HRb := hid hrb
    clear hrb
    go_enter Tryd.func7, Tryd.ntmps7
    go_wp2_with (go_at_call 16; refine (right_ind _ z).mono ?_; rintro e w2 ⟨rfl, hb2⟩; rw [HRb.out]; have HB2 := hid hb2; clear hb2)
    refine bodyPost_ret (results_tmp rfl _ _ _) rfl ?_
    have ht : ToldE lv bu se z (-1) = 1 := by unfold ToldE; rw [HRb.out]; rfl
    refine ⟨by rw [ht]; rfl, lv, bu, se, IndTo.same H.out (HBx.out.trans (HB2.out.mono HBx.out.size)), ?_⟩
    unfold ToldI
    rw [ht, if_neg (by decide)]
    exact ⟨rfl, rfl, rfl⟩
  | true =>
    have HRb := hid hrb
    clear hrb
    by_cases hq : hasI lv bu se z < z.qty
    · have d1 := decT hq
      have HQ := hid hq
      clear hq
      go_enter Tryd.func7, Tryd.ntmps7
      go_wp2_with (go_at_call 16; refine (right_ind _ z).mono ?_; rintro e w2 ⟨rfl, hb2⟩; rw [HRb.out]; obtain ⟨x0, x1, x2, x3, x4⟩ := box5 (Blk.keep HB1.out hb2); have HB2 := hid (HBx.out.trans (hb2.mono HBx.out.size)); have HX2 := hid (Blk.keep HB1.out hb2); clear hb2)
      go_region_with (go_at_call 18; refine (has_any _ X t cs o A c lv bu se (H.out.below (Below.drew HB2.out)) HS.out.n z ((rightO_iff z).1 HRb.out)).mono ?_; rintro e w3 ⟨rfl, hb3⟩; obtain ⟨y0, y1, y2, y3, y4⟩ := box5 (Blk.keep (Blk.drew HX2.out) hb3); have HB3 := hid ((Below.drew HB2.out).trans (hb3.mono HB2.out.size)); clear hb3)
      all_goals go_wp2_with fail
      all_goals
        refine bodyPost_ret (results_tmp rfl _ _ _) rfl ?_
        have ht : ToldE lv bu se z (-1) = 8 := by unfold ToldE; rw [HRb.out, if_pos rfl, if_pos ⟨rfl, HQ.out⟩]
        refine ⟨by rw [ht]; rfl, lv, bu, se, IndTo.same H.out HB3.out, ?_⟩
        unfold ToldI
        rw [ht, if_neg (by decide)]
        exact ⟨rfl, rfl, rfl⟩
    · have d1 := decF hq
      have HQ := hid hq
      clear hq
      go_enter Tryd.func7, Tryd.ntmps7
      go_wp2_with (go_at_call 16; refine (right_ind _ z).mono ?_; rintro e w2 ⟨rfl, hb2⟩; rw [HRb.out]; obtain ⟨x0, x1, x2, x3, x4⟩ := box5 (Blk.keep HB1.out hb2); have HB2 := hid (HBx.out.trans (hb2.mono HBx.out.size)); have HX2 := hid (Blk.keep HB1.out hb2); clear hb2)
      go_region_with (go_at_call 18; refine (has_any _ X t cs o A c lv bu se (H.out.below (Below.drew HB2.out)) HS.out.n z ((rightO_iff z).1 HRb.out)).mono ?_; rintro e w3 ⟨rfl, hb3⟩; obtain ⟨y0, y1, y2, y3, y4⟩ := box5 (Blk.keep (Blk.drew HX2.out) hb3); have HB3 := hid ((Below.drew HB2.out).trans (hb3.mono HB2.out.size)); clear hb3)
      all_goals go_wp2_with (go_at_call 17; refine (change_any _ X t cs o A c lv bu se z (H.out.below HB3.out) HS.out ((rightO_iff z).1 HRb.out) (-1) (.inr rfl) (fun _ => by have := HQ.out; omega)).mono ?_; rintro e w4 ⟨⟨v, rfl⟩, hd⟩; have HD := hid hd; clear hd)
      all_goals
        refine bodyPost_ret (results_tmp rfl _ _ _) rfl ?_
        have ht : ToldE lv bu se z (-1) = 0 := by unfold ToldE; rw [HRb.out, if_pos rfl, if_neg (fun e => by have := HQ.out; have := e.2; omega)]
        obtain ⟨lv', bu', se', h1, h2⟩ := HD.out
        refine ⟨by rw [ht]; rfl, lv', bu', se', h1.pre HB3.out, ?_⟩
        unfold ToldI
        rw [ht, if_pos rfl]
        exact h2
end Go.Proofs.YteggaehelnmhnaaDoor
