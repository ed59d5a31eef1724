/-
  Walks of package calendar: follows, wrong, New, (*Table).Phase, told by plain functions on lists of pairs.
-/
import Derived.WalkKit
import Derived.WalkLawsBesides
import Derived.WalkSpells
import Derived.Deep.RegionHeld3
import Derived.Deep.DrawnRows
import Derived.Deep.QuietTactic
import Derived.BigQuiet
import Derived.Test.YtakbedckjaammaaDoorRows
import Derived.Test.YtakbedckjaammaaDoorBase
import Derived.Test.YtakbedckjaammaaDoorMaps
namespace Go.Proofs.YtakbedckjaammaaDoor
open Go.RowKit

/-- what 'follows' lays: block r: the map, and behind it the four lists -/
def FollowsAt (w : World) (r : Nat) : Prop :=
  MapAt w r [MapEntry.mk (.int .i64 1) (.slice (some ⟨r + 1, 0, none⟩) 1 1) 0, MapEntry.mk (.int .i64 2) (.slice (some ⟨r + 2, 0, none⟩) 1 1) 1, MapEntry.mk (.int .i64 3) (.slice (some ⟨r + 3, 0, none⟩) 2 2) 2, MapEntry.mk (.int .i64 5) (.slice (some ⟨r + 4, 0, none⟩) 1 1) 3] 4 ∧
  w.cell? ⟨r + 1, 0, none⟩ = some (.int .i64 2) ∧ w.cell? ⟨r + 2, 0, none⟩ = some (.int .i64 3) ∧ w.cell? ⟨r + 3, 0, none⟩ = some (.int .i64 5) ∧ w.cell? ⟨r + 3, 1, none⟩ = some (.int .i64 7) ∧ w.cell? ⟨r + 4, 0, none⟩ = some (.int .i64 7) ∧
  w.heap.size = r + 5

set_option maxRecDepth 100000 in
set_option maxHeartbeats 400000 in
theorem follows_any (w : World) : Calls Tryd.prog 50 #[] w fun e w' => e = .returned (.map (some w.heap.size)) ∧ FollowsAt w' w.heap.size ∧ Below w.heap.size w w' := by
  have hmm := @run_makeMap Tryd.prog
  go_enter Tryd.func50, Tryd.ntmps50
  go_wp2_with (first
    | ((with_reducible (refine wpList_insert_new (o := ⟨none, .insert 115 (.tmp 1) (.const (.int .i64 1)) (.tmp 2), _, _, _, _⟩) _ rfl (.tmp 1) (.const (.int .i64 1)) (.tmp 2) 115 rfl Tryd.underlying115 Tryd.underlying3 plain_int w.heap.size 0 [] (.int .i64 1) (.slice (some ⟨w.heap.size + 1, 0, none⟩) 1 1) (by with_unfolding_all rfl) (by with_unfolding_all rfl) (by with_unfolding_all rfl) ((MapAt.made w).alloc _) (by with_unfolding_all rfl) ?_)); intro w1 h1 t1; have s1 : w1.heap.size = w.heap.size + 2 := by rw [t1.size]; simp)
    | ((with_reducible (refine wpList_insert_new (o := ⟨none, .insert 115 (.tmp 1) (.const (.int .i64 2)) (.tmp 3), _, _, _, _⟩) _ rfl (.tmp 1) (.const (.int .i64 2)) (.tmp 3) 115 rfl Tryd.underlying115 Tryd.underlying3 plain_int w.heap.size 1 _ (.int .i64 2) (.slice (some ⟨w.heap.size + 2, 0, none⟩) 1 1) (by with_unfolding_all rfl) (by with_unfolding_all rfl) (by with_unfolding_all rfl) (h1.alloc _) (by with_unfolding_all rfl) ?_)); intro w2 h2 t2; have s2 : w2.heap.size = w.heap.size + 3 := by rw [t2.size]; simp [s1])
    | ((with_reducible (refine wpList_insert_new (o := ⟨none, .insert 115 (.tmp 1) (.const (.int .i64 3)) (.tmp 4), _, _, _, _⟩) _ rfl (.tmp 1) (.const (.int .i64 3)) (.tmp 4) 115 rfl Tryd.underlying115 Tryd.underlying3 plain_int w.heap.size 2 _ (.int .i64 3) (.slice (some ⟨w.heap.size + 3, 0, none⟩) 2 2) (by with_unfolding_all rfl) (by with_unfolding_all rfl) (by with_unfolding_all rfl) (h2.alloc _) (by with_unfolding_all rfl) ?_)); intro w3 h3 t3; have s3 : w3.heap.size = w.heap.size + 4 := by rw [t3.size]; simp [s2])
    | ((with_reducible (refine wpList_insert_new (o := ⟨none, .insert 115 (.tmp 1) (.const (.int .i64 5)) (.tmp 5), _, _, _, _⟩) _ rfl (.tmp 1) (.const (.int .i64 5)) (.tmp 5) 115 rfl Tryd.underlying115 Tryd.underlying3 plain_int w.heap.size 3 _ (.int .i64 5) (.slice (some ⟨w.heap.size + 4, 0, none⟩) 1 1) (by with_unfolding_all rfl) (by with_unfolding_all rfl) (by with_unfolding_all rfl) (h3.alloc _) (by with_unfolding_all rfl) ?_)); intro w4 h4 t4; have s4 : w4.heap.size = w.heap.size + 5 := by rw [t4.size]; simp [s3]))
  go_ret
  have c10_1 : w1.cell? ⟨w.heap.size + 1, 0, none⟩ = some (.int .i64 2) := (t1.cell (by simp)).trans (by simp)
  have c10_2 : w2.cell? ⟨w.heap.size + 1, 0, none⟩ = some (.int .i64 2) := (t2.cell (by simp)).trans ((World.cell?_alloc_lt _ _ _ (by simp [s1])).trans c10_1)
  have c10_3 : w3.cell? ⟨w.heap.size + 1, 0, none⟩ = some (.int .i64 2) := (t3.cell (by simp)).trans ((World.cell?_alloc_lt _ _ _ (by simp [s2])).trans c10_2)
  have c10_4 : w4.cell? ⟨w.heap.size + 1, 0, none⟩ = some (.int .i64 2) := (t4.cell (by simp)).trans ((World.cell?_alloc_lt _ _ _ (by simp [s3])).trans c10_3)
  have c20_2 : w2.cell? ⟨w.heap.size + 2, 0, none⟩ = some (.int .i64 3) := (t2.cell (by simp)).trans (by rw [← s1]; simp)
  have c20_3 : w3.cell? ⟨w.heap.size + 2, 0, none⟩ = some (.int .i64 3) := (t3.cell (by simp)).trans ((World.cell?_alloc_lt _ _ _ (by simp [s2])).trans c20_2)
  have c20_4 : w4.cell? ⟨w.heap.size + 2, 0, none⟩ = some (.int .i64 3) := (t4.cell (by simp)).trans ((World.cell?_alloc_lt _ _ _ (by simp [s3])).trans c20_3)
  have c30_3 : w3.cell? ⟨w.heap.size + 3, 0, none⟩ = some (.int .i64 5) := (t3.cell (by simp)).trans (by rw [← s2]; simp)
  have c30_4 : w4.cell? ⟨w.heap.size + 3, 0, none⟩ = some (.int .i64 5) := (t4.cell (by simp)).trans ((World.cell?_alloc_lt _ _ _ (by simp [s3])).trans c30_3)
  have c31_3 : w3.cell? ⟨w.heap.size + 3, 1, none⟩ = some (.int .i64 7) := (t3.cell (by simp)).trans (by rw [← s2]; simp)
  have c31_4 : w4.cell? ⟨w.heap.size + 3, 1, none⟩ = some (.int .i64 7) := (t4.cell (by simp)).trans ((World.cell?_alloc_lt _ _ _ (by simp [s3])).trans c31_3)
  have c40_4 : w4.cell? ⟨w.heap.size + 4, 0, none⟩ = some (.int .i64 7) := (t4.cell (by simp)).trans (by rw [← s3]; simp)
  refine ⟨rfl, ⟨h4, c10_4, c20_4, c30_4, c31_4, c40_4, s4⟩, ?_⟩
  exact (((((((Below.refl _ w).alloc (Nat.le_refl _) _).alloc (by simp) _).trans (t1.below (Nat.le_refl _))).alloc (by omega) _).trans (t2.below (Nat.le_refl _))).alloc (by omega) _).trans (t3.below (Nat.le_refl _)) |>.alloc (by omega) _ |>.trans (t4.below (Nat.le_refl _))

/-- what a look-up in it gives -/
def followsV (r : Nat) (p : Int) : Value :=
  if p = 1 then .slice (some ⟨r + 1, 0, none⟩) 1 1 else if p = 2 then .slice (some ⟨r + 2, 0, none⟩) 1 1
  else if p = 3 then .slice (some ⟨r + 3, 0, none⟩) 2 2 else if p = 5 then .slice (some ⟨r + 4, 0, none⟩) 1 1 else .slice none 0 0

theorem zero_ints (w : World) : (zeroValue 33).run Tryd.prog w = .ok (.slice none 0 0) w := by kernel_rfl

theorem FollowsAt.look {w : World} {r : Nat} (h : FollowsAt w r) (p : Int) :
    (Instr.lookup 115 (.map (some r)) (.int .i64 p) false).run Tryd.prog w = .ok (followsV r p) w := by
  have key : ∃ x, findL (.int .i64) (.int .i64 p) [MapEntry.mk (.int .i64 1) (.slice (some ⟨r + 1, 0, none⟩) 1 1) 0, MapEntry.mk (.int .i64 2) (.slice (some ⟨r + 2, 0, none⟩) 1 1) 1, MapEntry.mk (.int .i64 3) (.slice (some ⟨r + 3, 0, none⟩) 2 2) 2, MapEntry.mk (.int .i64 5) (.slice (some ⟨r + 4, 0, none⟩) 1 1) 3] = some x ∧ (x.map (·.2)).getD (.slice none 0 0) = followsV r p := by
    unfold findL followsV
    simp only [Instr.findNow, Instr.sameNow, if_true]
    by_cases h1 : p = 1
    · subst h1; exact ⟨_, rfl, rfl⟩
    by_cases h2 : p = 2
    · subst h2; exact ⟨_, rfl, rfl⟩
    by_cases h3 : p = 3
    · subst h3; exact ⟨_, rfl, rfl⟩
    by_cases h5 : p = 5
    · subst h5; exact ⟨_, rfl, rfl⟩
    rw [beqF h1, beqF h2, beqF h3, beqF h5, if_neg h1, if_neg h2, if_neg h3, if_neg h5]
    exact ⟨none, rfl, rfl⟩
  obtain ⟨x, hx, he⟩ := key
  rw [run_lookup_at Tryd.underlying115 Tryd.underlying3 plain_int h.1 _ (zero_ints w) false x hx, ← he]
  rfl
attribute [local go_sem ↓] Go.wp_at_zero Go.wp_at_succ


/-- which phases may follow -/
def followsL (p : Int) : List Int := if p = 1 then [2] else if p = 2 then [3] else if p = 3 then [5, 7] else if p = 5 then [7] else []
def anyL (L : List Int) (p : Int) : Bool := L.any fun x => x == p
theorem anyL_take (L : List Int) (p : Int) (j : Nat) (h : j < L.length) : anyL (L.take (j + 1)) p = (anyL (L.take j) p || (L[j] == p)) := by
  unfold anyL
  rw [List.take_succ_eq_append_getElem h, List.any_append]
  simp

theorem FollowsAt.list {w : World} {r : Nat} (h : FollowsAt w r) (p : Int) :
    (followsL p = [] ∧ followsV r p = .slice none 0 0) ∨
    ∃ g L, followsL p = L ∧ L.length ≤ 2 ∧ followsV r p = .slice (some ⟨g, 0, none⟩) L.length L.length ∧ ∀ j (hj : j < L.length), w.cell? ⟨g, j, none⟩ = some (.int .i64 L[j]) := by
  obtain ⟨_, c1, c2, c3, c4, c5, _⟩ := h
  unfold followsL followsV
  by_cases h1 : p = 1
  · right; subst h1; exact ⟨r + 1, [2], rfl, by simp, rfl, fun j hj => by simp at hj; subst hj; exact c1⟩
  by_cases h2 : p = 2
  · right; subst h2; exact ⟨r + 2, [3], rfl, by simp, rfl, fun j hj => by simp at hj; subst hj; exact c2⟩
  by_cases h3 : p = 3
  · right; subst h3
    refine ⟨r + 3, [5, 7], rfl, by simp, rfl, fun j hj => ?_⟩
    match j, hj with
    | 0, _ => exact c3
    | 1, _ => exact c4
  by_cases h5 : p = 5
  · right; subst h5; exact ⟨r + 4, [7], rfl, by simp, rfl, fun j hj => by simp at hj; subst hj; exact c5⟩
  left
  simp [h1, h2, h3, h5]

theorem FollowsAt.look_nil {w : World} {r : Nat} {p : Int} (h : FollowsAt w r) (hL : Hid (followsL p = [])) :
    (Instr.lookup 115 (.map (some r)) (.int .i64 p) false).run Tryd.prog w = .ok (.slice none 0 0) w := by
  rw [h.look]
  rcases h.list p with h1 | ⟨g, L, h1, h2, h3, h4⟩
  · rw [h1.2]
  · rw [hL.out] at h1
    subst h1
    unfold followsV
    have := hL.out
    unfold followsL at this
    by_cases h1 : p = 1
    · simp [h1] at this
    by_cases h2 : p = 2
    · simp [h2] at this
    by_cases h3 : p = 3
    · simp [h3] at this
    by_cases h5 : p = 5
    · simp [h5] at this
    simp [h1, h2, h3, h5]

theorem FollowsAt.look_some {w : World} {r : Nat} {p : Int} {L : List Int} (h : FollowsAt w r) (hL : Hid (followsL p = L)) (hne : L ≠ []) :
    ∃ g, (Instr.lookup 115 (.map (some r)) (.int .i64 p) false).run Tryd.prog w = .ok (.slice (some ⟨g, 0, none⟩) L.length L.length) w ∧ ∀ j (hj : j < L.length), w.cell? ⟨g, j, none⟩ = some (.int .i64 L[j]) := by
  rw [h.look]
  rcases h.list p with h1 | ⟨g, L', h1, h2, h3, h4⟩
  · exact absurd (hL.out.symm.trans h1.1) hne
  · obtain rfl : L' = L := h1.symm.trans hL.out
    exact ⟨g, by rw [h3], h4⟩

theorem followsL_len (p : Int) : (followsL p).length ≤ 2 := by
  unfold followsL
  repeat (split <;> try simp)

/-- what is wrong with a row behind another one -/
def wrongI (a0 p0 a p : Int) : Int := if anyL (followsL p0) p = false then 1 else if a ≤ a0 then 10 else if 1000000 < a then 2 else 0
theorem wrongI_1 {a0 p0 a p : Int} (h : anyL (followsL p0) p = false) : wrongI a0 p0 a p = 1 := by simp [wrongI, h]
theorem wrongI_10 {a0 p0 a p : Int} (h : anyL (followsL p0) p = true) (h1 : a ≤ a0) : wrongI a0 p0 a p = 10 := by simp [wrongI, h, h1]
theorem wrongI_2 {a0 p0 a p : Int} (h : anyL (followsL p0) p = true) (h1 : a0 < a) (h2 : 1000000 < a) : wrongI a0 p0 a p = 2 := by simp [wrongI, h, h2]; omega
theorem wrongI_0 {a0 p0 a p : Int} (h : anyL (followsL p0) p = true) (h1 : a0 < a) (h2 : a ≤ 1000000) : wrongI a0 p0 a p = 0 := by simp [wrongI, h]; omega

set_option maxRecDepth 100000 in
set_option maxHeartbeats 1000000 in
theorem wrong_step (b off len cap k : Nat) (a0 a p0 p : Int) (w : World) (hk : k + 1 < len) (hlen : len ≤ 20) (hb : b < w.heap.size)
    (c0 : w.cell? ⟨b, off + k * 2, none⟩ = some (.int .i64 a0)) (c1 : w.cell? ⟨b, off + k * 2 + 1, none⟩ = some (.int .i64 p0))
    (c2 : w.cell? ⟨b, off + (k + 1) * 2, none⟩ = some (.int .i64 a)) (c3 : w.cell? ⟨b, off + (k + 1) * 2 + 1, none⟩ = some (.int .i64 p)) :
    Calls Tryd.prog 47 #[.slice (some ⟨b, off, none⟩) len cap, .int .i64 ((k : Int) + 1)] w fun e w' => e = .returned (.int .i64 (wrongI a0 p0 a p)) ∧ Below w.heap.size w w' := by
  have z1 : ((k : Int) + 1 == 0) = false := by simp; omega
  have i1 : IntKind.i64.wrap ((k : Int) + 1 - 1) = (k : Int) := by rw [IntKind.wrap_i64]; omega
  have i4 : IntKind.i64.wrap (k : Int) = (k : Int) := by rw [IntKind.wrap_i64]; omega
  have i2 : (0 : Int) ≤ (k : Int) := by omega
  have i3 : (k : Int) < (len : Int) := by omega
  have i5 : (k : Int) + 1 < (len : Int) := by omega
  rcases (show followsL p0 = [] ∨ followsL p0 ≠ [] from by by_cases h : followsL p0 = [] <;> simp [h]) with hL | hL
  · have Hw := hid (wrongI_1 (a0 := a0) (a := a) (p := p) (p0 := p0) (by rw [hL]; rfl))
    have HL := hid hL
    clear hL
    go_enter Tryd.func47, Tryd.ntmps47
    go_wp2
    go_region_held3 (fun w' => w'.cell? ⟨b, off + k * 2 + 1, none⟩ = some (.int .i64 p0)) (first | go_keep | (refine (hB.cell ?_).trans c1; simpa using hb))
      (first | (go_at_call 50; refine (follows_any _).mono ?_; rintro e w1 ⟨rfl, hF, hB⟩; have hlk : (Instr.lookup 115 (.map (some w.heap.size)) (.int .i64 p0) false).run Tryd.prog w1 = .ok (.slice none 0 0) w1 := hF.look_nil HL))
    go_wp2
    refine wp_loop_rounds 1 ?_
    rw [rounds_succ]
    go_wp2
    go_ret
    exact ⟨by rw [Hw.out]; rfl, (Below.refl _ w).drew.trans hB⟩
  · obtain ⟨L, hLL⟩ : ∃ L, followsL p0 = L := ⟨_, rfl⟩
    have hne : L ≠ [] := hLL ▸ hL
    have hlen2 : L.length ≤ 2 := hLL ▸ followsL_len p0
    have HL := hid hLL
    clear hLL hL
    go_enter Tryd.func47, Tryd.ntmps47
    go_wp2
    go_region_held3 (fun w' => w'.cell? ⟨b, off + k * 2 + 1, none⟩ = some (.int .i64 p0)) (first | go_keep | (refine (hB.cell ?_).trans c1; simpa using hb))
      (first | (go_at_call 50; refine (follows_any _).mono ?_; rintro e w1 ⟨rfl, hF, hB⟩; obtain ⟨g, hlk, hg⟩ := hF.look_some HL hne; have hlk' : (Instr.lookup 115 (.map (some w.heap.size)) (.int .i64 p0) false).run Tryd.prog w1 = .ok (.slice (some ⟨g, 0, none⟩) L.length L.length) w1 := hlk; clear hlk))
    go_wp2
    have hBw : Below w.heap.size w w1 := (Below.refl _ w).drew.trans hB
    have d2 : w1.cell? ⟨b, off + (k + 1) * 2, none⟩ = some (.int .i64 a) := (hBw.cell hb).trans c2
    have d3 : w1.cell? ⟨b, off + (k + 1) * 2 + 1, none⟩ = some (.int .i64 p) := (hBw.cell hb).trans c3
    have d0 : w1.cell? ⟨b, off + k * 2, none⟩ = some (.int .i64 a0) := (hBw.cell hb).trans c0
    clear hlk' hF hB c0 c1 c2 c3
    go_loop [5, 24] (fun o i => ∃ j : Nat, j ≤ L.length ∧ i = .int .i64 j ∧ o = .bool (anyL (L.take j) p)) (fun _ i => L.length - (intOf i).toNat)
    case atStart => exact ⟨0, Nat.zero_le _, rfl, rfl⟩
    case round =>
      obtain ⟨j, hj, rfl, rfl⟩ := hrel
      by_cases hlt : j < L.length
      · have hgj := hg j hlt
        have hstep := anyL_take L p j hlt
        by_cases hany : anyL (L.take j) p = true
        · have hn := hid (show anyL (L.take (j + 1)) p = true by rw [hstep, hany]; rfl)
          rw [hany]
          clear hstep hany hg
          go_wp2
          go_round
          case rel => exact ⟨j + 1, by omega, by go_num, by rw [hn.out]⟩
          case measure => simp [intOf]; omega
        · have hany' : anyL (L.take j) p = false := by simpa using hany
          have hn := hid (show anyL (L.take (j + 1)) p = (L[j] == p) by rw [hstep, hany']; rfl)
          rw [hany']
          clear hstep hany hany' hg
          by_cases he : L[j] = p
          · have he' : (L[j] == p) = true := beqT he
            have hn' := hid (show anyL (L.take (j + 1)) p = true by rw [hn.out, he'])
            clear hn he
            go_wp2
            go_round
            case rel => exact ⟨j + 1, by omega, by go_num, by rw [hn'.out]⟩
            case measure => simp [intOf]; omega
          · have he' : (L[j] == p) = false := beqF he
            have hn' := hid (show anyL (L.take (j + 1)) p = false by rw [hn.out, he'])
            clear hn he
            go_wp2
            go_round
            case rel => exact ⟨j + 1, by omega, by go_num, by rw [hn'.out]⟩
            case measure => simp [intOf]; omega
      · have hall : anyL (L.take j) p = anyL (followsL p0) p := by rw [HL.out, List.take_of_length_le (by omega)]
        rw [hall]
        clear hall hg
        by_cases hany : anyL (followsL p0) p = true
        · rw [hany]
          by_cases h1 : a ≤ a0
          · have Hw := hid (wrongI_10 hany h1)
            clear hany
            go_wp2
            go_quiet (fail)
            go_wp2
            go_ret
            exact ⟨by rw [Hw.out]; rfl, drewN_below hBw _⟩
          · by_cases h2 : 1000000 < a
            · have Hw := hid (wrongI_2 (a0 := a0) hany (by omega) h2)
              have f1 : decide (a ≤ a0) = false := decF h1
              clear hany
              go_wp2
              go_quiet (fail)
              go_wp2
              go_ret
              exact ⟨by rw [Hw.out]; rfl, drewN_below hBw _⟩
            · have Hw := hid (wrongI_0 (a0 := a0) (a := a) hany (by omega) (by omega))
              have f1 : decide (a ≤ a0) = false := decF h1
              have f2 : decide (1000000 < a) = false := decF h2
              clear hany
              go_wp2
              go_quiet (fail)
              go_wp2
              go_ret
              exact ⟨by rw [Hw.out]; rfl, drewN_below hBw _⟩
        · have hany' : anyL (followsL p0) p = false := by simpa using hany
          have Hw := hid (wrongI_1 (a0 := a0) (a := a) hany')
          rw [hany']
          clear hany hany'
          go_wp2
          go_ret
          exact ⟨by rw [Hw.out]; rfl, hBw⟩
end Go.Proofs.YtakbedckjaammaaDoor
