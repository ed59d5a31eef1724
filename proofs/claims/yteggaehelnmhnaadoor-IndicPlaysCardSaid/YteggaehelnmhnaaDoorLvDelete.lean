/-
  The walk of slices.Delete at indic.level.
-/
import Derived.WalkKit
import Derived.WalkLawsBesides
import Derived.WalkSpells
import Derived.Deep.RegionLaw
import Derived.Test.YteggaehelnmhnaaDoorLvInsert
namespace Go.Proofs.YteggaehelnmhnaaDoor
open Go.RowKit
set_option linter.unusedVariables false

set_option maxRecDepth 100000 in
set_option maxHeartbeats 1000000 in
theorem deleteL_any (w : World) (b n c i j : Nat) (jz : Int) (hjz : jz = j) (qs : List Tri) (h : RowAt w (some ⟨b, 0, none⟩) n c 63 3 (flat encT qs)) (hn : n ≤ 100000) (hij : i < j) (hj : j ≤ n) :
    Calls Tryd.prog 28 #[.slice (some ⟨b, 0, none⟩) n c, .int .i64 i, .int .i64 jz] w fun e w' =>
      e = .returned (.slice (some ⟨b, 0, none⟩) (i + (n - j)) c) ∧ RowAt w' (some ⟨b, 0, none⟩) (i + (n - j)) c 63 3 (flat encT (qs.take i ++ qs.drop j)) ∧ Keeps (fun x => x = b) w w' := by
  subst hjz
  obtain ⟨hnc, hcm⟩ := h.cap
  obtain ⟨i0, hi0, hz0, hz1, hz2⟩ := info_parts level_info
  have hl : qs.length = n := by have := h.1; rw [flat_length encT_length] at this; omega
  have hfl : (flat encT qs).length = n * 3 := h.1
  obtain ⟨news, hnews⟩ : ∃ news, news = (flat encT qs).drop (j * 3) := ⟨_, rfl⟩
  have hlen : news.length = (n - j) * 3 := by rw [hnews, List.length_drop, hfl]; omega
  have hR : RowAt w.drew (some ⟨b, 0, none⟩) n c 63 3 (flat encT qs) := h.below (Below.drew (Below.refl _ w))
  obtain ⟨A, hA, hsrc⟩ : ∃ A : Addr, (if c = j then some (⟨b, 0, none⟩ : Addr) else some ⟨b, j * 3, none⟩) = some A ∧ Hid (∀ t u, news[t]? = some u → w.drew.cell? (A.add t) = some u) := by
    by_cases hcj : c = j
    · refine ⟨⟨b, 0, none⟩, by simp [hcj], fun t u hu => ?_⟩
      have h0 : news.length = 0 := by rw [hlen]; omega
      rw [List.length_eq_zero_iff.1 h0] at hu
      simp at hu
    · refine ⟨⟨b, j * 3, none⟩, by simp [hcj], fun t u hu => ?_⟩
      rw [add_none]
      rw [hnews, List.getElem?_drop] at hu
      obtain ⟨g, hg, hc⟩ := hR.cell hu
      cases hg
      exact hc
  have s1 : Hid (news.length = (n - j) * 3) := hlen
  have s2 : Hid (∀ u ∈ news, u.oneCell' = true) := by
    intro u hu
    rw [hnews] at hu
    exact flat_one encT_one qs u (List.mem_of_mem_drop hu)
  have s3 : Hid (∀ t, t < news.length → (w.drew.cell? ⟨b, 0 + i * 3 + t, none⟩).isSome = true ∧ w.drew.frozen? ⟨b, 0 + i * 3 + t, none⟩ = false) := by
    intro t ht
    rw [hlen] at ht
    exact ⟨hR.some_ (by omega), hR.frozen _⟩
  obtain ⟨W1, hW1⟩ : ∃ W1, W1 = w.drew.setCells b (0 + i * 3) news := ⟨_, rfl⟩
  have hR1 : RowAt W1 (some ⟨b, 0, none⟩) n c 63 3 (setsFrom (flat encT qs) (i * 3) news) := by rw [hW1, Nat.zero_add]; exact hR.sets _ _ _ _
  obtain ⟨vs, hvl, hcl⟩ := run_clear_any (P := Tryd.prog) W1 23 63 0 (.agg #[.int .i64 0, .int .i64 0, .int .i64 0]) 3 Tryd.underlying23 (fun _ => by kernel_rfl) rfl (by omega) (by intro v hv; simp [Value.cells] at hv; rcases hv with rfl | rfl | rfl <;> rfl) b ((i + (n - j)) * 3) (n - (i + (n - j))) (c - (i + (n - j))) (by omega)
    (fun x hx => hR1.some_ (by omega)) (fun x hx => hR1.frozen _)
  have hp := hR1.pop (i + (n - j)) (by omega)
  rw [setsFrom_splice _ _ _ (by rw [hlen, hfl]; omega), hnews] at hp
  have hsc := splice_close (flat encT qs) (i * 3) (j * 3) (by omega) (by omega)
  rw [hfl, show i * 3 + (n * 3 - j * 3) = (i + (n - j)) * 3 by omega] at hsc
  rw [hsc, flat_close encT_length _ _ _ (by omega)] at hp
  have hK : Keeps (fun x => x = b) w W1 := by
    rw [hW1]
    exact (Keeps.of_below (Below.drew (Below.refl _ w)) _).trans (Keeps.setCells _ _ _ _) (fun i h => .inl h)
  have HP := hid hp
  have HK := hid hK
  have hW : Hid (W1 = w.drew.setCells b (0 + i * 3) news) := hW1
  have hic : i ≤ c := by omega
  have hjc : j ≤ c := by omega
  clear hp hK hW1 hsc hR1 hR hlen hnews hfl hl h
  go_enter Tryd.func28, Tryd.ntmps28
  go_wp2_with fail
  go_region_law (refine step_append_room rfl (.tmp 22) (.tmp 25) 23 rfl 63 i0 3 Tryd.underlying23 hi0 hz1 b 0 i c (by simp [Act.eval, Act.put]) A (n - j) (c - j) news (by simp [Act.eval, Act.put]) s1.out hsrc.out s2.out (by omega) s3.out ?_; rw [← hW.out])
  go_wp2
  go_ret
  exact ⟨rfl, RowAt.sets_past _ _ _ HP.out (Nat.le_refl _), HK.out.trans (Keeps.setCells _ _ _ _) (fun i h => .inl h)⟩
end Go.Proofs.YteggaehelnmhnaaDoor
