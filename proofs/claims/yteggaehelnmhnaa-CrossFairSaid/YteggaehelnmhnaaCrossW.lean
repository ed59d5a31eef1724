/-
  The walk of cross.willing: how many lots of a side would be traded at a price.
-/
import Derived.WalkKit
import Derived.WalkLawsBesides
import Derived.WalkSpells
import Derived.Deep.QuietTactic
import Derived.BigQuiet
import Derived.Deep.LoopGhost
import Derived.Deep.DeepCutAuto
import Derived.Deep.CutBlock
import Derived.Laws.EntriesVeiled
import Derived.Test.YteggaehelnmhnaaFairPlain
import Derived.Test.YteggaehelnmhnaaBookLook
namespace Go.Proofs.Yteggaehelnmhnaa
open Go.RowKit
set_option linter.unusedVariables false

set_option maxRecDepth 100000 in
set_option maxHeartbeats 1000000 in
theorem goes_any (w : World) (B1 B2 : Nat) (s p : Int) (hs : Is12 s) (o : Ord5) (c1 : w.cell? ⟨B1, 0, none⟩ = some (.int .i64 s)) (c2 : w.cell? ⟨B2, 0, none⟩ = some (.int .i64 p)) :
    Calls Try.prog 53 #[aggO o, .pointer (some ⟨B1, 0, none⟩), .pointer (some ⟨B2, 0, none⟩)] w fun e w' => e = .returned (.bool (wantB s p o)) ∧ Below w.heap.size w w' := by
  unfold aggO
  have hA : Below w.heap.size w (w.alloc (.cells #[.int .i64 o.id, .int .i64 o.side, .int .i64 o.kind, .int .i64 o.price, .int .i64 o.qty] 37)) := (Below.refl _ _).alloc (Nat.le_refl _) _
  have k1 := (hA.cell (p := ⟨B1, 0, none⟩) (World.block_lt_of_cell? w _ c1)).trans c1
  have k2 := (hA.cell (p := ⟨B2, 0, none⟩) (World.block_lt_of_cell? w _ c2)).trans c2
  have HA := hid hA
  clear hA c1 c2
  by_cases hk : o.kind = 2
  · have t1 := beqT hk
    have HE : Hid (wantB s p o = true) := hid (by unfold wantB; rw [t1]; rfl)
    clear hk hs
    go_enter Try.func53, Try.ntmps53
    go_wp2
    go_ret
    exact ⟨ret_bool (by rw [HE.out]), HA.out⟩
  · have t1 := beqF hk
    rcases hs with rfl | rfl
    · have HE : Hid (wantB 1 p o = decide (p ≤ o.price)) := hid (by unfold wantB; rw [t1]; simp)
      by_cases hp : p ≤ o.price
      · have t4 := decT hp
        clear hk hp
        go_enter Try.func53, Try.ntmps53
        go_wp2
        go_ret
        exact ⟨ret_bool (by rw [HE.out, t4]), HA.out⟩
      · have t4 := decF hp
        clear hk hp
        go_enter Try.func53, Try.ntmps53
        go_wp2
        go_ret
        exact ⟨ret_bool (by rw [HE.out, t4]), HA.out⟩
    · have HE : Hid (wantB 2 p o = decide (o.price ≤ p)) := hid (by unfold wantB; rw [t1]; simp)
      by_cases hp : o.price ≤ p
      · have t4 := decT hp
        clear hk hp
        go_enter Try.func53, Try.ntmps53
        go_wp2
        go_ret
        exact ⟨ret_bool (by rw [HE.out, t4]), HA.out⟩
      · have t4 := decF hp
        clear hk hp
        go_enter Try.func53, Try.ntmps53
        go_wp2
        go_ret
        exact ⟨ret_bool (by rw [HE.out, t4]), HA.out⟩

/-- while the lots are counted -/
structure WillAt (w wr : World) (A : Option Addr) (c : Nat) (L : List Ord5) (B1 B2 : Nat) (s p : Int) : Prop where
  row : RowAt wr A L.length c 37 5 (flat encO L)
  c1 : wr.cell? ⟨B1, 0, none⟩ = some (.int .i64 s)
  c2 : wr.cell? ⟨B2, 0, none⟩ = some (.int .i64 p)
  old : Below w.heap.size w wr
theorem WillAt.below {w wr w' : World} {A : Option Addr} {c : Nat} {L : List Ord5} {B1 B2 : Nat} {s p : Int} (h : WillAt w wr A c L B1 B2 s p) (hb : Below wr.heap.size wr w') : WillAt w w' A c L B1 B2 s p :=
  ⟨h.row.below hb, (hb.cell (p := ⟨B1, 0, none⟩) (World.block_lt_of_cell? wr _ h.c1)).trans h.c1, (hb.cell (p := ⟨B2, 0, none⟩) (World.block_lt_of_cell? wr _ h.c2)).trans h.c2, h.old.trans (hb.mono h.old.size)⟩
theorem wantL_bound {s p : Int} {L : List Ord5} (h : ∀ o ∈ L, 1 ≤ o.qty ∧ o.qty ≤ 1000000) : 0 ≤ wantL s p L ∧ wantL s p L ≤ 1000000 * L.length := by
  unfold wantL
  induction L with
  | nil => simp [sumF]
  | cons o t ih =>
    have h1 := h o (by simp)
    have h2 := ih (fun y hy => h y (by simp [hy]))
    simp only [sumF, List.length_cons]
    split <;> omega
theorem row_addr' {w : World} {A : Option Addr} {n c sz : Nat} {t : TypeId} {xs : List Value} (h : RowAt w A n c t sz xs) (hn : 0 < n) : ∃ g, A = some ⟨g, 0, none⟩ := by
  rcases h.2 with ⟨_, h0⟩ | ⟨g, cap, cur, hv, _⟩
  · omega
  · cases hv; exact ⟨g, rfl⟩

set_option maxRecDepth 100000 in
set_option maxHeartbeats 4000000 in
theorem crossWilling_any (w : World) (b : Nat) (G : Nat → Prop) (L1 L2 : List Ord5) (h : BookAt w b G L1 L2) (s p : Int) (hs : Is12 s) :
    Calls Try.prog 37 #[.pointer (some ⟨b, 0, none⟩), .int .i64 s, .int .i64 p] w fun e w' => e = .returned (.int .i64 (wantL s p (sideL s L1 L2))) ∧ Below w.heap.size w w' := by
  have hmf : ∀ (fn : Fn) (first cap : Array Value) (w : World), (Instr.makeFunc fn first cap).run Try.prog w = .ok (.func fn first cap) w := fun _ _ _ _ => rfl
  have eg := Go.Proofs.enters_of Try.func53 (by kernel_rfl) rfl
  have hl := h.lists
  obtain ⟨L, hL⟩ : ∃ L, sideL s L1 L2 = L := ⟨_, rfl⟩
  have hok : ∀ o ∈ L, 1 ≤ o.qty ∧ o.qty ≤ 1000000 := by
    intro o ho
    rw [← hL] at ho
    have hm : o ∈ L1 ++ L2 := by
      unfold sideL at ho
      split at ho
      · exact List.mem_append_left _ ho
      · exact List.mem_append_right _ ho
    exact (hl.ok o hm).2.2.2
  have hlen : L.length ≤ 100 := by
    have h1 := hl.cnt
    rw [List.length_append] at h1
    rw [← hL]
    unfold sideL
    split <;> omega
  have hA1 : Below w.heap.size w (w.alloc (.cells #[.int .i64 s] 3)) := (Below.refl _ w).alloc (Nat.le_refl _) _
  have hA2 : Below w.heap.size w ((w.alloc (.cells #[.int .i64 s] 3)).alloc (.cells #[.int .i64 p] 3)) := hA1.alloc (by simp) _
  have hc1 : ((w.alloc (.cells #[.int .i64 s] 3)).alloc (.cells #[.int .i64 p] 3)).cell? ⟨w.heap.size, 0, none⟩ = some (.int .i64 s) := Blk.cell (Blk.alloc (Blk.new w 3 #[.int .i64 s]) _) 0
  have hc2 : ((w.alloc (.cells #[.int .i64 s] 3)).alloc (.cells #[.int .i64 p] 3)).cell? ⟨w.heap.size + 1, 0, none⟩ = some (.int .i64 p) := by
    have := Blk.cell (Blk.new (w.alloc (.cells #[.int .i64 s] 3)) 3 #[.int .i64 p]) 0
    rw [World.size_alloc] at this
    exact this
  have HC := hid (bookSide_any _ b G L1 L2 (h.below hA2) s hs)
  rw [hL] at HC ⊢
  have HA2 := hid hA2
  have Hc1 := hid hc1
  have Hc2 := hid hc2
  have HOk := hid hok
  have HS := hid hs
  clear hA1 hA2 hc1 hc2 h hl hL hs hok
  go_enter Try.func37, Try.ntmps37
  go_wp2_with fail
  refine HC.out.mono ?_
  rintro e w3 ⟨hb3, A, c, rfl, hr3, -⟩
  have HW := hid (show WillAt w w3 A c L w.heap.size (w.heap.size + 1) s p from ⟨hr3, (hb3.cell (p := ⟨w.heap.size, 0, none⟩) (World.block_lt_of_cell? _ _ Hc1.out)).trans Hc1.out, (hb3.cell (p := ⟨w.heap.size + 1, 0, none⟩) (World.block_lt_of_cell? _ _ Hc2.out)).trans Hc2.out, HA2.out.trans (hb3.mono HA2.out.size)⟩)
  obtain ⟨n, hn⟩ : ∃ n, L.length = n := ⟨_, rfl⟩
  rw [hn]
  have Hn := hid hn
  have hn100 : n ≤ 100 := by omega
  clear hb3 hr3 HC HA2 Hc1 Hc2 hlen hn
  go_wp2_with fail
  go_loopg [7, 22] n (fun g s7 s22 wr => ∃ i : Nat, i ≤ n ∧ g = n - i ∧ s22 = .int .i64 i ∧ s7 = .int .i64 (wantL s p (L.take i)) ∧ Hid (WillAt w wr A c L w.heap.size (w.heap.size + 1) s p))
  case atStart => exact ⟨0, Nat.zero_le _, rfl, rfl, rfl, HW⟩
  case round =>
    obtain ⟨i, hi, rfl, rfl, rfl, HR⟩ := hrel
    clear HW
    by_cases hlt : i < n
    · have hil : i < L.length := by rw [Hn.out]; exact hlt
      obtain ⟨g, hg⟩ := row_addr' HR.out.row (by omega)
      subst hg
      obtain ⟨x0, x1, x2, x3, x4⟩ := ord_own HR.out.row hil
      obtain ⟨o, ho⟩ : ∃ o, L[i] = o := ⟨_, rfl⟩
      have hoq := HOk.out o (by rw [← ho]; exact List.getElem_mem _)
      rw [ho] at x0 x1 x2 x3 x4
      have Ht := hid (show wantL s p (L.take (i + 1)) = wantL s p (L.take i) + (if wantB s p o = true then o.qty else 0) by
        rw [List.take_succ_eq_append_getElem hil, wantL_append, ho]
        unfold wantL
        simp only [sumF]
        omega)
      have hbd := wantL_bound (s := s) (p := p) (fun y hy => HOk.out y (List.mem_of_mem_take hy) : ∀ y ∈ L.take i, _)
      rw [List.length_take, Hn.out, Nat.min_eq_left (by omega)] at hbd
      obtain ⟨acc, hacc⟩ : ∃ acc, wantL s p (L.take i) = acc := ⟨_, rfl⟩
      rw [hacc] at Ht hbd ⊢
      have i1 : RowKit.wrap64 (acc + o.qty) = acc + o.qty := by unfold RowKit.wrap64; omega
      have hbx : Below wr.heap.size wr (wr.alloc (.cells #[.int .i64 o.id, .int .i64 o.side, .int .i64 o.kind, .int .i64 o.price, .int .i64 o.qty] 37)) := (Below.refl _ _).alloc (Nat.le_refl _) _
      have hW2 := HR.out.below hbx
      have hcall := goes_any _ w.heap.size (w.heap.size + 1) s p HS.out o hW2.c1 hW2.c2
      unfold aggO at hcall
      have HC := hid hcall
      have HBX := hid (Blk.new wr 37 #[.int .i64 o.id, .int .i64 o.side, .int .i64 o.kind, .int .i64 o.price, .int .i64 o.qty])
      have HW2 := hid hW2
      have hltz : (i : Int) < (n : Int) := by omega
      have hi7 : (0 : Int) ≤ (i : Int) := by omega
      clear hcall hW2 hbx ho hacc
      go_wp2_with fail
      refine HC.out.mono ?_
      rintro e w5 ⟨rfl, hb5⟩
      have hbx5 := Blk.keep HBX.out hb5
      have z4 : w5.cell? ⟨wr.heap.size, 4, none⟩ = some (.int .i64 o.qty) := by rw [Blk.cell hbx5]; rfl
      have HW5 := hid (HW2.out.below hb5)
      obtain ⟨q, hq⟩ : ∃ q, wantB s p o = q := ⟨_, rfl⟩
      rw [hq] at Ht ⊢
      clear hbx5 hb5 HC HW2 HBX HR x0 x1 x2 x3 x4 hq
      cases q with
      | true =>
        have Hs := hid (show acc + o.qty = wantL s p (L.take (i + 1)) by rw [Ht.out, if_pos rfl])
        go_wp2_with fail
        go_roundg (n - (i + 1))
        case measure => omega
        case rel => exact ⟨i + 1, by omega, rfl, by go_num, by rw [← Hs.out], HW5⟩
      | false =>
        have Hs := hid (show acc = wantL s p (L.take (i + 1)) by rw [Ht.out, if_neg (by decide)]; omega)
        go_wp2_with fail
        go_roundg (n - (i + 1))
        case measure => omega
        case rel => exact ⟨i + 1, by omega, rfl, by go_num, by rw [← Hs.out], HW5⟩
    · obtain rfl : i = n := by omega
      have hltz : ¬ (i : Int) < (i : Int) := by omega
      have hfull : L.take i = L := List.take_of_length_le (by rw [Hn.out]; exact Nat.le_refl _)
      rw [hfull]
      have HO := hid HR.out.old
      clear HR
      go_wp2_with fail
      go_ret
      exact ⟨rfl, HO.out⟩
end Go.Proofs.Yteggaehelnmhnaa
