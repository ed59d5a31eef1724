/-
  The walk of openbellref.Choose.
-/
import Derived.WalkKit
import Derived.WalkLawsBesides
import Derived.WalkSpells
import Derived.Deep.QuietTactic
import Derived.BigQuiet
import Derived.Deep.LoopGhost
import Derived.Deep.DeepCutAuto
import Derived.Deep.CutBlock
import Derived.Deep.AppendLies
import Derived.Deep.RegionHeld3
import Derived.Laws.ResultCell
import Derived.Laws.EntriesVeiled
import Derived.Test.YteggaehelnmhnaaDoorChoose
import Derived.Test.YteggaehelnmhnaaDoorChoosePlain
namespace Go.Proofs.YteggaehelnmhnaaDoor
open Go.RowKit
set_option linter.unusedVariables false

theorem rtraded_any (p : Tri) (w : World) : Calls Tryd.prog 22 #[aggT p] w fun e w' => e = .returned (.int .i64 (traded p)) ∧ Below w.heap.size w w' := by
  obtain ⟨a, b, c⟩ := p
  unfold aggT traded
  dsimp only
  go_enter Tryd.func22, Tryd.ntmps22
  go_wp2
  all_goals
    go_ret
    exact ⟨ret_int (by omega), (Below.refl _ _).alloc (Nat.le_refl _) _⟩

theorem abs_any (x : Int) (w : World) (h : -4398046511104 ≤ x ∧ x ≤ 4398046511104) : Calls Tryd.prog 23 #[.int .i64 x] w fun e w' => e = .returned (.int .i64 (absI x)) ∧ w = w' := by
  obtain ⟨_, _⟩ := h
  by_cases hx : x < 0
  · have d := decT hx
    have E : Hid (absI x = -x) := hid (by unfold absI; rw [if_pos hx])
    go_enter Tryd.func23, Tryd.ntmps23
    go_wp2
    go_ret
    exact ⟨ret_int (by rw [E.out]), rfl⟩
  · have d := decF hx
    have E : Hid (absI x = x) := hid (by unfold absI; rw [if_neg hx])
    go_enter Tryd.func23, Tryd.ntmps23
    go_wp2
    go_ret
    exact ⟨ret_int (by rw [E.out]), rfl⟩

theorem rchoose_ret {w : World} {a : Act} {Q : Ending → World → Prop} {g : Nat} {cs : Array Value} (hp : a.tmps.getD 4 undef = .pointer (some ⟨g, 0, none⟩)) (hd : a.defers = [])
    (hg : Blk w g 46 cs) (h2 : cs.size = 3) (h : Q (.returned (.agg cs)) w) : bodyPost Tryd.prog Tryd.f12 Q .ret a w :=
  bodyPost_ret (results_cell_row Tryd.results12 a.tmps w g _ cs (0, 0) _ hp hg Tryd.underlying46 rfl (by rw [h2]; kernel_rfl)) hd h

theorem rpt_info : (Tryd.prog.info? 61).map (fun i => (i.zero, i.size, i.bytes)) = some (some (.agg #[.int .i64 0, .int .i64 0, .int .i64 0]), 3, 24) := by kernel_rfl
theorem buysR_snoc (l : List Tri) (p : Tri) : buysR (l ++ [p]) = (buysR l && decide (p.2.2 < p.2.1)) := by simp [buysR]
theorem sellsR_snoc (l : List Tri) (p : Tri) : sellsR (l ++ [p]) = (sellsR l && decide (p.2.1 < p.2.2)) := by simp [sellsR]
theorem foldR_snoc (b1 b2 : Bool) (r : Int) (x : Tri) (l : List Tri) (p : Tri) : foldR b1 b2 r x (l ++ [p]) = if betterR b1 b2 r p (foldR b1 b2 r x l) = true then p else foldR b1 b2 r x l := by unfold foldR; rw [List.foldl_append]; rfl
theorem take_snoc' {α : Type} {l : List α} {k : Nat} (h : k < l.length) : l.take (k + 1) = l.take k ++ [l[k]] := List.take_succ_eq_append_getElem h
theorem mostR_snoc (l : List Tri) (p : Tri) : mostR (l ++ [p]) = max (mostR l) (traded p) := by unfold mostR; rw [List.foldl_append]; rfl
theorem leastR_snoc (most : Int) (l : List Tri) (p : Tri) : leastR most (l ++ [p]) = if traded p = most ∧ ((leastR most l).2 = false ∨ absP p < (leastR most l).1) then (absP p, true) else leastR most l := by unfold leastR; rw [List.foldl_append]; rfl
set_option maxRecDepth 100000 in
set_option maxHeartbeats 4000000 in
theorem rchoose_any (A : Option Addr) (n c : Nat) (r : Int) (hr : -1099511627776 ≤ r ∧ r ≤ 1099511627776) (ps : List Tri) (w : World) (h : ElemsAt w encT 3 A n ps) (hN : ∀ p ∈ ps, Near p) (hm : n ≤ 100000) :
    Calls Tryd.prog 12 #[.slice A n c, .int .i64 r] w fun e w' => e = .returned (aggT (rchooseP ps r)) ∧ Below w.heap.size w w' := by
  have HH := hid h
  have HN := hid hN
  have hl := h.1
  have HL := hid hl
  clear h hN hl
  go_enter Tryd.func12, Tryd.ntmps12
  go_wp2_with fail
  go_loopg [6, 27] n (fun gg s6 s27 wr => ∃ (k : Nat) (m : Int), k ≤ n ∧ gg = n - k ∧ s27 = .int .i64 k ∧ s6 = .int .i64 m ∧ Below w.heap.size w wr ∧ Blk wr w.heap.size 46 #[.int .i64 0, .int .i64 0, .int .i64 0] ∧ Hid (m = mostR (ps.take k)))
  case atStart => exact ⟨0, 0, Nat.zero_le _, rfl, rfl, rfl, (Below.refl _ w).alloc (Nat.le_refl _) _, Blk.new _ _ _, hid rfl⟩
  case round =>
    obtain ⟨k, m, hk, rfl, rfl, rfl, hB, hq, HM⟩ := hrel
    by_cases hlt : k < n
    · have hkl : k < ps.length := by have := HL.out; omega
      obtain ⟨b, off, hA⟩ : ∃ b off, A = some ⟨b, off, none⟩ := by obtain ⟨b, off, h1, _⟩ := HH.out.2 (by omega); exact ⟨b, off, h1⟩
      subst hA
      obtain ⟨x0, x1, x2⟩ := tri_at (HH.out.below hB (Nat.le_refl _)) hkl
      have hltz : (k : Int) < (n : Int) := by omega
      have hi7 : (0 : Int) ≤ (k : Int) := by omega
      have HT := hid (take_snoc' hkl)
      obtain ⟨p, E⟩ : ∃ p, Hid (ps[k] = p) := ⟨_, hid rfl⟩
      rw [E.out] at x0 x1 x2 HT
      have hA1 : Below wr.heap.size wr (wr.alloc (.cells #[.int .i64 p.1, .int .i64 p.2.1, .int .i64 p.2.2] 61)) := (Below.refl _ _).alloc (Nat.le_refl _) _
      have hcall := rtraded_any p (wr.alloc (.cells #[.int .i64 p.1, .int .i64 p.2.1, .int .i64 p.2.2] 61))
      obtain ⟨t, ET⟩ : ∃ t, Hid (traded p = t) := ⟨_, hid rfl⟩
      rw [ET.out] at hcall
      have HQ := hid (Blk.keep hq hA1)
      have HB := hid (hB.trans (hA1.mono hB.size))
      have hsz := hB.size
      obtain ⟨p0, p1, p2⟩ := p
      unfold aggT at hcall
      dsimp only at x0 x1 x2 hcall
      clear hq hB hA1
      go_wp2_with fail
      refine hcall.mono ?_
      rintro e w2 ⟨rfl, hb'⟩
      clear x0 x1 x2 hcall
      by_cases hmt : m < t
      · go_wp2_with fail
        go_roundg (n - (k + 1))
        case measure => omega
        case rel => exact ⟨k + 1, t, by omega, rfl, by go_num, rfl, HB.out.trans (hb'.mono (by simp; omega)), Blk.keep HQ.out hb', hid (by rw [HT.out, mostR_snoc, ← HM.out, ET.out]; omega)⟩
      · go_wp2_with fail
        go_roundg (n - (k + 1))
        case measure => omega
        case rel => exact ⟨k + 1, m, by omega, rfl, by go_num, rfl, HB.out.trans (hb'.mono (by simp; omega)), Blk.keep HQ.out hb', hid (by rw [HT.out, mostR_snoc, ← HM.out, ET.out]; omega)⟩
    · obtain rfl : k = n := by omega
      have hltz : ¬ (k : Int) < (k : Int) := by omega
      have HM1 : Hid (m = mostR ps) := hid (by have := HM.out; rwa [List.take_of_length_le (by rw [HL.out]; exact Nat.le_refl _)] at this)
      by_cases hm1 : m < 1
      · have d1 := decT hm1
        have Hm1 := hid hm1
        have d0 : wr.cell? ⟨w.heap.size, 0, none⟩ = some (.int .i64 0) := by rw [Blk.cell hq]; rfl
        have d2 : wr.cell? ⟨w.heap.size, 1, none⟩ = some (.int .i64 0) := by rw [Blk.cell hq]; rfl
        have d3 : wr.cell? ⟨w.heap.size, 2, none⟩ = some (.int .i64 0) := by rw [Blk.cell hq]; rfl
        have f0 := Blk.frozen hq 0
        have f1 := Blk.frozen hq 1
        have f2 := Blk.frozen hq 2
        clear hm1
        go_wp2_with fail
        try simp only [Exit.inBlock, Exit.then]
        refine rchoose_ret (g := w.heap.size) (cs := #[.int .i64 0, .int .i64 0, .int .i64 0]) (by with_unfolding_all rfl) (by with_unfolding_all rfl) (Blk.set_ (Blk.set_ (Blk.set_ hq 0 _) 1 _) 2 _) rfl ?_
        refine ⟨?_, ((hB.setCell (by simp) _).setCell (by simp) _).setCell (by simp) _⟩
        have e1 : rchooseP ps r = (0, 0, 0) := by unfold rchooseP; rw [← HM1.out, if_pos Hm1.out]
        rw [e1]; rfl
      · have d1 := decF hm1
        have HE : Hid (¬ mostR ps < 1) := hid (by rw [← HM1.out]; exact hm1)
        clear hm1 HM hltz hlt
        go_wp2_with fail
        go_loopg [7, 10, 42] k (fun gg s7 s10 s42 wx => ∃ (j : Nat) (l : Int) (b : Bool), j ≤ k ∧ gg = k - j ∧ s42 = .int .i64 j ∧ s7 = .int .i64 l ∧ s10 = .bool b ∧ Below w.heap.size w wx ∧ Blk wx w.heap.size 46 #[.int .i64 0, .int .i64 0, .int .i64 0] ∧ Hid ((l, b) = leastR m (ps.take j)))
        case atStart => exact ⟨0, 0, false, Nat.zero_le _, rfl, rfl, rfl, rfl, hB, hq, hid rfl⟩
        case round =>
          clear hB hq
          obtain ⟨j, l, b, hj, rfl, rfl, rfl, rfl, hB, hq, HS⟩ := hrel
          by_cases hlt : j < k
          · have hkl : j < ps.length := by have := HL.out; omega
            obtain ⟨bA, off, hA⟩ : ∃ b off, A = some ⟨b, off, none⟩ := by obtain ⟨b, off, h1, _⟩ := HH.out.2 (by omega); exact ⟨b, off, h1⟩
            subst hA
            obtain ⟨x0, x1, x2⟩ := tri_at (HH.out.below hB (Nat.le_refl _)) hkl
            have hltz : (j : Int) < (k : Int) := by omega
            have hi7 : (0 : Int) ≤ (j : Int) := by omega
            have HT := hid (take_snoc' hkl)
            have hNp := HN.out _ (List.getElem_mem hkl)
            obtain ⟨p, E⟩ : ∃ p, Hid (ps[j] = p) := ⟨_, hid rfl⟩
            rw [E.out] at x0 x1 x2 HT hNp
            have hcall := rtraded_any p
            obtain ⟨t, ET⟩ : ∃ t, Hid (traded p = t) := ⟨_, hid rfl⟩
            rw [ET.out] at hcall
            have habs := fun W => abs_any (p.2.1 - p.2.2) W (by obtain ⟨_, ⟨_, _⟩, ⟨_, _⟩⟩ := hNp; omega)
            obtain ⟨q, EQ⟩ : ∃ q, Hid (absP p = q) := ⟨_, hid rfl⟩
            have e1 : absI (p.2.1 - p.2.2) = q := EQ.out
            rw [e1] at habs
            have hA1 : Below wr.heap.size wr (wr.alloc (.cells #[.int .i64 p.1, .int .i64 p.2.1, .int .i64 p.2.2] 61)) := (Below.refl _ _).alloc (Nat.le_refl _) _
            have HQ := hid (Blk.keep hq hA1)
            have HB := hid (hB.trans (hA1.mono hB.size))
            have hsz := hB.size
            obtain ⟨p0, p1, p2⟩ := p
            unfold aggT at hcall
            obtain ⟨⟨q1, q2⟩, ⟨q3, q4⟩, ⟨q5, q6⟩⟩ := hNp
            dsimp only at x0 x1 x2 hcall habs q1 q2 q3 q4 q5 q6
            have HC := hid hcall
            have HAb := hid habs
            clear hq hB hA1 e1 hcall habs
            go_wp2_with fail
            refine (HAb.out _).mono ?_
            rintro e w2 ⟨rfl, rfl⟩
            go_wp2_with fail
            refine (HC.out _).mono ?_
            rintro e w2 ⟨rfl, hb'⟩
            clear x0 x1 x2
            by_cases htm : t = m
            · have t0 := beqT htm
              cases b with
              | false =>
                have HY : Hid (leastR m (ps.take (j + 1)) = (q, true)) := hid (by rw [HT.out, leastR_snoc, ← HS.out, ET.out, EQ.out, if_pos ⟨htm, .inl rfl⟩])
                clear htm
                go_wp2_with fail
                go_roundg (k - (j + 1))
                case measure => omega
                case rel => exact ⟨j + 1, q, true, by omega, rfl, by go_num, rfl, rfl, HB.out.trans (hb'.mono (by simp; omega)), Blk.keep HQ.out hb', hid HY.out.symm⟩
              | true =>
                by_cases hql : q < l
                · have t1 := decT hql
                  have HY : Hid (leastR m (ps.take (j + 1)) = (q, true)) := hid (by rw [HT.out, leastR_snoc, ← HS.out, ET.out, EQ.out, if_pos ⟨htm, .inr hql⟩])
                  clear htm hql
                  go_wp2_with fail
                  go_roundg (k - (j + 1))
                  case measure => omega
                  case rel => exact ⟨j + 1, q, true, by omega, rfl, by go_num, rfl, rfl, HB.out.trans (hb'.mono (by simp; omega)), Blk.keep HQ.out hb', hid HY.out.symm⟩
                · have t1 := decF hql
                  have HY : Hid (leastR m (ps.take (j + 1)) = (l, true)) := hid (by rw [HT.out, leastR_snoc, ← HS.out, ET.out, EQ.out, if_neg (fun h => h.2.elim (by simp) hql)])
                  clear htm hql
                  go_wp2_with fail
                  go_roundg (k - (j + 1))
                  case measure => omega
                  case rel => exact ⟨j + 1, l, true, by omega, rfl, by go_num, rfl, rfl, HB.out.trans (hb'.mono (by simp; omega)), Blk.keep HQ.out hb', hid HY.out.symm⟩
            · have t0 := beqF htm
              have HY : Hid (leastR m (ps.take (j + 1)) = (l, b)) := hid (by rw [HT.out, leastR_snoc, ← HS.out, ET.out, EQ.out, if_neg (fun h => htm h.1)])
              clear htm
              go_wp2_with fail
              go_roundg (k - (j + 1))
              case measure => omega
              case rel => exact ⟨j + 1, l, b, by omega, rfl, by go_num, rfl, rfl, HB.out.trans (hb'.mono (by simp; omega)), Blk.keep HQ.out hb', hid HY.out.symm⟩
          · obtain rfl : j = k := by omega
            have hltz : ¬ (j : Int) < (j : Int) := by omega
            have HL1 : Hid ((leastR m ps).1 = l) := hid (by have := HS.out; rw [List.take_of_length_le (by rw [HL.out]; exact Nat.le_refl _)] at this; rw [← this])
            clear HS
            clear hltz hlt
            go_wp2_with fail
            go_loopg [14, 15, 16, 70] j (fun gg s14 s15 s16 s70 wx => ∃ (i : Nat) (A3 : Option Addr) (n3 c3 : Nat) (b1 b2 : Bool), i ≤ j ∧ gg = j - i ∧ s70 = .int .i64 i ∧ s14 = .slice A3 n3 c3 ∧ s15 = .bool b1 ∧ s16 = .bool b2 ∧ n3 ≤ i ∧ Below w.heap.size w wx ∧ Blk wx w.heap.size 46 #[.int .i64 0, .int .i64 0, .int .i64 0] ∧
              RowAt wx A3 n3 c3 61 3 (flat encT (bestR m l (ps.take i))) ∧ (∀ g, blkOf A3 = some g → w.heap.size < g) ∧ Hid (b1 = buysR (bestR m l (ps.take i)) ∧ b2 = sellsR (bestR m l (ps.take i))))
            case atStart => exact ⟨0, none, 0, 0, true, true, Nat.zero_le _, rfl, rfl, rfl, rfl, rfl, Nat.le_refl _, hB, hq, World.ownsRow_nil _ _ _ _, by simp [blkOf], hid ⟨rfl, rfl⟩⟩
            case round =>
              clear hB hq
              obtain ⟨i, A3, n3, c3, b1, b2, hi, rfl, rfl, rfl, rfl, rfl, hn3, hB, hq, hR3, hup, HS⟩ := hrel
              by_cases hlt : i < j
              · have hkl : i < ps.length := by have := HL.out; omega
                obtain ⟨bA, off, hA⟩ : ∃ b off, A = some ⟨b, off, none⟩ := by obtain ⟨b, off, h1, _⟩ := HH.out.2 (by omega); exact ⟨b, off, h1⟩
                subst hA
                obtain ⟨x0, x1, x2⟩ := tri_at (HH.out.below hB (Nat.le_refl _)) hkl
                have hltz : (i : Int) < (j : Int) := by omega
                have hi7 : (0 : Int) ≤ (i : Int) := by omega
                have HT := hid (take_snoc' hkl)
                have hNp := HN.out _ (List.getElem_mem hkl)
                obtain ⟨p, E⟩ : ∃ p, Hid (ps[i] = p) := ⟨_, hid rfl⟩
                rw [E.out] at x0 x1 x2 HT hNp
                have hcall := rtraded_any p
                obtain ⟨t, ET⟩ : ∃ t, Hid (traded p = t) := ⟨_, hid rfl⟩
                rw [ET.out] at hcall
                have habs := fun W => abs_any (p.2.1 - p.2.2) W (by obtain ⟨_, ⟨_, _⟩, ⟨_, _⟩⟩ := hNp; omega)
                obtain ⟨q, EQ⟩ : ∃ q, Hid (absP p = q) := ⟨_, hid rfl⟩
                have e1 : absI (p.2.1 - p.2.2) = q := EQ.out
                rw [e1] at habs
                have HPP := hid (rfl : (flat encT [p]) = [.int .i64 p.1, .int .i64 p.2.1, .int .i64 p.2.2])
                have HYN : Hid (¬ (t = m ∧ q = l) → bestR m l (ps.take (i + 1)) = bestR m l (ps.take i)) := hid (fun h => by
                  rw [HT.out]; unfold bestR; rw [List.filter_append]
                  have : ((traded p == m) && (absP p == l)) = false := by
                    rw [ET.out, EQ.out]; simp; exact fun h1 h2 => h ⟨h1, h2⟩
                  simp [this])
                have HYY : Hid (t = m → q = l → bestR m l (ps.take (i + 1)) = bestR m l (ps.take i) ++ [p]) := hid (fun h1 h2 => by
                  rw [HT.out]; unfold bestR; rw [List.filter_append]
                  have : ((traded p == m) && (absP p == l)) = true := by
                    rw [ET.out, EQ.out]; simp; exact ⟨h1, h2⟩
                  simp [this])
                have hA1 : Below wr.heap.size wr (wr.alloc (.cells #[.int .i64 p.1, .int .i64 p.2.1, .int .i64 p.2.2] 61)) := (Below.refl _ _).alloc (Nat.le_refl _) _
                have HQ := hid (Blk.keep hq hA1)
                have HB := hid (hB.trans (hA1.mono hB.size))
                have HR := hid (hR3.below hA1)
                have HX := hid (Blk.new wr 61 #[.int .i64 p.1, .int .i64 p.2.1, .int .i64 p.2.2])
                have hsz := hB.size
                have HUP := hid hup
                have hne3 : some wr.heap.size ≠ (Value.slice A3 n3 c3).ownBlock := by
                  rw [own_slice]
                  intro e
                  have := hR3.lt e.symm
                  omega
                obtain ⟨i0, hi0, hz0, hz1, hz2⟩ := info_parts rpt_info
                obtain ⟨p0, p1, p2⟩ := p
                unfold aggT at hcall
                obtain ⟨⟨q1, q2⟩, ⟨q3, q4⟩, ⟨q5, q6⟩⟩ := hNp
                dsimp only at x0 x1 x2 hcall habs q1 q2 q3 q4 q5 q6
                have HC := hid hcall
                have HAb := hid habs
                clear hq hB hA1 e1 hcall habs hR3 hup
                go_wp2_with fail
                refine (HC.out _).mono ?_
                rintro e w2 ⟨rfl, hb'⟩
                have hX2 := Blk.keep HX.out hb'
                have z0 : w2.cell? ⟨wr.heap.size, 0, none⟩ = some (.int .i64 p0) := by rw [Blk.cell hX2]; rfl
                have z1 : w2.cell? ⟨wr.heap.size, 1, none⟩ = some (.int .i64 p1) := by rw [Blk.cell hX2]; rfl
                have z2 : w2.cell? ⟨wr.heap.size, 2, none⟩ = some (.int .i64 p2) := by rw [Blk.cell hX2]; rfl
                have HB2 := hid (HB.out.trans (hb'.mono (by simp; omega)))
                have HQ2 := hid (Blk.keep HQ.out hb')
                have HR2 := hid (HR.out.below hb')
                clear x0 x1 x2 hX2 HB HQ HR
                by_cases htm : t = m
                · have t0 := beqT htm
                  by_cases hql : q = l
                  · have t1 := beqT hql
                    have HY := hid (HYY.out htm hql)
                    clear htm hql
                    go_wp2_with fail
                    refine (HAb.out _).mono ?_
                    rintro e w3 ⟨rfl, rfl⟩
                    have hA9 : Below w2.heap.size w2 (w2.alloc (.cells #[.int .i64 p0, .int .i64 p1, .int .i64 p2] 61)) := (Below.refl _ _).alloc (Nat.le_refl _) _
                    have y0 := cell_on hA9 z0
                    have y1 := cell_on hA9 z1
                    have y2 := cell_on hA9 z2
                    have HA9 := hid hA9
                    clear hA9
                    have hs2 := HB2.out.size
                    cases b1 <;> cases b2
                    all_goals
                      go_wp2_with (at_builtin; refine wpList_append_lies _ rfl _ _ 43 rfl 0 61 i0 _ 3 24 Tryd.underlying43 hi0 hz0 hz1 hz2 rfl (by omega) (.slice A3 n3 c3) n3 _ rfl (HR2.out.alloc _) ⟨w2.heap.size, 0, none⟩ 1 1 [.int .i64 p0, .int .i64 p1, .int .i64 p2] rfl rfl (World.news_of_block (cs := #[.int .i64 p0, .int .i64 p1, .int .i64 p2]) (t := 61) (fr := (0, 0)) (heap_alloc_new w2 _)) (by simp [Value.oneCell']) (by omega) (by unfold maxLen; omega) (by omega) (by simp) (w2.heap.size + 1) (by simp) ?_; intro gg cap w3 hown hgrow hat hlt3; have zz0 := hgrow.cell y0 hne3; have zz1 := hgrow.cell y1 hne3; have zz2 := hgrow.cell y2 hne3)
                      go_roundg (j - (i + 1))
                      case measure => omega
                      case rel =>
                        refine ⟨i + 1, some ⟨gg, 0, none⟩, n3 + 1, cap, _, _, by omega, rfl, by go_num, rfl, rfl, rfl, by omega, (HB2.out.trans (HA9.out.mono hs2)).grown hgrow (by simp; omega) (fun x hx => by have := HUP.out x (by rw [← own_slice A3 n3 c3]; exact hx); omega), Blk.grown (Blk.alloc HQ2.out _) hgrow (fun e => by have := HUP.out _ (by rw [← own_slice A3 n3 c3]; exact e.symm); omega), ?_, ?_, hid ⟨?_, ?_⟩⟩
                        · rw [HY.out, flat_snoc]; exact hown
                        · intro x hx
                          cases hx
                          rw [own_slice] at hat
                          rcases hat with h1 | h1
                          · exact HUP.out _ h1
                          · show w.heap.size < gg; omega
                        · rw [HY.out, buysR_snoc, ← HS.out.1]; rfl
                        · rw [HY.out, sellsR_snoc, ← HS.out.2]; rfl
                  · have t1 := beqF hql
                    have HY := hid (HYN.out (fun h => hql h.2))
                    clear htm hql
                    go_wp2_with fail
                    refine (HAb.out _).mono ?_
                    rintro e w3 ⟨rfl, rfl⟩
                    go_wp2_with fail
                    go_roundg (j - (i + 1))
                    case measure => omega
                    case rel => exact ⟨i + 1, A3, n3, c3, b1, b2, by omega, rfl, by go_num, rfl, rfl, rfl, by omega, HB2.out, HQ2.out, by rw [HY.out]; exact HR2.out, HUP.out, by rw [HY.out]; exact HS⟩
                · have t0 := beqF htm
                  have HY := hid (HYN.out (fun h => htm h.1))
                  clear htm
                  go_wp2_with fail
                  go_roundg (j - (i + 1))
                  case measure => omega
                  case rel => exact ⟨i + 1, A3, n3, c3, b1, b2, by omega, rfl, by go_num, rfl, rfl, rfl, by omega, HB2.out, HQ2.out, by rw [HY.out]; exact HR2.out, HUP.out, by rw [HY.out]; exact HS⟩
              · obtain rfl : i = j := by omega
                have hltz : ¬ (i : Int) < (i : Int) := by omega
                have HS1 := HS.out
                rw [List.take_of_length_le (by rw [HL.out]; exact Nat.le_refl _)] at HS1 hR3
                have HS2 := hid HS1
                have hlb := row_length encT_length (by omega) hR3
                clear HS1
                have HRC : Hid (rchooseP ps r = lastR r (bestR m l ps)) := hid (by unfold rchooseP; rw [if_neg (by have := HE.out; omega), ← HM1.out, HL1.out])
                have hbN : ∀ p ∈ bestR m l ps, Near p := fun p hp => HN.out p (List.mem_filter.1 hp).1
                obtain ⟨wo, rfl⟩ : ∃ wo : World, wo = wr := ⟨_, rfl⟩
                have hne := bestR_ne ps (by have := HE.out; omega)
                rw [← HM1.out, HL1.out] at hne
                generalize bestR m l ps = bs at hlb hR3 HRC hne HS2 hbN
                obtain ⟨x, bt, rfl⟩ : ∃ x bt, bs = x :: bt := by
                  cases bs with
                  | nil => exact absurd rfl hne
                  | cons x bt => exact ⟨x, bt, rfl⟩
                have hn0 : 0 < n3 := by have : (x :: bt).length = n3 := hlb; simp at this; omega
                obtain ⟨gr, rfl⟩ : ∃ gr, A3 = some ⟨gr, 0, none⟩ := by obtain ⟨gr, hA, _⟩ := hR3.elem encT_length (by omega) (i := 0) (by simp); exact ⟨gr, hA⟩
                have HBN := hid hbN
                have HLB := hid hlb
                obtain ⟨x0, x1, x2⟩ := tri_own hR3 (i := 0) (by simp)
                simp only [List.getElem_cons_zero, Nat.zero_mul, Nat.zero_add] at x0 x1 x2
                have hn1 : (0 : Int) < (n3 : Int) := by omega
                have hA1 : Below wo.heap.size wo (wo.alloc (.cells #[.int .i64 x.1, .int .i64 x.2.1, .int .i64 x.2.2] 61)) := (Below.refl _ _).alloc (Nat.le_refl _) _
                have HQ := hid (Blk.keep hq hA1)
                have HB := hid (hB.trans (hA1.mono hB.size))
                have HR := hid (hR3.below hA1)
                have HX := hid (Blk.new wo 61 #[.int .i64 x.1, .int .i64 x.2.1, .int .i64 x.2.2])
                have hsz := hB.size
                have hgl := hR3.lt (g := gr) rfl
                have hql := Blk.lt hq
                have HRR := hid hR3
                clear hq hB hA1 hR3 hbN hlb hne hlt
                go_wp2_with fail
                go_loopg [22, 115] n3 (fun gg s22 s115 wx => ∃ (k : Nat) (y : Tri), k ≤ n3 ∧ gg = n3 - k ∧ s115 = .int .i64 k ∧ Below w.heap.size w wx ∧ Blk wx w.heap.size 46 #[.int .i64 0, .int .i64 0, .int .i64 0] ∧
                  RowAt wx (some ⟨gr, 0, none⟩) n3 c3 61 3 (flat encT (x :: bt)) ∧ Blk wx wo.heap.size 61 #[.int .i64 y.1, .int .i64 y.2.1, .int .i64 y.2.2] ∧ Near y ∧ Hid (y = foldR b1 b2 r x ((x :: bt).take k)))
                case atStart => exact ⟨0, x, Nat.zero_le _, rfl, rfl, HB.out, HQ.out, HR.out, HX.out, HBN.out x (by simp), hid rfl⟩
                case round =>
                  obtain ⟨k, y, hk2, rfl, rfl, hB, hq, hR, hY, hNy, HS3⟩ := hrel
                  by_cases hlt : k < n3
                  · have hkl : k < (x :: bt).length := by have := HLB.out; omega
                    obtain ⟨x0, x1, x2⟩ := tri_own hR hkl
                    have hltz : (k : Int) < (n3 : Int) := by omega
                    have hi7 : (0 : Int) ≤ (k : Int) := by omega
                    have HT := hid (take_snoc' hkl)
                    have hNp := HBN.out _ (List.getElem_mem hkl)
                    obtain ⟨p, E⟩ : ∃ p, Hid ((x :: bt)[k] = p) := ⟨_, hid rfl⟩
                    rw [E.out] at x0 x1 x2 HT hNp
                    have hA1 : Below wr.heap.size wr (wr.alloc (.cells #[.int .i64 p.1, .int .i64 p.2.1, .int .i64 p.2.2] 61)) := (Below.refl _ _).alloc (Nat.le_refl _) _
                    have HQ := hid (Blk.keep hq hA1)
                    have HB := hid (hB.trans (hA1.mono hB.size))
                    have HR := hid (hR.below hA1)
                    have HX := hid (Blk.new wr 61 #[.int .i64 p.1, .int .i64 p.2.1, .int .i64 p.2.2])
                    have HY := hid (Blk.keep hY hA1)
                    have hsz := hB.size
                    have hyl := Blk.lt hY
                    have hql2 := Blk.lt hq
                    have hgl2 := hR.lt (g := gr) rfl
                    have HNP := hid hNp
                    have HNY := hid hNy
                    clear hq hB hA1 hR hY hNy
                    obtain ⟨⟨q1, q2⟩, _⟩ := hNp
                    obtain ⟨⟨q3, q4⟩, _⟩ := HNY.out
                    obtain ⟨p0, p1, p2⟩ := p
                    obtain ⟨y0, y1, y2⟩ := y
                    dsimp only at x0 x1 x2 q1 q2 q3 q4
                    go_upto_block 8 with fail
                    go_cut [22] (fun s22 wx => s22 = .bool (betterR b1 b2 r (p0, p1, p2) (y0, y1, y2)) ∧ Below w.heap.size w wx ∧ Blk wx w.heap.size 46 #[.int .i64 0, .int .i64 0, .int .i64 0] ∧
                      RowAt wx (some ⟨gr, 0, none⟩) n3 c3 61 3 (flat encT (x :: bt)) ∧ Blk wx wo.heap.size 61 #[.int .i64 y0, .int .i64 y1, .int .i64 y2] ∧ Blk wx wr.heap.size 61 #[.int .i64 p0, .int .i64 p1, .int .i64 p2])
                    case first =>
                      clear x0 x1 x2
                      have z0 : (wr.alloc (.cells #[.int .i64 p0, .int .i64 p1, .int .i64 p2] 61)).cell? ⟨wo.heap.size, 0, none⟩ = some (.int .i64 y0) := by rw [Blk.cell HY.out]; rfl
                      cases b1 with
                      | true =>
                        go_wp2_with fail
                        go_meet
                        exact ⟨by simp [betterR], HB.out, HQ.out, HR.out, HY.out, HX.out⟩
                      | false =>
                        cases b2 with
                        | true =>
                          go_wp2_with fail
                          go_meet
                          exact ⟨by simp [betterR], HB.out, HQ.out, HR.out, HY.out, HX.out⟩
                        | false =>
                          go_wp2_with fail
                          go_quiet ((go_at_call 23; exact Calls.quiet_of_same ((abs_any _ _ (by omega)).mono (fun _ _ ⟨h1, h2⟩ => ⟨h1, h2.symm⟩))))
                          by_cases h1 : absI (p0 - r) < absI (y0 - r)
                          · have t1 := decT h1
                            have HE1 : Hid (betterR false false r (p0, p1, p2) (y0, y1, y2) = true) := hid (by simp [betterR, h1])
                            clear h1
                            go_wp2_with fail
                            go_meet
                            exact ⟨by rw [HE1.out], drewN_below HB.out _, Blk.drewN HQ.out _, HR.out.below (drewN_below (Below.refl _ _) _), Blk.drewN HY.out _, Blk.drewN HX.out _⟩
                          · have t1 := decF h1
                            by_cases h2 : absI (p0 - r) = absI (y0 - r)
                            · have t2 := beqT h2
                              have HE1 : Hid (betterR false false r (p0, p1, p2) (y0, y1, y2) = decide (p0 < y0)) := hid (by unfold betterR; dsimp only; rw [t1, t2]; simp)
                              have hz0 : (wr.alloc (.cells #[.int .i64 p0, .int .i64 p1, .int .i64 p2] 61)).cell? ⟨wr.heap.size, 0, none⟩ = some (.int .i64 p0) := by rw [Blk.cell HX.out]; rfl
                              clear h1 h2
                              go_wp2_with fail
                              go_meet
                              exact ⟨by rw [HE1.out], drewN_below HB.out _, Blk.drewN HQ.out _, HR.out.below (drewN_below (Below.refl _ _) _), Blk.drewN HY.out _, Blk.drewN HX.out _⟩
                            · have t2 := beqF h2
                              have HE1 : Hid (betterR false false r (p0, p1, p2) (y0, y1, y2) = false) := hid (by unfold betterR; dsimp only; rw [t1, t2]; simp)
                              clear h1 h2
                              go_wp2_with fail
                              go_meet
                              exact ⟨by rw [HE1.out], drewN_below HB.out _, Blk.drewN HQ.out _, HR.out.below (drewN_below (Below.refl _ _) _), Blk.drewN HY.out _, Blk.drewN HX.out _⟩
                    case rest =>
                      obtain ⟨rfl, hB3, hq3, hR3, hY3, hX3⟩ := hcut
                      have z0 : wc.cell? ⟨wr.heap.size, 0, none⟩ = some (.int .i64 p0) := by rw [Blk.cell hX3]; rfl
                      have z1 : wc.cell? ⟨wr.heap.size, 1, none⟩ = some (.int .i64 p1) := by rw [Blk.cell hX3]; rfl
                      have z2 : wc.cell? ⟨wr.heap.size, 2, none⟩ = some (.int .i64 p2) := by rw [Blk.cell hX3]; rfl
                      have v0 : wc.cell? ⟨wo.heap.size, 0, none⟩ = some (.int .i64 y0) := by rw [Blk.cell hY3]; rfl
                      have v1 : wc.cell? ⟨wo.heap.size, 1, none⟩ = some (.int .i64 y1) := by rw [Blk.cell hY3]; rfl
                      have v2 : wc.cell? ⟨wo.heap.size, 2, none⟩ = some (.int .i64 y2) := by rw [Blk.cell hY3]; rfl
                      have f0 := Blk.frozen hY3 0
                      have f1 := Blk.frozen hY3 1
                      have f2 := Blk.frozen hY3 2
                      have hFS : foldR b1 b2 r x ((x :: bt).take (k + 1)) = if betterR b1 b2 r (p0, p1, p2) (y0, y1, y2) = true then (p0, p1, p2) else (y0, y1, y2) := by
                        rw [HT.out, foldR_snoc, ← HS3.out]
                      cases hbb : betterR b1 b2 r (p0, p1, p2) (y0, y1, y2) with
                      | true =>
                        rw [hbb] at hFS
                        have HFS := hid hFS
                        have HBB := hid hbb
                        have H1 := hid hB3
                        have H2 := hid hq3
                        have H3 := hid hR3
                        have H4 := hid hY3
                        clear hFS hbb hB3 hq3 hR3 hY3 hX3 x0 x1 x2
                        go_wp2_with fail
                        go_roundg (n3 - (k + 1))
                        case measure => omega
                        case rel =>
                          have hk3 := keeps3 wc wo.heap.size 0 1 2 (.int .i64 p0) (.int .i64 p1) (.int .i64 p2)
                          have hs1 := H1.out.size
                          refine ⟨k + 1, (p0, p1, p2), by omega, rfl, by go_num, ((H1.out.setCell (by simp; omega) _).setCell (by simp; omega) _).setCell (by simp; omega) _, Blk.keeps H2.out hk3 (by omega), H3.out.keeps hk3 (fun g hg e => by cases hg; have e' : gr = wo.heap.size := e; omega), ?_, HNP.out, hid (by rw [HFS.out]; rfl)⟩
                          exact Blk.set_ (Blk.set_ (Blk.set_ H4.out 0 (.int .i64 p0)) 1 (.int .i64 p1)) 2 (.int .i64 p2)
                      | false =>
                        rw [hbb] at hFS
                        have HFS := hid hFS
                        have HBB := hid hbb
                        have H1 := hid hB3
                        have H2 := hid hq3
                        have H3 := hid hR3
                        have H4 := hid hY3
                        clear hFS hbb hB3 hq3 hR3 hY3 hX3 x0 x1 x2
                        go_wp2_with fail
                        go_roundg (n3 - (k + 1))
                        case measure => omega
                        case rel => exact ⟨k + 1, (y0, y1, y2), by omega, rfl, by go_num, H1.out, H2.out, H3.out, H4.out, HNY.out, hid (by rw [HFS.out]; rfl)⟩
                  · obtain rfl : k = n3 := by omega
                    have hltz : ¬ (k : Int) < (k : Int) := by omega
                    have HS4 : Hid (rchooseP ps r = (y.1, traded y, y.2.1 - y.2.2)) := hid (by
                      rw [HRC.out]
                      show quoteOf [foldR (buysR (x :: bt)) (sellsR (x :: bt)) r x (x :: bt)] = _
                      rw [← HS2.out.1, ← HS2.out.2]
                      have := HS3.out
                      rw [List.take_of_length_le (by rw [HLB.out]; exact Nat.le_refl _)] at this
                      rw [← this]
                      rfl)
                    have hyl := Blk.lt hY
                    have hql2 := Blk.lt hq
                    obtain ⟨y0, y1, y2⟩ := y
                    obtain ⟨⟨q1, q2⟩, ⟨q3, q4⟩, ⟨q5, q6⟩⟩ := hNy
                    dsimp only at q1 q2 q3 q4 q5 q6
                    have hw45 : IntKind.i64.wrap (y1 - y2) = y1 - y2 := IntWalk.i64_in _ (by omega)
                    have hT := rtraded_any (y0, y1, y2)
                    unfold aggT at hT
                    dsimp only at hT
                    obtain ⟨t5, HT5⟩ : ∃ t, Hid (traded (y0, y1, y2) = t) := ⟨_, hid rfl⟩
                    rw [HT5.out] at hT
                    have HTT := hid hT
                    have z0 : wr.drew.cell? ⟨wo.heap.size, 0, none⟩ = some (.int .i64 y0) := by rw [Blk.cell (Blk.drew hY)]; rfl
                    have z1 : wr.drew.cell? ⟨wo.heap.size, 1, none⟩ = some (.int .i64 y1) := by rw [Blk.cell (Blk.drew hY)]; rfl
                    have z2 : wr.drew.cell? ⟨wo.heap.size, 2, none⟩ = some (.int .i64 y2) := by rw [Blk.cell (Blk.drew hY)]; rfl
                    have u0 : wr.drew.cell? ⟨w.heap.size, 0, none⟩ = some (.int .i64 0) := by rw [Blk.cell (Blk.drew hq)]; rfl
                    have u1 : wr.drew.cell? ⟨w.heap.size, 1, none⟩ = some (.int .i64 0) := by rw [Blk.cell (Blk.drew hq)]; rfl
                    have u2 : wr.drew.cell? ⟨w.heap.size, 2, none⟩ = some (.int .i64 0) := by rw [Blk.cell (Blk.drew hq)]; rfl
                    have g0 := Blk.frozen (Blk.drew hq) 0
                    have g1 := Blk.frozen (Blk.drew hq) 1
                    have g2 := Blk.frozen (Blk.drew hq) 2
                    have HQ := hid hq
                    have HB := hid hB
                    clear hT hq hY hR hB
                    go_wp2_with fail
                    go_region_held3 (fun w' => (w'.cell? ⟨wo.heap.size, 0, none⟩ = some (.int .i64 y0) ∧ w'.cell? ⟨wo.heap.size, 1, none⟩ = some (.int .i64 y1) ∧ w'.cell? ⟨wo.heap.size, 2, none⟩ = some (.int .i64 y2)) ∧
                        (w'.cell? ⟨w.heap.size, 0, none⟩ = some (valAt w' ⟨w.heap.size, 0, none⟩) ∧ w'.cell? ⟨w.heap.size, 1, none⟩ = some (valAt w' ⟨w.heap.size, 1, none⟩) ∧ w'.cell? ⟨w.heap.size, 2, none⟩ = some (valAt w' ⟨w.heap.size, 2, none⟩)) ∧ w'.frozen? ⟨w.heap.size, 0, none⟩ = false ∧ w'.frozen? ⟨w.heap.size, 1, none⟩ = false ∧ w'.frozen? ⟨w.heap.size, 2, none⟩ = false)
                      (first | exact ⟨⟨z0, z1, z2⟩, ⟨valAt_some u0, valAt_some u1, valAt_some u2⟩, g0, g1, g2⟩ | assumption | exact q_keep (g := wo.heap.size) (B := w.heap.size) hB9 (by assumption) | exact q_set (g := wo.heap.size) (B := w.heap.size) (by omega) 2 _ (q_set (by omega) 1 _ (q_set (by omega) 0 _ (by assumption))))
                      ((go_at_call 22; refine (HTT.out _).mono ?_; rintro e w9 ⟨rfl, hB9⟩))
                    go_wp2_with fail
                    try simp only [Exit.inBlock, Exit.then]
                    have hs1 := HB.out.size
                    refine rchoose_ret (g := w.heap.size) (cs := #[.int .i64 y0, .int .i64 t5, .int .i64 (y1 - y2)]) (by with_unfolding_all rfl) (by with_unfolding_all rfl) (Blk.set_ (Blk.set_ (Blk.set_ (Blk.keep (Blk.drew HQ.out) hB9) 0 _) 1 _) 2 _) rfl ?_
                    refine ⟨?_, (((HB.out.drew.trans (hB9.mono (by simp; omega))).setCell (by simp) _).setCell (by simp) _).setCell (by simp) _⟩
                    rw [HS4.out, ← HT5.out]
                    rfl
end Go.Proofs.YteggaehelnmhnaaDoor
