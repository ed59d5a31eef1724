/-
  The walk of openbellref.Curve.
-/
import Derived.WalkKit
import Derived.WalkLawsBesides
import Derived.WalkSpells
import Derived.Deep.QuietTactic
import Derived.BigQuiet
import Derived.Deep.LoopGhost
import Derived.Deep.DeepCutAuto
import Derived.Deep.CutBlock
import Derived.Deep.AppendLies
import Derived.Test.YteggaehelnmhnaaDoorRows
import Derived.Test.YteggaehelnmhnaaDoorCurvePlain
import Derived.Test.YteggaehelnmhnaaDoorSortInts
namespace Go.Proofs.YteggaehelnmhnaaDoor
open Go.RowKit
set_option linter.unusedVariables false

theorem refIn_any (x lo hi : Int) (w : World) : Calls Tryd.prog 13 #[.int .i64 x, .int .i64 lo, .int .i64 hi] w fun e w' => e = .returned (.bool (decide (lo ≤ x) && decide (x ≤ hi))) ∧ w = w' := by
  by_cases h1 : lo ≤ x
  · have d1 := decT h1
    go_enter Tryd.func13, Tryd.ntmps13
    go_wp2
    go_ret
    exact ⟨ret_bool (by rw [d1]; rfl), rfl⟩
  · have d1 := decF h1
    go_enter Tryd.func13, Tryd.ntmps13
    go_wp2
    go_ret
    exact ⟨ret_bool (by first | rfl | (rw [d1]; rfl)), rfl⟩

set_option maxRecDepth 100000 in
set_option maxHeartbeats 1000000 in
theorem rok_any (o : Ord5) (w : World) : Calls Tryd.prog 19 #[aggO o] w fun e w' => e = .returned (.bool (okO o)) ∧ Below w.heap.size w w' := by
  unfold aggO
  have HA := hid (show Below w.heap.size w (w.alloc (.cells #[.int .i64 o.id, .int .i64 o.side, .int .i64 o.kind, .int .i64 o.price, .int .i64 o.qty] 28)) from (Below.refl _ _).alloc (Nat.le_refl _) _)
  have H1 := hid (refIn_any o.side 1 2)
  have H2 := hid (refIn_any o.qty 1 1000000)
  have e0 : okO o = ((decide (1 ≤ o.side) && decide (o.side ≤ 2)) && (decide (1 ≤ o.qty) && decide (o.qty ≤ 1000000))) := by
    unfold okO
    rw [Bool.eq_iff_iff]
    simp
    omega
  have E := hid e0
  clear e0
  cases h1 : (decide (1 ≤ o.side) && decide (o.side ≤ 2)) with
  | true =>
    rw [h1] at H1 E
    clear h1
    go_enter Tryd.func19, Tryd.ntmps19
    go_wp2_with fail
    refine (H1.out _).mono ?_
    rintro e w1 ⟨rfl, rfl⟩
    go_wp2_with fail
    refine (H2.out _).mono ?_
    rintro e w1 ⟨rfl, rfl⟩
    go_wp2_with fail
    go_ret
    exact ⟨ret_bool (by rw [E.out]; rfl), HA.out⟩
  | false =>
    rw [h1] at H1 E
    clear h1
    go_enter Tryd.func19, Tryd.ntmps19
    go_wp2_with fail
    refine (H1.out _).mono ?_
    rintro e w1 ⟨rfl, rfl⟩
    go_wp2_with fail
    go_ret
    exact ⟨ret_bool (by rw [E.out]; rfl), HA.out⟩

theorem int_info2 : (Tryd.prog.info? 3).map (fun i => (i.zero, i.size, i.bytes)) = some (some (.int .i64 0), 1, 8) := by kernel_rfl
theorem rpt_info2 : (Tryd.prog.info? 61).map (fun i => (i.zero, i.size, i.bytes)) = some (some (.agg #[.int .i64 0, .int .i64 0, .int .i64 0]), 3, 24) := by kernel_rfl
theorem cell_on2 {w w' : World} (hb : Below w.heap.size w w') {p : Addr} {v : Value} (h : w.cell? p = some v) : w'.cell? p = some v := (hb.cell (World.block_lt_of_cell? w p h)).trans h
theorem row_some2 {w : World} {A : Option Addr} {n c sz : Nat} {t : TypeId} {xs : List Value} (h : RowAt w A n c t sz xs) (hn : 0 < n) : ∃ g, A = some ⟨g, 0, none⟩ := by
  rcases h.2 with ⟨_, h0⟩ | ⟨g, cap, cur, hv, _⟩
  · omega
  · cases hv; exact ⟨g, rfl⟩
theorem int_own {w : World} {g n c : Nat} {t : TypeId} {S : List Int} (h : RowAt w (some ⟨g, 0, none⟩) n c t 1 (S.map (Value.int .i64))) {i : Nat} (hi : i < S.length) : w.cell? ⟨g, i, none⟩ = some (.int .i64 S[i]) := by
  obtain ⟨g0, h0, c0⟩ := h.cell (j := i) (u := .int .i64 S[i]) (by simp [hi])
  cases h0
  exact c0

set_option maxRecDepth 100000 in
set_option maxHeartbeats 4000000 in
theorem rcurve_any (A : Option Addr) (n c : Nat) (l : List Ord5) (more : Int) (w : World) (h : ElemsAt w encO 5 A n l) (hm : n ≤ 100) :
    Calls Tryd.prog 10 #[.slice A n c, .int .i64 more] w fun e w' => Below w.heap.size w w' ∧ ∃ A' c', e = .returned (.slice A' (curveP l more).length c') ∧ RowAt w' A' (curveP l more).length c' 61 3 (flat encT (curveP l more)) := by
  have HH := hid h
  have hl := h.1
  have HL := hid hl
  obtain ⟨ii, hii, hiz0, hiz1, hiz2⟩ := info_parts int_info2
  clear h hl
  go_enter Tryd.func10, Tryd.ntmps10
  go_upto_if 16 with (fail)
  go_cut [5] (fun s5 wx => ∃ A5 n5 c5, s5 = .slice A5 n5 c5 ∧ n5 ≤ 1 ∧ Below w.heap.size w wx ∧ RowAt wx A5 n5 c5 3 1 ((pricesL [] more).map (Value.int .i64)) ∧ (∀ g, blkOf A5 = some g → w.heap.size ≤ g))
  case first =>
    by_cases h1 : 0 < more
    · have d1 := decT h1
      have HE : Hid (pricesL [] more = [more]) := hid (by unfold pricesL; rw [if_pos (by omega)]; rfl)
      go_wp2_with (at_builtin; refine wpList_append_lies _ rfl _ _ 64 rfl w.heap.size 3 ii _ 1 8 Tryd.underlying64 hii hiz0 hiz1 hiz2 rfl (by omega) (.slice none 0 0) 0 [] rfl (World.ownsRow_nil _ _ _ _) ⟨w.heap.size, 0, none⟩ 1 1 [.int .i64 more] rfl rfl (World.news_of_block (cs := #[.int .i64 more]) (t := 3) (fr := (0, 0)) (heap_alloc_new w _)) (by simp [Value.oneCell']) (by omega) (by unfold maxLen; omega) (by omega) (by simp) (w.heap.size + 1) (by simp) ?_; intro gg cap w3 hown hgrow hat hlt3)
      go_meet
      refine ⟨some ⟨gg, 0, none⟩, 1, cap, rfl, Nat.le_refl _, ((Below.refl _ w).alloc (Nat.le_refl _) _).grown hgrow (by simp) (fun q hq => by cases hq), ?_, ?_⟩
      · rw [HE.out]; exact own_base0 hown
      · intro x hx
        cases hx
        rcases hat with h1 | h1
        · cases h1
        · show w.heap.size ≤ gg; omega
    · have d1 := decF h1
      have h2 : more ≤ 0 := by omega
      have HE : Hid (pricesL [] more = []) := hid (by unfold pricesL; rw [if_neg (by omega)]; rfl)
      go_wp2_with fail
      go_meet
      exact ⟨none, 0, 0, rfl, by omega, Below.refl _ _, by rw [HE.out]; exact World.ownsRow_nil _ _ _ _, by simp [blkOf]⟩
  case rest =>
    obtain ⟨A50, n50, c50, rfl, hn50, hB0, hR0, hup0⟩ := hcut
    have HB0 := hid hB0
    have HR0 := hid hR0
    have HUP0 := hid hup0
    clear hB0 hR0 hup0
    go_wp2_with fail
    go_loopg [5, 23] n (fun gg s5 s23 wx => ∃ (k : Nat) (A5 : Option Addr) (n5 c5 : Nat), k ≤ n ∧ gg = n - k ∧ s23 = .int .i64 k ∧ s5 = .slice A5 n5 c5 ∧ n5 ≤ k + 1 ∧ Below w.heap.size w wx ∧ RowAt wx A5 n5 c5 3 1 ((pricesL (l.take k) more).map (Value.int .i64)) ∧ (∀ g, blkOf A5 = some g → w.heap.size ≤ g))
    case atStart => exact ⟨0, A50, n50, c50, Nat.zero_le _, rfl, rfl, rfl, hn50, HB0.out, HR0.out, HUP0.out⟩
    case round =>
      obtain ⟨k, A5, n5, c5, hk, rfl, rfl, rfl, hn5, hB, hR5, hup⟩ := hrel
      by_cases hlt : k < n
      · have hkl : k < l.length := by have := HL.out; omega
        obtain ⟨b, off, hA⟩ : ∃ b off, A = some ⟨b, off, none⟩ := by obtain ⟨b, off, h1, _⟩ := HH.out.2 (by omega); exact ⟨b, off, h1⟩
        subst hA
        obtain ⟨x0, x1, x2, x3, x4⟩ := ord_at (HH.out.below hB (Nat.le_refl _)) hkl
        have hltz : (k : Int) < (n : Int) := by omega
        have hi7 : (0 : Int) ≤ (k : Int) := by omega
        have HT := hid (List.take_succ_eq_append_getElem hkl)
        obtain ⟨o, E⟩ : ∃ o, Hid (l[k] = o) := ⟨_, hid rfl⟩
        rw [E.out] at x0 x1 x2 x3 x4 HT
        have HPP := hid (pricesL_snoc (l.take k) o more)
        rw [← HT.out] at HPP
        have hA1 : Below wr.heap.size wr (wr.alloc (.cells #[.int .i64 o.id, .int .i64 o.side, .int .i64 o.kind, .int .i64 o.price, .int .i64 o.qty] 28)) := (Below.refl _ _).alloc (Nat.le_refl _) _
        have HX := hid (Blk.new wr 28 (boxO o))
        have HB := hid (hB.trans (hA1.mono hB.size))
        have HR5 := hid (hR5.below hA1)
        have hsz := hB.size
        have HUP := hid hup
        have HC := hid (rok_any o (wr.alloc (.cells #[.int .i64 o.id, .int .i64 o.side, .int .i64 o.kind, .int .i64 o.price, .int .i64 o.qty] 28)))
        have hne3 : some wr.heap.size ≠ (Value.slice A5 n5 c5).ownBlock := by
          rw [own_slice]
          intro e
          have := hR5.lt e.symm
          omega
        clear hB hR5 hup hA1
        go_wp2_with fail
        refine HC.out.mono ?_
        rintro e w2 ⟨rfl, hb'⟩
        obtain ⟨y0, y1, y2, y3, y4⟩ := ord_box (Blk.keep HX.out hb')
        have HB2 := hid (HB.out.trans (hb'.mono (by simp; omega)))
        have HR2 := hid (HR5.out.below hb')
        have hs2 := HB2.out.size
        clear x0 x1 x2 x3 x4 HC
        cases hok : okO o with
        | false =>
          have HP : Hid (pricesL (l.take (k + 1)) more = pricesL (l.take k) more) := hid (by rw [HPP.out, if_neg (by rw [hok]; simp)]; simp)
          clear hok
          go_wp2_with fail
          go_roundg (n - (k + 1))
          case measure => omega
          case rel => exact ⟨k + 1, A5, n5, c5, by omega, rfl, by go_num, rfl, by omega, HB2.out, by rw [HP.out]; exact HR2.out, HUP.out⟩
        | true =>
          by_cases hk2 : o.kind = 2
          · have d2 := bneF hk2
            have HP : Hid (pricesL (l.take (k + 1)) more = pricesL (l.take k) more) := hid (by rw [HPP.out, if_neg (fun h => h.2 hk2)]; simp)
            clear hok hk2
            go_wp2_with fail
            go_roundg (n - (k + 1))
            case measure => omega
            case rel => exact ⟨k + 1, A5, n5, c5, by omega, rfl, by go_num, rfl, by omega, HB2.out, by rw [HP.out]; exact HR2.out, HUP.out⟩
          · have d2 := bneT hk2
            have HP : Hid (pricesL (l.take (k + 1)) more = pricesL (l.take k) more ++ [o.price]) := hid (by rw [HPP.out, if_pos ⟨hok, hk2⟩])
            clear hok hk2
            go_wp2_with (at_builtin; refine wpList_append_lies _ rfl _ _ 64 rfl 0 3 ii _ 1 8 Tryd.underlying64 hii hiz0 hiz1 hiz2 rfl (by omega) (.slice A5 n5 c5) n5 _ rfl (HR2.out.alloc _) ⟨w2.heap.size, 0, none⟩ 1 1 [.int .i64 o.price] rfl rfl (World.news_of_block (cs := #[.int .i64 o.price]) (t := 3) (fr := (0, 0)) (heap_alloc_new w2 _)) (by simp [Value.oneCell']) (by omega) (by unfold maxLen; omega) (by omega) (by simp) (w2.heap.size + 1) (by simp) ?_; intro gg cap w3 hown hgrow hat hlt3)
            go_roundg (n - (k + 1))
            case measure => omega
            case rel =>
              refine ⟨k + 1, some ⟨gg, 0, none⟩, n5 + 1, cap, by omega, rfl, by go_num, rfl, by omega, (HB2.out.alloc hs2 _).grown hgrow (by simp; omega) (fun x hx => HUP.out x (by rw [← own_slice A5 n5 c5]; exact hx)), ?_, ?_⟩
              · rw [HP.out, List.map_append]; exact hown
              · intro x hx
                cases hx
                rw [own_slice] at hat
                rcases hat with h1 | h1
                · exact HUP.out _ h1
                · show w.heap.size ≤ gg; omega
      · obtain rfl : n = k := by omega
        have hltz : ¬ (n : Int) < (n : Int) := by omega
        have etk : l.take n = l := List.take_of_length_le (by rw [HL.out]; exact Nat.le_refl _)
        rw [etk] at hR5
        have hn6 : n5 ≤ 1000 := by omega
        have HC := hid (sortInts_any A5 n5 c5 (pricesL l more) wr hR5 (by omega))
        have HB := hid hB
        have HUP := hid hup
        clear hR5 hB hup etk
        go_wp2_with fail
        refine HC.out.mono ?_
        rintro e w2 ⟨rfl, hRS, hK⟩
        have HB3 := hid (HB.out.trans (hK.below HUP.out HB.out.size))
        have HCP : Hid (curveP l more = (dd ((pricesL l more).mergeSort fun x y => decide (x ≤ y))).map (pointOf (goodL l))) := hid rfl
        generalize (pricesL l more).mergeSort (fun x y => decide (x ≤ y)) = S at hRS HCP
        have hSl : S.length = n5 := by have := hRS.1; simpa using this
        have HSL := hid hSl
        have HRS := hid hRS
        have hsz2 := HB3.out.size
        clear hRS hK hSl HC
        go_wp2_with fail
        go_loopg [9, 45] n5 (fun gg s9 s45 wx => ∃ (i : Nat) (A9 : Option Addr) (n9 c9 : Nat), i ≤ n5 ∧ gg = n5 - i ∧ s45 = .int .i64 i ∧ s9 = .slice A9 n9 c9 ∧ n9 ≤ i ∧ Below w2.heap.size w2 wx ∧ RowAt wx A9 n9 c9 61 3 (flat encT ((dd (S.take i)).map (pointOf (goodL l)))) ∧ (∀ g, blkOf A9 = some g → w2.heap.size ≤ g))
        case atStart => exact ⟨0, none, 0, 0, Nat.zero_le _, rfl, rfl, rfl, Nat.le_refl _, Below.refl _ _, World.ownsRow_nil _ _ _ _, by simp [blkOf]⟩
        case round =>
          obtain ⟨i, A9, n9, c9, hi, rfl, rfl, rfl, hn9, hB, hR9, hup9⟩ := hrel
          by_cases hlt2 : i < n5
          · have hil : i < S.length := by have := HSL.out; omega
            have hRv1 := HRS.out.below hB
            obtain ⟨gv, rfl⟩ := row_some2 hRv1 (by omega)
            have xv := int_own hRv1 hil
            have hltz2 : (i : Int) < (n5 : Int) := by omega
            have hi8 : (0 : Int) ≤ (i : Int) := by omega
            have HT2 := hid (List.take_succ_eq_append_getElem hil)
            obtain ⟨p, E⟩ : ∃ p, Hid (S[i] = p) := ⟨_, hid rfl⟩
            rw [E.out] at xv HT2
            have HDD := hid (dd_snoc (S.take i) p)
            rw [← HT2.out] at HDD
            obtain ⟨dup, HDU⟩ : ∃ dup : Bool, Hid (dup = decide ((S.take i).getLast? = some p)) := ⟨_, hid rfl⟩
            have HRq := hid hR9
            have HBq := hid hB
            have HUP9 := hid hup9
            have HRV := hid hRv1
            clear hB hR9 hup9 hRv1
            go_upto_region 16 with fail
            go_cut [60] (fun s60 wx => s60 = .bool dup ∧ wx = wr)
            case first =>
              by_cases hi0 : i = 0
              · subst hi0
                have hd0 : dup = false := by rw [HDU.out]; simp
                subst hd0
                go_wp2_with fail
                go_meet
                exact ⟨rfl, rfl⟩
              · have d0 : decide ((0 : Int) < (i : Int)) = true := decT (by omega)
                have hil2 : i - 1 < S.length := by omega
                have xw := int_own HRV.out hil2
                have ei : (i : Int) - 1 = ((i - 1 : Nat) : Int) := by omega
                have hi91 : (0 : Int) ≤ (i : Int) - 1 := by omega
                have hi92 : (i : Int) - 1 < (n5 : Int) := by omega
                have ex : ((i : Int) - 1).toNat = i - 1 := by omega
                have hgl : (S.take i).getLast? = some S[i - 1] := by
                  rw [List.getLast?_eq_getElem?, List.length_take, Nat.min_eq_left (by omega), List.getElem?_take_of_lt (by omega), List.getElem?_eq_getElem hil2]
                obtain ⟨q, EQ⟩ : ∃ q, Hid (S[i - 1] = q) := ⟨_, hid rfl⟩
                rw [EQ.out] at xw hgl
                have hdu : dup = (q == p) := by rw [HDU.out, hgl]; simp [Bool.beq_eq_decide_eq]
                have HDU2 := hid hdu
                have Hgl := hid hgl
                clear hgl hdu
                by_cases hqp : q = p
                · have t1 := beqT hqp
                  have hd : dup = true := by rw [HDU2.out, t1]
                  subst hd
                  clear hqp
                  go_wp2_with fail
                  go_meet
                  exact ⟨rfl, rfl⟩
                · have t1 := beqF hqp
                  have hd : dup = false := by rw [HDU2.out, t1]
                  subst hd
                  clear hqp
                  go_wp2_with fail
                  go_meet
                  exact ⟨rfl, rfl⟩
            case rest =>
              obtain ⟨rfl, rfl⟩ := hcut
              cases dup with
              | true =>
                have HD2 : Hid (dd (S.take (i + 1)) = dd (S.take i)) := hid (by rw [HDD.out, if_pos (by have := HDU.out; simpa using this.symm)])
                go_wp2_with fail
                go_roundg (n5 - (i + 1))
                case measure => omega
                case rel => exact ⟨i + 1, A9, n9, c9, by omega, rfl, by go_num, rfl, by omega, HBq.out, by rw [HD2.out]; exact HRq.out, HUP9.out⟩
              | false =>
                have HD2 : Hid (dd (S.take (i + 1)) = dd (S.take i) ++ [p]) := hid (by rw [HDD.out, if_neg (by have := HDU.out; simpa using this.symm)])
                obtain ⟨wq, rfl⟩ : ∃ wq : World, wq = wc := ⟨_, rfl⟩
                have hsq := HBq.out.size
                go_wp2_with fail
                go_loopg [65] n (fun gg s65 wx => ∃ (j : Nat) (d s : Int), j ≤ n ∧ gg = n - j ∧ s65 = .int .i64 j ∧ Below wq.heap.size wq wx ∧ Blk wx wq.heap.size 61 #[.int .i64 p, .int .i64 d, .int .i64 s] ∧ Hid (d = demL p (goodL (l.take j)) ∧ s = supL p (goodL (l.take j))))
                case atStart => exact ⟨0, 0, 0, Nat.zero_le _, rfl, rfl, (Below.refl _ _).alloc (Nat.le_refl _) _, Blk.new _ _ _, hid ⟨rfl, rfl⟩⟩
                case round =>
                  obtain ⟨j, d, s, hj, rfl, rfl, hB, hX, HDS⟩ := hrel
                  have hdb := demL_bound (p := p) (goodL_ok (l := l.take j))
                  have hsb := supL_bound (p := p) (goodL_ok (l := l.take j))
                  rw [← HDS.out.1] at hdb
                  rw [← HDS.out.2] at hsb
                  have hjl : (goodL (l.take j)).length ≤ j := Nat.le_trans (List.length_filter_le _ _) (List.length_take_le _ _)
                  obtain ⟨hd0, hd1⟩ := hdb
                  obtain ⟨hs0, hs1⟩ := hsb
                  have hd2 : d ≤ 100000000 := by omega
                  have hs2 : s ≤ 100000000 := by omega
                  clear hd1 hs1 hjl
                  by_cases hlt3 : j < n
                  · have hGl : j < l.length := by have := HL.out; omega
                    obtain ⟨b, off, hA⟩ : ∃ b off, A = some ⟨b, off, none⟩ := by obtain ⟨b, off, h1, _⟩ := HH.out.2 (by omega); exact ⟨b, off, h1⟩
                    subst hA
                    have hBw := HB3.out.trans ((HBq.out.trans (hB.mono hsq)).mono hsz2)
                    obtain ⟨x0, x1, x2, x3, x4⟩ := ord_at (HH.out.below hBw (Nat.le_refl _)) hGl
                    have hltz3 : (j : Int) < (n : Int) := by omega
                    have hi9 : (0 : Int) ≤ (j : Int) := by omega
                    have HT3 := hid (List.take_succ_eq_append_getElem hGl)
                    obtain ⟨o, E3⟩ : ∃ o, Hid (l[j] = o) := ⟨_, hid rfl⟩
                    rw [E3.out] at x0 x1 x2 x3 x4 HT3
                    have hA1 : Below wr.heap.size wr (wr.alloc (.cells #[.int .i64 o.id, .int .i64 o.side, .int .i64 o.kind, .int .i64 o.price, .int .i64 o.qty] 28)) := (Below.refl _ _).alloc (Nat.le_refl _) _
                    have HXw := hid (Blk.keep hX hA1)
                    have HOX := hid (Blk.new wr 28 (boxO o))
                    have HBw := hid (hB.trans (hA1.mono hB.size))
                    have hszw := hB.size
                    have hxl := Blk.lt hX
                    have HC := hid (rok_any o (wr.alloc (.cells #[.int .i64 o.id, .int .i64 o.side, .int .i64 o.kind, .int .i64 o.price, .int .i64 o.qty] 28)))
                    have HGS := hid (goodL_snoc (l.take j) o)
                    rw [← HT3.out] at HGS
                    clear hX hB hA1 hBw
                    go_wp2_with fail
                    refine HC.out.mono ?_
                    rintro e w5 ⟨rfl, hb'⟩
                    obtain ⟨y0, y1, y2, y3, y4⟩ := ord_box (Blk.keep HOX.out hb')
                    have hX5 := Blk.keep HXw.out hb'
                    have HX1 := hid hX5
                    have HB1 := hid (HBw.out.trans (hb'.mono (by simp; omega)))
                    have z1 : w5.cell? ⟨wq.heap.size, 1, none⟩ = some (.int .i64 d) := by rw [Blk.cell hX5]; rfl
                    have z2 : w5.cell? ⟨wq.heap.size, 2, none⟩ = some (.int .i64 s) := by rw [Blk.cell hX5]; rfl
                    have f1 := Blk.frozen hX5 1
                    have f2 := Blk.frozen hX5 2
                    clear x0 x1 x2 x3 x4 HC hX5
                    cases hok : okO o with
                    | false =>
                      have HG0 : Hid (goodL (l.take (j + 1)) = goodL (l.take j)) := hid (by rw [HGS.out, if_neg (by rw [hok]; simp)]; simp)
                      clear hok
                      go_wp2_with fail
                      go_roundg (n - (j + 1))
                      case measure => omega
                      case rel => exact ⟨j + 1, d, s, by omega, rfl, by go_num, HB1.out, HX1.out, by rw [HG0.out]; exact HDS⟩
                    | true =>
                      have hq := okO_qty hok
                      obtain ⟨hq1, hq2⟩ := hq
                      have hside : o.side = 1 ∨ o.side = 2 := by unfold okO at hok; simp at hok; exact hok.2
                      have HG1 : Hid (goodL (l.take (j + 1)) = goodL (l.take j) ++ [o]) := hid (by rw [HGS.out, if_pos hok])
                      have HD1 : Hid (demL p (goodL (l.take (j + 1))) = d + demQ p o) := hid (by rw [HG1.out, demL_snoc, ← HDS.out.1])
                      have HS1 : Hid (supL p (goodL (l.take (j + 1))) = s + supQ p o) := hid (by rw [HG1.out, supL_snoc, ← HDS.out.2])
                      clear hok
                      rcases hside with hs | hs
                      · have t1 := beqT hs
                        have t3 := beqF (show ¬ o.side = 2 by omega)
                        have hsq0 : supQ p o = 0 := by unfold supQ; rw [if_neg (by omega)]
                        by_cases hk2 : o.kind = 2
                        · have t2 := beqT hk2
                          have hdq : demQ p o = o.qty := by unfold demQ; rw [if_pos ⟨hs, .inl hk2⟩]
                          rw [hdq] at HD1
                          rw [hsq0, Int.add_zero] at HS1
                          clear hs hk2 hdq hsq0
                          go_wp2_with fail
                          go_roundg (n - (j + 1))
                          case measure => omega
                          case rel => exact ⟨j + 1, d + o.qty, s, by omega, rfl, by go_num, (HB1.out.setCell (Nat.le_refl _) _), Blk.set_ HX1.out 1 (.int .i64 (d + o.qty)), hid ⟨HD1.out.symm, HS1.out.symm⟩⟩
                        · have t2 := beqF hk2
                          by_cases hpp : p ≤ o.price
                          · have t4 := decT hpp
                            have hdq : demQ p o = o.qty := by unfold demQ; rw [if_pos ⟨hs, .inr hpp⟩]
                            rw [hdq] at HD1
                            rw [hsq0, Int.add_zero] at HS1
                            clear hs hk2 hdq hsq0
                            go_wp2_with fail
                            go_roundg (n - (j + 1))
                            case measure => omega
                            case rel => exact ⟨j + 1, d + o.qty, s, by omega, rfl, by go_num, (HB1.out.setCell (Nat.le_refl _) _), Blk.set_ HX1.out 1 (.int .i64 (d + o.qty)), hid ⟨HD1.out.symm, HS1.out.symm⟩⟩
                          · have t4 := decF hpp
                            have hdq : demQ p o = 0 := by unfold demQ; rw [if_neg (by omega)]
                            rw [hdq, Int.add_zero] at HD1
                            rw [hsq0, Int.add_zero] at HS1
                            clear hs hk2 hdq hsq0
                            go_wp2_with fail
                            go_roundg (n - (j + 1))
                            case measure => omega
                            case rel => exact ⟨j + 1, d, s, by omega, rfl, by go_num, HB1.out, HX1.out, hid ⟨HD1.out.symm, HS1.out.symm⟩⟩
                      · have t1 := beqF (show ¬ o.side = 1 by omega)
                        have t3 := beqT hs
                        have hdq0 : demQ p o = 0 := by unfold demQ; rw [if_neg (by omega)]
                        by_cases hk2 : o.kind = 2
                        · have t2 := beqT hk2
                          have hsq : supQ p o = o.qty := by unfold supQ; rw [if_pos ⟨hs, .inl hk2⟩]
                          rw [hdq0, Int.add_zero] at HD1
                          rw [hsq] at HS1
                          clear hs hk2 hsq hdq0
                          go_wp2_with fail
                          go_roundg (n - (j + 1))
                          case measure => omega
                          case rel => exact ⟨j + 1, d, s + o.qty, by omega, rfl, by go_num, (HB1.out.setCell (Nat.le_refl _) _), Blk.set_ HX1.out 2 (.int .i64 (s + o.qty)), hid ⟨HD1.out.symm, HS1.out.symm⟩⟩
                        · have t2 := beqF hk2
                          by_cases hpp : o.price ≤ p
                          · have t4 := decT hpp
                            have hsq : supQ p o = o.qty := by unfold supQ; rw [if_pos ⟨hs, .inr hpp⟩]
                            rw [hdq0, Int.add_zero] at HD1
                            rw [hsq] at HS1
                            clear hs hk2 hsq hdq0
                            go_wp2_with fail
                            go_roundg (n - (j + 1))
                            case measure => omega
                            case rel => exact ⟨j + 1, d, s + o.qty, by omega, rfl, by go_num, (HB1.out.setCell (Nat.le_refl _) _), Blk.set_ HX1.out 2 (.int .i64 (s + o.qty)), hid ⟨HD1.out.symm, HS1.out.symm⟩⟩
                          · have t4 := decF hpp
                            have hsq : supQ p o = 0 := by unfold supQ; rw [if_neg (by omega)]
                            rw [hdq0, Int.add_zero] at HD1
                            rw [hsq, Int.add_zero] at HS1
                            clear hs hk2 hsq hdq0
                            go_wp2_with fail
                            go_roundg (n - (j + 1))
                            case measure => omega
                            case rel => exact ⟨j + 1, d, s, by omega, rfl, by go_num, HB1.out, HX1.out, hid ⟨HD1.out.symm, HS1.out.symm⟩⟩
                  · obtain rfl : n = j := by omega
                    have hltz3 : ¬ (n : Int) < (n : Int) := by omega
                    have HDS1 : Hid (pointOf (goodL l) p = (p, d, s)) := hid (by
                      have h1 := HDS.out
                      rw [List.take_of_length_le (by rw [HL.out]; exact Nat.le_refl _)] at h1
                      unfold pointOf
                      rw [← h1.1, ← h1.2])
                    have x0 : wr.cell? ⟨wq.heap.size, 0, none⟩ = some (.int .i64 p) := by rw [Blk.cell hX]; rfl
                    have x1 : wr.cell? ⟨wq.heap.size, 1, none⟩ = some (.int .i64 d) := by rw [Blk.cell hX]; rfl
                    have x2 : wr.cell? ⟨wq.heap.size, 2, none⟩ = some (.int .i64 s) := by rw [Blk.cell hX]; rfl
                    have hB4 := HBq.out.trans (hB.mono hsq)
                    have HB4 := hid hB4
                    have hs4 := hB4.size
                    have hO9 : World.ownsRow (wr.alloc (.cells #[.int .i64 p, .int .i64 d, .int .i64 s] 61)) 0 61 3 (.slice A9 n9 c9) n9 (flat encT ((dd (S.take i)).map (pointOf (goodL l)))) := World.ownsRow.alloc (HRq.out.below hB) _
                    have HO9 := hid hO9
                    have hsr := hB.size
                    obtain ⟨i0, hi0, hz0, hz1, hz2⟩ := info_parts rpt_info2
                    clear hX hB hB4 hO9 HDS
                    go_wp2_with (at_builtin; refine wpList_append_lies _ rfl _ _ 43 rfl 0 61 i0 _ 3 24 Tryd.underlying43 hi0 hz0 hz1 hz2 rfl (by omega) (.slice A9 n9 c9) n9 _ rfl HO9.out ⟨wr.heap.size, 0, none⟩ 1 1 [.int .i64 p, .int .i64 d, .int .i64 s] rfl rfl (World.news_of_block (cs := #[.int .i64 p, .int .i64 d, .int .i64 s]) (t := 61) (fr := (0, 0)) (heap_alloc_new wr _)) (by simp [Value.oneCell']) (by omega) (by unfold maxLen; omega) (by omega) (by simp) (wr.heap.size + 1) (by simp) ?_; intro gg cap w5 hown hgrow hat hlt5)
                    go_roundg (n5 - (i + 1))
                    case measure => omega
                    case rel =>
                      refine ⟨i + 1, some ⟨gg, 0, none⟩, n9 + 1, cap, by omega, rfl, by go_num, rfl, by omega, (HB4.out.alloc hs4 _).grown hgrow (by simp; omega) (fun x hx => HUP9.out x (by rw [← own_slice A9 n9 c9]; exact hx)), ?_, ?_⟩
                      · rw [HD2.out, List.map_append, flat_append]
                        show RowAt w5 _ _ _ _ _ (flat encT ((dd (S.take i)).map (pointOf (goodL l))) ++ flat encT [pointOf (goodL l) p])
                        rw [HDS1.out]
                        exact hown
                      · intro x hx
                        cases hx
                        rw [own_slice] at hat
                        rcases hat with h1 | h1
                        · exact HUP9.out _ h1
                        · show w2.heap.size ≤ gg; omega
          · obtain rfl : i = n5 := by omega
            have hltz2 : ¬ (i : Int) < (i : Int) := by omega
            rw [List.take_of_length_le (by rw [HSL.out]; exact Nat.le_refl _), ← HCP.out] at hR9
            have hlc := row_length encT_length (by omega) hR9
            have HR9 := hid hR9
            have HLC := hid hlc
            have HB5 := hid (HB3.out.trans (hB.mono HB3.out.size))
            clear hR9 hlc hB
            go_wp2_with fail
            go_ret
            exact ⟨HB5.out, A9, c9, by rw [HLC.out]; rfl, by rw [HLC.out]; exact HR9.out⟩
end Go.Proofs.YteggaehelnmhnaaDoor
