/-
  The walk of openbellkeep.BookGone: it returns true, whatever the input.
  openbellkeep.BookGone over slices of orders as they come in.
-/
import Derived.WalkKit
import Derived.WalkLawsBesides
import Derived.WalkSpells
import Derived.Deep.QuietTactic
import Derived.BigQuiet
import Derived.Deep.LoopGhost
import Derived.Deep.DeepCutAuto
import Derived.Deep.CutBlock
import Derived.Test.YtaagaamamjabbaaBookRun
import Derived.Test.YtaagaamamjabbaaLaidBook
import Derived.Test.YtaagaamamjabbaaPick
import Derived.Test.YtaagaamamjabbaaBookAdd
namespace Go.Proofs.Ytaagaamamjabbaa
open Go.RowKit
set_option linter.unusedVariables false

theorem int_info : (Try.prog.info? 3).map (fun i => (i.zero, i.size, i.bytes)) = some (some (.int .i64 0), 1, 8) := by kernel_rfl

set_option maxRecDepth 100000 in
set_option maxHeartbeats 8000000 in
theorem bookGone_any (hadd : AddSaid) (A : Option Addr) (len cap : Nat) (l : List Ord5) (A' : Option Addr) (len' cap' : Nat) (more : List Ord5) (turn : Int) (w : World) (h : ElemsAt w encO 5 A len l) (h' : ElemsAt w encO 5 A' len' more)
    (hf : ∀ o ∈ l, FitO o) (hf' : ∀ o ∈ more, FitO o) (hm : len ≤ 9223372036854775807) (hm' : len' ≤ 9223372036854775807) :
    Calls Try.prog 4 #[.slice A len cap, .slice A' len' cap', .int .i64 turn] w fun e w' => e = .returned (.bool true) ∧ Below w.heap.size w w' := by
  by_cases h40 : 40 < len
  · have d40 : decide (40 < (len : Int)) = true := decT (by omega)
    go_enter Try.func4, Try.ntmps4
    go_wp2
    go_ret
    exact ⟨rfl, Below.refl _ _⟩
  have d40 : decide (40 < (len : Int)) = false := decF (by omega)
  by_cases h40' : 40 < len'
  · have d41 : decide (40 < (len' : Int)) = true := decT (by omega)
    go_enter Try.func4, Try.ntmps4
    go_wp2
    go_ret
    exact ⟨rfl, Below.refl _ _⟩
  have d41 : decide (40 < (len' : Int)) = false := decF (by omega)
  have HADD := hid hadd
  have HL := hid h
  have HM := hid h'
  have HF := hid hf
  have HF' := hid hf'
  have HLL := hid h.1
  have HML := hid h'.1
  clear hadd h h' hf hf' hm hm'
  go_enter Try.func4, Try.ntmps4
  go_wp2_with fail
  refine (bookNew_any _).mono ?_
  rintro e w1 ⟨hB1, b, G, hG, rfl, hAt⟩
  have HAt := hid hAt
  have HB1 := hid hB1
  have HG := hid hG
  clear hB1 hG hAt
  go_wp2_with fail
  refine (laidBook_any HADD.out _).mono ?_
  rintro e w2 ⟨rfl, hB2⟩
  have HAt2 := hid (HAt.out.below hB2)
  have HB2 := hid (HB1.out.trans (hB2.mono HB1.out.size))
  clear hB2 HAt HB1
  go_wp2_with fail
  go_loopg [8] len (fun g s8 wr => ∃ k G L1 L2, k ≤ len ∧ g = len - k ∧ s8 = .int .i64 k ∧ Hid (BookAt wr b G L1 L2) ∧ Hid (Below w.heap.size w wr ∧ ∀ i, G i → w.heap.size ≤ i))
  case atStart => exact ⟨0, G, [], [], Nat.zero_le _, rfl, rfl, HAt2, hid ⟨HB2.out, HG.out⟩⟩
  case round =>
    obtain ⟨k, G1, L1, L2, hk, rfl, rfl, HA, HB⟩ := hrel
    clear HAt2 HB2 HG
    by_cases hlt : k < len
    · have hkz : k < l.length := by have := HLL.out; omega
      obtain ⟨ab, off, hA⟩ : ∃ ab off, A = some ⟨ab, off, none⟩ := by obtain ⟨ab, off, h1, _⟩ := HL.out.2 (by omega); exact ⟨ab, off, h1⟩
      subst hA
      obtain ⟨x0, x1, x2, x3, x4⟩ := ord_at (HL.out.below HB.out.1 (Nat.le_refl _)) hkz
      obtain ⟨o, ho⟩ : ∃ o, l[k] = o := ⟨_, rfl⟩
      have hfit := HF.out o (by rw [← ho]; exact List.getElem_mem _)
      rw [ho] at x0 x1 x2 x3 x4
      have hcall := HADD.out wr b G1 L1 L2 HA.out o hfit
      unfold aggO at hcall
      have HC := hid hcall
      have hltz : (k : Int) < (len : Int) := by omega
      have hi7 : (0 : Int) ≤ (k : Int) := by omega
      clear hcall ho hfit
      go_wp2_with fail
      refine HC.out.mono ?_
      rintro e w3 hp
      obtain ⟨rfl, G3, hA3, hS3⟩ := hp.to HA.out
      have HA3 := hid hA3
      have HB3 := hid (step_fresh HB.out.1 HB.out.2 hS3)
      clear hp hA3 hS3 x0 x1 x2 x3 x4 HC
      go_wp2_with fail
      go_roundg (len - (k + 1))
      case measure => omega
      case rel => exact ⟨k + 1, G3, _, _, by omega, rfl, by go_num, HA3, HB3⟩
    · obtain rfl : k = len := by omega
      have hltz : ¬ (k : Int) < (k : Int) := by omega
      go_wp2_with fail
      obtain ⟨bl, hbl⟩ : ∃ bl, wr.heap.size = bl := ⟨_, rfl⟩
      have HT := hid (Told.start HA.out HB.out.1 HB.out.2)
      rw [hbl] at HT ⊢
      obtain ⟨wq, hwq⟩ : ∃ wq, wr.alloc (.cells #[.slice none 0 0, .slice none 0 0] 42) = wq := ⟨_, rfl⟩
      rw [hwq] at HT ⊢
      clear HA HB hbl hwq HF HL hlt hltz hk
      go_loopg [10] 2 (fun g s10 wr => ∃ k A1 n1 c1 A2 n2 c2, g = 2 - k ∧ ((k = 0 ∧ s10 = .int .i64 0) ∨ (k = 1 ∧ s10 = .int .i64 1) ∨ (k = 2 ∧ s10 = .int .i64 2)) ∧ Hid (Told w wr b G1 L1 L2 bl k A1 n1 c1 A2 n2 c2))
      case atStart => exact ⟨0, none, 0, 0, none, 0, 0, rfl, .inl ⟨rfl, rfl⟩, HT⟩
      case round =>
        obtain ⟨k2, A1, n1, c1, A2, n2, c2, rfl, hc, HR⟩ := hrel
        clear HT
        rcases hc with ⟨rfl, rfl⟩ | ⟨rfl, rfl⟩ | ⟨rfl, rfl⟩
        · have hcall := bookSide_any wr b G1 L1 L2 HR.out.book 1 Is12_1
          have e1 : sideL 1 L1 L2 = L1 := rfl
          rw [e1] at hcall
          have HC := hid hcall
          clear hcall e1
          go_wp2_with fail
          refine HC.out.mono ?_
          rintro e w3 ⟨hb3, A3, c3, rfl, hr3, hf3⟩
          have hw3 := Blk.keep HR.out.was hb3
          have y0 : w3.cell? ⟨bl, 0, none⟩ = some (.slice A1 n1 c1) := by rw [Blk.cell hw3]; rfl
          have f0 := Blk.frozen hw3 0
          have HR3 := hid (HR.out.first hb3 hr3 hf3)
          clear hw3 hb3 hr3 hf3 HC HR
          go_wp2_with fail
          go_roundg 1
          case measure => omega
          case rel => exact ⟨1, _, _, _, _, _, _, rfl, .inr (.inl ⟨rfl, by go_num⟩), HR3⟩
        · have hcall := bookSide_any wr b G1 L1 L2 HR.out.book 2 Is12_2
          have e1 : sideL 2 L1 L2 = L2 := rfl
          rw [e1] at hcall
          have HC := hid hcall
          clear hcall e1
          go_wp2_with fail
          refine HC.out.mono ?_
          rintro e w3 ⟨hb3, A3, c3, rfl, hr3, hf3⟩
          have hw3 := Blk.keep HR.out.was hb3
          have y0 : w3.cell? ⟨bl, 1, none⟩ = some (.slice A2 n2 c2) := by rw [Blk.cell hw3]; rfl
          have f0 := Blk.frozen hw3 1
          have HR3 := hid (HR.out.second hb3 hr3 hf3)
          clear hw3 hb3 hr3 hf3 HC HR
          go_wp2_with fail
          go_roundg 0
          case measure => omega
          case rel => exact ⟨2, _, _, _, _, _, _, rfl, .inr (.inr ⟨rfl, by go_num⟩), HR3⟩
        · obtain ⟨rfl, rfl, hrun⟩ := HR.out.run
          have HRun := hid hrun
          have hcall := bookMany_any wr b G1 L1 L2 hrun.book
          obtain ⟨tot, htot⟩ : ∃ tot : Int, ((L1.length + L2.length : Nat) : Int) = tot := ⟨_, rfl⟩
          rw [htot] at hcall
          have Htot := hid htot
          clear htot
          have HC := hid hcall
          clear hrun HR hcall
          go_wp2_with fail
          refine HC.out.mono ?_
          rintro e w3 ⟨rfl, rfl⟩
          clear HC
          go_wp2_with fail
          clear HLL h40 d40
          go_loopg [12, 13] len' (fun g s12 s13 wr => ∃ k G2 M1 M2 D dc ids, k ≤ len' ∧ g = len' - k ∧ s13 = .int .i64 k ∧ s12 = .slice D (List.length ids) dc ∧ List.length ids ≤ k ∧ Hid (AddInv L1 L2 ids M1 M2) ∧ Hid (Run w wr b G2 M1 M2 bl A1 c1 A2 c2 L1 L2 D dc ids))
          case atStart => exact ⟨0, G1, L1, L2, none, 0, [], Nat.zero_le _, rfl, rfl, rfl, Nat.le_refl _, hid (AddInv.start L1 L2), HRun⟩
          case round =>
            obtain ⟨k3, G2, M1, M2, D, dc, ids, hk, rfl, rfl, rfl, hil, HI, HR⟩ := hrel
            clear HRun
            by_cases hlt : k3 < len'
            · have hkz : k3 < more.length := by have := HML.out; omega
              obtain ⟨ab, off, hA⟩ : ∃ ab off, A' = some ⟨ab, off, none⟩ := by obtain ⟨ab, off, h1, _⟩ := HM.out.2 (by omega); exact ⟨ab, off, h1⟩
              subst hA
              obtain ⟨x0, x1, x2, x3, x4⟩ := ord_at (HM.out.below HR.out.old (Nat.le_refl _)) hkz
              obtain ⟨o, ho⟩ : ∃ o, more[k3] = o := ⟨_, rfl⟩
              have hfit := HF'.out o (by rw [← ho]; exact List.getElem_mem _)
              rw [ho] at x0 x1 x2 x3 x4
              have Ho := hid ho
              have hcall := HADD.out _ b G2 M1 M2 HR.out.book o hfit
              unfold aggO at hcall
              have HC := hid hcall
              have hltz : (k3 : Int) < (len' : Int) := by omega
              have hi7 : (0 : Int) ≤ (k3 : Int) := by omega
              clear hcall ho hfit
              go_wp2_with fail
              refine HC.out.mono ?_
              rintro e w3 hp
              obtain ⟨rfl, hto⟩ := hp.to HR.out.book
              obtain ⟨G3, hrun⟩ := HR.out.turn hto
              have HR3 := hid hrun
              have HI3 := hid (HI.out.step o)
              clear hp hto hrun x0 x1 x2 x3 x4 HC HR
              by_cases e0 : addE M1 M2 o = 0
              · have ei : idsS M1 M2 ids o = ids ++ [o.id] := by unfold idsS; rw [if_pos e0]
                rw [e0, errV_zero]
                rw [ei] at HI3
                obtain ⟨x0, -, -, -, -⟩ := ord_at (HM.out.below HR3.out.old (Nat.le_refl _)) hkz
                rw [Ho.out] at x0
                obtain ⟨i0, hi0, hz0, hz1, hz2⟩ := info_parts int_info
                have HO1 := hid (World.ownsRow.alloc (show w3.ownsRow 0 3 1 (.slice D ids.length dc) ids.length (flat encN ids) from HR3.out.rd) (.cells #[.int .i64 o.id] 3))
                clear e0 ei HI
                go_wp2_with (at_builtin; refine wpList_append_lies _ rfl _ _ 26 rfl 0 3 i0 _ 1 8 Try.underlying26 hi0 hz0 hz1 hz2 rfl (by omega) (.slice D ids.length dc) ids.length _ rfl HO1.out ⟨w3.heap.size, 0, none⟩ 1 1 [.int .i64 o.id] rfl rfl (World.news_of_block (cs := #[.int .i64 o.id]) (t := 3) (fr := (0, 0)) (heap_alloc_new w3 _)) (by simp [Value.oneCell']) (by omega) (by unfold maxLen; omega) (by omega) (by simp) (w3.heap.size + 1) (by simp) ?_; intro gg cap w5 hown hgrow hat hlt5)
                have hk5 := keeps_grown hgrow
                rw [own_slice] at hk5 hat
                have HR5 := hid (HR3.out.number hk5 hown (hat.imp id (fun e => by omega)))
                clear hk5 hown hgrow hat hlt5 x0 HO1 HR3
                go_roundg (len' - (k3 + 1))
                case measure => omega
                case rel => exact ⟨k3 + 1, G3, _, _, _, cap, ids ++ [o.id], by omega, rfl, by go_num, by simp, by simp; omega, HI3, HR5⟩
              · have hne : errV (addE M1 M2 o) = .iface 77 (.int .i64 (addE M1 M2 o)) := if_neg e0
                have ei : idsS M1 M2 ids o = ids := by unfold idsS; rw [if_neg e0]
                rw [hne]
                rw [ei] at HI3
                clear hne ei e0 HI
                go_wp2_with fail
                go_roundg (len' - (k3 + 1))
                case measure => omega
                case rel => exact ⟨k3 + 1, G3, _, _, D, dc, ids, by omega, rfl, by go_num, rfl, by omega, HI3, HR3⟩
            · obtain rfl : k3 = len' := by omega
              have hltz : ¬ (k3 : Int) < (k3 : Int) := by omega
              go_wp2_with fail
              obtain ⟨wq3, hwq3⟩ : ∃ wq3 : World, wq3 = wr := ⟨_, rfl⟩
              subst hwq3
              obtain ⟨m, hm⟩ : ∃ m, ids.length = m := ⟨_, rfl⟩
              have hm40 : m ≤ 40 := by omega
              obtain ⟨c, hcg⟩ : ∃ c, goneL (decide (pk turn 2 = 1)) ids = c := ⟨_, rfl⟩
              have hcl : c.length = m := by rw [← hcg, goneL_length, hm]
              have HCN := hid (show c.Nodup by rw [← hcg]; exact goneL_nodup HI.out.nd)
              have HCM := hid (show ∀ i, i ∈ c ↔ i ∈ ids by rw [← hcg]; exact goneL_mem _ _)
              have hst : Run w wq3 b G2 (M1.filter (notIn (c.take 0))) (M2.filter (notIn (c.take 0))) bl A1 c1 A2 c2 L1 L2 D dc ids := by
                rw [List.take_zero, notIn_nil, notIn_nil]
                exact HR.out
              have HST := hid hst
              rw [hm]
              have Hm := hid hm
              have Hcg := hid hcg
              have Hcl := hid hcl
              clear hst HR hm hcg hcl hil HF' HM HML h40' d41 HADD hlt hltz hk
              go_loopg [14] m (fun g s14 wr => ∃ k G3, k ≤ m ∧ g = m - k ∧ s14 = .int .i64 k ∧ Hid (Run w wr b G3 (M1.filter (notIn (c.take k))) (M2.filter (notIn (c.take k))) bl A1 c1 A2 c2 L1 L2 D dc ids))
              case atStart => exact ⟨0, G2, Nat.zero_le _, rfl, rfl, HST⟩
              case round =>
                obtain ⟨k4, G3, hk, rfl, rfl, HR⟩ := hrel
                clear HST
                by_cases hlt : k4 < m
                · have hck : c[k4]? = some (c[k4]'(by have := Hcl.out; omega)) := List.getElem?_eq_getElem _
                  obtain ⟨i, hi⟩ : ∃ i, c[k4]'(by have := Hcl.out; omega) = i := ⟨_, rfl⟩
                  rw [hi] at hck
                  obtain ⟨hg1, hg2, hg3⟩ := gone_step HI.out HCN.out HCM.out hck
                  obtain ⟨dg, hD⟩ := row_addr HR.out.rd (by have := Hm.out; omega)
                  subst hD
                  have hcall := bookCancel_any wr b G3 _ _ HR.out.book i
                  have HC := hid hcall
                  have Hg1 := hid hg1
                  have Hg2 := hid hg2
                  have Hg3 := hid hg3
                  have Hck := hid hck
                  have hltz : (k4 : Int) < (m : Int) := by omega
                  have hi7 : (0 : Int) ≤ (k4 : Int) := by omega
                  clear hcall hg1 hg2 hg3 hck hi
                  go_wp2_with fail
                  refine (pick_any turn 2 _ (by omega) (by omega)).mono ?_
                  rintro e w' ⟨rfl, rfl⟩
                  by_cases hp : pk turn 2 = 1
                  · have hj : ids[m - 1 - k4]? = some i := by
                      have h1 := Hck.out
                      rw [← Hcg.out, decT hp, goneL_back (by rw [Hm.out]; exact hlt), Hm.out] at h1
                      exact h1
                    obtain ⟨hjl, hji⟩ := List.getElem?_eq_some_iff.1 hj
                    have x0 := num_own HR.out.rd hjl
                    rw [hji] at x0
                    obtain ⟨j, hjj⟩ : ∃ j, m - 1 - k4 = j := ⟨_, rfl⟩
                    rw [hjj] at x0
                    have hjz : (m : Int) - 1 - (k4 : Int) = (j : Int) := by omega
                    rw [hp]
                    clear hj hjl hji
                    go_wp2_with fail
                    refine HC.out.mono ?_
                    rintro e w3 (⟨h0, -, -⟩ | ⟨o, h0, rfl, hto⟩)
                    · have h1 := Hg1.out
                      rw [h0] at h1
                      exact absurd h1 (by decide)
                    · rw [Hg2.out, Hg3.out] at hto
                      obtain ⟨G4, hrun⟩ := HR.out.turn hto
                      have HR4 := hid (hrun.below ((Below.refl _ w3).alloc (Nat.le_refl _) (.cells #[.int .i64 o.id, .int .i64 o.side, .int .i64 o.kind, .int .i64 o.price, .int .i64 o.qty] 41)))
                      rw [errV_zero]
                      unfold aggO
                      clear hto hrun h0 HC Hg1 Hg2 Hg3 HR x0
                      go_wp2_with fail
                      go_roundg (m - (k4 + 1))
                      case measure => omega
                      case rel => exact ⟨k4 + 1, G4, by omega, rfl, by go_num, HR4⟩
                  · have hj : ids[k4]? = some i := by
                      have h1 := Hck.out
                      rw [← Hcg.out, decF hp] at h1
                      exact h1
                    obtain ⟨hjl, hji⟩ := List.getElem?_eq_some_iff.1 hj
                    have x0 := num_own HR.out.rd hjl
                    rw [hji] at x0
                    have b0 := beqF hp
                    clear hj hjl hji
                    go_wp2_with fail
                    refine HC.out.mono ?_
                    rintro e w3 (⟨h0, -, -⟩ | ⟨o, h0, rfl, hto⟩)
                    · have h1 := Hg1.out
                      rw [h0] at h1
                      exact absurd h1 (by decide)
                    · rw [Hg2.out, Hg3.out] at hto
                      obtain ⟨G4, hrun⟩ := HR.out.turn hto
                      have HR4 := hid (hrun.below ((Below.refl _ w3).alloc (Nat.le_refl _) (.cells #[.int .i64 o.id, .int .i64 o.side, .int .i64 o.kind, .int .i64 o.price, .int .i64 o.qty] 41)))
                      rw [errV_zero]
                      unfold aggO
                      clear hto hrun h0 HC Hg1 Hg2 Hg3 HR x0
                      go_wp2_with fail
                      go_roundg (m - (k4 + 1))
                      case measure => omega
                      case rel => exact ⟨k4 + 1, G4, by omega, rfl, by go_num, HR4⟩
                · obtain rfl : k4 = m := by omega
                  have hltz : ¬ (k4 : Int) < (k4 : Int) := by omega
                  go_wp2_with fail
                  have hall := gone_all HI.out HCM.out
                  have hct : c.take k4 = c := List.take_of_length_le (by rw [Hcl.out]; exact Nat.le_refl _)
                  rw [hct, hall.1, hall.2] at HR
                  have HR5 := HR
                  obtain ⟨wq4, hwq4⟩ : ∃ wq4 : World, wq4 = wr := ⟨_, rfl⟩
                  subst hwq4
                  obtain ⟨G5, hG5⟩ : ∃ G5, G5 = G3 := ⟨_, rfl⟩
                  subst hG5
                  clear HR HI HCN HCM Hcg Hcl hall hct hltz hlt hk
                  go_loopg [19] 2 (fun g s19 wr => ∃ k : Nat, g = 2 - k ∧ ((k = 0 ∧ s19 = .int .i64 0) ∨ (k = 1 ∧ s19 = .int .i64 1) ∨ (k = 2 ∧ s19 = .int .i64 2)) ∧ Hid (Run w wr b G5 L1 L2 bl A1 c1 A2 c2 L1 L2 D dc ids))
                  case atStart => exact ⟨0, rfl, .inl ⟨rfl, rfl⟩, HR5⟩
                  case round =>
                    obtain ⟨k5, rfl, hc, HR⟩ := hrel
                    clear HR5
                    rcases hc with ⟨rfl, rfl⟩ | ⟨rfl, rfl⟩ | ⟨rfl, rfl⟩
                    · have hcall := bookSide_any wr b G5 L1 L2 HR.out.book 1 Is12_1
                      have e1 : sideL 1 L1 L2 = L1 := rfl
                      rw [e1] at hcall
                      have HC := hid hcall
                      clear hcall e1
                      go_wp2_with fail
                      refine HC.out.mono ?_
                      rintro e w3 ⟨hb3, A3, c3, rfl, hr3, hf3⟩
                      have hR3 := HR.out.below hb3
                      obtain ⟨n, hn⟩ : ∃ n, L1.length = n := ⟨_, rfl⟩
                      have y0 : w3.cell? ⟨bl, 0, none⟩ = some (.slice A1 n c1) := by rw [Blk.cell hR3.was, ← hn]; rfl
                      have hnb := hR3.len_le 1 Is12_1
                      rw [show sideL 1 L1 L2 = L1 from rfl, hn] at hnb
                      have ne0 : ((n : Int) != (n : Int)) = false := bneF rfl
                      rw [hn] at hr3 ⊢
                      have HR3 := hid hR3
                      have Hr3 := hid hr3
                      have Hn := hid hn
                      clear hb3 hr3 hf3 HC HR hR3 hn
                      go_wp2_with fail
                      go_loopg [22] n (fun g s22 wr => ∃ i : Nat, i ≤ n ∧ g = n - i ∧ s22 = .int .i64 i ∧ Hid (Run w wr b G5 L1 L2 bl A1 c1 A2 c2 L1 L2 D dc ids) ∧ Hid (RowAt wr A3 n c3 41 5 (flat encO L1)))
                      case atStart => exact ⟨0, Nat.zero_le _, rfl, rfl, HR3, Hr3⟩
                      case round =>
                        obtain ⟨i, hi, rfl, rfl, HR, Hr⟩ := hrel
                        clear HR3 Hr3 y0
                        by_cases hlt : i < n
                        · have hil : i < L1.length := by rw [Hn.out]; exact hlt
                          obtain ⟨g3, hg3⟩ := row_addr Hr.out (by omega)
                          obtain ⟨g1, hg1⟩ := row_addr HR.out.r1 (by omega)
                          subst hg3
                          subst hg1
                          obtain ⟨x0, x1, x2, x3, x4⟩ := ord_own Hr.out hil
                          obtain ⟨z0, z1, z2, z3, z4⟩ := ord_own HR.out.r1 hil
                          obtain ⟨o, ho⟩ : ∃ o, L1[i] = o := ⟨_, rfl⟩
                          rw [ho] at x0 x1 x2 x3 x4 z0 z1 z2 z3 z4
                          have y0 : wr.cell? ⟨bl, 0, none⟩ = some (.slice (some ⟨g1, 0, none⟩) n c1) := by rw [Blk.cell HR.out.was, ← Hn.out]; rfl
                          have hltz : (i : Int) < (n : Int) := by omega
                          have hi7 : (0 : Int) ≤ (i : Int) := by omega
                          clear ho
                          go_wp2_with fail
                          go_quiet (fail)
                          have hq : Below wr.heap.size wr (wr.drewN nq) := drewN_below (Below.refl _ _) nq
                          have HR6 := hid (HR.out.below hq)
                          have Hr6 := hid (Hr.out.below hq)
                          clear x0 x1 x2 x3 x4 z0 z1 z2 z3 z4 y0 hq HR Hr
                          go_wp2_with fail
                          go_roundg (n - (i + 1))
                          case measure => omega
                          case rel => exact ⟨i + 1, by omega, rfl, by go_num, HR6, Hr6⟩
                        · obtain rfl : i = n := by omega
                          have hltz : ¬ (i : Int) < (i : Int) := by omega
                          go_wp2_with fail
                          go_roundg 1
                          case measure => omega
                          case rel => exact ⟨1, rfl, .inr (.inl ⟨rfl, by go_num⟩), HR⟩
                    · have hcall := bookSide_any wr b G5 L1 L2 HR.out.book 2 Is12_2
                      have e1 : sideL 2 L1 L2 = L2 := rfl
                      rw [e1] at hcall
                      have HC := hid hcall
                      clear hcall e1
                      go_wp2_with fail
                      refine HC.out.mono ?_
                      rintro e w3 ⟨hb3, A3, c3, rfl, hr3, hf3⟩
                      have hR3 := HR.out.below hb3
                      obtain ⟨n, hn⟩ : ∃ n, L2.length = n := ⟨_, rfl⟩
                      have y0 : w3.cell? ⟨bl, 1, none⟩ = some (.slice A2 n c2) := by rw [Blk.cell hR3.was, ← hn]; rfl
                      have hnb := hR3.len_le 2 Is12_2
                      rw [show sideL 2 L1 L2 = L2 from rfl, hn] at hnb
                      have ne0 : ((n : Int) != (n : Int)) = false := bneF rfl
                      rw [hn] at hr3 ⊢
                      have HR3 := hid hR3
                      have Hr3 := hid hr3
                      have Hn := hid hn
                      clear hb3 hr3 hf3 HC HR hR3 hn
                      go_wp2_with fail
                      go_loopg [22] n (fun g s22 wr => ∃ i : Nat, i ≤ n ∧ g = n - i ∧ s22 = .int .i64 i ∧ Hid (Run w wr b G5 L1 L2 bl A1 c1 A2 c2 L1 L2 D dc ids) ∧ Hid (RowAt wr A3 n c3 41 5 (flat encO L2)))
                      case atStart => exact ⟨0, Nat.zero_le _, rfl, rfl, HR3, Hr3⟩
                      case round =>
                        obtain ⟨i, hi, rfl, rfl, HR, Hr⟩ := hrel
                        clear HR3 Hr3 y0
                        by_cases hlt : i < n
                        · have hil : i < L2.length := by rw [Hn.out]; exact hlt
                          obtain ⟨g3, hg3⟩ := row_addr Hr.out (by omega)
                          obtain ⟨g1, hg1⟩ := row_addr HR.out.r2 (by omega)
                          subst hg3
                          subst hg1
                          obtain ⟨x0, x1, x2, x3, x4⟩ := ord_own Hr.out hil
                          obtain ⟨z0, z1, z2, z3, z4⟩ := ord_own HR.out.r2 hil
                          obtain ⟨o, ho⟩ : ∃ o, L2[i] = o := ⟨_, rfl⟩
                          rw [ho] at x0 x1 x2 x3 x4 z0 z1 z2 z3 z4
                          have y0 : wr.cell? ⟨bl, 1, none⟩ = some (.slice (some ⟨g1, 0, none⟩) n c2) := by rw [Blk.cell HR.out.was, ← Hn.out]; rfl
                          have hltz : (i : Int) < (n : Int) := by omega
                          have hi7 : (0 : Int) ≤ (i : Int) := by omega
                          clear ho
                          go_wp2_with fail
                          go_quiet (fail)
                          have hq : Below wr.heap.size wr (wr.drewN nq) := drewN_below (Below.refl _ _) nq
                          have HR6 := hid (HR.out.below hq)
                          have Hr6 := hid (Hr.out.below hq)
                          clear x0 x1 x2 x3 x4 z0 z1 z2 z3 z4 y0 hq HR Hr
                          go_wp2_with fail
                          go_roundg (n - (i + 1))
                          case measure => omega
                          case rel => exact ⟨i + 1, by omega, rfl, by go_num, HR6, Hr6⟩
                        · obtain rfl : i = n := by omega
                          have hltz : ¬ (i : Int) < (i : Int) := by omega
                          go_wp2_with fail
                          go_roundg 0
                          case measure => omega
                          case rel => exact ⟨2, rfl, .inr (.inr ⟨rfl, by go_num⟩), HR⟩
                    · have hcall := bookMany_any wr b G5 L1 L2 HR.out.book
                      rw [Htot.out] at hcall
                      have HC := hid hcall
                      have HO := hid HR.out.old
                      clear hcall HR
                      go_wp2_with fail
                      refine HC.out.mono ?_
                      rintro e w3 ⟨rfl, rfl⟩
                      go_wp2_with fail
                      go_ret
                      exact ⟨rfl, HO.out⟩
end Go.Proofs.Ytaagaamamjabbaa
namespace Go.Proofs.Ytaagaamamjabbaa
open Go.RowKit

theorem bookGone_rows {W : World} {A A' : Option Addr} {len cap len' cap' : Nat} {rows rows' : List (List Int)} (h : RowsAt W 5 A len cap rows) (h' : RowsAt W 5 A' len' cap' rows') (turn : Int) (_hb : -9223372036854775808 ≤ turn ∧ turn ≤ 9223372036854775807) :
    Calls Try.prog 4 #[.slice A len cap, .slice A' len' cap', .int .i64 turn] W fun e w' => e = .returned (.bool true) ∧ Below W.heap.size W w' :=
  bookGone_any bookAdd_any A len cap (ordsOf rows) A' len' cap' (ordsOf rows') turn W (ords_of_rows h) (ords_of_rows h') (ords_fit h) (ords_fit h')
    (by obtain ⟨_, h1, h2, _⟩ := h; unfold maxLen at h2; omega) (by obtain ⟨_, h1, h2, _⟩ := h'; unfold maxLen at h2; omega)
end Go.Proofs.Ytaagaamamjabbaa
