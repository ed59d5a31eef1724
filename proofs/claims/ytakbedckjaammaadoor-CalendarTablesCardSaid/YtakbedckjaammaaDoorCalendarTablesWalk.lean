/-
  The walk of openbelllaw.CalendarTables: it returns true, whatever the input.
-/
import Derived.WalkKit
import Derived.WalkLawsBesides
import Derived.WalkSpells
import Derived.Test.YtakbedckjaammaaDoorRefTable
import Derived.Test.YtakbedckjaammaaDoorRefPhase
import Derived.Test.YtakbedckjaammaaDoorLawRows
namespace Go.Proofs.YtakbedckjaammaaDoor
open Go.RowKit

theorem TabIs.one {ps : List (Int × Int)} {f p f' p' : Int} (h : TabIs ps f p) (h' : TabIs ps f' p') : f = f' ∧ p = p' := by
  rcases h with ⟨h1, rfl, rfl⟩ | ⟨h1, rfl, rfl⟩ | ⟨h1, h2, i, hi, ha, hn, rfl, rfl⟩ | ⟨h1, h2, h3, rfl, rfl⟩ <;>
    rcases h' with ⟨k1, rfl, rfl⟩ | ⟨k1, rfl, rfl⟩ | ⟨k1, k2, j, hj, hb, hm, rfl, rfl⟩ | ⟨k1, k2, k3, rfl, rfl⟩ <;>
    first
    | exact ⟨rfl, rfl⟩
    | (exfalso; omega)
    | exact absurd (h3 _ hj) hm
    | exact absurd (k3 _ hi) hn
    | (have : i = j := by
        rcases Nat.lt_trichotomy i j with h | h | h
        · exact absurd (hb i h) hn
        · exact h
        · exact absurd (ha j h) hm
       subst this
       exact ⟨rfl, rfl⟩)

/-- what New answers, by what the document's Table answers -/
theorem new_tab {ps : List (Int × Int)} {w w' : World} {e : Ending} (h : NewPost ps w e w') :
    Below w.heap.size w w' ∧
    ((∃ v n pl, e = .returned (.tuple #[.pointer none, v]) ∧ ErrIs w' v n pl ∧ n ≠ 0 ∧ TabIs ps n pl) ∨
     (TableOk ps ∧ TabIs ps 0 (-1) ∧ ∃ t A cap, e = .returned (.tuple #[.pointer (some ⟨t, 0, none⟩), .nilIface]) ∧
      w.heap.size ≤ t ∧ t < w'.heap.size ∧ w'.cell? ⟨t, 0, none⟩ = some (.slice A ps.length cap) ∧ Pairs w' A ps.length cap ps)) := by
  obtain ⟨hB, h⟩ := h
  refine ⟨hB, ?_⟩
  rcases h with ⟨h1, rfl⟩ | ⟨h1, rfl⟩ | ⟨h1, h2, i, hi, ha, hn, g, rfl, hg, c0, c1⟩ | ⟨h1, h2, h3, h4⟩
  · exact .inl ⟨_, 8, -1, rfl, .inr (.inl ⟨rfl, rfl⟩), by omega, .inl ⟨h1, rfl, rfl⟩⟩
  · exact .inl ⟨_, 4, -1, rfl, .inr (.inl ⟨rfl, rfl⟩), by omega, .inr (.inl ⟨h1, rfl, rfl⟩)⟩
  · exact .inl ⟨_, _, _, rfl, .inr (.inr ⟨g, rfl, c0, c1⟩), hn, .inr (.inr (.inl ⟨h1, h2, i, hi, ha, hn, rfl, rfl⟩))⟩
  · exact .inr ⟨⟨h1, h2, h3⟩, .inr (.inr (.inr ⟨h1, h2, h3, rfl, rfl⟩)), h4⟩

set_option maxRecDepth 100000 in
set_option maxHeartbeats 1000000 in
theorem calendarTables_any (now : Int) (A : Option Addr) (len cap : Nat) (ps : List (Int × Int)) (w : World) (h : Pairs w A len cap ps) (hm : len ≤ 9223372036854775807) (hE : ErrType w) :
    Calls Tryd.prog 5 #[.slice A len cap, .int .i64 now] w fun e w' => e = .returned (.bool true) ∧ Below w.heap.size w w' := by
  by_cases h60 : 60 < len
  · have d60 : decide (60 < (len : Int)) = true := decT (by omega)
    go_enter Tryd.func5, Tryd.ntmps5
    go_wp2
    go_ret
    exact ⟨rfl, Below.refl _ _⟩
  · have d60 : decide (60 < (len : Int)) = false := decF (by omega)
    have Hl := hid h.1
    go_enter Tryd.func5, Tryd.ntmps5
    go_wp2_with fail
    refine (new_any A len cap ps w h hm).mono ?_
    intro e w1 hN
    obtain ⟨hB1, ⟨v, n, pl, rfl, hI, hn, hT⟩ | ⟨hok, hT, t, A1, cap1, rfl, ht, htl, hc, hP⟩⟩ := new_tab hN
    · clear hN
      have hn' := bneT hn
      have HT := hid hT
      have Hn := hid hn
      clear hT hn
      go_wp2_with fail
      refine (lawRows_any A len cap ps w1 (h.below hB1 (Nat.le_refl _)) (by omega)).mono ?_
      rintro e w2 ⟨hB2, A2, cap2, rfl, hP2⟩
      go_wp2_with fail
      refine (rtable_any A2 len cap2 ps w2 hP2 (by omega)).mono ?_
      rintro e w3 ⟨hB3, f, p, rfl, hT3⟩
      obtain ⟨rfl, rfl⟩ := HT.out.one hT3
      clear hT3
      have hB13 : Below w1.heap.size w1 w3 := hB2.trans (hB3.mono hB2.size)
      have hI3 := hid (hI.below hB13)
      clear hI
      have hBw3 : Below w.heap.size w w3 := hB1.trans (hB13.mono hB1.size)
      have hBx : Below w.heap.size w (w3.alloc (.cells #[.int .i64 n, .int .i64 pl] 53)) := hBw3.alloc hBw3.size _
      go_wp2_with fail
      refine (is_any v n pl n pl _ (hE.below hBx (Nat.le_refl _)) (hI3.out.below ((Below.refl _ w3).alloc (Nat.le_refl _) _))).mono ?_
      rintro e w4 ⟨rfl, hB4⟩
      rw [show (n == n && pl == pl) = true by simp]
      go_wp2
      go_ret
      exact ⟨rfl, hBx.trans (hB4.mono hBx.size)⟩
    · clear hN
      have HT := hid hT
      clear hT
      have Hok := hid hok
      have h20 := hok.2.1
      have h0 := hok.1
      obtain rfl : ps.length = len := Hl.out
      clear hok
      go_wp2_with fail
      refine (lawRows_any A _ cap ps w1 (h.below hB1 (Nat.le_refl _)) (by omega)).mono ?_
      rintro e w2 ⟨hB2, A2, cap2, rfl, hP2⟩
      go_wp2_with fail
      refine (rtable_any A2 _ cap2 ps w2 hP2 (by omega)).mono ?_
      rintro e w3 ⟨hB3, f, p, rfl, hT3⟩
      obtain ⟨rfl, rfl⟩ := HT.out.one hT3
      clear hT3
      have hB13 : Below w1.heap.size w1 w3 := hB2.trans (hB3.mono hB2.size)
      have hB1x : Below w1.heap.size w1 (w3.alloc (.cells #[.int .i64 0, .int .i64 (-1)] 53)) := hB13.alloc hB13.size _
      have hBx := hB1.trans (hB1x.mono hB1.size)
      go_wp2_with fail
      refine (lawRows_any A _ cap ps _ (h.below hBx (Nat.le_refl _)) (by omega)).mono ?_
      rintro e w4 ⟨hB4, A4, cap4, rfl, hP4⟩
      go_wp2_with fail
      refine (rphase_any A4 _ cap4 ps now w4 hP4 h0 (by omega)).mono ?_
      rintro e w5 ⟨k, hS, rfl, hB5⟩
      have hph := hS.phAt Hok.out
      have Hph := hid hph
      clear hph hS
      have hB15 : Below w1.heap.size w1 w5 := (hB1x.trans (hB4.mono hB1x.size)).trans (hB5.mono (hB1x.trans (hB4.mono hB1x.size)).size)
      go_wp2_with fail
      refine (phase_any t A1 _ cap1 ps now w5 (by have := hB15.size; omega) (hP.below hB15 (Nat.le_refl _)) ((hB15.cell (p := ⟨t, 0, none⟩) htl).trans hc) h0 h20).mono ?_
      rintro e w6 ⟨rfl, hB6⟩
      rw [Hph.out]
      generalize (rowPh ps k).1 = a
      generalize (rowPh ps k).2 = c
      go_wp2
      go_ret
      refine ⟨ret_bool (by simp), hB1.trans ((hB15.trans (hB6.mono hB15.size)).mono hB1.size)⟩
end Go.Proofs.YtakbedckjaammaaDoor
