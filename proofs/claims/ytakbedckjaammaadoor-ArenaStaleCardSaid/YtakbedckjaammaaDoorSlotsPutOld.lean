/-
  The document's Slots: Put into a slot that was freed.
-/
import Derived.WalkKit
import Derived.WalkLawsBesides
import Derived.WalkSpells
import Derived.Deep.AppendLies
import Derived.Deep.RegionLaw
import Derived.Deep.LoopGhost
import Derived.Deep.DeepCutAuto
import Derived.Deep.QuietTactic
import Derived.BigQuiet
import Derived.Test.YtakbedckjaammaaDoorSlotsPut
namespace Go.Proofs.YtakbedckjaammaaDoor
open Go.RowKit

theorem rreused {w1 : World} {r c e d t i : Nat} {G : Option Addr} {gf : Nat} {ss : List SlotT} {fr : List Int} {most : Int} (H : RefAt w1 r (some ⟨t, 0, none⟩) c G e (some ⟨gf, 0, none⟩) d ss (fr ++ [(i : Int)]) most) (hi : i < ss.length) (x : Int) :
    let w2 := (w1.setCell ⟨r, 2, none⟩ (.slice (some ⟨gf, 0, none⟩) fr.length d)).setCell ⟨t, i, none⟩ (.int .i64 x)
    RefAt w2 r (some ⟨t, 0, none⟩) c G e (some ⟨gf, 0, none⟩) d (ss.set i (x, ss[i].2.1, true)) fr most ∧ Keeps (FpR r (some ⟨t, 0, none⟩) G (some ⟨gf, 0, none⟩)) w1 w2 := by
  intro w2
  have k1 := Keeps.set_ w1 ⟨r, 2, none⟩ (.slice (some ⟨gf, 0, none⟩) fr.length d)
  have k2 := Keeps.set_ (w1.setCell ⟨r, 2, none⟩ (.slice (some ⟨gf, 0, none⟩) fr.length d)) ⟨t, i, none⟩ (.int .i64 x)
  have u1 : t ≠ r := fun e => H.nt (by rw [← e]; rfl)
  have ht := (H.things.keeps k1 (fun y hy e => by cases hy; exact u1 e)).set i (.int .i64 x)
  have hg := (H.ages.keeps k1 (fun y hy e => H.ng (by rw [hy, e]))).keeps k2 (fun y hy e => H.ntg t rfl (by rw [hy, e]))
  have hF := ((H.free.pop fr.length (by simp)).keeps k1 (fun y hy e => H.nf (by rw [hy, e]))).keeps k2 (fun y hy e => H.ntf t rfl (by rw [hy, e]))
  have e0 : (intCells (fr ++ [(i : Int)])).take (fr.length * 1) = intCells fr := by
    unfold intCells
    rw [List.map_append]
    simp
  have e1 : (intCells (thingsOf ss)).set i (.int .i64 x) = intCells (thingsOf (ss.set i (x, ss[i].2.1, true))) := by simp [intCells, thingsOf, List.map_set]
  have e2 : intCells (agesOf ss) = intCells (agesOf (ss.set i (x, ss[i].2.1, true))) := by
    have e3 : (agesOf ss)[i]'(by simpa [agesOf] using hi) = ss[i].2.1 := by simp [agesOf]
    have e4 : agesOf (ss.set i (x, ss[i].2.1, true)) = (agesOf ss).set i ss[i].2.1 := by simp [agesOf, List.map_set]
    rw [e4, ← e3, List.set_getElem_self]
  rw [e0] at hF
  rw [e1] at ht
  rw [e2] at hg
  refine ⟨⟨?_, ?_, ?_, hF, H.nt, H.ng, H.nf, H.ntg, H.ntf, H.ngf⟩, ?_⟩
  · rw [List.length_set]
    exact Blk.keeps (Blk.set_ H.blk 2 _) k2 (fun e => u1 e.symm)
  · rw [List.length_set]; exact ht
  · rw [List.length_set]; exact hg
  · exact (k1.mono (fun j h => (.inl h : FpR r (some ⟨t, 0, none⟩) G (some ⟨gf, 0, none⟩) j))).trans k2 (fun j h => .inl (.inr (.inl (by rw [h]; rfl))))

set_option maxRecDepth 100000 in
set_option maxHeartbeats 1000000 in
theorem rputOld_any (w : World) (r : Nat) (T : Option Addr) (c : Nat) (G : Option Addr) (e : Nat) (F : Option Addr) (d : Nat) (ss : List SlotT) (fr : List Int) (i : Nat) (most x : Int) (h : RefAt w r T c G e F d ss (fr ++ [(i : Int)]) most) (hok : ThingsOk ss) (hss : ss.length ≤ 200) (hm : (liveS ss : Nat) < most) (hi : i < ss.length) (hfr : fr.length ≤ 200) :
    Calls Tryd.prog 39 #[.pointer (some ⟨r, 0, none⟩), .int .i64 x] w fun e w' => e = .returned (.tuple #[.int .i64 i, .int .i64 ss[i].2.1, .int .i64 0]) ∧ RefTo w w' r T G F (ss.set i (x, ss[i].2.1, true)) fr most := by
  have hl := h.things.1
  have hinv := hid hok
  have HR := hid h
  obtain ⟨q0, q1, q2, q3⟩ := h.cells
  have t1 : decide (most ≤ (liveS ss : Nat)) = false := decF (by omega)
  obtain ⟨t, g, rfl, rfl, s0, s1⟩ := h.slot hi
  have f0 := h.things.frozen i
  obtain ⟨gf, rfl, y0⟩ := h.free.cell (j := fr.length) (u := .int .i64 (i : Int)) (by simp [intCells])
  have fr2 := Blk.frozen h.blk 2
  have u1 : t ≠ r := fun e => h.nt (by rw [← e]; rfl)
  have u2 : g ≠ r := fun e => h.ng (by rw [← e]; rfl)
  have u3 : g ≠ t := fun e => h.ntg t rfl (by rw [← e]; rfl)
  have e1 : (fr ++ [(i : Int)]).length = fr.length + 1 := by simp
  rw [e1] at q2
  obtain ⟨n, hn⟩ : ∃ n, fr.length = n := ⟨_, rfl⟩
  rw [hn] at q2 y0
  have hcap : n + 1 ≤ d := by
    rcases h.free.2 with ⟨hh, _⟩ | ⟨g', cap', cur, hv, _, _, h1, _⟩
    · cases hh
    · cases hv; rw [e1, hn] at h1; exact h1
  have j1 : RowKit.wrap64 (n : Int) = (n : Int) := by unfold RowKit.wrap64; omega
  have j2 : (0 : Int) < (n : Int) + 1 := by omega
  have j3 : (0 : Int) ≤ (n : Int) := by omega
  have j4 : (n : Int) ≤ (d : Int) := by omega
  have j5 : (n : Int) < (n : Int) + 1 := by omega
  have j6 : (0 : Int) ≤ (i : Int) := by omega
  have j7 : (i : Int) < (ss.length : Int) := by omega
  have d1 : decide ((0 : Int) < (n : Int) + 1) = true := decT j2
  have Hn := hid hn
  have HX := hid (rreused h hi x)
  generalize hthing : (if ss[i].2.2 = true then ss[i].1 else -1) = th at s0
  clear hthing
  clear hok h hn e1
  generalize hN : liveS ss = N at t1 hm
  have HN := hid hN
  clear hN
  go_enter Tryd.func39, Tryd.ntmps39
  go_wp2
  go_loopg [7, 17] ss.length (fun g s7 s17 wx => ∃ k : Nat, k ≤ ss.length ∧ g = ss.length - k ∧ s17 = .int .i64 k ∧ s7 = .int .i64 (liveS (ss.take k) : Nat) ∧ w = wx)
  case atStart => exact ⟨0, Nat.zero_le _, rfl, rfl, rfl, rfl⟩
  case round =>
    obtain ⟨k, hk, rfl, rfl, rfl, rfl⟩ := hrel
    by_cases hkl : k < ss.length
    · have i1 : (0 : Int) ≤ (k : Int) := by omega
      have i2 : (k : Int) < (ss.length : Int) := by omega
      obtain ⟨t', g', h1, h2, c0, c1⟩ := HR.out.slot hkl
      cases h1
      cases h2
      have hO := hinv.out k hkl
      have Hs := hid (liveS_take hkl)
      have hlt := liveS_le (ss.take k)
      have hlen : (ss.take k).length ≤ 200 := by simp; omega
      clear c1
      cases hf : ss[k].2.2
      · rw [hf] at c0
        simp only [Bool.false_eq_true, if_false] at c0
        have Hf := hid hf
        clear hf hO
        go_wp2
        go_roundg (ss.length - (k + 1))
        case measure => omega
        case rel => exact ⟨k + 1, by omega, rfl, by go_num, by rw [Hs.out, Hf.out]; rfl, rfl⟩
      · rw [hf] at c0
        simp only [if_true] at c0
        have hO' := hO hf
        have d0 := decT hO'
        have Hf := hid hf
        clear hf hO
        generalize ss[k].1 = y at c0 d0 hO'
        generalize hn : liveS (ss.take k) = n at hlt ⊢
        go_wp2
        go_roundg (ss.length - (k + 1))
        case measure => omega
        case rel => exact ⟨k + 1, by omega, rfl, by go_num, by rw [Hs.out, Hf.out, hn, if_pos rfl]; go_num, rfl⟩
    · obtain rfl : k = ss.length := by omega
      rw [List.take_length]
      rw [HN.out]
      go_wp2_with fail
      go_quiet (fail)
      go_wp2
      go_ret3
      obtain ⟨hA5, hK5⟩ := HX.out
      rw [Hn.out] at hA5 hK5
      exact ⟨rfl, some ⟨t, 0, none⟩, c, some ⟨g, 0, none⟩, e, some ⟨gf, 0, none⟩, d, ⟨hA5.blk, hA5.things, hA5.ages, hA5.free, hA5.nt, hA5.ng, hA5.nf, hA5.ntg, hA5.ntf, hA5.ngf⟩, ⟨hK5.os, hK5.tape, hK5.output, hK5.size, hK5.block⟩, fun j hj => .inl hj⟩
end Go.Proofs.YtakbedckjaammaaDoor
