/-
  Walks of slices.Clone at points and of curve.Choose's closures keep and side.
-/
import Derived.WalkKit
import Derived.WalkLawsBesides
import Derived.WalkSpells
import Derived.Deep.QuietTactic
import Derived.BigQuiet
import Derived.Deep.LoopGhost
import Derived.Deep.DeepCutAuto
import Derived.Deep.CutBlock
import Derived.Deep.AppendLies
import Derived.Deep.RegionHeld3
import Derived.Test.YtaagaamamjabbaaChooseD
namespace Go.Proofs.Ytaagaamamjabbaa
open Go.RowKit
set_option linter.unusedVariables false

theorem pt_info : (Try.prog.info? 25).map (fun i => (i.zero, i.size, i.bytes)) = some (some (.agg #[.int .i64 0, .int .i64 0, .int .i64 0]), 3, 24) := by kernel_rfl

set_option maxRecDepth 100000 in
set_option maxHeartbeats 1000000 in
theorem cloneT_any (A : Option Addr) (n c : Nat) (ps : List Tri) (w : World) (h : ElemsAt w encT 3 A n ps) (hn : 0 < n) (hm : n ≤ 1000000) :
    Calls Try.prog 24 #[.slice A n c] w fun e w' => Below w.heap.size w w' ∧
      ∃ g c', e = .returned (.slice (some ⟨g, 0, none⟩) n c') ∧ w.heap.size ≤ g ∧ RowAt w' (some ⟨g, 0, none⟩) n c' 25 3 (flat encT ps) := by
  obtain ⟨b, off, rfl, hlt⟩ : ∃ b off, A = some ⟨b, off, none⟩ ∧ b < w.heap.size := by obtain ⟨b, off, h1, h2, _⟩ := h.2 hn; exact ⟨b, off, h1, h2⟩
  have hne : ∀ wx, (binOp .eql 22 (.slice (some ⟨b, off, none⟩) n c) (.slice none 0 0)).run Try.prog wx = .ok (.bool false) wx := fun wx => Lib.run_eql_slice_nil (P := Try.prog) wx 22 25 (some ⟨b, off, none⟩) n c 0 0 Try.underlying22
  have HH := hid h
  have hl := h.1
  have HL := hid hl
  clear h hl
  obtain ⟨i0, hi0, hz0, hz1, hz2⟩ := info_parts pt_info
  go_enter Try.func24, Try.ntmps24
  have hown0 : (w.alloc (.cells #[] 25)).ownsRow w.heap.size 25 3 (.slice (some ⟨w.heap.size, 0, none⟩) 0 0) 0 [] := ⟨rfl, .inr ⟨w.heap.size, 0, #[], rfl, Nat.le_refl _, heap_alloc_new w _, Nat.le_refl _, Nat.zero_le _, rfl, rfl⟩⟩
  have hl2 : (flat encT ps).length = n * 3 := by rw [flat_length encT_length, HL.out]
  have hnews := (HH.out.below ((Below.refl _ w).alloc (Nat.le_refl _) (.cells #[] 25)) (Nat.le_refl _)).news encT_length
  have HO := hid hown0
  have HL2 := hid hl2
  have HNW := hid hnews
  clear hown0 hl2 hnews
  go_wp2_with (at_builtin; go_loud (refine wpList_append_lies _ rfl _ _ 22 rfl w.heap.size 25 i0 _ 3 24 Try.underlying22 hi0 hz0 hz1 hz2 rfl (by omega) _ 0 [] rfl HO.out ⟨b, off, none⟩ n c (flat encT ps) rfl HL2.out HNW.out (flat_one encT_one _) (by omega) (by unfold maxLen; omega) (by omega) (by simp) (w.heap.size + 1) (by simp) ?_); intro g cap w1 hown hgrow hat hlt1)
  go_ret
  have hb0 : g = w.heap.size ∨ g = w.heap.size + 1 := by
    rcases hat with h | h
    · exact .inl (Option.some.inj h).symm
    · exact .inr h
  simp only [Nat.zero_add, List.nil_append] at hown
  exact ⟨((Below.refl _ w).alloc (Nat.le_refl _) _).grown hgrow (by simp) (fun q hq => by cases hq; exact Nat.le_refl _), g, cap, by simp, by omega, own_base0 hown⟩

set_option maxRecDepth 100000 in
set_option maxHeartbeats 1000000 in
/-- Clone, whatever length -/
theorem cloneT_all (A : Option Addr) (n c : Nat) (ps : List Tri) (w : World) (h : ElemsAt w encT 3 A n ps) (hm : n ≤ 1000000) :
    Calls Try.prog 24 #[.slice A n c] w fun e w' => Below w.heap.size w w' ∧
      ∃ A' c', e = .returned (.slice A' n c') ∧ (∀ g, blkOf A' = some g → w.heap.size ≤ g) ∧ RowAt w' A' n c' 25 3 (flat encT ps) := by
  by_cases hn : 0 < n
  · refine (cloneT_any A n c ps w h hn hm).mono ?_
    rintro e w' ⟨hB, g, c', rfl, hg, hR⟩
    exact ⟨hB, _, c', rfl, fun x hx => by cases hx; exact hg, hR⟩
  · obtain rfl : n = 0 := by omega
    obtain rfl : ps = [] := List.eq_nil_of_length_eq_zero h.1
    clear h
    cases A with
    | none =>
      have hne : ∀ wx, (binOp .eql 22 (.slice none 0 c) (.slice none 0 0)).run Try.prog wx = .ok (.bool true) wx := fun wx => Lib.run_eql_slice_nil (P := Try.prog) wx 22 25 none 0 c 0 0 Try.underlying22
      go_enter Try.func24, Try.ntmps24
      go_wp2
      go_ret
      exact ⟨Below.refl _ _, none, 0, rfl, by simp [blkOf], World.ownsRow_nil _ _ _ _⟩
    | some a =>
      have hne : ∀ wx, (binOp .eql 22 (.slice (some a) 0 c) (.slice none 0 0)).run Try.prog wx = .ok (.bool false) wx := fun wx => Lib.run_eql_slice_nil (P := Try.prog) wx 22 25 (some a) 0 c 0 0 Try.underlying22
      go_enter Try.func24, Try.ntmps24
      go_wp2
      go_ret
      exact ⟨(Below.refl _ _).alloc (Nat.le_refl _) _, some ⟨w.heap.size, 0, none⟩, 0, rfl, fun g hg => by cases hg; exact Nat.le_refl _, ⟨rfl, .inr ⟨w.heap.size, 0, #[], rfl, Nat.zero_le _, heap_alloc_new w _, Nat.le_refl _, Nat.zero_le _, rfl, rfl⟩⟩⟩

/-- the greatest of all (0: there is none) -/
def topF (F : Tri → Int) : List Tri → Int
  | [] => 0
  | p :: r => r.foldl (fun m q => if m < F q then F q else m) (F p)
theorem topF_one (F : Tri → Int) (p : Tri) : topF F [p] = F p := rfl
theorem topF_snoc (F : Tri → Int) (l : List Tri) (p : Tri) (h : 0 < l.length) : topF F (l ++ [p]) = if topF F l < F p then F p else topF F l := by
  cases l with
  | nil => simp at h
  | cons a l =>
    show List.foldl _ _ (l ++ [p]) = _
    rw [List.foldl_append]
    rfl
/-- those of the greatest -/
def keepL (F : Tri → Int) (ps : List Tri) : List Tri := ps.filter fun p => F p == topF F ps

theorem foldF_spec (F : Tri → Int) (l : List Tri) : ∀ m : Int, (l.foldl (fun m q => if m < F q then F q else m) m = m ∨ ∃ p ∈ l, F p = l.foldl (fun m q => if m < F q then F q else m) m) ∧
    m ≤ l.foldl (fun m q => if m < F q then F q else m) m ∧ ∀ p ∈ l, F p ≤ l.foldl (fun m q => if m < F q then F q else m) m := by
  induction l with
  | nil => intro m; exact ⟨.inl rfl, Int.le_refl _, fun p hp => by cases hp⟩
  | cons a l ih =>
    intro m
    obtain ⟨h1, h2, h3⟩ := ih (if m < F a then F a else m)
    rw [List.foldl_cons]
    by_cases hlt : m < F a
    · rw [if_pos hlt] at h1 h2 h3 ⊢
      refine ⟨.inr ?_, by omega, fun p hp => ?_⟩
      · rcases h1 with h1 | ⟨p, hp, e⟩
        · exact ⟨a, by simp, h1.symm⟩
        · exact ⟨p, by simp [hp], e⟩
      · rcases List.mem_cons.1 hp with rfl | hp
        · exact h2
        · exact h3 p hp
    · rw [if_neg hlt] at h1 h2 h3 ⊢
      refine ⟨?_, h2, fun p hp => ?_⟩
      · rcases h1 with h1 | ⟨p, hp, e⟩
        · exact .inl h1
        · exact .inr ⟨p, by simp [hp], e⟩
      · rcases List.mem_cons.1 hp with rfl | hp
        · omega
        · exact h3 p hp
theorem topF_spec (F : Tri → Int) (ps : List Tri) (h : ps ≠ []) : (∃ p ∈ ps, F p = topF F ps) ∧ ∀ p ∈ ps, F p ≤ topF F ps := by
  cases ps with
  | nil => exact absurd rfl h
  | cons a l =>
    obtain ⟨h1, h2, h3⟩ := foldF_spec F l (F a)
    refine ⟨?_, fun p hp => ?_⟩
    · rcases h1 with h1 | ⟨p, hp, e⟩
      · exact ⟨a, by simp, h1.symm⟩
      · exact ⟨p, by simp [hp], e⟩
    · rcases List.mem_cons.1 hp with rfl | hp
      · exact h2
      · exact h3 p hp
theorem keepL_ne (F : Tri → Int) {ps : List Tri} (h : ps ≠ []) : keepL F ps ≠ [] := by
  obtain ⟨⟨p, hp, e⟩, _⟩ := topF_spec F ps h
  intro h0
  have : p ∈ keepL F ps := List.mem_filter.2 ⟨hp, by simp [e]⟩
  rw [h0] at this
  cases this
theorem keepL_sub {F : Tri → Int} {ps : List Tri} {p : Tri} (h : p ∈ keepL F ps) : p ∈ ps := (List.mem_filter.1 h).1

theorem FnAt.less {w : World} {S S' : Nat → Prop} {g : FuncId} {lb : Array Value} {F : Tri → Int} (h : FnAt w S g lb F) (hS : ∀ i, S' i → S i) : FnAt w S' g lb F :=
  fun W p hW hp => h W p (hW.mono hS) hp

set_option maxRecDepth 100000 in
set_option maxHeartbeats 4000000 in
theorem keep_any (g : FuncId) (lb : Array Value) (F : Tri → Int) (eg : ∀ args w, (callFunc g args).run Try.prog w = .ok (.enter g args) w) (b7 : Nat) (A : Option Addr) (n c : Nat) (ps : List Tri) (w : World)
    (hF : FnAt w (fun i => blkOf A = some i) g lb F) (hb : Blk w b7 22 #[.slice A n c]) (h : RowAt w A n c 25 3 (flat encT ps)) (hne : blkOf A ≠ some b7) (hN : ∀ p ∈ ps, Near p) (hm : n ≤ 1000000) :
    Calls Try.prog 25 #[.func (.func g) #[] lb, .pointer (some ⟨b7, 0, none⟩)] w fun e w' => e = .returned (.tuple #[]) ∧ Keeps (fun i => i = b7 ∨ blkOf A = some i) w w' ∧
      ∃ m, Blk w' b7 22 #[.slice A m c] ∧ RowAt w' A m c 25 3 (flat encT (keepL F ps)) := by
  have HP := hid hF
  have HH := hid h
  have HN := hid hN
  have HL := hid (row_length encT_length (by omega) h)
  have HE := hid (ElemsAt.of_row encT_length (by omega) h)
  have HBB := hid hb
  have hlt := Blk.lt hb
  have HNE := hid hne
  clear hF h hN hb hne
  have z0 : ((w.alloc (.cells #[.func (.func g) #[] lb] 57)).alloc (.cells #[.int .i64 0] 3)).cell? ⟨b7, 0, none⟩ = some (.slice A n c) := by rw [Blk.cell (Blk.alloc (Blk.alloc HBB.out _) _)]; rfl
  go_enter Try.func25, Try.ntmps25
  go_wp2_with fail
  go_loopg [4, 5, 6, 9] n (fun gg _ _ _ s9 wr => ∃ (k : Nat) (m : Int), k ≤ n ∧ gg = n - k ∧ s9 = .int .i64 k ∧ Below w.heap.size w wr ∧ Blk wr w.heap.size 57 #[.func (.func g) #[] lb] ∧ Blk wr (w.heap.size + 1) 3 #[.int .i64 m] ∧ Hid (m = topF F (ps.take k)))
  case atStart => exact ⟨0, 0, Nat.zero_le _, rfl, rfl, ((Below.refl _ w).alloc (Nat.le_refl _) _).alloc (by simp) _, Blk.alloc (Blk.new _ _ _) _, by have := Blk.new (w.alloc (.cells #[.func (.func g) #[] lb] 57)) 3 #[.int .i64 0]; simpa using this, hid rfl⟩
  case round =>
    obtain ⟨k, m, hk, rfl, rfl, hB, hbf, hbm, HM⟩ := hrel
    by_cases hlt2 : k < n
    · have hkl : k < ps.length := by have := HL.out; omega
      have hsz := hB.size
      obtain ⟨gr, hA⟩ : ∃ gr, A = some ⟨gr, 0, none⟩ := by obtain ⟨gr, hA, _⟩ := HH.out.elem encT_length (by omega) hkl; exact ⟨gr, hA⟩
      subst hA
      obtain ⟨x0, x1, x2⟩ := tri_own (HH.out.below hB) hkl
      have hltz : (k : Int) < (n : Int) := by omega
      have hi7 : (0 : Int) ≤ (k : Int) := by omega
      have hNp : Near ps[k] := HN.out _ (List.getElem_mem _)
      obtain ⟨p, E⟩ : ∃ p, Hid (ps[k] = p) := ⟨_, hid rfl⟩
      rw [E.out] at x0 x1 x2 hNp
      have HT := hid (List.take_succ_eq_append_getElem hkl)
      obtain ⟨p0, p1, p2⟩ := p
      dsimp only at x0 x1 x2
      have hA1 : Below wr.heap.size wr (wr.alloc (.cells #[.int .i64 p0, .int .i64 p1, .int .i64 p2] 25)) := (Below.refl _ _).alloc (Nat.le_refl _) _
      have hcall := HP.out _ (p0, p1, p2) (Keeps.of_below (hB.trans (hA1.mono hsz)) _) hNp
      have hbf1 := Blk.keep hbf hA1
      have y0 : (wr.alloc (.cells #[.int .i64 p0, .int .i64 p1, .int .i64 p2] 25)).cell? ⟨w.heap.size, 0, none⟩ = some (.func (.func g) #[] lb) := by rw [Blk.cell hbf1]; rfl
      have HF1 := hid hbf1
      have HM1 := hid (Blk.keep hbm hA1)
      have HBL := hid (hB.trans (hA1.mono hsz))
      have hbs := Blk.lt hbm
      unfold aggT at hcall
      dsimp only at hcall
      clear hbf hbm hNp hbf1 hA1 hB
      go_wp2_with fail
      refine hcall.mono ?_
      rintro e w2 ⟨rfl, hb'⟩
      have hbf2 := Blk.keep HF1.out hb'
      have hbm2 := Blk.keep HM1.out hb'
      have hB2 := HBL.out.trans (hb'.mono (by simp; omega))
      have q0 : w2.cell? ⟨w.heap.size + 1, 0, none⟩ = some (.int .i64 m) := by rw [Blk.cell hbm2]; rfl
      have qf : w2.frozen? ⟨w.heap.size + 1, 0, none⟩ = false := Blk.frozen hbm2 0
      have hbm3 := Blk.set_ hbm2 0 (.int .i64 (F (p0, p1, p2)))
      have hbf3 := Blk.far hbf2 (p := ⟨w.heap.size + 1, 0, none⟩) (by simp) (.int .i64 (F (p0, p1, p2)))
      have hB3 := hB2.setCell (p := ⟨w.heap.size + 1, 0, none⟩) (by simp) (.int .i64 (F (p0, p1, p2)))
      generalize hf : F (p0, p1, p2) = f at hbm3 hbf3 hB3
      have E2 := hid hf
      have G1 := hid hbm3
      have G2 := hid hbf3
      have G3 := hid hB3
      have G4 := hid hbm2
      have G5 := hid hbf2
      have G6 := hid hB2
      clear x0 x1 x2 y0 hcall hbm3 hbf3 hB3 hbm2 hbf2 hB2 hf
      by_cases hk0 : k = 0
      · subst hk0
        go_wp2_with fail
        go_roundg (n - (0 + 1))
        case measure => omega
        case rel => exact ⟨0 + 1, f, by omega, rfl, by go_num, G3.out, G2.out, G1.out, hid (by rw [HT.out, E.out, ← E2.out]; rfl)⟩
      · have t0 := beqF (show (k : Int) ≠ 0 by omega)
        by_cases hgt : m < f
        · have t1 := decT hgt
          go_wp2_with fail
          go_roundg (n - (k + 1))
          case measure => omega
          case rel => exact ⟨k + 1, f, by omega, rfl, by go_num, G3.out, G2.out, G1.out, hid (by rw [HT.out, topF_snoc F _ _ (by simp; omega), ← HM.out, E.out, E2.out, if_pos hgt])⟩
        · have t1 := decF hgt
          go_wp2_with fail
          go_roundg (n - (k + 1))
          case measure => omega
          case rel => exact ⟨k + 1, m, by omega, rfl, by go_num, G6.out, G5.out, G4.out, hid (by rw [HT.out, topF_snoc F _ _ (by simp; omega), ← HM.out, E.out, E2.out, if_neg (by omega)])⟩
    · obtain rfl : k = n := by omega
      have hltz : ¬ (k : Int) < (k : Int) := by omega
      have c7 : wr.cell? ⟨b7, 0, none⟩ = some (.slice A k c) := by rw [Blk.cell (HBB.out.keep hB)]; rfl
      have f7 : wr.frozen? ⟨b7, 0, none⟩ = false := Blk.frozen (HBB.out.keep hB) 0
      have HR := hid (HH.out.below hB)
      have hPred := pred_at wr (fun i => blkOf A = some i) w.heap.size (w.heap.size + 1) g lb F m eg (HP.out.later (Keeps.of_below hB (fun _ => False)) (fun _ h => h.elim)) hbf hbm (fun h => by have := HH.out.lt h; omega) (fun h => by have := HH.out.lt h; omega)
      have HPr := hid hPred
      have HB := hid hB
      clear hPred hbf hbm hB
      go_wp2_with fail
      refine (deleteT_any _ _ _ (Go.Proofs.enters_of Try.func27 (by kernel_rfl) rfl) A k c ps wr _ HPr.out HR.out (fun _ h => h) HN.out hm).mono ?_
      rintro e w2 ⟨hK, mm, rfl, hR2⟩
      have hne7 : ¬ blkOf A = some b7 := HNE.out
      have hb2 := (HBB.out.keep HB.out).keeps hK hne7
      have c8 : w2.cell? ⟨b7, 0, none⟩ = some (.slice A k c) := by rw [Blk.cell hb2]; rfl
      have f8 := Blk.frozen hb2 0
      have hk3 := Keeps.set_ w2 ⟨b7, 0, none⟩ (.slice A mm c)
      have hR3 := hR2.keeps hk3 (fun x hx e => HNE.out (by rw [hx, e]))
      have hb3 := Blk.set_ hb2 0 (.slice A mm c)
      have HR3 := hid hR3
      have HB3 := hid hb3
      have HK3 := hid (((Keeps.of_below HB.out (fun i => i = b7 ∨ blkOf A = some i)).trans hK (fun i h => .inl (.inr h))).trans hk3 (fun i h => .inl (.inl h)))
      have e7 : (fun p => !(F p != m)) = fun p => F p == topF F ps := by
        funext p
        rw [HM.out, List.take_of_length_le (by rw [HL.out]; exact Nat.le_refl _)]
        simp [bne]
      have HE7 := hid e7
      clear hb2 hk3 hR3 hb3 e7 c7 f7 hR2 hK
      go_wp2_with fail
      go_end0
      refine ⟨rfl, HK3.out, mm, HB3.out, ?_⟩
      unfold keepL
      rw [← HE7.out]
      exact HR3.out

set_option maxRecDepth 100000 in
set_option maxHeartbeats 1000000 in
theorem side_any (sg : Int) (hsg : sg = 1 ∨ sg = -1) (b7 : Nat) (A : Option Addr) (n c : Nat) (ps : List Tri) (w : World)
    (hb : Blk w b7 22 #[.slice A n c]) (h : RowAt w A n c 25 3 (flat encT ps)) (hN : ∀ p ∈ ps, Near p) (hm : n ≤ 1000000) :
    Calls Try.prog 29 #[.int .i64 sg, .pointer (some ⟨b7, 0, none⟩)] w fun e w' => e = .returned (.bool (!(ps.any fun p => decide ((p.2.1 - p.2.2) * sg ≤ 0)))) ∧ Below w.heap.size w w' := by
  have z0 : (w.alloc (.cells #[.int .i64 sg] 3)).cell? ⟨b7, 0, none⟩ = some (.slice A n c) := by rw [Blk.cell (Blk.alloc hb _)]; rfl
  have hA : Below w.heap.size w (w.alloc (.cells #[.int .i64 sg] 3)) := (Below.refl _ _).alloc (Nat.le_refl _) _
  have HE := hid (ElemsAt.of_row encT_length (by omega) (h.below hA))
  have HP := hid (sign_at (w.alloc (.cells #[.int .i64 sg] 3)) (fun _ => False) w.heap.size sg hsg (Blk.new _ _ _) id)
  have HA := hid hA
  have HN := hid hN
  have hmf : ∀ (fn : Fn) (first cap : Array Value) (w : World), (Instr.makeFunc fn first cap).run Try.prog w = .ok (.func fn first cap) w := fun _ _ _ _ => rfl
  clear hb h hA hN hsg
  go_enter Try.func29, Try.ntmps29
  go_wp2_with fail
  refine (containsT_any _ _ _ (Go.Proofs.enters_of Try.func31 (by kernel_rfl) rfl) A n c ps _ _ HP.out HE.out HN.out hm).mono ?_
  rintro e w1 ⟨hB, rfl⟩
  go_wp2
  go_ret
  exact ⟨rfl, HA.out.trans (hB.mono (by simp))⟩
end Go.Proofs.Ytaagaamamjabbaa
