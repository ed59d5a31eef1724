/-
  The walk of openbellref.Side: the orders of a side by their ranks, of like ones as they came.
-/
import Derived.WalkKit
import Derived.WalkLawsBesides
import Derived.WalkSpells
import Derived.Deep.LoopGhost
import Derived.Deep.DeepCutAuto
import Derived.Deep.CutBlock
import Derived.Deep.AppendLies
import Derived.Deep.AppendSrc
import Derived.BigGuard
import Derived.Lib.ReflectliteSlice
import Derived.Lib.ReflectliteSwap
import Derived.Shelf.Abstract
import Derived.Laws.EntriesVeiled
import Derived.Test.YtkcgchpbjegneaaDoorStableFn
import Derived.Test.YtkcgchpbjegneaaDoorRefLess
import Derived.Test.YtkcgchpbjegneaaDoorCopyK
import Derived.Test.YtkcgchpbjegneaaDoorRefSide
namespace Go.Proofs.YtkcgchpbjegneaaDoor
open Go.RowKit Go.Lib
set_option linter.unusedVariables false

/-! ### openbellref.Side -/
theorem ref_ord_info : (Tryd.prog.info? 30).map (fun i => (i.zero, i.size, i.bytes)) = some (some (.agg #[.int .i64 0, .int .i64 0, .int .i64 0, .int .i64 0, .int .i64 0]), 5, 40) := by kernel_rfl
theorem stabL_length {α : Type} (r : α → Int) (l : List α) : (stabL r l).length = l.length := by
  have key : ∀ (l acc : List α), (l.foldl (insR r) acc).length = acc.length + l.length := by
    intro l
    induction l with
    | nil => intro acc; rfl
    | cons x t ih =>
      intro acc
      rw [List.foldl_cons, ih]
      have h := congrArg List.length (List.takeWhile_append_dropWhile (p := fun y => decide (r y ≤ r x)) (l := acc))
      rw [List.length_append] at h
      unfold insR
      rw [List.length_append, List.length_cons, List.length_cons]
      omega
  have := key l []
  unfold stabL
  simpa using this
def onSide (side : Int) (l : List Ord5) : List Ord5 := l.filter fun o => o.side == side
theorem onSide_snoc (side : Int) (l : List Ord5) (o : Ord5) : onSide side (l ++ [o]) = onSide side l ++ if (o.side == side) = true then [o] else [] := by
  unfold onSide
  rw [List.filter_append]
  cases h : o.side == side <;> simp [h]
theorem onSide_len (side : Int) (l : List Ord5) : (onSide side l).length ≤ l.length := List.length_filter_le _ _
/-- a side of the document's book -/
def rsideL (side : Int) (l : List Ord5) : List Ord5 := stabL (rankO side) (onSide side l)

set_option maxRecDepth 100000 in
set_option maxHeartbeats 4000000 in
theorem rside_any (w : World) (B o0 : Nat) (A0 : Option Addr) (n0 c0 : Nat) (L : List Ord5) (side : Int) (h0 : w.cell? ⟨B, o0, none⟩ = some (.slice A0 n0 c0)) (hE : ElemsAt w encO 5 A0 n0 L) (hn : n0 ≤ 100000) (hp : ∀ o ∈ onSide side L, -1000000000 ≤ o.price ∧ o.price ≤ 1000000000) :
    Calls Tryd.prog 35 #[.pointer (some ⟨B, o0, none⟩), .int .i64 side] w fun e w' => Below w.heap.size w w' ∧ ∃ A' c', e = .returned (.slice A' (rsideL side L).length c') ∧ RowAt w' A' (rsideL side L).length c' 30 5 (flat encO (rsideL side L)) ∧ ∀ g, blkOf A' = some g → w.heap.size ≤ g := by
  have hBl : B < w.heap.size := World.block_lt_of_cell? w _ h0
  have HE := hid hE
  have HP := hid hp
  have hl := hE.1
  have HL := hid hl
  have hmf : ∀ w, (Instr.makeFunc (Fn.func 49) #[] #[.pointer (some ⟨w.heap.size, 0, none⟩)]).run Tryd.prog w = .ok (.func (.func 49) #[] #[.pointer (some ⟨w.heap.size, 0, none⟩)]) w := fun _ => rfl
  obtain ⟨i0, hi0, hz0, hz1, hz2⟩ := info_parts ref_ord_info
  clear hE hp hl hmf
  go_enter Tryd.func35, Tryd.ntmps35
  go_wp2_with fail
  go_loopg [14] n0 (fun gg s14 wx => ∃ (k n9 c9 : Nat) (A9 : Option Addr), k ≤ n0 ∧ gg = n0 - k ∧ s14 = .int .i64 k ∧ Below w.heap.size w wx ∧ Blk wx w.heap.size 3 #[.int .i64 side] ∧ Blk wx (w.heap.size + 1) 26 #[.slice A9 n9 c9] ∧ RowAt wx A9 n9 c9 30 5 (flat encO (onSide side (L.take k))) ∧ ∀ g, blkOf A9 = some g → w.heap.size + 1 < g)
  case atStart =>
    refine ⟨0, 0, 0, none, Nat.zero_le _, rfl, rfl, ((Below.refl _ w).alloc (Nat.le_refl _) _).alloc (by simp) _, Blk.alloc (Blk.new w _ _) _, ?_, World.ownsRow_nil _ _ _ _, by simp [blkOf]⟩
    have h := Blk.new (w.alloc (.cells #[.int .i64 side] 3)) 26 #[.slice none 0 0]
    simpa using h
  case round =>
    obtain ⟨k, n9, c9, A9, hk, rfl, rfl, hB, hbs, hbo, hR, hup⟩ := hrel
    have HB := hid hB
    have HBs := hid hbs
    have HBo := hid hbo
    have HR := hid hR
    have HUp := hid hup
    have c1 : wr.cell? ⟨w.heap.size, 0, none⟩ = some (.int .i64 side) := by rw [Blk.cell hbs]; rfl
    have c2 : wr.cell? ⟨w.heap.size + 1, 0, none⟩ = some (.slice A9 n9 c9) := by rw [Blk.cell hbo]; rfl
    have hszb : w.heap.size + 1 < wr.heap.size := Blk.lt hbo
    have hsz0 : w.heap.size < wr.heap.size := Blk.lt hbs
    have hl9 : n9 ≤ 100000 := by
      have h1 := row_length encO_length (by omega) hR
      have h2 := onSide_len side (L.take k)
      rw [List.length_take] at h2
      omega
    clear hB hbs hbo hR hup
    by_cases hlt : k < n0
    · have hltz : (k : Int) < (n0 : Int) := by omega
      have hk0 : (0 : Int) ≤ (k : Int) := by omega
      have hkl : k < L.length := by have := HL.out; omega
      obtain ⟨b, off, hA⟩ : ∃ b off, A0 = some ⟨b, off, none⟩ := by obtain ⟨b, off, h1, _⟩ := HE.out.2 (by omega); exact ⟨b, off, h1⟩
      subst hA
      obtain ⟨x0, x1, x2, x3, x4⟩ := ord_at (HE.out.below HB.out (Nat.le_refl _)) hkl
      have HTk := hid (List.take_succ_eq_append_getElem hkl)
      obtain ⟨o, EO⟩ : ∃ o, Hid (L[k] = o) := ⟨_, hid rfl⟩
      rw [EO.out] at x0 x1 x2 x3 x4 HTk
      have HSn := hid (onSide_snoc side (L.take k) o)
      rw [← HTk.out] at HSn
      have hb1 : Below wr.heap.size wr (wr.alloc (.cells (boxO o) 30)) := (Below.refl _ _).alloc (Nat.le_refl _) _
      have HB1 := hid hb1
      clear hb1
      by_cases hs : o.side = side
      · have d1 := beqT hs
        have HS1 := hid (show onSide side (L.take (k + 1)) = onSide side (L.take k) ++ [o] by rw [HSn.out, if_pos (beqT hs)])
        have hO := HR.out.below (HB1.out.trans (((Below.refl _ _).alloc (Nat.le_refl _) (.cells (boxO o) 30)).mono HB1.out.size))
        have HO := hid (show World.ownsRow ((wr.alloc (.cells (boxO o) 30)).alloc (.cells (boxO o) 30)) 0 30 5 (.slice A9 n9 c9) n9 (flat encO (onSide side (L.take k))) from hO)
        have hNw := heap_alloc_new (wr.alloc (.cells (boxO o) 30)) (.cells (boxO o) 30)
        rw [show (wr.alloc (.cells (boxO o) 30)).heap.size = wr.heap.size + 1 by simp] at hNw
        have HNw := hid hNw
        clear hNw
        have hbo3 := (Blk.keep (Blk.keep HBo.out HB1.out) ((Below.refl (wr.alloc (.cells (boxO o) 30)).heap.size _).alloc (Nat.le_refl _) (.cells (boxO o) 30)))
        have HBo3 := hid hbo3
        have hne : some (w.heap.size + 1) ≠ (Value.slice A9 n9 c9).ownBlock := by rw [own_slice]; intro e; have := HUp.out _ e.symm; omega
        have hne0 : some w.heap.size ≠ (Value.slice A9 n9 c9).ownBlock := by rw [own_slice]; intro e; have := HUp.out _ e.symm; omega
        have Hne0 := hid hne0
        have Hne := hid hne
        clear hs hO hbo3 hne hne0
        unfold boxO at HO HNw HBo3
        go_wp2_with (at_builtin; (refine wpList_append_lies _ rfl _ _ 26 rfl 0 30 i0 _ 5 40 Tryd.underlying26 hi0 hz0 hz1 hz2 rfl (by omega) (.slice A9 n9 c9) n9 _ rfl HO.out ⟨wr.heap.size + 1, 0, none⟩ 1 1 (encO o) rfl rfl (World.news_of_block (cs := (encO o).toArray) (t := 30) (fr := (0, 0)) HNw.out) (encO_one _) (by omega) (by unfold maxLen; omega) (by omega) (by simp) (wr.heap.size + 2) (by simp) ?_); intro gg cap w3 hown hgrow hat hlt3; have b3 := Blk.grown HBo3.out hgrow Hne.out; have r0 : w3.cell? ⟨w.heap.size + 1, 0, none⟩ = some (.slice A9 n9 c9) := (by rw [Blk.cell b3]; rfl); have rf0 := Blk.frozen b3 0; have HB3 := hid b3; have HOw := hid hown; have HGr := hid hgrow; have HAt := hid hat; clear hown hgrow hat b3)
        go_roundg (n0 - (k + 1))
        case measure => omega
        case rel =>
          have hgr := HGr.out
          rw [own_slice] at hgr
          have hn0 := Hne0.out
          rw [own_slice] at hn0
          have hat := HAt.out
          rw [own_slice] at hat
          have hbs3 := Blk.grown (Blk.keep (Blk.keep HBs.out HB1.out) ((Below.refl (wr.alloc (.cells (boxO o) 30)).heap.size _).alloc (Nat.le_refl _) (.cells (boxO o) 30))) hgr hn0
          have hgg : w.heap.size + 1 < gg := by
            rcases hat with h1 | h1
            · exact HUp.out _ h1
            · show w.heap.size + 1 < gg; omega
          have hb3 : Below w.heap.size w w3 := (((HB.out.trans (HB1.out.mono HB.out.size)).alloc (by have := HB1.out.size; omega) (.cells (boxO o) 30))).grown hgr (by have := HB1.out.size; simp; omega) (fun x hx => by have := HUp.out x hx; omega)
          refine ⟨k + 1, n9 + 1, cap, some ⟨gg, 0, none⟩, by omega, rfl, by go_num, hb3.setCell (by show w.heap.size ≤ w.heap.size + 1; omega) _, Blk.far hbs3 (by show w.heap.size ≠ w.heap.size + 1; omega) _, ?_, ?_, fun g hg => by cases hg; exact hgg⟩
          · exact Blk.set_ HB3.out 0 _
          · rw [HS1.out, flat_snoc]
            exact RowAt.keeps (xs := flat encO (onSide side (L.take k)) ++ encO o) HOw.out (Keeps.set_ w3 ⟨w.heap.size + 1, 0, none⟩ _) (fun g hg e => by cases hg; have e : gg = w.heap.size + 1 := e; omega)
      · have d1 := beqF hs
        have HS1 := hid (show onSide side (L.take (k + 1)) = onSide side (L.take k) by rw [HSn.out, if_neg (by rw [beqF hs]; simp), List.append_nil])
        clear hs
        go_wp2_with fail
        go_roundg (n0 - (k + 1))
        case measure => omega
        case rel => exact ⟨k + 1, n9, c9, A9, by omega, rfl, by go_num, HB.out.trans (HB1.out.mono HB.out.size), Blk.keep HBs.out HB1.out, Blk.keep HBo.out HB1.out, by rw [HS1.out]; exact HR.out.below HB1.out, HUp.out⟩
    · obtain rfl : n0 = k := by omega
      have hltz : ¬ (n0 : Int) < (n0 : Int) := by omega
      have etk : L.take n0 = L := List.take_of_length_le (by rw [HL.out]; exact Nat.le_refl _)
      have hRr := HR.out
      rw [etk] at hRr
      have hal : Below wr.heap.size wr (wr.alloc (.cells #[.func (.func 49) #[] #[.pointer (some ⟨w.heap.size, 0, none⟩)]] 113)) := (Below.refl _ _).alloc (Nat.le_refl _) _
      have hso := sortOrders_any (wr.alloc (.cells #[.func (.func 49) #[] #[.pointer (some ⟨w.heap.size, 0, none⟩)]] 113)) w.heap.size (w.heap.size + 1) wr.heap.size c9 n9 A9 side (onSide side L) (by omega) (hRr.below hal) HP.out ((hal.cell (p := ⟨w.heap.size + 1, 0, none⟩) hszb).trans c2) (by rw [Blk.cell (Blk.new wr _ _)]; rfl) ((hal.cell (p := ⟨w.heap.size, 0, none⟩) hsz0).trans c1) (fun g hg => ⟨by have := HUp.out g hg; omega, by have := hRr.lt hg; omega, by have := HUp.out g hg; omega⟩)
      have hln : n9 = (rsideL side L).length := by
        have h1 := row_length encO_length (by omega) hRr
        have h2 := stabL_length (rankO side) (onSide side L)
        unfold rsideL
        omega
      have HSo := hid hso
      have HAl := hid hal
      have HLn := hid hln
      have hm1 : ∀ w0 : World, (Instr.makeFunc (Fn.func 49) #[] #[.pointer (some ⟨w.heap.size, 0, none⟩)]).run Tryd.prog w0 = .ok (.func (.func 49) #[] #[.pointer (some ⟨w.heap.size, 0, none⟩)]) w0 := fun _ => rfl
      have hm2 : ∀ w0 : World, (Instr.makeFunc (Fn.func 51) #[] #[.pointer (some ⟨wr.heap.size, 0, none⟩), .pointer (some ⟨w.heap.size + 1, 0, none⟩)]).run Tryd.prog w0 = .ok (.func (.func 51) #[] #[.pointer (some ⟨wr.heap.size, 0, none⟩), .pointer (some ⟨w.heap.size + 1, 0, none⟩)]) w0 := fun _ => rfl
      clear hso hal hln hRr etk
      go_wp2_with fail
      refine HSo.out.mono ?_
      rintro e w3 ⟨rfl, hr3, hk3⟩
      have hc3 : w3.cell? ⟨w.heap.size + 1, 0, none⟩ = some (.slice A9 n9 c9) := (hk3.cell (p := ⟨w.heap.size + 1, 0, none⟩) (by simp; omega) (fun e => by have := HUp.out _ e; have : w.heap.size + 1 < w.heap.size + 1 := this; omega)).trans ((HAl.out.cell (p := ⟨w.heap.size + 1, 0, none⟩) hszb).trans c2)
      have HR3 := hid hr3
      have HK3 := hid hk3
      clear hr3 hk3
      go_wp2_with fail
      refine bodyPost_ret (results_tmp rfl _ _ _) rfl ?_
      refine ⟨?_, A9, c9, ?_, ?_, fun g hg => by have := HUp.out g hg; omega⟩
      · exact (HB.out.trans (HAl.out.mono HB.out.size)).trans (HK3.out.below (fun i e => by have := HUp.out i e; omega) (by have := HB.out.size; simp; omega))
      · rw [← HLn.out]; rfl
      · rw [← HLn.out]; exact HR3.out
end Go.Proofs.YtkcgchpbjegneaaDoor
