/-
  The walk of openbellref.Book.Depth: lots and orders by prices, as they come in rank.
-/
import Derived.WalkKit
import Derived.WalkLawsBesides
import Derived.WalkSpells
import Derived.Deep.LoopGhost
import Derived.Deep.DeepCutAuto
import Derived.Deep.CutBlock
import Derived.BigRegion
import Derived.Deep.QuietTactic
import Derived.BigQuiet
import Derived.Deep.AppendLies
import Derived.Deep.AppendSrc
import Derived.Test.YtkcgchpbjegneaaDoorRefBookSide
import Derived.Test.YtkcgchpbjegneaaDoorRefCut
namespace Go.Proofs.YtkcgchpbjegneaaDoor
open Go.RowKit
set_option linter.unusedVariables false

theorem rside_ref {w : World} {B : Nat} {t : TypeId} {cs : Array Value} {o0 : Nat} {A : Option Addr} {L : List Ord5} (h : RefB w B t cs o0 A L) (hn : L.length ≤ 100000) (side : Int) (hp : ∀ o ∈ onSide side L, -1000000000 ≤ o.price ∧ o.price ≤ 1000000000) :
    Calls Tryd.prog 35 #[.pointer (some ⟨B, o0, none⟩), .int .i64 side] w fun e w' => Below w.heap.size w w' ∧ ∃ A' c', e = .returned (.slice A' (rsideL side L).length c') ∧ RowAt w' A' (rsideL side L).length c' 30 5 (flat encO (rsideL side L)) ∧ ∀ g, blkOf A' = some g → w.heap.size ≤ g := by
  obtain ⟨c, hc, -⟩ := h.cell
  exact rside_any w B o0 A L.length c L side hc h.els hn hp

def depF (out : List Tri) (o : Ord5) : List Tri :=
  if o.kind = 2 then out else match out.getLast? with
    | some x => if x.1 = o.price then out.dropLast ++ [(x.1, x.2.1 + o.qty, x.2.2 + 1)] else out ++ [(o.price, o.qty, 1)]
    | none => [(o.price, o.qty, 1)]
def depthL (l : List Ord5) : List Tri := l.foldl depF []
theorem depthL_snoc (l : List Ord5) (o : Ord5) : depthL (l ++ [o]) = depF (depthL l) o := by unfold depthL; rw [List.foldl_append]; rfl
theorem depF_market {out : List Tri} {o : Ord5} (h : o.kind = 2) : depF out o = out := if_pos h
theorem depF_first {o : Ord5} (h : o.kind ≠ 2) : depF [] o = [(o.price, o.qty, 1)] := by unfold depF; rw [if_neg h]; rfl
theorem depF_same {out : List Tri} {x : Tri} {o : Ord5} (h : o.kind ≠ 2) (hx : x.1 = o.price) : depF (out ++ [x]) o = out ++ [(x.1, x.2.1 + o.qty, x.2.2 + 1)] := by
  unfold depF
  rw [if_neg h, List.getLast?_concat]
  simp [hx]
theorem depF_next {out : List Tri} {x : Tri} {o : Ord5} (h : o.kind ≠ 2) (hx : x.1 ≠ o.price) : depF (out ++ [x]) o = (out ++ [x]) ++ [(o.price, o.qty, 1)] := by
  unfold depF
  rw [if_neg h, List.getLast?_concat]
  exact if_neg hx
theorem nil_or_snoc {α : Type} (l : List α) : l = [] ∨ ∃ u x, l = u ++ [x] := by
  rcases List.eq_nil_or_concat l with h | ⟨u, x, h⟩
  · exact .inl h
  · exact .inr ⟨u, x, by rw [h, List.concat_eq_append]⟩
structure DepOk (out : List Tri) (k : Nat) : Prop where
  len : out.length ≤ k
  b : ∀ x ∈ out, 0 ≤ x.2.1 ∧ x.2.1 ≤ 1000000 * k ∧ 0 ≤ x.2.2 ∧ x.2.2 ≤ k
theorem DepOk.step {out : List Tri} {k : Nat} (h : DepOk out k) {o : Ord5} (ho : 0 ≤ o.qty ∧ o.qty ≤ 1000000) : DepOk (depF out o) (k + 1) := by
  have hb := h.b
  by_cases hk : o.kind = 2
  · rw [depF_market hk]
    exact ⟨by have := h.len; omega, fun x hx => by have := hb x hx; omega⟩
  · rcases nil_or_snoc out with rfl | ⟨u, x, rfl⟩
    · rw [depF_first hk]
      refine ⟨by simp, fun y hy => ?_⟩
      rw [List.mem_singleton] at hy
      subst hy
      dsimp only
      omega
    · by_cases e : x.1 = o.price
      · rw [depF_same hk e]
        refine ⟨by have := h.len; simp at this ⊢; omega, fun y hy => ?_⟩
        rcases List.mem_append.1 hy with hy | hy
        · have := hb y (by simp [hy]); omega
        · rw [List.mem_singleton] at hy
          subst hy
          have := hb x (by simp)
          dsimp only
          omega
      · rw [depF_next hk e]
        refine ⟨by have := h.len; simp at this ⊢; omega, fun y hy => ?_⟩
        rcases List.mem_append.1 hy with hy | hy
        · have := hb y hy; omega
        · rw [List.mem_singleton] at hy
          subst hy
          dsimp only
          omega
theorem depOk_all {l : List Ord5} (h : ∀ o ∈ l, 0 ≤ o.qty ∧ o.qty ≤ 1000000) : ∀ k, k ≤ l.length → DepOk (depthL (l.take k)) k := by
  intro k
  induction k with
  | zero => intro _; exact ⟨by simp [depthL], fun x hx => by simp [depthL] at hx⟩
  | succ k ih =>
    intro hk
    rw [List.take_succ_eq_append_getElem (by omega), depthL_snoc]
    exact (ih (by omega)).step (h _ (List.getElem_mem _))
theorem lev_info : (Tryd.prog.info? 93).map (fun i => (i.zero, i.size, i.bytes)) = some (some (.agg #[.int .i64 0, .int .i64 0, .int .i64 0]), 3, 24) := by kernel_rfl

set_option maxRecDepth 100000 in
set_option maxHeartbeats 4000000 in
theorem rdepth_any (w : World) (B : Nat) (t : TypeId) (cs : Array Value) (o0 : Nat) (A : Option Addr) (L : List Ord5) (h : RefB w B t cs o0 A L) (hn : L.length ≤ 100000) (side : Int) (hp : ∀ o ∈ onSide side L, -1000000000 ≤ o.price ∧ o.price ≤ 1000000000) (hq : ∀ o ∈ rsideL side L, 0 ≤ o.qty ∧ o.qty ≤ 1000000) (hrl : (rsideL side L).length ≤ 100000) :
    Calls Tryd.prog 37 #[.pointer (some ⟨B, o0, none⟩), .int .i64 side] w fun e w' => Below w.heap.size w w' ∧ ∃ A' c', e = .returned (.slice A' (depthL (rsideL side L)).length c') ∧ RowAt w' A' (depthL (rsideL side L)).length c' 93 3 (flat encT (depthL (rsideL side L))) := by
  have HSd := hid (rside_ref h hn side hp)
  obtain ⟨l, hl⟩ : ∃ l, rsideL side L = l := ⟨_, rfl⟩
  rw [hl] at HSd hq hrl ⊢
  have HOk := hid (depOk_all hq)
  obtain ⟨i0, hi0, hz0, hz1, hz2⟩ := info_parts lev_info
  obtain ⟨n, hnl⟩ : ∃ n, l.length = n := ⟨_, rfl⟩
  rw [hnl] at HSd hrl HOk
  have HN := hid hnl
  have HQ := hid hq
  clear h hn hp hl hq hnl
  go_enter Tryd.func37, Tryd.ntmps37
  go_wp2_with fail
  refine HSd.out.mono ?_
  rintro e w2 ⟨hb2, Al, cl, rfl, hr2, -⟩
  have HB2 := hid hb2
  have HR2 := hid hr2
  clear hb2 hr2 HSd
  go_wp2_with fail
  go_loopg [5, 13] n (fun gg s5 s13 wx => ∃ (k n9 c9 : Nat) (A9 : Option Addr), k ≤ n ∧ gg = n - k ∧ s13 = .int .i64 k ∧ s5 = .slice A9 n9 c9 ∧ Below w2.heap.size w2 wx ∧ RowAt wx A9 n9 c9 93 3 (flat encT (depthL (l.take k))) ∧ ∀ g, blkOf A9 = some g → w2.heap.size ≤ g)
  case atStart => exact ⟨0, 0, 0, none, Nat.zero_le _, rfl, rfl, rfl, Below.refl _ _, World.ownsRow_nil _ _ _ _, by simp [blkOf]⟩
  case round =>
    obtain ⟨k, n9, c9, A9, hk, rfl, rfl, rfl, hB, hR, hup⟩ := hrel
    by_cases hlt : k < n
    · have hkl : k < l.length := by have := HN.out; omega
      obtain ⟨gl, hA, -⟩ := HR2.out.elem encO_length (by omega) hkl
      subst hA
      obtain ⟨x0, x1, x2, x3, x4⟩ := ord_own (HR2.out.below hB) hkl
      have hltz : (k : Int) < (n : Int) := by omega
      have hk0 : (0 : Int) ≤ (k : Int) := by omega
      have HT := hid (List.take_succ_eq_append_getElem hkl)
      have hqo := HQ.out _ (List.getElem_mem hkl)
      have hok := HOk.out k hk
      obtain ⟨o, EO⟩ : ∃ o, Hid (l[k] = o) := ⟨_, hid rfl⟩
      rw [EO.out] at x0 x1 x2 x3 x4 HT hqo
      have HD := hid (depthL_snoc (l.take k) o)
      rw [← HT.out] at HD
      obtain ⟨wb, ewb⟩ : ∃ W, (wr.alloc (.cells #[.int .i64 o.id, .int .i64 o.side, .int .i64 o.kind, .int .i64 o.price, .int .i64 o.qty] 30)) = W := ⟨_, rfl⟩
      obtain ⟨gx, egx⟩ : ∃ g, wr.heap.size = g := ⟨_, rfl⟩
      have hal : Below wr.heap.size wr wb := by rw [← ewb]; exact (Below.refl _ _).alloc (Nat.le_refl _) _
      have hX : Blk wb gx 30 (boxO o) := by rw [← ewb, ← egx]; exact Blk.new wr _ _
      have HB := hid (hB.trans (hal.mono hB.size))
      have HR := hid (hR.below hal)
      have HUp := hid hup
      have hgxn : blkOf A9 ≠ some gx := fun e => by have := hR.lt e; omega
      have hgx2 : w2.heap.size ≤ gx := by rw [← egx]; exact hB.size
      obtain ⟨y0, y1, y2, y3, y4⟩ := ord_box hX
      have HX := hid hX
      have hln9 := row_length encT_length (by omega) hR
      have hn9 : n9 ≤ 100000 := by have := hok.len; omega
      have HLn := hid hln9
      have HOk2 := hid hok
      clear hB hR hup hX hal hln9 hok
      go_upto_region 5 with fail
      clear x0 x1 x2 x3 x4 ewb egx
      by_cases hk2 : o.kind = 2
      · have d1 := beqT hk2
        have HE := hid (show depthL (l.take (k + 1)) = depthL (l.take k) by rw [HD.out, depF_market hk2])
        clear hk2
        go_wp2_with fail
        go_roundg (n - (k + 1))
        case measure => omega
        case rel => exact ⟨k + 1, n9, c9, A9, by omega, rfl, by go_num, rfl, HB.out, by rw [HE.out]; exact HR.out, HUp.out⟩
      · have d1 := beqF hk2
        have HK2 := hid hk2
        clear hk2
        obtain ⟨out, eout⟩ : ∃ out, depthL (l.take k) = out := ⟨_, rfl⟩
        rw [eout] at HR HLn HOk2 HD
        clear eout
        rcases nil_or_snoc out with rfl | ⟨u, x, rfl⟩
        · obtain rfl : n9 = 0 := HLn.out.symm
          have HE := hid (show depthL (l.take (k + 1)) = [] ++ [(o.price, o.qty, 1)] by rw [HD.out, depF_first HK2.out]; rfl)
          have hm1 : ¬ (0 : Int) ≤ -1 := by omega
          go_upto_region 7 with fail
          go_cut [34] (fun s34 wx => s34 = .bool false ∧ ∃ q, wx = wb.drewN q)
          case first =>
            go_quiet (fail)
            go_wp2_with fail
            go_meet
            exact ⟨rfl, nq, rfl⟩
          case rest =>
            obtain ⟨rfl, q, rfl⟩ := hcut
            have HB := hid (drewN_below HB.out q)
            have HR := hid (HR.out.below (drewN_below (Below.refl _ wb) q))
            have HX := hid (Blk.drewN HX.out q)
            generalize wb.drewN q = wb at HB HR HX ⊢
            obtain ⟨y0, y1, y2, y3, y4⟩ := ord_box HX.out
            have HOa := hid (show World.ownsRow (wb.alloc (.cells #[.int .i64 o.price, .int .i64 o.qty, .int .i64 1] 93)) 0 93 3 (.slice A9 0 c9) 0 (flat encT []) from HR.out.below ((Below.refl _ _).alloc (Nat.le_refl _) _))
            have HNWa := hid (heap_alloc_new wb (.cells #[.int .i64 o.price, .int .i64 o.qty, .int .i64 1] 93))
            go_wp2_with (at_builtin; (refine wpList_append_lies _ rfl _ _ 48 rfl 0 93 i0 _ 3 24 Tryd.underlying48 hi0 hz0 hz1 hz2 rfl (by omega) (.slice A9 0 c9) 0 _ rfl HOa.out ⟨wb.heap.size, 0, none⟩ 1 1 (encT (o.price, o.qty, 1)) rfl rfl (World.news_of_block (cs := (encT (o.price, o.qty, 1)).toArray) (t := 93) (fr := (0, 0)) HNWa.out) (encT_one _) (by omega) (by unfold maxLen; omega) (by omega) (by simp) (wb.heap.size + 1) (by simp) ?_); intro gg cap w4 hown hgrow hat hlt3; have HOw := hid hown; have HGr := hid hgrow; have HAt := hid hat; clear hown hgrow hat)
            go_roundg (n - (k + 1))
            case measure => omega
            case rel =>
              have hat := HAt.out
              rw [own_slice] at hat
              have hgr := HGr.out
              rw [own_slice] at hgr
              refine ⟨k + 1, 0 + 1, cap, some ⟨gg, 0, none⟩, by omega, rfl, by go_num, rfl, (HB.out.alloc HB.out.size (.cells #[.int .i64 o.price, .int .i64 o.qty, .int .i64 1] 93)).grown hgr (by have := HB.out.size; simp; omega) HUp.out, by rw [HE.out, flat_snoc]; exact HOw.out, fun g hg => ?_⟩
              cases hg
              rcases hat with h1 | h1
              · exact HUp.out _ h1
              · have := HB.out.size; show w2.heap.size ≤ gg; omega
        · obtain ⟨m, hm⟩ : ∃ m, u.length = m := ⟨_, rfl⟩
          obtain rfl : n9 = m + 1 := by have := HLn.out; simp at this; omega
          obtain ⟨g9, hA9, -⟩ := HR.out.elem encT_length (by omega) (i := m) (by simp; omega)
          subst hA9
          obtain ⟨q0, q1, q2⟩ := tri_own (i := m) HR.out (by simp; omega)
          have hxm : (u ++ [x])[m]'(by simp; omega) = x := by subst hm; simp
          rw [hxm] at q0 q1 q2
          have hxb := HOk2.out.b x (by simp)
          have Hm := hid hm
          have hm0 : (0 : Int) ≤ (m : Int) := by omega
          have hm1 : (m : Int) < (m : Int) + 1 := by omega
          clear hxm
          clear hm
          obtain ⟨⟨xp, xq, xn⟩, EX⟩ : ∃ y, Hid (x = y) := ⟨_, hid rfl⟩
          rw [EX.out] at q0 q1 q2 hxb
          dsimp only at q0 q1 q2 hxb
          obtain ⟨hb1, hb2, hb3, hb4⟩ := hxb
          have hk9 : k ≤ 100000 := by omega
          by_cases he : xp = o.price
          · have d2 := beqT he
            have HE := hid (show depthL (l.take (k + 1)) = u ++ [(xp, xq + o.qty, xn + 1)] by rw [HD.out, EX.out, depF_same HK2.out he])
            clear he
            go_upto_region 7 with fail
            go_cut [34] (fun s34 wx => s34 = .bool true ∧ ∃ q, wx = wb.drewN q)
            case first =>
              go_quiet (fail)
              go_wp2_with fail
              go_meet
              exact ⟨rfl, nq, rfl⟩
            case rest =>
              obtain ⟨rfl, q, rfl⟩ := hcut
              have HB := hid (drewN_below HB.out q)
              have HR := hid (HR.out.below (drewN_below (Below.refl _ wb) q))
              have HX := hid (Blk.drewN HX.out q)
              generalize wb.drewN q = wb at HB HR HX ⊢
              obtain ⟨y0, y1, y2, y3, y4⟩ := ord_box HX.out
              obtain ⟨q0, q1, q2⟩ := tri_own (i := m) HR.out (by have := Hm.out; simp; omega)
              have hxm : (u ++ [x])[m]'(by have := Hm.out; simp; omega) = x := by have hm := Hm.out; subst hm; simp
              rw [hxm, EX.out] at q0 q1 q2
              dsimp only at q0 q1 q2
              clear hxm
              have fz1 := HR.out.frozen (m * 3 + 1)
              have fz2 := HR.out.frozen (m * 3 + 2)
              have hi1 : RowKit.wrap64 (xq + o.qty) = xq + o.qty := by unfold RowKit.wrap64; omega
              have hi2 : RowKit.wrap64 (xn + 1) = xn + 1 := by unfold RowKit.wrap64; omega
              have hi3 : IntKind.i64.wrap (xq + o.qty) = xq + o.qty := by rw [IntKind.wrap_i64]; omega
              go_upto_region 8 with fail
              go_region
              go_wp2_with fail
              go_roundg (n - (k + 1))
              case measure => omega
              case rel =>
                have hm := Hm.out
                have e1 : (flat encT (u ++ [x])).set (m * 3 + 1) (.int .i64 (xq + o.qty)) = flat encT (u ++ [(xp, xq + o.qty, xn)]) := by
                  rw [flat_set_at encT_length (by omega) _ (xp, xq + o.qty, xn) (u ++ [x]) m (by simp; omega) (by subst hm; simp [EX.out]; rfl)]
                  subst hm
                  simp
                have e2 : (flat encT (u ++ [(xp, xq + o.qty, xn)])).set (m * 3 + 2) (.int .i64 (xn + 1)) = flat encT (u ++ [(xp, xq + o.qty, xn + 1)]) := by
                  rw [flat_set_at encT_length (by omega) _ (xp, xq + o.qty, xn + 1) (u ++ [(xp, xq + o.qty, xn)]) m (by simp; omega) (by subst hm; simp; rfl)]
                  subst hm
                  simp
                have r1 := HR.out.set (m * 3 + 1) (.int .i64 (xq + o.qty))
                rw [e1] at r1
                have r2 := r1.set (m * 3 + 2) (.int .i64 (xn + 1))
                rw [e2, ← HE.out] at r2
                have hg9 := HUp.out g9 rfl
                exact ⟨k + 1, m + 1, c9, some ⟨g9, 0, none⟩, by omega, rfl, by go_num, rfl, Below.drew ((HB.out.setCell hg9 _).setCell hg9 _), RowAt.below r2 (Below.drew (Below.refl _ _)), HUp.out⟩
          · have d2 := beqF he
            have HE := hid (show depthL (l.take (k + 1)) = (u ++ [x]) ++ [(o.price, o.qty, 1)] by rw [HD.out, EX.out, depF_next HK2.out he])
            clear he
            go_upto_region 7 with fail
            go_cut [34] (fun s34 wx => s34 = .bool false ∧ ∃ q, wx = wb.drewN q)
            case first =>
              go_quiet (fail)
              go_wp2_with fail
              go_meet
              exact ⟨rfl, nq, rfl⟩
            case rest =>
              obtain ⟨rfl, q, rfl⟩ := hcut
              have HB := hid (drewN_below HB.out q)
              have HR := hid (HR.out.below (drewN_below (Below.refl _ wb) q))
              have HX := hid (Blk.drewN HX.out q)
              generalize wb.drewN q = wb at HB HR HX ⊢
              obtain ⟨y0, y1, y2, y3, y4⟩ := ord_box HX.out
              clear q0 q1 q2
              have HOa := hid (show World.ownsRow (wb.alloc (.cells #[.int .i64 o.price, .int .i64 o.qty, .int .i64 1] 93)) 0 93 3 (.slice (some ⟨g9, 0, none⟩) (m + 1) c9) (m + 1) (flat encT (u ++ [x])) from HR.out.below ((Below.refl _ _).alloc (Nat.le_refl _) _))
              have HNWa := hid (heap_alloc_new wb (.cells #[.int .i64 o.price, .int .i64 o.qty, .int .i64 1] 93))
              go_wp2_with (at_builtin; (refine wpList_append_lies _ rfl _ _ 48 rfl 0 93 i0 _ 3 24 Tryd.underlying48 hi0 hz0 hz1 hz2 rfl (by omega) (.slice (some ⟨g9, 0, none⟩) (m + 1) c9) (m + 1) _ rfl HOa.out ⟨wb.heap.size, 0, none⟩ 1 1 (encT (o.price, o.qty, 1)) rfl rfl (World.news_of_block (cs := (encT (o.price, o.qty, 1)).toArray) (t := 93) (fr := (0, 0)) HNWa.out) (encT_one _) (by omega) (by unfold maxLen; omega) (by omega) (by simp) (wb.heap.size + 1) (by simp) ?_); intro gg cap w4 hown hgrow hat hlt3; have HOw := hid hown; have HGr := hid hgrow; have HAt := hid hat; clear hown hgrow hat)
              go_roundg (n - (k + 1))
              case measure => omega
              case rel =>
                have hat := HAt.out
                rw [own_slice] at hat
                have hgr := HGr.out
                rw [own_slice] at hgr
                refine ⟨k + 1, (m + 1) + 1, cap, some ⟨gg, 0, none⟩, by omega, rfl, by go_num, rfl, (HB.out.alloc HB.out.size (.cells #[.int .i64 o.price, .int .i64 o.qty, .int .i64 1] 93)).grown hgr (by have := HB.out.size; simp; omega) HUp.out, by rw [HE.out, flat_snoc]; exact HOw.out, fun g hg => ?_⟩
                cases hg
                rcases hat with h1 | h1
                · exact HUp.out _ h1
                · have := HB.out.size; show w2.heap.size ≤ gg; omega
    · obtain rfl : n = k := by omega
      have hltz : ¬ (n : Int) < (n : Int) := by omega
      have etk : l.take n = l := List.take_of_length_le (by rw [HN.out]; exact Nat.le_refl _)
      rw [etk] at hR
      have hln9 := row_length encT_length (by omega) hR
      have HLn := hid hln9
      have HB := hid hB
      have HR := hid hR
      clear hB hR hup etk hln9
      go_wp2_with fail
      refine bodyPost_ret (results_tmp rfl _ _ _) rfl ?_
      exact ⟨HB2.out.trans (HB.out.mono HB2.out.size), A9, c9, by rw [HLn.out]; rfl, by rw [HLn.out]; exact HR.out⟩
end Go.Proofs.YtkcgchpbjegneaaDoor
