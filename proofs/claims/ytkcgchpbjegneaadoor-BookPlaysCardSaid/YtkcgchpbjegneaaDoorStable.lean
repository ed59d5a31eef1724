/-
  sort's own functions over a row: what is asked of a comparison and of a swap, and the walks of swapRange_func, rotate_func and insertionSort_func.
-/
import Derived.WalkKit
import Derived.WalkLawsBesides
import Derived.WalkSpells
import Derived.Deep.LoopGhost
import Derived.Deep.DeepCutAuto
import Derived.Deep.CutBlock
import Derived.Shelf.Abstract
import Derived.Laws.EntriesVeiled
import Derived.Test.YtkcgchpbjegneaaDoorMem
import Derived.Test.YtkcgchpbjegneaaDoorStablePlain
namespace Go.Proofs.YtkcgchpbjegneaaDoor
open Go.RowKit
set_option linter.unusedVariables false

section
variable {α : Type}
def swapL (l : List α) (i j : Nat) : List α := match l[i]?, l[j]? with
  | some x, some y => (l.set i y).set j x
  | _, _ => l
theorem swapL_length (l : List α) (i j : Nat) : (swapL l i j).length = l.length := by
  unfold swapL
  split <;> simp
theorem swapL_of {l : List α} {i j : Nat} (hi : i < l.length) (hj : j < l.length) : swapL l i j = (l.set i l[j]).set j l[i] := by
  unfold swapL
  rw [List.getElem?_eq_getElem hi, List.getElem?_eq_getElem hj]
theorem swapL_map {β : Type} (f : α → β) (l : List α) (i j : Nat) : (swapL l i j).map f = swapL (l.map f) i j := by
  unfold swapL
  rw [List.getElem?_map, List.getElem?_map]
  cases l[i]? <;> cases l[j]? <;> simp [List.map_set]
theorem swapL_mid (A M B : List α) (x y : α) {i j : Nat} (hi : A.length = i) (hj : A.length + 1 + M.length = j) : swapL (A ++ (x :: (M ++ (y :: B)))) i j = A ++ (y :: (M ++ (x :: B))) := by
  subst hi hj
  have h1 : (A ++ (x :: (M ++ (y :: B))))[A.length]? = some x := by simp
  have h2 : (A ++ (x :: (M ++ (y :: B))))[A.length + 1 + M.length]? = some y := by
    rw [List.getElem?_append_right (by omega), show A.length + 1 + M.length - A.length = M.length + 1 by omega, List.getElem?_cons_succ, List.getElem?_append_right (by omega)]
    simp
  unfold swapL
  rw [h1, h2]
  dsimp only
  rw [List.set_append_right _ _ (by omega), Nat.sub_self, List.set_cons_zero, List.set_append_right _ _ (by omega), show A.length + 1 + M.length - A.length = M.length + 1 by omega, List.set_cons_succ, List.set_append_right _ _ (by omega), Nat.sub_self, List.set_cons_zero]
theorem swapL_adj (A B : List α) (x y : α) {i : Nat} (hi : A.length = i) : swapL (A ++ (x :: y :: B)) i (i + 1) = A ++ (y :: x :: B) := by
  have h := swapL_mid A [] B x y hi rfl
  simpa [hi] using h
theorem swapL_back (A B : List α) (x y : α) {i : Nat} (hi : A.length = i) : swapL (A ++ (x :: y :: B)) (i + 1) i = A ++ (y :: x :: B) := by
  subst hi
  have h1 : (A ++ (x :: y :: B))[A.length]? = some x := by simp
  have h2 : (A ++ (x :: y :: B))[A.length + 1]? = some y := by rw [List.getElem?_append_right (by omega)]; simp
  unfold swapL
  rw [h1, h2]
  dsimp only
  rw [List.set_append_right _ _ (by omega), show A.length + 1 - A.length = 1 by omega]
  simp
end

/-- what lessSwap holds -/
def lsV (g : Nat) (lb : Array Value) (sf : Nat) (sb : Array Value) : Value := .agg #[.func (.func g) #[] lb, .func (.func sf) #[] sb]
abbrev lsBox (g : Nat) (lb : Array Value) (sf : Nat) (sb : Array Value) : Array Value := #[.func (.func g) #[] lb, .func (.func sf) #[] sb]
/-- what is asked: St w l: the row at block blk holds l, and all that the comparison reads is as it should be -/
structure SortEnv {α : Type} (g : Nat) (lb : Array Value) (sf : Nat) (sb : Array Value) (blk n : Nat) (r : α → Int) (St : World → List α → Prop) : Prop where
  eg : ∀ args w, (callFunc g args).run Tryd.prog w = .ok (.enter g args) w
  less : ∀ W l (i j : Nat), St W l → l.length = n → (hi : i < l.length) → (hj : j < l.length) → i ≠ j → Calls Tryd.prog g (#[.int .i64 i, .int .i64 j] ++ lb) W fun e w' => e = .returned (.bool (decide (r l[i] < r l[j]))) ∧ St w' l ∧ Keeps (fun k => k = blk) W w'
  swap : ∀ W l (i j : Nat), St W l → l.length = n → i < n → j < n → i ≠ j → ∃ W', (callFunc sf (#[.int .i64 i, .int .i64 j] ++ sb)).run Tryd.prog W = .ok (.value (.tuple #[])) W' ∧ St W' (swapL l i j) ∧ Keeps (fun k => k = blk) W W'
  alloc : ∀ W l o, St W l → St (W.alloc o) l
  lt : ∀ W l, St W l → blk < W.heap.size
section
variable {α : Type} {g : Nat} {lb : Array Value} {sf : Nat} {sb : Array Value} {blk n : Nat} {r : α → Int} {St : World → List α → Prop}
theorem SortEnv.tag (E : SortEnv g lb sf sb blk n r St) : SortEnv g lb sf sb blk n (fun x : α × Nat => r x.1) (fun W T => St W (T.map (·.1))) where
  eg := E.eg
  less := fun W l i j h hl hi hj hij => by
    have h1 := E.less W (l.map (·.1)) i j h (by simpa using hl) (by simpa using hi) (by simpa using hj) hij
    simp only [List.getElem_map] at h1
    exact h1
  swap := fun W l i j h hl hi hj hij => by
    obtain ⟨W', h1, h2, h3⟩ := E.swap W (l.map (·.1)) i j h (by simpa using hl) hi hj hij
    exact ⟨W', h1, by rw [swapL_map]; exact h2, h3⟩
  alloc := fun W l o h => E.alloc W _ o h
  lt := fun W l h => E.lt W _ h
/-- the box of lessSwap stands, the row's block alone turns -/
structure SortAt (St : World → List α → Prop) (blk : Nat) (w wx : World) (bx : Array Value) (l : List α) : Prop where
  st : St wx l
  keep : Keeps (fun k => k = blk) w wx
  box : Blk wx w.heap.size 133 bx
theorem SortEnv.start (E : SortEnv g lb sf sb blk n r St) {w : World} {l : List α} (h : St w l) : SortAt St blk w (w.alloc (.cells (lsBox g lb sf sb) 133)) (lsBox g lb sf sb) l :=
  ⟨E.alloc _ _ _ h, Keeps.of_below ((Below.refl _ w).alloc (Nat.le_refl _) _) _, Blk.new w _ _⟩
theorem SortAt.step {w wx w' : World} {bx : Array Value} {l l' : List α} (h : SortAt St blk w wx bx l) (hb : blk < w.heap.size) (h1 : St w' l') (h2 : Keeps (fun k => k = blk) wx w') : SortAt St blk w w' bx l' :=
  ⟨h1, h.keep.trans h2 (fun i e => .inl e), Blk.keeps h.box h2 (fun e => by have e : w.heap.size = blk := e; omega)⟩
theorem SortAt.cells {w wx : World} {l : List α} (h : SortAt St blk w wx (lsBox g lb sf sb) l) : wx.cell? ⟨w.heap.size, 0, none⟩ = some (.func (.func g) #[] lb) ∧ wx.cell? ⟨w.heap.size, 1, none⟩ = some (.func (.func sf) #[] sb) :=
  ⟨by rw [Blk.cell h.box]; rfl, by rw [Blk.cell h.box]; rfl⟩

/-! ### swapRange_func -/
theorem range_mid (A X M Y B : List α) (i : Nat) (hi : i < X.length) (hy : X.length = Y.length) :
    swapL (A ++ ((Y.take i ++ X.drop i) ++ (M ++ ((X.take i ++ Y.drop i) ++ B)))) (A.length + i) (A.length + X.length + M.length + i) = A ++ ((Y.take (i + 1) ++ X.drop (i + 1)) ++ (M ++ ((X.take (i + 1) ++ Y.drop (i + 1)) ++ B))) := by
  have ex : X.drop i = X[i] :: X.drop (i + 1) := List.drop_eq_getElem_cons hi
  have ey : Y.drop i = Y[i] :: Y.drop (i + 1) := List.drop_eq_getElem_cons (by omega)
  have e1 : A ++ ((Y.take i ++ X.drop i) ++ (M ++ ((X.take i ++ Y.drop i) ++ B))) = (A ++ Y.take i) ++ (X[i] :: ((X.drop (i + 1) ++ (M ++ X.take i)) ++ (Y[i] :: (Y.drop (i + 1) ++ B)))) := by rw [ex, ey]; simp only [List.append_assoc, List.cons_append]
  rw [e1, swapL_mid _ _ _ _ _ (by simp; omega) (by simp; omega), List.take_succ_eq_append_getElem hi, List.take_succ_eq_append_getElem (by omega : i < Y.length)]
  simp only [List.append_assoc, List.cons_append, List.nil_append]

set_option maxRecDepth 100000 in
set_option maxHeartbeats 1000000 in
theorem swapRange_any (E : SortEnv g lb sf sb blk n r St) (w : World) (A X M Y B : List α) (a b k : Nat) (ha : A.length = a) (hb : A.length + X.length + M.length = b) (hx : X.length = k) (hy : Y.length = k)
    (h : St w (A ++ (X ++ (M ++ (Y ++ B))))) (hn : (A ++ (X ++ (M ++ (Y ++ B)))).length = n) (hn2 : n ≤ 1000000) :
    Calls Tryd.prog 80 #[lsV g lb sf sb, .int .i64 a, .int .i64 b, .int .i64 k] w fun e w' => e = .returned (.tuple #[]) ∧ St w' (A ++ (Y ++ (M ++ (X ++ B)))) ∧ Keeps (fun k => k = blk) w w' := by
  have hlt := E.lt _ _ h
  have eg := E.eg
  have hS0 := E.start h
  have hnn : A.length + (X.length + (M.length + (Y.length + B.length))) = n := by simpa using hn
  have HE := hid E
  have HS0 := hid hS0
  have HL := hid (And.intro ha (And.intro hb (And.intro hx (And.intro hy hnn))))
  have hb1 : a ≤ 1000000 := by omega
  have hb2 : b ≤ 1000000 := by omega
  have hb3 : k ≤ 1000000 := by omega
  have HLt := hid hlt
  clear E h hS0 hn hnn ha hb hx hy hn2 hlt
  unfold lsV
  go_enter Tryd.func80, Tryd.ntmps80
  go_wp2_with fail
  go_loopg [8] k (fun gg s8 wx => ∃ i : Nat, i ≤ k ∧ gg = k - i ∧ s8 = .int .i64 i ∧ SortAt St blk w wx (lsBox g lb sf sb) (A ++ ((Y.take i ++ X.drop i) ++ (M ++ ((X.take i ++ Y.drop i) ++ B)))))
  case atStart => exact ⟨0, Nat.zero_le _, rfl, rfl, by simpa using HS0.out⟩
  case round =>
    obtain ⟨i, hi, rfl, rfl, hS⟩ := hrel
    by_cases hlt : i < k
    · have hltz : (i : Int) < (k : Int) := by omega
      obtain ⟨c0, c1⟩ := hS.cells
      have hsw := HE.out.swap wr _ (a + i) (b + i) hS.st (by have h := HL.out; simp; omega) (by have h := HL.out; omega) (by have h := HL.out; omega) (by have h := HL.out; omega)
      have hmid := range_mid A X M Y B i (by have h := HL.out; omega) (by have h := HL.out; omega)
      rw [HL.out.2.1, HL.out.1] at hmid
      rw [hmid] at hsw
      obtain ⟨w2, hs, hst, hk⟩ := hsw
      rw [show (((a + i : Nat) : Int)) = (a : Int) + (i : Int) by omega, show (((b + i : Nat) : Int)) = (b : Int) + (i : Int) by omega] at hs
      have HS := hid hS
      have HSt := hid hst
      have HK := hid hk
      clear hS hst hk hmid
      go_wp2_with fail
      go_roundg (k - (i + 1))
      case measure => omega
      case rel => exact ⟨i + 1, by omega, rfl, by go_num, HS.out.step HLt.out HSt.out HK.out⟩
    · obtain rfl : k = i := by omega
      have hltz : ¬ (k : Int) < (k : Int) := by omega
      have HS := hid hS
      clear hS
      go_wp2_with fail
      go_end0
      refine ⟨rfl, ?_, HS.out.keep⟩
      have h := HS.out.st
      have hx := HL.out.2.2.1
      have hy := HL.out.2.2.2.1
      rw [List.take_of_length_le (by omega), List.take_of_length_le (by omega), List.drop_of_length_le (by omega), List.drop_of_length_le (by omega)] at h
      simpa using h

/-! ### rotate_func -/
set_option maxRecDepth 100000 in
set_option maxHeartbeats 2000000 in
theorem rotate_any (E : SortEnv g lb sf sb blk n r St) (w : World) (A U V B : List α) (a m b : Nat) (ha : A.length = a) (hm : A.length + U.length = m) (hb : m + V.length = b) (hU : 0 < U.length) (hV : 0 < V.length)
    (h : St w (A ++ (U ++ (V ++ B)))) (hn : (A ++ (U ++ (V ++ B))).length = n) (hn2 : n ≤ 1000000) :
    Calls Tryd.prog 76 #[lsV g lb sf sb, .int .i64 a, .int .i64 m, .int .i64 b] w fun e w' => e = .returned (.tuple #[]) ∧ St w' (A ++ (V ++ (U ++ B))) ∧ Keeps (fun k => k = blk) w w' := by
  have hlt := E.lt _ _ h
  have eg := E.eg
  have hS0 := E.start h
  have hnn : A.length + (U.length + (V.length + B.length)) = n := by simpa using hn
  have HE := hid E
  have HS0 := hid hS0
  have HL := hid (And.intro ha (And.intro hm (And.intro hb hnn)))
  have HUV := hid (And.intro hU hV)
  have hb1 : a ≤ 1000000 := by omega
  have hb2 : m ≤ 1000000 := by omega
  have hb3 : b ≤ 1000000 := by omega
  have HN2 := hid hn2
  have HLt := hid hlt
  have z1 : ((m : Int) - (a : Int)) = ((U.length : Nat) : Int) := by omega
  have z2 : ((b : Int) - (m : Int)) = ((V.length : Nat) : Int) := by omega
  clear E h hS0 hn hnn ha hb hm hU hV hn2 hlt
  unfold lsV
  go_enter Tryd.func76, Tryd.ntmps76
  go_wp2_with fail
  go_loopg [8, 9] (U.length + V.length) (fun gg s8 s9 wx => ∃ (i j : Nat) (P U' V' Q : List α), 0 < i ∧ 0 < j ∧ gg = i + j ∧ s8 = .int .i64 i ∧ s9 = .int .i64 j ∧ Hid (U'.length = i ∧ V'.length = j ∧ A.length + P.length + i = m ∧ P ++ (V' ++ (U' ++ Q)) = V ++ U) ∧ SortAt St blk w wx (lsBox g lb sf sb) (A ++ (P ++ (U' ++ (V' ++ (Q ++ B))))))
  case atStart => exact ⟨U.length, V.length, [], U, V, [], HUV.out.1, HUV.out.2, rfl, rfl, rfl, hid ⟨rfl, rfl, by have := HL.out; simp; omega, by simp⟩, by simpa using HS0.out⟩
  case round =>
    obtain ⟨i, j, P, U', V', Q, hi0, hj0, rfl, rfl, rfl, HQ, hS⟩ := hrel
    clear z1 z2
    have hlen : A.length + (P.length + (U'.length + (V'.length + (Q.length + B.length)))) = n := by
      have h1 := congrArg List.length HQ.out.2.2.2
      simp only [List.length_append] at h1
      have := HL.out
      omega
    have hij : i ≤ m := by have := HQ.out; omega
    have hjn : j ≤ 1000000 := by have := HQ.out; have := HN2.out; omega
    obtain ⟨c0, c1⟩ := hS.cells
    have hb4 : (0 : Int) ≤ (m : Int) - (i : Int) := by omega
    rcases Nat.lt_trichotomy i j with hlt | rfl | hlt
    · have t1 := bneT (show ((i : Int)) ≠ (j : Int) by omega)
      have t2 : ¬ (j : Int) < (i : Int) := by omega
      have hc := swapRange_any HE.out wr (A ++ P) U' (V'.take (j - i)) (V'.drop (j - i)) (Q ++ B) (m - i) (m + j - i) i (by have := HQ.out; simp; omega) (by have := HQ.out; simp; omega) HQ.out.1 (by have := HQ.out; simp; omega) (by
        have h := hS.st
        have e : V' = V'.take (j - i) ++ V'.drop (j - i) := (List.take_append_drop _ _).symm
        rw [e] at h
        simpa only [List.append_assoc] using h) (by have := HQ.out; simp; omega) HN2.out
      rw [show (((m - i : Nat) : Int)) = (m : Int) - (i : Int) by omega, show (((m + j - i : Nat) : Int)) = (m : Int) + (j : Int) - (i : Int) by omega] at hc
      have HC := hid hc
      have HS := hid hS
      clear hS hc hlen
      unfold lsV at HC
      go_wp2_with fail
      refine HC.out.mono ?_
      rintro e w2 ⟨rfl, hst, hk⟩
      have HSt := hid hst
      have HK := hid hk
      clear hst hk
      go_wp2_with fail
      go_roundg (i + (j - i))
      case measure => omega
      case rel =>
        refine ⟨i, j - i, P, V'.drop (j - i), V'.take (j - i), U' ++ Q, hi0, by omega, rfl, rfl, by rw [show (((j - i : Nat) : Int)) = (j : Int) - (i : Int) by omega], hid ⟨by have := HQ.out; simp; omega, by have := HQ.out; simp; omega, HQ.out.2.2.1, ?_⟩, ?_⟩
        · have h := HQ.out.2.2.2
          have e : V' = V'.take (j - i) ++ V'.drop (j - i) := (List.take_append_drop _ _).symm
          rw [e] at h
          simpa only [List.append_assoc] using h
        · exact HS.out.step HLt.out (by have h := HSt.out; simpa only [List.append_assoc] using h) HK.out
    · have t1 := bneF (show ((i : Int)) = (i : Int) from rfl)
      have hc := swapRange_any HE.out wr (A ++ P) U' [] V' (Q ++ B) (m - i) m i (by have := HQ.out; simp; omega) (by have := HQ.out; simp; omega) HQ.out.1 HQ.out.2.1 (by
        have h := hS.st
        simpa only [List.append_assoc, List.nil_append] using h) (by have := HQ.out; simp; omega) HN2.out
      rw [show (((m - i : Nat) : Int)) = (m : Int) - (i : Int) by omega] at hc
      have HC := hid hc
      have HS := hid hS
      clear hS hc hlen
      unfold lsV at HC
      go_wp2_with fail
      refine HC.out.mono ?_
      rintro e w2 ⟨rfl, hst, hk⟩
      have HSt := hid hst
      have HK := hid hk
      clear hst hk
      go_wp2_with fail
      go_end0
      refine ⟨rfl, ?_, HS.out.keep.trans HK.out (fun i e => .inl e)⟩
      have h := HSt.out
      have e : A ++ (V ++ (U ++ B)) = A ++ ((V ++ U) ++ B) := by simp only [List.append_assoc]
      rw [e, ← HQ.out.2.2.2]
      simpa only [List.append_assoc, List.nil_append] using h
    · have t1 := bneT (show ((i : Int)) ≠ (j : Int) by omega)
      have t2 : (j : Int) < (i : Int) := by omega
      have hc := swapRange_any HE.out wr (A ++ P) (U'.take j) (U'.drop j) V' (Q ++ B) (m - i) m j (by have := HQ.out; simp; omega) (by have := HQ.out; simp; omega) (by have := HQ.out; simp; omega) HQ.out.2.1 (by
        have h := hS.st
        have e : U' = U'.take j ++ U'.drop j := (List.take_append_drop _ _).symm
        rw [e] at h
        simpa only [List.append_assoc] using h) (by have := HQ.out; simp; omega) HN2.out
      rw [show (((m - i : Nat) : Int)) = (m : Int) - (i : Int) by omega] at hc
      have HC := hid hc
      have HS := hid hS
      clear hS hc hlen
      unfold lsV at HC
      go_wp2_with fail
      refine HC.out.mono ?_
      rintro e w2 ⟨rfl, hst, hk⟩
      have HSt := hid hst
      have HK := hid hk
      clear hst hk
      go_wp2_with fail
      go_roundg (i - j + j)
      case measure => omega
      case rel =>
        refine ⟨i - j, j, P ++ V', U'.drop j, U'.take j, Q, by omega, hj0, rfl, by rw [show (((i - j : Nat) : Int)) = (i : Int) - (j : Int) by omega], rfl, hid ⟨by have := HQ.out; simp; omega, by have := HQ.out; simp; omega, by have := HQ.out; simp; omega, ?_⟩, ?_⟩
        · have h := HQ.out.2.2.2
          have e : U' = U'.take j ++ U'.drop j := (List.take_append_drop _ _).symm
          rw [e] at h
          simpa only [List.append_assoc] using h
        · exact HS.out.step HLt.out (by have h := HSt.out; simpa only [List.append_assoc] using h) HK.out
end

/-! ### insertionSort_func, over tagged elements -/
section
variable {α : Type} {g : Nat} {lb : Array Value} {sf : Nat} {sb : Array Value} {blk n : Nat} {r : α → Int} {St : World → List (α × Nat) → Prop}
theorem tag_take {Q : List (α × Nat)} (h : Q.Pairwise fun x y => x.2 < y.2) {k : Nat} (hk : k < Q.length) {S : List (α × Nat)} (hS : S.Perm (Q.take k)) : TagL S [Q[k]] := by
  intro x hx y hy
  simp at hy
  subst hy
  obtain ⟨i, hi, rfl⟩ := List.mem_iff_getElem.1 (hS.mem_iff.1 hx)
  have hi2 : i < k := by rw [List.length_take] at hi; omega
  rw [List.getElem_take]
  exact List.pairwise_iff_getElem.1 h i k (by omega) hk hi2
theorem last_cut {L : List α} {p : Nat} (hp : L.length = p + 1) : ∃ L' y, L = L' ++ [y] ∧ L'.length = p := by
  have h0 : L ≠ [] := by intro e; rw [e] at hp; cases hp
  exact ⟨L.dropLast, L.getLast h0, (List.dropLast_concat_getLast h0).symm, by rw [List.length_dropLast]; omega⟩
theorem get_mid {A B : List α} {x : α} {i : Nat} (hi : A.length = i) (h : i < (A ++ (x :: B)).length) : (A ++ (x :: B))[i] = x := by
  subst hi
  simp

set_option maxRecDepth 100000 in
set_option maxHeartbeats 2000000 in
theorem insertion_any (E : SortEnv g lb sf sb blk n (fun x : α × Nat => r x.1) St) (w : World) (A Q B : List (α × Nat)) (a b : Nat) (ha : A.length = a) (hb : A.length + Q.length = b) (hQ : Q.Pairwise fun x y => x.2 < y.2)
    (h : St w (A ++ (Q ++ B))) (hn : (A ++ (Q ++ B)).length = n) (hn2 : n ≤ 1000000) :
    Calls Tryd.prog 71 #[lsV g lb sf sb, .int .i64 a, .int .i64 b] w fun e w' => e = .returned (.tuple #[]) ∧ (∃ S, S.Perm Q ∧ SortT r S ∧ St w' (A ++ (S ++ B))) ∧ Keeps (fun k => k = blk) w w' := by
  have hlt := E.lt _ _ h
  have eg := E.eg
  have hS0 := E.start h
  have hnn : A.length + (Q.length + B.length) = n := by simpa using hn
  have HE := hid E
  have HS0 := hid hS0
  have HL := hid (And.intro ha (And.intro hb hnn))
  have HQ := hid hQ
  have hb1 : a ≤ 1000000 := by omega
  have hb2 : b ≤ 1000000 := by omega
  have HLt := hid hlt
  clear E h hS0 hn hnn ha hb hn2 hlt hQ
  unfold lsV
  go_enter Tryd.func71, Tryd.ntmps71
  go_wp2_with fail
  go_loopg [6] (Q.length + 1 - 1) (fun gg s6 wx => ∃ (k : Nat) (S : List (α × Nat)), 1 ≤ k ∧ k ≤ Q.length + 1 ∧ gg = Q.length + 1 - k ∧ s6 = .int .i64 ((a : Int) + (k : Int)) ∧ Hid (S.Perm (Q.take k) ∧ SortT r S) ∧ SortAt St blk w wx (lsBox g lb sf sb) (A ++ (S ++ (Q.drop k ++ B))))
  case atStart => exact ⟨1, Q.take 1, Nat.le_refl _, by omega, rfl, rfl, hid ⟨List.Perm.refl _, by
    unfold SortT
    match Q with
    | [] => exact List.Pairwise.nil
    | x :: t => exact List.pairwise_singleton _ _⟩, by
    have h := HS0.out
    have e : Q.take 1 ++ (Q.drop 1 ++ B) = Q ++ B := by rw [← List.append_assoc, List.take_append_drop]
    rw [e]
    exact h⟩
  case round =>
    obtain ⟨k, S, hk1, hk2, rfl, rfl, HS, hS⟩ := hrel
    by_cases hlt : k < Q.length
    · have hltz : (a : Int) + (k : Int) < (b : Int) := by have := HL.out; omega
      have ed : Q.drop k = Q[k] :: Q.drop (k + 1) := List.drop_eq_getElem_cons hlt
      have et : Q.take (k + 1) = Q.take k ++ [Q[k]] := List.take_succ_eq_append_getElem hlt
      have HTg := hid (tag_take HQ.out hlt HS.out.1)
      rw [ed] at hS
      obtain ⟨x, hx⟩ : ∃ x, Q[k] = x := ⟨_, rfl⟩
      rw [hx] at hS HTg et
      have HEt := hid et
      have HA := hid hS
      have hSl : S.length = k := by have := HS.out.1.length_eq; rw [List.length_take] at this; omega
      have HSl := hid hSl
      have hcs : ((a : Int) + (k : Int)) ≤ 1000000 := by have := HL.out; omega
      obtain ⟨wo, rfl⟩ : ∃ wo : World, wo = wr := ⟨_, rfl⟩
      clear ed et hx hS hSl
      go_wp2_with fail
      go_loopg [7] k (fun gg s7 wx => ∃ (p : Nat) (L R : List (α × Nat)), p ≤ k ∧ gg = 0 + p ∧ s7 = .int .i64 ((a : Int) + (p : Int)) ∧ Hid (L ++ R = S ∧ L.length = p ∧ BelT r [x] R) ∧ SortAt St blk w wx (lsBox g lb sf sb) (A ++ (L ++ (x :: (R ++ (Q.drop (k + 1) ++ B))))))
      case atStart => exact ⟨k, S, [], Nat.le_refl _, by omega, rfl, hid ⟨by simp, HSl.out, fun x hx y hy => by cases hy⟩, by simpa using HA.out⟩
      case round =>
        obtain ⟨p, L, R, hpk, rfl, rfl, HLR, hS⟩ := hrel
        obtain ⟨c0, c1⟩ := hS.cells
        have hfin : (∀ (h1 : 0 < L.length), ¬ r x.1 < r (L[L.length - 1]'(by omega)).1) → (L ++ x :: R).Perm (Q.take (k + 1)) ∧ SortT r (L ++ x :: R) := fun hL => by
          refine ⟨?_, ins_ok (by rw [HLR.out.1]; exact HS.out.2) (by rw [HLR.out.1]; exact HTg.out) HLR.out.2.2 hL⟩
          rw [HEt.out]
          refine List.perm_middle.trans ?_
          rw [HLR.out.1]
          exact (HS.out.1.cons x).trans (List.perm_append_comm (l₁ := [x]))
        have HFin := hid hfin
        clear hfin
        by_cases hp0 : p = 0
        · have t1 : ¬ (a : Int) < (a : Int) + (p : Int) := by omega
          have HF2 := hid (HFin.out (fun h1 => absurd h1 (by rw [HLR.out.2.1]; omega)))
          have HS2 := hid hS
          have hd1 : decide ((a : Int) < (a : Int) + (p : Int)) = false := decF (by omega)
          clear hS HFin
          go_wp2_with fail
          go_roundg (Q.length + 1 - (k + 1))
          case measure => omega
          case rel => exact ⟨k + 1, L ++ x :: R, by omega, by omega, rfl, by rw [show (a : Int) + ((k + 1 : Nat) : Int) = (a : Int) + (k : Int) + 1 by omega], HF2, by have h := HS2.out; simpa only [List.append_assoc, List.cons_append] using h⟩
        · obtain ⟨p', hp'⟩ : ∃ p', p = p' + 1 := ⟨p - 1, by omega⟩
          obtain ⟨L', y, hL', hl'⟩ := last_cut (HLR.out.2.1.trans hp')
          have HP := hid hp'
          subst hL'
          have hd1 : decide ((a : Int) < (a : Int) + (p : Int)) = true := decT (by omega)
          have hst := hS.st
          have e1 : A ++ (L' ++ [y] ++ (x :: (R ++ (Q.drop (k + 1) ++ B)))) = (A ++ L') ++ (y :: x :: (R ++ (Q.drop (k + 1) ++ B))) := by simp only [List.append_assoc, List.cons_append, List.nil_append]
          rw [e1] at hst
          have hal : (A ++ L').length = a + p' := by have := HL.out; simp; omega
          have hln : ((A ++ L') ++ (y :: x :: (R ++ (Q.drop (k + 1) ++ B)))).length = n := by
            have h1 := congrArg List.length HLR.out.1
            have h2 := HSl.out
            have := HL.out
            simp at h1 ⊢
            omega
          have hi1 : a + (p' + 1) < ((A ++ L') ++ (y :: x :: (R ++ (Q.drop (k + 1) ++ B)))).length := by simp at hal ⊢; omega
          have hi0 : a + p' < ((A ++ L') ++ (y :: x :: (R ++ (Q.drop (k + 1) ++ B)))).length := by simp at hal ⊢; omega
          have hle := HE.out.less wr _ (a + (p' + 1)) (a + p') hst hln hi1 hi0 (by omega)
          have g0 : ((A ++ L') ++ (y :: x :: (R ++ (Q.drop (k + 1) ++ B))))[a + p'] = y := get_mid hal _
          have g1 : ((A ++ L') ++ (y :: x :: (R ++ (Q.drop (k + 1) ++ B))))[a + (p' + 1)] = x := by
            have e : (A ++ L') ++ (y :: x :: (R ++ (Q.drop (k + 1) ++ B))) = ((A ++ L') ++ [y]) ++ (x :: (R ++ (Q.drop (k + 1) ++ B))) := by simp
            have := get_mid (A := (A ++ L') ++ [y]) (B := R ++ (Q.drop (k + 1) ++ B)) (x := x) (i := a + (p' + 1)) (by simp at hal ⊢; omega) (by rw [← e]; exact hi1)
            simp only [e]
            exact this
          rw [g0, g1] at hle
          have hsw := fun W hW => HE.out.swap W ((A ++ L') ++ (y :: x :: (R ++ (Q.drop (k + 1) ++ B)))) (a + (p' + 1)) (a + p') hW hln (by rw [← hln]; exact hi1) (by rw [← hln]; exact hi0) (by omega)
          have esw := swapL_back (A ++ L') (R ++ (Q.drop (k + 1) ++ B)) y x hal
          rw [show a + p' + 1 = a + (p' + 1) by omega] at esw
          rw [esw] at hsw
          have ci : (((a + p' : Nat) : Int)) = (a : Int) + (p : Int) - 1 := by omega
          have cj : (((a + (p' + 1) : Nat) : Int)) = (a : Int) + (p : Int) := by omega
          rw [ci, cj] at hle hsw
          have HSw := hid hsw
          have HLe := hid hle
          have HS2 := hid hS
          have HE1 := hid e1
          have HHal := hid hal
          clear hst hal hln hi1 hi0 g0 g1 esw ci cj hsw hle hS e1 hp'
          by_cases hv : r x.1 < r y.1
          · have hle := HLe.out
            rw [decT hv] at hle
            have HV := hid hv
            clear hv HFin
            go_wp2_with (go_at_fn g; refine hle.mono ?_; rintro e w2 ⟨rfl, hst2, hk2'⟩; obtain ⟨w3, hs, hst3, hk3⟩ := HSw.out w2 hst2; have HK2 := hid hk2'; have HSt3 := hid hst3; have HK3 := hid hk3; have c1 : w2.cell? ⟨w.heap.size, 1, none⟩ = some (.func (.func sf) #[] sb) := (by rw [Blk.cell (Blk.keeps HS2.out.box hk2' (fun e => by have e : w.heap.size = blk := e; have := HLt.out; omega))]; rfl); clear hst2 hk2' hst3 hk3)
            go_roundg (0 + p')
            case measure => have := HP.out; omega
            case rel =>
              refine ⟨p', L', y :: R, by have := HP.out; omega, rfl, by rw [show (a : Int) + (p' : Int) = (a : Int) + (p : Int) - 1 by have := HP.out; omega], hid ⟨by have h := HLR.out.1; simpa using h, by have h := HLR.out.2.1; have := HP.out; simp at h; omega, ?_⟩, ?_⟩
              · exact ins_step (L' := L') (by have h := HS.out.2; rw [← HLR.out.1] at h; simpa using h) HLR.out.2.2 HV.out
              · exact (HS2.out.step HLt.out (by have h := HSt3.out; simpa only [List.append_assoc, List.cons_append] using h) (HK2.out.trans HK3.out (fun i e => .inl e)))
          · have hle := HLe.out
            rw [decF hv] at hle
            have HF2 := hid (HFin.out (fun h1 => by simpa using hv))
            clear hv HFin
            go_wp2_with (go_at_fn g; refine hle.mono ?_; rintro e w2 ⟨rfl, hst2, hk2'⟩; have HK2 := hid hk2'; have HSt2 := hid hst2; clear hst2 hk2')
            go_roundg (Q.length + 1 - (k + 1))
            case measure => omega
            case rel =>
              refine ⟨k + 1, (L' ++ [y]) ++ x :: R, by omega, by omega, rfl, by rw [show (a : Int) + ((k + 1 : Nat) : Int) = (a : Int) + (k : Int) + 1 by omega], HF2, ?_⟩
              refine HS2.out.step HLt.out ?_ HK2.out
              have h := HSt2.out
              simpa only [List.append_assoc, List.cons_append, List.nil_append] using h
    · have hltz : ¬ (a : Int) + (k : Int) < (b : Int) := by have := HL.out; omega
      have HS2 := hid hS
      have hd1 : ¬ ((a : Int) + (k : Int)) < (b : Int) := by omega
      clear hS
      go_wp2_with fail
      go_end0
      refine ⟨rfl, ⟨S, ?_, HS.out.2, ?_⟩, HS2.out.keep⟩
      · have h := HS.out.1
        rwa [List.take_of_length_le (by omega)] at h
      · have h := HS2.out.st
        rw [List.drop_of_length_le (by omega)] at h
        simpa using h
end
end Go.Proofs.YtkcgchpbjegneaaDoor
