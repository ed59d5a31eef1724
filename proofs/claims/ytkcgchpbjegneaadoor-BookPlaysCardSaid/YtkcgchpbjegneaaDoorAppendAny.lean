/-
  append of whole slices, of none too, to an own slice; two operations that may come up; an empty slice made. No program of the set in sight.
-/
import Derived.WalkKit
import Derived.Maps.AppendAt
import Derived.Deep.AppendLies
import Derived.Deep.AppendSrc
import Derived.Test.YtkcgchpbjegneaaDoorMem
import Derived.Test.YtkcgchpbjegneaaDoorHeldT
namespace Go.Proofs.YtkcgchpbjegneaaDoor
open Go.RowKit
set_option linter.unusedVariables false

theorem RowAt.made (w : World) (t : TypeId) (sz : Nat) : RowAt (w.alloc (.cells #[] t)) (some ⟨w.heap.size, 0, none⟩) 0 0 t sz [] :=
  ⟨by simp, .inr ⟨w.heap.size, 0, #[], rfl, Nat.zero_le _, heap_alloc_new w _, Nat.le_refl _, Nat.zero_le _, by simp, by simp⟩⟩
section
variable {P : Program} {α : Type} {enc : α → List Value} {k : Nat} {w : World}
theorem run_append_any (hk : ∀ x, (enc x).length = k) (hone : ∀ x, ∀ u ∈ enc x, u.oneCell' = true) (t ty e : TypeId) (i : TypeInfo) (z : Value) (bytes : Nat) (ht : P.underlying t = some (.slice e)) (hi : P.info? e = some i) (hz : i.zero = some z)
    (hsize : i.size = k) (hby : i.bytes = bytes) (hzs : z.cells.size = k) (hk0 : 0 < k)
    (Av : Option Addr) (n cv : Nat) (xs : List Value) (hown : RowAt w Av n cv e k xs) (A : Option Addr) (m c : Nat) (L : List α) (hE : ElemsAt w enc k A m L) (h63 : n + m ≤ maxLen) (hbytes : (n + m) * bytes ≤ 140737488355328) :
    ∃ A' c' w', (Builtin.append_ #[t, t] ty #[.slice Av n cv, .slice A m c]).run P w = .ok (.slice A' (n + m) c') w' ∧ RowAt w' A' (n + m) c' e k (xs ++ flat enc L) ∧ w.grownBy w' (blkOf Av) ∧ ∀ g, blkOf A' = some g → blkOf Av = some g ∨ g = w.heap.size := by
  cases A with
  | none =>
    have hm : m = 0 := by
      rcases Nat.eq_zero_or_pos m with h | h
      · exact h
      · obtain ⟨b, off, h1, -⟩ := hE.2 h
        cases h1
    subst hm
    have hL : L = [] := List.eq_nil_of_length_eq_zero hE.1
    subst hL
    have hr : (Builtin.append_ #[t, t] ty #[.slice Av n cv, .slice none 0 c]).run P w = .ok (.slice Av n cv) w := by
      rcases hown.2 with ⟨h1, h2⟩ | ⟨g, cap, cur, hv, -, hb, hn, hc, hs, -⟩
      · cases h1
        have hs := Src.ofNil (size := i.size) w ht c
        simp [Builtin.append_, run_underlying ht, sizeOf, typeInfo, hi, hs.len, hs.cells]
      · cases hv
        have h := run_append_room_src (P := P) (w := w) t t ty e i ht hi g 0 n cv (.slice none 0 c) 0 [] (Src.ofNil w ht c) hn (by simp) (by simp)
        exact h
    exact ⟨Av, cv, w, hr, by simpa [flat] using hown, ⟨rfl, rfl, rfl, Nat.le_refl _, fun _ _ _ => rfl⟩, fun g hg => .inl hg⟩
  | some ad =>
    have hnews : ∀ j u, (flat enc L)[j]? = some u → w.cell? (ad.add j) = some u := by
      rcases Nat.eq_zero_or_pos m with h | h
      · have hL : L = [] := List.eq_nil_of_length_eq_zero (by have := hE.1; omega)
        subst hL
        intro j u hu
        simp [flat] at hu
      · obtain ⟨b, off, h1, -⟩ := hE.2 h
        cases h1
        exact ElemsAt.news hk hE
    have hone2 : ∀ u ∈ flat enc L, u.oneCell' = true := by
      intro u hu
      unfold flat at hu
      simp at hu
      obtain ⟨x, -, hx⟩ := hu
      exact hone x u hx
    obtain ⟨v', w', hr, h2, h3, h4, h5⟩ := run_append_own_at (P := P) w 0 t ty e i z k bytes ht hi hz hsize hby hzs hk0 (.slice Av n cv) n xs hown ad m c (flat enc L) (by rw [flat_length hk, hE.1]) hnews hone2 h63 hbytes (Nat.zero_le _)
    rw [own_slice] at h3 h5
    rcases h2.2 with ⟨rfl, hz0⟩ | ⟨g, cap, cur, rfl, hrest⟩
    · refine ⟨none, 0, w', by rw [hz0]; exact hr, by rw [hz0] at h2; rw [hz0]; exact h2, h3, by simp [blkOf]⟩
    · refine ⟨some ⟨g, 0, none⟩, cap, w', hr, h2, h3, fun g' hg' => ?_⟩
      rcases h5 with h5 | h5
      · left; rw [← h5]; exact hg'
      · right
        have h6 : some g' = some w.heap.size := by rw [← h5]; exact hg'.symm
        exact Option.some.inj h6
/-- at the operation -/
theorem wp_append_any (hk : ∀ x, (enc x).length = k) (hone : ∀ x, ∀ u ∈ enc x, u.oneCell' = true) {o : Oper} {a : Act} {K : Act → World → Prop} {Q : Exit → Act → World → Prop} (s x : Operand) (t : TypeId)
    (ho : o.op = .call { callee := .builtin .append, args := #[s, x], argTypes := #[t, t] })
    (e : TypeId) (i : TypeInfo) (z : Value) (bytes : Nat) (ht : P.underlying t = some (.slice e)) (hi : P.info? e = some i) (hz : i.zero = some z)
    (hsize : i.size = k) (hby : i.bytes = bytes) (hzs : z.cells.size = k) (hk0 : 0 < k)
    (Av : Option Addr) (n cv : Nat) (xs : List Value) (hs : a.eval s = .slice Av n cv) (hown : RowAt w Av n cv e k xs) (A : Option Addr) (m c : Nat) (L : List α) (hx : a.eval x = .slice A m c) (hE : ElemsAt w enc k A m L) (h63 : n + m ≤ maxLen) (hbytes : (n + m) * bytes ≤ 140737488355328)
    (h : ∀ A' c' w', RowAt w' A' (n + m) c' e k (xs ++ flat enc L) → w.grownBy w' (blkOf Av) → (∀ g, blkOf A' = some g → blkOf Av = some g ∨ g = w.heap.size) → K (a.put o.dst (.slice A' (n + m) c')) w') : o.wp P a w K Q := by
  obtain ⟨A', c', w', hr, h2, h3, h4⟩ := run_append_any (P := P) hk hone t o.type e i z bytes ht hi hz hsize hby hzs hk0 Av n cv xs hown A m c L hE h63 hbytes
  unfold Oper.wp execOp
  simp only [ho, resolve, invoke, builtin, Sem.run_bind, Sem.run_pure, Result.andThen_ok, List.map_toArray, List.map_cons, List.map_nil, hs, hx, hr]
  exact h A' c' w' h2 h3 h4
theorem wpList_append_any (hk : ∀ x, (enc x).length = k) (hone : ∀ x, ∀ u ∈ enc x, u.oneCell' = true) {ops : Array Oper} {rest : List Oper} {o : Oper} {a : Act} {Q : Exit → Act → World → Prop} (hgd : o.guard = none) (s x : Operand) (t : TypeId)
    (ho : o.op = .call { callee := .builtin .append, args := #[s, x], argTypes := #[t, t] })
    (e : TypeId) (i : TypeInfo) (z : Value) (bytes : Nat) (ht : P.underlying t = some (.slice e)) (hi : P.info? e = some i) (hz : i.zero = some z)
    (hsize : i.size = k) (hby : i.bytes = bytes) (hzs : z.cells.size = k) (hk0 : 0 < k)
    (Av : Option Addr) (n cv : Nat) (xs : List Value) (hs : a.eval s = .slice Av n cv) (hown : RowAt w Av n cv e k xs) (A : Option Addr) (m c : Nat) (L : List α) (hx : a.eval x = .slice A m c) (hE : ElemsAt w enc k A m L) (h63 : n + m ≤ maxLen) (hbytes : (n + m) * bytes ≤ 140737488355328)
    (h : ∀ A' c' w', RowAt w' A' (n + m) c' e k (xs ++ flat enc L) → w.grownBy w' (blkOf Av) → (∀ g, blkOf A' = some g → blkOf Av = some g ∨ g = w.heap.size) → wpList P ops Q rest (a.put o.dst (.slice A' (n + m) c')) w') : wpList P ops Q (o :: rest) a w :=
  wpList_plain hgd fun _ hK => wp_append_any hk hone s x t ho e i z bytes ht hi hz hsize hby hzs hk0 Av n cv xs hs hown A m c L hx hE h63 hbytes fun A' c' w' h2 h3 h4 => hK _ _ (h A' c' w' h2 h3 h4)
theorem step_append_any (hk : ∀ x, (enc x).length = k) (hone : ∀ x, ∀ u ∈ enc x, u.oneCell' = true) {ops : Array Oper} {o : Oper} {a : Act} {K : Act → World → Prop} {Q : Exit → Act → World → Prop} {E : Prop} (hgd : o.guard = none) (s x : Operand) (t : TypeId)
    (ho : o.op = .call { callee := .builtin .append, args := #[s, x], argTypes := #[t, t] })
    (e : TypeId) (i : TypeInfo) (z : Value) (bytes : Nat) (ht : P.underlying t = some (.slice e)) (hi : P.info? e = some i) (hz : i.zero = some z)
    (hsize : i.size = k) (hby : i.bytes = bytes) (hzs : z.cells.size = k) (hk0 : 0 < k)
    (Av : Option Addr) (n cv : Nat) (xs : List Value) (hs : a.eval s = .slice Av n cv) (hown : RowAt w Av n cv e k xs) (A : Option Addr) (m c : Nat) (L : List α) (hx : a.eval x = .slice A m c) (hE : ElemsAt w enc k A m L) (h63 : n + m ≤ maxLen) (hbytes : (n + m) * bytes ≤ 140737488355328)
    (h : ∀ A' c' w', RowAt w' A' (n + m) c' e k (xs ++ flat enc L) → w.grownBy w' (blkOf Av) → (∀ g, blkOf A' = some g → blkOf Av = some g ∨ g = w.heap.size) → K (a.put o.dst (.slice A' (n + m) c')) w') :
    if Region.wanted o (yielded ops a.tmps) = true then Oper.wp P o a w K Q else E := by
  have hw : Region.wanted o (yielded ops a.tmps) = true := by simp [Region.wanted, hgd]
  rw [if_pos hw]
  exact wp_append_any hk hone s x t ho e i z bytes ht hi hz hsize hby hzs hk0 Av n cv xs hs hown A m c L hx hE h63 hbytes h
/-- two that may come up, none of them t -/
theorem wpAnyT_two {md : Region.Mode} {S : World → Prop} {t : Nat} {Q : Exit → Act → World → Prop} {l r1 r2 : List Oper} (i j : Nat) {o1 o2 : Oper} {fuel : Nat} {listed : Array Bool} {a : Act} {w : World} (hr : Region.ready md l.toArray listed = [i, j]) (ho1 : l.drop i = o1 :: r1) (ho2 : l.drop j = o2 :: r2)
    (h1 : ∀ K' : Act → World → Prop, (∀ a w, S w → (S w → wpAnyT P md l.toArray Q S t fuel (listed.setIfInBounds i true) a w) → K' a w) → if Region.wanted o1 (yielded l.toArray a.tmps) = true then Oper.wp P o1 a w K' Q else K' (a.put o1.dst undef) w)
    (h2 : ∀ K' : Act → World → Prop, (∀ a w, S w → (S w → wpAnyT P md l.toArray Q S t fuel (listed.setIfInBounds j true) a w) → K' a w) → if Region.wanted o2 (yielded l.toArray a.tmps) = true then Oper.wp P o2 a w K' Q else K' (a.put o2.dst undef) w) : wpAnyT P md l.toArray Q S t (fuel + 1) listed a w :=
  wpAnyT_all hr (by simp) (fun u hu => by
    rcases List.mem_cons.1 hu with rfl | hu
    · exact wpOp_step (at_drop ho1) fun K' hK => h1 K' (fun a w hS hw => hK a w ⟨fun _ => hS, hw hS⟩)
    · rw [List.mem_singleton] at hu
      subst hu
      exact wpOp_step (at_drop ho2) fun K' hK => h2 K' (fun a w hS hw => hK a w ⟨fun _ => hS, hw hS⟩))
end
end Go.Proofs.YtkcgchpbjegneaaDoor
