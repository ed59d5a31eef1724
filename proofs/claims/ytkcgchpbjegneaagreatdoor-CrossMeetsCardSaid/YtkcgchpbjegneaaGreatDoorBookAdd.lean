/-
  Book.Add of a book by its two lists.
-/
import Derived.Test.YtkcgchpbjegneaaGreatDoorBookAdd1M
import Derived.Test.YtkcgchpbjegneaaGreatDoorBookAdd1Q
import Derived.Test.YtkcgchpbjegneaaGreatDoorBookAdd2M
import Derived.Test.YtkcgchpbjegneaaGreatDoorBookAdd2Q
import Derived.Test.YtkcgchpbjegneaaGreatDoorBookAddF
import Derived.Test.YtkcgchpbjegneaaGreatDoorBookAddP
namespace Go.Proofs.YtkcgchpbjegneaaGreatDoor
open Go.RowKit
set_option linter.unusedVariables false

theorem bookAdd_any (w : World) (b : Nat) (G : Nat → Prop) (L1 L2 : List Ord5) (h : BookAt w b G L1 L2) (o : Ord5) (hfit : FitO o) :
    Calls Tryz.prog 42 #[.pointer (some ⟨b, 0, none⟩), aggO o] w (AddPost w b G L1 L2 o) := by
  obtain ⟨a, F, M, n, r, f, H, reg, hM, hS, hG, rfl, rfl⟩ := h
  have hn := hM.ar.le
  unfold AddPost
  cases h1 : argB o with
  | false =>
    have e : addE (H 1).L (H 2).L o = 1 := by unfold addE; rw [if_pos h1]
    rw [e]
    exact (add_arg w b o h1).mono fun e' w' h => .inl ⟨by decide, h⟩
  | true =>
  cases h2 : rngB o with
  | false =>
    have e : addE (H 1).L (H 2).L o = 2 := by unfold addE; rw [if_neg (by rw [h1]; decide), if_pos h2]
    rw [e]
    exact (add_range w b o h1 h2).mono fun e' w' h => .inl ⟨by decide, h⟩
  | true =>
  cases hf : f o.id with
  | some v =>
    obtain ⟨x, hx, hid⟩ := hS.hk _ _ hf
    have hv := hS.hf x hx
    rw [hid] at hv
    have hg : (getI ((H 1).L ++ (H 2).L) o.id).isSome = true := by rw [← hid, getI_find hS hx]; rfl
    have e : addE (H 1).L (H 2).L o = 9 := by unfold addE; rw [if_neg (by rw [h1]; decide), if_neg (by rw [h2]; decide), if_pos hg]
    rw [e]
    exact (add_twice w b o a F M n r f H reg hM h1 h2 x hv).mono fun e' w' h => .inl ⟨by decide, h⟩
  | none =>
  have hg : ¬ (getI ((H 1).L ++ (H 2).L) o.id).isSome = true := by rw [getI_none hS hf]; decide
  have hcnt : (H 1).L.length + (H 2).L.length = n := by
    rw [hS.cnt]
    unfold allH HS.L ordL
    simp
  by_cases h3 : n = 100
  · have e : addE (H 1).L (H 2).L o = 12 := by unfold addE; rw [if_neg (by rw [h1]; decide), if_neg (by rw [h2]; decide), if_neg hg, if_pos (by rw [hcnt]; exact h3)]
    rw [e]
    exact (add_full w b o a F M n r f H reg hM hS hfit h1 h2 hf h3).mono fun e' w' h => .inl ⟨by decide, h⟩
  · have e : addE (H 1).L (H 2).L o = 0 := by unfold addE; rw [if_neg (by rw [h1]; decide), if_neg (by rw [h2]; decide), if_neg hg, if_neg (by rw [hcnt]; exact h3)]
    rw [e]
    have h100 : n < 100 := by omega
    have key : Calls Tryz.prog 42 #[.pointer (some ⟨b, 0, none⟩), aggO o] w fun e w' => e = .returned (errV 0) ∧ AddDone w w' b a r F n H (pricedO o) := by
      rcases (argB_iff.1 h1).1 with hs | hs
      · cases hk : o.kind == 2 with
        | true => exact add_lies1M w b o a F M n r f H reg hM hS hfit h1 h2 hf h100 hs hk
        | false => exact add_lies1Q w b o a F M n r f H reg hM hS hfit h1 h2 hf h100 hs hk
      · cases hk : o.kind == 2 with
        | true => exact add_lies2M w b o a F M n r f H reg hM hS hfit h1 h2 hf h100 hs hk
        | false => exact add_lies2Q w b o a F M n r f H reg hM hS hfit h1 h2 hf h100 hs hk
    exact key.mono fun e' w' h => .inr ⟨rfl, h.1, add_to (argB_iff.1 h1).1 hG h.2⟩
end Go.Proofs.YtkcgchpbjegneaaGreatDoor
