/-
  openbelllaw.CurveOf over a slice of orders as it comes in.
-/
import Derived.Test.YtaagaamamjabbaaCurveOfWalk
namespace Go.Proofs.Ytaagaamamjabbaa
open Go.RowKit

theorem curveOf_rows {W : World} {A : Option Addr} {len cap : Nat} {rows : List (List Int)} (h : RowsAt W 5 A len cap rows) (more : Int) (hmore : -9223372036854775808 ≤ more ∧ more ≤ 9223372036854775807) :
    Calls Try.prog 5 #[.slice A len cap, .int .i64 more] W fun e w' => e = .returned (.bool true) ∧ Below W.heap.size W w' :=
  curveOf_any A len cap (ordsOf rows) more W (ords_of_rows h) (ords_fit h) hmore (by obtain ⟨_, h1, h2, _⟩ := h; unfold maxLen at h2; omega)
end Go.Proofs.Ytaagaamamjabbaa
