/-
  openbellkeep.CrossFair over a slice of orders as it comes in.
-/
import Derived.Test.YteggaehelnmhnaaFairWalk
import Derived.Test.YteggaehelnmhnaaBookAdd
import Derived.Test.YteggaehelnmhnaaBookCut
namespace Go.Proofs.Yteggaehelnmhnaa
open Go.RowKit

theorem crossFair_rows {W : World} {A : Option Addr} {len cap : Nat} {rows : List (List Int)} (h : RowsAt W 5 A len cap rows) (around : Int) (_hb : -9223372036854775808 ≤ around ∧ around ≤ 9223372036854775807) :
    Calls Try.prog 3 #[.slice A len cap, .int .i64 around] W fun e w' => e = .returned (.bool true) ∧ Below W.heap.size W w' :=
  crossFair_any bookAdd_any bookCut_any A len cap (ordsOf rows) around W (ords_of_rows h) (by obtain ⟨_, h1, h2, _⟩ := h; unfold maxLen at h2; omega)
end Go.Proofs.Yteggaehelnmhnaa
