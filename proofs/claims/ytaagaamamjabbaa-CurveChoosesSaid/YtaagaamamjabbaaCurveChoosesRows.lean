/-
  The walk of openbelllaw.CurveChooses, over an argument that is read as rows.
-/
import Derived.Test.YtaagaamamjabbaaCurveChoosesWalk
namespace Go.Proofs.Ytaagaamamjabbaa
open Go.RowKit

theorem curveChooses_rows {A : Option Addr} {len cap : Nat} {rows : List (List Int)} {w : World} (h : RowsAt w 3 A len cap rows) (r : Int) :
    Calls Try.prog 3 #[.slice A len cap, .int .i64 r] w fun e w' => e = .returned (.bool true) ∧ Below w.heap.size w w' :=
  curveChooses_any A len cap r (trisOf rows) w (tris_of_rows h) (by have h1 := h.2.1; have h2 := h.2.2.1; unfold maxLen at h2; omega)
end Go.Proofs.Ytaagaamamjabbaa
