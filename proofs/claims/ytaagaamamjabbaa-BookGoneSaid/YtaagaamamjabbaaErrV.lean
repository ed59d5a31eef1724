/-
  An error of package api as a value. No walk.
-/
import Derived.WalkKit
import Derived.Test.YtaagaamamjabbaaRows
namespace Go.Proofs.Ytaagaamamjabbaa
open Go.RowKit

/-- an error by its number: 0: none -/
def errV (e : Int) : Value := if e = 0 then .nilIface else .iface 77 (.int .i64 e)
theorem errV_zero : errV 0 = .nilIface := rfl
theorem errV_two : errV 2 = .iface 77 (.int .i64 2) := rfl
end Go.Proofs.Ytaagaamamjabbaa
