/-
  No cell of these rows narrows 'for every input' (looked for: loops, veiled, ifaces, maps, wideKeys, modest, calm, conditions, laid).
  DERIVED. THE GIVEN ROWS OF THIS SEAT. 4 by the template 'for every input the law returns true; each argument reads behind the call as it read before'; 0 by the template 'total and deterministic' (their statements: YtaagaamamjabbaaTotals.lean).
  GIVEN WITH THE SEED: the statements are not yours to turn. If you find one false, say at which input.
  Laid BY PROGRAM, IN A SANDBOX (cutbox-rows.mjs): the forced cells as the released guide's own fill.sh prints them over the translation 99222f088cc78b7b… (all of the seat's roots in one cut). By AI agents, Wed Nov 11 2026. No macro, syntax, notation, axiom, sorry.
-/
import Derived.Test.YtaagaamamjabbaaChecked
import GoSem.Claim
import GoSem.ClaimJoined
import GoSem.ClaimMapViews
import Derived.JoinedTies
import Derived.KernelRfl
namespace Go.Proofs.Ytaagaamamjabbaa
/- THE CELL 'sum', in the pinned program and in every row, IS THE sha256 OF THE DUMP (.gsa) THAT YtaagaamamjabbaaProg.lean LOADS. Nothing in Lean hashes anything: it is a label: what it is worth is what the hold of that sum in a sandbox is worth. -/
noncomputable def Try.pinned : Pinned := { name := "ytaagaamamjabbaa", sum := "99222f088cc78b7b3560f11a01823da734f0af8759bac28b75693de3a412bb94", checked := Try.checked }
namespace Rows
def none {H : Type} : Left H := { results := [], args := [] }

/-- 'openbelllaw.CurveChooses': WHATEVER THE INPUT: true; the input reads as it did. -/
def curveChoosesSpec : ChangeSpec := { name := "curveChooses", fn := fun _ => fun
  | [d1, d2] => { results := [.lit (.bool true)], args := [d1, d2] }
  | _ => none }
def curveChoosesRow : OpenClaim := { program := "ytaagaamamjabbaa", sum := "99222f088cc78b7b3560f11a01823da734f0af8759bac28b75693de3a412bb94", func := "openbell/openbelllaw.CurveChooses", spec := "curveChooses", unfollowed := true, recurses := true, apart := false }
def CurveChoosesSaid : Prop := curveChoosesRow.holds Try.pinned (OpenSpec.ofChange curveChoosesSpec)

/-- ITS FALSE NEIGHBOUR: 'it returns false'. Refute it at one input. -/
def curveChoosesWrong : ChangeSpec := { name := "curveChooses", fn := fun _ => fun
  | [d1, d2] => { results := [.lit (.bool false)], args := [d1, d2] }
  | _ => none }
def CurveChoosesWrongFalsely : Prop := curveChoosesRow.holds Try.pinned (OpenSpec.ofChange curveChoosesWrong)

/-- 'openbellkeep.BookGone': WHATEVER THE INPUT: true; the input reads as it did. -/
def bookGoneSpec : ChangeSpec := { name := "bookGone", fn := fun _ => fun
  | [d1, d2, d3] => { results := [.lit (.bool true)], args := [d1, d2, d3] }
  | _ => none }
def bookGoneRow : OpenClaim := { program := "ytaagaamamjabbaa", sum := "99222f088cc78b7b3560f11a01823da734f0af8759bac28b75693de3a412bb94", func := "openbell/openbellkeep.BookGone", spec := "bookGone", inPlace := ["slices.overlaps[openbell/book.queue]"], unfollowed := true, recurses := true, apart := false }
def BookGoneSaid : Prop := bookGoneRow.holds Try.pinned (OpenSpec.ofChange bookGoneSpec)

/-- ITS FALSE NEIGHBOUR: 'it returns false'. Refute it at one input. -/
def bookGoneWrong : ChangeSpec := { name := "bookGone", fn := fun _ => fun
  | [d1, d2, d3] => { results := [.lit (.bool false)], args := [d1, d2, d3] }
  | _ => none }
def BookGoneWrongFalsely : Prop := bookGoneRow.holds Try.pinned (OpenSpec.ofChange bookGoneWrong)

/-- 'openbelllaw.CurveOf': WHATEVER THE INPUT: true; the input reads as it did. -/
def curveOfSpec : ChangeSpec := { name := "curveOf", fn := fun _ => fun
  | [d1, d2] => { results := [.lit (.bool true)], args := [d1, d2] }
  | _ => none }
def curveOfRow : OpenClaim := { program := "ytaagaamamjabbaa", sum := "99222f088cc78b7b3560f11a01823da734f0af8759bac28b75693de3a412bb94", func := "openbell/openbelllaw.CurveOf", spec := "curveOf", unfollowed := true, recurses := true, apart := false }
def CurveOfSaid : Prop := curveOfRow.holds Try.pinned (OpenSpec.ofChange curveOfSpec)

/-- ITS FALSE NEIGHBOUR: 'it returns false'. Refute it at one input. -/
def curveOfWrong : ChangeSpec := { name := "curveOf", fn := fun _ => fun
  | [d1, d2] => { results := [.lit (.bool false)], args := [d1, d2] }
  | _ => none }
def CurveOfWrongFalsely : Prop := curveOfRow.holds Try.pinned (OpenSpec.ofChange curveOfWrong)

/-- 'openbellkeep.CurveBest': WHATEVER THE INPUT: true; the input reads as it did. -/
def curveBestSpec : ChangeSpec := { name := "curveBest", fn := fun _ => fun
  | [d1, d2] => { results := [.lit (.bool true)], args := [d1, d2] }
  | _ => none }
def curveBestRow : OpenClaim := { program := "ytaagaamamjabbaa", sum := "99222f088cc78b7b3560f11a01823da734f0af8759bac28b75693de3a412bb94", func := "openbell/openbellkeep.CurveBest", spec := "curveBest", unfollowed := true, recurses := true, apart := false }
def CurveBestSaid : Prop := curveBestRow.holds Try.pinned (OpenSpec.ofChange curveBestSpec)

/-- ITS FALSE NEIGHBOUR: 'it returns false'. Refute it at one input. -/
def curveBestWrong : ChangeSpec := { name := "curveBest", fn := fun _ => fun
  | [d1, d2] => { results := [.lit (.bool false)], args := [d1, d2] }
  | _ => none }
def CurveBestWrongFalsely : Prop := curveBestRow.holds Try.pinned (OpenSpec.ofChange curveBestWrong)

/- THE SECOND FORM. 'bulk': how many values and letters a reading holds, each counted each time it is reached (what is shared counts as often as it is met; a slice's spare places count too). A statement '..UptoSaid' is the law's where the arguments, and the package variables that the reading takes, are together of bulk at most 1048576: NARROWER than '..Said'. Prove '..Said' where nothing that the law and all that it calls make is longer than what came in: it says more and counts as full. Else prove '..UptoSaid'. A law counts once. -/
mutual
def uptoBulk {H : Type} : DataW H → Nat
  | .lit (.string bytes) => bytes.length + 1
  | .lit _ => 1
  | .nil => 1
  | .ptr d => uptoBulk d + 1
  | .slice elems spare => uptoBulkAll elems + uptoBulkAll spare + 1
  | .agg parts => uptoBulkAll parts + 1
  | .iface _ d => uptoBulk d + 1
  | .map entries => uptoBulkEntries entries + 1
  | .held _ => 1
def uptoBulkAll {H : Type} : List (DataW H) → Nat
  | [] => 0
  | d :: r => uptoBulk d + uptoBulkAll r
def uptoBulkEntries {H : Type} : List (Lit × DataW H) → Nat
  | [] => 0
  | x :: r => uptoBulkEntry x + uptoBulkEntries r
def uptoBulkEntry {H : Type} : Lit × DataW H → Nat
  | (.string bytes, d) => bytes.length + uptoBulk d + 1
  | (_, d) => uptoBulk d + 1
 end
def uptoSmall : (H : Type) → List (DataW H) → Bool := fun _ ds => decide (uptoBulkAll ds ≤ 1048576)
def OpenSpec.upto (s : _root_.Go.ChangeSpec) : _root_.Go.OpenSpec := { _root_.Go.OpenSpec.ofChange s with cond := some uptoSmall }

/-- 'openbelllaw.CurveChooses', WHERE WHAT IT READS IS OF BULK AT MOST 1048576: true; the input reads as it did. -/
def curveChoosesUptoRow : OpenClaim := { program := "ytaagaamamjabbaa", sum := "99222f088cc78b7b3560f11a01823da734f0af8759bac28b75693de3a412bb94", func := "openbell/openbelllaw.CurveChooses", spec := "curveChooses", unfollowed := true, recurses := true, apart := false, narrowed := true }
def CurveChoosesUptoSaid : Prop := curveChoosesUptoRow.holds Try.pinned (OpenSpec.upto curveChoosesSpec)

/-- 'openbellkeep.BookGone', WHERE WHAT IT READS IS OF BULK AT MOST 1048576: true; the input reads as it did. -/
def bookGoneUptoRow : OpenClaim := { program := "ytaagaamamjabbaa", sum := "99222f088cc78b7b3560f11a01823da734f0af8759bac28b75693de3a412bb94", func := "openbell/openbellkeep.BookGone", spec := "bookGone", inPlace := ["slices.overlaps[openbell/book.queue]"], unfollowed := true, recurses := true, apart := false, narrowed := true }
def BookGoneUptoSaid : Prop := bookGoneUptoRow.holds Try.pinned (OpenSpec.upto bookGoneSpec)

/-- 'openbelllaw.CurveOf', WHERE WHAT IT READS IS OF BULK AT MOST 1048576: true; the input reads as it did. -/
def curveOfUptoRow : OpenClaim := { program := "ytaagaamamjabbaa", sum := "99222f088cc78b7b3560f11a01823da734f0af8759bac28b75693de3a412bb94", func := "openbell/openbelllaw.CurveOf", spec := "curveOf", unfollowed := true, recurses := true, apart := false, narrowed := true }
def CurveOfUptoSaid : Prop := curveOfUptoRow.holds Try.pinned (OpenSpec.upto curveOfSpec)

/-- 'openbellkeep.CurveBest', WHERE WHAT IT READS IS OF BULK AT MOST 1048576: true; the input reads as it did. -/
def curveBestUptoRow : OpenClaim := { program := "ytaagaamamjabbaa", sum := "99222f088cc78b7b3560f11a01823da734f0af8759bac28b75693de3a412bb94", func := "openbell/openbellkeep.CurveBest", spec := "curveBest", unfollowed := true, recurses := true, apart := false, narrowed := true }
def CurveBestUptoSaid : Prop := curveBestUptoRow.holds Try.pinned (OpenSpec.upto curveBestSpec)

end Rows
end Go.Proofs.Ytaagaamamjabbaa
