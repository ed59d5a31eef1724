/-
  No cell of these rows narrows 'for every input' (looked for: loops, veiled, ifaces, maps, wideKeys, modest, calm, conditions, laid).
  DERIVED. THE GIVEN ROWS OF THIS SEAT. 5 by the template 'for every input the law returns true; each argument reads behind the call as it read before'; 0 by the template 'total and deterministic' (their statements: YtakbedckjaammaaTotals.lean).
  GIVEN WITH THE SEED: the statements are not yours to turn. If you find one false, say at which input.
  Laid BY PROGRAM, IN A SANDBOX (cutbox-rows.mjs): the forced cells as the released guide's own fill.sh prints them over the translation e7b84c8c282e20e0… (all of the seat's roots in one cut). By AI agents, Wed Nov 11 2026. No macro, syntax, notation, axiom, sorry.
-/
import Derived.Test.YtakbedckjaammaaChecked
import GoSem.Claim
import GoSem.ClaimJoined
import GoSem.ClaimMapViews
import Derived.JoinedTies
import Derived.KernelRfl
namespace Go.Proofs.Ytakbedckjaammaa
/- THE CELL 'sum', in the pinned program and in every row, IS THE sha256 OF THE DUMP (.gsa) THAT YtakbedckjaammaaProg.lean LOADS. Nothing in Lean hashes anything: it is a label: what it is worth is what the hold of that sum in a sandbox is worth. -/
noncomputable def Try.pinned : Pinned := { name := "ytakbedckjaammaa", sum := "e7b84c8c282e20e0fb27bb44c50708d4b13bcca59d664b37bbd62cd7afca10fa", checked := Try.checked }
namespace Rows
def none {H : Type} : Left H := { results := [], args := [] }

/-- 'openbellkeep.NumWider': WHATEVER THE INPUT: true; the input reads as it did. -/
def numWiderSpec : ChangeSpec := { name := "numWider", fn := fun _ => fun
  | [d1, d2, d3] => { results := [.lit (.bool true)], args := [d1, d2, d3] }
  | _ => none }
def numWiderRow : OpenClaim := { program := "ytakbedckjaammaa", sum := "e7b84c8c282e20e0fb27bb44c50708d4b13bcca59d664b37bbd62cd7afca10fa", func := "openbell/openbellkeep.NumWider", spec := "numWider", apart := false }
def NumWiderSaid : Prop := numWiderRow.holds Try.pinned (OpenSpec.ofChange numWiderSpec)

/-- ITS FALSE NEIGHBOUR: 'it returns false'. Refute it at one input. -/
def numWiderWrong : ChangeSpec := { name := "numWider", fn := fun _ => fun
  | [d1, d2, d3] => { results := [.lit (.bool false)], args := [d1, d2, d3] }
  | _ => none }
def NumWiderWrongFalsely : Prop := numWiderRow.holds Try.pinned (OpenSpec.ofChange numWiderWrong)

/-- 'openbelllaw.CalendarTakes': WHATEVER THE INPUT: true; the input reads as it did. -/
def calendarTakesSpec : ChangeSpec := { name := "calendarTakes", fn := fun _ => fun
  | [d1, d2] => { results := [.lit (.bool true)], args := [d1, d2] }
  | _ => none }
def calendarTakesRow : OpenClaim := { program := "ytakbedckjaammaa", sum := "e7b84c8c282e20e0fb27bb44c50708d4b13bcca59d664b37bbd62cd7afca10fa", func := "openbell/openbelllaw.CalendarTakes", spec := "calendarTakes", apart := false }
def CalendarTakesSaid : Prop := calendarTakesRow.holds Try.pinned (OpenSpec.ofChange calendarTakesSpec)

/-- ITS FALSE NEIGHBOUR: 'it returns false'. Refute it at one input. -/
def calendarTakesWrong : ChangeSpec := { name := "calendarTakes", fn := fun _ => fun
  | [d1, d2] => { results := [.lit (.bool false)], args := [d1, d2] }
  | _ => none }
def CalendarTakesWrongFalsely : Prop := calendarTakesRow.holds Try.pinned (OpenSpec.ofChange calendarTakesWrong)

/-- 'openbellkeep.CalendarOnce': WHATEVER THE INPUT: true; the input reads as it did. -/
def calendarOnceSpec : ChangeSpec := { name := "calendarOnce", fn := fun _ => fun
  | [d1, d2, d3] => { results := [.lit (.bool true)], args := [d1, d2, d3] }
  | _ => none }
def calendarOnceRow : OpenClaim := { program := "ytakbedckjaammaa", sum := "e7b84c8c282e20e0fb27bb44c50708d4b13bcca59d664b37bbd62cd7afca10fa", func := "openbell/openbellkeep.CalendarOnce", spec := "calendarOnce", apart := false }
def CalendarOnceSaid : Prop := calendarOnceRow.holds Try.pinned (OpenSpec.ofChange calendarOnceSpec)

/-- ITS FALSE NEIGHBOUR: 'it returns false'. Refute it at one input. -/
def calendarOnceWrong : ChangeSpec := { name := "calendarOnce", fn := fun _ => fun
  | [d1, d2, d3] => { results := [.lit (.bool false)], args := [d1, d2, d3] }
  | _ => none }
def CalendarOnceWrongFalsely : Prop := calendarOnceRow.holds Try.pinned (OpenSpec.ofChange calendarOnceWrong)

/-- 'openbelllaw.CurveChooses': WHATEVER THE INPUT: true; the input reads as it did. -/
def curveChoosesSpec : ChangeSpec := { name := "curveChooses", fn := fun _ => fun
  | [d1, d2] => { results := [.lit (.bool true)], args := [d1, d2] }
  | _ => none }
def curveChoosesRow : OpenClaim := { program := "ytakbedckjaammaa", sum := "e7b84c8c282e20e0fb27bb44c50708d4b13bcca59d664b37bbd62cd7afca10fa", func := "openbell/openbelllaw.CurveChooses", spec := "curveChooses", unfollowed := true, recurses := true, apart := false }
def CurveChoosesSaid : Prop := curveChoosesRow.holds Try.pinned (OpenSpec.ofChange curveChoosesSpec)

/-- ITS FALSE NEIGHBOUR: 'it returns false'. Refute it at one input. -/
def curveChoosesWrong : ChangeSpec := { name := "curveChooses", fn := fun _ => fun
  | [d1, d2] => { results := [.lit (.bool false)], args := [d1, d2] }
  | _ => none }
def CurveChoosesWrongFalsely : Prop := curveChoosesRow.holds Try.pinned (OpenSpec.ofChange curveChoosesWrong)

/-- 'openbellkeep.BookGone': WHATEVER THE INPUT: true; the input reads as it did. -/
def bookGoneSpec : ChangeSpec := { name := "bookGone", fn := fun _ => fun
  | [d1, d2, d3] => { results := [.lit (.bool true)], args := [d1, d2, d3] }
  | _ => none }
def bookGoneRow : OpenClaim := { program := "ytakbedckjaammaa", sum := "e7b84c8c282e20e0fb27bb44c50708d4b13bcca59d664b37bbd62cd7afca10fa", func := "openbell/openbellkeep.BookGone", spec := "bookGone", inPlace := ["slices.overlaps[openbell/book.queue]"], unfollowed := true, recurses := true, apart := false }
def BookGoneSaid : Prop := bookGoneRow.holds Try.pinned (OpenSpec.ofChange bookGoneSpec)

/-- ITS FALSE NEIGHBOUR: 'it returns false'. Refute it at one input. -/
def bookGoneWrong : ChangeSpec := { name := "bookGone", fn := fun _ => fun
  | [d1, d2, d3] => { results := [.lit (.bool false)], args := [d1, d2, d3] }
  | _ => none }
def BookGoneWrongFalsely : Prop := bookGoneRow.holds Try.pinned (OpenSpec.ofChange bookGoneWrong)

/- THE SECOND FORM. 'bulk': how many values and letters a reading holds, each counted each time it is reached (what is shared counts as often as it is met; a slice's spare places count too). A statement '..UptoSaid' is the law's where the arguments, and the package variables that the reading takes, are together of bulk at most 1048576: NARROWER than '..Said'. Prove '..Said' where nothing that the law and all that it calls make is longer than what came in: it says more and counts as full. Else prove '..UptoSaid'. A law counts once. -/
mutual
def uptoBulk {H : Type} : DataW H → Nat
  | .lit (.string bytes) => bytes.length + 1
  | .lit _ => 1
  | .nil => 1
  | .ptr d => uptoBulk d + 1
  | .slice elems spare => uptoBulkAll elems + uptoBulkAll spare + 1
  | .agg parts => uptoBulkAll parts + 1
  | .iface _ d => uptoBulk d + 1
  | .map entries => uptoBulkEntries entries + 1
  | .held _ => 1
def uptoBulkAll {H : Type} : List (DataW H) → Nat
  | [] => 0
  | d :: r => uptoBulk d + uptoBulkAll r
def uptoBulkEntries {H : Type} : List (Lit × DataW H) → Nat
  | [] => 0
  | x :: r => uptoBulkEntry x + uptoBulkEntries r
def uptoBulkEntry {H : Type} : Lit × DataW H → Nat
  | (.string bytes, d) => bytes.length + uptoBulk d + 1
  | (_, d) => uptoBulk d + 1
 end
def uptoSmall : (H : Type) → List (DataW H) → Bool := fun _ ds => decide (uptoBulkAll ds ≤ 1048576)
def OpenSpec.upto (s : _root_.Go.ChangeSpec) : _root_.Go.OpenSpec := { _root_.Go.OpenSpec.ofChange s with cond := some uptoSmall }

/-- 'openbellkeep.NumWider', WHERE WHAT IT READS IS OF BULK AT MOST 1048576: true; the input reads as it did. -/
def numWiderUptoRow : OpenClaim := { program := "ytakbedckjaammaa", sum := "e7b84c8c282e20e0fb27bb44c50708d4b13bcca59d664b37bbd62cd7afca10fa", func := "openbell/openbellkeep.NumWider", spec := "numWider", apart := false, narrowed := true }
def NumWiderUptoSaid : Prop := numWiderUptoRow.holds Try.pinned (OpenSpec.upto numWiderSpec)

/-- 'openbelllaw.CalendarTakes', WHERE WHAT IT READS IS OF BULK AT MOST 1048576: true; the input reads as it did. -/
def calendarTakesUptoRow : OpenClaim := { program := "ytakbedckjaammaa", sum := "e7b84c8c282e20e0fb27bb44c50708d4b13bcca59d664b37bbd62cd7afca10fa", func := "openbell/openbelllaw.CalendarTakes", spec := "calendarTakes", apart := false, narrowed := true }
def CalendarTakesUptoSaid : Prop := calendarTakesUptoRow.holds Try.pinned (OpenSpec.upto calendarTakesSpec)

/-- 'openbellkeep.CalendarOnce', WHERE WHAT IT READS IS OF BULK AT MOST 1048576: true; the input reads as it did. -/
def calendarOnceUptoRow : OpenClaim := { program := "ytakbedckjaammaa", sum := "e7b84c8c282e20e0fb27bb44c50708d4b13bcca59d664b37bbd62cd7afca10fa", func := "openbell/openbellkeep.CalendarOnce", spec := "calendarOnce", apart := false, narrowed := true }
def CalendarOnceUptoSaid : Prop := calendarOnceUptoRow.holds Try.pinned (OpenSpec.upto calendarOnceSpec)

/-- 'openbelllaw.CurveChooses', WHERE WHAT IT READS IS OF BULK AT MOST 1048576: true; the input reads as it did. -/
def curveChoosesUptoRow : OpenClaim := { program := "ytakbedckjaammaa", sum := "e7b84c8c282e20e0fb27bb44c50708d4b13bcca59d664b37bbd62cd7afca10fa", func := "openbell/openbelllaw.CurveChooses", spec := "curveChooses", unfollowed := true, recurses := true, apart := false, narrowed := true }
def CurveChoosesUptoSaid : Prop := curveChoosesUptoRow.holds Try.pinned (OpenSpec.upto curveChoosesSpec)

/-- 'openbellkeep.BookGone', WHERE WHAT IT READS IS OF BULK AT MOST 1048576: true; the input reads as it did. -/
def bookGoneUptoRow : OpenClaim := { program := "ytakbedckjaammaa", sum := "e7b84c8c282e20e0fb27bb44c50708d4b13bcca59d664b37bbd62cd7afca10fa", func := "openbell/openbellkeep.BookGone", spec := "bookGone", inPlace := ["slices.overlaps[openbell/book.queue]"], unfollowed := true, recurses := true, apart := false, narrowed := true }
def BookGoneUptoSaid : Prop := bookGoneUptoRow.holds Try.pinned (OpenSpec.upto bookGoneSpec)

end Rows
end Go.Proofs.Ytakbedckjaammaa
