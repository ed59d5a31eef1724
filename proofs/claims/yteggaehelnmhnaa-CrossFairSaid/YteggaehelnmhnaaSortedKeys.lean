/-
  maps.Keys, slices.Sorted, sort.Ints at ints.
-/
import Derived.WalkKit
import Derived.WalkLawsBesides
import Derived.WalkSpells
import Derived.Shelf.AbstractIn
import Derived.Test.YteggaehelnmhnaaKeysLaid
import Derived.Test.YteggaehelnmhnaaCurveOfW
namespace Go.Proofs.Yteggaehelnmhnaa
open Go.RowKit Go.Maps Go.Sort Go.Shelf Go.Proofs
set_option linter.unusedVariables false

theorem sortsA (m : Nat) : AnyZI.SortsIn Try.prog sortedA_ren Fence.wide m :=
  ⟨fun blk off cap ss W hH hblk hsz => callsIn_wide.2 (AnyM.slices_Sort_int sortA blk off cap ss W hH hblk hsz),
   fun p cap W => callsIn_wide.2 (AnyM.slices_Sort_int_none sortA p cap W)⟩

theorem keys_said : KeysSaid := fun mb W => (callsIn_wide (n := 5)).1 (AnyZI.keys_in keysA Fence.wide 5 trivial rfl mb W)

theorem sorted_said : SortedSaid := by
  intro b nn D g W hown hg hsz
  have hgl := Blk.lt hg
  have hc : W.cell? ⟨g, 0, none⟩ = some (.map (some b)) := by rw [Blk.cell hg]; rfl
  have hseq : SeqGives Fence.wide 2 Try.prog 44 #[.pointer (some ⟨g, 0, none⟩)] encZ (fun ss => ss.Perm (intKeys D)) (Maps.size D) W :=
    AnyZI.keys_gives (ρ := keysA_ren) { keysA with } Fence.wide _ trivial rfl (by omega) g b nn D _ hgl hc hown
  have cS := AnyZI.sorted_in sortedA Fence.wide 5 trivial trivial trivial trivial rfl (by omega) (sortsA _) (enters_of Try.func43 (by kernel_rfl) rfl) 44 #[.pointer (some ⟨g, 0, none⟩)] trivial (enters_of Try.func44 (by kernel_rfl) rfl) _ _ (by unfold maxLen; omega) (by omega) _ hseq
  refine ((callsIn_wide (n := 5)).1 cS).mono ?_
  rintro e w' ⟨v, ss, rfl, hS, hrow, _, hb⟩
  exact ⟨v, ss, rfl, hS, hrow, hb⟩
end Go.Proofs.Yteggaehelnmhnaa
