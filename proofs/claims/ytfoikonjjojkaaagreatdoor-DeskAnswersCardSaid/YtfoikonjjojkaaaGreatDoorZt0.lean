/- Parts. -/
import Derived.WalkKit
import Derived.Maps.OwnSet
import Derived.WalkLawsBesides
import Derived.WalkSpells
import Derived.Below
import Derived.Deep.Draws
import Derived.Deep.Slices
import Derived.Deep.Fields
import Derived.ChangeSame
import Derived.OpenShut
import Derived.Laws.Rows
import Derived.Laws.OwnMore
import Derived.Deep.AppendLies
import Derived.Lib.SliceRun
import Derived.Test.YtfoikonjjojkaaaGreatDoorRows
import Derived.OrdersHeld
import Derived.StillTail
import Derived.RegionTactic
import Derived.Lib.SlKeysI
import Derived.Deep.QuietTactic
import Derived.BigQuiet
import Derived.Deep.LoopGhost
import Derived.Deep.RegionHeld3
import Derived.Deep.DeepCutAuto
import Derived.Deep.CutBlock
import Derived.Shelf.Abstract
import Derived.Laws.ResultCell
import Derived.Laws.EntriesVeiled
import Derived.Deep.DrawnRows
import Derived.Deep.RegionLaw
import Derived.Laws.CopyRow
import Derived.Laws.CopyOwn
import Derived.Lib.AppendZerosOnto
import Derived.Lib.JoinLaws
import Derived.Lib.Overlaps
import Derived.LaidEql
import Derived.Stop.Asserts
import Derived.RowKitTokens
import Derived.Maps.AppendAt
import Derived.Deep.AppendSrc
import Derived.Laws.Externs
import Derived.Laws.NewBlocks
import Derived.WalkSmall
import Derived.Lib.SmallJoins
import Derived.Shelf.Strings.Prefix
import Derived.Shelf.Strings.Search3
import Derived.Shelf.Strings.FieldsFuncAny
import Derived.Shelf.Strings.OnBuilder
import Derived.Shelf.Strings.BuilderK
import Derived.Shelf.Strconv.Itoa3
import Derived.Shelf.Strconv.ErrVarAll
import Derived.Test.YtfoikonjjojkaaaGreatDoorDeskLaid
import Derived.ChangeVars
import Derived.JoinedOf
import Derived.RowKit
import Derived.LaidLaws
import Derived.LaidHandle
import Derived.Stop.Joined
import Derived.Lib.LaidTab
import Derived.Deep.DeepLaidRun
import Derived.Laws.Tables
import Derived.Deep.RegionWith
import Derived.BigRegion
import Derived.BigGuard
import Derived.Lib.ReflectliteSlice
import Derived.Lib.ReflectliteSwap
import Derived.StillTailTactics
import Derived.RangeFuncNested
import Derived.RangeFuncBound
import Derived.RangeFuncCalls
import Derived.RangeFuncLeaves
import Derived.Shelf.RegionOpen
import Derived.OwnWalkIn
import Derived.TacticsInMore
import Derived.LoopNIn
import Derived.LoopIn
import Derived.Stop.RegionWithIn
import Derived.Sort.LoopGhostIn
import Derived.Sort.CutIn
import Derived.Sort.QuietTacIn
import Derived.Sort.BigQuietIn
import Derived.Maps.Own
import Derived.RangeFuncBox
import Derived.Lib.AtoiAll
import Derived.Lib.ItoaNum
import Derived.Lib.Join
import Derived.Lib.FieldsP
import Derived.Lib.Strings
import Derived.Lib.ItoaLen
import Derived.Lib.SplitLaws
import Derived.Lib.SpaceUEq
import Derived.Lib.FrozenHead
import Derived.Defers
import Derived.Recover
import Derived.Shelf.Strings.Split
import Derived.Shelf.Strconv.ErrVarParseInt
import Derived.Shelf.Strconv.Itoa4
import Derived.Lib.ParseIntBTie
import Derived.Test.YtfoikonjjojkaaaGreatDoorRDeskLaid
import Derived.Sort.OwnSortedInts
import Derived.Shelf.Strings.Fields
import Derived.HandedShaped
import Derived.Shelf.Vars
import Derived.Test.YtfoikonjjojkaaaGreatDoorCards
import Derived.Test.YtfoikonjjojkaaaGreatDoorTie
import Derived.ProofKit
import Derived.SizedLaws
import Derived.ChangeMaps5
import Derived.ChangeOld
import Derived.SevenTiedAt
set_option linter.unusedVariables false
set_option maxRecDepth 100000
set_option maxHeartbeats 8000000
namespace Go.Proofs.YtfoikonjjojkaaaGreatDoor
section
open Go Go.RowKit
abbrev aD (b i:Nat):Addr:=⟨b,i,none⟩
abbrev sA (b:Nat):Option Addr:=some ⟨b,0,none⟩
abbrev pA (b:Nat):Value:=.pointer (some ⟨b,0,none⟩)
abbrev zS (w:World):Nat:=w.heap.size
abbrev Bz (w w':World):Prop:=Below w.heap.size w w'
theorem exq {α : Sort _} (a : α) : ∃ x, a = x := ⟨a, rfl⟩
theorem exr {α : Sort _} (a : α) : ∃ x, x = a := ⟨a, rfl⟩
abbrev J8:=@if_neg
abbrev J9:=@Go.RowKit.Below.refl
abbrev X0:=@if_pos
abbrev X3:=@Nat.le_refl
abbrev Z2:=@Go.RowKit.Below.drew
abbrev U4:=@Nat.le_trans
abbrev U5:=@Go.World.block_lt_of_cell?
abbrev U9:=@Nat.zero_le
abbrev Y4:=@List.mem_map
abbrev B6:=@List.length_append
abbrev B8:=@List.mem_append
abbrev C5:=@congrArg
abbrev C7:=@List.getElem_mem
abbrev D0:=@Nat.lt_of_lt_of_le
abbrev H8:=@List.mem_cons
abbrev L6:=@List.map_append
abbrev M4:=@List.take_of_length_le
abbrev M9:=@List.take_succ_eq_append_getElem
abbrev P9:=@List.take_append_drop
abbrev R0:=@Go.Proofs.enters_of
abbrev R7:=@List.length_take
abbrev S4:=@List.mem_filter
abbrev T2:=@List.map_cons
abbrev T3:=@Int.le_refl
abbrev T9:=@List.mem_append_left
abbrev W7:=@Go.World.cell?_alloc_lt
abbrev W8:=@Go.info_parts
abbrev QY:=@Go.World.ownsRow_nil
abbrev QA:=@Go.bodyPost_ret
abbrev QN:=@Go.heap_alloc_new
abbrev JJ:=@List.mem_append_right
abbrev JY:=@List.getElem?_eq_getElem
abbrev JA:=@List.length_cons
abbrev JE:=@List.filter_append
abbrev JF:=@List.foldl_cons
abbrev XF:=@Go.World.news_of_block
abbrev XG:=@Option.some.inj
abbrev XH:=@List.length_set
abbrev KC:=@Nat.zero_add
abbrev KD:=@Go.Lib.size_eq
abbrev KL:=@Iff.rfl
abbrev ZX:=@List.mem_iff_getElem
abbrev VZ:=@Go.wpList_append_lies
abbrev VS:=@List.mem_cons_of_mem
abbrev VT:=@List.filter_eq_self
abbrev VW:=@List.append_assoc
abbrev UQ:=@List.length_drop
abbrev UJ:=@List.length_map
abbrev UX:=@List.nodup_cons
abbrev UL:=@List.getElem?_set_ne
abbrev UM:=@List.map_congr_left
abbrev UN:=@List.mem_singleton
abbrev YV:=@Go.results_none
abbrev YR:=@Go.IntKind.wrap_i64
abbrev YS:=@List.sum_cons
abbrev YT:=@List.map_map
abbrev AD:=@Array.getElem?_setIfInBounds_ne
abbrev BE:=@List.nodup_append
abbrev BF:=@List.append_nil
abbrev CZ:=@List.drop_eq_getElem_cons
abbrev CV:=@List.mem_of_mem_take
abbrev CB:=@Nat.le_of_eq
abbrev DX:=@Array.size_setIfInBounds
abbrev DK:=@Go.World.putObj_heap_other
abbrev DZ:=@List.pairwise_append
abbrev DV:=@List.cons_append
abbrev DU:=@Go.callsIn_wide
abbrev DY:=@Go.wp_store_row
abbrev DA:=@Go.results_tmp
abbrev EB:=@List.eq_nil_of_length_eq_zero
abbrev EC:=@Array.getElem?_eq_some_iff
abbrev ED:=@List.filter_cons_of_neg
abbrev EE:=@List.nil_append
abbrev EF:=@Go.bodyPost_end
abbrev FP:=@List.mem_of_mem_drop
abbrev FR:=@List.mem_cons_self
abbrev FS:=@List.foldl_append
abbrev FT:=@Nat.lt_or_ge
abbrev GG:=@List.pairwise_iff_getElem
abbrev GH:=@List.drop_eq_nil_of_le
abbrev GL:=@List.getElem?_eq_none
abbrev GM:=@Nat.mul_le_mul_right
abbrev GN:=@List.find?_eq_none
abbrev GP:=@List.getElem?_map
abbrev GR:=@decide_eq_true
abbrev LS:=@List.takeWhile_append_dropWhile
abbrev LW:=@Go.World.ownsRow.alloc
abbrev MQ:=@List.getElem_take
abbrev MX:=@Nat.succ_mul
abbrev NE:=@List.mem_of_find?_eq_some
abbrev NF:=@List.length_filter_le
abbrev NG:=@Nat.lt_irrefl
abbrev NH:=@Int.le_trans
abbrev NL:=@Int.add_zero
abbrev NS:=@Go.rounds_succ
abbrev RJ:=@List.mem_or_eq_of_mem_set
abbrev RX:=@List.filter_cons_of_pos
abbrev RZ:=@List.length_pos_iff
abbrev RV:=@List.pairwise_cons
abbrev RU:=@List.mem_flatMap
abbrev RY:=@List.all_eq_true
abbrev RE:=@Go.ready_mono
abbrev RH:=@Go.mem_ready
abbrev SH:=@List.filterMap_cons_some
abbrev SL:=@List.getElem_set_self
abbrev SN:=@List.length_singleton
abbrev SR:=@Go.World.cell?_of_block
abbrev SS:=@Nat.lt_or_eq_of_le
abbrev SW:=@Nat.min_eq_left
abbrev TJ:=@List.nodup_nil
abbrev TX:=@Int.le_of_lt
abbrev WC:=@List.pairwise_singleton
abbrev WD:=@List.getElem_set_ne
abbrev WE:=@Go.results_cell_row
abbrev WG:=@decide_eq_false
abbrev WH:=@Go.Oper.semAt_some
abbrev Jr:=@Array.getElem?_setIfInBounds_self_of_lt
abbrev Js:=@List.take_append_of_le_length
abbrev Jt:=@List.getElem?_append_right
abbrev Ju:=@List.getElem?_eq_some_iff
abbrev Jv:=@Go.World.cell?_setCell_same
abbrev Jw:=@List.filterMap_cons_none
abbrev Jy:=@List.pairwise_mergeSort
abbrev Jz:=@Go.World.frozen?_alloc_old
abbrev Xa:=@beq_eq_false_iff_ne
abbrev Xb:=@List.take_set_of_le
abbrev Xc:=@Go.Calls.quiet_of_same
abbrev Xd:=@Go.KeepsOthers.setCell
abbrev Xe:=@List.Nodup.sublist
abbrev Xf:=@Go.RowKit.Below.heap_setCell
abbrev Xg:=@List.getElem?_drop
abbrev Xh:=@List.mem_filterMap
abbrev Xi:=@Go.Lib.itoa_length_le
abbrev Xj:=@List.getElem_drop
abbrev Xk:=@List.pairwise_map
abbrev Xl:=@Go.World.size_alloc
abbrev Xn:=@List.filter_map
abbrev Xo:=@List.find?_some
abbrev Xp:=@Go.wp_loop_rounds
abbrev Xq:=@List.Perm.refl
abbrev Xr:=@List.drop_drop
abbrev Xs:=@List.drop_zero
abbrev Va:=@List.length_eq_zero_iff
abbrev Vb:=@List.getElem?_set_self
abbrev Vc:=@Go.Lib.run_eql_slice_nil
abbrev Vd:=@List.set_append_right
abbrev Ve:=@List.mem_of_getElem?
abbrev Vf:=@List.flatMap_append
abbrev Vg:=@List.any_eq_false
abbrev Vh:=@List.ext_getElem?
abbrev Vi:=@List.drop_sublist
abbrev Vj:=@List.any_eq_true
abbrev Vk:=@List.perm_middle
abbrev Vl:=@Go.run_loadVar_row
abbrev Vm:=@Bool.eq_iff_iff
abbrev Vn:=@List.sum_append
abbrev Aj:=@List.Perm.eq_of_pairwise
abbrev Ak:=@List.eq_nil_or_concat
abbrev Am:=@List.concat_eq_append
abbrev An:=@List.Pairwise.sublist
abbrev Ao:=@Go.Region.noSelect_spec
abbrev Aq:=@List.mergeSort_perm
abbrev Ar:=@List.drop_set_of_lt
abbrev As:=@Go.run_callFunc_extern
abbrev At:=@List.filter_sublist
abbrev Au:=@List.Sublist.append
abbrev Av:=@Go.callsIn_of_wp_marks
abbrev Aw:=@List.set_cons_succ
abbrev Ax:=@List.set_cons_zero
abbrev Ay:=@List.getElem?_take
abbrev Az:=@List.filter_filter
abbrev Gj:=@List.getD_eq_getElem?_getD
theorem Q0 {P:Prop}(h:P:=by omega):P:=h
theorem Q1 {P:Prop}(h:P:=by decide):P:=h
theorem Q2 {a:Nat}:a≤a:=Nat.le_refl a
theorem Q3 {P:Prop}(h:P:=by simp):P:=h
theorem Q4 {P:Prop}(h:P:=by kernel_rfl):P:=h
theorem Q5 {B:Nat}{w:World}:Below B w w:=Below.refl B w
theorem Q6 {P:Prop}(h:P:=by with_unfolding_all rfl):P:=h
theorem Q7 {P:Prop}(h:P:=by simp; omega):P:=h
theorem Q8 {P:Prop}(h:P:=by rfl):P:=h
theorem Q9 {P:Prop}(h:P:=by unfold maxLen; omega):P:=h
theorem J0 {P:Prop}(h:P:=by simp [Value.oneCell']):P:=h
theorem J1 {P:Prop}(h:P:=by assumption):P:=h
theorem J2 {P:Prop}(h:P:=by unfold Fit64; omega):P:=h
theorem J3 {P:Prop}(h:P:=by simp [Act.eval, Act.put]):P:=h
theorem J4 {P:Prop}(h:P:=by simp only [Nat.min_def]; split <;> omega):P:=h
theorem J5 {P:Prop}(h:P:=by go_num):P:=h
theorem Xt6 {P0 P1:Prop}(p0:P0)(p1:P1):RowKit.Hid P0∧RowKit.Hid P1:=⟨p0,p1⟩
theorem Xt7 {P0 P1 P2:Prop}(p0:P0)(p1:P1)(p2:P2):RowKit.Hid P0∧RowKit.Hid P1∧RowKit.Hid P2:=⟨p0,p1,p2⟩
theorem Xt8 {P0 P1 P2 P3:Prop}(p0:P0)(p1:P1)(p2:P2)(p3:P3):RowKit.Hid P0∧RowKit.Hid P1∧RowKit.Hid P2∧RowKit.Hid P3:=⟨p0,p1,p2,p3⟩
theorem Xt9 {P0 P1 P2 P3 P4:Prop}(p0:P0)(p1:P1)(p2:P2)(p3:P3)(p4:P4):RowKit.Hid P0∧RowKit.Hid P1∧RowKit.Hid P2∧RowKit.Hid P3∧RowKit.Hid P4:=⟨p0,p1,p2,p3,p4⟩
theorem Xu0 {P0 P1 P2 P3 P4 P5:Prop}(p0:P0)(p1:P1)(p2:P2)(p3:P3)(p4:P4)(p5:P5):RowKit.Hid P0∧RowKit.Hid P1∧RowKit.Hid P2∧RowKit.Hid P3∧RowKit.Hid P4∧RowKit.Hid P5:=⟨p0,p1,p2,p3,p4,p5⟩
theorem Xu1 {P0 P1 P2 P3 P4 P5 P6:Prop}(p0:P0)(p1:P1)(p2:P2)(p3:P3)(p4:P4)(p5:P5)(p6:P6):RowKit.Hid P0∧RowKit.Hid P1∧RowKit.Hid P2∧RowKit.Hid P3∧RowKit.Hid P4∧RowKit.Hid P5∧RowKit.Hid P6:=⟨p0,p1,p2,p3,p4,p5,p6⟩
theorem Xu2 {P0 P1 P2 P3 P4 P5 P6 P7:Prop}(p0:P0)(p1:P1)(p2:P2)(p3:P3)(p4:P4)(p5:P5)(p6:P6)(p7:P7):RowKit.Hid P0∧RowKit.Hid P1∧RowKit.Hid P2∧RowKit.Hid P3∧RowKit.Hid P4∧RowKit.Hid P5∧RowKit.Hid P6∧RowKit.Hid P7:=⟨p0,p1,p2,p3,p4,p5,p6,p7⟩
