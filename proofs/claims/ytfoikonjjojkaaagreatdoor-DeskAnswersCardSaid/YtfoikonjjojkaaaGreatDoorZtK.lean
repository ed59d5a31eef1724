/- Parts. -/
import Derived.Shelf.SlIterI.Nil
import Derived.Shelf.SortM.Plain
import Derived.Shelf.SortM.SortNone
import Derived.Ground.GgzProg
import Derived.Ground.SlgmProg
import Derived.Test.YtfoikonjjojkaaaGreatDoorProg
set_option linter.unusedVariables false
set_option maxRecDepth 100000
set_option maxHeartbeats 8000000
open Go.Proofs.Tryz
namespace Go.Proofs.YtfoikonjjojkaaaGreatDoor
open Go.Shelf
def sortA_ren:Go.Shelf.Ren:=⟨fun|5=>219|8=>258|7=>257|19=>284|20=>171|10=>275|11=>276|12=>277|13=>278|14=>279|15=>280|16=>281|17=>282|18=>283|30=>289|31=>290|32=>291|33=>292|34=>293|35=>294|40=>297|n=>n,fun|23=>54|25=>3|3=>3|32=>163|22=>54|0=>0|44=>178|46=>160|4=>4|36=>357|35=>356|41=>53|5=>5|9=>9|53=>366|57=>370|63=>372|64=>130|n=>n,fun|n=>n⟩
theorem sortA:Go.Proofs.SlLaysM.n5 prog sortA_ren:={
  mixed:=by kernel_rfl
  f5:=⟨f219.name,by decide,func219.trans (congrArg some (by kernel_rfl))⟩
  f7:=⟨f257.name,by decide,func257.trans (congrArg some (by kernel_rfl))⟩
  f8:=func258.trans (congrArg some (by kernel_rfl))
  f10:=⟨f275.name,by decide,func275.trans (congrArg some (by kernel_rfl))⟩
  f11:=⟨f276.name,by decide,func276.trans (congrArg some (by kernel_rfl))⟩
  f12:=⟨f277.name,by decide,func277.trans (congrArg some (by kernel_rfl))⟩
  f13:=⟨f278.name,by decide,func278.trans (congrArg some (by kernel_rfl))⟩
  f14:=⟨f279.name,by decide,func279.trans (congrArg some (by kernel_rfl))⟩
  f15:=⟨f280.name,by decide,func280.trans (congrArg some (by kernel_rfl))⟩
  f16:=⟨f281.name,by decide,func281.trans (congrArg some (by kernel_rfl))⟩
  f17:=⟨f282.name,by decide,func282.trans (congrArg some (by kernel_rfl))⟩
  f18:=⟨f283.name,by decide,func283.trans (congrArg some (by kernel_rfl))⟩
  f19:=func284.trans (congrArg some (by kernel_rfl))
  f20:=func171.trans (congrArg some (by kernel_rfl))
  f30:=⟨f289.name,by decide,func289.trans (congrArg some (by kernel_rfl))⟩
  f31:=func290.trans (congrArg some (by kernel_rfl))
  f32:=func291.trans (congrArg some (by kernel_rfl))
  f33:=⟨f292.name,by decide,func292.trans (congrArg some (by kernel_rfl))⟩
  f34:=⟨f293.name,by decide,func293.trans (congrArg some (by kernel_rfl))⟩
  f35:=⟨f294.name,by decide,func294.trans (congrArg some (by kernel_rfl))⟩
  f40:=⟨f297.name,by decide,func297.trans (congrArg some (by kernel_rfl))⟩
  t0:=underlying0
  a0:=isAgg0
  z0:=sizeOf0
  v0:=zeroValue0
  t3:=underlying3
  a3:=isAgg3
  z3:=sizeOf3
  v3:=zeroValue3
  t4:=underlying4
  a4:=isAgg4
  z4:=sizeOf4
  v4:=zeroValue4
  t5:=underlying5
  a5:=isAgg5
  z5:=sizeOf5
  v5:=zeroValue5
  t9:=underlying9
  a9:=isAgg9
  z9:=sizeOf9
  v9:=zeroValue9
  t22:=underlying54
  a22:=isAgg54
  z22:=sizeOf54
  v22:=zeroValue54
  t23:=underlying54
  a23:=isAgg54
  z23:=sizeOf54
  v23:=zeroValue54
  t25:=underlying3
  a25:=isAgg3
  z25:=sizeOf3
  v25:=zeroValue3
  t32:=underlying163
  a32:=isAgg163
  z32:=sizeOf163
  v32:=zeroValue163
  t35:=underlying356
  a35:=isAgg356
  z35:=sizeOf356
  v35:=zeroValue356
  t36:=underlying357
  a36:=isAgg357
  z36:=sizeOf357
  v36:=zeroValue357
  t41:=underlying53
  a41:=isAgg53
  z41:=sizeOf53
  v41:=zeroValue53
  t44:=underlying178
  a44:=isAgg178
  z44:=sizeOf178
  v44:=zeroValue178
  t46:=underlying160
  a46:=isAgg160
  z46:=sizeOf160
  v46:=zeroValue160
  t53:=underlying366
  a53:=isAgg366
  z53:=sizeOf366
  v53:=zeroValue366
  t57:=underlying370
  a57:=isAgg370
  z57:=sizeOf370
  v57:=zeroValue370
  t63:=underlying372
  a63:=isAgg372
  z63:=sizeOf372
  v63:=zeroValue372
  t64:=underlying130
  a64:=isAgg130
  z64:=sizeOf130
  v64:=zeroValue130}
