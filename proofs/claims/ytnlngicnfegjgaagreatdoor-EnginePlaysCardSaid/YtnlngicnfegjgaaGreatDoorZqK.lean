/- Parts. -/
import Derived.Shelf.SlIterI.Nil
import Derived.Shelf.SortM.Plain
import Derived.Shelf.SortM.SortNone
import Derived.Ground.GgzProg
import Derived.Ground.SlgmProg
import Derived.Test.YtnlngicnfegjgaaGreatDoorProg
set_option linter.unusedVariables false
set_option maxRecDepth 100000
set_option maxHeartbeats 8000000
open Go.Proofs.Tryz
namespace Go.Proofs.YtnlngicnfegjgaaGreatDoor
open Go.Shelf
def sortA_ren:Go.Shelf.Ren:=⟨fun|5=>182|8=>189|7=>188|19=>202|20=>203|10=>193|11=>194|12=>195|13=>196|14=>197|15=>198|16=>199|17=>200|18=>201|30=>205|31=>206|32=>207|33=>208|34=>209|35=>210|40=>211|n=>n,fun|23=>22|25=>3|3=>3|32=>141|22=>22|0=>0|44=>280|46=>282|4=>4|36=>274|35=>273|41=>211|5=>5|9=>9|53=>284|57=>288|63=>290|64=>76|n=>n,fun|n=>n⟩
theorem sortA:Go.Proofs.SlLaysM.n5 prog sortA_ren:= {
  mixed:=by kernel_rfl
  f5:=⟨f182.name,by decide,func182.trans (congrArg some (by kernel_rfl))⟩
  f7:=⟨f188.name,by decide,func188.trans (congrArg some (by kernel_rfl))⟩
  f8:=func189.trans (congrArg some (by kernel_rfl))
  f10:=⟨f193.name,by decide,func193.trans (congrArg some (by kernel_rfl))⟩
  f11:=⟨f194.name,by decide,func194.trans (congrArg some (by kernel_rfl))⟩
  f12:=⟨f195.name,by decide,func195.trans (congrArg some (by kernel_rfl))⟩
  f13:=⟨f196.name,by decide,func196.trans (congrArg some (by kernel_rfl))⟩
  f14:=⟨f197.name,by decide,func197.trans (congrArg some (by kernel_rfl))⟩
  f15:=⟨f198.name,by decide,func198.trans (congrArg some (by kernel_rfl))⟩
  f16:=⟨f199.name,by decide,func199.trans (congrArg some (by kernel_rfl))⟩
  f17:=⟨f200.name,by decide,func200.trans (congrArg some (by kernel_rfl))⟩
  f18:=⟨f201.name,by decide,func201.trans (congrArg some (by kernel_rfl))⟩
  f19:=func202.trans (congrArg some (by kernel_rfl))
  f20:=func203.trans (congrArg some (by kernel_rfl))
  f30:=⟨f205.name,by decide,func205.trans (congrArg some (by kernel_rfl))⟩
  f31:=func206.trans (congrArg some (by kernel_rfl))
  f32:=func207.trans (congrArg some (by kernel_rfl))
  f33:=⟨f208.name,by decide,func208.trans (congrArg some (by kernel_rfl))⟩
  f34:=⟨f209.name,by decide,func209.trans (congrArg some (by kernel_rfl))⟩
  f35:=⟨f210.name,by decide,func210.trans (congrArg some (by kernel_rfl))⟩
  f40:=⟨f211.name,by decide,func211.trans (congrArg some (by kernel_rfl))⟩
  t0:=underlying0
  a0:=isAgg0
  z0:=sizeOf0
  v0:=zeroValue0
  t3:=underlying3
  a3:=isAgg3
  z3:=sizeOf3
  v3:=zeroValue3
  t4:=underlying4
  a4:=isAgg4
  z4:=sizeOf4
  v4:=zeroValue4
  t5:=underlying5
  a5:=isAgg5
  z5:=sizeOf5
  v5:=zeroValue5
  t9:=underlying9
  a9:=isAgg9
  z9:=sizeOf9
  v9:=zeroValue9
  t22:=underlying22
  a22:=isAgg22
  z22:=sizeOf22
  v22:=zeroValue22
  t23:=underlying22
  a23:=isAgg22
  z23:=sizeOf22
  v23:=zeroValue22
  t25:=underlying3
  a25:=isAgg3
  z25:=sizeOf3
  v25:=zeroValue3
  t32:=underlying141
  a32:=isAgg141
  z32:=sizeOf141
  v32:=zeroValue141
  t35:=underlying273
  a35:=isAgg273
  z35:=sizeOf273
  v35:=zeroValue273
  t36:=underlying274
  a36:=isAgg274
  z36:=sizeOf274
  v36:=zeroValue274
  t41:=underlying211
  a41:=isAgg211
  z41:=sizeOf211
  v41:=zeroValue211
  t44:=underlying280
  a44:=isAgg280
  z44:=sizeOf280
  v44:=zeroValue280
  t46:=underlying282
  a46:=isAgg282
  z46:=sizeOf282
  v46:=zeroValue282
  t53:=underlying284
  a53:=isAgg284
  z53:=sizeOf284
  v53:=zeroValue284
  t57:=underlying288
  a57:=isAgg288
  z57:=sizeOf288
  v57:=zeroValue288
  t63:=underlying290
  a63:=isAgg290
  z63:=sizeOf290
  v63:=zeroValue290
  t64:=underlying76
  a64:=isAgg76
  z64:=sizeOf76
  v64:=zeroValue76}
