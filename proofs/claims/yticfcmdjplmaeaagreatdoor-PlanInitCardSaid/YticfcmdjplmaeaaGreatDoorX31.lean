/-
  Layers 0 to 14: helps of the laws of indexes. No statement is proved here; no condition.
-/
import Derived.Shelf.SlSortCmp.Insertion1
import Derived.Ground.SlsfProg
import Derived.Test.YticfcmdjplmaeaaGreatDoorProg
set_option maxRecDepth 100000
set_option maxHeartbeats 64000000
namespace Go.Proofs
open Go.Shelf
def Tryz.insIntJ_ren:Go.Shelf.Ren:=⟨fun | 20=>300 | n=>n,fun | 24=>3 | 22=>60 | 3=>3 | 25=>191 | 4=>4 | 0=>0 | n=>n,fun | n=>n⟩
theorem Tryz.insIntJ:Go.Proofs.SlLaysF.n20 prog Tryz.insIntJ_ren:={
 mixed:=by kernel_rfl
 f20:=⟨Tryz.f300.name,by decide,func300.trans (congrArg some (by kernel_rfl))⟩
 t0:=underlying0
 a0:=isAgg0
 z0:=sizeOf0
 v0:=zeroValue0
 t3:=underlying3
 a3:=isAgg3
 z3:=sizeOf3
 v3:=zeroValue3
 t4:=underlying4
 a4:=isAgg4
 z4:=sizeOf4
 v4:=zeroValue4
 t22:=underlying60
 a22:=isAgg60
 z22:=sizeOf60
 v22:=zeroValue60
 a24:=isAgg3
 z24:=sizeOf3
 t25:=underlying191
 a25:=isAgg191
 z25:=sizeOf191
 v25:=zeroValue191 }
end Go.Proofs
