/-
  Layers 0 to 14: helps of the laws of indexes. No statement is proved here; no condition.
-/
import Derived.Shelf.SlSortCmp.InsertionK
import Derived.Ground.SlsfProg
import Derived.Test.YtmppeipgjcjdkaaGreatDoorProg
namespace Go.Proofs
open Go.Shelf
def Tryz.insNd_ren:Go.Shelf.Ren:=⟨fun | 20=>223 | n=>n,fun | 24=>113 | 22=>102 | 3=>3 | 25=>187 | 4=>4 | 0=>0 | n=>n,fun | n=>n⟩
theorem Tryz.insNd:Go.Proofs.SlLaysF0.n20 Tryz.prog Tryz.insNd_ren:={
 mixed:=by kernel_rfl
 f20:=⟨Tryz.f223.name,by decide,Tryz.func223.trans (congrArg some (by kernel_rfl))⟩
 t0:=Tryz.underlying0
 a0:=Tryz.isAgg0
 z0:=Tryz.sizeOf0
 v0:=Tryz.zeroValue0
 t3:=Tryz.underlying3
 a3:=Tryz.isAgg3
 z3:=Tryz.sizeOf3
 v3:=Tryz.zeroValue3
 t4:=Tryz.underlying4
 a4:=Tryz.isAgg4
 z4:=Tryz.sizeOf4
 v4:=Tryz.zeroValue4
 t22:=Tryz.underlying102
 a22:=Tryz.isAgg102
 z22:=Tryz.sizeOf102
 v22:=Tryz.zeroValue102
 t25:=Tryz.underlying187
 a25:=Tryz.isAgg187
 z25:=Tryz.sizeOf187
 v25:=Tryz.zeroValue187 }
end Go.Proofs
