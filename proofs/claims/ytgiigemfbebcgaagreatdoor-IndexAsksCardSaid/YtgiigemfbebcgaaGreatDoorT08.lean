/-
  Layers 0 to 14: helps of the laws of indexes. No statement is proved here; no condition.
-/
import Derived.Shelf.SlSortCmp.InsertionK
import Derived.Ground.SlsfProg
import Derived.Test.YtgiigemfbebcgaaGreatDoorProg
namespace Go.Proofs
open Go.Shelf
def Tryz.insNd_ren:Go.Shelf.Ren:=⟨fun | 20=>113 | n=>n,fun | 24=>81 | 22=>44 | 3=>3 | 25=>88 | 4=>4 | 0=>0 | n=>n,fun | n=>n⟩
theorem Tryz.insNd:Go.Proofs.SlLaysF0.n20 Tryz.prog Tryz.insNd_ren:={
 mixed:=by kernel_rfl
 f20:=⟨Tryz.f113.name,by decide,Tryz.func113.trans (congrArg some (by kernel_rfl))⟩
 t0:=Tryz.underlying0
 a0:=Tryz.isAgg0
 z0:=Tryz.sizeOf0
 v0:=Tryz.zeroValue0
 t3:=Tryz.underlying3
 a3:=Tryz.isAgg3
 z3:=Tryz.sizeOf3
 v3:=Tryz.zeroValue3
 t4:=Tryz.underlying4
 a4:=Tryz.isAgg4
 z4:=Tryz.sizeOf4
 v4:=Tryz.zeroValue4
 t22:=Tryz.underlying44
 a22:=Tryz.isAgg44
 z22:=Tryz.sizeOf44
 v22:=Tryz.zeroValue44
 t25:=Tryz.underlying88
 a25:=Tryz.isAgg88
 z25:=Tryz.sizeOf88
 v25:=Tryz.zeroValue88 }
def Tryz.insVr_ren:Go.Shelf.Ren:=⟨fun | 20=>127 | n=>n,fun | 24=>40 | 22=>53 | 3=>3 | 25=>65 | 4=>4 | 0=>0 | n=>n,fun | n=>n⟩
theorem Tryz.insVr:Go.Proofs.SlLaysF0.n20 Tryz.prog Tryz.insVr_ren:={
 mixed:=by kernel_rfl
 f20:=⟨Tryz.f127.name,by decide,Tryz.func127.trans (congrArg some (by kernel_rfl))⟩
 t0:=Tryz.underlying0
 a0:=Tryz.isAgg0
 z0:=Tryz.sizeOf0
 v0:=Tryz.zeroValue0
 t3:=Tryz.underlying3
 a3:=Tryz.isAgg3
 z3:=Tryz.sizeOf3
 v3:=Tryz.zeroValue3
 t4:=Tryz.underlying4
 a4:=Tryz.isAgg4
 z4:=Tryz.sizeOf4
 v4:=Tryz.zeroValue4
 t22:=Tryz.underlying53
 a22:=Tryz.isAgg53
 z22:=Tryz.sizeOf53
 v22:=Tryz.zeroValue53
 t25:=Tryz.underlying65
 a25:=Tryz.isAgg65
 z25:=Tryz.sizeOf65
 v25:=Tryz.zeroValue65 }
end Go.Proofs
