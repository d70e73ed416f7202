/-
  Layers 0 to 14: helps of the laws of indexes. No statement is proved here; no condition.
-/
import Derived.Test.YtmppeipgjcjdkaaGreatDoorW50
import Derived.Test.YtmppeipgjcjdkaaGreatDoorW51
import Derived.Test.YtmppeipgjcjdkaaGreatDoorCards
import Derived.SevenTiedAt
import Derived.ProofKit
namespace Go.Proofs.YtmppeipgjcjdkaaGreatDoor.lawStateSaves
open Go.RowKit
theorem hv5:joinedFacts Tryz.pinned.checked.prog 5 Tryz.f5 (OpenSpec.ofChange Rows.stateSavesSpec).bare Rows.stateSavesRow=true:=by
 unfold joinedFacts
 rw [hv1,hv2,hv3,hv4]
 refine Eq.trans ?_ rfl
 kernel_rfl
end Go.Proofs.YtmppeipgjcjdkaaGreatDoor.lawStateSaves
