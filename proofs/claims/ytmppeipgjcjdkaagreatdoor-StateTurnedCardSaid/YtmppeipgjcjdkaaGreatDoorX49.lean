/-
  Layers 0 to 14: helps of the laws of indexes. No statement is proved here; no condition.
-/
import Derived.Test.YtmppeipgjcjdkaaGreatDoorX47
import Derived.Test.YtmppeipgjcjdkaaGreatDoorX48
import Derived.Test.YtmppeipgjcjdkaaGreatDoorCards
import Derived.SevenTiedAt
import Derived.ProofKit
namespace Go.Proofs.YtmppeipgjcjdkaaGreatDoor.lawStateTurned
open Go.RowKit
theorem hv5:joinedFacts Tryz.pinned.checked.prog 4 Tryz.f4 (OpenSpec.ofChange Rows.stateTurnedSpec).bare Rows.stateTurnedRow=true:=by
 unfold joinedFacts
 rw [hv1,hv2,hv3,hv4]
 refine Eq.trans ?_ rfl
 kernel_rfl
end Go.Proofs.YtmppeipgjcjdkaaGreatDoor.lawStateTurned
