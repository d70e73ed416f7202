/-
  Layers 0 to 14: helps of the laws of indexes. No statement is proved here; no condition.
-/
import Derived.Test.YticfcmdjplmaeaaGreatDoorX42
import Derived.Test.YticfcmdjplmaeaaGreatDoorX43
import Derived.Test.YticfcmdjplmaeaaGreatDoorCards
import Derived.SevenTiedAt
import Derived.ProofKit
set_option maxRecDepth 100000
set_option maxHeartbeats 64000000
namespace Go.Proofs.YticfcmdjplmaeaaGreatDoor.lawPlanInit
open Go.RowKit
theorem hv5:joinedFacts Tryz.pinned.checked.prog 3 Tryz.f3 (OpenSpec.ofChange Rows.planInitSpec).bare Rows.planInitRow=true:=by
 unfold joinedFacts;rw [hv1,hv2,hv3,hv4];refine Eq.trans ?_ rfl
 kernel_rfl
end Go.Proofs.YticfcmdjplmaeaaGreatDoor.lawPlanInit
