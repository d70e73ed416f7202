/-
  Layers 0 to 14: helps of the laws of indexes. No statement is proved here; no condition.
-/
import Derived.Test.YticfcmdjplmaeaaGreatDoorCards
import Derived.SevenTiedAt
import Derived.ProofKit
set_option maxRecDepth 100000
set_option maxHeartbeats 64000000
namespace Go.Proofs.YticfcmdjplmaeaaGreatDoor.lawPlanInit
open Go.RowKit
theorem hv1:(Rows.planInitRow.inPlace == Tryz.pinned.checked.prog.inPlace 3)=true:=by kernel_rfl
theorem hv2:(Rows.planInitRow.unfollowed == Tryz.pinned.checked.prog.unfollowed 3)=true:=by kernel_rfl
end Go.Proofs.YticfcmdjplmaeaaGreatDoor.lawPlanInit
