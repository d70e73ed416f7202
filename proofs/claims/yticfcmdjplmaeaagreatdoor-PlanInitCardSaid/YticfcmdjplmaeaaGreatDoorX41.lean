/-
  Layers 0 to 14: helps of the laws of indexes. No statement is proved here; no condition.
-/
import Derived.Test.YticfcmdjplmaeaaGreatDoorCards
import Derived.SevenTiedAt
import Derived.ProofKit
set_option maxRecDepth 100000
set_option maxHeartbeats 64000000
namespace Go.Proofs.YticfcmdjplmaeaaGreatDoor.lawPlanInit
open Go.RowKit
theorem hv6:false=Rows.planInitRow.goesBy Tryz.pinned.checked.prog:=by kernel_rfl
theorem hv7:true=Tryz.pinned.checked.prog.looks []:=by kernel_rfl
end Go.Proofs.YticfcmdjplmaeaaGreatDoor.lawPlanInit
