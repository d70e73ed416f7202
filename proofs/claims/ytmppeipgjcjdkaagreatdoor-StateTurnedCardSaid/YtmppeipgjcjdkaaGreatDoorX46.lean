/-
  Layers 0 to 14: helps of the laws of indexes. No statement is proved here; no condition.
-/
import Derived.Test.YtmppeipgjcjdkaaGreatDoorCards
import Derived.SevenTiedAt
import Derived.ProofKit
namespace Go.Proofs.YtmppeipgjcjdkaaGreatDoor.lawStateTurned
open Go.RowKit
theorem hv6:false=Rows.stateTurnedRow.goesBy Tryz.pinned.checked.prog:=by kernel_rfl
theorem hv7:true=Tryz.pinned.checked.prog.looks []:=by kernel_rfl
end Go.Proofs.YtmppeipgjcjdkaaGreatDoor.lawStateTurned
