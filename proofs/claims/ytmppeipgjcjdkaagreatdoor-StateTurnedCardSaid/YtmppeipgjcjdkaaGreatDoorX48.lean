/-
  Layers 0 to 14: helps of the laws of indexes. No statement is proved here; no condition.
-/
import Derived.Test.YtmppeipgjcjdkaaGreatDoorCards
import Derived.SevenTiedAt
import Derived.ProofKit
namespace Go.Proofs.YtmppeipgjcjdkaaGreatDoor.lawStateTurned
open Go.RowKit
theorem hv3:(Rows.stateTurnedRow.recurses == Tryz.pinned.checked.prog.recurses 4)=true:=by kernel_rfl
theorem hv4:(Rows.stateTurnedRow.named == Tryz.pinned.checked.prog.varsNamed 4)=true:=by kernel_rfl
end Go.Proofs.YtmppeipgjcjdkaaGreatDoor.lawStateTurned
