/-
  Layers 0 to 14: helps of the laws of indexes. No statement is proved here; no condition.
-/
import Derived.Test.YtmppeipgjcjdkaaGreatDoorCards
import Derived.SevenTiedAt
import Derived.ProofKit
namespace Go.Proofs.YtmppeipgjcjdkaaGreatDoor.lawStateBeside
open Go.RowKit
theorem hv3:(Rows.stateBesideRow.recurses == Tryz.pinned.checked.prog.recurses 3)=true:=by kernel_rfl
theorem hv4:(Rows.stateBesideRow.named == Tryz.pinned.checked.prog.varsNamed 3)=true:=by kernel_rfl
end Go.Proofs.YtmppeipgjcjdkaaGreatDoor.lawStateBeside
