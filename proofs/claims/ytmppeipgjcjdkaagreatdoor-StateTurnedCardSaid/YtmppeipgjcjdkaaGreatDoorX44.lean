/-
  Layers 0 to 14: helps of the laws of indexes. No statement is proved here; no condition.
-/
import Derived.Test.YtmppeipgjcjdkaaGreatDoorX43
import Derived.ChangeSlices
import Derived.OpenShut
import Derived.ProofKit
import Derived.ChangeOld
namespace Go.Proofs.YtmppeipgjcjdkaaGreatDoor
open _root_.Go.Proofs.Tryz
open Go.ChangeShapes Go.WideShapes Go.ChangeAt Go.RowKit
theorem byteT (x:Int) (h:(Lit.int .u8 x).wf=true):∃ n:Nat,x=(n:Int)/\n < 256:=by
 have h2:=bounds_u8 h
 exact ⟨x.toNat,by omega,by omega⟩
theorem turned_top {w:World} (aa:Option Addr) (alen acap:Nat) (ar:List UInt8) (ha:SvX w No (.slice aa alen acap) ar.length (bv ar)) (x:Int) (hx:(Lit.int .u8 x).wf=true) (hgl:Gl w) :
  Calls prog 4 #[.slice aa alen acap,.int .u8 x] w fun e w'=>e=.returned (.bool true)/\Mod No w w':=by
 obtain ⟨a,rfl,h⟩:=byteT x hx
 exact turned_walk ar a h _ w ha hgl
end Go.Proofs.YtmppeipgjcjdkaaGreatDoor
