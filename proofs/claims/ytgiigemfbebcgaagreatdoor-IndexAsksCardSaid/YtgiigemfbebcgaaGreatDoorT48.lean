/-
  Layers 0 to 14: helps of the laws of indexes. No statement is proved here; no condition.
-/
import Derived.Test.YtgiigemfbebcgaaGreatDoorRows
import Derived.Lib.LaidIn
import Derived.Deep.DeepHandedRow
import Derived.Deep.DeepWitnessRowRef
import Derived.LaidLaws
import Derived.ProofKit
namespace Go.Proofs.YtgiigemfbebcgaaGreatDoor
open Go.RowKit
/-- The cells of a table. -/
def flatD {H:Type}:Nat->DataW H->List Value
 | n+1,.agg ps=>ps.flatMap (flatD n)
 | _+1,.lit (.int k x)=>[.int k x]
 | _,_=>[]
noncomputable def laidWorld (os:Os):World :=
 let N:=(World.settled Tryz.prog os).heap.size
 let w0:=World.holding Tryz.prog os ⟨#[
  .cells #[.string ⟨#[118,97,108,117,101,32,111,117,116,32,111,102,32,114,97,110,103,101]⟩] 255,.cells #[.string ⟨#[105,110,118,97,108,105,100,32,115,121,110,116,97,120]⟩] 255],#[],[]⟩
 let put (h:Array Obj) (g:Nat) (cs:Array Value):Array Obj:=h.modify g fun
  | .cells _ t frozen=>.cells cs t frozen
  | o=>o
 let h0:=put (put w0.heap 7 #[.iface 253 (.pointer (some ⟨N,0,none⟩))]) 6 #[.iface 253 (.pointer (some ⟨N+1,0,none⟩))]
 let h1:=put (put h0 4 (flatD (H:=Unit) 4 Rows.laid_math_bits_deBruijn32tab).toArray) 5 (flatD (H:=Unit) 4 Rows.laid_math_bits_deBruijn64tab).toArray
 let h2:=put (put h1 1 (flatD (H:=Unit) 4 Rows.laid_internal_strconv_uint64pow10).toArray) 3 (flatD (H:=Unit) 4 Rows.laid_unicode_utf8_acceptRanges).toArray
 let h3:=put h2 2 (flatD 4 Rows.laid_unicode_utf8_first).toArray
 { w0 with heap:=h3 }
noncomputable abbrev N0:Nat:=(World.settled Tryz.prog default).heap.size
set_option maxRecDepth 1000000 in
theorem laid_met (os:Os) (args:Array Value):laidMet Tryz.prog Rows.indexSpoiltRow.laid ((laidWorld os).forCall (fun _ _=>0) ⟨#[],args,[]⟩).memory :=
 (LaidIn.of_run [1,2,3,4,5,6,7,N0,N0+1] 10 (by kernel_rfl) (by kernel_rfl) (by kernel_rfl) (by kernel_rfl)).met
end Go.Proofs.YtgiigemfbebcgaaGreatDoor
