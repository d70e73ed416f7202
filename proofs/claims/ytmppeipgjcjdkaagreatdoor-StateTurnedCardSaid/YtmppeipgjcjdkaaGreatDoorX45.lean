/-
  Layers 0 to 14: helps of the laws of indexes. No statement is proved here; no condition.
-/
import Derived.Test.YtmppeipgjcjdkaaGreatDoorRows
import Derived.Lib.LaidIn
import Derived.Deep.DeepHandedRow
import Derived.Deep.DeepWitnessRowRef
import Derived.LaidLaws
import Derived.ProofKit
namespace Go.Proofs.YtmppeipgjcjdkaaGreatDoor
open Go.RowKit
/-- The cells of a table. -/
def flatD {H:Type}:Nat->DataW H->List Value
 | n+1,.agg ps=>ps.flatMap (flatD n)
 | _+1,.lit (.int k x)=>[.int k x]
 | _,_=>[]
noncomputable def laidWorld (os:Os):World :=
 let N:=(World.settled Tryz.prog os).heap.size
 let w0:=World.holding Tryz.prog os ⟨#[
  .cells #[.string ⟨#[118,97,108,117,101,32,111,117,116,32,111,102,32,114,97,110,103,101]⟩] 408,.cells #[.string ⟨#[105,110,118,97,108,105,100,32,115,121,110,116,97,120]⟩] 408],#[],[]⟩
 let put (h:Array Obj) (g:Nat) (cs:Array Value):Array Obj:=h.modify g fun
  | .cells _ t frozen=>.cells cs t frozen
  | o=>o
 let h0:=put (put w0.heap 4 #[.iface 406 (.pointer (some ⟨N,0,none⟩))]) 3 #[.iface 406 (.pointer (some ⟨N+1,0,none⟩))]
 let h1:=put (put h0 6 (flatD (H:=Unit) 4 Rows.laid_math_bits_deBruijn32tab).toArray) 7 (flatD (H:=Unit) 4 Rows.laid_math_bits_deBruijn64tab).toArray
 let h2:=put (put h1 5 (flatD (H:=Unit) 4 Rows.laid_internal_strconv_uint64pow10).toArray) 2 (flatD (H:=Unit) 4 Rows.laid_unicode_utf8_acceptRanges).toArray
 let h3:=put h2 1 (flatD 4 Rows.laid_unicode_utf8_first).toArray
 { w0 with heap:=h3 }
noncomputable abbrev N0:Nat:=(World.settled Tryz.prog default).heap.size
/-- The listed tables. -/
abbrev laidL : List (String × DataW Unit) := [("math/bits.deBruijn32tab", Rows.laid_math_bits_deBruijn32tab), ("math/bits.deBruijn64tab", Rows.laid_math_bits_deBruijn64tab), ("internal/strconv.uint64pow10", Rows.laid_internal_strconv_uint64pow10), ("unicode/utf8.acceptRanges", Rows.laid_unicode_utf8_acceptRanges), ("strconv.ErrRange", Rows.laid_strconv_ErrRange), ("strconv.ErrSyntax", Rows.laid_strconv_ErrSyntax), ("unicode/utf8.first", Rows.laid_unicode_utf8_first)]
set_option maxRecDepth 1000000 in
theorem laid_met (os:Os) (args:Array Value):laidMet Tryz.prog laidL ((laidWorld os).forCall (fun _ _=>0) ⟨#[],args,[]⟩).memory :=
 (LaidIn.of_run [5,1,2,6,7,3,4,N0,N0+1] 10 (by kernel_rfl) (by kernel_rfl) (by kernel_rfl) (by kernel_rfl)).met
end Go.Proofs.YtmppeipgjcjdkaaGreatDoor
