/-
  Layers 0 to 14: helps of the laws of indexes. No statement is proved here; no condition.
-/
import Derived.Test.YticfcmdjplmaeaaGreatDoorX39
import Derived.Test.YticfcmdjplmaeaaGreatDoorX28
import Derived.Test.YticfcmdjplmaeaaGreatDoorX17
import Derived.Test.YticfcmdjplmaeaaGreatDoorRows
import Derived.Lib.LaidIn
import Derived.Lib.LaidTab
import Derived.LaidHandle
import Derived.Stop.LaidErr
import Derived.Deep.DeepHandedRow
import Derived.Deep.DeepWitnessRowRef
import Derived.LaidLaws
import Derived.ProofKit
set_option maxRecDepth 100000
set_option maxHeartbeats 64000000
namespace Go.Proofs.YticfcmdjplmaeaaGreatDoor
open _root_.Go.Proofs.Tryz
open Go.RowKit
theorem planinit_top {w:World} (n:ByteArray) (_:n.size<=maxLen) (v:ByteArray) (_:v.size<=maxLen) (m:ByteArray) (_:m.size<=maxLen) (hgl:Gl w) (herr:ErrTy w) (htab:TabOk w) :
  Calls prog 3 #[.string n,.string v,.string m] w fun e w'=>e=.returned (.bool true)/\Mod No w w':=by
 have h:=planinit_any n.data.toList v.data.toList m.data.toList w hgl herr htab;have e1:∀ s:ByteArray,strV s.data.toList=.string s:=fun s=>rfl
 rw [e1,e1,e1] at h;exact h
def flatD {H:Type}:Nat->DataW H->List Value
 | n+1,.agg ps=>ps.flatMap (flatD n)
 | _+1,.lit (.int k x)=>[.int k x]
 | _,_=>[]
noncomputable def laidWorldH (os:Os):World :=
 let N:=(World.settled prog os).heap.size
 let w0:=World.holding prog os ⟨#[
  .cells #[.string ⟨#[118,97,108,117,101,32,111,117,116,32,111,102,32,114,97,110,103,101]⟩] 409,.cells #[.string ⟨#[105,110,118,97,108,105,100,32,115,121,110,116,97,120]⟩] 409],#[],[]⟩
 let put (h:Array Obj) (g:Nat) (cs:Array Value):Array Obj:=h.modify g fun
  | .cells _ t frozen=>.cells cs t frozen
  | o=>o
 let h0:=put (put w0.heap 4 #[.iface 407 (.pointer (some ⟨N,0,none⟩))]) 3 #[.iface 407 (.pointer (some ⟨N+1,0,none⟩))]
 let h1:=put (put h0 7 (flatD (H:=Unit) 4 Rows.laid_math_bits_deBruijn32tab).toArray) 8 (flatD (H:=Unit) 4 Rows.laid_math_bits_deBruijn64tab).toArray
 let h2:=put (put h1 1 (flatD (H:=Unit) 4 Rows.laid_internal_strconv_uint64pow10).toArray) 6 (flatD (H:=Unit) 4 Rows.laid_unicode_utf8_acceptRanges).toArray
 let h3:=put h2 5 (flatD 4 Rows.laid_unicode_utf8_first).toArray
 let h4:=put h3 0 #[.iface 217 (.agg #[.pointer (some ⟨9,29,none⟩)])]
 { w0 with heap:=h4 }
noncomputable abbrev N0:Nat:=(World.settled prog default).heap.size
abbrev laidLT : List (String × DataW Unit) := [("math/bits.deBruijn32tab", Rows.laid_math_bits_deBruijn32tab), ("math/bits.deBruijn64tab", Rows.laid_math_bits_deBruijn64tab), ("internal/strconv.uint64pow10", Rows.laid_internal_strconv_uint64pow10), ("unicode/utf8.acceptRanges", Rows.laid_unicode_utf8_acceptRanges), ("strconv.ErrRange", Rows.laid_strconv_ErrRange), ("strconv.ErrSyntax", Rows.laid_strconv_ErrSyntax), ("unicode/utf8.first", Rows.laid_unicode_utf8_first)]
abbrev laidLH : List (String × DataW Unit) := [("math/bits.deBruijn32tab", Rows.laid_math_bits_deBruijn32tab), ("math/bits.deBruijn64tab", Rows.laid_math_bits_deBruijn64tab), ("internal/strconv.uint64pow10", Rows.laid_internal_strconv_uint64pow10), ("unicode/utf8.acceptRanges", Rows.laid_unicode_utf8_acceptRanges), ("errors.errorType", Rows.laid_errors_errorType), ("strconv.ErrRange", Rows.laid_strconv_ErrRange), ("strconv.ErrSyntax", Rows.laid_strconv_ErrSyntax), ("unicode/utf8.first", Rows.laid_unicode_utf8_first)]
theorem laid_split : (laidLH.filter fun x => x.2.handleName?.isNone) = laidLT /\ (laidLH.filter fun x => x.2.handleName?.isSome) = [("errors.errorType", Rows.laid_errors_errorType)] := ⟨rfl, rfl⟩
set_option maxRecDepth 1000000 in
theorem laid_metH (os:Os) (args:Array Value):laidMetH prog laidLH ((laidWorldH os).forCall (fun _ _=>0) ⟨#[],args,[]⟩).memory :=
 laidMetH_of_parts (by
  rw [laid_split.1];exact (LaidIn.of_run [1,5,6,7,8,3,4,N0,N0+1] 10 (by kernel_rfl) (by kernel_rfl) (by kernel_rfl) (by kernel_rfl)).met) (by kernel_rfl)
theorem err_glob : prog.globalNamed "errors.errorType" = some 0 := by kernel_rfl
theorem err_rtype : (prog.cutTypes.find? (·.1 == "internal/reflectlite.rtype")).map (·.2) = some 217 := by kernel_rfl
theorem err_row:((List.range prog.types.size).filter fun t=>prog.rowNamed t [101,114,114,111,114])=[29]:=by kernel_rfl
theorem err_handle:typeHandle prog 29=.pointer (some ⟨9,29,none⟩):=by kernel_rfl
theorem laid_parts {W : World} (h : laidMetH prog laidLH W) : laidMet prog laidLT W /\ handlesMet prog [("errors.errorType", Rows.laid_errors_errorType)] W := by
 unfold laidMetH at h;rw [laid_split.2] at h;have h2:=h;dsimp only at h2;rw [laid_split.1] at h2;exact h2
theorem err_of {W:World} (h:laidMetH prog laidLH W):ErrTy W:=by
 obtain ⟨name,u,ty,e1,e2,e3,e4,e5⟩:=(laid_parts h).2 _ (List.mem_singleton.2 rfl);have en:name=[101,114,114,111,114]:=(Option.some.inj e1).symm;subst en;obtain rfl:=Option.some.inj (err_rtype.symm.trans e2);have hm:ty ∈ (List.range prog.types.size).filter fun t=>prog.rowNamed t [101,114,114,111,114]:=List.mem_filter.2 ⟨List.mem_range.2 e3,e4⟩
 rw [err_row] at hm;obtain rfl:=List.mem_singleton.1 hm;rw [err_handle] at e5;unfold ErrTy;simpa using World.var?_cell err_glob e5 0
theorem tab_of {W:World} (h:laidMetH prog laidLH W):TabOk W :=
 Lib.tabIs_of_head (g:=1) (by kernel_rfl) (show (prog.globals[1]?).map (·.type)=some 372 by kernel_rfl) underlying372 underlying173 (by kernel_rfl) (by kernel_rfl) (laid_parts h).1.tail.tail
end Go.Proofs.YticfcmdjplmaeaaGreatDoor
